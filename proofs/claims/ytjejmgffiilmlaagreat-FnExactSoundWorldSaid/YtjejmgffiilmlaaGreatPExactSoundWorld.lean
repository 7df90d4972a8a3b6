/- Functions of the program, told as functions of numbers, texts and lists, and what each comes to. No condition but those that each states. -/
import Derived.Test.YtjejmgffiilmlaaGreatLib
set_option linter.unusedVariables false
set_option linter.unusedSimpArgs false
set_option maxRecDepth 100000
namespace Go.FG
abbrev F_riii (R : Type) := Row -> Int -> Int -> Int -> Option R
abbrev F_siis (R : Type) := ByteArray -> Int -> Int -> ByteArray -> Option R
abbrev F_rir (R : Type) := Row -> Int -> Row -> Option R
abbrev F_ri (R : Type) := Row -> Int -> Option R
abbrev F_rrri (R : Type) := Row -> Row -> Row -> Int -> Option R
abbrev F_ssiii (R : Type) := ByteArray -> ByteArray -> Int -> Int -> Int -> Option R
abbrev F_isiiisi (R : Type) := Int -> ByteArray -> Int -> Int -> Int -> ByteArray -> Int -> Option R
abbrev F_irrrrirri (R : Type) := Int -> Row -> Row -> Row -> Row -> Int -> Row -> Row -> Int -> Option R
abbrev F_ssi (R : Type) := ByteArray -> ByteArray -> Int -> Option R
abbrev F_irrrrirrirrr (R : Type) := Int -> Row -> Row -> Row -> Row -> Int -> Row -> Row -> Int -> Row -> Row -> Row -> Option R
abbrev F_bir (R : Type) := Bool -> Int -> Row -> Option R
abbrev F_siir (R : Type) := ByteArray -> Int -> Int -> Row -> Option R
abbrev F_sb (R : Type) := ByteArray -> Bool -> Option R
abbrev F_ir (R : Type) := Int -> Row -> Option R
abbrev F_siiibiii (R : Type) := ByteArray -> Int -> Int -> Int -> Bool -> Int -> Int -> Int -> Option R
abbrev F_iib (R : Type) := Int -> Int -> Bool -> Option R
abbrev F_isii (R : Type) := Int -> ByteArray -> Int -> Int -> Option R
abbrev F_isi (R : Type) := Int -> ByteArray -> Int -> Option R
abbrev F_sib (R : Type) := ByteArray -> Int -> Bool -> Option R
abbrev F_siisb (R : Type) := ByteArray -> Int -> Int -> ByteArray -> Bool -> Option R
abbrev F_risiisr (R : Type) := Row -> Int -> ByteArray -> Int -> Int -> ByteArray -> Row -> Option R
abbrev F_irr (R : Type) := Int -> Row -> Row -> Option R
abbrev F_rbisiis (R : Type) := Row -> Bool -> Int -> ByteArray -> Int -> Int -> ByteArray -> Option R
abbrev F_rsbi (R : Type) := Row -> ByteArray -> Bool -> Int -> Option R
abbrev F_biiri (R : Type) := Bool -> Int -> Int -> Row -> Int -> Option R
abbrev F_biri (R : Type) := Bool -> Int -> Row -> Int -> Option R
abbrev F_birrrir (R : Type) := Bool -> Int -> Row -> Row -> Row -> Int -> Row -> Option R
abbrev F_biirrrrirri (R : Type) := Bool -> Int -> Int -> Row -> Row -> Row -> Row -> Int -> Row -> Row -> Int -> Option R
abbrev F_ibiirrrrirrissiii (R : Type) := Int -> Bool -> Int -> Int -> Row -> Row -> Row -> Row -> Int -> Row -> Row -> Int -> ByteArray -> ByteArray -> Int -> Int -> Int -> Option R
abbrev F_biiirrrrirri (R : Type) := Bool -> Int -> Int -> Int -> Row -> Row -> Row -> Row -> Int -> Row -> Row -> Int -> Option R
abbrev F_biirrrrirrirrrisiiisi (R : Type) := Bool -> Int -> Int -> Row -> Row -> Row -> Row -> Int -> Row -> Row -> Int -> Row -> Row -> Row -> Int -> ByteArray -> Int -> Int -> Int -> ByteArray -> Int -> Option R
abbrev F_biirrrrirrirrr (R : Type) := Bool -> Int -> Int -> Row -> Row -> Row -> Row -> Int -> Row -> Row -> Int -> Row -> Row -> Row -> Option R
abbrev F_biirrrrirrirrrr (R : Type) := Bool -> Int -> Int -> Row -> Row -> Row -> Row -> Int -> Row -> Row -> Int -> Row -> Row -> Row -> Row -> Option R
abbrev F_briir (R : Type) := Bool -> Row -> Int -> Int -> Row -> Option R
abbrev F_rsiii (R : Type) := Row -> ByteArray -> Int -> Int -> Int -> Option R
abbrev F_siiibii (R : Type) := ByteArray -> Int -> Int -> Int -> Bool -> Int -> Int -> Option R
abbrev F_sir (R : Type) := ByteArray -> Int -> Row -> Option R
abbrev F_isiisr (R : Type) := Int -> ByteArray -> Int -> Int -> ByteArray -> Row -> Option R
abbrev F_iirr (R : Type) := Int -> Int -> Row -> Row -> Option R
abbrev F_riiisiis (R : Type) := Row -> Int -> Int -> Int -> ByteArray -> Int -> Int -> ByteArray -> Option R
abbrev F_riir (R : Type) := Row -> Int -> Int -> Row -> Option R
abbrev F_ririi (R : Type) := Row -> Int -> Row -> Int -> Int -> Option R
abbrev F_brriiriiri (R : Type) := Bool -> Row -> Row -> Int -> Int -> Row -> Int -> Int -> Row -> Int -> Option R
abbrev F_briiri (R : Type) := Bool -> Row -> Int -> Int -> Row -> Int -> Option R
abbrev F_biirrrir (R : Type) := Bool -> Int -> Int -> Row -> Row -> Row -> Int -> Row -> Option R
abbrev F_briiirrrrirri (R : Type) := Bool -> Row -> Int -> Int -> Int -> Row -> Row -> Row -> Row -> Int -> Row -> Row -> Int -> Option R
abbrev F_risiiisiiii (R : Type) := Row -> Int -> ByteArray -> Int -> Int -> Int -> ByteArray -> Int -> Int -> Int -> Int -> Option R
abbrev F_briiirrrrirrirrr (R : Type) := Bool -> Row -> Int -> Int -> Int -> Row -> Row -> Row -> Row -> Int -> Row -> Row -> Int -> Row -> Row -> Row -> Option R
abbrev F_briiirrrrirrirrrr (R : Type) := Bool -> Row -> Int -> Int -> Int -> Row -> Row -> Row -> Row -> Int -> Row -> Row -> Int -> Row -> Row -> Row -> Row -> Option R
abbrev F_rrbi (R : Type) := Row -> Row -> Bool -> Int -> Option R
abbrev F_riiii (R : Type) := Row -> Int -> Int -> Int -> Int -> Option R
abbrev F_riiiir (R : Type) := Row -> Int -> Int -> Int -> Int -> Row -> Option R
end Go.FG

namespace Go.FG.U135
def b {R : Type} (kr : Int -> Option R) (a : ByteArray) (d e : Int) (f : ByteArray) (h : Int) : Option R := bif decide (w64 (h - (a.size : Int)) < 0) then kr (-1) else bif decide (w64 (w64 (h - (a.size : Int)) - (f.size : Int)) < 0) then kr (-1) else kr (w64 (w64 (h - (a.size : Int)) - (f.size : Int)))
def v (a0 : ByteArray) (a1 a2 : Int) (a3 : ByteArray) (a4 : Int) : Int := bif decide (w64 (a4 - (a0.size : Int)) < 0) then -1 else bif decide (w64 (w64 (a4 - (a0.size : Int)) - (a3.size : Int)) < 0) then -1 else w64 (w64 (a4 - (a0.size : Int)) - (a3.size : Int))
theorem b_eq {R : Type} (kr : Int -> Option R) (a0 : ByteArray) (a1 a2 : Int) (a3 : ByteArray) (a4 : Int) : b kr a0 a1 a2 a3 a4 = kr (v a0 a1 a2 a3 a4) := by
 first | rfl | (unfold b v; simp only [Bool.cond_eq_ite]; (repeat' split) <;> rfl)
end Go.FG.U135

namespace Go.FG.U44
def r5 {R : Type} (N : Nat) (g k0 k1 : F_riii R) (a : Row) (d e f : Int) : Option R := bif decide (f < (a.length : Int)) then bif decide (0 <= f) && decide (f < (a.length : Int)) then bif decide (U135.v (cvS (cellAt a f.toNat 0)) (cvI (cellAt a f.toNat 1)) (cvI (cellAt a f.toNat (1 + 1))) (cvS (cellAt a f.toNat (1 + 1 + 1))) d < 0) then k0 a (U135.v (cvS (cellAt a f.toNat 0)) (cvI (cellAt a f.toNat 1)) (cvI (cellAt a f.toNat (1 + 1))) (cvS (cellAt a f.toNat (1 + 1 + 1))) d) (-1) f else g a (U135.v (cvS (cellAt a f.toNat 0)) (cvI (cellAt a f.toNat 1)) (cvI (cellAt a f.toNat (1 + 1))) (cvS (cellAt a f.toNat (1 + 1 + 1))) d) e (w64 (f + 1)) else none else k1 a d e f
def l5 {R : Type} (N : Nat) (k0 k1 : F_riii R) : Nat -> F_riii R
 | 0 => fun _ _ _ _ => none
 | n + 1 => r5 N (l5 N k0 k1 n) k0 k1
def b {R : Type} (N : Nat) (kr : Int -> Option R) (a : Row) (d : Int) : Option R := bif decide (w64 (d - (a.length : Int)) < 0) then kr (-1) else l5 N (fun _ _ e _ => kr e) (fun _ f _ _ => kr f) N a (w64 (d - (a.length : Int))) 0 0
def vo := b Lib.big fun r0 => some r0
def c := fun a d => (vo a d).isSome
def v := fun a d => (vo a d).getD (0)
theorem out {x} : ∀ a d, vo a d = some x -> c a d = true /\ v a d = x := fun _ _ => Lib.out_
end Go.FG.U44

namespace Go.FG.U136
def r5 {R : Type} (N : Nat) (g k0 k1 : F_riii R) (a : Row) (d e f : Int) : Option R := bif decide (f < (a.length : Int)) then bif decide (0 <= f) && decide (f < (a.length : Int)) then bif decide (w64 (d - ((cvS (cellAt a f.toNat 0)).size : Int)) < 0) then k0 a (w64 (d - ((cvS (cellAt a f.toNat 0)).size : Int))) (-1) f else g a (w64 (d - ((cvS (cellAt a f.toNat 0)).size : Int))) e (w64 (f + 1)) else none else k1 a d e f
def l5 {R : Type} (N : Nat) (k0 k1 : F_riii R) : Nat -> F_riii R
 | 0 => fun _ _ _ _ => none
 | n + 1 => r5 N (l5 N k0 k1 n) k0 k1
def b {R : Type} (N : Nat) (kr : Int -> Option R) (a : Row) (d : Int) : Option R := bif decide (w64 (d - (a.length : Int)) < 0) then kr (-1) else l5 N (fun _ _ e _ => kr e) (fun _ f _ _ => kr f) N a (w64 (d - (a.length : Int))) 0 0
def vo := b Lib.big fun r0 => some r0
def c := fun a d => (vo a d).isSome
def v := fun a d => (vo a d).getD (0)
theorem out {x} : ∀ a d, vo a d = some x -> c a d = true /\ v a d = x := fun _ _ => Lib.out_
end Go.FG.U136

namespace Go.FG.U110
def b {R : Type} (kr : Int -> Option R) (a : Row) (d : Int) : Option R := bif decide (w64 (d - (a.length : Int)) < 0) then kr (-1) else kr (w64 (d - (a.length : Int)))
def v (a0 : Row) (a1 : Int) : Int := bif decide (w64 (a1 - (a0.length : Int)) < 0) then -1 else w64 (a1 - (a0.length : Int))
theorem b_eq {R : Type} (kr : Int -> Option R) (a0 : Row) (a1 : Int) : b kr a0 a1 = kr (v a0 a1) := by
 first | rfl | (unfold b v; simp only [Bool.cond_eq_ite]; (repeat' split) <;> rfl)
end Go.FG.U110

namespace Go.FG.U214
def r5 {R : Type} (N : Nat) (g k0 k1 : F_riii R) (a : Row) (d e f : Int) : Option R := bif decide (f < (a.length : Int)) then bif decide (0 <= f) && decide (f < (a.length : Int)) then bif decide (U110.v (cvL (cellAt a f.toNat 0)) d < 0) then k0 a (U110.v (cvL (cellAt a f.toNat 0)) d) (-1) f else g a (U110.v (cvL (cellAt a f.toNat 0)) d) e (w64 (f + 1)) else none else k1 a d e f
def l5 {R : Type} (N : Nat) (k0 k1 : F_riii R) : Nat -> F_riii R
 | 0 => fun _ _ _ _ => none
 | n + 1 => r5 N (l5 N k0 k1 n) k0 k1
def b {R : Type} (N : Nat) (kr : Int -> Option R) (a : Row) (d : Int) : Option R := bif decide (w64 (d - (a.length : Int)) < 0) then kr (-1) else l5 N (fun _ _ e _ => kr e) (fun _ f _ _ => kr f) N a (w64 (d - (a.length : Int))) 0 0
def vo := b Lib.big fun r0 => some r0
def c := fun a d => (vo a d).isSome
def v := fun a d => (vo a d).getD (0)
theorem out {x} : ∀ a d, vo a d = some x -> c a d = true /\ v a d = x := fun _ _ => Lib.out_
end Go.FG.U214

namespace Go.FG.U137
def b {R : Type} (kr : Int -> Option R) (a : Row) (d e : Int) : Option R := bif U214.c a e then bif decide (U214.v a e < 0) then kr (-1) else kr (U214.v a e) else none
def vo := b fun r0 => some r0
def c := fun a d e => (vo a d e).isSome
def v := fun a d e => (vo a d e).getD (0)
theorem out {x} : ∀ a d e, vo a d e = some x -> c a d e = true /\ v a d e = x := fun _ _ _ => Lib.out_
end Go.FG.U137

namespace Go.FG.U45
def b {R : Type} (kr : Int -> Option R) (a d e : Row) (f h : Int) : Option R := bif U136.c a h then bif decide (U136.v a h < 0) then kr (-1) else bif U136.c d (U136.v a h) then bif decide (U136.v d (U136.v a h) < 0) then kr (-1) else bif U137.c e f (U136.v d (U136.v a h)) then bif decide (U137.v e f (U136.v d (U136.v a h)) < 0) then kr (-1) else kr (U137.v e f (U136.v d (U136.v a h))) else none else none else none
def vo := b fun r0 => some r0
def c := fun a d e f h => (vo a d e f h).isSome
def v := fun a d e f h => (vo a d e f h).getD (0)
theorem out {x} : ∀ a d e f h, vo a d e f h = some x -> c a d e f h = true /\ v a d e f h = x := fun _ _ _ _ _ => Lib.out_
end Go.FG.U45

namespace Go.FG.U138
def b {R : Type} (kr : Int -> Option R) (a d : ByteArray) (e f h i : Int) : Option R := bif decide (w64 (i - (a.size : Int)) < 0) then kr (-1) else bif decide (w64 (w64 (i - (a.size : Int)) - (d.size : Int)) < 0) then kr (-1) else kr (w64 (w64 (i - (a.size : Int)) - (d.size : Int)))
def v (a0 a1 : ByteArray) (a2 a3 a4 a5 : Int) : Int := bif decide (w64 (a5 - (a0.size : Int)) < 0) then -1 else bif decide (w64 (w64 (a5 - (a0.size : Int)) - (a1.size : Int)) < 0) then -1 else w64 (w64 (a5 - (a0.size : Int)) - (a1.size : Int))
theorem b_eq {R : Type} (kr : Int -> Option R) (a0 a1 : ByteArray) (a2 a3 a4 a5 : Int) : b kr a0 a1 a2 a3 a4 a5 = kr (v a0 a1 a2 a3 a4 a5) := by
 first | rfl | (unfold b v; simp only [Bool.cond_eq_ite]; (repeat' split) <;> rfl)
end Go.FG.U138

namespace Go.FG.U46
def r5 {R : Type} (N : Nat) (g k0 k1 : F_riii R) (a : Row) (d e f : Int) : Option R := bif decide (f < (a.length : Int)) then bif decide (0 <= f) && decide (f < (a.length : Int)) then bif decide (U138.v (cvS (cellAt a f.toNat 0)) (cvS (cellAt a f.toNat 1)) (cvI (cellAt a f.toNat (1 + 1))) (cvI (cellAt a f.toNat (1 + 1 + 1))) (cvI (cellAt a f.toNat (1 + 1 + 1 + 1))) d < 0) then k0 a (U138.v (cvS (cellAt a f.toNat 0)) (cvS (cellAt a f.toNat 1)) (cvI (cellAt a f.toNat (1 + 1))) (cvI (cellAt a f.toNat (1 + 1 + 1))) (cvI (cellAt a f.toNat (1 + 1 + 1 + 1))) d) (-1) f else g a (U138.v (cvS (cellAt a f.toNat 0)) (cvS (cellAt a f.toNat 1)) (cvI (cellAt a f.toNat (1 + 1))) (cvI (cellAt a f.toNat (1 + 1 + 1))) (cvI (cellAt a f.toNat (1 + 1 + 1 + 1))) d) e (w64 (f + 1)) else none else k1 a d e f
def l5 {R : Type} (N : Nat) (k0 k1 : F_riii R) : Nat -> F_riii R
 | 0 => fun _ _ _ _ => none
 | n + 1 => r5 N (l5 N k0 k1 n) k0 k1
def b {R : Type} (N : Nat) (kr : Int -> Option R) (a : Row) (d : Int) : Option R := bif decide (w64 (d - (a.length : Int)) < 0) then kr (-1) else l5 N (fun _ _ e _ => kr e) (fun _ f _ _ => kr f) N a (w64 (d - (a.length : Int))) 0 0
def vo := b Lib.big fun r0 => some r0
def c := fun a d => (vo a d).isSome
def v := fun a d => (vo a d).getD (0)
theorem out {x} : ∀ a d, vo a d = some x -> c a d = true /\ v a d = x := fun _ _ => Lib.out_
end Go.FG.U46

namespace Go.FG.U139
def b {R : Type} (kr : Int -> Option R) (a : Int) (d : ByteArray) (e f h : Int) (i : ByteArray) (j l : Int) : Option R := bif decide (w64 (l - (d.size : Int)) < 0) then kr (-1) else bif decide (w64 (w64 (l - (d.size : Int)) - (i.size : Int)) < 0) then kr (-1) else kr (w64 (w64 (l - (d.size : Int)) - (i.size : Int)))
def v (a0 : Int) (a1 : ByteArray) (a2 a3 a4 : Int) (a5 : ByteArray) (a6 a7 : Int) : Int := bif decide (w64 (a7 - (a1.size : Int)) < 0) then -1 else bif decide (w64 (w64 (a7 - (a1.size : Int)) - (a5.size : Int)) < 0) then -1 else w64 (w64 (a7 - (a1.size : Int)) - (a5.size : Int))
theorem b_eq {R : Type} (kr : Int -> Option R) (a0 : Int) (a1 : ByteArray) (a2 a3 a4 : Int) (a5 : ByteArray) (a6 a7 : Int) : b kr a0 a1 a2 a3 a4 a5 a6 a7 = kr (v a0 a1 a2 a3 a4 a5 a6 a7) := by
 first | rfl | (unfold b v; simp only [Bool.cond_eq_ite]; (repeat' split) <;> rfl)
end Go.FG.U139

namespace Go.FG.U47
def r5 {R : Type} (N : Nat) (g k0 k1 : F_riii R) (a : Row) (d e f : Int) : Option R := bif decide (f < (a.length : Int)) then bif decide (0 <= f) && decide (f < (a.length : Int)) then bif decide (U139.v (cvI (cellAt a f.toNat 0)) (cvS (cellAt a f.toNat 1)) (cvI (cellAt a f.toNat (1 + 1))) (cvI (cellAt a f.toNat (1 + 1 + 1))) (cvI (cellAt a f.toNat (1 + 1 + 1 + 1))) (cvS (cellAt a f.toNat (1 + 1 + 1 + 1 + 1))) (cvI (cellAt a f.toNat (1 + 1 + 1 + 1 + 1 + 1))) d < 0) then k0 a (U139.v (cvI (cellAt a f.toNat 0)) (cvS (cellAt a f.toNat 1)) (cvI (cellAt a f.toNat (1 + 1))) (cvI (cellAt a f.toNat (1 + 1 + 1))) (cvI (cellAt a f.toNat (1 + 1 + 1 + 1))) (cvS (cellAt a f.toNat (1 + 1 + 1 + 1 + 1))) (cvI (cellAt a f.toNat (1 + 1 + 1 + 1 + 1 + 1))) d) (-1) f else g a (U139.v (cvI (cellAt a f.toNat 0)) (cvS (cellAt a f.toNat 1)) (cvI (cellAt a f.toNat (1 + 1))) (cvI (cellAt a f.toNat (1 + 1 + 1))) (cvI (cellAt a f.toNat (1 + 1 + 1 + 1))) (cvS (cellAt a f.toNat (1 + 1 + 1 + 1 + 1))) (cvI (cellAt a f.toNat (1 + 1 + 1 + 1 + 1 + 1))) d) e (w64 (f + 1)) else none else k1 a d e f
def l5 {R : Type} (N : Nat) (k0 k1 : F_riii R) : Nat -> F_riii R
 | 0 => fun _ _ _ _ => none
 | n + 1 => r5 N (l5 N k0 k1 n) k0 k1
def b {R : Type} (N : Nat) (kr : Int -> Option R) (a : Row) (d : Int) : Option R := bif decide (w64 (d - (a.length : Int)) < 0) then kr (-1) else l5 N (fun _ _ e _ => kr e) (fun _ f _ _ => kr f) N a (w64 (d - (a.length : Int))) 0 0
def vo := b Lib.big fun r0 => some r0
def c := fun a d => (vo a d).isSome
def v := fun a d => (vo a d).getD (0)
theorem out {x} : ∀ a d, vo a d = some x -> c a d = true /\ v a d = x := fun _ _ => Lib.out_
end Go.FG.U47

namespace Go.FG.U8
def b {R : Type} (kr : Int -> Option R) (a : Int) (d e f h : Row) (i : Int) (j l : Row) (m o : Int) : Option R := bif U44.c d o then bif decide (U44.v d o < 0) then kr (-1) else bif U45.c e f h i (U44.v d o) then bif decide (U45.v e f h i (U44.v d o) < 0) then kr (-1) else bif U46.c j (U45.v e f h i (U44.v d o)) then bif decide (U46.v j (U45.v e f h i (U44.v d o)) < 0) then kr (-1) else bif U47.c l (U46.v j (U45.v e f h i (U44.v d o))) then bif decide (U47.v l (U46.v j (U45.v e f h i (U44.v d o))) < 0) then kr (-1) else kr (U47.v l (U46.v j (U45.v e f h i (U44.v d o)))) else none else none else none else none
def vo := b fun r0 => some r0
def c := fun a d e f h i j l m o => (vo a d e f h i j l m o).isSome
def v := fun a d e f h i j l m o => (vo a d e f h i j l m o).getD (0)
theorem out {x} : ∀ a d e f h i j l m o, vo a d e f h i j l m o = some x -> c a d e f h i j l m o = true /\ v a d e f h i j l m o = x := fun _ _ _ _ _ _ _ _ _ _ => Lib.out_
end Go.FG.U8

namespace Go.FG.U235
def b {R : Type} (kr : Int -> Option R) (a d : ByteArray) (e f : Int) : Option R := bif decide (w64 (f - (a.size : Int)) < 0) then kr (-1) else bif decide (w64 (w64 (f - (a.size : Int)) - (d.size : Int)) < 0) then kr (-1) else kr (w64 (w64 (f - (a.size : Int)) - (d.size : Int)))
def v (a0 a1 : ByteArray) (a2 a3 : Int) : Int := bif decide (w64 (a3 - (a0.size : Int)) < 0) then -1 else bif decide (w64 (w64 (a3 - (a0.size : Int)) - (a1.size : Int)) < 0) then -1 else w64 (w64 (a3 - (a0.size : Int)) - (a1.size : Int))
theorem b_eq {R : Type} (kr : Int -> Option R) (a0 a1 : ByteArray) (a2 a3 : Int) : b kr a0 a1 a2 a3 = kr (v a0 a1 a2 a3) := by
 first | rfl | (unfold b v; simp only [Bool.cond_eq_ite]; (repeat' split) <;> rfl)
end Go.FG.U235

namespace Go.FG.U193
def r5 {R : Type} (N : Nat) (g k0 k1 : F_riii R) (a : Row) (d e f : Int) : Option R := bif decide (f < (a.length : Int)) then bif decide (0 <= f) && decide (f < (a.length : Int)) then bif decide (U235.v (cvS (cellAt a f.toNat 0)) (cvS (cellAt a f.toNat 1)) (cvI (cellAt a f.toNat (1 + 1))) d < 0) then k0 a (U235.v (cvS (cellAt a f.toNat 0)) (cvS (cellAt a f.toNat 1)) (cvI (cellAt a f.toNat (1 + 1))) d) (-1) f else g a (U235.v (cvS (cellAt a f.toNat 0)) (cvS (cellAt a f.toNat 1)) (cvI (cellAt a f.toNat (1 + 1))) d) e (w64 (f + 1)) else none else k1 a d e f
def l5 {R : Type} (N : Nat) (k0 k1 : F_riii R) : Nat -> F_riii R
 | 0 => fun _ _ _ _ => none
 | n + 1 => r5 N (l5 N k0 k1 n) k0 k1
def b {R : Type} (N : Nat) (kr : Int -> Option R) (a : Row) (d : Int) : Option R := bif decide (w64 (d - (a.length : Int)) < 0) then kr (-1) else l5 N (fun _ _ e _ => kr e) (fun _ f _ _ => kr f) N a (w64 (d - (a.length : Int))) 0 0
def vo := b Lib.big fun r0 => some r0
def c := fun a d => (vo a d).isSome
def v := fun a d => (vo a d).getD (0)
theorem out {x} : ∀ a d, vo a d = some x -> c a d = true /\ v a d = x := fun _ _ => Lib.out_
end Go.FG.U193

namespace Go.FG.U109
def b {R : Type} (kr : Int -> Option R) (a : Row) (d : Int) : Option R := bif U193.c a d then bif decide (U193.v a d < 0) then kr (-1) else kr (U193.v a d) else none
def vo := b fun r0 => some r0
def c := fun a d => (vo a d).isSome
def v := fun a d => (vo a d).getD (0)
theorem out {x} : ∀ a d, vo a d = some x -> c a d = true /\ v a d = x := fun _ _ => Lib.out_
end Go.FG.U109

namespace Go.FG.U31
def b {R : Type} (kr : Int -> Option R) (a : Int) (d e f h : Row) (i : Int) (j l : Row) (m : Int) (o p q : Row) (r : Int) : Option R := bif U8.c a d e f h i j l m r then bif decide (U8.v a d e f h i j l m r < 0) then kr (-1) else bif U109.c o (U8.v a d e f h i j l m r) then bif decide (U109.v o (U8.v a d e f h i j l m r) < 0) then kr (-1) else bif decide (U110.v p (U109.v o (U8.v a d e f h i j l m r)) < 0) then kr (-1) else bif U44.c q (U110.v p (U109.v o (U8.v a d e f h i j l m r))) then bif decide (U44.v q (U110.v p (U109.v o (U8.v a d e f h i j l m r))) < 0) then kr (-1) else kr (U44.v q (U110.v p (U109.v o (U8.v a d e f h i j l m r)))) else none else none else none
def vo := b fun r0 => some r0
def c := fun a d e f h i j l m o p q r => (vo a d e f h i j l m o p q r).isSome
def v := fun a d e f h i j l m o p q r => (vo a d e f h i j l m o p q r).getD (0)
theorem out {x} : ∀ a d e f h i j l m o p q r, vo a d e f h i j l m o p q r = some x -> c a d e f h i j l m o p q r = true /\ v a d e f h i j l m o p q r = x := fun _ _ _ _ _ _ _ _ _ _ _ _ _ => Lib.out_
end Go.FG.U31

namespace Go.FG.U149
def b {R : Type} (kr : F_siis R) (a : ByteArray) (d e : Int) (f : ByteArray) : Option R := kr a d e f
def v (a0 : ByteArray) (a1 a2 : Int) (a3 : ByteArray) : ByteArray × Int × Int × ByteArray := (a0, a1, a2, a3)
theorem b_eq {R : Type} (kr : F_siis R) (a0 : ByteArray) (a1 a2 : Int) (a3 : ByteArray) : b kr a0 a1 a2 a3 = kr ((v a0 a1 a2 a3).1) ((v a0 a1 a2 a3).2.1) ((v a0 a1 a2 a3).2.2.1) ((v a0 a1 a2 a3).2.2.2) := by
 first | rfl | (unfold b v; simp only [Bool.cond_eq_ite]; (repeat' split) <;> rfl)
end Go.FG.U149

namespace Go.FG.U58
def r3 {R : Type} (N : Nat) (g k0 : F_rir R) (a : Row) (d : Int) (e : Row) : Option R := bif decide (d < (a.length : Int)) then bif decide (0 <= d) && decide (d < (a.length : Int)) then bif decide (0 <= d) && decide (d < (e.length : Int)) then g a (w64 (d + 1)) (setC e d.toNat 0 [.s (cvS (cellAt a d.toNat 0)), .i .i64 (cvI (cellAt a d.toNat 1)), .i .i64 (cvI (cellAt a d.toNat (1 + 1))), .s (cvS (cellAt a d.toNat (1 + 1 + 1)))]) else none else none else k0 a d e
def l3 {R : Type} (N : Nat) (k0 : F_rir R) : Nat -> F_rir R
 | 0 => fun _ _ _ => none
 | n + 1 => r3 N (l3 N k0 n) k0
def b {R : Type} (N : Nat) (kr : Row -> Option R) (a : Row) : Option R := bif decide ((a.length : Int) = (a.length : Int)) && roomy (a.length : Int).toNat 48 then l3 N (fun _ _ d => kr d) N a 0 (zeros [Ck.s, Ck.i IntKind.i64, Ck.i IntKind.i64, Ck.s] (a.length : Int).toNat) else none
def vo := b Lib.big fun r0 => some r0
def c := fun a => (vo a).isSome
def v := fun a => (vo a).getD ([])
theorem out {x} : ∀ a, vo a = some x -> c a = true /\ v a = x := fun _ => Lib.out_
end Go.FG.U58

namespace Go.FG.U150
def r3 {R : Type} (N : Nat) (g k0 : F_rir R) (a : Row) (d : Int) (e : Row) : Option R := bif decide (d < (a.length : Int)) then bif decide (0 <= d) && decide (d < (a.length : Int)) then bif decide (0 <= d) && decide (d < (e.length : Int)) then g a (w64 (d + 1)) (setC e d.toNat 0 [.s (cvS (cellAt a d.toNat 0))]) else none else none else k0 a d e
def l3 {R : Type} (N : Nat) (k0 : F_rir R) : Nat -> F_rir R
 | 0 => fun _ _ _ => none
 | n + 1 => r3 N (l3 N k0 n) k0
def b {R : Type} (N : Nat) (kr : Row -> Option R) (a : Row) : Option R := bif decide ((a.length : Int) = (a.length : Int)) && roomy (a.length : Int).toNat 16 then l3 N (fun _ _ d => kr d) N a 0 (zeros [.s] (a.length : Int).toNat) else none
def vo := b Lib.big fun r0 => some r0
def c := fun a => (vo a).isSome
def v := fun a => (vo a).getD ([])
theorem out {x} : ∀ a, vo a = some x -> c a = true /\ v a = x := fun _ => Lib.out_
end Go.FG.U150

namespace Go.FG.U117
def r3 {R : Type} (N : Nat) (g k0 : F_rir R) (a : Row) (d : Int) (e : Row) : Option R := bif decide (d < (a.length : Int)) then bif decide (0 <= d) && decide (d < (a.length : Int)) then bif decide (0 <= d) && decide (d < (e.length : Int)) then g a (w64 (d + 1)) (setC e d.toNat 0 [.i .i64 (cvI (cellAt a d.toNat 0))]) else none else none else k0 a d e
def l3 {R : Type} (N : Nat) (k0 : F_rir R) : Nat -> F_rir R
 | 0 => fun _ _ _ => none
 | n + 1 => r3 N (l3 N k0 n) k0
def b {R : Type} (N : Nat) (kr : Row -> Option R) (a : Row) : Option R := bif decide ((a.length : Int) = (a.length : Int)) && roomy (a.length : Int).toNat 8 then l3 N (fun _ _ d => kr d) N a 0 (zeros [Ck.i IntKind.i64] (a.length : Int).toNat) else none
def v (a0 : Row) : Row := a0.map fun y => [CV.i IntKind.i64 (cvI (y.getD 0 (.b false)))]
def c (a0 : Row) : Bool := decide (a0.length <= 1048576)
theorem b_eq {R : Type} (kr : Row -> Option R) (a0 : Row) (hc : c a0 = true) : ∃ N, b N kr a0 = kr (v a0) := by
 have hl : a0.length <= 1048576 := of_decide_eq_true hc
 refine ⟨a0.length + 1, ?_⟩
 unfold b
 rw [show decide ((a0.length : Int) = (a0.length : Int)) = true by simp, Lib.toN, Lib.roomy_of (by omega) (by omega), Bool.and_self, cond_true]
 refine Lib.fill_run (ks := [Ck.i IntKind.i64]) (v a0) a0.length (by unfold v; simp) (fun y hy => ?_) (fun m (i : Nat) x => l3 (a0.length + 1) (fun _ _ y => kr y) m a0 i x) kr (fun m => ?_) (fun m i hi x hx => ?_)
 ·unfold v at hy; obtain ⟨z, _, rfl⟩ := List.mem_map.1 hy; rfl
 ·simp only [l3, r3, Lib.dlt, Nat.lt_irrefl, decide_false, cond_false]
 ·have hi2 : i < x.length := by omega
  have e : (v a0).getD i [] = [CV.i IntKind.i64 (cvI (cellAt a0 i 0))] := by
   unfold v; simp [List.getD, hi, cellAt]
  simp only [l3, r3, Lib.dlt, Lib.dle0, Lib.toN, hi, hi2, decide_true, Bool.true_and, cond_true, Lib.w64_s hi (by omega), e]
end Go.FG.U117

namespace Go.FG.U216
def r3 {R : Type} (N : Nat) (g k0 : F_rir R) (a : Row) (d : Int) (e : Row) : Option R := bif decide (d < (a.length : Int)) then bif decide (0 <= d) && decide (d < (a.length : Int)) then bif U117.c (cvL (cellAt a d.toNat 0)) then bif decide (0 <= d) && decide (d < (e.length : Int)) then g a (w64 (d + 1)) (setC e d.toNat 0 [CV.l 3 (U117.v (cvL (cellAt a d.toNat 0)))]) else none else none else none else k0 a d e
def l3 {R : Type} (N : Nat) (k0 : F_rir R) : Nat -> F_rir R
 | 0 => fun _ _ _ => none
 | n + 1 => r3 N (l3 N k0 n) k0
def b {R : Type} (N : Nat) (kr : Row -> Option R) (a : Row) : Option R := bif decide ((a.length : Int) = (a.length : Int)) && roomy (a.length : Int).toNat 24 then l3 N (fun _ _ d => kr d) N a 0 (zeros [Ck.l 3] (a.length : Int).toNat) else none
def vo := b Lib.big fun r0 => some r0
def c := fun a => (vo a).isSome
def v := fun a => (vo a).getD ([])
theorem out {x} : ∀ a, vo a = some x -> c a = true /\ v a = x := fun _ => Lib.out_
end Go.FG.U216

namespace Go.FG.U151
def b {R : Type} (kr : F_ri R) (a : Row) (d : Int) : Option R := bif U216.c a then kr (U216.v a) d else none
def vo := b fun r0 r1 => some (r0, r1)
def c := fun a d => (vo a d).isSome
def v := fun a d => (vo a d).getD ([], 0)
theorem out {x} : ∀ a d, vo a d = some x -> c a d = true /\ v a d = x := fun _ _ => Lib.out_
end Go.FG.U151

namespace Go.FG.U59
def b {R : Type} (kr : F_rrri R) (a d e : Row) (f : Int) : Option R := bif U150.c a then bif U150.c d then bif U151.c e f then kr (U150.v a) (U150.v d) (U151.v e f).1 (U151.v e f).2 else none else none else none
def vo := b fun r0 r1 r2 r3 => some (r0, r1, r2, r3)
def c := fun a d e f => (vo a d e f).isSome
def v := fun a d e f => (vo a d e f).getD ([], [], [], 0)
theorem out {x} : ∀ a d e f, vo a d e f = some x -> c a d e f = true /\ v a d e f = x := fun _ _ _ _ => Lib.out_
end Go.FG.U59

namespace Go.FG.U152
def b {R : Type} (kr : F_ssiii R) (a d : ByteArray) (e f h : Int) : Option R := kr a d e f h
def v (a0 a1 : ByteArray) (a2 a3 a4 : Int) : ByteArray × ByteArray × Int × Int × Int := (a0, a1, a2, a3, a4)
theorem b_eq {R : Type} (kr : F_ssiii R) (a0 a1 : ByteArray) (a2 a3 a4 : Int) : b kr a0 a1 a2 a3 a4 = kr ((v a0 a1 a2 a3 a4).1) ((v a0 a1 a2 a3 a4).2.1) ((v a0 a1 a2 a3 a4).2.2.1) ((v a0 a1 a2 a3 a4).2.2.2.1) ((v a0 a1 a2 a3 a4).2.2.2.2) := by
 first | rfl | (unfold b v; simp only [Bool.cond_eq_ite]; (repeat' split) <;> rfl)
end Go.FG.U152

namespace Go.FG.U60
def r3 {R : Type} (N : Nat) (g k0 : F_rir R) (a : Row) (d : Int) (e : Row) : Option R := bif decide (d < (a.length : Int)) then bif decide (0 <= d) && decide (d < (a.length : Int)) then bif decide (0 <= d) && decide (d < (e.length : Int)) then g a (w64 (d + 1)) (setC e d.toNat 0 [.s (cvS (cellAt a d.toNat 0)), .s (cvS (cellAt a d.toNat 1)), .i .i64 (cvI (cellAt a d.toNat (1 + 1))), .i .i64 (cvI (cellAt a d.toNat (1 + 1 + 1))), .i .i64 (cvI (cellAt a d.toNat (1 + 1 + 1 + 1)))]) else none else none else k0 a d e
def l3 {R : Type} (N : Nat) (k0 : F_rir R) : Nat -> F_rir R
 | 0 => fun _ _ _ => none
 | n + 1 => r3 N (l3 N k0 n) k0
def b {R : Type} (N : Nat) (kr : Row -> Option R) (a : Row) : Option R := bif decide ((a.length : Int) = (a.length : Int)) && roomy (a.length : Int).toNat 56 then l3 N (fun _ _ d => kr d) N a 0 (zeros [Ck.s, Ck.s, Ck.i IntKind.i64, Ck.i IntKind.i64, Ck.i IntKind.i64] (a.length : Int).toNat) else none
def vo := b Lib.big fun r0 => some r0
def c := fun a => (vo a).isSome
def v := fun a => (vo a).getD ([])
theorem out {x} : ∀ a, vo a = some x -> c a = true /\ v a = x := fun _ => Lib.out_
end Go.FG.U60

namespace Go.FG.U153
def b {R : Type} (kr : F_isiiisi R) (a : Int) (d : ByteArray) (e f h : Int) (i : ByteArray) (j : Int) : Option R := kr a d e f h i j
def v (a0 : Int) (a1 : ByteArray) (a2 a3 a4 : Int) (a5 : ByteArray) (a6 : Int) : Int × ByteArray × Int × Int × Int × ByteArray × Int := (a0, a1, a2, a3, a4, a5, a6)
theorem b_eq {R : Type} (kr : F_isiiisi R) (a0 : Int) (a1 : ByteArray) (a2 a3 a4 : Int) (a5 : ByteArray) (a6 : Int) : b kr a0 a1 a2 a3 a4 a5 a6 = kr ((v a0 a1 a2 a3 a4 a5 a6).1) ((v a0 a1 a2 a3 a4 a5 a6).2.1) ((v a0 a1 a2 a3 a4 a5 a6).2.2.1) ((v a0 a1 a2 a3 a4 a5 a6).2.2.2.1) ((v a0 a1 a2 a3 a4 a5 a6).2.2.2.2.1) ((v a0 a1 a2 a3 a4 a5 a6).2.2.2.2.2.1) ((v a0 a1 a2 a3 a4 a5 a6).2.2.2.2.2.2) := by
 first | rfl | (unfold b v; simp only [Bool.cond_eq_ite]; (repeat' split) <;> rfl)
end Go.FG.U153

namespace Go.FG.U61
def r3 {R : Type} (N : Nat) (g k0 : F_rir R) (a : Row) (d : Int) (e : Row) : Option R := bif decide (d < (a.length : Int)) then bif decide (0 <= d) && decide (d < (a.length : Int)) then bif decide (0 <= d) && decide (d < (e.length : Int)) then g a (w64 (d + 1)) (setC e d.toNat 0 [.i .i64 (cvI (cellAt a d.toNat 0)), .s (cvS (cellAt a d.toNat 1)), .i .i64 (cvI (cellAt a d.toNat (1 + 1))), .i .i64 (cvI (cellAt a d.toNat (1 + 1 + 1))), .i .i64 (cvI (cellAt a d.toNat (1 + 1 + 1 + 1))), .s (cvS (cellAt a d.toNat (1 + 1 + 1 + 1 + 1))), .i .i64 (cvI (cellAt a d.toNat (1 + 1 + 1 + 1 + 1 + 1)))]) else none else none else k0 a d e
def l3 {R : Type} (N : Nat) (k0 : F_rir R) : Nat -> F_rir R
 | 0 => fun _ _ _ => none
 | n + 1 => r3 N (l3 N k0 n) k0
def b {R : Type} (N : Nat) (kr : Row -> Option R) (a : Row) : Option R := bif decide ((a.length : Int) = (a.length : Int)) && roomy (a.length : Int).toNat 72 then l3 N (fun _ _ d => kr d) N a 0 (zeros [Ck.i IntKind.i64, Ck.s, Ck.i IntKind.i64, Ck.i IntKind.i64, Ck.i IntKind.i64, Ck.s, Ck.i IntKind.i64] (a.length : Int).toNat) else none
def vo := b Lib.big fun r0 => some r0
def c := fun a => (vo a).isSome
def v := fun a => (vo a).getD ([])
theorem out {x} : ∀ a, vo a = some x -> c a = true /\ v a = x := fun _ => Lib.out_
end Go.FG.U61

namespace Go.FG.U10
def b {R : Type} (kr : F_irrrrirri R) (a : Int) (d e f h : Row) (i : Int) (j l : Row) (m : Int) : Option R := bif U58.c d then bif U59.c e f h i then bif U60.c j then bif U61.c l then kr a (U58.v d) (U59.v e f h i).1 (U59.v e f h i).2.1 (U59.v e f h i).2.2.1 (U59.v e f h i).2.2.2 (U60.v j) (U61.v l) m else none else none else none else none
def vo := b fun r0 r1 r2 r3 r4 r5 r6 r7 r8 => some (r0, r1, r2, r3, r4, r5, r6, r7, r8)
def c := fun a d e f h i j l m => (vo a d e f h i j l m).isSome
def v := fun a d e f h i j l m => (vo a d e f h i j l m).getD (0, [], [], [], [], 0, [], [], 0)
theorem out {x} : ∀ a d e f h i j l m, vo a d e f h i j l m = some x -> c a d e f h i j l m = true /\ v a d e f h i j l m = x := fun _ _ _ _ _ _ _ _ _ => Lib.out_
end Go.FG.U10

namespace Go.FG.U243
def b {R : Type} (kr : F_ssi R) (a d : ByteArray) (e : Int) : Option R := kr a d e
def v (a0 a1 : ByteArray) (a2 : Int) : ByteArray × ByteArray × Int := (a0, a1, a2)
theorem b_eq {R : Type} (kr : F_ssi R) (a0 a1 : ByteArray) (a2 : Int) : b kr a0 a1 a2 = kr ((v a0 a1 a2).1) ((v a0 a1 a2).2.1) ((v a0 a1 a2).2.2) := by
 first | rfl | (unfold b v; simp only [Bool.cond_eq_ite]; (repeat' split) <;> rfl)
end Go.FG.U243

namespace Go.FG.U200
def r3 {R : Type} (N : Nat) (g k0 : F_rir R) (a : Row) (d : Int) (e : Row) : Option R := bif decide (d < (a.length : Int)) then bif decide (0 <= d) && decide (d < (a.length : Int)) then bif decide (0 <= d) && decide (d < (e.length : Int)) then g a (w64 (d + 1)) (setC e d.toNat 0 [.s (cvS (cellAt a d.toNat 0)), .s (cvS (cellAt a d.toNat 1)), .i .i64 (cvI (cellAt a d.toNat (1 + 1)))]) else none else none else k0 a d e
def l3 {R : Type} (N : Nat) (k0 : F_rir R) : Nat -> F_rir R
 | 0 => fun _ _ _ => none
 | n + 1 => r3 N (l3 N k0 n) k0
def b {R : Type} (N : Nat) (kr : Row -> Option R) (a : Row) : Option R := bif decide ((a.length : Int) = (a.length : Int)) && roomy (a.length : Int).toNat 40 then l3 N (fun _ _ d => kr d) N a 0 (zeros [Ck.s, Ck.s, Ck.i IntKind.i64] (a.length : Int).toNat) else none
def vo := b Lib.big fun r0 => some r0
def c := fun a => (vo a).isSome
def v := fun a => (vo a).getD ([])
theorem out {x} : ∀ a, vo a = some x -> c a = true /\ v a = x := fun _ => Lib.out_
end Go.FG.U200

namespace Go.FG.U116
def b {R : Type} (kr : Row -> Option R) (a : Row) : Option R := bif U200.c a then kr (U200.v a) else none
def vo := b fun r0 => some r0
def c := fun a => (vo a).isSome
def v := fun a => (vo a).getD ([])
theorem out {x} : ∀ a, vo a = some x -> c a = true /\ v a = x := fun _ => Lib.out_
end Go.FG.U116

namespace Go.FG.U33
def b {R : Type} (kr : F_irrrrirrirrr R) (a : Int) (d e f h : Row) (i : Int) (j l : Row) (m : Int) (o p q : Row) : Option R := bif U10.c a d e f h i j l m then bif U116.c o then bif U117.c p then bif U58.c q then kr (U10.v a d e f h i j l m).1 (U10.v a d e f h i j l m).2.1 (U10.v a d e f h i j l m).2.2.1 (U10.v a d e f h i j l m).2.2.2.1 (U10.v a d e f h i j l m).2.2.2.2.1 (U10.v a d e f h i j l m).2.2.2.2.2.1 (U10.v a d e f h i j l m).2.2.2.2.2.2.1 (U10.v a d e f h i j l m).2.2.2.2.2.2.2.1 (U10.v a d e f h i j l m).2.2.2.2.2.2.2.2 (U116.v o) (U117.v p) (U58.v q) else none else none else none else none
def vo := b fun r0 r1 r2 r3 r4 r5 r6 r7 r8 r9 r10 r11 => some (r0, r1, r2, r3, r4, r5, r6, r7, r8, r9, r10, r11)
def c := fun a d e f h i j l m o p q => (vo a d e f h i j l m o p q).isSome
def v := fun a d e f h i j l m o p q => (vo a d e f h i j l m o p q).getD (0, [], [], [], [], 0, [], [], 0, [], [], [])
theorem out {x} : ∀ a d e f h i j l m o p q, vo a d e f h i j l m o p q = some x -> c a d e f h i j l m o p q = true /\ v a d e f h i j l m o p q = x := fun _ _ _ _ _ _ _ _ _ _ _ _ => Lib.out_
end Go.FG.U33

namespace Go.FG.U49
def b {R : Type} (kr : Bool -> Option R) (a d e : Int) : Option R := bif decide (a ≥ d) then kr (decide (a <= e)) else kr false
def v (a0 a1 a2 : Int) : Bool := bif decide (a0 ≥ a1) then decide (a0 <= a2) else false
theorem b_eq {R : Type} (kr : Bool -> Option R) (a0 a1 a2 : Int) : b kr a0 a1 a2 = kr (v a0 a1 a2) := by
 first | rfl | (unfold b v; simp only [Bool.cond_eq_ite]; (repeat' split) <;> rfl)
end Go.FG.U49

namespace Go.FG.U236
def b {R : Type} (kr : Bool -> Option R) (a : ByteArray) : Option R := kr (U49.v (a.size : Int) 1 8)
def v (a0 : ByteArray) : Bool := (U49.v (a0.size : Int) 1 8)
theorem b_eq {R : Type} (kr : Bool -> Option R) (a0 : ByteArray) : b kr a0 = kr (v a0) := by
 first | rfl | (unfold b v; simp only [Bool.cond_eq_ite]; (repeat' split) <;> rfl)
end Go.FG.U236

namespace Go.FG.U194
def r4 {R : Type} (N : Nat) (g k0 k1 : F_bir R) (a : Bool) (d : Int) (e : Row) : Option R := bif decide (d < (e.length : Int)) then bif decide (0 <= d) && decide (d < (e.length : Int)) then bif !U236.v (cvS (cellAt e d.toNat 0)) then k0 false d e else bif decide (((cvS (cellAt e d.toNat 1)).size : Int) > 20000) then k0 false d e else bif !U49.v (cvI (cellAt e d.toNat (1 + 1))) 0 ((cvS (cellAt e d.toNat 1)).size : Int) then k0 false d e else bif decide (d > 0) then bif decide (0 <= w64 (d - 1)) && decide (w64 (d - 1) < (e.length : Int)) then bif !Op.bytesLess (cvS (cellAt e (w64 (d - 1)).toNat 0)).toList (cvS (cellAt e d.toNat 0)).toList then k0 false d e else g a (w64 (d + 1)) e else none else g a (w64 (d + 1)) e else none else k1 a d e
def l4 {R : Type} (N : Nat) (k0 k1 : F_bir R) : Nat -> F_bir R
 | 0 => fun _ _ _ => none
 | n + 1 => r4 N (l4 N k0 k1 n) k0 k1
def b {R : Type} (N : Nat) (kr : Bool -> Option R) (a : Row) : Option R := bif decide ((a.length : Int) > 30) then kr false else l4 N (fun d _ _ => kr d) (fun _ _ _ => kr true) N false 0 a
def vo := b Lib.big fun r0 => some r0
def c := fun a => (vo a).isSome
def v := fun a => (vo a).getD false
theorem out {x} : ∀ a, vo a = some x -> c a = true /\ v a = x := fun _ => Lib.out_
end Go.FG.U194

namespace Go.FG.U237
def r2 {R : Type} (N : Nat) (g k0 k1 : F_siir R) (a : ByteArray) (d e : Int) (f : Row) : Option R := bif decide (e < (f.length : Int)) then bif decide (0 <= e) && decide (e < (f.length : Int)) then bif List.beq (cvS (cellAt f e.toNat 0)).toList (ByteArray.toList a) then k0 a e e f else g a d (w64 (e + 1)) f else none else k1 a d e f
def l2 {R : Type} (N : Nat) (k0 k1 : F_siir R) : Nat -> F_siir R
 | 0 => fun _ _ _ _ => none
 | n + 1 => r2 N (l2 N k0 k1 n) k0 k1
def b {R : Type} (N : Nat) (kr : Int -> Option R) (a : Row) (d : ByteArray) : Option R := l2 N (fun _ e _ _ => kr e) (fun _ _ _ _ => kr (-1)) N d 0 0 a
def vo := b Lib.big fun r0 => some r0
def c := fun a d => (vo a d).isSome
def v := fun a d => (vo a d).getD (0)
theorem out {x} : ∀ a d, vo a d = some x -> c a d = true /\ v a d = x := fun _ _ => Lib.out_
end Go.FG.U237

namespace Go.FG.U195
def b {R : Type} (kr : F_sb R) (a : Row) (d : ByteArray) : Option R := bif U237.c a d then bif decide (U237.v a d < 0) then kr ⟨#[]⟩ false else bif decide (0 <= U237.v a d) && decide (U237.v a d < (a.length : Int)) then kr (cvS (cellAt a (U237.v a d).toNat 1)) true else none else none
def vo := b fun r0 r1 => some (r0, r1)
def c := fun a d => (vo a d).isSome
def v := fun a d => (vo a d).getD (⟨#[]⟩, false)
theorem out {x} : ∀ a d, vo a d = some x -> c a d = true /\ v a d = x := fun _ _ => Lib.out_
end Go.FG.U195

namespace Go.FG.U264
def r2 {R : Type} (N : Nat) (g k0 : F_ir R) (a : Int) (d : Row) : Option R := bif decide (a > 127) then bif roomy (d.length + (List.set (zeros [Ck.i IntKind.u8] 1) 0 [CV.i IntKind.u8 (IntKind.wrap IntKind.u8 (w64 (Int.tmod a 128 + 128)))]).length) 1 then g (w64 (Int.tdiv a 128)) (d ++ List.set (zeros [Ck.i IntKind.u8] 1) 0 [CV.i IntKind.u8 (IntKind.wrap IntKind.u8 (w64 (Int.tmod a 128 + 128)))]) else none else k0 a d
def l2 {R : Type} (N : Nat) (k0 : F_ir R) : Nat -> F_ir R
 | 0 => fun _ _ => none
 | n + 1 => r2 N (l2 N k0 n) k0
def b {R : Type} (N : Nat) (kr : ByteArray -> Option R) (a : Int) : Option R := l2 N (fun d e => bif roomy (e.length + (List.set (zeros [Ck.i IntKind.u8] 1) 0 [CV.i IntKind.u8 (IntKind.wrap IntKind.u8 d)]).length) 1 then bif decide ((e ++ List.set (zeros [Ck.i IntKind.u8] 1) 0 [CV.i IntKind.u8 (IntKind.wrap IntKind.u8 d)]).length <= 4611686018427387904) then kr (bytesOf (e ++ List.set (zeros [Ck.i IntKind.u8] 1) 0 [CV.i IntKind.u8 (IntKind.wrap IntKind.u8 d)])) else none else none) N a (zeros [Ck.i IntKind.u8] 0)
def v (n0 : Int) : ByteArray := bytesOf (Lib.vb n0)
def c (n0 : Int) : Bool := decide (n0 <= 9223372036854775807)
theorem b_eq {R : Type} (kr : ByteArray -> Option R) (n0 : Int) (hc : c n0 = true) : ∃ N, b N kr n0 = kr (v n0) := by
 refine ⟨n0.toNat + 1, ?_⟩
 refine Lib.var_run (fun n x acc => l2 (n0.toNat + 1) _ n x acc) kr (fun n x acc h hl => ?_) (fun n x acc h hl => ?_) n0 (of_decide_eq_true hc)
 ·simp only [l2, r2, h, decide_true, cond_true, Lib.len_set1, show acc.length + List.length [[CV.i IntKind.u8 (IntKind.wrap IntKind.u8 (w64 (Int.tmod x 128 + 128)))]] = acc.length + 1 from rfl, Lib.roomy1 (show acc.length + 1 <= 140737488355328 by omega), show decide ((128 : Int) = 0) = false from rfl, Bool.and_false, Bool.not_false]
 ·simp only [l2, r2, h, decide_false, cond_false, Lib.len_set1, show acc.length + List.length [[CV.i IntKind.u8 (IntKind.wrap IntKind.u8 x)]] = acc.length + 1 from rfl, Lib.roomy1 (show acc.length + 1 <= 140737488355328 by omega), cond_true]
  exact Lib.bif_t (Lib.dec_t (by rw [List.length_append, List.length_singleton]; omega))
end Go.FG.U264

namespace Go.FG.U238
def r6 {R : Type} (N : Nat) (g k0 k1 : F_siiibiii R) (a : ByteArray) (d e f : Int) (h : Bool) (i j l : Int) : Option R := bif decide (l < (a.size : Int)) then bif decide (l < w64 (d + 5)) then bif decide (0 <= l) && decide (l < (a.size : Int)) then bif decide (0 <= l) && decide (l < (a.size : Int)) then bif decide ((↑(btN a l.toNat) : Int) < 128) then bif decide (w64 (i + w64 (Int.tmod (w64 (↑(btN a l.toNat) : Int)) 128 * j)) > 1000000000) then k0 a d 0 0 false (w64 (i + w64 (Int.tmod (w64 (↑(btN a l.toNat) : Int)) 128 * j))) (w64 (j * 128)) l else bif U264.c (w64 (i + w64 (Int.tmod (w64 (↑(btN a l.toNat) : Int)) 128 * j))) then bif inB d (w64 (l + 1)) (a.size : Int) then bif !List.beq (U264.v (w64 (i + w64 (Int.tmod (w64 (↑(btN a l.toNat) : Int)) 128 * j)))).toList (ByteArray.extract a d.toNat (w64 (l + 1)).toNat).toList then k0 a d 0 0 false (w64 (i + w64 (Int.tmod (w64 (↑(btN a l.toNat) : Int)) 128 * j))) (w64 (j * 128)) l else k0 a d (w64 (i + w64 (Int.tmod (w64 (↑(btN a l.toNat) : Int)) 128 * j))) (w64 (l + 1)) true (w64 (i + w64 (Int.tmod (w64 (↑(btN a l.toNat) : Int)) 128 * j))) (w64 (j * 128)) l else none else none else g a d e f h (w64 (i + w64 (Int.tmod (w64 (↑(btN a l.toNat) : Int)) 128 * j))) (w64 (j * 128)) (w64 (l + 1)) else none else none else k1 a d e f h i j l else k1 a d e f h i j l
def l6 {R : Type} (N : Nat) (k0 k1 : F_siiibiii R) : Nat -> F_siiibiii R
 | 0 => fun _ _ _ _ _ _ _ _ => none
 | n + 1 => r6 N (l6 N k0 k1 n) k0 k1
def b {R : Type} (N : Nat) (kr : F_iib R) (a : ByteArray) (d : Int) : Option R := bif !U49.v d 0 (a.size : Int) then kr 0 0 false else l6 N (fun _ _ e f h _ _ _ => kr e f h) (fun _ _ _ _ _ _ _ _ => kr 0 0 false) N a d 0 0 false 0 1 d
def v (text0 : ByteArray) (at1 : Int) : Int × Int × Bool := if 0 <= at1 /\ at1 <= text0.size then Lib.rv text0 at1.toNat 5 0 0 else (0, 0, false)
theorem b_eq {R : Type} (kr : F_iib R) (text0 : ByteArray) (at1 : Int) (f0 : okS text0) : ∃ N, b N kr text0 at1 = kr (v text0 at1).1 (v text0 at1).2.1 (v text0 at1).2.2 := by
 refine ⟨6, ?_⟩
 unfold b v
 by_cases hn : 0 <= at1 /\ at1 <= text0.size
 ·have e : U49.v at1 0 (text0.size : Int) = true := by simp [U49.v, hn]
  obtain ⟨a, rfl⟩ : ∃ a : Nat, at1 = (a : Int) := ⟨at1.toNat, by omega⟩
  have ha : a <= text0.size := by omega
  rw [e, if_pos hn, Lib.toN]
  have hs : text0.size <= 4611686018427387904 := f0
  simp only [Bool.not_true, cond_false]
  have := Lib.loop_gen (fun m (s : Nat × Int) => l6 6 (fun y8 y9 y10 y11 y12 y13 y14 y15 => kr y10 y11 y12) (fun y16 y17 y18 y19 y20 y21 y22 y23 => kr 0 0 false) m text0 a 0 0 false s.2 (128 ^ s.1) ((a + s.1 : Nat) : Int)) (fun s => 5 - s.1) (fun s => s.1 <= 5 /\ s.2 = Lib.num text0 a s.1 /\ ∀ i, i < s.1 -> 128 <= btN text0 (a + i))
   (fun s => kr (Lib.rv text0 a (5 - s.1) s.1 s.2).1 (Lib.rv text0 a (5 - s.1) s.1 s.2).2.1 (Lib.rv text0 a (5 - s.1) s.1 s.2).2.2) (fun m s hs5 => by
   obtain ⟨j, n⟩ := s
   obtain ⟨hj, hnum, hge⟩ := hs5
   dsimp only at hj hnum hge ⊢
   have hb := Lib.btN_lt text0 (a + j)
   have e5 : w64 ((a : Int) + 5) = ((a + 5 : Nat) : Int) := by rw [w64_eq (by omega) (by omega)]; omega
   by_cases hin : a + j < text0.size
   ·by_cases hj5 : j < 5
    ·have eb : w64 (btN text0 (a + j) : Int) = (btN text0 (a + j) : Int) := w64_eq (by omega) (by omega)
     have em : Int.tmod (btN text0 (a + j) : Int) 128 = (btN text0 (a + j) : Int) % 128 := Int.tmod_eq_emod_of_nonneg (by omega)
     have hp : (128 : Int) ^ j <= 268435456 /\ (1 : Int) <= 128 ^ j /\ (128 : Int) ^ (j + 1) = 128 ^ j * 128 := by
      obtain rfl | rfl | rfl | rfl | rfl : j = 0 \/ j = 1 \/ j = 2 \/ j = 3 \/ j = 4 := by omega
      all_goals decide
     have hrg := Lib.num_rng text0 j a
     rw [<- hnum] at hrg
     have hm0 : 0 <= (btN text0 (a + j) : Int) % 128 /\ (btN text0 (a + j) : Int) % 128 <= 127 := by omega
     have hq : 0 <= (btN text0 (a + j) : Int) % 128 * 128 ^ j /\ (btN text0 (a + j) : Int) % 128 * 128 ^ j <= 127 * 128 ^ j :=
      ⟨Int.mul_nonneg hm0.1 (by omega), Int.mul_le_mul_of_nonneg_right hm0.2 (by omega)⟩
     have eq1 : w64 ((btN text0 (a + j) : Int) % 128 * 128 ^ j) = (btN text0 (a + j) : Int) % 128 * 128 ^ j := w64_eq (by omega) (by omega)
     have eq2 : w64 (n + (btN text0 (a + j) : Int) % 128 * 128 ^ j) = n + (btN text0 (a + j) : Int) % 128 * 128 ^ j := w64_eq (by omega) (by omega)
     have eq3 : w64 ((128 : Int) ^ j * 128) = 128 ^ (j + 1) := by rw [hp.2.2]; exact w64_eq (by omega) (by omega)
     have ef : 5 - j = (5 - (j + 1)) + 1 := by omega
     have hsn : n + (btN text0 (a + j) : Int) % 128 * 128 ^ j = Lib.num text0 a (j + 1) := by rw [Lib.num_snoc, <- hnum]
     have en : w64 (((a + j : Nat) : Int) + 1) = ((a + (j + 1) : Nat) : Int) := Lib.w64_s hin (by omega)
     have c2 : decide (((a + j : Nat) : Int) < ((a + 5 : Nat) : Int)) = true := Lib.dlt_t (by omega)
     have hrv : Lib.rv text0 a (5 - j) j n = (if (btN text0 (a + j) : Int) > 127 then Lib.rv text0 a (5 - (j + 1)) (j + 1) (n + (btN text0 (a + j) : Int) % 128 * 128 ^ j)
       else if (j > 0 /\ btN text0 (a + j) = 0) \/ n + (btN text0 (a + j) : Int) % 128 * 128 ^ j > 1000000000 then (0, 0, false)
       else (n + (btN text0 (a + j) : Int) % 128 * 128 ^ j, ((a + j + 1 : Nat) : Int), true)) := by
      rw [ef]; simp only [Lib.rv]; rw [if_pos hin]
     simp only [l6, r6, Lib.dlt_t hin, e5, c2, Lib.dle0, Lib.toN, eb, em, eq1, eq2, eq3, en, cond_true, Bool.and_self]
     by_cases hc : (btN text0 (a + j) : Int) < 128
     ·left
      rw [decide_eq_true hc, cond_true, hrv, if_neg (by omega)]
      by_cases hbig : n + (btN text0 (a + j) : Int) % 128 * 128 ^ j > 1000000000
      ·rw [decide_eq_true hbig, if_pos (.inr hbig)]; rfl
      ·have ec : U264.c (n + (btN text0 (a + j) : Int) % 128 * 128 ^ j) = true := decide_eq_true (by omega)
       have ein : inB (a : Int) ((a + (j + 1) : Nat) : Int) (text0.size : Int) = true := by simp [inB]; omega
       rw [decide_eq_false hbig, cond_false, ec, cond_true, ein, cond_true, hsn]
       have hcan := Lib.canon text0 j a (by omega) hge (by omega) (by rw [<- hsn]; omega)
       unfold U264.v
       rw [hcan]
       by_cases hz : j > 0 /\ btN text0 (a + j) = 0
       ·rw [decide_eq_true hz, if_pos (.inl hz)]; rfl
       ·rw [decide_eq_false hz, if_neg (by rw [hsn] at hbig; omega)]; rfl
     ·right
      rw [decide_eq_false hc]
      refine ⟨(j + 1, n + (btN text0 (a + j) : Int) % 128 * 128 ^ j), ⟨by dsimp only; omega, hsn, fun i hi => ?_⟩, by dsimp only; omega, by dsimp only; rw [hrv, if_pos (by omega)], rfl⟩
      by_cases hij : i < j
      ·exact hge i hij
      ·have : i = j := by dsimp only at hi; omega
       subst this; omega
    ·left
     have hj' : j = 5 := by omega
     subst hj'
     simp only [l6, r6, Lib.dlt_t hin, e5, Lib.dlt_f (Nat.lt_irrefl (a + 5)), cond_true, cond_false]
     rfl
   ·left
    have hrv : Lib.rv text0 a (5 - j) j n = (0, 0, false) := by
     by_cases hj5 : j < 5
     ·have ef : 5 - j = (5 - (j + 1)) + 1 := by omega
      rw [ef]; simp only [Lib.rv]; rw [if_neg hin]
     ·rw [show 5 - j = 0 by omega]; rfl
    simp only [l6, r6, Lib.dlt_f hin, cond_false, hrv]) 6 (0, 0) ⟨by dsimp only; omega, rfl, fun i hi => by dsimp only at hi; omega⟩ (by dsimp only; omega)
  exact this
 ·have e : U49.v at1 0 (text0.size : Int) = false := by
   simp [U49.v]; omega
  rw [e, if_neg hn]; rfl
end Go.FG.U238

namespace Go.FG.U250
def r6 {R : Type} (N : Nat) (g k0 : F_isii R) (a : Int) (d : ByteArray) (e f : Int) : Option R := bif decide (f < 8) then bif decide (Int.tmod a 2 = 1) then g (IntKind.wrap IntKind.u32 (↑(BitVec.toNat (BitVec.xor (BitVec.ofInt 32 (IntKind.wrap IntKind.u32 (Int.tdiv a 2))) (BitVec.ofInt 32 3558460437))) : Int)) d e (w64 (f + 1)) else g (IntKind.wrap IntKind.u32 (Int.tdiv a 2)) d e (w64 (f + 1)) else k0 a d e f
def l6 {R : Type} (N : Nat) (k0 : F_isii R) : Nat -> F_isii R
 | 0 => fun _ _ _ _ => none
 | n + 1 => r6 N (l6 N k0 n) k0
def r2 {R : Type} (N : Nat) (g k0 : F_isi R) (a : Int) (d : ByteArray) (e : Int) : Option R := bif decide (e < (d.size : Int)) then bif decide (0 <= e) && decide (e < (d.size : Int)) then l6 N (fun f h i _ => g f h (w64 (i + 1))) N (IntKind.wrap IntKind.u32 (↑(BitVec.toNat (BitVec.xor (BitVec.ofInt 32 a) (BitVec.ofInt 32 (IntKind.wrap IntKind.u32 (↑(btN d e.toNat) : Int))))) : Int)) d e 0 else none else k0 a d e
def l2 {R : Type} (N : Nat) (k0 : F_isi R) : Nat -> F_isi R
 | 0 => fun _ _ _ => none
 | n + 1 => r2 N (l2 N k0 n) k0
def b {R : Type} (N : Nat) (kr : Int -> Option R) (a : Int) (d : ByteArray) : Option R := l2 N (fun e _ _ => kr e) N a d 0
def vo := b Lib.big fun r0 => some r0
def c := fun a d => (vo a d).isSome
def v := fun a d => (vo a d).getD (0)
theorem out {x} : ∀ a d, vo a d = some x -> c a d = true /\ v a d = x := fun _ _ => Lib.out_
end Go.FG.U250

namespace Go.FG.U215
def b {R : Type} (kr : Int -> Option R) (a : ByteArray) : Option R := bif U250.c 4294967295 a then kr (U250.v 4294967295 a) else none
def vo := b fun r0 => some r0
def c := fun a => (vo a).isSome
def v := fun a => (vo a).getD (0)
theorem out {x} : ∀ a, vo a = some x -> c a = true /\ v a = x := fun _ => Lib.out_
end Go.FG.U215

namespace Go.FG.U265
def b {R : Type} (kr : ByteArray -> Option R) (a : Int) : Option R := kr (bytesOf (List.set (List.set (List.set (List.set (zeros [Ck.i IntKind.u8] 4) 0 [CV.i IntKind.u8 (IntKind.wrap IntKind.u8 (Int.fdiv a (Int.pow 2 (if Int.toNat 24 <= 32 then Int.toNat 24 else 32))))]) 1 [CV.i IntKind.u8 (IntKind.wrap IntKind.u8 (Int.fdiv a (Int.pow 2 (if Int.toNat 16 <= 32 then Int.toNat 16 else 32))))]) 2 [CV.i IntKind.u8 (IntKind.wrap IntKind.u8 (Int.fdiv a (Int.pow 2 (if Int.toNat 8 <= 32 then Int.toNat 8 else 32))))]) 3 [CV.i IntKind.u8 (IntKind.wrap IntKind.u8 a)]))
def v (a0 : Int) : ByteArray := (bytesOf (List.set (List.set (List.set (List.set (zeros [Ck.i IntKind.u8] 4) 0 [CV.i IntKind.u8 (IntKind.wrap IntKind.u8 (Int.fdiv a0 (Int.pow 2 (if Int.toNat 24 <= 32 then Int.toNat 24 else 32))))]) 1 [CV.i IntKind.u8 (IntKind.wrap IntKind.u8 (Int.fdiv a0 (Int.pow 2 (if Int.toNat 16 <= 32 then Int.toNat 16 else 32))))]) 2 [CV.i IntKind.u8 (IntKind.wrap IntKind.u8 (Int.fdiv a0 (Int.pow 2 (if Int.toNat 8 <= 32 then Int.toNat 8 else 32))))]) 3 [CV.i IntKind.u8 (IntKind.wrap IntKind.u8 a0)]))
theorem b_eq {R : Type} (kr : ByteArray -> Option R) (a0 : Int) : b kr a0 = kr (v a0) := by
 first | rfl | (unfold b v; simp only [Bool.cond_eq_ite]; (repeat' split) <;> rfl)
end Go.FG.U265

namespace Go.FG.U239
def b {R : Type} (kr : F_sb R) (a : ByteArray) : Option R := bif !U49.v (a.size : Int) 1 9000 then kr ⟨#[]⟩ false else bif U264.c (a.size : Int) then bif U215.c a then bif decide ((U264.v (a.size : Int)).size + (U265.v (U215.v a)).size <= 4611686018427387904) then bif decide ((U264.v (a.size : Int) ++ U265.v (U215.v a)).size + a.size <= 4611686018427387904) then kr (U264.v (a.size : Int) ++ U265.v (U215.v a) ++ a) true else none else none else none else none
def vo := b fun r0 r1 => some (r0, r1)
def c := fun a => (vo a).isSome
def v := fun a => (vo a).getD (⟨#[]⟩, false)
theorem out {x} : ∀ a, vo a = some x -> c a = true /\ v a = x := fun _ => Lib.out_
end Go.FG.U239

namespace Go.FG.U196
def r5 {R : Type} (N : Nat) (g k0 k1 : F_siir R) (a : ByteArray) (d e : Int) (f : Row) : Option R := bif decide (e < (a.size : Int)) then bif !(U238.v a e).2.2 then k0 a e e f else bif decide ((U238.v a e).1 > w64 (w64 ((a.size : Int) - (U238.v a e).2.1) - 4)) then k0 a e e f else bif inB (w64 ((U238.v a e).2.1 + 4)) (w64 (w64 ((U238.v a e).2.1 + 4) + (U238.v a e).1)) (a.size : Int) then bif U239.c (ByteArray.extract a (w64 ((U238.v a e).2.1 + 4)).toNat (w64 (w64 ((U238.v a e).2.1 + 4) + (U238.v a e).1)).toNat) then bif !(U239.v (ByteArray.extract a (w64 ((U238.v a e).2.1 + 4)).toNat (w64 (w64 ((U238.v a e).2.1 + 4) + (U238.v a e).1)).toNat)).2 then k0 a e e f else bif inB e (w64 (w64 ((U238.v a e).2.1 + 4) + (U238.v a e).1)) (a.size : Int) then bif !List.beq (U239.v (ByteArray.extract a (w64 ((U238.v a e).2.1 + 4)).toNat (w64 (w64 ((U238.v a e).2.1 + 4) + (U238.v a e).1)).toNat)).1.toList (ByteArray.extract a e.toNat (w64 (w64 ((U238.v a e).2.1 + 4) + (U238.v a e).1)).toNat).toList then k0 a e e f else bif roomy (f.length + (List.set (zeros [.s] 1) 0 [.s (ByteArray.extract a (w64 ((U238.v a e).2.1 + 4)).toNat (w64 (w64 ((U238.v a e).2.1 + 4) + (U238.v a e).1)).toNat)]).length) 16 then g a d (w64 (w64 ((U238.v a e).2.1 + 4) + (U238.v a e).1)) (f ++ List.set (zeros [.s] 1) 0 [.s (ByteArray.extract a (w64 ((U238.v a e).2.1 + 4)).toNat (w64 (w64 ((U238.v a e).2.1 + 4) + (U238.v a e).1)).toNat)]) else none else none else none else none else k1 a d e f
def l5 {R : Type} (N : Nat) (k0 k1 : F_siir R) : Nat -> F_siir R
 | 0 => fun _ _ _ _ => none
 | n + 1 => r5 N (l5 N k0 k1 n) k0 k1
def b {R : Type} (N : Nat) (kr : F_ri R) (a : ByteArray) : Option R := bif decide ((a.size : Int) > 20000) then kr (zeros [.s] 0) 0 else l5 N (fun _ d _ e => kr e d) (fun _ _ f h => kr h f) N a 0 0 (zeros [.s] 0)
def vo := b Lib.big fun r0 r1 => some (r0, r1)
def c := fun a => (vo a).isSome
def v := fun a => (vo a).getD ([], 0)
theorem out {x} : ∀ a, vo a = some x -> c a = true /\ v a = x := fun _ => Lib.out_
end Go.FG.U196

namespace Go.FG.U240
def b {R : Type} (kr : F_sib R) (a : ByteArray) (d : Int) : Option R := bif !(U238.v a d).2.2 then kr ⟨#[]⟩ 0 false else bif decide ((U238.v a d).1 > 20000) then kr ⟨#[]⟩ 0 false else bif decide ((U238.v a d).1 > w64 ((a.size : Int) - (U238.v a d).2.1)) then kr ⟨#[]⟩ 0 false else bif inB (U238.v a d).2.1 (w64 ((U238.v a d).2.1 + (U238.v a d).1)) (a.size : Int) then kr (ByteArray.extract a (U238.v a d).2.1.toNat (w64 ((U238.v a d).2.1 + (U238.v a d).1)).toNat) (w64 ((U238.v a d).2.1 + (U238.v a d).1)) true else none
def v (text0 : ByteArray) (at1 : Int) : ByteArray × Int × Bool := Lib.readShort text0 at1
theorem b_eq {R : Type} (kr : F_sib R) (text0 : ByteArray) (at1 : Int) (f0 : okS text0) : b kr text0 at1 = kr (v text0 at1).1 (v text0 at1).2.1 (v text0 at1).2.2 := Lib.readShort_run f0 at1 kr
end Go.FG.U240

namespace Go.FG.U50
def b {R : Type} (kr : Bool -> Option R) (a : ByteArray) : Option R := kr (U49.v (a.size : Int) 1 30)
def v (a0 : ByteArray) : Bool := (U49.v (a0.size : Int) 1 30)
theorem b_eq {R : Type} (kr : Bool -> Option R) (a0 : ByteArray) : b kr a0 = kr (v a0) := by
 first | rfl | (unfold b v; simp only [Bool.cond_eq_ite]; (repeat' split) <;> rfl)
end Go.FG.U50

namespace Go.FG.U141
def b {R : Type} (kr : Bool -> Option R) (a : ByteArray) (d e : Int) (f : ByteArray) : Option R := bif U50.v a then bif U49.v d 0 1000000000 then bif U49.v e 1 999999 then kr (decide ((f.size : Int) <= 400)) else kr false else kr false else kr false
def v (a0 : ByteArray) (a1 a2 : Int) (a3 : ByteArray) : Bool := bif U50.v a0 then bif U49.v a1 0 1000000000 then bif U49.v a2 1 999999 then decide ((a3.size : Int) <= 400) else false else false else false
theorem b_eq {R : Type} (kr : Bool -> Option R) (a0 : ByteArray) (a1 a2 : Int) (a3 : ByteArray) : b kr a0 a1 a2 a3 = kr (v a0 a1 a2 a3) := by
 first | rfl | (unfold b v; simp only [Bool.cond_eq_ite]; (repeat' split) <;> rfl)
theorem rng {k : ByteArray} {s l : Int} {b : ByteArray} (h : v k s l b = true) : (1 <= k.size /\ k.size <= 30) /\ (0 <= s /\ s <= 1000000000) /\ (1 <= l /\ l <= 999999) /\ b.size <= 400 := by
 unfold v at h
 cases h1 : U50.v k <;> rw [h1] at h <;> simp only [cond_true, cond_false, Bool.false_eq_true] at h
 cases h2 : U49.v s 0 1000000000 <;> rw [h2] at h <;> simp only [cond_true, cond_false, Bool.false_eq_true] at h
 cases h3 : U49.v l 1 999999 <;> rw [h3] at h <;> simp only [cond_true, cond_false, Bool.false_eq_true] at h
 simp [U50.v, U49.v] at h1 h2 h3
 have := of_decide_eq_true h
 omega
end Go.FG.U141

namespace Go.FG.U241
def b {R : Type} (kr : F_sb R) (a : ByteArray) (d e : Int) (f : ByteArray) : Option R := bif !U141.v a d e f then kr ⟨#[]⟩ false else bif U264.c (a.size : Int) then bif decide ((U264.v (a.size : Int)).size + a.size <= 4611686018427387904) then bif U264.c d then bif decide ((U264.v (a.size : Int) ++ a).size + (U264.v d).size <= 4611686018427387904) then bif U264.c e then bif decide ((U264.v (a.size : Int) ++ a ++ U264.v d).size + (U264.v e).size <= 4611686018427387904) then bif decide ((U264.v (a.size : Int) ++ a ++ U264.v d ++ U264.v e).size + f.size <= 4611686018427387904) then kr (U264.v (a.size : Int) ++ a ++ U264.v d ++ U264.v e ++ f) true else none else none else none else none else none else none else none
def txt (k : ByteArray) (s l : Int) (b : ByteArray) : ByteArray := bytesOf (Lib.vb k.size) ++ k ++ bytesOf (Lib.vb s) ++ bytesOf (Lib.vb l) ++ b
def v (e0_0 : ByteArray) (e0_1 : Int) (e0_2 : Int) (e0_3 : ByteArray) : ByteArray × Bool := if U141.v e0_0 e0_1 e0_2 e0_3 = true then (txt e0_0 e0_1 e0_2 e0_3, true) else (⟨#[]⟩, false)
theorem b_eq {R : Type} (kr : F_sb R) (e0_0 : ByteArray) (e0_1 : Int) (e0_2 : Int) (e0_3 : ByteArray) : b kr e0_0 e0_1 e0_2 e0_3 = kr (v e0_0 e0_1 e0_2 e0_3).1 (v e0_0 e0_1 e0_2 e0_3).2 := by
 unfold b v
 cases h : U141.v e0_0 e0_1 e0_2 e0_3 with
 | false => rfl
 | true =>
  have hr := U141.rng h
  have cc : ∀ x : Int, x <= 9223372036854775807 -> U264.c x = true := fun x hx => decide_eq_true hx
  have z1 : (U264.v (e0_0.size : Int)).size <= 64 := Lib.var_size (x := (e0_0.size : Int)) (by omega)
  have z2 : (U264.v e0_1).size <= 64 := Lib.var_size (x := e0_1) (by omega)
  have z3 : (U264.v e0_2).size <= 64 := Lib.var_size (x := e0_2) (by omega)
  simp (disch := omega) only [Bool.not_true, cond_false, cc _ (show (e0_0.size : Int) <= 9223372036854775807 by omega), cc e0_1 (by omega), cc e0_2 (by omega), cond_true, if_true, Lib.size_app, Lib.dnat]
  rfl
end Go.FG.U241

namespace Go.FG.U197
def b {R : Type} (kr : F_siisb R) (a : ByteArray) : Option R := bif !(U240.v a 0).2.2 then kr ⟨#[]⟩ 0 0 ⟨#[]⟩ false else bif !(U238.v a (U240.v a 0).2.1).2.2 then kr ⟨#[]⟩ 0 0 ⟨#[]⟩ false else bif !(U238.v a (U238.v a (U240.v a 0).2.1).2.1).2.2 then kr ⟨#[]⟩ 0 0 ⟨#[]⟩ false else bif inB (U238.v a (U238.v a (U240.v a 0).2.1).2.1).2.1 (a.size : Int) (a.size : Int) then bif !(U241.v (U240.v a 0).1 (U238.v a (U240.v a 0).2.1).1 (U238.v a (U238.v a (U240.v a 0).2.1).2.1).1 (ByteArray.extract a (U238.v a (U238.v a (U240.v a 0).2.1).2.1).2.1.toNat (a.size : Int).toNat)).2 then kr ⟨#[]⟩ 0 0 ⟨#[]⟩ false else bif !List.beq (U241.v (U240.v a 0).1 (U238.v a (U240.v a 0).2.1).1 (U238.v a (U238.v a (U240.v a 0).2.1).2.1).1 (ByteArray.extract a (U238.v a (U238.v a (U240.v a 0).2.1).2.1).2.1.toNat (a.size : Int).toNat)).1.toList (ByteArray.toList a) then kr ⟨#[]⟩ 0 0 ⟨#[]⟩ false else kr (U240.v a 0).1 (U238.v a (U240.v a 0).2.1).1 (U238.v a (U238.v a (U240.v a 0).2.1).2.1).1 (ByteArray.extract a (U238.v a (U238.v a (U240.v a 0).2.1).2.1).2.1.toNat (a.size : Int).toNat) true else none
def no : ByteArray × Int × Int × ByteArray × Bool := (⟨#[]⟩, 0, 0, ⟨#[]⟩, false)
def v (t0 : ByteArray) : ByteArray × Int × Int × ByteArray × Bool :=
 match Lib.readShort t0 0 with
 | (k, a, true) => (match Lib.readVar t0 a with
  | (s, x, true) => (match Lib.readVar t0 x with
   | (l, y, true) => if U141.v k s l (t0.extract y.toNat t0.size) = true then (k, s, l, t0.extract y.toNat t0.size, true) else no
   | _ => no)
  | _ => no)
 | _ => no
theorem b_eq {R : Type} (kr : F_siisb R) (t0 : ByteArray) (f0 : okS t0) : b kr t0 = kr (v t0).1 (v t0).2.1 (v t0).2.2.1 (v t0).2.2.2.1 (v t0).2.2.2.2 := by
 have e1 : U240.v = Lib.readShort := rfl
 have e2 : U238.v = Lib.readVar := rfl
 unfold b v
 simp only [e1, e2, Lib.toN]
 cases h1 : Lib.readShort t0 0 with
 | mk k r1 =>
  obtain ⟨a, ok1⟩ := r1
  cases ok1 with
  | false => rfl
  | true =>
   dsimp only
   cases h2 : Lib.readVar t0 a with
   | mk s r2 =>
    obtain ⟨x, ok2⟩ := r2
    cases ok2 with
    | false => rfl
    | true =>
     dsimp only
     cases h3 : Lib.readVar t0 x with
     | mk l r3 =>
      obtain ⟨y, ok3⟩ := r3
      cases ok3 with
      | false => rfl
      | true =>
       obtain ⟨p1, p2, p3, p4, p5⟩ := Lib.readShort_ok h1
       obtain ⟨q1, q2, q3, q4, q5, q6⟩ := Lib.readVar_ok h2
       obtain ⟨r1, r2, r3, r4, r5, r6⟩ := Lib.readVar_ok h3
       dsimp only
       simp only [Bool.not_true, cond_false]
       rw [Lib.bif_t (show inB y (t0.size : Int) (t0.size : Int) = true by simp [inB]; omega)]
       unfold U241.v
       cases hE : U141.v k s l (t0.extract y.toNat t0.size) with
       | false => rfl
       | true =>
        have ht : U241.txt k s l (t0.extract y.toNat t0.size) = t0 := by
         unfold U241.txt
         rw [p5, q6, Lib.ext_app t0 (by omega) (by omega), r6, Lib.ext_app t0 (by omega) (by omega), Lib.ext_app t0 (by omega) (by omega)]
         exact Lib.ext_all t0
        simp only [if_true, Bool.not_true, cond_false, ht, Lib.beq_self]
end Go.FG.U197

namespace Go.FG.U198
def r9 {R : Type} (N : Nat) (g k0 : F_risiisr R) (a : Row) (d : Int) (e : ByteArray) (f h : Int) (i : ByteArray) (j : Row) : Option R := bif decide (d < (a.length : Int)) then bif decide (0 <= d) && decide (d < (a.length : Int)) then bif !(Op.bytesLess (cvS (cellAt a d.toNat 0)).toList (ByteArray.toList e) || List.beq (cvS (cellAt a d.toNat 0)).toList (ByteArray.toList e)) then bif decide (0 <= d) && decide (d < (a.length : Int)) then bif roomy (j.length + (List.set (zeros [Ck.s, Ck.i IntKind.i64, Ck.i IntKind.i64, Ck.s] 1) 0 [.s (cvS (cellAt a d.toNat 0)), .i .i64 (cvI (cellAt a d.toNat 1)), .i .i64 (cvI (cellAt a d.toNat (1 + 1))), .s (cvS (cellAt a d.toNat (1 + 1 + 1)))]).length) 48 then g a (w64 (d + 1)) e f h i (j ++ List.set (zeros [Ck.s, Ck.i IntKind.i64, Ck.i IntKind.i64, Ck.s] 1) 0 [.s (cvS (cellAt a d.toNat 0)), .i .i64 (cvI (cellAt a d.toNat 1)), .i .i64 (cvI (cellAt a d.toNat (1 + 1))), .s (cvS (cellAt a d.toNat (1 + 1 + 1)))]) else none else none else g a (w64 (d + 1)) e f h i j else none else k0 a d e f h i j
def l9 {R : Type} (N : Nat) (k0 : F_risiisr R) : Nat -> F_risiisr R
 | 0 => fun _ _ _ _ _ _ _ => none
 | n + 1 => r9 N (l9 N k0 n) k0
def r3 {R : Type} (N : Nat) (g k0 : F_risiisr R) (a : Row) (d : Int) (e : ByteArray) (f h : Int) (i : ByteArray) (j : Row) : Option R := bif decide (d < (a.length : Int)) then bif decide (0 <= d) && decide (d < (a.length : Int)) then bif Op.bytesLess (cvS (cellAt a d.toNat 0)).toList (ByteArray.toList e) then bif decide (0 <= d) && decide (d < (a.length : Int)) then bif roomy (j.length + (List.set (zeros [Ck.s, Ck.i IntKind.i64, Ck.i IntKind.i64, Ck.s] 1) 0 [.s (cvS (cellAt a d.toNat 0)), .i .i64 (cvI (cellAt a d.toNat 1)), .i .i64 (cvI (cellAt a d.toNat (1 + 1))), .s (cvS (cellAt a d.toNat (1 + 1 + 1)))]).length) 48 then g a (w64 (d + 1)) e f h i (j ++ List.set (zeros [Ck.s, Ck.i IntKind.i64, Ck.i IntKind.i64, Ck.s] 1) 0 [.s (cvS (cellAt a d.toNat 0)), .i .i64 (cvI (cellAt a d.toNat 1)), .i .i64 (cvI (cellAt a d.toNat (1 + 1))), .s (cvS (cellAt a d.toNat (1 + 1 + 1)))]) else none else none else g a (w64 (d + 1)) e f h i j else none else k0 a d e f h i j
def l3 {R : Type} (N : Nat) (k0 : F_risiisr R) : Nat -> F_risiisr R
 | 0 => fun _ _ _ _ _ _ _ => none
 | n + 1 => r3 N (l3 N k0 n) k0
def b {R : Type} (N : Nat) (kr : Row -> Option R) (a : Row) (d : ByteArray) (e f : Int) (h : ByteArray) : Option R := l3 N (fun i _ j l m o p => bif roomy (p.length + (List.set (zeros [Ck.s, Ck.i IntKind.i64, Ck.i IntKind.i64, Ck.s] 1) 0 [.s j, .i .i64 l, .i .i64 m, .s o]).length) 48 then l9 N (fun _ _ _ _ _ _ q => kr q) N i 0 j l m o (p ++ List.set (zeros [Ck.s, Ck.i IntKind.i64, Ck.i IntKind.i64, Ck.s] 1) 0 [.s j, .i .i64 l, .i .i64 m, .s o]) else none) N a 0 d e f h (zeros [Ck.s, Ck.i IntKind.i64, Ck.i IntKind.i64, Ck.s] 0)
def vo := b Lib.big fun r0 => some r0
def c := fun a d e f h => (vo a d e f h).isSome
def v := fun a d e f h => (vo a d e f h).getD ([])
theorem out {x} : ∀ a d e f h, vo a d e f h = some x -> c a d e f h = true /\ v a d e f h = x := fun _ _ _ _ _ => Lib.out_
end Go.FG.U198

namespace Go.FG.U111
def r7 {R : Type} (N : Nat) (g k0 : F_irr R) (a : Int) (d e : Row) : Option R := bif decide (a < (e.length : Int)) then bif decide (0 <= a) && decide (a < (e.length : Int)) then bif (U197.v (cvS (cellAt e a.toNat 0))).2.2.2.2 then bif U198.c d (U197.v (cvS (cellAt e a.toNat 0))).1 (U197.v (cvS (cellAt e a.toNat 0))).2.1 (U197.v (cvS (cellAt e a.toNat 0))).2.2.1 (U197.v (cvS (cellAt e a.toNat 0))).2.2.2.1 then g (w64 (a + 1)) (U198.v d (U197.v (cvS (cellAt e a.toNat 0))).1 (U197.v (cvS (cellAt e a.toNat 0))).2.1 (U197.v (cvS (cellAt e a.toNat 0))).2.2.1 (U197.v (cvS (cellAt e a.toNat 0))).2.2.2.1) e else none else g (w64 (a + 1)) d e else none else k0 a d e
def l7 {R : Type} (N : Nat) (k0 : F_irr R) : Nat -> F_irr R
 | 0 => fun _ _ _ => none
 | n + 1 => r7 N (l7 N k0 n) k0
def b {R : Type} (N : Nat) (kr : Row -> Option R) (a : Row) : Option R := bif U194.c a then bif !U194.v a then kr (zeros [Ck.s, Ck.i IntKind.i64, Ck.i IntKind.i64, Ck.s] 0) else bif U195.c a { data := #[UInt8.ofNat 107, UInt8.ofNat 101, UInt8.ofNat 112, UInt8.ofNat 116] } then bif U196.c (U195.v a { data := #[UInt8.ofNat 107, UInt8.ofNat 101, UInt8.ofNat 112, UInt8.ofNat 116] }).1 then l7 N (fun _ d _ => kr d) N 0 (zeros [Ck.s, Ck.i IntKind.i64, Ck.i IntKind.i64, Ck.s] 0) (U196.v (U195.v a { data := #[UInt8.ofNat 107, UInt8.ofNat 101, UInt8.ofNat 112, UInt8.ofNat 116] }).1).1 else none else none else none
def vo := b Lib.big fun r0 => some r0
def c := fun a => (vo a).isSome
def v := fun a => (vo a).getD ([])
theorem out {x} : ∀ a, vo a = some x -> c a = true /\ v a = x := fun _ => Lib.out_
end Go.FG.U111

namespace Go.FG.U52
def b {R : Type} (kr : Bool -> Option R) (a : ByteArray) (d e : Int) (f : ByteArray) (h : Int) : Option R := bif U141.v a d e f then bif U49.v h d 1000000000 then kr (decide (w64 (h - d) < e)) else kr false else kr false
def v (a0 : ByteArray) (a1 a2 : Int) (a3 : ByteArray) (a4 : Int) : Bool := bif U141.v a0 a1 a2 a3 then bif U49.v a4 a1 1000000000 then decide (w64 (a4 - a1) < a2) else false else false
theorem b_eq {R : Type} (kr : Bool -> Option R) (a0 : ByteArray) (a1 a2 : Int) (a3 : ByteArray) (a4 : Int) : b kr a0 a1 a2 a3 a4 = kr (v a0 a1 a2 a3 a4) := by
 first | rfl | (unfold b v; simp only [Bool.cond_eq_ite]; (repeat' split) <;> rfl)
end Go.FG.U52

namespace Go.FG.U112
def r2 {R : Type} (N : Nat) (g k0 k1 : F_rbisiis R) (a : Row) (d : Bool) (e : Int) (f : ByteArray) (h i : Int) (j : ByteArray) : Option R := bif decide (e < (a.length : Int)) then bif decide (0 <= e) && decide (e < (a.length : Int)) then bif List.beq (cvS (cellAt a e.toNat 0)).toList (ByteArray.toList f) && (decide (cvI (cellAt a e.toNat 1) = h) && (decide (cvI (cellAt a e.toNat (1 + 1)) = i) && (List.beq (cvS (cellAt a e.toNat (1 + 1 + 1))).toList (ByteArray.toList j) && true))) then k0 a true e f h i j else g a d (w64 (e + 1)) f h i j else none else k1 a d e f h i j
def l2 {R : Type} (N : Nat) (k0 k1 : F_rbisiis R) : Nat -> F_rbisiis R
 | 0 => fun _ _ _ _ _ _ _ => none
 | n + 1 => r2 N (l2 N k0 k1 n) k0 k1
def b {R : Type} (N : Nat) (kr : Bool -> Option R) (a : Row) (d : ByteArray) (e f : Int) (h : ByteArray) : Option R := l2 N (fun _ i _ _ _ _ _ => kr i) (fun _ _ _ _ _ _ _ => kr false) N a false 0 d e f h
def vo := b Lib.big fun r0 => some r0
def c := fun a d e f h => (vo a d e f h).isSome
def v := fun a d e f h => (vo a d e f h).getD false
theorem out {x} : ∀ a d e f h, vo a d e f h = some x -> c a d e f h = true /\ v a d e f h = x := fun _ _ _ _ _ => Lib.out_
end Go.FG.U112

namespace Go.FG.U143
def r2 {R : Type} (N : Nat) (g k0 k1 : F_rsbi R) (a : Row) (d : ByteArray) (e : Bool) (f : Int) : Option R := bif decide (f < (a.length : Int)) then bif decide (0 <= f) && decide (f < (a.length : Int)) then bif List.beq (cvS (cellAt a f.toNat 0)).toList (ByteArray.toList d) then k0 a d true f else g a d e (w64 (f + 1)) else none else k1 a d e f
def l2 {R : Type} (N : Nat) (k0 k1 : F_rsbi R) : Nat -> F_rsbi R
 | 0 => fun _ _ _ _ => none
 | n + 1 => r2 N (l2 N k0 k1 n) k0 k1
def b {R : Type} (N : Nat) (kr : Bool -> Option R) (a : Row) (d : ByteArray) : Option R := l2 N (fun _ _ e _ => kr e) (fun _ _ _ _ => kr false) N a d false 0
def vo := b Lib.big fun r0 => some r0
def c := fun a d => (vo a d).isSome
def v := fun a d => (vo a d).getD false
theorem out {x} : ∀ a d, vo a d = some x -> c a d = true /\ v a d = x := fun _ _ => Lib.out_
end Go.FG.U143

namespace Go.FG.U213
def b {R : Type} (kr : Bool -> Option R) (a d e : Row) (f : Int) (h : ByteArray) : Option R := bif U143.c a h then bif U143.v a h then kr true else bif U143.c d h then kr (U143.v d h) else none else none
def vo := b fun r0 => some r0
def c := fun a d e f h => (vo a d e f h).isSome
def v := fun a d e f h => (vo a d e f h).getD false
theorem out {x} : ∀ a d e f h, vo a d e f h = some x -> c a d e f h = true /\ v a d e f h = x := fun _ _ _ _ _ => Lib.out_
end Go.FG.U213

namespace Go.FG.U147
def r9 {R : Type} (N : Nat) (g k0 k1 : F_biiri R) (a : Bool) (d e : Int) (f : Row) (h : Int) : Option R := bif decide (0 <= d) && decide (d < (f.length : Int)) then bif decide (e < ((cvL (cellAt f d.toNat 0)).length : Int)) then bif decide (0 <= d) && decide (d < (f.length : Int)) then bif decide (0 <= e) && decide (e < ((cvL (cellAt f d.toNat 0)).length : Int)) then bif !U49.v (cvI (cellAt (cvL (cellAt f d.toNat 0)) e.toNat 0)) 0 15 then k0 false d e f h else g a d (w64 (e + 1)) f h else none else none else k1 a d e f h else none
def l9 {R : Type} (N : Nat) (k0 k1 : F_biiri R) : Nat -> F_biiri R
 | 0 => fun _ _ _ _ _ => none
 | n + 1 => r9 N (l9 N k0 k1 n) k0 k1
def r4 {R : Type} (N : Nat) (g k0 k1 : F_biri R) (a : Bool) (d : Int) (e : Row) (f : Int) : Option R := bif decide (d < (e.length : Int)) then bif decide (0 <= d) && decide (d < (e.length : Int)) then bif ((cvL (cellAt e d.toNat 0)).length : Int) != 16 then k0 false d e f else l9 N (fun h i _ j l => k0 h i j l) (fun m o _ p q => g m (w64 (o + 1)) p q) N a d 0 e f else none else k1 a d e f
def l4 {R : Type} (N : Nat) (k0 k1 : F_biri R) : Nat -> F_biri R
 | 0 => fun _ _ _ _ => none
 | n + 1 => r4 N (l4 N k0 k1 n) k0 k1
def b {R : Type} (N : Nat) (kr : Bool -> Option R) (a : Row) (d : Int) : Option R := bif (a.length : Int) != 3 then kr false else bif !U49.v d 0 63 then kr false else l4 N (fun e _ _ _ => kr e) (fun _ _ _ _ => kr true) N false 0 a d
def vo := b Lib.big fun r0 => some r0
def c := fun a d => (vo a d).isSome
def v := fun a d => (vo a d).getD false
theorem out {x} : ∀ a d, vo a d = some x -> c a d = true /\ v a d = x := fun _ _ => Lib.out_
end Go.FG.U147

namespace Go.FG.U142
def r3 {R : Type} (N : Nat) (g k0 k1 : F_birrrir R) (a : Bool) (d : Int) (e f h : Row) (i : Int) (j : Row) : Option R := bif decide (d < (j.length : Int)) then bif decide (0 <= d) && decide (d < (j.length : Int)) then bif !U50.v (cvS (cellAt j d.toNat 0)) then k0 false d e f h i j else bif inB 0 d (j.length : Int) then bif decide (0 <= d) && decide (d < (j.length : Int)) then bif U143.c (view j (Int.toNat 0) d.toNat) (cvS (cellAt j d.toNat 0)) then bif U143.v (view j (Int.toNat 0) d.toNat) (cvS (cellAt j d.toNat 0)) then k0 false d e f h i j else g a (w64 (d + 1)) e f h i j else none else none else none else none else k1 a d e f h i j
def l3 {R : Type} (N : Nat) (k0 k1 : F_birrrir R) : Nat -> F_birrrir R
 | 0 => fun _ _ _ _ _ _ _ => none
 | n + 1 => r3 N (l3 N k0 k1 n) k0 k1
def b {R : Type} (N : Nat) (kr : Bool -> Option R) (a d e : Row) (f : Int) : Option R := bif roomy ((zeros [.s] 0).length + a.length) 16 then bif roomy ((zeros [.s] 0 ++ a).length + d.length) 16 then l3 N (fun h _ _ _ _ _ _ => kr h) (fun _ _ i j l m _ => bif decide ((i.length : Int) <= 2) then bif decide ((j.length : Int) <= 4) then bif U147.c l m then kr (U147.v l m) else none else kr false else kr false) N false 0 a d e f (zeros [.s] 0 ++ a ++ d) else none else none
def vo := b Lib.big fun r0 => some r0
def c := fun a d e f => (vo a d e f).isSome
def v := fun a d e f => (vo a d e f).getD false
theorem out {x} : ∀ a d e f, vo a d e f = some x -> c a d e f = true /\ v a d e f = x := fun _ _ _ _ => Lib.out_
end Go.FG.U142

namespace Go.FG.U133
def r2 {R : Type} (N : Nat) (g k0 k1 : F_biirrrrirri R) (a : Bool) (d e : Int) (f h i j : Row) (l : Int) (m o : Row) (p : Int) : Option R := bif decide (d < (f.length : Int)) then bif decide (0 <= d) && decide (d < (f.length : Int)) then bif !U141.v (cvS (cellAt f d.toNat 0)) (cvI (cellAt f d.toNat 1)) (cvI (cellAt f d.toNat (1 + 1))) (cvS (cellAt f d.toNat (1 + 1 + 1))) then k0 false d e f h i j l m o p else bif decide (d > 0) then bif decide (0 <= w64 (d - 1)) && decide (w64 (d - 1) < (f.length : Int)) then bif decide (0 <= d) && decide (d < (f.length : Int)) then bif !Op.bytesLess (cvS (cellAt f (w64 (d - 1)).toNat 0)).toList (cvS (cellAt f d.toNat 0)).toList then k0 false d e f h i j l m o p else bif decide (0 <= d) && decide (d < (f.length : Int)) then bif U213.c h i j l (cvS (cellAt f d.toNat 0)) then bif !U213.v h i j l (cvS (cellAt f d.toNat 0)) then k0 false d e f h i j l m o p else g a (w64 (d + 1)) e f h i j l m o p else none else none else none else none else bif decide (0 <= d) && decide (d < (f.length : Int)) then bif U213.c h i j l (cvS (cellAt f d.toNat 0)) then bif !U213.v h i j l (cvS (cellAt f d.toNat 0)) then k0 false d e f h i j l m o p else g a (w64 (d + 1)) e f h i j l m o p else none else none else none else k1 a d e f h i j l m o p
def l2 {R : Type} (N : Nat) (k0 k1 : F_biirrrrirri R) : Nat -> F_biirrrrirri R
 | 0 => fun _ _ _ _ _ _ _ _ _ _ _ => none
 | n + 1 => r2 N (l2 N k0 k1 n) k0 k1
def b {R : Type} (N : Nat) (kr : Bool -> Option R) (a : Int) (d e f h : Row) (i : Int) (j l : Row) (m : Int) : Option R := l2 N (fun o _ _ _ _ _ _ _ _ _ _ => kr o) (fun _ _ _ p q r s t _ _ _ => bif U142.c q r s t then bif U142.v q r s t then kr (decide ((p.length : Int) = w64 ((q.length : Int) + (r.length : Int)))) else kr false else none) N false 0 a d e f h i j l m
def vo := b Lib.big fun r0 => some r0
def c := fun a d e f h i j l m => (vo a d e f h i j l m).isSome
def v := fun a d e f h i j l m => (vo a d e f h i j l m).getD false
theorem out {x} : ∀ a d e f h i j l m, vo a d e f h i j l m = some x -> c a d e f h i j l m = true /\ v a d e f h i j l m = x := fun _ _ _ _ _ _ _ _ _ => Lib.out_
end Go.FG.U133

namespace Go.FG.U134
def r5 {R : Type} (N : Nat) (g k0 k1 : F_ibiirrrrirrissiii R) (a : Int) (d : Bool) (e f : Int) (h i j l : Row) (m : Int) (o p : Row) (q : Int) (r s : ByteArray) (t u w : Int) : Option R := bif decide (e < a) then bif decide (0 <= e) && decide (e < (o.length : Int)) then bif List.beq (cvS (cellAt o e.toNat 0)).toList (ByteArray.toList r) then bif decide (0 <= e) && decide (e < (o.length : Int)) then bif decide (cvI (cellAt o e.toNat 2) = 1) then bif decide (t = 1) then k0 a false e f h i j l m o p q r s t u w else g a d (w64 (e + 1)) f h i j l m o p q r s t u w else g a d (w64 (e + 1)) f h i j l m o p q r s t u w else none else g a d (w64 (e + 1)) f h i j l m o p q r s t u w else none else k1 a d e f h i j l m o p q r s t u w
def l5 {R : Type} (N : Nat) (k0 k1 : F_ibiirrrrirrissiii R) : Nat -> F_ibiirrrrirrissiii R
 | 0 => fun _ _ _ _ _ _ _ _ _ _ _ _ _ _ _ _ _ => none
 | n + 1 => r5 N (l5 N k0 k1 n) k0 k1
def b {R : Type} (N : Nat) (kr : Bool -> Option R) (a : Int) (d e f h : Row) (i : Int) (j l : Row) (m o : Int) : Option R := bif decide (0 <= o) && decide (o < (j.length : Int)) then bif !U50.v (cvS (cellAt j o.toNat 0)) then kr false else bif decide (((cvS (cellAt j o.toNat 1)).size : Int) > 400) then kr false else bif !U49.v (cvI (cellAt j o.toNat (1 + 1))) 1 3 then kr false else bif !U49.v (cvI (cellAt j o.toNat (1 + 1 + 1))) 0 999999 then kr false else bif !U49.v (cvI (cellAt j o.toNat (1 + 1 + 1 + 1))) 0 a then kr false else l5 N (fun _ p _ _ _ _ _ _ _ _ _ _ _ _ _ _ _ => kr p) (fun _ _ _ _ _ _ _ _ _ _ _ _ _ _ _ _ _ => kr true) N o false 0 a d e f h i j l m (cvS (cellAt j o.toNat 0)) (cvS (cellAt j o.toNat 1)) (cvI (cellAt j o.toNat (1 + 1))) (cvI (cellAt j o.toNat (1 + 1 + 1))) (cvI (cellAt j o.toNat (1 + 1 + 1 + 1))) else none
def vo := b Lib.big fun r0 => some r0
def c := fun a d e f h i j l m o => (vo a d e f h i j l m o).isSome
def v := fun a d e f h i j l m o => (vo a d e f h i j l m o).getD false
theorem out {x} : ∀ a d e f h i j l m o, vo a d e f h i j l m o = some x -> c a d e f h i j l m o = true /\ v a d e f h i j l m o = x := fun _ _ _ _ _ _ _ _ _ _ => Lib.out_
end Go.FG.U134

namespace Go.FG.U43
def r9 {R : Type} (N : Nat) (g k0 k1 : F_biirrrrirri R) (a : Bool) (d e : Int) (f h i j : Row) (l : Int) (m o : Row) (p : Int) : Option R := bif decide (d < (o.length : Int)) then bif decide (0 <= d) && decide (d < (o.length : Int)) then bif !U49.v (cvI (cellAt o d.toNat 0)) 1 9 then k0 false d e f h i j l m o p else bif decide (d > 0) then bif decide (0 <= w64 (d - 1)) && decide (w64 (d - 1) < (o.length : Int)) then bif decide (cvI (cellAt o (w64 (d - 1)).toNat 0) ≥ cvI (cellAt o d.toNat 0)) then k0 false d e f h i j l m o p else bif !U50.v (cvS (cellAt o d.toNat 1)) then k0 false d e f h i j l m o p else bif !U49.v (cvI (cellAt o d.toNat (1 + 1 + 1 + 1))) 1 3 then k0 false d e f h i j l m o p else bif !U49.v (cvI (cellAt o d.toNat (1 + 1))) 0 (m.length : Int) then k0 false d e f h i j l m o p else bif decide (((cvS (cellAt o d.toNat (1 + 1 + 1 + 1 + 1))).size : Int) > 400) then k0 false d e f h i j l m o p else bif !U49.v (cvI (cellAt o d.toNat (1 + 1 + 1))) 0 e then k0 false d e f h i j l m o p else bif decide (cvI (cellAt o d.toNat (1 + 1 + 1 + 1 + 1 + 1)) < 0) then k0 false d e f h i j l m o p else g a (w64 (d + 1)) e f h i j l m o p else none else bif !U50.v (cvS (cellAt o d.toNat 1)) then k0 false d e f h i j l m o p else bif !U49.v (cvI (cellAt o d.toNat (1 + 1 + 1 + 1))) 1 3 then k0 false d e f h i j l m o p else bif !U49.v (cvI (cellAt o d.toNat (1 + 1))) 0 (m.length : Int) then k0 false d e f h i j l m o p else bif decide (((cvS (cellAt o d.toNat (1 + 1 + 1 + 1 + 1))).size : Int) > 400) then k0 false d e f h i j l m o p else bif !U49.v (cvI (cellAt o d.toNat (1 + 1 + 1))) 0 e then k0 false d e f h i j l m o p else bif decide (cvI (cellAt o d.toNat (1 + 1 + 1 + 1 + 1 + 1)) < 0) then k0 false d e f h i j l m o p else g a (w64 (d + 1)) e f h i j l m o p else none else k1 a d e f h i j l m o p
def l9 {R : Type} (N : Nat) (k0 k1 : F_biirrrrirri R) : Nat -> F_biirrrrirri R
 | 0 => fun _ _ _ _ _ _ _ _ _ _ _ => none
 | n + 1 => r9 N (l9 N k0 k1 n) k0 k1
def r4 {R : Type} (N : Nat) (g k0 k1 : F_biirrrrirri R) (a : Bool) (d e : Int) (f h i j : Row) (l : Int) (m o : Row) (p : Int) : Option R := bif decide (d < (m.length : Int)) then bif U134.c e f h i j l m o p d then bif !U134.v e f h i j l m o p d then k0 false d e f h i j l m o p else g a (w64 (d + 1)) e f h i j l m o p else none else k1 a d e f h i j l m o p
def l4 {R : Type} (N : Nat) (k0 k1 : F_biirrrrirri R) : Nat -> F_biirrrrirri R
 | 0 => fun _ _ _ _ _ _ _ _ _ _ _ => none
 | n + 1 => r4 N (l4 N k0 k1 n) k0 k1
def b {R : Type} (N : Nat) (kr : Bool -> Option R) (a : Int) (d e f h : Row) (i : Int) (j l : Row) (m : Int) : Option R := bif !U49.v a 1 1000000000 then kr false else bif U133.c a d e f h i j l m then bif !U133.v a d e f h i j l m then kr false else bif decide ((j.length : Int) > 20) then kr false else bif decide ((l.length : Int) > 6) then kr false else bif !U49.v m 0 1000000000 then kr false else l4 N (fun o _ _ _ _ _ _ _ _ _ _ => kr o) (fun p _ q r s t u w y z α => l9 N (fun xa _ _ _ _ _ _ _ _ _ _ => kr xa) (fun _ _ _ _ _ _ _ _ _ _ _ => kr true) N p 0 q r s t u w y z α) N false 0 a d e f h i j l m else none
def vo := b Lib.big fun r0 => some r0
def c := fun a d e f h i j l m => (vo a d e f h i j l m).isSome
def v := fun a d e f h i j l m => (vo a d e f h i j l m).getD false
theorem out {x} : ∀ a d e f h i j l m, vo a d e f h i j l m = some x -> c a d e f h i j l m = true /\ v a d e f h i j l m = x := fun _ _ _ _ _ _ _ _ _ => Lib.out_
end Go.FG.U43

namespace Go.FG.U113
def r5 {R : Type} (N : Nat) (g k0 k1 : F_biiirrrrirri R) (a : Bool) (d e f : Int) (h i j l : Row) (m : Int) (o p : Row) (q : Int) : Option R := bif decide (e < d) then bif decide (0 <= d) && decide (d < (o.length : Int)) then bif decide (cvI (cellAt o d.toNat 2) = 1) then bif decide (0 <= e) && decide (e < (o.length : Int)) then bif decide (cvI (cellAt o e.toNat 2) = 1) then bif decide (0 <= d) && decide (d < (o.length : Int)) then bif decide (0 <= e) && decide (e < (o.length : Int)) then bif List.beq (cvS (cellAt o d.toNat 0)).toList (cvS (cellAt o e.toNat 0)).toList then k0 false d e f h i j l m o p q else g a d (w64 (e + 1)) f h i j l m o p q else none else none else g a d (w64 (e + 1)) f h i j l m o p q else none else g a d (w64 (e + 1)) f h i j l m o p q else none else k1 a d e f h i j l m o p q
def l5 {R : Type} (N : Nat) (k0 k1 : F_biiirrrrirri R) : Nat -> F_biiirrrrirri R
 | 0 => fun _ _ _ _ _ _ _ _ _ _ _ _ => none
 | n + 1 => r5 N (l5 N k0 k1 n) k0 k1
def r2 {R : Type} (N : Nat) (g k0 k1 : F_biirrrrirri R) (a : Bool) (d e : Int) (f h i j : Row) (l : Int) (m o : Row) (p : Int) : Option R := bif decide (d < (m.length : Int)) then l5 N (fun q r _ s t u w y z α xa xb => k0 q r s t u w y z α xa xb) (fun xc xd _ xe xf xg xh xi xj xk xl xm => g xc (w64 (xd + 1)) xe xf xg xh xi xj xk xl xm) N a d 0 e f h i j l m o p else k1 a d e f h i j l m o p
def l2 {R : Type} (N : Nat) (k0 k1 : F_biirrrrirri R) : Nat -> F_biirrrrirri R
 | 0 => fun _ _ _ _ _ _ _ _ _ _ _ => none
 | n + 1 => r2 N (l2 N k0 k1 n) k0 k1
def b {R : Type} (N : Nat) (kr : Bool -> Option R) (a : Int) (d e f h : Row) (i : Int) (j l : Row) (m : Int) : Option R := l2 N (fun o _ _ _ _ _ _ _ _ _ _ => kr o) (fun _ _ _ _ _ _ _ _ _ _ _ => kr true) N false 0 a d e f h i j l m
def vo := b Lib.big fun r0 => some r0
def c := fun a d e f h i j l m => (vo a d e f h i j l m).isSome
def v := fun a d e f h i j l m => (vo a d e f h i j l m).getD false
theorem out {x} : ∀ a d e f h i j l m, vo a d e f h i j l m = some x -> c a d e f h i j l m = true /\ v a d e f h i j l m = x := fun _ _ _ _ _ _ _ _ _ => Lib.out_
end Go.FG.U113

namespace Go.FG.U242
def b {R : Type} (kr : Bool -> Option R) (a d : ByteArray) : Option R := bif decide ((a.size : Int) ≥ (d.size : Int)) then bif inB 0 (d.size : Int) (a.size : Int) then kr (List.beq (ByteArray.extract a (Int.toNat 0) (d.size : Int).toNat).toList (ByteArray.toList d)) else none else kr false
def vo := b fun r0 => some r0
def c := fun a d => (vo a d).isSome
def v := fun a d => (vo a d).getD false
theorem out {x} : ∀ a d, vo a d = some x -> c a d = true /\ v a d = x := fun _ _ => Lib.out_
end Go.FG.U242

namespace Go.FG.U199
def r3 {R : Type} (N : Nat) (g k0 k1 : F_biirrrrirrirrrisiiisi R) (a : Bool) (d e : Int) (f h i j : Row) (l : Int) (m o : Row) (p : Int) (q r s : Row) (t : Int) (u : ByteArray) (w y z : Int) (α : ByteArray) (xa : Int) : Option R := bif decide (d < (s.length : Int)) then bif decide (0 <= d) && decide (d < (s.length : Int)) then bif List.beq (cvS (cellAt s d.toNat 0)).toList (ByteArray.toList u) then bif decide (cvI (cellAt s d.toNat 1) = y) then bif List.beq (cvS (cellAt s d.toNat (1 + 1 + 1))).toList (ByteArray.toList α) then bif decide (cvI (cellAt s d.toNat (1 + 1)) > xa) then k0 (decide (z = 2)) d e f h i j l m o p q r s t u w y z α xa else g a (w64 (d + 1)) e f h i j l m o p q r s t u w y z α xa else g a (w64 (d + 1)) e f h i j l m o p q r s t u w y z α xa else g a (w64 (d + 1)) e f h i j l m o p q r s t u w y z α xa else g a (w64 (d + 1)) e f h i j l m o p q r s t u w y z α xa else none else k1 a d e f h i j l m o p q r s t u w y z α xa
def l3 {R : Type} (N : Nat) (k0 k1 : F_biirrrrirrirrrisiiisi R) : Nat -> F_biirrrrirrirrrisiiisi R
 | 0 => fun _ _ _ _ _ _ _ _ _ _ _ _ _ _ _ _ _ _ _ _ _ => none
 | n + 1 => r3 N (l3 N k0 k1 n) k0 k1
def b {R : Type} (N : Nat) (kr : Bool -> Option R) (a : Int) (d e f h : Row) (i : Int) (j l : Row) (m : Int) (o p q : Row) (r : Int) (s : ByteArray) (t u w : Int) (y : ByteArray) (z : Int) : Option R := bif decide (t = 0) then l3 N (fun α _ _ _ _ _ _ _ _ _ _ _ _ _ _ _ _ _ _ _ _ => kr α) (fun _ _ _ _ _ _ _ _ _ _ _ _ _ _ _ _ _ _ _ _ _ => kr false) N false 0 a d e f h i j l m o p q r s t u w y z else bif !U49.v t 1 (j.length : Int) then kr false else bif decide (0 <= w64 (t - 1)) && decide (w64 (t - 1) < (j.length : Int)) then bif !List.beq (cvS (cellAt j (w64 (t - 1)).toNat 0)).toList (ByteArray.toList s) then kr false else bif decide (w = 1) then bif List.beq (ByteArray.toList y) (cvS (cellAt j (w64 (t - 1)).toNat 1)).toList then kr (decide (cvI (cellAt j (w64 (t - 1)).toNat (1 + 1)) = 1)) else kr false else bif decide (w = 2) then bif List.beq (ByteArray.toList y) (cvS (cellAt j (w64 (t - 1)).toNat 1)).toList then kr (decide (cvI (cellAt j (w64 (t - 1)).toNat (1 + 1)) = 2)) else kr false else bif decide (w = 3) then bif decide (cvI (cellAt j (w64 (t - 1)).toNat (1 + 1)) = 3) then bif U242.c (cvS (cellAt j (w64 (t - 1)).toNat 1)) y then Lib.lt (U242.v (cvS (cellAt j (w64 (t - 1)).toNat 1)) y) fun xa => kr xa else none else kr false else kr false else none
def vo := b Lib.big fun r0 => some r0
def c := fun a d e f h i j l m o p q r s t u w y z => (vo a d e f h i j l m o p q r s t u w y z).isSome
def v := fun a d e f h i j l m o p q r s t u w y z => (vo a d e f h i j l m o p q r s t u w y z).getD false
theorem out {x} : ∀ a d e f h i j l m o p q r s t u w y z, vo a d e f h i j l m o p q r s t u w y z = some x -> c a d e f h i j l m o p q r s t u w y z = true /\ v a d e f h i j l m o p q r s t u w y z = x := fun _ _ _ _ _ _ _ _ _ _ _ _ _ _ _ _ _ _ _ => Lib.out_
end Go.FG.U199

namespace Go.FG.U114
def r2 {R : Type} (N : Nat) (g k0 k1 : F_biirrrrirrirrr R) (a : Bool) (d e : Int) (f h i j : Row) (l : Int) (m o : Row) (p : Int) (q r s : Row) : Option R := bif decide (d < (o.length : Int)) then bif decide (0 <= d) && decide (d < (o.length : Int)) then bif U199.c e f h i j l m o p q r s (cvI (cellAt o d.toNat 0)) (cvS (cellAt o d.toNat 1)) (cvI (cellAt o d.toNat (1 + 1))) (cvI (cellAt o d.toNat (1 + 1 + 1))) (cvI (cellAt o d.toNat (1 + 1 + 1 + 1))) (cvS (cellAt o d.toNat (1 + 1 + 1 + 1 + 1))) (cvI (cellAt o d.toNat (1 + 1 + 1 + 1 + 1 + 1))) then bif !U199.v e f h i j l m o p q r s (cvI (cellAt o d.toNat 0)) (cvS (cellAt o d.toNat 1)) (cvI (cellAt o d.toNat (1 + 1))) (cvI (cellAt o d.toNat (1 + 1 + 1))) (cvI (cellAt o d.toNat (1 + 1 + 1 + 1))) (cvS (cellAt o d.toNat (1 + 1 + 1 + 1 + 1))) (cvI (cellAt o d.toNat (1 + 1 + 1 + 1 + 1 + 1))) then k0 false d e f h i j l m o p q r s else g a (w64 (d + 1)) e f h i j l m o p q r s else none else none else k1 a d e f h i j l m o p q r s
def l2 {R : Type} (N : Nat) (k0 k1 : F_biirrrrirrirrr R) : Nat -> F_biirrrrirrirrr R
 | 0 => fun _ _ _ _ _ _ _ _ _ _ _ _ _ _ => none
 | n + 1 => r2 N (l2 N k0 k1 n) k0 k1
def b {R : Type} (N : Nat) (kr : Bool -> Option R) (a : Int) (d e f h : Row) (i : Int) (j l : Row) (m : Int) (o p q : Row) : Option R := l2 N (fun r _ _ _ _ _ _ _ _ _ _ _ _ _ => kr r) (fun _ _ _ _ _ _ _ _ _ _ _ _ _ _ => kr true) N false 0 a d e f h i j l m o p q
def vo := b Lib.big fun r0 => some r0
def c := fun a d e f h i j l m o p q => (vo a d e f h i j l m o p q).isSome
def v := fun a d e f h i j l m o p q => (vo a d e f h i j l m o p q).getD false
theorem out {x} : ∀ a d e f h i j l m o p q, vo a d e f h i j l m o p q = some x -> c a d e f h i j l m o p q = true /\ v a d e f h i j l m o p q = x := fun _ _ _ _ _ _ _ _ _ _ _ _ => Lib.out_
end Go.FG.U114

namespace Go.FG.U115
def r2 {R : Type} (N : Nat) (g k0 k1 : F_biirrrrirrirrr R) (a : Bool) (d e : Int) (f h i j : Row) (l : Int) (m o : Row) (p : Int) (q r s : Row) : Option R := bif decide (d < (f.length : Int)) then bif decide (0 <= d) && decide (d < (f.length : Int)) then bif U112.c s (cvS (cellAt f d.toNat 0)) (cvI (cellAt f d.toNat 1)) (cvI (cellAt f d.toNat (1 + 1))) (cvS (cellAt f d.toNat (1 + 1 + 1))) then bif !U112.v s (cvS (cellAt f d.toNat 0)) (cvI (cellAt f d.toNat 1)) (cvI (cellAt f d.toNat (1 + 1))) (cvS (cellAt f d.toNat (1 + 1 + 1))) then k0 false d e f h i j l m o p q r s else g a (w64 (d + 1)) e f h i j l m o p q r s else none else none else k1 a d e f h i j l m o p q r s
def l2 {R : Type} (N : Nat) (k0 k1 : F_biirrrrirrirrr R) : Nat -> F_biirrrrirrirrr R
 | 0 => fun _ _ _ _ _ _ _ _ _ _ _ _ _ _ => none
 | n + 1 => r2 N (l2 N k0 k1 n) k0 k1
def b {R : Type} (N : Nat) (kr : Bool -> Option R) (a : Int) (d e f h : Row) (i : Int) (j l : Row) (m : Int) (o p q : Row) : Option R := l2 N (fun r _ _ _ _ _ _ _ _ _ _ _ _ _ => kr r) (fun _ _ _ _ _ _ _ _ _ _ _ _ _ _ => kr true) N false 0 a d e f h i j l m o p q
def vo := b Lib.big fun r0 => some r0
def c := fun a d e f h i j l m o p q => (vo a d e f h i j l m o p q).isSome
def v := fun a d e f h i j l m o p q => (vo a d e f h i j l m o p q).getD false
theorem out {x} : ∀ a d e f h i j l m o p q, vo a d e f h i j l m o p q = some x -> c a d e f h i j l m o p q = true /\ v a d e f h i j l m o p q = x := fun _ _ _ _ _ _ _ _ _ _ _ _ => Lib.out_
end Go.FG.U115

namespace Go.FG.U32
def r3 {R : Type} (N : Nat) (g k0 k1 : F_biirrrrirrirrrr R) (a : Bool) (d e : Int) (f h i j : Row) (l : Int) (m o : Row) (p : Int) (q r s t : Row) : Option R := bif decide (d < (f.length : Int)) then bif decide (0 <= d) && decide (d < (f.length : Int)) then bif U52.v (cvS (cellAt f d.toNat 0)) (cvI (cellAt f d.toNat 1)) (cvI (cellAt f d.toNat (1 + 1))) (cvS (cellAt f d.toNat (1 + 1 + 1))) e then bif U112.c t (cvS (cellAt f d.toNat 0)) (cvI (cellAt f d.toNat 1)) (cvI (cellAt f d.toNat (1 + 1))) (cvS (cellAt f d.toNat (1 + 1 + 1))) then bif !U112.v t (cvS (cellAt f d.toNat 0)) (cvI (cellAt f d.toNat 1)) (cvI (cellAt f d.toNat (1 + 1))) (cvS (cellAt f d.toNat (1 + 1 + 1))) then k0 false d e f h i j l m o p q r s t else g a (w64 (d + 1)) e f h i j l m o p q r s t else none else g a (w64 (d + 1)) e f h i j l m o p q r s t else none else k1 a d e f h i j l m o p q r s t
def l3 {R : Type} (N : Nat) (k0 k1 : F_biirrrrirrirrrr R) : Nat -> F_biirrrrirrirrrr R
 | 0 => fun _ _ _ _ _ _ _ _ _ _ _ _ _ _ _ => none
 | n + 1 => r3 N (l3 N k0 k1 n) k0 k1
def b {R : Type} (N : Nat) (kr : Bool -> Option R) (a : Int) (d e f h : Row) (i : Int) (j l : Row) (m : Int) (o p q : Row) : Option R := bif U111.c o then l3 N (fun r _ _ _ _ _ _ _ _ _ _ _ _ _ _ => kr r) (fun _ _ s t u w y z α xa xb xc xd xe _ => bif U43.c s t u w y z α xa xb then bif U43.v s t u w y z α xa xb then bif U113.c s t u w y z α xa xb then bif U113.v s t u w y z α xa xb then bif U114.c s t u w y z α xa xb xc xd xe then bif U114.v s t u w y z α xa xb xc xd xe then bif U115.c s t u w y z α xa xb xc xd xe then kr (U115.v s t u w y z α xa xb xc xd xe) else none else kr false else none else kr false else none else kr false else none) N false 0 a d e f h i j l m o p q (U111.v o) else none
def vo := b Lib.big fun r0 => some r0
def c := fun a d e f h i j l m o p q => (vo a d e f h i j l m o p q).isSome
def v := fun a d e f h i j l m o p q => (vo a d e f h i j l m o p q).getD false
theorem out {x} : ∀ a d e f h i j l m o p q, vo a d e f h i j l m o p q = some x -> c a d e f h i j l m o p q = true /\ v a d e f h i j l m o p q = x := fun _ _ _ _ _ _ _ _ _ _ _ _ => Lib.out_
end Go.FG.U32

namespace Go.FG.U63
def b {R : Type} (kr : Bool -> Option R) (a d e : Int) : Option R := bif decide (a ≥ d) then kr (decide (a <= e)) else kr false
def v (a0 a1 a2 : Int) : Bool := bif decide (a0 ≥ a1) then decide (a0 <= a2) else false
theorem b_eq {R : Type} (kr : Bool -> Option R) (a0 a1 a2 : Int) : b kr a0 a1 a2 = kr (v a0 a1 a2) := by
 first | rfl | (unfold b v; simp only [Bool.cond_eq_ite]; (repeat' split) <;> rfl)
end Go.FG.U63

namespace Go.FG.U201
def r2 {R : Type} (N : Nat) (g k0 k1 : F_briir R) (a : Bool) (d : Row) (e f : Int) (h : Row) : Option R := bif decide (f < e) then bif decide (0 <= f) && decide (f < (d.length : Int)) then bif !U63.v ((cvS (cellAt d f.toNat 0)).size : Int) 1 8 then k0 false d e f h else bif decide (((cvS (cellAt d f.toNat 1)).size : Int) > 20000) then k0 false d e f h else bif !U63.v (cvI (cellAt d f.toNat (1 + 1))) 0 ((cvS (cellAt d f.toNat 1)).size : Int) then k0 false d e f h else bif decide (f > 0) then bif decide (0 <= w64 (f - 1)) && decide (w64 (f - 1) < (h.length : Int)) then bif !Op.bytesLess (cvS (cellAt h (w64 (f - 1)).toNat 0)).toList (cvS (cellAt d f.toNat 0)).toList then k0 false d e f h else g a d e (w64 (f + 1)) h else none else g a d e (w64 (f + 1)) h else none else k1 a d e f h
def l2 {R : Type} (N : Nat) (k0 k1 : F_briir R) : Nat -> F_briir R
 | 0 => fun _ _ _ _ _ => none
 | n + 1 => r2 N (l2 N k0 k1 n) k0 k1
def b {R : Type} (N : Nat) (kr : Bool -> Option R) (a : Row) : Option R := l2 N (fun d _ _ _ _ => kr d) (fun _ _ _ _ e => kr (decide ((e.length : Int) <= 30))) N false a (a.length : Int) 0 a
def vo := b Lib.big fun r0 => some r0
def c := fun a => (vo a).isSome
def v := fun a => (vo a).getD false
theorem out {x} : ∀ a, vo a = some x -> c a = true /\ v a = x := fun _ => Lib.out_
end Go.FG.U201

namespace Go.FG.U267
def b {R : Type} (kr : Bool -> Option R) (a d : ByteArray) (e : Int) (name1 : ByteArray) : Option R := kr (List.beq (ByteArray.toList a) (ByteArray.toList name1))
def v (a0 a1 : ByteArray) (a2 : Int) (name1 : ByteArray) : Bool := (List.beq (ByteArray.toList a0) (ByteArray.toList name1))
theorem b_eq {R : Type} (kr : Bool -> Option R) (a0 a1 : ByteArray) (a2 : Int) (name1 : ByteArray) : b kr a0 a1 a2 name1 = kr (v a0 a1 a2 name1) := by
 first | rfl | (unfold b v; simp only [Bool.cond_eq_ite]; (repeat' split) <;> rfl)
end Go.FG.U267

namespace Go.FG.U266a
def r2 {R : Type} (N : Nat) (g k0 k1 : F_rsiii R) (a : Row) (d : ByteArray) (e f h : Int) : Option R := bif decide (h < f) then bif decide (0 <= h) && decide (h < (a.length : Int)) then bif U267.v (cvS (cellAt a h.toNat 0)) (cvS (cellAt a h.toNat 1)) (cvI (cellAt a h.toNat (1 + 1))) d then k0 a d h f h else g a d e f (w64 (h + 1)) else none else k1 a d e f h
def l2 {R : Type} (N : Nat) (k0 k1 : F_rsiii R) : Nat -> F_rsiii R
 | 0 => fun _ _ _ _ _ => none
 | n + 1 => r2 N (l2 N k0 k1 n) k0 k1
def b {R : Type} (N : Nat) (kr : Int -> Option R) (a : Row) (name1 : ByteArray) : Option R := l2 N (fun _ _ d _ _ => kr d) (fun _ _ _ _ _ => kr (-1)) N a name1 0 (a.length : Int) 0
def vo := b Lib.big fun r0 => some r0
def c := fun a d => (vo a d).isSome
def v := fun a d => (vo a d).getD (0)
theorem out {x} : ∀ a d, vo a d = some x -> c a d = true /\ v a d = x := fun _ _ => Lib.out_
end Go.FG.U266a

namespace Go.FG.U244
def b {R : Type} (kr : Int -> Option R) (a : Row) (d : ByteArray) : Option R := bif U266a.c a d then kr (U266a.v a d) else none
def vo := b fun r0 => some r0
def c := fun a d => (vo a d).isSome
def v := fun a d => (vo a d).getD (0)
theorem out {x} : ∀ a d, vo a d = some x -> c a d = true /\ v a d = x := fun _ _ => Lib.out_
end Go.FG.U244

namespace Go.FG.U202
def b {R : Type} (kr : F_sb R) (a : Row) (d : ByteArray) : Option R := bif U244.c a d then bif decide (U244.v a d < 0) then kr ⟨#[]⟩ false else bif decide (0 <= U244.v a d) && decide (U244.v a d < (a.length : Int)) then kr (cvS (cellAt a (U244.v a d).toNat 1)) true else none else none
def vo := b fun r0 r1 => some (r0, r1)
def c := fun a d => (vo a d).isSome
def v := fun a d => (vo a d).getD (⟨#[]⟩, false)
theorem out {x} : ∀ a d, vo a d = some x -> c a d = true /\ v a d = x := fun _ _ => Lib.out_
end Go.FG.U202

namespace Go.FG.U245
def r5 {R : Type} (N : Nat) (g k0 k1 : F_siiibii R) (a : ByteArray) (d e f : Int) (h : Bool) (i j : Int) : Option R := bif decide (j < 5) then bif decide (w64 (d + j) < (a.size : Int)) then bif decide (0 <= w64 (d + j)) && decide (w64 (d + j) < (a.size : Int)) then bif decide (0 <= w64 (7 * j)) then bif decide (w64 (↑(btN a (w64 (d + j)).toNat) : Int) > 127) then g a d e f h (w64 (i + w64 (Int.tmod (w64 (↑(btN a (w64 (d + j)).toNat) : Int)) 128 * Int.pow 2 (if (w64 (7 * j)).toNat <= 64 then (w64 (7 * j)).toNat else 64)))) (w64 (j + 1)) else bif decide (j > 0) then bif decide (w64 (↑(btN a (w64 (d + j)).toNat) : Int) = 0) then k0 a d 0 0 false (w64 (i + w64 (Int.tmod (w64 (↑(btN a (w64 (d + j)).toNat) : Int)) 128 * Int.pow 2 (if (w64 (7 * j)).toNat <= 64 then (w64 (7 * j)).toNat else 64)))) j else bif decide (w64 (i + w64 (Int.tmod (w64 (↑(btN a (w64 (d + j)).toNat) : Int)) 128 * Int.pow 2 (if (w64 (7 * j)).toNat <= 64 then (w64 (7 * j)).toNat else 64))) > 1000000000) then k0 a d 0 0 false (w64 (i + w64 (Int.tmod (w64 (↑(btN a (w64 (d + j)).toNat) : Int)) 128 * Int.pow 2 (if (w64 (7 * j)).toNat <= 64 then (w64 (7 * j)).toNat else 64)))) j else k0 a d (w64 (i + w64 (Int.tmod (w64 (↑(btN a (w64 (d + j)).toNat) : Int)) 128 * Int.pow 2 (if (w64 (7 * j)).toNat <= 64 then (w64 (7 * j)).toNat else 64)))) (w64 (w64 (d + j) + 1)) true (w64 (i + w64 (Int.tmod (w64 (↑(btN a (w64 (d + j)).toNat) : Int)) 128 * Int.pow 2 (if (w64 (7 * j)).toNat <= 64 then (w64 (7 * j)).toNat else 64)))) j else bif decide (w64 (i + w64 (Int.tmod (w64 (↑(btN a (w64 (d + j)).toNat) : Int)) 128 * Int.pow 2 (if (w64 (7 * j)).toNat <= 64 then (w64 (7 * j)).toNat else 64))) > 1000000000) then k0 a d 0 0 false (w64 (i + w64 (Int.tmod (w64 (↑(btN a (w64 (d + j)).toNat) : Int)) 128 * Int.pow 2 (if (w64 (7 * j)).toNat <= 64 then (w64 (7 * j)).toNat else 64)))) j else k0 a d (w64 (i + w64 (Int.tmod (w64 (↑(btN a (w64 (d + j)).toNat) : Int)) 128 * Int.pow 2 (if (w64 (7 * j)).toNat <= 64 then (w64 (7 * j)).toNat else 64)))) (w64 (w64 (d + j) + 1)) true (w64 (i + w64 (Int.tmod (w64 (↑(btN a (w64 (d + j)).toNat) : Int)) 128 * Int.pow 2 (if (w64 (7 * j)).toNat <= 64 then (w64 (7 * j)).toNat else 64)))) j else none else none else k1 a d e f h i j else k1 a d e f h i j
def l5 {R : Type} (N : Nat) (k0 k1 : F_siiibii R) : Nat -> F_siiibii R
 | 0 => fun _ _ _ _ _ _ _ => none
 | n + 1 => r5 N (l5 N k0 k1 n) k0 k1
def b {R : Type} (N : Nat) (kr : F_iib R) (a : ByteArray) (d : Int) : Option R := bif !U63.v d 0 (a.size : Int) then kr 0 0 false else l5 N (fun _ _ e f h _ _ => kr e f h) (fun _ _ _ _ _ _ _ => kr 0 0 false) N a d 0 0 false 0 0
def v (text0 : ByteArray) (at1 : Int) : Int × Int × Bool := if 0 <= at1 /\ at1 <= text0.size then Lib.rv text0 at1.toNat 5 0 0 else (0, 0, false)
theorem b_eq {R : Type} (kr : F_iib R) (text0 : ByteArray) (at1 : Int) (f0 : okS text0) : ∃ N, b N kr text0 at1 = kr (v text0 at1).1 (v text0 at1).2.1 (v text0 at1).2.2 := by
 refine ⟨6, ?_⟩
 unfold b v
 by_cases hn : 0 <= at1 /\ at1 <= text0.size
 ·have e : U63.v at1 0 (text0.size : Int) = true := by simp [U63.v, hn]
  obtain ⟨a, rfl⟩ : ∃ a : Nat, at1 = (a : Int) := ⟨at1.toNat, by omega⟩
  have ha : a <= text0.size := by omega
  rw [e, if_pos hn, Lib.toN]
  have hs : text0.size <= 4611686018427387904 := f0
  simp only [Bool.not_true, cond_false]
  have := Lib.loop_gen (fun m (s : Nat × Int) => l5 6 (fun y7 y8 y9 y10 y11 y12 y13 => kr y9 y10 y11) (fun y14 y15 y16 y17 y18 y19 y20 => kr 0 0 false) m text0 a 0 0 false s.2 s.1) (fun s => 5 - s.1) (fun s => s.1 <= 5 /\ 0 <= s.2 /\ s.2 < 128 ^ s.1)
   (fun s => kr (Lib.rv text0 a (5 - s.1) s.1 s.2).1 (Lib.rv text0 a (5 - s.1) s.1 s.2).2.1 (Lib.rv text0 a (5 - s.1) s.1 s.2).2.2) (fun m s hs5 => by
   obtain ⟨j, n⟩ := s
   obtain ⟨hj, h0, hlt⟩ := hs5
   dsimp only at hj h0 hlt ⊢
   have hb := Lib.btN_lt text0 (a + j)
   by_cases hj5 : j < 5
   ·by_cases hin : a + j < text0.size
    ·have ew : w64 ((a : Int) + (j : Int)) = ((a + j : Nat) : Int) := by rw [w64_eq (by omega) (by omega)]; omega
     have ew2 : w64 ((a + j : Nat) : Int) = ((a + j : Nat) : Int) := w64_eq (by omega) (by omega)
     have eb : w64 (btN text0 (a + j) : Int) = (btN text0 (a + j) : Int) := w64_eq (by omega) (by omega)
     have em : Int.tmod (btN text0 (a + j) : Int) 128 = (btN text0 (a + j) : Int) % 128 := Int.tmod_eq_emod_of_nonneg (by omega)
     have e7 : w64 (7 * (j : Int)) = ((7 * j : Nat) : Int) := by rw [w64_eq (by omega) (by omega)]; omega
     have ep : Int.pow 2 (if 7 * j <= 64 then 7 * j else 64) = 128 ^ j := by
      rw [if_pos (by omega)]
      show (2 : Int) ^ (7 * j) = 128 ^ j
      rw [Int.pow_mul]; rfl
     have hp : (128 : Int) ^ j <= 268435456 /\ (1 : Int) <= 128 ^ j /\ (128 : Int) ^ (j + 1) = 128 * 128 ^ j := by
      obtain rfl | rfl | rfl | rfl | rfl : j = 0 \/ j = 1 \/ j = 2 \/ j = 3 \/ j = 4 := by omega
      all_goals decide
     have hm0 : 0 <= (btN text0 (a + j) : Int) % 128 /\ (btN text0 (a + j) : Int) % 128 <= 127 := by omega
     have hq : 0 <= (btN text0 (a + j) : Int) % 128 * 128 ^ j /\ (btN text0 (a + j) : Int) % 128 * 128 ^ j <= 127 * 128 ^ j :=
      ⟨Int.mul_nonneg hm0.1 (by omega), Int.mul_le_mul_of_nonneg_right hm0.2 (by omega)⟩
     have eq1 : w64 ((btN text0 (a + j) : Int) % 128 * 128 ^ j) = (btN text0 (a + j) : Int) % 128 * 128 ^ j := w64_eq (by omega) (by omega)
     have eq2 : w64 (n + (btN text0 (a + j) : Int) % 128 * 128 ^ j) = n + (btN text0 (a + j) : Int) % 128 * 128 ^ j := w64_eq (by omega) (by omega)
     have ej : w64 ((j : Int) + 1) = ((j + 1 : Nat) : Int) := Lib.w64_s hj5 (by omega)
     have ef : 5 - j = (5 - (j + 1)) + 1 := by omega
     have c1 : decide ((j : Int) < 5) = true := by simp; omega
     have c2 : decide (((a + j : Nat) : Int) < (text0.size : Int)) = true := Lib.dlt_t hin
     have hrv : Lib.rv text0 a (5 - j) j n = (if (btN text0 (a + j) : Int) > 127 then Lib.rv text0 a (5 - (j + 1)) (j + 1) (n + (btN text0 (a + j) : Int) % 128 * 128 ^ j)
       else if (j > 0 /\ btN text0 (a + j) = 0) \/ n + (btN text0 (a + j) : Int) % 128 * 128 ^ j > 1000000000 then (0, 0, false)
       else (n + (btN text0 (a + j) : Int) % 128 * 128 ^ j, ((a + j + 1 : Nat) : Int), true)) := by
      rw [ef]; simp only [Lib.rv]; rw [if_pos hin]
     have en : w64 (((a + j : Nat) : Int) + 1) = ((a + j + 1 : Nat) : Int) := Lib.w64_s hin (by omega)
     simp only [l5, r5, c1, ew, c2, Lib.dle0, Lib.toN, eb, em, e7, ep, eq1, eq2, ej, en, cond_true, Bool.and_self]
     by_cases hc : (btN text0 (a + j) : Int) > 127
     ·right
      rw [decide_eq_true hc]
      exact ⟨(j + 1, n + (btN text0 (a + j) : Int) % 128 * 128 ^ j), ⟨by dsimp only; omega, by dsimp only; omega, by dsimp only; omega⟩, by dsimp only; omega, by dsimp only; rw [hrv, if_pos hc], rfl⟩
     ·left
      rw [decide_eq_false hc, cond_false, hrv, if_neg hc]
      by_cases hj0 : (j : Int) > 0
      ·rw [decide_eq_true hj0, cond_true]
       by_cases hz : (btN text0 (a + j) : Int) = 0
       ·rw [decide_eq_true hz, if_pos (.inl ⟨by omega, by omega⟩)]; rfl
       ·rw [decide_eq_false hz, cond_false]
        by_cases hbig : n + (btN text0 (a + j) : Int) % 128 * 128 ^ j > 1000000000
        ·rw [decide_eq_true hbig, if_pos (.inr hbig)]; rfl
        ·rw [decide_eq_false hbig, if_neg (by omega)]; rfl
      ·rw [decide_eq_false hj0, cond_false]
       by_cases hbig : n + (btN text0 (a + j) : Int) % 128 * 128 ^ j > 1000000000
       ·rw [decide_eq_true hbig, if_pos (.inr hbig)]; rfl
       ·rw [decide_eq_false hbig, if_neg (by omega)]; rfl
    ·left
     have ew : w64 ((a : Int) + (j : Int)) = ((a + j : Nat) : Int) := by rw [w64_eq (by omega) (by omega)]; omega
     have ef : 5 - j = (5 - (j + 1)) + 1 := by omega
     have hrv : Lib.rv text0 a (5 - j) j n = (0, 0, false) := by rw [ef]; simp only [Lib.rv]; rw [if_neg hin]
     simp only [l5, r5, show decide ((j : Int) < 5) = true by simp; omega, ew, Lib.dlt_f hin, cond_true, cond_false, hrv]
   ·left
    have hj' : j = 5 := by omega
    subst hj'
    simp only [l5, r5, show decide (((5 : Nat) : Int) < 5) = false from rfl, cond_false]
    rfl) 6 (0, 0) ⟨by dsimp only; omega, by dsimp only; omega, by dsimp only; decide⟩ (by dsimp only; omega)
  exact this
 ·have e : U63.v at1 0 (text0.size : Int) = false := by
   simp [U63.v]; omega
  rw [e, if_neg hn]; rfl
end Go.FG.U245

namespace Go.FG.U253
def r6 {R : Type} (N : Nat) (g k0 : F_isii R) (a : Int) (d : ByteArray) (e f : Int) : Option R := bif decide (f < 8) then bif decide (Int.tmod a 2 = 1) then g (IntKind.wrap IntKind.u32 (↑(BitVec.toNat (BitVec.xor (BitVec.ofInt 32 (IntKind.wrap IntKind.u32 (Int.tdiv a 2))) (BitVec.ofInt 32 3558460437))) : Int)) d e (w64 (f + 1)) else g (IntKind.wrap IntKind.u32 (Int.tdiv a 2)) d e (w64 (f + 1)) else k0 a d e f
def l6 {R : Type} (N : Nat) (k0 : F_isii R) : Nat -> F_isii R
 | 0 => fun _ _ _ _ => none
 | n + 1 => r6 N (l6 N k0 n) k0
def r2 {R : Type} (N : Nat) (g k0 : F_isi R) (a : Int) (d : ByteArray) (e : Int) : Option R := bif decide (e < (d.size : Int)) then bif decide (0 <= e) && decide (e < (d.size : Int)) then l6 N (fun f h i _ => g f h (w64 (i + 1))) N (IntKind.wrap IntKind.u32 (↑(BitVec.toNat (BitVec.xor (BitVec.ofInt 32 a) (BitVec.ofInt 32 (IntKind.wrap IntKind.u32 (↑(btN d e.toNat) : Int))))) : Int)) d e 0 else none else k0 a d e
def l2 {R : Type} (N : Nat) (k0 : F_isi R) : Nat -> F_isi R
 | 0 => fun _ _ _ => none
 | n + 1 => r2 N (l2 N k0 n) k0
def b {R : Type} (N : Nat) (kr : Int -> Option R) (a : Int) (d : ByteArray) : Option R := l2 N (fun e _ _ => kr e) N a d 0
def vo := b Lib.big fun r0 => some r0
def c := fun a d => (vo a d).isSome
def v := fun a d => (vo a d).getD (0)
theorem out {x} : ∀ a d, vo a d = some x -> c a d = true /\ v a d = x := fun _ _ => Lib.out_
end Go.FG.U253

namespace Go.FG.U224
def b {R : Type} (kr : Int -> Option R) (a : ByteArray) : Option R := bif U253.c 4294967295 a then kr (U253.v 4294967295 a) else none
def vo := b fun r0 => some r0
def c := fun a => (vo a).isSome
def v := fun a => (vo a).getD (0)
theorem out {x} : ∀ a, vo a = some x -> c a = true /\ v a = x := fun _ => Lib.out_
end Go.FG.U224

namespace Go.FG.U246
def b {R : Type} (kr : ByteArray -> Option R) (a : ByteArray) : Option R := bif U224.c a then kr (bytesOf (List.set (List.set (List.set (List.set (zeros [Ck.i IntKind.u8] 4) 0 [CV.i IntKind.u8 (IntKind.wrap IntKind.u8 (Int.fdiv (U224.v a) (Int.pow 2 (if Int.toNat 24 <= 32 then Int.toNat 24 else 32))))]) 1 [CV.i IntKind.u8 (IntKind.wrap IntKind.u8 (Int.fdiv (U224.v a) (Int.pow 2 (if Int.toNat 16 <= 32 then Int.toNat 16 else 32))))]) 2 [CV.i IntKind.u8 (IntKind.wrap IntKind.u8 (Int.fdiv (U224.v a) (Int.pow 2 (if Int.toNat 8 <= 32 then Int.toNat 8 else 32))))]) 3 [CV.i IntKind.u8 (IntKind.wrap IntKind.u8 (U224.v a))])) else none
def vo := b fun r0 => some r0
def c := fun a => (vo a).isSome
def v := fun a => (vo a).getD (⟨#[]⟩)
theorem out {x} : ∀ a, vo a = some x -> c a = true /\ v a = x := fun _ => Lib.out_
end Go.FG.U246

namespace Go.FG.U203
def r3 {R : Type} (N : Nat) (g k0 : F_sir R) (a : ByteArray) (d : Int) (e : Row) : Option R := bif decide ((a.size : Int) <= 20000) then bif !(U245.v a d).2.2 then k0 a d e else bif !U63.v (U245.v a d).1 1 9000 then k0 a d e else bif decide (w64 ((U245.v a d).1 + 4) > w64 ((a.size : Int) - (U245.v a d).2.1)) then k0 a d e else bif inB (w64 ((U245.v a d).2.1 + 4)) (w64 (w64 ((U245.v a d).2.1 + 4) + (U245.v a d).1)) (a.size : Int) then bif U246.c (ByteArray.extract a (w64 ((U245.v a d).2.1 + 4)).toNat (w64 (w64 ((U245.v a d).2.1 + 4) + (U245.v a d).1)).toNat) then bif inB (U245.v a d).2.1 (w64 ((U245.v a d).2.1 + 4)) (a.size : Int) then bif !List.beq (U246.v (ByteArray.extract a (w64 ((U245.v a d).2.1 + 4)).toNat (w64 (w64 ((U245.v a d).2.1 + 4) + (U245.v a d).1)).toNat)).toList (ByteArray.extract a (U245.v a d).2.1.toNat (w64 ((U245.v a d).2.1 + 4)).toNat).toList then k0 a d e else bif roomy (e.length + (List.set (zeros [.s] 1) 0 [.s (ByteArray.extract a (w64 ((U245.v a d).2.1 + 4)).toNat (w64 (w64 ((U245.v a d).2.1 + 4) + (U245.v a d).1)).toNat)]).length) 16 then g a (w64 (w64 ((U245.v a d).2.1 + 4) + (U245.v a d).1)) (e ++ List.set (zeros [.s] 1) 0 [.s (ByteArray.extract a (w64 ((U245.v a d).2.1 + 4)).toNat (w64 (w64 ((U245.v a d).2.1 + 4) + (U245.v a d).1)).toNat)]) else none else none else none else none else k0 a d e
def l3 {R : Type} (N : Nat) (k0 : F_sir R) : Nat -> F_sir R
 | 0 => fun _ _ _ => none
 | n + 1 => r3 N (l3 N k0 n) k0
def b {R : Type} (N : Nat) (kr : F_ri R) (a : ByteArray) : Option R := l3 N (fun _ d e => kr e d) N a 0 (zeros [.s] 0)
def vo := b Lib.big fun r0 r1 => some (r0, r1)
def c := fun a => (vo a).isSome
def v := fun a => (vo a).getD ([], 0)
theorem out {x} : ∀ a, vo a = some x -> c a = true /\ v a = x := fun _ => Lib.out_
end Go.FG.U203

namespace Go.FG.U247
def b {R : Type} (kr : F_sib R) (a : ByteArray) (d : Int) : Option R := bif !(U245.v a d).2.2 then kr ⟨#[]⟩ 0 false else bif decide ((U245.v a d).1 > 20000) then kr ⟨#[]⟩ 0 false else bif decide ((U245.v a d).1 > w64 ((a.size : Int) - (U245.v a d).2.1)) then kr ⟨#[]⟩ 0 false else bif inB (U245.v a d).2.1 (w64 ((U245.v a d).2.1 + (U245.v a d).1)) (a.size : Int) then kr (ByteArray.extract a (U245.v a d).2.1.toNat (w64 ((U245.v a d).2.1 + (U245.v a d).1)).toNat) (w64 ((U245.v a d).2.1 + (U245.v a d).1)) true else none
def v (text0 : ByteArray) (at1 : Int) : ByteArray × Int × Bool := Lib.readShort text0 at1
theorem b_eq {R : Type} (kr : F_sib R) (text0 : ByteArray) (at1 : Int) (f0 : okS text0) : b kr text0 at1 = kr (v text0 at1).1 (v text0 at1).2.1 (v text0 at1).2.2 := Lib.readShort_run f0 at1 kr
end Go.FG.U247

namespace Go.FG.U64
def b {R : Type} (kr : Bool -> Option R) (a : ByteArray) : Option R := kr (U63.v (a.size : Int) 1 30)
def v (a0 : ByteArray) : Bool := (U63.v (a0.size : Int) 1 30)
theorem b_eq {R : Type} (kr : Bool -> Option R) (a0 : ByteArray) : b kr a0 = kr (v a0) := by
 first | rfl | (unfold b v; simp only [Bool.cond_eq_ite]; (repeat' split) <;> rfl)
end Go.FG.U64

namespace Go.FG.U100
def b {R : Type} (kr : Bool -> Option R) (a : Int) : Option R := kr (U63.v a 0 1000000000)
def v (a0 : Int) : Bool := (U63.v a0 0 1000000000)
theorem b_eq {R : Type} (kr : Bool -> Option R) (a0 : Int) : b kr a0 = kr (v a0) := by
 first | rfl | (unfold b v; simp only [Bool.cond_eq_ite]; (repeat' split) <;> rfl)
end Go.FG.U100

namespace Go.FG.U158
def b {R : Type} (kr : Bool -> Option R) (a : ByteArray) (d e : Int) (f : ByteArray) : Option R := bif U64.v a then bif U100.v d then bif U63.v e 1 999999 then kr (decide ((f.size : Int) <= 400)) else kr false else kr false else kr false
def v (a0 : ByteArray) (a1 a2 : Int) (a3 : ByteArray) : Bool := bif U64.v a0 then bif U100.v a1 then bif U63.v a2 1 999999 then decide ((a3.size : Int) <= 400) else false else false else false
theorem b_eq {R : Type} (kr : Bool -> Option R) (a0 : ByteArray) (a1 a2 : Int) (a3 : ByteArray) : b kr a0 a1 a2 a3 = kr (v a0 a1 a2 a3) := by
 first | rfl | (unfold b v; simp only [Bool.cond_eq_ite]; (repeat' split) <;> rfl)
end Go.FG.U158

namespace Go.FG.U204
def b {R : Type} (kr : F_siisb R) (a : ByteArray) : Option R := bif !(U247.v a 0).2.2 then kr ⟨#[]⟩ 0 0 ⟨#[]⟩ false else bif !(U245.v a (U247.v a 0).2.1).2.2 then kr ⟨#[]⟩ 0 0 ⟨#[]⟩ false else bif !(U245.v a (U245.v a (U247.v a 0).2.1).2.1).2.2 then kr ⟨#[]⟩ 0 0 ⟨#[]⟩ false else bif inB (U245.v a (U245.v a (U247.v a 0).2.1).2.1).2.1 (a.size : Int) (a.size : Int) then bif !U158.v (U247.v a 0).1 (U245.v a (U247.v a 0).2.1).1 (U245.v a (U245.v a (U247.v a 0).2.1).2.1).1 (ByteArray.extract a (U245.v a (U245.v a (U247.v a 0).2.1).2.1).2.1.toNat (a.size : Int).toNat) then kr ⟨#[]⟩ 0 0 ⟨#[]⟩ false else kr (U247.v a 0).1 (U245.v a (U247.v a 0).2.1).1 (U245.v a (U245.v a (U247.v a 0).2.1).2.1).1 (ByteArray.extract a (U245.v a (U245.v a (U247.v a 0).2.1).2.1).2.1.toNat (a.size : Int).toNat) true else none
def v (t0 : ByteArray) : ByteArray × Int × Int × ByteArray × Bool := U197.v t0
theorem b_eq {R : Type} (kr : F_siisb R) (t0 : ByteArray) (f0 : okS t0) : b kr t0 = kr (v t0).1 (v t0).2.1 (v t0).2.2.1 (v t0).2.2.2.1 (v t0).2.2.2.2 := by
 have e1 : U247.v = Lib.readShort := rfl
 have e2 : U245.v = Lib.readVar := rfl
 have e3 : ∀ a b c d, U158.v a b c d = U141.v a b c d := fun _ _ _ _ => rfl
 unfold b v U197.v
 simp only [e1, e2, e3, Lib.toN]
 cases h1 : Lib.readShort t0 0 with
 | mk k r1 =>
  obtain ⟨a, ok1⟩ := r1
  cases ok1 with
  | false => rfl
  | true =>
   dsimp only
   cases h2 : Lib.readVar t0 a with
   | mk s r2 =>
    obtain ⟨x, ok2⟩ := r2
    cases ok2 with
    | false => rfl
    | true =>
     dsimp only
     cases h3 : Lib.readVar t0 x with
     | mk l r3 =>
      obtain ⟨y, ok3⟩ := r3
      cases ok3 with
      | false => rfl
      | true =>
       obtain ⟨r1, r2, r3, r4, r5, r6⟩ := Lib.readVar_ok h3
       dsimp only
       simp only [Bool.not_true, cond_false]
       rw [Lib.bif_t (show inB y (t0.size : Int) (t0.size : Int) = true by simp [inB]; omega)]
       cases hE : U141.v k s l (t0.extract y.toNat t0.size) with
       | false => rfl
       | true => rfl
end Go.FG.U204

namespace Go.FG.U154
def b {R : Type} (kr : Row -> Option R) (a : Row) : Option R := bif roomy ((zeros [Ck.s, Ck.i IntKind.i64, Ck.i IntKind.i64, Ck.s] 0).length + a.length) 48 then kr (zeros [Ck.s, Ck.i IntKind.i64, Ck.i IntKind.i64, Ck.s] 0 ++ a) else none
def vo := b fun r0 => some r0
def c := fun a => (vo a).isSome
def v := fun a => (vo a).getD ([])
theorem out {x} : ∀ a, vo a = some x -> c a = true /\ v a = x := fun _ => Lib.out_
end Go.FG.U154

namespace Go.FG.U67
def b {R : Type} (kr : Bool -> Option R) (a : ByteArray) (d e : Int) (f key1 : ByteArray) : Option R := kr (List.beq (ByteArray.toList a) (ByteArray.toList key1))
def v (a0 : ByteArray) (a1 a2 : Int) (a3 key1 : ByteArray) : Bool := (List.beq (ByteArray.toList a0) (ByteArray.toList key1))
theorem b_eq {R : Type} (kr : Bool -> Option R) (a0 : ByteArray) (a1 a2 : Int) (a3 key1 : ByteArray) : b kr a0 a1 a2 a3 key1 = kr (v a0 a1 a2 a3 key1) := by
 first | rfl | (unfold b v; simp only [Bool.cond_eq_ite]; (repeat' split) <;> rfl)
end Go.FG.U67

namespace Go.FG.U66a
def r2 {R : Type} (N : Nat) (g k0 k1 : F_rsiii R) (a : Row) (d : ByteArray) (e f h : Int) : Option R := bif decide (h < f) then bif decide (0 <= h) && decide (h < (a.length : Int)) then bif U67.v (cvS (cellAt a h.toNat 0)) (cvI (cellAt a h.toNat 1)) (cvI (cellAt a h.toNat (1 + 1))) (cvS (cellAt a h.toNat (1 + 1 + 1))) d then k0 a d h f h else g a d e f (w64 (h + 1)) else none else k1 a d e f h
def l2 {R : Type} (N : Nat) (k0 k1 : F_rsiii R) : Nat -> F_rsiii R
 | 0 => fun _ _ _ _ _ => none
 | n + 1 => r2 N (l2 N k0 k1 n) k0 k1
def b {R : Type} (N : Nat) (kr : Int -> Option R) (a : Row) (key1 : ByteArray) : Option R := l2 N (fun _ _ d _ _ => kr d) (fun _ _ _ _ _ => kr (-1)) N a key1 0 (a.length : Int) 0
def vo := b Lib.big fun r0 => some r0
def c := fun a d => (vo a d).isSome
def v := fun a d => (vo a d).getD (0)
theorem out {x} : ∀ a d, vo a d = some x -> c a d = true /\ v a d = x := fun _ _ => Lib.out_
end Go.FG.U66a

namespace Go.FG.U167
def b {R : Type} (kr : Bool -> Option R) (a : ByteArray) (d e : Int) (f key1 : ByteArray) : Option R := kr (List.beq (ByteArray.toList a) (ByteArray.toList key1))
def v (a0 : ByteArray) (a1 a2 : Int) (a3 key1 : ByteArray) : Bool := (List.beq (ByteArray.toList a0) (ByteArray.toList key1))
theorem b_eq {R : Type} (kr : Bool -> Option R) (a0 : ByteArray) (a1 a2 : Int) (a3 key1 : ByteArray) : b kr a0 a1 a2 a3 key1 = kr (v a0 a1 a2 a3 key1) := by
 first | rfl | (unfold b v; simp only [Bool.cond_eq_ite]; (repeat' split) <;> rfl)
end Go.FG.U167

namespace Go.FG.U66b
def r2 {R : Type} (N : Nat) (g k0 k1 : F_rsiii R) (a : Row) (d : ByteArray) (e f h : Int) : Option R := bif decide (h < f) then bif decide (0 <= h) && decide (h < (a.length : Int)) then bif U167.v (cvS (cellAt a h.toNat 0)) (cvI (cellAt a h.toNat 1)) (cvI (cellAt a h.toNat (1 + 1))) (cvS (cellAt a h.toNat (1 + 1 + 1))) d then k0 a d h f h else g a d e f (w64 (h + 1)) else none else k1 a d e f h
def l2 {R : Type} (N : Nat) (k0 k1 : F_rsiii R) : Nat -> F_rsiii R
 | 0 => fun _ _ _ _ _ => none
 | n + 1 => r2 N (l2 N k0 k1 n) k0 k1
def b {R : Type} (N : Nat) (kr : Int -> Option R) (a : Row) (key1 : ByteArray) : Option R := l2 N (fun _ _ d _ _ => kr d) (fun _ _ _ _ _ => kr (-1)) N a key1 0 (a.length : Int) 0
def vo := b Lib.big fun r0 => some r0
def c := fun a d => (vo a d).isSome
def v := fun a d => (vo a d).getD (0)
theorem out {x} : ∀ a d, vo a d = some x -> c a d = true /\ v a d = x := fun _ _ => Lib.out_
end Go.FG.U66b

namespace Go.FG.U166
def r5 {R : Type} (N : Nat) (g k0 : F_siir R) (a : ByteArray) (d e : Int) (f : Row) : Option R := bif decide (e < (f.length : Int)) then bif decide (0 <= e) && decide (e < (f.length : Int)) then bif !U167.v (cvS (cellAt f e.toNat 0)) (cvI (cellAt f e.toNat 1)) (cvI (cellAt f e.toNat (1 + 1))) (cvS (cellAt f e.toNat (1 + 1 + 1))) a then bif decide (0 <= d) && decide (d < (f.length : Int)) then g a (w64 (d + 1)) (w64 (e + 1)) (setC f d.toNat 0 [.s (cvS (cellAt f e.toNat 0)), .i .i64 (cvI (cellAt f e.toNat 1)), .i .i64 (cvI (cellAt f e.toNat (1 + 1))), .s (cvS (cellAt f e.toNat (1 + 1 + 1)))]) else none else g a d (w64 (e + 1)) f else none else k0 a d e f
def l5 {R : Type} (N : Nat) (k0 : F_siir R) : Nat -> F_siir R
 | 0 => fun _ _ _ _ => none
 | n + 1 => r5 N (l5 N k0 n) k0
def b {R : Type} (N : Nat) (kr : Row -> Option R) (a : Row) (key1 : ByteArray) : Option R := bif U66b.c a key1 then bif decide (U66b.v a key1 = Int.neg 1) then kr a else l5 N (fun _ d _ e => bif inB d (e.length : Int) (e.length : Int) then bif inB 0 d ((List.take d.toNat e ++ zeros [Ck.s, Ck.i IntKind.i64, Ck.i IntKind.i64, Ck.s] ((e.length : Int).toNat - d.toNat) ++ List.drop (e.length : Int).toNat e).length : Int) then kr (view (List.take d.toNat e ++ zeros [Ck.s, Ck.i IntKind.i64, Ck.i IntKind.i64, Ck.s] ((e.length : Int).toNat - d.toNat) ++ List.drop (e.length : Int).toNat e) (Int.toNat 0) d.toNat) else none else none) N key1 (U66b.v a key1) (w64 (U66b.v a key1 + 1)) a else none
def vo := b Lib.big fun r0 => some r0
def c := fun a d => (vo a d).isSome
def v := fun a d => (vo a d).getD ([])
theorem out {x} : ∀ a d, vo a d = some x -> c a d = true /\ v a d = x := fun _ _ => Lib.out_
end Go.FG.U166

namespace Go.FG.U72
def b {R : Type} (kr : Row -> Option R) (a : Row) (d : ByteArray) : Option R := bif U154.c a then bif U166.c (U154.v a) d then kr (U166.v (U154.v a) d) else none else none
def vo := b fun r0 => some r0
def c := fun a d => (vo a d).isSome
def v := fun a d => (vo a d).getD ([])
theorem out {x} : ∀ a d, vo a d = some x -> c a d = true /\ v a d = x := fun _ _ => Lib.out_
end Go.FG.U72


namespace Go.FG.U192
def r3 {R : Type} (N : Nat) (g k0 : F_isiisr R) (a : Int) (d : ByteArray) (e f : Int) (h : ByteArray) (i : Row) : Option R := bif decide (a < (i.length : Int)) then bif decide (0 <= a) && decide (a < (i.length : Int)) then bif Op.bytesLess (cvS (cellAt i a.toNat 0)).toList (ByteArray.toList d) then g (w64 (a + 1)) d e f h i else k0 a d e f h i else none else k0 a d e f h i
def l3 {R : Type} (N : Nat) (k0 : F_isiisr R) : Nat -> F_isiisr R
 | 0 => fun _ _ _ _ _ _ => none
 | n + 1 => r3 N (l3 N k0 n) k0
def b {R : Type} (N : Nat) (kr : Row -> Option R) (a : Row) (d : ByteArray) (e f : Int) (h : ByteArray) : Option R := bif U72.c a d then l3 N (fun i j l m o p => bif decide (0 <= i) && decide (i <= (p.length : Int)) && roomy (p.length + (List.set (zeros [Ck.s, Ck.i IntKind.i64, Ck.i IntKind.i64, Ck.s] 1) 0 [.s j, .i .i64 l, .i .i64 m, .s o]).length) 48 then kr (Pu.insR p i.toNat (List.set (zeros [Ck.s, Ck.i IntKind.i64, Ck.i IntKind.i64, Ck.s] 1) 0 [.s j, .i .i64 l, .i .i64 m, .s o])) else none) N 0 d e f h (U72.v a d) else none
def vo := b Lib.big fun r0 => some r0
def c := fun a d e f h => (vo a d e f h).isSome
def v := fun a d e f h => (vo a d e f h).getD ([])
theorem out {x} : ∀ a d e f h, vo a d e f h = some x -> c a d e f h = true /\ v a d e f h = x := fun _ _ _ _ _ => Lib.out_
end Go.FG.U192

namespace Go.FG.U118
def r7 {R : Type} (N : Nat) (g k0 : F_iirr R) (a d : Int) (e f : Row) : Option R := bif decide (d < a) then bif decide (0 <= d) && decide (d < (f.length : Int)) then bif (U204.v (cvS (cellAt f d.toNat 0))).2.2.2.2 then bif U192.c e (U204.v (cvS (cellAt f d.toNat 0))).1 (U204.v (cvS (cellAt f d.toNat 0))).2.1 (U204.v (cvS (cellAt f d.toNat 0))).2.2.1 (U204.v (cvS (cellAt f d.toNat 0))).2.2.2.1 then g a (w64 (d + 1)) (U192.v e (U204.v (cvS (cellAt f d.toNat 0))).1 (U204.v (cvS (cellAt f d.toNat 0))).2.1 (U204.v (cvS (cellAt f d.toNat 0))).2.2.1 (U204.v (cvS (cellAt f d.toNat 0))).2.2.2.1) f else none else g a (w64 (d + 1)) e f else none else k0 a d e f
def l7 {R : Type} (N : Nat) (k0 : F_iirr R) : Nat -> F_iirr R
 | 0 => fun _ _ _ _ => none
 | n + 1 => r7 N (l7 N k0 n) k0
def b {R : Type} (N : Nat) (kr : Row -> Option R) (a : Row) : Option R := bif U201.c a then bif !U201.v a then kr (zeros [Ck.s, Ck.i IntKind.i64, Ck.i IntKind.i64, Ck.s] 0) else bif U202.c a { data := #[UInt8.ofNat 107, UInt8.ofNat 101, UInt8.ofNat 112, UInt8.ofNat 116] } then bif U203.c (U202.v a { data := #[UInt8.ofNat 107, UInt8.ofNat 101, UInt8.ofNat 112, UInt8.ofNat 116] }).1 then l7 N (fun _ _ d _ => kr d) N ((U203.v (U202.v a { data := #[UInt8.ofNat 107, UInt8.ofNat 101, UInt8.ofNat 112, UInt8.ofNat 116] }).1).1.length : Int) 0 (zeros [Ck.s, Ck.i IntKind.i64, Ck.i IntKind.i64, Ck.s] 0) (U203.v (U202.v a { data := #[UInt8.ofNat 107, UInt8.ofNat 101, UInt8.ofNat 112, UInt8.ofNat 116] }).1).1 else none else none else none
def vo := b Lib.big fun r0 => some r0
def c := fun a => (vo a).isSome
def v := fun a => (vo a).getD ([])
theorem out {x} : ∀ a, vo a = some x -> c a = true /\ v a = x := fun _ => Lib.out_
end Go.FG.U118

namespace Go.FG.U68
def b {R : Type} (kr : Bool -> Option R) (a : ByteArray) (d e : Int) (f : ByteArray) (h : Int) : Option R := bif U158.v a d e f then bif U100.v h then kr (U63.v h d (w64 (w64 (d + e) - 1))) else kr false else kr false
def v (a0 : ByteArray) (a1 a2 : Int) (a3 : ByteArray) (a4 : Int) : Bool := bif U158.v a0 a1 a2 a3 then bif U100.v a4 then U63.v a4 a1 (w64 (w64 (a1 + a2) - 1)) else false else false
theorem b_eq {R : Type} (kr : Bool -> Option R) (a0 : ByteArray) (a1 a2 : Int) (a3 : ByteArray) (a4 : Int) : b kr a0 a1 a2 a3 a4 = kr (v a0 a1 a2 a3 a4) := by
 first | rfl | (unfold b v; simp only [Bool.cond_eq_ite]; (repeat' split) <;> rfl)
end Go.FG.U68

namespace Go.FG.U205
def r2 {R : Type} (N : Nat) (g k0 k1 : F_riiisiis R) (a : Row) (d e f : Int) (h : ByteArray) (i j : Int) (l : ByteArray) : Option R := bif decide (f < e) then bif decide (0 <= f) && decide (f < (a.length : Int)) then bif List.beq (ByteArray.toList h) (cvS (cellAt a f.toNat 0)).toList && (decide (i = cvI (cellAt a f.toNat 1)) && (decide (j = cvI (cellAt a f.toNat (1 + 1))) && (List.beq (ByteArray.toList l) (cvS (cellAt a f.toNat (1 + 1 + 1))).toList && true))) then k0 a f e f h i j l else g a d e (w64 (f + 1)) h i j l else none else k1 a d e f h i j l
def l2 {R : Type} (N : Nat) (k0 k1 : F_riiisiis R) : Nat -> F_riiisiis R
 | 0 => fun _ _ _ _ _ _ _ _ => none
 | n + 1 => r2 N (l2 N k0 k1 n) k0 k1
def b {R : Type} (N : Nat) (kr : Int -> Option R) (a : Row) (d : ByteArray) (e f : Int) (h : ByteArray) : Option R := l2 N (fun _ i _ _ _ _ _ _ => kr i) (fun _ _ _ _ _ _ _ _ => kr (-1)) N a 0 (a.length : Int) 0 d e f h
def vo := b Lib.big fun r0 => some r0
def c := fun a d e f h => (vo a d e f h).isSome
def v := fun a d e f h => (vo a d e f h).getD (0)
theorem out {x} : ∀ a d e f h, vo a d e f h = some x -> c a d e f h = true /\ v a d e f h = x := fun _ _ _ _ _ => Lib.out_
end Go.FG.U205

namespace Go.FG.U119
def b {R : Type} (kr : Bool -> Option R) (a : Row) (d : ByteArray) (e f : Int) (h : ByteArray) : Option R := bif U205.c a d e f h then kr (decide (U205.v a d e f h ≥ 0)) else none
def vo := b fun r0 => some r0
def c := fun a d e f h => (vo a d e f h).isSome
def v := fun a d e f h => (vo a d e f h).getD false
theorem out {x} : ∀ a d e f h, vo a d e f h = some x -> c a d e f h = true /\ v a d e f h = x := fun _ _ _ _ _ => Lib.out_
end Go.FG.U119

namespace Go.FG.U261
def b {R : Type} (kr : Row -> Option R) (a : Int) : Option R := bif decide (a < 0) then none else bif decide (w64 (a - w64 (0 - 0)) > 0) then bif decide (0 <= w64 (a - w64 (0 - 0))) && roomy (([] : Row).length + (w64 (a - w64 (0 - 0))).toNat) 16 && decide (w64 (a - w64 (0 - 0)) <= 9223372036854775807) then kr (view ([] ++ zeros [.s] (w64 (a - w64 (0 - 0))).toNat) (Int.toNat 0) (Int.toNat 0)) else none else kr []
def vo := b fun r0 => some r0
def c := fun a => (vo a).isSome
def v := fun a => (vo a).getD ([])
theorem out {x} : ∀ a, vo a = some x -> c a = true /\ v a = x := fun _ => Lib.out_
end Go.FG.U261

namespace Go.FG.U233
def r11 {R : Type} (N : Nat) (g k0 : F_riir R) (a : Row) (d e : Int) (f : Row) : Option R := bif decide (e < d) then bif decide (0 <= e) && decide (e < (a.length : Int)) then bif roomy (f.length + (cvL (cellAt a e.toNat 0)).length) 16 then g a d (w64 (e + 1)) (f ++ cvL (cellAt a e.toNat 0)) else none else none else k0 a d e f
def l11 {R : Type} (N : Nat) (k0 : F_riir R) : Nat -> F_riir R
 | 0 => fun _ _ _ _ => none
 | n + 1 => r11 N (l11 N k0 n) k0
def r3 {R : Type} (N : Nat) (g k0 : F_ririi R) (a : Row) (d : Int) (e : Row) (f h : Int) : Option R := bif decide (h < f) then bif decide (0 <= h) && decide (h < (e.length : Int)) then bif decide (w64 (d + ((cvL (cellAt e h.toNat 0)).length : Int)) < 0) then none else g a (w64 (d + ((cvL (cellAt e h.toNat 0)).length : Int))) e f (w64 (h + 1)) else none else k0 a d e f h
def l3 {R : Type} (N : Nat) (k0 : F_ririi R) : Nat -> F_ririi R
 | 0 => fun _ _ _ _ _ => none
 | n + 1 => r3 N (l3 N k0 n) k0
def b {R : Type} (N : Nat) (kr : Row -> Option R) (a : Row) : Option R := l3 N (fun d e _ _ _ => bif U261.c e then l11 N (fun _ _ _ f => kr f) N d (d.length : Int) 0 (U261.v e) else none) N a 0 a (a.length : Int) 0
def vo := b Lib.big fun r0 => some r0
def c := fun a => (vo a).isSome
def v := fun a => (vo a).getD ([])
theorem out {x} : ∀ a, vo a = some x -> c a = true /\ v a = x := fun _ => Lib.out_
end Go.FG.U233

namespace Go.FG.U188
def b {R : Type} (kr : Row -> Option R) (a d e : Row) (f : Int) : Option R := bif U233.c (List.set (List.set (zeros [Ck.l 9] 2) 0 [CV.l 9 a]) 1 [CV.l 9 d]) then kr (U233.v (List.set (List.set (zeros [Ck.l 9] 2) 0 [CV.l 9 a]) 1 [CV.l 9 d])) else none
def vo := b fun r0 => some r0
def c := fun a d e f => (vo a d e f).isSome
def v := fun a d e f => (vo a d e f).getD ([])
theorem out {x} : ∀ a d e f, vo a d e f = some x -> c a d e f = true /\ v a d e f = x := fun _ _ _ _ => Lib.out_
end Go.FG.U188

namespace Go.FG.U218
def r2 {R : Type} (N : Nat) (g k0 k1 : F_rsiii R) (a : Row) (d : ByteArray) (e f h : Int) : Option R := bif decide (h < f) then bif decide (0 <= h) && decide (h < (a.length : Int)) then bif List.beq (ByteArray.toList d) (cvS (cellAt a h.toNat 0)).toList then k0 a d h f h else g a d e f (w64 (h + 1)) else none else k1 a d e f h
def l2 {R : Type} (N : Nat) (k0 k1 : F_rsiii R) : Nat -> F_rsiii R
 | 0 => fun _ _ _ _ _ => none
 | n + 1 => r2 N (l2 N k0 k1 n) k0 k1
def b {R : Type} (N : Nat) (kr : Int -> Option R) (a : Row) (d : ByteArray) : Option R := l2 N (fun _ _ e _ _ => kr e) (fun _ _ _ _ _ => kr (-1)) N a d 0 (a.length : Int) 0
def vo := b Lib.big fun r0 => some r0
def c := fun a d => (vo a d).isSome
def v := fun a d => (vo a d).getD (0)
theorem out {x} : ∀ a d, vo a d = some x -> c a d = true /\ v a d = x := fun _ _ => Lib.out_
end Go.FG.U218

namespace Go.FG.U160
def b {R : Type} (kr : Bool -> Option R) (a : Row) (d : ByteArray) : Option R := bif U218.c a d then kr (decide (U218.v a d ≥ 0)) else none
def vo := b fun r0 => some r0
def c := fun a d => (vo a d).isSome
def v := fun a d => (vo a d).getD false
theorem out {x} : ∀ a d, vo a d = some x -> c a d = true /\ v a d = x := fun _ _ => Lib.out_
end Go.FG.U160

namespace Go.FG.U187
def b {R : Type} (kr : Bool -> Option R) (a d e : Row) (f : Int) (h : ByteArray) : Option R := bif U188.c a d e f then bif U160.c (U188.v a d e f) h then kr (U160.v (U188.v a d e f) h) else none else none
def vo := b fun r0 => some r0
def c := fun a d e f h => (vo a d e f h).isSome
def v := fun a d e f h => (vo a d e f h).getD false
theorem out {x} : ∀ a d e f h, vo a d e f h = some x -> c a d e f h = true /\ v a d e f h = x := fun _ _ _ _ _ => Lib.out_
end Go.FG.U187

namespace Go.FG.U169
def r5 {R : Type} (N : Nat) (g k0 k1 : F_brriiriiri R) (a : Bool) (d e : Row) (f h : Int) (i : Row) (j l : Int) (m : Row) (o : Int) : Option R := bif decide (l < j) then bif decide (0 <= l) && decide (l < (i.length : Int)) then bif !U63.v (cvI (cellAt i l.toNat 0)) 0 15 then k0 false d e f h i j l m o else g a d e f h i j (w64 (l + 1)) m o else none else k1 a d e f h i j l m o
def l5 {R : Type} (N : Nat) (k0 k1 : F_brriiriiri R) : Nat -> F_brriiriiri R
 | 0 => fun _ _ _ _ _ _ _ _ _ _ => none
 | n + 1 => r5 N (l5 N k0 k1 n) k0 k1
def r2 {R : Type} (N : Nat) (g k0 k1 : F_briiri R) (a : Bool) (d : Row) (e f : Int) (h : Row) (i : Int) : Option R := bif decide (f < e) then bif decide (0 <= f) && decide (f < (d.length : Int)) then l5 N (fun j _ l m o _ _ _ p q => k0 j l m o p q) (fun r s t u w _ _ _ y z => bif (s.length : Int) != 16 then k0 false t u w y z else g r t u (w64 (w + 1)) y z) N a (cvL (cellAt d f.toNat 0)) d e f (cvL (cellAt d f.toNat 0)) ((cvL (cellAt d f.toNat 0)).length : Int) 0 h i else none else k1 a d e f h i
def l2 {R : Type} (N : Nat) (k0 k1 : F_briiri R) : Nat -> F_briiri R
 | 0 => fun _ _ _ _ _ _ => none
 | n + 1 => r2 N (l2 N k0 k1 n) k0 k1
def b {R : Type} (N : Nat) (kr : Bool -> Option R) (a : Row) (d : Int) : Option R := l2 N (fun e _ _ _ _ _ => kr e) (fun _ _ _ _ f h => bif decide ((f.length : Int) = 3) then kr (U63.v h 0 63) else kr false) N false a (a.length : Int) 0 a d
def vo := b Lib.big fun r0 => some r0
def c := fun a d => (vo a d).isSome
def v := fun a d => (vo a d).getD false
theorem out {x} : ∀ a d, vo a d = some x -> c a d = true /\ v a d = x := fun _ _ => Lib.out_
end Go.FG.U169

namespace Go.FG.U159
def r3 {R : Type} (N : Nat) (g k0 k1 : F_biirrrir R) (a : Bool) (d e : Int) (f h i : Row) (j : Int) (l : Row) : Option R := bif decide (e < d) then bif decide (0 <= e) && decide (e < (l.length : Int)) then bif !U64.v (cvS (cellAt l e.toNat 0)) then k0 false d e f h i j l else bif inB 0 e (l.length : Int) then bif U160.c (view l (Int.toNat 0) e.toNat) (cvS (cellAt l e.toNat 0)) then bif U160.v (view l (Int.toNat 0) e.toNat) (cvS (cellAt l e.toNat 0)) then k0 false d e f h i j l else g a d (w64 (e + 1)) f h i j l else none else none else none else k1 a d e f h i j l
def l3 {R : Type} (N : Nat) (k0 k1 : F_biirrrir R) : Nat -> F_biirrrir R
 | 0 => fun _ _ _ _ _ _ _ _ => none
 | n + 1 => r3 N (l3 N k0 k1 n) k0 k1
def b {R : Type} (N : Nat) (kr : Bool -> Option R) (a d e : Row) (f : Int) : Option R := bif U188.c a d e f then l3 N (fun h _ _ _ _ _ _ _ => kr h) (fun _ _ _ i j l m _ => bif decide ((i.length : Int) <= 2) then bif decide ((j.length : Int) <= 4) then bif U169.c l m then kr (U169.v l m) else none else kr false else kr false) N false ((U188.v a d e f).length : Int) 0 a d e f (U188.v a d e f) else none
def vo := b Lib.big fun r0 => some r0
def c := fun a d e f => (vo a d e f).isSome
def v := fun a d e f => (vo a d e f).getD false
theorem out {x} : ∀ a d e f, vo a d e f = some x -> c a d e f = true /\ v a d e f = x := fun _ _ _ _ => Lib.out_
end Go.FG.U159

namespace Go.FG.U97
def r2 {R : Type} (N : Nat) (g k0 k1 : F_briiirrrrirri R) (a : Bool) (d : Row) (e f h : Int) (i j l m : Row) (o : Int) (p q : Row) (r : Int) : Option R := bif decide (f < e) then bif decide (0 <= f) && decide (f < (d.length : Int)) then bif !U158.v (cvS (cellAt d f.toNat 0)) (cvI (cellAt d f.toNat 1)) (cvI (cellAt d f.toNat (1 + 1))) (cvS (cellAt d f.toNat (1 + 1 + 1))) then k0 false d e f h i j l m o p q r else bif decide (f > 0) then bif decide (0 <= w64 (f - 1)) && decide (w64 (f - 1) < (i.length : Int)) then bif !Op.bytesLess (cvS (cellAt i (w64 (f - 1)).toNat 0)).toList (cvS (cellAt d f.toNat 0)).toList then k0 false d e f h i j l m o p q r else bif U187.c j l m o (cvS (cellAt d f.toNat 0)) then bif !U187.v j l m o (cvS (cellAt d f.toNat 0)) then k0 false d e f h i j l m o p q r else g a d e (w64 (f + 1)) h i j l m o p q r else none else none else bif U187.c j l m o (cvS (cellAt d f.toNat 0)) then bif !U187.v j l m o (cvS (cellAt d f.toNat 0)) then k0 false d e f h i j l m o p q r else g a d e (w64 (f + 1)) h i j l m o p q r else none else none else k1 a d e f h i j l m o p q r
def l2 {R : Type} (N : Nat) (k0 k1 : F_briiirrrrirri R) : Nat -> F_briiirrrrirri R
 | 0 => fun _ _ _ _ _ _ _ _ _ _ _ _ _ => none
 | n + 1 => r2 N (l2 N k0 k1 n) k0 k1
def b {R : Type} (N : Nat) (kr : Bool -> Option R) (a : Int) (d e f h : Row) (i : Int) (j l : Row) (m : Int) : Option R := l2 N (fun o _ _ _ _ _ _ _ _ _ _ _ _ => kr o) (fun _ _ _ _ _ p q r s t _ _ _ => bif U159.c q r s t then bif U159.v q r s t then bif U188.c q r s t then kr (decide (((U188.v q r s t).length : Int) = (p.length : Int))) else none else kr false else none) N false d (d.length : Int) 0 a d e f h i j l m
def vo := b Lib.big fun r0 => some r0
def c := fun a d e f h i j l m => (vo a d e f h i j l m).isSome
def v := fun a d e f h i j l m => (vo a d e f h i j l m).getD false
theorem out {x} : ∀ a d e f h i j l m, vo a d e f h i j l m = some x -> c a d e f h i j l m = true /\ v a d e f h i j l m = x := fun _ _ _ _ _ _ _ _ _ => Lib.out_
end Go.FG.U97

namespace Go.FG.U165
def b {R : Type} (kr : Bool -> Option R) (a d : ByteArray) (e f h : Int) (key1 : ByteArray) : Option R := bif List.beq (ByteArray.toList a) (ByteArray.toList key1) then kr (decide (e = 1)) else kr false
def v (a0 a1 : ByteArray) (a2 a3 a4 : Int) (key1 : ByteArray) : Bool := bif List.beq (ByteArray.toList a0) (ByteArray.toList key1) then decide (a2 = 1) else false
theorem b_eq {R : Type} (kr : Bool -> Option R) (a0 a1 : ByteArray) (a2 a3 a4 : Int) (key1 : ByteArray) : b kr a0 a1 a2 a3 a4 key1 = kr (v a0 a1 a2 a3 a4 key1) := by
 first | rfl | (unfold b v; simp only [Bool.cond_eq_ite]; (repeat' split) <;> rfl)
end Go.FG.U165

namespace Go.FG.U164
def r2 {R : Type} (N : Nat) (g k0 k1 : F_rsiii R) (a : Row) (d : ByteArray) (e f h : Int) : Option R := bif decide (h < f) then bif decide (0 <= h) && decide (h < (a.length : Int)) then bif U165.v (cvS (cellAt a h.toNat 0)) (cvS (cellAt a h.toNat 1)) (cvI (cellAt a h.toNat (1 + 1))) (cvI (cellAt a h.toNat (1 + 1 + 1))) (cvI (cellAt a h.toNat (1 + 1 + 1 + 1))) d then k0 a d h f h else g a d e f (w64 (h + 1)) else none else k1 a d e f h
def l2 {R : Type} (N : Nat) (k0 k1 : F_rsiii R) : Nat -> F_rsiii R
 | 0 => fun _ _ _ _ _ => none
 | n + 1 => r2 N (l2 N k0 k1 n) k0 k1
def b {R : Type} (N : Nat) (kr : Int -> Option R) (a : Row) (key1 : ByteArray) : Option R := l2 N (fun _ _ d _ _ => kr d) (fun _ _ _ _ _ => kr (-1)) N a key1 0 (a.length : Int) 0
def vo := b Lib.big fun r0 => some r0
def c := fun a d => (vo a d).isSome
def v := fun a d => (vo a d).getD (0)
theorem out {x} : ∀ a d, vo a d = some x -> c a d = true /\ v a d = x := fun _ _ => Lib.out_
end Go.FG.U164

namespace Go.FG.U71
def b {R : Type} (kr : Int -> Option R) (a : Int) (d e f h : Row) (i : Int) (j l : Row) (m : Int) (o : ByteArray) : Option R := bif U164.c j o then kr (U164.v j o) else none
def vo := b fun r0 => some r0
def c := fun a d e f h i j l m o => (vo a d e f h i j l m o).isSome
def v := fun a d e f h i j l m o => (vo a d e f h i j l m o).getD (0)
theorem out {x} : ∀ a d e f h i j l m o, vo a d e f h i j l m o = some x -> c a d e f h i j l m o = true /\ v a d e f h i j l m o = x := fun _ _ _ _ _ _ _ _ _ _ => Lib.out_
end Go.FG.U71

namespace Go.FG.U120
def r2 {R : Type} (N : Nat) (g k0 k1 : F_briiirrrrirri R) (a : Bool) (d : Row) (e f h : Int) (i j l m : Row) (o : Int) (p q : Row) (r : Int) : Option R := bif decide (f < e) then bif decide (0 <= f) && decide (f < (d.length : Int)) then bif decide (cvI (cellAt d f.toNat (1 + 1)) = 1) then bif U71.c h i j l m o p q r (cvS (cellAt d f.toNat 0)) then bif U71.v h i j l m o p q r (cvS (cellAt d f.toNat 0)) != f then k0 false d e f h i j l m o p q r else g a d e (w64 (f + 1)) h i j l m o p q r else none else g a d e (w64 (f + 1)) h i j l m o p q r else none else k1 a d e f h i j l m o p q r
def l2 {R : Type} (N : Nat) (k0 k1 : F_briiirrrrirri R) : Nat -> F_briiirrrrirri R
 | 0 => fun _ _ _ _ _ _ _ _ _ _ _ _ _ => none
 | n + 1 => r2 N (l2 N k0 k1 n) k0 k1
def b {R : Type} (N : Nat) (kr : Bool -> Option R) (a : Int) (d e f h : Row) (i : Int) (j l : Row) (m : Int) : Option R := l2 N (fun o _ _ _ _ _ _ _ _ _ _ _ _ => kr o) (fun _ _ _ _ _ _ _ _ _ _ _ _ _ => kr true) N false j (j.length : Int) 0 a d e f h i j l m
def vo := b Lib.big fun r0 => some r0
def c := fun a d e f h i j l m => (vo a d e f h i j l m).isSome
def v := fun a d e f h i j l m => (vo a d e f h i j l m).getD false
theorem out {x} : ∀ a d e f h i j l m, vo a d e f h i j l m = some x -> c a d e f h i j l m = true /\ v a d e f h i j l m = x := fun _ _ _ _ _ _ _ _ _ => Lib.out_
end Go.FG.U120

namespace Go.FG.U98
def r2 {R : Type} (N : Nat) (g k0 k1 : F_briiirrrrirri R) (a : Bool) (d : Row) (e f h : Int) (i j l m : Row) (o : Int) (p q : Row) (r : Int) : Option R := bif decide (f < e) then bif decide (0 <= f) && decide (f < (d.length : Int)) then bif !U64.v (cvS (cellAt d f.toNat 0)) then k0 false d e f h i j l m o p q r else bif decide (((cvS (cellAt d f.toNat 1)).size : Int) > 400) then k0 false d e f h i j l m o p q r else bif !U63.v (cvI (cellAt d f.toNat (1 + 1))) 1 3 then k0 false d e f h i j l m o p q r else bif !U63.v (cvI (cellAt d f.toNat (1 + 1 + 1))) 0 999999 then k0 false d e f h i j l m o p q r else bif !U63.v (cvI (cellAt d f.toNat (1 + 1 + 1 + 1))) 0 h then k0 false d e f h i j l m o p q r else g a d e (w64 (f + 1)) h i j l m o p q r else none else k1 a d e f h i j l m o p q r
def l2 {R : Type} (N : Nat) (k0 k1 : F_briiirrrrirri R) : Nat -> F_briiirrrrirri R
 | 0 => fun _ _ _ _ _ _ _ _ _ _ _ _ _ => none
 | n + 1 => r2 N (l2 N k0 k1 n) k0 k1
def b {R : Type} (N : Nat) (kr : Bool -> Option R) (a : Int) (d e f h : Row) (i : Int) (j l : Row) (m : Int) : Option R := l2 N (fun o _ _ _ _ _ _ _ _ _ _ _ _ => kr o) (fun _ _ _ _ p q r s t u w y z => bif decide ((w.length : Int) <= 20) then bif U120.c p q r s t u w y z then kr (U120.v p q r s t u w y z) else none else kr false) N false j (j.length : Int) 0 a d e f h i j l m
def vo := b Lib.big fun r0 => some r0
def c := fun a d e f h i j l m => (vo a d e f h i j l m).isSome
def v := fun a d e f h i j l m => (vo a d e f h i j l m).getD false
theorem out {x} : ∀ a d e f h i j l m, vo a d e f h i j l m = some x -> c a d e f h i j l m = true /\ v a d e f h i j l m = x := fun _ _ _ _ _ _ _ _ _ => Lib.out_
end Go.FG.U98

namespace Go.FG.U99
def r2 {R : Type} (N : Nat) (g k0 k1 : F_briiirrrrirri R) (a : Bool) (d : Row) (e f h : Int) (i j l m : Row) (o : Int) (p q : Row) (r : Int) : Option R := bif decide (f < e) then bif decide (0 <= f) && decide (f < (d.length : Int)) then bif !U63.v (cvI (cellAt d f.toNat 0)) 1 9 then k0 false d e f h i j l m o p q r else bif decide (f > 0) then bif decide (0 <= w64 (f - 1)) && decide (w64 (f - 1) < (q.length : Int)) then bif decide (cvI (cellAt q (w64 (f - 1)).toNat 0) ≥ cvI (cellAt d f.toNat 0)) then k0 false d e f h i j l m o p q r else bif !U64.v (cvS (cellAt d f.toNat 1)) then k0 false d e f h i j l m o p q r else bif !U63.v (cvI (cellAt d f.toNat (1 + 1 + 1 + 1))) 1 3 then k0 false d e f h i j l m o p q r else bif !U63.v (cvI (cellAt d f.toNat (1 + 1))) 0 (p.length : Int) then k0 false d e f h i j l m o p q r else bif decide (((cvS (cellAt d f.toNat (1 + 1 + 1 + 1 + 1))).size : Int) > 400) then k0 false d e f h i j l m o p q r else bif !U63.v (cvI (cellAt d f.toNat (1 + 1 + 1))) 0 h then k0 false d e f h i j l m o p q r else bif decide (cvI (cellAt d f.toNat (1 + 1 + 1 + 1 + 1 + 1)) < 0) then k0 false d e f h i j l m o p q r else g a d e (w64 (f + 1)) h i j l m o p q r else none else bif !U64.v (cvS (cellAt d f.toNat 1)) then k0 false d e f h i j l m o p q r else bif !U63.v (cvI (cellAt d f.toNat (1 + 1 + 1 + 1))) 1 3 then k0 false d e f h i j l m o p q r else bif !U63.v (cvI (cellAt d f.toNat (1 + 1))) 0 (p.length : Int) then k0 false d e f h i j l m o p q r else bif decide (((cvS (cellAt d f.toNat (1 + 1 + 1 + 1 + 1))).size : Int) > 400) then k0 false d e f h i j l m o p q r else bif !U63.v (cvI (cellAt d f.toNat (1 + 1 + 1))) 0 h then k0 false d e f h i j l m o p q r else bif decide (cvI (cellAt d f.toNat (1 + 1 + 1 + 1 + 1 + 1)) < 0) then k0 false d e f h i j l m o p q r else g a d e (w64 (f + 1)) h i j l m o p q r else none else k1 a d e f h i j l m o p q r
def l2 {R : Type} (N : Nat) (k0 k1 : F_briiirrrrirri R) : Nat -> F_briiirrrrirri R
 | 0 => fun _ _ _ _ _ _ _ _ _ _ _ _ _ => none
 | n + 1 => r2 N (l2 N k0 k1 n) k0 k1
def b {R : Type} (N : Nat) (kr : Bool -> Option R) (a : Int) (d e f h : Row) (i : Int) (j l : Row) (m : Int) : Option R := l2 N (fun o _ _ _ _ _ _ _ _ _ _ _ _ => kr o) (fun _ _ _ _ _ _ _ _ _ _ _ p _ => kr (decide ((p.length : Int) <= 6))) N false l (l.length : Int) 0 a d e f h i j l m
def vo := b Lib.big fun r0 => some r0
def c := fun a d e f h i j l m => (vo a d e f h i j l m).isSome
def v := fun a d e f h i j l m => (vo a d e f h i j l m).getD false
theorem out {x} : ∀ a d e f h i j l m, vo a d e f h i j l m = some x -> c a d e f h i j l m = true /\ v a d e f h i j l m = x := fun _ _ _ _ _ _ _ _ _ => Lib.out_
end Go.FG.U99

namespace Go.FG.U25
def b {R : Type} (kr : Bool -> Option R) (a : Int) (d e f h : Row) (i : Int) (j l : Row) (m : Int) : Option R := bif U63.v a 1 1000000000 then bif U97.c a d e f h i j l m then bif U97.v a d e f h i j l m then bif U98.c a d e f h i j l m then bif U98.v a d e f h i j l m then bif U99.c a d e f h i j l m then bif U99.v a d e f h i j l m then kr (U100.v m) else kr false else none else kr false else none else kr false else none else kr false
def vo := b fun r0 => some r0
def c := fun a d e f h i j l m => (vo a d e f h i j l m).isSome
def v := fun a d e f h i j l m => (vo a d e f h i j l m).getD false
theorem out {x} : ∀ a d e f h i j l m, vo a d e f h i j l m = some x -> c a d e f h i j l m = true /\ v a d e f h i j l m = x := fun _ _ _ _ _ _ _ _ _ => Lib.out_
end Go.FG.U25

namespace Go.FG.U268
def b {R : Type} (kr : Bool -> Option R) (a d : ByteArray) : Option R := bif decide ((a.size : Int) ≥ (d.size : Int)) then bif inB 0 (d.size : Int) (a.size : Int) then kr (List.beq (ByteArray.extract a (Int.toNat 0) (d.size : Int).toNat).toList (ByteArray.toList d)) else none else kr false
def vo := b fun r0 => some r0
def c := fun a d => (vo a d).isSome
def v := fun a d => (vo a d).getD false
theorem out {x} : ∀ a d, vo a d = some x -> c a d = true /\ v a d = x := fun _ _ => Lib.out_
end Go.FG.U268

namespace Go.FG.U248
def b {R : Type} (kr : Bool -> Option R) (a d : ByteArray) : Option R := bif U268.c a d then kr (U268.v a d) else none
def vo := b fun r0 => some r0
def c := fun a d => (vo a d).isSome
def v := fun a d => (vo a d).getD false
theorem out {x} : ∀ a d, vo a d = some x -> c a d = true /\ v a d = x := fun _ _ => Lib.out_
end Go.FG.U248

namespace Go.FG.U207
def b {R : Type} (kr : Bool -> Option R) (a : Int) (d e f h : Row) (i : Int) (j l : Row) (m o : Int) (p : ByteArray) (q r s : Int) (t : ByteArray) (u : Int) : Option R := bif decide (q > (j.length : Int)) then kr false else bif decide (0 <= w64 (q - 1)) && decide (w64 (q - 1) < (j.length : Int)) then bif !List.beq (cvS (cellAt j (w64 (q - 1)).toNat 0)).toList (ByteArray.toList p) then kr false else bif decide (s = 1) then bif List.beq (ByteArray.toList t) (cvS (cellAt j (w64 (q - 1)).toNat 1)).toList then kr (decide (cvI (cellAt j (w64 (q - 1)).toNat (1 + 1)) = 1)) else kr false else bif decide (s = 2) then bif List.beq (ByteArray.toList t) (cvS (cellAt j (w64 (q - 1)).toNat 1)).toList then kr (decide (cvI (cellAt j (w64 (q - 1)).toNat (1 + 1)) = 2)) else kr false else bif decide (s = 3) then bif U248.c (cvS (cellAt j (w64 (q - 1)).toNat 1)) t then bif U248.v (cvS (cellAt j (w64 (q - 1)).toNat 1)) t then kr (decide (cvI (cellAt j (w64 (q - 1)).toNat (1 + 1)) = 3)) else kr false else none else kr false else none
def vo := b fun r0 => some r0
def c := fun a d e f h i j l m o p q r s t u => (vo a d e f h i j l m o p q r s t u).isSome
def v := fun a d e f h i j l m o p q r s t u => (vo a d e f h i j l m o p q r s t u).getD false
theorem out {x} : ∀ a d e f h i j l m o p q r s t u, vo a d e f h i j l m o p q r s t u = some x -> c a d e f h i j l m o p q r s t u = true /\ v a d e f h i j l m o p q r s t u = x := fun _ _ _ _ _ _ _ _ _ _ _ _ _ _ _ _ => Lib.out_
end Go.FG.U207

namespace Go.FG.U206
def b {R : Type} (kr : Bool -> Option R) (a : ByteArray) (d e : Int) (f : ByteArray) (c1_0 : Int) (c1_1 : ByteArray) (c1_2 c1_3 c1_4 : Int) (c1_5 : ByteArray) (c1_6 : Int) : Option R := bif List.beq (ByteArray.toList a) (ByteArray.toList c1_1) then bif decide (d = c1_3) then bif List.beq (ByteArray.toList f) (ByteArray.toList c1_5) then kr (decide (e > c1_6)) else kr false else kr false else kr false
def v (a0 : ByteArray) (a1 a2 : Int) (a3 : ByteArray) (c1_0 : Int) (c1_1 : ByteArray) (c1_2 c1_3 c1_4 : Int) (c1_5 : ByteArray) (c1_6 : Int) : Bool := bif List.beq (ByteArray.toList a0) (ByteArray.toList c1_1) then bif decide (a1 = c1_3) then bif List.beq (ByteArray.toList a3) (ByteArray.toList c1_5) then decide (a2 > c1_6) else false else false else false
theorem b_eq {R : Type} (kr : Bool -> Option R) (a0 : ByteArray) (a1 a2 : Int) (a3 : ByteArray) (c1_0 : Int) (c1_1 : ByteArray) (c1_2 c1_3 c1_4 : Int) (c1_5 : ByteArray) (c1_6 : Int) : b kr a0 a1 a2 a3 c1_0 c1_1 c1_2 c1_3 c1_4 c1_5 c1_6 = kr (v a0 a1 a2 a3 c1_0 c1_1 c1_2 c1_3 c1_4 c1_5 c1_6) := by
 first | rfl | (unfold b v; simp only [Bool.cond_eq_ite]; (repeat' split) <;> rfl)
end Go.FG.U206

namespace Go.FG.U66c
def r2 {R : Type} (N : Nat) (g k0 k1 : F_risiiisiiii R) (a : Row) (d : Int) (e : ByteArray) (f h i : Int) (j : ByteArray) (l m o p : Int) : Option R := bif decide (p < o) then bif decide (0 <= p) && decide (p < (a.length : Int)) then bif U206.v (cvS (cellAt a p.toNat 0)) (cvI (cellAt a p.toNat 1)) (cvI (cellAt a p.toNat (1 + 1))) (cvS (cellAt a p.toNat (1 + 1 + 1))) d e f h i j l then k0 a d e f h i j l p o p else g a d e f h i j l m o (w64 (p + 1)) else none else k1 a d e f h i j l m o p
def l2 {R : Type} (N : Nat) (k0 k1 : F_risiiisiiii R) : Nat -> F_risiiisiiii R
 | 0 => fun _ _ _ _ _ _ _ _ _ _ _ => none
 | n + 1 => r2 N (l2 N k0 k1 n) k0 k1
def b {R : Type} (N : Nat) (kr : Int -> Option R) (a : Row) (c1_0 : Int) (c1_1 : ByteArray) (c1_2 c1_3 c1_4 : Int) (c1_5 : ByteArray) (c1_6 : Int) : Option R := l2 N (fun _ _ _ _ _ _ _ _ d _ _ => kr d) (fun _ _ _ _ _ _ _ _ _ _ _ => kr (-1)) N a c1_0 c1_1 c1_2 c1_3 c1_4 c1_5 c1_6 0 (a.length : Int) 0
def vo := b Lib.big fun r0 => some r0
def c := fun a d e f h i j l => (vo a d e f h i j l).isSome
def v := fun a d e f h i j l => (vo a d e f h i j l).getD (0)
theorem out {x} : ∀ a d e f h i j l, vo a d e f h i j l = some x -> c a d e f h i j l = true /\ v a d e f h i j l = x := fun _ _ _ _ _ _ _ _ => Lib.out_
end Go.FG.U66c

namespace Go.FG.U208
def b {R : Type} (kr : Bool -> Option R) (a : Row) (c1_0 : Int) (c1_1 : ByteArray) (c1_2 c1_3 c1_4 : Int) (c1_5 : ByteArray) (c1_6 : Int) : Option R := bif U66c.c a c1_0 c1_1 c1_2 c1_3 c1_4 c1_5 c1_6 then kr (decide (U66c.v a c1_0 c1_1 c1_2 c1_3 c1_4 c1_5 c1_6 ≥ 0)) else none
def vo := b fun r0 => some r0
def c := fun a d e f h i j l => (vo a d e f h i j l).isSome
def v := fun a d e f h i j l => (vo a d e f h i j l).getD false
theorem out {x} : ∀ a d e f h i j l, vo a d e f h i j l = some x -> c a d e f h i j l = true /\ v a d e f h i j l = x := fun _ _ _ _ _ _ _ _ => Lib.out_
end Go.FG.U208

namespace Go.FG.U121
def r2 {R : Type} (N : Nat) (g k0 k1 : F_briiirrrrirrirrr R) (a : Bool) (d : Row) (e f h : Int) (i j l m : Row) (o : Int) (p q : Row) (r : Int) (s t u : Row) : Option R := bif decide (f < e) then bif decide (0 <= f) && decide (f < (d.length : Int)) then bif decide (cvI (cellAt d f.toNat (1 + 1)) > 0) then bif U207.c h i j l m o p q r (cvI (cellAt d f.toNat 0)) (cvS (cellAt d f.toNat 1)) (cvI (cellAt d f.toNat (1 + 1))) (cvI (cellAt d f.toNat (1 + 1 + 1))) (cvI (cellAt d f.toNat (1 + 1 + 1 + 1))) (cvS (cellAt d f.toNat (1 + 1 + 1 + 1 + 1))) (cvI (cellAt d f.toNat (1 + 1 + 1 + 1 + 1 + 1))) then bif !U207.v h i j l m o p q r (cvI (cellAt d f.toNat 0)) (cvS (cellAt d f.toNat 1)) (cvI (cellAt d f.toNat (1 + 1))) (cvI (cellAt d f.toNat (1 + 1 + 1))) (cvI (cellAt d f.toNat (1 + 1 + 1 + 1))) (cvS (cellAt d f.toNat (1 + 1 + 1 + 1 + 1))) (cvI (cellAt d f.toNat (1 + 1 + 1 + 1 + 1 + 1))) then k0 false d e f h i j l m o p q r s t u else g a d e (w64 (f + 1)) h i j l m o p q r s t u else none else bif decide (cvI (cellAt d f.toNat (1 + 1 + 1 + 1)) = 2) then bif U208.c u (cvI (cellAt d f.toNat 0)) (cvS (cellAt d f.toNat 1)) (cvI (cellAt d f.toNat (1 + 1))) (cvI (cellAt d f.toNat (1 + 1 + 1))) (cvI (cellAt d f.toNat (1 + 1 + 1 + 1))) (cvS (cellAt d f.toNat (1 + 1 + 1 + 1 + 1))) (cvI (cellAt d f.toNat (1 + 1 + 1 + 1 + 1 + 1))) then bif !U208.v u (cvI (cellAt d f.toNat 0)) (cvS (cellAt d f.toNat 1)) (cvI (cellAt d f.toNat (1 + 1))) (cvI (cellAt d f.toNat (1 + 1 + 1))) (cvI (cellAt d f.toNat (1 + 1 + 1 + 1))) (cvS (cellAt d f.toNat (1 + 1 + 1 + 1 + 1))) (cvI (cellAt d f.toNat (1 + 1 + 1 + 1 + 1 + 1))) then k0 false d e f h i j l m o p q r s t u else g a d e (w64 (f + 1)) h i j l m o p q r s t u else none else k0 false d e f h i j l m o p q r s t u else none else k1 a d e f h i j l m o p q r s t u
def l2 {R : Type} (N : Nat) (k0 k1 : F_briiirrrrirrirrr R) : Nat -> F_briiirrrrirrirrr R
 | 0 => fun _ _ _ _ _ _ _ _ _ _ _ _ _ _ _ _ => none
 | n + 1 => r2 N (l2 N k0 k1 n) k0 k1
def b {R : Type} (N : Nat) (kr : Bool -> Option R) (a : Int) (d e f h : Row) (i : Int) (j l : Row) (m : Int) (o p q : Row) : Option R := l2 N (fun r _ _ _ _ _ _ _ _ _ _ _ _ _ _ _ => kr r) (fun _ _ _ _ _ _ _ _ _ _ _ _ _ _ _ _ => kr true) N false l (l.length : Int) 0 a d e f h i j l m o p q
def vo := b Lib.big fun r0 => some r0
def c := fun a d e f h i j l m o p q => (vo a d e f h i j l m o p q).isSome
def v := fun a d e f h i j l m o p q => (vo a d e f h i j l m o p q).getD false
theorem out {x} : ∀ a d e f h i j l m o p q, vo a d e f h i j l m o p q = some x -> c a d e f h i j l m o p q = true /\ v a d e f h i j l m o p q = x := fun _ _ _ _ _ _ _ _ _ _ _ _ => Lib.out_
end Go.FG.U121

namespace Go.FG.U122
def r2 {R : Type} (N : Nat) (g k0 k1 : F_briiirrrrirrirrr R) (a : Bool) (d : Row) (e f h : Int) (i j l m : Row) (o : Int) (p q : Row) (r : Int) (s t u : Row) : Option R := bif decide (f < e) then bif decide (0 <= f) && decide (f < (d.length : Int)) then bif U119.c u (cvS (cellAt d f.toNat 0)) (cvI (cellAt d f.toNat 1)) (cvI (cellAt d f.toNat (1 + 1))) (cvS (cellAt d f.toNat (1 + 1 + 1))) then bif !U119.v u (cvS (cellAt d f.toNat 0)) (cvI (cellAt d f.toNat 1)) (cvI (cellAt d f.toNat (1 + 1))) (cvS (cellAt d f.toNat (1 + 1 + 1))) then k0 false d e f h i j l m o p q r s t u else g a d e (w64 (f + 1)) h i j l m o p q r s t u else none else none else k1 a d e f h i j l m o p q r s t u
def l2 {R : Type} (N : Nat) (k0 k1 : F_briiirrrrirrirrr R) : Nat -> F_briiirrrrirrirrr R
 | 0 => fun _ _ _ _ _ _ _ _ _ _ _ _ _ _ _ _ => none
 | n + 1 => r2 N (l2 N k0 k1 n) k0 k1
def b {R : Type} (N : Nat) (kr : Bool -> Option R) (a : Int) (d e f h : Row) (i : Int) (j l : Row) (m : Int) (o p q : Row) : Option R := l2 N (fun r _ _ _ _ _ _ _ _ _ _ _ _ _ _ _ => kr r) (fun _ _ _ _ _ _ _ _ _ _ _ _ _ _ _ _ => kr true) N false d (d.length : Int) 0 a d e f h i j l m o p q
def vo := b Lib.big fun r0 => some r0
def c := fun a d e f h i j l m o p q => (vo a d e f h i j l m o p q).isSome
def v := fun a d e f h i j l m o p q => (vo a d e f h i j l m o p q).getD false
theorem out {x} : ∀ a d e f h i j l m o p q, vo a d e f h i j l m o p q = some x -> c a d e f h i j l m o p q = true /\ v a d e f h i j l m o p q = x := fun _ _ _ _ _ _ _ _ _ _ _ _ => Lib.out_
end Go.FG.U122

namespace Go.FG.U34
def r3 {R : Type} (N : Nat) (g k0 k1 : F_briiirrrrirrirrrr R) (a : Bool) (d : Row) (e f h : Int) (i j l m : Row) (o : Int) (p q : Row) (r : Int) (s t u w : Row) : Option R := bif decide (f < e) then bif decide (0 <= f) && decide (f < (d.length : Int)) then bif U68.v (cvS (cellAt d f.toNat 0)) (cvI (cellAt d f.toNat 1)) (cvI (cellAt d f.toNat (1 + 1))) (cvS (cellAt d f.toNat (1 + 1 + 1))) h then bif U119.c w (cvS (cellAt d f.toNat 0)) (cvI (cellAt d f.toNat 1)) (cvI (cellAt d f.toNat (1 + 1))) (cvS (cellAt d f.toNat (1 + 1 + 1))) then bif !U119.v w (cvS (cellAt d f.toNat 0)) (cvI (cellAt d f.toNat 1)) (cvI (cellAt d f.toNat (1 + 1))) (cvS (cellAt d f.toNat (1 + 1 + 1))) then k0 false d e f h i j l m o p q r s t u w else g a d e (w64 (f + 1)) h i j l m o p q r s t u w else none else g a d e (w64 (f + 1)) h i j l m o p q r s t u w else none else k1 a d e f h i j l m o p q r s t u w
def l3 {R : Type} (N : Nat) (k0 k1 : F_briiirrrrirrirrrr R) : Nat -> F_briiirrrrirrirrrr R
 | 0 => fun _ _ _ _ _ _ _ _ _ _ _ _ _ _ _ _ _ => none
 | n + 1 => r3 N (l3 N k0 k1 n) k0 k1
def b {R : Type} (N : Nat) (kr : Bool -> Option R) (a : Int) (d e f h : Row) (i : Int) (j l : Row) (m : Int) (o p q : Row) : Option R := bif U118.c o then l3 N (fun r _ _ _ _ _ _ _ _ _ _ _ _ _ _ _ _ => kr r) (fun _ _ _ _ s t u w y z α xa xb xc xd xe _ => bif U25.c s t u w y z α xa xb then bif U25.v s t u w y z α xa xb then bif U120.c s t u w y z α xa xb then bif U120.v s t u w y z α xa xb then bif U121.c s t u w y z α xa xb xc xd xe then bif U121.v s t u w y z α xa xb xc xd xe then bif U122.c s t u w y z α xa xb xc xd xe then kr (U122.v s t u w y z α xa xb xc xd xe) else none else kr false else none else kr false else none else kr false else none) N false d (d.length : Int) 0 a d e f h i j l m o p q (U118.v o) else none
def vo := b Lib.big fun r0 => some r0
def c := fun a d e f h i j l m o p q => (vo a d e f h i j l m o p q).isSome
def v := fun a d e f h i j l m o p q => (vo a d e f h i j l m o p q).getD false
theorem out {x} : ∀ a d e f h i j l m o p q, vo a d e f h i j l m o p q = some x -> c a d e f h i j l m o p q = true /\ v a d e f h i j l m o p q = x := fun _ _ _ _ _ _ _ _ _ _ _ _ => Lib.out_
end Go.FG.U34

namespace Go.FG.U171
def b {R : Type} (kr : Bool -> Option R) (a : ByteArray) (d e : Int) (f h : ByteArray) (i j : Int) (l : ByteArray) : Option R := bif !List.beq (ByteArray.toList a) (ByteArray.toList h) then kr false else bif d != i then kr false else bif e != j then kr false else bif !List.beq (ByteArray.toList f) (ByteArray.toList l) then kr false else kr true
def v (a0 : ByteArray) (a1 a2 : Int) (a3 a4 : ByteArray) (a5 a6 : Int) (a7 : ByteArray) : Bool := bif !List.beq (ByteArray.toList a0) (ByteArray.toList a4) then false else bif a1 != a5 then false else bif a2 != a6 then false else bif !List.beq (ByteArray.toList a3) (ByteArray.toList a7) then false else true
theorem b_eq {R : Type} (kr : Bool -> Option R) (a0 : ByteArray) (a1 a2 : Int) (a3 a4 : ByteArray) (a5 a6 : Int) (a7 : ByteArray) : b kr a0 a1 a2 a3 a4 a5 a6 a7 = kr (v a0 a1 a2 a3 a4 a5 a6 a7) := by
 first | rfl | (unfold b v; simp only [Bool.cond_eq_ite]; (repeat' split) <;> rfl)
end Go.FG.U171

namespace Go.FG.U75
def r4 {R : Type} (N : Nat) (g k0 k1 : F_rrbi R) (a d : Row) (e : Bool) (f : Int) : Option R := bif decide (f < (a.length : Int)) then bif decide (0 <= f) && decide (f < (a.length : Int)) then bif decide (0 <= f) && decide (f < (d.length : Int)) then bif !U171.v (cvS (cellAt a f.toNat 0)) (cvI (cellAt a f.toNat 1)) (cvI (cellAt a f.toNat (1 + 1))) (cvS (cellAt a f.toNat (1 + 1 + 1))) (cvS (cellAt d f.toNat 0)) (cvI (cellAt d f.toNat 1)) (cvI (cellAt d f.toNat (1 + 1))) (cvS (cellAt d f.toNat (1 + 1 + 1))) then k0 a d false f else g a d e (w64 (f + 1)) else none else none else k1 a d e f
def l4 {R : Type} (N : Nat) (k0 k1 : F_rrbi R) : Nat -> F_rrbi R
 | 0 => fun _ _ _ _ => none
 | n + 1 => r4 N (l4 N k0 k1 n) k0 k1
def b {R : Type} (N : Nat) (kr : Bool -> Option R) (a d : Row) : Option R := bif (a.length : Int) != (d.length : Int) then kr false else l4 N (fun _ _ e _ => kr e) (fun _ _ _ _ => kr true) N a d false 0
def vo := b Lib.big fun r0 => some r0
def c := fun a d => (vo a d).isSome
def v := fun a d => (vo a d).getD false
theorem out {x} : ∀ a d, vo a d = some x -> c a d = true /\ v a d = x := fun _ _ => Lib.out_
end Go.FG.U75

namespace Go.FG.U172
def r4 {R : Type} (N : Nat) (g k0 k1 : F_rrbi R) (a d : Row) (e : Bool) (f : Int) : Option R := bif decide (f < (a.length : Int)) then bif decide (0 <= f) && decide (f < (a.length : Int)) then bif decide (0 <= f) && decide (f < (d.length : Int)) then bif !List.beq (cvS (cellAt a f.toNat 0)).toList (cvS (cellAt d f.toNat 0)).toList then k0 a d false f else g a d e (w64 (f + 1)) else none else none else k1 a d e f
def l4 {R : Type} (N : Nat) (k0 k1 : F_rrbi R) : Nat -> F_rrbi R
 | 0 => fun _ _ _ _ => none
 | n + 1 => r4 N (l4 N k0 k1 n) k0 k1
def b {R : Type} (N : Nat) (kr : Bool -> Option R) (a d : Row) : Option R := bif (a.length : Int) != (d.length : Int) then kr false else l4 N (fun _ _ e _ => kr e) (fun _ _ _ _ => kr true) N a d false 0
def vo := b Lib.big fun r0 => some r0
def c := fun a d => (vo a d).isSome
def v := fun a d => (vo a d).getD false
theorem out {x} : ∀ a d, vo a d = some x -> c a d = true /\ v a d = x := fun _ _ => Lib.out_
end Go.FG.U172

namespace Go.FG.U124
def r4 {R : Type} (N : Nat) (g k0 k1 : F_rrbi R) (a d : Row) (e : Bool) (f : Int) : Option R := bif decide (f < (a.length : Int)) then bif decide (0 <= f) && decide (f < (a.length : Int)) then bif decide (0 <= f) && decide (f < (d.length : Int)) then bif cvI (cellAt a f.toNat 0) != cvI (cellAt d f.toNat 0) then k0 a d false f else g a d e (w64 (f + 1)) else none else none else k1 a d e f
def l4 {R : Type} (N : Nat) (k0 k1 : F_rrbi R) : Nat -> F_rrbi R
 | 0 => fun _ _ _ _ => none
 | n + 1 => r4 N (l4 N k0 k1 n) k0 k1
def b {R : Type} (N : Nat) (kr : Bool -> Option R) (a d : Row) : Option R := bif (a.length : Int) != (d.length : Int) then kr false else l4 N (fun _ _ e _ => kr e) (fun _ _ _ _ => kr true) N a d false 0
def v (a0 : Row) (b1 : Row) : Bool := (a0.length == b1.length) && (List.range a0.length).all fun i => !(cvI (cellAt a0 i 0) != cvI (cellAt b1 i 0))
def fr (a b : Row) (i : Nat) : Bool := (List.range' i (a.length - i)).all fun i => !(cvI (cellAt a i 0) != cvI (cellAt b i 0))
theorem run {R : Type} (N : Nat) (kr : Bool -> Option R) (a b : Row) (hl : a.length = b.length) (ha : FitR a) : ∀ n (i : Nat), i <= a.length -> a.length - i < n -> l4 N (fun _ _ y _ => kr y) (fun _ _ _ _ => kr true) n a b false i = kr (fr a b i) := by
 refine Lib.loop_gen (fun n (i : Nat) => l4 N (fun _ _ y _ => kr y) (fun _ _ _ _ => kr true) n a b false i) (fun i => a.length - i) (fun i => i <= a.length) (fun i => kr (fr a b i)) (fun n i hi => ?_)
 simp only [l4, r4, Lib.dlt, Lib.dle0, Lib.toN, Bool.true_and]
 by_cases h : i < a.length
 ·have e : a.length - i = (a.length - (i + 1)) + 1 := by omega
  have hf : fr a b i = (!(cvI (cellAt a i 0) != cvI (cellAt b i 0)) && fr a b (i + 1)) := by
   unfold fr; rw [e, List.range'_succ, List.all_cons]
  have hb : i < b.length := by omega
  simp only [h, hb, decide_true, cond_true, Lib.w64_s h ha.1]
  cases hv : (cvI (cellAt a i 0) != cvI (cellAt b i 0)) with
  | false => exact .inr ⟨i + 1, h, by omega, by rw [hf, hv]; rfl, rfl⟩
  | true => left; rw [hf, hv]; rfl
 ·left
  have : a.length - i = 0 := by omega
  simp only [h, decide_false, cond_false]
  unfold fr; rw [this]; rfl
theorem b_eq {R : Type} (kr : Bool -> Option R) (a0 : Row) (b1 : Row) (f0 : FitR a0) (f1 : FitR b1) : ∃ N, b N kr a0 b1 = kr (v a0 b1) := by
 refine ⟨a0.length + 1, ?_⟩
 unfold b v
 by_cases hl : a0.length = b1.length
 ·have e : ((a0.length : Int) != (b1.length : Int)) = false := by simp [hl]
  rw [e, cond_false]
  refine (run _ kr a0 b1 hl f0 (a0.length + 1) 0 (by omega) (by omega)).trans ?_
  unfold fr; rw [show (a0.length == b1.length) = true by simp [hl], Nat.sub_zero, <- List.range_eq_range']; rfl
 ·have e : ((a0.length : Int) != (b1.length : Int)) = true := by simp; omega
  have e2 : (a0.length == b1.length) = false := by simp; omega
  rw [e, cond_true, e2]; rfl
theorem refl (a : Row) : v a a = true := by unfold v; simp
end Go.FG.U124

namespace Go.FG.U225
def r4 {R : Type} (N : Nat) (g k0 k1 : F_rrbi R) (a d : Row) (e : Bool) (f : Int) : Option R := bif decide (f < (a.length : Int)) then bif decide (0 <= f) && decide (f < (a.length : Int)) then bif decide (0 <= f) && decide (f < (d.length : Int)) then bif !U124.v (cvL (cellAt a f.toNat 0)) (cvL (cellAt d f.toNat 0)) then k0 a d false f else g a d e (w64 (f + 1)) else none else none else k1 a d e f
def l4 {R : Type} (N : Nat) (k0 k1 : F_rrbi R) : Nat -> F_rrbi R
 | 0 => fun _ _ _ _ => none
 | n + 1 => r4 N (l4 N k0 k1 n) k0 k1
def b {R : Type} (N : Nat) (kr : Bool -> Option R) (a d : Row) : Option R := bif (a.length : Int) != (d.length : Int) then kr false else l4 N (fun _ _ e _ => kr e) (fun _ _ _ _ => kr true) N a d false 0
def vo := b Lib.big fun r0 => some r0
def c := fun a d => (vo a d).isSome
def v := fun a d => (vo a d).getD false
theorem out {x} : ∀ a d, vo a d = some x -> c a d = true /\ v a d = x := fun _ _ => Lib.out_
end Go.FG.U225

namespace Go.FG.U173
def b {R : Type} (kr : Bool -> Option R) (a : Row) (d : Int) (e : Row) (f : Int) : Option R := bif U225.c a e then bif !U225.v a e then kr false else bif d != f then kr false else kr true else none
def vo := b fun r0 => some r0
def c := fun a d e f => (vo a d e f).isSome
def v := fun a d e f => (vo a d e f).getD false
theorem out {x} : ∀ a d e f, vo a d e f = some x -> c a d e f = true /\ v a d e f = x := fun _ _ _ _ => Lib.out_
end Go.FG.U173

namespace Go.FG.U76
def b {R : Type} (kr : Bool -> Option R) (a d e : Row) (f : Int) (h i j : Row) (l : Int) : Option R := bif U172.c a h then bif !U172.v a h then kr false else bif U172.c d i then bif !U172.v d i then kr false else bif U173.c e f j l then bif !U173.v e f j l then kr false else kr true else none else none else none
def vo := b fun r0 => some r0
def c := fun a d e f h i j l => (vo a d e f h i j l).isSome
def v := fun a d e f h i j l => (vo a d e f h i j l).getD false
theorem out {x} : ∀ a d e f h i j l, vo a d e f h i j l = some x -> c a d e f h i j l = true /\ v a d e f h i j l = x := fun _ _ _ _ _ _ _ _ => Lib.out_
end Go.FG.U76

namespace Go.FG.U174
def b {R : Type} (kr : Bool -> Option R) (a d : ByteArray) (e f h : Int) (i j : ByteArray) (l m o : Int) : Option R := bif !List.beq (ByteArray.toList a) (ByteArray.toList i) then kr false else bif !List.beq (ByteArray.toList d) (ByteArray.toList j) then kr false else bif e != l then kr false else bif f != m then kr false else bif h != o then kr false else kr true
def v (a0 a1 : ByteArray) (a2 a3 a4 : Int) (a5 a6 : ByteArray) (a7 a8 a9 : Int) : Bool := bif !List.beq (ByteArray.toList a0) (ByteArray.toList a5) then false else bif !List.beq (ByteArray.toList a1) (ByteArray.toList a6) then false else bif a2 != a7 then false else bif a3 != a8 then false else bif a4 != a9 then false else true
theorem b_eq {R : Type} (kr : Bool -> Option R) (a0 a1 : ByteArray) (a2 a3 a4 : Int) (a5 a6 : ByteArray) (a7 a8 a9 : Int) : b kr a0 a1 a2 a3 a4 a5 a6 a7 a8 a9 = kr (v a0 a1 a2 a3 a4 a5 a6 a7 a8 a9) := by
 first | rfl | (unfold b v; simp only [Bool.cond_eq_ite]; (repeat' split) <;> rfl)
end Go.FG.U174

namespace Go.FG.U77
def r4 {R : Type} (N : Nat) (g k0 k1 : F_rrbi R) (a d : Row) (e : Bool) (f : Int) : Option R := bif decide (f < (a.length : Int)) then bif decide (0 <= f) && decide (f < (a.length : Int)) then bif decide (0 <= f) && decide (f < (d.length : Int)) then bif !U174.v (cvS (cellAt a f.toNat 0)) (cvS (cellAt a f.toNat 1)) (cvI (cellAt a f.toNat (1 + 1))) (cvI (cellAt a f.toNat (1 + 1 + 1))) (cvI (cellAt a f.toNat (1 + 1 + 1 + 1))) (cvS (cellAt d f.toNat 0)) (cvS (cellAt d f.toNat 1)) (cvI (cellAt d f.toNat (1 + 1))) (cvI (cellAt d f.toNat (1 + 1 + 1))) (cvI (cellAt d f.toNat (1 + 1 + 1 + 1))) then k0 a d false f else g a d e (w64 (f + 1)) else none else none else k1 a d e f
def l4 {R : Type} (N : Nat) (k0 k1 : F_rrbi R) : Nat -> F_rrbi R
 | 0 => fun _ _ _ _ => none
 | n + 1 => r4 N (l4 N k0 k1 n) k0 k1
def b {R : Type} (N : Nat) (kr : Bool -> Option R) (a d : Row) : Option R := bif (a.length : Int) != (d.length : Int) then kr false else l4 N (fun _ _ e _ => kr e) (fun _ _ _ _ => kr true) N a d false 0
def vo := b Lib.big fun r0 => some r0
def c := fun a d => (vo a d).isSome
def v := fun a d => (vo a d).getD false
theorem out {x} : ∀ a d, vo a d = some x -> c a d = true /\ v a d = x := fun _ _ => Lib.out_
end Go.FG.U77

namespace Go.FG.U175
def b {R : Type} (kr : Bool -> Option R) (a : Int) (d : ByteArray) (e f h : Int) (i : ByteArray) (j l : Int) (m : ByteArray) (o p q : Int) (r : ByteArray) (s : Int) : Option R := bif a != l then kr false else bif !List.beq (ByteArray.toList d) (ByteArray.toList m) then kr false else bif e != o then kr false else bif f != p then kr false else bif h != q then kr false else bif !List.beq (ByteArray.toList i) (ByteArray.toList r) then kr false else bif j != s then kr false else kr true
def v (a0 : Int) (a1 : ByteArray) (a2 a3 a4 : Int) (a5 : ByteArray) (a6 a7 : Int) (a8 : ByteArray) (a9 a10 a11 : Int) (a12 : ByteArray) (a13 : Int) : Bool := bif a0 != a7 then false else bif !List.beq (ByteArray.toList a1) (ByteArray.toList a8) then false else bif a2 != a9 then false else bif a3 != a10 then false else bif a4 != a11 then false else bif !List.beq (ByteArray.toList a5) (ByteArray.toList a12) then false else bif a6 != a13 then false else true
theorem b_eq {R : Type} (kr : Bool -> Option R) (a0 : Int) (a1 : ByteArray) (a2 a3 a4 : Int) (a5 : ByteArray) (a6 a7 : Int) (a8 : ByteArray) (a9 a10 a11 : Int) (a12 : ByteArray) (a13 : Int) : b kr a0 a1 a2 a3 a4 a5 a6 a7 a8 a9 a10 a11 a12 a13 = kr (v a0 a1 a2 a3 a4 a5 a6 a7 a8 a9 a10 a11 a12 a13) := by
 first | rfl | (unfold b v; simp only [Bool.cond_eq_ite]; (repeat' split) <;> rfl)
end Go.FG.U175

namespace Go.FG.U78
def r4 {R : Type} (N : Nat) (g k0 k1 : F_rrbi R) (a d : Row) (e : Bool) (f : Int) : Option R := bif decide (f < (a.length : Int)) then bif decide (0 <= f) && decide (f < (a.length : Int)) then bif decide (0 <= f) && decide (f < (d.length : Int)) then bif !U175.v (cvI (cellAt a f.toNat 0)) (cvS (cellAt a f.toNat 1)) (cvI (cellAt a f.toNat (1 + 1))) (cvI (cellAt a f.toNat (1 + 1 + 1))) (cvI (cellAt a f.toNat (1 + 1 + 1 + 1))) (cvS (cellAt a f.toNat (1 + 1 + 1 + 1 + 1))) (cvI (cellAt a f.toNat (1 + 1 + 1 + 1 + 1 + 1))) (cvI (cellAt d f.toNat 0)) (cvS (cellAt d f.toNat 1)) (cvI (cellAt d f.toNat (1 + 1))) (cvI (cellAt d f.toNat (1 + 1 + 1))) (cvI (cellAt d f.toNat (1 + 1 + 1 + 1))) (cvS (cellAt d f.toNat (1 + 1 + 1 + 1 + 1))) (cvI (cellAt d f.toNat (1 + 1 + 1 + 1 + 1 + 1))) then k0 a d false f else g a d e (w64 (f + 1)) else none else none else k1 a d e f
def l4 {R : Type} (N : Nat) (k0 k1 : F_rrbi R) : Nat -> F_rrbi R
 | 0 => fun _ _ _ _ => none
 | n + 1 => r4 N (l4 N k0 k1 n) k0 k1
def b {R : Type} (N : Nat) (kr : Bool -> Option R) (a d : Row) : Option R := bif (a.length : Int) != (d.length : Int) then kr false else l4 N (fun _ _ e _ => kr e) (fun _ _ _ _ => kr true) N a d false 0
def vo := b Lib.big fun r0 => some r0
def c := fun a d => (vo a d).isSome
def v := fun a d => (vo a d).getD false
theorem out {x} : ∀ a d, vo a d = some x -> c a d = true /\ v a d = x := fun _ _ => Lib.out_
end Go.FG.U78

namespace Go.FG.U12
def b {R : Type} (kr : Bool -> Option R) (a : Int) (d e f h : Row) (i : Int) (j l : Row) (m o : Int) (p q r s : Row) (t : Int) (u w : Row) (y : Int) : Option R := bif a != o then kr false else bif U75.c d p then bif !U75.v d p then kr false else bif U76.c e f h i q r s t then bif !U76.v e f h i q r s t then kr false else bif U77.c j u then bif !U77.v j u then kr false else bif U78.c l w then bif !U78.v l w then kr false else bif m != y then kr false else kr true else none else none else none else none
def vo := b fun r0 => some r0
def c := fun a d e f h i j l m o p q r s t u w y => (vo a d e f h i j l m o p q r s t u w y).isSome
def v := fun a d e f h i j l m o p q r s t u w y => (vo a d e f h i j l m o p q r s t u w y).getD false
theorem out {x} : ∀ a d e f h i j l m o p q r s t u w y, vo a d e f h i j l m o p q r s t u w y = some x -> c a d e f h i j l m o p q r s t u w y = true /\ v a d e f h i j l m o p q r s t u w y = x := fun _ _ _ _ _ _ _ _ _ _ _ _ _ _ _ _ _ _ => Lib.out_
end Go.FG.U12

namespace Go.FG.U249
def b {R : Type} (kr : Bool -> Option R) (a d : ByteArray) (e : Int) (f h : ByteArray) (i : Int) : Option R := bif !List.beq (ByteArray.toList a) (ByteArray.toList f) then kr false else bif !List.beq (ByteArray.toList d) (ByteArray.toList h) then kr false else bif e != i then kr false else kr true
def v (a0 a1 : ByteArray) (a2 : Int) (a3 a4 : ByteArray) (a5 : Int) : Bool := bif !List.beq (ByteArray.toList a0) (ByteArray.toList a3) then false else bif !List.beq (ByteArray.toList a1) (ByteArray.toList a4) then false else bif a2 != a5 then false else true
theorem b_eq {R : Type} (kr : Bool -> Option R) (a0 a1 : ByteArray) (a2 : Int) (a3 a4 : ByteArray) (a5 : Int) : b kr a0 a1 a2 a3 a4 a5 = kr (v a0 a1 a2 a3 a4 a5) := by
 first | rfl | (unfold b v; simp only [Bool.cond_eq_ite]; (repeat' split) <;> rfl)
end Go.FG.U249

namespace Go.FG.U209
def r4 {R : Type} (N : Nat) (g k0 k1 : F_rrbi R) (a d : Row) (e : Bool) (f : Int) : Option R := bif decide (f < (a.length : Int)) then bif decide (0 <= f) && decide (f < (a.length : Int)) then bif decide (0 <= f) && decide (f < (d.length : Int)) then bif !U249.v (cvS (cellAt a f.toNat 0)) (cvS (cellAt a f.toNat 1)) (cvI (cellAt a f.toNat (1 + 1))) (cvS (cellAt d f.toNat 0)) (cvS (cellAt d f.toNat 1)) (cvI (cellAt d f.toNat (1 + 1))) then k0 a d false f else g a d e (w64 (f + 1)) else none else none else k1 a d e f
def l4 {R : Type} (N : Nat) (k0 k1 : F_rrbi R) : Nat -> F_rrbi R
 | 0 => fun _ _ _ _ => none
 | n + 1 => r4 N (l4 N k0 k1 n) k0 k1
def b {R : Type} (N : Nat) (kr : Bool -> Option R) (a d : Row) : Option R := bif (a.length : Int) != (d.length : Int) then kr false else l4 N (fun _ _ e _ => kr e) (fun _ _ _ _ => kr true) N a d false 0
def vo := b Lib.big fun r0 => some r0
def c := fun a d => (vo a d).isSome
def v := fun a d => (vo a d).getD false
theorem out {x} : ∀ a d, vo a d = some x -> c a d = true /\ v a d = x := fun _ _ => Lib.out_
end Go.FG.U209

namespace Go.FG.U123
def b {R : Type} (kr : Bool -> Option R) (a d : Row) : Option R := bif U209.c a d then bif !U209.v a d then kr false else kr true else none
def vo := b fun r0 => some r0
def c := fun a d => (vo a d).isSome
def v := fun a d => (vo a d).getD false
theorem out {x} : ∀ a d, vo a d = some x -> c a d = true /\ v a d = x := fun _ _ => Lib.out_
end Go.FG.U123

namespace Go.FG.U35
def b {R : Type} (kr : Bool -> Option R) (a : Int) (d e f h : Row) (i : Int) (j l : Row) (m : Int) (o p q : Row) (r : Int) (s t u w : Row) (y : Int) (z α : Row) (xa : Int) (xb xc xd : Row) : Option R := bif U12.c a d e f h i j l m r s t u w y z α xa then bif !U12.v a d e f h i j l m r s t u w y z α xa then kr false else bif U123.c o xb then bif !U123.v o xb then kr false else bif !U124.v p xc then kr false else bif U75.c q xd then bif !U75.v q xd then kr false else kr true else none else none else none
def vo := b fun r0 => some r0
def c := fun a d e f h i j l m o p q r s t u w y z α xa xb xc xd => (vo a d e f h i j l m o p q r s t u w y z α xa xb xc xd).isSome
def v := fun a d e f h i j l m o p q r s t u w y z α xa xb xc xd => (vo a d e f h i j l m o p q r s t u w y z α xa xb xc xd).getD false
theorem out {x} : ∀ a d e f h i j l m o p q r s t u w y z α xa xb xc xd, vo a d e f h i j l m o p q r s t u w y z α xa xb xc xd = some x -> c a d e f h i j l m o p q r s t u w y z α xa xb xc xd = true /\ v a d e f h i j l m o p q r s t u w y z α xa xb xc xd = x := fun _ _ _ _ _ _ _ _ _ _ _ _ _ _ _ _ _ _ _ _ _ _ _ _ => Lib.out_
end Go.FG.U35

namespace Go.FG.U6
def b {R : Type} (kr : Bool -> Option R) (a : Int) (d e f h : Row) (i : Int) (j l : Row) (m : Int) (o p q : Row) : Option R := bif U31.c a d e f h i j l m o p q 1048576 then Lib.lt (U31.v a d e f h i j l m o p q 1048576) fun r => bif decide (r < 0) then kr true else bif U33.c a d e f h i j l m o p q then Lib.lt (U33.v a d e f h i j l m o p q) fun s => bif U32.c s.1 s.2.1 s.2.2.1 s.2.2.2.1 s.2.2.2.2.1 s.2.2.2.2.2.1 s.2.2.2.2.2.2.1 s.2.2.2.2.2.2.2.1 s.2.2.2.2.2.2.2.2.1 s.2.2.2.2.2.2.2.2.2.1 s.2.2.2.2.2.2.2.2.2.2.1 s.2.2.2.2.2.2.2.2.2.2.2 then Lib.lt (U32.v s.1 s.2.1 s.2.2.1 s.2.2.2.1 s.2.2.2.2.1 s.2.2.2.2.2.1 s.2.2.2.2.2.2.1 s.2.2.2.2.2.2.2.1 s.2.2.2.2.2.2.2.2.1 s.2.2.2.2.2.2.2.2.2.1 s.2.2.2.2.2.2.2.2.2.2.1 s.2.2.2.2.2.2.2.2.2.2.2) fun t => bif U33.c a d e f h i j l m o p q then bif U34.c s.1 s.2.1 s.2.2.1 s.2.2.2.1 s.2.2.2.2.1 s.2.2.2.2.2.1 s.2.2.2.2.2.2.1 s.2.2.2.2.2.2.2.1 s.2.2.2.2.2.2.2.2.1 s.2.2.2.2.2.2.2.2.2.1 s.2.2.2.2.2.2.2.2.2.2.1 s.2.2.2.2.2.2.2.2.2.2.2 then Lib.lt (U34.v s.1 s.2.1 s.2.2.1 s.2.2.2.1 s.2.2.2.2.1 s.2.2.2.2.2.1 s.2.2.2.2.2.2.1 s.2.2.2.2.2.2.2.1 s.2.2.2.2.2.2.2.2.1 s.2.2.2.2.2.2.2.2.2.1 s.2.2.2.2.2.2.2.2.2.2.1 s.2.2.2.2.2.2.2.2.2.2.2) fun u => bif !decide (u = t) then kr false else bif U33.c a d e f h i j l m o p q then bif U35.c s.1 s.2.1 s.2.2.1 s.2.2.2.1 s.2.2.2.2.1 s.2.2.2.2.2.1 s.2.2.2.2.2.2.1 s.2.2.2.2.2.2.2.1 s.2.2.2.2.2.2.2.2.1 s.2.2.2.2.2.2.2.2.2.1 s.2.2.2.2.2.2.2.2.2.2.1 s.2.2.2.2.2.2.2.2.2.2.2 s.1 s.2.1 s.2.2.1 s.2.2.2.1 s.2.2.2.2.1 s.2.2.2.2.2.1 s.2.2.2.2.2.2.1 s.2.2.2.2.2.2.2.1 s.2.2.2.2.2.2.2.2.1 s.2.2.2.2.2.2.2.2.2.1 s.2.2.2.2.2.2.2.2.2.2.1 s.2.2.2.2.2.2.2.2.2.2.2 then Lib.lt (U35.v s.1 s.2.1 s.2.2.1 s.2.2.2.1 s.2.2.2.2.1 s.2.2.2.2.2.1 s.2.2.2.2.2.2.1 s.2.2.2.2.2.2.2.1 s.2.2.2.2.2.2.2.2.1 s.2.2.2.2.2.2.2.2.2.1 s.2.2.2.2.2.2.2.2.2.2.1 s.2.2.2.2.2.2.2.2.2.2.2 s.1 s.2.1 s.2.2.1 s.2.2.2.1 s.2.2.2.2.1 s.2.2.2.2.2.1 s.2.2.2.2.2.2.1 s.2.2.2.2.2.2.2.1 s.2.2.2.2.2.2.2.2.1 s.2.2.2.2.2.2.2.2.2.1 s.2.2.2.2.2.2.2.2.2.2.1 s.2.2.2.2.2.2.2.2.2.2.2) fun w => bif !w then kr false else kr true else none else none else none else none else none else none else none
def vo := b fun r0 => some r0
def c := fun a d e f h i j l m o p q => (vo a d e f h i j l m o p q).isSome
def v := fun a d e f h i j l m o p q => (vo a d e f h i j l m o p q).getD false
theorem out {x} : ∀ a d e f h i j l m o p q, vo a d e f h i j l m o p q = some x -> c a d e f h i j l m o p q = true /\ v a d e f h i j l m o p q = x := fun _ _ _ _ _ _ _ _ _ _ _ _ => Lib.out_
end Go.FG.U6

namespace Go.FG.U223
def b {R : Type} (kr : Row -> Option R) (a : Row) : Option R := bif roomy ((zeros [Ck.i IntKind.i64] 0).length + a.length) 8 then kr (zeros [Ck.i IntKind.i64] 0 ++ a) else none
def vo := b fun r0 => some r0
def c := fun a => (vo a).isSome
def v := fun a => (vo a).getD ([])
theorem out {x} : ∀ a, vo a = some x -> c a = true /\ v a = x := fun _ => Lib.out_
end Go.FG.U223

namespace Go.FG.U168
def r3 {R : Type} (N : Nat) (g : F_riiii R) (g1 : F_riiiir R) (k0 : F_riiii R) (k1 : F_riiiir R) (a : Row) (d e f h : Int) : Option R := bif decide (e < d) then bif decide (0 <= e) && decide (e < (a.length : Int)) then bif U223.c (cvL (cellAt a e.toNat 0)) then g1 a d (w64 (e + 1)) f h ([] ++ List.set (zeros [Ck.l 3] 1) 0 [CV.l 3 (U223.v (cvL (cellAt a e.toNat 0)))]) else none else none else k0 a d e f h
def r3a {R : Type} (N : Nat) (g : F_riiii R) (g1 : F_riiiir R) (k0 : F_riiii R) (k1 : F_riiiir R) (a : Row) (d e f h : Int) (i : Row) : Option R := bif decide (e < d) then bif decide (0 <= e) && decide (e < (a.length : Int)) then bif U223.c (cvL (cellAt a e.toNat 0)) then bif roomy (i.length + (List.set (zeros [Ck.l 3] 1) 0 [CV.l 3 (U223.v (cvL (cellAt a e.toNat 0)))]).length) 24 then g1 a d (w64 (e + 1)) f h (i ++ List.set (zeros [Ck.l 3] 1) 0 [CV.l 3 (U223.v (cvL (cellAt a e.toNat 0)))]) else none else none else none else k1 a d e f h i
def l3a {R : Type} (N : Nat) (k0 : F_riiii R) (k1 : F_riiiir R) : Nat -> F_riiiir R
 | 0 => fun _ _ _ _ _ _ => none
 | n + 1 => r3a N (fun x0 x1 x2 x3 x4 => none) (l3a N k0 k1 n) k0 k1
def l3 {R : Type} (N : Nat) (k0 : F_riiii R) (k1 : F_riiiir R) : Nat -> F_riiii R
 | 0 => fun _ _ _ _ _ => none
 | n + 1 => r3 N (l3 N k0 k1 n) (l3a N k0 k1 n) k0 k1
def b {R : Type} (N : Nat) (kr : F_ri R) (a : Row) (d : Int) : Option R := l3 N (fun _ _ _ _ e => kr [] e) (fun _ _ _ _ f h => kr h f) N a (a.length : Int) 0 0 d
def vo := b Lib.big fun r0 r1 => some (r0, r1)
def c := fun a d => (vo a d).isSome
def v := fun a d => (vo a d).getD ([], 0)
theorem out {x} : ∀ a d, vo a d = some x -> c a d = true /\ v a d = x := fun _ _ => Lib.out_
end Go.FG.U168

