/- Functions of the program, told as functions of numbers, texts and lists, and what each comes to. No condition but those that each states. -/
import Derived.Test.YtjejmgffiilmlaaGreatLib
set_option linter.unusedVariables false
set_option linter.unusedSimpArgs false
set_option maxRecDepth 100000
namespace Go.FG
abbrev F_riii (R : Type) := Row -> Int -> Int -> Int -> Option R
abbrev F_siis (R : Type) := ByteArray -> Int -> Int -> ByteArray -> Option R
abbrev F_rir (R : Type) := Row -> Int -> Row -> Option R
abbrev F_ri (R : Type) := Row -> Int -> Option R
abbrev F_rrri (R : Type) := Row -> Row -> Row -> Int -> Option R
abbrev F_ssiii (R : Type) := ByteArray -> ByteArray -> Int -> Int -> Int -> Option R
abbrev F_isiiisi (R : Type) := Int -> ByteArray -> Int -> Int -> Int -> ByteArray -> Int -> Option R
abbrev F_irrrrirri (R : Type) := Int -> Row -> Row -> Row -> Row -> Int -> Row -> Row -> Int -> Option R
abbrev F_iriii (R : Type) := Int -> Row -> Int -> Int -> Int -> Option R
abbrev F_iriiir (R : Type) := Int -> Row -> Int -> Int -> Int -> Row -> Option R
abbrev F_rsbi (R : Type) := Row -> ByteArray -> Bool -> Int -> Option R
abbrev F_biiri (R : Type) := Bool -> Int -> Int -> Row -> Int -> Option R
abbrev F_biri (R : Type) := Bool -> Int -> Row -> Int -> Option R
abbrev F_birrrir (R : Type) := Bool -> Int -> Row -> Row -> Row -> Int -> Row -> Option R
abbrev F_biirrrrirri (R : Type) := Bool -> Int -> Int -> Row -> Row -> Row -> Row -> Int -> Row -> Row -> Int -> Option R
abbrev F_ibiirrrrirrissiii (R : Type) := Int -> Bool -> Int -> Int -> Row -> Row -> Row -> Row -> Int -> Row -> Row -> Int -> ByteArray -> ByteArray -> Int -> Int -> Int -> Option R
abbrev F_sbiirrrrirrisiis (R : Type) := ByteArray -> Bool -> Int -> Int -> Row -> Row -> Row -> Row -> Int -> Row -> Row -> Int -> ByteArray -> Int -> Int -> ByteArray -> Option R
abbrev F_siisb (R : Type) := ByteArray -> Int -> Int -> ByteArray -> Bool -> Option R
abbrev F_isii (R : Type) := Int -> ByteArray -> Int -> Int -> Option R
abbrev F_isi (R : Type) := Int -> ByteArray -> Int -> Option R
abbrev F_iiiir (R : Type) := Int -> Int -> Int -> Int -> Row -> Option R
abbrev F_iiir (R : Type) := Int -> Int -> Int -> Row -> Option R
abbrev F_siiir (R : Type) := ByteArray -> Int -> Int -> Int -> Row -> Option R
abbrev F_rsir (R : Type) := Row -> ByteArray -> Int -> Row -> Option R
abbrev F_siiri (R : Type) := ByteArray -> Int -> Int -> Row -> Int -> Option R
abbrev F_rrris (R : Type) := Row -> Row -> Row -> Int -> ByteArray -> Option R
abbrev F_riisiiisir (R : Type) := Row -> Int -> Int -> ByteArray -> Int -> Int -> Int -> ByteArray -> Int -> Row -> Option R
abbrev F_sbiirrrrirriiiiiiiisiiisirrrrrr (R : Type) := ByteArray -> Bool -> Int -> Int -> Row -> Row -> Row -> Row -> Int -> Row -> Row -> Int -> Int -> Int -> Int -> Int -> Int -> Int -> Int -> ByteArray -> Int -> Int -> Int -> ByteArray -> Int -> Row -> Row -> Row -> Row -> Row -> Row -> Option R
abbrev F_isiiirrrrirriiiiiiirrrrrr (R : Type) := Int -> ByteArray -> Int -> Int -> Int -> Row -> Row -> Row -> Row -> Int -> Row -> Row -> Int -> Int -> Int -> Int -> Int -> Int -> Int -> Row -> Row -> Row -> Row -> Row -> Row -> Option R
abbrev F_irrrrirrii (R : Type) := Int -> Row -> Row -> Row -> Row -> Int -> Row -> Row -> Int -> Int -> Option R
abbrev F_riiii (R : Type) := Row -> Int -> Int -> Int -> Int -> Option R
abbrev F_riiiir (R : Type) := Row -> Int -> Int -> Int -> Int -> Row -> Option R
abbrev F_riir (R : Type) := Row -> Int -> Int -> Row -> Option R
abbrev F_ririi (R : Type) := Row -> Int -> Row -> Int -> Int -> Option R
abbrev F_rsiii (R : Type) := Row -> ByteArray -> Int -> Int -> Int -> Option R
abbrev F_brriiriiri (R : Type) := Bool -> Row -> Row -> Int -> Int -> Row -> Int -> Int -> Row -> Int -> Option R
abbrev F_briiri (R : Type) := Bool -> Row -> Int -> Int -> Row -> Int -> Option R
abbrev F_biirrrir (R : Type) := Bool -> Int -> Int -> Row -> Row -> Row -> Int -> Row -> Option R
abbrev F_briiirrrrirri (R : Type) := Bool -> Row -> Int -> Int -> Int -> Row -> Row -> Row -> Row -> Int -> Row -> Row -> Int -> Option R
abbrev F_niiiiiir (R : Type) := Nat -> Int -> Int -> Int -> Int -> Int -> Int -> Row -> Option R
abbrev F_siiiir (R : Type) := ByteArray -> Int -> Int -> Int -> Int -> Row -> Option R
abbrev F_siir (R : Type) := ByteArray -> Int -> Int -> Row -> Option R
abbrev F_sirii (R : Type) := ByteArray -> Int -> Row -> Int -> Int -> Option R
abbrev F_iiiiisiiisirrrrrr (R : Type) := Int -> Int -> Int -> Int -> Int -> ByteArray -> Int -> Int -> Int -> ByteArray -> Int -> Row -> Row -> Row -> Row -> Row -> Row -> Option R
abbrev F_rrbi (R : Type) := Row -> Row -> Bool -> Int -> Option R
abbrev F_is (R : Type) := Int -> ByteArray -> Option R
abbrev F_iir (R : Type) := Int -> Int -> Row -> Option R
abbrev F_ir (R : Type) := Int -> Row -> Option R
abbrev F_irrr (R : Type) := Int -> Row -> Row -> Row -> Option R
abbrev F_irrrrrr (R : Type) := Int -> Row -> Row -> Row -> Row -> Row -> Row -> Option R
abbrev F_risiisr (R : Type) := Row -> Int -> ByteArray -> Int -> Int -> ByteArray -> Row -> Option R
end Go.FG

namespace Go.FG.U135
def b {R : Type} (kr : Int -> Option R) (a : ByteArray) (d e : Int) (f : ByteArray) (h : Int) : Option R := bif decide (w64 (h - (a.size : Int)) < 0) then kr (-1) else bif decide (w64 (w64 (h - (a.size : Int)) - (f.size : Int)) < 0) then kr (-1) else kr (w64 (w64 (h - (a.size : Int)) - (f.size : Int)))
def v (a0 : ByteArray) (a1 a2 : Int) (a3 : ByteArray) (a4 : Int) : Int := bif decide (w64 (a4 - (a0.size : Int)) < 0) then -1 else bif decide (w64 (w64 (a4 - (a0.size : Int)) - (a3.size : Int)) < 0) then -1 else w64 (w64 (a4 - (a0.size : Int)) - (a3.size : Int))
theorem b_eq {R : Type} (kr : Int -> Option R) (a0 : ByteArray) (a1 a2 : Int) (a3 : ByteArray) (a4 : Int) : b kr a0 a1 a2 a3 a4 = kr (v a0 a1 a2 a3 a4) := by
 first | rfl | (unfold b v; simp only [Bool.cond_eq_ite]; (repeat' split) <;> rfl)
end Go.FG.U135

namespace Go.FG.U44
def r5 {R : Type} (N : Nat) (g k0 k1 : F_riii R) (a : Row) (d e f : Int) : Option R := bif decide (f < (a.length : Int)) then bif decide (0 <= f) && decide (f < (a.length : Int)) then bif decide (U135.v (cvS (cellAt a f.toNat 0)) (cvI (cellAt a f.toNat 1)) (cvI (cellAt a f.toNat (1 + 1))) (cvS (cellAt a f.toNat (1 + 1 + 1))) d < 0) then k0 a (U135.v (cvS (cellAt a f.toNat 0)) (cvI (cellAt a f.toNat 1)) (cvI (cellAt a f.toNat (1 + 1))) (cvS (cellAt a f.toNat (1 + 1 + 1))) d) (-1) f else g a (U135.v (cvS (cellAt a f.toNat 0)) (cvI (cellAt a f.toNat 1)) (cvI (cellAt a f.toNat (1 + 1))) (cvS (cellAt a f.toNat (1 + 1 + 1))) d) e (w64 (f + 1)) else none else k1 a d e f
def l5 {R : Type} (N : Nat) (k0 k1 : F_riii R) : Nat -> F_riii R
 | 0 => fun _ _ _ _ => none
 | n + 1 => r5 N (l5 N k0 k1 n) k0 k1
def b {R : Type} (N : Nat) (kr : Int -> Option R) (a : Row) (d : Int) : Option R := bif decide (w64 (d - (a.length : Int)) < 0) then kr (-1) else l5 N (fun _ _ e _ => kr e) (fun _ f _ _ => kr f) N a (w64 (d - (a.length : Int))) 0 0
def vo := b Lib.big fun r0 => some r0
def c := fun a d => (vo a d).isSome
def v := fun a d => (vo a d).getD (0)
theorem out {x} : ∀ a d, vo a d = some x -> c a d = true /\ v a d = x := fun _ _ => Lib.out_
end Go.FG.U44

namespace Go.FG.U136
def r5 {R : Type} (N : Nat) (g k0 k1 : F_riii R) (a : Row) (d e f : Int) : Option R := bif decide (f < (a.length : Int)) then bif decide (0 <= f) && decide (f < (a.length : Int)) then bif decide (w64 (d - ((cvS (cellAt a f.toNat 0)).size : Int)) < 0) then k0 a (w64 (d - ((cvS (cellAt a f.toNat 0)).size : Int))) (-1) f else g a (w64 (d - ((cvS (cellAt a f.toNat 0)).size : Int))) e (w64 (f + 1)) else none else k1 a d e f
def l5 {R : Type} (N : Nat) (k0 k1 : F_riii R) : Nat -> F_riii R
 | 0 => fun _ _ _ _ => none
 | n + 1 => r5 N (l5 N k0 k1 n) k0 k1
def b {R : Type} (N : Nat) (kr : Int -> Option R) (a : Row) (d : Int) : Option R := bif decide (w64 (d - (a.length : Int)) < 0) then kr (-1) else l5 N (fun _ _ e _ => kr e) (fun _ f _ _ => kr f) N a (w64 (d - (a.length : Int))) 0 0
def vo := b Lib.big fun r0 => some r0
def c := fun a d => (vo a d).isSome
def v := fun a d => (vo a d).getD (0)
theorem out {x} : ∀ a d, vo a d = some x -> c a d = true /\ v a d = x := fun _ _ => Lib.out_
end Go.FG.U136

namespace Go.FG.U110
def b {R : Type} (kr : Int -> Option R) (a : Row) (d : Int) : Option R := bif decide (w64 (d - (a.length : Int)) < 0) then kr (-1) else kr (w64 (d - (a.length : Int)))
def v (a0 : Row) (a1 : Int) : Int := bif decide (w64 (a1 - (a0.length : Int)) < 0) then -1 else w64 (a1 - (a0.length : Int))
theorem b_eq {R : Type} (kr : Int -> Option R) (a0 : Row) (a1 : Int) : b kr a0 a1 = kr (v a0 a1) := by
 first | rfl | (unfold b v; simp only [Bool.cond_eq_ite]; (repeat' split) <;> rfl)
end Go.FG.U110

namespace Go.FG.U214
def r5 {R : Type} (N : Nat) (g k0 k1 : F_riii R) (a : Row) (d e f : Int) : Option R := bif decide (f < (a.length : Int)) then bif decide (0 <= f) && decide (f < (a.length : Int)) then bif decide (U110.v (cvL (cellAt a f.toNat 0)) d < 0) then k0 a (U110.v (cvL (cellAt a f.toNat 0)) d) (-1) f else g a (U110.v (cvL (cellAt a f.toNat 0)) d) e (w64 (f + 1)) else none else k1 a d e f
def l5 {R : Type} (N : Nat) (k0 k1 : F_riii R) : Nat -> F_riii R
 | 0 => fun _ _ _ _ => none
 | n + 1 => r5 N (l5 N k0 k1 n) k0 k1
def b {R : Type} (N : Nat) (kr : Int -> Option R) (a : Row) (d : Int) : Option R := bif decide (w64 (d - (a.length : Int)) < 0) then kr (-1) else l5 N (fun _ _ e _ => kr e) (fun _ f _ _ => kr f) N a (w64 (d - (a.length : Int))) 0 0
def vo := b Lib.big fun r0 => some r0
def c := fun a d => (vo a d).isSome
def v := fun a d => (vo a d).getD (0)
theorem out {x} : ∀ a d, vo a d = some x -> c a d = true /\ v a d = x := fun _ _ => Lib.out_
end Go.FG.U214

namespace Go.FG.U137
def b {R : Type} (kr : Int -> Option R) (a : Row) (d e : Int) : Option R := bif U214.c a e then bif decide (U214.v a e < 0) then kr (-1) else kr (U214.v a e) else none
def vo := b fun r0 => some r0
def c := fun a d e => (vo a d e).isSome
def v := fun a d e => (vo a d e).getD (0)
theorem out {x} : ∀ a d e, vo a d e = some x -> c a d e = true /\ v a d e = x := fun _ _ _ => Lib.out_
end Go.FG.U137

namespace Go.FG.U45
def b {R : Type} (kr : Int -> Option R) (a d e : Row) (f h : Int) : Option R := bif U136.c a h then bif decide (U136.v a h < 0) then kr (-1) else bif U136.c d (U136.v a h) then bif decide (U136.v d (U136.v a h) < 0) then kr (-1) else bif U137.c e f (U136.v d (U136.v a h)) then bif decide (U137.v e f (U136.v d (U136.v a h)) < 0) then kr (-1) else kr (U137.v e f (U136.v d (U136.v a h))) else none else none else none
def vo := b fun r0 => some r0
def c := fun a d e f h => (vo a d e f h).isSome
def v := fun a d e f h => (vo a d e f h).getD (0)
theorem out {x} : ∀ a d e f h, vo a d e f h = some x -> c a d e f h = true /\ v a d e f h = x := fun _ _ _ _ _ => Lib.out_
end Go.FG.U45

namespace Go.FG.U138
def b {R : Type} (kr : Int -> Option R) (a d : ByteArray) (e f h i : Int) : Option R := bif decide (w64 (i - (a.size : Int)) < 0) then kr (-1) else bif decide (w64 (w64 (i - (a.size : Int)) - (d.size : Int)) < 0) then kr (-1) else kr (w64 (w64 (i - (a.size : Int)) - (d.size : Int)))
def v (a0 a1 : ByteArray) (a2 a3 a4 a5 : Int) : Int := bif decide (w64 (a5 - (a0.size : Int)) < 0) then -1 else bif decide (w64 (w64 (a5 - (a0.size : Int)) - (a1.size : Int)) < 0) then -1 else w64 (w64 (a5 - (a0.size : Int)) - (a1.size : Int))
theorem b_eq {R : Type} (kr : Int -> Option R) (a0 a1 : ByteArray) (a2 a3 a4 a5 : Int) : b kr a0 a1 a2 a3 a4 a5 = kr (v a0 a1 a2 a3 a4 a5) := by
 first | rfl | (unfold b v; simp only [Bool.cond_eq_ite]; (repeat' split) <;> rfl)
end Go.FG.U138

namespace Go.FG.U46
def r5 {R : Type} (N : Nat) (g k0 k1 : F_riii R) (a : Row) (d e f : Int) : Option R := bif decide (f < (a.length : Int)) then bif decide (0 <= f) && decide (f < (a.length : Int)) then bif decide (U138.v (cvS (cellAt a f.toNat 0)) (cvS (cellAt a f.toNat 1)) (cvI (cellAt a f.toNat (1 + 1))) (cvI (cellAt a f.toNat (1 + 1 + 1))) (cvI (cellAt a f.toNat (1 + 1 + 1 + 1))) d < 0) then k0 a (U138.v (cvS (cellAt a f.toNat 0)) (cvS (cellAt a f.toNat 1)) (cvI (cellAt a f.toNat (1 + 1))) (cvI (cellAt a f.toNat (1 + 1 + 1))) (cvI (cellAt a f.toNat (1 + 1 + 1 + 1))) d) (-1) f else g a (U138.v (cvS (cellAt a f.toNat 0)) (cvS (cellAt a f.toNat 1)) (cvI (cellAt a f.toNat (1 + 1))) (cvI (cellAt a f.toNat (1 + 1 + 1))) (cvI (cellAt a f.toNat (1 + 1 + 1 + 1))) d) e (w64 (f + 1)) else none else k1 a d e f
def l5 {R : Type} (N : Nat) (k0 k1 : F_riii R) : Nat -> F_riii R
 | 0 => fun _ _ _ _ => none
 | n + 1 => r5 N (l5 N k0 k1 n) k0 k1
def b {R : Type} (N : Nat) (kr : Int -> Option R) (a : Row) (d : Int) : Option R := bif decide (w64 (d - (a.length : Int)) < 0) then kr (-1) else l5 N (fun _ _ e _ => kr e) (fun _ f _ _ => kr f) N a (w64 (d - (a.length : Int))) 0 0
def vo := b Lib.big fun r0 => some r0
def c := fun a d => (vo a d).isSome
def v := fun a d => (vo a d).getD (0)
theorem out {x} : ∀ a d, vo a d = some x -> c a d = true /\ v a d = x := fun _ _ => Lib.out_
end Go.FG.U46

namespace Go.FG.U139
def b {R : Type} (kr : Int -> Option R) (a : Int) (d : ByteArray) (e f h : Int) (i : ByteArray) (j l : Int) : Option R := bif decide (w64 (l - (d.size : Int)) < 0) then kr (-1) else bif decide (w64 (w64 (l - (d.size : Int)) - (i.size : Int)) < 0) then kr (-1) else kr (w64 (w64 (l - (d.size : Int)) - (i.size : Int)))
def v (a0 : Int) (a1 : ByteArray) (a2 a3 a4 : Int) (a5 : ByteArray) (a6 a7 : Int) : Int := bif decide (w64 (a7 - (a1.size : Int)) < 0) then -1 else bif decide (w64 (w64 (a7 - (a1.size : Int)) - (a5.size : Int)) < 0) then -1 else w64 (w64 (a7 - (a1.size : Int)) - (a5.size : Int))
theorem b_eq {R : Type} (kr : Int -> Option R) (a0 : Int) (a1 : ByteArray) (a2 a3 a4 : Int) (a5 : ByteArray) (a6 a7 : Int) : b kr a0 a1 a2 a3 a4 a5 a6 a7 = kr (v a0 a1 a2 a3 a4 a5 a6 a7) := by
 first | rfl | (unfold b v; simp only [Bool.cond_eq_ite]; (repeat' split) <;> rfl)
end Go.FG.U139

namespace Go.FG.U47
def r5 {R : Type} (N : Nat) (g k0 k1 : F_riii R) (a : Row) (d e f : Int) : Option R := bif decide (f < (a.length : Int)) then bif decide (0 <= f) && decide (f < (a.length : Int)) then bif decide (U139.v (cvI (cellAt a f.toNat 0)) (cvS (cellAt a f.toNat 1)) (cvI (cellAt a f.toNat (1 + 1))) (cvI (cellAt a f.toNat (1 + 1 + 1))) (cvI (cellAt a f.toNat (1 + 1 + 1 + 1))) (cvS (cellAt a f.toNat (1 + 1 + 1 + 1 + 1))) (cvI (cellAt a f.toNat (1 + 1 + 1 + 1 + 1 + 1))) d < 0) then k0 a (U139.v (cvI (cellAt a f.toNat 0)) (cvS (cellAt a f.toNat 1)) (cvI (cellAt a f.toNat (1 + 1))) (cvI (cellAt a f.toNat (1 + 1 + 1))) (cvI (cellAt a f.toNat (1 + 1 + 1 + 1))) (cvS (cellAt a f.toNat (1 + 1 + 1 + 1 + 1))) (cvI (cellAt a f.toNat (1 + 1 + 1 + 1 + 1 + 1))) d) (-1) f else g a (U139.v (cvI (cellAt a f.toNat 0)) (cvS (cellAt a f.toNat 1)) (cvI (cellAt a f.toNat (1 + 1))) (cvI (cellAt a f.toNat (1 + 1 + 1))) (cvI (cellAt a f.toNat (1 + 1 + 1 + 1))) (cvS (cellAt a f.toNat (1 + 1 + 1 + 1 + 1))) (cvI (cellAt a f.toNat (1 + 1 + 1 + 1 + 1 + 1))) d) e (w64 (f + 1)) else none else k1 a d e f
def l5 {R : Type} (N : Nat) (k0 k1 : F_riii R) : Nat -> F_riii R
 | 0 => fun _ _ _ _ => none
 | n + 1 => r5 N (l5 N k0 k1 n) k0 k1
def b {R : Type} (N : Nat) (kr : Int -> Option R) (a : Row) (d : Int) : Option R := bif decide (w64 (d - (a.length : Int)) < 0) then kr (-1) else l5 N (fun _ _ e _ => kr e) (fun _ f _ _ => kr f) N a (w64 (d - (a.length : Int))) 0 0
def vo := b Lib.big fun r0 => some r0
def c := fun a d => (vo a d).isSome
def v := fun a d => (vo a d).getD (0)
theorem out {x} : ∀ a d, vo a d = some x -> c a d = true /\ v a d = x := fun _ _ => Lib.out_
end Go.FG.U47

namespace Go.FG.U8
def b {R : Type} (kr : Int -> Option R) (a : Int) (d e f h : Row) (i : Int) (j l : Row) (m o : Int) : Option R := bif U44.c d o then bif decide (U44.v d o < 0) then kr (-1) else bif U45.c e f h i (U44.v d o) then bif decide (U45.v e f h i (U44.v d o) < 0) then kr (-1) else bif U46.c j (U45.v e f h i (U44.v d o)) then bif decide (U46.v j (U45.v e f h i (U44.v d o)) < 0) then kr (-1) else bif U47.c l (U46.v j (U45.v e f h i (U44.v d o))) then bif decide (U47.v l (U46.v j (U45.v e f h i (U44.v d o))) < 0) then kr (-1) else kr (U47.v l (U46.v j (U45.v e f h i (U44.v d o)))) else none else none else none else none
def vo := b fun r0 => some r0
def c := fun a d e f h i j l m o => (vo a d e f h i j l m o).isSome
def v := fun a d e f h i j l m o => (vo a d e f h i j l m o).getD (0)
theorem out {x} : ∀ a d e f h i j l m o, vo a d e f h i j l m o = some x -> c a d e f h i j l m o = true /\ v a d e f h i j l m o = x := fun _ _ _ _ _ _ _ _ _ _ => Lib.out_
end Go.FG.U8

namespace Go.FG.U149
def b {R : Type} (kr : F_siis R) (a : ByteArray) (d e : Int) (f : ByteArray) : Option R := kr a d e f
def v (a0 : ByteArray) (a1 a2 : Int) (a3 : ByteArray) : ByteArray × Int × Int × ByteArray := (a0, a1, a2, a3)
theorem b_eq {R : Type} (kr : F_siis R) (a0 : ByteArray) (a1 a2 : Int) (a3 : ByteArray) : b kr a0 a1 a2 a3 = kr ((v a0 a1 a2 a3).1) ((v a0 a1 a2 a3).2.1) ((v a0 a1 a2 a3).2.2.1) ((v a0 a1 a2 a3).2.2.2) := by
 first | rfl | (unfold b v; simp only [Bool.cond_eq_ite]; (repeat' split) <;> rfl)
end Go.FG.U149

namespace Go.FG.U58
def r3 {R : Type} (N : Nat) (g k0 : F_rir R) (a : Row) (d : Int) (e : Row) : Option R := bif decide (d < (a.length : Int)) then bif decide (0 <= d) && decide (d < (a.length : Int)) then bif decide (0 <= d) && decide (d < (e.length : Int)) then g a (w64 (d + 1)) (setC e d.toNat 0 [.s (cvS (cellAt a d.toNat 0)), .i .i64 (cvI (cellAt a d.toNat 1)), .i .i64 (cvI (cellAt a d.toNat (1 + 1))), .s (cvS (cellAt a d.toNat (1 + 1 + 1)))]) else none else none else k0 a d e
def l3 {R : Type} (N : Nat) (k0 : F_rir R) : Nat -> F_rir R
 | 0 => fun _ _ _ => none
 | n + 1 => r3 N (l3 N k0 n) k0
def b {R : Type} (N : Nat) (kr : Row -> Option R) (a : Row) : Option R := bif decide ((a.length : Int) = (a.length : Int)) && roomy (a.length : Int).toNat 48 then l3 N (fun _ _ d => kr d) N a 0 (zeros [Ck.s, Ck.i IntKind.i64, Ck.i IntKind.i64, Ck.s] (a.length : Int).toNat) else none
def vo := b Lib.big fun r0 => some r0
def c := fun a => (vo a).isSome
def v := fun a => (vo a).getD ([])
theorem out {x} : ∀ a, vo a = some x -> c a = true /\ v a = x := fun _ => Lib.out_
end Go.FG.U58

namespace Go.FG.U150
def r3 {R : Type} (N : Nat) (g k0 : F_rir R) (a : Row) (d : Int) (e : Row) : Option R := bif decide (d < (a.length : Int)) then bif decide (0 <= d) && decide (d < (a.length : Int)) then bif decide (0 <= d) && decide (d < (e.length : Int)) then g a (w64 (d + 1)) (setC e d.toNat 0 [.s (cvS (cellAt a d.toNat 0))]) else none else none else k0 a d e
def l3 {R : Type} (N : Nat) (k0 : F_rir R) : Nat -> F_rir R
 | 0 => fun _ _ _ => none
 | n + 1 => r3 N (l3 N k0 n) k0
def b {R : Type} (N : Nat) (kr : Row -> Option R) (a : Row) : Option R := bif decide ((a.length : Int) = (a.length : Int)) && roomy (a.length : Int).toNat 16 then l3 N (fun _ _ d => kr d) N a 0 (zeros [.s] (a.length : Int).toNat) else none
def vo := b Lib.big fun r0 => some r0
def c := fun a => (vo a).isSome
def v := fun a => (vo a).getD ([])
theorem out {x} : ∀ a, vo a = some x -> c a = true /\ v a = x := fun _ => Lib.out_
end Go.FG.U150

namespace Go.FG.U117
def r3 {R : Type} (N : Nat) (g k0 : F_rir R) (a : Row) (d : Int) (e : Row) : Option R := bif decide (d < (a.length : Int)) then bif decide (0 <= d) && decide (d < (a.length : Int)) then bif decide (0 <= d) && decide (d < (e.length : Int)) then g a (w64 (d + 1)) (setC e d.toNat 0 [.i .i64 (cvI (cellAt a d.toNat 0))]) else none else none else k0 a d e
def l3 {R : Type} (N : Nat) (k0 : F_rir R) : Nat -> F_rir R
 | 0 => fun _ _ _ => none
 | n + 1 => r3 N (l3 N k0 n) k0
def b {R : Type} (N : Nat) (kr : Row -> Option R) (a : Row) : Option R := bif decide ((a.length : Int) = (a.length : Int)) && roomy (a.length : Int).toNat 8 then l3 N (fun _ _ d => kr d) N a 0 (zeros [Ck.i IntKind.i64] (a.length : Int).toNat) else none
def v (a0 : Row) : Row := a0.map fun y => [CV.i IntKind.i64 (cvI (y.getD 0 (.b false)))]
def c (a0 : Row) : Bool := decide (a0.length <= 1048576)
theorem b_eq {R : Type} (kr : Row -> Option R) (a0 : Row) (hc : c a0 = true) : ∃ N, b N kr a0 = kr (v a0) := by
 have hl : a0.length <= 1048576 := of_decide_eq_true hc
 refine ⟨a0.length + 1, ?_⟩
 unfold b
 rw [show decide ((a0.length : Int) = (a0.length : Int)) = true by simp, Lib.toN, Lib.roomy_of (by omega) (by omega), Bool.and_self, cond_true]
 refine Lib.fill_run (ks := [Ck.i IntKind.i64]) (v a0) a0.length (by unfold v; simp) (fun y hy => ?_) (fun m (i : Nat) x => l3 (a0.length + 1) (fun _ _ y => kr y) m a0 i x) kr (fun m => ?_) (fun m i hi x hx => ?_)
 ·unfold v at hy; obtain ⟨z, _, rfl⟩ := List.mem_map.1 hy; rfl
 ·simp only [l3, r3, Lib.dlt, Nat.lt_irrefl, decide_false, cond_false]
 ·have hi2 : i < x.length := by omega
  have e : (v a0).getD i [] = [CV.i IntKind.i64 (cvI (cellAt a0 i 0))] := by
   unfold v; simp [List.getD, hi, cellAt]
  simp only [l3, r3, Lib.dlt, Lib.dle0, Lib.toN, hi, hi2, decide_true, Bool.true_and, cond_true, Lib.w64_s hi (by omega), e]
end Go.FG.U117

namespace Go.FG.U216
def r3 {R : Type} (N : Nat) (g k0 : F_rir R) (a : Row) (d : Int) (e : Row) : Option R := bif decide (d < (a.length : Int)) then bif decide (0 <= d) && decide (d < (a.length : Int)) then bif U117.c (cvL (cellAt a d.toNat 0)) then bif decide (0 <= d) && decide (d < (e.length : Int)) then g a (w64 (d + 1)) (setC e d.toNat 0 [CV.l 3 (U117.v (cvL (cellAt a d.toNat 0)))]) else none else none else none else k0 a d e
def l3 {R : Type} (N : Nat) (k0 : F_rir R) : Nat -> F_rir R
 | 0 => fun _ _ _ => none
 | n + 1 => r3 N (l3 N k0 n) k0
def b {R : Type} (N : Nat) (kr : Row -> Option R) (a : Row) : Option R := bif decide ((a.length : Int) = (a.length : Int)) && roomy (a.length : Int).toNat 24 then l3 N (fun _ _ d => kr d) N a 0 (zeros [Ck.l 3] (a.length : Int).toNat) else none
def vo := b Lib.big fun r0 => some r0
def c := fun a => (vo a).isSome
def v := fun a => (vo a).getD ([])
theorem out {x} : ∀ a, vo a = some x -> c a = true /\ v a = x := fun _ => Lib.out_
end Go.FG.U216

namespace Go.FG.U151
def b {R : Type} (kr : F_ri R) (a : Row) (d : Int) : Option R := bif U216.c a then kr (U216.v a) d else none
def vo := b fun r0 r1 => some (r0, r1)
def c := fun a d => (vo a d).isSome
def v := fun a d => (vo a d).getD ([], 0)
theorem out {x} : ∀ a d, vo a d = some x -> c a d = true /\ v a d = x := fun _ _ => Lib.out_
end Go.FG.U151

namespace Go.FG.U59
def b {R : Type} (kr : F_rrri R) (a d e : Row) (f : Int) : Option R := bif U150.c a then bif U150.c d then bif U151.c e f then kr (U150.v a) (U150.v d) (U151.v e f).1 (U151.v e f).2 else none else none else none
def vo := b fun r0 r1 r2 r3 => some (r0, r1, r2, r3)
def c := fun a d e f => (vo a d e f).isSome
def v := fun a d e f => (vo a d e f).getD ([], [], [], 0)
theorem out {x} : ∀ a d e f, vo a d e f = some x -> c a d e f = true /\ v a d e f = x := fun _ _ _ _ => Lib.out_
end Go.FG.U59

namespace Go.FG.U152
def b {R : Type} (kr : F_ssiii R) (a d : ByteArray) (e f h : Int) : Option R := kr a d e f h
def v (a0 a1 : ByteArray) (a2 a3 a4 : Int) : ByteArray × ByteArray × Int × Int × Int := (a0, a1, a2, a3, a4)
theorem b_eq {R : Type} (kr : F_ssiii R) (a0 a1 : ByteArray) (a2 a3 a4 : Int) : b kr a0 a1 a2 a3 a4 = kr ((v a0 a1 a2 a3 a4).1) ((v a0 a1 a2 a3 a4).2.1) ((v a0 a1 a2 a3 a4).2.2.1) ((v a0 a1 a2 a3 a4).2.2.2.1) ((v a0 a1 a2 a3 a4).2.2.2.2) := by
 first | rfl | (unfold b v; simp only [Bool.cond_eq_ite]; (repeat' split) <;> rfl)
end Go.FG.U152

namespace Go.FG.U60
def r3 {R : Type} (N : Nat) (g k0 : F_rir R) (a : Row) (d : Int) (e : Row) : Option R := bif decide (d < (a.length : Int)) then bif decide (0 <= d) && decide (d < (a.length : Int)) then bif decide (0 <= d) && decide (d < (e.length : Int)) then g a (w64 (d + 1)) (setC e d.toNat 0 [.s (cvS (cellAt a d.toNat 0)), .s (cvS (cellAt a d.toNat 1)), .i .i64 (cvI (cellAt a d.toNat (1 + 1))), .i .i64 (cvI (cellAt a d.toNat (1 + 1 + 1))), .i .i64 (cvI (cellAt a d.toNat (1 + 1 + 1 + 1)))]) else none else none else k0 a d e
def l3 {R : Type} (N : Nat) (k0 : F_rir R) : Nat -> F_rir R
 | 0 => fun _ _ _ => none
 | n + 1 => r3 N (l3 N k0 n) k0
def b {R : Type} (N : Nat) (kr : Row -> Option R) (a : Row) : Option R := bif decide ((a.length : Int) = (a.length : Int)) && roomy (a.length : Int).toNat 56 then l3 N (fun _ _ d => kr d) N a 0 (zeros [Ck.s, Ck.s, Ck.i IntKind.i64, Ck.i IntKind.i64, Ck.i IntKind.i64] (a.length : Int).toNat) else none
def vo := b Lib.big fun r0 => some r0
def c := fun a => (vo a).isSome
def v := fun a => (vo a).getD ([])
theorem out {x} : ∀ a, vo a = some x -> c a = true /\ v a = x := fun _ => Lib.out_
end Go.FG.U60

namespace Go.FG.U153
def b {R : Type} (kr : F_isiiisi R) (a : Int) (d : ByteArray) (e f h : Int) (i : ByteArray) (j : Int) : Option R := kr a d e f h i j
def v (a0 : Int) (a1 : ByteArray) (a2 a3 a4 : Int) (a5 : ByteArray) (a6 : Int) : Int × ByteArray × Int × Int × Int × ByteArray × Int := (a0, a1, a2, a3, a4, a5, a6)
theorem b_eq {R : Type} (kr : F_isiiisi R) (a0 : Int) (a1 : ByteArray) (a2 a3 a4 : Int) (a5 : ByteArray) (a6 : Int) : b kr a0 a1 a2 a3 a4 a5 a6 = kr ((v a0 a1 a2 a3 a4 a5 a6).1) ((v a0 a1 a2 a3 a4 a5 a6).2.1) ((v a0 a1 a2 a3 a4 a5 a6).2.2.1) ((v a0 a1 a2 a3 a4 a5 a6).2.2.2.1) ((v a0 a1 a2 a3 a4 a5 a6).2.2.2.2.1) ((v a0 a1 a2 a3 a4 a5 a6).2.2.2.2.2.1) ((v a0 a1 a2 a3 a4 a5 a6).2.2.2.2.2.2) := by
 first | rfl | (unfold b v; simp only [Bool.cond_eq_ite]; (repeat' split) <;> rfl)
end Go.FG.U153

namespace Go.FG.U61
def r3 {R : Type} (N : Nat) (g k0 : F_rir R) (a : Row) (d : Int) (e : Row) : Option R := bif decide (d < (a.length : Int)) then bif decide (0 <= d) && decide (d < (a.length : Int)) then bif decide (0 <= d) && decide (d < (e.length : Int)) then g a (w64 (d + 1)) (setC e d.toNat 0 [.i .i64 (cvI (cellAt a d.toNat 0)), .s (cvS (cellAt a d.toNat 1)), .i .i64 (cvI (cellAt a d.toNat (1 + 1))), .i .i64 (cvI (cellAt a d.toNat (1 + 1 + 1))), .i .i64 (cvI (cellAt a d.toNat (1 + 1 + 1 + 1))), .s (cvS (cellAt a d.toNat (1 + 1 + 1 + 1 + 1))), .i .i64 (cvI (cellAt a d.toNat (1 + 1 + 1 + 1 + 1 + 1)))]) else none else none else k0 a d e
def l3 {R : Type} (N : Nat) (k0 : F_rir R) : Nat -> F_rir R
 | 0 => fun _ _ _ => none
 | n + 1 => r3 N (l3 N k0 n) k0
def b {R : Type} (N : Nat) (kr : Row -> Option R) (a : Row) : Option R := bif decide ((a.length : Int) = (a.length : Int)) && roomy (a.length : Int).toNat 72 then l3 N (fun _ _ d => kr d) N a 0 (zeros [Ck.i IntKind.i64, Ck.s, Ck.i IntKind.i64, Ck.i IntKind.i64, Ck.i IntKind.i64, Ck.s, Ck.i IntKind.i64] (a.length : Int).toNat) else none
def vo := b Lib.big fun r0 => some r0
def c := fun a => (vo a).isSome
def v := fun a => (vo a).getD ([])
theorem out {x} : ∀ a, vo a = some x -> c a = true /\ v a = x := fun _ => Lib.out_
end Go.FG.U61

namespace Go.FG.U10
def b {R : Type} (kr : F_irrrrirri R) (a : Int) (d e f h : Row) (i : Int) (j l : Row) (m : Int) : Option R := bif U58.c d then bif U59.c e f h i then bif U60.c j then bif U61.c l then kr a (U58.v d) (U59.v e f h i).1 (U59.v e f h i).2.1 (U59.v e f h i).2.2.1 (U59.v e f h i).2.2.2 (U60.v j) (U61.v l) m else none else none else none else none
def vo := b fun r0 r1 r2 r3 r4 r5 r6 r7 r8 => some (r0, r1, r2, r3, r4, r5, r6, r7, r8)
def c := fun a d e f h i j l m => (vo a d e f h i j l m).isSome
def v := fun a d e f h i j l m => (vo a d e f h i j l m).getD (0, [], [], [], [], 0, [], [], 0)
theorem out {x} : ∀ a d e f h i j l m, vo a d e f h i j l m = some x -> c a d e f h i j l m = true /\ v a d e f h i j l m = x := fun _ _ _ _ _ _ _ _ _ => Lib.out_
end Go.FG.U10

namespace Go.FG.U146
def r3 {R : Type} (N : Nat) (g : F_iriii R) (g1 : F_iriiir R) (k0 : F_iriii R) (k1 : F_iriiir R) (a : Int) (d : Row) (e f h : Int) : Option R := bif decide (a < (d.length : Int)) then bif decide (0 <= a) && decide (a < (d.length : Int)) then bif roomy ((zeros [Ck.i IntKind.i64] 0).length + (cvL (cellAt d a.toNat 0)).length) 8 then g1 (w64 (a + 1)) d e f h ([] ++ List.set (zeros [Ck.l 3] 1) 0 [CV.l 3 (zeros [Ck.i IntKind.i64] 0 ++ cvL (cellAt d a.toNat 0))]) else none else none else k0 a d e f h
def r3a {R : Type} (N : Nat) (g : F_iriii R) (g1 : F_iriiir R) (k0 : F_iriii R) (k1 : F_iriiir R) (a : Int) (d : Row) (e f h : Int) (i : Row) : Option R := bif decide (a < (d.length : Int)) then bif decide (0 <= a) && decide (a < (d.length : Int)) then bif roomy ((zeros [Ck.i IntKind.i64] 0).length + (cvL (cellAt d a.toNat 0)).length) 8 then bif roomy (i.length + (List.set (zeros [Ck.l 3] 1) 0 [CV.l 3 (zeros [Ck.i IntKind.i64] 0 ++ cvL (cellAt d a.toNat 0))]).length) 24 then g1 (w64 (a + 1)) d e f h (i ++ List.set (zeros [Ck.l 3] 1) 0 [CV.l 3 (zeros [Ck.i IntKind.i64] 0 ++ cvL (cellAt d a.toNat 0))]) else none else none else none else k1 a d e f h i
def l3a {R : Type} (N : Nat) (k0 : F_iriii R) (k1 : F_iriiir R) : Nat -> F_iriiir R
 | 0 => fun _ _ _ _ _ _ => none
 | n + 1 => r3a N (fun x0 x1 x2 x3 x4 => none) (l3a N k0 k1 n) k0 k1
def l3 {R : Type} (N : Nat) (k0 : F_iriii R) (k1 : F_iriiir R) : Nat -> F_iriii R
 | 0 => fun _ _ _ _ _ => none
 | n + 1 => r3 N (l3 N k0 k1 n) (l3a N k0 k1 n) k0 k1
def b {R : Type} (N : Nat) (kr : F_ri R) (a : Row) (d : Int) : Option R := l3 N (fun _ _ _ _ e => kr [] e) (fun _ _ _ _ f h => kr h f) N 0 a d 0 d
def vo := b Lib.big fun r0 r1 => some (r0, r1)
def c := fun a d => (vo a d).isSome
def v := fun a d => (vo a d).getD ([], 0)
theorem out {x} : ∀ a d, vo a d = some x -> c a d = true /\ v a d = x := fun _ _ => Lib.out_
end Go.FG.U146

namespace Go.FG.U140
def b {R : Type} (kr : F_rrri R) (a d e : Row) (f : Int) : Option R := bif roomy ((zeros [.s] 0).length + a.length) 16 then bif roomy ((zeros [.s] 0).length + d.length) 16 then bif U146.c e f then kr (zeros [.s] 0 ++ a) (zeros [.s] 0 ++ d) (U146.v e f).1 (U146.v e f).2 else none else none else none
def vo := b fun r0 r1 r2 r3 => some (r0, r1, r2, r3)
def c := fun a d e f => (vo a d e f).isSome
def v := fun a d e f => (vo a d e f).getD ([], [], [], 0)
theorem out {x} : ∀ a d e f, vo a d e f = some x -> c a d e f = true /\ v a d e f = x := fun _ _ _ _ => Lib.out_
end Go.FG.U140

namespace Go.FG.U48
def b {R : Type} (kr : F_irrrrirri R) (a : Int) (d e f h : Row) (i : Int) (j l : Row) (m : Int) : Option R := bif roomy ((zeros [Ck.s, Ck.i IntKind.i64, Ck.i IntKind.i64, Ck.s] 0).length + d.length) 48 then bif U140.c e f h i then bif roomy ((zeros [Ck.s, Ck.s, Ck.i IntKind.i64, Ck.i IntKind.i64, Ck.i IntKind.i64] 0).length + j.length) 56 then bif roomy ((zeros [Ck.i IntKind.i64, Ck.s, Ck.i IntKind.i64, Ck.i IntKind.i64, Ck.i IntKind.i64, Ck.s, Ck.i IntKind.i64] 0).length + l.length) 72 then kr a (zeros [Ck.s, Ck.i IntKind.i64, Ck.i IntKind.i64, Ck.s] 0 ++ d) (U140.v e f h i).1 (U140.v e f h i).2.1 (U140.v e f h i).2.2.1 (U140.v e f h i).2.2.2 (zeros [Ck.s, Ck.s, Ck.i IntKind.i64, Ck.i IntKind.i64, Ck.i IntKind.i64] 0 ++ j) (zeros [Ck.i IntKind.i64, Ck.s, Ck.i IntKind.i64, Ck.i IntKind.i64, Ck.i IntKind.i64, Ck.s, Ck.i IntKind.i64] 0 ++ l) m else none else none else none else none
def vo := b fun r0 r1 r2 r3 r4 r5 r6 r7 r8 => some (r0, r1, r2, r3, r4, r5, r6, r7, r8)
def c := fun a d e f h i j l m => (vo a d e f h i j l m).isSome
def v := fun a d e f h i j l m => (vo a d e f h i j l m).getD (0, [], [], [], [], 0, [], [], 0)
theorem out {x} : ∀ a d e f h i j l m, vo a d e f h i j l m = some x -> c a d e f h i j l m = true /\ v a d e f h i j l m = x := fun _ _ _ _ _ _ _ _ _ => Lib.out_
end Go.FG.U48

namespace Go.FG.U49
def b {R : Type} (kr : Bool -> Option R) (a d e : Int) : Option R := bif decide (a ≥ d) then kr (decide (a <= e)) else kr false
def v (a0 a1 a2 : Int) : Bool := bif decide (a0 ≥ a1) then decide (a0 <= a2) else false
theorem b_eq {R : Type} (kr : Bool -> Option R) (a0 a1 a2 : Int) : b kr a0 a1 a2 = kr (v a0 a1 a2) := by
 first | rfl | (unfold b v; simp only [Bool.cond_eq_ite]; (repeat' split) <;> rfl)
end Go.FG.U49

namespace Go.FG.U50
def b {R : Type} (kr : Bool -> Option R) (a : ByteArray) : Option R := kr (U49.v (a.size : Int) 1 30)
def v (a0 : ByteArray) : Bool := (U49.v (a0.size : Int) 1 30)
theorem b_eq {R : Type} (kr : Bool -> Option R) (a0 : ByteArray) : b kr a0 = kr (v a0) := by
 first | rfl | (unfold b v; simp only [Bool.cond_eq_ite]; (repeat' split) <;> rfl)
end Go.FG.U50

namespace Go.FG.U141
def b {R : Type} (kr : Bool -> Option R) (a : ByteArray) (d e : Int) (f : ByteArray) : Option R := bif U50.v a then bif U49.v d 0 1000000000 then bif U49.v e 1 999999 then kr (decide ((f.size : Int) <= 400)) else kr false else kr false else kr false
def v (a0 : ByteArray) (a1 a2 : Int) (a3 : ByteArray) : Bool := bif U50.v a0 then bif U49.v a1 0 1000000000 then bif U49.v a2 1 999999 then decide ((a3.size : Int) <= 400) else false else false else false
theorem b_eq {R : Type} (kr : Bool -> Option R) (a0 : ByteArray) (a1 a2 : Int) (a3 : ByteArray) : b kr a0 a1 a2 a3 = kr (v a0 a1 a2 a3) := by
 first | rfl | (unfold b v; simp only [Bool.cond_eq_ite]; (repeat' split) <;> rfl)
theorem rng {k : ByteArray} {s l : Int} {b : ByteArray} (h : v k s l b = true) : (1 <= k.size /\ k.size <= 30) /\ (0 <= s /\ s <= 1000000000) /\ (1 <= l /\ l <= 999999) /\ b.size <= 400 := by
 unfold v at h
 cases h1 : U50.v k <;> rw [h1] at h <;> simp only [cond_true, cond_false, Bool.false_eq_true] at h
 cases h2 : U49.v s 0 1000000000 <;> rw [h2] at h <;> simp only [cond_true, cond_false, Bool.false_eq_true] at h
 cases h3 : U49.v l 1 999999 <;> rw [h3] at h <;> simp only [cond_true, cond_false, Bool.false_eq_true] at h
 simp [U50.v, U49.v] at h1 h2 h3
 have := of_decide_eq_true h
 omega
end Go.FG.U141

namespace Go.FG.U143
def r2 {R : Type} (N : Nat) (g k0 k1 : F_rsbi R) (a : Row) (d : ByteArray) (e : Bool) (f : Int) : Option R := bif decide (f < (a.length : Int)) then bif decide (0 <= f) && decide (f < (a.length : Int)) then bif List.beq (cvS (cellAt a f.toNat 0)).toList (ByteArray.toList d) then k0 a d true f else g a d e (w64 (f + 1)) else none else k1 a d e f
def l2 {R : Type} (N : Nat) (k0 k1 : F_rsbi R) : Nat -> F_rsbi R
 | 0 => fun _ _ _ _ => none
 | n + 1 => r2 N (l2 N k0 k1 n) k0 k1
def b {R : Type} (N : Nat) (kr : Bool -> Option R) (a : Row) (d : ByteArray) : Option R := l2 N (fun _ _ e _ => kr e) (fun _ _ _ _ => kr false) N a d false 0
def vo := b Lib.big fun r0 => some r0
def c := fun a d => (vo a d).isSome
def v := fun a d => (vo a d).getD false
theorem out {x} : ∀ a d, vo a d = some x -> c a d = true /\ v a d = x := fun _ _ => Lib.out_
end Go.FG.U143

namespace Go.FG.U213
def b {R : Type} (kr : Bool -> Option R) (a d e : Row) (f : Int) (h : ByteArray) : Option R := bif U143.c a h then bif U143.v a h then kr true else bif U143.c d h then kr (U143.v d h) else none else none
def vo := b fun r0 => some r0
def c := fun a d e f h => (vo a d e f h).isSome
def v := fun a d e f h => (vo a d e f h).getD false
theorem out {x} : ∀ a d e f h, vo a d e f h = some x -> c a d e f h = true /\ v a d e f h = x := fun _ _ _ _ _ => Lib.out_
end Go.FG.U213

namespace Go.FG.U147
def r9 {R : Type} (N : Nat) (g k0 k1 : F_biiri R) (a : Bool) (d e : Int) (f : Row) (h : Int) : Option R := bif decide (0 <= d) && decide (d < (f.length : Int)) then bif decide (e < ((cvL (cellAt f d.toNat 0)).length : Int)) then bif decide (0 <= d) && decide (d < (f.length : Int)) then bif decide (0 <= e) && decide (e < ((cvL (cellAt f d.toNat 0)).length : Int)) then bif !U49.v (cvI (cellAt (cvL (cellAt f d.toNat 0)) e.toNat 0)) 0 15 then k0 false d e f h else g a d (w64 (e + 1)) f h else none else none else k1 a d e f h else none
def l9 {R : Type} (N : Nat) (k0 k1 : F_biiri R) : Nat -> F_biiri R
 | 0 => fun _ _ _ _ _ => none
 | n + 1 => r9 N (l9 N k0 k1 n) k0 k1
def r4 {R : Type} (N : Nat) (g k0 k1 : F_biri R) (a : Bool) (d : Int) (e : Row) (f : Int) : Option R := bif decide (d < (e.length : Int)) then bif decide (0 <= d) && decide (d < (e.length : Int)) then bif ((cvL (cellAt e d.toNat 0)).length : Int) != 16 then k0 false d e f else l9 N (fun h i _ j l => k0 h i j l) (fun m o _ p q => g m (w64 (o + 1)) p q) N a d 0 e f else none else k1 a d e f
def l4 {R : Type} (N : Nat) (k0 k1 : F_biri R) : Nat -> F_biri R
 | 0 => fun _ _ _ _ => none
 | n + 1 => r4 N (l4 N k0 k1 n) k0 k1
def b {R : Type} (N : Nat) (kr : Bool -> Option R) (a : Row) (d : Int) : Option R := bif (a.length : Int) != 3 then kr false else bif !U49.v d 0 63 then kr false else l4 N (fun e _ _ _ => kr e) (fun _ _ _ _ => kr true) N false 0 a d
def vo := b Lib.big fun r0 => some r0
def c := fun a d => (vo a d).isSome
def v := fun a d => (vo a d).getD false
theorem out {x} : ∀ a d, vo a d = some x -> c a d = true /\ v a d = x := fun _ _ => Lib.out_
end Go.FG.U147

namespace Go.FG.U142
def r3 {R : Type} (N : Nat) (g k0 k1 : F_birrrir R) (a : Bool) (d : Int) (e f h : Row) (i : Int) (j : Row) : Option R := bif decide (d < (j.length : Int)) then bif decide (0 <= d) && decide (d < (j.length : Int)) then bif !U50.v (cvS (cellAt j d.toNat 0)) then k0 false d e f h i j else bif inB 0 d (j.length : Int) then bif decide (0 <= d) && decide (d < (j.length : Int)) then bif U143.c (view j (Int.toNat 0) d.toNat) (cvS (cellAt j d.toNat 0)) then bif U143.v (view j (Int.toNat 0) d.toNat) (cvS (cellAt j d.toNat 0)) then k0 false d e f h i j else g a (w64 (d + 1)) e f h i j else none else none else none else none else k1 a d e f h i j
def l3 {R : Type} (N : Nat) (k0 k1 : F_birrrir R) : Nat -> F_birrrir R
 | 0 => fun _ _ _ _ _ _ _ => none
 | n + 1 => r3 N (l3 N k0 k1 n) k0 k1
def b {R : Type} (N : Nat) (kr : Bool -> Option R) (a d e : Row) (f : Int) : Option R := bif roomy ((zeros [.s] 0).length + a.length) 16 then bif roomy ((zeros [.s] 0 ++ a).length + d.length) 16 then l3 N (fun h _ _ _ _ _ _ => kr h) (fun _ _ i j l m _ => bif decide ((i.length : Int) <= 2) then bif decide ((j.length : Int) <= 4) then bif U147.c l m then kr (U147.v l m) else none else kr false else kr false) N false 0 a d e f (zeros [.s] 0 ++ a ++ d) else none else none
def vo := b Lib.big fun r0 => some r0
def c := fun a d e f => (vo a d e f).isSome
def v := fun a d e f => (vo a d e f).getD false
theorem out {x} : ∀ a d e f, vo a d e f = some x -> c a d e f = true /\ v a d e f = x := fun _ _ _ _ => Lib.out_
end Go.FG.U142

namespace Go.FG.U133
def r2 {R : Type} (N : Nat) (g k0 k1 : F_biirrrrirri R) (a : Bool) (d e : Int) (f h i j : Row) (l : Int) (m o : Row) (p : Int) : Option R := bif decide (d < (f.length : Int)) then bif decide (0 <= d) && decide (d < (f.length : Int)) then bif !U141.v (cvS (cellAt f d.toNat 0)) (cvI (cellAt f d.toNat 1)) (cvI (cellAt f d.toNat (1 + 1))) (cvS (cellAt f d.toNat (1 + 1 + 1))) then k0 false d e f h i j l m o p else bif decide (d > 0) then bif decide (0 <= w64 (d - 1)) && decide (w64 (d - 1) < (f.length : Int)) then bif decide (0 <= d) && decide (d < (f.length : Int)) then bif !Op.bytesLess (cvS (cellAt f (w64 (d - 1)).toNat 0)).toList (cvS (cellAt f d.toNat 0)).toList then k0 false d e f h i j l m o p else bif decide (0 <= d) && decide (d < (f.length : Int)) then bif U213.c h i j l (cvS (cellAt f d.toNat 0)) then bif !U213.v h i j l (cvS (cellAt f d.toNat 0)) then k0 false d e f h i j l m o p else g a (w64 (d + 1)) e f h i j l m o p else none else none else none else none else bif decide (0 <= d) && decide (d < (f.length : Int)) then bif U213.c h i j l (cvS (cellAt f d.toNat 0)) then bif !U213.v h i j l (cvS (cellAt f d.toNat 0)) then k0 false d e f h i j l m o p else g a (w64 (d + 1)) e f h i j l m o p else none else none else none else k1 a d e f h i j l m o p
def l2 {R : Type} (N : Nat) (k0 k1 : F_biirrrrirri R) : Nat -> F_biirrrrirri R
 | 0 => fun _ _ _ _ _ _ _ _ _ _ _ => none
 | n + 1 => r2 N (l2 N k0 k1 n) k0 k1
def b {R : Type} (N : Nat) (kr : Bool -> Option R) (a : Int) (d e f h : Row) (i : Int) (j l : Row) (m : Int) : Option R := l2 N (fun o _ _ _ _ _ _ _ _ _ _ => kr o) (fun _ _ _ p q r s t _ _ _ => bif U142.c q r s t then bif U142.v q r s t then kr (decide ((p.length : Int) = w64 ((q.length : Int) + (r.length : Int)))) else kr false else none) N false 0 a d e f h i j l m
def vo := b Lib.big fun r0 => some r0
def c := fun a d e f h i j l m => (vo a d e f h i j l m).isSome
def v := fun a d e f h i j l m => (vo a d e f h i j l m).getD false
theorem out {x} : ∀ a d e f h i j l m, vo a d e f h i j l m = some x -> c a d e f h i j l m = true /\ v a d e f h i j l m = x := fun _ _ _ _ _ _ _ _ _ => Lib.out_
end Go.FG.U133

namespace Go.FG.U134
def r5 {R : Type} (N : Nat) (g k0 k1 : F_ibiirrrrirrissiii R) (a : Int) (d : Bool) (e f : Int) (h i j l : Row) (m : Int) (o p : Row) (q : Int) (r s : ByteArray) (t u w : Int) : Option R := bif decide (e < a) then bif decide (0 <= e) && decide (e < (o.length : Int)) then bif List.beq (cvS (cellAt o e.toNat 0)).toList (ByteArray.toList r) then bif decide (0 <= e) && decide (e < (o.length : Int)) then bif decide (cvI (cellAt o e.toNat 2) = 1) then bif decide (t = 1) then k0 a false e f h i j l m o p q r s t u w else g a d (w64 (e + 1)) f h i j l m o p q r s t u w else g a d (w64 (e + 1)) f h i j l m o p q r s t u w else none else g a d (w64 (e + 1)) f h i j l m o p q r s t u w else none else k1 a d e f h i j l m o p q r s t u w
def l5 {R : Type} (N : Nat) (k0 k1 : F_ibiirrrrirrissiii R) : Nat -> F_ibiirrrrirrissiii R
 | 0 => fun _ _ _ _ _ _ _ _ _ _ _ _ _ _ _ _ _ => none
 | n + 1 => r5 N (l5 N k0 k1 n) k0 k1
def b {R : Type} (N : Nat) (kr : Bool -> Option R) (a : Int) (d e f h : Row) (i : Int) (j l : Row) (m o : Int) : Option R := bif decide (0 <= o) && decide (o < (j.length : Int)) then bif !U50.v (cvS (cellAt j o.toNat 0)) then kr false else bif decide (((cvS (cellAt j o.toNat 1)).size : Int) > 400) then kr false else bif !U49.v (cvI (cellAt j o.toNat (1 + 1))) 1 3 then kr false else bif !U49.v (cvI (cellAt j o.toNat (1 + 1 + 1))) 0 999999 then kr false else bif !U49.v (cvI (cellAt j o.toNat (1 + 1 + 1 + 1))) 0 a then kr false else l5 N (fun _ p _ _ _ _ _ _ _ _ _ _ _ _ _ _ _ => kr p) (fun _ _ _ _ _ _ _ _ _ _ _ _ _ _ _ _ _ => kr true) N o false 0 a d e f h i j l m (cvS (cellAt j o.toNat 0)) (cvS (cellAt j o.toNat 1)) (cvI (cellAt j o.toNat (1 + 1))) (cvI (cellAt j o.toNat (1 + 1 + 1))) (cvI (cellAt j o.toNat (1 + 1 + 1 + 1))) else none
def vo := b Lib.big fun r0 => some r0
def c := fun a d e f h i j l m o => (vo a d e f h i j l m o).isSome
def v := fun a d e f h i j l m o => (vo a d e f h i j l m o).getD false
theorem out {x} : ∀ a d e f h i j l m o, vo a d e f h i j l m o = some x -> c a d e f h i j l m o = true /\ v a d e f h i j l m o = x := fun _ _ _ _ _ _ _ _ _ _ => Lib.out_
end Go.FG.U134

namespace Go.FG.U43
def r9 {R : Type} (N : Nat) (g k0 k1 : F_biirrrrirri R) (a : Bool) (d e : Int) (f h i j : Row) (l : Int) (m o : Row) (p : Int) : Option R := bif decide (d < (o.length : Int)) then bif decide (0 <= d) && decide (d < (o.length : Int)) then bif !U49.v (cvI (cellAt o d.toNat 0)) 1 9 then k0 false d e f h i j l m o p else bif decide (d > 0) then bif decide (0 <= w64 (d - 1)) && decide (w64 (d - 1) < (o.length : Int)) then bif decide (cvI (cellAt o (w64 (d - 1)).toNat 0) ≥ cvI (cellAt o d.toNat 0)) then k0 false d e f h i j l m o p else bif !U50.v (cvS (cellAt o d.toNat 1)) then k0 false d e f h i j l m o p else bif !U49.v (cvI (cellAt o d.toNat (1 + 1 + 1 + 1))) 1 3 then k0 false d e f h i j l m o p else bif !U49.v (cvI (cellAt o d.toNat (1 + 1))) 0 (m.length : Int) then k0 false d e f h i j l m o p else bif decide (((cvS (cellAt o d.toNat (1 + 1 + 1 + 1 + 1))).size : Int) > 400) then k0 false d e f h i j l m o p else bif !U49.v (cvI (cellAt o d.toNat (1 + 1 + 1))) 0 e then k0 false d e f h i j l m o p else bif decide (cvI (cellAt o d.toNat (1 + 1 + 1 + 1 + 1 + 1)) < 0) then k0 false d e f h i j l m o p else g a (w64 (d + 1)) e f h i j l m o p else none else bif !U50.v (cvS (cellAt o d.toNat 1)) then k0 false d e f h i j l m o p else bif !U49.v (cvI (cellAt o d.toNat (1 + 1 + 1 + 1))) 1 3 then k0 false d e f h i j l m o p else bif !U49.v (cvI (cellAt o d.toNat (1 + 1))) 0 (m.length : Int) then k0 false d e f h i j l m o p else bif decide (((cvS (cellAt o d.toNat (1 + 1 + 1 + 1 + 1))).size : Int) > 400) then k0 false d e f h i j l m o p else bif !U49.v (cvI (cellAt o d.toNat (1 + 1 + 1))) 0 e then k0 false d e f h i j l m o p else bif decide (cvI (cellAt o d.toNat (1 + 1 + 1 + 1 + 1 + 1)) < 0) then k0 false d e f h i j l m o p else g a (w64 (d + 1)) e f h i j l m o p else none else k1 a d e f h i j l m o p
def l9 {R : Type} (N : Nat) (k0 k1 : F_biirrrrirri R) : Nat -> F_biirrrrirri R
 | 0 => fun _ _ _ _ _ _ _ _ _ _ _ => none
 | n + 1 => r9 N (l9 N k0 k1 n) k0 k1
def r4 {R : Type} (N : Nat) (g k0 k1 : F_biirrrrirri R) (a : Bool) (d e : Int) (f h i j : Row) (l : Int) (m o : Row) (p : Int) : Option R := bif decide (d < (m.length : Int)) then bif U134.c e f h i j l m o p d then bif !U134.v e f h i j l m o p d then k0 false d e f h i j l m o p else g a (w64 (d + 1)) e f h i j l m o p else none else k1 a d e f h i j l m o p
def l4 {R : Type} (N : Nat) (k0 k1 : F_biirrrrirri R) : Nat -> F_biirrrrirri R
 | 0 => fun _ _ _ _ _ _ _ _ _ _ _ => none
 | n + 1 => r4 N (l4 N k0 k1 n) k0 k1
def b {R : Type} (N : Nat) (kr : Bool -> Option R) (a : Int) (d e f h : Row) (i : Int) (j l : Row) (m : Int) : Option R := bif !U49.v a 1 1000000000 then kr false else bif U133.c a d e f h i j l m then bif !U133.v a d e f h i j l m then kr false else bif decide ((j.length : Int) > 20) then kr false else bif decide ((l.length : Int) > 6) then kr false else bif !U49.v m 0 1000000000 then kr false else l4 N (fun o _ _ _ _ _ _ _ _ _ _ => kr o) (fun p _ q r s t u w y z α => l9 N (fun xa _ _ _ _ _ _ _ _ _ _ => kr xa) (fun _ _ _ _ _ _ _ _ _ _ _ => kr true) N p 0 q r s t u w y z α) N false 0 a d e f h i j l m else none
def vo := b Lib.big fun r0 => some r0
def c := fun a d e f h i j l m => (vo a d e f h i j l m).isSome
def v := fun a d e f h i j l m => (vo a d e f h i j l m).getD false
theorem out {x} : ∀ a d e f h i j l m, vo a d e f h i j l m = some x -> c a d e f h i j l m = true /\ v a d e f h i j l m = x := fun _ _ _ _ _ _ _ _ _ => Lib.out_
end Go.FG.U43

namespace Go.FG.U51
def r2 {R : Type} (N : Nat) (g k0 k1 : F_sbiirrrrirrisiis R) (a : ByteArray) (d : Bool) (e f : Int) (h i j l : Row) (m : Int) (o p : Row) (q : Int) (r : ByteArray) (s t : Int) (u : ByteArray) : Option R := bif decide (e < (h.length : Int)) then bif decide (0 <= e) && decide (e < (h.length : Int)) then bif List.beq (cvS (cellAt h e.toNat 0)).toList (ByteArray.toList a) then bif decide (0 <= e) && decide (e < (h.length : Int)) then k0 a true e f h i j l m o p q (cvS (cellAt h e.toNat 0)) (cvI (cellAt h e.toNat 1)) (cvI (cellAt h e.toNat (1 + 1))) (cvS (cellAt h e.toNat (1 + 1 + 1))) else none else g a d (w64 (e + 1)) f h i j l m o p q r s t u else none else k1 a d e f h i j l m o p q r s t u
def l2 {R : Type} (N : Nat) (k0 k1 : F_sbiirrrrirrisiis R) : Nat -> F_sbiirrrrirrisiis R
 | 0 => fun _ _ _ _ _ _ _ _ _ _ _ _ _ _ _ _ => none
 | n + 1 => r2 N (l2 N k0 k1 n) k0 k1
def b {R : Type} (N : Nat) (kr : F_siisb R) (a : Int) (d e f h : Row) (i : Int) (j l : Row) (m : Int) (o : ByteArray) : Option R := l2 N (fun _ p _ _ _ _ _ _ _ _ _ _ q r s t => kr q r s t p) (fun _ _ _ _ _ _ _ _ _ _ _ _ _ _ _ _ => kr ⟨#[]⟩ 0 0 ⟨#[]⟩ false) N o false 0 a d e f h i j l m ⟨#[]⟩ 0 0 ⟨#[]⟩
def vo := b Lib.big fun r0 r1 r2 r3 r4 => some (r0, r1, r2, r3, r4)
def c := fun a d e f h i j l m o => (vo a d e f h i j l m o).isSome
def v := fun a d e f h i j l m o => (vo a d e f h i j l m o).getD (⟨#[]⟩, 0, 0, ⟨#[]⟩, false)
theorem out {x} : ∀ a d e f h i j l m o, vo a d e f h i j l m o = some x -> c a d e f h i j l m o = true /\ v a d e f h i j l m o = x := fun _ _ _ _ _ _ _ _ _ _ => Lib.out_
end Go.FG.U51

namespace Go.FG.U52
def b {R : Type} (kr : Bool -> Option R) (a : ByteArray) (d e : Int) (f : ByteArray) (h : Int) : Option R := bif U141.v a d e f then bif U49.v h d 1000000000 then kr (decide (w64 (h - d) < e)) else kr false else kr false
def v (a0 : ByteArray) (a1 a2 : Int) (a3 : ByteArray) (a4 : Int) : Bool := bif U141.v a0 a1 a2 a3 then bif U49.v a4 a1 1000000000 then decide (w64 (a4 - a1) < a2) else false else false
theorem b_eq {R : Type} (kr : Bool -> Option R) (a0 : ByteArray) (a1 a2 : Int) (a3 : ByteArray) (a4 : Int) : b kr a0 a1 a2 a3 a4 = kr (v a0 a1 a2 a3 a4) := by
 first | rfl | (unfold b v; simp only [Bool.cond_eq_ite]; (repeat' split) <;> rfl)
end Go.FG.U52

namespace Go.FG.U250
def r6 {R : Type} (N : Nat) (g k0 : F_isii R) (a : Int) (d : ByteArray) (e f : Int) : Option R := bif decide (f < 8) then bif decide (Int.tmod a 2 = 1) then g (IntKind.wrap IntKind.u32 (↑(BitVec.toNat (BitVec.xor (BitVec.ofInt 32 (IntKind.wrap IntKind.u32 (Int.tdiv a 2))) (BitVec.ofInt 32 3558460437))) : Int)) d e (w64 (f + 1)) else g (IntKind.wrap IntKind.u32 (Int.tdiv a 2)) d e (w64 (f + 1)) else k0 a d e f
def l6 {R : Type} (N : Nat) (k0 : F_isii R) : Nat -> F_isii R
 | 0 => fun _ _ _ _ => none
 | n + 1 => r6 N (l6 N k0 n) k0
def r2 {R : Type} (N : Nat) (g k0 : F_isi R) (a : Int) (d : ByteArray) (e : Int) : Option R := bif decide (e < (d.size : Int)) then bif decide (0 <= e) && decide (e < (d.size : Int)) then l6 N (fun f h i _ => g f h (w64 (i + 1))) N (IntKind.wrap IntKind.u32 (↑(BitVec.toNat (BitVec.xor (BitVec.ofInt 32 a) (BitVec.ofInt 32 (IntKind.wrap IntKind.u32 (↑(btN d e.toNat) : Int))))) : Int)) d e 0 else none else k0 a d e
def l2 {R : Type} (N : Nat) (k0 : F_isi R) : Nat -> F_isi R
 | 0 => fun _ _ _ => none
 | n + 1 => r2 N (l2 N k0 n) k0
def b {R : Type} (N : Nat) (kr : Int -> Option R) (a : Int) (d : ByteArray) : Option R := l2 N (fun e _ _ => kr e) N a d 0
def vo := b Lib.big fun r0 => some r0
def c := fun a d => (vo a d).isSome
def v := fun a d => (vo a d).getD (0)
theorem out {x} : ∀ a d, vo a d = some x -> c a d = true /\ v a d = x := fun _ _ => Lib.out_
end Go.FG.U250

namespace Go.FG.U215
def b {R : Type} (kr : Int -> Option R) (a : ByteArray) : Option R := bif U250.c 4294967295 a then kr (U250.v 4294967295 a) else none
def vo := b fun r0 => some r0
def c := fun a => (vo a).isSome
def v := fun a => (vo a).getD (0)
theorem out {x} : ∀ a, vo a = some x -> c a = true /\ v a = x := fun _ => Lib.out_
end Go.FG.U215

namespace Go.FG.U148
def b {R : Type} (kr : Int -> Option R) (a : Int) (d : ByteArray) : Option R := bif decide (d.size + (bytesOf (List.set (zeros [Ck.i IntKind.u8] 1) 0 [CV.i IntKind.u8 (IntKind.wrap IntKind.u8 a)])).size <= 4611686018427387904) then bif U215.c (d ++ bytesOf (List.set (zeros [Ck.i IntKind.u8] 1) 0 [CV.i IntKind.u8 (IntKind.wrap IntKind.u8 a)])) then kr (w64 (Int.tmod (U215.v (d ++ bytesOf (List.set (zeros [Ck.i IntKind.u8] 1) 0 [CV.i IntKind.u8 (IntKind.wrap IntKind.u8 a)]))) 16)) else none else none
def vo := b fun r0 => some r0
def c := fun a d => (vo a d).isSome
def v := fun a d => (vo a d).getD (0)
theorem out {x} : ∀ a d, vo a d = some x -> c a d = true /\ v a d = x := fun _ _ => Lib.out_
end Go.FG.U148

namespace Go.FG.U57
def r17 {R : Type} (N : Nat) (g k0 : F_iiiir R) (a d e f : Int) (h : Row) : Option R := bif decide (0 <= a) && decide (a < (h.length : Int)) then bif decide (d < ((cvL (cellAt h a.toNat 0)).length : Int)) then bif decide (0 <= a) && decide (a < (h.length : Int)) then bif decide (0 <= a) && decide (a < (h.length : Int)) then bif decide (0 <= d) && decide (d < ((cvL (cellAt h a.toNat 0)).length : Int)) then bif decide (0 <= d) && decide (d < ((cvL (cellAt h a.toNat 0)).length : Int)) then g a (w64 (d + 1)) e f (setC h a.toNat 0 [CV.l 3 (setC (cvL (cellAt h a.toNat 0)) d.toNat 0 [.i .i64 (w64 (Int.tdiv (cvI (cellAt (cvL (cellAt h a.toNat 0)) d.toNat 0)) 2))])]) else none else none else none else none else k0 a d e f h else none
def l17 {R : Type} (N : Nat) (k0 : F_iiiir R) : Nat -> F_iiiir R
 | 0 => fun _ _ _ _ _ => none
 | n + 1 => r17 N (l17 N k0 n) k0
def r14 {R : Type} (N : Nat) (g k0 : F_iiir R) (a d e : Int) (f : Row) : Option R := bif decide (a < (f.length : Int)) then l17 N (fun h _ i j l => g (w64 (h + 1)) i j l) N a 0 d e f else k0 a d e f
def l14 {R : Type} (N : Nat) (k0 : F_iiir R) : Nat -> F_iiir R
 | 0 => fun _ _ _ _ => none
 | n + 1 => r14 N (l14 N k0 n) k0
def r5 {R : Type} (N : Nat) (g k0 : F_siiir R) (a : ByteArray) (d e f : Int) (h : Row) : Option R := bif decide (d < (h.length : Int)) then bif U148.c d a then bif decide (0 <= d) && decide (d < (h.length : Int)) then bif decide (0 <= U148.v d a) && decide (U148.v d a < ((cvL (cellAt h d.toNat 0)).length : Int)) then bif decide (cvI (cellAt (cvL (cellAt h d.toNat 0)) (U148.v d a).toNat 0) < 15) then bif decide (0 <= d) && decide (d < (h.length : Int)) then bif decide (0 <= U148.v d a) && decide (U148.v d a < ((cvL (cellAt h d.toNat 0)).length : Int)) then bif decide (0 <= U148.v d a) && decide (U148.v d a < ((cvL (cellAt h d.toNat 0)).length : Int)) then g a (w64 (d + 1)) e f (setC h d.toNat 0 [CV.l 3 (setC (cvL (cellAt h d.toNat 0)) (U148.v d a).toNat 0 [.i .i64 (w64 (cvI (cellAt (cvL (cellAt h d.toNat 0)) (U148.v d a).toNat 0) + 1))])]) else none else none else none else g a (w64 (d + 1)) e f h else none else none else none else k0 a d e f h
def l5 {R : Type} (N : Nat) (k0 : F_siiir R) : Nat -> F_siiir R
 | 0 => fun _ _ _ _ _ => none
 | n + 1 => r5 N (l5 N k0 n) k0
def b {R : Type} (N : Nat) (kr : F_ri R) (a : Row) (d : Int) (e : ByteArray) : Option R := bif U146.c a d then bif U147.c a d then bif !U147.v a d then kr (U146.v a d).1 (U146.v a d).2 else l5 N (fun _ _ f h i => bif decide (w64 (h + 1) = 64) then l14 N (fun _ _ j l => kr l j) N 0 f 0 i else kr i (w64 (h + 1))) N e 0 0 (U146.v a d).2 (U146.v a d).1 else none else none
def vo := b Lib.big fun r0 r1 => some (r0, r1)
def c := fun a d e => (vo a d e).isSome
def v := fun a d e => (vo a d e).getD ([], 0)
theorem out {x} : ∀ a d e, vo a d e = some x -> c a d e = true /\ v a d e = x := fun _ _ _ => Lib.out_
end Go.FG.U57

namespace Go.FG.U144
def r3 {R : Type} (N : Nat) (g k0 : F_rsir R) (a : Row) (d : ByteArray) (e : Int) (f : Row) : Option R := bif decide (e < (a.length : Int)) then bif decide (0 <= e) && decide (e < (a.length : Int)) then bif !List.beq (cvS (cellAt a e.toNat 0)).toList (ByteArray.toList d) then bif decide (0 <= e) && decide (e < (a.length : Int)) then bif roomy (f.length + (List.set (zeros [.s] 1) 0 [.s (cvS (cellAt a e.toNat 0))]).length) 16 then g a d (w64 (e + 1)) (f ++ List.set (zeros [.s] 1) 0 [.s (cvS (cellAt a e.toNat 0))]) else none else none else g a d (w64 (e + 1)) f else none else k0 a d e f
def l3 {R : Type} (N : Nat) (k0 : F_rsir R) : Nat -> F_rsir R
 | 0 => fun _ _ _ _ => none
 | n + 1 => r3 N (l3 N k0 n) k0
def b {R : Type} (N : Nat) (kr : Row -> Option R) (a : Row) (d : ByteArray) : Option R := l3 N (fun _ _ _ e => kr e) N a d 0 (zeros [.s] 0)
def vo := b Lib.big fun r0 => some r0
def c := fun a d => (vo a d).isSome
def v := fun a d => (vo a d).getD ([])
theorem out {x} : ∀ a d, vo a d = some x -> c a d = true /\ v a d = x := fun _ _ => Lib.out_
end Go.FG.U144

namespace Go.FG.U145
def r5 {R : Type} (N : Nat) (g k0 : F_siiri R) (a : ByteArray) (d e : Int) (f : Row) (h : Int) : Option R := bif decide (e < (f.length : Int)) then bif decide (0 <= e) && decide (e < (f.length : Int)) then bif U148.c e a then bif decide (0 <= U148.v e a) && decide (U148.v e a < ((cvL (cellAt f e.toNat 0)).length : Int)) then bif decide (cvI (cellAt (cvL (cellAt f e.toNat 0)) (U148.v e a).toNat 0) < d) then g a (cvI (cellAt (cvL (cellAt f e.toNat 0)) (U148.v e a).toNat 0)) (w64 (e + 1)) f h else g a d (w64 (e + 1)) f h else none else none else none else k0 a d e f h
def l5 {R : Type} (N : Nat) (k0 : F_siiri R) : Nat -> F_siiri R
 | 0 => fun _ _ _ _ _ => none
 | n + 1 => r5 N (l5 N k0 n) k0
def b {R : Type} (N : Nat) (kr : Int -> Option R) (a : Row) (d : Int) (e : ByteArray) : Option R := bif U147.c a d then bif !U147.v a d then kr 0 else l5 N (fun _ f _ _ _ => kr f) N e 15 0 a d else none
def vo := b Lib.big fun r0 => some r0
def c := fun a d e => (vo a d e).isSome
def v := fun a d e => (vo a d e).getD (0)
theorem out {x} : ∀ a d e, vo a d e = some x -> c a d e = true /\ v a d e = x := fun _ _ _ => Lib.out_
end Go.FG.U145

namespace Go.FG.U53
def b {R : Type} (kr : F_rrris R) (a d e : Row) (f : Int) (h : ByteArray) : Option R := bif U140.c a d e f then bif U142.c a d e f then bif !U142.v a d e f then kr (U140.v a d e f).1 (U140.v a d e f).2.1 (U140.v a d e f).2.2.1 (U140.v a d e f).2.2.2 ⟨#[]⟩ else bif !U50.v h then kr (U140.v a d e f).1 (U140.v a d e f).2.1 (U140.v a d e f).2.2.1 (U140.v a d e f).2.2.2 ⟨#[]⟩ else bif U57.c e f h then bif U143.c a h then bif U143.v a h then bif U144.c a h then bif roomy ((U144.v a h).length + (List.set (zeros [.s] 1) 0 [.s h]).length) 16 then kr (U144.v a h ++ List.set (zeros [.s] 1) 0 [.s h]) (U140.v a d e f).2.1 (U57.v e f h).1 (U57.v e f h).2 ⟨#[]⟩ else none else none else bif U143.c d h then bif U143.v d h then bif U144.c d h then bif roomy ((U144.v d h).length + (List.set (zeros [.s] 1) 0 [.s h]).length) 16 then kr (U140.v a d e f).1 (U144.v d h ++ List.set (zeros [.s] 1) 0 [.s h]) (U57.v e f h).1 (U57.v e f h).2 ⟨#[]⟩ else none else none else bif roomy ((U140.v a d e f).1.length + (List.set (zeros [.s] 1) 0 [.s h]).length) 16 then bif decide ((((U140.v a d e f).1 ++ List.set (zeros [.s] 1) 0 [.s h]).length : Int) <= 2) then kr ((U140.v a d e f).1 ++ List.set (zeros [.s] 1) 0 [.s h]) (U140.v a d e f).2.1 (U57.v e f h).1 (U57.v e f h).2 ⟨#[]⟩ else bif decide (0 < (((U140.v a d e f).1 ++ List.set (zeros [.s] 1) 0 [.s h]).length : Int)) then bif inB 1 (((U140.v a d e f).1 ++ List.set (zeros [.s] 1) 0 [.s h]).length : Int) (((U140.v a d e f).1 ++ List.set (zeros [.s] 1) 0 [.s h]).length : Int) then bif roomy ((zeros [.s] 0).length + (view ((U140.v a d e f).1 ++ List.set (zeros [.s] 1) 0 [.s h]) (Int.toNat 1) (((U140.v a d e f).1 ++ List.set (zeros [.s] 1) 0 [.s h]).length : Int).toNat).length) 16 then bif decide (((U140.v a d e f).2.1.length : Int) < 4) then bif roomy ((U140.v a d e f).2.1.length + (List.set (zeros [.s] 1) 0 [.s (cvS (cellAt ((U140.v a d e f).1 ++ List.set (zeros [.s] 1) 0 [.s h]) (Int.toNat 0) 0))]).length) 16 then kr (zeros [.s] 0 ++ view ((U140.v a d e f).1 ++ List.set (zeros [.s] 1) 0 [.s h]) (Int.toNat 1) (((U140.v a d e f).1 ++ List.set (zeros [.s] 1) 0 [.s h]).length : Int).toNat) ((U140.v a d e f).2.1 ++ List.set (zeros [.s] 1) 0 [.s (cvS (cellAt ((U140.v a d e f).1 ++ List.set (zeros [.s] 1) 0 [.s h]) (Int.toNat 0) 0))]) (U57.v e f h).1 (U57.v e f h).2 ⟨#[]⟩ else none else bif U145.c (U57.v e f h).1 (U57.v e f h).2 (cvS (cellAt ((U140.v a d e f).1 ++ List.set (zeros [.s] 1) 0 [.s h]) (Int.toNat 0) 0)) then bif decide (0 < ((U140.v a d e f).2.1.length : Int)) then bif U145.c (U57.v e f h).1 (U57.v e f h).2 (cvS (cellAt (U140.v a d e f).2.1 (Int.toNat 0) 0)) then bif decide (U145.v (U57.v e f h).1 (U57.v e f h).2 (cvS (cellAt ((U140.v a d e f).1 ++ List.set (zeros [.s] 1) 0 [.s h]) (Int.toNat 0) 0)) > U145.v (U57.v e f h).1 (U57.v e f h).2 (cvS (cellAt (U140.v a d e f).2.1 (Int.toNat 0) 0))) then bif decide (0 < ((U140.v a d e f).2.1.length : Int)) then bif inB 1 ((U140.v a d e f).2.1.length : Int) ((U140.v a d e f).2.1.length : Int) then bif roomy ((zeros [.s] 0).length + (view (U140.v a d e f).2.1 (Int.toNat 1) ((U140.v a d e f).2.1.length : Int).toNat).length) 16 then bif roomy ((zeros [.s] 0 ++ view (U140.v a d e f).2.1 (Int.toNat 1) ((U140.v a d e f).2.1.length : Int).toNat).length + (List.set (zeros [.s] 1) 0 [.s (cvS (cellAt ((U140.v a d e f).1 ++ List.set (zeros [.s] 1) 0 [.s h]) (Int.toNat 0) 0))]).length) 16 then kr (zeros [.s] 0 ++ view ((U140.v a d e f).1 ++ List.set (zeros [.s] 1) 0 [.s h]) (Int.toNat 1) (((U140.v a d e f).1 ++ List.set (zeros [.s] 1) 0 [.s h]).length : Int).toNat) (zeros [.s] 0 ++ view (U140.v a d e f).2.1 (Int.toNat 1) ((U140.v a d e f).2.1.length : Int).toNat ++ List.set (zeros [.s] 1) 0 [.s (cvS (cellAt ((U140.v a d e f).1 ++ List.set (zeros [.s] 1) 0 [.s h]) (Int.toNat 0) 0))]) (U57.v e f h).1 (U57.v e f h).2 (cvS (cellAt (U140.v a d e f).2.1 (Int.toNat 0) 0)) else none else none else none else none else kr (zeros [.s] 0 ++ view ((U140.v a d e f).1 ++ List.set (zeros [.s] 1) 0 [.s h]) (Int.toNat 1) (((U140.v a d e f).1 ++ List.set (zeros [.s] 1) 0 [.s h]).length : Int).toNat) (U140.v a d e f).2.1 (U57.v e f h).1 (U57.v e f h).2 (cvS (cellAt ((U140.v a d e f).1 ++ List.set (zeros [.s] 1) 0 [.s h]) (Int.toNat 0) 0)) else none else none else none else none else none else none else none else none else none else none else none else none
def vo := b fun r0 r1 r2 r3 r4 => some (r0, r1, r2, r3, r4)
def c := fun a d e f h => (vo a d e f h).isSome
def v := fun a d e f h => (vo a d e f h).getD ([], [], [], 0, ⟨#[]⟩)
theorem out {x} : ∀ a d e f h, vo a d e f h = some x -> c a d e f h = true /\ v a d e f h = x := fun _ _ _ _ _ => Lib.out_
end Go.FG.U53

namespace Go.FG.U54
def r9 {R : Type} (N : Nat) (g k0 : F_riisiiisir R) (a : Row) (d e : Int) (f : ByteArray) (h i j : Int) (l : ByteArray) (m : Int) (o : Row) : Option R := bif decide (d < (a.length : Int)) then bif decide (0 <= d) && decide (d < (a.length : Int)) then bif decide (cvI (cellAt a d.toNat 0) > e) then bif decide (0 <= d) && decide (d < (a.length : Int)) then bif roomy (o.length + (List.set (zeros [Ck.i IntKind.i64, Ck.s, Ck.i IntKind.i64, Ck.i IntKind.i64, Ck.i IntKind.i64, Ck.s, Ck.i IntKind.i64] 1) 0 [.i .i64 (cvI (cellAt a d.toNat 0)), .s (cvS (cellAt a d.toNat 1)), .i .i64 (cvI (cellAt a d.toNat (1 + 1))), .i .i64 (cvI (cellAt a d.toNat (1 + 1 + 1))), .i .i64 (cvI (cellAt a d.toNat (1 + 1 + 1 + 1))), .s (cvS (cellAt a d.toNat (1 + 1 + 1 + 1 + 1))), .i .i64 (cvI (cellAt a d.toNat (1 + 1 + 1 + 1 + 1 + 1)))]).length) 72 then g a (w64 (d + 1)) e f h i j l m (o ++ List.set (zeros [Ck.i IntKind.i64, Ck.s, Ck.i IntKind.i64, Ck.i IntKind.i64, Ck.i IntKind.i64, Ck.s, Ck.i IntKind.i64] 1) 0 [.i .i64 (cvI (cellAt a d.toNat 0)), .s (cvS (cellAt a d.toNat 1)), .i .i64 (cvI (cellAt a d.toNat (1 + 1))), .i .i64 (cvI (cellAt a d.toNat (1 + 1 + 1))), .i .i64 (cvI (cellAt a d.toNat (1 + 1 + 1 + 1))), .s (cvS (cellAt a d.toNat (1 + 1 + 1 + 1 + 1))), .i .i64 (cvI (cellAt a d.toNat (1 + 1 + 1 + 1 + 1 + 1)))]) else none else none else g a (w64 (d + 1)) e f h i j l m o else none else k0 a d e f h i j l m o
def l9 {R : Type} (N : Nat) (k0 : F_riisiiisir R) : Nat -> F_riisiiisir R
 | 0 => fun _ _ _ _ _ _ _ _ _ _ => none
 | n + 1 => r9 N (l9 N k0 n) k0
def r3 {R : Type} (N : Nat) (g k0 : F_riisiiisir R) (a : Row) (d e : Int) (f : ByteArray) (h i j : Int) (l : ByteArray) (m : Int) (o : Row) : Option R := bif decide (d < (a.length : Int)) then bif decide (0 <= d) && decide (d < (a.length : Int)) then bif decide (cvI (cellAt a d.toNat 0) < e) then bif decide (0 <= d) && decide (d < (a.length : Int)) then bif roomy (o.length + (List.set (zeros [Ck.i IntKind.i64, Ck.s, Ck.i IntKind.i64, Ck.i IntKind.i64, Ck.i IntKind.i64, Ck.s, Ck.i IntKind.i64] 1) 0 [.i .i64 (cvI (cellAt a d.toNat 0)), .s (cvS (cellAt a d.toNat 1)), .i .i64 (cvI (cellAt a d.toNat (1 + 1))), .i .i64 (cvI (cellAt a d.toNat (1 + 1 + 1))), .i .i64 (cvI (cellAt a d.toNat (1 + 1 + 1 + 1))), .s (cvS (cellAt a d.toNat (1 + 1 + 1 + 1 + 1))), .i .i64 (cvI (cellAt a d.toNat (1 + 1 + 1 + 1 + 1 + 1)))]).length) 72 then g a (w64 (d + 1)) e f h i j l m (o ++ List.set (zeros [Ck.i IntKind.i64, Ck.s, Ck.i IntKind.i64, Ck.i IntKind.i64, Ck.i IntKind.i64, Ck.s, Ck.i IntKind.i64] 1) 0 [.i .i64 (cvI (cellAt a d.toNat 0)), .s (cvS (cellAt a d.toNat 1)), .i .i64 (cvI (cellAt a d.toNat (1 + 1))), .i .i64 (cvI (cellAt a d.toNat (1 + 1 + 1))), .i .i64 (cvI (cellAt a d.toNat (1 + 1 + 1 + 1))), .s (cvS (cellAt a d.toNat (1 + 1 + 1 + 1 + 1))), .i .i64 (cvI (cellAt a d.toNat (1 + 1 + 1 + 1 + 1 + 1)))]) else none else none else g a (w64 (d + 1)) e f h i j l m o else none else k0 a d e f h i j l m o
def l3 {R : Type} (N : Nat) (k0 : F_riisiiisir R) : Nat -> F_riisiiisir R
 | 0 => fun _ _ _ _ _ _ _ _ _ _ => none
 | n + 1 => r3 N (l3 N k0 n) k0
def b {R : Type} (N : Nat) (kr : Row -> Option R) (a : Row) (d : Int) (e : ByteArray) (f h i : Int) (j : ByteArray) (l : Int) : Option R := l3 N (fun m _ o p q r s t u w => bif roomy (w.length + (List.set (zeros [Ck.i IntKind.i64, Ck.s, Ck.i IntKind.i64, Ck.i IntKind.i64, Ck.i IntKind.i64, Ck.s, Ck.i IntKind.i64] 1) 0 [.i .i64 o, .s p, .i .i64 q, .i .i64 r, .i .i64 s, .s t, .i .i64 u]).length) 72 then l9 N (fun _ _ _ _ _ _ _ _ _ y => kr y) N m 0 o p q r s t u (w ++ List.set (zeros [Ck.i IntKind.i64, Ck.s, Ck.i IntKind.i64, Ck.i IntKind.i64, Ck.i IntKind.i64, Ck.s, Ck.i IntKind.i64] 1) 0 [.i .i64 o, .s p, .i .i64 q, .i .i64 r, .i .i64 s, .s t, .i .i64 u]) else none) N a 0 d e f h i j l (zeros [Ck.i IntKind.i64, Ck.s, Ck.i IntKind.i64, Ck.i IntKind.i64, Ck.i IntKind.i64, Ck.s, Ck.i IntKind.i64] 0)
def vo := b Lib.big fun r0 => some r0
def c := fun a d e f h i j l => (vo a d e f h i j l).isSome
def v := fun a d e f h i j l => (vo a d e f h i j l).getD ([])
theorem out {x} : ∀ a d e f h i j l, vo a d e f h i j l = some x -> c a d e f h i j l = true /\ v a d e f h i j l = x := fun _ _ _ _ _ _ _ _ => Lib.out_
end Go.FG.U54

namespace Go.FG.U55
def r3 {R : Type} (N : Nat) (g k0 : F_rsir R) (a : Row) (d : ByteArray) (e : Int) (f : Row) : Option R := bif decide (e < (a.length : Int)) then bif decide (0 <= e) && decide (e < (a.length : Int)) then bif !List.beq (cvS (cellAt a e.toNat 0)).toList (ByteArray.toList d) then bif decide (0 <= e) && decide (e < (a.length : Int)) then bif roomy (f.length + (List.set (zeros [Ck.s, Ck.i IntKind.i64, Ck.i IntKind.i64, Ck.s] 1) 0 [.s (cvS (cellAt a e.toNat 0)), .i .i64 (cvI (cellAt a e.toNat 1)), .i .i64 (cvI (cellAt a e.toNat (1 + 1))), .s (cvS (cellAt a e.toNat (1 + 1 + 1)))]).length) 48 then g a d (w64 (e + 1)) (f ++ List.set (zeros [Ck.s, Ck.i IntKind.i64, Ck.i IntKind.i64, Ck.s] 1) 0 [.s (cvS (cellAt a e.toNat 0)), .i .i64 (cvI (cellAt a e.toNat 1)), .i .i64 (cvI (cellAt a e.toNat (1 + 1))), .s (cvS (cellAt a e.toNat (1 + 1 + 1)))]) else none else none else g a d (w64 (e + 1)) f else none else k0 a d e f
def l3 {R : Type} (N : Nat) (k0 : F_rsir R) : Nat -> F_rsir R
 | 0 => fun _ _ _ _ => none
 | n + 1 => r3 N (l3 N k0 n) k0
def b {R : Type} (N : Nat) (kr : Row -> Option R) (a : Row) (d : ByteArray) : Option R := l3 N (fun _ _ _ e => kr e) N a d 0 (zeros [Ck.s, Ck.i IntKind.i64, Ck.i IntKind.i64, Ck.s] 0)
def vo := b Lib.big fun r0 => some r0
def c := fun a d => (vo a d).isSome
def v := fun a d => (vo a d).getD ([])
theorem out {x} : ∀ a d, vo a d = some x -> c a d = true /\ v a d = x := fun _ _ => Lib.out_
end Go.FG.U55

namespace Go.FG.U56
def b {R : Type} (kr : F_rrri R) (a d e : Row) (f : Int) (h : ByteArray) : Option R := bif U144.c a h then bif U144.c d h then bif U146.c e f then kr (U144.v a h) (U144.v d h) (U146.v e f).1 (U146.v e f).2 else none else none else none
def vo := b fun r0 r1 r2 r3 => some (r0, r1, r2, r3)
def c := fun a d e f h => (vo a d e f h).isSome
def v := fun a d e f h => (vo a d e f h).getD ([], [], [], 0)
theorem out {x} : ∀ a d e f h, vo a d e f h = some x -> c a d e f h = true /\ v a d e f h = x := fun _ _ _ _ _ => Lib.out_
end Go.FG.U56

namespace Go.FG.U9
def r22 {R : Type} (N : Nat) (g k0 : F_sbiirrrrirriiiiiiiisiiisirrrrrr R) (a : ByteArray) (d : Bool) (e f : Int) (h i j l : Row) (m : Int) (o p : Row) (q r s t u w y z : Int) (α : ByteArray) (xa xb xc : Int) (xd : ByteArray) (xe : Int) (xf xg xh xi xj xk : Row) : Option R := bif decide (e < (o.length : Int)) then bif decide (0 <= e) && decide (e < (o.length : Int)) then bif List.beq (cvS (cellAt o e.toNat 0)).toList (ByteArray.toList a) then bif decide (0 <= e) && decide (e < (o.length : Int)) then bif decide (cvI (cellAt o e.toNat 2) = 1) then bif decide (0 <= e) && decide (e < (o.length : Int)) then g a d (w64 (e + 1)) f h i j l m o p q r s t u w y z α (w64 (e + 1)) xb xc (cvS (cellAt o e.toNat 1)) xe xf xg xh xi xj xk else none else g a d (w64 (e + 1)) f h i j l m o p q r s t u w y z α xa xb xc xd xe xf xg xh xi xj xk else none else g a d (w64 (e + 1)) f h i j l m o p q r s t u w y z α xa xb xc xd xe xf xg xh xi xj xk else none else k0 a d e f h i j l m o p q r s t u w y z α xa xb xc xd xe xf xg xh xi xj xk
def l22 {R : Type} (N : Nat) (k0 : F_sbiirrrrirriiiiiiiisiiisirrrrrr R) : Nat -> F_sbiirrrrirriiiiiiiisiiisirrrrrr R
 | 0 => fun _ _ _ _ _ _ _ _ _ _ _ _ _ _ _ _ _ _ _ _ _ _ _ _ _ _ _ _ _ _ _ => none
 | n + 1 => r22 N (l22 N k0 n) k0
def r5 {R : Type} (N : Nat) (g k0 k1 : F_isiiirrrrirriiiiiiirrrrrr R) (a : Int) (d : ByteArray) (e f h : Int) (i j l m : Row) (o : Int) (p q : Row) (r s t u w y z : Int) (α xa xb xc xd xe : Row) : Option R := bif decide (f < (q.length : Int)) then bif decide (0 <= f) && decide (f < (q.length : Int)) then bif decide (cvI (cellAt q f.toNat 0) = a) then k0 a d 1 f h i j l m o p q r w y z w y z α xa xb xc xd xe else g a d e (w64 (f + 1)) h i j l m o p q r s t u w y z α xa xb xc xd xe else none else k1 a d e f h i j l m o p q r s t u w y z α xa xb xc xd xe
def l5 {R : Type} (N : Nat) (k0 k1 : F_isiiirrrrirriiiiiiirrrrrr R) : Nat -> F_isiiirrrrirriiiiiiirrrrrr R
 | 0 => fun _ _ _ _ _ _ _ _ _ _ _ _ _ _ _ _ _ _ _ _ _ _ _ _ _ => none
 | n + 1 => r5 N (l5 N k0 k1 n) k0 k1
def b {R : Type} (N : Nat) (kr : F_irrrrirrii R) (a : Int) (d e f h : Row) (i : Int) (j l : Row) (m o : Int) (p : ByteArray) : Option R := bif U48.c a d e f h i j l m then Lib.lt (U48.v a d e f h i j l m) fun q => bif U43.c a d e f h i j l m then Lib.lt (U43.v a d e f h i j l m) fun r => bif !r then kr q.1 q.2.1 q.2.2.1 q.2.2.2.1 q.2.2.2.2.1 q.2.2.2.2.2.1 q.2.2.2.2.2.2.1 q.2.2.2.2.2.2.2.1 q.2.2.2.2.2.2.2.2 1 else bif !U49.v o 1 9 then kr q.1 q.2.1 q.2.2.1 q.2.2.2.1 q.2.2.2.2.1 q.2.2.2.2.2.1 q.2.2.2.2.2.2.1 q.2.2.2.2.2.2.2.1 q.2.2.2.2.2.2.2.2 1 else bif !U50.v p then kr q.1 q.2.1 q.2.2.1 q.2.2.2.1 q.2.2.2.2.1 q.2.2.2.2.2.1 q.2.2.2.2.2.2.1 q.2.2.2.2.2.2.2.1 q.2.2.2.2.2.2.2.2 1 else bif decide ((l.length : Int) ≥ 6) then kr q.1 q.2.1 q.2.2.1 q.2.2.2.1 q.2.2.2.2.1 q.2.2.2.2.2.1 q.2.2.2.2.2.2.1 q.2.2.2.2.2.2.2.1 q.2.2.2.2.2.2.2.2 1 else l5 N (fun _ _ s _ _ _ _ _ _ _ _ _ _ t u w _ _ _ y z α xa xb xc => kr t y z α xa u xb xc w s) (fun xd xe _ _ xf xg xh xi xj xk xl xm xn xo xp xq xr xs xt xu xv xw xx xy xz => bif U51.c xf xg xh xi xj xk xl xm xn xe then Lib.lt (U51.v xf xg xh xi xj xk xl xm xn xe) fun ya => bif ya.2.2.2.2 then bif U52.v ya.1 ya.2.1 ya.2.2.1 ya.2.2.2.1 xf then bif U53.c xh xi xj xk xe then Lib.lt (U53.v xh xi xj xk xe) fun yb => bif decide (xt < 1000000000) then bif U54.c xz xd xe 0 ya.2.1 2 ya.2.2.2.1 (w64 (xf - ya.2.1)) then Lib.lt (U54.v xz xd xe 0 ya.2.1 2 ya.2.2.2.1 (w64 (xf - ya.2.1))) fun yc => kr xr xu yb.1 yb.2.1 yb.2.2.1 yb.2.2.2.1 xy yc (w64 (xt + 1)) 0 else none else bif U54.c xz xd xe 0 ya.2.1 2 ya.2.2.2.1 (w64 (xf - ya.2.1)) then Lib.lt (U54.v xz xd xe 0 ya.2.1 2 ya.2.2.2.1 (w64 (xf - ya.2.1))) fun yd => kr xr xu yb.1 yb.2.1 yb.2.2.1 yb.2.2.2.1 xy yd xt 0 else none else none else l22 N (fun ye yf _ _ _ _ _ _ _ yg _ _ _ _ _ yh yi yj yk yl ym yn yo yp yq yr ys yt yu yv yw => bif decide (ym = 0) then bif decide ((yg.length : Int) ≥ 20) then kr yh yr ys yt yu yi yv yw yj 2 else bif roomy (yv.length + (List.set (zeros [Ck.s, Ck.s, Ck.i IntKind.i64, Ck.i IntKind.i64, Ck.i IntKind.i64] 1) 0 [.s ye, .s ⟨#[]⟩, .i .i64 1, .i .i64 0, .i .i64 0]).length) 56 then bif yf then bif U55.c yr ye then Lib.lt (U55.v yr ye) fun yx => bif U56.c ys yt yu yi ye then Lib.lt (U56.v ys yt yu yi ye) fun yy => bif U57.c yy.2.2.1 yy.2.2.2 ye then Lib.lt (U57.v yy.2.2.1 yy.2.2.2 ye) fun yz => bif U54.c yw yk yl ((yv ++ List.set (zeros [Ck.s, Ck.s, Ck.i IntKind.i64, Ck.i IntKind.i64, Ck.i IntKind.i64] 1) 0 [.s ye, .s ⟨#[]⟩, .i .i64 1, .i .i64 0, .i .i64 0]).length : Int) yn yo yp yq then Lib.lt (U54.v yw yk yl ((yv ++ List.set (zeros [Ck.s, Ck.s, Ck.i IntKind.i64, Ck.i IntKind.i64, Ck.i IntKind.i64] 1) 0 [.s ye, .s ⟨#[]⟩, .i .i64 1, .i .i64 0, .i .i64 0]).length : Int) yn yo yp yq) fun za => kr yh yx yy.1 yy.2.1 yz.1 yz.2 (yv ++ List.set (zeros [Ck.s, Ck.s, Ck.i IntKind.i64, Ck.i IntKind.i64, Ck.i IntKind.i64] 1) 0 [.s ye, .s ⟨#[]⟩, .i .i64 1, .i .i64 0, .i .i64 0]) za yj 0 else none else none else none else none else bif U57.c yu yi ye then Lib.lt (U57.v yu yi ye) fun zb => bif U54.c yw yk yl ((yv ++ List.set (zeros [Ck.s, Ck.s, Ck.i IntKind.i64, Ck.i IntKind.i64, Ck.i IntKind.i64] 1) 0 [.s ye, .s ⟨#[]⟩, .i .i64 1, .i .i64 0, .i .i64 0]).length : Int) yn yo yp yq then Lib.lt (U54.v yw yk yl ((yv ++ List.set (zeros [Ck.s, Ck.s, Ck.i IntKind.i64, Ck.i IntKind.i64, Ck.i IntKind.i64] 1) 0 [.s ye, .s ⟨#[]⟩, .i .i64 1, .i .i64 0, .i .i64 0]).length : Int) yn yo yp yq) fun zc => kr yh yr ys yt zb.1 zb.2 (yv ++ List.set (zeros [Ck.s, Ck.s, Ck.i IntKind.i64, Ck.i IntKind.i64, Ck.i IntKind.i64] 1) 0 [.s ye, .s ⟨#[]⟩, .i .i64 1, .i .i64 0, .i .i64 0]) zc yj 0 else none else none else none else bif yf then bif U55.c yr ye then Lib.lt (U55.v yr ye) fun zd => bif U56.c ys yt yu yi ye then Lib.lt (U56.v ys yt yu yi ye) fun ze => bif U57.c ze.2.2.1 ze.2.2.2 ye then Lib.lt (U57.v ze.2.2.1 ze.2.2.2 ye) fun zf => bif U54.c yw yk yl ym yn yo yp yq then Lib.lt (U54.v yw yk yl ym yn yo yp yq) fun zg => kr yh zd ze.1 ze.2.1 zf.1 zf.2 yv zg yj 0 else none else none else none else none else bif U57.c yu yi ye then Lib.lt (U57.v yu yi ye) fun zh => bif U54.c yw yk yl ym yn yo yp yq then Lib.lt (U54.v yw yk yl ym yn yo yp yq) fun zi => kr yh yr ys yt zh.1 zh.2 yv zi yj 0 else none else none) N xe ya.2.2.2.2 0 xf xg xh xi xj xk xl xm xn xo xp xq xr xs xt xd xe 0 0 1 ⟨#[]⟩ 0 xu xv xw xx xy xz else l22 N (fun zj zk _ _ _ _ _ _ _ zl _ _ _ _ _ zm zn zo zp zq zr zs zt zu zv zw zx zy zz wa wb => bif decide (zr = 0) then bif decide ((zl.length : Int) ≥ 20) then kr zm zw zx zy zz zn wa wb zo 2 else bif roomy (wa.length + (List.set (zeros [Ck.s, Ck.s, Ck.i IntKind.i64, Ck.i IntKind.i64, Ck.i IntKind.i64] 1) 0 [.s zj, .s ⟨#[]⟩, .i .i64 1, .i .i64 0, .i .i64 0]).length) 56 then bif zk then bif U55.c zw zj then Lib.lt (U55.v zw zj) fun wc => bif U56.c zx zy zz zn zj then Lib.lt (U56.v zx zy zz zn zj) fun wd => bif U57.c wd.2.2.1 wd.2.2.2 zj then Lib.lt (U57.v wd.2.2.1 wd.2.2.2 zj) fun we => bif U54.c wb zp zq ((wa ++ List.set (zeros [Ck.s, Ck.s, Ck.i IntKind.i64, Ck.i IntKind.i64, Ck.i IntKind.i64] 1) 0 [.s zj, .s ⟨#[]⟩, .i .i64 1, .i .i64 0, .i .i64 0]).length : Int) zs zt zu zv then Lib.lt (U54.v wb zp zq ((wa ++ List.set (zeros [Ck.s, Ck.s, Ck.i IntKind.i64, Ck.i IntKind.i64, Ck.i IntKind.i64] 1) 0 [.s zj, .s ⟨#[]⟩, .i .i64 1, .i .i64 0, .i .i64 0]).length : Int) zs zt zu zv) fun wf => kr zm wc wd.1 wd.2.1 we.1 we.2 (wa ++ List.set (zeros [Ck.s, Ck.s, Ck.i IntKind.i64, Ck.i IntKind.i64, Ck.i IntKind.i64] 1) 0 [.s zj, .s ⟨#[]⟩, .i .i64 1, .i .i64 0, .i .i64 0]) wf zo 0 else none else none else none else none else bif U57.c zz zn zj then Lib.lt (U57.v zz zn zj) fun wg => bif U54.c wb zp zq ((wa ++ List.set (zeros [Ck.s, Ck.s, Ck.i IntKind.i64, Ck.i IntKind.i64, Ck.i IntKind.i64] 1) 0 [.s zj, .s ⟨#[]⟩, .i .i64 1, .i .i64 0, .i .i64 0]).length : Int) zs zt zu zv then Lib.lt (U54.v wb zp zq ((wa ++ List.set (zeros [Ck.s, Ck.s, Ck.i IntKind.i64, Ck.i IntKind.i64, Ck.i IntKind.i64] 1) 0 [.s zj, .s ⟨#[]⟩, .i .i64 1, .i .i64 0, .i .i64 0]).length : Int) zs zt zu zv) fun wh => kr zm zw zx zy wg.1 wg.2 (wa ++ List.set (zeros [Ck.s, Ck.s, Ck.i IntKind.i64, Ck.i IntKind.i64, Ck.i IntKind.i64] 1) 0 [.s zj, .s ⟨#[]⟩, .i .i64 1, .i .i64 0, .i .i64 0]) wh zo 0 else none else none else none else bif zk then bif U55.c zw zj then Lib.lt (U55.v zw zj) fun wi => bif U56.c zx zy zz zn zj then Lib.lt (U56.v zx zy zz zn zj) fun wj => bif U57.c wj.2.2.1 wj.2.2.2 zj then Lib.lt (U57.v wj.2.2.1 wj.2.2.2 zj) fun wk => bif U54.c wb zp zq zr zs zt zu zv then Lib.lt (U54.v wb zp zq zr zs zt zu zv) fun wl => kr zm wi wj.1 wj.2.1 wk.1 wk.2 wa wl zo 0 else none else none else none else none else bif U57.c zz zn zj then Lib.lt (U57.v zz zn zj) fun wm => bif U54.c wb zp zq zr zs zt zu zv then Lib.lt (U54.v wb zp zq zr zs zt zu zv) fun wn => kr zm zw zx zy wm.1 wm.2 wa wn zo 0 else none else none) N xe ya.2.2.2.2 0 xf xg xh xi xj xk xl xm xn xo xp xq xr xs xt xd xe 0 0 1 ⟨#[]⟩ 0 xu xv xw xx xy xz else none) N o p 0 0 a d e f h i j l m 0 0 0 q.1 q.2.2.2.2.2.1 q.2.2.2.2.2.2.2.2 q.2.1 q.2.2.1 q.2.2.2.1 q.2.2.2.2.1 q.2.2.2.2.2.2.1 q.2.2.2.2.2.2.2.1 else none else none
def vo := b Lib.big fun r0 r1 r2 r3 r4 r5 r6 r7 r8 r9 => some (r0, r1, r2, r3, r4, r5, r6, r7, r8, r9)
def c := fun a d e f h i j l m o p => (vo a d e f h i j l m o p).isSome
def v := fun a d e f h i j l m o p => (vo a d e f h i j l m o p).getD (0, [], [], [], [], 0, [], [], 0, 0)
theorem out {x} : ∀ a d e f h i j l m o p, vo a d e f h i j l m o p = some x -> c a d e f h i j l m o p = true /\ v a d e f h i j l m o p = x := fun _ _ _ _ _ _ _ _ _ _ _ => Lib.out_
end Go.FG.U9

namespace Go.FG.U154
def b {R : Type} (kr : Row -> Option R) (a : Row) : Option R := bif roomy ((zeros [Ck.s, Ck.i IntKind.i64, Ck.i IntKind.i64, Ck.s] 0).length + a.length) 48 then kr (zeros [Ck.s, Ck.i IntKind.i64, Ck.i IntKind.i64, Ck.s] 0 ++ a) else none
def vo := b fun r0 => some r0
def c := fun a => (vo a).isSome
def v := fun a => (vo a).getD ([])
theorem out {x} : ∀ a, vo a = some x -> c a = true /\ v a = x := fun _ => Lib.out_
end Go.FG.U154

namespace Go.FG.U217
def b {R : Type} (kr : Row -> Option R) (a : Row) : Option R := bif roomy ((zeros [.s] 0).length + a.length) 16 then kr (zeros [.s] 0 ++ a) else none
def vo := b fun r0 => some r0
def c := fun a => (vo a).isSome
def v := fun a => (vo a).getD ([])
theorem out {x} : ∀ a, vo a = some x -> c a = true /\ v a = x := fun _ => Lib.out_
end Go.FG.U217

namespace Go.FG.U223
def b {R : Type} (kr : Row -> Option R) (a : Row) : Option R := bif roomy ((zeros [Ck.i IntKind.i64] 0).length + a.length) 8 then kr (zeros [Ck.i IntKind.i64] 0 ++ a) else none
def vo := b fun r0 => some r0
def c := fun a => (vo a).isSome
def v := fun a => (vo a).getD ([])
theorem out {x} : ∀ a, vo a = some x -> c a = true /\ v a = x := fun _ => Lib.out_
end Go.FG.U223

namespace Go.FG.U168
def r3 {R : Type} (N : Nat) (g : F_riiii R) (g1 : F_riiiir R) (k0 : F_riiii R) (k1 : F_riiiir R) (a : Row) (d e f h : Int) : Option R := bif decide (e < d) then bif decide (0 <= e) && decide (e < (a.length : Int)) then bif U223.c (cvL (cellAt a e.toNat 0)) then g1 a d (w64 (e + 1)) f h ([] ++ List.set (zeros [Ck.l 3] 1) 0 [CV.l 3 (U223.v (cvL (cellAt a e.toNat 0)))]) else none else none else k0 a d e f h
def r3a {R : Type} (N : Nat) (g : F_riiii R) (g1 : F_riiiir R) (k0 : F_riiii R) (k1 : F_riiiir R) (a : Row) (d e f h : Int) (i : Row) : Option R := bif decide (e < d) then bif decide (0 <= e) && decide (e < (a.length : Int)) then bif U223.c (cvL (cellAt a e.toNat 0)) then bif roomy (i.length + (List.set (zeros [Ck.l 3] 1) 0 [CV.l 3 (U223.v (cvL (cellAt a e.toNat 0)))]).length) 24 then g1 a d (w64 (e + 1)) f h (i ++ List.set (zeros [Ck.l 3] 1) 0 [CV.l 3 (U223.v (cvL (cellAt a e.toNat 0)))]) else none else none else none else k1 a d e f h i
def l3a {R : Type} (N : Nat) (k0 : F_riiii R) (k1 : F_riiiir R) : Nat -> F_riiiir R
 | 0 => fun _ _ _ _ _ _ => none
 | n + 1 => r3a N (fun x0 x1 x2 x3 x4 => none) (l3a N k0 k1 n) k0 k1
def l3 {R : Type} (N : Nat) (k0 : F_riiii R) (k1 : F_riiiir R) : Nat -> F_riiii R
 | 0 => fun _ _ _ _ _ => none
 | n + 1 => r3 N (l3 N k0 k1 n) (l3a N k0 k1 n) k0 k1
def b {R : Type} (N : Nat) (kr : F_ri R) (a : Row) (d : Int) : Option R := l3 N (fun _ _ _ _ e => kr [] e) (fun _ _ _ _ f h => kr h f) N a (a.length : Int) 0 0 d
def vo := b Lib.big fun r0 r1 => some (r0, r1)
def c := fun a d => (vo a d).isSome
def v := fun a d => (vo a d).getD ([], 0)
theorem out {x} : ∀ a d, vo a d = some x -> c a d = true /\ v a d = x := fun _ _ => Lib.out_
end Go.FG.U168

namespace Go.FG.U155
def b {R : Type} (kr : F_rrri R) (a d e : Row) (f : Int) : Option R := bif U217.c a then bif U217.c d then bif U168.c e f then kr (U217.v a) (U217.v d) (U168.v e f).1 (U168.v e f).2 else none else none else none
def vo := b fun r0 r1 r2 r3 => some (r0, r1, r2, r3)
def c := fun a d e f => (vo a d e f).isSome
def v := fun a d e f => (vo a d e f).getD ([], [], [], 0)
theorem out {x} : ∀ a d e f, vo a d e f = some x -> c a d e f = true /\ v a d e f = x := fun _ _ _ _ => Lib.out_
end Go.FG.U155

namespace Go.FG.U62
def b {R : Type} (kr : F_irrrrirri R) (a : Int) (d e f h : Row) (i : Int) (j l : Row) (m : Int) : Option R := bif U154.c d then bif U155.c e f h i then bif roomy ((zeros [Ck.s, Ck.s, Ck.i IntKind.i64, Ck.i IntKind.i64, Ck.i IntKind.i64] 0).length + j.length) 56 then bif roomy ((zeros [Ck.i IntKind.i64, Ck.s, Ck.i IntKind.i64, Ck.i IntKind.i64, Ck.i IntKind.i64, Ck.s, Ck.i IntKind.i64] 0).length + l.length) 72 then kr a (U154.v d) (U155.v e f h i).1 (U155.v e f h i).2.1 (U155.v e f h i).2.2.1 (U155.v e f h i).2.2.2 (zeros [Ck.s, Ck.s, Ck.i IntKind.i64, Ck.i IntKind.i64, Ck.i IntKind.i64] 0 ++ j) (zeros [Ck.i IntKind.i64, Ck.s, Ck.i IntKind.i64, Ck.i IntKind.i64, Ck.i IntKind.i64, Ck.s, Ck.i IntKind.i64] 0 ++ l) m else none else none else none else none
def vo := b fun r0 r1 r2 r3 r4 r5 r6 r7 r8 => some (r0, r1, r2, r3, r4, r5, r6, r7, r8)
def c := fun a d e f h i j l m => (vo a d e f h i j l m).isSome
def v := fun a d e f h i j l m => (vo a d e f h i j l m).getD (0, [], [], [], [], 0, [], [], 0)
theorem out {x} : ∀ a d e f h i j l m, vo a d e f h i j l m = some x -> c a d e f h i j l m = true /\ v a d e f h i j l m = x := fun _ _ _ _ _ _ _ _ _ => Lib.out_
end Go.FG.U62

namespace Go.FG.U63
def b {R : Type} (kr : Bool -> Option R) (a d e : Int) : Option R := bif decide (a ≥ d) then kr (decide (a <= e)) else kr false
def v (a0 a1 a2 : Int) : Bool := bif decide (a0 ≥ a1) then decide (a0 <= a2) else false
theorem b_eq {R : Type} (kr : Bool -> Option R) (a0 a1 a2 : Int) : b kr a0 a1 a2 = kr (v a0 a1 a2) := by
 first | rfl | (unfold b v; simp only [Bool.cond_eq_ite]; (repeat' split) <;> rfl)
end Go.FG.U63

namespace Go.FG.U64
def b {R : Type} (kr : Bool -> Option R) (a : ByteArray) : Option R := kr (U63.v (a.size : Int) 1 30)
def v (a0 : ByteArray) : Bool := (U63.v (a0.size : Int) 1 30)
theorem b_eq {R : Type} (kr : Bool -> Option R) (a0 : ByteArray) : b kr a0 = kr (v a0) := by
 first | rfl | (unfold b v; simp only [Bool.cond_eq_ite]; (repeat' split) <;> rfl)
end Go.FG.U64

namespace Go.FG.U100
def b {R : Type} (kr : Bool -> Option R) (a : Int) : Option R := kr (U63.v a 0 1000000000)
def v (a0 : Int) : Bool := (U63.v a0 0 1000000000)
theorem b_eq {R : Type} (kr : Bool -> Option R) (a0 : Int) : b kr a0 = kr (v a0) := by
 first | rfl | (unfold b v; simp only [Bool.cond_eq_ite]; (repeat' split) <;> rfl)
end Go.FG.U100

namespace Go.FG.U158
def b {R : Type} (kr : Bool -> Option R) (a : ByteArray) (d e : Int) (f : ByteArray) : Option R := bif U64.v a then bif U100.v d then bif U63.v e 1 999999 then kr (decide ((f.size : Int) <= 400)) else kr false else kr false else kr false
def v (a0 : ByteArray) (a1 a2 : Int) (a3 : ByteArray) : Bool := bif U64.v a0 then bif U100.v a1 then bif U63.v a2 1 999999 then decide ((a3.size : Int) <= 400) else false else false else false
theorem b_eq {R : Type} (kr : Bool -> Option R) (a0 : ByteArray) (a1 a2 : Int) (a3 : ByteArray) : b kr a0 a1 a2 a3 = kr (v a0 a1 a2 a3) := by
 first | rfl | (unfold b v; simp only [Bool.cond_eq_ite]; (repeat' split) <;> rfl)
end Go.FG.U158

namespace Go.FG.U261
def b {R : Type} (kr : Row -> Option R) (a : Int) : Option R := bif decide (a < 0) then none else bif decide (w64 (a - w64 (0 - 0)) > 0) then bif decide (0 <= w64 (a - w64 (0 - 0))) && roomy (([] : Row).length + (w64 (a - w64 (0 - 0))).toNat) 16 && decide (w64 (a - w64 (0 - 0)) <= 9223372036854775807) then kr (view ([] ++ zeros [.s] (w64 (a - w64 (0 - 0))).toNat) (Int.toNat 0) (Int.toNat 0)) else none else kr []
def vo := b fun r0 => some r0
def c := fun a => (vo a).isSome
def v := fun a => (vo a).getD ([])
theorem out {x} : ∀ a, vo a = some x -> c a = true /\ v a = x := fun _ => Lib.out_
end Go.FG.U261

namespace Go.FG.U233
def r11 {R : Type} (N : Nat) (g k0 : F_riir R) (a : Row) (d e : Int) (f : Row) : Option R := bif decide (e < d) then bif decide (0 <= e) && decide (e < (a.length : Int)) then bif roomy (f.length + (cvL (cellAt a e.toNat 0)).length) 16 then g a d (w64 (e + 1)) (f ++ cvL (cellAt a e.toNat 0)) else none else none else k0 a d e f
def l11 {R : Type} (N : Nat) (k0 : F_riir R) : Nat -> F_riir R
 | 0 => fun _ _ _ _ => none
 | n + 1 => r11 N (l11 N k0 n) k0
def r3 {R : Type} (N : Nat) (g k0 : F_ririi R) (a : Row) (d : Int) (e : Row) (f h : Int) : Option R := bif decide (h < f) then bif decide (0 <= h) && decide (h < (e.length : Int)) then bif decide (w64 (d + ((cvL (cellAt e h.toNat 0)).length : Int)) < 0) then none else g a (w64 (d + ((cvL (cellAt e h.toNat 0)).length : Int))) e f (w64 (h + 1)) else none else k0 a d e f h
def l3 {R : Type} (N : Nat) (k0 : F_ririi R) : Nat -> F_ririi R
 | 0 => fun _ _ _ _ _ => none
 | n + 1 => r3 N (l3 N k0 n) k0
def b {R : Type} (N : Nat) (kr : Row -> Option R) (a : Row) : Option R := l3 N (fun d e _ _ _ => bif U261.c e then l11 N (fun _ _ _ f => kr f) N d (d.length : Int) 0 (U261.v e) else none) N a 0 a (a.length : Int) 0
def vo := b Lib.big fun r0 => some r0
def c := fun a => (vo a).isSome
def v := fun a => (vo a).getD ([])
theorem out {x} : ∀ a, vo a = some x -> c a = true /\ v a = x := fun _ => Lib.out_
end Go.FG.U233

namespace Go.FG.U188
def b {R : Type} (kr : Row -> Option R) (a d e : Row) (f : Int) : Option R := bif U233.c (List.set (List.set (zeros [Ck.l 9] 2) 0 [CV.l 9 a]) 1 [CV.l 9 d]) then kr (U233.v (List.set (List.set (zeros [Ck.l 9] 2) 0 [CV.l 9 a]) 1 [CV.l 9 d])) else none
def vo := b fun r0 => some r0
def c := fun a d e f => (vo a d e f).isSome
def v := fun a d e f => (vo a d e f).getD ([])
theorem out {x} : ∀ a d e f, vo a d e f = some x -> c a d e f = true /\ v a d e f = x := fun _ _ _ _ => Lib.out_
end Go.FG.U188

namespace Go.FG.U218
def r2 {R : Type} (N : Nat) (g k0 k1 : F_rsiii R) (a : Row) (d : ByteArray) (e f h : Int) : Option R := bif decide (h < f) then bif decide (0 <= h) && decide (h < (a.length : Int)) then bif List.beq (ByteArray.toList d) (cvS (cellAt a h.toNat 0)).toList then k0 a d h f h else g a d e f (w64 (h + 1)) else none else k1 a d e f h
def l2 {R : Type} (N : Nat) (k0 k1 : F_rsiii R) : Nat -> F_rsiii R
 | 0 => fun _ _ _ _ _ => none
 | n + 1 => r2 N (l2 N k0 k1 n) k0 k1
def b {R : Type} (N : Nat) (kr : Int -> Option R) (a : Row) (d : ByteArray) : Option R := l2 N (fun _ _ e _ _ => kr e) (fun _ _ _ _ _ => kr (-1)) N a d 0 (a.length : Int) 0
def vo := b Lib.big fun r0 => some r0
def c := fun a d => (vo a d).isSome
def v := fun a d => (vo a d).getD (0)
theorem out {x} : ∀ a d, vo a d = some x -> c a d = true /\ v a d = x := fun _ _ => Lib.out_
end Go.FG.U218

namespace Go.FG.U160
def b {R : Type} (kr : Bool -> Option R) (a : Row) (d : ByteArray) : Option R := bif U218.c a d then kr (decide (U218.v a d ≥ 0)) else none
def vo := b fun r0 => some r0
def c := fun a d => (vo a d).isSome
def v := fun a d => (vo a d).getD false
theorem out {x} : ∀ a d, vo a d = some x -> c a d = true /\ v a d = x := fun _ _ => Lib.out_
end Go.FG.U160

namespace Go.FG.U187
def b {R : Type} (kr : Bool -> Option R) (a d e : Row) (f : Int) (h : ByteArray) : Option R := bif U188.c a d e f then bif U160.c (U188.v a d e f) h then kr (U160.v (U188.v a d e f) h) else none else none
def vo := b fun r0 => some r0
def c := fun a d e f h => (vo a d e f h).isSome
def v := fun a d e f h => (vo a d e f h).getD false
theorem out {x} : ∀ a d e f h, vo a d e f h = some x -> c a d e f h = true /\ v a d e f h = x := fun _ _ _ _ _ => Lib.out_
end Go.FG.U187

namespace Go.FG.U169
def r5 {R : Type} (N : Nat) (g k0 k1 : F_brriiriiri R) (a : Bool) (d e : Row) (f h : Int) (i : Row) (j l : Int) (m : Row) (o : Int) : Option R := bif decide (l < j) then bif decide (0 <= l) && decide (l < (i.length : Int)) then bif !U63.v (cvI (cellAt i l.toNat 0)) 0 15 then k0 false d e f h i j l m o else g a d e f h i j (w64 (l + 1)) m o else none else k1 a d e f h i j l m o
def l5 {R : Type} (N : Nat) (k0 k1 : F_brriiriiri R) : Nat -> F_brriiriiri R
 | 0 => fun _ _ _ _ _ _ _ _ _ _ => none
 | n + 1 => r5 N (l5 N k0 k1 n) k0 k1
def r2 {R : Type} (N : Nat) (g k0 k1 : F_briiri R) (a : Bool) (d : Row) (e f : Int) (h : Row) (i : Int) : Option R := bif decide (f < e) then bif decide (0 <= f) && decide (f < (d.length : Int)) then l5 N (fun j _ l m o _ _ _ p q => k0 j l m o p q) (fun r s t u w _ _ _ y z => bif (s.length : Int) != 16 then k0 false t u w y z else g r t u (w64 (w + 1)) y z) N a (cvL (cellAt d f.toNat 0)) d e f (cvL (cellAt d f.toNat 0)) ((cvL (cellAt d f.toNat 0)).length : Int) 0 h i else none else k1 a d e f h i
def l2 {R : Type} (N : Nat) (k0 k1 : F_briiri R) : Nat -> F_briiri R
 | 0 => fun _ _ _ _ _ _ => none
 | n + 1 => r2 N (l2 N k0 k1 n) k0 k1
def b {R : Type} (N : Nat) (kr : Bool -> Option R) (a : Row) (d : Int) : Option R := l2 N (fun e _ _ _ _ _ => kr e) (fun _ _ _ _ f h => bif decide ((f.length : Int) = 3) then kr (U63.v h 0 63) else kr false) N false a (a.length : Int) 0 a d
def vo := b Lib.big fun r0 => some r0
def c := fun a d => (vo a d).isSome
def v := fun a d => (vo a d).getD false
theorem out {x} : ∀ a d, vo a d = some x -> c a d = true /\ v a d = x := fun _ _ => Lib.out_
end Go.FG.U169

namespace Go.FG.U159
def r3 {R : Type} (N : Nat) (g k0 k1 : F_biirrrir R) (a : Bool) (d e : Int) (f h i : Row) (j : Int) (l : Row) : Option R := bif decide (e < d) then bif decide (0 <= e) && decide (e < (l.length : Int)) then bif !U64.v (cvS (cellAt l e.toNat 0)) then k0 false d e f h i j l else bif inB 0 e (l.length : Int) then bif U160.c (view l (Int.toNat 0) e.toNat) (cvS (cellAt l e.toNat 0)) then bif U160.v (view l (Int.toNat 0) e.toNat) (cvS (cellAt l e.toNat 0)) then k0 false d e f h i j l else g a d (w64 (e + 1)) f h i j l else none else none else none else k1 a d e f h i j l
def l3 {R : Type} (N : Nat) (k0 k1 : F_biirrrir R) : Nat -> F_biirrrir R
 | 0 => fun _ _ _ _ _ _ _ _ => none
 | n + 1 => r3 N (l3 N k0 k1 n) k0 k1
def b {R : Type} (N : Nat) (kr : Bool -> Option R) (a d e : Row) (f : Int) : Option R := bif U188.c a d e f then l3 N (fun h _ _ _ _ _ _ _ => kr h) (fun _ _ _ i j l m _ => bif decide ((i.length : Int) <= 2) then bif decide ((j.length : Int) <= 4) then bif U169.c l m then kr (U169.v l m) else none else kr false else kr false) N false ((U188.v a d e f).length : Int) 0 a d e f (U188.v a d e f) else none
def vo := b Lib.big fun r0 => some r0
def c := fun a d e f => (vo a d e f).isSome
def v := fun a d e f => (vo a d e f).getD false
theorem out {x} : ∀ a d e f, vo a d e f = some x -> c a d e f = true /\ v a d e f = x := fun _ _ _ _ => Lib.out_
end Go.FG.U159

namespace Go.FG.U97
def r2 {R : Type} (N : Nat) (g k0 k1 : F_briiirrrrirri R) (a : Bool) (d : Row) (e f h : Int) (i j l m : Row) (o : Int) (p q : Row) (r : Int) : Option R := bif decide (f < e) then bif decide (0 <= f) && decide (f < (d.length : Int)) then bif !U158.v (cvS (cellAt d f.toNat 0)) (cvI (cellAt d f.toNat 1)) (cvI (cellAt d f.toNat (1 + 1))) (cvS (cellAt d f.toNat (1 + 1 + 1))) then k0 false d e f h i j l m o p q r else bif decide (f > 0) then bif decide (0 <= w64 (f - 1)) && decide (w64 (f - 1) < (i.length : Int)) then bif !Op.bytesLess (cvS (cellAt i (w64 (f - 1)).toNat 0)).toList (cvS (cellAt d f.toNat 0)).toList then k0 false d e f h i j l m o p q r else bif U187.c j l m o (cvS (cellAt d f.toNat 0)) then bif !U187.v j l m o (cvS (cellAt d f.toNat 0)) then k0 false d e f h i j l m o p q r else g a d e (w64 (f + 1)) h i j l m o p q r else none else none else bif U187.c j l m o (cvS (cellAt d f.toNat 0)) then bif !U187.v j l m o (cvS (cellAt d f.toNat 0)) then k0 false d e f h i j l m o p q r else g a d e (w64 (f + 1)) h i j l m o p q r else none else none else k1 a d e f h i j l m o p q r
def l2 {R : Type} (N : Nat) (k0 k1 : F_briiirrrrirri R) : Nat -> F_briiirrrrirri R
 | 0 => fun _ _ _ _ _ _ _ _ _ _ _ _ _ => none
 | n + 1 => r2 N (l2 N k0 k1 n) k0 k1
def b {R : Type} (N : Nat) (kr : Bool -> Option R) (a : Int) (d e f h : Row) (i : Int) (j l : Row) (m : Int) : Option R := l2 N (fun o _ _ _ _ _ _ _ _ _ _ _ _ => kr o) (fun _ _ _ _ _ p q r s t _ _ _ => bif U159.c q r s t then bif U159.v q r s t then bif U188.c q r s t then kr (decide (((U188.v q r s t).length : Int) = (p.length : Int))) else none else kr false else none) N false d (d.length : Int) 0 a d e f h i j l m
def vo := b Lib.big fun r0 => some r0
def c := fun a d e f h i j l m => (vo a d e f h i j l m).isSome
def v := fun a d e f h i j l m => (vo a d e f h i j l m).getD false
theorem out {x} : ∀ a d e f h i j l m, vo a d e f h i j l m = some x -> c a d e f h i j l m = true /\ v a d e f h i j l m = x := fun _ _ _ _ _ _ _ _ _ => Lib.out_
end Go.FG.U97

namespace Go.FG.U165
def b {R : Type} (kr : Bool -> Option R) (a d : ByteArray) (e f h : Int) (key1 : ByteArray) : Option R := bif List.beq (ByteArray.toList a) (ByteArray.toList key1) then kr (decide (e = 1)) else kr false
def v (a0 a1 : ByteArray) (a2 a3 a4 : Int) (key1 : ByteArray) : Bool := bif List.beq (ByteArray.toList a0) (ByteArray.toList key1) then decide (a2 = 1) else false
theorem b_eq {R : Type} (kr : Bool -> Option R) (a0 a1 : ByteArray) (a2 a3 a4 : Int) (key1 : ByteArray) : b kr a0 a1 a2 a3 a4 key1 = kr (v a0 a1 a2 a3 a4 key1) := by
 first | rfl | (unfold b v; simp only [Bool.cond_eq_ite]; (repeat' split) <;> rfl)
end Go.FG.U165

namespace Go.FG.U164
def r2 {R : Type} (N : Nat) (g k0 k1 : F_rsiii R) (a : Row) (d : ByteArray) (e f h : Int) : Option R := bif decide (h < f) then bif decide (0 <= h) && decide (h < (a.length : Int)) then bif U165.v (cvS (cellAt a h.toNat 0)) (cvS (cellAt a h.toNat 1)) (cvI (cellAt a h.toNat (1 + 1))) (cvI (cellAt a h.toNat (1 + 1 + 1))) (cvI (cellAt a h.toNat (1 + 1 + 1 + 1))) d then k0 a d h f h else g a d e f (w64 (h + 1)) else none else k1 a d e f h
def l2 {R : Type} (N : Nat) (k0 k1 : F_rsiii R) : Nat -> F_rsiii R
 | 0 => fun _ _ _ _ _ => none
 | n + 1 => r2 N (l2 N k0 k1 n) k0 k1
def b {R : Type} (N : Nat) (kr : Int -> Option R) (a : Row) (key1 : ByteArray) : Option R := l2 N (fun _ _ d _ _ => kr d) (fun _ _ _ _ _ => kr (-1)) N a key1 0 (a.length : Int) 0
def vo := b Lib.big fun r0 => some r0
def c := fun a d => (vo a d).isSome
def v := fun a d => (vo a d).getD (0)
theorem out {x} : ∀ a d, vo a d = some x -> c a d = true /\ v a d = x := fun _ _ => Lib.out_
end Go.FG.U164

namespace Go.FG.U71
def b {R : Type} (kr : Int -> Option R) (a : Int) (d e f h : Row) (i : Int) (j l : Row) (m : Int) (o : ByteArray) : Option R := bif U164.c j o then kr (U164.v j o) else none
def vo := b fun r0 => some r0
def c := fun a d e f h i j l m o => (vo a d e f h i j l m o).isSome
def v := fun a d e f h i j l m o => (vo a d e f h i j l m o).getD (0)
theorem out {x} : ∀ a d e f h i j l m o, vo a d e f h i j l m o = some x -> c a d e f h i j l m o = true /\ v a d e f h i j l m o = x := fun _ _ _ _ _ _ _ _ _ _ => Lib.out_
end Go.FG.U71

namespace Go.FG.U120
def r2 {R : Type} (N : Nat) (g k0 k1 : F_briiirrrrirri R) (a : Bool) (d : Row) (e f h : Int) (i j l m : Row) (o : Int) (p q : Row) (r : Int) : Option R := bif decide (f < e) then bif decide (0 <= f) && decide (f < (d.length : Int)) then bif decide (cvI (cellAt d f.toNat (1 + 1)) = 1) then bif U71.c h i j l m o p q r (cvS (cellAt d f.toNat 0)) then bif U71.v h i j l m o p q r (cvS (cellAt d f.toNat 0)) != f then k0 false d e f h i j l m o p q r else g a d e (w64 (f + 1)) h i j l m o p q r else none else g a d e (w64 (f + 1)) h i j l m o p q r else none else k1 a d e f h i j l m o p q r
def l2 {R : Type} (N : Nat) (k0 k1 : F_briiirrrrirri R) : Nat -> F_briiirrrrirri R
 | 0 => fun _ _ _ _ _ _ _ _ _ _ _ _ _ => none
 | n + 1 => r2 N (l2 N k0 k1 n) k0 k1
def b {R : Type} (N : Nat) (kr : Bool -> Option R) (a : Int) (d e f h : Row) (i : Int) (j l : Row) (m : Int) : Option R := l2 N (fun o _ _ _ _ _ _ _ _ _ _ _ _ => kr o) (fun _ _ _ _ _ _ _ _ _ _ _ _ _ => kr true) N false j (j.length : Int) 0 a d e f h i j l m
def vo := b Lib.big fun r0 => some r0
def c := fun a d e f h i j l m => (vo a d e f h i j l m).isSome
def v := fun a d e f h i j l m => (vo a d e f h i j l m).getD false
theorem out {x} : ∀ a d e f h i j l m, vo a d e f h i j l m = some x -> c a d e f h i j l m = true /\ v a d e f h i j l m = x := fun _ _ _ _ _ _ _ _ _ => Lib.out_
end Go.FG.U120

namespace Go.FG.U98
def r2 {R : Type} (N : Nat) (g k0 k1 : F_briiirrrrirri R) (a : Bool) (d : Row) (e f h : Int) (i j l m : Row) (o : Int) (p q : Row) (r : Int) : Option R := bif decide (f < e) then bif decide (0 <= f) && decide (f < (d.length : Int)) then bif !U64.v (cvS (cellAt d f.toNat 0)) then k0 false d e f h i j l m o p q r else bif decide (((cvS (cellAt d f.toNat 1)).size : Int) > 400) then k0 false d e f h i j l m o p q r else bif !U63.v (cvI (cellAt d f.toNat (1 + 1))) 1 3 then k0 false d e f h i j l m o p q r else bif !U63.v (cvI (cellAt d f.toNat (1 + 1 + 1))) 0 999999 then k0 false d e f h i j l m o p q r else bif !U63.v (cvI (cellAt d f.toNat (1 + 1 + 1 + 1))) 0 h then k0 false d e f h i j l m o p q r else g a d e (w64 (f + 1)) h i j l m o p q r else none else k1 a d e f h i j l m o p q r
def l2 {R : Type} (N : Nat) (k0 k1 : F_briiirrrrirri R) : Nat -> F_briiirrrrirri R
 | 0 => fun _ _ _ _ _ _ _ _ _ _ _ _ _ => none
 | n + 1 => r2 N (l2 N k0 k1 n) k0 k1
def b {R : Type} (N : Nat) (kr : Bool -> Option R) (a : Int) (d e f h : Row) (i : Int) (j l : Row) (m : Int) : Option R := l2 N (fun o _ _ _ _ _ _ _ _ _ _ _ _ => kr o) (fun _ _ _ _ p q r s t u w y z => bif decide ((w.length : Int) <= 20) then bif U120.c p q r s t u w y z then kr (U120.v p q r s t u w y z) else none else kr false) N false j (j.length : Int) 0 a d e f h i j l m
def vo := b Lib.big fun r0 => some r0
def c := fun a d e f h i j l m => (vo a d e f h i j l m).isSome
def v := fun a d e f h i j l m => (vo a d e f h i j l m).getD false
theorem out {x} : ∀ a d e f h i j l m, vo a d e f h i j l m = some x -> c a d e f h i j l m = true /\ v a d e f h i j l m = x := fun _ _ _ _ _ _ _ _ _ => Lib.out_
end Go.FG.U98

namespace Go.FG.U99
def r2 {R : Type} (N : Nat) (g k0 k1 : F_briiirrrrirri R) (a : Bool) (d : Row) (e f h : Int) (i j l m : Row) (o : Int) (p q : Row) (r : Int) : Option R := bif decide (f < e) then bif decide (0 <= f) && decide (f < (d.length : Int)) then bif !U63.v (cvI (cellAt d f.toNat 0)) 1 9 then k0 false d e f h i j l m o p q r else bif decide (f > 0) then bif decide (0 <= w64 (f - 1)) && decide (w64 (f - 1) < (q.length : Int)) then bif decide (cvI (cellAt q (w64 (f - 1)).toNat 0) ≥ cvI (cellAt d f.toNat 0)) then k0 false d e f h i j l m o p q r else bif !U64.v (cvS (cellAt d f.toNat 1)) then k0 false d e f h i j l m o p q r else bif !U63.v (cvI (cellAt d f.toNat (1 + 1 + 1 + 1))) 1 3 then k0 false d e f h i j l m o p q r else bif !U63.v (cvI (cellAt d f.toNat (1 + 1))) 0 (p.length : Int) then k0 false d e f h i j l m o p q r else bif decide (((cvS (cellAt d f.toNat (1 + 1 + 1 + 1 + 1))).size : Int) > 400) then k0 false d e f h i j l m o p q r else bif !U63.v (cvI (cellAt d f.toNat (1 + 1 + 1))) 0 h then k0 false d e f h i j l m o p q r else bif decide (cvI (cellAt d f.toNat (1 + 1 + 1 + 1 + 1 + 1)) < 0) then k0 false d e f h i j l m o p q r else g a d e (w64 (f + 1)) h i j l m o p q r else none else bif !U64.v (cvS (cellAt d f.toNat 1)) then k0 false d e f h i j l m o p q r else bif !U63.v (cvI (cellAt d f.toNat (1 + 1 + 1 + 1))) 1 3 then k0 false d e f h i j l m o p q r else bif !U63.v (cvI (cellAt d f.toNat (1 + 1))) 0 (p.length : Int) then k0 false d e f h i j l m o p q r else bif decide (((cvS (cellAt d f.toNat (1 + 1 + 1 + 1 + 1))).size : Int) > 400) then k0 false d e f h i j l m o p q r else bif !U63.v (cvI (cellAt d f.toNat (1 + 1 + 1))) 0 h then k0 false d e f h i j l m o p q r else bif decide (cvI (cellAt d f.toNat (1 + 1 + 1 + 1 + 1 + 1)) < 0) then k0 false d e f h i j l m o p q r else g a d e (w64 (f + 1)) h i j l m o p q r else none else k1 a d e f h i j l m o p q r
def l2 {R : Type} (N : Nat) (k0 k1 : F_briiirrrrirri R) : Nat -> F_briiirrrrirri R
 | 0 => fun _ _ _ _ _ _ _ _ _ _ _ _ _ => none
 | n + 1 => r2 N (l2 N k0 k1 n) k0 k1
def b {R : Type} (N : Nat) (kr : Bool -> Option R) (a : Int) (d e f h : Row) (i : Int) (j l : Row) (m : Int) : Option R := l2 N (fun o _ _ _ _ _ _ _ _ _ _ _ _ => kr o) (fun _ _ _ _ _ _ _ _ _ _ _ p _ => kr (decide ((p.length : Int) <= 6))) N false l (l.length : Int) 0 a d e f h i j l m
def vo := b Lib.big fun r0 => some r0
def c := fun a d e f h i j l m => (vo a d e f h i j l m).isSome
def v := fun a d e f h i j l m => (vo a d e f h i j l m).getD false
theorem out {x} : ∀ a d e f h i j l m, vo a d e f h i j l m = some x -> c a d e f h i j l m = true /\ v a d e f h i j l m = x := fun _ _ _ _ _ _ _ _ _ => Lib.out_
end Go.FG.U99

namespace Go.FG.U25
def b {R : Type} (kr : Bool -> Option R) (a : Int) (d e f h : Row) (i : Int) (j l : Row) (m : Int) : Option R := bif U63.v a 1 1000000000 then bif U97.c a d e f h i j l m then bif U97.v a d e f h i j l m then bif U98.c a d e f h i j l m then bif U98.v a d e f h i j l m then bif U99.c a d e f h i j l m then bif U99.v a d e f h i j l m then kr (U100.v m) else kr false else none else kr false else none else kr false else none else kr false
def vo := b fun r0 => some r0
def c := fun a d e f h i j l m => (vo a d e f h i j l m).isSome
def v := fun a d e f h i j l m => (vo a d e f h i j l m).getD false
theorem out {x} : ∀ a d e f h i j l m, vo a d e f h i j l m = some x -> c a d e f h i j l m = true /\ v a d e f h i j l m = x := fun _ _ _ _ _ _ _ _ _ => Lib.out_
end Go.FG.U25

namespace Go.FG.U157
def b {R : Type} (kr : Bool -> Option R) (a : Int) (d : ByteArray) (e f h : Int) (i : ByteArray) (j id1 : Int) : Option R := kr (decide (a = id1))
def v (a0 : Int) (a1 : ByteArray) (a2 a3 a4 : Int) (a5 : ByteArray) (a6 id1 : Int) : Bool := (decide (a0 = id1))
theorem b_eq {R : Type} (kr : Bool -> Option R) (a0 : Int) (a1 : ByteArray) (a2 a3 a4 : Int) (a5 : ByteArray) (a6 id1 : Int) : b kr a0 a1 a2 a3 a4 a5 a6 id1 = kr (v a0 a1 a2 a3 a4 a5 a6 id1) := by
 first | rfl | (unfold b v; simp only [Bool.cond_eq_ite]; (repeat' split) <;> rfl)
end Go.FG.U157

namespace Go.FG.U156a
def r2 {R : Type} (N : Nat) (g k0 k1 : F_riiii R) (a : Row) (d e f h : Int) : Option R := bif decide (h < f) then bif decide (0 <= h) && decide (h < (a.length : Int)) then bif U157.v (cvI (cellAt a h.toNat 0)) (cvS (cellAt a h.toNat 1)) (cvI (cellAt a h.toNat (1 + 1))) (cvI (cellAt a h.toNat (1 + 1 + 1))) (cvI (cellAt a h.toNat (1 + 1 + 1 + 1))) (cvS (cellAt a h.toNat (1 + 1 + 1 + 1 + 1))) (cvI (cellAt a h.toNat (1 + 1 + 1 + 1 + 1 + 1))) d then k0 a d h f h else g a d e f (w64 (h + 1)) else none else k1 a d e f h
def l2 {R : Type} (N : Nat) (k0 k1 : F_riiii R) : Nat -> F_riiii R
 | 0 => fun _ _ _ _ _ => none
 | n + 1 => r2 N (l2 N k0 k1 n) k0 k1
def b {R : Type} (N : Nat) (kr : Int -> Option R) (a : Row) (id1 : Int) : Option R := l2 N (fun _ _ d _ _ => kr d) (fun _ _ _ _ _ => kr (-1)) N a id1 0 (a.length : Int) 0
def vo := b Lib.big fun r0 => some r0
def c := fun a d => (vo a d).isSome
def v := fun a d => (vo a d).getD (0)
theorem out {x} : ∀ a d, vo a d = some x -> c a d = true /\ v a d = x := fun _ _ => Lib.out_
end Go.FG.U156a

namespace Go.FG.U93
def b {R : Type} (kr : Bool -> Option R) (a : Int) (d : ByteArray) (e f h : Int) (i : ByteArray) (j id1 : Int) : Option R := kr (decide (a = id1))
def v (a0 : Int) (a1 : ByteArray) (a2 a3 a4 : Int) (a5 : ByteArray) (a6 id1 : Int) : Bool := (decide (a0 = id1))
theorem b_eq {R : Type} (kr : Bool -> Option R) (a0 : Int) (a1 : ByteArray) (a2 a3 a4 : Int) (a5 : ByteArray) (a6 id1 : Int) : b kr a0 a1 a2 a3 a4 a5 a6 id1 = kr (v a0 a1 a2 a3 a4 a5 a6 id1) := by
 first | rfl | (unfold b v; simp only [Bool.cond_eq_ite]; (repeat' split) <;> rfl)
end Go.FG.U93

namespace Go.FG.U156b
def r2 {R : Type} (N : Nat) (g k0 k1 : F_riiii R) (a : Row) (d e f h : Int) : Option R := bif decide (h < f) then bif decide (0 <= h) && decide (h < (a.length : Int)) then bif U93.v (cvI (cellAt a h.toNat 0)) (cvS (cellAt a h.toNat 1)) (cvI (cellAt a h.toNat (1 + 1))) (cvI (cellAt a h.toNat (1 + 1 + 1))) (cvI (cellAt a h.toNat (1 + 1 + 1 + 1))) (cvS (cellAt a h.toNat (1 + 1 + 1 + 1 + 1))) (cvI (cellAt a h.toNat (1 + 1 + 1 + 1 + 1 + 1))) d then k0 a d h f h else g a d e f (w64 (h + 1)) else none else k1 a d e f h
def l2 {R : Type} (N : Nat) (k0 k1 : F_riiii R) : Nat -> F_riiii R
 | 0 => fun _ _ _ _ _ => none
 | n + 1 => r2 N (l2 N k0 k1 n) k0 k1
def b {R : Type} (N : Nat) (kr : Int -> Option R) (a : Row) (id1 : Int) : Option R := l2 N (fun _ _ d _ _ => kr d) (fun _ _ _ _ _ => kr (-1)) N a id1 0 (a.length : Int) 0
def vo := b Lib.big fun r0 => some r0
def c := fun a d => (vo a d).isSome
def v := fun a d => (vo a d).getD (0)
theorem out {x} : ∀ a d, vo a d = some x -> c a d = true /\ v a d = x := fun _ _ => Lib.out_
end Go.FG.U156b

namespace Go.FG.U65
def b {R : Type} (kr : Int -> Option R) (a : Int) (d e f h : Row) (i : Int) (j l : Row) (m o : Int) : Option R := bif U156a.c l o then kr (U156a.v l o) else none
def vo := b fun r0 => some r0
def c := fun a d e f h i j l m o => (vo a d e f h i j l m o).isSome
def v := fun a d e f h i j l m o => (vo a d e f h i j l m o).getD (0)
theorem out {x} : ∀ a d e f h i j l m o, vo a d e f h i j l m o = some x -> c a d e f h i j l m o = true /\ v a d e f h i j l m o = x := fun _ _ _ _ _ _ _ _ _ _ => Lib.out_
end Go.FG.U65

namespace Go.FG.U67
def b {R : Type} (kr : Bool -> Option R) (a : ByteArray) (d e : Int) (f key1 : ByteArray) : Option R := kr (List.beq (ByteArray.toList a) (ByteArray.toList key1))
def v (a0 : ByteArray) (a1 a2 : Int) (a3 key1 : ByteArray) : Bool := (List.beq (ByteArray.toList a0) (ByteArray.toList key1))
theorem b_eq {R : Type} (kr : Bool -> Option R) (a0 : ByteArray) (a1 a2 : Int) (a3 key1 : ByteArray) : b kr a0 a1 a2 a3 key1 = kr (v a0 a1 a2 a3 key1) := by
 first | rfl | (unfold b v; simp only [Bool.cond_eq_ite]; (repeat' split) <;> rfl)
end Go.FG.U67

namespace Go.FG.U66a
def r2 {R : Type} (N : Nat) (g k0 k1 : F_rsiii R) (a : Row) (d : ByteArray) (e f h : Int) : Option R := bif decide (h < f) then bif decide (0 <= h) && decide (h < (a.length : Int)) then bif U67.v (cvS (cellAt a h.toNat 0)) (cvI (cellAt a h.toNat 1)) (cvI (cellAt a h.toNat (1 + 1))) (cvS (cellAt a h.toNat (1 + 1 + 1))) d then k0 a d h f h else g a d e f (w64 (h + 1)) else none else k1 a d e f h
def l2 {R : Type} (N : Nat) (k0 k1 : F_rsiii R) : Nat -> F_rsiii R
 | 0 => fun _ _ _ _ _ => none
 | n + 1 => r2 N (l2 N k0 k1 n) k0 k1
def b {R : Type} (N : Nat) (kr : Int -> Option R) (a : Row) (key1 : ByteArray) : Option R := l2 N (fun _ _ d _ _ => kr d) (fun _ _ _ _ _ => kr (-1)) N a key1 0 (a.length : Int) 0
def vo := b Lib.big fun r0 => some r0
def c := fun a d => (vo a d).isSome
def v := fun a d => (vo a d).getD (0)
theorem out {x} : ∀ a d, vo a d = some x -> c a d = true /\ v a d = x := fun _ _ => Lib.out_
end Go.FG.U66a

namespace Go.FG.U167
def b {R : Type} (kr : Bool -> Option R) (a : ByteArray) (d e : Int) (f key1 : ByteArray) : Option R := kr (List.beq (ByteArray.toList a) (ByteArray.toList key1))
def v (a0 : ByteArray) (a1 a2 : Int) (a3 key1 : ByteArray) : Bool := (List.beq (ByteArray.toList a0) (ByteArray.toList key1))
theorem b_eq {R : Type} (kr : Bool -> Option R) (a0 : ByteArray) (a1 a2 : Int) (a3 key1 : ByteArray) : b kr a0 a1 a2 a3 key1 = kr (v a0 a1 a2 a3 key1) := by
 first | rfl | (unfold b v; simp only [Bool.cond_eq_ite]; (repeat' split) <;> rfl)
end Go.FG.U167

namespace Go.FG.U66b
def r2 {R : Type} (N : Nat) (g k0 k1 : F_rsiii R) (a : Row) (d : ByteArray) (e f h : Int) : Option R := bif decide (h < f) then bif decide (0 <= h) && decide (h < (a.length : Int)) then bif U167.v (cvS (cellAt a h.toNat 0)) (cvI (cellAt a h.toNat 1)) (cvI (cellAt a h.toNat (1 + 1))) (cvS (cellAt a h.toNat (1 + 1 + 1))) d then k0 a d h f h else g a d e f (w64 (h + 1)) else none else k1 a d e f h
def l2 {R : Type} (N : Nat) (k0 k1 : F_rsiii R) : Nat -> F_rsiii R
 | 0 => fun _ _ _ _ _ => none
 | n + 1 => r2 N (l2 N k0 k1 n) k0 k1
def b {R : Type} (N : Nat) (kr : Int -> Option R) (a : Row) (key1 : ByteArray) : Option R := l2 N (fun _ _ d _ _ => kr d) (fun _ _ _ _ _ => kr (-1)) N a key1 0 (a.length : Int) 0
def vo := b Lib.big fun r0 => some r0
def c := fun a d => (vo a d).isSome
def v := fun a d => (vo a d).getD (0)
theorem out {x} : ∀ a d, vo a d = some x -> c a d = true /\ v a d = x := fun _ _ => Lib.out_
end Go.FG.U66b

namespace Go.FG.U68
def b {R : Type} (kr : Bool -> Option R) (a : ByteArray) (d e : Int) (f : ByteArray) (h : Int) : Option R := bif U158.v a d e f then bif U100.v h then kr (U63.v h d (w64 (w64 (d + e) - 1))) else kr false else kr false
def v (a0 : ByteArray) (a1 a2 : Int) (a3 : ByteArray) (a4 : Int) : Bool := bif U158.v a0 a1 a2 a3 then bif U100.v a4 then U63.v a4 a1 (w64 (w64 (a1 + a2) - 1)) else false else false
theorem b_eq {R : Type} (kr : Bool -> Option R) (a0 : ByteArray) (a1 a2 : Int) (a3 : ByteArray) (a4 : Int) : b kr a0 a1 a2 a3 a4 = kr (v a0 a1 a2 a3 a4) := by
 first | rfl | (unfold b v; simp only [Bool.cond_eq_ite]; (repeat' split) <;> rfl)
end Go.FG.U68

namespace Go.FG.U253
def r6 {R : Type} (N : Nat) (g k0 : F_isii R) (a : Int) (d : ByteArray) (e f : Int) : Option R := bif decide (f < 8) then bif decide (Int.tmod a 2 = 1) then g (IntKind.wrap IntKind.u32 (↑(BitVec.toNat (BitVec.xor (BitVec.ofInt 32 (IntKind.wrap IntKind.u32 (Int.tdiv a 2))) (BitVec.ofInt 32 3558460437))) : Int)) d e (w64 (f + 1)) else g (IntKind.wrap IntKind.u32 (Int.tdiv a 2)) d e (w64 (f + 1)) else k0 a d e f
def l6 {R : Type} (N : Nat) (k0 : F_isii R) : Nat -> F_isii R
 | 0 => fun _ _ _ _ => none
 | n + 1 => r6 N (l6 N k0 n) k0
def r2 {R : Type} (N : Nat) (g k0 : F_isi R) (a : Int) (d : ByteArray) (e : Int) : Option R := bif decide (e < (d.size : Int)) then bif decide (0 <= e) && decide (e < (d.size : Int)) then l6 N (fun f h i _ => g f h (w64 (i + 1))) N (IntKind.wrap IntKind.u32 (↑(BitVec.toNat (BitVec.xor (BitVec.ofInt 32 a) (BitVec.ofInt 32 (IntKind.wrap IntKind.u32 (↑(btN d e.toNat) : Int))))) : Int)) d e 0 else none else k0 a d e
def l2 {R : Type} (N : Nat) (k0 : F_isi R) : Nat -> F_isi R
 | 0 => fun _ _ _ => none
 | n + 1 => r2 N (l2 N k0 n) k0
def b {R : Type} (N : Nat) (kr : Int -> Option R) (a : Int) (d : ByteArray) : Option R := l2 N (fun e _ _ => kr e) N a d 0
def vo := b Lib.big fun r0 => some r0
def c := fun a d => (vo a d).isSome
def v := fun a d => (vo a d).getD (0)
theorem out {x} : ∀ a d, vo a d = some x -> c a d = true /\ v a d = x := fun _ _ => Lib.out_
end Go.FG.U253

namespace Go.FG.U224
def b {R : Type} (kr : Int -> Option R) (a : ByteArray) : Option R := bif U253.c 4294967295 a then kr (U253.v 4294967295 a) else none
def vo := b fun r0 => some r0
def c := fun a => (vo a).isSome
def v := fun a => (vo a).getD (0)
theorem out {x} : ∀ a, vo a = some x -> c a = true /\ v a = x := fun _ => Lib.out_
end Go.FG.U224

namespace Go.FG.U170
def b {R : Type} (kr : Int -> Option R) (a : Int) (d : ByteArray) : Option R := bif decide (d.size + (bytesOf (List.set (zeros [Ck.i IntKind.u8] 1) 0 [CV.i IntKind.u8 (IntKind.wrap IntKind.u8 (w64 (↑(BitVec.toNat (BitVec.and (BitVec.ofInt 64 a) (BitVec.ofInt 64 255))) : Int)))])).size <= 4611686018427387904) then bif U224.c (d ++ bytesOf (List.set (zeros [Ck.i IntKind.u8] 1) 0 [CV.i IntKind.u8 (IntKind.wrap IntKind.u8 (w64 (↑(BitVec.toNat (BitVec.and (BitVec.ofInt 64 a) (BitVec.ofInt 64 255))) : Int)))])) then kr (Int.tmod (w64 (U224.v (d ++ bytesOf (List.set (zeros [Ck.i IntKind.u8] 1) 0 [CV.i IntKind.u8 (IntKind.wrap IntKind.u8 (w64 (↑(BitVec.toNat (BitVec.and (BitVec.ofInt 64 a) (BitVec.ofInt 64 255))) : Int)))])))) 16) else none else none
def vo := b fun r0 => some r0
def c := fun a d => (vo a d).isSome
def v := fun a d => (vo a d).getD (0)
theorem out {x} : ∀ a d, vo a d = some x -> c a d = true /\ v a d = x := fun _ _ => Lib.out_
end Go.FG.U170

namespace Go.FG.U74
def r18 {R : Type} (N : Nat) (g k0 : F_niiiiiir R) (a : Nat) (d e f h i j : Int) (l : Row) : Option R := bif decide (h < f) then bif decide (0 <= h) && decide (h < ((cvL (cellAt l a 0)).length : Int)) then bif decide (0 <= h) && decide (h < ((cvL (cellAt l a 0)).length : Int)) then g a d e f (w64 (h + 1)) i j (setC l a 0 [CV.l 3 (setC (cvL (cellAt l a 0)) h.toNat 0 [.i .i64 (w64 (Int.tdiv (cvI (cellAt (cvL (cellAt l a 0)) h.toNat 0)) 2))])]) else none else none else k0 a d e f h i j l
def l18 {R : Type} (N : Nat) (k0 : F_niiiiiir R) : Nat -> F_niiiiiir R
 | 0 => fun _ _ _ _ _ _ _ _ => none
 | n + 1 => r18 N (l18 N k0 n) k0
def r15 {R : Type} (N : Nat) (g k0 : F_iiiir R) (a d e f : Int) (h : Row) : Option R := bif decide (d < a) then bif decide (0 <= d) && decide (d < (h.length : Int)) then l18 N (fun _ i j _ _ l m o => g i (w64 (j + 1)) l m o) N d.toNat a d ((cvL (cellAt h d.toNat 0)).length : Int) 0 e f h else none else k0 a d e f h
def l15 {R : Type} (N : Nat) (k0 : F_iiiir R) : Nat -> F_iiiir R
 | 0 => fun _ _ _ _ _ => none
 | n + 1 => r15 N (l15 N k0 n) k0
def r5 {R : Type} (N : Nat) (g k0 : F_siiiir R) (a : ByteArray) (d e f h : Int) (i : Row) : Option R := bif decide (e < d) then bif decide (0 <= e) && decide (e < (i.length : Int)) then bif U170.c e a then bif decide (0 <= U170.v e a) && decide (U170.v e a < ((cvL (cellAt i e.toNat 0)).length : Int)) then bif decide (0 <= U170.v e a) && decide (U170.v e a < ((cvL (cellAt i e.toNat 0)).length : Int)) then g a d (w64 (e + 1)) f h (setC i e.toNat 0 [CV.l 3 (setC (cvL (cellAt i e.toNat 0)) (U170.v e a).toNat 0 [.i .i64 (minmax false (w64 (cvI (cellAt (cvL (cellAt i e.toNat 0)) (U170.v e a).toNat 0) + 1)) 15)])]) else none else none else none else none else k0 a d e f h i
def l5 {R : Type} (N : Nat) (k0 : F_siiiir R) : Nat -> F_siiiir R
 | 0 => fun _ _ _ _ _ _ => none
 | n + 1 => r5 N (l5 N k0 n) k0
def b {R : Type} (N : Nat) (kr : F_ri R) (a : Row) (d : Int) (e : ByteArray) : Option R := bif U168.c a d then bif U169.c a d then bif !U169.v a d then kr (U168.v a d).1 (U168.v a d).2 else l5 N (fun _ _ _ f h i => bif decide (w64 (h + 1) < 64) then kr i (w64 (h + 1)) else l15 N (fun _ _ _ j l => kr l j) N (i.length : Int) 0 f 0 i) N e ((U168.v a d).1.length : Int) 0 0 (U168.v a d).2 (U168.v a d).1 else none else none
def vo := b Lib.big fun r0 r1 => some (r0, r1)
def c := fun a d e => (vo a d e).isSome
def v := fun a d e => (vo a d e).getD ([], 0)
theorem out {x} : ∀ a d e, vo a d e = some x -> c a d e = true /\ v a d e = x := fun _ _ _ => Lib.out_
end Go.FG.U74

namespace Go.FG.U220
def b {R : Type} (kr : Bool -> Option R) (a key1 : ByteArray) : Option R := kr (List.beq (ByteArray.toList a) (ByteArray.toList key1))
def v (a0 key1 : ByteArray) : Bool := (List.beq (ByteArray.toList a0) (ByteArray.toList key1))
theorem b_eq {R : Type} (kr : Bool -> Option R) (a0 key1 : ByteArray) : b kr a0 key1 = kr (v a0 key1) := by
 first | rfl | (unfold b v; simp only [Bool.cond_eq_ite]; (repeat' split) <;> rfl)
end Go.FG.U220

namespace Go.FG.U251
def r2 {R : Type} (N : Nat) (g k0 k1 : F_rsiii R) (a : Row) (d : ByteArray) (e f h : Int) : Option R := bif decide (h < f) then bif decide (0 <= h) && decide (h < (a.length : Int)) then bif U220.v (cvS (cellAt a h.toNat 0)) d then k0 a d h f h else g a d e f (w64 (h + 1)) else none else k1 a d e f h
def l2 {R : Type} (N : Nat) (k0 k1 : F_rsiii R) : Nat -> F_rsiii R
 | 0 => fun _ _ _ _ _ => none
 | n + 1 => r2 N (l2 N k0 k1 n) k0 k1
def b {R : Type} (N : Nat) (kr : Int -> Option R) (a : Row) (key1 : ByteArray) : Option R := l2 N (fun _ _ d _ _ => kr d) (fun _ _ _ _ _ => kr (-1)) N a key1 0 (a.length : Int) 0
def vo := b Lib.big fun r0 => some r0
def c := fun a d => (vo a d).isSome
def v := fun a d => (vo a d).getD (0)
theorem out {x} : ∀ a d, vo a d = some x -> c a d = true /\ v a d = x := fun _ _ => Lib.out_
end Go.FG.U251

namespace Go.FG.U219
def r5 {R : Type} (N : Nat) (g k0 : F_siir R) (a : ByteArray) (d e : Int) (f : Row) : Option R := bif decide (e < (f.length : Int)) then bif decide (0 <= e) && decide (e < (f.length : Int)) then bif !U220.v (cvS (cellAt f e.toNat 0)) a then bif decide (0 <= d) && decide (d < (f.length : Int)) then g a (w64 (d + 1)) (w64 (e + 1)) (setC f d.toNat 0 [.s (cvS (cellAt f e.toNat 0))]) else none else g a d (w64 (e + 1)) f else none else k0 a d e f
def l5 {R : Type} (N : Nat) (k0 : F_siir R) : Nat -> F_siir R
 | 0 => fun _ _ _ _ => none
 | n + 1 => r5 N (l5 N k0 n) k0
def b {R : Type} (N : Nat) (kr : Row -> Option R) (a : Row) (key1 : ByteArray) : Option R := bif U251.c a key1 then bif decide (U251.v a key1 = Int.neg 1) then kr a else l5 N (fun _ d _ e => bif inB d (e.length : Int) (e.length : Int) then bif inB 0 d ((List.take d.toNat e ++ zeros [.s] ((e.length : Int).toNat - d.toNat) ++ List.drop (e.length : Int).toNat e).length : Int) then kr (view (List.take d.toNat e ++ zeros [.s] ((e.length : Int).toNat - d.toNat) ++ List.drop (e.length : Int).toNat e) (Int.toNat 0) d.toNat) else none else none) N key1 (U251.v a key1) (w64 (U251.v a key1 + 1)) a else none
def vo := b Lib.big fun r0 => some r0
def c := fun a d => (vo a d).isSome
def v := fun a d => (vo a d).getD ([])
theorem out {x} : ∀ a d, vo a d = some x -> c a d = true /\ v a d = x := fun _ _ => Lib.out_
end Go.FG.U219

namespace Go.FG.U161
def b {R : Type} (kr : Row -> Option R) (a : Row) (d : ByteArray) : Option R := bif U217.c a then bif U219.c (U217.v a) d then kr (U219.v (U217.v a) d) else none else none
def vo := b fun r0 => some r0
def c := fun a d => (vo a d).isSome
def v := fun a d => (vo a d).getD ([])
theorem out {x} : ∀ a d, vo a d = some x -> c a d = true /\ v a d = x := fun _ _ => Lib.out_
end Go.FG.U161

namespace Go.FG.U162
def r5 {R : Type} (N : Nat) (g k0 : F_sirii R) (a : ByteArray) (d : Int) (e : Row) (f h : Int) : Option R := bif decide (h < f) then bif decide (0 <= h) && decide (h < (e.length : Int)) then bif U170.c h a then bif decide (0 <= U170.v h a) && decide (U170.v h a < ((cvL (cellAt e h.toNat 0)).length : Int)) then g a (minmax false d (cvI (cellAt (cvL (cellAt e h.toNat 0)) (U170.v h a).toNat 0))) e f (w64 (h + 1)) else none else none else none else k0 a d e f h
def l5 {R : Type} (N : Nat) (k0 : F_sirii R) : Nat -> F_sirii R
 | 0 => fun _ _ _ _ _ => none
 | n + 1 => r5 N (l5 N k0 n) k0
def b {R : Type} (N : Nat) (kr : Int -> Option R) (a : Row) (d : Int) (e : ByteArray) : Option R := bif U169.c a d then bif !U169.v a d then kr 0 else l5 N (fun _ f _ _ _ => kr f) N e 15 a (a.length : Int) 0 else none
def vo := b Lib.big fun r0 => some r0
def c := fun a d e => (vo a d e).isSome
def v := fun a d e => (vo a d e).getD (0)
theorem out {x} : ∀ a d e, vo a d e = some x -> c a d e = true /\ v a d e = x := fun _ _ _ => Lib.out_
end Go.FG.U162

namespace Go.FG.U69
def b {R : Type} (kr : F_rrris R) (a d e : Row) (f : Int) (h : ByteArray) : Option R := bif U155.c a d e f then bif U159.c a d e f then bif !U159.v a d e f then kr (U155.v a d e f).1 (U155.v a d e f).2.1 (U155.v a d e f).2.2.1 (U155.v a d e f).2.2.2 ⟨#[]⟩ else bif !U64.v h then kr (U155.v a d e f).1 (U155.v a d e f).2.1 (U155.v a d e f).2.2.1 (U155.v a d e f).2.2.2 ⟨#[]⟩ else bif U74.c e f h then bif U160.c d h then bif U160.v d h then bif U161.c d h then bif roomy ((U161.v d h).length + (List.set (zeros [.s] 1) 0 [.s h]).length) 16 then kr (U155.v a d e f).1 (U161.v d h ++ List.set (zeros [.s] 1) 0 [.s h]) (U74.v e f h).1 (U74.v e f h).2 ⟨#[]⟩ else none else none else bif U161.c a h then bif roomy ((U161.v a h).length + (List.set (zeros [.s] 1) 0 [.s h]).length) 16 then bif decide (((U161.v a h ++ List.set (zeros [.s] 1) 0 [.s h]).length : Int) <= 2) then kr (U161.v a h ++ List.set (zeros [.s] 1) 0 [.s h]) (U155.v a d e f).2.1 (U74.v e f h).1 (U74.v e f h).2 ⟨#[]⟩ else bif decide (0 < ((U161.v a h ++ List.set (zeros [.s] 1) 0 [.s h]).length : Int)) then bif inB 1 ((U161.v a h ++ List.set (zeros [.s] 1) 0 [.s h]).length : Int) ((U161.v a h ++ List.set (zeros [.s] 1) 0 [.s h]).length : Int) then bif decide (((U155.v a d e f).2.1.length : Int) < 4) then bif roomy ((U155.v a d e f).2.1.length + (List.set (zeros [.s] 1) 0 [.s (cvS (cellAt (U161.v a h ++ List.set (zeros [.s] 1) 0 [.s h]) (Int.toNat 0) 0))]).length) 16 then kr (view (U161.v a h ++ List.set (zeros [.s] 1) 0 [.s h]) (Int.toNat 1) ((U161.v a h ++ List.set (zeros [.s] 1) 0 [.s h]).length : Int).toNat) ((U155.v a d e f).2.1 ++ List.set (zeros [.s] 1) 0 [.s (cvS (cellAt (U161.v a h ++ List.set (zeros [.s] 1) 0 [.s h]) (Int.toNat 0) 0))]) (U74.v e f h).1 (U74.v e f h).2 ⟨#[]⟩ else none else bif decide (0 < ((U155.v a d e f).2.1.length : Int)) then bif U162.c (U74.v e f h).1 (U74.v e f h).2 (cvS (cellAt (U161.v a h ++ List.set (zeros [.s] 1) 0 [.s h]) (Int.toNat 0) 0)) then bif U162.c (U74.v e f h).1 (U74.v e f h).2 (cvS (cellAt (U155.v a d e f).2.1 (Int.toNat 0) 0)) then bif decide (U162.v (U74.v e f h).1 (U74.v e f h).2 (cvS (cellAt (U161.v a h ++ List.set (zeros [.s] 1) 0 [.s h]) (Int.toNat 0) 0)) > U162.v (U74.v e f h).1 (U74.v e f h).2 (cvS (cellAt (U155.v a d e f).2.1 (Int.toNat 0) 0))) then bif inB 1 ((U155.v a d e f).2.1.length : Int) ((U155.v a d e f).2.1.length : Int) then bif roomy ((view (U155.v a d e f).2.1 (Int.toNat 1) ((U155.v a d e f).2.1.length : Int).toNat).length + (List.set (zeros [.s] 1) 0 [.s (cvS (cellAt (U161.v a h ++ List.set (zeros [.s] 1) 0 [.s h]) (Int.toNat 0) 0))]).length) 16 then kr (view (U161.v a h ++ List.set (zeros [.s] 1) 0 [.s h]) (Int.toNat 1) ((U161.v a h ++ List.set (zeros [.s] 1) 0 [.s h]).length : Int).toNat) (view (U155.v a d e f).2.1 (Int.toNat 1) ((U155.v a d e f).2.1.length : Int).toNat ++ List.set (zeros [.s] 1) 0 [.s (cvS (cellAt (U161.v a h ++ List.set (zeros [.s] 1) 0 [.s h]) (Int.toNat 0) 0))]) (U74.v e f h).1 (U74.v e f h).2 (cvS (cellAt (U155.v a d e f).2.1 (Int.toNat 0) 0)) else none else none else kr (view (U161.v a h ++ List.set (zeros [.s] 1) 0 [.s h]) (Int.toNat 1) ((U161.v a h ++ List.set (zeros [.s] 1) 0 [.s h]).length : Int).toNat) (U155.v a d e f).2.1 (U74.v e f h).1 (U74.v e f h).2 (cvS (cellAt (U161.v a h ++ List.set (zeros [.s] 1) 0 [.s h]) (Int.toNat 0) 0)) else none else none else none else none else none else none else none else none else none else none else none
def vo := b fun r0 r1 r2 r3 r4 => some (r0, r1, r2, r3, r4)
def c := fun a d e f h => (vo a d e f h).isSome
def v := fun a d e f h => (vo a d e f h).getD ([], [], [], 0, ⟨#[]⟩)
theorem out {x} : ∀ a d e f h, vo a d e f h = some x -> c a d e f h = true /\ v a d e f h = x := fun _ _ _ _ _ => Lib.out_
end Go.FG.U69


namespace Go.FG.U70
def r2 {R : Type} (N : Nat) (g k0 : F_iiiiisiiisirrrrrr R) (a d e f h : Int) (i : ByteArray) (j l m : Int) (o : ByteArray) (p : Int) (q r s t u w : Row) : Option R := bif decide (a < (w.length : Int)) then bif decide (0 <= a) && decide (a < (w.length : Int)) then bif decide (cvI (cellAt w a.toNat 0) < h) then g (w64 (a + 1)) d e f h i j l m o p q r s t u w else k0 a d e f h i j l m o p q r s t u w else none else k0 a d e f h i j l m o p q r s t u w
def l2 {R : Type} (N : Nat) (k0 : F_iiiiisiiisirrrrrr R) : Nat -> F_iiiiisiiisirrrrrr R
 | 0 => fun _ _ _ _ _ _ _ _ _ _ _ _ _ _ _ _ _ => none
 | n + 1 => r2 N (l2 N k0 n) k0
def b {R : Type} (N : Nat) (kr : F_irrrrirri R) (a : Int) (d e f h : Row) (i : Int) (j l : Row) (m o : Int) (p : ByteArray) (q r s : Int) (t : ByteArray) (u : Int) : Option R := l2 N (fun w y z α xa xb xc xd xe xf xg xh xi xj xk xl xm => bif decide (0 <= w) && decide (w <= (xm.length : Int)) && roomy (xm.length + (List.set (zeros [Ck.i IntKind.i64, Ck.s, Ck.i IntKind.i64, Ck.i IntKind.i64, Ck.i IntKind.i64, Ck.s, Ck.i IntKind.i64] 1) 0 [.i .i64 xa, .s xb, .i .i64 xc, .i .i64 xd, .i .i64 xe, .s xf, .i .i64 xg]).length) 72 then kr y xh xi xj xk z xl (Pu.insR xm w.toNat (List.set (zeros [Ck.i IntKind.i64, Ck.s, Ck.i IntKind.i64, Ck.i IntKind.i64, Ck.i IntKind.i64, Ck.s, Ck.i IntKind.i64] 1) 0 [.i .i64 xa, .s xb, .i .i64 xc, .i .i64 xd, .i .i64 xe, .s xf, .i .i64 xg])) α else none) N 0 a i m o p q r s t u d e f h j l
def vo := b Lib.big fun r0 r1 r2 r3 r4 r5 r6 r7 r8 => some (r0, r1, r2, r3, r4, r5, r6, r7, r8)
def c := fun a d e f h i j l m o p q r s t u => (vo a d e f h i j l m o p q r s t u).isSome
def v := fun a d e f h i j l m o p q r s t u => (vo a d e f h i j l m o p q r s t u).getD (0, [], [], [], [], 0, [], [], 0)
theorem out {x} : ∀ a d e f h i j l m o p q r s t u, vo a d e f h i j l m o p q r s t u = some x -> c a d e f h i j l m o p q r s t u = true /\ v a d e f h i j l m o p q r s t u = x := fun _ _ _ _ _ _ _ _ _ _ _ _ _ _ _ _ => Lib.out_
end Go.FG.U70

namespace Go.FG.U166
def r5 {R : Type} (N : Nat) (g k0 : F_siir R) (a : ByteArray) (d e : Int) (f : Row) : Option R := bif decide (e < (f.length : Int)) then bif decide (0 <= e) && decide (e < (f.length : Int)) then bif !U167.v (cvS (cellAt f e.toNat 0)) (cvI (cellAt f e.toNat 1)) (cvI (cellAt f e.toNat (1 + 1))) (cvS (cellAt f e.toNat (1 + 1 + 1))) a then bif decide (0 <= d) && decide (d < (f.length : Int)) then g a (w64 (d + 1)) (w64 (e + 1)) (setC f d.toNat 0 [.s (cvS (cellAt f e.toNat 0)), .i .i64 (cvI (cellAt f e.toNat 1)), .i .i64 (cvI (cellAt f e.toNat (1 + 1))), .s (cvS (cellAt f e.toNat (1 + 1 + 1)))]) else none else g a d (w64 (e + 1)) f else none else k0 a d e f
def l5 {R : Type} (N : Nat) (k0 : F_siir R) : Nat -> F_siir R
 | 0 => fun _ _ _ _ => none
 | n + 1 => r5 N (l5 N k0 n) k0
def b {R : Type} (N : Nat) (kr : Row -> Option R) (a : Row) (key1 : ByteArray) : Option R := bif U66b.c a key1 then bif decide (U66b.v a key1 = Int.neg 1) then kr a else l5 N (fun _ d _ e => bif inB d (e.length : Int) (e.length : Int) then bif inB 0 d ((List.take d.toNat e ++ zeros [Ck.s, Ck.i IntKind.i64, Ck.i IntKind.i64, Ck.s] ((e.length : Int).toNat - d.toNat) ++ List.drop (e.length : Int).toNat e).length : Int) then kr (view (List.take d.toNat e ++ zeros [Ck.s, Ck.i IntKind.i64, Ck.i IntKind.i64, Ck.s] ((e.length : Int).toNat - d.toNat) ++ List.drop (e.length : Int).toNat e) (Int.toNat 0) d.toNat) else none else none) N key1 (U66b.v a key1) (w64 (U66b.v a key1 + 1)) a else none
def vo := b Lib.big fun r0 => some r0
def c := fun a d => (vo a d).isSome
def v := fun a d => (vo a d).getD ([])
theorem out {x} : ∀ a d, vo a d = some x -> c a d = true /\ v a d = x := fun _ _ => Lib.out_
end Go.FG.U166

namespace Go.FG.U72
def b {R : Type} (kr : Row -> Option R) (a : Row) (d : ByteArray) : Option R := bif U154.c a then bif U166.c (U154.v a) d then kr (U166.v (U154.v a) d) else none else none
def vo := b fun r0 => some r0
def c := fun a d => (vo a d).isSome
def v := fun a d => (vo a d).getD ([])
theorem out {x} : ∀ a d, vo a d = some x -> c a d = true /\ v a d = x := fun _ _ => Lib.out_
end Go.FG.U72

namespace Go.FG.U73
def b {R : Type} (kr : F_rrri R) (a d e : Row) (f : Int) (h : ByteArray) : Option R := bif U155.c a d e f then bif U161.c a h then bif U161.c d h then kr (U161.v a h) (U161.v d h) (U155.v a d e f).2.2.1 (U155.v a d e f).2.2.2 else none else none else none
def vo := b fun r0 r1 r2 r3 => some (r0, r1, r2, r3)
def c := fun a d e f h => (vo a d e f h).isSome
def v := fun a d e f h => (vo a d e f h).getD ([], [], [], 0)
theorem out {x} : ∀ a d e f h, vo a d e f h = some x -> c a d e f h = true /\ v a d e f h = x := fun _ _ _ _ _ => Lib.out_
end Go.FG.U73

namespace Go.FG.U11
def b {R : Type} (kr : F_irrrrirrii R) (a : Int) (d e f h : Row) (i : Int) (j l : Row) (m o : Int) (p : ByteArray) : Option R := bif U62.c a d e f h i j l m then Lib.lt (U62.v a d e f h i j l m) fun q => bif U25.c a d e f h i j l m then Lib.lt (U25.v a d e f h i j l m) fun r => bif !r then kr q.1 q.2.1 q.2.2.1 q.2.2.2.1 q.2.2.2.2.1 q.2.2.2.2.2.1 q.2.2.2.2.2.2.1 q.2.2.2.2.2.2.2.1 q.2.2.2.2.2.2.2.2 1 else bif !U63.v o 1 9 then kr q.1 q.2.1 q.2.2.1 q.2.2.2.1 q.2.2.2.2.1 q.2.2.2.2.2.1 q.2.2.2.2.2.2.1 q.2.2.2.2.2.2.2.1 q.2.2.2.2.2.2.2.2 1 else bif !U64.v p then kr q.1 q.2.1 q.2.2.1 q.2.2.2.1 q.2.2.2.2.1 q.2.2.2.2.2.1 q.2.2.2.2.2.2.1 q.2.2.2.2.2.2.2.1 q.2.2.2.2.2.2.2.2 1 else bif U65.c a d e f h i j l m o then Lib.lt (U65.v a d e f h i j l m o) fun s => bif decide (s ≥ 0) then kr q.1 q.2.1 q.2.2.1 q.2.2.2.1 q.2.2.2.2.1 q.2.2.2.2.2.1 q.2.2.2.2.2.2.1 q.2.2.2.2.2.2.2.1 q.2.2.2.2.2.2.2.2 1 else bif decide ((l.length : Int) = 6) then kr q.1 q.2.1 q.2.2.1 q.2.2.2.1 q.2.2.2.2.1 q.2.2.2.2.2.1 q.2.2.2.2.2.2.1 q.2.2.2.2.2.2.2.1 q.2.2.2.2.2.2.2.2 1 else bif U66a.c d p then Lib.lt (U66a.v d p) fun t => bif decide (t ≥ 0) then bif decide (0 <= t) && decide (t < (d.length : Int)) then bif U68.v (cvS (cellAt d t.toNat 0)) (cvI (cellAt d t.toNat 1)) (cvI (cellAt d t.toNat (1 + 1))) (cvS (cellAt d t.toNat (1 + 1 + 1))) a then bif decide (0 <= t) && decide (t < (d.length : Int)) then bif U69.c e f h i p then Lib.lt (U69.v e f h i p) fun u => bif U70.c q.1 q.2.1 u.1 u.2.1 u.2.2.1 u.2.2.2.1 q.2.2.2.2.2.2.1 q.2.2.2.2.2.2.2.1 q.2.2.2.2.2.2.2.2 o p 0 (cvI (cellAt d t.toNat 1)) 2 (cvS (cellAt d t.toNat (1 + 1 + 1))) (w64 (a - cvI (cellAt d t.toNat 1))) then Lib.lt (U70.v q.1 q.2.1 u.1 u.2.1 u.2.2.1 u.2.2.2.1 q.2.2.2.2.2.2.1 q.2.2.2.2.2.2.2.1 q.2.2.2.2.2.2.2.2 o p 0 (cvI (cellAt d t.toNat 1)) 2 (cvS (cellAt d t.toNat (1 + 1 + 1))) (w64 (a - cvI (cellAt d t.toNat 1)))) fun w => kr w.1 w.2.1 w.2.2.1 w.2.2.2.1 w.2.2.2.2.1 w.2.2.2.2.2.1 w.2.2.2.2.2.2.1 w.2.2.2.2.2.2.2.1 (minmax false (w64 (m + 1)) 1000000000) 0 else none else none else none else bif U71.c a d e f h i j l m p then Lib.lt (U71.v a d e f h i j l m p) fun y => bif decide (y < 0) then bif decide ((j.length : Int) = 20) then kr q.1 q.2.1 q.2.2.1 q.2.2.2.1 q.2.2.2.2.1 q.2.2.2.2.2.1 q.2.2.2.2.2.2.1 q.2.2.2.2.2.2.2.1 q.2.2.2.2.2.2.2.2 2 else bif decide (t ≥ 0) then bif U72.c d p then Lib.lt (U72.v d p) fun z => bif U73.c e f h i p then Lib.lt (U73.v e f h i p) fun α => bif U74.c h i p then Lib.lt (U74.v h i p) fun xa => bif decide (y < 0) then bif roomy (q.2.2.2.2.2.2.1.length + (List.set (zeros [Ck.s, Ck.s, Ck.i IntKind.i64, Ck.i IntKind.i64, Ck.i IntKind.i64] 1) 0 [.s p, .s ⟨#[]⟩, .i .i64 1, .i .i64 0, .i .i64 0]).length) 56 then bif decide ((j.length : Int) < ((q.2.2.2.2.2.2.1 ++ List.set (zeros [Ck.s, Ck.s, Ck.i IntKind.i64, Ck.i IntKind.i64, Ck.i IntKind.i64] 1) 0 [.s p, .s ⟨#[]⟩, .i .i64 1, .i .i64 0, .i .i64 0]).length : Int)) then bif U70.c q.1 z α.1 α.2.1 xa.1 xa.2 (q.2.2.2.2.2.2.1 ++ List.set (zeros [Ck.s, Ck.s, Ck.i IntKind.i64, Ck.i IntKind.i64, Ck.i IntKind.i64] 1) 0 [.s p, .s ⟨#[]⟩, .i .i64 1, .i .i64 0, .i .i64 0]) q.2.2.2.2.2.2.2.1 q.2.2.2.2.2.2.2.2 o p (w64 ((j.length : Int) + 1)) 0 1 (cvS (cellAt (q.2.2.2.2.2.2.1 ++ List.set (zeros [Ck.s, Ck.s, Ck.i IntKind.i64, Ck.i IntKind.i64, Ck.i IntKind.i64] 1) 0 [.s p, .s ⟨#[]⟩, .i .i64 1, .i .i64 0, .i .i64 0]) (j.length : Int).toNat 1)) 0 then Lib.lt (U70.v q.1 z α.1 α.2.1 xa.1 xa.2 (q.2.2.2.2.2.2.1 ++ List.set (zeros [Ck.s, Ck.s, Ck.i IntKind.i64, Ck.i IntKind.i64, Ck.i IntKind.i64] 1) 0 [.s p, .s ⟨#[]⟩, .i .i64 1, .i .i64 0, .i .i64 0]) q.2.2.2.2.2.2.2.1 q.2.2.2.2.2.2.2.2 o p (w64 ((j.length : Int) + 1)) 0 1 (cvS (cellAt (q.2.2.2.2.2.2.1 ++ List.set (zeros [Ck.s, Ck.s, Ck.i IntKind.i64, Ck.i IntKind.i64, Ck.i IntKind.i64] 1) 0 [.s p, .s ⟨#[]⟩, .i .i64 1, .i .i64 0, .i .i64 0]) (j.length : Int).toNat 1)) 0) fun xb => kr xb.1 xb.2.1 xb.2.2.1 xb.2.2.2.1 xb.2.2.2.2.1 xb.2.2.2.2.2.1 xb.2.2.2.2.2.2.1 xb.2.2.2.2.2.2.2.1 xb.2.2.2.2.2.2.2.2 0 else none else none else none else bif decide (0 <= y) && decide (y < (q.2.2.2.2.2.2.1.length : Int)) then bif U70.c q.1 z α.1 α.2.1 xa.1 xa.2 q.2.2.2.2.2.2.1 q.2.2.2.2.2.2.2.1 q.2.2.2.2.2.2.2.2 o p (w64 (y + 1)) 0 1 (cvS (cellAt q.2.2.2.2.2.2.1 y.toNat 1)) 0 then Lib.lt (U70.v q.1 z α.1 α.2.1 xa.1 xa.2 q.2.2.2.2.2.2.1 q.2.2.2.2.2.2.2.1 q.2.2.2.2.2.2.2.2 o p (w64 (y + 1)) 0 1 (cvS (cellAt q.2.2.2.2.2.2.1 y.toNat 1)) 0) fun xc => kr xc.1 xc.2.1 xc.2.2.1 xc.2.2.2.1 xc.2.2.2.2.1 xc.2.2.2.2.2.1 xc.2.2.2.2.2.2.1 xc.2.2.2.2.2.2.2.1 xc.2.2.2.2.2.2.2.2 0 else none else none else none else none else none else bif U74.c h i p then Lib.lt (U74.v h i p) fun xd => bif decide (y < 0) then bif roomy (q.2.2.2.2.2.2.1.length + (List.set (zeros [Ck.s, Ck.s, Ck.i IntKind.i64, Ck.i IntKind.i64, Ck.i IntKind.i64] 1) 0 [.s p, .s ⟨#[]⟩, .i .i64 1, .i .i64 0, .i .i64 0]).length) 56 then bif decide ((j.length : Int) < ((q.2.2.2.2.2.2.1 ++ List.set (zeros [Ck.s, Ck.s, Ck.i IntKind.i64, Ck.i IntKind.i64, Ck.i IntKind.i64] 1) 0 [.s p, .s ⟨#[]⟩, .i .i64 1, .i .i64 0, .i .i64 0]).length : Int)) then bif U70.c q.1 q.2.1 q.2.2.1 q.2.2.2.1 xd.1 xd.2 (q.2.2.2.2.2.2.1 ++ List.set (zeros [Ck.s, Ck.s, Ck.i IntKind.i64, Ck.i IntKind.i64, Ck.i IntKind.i64] 1) 0 [.s p, .s ⟨#[]⟩, .i .i64 1, .i .i64 0, .i .i64 0]) q.2.2.2.2.2.2.2.1 q.2.2.2.2.2.2.2.2 o p (w64 ((j.length : Int) + 1)) 0 1 (cvS (cellAt (q.2.2.2.2.2.2.1 ++ List.set (zeros [Ck.s, Ck.s, Ck.i IntKind.i64, Ck.i IntKind.i64, Ck.i IntKind.i64] 1) 0 [.s p, .s ⟨#[]⟩, .i .i64 1, .i .i64 0, .i .i64 0]) (j.length : Int).toNat 1)) 0 then Lib.lt (U70.v q.1 q.2.1 q.2.2.1 q.2.2.2.1 xd.1 xd.2 (q.2.2.2.2.2.2.1 ++ List.set (zeros [Ck.s, Ck.s, Ck.i IntKind.i64, Ck.i IntKind.i64, Ck.i IntKind.i64] 1) 0 [.s p, .s ⟨#[]⟩, .i .i64 1, .i .i64 0, .i .i64 0]) q.2.2.2.2.2.2.2.1 q.2.2.2.2.2.2.2.2 o p (w64 ((j.length : Int) + 1)) 0 1 (cvS (cellAt (q.2.2.2.2.2.2.1 ++ List.set (zeros [Ck.s, Ck.s, Ck.i IntKind.i64, Ck.i IntKind.i64, Ck.i IntKind.i64] 1) 0 [.s p, .s ⟨#[]⟩, .i .i64 1, .i .i64 0, .i .i64 0]) (j.length : Int).toNat 1)) 0) fun xe => kr xe.1 xe.2.1 xe.2.2.1 xe.2.2.2.1 xe.2.2.2.2.1 xe.2.2.2.2.2.1 xe.2.2.2.2.2.2.1 xe.2.2.2.2.2.2.2.1 xe.2.2.2.2.2.2.2.2 0 else none else none else none else bif decide (0 <= y) && decide (y < (q.2.2.2.2.2.2.1.length : Int)) then bif U70.c q.1 q.2.1 q.2.2.1 q.2.2.2.1 xd.1 xd.2 q.2.2.2.2.2.2.1 q.2.2.2.2.2.2.2.1 q.2.2.2.2.2.2.2.2 o p (w64 (y + 1)) 0 1 (cvS (cellAt q.2.2.2.2.2.2.1 y.toNat 1)) 0 then Lib.lt (U70.v q.1 q.2.1 q.2.2.1 q.2.2.2.1 xd.1 xd.2 q.2.2.2.2.2.2.1 q.2.2.2.2.2.2.2.1 q.2.2.2.2.2.2.2.2 o p (w64 (y + 1)) 0 1 (cvS (cellAt q.2.2.2.2.2.2.1 y.toNat 1)) 0) fun xf => kr xf.1 xf.2.1 xf.2.2.1 xf.2.2.2.1 xf.2.2.2.2.1 xf.2.2.2.2.2.1 xf.2.2.2.2.2.2.1 xf.2.2.2.2.2.2.2.1 xf.2.2.2.2.2.2.2.2 0 else none else none else none else bif decide (t ≥ 0) then bif U72.c d p then Lib.lt (U72.v d p) fun xg => bif U73.c e f h i p then Lib.lt (U73.v e f h i p) fun xh => bif U74.c h i p then Lib.lt (U74.v h i p) fun xi => bif decide (y < 0) then bif roomy (q.2.2.2.2.2.2.1.length + (List.set (zeros [Ck.s, Ck.s, Ck.i IntKind.i64, Ck.i IntKind.i64, Ck.i IntKind.i64] 1) 0 [.s p, .s ⟨#[]⟩, .i .i64 1, .i .i64 0, .i .i64 0]).length) 56 then bif decide ((j.length : Int) < ((q.2.2.2.2.2.2.1 ++ List.set (zeros [Ck.s, Ck.s, Ck.i IntKind.i64, Ck.i IntKind.i64, Ck.i IntKind.i64] 1) 0 [.s p, .s ⟨#[]⟩, .i .i64 1, .i .i64 0, .i .i64 0]).length : Int)) then bif U70.c q.1 xg xh.1 xh.2.1 xi.1 xi.2 (q.2.2.2.2.2.2.1 ++ List.set (zeros [Ck.s, Ck.s, Ck.i IntKind.i64, Ck.i IntKind.i64, Ck.i IntKind.i64] 1) 0 [.s p, .s ⟨#[]⟩, .i .i64 1, .i .i64 0, .i .i64 0]) q.2.2.2.2.2.2.2.1 q.2.2.2.2.2.2.2.2 o p (w64 ((j.length : Int) + 1)) 0 1 (cvS (cellAt (q.2.2.2.2.2.2.1 ++ List.set (zeros [Ck.s, Ck.s, Ck.i IntKind.i64, Ck.i IntKind.i64, Ck.i IntKind.i64] 1) 0 [.s p, .s ⟨#[]⟩, .i .i64 1, .i .i64 0, .i .i64 0]) (j.length : Int).toNat 1)) 0 then Lib.lt (U70.v q.1 xg xh.1 xh.2.1 xi.1 xi.2 (q.2.2.2.2.2.2.1 ++ List.set (zeros [Ck.s, Ck.s, Ck.i IntKind.i64, Ck.i IntKind.i64, Ck.i IntKind.i64] 1) 0 [.s p, .s ⟨#[]⟩, .i .i64 1, .i .i64 0, .i .i64 0]) q.2.2.2.2.2.2.2.1 q.2.2.2.2.2.2.2.2 o p (w64 ((j.length : Int) + 1)) 0 1 (cvS (cellAt (q.2.2.2.2.2.2.1 ++ List.set (zeros [Ck.s, Ck.s, Ck.i IntKind.i64, Ck.i IntKind.i64, Ck.i IntKind.i64] 1) 0 [.s p, .s ⟨#[]⟩, .i .i64 1, .i .i64 0, .i .i64 0]) (j.length : Int).toNat 1)) 0) fun xj => kr xj.1 xj.2.1 xj.2.2.1 xj.2.2.2.1 xj.2.2.2.2.1 xj.2.2.2.2.2.1 xj.2.2.2.2.2.2.1 xj.2.2.2.2.2.2.2.1 xj.2.2.2.2.2.2.2.2 0 else none else none else none else bif decide (0 <= y) && decide (y < (q.2.2.2.2.2.2.1.length : Int)) then bif U70.c q.1 xg xh.1 xh.2.1 xi.1 xi.2 q.2.2.2.2.2.2.1 q.2.2.2.2.2.2.2.1 q.2.2.2.2.2.2.2.2 o p (w64 (y + 1)) 0 1 (cvS (cellAt q.2.2.2.2.2.2.1 y.toNat 1)) 0 then Lib.lt (U70.v q.1 xg xh.1 xh.2.1 xi.1 xi.2 q.2.2.2.2.2.2.1 q.2.2.2.2.2.2.2.1 q.2.2.2.2.2.2.2.2 o p (w64 (y + 1)) 0 1 (cvS (cellAt q.2.2.2.2.2.2.1 y.toNat 1)) 0) fun xk => kr xk.1 xk.2.1 xk.2.2.1 xk.2.2.2.1 xk.2.2.2.2.1 xk.2.2.2.2.2.1 xk.2.2.2.2.2.2.1 xk.2.2.2.2.2.2.2.1 xk.2.2.2.2.2.2.2.2 0 else none else none else none else none else none else bif U74.c h i p then Lib.lt (U74.v h i p) fun xl => bif decide (y < 0) then bif roomy (q.2.2.2.2.2.2.1.length + (List.set (zeros [Ck.s, Ck.s, Ck.i IntKind.i64, Ck.i IntKind.i64, Ck.i IntKind.i64] 1) 0 [.s p, .s ⟨#[]⟩, .i .i64 1, .i .i64 0, .i .i64 0]).length) 56 then bif decide ((j.length : Int) < ((q.2.2.2.2.2.2.1 ++ List.set (zeros [Ck.s, Ck.s, Ck.i IntKind.i64, Ck.i IntKind.i64, Ck.i IntKind.i64] 1) 0 [.s p, .s ⟨#[]⟩, .i .i64 1, .i .i64 0, .i .i64 0]).length : Int)) then bif U70.c q.1 q.2.1 q.2.2.1 q.2.2.2.1 xl.1 xl.2 (q.2.2.2.2.2.2.1 ++ List.set (zeros [Ck.s, Ck.s, Ck.i IntKind.i64, Ck.i IntKind.i64, Ck.i IntKind.i64] 1) 0 [.s p, .s ⟨#[]⟩, .i .i64 1, .i .i64 0, .i .i64 0]) q.2.2.2.2.2.2.2.1 q.2.2.2.2.2.2.2.2 o p (w64 ((j.length : Int) + 1)) 0 1 (cvS (cellAt (q.2.2.2.2.2.2.1 ++ List.set (zeros [Ck.s, Ck.s, Ck.i IntKind.i64, Ck.i IntKind.i64, Ck.i IntKind.i64] 1) 0 [.s p, .s ⟨#[]⟩, .i .i64 1, .i .i64 0, .i .i64 0]) (j.length : Int).toNat 1)) 0 then Lib.lt (U70.v q.1 q.2.1 q.2.2.1 q.2.2.2.1 xl.1 xl.2 (q.2.2.2.2.2.2.1 ++ List.set (zeros [Ck.s, Ck.s, Ck.i IntKind.i64, Ck.i IntKind.i64, Ck.i IntKind.i64] 1) 0 [.s p, .s ⟨#[]⟩, .i .i64 1, .i .i64 0, .i .i64 0]) q.2.2.2.2.2.2.2.1 q.2.2.2.2.2.2.2.2 o p (w64 ((j.length : Int) + 1)) 0 1 (cvS (cellAt (q.2.2.2.2.2.2.1 ++ List.set (zeros [Ck.s, Ck.s, Ck.i IntKind.i64, Ck.i IntKind.i64, Ck.i IntKind.i64] 1) 0 [.s p, .s ⟨#[]⟩, .i .i64 1, .i .i64 0, .i .i64 0]) (j.length : Int).toNat 1)) 0) fun xm => kr xm.1 xm.2.1 xm.2.2.1 xm.2.2.2.1 xm.2.2.2.2.1 xm.2.2.2.2.2.1 xm.2.2.2.2.2.2.1 xm.2.2.2.2.2.2.2.1 xm.2.2.2.2.2.2.2.2 0 else none else none else none else bif decide (0 <= y) && decide (y < (q.2.2.2.2.2.2.1.length : Int)) then bif U70.c q.1 q.2.1 q.2.2.1 q.2.2.2.1 xl.1 xl.2 q.2.2.2.2.2.2.1 q.2.2.2.2.2.2.2.1 q.2.2.2.2.2.2.2.2 o p (w64 (y + 1)) 0 1 (cvS (cellAt q.2.2.2.2.2.2.1 y.toNat 1)) 0 then Lib.lt (U70.v q.1 q.2.1 q.2.2.1 q.2.2.2.1 xl.1 xl.2 q.2.2.2.2.2.2.1 q.2.2.2.2.2.2.2.1 q.2.2.2.2.2.2.2.2 o p (w64 (y + 1)) 0 1 (cvS (cellAt q.2.2.2.2.2.2.1 y.toNat 1)) 0) fun xn => kr xn.1 xn.2.1 xn.2.2.1 xn.2.2.2.1 xn.2.2.2.2.1 xn.2.2.2.2.2.1 xn.2.2.2.2.2.2.1 xn.2.2.2.2.2.2.2.1 xn.2.2.2.2.2.2.2.2 0 else none else none else none else none else none else bif U71.c a d e f h i j l m p then Lib.lt (U71.v a d e f h i j l m p) fun xo => bif decide (xo < 0) then bif decide ((j.length : Int) = 20) then kr q.1 q.2.1 q.2.2.1 q.2.2.2.1 q.2.2.2.2.1 q.2.2.2.2.2.1 q.2.2.2.2.2.2.1 q.2.2.2.2.2.2.2.1 q.2.2.2.2.2.2.2.2 2 else bif decide (t ≥ 0) then bif U72.c d p then Lib.lt (U72.v d p) fun xp => bif U73.c e f h i p then Lib.lt (U73.v e f h i p) fun xq => bif U74.c h i p then Lib.lt (U74.v h i p) fun xr => bif decide (xo < 0) then bif roomy (q.2.2.2.2.2.2.1.length + (List.set (zeros [Ck.s, Ck.s, Ck.i IntKind.i64, Ck.i IntKind.i64, Ck.i IntKind.i64] 1) 0 [.s p, .s ⟨#[]⟩, .i .i64 1, .i .i64 0, .i .i64 0]).length) 56 then bif decide ((j.length : Int) < ((q.2.2.2.2.2.2.1 ++ List.set (zeros [Ck.s, Ck.s, Ck.i IntKind.i64, Ck.i IntKind.i64, Ck.i IntKind.i64] 1) 0 [.s p, .s ⟨#[]⟩, .i .i64 1, .i .i64 0, .i .i64 0]).length : Int)) then bif U70.c q.1 xp xq.1 xq.2.1 xr.1 xr.2 (q.2.2.2.2.2.2.1 ++ List.set (zeros [Ck.s, Ck.s, Ck.i IntKind.i64, Ck.i IntKind.i64, Ck.i IntKind.i64] 1) 0 [.s p, .s ⟨#[]⟩, .i .i64 1, .i .i64 0, .i .i64 0]) q.2.2.2.2.2.2.2.1 q.2.2.2.2.2.2.2.2 o p (w64 ((j.length : Int) + 1)) 0 1 (cvS (cellAt (q.2.2.2.2.2.2.1 ++ List.set (zeros [Ck.s, Ck.s, Ck.i IntKind.i64, Ck.i IntKind.i64, Ck.i IntKind.i64] 1) 0 [.s p, .s ⟨#[]⟩, .i .i64 1, .i .i64 0, .i .i64 0]) (j.length : Int).toNat 1)) 0 then Lib.lt (U70.v q.1 xp xq.1 xq.2.1 xr.1 xr.2 (q.2.2.2.2.2.2.1 ++ List.set (zeros [Ck.s, Ck.s, Ck.i IntKind.i64, Ck.i IntKind.i64, Ck.i IntKind.i64] 1) 0 [.s p, .s ⟨#[]⟩, .i .i64 1, .i .i64 0, .i .i64 0]) q.2.2.2.2.2.2.2.1 q.2.2.2.2.2.2.2.2 o p (w64 ((j.length : Int) + 1)) 0 1 (cvS (cellAt (q.2.2.2.2.2.2.1 ++ List.set (zeros [Ck.s, Ck.s, Ck.i IntKind.i64, Ck.i IntKind.i64, Ck.i IntKind.i64] 1) 0 [.s p, .s ⟨#[]⟩, .i .i64 1, .i .i64 0, .i .i64 0]) (j.length : Int).toNat 1)) 0) fun xs => kr xs.1 xs.2.1 xs.2.2.1 xs.2.2.2.1 xs.2.2.2.2.1 xs.2.2.2.2.2.1 xs.2.2.2.2.2.2.1 xs.2.2.2.2.2.2.2.1 xs.2.2.2.2.2.2.2.2 0 else none else none else none else bif decide (0 <= xo) && decide (xo < (q.2.2.2.2.2.2.1.length : Int)) then bif U70.c q.1 xp xq.1 xq.2.1 xr.1 xr.2 q.2.2.2.2.2.2.1 q.2.2.2.2.2.2.2.1 q.2.2.2.2.2.2.2.2 o p (w64 (xo + 1)) 0 1 (cvS (cellAt q.2.2.2.2.2.2.1 xo.toNat 1)) 0 then Lib.lt (U70.v q.1 xp xq.1 xq.2.1 xr.1 xr.2 q.2.2.2.2.2.2.1 q.2.2.2.2.2.2.2.1 q.2.2.2.2.2.2.2.2 o p (w64 (xo + 1)) 0 1 (cvS (cellAt q.2.2.2.2.2.2.1 xo.toNat 1)) 0) fun xt => kr xt.1 xt.2.1 xt.2.2.1 xt.2.2.2.1 xt.2.2.2.2.1 xt.2.2.2.2.2.1 xt.2.2.2.2.2.2.1 xt.2.2.2.2.2.2.2.1 xt.2.2.2.2.2.2.2.2 0 else none else none else none else none else none else bif U74.c h i p then Lib.lt (U74.v h i p) fun xu => bif decide (xo < 0) then bif roomy (q.2.2.2.2.2.2.1.length + (List.set (zeros [Ck.s, Ck.s, Ck.i IntKind.i64, Ck.i IntKind.i64, Ck.i IntKind.i64] 1) 0 [.s p, .s ⟨#[]⟩, .i .i64 1, .i .i64 0, .i .i64 0]).length) 56 then bif decide ((j.length : Int) < ((q.2.2.2.2.2.2.1 ++ List.set (zeros [Ck.s, Ck.s, Ck.i IntKind.i64, Ck.i IntKind.i64, Ck.i IntKind.i64] 1) 0 [.s p, .s ⟨#[]⟩, .i .i64 1, .i .i64 0, .i .i64 0]).length : Int)) then bif U70.c q.1 q.2.1 q.2.2.1 q.2.2.2.1 xu.1 xu.2 (q.2.2.2.2.2.2.1 ++ List.set (zeros [Ck.s, Ck.s, Ck.i IntKind.i64, Ck.i IntKind.i64, Ck.i IntKind.i64] 1) 0 [.s p, .s ⟨#[]⟩, .i .i64 1, .i .i64 0, .i .i64 0]) q.2.2.2.2.2.2.2.1 q.2.2.2.2.2.2.2.2 o p (w64 ((j.length : Int) + 1)) 0 1 (cvS (cellAt (q.2.2.2.2.2.2.1 ++ List.set (zeros [Ck.s, Ck.s, Ck.i IntKind.i64, Ck.i IntKind.i64, Ck.i IntKind.i64] 1) 0 [.s p, .s ⟨#[]⟩, .i .i64 1, .i .i64 0, .i .i64 0]) (j.length : Int).toNat 1)) 0 then Lib.lt (U70.v q.1 q.2.1 q.2.2.1 q.2.2.2.1 xu.1 xu.2 (q.2.2.2.2.2.2.1 ++ List.set (zeros [Ck.s, Ck.s, Ck.i IntKind.i64, Ck.i IntKind.i64, Ck.i IntKind.i64] 1) 0 [.s p, .s ⟨#[]⟩, .i .i64 1, .i .i64 0, .i .i64 0]) q.2.2.2.2.2.2.2.1 q.2.2.2.2.2.2.2.2 o p (w64 ((j.length : Int) + 1)) 0 1 (cvS (cellAt (q.2.2.2.2.2.2.1 ++ List.set (zeros [Ck.s, Ck.s, Ck.i IntKind.i64, Ck.i IntKind.i64, Ck.i IntKind.i64] 1) 0 [.s p, .s ⟨#[]⟩, .i .i64 1, .i .i64 0, .i .i64 0]) (j.length : Int).toNat 1)) 0) fun xv => kr xv.1 xv.2.1 xv.2.2.1 xv.2.2.2.1 xv.2.2.2.2.1 xv.2.2.2.2.2.1 xv.2.2.2.2.2.2.1 xv.2.2.2.2.2.2.2.1 xv.2.2.2.2.2.2.2.2 0 else none else none else none else bif decide (0 <= xo) && decide (xo < (q.2.2.2.2.2.2.1.length : Int)) then bif U70.c q.1 q.2.1 q.2.2.1 q.2.2.2.1 xu.1 xu.2 q.2.2.2.2.2.2.1 q.2.2.2.2.2.2.2.1 q.2.2.2.2.2.2.2.2 o p (w64 (xo + 1)) 0 1 (cvS (cellAt q.2.2.2.2.2.2.1 xo.toNat 1)) 0 then Lib.lt (U70.v q.1 q.2.1 q.2.2.1 q.2.2.2.1 xu.1 xu.2 q.2.2.2.2.2.2.1 q.2.2.2.2.2.2.2.1 q.2.2.2.2.2.2.2.2 o p (w64 (xo + 1)) 0 1 (cvS (cellAt q.2.2.2.2.2.2.1 xo.toNat 1)) 0) fun xw => kr xw.1 xw.2.1 xw.2.2.1 xw.2.2.2.1 xw.2.2.2.2.1 xw.2.2.2.2.2.1 xw.2.2.2.2.2.2.1 xw.2.2.2.2.2.2.2.1 xw.2.2.2.2.2.2.2.2 0 else none else none else none else bif decide (t ≥ 0) then bif U72.c d p then Lib.lt (U72.v d p) fun xx => bif U73.c e f h i p then Lib.lt (U73.v e f h i p) fun xy => bif U74.c h i p then Lib.lt (U74.v h i p) fun xz => bif decide (xo < 0) then bif roomy (q.2.2.2.2.2.2.1.length + (List.set (zeros [Ck.s, Ck.s, Ck.i IntKind.i64, Ck.i IntKind.i64, Ck.i IntKind.i64] 1) 0 [.s p, .s ⟨#[]⟩, .i .i64 1, .i .i64 0, .i .i64 0]).length) 56 then bif decide ((j.length : Int) < ((q.2.2.2.2.2.2.1 ++ List.set (zeros [Ck.s, Ck.s, Ck.i IntKind.i64, Ck.i IntKind.i64, Ck.i IntKind.i64] 1) 0 [.s p, .s ⟨#[]⟩, .i .i64 1, .i .i64 0, .i .i64 0]).length : Int)) then bif U70.c q.1 xx xy.1 xy.2.1 xz.1 xz.2 (q.2.2.2.2.2.2.1 ++ List.set (zeros [Ck.s, Ck.s, Ck.i IntKind.i64, Ck.i IntKind.i64, Ck.i IntKind.i64] 1) 0 [.s p, .s ⟨#[]⟩, .i .i64 1, .i .i64 0, .i .i64 0]) q.2.2.2.2.2.2.2.1 q.2.2.2.2.2.2.2.2 o p (w64 ((j.length : Int) + 1)) 0 1 (cvS (cellAt (q.2.2.2.2.2.2.1 ++ List.set (zeros [Ck.s, Ck.s, Ck.i IntKind.i64, Ck.i IntKind.i64, Ck.i IntKind.i64] 1) 0 [.s p, .s ⟨#[]⟩, .i .i64 1, .i .i64 0, .i .i64 0]) (j.length : Int).toNat 1)) 0 then Lib.lt (U70.v q.1 xx xy.1 xy.2.1 xz.1 xz.2 (q.2.2.2.2.2.2.1 ++ List.set (zeros [Ck.s, Ck.s, Ck.i IntKind.i64, Ck.i IntKind.i64, Ck.i IntKind.i64] 1) 0 [.s p, .s ⟨#[]⟩, .i .i64 1, .i .i64 0, .i .i64 0]) q.2.2.2.2.2.2.2.1 q.2.2.2.2.2.2.2.2 o p (w64 ((j.length : Int) + 1)) 0 1 (cvS (cellAt (q.2.2.2.2.2.2.1 ++ List.set (zeros [Ck.s, Ck.s, Ck.i IntKind.i64, Ck.i IntKind.i64, Ck.i IntKind.i64] 1) 0 [.s p, .s ⟨#[]⟩, .i .i64 1, .i .i64 0, .i .i64 0]) (j.length : Int).toNat 1)) 0) fun ya => kr ya.1 ya.2.1 ya.2.2.1 ya.2.2.2.1 ya.2.2.2.2.1 ya.2.2.2.2.2.1 ya.2.2.2.2.2.2.1 ya.2.2.2.2.2.2.2.1 ya.2.2.2.2.2.2.2.2 0 else none else none else none else bif decide (0 <= xo) && decide (xo < (q.2.2.2.2.2.2.1.length : Int)) then bif U70.c q.1 xx xy.1 xy.2.1 xz.1 xz.2 q.2.2.2.2.2.2.1 q.2.2.2.2.2.2.2.1 q.2.2.2.2.2.2.2.2 o p (w64 (xo + 1)) 0 1 (cvS (cellAt q.2.2.2.2.2.2.1 xo.toNat 1)) 0 then Lib.lt (U70.v q.1 xx xy.1 xy.2.1 xz.1 xz.2 q.2.2.2.2.2.2.1 q.2.2.2.2.2.2.2.1 q.2.2.2.2.2.2.2.2 o p (w64 (xo + 1)) 0 1 (cvS (cellAt q.2.2.2.2.2.2.1 xo.toNat 1)) 0) fun yb => kr yb.1 yb.2.1 yb.2.2.1 yb.2.2.2.1 yb.2.2.2.2.1 yb.2.2.2.2.2.1 yb.2.2.2.2.2.2.1 yb.2.2.2.2.2.2.2.1 yb.2.2.2.2.2.2.2.2 0 else none else none else none else none else none else bif U74.c h i p then Lib.lt (U74.v h i p) fun yc => bif decide (xo < 0) then bif roomy (q.2.2.2.2.2.2.1.length + (List.set (zeros [Ck.s, Ck.s, Ck.i IntKind.i64, Ck.i IntKind.i64, Ck.i IntKind.i64] 1) 0 [.s p, .s ⟨#[]⟩, .i .i64 1, .i .i64 0, .i .i64 0]).length) 56 then bif decide ((j.length : Int) < ((q.2.2.2.2.2.2.1 ++ List.set (zeros [Ck.s, Ck.s, Ck.i IntKind.i64, Ck.i IntKind.i64, Ck.i IntKind.i64] 1) 0 [.s p, .s ⟨#[]⟩, .i .i64 1, .i .i64 0, .i .i64 0]).length : Int)) then bif U70.c q.1 q.2.1 q.2.2.1 q.2.2.2.1 yc.1 yc.2 (q.2.2.2.2.2.2.1 ++ List.set (zeros [Ck.s, Ck.s, Ck.i IntKind.i64, Ck.i IntKind.i64, Ck.i IntKind.i64] 1) 0 [.s p, .s ⟨#[]⟩, .i .i64 1, .i .i64 0, .i .i64 0]) q.2.2.2.2.2.2.2.1 q.2.2.2.2.2.2.2.2 o p (w64 ((j.length : Int) + 1)) 0 1 (cvS (cellAt (q.2.2.2.2.2.2.1 ++ List.set (zeros [Ck.s, Ck.s, Ck.i IntKind.i64, Ck.i IntKind.i64, Ck.i IntKind.i64] 1) 0 [.s p, .s ⟨#[]⟩, .i .i64 1, .i .i64 0, .i .i64 0]) (j.length : Int).toNat 1)) 0 then Lib.lt (U70.v q.1 q.2.1 q.2.2.1 q.2.2.2.1 yc.1 yc.2 (q.2.2.2.2.2.2.1 ++ List.set (zeros [Ck.s, Ck.s, Ck.i IntKind.i64, Ck.i IntKind.i64, Ck.i IntKind.i64] 1) 0 [.s p, .s ⟨#[]⟩, .i .i64 1, .i .i64 0, .i .i64 0]) q.2.2.2.2.2.2.2.1 q.2.2.2.2.2.2.2.2 o p (w64 ((j.length : Int) + 1)) 0 1 (cvS (cellAt (q.2.2.2.2.2.2.1 ++ List.set (zeros [Ck.s, Ck.s, Ck.i IntKind.i64, Ck.i IntKind.i64, Ck.i IntKind.i64] 1) 0 [.s p, .s ⟨#[]⟩, .i .i64 1, .i .i64 0, .i .i64 0]) (j.length : Int).toNat 1)) 0) fun yd => kr yd.1 yd.2.1 yd.2.2.1 yd.2.2.2.1 yd.2.2.2.2.1 yd.2.2.2.2.2.1 yd.2.2.2.2.2.2.1 yd.2.2.2.2.2.2.2.1 yd.2.2.2.2.2.2.2.2 0 else none else none else none else bif decide (0 <= xo) && decide (xo < (q.2.2.2.2.2.2.1.length : Int)) then bif U70.c q.1 q.2.1 q.2.2.1 q.2.2.2.1 yc.1 yc.2 q.2.2.2.2.2.2.1 q.2.2.2.2.2.2.2.1 q.2.2.2.2.2.2.2.2 o p (w64 (xo + 1)) 0 1 (cvS (cellAt q.2.2.2.2.2.2.1 xo.toNat 1)) 0 then Lib.lt (U70.v q.1 q.2.1 q.2.2.1 q.2.2.2.1 yc.1 yc.2 q.2.2.2.2.2.2.1 q.2.2.2.2.2.2.2.1 q.2.2.2.2.2.2.2.2 o p (w64 (xo + 1)) 0 1 (cvS (cellAt q.2.2.2.2.2.2.1 xo.toNat 1)) 0) fun ye => kr ye.1 ye.2.1 ye.2.2.1 ye.2.2.2.1 ye.2.2.2.2.1 ye.2.2.2.2.2.1 ye.2.2.2.2.2.2.1 ye.2.2.2.2.2.2.2.1 ye.2.2.2.2.2.2.2.2 0 else none else none else none else none else none else none else none else none
def vo := b fun r0 r1 r2 r3 r4 r5 r6 r7 r8 r9 => some (r0, r1, r2, r3, r4, r5, r6, r7, r8, r9)
def c := fun a d e f h i j l m o p => (vo a d e f h i j l m o p).isSome
def v := fun a d e f h i j l m o p => (vo a d e f h i j l m o p).getD (0, [], [], [], [], 0, [], [], 0, 0)
theorem out {x} : ∀ a d e f h i j l m o p, vo a d e f h i j l m o p = some x -> c a d e f h i j l m o p = true /\ v a d e f h i j l m o p = x := fun _ _ _ _ _ _ _ _ _ _ _ => Lib.out_
end Go.FG.U11

namespace Go.FG.U171
def b {R : Type} (kr : Bool -> Option R) (a : ByteArray) (d e : Int) (f h : ByteArray) (i j : Int) (l : ByteArray) : Option R := bif !List.beq (ByteArray.toList a) (ByteArray.toList h) then kr false else bif d != i then kr false else bif e != j then kr false else bif !List.beq (ByteArray.toList f) (ByteArray.toList l) then kr false else kr true
def v (a0 : ByteArray) (a1 a2 : Int) (a3 a4 : ByteArray) (a5 a6 : Int) (a7 : ByteArray) : Bool := bif !List.beq (ByteArray.toList a0) (ByteArray.toList a4) then false else bif a1 != a5 then false else bif a2 != a6 then false else bif !List.beq (ByteArray.toList a3) (ByteArray.toList a7) then false else true
theorem b_eq {R : Type} (kr : Bool -> Option R) (a0 : ByteArray) (a1 a2 : Int) (a3 a4 : ByteArray) (a5 a6 : Int) (a7 : ByteArray) : b kr a0 a1 a2 a3 a4 a5 a6 a7 = kr (v a0 a1 a2 a3 a4 a5 a6 a7) := by
 first | rfl | (unfold b v; simp only [Bool.cond_eq_ite]; (repeat' split) <;> rfl)
end Go.FG.U171

namespace Go.FG.U75
def r4 {R : Type} (N : Nat) (g k0 k1 : F_rrbi R) (a d : Row) (e : Bool) (f : Int) : Option R := bif decide (f < (a.length : Int)) then bif decide (0 <= f) && decide (f < (a.length : Int)) then bif decide (0 <= f) && decide (f < (d.length : Int)) then bif !U171.v (cvS (cellAt a f.toNat 0)) (cvI (cellAt a f.toNat 1)) (cvI (cellAt a f.toNat (1 + 1))) (cvS (cellAt a f.toNat (1 + 1 + 1))) (cvS (cellAt d f.toNat 0)) (cvI (cellAt d f.toNat 1)) (cvI (cellAt d f.toNat (1 + 1))) (cvS (cellAt d f.toNat (1 + 1 + 1))) then k0 a d false f else g a d e (w64 (f + 1)) else none else none else k1 a d e f
def l4 {R : Type} (N : Nat) (k0 k1 : F_rrbi R) : Nat -> F_rrbi R
 | 0 => fun _ _ _ _ => none
 | n + 1 => r4 N (l4 N k0 k1 n) k0 k1
def b {R : Type} (N : Nat) (kr : Bool -> Option R) (a d : Row) : Option R := bif (a.length : Int) != (d.length : Int) then kr false else l4 N (fun _ _ e _ => kr e) (fun _ _ _ _ => kr true) N a d false 0
def vo := b Lib.big fun r0 => some r0
def c := fun a d => (vo a d).isSome
def v := fun a d => (vo a d).getD false
theorem out {x} : ∀ a d, vo a d = some x -> c a d = true /\ v a d = x := fun _ _ => Lib.out_
end Go.FG.U75

namespace Go.FG.U172
def r4 {R : Type} (N : Nat) (g k0 k1 : F_rrbi R) (a d : Row) (e : Bool) (f : Int) : Option R := bif decide (f < (a.length : Int)) then bif decide (0 <= f) && decide (f < (a.length : Int)) then bif decide (0 <= f) && decide (f < (d.length : Int)) then bif !List.beq (cvS (cellAt a f.toNat 0)).toList (cvS (cellAt d f.toNat 0)).toList then k0 a d false f else g a d e (w64 (f + 1)) else none else none else k1 a d e f
def l4 {R : Type} (N : Nat) (k0 k1 : F_rrbi R) : Nat -> F_rrbi R
 | 0 => fun _ _ _ _ => none
 | n + 1 => r4 N (l4 N k0 k1 n) k0 k1
def b {R : Type} (N : Nat) (kr : Bool -> Option R) (a d : Row) : Option R := bif (a.length : Int) != (d.length : Int) then kr false else l4 N (fun _ _ e _ => kr e) (fun _ _ _ _ => kr true) N a d false 0
def vo := b Lib.big fun r0 => some r0
def c := fun a d => (vo a d).isSome
def v := fun a d => (vo a d).getD false
theorem out {x} : ∀ a d, vo a d = some x -> c a d = true /\ v a d = x := fun _ _ => Lib.out_
end Go.FG.U172

namespace Go.FG.U124
def r4 {R : Type} (N : Nat) (g k0 k1 : F_rrbi R) (a d : Row) (e : Bool) (f : Int) : Option R := bif decide (f < (a.length : Int)) then bif decide (0 <= f) && decide (f < (a.length : Int)) then bif decide (0 <= f) && decide (f < (d.length : Int)) then bif cvI (cellAt a f.toNat 0) != cvI (cellAt d f.toNat 0) then k0 a d false f else g a d e (w64 (f + 1)) else none else none else k1 a d e f
def l4 {R : Type} (N : Nat) (k0 k1 : F_rrbi R) : Nat -> F_rrbi R
 | 0 => fun _ _ _ _ => none
 | n + 1 => r4 N (l4 N k0 k1 n) k0 k1
def b {R : Type} (N : Nat) (kr : Bool -> Option R) (a d : Row) : Option R := bif (a.length : Int) != (d.length : Int) then kr false else l4 N (fun _ _ e _ => kr e) (fun _ _ _ _ => kr true) N a d false 0
def v (a0 : Row) (b1 : Row) : Bool := (a0.length == b1.length) && (List.range a0.length).all fun i => !(cvI (cellAt a0 i 0) != cvI (cellAt b1 i 0))
def fr (a b : Row) (i : Nat) : Bool := (List.range' i (a.length - i)).all fun i => !(cvI (cellAt a i 0) != cvI (cellAt b i 0))
theorem run {R : Type} (N : Nat) (kr : Bool -> Option R) (a b : Row) (hl : a.length = b.length) (ha : FitR a) : ∀ n (i : Nat), i <= a.length -> a.length - i < n -> l4 N (fun _ _ y _ => kr y) (fun _ _ _ _ => kr true) n a b false i = kr (fr a b i) := by
 refine Lib.loop_gen (fun n (i : Nat) => l4 N (fun _ _ y _ => kr y) (fun _ _ _ _ => kr true) n a b false i) (fun i => a.length - i) (fun i => i <= a.length) (fun i => kr (fr a b i)) (fun n i hi => ?_)
 simp only [l4, r4, Lib.dlt, Lib.dle0, Lib.toN, Bool.true_and]
 by_cases h : i < a.length
 ·have e : a.length - i = (a.length - (i + 1)) + 1 := by omega
  have hf : fr a b i = (!(cvI (cellAt a i 0) != cvI (cellAt b i 0)) && fr a b (i + 1)) := by
   unfold fr; rw [e, List.range'_succ, List.all_cons]
  have hb : i < b.length := by omega
  simp only [h, hb, decide_true, cond_true, Lib.w64_s h ha.1]
  cases hv : (cvI (cellAt a i 0) != cvI (cellAt b i 0)) with
  | false => exact .inr ⟨i + 1, h, by omega, by rw [hf, hv]; rfl, rfl⟩
  | true => left; rw [hf, hv]; rfl
 ·left
  have : a.length - i = 0 := by omega
  simp only [h, decide_false, cond_false]
  unfold fr; rw [this]; rfl
theorem b_eq {R : Type} (kr : Bool -> Option R) (a0 : Row) (b1 : Row) (f0 : FitR a0) (f1 : FitR b1) : ∃ N, b N kr a0 b1 = kr (v a0 b1) := by
 refine ⟨a0.length + 1, ?_⟩
 unfold b v
 by_cases hl : a0.length = b1.length
 ·have e : ((a0.length : Int) != (b1.length : Int)) = false := by simp [hl]
  rw [e, cond_false]
  refine (run _ kr a0 b1 hl f0 (a0.length + 1) 0 (by omega) (by omega)).trans ?_
  unfold fr; rw [show (a0.length == b1.length) = true by simp [hl], Nat.sub_zero, <- List.range_eq_range']; rfl
 ·have e : ((a0.length : Int) != (b1.length : Int)) = true := by simp; omega
  have e2 : (a0.length == b1.length) = false := by simp; omega
  rw [e, cond_true, e2]; rfl
theorem refl (a : Row) : v a a = true := by unfold v; simp
end Go.FG.U124

namespace Go.FG.U225
def r4 {R : Type} (N : Nat) (g k0 k1 : F_rrbi R) (a d : Row) (e : Bool) (f : Int) : Option R := bif decide (f < (a.length : Int)) then bif decide (0 <= f) && decide (f < (a.length : Int)) then bif decide (0 <= f) && decide (f < (d.length : Int)) then bif !U124.v (cvL (cellAt a f.toNat 0)) (cvL (cellAt d f.toNat 0)) then k0 a d false f else g a d e (w64 (f + 1)) else none else none else k1 a d e f
def l4 {R : Type} (N : Nat) (k0 k1 : F_rrbi R) : Nat -> F_rrbi R
 | 0 => fun _ _ _ _ => none
 | n + 1 => r4 N (l4 N k0 k1 n) k0 k1
def b {R : Type} (N : Nat) (kr : Bool -> Option R) (a d : Row) : Option R := bif (a.length : Int) != (d.length : Int) then kr false else l4 N (fun _ _ e _ => kr e) (fun _ _ _ _ => kr true) N a d false 0
def vo := b Lib.big fun r0 => some r0
def c := fun a d => (vo a d).isSome
def v := fun a d => (vo a d).getD false
theorem out {x} : ∀ a d, vo a d = some x -> c a d = true /\ v a d = x := fun _ _ => Lib.out_
end Go.FG.U225

namespace Go.FG.U173
def b {R : Type} (kr : Bool -> Option R) (a : Row) (d : Int) (e : Row) (f : Int) : Option R := bif U225.c a e then bif !U225.v a e then kr false else bif d != f then kr false else kr true else none
def vo := b fun r0 => some r0
def c := fun a d e f => (vo a d e f).isSome
def v := fun a d e f => (vo a d e f).getD false
theorem out {x} : ∀ a d e f, vo a d e f = some x -> c a d e f = true /\ v a d e f = x := fun _ _ _ _ => Lib.out_
end Go.FG.U173

namespace Go.FG.U76
def b {R : Type} (kr : Bool -> Option R) (a d e : Row) (f : Int) (h i j : Row) (l : Int) : Option R := bif U172.c a h then bif !U172.v a h then kr false else bif U172.c d i then bif !U172.v d i then kr false else bif U173.c e f j l then bif !U173.v e f j l then kr false else kr true else none else none else none
def vo := b fun r0 => some r0
def c := fun a d e f h i j l => (vo a d e f h i j l).isSome
def v := fun a d e f h i j l => (vo a d e f h i j l).getD false
theorem out {x} : ∀ a d e f h i j l, vo a d e f h i j l = some x -> c a d e f h i j l = true /\ v a d e f h i j l = x := fun _ _ _ _ _ _ _ _ => Lib.out_
end Go.FG.U76

namespace Go.FG.U174
def b {R : Type} (kr : Bool -> Option R) (a d : ByteArray) (e f h : Int) (i j : ByteArray) (l m o : Int) : Option R := bif !List.beq (ByteArray.toList a) (ByteArray.toList i) then kr false else bif !List.beq (ByteArray.toList d) (ByteArray.toList j) then kr false else bif e != l then kr false else bif f != m then kr false else bif h != o then kr false else kr true
def v (a0 a1 : ByteArray) (a2 a3 a4 : Int) (a5 a6 : ByteArray) (a7 a8 a9 : Int) : Bool := bif !List.beq (ByteArray.toList a0) (ByteArray.toList a5) then false else bif !List.beq (ByteArray.toList a1) (ByteArray.toList a6) then false else bif a2 != a7 then false else bif a3 != a8 then false else bif a4 != a9 then false else true
theorem b_eq {R : Type} (kr : Bool -> Option R) (a0 a1 : ByteArray) (a2 a3 a4 : Int) (a5 a6 : ByteArray) (a7 a8 a9 : Int) : b kr a0 a1 a2 a3 a4 a5 a6 a7 a8 a9 = kr (v a0 a1 a2 a3 a4 a5 a6 a7 a8 a9) := by
 first | rfl | (unfold b v; simp only [Bool.cond_eq_ite]; (repeat' split) <;> rfl)
end Go.FG.U174

namespace Go.FG.U77
def r4 {R : Type} (N : Nat) (g k0 k1 : F_rrbi R) (a d : Row) (e : Bool) (f : Int) : Option R := bif decide (f < (a.length : Int)) then bif decide (0 <= f) && decide (f < (a.length : Int)) then bif decide (0 <= f) && decide (f < (d.length : Int)) then bif !U174.v (cvS (cellAt a f.toNat 0)) (cvS (cellAt a f.toNat 1)) (cvI (cellAt a f.toNat (1 + 1))) (cvI (cellAt a f.toNat (1 + 1 + 1))) (cvI (cellAt a f.toNat (1 + 1 + 1 + 1))) (cvS (cellAt d f.toNat 0)) (cvS (cellAt d f.toNat 1)) (cvI (cellAt d f.toNat (1 + 1))) (cvI (cellAt d f.toNat (1 + 1 + 1))) (cvI (cellAt d f.toNat (1 + 1 + 1 + 1))) then k0 a d false f else g a d e (w64 (f + 1)) else none else none else k1 a d e f
def l4 {R : Type} (N : Nat) (k0 k1 : F_rrbi R) : Nat -> F_rrbi R
 | 0 => fun _ _ _ _ => none
 | n + 1 => r4 N (l4 N k0 k1 n) k0 k1
def b {R : Type} (N : Nat) (kr : Bool -> Option R) (a d : Row) : Option R := bif (a.length : Int) != (d.length : Int) then kr false else l4 N (fun _ _ e _ => kr e) (fun _ _ _ _ => kr true) N a d false 0
def vo := b Lib.big fun r0 => some r0
def c := fun a d => (vo a d).isSome
def v := fun a d => (vo a d).getD false
theorem out {x} : ∀ a d, vo a d = some x -> c a d = true /\ v a d = x := fun _ _ => Lib.out_
end Go.FG.U77

namespace Go.FG.U175
def b {R : Type} (kr : Bool -> Option R) (a : Int) (d : ByteArray) (e f h : Int) (i : ByteArray) (j l : Int) (m : ByteArray) (o p q : Int) (r : ByteArray) (s : Int) : Option R := bif a != l then kr false else bif !List.beq (ByteArray.toList d) (ByteArray.toList m) then kr false else bif e != o then kr false else bif f != p then kr false else bif h != q then kr false else bif !List.beq (ByteArray.toList i) (ByteArray.toList r) then kr false else bif j != s then kr false else kr true
def v (a0 : Int) (a1 : ByteArray) (a2 a3 a4 : Int) (a5 : ByteArray) (a6 a7 : Int) (a8 : ByteArray) (a9 a10 a11 : Int) (a12 : ByteArray) (a13 : Int) : Bool := bif a0 != a7 then false else bif !List.beq (ByteArray.toList a1) (ByteArray.toList a8) then false else bif a2 != a9 then false else bif a3 != a10 then false else bif a4 != a11 then false else bif !List.beq (ByteArray.toList a5) (ByteArray.toList a12) then false else bif a6 != a13 then false else true
theorem b_eq {R : Type} (kr : Bool -> Option R) (a0 : Int) (a1 : ByteArray) (a2 a3 a4 : Int) (a5 : ByteArray) (a6 a7 : Int) (a8 : ByteArray) (a9 a10 a11 : Int) (a12 : ByteArray) (a13 : Int) : b kr a0 a1 a2 a3 a4 a5 a6 a7 a8 a9 a10 a11 a12 a13 = kr (v a0 a1 a2 a3 a4 a5 a6 a7 a8 a9 a10 a11 a12 a13) := by
 first | rfl | (unfold b v; simp only [Bool.cond_eq_ite]; (repeat' split) <;> rfl)
end Go.FG.U175

namespace Go.FG.U78
def r4 {R : Type} (N : Nat) (g k0 k1 : F_rrbi R) (a d : Row) (e : Bool) (f : Int) : Option R := bif decide (f < (a.length : Int)) then bif decide (0 <= f) && decide (f < (a.length : Int)) then bif decide (0 <= f) && decide (f < (d.length : Int)) then bif !U175.v (cvI (cellAt a f.toNat 0)) (cvS (cellAt a f.toNat 1)) (cvI (cellAt a f.toNat (1 + 1))) (cvI (cellAt a f.toNat (1 + 1 + 1))) (cvI (cellAt a f.toNat (1 + 1 + 1 + 1))) (cvS (cellAt a f.toNat (1 + 1 + 1 + 1 + 1))) (cvI (cellAt a f.toNat (1 + 1 + 1 + 1 + 1 + 1))) (cvI (cellAt d f.toNat 0)) (cvS (cellAt d f.toNat 1)) (cvI (cellAt d f.toNat (1 + 1))) (cvI (cellAt d f.toNat (1 + 1 + 1))) (cvI (cellAt d f.toNat (1 + 1 + 1 + 1))) (cvS (cellAt d f.toNat (1 + 1 + 1 + 1 + 1))) (cvI (cellAt d f.toNat (1 + 1 + 1 + 1 + 1 + 1))) then k0 a d false f else g a d e (w64 (f + 1)) else none else none else k1 a d e f
def l4 {R : Type} (N : Nat) (k0 k1 : F_rrbi R) : Nat -> F_rrbi R
 | 0 => fun _ _ _ _ => none
 | n + 1 => r4 N (l4 N k0 k1 n) k0 k1
def b {R : Type} (N : Nat) (kr : Bool -> Option R) (a d : Row) : Option R := bif (a.length : Int) != (d.length : Int) then kr false else l4 N (fun _ _ e _ => kr e) (fun _ _ _ _ => kr true) N a d false 0
def vo := b Lib.big fun r0 => some r0
def c := fun a d => (vo a d).isSome
def v := fun a d => (vo a d).getD false
theorem out {x} : ∀ a d, vo a d = some x -> c a d = true /\ v a d = x := fun _ _ => Lib.out_
end Go.FG.U78

namespace Go.FG.U12
def b {R : Type} (kr : Bool -> Option R) (a : Int) (d e f h : Row) (i : Int) (j l : Row) (m o : Int) (p q r s : Row) (t : Int) (u w : Row) (y : Int) : Option R := bif a != o then kr false else bif U75.c d p then bif !U75.v d p then kr false else bif U76.c e f h i q r s t then bif !U76.v e f h i q r s t then kr false else bif U77.c j u then bif !U77.v j u then kr false else bif U78.c l w then bif !U78.v l w then kr false else bif m != y then kr false else kr true else none else none else none else none
def vo := b fun r0 => some r0
def c := fun a d e f h i j l m o p q r s t u w y => (vo a d e f h i j l m o p q r s t u w y).isSome
def v := fun a d e f h i j l m o p q r s t u w y => (vo a d e f h i j l m o p q r s t u w y).getD false
theorem out {x} : ∀ a d e f h i j l m o p q r s t u w y, vo a d e f h i j l m o p q r s t u w y = some x -> c a d e f h i j l m o p q r s t u w y = true /\ v a d e f h i j l m o p q r s t u w y = x := fun _ _ _ _ _ _ _ _ _ _ _ _ _ _ _ _ _ _ => Lib.out_
end Go.FG.U12

namespace Go.FG.U176
def r4 {R : Type} (N : Nat) (g k0 : F_is R) (a : Int) (d : ByteArray) : Option R := bif decide (a > 0) then bif decide ((bytesOf (List.set (zeros [Ck.i IntKind.u8] 1) 0 [CV.i IntKind.u8 (IntKind.wrap IntKind.u8 (w64 (48 + Int.tmod a 10)))])).size + d.size <= 4611686018427387904) then g (w64 (Int.tdiv a 10)) (bytesOf (List.set (zeros [Ck.i IntKind.u8] 1) 0 [CV.i IntKind.u8 (IntKind.wrap IntKind.u8 (w64 (48 + Int.tmod a 10)))]) ++ d) else none else k0 a d
def l4 {R : Type} (N : Nat) (k0 : F_is R) : Nat -> F_is R
 | 0 => fun _ _ => none
 | n + 1 => r4 N (l4 N k0 n) k0
def b {R : Type} (N : Nat) (kr : ByteArray -> Option R) (a : Int) : Option R := bif decide (a <= 0) then kr ({ data := #[UInt8.ofNat 109, UInt8.ofNat 48] }) else l4 N (fun _ d => bif decide (ByteArray.size { data := #[UInt8.ofNat 109] } + d.size <= 4611686018427387904) then kr ({ data := #[UInt8.ofNat 109] } ++ d) else none) N a ⟨#[]⟩
def vo := b Lib.big fun r0 => some r0
def c := fun a => (vo a).isSome
def v := fun a => (vo a).getD (⟨#[]⟩)
theorem out {x} : ∀ a, vo a = some x -> c a = true /\ v a = x := fun _ => Lib.out_
end Go.FG.U176

namespace Go.FG.U79
def r2 {R : Type} (N : Nat) (g k0 : F_iir R) (a d : Int) (e : Row) : Option R := bif decide (d < (e.length : Int)) then bif U176.c a then bif decide (0 <= d) && decide (d < (e.length : Int)) then bif decide (0 <= d) && decide (d < ((setC e d.toNat 0 [.s (U176.v a)]).length : Int)) then bif decide (0 <= d) && decide (d < ((setC (setC e d.toNat 0 [.s (U176.v a)]) d.toNat 1 [.i .i64 (w64 (a + 1))]).length : Int)) then bif U176.c (w64 (w64 (w64 (a + 1) + 1) + 1)) then bif decide (0 <= d) && decide (d < ((setC (setC (setC e d.toNat 0 [.s (U176.v a)]) d.toNat 1 [.i .i64 (w64 (a + 1))]) d.toNat 2 [.i .i64 (w64 (w64 (a + 1) + 1))]).length : Int)) then g (w64 (w64 (w64 (w64 (a + 1) + 1) + 1) + 1)) (w64 (d + 1)) (setC (setC (setC (setC e d.toNat 0 [.s (U176.v a)]) d.toNat 1 [.i .i64 (w64 (a + 1))]) d.toNat 2 [.i .i64 (w64 (w64 (a + 1) + 1))]) d.toNat 3 [.s (U176.v (w64 (w64 (w64 (a + 1) + 1) + 1)))]) else none else none else none else none else none else none else k0 a d e
def l2 {R : Type} (N : Nat) (k0 : F_iir R) : Nat -> F_iir R
 | 0 => fun _ _ _ => none
 | n + 1 => r2 N (l2 N k0 n) k0
def b {R : Type} (N : Nat) (kr : F_ir R) (a : Row) (d : Int) : Option R := l2 N (fun e _ f => kr e f) N d 0 a
def vo := b Lib.big fun r0 r1 => some (r0, r1)
def c := fun a d => (vo a d).isSome
def v := fun a d => (vo a d).getD (0, [])
theorem out {x} : ∀ a d, vo a d = some x -> c a d = true /\ v a d = x := fun _ _ => Lib.out_
end Go.FG.U79

namespace Go.FG.U177
def r2 {R : Type} (N : Nat) (g k0 : F_iir R) (a d : Int) (e : Row) : Option R := bif decide (d < (e.length : Int)) then bif U176.c a then bif decide (0 <= d) && decide (d < (e.length : Int)) then g (w64 (a + 1)) (w64 (d + 1)) (setC e d.toNat 0 [.s (U176.v a)]) else none else none else k0 a d e
def l2 {R : Type} (N : Nat) (k0 : F_iir R) : Nat -> F_iir R
 | 0 => fun _ _ _ => none
 | n + 1 => r2 N (l2 N k0 n) k0
def b {R : Type} (N : Nat) (kr : F_ir R) (a : Row) (d : Int) : Option R := l2 N (fun e _ f => kr e f) N d 0 a
def vo := b Lib.big fun r0 r1 => some (r0, r1)
def c := fun a d => (vo a d).isSome
def v := fun a d => (vo a d).getD (0, [])
theorem out {x} : ∀ a d, vo a d = some x -> c a d = true /\ v a d = x := fun _ _ => Lib.out_
end Go.FG.U177

namespace Go.FG.U254
def r2 {R : Type} (N : Nat) (g k0 : F_iir R) (a d : Int) (e : Row) : Option R := bif decide (d < (e.length : Int)) then bif decide (0 <= d) && decide (d < (e.length : Int)) then g (w64 (a + 1)) (w64 (d + 1)) (setC e d.toNat 0 [.i .i64 a]) else none else k0 a d e
def l2 {R : Type} (N : Nat) (k0 : F_iir R) : Nat -> F_iir R
 | 0 => fun _ _ _ => none
 | n + 1 => r2 N (l2 N k0 n) k0
def b {R : Type} (N : Nat) (kr : F_ir R) (a : Row) (d : Int) : Option R := l2 N (fun e _ f => kr e f) N d 0 a
def vo := b Lib.big fun r0 r1 => some (r0, r1)
def c := fun a d => (vo a d).isSome
def v := fun a d => (vo a d).getD (0, [])
theorem out {x} : ∀ a d, vo a d = some x -> c a d = true /\ v a d = x := fun _ _ => Lib.out_
end Go.FG.U254

namespace Go.FG.U226
def r2 {R : Type} (N : Nat) (g k0 : F_iir R) (a d : Int) (e : Row) : Option R := bif decide (d < (e.length : Int)) then bif decide (0 <= d) && decide (d < (e.length : Int)) then bif U254.c (cvL (cellAt e d.toNat 0)) a then g (U254.v (cvL (cellAt e d.toNat 0)) a).1 (w64 (d + 1)) (setC e d.toNat 0 [CV.l 3 (U254.v (cvL (cellAt e d.toNat 0)) a).2]) else none else none else k0 a d e
def l2 {R : Type} (N : Nat) (k0 : F_iir R) : Nat -> F_iir R
 | 0 => fun _ _ _ => none
 | n + 1 => r2 N (l2 N k0 n) k0
def b {R : Type} (N : Nat) (kr : F_ir R) (a : Row) (d : Int) : Option R := l2 N (fun e _ f => kr e f) N d 0 a
def vo := b Lib.big fun r0 r1 => some (r0, r1)
def c := fun a d => (vo a d).isSome
def v := fun a d => (vo a d).getD (0, [])
theorem out {x} : ∀ a d, vo a d = some x -> c a d = true /\ v a d = x := fun _ _ => Lib.out_
end Go.FG.U226

namespace Go.FG.U178
def b {R : Type} (kr : F_ir R) (a : Row) (d e : Int) : Option R := bif U226.c a e then kr (U226.v a e).1 (U226.v a e).2 else none
def vo := b fun r0 r1 => some (r0, r1)
def c := fun a d e => (vo a d e).isSome
def v := fun a d e => (vo a d e).getD (0, [])
theorem out {x} : ∀ a d e, vo a d e = some x -> c a d e = true /\ v a d e = x := fun _ _ _ => Lib.out_
end Go.FG.U178

namespace Go.FG.U80
def b {R : Type} (kr : F_irrr R) (a d e : Row) (f h : Int) : Option R := bif U177.c a h then bif U177.c d (U177.v a h).1 then bif U178.c e f (U177.v d (U177.v a h).1).1 then kr (U178.v e f (U177.v d (U177.v a h).1).1).1 (U177.v a h).2 (U177.v d (U177.v a h).1).2 (U178.v e f (U177.v d (U177.v a h).1).1).2 else none else none else none
def vo := b fun r0 r1 r2 r3 => some (r0, r1, r2, r3)
def c := fun a d e f h => (vo a d e f h).isSome
def v := fun a d e f h => (vo a d e f h).getD (0, [], [], [])
theorem out {x} : ∀ a d e f h, vo a d e f h = some x -> c a d e f h = true /\ v a d e f h = x := fun _ _ _ _ _ => Lib.out_
end Go.FG.U80

namespace Go.FG.U81
def r2 {R : Type} (N : Nat) (g k0 : F_iir R) (a d : Int) (e : Row) : Option R := bif decide (d < (e.length : Int)) then bif U176.c a then bif decide (0 <= d) && decide (d < (e.length : Int)) then bif U176.c (w64 (a + 1)) then bif decide (0 <= d) && decide (d < ((setC e d.toNat 0 [.s (U176.v a)]).length : Int)) then bif decide (0 <= d) && decide (d < ((setC (setC e d.toNat 0 [.s (U176.v a)]) d.toNat 1 [.s (U176.v (w64 (a + 1)))]).length : Int)) then bif decide (0 <= d) && decide (d < ((setC (setC (setC e d.toNat 0 [.s (U176.v a)]) d.toNat 1 [.s (U176.v (w64 (a + 1)))]) d.toNat 2 [.i .i64 (w64 (w64 (a + 1) + 1))]).length : Int)) then bif decide (0 <= d) && decide (d < ((setC (setC (setC (setC e d.toNat 0 [.s (U176.v a)]) d.toNat 1 [.s (U176.v (w64 (a + 1)))]) d.toNat 2 [.i .i64 (w64 (w64 (a + 1) + 1))]) d.toNat 3 [.i .i64 (w64 (w64 (w64 (a + 1) + 1) + 1))]).length : Int)) then g (w64 (w64 (w64 (w64 (w64 (a + 1) + 1) + 1) + 1) + 1)) (w64 (d + 1)) (setC (setC (setC (setC (setC e d.toNat 0 [.s (U176.v a)]) d.toNat 1 [.s (U176.v (w64 (a + 1)))]) d.toNat 2 [.i .i64 (w64 (w64 (a + 1) + 1))]) d.toNat 3 [.i .i64 (w64 (w64 (w64 (a + 1) + 1) + 1))]) d.toNat 4 [.i .i64 (w64 (w64 (w64 (w64 (a + 1) + 1) + 1) + 1))]) else none else none else none else none else none else none else none else k0 a d e
def l2 {R : Type} (N : Nat) (k0 : F_iir R) : Nat -> F_iir R
 | 0 => fun _ _ _ => none
 | n + 1 => r2 N (l2 N k0 n) k0
def b {R : Type} (N : Nat) (kr : F_ir R) (a : Row) (d : Int) : Option R := l2 N (fun e _ f => kr e f) N d 0 a
def vo := b Lib.big fun r0 r1 => some (r0, r1)
def c := fun a d => (vo a d).isSome
def v := fun a d => (vo a d).getD (0, [])
theorem out {x} : ∀ a d, vo a d = some x -> c a d = true /\ v a d = x := fun _ _ => Lib.out_
end Go.FG.U81

namespace Go.FG.U82
def r2 {R : Type} (N : Nat) (g k0 : F_iir R) (a d : Int) (e : Row) : Option R := bif decide (d < (e.length : Int)) then bif decide (0 <= d) && decide (d < (e.length : Int)) then bif U176.c (w64 (a + 1)) then bif decide (0 <= d) && decide (d < ((setC e d.toNat 0 [.i .i64 a]).length : Int)) then bif decide (0 <= d) && decide (d < ((setC (setC e d.toNat 0 [.i .i64 a]) d.toNat 1 [.s (U176.v (w64 (a + 1)))]).length : Int)) then bif decide (0 <= d) && decide (d < ((setC (setC (setC e d.toNat 0 [.i .i64 a]) d.toNat 1 [.s (U176.v (w64 (a + 1)))]) d.toNat 2 [.i .i64 (w64 (w64 (a + 1) + 1))]).length : Int)) then bif decide (0 <= d) && decide (d < ((setC (setC (setC (setC e d.toNat 0 [.i .i64 a]) d.toNat 1 [.s (U176.v (w64 (a + 1)))]) d.toNat 2 [.i .i64 (w64 (w64 (a + 1) + 1))]) d.toNat 3 [.i .i64 (w64 (w64 (w64 (a + 1) + 1) + 1))]).length : Int)) then bif U176.c (w64 (w64 (w64 (w64 (w64 (a + 1) + 1) + 1) + 1) + 1)) then bif decide (0 <= d) && decide (d < ((setC (setC (setC (setC (setC e d.toNat 0 [.i .i64 a]) d.toNat 1 [.s (U176.v (w64 (a + 1)))]) d.toNat 2 [.i .i64 (w64 (w64 (a + 1) + 1))]) d.toNat 3 [.i .i64 (w64 (w64 (w64 (a + 1) + 1) + 1))]) d.toNat 4 [.i .i64 (w64 (w64 (w64 (w64 (a + 1) + 1) + 1) + 1))]).length : Int)) then bif decide (0 <= d) && decide (d < ((setC (setC (setC (setC (setC (setC e d.toNat 0 [.i .i64 a]) d.toNat 1 [.s (U176.v (w64 (a + 1)))]) d.toNat 2 [.i .i64 (w64 (w64 (a + 1) + 1))]) d.toNat 3 [.i .i64 (w64 (w64 (w64 (a + 1) + 1) + 1))]) d.toNat 4 [.i .i64 (w64 (w64 (w64 (w64 (a + 1) + 1) + 1) + 1))]) d.toNat 5 [.s (U176.v (w64 (w64 (w64 (w64 (w64 (a + 1) + 1) + 1) + 1) + 1)))]).length : Int)) then g (w64 (w64 (w64 (w64 (w64 (w64 (w64 (a + 1) + 1) + 1) + 1) + 1) + 1) + 1)) (w64 (d + 1)) (setC (setC (setC (setC (setC (setC (setC e d.toNat 0 [.i .i64 a]) d.toNat 1 [.s (U176.v (w64 (a + 1)))]) d.toNat 2 [.i .i64 (w64 (w64 (a + 1) + 1))]) d.toNat 3 [.i .i64 (w64 (w64 (w64 (a + 1) + 1) + 1))]) d.toNat 4 [.i .i64 (w64 (w64 (w64 (w64 (a + 1) + 1) + 1) + 1))]) d.toNat 5 [.s (U176.v (w64 (w64 (w64 (w64 (w64 (a + 1) + 1) + 1) + 1) + 1)))]) d.toNat 6 [.i .i64 (w64 (w64 (w64 (w64 (w64 (w64 (a + 1) + 1) + 1) + 1) + 1) + 1))]) else none else none else none else none else none else none else none else none else none else k0 a d e
def l2 {R : Type} (N : Nat) (k0 : F_iir R) : Nat -> F_iir R
 | 0 => fun _ _ _ => none
 | n + 1 => r2 N (l2 N k0 n) k0
def b {R : Type} (N : Nat) (kr : F_ir R) (a : Row) (d : Int) : Option R := l2 N (fun e _ f => kr e f) N d 0 a
def vo := b Lib.big fun r0 r1 => some (r0, r1)
def c := fun a d => (vo a d).isSome
def v := fun a d => (vo a d).getD (0, [])
theorem out {x} : ∀ a d, vo a d = some x -> c a d = true /\ v a d = x := fun _ _ => Lib.out_
end Go.FG.U82

namespace Go.FG.U13
def b {R : Type} (kr : F_irrrrrr R) (a : Int) (d e f h : Row) (i : Int) (j l : Row) (m o : Int) : Option R := bif U79.c d o then bif U80.c e f h i (U79.v d o).1 then bif U81.c j (U80.v e f h i (U79.v d o).1).1 then bif U82.c l (U81.v j (U80.v e f h i (U79.v d o).1).1).1 then kr (U82.v l (U81.v j (U80.v e f h i (U79.v d o).1).1).1).1 (U79.v d o).2 (U80.v e f h i (U79.v d o).1).2.1 (U80.v e f h i (U79.v d o).1).2.2.1 (U80.v e f h i (U79.v d o).1).2.2.2 (U81.v j (U80.v e f h i (U79.v d o).1).1).2 (U82.v l (U81.v j (U80.v e f h i (U79.v d o).1).1).1).2 else none else none else none else none
def vo := b fun r0 r1 r2 r3 r4 r5 r6 => some (r0, r1, r2, r3, r4, r5, r6)
def c := fun a d e f h i j l m o => (vo a d e f h i j l m o).isSome
def v := fun a d e f h i j l m o => (vo a d e f h i j l m o).getD (0, [], [], [], [], [], [])
theorem out {x} : ∀ a d e f h i j l m o, vo a d e f h i j l m o = some x -> c a d e f h i j l m o = true /\ v a d e f h i j l m o = x := fun _ _ _ _ _ _ _ _ _ _ => Lib.out_
end Go.FG.U13

namespace Go.FG.U83
def r2 {R : Type} (N : Nat) (g k0 k1 : F_riii R) (a : Row) (d e f : Int) : Option R := bif decide (f < (a.length : Int)) then bif decide (0 <= f) && decide (f < (a.length : Int)) then bif U176.c d then bif !List.beq (cvS (cellAt a f.toNat 0)).toList (U176.v d).toList then k0 a d (-1) f else bif decide (0 <= f) && decide (f < (a.length : Int)) then bif cvI (cellAt a f.toNat 1) != w64 (d + 1) then k0 a (w64 (d + 1)) (-1) f else bif decide (0 <= f) && decide (f < (a.length : Int)) then bif cvI (cellAt a f.toNat 2) != w64 (w64 (d + 1) + 1) then k0 a (w64 (w64 (d + 1) + 1)) (-1) f else bif decide (0 <= f) && decide (f < (a.length : Int)) then bif U176.c (w64 (w64 (w64 (d + 1) + 1) + 1)) then bif !List.beq (cvS (cellAt a f.toNat 3)).toList (U176.v (w64 (w64 (w64 (d + 1) + 1) + 1))).toList then k0 a (w64 (w64 (w64 (d + 1) + 1) + 1)) (-1) f else g a (w64 (w64 (w64 (w64 (d + 1) + 1) + 1) + 1)) e (w64 (f + 1)) else none else none else none else none else none else none else k1 a d e f
def l2 {R : Type} (N : Nat) (k0 k1 : F_riii R) : Nat -> F_riii R
 | 0 => fun _ _ _ _ => none
 | n + 1 => r2 N (l2 N k0 k1 n) k0 k1
def b {R : Type} (N : Nat) (kr : Int -> Option R) (a : Row) (d : Int) : Option R := l2 N (fun _ _ e _ => kr e) (fun _ f _ _ => kr f) N a d 0 0
def vo := b Lib.big fun r0 => some r0
def c := fun a d => (vo a d).isSome
def v := fun a d => (vo a d).getD (0)
theorem out {x} : ∀ a d, vo a d = some x -> c a d = true /\ v a d = x := fun _ _ => Lib.out_
end Go.FG.U83

namespace Go.FG.U179
def r2 {R : Type} (N : Nat) (g k0 k1 : F_riii R) (a : Row) (d e f : Int) : Option R := bif decide (f < (a.length : Int)) then bif decide (0 <= f) && decide (f < (a.length : Int)) then bif U176.c d then bif !List.beq (cvS (cellAt a f.toNat 0)).toList (U176.v d).toList then k0 a d (-1) f else g a (w64 (d + 1)) e (w64 (f + 1)) else none else none else k1 a d e f
def l2 {R : Type} (N : Nat) (k0 k1 : F_riii R) : Nat -> F_riii R
 | 0 => fun _ _ _ _ => none
 | n + 1 => r2 N (l2 N k0 k1 n) k0 k1
def b {R : Type} (N : Nat) (kr : Int -> Option R) (a : Row) (d : Int) : Option R := l2 N (fun _ _ e _ => kr e) (fun _ f _ _ => kr f) N a d 0 0
def vo := b Lib.big fun r0 => some r0
def c := fun a d => (vo a d).isSome
def v := fun a d => (vo a d).getD (0)
theorem out {x} : ∀ a d, vo a d = some x -> c a d = true /\ v a d = x := fun _ _ => Lib.out_
end Go.FG.U179

namespace Go.FG.U255
def r2 {R : Type} (N : Nat) (g k0 k1 : F_riii R) (a : Row) (d e f : Int) : Option R := bif decide (f < (a.length : Int)) then bif decide (0 <= f) && decide (f < (a.length : Int)) then bif cvI (cellAt a f.toNat 0) != d then k0 a d (-1) f else g a (w64 (d + 1)) e (w64 (f + 1)) else none else k1 a d e f
def l2 {R : Type} (N : Nat) (k0 k1 : F_riii R) : Nat -> F_riii R
 | 0 => fun _ _ _ _ => none
 | n + 1 => r2 N (l2 N k0 k1 n) k0 k1
def b {R : Type} (N : Nat) (kr : Int -> Option R) (a : Row) (d : Int) : Option R := l2 N (fun _ _ e _ => kr e) (fun _ f _ _ => kr f) N a d 0 0
def vo := b Lib.big fun r0 => some r0
def c := fun a d => (vo a d).isSome
def v := fun a d => (vo a d).getD (0)
theorem out {x} : ∀ a d, vo a d = some x -> c a d = true /\ v a d = x := fun _ _ => Lib.out_
end Go.FG.U255

namespace Go.FG.U227
def r2 {R : Type} (N : Nat) (g k0 k1 : F_riii R) (a : Row) (d e f : Int) : Option R := bif decide (f < (a.length : Int)) then bif decide (0 <= f) && decide (f < (a.length : Int)) then bif U255.c (cvL (cellAt a f.toNat 0)) d then bif decide (U255.v (cvL (cellAt a f.toNat 0)) d < 0) then k0 a (U255.v (cvL (cellAt a f.toNat 0)) d) (-1) f else g a (U255.v (cvL (cellAt a f.toNat 0)) d) e (w64 (f + 1)) else none else none else k1 a d e f
def l2 {R : Type} (N : Nat) (k0 k1 : F_riii R) : Nat -> F_riii R
 | 0 => fun _ _ _ _ => none
 | n + 1 => r2 N (l2 N k0 k1 n) k0 k1
def b {R : Type} (N : Nat) (kr : Int -> Option R) (a : Row) (d : Int) : Option R := l2 N (fun _ _ e _ => kr e) (fun _ f _ _ => kr f) N a d 0 0
def vo := b Lib.big fun r0 => some r0
def c := fun a d => (vo a d).isSome
def v := fun a d => (vo a d).getD (0)
theorem out {x} : ∀ a d, vo a d = some x -> c a d = true /\ v a d = x := fun _ _ => Lib.out_
end Go.FG.U227

namespace Go.FG.U180
def b {R : Type} (kr : Int -> Option R) (a : Row) (d e : Int) : Option R := bif U227.c a e then bif decide (U227.v a e < 0) then kr (-1) else kr (U227.v a e) else none
def vo := b fun r0 => some r0
def c := fun a d e => (vo a d e).isSome
def v := fun a d e => (vo a d e).getD (0)
theorem out {x} : ∀ a d e, vo a d e = some x -> c a d e = true /\ v a d e = x := fun _ _ _ => Lib.out_
end Go.FG.U180

namespace Go.FG.U84
def b {R : Type} (kr : Int -> Option R) (a d e : Row) (f h : Int) : Option R := bif U179.c a h then bif decide (U179.v a h < 0) then kr (-1) else bif U179.c d (U179.v a h) then bif decide (U179.v d (U179.v a h) < 0) then kr (-1) else bif U180.c e f (U179.v d (U179.v a h)) then bif decide (U180.v e f (U179.v d (U179.v a h)) < 0) then kr (-1) else kr (U180.v e f (U179.v d (U179.v a h))) else none else none else none
def vo := b fun r0 => some r0
def c := fun a d e f h => (vo a d e f h).isSome
def v := fun a d e f h => (vo a d e f h).getD (0)
theorem out {x} : ∀ a d e f h, vo a d e f h = some x -> c a d e f h = true /\ v a d e f h = x := fun _ _ _ _ _ => Lib.out_
end Go.FG.U84

namespace Go.FG.U85
def r2 {R : Type} (N : Nat) (g k0 k1 : F_riii R) (a : Row) (d e f : Int) : Option R := bif decide (f < (a.length : Int)) then bif decide (0 <= f) && decide (f < (a.length : Int)) then bif U176.c d then bif !List.beq (cvS (cellAt a f.toNat 0)).toList (U176.v d).toList then k0 a d (-1) f else bif decide (0 <= f) && decide (f < (a.length : Int)) then bif U176.c (w64 (d + 1)) then bif !List.beq (cvS (cellAt a f.toNat 1)).toList (U176.v (w64 (d + 1))).toList then k0 a (w64 (d + 1)) (-1) f else bif decide (0 <= f) && decide (f < (a.length : Int)) then bif cvI (cellAt a f.toNat 2) != w64 (w64 (d + 1) + 1) then k0 a (w64 (w64 (d + 1) + 1)) (-1) f else bif decide (0 <= f) && decide (f < (a.length : Int)) then bif cvI (cellAt a f.toNat 3) != w64 (w64 (w64 (d + 1) + 1) + 1) then k0 a (w64 (w64 (w64 (d + 1) + 1) + 1)) (-1) f else bif decide (0 <= f) && decide (f < (a.length : Int)) then bif cvI (cellAt a f.toNat 4) != w64 (w64 (w64 (w64 (d + 1) + 1) + 1) + 1) then k0 a (w64 (w64 (w64 (w64 (d + 1) + 1) + 1) + 1)) (-1) f else g a (w64 (w64 (w64 (w64 (w64 (d + 1) + 1) + 1) + 1) + 1)) e (w64 (f + 1)) else none else none else none else none else none else none else none else k1 a d e f
def l2 {R : Type} (N : Nat) (k0 k1 : F_riii R) : Nat -> F_riii R
 | 0 => fun _ _ _ _ => none
 | n + 1 => r2 N (l2 N k0 k1 n) k0 k1
def b {R : Type} (N : Nat) (kr : Int -> Option R) (a : Row) (d : Int) : Option R := l2 N (fun _ _ e _ => kr e) (fun _ f _ _ => kr f) N a d 0 0
def vo := b Lib.big fun r0 => some r0
def c := fun a d => (vo a d).isSome
def v := fun a d => (vo a d).getD (0)
theorem out {x} : ∀ a d, vo a d = some x -> c a d = true /\ v a d = x := fun _ _ => Lib.out_
end Go.FG.U85

namespace Go.FG.U86
def r2 {R : Type} (N : Nat) (g k0 k1 : F_riii R) (a : Row) (d e f : Int) : Option R := bif decide (f < (a.length : Int)) then bif decide (0 <= f) && decide (f < (a.length : Int)) then bif cvI (cellAt a f.toNat 0) != d then k0 a d (-1) f else bif decide (0 <= f) && decide (f < (a.length : Int)) then bif U176.c (w64 (d + 1)) then bif !List.beq (cvS (cellAt a f.toNat 1)).toList (U176.v (w64 (d + 1))).toList then k0 a (w64 (d + 1)) (-1) f else bif decide (0 <= f) && decide (f < (a.length : Int)) then bif cvI (cellAt a f.toNat 2) != w64 (w64 (d + 1) + 1) then k0 a (w64 (w64 (d + 1) + 1)) (-1) f else bif decide (0 <= f) && decide (f < (a.length : Int)) then bif cvI (cellAt a f.toNat 3) != w64 (w64 (w64 (d + 1) + 1) + 1) then k0 a (w64 (w64 (w64 (d + 1) + 1) + 1)) (-1) f else bif decide (0 <= f) && decide (f < (a.length : Int)) then bif cvI (cellAt a f.toNat 4) != w64 (w64 (w64 (w64 (d + 1) + 1) + 1) + 1) then k0 a (w64 (w64 (w64 (w64 (d + 1) + 1) + 1) + 1)) (-1) f else bif decide (0 <= f) && decide (f < (a.length : Int)) then bif U176.c (w64 (w64 (w64 (w64 (w64 (d + 1) + 1) + 1) + 1) + 1)) then bif !List.beq (cvS (cellAt a f.toNat 5)).toList (U176.v (w64 (w64 (w64 (w64 (w64 (d + 1) + 1) + 1) + 1) + 1))).toList then k0 a (w64 (w64 (w64 (w64 (w64 (d + 1) + 1) + 1) + 1) + 1)) (-1) f else bif decide (0 <= f) && decide (f < (a.length : Int)) then bif cvI (cellAt a f.toNat 6) != w64 (w64 (w64 (w64 (w64 (w64 (d + 1) + 1) + 1) + 1) + 1) + 1) then k0 a (w64 (w64 (w64 (w64 (w64 (w64 (d + 1) + 1) + 1) + 1) + 1) + 1)) (-1) f else g a (w64 (w64 (w64 (w64 (w64 (w64 (w64 (d + 1) + 1) + 1) + 1) + 1) + 1) + 1)) e (w64 (f + 1)) else none else none else none else none else none else none else none else none else none else k1 a d e f
def l2 {R : Type} (N : Nat) (k0 k1 : F_riii R) : Nat -> F_riii R
 | 0 => fun _ _ _ _ => none
 | n + 1 => r2 N (l2 N k0 k1 n) k0 k1
def b {R : Type} (N : Nat) (kr : Int -> Option R) (a : Row) (d : Int) : Option R := l2 N (fun _ _ e _ => kr e) (fun _ f _ _ => kr f) N a d 0 0
def vo := b Lib.big fun r0 => some r0
def c := fun a d => (vo a d).isSome
def v := fun a d => (vo a d).getD (0)
theorem out {x} : ∀ a d, vo a d = some x -> c a d = true /\ v a d = x := fun _ _ => Lib.out_
end Go.FG.U86

namespace Go.FG.U14
def b {R : Type} (kr : Int -> Option R) (a : Int) (d e f h : Row) (i : Int) (j l : Row) (m o : Int) : Option R := bif U83.c d o then bif decide (U83.v d o < 0) then kr (-1) else bif U84.c e f h i (U83.v d o) then bif decide (U84.v e f h i (U83.v d o) < 0) then kr (-1) else bif U85.c j (U84.v e f h i (U83.v d o)) then bif decide (U85.v j (U84.v e f h i (U83.v d o)) < 0) then kr (-1) else bif U86.c l (U85.v j (U84.v e f h i (U83.v d o))) then bif decide (U86.v l (U85.v j (U84.v e f h i (U83.v d o))) < 0) then kr (-1) else kr (U86.v l (U85.v j (U84.v e f h i (U83.v d o)))) else none else none else none else none
def vo := b fun r0 => some r0
def c := fun a d e f h i j l m o => (vo a d e f h i j l m o).isSome
def v := fun a d e f h i j l m o => (vo a d e f h i j l m o).getD (0)
theorem out {x} : ∀ a d e f h i j l m o, vo a d e f h i j l m o = some x -> c a d e f h i j l m o = true /\ v a d e f h i j l m o = x := fun _ _ _ _ _ _ _ _ _ _ => Lib.out_
end Go.FG.U14

namespace Go.FG.U3
def b {R : Type} (kr : Bool -> Option R) (a : Int) (d e f h : Row) (i : Int) (j l : Row) (m o : Int) (p : ByteArray) : Option R := bif decide ((p.size : Int) > 1048576) then kr true else bif U8.c a d e f h i j l m 1048576 then Lib.lt (U8.v a d e f h i j l m 1048576) fun q => bif decide (q < 0) then kr true else bif U10.c a d e f h i j l m then Lib.lt (U10.v a d e f h i j l m) fun r => bif U9.c r.1 r.2.1 r.2.2.1 r.2.2.2.1 r.2.2.2.2.1 r.2.2.2.2.2.1 r.2.2.2.2.2.2.1 r.2.2.2.2.2.2.2.1 r.2.2.2.2.2.2.2.2 o p then Lib.lt (U9.v r.1 r.2.1 r.2.2.1 r.2.2.2.1 r.2.2.2.2.1 r.2.2.2.2.2.1 r.2.2.2.2.2.2.1 r.2.2.2.2.2.2.2.1 r.2.2.2.2.2.2.2.2 o p) fun s => bif U10.c a d e f h i j l m then bif U11.c r.1 r.2.1 r.2.2.1 r.2.2.2.1 r.2.2.2.2.1 r.2.2.2.2.2.1 r.2.2.2.2.2.2.1 r.2.2.2.2.2.2.2.1 r.2.2.2.2.2.2.2.2 o p then Lib.lt (U11.v r.1 r.2.1 r.2.2.1 r.2.2.2.1 r.2.2.2.2.1 r.2.2.2.2.2.1 r.2.2.2.2.2.2.1 r.2.2.2.2.2.2.2.1 r.2.2.2.2.2.2.2.2 o p) fun t => bif U12.c t.1 t.2.1 t.2.2.1 t.2.2.2.1 t.2.2.2.2.1 t.2.2.2.2.2.1 t.2.2.2.2.2.2.1 t.2.2.2.2.2.2.2.1 t.2.2.2.2.2.2.2.2.1 s.1 s.2.1 s.2.2.1 s.2.2.2.1 s.2.2.2.2.1 s.2.2.2.2.2.1 s.2.2.2.2.2.2.1 s.2.2.2.2.2.2.2.1 s.2.2.2.2.2.2.2.2.1 then Lib.lt (U12.v t.1 t.2.1 t.2.2.1 t.2.2.2.1 t.2.2.2.2.1 t.2.2.2.2.2.1 t.2.2.2.2.2.2.1 t.2.2.2.2.2.2.2.1 t.2.2.2.2.2.2.2.2.1 s.1 s.2.1 s.2.2.1 s.2.2.2.1 s.2.2.2.2.1 s.2.2.2.2.2.1 s.2.2.2.2.2.2.1 s.2.2.2.2.2.2.2.1 s.2.2.2.2.2.2.2.2.1) fun u => bif !u then kr false else bif t.2.2.2.2.2.2.2.2.2 != s.2.2.2.2.2.2.2.2.2 then kr false else bif U10.c a d e f h i j l m then bif U12.c r.1 r.2.1 r.2.2.1 r.2.2.2.1 r.2.2.2.2.1 r.2.2.2.2.2.1 r.2.2.2.2.2.2.1 r.2.2.2.2.2.2.2.1 r.2.2.2.2.2.2.2.2 r.1 r.2.1 r.2.2.1 r.2.2.2.1 r.2.2.2.2.1 r.2.2.2.2.2.1 r.2.2.2.2.2.2.1 r.2.2.2.2.2.2.2.1 r.2.2.2.2.2.2.2.2 then Lib.lt (U12.v r.1 r.2.1 r.2.2.1 r.2.2.2.1 r.2.2.2.2.1 r.2.2.2.2.2.1 r.2.2.2.2.2.2.1 r.2.2.2.2.2.2.2.1 r.2.2.2.2.2.2.2.2 r.1 r.2.1 r.2.2.1 r.2.2.2.1 r.2.2.2.2.1 r.2.2.2.2.2.1 r.2.2.2.2.2.2.1 r.2.2.2.2.2.2.2.1 r.2.2.2.2.2.2.2.2) fun w => bif !w then kr false else bif U13.c r.1 r.2.1 r.2.2.1 r.2.2.2.1 r.2.2.2.2.1 r.2.2.2.2.2.1 r.2.2.2.2.2.2.1 r.2.2.2.2.2.2.2.1 r.2.2.2.2.2.2.2.2 1 then Lib.lt (U13.v r.1 r.2.1 r.2.2.1 r.2.2.2.1 r.2.2.2.2.1 r.2.2.2.2.2.1 r.2.2.2.2.2.2.1 r.2.2.2.2.2.2.2.1 r.2.2.2.2.2.2.2.2 1) fun y => bif decide (y.1 < 0) then kr false else bif U12.c t.1 t.2.1 t.2.2.1 t.2.2.2.1 t.2.2.2.2.1 t.2.2.2.2.2.1 t.2.2.2.2.2.2.1 t.2.2.2.2.2.2.2.1 t.2.2.2.2.2.2.2.2.1 s.1 s.2.1 s.2.2.1 s.2.2.2.1 s.2.2.2.2.1 s.2.2.2.2.2.1 s.2.2.2.2.2.2.1 s.2.2.2.2.2.2.2.1 s.2.2.2.2.2.2.2.2.1 then bif !u then kr false else bif t.2.2.2.2.2.2.2.2.2 != s.2.2.2.2.2.2.2.2.2 then kr false else bif U13.c t.1 t.2.1 t.2.2.1 t.2.2.2.1 t.2.2.2.2.1 t.2.2.2.2.2.1 t.2.2.2.2.2.2.1 t.2.2.2.2.2.2.2.1 t.2.2.2.2.2.2.2.2.1 1 then Lib.lt (U13.v t.1 t.2.1 t.2.2.1 t.2.2.2.1 t.2.2.2.2.1 t.2.2.2.2.2.1 t.2.2.2.2.2.2.1 t.2.2.2.2.2.2.2.1 t.2.2.2.2.2.2.2.2.1 1) fun z => bif U14.c t.1 z.2.1 z.2.2.1 z.2.2.2.1 z.2.2.2.2.1 t.2.2.2.2.2.1 z.2.2.2.2.2.1 z.2.2.2.2.2.2 t.2.2.2.2.2.2.2.2.1 1 then Lib.lt (U14.v t.1 z.2.1 z.2.2.1 z.2.2.2.1 z.2.2.2.2.1 t.2.2.2.2.2.1 z.2.2.2.2.2.1 z.2.2.2.2.2.2 t.2.2.2.2.2.2.2.2.1 1) fun α => bif decide (α < 0) then kr false else bif α != z.1 then kr false else bif U10.c a d e f h i j l m then bif U11.c r.1 r.2.1 r.2.2.1 r.2.2.2.1 r.2.2.2.2.1 r.2.2.2.2.2.1 r.2.2.2.2.2.2.1 r.2.2.2.2.2.2.2.1 r.2.2.2.2.2.2.2.2 o p then bif U12.c t.1 t.2.1 t.2.2.1 t.2.2.2.1 t.2.2.2.2.1 t.2.2.2.2.2.1 t.2.2.2.2.2.2.1 t.2.2.2.2.2.2.2.1 t.2.2.2.2.2.2.2.2.1 s.1 s.2.1 s.2.2.1 s.2.2.2.1 s.2.2.2.2.1 s.2.2.2.2.2.1 s.2.2.2.2.2.2.1 s.2.2.2.2.2.2.2.1 s.2.2.2.2.2.2.2.2.1 then bif !u then kr false else bif t.2.2.2.2.2.2.2.2.2 != s.2.2.2.2.2.2.2.2.2 then kr false else bif U14.c t.1 z.2.1 z.2.2.1 z.2.2.2.1 z.2.2.2.2.1 t.2.2.2.2.2.1 z.2.2.2.2.2.1 z.2.2.2.2.2.2 t.2.2.2.2.2.2.2.2.1 1 then bif decide (α < 0) then kr false else bif α != z.1 then kr false else kr true else none else none else none else none else none else none else none else none else none else none else none else none else none else none else none else none
def vo := b fun r0 => some r0
def c := fun a d e f h i j l m o p => (vo a d e f h i j l m o p).isSome
def v := fun a d e f h i j l m o p => (vo a d e f h i j l m o p).getD false
theorem out {x} : ∀ a d e f h i j l m o p, vo a d e f h i j l m o p = some x -> c a d e f h i j l m o p = true /\ v a d e f h i j l m o p = x := fun _ _ _ _ _ _ _ _ _ _ _ => Lib.out_
end Go.FG.U3

namespace Go.FG.U198
def r9 {R : Type} (N : Nat) (g k0 : F_risiisr R) (a : Row) (d : Int) (e : ByteArray) (f h : Int) (i : ByteArray) (j : Row) : Option R := bif decide (d < (a.length : Int)) then bif decide (0 <= d) && decide (d < (a.length : Int)) then bif !(Op.bytesLess (cvS (cellAt a d.toNat 0)).toList (ByteArray.toList e) || List.beq (cvS (cellAt a d.toNat 0)).toList (ByteArray.toList e)) then bif decide (0 <= d) && decide (d < (a.length : Int)) then bif roomy (j.length + (List.set (zeros [Ck.s, Ck.i IntKind.i64, Ck.i IntKind.i64, Ck.s] 1) 0 [.s (cvS (cellAt a d.toNat 0)), .i .i64 (cvI (cellAt a d.toNat 1)), .i .i64 (cvI (cellAt a d.toNat (1 + 1))), .s (cvS (cellAt a d.toNat (1 + 1 + 1)))]).length) 48 then g a (w64 (d + 1)) e f h i (j ++ List.set (zeros [Ck.s, Ck.i IntKind.i64, Ck.i IntKind.i64, Ck.s] 1) 0 [.s (cvS (cellAt a d.toNat 0)), .i .i64 (cvI (cellAt a d.toNat 1)), .i .i64 (cvI (cellAt a d.toNat (1 + 1))), .s (cvS (cellAt a d.toNat (1 + 1 + 1)))]) else none else none else g a (w64 (d + 1)) e f h i j else none else k0 a d e f h i j
def l9 {R : Type} (N : Nat) (k0 : F_risiisr R) : Nat -> F_risiisr R
 | 0 => fun _ _ _ _ _ _ _ => none
 | n + 1 => r9 N (l9 N k0 n) k0
def r3 {R : Type} (N : Nat) (g k0 : F_risiisr R) (a : Row) (d : Int) (e : ByteArray) (f h : Int) (i : ByteArray) (j : Row) : Option R := bif decide (d < (a.length : Int)) then bif decide (0 <= d) && decide (d < (a.length : Int)) then bif Op.bytesLess (cvS (cellAt a d.toNat 0)).toList (ByteArray.toList e) then bif decide (0 <= d) && decide (d < (a.length : Int)) then bif roomy (j.length + (List.set (zeros [Ck.s, Ck.i IntKind.i64, Ck.i IntKind.i64, Ck.s] 1) 0 [.s (cvS (cellAt a d.toNat 0)), .i .i64 (cvI (cellAt a d.toNat 1)), .i .i64 (cvI (cellAt a d.toNat (1 + 1))), .s (cvS (cellAt a d.toNat (1 + 1 + 1)))]).length) 48 then g a (w64 (d + 1)) e f h i (j ++ List.set (zeros [Ck.s, Ck.i IntKind.i64, Ck.i IntKind.i64, Ck.s] 1) 0 [.s (cvS (cellAt a d.toNat 0)), .i .i64 (cvI (cellAt a d.toNat 1)), .i .i64 (cvI (cellAt a d.toNat (1 + 1))), .s (cvS (cellAt a d.toNat (1 + 1 + 1)))]) else none else none else g a (w64 (d + 1)) e f h i j else none else k0 a d e f h i j
def l3 {R : Type} (N : Nat) (k0 : F_risiisr R) : Nat -> F_risiisr R
 | 0 => fun _ _ _ _ _ _ _ => none
 | n + 1 => r3 N (l3 N k0 n) k0
def b {R : Type} (N : Nat) (kr : Row -> Option R) (a : Row) (d : ByteArray) (e f : Int) (h : ByteArray) : Option R := l3 N (fun i _ j l m o p => bif roomy (p.length + (List.set (zeros [Ck.s, Ck.i IntKind.i64, Ck.i IntKind.i64, Ck.s] 1) 0 [.s j, .i .i64 l, .i .i64 m, .s o]).length) 48 then l9 N (fun _ _ _ _ _ _ q => kr q) N i 0 j l m o (p ++ List.set (zeros [Ck.s, Ck.i IntKind.i64, Ck.i IntKind.i64, Ck.s] 1) 0 [.s j, .i .i64 l, .i .i64 m, .s o]) else none) N a 0 d e f h (zeros [Ck.s, Ck.i IntKind.i64, Ck.i IntKind.i64, Ck.s] 0)
def vo := b Lib.big fun r0 => some r0
def c := fun a d e f h => (vo a d e f h).isSome
def v := fun a d e f h => (vo a d e f h).getD ([])
end Go.FG.U198

