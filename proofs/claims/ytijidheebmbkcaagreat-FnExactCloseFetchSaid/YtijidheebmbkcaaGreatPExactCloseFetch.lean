/- Functions of the program, told as functions of numbers, texts and lists, and what each comes to. No condition but those that each states. -/
import Derived.Test.YtijidheebmbkcaaGreatLib
set_option linter.unusedVariables false
set_option linter.unusedSimpArgs false
set_option maxRecDepth 100000
namespace Go.FG
abbrev F_riii (R : Type) := Row -> Int -> Int -> Int -> Option R
abbrev F_siis (R : Type) := ByteArray -> Int -> Int -> ByteArray -> Option R
abbrev F_rir (R : Type) := Row -> Int -> Row -> Option R
abbrev F_ri (R : Type) := Row -> Int -> Option R
abbrev F_rrri (R : Type) := Row -> Row -> Row -> Int -> Option R
abbrev F_ssiii (R : Type) := ByteArray -> ByteArray -> Int -> Int -> Int -> Option R
abbrev F_isiiisi (R : Type) := Int -> ByteArray -> Int -> Int -> Int -> ByteArray -> Int -> Option R
abbrev F_irrrrirri (R : Type) := Int -> Row -> Row -> Row -> Row -> Int -> Row -> Row -> Int -> Option R
abbrev F_iriii (R : Type) := Int -> Row -> Int -> Int -> Int -> Option R
abbrev F_iriiir (R : Type) := Int -> Row -> Int -> Int -> Int -> Row -> Option R
abbrev F_rsbi (R : Type) := Row -> ByteArray -> Bool -> Int -> Option R
abbrev F_biiri (R : Type) := Bool -> Int -> Int -> Row -> Int -> Option R
abbrev F_biri (R : Type) := Bool -> Int -> Row -> Int -> Option R
abbrev F_birrrir (R : Type) := Bool -> Int -> Row -> Row -> Row -> Int -> Row -> Option R
abbrev F_biirrrrirri (R : Type) := Bool -> Int -> Int -> Row -> Row -> Row -> Row -> Int -> Row -> Row -> Int -> Option R
abbrev F_ibiirrrrirrissiii (R : Type) := Int -> Bool -> Int -> Int -> Row -> Row -> Row -> Row -> Int -> Row -> Row -> Int -> ByteArray -> ByteArray -> Int -> Int -> Int -> Option R
abbrev F_iiiiiirrrrrr (R : Type) := Int -> Int -> Int -> Int -> Int -> Int -> Row -> Row -> Row -> Row -> Row -> Row -> Option R
abbrev F_isii (R : Type) := Int -> ByteArray -> Int -> Int -> Option R
abbrev F_isi (R : Type) := Int -> ByteArray -> Int -> Option R
abbrev F_iiiir (R : Type) := Int -> Int -> Int -> Int -> Row -> Option R
abbrev F_iiir (R : Type) := Int -> Int -> Int -> Row -> Option R
abbrev F_siiir (R : Type) := ByteArray -> Int -> Int -> Int -> Row -> Option R
abbrev F_rsir (R : Type) := Row -> ByteArray -> Int -> Row -> Option R
abbrev F_siiri (R : Type) := ByteArray -> Int -> Int -> Row -> Int -> Option R
abbrev F_rrris (R : Type) := Row -> Row -> Row -> Int -> ByteArray -> Option R
abbrev F_risiisr (R : Type) := Row -> Int -> ByteArray -> Int -> Int -> ByteArray -> Row -> Option R
abbrev F_irrrrirrib (R : Type) := Int -> Row -> Row -> Row -> Row -> Int -> Row -> Row -> Int -> Bool -> Option R
abbrev F_riiii (R : Type) := Row -> Int -> Int -> Int -> Int -> Option R
abbrev F_riiiir (R : Type) := Row -> Int -> Int -> Int -> Int -> Row -> Option R
abbrev F_riir (R : Type) := Row -> Int -> Int -> Row -> Option R
abbrev F_ririi (R : Type) := Row -> Int -> Row -> Int -> Int -> Option R
abbrev F_rsiii (R : Type) := Row -> ByteArray -> Int -> Int -> Int -> Option R
abbrev F_brriiriiri (R : Type) := Bool -> Row -> Row -> Int -> Int -> Row -> Int -> Int -> Row -> Int -> Option R
abbrev F_briiri (R : Type) := Bool -> Row -> Int -> Int -> Row -> Int -> Option R
abbrev F_biirrrir (R : Type) := Bool -> Int -> Int -> Row -> Row -> Row -> Int -> Row -> Option R
abbrev F_briiirrrrirri (R : Type) := Bool -> Row -> Int -> Int -> Int -> Row -> Row -> Row -> Row -> Int -> Row -> Row -> Int -> Option R
abbrev F_iiiiiiirrrrrr (R : Type) := Int -> Int -> Int -> Int -> Int -> Int -> Int -> Row -> Row -> Row -> Row -> Row -> Row -> Option R
abbrev F_niiiiiir (R : Type) := Nat -> Int -> Int -> Int -> Int -> Int -> Int -> Row -> Option R
abbrev F_siiiir (R : Type) := ByteArray -> Int -> Int -> Int -> Int -> Row -> Option R
abbrev F_siir (R : Type) := ByteArray -> Int -> Int -> Row -> Option R
abbrev F_sirii (R : Type) := ByteArray -> Int -> Row -> Int -> Int -> Option R
abbrev F_isiisr (R : Type) := Int -> ByteArray -> Int -> Int -> ByteArray -> Row -> Option R
abbrev F_rrbi (R : Type) := Row -> Row -> Bool -> Int -> Option R
abbrev F_is (R : Type) := Int -> ByteArray -> Option R
abbrev F_iir (R : Type) := Int -> Int -> Row -> Option R
abbrev F_ir (R : Type) := Int -> Row -> Option R
abbrev F_irrr (R : Type) := Int -> Row -> Row -> Row -> Option R
abbrev F_irrrrrr (R : Type) := Int -> Row -> Row -> Row -> Row -> Row -> Row -> Option R
end Go.FG

namespace Go.FG.U49
def b {R : Type} (kr : Int -> Option R) (a : ByteArray) (d e : Int) (f : ByteArray) (h : Int) : Option R := bif decide (w64 (h - (a.size : Int)) < 0) then kr (-1) else bif decide (w64 (w64 (h - (a.size : Int)) - (f.size : Int)) < 0) then kr (-1) else kr (w64 (w64 (h - (a.size : Int)) - (f.size : Int)))
def v (a0 : ByteArray) (a1 a2 : Int) (a3 : ByteArray) (a4 : Int) : Int := bif decide (w64 (a4 - (a0.size : Int)) < 0) then -1 else bif decide (w64 (w64 (a4 - (a0.size : Int)) - (a3.size : Int)) < 0) then -1 else w64 (w64 (a4 - (a0.size : Int)) - (a3.size : Int))
theorem b_eq {R : Type} (kr : Int -> Option R) (a0 : ByteArray) (a1 a2 : Int) (a3 : ByteArray) (a4 : Int) : b kr a0 a1 a2 a3 a4 = kr (v a0 a1 a2 a3 a4) := by
 first | rfl | (unfold b v; simp only [Bool.cond_eq_ite]; (repeat' split) <;> rfl)
end Go.FG.U49

namespace Go.FG.U16
def r5 {R : Type} (N : Nat) (g k0 k1 : F_riii R) (a : Row) (d e f : Int) : Option R := bif decide (f < (a.length : Int)) then bif decide (0 <= f) && decide (f < (a.length : Int)) then bif decide (U49.v (cvS (cellAt a f.toNat 0)) (cvI (cellAt a f.toNat 1)) (cvI (cellAt a f.toNat (1 + 1))) (cvS (cellAt a f.toNat (1 + 1 + 1))) d < 0) then k0 a (U49.v (cvS (cellAt a f.toNat 0)) (cvI (cellAt a f.toNat 1)) (cvI (cellAt a f.toNat (1 + 1))) (cvS (cellAt a f.toNat (1 + 1 + 1))) d) (-1) f else g a (U49.v (cvS (cellAt a f.toNat 0)) (cvI (cellAt a f.toNat 1)) (cvI (cellAt a f.toNat (1 + 1))) (cvS (cellAt a f.toNat (1 + 1 + 1))) d) e (w64 (f + 1)) else none else k1 a d e f
def l5 {R : Type} (N : Nat) (k0 k1 : F_riii R) : Nat -> F_riii R
 | 0 => fun _ _ _ _ => none
 | n + 1 => r5 N (l5 N k0 k1 n) k0 k1
def b {R : Type} (N : Nat) (kr : Int -> Option R) (a : Row) (d : Int) : Option R := bif decide (w64 (d - (a.length : Int)) < 0) then kr (-1) else l5 N (fun _ _ e _ => kr e) (fun _ f _ _ => kr f) N a (w64 (d - (a.length : Int))) 0 0
def vo := b Lib.big fun r0 => some r0
def c := fun a d => (vo a d).isSome
def v := fun a d => (vo a d).getD (0)
theorem out {x} : ∀ a d, vo a d = some x -> c a d = true /\ v a d = x := fun _ _ => Lib.out_
end Go.FG.U16

namespace Go.FG.U62
def r5 {R : Type} (N : Nat) (g k0 k1 : F_riii R) (a : Row) (d e f : Int) : Option R := bif decide (f < (a.length : Int)) then bif decide (0 <= f) && decide (f < (a.length : Int)) then bif decide (w64 (d - ((cvS (cellAt a f.toNat 0)).size : Int)) < 0) then k0 a (w64 (d - ((cvS (cellAt a f.toNat 0)).size : Int))) (-1) f else g a (w64 (d - ((cvS (cellAt a f.toNat 0)).size : Int))) e (w64 (f + 1)) else none else k1 a d e f
def l5 {R : Type} (N : Nat) (k0 k1 : F_riii R) : Nat -> F_riii R
 | 0 => fun _ _ _ _ => none
 | n + 1 => r5 N (l5 N k0 k1 n) k0 k1
def b {R : Type} (N : Nat) (kr : Int -> Option R) (a : Row) (d : Int) : Option R := bif decide (w64 (d - (a.length : Int)) < 0) then kr (-1) else l5 N (fun _ _ e _ => kr e) (fun _ f _ _ => kr f) N a (w64 (d - (a.length : Int))) 0 0
def vo := b Lib.big fun r0 => some r0
def c := fun a d => (vo a d).isSome
def v := fun a d => (vo a d).getD (0)
theorem out {x} : ∀ a d, vo a d = some x -> c a d = true /\ v a d = x := fun _ _ => Lib.out_
end Go.FG.U62

namespace Go.FG.U130
def b {R : Type} (kr : Int -> Option R) (a : Row) (d : Int) : Option R := bif decide (w64 (d - (a.length : Int)) < 0) then kr (-1) else kr (w64 (d - (a.length : Int)))
def v (a0 : Row) (a1 : Int) : Int := bif decide (w64 (a1 - (a0.length : Int)) < 0) then -1 else w64 (a1 - (a0.length : Int))
theorem b_eq {R : Type} (kr : Int -> Option R) (a0 : Row) (a1 : Int) : b kr a0 a1 = kr (v a0 a1) := by
 first | rfl | (unfold b v; simp only [Bool.cond_eq_ite]; (repeat' split) <;> rfl)
end Go.FG.U130

namespace Go.FG.U100
def r5 {R : Type} (N : Nat) (g k0 k1 : F_riii R) (a : Row) (d e f : Int) : Option R := bif decide (f < (a.length : Int)) then bif decide (0 <= f) && decide (f < (a.length : Int)) then bif decide (U130.v (cvL (cellAt a f.toNat 0)) d < 0) then k0 a (U130.v (cvL (cellAt a f.toNat 0)) d) (-1) f else g a (U130.v (cvL (cellAt a f.toNat 0)) d) e (w64 (f + 1)) else none else k1 a d e f
def l5 {R : Type} (N : Nat) (k0 k1 : F_riii R) : Nat -> F_riii R
 | 0 => fun _ _ _ _ => none
 | n + 1 => r5 N (l5 N k0 k1 n) k0 k1
def b {R : Type} (N : Nat) (kr : Int -> Option R) (a : Row) (d : Int) : Option R := bif decide (w64 (d - (a.length : Int)) < 0) then kr (-1) else l5 N (fun _ _ e _ => kr e) (fun _ f _ _ => kr f) N a (w64 (d - (a.length : Int))) 0 0
def vo := b Lib.big fun r0 => some r0
def c := fun a d => (vo a d).isSome
def v := fun a d => (vo a d).getD (0)
theorem out {x} : ∀ a d, vo a d = some x -> c a d = true /\ v a d = x := fun _ _ => Lib.out_
end Go.FG.U100

namespace Go.FG.U63
def b {R : Type} (kr : Int -> Option R) (a : Row) (d e : Int) : Option R := bif U100.c a e then bif decide (U100.v a e < 0) then kr (-1) else kr (U100.v a e) else none
def vo := b fun r0 => some r0
def c := fun a d e => (vo a d e).isSome
def v := fun a d e => (vo a d e).getD (0)
theorem out {x} : ∀ a d e, vo a d e = some x -> c a d e = true /\ v a d e = x := fun _ _ _ => Lib.out_
end Go.FG.U63

namespace Go.FG.U24
def b {R : Type} (kr : Int -> Option R) (a d e : Row) (f h : Int) : Option R := bif U62.c a h then bif decide (U62.v a h < 0) then kr (-1) else bif U62.c d (U62.v a h) then bif decide (U62.v d (U62.v a h) < 0) then kr (-1) else bif U63.c e f (U62.v d (U62.v a h)) then bif decide (U63.v e f (U62.v d (U62.v a h)) < 0) then kr (-1) else kr (U63.v e f (U62.v d (U62.v a h))) else none else none else none
def vo := b fun r0 => some r0
def c := fun a d e f h => (vo a d e f h).isSome
def v := fun a d e f h => (vo a d e f h).getD (0)
theorem out {x} : ∀ a d e f h, vo a d e f h = some x -> c a d e f h = true /\ v a d e f h = x := fun _ _ _ _ _ => Lib.out_
end Go.FG.U24

namespace Go.FG.U64
def b {R : Type} (kr : Int -> Option R) (a d : ByteArray) (e f h i : Int) : Option R := bif decide (w64 (i - (a.size : Int)) < 0) then kr (-1) else bif decide (w64 (w64 (i - (a.size : Int)) - (d.size : Int)) < 0) then kr (-1) else kr (w64 (w64 (i - (a.size : Int)) - (d.size : Int)))
def v (a0 a1 : ByteArray) (a2 a3 a4 a5 : Int) : Int := bif decide (w64 (a5 - (a0.size : Int)) < 0) then -1 else bif decide (w64 (w64 (a5 - (a0.size : Int)) - (a1.size : Int)) < 0) then -1 else w64 (w64 (a5 - (a0.size : Int)) - (a1.size : Int))
theorem b_eq {R : Type} (kr : Int -> Option R) (a0 a1 : ByteArray) (a2 a3 a4 a5 : Int) : b kr a0 a1 a2 a3 a4 a5 = kr (v a0 a1 a2 a3 a4 a5) := by
 first | rfl | (unfold b v; simp only [Bool.cond_eq_ite]; (repeat' split) <;> rfl)
end Go.FG.U64

namespace Go.FG.U25
def r5 {R : Type} (N : Nat) (g k0 k1 : F_riii R) (a : Row) (d e f : Int) : Option R := bif decide (f < (a.length : Int)) then bif decide (0 <= f) && decide (f < (a.length : Int)) then bif decide (U64.v (cvS (cellAt a f.toNat 0)) (cvS (cellAt a f.toNat 1)) (cvI (cellAt a f.toNat (1 + 1))) (cvI (cellAt a f.toNat (1 + 1 + 1))) (cvI (cellAt a f.toNat (1 + 1 + 1 + 1))) d < 0) then k0 a (U64.v (cvS (cellAt a f.toNat 0)) (cvS (cellAt a f.toNat 1)) (cvI (cellAt a f.toNat (1 + 1))) (cvI (cellAt a f.toNat (1 + 1 + 1))) (cvI (cellAt a f.toNat (1 + 1 + 1 + 1))) d) (-1) f else g a (U64.v (cvS (cellAt a f.toNat 0)) (cvS (cellAt a f.toNat 1)) (cvI (cellAt a f.toNat (1 + 1))) (cvI (cellAt a f.toNat (1 + 1 + 1))) (cvI (cellAt a f.toNat (1 + 1 + 1 + 1))) d) e (w64 (f + 1)) else none else k1 a d e f
def l5 {R : Type} (N : Nat) (k0 k1 : F_riii R) : Nat -> F_riii R
 | 0 => fun _ _ _ _ => none
 | n + 1 => r5 N (l5 N k0 k1 n) k0 k1
def b {R : Type} (N : Nat) (kr : Int -> Option R) (a : Row) (d : Int) : Option R := bif decide (w64 (d - (a.length : Int)) < 0) then kr (-1) else l5 N (fun _ _ e _ => kr e) (fun _ f _ _ => kr f) N a (w64 (d - (a.length : Int))) 0 0
def vo := b Lib.big fun r0 => some r0
def c := fun a d => (vo a d).isSome
def v := fun a d => (vo a d).getD (0)
theorem out {x} : ∀ a d, vo a d = some x -> c a d = true /\ v a d = x := fun _ _ => Lib.out_
end Go.FG.U25

namespace Go.FG.U65
def b {R : Type} (kr : Int -> Option R) (a : Int) (d : ByteArray) (e f h : Int) (i : ByteArray) (j l : Int) : Option R := bif decide (w64 (l - (d.size : Int)) < 0) then kr (-1) else bif decide (w64 (w64 (l - (d.size : Int)) - (i.size : Int)) < 0) then kr (-1) else kr (w64 (w64 (l - (d.size : Int)) - (i.size : Int)))
def v (a0 : Int) (a1 : ByteArray) (a2 a3 a4 : Int) (a5 : ByteArray) (a6 a7 : Int) : Int := bif decide (w64 (a7 - (a1.size : Int)) < 0) then -1 else bif decide (w64 (w64 (a7 - (a1.size : Int)) - (a5.size : Int)) < 0) then -1 else w64 (w64 (a7 - (a1.size : Int)) - (a5.size : Int))
theorem b_eq {R : Type} (kr : Int -> Option R) (a0 : Int) (a1 : ByteArray) (a2 a3 a4 : Int) (a5 : ByteArray) (a6 a7 : Int) : b kr a0 a1 a2 a3 a4 a5 a6 a7 = kr (v a0 a1 a2 a3 a4 a5 a6 a7) := by
 first | rfl | (unfold b v; simp only [Bool.cond_eq_ite]; (repeat' split) <;> rfl)
end Go.FG.U65

namespace Go.FG.U26
def r5 {R : Type} (N : Nat) (g k0 k1 : F_riii R) (a : Row) (d e f : Int) : Option R := bif decide (f < (a.length : Int)) then bif decide (0 <= f) && decide (f < (a.length : Int)) then bif decide (U65.v (cvI (cellAt a f.toNat 0)) (cvS (cellAt a f.toNat 1)) (cvI (cellAt a f.toNat (1 + 1))) (cvI (cellAt a f.toNat (1 + 1 + 1))) (cvI (cellAt a f.toNat (1 + 1 + 1 + 1))) (cvS (cellAt a f.toNat (1 + 1 + 1 + 1 + 1))) (cvI (cellAt a f.toNat (1 + 1 + 1 + 1 + 1 + 1))) d < 0) then k0 a (U65.v (cvI (cellAt a f.toNat 0)) (cvS (cellAt a f.toNat 1)) (cvI (cellAt a f.toNat (1 + 1))) (cvI (cellAt a f.toNat (1 + 1 + 1))) (cvI (cellAt a f.toNat (1 + 1 + 1 + 1))) (cvS (cellAt a f.toNat (1 + 1 + 1 + 1 + 1))) (cvI (cellAt a f.toNat (1 + 1 + 1 + 1 + 1 + 1))) d) (-1) f else g a (U65.v (cvI (cellAt a f.toNat 0)) (cvS (cellAt a f.toNat 1)) (cvI (cellAt a f.toNat (1 + 1))) (cvI (cellAt a f.toNat (1 + 1 + 1))) (cvI (cellAt a f.toNat (1 + 1 + 1 + 1))) (cvS (cellAt a f.toNat (1 + 1 + 1 + 1 + 1))) (cvI (cellAt a f.toNat (1 + 1 + 1 + 1 + 1 + 1))) d) e (w64 (f + 1)) else none else k1 a d e f
def l5 {R : Type} (N : Nat) (k0 k1 : F_riii R) : Nat -> F_riii R
 | 0 => fun _ _ _ _ => none
 | n + 1 => r5 N (l5 N k0 k1 n) k0 k1
def b {R : Type} (N : Nat) (kr : Int -> Option R) (a : Row) (d : Int) : Option R := bif decide (w64 (d - (a.length : Int)) < 0) then kr (-1) else l5 N (fun _ _ e _ => kr e) (fun _ f _ _ => kr f) N a (w64 (d - (a.length : Int))) 0 0
def vo := b Lib.big fun r0 => some r0
def c := fun a d => (vo a d).isSome
def v := fun a d => (vo a d).getD (0)
theorem out {x} : ∀ a d, vo a d = some x -> c a d = true /\ v a d = x := fun _ _ => Lib.out_
end Go.FG.U26

namespace Go.FG.U7
def b {R : Type} (kr : Int -> Option R) (a : Int) (d e f h : Row) (i : Int) (j l : Row) (m o : Int) : Option R := bif U16.c d o then bif decide (U16.v d o < 0) then kr (-1) else bif U24.c e f h i (U16.v d o) then bif decide (U24.v e f h i (U16.v d o) < 0) then kr (-1) else bif U25.c j (U24.v e f h i (U16.v d o)) then bif decide (U25.v j (U24.v e f h i (U16.v d o)) < 0) then kr (-1) else bif U26.c l (U25.v j (U24.v e f h i (U16.v d o))) then bif decide (U26.v l (U25.v j (U24.v e f h i (U16.v d o))) < 0) then kr (-1) else kr (U26.v l (U25.v j (U24.v e f h i (U16.v d o)))) else none else none else none else none
def vo := b fun r0 => some r0
def c := fun a d e f h i j l m o => (vo a d e f h i j l m o).isSome
def v := fun a d e f h i j l m o => (vo a d e f h i j l m o).getD (0)
theorem out {x} : ∀ a d e f h i j l m o, vo a d e f h i j l m o = some x -> c a d e f h i j l m o = true /\ v a d e f h i j l m o = x := fun _ _ _ _ _ _ _ _ _ _ => Lib.out_
end Go.FG.U7

namespace Go.FG.U54
def b {R : Type} (kr : F_siis R) (a : ByteArray) (d e : Int) (f : ByteArray) : Option R := kr a d e f
def v (a0 : ByteArray) (a1 a2 : Int) (a3 : ByteArray) : ByteArray × Int × Int × ByteArray := (a0, a1, a2, a3)
theorem b_eq {R : Type} (kr : F_siis R) (a0 : ByteArray) (a1 a2 : Int) (a3 : ByteArray) : b kr a0 a1 a2 a3 = kr ((v a0 a1 a2 a3).1) ((v a0 a1 a2 a3).2.1) ((v a0 a1 a2 a3).2.2.1) ((v a0 a1 a2 a3).2.2.2) := by
 first | rfl | (unfold b v; simp only [Bool.cond_eq_ite]; (repeat' split) <;> rfl)
end Go.FG.U54

namespace Go.FG.U18
def r3 {R : Type} (N : Nat) (g k0 : F_rir R) (a : Row) (d : Int) (e : Row) : Option R := bif decide (d < (a.length : Int)) then bif decide (0 <= d) && decide (d < (a.length : Int)) then bif decide (0 <= d) && decide (d < (e.length : Int)) then g a (w64 (d + 1)) (setC e d.toNat 0 [.s (cvS (cellAt a d.toNat 0)), .i .i64 (cvI (cellAt a d.toNat 1)), .i .i64 (cvI (cellAt a d.toNat (1 + 1))), .s (cvS (cellAt a d.toNat (1 + 1 + 1)))]) else none else none else k0 a d e
def l3 {R : Type} (N : Nat) (k0 : F_rir R) : Nat -> F_rir R
 | 0 => fun _ _ _ => none
 | n + 1 => r3 N (l3 N k0 n) k0
def b {R : Type} (N : Nat) (kr : Row -> Option R) (a : Row) : Option R := bif decide ((a.length : Int) = (a.length : Int)) && roomy (a.length : Int).toNat 48 then l3 N (fun _ _ d => kr d) N a 0 (zeros [Ck.s, Ck.i IntKind.i64, Ck.i IntKind.i64, Ck.s] (a.length : Int).toNat) else none
def vo := b Lib.big fun r0 => some r0
def c := fun a => (vo a).isSome
def v := fun a => (vo a).getD ([])
theorem out {x} : ∀ a, vo a = some x -> c a = true /\ v a = x := fun _ => Lib.out_
end Go.FG.U18

namespace Go.FG.U68
def r3 {R : Type} (N : Nat) (g k0 : F_rir R) (a : Row) (d : Int) (e : Row) : Option R := bif decide (d < (a.length : Int)) then bif decide (0 <= d) && decide (d < (a.length : Int)) then bif decide (0 <= d) && decide (d < (e.length : Int)) then g a (w64 (d + 1)) (setC e d.toNat 0 [.s (cvS (cellAt a d.toNat 0))]) else none else none else k0 a d e
def l3 {R : Type} (N : Nat) (k0 : F_rir R) : Nat -> F_rir R
 | 0 => fun _ _ _ => none
 | n + 1 => r3 N (l3 N k0 n) k0
def b {R : Type} (N : Nat) (kr : Row -> Option R) (a : Row) : Option R := bif decide ((a.length : Int) = (a.length : Int)) && roomy (a.length : Int).toNat 16 then l3 N (fun _ _ d => kr d) N a 0 (zeros [.s] (a.length : Int).toNat) else none
def vo := b Lib.big fun r0 => some r0
def c := fun a => (vo a).isSome
def v := fun a => (vo a).getD ([])
theorem out {x} : ∀ a, vo a = some x -> c a = true /\ v a = x := fun _ => Lib.out_
end Go.FG.U68

namespace Go.FG.U131
def r3 {R : Type} (N : Nat) (g k0 : F_rir R) (a : Row) (d : Int) (e : Row) : Option R := bif decide (d < (a.length : Int)) then bif decide (0 <= d) && decide (d < (a.length : Int)) then bif decide (0 <= d) && decide (d < (e.length : Int)) then g a (w64 (d + 1)) (setC e d.toNat 0 [.i .i64 (cvI (cellAt a d.toNat 0))]) else none else none else k0 a d e
def l3 {R : Type} (N : Nat) (k0 : F_rir R) : Nat -> F_rir R
 | 0 => fun _ _ _ => none
 | n + 1 => r3 N (l3 N k0 n) k0
def b {R : Type} (N : Nat) (kr : Row -> Option R) (a : Row) : Option R := bif decide ((a.length : Int) = (a.length : Int)) && roomy (a.length : Int).toNat 8 then l3 N (fun _ _ d => kr d) N a 0 (zeros [Ck.i IntKind.i64] (a.length : Int).toNat) else none
def v (a0 : Row) : Row := a0.map fun y => [CV.i IntKind.i64 (cvI (y.getD 0 (.b false)))]
def c (a0 : Row) : Bool := decide (a0.length <= 1048576)
theorem b_eq {R : Type} (kr : Row -> Option R) (a0 : Row) (hc : c a0 = true) : ∃ N, b N kr a0 = kr (v a0) := by
 have hl : a0.length <= 1048576 := of_decide_eq_true hc
 refine ⟨a0.length + 1, ?_⟩
 unfold b
 rw [show decide ((a0.length : Int) = (a0.length : Int)) = true by simp, Lib.toN, Lib.roomy_of (by omega) (by omega), Bool.and_self, cond_true]
 refine Lib.fill_run (ks := [Ck.i IntKind.i64]) (v a0) a0.length (by unfold v; simp) (fun y hy => ?_) (fun m (i : Nat) x => l3 (a0.length + 1) (fun _ _ y => kr y) m a0 i x) kr (fun m => ?_) (fun m i hi x hx => ?_)
 ·unfold v at hy; obtain ⟨z, _, rfl⟩ := List.mem_map.1 hy; rfl
 ·simp only [l3, r3, Lib.dlt, Nat.lt_irrefl, decide_false, cond_false]
 ·have hi2 : i < x.length := by omega
  have e : (v a0).getD i [] = [CV.i IntKind.i64 (cvI (cellAt a0 i 0))] := by
   unfold v; simp [List.getD, hi, cellAt]
  simp only [l3, r3, Lib.dlt, Lib.dle0, Lib.toN, hi, hi2, decide_true, Bool.true_and, cond_true, Lib.w64_s hi (by omega), e]
end Go.FG.U131

namespace Go.FG.U104
def r3 {R : Type} (N : Nat) (g k0 : F_rir R) (a : Row) (d : Int) (e : Row) : Option R := bif decide (d < (a.length : Int)) then bif decide (0 <= d) && decide (d < (a.length : Int)) then bif U131.c (cvL (cellAt a d.toNat 0)) then bif decide (0 <= d) && decide (d < (e.length : Int)) then g a (w64 (d + 1)) (setC e d.toNat 0 [CV.l 3 (U131.v (cvL (cellAt a d.toNat 0)))]) else none else none else none else k0 a d e
def l3 {R : Type} (N : Nat) (k0 : F_rir R) : Nat -> F_rir R
 | 0 => fun _ _ _ => none
 | n + 1 => r3 N (l3 N k0 n) k0
def b {R : Type} (N : Nat) (kr : Row -> Option R) (a : Row) : Option R := bif decide ((a.length : Int) = (a.length : Int)) && roomy (a.length : Int).toNat 24 then l3 N (fun _ _ d => kr d) N a 0 (zeros [Ck.l 3] (a.length : Int).toNat) else none
def vo := b Lib.big fun r0 => some r0
def c := fun a => (vo a).isSome
def v := fun a => (vo a).getD ([])
theorem out {x} : ∀ a, vo a = some x -> c a = true /\ v a = x := fun _ => Lib.out_
end Go.FG.U104

namespace Go.FG.U69
def b {R : Type} (kr : F_ri R) (a : Row) (d : Int) : Option R := bif U104.c a then kr (U104.v a) d else none
def vo := b fun r0 r1 => some (r0, r1)
def c := fun a d => (vo a d).isSome
def v := fun a d => (vo a d).getD ([], 0)
theorem out {x} : ∀ a d, vo a d = some x -> c a d = true /\ v a d = x := fun _ _ => Lib.out_
end Go.FG.U69

namespace Go.FG.U30
def b {R : Type} (kr : F_rrri R) (a d e : Row) (f : Int) : Option R := bif U68.c a then bif U68.c d then bif U69.c e f then kr (U68.v a) (U68.v d) (U69.v e f).1 (U69.v e f).2 else none else none else none
def vo := b fun r0 r1 r2 r3 => some (r0, r1, r2, r3)
def c := fun a d e f => (vo a d e f).isSome
def v := fun a d e f => (vo a d e f).getD ([], [], [], 0)
theorem out {x} : ∀ a d e f, vo a d e f = some x -> c a d e f = true /\ v a d e f = x := fun _ _ _ _ => Lib.out_
end Go.FG.U30

namespace Go.FG.U70
def b {R : Type} (kr : F_ssiii R) (a d : ByteArray) (e f h : Int) : Option R := kr a d e f h
def v (a0 a1 : ByteArray) (a2 a3 a4 : Int) : ByteArray × ByteArray × Int × Int × Int := (a0, a1, a2, a3, a4)
theorem b_eq {R : Type} (kr : F_ssiii R) (a0 a1 : ByteArray) (a2 a3 a4 : Int) : b kr a0 a1 a2 a3 a4 = kr ((v a0 a1 a2 a3 a4).1) ((v a0 a1 a2 a3 a4).2.1) ((v a0 a1 a2 a3 a4).2.2.1) ((v a0 a1 a2 a3 a4).2.2.2.1) ((v a0 a1 a2 a3 a4).2.2.2.2) := by
 first | rfl | (unfold b v; simp only [Bool.cond_eq_ite]; (repeat' split) <;> rfl)
end Go.FG.U70

namespace Go.FG.U31
def r3 {R : Type} (N : Nat) (g k0 : F_rir R) (a : Row) (d : Int) (e : Row) : Option R := bif decide (d < (a.length : Int)) then bif decide (0 <= d) && decide (d < (a.length : Int)) then bif decide (0 <= d) && decide (d < (e.length : Int)) then g a (w64 (d + 1)) (setC e d.toNat 0 [.s (cvS (cellAt a d.toNat 0)), .s (cvS (cellAt a d.toNat 1)), .i .i64 (cvI (cellAt a d.toNat (1 + 1))), .i .i64 (cvI (cellAt a d.toNat (1 + 1 + 1))), .i .i64 (cvI (cellAt a d.toNat (1 + 1 + 1 + 1)))]) else none else none else k0 a d e
def l3 {R : Type} (N : Nat) (k0 : F_rir R) : Nat -> F_rir R
 | 0 => fun _ _ _ => none
 | n + 1 => r3 N (l3 N k0 n) k0
def b {R : Type} (N : Nat) (kr : Row -> Option R) (a : Row) : Option R := bif decide ((a.length : Int) = (a.length : Int)) && roomy (a.length : Int).toNat 56 then l3 N (fun _ _ d => kr d) N a 0 (zeros [Ck.s, Ck.s, Ck.i IntKind.i64, Ck.i IntKind.i64, Ck.i IntKind.i64] (a.length : Int).toNat) else none
def vo := b Lib.big fun r0 => some r0
def c := fun a => (vo a).isSome
def v := fun a => (vo a).getD ([])
theorem out {x} : ∀ a, vo a = some x -> c a = true /\ v a = x := fun _ => Lib.out_
end Go.FG.U31

namespace Go.FG.U71
def b {R : Type} (kr : F_isiiisi R) (a : Int) (d : ByteArray) (e f h : Int) (i : ByteArray) (j : Int) : Option R := kr a d e f h i j
def v (a0 : Int) (a1 : ByteArray) (a2 a3 a4 : Int) (a5 : ByteArray) (a6 : Int) : Int × ByteArray × Int × Int × Int × ByteArray × Int := (a0, a1, a2, a3, a4, a5, a6)
theorem b_eq {R : Type} (kr : F_isiiisi R) (a0 : Int) (a1 : ByteArray) (a2 a3 a4 : Int) (a5 : ByteArray) (a6 : Int) : b kr a0 a1 a2 a3 a4 a5 a6 = kr ((v a0 a1 a2 a3 a4 a5 a6).1) ((v a0 a1 a2 a3 a4 a5 a6).2.1) ((v a0 a1 a2 a3 a4 a5 a6).2.2.1) ((v a0 a1 a2 a3 a4 a5 a6).2.2.2.1) ((v a0 a1 a2 a3 a4 a5 a6).2.2.2.2.1) ((v a0 a1 a2 a3 a4 a5 a6).2.2.2.2.2.1) ((v a0 a1 a2 a3 a4 a5 a6).2.2.2.2.2.2) := by
 first | rfl | (unfold b v; simp only [Bool.cond_eq_ite]; (repeat' split) <;> rfl)
end Go.FG.U71

namespace Go.FG.U32
def r3 {R : Type} (N : Nat) (g k0 : F_rir R) (a : Row) (d : Int) (e : Row) : Option R := bif decide (d < (a.length : Int)) then bif decide (0 <= d) && decide (d < (a.length : Int)) then bif decide (0 <= d) && decide (d < (e.length : Int)) then g a (w64 (d + 1)) (setC e d.toNat 0 [.i .i64 (cvI (cellAt a d.toNat 0)), .s (cvS (cellAt a d.toNat 1)), .i .i64 (cvI (cellAt a d.toNat (1 + 1))), .i .i64 (cvI (cellAt a d.toNat (1 + 1 + 1))), .i .i64 (cvI (cellAt a d.toNat (1 + 1 + 1 + 1))), .s (cvS (cellAt a d.toNat (1 + 1 + 1 + 1 + 1))), .i .i64 (cvI (cellAt a d.toNat (1 + 1 + 1 + 1 + 1 + 1)))]) else none else none else k0 a d e
def l3 {R : Type} (N : Nat) (k0 : F_rir R) : Nat -> F_rir R
 | 0 => fun _ _ _ => none
 | n + 1 => r3 N (l3 N k0 n) k0
def b {R : Type} (N : Nat) (kr : Row -> Option R) (a : Row) : Option R := bif decide ((a.length : Int) = (a.length : Int)) && roomy (a.length : Int).toNat 72 then l3 N (fun _ _ d => kr d) N a 0 (zeros [Ck.i IntKind.i64, Ck.s, Ck.i IntKind.i64, Ck.i IntKind.i64, Ck.i IntKind.i64, Ck.s, Ck.i IntKind.i64] (a.length : Int).toNat) else none
def vo := b Lib.big fun r0 => some r0
def c := fun a => (vo a).isSome
def v := fun a => (vo a).getD ([])
theorem out {x} : ∀ a, vo a = some x -> c a = true /\ v a = x := fun _ => Lib.out_
end Go.FG.U32

namespace Go.FG.U9
def b {R : Type} (kr : F_irrrrirri R) (a : Int) (d e f h : Row) (i : Int) (j l : Row) (m : Int) : Option R := bif U18.c d then bif U30.c e f h i then bif U31.c j then bif U32.c l then kr a (U18.v d) (U30.v e f h i).1 (U30.v e f h i).2.1 (U30.v e f h i).2.2.1 (U30.v e f h i).2.2.2 (U31.v j) (U32.v l) m else none else none else none else none
def vo := b fun r0 r1 r2 r3 r4 r5 r6 r7 r8 => some (r0, r1, r2, r3, r4, r5, r6, r7, r8)
def c := fun a d e f h i j l m => (vo a d e f h i j l m).isSome
def v := fun a d e f h i j l m => (vo a d e f h i j l m).getD (0, [], [], [], [], 0, [], [], 0)
theorem out {x} : ∀ a d e f h i j l m, vo a d e f h i j l m = some x -> c a d e f h i j l m = true /\ v a d e f h i j l m = x := fun _ _ _ _ _ _ _ _ _ => Lib.out_
end Go.FG.U9

namespace Go.FG.U101
def r3 {R : Type} (N : Nat) (g : F_iriii R) (g1 : F_iriiir R) (k0 : F_iriii R) (k1 : F_iriiir R) (a : Int) (d : Row) (e f h : Int) : Option R := bif decide (a < (d.length : Int)) then bif decide (0 <= a) && decide (a < (d.length : Int)) then bif roomy ((zeros [Ck.i IntKind.i64] 0).length + (cvL (cellAt d a.toNat 0)).length) 8 then g1 (w64 (a + 1)) d e f h ([] ++ List.set (zeros [Ck.l 3] 1) 0 [CV.l 3 (zeros [Ck.i IntKind.i64] 0 ++ cvL (cellAt d a.toNat 0))]) else none else none else k0 a d e f h
def r3a {R : Type} (N : Nat) (g : F_iriii R) (g1 : F_iriiir R) (k0 : F_iriii R) (k1 : F_iriiir R) (a : Int) (d : Row) (e f h : Int) (i : Row) : Option R := bif decide (a < (d.length : Int)) then bif decide (0 <= a) && decide (a < (d.length : Int)) then bif roomy ((zeros [Ck.i IntKind.i64] 0).length + (cvL (cellAt d a.toNat 0)).length) 8 then bif roomy (i.length + (List.set (zeros [Ck.l 3] 1) 0 [CV.l 3 (zeros [Ck.i IntKind.i64] 0 ++ cvL (cellAt d a.toNat 0))]).length) 24 then g1 (w64 (a + 1)) d e f h (i ++ List.set (zeros [Ck.l 3] 1) 0 [CV.l 3 (zeros [Ck.i IntKind.i64] 0 ++ cvL (cellAt d a.toNat 0))]) else none else none else none else k1 a d e f h i
def l3a {R : Type} (N : Nat) (k0 : F_iriii R) (k1 : F_iriiir R) : Nat -> F_iriiir R
 | 0 => fun _ _ _ _ _ _ => none
 | n + 1 => r3a N (fun x0 x1 x2 x3 x4 => none) (l3a N k0 k1 n) k0 k1
def l3 {R : Type} (N : Nat) (k0 : F_iriii R) (k1 : F_iriiir R) : Nat -> F_iriii R
 | 0 => fun _ _ _ _ _ => none
 | n + 1 => r3 N (l3 N k0 k1 n) (l3a N k0 k1 n) k0 k1
def b {R : Type} (N : Nat) (kr : F_ri R) (a : Row) (d : Int) : Option R := l3 N (fun _ _ _ _ e => kr [] e) (fun _ _ _ _ f h => kr h f) N 0 a d 0 d
def vo := b Lib.big fun r0 r1 => some (r0, r1)
def c := fun a d => (vo a d).isSome
def v := fun a d => (vo a d).getD ([], 0)
theorem out {x} : ∀ a d, vo a d = some x -> c a d = true /\ v a d = x := fun _ _ => Lib.out_
end Go.FG.U101

namespace Go.FG.U66
def b {R : Type} (kr : F_rrri R) (a d e : Row) (f : Int) : Option R := bif roomy ((zeros [.s] 0).length + a.length) 16 then bif roomy ((zeros [.s] 0).length + d.length) 16 then bif U101.c e f then kr (zeros [.s] 0 ++ a) (zeros [.s] 0 ++ d) (U101.v e f).1 (U101.v e f).2 else none else none else none
def vo := b fun r0 r1 r2 r3 => some (r0, r1, r2, r3)
def c := fun a d e f => (vo a d e f).isSome
def v := fun a d e f => (vo a d e f).getD ([], [], [], 0)
theorem out {x} : ∀ a d e f, vo a d e f = some x -> c a d e f = true /\ v a d e f = x := fun _ _ _ _ => Lib.out_
end Go.FG.U66

namespace Go.FG.U27
def b {R : Type} (kr : F_irrrrirri R) (a : Int) (d e f h : Row) (i : Int) (j l : Row) (m : Int) : Option R := bif roomy ((zeros [Ck.s, Ck.i IntKind.i64, Ck.i IntKind.i64, Ck.s] 0).length + d.length) 48 then bif U66.c e f h i then bif roomy ((zeros [Ck.s, Ck.s, Ck.i IntKind.i64, Ck.i IntKind.i64, Ck.i IntKind.i64] 0).length + j.length) 56 then bif roomy ((zeros [Ck.i IntKind.i64, Ck.s, Ck.i IntKind.i64, Ck.i IntKind.i64, Ck.i IntKind.i64, Ck.s, Ck.i IntKind.i64] 0).length + l.length) 72 then kr a (zeros [Ck.s, Ck.i IntKind.i64, Ck.i IntKind.i64, Ck.s] 0 ++ d) (U66.v e f h i).1 (U66.v e f h i).2.1 (U66.v e f h i).2.2.1 (U66.v e f h i).2.2.2 (zeros [Ck.s, Ck.s, Ck.i IntKind.i64, Ck.i IntKind.i64, Ck.i IntKind.i64] 0 ++ j) (zeros [Ck.i IntKind.i64, Ck.s, Ck.i IntKind.i64, Ck.i IntKind.i64, Ck.i IntKind.i64, Ck.s, Ck.i IntKind.i64] 0 ++ l) m else none else none else none else none
def vo := b fun r0 r1 r2 r3 r4 r5 r6 r7 r8 => some (r0, r1, r2, r3, r4, r5, r6, r7, r8)
def c := fun a d e f h i j l m => (vo a d e f h i j l m).isSome
def v := fun a d e f h i j l m => (vo a d e f h i j l m).getD (0, [], [], [], [], 0, [], [], 0)
theorem out {x} : ∀ a d e f h i j l m, vo a d e f h i j l m = some x -> c a d e f h i j l m = true /\ v a d e f h i j l m = x := fun _ _ _ _ _ _ _ _ _ => Lib.out_
end Go.FG.U27

namespace Go.FG.U60
def b {R : Type} (kr : Bool -> Option R) (a d e : Int) : Option R := bif decide (a ≥ d) then kr (decide (a <= e)) else kr false
def v (a0 a1 a2 : Int) : Bool := bif decide (a0 ≥ a1) then decide (a0 <= a2) else false
theorem b_eq {R : Type} (kr : Bool -> Option R) (a0 a1 a2 : Int) : b kr a0 a1 a2 = kr (v a0 a1 a2) := by
 first | rfl | (unfold b v; simp only [Bool.cond_eq_ite]; (repeat' split) <;> rfl)
end Go.FG.U60

namespace Go.FG.U88
def b {R : Type} (kr : Bool -> Option R) (a : ByteArray) : Option R := kr (U60.v (a.size : Int) 1 30)
def v (a0 : ByteArray) : Bool := (U60.v (a0.size : Int) 1 30)
theorem b_eq {R : Type} (kr : Bool -> Option R) (a0 : ByteArray) : b kr a0 = kr (v a0) := by
 first | rfl | (unfold b v; simp only [Bool.cond_eq_ite]; (repeat' split) <;> rfl)
end Go.FG.U88

namespace Go.FG.U51
def b {R : Type} (kr : Bool -> Option R) (a : ByteArray) (d e : Int) (f : ByteArray) : Option R := bif U88.v a then bif U60.v d 0 1000000000 then bif U60.v e 1 999999 then kr (decide ((f.size : Int) <= 400)) else kr false else kr false else kr false
def v (a0 : ByteArray) (a1 a2 : Int) (a3 : ByteArray) : Bool := bif U88.v a0 then bif U60.v a1 0 1000000000 then bif U60.v a2 1 999999 then decide ((a3.size : Int) <= 400) else false else false else false
theorem b_eq {R : Type} (kr : Bool -> Option R) (a0 : ByteArray) (a1 a2 : Int) (a3 : ByteArray) : b kr a0 a1 a2 a3 = kr (v a0 a1 a2 a3) := by
 first | rfl | (unfold b v; simp only [Bool.cond_eq_ite]; (repeat' split) <;> rfl)
theorem rng {k : ByteArray} {s l : Int} {b : ByteArray} (h : v k s l b = true) : (1 <= k.size /\ k.size <= 30) /\ (0 <= s /\ s <= 1000000000) /\ (1 <= l /\ l <= 999999) /\ b.size <= 400 := by
 unfold v at h
 cases h1 : U88.v k <;> rw [h1] at h <;> simp only [cond_true, cond_false, Bool.false_eq_true] at h
 cases h2 : U60.v s 0 1000000000 <;> rw [h2] at h <;> simp only [cond_true, cond_false, Bool.false_eq_true] at h
 cases h3 : U60.v l 1 999999 <;> rw [h3] at h <;> simp only [cond_true, cond_false, Bool.false_eq_true] at h
 simp [U88.v, U60.v] at h1 h2 h3
 have := of_decide_eq_true h
 omega
end Go.FG.U51

namespace Go.FG.U116
def r2 {R : Type} (N : Nat) (g k0 k1 : F_rsbi R) (a : Row) (d : ByteArray) (e : Bool) (f : Int) : Option R := bif decide (f < (a.length : Int)) then bif decide (0 <= f) && decide (f < (a.length : Int)) then bif List.beq (cvS (cellAt a f.toNat 0)).toList (ByteArray.toList d) then k0 a d true f else g a d e (w64 (f + 1)) else none else k1 a d e f
def l2 {R : Type} (N : Nat) (k0 k1 : F_rsbi R) : Nat -> F_rsbi R
 | 0 => fun _ _ _ _ => none
 | n + 1 => r2 N (l2 N k0 k1 n) k0 k1
def b {R : Type} (N : Nat) (kr : Bool -> Option R) (a : Row) (d : ByteArray) : Option R := l2 N (fun _ _ e _ => kr e) (fun _ _ _ _ => kr false) N a d false 0
def vo := b Lib.big fun r0 => some r0
def c := fun a d => (vo a d).isSome
def v := fun a d => (vo a d).getD false
theorem out {x} : ∀ a d, vo a d = some x -> c a d = true /\ v a d = x := fun _ _ => Lib.out_
end Go.FG.U116

namespace Go.FG.U91
def b {R : Type} (kr : Bool -> Option R) (a d e : Row) (f : Int) (h : ByteArray) : Option R := bif U116.c a h then bif U116.v a h then kr true else bif U116.c d h then kr (U116.v d h) else none else none
def vo := b fun r0 => some r0
def c := fun a d e f h => (vo a d e f h).isSome
def v := fun a d e f h => (vo a d e f h).getD false
theorem out {x} : ∀ a d e f h, vo a d e f h = some x -> c a d e f h = true /\ v a d e f h = x := fun _ _ _ _ _ => Lib.out_
end Go.FG.U91

namespace Go.FG.U137
def r9 {R : Type} (N : Nat) (g k0 k1 : F_biiri R) (a : Bool) (d e : Int) (f : Row) (h : Int) : Option R := bif decide (0 <= d) && decide (d < (f.length : Int)) then bif decide (e < ((cvL (cellAt f d.toNat 0)).length : Int)) then bif decide (0 <= d) && decide (d < (f.length : Int)) then bif decide (0 <= e) && decide (e < ((cvL (cellAt f d.toNat 0)).length : Int)) then bif !U60.v (cvI (cellAt (cvL (cellAt f d.toNat 0)) e.toNat 0)) 0 15 then k0 false d e f h else g a d (w64 (e + 1)) f h else none else none else k1 a d e f h else none
def l9 {R : Type} (N : Nat) (k0 k1 : F_biiri R) : Nat -> F_biiri R
 | 0 => fun _ _ _ _ _ => none
 | n + 1 => r9 N (l9 N k0 k1 n) k0 k1
def r4 {R : Type} (N : Nat) (g k0 k1 : F_biri R) (a : Bool) (d : Int) (e : Row) (f : Int) : Option R := bif decide (d < (e.length : Int)) then bif decide (0 <= d) && decide (d < (e.length : Int)) then bif ((cvL (cellAt e d.toNat 0)).length : Int) != 16 then k0 false d e f else l9 N (fun h i _ j l => k0 h i j l) (fun m o _ p q => g m (w64 (o + 1)) p q) N a d 0 e f else none else k1 a d e f
def l4 {R : Type} (N : Nat) (k0 k1 : F_biri R) : Nat -> F_biri R
 | 0 => fun _ _ _ _ => none
 | n + 1 => r4 N (l4 N k0 k1 n) k0 k1
def b {R : Type} (N : Nat) (kr : Bool -> Option R) (a : Row) (d : Int) : Option R := bif (a.length : Int) != 3 then kr false else bif !U60.v d 0 63 then kr false else l4 N (fun e _ _ _ => kr e) (fun _ _ _ _ => kr true) N false 0 a d
def vo := b Lib.big fun r0 => some r0
def c := fun a d => (vo a d).isSome
def v := fun a d => (vo a d).getD false
theorem out {x} : ∀ a d, vo a d = some x -> c a d = true /\ v a d = x := fun _ _ => Lib.out_
end Go.FG.U137

namespace Go.FG.U114
def r3 {R : Type} (N : Nat) (g k0 k1 : F_birrrir R) (a : Bool) (d : Int) (e f h : Row) (i : Int) (j : Row) : Option R := bif decide (d < (j.length : Int)) then bif decide (0 <= d) && decide (d < (j.length : Int)) then bif !U88.v (cvS (cellAt j d.toNat 0)) then k0 false d e f h i j else bif inB 0 d (j.length : Int) then bif decide (0 <= d) && decide (d < (j.length : Int)) then bif U116.c (view j (Int.toNat 0) d.toNat) (cvS (cellAt j d.toNat 0)) then bif U116.v (view j (Int.toNat 0) d.toNat) (cvS (cellAt j d.toNat 0)) then k0 false d e f h i j else g a (w64 (d + 1)) e f h i j else none else none else none else none else k1 a d e f h i j
def l3 {R : Type} (N : Nat) (k0 k1 : F_birrrir R) : Nat -> F_birrrir R
 | 0 => fun _ _ _ _ _ _ _ => none
 | n + 1 => r3 N (l3 N k0 k1 n) k0 k1
def b {R : Type} (N : Nat) (kr : Bool -> Option R) (a d e : Row) (f : Int) : Option R := bif roomy ((zeros [.s] 0).length + a.length) 16 then bif roomy ((zeros [.s] 0 ++ a).length + d.length) 16 then l3 N (fun h _ _ _ _ _ _ => kr h) (fun _ _ i j l m _ => bif decide ((i.length : Int) <= 2) then bif decide ((j.length : Int) <= 4) then bif U137.c l m then kr (U137.v l m) else none else kr false else kr false) N false 0 a d e f (zeros [.s] 0 ++ a ++ d) else none else none
def vo := b Lib.big fun r0 => some r0
def c := fun a d e f => (vo a d e f).isSome
def v := fun a d e f => (vo a d e f).getD false
theorem out {x} : ∀ a d e f, vo a d e f = some x -> c a d e f = true /\ v a d e f = x := fun _ _ _ _ => Lib.out_
end Go.FG.U114

namespace Go.FG.U102
def r2 {R : Type} (N : Nat) (g k0 k1 : F_biirrrrirri R) (a : Bool) (d e : Int) (f h i j : Row) (l : Int) (m o : Row) (p : Int) : Option R := bif decide (d < (f.length : Int)) then bif decide (0 <= d) && decide (d < (f.length : Int)) then bif !U51.v (cvS (cellAt f d.toNat 0)) (cvI (cellAt f d.toNat 1)) (cvI (cellAt f d.toNat (1 + 1))) (cvS (cellAt f d.toNat (1 + 1 + 1))) then k0 false d e f h i j l m o p else bif decide (d > 0) then bif decide (0 <= w64 (d - 1)) && decide (w64 (d - 1) < (f.length : Int)) then bif decide (0 <= d) && decide (d < (f.length : Int)) then bif !Op.bytesLess (cvS (cellAt f (w64 (d - 1)).toNat 0)).toList (cvS (cellAt f d.toNat 0)).toList then k0 false d e f h i j l m o p else bif decide (0 <= d) && decide (d < (f.length : Int)) then bif U91.c h i j l (cvS (cellAt f d.toNat 0)) then bif !U91.v h i j l (cvS (cellAt f d.toNat 0)) then k0 false d e f h i j l m o p else g a (w64 (d + 1)) e f h i j l m o p else none else none else none else none else bif decide (0 <= d) && decide (d < (f.length : Int)) then bif U91.c h i j l (cvS (cellAt f d.toNat 0)) then bif !U91.v h i j l (cvS (cellAt f d.toNat 0)) then k0 false d e f h i j l m o p else g a (w64 (d + 1)) e f h i j l m o p else none else none else none else k1 a d e f h i j l m o p
def l2 {R : Type} (N : Nat) (k0 k1 : F_biirrrrirri R) : Nat -> F_biirrrrirri R
 | 0 => fun _ _ _ _ _ _ _ _ _ _ _ => none
 | n + 1 => r2 N (l2 N k0 k1 n) k0 k1
def b {R : Type} (N : Nat) (kr : Bool -> Option R) (a : Int) (d e f h : Row) (i : Int) (j l : Row) (m : Int) : Option R := l2 N (fun o _ _ _ _ _ _ _ _ _ _ => kr o) (fun _ _ _ p q r s t _ _ _ => bif U114.c q r s t then bif U114.v q r s t then kr (decide ((p.length : Int) = w64 ((q.length : Int) + (r.length : Int)))) else kr false else none) N false 0 a d e f h i j l m
def vo := b Lib.big fun r0 => some r0
def c := fun a d e f h i j l m => (vo a d e f h i j l m).isSome
def v := fun a d e f h i j l m => (vo a d e f h i j l m).getD false
theorem out {x} : ∀ a d e f h i j l m, vo a d e f h i j l m = some x -> c a d e f h i j l m = true /\ v a d e f h i j l m = x := fun _ _ _ _ _ _ _ _ _ => Lib.out_
end Go.FG.U102

namespace Go.FG.U103
def r5 {R : Type} (N : Nat) (g k0 k1 : F_ibiirrrrirrissiii R) (a : Int) (d : Bool) (e f : Int) (h i j l : Row) (m : Int) (o p : Row) (q : Int) (r s : ByteArray) (t u w : Int) : Option R := bif decide (e < a) then bif decide (0 <= e) && decide (e < (o.length : Int)) then bif List.beq (cvS (cellAt o e.toNat 0)).toList (ByteArray.toList r) then bif decide (0 <= e) && decide (e < (o.length : Int)) then bif decide (cvI (cellAt o e.toNat 2) = 1) then bif decide (t = 1) then k0 a false e f h i j l m o p q r s t u w else g a d (w64 (e + 1)) f h i j l m o p q r s t u w else g a d (w64 (e + 1)) f h i j l m o p q r s t u w else none else g a d (w64 (e + 1)) f h i j l m o p q r s t u w else none else k1 a d e f h i j l m o p q r s t u w
def l5 {R : Type} (N : Nat) (k0 k1 : F_ibiirrrrirrissiii R) : Nat -> F_ibiirrrrirrissiii R
 | 0 => fun _ _ _ _ _ _ _ _ _ _ _ _ _ _ _ _ _ => none
 | n + 1 => r5 N (l5 N k0 k1 n) k0 k1
def b {R : Type} (N : Nat) (kr : Bool -> Option R) (a : Int) (d e f h : Row) (i : Int) (j l : Row) (m o : Int) : Option R := bif decide (0 <= o) && decide (o < (j.length : Int)) then bif !U88.v (cvS (cellAt j o.toNat 0)) then kr false else bif decide (((cvS (cellAt j o.toNat 1)).size : Int) > 400) then kr false else bif !U60.v (cvI (cellAt j o.toNat (1 + 1))) 1 3 then kr false else bif !U60.v (cvI (cellAt j o.toNat (1 + 1 + 1))) 0 999999 then kr false else bif !U60.v (cvI (cellAt j o.toNat (1 + 1 + 1 + 1))) 0 a then kr false else l5 N (fun _ p _ _ _ _ _ _ _ _ _ _ _ _ _ _ _ => kr p) (fun _ _ _ _ _ _ _ _ _ _ _ _ _ _ _ _ _ => kr true) N o false 0 a d e f h i j l m (cvS (cellAt j o.toNat 0)) (cvS (cellAt j o.toNat 1)) (cvI (cellAt j o.toNat (1 + 1))) (cvI (cellAt j o.toNat (1 + 1 + 1))) (cvI (cellAt j o.toNat (1 + 1 + 1 + 1))) else none
def vo := b Lib.big fun r0 => some r0
def c := fun a d e f h i j l m o => (vo a d e f h i j l m o).isSome
def v := fun a d e f h i j l m o => (vo a d e f h i j l m o).getD false
theorem out {x} : ∀ a d e f h i j l m o, vo a d e f h i j l m o = some x -> c a d e f h i j l m o = true /\ v a d e f h i j l m o = x := fun _ _ _ _ _ _ _ _ _ _ => Lib.out_
end Go.FG.U103

namespace Go.FG.U67
def r9 {R : Type} (N : Nat) (g k0 k1 : F_biirrrrirri R) (a : Bool) (d e : Int) (f h i j : Row) (l : Int) (m o : Row) (p : Int) : Option R := bif decide (d < (o.length : Int)) then bif decide (0 <= d) && decide (d < (o.length : Int)) then bif !U60.v (cvI (cellAt o d.toNat 0)) 1 9 then k0 false d e f h i j l m o p else bif decide (d > 0) then bif decide (0 <= w64 (d - 1)) && decide (w64 (d - 1) < (o.length : Int)) then bif decide (cvI (cellAt o (w64 (d - 1)).toNat 0) ≥ cvI (cellAt o d.toNat 0)) then k0 false d e f h i j l m o p else bif !U88.v (cvS (cellAt o d.toNat 1)) then k0 false d e f h i j l m o p else bif !U60.v (cvI (cellAt o d.toNat (1 + 1 + 1 + 1))) 1 3 then k0 false d e f h i j l m o p else bif !U60.v (cvI (cellAt o d.toNat (1 + 1))) 0 (m.length : Int) then k0 false d e f h i j l m o p else bif decide (((cvS (cellAt o d.toNat (1 + 1 + 1 + 1 + 1))).size : Int) > 400) then k0 false d e f h i j l m o p else bif !U60.v (cvI (cellAt o d.toNat (1 + 1 + 1))) 0 e then k0 false d e f h i j l m o p else bif decide (cvI (cellAt o d.toNat (1 + 1 + 1 + 1 + 1 + 1)) < 0) then k0 false d e f h i j l m o p else g a (w64 (d + 1)) e f h i j l m o p else none else bif !U88.v (cvS (cellAt o d.toNat 1)) then k0 false d e f h i j l m o p else bif !U60.v (cvI (cellAt o d.toNat (1 + 1 + 1 + 1))) 1 3 then k0 false d e f h i j l m o p else bif !U60.v (cvI (cellAt o d.toNat (1 + 1))) 0 (m.length : Int) then k0 false d e f h i j l m o p else bif decide (((cvS (cellAt o d.toNat (1 + 1 + 1 + 1 + 1))).size : Int) > 400) then k0 false d e f h i j l m o p else bif !U60.v (cvI (cellAt o d.toNat (1 + 1 + 1))) 0 e then k0 false d e f h i j l m o p else bif decide (cvI (cellAt o d.toNat (1 + 1 + 1 + 1 + 1 + 1)) < 0) then k0 false d e f h i j l m o p else g a (w64 (d + 1)) e f h i j l m o p else none else k1 a d e f h i j l m o p
def l9 {R : Type} (N : Nat) (k0 k1 : F_biirrrrirri R) : Nat -> F_biirrrrirri R
 | 0 => fun _ _ _ _ _ _ _ _ _ _ _ => none
 | n + 1 => r9 N (l9 N k0 k1 n) k0 k1
def r4 {R : Type} (N : Nat) (g k0 k1 : F_biirrrrirri R) (a : Bool) (d e : Int) (f h i j : Row) (l : Int) (m o : Row) (p : Int) : Option R := bif decide (d < (m.length : Int)) then bif U103.c e f h i j l m o p d then bif !U103.v e f h i j l m o p d then k0 false d e f h i j l m o p else g a (w64 (d + 1)) e f h i j l m o p else none else k1 a d e f h i j l m o p
def l4 {R : Type} (N : Nat) (k0 k1 : F_biirrrrirri R) : Nat -> F_biirrrrirri R
 | 0 => fun _ _ _ _ _ _ _ _ _ _ _ => none
 | n + 1 => r4 N (l4 N k0 k1 n) k0 k1
def b {R : Type} (N : Nat) (kr : Bool -> Option R) (a : Int) (d e f h : Row) (i : Int) (j l : Row) (m : Int) : Option R := bif !U60.v a 1 1000000000 then kr false else bif U102.c a d e f h i j l m then bif !U102.v a d e f h i j l m then kr false else bif decide ((j.length : Int) > 20) then kr false else bif decide ((l.length : Int) > 6) then kr false else bif !U60.v m 0 1000000000 then kr false else l4 N (fun o _ _ _ _ _ _ _ _ _ _ => kr o) (fun p _ q r s t u w y z α => l9 N (fun xa _ _ _ _ _ _ _ _ _ _ => kr xa) (fun _ _ _ _ _ _ _ _ _ _ _ => kr true) N p 0 q r s t u w y z α) N false 0 a d e f h i j l m else none
def vo := b Lib.big fun r0 => some r0
def c := fun a d e f h i j l m => (vo a d e f h i j l m).isSome
def v := fun a d e f h i j l m => (vo a d e f h i j l m).getD false
theorem out {x} : ∀ a d e f h i j l m, vo a d e f h i j l m = some x -> c a d e f h i j l m = true /\ v a d e f h i j l m = x := fun _ _ _ _ _ _ _ _ _ => Lib.out_
end Go.FG.U67

namespace Go.FG.U28
def b {R : Type} (kr : Bool -> Option R) (a : Int) (d e f h : Row) (i : Int) (j l : Row) (m o : Int) : Option R := bif U67.c a d e f h i j l m then bif U67.v a d e f h i j l m then bif U60.v o 0 (w64 ((j.length : Int) - 1)) then bif decide (0 <= o) && decide (o < (j.length : Int)) then kr (decide (cvI (cellAt j o.toNat 2) = 1)) else none else kr false else kr false else none
def vo := b fun r0 => some r0
def c := fun a d e f h i j l m o => (vo a d e f h i j l m o).isSome
def v := fun a d e f h i j l m o => (vo a d e f h i j l m o).getD false
theorem out {x} : ∀ a d e f h i j l m o, vo a d e f h i j l m o = some x -> c a d e f h i j l m o = true /\ v a d e f h i j l m o = x := fun _ _ _ _ _ _ _ _ _ _ => Lib.out_
end Go.FG.U28

namespace Go.FG.U29
def r1 {R : Type} (N : Nat) (g k0 : F_iiiiiirrrrrr R) (a d e f h i : Int) (j l m o p q : Row) : Option R := bif decide (e < (q.length : Int)) then bif decide (0 <= e) && decide (e < (q.length : Int)) then bif decide (cvI (cellAt q e.toNat 2) = w64 (a + 1)) then bif decide (0 <= e) && decide (e < (q.length : Int)) then bif decide (cvI (cellAt q e.toNat 4) = 1) then bif decide (0 <= a) && decide (a < (p.length : Int)) then bif decide (0 <= e) && decide (e < (q.length : Int)) then bif decide (0 <= e) && decide (e < ((setC q e.toNat 5 [.s (cvS (cellAt p a.toNat 1))]).length : Int)) then g a d (w64 (e + 1)) f h i j l m o p (setC (setC q e.toNat 5 [.s (cvS (cellAt p a.toNat 1))]) e.toNat 4 [.i .i64 d]) else none else none else none else g a d (w64 (e + 1)) f h i j l m o p q else none else g a d (w64 (e + 1)) f h i j l m o p q else none else k0 a d e f h i j l m o p q
def l1 {R : Type} (N : Nat) (k0 : F_iiiiiirrrrrr R) : Nat -> F_iiiiiirrrrrr R
 | 0 => fun _ _ _ _ _ _ _ _ _ _ _ _ => none
 | n + 1 => r1 N (l1 N k0 n) k0
def b {R : Type} (N : Nat) (kr : F_irrrrirri R) (a : Int) (d e f h : Row) (i : Int) (j l : Row) (m o p : Int) : Option R := l1 N (fun _ _ _ q r s t u w y z α => kr q t u w y r z α s) N o p 0 a i m d e f h j l
def vo := b Lib.big fun r0 r1 r2 r3 r4 r5 r6 r7 r8 => some (r0, r1, r2, r3, r4, r5, r6, r7, r8)
def c := fun a d e f h i j l m o p => (vo a d e f h i j l m o p).isSome
def v := fun a d e f h i j l m o p => (vo a d e f h i j l m o p).getD (0, [], [], [], [], 0, [], [], 0)
theorem out {x} : ∀ a d e f h i j l m o p, vo a d e f h i j l m o p = some x -> c a d e f h i j l m o p = true /\ v a d e f h i j l m o p = x := fun _ _ _ _ _ _ _ _ _ _ _ => Lib.out_
end Go.FG.U29

namespace Go.FG.U156
def r6 {R : Type} (N : Nat) (g k0 : F_isii R) (a : Int) (d : ByteArray) (e f : Int) : Option R := bif decide (f < 8) then bif decide (Int.tmod a 2 = 1) then g (IntKind.wrap IntKind.u32 (↑(BitVec.toNat (BitVec.xor (BitVec.ofInt 32 (IntKind.wrap IntKind.u32 (Int.tdiv a 2))) (BitVec.ofInt 32 3558460437))) : Int)) d e (w64 (f + 1)) else g (IntKind.wrap IntKind.u32 (Int.tdiv a 2)) d e (w64 (f + 1)) else k0 a d e f
def l6 {R : Type} (N : Nat) (k0 : F_isii R) : Nat -> F_isii R
 | 0 => fun _ _ _ _ => none
 | n + 1 => r6 N (l6 N k0 n) k0
def r2 {R : Type} (N : Nat) (g k0 : F_isi R) (a : Int) (d : ByteArray) (e : Int) : Option R := bif decide (e < (d.size : Int)) then bif decide (0 <= e) && decide (e < (d.size : Int)) then l6 N (fun f h i _ => g f h (w64 (i + 1))) N (IntKind.wrap IntKind.u32 (↑(BitVec.toNat (BitVec.xor (BitVec.ofInt 32 a) (BitVec.ofInt 32 (IntKind.wrap IntKind.u32 (↑(btN d e.toNat) : Int))))) : Int)) d e 0 else none else k0 a d e
def l2 {R : Type} (N : Nat) (k0 : F_isi R) : Nat -> F_isi R
 | 0 => fun _ _ _ => none
 | n + 1 => r2 N (l2 N k0 n) k0
def b {R : Type} (N : Nat) (kr : Int -> Option R) (a : Int) (d : ByteArray) : Option R := l2 N (fun e _ _ => kr e) N a d 0
def vo := b Lib.big fun r0 => some r0
def c := fun a d => (vo a d).isSome
def v := fun a d => (vo a d).getD (0)
theorem out {x} : ∀ a d, vo a d = some x -> c a d = true /\ v a d = x := fun _ _ => Lib.out_
end Go.FG.U156

namespace Go.FG.U149
def b {R : Type} (kr : Int -> Option R) (a : ByteArray) : Option R := bif U156.c 4294967295 a then kr (U156.v 4294967295 a) else none
def vo := b fun r0 => some r0
def c := fun a => (vo a).isSome
def v := fun a => (vo a).getD (0)
theorem out {x} : ∀ a, vo a = some x -> c a = true /\ v a = x := fun _ => Lib.out_
end Go.FG.U149

namespace Go.FG.U138
def b {R : Type} (kr : Int -> Option R) (a : Int) (d : ByteArray) : Option R := bif decide (d.size + (bytesOf (List.set (zeros [Ck.i IntKind.u8] 1) 0 [CV.i IntKind.u8 (IntKind.wrap IntKind.u8 a)])).size <= 4611686018427387904) then bif U149.c (d ++ bytesOf (List.set (zeros [Ck.i IntKind.u8] 1) 0 [CV.i IntKind.u8 (IntKind.wrap IntKind.u8 a)])) then kr (w64 (Int.tmod (U149.v (d ++ bytesOf (List.set (zeros [Ck.i IntKind.u8] 1) 0 [CV.i IntKind.u8 (IntKind.wrap IntKind.u8 a)]))) 16)) else none else none
def vo := b fun r0 => some r0
def c := fun a d => (vo a d).isSome
def v := fun a d => (vo a d).getD (0)
theorem out {x} : ∀ a d, vo a d = some x -> c a d = true /\ v a d = x := fun _ _ => Lib.out_
end Go.FG.U138

namespace Go.FG.U115
def r17 {R : Type} (N : Nat) (g k0 : F_iiiir R) (a d e f : Int) (h : Row) : Option R := bif decide (0 <= a) && decide (a < (h.length : Int)) then bif decide (d < ((cvL (cellAt h a.toNat 0)).length : Int)) then bif decide (0 <= a) && decide (a < (h.length : Int)) then bif decide (0 <= a) && decide (a < (h.length : Int)) then bif decide (0 <= d) && decide (d < ((cvL (cellAt h a.toNat 0)).length : Int)) then bif decide (0 <= d) && decide (d < ((cvL (cellAt h a.toNat 0)).length : Int)) then g a (w64 (d + 1)) e f (setC h a.toNat 0 [CV.l 3 (setC (cvL (cellAt h a.toNat 0)) d.toNat 0 [.i .i64 (w64 (Int.tdiv (cvI (cellAt (cvL (cellAt h a.toNat 0)) d.toNat 0)) 2))])]) else none else none else none else none else k0 a d e f h else none
def l17 {R : Type} (N : Nat) (k0 : F_iiiir R) : Nat -> F_iiiir R
 | 0 => fun _ _ _ _ _ => none
 | n + 1 => r17 N (l17 N k0 n) k0
def r14 {R : Type} (N : Nat) (g k0 : F_iiir R) (a d e : Int) (f : Row) : Option R := bif decide (a < (f.length : Int)) then l17 N (fun h _ i j l => g (w64 (h + 1)) i j l) N a 0 d e f else k0 a d e f
def l14 {R : Type} (N : Nat) (k0 : F_iiir R) : Nat -> F_iiir R
 | 0 => fun _ _ _ _ => none
 | n + 1 => r14 N (l14 N k0 n) k0
def r5 {R : Type} (N : Nat) (g k0 : F_siiir R) (a : ByteArray) (d e f : Int) (h : Row) : Option R := bif decide (d < (h.length : Int)) then bif U138.c d a then bif decide (0 <= d) && decide (d < (h.length : Int)) then bif decide (0 <= U138.v d a) && decide (U138.v d a < ((cvL (cellAt h d.toNat 0)).length : Int)) then bif decide (cvI (cellAt (cvL (cellAt h d.toNat 0)) (U138.v d a).toNat 0) < 15) then bif decide (0 <= d) && decide (d < (h.length : Int)) then bif decide (0 <= U138.v d a) && decide (U138.v d a < ((cvL (cellAt h d.toNat 0)).length : Int)) then bif decide (0 <= U138.v d a) && decide (U138.v d a < ((cvL (cellAt h d.toNat 0)).length : Int)) then g a (w64 (d + 1)) e f (setC h d.toNat 0 [CV.l 3 (setC (cvL (cellAt h d.toNat 0)) (U138.v d a).toNat 0 [.i .i64 (w64 (cvI (cellAt (cvL (cellAt h d.toNat 0)) (U138.v d a).toNat 0) + 1))])]) else none else none else none else g a (w64 (d + 1)) e f h else none else none else none else k0 a d e f h
def l5 {R : Type} (N : Nat) (k0 : F_siiir R) : Nat -> F_siiir R
 | 0 => fun _ _ _ _ _ => none
 | n + 1 => r5 N (l5 N k0 n) k0
def b {R : Type} (N : Nat) (kr : F_ri R) (a : Row) (d : Int) (e : ByteArray) : Option R := bif U101.c a d then bif U137.c a d then bif !U137.v a d then kr (U101.v a d).1 (U101.v a d).2 else l5 N (fun _ _ f h i => bif decide (w64 (h + 1) = 64) then l14 N (fun _ _ j l => kr l j) N 0 f 0 i else kr i (w64 (h + 1))) N e 0 0 (U101.v a d).2 (U101.v a d).1 else none else none
def vo := b Lib.big fun r0 r1 => some (r0, r1)
def c := fun a d e => (vo a d e).isSome
def v := fun a d e => (vo a d e).getD ([], 0)
theorem out {x} : ∀ a d e, vo a d e = some x -> c a d e = true /\ v a d e = x := fun _ _ _ => Lib.out_
end Go.FG.U115

namespace Go.FG.U117
def r3 {R : Type} (N : Nat) (g k0 : F_rsir R) (a : Row) (d : ByteArray) (e : Int) (f : Row) : Option R := bif decide (e < (a.length : Int)) then bif decide (0 <= e) && decide (e < (a.length : Int)) then bif !List.beq (cvS (cellAt a e.toNat 0)).toList (ByteArray.toList d) then bif decide (0 <= e) && decide (e < (a.length : Int)) then bif roomy (f.length + (List.set (zeros [.s] 1) 0 [.s (cvS (cellAt a e.toNat 0))]).length) 16 then g a d (w64 (e + 1)) (f ++ List.set (zeros [.s] 1) 0 [.s (cvS (cellAt a e.toNat 0))]) else none else none else g a d (w64 (e + 1)) f else none else k0 a d e f
def l3 {R : Type} (N : Nat) (k0 : F_rsir R) : Nat -> F_rsir R
 | 0 => fun _ _ _ _ => none
 | n + 1 => r3 N (l3 N k0 n) k0
def b {R : Type} (N : Nat) (kr : Row -> Option R) (a : Row) (d : ByteArray) : Option R := l3 N (fun _ _ _ e => kr e) N a d 0 (zeros [.s] 0)
def vo := b Lib.big fun r0 => some r0
def c := fun a d => (vo a d).isSome
def v := fun a d => (vo a d).getD ([])
theorem out {x} : ∀ a d, vo a d = some x -> c a d = true /\ v a d = x := fun _ _ => Lib.out_
end Go.FG.U117

namespace Go.FG.U118
def r5 {R : Type} (N : Nat) (g k0 : F_siiri R) (a : ByteArray) (d e : Int) (f : Row) (h : Int) : Option R := bif decide (e < (f.length : Int)) then bif decide (0 <= e) && decide (e < (f.length : Int)) then bif U138.c e a then bif decide (0 <= U138.v e a) && decide (U138.v e a < ((cvL (cellAt f e.toNat 0)).length : Int)) then bif decide (cvI (cellAt (cvL (cellAt f e.toNat 0)) (U138.v e a).toNat 0) < d) then g a (cvI (cellAt (cvL (cellAt f e.toNat 0)) (U138.v e a).toNat 0)) (w64 (e + 1)) f h else g a d (w64 (e + 1)) f h else none else none else none else k0 a d e f h
def l5 {R : Type} (N : Nat) (k0 : F_siiri R) : Nat -> F_siiri R
 | 0 => fun _ _ _ _ _ => none
 | n + 1 => r5 N (l5 N k0 n) k0
def b {R : Type} (N : Nat) (kr : Int -> Option R) (a : Row) (d : Int) (e : ByteArray) : Option R := bif U137.c a d then bif !U137.v a d then kr 0 else l5 N (fun _ f _ _ _ => kr f) N e 15 0 a d else none
def vo := b Lib.big fun r0 => some r0
def c := fun a d e => (vo a d e).isSome
def v := fun a d e => (vo a d e).getD (0)
theorem out {x} : ∀ a d e, vo a d e = some x -> c a d e = true /\ v a d e = x := fun _ _ _ => Lib.out_
end Go.FG.U118

namespace Go.FG.U89
def b {R : Type} (kr : F_rrris R) (a d e : Row) (f : Int) (h : ByteArray) : Option R := bif U66.c a d e f then bif U114.c a d e f then bif !U114.v a d e f then kr (U66.v a d e f).1 (U66.v a d e f).2.1 (U66.v a d e f).2.2.1 (U66.v a d e f).2.2.2 ⟨#[]⟩ else bif !U88.v h then kr (U66.v a d e f).1 (U66.v a d e f).2.1 (U66.v a d e f).2.2.1 (U66.v a d e f).2.2.2 ⟨#[]⟩ else bif U115.c e f h then bif U116.c a h then bif U116.v a h then bif U117.c a h then bif roomy ((U117.v a h).length + (List.set (zeros [.s] 1) 0 [.s h]).length) 16 then kr (U117.v a h ++ List.set (zeros [.s] 1) 0 [.s h]) (U66.v a d e f).2.1 (U115.v e f h).1 (U115.v e f h).2 ⟨#[]⟩ else none else none else bif U116.c d h then bif U116.v d h then bif U117.c d h then bif roomy ((U117.v d h).length + (List.set (zeros [.s] 1) 0 [.s h]).length) 16 then kr (U66.v a d e f).1 (U117.v d h ++ List.set (zeros [.s] 1) 0 [.s h]) (U115.v e f h).1 (U115.v e f h).2 ⟨#[]⟩ else none else none else bif roomy ((U66.v a d e f).1.length + (List.set (zeros [.s] 1) 0 [.s h]).length) 16 then bif decide ((((U66.v a d e f).1 ++ List.set (zeros [.s] 1) 0 [.s h]).length : Int) <= 2) then kr ((U66.v a d e f).1 ++ List.set (zeros [.s] 1) 0 [.s h]) (U66.v a d e f).2.1 (U115.v e f h).1 (U115.v e f h).2 ⟨#[]⟩ else bif decide (0 < (((U66.v a d e f).1 ++ List.set (zeros [.s] 1) 0 [.s h]).length : Int)) then bif inB 1 (((U66.v a d e f).1 ++ List.set (zeros [.s] 1) 0 [.s h]).length : Int) (((U66.v a d e f).1 ++ List.set (zeros [.s] 1) 0 [.s h]).length : Int) then bif roomy ((zeros [.s] 0).length + (view ((U66.v a d e f).1 ++ List.set (zeros [.s] 1) 0 [.s h]) (Int.toNat 1) (((U66.v a d e f).1 ++ List.set (zeros [.s] 1) 0 [.s h]).length : Int).toNat).length) 16 then bif decide (((U66.v a d e f).2.1.length : Int) < 4) then bif roomy ((U66.v a d e f).2.1.length + (List.set (zeros [.s] 1) 0 [.s (cvS (cellAt ((U66.v a d e f).1 ++ List.set (zeros [.s] 1) 0 [.s h]) (Int.toNat 0) 0))]).length) 16 then kr (zeros [.s] 0 ++ view ((U66.v a d e f).1 ++ List.set (zeros [.s] 1) 0 [.s h]) (Int.toNat 1) (((U66.v a d e f).1 ++ List.set (zeros [.s] 1) 0 [.s h]).length : Int).toNat) ((U66.v a d e f).2.1 ++ List.set (zeros [.s] 1) 0 [.s (cvS (cellAt ((U66.v a d e f).1 ++ List.set (zeros [.s] 1) 0 [.s h]) (Int.toNat 0) 0))]) (U115.v e f h).1 (U115.v e f h).2 ⟨#[]⟩ else none else bif U118.c (U115.v e f h).1 (U115.v e f h).2 (cvS (cellAt ((U66.v a d e f).1 ++ List.set (zeros [.s] 1) 0 [.s h]) (Int.toNat 0) 0)) then bif decide (0 < ((U66.v a d e f).2.1.length : Int)) then bif U118.c (U115.v e f h).1 (U115.v e f h).2 (cvS (cellAt (U66.v a d e f).2.1 (Int.toNat 0) 0)) then bif decide (U118.v (U115.v e f h).1 (U115.v e f h).2 (cvS (cellAt ((U66.v a d e f).1 ++ List.set (zeros [.s] 1) 0 [.s h]) (Int.toNat 0) 0)) > U118.v (U115.v e f h).1 (U115.v e f h).2 (cvS (cellAt (U66.v a d e f).2.1 (Int.toNat 0) 0))) then bif decide (0 < ((U66.v a d e f).2.1.length : Int)) then bif inB 1 ((U66.v a d e f).2.1.length : Int) ((U66.v a d e f).2.1.length : Int) then bif roomy ((zeros [.s] 0).length + (view (U66.v a d e f).2.1 (Int.toNat 1) ((U66.v a d e f).2.1.length : Int).toNat).length) 16 then bif roomy ((zeros [.s] 0 ++ view (U66.v a d e f).2.1 (Int.toNat 1) ((U66.v a d e f).2.1.length : Int).toNat).length + (List.set (zeros [.s] 1) 0 [.s (cvS (cellAt ((U66.v a d e f).1 ++ List.set (zeros [.s] 1) 0 [.s h]) (Int.toNat 0) 0))]).length) 16 then kr (zeros [.s] 0 ++ view ((U66.v a d e f).1 ++ List.set (zeros [.s] 1) 0 [.s h]) (Int.toNat 1) (((U66.v a d e f).1 ++ List.set (zeros [.s] 1) 0 [.s h]).length : Int).toNat) (zeros [.s] 0 ++ view (U66.v a d e f).2.1 (Int.toNat 1) ((U66.v a d e f).2.1.length : Int).toNat ++ List.set (zeros [.s] 1) 0 [.s (cvS (cellAt ((U66.v a d e f).1 ++ List.set (zeros [.s] 1) 0 [.s h]) (Int.toNat 0) 0))]) (U115.v e f h).1 (U115.v e f h).2 (cvS (cellAt (U66.v a d e f).2.1 (Int.toNat 0) 0)) else none else none else none else none else kr (zeros [.s] 0 ++ view ((U66.v a d e f).1 ++ List.set (zeros [.s] 1) 0 [.s h]) (Int.toNat 1) (((U66.v a d e f).1 ++ List.set (zeros [.s] 1) 0 [.s h]).length : Int).toNat) (U66.v a d e f).2.1 (U115.v e f h).1 (U115.v e f h).2 (cvS (cellAt ((U66.v a d e f).1 ++ List.set (zeros [.s] 1) 0 [.s h]) (Int.toNat 0) 0)) else none else none else none else none else none else none else none else none else none else none else none else none
def vo := b fun r0 r1 r2 r3 r4 => some (r0, r1, r2, r3, r4)
def c := fun a d e f h => (vo a d e f h).isSome
def v := fun a d e f h => (vo a d e f h).getD ([], [], [], 0, ⟨#[]⟩)
theorem out {x} : ∀ a d e f h, vo a d e f h = some x -> c a d e f h = true /\ v a d e f h = x := fun _ _ _ _ _ => Lib.out_
end Go.FG.U89

namespace Go.FG.U90
def r3 {R : Type} (N : Nat) (g k0 : F_rsir R) (a : Row) (d : ByteArray) (e : Int) (f : Row) : Option R := bif decide (e < (a.length : Int)) then bif decide (0 <= e) && decide (e < (a.length : Int)) then bif !List.beq (cvS (cellAt a e.toNat 0)).toList (ByteArray.toList d) then bif decide (0 <= e) && decide (e < (a.length : Int)) then bif roomy (f.length + (List.set (zeros [Ck.s, Ck.i IntKind.i64, Ck.i IntKind.i64, Ck.s] 1) 0 [.s (cvS (cellAt a e.toNat 0)), .i .i64 (cvI (cellAt a e.toNat 1)), .i .i64 (cvI (cellAt a e.toNat (1 + 1))), .s (cvS (cellAt a e.toNat (1 + 1 + 1)))]).length) 48 then g a d (w64 (e + 1)) (f ++ List.set (zeros [Ck.s, Ck.i IntKind.i64, Ck.i IntKind.i64, Ck.s] 1) 0 [.s (cvS (cellAt a e.toNat 0)), .i .i64 (cvI (cellAt a e.toNat 1)), .i .i64 (cvI (cellAt a e.toNat (1 + 1))), .s (cvS (cellAt a e.toNat (1 + 1 + 1)))]) else none else none else g a d (w64 (e + 1)) f else none else k0 a d e f
def l3 {R : Type} (N : Nat) (k0 : F_rsir R) : Nat -> F_rsir R
 | 0 => fun _ _ _ _ => none
 | n + 1 => r3 N (l3 N k0 n) k0
def b {R : Type} (N : Nat) (kr : Row -> Option R) (a : Row) (d : ByteArray) : Option R := l3 N (fun _ _ _ e => kr e) N a d 0 (zeros [Ck.s, Ck.i IntKind.i64, Ck.i IntKind.i64, Ck.s] 0)
def vo := b Lib.big fun r0 => some r0
def c := fun a d => (vo a d).isSome
def v := fun a d => (vo a d).getD ([])
theorem out {x} : ∀ a d, vo a d = some x -> c a d = true /\ v a d = x := fun _ _ => Lib.out_
end Go.FG.U90

namespace Go.FG.U92
def r9 {R : Type} (N : Nat) (g k0 : F_risiisr R) (a : Row) (d : Int) (e : ByteArray) (f h : Int) (i : ByteArray) (j : Row) : Option R := bif decide (d < (a.length : Int)) then bif decide (0 <= d) && decide (d < (a.length : Int)) then bif !(Op.bytesLess (cvS (cellAt a d.toNat 0)).toList (ByteArray.toList e) || List.beq (cvS (cellAt a d.toNat 0)).toList (ByteArray.toList e)) then bif decide (0 <= d) && decide (d < (a.length : Int)) then bif roomy (j.length + (List.set (zeros [Ck.s, Ck.i IntKind.i64, Ck.i IntKind.i64, Ck.s] 1) 0 [.s (cvS (cellAt a d.toNat 0)), .i .i64 (cvI (cellAt a d.toNat 1)), .i .i64 (cvI (cellAt a d.toNat (1 + 1))), .s (cvS (cellAt a d.toNat (1 + 1 + 1)))]).length) 48 then g a (w64 (d + 1)) e f h i (j ++ List.set (zeros [Ck.s, Ck.i IntKind.i64, Ck.i IntKind.i64, Ck.s] 1) 0 [.s (cvS (cellAt a d.toNat 0)), .i .i64 (cvI (cellAt a d.toNat 1)), .i .i64 (cvI (cellAt a d.toNat (1 + 1))), .s (cvS (cellAt a d.toNat (1 + 1 + 1)))]) else none else none else g a (w64 (d + 1)) e f h i j else none else k0 a d e f h i j
def l9 {R : Type} (N : Nat) (k0 : F_risiisr R) : Nat -> F_risiisr R
 | 0 => fun _ _ _ _ _ _ _ => none
 | n + 1 => r9 N (l9 N k0 n) k0
def r3 {R : Type} (N : Nat) (g k0 : F_risiisr R) (a : Row) (d : Int) (e : ByteArray) (f h : Int) (i : ByteArray) (j : Row) : Option R := bif decide (d < (a.length : Int)) then bif decide (0 <= d) && decide (d < (a.length : Int)) then bif Op.bytesLess (cvS (cellAt a d.toNat 0)).toList (ByteArray.toList e) then bif decide (0 <= d) && decide (d < (a.length : Int)) then bif roomy (j.length + (List.set (zeros [Ck.s, Ck.i IntKind.i64, Ck.i IntKind.i64, Ck.s] 1) 0 [.s (cvS (cellAt a d.toNat 0)), .i .i64 (cvI (cellAt a d.toNat 1)), .i .i64 (cvI (cellAt a d.toNat (1 + 1))), .s (cvS (cellAt a d.toNat (1 + 1 + 1)))]).length) 48 then g a (w64 (d + 1)) e f h i (j ++ List.set (zeros [Ck.s, Ck.i IntKind.i64, Ck.i IntKind.i64, Ck.s] 1) 0 [.s (cvS (cellAt a d.toNat 0)), .i .i64 (cvI (cellAt a d.toNat 1)), .i .i64 (cvI (cellAt a d.toNat (1 + 1))), .s (cvS (cellAt a d.toNat (1 + 1 + 1)))]) else none else none else g a (w64 (d + 1)) e f h i j else none else k0 a d e f h i j
def l3 {R : Type} (N : Nat) (k0 : F_risiisr R) : Nat -> F_risiisr R
 | 0 => fun _ _ _ _ _ _ _ => none
 | n + 1 => r3 N (l3 N k0 n) k0
def b {R : Type} (N : Nat) (kr : Row -> Option R) (a : Row) (d : ByteArray) (e f : Int) (h : ByteArray) : Option R := l3 N (fun i _ j l m o p => bif roomy (p.length + (List.set (zeros [Ck.s, Ck.i IntKind.i64, Ck.i IntKind.i64, Ck.s] 1) 0 [.s j, .i .i64 l, .i .i64 m, .s o]).length) 48 then l9 N (fun _ _ _ _ _ _ q => kr q) N i 0 j l m o (p ++ List.set (zeros [Ck.s, Ck.i IntKind.i64, Ck.i IntKind.i64, Ck.s] 1) 0 [.s j, .i .i64 l, .i .i64 m, .s o]) else none) N a 0 d e f h (zeros [Ck.s, Ck.i IntKind.i64, Ck.i IntKind.i64, Ck.s] 0)
def vo := b Lib.big fun r0 => some r0
def c := fun a d e f h => (vo a d e f h).isSome
def v := fun a d e f h => (vo a d e f h).getD ([])
theorem out {x} : ∀ a d e f h, vo a d e f h = some x -> c a d e f h = true /\ v a d e f h = x := fun _ _ _ _ _ => Lib.out_
end Go.FG.U92

namespace Go.FG.U53
def b {R : Type} (kr : F_irrrrirri R) (a : Int) (d e f h : Row) (i : Int) (j l : Row) (m : Int) (o : ByteArray) (p q : Int) (r : ByteArray) : Option R := bif U89.c e f h i o then Lib.lt (U89.v e f h i o) fun s => bif !List.beq (ByteArray.toList s.2.2.2.2) (ByteArray.toList ⟨#[]⟩) then bif U90.c d s.2.2.2.2 then Lib.lt (U90.v d s.2.2.2.2) fun t => bif U91.c s.1 s.2.1 s.2.2.1 s.2.2.2.1 o then Lib.lt (U91.v s.1 s.2.1 s.2.2.1 s.2.2.2.1 o) fun u => bif u then bif U92.c t o p q r then Lib.lt (U92.v t o p q r) fun w => kr a w s.1 s.2.1 s.2.2.1 s.2.2.2.1 j l m else none else kr a t s.1 s.2.1 s.2.2.1 s.2.2.2.1 j l m else none else none else bif U91.c s.1 s.2.1 s.2.2.1 s.2.2.2.1 o then Lib.lt (U91.v s.1 s.2.1 s.2.2.1 s.2.2.2.1 o) fun y => bif y then bif U92.c d o p q r then Lib.lt (U92.v d o p q r) fun z => kr a z s.1 s.2.1 s.2.2.1 s.2.2.2.1 j l m else none else kr a d s.1 s.2.1 s.2.2.1 s.2.2.2.1 j l m else none else none
def vo := b fun r0 r1 r2 r3 r4 r5 r6 r7 r8 => some (r0, r1, r2, r3, r4, r5, r6, r7, r8)
def c := fun a d e f h i j l m o p q r => (vo a d e f h i j l m o p q r).isSome
def v := fun a d e f h i j l m o p q r => (vo a d e f h i j l m o p q r).getD (0, [], [], [], [], 0, [], [], 0)
theorem out {x} : ∀ a d e f h i j l m o p q r, vo a d e f h i j l m o p q r = some x -> c a d e f h i j l m o p q r = true /\ v a d e f h i j l m o p q r = x := fun _ _ _ _ _ _ _ _ _ _ _ _ _ => Lib.out_
end Go.FG.U53

namespace Go.FG.U22
def b {R : Type} (kr : F_irrrrirrib R) (a : Int) (d e f h : Row) (i : Int) (j l : Row) (m o p : Int) : Option R := bif U27.c a d e f h i j l m then Lib.lt (U27.v a d e f h i j l m) fun q => bif U28.c a d e f h i j l m o then Lib.lt (U28.v a d e f h i j l m o) fun r => bif !r then kr q.1 q.2.1 q.2.2.1 q.2.2.2.1 q.2.2.2.2.1 q.2.2.2.2.2.1 q.2.2.2.2.2.2.1 q.2.2.2.2.2.2.2.1 q.2.2.2.2.2.2.2.2 false else bif !U60.v p 0 999999 then kr q.1 q.2.1 q.2.2.1 q.2.2.2.1 q.2.2.2.2.1 q.2.2.2.2.2.1 q.2.2.2.2.2.2.1 q.2.2.2.2.2.2.2.1 q.2.2.2.2.2.2.2.2 false else bif decide (0 <= o) && decide (o < (j.length : Int)) then bif decide (0 <= o) && decide (o < (q.2.2.2.2.2.2.1.length : Int)) then bif U29.c q.1 q.2.1 q.2.2.1 q.2.2.2.1 q.2.2.2.2.1 q.2.2.2.2.2.1 (setC q.2.2.2.2.2.2.1 o.toNat 0 [.s (cvS (cellAt j o.toNat 0)), .s (cvS (cellAt j o.toNat 1)), .i .i64 2, .i .i64 p, .i .i64 a]) q.2.2.2.2.2.2.2.1 q.2.2.2.2.2.2.2.2 o 2 then Lib.lt (U29.v q.1 q.2.1 q.2.2.1 q.2.2.2.1 q.2.2.2.2.1 q.2.2.2.2.2.1 (setC q.2.2.2.2.2.2.1 o.toNat 0 [.s (cvS (cellAt j o.toNat 0)), .s (cvS (cellAt j o.toNat 1)), .i .i64 2, .i .i64 p, .i .i64 a]) q.2.2.2.2.2.2.2.1 q.2.2.2.2.2.2.2.2 o 2) fun s => bif decide (p > 0) then bif U53.c s.1 s.2.1 s.2.2.1 s.2.2.2.1 s.2.2.2.2.1 s.2.2.2.2.2.1 s.2.2.2.2.2.2.1 s.2.2.2.2.2.2.2.1 s.2.2.2.2.2.2.2.2 (cvS (cellAt j o.toNat 0)) a p (cvS (cellAt j o.toNat 1)) then Lib.lt (U53.v s.1 s.2.1 s.2.2.1 s.2.2.2.1 s.2.2.2.2.1 s.2.2.2.2.2.1 s.2.2.2.2.2.2.1 s.2.2.2.2.2.2.2.1 s.2.2.2.2.2.2.2.2 (cvS (cellAt j o.toNat 0)) a p (cvS (cellAt j o.toNat 1))) fun t => kr t.1 t.2.1 t.2.2.1 t.2.2.2.1 t.2.2.2.2.1 t.2.2.2.2.2.1 t.2.2.2.2.2.2.1 t.2.2.2.2.2.2.2.1 t.2.2.2.2.2.2.2.2 true else none else kr s.1 s.2.1 s.2.2.1 s.2.2.2.1 s.2.2.2.2.1 s.2.2.2.2.2.1 s.2.2.2.2.2.2.1 s.2.2.2.2.2.2.2.1 s.2.2.2.2.2.2.2.2 true else none else none else none else none else none
def vo := b fun r0 r1 r2 r3 r4 r5 r6 r7 r8 r9 => some (r0, r1, r2, r3, r4, r5, r6, r7, r8, r9)
def c := fun a d e f h i j l m o p => (vo a d e f h i j l m o p).isSome
def v := fun a d e f h i j l m o p => (vo a d e f h i j l m o p).getD (0, [], [], [], [], 0, [], [], 0, false)
theorem out {x} : ∀ a d e f h i j l m o p, vo a d e f h i j l m o p = some x -> c a d e f h i j l m o p = true /\ v a d e f h i j l m o p = x := fun _ _ _ _ _ _ _ _ _ _ _ => Lib.out_
end Go.FG.U22

namespace Go.FG.U72
def b {R : Type} (kr : Row -> Option R) (a : Row) : Option R := bif roomy ((zeros [Ck.s, Ck.i IntKind.i64, Ck.i IntKind.i64, Ck.s] 0).length + a.length) 48 then kr (zeros [Ck.s, Ck.i IntKind.i64, Ck.i IntKind.i64, Ck.s] 0 ++ a) else none
def vo := b fun r0 => some r0
def c := fun a => (vo a).isSome
def v := fun a => (vo a).getD ([])
theorem out {x} : ∀ a, vo a = some x -> c a = true /\ v a = x := fun _ => Lib.out_
end Go.FG.U72

namespace Go.FG.U105
def b {R : Type} (kr : Row -> Option R) (a : Row) : Option R := bif roomy ((zeros [.s] 0).length + a.length) 16 then kr (zeros [.s] 0 ++ a) else none
def vo := b fun r0 => some r0
def c := fun a => (vo a).isSome
def v := fun a => (vo a).getD ([])
theorem out {x} : ∀ a, vo a = some x -> c a = true /\ v a = x := fun _ => Lib.out_
end Go.FG.U105

namespace Go.FG.U132
def b {R : Type} (kr : Row -> Option R) (a : Row) : Option R := bif roomy ((zeros [Ck.i IntKind.i64] 0).length + a.length) 8 then kr (zeros [Ck.i IntKind.i64] 0 ++ a) else none
def vo := b fun r0 => some r0
def c := fun a => (vo a).isSome
def v := fun a => (vo a).getD ([])
theorem out {x} : ∀ a, vo a = some x -> c a = true /\ v a = x := fun _ => Lib.out_
end Go.FG.U132

namespace Go.FG.U106
def r3 {R : Type} (N : Nat) (g : F_riiii R) (g1 : F_riiiir R) (k0 : F_riiii R) (k1 : F_riiiir R) (a : Row) (d e f h : Int) : Option R := bif decide (e < d) then bif decide (0 <= e) && decide (e < (a.length : Int)) then bif U132.c (cvL (cellAt a e.toNat 0)) then g1 a d (w64 (e + 1)) f h ([] ++ List.set (zeros [Ck.l 3] 1) 0 [CV.l 3 (U132.v (cvL (cellAt a e.toNat 0)))]) else none else none else k0 a d e f h
def r3a {R : Type} (N : Nat) (g : F_riiii R) (g1 : F_riiiir R) (k0 : F_riiii R) (k1 : F_riiiir R) (a : Row) (d e f h : Int) (i : Row) : Option R := bif decide (e < d) then bif decide (0 <= e) && decide (e < (a.length : Int)) then bif U132.c (cvL (cellAt a e.toNat 0)) then bif roomy (i.length + (List.set (zeros [Ck.l 3] 1) 0 [CV.l 3 (U132.v (cvL (cellAt a e.toNat 0)))]).length) 24 then g1 a d (w64 (e + 1)) f h (i ++ List.set (zeros [Ck.l 3] 1) 0 [CV.l 3 (U132.v (cvL (cellAt a e.toNat 0)))]) else none else none else none else k1 a d e f h i
def l3a {R : Type} (N : Nat) (k0 : F_riiii R) (k1 : F_riiiir R) : Nat -> F_riiiir R
 | 0 => fun _ _ _ _ _ _ => none
 | n + 1 => r3a N (fun x0 x1 x2 x3 x4 => none) (l3a N k0 k1 n) k0 k1
def l3 {R : Type} (N : Nat) (k0 : F_riiii R) (k1 : F_riiiir R) : Nat -> F_riiii R
 | 0 => fun _ _ _ _ _ => none
 | n + 1 => r3 N (l3 N k0 k1 n) (l3a N k0 k1 n) k0 k1
def b {R : Type} (N : Nat) (kr : F_ri R) (a : Row) (d : Int) : Option R := l3 N (fun _ _ _ _ e => kr [] e) (fun _ _ _ _ f h => kr h f) N a (a.length : Int) 0 0 d
def vo := b Lib.big fun r0 r1 => some (r0, r1)
def c := fun a d => (vo a d).isSome
def v := fun a d => (vo a d).getD ([], 0)
theorem out {x} : ∀ a d, vo a d = some x -> c a d = true /\ v a d = x := fun _ _ => Lib.out_
end Go.FG.U106

namespace Go.FG.U73
def b {R : Type} (kr : F_rrri R) (a d e : Row) (f : Int) : Option R := bif U105.c a then bif U105.c d then bif U106.c e f then kr (U105.v a) (U105.v d) (U106.v e f).1 (U106.v e f).2 else none else none else none
def vo := b fun r0 r1 r2 r3 => some (r0, r1, r2, r3)
def c := fun a d e f => (vo a d e f).isSome
def v := fun a d e f => (vo a d e f).getD ([], [], [], 0)
theorem out {x} : ∀ a d e f, vo a d e f = some x -> c a d e f = true /\ v a d e f = x := fun _ _ _ _ => Lib.out_
end Go.FG.U73

namespace Go.FG.U33
def b {R : Type} (kr : F_irrrrirri R) (a : Int) (d e f h : Row) (i : Int) (j l : Row) (m : Int) : Option R := bif U72.c d then bif U73.c e f h i then bif roomy ((zeros [Ck.s, Ck.s, Ck.i IntKind.i64, Ck.i IntKind.i64, Ck.i IntKind.i64] 0).length + j.length) 56 then bif roomy ((zeros [Ck.i IntKind.i64, Ck.s, Ck.i IntKind.i64, Ck.i IntKind.i64, Ck.i IntKind.i64, Ck.s, Ck.i IntKind.i64] 0).length + l.length) 72 then kr a (U72.v d) (U73.v e f h i).1 (U73.v e f h i).2.1 (U73.v e f h i).2.2.1 (U73.v e f h i).2.2.2 (zeros [Ck.s, Ck.s, Ck.i IntKind.i64, Ck.i IntKind.i64, Ck.i IntKind.i64] 0 ++ j) (zeros [Ck.i IntKind.i64, Ck.s, Ck.i IntKind.i64, Ck.i IntKind.i64, Ck.i IntKind.i64, Ck.s, Ck.i IntKind.i64] 0 ++ l) m else none else none else none else none
def vo := b fun r0 r1 r2 r3 r4 r5 r6 r7 r8 => some (r0, r1, r2, r3, r4, r5, r6, r7, r8)
def c := fun a d e f h i j l m => (vo a d e f h i j l m).isSome
def v := fun a d e f h i j l m => (vo a d e f h i j l m).getD (0, [], [], [], [], 0, [], [], 0)
theorem out {x} : ∀ a d e f h i j l m, vo a d e f h i j l m = some x -> c a d e f h i j l m = true /\ v a d e f h i j l m = x := fun _ _ _ _ _ _ _ _ _ => Lib.out_
end Go.FG.U33

namespace Go.FG.U61
def b {R : Type} (kr : Bool -> Option R) (a d e : Int) : Option R := bif decide (a ≥ d) then kr (decide (a <= e)) else kr false
def v (a0 a1 a2 : Int) : Bool := bif decide (a0 ≥ a1) then decide (a0 <= a2) else false
theorem b_eq {R : Type} (kr : Bool -> Option R) (a0 a1 a2 : Int) : b kr a0 a1 a2 = kr (v a0 a1 a2) := by
 first | rfl | (unfold b v; simp only [Bool.cond_eq_ite]; (repeat' split) <;> rfl)
end Go.FG.U61

namespace Go.FG.U120
def b {R : Type} (kr : Bool -> Option R) (a : ByteArray) : Option R := kr (U61.v (a.size : Int) 1 30)
def v (a0 : ByteArray) : Bool := (U61.v (a0.size : Int) 1 30)
theorem b_eq {R : Type} (kr : Bool -> Option R) (a0 : ByteArray) : b kr a0 = kr (v a0) := by
 first | rfl | (unfold b v; simp only [Bool.cond_eq_ite]; (repeat' split) <;> rfl)
end Go.FG.U120

namespace Go.FG.U95
def b {R : Type} (kr : Bool -> Option R) (a : Int) : Option R := kr (U61.v a 0 1000000000)
def v (a0 : Int) : Bool := (U61.v a0 0 1000000000)
theorem b_eq {R : Type} (kr : Bool -> Option R) (a0 : Int) : b kr a0 = kr (v a0) := by
 first | rfl | (unfold b v; simp only [Bool.cond_eq_ite]; (repeat' split) <;> rfl)
end Go.FG.U95

namespace Go.FG.U94
def b {R : Type} (kr : Bool -> Option R) (a : ByteArray) (d e : Int) (f : ByteArray) : Option R := bif U120.v a then bif U95.v d then bif U61.v e 1 999999 then kr (decide ((f.size : Int) <= 400)) else kr false else kr false else kr false
def v (a0 : ByteArray) (a1 a2 : Int) (a3 : ByteArray) : Bool := bif U120.v a0 then bif U95.v a1 then bif U61.v a2 1 999999 then decide ((a3.size : Int) <= 400) else false else false else false
theorem b_eq {R : Type} (kr : Bool -> Option R) (a0 : ByteArray) (a1 a2 : Int) (a3 : ByteArray) : b kr a0 a1 a2 a3 = kr (v a0 a1 a2 a3) := by
 first | rfl | (unfold b v; simp only [Bool.cond_eq_ite]; (repeat' split) <;> rfl)
end Go.FG.U94

namespace Go.FG.U152
def b {R : Type} (kr : Row -> Option R) (a : Int) : Option R := bif decide (a < 0) then none else bif decide (w64 (a - w64 (0 - 0)) > 0) then bif decide (0 <= w64 (a - w64 (0 - 0))) && roomy (([] : Row).length + (w64 (a - w64 (0 - 0))).toNat) 16 && decide (w64 (a - w64 (0 - 0)) <= 9223372036854775807) then kr (view ([] ++ zeros [.s] (w64 (a - w64 (0 - 0))).toNat) (Int.toNat 0) (Int.toNat 0)) else none else kr []
def vo := b fun r0 => some r0
def c := fun a => (vo a).isSome
def v := fun a => (vo a).getD ([])
theorem out {x} : ∀ a, vo a = some x -> c a = true /\ v a = x := fun _ => Lib.out_
end Go.FG.U152

namespace Go.FG.U145
def r11 {R : Type} (N : Nat) (g k0 : F_riir R) (a : Row) (d e : Int) (f : Row) : Option R := bif decide (e < d) then bif decide (0 <= e) && decide (e < (a.length : Int)) then bif roomy (f.length + (cvL (cellAt a e.toNat 0)).length) 16 then g a d (w64 (e + 1)) (f ++ cvL (cellAt a e.toNat 0)) else none else none else k0 a d e f
def l11 {R : Type} (N : Nat) (k0 : F_riir R) : Nat -> F_riir R
 | 0 => fun _ _ _ _ => none
 | n + 1 => r11 N (l11 N k0 n) k0
def r3 {R : Type} (N : Nat) (g k0 : F_ririi R) (a : Row) (d : Int) (e : Row) (f h : Int) : Option R := bif decide (h < f) then bif decide (0 <= h) && decide (h < (e.length : Int)) then bif decide (w64 (d + ((cvL (cellAt e h.toNat 0)).length : Int)) < 0) then none else g a (w64 (d + ((cvL (cellAt e h.toNat 0)).length : Int))) e f (w64 (h + 1)) else none else k0 a d e f h
def l3 {R : Type} (N : Nat) (k0 : F_ririi R) : Nat -> F_ririi R
 | 0 => fun _ _ _ _ _ => none
 | n + 1 => r3 N (l3 N k0 n) k0
def b {R : Type} (N : Nat) (kr : Row -> Option R) (a : Row) : Option R := l3 N (fun d e _ _ _ => bif U152.c e then l11 N (fun _ _ _ f => kr f) N d (d.length : Int) 0 (U152.v e) else none) N a 0 a (a.length : Int) 0
def vo := b Lib.big fun r0 => some r0
def c := fun a => (vo a).isSome
def v := fun a => (vo a).getD ([])
theorem out {x} : ∀ a, vo a = some x -> c a = true /\ v a = x := fun _ => Lib.out_
end Go.FG.U145

namespace Go.FG.U128
def b {R : Type} (kr : Row -> Option R) (a d e : Row) (f : Int) : Option R := bif U145.c (List.set (List.set (zeros [Ck.l 9] 2) 0 [CV.l 9 a]) 1 [CV.l 9 d]) then kr (U145.v (List.set (List.set (zeros [Ck.l 9] 2) 0 [CV.l 9 a]) 1 [CV.l 9 d])) else none
def vo := b fun r0 => some r0
def c := fun a d e f => (vo a d e f).isSome
def v := fun a d e f => (vo a d e f).getD ([])
theorem out {x} : ∀ a d e f, vo a d e f = some x -> c a d e f = true /\ v a d e f = x := fun _ _ _ _ => Lib.out_
end Go.FG.U128

namespace Go.FG.U141
def r2 {R : Type} (N : Nat) (g k0 k1 : F_rsiii R) (a : Row) (d : ByteArray) (e f h : Int) : Option R := bif decide (h < f) then bif decide (0 <= h) && decide (h < (a.length : Int)) then bif List.beq (ByteArray.toList d) (cvS (cellAt a h.toNat 0)).toList then k0 a d h f h else g a d e f (w64 (h + 1)) else none else k1 a d e f h
def l2 {R : Type} (N : Nat) (k0 k1 : F_rsiii R) : Nat -> F_rsiii R
 | 0 => fun _ _ _ _ _ => none
 | n + 1 => r2 N (l2 N k0 k1 n) k0 k1
def b {R : Type} (N : Nat) (kr : Int -> Option R) (a : Row) (d : ByteArray) : Option R := l2 N (fun _ _ e _ _ => kr e) (fun _ _ _ _ _ => kr (-1)) N a d 0 (a.length : Int) 0
def vo := b Lib.big fun r0 => some r0
def c := fun a d => (vo a d).isSome
def v := fun a d => (vo a d).getD (0)
theorem out {x} : ∀ a d, vo a d = some x -> c a d = true /\ v a d = x := fun _ _ => Lib.out_
end Go.FG.U141

namespace Go.FG.U123
def b {R : Type} (kr : Bool -> Option R) (a : Row) (d : ByteArray) : Option R := bif U141.c a d then kr (decide (U141.v a d ≥ 0)) else none
def vo := b fun r0 => some r0
def c := fun a d => (vo a d).isSome
def v := fun a d => (vo a d).getD false
theorem out {x} : ∀ a d, vo a d = some x -> c a d = true /\ v a d = x := fun _ _ => Lib.out_
end Go.FG.U123

namespace Go.FG.U98
def b {R : Type} (kr : Bool -> Option R) (a d e : Row) (f : Int) (h : ByteArray) : Option R := bif U128.c a d e f then bif U123.c (U128.v a d e f) h then kr (U123.v (U128.v a d e f) h) else none else none
def vo := b fun r0 => some r0
def c := fun a d e f h => (vo a d e f h).isSome
def v := fun a d e f h => (vo a d e f h).getD false
theorem out {x} : ∀ a d e f h, vo a d e f h = some x -> c a d e f h = true /\ v a d e f h = x := fun _ _ _ _ _ => Lib.out_
end Go.FG.U98

namespace Go.FG.U139
def r5 {R : Type} (N : Nat) (g k0 k1 : F_brriiriiri R) (a : Bool) (d e : Row) (f h : Int) (i : Row) (j l : Int) (m : Row) (o : Int) : Option R := bif decide (l < j) then bif decide (0 <= l) && decide (l < (i.length : Int)) then bif !U61.v (cvI (cellAt i l.toNat 0)) 0 15 then k0 false d e f h i j l m o else g a d e f h i j (w64 (l + 1)) m o else none else k1 a d e f h i j l m o
def l5 {R : Type} (N : Nat) (k0 k1 : F_brriiriiri R) : Nat -> F_brriiriiri R
 | 0 => fun _ _ _ _ _ _ _ _ _ _ => none
 | n + 1 => r5 N (l5 N k0 k1 n) k0 k1
def r2 {R : Type} (N : Nat) (g k0 k1 : F_briiri R) (a : Bool) (d : Row) (e f : Int) (h : Row) (i : Int) : Option R := bif decide (f < e) then bif decide (0 <= f) && decide (f < (d.length : Int)) then l5 N (fun j _ l m o _ _ _ p q => k0 j l m o p q) (fun r s t u w _ _ _ y z => bif (s.length : Int) != 16 then k0 false t u w y z else g r t u (w64 (w + 1)) y z) N a (cvL (cellAt d f.toNat 0)) d e f (cvL (cellAt d f.toNat 0)) ((cvL (cellAt d f.toNat 0)).length : Int) 0 h i else none else k1 a d e f h i
def l2 {R : Type} (N : Nat) (k0 k1 : F_briiri R) : Nat -> F_briiri R
 | 0 => fun _ _ _ _ _ _ => none
 | n + 1 => r2 N (l2 N k0 k1 n) k0 k1
def b {R : Type} (N : Nat) (kr : Bool -> Option R) (a : Row) (d : Int) : Option R := l2 N (fun e _ _ _ _ _ => kr e) (fun _ _ _ _ f h => bif decide ((f.length : Int) = 3) then kr (U61.v h 0 63) else kr false) N false a (a.length : Int) 0 a d
def vo := b Lib.big fun r0 => some r0
def c := fun a d => (vo a d).isSome
def v := fun a d => (vo a d).getD false
theorem out {x} : ∀ a d, vo a d = some x -> c a d = true /\ v a d = x := fun _ _ => Lib.out_
end Go.FG.U139

namespace Go.FG.U121
def r3 {R : Type} (N : Nat) (g k0 k1 : F_biirrrir R) (a : Bool) (d e : Int) (f h i : Row) (j : Int) (l : Row) : Option R := bif decide (e < d) then bif decide (0 <= e) && decide (e < (l.length : Int)) then bif !U120.v (cvS (cellAt l e.toNat 0)) then k0 false d e f h i j l else bif inB 0 e (l.length : Int) then bif U123.c (view l (Int.toNat 0) e.toNat) (cvS (cellAt l e.toNat 0)) then bif U123.v (view l (Int.toNat 0) e.toNat) (cvS (cellAt l e.toNat 0)) then k0 false d e f h i j l else g a d (w64 (e + 1)) f h i j l else none else none else none else k1 a d e f h i j l
def l3 {R : Type} (N : Nat) (k0 k1 : F_biirrrir R) : Nat -> F_biirrrir R
 | 0 => fun _ _ _ _ _ _ _ _ => none
 | n + 1 => r3 N (l3 N k0 k1 n) k0 k1
def b {R : Type} (N : Nat) (kr : Bool -> Option R) (a d e : Row) (f : Int) : Option R := bif U128.c a d e f then l3 N (fun h _ _ _ _ _ _ _ => kr h) (fun _ _ _ i j l m _ => bif decide ((i.length : Int) <= 2) then bif decide ((j.length : Int) <= 4) then bif U139.c l m then kr (U139.v l m) else none else kr false else kr false) N false ((U128.v a d e f).length : Int) 0 a d e f (U128.v a d e f) else none
def vo := b Lib.big fun r0 => some r0
def c := fun a d e f => (vo a d e f).isSome
def v := fun a d e f => (vo a d e f).getD false
theorem out {x} : ∀ a d e f, vo a d e f = some x -> c a d e f = true /\ v a d e f = x := fun _ _ _ _ => Lib.out_
end Go.FG.U121

namespace Go.FG.U107
def r2 {R : Type} (N : Nat) (g k0 k1 : F_briiirrrrirri R) (a : Bool) (d : Row) (e f h : Int) (i j l m : Row) (o : Int) (p q : Row) (r : Int) : Option R := bif decide (f < e) then bif decide (0 <= f) && decide (f < (d.length : Int)) then bif !U94.v (cvS (cellAt d f.toNat 0)) (cvI (cellAt d f.toNat 1)) (cvI (cellAt d f.toNat (1 + 1))) (cvS (cellAt d f.toNat (1 + 1 + 1))) then k0 false d e f h i j l m o p q r else bif decide (f > 0) then bif decide (0 <= w64 (f - 1)) && decide (w64 (f - 1) < (i.length : Int)) then bif !Op.bytesLess (cvS (cellAt i (w64 (f - 1)).toNat 0)).toList (cvS (cellAt d f.toNat 0)).toList then k0 false d e f h i j l m o p q r else bif U98.c j l m o (cvS (cellAt d f.toNat 0)) then bif !U98.v j l m o (cvS (cellAt d f.toNat 0)) then k0 false d e f h i j l m o p q r else g a d e (w64 (f + 1)) h i j l m o p q r else none else none else bif U98.c j l m o (cvS (cellAt d f.toNat 0)) then bif !U98.v j l m o (cvS (cellAt d f.toNat 0)) then k0 false d e f h i j l m o p q r else g a d e (w64 (f + 1)) h i j l m o p q r else none else none else k1 a d e f h i j l m o p q r
def l2 {R : Type} (N : Nat) (k0 k1 : F_briiirrrrirri R) : Nat -> F_briiirrrrirri R
 | 0 => fun _ _ _ _ _ _ _ _ _ _ _ _ _ => none
 | n + 1 => r2 N (l2 N k0 k1 n) k0 k1
def b {R : Type} (N : Nat) (kr : Bool -> Option R) (a : Int) (d e f h : Row) (i : Int) (j l : Row) (m : Int) : Option R := l2 N (fun o _ _ _ _ _ _ _ _ _ _ _ _ => kr o) (fun _ _ _ _ _ p q r s t _ _ _ => bif U121.c q r s t then bif U121.v q r s t then bif U128.c q r s t then kr (decide (((U128.v q r s t).length : Int) = (p.length : Int))) else none else kr false else none) N false d (d.length : Int) 0 a d e f h i j l m
def vo := b Lib.big fun r0 => some r0
def c := fun a d e f h i j l m => (vo a d e f h i j l m).isSome
def v := fun a d e f h i j l m => (vo a d e f h i j l m).getD false
theorem out {x} : ∀ a d e f h i j l m, vo a d e f h i j l m = some x -> c a d e f h i j l m = true /\ v a d e f h i j l m = x := fun _ _ _ _ _ _ _ _ _ => Lib.out_
end Go.FG.U107

namespace Go.FG.U155
def b {R : Type} (kr : Bool -> Option R) (a d : ByteArray) (e f h : Int) (key1 : ByteArray) : Option R := bif List.beq (ByteArray.toList a) (ByteArray.toList key1) then kr (decide (e = 1)) else kr false
def v (a0 a1 : ByteArray) (a2 a3 a4 : Int) (key1 : ByteArray) : Bool := bif List.beq (ByteArray.toList a0) (ByteArray.toList key1) then decide (a2 = 1) else false
theorem b_eq {R : Type} (kr : Bool -> Option R) (a0 a1 : ByteArray) (a2 a3 a4 : Int) (key1 : ByteArray) : b kr a0 a1 a2 a3 a4 key1 = kr (v a0 a1 a2 a3 a4 key1) := by
 first | rfl | (unfold b v; simp only [Bool.cond_eq_ite]; (repeat' split) <;> rfl)
end Go.FG.U155

namespace Go.FG.U154
def r2 {R : Type} (N : Nat) (g k0 k1 : F_rsiii R) (a : Row) (d : ByteArray) (e f h : Int) : Option R := bif decide (h < f) then bif decide (0 <= h) && decide (h < (a.length : Int)) then bif U155.v (cvS (cellAt a h.toNat 0)) (cvS (cellAt a h.toNat 1)) (cvI (cellAt a h.toNat (1 + 1))) (cvI (cellAt a h.toNat (1 + 1 + 1))) (cvI (cellAt a h.toNat (1 + 1 + 1 + 1))) d then k0 a d h f h else g a d e f (w64 (h + 1)) else none else k1 a d e f h
def l2 {R : Type} (N : Nat) (k0 k1 : F_rsiii R) : Nat -> F_rsiii R
 | 0 => fun _ _ _ _ _ => none
 | n + 1 => r2 N (l2 N k0 k1 n) k0 k1
def b {R : Type} (N : Nat) (kr : Int -> Option R) (a : Row) (key1 : ByteArray) : Option R := l2 N (fun _ _ d _ _ => kr d) (fun _ _ _ _ _ => kr (-1)) N a key1 0 (a.length : Int) 0
def vo := b Lib.big fun r0 => some r0
def c := fun a d => (vo a d).isSome
def v := fun a d => (vo a d).getD (0)
theorem out {x} : ∀ a d, vo a d = some x -> c a d = true /\ v a d = x := fun _ _ => Lib.out_
end Go.FG.U154

namespace Go.FG.U148
def b {R : Type} (kr : Int -> Option R) (a : Int) (d e f h : Row) (i : Int) (j l : Row) (m : Int) (o : ByteArray) : Option R := bif U154.c j o then kr (U154.v j o) else none
def vo := b fun r0 => some r0
def c := fun a d e f h i j l m o => (vo a d e f h i j l m o).isSome
def v := fun a d e f h i j l m o => (vo a d e f h i j l m o).getD (0)
theorem out {x} : ∀ a d e f h i j l m o, vo a d e f h i j l m o = some x -> c a d e f h i j l m o = true /\ v a d e f h i j l m o = x := fun _ _ _ _ _ _ _ _ _ _ => Lib.out_
end Go.FG.U148

namespace Go.FG.U133
def r2 {R : Type} (N : Nat) (g k0 k1 : F_briiirrrrirri R) (a : Bool) (d : Row) (e f h : Int) (i j l m : Row) (o : Int) (p q : Row) (r : Int) : Option R := bif decide (f < e) then bif decide (0 <= f) && decide (f < (d.length : Int)) then bif decide (cvI (cellAt d f.toNat (1 + 1)) = 1) then bif U148.c h i j l m o p q r (cvS (cellAt d f.toNat 0)) then bif U148.v h i j l m o p q r (cvS (cellAt d f.toNat 0)) != f then k0 false d e f h i j l m o p q r else g a d e (w64 (f + 1)) h i j l m o p q r else none else g a d e (w64 (f + 1)) h i j l m o p q r else none else k1 a d e f h i j l m o p q r
def l2 {R : Type} (N : Nat) (k0 k1 : F_briiirrrrirri R) : Nat -> F_briiirrrrirri R
 | 0 => fun _ _ _ _ _ _ _ _ _ _ _ _ _ => none
 | n + 1 => r2 N (l2 N k0 k1 n) k0 k1
def b {R : Type} (N : Nat) (kr : Bool -> Option R) (a : Int) (d e f h : Row) (i : Int) (j l : Row) (m : Int) : Option R := l2 N (fun o _ _ _ _ _ _ _ _ _ _ _ _ => kr o) (fun _ _ _ _ _ _ _ _ _ _ _ _ _ => kr true) N false j (j.length : Int) 0 a d e f h i j l m
def vo := b Lib.big fun r0 => some r0
def c := fun a d e f h i j l m => (vo a d e f h i j l m).isSome
def v := fun a d e f h i j l m => (vo a d e f h i j l m).getD false
theorem out {x} : ∀ a d e f h i j l m, vo a d e f h i j l m = some x -> c a d e f h i j l m = true /\ v a d e f h i j l m = x := fun _ _ _ _ _ _ _ _ _ => Lib.out_
end Go.FG.U133

namespace Go.FG.U108
def r2 {R : Type} (N : Nat) (g k0 k1 : F_briiirrrrirri R) (a : Bool) (d : Row) (e f h : Int) (i j l m : Row) (o : Int) (p q : Row) (r : Int) : Option R := bif decide (f < e) then bif decide (0 <= f) && decide (f < (d.length : Int)) then bif !U120.v (cvS (cellAt d f.toNat 0)) then k0 false d e f h i j l m o p q r else bif decide (((cvS (cellAt d f.toNat 1)).size : Int) > 400) then k0 false d e f h i j l m o p q r else bif !U61.v (cvI (cellAt d f.toNat (1 + 1))) 1 3 then k0 false d e f h i j l m o p q r else bif !U61.v (cvI (cellAt d f.toNat (1 + 1 + 1))) 0 999999 then k0 false d e f h i j l m o p q r else bif !U61.v (cvI (cellAt d f.toNat (1 + 1 + 1 + 1))) 0 h then k0 false d e f h i j l m o p q r else g a d e (w64 (f + 1)) h i j l m o p q r else none else k1 a d e f h i j l m o p q r
def l2 {R : Type} (N : Nat) (k0 k1 : F_briiirrrrirri R) : Nat -> F_briiirrrrirri R
 | 0 => fun _ _ _ _ _ _ _ _ _ _ _ _ _ => none
 | n + 1 => r2 N (l2 N k0 k1 n) k0 k1
def b {R : Type} (N : Nat) (kr : Bool -> Option R) (a : Int) (d e f h : Row) (i : Int) (j l : Row) (m : Int) : Option R := l2 N (fun o _ _ _ _ _ _ _ _ _ _ _ _ => kr o) (fun _ _ _ _ p q r s t u w y z => bif decide ((w.length : Int) <= 20) then bif U133.c p q r s t u w y z then kr (U133.v p q r s t u w y z) else none else kr false) N false j (j.length : Int) 0 a d e f h i j l m
def vo := b Lib.big fun r0 => some r0
def c := fun a d e f h i j l m => (vo a d e f h i j l m).isSome
def v := fun a d e f h i j l m => (vo a d e f h i j l m).getD false
theorem out {x} : ∀ a d e f h i j l m, vo a d e f h i j l m = some x -> c a d e f h i j l m = true /\ v a d e f h i j l m = x := fun _ _ _ _ _ _ _ _ _ => Lib.out_
end Go.FG.U108

namespace Go.FG.U109
def r2 {R : Type} (N : Nat) (g k0 k1 : F_briiirrrrirri R) (a : Bool) (d : Row) (e f h : Int) (i j l m : Row) (o : Int) (p q : Row) (r : Int) : Option R := bif decide (f < e) then bif decide (0 <= f) && decide (f < (d.length : Int)) then bif !U61.v (cvI (cellAt d f.toNat 0)) 1 9 then k0 false d e f h i j l m o p q r else bif decide (f > 0) then bif decide (0 <= w64 (f - 1)) && decide (w64 (f - 1) < (q.length : Int)) then bif decide (cvI (cellAt q (w64 (f - 1)).toNat 0) ≥ cvI (cellAt d f.toNat 0)) then k0 false d e f h i j l m o p q r else bif !U120.v (cvS (cellAt d f.toNat 1)) then k0 false d e f h i j l m o p q r else bif !U61.v (cvI (cellAt d f.toNat (1 + 1 + 1 + 1))) 1 3 then k0 false d e f h i j l m o p q r else bif !U61.v (cvI (cellAt d f.toNat (1 + 1))) 0 (p.length : Int) then k0 false d e f h i j l m o p q r else bif decide (((cvS (cellAt d f.toNat (1 + 1 + 1 + 1 + 1))).size : Int) > 400) then k0 false d e f h i j l m o p q r else bif !U61.v (cvI (cellAt d f.toNat (1 + 1 + 1))) 0 h then k0 false d e f h i j l m o p q r else bif decide (cvI (cellAt d f.toNat (1 + 1 + 1 + 1 + 1 + 1)) < 0) then k0 false d e f h i j l m o p q r else g a d e (w64 (f + 1)) h i j l m o p q r else none else bif !U120.v (cvS (cellAt d f.toNat 1)) then k0 false d e f h i j l m o p q r else bif !U61.v (cvI (cellAt d f.toNat (1 + 1 + 1 + 1))) 1 3 then k0 false d e f h i j l m o p q r else bif !U61.v (cvI (cellAt d f.toNat (1 + 1))) 0 (p.length : Int) then k0 false d e f h i j l m o p q r else bif decide (((cvS (cellAt d f.toNat (1 + 1 + 1 + 1 + 1))).size : Int) > 400) then k0 false d e f h i j l m o p q r else bif !U61.v (cvI (cellAt d f.toNat (1 + 1 + 1))) 0 h then k0 false d e f h i j l m o p q r else bif decide (cvI (cellAt d f.toNat (1 + 1 + 1 + 1 + 1 + 1)) < 0) then k0 false d e f h i j l m o p q r else g a d e (w64 (f + 1)) h i j l m o p q r else none else k1 a d e f h i j l m o p q r
def l2 {R : Type} (N : Nat) (k0 k1 : F_briiirrrrirri R) : Nat -> F_briiirrrrirri R
 | 0 => fun _ _ _ _ _ _ _ _ _ _ _ _ _ => none
 | n + 1 => r2 N (l2 N k0 k1 n) k0 k1
def b {R : Type} (N : Nat) (kr : Bool -> Option R) (a : Int) (d e f h : Row) (i : Int) (j l : Row) (m : Int) : Option R := l2 N (fun o _ _ _ _ _ _ _ _ _ _ _ _ => kr o) (fun _ _ _ _ _ _ _ _ _ _ _ p _ => kr (decide ((p.length : Int) <= 6))) N false l (l.length : Int) 0 a d e f h i j l m
def vo := b Lib.big fun r0 => some r0
def c := fun a d e f h i j l m => (vo a d e f h i j l m).isSome
def v := fun a d e f h i j l m => (vo a d e f h i j l m).getD false
theorem out {x} : ∀ a d e f h i j l m, vo a d e f h i j l m = some x -> c a d e f h i j l m = true /\ v a d e f h i j l m = x := fun _ _ _ _ _ _ _ _ _ => Lib.out_
end Go.FG.U109

namespace Go.FG.U74
def b {R : Type} (kr : Bool -> Option R) (a : Int) (d e f h : Row) (i : Int) (j l : Row) (m : Int) : Option R := bif U61.v a 1 1000000000 then bif U107.c a d e f h i j l m then bif U107.v a d e f h i j l m then bif U108.c a d e f h i j l m then bif U108.v a d e f h i j l m then bif U109.c a d e f h i j l m then bif U109.v a d e f h i j l m then kr (U95.v m) else kr false else none else kr false else none else kr false else none else kr false
def vo := b fun r0 => some r0
def c := fun a d e f h i j l m => (vo a d e f h i j l m).isSome
def v := fun a d e f h i j l m => (vo a d e f h i j l m).getD false
theorem out {x} : ∀ a d e f h i j l m, vo a d e f h i j l m = some x -> c a d e f h i j l m = true /\ v a d e f h i j l m = x := fun _ _ _ _ _ _ _ _ _ => Lib.out_
end Go.FG.U74

namespace Go.FG.U34
def b {R : Type} (kr : Bool -> Option R) (a : Int) (d e f h : Row) (i : Int) (j l : Row) (m o : Int) : Option R := bif U74.c a d e f h i j l m then bif U74.v a d e f h i j l m then kr (U61.v o 0 (w64 ((j.length : Int) - 1))) else kr false else none
def vo := b fun r0 => some r0
def c := fun a d e f h i j l m o => (vo a d e f h i j l m o).isSome
def v := fun a d e f h i j l m o => (vo a d e f h i j l m o).getD false
theorem out {x} : ∀ a d e f h i j l m o, vo a d e f h i j l m o = some x -> c a d e f h i j l m o = true /\ v a d e f h i j l m o = x := fun _ _ _ _ _ _ _ _ _ _ => Lib.out_
end Go.FG.U34

namespace Go.FG.U35
def r1 {R : Type} (N : Nat) (g k0 : F_iiiiiiirrrrrr R) (a d e f h i j : Int) (l m o p q r : Row) : Option R := bif decide (f < e) then bif decide (0 <= f) && decide (f < (l.length : Int)) then bif decide (cvI (cellAt l f.toNat (1 + 1)) = w64 (a + 1)) then bif decide (cvI (cellAt l f.toNat (1 + 1 + 1 + 1)) = 1) then bif decide (0 <= a) && decide (a < (r.length : Int)) then bif decide (0 <= f) && decide (f < (l.length : Int)) then bif decide (0 <= f) && decide (f < ((setC l f.toNat 4 [.i .i64 d]).length : Int)) then g a d e (w64 (f + 1)) h i j (setC (setC l f.toNat 4 [.i .i64 d]) f.toNat 5 [.s (cvS (cellAt r a.toNat 1))]) m o p q r else none else none else none else g a d e (w64 (f + 1)) h i j l m o p q r else g a d e (w64 (f + 1)) h i j l m o p q r else none else k0 a d e f h i j l m o p q r
def l1 {R : Type} (N : Nat) (k0 : F_iiiiiiirrrrrr R) : Nat -> F_iiiiiiirrrrrr R
 | 0 => fun _ _ _ _ _ _ _ _ _ _ _ _ _ => none
 | n + 1 => r1 N (l1 N k0 n) k0
def b {R : Type} (N : Nat) (kr : F_irrrrirri R) (a : Int) (d e f h : Row) (i : Int) (j l : Row) (m o p : Int) : Option R := l1 N (fun _ _ _ _ q r s t u w y z α => kr q u w y z r α t s) N o p (l.length : Int) 0 a i m l d e f h j
def vo := b Lib.big fun r0 r1 r2 r3 r4 r5 r6 r7 r8 => some (r0, r1, r2, r3, r4, r5, r6, r7, r8)
def c := fun a d e f h i j l m o p => (vo a d e f h i j l m o p).isSome
def v := fun a d e f h i j l m o p => (vo a d e f h i j l m o p).getD (0, [], [], [], [], 0, [], [], 0)
theorem out {x} : ∀ a d e f h i j l m o p, vo a d e f h i j l m o p = some x -> c a d e f h i j l m o p = true /\ v a d e f h i j l m o p = x := fun _ _ _ _ _ _ _ _ _ _ _ => Lib.out_
end Go.FG.U35

namespace Go.FG.U157
def r6 {R : Type} (N : Nat) (g k0 : F_isii R) (a : Int) (d : ByteArray) (e f : Int) : Option R := bif decide (f < 8) then bif decide (Int.tmod a 2 = 1) then g (IntKind.wrap IntKind.u32 (↑(BitVec.toNat (BitVec.xor (BitVec.ofInt 32 (IntKind.wrap IntKind.u32 (Int.tdiv a 2))) (BitVec.ofInt 32 3558460437))) : Int)) d e (w64 (f + 1)) else g (IntKind.wrap IntKind.u32 (Int.tdiv a 2)) d e (w64 (f + 1)) else k0 a d e f
def l6 {R : Type} (N : Nat) (k0 : F_isii R) : Nat -> F_isii R
 | 0 => fun _ _ _ _ => none
 | n + 1 => r6 N (l6 N k0 n) k0
def r2 {R : Type} (N : Nat) (g k0 : F_isi R) (a : Int) (d : ByteArray) (e : Int) : Option R := bif decide (e < (d.size : Int)) then bif decide (0 <= e) && decide (e < (d.size : Int)) then l6 N (fun f h i _ => g f h (w64 (i + 1))) N (IntKind.wrap IntKind.u32 (↑(BitVec.toNat (BitVec.xor (BitVec.ofInt 32 a) (BitVec.ofInt 32 (IntKind.wrap IntKind.u32 (↑(btN d e.toNat) : Int))))) : Int)) d e 0 else none else k0 a d e
def l2 {R : Type} (N : Nat) (k0 : F_isi R) : Nat -> F_isi R
 | 0 => fun _ _ _ => none
 | n + 1 => r2 N (l2 N k0 n) k0
def b {R : Type} (N : Nat) (kr : Int -> Option R) (a : Int) (d : ByteArray) : Option R := l2 N (fun e _ _ => kr e) N a d 0
def vo := b Lib.big fun r0 => some r0
def c := fun a d => (vo a d).isSome
def v := fun a d => (vo a d).getD (0)
theorem out {x} : ∀ a d, vo a d = some x -> c a d = true /\ v a d = x := fun _ _ => Lib.out_
end Go.FG.U157

namespace Go.FG.U150
def b {R : Type} (kr : Int -> Option R) (a : ByteArray) : Option R := bif U157.c 4294967295 a then kr (U157.v 4294967295 a) else none
def vo := b fun r0 => some r0
def c := fun a => (vo a).isSome
def v := fun a => (vo a).getD (0)
theorem out {x} : ∀ a, vo a = some x -> c a = true /\ v a = x := fun _ => Lib.out_
end Go.FG.U150

namespace Go.FG.U140
def b {R : Type} (kr : Int -> Option R) (a : Int) (d : ByteArray) : Option R := bif decide (d.size + (bytesOf (List.set (zeros [Ck.i IntKind.u8] 1) 0 [CV.i IntKind.u8 (IntKind.wrap IntKind.u8 (w64 (↑(BitVec.toNat (BitVec.and (BitVec.ofInt 64 a) (BitVec.ofInt 64 255))) : Int)))])).size <= 4611686018427387904) then bif U150.c (d ++ bytesOf (List.set (zeros [Ck.i IntKind.u8] 1) 0 [CV.i IntKind.u8 (IntKind.wrap IntKind.u8 (w64 (↑(BitVec.toNat (BitVec.and (BitVec.ofInt 64 a) (BitVec.ofInt 64 255))) : Int)))])) then kr (Int.tmod (w64 (U150.v (d ++ bytesOf (List.set (zeros [Ck.i IntKind.u8] 1) 0 [CV.i IntKind.u8 (IntKind.wrap IntKind.u8 (w64 (↑(BitVec.toNat (BitVec.and (BitVec.ofInt 64 a) (BitVec.ofInt 64 255))) : Int)))])))) 16) else none else none
def vo := b fun r0 => some r0
def c := fun a d => (vo a d).isSome
def v := fun a d => (vo a d).getD (0)
theorem out {x} : ∀ a d, vo a d = some x -> c a d = true /\ v a d = x := fun _ _ => Lib.out_
end Go.FG.U140

namespace Go.FG.U122
def r18 {R : Type} (N : Nat) (g k0 : F_niiiiiir R) (a : Nat) (d e f h i j : Int) (l : Row) : Option R := bif decide (h < f) then bif decide (0 <= h) && decide (h < ((cvL (cellAt l a 0)).length : Int)) then bif decide (0 <= h) && decide (h < ((cvL (cellAt l a 0)).length : Int)) then g a d e f (w64 (h + 1)) i j (setC l a 0 [CV.l 3 (setC (cvL (cellAt l a 0)) h.toNat 0 [.i .i64 (w64 (Int.tdiv (cvI (cellAt (cvL (cellAt l a 0)) h.toNat 0)) 2))])]) else none else none else k0 a d e f h i j l
def l18 {R : Type} (N : Nat) (k0 : F_niiiiiir R) : Nat -> F_niiiiiir R
 | 0 => fun _ _ _ _ _ _ _ _ => none
 | n + 1 => r18 N (l18 N k0 n) k0
def r15 {R : Type} (N : Nat) (g k0 : F_iiiir R) (a d e f : Int) (h : Row) : Option R := bif decide (d < a) then bif decide (0 <= d) && decide (d < (h.length : Int)) then l18 N (fun _ i j _ _ l m o => g i (w64 (j + 1)) l m o) N d.toNat a d ((cvL (cellAt h d.toNat 0)).length : Int) 0 e f h else none else k0 a d e f h
def l15 {R : Type} (N : Nat) (k0 : F_iiiir R) : Nat -> F_iiiir R
 | 0 => fun _ _ _ _ _ => none
 | n + 1 => r15 N (l15 N k0 n) k0
def r5 {R : Type} (N : Nat) (g k0 : F_siiiir R) (a : ByteArray) (d e f h : Int) (i : Row) : Option R := bif decide (e < d) then bif decide (0 <= e) && decide (e < (i.length : Int)) then bif U140.c e a then bif decide (0 <= U140.v e a) && decide (U140.v e a < ((cvL (cellAt i e.toNat 0)).length : Int)) then bif decide (0 <= U140.v e a) && decide (U140.v e a < ((cvL (cellAt i e.toNat 0)).length : Int)) then g a d (w64 (e + 1)) f h (setC i e.toNat 0 [CV.l 3 (setC (cvL (cellAt i e.toNat 0)) (U140.v e a).toNat 0 [.i .i64 (minmax false (w64 (cvI (cellAt (cvL (cellAt i e.toNat 0)) (U140.v e a).toNat 0) + 1)) 15)])]) else none else none else none else none else k0 a d e f h i
def l5 {R : Type} (N : Nat) (k0 : F_siiiir R) : Nat -> F_siiiir R
 | 0 => fun _ _ _ _ _ _ => none
 | n + 1 => r5 N (l5 N k0 n) k0
def b {R : Type} (N : Nat) (kr : F_ri R) (a : Row) (d : Int) (e : ByteArray) : Option R := bif U106.c a d then bif U139.c a d then bif !U139.v a d then kr (U106.v a d).1 (U106.v a d).2 else l5 N (fun _ _ _ f h i => bif decide (w64 (h + 1) < 64) then kr i (w64 (h + 1)) else l15 N (fun _ _ _ j l => kr l j) N (i.length : Int) 0 f 0 i) N e ((U106.v a d).1.length : Int) 0 0 (U106.v a d).2 (U106.v a d).1 else none else none
def vo := b Lib.big fun r0 r1 => some (r0, r1)
def c := fun a d e => (vo a d e).isSome
def v := fun a d e => (vo a d e).getD ([], 0)
theorem out {x} : ∀ a d e, vo a d e = some x -> c a d e = true /\ v a d e = x := fun _ _ _ => Lib.out_
end Go.FG.U122

namespace Go.FG.U143
def b {R : Type} (kr : Bool -> Option R) (a key1 : ByteArray) : Option R := kr (List.beq (ByteArray.toList a) (ByteArray.toList key1))
def v (a0 key1 : ByteArray) : Bool := (List.beq (ByteArray.toList a0) (ByteArray.toList key1))
theorem b_eq {R : Type} (kr : Bool -> Option R) (a0 key1 : ByteArray) : b kr a0 key1 = kr (v a0 key1) := by
 first | rfl | (unfold b v; simp only [Bool.cond_eq_ite]; (repeat' split) <;> rfl)
end Go.FG.U143

namespace Go.FG.U151
def r2 {R : Type} (N : Nat) (g k0 k1 : F_rsiii R) (a : Row) (d : ByteArray) (e f h : Int) : Option R := bif decide (h < f) then bif decide (0 <= h) && decide (h < (a.length : Int)) then bif U143.v (cvS (cellAt a h.toNat 0)) d then k0 a d h f h else g a d e f (w64 (h + 1)) else none else k1 a d e f h
def l2 {R : Type} (N : Nat) (k0 k1 : F_rsiii R) : Nat -> F_rsiii R
 | 0 => fun _ _ _ _ _ => none
 | n + 1 => r2 N (l2 N k0 k1 n) k0 k1
def b {R : Type} (N : Nat) (kr : Int -> Option R) (a : Row) (key1 : ByteArray) : Option R := l2 N (fun _ _ d _ _ => kr d) (fun _ _ _ _ _ => kr (-1)) N a key1 0 (a.length : Int) 0
def vo := b Lib.big fun r0 => some r0
def c := fun a d => (vo a d).isSome
def v := fun a d => (vo a d).getD (0)
theorem out {x} : ∀ a d, vo a d = some x -> c a d = true /\ v a d = x := fun _ _ => Lib.out_
end Go.FG.U151

namespace Go.FG.U142
def r5 {R : Type} (N : Nat) (g k0 : F_siir R) (a : ByteArray) (d e : Int) (f : Row) : Option R := bif decide (e < (f.length : Int)) then bif decide (0 <= e) && decide (e < (f.length : Int)) then bif !U143.v (cvS (cellAt f e.toNat 0)) a then bif decide (0 <= d) && decide (d < (f.length : Int)) then g a (w64 (d + 1)) (w64 (e + 1)) (setC f d.toNat 0 [.s (cvS (cellAt f e.toNat 0))]) else none else g a d (w64 (e + 1)) f else none else k0 a d e f
def l5 {R : Type} (N : Nat) (k0 : F_siir R) : Nat -> F_siir R
 | 0 => fun _ _ _ _ => none
 | n + 1 => r5 N (l5 N k0 n) k0
def b {R : Type} (N : Nat) (kr : Row -> Option R) (a : Row) (key1 : ByteArray) : Option R := bif U151.c a key1 then bif decide (U151.v a key1 = Int.neg 1) then kr a else l5 N (fun _ d _ e => bif inB d (e.length : Int) (e.length : Int) then bif inB 0 d ((List.take d.toNat e ++ zeros [.s] ((e.length : Int).toNat - d.toNat) ++ List.drop (e.length : Int).toNat e).length : Int) then kr (view (List.take d.toNat e ++ zeros [.s] ((e.length : Int).toNat - d.toNat) ++ List.drop (e.length : Int).toNat e) (Int.toNat 0) d.toNat) else none else none) N key1 (U151.v a key1) (w64 (U151.v a key1 + 1)) a else none
def vo := b Lib.big fun r0 => some r0
def c := fun a d => (vo a d).isSome
def v := fun a d => (vo a d).getD ([])
theorem out {x} : ∀ a d, vo a d = some x -> c a d = true /\ v a d = x := fun _ _ => Lib.out_
end Go.FG.U142

namespace Go.FG.U124
def b {R : Type} (kr : Row -> Option R) (a : Row) (d : ByteArray) : Option R := bif U105.c a then bif U142.c (U105.v a) d then kr (U142.v (U105.v a) d) else none else none
def vo := b fun r0 => some r0
def c := fun a d => (vo a d).isSome
def v := fun a d => (vo a d).getD ([])
theorem out {x} : ∀ a d, vo a d = some x -> c a d = true /\ v a d = x := fun _ _ => Lib.out_
end Go.FG.U124

namespace Go.FG.U125
def r5 {R : Type} (N : Nat) (g k0 : F_sirii R) (a : ByteArray) (d : Int) (e : Row) (f h : Int) : Option R := bif decide (h < f) then bif decide (0 <= h) && decide (h < (e.length : Int)) then bif U140.c h a then bif decide (0 <= U140.v h a) && decide (U140.v h a < ((cvL (cellAt e h.toNat 0)).length : Int)) then g a (minmax false d (cvI (cellAt (cvL (cellAt e h.toNat 0)) (U140.v h a).toNat 0))) e f (w64 (h + 1)) else none else none else none else k0 a d e f h
def l5 {R : Type} (N : Nat) (k0 : F_sirii R) : Nat -> F_sirii R
 | 0 => fun _ _ _ _ _ => none
 | n + 1 => r5 N (l5 N k0 n) k0
def b {R : Type} (N : Nat) (kr : Int -> Option R) (a : Row) (d : Int) (e : ByteArray) : Option R := bif U139.c a d then bif !U139.v a d then kr 0 else l5 N (fun _ f _ _ _ => kr f) N e 15 a (a.length : Int) 0 else none
def vo := b Lib.big fun r0 => some r0
def c := fun a d e => (vo a d e).isSome
def v := fun a d e => (vo a d e).getD (0)
theorem out {x} : ∀ a d e, vo a d e = some x -> c a d e = true /\ v a d e = x := fun _ _ _ => Lib.out_
end Go.FG.U125

namespace Go.FG.U96
def b {R : Type} (kr : F_rrris R) (a d e : Row) (f : Int) (h : ByteArray) : Option R := bif U73.c a d e f then bif U121.c a d e f then bif !U121.v a d e f then kr (U73.v a d e f).1 (U73.v a d e f).2.1 (U73.v a d e f).2.2.1 (U73.v a d e f).2.2.2 ⟨#[]⟩ else bif !U120.v h then kr (U73.v a d e f).1 (U73.v a d e f).2.1 (U73.v a d e f).2.2.1 (U73.v a d e f).2.2.2 ⟨#[]⟩ else bif U122.c e f h then bif U123.c d h then bif U123.v d h then bif U124.c d h then bif roomy ((U124.v d h).length + (List.set (zeros [.s] 1) 0 [.s h]).length) 16 then kr (U73.v a d e f).1 (U124.v d h ++ List.set (zeros [.s] 1) 0 [.s h]) (U122.v e f h).1 (U122.v e f h).2 ⟨#[]⟩ else none else none else bif U124.c a h then bif roomy ((U124.v a h).length + (List.set (zeros [.s] 1) 0 [.s h]).length) 16 then bif decide (((U124.v a h ++ List.set (zeros [.s] 1) 0 [.s h]).length : Int) <= 2) then kr (U124.v a h ++ List.set (zeros [.s] 1) 0 [.s h]) (U73.v a d e f).2.1 (U122.v e f h).1 (U122.v e f h).2 ⟨#[]⟩ else bif decide (0 < ((U124.v a h ++ List.set (zeros [.s] 1) 0 [.s h]).length : Int)) then bif inB 1 ((U124.v a h ++ List.set (zeros [.s] 1) 0 [.s h]).length : Int) ((U124.v a h ++ List.set (zeros [.s] 1) 0 [.s h]).length : Int) then bif decide (((U73.v a d e f).2.1.length : Int) < 4) then bif roomy ((U73.v a d e f).2.1.length + (List.set (zeros [.s] 1) 0 [.s (cvS (cellAt (U124.v a h ++ List.set (zeros [.s] 1) 0 [.s h]) (Int.toNat 0) 0))]).length) 16 then kr (view (U124.v a h ++ List.set (zeros [.s] 1) 0 [.s h]) (Int.toNat 1) ((U124.v a h ++ List.set (zeros [.s] 1) 0 [.s h]).length : Int).toNat) ((U73.v a d e f).2.1 ++ List.set (zeros [.s] 1) 0 [.s (cvS (cellAt (U124.v a h ++ List.set (zeros [.s] 1) 0 [.s h]) (Int.toNat 0) 0))]) (U122.v e f h).1 (U122.v e f h).2 ⟨#[]⟩ else none else bif decide (0 < ((U73.v a d e f).2.1.length : Int)) then bif U125.c (U122.v e f h).1 (U122.v e f h).2 (cvS (cellAt (U124.v a h ++ List.set (zeros [.s] 1) 0 [.s h]) (Int.toNat 0) 0)) then bif U125.c (U122.v e f h).1 (U122.v e f h).2 (cvS (cellAt (U73.v a d e f).2.1 (Int.toNat 0) 0)) then bif decide (U125.v (U122.v e f h).1 (U122.v e f h).2 (cvS (cellAt (U124.v a h ++ List.set (zeros [.s] 1) 0 [.s h]) (Int.toNat 0) 0)) > U125.v (U122.v e f h).1 (U122.v e f h).2 (cvS (cellAt (U73.v a d e f).2.1 (Int.toNat 0) 0))) then bif inB 1 ((U73.v a d e f).2.1.length : Int) ((U73.v a d e f).2.1.length : Int) then bif roomy ((view (U73.v a d e f).2.1 (Int.toNat 1) ((U73.v a d e f).2.1.length : Int).toNat).length + (List.set (zeros [.s] 1) 0 [.s (cvS (cellAt (U124.v a h ++ List.set (zeros [.s] 1) 0 [.s h]) (Int.toNat 0) 0))]).length) 16 then kr (view (U124.v a h ++ List.set (zeros [.s] 1) 0 [.s h]) (Int.toNat 1) ((U124.v a h ++ List.set (zeros [.s] 1) 0 [.s h]).length : Int).toNat) (view (U73.v a d e f).2.1 (Int.toNat 1) ((U73.v a d e f).2.1.length : Int).toNat ++ List.set (zeros [.s] 1) 0 [.s (cvS (cellAt (U124.v a h ++ List.set (zeros [.s] 1) 0 [.s h]) (Int.toNat 0) 0))]) (U122.v e f h).1 (U122.v e f h).2 (cvS (cellAt (U73.v a d e f).2.1 (Int.toNat 0) 0)) else none else none else kr (view (U124.v a h ++ List.set (zeros [.s] 1) 0 [.s h]) (Int.toNat 1) ((U124.v a h ++ List.set (zeros [.s] 1) 0 [.s h]).length : Int).toNat) (U73.v a d e f).2.1 (U122.v e f h).1 (U122.v e f h).2 (cvS (cellAt (U124.v a h ++ List.set (zeros [.s] 1) 0 [.s h]) (Int.toNat 0) 0)) else none else none else none else none else none else none else none else none else none else none else none
def vo := b fun r0 r1 r2 r3 r4 => some (r0, r1, r2, r3, r4)
def c := fun a d e f h => (vo a d e f h).isSome
def v := fun a d e f h => (vo a d e f h).getD ([], [], [], 0, ⟨#[]⟩)
theorem out {x} : ∀ a d e f h, vo a d e f h = some x -> c a d e f h = true /\ v a d e f h = x := fun _ _ _ _ _ => Lib.out_
end Go.FG.U96

namespace Go.FG.U127
def b {R : Type} (kr : Bool -> Option R) (a : ByteArray) (d e : Int) (f key1 : ByteArray) : Option R := kr (List.beq (ByteArray.toList a) (ByteArray.toList key1))
def v (a0 : ByteArray) (a1 a2 : Int) (a3 key1 : ByteArray) : Bool := (List.beq (ByteArray.toList a0) (ByteArray.toList key1))
theorem b_eq {R : Type} (kr : Bool -> Option R) (a0 : ByteArray) (a1 a2 : Int) (a3 key1 : ByteArray) : b kr a0 a1 a2 a3 key1 = kr (v a0 a1 a2 a3 key1) := by
 first | rfl | (unfold b v; simp only [Bool.cond_eq_ite]; (repeat' split) <;> rfl)
end Go.FG.U127

namespace Go.FG.U144b
def r2 {R : Type} (N : Nat) (g k0 k1 : F_rsiii R) (a : Row) (d : ByteArray) (e f h : Int) : Option R := bif decide (h < f) then bif decide (0 <= h) && decide (h < (a.length : Int)) then bif U127.v (cvS (cellAt a h.toNat 0)) (cvI (cellAt a h.toNat 1)) (cvI (cellAt a h.toNat (1 + 1))) (cvS (cellAt a h.toNat (1 + 1 + 1))) d then k0 a d h f h else g a d e f (w64 (h + 1)) else none else k1 a d e f h
def l2 {R : Type} (N : Nat) (k0 k1 : F_rsiii R) : Nat -> F_rsiii R
 | 0 => fun _ _ _ _ _ => none
 | n + 1 => r2 N (l2 N k0 k1 n) k0 k1
def b {R : Type} (N : Nat) (kr : Int -> Option R) (a : Row) (key1 : ByteArray) : Option R := l2 N (fun _ _ d _ _ => kr d) (fun _ _ _ _ _ => kr (-1)) N a key1 0 (a.length : Int) 0
def vo := b Lib.big fun r0 => some r0
def c := fun a d => (vo a d).isSome
def v := fun a d => (vo a d).getD (0)
theorem out {x} : ∀ a d, vo a d = some x -> c a d = true /\ v a d = x := fun _ _ => Lib.out_
end Go.FG.U144b

namespace Go.FG.U126
def r5 {R : Type} (N : Nat) (g k0 : F_siir R) (a : ByteArray) (d e : Int) (f : Row) : Option R := bif decide (e < (f.length : Int)) then bif decide (0 <= e) && decide (e < (f.length : Int)) then bif !U127.v (cvS (cellAt f e.toNat 0)) (cvI (cellAt f e.toNat 1)) (cvI (cellAt f e.toNat (1 + 1))) (cvS (cellAt f e.toNat (1 + 1 + 1))) a then bif decide (0 <= d) && decide (d < (f.length : Int)) then g a (w64 (d + 1)) (w64 (e + 1)) (setC f d.toNat 0 [.s (cvS (cellAt f e.toNat 0)), .i .i64 (cvI (cellAt f e.toNat 1)), .i .i64 (cvI (cellAt f e.toNat (1 + 1))), .s (cvS (cellAt f e.toNat (1 + 1 + 1)))]) else none else g a d (w64 (e + 1)) f else none else k0 a d e f
def l5 {R : Type} (N : Nat) (k0 : F_siir R) : Nat -> F_siir R
 | 0 => fun _ _ _ _ => none
 | n + 1 => r5 N (l5 N k0 n) k0
def b {R : Type} (N : Nat) (kr : Row -> Option R) (a : Row) (key1 : ByteArray) : Option R := bif U144b.c a key1 then bif decide (U144b.v a key1 = Int.neg 1) then kr a else l5 N (fun _ d _ e => bif inB d (e.length : Int) (e.length : Int) then bif inB 0 d ((List.take d.toNat e ++ zeros [Ck.s, Ck.i IntKind.i64, Ck.i IntKind.i64, Ck.s] ((e.length : Int).toNat - d.toNat) ++ List.drop (e.length : Int).toNat e).length : Int) then kr (view (List.take d.toNat e ++ zeros [Ck.s, Ck.i IntKind.i64, Ck.i IntKind.i64, Ck.s] ((e.length : Int).toNat - d.toNat) ++ List.drop (e.length : Int).toNat e) (Int.toNat 0) d.toNat) else none else none) N key1 (U144b.v a key1) (w64 (U144b.v a key1 + 1)) a else none
def vo := b Lib.big fun r0 => some r0
def c := fun a d => (vo a d).isSome
def v := fun a d => (vo a d).getD ([])
theorem out {x} : ∀ a d, vo a d = some x -> c a d = true /\ v a d = x := fun _ _ => Lib.out_
end Go.FG.U126

namespace Go.FG.U97
def b {R : Type} (kr : Row -> Option R) (a : Row) (d : ByteArray) : Option R := bif U72.c a then bif U126.c (U72.v a) d then kr (U126.v (U72.v a) d) else none else none
def vo := b fun r0 => some r0
def c := fun a d => (vo a d).isSome
def v := fun a d => (vo a d).getD ([])
theorem out {x} : ∀ a d, vo a d = some x -> c a d = true /\ v a d = x := fun _ _ => Lib.out_
end Go.FG.U97


namespace Go.FG.U99
def r3 {R : Type} (N : Nat) (g k0 : F_isiisr R) (a : Int) (d : ByteArray) (e f : Int) (h : ByteArray) (i : Row) : Option R := bif decide (a < (i.length : Int)) then bif decide (0 <= a) && decide (a < (i.length : Int)) then bif Op.bytesLess (cvS (cellAt i a.toNat 0)).toList (ByteArray.toList d) then g (w64 (a + 1)) d e f h i else k0 a d e f h i else none else k0 a d e f h i
def l3 {R : Type} (N : Nat) (k0 : F_isiisr R) : Nat -> F_isiisr R
 | 0 => fun _ _ _ _ _ _ => none
 | n + 1 => r3 N (l3 N k0 n) k0
def b {R : Type} (N : Nat) (kr : Row -> Option R) (a : Row) (d : ByteArray) (e f : Int) (h : ByteArray) : Option R := bif U97.c a d then l3 N (fun i j l m o p => bif decide (0 <= i) && decide (i <= (p.length : Int)) && roomy (p.length + (List.set (zeros [Ck.s, Ck.i IntKind.i64, Ck.i IntKind.i64, Ck.s] 1) 0 [.s j, .i .i64 l, .i .i64 m, .s o]).length) 48 then kr (Pu.insR p i.toNat (List.set (zeros [Ck.s, Ck.i IntKind.i64, Ck.i IntKind.i64, Ck.s] 1) 0 [.s j, .i .i64 l, .i .i64 m, .s o])) else none) N 0 d e f h (U97.v a d) else none
def vo := b Lib.big fun r0 => some r0
def c := fun a d e f h => (vo a d e f h).isSome
def v := fun a d e f h => (vo a d e f h).getD ([])
theorem out {x} : ∀ a d e f h, vo a d e f h = some x -> c a d e f h = true /\ v a d e f h = x := fun _ _ _ _ _ => Lib.out_
end Go.FG.U99

namespace Go.FG.U57
def b {R : Type} (kr : F_irrrrirri R) (a : Int) (d e f h : Row) (i : Int) (j l : Row) (m : Int) (o : ByteArray) (p q : Int) (r : ByteArray) : Option R := bif U96.c e f h i o then Lib.lt (U96.v e f h i o) fun s => bif U97.c d s.2.2.2.2 then Lib.lt (U97.v d s.2.2.2.2) fun t => bif U98.c s.1 s.2.1 s.2.2.1 s.2.2.2.1 o then Lib.lt (U98.v s.1 s.2.1 s.2.2.1 s.2.2.2.1 o) fun u => bif u then bif U99.c t o p q r then Lib.lt (U99.v t o p q r) fun w => kr a w s.1 s.2.1 s.2.2.1 s.2.2.2.1 j l m else none else kr a t s.1 s.2.1 s.2.2.1 s.2.2.2.1 j l m else none else none else none
def vo := b fun r0 r1 r2 r3 r4 r5 r6 r7 r8 => some (r0, r1, r2, r3, r4, r5, r6, r7, r8)
def c := fun a d e f h i j l m o p q r => (vo a d e f h i j l m o p q r).isSome
def v := fun a d e f h i j l m o p q r => (vo a d e f h i j l m o p q r).getD (0, [], [], [], [], 0, [], [], 0)
theorem out {x} : ∀ a d e f h i j l m o p q r, vo a d e f h i j l m o p q r = some x -> c a d e f h i j l m o p q r = true /\ v a d e f h i j l m o p q r = x := fun _ _ _ _ _ _ _ _ _ _ _ _ _ => Lib.out_
end Go.FG.U57

namespace Go.FG.U23
def b {R : Type} (kr : F_irrrrirrib R) (a : Int) (d e f h : Row) (i : Int) (j l : Row) (m o p : Int) : Option R := bif U33.c a d e f h i j l m then Lib.lt (U33.v a d e f h i j l m) fun q => bif U34.c a d e f h i j l m o then Lib.lt (U34.v a d e f h i j l m o) fun r => bif !r then kr q.1 q.2.1 q.2.2.1 q.2.2.2.1 q.2.2.2.2.1 q.2.2.2.2.2.1 q.2.2.2.2.2.2.1 q.2.2.2.2.2.2.2.1 q.2.2.2.2.2.2.2.2 false else bif decide (0 <= o) && decide (o < (j.length : Int)) then bif cvI (cellAt j o.toNat 2) != 1 then kr q.1 q.2.1 q.2.2.1 q.2.2.2.1 q.2.2.2.2.1 q.2.2.2.2.2.1 q.2.2.2.2.2.2.1 q.2.2.2.2.2.2.2.1 q.2.2.2.2.2.2.2.2 false else bif !U61.v p 0 999999 then kr q.1 q.2.1 q.2.2.1 q.2.2.2.1 q.2.2.2.2.1 q.2.2.2.2.2.1 q.2.2.2.2.2.2.1 q.2.2.2.2.2.2.2.1 q.2.2.2.2.2.2.2.2 false else bif decide (0 <= o) && decide (o < (q.2.2.2.2.2.2.1.length : Int)) then bif U35.c q.1 q.2.1 q.2.2.1 q.2.2.2.1 q.2.2.2.2.1 q.2.2.2.2.2.1 (setC (setC (setC q.2.2.2.2.2.2.1 o.toNat 2 [.i .i64 2]) o.toNat 3 [.i .i64 p]) o.toNat 4 [.i .i64 a]) q.2.2.2.2.2.2.2.1 q.2.2.2.2.2.2.2.2 o 2 then Lib.lt (U35.v q.1 q.2.1 q.2.2.1 q.2.2.2.1 q.2.2.2.2.1 q.2.2.2.2.2.1 (setC (setC (setC q.2.2.2.2.2.2.1 o.toNat 2 [.i .i64 2]) o.toNat 3 [.i .i64 p]) o.toNat 4 [.i .i64 a]) q.2.2.2.2.2.2.2.1 q.2.2.2.2.2.2.2.2 o 2) fun s => bif decide (p > 0) then bif U57.c s.1 s.2.1 s.2.2.1 s.2.2.2.1 s.2.2.2.2.1 s.2.2.2.2.2.1 s.2.2.2.2.2.2.1 s.2.2.2.2.2.2.2.1 s.2.2.2.2.2.2.2.2 (cvS (cellAt s.2.2.2.2.2.2.1 o.toNat 0)) a p (cvS (cellAt s.2.2.2.2.2.2.1 o.toNat 1)) then Lib.lt (U57.v s.1 s.2.1 s.2.2.1 s.2.2.2.1 s.2.2.2.2.1 s.2.2.2.2.2.1 s.2.2.2.2.2.2.1 s.2.2.2.2.2.2.2.1 s.2.2.2.2.2.2.2.2 (cvS (cellAt s.2.2.2.2.2.2.1 o.toNat 0)) a p (cvS (cellAt s.2.2.2.2.2.2.1 o.toNat 1))) fun t => kr t.1 t.2.1 t.2.2.1 t.2.2.2.1 t.2.2.2.2.1 t.2.2.2.2.2.1 t.2.2.2.2.2.2.1 t.2.2.2.2.2.2.2.1 t.2.2.2.2.2.2.2.2 true else none else kr s.1 s.2.1 s.2.2.1 s.2.2.2.1 s.2.2.2.2.1 s.2.2.2.2.2.1 s.2.2.2.2.2.2.1 s.2.2.2.2.2.2.2.1 s.2.2.2.2.2.2.2.2 true else none else none else none else none else none
def vo := b fun r0 r1 r2 r3 r4 r5 r6 r7 r8 r9 => some (r0, r1, r2, r3, r4, r5, r6, r7, r8, r9)
def c := fun a d e f h i j l m o p => (vo a d e f h i j l m o p).isSome
def v := fun a d e f h i j l m o p => (vo a d e f h i j l m o p).getD (0, [], [], [], [], 0, [], [], 0, false)
theorem out {x} : ∀ a d e f h i j l m o p, vo a d e f h i j l m o p = some x -> c a d e f h i j l m o p = true /\ v a d e f h i j l m o p = x := fun _ _ _ _ _ _ _ _ _ _ _ => Lib.out_
end Go.FG.U23

namespace Go.FG.U58
def b {R : Type} (kr : Bool -> Option R) (a : ByteArray) (d e : Int) (f h : ByteArray) (i j : Int) (l : ByteArray) : Option R := bif !List.beq (ByteArray.toList a) (ByteArray.toList h) then kr false else bif d != i then kr false else bif e != j then kr false else bif !List.beq (ByteArray.toList f) (ByteArray.toList l) then kr false else kr true
def v (a0 : ByteArray) (a1 a2 : Int) (a3 a4 : ByteArray) (a5 a6 : Int) (a7 : ByteArray) : Bool := bif !List.beq (ByteArray.toList a0) (ByteArray.toList a4) then false else bif a1 != a5 then false else bif a2 != a6 then false else bif !List.beq (ByteArray.toList a3) (ByteArray.toList a7) then false else true
theorem b_eq {R : Type} (kr : Bool -> Option R) (a0 : ByteArray) (a1 a2 : Int) (a3 a4 : ByteArray) (a5 a6 : Int) (a7 : ByteArray) : b kr a0 a1 a2 a3 a4 a5 a6 a7 = kr (v a0 a1 a2 a3 a4 a5 a6 a7) := by
 first | rfl | (unfold b v; simp only [Bool.cond_eq_ite]; (repeat' split) <;> rfl)
end Go.FG.U58

namespace Go.FG.U20
def r4 {R : Type} (N : Nat) (g k0 k1 : F_rrbi R) (a d : Row) (e : Bool) (f : Int) : Option R := bif decide (f < (a.length : Int)) then bif decide (0 <= f) && decide (f < (a.length : Int)) then bif decide (0 <= f) && decide (f < (d.length : Int)) then bif !U58.v (cvS (cellAt a f.toNat 0)) (cvI (cellAt a f.toNat 1)) (cvI (cellAt a f.toNat (1 + 1))) (cvS (cellAt a f.toNat (1 + 1 + 1))) (cvS (cellAt d f.toNat 0)) (cvI (cellAt d f.toNat 1)) (cvI (cellAt d f.toNat (1 + 1))) (cvS (cellAt d f.toNat (1 + 1 + 1))) then k0 a d false f else g a d e (w64 (f + 1)) else none else none else k1 a d e f
def l4 {R : Type} (N : Nat) (k0 k1 : F_rrbi R) : Nat -> F_rrbi R
 | 0 => fun _ _ _ _ => none
 | n + 1 => r4 N (l4 N k0 k1 n) k0 k1
def b {R : Type} (N : Nat) (kr : Bool -> Option R) (a d : Row) : Option R := bif (a.length : Int) != (d.length : Int) then kr false else l4 N (fun _ _ e _ => kr e) (fun _ _ _ _ => kr true) N a d false 0
def vo := b Lib.big fun r0 => some r0
def c := fun a d => (vo a d).isSome
def v := fun a d => (vo a d).getD false
theorem out {x} : ∀ a d, vo a d = some x -> c a d = true /\ v a d = x := fun _ _ => Lib.out_
end Go.FG.U20

namespace Go.FG.U75
def r4 {R : Type} (N : Nat) (g k0 k1 : F_rrbi R) (a d : Row) (e : Bool) (f : Int) : Option R := bif decide (f < (a.length : Int)) then bif decide (0 <= f) && decide (f < (a.length : Int)) then bif decide (0 <= f) && decide (f < (d.length : Int)) then bif !List.beq (cvS (cellAt a f.toNat 0)).toList (cvS (cellAt d f.toNat 0)).toList then k0 a d false f else g a d e (w64 (f + 1)) else none else none else k1 a d e f
def l4 {R : Type} (N : Nat) (k0 k1 : F_rrbi R) : Nat -> F_rrbi R
 | 0 => fun _ _ _ _ => none
 | n + 1 => r4 N (l4 N k0 k1 n) k0 k1
def b {R : Type} (N : Nat) (kr : Bool -> Option R) (a d : Row) : Option R := bif (a.length : Int) != (d.length : Int) then kr false else l4 N (fun _ _ e _ => kr e) (fun _ _ _ _ => kr true) N a d false 0
def vo := b Lib.big fun r0 => some r0
def c := fun a d => (vo a d).isSome
def v := fun a d => (vo a d).getD false
theorem out {x} : ∀ a d, vo a d = some x -> c a d = true /\ v a d = x := fun _ _ => Lib.out_
end Go.FG.U75

namespace Go.FG.U134
def r4 {R : Type} (N : Nat) (g k0 k1 : F_rrbi R) (a d : Row) (e : Bool) (f : Int) : Option R := bif decide (f < (a.length : Int)) then bif decide (0 <= f) && decide (f < (a.length : Int)) then bif decide (0 <= f) && decide (f < (d.length : Int)) then bif cvI (cellAt a f.toNat 0) != cvI (cellAt d f.toNat 0) then k0 a d false f else g a d e (w64 (f + 1)) else none else none else k1 a d e f
def l4 {R : Type} (N : Nat) (k0 k1 : F_rrbi R) : Nat -> F_rrbi R
 | 0 => fun _ _ _ _ => none
 | n + 1 => r4 N (l4 N k0 k1 n) k0 k1
def b {R : Type} (N : Nat) (kr : Bool -> Option R) (a d : Row) : Option R := bif (a.length : Int) != (d.length : Int) then kr false else l4 N (fun _ _ e _ => kr e) (fun _ _ _ _ => kr true) N a d false 0
def v (a0 : Row) (b1 : Row) : Bool := (a0.length == b1.length) && (List.range a0.length).all fun i => !(cvI (cellAt a0 i 0) != cvI (cellAt b1 i 0))
def fr (a b : Row) (i : Nat) : Bool := (List.range' i (a.length - i)).all fun i => !(cvI (cellAt a i 0) != cvI (cellAt b i 0))
theorem run {R : Type} (N : Nat) (kr : Bool -> Option R) (a b : Row) (hl : a.length = b.length) (ha : FitR a) : ∀ n (i : Nat), i <= a.length -> a.length - i < n -> l4 N (fun _ _ y _ => kr y) (fun _ _ _ _ => kr true) n a b false i = kr (fr a b i) := by
 refine Lib.loop_gen (fun n (i : Nat) => l4 N (fun _ _ y _ => kr y) (fun _ _ _ _ => kr true) n a b false i) (fun i => a.length - i) (fun i => i <= a.length) (fun i => kr (fr a b i)) (fun n i hi => ?_)
 simp only [l4, r4, Lib.dlt, Lib.dle0, Lib.toN, Bool.true_and]
 by_cases h : i < a.length
 ·have e : a.length - i = (a.length - (i + 1)) + 1 := by omega
  have hf : fr a b i = (!(cvI (cellAt a i 0) != cvI (cellAt b i 0)) && fr a b (i + 1)) := by
   unfold fr; rw [e, List.range'_succ, List.all_cons]
  have hb : i < b.length := by omega
  simp only [h, hb, decide_true, cond_true, Lib.w64_s h ha.1]
  cases hv : (cvI (cellAt a i 0) != cvI (cellAt b i 0)) with
  | false => exact .inr ⟨i + 1, h, by omega, by rw [hf, hv]; rfl, rfl⟩
  | true => left; rw [hf, hv]; rfl
 ·left
  have : a.length - i = 0 := by omega
  simp only [h, decide_false, cond_false]
  unfold fr; rw [this]; rfl
theorem b_eq {R : Type} (kr : Bool -> Option R) (a0 : Row) (b1 : Row) (f0 : FitR a0) (f1 : FitR b1) : ∃ N, b N kr a0 b1 = kr (v a0 b1) := by
 refine ⟨a0.length + 1, ?_⟩
 unfold b v
 by_cases hl : a0.length = b1.length
 ·have e : ((a0.length : Int) != (b1.length : Int)) = false := by simp [hl]
  rw [e, cond_false]
  refine (run _ kr a0 b1 hl f0 (a0.length + 1) 0 (by omega) (by omega)).trans ?_
  unfold fr; rw [show (a0.length == b1.length) = true by simp [hl], Nat.sub_zero, <- List.range_eq_range']; rfl
 ·have e : ((a0.length : Int) != (b1.length : Int)) = true := by simp; omega
  have e2 : (a0.length == b1.length) = false := by simp; omega
  rw [e, cond_true, e2]; rfl
theorem refl (a : Row) : v a a = true := by unfold v; simp
end Go.FG.U134

namespace Go.FG.U110
def r4 {R : Type} (N : Nat) (g k0 k1 : F_rrbi R) (a d : Row) (e : Bool) (f : Int) : Option R := bif decide (f < (a.length : Int)) then bif decide (0 <= f) && decide (f < (a.length : Int)) then bif decide (0 <= f) && decide (f < (d.length : Int)) then bif !U134.v (cvL (cellAt a f.toNat 0)) (cvL (cellAt d f.toNat 0)) then k0 a d false f else g a d e (w64 (f + 1)) else none else none else k1 a d e f
def l4 {R : Type} (N : Nat) (k0 k1 : F_rrbi R) : Nat -> F_rrbi R
 | 0 => fun _ _ _ _ => none
 | n + 1 => r4 N (l4 N k0 k1 n) k0 k1
def b {R : Type} (N : Nat) (kr : Bool -> Option R) (a d : Row) : Option R := bif (a.length : Int) != (d.length : Int) then kr false else l4 N (fun _ _ e _ => kr e) (fun _ _ _ _ => kr true) N a d false 0
def vo := b Lib.big fun r0 => some r0
def c := fun a d => (vo a d).isSome
def v := fun a d => (vo a d).getD false
theorem out {x} : ∀ a d, vo a d = some x -> c a d = true /\ v a d = x := fun _ _ => Lib.out_
end Go.FG.U110

namespace Go.FG.U76
def b {R : Type} (kr : Bool -> Option R) (a : Row) (d : Int) (e : Row) (f : Int) : Option R := bif U110.c a e then bif !U110.v a e then kr false else bif d != f then kr false else kr true else none
def vo := b fun r0 => some r0
def c := fun a d e f => (vo a d e f).isSome
def v := fun a d e f => (vo a d e f).getD false
theorem out {x} : ∀ a d e f, vo a d e f = some x -> c a d e f = true /\ v a d e f = x := fun _ _ _ _ => Lib.out_
end Go.FG.U76

namespace Go.FG.U36
def b {R : Type} (kr : Bool -> Option R) (a d e : Row) (f : Int) (h i j : Row) (l : Int) : Option R := bif U75.c a h then bif !U75.v a h then kr false else bif U75.c d i then bif !U75.v d i then kr false else bif U76.c e f j l then bif !U76.v e f j l then kr false else kr true else none else none else none
def vo := b fun r0 => some r0
def c := fun a d e f h i j l => (vo a d e f h i j l).isSome
def v := fun a d e f h i j l => (vo a d e f h i j l).getD false
theorem out {x} : ∀ a d e f h i j l, vo a d e f h i j l = some x -> c a d e f h i j l = true /\ v a d e f h i j l = x := fun _ _ _ _ _ _ _ _ => Lib.out_
end Go.FG.U36

namespace Go.FG.U77
def b {R : Type} (kr : Bool -> Option R) (a d : ByteArray) (e f h : Int) (i j : ByteArray) (l m o : Int) : Option R := bif !List.beq (ByteArray.toList a) (ByteArray.toList i) then kr false else bif !List.beq (ByteArray.toList d) (ByteArray.toList j) then kr false else bif e != l then kr false else bif f != m then kr false else bif h != o then kr false else kr true
def v (a0 a1 : ByteArray) (a2 a3 a4 : Int) (a5 a6 : ByteArray) (a7 a8 a9 : Int) : Bool := bif !List.beq (ByteArray.toList a0) (ByteArray.toList a5) then false else bif !List.beq (ByteArray.toList a1) (ByteArray.toList a6) then false else bif a2 != a7 then false else bif a3 != a8 then false else bif a4 != a9 then false else true
theorem b_eq {R : Type} (kr : Bool -> Option R) (a0 a1 : ByteArray) (a2 a3 a4 : Int) (a5 a6 : ByteArray) (a7 a8 a9 : Int) : b kr a0 a1 a2 a3 a4 a5 a6 a7 a8 a9 = kr (v a0 a1 a2 a3 a4 a5 a6 a7 a8 a9) := by
 first | rfl | (unfold b v; simp only [Bool.cond_eq_ite]; (repeat' split) <;> rfl)
end Go.FG.U77

namespace Go.FG.U37
def r4 {R : Type} (N : Nat) (g k0 k1 : F_rrbi R) (a d : Row) (e : Bool) (f : Int) : Option R := bif decide (f < (a.length : Int)) then bif decide (0 <= f) && decide (f < (a.length : Int)) then bif decide (0 <= f) && decide (f < (d.length : Int)) then bif !U77.v (cvS (cellAt a f.toNat 0)) (cvS (cellAt a f.toNat 1)) (cvI (cellAt a f.toNat (1 + 1))) (cvI (cellAt a f.toNat (1 + 1 + 1))) (cvI (cellAt a f.toNat (1 + 1 + 1 + 1))) (cvS (cellAt d f.toNat 0)) (cvS (cellAt d f.toNat 1)) (cvI (cellAt d f.toNat (1 + 1))) (cvI (cellAt d f.toNat (1 + 1 + 1))) (cvI (cellAt d f.toNat (1 + 1 + 1 + 1))) then k0 a d false f else g a d e (w64 (f + 1)) else none else none else k1 a d e f
def l4 {R : Type} (N : Nat) (k0 k1 : F_rrbi R) : Nat -> F_rrbi R
 | 0 => fun _ _ _ _ => none
 | n + 1 => r4 N (l4 N k0 k1 n) k0 k1
def b {R : Type} (N : Nat) (kr : Bool -> Option R) (a d : Row) : Option R := bif (a.length : Int) != (d.length : Int) then kr false else l4 N (fun _ _ e _ => kr e) (fun _ _ _ _ => kr true) N a d false 0
def vo := b Lib.big fun r0 => some r0
def c := fun a d => (vo a d).isSome
def v := fun a d => (vo a d).getD false
theorem out {x} : ∀ a d, vo a d = some x -> c a d = true /\ v a d = x := fun _ _ => Lib.out_
end Go.FG.U37

namespace Go.FG.U78
def b {R : Type} (kr : Bool -> Option R) (a : Int) (d : ByteArray) (e f h : Int) (i : ByteArray) (j l : Int) (m : ByteArray) (o p q : Int) (r : ByteArray) (s : Int) : Option R := bif a != l then kr false else bif !List.beq (ByteArray.toList d) (ByteArray.toList m) then kr false else bif e != o then kr false else bif f != p then kr false else bif h != q then kr false else bif !List.beq (ByteArray.toList i) (ByteArray.toList r) then kr false else bif j != s then kr false else kr true
def v (a0 : Int) (a1 : ByteArray) (a2 a3 a4 : Int) (a5 : ByteArray) (a6 a7 : Int) (a8 : ByteArray) (a9 a10 a11 : Int) (a12 : ByteArray) (a13 : Int) : Bool := bif a0 != a7 then false else bif !List.beq (ByteArray.toList a1) (ByteArray.toList a8) then false else bif a2 != a9 then false else bif a3 != a10 then false else bif a4 != a11 then false else bif !List.beq (ByteArray.toList a5) (ByteArray.toList a12) then false else bif a6 != a13 then false else true
theorem b_eq {R : Type} (kr : Bool -> Option R) (a0 : Int) (a1 : ByteArray) (a2 a3 a4 : Int) (a5 : ByteArray) (a6 a7 : Int) (a8 : ByteArray) (a9 a10 a11 : Int) (a12 : ByteArray) (a13 : Int) : b kr a0 a1 a2 a3 a4 a5 a6 a7 a8 a9 a10 a11 a12 a13 = kr (v a0 a1 a2 a3 a4 a5 a6 a7 a8 a9 a10 a11 a12 a13) := by
 first | rfl | (unfold b v; simp only [Bool.cond_eq_ite]; (repeat' split) <;> rfl)
end Go.FG.U78

namespace Go.FG.U38
def r4 {R : Type} (N : Nat) (g k0 k1 : F_rrbi R) (a d : Row) (e : Bool) (f : Int) : Option R := bif decide (f < (a.length : Int)) then bif decide (0 <= f) && decide (f < (a.length : Int)) then bif decide (0 <= f) && decide (f < (d.length : Int)) then bif !U78.v (cvI (cellAt a f.toNat 0)) (cvS (cellAt a f.toNat 1)) (cvI (cellAt a f.toNat (1 + 1))) (cvI (cellAt a f.toNat (1 + 1 + 1))) (cvI (cellAt a f.toNat (1 + 1 + 1 + 1))) (cvS (cellAt a f.toNat (1 + 1 + 1 + 1 + 1))) (cvI (cellAt a f.toNat (1 + 1 + 1 + 1 + 1 + 1))) (cvI (cellAt d f.toNat 0)) (cvS (cellAt d f.toNat 1)) (cvI (cellAt d f.toNat (1 + 1))) (cvI (cellAt d f.toNat (1 + 1 + 1))) (cvI (cellAt d f.toNat (1 + 1 + 1 + 1))) (cvS (cellAt d f.toNat (1 + 1 + 1 + 1 + 1))) (cvI (cellAt d f.toNat (1 + 1 + 1 + 1 + 1 + 1))) then k0 a d false f else g a d e (w64 (f + 1)) else none else none else k1 a d e f
def l4 {R : Type} (N : Nat) (k0 k1 : F_rrbi R) : Nat -> F_rrbi R
 | 0 => fun _ _ _ _ => none
 | n + 1 => r4 N (l4 N k0 k1 n) k0 k1
def b {R : Type} (N : Nat) (kr : Bool -> Option R) (a d : Row) : Option R := bif (a.length : Int) != (d.length : Int) then kr false else l4 N (fun _ _ e _ => kr e) (fun _ _ _ _ => kr true) N a d false 0
def vo := b Lib.big fun r0 => some r0
def c := fun a d => (vo a d).isSome
def v := fun a d => (vo a d).getD false
theorem out {x} : ∀ a d, vo a d = some x -> c a d = true /\ v a d = x := fun _ _ => Lib.out_
end Go.FG.U38

namespace Go.FG.U11
def b {R : Type} (kr : Bool -> Option R) (a : Int) (d e f h : Row) (i : Int) (j l : Row) (m o : Int) (p q r s : Row) (t : Int) (u w : Row) (y : Int) : Option R := bif a != o then kr false else bif U20.c d p then bif !U20.v d p then kr false else bif U36.c e f h i q r s t then bif !U36.v e f h i q r s t then kr false else bif U37.c j u then bif !U37.v j u then kr false else bif U38.c l w then bif !U38.v l w then kr false else bif m != y then kr false else kr true else none else none else none else none
def vo := b fun r0 => some r0
def c := fun a d e f h i j l m o p q r s t u w y => (vo a d e f h i j l m o p q r s t u w y).isSome
def v := fun a d e f h i j l m o p q r s t u w y => (vo a d e f h i j l m o p q r s t u w y).getD false
theorem out {x} : ∀ a d e f h i j l m o p q r s t u w y, vo a d e f h i j l m o p q r s t u w y = some x -> c a d e f h i j l m o p q r s t u w y = true /\ v a d e f h i j l m o p q r s t u w y = x := fun _ _ _ _ _ _ _ _ _ _ _ _ _ _ _ _ _ _ => Lib.out_
end Go.FG.U11

namespace Go.FG.U59
def r4 {R : Type} (N : Nat) (g k0 : F_is R) (a : Int) (d : ByteArray) : Option R := bif decide (a > 0) then bif decide ((bytesOf (List.set (zeros [Ck.i IntKind.u8] 1) 0 [CV.i IntKind.u8 (IntKind.wrap IntKind.u8 (w64 (48 + Int.tmod a 10)))])).size + d.size <= 4611686018427387904) then g (w64 (Int.tdiv a 10)) (bytesOf (List.set (zeros [Ck.i IntKind.u8] 1) 0 [CV.i IntKind.u8 (IntKind.wrap IntKind.u8 (w64 (48 + Int.tmod a 10)))]) ++ d) else none else k0 a d
def l4 {R : Type} (N : Nat) (k0 : F_is R) : Nat -> F_is R
 | 0 => fun _ _ => none
 | n + 1 => r4 N (l4 N k0 n) k0
def b {R : Type} (N : Nat) (kr : ByteArray -> Option R) (a : Int) : Option R := bif decide (a <= 0) then kr ({ data := #[UInt8.ofNat 109, UInt8.ofNat 48] }) else l4 N (fun _ d => bif decide (ByteArray.size { data := #[UInt8.ofNat 109] } + d.size <= 4611686018427387904) then kr ({ data := #[UInt8.ofNat 109] } ++ d) else none) N a ⟨#[]⟩
def vo := b Lib.big fun r0 => some r0
def c := fun a => (vo a).isSome
def v := fun a => (vo a).getD (⟨#[]⟩)
theorem out {x} : ∀ a, vo a = some x -> c a = true /\ v a = x := fun _ => Lib.out_
end Go.FG.U59

namespace Go.FG.U21
def r2 {R : Type} (N : Nat) (g k0 : F_iir R) (a d : Int) (e : Row) : Option R := bif decide (d < (e.length : Int)) then bif U59.c a then bif decide (0 <= d) && decide (d < (e.length : Int)) then bif decide (0 <= d) && decide (d < ((setC e d.toNat 0 [.s (U59.v a)]).length : Int)) then bif decide (0 <= d) && decide (d < ((setC (setC e d.toNat 0 [.s (U59.v a)]) d.toNat 1 [.i .i64 (w64 (a + 1))]).length : Int)) then bif U59.c (w64 (w64 (w64 (a + 1) + 1) + 1)) then bif decide (0 <= d) && decide (d < ((setC (setC (setC e d.toNat 0 [.s (U59.v a)]) d.toNat 1 [.i .i64 (w64 (a + 1))]) d.toNat 2 [.i .i64 (w64 (w64 (a + 1) + 1))]).length : Int)) then g (w64 (w64 (w64 (w64 (a + 1) + 1) + 1) + 1)) (w64 (d + 1)) (setC (setC (setC (setC e d.toNat 0 [.s (U59.v a)]) d.toNat 1 [.i .i64 (w64 (a + 1))]) d.toNat 2 [.i .i64 (w64 (w64 (a + 1) + 1))]) d.toNat 3 [.s (U59.v (w64 (w64 (w64 (a + 1) + 1) + 1)))]) else none else none else none else none else none else none else k0 a d e
def l2 {R : Type} (N : Nat) (k0 : F_iir R) : Nat -> F_iir R
 | 0 => fun _ _ _ => none
 | n + 1 => r2 N (l2 N k0 n) k0
def b {R : Type} (N : Nat) (kr : F_ir R) (a : Row) (d : Int) : Option R := l2 N (fun e _ f => kr e f) N d 0 a
def vo := b Lib.big fun r0 r1 => some (r0, r1)
def c := fun a d => (vo a d).isSome
def v := fun a d => (vo a d).getD (0, [])
theorem out {x} : ∀ a d, vo a d = some x -> c a d = true /\ v a d = x := fun _ _ => Lib.out_
end Go.FG.U21

namespace Go.FG.U79
def r2 {R : Type} (N : Nat) (g k0 : F_iir R) (a d : Int) (e : Row) : Option R := bif decide (d < (e.length : Int)) then bif U59.c a then bif decide (0 <= d) && decide (d < (e.length : Int)) then g (w64 (a + 1)) (w64 (d + 1)) (setC e d.toNat 0 [.s (U59.v a)]) else none else none else k0 a d e
def l2 {R : Type} (N : Nat) (k0 : F_iir R) : Nat -> F_iir R
 | 0 => fun _ _ _ => none
 | n + 1 => r2 N (l2 N k0 n) k0
def b {R : Type} (N : Nat) (kr : F_ir R) (a : Row) (d : Int) : Option R := l2 N (fun e _ f => kr e f) N d 0 a
def vo := b Lib.big fun r0 r1 => some (r0, r1)
def c := fun a d => (vo a d).isSome
def v := fun a d => (vo a d).getD (0, [])
theorem out {x} : ∀ a d, vo a d = some x -> c a d = true /\ v a d = x := fun _ _ => Lib.out_
end Go.FG.U79

namespace Go.FG.U135
def r2 {R : Type} (N : Nat) (g k0 : F_iir R) (a d : Int) (e : Row) : Option R := bif decide (d < (e.length : Int)) then bif decide (0 <= d) && decide (d < (e.length : Int)) then g (w64 (a + 1)) (w64 (d + 1)) (setC e d.toNat 0 [.i .i64 a]) else none else k0 a d e
def l2 {R : Type} (N : Nat) (k0 : F_iir R) : Nat -> F_iir R
 | 0 => fun _ _ _ => none
 | n + 1 => r2 N (l2 N k0 n) k0
def b {R : Type} (N : Nat) (kr : F_ir R) (a : Row) (d : Int) : Option R := l2 N (fun e _ f => kr e f) N d 0 a
def vo := b Lib.big fun r0 r1 => some (r0, r1)
def c := fun a d => (vo a d).isSome
def v := fun a d => (vo a d).getD (0, [])
theorem out {x} : ∀ a d, vo a d = some x -> c a d = true /\ v a d = x := fun _ _ => Lib.out_
end Go.FG.U135

namespace Go.FG.U111
def r2 {R : Type} (N : Nat) (g k0 : F_iir R) (a d : Int) (e : Row) : Option R := bif decide (d < (e.length : Int)) then bif decide (0 <= d) && decide (d < (e.length : Int)) then bif U135.c (cvL (cellAt e d.toNat 0)) a then g (U135.v (cvL (cellAt e d.toNat 0)) a).1 (w64 (d + 1)) (setC e d.toNat 0 [CV.l 3 (U135.v (cvL (cellAt e d.toNat 0)) a).2]) else none else none else k0 a d e
def l2 {R : Type} (N : Nat) (k0 : F_iir R) : Nat -> F_iir R
 | 0 => fun _ _ _ => none
 | n + 1 => r2 N (l2 N k0 n) k0
def b {R : Type} (N : Nat) (kr : F_ir R) (a : Row) (d : Int) : Option R := l2 N (fun e _ f => kr e f) N d 0 a
def vo := b Lib.big fun r0 r1 => some (r0, r1)
def c := fun a d => (vo a d).isSome
def v := fun a d => (vo a d).getD (0, [])
theorem out {x} : ∀ a d, vo a d = some x -> c a d = true /\ v a d = x := fun _ _ => Lib.out_
end Go.FG.U111

namespace Go.FG.U80
def b {R : Type} (kr : F_ir R) (a : Row) (d e : Int) : Option R := bif U111.c a e then kr (U111.v a e).1 (U111.v a e).2 else none
def vo := b fun r0 r1 => some (r0, r1)
def c := fun a d e => (vo a d e).isSome
def v := fun a d e => (vo a d e).getD (0, [])
theorem out {x} : ∀ a d e, vo a d e = some x -> c a d e = true /\ v a d e = x := fun _ _ _ => Lib.out_
end Go.FG.U80

namespace Go.FG.U39
def b {R : Type} (kr : F_irrr R) (a d e : Row) (f h : Int) : Option R := bif U79.c a h then bif U79.c d (U79.v a h).1 then bif U80.c e f (U79.v d (U79.v a h).1).1 then kr (U80.v e f (U79.v d (U79.v a h).1).1).1 (U79.v a h).2 (U79.v d (U79.v a h).1).2 (U80.v e f (U79.v d (U79.v a h).1).1).2 else none else none else none
def vo := b fun r0 r1 r2 r3 => some (r0, r1, r2, r3)
def c := fun a d e f h => (vo a d e f h).isSome
def v := fun a d e f h => (vo a d e f h).getD (0, [], [], [])
theorem out {x} : ∀ a d e f h, vo a d e f h = some x -> c a d e f h = true /\ v a d e f h = x := fun _ _ _ _ _ => Lib.out_
end Go.FG.U39

namespace Go.FG.U40
def r2 {R : Type} (N : Nat) (g k0 : F_iir R) (a d : Int) (e : Row) : Option R := bif decide (d < (e.length : Int)) then bif U59.c a then bif decide (0 <= d) && decide (d < (e.length : Int)) then bif U59.c (w64 (a + 1)) then bif decide (0 <= d) && decide (d < ((setC e d.toNat 0 [.s (U59.v a)]).length : Int)) then bif decide (0 <= d) && decide (d < ((setC (setC e d.toNat 0 [.s (U59.v a)]) d.toNat 1 [.s (U59.v (w64 (a + 1)))]).length : Int)) then bif decide (0 <= d) && decide (d < ((setC (setC (setC e d.toNat 0 [.s (U59.v a)]) d.toNat 1 [.s (U59.v (w64 (a + 1)))]) d.toNat 2 [.i .i64 (w64 (w64 (a + 1) + 1))]).length : Int)) then bif decide (0 <= d) && decide (d < ((setC (setC (setC (setC e d.toNat 0 [.s (U59.v a)]) d.toNat 1 [.s (U59.v (w64 (a + 1)))]) d.toNat 2 [.i .i64 (w64 (w64 (a + 1) + 1))]) d.toNat 3 [.i .i64 (w64 (w64 (w64 (a + 1) + 1) + 1))]).length : Int)) then g (w64 (w64 (w64 (w64 (w64 (a + 1) + 1) + 1) + 1) + 1)) (w64 (d + 1)) (setC (setC (setC (setC (setC e d.toNat 0 [.s (U59.v a)]) d.toNat 1 [.s (U59.v (w64 (a + 1)))]) d.toNat 2 [.i .i64 (w64 (w64 (a + 1) + 1))]) d.toNat 3 [.i .i64 (w64 (w64 (w64 (a + 1) + 1) + 1))]) d.toNat 4 [.i .i64 (w64 (w64 (w64 (w64 (a + 1) + 1) + 1) + 1))]) else none else none else none else none else none else none else none else k0 a d e
def l2 {R : Type} (N : Nat) (k0 : F_iir R) : Nat -> F_iir R
 | 0 => fun _ _ _ => none
 | n + 1 => r2 N (l2 N k0 n) k0
def b {R : Type} (N : Nat) (kr : F_ir R) (a : Row) (d : Int) : Option R := l2 N (fun e _ f => kr e f) N d 0 a
def vo := b Lib.big fun r0 r1 => some (r0, r1)
def c := fun a d => (vo a d).isSome
def v := fun a d => (vo a d).getD (0, [])
theorem out {x} : ∀ a d, vo a d = some x -> c a d = true /\ v a d = x := fun _ _ => Lib.out_
end Go.FG.U40

namespace Go.FG.U41
def r2 {R : Type} (N : Nat) (g k0 : F_iir R) (a d : Int) (e : Row) : Option R := bif decide (d < (e.length : Int)) then bif decide (0 <= d) && decide (d < (e.length : Int)) then bif U59.c (w64 (a + 1)) then bif decide (0 <= d) && decide (d < ((setC e d.toNat 0 [.i .i64 a]).length : Int)) then bif decide (0 <= d) && decide (d < ((setC (setC e d.toNat 0 [.i .i64 a]) d.toNat 1 [.s (U59.v (w64 (a + 1)))]).length : Int)) then bif decide (0 <= d) && decide (d < ((setC (setC (setC e d.toNat 0 [.i .i64 a]) d.toNat 1 [.s (U59.v (w64 (a + 1)))]) d.toNat 2 [.i .i64 (w64 (w64 (a + 1) + 1))]).length : Int)) then bif decide (0 <= d) && decide (d < ((setC (setC (setC (setC e d.toNat 0 [.i .i64 a]) d.toNat 1 [.s (U59.v (w64 (a + 1)))]) d.toNat 2 [.i .i64 (w64 (w64 (a + 1) + 1))]) d.toNat 3 [.i .i64 (w64 (w64 (w64 (a + 1) + 1) + 1))]).length : Int)) then bif U59.c (w64 (w64 (w64 (w64 (w64 (a + 1) + 1) + 1) + 1) + 1)) then bif decide (0 <= d) && decide (d < ((setC (setC (setC (setC (setC e d.toNat 0 [.i .i64 a]) d.toNat 1 [.s (U59.v (w64 (a + 1)))]) d.toNat 2 [.i .i64 (w64 (w64 (a + 1) + 1))]) d.toNat 3 [.i .i64 (w64 (w64 (w64 (a + 1) + 1) + 1))]) d.toNat 4 [.i .i64 (w64 (w64 (w64 (w64 (a + 1) + 1) + 1) + 1))]).length : Int)) then bif decide (0 <= d) && decide (d < ((setC (setC (setC (setC (setC (setC e d.toNat 0 [.i .i64 a]) d.toNat 1 [.s (U59.v (w64 (a + 1)))]) d.toNat 2 [.i .i64 (w64 (w64 (a + 1) + 1))]) d.toNat 3 [.i .i64 (w64 (w64 (w64 (a + 1) + 1) + 1))]) d.toNat 4 [.i .i64 (w64 (w64 (w64 (w64 (a + 1) + 1) + 1) + 1))]) d.toNat 5 [.s (U59.v (w64 (w64 (w64 (w64 (w64 (a + 1) + 1) + 1) + 1) + 1)))]).length : Int)) then g (w64 (w64 (w64 (w64 (w64 (w64 (w64 (a + 1) + 1) + 1) + 1) + 1) + 1) + 1)) (w64 (d + 1)) (setC (setC (setC (setC (setC (setC (setC e d.toNat 0 [.i .i64 a]) d.toNat 1 [.s (U59.v (w64 (a + 1)))]) d.toNat 2 [.i .i64 (w64 (w64 (a + 1) + 1))]) d.toNat 3 [.i .i64 (w64 (w64 (w64 (a + 1) + 1) + 1))]) d.toNat 4 [.i .i64 (w64 (w64 (w64 (w64 (a + 1) + 1) + 1) + 1))]) d.toNat 5 [.s (U59.v (w64 (w64 (w64 (w64 (w64 (a + 1) + 1) + 1) + 1) + 1)))]) d.toNat 6 [.i .i64 (w64 (w64 (w64 (w64 (w64 (w64 (a + 1) + 1) + 1) + 1) + 1) + 1))]) else none else none else none else none else none else none else none else none else none else k0 a d e
def l2 {R : Type} (N : Nat) (k0 : F_iir R) : Nat -> F_iir R
 | 0 => fun _ _ _ => none
 | n + 1 => r2 N (l2 N k0 n) k0
def b {R : Type} (N : Nat) (kr : F_ir R) (a : Row) (d : Int) : Option R := l2 N (fun e _ f => kr e f) N d 0 a
def vo := b Lib.big fun r0 r1 => some (r0, r1)
def c := fun a d => (vo a d).isSome
def v := fun a d => (vo a d).getD (0, [])
theorem out {x} : ∀ a d, vo a d = some x -> c a d = true /\ v a d = x := fun _ _ => Lib.out_
end Go.FG.U41

namespace Go.FG.U12
def b {R : Type} (kr : F_irrrrrr R) (a : Int) (d e f h : Row) (i : Int) (j l : Row) (m o : Int) : Option R := bif U21.c d o then bif U39.c e f h i (U21.v d o).1 then bif U40.c j (U39.v e f h i (U21.v d o).1).1 then bif U41.c l (U40.v j (U39.v e f h i (U21.v d o).1).1).1 then kr (U41.v l (U40.v j (U39.v e f h i (U21.v d o).1).1).1).1 (U21.v d o).2 (U39.v e f h i (U21.v d o).1).2.1 (U39.v e f h i (U21.v d o).1).2.2.1 (U39.v e f h i (U21.v d o).1).2.2.2 (U40.v j (U39.v e f h i (U21.v d o).1).1).2 (U41.v l (U40.v j (U39.v e f h i (U21.v d o).1).1).1).2 else none else none else none else none
def vo := b fun r0 r1 r2 r3 r4 r5 r6 => some (r0, r1, r2, r3, r4, r5, r6)
def c := fun a d e f h i j l m o => (vo a d e f h i j l m o).isSome
def v := fun a d e f h i j l m o => (vo a d e f h i j l m o).getD (0, [], [], [], [], [], [])
theorem out {x} : ∀ a d e f h i j l m o, vo a d e f h i j l m o = some x -> c a d e f h i j l m o = true /\ v a d e f h i j l m o = x := fun _ _ _ _ _ _ _ _ _ _ => Lib.out_
end Go.FG.U12

namespace Go.FG.U42
def r2 {R : Type} (N : Nat) (g k0 k1 : F_riii R) (a : Row) (d e f : Int) : Option R := bif decide (f < (a.length : Int)) then bif decide (0 <= f) && decide (f < (a.length : Int)) then bif U59.c d then bif !List.beq (cvS (cellAt a f.toNat 0)).toList (U59.v d).toList then k0 a d (-1) f else bif decide (0 <= f) && decide (f < (a.length : Int)) then bif cvI (cellAt a f.toNat 1) != w64 (d + 1) then k0 a (w64 (d + 1)) (-1) f else bif decide (0 <= f) && decide (f < (a.length : Int)) then bif cvI (cellAt a f.toNat 2) != w64 (w64 (d + 1) + 1) then k0 a (w64 (w64 (d + 1) + 1)) (-1) f else bif decide (0 <= f) && decide (f < (a.length : Int)) then bif U59.c (w64 (w64 (w64 (d + 1) + 1) + 1)) then bif !List.beq (cvS (cellAt a f.toNat 3)).toList (U59.v (w64 (w64 (w64 (d + 1) + 1) + 1))).toList then k0 a (w64 (w64 (w64 (d + 1) + 1) + 1)) (-1) f else g a (w64 (w64 (w64 (w64 (d + 1) + 1) + 1) + 1)) e (w64 (f + 1)) else none else none else none else none else none else none else k1 a d e f
def l2 {R : Type} (N : Nat) (k0 k1 : F_riii R) : Nat -> F_riii R
 | 0 => fun _ _ _ _ => none
 | n + 1 => r2 N (l2 N k0 k1 n) k0 k1
def b {R : Type} (N : Nat) (kr : Int -> Option R) (a : Row) (d : Int) : Option R := l2 N (fun _ _ e _ => kr e) (fun _ f _ _ => kr f) N a d 0 0
def vo := b Lib.big fun r0 => some r0
def c := fun a d => (vo a d).isSome
def v := fun a d => (vo a d).getD (0)
theorem out {x} : ∀ a d, vo a d = some x -> c a d = true /\ v a d = x := fun _ _ => Lib.out_
end Go.FG.U42

namespace Go.FG.U81
def r2 {R : Type} (N : Nat) (g k0 k1 : F_riii R) (a : Row) (d e f : Int) : Option R := bif decide (f < (a.length : Int)) then bif decide (0 <= f) && decide (f < (a.length : Int)) then bif U59.c d then bif !List.beq (cvS (cellAt a f.toNat 0)).toList (U59.v d).toList then k0 a d (-1) f else g a (w64 (d + 1)) e (w64 (f + 1)) else none else none else k1 a d e f
def l2 {R : Type} (N : Nat) (k0 k1 : F_riii R) : Nat -> F_riii R
 | 0 => fun _ _ _ _ => none
 | n + 1 => r2 N (l2 N k0 k1 n) k0 k1
def b {R : Type} (N : Nat) (kr : Int -> Option R) (a : Row) (d : Int) : Option R := l2 N (fun _ _ e _ => kr e) (fun _ f _ _ => kr f) N a d 0 0
def vo := b Lib.big fun r0 => some r0
def c := fun a d => (vo a d).isSome
def v := fun a d => (vo a d).getD (0)
theorem out {x} : ∀ a d, vo a d = some x -> c a d = true /\ v a d = x := fun _ _ => Lib.out_
end Go.FG.U81

namespace Go.FG.U136
def r2 {R : Type} (N : Nat) (g k0 k1 : F_riii R) (a : Row) (d e f : Int) : Option R := bif decide (f < (a.length : Int)) then bif decide (0 <= f) && decide (f < (a.length : Int)) then bif cvI (cellAt a f.toNat 0) != d then k0 a d (-1) f else g a (w64 (d + 1)) e (w64 (f + 1)) else none else k1 a d e f
def l2 {R : Type} (N : Nat) (k0 k1 : F_riii R) : Nat -> F_riii R
 | 0 => fun _ _ _ _ => none
 | n + 1 => r2 N (l2 N k0 k1 n) k0 k1
def b {R : Type} (N : Nat) (kr : Int -> Option R) (a : Row) (d : Int) : Option R := l2 N (fun _ _ e _ => kr e) (fun _ f _ _ => kr f) N a d 0 0
def vo := b Lib.big fun r0 => some r0
def c := fun a d => (vo a d).isSome
def v := fun a d => (vo a d).getD (0)
theorem out {x} : ∀ a d, vo a d = some x -> c a d = true /\ v a d = x := fun _ _ => Lib.out_
end Go.FG.U136

namespace Go.FG.U112
def r2 {R : Type} (N : Nat) (g k0 k1 : F_riii R) (a : Row) (d e f : Int) : Option R := bif decide (f < (a.length : Int)) then bif decide (0 <= f) && decide (f < (a.length : Int)) then bif U136.c (cvL (cellAt a f.toNat 0)) d then bif decide (U136.v (cvL (cellAt a f.toNat 0)) d < 0) then k0 a (U136.v (cvL (cellAt a f.toNat 0)) d) (-1) f else g a (U136.v (cvL (cellAt a f.toNat 0)) d) e (w64 (f + 1)) else none else none else k1 a d e f
def l2 {R : Type} (N : Nat) (k0 k1 : F_riii R) : Nat -> F_riii R
 | 0 => fun _ _ _ _ => none
 | n + 1 => r2 N (l2 N k0 k1 n) k0 k1
def b {R : Type} (N : Nat) (kr : Int -> Option R) (a : Row) (d : Int) : Option R := l2 N (fun _ _ e _ => kr e) (fun _ f _ _ => kr f) N a d 0 0
def vo := b Lib.big fun r0 => some r0
def c := fun a d => (vo a d).isSome
def v := fun a d => (vo a d).getD (0)
theorem out {x} : ∀ a d, vo a d = some x -> c a d = true /\ v a d = x := fun _ _ => Lib.out_
end Go.FG.U112

namespace Go.FG.U82
def b {R : Type} (kr : Int -> Option R) (a : Row) (d e : Int) : Option R := bif U112.c a e then bif decide (U112.v a e < 0) then kr (-1) else kr (U112.v a e) else none
def vo := b fun r0 => some r0
def c := fun a d e => (vo a d e).isSome
def v := fun a d e => (vo a d e).getD (0)
theorem out {x} : ∀ a d e, vo a d e = some x -> c a d e = true /\ v a d e = x := fun _ _ _ => Lib.out_
end Go.FG.U82

namespace Go.FG.U43
def b {R : Type} (kr : Int -> Option R) (a d e : Row) (f h : Int) : Option R := bif U81.c a h then bif decide (U81.v a h < 0) then kr (-1) else bif U81.c d (U81.v a h) then bif decide (U81.v d (U81.v a h) < 0) then kr (-1) else bif U82.c e f (U81.v d (U81.v a h)) then bif decide (U82.v e f (U81.v d (U81.v a h)) < 0) then kr (-1) else kr (U82.v e f (U81.v d (U81.v a h))) else none else none else none
def vo := b fun r0 => some r0
def c := fun a d e f h => (vo a d e f h).isSome
def v := fun a d e f h => (vo a d e f h).getD (0)
theorem out {x} : ∀ a d e f h, vo a d e f h = some x -> c a d e f h = true /\ v a d e f h = x := fun _ _ _ _ _ => Lib.out_
end Go.FG.U43

namespace Go.FG.U44
def r2 {R : Type} (N : Nat) (g k0 k1 : F_riii R) (a : Row) (d e f : Int) : Option R := bif decide (f < (a.length : Int)) then bif decide (0 <= f) && decide (f < (a.length : Int)) then bif U59.c d then bif !List.beq (cvS (cellAt a f.toNat 0)).toList (U59.v d).toList then k0 a d (-1) f else bif decide (0 <= f) && decide (f < (a.length : Int)) then bif U59.c (w64 (d + 1)) then bif !List.beq (cvS (cellAt a f.toNat 1)).toList (U59.v (w64 (d + 1))).toList then k0 a (w64 (d + 1)) (-1) f else bif decide (0 <= f) && decide (f < (a.length : Int)) then bif cvI (cellAt a f.toNat 2) != w64 (w64 (d + 1) + 1) then k0 a (w64 (w64 (d + 1) + 1)) (-1) f else bif decide (0 <= f) && decide (f < (a.length : Int)) then bif cvI (cellAt a f.toNat 3) != w64 (w64 (w64 (d + 1) + 1) + 1) then k0 a (w64 (w64 (w64 (d + 1) + 1) + 1)) (-1) f else bif decide (0 <= f) && decide (f < (a.length : Int)) then bif cvI (cellAt a f.toNat 4) != w64 (w64 (w64 (w64 (d + 1) + 1) + 1) + 1) then k0 a (w64 (w64 (w64 (w64 (d + 1) + 1) + 1) + 1)) (-1) f else g a (w64 (w64 (w64 (w64 (w64 (d + 1) + 1) + 1) + 1) + 1)) e (w64 (f + 1)) else none else none else none else none else none else none else none else k1 a d e f
def l2 {R : Type} (N : Nat) (k0 k1 : F_riii R) : Nat -> F_riii R
 | 0 => fun _ _ _ _ => none
 | n + 1 => r2 N (l2 N k0 k1 n) k0 k1
def b {R : Type} (N : Nat) (kr : Int -> Option R) (a : Row) (d : Int) : Option R := l2 N (fun _ _ e _ => kr e) (fun _ f _ _ => kr f) N a d 0 0
def vo := b Lib.big fun r0 => some r0
def c := fun a d => (vo a d).isSome
def v := fun a d => (vo a d).getD (0)
theorem out {x} : ∀ a d, vo a d = some x -> c a d = true /\ v a d = x := fun _ _ => Lib.out_
end Go.FG.U44

namespace Go.FG.U45
def r2 {R : Type} (N : Nat) (g k0 k1 : F_riii R) (a : Row) (d e f : Int) : Option R := bif decide (f < (a.length : Int)) then bif decide (0 <= f) && decide (f < (a.length : Int)) then bif cvI (cellAt a f.toNat 0) != d then k0 a d (-1) f else bif decide (0 <= f) && decide (f < (a.length : Int)) then bif U59.c (w64 (d + 1)) then bif !List.beq (cvS (cellAt a f.toNat 1)).toList (U59.v (w64 (d + 1))).toList then k0 a (w64 (d + 1)) (-1) f else bif decide (0 <= f) && decide (f < (a.length : Int)) then bif cvI (cellAt a f.toNat 2) != w64 (w64 (d + 1) + 1) then k0 a (w64 (w64 (d + 1) + 1)) (-1) f else bif decide (0 <= f) && decide (f < (a.length : Int)) then bif cvI (cellAt a f.toNat 3) != w64 (w64 (w64 (d + 1) + 1) + 1) then k0 a (w64 (w64 (w64 (d + 1) + 1) + 1)) (-1) f else bif decide (0 <= f) && decide (f < (a.length : Int)) then bif cvI (cellAt a f.toNat 4) != w64 (w64 (w64 (w64 (d + 1) + 1) + 1) + 1) then k0 a (w64 (w64 (w64 (w64 (d + 1) + 1) + 1) + 1)) (-1) f else bif decide (0 <= f) && decide (f < (a.length : Int)) then bif U59.c (w64 (w64 (w64 (w64 (w64 (d + 1) + 1) + 1) + 1) + 1)) then bif !List.beq (cvS (cellAt a f.toNat 5)).toList (U59.v (w64 (w64 (w64 (w64 (w64 (d + 1) + 1) + 1) + 1) + 1))).toList then k0 a (w64 (w64 (w64 (w64 (w64 (d + 1) + 1) + 1) + 1) + 1)) (-1) f else bif decide (0 <= f) && decide (f < (a.length : Int)) then bif cvI (cellAt a f.toNat 6) != w64 (w64 (w64 (w64 (w64 (w64 (d + 1) + 1) + 1) + 1) + 1) + 1) then k0 a (w64 (w64 (w64 (w64 (w64 (w64 (d + 1) + 1) + 1) + 1) + 1) + 1)) (-1) f else g a (w64 (w64 (w64 (w64 (w64 (w64 (w64 (d + 1) + 1) + 1) + 1) + 1) + 1) + 1)) e (w64 (f + 1)) else none else none else none else none else none else none else none else none else none else k1 a d e f
def l2 {R : Type} (N : Nat) (k0 k1 : F_riii R) : Nat -> F_riii R
 | 0 => fun _ _ _ _ => none
 | n + 1 => r2 N (l2 N k0 k1 n) k0 k1
def b {R : Type} (N : Nat) (kr : Int -> Option R) (a : Row) (d : Int) : Option R := l2 N (fun _ _ e _ => kr e) (fun _ f _ _ => kr f) N a d 0 0
def vo := b Lib.big fun r0 => some r0
def c := fun a d => (vo a d).isSome
def v := fun a d => (vo a d).getD (0)
theorem out {x} : ∀ a d, vo a d = some x -> c a d = true /\ v a d = x := fun _ _ => Lib.out_
end Go.FG.U45

namespace Go.FG.U13
def b {R : Type} (kr : Int -> Option R) (a : Int) (d e f h : Row) (i : Int) (j l : Row) (m o : Int) : Option R := bif U42.c d o then bif decide (U42.v d o < 0) then kr (-1) else bif U43.c e f h i (U42.v d o) then bif decide (U43.v e f h i (U42.v d o) < 0) then kr (-1) else bif U44.c j (U43.v e f h i (U42.v d o)) then bif decide (U44.v j (U43.v e f h i (U42.v d o)) < 0) then kr (-1) else bif U45.c l (U44.v j (U43.v e f h i (U42.v d o))) then bif decide (U45.v l (U44.v j (U43.v e f h i (U42.v d o))) < 0) then kr (-1) else kr (U45.v l (U44.v j (U43.v e f h i (U42.v d o)))) else none else none else none else none
def vo := b fun r0 => some r0
def c := fun a d e f h i j l m o => (vo a d e f h i j l m o).isSome
def v := fun a d e f h i j l m o => (vo a d e f h i j l m o).getD (0)
theorem out {x} : ∀ a d e f h i j l m o, vo a d e f h i j l m o = some x -> c a d e f h i j l m o = true /\ v a d e f h i j l m o = x := fun _ _ _ _ _ _ _ _ _ _ => Lib.out_
end Go.FG.U13

namespace Go.FG.U6
def b {R : Type} (kr : Bool -> Option R) (a : Int) (d e f h : Row) (i : Int) (j l : Row) (m o p : Int) : Option R := bif U7.c a d e f h i j l m 1048576 then Lib.lt (U7.v a d e f h i j l m 1048576) fun q => bif decide (q < 0) then kr true else bif U9.c a d e f h i j l m then Lib.lt (U9.v a d e f h i j l m) fun r => bif U22.c r.1 r.2.1 r.2.2.1 r.2.2.2.1 r.2.2.2.2.1 r.2.2.2.2.2.1 r.2.2.2.2.2.2.1 r.2.2.2.2.2.2.2.1 r.2.2.2.2.2.2.2.2 o p then Lib.lt (U22.v r.1 r.2.1 r.2.2.1 r.2.2.2.1 r.2.2.2.2.1 r.2.2.2.2.2.1 r.2.2.2.2.2.2.1 r.2.2.2.2.2.2.2.1 r.2.2.2.2.2.2.2.2 o p) fun s => bif U9.c a d e f h i j l m then bif U23.c r.1 r.2.1 r.2.2.1 r.2.2.2.1 r.2.2.2.2.1 r.2.2.2.2.2.1 r.2.2.2.2.2.2.1 r.2.2.2.2.2.2.2.1 r.2.2.2.2.2.2.2.2 o p then Lib.lt (U23.v r.1 r.2.1 r.2.2.1 r.2.2.2.1 r.2.2.2.2.1 r.2.2.2.2.2.1 r.2.2.2.2.2.2.1 r.2.2.2.2.2.2.2.1 r.2.2.2.2.2.2.2.2 o p) fun t => bif U11.c t.1 t.2.1 t.2.2.1 t.2.2.2.1 t.2.2.2.2.1 t.2.2.2.2.2.1 t.2.2.2.2.2.2.1 t.2.2.2.2.2.2.2.1 t.2.2.2.2.2.2.2.2.1 s.1 s.2.1 s.2.2.1 s.2.2.2.1 s.2.2.2.2.1 s.2.2.2.2.2.1 s.2.2.2.2.2.2.1 s.2.2.2.2.2.2.2.1 s.2.2.2.2.2.2.2.2.1 then Lib.lt (U11.v t.1 t.2.1 t.2.2.1 t.2.2.2.1 t.2.2.2.2.1 t.2.2.2.2.2.1 t.2.2.2.2.2.2.1 t.2.2.2.2.2.2.2.1 t.2.2.2.2.2.2.2.2.1 s.1 s.2.1 s.2.2.1 s.2.2.2.1 s.2.2.2.2.1 s.2.2.2.2.2.1 s.2.2.2.2.2.2.1 s.2.2.2.2.2.2.2.1 s.2.2.2.2.2.2.2.2.1) fun u => bif !u then kr false else bif !decide (t.2.2.2.2.2.2.2.2.2 = s.2.2.2.2.2.2.2.2.2) then kr false else bif U9.c a d e f h i j l m then bif U11.c r.1 r.2.1 r.2.2.1 r.2.2.2.1 r.2.2.2.2.1 r.2.2.2.2.2.1 r.2.2.2.2.2.2.1 r.2.2.2.2.2.2.2.1 r.2.2.2.2.2.2.2.2 r.1 r.2.1 r.2.2.1 r.2.2.2.1 r.2.2.2.2.1 r.2.2.2.2.2.1 r.2.2.2.2.2.2.1 r.2.2.2.2.2.2.2.1 r.2.2.2.2.2.2.2.2 then Lib.lt (U11.v r.1 r.2.1 r.2.2.1 r.2.2.2.1 r.2.2.2.2.1 r.2.2.2.2.2.1 r.2.2.2.2.2.2.1 r.2.2.2.2.2.2.2.1 r.2.2.2.2.2.2.2.2 r.1 r.2.1 r.2.2.1 r.2.2.2.1 r.2.2.2.2.1 r.2.2.2.2.2.1 r.2.2.2.2.2.2.1 r.2.2.2.2.2.2.2.1 r.2.2.2.2.2.2.2.2) fun w => bif !w then kr false else bif U12.c r.1 r.2.1 r.2.2.1 r.2.2.2.1 r.2.2.2.2.1 r.2.2.2.2.2.1 r.2.2.2.2.2.2.1 r.2.2.2.2.2.2.2.1 r.2.2.2.2.2.2.2.2 1 then Lib.lt (U12.v r.1 r.2.1 r.2.2.1 r.2.2.2.1 r.2.2.2.2.1 r.2.2.2.2.2.1 r.2.2.2.2.2.2.1 r.2.2.2.2.2.2.2.1 r.2.2.2.2.2.2.2.2 1) fun y => bif decide (y.1 < 0) then kr false else bif U11.c t.1 t.2.1 t.2.2.1 t.2.2.2.1 t.2.2.2.2.1 t.2.2.2.2.2.1 t.2.2.2.2.2.2.1 t.2.2.2.2.2.2.2.1 t.2.2.2.2.2.2.2.2.1 s.1 s.2.1 s.2.2.1 s.2.2.2.1 s.2.2.2.2.1 s.2.2.2.2.2.1 s.2.2.2.2.2.2.1 s.2.2.2.2.2.2.2.1 s.2.2.2.2.2.2.2.2.1 then bif !u then kr false else bif !decide (t.2.2.2.2.2.2.2.2.2 = s.2.2.2.2.2.2.2.2.2) then kr false else bif U12.c t.1 t.2.1 t.2.2.1 t.2.2.2.1 t.2.2.2.2.1 t.2.2.2.2.2.1 t.2.2.2.2.2.2.1 t.2.2.2.2.2.2.2.1 t.2.2.2.2.2.2.2.2.1 1 then Lib.lt (U12.v t.1 t.2.1 t.2.2.1 t.2.2.2.1 t.2.2.2.2.1 t.2.2.2.2.2.1 t.2.2.2.2.2.2.1 t.2.2.2.2.2.2.2.1 t.2.2.2.2.2.2.2.2.1 1) fun z => bif U13.c t.1 z.2.1 z.2.2.1 z.2.2.2.1 z.2.2.2.2.1 t.2.2.2.2.2.1 z.2.2.2.2.2.1 z.2.2.2.2.2.2 t.2.2.2.2.2.2.2.2.1 1 then Lib.lt (U13.v t.1 z.2.1 z.2.2.1 z.2.2.2.1 z.2.2.2.2.1 t.2.2.2.2.2.1 z.2.2.2.2.2.1 z.2.2.2.2.2.2 t.2.2.2.2.2.2.2.2.1 1) fun α => bif decide (α < 0) then kr false else bif α != z.1 then kr false else bif U9.c a d e f h i j l m then bif U23.c r.1 r.2.1 r.2.2.1 r.2.2.2.1 r.2.2.2.2.1 r.2.2.2.2.2.1 r.2.2.2.2.2.2.1 r.2.2.2.2.2.2.2.1 r.2.2.2.2.2.2.2.2 o p then bif U11.c t.1 t.2.1 t.2.2.1 t.2.2.2.1 t.2.2.2.2.1 t.2.2.2.2.2.1 t.2.2.2.2.2.2.1 t.2.2.2.2.2.2.2.1 t.2.2.2.2.2.2.2.2.1 s.1 s.2.1 s.2.2.1 s.2.2.2.1 s.2.2.2.2.1 s.2.2.2.2.2.1 s.2.2.2.2.2.2.1 s.2.2.2.2.2.2.2.1 s.2.2.2.2.2.2.2.2.1 then bif !u then kr false else bif !decide (t.2.2.2.2.2.2.2.2.2 = s.2.2.2.2.2.2.2.2.2) then kr false else bif U13.c t.1 z.2.1 z.2.2.1 z.2.2.2.1 z.2.2.2.2.1 t.2.2.2.2.2.1 z.2.2.2.2.2.1 z.2.2.2.2.2.2 t.2.2.2.2.2.2.2.2.1 1 then bif decide (α < 0) then kr false else bif α != z.1 then kr false else kr true else none else none else none else none else none else none else none else none else none else none else none else none else none else none else none else none
def vo := b fun r0 => some r0
def c := fun a d e f h i j l m o p => (vo a d e f h i j l m o p).isSome
def v := fun a d e f h i j l m o p => (vo a d e f h i j l m o p).getD false
theorem out {x} : ∀ a d e f h i j l m o p, vo a d e f h i j l m o p = some x -> c a d e f h i j l m o p = true /\ v a d e f h i j l m o p = x := fun _ _ _ _ _ _ _ _ _ _ _ => Lib.out_
end Go.FG.U6

