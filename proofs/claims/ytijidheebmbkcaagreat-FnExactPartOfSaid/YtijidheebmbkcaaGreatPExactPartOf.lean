/- Functions of the program, told as functions of numbers, texts and lists, and what each comes to. No condition but those that each states. -/
import Derived.Test.YtijidheebmbkcaaGreatLib
set_option linter.unusedVariables false
set_option linter.unusedSimpArgs false
set_option maxRecDepth 100000
namespace Go.FG
abbrev F_riii (R : Type) := Row -> Int -> Int -> Int -> Option R
abbrev F_siis (R : Type) := ByteArray -> Int -> Int -> ByteArray -> Option R
abbrev F_rir (R : Type) := Row -> Int -> Row -> Option R
abbrev F_ri (R : Type) := Row -> Int -> Option R
abbrev F_rrri (R : Type) := Row -> Row -> Row -> Int -> Option R
abbrev F_ssiii (R : Type) := ByteArray -> ByteArray -> Int -> Int -> Int -> Option R
abbrev F_isiiisi (R : Type) := Int -> ByteArray -> Int -> Int -> Int -> ByteArray -> Int -> Option R
abbrev F_irrrrirri (R : Type) := Int -> Row -> Row -> Row -> Row -> Int -> Row -> Row -> Int -> Option R
abbrev F_iriii (R : Type) := Int -> Row -> Int -> Int -> Int -> Option R
abbrev F_iriiir (R : Type) := Int -> Row -> Int -> Int -> Int -> Row -> Option R
abbrev F_rsbi (R : Type) := Row -> ByteArray -> Bool -> Int -> Option R
abbrev F_biiri (R : Type) := Bool -> Int -> Int -> Row -> Int -> Option R
abbrev F_biri (R : Type) := Bool -> Int -> Row -> Int -> Option R
abbrev F_birrrir (R : Type) := Bool -> Int -> Row -> Row -> Row -> Int -> Row -> Option R
abbrev F_biirrrrirri (R : Type) := Bool -> Int -> Int -> Row -> Row -> Row -> Row -> Int -> Row -> Row -> Int -> Option R
abbrev F_ibiirrrrirrissiii (R : Type) := Int -> Bool -> Int -> Int -> Row -> Row -> Row -> Row -> Int -> Row -> Row -> Int -> ByteArray -> ByteArray -> Int -> Int -> Int -> Option R
abbrev F_isr (R : Type) := Int -> ByteArray -> Row -> Option R
abbrev F_biisr (R : Type) := Bool -> Int -> Int -> ByteArray -> Row -> Option R
abbrev F_isrb (R : Type) := Int -> ByteArray -> Row -> Bool -> Option R
abbrev F_iiiiiirrrrrr (R : Type) := Int -> Int -> Int -> Int -> Int -> Int -> Row -> Row -> Row -> Row -> Row -> Row -> Option R
abbrev F_irrrrirrib (R : Type) := Int -> Row -> Row -> Row -> Row -> Int -> Row -> Row -> Int -> Bool -> Option R
abbrev F_riiii (R : Type) := Row -> Int -> Int -> Int -> Int -> Option R
abbrev F_riiiir (R : Type) := Row -> Int -> Int -> Int -> Int -> Row -> Option R
abbrev F_riir (R : Type) := Row -> Int -> Int -> Row -> Option R
abbrev F_ririi (R : Type) := Row -> Int -> Row -> Int -> Int -> Option R
abbrev F_rsiii (R : Type) := Row -> ByteArray -> Int -> Int -> Int -> Option R
abbrev F_brriiriiri (R : Type) := Bool -> Row -> Row -> Int -> Int -> Row -> Int -> Int -> Row -> Int -> Option R
abbrev F_briiri (R : Type) := Bool -> Row -> Int -> Int -> Row -> Int -> Option R
abbrev F_biirrrir (R : Type) := Bool -> Int -> Int -> Row -> Row -> Row -> Int -> Row -> Option R
abbrev F_briiirrrrirri (R : Type) := Bool -> Row -> Int -> Int -> Int -> Row -> Row -> Row -> Row -> Int -> Row -> Row -> Int -> Option R
abbrev F_briiisr (R : Type) := Bool -> Row -> Int -> Int -> Int -> ByteArray -> Row -> Option R
abbrev F_rrbi (R : Type) := Row -> Row -> Bool -> Int -> Option R
abbrev F_is (R : Type) := Int -> ByteArray -> Option R
abbrev F_iir (R : Type) := Int -> Int -> Row -> Option R
abbrev F_ir (R : Type) := Int -> Row -> Option R
abbrev F_irrr (R : Type) := Int -> Row -> Row -> Row -> Option R
abbrev F_irrrrrr (R : Type) := Int -> Row -> Row -> Row -> Row -> Row -> Row -> Option R
end Go.FG

namespace Go.FG.U49
def b {R : Type} (kr : Int -> Option R) (a0 : ByteArray) (a1 a2 : Int) (a3 : ByteArray) (a4 : Int) : Option R := bif decide (w64 (a4 - (a0.size : Int)) < 0) then kr (-1) else bif decide (w64 (w64 (a4 - (a0.size : Int)) - (a3.size : Int)) < 0) then kr (-1) else kr (w64 (w64 (a4 - (a0.size : Int)) - (a3.size : Int)))
def v (a0 : ByteArray) (a1 a2 : Int) (a3 : ByteArray) (a4 : Int) : Int := bif decide (w64 (a4 - (a0.size : Int)) < 0) then -1 else bif decide (w64 (w64 (a4 - (a0.size : Int)) - (a3.size : Int)) < 0) then -1 else w64 (w64 (a4 - (a0.size : Int)) - (a3.size : Int))
theorem b_eq {R : Type} (kr : Int -> Option R) (a0 : ByteArray) (a1 a2 : Int) (a3 : ByteArray) (a4 : Int) : b kr a0 a1 a2 a3 a4 = kr (v a0 a1 a2 a3 a4) := by
 first | rfl | (unfold b v; simp only [Bool.cond_eq_ite]; (repeat' split) <;> rfl)
end Go.FG.U49

namespace Go.FG.U16
def r5 {R : Type} (N : Nat) (g k0 k1 : F_riii R) (x0 : Row) (x1 x2 x3 : Int) : Option R := bif decide (x3 < (x0.length : Int)) then bif decide (0 <= x3) && decide (x3 < (x0.length : Int)) then bif decide (U49.v (cvS (cellAt x0 x3.toNat 0)) (cvI (cellAt x0 x3.toNat 1)) (cvI (cellAt x0 x3.toNat (1 + 1))) (cvS (cellAt x0 x3.toNat (1 + 1 + 1))) x1 < 0) then k0 x0 (U49.v (cvS (cellAt x0 x3.toNat 0)) (cvI (cellAt x0 x3.toNat 1)) (cvI (cellAt x0 x3.toNat (1 + 1))) (cvS (cellAt x0 x3.toNat (1 + 1 + 1))) x1) (-1) x3 else g x0 (U49.v (cvS (cellAt x0 x3.toNat 0)) (cvI (cellAt x0 x3.toNat 1)) (cvI (cellAt x0 x3.toNat (1 + 1))) (cvS (cellAt x0 x3.toNat (1 + 1 + 1))) x1) x2 (w64 (x3 + 1)) else none else k1 x0 x1 x2 x3
def l5 {R : Type} (N : Nat) (k0 k1 : F_riii R) : Nat -> F_riii R
 | 0 => fun _ _ _ _ => none
 | n + 1 => fun x0 x1 x2 x3 => r5 N (l5 N k0 k1 n) k0 k1 x0 x1 x2 x3
theorem q5_bind {R S : Type} (f : R -> Option S) (N : Nat) (k0 k1 : F_riii R) : ∀ n : Nat, (∀ (x0 : Row) (x1 x2 x3 : Int), Option.bind (l5 N k0 k1 n x0 x1 x2 x3) f = l5 N (fun y0 y1 y2 y3 => Option.bind (k0 y0 y1 y2 y3) f) (fun y0 y1 y2 y3 => Option.bind (k1 y0 y1 y2 y3) f) n x0 x1 x2 x3) := by
 intro n
 induction n with
 | zero => exact fun _ _ _ _ => rfl
 | succ n ih =>
  intro x0 x1 x2 x3
  simp only [l5, r5, Lib.B1, Lib.B2, Lib.B3, Lib.B4, ih]
variable {R : Type} (N : Nat) (kr : Int -> Option R) (a0 : Row) (a1 : Int)
def b : Option R := bif decide (w64 (a1 - (a0.length : Int)) < 0) then kr (-1) else l5 N (fun y4 y5 y6 y7 => kr y6) (fun y8 y9 y10 y11 => kr y9) N a0 (w64 (a1 - (a0.length : Int))) 0 0
theorem b_bind : b N kr a0 a1 = Option.bind (b N (fun r0 => some r0) a0 a1) (fun p => kr p) := by
 unfold b; simp only [Lib.B1, Lib.B2, Lib.B3, Lib.B4, q5_bind]
def vo := b Lib.big (fun r0 => some r0) a0 a1
def c : Bool := Option.isSome (vo a0 a1)
def v := Option.getD (vo a0 a1) (0)
theorem out {x} (h : vo a0 a1 = some x) : c a0 a1 = true /\ v a0 a1 = x := Lib.out_ h
theorem b_eq (hc : c a0 a1 = true) : ∃ N, b N kr a0 a1 = Lib.ap (fun p => kr p) (v a0 a1) := ⟨Lib.big, Lib.bq hc (by apply b_bind)⟩
end Go.FG.U16

namespace Go.FG.U62
def r5 {R : Type} (N : Nat) (g k0 k1 : F_riii R) (x0 : Row) (x1 x2 x3 : Int) : Option R := bif decide (x3 < (x0.length : Int)) then bif decide (0 <= x3) && decide (x3 < (x0.length : Int)) then bif decide (w64 (x1 - (↑(ByteArray.size (cvS (cellAt x0 x3.toNat 0))) : Int)) < 0) then k0 x0 (w64 (x1 - (↑(ByteArray.size (cvS (cellAt x0 x3.toNat 0))) : Int))) (-1) x3 else g x0 (w64 (x1 - (↑(ByteArray.size (cvS (cellAt x0 x3.toNat 0))) : Int))) x2 (w64 (x3 + 1)) else none else k1 x0 x1 x2 x3
def l5 {R : Type} (N : Nat) (k0 k1 : F_riii R) : Nat -> F_riii R
 | 0 => fun _ _ _ _ => none
 | n + 1 => fun x0 x1 x2 x3 => r5 N (l5 N k0 k1 n) k0 k1 x0 x1 x2 x3
theorem q5_bind {R S : Type} (f : R -> Option S) (N : Nat) (k0 k1 : F_riii R) : ∀ n : Nat, (∀ (x0 : Row) (x1 x2 x3 : Int), Option.bind (l5 N k0 k1 n x0 x1 x2 x3) f = l5 N (fun y0 y1 y2 y3 => Option.bind (k0 y0 y1 y2 y3) f) (fun y0 y1 y2 y3 => Option.bind (k1 y0 y1 y2 y3) f) n x0 x1 x2 x3) := by
 intro n
 induction n with
 | zero => exact fun _ _ _ _ => rfl
 | succ n ih =>
  intro x0 x1 x2 x3
  simp only [l5, r5, Lib.B1, Lib.B2, Lib.B3, Lib.B4, ih]
variable {R : Type} (N : Nat) (kr : Int -> Option R) (a0 : Row) (a1 : Int)
def b : Option R := bif decide (w64 (a1 - (a0.length : Int)) < 0) then kr (-1) else l5 N (fun y4 y5 y6 y7 => kr y6) (fun y8 y9 y10 y11 => kr y9) N a0 (w64 (a1 - (a0.length : Int))) 0 0
theorem b_bind : b N kr a0 a1 = Option.bind (b N (fun r0 => some r0) a0 a1) (fun p => kr p) := by
 unfold b; simp only [Lib.B1, Lib.B2, Lib.B3, Lib.B4, q5_bind]
def vo := b Lib.big (fun r0 => some r0) a0 a1
def c : Bool := Option.isSome (vo a0 a1)
def v := Option.getD (vo a0 a1) (0)
theorem out {x} (h : vo a0 a1 = some x) : c a0 a1 = true /\ v a0 a1 = x := Lib.out_ h
theorem b_eq (hc : c a0 a1 = true) : ∃ N, b N kr a0 a1 = Lib.ap (fun p => kr p) (v a0 a1) := ⟨Lib.big, Lib.bq hc (by apply b_bind)⟩
end Go.FG.U62

namespace Go.FG.U130
def b {R : Type} (kr : Int -> Option R) (a0 : Row) (a1 : Int) : Option R := bif decide (w64 (a1 - (a0.length : Int)) < 0) then kr (-1) else kr (w64 (a1 - (a0.length : Int)))
def v (a0 : Row) (a1 : Int) : Int := bif decide (w64 (a1 - (a0.length : Int)) < 0) then -1 else w64 (a1 - (a0.length : Int))
theorem b_eq {R : Type} (kr : Int -> Option R) (a0 : Row) (a1 : Int) : b kr a0 a1 = kr (v a0 a1) := by
 first | rfl | (unfold b v; simp only [Bool.cond_eq_ite]; (repeat' split) <;> rfl)
end Go.FG.U130

namespace Go.FG.U100
def r5 {R : Type} (N : Nat) (g k0 k1 : F_riii R) (x0 : Row) (x1 x2 x3 : Int) : Option R := bif decide (x3 < (x0.length : Int)) then bif decide (0 <= x3) && decide (x3 < (x0.length : Int)) then bif decide (U130.v (cvL (cellAt x0 x3.toNat 0)) x1 < 0) then k0 x0 (U130.v (cvL (cellAt x0 x3.toNat 0)) x1) (-1) x3 else g x0 (U130.v (cvL (cellAt x0 x3.toNat 0)) x1) x2 (w64 (x3 + 1)) else none else k1 x0 x1 x2 x3
def l5 {R : Type} (N : Nat) (k0 k1 : F_riii R) : Nat -> F_riii R
 | 0 => fun _ _ _ _ => none
 | n + 1 => fun x0 x1 x2 x3 => r5 N (l5 N k0 k1 n) k0 k1 x0 x1 x2 x3
theorem q5_bind {R S : Type} (f : R -> Option S) (N : Nat) (k0 k1 : F_riii R) : ∀ n : Nat, (∀ (x0 : Row) (x1 x2 x3 : Int), Option.bind (l5 N k0 k1 n x0 x1 x2 x3) f = l5 N (fun y0 y1 y2 y3 => Option.bind (k0 y0 y1 y2 y3) f) (fun y0 y1 y2 y3 => Option.bind (k1 y0 y1 y2 y3) f) n x0 x1 x2 x3) := by
 intro n
 induction n with
 | zero => exact fun _ _ _ _ => rfl
 | succ n ih =>
  intro x0 x1 x2 x3
  simp only [l5, r5, Lib.B1, Lib.B2, Lib.B3, Lib.B4, ih]
variable {R : Type} (N : Nat) (kr : Int -> Option R) (a0 : Row) (a1 : Int)
def b : Option R := bif decide (w64 (a1 - (a0.length : Int)) < 0) then kr (-1) else l5 N (fun y4 y5 y6 y7 => kr y6) (fun y8 y9 y10 y11 => kr y9) N a0 (w64 (a1 - (a0.length : Int))) 0 0
theorem b_bind : b N kr a0 a1 = Option.bind (b N (fun r0 => some r0) a0 a1) (fun p => kr p) := by
 unfold b; simp only [Lib.B1, Lib.B2, Lib.B3, Lib.B4, q5_bind]
def vo := b Lib.big (fun r0 => some r0) a0 a1
def c : Bool := Option.isSome (vo a0 a1)
def v := Option.getD (vo a0 a1) (0)
theorem out {x} (h : vo a0 a1 = some x) : c a0 a1 = true /\ v a0 a1 = x := Lib.out_ h
theorem b_eq (hc : c a0 a1 = true) : ∃ N, b N kr a0 a1 = Lib.ap (fun p => kr p) (v a0 a1) := ⟨Lib.big, Lib.bq hc (by apply b_bind)⟩
end Go.FG.U100

namespace Go.FG.U63
def b {R : Type} (kr : Int -> Option R) (a0 : Row) (a1 a2 : Int) : Option R := bif U100.c a0 a2 then bif decide (U100.v a0 a2 < 0) then kr (-1) else kr (U100.v a0 a2) else none
variable {R : Type} (kr : Int -> Option R) (a0 : Row) (a1 a2 : Int)
def vo := b (fun r0 => some r0) a0 a1 a2
def c : Bool := Option.isSome (vo a0 a1 a2)
def v := Option.getD (vo a0 a1 a2) (0)
theorem out {x} (h : vo a0 a1 a2 = some x) : c a0 a1 a2 = true /\ v a0 a1 a2 = x := Lib.out_ h
theorem b_eq (hc : c a0 a1 a2 = true) : b kr a0 a1 a2 = Lib.ap (fun p => kr p) (v a0 a1 a2) := Lib.bq hc (by unfold vo b; simp only [Lib.B1, Lib.B2, Lib.B3, Lib.B4])
end Go.FG.U63

namespace Go.FG.U24
variable {R : Type} (kr : Int -> Option R) (a0 a1 a2 : Row) (a3 a4 : Int)
def b : Option R := bif U62.c a0 a4 then bif decide (U62.v a0 a4 < 0) then kr (-1) else bif U62.c a1 (U62.v a0 a4) then bif decide (U62.v a1 (U62.v a0 a4) < 0) then kr (-1) else bif U63.c a2 a3 (U62.v a1 (U62.v a0 a4)) then bif decide (U63.v a2 a3 (U62.v a1 (U62.v a0 a4)) < 0) then kr (-1) else kr (U63.v a2 a3 (U62.v a1 (U62.v a0 a4))) else none else none else none
def vo := b (fun r0 => some r0) a0 a1 a2 a3 a4
def c : Bool := Option.isSome (vo a0 a1 a2 a3 a4)
def v := Option.getD (vo a0 a1 a2 a3 a4) (0)
theorem out {x} (h : vo a0 a1 a2 a3 a4 = some x) : c a0 a1 a2 a3 a4 = true /\ v a0 a1 a2 a3 a4 = x := Lib.out_ h
theorem b_eq (hc : c a0 a1 a2 a3 a4 = true) : b kr a0 a1 a2 a3 a4 = Lib.ap (fun p => kr p) (v a0 a1 a2 a3 a4) := Lib.bq hc (by unfold vo b; simp only [Lib.B1, Lib.B2, Lib.B3, Lib.B4])
end Go.FG.U24

namespace Go.FG.U64
def b {R : Type} (kr : Int -> Option R) (a0 a1 : ByteArray) (a2 a3 a4 a5 : Int) : Option R := bif decide (w64 (a5 - (a0.size : Int)) < 0) then kr (-1) else bif decide (w64 (w64 (a5 - (a0.size : Int)) - (a1.size : Int)) < 0) then kr (-1) else kr (w64 (w64 (a5 - (a0.size : Int)) - (a1.size : Int)))
def v (a0 a1 : ByteArray) (a2 a3 a4 a5 : Int) : Int := bif decide (w64 (a5 - (a0.size : Int)) < 0) then -1 else bif decide (w64 (w64 (a5 - (a0.size : Int)) - (a1.size : Int)) < 0) then -1 else w64 (w64 (a5 - (a0.size : Int)) - (a1.size : Int))
theorem b_eq {R : Type} (kr : Int -> Option R) (a0 a1 : ByteArray) (a2 a3 a4 a5 : Int) : b kr a0 a1 a2 a3 a4 a5 = kr (v a0 a1 a2 a3 a4 a5) := by
 first | rfl | (unfold b v; simp only [Bool.cond_eq_ite]; (repeat' split) <;> rfl)
end Go.FG.U64

namespace Go.FG.U25
def r5 {R : Type} (N : Nat) (g k0 k1 : F_riii R) (x0 : Row) (x1 x2 x3 : Int) : Option R := bif decide (x3 < (x0.length : Int)) then bif decide (0 <= x3) && decide (x3 < (x0.length : Int)) then bif decide (U64.v (cvS (cellAt x0 x3.toNat 0)) (cvS (cellAt x0 x3.toNat 1)) (cvI (cellAt x0 x3.toNat (1 + 1))) (cvI (cellAt x0 x3.toNat (1 + 1 + 1))) (cvI (cellAt x0 x3.toNat (1 + 1 + 1 + 1))) x1 < 0) then k0 x0 (U64.v (cvS (cellAt x0 x3.toNat 0)) (cvS (cellAt x0 x3.toNat 1)) (cvI (cellAt x0 x3.toNat (1 + 1))) (cvI (cellAt x0 x3.toNat (1 + 1 + 1))) (cvI (cellAt x0 x3.toNat (1 + 1 + 1 + 1))) x1) (-1) x3 else g x0 (U64.v (cvS (cellAt x0 x3.toNat 0)) (cvS (cellAt x0 x3.toNat 1)) (cvI (cellAt x0 x3.toNat (1 + 1))) (cvI (cellAt x0 x3.toNat (1 + 1 + 1))) (cvI (cellAt x0 x3.toNat (1 + 1 + 1 + 1))) x1) x2 (w64 (x3 + 1)) else none else k1 x0 x1 x2 x3
def l5 {R : Type} (N : Nat) (k0 k1 : F_riii R) : Nat -> F_riii R
 | 0 => fun _ _ _ _ => none
 | n + 1 => fun x0 x1 x2 x3 => r5 N (l5 N k0 k1 n) k0 k1 x0 x1 x2 x3
theorem q5_bind {R S : Type} (f : R -> Option S) (N : Nat) (k0 k1 : F_riii R) : ∀ n : Nat, (∀ (x0 : Row) (x1 x2 x3 : Int), Option.bind (l5 N k0 k1 n x0 x1 x2 x3) f = l5 N (fun y0 y1 y2 y3 => Option.bind (k0 y0 y1 y2 y3) f) (fun y0 y1 y2 y3 => Option.bind (k1 y0 y1 y2 y3) f) n x0 x1 x2 x3) := by
 intro n
 induction n with
 | zero => exact fun _ _ _ _ => rfl
 | succ n ih =>
  intro x0 x1 x2 x3
  simp only [l5, r5, Lib.B1, Lib.B2, Lib.B3, Lib.B4, ih]
variable {R : Type} (N : Nat) (kr : Int -> Option R) (a0 : Row) (a1 : Int)
def b : Option R := bif decide (w64 (a1 - (a0.length : Int)) < 0) then kr (-1) else l5 N (fun y4 y5 y6 y7 => kr y6) (fun y8 y9 y10 y11 => kr y9) N a0 (w64 (a1 - (a0.length : Int))) 0 0
theorem b_bind : b N kr a0 a1 = Option.bind (b N (fun r0 => some r0) a0 a1) (fun p => kr p) := by
 unfold b; simp only [Lib.B1, Lib.B2, Lib.B3, Lib.B4, q5_bind]
def vo := b Lib.big (fun r0 => some r0) a0 a1
def c : Bool := Option.isSome (vo a0 a1)
def v := Option.getD (vo a0 a1) (0)
theorem out {x} (h : vo a0 a1 = some x) : c a0 a1 = true /\ v a0 a1 = x := Lib.out_ h
theorem b_eq (hc : c a0 a1 = true) : ∃ N, b N kr a0 a1 = Lib.ap (fun p => kr p) (v a0 a1) := ⟨Lib.big, Lib.bq hc (by apply b_bind)⟩
end Go.FG.U25

namespace Go.FG.U65
def b {R : Type} (kr : Int -> Option R) (a0 : Int) (a1 : ByteArray) (a2 a3 a4 : Int) (a5 : ByteArray) (a6 a7 : Int) : Option R := bif decide (w64 (a7 - (a1.size : Int)) < 0) then kr (-1) else bif decide (w64 (w64 (a7 - (a1.size : Int)) - (a5.size : Int)) < 0) then kr (-1) else kr (w64 (w64 (a7 - (a1.size : Int)) - (a5.size : Int)))
def v (a0 : Int) (a1 : ByteArray) (a2 a3 a4 : Int) (a5 : ByteArray) (a6 a7 : Int) : Int := bif decide (w64 (a7 - (a1.size : Int)) < 0) then -1 else bif decide (w64 (w64 (a7 - (a1.size : Int)) - (a5.size : Int)) < 0) then -1 else w64 (w64 (a7 - (a1.size : Int)) - (a5.size : Int))
theorem b_eq {R : Type} (kr : Int -> Option R) (a0 : Int) (a1 : ByteArray) (a2 a3 a4 : Int) (a5 : ByteArray) (a6 a7 : Int) : b kr a0 a1 a2 a3 a4 a5 a6 a7 = kr (v a0 a1 a2 a3 a4 a5 a6 a7) := by
 first | rfl | (unfold b v; simp only [Bool.cond_eq_ite]; (repeat' split) <;> rfl)
end Go.FG.U65

namespace Go.FG.U26
def r5 {R : Type} (N : Nat) (g k0 k1 : F_riii R) (x0 : Row) (x1 x2 x3 : Int) : Option R := bif decide (x3 < (x0.length : Int)) then bif decide (0 <= x3) && decide (x3 < (x0.length : Int)) then bif decide (U65.v (cvI (cellAt x0 x3.toNat 0)) (cvS (cellAt x0 x3.toNat 1)) (cvI (cellAt x0 x3.toNat (1 + 1))) (cvI (cellAt x0 x3.toNat (1 + 1 + 1))) (cvI (cellAt x0 x3.toNat (1 + 1 + 1 + 1))) (cvS (cellAt x0 x3.toNat (1 + 1 + 1 + 1 + 1))) (cvI (cellAt x0 x3.toNat (1 + 1 + 1 + 1 + 1 + 1))) x1 < 0) then k0 x0 (U65.v (cvI (cellAt x0 x3.toNat 0)) (cvS (cellAt x0 x3.toNat 1)) (cvI (cellAt x0 x3.toNat (1 + 1))) (cvI (cellAt x0 x3.toNat (1 + 1 + 1))) (cvI (cellAt x0 x3.toNat (1 + 1 + 1 + 1))) (cvS (cellAt x0 x3.toNat (1 + 1 + 1 + 1 + 1))) (cvI (cellAt x0 x3.toNat (1 + 1 + 1 + 1 + 1 + 1))) x1) (-1) x3 else g x0 (U65.v (cvI (cellAt x0 x3.toNat 0)) (cvS (cellAt x0 x3.toNat 1)) (cvI (cellAt x0 x3.toNat (1 + 1))) (cvI (cellAt x0 x3.toNat (1 + 1 + 1))) (cvI (cellAt x0 x3.toNat (1 + 1 + 1 + 1))) (cvS (cellAt x0 x3.toNat (1 + 1 + 1 + 1 + 1))) (cvI (cellAt x0 x3.toNat (1 + 1 + 1 + 1 + 1 + 1))) x1) x2 (w64 (x3 + 1)) else none else k1 x0 x1 x2 x3
def l5 {R : Type} (N : Nat) (k0 k1 : F_riii R) : Nat -> F_riii R
 | 0 => fun _ _ _ _ => none
 | n + 1 => fun x0 x1 x2 x3 => r5 N (l5 N k0 k1 n) k0 k1 x0 x1 x2 x3
theorem q5_bind {R S : Type} (f : R -> Option S) (N : Nat) (k0 k1 : F_riii R) : ∀ n : Nat, (∀ (x0 : Row) (x1 x2 x3 : Int), Option.bind (l5 N k0 k1 n x0 x1 x2 x3) f = l5 N (fun y0 y1 y2 y3 => Option.bind (k0 y0 y1 y2 y3) f) (fun y0 y1 y2 y3 => Option.bind (k1 y0 y1 y2 y3) f) n x0 x1 x2 x3) := by
 intro n
 induction n with
 | zero => exact fun _ _ _ _ => rfl
 | succ n ih =>
  intro x0 x1 x2 x3
  simp only [l5, r5, Lib.B1, Lib.B2, Lib.B3, Lib.B4, ih]
variable {R : Type} (N : Nat) (kr : Int -> Option R) (a0 : Row) (a1 : Int)
def b : Option R := bif decide (w64 (a1 - (a0.length : Int)) < 0) then kr (-1) else l5 N (fun y4 y5 y6 y7 => kr y6) (fun y8 y9 y10 y11 => kr y9) N a0 (w64 (a1 - (a0.length : Int))) 0 0
theorem b_bind : b N kr a0 a1 = Option.bind (b N (fun r0 => some r0) a0 a1) (fun p => kr p) := by
 unfold b; simp only [Lib.B1, Lib.B2, Lib.B3, Lib.B4, q5_bind]
def vo := b Lib.big (fun r0 => some r0) a0 a1
def c : Bool := Option.isSome (vo a0 a1)
def v := Option.getD (vo a0 a1) (0)
theorem out {x} (h : vo a0 a1 = some x) : c a0 a1 = true /\ v a0 a1 = x := Lib.out_ h
theorem b_eq (hc : c a0 a1 = true) : ∃ N, b N kr a0 a1 = Lib.ap (fun p => kr p) (v a0 a1) := ⟨Lib.big, Lib.bq hc (by apply b_bind)⟩
end Go.FG.U26

namespace Go.FG.U7
def b {R : Type} (kr : Int -> Option R) (a0 : Int) (a1 a2 a3 a4 : Row) (a5 : Int) (a6 a7 : Row) (a8 a9 : Int) : Option R := bif U16.c a1 a9 then bif decide (U16.v a1 a9 < 0) then kr (-1) else bif U24.c a2 a3 a4 a5 (U16.v a1 a9) then bif decide (U24.v a2 a3 a4 a5 (U16.v a1 a9) < 0) then kr (-1) else bif U25.c a6 (U24.v a2 a3 a4 a5 (U16.v a1 a9)) then bif decide (U25.v a6 (U24.v a2 a3 a4 a5 (U16.v a1 a9)) < 0) then kr (-1) else bif U26.c a7 (U25.v a6 (U24.v a2 a3 a4 a5 (U16.v a1 a9))) then bif decide (U26.v a7 (U25.v a6 (U24.v a2 a3 a4 a5 (U16.v a1 a9))) < 0) then kr (-1) else kr (U26.v a7 (U25.v a6 (U24.v a2 a3 a4 a5 (U16.v a1 a9)))) else none else none else none else none
variable {R : Type} (kr : Int -> Option R) (a0 : Int) (a1 a2 a3 a4 : Row) (a5 : Int) (a6 a7 : Row) (a8 a9 : Int)
def vo := b (fun r0 => some r0) a0 a1 a2 a3 a4 a5 a6 a7 a8 a9
def c : Bool := Option.isSome (vo a0 a1 a2 a3 a4 a5 a6 a7 a8 a9)
def v := Option.getD (vo a0 a1 a2 a3 a4 a5 a6 a7 a8 a9) (0)
theorem out {x} (h : vo a0 a1 a2 a3 a4 a5 a6 a7 a8 a9 = some x) : c a0 a1 a2 a3 a4 a5 a6 a7 a8 a9 = true /\ v a0 a1 a2 a3 a4 a5 a6 a7 a8 a9 = x := Lib.out_ h
theorem b_eq (hc : c a0 a1 a2 a3 a4 a5 a6 a7 a8 a9 = true) : b kr a0 a1 a2 a3 a4 a5 a6 a7 a8 a9 = Lib.ap (fun p => kr p) (v a0 a1 a2 a3 a4 a5 a6 a7 a8 a9) := Lib.bq hc (by unfold vo b; simp only [Lib.B1, Lib.B2, Lib.B3, Lib.B4])
end Go.FG.U7

namespace Go.FG.U54
def b {R : Type} (kr : F_siis R) (a0 : ByteArray) (a1 a2 : Int) (a3 : ByteArray) : Option R := kr a0 a1 a2 a3
def v (a0 : ByteArray) (a1 a2 : Int) (a3 : ByteArray) : ByteArray × Int × Int × ByteArray := (a0, a1, a2, a3)
theorem b_eq {R : Type} (kr : F_siis R) (a0 : ByteArray) (a1 a2 : Int) (a3 : ByteArray) : b kr a0 a1 a2 a3 = kr ((v a0 a1 a2 a3).1) ((v a0 a1 a2 a3).2.1) ((v a0 a1 a2 a3).2.2.1) ((v a0 a1 a2 a3).2.2.2) := by
 first | rfl | (unfold b v; simp only [Bool.cond_eq_ite]; (repeat' split) <;> rfl)
end Go.FG.U54

namespace Go.FG.U18
def r3 {R : Type} (N : Nat) (g k0 : F_rir R) (x0 : Row) (x1 : Int) (x2 : Row) : Option R := bif decide (x1 < (x0.length : Int)) then bif decide (0 <= x1) && decide (x1 < (x0.length : Int)) then bif decide (0 <= x1) && decide (x1 < (x2.length : Int)) then g x0 (w64 (x1 + 1)) (setC x2 x1.toNat 0 [CV.s (cvS (cellAt x0 x1.toNat 0)), CV.i IntKind.i64 (cvI (cellAt x0 x1.toNat 1)), CV.i IntKind.i64 (cvI (cellAt x0 x1.toNat (1 + 1))), CV.s (cvS (cellAt x0 x1.toNat (1 + 1 + 1)))]) else none else none else k0 x0 x1 x2
def l3 {R : Type} (N : Nat) (k0 : F_rir R) : Nat -> F_rir R
 | 0 => fun _ _ _ => none
 | n + 1 => fun x0 x1 x2 => r3 N (l3 N k0 n) k0 x0 x1 x2
theorem q3_bind {R S : Type} (f : R -> Option S) (N : Nat) (k0 : F_rir R) : ∀ n : Nat, (∀ (x0 : Row) (x1 : Int) (x2 : Row), Option.bind (l3 N k0 n x0 x1 x2) f = l3 N (fun y0 y1 y2 => Option.bind (k0 y0 y1 y2) f) n x0 x1 x2) := by
 intro n
 induction n with
 | zero => exact fun _ _ _ => rfl
 | succ n ih =>
  intro x0 x1 x2
  simp only [l3, r3, Lib.B1, Lib.B2, Lib.B3, Lib.B4, ih]
variable {R : Type} (N : Nat) (kr : Row -> Option R) (a0 : Row)
def b : Option R := bif decide ((a0.length : Int) = (a0.length : Int)) && roomy (Int.toNat (a0.length : Int)) 48 then l3 N (fun y3 y4 y5 => kr y5) N a0 0 (zeros [Ck.s, Ck.i IntKind.i64, Ck.i IntKind.i64, Ck.s] (Int.toNat (a0.length : Int))) else none
theorem b_bind : b N kr a0 = Option.bind (b N (fun r0 => some r0) a0) (fun p => kr p) := by
 unfold b; simp only [Lib.B1, Lib.B2, Lib.B3, Lib.B4, q3_bind]
def vo := b Lib.big (fun r0 => some r0) a0
def c : Bool := Option.isSome (vo a0)
def v := Option.getD (vo a0) ([])
theorem out {x} (h : vo a0 = some x) : c a0 = true /\ v a0 = x := Lib.out_ h
theorem b_eq (hc : c a0 = true) : ∃ N, b N kr a0 = Lib.ap (fun p => kr p) (v a0) := ⟨Lib.big, Lib.bq hc (by apply b_bind)⟩
end Go.FG.U18

namespace Go.FG.U68
def r3 {R : Type} (N : Nat) (g k0 : F_rir R) (x0 : Row) (x1 : Int) (x2 : Row) : Option R := bif decide (x1 < (x0.length : Int)) then bif decide (0 <= x1) && decide (x1 < (x0.length : Int)) then bif decide (0 <= x1) && decide (x1 < (x2.length : Int)) then g x0 (w64 (x1 + 1)) (setC x2 x1.toNat 0 [CV.s (cvS (cellAt x0 x1.toNat 0))]) else none else none else k0 x0 x1 x2
def l3 {R : Type} (N : Nat) (k0 : F_rir R) : Nat -> F_rir R
 | 0 => fun _ _ _ => none
 | n + 1 => fun x0 x1 x2 => r3 N (l3 N k0 n) k0 x0 x1 x2
theorem q3_bind {R S : Type} (f : R -> Option S) (N : Nat) (k0 : F_rir R) : ∀ n : Nat, (∀ (x0 : Row) (x1 : Int) (x2 : Row), Option.bind (l3 N k0 n x0 x1 x2) f = l3 N (fun y0 y1 y2 => Option.bind (k0 y0 y1 y2) f) n x0 x1 x2) := by
 intro n
 induction n with
 | zero => exact fun _ _ _ => rfl
 | succ n ih =>
  intro x0 x1 x2
  simp only [l3, r3, Lib.B1, Lib.B2, Lib.B3, Lib.B4, ih]
variable {R : Type} (N : Nat) (kr : Row -> Option R) (a0 : Row)
def b : Option R := bif decide ((a0.length : Int) = (a0.length : Int)) && roomy (Int.toNat (a0.length : Int)) 16 then l3 N (fun y3 y4 y5 => kr y5) N a0 0 (zeros [Ck.s] (Int.toNat (a0.length : Int))) else none
theorem b_bind : b N kr a0 = Option.bind (b N (fun r0 => some r0) a0) (fun p => kr p) := by
 unfold b; simp only [Lib.B1, Lib.B2, Lib.B3, Lib.B4, q3_bind]
def vo := b Lib.big (fun r0 => some r0) a0
def c : Bool := Option.isSome (vo a0)
def v := Option.getD (vo a0) ([])
theorem out {x} (h : vo a0 = some x) : c a0 = true /\ v a0 = x := Lib.out_ h
theorem b_eq (hc : c a0 = true) : ∃ N, b N kr a0 = Lib.ap (fun p => kr p) (v a0) := ⟨Lib.big, Lib.bq hc (by apply b_bind)⟩
end Go.FG.U68

namespace Go.FG.U131
def r3 {R : Type} (N : Nat) (g k0 : F_rir R) (x0 : Row) (x1 : Int) (x2 : Row) : Option R := bif decide (x1 < (x0.length : Int)) then bif decide (0 <= x1) && decide (x1 < (x0.length : Int)) then bif decide (0 <= x1) && decide (x1 < (x2.length : Int)) then g x0 (w64 (x1 + 1)) (setC x2 x1.toNat 0 [CV.i IntKind.i64 (cvI (cellAt x0 x1.toNat 0))]) else none else none else k0 x0 x1 x2
def l3 {R : Type} (N : Nat) (k0 : F_rir R) : Nat -> F_rir R
 | 0 => fun _ _ _ => none
 | n + 1 => fun x0 x1 x2 => r3 N (l3 N k0 n) k0 x0 x1 x2
def b {R : Type} (N : Nat) (kr : Row -> Option R) (a0 : Row) : Option R := bif decide ((a0.length : Int) = (a0.length : Int)) && roomy (Int.toNat (a0.length : Int)) 8 then l3 N (fun y3 y4 y5 => kr y5) N a0 0 (zeros [Ck.i IntKind.i64] (Int.toNat (a0.length : Int))) else none
def v (a0 : Row) : Row := a0.map fun y => [CV.i IntKind.i64 (cvI (y.getD 0 (.b false)))]
def c (a0 : Row) : Bool := decide (a0.length <= 1048576)
theorem b_eq {R : Type} (kr : Row -> Option R) (a0 : Row) (hc : c a0 = true) : ∃ N, b N kr a0 = kr (v a0) := by
 have hl : a0.length <= 1048576 := of_decide_eq_true hc
 refine ⟨a0.length + 1, ?_⟩
 unfold b
 rw [show decide ((a0.length : Int) = (a0.length : Int)) = true by simp, Lib.toN, Lib.roomy_of (by omega) (by omega), Bool.and_self, cond_true]
 refine Lib.fill_run (ks := [Ck.i IntKind.i64]) (v a0) a0.length (by unfold v; simp) (fun y hy => ?_) (fun m (i : Nat) x => l3 (a0.length + 1) (fun _ _ y => kr y) m a0 i x) kr (fun m => ?_) (fun m i hi x hx => ?_)
 ·unfold v at hy; obtain ⟨z, _, rfl⟩ := List.mem_map.1 hy; rfl
 ·simp only [l3, r3, Lib.dlt, Nat.lt_irrefl, decide_false, cond_false]
 ·have hi2 : i < x.length := by omega
  have e : (v a0).getD i [] = [CV.i IntKind.i64 (cvI (cellAt a0 i 0))] := by
   unfold v; simp [List.getD, hi, cellAt]
  simp only [l3, r3, Lib.dlt, Lib.dle0, Lib.toN, hi, hi2, decide_true, Bool.true_and, cond_true, Lib.w64_s hi (by omega), e]
end Go.FG.U131

namespace Go.FG.U104
def r3 {R : Type} (N : Nat) (g k0 : F_rir R) (x0 : Row) (x1 : Int) (x2 : Row) : Option R := bif decide (x1 < (x0.length : Int)) then bif decide (0 <= x1) && decide (x1 < (x0.length : Int)) then bif U131.c (cvL (cellAt x0 x1.toNat 0)) then bif decide (0 <= x1) && decide (x1 < (x2.length : Int)) then g x0 (w64 (x1 + 1)) (setC x2 x1.toNat 0 [CV.l 3 (U131.v (cvL (cellAt x0 x1.toNat 0)))]) else none else none else none else k0 x0 x1 x2
def l3 {R : Type} (N : Nat) (k0 : F_rir R) : Nat -> F_rir R
 | 0 => fun _ _ _ => none
 | n + 1 => fun x0 x1 x2 => r3 N (l3 N k0 n) k0 x0 x1 x2
theorem q3_bind {R S : Type} (f : R -> Option S) (N : Nat) (k0 : F_rir R) : ∀ n : Nat, (∀ (x0 : Row) (x1 : Int) (x2 : Row), Option.bind (l3 N k0 n x0 x1 x2) f = l3 N (fun y0 y1 y2 => Option.bind (k0 y0 y1 y2) f) n x0 x1 x2) := by
 intro n
 induction n with
 | zero => exact fun _ _ _ => rfl
 | succ n ih =>
  intro x0 x1 x2
  simp only [l3, r3, Lib.B1, Lib.B2, Lib.B3, Lib.B4, ih]
variable {R : Type} (N : Nat) (kr : Row -> Option R) (a0 : Row)
def b : Option R := bif decide ((a0.length : Int) = (a0.length : Int)) && roomy (Int.toNat (a0.length : Int)) 24 then l3 N (fun y3 y4 y5 => kr y5) N a0 0 (zeros [Ck.l 3] (Int.toNat (a0.length : Int))) else none
theorem b_bind : b N kr a0 = Option.bind (b N (fun r0 => some r0) a0) (fun p => kr p) := by
 unfold b; simp only [Lib.B1, Lib.B2, Lib.B3, Lib.B4, q3_bind]
def vo := b Lib.big (fun r0 => some r0) a0
def c : Bool := Option.isSome (vo a0)
def v := Option.getD (vo a0) ([])
theorem out {x} (h : vo a0 = some x) : c a0 = true /\ v a0 = x := Lib.out_ h
theorem b_eq (hc : c a0 = true) : ∃ N, b N kr a0 = Lib.ap (fun p => kr p) (v a0) := ⟨Lib.big, Lib.bq hc (by apply b_bind)⟩
end Go.FG.U104

namespace Go.FG.U69
variable {R : Type} (kr : F_ri R) (a0 : Row) (a1 : Int)
def b : Option R := bif U104.c a0 then kr (U104.v a0) a1 else none
def vo := b (fun r0 r1 => some (r0, r1)) a0 a1
def c : Bool := Option.isSome (vo a0 a1)
def v := Option.getD (vo a0 a1) ([], 0)
theorem out {x} (h : vo a0 a1 = some x) : c a0 a1 = true /\ v a0 a1 = x := Lib.out_ h
theorem b_eq (hc : c a0 a1 = true) : b kr a0 a1 = Lib.ap (fun p => kr p.1 p.2) (v a0 a1) := Lib.bq hc (by unfold vo b; simp only [Lib.B1, Lib.B2, Lib.B3, Lib.B4])
end Go.FG.U69

namespace Go.FG.U30
variable {R : Type} (kr : F_rrri R) (a0 a1 a2 : Row) (a3 : Int)
def b : Option R := bif U68.c a0 then bif U68.c a1 then bif U69.c a2 a3 then kr (U68.v a0) (U68.v a1) ((U69.v a2 a3).1) ((U69.v a2 a3).2) else none else none else none
def vo := b (fun r0 r1 r2 r3 => some (r0, r1, r2, r3)) a0 a1 a2 a3
def c : Bool := Option.isSome (vo a0 a1 a2 a3)
def v := Option.getD (vo a0 a1 a2 a3) ([], [], [], 0)
theorem out {x} (h : vo a0 a1 a2 a3 = some x) : c a0 a1 a2 a3 = true /\ v a0 a1 a2 a3 = x := Lib.out_ h
theorem b_eq (hc : c a0 a1 a2 a3 = true) : b kr a0 a1 a2 a3 = Lib.ap (fun p => kr p.1 p.2.1 p.2.2.1 p.2.2.2) (v a0 a1 a2 a3) := Lib.bq hc (by unfold vo b; simp only [Lib.B1, Lib.B2, Lib.B3, Lib.B4])
end Go.FG.U30

namespace Go.FG.U70
def b {R : Type} (kr : F_ssiii R) (a0 a1 : ByteArray) (a2 a3 a4 : Int) : Option R := kr a0 a1 a2 a3 a4
def v (a0 a1 : ByteArray) (a2 a3 a4 : Int) : ByteArray × ByteArray × Int × Int × Int := (a0, a1, a2, a3, a4)
theorem b_eq {R : Type} (kr : F_ssiii R) (a0 a1 : ByteArray) (a2 a3 a4 : Int) : b kr a0 a1 a2 a3 a4 = kr ((v a0 a1 a2 a3 a4).1) ((v a0 a1 a2 a3 a4).2.1) ((v a0 a1 a2 a3 a4).2.2.1) ((v a0 a1 a2 a3 a4).2.2.2.1) ((v a0 a1 a2 a3 a4).2.2.2.2) := by
 first | rfl | (unfold b v; simp only [Bool.cond_eq_ite]; (repeat' split) <;> rfl)
end Go.FG.U70

namespace Go.FG.U31
def r3 {R : Type} (N : Nat) (g k0 : F_rir R) (x0 : Row) (x1 : Int) (x2 : Row) : Option R := bif decide (x1 < (x0.length : Int)) then bif decide (0 <= x1) && decide (x1 < (x0.length : Int)) then bif decide (0 <= x1) && decide (x1 < (x2.length : Int)) then g x0 (w64 (x1 + 1)) (setC x2 x1.toNat 0 [CV.s (cvS (cellAt x0 x1.toNat 0)), CV.s (cvS (cellAt x0 x1.toNat 1)), CV.i IntKind.i64 (cvI (cellAt x0 x1.toNat (1 + 1))), CV.i IntKind.i64 (cvI (cellAt x0 x1.toNat (1 + 1 + 1))), CV.i IntKind.i64 (cvI (cellAt x0 x1.toNat (1 + 1 + 1 + 1)))]) else none else none else k0 x0 x1 x2
def l3 {R : Type} (N : Nat) (k0 : F_rir R) : Nat -> F_rir R
 | 0 => fun _ _ _ => none
 | n + 1 => fun x0 x1 x2 => r3 N (l3 N k0 n) k0 x0 x1 x2
theorem q3_bind {R S : Type} (f : R -> Option S) (N : Nat) (k0 : F_rir R) : ∀ n : Nat, (∀ (x0 : Row) (x1 : Int) (x2 : Row), Option.bind (l3 N k0 n x0 x1 x2) f = l3 N (fun y0 y1 y2 => Option.bind (k0 y0 y1 y2) f) n x0 x1 x2) := by
 intro n
 induction n with
 | zero => exact fun _ _ _ => rfl
 | succ n ih =>
  intro x0 x1 x2
  simp only [l3, r3, Lib.B1, Lib.B2, Lib.B3, Lib.B4, ih]
variable {R : Type} (N : Nat) (kr : Row -> Option R) (a0 : Row)
def b : Option R := bif decide ((a0.length : Int) = (a0.length : Int)) && roomy (Int.toNat (a0.length : Int)) 56 then l3 N (fun y3 y4 y5 => kr y5) N a0 0 (zeros [Ck.s, Ck.s, Ck.i IntKind.i64, Ck.i IntKind.i64, Ck.i IntKind.i64] (Int.toNat (a0.length : Int))) else none
theorem b_bind : b N kr a0 = Option.bind (b N (fun r0 => some r0) a0) (fun p => kr p) := by
 unfold b; simp only [Lib.B1, Lib.B2, Lib.B3, Lib.B4, q3_bind]
def vo := b Lib.big (fun r0 => some r0) a0
def c : Bool := Option.isSome (vo a0)
def v := Option.getD (vo a0) ([])
theorem out {x} (h : vo a0 = some x) : c a0 = true /\ v a0 = x := Lib.out_ h
theorem b_eq (hc : c a0 = true) : ∃ N, b N kr a0 = Lib.ap (fun p => kr p) (v a0) := ⟨Lib.big, Lib.bq hc (by apply b_bind)⟩
end Go.FG.U31

namespace Go.FG.U71
def b {R : Type} (kr : F_isiiisi R) (a0 : Int) (a1 : ByteArray) (a2 a3 a4 : Int) (a5 : ByteArray) (a6 : Int) : Option R := kr a0 a1 a2 a3 a4 a5 a6
def v (a0 : Int) (a1 : ByteArray) (a2 a3 a4 : Int) (a5 : ByteArray) (a6 : Int) : Int × ByteArray × Int × Int × Int × ByteArray × Int := (a0, a1, a2, a3, a4, a5, a6)
theorem b_eq {R : Type} (kr : F_isiiisi R) (a0 : Int) (a1 : ByteArray) (a2 a3 a4 : Int) (a5 : ByteArray) (a6 : Int) : b kr a0 a1 a2 a3 a4 a5 a6 = kr ((v a0 a1 a2 a3 a4 a5 a6).1) ((v a0 a1 a2 a3 a4 a5 a6).2.1) ((v a0 a1 a2 a3 a4 a5 a6).2.2.1) ((v a0 a1 a2 a3 a4 a5 a6).2.2.2.1) ((v a0 a1 a2 a3 a4 a5 a6).2.2.2.2.1) ((v a0 a1 a2 a3 a4 a5 a6).2.2.2.2.2.1) ((v a0 a1 a2 a3 a4 a5 a6).2.2.2.2.2.2) := by
 first | rfl | (unfold b v; simp only [Bool.cond_eq_ite]; (repeat' split) <;> rfl)
end Go.FG.U71

namespace Go.FG.U32
def r3 {R : Type} (N : Nat) (g k0 : F_rir R) (x0 : Row) (x1 : Int) (x2 : Row) : Option R := bif decide (x1 < (x0.length : Int)) then bif decide (0 <= x1) && decide (x1 < (x0.length : Int)) then bif decide (0 <= x1) && decide (x1 < (x2.length : Int)) then g x0 (w64 (x1 + 1)) (setC x2 x1.toNat 0 [CV.i IntKind.i64 (cvI (cellAt x0 x1.toNat 0)), CV.s (cvS (cellAt x0 x1.toNat 1)), CV.i IntKind.i64 (cvI (cellAt x0 x1.toNat (1 + 1))), CV.i IntKind.i64 (cvI (cellAt x0 x1.toNat (1 + 1 + 1))), CV.i IntKind.i64 (cvI (cellAt x0 x1.toNat (1 + 1 + 1 + 1))), CV.s (cvS (cellAt x0 x1.toNat (1 + 1 + 1 + 1 + 1))), CV.i IntKind.i64 (cvI (cellAt x0 x1.toNat (1 + 1 + 1 + 1 + 1 + 1)))]) else none else none else k0 x0 x1 x2
def l3 {R : Type} (N : Nat) (k0 : F_rir R) : Nat -> F_rir R
 | 0 => fun _ _ _ => none
 | n + 1 => fun x0 x1 x2 => r3 N (l3 N k0 n) k0 x0 x1 x2
theorem q3_bind {R S : Type} (f : R -> Option S) (N : Nat) (k0 : F_rir R) : ∀ n : Nat, (∀ (x0 : Row) (x1 : Int) (x2 : Row), Option.bind (l3 N k0 n x0 x1 x2) f = l3 N (fun y0 y1 y2 => Option.bind (k0 y0 y1 y2) f) n x0 x1 x2) := by
 intro n
 induction n with
 | zero => exact fun _ _ _ => rfl
 | succ n ih =>
  intro x0 x1 x2
  simp only [l3, r3, Lib.B1, Lib.B2, Lib.B3, Lib.B4, ih]
variable {R : Type} (N : Nat) (kr : Row -> Option R) (a0 : Row)
def b : Option R := bif decide ((a0.length : Int) = (a0.length : Int)) && roomy (Int.toNat (a0.length : Int)) 72 then l3 N (fun y3 y4 y5 => kr y5) N a0 0 (zeros [Ck.i IntKind.i64, Ck.s, Ck.i IntKind.i64, Ck.i IntKind.i64, Ck.i IntKind.i64, Ck.s, Ck.i IntKind.i64] (Int.toNat (a0.length : Int))) else none
theorem b_bind : b N kr a0 = Option.bind (b N (fun r0 => some r0) a0) (fun p => kr p) := by
 unfold b; simp only [Lib.B1, Lib.B2, Lib.B3, Lib.B4, q3_bind]
def vo := b Lib.big (fun r0 => some r0) a0
def c : Bool := Option.isSome (vo a0)
def v := Option.getD (vo a0) ([])
theorem out {x} (h : vo a0 = some x) : c a0 = true /\ v a0 = x := Lib.out_ h
theorem b_eq (hc : c a0 = true) : ∃ N, b N kr a0 = Lib.ap (fun p => kr p) (v a0) := ⟨Lib.big, Lib.bq hc (by apply b_bind)⟩
end Go.FG.U32

namespace Go.FG.U9
variable {R : Type} (kr : F_irrrrirri R) (a0 : Int) (a1 a2 a3 a4 : Row) (a5 : Int) (a6 a7 : Row) (a8 : Int)
def b : Option R := bif U18.c a1 then bif U30.c a2 a3 a4 a5 then bif U31.c a6 then bif U32.c a7 then kr a0 (U18.v a1) ((U30.v a2 a3 a4 a5).1) ((U30.v a2 a3 a4 a5).2.1) ((U30.v a2 a3 a4 a5).2.2.1) ((U30.v a2 a3 a4 a5).2.2.2) (U31.v a6) (U32.v a7) a8 else none else none else none else none
def vo := b (fun r0 r1 r2 r3 r4 r5 r6 r7 r8 => some (r0, r1, r2, r3, r4, r5, r6, r7, r8)) a0 a1 a2 a3 a4 a5 a6 a7 a8
def c : Bool := Option.isSome (vo a0 a1 a2 a3 a4 a5 a6 a7 a8)
def v := Option.getD (vo a0 a1 a2 a3 a4 a5 a6 a7 a8) (0, [], [], [], [], 0, [], [], 0)
theorem out {x} (h : vo a0 a1 a2 a3 a4 a5 a6 a7 a8 = some x) : c a0 a1 a2 a3 a4 a5 a6 a7 a8 = true /\ v a0 a1 a2 a3 a4 a5 a6 a7 a8 = x := Lib.out_ h
theorem b_eq (hc : c a0 a1 a2 a3 a4 a5 a6 a7 a8 = true) : b kr a0 a1 a2 a3 a4 a5 a6 a7 a8 = Lib.ap (fun p => kr p.1 p.2.1 p.2.2.1 p.2.2.2.1 p.2.2.2.2.1 p.2.2.2.2.2.1 p.2.2.2.2.2.2.1 p.2.2.2.2.2.2.2.1 p.2.2.2.2.2.2.2.2) (v a0 a1 a2 a3 a4 a5 a6 a7 a8) := Lib.bq hc (by unfold vo b; simp only [Lib.B1, Lib.B2, Lib.B3, Lib.B4])
end Go.FG.U9

namespace Go.FG.U101
def r3 {R : Type} (N : Nat) (g : F_iriii R) (g1 : F_iriiir R) (k0 : F_iriii R) (k1 : F_iriiir R) (x0 : Int) (x1 : Row) (x2 x3 x4 : Int) : Option R := bif decide (x0 < (x1.length : Int)) then bif decide (0 <= x0) && decide (x0 < (x1.length : Int)) then bif roomy (List.length (zeros [Ck.i IntKind.i64] 0) + List.length (cvL (cellAt x1 x0.toNat 0))) 8 then g1 (w64 (x0 + 1)) x1 x2 x3 x4 ([] ++ List.set (zeros [Ck.l 3] 1) 0 [CV.l 3 (zeros [Ck.i IntKind.i64] 0 ++ cvL (cellAt x1 x0.toNat 0))]) else none else none else k0 x0 x1 x2 x3 x4
def r3a {R : Type} (N : Nat) (g : F_iriii R) (g1 : F_iriiir R) (k0 : F_iriii R) (k1 : F_iriiir R) (x5 : Int) (x6 : Row) (x7 x8 x9 : Int) (x10 : Row) : Option R := bif decide (x5 < (x6.length : Int)) then bif decide (0 <= x5) && decide (x5 < (x6.length : Int)) then bif roomy (List.length (zeros [Ck.i IntKind.i64] 0) + List.length (cvL (cellAt x6 x5.toNat 0))) 8 then bif roomy (x10.length + List.length (List.set (zeros [Ck.l 3] 1) 0 [CV.l 3 (zeros [Ck.i IntKind.i64] 0 ++ cvL (cellAt x6 x5.toNat 0))])) 24 then g1 (w64 (x5 + 1)) x6 x7 x8 x9 (x10 ++ List.set (zeros [Ck.l 3] 1) 0 [CV.l 3 (zeros [Ck.i IntKind.i64] 0 ++ cvL (cellAt x6 x5.toNat 0))]) else none else none else none else k1 x5 x6 x7 x8 x9 x10
def l3a {R : Type} (N : Nat) (k0 : F_iriii R) (k1 : F_iriiir R) : Nat -> F_iriiir R
 | 0 => fun _ _ _ _ _ _ => none
 | n + 1 => fun x5 x6 x7 x8 x9 x10 => r3a N (fun x0 x1 x2 x3 x4 => none) (l3a N k0 k1 n) k0 k1 x5 x6 x7 x8 x9 x10
def l3 {R : Type} (N : Nat) (k0 : F_iriii R) (k1 : F_iriiir R) : Nat -> F_iriii R
 | 0 => fun _ _ _ _ _ => none
 | n + 1 => fun x0 x1 x2 x3 x4 => r3 N (l3 N k0 k1 n) (l3a N k0 k1 n) k0 k1 x0 x1 x2 x3 x4
theorem q3_bind {R S : Type} (f : R -> Option S) (N : Nat) (k0 : F_iriii R) (k1 : F_iriiir R) : ∀ n : Nat, (∀ (x0 : Int) (x1 : Row) (x2 x3 x4 : Int), Option.bind (l3 N k0 k1 n x0 x1 x2 x3 x4) f = l3 N (fun y0 y1 y2 y3 y4 => Option.bind (k0 y0 y1 y2 y3 y4) f) (fun y0 y1 y2 y3 y4 y5 => Option.bind (k1 y0 y1 y2 y3 y4 y5) f) n x0 x1 x2 x3 x4) /\ (∀ (x5 : Int) (x6 : Row) (x7 x8 x9 : Int) (x10 : Row), Option.bind (l3a N k0 k1 n x5 x6 x7 x8 x9 x10) f = l3a N (fun y0 y1 y2 y3 y4 => Option.bind (k0 y0 y1 y2 y3 y4) f) (fun y0 y1 y2 y3 y4 y5 => Option.bind (k1 y0 y1 y2 y3 y4 y5) f) n x5 x6 x7 x8 x9 x10) := by
 intro n
 induction n with
 | zero => exact ⟨(fun _ _ _ _ _ => rfl), (fun _ _ _ _ _ _ => rfl)⟩
 | succ n ih =>
  refine ⟨?_, ?_⟩
  ·intro x0 x1 x2 x3 x4
   simp only [l3, r3, Lib.B1, Lib.B2, Lib.B3, Lib.B4, ih.1, ih.2]
  ·intro x5 x6 x7 x8 x9 x10
   simp only [l3a, r3a, Lib.B1, Lib.B2, Lib.B3, Lib.B4, ih.1, ih.2]
theorem l3_bind {R S : Type} (f : R -> Option S) (N : Nat) (k0 : F_iriii R) (k1 : F_iriiir R) (n : Nat) (x0 : Int) (x1 : Row) (x2 x3 x4 : Int) : Option.bind (l3 N k0 k1 n x0 x1 x2 x3 x4) f = l3 N (fun y0 y1 y2 y3 y4 => Option.bind (k0 y0 y1 y2 y3 y4) f) (fun y0 y1 y2 y3 y4 y5 => Option.bind (k1 y0 y1 y2 y3 y4 y5) f) n x0 x1 x2 x3 x4 := (q3_bind f N k0 k1 n).1 x0 x1 x2 x3 x4
theorem l3a_bind {R S : Type} (f : R -> Option S) (N : Nat) (k0 : F_iriii R) (k1 : F_iriiir R) (n : Nat) (x5 : Int) (x6 : Row) (x7 x8 x9 : Int) (x10 : Row) : Option.bind (l3a N k0 k1 n x5 x6 x7 x8 x9 x10) f = l3a N (fun y0 y1 y2 y3 y4 => Option.bind (k0 y0 y1 y2 y3 y4) f) (fun y0 y1 y2 y3 y4 y5 => Option.bind (k1 y0 y1 y2 y3 y4 y5) f) n x5 x6 x7 x8 x9 x10 := (q3_bind f N k0 k1 n).2 x5 x6 x7 x8 x9 x10
variable {R : Type} (N : Nat) (kr : F_ri R) (a0 : Row) (a1 : Int)
def b : Option R := l3 N (fun y22 y23 y24 y25 y26 => kr [] y26) (fun y27 y28 y29 y30 y31 y32 => kr y32 y31) N 0 a0 a1 0 a1
theorem b_bind : b N kr a0 a1 = Option.bind (b N (fun r0 r1 => some (r0, r1)) a0 a1) (fun p => kr p.1 p.2) := by
 unfold b; simp only [Lib.B1, Lib.B2, Lib.B3, Lib.B4, l3_bind, l3a_bind]
def vo := b Lib.big (fun r0 r1 => some (r0, r1)) a0 a1
def c : Bool := Option.isSome (vo a0 a1)
def v := Option.getD (vo a0 a1) ([], 0)
theorem out {x} (h : vo a0 a1 = some x) : c a0 a1 = true /\ v a0 a1 = x := Lib.out_ h
theorem b_eq (hc : c a0 a1 = true) : ∃ N, b N kr a0 a1 = Lib.ap (fun p => kr p.1 p.2) (v a0 a1) := ⟨Lib.big, Lib.bq hc (by apply b_bind)⟩
end Go.FG.U101

namespace Go.FG.U66
variable {R : Type} (kr : F_rrri R) (a0 a1 a2 : Row) (a3 : Int)
def b : Option R := bif roomy (List.length (zeros [Ck.s] 0) + a0.length) 16 then bif roomy (List.length (zeros [Ck.s] 0) + a1.length) 16 then bif U101.c a2 a3 then kr (zeros [Ck.s] 0 ++ a0) (zeros [Ck.s] 0 ++ a1) ((U101.v a2 a3).1) ((U101.v a2 a3).2) else none else none else none
def vo := b (fun r0 r1 r2 r3 => some (r0, r1, r2, r3)) a0 a1 a2 a3
def c : Bool := Option.isSome (vo a0 a1 a2 a3)
def v := Option.getD (vo a0 a1 a2 a3) ([], [], [], 0)
theorem out {x} (h : vo a0 a1 a2 a3 = some x) : c a0 a1 a2 a3 = true /\ v a0 a1 a2 a3 = x := Lib.out_ h
theorem b_eq (hc : c a0 a1 a2 a3 = true) : b kr a0 a1 a2 a3 = Lib.ap (fun p => kr p.1 p.2.1 p.2.2.1 p.2.2.2) (v a0 a1 a2 a3) := Lib.bq hc (by unfold vo b; simp only [Lib.B1, Lib.B2, Lib.B3, Lib.B4])
end Go.FG.U66

namespace Go.FG.U27
variable {R : Type} (kr : F_irrrrirri R) (a0 : Int) (a1 a2 a3 a4 : Row) (a5 : Int) (a6 a7 : Row) (a8 : Int)
def b : Option R := bif roomy (List.length (zeros [Ck.s, Ck.i IntKind.i64, Ck.i IntKind.i64, Ck.s] 0) + a1.length) 48 then bif U66.c a2 a3 a4 a5 then bif roomy (List.length (zeros [Ck.s, Ck.s, Ck.i IntKind.i64, Ck.i IntKind.i64, Ck.i IntKind.i64] 0) + a6.length) 56 then bif roomy (List.length (zeros [Ck.i IntKind.i64, Ck.s, Ck.i IntKind.i64, Ck.i IntKind.i64, Ck.i IntKind.i64, Ck.s, Ck.i IntKind.i64] 0) + a7.length) 72 then kr a0 (zeros [Ck.s, Ck.i IntKind.i64, Ck.i IntKind.i64, Ck.s] 0 ++ a1) ((U66.v a2 a3 a4 a5).1) ((U66.v a2 a3 a4 a5).2.1) ((U66.v a2 a3 a4 a5).2.2.1) ((U66.v a2 a3 a4 a5).2.2.2) (zeros [Ck.s, Ck.s, Ck.i IntKind.i64, Ck.i IntKind.i64, Ck.i IntKind.i64] 0 ++ a6) (zeros [Ck.i IntKind.i64, Ck.s, Ck.i IntKind.i64, Ck.i IntKind.i64, Ck.i IntKind.i64, Ck.s, Ck.i IntKind.i64] 0 ++ a7) a8 else none else none else none else none
def vo := b (fun r0 r1 r2 r3 r4 r5 r6 r7 r8 => some (r0, r1, r2, r3, r4, r5, r6, r7, r8)) a0 a1 a2 a3 a4 a5 a6 a7 a8
def c : Bool := Option.isSome (vo a0 a1 a2 a3 a4 a5 a6 a7 a8)
def v := Option.getD (vo a0 a1 a2 a3 a4 a5 a6 a7 a8) (0, [], [], [], [], 0, [], [], 0)
theorem out {x} (h : vo a0 a1 a2 a3 a4 a5 a6 a7 a8 = some x) : c a0 a1 a2 a3 a4 a5 a6 a7 a8 = true /\ v a0 a1 a2 a3 a4 a5 a6 a7 a8 = x := Lib.out_ h
theorem b_eq (hc : c a0 a1 a2 a3 a4 a5 a6 a7 a8 = true) : b kr a0 a1 a2 a3 a4 a5 a6 a7 a8 = Lib.ap (fun p => kr p.1 p.2.1 p.2.2.1 p.2.2.2.1 p.2.2.2.2.1 p.2.2.2.2.2.1 p.2.2.2.2.2.2.1 p.2.2.2.2.2.2.2.1 p.2.2.2.2.2.2.2.2) (v a0 a1 a2 a3 a4 a5 a6 a7 a8) := Lib.bq hc (by unfold vo b; simp only [Lib.B1, Lib.B2, Lib.B3, Lib.B4])
end Go.FG.U27

namespace Go.FG.U60
def b {R : Type} (kr : Bool -> Option R) (a0 a1 a2 : Int) : Option R := bif decide (a0 ≥ a1) then kr (decide (a0 <= a2)) else kr false
def v (a0 a1 a2 : Int) : Bool := bif decide (a0 ≥ a1) then decide (a0 <= a2) else false
theorem b_eq {R : Type} (kr : Bool -> Option R) (a0 a1 a2 : Int) : b kr a0 a1 a2 = kr (v a0 a1 a2) := by
 first | rfl | (unfold b v; simp only [Bool.cond_eq_ite]; (repeat' split) <;> rfl)
end Go.FG.U60

namespace Go.FG.U88
def b {R : Type} (kr : Bool -> Option R) (a0 : ByteArray) : Option R := kr (U60.v (a0.size : Int) 1 30)
def v (a0 : ByteArray) : Bool := (U60.v (a0.size : Int) 1 30)
theorem b_eq {R : Type} (kr : Bool -> Option R) (a0 : ByteArray) : b kr a0 = kr (v a0) := by
 first | rfl | (unfold b v; simp only [Bool.cond_eq_ite]; (repeat' split) <;> rfl)
end Go.FG.U88

namespace Go.FG.U51
def b {R : Type} (kr : Bool -> Option R) (a0 : ByteArray) (a1 a2 : Int) (a3 : ByteArray) : Option R := bif U88.v a0 then bif U60.v a1 0 1000000000 then bif U60.v a2 1 999999 then kr (decide ((a3.size : Int) <= 400)) else kr false else kr false else kr false
def v (a0 : ByteArray) (a1 a2 : Int) (a3 : ByteArray) : Bool := bif U88.v a0 then bif U60.v a1 0 1000000000 then bif U60.v a2 1 999999 then decide ((a3.size : Int) <= 400) else false else false else false
theorem b_eq {R : Type} (kr : Bool -> Option R) (a0 : ByteArray) (a1 a2 : Int) (a3 : ByteArray) : b kr a0 a1 a2 a3 = kr (v a0 a1 a2 a3) := by
 first | rfl | (unfold b v; simp only [Bool.cond_eq_ite]; (repeat' split) <;> rfl)
end Go.FG.U51

namespace Go.FG.U116
def r2 {R : Type} (N : Nat) (g k0 k1 : F_rsbi R) (x0 : Row) (x1 : ByteArray) (x2 : Bool) (x3 : Int) : Option R := bif decide (x3 < (x0.length : Int)) then bif decide (0 <= x3) && decide (x3 < (x0.length : Int)) then bif List.beq (ByteArray.toList (cvS (cellAt x0 x3.toNat 0))) (ByteArray.toList x1) then k0 x0 x1 true x3 else g x0 x1 x2 (w64 (x3 + 1)) else none else k1 x0 x1 x2 x3
def l2 {R : Type} (N : Nat) (k0 k1 : F_rsbi R) : Nat -> F_rsbi R
 | 0 => fun _ _ _ _ => none
 | n + 1 => fun x0 x1 x2 x3 => r2 N (l2 N k0 k1 n) k0 k1 x0 x1 x2 x3
theorem q2_bind {R S : Type} (f : R -> Option S) (N : Nat) (k0 k1 : F_rsbi R) : ∀ n : Nat, (∀ (x0 : Row) (x1 : ByteArray) (x2 : Bool) (x3 : Int), Option.bind (l2 N k0 k1 n x0 x1 x2 x3) f = l2 N (fun y0 y1 y2 y3 => Option.bind (k0 y0 y1 y2 y3) f) (fun y0 y1 y2 y3 => Option.bind (k1 y0 y1 y2 y3) f) n x0 x1 x2 x3) := by
 intro n
 induction n with
 | zero => exact fun _ _ _ _ => rfl
 | succ n ih =>
  intro x0 x1 x2 x3
  simp only [l2, r2, Lib.B1, Lib.B2, Lib.B3, Lib.B4, ih]
variable {R : Type} (N : Nat) (kr : Bool -> Option R) (a0 : Row) (a1 : ByteArray)
def b : Option R := l2 N (fun y4 y5 y6 y7 => kr y6) (fun y8 y9 y10 y11 => kr false) N a0 a1 false 0
theorem b_bind : b N kr a0 a1 = Option.bind (b N (fun r0 => some r0) a0 a1) (fun p => kr p) := by
 unfold b; simp only [Lib.B1, Lib.B2, Lib.B3, Lib.B4, q2_bind]
def vo := b Lib.big (fun r0 => some r0) a0 a1
def c : Bool := Option.isSome (vo a0 a1)
def v := Option.getD (vo a0 a1) false
theorem out {x} (h : vo a0 a1 = some x) : c a0 a1 = true /\ v a0 a1 = x := Lib.out_ h
theorem b_eq (hc : c a0 a1 = true) : ∃ N, b N kr a0 a1 = Lib.ap (fun p => kr p) (v a0 a1) := ⟨Lib.big, Lib.bq hc (by apply b_bind)⟩
end Go.FG.U116

namespace Go.FG.U91
def b {R : Type} (kr : Bool -> Option R) (a0 a1 a2 : Row) (a3 : Int) (a4 : ByteArray) : Option R := bif U116.c a0 a4 then bif U116.v a0 a4 then kr true else bif U116.c a1 a4 then kr (U116.v a1 a4) else none else none
variable {R : Type} (kr : Bool -> Option R) (a0 a1 a2 : Row) (a3 : Int) (a4 : ByteArray)
def vo := b (fun r0 => some r0) a0 a1 a2 a3 a4
def c : Bool := Option.isSome (vo a0 a1 a2 a3 a4)
def v := Option.getD (vo a0 a1 a2 a3 a4) false
theorem out {x} (h : vo a0 a1 a2 a3 a4 = some x) : c a0 a1 a2 a3 a4 = true /\ v a0 a1 a2 a3 a4 = x := Lib.out_ h
theorem b_eq (hc : c a0 a1 a2 a3 a4 = true) : b kr a0 a1 a2 a3 a4 = Lib.ap (fun p => kr p) (v a0 a1 a2 a3 a4) := Lib.bq hc (by unfold vo b; simp only [Lib.B1, Lib.B2, Lib.B3, Lib.B4])
end Go.FG.U91

namespace Go.FG.U137
def r9 {R : Type} (N : Nat) (g k0 k1 : F_biiri R) (x4 : Bool) (x5 x6 : Int) (x7 : Row) (x8 : Int) : Option R := bif decide (0 <= x5) && decide (x5 < (x7.length : Int)) then bif decide (x6 < (↑(List.length (cvL (cellAt x7 x5.toNat 0))) : Int)) then bif decide (0 <= x5) && decide (x5 < (x7.length : Int)) then bif decide (0 <= x6) && decide (x6 < (↑(List.length (cvL (cellAt x7 x5.toNat 0))) : Int)) then bif !U60.v (cvI (cellAt (cvL (cellAt x7 x5.toNat 0)) x6.toNat 0)) 0 15 then k0 false x5 x6 x7 x8 else g x4 x5 (w64 (x6 + 1)) x7 x8 else none else none else k1 x4 x5 x6 x7 x8 else none
def l9 {R : Type} (N : Nat) (k0 k1 : F_biiri R) : Nat -> F_biiri R
 | 0 => fun _ _ _ _ _ => none
 | n + 1 => fun x4 x5 x6 x7 x8 => r9 N (l9 N k0 k1 n) k0 k1 x4 x5 x6 x7 x8
def r4 {R : Type} (N : Nat) (g k0 k1 : F_biri R) (x0 : Bool) (x1 : Int) (x2 : Row) (x3 : Int) : Option R := bif decide (x1 < (x2.length : Int)) then bif decide (0 <= x1) && decide (x1 < (x2.length : Int)) then bif (↑(List.length (cvL (cellAt x2 x1.toNat 0))) : Int) != 16 then k0 false x1 x2 x3 else l9 N (fun y9 y10 y11 y12 y13 => k0 y9 y10 y12 y13) (fun y14 y15 y16 y17 y18 => g y14 (w64 (y15 + 1)) y17 y18) N x0 x1 0 x2 x3 else none else k1 x0 x1 x2 x3
def l4 {R : Type} (N : Nat) (k0 k1 : F_biri R) : Nat -> F_biri R
 | 0 => fun _ _ _ _ => none
 | n + 1 => fun x0 x1 x2 x3 => r4 N (l4 N k0 k1 n) k0 k1 x0 x1 x2 x3
theorem q9_bind {R S : Type} (f : R -> Option S) (N : Nat) (k0 k1 : F_biiri R) : ∀ n : Nat, (∀ (x4 : Bool) (x5 x6 : Int) (x7 : Row) (x8 : Int), Option.bind (l9 N k0 k1 n x4 x5 x6 x7 x8) f = l9 N (fun y0 y1 y2 y3 y4 => Option.bind (k0 y0 y1 y2 y3 y4) f) (fun y0 y1 y2 y3 y4 => Option.bind (k1 y0 y1 y2 y3 y4) f) n x4 x5 x6 x7 x8) := by
 intro n
 induction n with
 | zero => exact fun _ _ _ _ _ => rfl
 | succ n ih =>
  intro x4 x5 x6 x7 x8
  simp only [l9, r9, Lib.B1, Lib.B2, Lib.B3, Lib.B4, ih]
theorem q4_bind {R S : Type} (f : R -> Option S) (N : Nat) (k0 k1 : F_biri R) : ∀ n : Nat, (∀ (x0 : Bool) (x1 : Int) (x2 : Row) (x3 : Int), Option.bind (l4 N k0 k1 n x0 x1 x2 x3) f = l4 N (fun y0 y1 y2 y3 => Option.bind (k0 y0 y1 y2 y3) f) (fun y0 y1 y2 y3 => Option.bind (k1 y0 y1 y2 y3) f) n x0 x1 x2 x3) := by
 intro n
 induction n with
 | zero => exact fun _ _ _ _ => rfl
 | succ n ih =>
  intro x0 x1 x2 x3
  simp only [l4, r4, Lib.B1, Lib.B2, Lib.B3, Lib.B4, ih, q9_bind]
variable {R : Type} (N : Nat) (kr : Bool -> Option R) (a0 : Row) (a1 : Int)
def b : Option R := bif (a0.length : Int) != 3 then kr false else bif !U60.v a1 0 63 then kr false else l4 N (fun y19 y20 y21 y22 => kr y19) (fun y23 y24 y25 y26 => kr true) N false 0 a0 a1
theorem b_bind : b N kr a0 a1 = Option.bind (b N (fun r0 => some r0) a0 a1) (fun p => kr p) := by
 unfold b; simp only [Lib.B1, Lib.B2, Lib.B3, Lib.B4, q9_bind, q4_bind]
def vo := b Lib.big (fun r0 => some r0) a0 a1
def c : Bool := Option.isSome (vo a0 a1)
def v := Option.getD (vo a0 a1) false
theorem out {x} (h : vo a0 a1 = some x) : c a0 a1 = true /\ v a0 a1 = x := Lib.out_ h
theorem b_eq (hc : c a0 a1 = true) : ∃ N, b N kr a0 a1 = Lib.ap (fun p => kr p) (v a0 a1) := ⟨Lib.big, Lib.bq hc (by apply b_bind)⟩
end Go.FG.U137

namespace Go.FG.U114
def r3 {R : Type} (N : Nat) (g k0 k1 : F_birrrir R) (x0 : Bool) (x1 : Int) (x2 x3 x4 : Row) (x5 : Int) (x6 : Row) : Option R := bif decide (x1 < (x6.length : Int)) then bif decide (0 <= x1) && decide (x1 < (x6.length : Int)) then bif !U88.v (cvS (cellAt x6 x1.toNat 0)) then k0 false x1 x2 x3 x4 x5 x6 else bif inB 0 x1 (x6.length : Int) then bif decide (0 <= x1) && decide (x1 < (x6.length : Int)) then bif U116.c (view x6 (Int.toNat 0) x1.toNat) (cvS (cellAt x6 x1.toNat 0)) then bif U116.v (view x6 (Int.toNat 0) x1.toNat) (cvS (cellAt x6 x1.toNat 0)) then k0 false x1 x2 x3 x4 x5 x6 else g x0 (w64 (x1 + 1)) x2 x3 x4 x5 x6 else none else none else none else none else k1 x0 x1 x2 x3 x4 x5 x6
def l3 {R : Type} (N : Nat) (k0 k1 : F_birrrir R) : Nat -> F_birrrir R
 | 0 => fun _ _ _ _ _ _ _ => none
 | n + 1 => fun x0 x1 x2 x3 x4 x5 x6 => r3 N (l3 N k0 k1 n) k0 k1 x0 x1 x2 x3 x4 x5 x6
theorem q3_bind {R S : Type} (f : R -> Option S) (N : Nat) (k0 k1 : F_birrrir R) : ∀ n : Nat, (∀ (x0 : Bool) (x1 : Int) (x2 x3 x4 : Row) (x5 : Int) (x6 : Row), Option.bind (l3 N k0 k1 n x0 x1 x2 x3 x4 x5 x6) f = l3 N (fun y0 y1 y2 y3 y4 y5 y6 => Option.bind (k0 y0 y1 y2 y3 y4 y5 y6) f) (fun y0 y1 y2 y3 y4 y5 y6 => Option.bind (k1 y0 y1 y2 y3 y4 y5 y6) f) n x0 x1 x2 x3 x4 x5 x6) := by
 intro n
 induction n with
 | zero => exact fun _ _ _ _ _ _ _ => rfl
 | succ n ih =>
  intro x0 x1 x2 x3 x4 x5 x6
  simp only [l3, r3, Lib.B1, Lib.B2, Lib.B3, Lib.B4, ih]
variable {R : Type} (N : Nat) (kr : Bool -> Option R) (a0 a1 a2 : Row) (a3 : Int)
def b : Option R := bif roomy (List.length (zeros [Ck.s] 0) + a0.length) 16 then bif roomy (List.length (zeros [Ck.s] 0 ++ a0) + a1.length) 16 then l3 N (fun y7 y8 y9 y10 y11 y12 y13 => kr y7) (fun y14 y15 y16 y17 y18 y19 y20 => bif decide ((y16.length : Int) <= 2) then bif decide ((y17.length : Int) <= 4) then bif U137.c y18 y19 then kr (U137.v y18 y19) else none else kr false else kr false) N false 0 a0 a1 a2 a3 (zeros [Ck.s] 0 ++ a0 ++ a1) else none else none
theorem b_bind : b N kr a0 a1 a2 a3 = Option.bind (b N (fun r0 => some r0) a0 a1 a2 a3) (fun p => kr p) := by
 unfold b; simp only [Lib.B1, Lib.B2, Lib.B3, Lib.B4, q3_bind]
def vo := b Lib.big (fun r0 => some r0) a0 a1 a2 a3
def c : Bool := Option.isSome (vo a0 a1 a2 a3)
def v := Option.getD (vo a0 a1 a2 a3) false
theorem out {x} (h : vo a0 a1 a2 a3 = some x) : c a0 a1 a2 a3 = true /\ v a0 a1 a2 a3 = x := Lib.out_ h
theorem b_eq (hc : c a0 a1 a2 a3 = true) : ∃ N, b N kr a0 a1 a2 a3 = Lib.ap (fun p => kr p) (v a0 a1 a2 a3) := ⟨Lib.big, Lib.bq hc (by apply b_bind)⟩
end Go.FG.U114

namespace Go.FG.U102
def r2 {R : Type} (N : Nat) (g k0 k1 : F_biirrrrirri R) (x0 : Bool) (x1 x2 : Int) (x3 x4 x5 x6 : Row) (x7 : Int) (x8 x9 : Row) (x10 : Int) : Option R := bif decide (x1 < (x3.length : Int)) then bif decide (0 <= x1) && decide (x1 < (x3.length : Int)) then bif !U51.v (cvS (cellAt x3 x1.toNat 0)) (cvI (cellAt x3 x1.toNat 1)) (cvI (cellAt x3 x1.toNat (1 + 1))) (cvS (cellAt x3 x1.toNat (1 + 1 + 1))) then k0 false x1 x2 x3 x4 x5 x6 x7 x8 x9 x10 else bif decide (x1 > 0) then bif decide (0 <= w64 (x1 - 1)) && decide (w64 (x1 - 1) < (x3.length : Int)) then bif decide (0 <= x1) && decide (x1 < (x3.length : Int)) then bif !Go.Op.bytesLess (ByteArray.toList (cvS (cellAt x3 (Int.toNat (w64 (x1 - 1))) 0))) (ByteArray.toList (cvS (cellAt x3 x1.toNat 0))) then k0 false x1 x2 x3 x4 x5 x6 x7 x8 x9 x10 else bif decide (0 <= x1) && decide (x1 < (x3.length : Int)) then bif U91.c x4 x5 x6 x7 (cvS (cellAt x3 x1.toNat 0)) then bif !U91.v x4 x5 x6 x7 (cvS (cellAt x3 x1.toNat 0)) then k0 false x1 x2 x3 x4 x5 x6 x7 x8 x9 x10 else g x0 (w64 (x1 + 1)) x2 x3 x4 x5 x6 x7 x8 x9 x10 else none else none else none else none else bif decide (0 <= x1) && decide (x1 < (x3.length : Int)) then bif U91.c x4 x5 x6 x7 (cvS (cellAt x3 x1.toNat 0)) then bif !U91.v x4 x5 x6 x7 (cvS (cellAt x3 x1.toNat 0)) then k0 false x1 x2 x3 x4 x5 x6 x7 x8 x9 x10 else g x0 (w64 (x1 + 1)) x2 x3 x4 x5 x6 x7 x8 x9 x10 else none else none else none else k1 x0 x1 x2 x3 x4 x5 x6 x7 x8 x9 x10
def l2 {R : Type} (N : Nat) (k0 k1 : F_biirrrrirri R) : Nat -> F_biirrrrirri R
 | 0 => fun _ _ _ _ _ _ _ _ _ _ _ => none
 | n + 1 => fun x0 x1 x2 x3 x4 x5 x6 x7 x8 x9 x10 => r2 N (l2 N k0 k1 n) k0 k1 x0 x1 x2 x3 x4 x5 x6 x7 x8 x9 x10
theorem q2_bind {R S : Type} (f : R -> Option S) (N : Nat) (k0 k1 : F_biirrrrirri R) : ∀ n : Nat, (∀ (x0 : Bool) (x1 x2 : Int) (x3 x4 x5 x6 : Row) (x7 : Int) (x8 x9 : Row) (x10 : Int), Option.bind (l2 N k0 k1 n x0 x1 x2 x3 x4 x5 x6 x7 x8 x9 x10) f = l2 N (fun y0 y1 y2 y3 y4 y5 y6 y7 y8 y9 y10 => Option.bind (k0 y0 y1 y2 y3 y4 y5 y6 y7 y8 y9 y10) f) (fun y0 y1 y2 y3 y4 y5 y6 y7 y8 y9 y10 => Option.bind (k1 y0 y1 y2 y3 y4 y5 y6 y7 y8 y9 y10) f) n x0 x1 x2 x3 x4 x5 x6 x7 x8 x9 x10) := by
 intro n
 induction n with
 | zero => exact fun _ _ _ _ _ _ _ _ _ _ _ => rfl
 | succ n ih =>
  intro x0 x1 x2 x3 x4 x5 x6 x7 x8 x9 x10
  simp only [l2, r2, Lib.B1, Lib.B2, Lib.B3, Lib.B4, ih]
variable {R : Type} (N : Nat) (kr : Bool -> Option R) (a0 : Int) (a1 a2 a3 a4 : Row) (a5 : Int) (a6 a7 : Row) (a8 : Int)
def b : Option R := l2 N (fun y11 y12 y13 y14 y15 y16 y17 y18 y19 y20 y21 => kr y11) (fun y22 y23 y24 y25 y26 y27 y28 y29 y30 y31 y32 => bif U114.c y26 y27 y28 y29 then bif U114.v y26 y27 y28 y29 then kr (decide ((y25.length : Int) = w64 ((y26.length : Int) + (y27.length : Int)))) else kr false else none) N false 0 a0 a1 a2 a3 a4 a5 a6 a7 a8
theorem b_bind : b N kr a0 a1 a2 a3 a4 a5 a6 a7 a8 = Option.bind (b N (fun r0 => some r0) a0 a1 a2 a3 a4 a5 a6 a7 a8) (fun p => kr p) := by
 unfold b; simp only [Lib.B1, Lib.B2, Lib.B3, Lib.B4, q2_bind]
def vo := b Lib.big (fun r0 => some r0) a0 a1 a2 a3 a4 a5 a6 a7 a8
def c : Bool := Option.isSome (vo a0 a1 a2 a3 a4 a5 a6 a7 a8)
def v := Option.getD (vo a0 a1 a2 a3 a4 a5 a6 a7 a8) false
theorem out {x} (h : vo a0 a1 a2 a3 a4 a5 a6 a7 a8 = some x) : c a0 a1 a2 a3 a4 a5 a6 a7 a8 = true /\ v a0 a1 a2 a3 a4 a5 a6 a7 a8 = x := Lib.out_ h
theorem b_eq (hc : c a0 a1 a2 a3 a4 a5 a6 a7 a8 = true) : ∃ N, b N kr a0 a1 a2 a3 a4 a5 a6 a7 a8 = Lib.ap (fun p => kr p) (v a0 a1 a2 a3 a4 a5 a6 a7 a8) := ⟨Lib.big, Lib.bq hc (by apply b_bind)⟩
end Go.FG.U102

namespace Go.FG.U103
def r5 {R : Type} (N : Nat) (g k0 k1 : F_ibiirrrrirrissiii R) (x0 : Int) (x1 : Bool) (x2 x3 : Int) (x4 x5 x6 x7 : Row) (x8 : Int) (x9 x10 : Row) (x11 : Int) (x12 x13 : ByteArray) (x14 x15 x16 : Int) : Option R := bif decide (x2 < x0) then bif decide (0 <= x2) && decide (x2 < (x9.length : Int)) then bif List.beq (ByteArray.toList (cvS (cellAt x9 x2.toNat 0))) (ByteArray.toList x12) then bif decide (0 <= x2) && decide (x2 < (x9.length : Int)) then bif decide (cvI (cellAt x9 x2.toNat 2) = 1) then bif decide (x14 = 1) then k0 x0 false x2 x3 x4 x5 x6 x7 x8 x9 x10 x11 x12 x13 x14 x15 x16 else g x0 x1 (w64 (x2 + 1)) x3 x4 x5 x6 x7 x8 x9 x10 x11 x12 x13 x14 x15 x16 else g x0 x1 (w64 (x2 + 1)) x3 x4 x5 x6 x7 x8 x9 x10 x11 x12 x13 x14 x15 x16 else none else g x0 x1 (w64 (x2 + 1)) x3 x4 x5 x6 x7 x8 x9 x10 x11 x12 x13 x14 x15 x16 else none else k1 x0 x1 x2 x3 x4 x5 x6 x7 x8 x9 x10 x11 x12 x13 x14 x15 x16
def l5 {R : Type} (N : Nat) (k0 k1 : F_ibiirrrrirrissiii R) : Nat -> F_ibiirrrrirrissiii R
 | 0 => fun _ _ _ _ _ _ _ _ _ _ _ _ _ _ _ _ _ => none
 | n + 1 => fun x0 x1 x2 x3 x4 x5 x6 x7 x8 x9 x10 x11 x12 x13 x14 x15 x16 => r5 N (l5 N k0 k1 n) k0 k1 x0 x1 x2 x3 x4 x5 x6 x7 x8 x9 x10 x11 x12 x13 x14 x15 x16
theorem q5_bind {R S : Type} (f : R -> Option S) (N : Nat) (k0 k1 : F_ibiirrrrirrissiii R) : ∀ n : Nat, (∀ (x0 : Int) (x1 : Bool) (x2 x3 : Int) (x4 x5 x6 x7 : Row) (x8 : Int) (x9 x10 : Row) (x11 : Int) (x12 x13 : ByteArray) (x14 x15 x16 : Int), Option.bind (l5 N k0 k1 n x0 x1 x2 x3 x4 x5 x6 x7 x8 x9 x10 x11 x12 x13 x14 x15 x16) f = l5 N (fun y0 y1 y2 y3 y4 y5 y6 y7 y8 y9 y10 y11 y12 y13 y14 y15 y16 => Option.bind (k0 y0 y1 y2 y3 y4 y5 y6 y7 y8 y9 y10 y11 y12 y13 y14 y15 y16) f) (fun y0 y1 y2 y3 y4 y5 y6 y7 y8 y9 y10 y11 y12 y13 y14 y15 y16 => Option.bind (k1 y0 y1 y2 y3 y4 y5 y6 y7 y8 y9 y10 y11 y12 y13 y14 y15 y16) f) n x0 x1 x2 x3 x4 x5 x6 x7 x8 x9 x10 x11 x12 x13 x14 x15 x16) := by
 intro n
 induction n with
 | zero => exact fun _ _ _ _ _ _ _ _ _ _ _ _ _ _ _ _ _ => rfl
 | succ n ih =>
  intro x0 x1 x2 x3 x4 x5 x6 x7 x8 x9 x10 x11 x12 x13 x14 x15 x16
  simp only [l5, r5, Lib.B1, Lib.B2, Lib.B3, Lib.B4, ih]
variable {R : Type} (N : Nat) (kr : Bool -> Option R) (a0 : Int) (a1 a2 a3 a4 : Row) (a5 : Int) (a6 a7 : Row) (a8 a9 : Int)
def b : Option R := bif decide (0 <= a9) && decide (a9 < (a6.length : Int)) then bif !U88.v (cvS (cellAt a6 a9.toNat 0)) then kr false else bif decide ((↑(ByteArray.size (cvS (cellAt a6 a9.toNat 1))) : Int) > 400) then kr false else bif !U60.v (cvI (cellAt a6 a9.toNat (1 + 1))) 1 3 then kr false else bif !U60.v (cvI (cellAt a6 a9.toNat (1 + 1 + 1))) 0 999999 then kr false else bif !U60.v (cvI (cellAt a6 a9.toNat (1 + 1 + 1 + 1))) 0 a0 then kr false else l5 N (fun y17 y18 y19 y20 y21 y22 y23 y24 y25 y26 y27 y28 y29 y30 y31 y32 y33 => kr y18) (fun y34 y35 y36 y37 y38 y39 y40 y41 y42 y43 y44 y45 y46 y47 y48 y49 y50 => kr true) N a9 false 0 a0 a1 a2 a3 a4 a5 a6 a7 a8 (cvS (cellAt a6 a9.toNat 0)) (cvS (cellAt a6 a9.toNat 1)) (cvI (cellAt a6 a9.toNat (1 + 1))) (cvI (cellAt a6 a9.toNat (1 + 1 + 1))) (cvI (cellAt a6 a9.toNat (1 + 1 + 1 + 1))) else none
theorem b_bind : b N kr a0 a1 a2 a3 a4 a5 a6 a7 a8 a9 = Option.bind (b N (fun r0 => some r0) a0 a1 a2 a3 a4 a5 a6 a7 a8 a9) (fun p => kr p) := by
 unfold b; simp only [Lib.B1, Lib.B2, Lib.B3, Lib.B4, q5_bind]
def vo := b Lib.big (fun r0 => some r0) a0 a1 a2 a3 a4 a5 a6 a7 a8 a9
def c : Bool := Option.isSome (vo a0 a1 a2 a3 a4 a5 a6 a7 a8 a9)
def v := Option.getD (vo a0 a1 a2 a3 a4 a5 a6 a7 a8 a9) false
theorem out {x} (h : vo a0 a1 a2 a3 a4 a5 a6 a7 a8 a9 = some x) : c a0 a1 a2 a3 a4 a5 a6 a7 a8 a9 = true /\ v a0 a1 a2 a3 a4 a5 a6 a7 a8 a9 = x := Lib.out_ h
theorem b_eq (hc : c a0 a1 a2 a3 a4 a5 a6 a7 a8 a9 = true) : ∃ N, b N kr a0 a1 a2 a3 a4 a5 a6 a7 a8 a9 = Lib.ap (fun p => kr p) (v a0 a1 a2 a3 a4 a5 a6 a7 a8 a9) := ⟨Lib.big, Lib.bq hc (by apply b_bind)⟩
end Go.FG.U103

namespace Go.FG.U67
def r9 {R : Type} (N : Nat) (g k0 k1 : F_biirrrrirri R) (x33 : Bool) (x34 x35 : Int) (x36 x37 x38 x39 : Row) (x40 : Int) (x41 x42 : Row) (x43 : Int) : Option R := bif decide (x34 < (x42.length : Int)) then bif decide (0 <= x34) && decide (x34 < (x42.length : Int)) then bif !U60.v (cvI (cellAt x42 x34.toNat 0)) 1 9 then k0 false x34 x35 x36 x37 x38 x39 x40 x41 x42 x43 else bif decide (x34 > 0) then bif decide (0 <= w64 (x34 - 1)) && decide (w64 (x34 - 1) < (x42.length : Int)) then bif decide (cvI (cellAt x42 (Int.toNat (w64 (x34 - 1))) 0) ≥ cvI (cellAt x42 x34.toNat 0)) then k0 false x34 x35 x36 x37 x38 x39 x40 x41 x42 x43 else bif !U88.v (cvS (cellAt x42 x34.toNat 1)) then k0 false x34 x35 x36 x37 x38 x39 x40 x41 x42 x43 else bif !U60.v (cvI (cellAt x42 x34.toNat (1 + 1 + 1 + 1))) 1 3 then k0 false x34 x35 x36 x37 x38 x39 x40 x41 x42 x43 else bif !U60.v (cvI (cellAt x42 x34.toNat (1 + 1))) 0 (x41.length : Int) then k0 false x34 x35 x36 x37 x38 x39 x40 x41 x42 x43 else bif decide ((↑(ByteArray.size (cvS (cellAt x42 x34.toNat (1 + 1 + 1 + 1 + 1)))) : Int) > 400) then k0 false x34 x35 x36 x37 x38 x39 x40 x41 x42 x43 else bif !U60.v (cvI (cellAt x42 x34.toNat (1 + 1 + 1))) 0 x35 then k0 false x34 x35 x36 x37 x38 x39 x40 x41 x42 x43 else bif decide (cvI (cellAt x42 x34.toNat (1 + 1 + 1 + 1 + 1 + 1)) < 0) then k0 false x34 x35 x36 x37 x38 x39 x40 x41 x42 x43 else g x33 (w64 (x34 + 1)) x35 x36 x37 x38 x39 x40 x41 x42 x43 else none else bif !U88.v (cvS (cellAt x42 x34.toNat 1)) then k0 false x34 x35 x36 x37 x38 x39 x40 x41 x42 x43 else bif !U60.v (cvI (cellAt x42 x34.toNat (1 + 1 + 1 + 1))) 1 3 then k0 false x34 x35 x36 x37 x38 x39 x40 x41 x42 x43 else bif !U60.v (cvI (cellAt x42 x34.toNat (1 + 1))) 0 (x41.length : Int) then k0 false x34 x35 x36 x37 x38 x39 x40 x41 x42 x43 else bif decide ((↑(ByteArray.size (cvS (cellAt x42 x34.toNat (1 + 1 + 1 + 1 + 1)))) : Int) > 400) then k0 false x34 x35 x36 x37 x38 x39 x40 x41 x42 x43 else bif !U60.v (cvI (cellAt x42 x34.toNat (1 + 1 + 1))) 0 x35 then k0 false x34 x35 x36 x37 x38 x39 x40 x41 x42 x43 else bif decide (cvI (cellAt x42 x34.toNat (1 + 1 + 1 + 1 + 1 + 1)) < 0) then k0 false x34 x35 x36 x37 x38 x39 x40 x41 x42 x43 else g x33 (w64 (x34 + 1)) x35 x36 x37 x38 x39 x40 x41 x42 x43 else none else k1 x33 x34 x35 x36 x37 x38 x39 x40 x41 x42 x43
def l9 {R : Type} (N : Nat) (k0 k1 : F_biirrrrirri R) : Nat -> F_biirrrrirri R
 | 0 => fun _ _ _ _ _ _ _ _ _ _ _ => none
 | n + 1 => fun x33 x34 x35 x36 x37 x38 x39 x40 x41 x42 x43 => r9 N (l9 N k0 k1 n) k0 k1 x33 x34 x35 x36 x37 x38 x39 x40 x41 x42 x43
def r4 {R : Type} (N : Nat) (g k0 k1 : F_biirrrrirri R) (x0 : Bool) (x1 x2 : Int) (x3 x4 x5 x6 : Row) (x7 : Int) (x8 x9 : Row) (x10 : Int) : Option R := bif decide (x1 < (x8.length : Int)) then bif U103.c x2 x3 x4 x5 x6 x7 x8 x9 x10 x1 then bif !U103.v x2 x3 x4 x5 x6 x7 x8 x9 x10 x1 then k0 false x1 x2 x3 x4 x5 x6 x7 x8 x9 x10 else g x0 (w64 (x1 + 1)) x2 x3 x4 x5 x6 x7 x8 x9 x10 else none else k1 x0 x1 x2 x3 x4 x5 x6 x7 x8 x9 x10
def l4 {R : Type} (N : Nat) (k0 k1 : F_biirrrrirri R) : Nat -> F_biirrrrirri R
 | 0 => fun _ _ _ _ _ _ _ _ _ _ _ => none
 | n + 1 => fun x0 x1 x2 x3 x4 x5 x6 x7 x8 x9 x10 => r4 N (l4 N k0 k1 n) k0 k1 x0 x1 x2 x3 x4 x5 x6 x7 x8 x9 x10
theorem q9_bind {R S : Type} (f : R -> Option S) (N : Nat) (k0 k1 : F_biirrrrirri R) : ∀ n : Nat, (∀ (x33 : Bool) (x34 x35 : Int) (x36 x37 x38 x39 : Row) (x40 : Int) (x41 x42 : Row) (x43 : Int), Option.bind (l9 N k0 k1 n x33 x34 x35 x36 x37 x38 x39 x40 x41 x42 x43) f = l9 N (fun y0 y1 y2 y3 y4 y5 y6 y7 y8 y9 y10 => Option.bind (k0 y0 y1 y2 y3 y4 y5 y6 y7 y8 y9 y10) f) (fun y0 y1 y2 y3 y4 y5 y6 y7 y8 y9 y10 => Option.bind (k1 y0 y1 y2 y3 y4 y5 y6 y7 y8 y9 y10) f) n x33 x34 x35 x36 x37 x38 x39 x40 x41 x42 x43) := by
 intro n
 induction n with
 | zero => exact fun _ _ _ _ _ _ _ _ _ _ _ => rfl
 | succ n ih =>
  intro x33 x34 x35 x36 x37 x38 x39 x40 x41 x42 x43
  simp only [l9, r9, Lib.B1, Lib.B2, Lib.B3, Lib.B4, ih]
theorem q4_bind {R S : Type} (f : R -> Option S) (N : Nat) (k0 k1 : F_biirrrrirri R) : ∀ n : Nat, (∀ (x0 : Bool) (x1 x2 : Int) (x3 x4 x5 x6 : Row) (x7 : Int) (x8 x9 : Row) (x10 : Int), Option.bind (l4 N k0 k1 n x0 x1 x2 x3 x4 x5 x6 x7 x8 x9 x10) f = l4 N (fun y0 y1 y2 y3 y4 y5 y6 y7 y8 y9 y10 => Option.bind (k0 y0 y1 y2 y3 y4 y5 y6 y7 y8 y9 y10) f) (fun y0 y1 y2 y3 y4 y5 y6 y7 y8 y9 y10 => Option.bind (k1 y0 y1 y2 y3 y4 y5 y6 y7 y8 y9 y10) f) n x0 x1 x2 x3 x4 x5 x6 x7 x8 x9 x10) := by
 intro n
 induction n with
 | zero => exact fun _ _ _ _ _ _ _ _ _ _ _ => rfl
 | succ n ih =>
  intro x0 x1 x2 x3 x4 x5 x6 x7 x8 x9 x10
  simp only [l4, r4, Lib.B1, Lib.B2, Lib.B3, Lib.B4, ih, q9_bind]
variable {R : Type} (N : Nat) (kr : Bool -> Option R) (a0 : Int) (a1 a2 a3 a4 : Row) (a5 : Int) (a6 a7 : Row) (a8 : Int)
def b : Option R := bif !U60.v a0 1 1000000000 then kr false else bif U102.c a0 a1 a2 a3 a4 a5 a6 a7 a8 then bif !U102.v a0 a1 a2 a3 a4 a5 a6 a7 a8 then kr false else bif decide ((a6.length : Int) > 20) then kr false else bif decide ((a7.length : Int) > 6) then kr false else bif !U60.v a8 0 1000000000 then kr false else l4 N (fun y11 y12 y13 y14 y15 y16 y17 y18 y19 y20 y21 => kr y11) (fun y22 y23 y24 y25 y26 y27 y28 y29 y30 y31 y32 => l9 N (fun y44 y45 y46 y47 y48 y49 y50 y51 y52 y53 y54 => kr y44) (fun y55 y56 y57 y58 y59 y60 y61 y62 y63 y64 y65 => kr true) N y22 0 y24 y25 y26 y27 y28 y29 y30 y31 y32) N false 0 a0 a1 a2 a3 a4 a5 a6 a7 a8 else none
theorem b_bind : b N kr a0 a1 a2 a3 a4 a5 a6 a7 a8 = Option.bind (b N (fun r0 => some r0) a0 a1 a2 a3 a4 a5 a6 a7 a8) (fun p => kr p) := by
 unfold b; simp only [Lib.B1, Lib.B2, Lib.B3, Lib.B4, q9_bind, q4_bind]
def vo := b Lib.big (fun r0 => some r0) a0 a1 a2 a3 a4 a5 a6 a7 a8
def c : Bool := Option.isSome (vo a0 a1 a2 a3 a4 a5 a6 a7 a8)
def v := Option.getD (vo a0 a1 a2 a3 a4 a5 a6 a7 a8) false
theorem out {x} (h : vo a0 a1 a2 a3 a4 a5 a6 a7 a8 = some x) : c a0 a1 a2 a3 a4 a5 a6 a7 a8 = true /\ v a0 a1 a2 a3 a4 a5 a6 a7 a8 = x := Lib.out_ h
theorem b_eq (hc : c a0 a1 a2 a3 a4 a5 a6 a7 a8 = true) : ∃ N, b N kr a0 a1 a2 a3 a4 a5 a6 a7 a8 = Lib.ap (fun p => kr p) (v a0 a1 a2 a3 a4 a5 a6 a7 a8) := ⟨Lib.big, Lib.bq hc (by apply b_bind)⟩
end Go.FG.U67

namespace Go.FG.U28
variable {R : Type} (kr : Bool -> Option R) (a0 : Int) (a1 a2 a3 a4 : Row) (a5 : Int) (a6 a7 : Row) (a8 a9 : Int)
def b : Option R := bif U67.c a0 a1 a2 a3 a4 a5 a6 a7 a8 then bif U67.v a0 a1 a2 a3 a4 a5 a6 a7 a8 then bif U60.v a9 0 (w64 ((a6.length : Int) - 1)) then bif decide (0 <= a9) && decide (a9 < (a6.length : Int)) then kr (decide (cvI (cellAt a6 a9.toNat 2) = 1)) else none else kr false else kr false else none
def vo := b (fun r0 => some r0) a0 a1 a2 a3 a4 a5 a6 a7 a8 a9
def c : Bool := Option.isSome (vo a0 a1 a2 a3 a4 a5 a6 a7 a8 a9)
def v := Option.getD (vo a0 a1 a2 a3 a4 a5 a6 a7 a8 a9) false
theorem out {x} (h : vo a0 a1 a2 a3 a4 a5 a6 a7 a8 a9 = some x) : c a0 a1 a2 a3 a4 a5 a6 a7 a8 a9 = true /\ v a0 a1 a2 a3 a4 a5 a6 a7 a8 a9 = x := Lib.out_ h
theorem b_eq (hc : c a0 a1 a2 a3 a4 a5 a6 a7 a8 a9 = true) : b kr a0 a1 a2 a3 a4 a5 a6 a7 a8 a9 = Lib.ap (fun p => kr p) (v a0 a1 a2 a3 a4 a5 a6 a7 a8 a9) := Lib.bq hc (by unfold vo b; simp only [Lib.B1, Lib.B2, Lib.B3, Lib.B4])
end Go.FG.U28

namespace Go.FG.U83
def b {R : Type} (kr : F_isr R) (a0 : Int) (a1 : ByteArray) (a2 : Row) : Option R := bif roomy (List.length (zeros [Ck.i IntKind.i64, Ck.i IntKind.i64] 0) + a2.length) 16 then kr a0 a1 (zeros [Ck.i IntKind.i64, Ck.i IntKind.i64] 0 ++ a2) else none
def v (s0_0 : Int) (s0_1 : ByteArray) (s0_2 : Row) : Int × ByteArray × Row := (s0_0, s0_1, s0_2)
def c (s0_0 : Int) (s0_1 : ByteArray) (s0_2 : Row) : Bool := decide (s0_2.length <= 4294967296)
theorem b_eq {R : Type} (kr : F_isr R) (s0_0 : Int) (s0_1 : ByteArray) (s0_2 : Row) (hc : c s0_0 s0_1 s0_2 = true) : b kr s0_0 s0_1 s0_2 = kr (v s0_0 s0_1 s0_2).1 (v s0_0 s0_1 s0_2).2.1 (v s0_0 s0_1 s0_2).2.2 := by
 have h : s0_2.length <= 4294967296 := of_decide_eq_true hc
 unfold b
 rw [show List.length (zeros [Ck.i IntKind.i64, Ck.i IntKind.i64] 0) + s0_2.length = s0_2.length by simp [zeros], Lib.roomy_of (by omega) (by omega)]
 rfl
end Go.FG.U83

namespace Go.FG.U84
def r2 {R : Type} (N : Nat) (g k0 k1 : F_biisr R) (x0 : Bool) (x1 x2 : Int) (x3 : ByteArray) (x4 : Row) : Option R := bif decide (x1 < (x4.length : Int)) then bif decide (0 <= x1) && decide (x1 < (x4.length : Int)) then bif !U60.v (cvI (cellAt x4 x1.toNat 0)) 1 9 then k0 false x1 x2 x3 x4 else bif decide (x1 > 0) then bif decide (0 <= w64 (x1 - 1)) && decide (w64 (x1 - 1) < (x4.length : Int)) then bif decide (cvI (cellAt x4 (Int.toNat (w64 (x1 - 1))) 0) ≥ cvI (cellAt x4 x1.toNat 0)) then k0 false x1 x2 x3 x4 else bif !U60.v (cvI (cellAt x4 x1.toNat 1)) 0 (x3.size : Int) then k0 false x1 x2 x3 x4 else g x0 (w64 (x1 + 1)) x2 x3 x4 else none else bif !U60.v (cvI (cellAt x4 x1.toNat 1)) 0 (x3.size : Int) then k0 false x1 x2 x3 x4 else g x0 (w64 (x1 + 1)) x2 x3 x4 else none else k1 x0 x1 x2 x3 x4
def l2 {R : Type} (N : Nat) (k0 k1 : F_biisr R) : Nat -> F_biisr R
 | 0 => fun _ _ _ _ _ => none
 | n + 1 => fun x0 x1 x2 x3 x4 => r2 N (l2 N k0 k1 n) k0 k1 x0 x1 x2 x3 x4
def b {R : Type} (N : Nat) (kr : Bool -> Option R) (a0 : Int) (a1 : ByteArray) (a2 : Row) : Option R := l2 N (fun y5 y6 y7 y8 y9 => kr y5) (fun y10 y11 y12 y13 y14 => bif U60.v y12 1 3 then bif decide ((y13.size : Int) <= 400) then kr (decide ((y14.length : Int) <= 6)) else kr false else kr false) N false 0 a0 a1 a2
def el (t : ByteArray) (rs : Row) (i : Nat) : Bool := decide (1 <= cvI (cellAt rs i 0) /\ cvI (cellAt rs i 0) <= 9) && (decide (0 <= cvI (cellAt rs i 1) /\ cvI (cellAt rs i 1) <= t.size) && (i == 0 || decide (cvI (cellAt rs (i - 1) 0) < cvI (cellAt rs i 0))))
def rest (st : Int) (t : ByteArray) (rs : Row) : Bool := decide (1 <= st /\ st <= 3) && (decide (t.size <= 400) && decide (rs.length <= 6))
def v (s0_0 : Int) (s0_1 : ByteArray) (s0_2 : Row) : Bool := (List.range s0_2.length).all (el s0_1 s0_2) && rest s0_0 s0_1 s0_2
theorem in_eq (n a b : Int) : U60.v n a b = decide (a <= n /\ n <= b) := by
 unfold U60.v
 by_cases h : a <= n <;> by_cases h2 : n <= b <;> simp [h, h2]
theorem rest_eq (st : Int) (t : ByteArray) (rs : Row) {R : Type} (kr : Bool -> Option R) : (bif U60.v st 1 3 then bif decide ((t.size : Int) <= 400) then kr (decide ((rs.length : Int) <= 6)) else kr false else kr false) = kr (rest st t rs) := by
 unfold rest
 rw [in_eq]
 have e1 : decide ((t.size : Int) <= 400) = decide (t.size <= 400) := by rw [decide_eq_decide]; omega
 have e2 : decide ((rs.length : Int) <= 6) = decide (rs.length <= 6) := by rw [decide_eq_decide]; omega
 rw [e1, e2]
 cases decide (1 <= st /\ st <= 3) <;> cases decide (t.size <= 400) <;> rfl
theorem w64_p {i : Nat} (h : 0 < i) (hn : i <= 9223372036854775807) : w64 ((i : Int) - 1) = ((i - 1 : Nat) : Int) := by
 rw [w64_eq (by omega) (by omega)]; omega
theorem all_from (p : Nat -> Bool) {i n : Nat} (h : i < n) : (List.range' i (n - i)).all p = (p i && (List.range' (i + 1) (n - (i + 1))).all p) := by
 rw [show n - i = (n - (i + 1)) + 1 by omega, List.range'_succ, List.all_cons]
theorem b_eq {R : Type} (kr : Bool -> Option R) (s0_0 : Int) (s0_1 : ByteArray) (s0_2 : Row) (f0 : okS s0_1) (f1 : FitR s0_2) : ∃ N, b N kr s0_0 s0_1 s0_2 = kr (v s0_0 s0_1 s0_2) := by
 refine ⟨s0_2.length + 1, ?_⟩
 unfold b
 simp only [rest_eq]
 have := Lib.loop_gen (fun n (i : Nat) => l2 (s0_2.length + 1) (fun y5 y6 y7 y8 y9 => kr y5) (fun y10 y11 y12 y13 y14 => kr (rest y12 y13 y14)) n false i s0_0 s0_1 s0_2) (fun i => s0_2.length - i) (fun i => i <= s0_2.length)
  (fun i => kr ((List.range' i (s0_2.length - i)).all (el s0_1 s0_2) && rest s0_0 s0_1 s0_2)) (fun n i hi => by
  simp only [l2, r2, Lib.dlt, Lib.dle0, Lib.toN, Bool.true_and, in_eq]
  by_cases h : i < s0_2.length
  ·rw [all_from _ h]
   simp only [h, decide_true, cond_true, Lib.w64_s h f1.1]
   cases h1 : decide (1 <= cvI (cellAt s0_2 i 0) /\ cvI (cellAt s0_2 i 0) <= 9) with
   | false => left; simp [el, h1]
   | true =>
    simp only [Bool.not_true, cond_false]
    by_cases hz : 0 < i
    ·have e0 : decide ((i : Int) > 0) = true := by simp; omega
     have hp : i - 1 < s0_2.length := by omega
     have hi0 : (i == 0) = false := by simp; omega
     simp only [e0, cond_true, w64_p hz (by have := f1.1; omega), Lib.dle0, Lib.dlt, Lib.toN, hp, decide_true, Bool.and_self]
     cases h2 : decide (cvI (cellAt s0_2 (i - 1) 0) ≥ cvI (cellAt s0_2 i 0)) with
     | true =>
      left
      have e3 : decide (cvI (cellAt s0_2 (i - 1) 0) < cvI (cellAt s0_2 i 0)) = false := by simp at h2 ⊢; omega
      simp [el, e3, hi0]
     | false =>
      have e3 : decide (cvI (cellAt s0_2 (i - 1) 0) < cvI (cellAt s0_2 i 0)) = true := by simp at h2 ⊢; omega
      cases h3 : decide (0 <= cvI (cellAt s0_2 i 1) /\ cvI (cellAt s0_2 i 1) <= s0_1.size) with
      | false => left; simp [el, h3]
      | true => right; exact ⟨i + 1, h, by omega, by simp only [el, h1, h3, e3, Bool.or_true, Bool.true_and], rfl⟩
    ·have hz : i = 0 := by omega
     subst hz
     simp only [show decide (((0 : Nat) : Int) > 0) = false from rfl, cond_false]
     cases h3 : decide (0 <= cvI (cellAt s0_2 0 1) /\ cvI (cellAt s0_2 0 1) <= s0_1.size) with
     | false => left; simp [el, h3]
     | true => right; exact ⟨1, h, by omega, by simp only [el, h1, h3, Bool.true_and]; rfl, rfl⟩
  ·left
   have h0 : s0_2.length - i = 0 := by omega
   simp only [h, decide_false, cond_false, h0, List.range'_zero, List.all_nil, Bool.true_and]) (s0_2.length + 1) 0 (by omega) (by omega)
 refine this.trans ?_
 unfold v
 rw [Nat.sub_zero, <- List.range_eq_range']
end Go.FG.U84

namespace Go.FG.U46
def b {R : Type} (kr : F_isrb R) (a0 : Int) (a1 : ByteArray) (a2 : Row) (a3 : ByteArray) : Option R := bif U83.c a0 a1 a2 then bif !U84.v a0 a1 a2 then kr a0 a1 a2 false else bif a0 != 1 then kr a0 a1 a2 false else bif !U60.v (a3.size : Int) 1 40 then kr a0 a1 a2 false else bif decide (w64 ((a1.size : Int) + (a3.size : Int)) > 400) then kr a0 a1 a2 false else bif decide (a1.size + a3.size <= 4611686018427387904) then kr a0 (a1 ++ a3) a2 true else none else none
def v (s0_0 : Int) (s0_1 : ByteArray) (s0_2 : Row) (part1 : ByteArray) : Int × ByteArray × Row × Bool :=
 if U84.v s0_0 s0_1 s0_2 = true /\ s0_0 = 1 /\ 1 <= part1.size /\ part1.size <= 40 /\ s0_1.size + part1.size <= 400 then (s0_0, s0_1 ++ part1, s0_2, true) else (s0_0, s0_1, s0_2, false)
def c (s0_0 : Int) (s0_1 : ByteArray) (s0_2 : Row) (part1 : ByteArray) : Bool := decide (s0_2.length <= 4294967296)
theorem b_eq {R : Type} (kr : F_isrb R) (s0_0 : Int) (s0_1 : ByteArray) (s0_2 : Row) (part1 : ByteArray) (hc : c s0_0 s0_1 s0_2 part1 = true) (f0 : okS s0_1) (f1 : FitR s0_2) (f2 : okS part1) : b kr s0_0 s0_1 s0_2 part1 = kr (v s0_0 s0_1 s0_2 part1).1 (v s0_0 s0_1 s0_2 part1).2.1 (v s0_0 s0_1 s0_2 part1).2.2.1 (v s0_0 s0_1 s0_2 part1).2.2.2 := by
 have hs1 : s0_1.size <= 4611686018427387904 := f0
 have hs2 : part1.size <= 4611686018427387904 := f2
 have e1 : U83.c s0_0 s0_1 s0_2 = true := hc
 have e2 : ∀ a b c, U84.v a b c = U84.v a b c := fun _ _ _ => rfl
 have e3 : ∀ n a b, U60.v n a b = decide (a <= n /\ n <= b) := U84.in_eq
 unfold b v
 rw [e1, e2, e3, cond_true]
 cases h1 : U84.v s0_0 s0_1 s0_2 with
 | false => simp
 | true =>
  by_cases h2 : s0_0 = 1
  ·by_cases h3 : 1 <= (part1.size : Int) /\ (part1.size : Int) <= 40
   ·have e4 : w64 ((s0_1.size : Int) + (part1.size : Int)) = s0_1.size + part1.size := w64_eq (by omega) (by omega)
    rw [e4, decide_eq_true h3]
    by_cases h4 : (s0_1.size : Int) + (part1.size : Int) > 400
    ·rw [Lib.dec_t h4, if_neg (by omega)]; simp [h2]
    ·rw [Lib.dec_f h4, if_pos (by refine ⟨rfl, h2, ?_, ?_, ?_⟩ <;> omega), Lib.dec_t (show s0_1.size + part1.size <= 4611686018427387904 by omega)]; simp [h2]
   ·rw [decide_eq_false h3, if_neg (by omega)]; simp
  ·have hne : (s0_0 != 1) = true := bne_iff_ne.mpr h2
   rw [if_neg (by simp [h2]), hne]; rfl
end Go.FG.U46

namespace Go.FG.U29
def r1 {R : Type} (N : Nat) (g k0 : F_iiiiiirrrrrr R) (x0 x1 x2 x3 x4 x5 : Int) (x6 x7 x8 x9 x10 x11 : Row) : Option R := bif decide (x2 < (x11.length : Int)) then bif decide (0 <= x2) && decide (x2 < (x11.length : Int)) then bif decide (cvI (cellAt x11 x2.toNat 2) = w64 (x0 + 1)) then bif decide (0 <= x2) && decide (x2 < (x11.length : Int)) then bif decide (cvI (cellAt x11 x2.toNat 4) = 1) then bif decide (0 <= x0) && decide (x0 < (x10.length : Int)) then bif decide (0 <= x2) && decide (x2 < (x11.length : Int)) then bif decide (0 <= x2) && decide (x2 < (↑(List.length (setC x11 x2.toNat 5 [CV.s (cvS (cellAt x10 x0.toNat 1))])) : Int)) then g x0 x1 (w64 (x2 + 1)) x3 x4 x5 x6 x7 x8 x9 x10 (setC (setC x11 x2.toNat 5 [CV.s (cvS (cellAt x10 x0.toNat 1))]) x2.toNat 4 [CV.i IntKind.i64 x1]) else none else none else none else g x0 x1 (w64 (x2 + 1)) x3 x4 x5 x6 x7 x8 x9 x10 x11 else none else g x0 x1 (w64 (x2 + 1)) x3 x4 x5 x6 x7 x8 x9 x10 x11 else none else k0 x0 x1 x2 x3 x4 x5 x6 x7 x8 x9 x10 x11
def l1 {R : Type} (N : Nat) (k0 : F_iiiiiirrrrrr R) : Nat -> F_iiiiiirrrrrr R
 | 0 => fun _ _ _ _ _ _ _ _ _ _ _ _ => none
 | n + 1 => fun x0 x1 x2 x3 x4 x5 x6 x7 x8 x9 x10 x11 => r1 N (l1 N k0 n) k0 x0 x1 x2 x3 x4 x5 x6 x7 x8 x9 x10 x11
theorem q1_bind {R S : Type} (f : R -> Option S) (N : Nat) (k0 : F_iiiiiirrrrrr R) : ∀ n : Nat, (∀ (x0 x1 x2 x3 x4 x5 : Int) (x6 x7 x8 x9 x10 x11 : Row), Option.bind (l1 N k0 n x0 x1 x2 x3 x4 x5 x6 x7 x8 x9 x10 x11) f = l1 N (fun y0 y1 y2 y3 y4 y5 y6 y7 y8 y9 y10 y11 => Option.bind (k0 y0 y1 y2 y3 y4 y5 y6 y7 y8 y9 y10 y11) f) n x0 x1 x2 x3 x4 x5 x6 x7 x8 x9 x10 x11) := by
 intro n
 induction n with
 | zero => exact fun _ _ _ _ _ _ _ _ _ _ _ _ => rfl
 | succ n ih =>
  intro x0 x1 x2 x3 x4 x5 x6 x7 x8 x9 x10 x11
  simp only [l1, r1, Lib.B1, Lib.B2, Lib.B3, Lib.B4, ih]
variable {R : Type} (N : Nat) (kr : F_irrrrirri R) (a0 : Int) (a1 a2 a3 a4 : Row) (a5 : Int) (a6 a7 : Row) (a8 a9 a10 : Int)
def b : Option R := l1 N (fun y12 y13 y14 y15 y16 y17 y18 y19 y20 y21 y22 y23 => kr y15 y18 y19 y20 y21 y16 y22 y23 y17) N a9 a10 0 a0 a5 a8 a1 a2 a3 a4 a6 a7
theorem b_bind : b N kr a0 a1 a2 a3 a4 a5 a6 a7 a8 a9 a10 = Option.bind (b N (fun r0 r1 r2 r3 r4 r5 r6 r7 r8 => some (r0, r1, r2, r3, r4, r5, r6, r7, r8)) a0 a1 a2 a3 a4 a5 a6 a7 a8 a9 a10) (fun p => kr p.1 p.2.1 p.2.2.1 p.2.2.2.1 p.2.2.2.2.1 p.2.2.2.2.2.1 p.2.2.2.2.2.2.1 p.2.2.2.2.2.2.2.1 p.2.2.2.2.2.2.2.2) := by
 unfold b; simp only [Lib.B1, Lib.B2, Lib.B3, Lib.B4, q1_bind]
def vo := b Lib.big (fun r0 r1 r2 r3 r4 r5 r6 r7 r8 => some (r0, r1, r2, r3, r4, r5, r6, r7, r8)) a0 a1 a2 a3 a4 a5 a6 a7 a8 a9 a10
def c : Bool := Option.isSome (vo a0 a1 a2 a3 a4 a5 a6 a7 a8 a9 a10)
def v := Option.getD (vo a0 a1 a2 a3 a4 a5 a6 a7 a8 a9 a10) (0, [], [], [], [], 0, [], [], 0)
theorem out {x} (h : vo a0 a1 a2 a3 a4 a5 a6 a7 a8 a9 a10 = some x) : c a0 a1 a2 a3 a4 a5 a6 a7 a8 a9 a10 = true /\ v a0 a1 a2 a3 a4 a5 a6 a7 a8 a9 a10 = x := Lib.out_ h
theorem b_eq (hc : c a0 a1 a2 a3 a4 a5 a6 a7 a8 a9 a10 = true) : ∃ N, b N kr a0 a1 a2 a3 a4 a5 a6 a7 a8 a9 a10 = Lib.ap (fun p => kr p.1 p.2.1 p.2.2.1 p.2.2.2.1 p.2.2.2.2.1 p.2.2.2.2.2.1 p.2.2.2.2.2.2.1 p.2.2.2.2.2.2.2.1 p.2.2.2.2.2.2.2.2) (v a0 a1 a2 a3 a4 a5 a6 a7 a8 a9 a10) := ⟨Lib.big, Lib.bq hc (by apply b_bind)⟩
end Go.FG.U29

namespace Go.FG.U14
variable {R : Type} (kr : F_irrrrirrib R) (a0 : Int) (a1 a2 a3 a4 : Row) (a5 : Int) (a6 a7 : Row) (a8 a9 : Int) (a10 : ByteArray)
def b : Option R := bif U27.c a0 a1 a2 a3 a4 a5 a6 a7 a8 then Lib.lt (U27.v a0 a1 a2 a3 a4 a5 a6 a7 a8) fun t0 => bif U28.c a0 a1 a2 a3 a4 a5 a6 a7 a8 a9 then Lib.lt (U28.v a0 a1 a2 a3 a4 a5 a6 a7 a8 a9) fun t1 => bif !t1 then kr t0.1 t0.2.1 t0.2.2.1 t0.2.2.2.1 t0.2.2.2.2.1 t0.2.2.2.2.2.1 t0.2.2.2.2.2.2.1 t0.2.2.2.2.2.2.2.1 t0.2.2.2.2.2.2.2.2 false else bif decide (0 <= a9) && decide (a9 < (a6.length : Int)) then bif !(U46.v 1 (cvS (cellAt a6 a9.toNat 1)) [] a10).2.2.2 then kr t0.1 t0.2.1 t0.2.2.1 t0.2.2.2.1 t0.2.2.2.2.1 t0.2.2.2.2.2.1 t0.2.2.2.2.2.2.1 t0.2.2.2.2.2.2.2.1 t0.2.2.2.2.2.2.2.2 false else bif decide (0 <= a9) && decide (a9 < (t0.2.2.2.2.2.2.1.length : Int)) then bif U29.c t0.1 t0.2.1 t0.2.2.1 t0.2.2.2.1 t0.2.2.2.2.1 t0.2.2.2.2.2.1 (setC t0.2.2.2.2.2.2.1 a9.toNat 1 [CV.s (U46.v 1 (cvS (cellAt a6 a9.toNat 1)) [] a10).2.1]) t0.2.2.2.2.2.2.2.1 t0.2.2.2.2.2.2.2.2 a9 1 then Lib.lt (U29.v t0.1 t0.2.1 t0.2.2.1 t0.2.2.2.1 t0.2.2.2.2.1 t0.2.2.2.2.2.1 (setC t0.2.2.2.2.2.2.1 a9.toNat 1 [CV.s (U46.v 1 (cvS (cellAt a6 a9.toNat 1)) [] a10).2.1]) t0.2.2.2.2.2.2.2.1 t0.2.2.2.2.2.2.2.2 a9 1) fun t2 => kr t2.1 t2.2.1 t2.2.2.1 t2.2.2.2.1 t2.2.2.2.2.1 t2.2.2.2.2.2.1 t2.2.2.2.2.2.2.1 t2.2.2.2.2.2.2.2.1 t2.2.2.2.2.2.2.2.2 true else none else none else none else none else none
def vo := b (fun r0 r1 r2 r3 r4 r5 r6 r7 r8 r9 => some (r0, r1, r2, r3, r4, r5, r6, r7, r8, r9)) a0 a1 a2 a3 a4 a5 a6 a7 a8 a9 a10
def c : Bool := Option.isSome (vo a0 a1 a2 a3 a4 a5 a6 a7 a8 a9 a10)
def v := Option.getD (vo a0 a1 a2 a3 a4 a5 a6 a7 a8 a9 a10) (0, [], [], [], [], 0, [], [], 0, false)
theorem out {x} (h : vo a0 a1 a2 a3 a4 a5 a6 a7 a8 a9 a10 = some x) : c a0 a1 a2 a3 a4 a5 a6 a7 a8 a9 a10 = true /\ v a0 a1 a2 a3 a4 a5 a6 a7 a8 a9 a10 = x := Lib.out_ h
theorem b_eq (hc : c a0 a1 a2 a3 a4 a5 a6 a7 a8 a9 a10 = true) : b kr a0 a1 a2 a3 a4 a5 a6 a7 a8 a9 a10 = Lib.ap (fun p => kr p.1 p.2.1 p.2.2.1 p.2.2.2.1 p.2.2.2.2.1 p.2.2.2.2.2.1 p.2.2.2.2.2.2.1 p.2.2.2.2.2.2.2.1 p.2.2.2.2.2.2.2.2.1 p.2.2.2.2.2.2.2.2.2) (v a0 a1 a2 a3 a4 a5 a6 a7 a8 a9 a10) := Lib.bq hc (by unfold vo b; simp only [Lib.B1, Lib.B2, Lib.B3, Lib.B4])
end Go.FG.U14

namespace Go.FG.U72
variable {R : Type} (kr : Row -> Option R) (a0 : Row)
def b : Option R := bif roomy (List.length (zeros [Ck.s, Ck.i IntKind.i64, Ck.i IntKind.i64, Ck.s] 0) + a0.length) 48 then kr (zeros [Ck.s, Ck.i IntKind.i64, Ck.i IntKind.i64, Ck.s] 0 ++ a0) else none
def vo := b (fun r0 => some r0) a0
def c : Bool := Option.isSome (vo a0)
def v := Option.getD (vo a0) ([])
theorem out {x} (h : vo a0 = some x) : c a0 = true /\ v a0 = x := Lib.out_ h
theorem b_eq (hc : c a0 = true) : b kr a0 = Lib.ap (fun p => kr p) (v a0) := Lib.bq hc (by unfold vo b; simp only [Lib.B1, Lib.B2, Lib.B3, Lib.B4])
end Go.FG.U72

namespace Go.FG.U105
variable {R : Type} (kr : Row -> Option R) (a0 : Row)
def b : Option R := bif roomy (List.length (zeros [Ck.s] 0) + a0.length) 16 then kr (zeros [Ck.s] 0 ++ a0) else none
def vo := b (fun r0 => some r0) a0
def c : Bool := Option.isSome (vo a0)
def v := Option.getD (vo a0) ([])
theorem out {x} (h : vo a0 = some x) : c a0 = true /\ v a0 = x := Lib.out_ h
theorem b_eq (hc : c a0 = true) : b kr a0 = Lib.ap (fun p => kr p) (v a0) := Lib.bq hc (by unfold vo b; simp only [Lib.B1, Lib.B2, Lib.B3, Lib.B4])
end Go.FG.U105

namespace Go.FG.U132
variable {R : Type} (kr : Row -> Option R) (a0 : Row)
def b : Option R := bif roomy (List.length (zeros [Ck.i IntKind.i64] 0) + a0.length) 8 then kr (zeros [Ck.i IntKind.i64] 0 ++ a0) else none
def vo := b (fun r0 => some r0) a0
def c : Bool := Option.isSome (vo a0)
def v := Option.getD (vo a0) ([])
theorem out {x} (h : vo a0 = some x) : c a0 = true /\ v a0 = x := Lib.out_ h
theorem b_eq (hc : c a0 = true) : b kr a0 = Lib.ap (fun p => kr p) (v a0) := Lib.bq hc (by unfold vo b; simp only [Lib.B1, Lib.B2, Lib.B3, Lib.B4])
end Go.FG.U132

namespace Go.FG.U106
def r3 {R : Type} (N : Nat) (g : F_riiii R) (g1 : F_riiiir R) (k0 : F_riiii R) (k1 : F_riiiir R) (x0 : Row) (x1 x2 x3 x4 : Int) : Option R := bif decide (x2 < x1) then bif decide (0 <= x2) && decide (x2 < (x0.length : Int)) then bif U132.c (cvL (cellAt x0 x2.toNat 0)) then g1 x0 x1 (w64 (x2 + 1)) x3 x4 ([] ++ List.set (zeros [Ck.l 3] 1) 0 [CV.l 3 (U132.v (cvL (cellAt x0 x2.toNat 0)))]) else none else none else k0 x0 x1 x2 x3 x4
def r3a {R : Type} (N : Nat) (g : F_riiii R) (g1 : F_riiiir R) (k0 : F_riiii R) (k1 : F_riiiir R) (x5 : Row) (x6 x7 x8 x9 : Int) (x10 : Row) : Option R := bif decide (x7 < x6) then bif decide (0 <= x7) && decide (x7 < (x5.length : Int)) then bif U132.c (cvL (cellAt x5 x7.toNat 0)) then bif roomy (x10.length + List.length (List.set (zeros [Ck.l 3] 1) 0 [CV.l 3 (U132.v (cvL (cellAt x5 x7.toNat 0)))])) 24 then g1 x5 x6 (w64 (x7 + 1)) x8 x9 (x10 ++ List.set (zeros [Ck.l 3] 1) 0 [CV.l 3 (U132.v (cvL (cellAt x5 x7.toNat 0)))]) else none else none else none else k1 x5 x6 x7 x8 x9 x10
def l3a {R : Type} (N : Nat) (k0 : F_riiii R) (k1 : F_riiiir R) : Nat -> F_riiiir R
 | 0 => fun _ _ _ _ _ _ => none
 | n + 1 => fun x5 x6 x7 x8 x9 x10 => r3a N (fun x0 x1 x2 x3 x4 => none) (l3a N k0 k1 n) k0 k1 x5 x6 x7 x8 x9 x10
def l3 {R : Type} (N : Nat) (k0 : F_riiii R) (k1 : F_riiiir R) : Nat -> F_riiii R
 | 0 => fun _ _ _ _ _ => none
 | n + 1 => fun x0 x1 x2 x3 x4 => r3 N (l3 N k0 k1 n) (l3a N k0 k1 n) k0 k1 x0 x1 x2 x3 x4
theorem q3_bind {R S : Type} (f : R -> Option S) (N : Nat) (k0 : F_riiii R) (k1 : F_riiiir R) : ∀ n : Nat, (∀ (x0 : Row) (x1 x2 x3 x4 : Int), Option.bind (l3 N k0 k1 n x0 x1 x2 x3 x4) f = l3 N (fun y0 y1 y2 y3 y4 => Option.bind (k0 y0 y1 y2 y3 y4) f) (fun y0 y1 y2 y3 y4 y5 => Option.bind (k1 y0 y1 y2 y3 y4 y5) f) n x0 x1 x2 x3 x4) /\ (∀ (x5 : Row) (x6 x7 x8 x9 : Int) (x10 : Row), Option.bind (l3a N k0 k1 n x5 x6 x7 x8 x9 x10) f = l3a N (fun y0 y1 y2 y3 y4 => Option.bind (k0 y0 y1 y2 y3 y4) f) (fun y0 y1 y2 y3 y4 y5 => Option.bind (k1 y0 y1 y2 y3 y4 y5) f) n x5 x6 x7 x8 x9 x10) := by
 intro n
 induction n with
 | zero => exact ⟨(fun _ _ _ _ _ => rfl), (fun _ _ _ _ _ _ => rfl)⟩
 | succ n ih =>
  refine ⟨?_, ?_⟩
  ·intro x0 x1 x2 x3 x4
   simp only [l3, r3, Lib.B1, Lib.B2, Lib.B3, Lib.B4, ih.1, ih.2]
  ·intro x5 x6 x7 x8 x9 x10
   simp only [l3a, r3a, Lib.B1, Lib.B2, Lib.B3, Lib.B4, ih.1, ih.2]
theorem l3_bind {R S : Type} (f : R -> Option S) (N : Nat) (k0 : F_riiii R) (k1 : F_riiiir R) (n : Nat) (x0 : Row) (x1 x2 x3 x4 : Int) : Option.bind (l3 N k0 k1 n x0 x1 x2 x3 x4) f = l3 N (fun y0 y1 y2 y3 y4 => Option.bind (k0 y0 y1 y2 y3 y4) f) (fun y0 y1 y2 y3 y4 y5 => Option.bind (k1 y0 y1 y2 y3 y4 y5) f) n x0 x1 x2 x3 x4 := (q3_bind f N k0 k1 n).1 x0 x1 x2 x3 x4
theorem l3a_bind {R S : Type} (f : R -> Option S) (N : Nat) (k0 : F_riiii R) (k1 : F_riiiir R) (n : Nat) (x5 : Row) (x6 x7 x8 x9 : Int) (x10 : Row) : Option.bind (l3a N k0 k1 n x5 x6 x7 x8 x9 x10) f = l3a N (fun y0 y1 y2 y3 y4 => Option.bind (k0 y0 y1 y2 y3 y4) f) (fun y0 y1 y2 y3 y4 y5 => Option.bind (k1 y0 y1 y2 y3 y4 y5) f) n x5 x6 x7 x8 x9 x10 := (q3_bind f N k0 k1 n).2 x5 x6 x7 x8 x9 x10
variable {R : Type} (N : Nat) (kr : F_ri R) (a0 : Row) (a1 : Int)
def b : Option R := l3 N (fun y22 y23 y24 y25 y26 => kr [] y26) (fun y27 y28 y29 y30 y31 y32 => kr y32 y31) N a0 (a0.length : Int) 0 0 a1
theorem b_bind : b N kr a0 a1 = Option.bind (b N (fun r0 r1 => some (r0, r1)) a0 a1) (fun p => kr p.1 p.2) := by
 unfold b; simp only [Lib.B1, Lib.B2, Lib.B3, Lib.B4, l3_bind, l3a_bind]
def vo := b Lib.big (fun r0 r1 => some (r0, r1)) a0 a1
def c : Bool := Option.isSome (vo a0 a1)
def v := Option.getD (vo a0 a1) ([], 0)
theorem out {x} (h : vo a0 a1 = some x) : c a0 a1 = true /\ v a0 a1 = x := Lib.out_ h
theorem b_eq (hc : c a0 a1 = true) : ∃ N, b N kr a0 a1 = Lib.ap (fun p => kr p.1 p.2) (v a0 a1) := ⟨Lib.big, Lib.bq hc (by apply b_bind)⟩
end Go.FG.U106

namespace Go.FG.U73
variable {R : Type} (kr : F_rrri R) (a0 a1 a2 : Row) (a3 : Int)
def b : Option R := bif U105.c a0 then bif U105.c a1 then bif U106.c a2 a3 then kr (U105.v a0) (U105.v a1) ((U106.v a2 a3).1) ((U106.v a2 a3).2) else none else none else none
def vo := b (fun r0 r1 r2 r3 => some (r0, r1, r2, r3)) a0 a1 a2 a3
def c : Bool := Option.isSome (vo a0 a1 a2 a3)
def v := Option.getD (vo a0 a1 a2 a3) ([], [], [], 0)
theorem out {x} (h : vo a0 a1 a2 a3 = some x) : c a0 a1 a2 a3 = true /\ v a0 a1 a2 a3 = x := Lib.out_ h
theorem b_eq (hc : c a0 a1 a2 a3 = true) : b kr a0 a1 a2 a3 = Lib.ap (fun p => kr p.1 p.2.1 p.2.2.1 p.2.2.2) (v a0 a1 a2 a3) := Lib.bq hc (by unfold vo b; simp only [Lib.B1, Lib.B2, Lib.B3, Lib.B4])
end Go.FG.U73

namespace Go.FG.U33
variable {R : Type} (kr : F_irrrrirri R) (a0 : Int) (a1 a2 a3 a4 : Row) (a5 : Int) (a6 a7 : Row) (a8 : Int)
def b : Option R := bif U72.c a1 then bif U73.c a2 a3 a4 a5 then bif roomy (List.length (zeros [Ck.s, Ck.s, Ck.i IntKind.i64, Ck.i IntKind.i64, Ck.i IntKind.i64] 0) + a6.length) 56 then bif roomy (List.length (zeros [Ck.i IntKind.i64, Ck.s, Ck.i IntKind.i64, Ck.i IntKind.i64, Ck.i IntKind.i64, Ck.s, Ck.i IntKind.i64] 0) + a7.length) 72 then kr a0 (U72.v a1) ((U73.v a2 a3 a4 a5).1) ((U73.v a2 a3 a4 a5).2.1) ((U73.v a2 a3 a4 a5).2.2.1) ((U73.v a2 a3 a4 a5).2.2.2) (zeros [Ck.s, Ck.s, Ck.i IntKind.i64, Ck.i IntKind.i64, Ck.i IntKind.i64] 0 ++ a6) (zeros [Ck.i IntKind.i64, Ck.s, Ck.i IntKind.i64, Ck.i IntKind.i64, Ck.i IntKind.i64, Ck.s, Ck.i IntKind.i64] 0 ++ a7) a8 else none else none else none else none
def vo := b (fun r0 r1 r2 r3 r4 r5 r6 r7 r8 => some (r0, r1, r2, r3, r4, r5, r6, r7, r8)) a0 a1 a2 a3 a4 a5 a6 a7 a8
def c : Bool := Option.isSome (vo a0 a1 a2 a3 a4 a5 a6 a7 a8)
def v := Option.getD (vo a0 a1 a2 a3 a4 a5 a6 a7 a8) (0, [], [], [], [], 0, [], [], 0)
theorem out {x} (h : vo a0 a1 a2 a3 a4 a5 a6 a7 a8 = some x) : c a0 a1 a2 a3 a4 a5 a6 a7 a8 = true /\ v a0 a1 a2 a3 a4 a5 a6 a7 a8 = x := Lib.out_ h
theorem b_eq (hc : c a0 a1 a2 a3 a4 a5 a6 a7 a8 = true) : b kr a0 a1 a2 a3 a4 a5 a6 a7 a8 = Lib.ap (fun p => kr p.1 p.2.1 p.2.2.1 p.2.2.2.1 p.2.2.2.2.1 p.2.2.2.2.2.1 p.2.2.2.2.2.2.1 p.2.2.2.2.2.2.2.1 p.2.2.2.2.2.2.2.2) (v a0 a1 a2 a3 a4 a5 a6 a7 a8) := Lib.bq hc (by unfold vo b; simp only [Lib.B1, Lib.B2, Lib.B3, Lib.B4])
end Go.FG.U33

namespace Go.FG.U61
def b {R : Type} (kr : Bool -> Option R) (a0 a1 a2 : Int) : Option R := bif decide (a0 ≥ a1) then kr (decide (a0 <= a2)) else kr false
def v (a0 a1 a2 : Int) : Bool := bif decide (a0 ≥ a1) then decide (a0 <= a2) else false
theorem b_eq {R : Type} (kr : Bool -> Option R) (a0 a1 a2 : Int) : b kr a0 a1 a2 = kr (v a0 a1 a2) := by
 first | rfl | (unfold b v; simp only [Bool.cond_eq_ite]; (repeat' split) <;> rfl)
end Go.FG.U61

namespace Go.FG.U120
def b {R : Type} (kr : Bool -> Option R) (a0 : ByteArray) : Option R := kr (U61.v (a0.size : Int) 1 30)
def v (a0 : ByteArray) : Bool := (U61.v (a0.size : Int) 1 30)
theorem b_eq {R : Type} (kr : Bool -> Option R) (a0 : ByteArray) : b kr a0 = kr (v a0) := by
 first | rfl | (unfold b v; simp only [Bool.cond_eq_ite]; (repeat' split) <;> rfl)
end Go.FG.U120

namespace Go.FG.U95
def b {R : Type} (kr : Bool -> Option R) (a0 : Int) : Option R := kr (U61.v a0 0 1000000000)
def v (a0 : Int) : Bool := (U61.v a0 0 1000000000)
theorem b_eq {R : Type} (kr : Bool -> Option R) (a0 : Int) : b kr a0 = kr (v a0) := by
 first | rfl | (unfold b v; simp only [Bool.cond_eq_ite]; (repeat' split) <;> rfl)
end Go.FG.U95

namespace Go.FG.U94
def b {R : Type} (kr : Bool -> Option R) (a0 : ByteArray) (a1 a2 : Int) (a3 : ByteArray) : Option R := bif U120.v a0 then bif U95.v a1 then bif U61.v a2 1 999999 then kr (decide ((a3.size : Int) <= 400)) else kr false else kr false else kr false
def v (a0 : ByteArray) (a1 a2 : Int) (a3 : ByteArray) : Bool := bif U120.v a0 then bif U95.v a1 then bif U61.v a2 1 999999 then decide ((a3.size : Int) <= 400) else false else false else false
theorem b_eq {R : Type} (kr : Bool -> Option R) (a0 : ByteArray) (a1 a2 : Int) (a3 : ByteArray) : b kr a0 a1 a2 a3 = kr (v a0 a1 a2 a3) := by
 first | rfl | (unfold b v; simp only [Bool.cond_eq_ite]; (repeat' split) <;> rfl)
end Go.FG.U94

namespace Go.FG.U152
variable {R : Type} (kr : Row -> Option R) (a0 : Int)
def b : Option R := bif decide (a0 < 0) then none else bif decide (w64 (a0 - w64 (0 - 0)) > 0) then bif decide (0 <= w64 (a0 - w64 (0 - 0))) && roomy (List.length ([] : Row) + Int.toNat (w64 (a0 - w64 (0 - 0)))) 16 && decide (w64 (a0 - w64 (0 - 0)) <= 9223372036854775807) then kr (view ([] ++ zeros [Ck.s] (Int.toNat (w64 (a0 - w64 (0 - 0))))) (Int.toNat 0) (Int.toNat 0)) else none else kr []
def vo := b (fun r0 => some r0) a0
def c : Bool := Option.isSome (vo a0)
def v := Option.getD (vo a0) ([])
theorem out {x} (h : vo a0 = some x) : c a0 = true /\ v a0 = x := Lib.out_ h
theorem b_eq (hc : c a0 = true) : b kr a0 = Lib.ap (fun p => kr p) (v a0) := Lib.bq hc (by unfold vo b; simp only [Lib.B1, Lib.B2, Lib.B3, Lib.B4])
end Go.FG.U152

namespace Go.FG.U145
def r11 {R : Type} (N : Nat) (g k0 : F_riir R) (x10 : Row) (x11 x12 : Int) (x13 : Row) : Option R := bif decide (x12 < x11) then bif decide (0 <= x12) && decide (x12 < (x10.length : Int)) then bif roomy (x13.length + List.length (cvL (cellAt x10 x12.toNat 0))) 16 then g x10 x11 (w64 (x12 + 1)) (x13 ++ cvL (cellAt x10 x12.toNat 0)) else none else none else k0 x10 x11 x12 x13
def l11 {R : Type} (N : Nat) (k0 : F_riir R) : Nat -> F_riir R
 | 0 => fun _ _ _ _ => none
 | n + 1 => fun x10 x11 x12 x13 => r11 N (l11 N k0 n) k0 x10 x11 x12 x13
def r3 {R : Type} (N : Nat) (g k0 : F_ririi R) (x0 : Row) (x1 : Int) (x2 : Row) (x3 x4 : Int) : Option R := bif decide (x4 < x3) then bif decide (0 <= x4) && decide (x4 < (x2.length : Int)) then bif decide (w64 (x1 + (↑(List.length (cvL (cellAt x2 x4.toNat 0))) : Int)) < 0) then none else g x0 (w64 (x1 + (↑(List.length (cvL (cellAt x2 x4.toNat 0))) : Int))) x2 x3 (w64 (x4 + 1)) else none else k0 x0 x1 x2 x3 x4
def l3 {R : Type} (N : Nat) (k0 : F_ririi R) : Nat -> F_ririi R
 | 0 => fun _ _ _ _ _ => none
 | n + 1 => fun x0 x1 x2 x3 x4 => r3 N (l3 N k0 n) k0 x0 x1 x2 x3 x4
theorem q11_bind {R S : Type} (f : R -> Option S) (N : Nat) (k0 : F_riir R) : ∀ n : Nat, (∀ (x10 : Row) (x11 x12 : Int) (x13 : Row), Option.bind (l11 N k0 n x10 x11 x12 x13) f = l11 N (fun y0 y1 y2 y3 => Option.bind (k0 y0 y1 y2 y3) f) n x10 x11 x12 x13) := by
 intro n
 induction n with
 | zero => exact fun _ _ _ _ => rfl
 | succ n ih =>
  intro x10 x11 x12 x13
  simp only [l11, r11, Lib.B1, Lib.B2, Lib.B3, Lib.B4, ih]
theorem q3_bind {R S : Type} (f : R -> Option S) (N : Nat) (k0 : F_ririi R) : ∀ n : Nat, (∀ (x0 : Row) (x1 : Int) (x2 : Row) (x3 x4 : Int), Option.bind (l3 N k0 n x0 x1 x2 x3 x4) f = l3 N (fun y0 y1 y2 y3 y4 => Option.bind (k0 y0 y1 y2 y3 y4) f) n x0 x1 x2 x3 x4) := by
 intro n
 induction n with
 | zero => exact fun _ _ _ _ _ => rfl
 | succ n ih =>
  intro x0 x1 x2 x3 x4
  simp only [l3, r3, Lib.B1, Lib.B2, Lib.B3, Lib.B4, ih, q11_bind]
variable {R : Type} (N : Nat) (kr : Row -> Option R) (a0 : Row)
def b : Option R := l3 N (fun y5 y6 y7 y8 y9 => bif U152.c y6 then l11 N (fun y14 y15 y16 y17 => kr y17) N y5 (y5.length : Int) 0 (U152.v y6) else none) N a0 0 a0 (a0.length : Int) 0
theorem b_bind : b N kr a0 = Option.bind (b N (fun r0 => some r0) a0) (fun p => kr p) := by
 unfold b; simp only [Lib.B1, Lib.B2, Lib.B3, Lib.B4, q11_bind, q3_bind]
def vo := b Lib.big (fun r0 => some r0) a0
def c : Bool := Option.isSome (vo a0)
def v := Option.getD (vo a0) ([])
theorem out {x} (h : vo a0 = some x) : c a0 = true /\ v a0 = x := Lib.out_ h
theorem b_eq (hc : c a0 = true) : ∃ N, b N kr a0 = Lib.ap (fun p => kr p) (v a0) := ⟨Lib.big, Lib.bq hc (by apply b_bind)⟩
end Go.FG.U145

namespace Go.FG.U128
def b {R : Type} (kr : Row -> Option R) (a0 a1 a2 : Row) (a3 : Int) : Option R := bif U145.c (List.set (List.set (zeros [Ck.l 9] 2) 0 [CV.l 9 a0]) 1 [CV.l 9 a1]) then kr (U145.v (List.set (List.set (zeros [Ck.l 9] 2) 0 [CV.l 9 a0]) 1 [CV.l 9 a1])) else none
variable {R : Type} (kr : Row -> Option R) (a0 a1 a2 : Row) (a3 : Int)
def vo := b (fun r0 => some r0) a0 a1 a2 a3
def c : Bool := Option.isSome (vo a0 a1 a2 a3)
def v := Option.getD (vo a0 a1 a2 a3) ([])
theorem out {x} (h : vo a0 a1 a2 a3 = some x) : c a0 a1 a2 a3 = true /\ v a0 a1 a2 a3 = x := Lib.out_ h
theorem b_eq (hc : c a0 a1 a2 a3 = true) : b kr a0 a1 a2 a3 = Lib.ap (fun p => kr p) (v a0 a1 a2 a3) := Lib.bq hc (by unfold vo b; simp only [Lib.B1, Lib.B2, Lib.B3, Lib.B4])
end Go.FG.U128

namespace Go.FG.U141
def r2 {R : Type} (N : Nat) (g k0 k1 : F_rsiii R) (x0 : Row) (x1 : ByteArray) (x2 x3 x4 : Int) : Option R := bif decide (x4 < x3) then bif decide (0 <= x4) && decide (x4 < (x0.length : Int)) then bif List.beq (ByteArray.toList x1) (ByteArray.toList (cvS (cellAt x0 x4.toNat 0))) then k0 x0 x1 x4 x3 x4 else g x0 x1 x2 x3 (w64 (x4 + 1)) else none else k1 x0 x1 x2 x3 x4
def l2 {R : Type} (N : Nat) (k0 k1 : F_rsiii R) : Nat -> F_rsiii R
 | 0 => fun _ _ _ _ _ => none
 | n + 1 => fun x0 x1 x2 x3 x4 => r2 N (l2 N k0 k1 n) k0 k1 x0 x1 x2 x3 x4
theorem q2_bind {R S : Type} (f : R -> Option S) (N : Nat) (k0 k1 : F_rsiii R) : ∀ n : Nat, (∀ (x0 : Row) (x1 : ByteArray) (x2 x3 x4 : Int), Option.bind (l2 N k0 k1 n x0 x1 x2 x3 x4) f = l2 N (fun y0 y1 y2 y3 y4 => Option.bind (k0 y0 y1 y2 y3 y4) f) (fun y0 y1 y2 y3 y4 => Option.bind (k1 y0 y1 y2 y3 y4) f) n x0 x1 x2 x3 x4) := by
 intro n
 induction n with
 | zero => exact fun _ _ _ _ _ => rfl
 | succ n ih =>
  intro x0 x1 x2 x3 x4
  simp only [l2, r2, Lib.B1, Lib.B2, Lib.B3, Lib.B4, ih]
variable {R : Type} (N : Nat) (kr : Int -> Option R) (a0 : Row) (a1 : ByteArray)
def b : Option R := l2 N (fun y5 y6 y7 y8 y9 => kr y7) (fun y10 y11 y12 y13 y14 => kr (-1)) N a0 a1 0 (a0.length : Int) 0
theorem b_bind : b N kr a0 a1 = Option.bind (b N (fun r0 => some r0) a0 a1) (fun p => kr p) := by
 unfold b; simp only [Lib.B1, Lib.B2, Lib.B3, Lib.B4, q2_bind]
def vo := b Lib.big (fun r0 => some r0) a0 a1
def c : Bool := Option.isSome (vo a0 a1)
def v := Option.getD (vo a0 a1) (0)
theorem out {x} (h : vo a0 a1 = some x) : c a0 a1 = true /\ v a0 a1 = x := Lib.out_ h
theorem b_eq (hc : c a0 a1 = true) : ∃ N, b N kr a0 a1 = Lib.ap (fun p => kr p) (v a0 a1) := ⟨Lib.big, Lib.bq hc (by apply b_bind)⟩
end Go.FG.U141

namespace Go.FG.U123
variable {R : Type} (kr : Bool -> Option R) (a0 : Row) (a1 : ByteArray)
def b : Option R := bif U141.c a0 a1 then kr (decide (U141.v a0 a1 ≥ 0)) else none
def vo := b (fun r0 => some r0) a0 a1
def c : Bool := Option.isSome (vo a0 a1)
def v := Option.getD (vo a0 a1) false
theorem out {x} (h : vo a0 a1 = some x) : c a0 a1 = true /\ v a0 a1 = x := Lib.out_ h
theorem b_eq (hc : c a0 a1 = true) : b kr a0 a1 = Lib.ap (fun p => kr p) (v a0 a1) := Lib.bq hc (by unfold vo b; simp only [Lib.B1, Lib.B2, Lib.B3, Lib.B4])
end Go.FG.U123

namespace Go.FG.U98
variable {R : Type} (kr : Bool -> Option R) (a0 a1 a2 : Row) (a3 : Int) (a4 : ByteArray)
def b : Option R := bif U128.c a0 a1 a2 a3 then bif U123.c (U128.v a0 a1 a2 a3) a4 then kr (U123.v (U128.v a0 a1 a2 a3) a4) else none else none
def vo := b (fun r0 => some r0) a0 a1 a2 a3 a4
def c : Bool := Option.isSome (vo a0 a1 a2 a3 a4)
def v := Option.getD (vo a0 a1 a2 a3 a4) false
theorem out {x} (h : vo a0 a1 a2 a3 a4 = some x) : c a0 a1 a2 a3 a4 = true /\ v a0 a1 a2 a3 a4 = x := Lib.out_ h
theorem b_eq (hc : c a0 a1 a2 a3 a4 = true) : b kr a0 a1 a2 a3 a4 = Lib.ap (fun p => kr p) (v a0 a1 a2 a3 a4) := Lib.bq hc (by unfold vo b; simp only [Lib.B1, Lib.B2, Lib.B3, Lib.B4])
end Go.FG.U98

namespace Go.FG.U139
def r5 {R : Type} (N : Nat) (g k0 k1 : F_brriiriiri R) (x6 : Bool) (x7 x8 : Row) (x9 x10 : Int) (x11 : Row) (x12 x13 : Int) (x14 : Row) (x15 : Int) : Option R := bif decide (x13 < x12) then bif decide (0 <= x13) && decide (x13 < (x11.length : Int)) then bif !U61.v (cvI (cellAt x11 x13.toNat 0)) 0 15 then k0 false x7 x8 x9 x10 x11 x12 x13 x14 x15 else g x6 x7 x8 x9 x10 x11 x12 (w64 (x13 + 1)) x14 x15 else none else k1 x6 x7 x8 x9 x10 x11 x12 x13 x14 x15
def l5 {R : Type} (N : Nat) (k0 k1 : F_brriiriiri R) : Nat -> F_brriiriiri R
 | 0 => fun _ _ _ _ _ _ _ _ _ _ => none
 | n + 1 => fun x6 x7 x8 x9 x10 x11 x12 x13 x14 x15 => r5 N (l5 N k0 k1 n) k0 k1 x6 x7 x8 x9 x10 x11 x12 x13 x14 x15
def r2 {R : Type} (N : Nat) (g k0 k1 : F_briiri R) (x0 : Bool) (x1 : Row) (x2 x3 : Int) (x4 : Row) (x5 : Int) : Option R := bif decide (x3 < x2) then bif decide (0 <= x3) && decide (x3 < (x1.length : Int)) then l5 N (fun y16 y17 y18 y19 y20 y21 y22 y23 y24 y25 => k0 y16 y18 y19 y20 y24 y25) (fun y26 y27 y28 y29 y30 y31 y32 y33 y34 y35 => bif (y27.length : Int) != 16 then k0 false y28 y29 y30 y34 y35 else g y26 y28 y29 (w64 (y30 + 1)) y34 y35) N x0 (cvL (cellAt x1 x3.toNat 0)) x1 x2 x3 (cvL (cellAt x1 x3.toNat 0)) (↑(List.length (cvL (cellAt x1 x3.toNat 0))) : Int) 0 x4 x5 else none else k1 x0 x1 x2 x3 x4 x5
def l2 {R : Type} (N : Nat) (k0 k1 : F_briiri R) : Nat -> F_briiri R
 | 0 => fun _ _ _ _ _ _ => none
 | n + 1 => fun x0 x1 x2 x3 x4 x5 => r2 N (l2 N k0 k1 n) k0 k1 x0 x1 x2 x3 x4 x5
theorem q5_bind {R S : Type} (f : R -> Option S) (N : Nat) (k0 k1 : F_brriiriiri R) : ∀ n : Nat, (∀ (x6 : Bool) (x7 x8 : Row) (x9 x10 : Int) (x11 : Row) (x12 x13 : Int) (x14 : Row) (x15 : Int), Option.bind (l5 N k0 k1 n x6 x7 x8 x9 x10 x11 x12 x13 x14 x15) f = l5 N (fun y0 y1 y2 y3 y4 y5 y6 y7 y8 y9 => Option.bind (k0 y0 y1 y2 y3 y4 y5 y6 y7 y8 y9) f) (fun y0 y1 y2 y3 y4 y5 y6 y7 y8 y9 => Option.bind (k1 y0 y1 y2 y3 y4 y5 y6 y7 y8 y9) f) n x6 x7 x8 x9 x10 x11 x12 x13 x14 x15) := by
 intro n
 induction n with
 | zero => exact fun _ _ _ _ _ _ _ _ _ _ => rfl
 | succ n ih =>
  intro x6 x7 x8 x9 x10 x11 x12 x13 x14 x15
  simp only [l5, r5, Lib.B1, Lib.B2, Lib.B3, Lib.B4, ih]
theorem q2_bind {R S : Type} (f : R -> Option S) (N : Nat) (k0 k1 : F_briiri R) : ∀ n : Nat, (∀ (x0 : Bool) (x1 : Row) (x2 x3 : Int) (x4 : Row) (x5 : Int), Option.bind (l2 N k0 k1 n x0 x1 x2 x3 x4 x5) f = l2 N (fun y0 y1 y2 y3 y4 y5 => Option.bind (k0 y0 y1 y2 y3 y4 y5) f) (fun y0 y1 y2 y3 y4 y5 => Option.bind (k1 y0 y1 y2 y3 y4 y5) f) n x0 x1 x2 x3 x4 x5) := by
 intro n
 induction n with
 | zero => exact fun _ _ _ _ _ _ => rfl
 | succ n ih =>
  intro x0 x1 x2 x3 x4 x5
  simp only [l2, r2, Lib.B1, Lib.B2, Lib.B3, Lib.B4, ih, q5_bind]
variable {R : Type} (N : Nat) (kr : Bool -> Option R) (a0 : Row) (a1 : Int)
def b : Option R := l2 N (fun y36 y37 y38 y39 y40 y41 => kr y36) (fun y42 y43 y44 y45 y46 y47 => bif decide ((y46.length : Int) = 3) then kr (U61.v y47 0 63) else kr false) N false a0 (a0.length : Int) 0 a0 a1
theorem b_bind : b N kr a0 a1 = Option.bind (b N (fun r0 => some r0) a0 a1) (fun p => kr p) := by
 unfold b; simp only [Lib.B1, Lib.B2, Lib.B3, Lib.B4, q5_bind, q2_bind]
def vo := b Lib.big (fun r0 => some r0) a0 a1
def c : Bool := Option.isSome (vo a0 a1)
def v := Option.getD (vo a0 a1) false
theorem out {x} (h : vo a0 a1 = some x) : c a0 a1 = true /\ v a0 a1 = x := Lib.out_ h
theorem b_eq (hc : c a0 a1 = true) : ∃ N, b N kr a0 a1 = Lib.ap (fun p => kr p) (v a0 a1) := ⟨Lib.big, Lib.bq hc (by apply b_bind)⟩
end Go.FG.U139

namespace Go.FG.U121
def r3 {R : Type} (N : Nat) (g k0 k1 : F_biirrrir R) (x0 : Bool) (x1 x2 : Int) (x3 x4 x5 : Row) (x6 : Int) (x7 : Row) : Option R := bif decide (x2 < x1) then bif decide (0 <= x2) && decide (x2 < (x7.length : Int)) then bif !U120.v (cvS (cellAt x7 x2.toNat 0)) then k0 false x1 x2 x3 x4 x5 x6 x7 else bif inB 0 x2 (x7.length : Int) then bif U123.c (view x7 (Int.toNat 0) x2.toNat) (cvS (cellAt x7 x2.toNat 0)) then bif U123.v (view x7 (Int.toNat 0) x2.toNat) (cvS (cellAt x7 x2.toNat 0)) then k0 false x1 x2 x3 x4 x5 x6 x7 else g x0 x1 (w64 (x2 + 1)) x3 x4 x5 x6 x7 else none else none else none else k1 x0 x1 x2 x3 x4 x5 x6 x7
def l3 {R : Type} (N : Nat) (k0 k1 : F_biirrrir R) : Nat -> F_biirrrir R
 | 0 => fun _ _ _ _ _ _ _ _ => none
 | n + 1 => fun x0 x1 x2 x3 x4 x5 x6 x7 => r3 N (l3 N k0 k1 n) k0 k1 x0 x1 x2 x3 x4 x5 x6 x7
theorem q3_bind {R S : Type} (f : R -> Option S) (N : Nat) (k0 k1 : F_biirrrir R) : ∀ n : Nat, (∀ (x0 : Bool) (x1 x2 : Int) (x3 x4 x5 : Row) (x6 : Int) (x7 : Row), Option.bind (l3 N k0 k1 n x0 x1 x2 x3 x4 x5 x6 x7) f = l3 N (fun y0 y1 y2 y3 y4 y5 y6 y7 => Option.bind (k0 y0 y1 y2 y3 y4 y5 y6 y7) f) (fun y0 y1 y2 y3 y4 y5 y6 y7 => Option.bind (k1 y0 y1 y2 y3 y4 y5 y6 y7) f) n x0 x1 x2 x3 x4 x5 x6 x7) := by
 intro n
 induction n with
 | zero => exact fun _ _ _ _ _ _ _ _ => rfl
 | succ n ih =>
  intro x0 x1 x2 x3 x4 x5 x6 x7
  simp only [l3, r3, Lib.B1, Lib.B2, Lib.B3, Lib.B4, ih]
variable {R : Type} (N : Nat) (kr : Bool -> Option R) (a0 a1 a2 : Row) (a3 : Int)
def b : Option R := bif U128.c a0 a1 a2 a3 then l3 N (fun y8 y9 y10 y11 y12 y13 y14 y15 => kr y8) (fun y16 y17 y18 y19 y20 y21 y22 y23 => bif decide ((y19.length : Int) <= 2) then bif decide ((y20.length : Int) <= 4) then bif U139.c y21 y22 then kr (U139.v y21 y22) else none else kr false else kr false) N false (↑(List.length (U128.v a0 a1 a2 a3)) : Int) 0 a0 a1 a2 a3 (U128.v a0 a1 a2 a3) else none
theorem b_bind : b N kr a0 a1 a2 a3 = Option.bind (b N (fun r0 => some r0) a0 a1 a2 a3) (fun p => kr p) := by
 unfold b; simp only [Lib.B1, Lib.B2, Lib.B3, Lib.B4, q3_bind]
def vo := b Lib.big (fun r0 => some r0) a0 a1 a2 a3
def c : Bool := Option.isSome (vo a0 a1 a2 a3)
def v := Option.getD (vo a0 a1 a2 a3) false
theorem out {x} (h : vo a0 a1 a2 a3 = some x) : c a0 a1 a2 a3 = true /\ v a0 a1 a2 a3 = x := Lib.out_ h
theorem b_eq (hc : c a0 a1 a2 a3 = true) : ∃ N, b N kr a0 a1 a2 a3 = Lib.ap (fun p => kr p) (v a0 a1 a2 a3) := ⟨Lib.big, Lib.bq hc (by apply b_bind)⟩
end Go.FG.U121

namespace Go.FG.U107
def r2 {R : Type} (N : Nat) (g k0 k1 : F_briiirrrrirri R) (x0 : Bool) (x1 : Row) (x2 x3 x4 : Int) (x5 x6 x7 x8 : Row) (x9 : Int) (x10 x11 : Row) (x12 : Int) : Option R := bif decide (x3 < x2) then bif decide (0 <= x3) && decide (x3 < (x1.length : Int)) then bif !U94.v (cvS (cellAt x1 x3.toNat 0)) (cvI (cellAt x1 x3.toNat 1)) (cvI (cellAt x1 x3.toNat (1 + 1))) (cvS (cellAt x1 x3.toNat (1 + 1 + 1))) then k0 false x1 x2 x3 x4 x5 x6 x7 x8 x9 x10 x11 x12 else bif decide (x3 > 0) then bif decide (0 <= w64 (x3 - 1)) && decide (w64 (x3 - 1) < (x5.length : Int)) then bif !Go.Op.bytesLess (ByteArray.toList (cvS (cellAt x5 (Int.toNat (w64 (x3 - 1))) 0))) (ByteArray.toList (cvS (cellAt x1 x3.toNat 0))) then k0 false x1 x2 x3 x4 x5 x6 x7 x8 x9 x10 x11 x12 else bif U98.c x6 x7 x8 x9 (cvS (cellAt x1 x3.toNat 0)) then bif !U98.v x6 x7 x8 x9 (cvS (cellAt x1 x3.toNat 0)) then k0 false x1 x2 x3 x4 x5 x6 x7 x8 x9 x10 x11 x12 else g x0 x1 x2 (w64 (x3 + 1)) x4 x5 x6 x7 x8 x9 x10 x11 x12 else none else none else bif U98.c x6 x7 x8 x9 (cvS (cellAt x1 x3.toNat 0)) then bif !U98.v x6 x7 x8 x9 (cvS (cellAt x1 x3.toNat 0)) then k0 false x1 x2 x3 x4 x5 x6 x7 x8 x9 x10 x11 x12 else g x0 x1 x2 (w64 (x3 + 1)) x4 x5 x6 x7 x8 x9 x10 x11 x12 else none else none else k1 x0 x1 x2 x3 x4 x5 x6 x7 x8 x9 x10 x11 x12
def l2 {R : Type} (N : Nat) (k0 k1 : F_briiirrrrirri R) : Nat -> F_briiirrrrirri R
 | 0 => fun _ _ _ _ _ _ _ _ _ _ _ _ _ => none
 | n + 1 => fun x0 x1 x2 x3 x4 x5 x6 x7 x8 x9 x10 x11 x12 => r2 N (l2 N k0 k1 n) k0 k1 x0 x1 x2 x3 x4 x5 x6 x7 x8 x9 x10 x11 x12
theorem q2_bind {R S : Type} (f : R -> Option S) (N : Nat) (k0 k1 : F_briiirrrrirri R) : ∀ n : Nat, (∀ (x0 : Bool) (x1 : Row) (x2 x3 x4 : Int) (x5 x6 x7 x8 : Row) (x9 : Int) (x10 x11 : Row) (x12 : Int), Option.bind (l2 N k0 k1 n x0 x1 x2 x3 x4 x5 x6 x7 x8 x9 x10 x11 x12) f = l2 N (fun y0 y1 y2 y3 y4 y5 y6 y7 y8 y9 y10 y11 y12 => Option.bind (k0 y0 y1 y2 y3 y4 y5 y6 y7 y8 y9 y10 y11 y12) f) (fun y0 y1 y2 y3 y4 y5 y6 y7 y8 y9 y10 y11 y12 => Option.bind (k1 y0 y1 y2 y3 y4 y5 y6 y7 y8 y9 y10 y11 y12) f) n x0 x1 x2 x3 x4 x5 x6 x7 x8 x9 x10 x11 x12) := by
 intro n
 induction n with
 | zero => exact fun _ _ _ _ _ _ _ _ _ _ _ _ _ => rfl
 | succ n ih =>
  intro x0 x1 x2 x3 x4 x5 x6 x7 x8 x9 x10 x11 x12
  simp only [l2, r2, Lib.B1, Lib.B2, Lib.B3, Lib.B4, ih]
variable {R : Type} (N : Nat) (kr : Bool -> Option R) (a0 : Int) (a1 a2 a3 a4 : Row) (a5 : Int) (a6 a7 : Row) (a8 : Int)
def b : Option R := l2 N (fun y13 y14 y15 y16 y17 y18 y19 y20 y21 y22 y23 y24 y25 => kr y13) (fun y26 y27 y28 y29 y30 y31 y32 y33 y34 y35 y36 y37 y38 => bif U121.c y32 y33 y34 y35 then bif U121.v y32 y33 y34 y35 then bif U128.c y32 y33 y34 y35 then kr (decide ((↑(List.length (U128.v y32 y33 y34 y35)) : Int) = (y31.length : Int))) else none else kr false else none) N false a1 (a1.length : Int) 0 a0 a1 a2 a3 a4 a5 a6 a7 a8
theorem b_bind : b N kr a0 a1 a2 a3 a4 a5 a6 a7 a8 = Option.bind (b N (fun r0 => some r0) a0 a1 a2 a3 a4 a5 a6 a7 a8) (fun p => kr p) := by
 unfold b; simp only [Lib.B1, Lib.B2, Lib.B3, Lib.B4, q2_bind]
def vo := b Lib.big (fun r0 => some r0) a0 a1 a2 a3 a4 a5 a6 a7 a8
def c : Bool := Option.isSome (vo a0 a1 a2 a3 a4 a5 a6 a7 a8)
def v := Option.getD (vo a0 a1 a2 a3 a4 a5 a6 a7 a8) false
theorem out {x} (h : vo a0 a1 a2 a3 a4 a5 a6 a7 a8 = some x) : c a0 a1 a2 a3 a4 a5 a6 a7 a8 = true /\ v a0 a1 a2 a3 a4 a5 a6 a7 a8 = x := Lib.out_ h
theorem b_eq (hc : c a0 a1 a2 a3 a4 a5 a6 a7 a8 = true) : ∃ N, b N kr a0 a1 a2 a3 a4 a5 a6 a7 a8 = Lib.ap (fun p => kr p) (v a0 a1 a2 a3 a4 a5 a6 a7 a8) := ⟨Lib.big, Lib.bq hc (by apply b_bind)⟩
end Go.FG.U107

namespace Go.FG.U155
def b {R : Type} (kr : Bool -> Option R) (a0 a1 : ByteArray) (a2 a3 a4 : Int) (key1 : ByteArray) : Option R := bif List.beq (ByteArray.toList a0) (ByteArray.toList key1) then kr (decide (a2 = 1)) else kr false
def v (a0 a1 : ByteArray) (a2 a3 a4 : Int) (key1 : ByteArray) : Bool := bif List.beq (ByteArray.toList a0) (ByteArray.toList key1) then decide (a2 = 1) else false
theorem b_eq {R : Type} (kr : Bool -> Option R) (a0 a1 : ByteArray) (a2 a3 a4 : Int) (key1 : ByteArray) : b kr a0 a1 a2 a3 a4 key1 = kr (v a0 a1 a2 a3 a4 key1) := by
 first | rfl | (unfold b v; simp only [Bool.cond_eq_ite]; (repeat' split) <;> rfl)
end Go.FG.U155

namespace Go.FG.U154
def r2 {R : Type} (N : Nat) (g k0 k1 : F_rsiii R) (x0 : Row) (x1 : ByteArray) (x2 x3 x4 : Int) : Option R := bif decide (x4 < x3) then bif decide (0 <= x4) && decide (x4 < (x0.length : Int)) then bif U155.v (cvS (cellAt x0 x4.toNat 0)) (cvS (cellAt x0 x4.toNat 1)) (cvI (cellAt x0 x4.toNat (1 + 1))) (cvI (cellAt x0 x4.toNat (1 + 1 + 1))) (cvI (cellAt x0 x4.toNat (1 + 1 + 1 + 1))) x1 then k0 x0 x1 x4 x3 x4 else g x0 x1 x2 x3 (w64 (x4 + 1)) else none else k1 x0 x1 x2 x3 x4
def l2 {R : Type} (N : Nat) (k0 k1 : F_rsiii R) : Nat -> F_rsiii R
 | 0 => fun _ _ _ _ _ => none
 | n + 1 => fun x0 x1 x2 x3 x4 => r2 N (l2 N k0 k1 n) k0 k1 x0 x1 x2 x3 x4
theorem q2_bind {R S : Type} (f : R -> Option S) (N : Nat) (k0 k1 : F_rsiii R) : ∀ n : Nat, (∀ (x0 : Row) (x1 : ByteArray) (x2 x3 x4 : Int), Option.bind (l2 N k0 k1 n x0 x1 x2 x3 x4) f = l2 N (fun y0 y1 y2 y3 y4 => Option.bind (k0 y0 y1 y2 y3 y4) f) (fun y0 y1 y2 y3 y4 => Option.bind (k1 y0 y1 y2 y3 y4) f) n x0 x1 x2 x3 x4) := by
 intro n
 induction n with
 | zero => exact fun _ _ _ _ _ => rfl
 | succ n ih =>
  intro x0 x1 x2 x3 x4
  simp only [l2, r2, Lib.B1, Lib.B2, Lib.B3, Lib.B4, ih]
variable {R : Type} (N : Nat) (kr : Int -> Option R) (a0 : Row) (key1 : ByteArray)
def b : Option R := l2 N (fun y5 y6 y7 y8 y9 => kr y7) (fun y10 y11 y12 y13 y14 => kr (-1)) N a0 key1 0 (a0.length : Int) 0
theorem b_bind : b N kr a0 key1 = Option.bind (b N (fun r0 => some r0) a0 key1) (fun p => kr p) := by
 unfold b; simp only [Lib.B1, Lib.B2, Lib.B3, Lib.B4, q2_bind]
def vo := b Lib.big (fun r0 => some r0) a0 key1
def c : Bool := Option.isSome (vo a0 key1)
def v := Option.getD (vo a0 key1) (0)
theorem out {x} (h : vo a0 key1 = some x) : c a0 key1 = true /\ v a0 key1 = x := Lib.out_ h
theorem b_eq (hc : c a0 key1 = true) : ∃ N, b N kr a0 key1 = Lib.ap (fun p => kr p) (v a0 key1) := ⟨Lib.big, Lib.bq hc (by apply b_bind)⟩
end Go.FG.U154

namespace Go.FG.U148
def b {R : Type} (kr : Int -> Option R) (a0 : Int) (a1 a2 a3 a4 : Row) (a5 : Int) (a6 a7 : Row) (a8 : Int) (a9 : ByteArray) : Option R := bif U154.c a6 a9 then kr (U154.v a6 a9) else none
variable {R : Type} (kr : Int -> Option R) (a0 : Int) (a1 a2 a3 a4 : Row) (a5 : Int) (a6 a7 : Row) (a8 : Int) (a9 : ByteArray)
def vo := b (fun r0 => some r0) a0 a1 a2 a3 a4 a5 a6 a7 a8 a9
def c : Bool := Option.isSome (vo a0 a1 a2 a3 a4 a5 a6 a7 a8 a9)
def v := Option.getD (vo a0 a1 a2 a3 a4 a5 a6 a7 a8 a9) (0)
theorem out {x} (h : vo a0 a1 a2 a3 a4 a5 a6 a7 a8 a9 = some x) : c a0 a1 a2 a3 a4 a5 a6 a7 a8 a9 = true /\ v a0 a1 a2 a3 a4 a5 a6 a7 a8 a9 = x := Lib.out_ h
theorem b_eq (hc : c a0 a1 a2 a3 a4 a5 a6 a7 a8 a9 = true) : b kr a0 a1 a2 a3 a4 a5 a6 a7 a8 a9 = Lib.ap (fun p => kr p) (v a0 a1 a2 a3 a4 a5 a6 a7 a8 a9) := Lib.bq hc (by unfold vo b; simp only [Lib.B1, Lib.B2, Lib.B3, Lib.B4])
end Go.FG.U148

namespace Go.FG.U133
def r2 {R : Type} (N : Nat) (g k0 k1 : F_briiirrrrirri R) (x0 : Bool) (x1 : Row) (x2 x3 x4 : Int) (x5 x6 x7 x8 : Row) (x9 : Int) (x10 x11 : Row) (x12 : Int) : Option R := bif decide (x3 < x2) then bif decide (0 <= x3) && decide (x3 < (x1.length : Int)) then bif decide (cvI (cellAt x1 x3.toNat (1 + 1)) = 1) then bif U148.c x4 x5 x6 x7 x8 x9 x10 x11 x12 (cvS (cellAt x1 x3.toNat 0)) then bif U148.v x4 x5 x6 x7 x8 x9 x10 x11 x12 (cvS (cellAt x1 x3.toNat 0)) != x3 then k0 false x1 x2 x3 x4 x5 x6 x7 x8 x9 x10 x11 x12 else g x0 x1 x2 (w64 (x3 + 1)) x4 x5 x6 x7 x8 x9 x10 x11 x12 else none else g x0 x1 x2 (w64 (x3 + 1)) x4 x5 x6 x7 x8 x9 x10 x11 x12 else none else k1 x0 x1 x2 x3 x4 x5 x6 x7 x8 x9 x10 x11 x12
def l2 {R : Type} (N : Nat) (k0 k1 : F_briiirrrrirri R) : Nat -> F_briiirrrrirri R
 | 0 => fun _ _ _ _ _ _ _ _ _ _ _ _ _ => none
 | n + 1 => fun x0 x1 x2 x3 x4 x5 x6 x7 x8 x9 x10 x11 x12 => r2 N (l2 N k0 k1 n) k0 k1 x0 x1 x2 x3 x4 x5 x6 x7 x8 x9 x10 x11 x12
theorem q2_bind {R S : Type} (f : R -> Option S) (N : Nat) (k0 k1 : F_briiirrrrirri R) : ∀ n : Nat, (∀ (x0 : Bool) (x1 : Row) (x2 x3 x4 : Int) (x5 x6 x7 x8 : Row) (x9 : Int) (x10 x11 : Row) (x12 : Int), Option.bind (l2 N k0 k1 n x0 x1 x2 x3 x4 x5 x6 x7 x8 x9 x10 x11 x12) f = l2 N (fun y0 y1 y2 y3 y4 y5 y6 y7 y8 y9 y10 y11 y12 => Option.bind (k0 y0 y1 y2 y3 y4 y5 y6 y7 y8 y9 y10 y11 y12) f) (fun y0 y1 y2 y3 y4 y5 y6 y7 y8 y9 y10 y11 y12 => Option.bind (k1 y0 y1 y2 y3 y4 y5 y6 y7 y8 y9 y10 y11 y12) f) n x0 x1 x2 x3 x4 x5 x6 x7 x8 x9 x10 x11 x12) := by
 intro n
 induction n with
 | zero => exact fun _ _ _ _ _ _ _ _ _ _ _ _ _ => rfl
 | succ n ih =>
  intro x0 x1 x2 x3 x4 x5 x6 x7 x8 x9 x10 x11 x12
  simp only [l2, r2, Lib.B1, Lib.B2, Lib.B3, Lib.B4, ih]
variable {R : Type} (N : Nat) (kr : Bool -> Option R) (a0 : Int) (a1 a2 a3 a4 : Row) (a5 : Int) (a6 a7 : Row) (a8 : Int)
def b : Option R := l2 N (fun y13 y14 y15 y16 y17 y18 y19 y20 y21 y22 y23 y24 y25 => kr y13) (fun y26 y27 y28 y29 y30 y31 y32 y33 y34 y35 y36 y37 y38 => kr true) N false a6 (a6.length : Int) 0 a0 a1 a2 a3 a4 a5 a6 a7 a8
theorem b_bind : b N kr a0 a1 a2 a3 a4 a5 a6 a7 a8 = Option.bind (b N (fun r0 => some r0) a0 a1 a2 a3 a4 a5 a6 a7 a8) (fun p => kr p) := by
 unfold b; simp only [Lib.B1, Lib.B2, Lib.B3, Lib.B4, q2_bind]
def vo := b Lib.big (fun r0 => some r0) a0 a1 a2 a3 a4 a5 a6 a7 a8
def c : Bool := Option.isSome (vo a0 a1 a2 a3 a4 a5 a6 a7 a8)
def v := Option.getD (vo a0 a1 a2 a3 a4 a5 a6 a7 a8) false
theorem out {x} (h : vo a0 a1 a2 a3 a4 a5 a6 a7 a8 = some x) : c a0 a1 a2 a3 a4 a5 a6 a7 a8 = true /\ v a0 a1 a2 a3 a4 a5 a6 a7 a8 = x := Lib.out_ h
theorem b_eq (hc : c a0 a1 a2 a3 a4 a5 a6 a7 a8 = true) : ∃ N, b N kr a0 a1 a2 a3 a4 a5 a6 a7 a8 = Lib.ap (fun p => kr p) (v a0 a1 a2 a3 a4 a5 a6 a7 a8) := ⟨Lib.big, Lib.bq hc (by apply b_bind)⟩
end Go.FG.U133

namespace Go.FG.U108
def r2 {R : Type} (N : Nat) (g k0 k1 : F_briiirrrrirri R) (x0 : Bool) (x1 : Row) (x2 x3 x4 : Int) (x5 x6 x7 x8 : Row) (x9 : Int) (x10 x11 : Row) (x12 : Int) : Option R := bif decide (x3 < x2) then bif decide (0 <= x3) && decide (x3 < (x1.length : Int)) then bif !U120.v (cvS (cellAt x1 x3.toNat 0)) then k0 false x1 x2 x3 x4 x5 x6 x7 x8 x9 x10 x11 x12 else bif decide ((↑(ByteArray.size (cvS (cellAt x1 x3.toNat 1))) : Int) > 400) then k0 false x1 x2 x3 x4 x5 x6 x7 x8 x9 x10 x11 x12 else bif !U61.v (cvI (cellAt x1 x3.toNat (1 + 1))) 1 3 then k0 false x1 x2 x3 x4 x5 x6 x7 x8 x9 x10 x11 x12 else bif !U61.v (cvI (cellAt x1 x3.toNat (1 + 1 + 1))) 0 999999 then k0 false x1 x2 x3 x4 x5 x6 x7 x8 x9 x10 x11 x12 else bif !U61.v (cvI (cellAt x1 x3.toNat (1 + 1 + 1 + 1))) 0 x4 then k0 false x1 x2 x3 x4 x5 x6 x7 x8 x9 x10 x11 x12 else g x0 x1 x2 (w64 (x3 + 1)) x4 x5 x6 x7 x8 x9 x10 x11 x12 else none else k1 x0 x1 x2 x3 x4 x5 x6 x7 x8 x9 x10 x11 x12
def l2 {R : Type} (N : Nat) (k0 k1 : F_briiirrrrirri R) : Nat -> F_briiirrrrirri R
 | 0 => fun _ _ _ _ _ _ _ _ _ _ _ _ _ => none
 | n + 1 => fun x0 x1 x2 x3 x4 x5 x6 x7 x8 x9 x10 x11 x12 => r2 N (l2 N k0 k1 n) k0 k1 x0 x1 x2 x3 x4 x5 x6 x7 x8 x9 x10 x11 x12
theorem q2_bind {R S : Type} (f : R -> Option S) (N : Nat) (k0 k1 : F_briiirrrrirri R) : ∀ n : Nat, (∀ (x0 : Bool) (x1 : Row) (x2 x3 x4 : Int) (x5 x6 x7 x8 : Row) (x9 : Int) (x10 x11 : Row) (x12 : Int), Option.bind (l2 N k0 k1 n x0 x1 x2 x3 x4 x5 x6 x7 x8 x9 x10 x11 x12) f = l2 N (fun y0 y1 y2 y3 y4 y5 y6 y7 y8 y9 y10 y11 y12 => Option.bind (k0 y0 y1 y2 y3 y4 y5 y6 y7 y8 y9 y10 y11 y12) f) (fun y0 y1 y2 y3 y4 y5 y6 y7 y8 y9 y10 y11 y12 => Option.bind (k1 y0 y1 y2 y3 y4 y5 y6 y7 y8 y9 y10 y11 y12) f) n x0 x1 x2 x3 x4 x5 x6 x7 x8 x9 x10 x11 x12) := by
 intro n
 induction n with
 | zero => exact fun _ _ _ _ _ _ _ _ _ _ _ _ _ => rfl
 | succ n ih =>
  intro x0 x1 x2 x3 x4 x5 x6 x7 x8 x9 x10 x11 x12
  simp only [l2, r2, Lib.B1, Lib.B2, Lib.B3, Lib.B4, ih]
variable {R : Type} (N : Nat) (kr : Bool -> Option R) (a0 : Int) (a1 a2 a3 a4 : Row) (a5 : Int) (a6 a7 : Row) (a8 : Int)
def b : Option R := l2 N (fun y13 y14 y15 y16 y17 y18 y19 y20 y21 y22 y23 y24 y25 => kr y13) (fun y26 y27 y28 y29 y30 y31 y32 y33 y34 y35 y36 y37 y38 => bif decide ((y36.length : Int) <= 20) then bif U133.c y30 y31 y32 y33 y34 y35 y36 y37 y38 then kr (U133.v y30 y31 y32 y33 y34 y35 y36 y37 y38) else none else kr false) N false a6 (a6.length : Int) 0 a0 a1 a2 a3 a4 a5 a6 a7 a8
theorem b_bind : b N kr a0 a1 a2 a3 a4 a5 a6 a7 a8 = Option.bind (b N (fun r0 => some r0) a0 a1 a2 a3 a4 a5 a6 a7 a8) (fun p => kr p) := by
 unfold b; simp only [Lib.B1, Lib.B2, Lib.B3, Lib.B4, q2_bind]
def vo := b Lib.big (fun r0 => some r0) a0 a1 a2 a3 a4 a5 a6 a7 a8
def c : Bool := Option.isSome (vo a0 a1 a2 a3 a4 a5 a6 a7 a8)
def v := Option.getD (vo a0 a1 a2 a3 a4 a5 a6 a7 a8) false
theorem out {x} (h : vo a0 a1 a2 a3 a4 a5 a6 a7 a8 = some x) : c a0 a1 a2 a3 a4 a5 a6 a7 a8 = true /\ v a0 a1 a2 a3 a4 a5 a6 a7 a8 = x := Lib.out_ h
theorem b_eq (hc : c a0 a1 a2 a3 a4 a5 a6 a7 a8 = true) : ∃ N, b N kr a0 a1 a2 a3 a4 a5 a6 a7 a8 = Lib.ap (fun p => kr p) (v a0 a1 a2 a3 a4 a5 a6 a7 a8) := ⟨Lib.big, Lib.bq hc (by apply b_bind)⟩
end Go.FG.U108

namespace Go.FG.U109
def r2 {R : Type} (N : Nat) (g k0 k1 : F_briiirrrrirri R) (x0 : Bool) (x1 : Row) (x2 x3 x4 : Int) (x5 x6 x7 x8 : Row) (x9 : Int) (x10 x11 : Row) (x12 : Int) : Option R := bif decide (x3 < x2) then bif decide (0 <= x3) && decide (x3 < (x1.length : Int)) then bif !U61.v (cvI (cellAt x1 x3.toNat 0)) 1 9 then k0 false x1 x2 x3 x4 x5 x6 x7 x8 x9 x10 x11 x12 else bif decide (x3 > 0) then bif decide (0 <= w64 (x3 - 1)) && decide (w64 (x3 - 1) < (x11.length : Int)) then bif decide (cvI (cellAt x11 (Int.toNat (w64 (x3 - 1))) 0) ≥ cvI (cellAt x1 x3.toNat 0)) then k0 false x1 x2 x3 x4 x5 x6 x7 x8 x9 x10 x11 x12 else bif !U120.v (cvS (cellAt x1 x3.toNat 1)) then k0 false x1 x2 x3 x4 x5 x6 x7 x8 x9 x10 x11 x12 else bif !U61.v (cvI (cellAt x1 x3.toNat (1 + 1 + 1 + 1))) 1 3 then k0 false x1 x2 x3 x4 x5 x6 x7 x8 x9 x10 x11 x12 else bif !U61.v (cvI (cellAt x1 x3.toNat (1 + 1))) 0 (x10.length : Int) then k0 false x1 x2 x3 x4 x5 x6 x7 x8 x9 x10 x11 x12 else bif decide ((↑(ByteArray.size (cvS (cellAt x1 x3.toNat (1 + 1 + 1 + 1 + 1)))) : Int) > 400) then k0 false x1 x2 x3 x4 x5 x6 x7 x8 x9 x10 x11 x12 else bif !U61.v (cvI (cellAt x1 x3.toNat (1 + 1 + 1))) 0 x4 then k0 false x1 x2 x3 x4 x5 x6 x7 x8 x9 x10 x11 x12 else bif decide (cvI (cellAt x1 x3.toNat (1 + 1 + 1 + 1 + 1 + 1)) < 0) then k0 false x1 x2 x3 x4 x5 x6 x7 x8 x9 x10 x11 x12 else g x0 x1 x2 (w64 (x3 + 1)) x4 x5 x6 x7 x8 x9 x10 x11 x12 else none else bif !U120.v (cvS (cellAt x1 x3.toNat 1)) then k0 false x1 x2 x3 x4 x5 x6 x7 x8 x9 x10 x11 x12 else bif !U61.v (cvI (cellAt x1 x3.toNat (1 + 1 + 1 + 1))) 1 3 then k0 false x1 x2 x3 x4 x5 x6 x7 x8 x9 x10 x11 x12 else bif !U61.v (cvI (cellAt x1 x3.toNat (1 + 1))) 0 (x10.length : Int) then k0 false x1 x2 x3 x4 x5 x6 x7 x8 x9 x10 x11 x12 else bif decide ((↑(ByteArray.size (cvS (cellAt x1 x3.toNat (1 + 1 + 1 + 1 + 1)))) : Int) > 400) then k0 false x1 x2 x3 x4 x5 x6 x7 x8 x9 x10 x11 x12 else bif !U61.v (cvI (cellAt x1 x3.toNat (1 + 1 + 1))) 0 x4 then k0 false x1 x2 x3 x4 x5 x6 x7 x8 x9 x10 x11 x12 else bif decide (cvI (cellAt x1 x3.toNat (1 + 1 + 1 + 1 + 1 + 1)) < 0) then k0 false x1 x2 x3 x4 x5 x6 x7 x8 x9 x10 x11 x12 else g x0 x1 x2 (w64 (x3 + 1)) x4 x5 x6 x7 x8 x9 x10 x11 x12 else none else k1 x0 x1 x2 x3 x4 x5 x6 x7 x8 x9 x10 x11 x12
def l2 {R : Type} (N : Nat) (k0 k1 : F_briiirrrrirri R) : Nat -> F_briiirrrrirri R
 | 0 => fun _ _ _ _ _ _ _ _ _ _ _ _ _ => none
 | n + 1 => fun x0 x1 x2 x3 x4 x5 x6 x7 x8 x9 x10 x11 x12 => r2 N (l2 N k0 k1 n) k0 k1 x0 x1 x2 x3 x4 x5 x6 x7 x8 x9 x10 x11 x12
theorem q2_bind {R S : Type} (f : R -> Option S) (N : Nat) (k0 k1 : F_briiirrrrirri R) : ∀ n : Nat, (∀ (x0 : Bool) (x1 : Row) (x2 x3 x4 : Int) (x5 x6 x7 x8 : Row) (x9 : Int) (x10 x11 : Row) (x12 : Int), Option.bind (l2 N k0 k1 n x0 x1 x2 x3 x4 x5 x6 x7 x8 x9 x10 x11 x12) f = l2 N (fun y0 y1 y2 y3 y4 y5 y6 y7 y8 y9 y10 y11 y12 => Option.bind (k0 y0 y1 y2 y3 y4 y5 y6 y7 y8 y9 y10 y11 y12) f) (fun y0 y1 y2 y3 y4 y5 y6 y7 y8 y9 y10 y11 y12 => Option.bind (k1 y0 y1 y2 y3 y4 y5 y6 y7 y8 y9 y10 y11 y12) f) n x0 x1 x2 x3 x4 x5 x6 x7 x8 x9 x10 x11 x12) := by
 intro n
 induction n with
 | zero => exact fun _ _ _ _ _ _ _ _ _ _ _ _ _ => rfl
 | succ n ih =>
  intro x0 x1 x2 x3 x4 x5 x6 x7 x8 x9 x10 x11 x12
  simp only [l2, r2, Lib.B1, Lib.B2, Lib.B3, Lib.B4, ih]
variable {R : Type} (N : Nat) (kr : Bool -> Option R) (a0 : Int) (a1 a2 a3 a4 : Row) (a5 : Int) (a6 a7 : Row) (a8 : Int)
def b : Option R := l2 N (fun y13 y14 y15 y16 y17 y18 y19 y20 y21 y22 y23 y24 y25 => kr y13) (fun y26 y27 y28 y29 y30 y31 y32 y33 y34 y35 y36 y37 y38 => kr (decide ((y37.length : Int) <= 6))) N false a7 (a7.length : Int) 0 a0 a1 a2 a3 a4 a5 a6 a7 a8
theorem b_bind : b N kr a0 a1 a2 a3 a4 a5 a6 a7 a8 = Option.bind (b N (fun r0 => some r0) a0 a1 a2 a3 a4 a5 a6 a7 a8) (fun p => kr p) := by
 unfold b; simp only [Lib.B1, Lib.B2, Lib.B3, Lib.B4, q2_bind]
def vo := b Lib.big (fun r0 => some r0) a0 a1 a2 a3 a4 a5 a6 a7 a8
def c : Bool := Option.isSome (vo a0 a1 a2 a3 a4 a5 a6 a7 a8)
def v := Option.getD (vo a0 a1 a2 a3 a4 a5 a6 a7 a8) false
theorem out {x} (h : vo a0 a1 a2 a3 a4 a5 a6 a7 a8 = some x) : c a0 a1 a2 a3 a4 a5 a6 a7 a8 = true /\ v a0 a1 a2 a3 a4 a5 a6 a7 a8 = x := Lib.out_ h
theorem b_eq (hc : c a0 a1 a2 a3 a4 a5 a6 a7 a8 = true) : ∃ N, b N kr a0 a1 a2 a3 a4 a5 a6 a7 a8 = Lib.ap (fun p => kr p) (v a0 a1 a2 a3 a4 a5 a6 a7 a8) := ⟨Lib.big, Lib.bq hc (by apply b_bind)⟩
end Go.FG.U109

namespace Go.FG.U74
variable {R : Type} (kr : Bool -> Option R) (a0 : Int) (a1 a2 a3 a4 : Row) (a5 : Int) (a6 a7 : Row) (a8 : Int)
def b : Option R := bif U61.v a0 1 1000000000 then bif U107.c a0 a1 a2 a3 a4 a5 a6 a7 a8 then bif U107.v a0 a1 a2 a3 a4 a5 a6 a7 a8 then bif U108.c a0 a1 a2 a3 a4 a5 a6 a7 a8 then bif U108.v a0 a1 a2 a3 a4 a5 a6 a7 a8 then bif U109.c a0 a1 a2 a3 a4 a5 a6 a7 a8 then bif U109.v a0 a1 a2 a3 a4 a5 a6 a7 a8 then kr (U95.v a8) else kr false else none else kr false else none else kr false else none else kr false
def vo := b (fun r0 => some r0) a0 a1 a2 a3 a4 a5 a6 a7 a8
def c : Bool := Option.isSome (vo a0 a1 a2 a3 a4 a5 a6 a7 a8)
def v := Option.getD (vo a0 a1 a2 a3 a4 a5 a6 a7 a8) false
theorem out {x} (h : vo a0 a1 a2 a3 a4 a5 a6 a7 a8 = some x) : c a0 a1 a2 a3 a4 a5 a6 a7 a8 = true /\ v a0 a1 a2 a3 a4 a5 a6 a7 a8 = x := Lib.out_ h
theorem b_eq (hc : c a0 a1 a2 a3 a4 a5 a6 a7 a8 = true) : b kr a0 a1 a2 a3 a4 a5 a6 a7 a8 = Lib.ap (fun p => kr p) (v a0 a1 a2 a3 a4 a5 a6 a7 a8) := Lib.bq hc (by unfold vo b; simp only [Lib.B1, Lib.B2, Lib.B3, Lib.B4])
end Go.FG.U74

namespace Go.FG.U34
variable {R : Type} (kr : Bool -> Option R) (a0 : Int) (a1 a2 a3 a4 : Row) (a5 : Int) (a6 a7 : Row) (a8 a9 : Int)
def b : Option R := bif U74.c a0 a1 a2 a3 a4 a5 a6 a7 a8 then bif U74.v a0 a1 a2 a3 a4 a5 a6 a7 a8 then kr (U61.v a9 0 (w64 ((a6.length : Int) - 1))) else kr false else none
def vo := b (fun r0 => some r0) a0 a1 a2 a3 a4 a5 a6 a7 a8 a9
def c : Bool := Option.isSome (vo a0 a1 a2 a3 a4 a5 a6 a7 a8 a9)
def v := Option.getD (vo a0 a1 a2 a3 a4 a5 a6 a7 a8 a9) false
theorem out {x} (h : vo a0 a1 a2 a3 a4 a5 a6 a7 a8 a9 = some x) : c a0 a1 a2 a3 a4 a5 a6 a7 a8 a9 = true /\ v a0 a1 a2 a3 a4 a5 a6 a7 a8 a9 = x := Lib.out_ h
theorem b_eq (hc : c a0 a1 a2 a3 a4 a5 a6 a7 a8 a9 = true) : b kr a0 a1 a2 a3 a4 a5 a6 a7 a8 a9 = Lib.ap (fun p => kr p) (v a0 a1 a2 a3 a4 a5 a6 a7 a8 a9) := Lib.bq hc (by unfold vo b; simp only [Lib.B1, Lib.B2, Lib.B3, Lib.B4])
end Go.FG.U34

namespace Go.FG.U85
def b {R : Type} (kr : F_isr R) (a0 : Int) (a1 : ByteArray) (a2 : Row) : Option R := bif roomy (List.length (zeros [Ck.i IntKind.i64, Ck.i IntKind.i64] 0) + a2.length) 16 then kr a0 a1 (zeros [Ck.i IntKind.i64, Ck.i IntKind.i64] 0 ++ a2) else none
def v (s0_0 : Int) (s0_1 : ByteArray) (s0_2 : Row) : Int × ByteArray × Row := (s0_0, s0_1, s0_2)
def c (s0_0 : Int) (s0_1 : ByteArray) (s0_2 : Row) : Bool := decide (s0_2.length <= 4294967296)
theorem b_eq {R : Type} (kr : F_isr R) (s0_0 : Int) (s0_1 : ByteArray) (s0_2 : Row) (hc : c s0_0 s0_1 s0_2 = true) : b kr s0_0 s0_1 s0_2 = kr (v s0_0 s0_1 s0_2).1 (v s0_0 s0_1 s0_2).2.1 (v s0_0 s0_1 s0_2).2.2 := by
 have h : s0_2.length <= 4294967296 := of_decide_eq_true hc
 unfold b
 rw [show List.length (zeros [Ck.i IntKind.i64, Ck.i IntKind.i64] 0) + s0_2.length = s0_2.length by simp [zeros], Lib.roomy_of (by omega) (by omega)]
 rfl
end Go.FG.U85

namespace Go.FG.U86
def r2 {R : Type} (N : Nat) (g k0 k1 : F_briiisr R) (x0 : Bool) (x1 : Row) (x2 x3 x4 : Int) (x5 : ByteArray) (x6 : Row) : Option R := bif decide (x3 < x2) then bif decide (0 <= x3) && decide (x3 < (x1.length : Int)) then bif !U61.v (cvI (cellAt x1 x3.toNat 0)) 1 9 then k0 false x1 x2 x3 x4 x5 x6 else bif !U61.v (cvI (cellAt x1 x3.toNat 1)) 0 (x5.size : Int) then k0 false x1 x2 x3 x4 x5 x6 else bif decide (x3 > 0) then bif decide (0 <= w64 (x3 - 1)) && decide (w64 (x3 - 1) < (x6.length : Int)) then bif decide (cvI (cellAt x6 (Int.toNat (w64 (x3 - 1))) 0) ≥ cvI (cellAt x1 x3.toNat 0)) then k0 false x1 x2 x3 x4 x5 x6 else g x0 x1 x2 (w64 (x3 + 1)) x4 x5 x6 else none else g x0 x1 x2 (w64 (x3 + 1)) x4 x5 x6 else none else k1 x0 x1 x2 x3 x4 x5 x6
def l2 {R : Type} (N : Nat) (k0 k1 : F_briiisr R) : Nat -> F_briiisr R
 | 0 => fun _ _ _ _ _ _ _ => none
 | n + 1 => fun x0 x1 x2 x3 x4 x5 x6 => r2 N (l2 N k0 k1 n) k0 k1 x0 x1 x2 x3 x4 x5 x6
def b {R : Type} (N : Nat) (kr : Bool -> Option R) (a0 : Int) (a1 : ByteArray) (a2 : Row) : Option R := l2 N (fun y7 y8 y9 y10 y11 y12 y13 => kr y7) (fun y14 y15 y16 y17 y18 y19 y20 => bif U61.v y18 1 3 then bif decide ((y19.size : Int) <= 400) then kr (decide ((y20.length : Int) <= 6)) else kr false else kr false) N false a2 (a2.length : Int) 0 a0 a1 a2
def v (s0_0 : Int) (s0_1 : ByteArray) (s0_2 : Row) : Bool := (List.range s0_2.length).all (U84.el s0_1 s0_2) && U84.rest s0_0 s0_1 s0_2
theorem b_eq {R : Type} (kr : Bool -> Option R) (s0_0 : Int) (s0_1 : ByteArray) (s0_2 : Row) (f0 : okS s0_1) (f1 : FitR s0_2) : ∃ N, b N kr s0_0 s0_1 s0_2 = kr (v s0_0 s0_1 s0_2) := by
 refine ⟨s0_2.length + 1, ?_⟩
 unfold b
 have ew : U61.v = U60.v := rfl
 simp only [ew, U84.rest_eq]
 have := Lib.loop_gen (fun n (i : Nat) => l2 (s0_2.length + 1) (fun y7 y8 y9 y10 y11 y12 y13 => kr y7) (fun y14 y15 y16 y17 y18 y19 y20 => kr (U84.rest y18 y19 y20)) n false s0_2 s0_2.length i s0_0 s0_1 s0_2) (fun i => s0_2.length - i) (fun i => i <= s0_2.length)
  (fun i => kr ((List.range' i (s0_2.length - i)).all (U84.el s0_1 s0_2) && U84.rest s0_0 s0_1 s0_2)) (fun n i hi => by
  simp only [l2, r2, ew, Lib.dlt, Lib.dle0, Lib.toN, Bool.true_and, U84.in_eq]
  by_cases h : i < s0_2.length
  ·rw [U84.all_from _ h]
   simp only [h, decide_true, cond_true, Lib.w64_s h f1.1]
   cases h1 : decide (1 <= cvI (cellAt s0_2 i 0) /\ cvI (cellAt s0_2 i 0) <= 9) with
   | false => left; simp [U84.el, h1]
   | true =>
    simp only [Bool.not_true, cond_false]
    cases h3 : decide (0 <= cvI (cellAt s0_2 i 1) /\ cvI (cellAt s0_2 i 1) <= s0_1.size) with
    | false => left; simp [U84.el, h3]
    | true =>
     simp only [Bool.not_true, cond_false]
     by_cases hz : 0 < i
     ·have e0 : decide ((i : Int) > 0) = true := by simp; omega
      have hp : i - 1 < s0_2.length := by omega
      have hi0 : (i == 0) = false := by simp; omega
      simp only [e0, cond_true, U84.w64_p hz (by have := f1.1; omega), Lib.dle0, Lib.dlt, Lib.toN, hp, decide_true, Bool.and_self]
      cases h2 : decide (cvI (cellAt s0_2 (i - 1) 0) ≥ cvI (cellAt s0_2 i 0)) with
      | true =>
       left
       have e3 : decide (cvI (cellAt s0_2 (i - 1) 0) < cvI (cellAt s0_2 i 0)) = false := by simp at h2 ⊢; omega
       simp [U84.el, e3, hi0]
      | false =>
       have e3 : decide (cvI (cellAt s0_2 (i - 1) 0) < cvI (cellAt s0_2 i 0)) = true := by simp at h2 ⊢; omega
       right; exact ⟨i + 1, h, by omega, by simp only [U84.el, h1, h3, e3, Bool.or_true, Bool.true_and], rfl⟩
     ·have hz : i = 0 := by omega
      subst hz
      simp only [show decide (((0 : Nat) : Int) > 0) = false from rfl, cond_false]
      right; exact ⟨1, h, by omega, by simp only [U84.el, h1, h3, Bool.true_and]; rfl, rfl⟩
  ·left
   have h0 : s0_2.length - i = 0 := by omega
   simp only [h, decide_false, cond_false, h0, List.range'_zero, List.all_nil, Bool.true_and]) (s0_2.length + 1) 0 (by omega) (by omega)
 refine this.trans ?_
 unfold v
 rw [Nat.sub_zero, <- List.range_eq_range']
end Go.FG.U86

namespace Go.FG.U47
def b {R : Type} (kr : F_isrb R) (a0 : Int) (a1 : ByteArray) (a2 : Row) (a3 : ByteArray) : Option R := bif U85.c a0 a1 a2 then bif !U86.v a0 a1 a2 then kr a0 a1 a2 false else bif a0 != 1 then kr a0 a1 a2 false else bif !U61.v (a3.size : Int) 1 40 then kr a0 a1 a2 false else bif decide (w64 ((a1.size : Int) + (a3.size : Int)) > 400) then kr a0 a1 a2 false else bif decide (a1.size + a3.size <= 4611686018427387904) then kr a0 (a1 ++ a3) a2 true else none else none
def v (s0_0 : Int) (s0_1 : ByteArray) (s0_2 : Row) (part1 : ByteArray) : Int × ByteArray × Row × Bool :=
 if U84.v s0_0 s0_1 s0_2 = true /\ s0_0 = 1 /\ 1 <= part1.size /\ part1.size <= 40 /\ s0_1.size + part1.size <= 400 then (s0_0, s0_1 ++ part1, s0_2, true) else (s0_0, s0_1, s0_2, false)
def c (s0_0 : Int) (s0_1 : ByteArray) (s0_2 : Row) (part1 : ByteArray) : Bool := decide (s0_2.length <= 4294967296)
theorem b_eq {R : Type} (kr : F_isrb R) (s0_0 : Int) (s0_1 : ByteArray) (s0_2 : Row) (part1 : ByteArray) (hc : c s0_0 s0_1 s0_2 part1 = true) (f0 : okS s0_1) (f1 : FitR s0_2) (f2 : okS part1) : b kr s0_0 s0_1 s0_2 part1 = kr (v s0_0 s0_1 s0_2 part1).1 (v s0_0 s0_1 s0_2 part1).2.1 (v s0_0 s0_1 s0_2 part1).2.2.1 (v s0_0 s0_1 s0_2 part1).2.2.2 := by
 have hs1 : s0_1.size <= 4611686018427387904 := f0
 have hs2 : part1.size <= 4611686018427387904 := f2
 have e1 : U85.c s0_0 s0_1 s0_2 = true := hc
 have e2 : ∀ a b c, U86.v a b c = U84.v a b c := fun _ _ _ => rfl
 have e3 : ∀ n a b, U61.v n a b = decide (a <= n /\ n <= b) := U84.in_eq
 unfold b v
 rw [e1, e2, e3, cond_true]
 cases h1 : U84.v s0_0 s0_1 s0_2 with
 | false => simp
 | true =>
  by_cases h2 : s0_0 = 1
  ·by_cases h3 : 1 <= (part1.size : Int) /\ (part1.size : Int) <= 40
   ·have e4 : w64 ((s0_1.size : Int) + (part1.size : Int)) = s0_1.size + part1.size := w64_eq (by omega) (by omega)
    rw [e4, decide_eq_true h3]
    by_cases h4 : (s0_1.size : Int) + (part1.size : Int) > 400
    ·rw [Lib.dec_t h4, if_neg (by omega)]; simp [h2]
    ·rw [Lib.dec_f h4, if_pos (by refine ⟨rfl, h2, ?_, ?_, ?_⟩ <;> omega), Lib.dec_t (show s0_1.size + part1.size <= 4611686018427387904 by omega)]; simp [h2]
   ·rw [decide_eq_false h3, if_neg (by omega)]; simp
  ·have hne : (s0_0 != 1) = true := bne_iff_ne.mpr h2
   rw [if_neg (by simp [h2]), hne]; rfl
end Go.FG.U47

namespace Go.FG.U48
def r1 {R : Type} (N : Nat) (g k0 : F_iiiiiirrrrrr R) (x0 x1 x2 x3 x4 x5 : Int) (x6 x7 x8 x9 x10 x11 : Row) : Option R := bif decide (x2 < x1) then bif decide (0 <= x2) && decide (x2 < (x6.length : Int)) then bif decide (cvI (cellAt x6 x2.toNat (1 + 1)) = w64 (x0 + 1)) then bif decide (cvI (cellAt x6 x2.toNat (1 + 1 + 1 + 1)) = 1) then bif decide (0 <= x0) && decide (x0 < (x11.length : Int)) then bif decide (0 <= x2) && decide (x2 < (x6.length : Int)) then g x0 x1 (w64 (x2 + 1)) x3 x4 x5 (setC x6 x2.toNat 5 [CV.s (cvS (cellAt x11 x0.toNat 1))]) x7 x8 x9 x10 x11 else none else none else g x0 x1 (w64 (x2 + 1)) x3 x4 x5 x6 x7 x8 x9 x10 x11 else g x0 x1 (w64 (x2 + 1)) x3 x4 x5 x6 x7 x8 x9 x10 x11 else none else k0 x0 x1 x2 x3 x4 x5 x6 x7 x8 x9 x10 x11
def l1 {R : Type} (N : Nat) (k0 : F_iiiiiirrrrrr R) : Nat -> F_iiiiiirrrrrr R
 | 0 => fun _ _ _ _ _ _ _ _ _ _ _ _ => none
 | n + 1 => fun x0 x1 x2 x3 x4 x5 x6 x7 x8 x9 x10 x11 => r1 N (l1 N k0 n) k0 x0 x1 x2 x3 x4 x5 x6 x7 x8 x9 x10 x11
theorem q1_bind {R S : Type} (f : R -> Option S) (N : Nat) (k0 : F_iiiiiirrrrrr R) : ∀ n : Nat, (∀ (x0 x1 x2 x3 x4 x5 : Int) (x6 x7 x8 x9 x10 x11 : Row), Option.bind (l1 N k0 n x0 x1 x2 x3 x4 x5 x6 x7 x8 x9 x10 x11) f = l1 N (fun y0 y1 y2 y3 y4 y5 y6 y7 y8 y9 y10 y11 => Option.bind (k0 y0 y1 y2 y3 y4 y5 y6 y7 y8 y9 y10 y11) f) n x0 x1 x2 x3 x4 x5 x6 x7 x8 x9 x10 x11) := by
 intro n
 induction n with
 | zero => exact fun _ _ _ _ _ _ _ _ _ _ _ _ => rfl
 | succ n ih =>
  intro x0 x1 x2 x3 x4 x5 x6 x7 x8 x9 x10 x11
  simp only [l1, r1, Lib.B1, Lib.B2, Lib.B3, Lib.B4, ih]
variable {R : Type} (N : Nat) (kr : F_irrrrirri R) (a0 : Int) (a1 a2 a3 a4 : Row) (a5 : Int) (a6 a7 : Row) (a8 a9 : Int)
def b : Option R := l1 N (fun y12 y13 y14 y15 y16 y17 y18 y19 y20 y21 y22 y23 => kr y15 y19 y20 y21 y22 y16 y23 y18 y17) N a9 (a7.length : Int) 0 a0 a5 a8 a7 a1 a2 a3 a4 a6
theorem b_bind : b N kr a0 a1 a2 a3 a4 a5 a6 a7 a8 a9 = Option.bind (b N (fun r0 r1 r2 r3 r4 r5 r6 r7 r8 => some (r0, r1, r2, r3, r4, r5, r6, r7, r8)) a0 a1 a2 a3 a4 a5 a6 a7 a8 a9) (fun p => kr p.1 p.2.1 p.2.2.1 p.2.2.2.1 p.2.2.2.2.1 p.2.2.2.2.2.1 p.2.2.2.2.2.2.1 p.2.2.2.2.2.2.2.1 p.2.2.2.2.2.2.2.2) := by
 unfold b; simp only [Lib.B1, Lib.B2, Lib.B3, Lib.B4, q1_bind]
def vo := b Lib.big (fun r0 r1 r2 r3 r4 r5 r6 r7 r8 => some (r0, r1, r2, r3, r4, r5, r6, r7, r8)) a0 a1 a2 a3 a4 a5 a6 a7 a8 a9
def c : Bool := Option.isSome (vo a0 a1 a2 a3 a4 a5 a6 a7 a8 a9)
def v := Option.getD (vo a0 a1 a2 a3 a4 a5 a6 a7 a8 a9) (0, [], [], [], [], 0, [], [], 0)
theorem out {x} (h : vo a0 a1 a2 a3 a4 a5 a6 a7 a8 a9 = some x) : c a0 a1 a2 a3 a4 a5 a6 a7 a8 a9 = true /\ v a0 a1 a2 a3 a4 a5 a6 a7 a8 a9 = x := Lib.out_ h
theorem b_eq (hc : c a0 a1 a2 a3 a4 a5 a6 a7 a8 a9 = true) : ∃ N, b N kr a0 a1 a2 a3 a4 a5 a6 a7 a8 a9 = Lib.ap (fun p => kr p.1 p.2.1 p.2.2.1 p.2.2.2.1 p.2.2.2.2.1 p.2.2.2.2.2.1 p.2.2.2.2.2.2.1 p.2.2.2.2.2.2.2.1 p.2.2.2.2.2.2.2.2) (v a0 a1 a2 a3 a4 a5 a6 a7 a8 a9) := ⟨Lib.big, Lib.bq hc (by apply b_bind)⟩
end Go.FG.U48

namespace Go.FG.U15
variable {R : Type} (kr : F_irrrrirrib R) (a0 : Int) (a1 a2 a3 a4 : Row) (a5 : Int) (a6 a7 : Row) (a8 a9 : Int) (a10 : ByteArray)
def b : Option R := bif U33.c a0 a1 a2 a3 a4 a5 a6 a7 a8 then Lib.lt (U33.v a0 a1 a2 a3 a4 a5 a6 a7 a8) fun t0 => bif U34.c a0 a1 a2 a3 a4 a5 a6 a7 a8 a9 then Lib.lt (U34.v a0 a1 a2 a3 a4 a5 a6 a7 a8 a9) fun t1 => bif !t1 then kr t0.1 t0.2.1 t0.2.2.1 t0.2.2.2.1 t0.2.2.2.2.1 t0.2.2.2.2.2.1 t0.2.2.2.2.2.2.1 t0.2.2.2.2.2.2.2.1 t0.2.2.2.2.2.2.2.2 false else bif decide (0 <= a9) && decide (a9 < (a6.length : Int)) then bif decide (0 <= a9) && decide (a9 < (a6.length : Int)) then bif !(U47.v (cvI (cellAt a6 a9.toNat 2)) (cvS (cellAt a6 a9.toNat 1)) [] a10).2.2.2 then kr t0.1 t0.2.1 t0.2.2.1 t0.2.2.2.1 t0.2.2.2.2.1 t0.2.2.2.2.2.1 t0.2.2.2.2.2.2.1 t0.2.2.2.2.2.2.2.1 t0.2.2.2.2.2.2.2.2 false else bif decide (0 <= a9) && decide (a9 < (t0.2.2.2.2.2.2.1.length : Int)) then bif U48.c t0.1 t0.2.1 t0.2.2.1 t0.2.2.2.1 t0.2.2.2.2.1 t0.2.2.2.2.2.1 (setC t0.2.2.2.2.2.2.1 a9.toNat 1 [CV.s (U47.v (cvI (cellAt a6 a9.toNat 2)) (cvS (cellAt a6 a9.toNat 1)) [] a10).2.1]) t0.2.2.2.2.2.2.2.1 t0.2.2.2.2.2.2.2.2 a9 then Lib.lt (U48.v t0.1 t0.2.1 t0.2.2.1 t0.2.2.2.1 t0.2.2.2.2.1 t0.2.2.2.2.2.1 (setC t0.2.2.2.2.2.2.1 a9.toNat 1 [CV.s (U47.v (cvI (cellAt a6 a9.toNat 2)) (cvS (cellAt a6 a9.toNat 1)) [] a10).2.1]) t0.2.2.2.2.2.2.2.1 t0.2.2.2.2.2.2.2.2 a9) fun t2 => kr t2.1 t2.2.1 t2.2.2.1 t2.2.2.2.1 t2.2.2.2.2.1 t2.2.2.2.2.2.1 t2.2.2.2.2.2.2.1 t2.2.2.2.2.2.2.2.1 t2.2.2.2.2.2.2.2.2 true else none else none else none else none else none else none
def vo := b (fun r0 r1 r2 r3 r4 r5 r6 r7 r8 r9 => some (r0, r1, r2, r3, r4, r5, r6, r7, r8, r9)) a0 a1 a2 a3 a4 a5 a6 a7 a8 a9 a10
def c : Bool := Option.isSome (vo a0 a1 a2 a3 a4 a5 a6 a7 a8 a9 a10)
def v := Option.getD (vo a0 a1 a2 a3 a4 a5 a6 a7 a8 a9 a10) (0, [], [], [], [], 0, [], [], 0, false)
theorem out {x} (h : vo a0 a1 a2 a3 a4 a5 a6 a7 a8 a9 a10 = some x) : c a0 a1 a2 a3 a4 a5 a6 a7 a8 a9 a10 = true /\ v a0 a1 a2 a3 a4 a5 a6 a7 a8 a9 a10 = x := Lib.out_ h
theorem b_eq (hc : c a0 a1 a2 a3 a4 a5 a6 a7 a8 a9 a10 = true) : b kr a0 a1 a2 a3 a4 a5 a6 a7 a8 a9 a10 = Lib.ap (fun p => kr p.1 p.2.1 p.2.2.1 p.2.2.2.1 p.2.2.2.2.1 p.2.2.2.2.2.1 p.2.2.2.2.2.2.1 p.2.2.2.2.2.2.2.1 p.2.2.2.2.2.2.2.2.1 p.2.2.2.2.2.2.2.2.2) (v a0 a1 a2 a3 a4 a5 a6 a7 a8 a9 a10) := Lib.bq hc (by unfold vo b; simp only [Lib.B1, Lib.B2, Lib.B3, Lib.B4])
end Go.FG.U15

namespace Go.FG.U58
def b {R : Type} (kr : Bool -> Option R) (a0 : ByteArray) (a1 a2 : Int) (a3 a4 : ByteArray) (a5 a6 : Int) (a7 : ByteArray) : Option R := bif !List.beq (ByteArray.toList a0) (ByteArray.toList a4) then kr false else bif a1 != a5 then kr false else bif a2 != a6 then kr false else bif !List.beq (ByteArray.toList a3) (ByteArray.toList a7) then kr false else kr true
def v (a0 : ByteArray) (a1 a2 : Int) (a3 a4 : ByteArray) (a5 a6 : Int) (a7 : ByteArray) : Bool := bif !List.beq (ByteArray.toList a0) (ByteArray.toList a4) then false else bif a1 != a5 then false else bif a2 != a6 then false else bif !List.beq (ByteArray.toList a3) (ByteArray.toList a7) then false else true
theorem b_eq {R : Type} (kr : Bool -> Option R) (a0 : ByteArray) (a1 a2 : Int) (a3 a4 : ByteArray) (a5 a6 : Int) (a7 : ByteArray) : b kr a0 a1 a2 a3 a4 a5 a6 a7 = kr (v a0 a1 a2 a3 a4 a5 a6 a7) := by
 first | rfl | (unfold b v; simp only [Bool.cond_eq_ite]; (repeat' split) <;> rfl)
end Go.FG.U58

namespace Go.FG.U20
def r4 {R : Type} (N : Nat) (g k0 k1 : F_rrbi R) (x0 x1 : Row) (x2 : Bool) (x3 : Int) : Option R := bif decide (x3 < (x0.length : Int)) then bif decide (0 <= x3) && decide (x3 < (x0.length : Int)) then bif decide (0 <= x3) && decide (x3 < (x1.length : Int)) then bif !U58.v (cvS (cellAt x0 x3.toNat 0)) (cvI (cellAt x0 x3.toNat 1)) (cvI (cellAt x0 x3.toNat (1 + 1))) (cvS (cellAt x0 x3.toNat (1 + 1 + 1))) (cvS (cellAt x1 x3.toNat 0)) (cvI (cellAt x1 x3.toNat 1)) (cvI (cellAt x1 x3.toNat (1 + 1))) (cvS (cellAt x1 x3.toNat (1 + 1 + 1))) then k0 x0 x1 false x3 else g x0 x1 x2 (w64 (x3 + 1)) else none else none else k1 x0 x1 x2 x3
def l4 {R : Type} (N : Nat) (k0 k1 : F_rrbi R) : Nat -> F_rrbi R
 | 0 => fun _ _ _ _ => none
 | n + 1 => fun x0 x1 x2 x3 => r4 N (l4 N k0 k1 n) k0 k1 x0 x1 x2 x3
theorem q4_bind {R S : Type} (f : R -> Option S) (N : Nat) (k0 k1 : F_rrbi R) : ∀ n : Nat, (∀ (x0 x1 : Row) (x2 : Bool) (x3 : Int), Option.bind (l4 N k0 k1 n x0 x1 x2 x3) f = l4 N (fun y0 y1 y2 y3 => Option.bind (k0 y0 y1 y2 y3) f) (fun y0 y1 y2 y3 => Option.bind (k1 y0 y1 y2 y3) f) n x0 x1 x2 x3) := by
 intro n
 induction n with
 | zero => exact fun _ _ _ _ => rfl
 | succ n ih =>
  intro x0 x1 x2 x3
  simp only [l4, r4, Lib.B1, Lib.B2, Lib.B3, Lib.B4, ih]
variable {R : Type} (N : Nat) (kr : Bool -> Option R) (a0 a1 : Row)
def b : Option R := bif (a0.length : Int) != (a1.length : Int) then kr false else l4 N (fun y4 y5 y6 y7 => kr y6) (fun y8 y9 y10 y11 => kr true) N a0 a1 false 0
theorem b_bind : b N kr a0 a1 = Option.bind (b N (fun r0 => some r0) a0 a1) (fun p => kr p) := by
 unfold b; simp only [Lib.B1, Lib.B2, Lib.B3, Lib.B4, q4_bind]
def vo := b Lib.big (fun r0 => some r0) a0 a1
def c : Bool := Option.isSome (vo a0 a1)
def v := Option.getD (vo a0 a1) false
theorem out {x} (h : vo a0 a1 = some x) : c a0 a1 = true /\ v a0 a1 = x := Lib.out_ h
theorem b_eq (hc : c a0 a1 = true) : ∃ N, b N kr a0 a1 = Lib.ap (fun p => kr p) (v a0 a1) := ⟨Lib.big, Lib.bq hc (by apply b_bind)⟩
end Go.FG.U20

namespace Go.FG.U75
def r4 {R : Type} (N : Nat) (g k0 k1 : F_rrbi R) (x0 x1 : Row) (x2 : Bool) (x3 : Int) : Option R := bif decide (x3 < (x0.length : Int)) then bif decide (0 <= x3) && decide (x3 < (x0.length : Int)) then bif decide (0 <= x3) && decide (x3 < (x1.length : Int)) then bif !List.beq (ByteArray.toList (cvS (cellAt x0 x3.toNat 0))) (ByteArray.toList (cvS (cellAt x1 x3.toNat 0))) then k0 x0 x1 false x3 else g x0 x1 x2 (w64 (x3 + 1)) else none else none else k1 x0 x1 x2 x3
def l4 {R : Type} (N : Nat) (k0 k1 : F_rrbi R) : Nat -> F_rrbi R
 | 0 => fun _ _ _ _ => none
 | n + 1 => fun x0 x1 x2 x3 => r4 N (l4 N k0 k1 n) k0 k1 x0 x1 x2 x3
theorem q4_bind {R S : Type} (f : R -> Option S) (N : Nat) (k0 k1 : F_rrbi R) : ∀ n : Nat, (∀ (x0 x1 : Row) (x2 : Bool) (x3 : Int), Option.bind (l4 N k0 k1 n x0 x1 x2 x3) f = l4 N (fun y0 y1 y2 y3 => Option.bind (k0 y0 y1 y2 y3) f) (fun y0 y1 y2 y3 => Option.bind (k1 y0 y1 y2 y3) f) n x0 x1 x2 x3) := by
 intro n
 induction n with
 | zero => exact fun _ _ _ _ => rfl
 | succ n ih =>
  intro x0 x1 x2 x3
  simp only [l4, r4, Lib.B1, Lib.B2, Lib.B3, Lib.B4, ih]
variable {R : Type} (N : Nat) (kr : Bool -> Option R) (a0 a1 : Row)
def b : Option R := bif (a0.length : Int) != (a1.length : Int) then kr false else l4 N (fun y4 y5 y6 y7 => kr y6) (fun y8 y9 y10 y11 => kr true) N a0 a1 false 0
theorem b_bind : b N kr a0 a1 = Option.bind (b N (fun r0 => some r0) a0 a1) (fun p => kr p) := by
 unfold b; simp only [Lib.B1, Lib.B2, Lib.B3, Lib.B4, q4_bind]
def vo := b Lib.big (fun r0 => some r0) a0 a1
def c : Bool := Option.isSome (vo a0 a1)
def v := Option.getD (vo a0 a1) false
theorem out {x} (h : vo a0 a1 = some x) : c a0 a1 = true /\ v a0 a1 = x := Lib.out_ h
theorem b_eq (hc : c a0 a1 = true) : ∃ N, b N kr a0 a1 = Lib.ap (fun p => kr p) (v a0 a1) := ⟨Lib.big, Lib.bq hc (by apply b_bind)⟩
end Go.FG.U75

namespace Go.FG.U134
def r4 {R : Type} (N : Nat) (g k0 k1 : F_rrbi R) (x0 x1 : Row) (x2 : Bool) (x3 : Int) : Option R := bif decide (x3 < (x0.length : Int)) then bif decide (0 <= x3) && decide (x3 < (x0.length : Int)) then bif decide (0 <= x3) && decide (x3 < (x1.length : Int)) then bif cvI (cellAt x0 x3.toNat 0) != cvI (cellAt x1 x3.toNat 0) then k0 x0 x1 false x3 else g x0 x1 x2 (w64 (x3 + 1)) else none else none else k1 x0 x1 x2 x3
def l4 {R : Type} (N : Nat) (k0 k1 : F_rrbi R) : Nat -> F_rrbi R
 | 0 => fun _ _ _ _ => none
 | n + 1 => fun x0 x1 x2 x3 => r4 N (l4 N k0 k1 n) k0 k1 x0 x1 x2 x3
def b {R : Type} (N : Nat) (kr : Bool -> Option R) (a0 a1 : Row) : Option R := bif (a0.length : Int) != (a1.length : Int) then kr false else l4 N (fun y4 y5 y6 y7 => kr y6) (fun y8 y9 y10 y11 => kr true) N a0 a1 false 0
def v (a0 : Row) (b1 : Row) : Bool := (a0.length == b1.length) && (List.range a0.length).all fun i => !(cvI (cellAt a0 i 0) != cvI (cellAt b1 i 0))
def fr (a b : Row) (i : Nat) : Bool := (List.range' i (a.length - i)).all fun i => !(cvI (cellAt a i 0) != cvI (cellAt b i 0))
theorem run {R : Type} (N : Nat) (kr : Bool -> Option R) (a b : Row) (hl : a.length = b.length) (ha : FitR a) : ∀ n (i : Nat), i <= a.length -> a.length - i < n -> l4 N (fun _ _ y _ => kr y) (fun _ _ _ _ => kr true) n a b false i = kr (fr a b i) := by
 refine Lib.loop_gen (fun n (i : Nat) => l4 N (fun _ _ y _ => kr y) (fun _ _ _ _ => kr true) n a b false i) (fun i => a.length - i) (fun i => i <= a.length) (fun i => kr (fr a b i)) (fun n i hi => ?_)
 simp only [l4, r4, Lib.dlt, Lib.dle0, Lib.toN, Bool.true_and]
 by_cases h : i < a.length
 ·have e : a.length - i = (a.length - (i + 1)) + 1 := by omega
  have hf : fr a b i = (!(cvI (cellAt a i 0) != cvI (cellAt b i 0)) && fr a b (i + 1)) := by
   unfold fr; rw [e, List.range'_succ, List.all_cons]
  have hb : i < b.length := by omega
  simp only [h, hb, decide_true, cond_true, Lib.w64_s h ha.1]
  cases hv : (cvI (cellAt a i 0) != cvI (cellAt b i 0)) with
  | false => exact .inr ⟨i + 1, h, by omega, by rw [hf, hv]; rfl, rfl⟩
  | true => left; rw [hf, hv]; rfl
 ·left
  have : a.length - i = 0 := by omega
  simp only [h, decide_false, cond_false]
  unfold fr; rw [this]; rfl
theorem b_eq {R : Type} (kr : Bool -> Option R) (a0 : Row) (b1 : Row) (f0 : FitR a0) (f1 : FitR b1) : ∃ N, b N kr a0 b1 = kr (v a0 b1) := by
 refine ⟨a0.length + 1, ?_⟩
 unfold b v
 by_cases hl : a0.length = b1.length
 ·have e : ((a0.length : Int) != (b1.length : Int)) = false := by simp [hl]
  rw [e, cond_false]
  refine (run _ kr a0 b1 hl f0 (a0.length + 1) 0 (by omega) (by omega)).trans ?_
  unfold fr; rw [show (a0.length == b1.length) = true by simp [hl], Nat.sub_zero, <- List.range_eq_range']; rfl
 ·have e : ((a0.length : Int) != (b1.length : Int)) = true := by simp; omega
  have e2 : (a0.length == b1.length) = false := by simp; omega
  rw [e, cond_true, e2]; rfl
theorem refl (a : Row) : v a a = true := by unfold v; simp
end Go.FG.U134

namespace Go.FG.U110
def r4 {R : Type} (N : Nat) (g k0 k1 : F_rrbi R) (x0 x1 : Row) (x2 : Bool) (x3 : Int) : Option R := bif decide (x3 < (x0.length : Int)) then bif decide (0 <= x3) && decide (x3 < (x0.length : Int)) then bif decide (0 <= x3) && decide (x3 < (x1.length : Int)) then bif !U134.v (cvL (cellAt x0 x3.toNat 0)) (cvL (cellAt x1 x3.toNat 0)) then k0 x0 x1 false x3 else g x0 x1 x2 (w64 (x3 + 1)) else none else none else k1 x0 x1 x2 x3
def l4 {R : Type} (N : Nat) (k0 k1 : F_rrbi R) : Nat -> F_rrbi R
 | 0 => fun _ _ _ _ => none
 | n + 1 => fun x0 x1 x2 x3 => r4 N (l4 N k0 k1 n) k0 k1 x0 x1 x2 x3
theorem q4_bind {R S : Type} (f : R -> Option S) (N : Nat) (k0 k1 : F_rrbi R) : ∀ n : Nat, (∀ (x0 x1 : Row) (x2 : Bool) (x3 : Int), Option.bind (l4 N k0 k1 n x0 x1 x2 x3) f = l4 N (fun y0 y1 y2 y3 => Option.bind (k0 y0 y1 y2 y3) f) (fun y0 y1 y2 y3 => Option.bind (k1 y0 y1 y2 y3) f) n x0 x1 x2 x3) := by
 intro n
 induction n with
 | zero => exact fun _ _ _ _ => rfl
 | succ n ih =>
  intro x0 x1 x2 x3
  simp only [l4, r4, Lib.B1, Lib.B2, Lib.B3, Lib.B4, ih]
variable {R : Type} (N : Nat) (kr : Bool -> Option R) (a0 a1 : Row)
def b : Option R := bif (a0.length : Int) != (a1.length : Int) then kr false else l4 N (fun y4 y5 y6 y7 => kr y6) (fun y8 y9 y10 y11 => kr true) N a0 a1 false 0
theorem b_bind : b N kr a0 a1 = Option.bind (b N (fun r0 => some r0) a0 a1) (fun p => kr p) := by
 unfold b; simp only [Lib.B1, Lib.B2, Lib.B3, Lib.B4, q4_bind]
def vo := b Lib.big (fun r0 => some r0) a0 a1
def c : Bool := Option.isSome (vo a0 a1)
def v := Option.getD (vo a0 a1) false
theorem out {x} (h : vo a0 a1 = some x) : c a0 a1 = true /\ v a0 a1 = x := Lib.out_ h
theorem b_eq (hc : c a0 a1 = true) : ∃ N, b N kr a0 a1 = Lib.ap (fun p => kr p) (v a0 a1) := ⟨Lib.big, Lib.bq hc (by apply b_bind)⟩
end Go.FG.U110

namespace Go.FG.U76
variable {R : Type} (kr : Bool -> Option R) (a0 : Row) (a1 : Int) (a2 : Row) (a3 : Int)
def b : Option R := bif U110.c a0 a2 then bif !U110.v a0 a2 then kr false else bif a1 != a3 then kr false else kr true else none
def vo := b (fun r0 => some r0) a0 a1 a2 a3
def c : Bool := Option.isSome (vo a0 a1 a2 a3)
def v := Option.getD (vo a0 a1 a2 a3) false
theorem out {x} (h : vo a0 a1 a2 a3 = some x) : c a0 a1 a2 a3 = true /\ v a0 a1 a2 a3 = x := Lib.out_ h
theorem b_eq (hc : c a0 a1 a2 a3 = true) : b kr a0 a1 a2 a3 = Lib.ap (fun p => kr p) (v a0 a1 a2 a3) := Lib.bq hc (by unfold vo b; simp only [Lib.B1, Lib.B2, Lib.B3, Lib.B4])
end Go.FG.U76

namespace Go.FG.U36
variable {R : Type} (kr : Bool -> Option R) (a0 a1 a2 : Row) (a3 : Int) (a4 a5 a6 : Row) (a7 : Int)
def b : Option R := bif U75.c a0 a4 then bif !U75.v a0 a4 then kr false else bif U75.c a1 a5 then bif !U75.v a1 a5 then kr false else bif U76.c a2 a3 a6 a7 then bif !U76.v a2 a3 a6 a7 then kr false else kr true else none else none else none
def vo := b (fun r0 => some r0) a0 a1 a2 a3 a4 a5 a6 a7
def c : Bool := Option.isSome (vo a0 a1 a2 a3 a4 a5 a6 a7)
def v := Option.getD (vo a0 a1 a2 a3 a4 a5 a6 a7) false
theorem out {x} (h : vo a0 a1 a2 a3 a4 a5 a6 a7 = some x) : c a0 a1 a2 a3 a4 a5 a6 a7 = true /\ v a0 a1 a2 a3 a4 a5 a6 a7 = x := Lib.out_ h
theorem b_eq (hc : c a0 a1 a2 a3 a4 a5 a6 a7 = true) : b kr a0 a1 a2 a3 a4 a5 a6 a7 = Lib.ap (fun p => kr p) (v a0 a1 a2 a3 a4 a5 a6 a7) := Lib.bq hc (by unfold vo b; simp only [Lib.B1, Lib.B2, Lib.B3, Lib.B4])
end Go.FG.U36

namespace Go.FG.U77
def b {R : Type} (kr : Bool -> Option R) (a0 a1 : ByteArray) (a2 a3 a4 : Int) (a5 a6 : ByteArray) (a7 a8 a9 : Int) : Option R := bif !List.beq (ByteArray.toList a0) (ByteArray.toList a5) then kr false else bif !List.beq (ByteArray.toList a1) (ByteArray.toList a6) then kr false else bif a2 != a7 then kr false else bif a3 != a8 then kr false else bif a4 != a9 then kr false else kr true
def v (a0 a1 : ByteArray) (a2 a3 a4 : Int) (a5 a6 : ByteArray) (a7 a8 a9 : Int) : Bool := bif !List.beq (ByteArray.toList a0) (ByteArray.toList a5) then false else bif !List.beq (ByteArray.toList a1) (ByteArray.toList a6) then false else bif a2 != a7 then false else bif a3 != a8 then false else bif a4 != a9 then false else true
theorem b_eq {R : Type} (kr : Bool -> Option R) (a0 a1 : ByteArray) (a2 a3 a4 : Int) (a5 a6 : ByteArray) (a7 a8 a9 : Int) : b kr a0 a1 a2 a3 a4 a5 a6 a7 a8 a9 = kr (v a0 a1 a2 a3 a4 a5 a6 a7 a8 a9) := by
 first | rfl | (unfold b v; simp only [Bool.cond_eq_ite]; (repeat' split) <;> rfl)
end Go.FG.U77

namespace Go.FG.U37
def r4 {R : Type} (N : Nat) (g k0 k1 : F_rrbi R) (x0 x1 : Row) (x2 : Bool) (x3 : Int) : Option R := bif decide (x3 < (x0.length : Int)) then bif decide (0 <= x3) && decide (x3 < (x0.length : Int)) then bif decide (0 <= x3) && decide (x3 < (x1.length : Int)) then bif !U77.v (cvS (cellAt x0 x3.toNat 0)) (cvS (cellAt x0 x3.toNat 1)) (cvI (cellAt x0 x3.toNat (1 + 1))) (cvI (cellAt x0 x3.toNat (1 + 1 + 1))) (cvI (cellAt x0 x3.toNat (1 + 1 + 1 + 1))) (cvS (cellAt x1 x3.toNat 0)) (cvS (cellAt x1 x3.toNat 1)) (cvI (cellAt x1 x3.toNat (1 + 1))) (cvI (cellAt x1 x3.toNat (1 + 1 + 1))) (cvI (cellAt x1 x3.toNat (1 + 1 + 1 + 1))) then k0 x0 x1 false x3 else g x0 x1 x2 (w64 (x3 + 1)) else none else none else k1 x0 x1 x2 x3
def l4 {R : Type} (N : Nat) (k0 k1 : F_rrbi R) : Nat -> F_rrbi R
 | 0 => fun _ _ _ _ => none
 | n + 1 => fun x0 x1 x2 x3 => r4 N (l4 N k0 k1 n) k0 k1 x0 x1 x2 x3
theorem q4_bind {R S : Type} (f : R -> Option S) (N : Nat) (k0 k1 : F_rrbi R) : ∀ n : Nat, (∀ (x0 x1 : Row) (x2 : Bool) (x3 : Int), Option.bind (l4 N k0 k1 n x0 x1 x2 x3) f = l4 N (fun y0 y1 y2 y3 => Option.bind (k0 y0 y1 y2 y3) f) (fun y0 y1 y2 y3 => Option.bind (k1 y0 y1 y2 y3) f) n x0 x1 x2 x3) := by
 intro n
 induction n with
 | zero => exact fun _ _ _ _ => rfl
 | succ n ih =>
  intro x0 x1 x2 x3
  simp only [l4, r4, Lib.B1, Lib.B2, Lib.B3, Lib.B4, ih]
variable {R : Type} (N : Nat) (kr : Bool -> Option R) (a0 a1 : Row)
def b : Option R := bif (a0.length : Int) != (a1.length : Int) then kr false else l4 N (fun y4 y5 y6 y7 => kr y6) (fun y8 y9 y10 y11 => kr true) N a0 a1 false 0
theorem b_bind : b N kr a0 a1 = Option.bind (b N (fun r0 => some r0) a0 a1) (fun p => kr p) := by
 unfold b; simp only [Lib.B1, Lib.B2, Lib.B3, Lib.B4, q4_bind]
def vo := b Lib.big (fun r0 => some r0) a0 a1
def c : Bool := Option.isSome (vo a0 a1)
def v := Option.getD (vo a0 a1) false
theorem out {x} (h : vo a0 a1 = some x) : c a0 a1 = true /\ v a0 a1 = x := Lib.out_ h
theorem b_eq (hc : c a0 a1 = true) : ∃ N, b N kr a0 a1 = Lib.ap (fun p => kr p) (v a0 a1) := ⟨Lib.big, Lib.bq hc (by apply b_bind)⟩
end Go.FG.U37

namespace Go.FG.U78
def b {R : Type} (kr : Bool -> Option R) (a0 : Int) (a1 : ByteArray) (a2 a3 a4 : Int) (a5 : ByteArray) (a6 a7 : Int) (a8 : ByteArray) (a9 a10 a11 : Int) (a12 : ByteArray) (a13 : Int) : Option R := bif a0 != a7 then kr false else bif !List.beq (ByteArray.toList a1) (ByteArray.toList a8) then kr false else bif a2 != a9 then kr false else bif a3 != a10 then kr false else bif a4 != a11 then kr false else bif !List.beq (ByteArray.toList a5) (ByteArray.toList a12) then kr false else bif a6 != a13 then kr false else kr true
def v (a0 : Int) (a1 : ByteArray) (a2 a3 a4 : Int) (a5 : ByteArray) (a6 a7 : Int) (a8 : ByteArray) (a9 a10 a11 : Int) (a12 : ByteArray) (a13 : Int) : Bool := bif a0 != a7 then false else bif !List.beq (ByteArray.toList a1) (ByteArray.toList a8) then false else bif a2 != a9 then false else bif a3 != a10 then false else bif a4 != a11 then false else bif !List.beq (ByteArray.toList a5) (ByteArray.toList a12) then false else bif a6 != a13 then false else true
theorem b_eq {R : Type} (kr : Bool -> Option R) (a0 : Int) (a1 : ByteArray) (a2 a3 a4 : Int) (a5 : ByteArray) (a6 a7 : Int) (a8 : ByteArray) (a9 a10 a11 : Int) (a12 : ByteArray) (a13 : Int) : b kr a0 a1 a2 a3 a4 a5 a6 a7 a8 a9 a10 a11 a12 a13 = kr (v a0 a1 a2 a3 a4 a5 a6 a7 a8 a9 a10 a11 a12 a13) := by
 first | rfl | (unfold b v; simp only [Bool.cond_eq_ite]; (repeat' split) <;> rfl)
end Go.FG.U78

namespace Go.FG.U38
def r4 {R : Type} (N : Nat) (g k0 k1 : F_rrbi R) (x0 x1 : Row) (x2 : Bool) (x3 : Int) : Option R := bif decide (x3 < (x0.length : Int)) then bif decide (0 <= x3) && decide (x3 < (x0.length : Int)) then bif decide (0 <= x3) && decide (x3 < (x1.length : Int)) then bif !U78.v (cvI (cellAt x0 x3.toNat 0)) (cvS (cellAt x0 x3.toNat 1)) (cvI (cellAt x0 x3.toNat (1 + 1))) (cvI (cellAt x0 x3.toNat (1 + 1 + 1))) (cvI (cellAt x0 x3.toNat (1 + 1 + 1 + 1))) (cvS (cellAt x0 x3.toNat (1 + 1 + 1 + 1 + 1))) (cvI (cellAt x0 x3.toNat (1 + 1 + 1 + 1 + 1 + 1))) (cvI (cellAt x1 x3.toNat 0)) (cvS (cellAt x1 x3.toNat 1)) (cvI (cellAt x1 x3.toNat (1 + 1))) (cvI (cellAt x1 x3.toNat (1 + 1 + 1))) (cvI (cellAt x1 x3.toNat (1 + 1 + 1 + 1))) (cvS (cellAt x1 x3.toNat (1 + 1 + 1 + 1 + 1))) (cvI (cellAt x1 x3.toNat (1 + 1 + 1 + 1 + 1 + 1))) then k0 x0 x1 false x3 else g x0 x1 x2 (w64 (x3 + 1)) else none else none else k1 x0 x1 x2 x3
def l4 {R : Type} (N : Nat) (k0 k1 : F_rrbi R) : Nat -> F_rrbi R
 | 0 => fun _ _ _ _ => none
 | n + 1 => fun x0 x1 x2 x3 => r4 N (l4 N k0 k1 n) k0 k1 x0 x1 x2 x3
theorem q4_bind {R S : Type} (f : R -> Option S) (N : Nat) (k0 k1 : F_rrbi R) : ∀ n : Nat, (∀ (x0 x1 : Row) (x2 : Bool) (x3 : Int), Option.bind (l4 N k0 k1 n x0 x1 x2 x3) f = l4 N (fun y0 y1 y2 y3 => Option.bind (k0 y0 y1 y2 y3) f) (fun y0 y1 y2 y3 => Option.bind (k1 y0 y1 y2 y3) f) n x0 x1 x2 x3) := by
 intro n
 induction n with
 | zero => exact fun _ _ _ _ => rfl
 | succ n ih =>
  intro x0 x1 x2 x3
  simp only [l4, r4, Lib.B1, Lib.B2, Lib.B3, Lib.B4, ih]
variable {R : Type} (N : Nat) (kr : Bool -> Option R) (a0 a1 : Row)
def b : Option R := bif (a0.length : Int) != (a1.length : Int) then kr false else l4 N (fun y4 y5 y6 y7 => kr y6) (fun y8 y9 y10 y11 => kr true) N a0 a1 false 0
theorem b_bind : b N kr a0 a1 = Option.bind (b N (fun r0 => some r0) a0 a1) (fun p => kr p) := by
 unfold b; simp only [Lib.B1, Lib.B2, Lib.B3, Lib.B4, q4_bind]
def vo := b Lib.big (fun r0 => some r0) a0 a1
def c : Bool := Option.isSome (vo a0 a1)
def v := Option.getD (vo a0 a1) false
theorem out {x} (h : vo a0 a1 = some x) : c a0 a1 = true /\ v a0 a1 = x := Lib.out_ h
theorem b_eq (hc : c a0 a1 = true) : ∃ N, b N kr a0 a1 = Lib.ap (fun p => kr p) (v a0 a1) := ⟨Lib.big, Lib.bq hc (by apply b_bind)⟩
end Go.FG.U38

namespace Go.FG.U11
variable {R : Type} (kr : Bool -> Option R) (a0 : Int) (a1 a2 a3 a4 : Row) (a5 : Int) (a6 a7 : Row) (a8 a9 : Int) (a10 a11 a12 a13 : Row) (a14 : Int) (a15 a16 : Row) (a17 : Int)
def b : Option R := bif a0 != a9 then kr false else bif U20.c a1 a10 then bif !U20.v a1 a10 then kr false else bif U36.c a2 a3 a4 a5 a11 a12 a13 a14 then bif !U36.v a2 a3 a4 a5 a11 a12 a13 a14 then kr false else bif U37.c a6 a15 then bif !U37.v a6 a15 then kr false else bif U38.c a7 a16 then bif !U38.v a7 a16 then kr false else bif a8 != a17 then kr false else kr true else none else none else none else none
def vo := b (fun r0 => some r0) a0 a1 a2 a3 a4 a5 a6 a7 a8 a9 a10 a11 a12 a13 a14 a15 a16 a17
def c : Bool := Option.isSome (vo a0 a1 a2 a3 a4 a5 a6 a7 a8 a9 a10 a11 a12 a13 a14 a15 a16 a17)
def v := Option.getD (vo a0 a1 a2 a3 a4 a5 a6 a7 a8 a9 a10 a11 a12 a13 a14 a15 a16 a17) false
theorem out {x} (h : vo a0 a1 a2 a3 a4 a5 a6 a7 a8 a9 a10 a11 a12 a13 a14 a15 a16 a17 = some x) : c a0 a1 a2 a3 a4 a5 a6 a7 a8 a9 a10 a11 a12 a13 a14 a15 a16 a17 = true /\ v a0 a1 a2 a3 a4 a5 a6 a7 a8 a9 a10 a11 a12 a13 a14 a15 a16 a17 = x := Lib.out_ h
theorem b_eq (hc : c a0 a1 a2 a3 a4 a5 a6 a7 a8 a9 a10 a11 a12 a13 a14 a15 a16 a17 = true) : b kr a0 a1 a2 a3 a4 a5 a6 a7 a8 a9 a10 a11 a12 a13 a14 a15 a16 a17 = Lib.ap (fun p => kr p) (v a0 a1 a2 a3 a4 a5 a6 a7 a8 a9 a10 a11 a12 a13 a14 a15 a16 a17) := Lib.bq hc (by unfold vo b; simp only [Lib.B1, Lib.B2, Lib.B3, Lib.B4])
end Go.FG.U11

namespace Go.FG.U59
def r4 {R : Type} (N : Nat) (g k0 : F_is R) (x0 : Int) (x1 : ByteArray) : Option R := bif decide (x0 > 0) then bif decide (ByteArray.size (bytesOf (List.set (zeros [Ck.i IntKind.u8] 1) 0 [CV.i IntKind.u8 (IntKind.wrap IntKind.u8 (w64 (48 + Int.tmod x0 10)))])) + x1.size <= 4611686018427387904) then g (w64 (Int.tdiv x0 10)) (bytesOf (List.set (zeros [Ck.i IntKind.u8] 1) 0 [CV.i IntKind.u8 (IntKind.wrap IntKind.u8 (w64 (48 + Int.tmod x0 10)))]) ++ x1) else none else k0 x0 x1
def l4 {R : Type} (N : Nat) (k0 : F_is R) : Nat -> F_is R
 | 0 => fun _ _ => none
 | n + 1 => fun x0 x1 => r4 N (l4 N k0 n) k0 x0 x1
theorem q4_bind {R S : Type} (f : R -> Option S) (N : Nat) (k0 : F_is R) : ∀ n : Nat, (∀ (x0 : Int) (x1 : ByteArray), Option.bind (l4 N k0 n x0 x1) f = l4 N (fun y0 y1 => Option.bind (k0 y0 y1) f) n x0 x1) := by
 intro n
 induction n with
 | zero => exact fun _ _ => rfl
 | succ n ih =>
  intro x0 x1
  simp only [l4, r4, Lib.B1, Lib.B2, Lib.B3, Lib.B4, ih]
variable {R : Type} (N : Nat) (kr : ByteArray -> Option R) (a0 : Int)
def b : Option R := bif decide (a0 <= 0) then kr ({ data := #[UInt8.ofNat 109, UInt8.ofNat 48] }) else l4 N (fun y2 y3 => bif decide (ByteArray.size { data := #[UInt8.ofNat 109] } + y3.size <= 4611686018427387904) then kr ({ data := #[UInt8.ofNat 109] } ++ y3) else none) N a0 ({ data := #[] })
theorem b_bind : b N kr a0 = Option.bind (b N (fun r0 => some r0) a0) (fun p => kr p) := by
 unfold b; simp only [Lib.B1, Lib.B2, Lib.B3, Lib.B4, q4_bind]
def vo := b Lib.big (fun r0 => some r0) a0
def c : Bool := Option.isSome (vo a0)
def v := Option.getD (vo a0) (⟨#[]⟩)
theorem out {x} (h : vo a0 = some x) : c a0 = true /\ v a0 = x := Lib.out_ h
theorem b_eq (hc : c a0 = true) : ∃ N, b N kr a0 = Lib.ap (fun p => kr p) (v a0) := ⟨Lib.big, Lib.bq hc (by apply b_bind)⟩
end Go.FG.U59

namespace Go.FG.U21
def r2 {R : Type} (N : Nat) (g k0 : F_iir R) (x0 x1 : Int) (x2 : Row) : Option R := bif decide (x1 < (x2.length : Int)) then bif U59.c x0 then bif decide (0 <= x1) && decide (x1 < (x2.length : Int)) then bif decide (0 <= x1) && decide (x1 < (↑(List.length (setC x2 x1.toNat 0 [CV.s (U59.v x0)])) : Int)) then bif decide (0 <= x1) && decide (x1 < (↑(List.length (setC (setC x2 x1.toNat 0 [CV.s (U59.v x0)]) x1.toNat 1 [CV.i IntKind.i64 (w64 (x0 + 1))])) : Int)) then bif U59.c (w64 (w64 (w64 (x0 + 1) + 1) + 1)) then bif decide (0 <= x1) && decide (x1 < (↑(List.length (setC (setC (setC x2 x1.toNat 0 [CV.s (U59.v x0)]) x1.toNat 1 [CV.i IntKind.i64 (w64 (x0 + 1))]) x1.toNat 2 [CV.i IntKind.i64 (w64 (w64 (x0 + 1) + 1))])) : Int)) then g (w64 (w64 (w64 (w64 (x0 + 1) + 1) + 1) + 1)) (w64 (x1 + 1)) (setC (setC (setC (setC x2 x1.toNat 0 [CV.s (U59.v x0)]) x1.toNat 1 [CV.i IntKind.i64 (w64 (x0 + 1))]) x1.toNat 2 [CV.i IntKind.i64 (w64 (w64 (x0 + 1) + 1))]) x1.toNat 3 [CV.s (U59.v (w64 (w64 (w64 (x0 + 1) + 1) + 1)))]) else none else none else none else none else none else none else k0 x0 x1 x2
def l2 {R : Type} (N : Nat) (k0 : F_iir R) : Nat -> F_iir R
 | 0 => fun _ _ _ => none
 | n + 1 => fun x0 x1 x2 => r2 N (l2 N k0 n) k0 x0 x1 x2
theorem q2_bind {R S : Type} (f : R -> Option S) (N : Nat) (k0 : F_iir R) : ∀ n : Nat, (∀ (x0 x1 : Int) (x2 : Row), Option.bind (l2 N k0 n x0 x1 x2) f = l2 N (fun y0 y1 y2 => Option.bind (k0 y0 y1 y2) f) n x0 x1 x2) := by
 intro n
 induction n with
 | zero => exact fun _ _ _ => rfl
 | succ n ih =>
  intro x0 x1 x2
  simp only [l2, r2, Lib.B1, Lib.B2, Lib.B3, Lib.B4, ih]
variable {R : Type} (N : Nat) (kr : F_ir R) (a0 : Row) (a1 : Int)
def b : Option R := l2 N (fun y3 y4 y5 => kr y3 y5) N a1 0 a0
theorem b_bind : b N kr a0 a1 = Option.bind (b N (fun r0 r1 => some (r0, r1)) a0 a1) (fun p => kr p.1 p.2) := by
 unfold b; simp only [Lib.B1, Lib.B2, Lib.B3, Lib.B4, q2_bind]
def vo := b Lib.big (fun r0 r1 => some (r0, r1)) a0 a1
def c : Bool := Option.isSome (vo a0 a1)
def v := Option.getD (vo a0 a1) (0, [])
theorem out {x} (h : vo a0 a1 = some x) : c a0 a1 = true /\ v a0 a1 = x := Lib.out_ h
theorem b_eq (hc : c a0 a1 = true) : ∃ N, b N kr a0 a1 = Lib.ap (fun p => kr p.1 p.2) (v a0 a1) := ⟨Lib.big, Lib.bq hc (by apply b_bind)⟩
end Go.FG.U21

namespace Go.FG.U79
def r2 {R : Type} (N : Nat) (g k0 : F_iir R) (x0 x1 : Int) (x2 : Row) : Option R := bif decide (x1 < (x2.length : Int)) then bif U59.c x0 then bif decide (0 <= x1) && decide (x1 < (x2.length : Int)) then g (w64 (x0 + 1)) (w64 (x1 + 1)) (setC x2 x1.toNat 0 [CV.s (U59.v x0)]) else none else none else k0 x0 x1 x2
def l2 {R : Type} (N : Nat) (k0 : F_iir R) : Nat -> F_iir R
 | 0 => fun _ _ _ => none
 | n + 1 => fun x0 x1 x2 => r2 N (l2 N k0 n) k0 x0 x1 x2
theorem q2_bind {R S : Type} (f : R -> Option S) (N : Nat) (k0 : F_iir R) : ∀ n : Nat, (∀ (x0 x1 : Int) (x2 : Row), Option.bind (l2 N k0 n x0 x1 x2) f = l2 N (fun y0 y1 y2 => Option.bind (k0 y0 y1 y2) f) n x0 x1 x2) := by
 intro n
 induction n with
 | zero => exact fun _ _ _ => rfl
 | succ n ih =>
  intro x0 x1 x2
  simp only [l2, r2, Lib.B1, Lib.B2, Lib.B3, Lib.B4, ih]
variable {R : Type} (N : Nat) (kr : F_ir R) (a0 : Row) (a1 : Int)
def b : Option R := l2 N (fun y3 y4 y5 => kr y3 y5) N a1 0 a0
theorem b_bind : b N kr a0 a1 = Option.bind (b N (fun r0 r1 => some (r0, r1)) a0 a1) (fun p => kr p.1 p.2) := by
 unfold b; simp only [Lib.B1, Lib.B2, Lib.B3, Lib.B4, q2_bind]
def vo := b Lib.big (fun r0 r1 => some (r0, r1)) a0 a1
def c : Bool := Option.isSome (vo a0 a1)
def v := Option.getD (vo a0 a1) (0, [])
theorem out {x} (h : vo a0 a1 = some x) : c a0 a1 = true /\ v a0 a1 = x := Lib.out_ h
theorem b_eq (hc : c a0 a1 = true) : ∃ N, b N kr a0 a1 = Lib.ap (fun p => kr p.1 p.2) (v a0 a1) := ⟨Lib.big, Lib.bq hc (by apply b_bind)⟩
end Go.FG.U79

namespace Go.FG.U135
def r2 {R : Type} (N : Nat) (g k0 : F_iir R) (x0 x1 : Int) (x2 : Row) : Option R := bif decide (x1 < (x2.length : Int)) then bif decide (0 <= x1) && decide (x1 < (x2.length : Int)) then g (w64 (x0 + 1)) (w64 (x1 + 1)) (setC x2 x1.toNat 0 [CV.i IntKind.i64 x0]) else none else k0 x0 x1 x2
def l2 {R : Type} (N : Nat) (k0 : F_iir R) : Nat -> F_iir R
 | 0 => fun _ _ _ => none
 | n + 1 => fun x0 x1 x2 => r2 N (l2 N k0 n) k0 x0 x1 x2
theorem q2_bind {R S : Type} (f : R -> Option S) (N : Nat) (k0 : F_iir R) : ∀ n : Nat, (∀ (x0 x1 : Int) (x2 : Row), Option.bind (l2 N k0 n x0 x1 x2) f = l2 N (fun y0 y1 y2 => Option.bind (k0 y0 y1 y2) f) n x0 x1 x2) := by
 intro n
 induction n with
 | zero => exact fun _ _ _ => rfl
 | succ n ih =>
  intro x0 x1 x2
  simp only [l2, r2, Lib.B1, Lib.B2, Lib.B3, Lib.B4, ih]
variable {R : Type} (N : Nat) (kr : F_ir R) (a0 : Row) (a1 : Int)
def b : Option R := l2 N (fun y3 y4 y5 => kr y3 y5) N a1 0 a0
theorem b_bind : b N kr a0 a1 = Option.bind (b N (fun r0 r1 => some (r0, r1)) a0 a1) (fun p => kr p.1 p.2) := by
 unfold b; simp only [Lib.B1, Lib.B2, Lib.B3, Lib.B4, q2_bind]
def vo := b Lib.big (fun r0 r1 => some (r0, r1)) a0 a1
def c : Bool := Option.isSome (vo a0 a1)
def v := Option.getD (vo a0 a1) (0, [])
theorem out {x} (h : vo a0 a1 = some x) : c a0 a1 = true /\ v a0 a1 = x := Lib.out_ h
theorem b_eq (hc : c a0 a1 = true) : ∃ N, b N kr a0 a1 = Lib.ap (fun p => kr p.1 p.2) (v a0 a1) := ⟨Lib.big, Lib.bq hc (by apply b_bind)⟩
end Go.FG.U135

namespace Go.FG.U111
def r2 {R : Type} (N : Nat) (g k0 : F_iir R) (x0 x1 : Int) (x2 : Row) : Option R := bif decide (x1 < (x2.length : Int)) then bif decide (0 <= x1) && decide (x1 < (x2.length : Int)) then bif U135.c (cvL (cellAt x2 x1.toNat 0)) x0 then g ((U135.v (cvL (cellAt x2 x1.toNat 0)) x0).1) (w64 (x1 + 1)) (setC x2 x1.toNat 0 [CV.l 3 (U135.v (cvL (cellAt x2 x1.toNat 0)) x0).2]) else none else none else k0 x0 x1 x2
def l2 {R : Type} (N : Nat) (k0 : F_iir R) : Nat -> F_iir R
 | 0 => fun _ _ _ => none
 | n + 1 => fun x0 x1 x2 => r2 N (l2 N k0 n) k0 x0 x1 x2
theorem q2_bind {R S : Type} (f : R -> Option S) (N : Nat) (k0 : F_iir R) : ∀ n : Nat, (∀ (x0 x1 : Int) (x2 : Row), Option.bind (l2 N k0 n x0 x1 x2) f = l2 N (fun y0 y1 y2 => Option.bind (k0 y0 y1 y2) f) n x0 x1 x2) := by
 intro n
 induction n with
 | zero => exact fun _ _ _ => rfl
 | succ n ih =>
  intro x0 x1 x2
  simp only [l2, r2, Lib.B1, Lib.B2, Lib.B3, Lib.B4, ih]
variable {R : Type} (N : Nat) (kr : F_ir R) (a0 : Row) (a1 : Int)
def b : Option R := l2 N (fun y3 y4 y5 => kr y3 y5) N a1 0 a0
theorem b_bind : b N kr a0 a1 = Option.bind (b N (fun r0 r1 => some (r0, r1)) a0 a1) (fun p => kr p.1 p.2) := by
 unfold b; simp only [Lib.B1, Lib.B2, Lib.B3, Lib.B4, q2_bind]
def vo := b Lib.big (fun r0 r1 => some (r0, r1)) a0 a1
def c : Bool := Option.isSome (vo a0 a1)
def v := Option.getD (vo a0 a1) (0, [])
theorem out {x} (h : vo a0 a1 = some x) : c a0 a1 = true /\ v a0 a1 = x := Lib.out_ h
theorem b_eq (hc : c a0 a1 = true) : ∃ N, b N kr a0 a1 = Lib.ap (fun p => kr p.1 p.2) (v a0 a1) := ⟨Lib.big, Lib.bq hc (by apply b_bind)⟩
end Go.FG.U111

namespace Go.FG.U80
def b {R : Type} (kr : F_ir R) (a0 : Row) (a1 a2 : Int) : Option R := bif U111.c a0 a2 then kr ((U111.v a0 a2).1) ((U111.v a0 a2).2) else none
variable {R : Type} (kr : F_ir R) (a0 : Row) (a1 a2 : Int)
def vo := b (fun r0 r1 => some (r0, r1)) a0 a1 a2
def c : Bool := Option.isSome (vo a0 a1 a2)
def v := Option.getD (vo a0 a1 a2) (0, [])
theorem out {x} (h : vo a0 a1 a2 = some x) : c a0 a1 a2 = true /\ v a0 a1 a2 = x := Lib.out_ h
theorem b_eq (hc : c a0 a1 a2 = true) : b kr a0 a1 a2 = Lib.ap (fun p => kr p.1 p.2) (v a0 a1 a2) := Lib.bq hc (by unfold vo b; simp only [Lib.B1, Lib.B2, Lib.B3, Lib.B4])
end Go.FG.U80

namespace Go.FG.U39
variable {R : Type} (kr : F_irrr R) (a0 a1 a2 : Row) (a3 a4 : Int)
def b : Option R := bif U79.c a0 a4 then bif U79.c a1 (U79.v a0 a4).1 then bif U80.c a2 a3 (U79.v a1 (U79.v a0 a4).1).1 then kr ((U80.v a2 a3 (U79.v a1 (U79.v a0 a4).1).1).1) ((U79.v a0 a4).2) ((U79.v a1 (U79.v a0 a4).1).2) ((U80.v a2 a3 (U79.v a1 (U79.v a0 a4).1).1).2) else none else none else none
def vo := b (fun r0 r1 r2 r3 => some (r0, r1, r2, r3)) a0 a1 a2 a3 a4
def c : Bool := Option.isSome (vo a0 a1 a2 a3 a4)
def v := Option.getD (vo a0 a1 a2 a3 a4) (0, [], [], [])
theorem out {x} (h : vo a0 a1 a2 a3 a4 = some x) : c a0 a1 a2 a3 a4 = true /\ v a0 a1 a2 a3 a4 = x := Lib.out_ h
theorem b_eq (hc : c a0 a1 a2 a3 a4 = true) : b kr a0 a1 a2 a3 a4 = Lib.ap (fun p => kr p.1 p.2.1 p.2.2.1 p.2.2.2) (v a0 a1 a2 a3 a4) := Lib.bq hc (by unfold vo b; simp only [Lib.B1, Lib.B2, Lib.B3, Lib.B4])
end Go.FG.U39

namespace Go.FG.U40
def r2 {R : Type} (N : Nat) (g k0 : F_iir R) (x0 x1 : Int) (x2 : Row) : Option R := bif decide (x1 < (x2.length : Int)) then bif U59.c x0 then bif decide (0 <= x1) && decide (x1 < (x2.length : Int)) then bif U59.c (w64 (x0 + 1)) then bif decide (0 <= x1) && decide (x1 < (↑(List.length (setC x2 x1.toNat 0 [CV.s (U59.v x0)])) : Int)) then bif decide (0 <= x1) && decide (x1 < (↑(List.length (setC (setC x2 x1.toNat 0 [CV.s (U59.v x0)]) x1.toNat 1 [CV.s (U59.v (w64 (x0 + 1)))])) : Int)) then bif decide (0 <= x1) && decide (x1 < (↑(List.length (setC (setC (setC x2 x1.toNat 0 [CV.s (U59.v x0)]) x1.toNat 1 [CV.s (U59.v (w64 (x0 + 1)))]) x1.toNat 2 [CV.i IntKind.i64 (w64 (w64 (x0 + 1) + 1))])) : Int)) then bif decide (0 <= x1) && decide (x1 < (↑(List.length (setC (setC (setC (setC x2 x1.toNat 0 [CV.s (U59.v x0)]) x1.toNat 1 [CV.s (U59.v (w64 (x0 + 1)))]) x1.toNat 2 [CV.i IntKind.i64 (w64 (w64 (x0 + 1) + 1))]) x1.toNat 3 [CV.i IntKind.i64 (w64 (w64 (w64 (x0 + 1) + 1) + 1))])) : Int)) then g (w64 (w64 (w64 (w64 (w64 (x0 + 1) + 1) + 1) + 1) + 1)) (w64 (x1 + 1)) (setC (setC (setC (setC (setC x2 x1.toNat 0 [CV.s (U59.v x0)]) x1.toNat 1 [CV.s (U59.v (w64 (x0 + 1)))]) x1.toNat 2 [CV.i IntKind.i64 (w64 (w64 (x0 + 1) + 1))]) x1.toNat 3 [CV.i IntKind.i64 (w64 (w64 (w64 (x0 + 1) + 1) + 1))]) x1.toNat 4 [CV.i IntKind.i64 (w64 (w64 (w64 (w64 (x0 + 1) + 1) + 1) + 1))]) else none else none else none else none else none else none else none else k0 x0 x1 x2
def l2 {R : Type} (N : Nat) (k0 : F_iir R) : Nat -> F_iir R
 | 0 => fun _ _ _ => none
 | n + 1 => fun x0 x1 x2 => r2 N (l2 N k0 n) k0 x0 x1 x2
theorem q2_bind {R S : Type} (f : R -> Option S) (N : Nat) (k0 : F_iir R) : ∀ n : Nat, (∀ (x0 x1 : Int) (x2 : Row), Option.bind (l2 N k0 n x0 x1 x2) f = l2 N (fun y0 y1 y2 => Option.bind (k0 y0 y1 y2) f) n x0 x1 x2) := by
 intro n
 induction n with
 | zero => exact fun _ _ _ => rfl
 | succ n ih =>
  intro x0 x1 x2
  simp only [l2, r2, Lib.B1, Lib.B2, Lib.B3, Lib.B4, ih]
variable {R : Type} (N : Nat) (kr : F_ir R) (a0 : Row) (a1 : Int)
def b : Option R := l2 N (fun y3 y4 y5 => kr y3 y5) N a1 0 a0
theorem b_bind : b N kr a0 a1 = Option.bind (b N (fun r0 r1 => some (r0, r1)) a0 a1) (fun p => kr p.1 p.2) := by
 unfold b; simp only [Lib.B1, Lib.B2, Lib.B3, Lib.B4, q2_bind]
def vo := b Lib.big (fun r0 r1 => some (r0, r1)) a0 a1
def c : Bool := Option.isSome (vo a0 a1)
def v := Option.getD (vo a0 a1) (0, [])
theorem out {x} (h : vo a0 a1 = some x) : c a0 a1 = true /\ v a0 a1 = x := Lib.out_ h
theorem b_eq (hc : c a0 a1 = true) : ∃ N, b N kr a0 a1 = Lib.ap (fun p => kr p.1 p.2) (v a0 a1) := ⟨Lib.big, Lib.bq hc (by apply b_bind)⟩
end Go.FG.U40

namespace Go.FG.U41
def r2 {R : Type} (N : Nat) (g k0 : F_iir R) (x0 x1 : Int) (x2 : Row) : Option R := bif decide (x1 < (x2.length : Int)) then bif decide (0 <= x1) && decide (x1 < (x2.length : Int)) then bif U59.c (w64 (x0 + 1)) then bif decide (0 <= x1) && decide (x1 < (↑(List.length (setC x2 x1.toNat 0 [CV.i IntKind.i64 x0])) : Int)) then bif decide (0 <= x1) && decide (x1 < (↑(List.length (setC (setC x2 x1.toNat 0 [CV.i IntKind.i64 x0]) x1.toNat 1 [CV.s (U59.v (w64 (x0 + 1)))])) : Int)) then bif decide (0 <= x1) && decide (x1 < (↑(List.length (setC (setC (setC x2 x1.toNat 0 [CV.i IntKind.i64 x0]) x1.toNat 1 [CV.s (U59.v (w64 (x0 + 1)))]) x1.toNat 2 [CV.i IntKind.i64 (w64 (w64 (x0 + 1) + 1))])) : Int)) then bif decide (0 <= x1) && decide (x1 < (↑(List.length (setC (setC (setC (setC x2 x1.toNat 0 [CV.i IntKind.i64 x0]) x1.toNat 1 [CV.s (U59.v (w64 (x0 + 1)))]) x1.toNat 2 [CV.i IntKind.i64 (w64 (w64 (x0 + 1) + 1))]) x1.toNat 3 [CV.i IntKind.i64 (w64 (w64 (w64 (x0 + 1) + 1) + 1))])) : Int)) then bif U59.c (w64 (w64 (w64 (w64 (w64 (x0 + 1) + 1) + 1) + 1) + 1)) then bif decide (0 <= x1) && decide (x1 < (↑(List.length (setC (setC (setC (setC (setC x2 x1.toNat 0 [CV.i IntKind.i64 x0]) x1.toNat 1 [CV.s (U59.v (w64 (x0 + 1)))]) x1.toNat 2 [CV.i IntKind.i64 (w64 (w64 (x0 + 1) + 1))]) x1.toNat 3 [CV.i IntKind.i64 (w64 (w64 (w64 (x0 + 1) + 1) + 1))]) x1.toNat 4 [CV.i IntKind.i64 (w64 (w64 (w64 (w64 (x0 + 1) + 1) + 1) + 1))])) : Int)) then bif decide (0 <= x1) && decide (x1 < (↑(List.length (setC (setC (setC (setC (setC (setC x2 x1.toNat 0 [CV.i IntKind.i64 x0]) x1.toNat 1 [CV.s (U59.v (w64 (x0 + 1)))]) x1.toNat 2 [CV.i IntKind.i64 (w64 (w64 (x0 + 1) + 1))]) x1.toNat 3 [CV.i IntKind.i64 (w64 (w64 (w64 (x0 + 1) + 1) + 1))]) x1.toNat 4 [CV.i IntKind.i64 (w64 (w64 (w64 (w64 (x0 + 1) + 1) + 1) + 1))]) x1.toNat 5 [CV.s (U59.v (w64 (w64 (w64 (w64 (w64 (x0 + 1) + 1) + 1) + 1) + 1)))])) : Int)) then g (w64 (w64 (w64 (w64 (w64 (w64 (w64 (x0 + 1) + 1) + 1) + 1) + 1) + 1) + 1)) (w64 (x1 + 1)) (setC (setC (setC (setC (setC (setC (setC x2 x1.toNat 0 [CV.i IntKind.i64 x0]) x1.toNat 1 [CV.s (U59.v (w64 (x0 + 1)))]) x1.toNat 2 [CV.i IntKind.i64 (w64 (w64 (x0 + 1) + 1))]) x1.toNat 3 [CV.i IntKind.i64 (w64 (w64 (w64 (x0 + 1) + 1) + 1))]) x1.toNat 4 [CV.i IntKind.i64 (w64 (w64 (w64 (w64 (x0 + 1) + 1) + 1) + 1))]) x1.toNat 5 [CV.s (U59.v (w64 (w64 (w64 (w64 (w64 (x0 + 1) + 1) + 1) + 1) + 1)))]) x1.toNat 6 [CV.i IntKind.i64 (w64 (w64 (w64 (w64 (w64 (w64 (x0 + 1) + 1) + 1) + 1) + 1) + 1))]) else none else none else none else none else none else none else none else none else none else k0 x0 x1 x2
def l2 {R : Type} (N : Nat) (k0 : F_iir R) : Nat -> F_iir R
 | 0 => fun _ _ _ => none
 | n + 1 => fun x0 x1 x2 => r2 N (l2 N k0 n) k0 x0 x1 x2
theorem q2_bind {R S : Type} (f : R -> Option S) (N : Nat) (k0 : F_iir R) : ∀ n : Nat, (∀ (x0 x1 : Int) (x2 : Row), Option.bind (l2 N k0 n x0 x1 x2) f = l2 N (fun y0 y1 y2 => Option.bind (k0 y0 y1 y2) f) n x0 x1 x2) := by
 intro n
 induction n with
 | zero => exact fun _ _ _ => rfl
 | succ n ih =>
  intro x0 x1 x2
  simp only [l2, r2, Lib.B1, Lib.B2, Lib.B3, Lib.B4, ih]
variable {R : Type} (N : Nat) (kr : F_ir R) (a0 : Row) (a1 : Int)
def b : Option R := l2 N (fun y3 y4 y5 => kr y3 y5) N a1 0 a0
theorem b_bind : b N kr a0 a1 = Option.bind (b N (fun r0 r1 => some (r0, r1)) a0 a1) (fun p => kr p.1 p.2) := by
 unfold b; simp only [Lib.B1, Lib.B2, Lib.B3, Lib.B4, q2_bind]
def vo := b Lib.big (fun r0 r1 => some (r0, r1)) a0 a1
def c : Bool := Option.isSome (vo a0 a1)
def v := Option.getD (vo a0 a1) (0, [])
theorem out {x} (h : vo a0 a1 = some x) : c a0 a1 = true /\ v a0 a1 = x := Lib.out_ h
theorem b_eq (hc : c a0 a1 = true) : ∃ N, b N kr a0 a1 = Lib.ap (fun p => kr p.1 p.2) (v a0 a1) := ⟨Lib.big, Lib.bq hc (by apply b_bind)⟩
end Go.FG.U41

namespace Go.FG.U12
def b {R : Type} (kr : F_irrrrrr R) (a0 : Int) (a1 a2 a3 a4 : Row) (a5 : Int) (a6 a7 : Row) (a8 a9 : Int) : Option R := bif U21.c a1 a9 then bif U39.c a2 a3 a4 a5 (U21.v a1 a9).1 then bif U40.c a6 (U39.v a2 a3 a4 a5 (U21.v a1 a9).1).1 then bif U41.c a7 (U40.v a6 (U39.v a2 a3 a4 a5 (U21.v a1 a9).1).1).1 then kr ((U41.v a7 (U40.v a6 (U39.v a2 a3 a4 a5 (U21.v a1 a9).1).1).1).1) ((U21.v a1 a9).2) ((U39.v a2 a3 a4 a5 (U21.v a1 a9).1).2.1) ((U39.v a2 a3 a4 a5 (U21.v a1 a9).1).2.2.1) ((U39.v a2 a3 a4 a5 (U21.v a1 a9).1).2.2.2) ((U40.v a6 (U39.v a2 a3 a4 a5 (U21.v a1 a9).1).1).2) ((U41.v a7 (U40.v a6 (U39.v a2 a3 a4 a5 (U21.v a1 a9).1).1).1).2) else none else none else none else none
variable {R : Type} (kr : F_irrrrrr R) (a0 : Int) (a1 a2 a3 a4 : Row) (a5 : Int) (a6 a7 : Row) (a8 a9 : Int)
def vo := b (fun r0 r1 r2 r3 r4 r5 r6 => some (r0, r1, r2, r3, r4, r5, r6)) a0 a1 a2 a3 a4 a5 a6 a7 a8 a9
def c : Bool := Option.isSome (vo a0 a1 a2 a3 a4 a5 a6 a7 a8 a9)
def v := Option.getD (vo a0 a1 a2 a3 a4 a5 a6 a7 a8 a9) (0, [], [], [], [], [], [])
theorem out {x} (h : vo a0 a1 a2 a3 a4 a5 a6 a7 a8 a9 = some x) : c a0 a1 a2 a3 a4 a5 a6 a7 a8 a9 = true /\ v a0 a1 a2 a3 a4 a5 a6 a7 a8 a9 = x := Lib.out_ h
theorem b_eq (hc : c a0 a1 a2 a3 a4 a5 a6 a7 a8 a9 = true) : b kr a0 a1 a2 a3 a4 a5 a6 a7 a8 a9 = Lib.ap (fun p => kr p.1 p.2.1 p.2.2.1 p.2.2.2.1 p.2.2.2.2.1 p.2.2.2.2.2.1 p.2.2.2.2.2.2) (v a0 a1 a2 a3 a4 a5 a6 a7 a8 a9) := Lib.bq hc (by unfold vo b; simp only [Lib.B1, Lib.B2, Lib.B3, Lib.B4])
end Go.FG.U12

namespace Go.FG.U42
def r2 {R : Type} (N : Nat) (g k0 k1 : F_riii R) (x0 : Row) (x1 x2 x3 : Int) : Option R := bif decide (x3 < (x0.length : Int)) then bif decide (0 <= x3) && decide (x3 < (x0.length : Int)) then bif U59.c x1 then bif !List.beq (ByteArray.toList (cvS (cellAt x0 x3.toNat 0))) (ByteArray.toList (U59.v x1)) then k0 x0 x1 (-1) x3 else bif decide (0 <= x3) && decide (x3 < (x0.length : Int)) then bif cvI (cellAt x0 x3.toNat 1) != w64 (x1 + 1) then k0 x0 (w64 (x1 + 1)) (-1) x3 else bif decide (0 <= x3) && decide (x3 < (x0.length : Int)) then bif cvI (cellAt x0 x3.toNat 2) != w64 (w64 (x1 + 1) + 1) then k0 x0 (w64 (w64 (x1 + 1) + 1)) (-1) x3 else bif decide (0 <= x3) && decide (x3 < (x0.length : Int)) then bif U59.c (w64 (w64 (w64 (x1 + 1) + 1) + 1)) then bif !List.beq (ByteArray.toList (cvS (cellAt x0 x3.toNat 3))) (ByteArray.toList (U59.v (w64 (w64 (w64 (x1 + 1) + 1) + 1)))) then k0 x0 (w64 (w64 (w64 (x1 + 1) + 1) + 1)) (-1) x3 else g x0 (w64 (w64 (w64 (w64 (x1 + 1) + 1) + 1) + 1)) x2 (w64 (x3 + 1)) else none else none else none else none else none else none else k1 x0 x1 x2 x3
def l2 {R : Type} (N : Nat) (k0 k1 : F_riii R) : Nat -> F_riii R
 | 0 => fun _ _ _ _ => none
 | n + 1 => fun x0 x1 x2 x3 => r2 N (l2 N k0 k1 n) k0 k1 x0 x1 x2 x3
theorem q2_bind {R S : Type} (f : R -> Option S) (N : Nat) (k0 k1 : F_riii R) : ∀ n : Nat, (∀ (x0 : Row) (x1 x2 x3 : Int), Option.bind (l2 N k0 k1 n x0 x1 x2 x3) f = l2 N (fun y0 y1 y2 y3 => Option.bind (k0 y0 y1 y2 y3) f) (fun y0 y1 y2 y3 => Option.bind (k1 y0 y1 y2 y3) f) n x0 x1 x2 x3) := by
 intro n
 induction n with
 | zero => exact fun _ _ _ _ => rfl
 | succ n ih =>
  intro x0 x1 x2 x3
  simp only [l2, r2, Lib.B1, Lib.B2, Lib.B3, Lib.B4, ih]
variable {R : Type} (N : Nat) (kr : Int -> Option R) (a0 : Row) (a1 : Int)
def b : Option R := l2 N (fun y4 y5 y6 y7 => kr y6) (fun y8 y9 y10 y11 => kr y9) N a0 a1 0 0
theorem b_bind : b N kr a0 a1 = Option.bind (b N (fun r0 => some r0) a0 a1) (fun p => kr p) := by
 unfold b; simp only [Lib.B1, Lib.B2, Lib.B3, Lib.B4, q2_bind]
def vo := b Lib.big (fun r0 => some r0) a0 a1
def c : Bool := Option.isSome (vo a0 a1)
def v := Option.getD (vo a0 a1) (0)
theorem out {x} (h : vo a0 a1 = some x) : c a0 a1 = true /\ v a0 a1 = x := Lib.out_ h
theorem b_eq (hc : c a0 a1 = true) : ∃ N, b N kr a0 a1 = Lib.ap (fun p => kr p) (v a0 a1) := ⟨Lib.big, Lib.bq hc (by apply b_bind)⟩
end Go.FG.U42

namespace Go.FG.U81
def r2 {R : Type} (N : Nat) (g k0 k1 : F_riii R) (x0 : Row) (x1 x2 x3 : Int) : Option R := bif decide (x3 < (x0.length : Int)) then bif decide (0 <= x3) && decide (x3 < (x0.length : Int)) then bif U59.c x1 then bif !List.beq (ByteArray.toList (cvS (cellAt x0 x3.toNat 0))) (ByteArray.toList (U59.v x1)) then k0 x0 x1 (-1) x3 else g x0 (w64 (x1 + 1)) x2 (w64 (x3 + 1)) else none else none else k1 x0 x1 x2 x3
def l2 {R : Type} (N : Nat) (k0 k1 : F_riii R) : Nat -> F_riii R
 | 0 => fun _ _ _ _ => none
 | n + 1 => fun x0 x1 x2 x3 => r2 N (l2 N k0 k1 n) k0 k1 x0 x1 x2 x3
theorem q2_bind {R S : Type} (f : R -> Option S) (N : Nat) (k0 k1 : F_riii R) : ∀ n : Nat, (∀ (x0 : Row) (x1 x2 x3 : Int), Option.bind (l2 N k0 k1 n x0 x1 x2 x3) f = l2 N (fun y0 y1 y2 y3 => Option.bind (k0 y0 y1 y2 y3) f) (fun y0 y1 y2 y3 => Option.bind (k1 y0 y1 y2 y3) f) n x0 x1 x2 x3) := by
 intro n
 induction n with
 | zero => exact fun _ _ _ _ => rfl
 | succ n ih =>
  intro x0 x1 x2 x3
  simp only [l2, r2, Lib.B1, Lib.B2, Lib.B3, Lib.B4, ih]
variable {R : Type} (N : Nat) (kr : Int -> Option R) (a0 : Row) (a1 : Int)
def b : Option R := l2 N (fun y4 y5 y6 y7 => kr y6) (fun y8 y9 y10 y11 => kr y9) N a0 a1 0 0
theorem b_bind : b N kr a0 a1 = Option.bind (b N (fun r0 => some r0) a0 a1) (fun p => kr p) := by
 unfold b; simp only [Lib.B1, Lib.B2, Lib.B3, Lib.B4, q2_bind]
def vo := b Lib.big (fun r0 => some r0) a0 a1
def c : Bool := Option.isSome (vo a0 a1)
def v := Option.getD (vo a0 a1) (0)
theorem out {x} (h : vo a0 a1 = some x) : c a0 a1 = true /\ v a0 a1 = x := Lib.out_ h
theorem b_eq (hc : c a0 a1 = true) : ∃ N, b N kr a0 a1 = Lib.ap (fun p => kr p) (v a0 a1) := ⟨Lib.big, Lib.bq hc (by apply b_bind)⟩
end Go.FG.U81

namespace Go.FG.U136
def r2 {R : Type} (N : Nat) (g k0 k1 : F_riii R) (x0 : Row) (x1 x2 x3 : Int) : Option R := bif decide (x3 < (x0.length : Int)) then bif decide (0 <= x3) && decide (x3 < (x0.length : Int)) then bif cvI (cellAt x0 x3.toNat 0) != x1 then k0 x0 x1 (-1) x3 else g x0 (w64 (x1 + 1)) x2 (w64 (x3 + 1)) else none else k1 x0 x1 x2 x3
def l2 {R : Type} (N : Nat) (k0 k1 : F_riii R) : Nat -> F_riii R
 | 0 => fun _ _ _ _ => none
 | n + 1 => fun x0 x1 x2 x3 => r2 N (l2 N k0 k1 n) k0 k1 x0 x1 x2 x3
theorem q2_bind {R S : Type} (f : R -> Option S) (N : Nat) (k0 k1 : F_riii R) : ∀ n : Nat, (∀ (x0 : Row) (x1 x2 x3 : Int), Option.bind (l2 N k0 k1 n x0 x1 x2 x3) f = l2 N (fun y0 y1 y2 y3 => Option.bind (k0 y0 y1 y2 y3) f) (fun y0 y1 y2 y3 => Option.bind (k1 y0 y1 y2 y3) f) n x0 x1 x2 x3) := by
 intro n
 induction n with
 | zero => exact fun _ _ _ _ => rfl
 | succ n ih =>
  intro x0 x1 x2 x3
  simp only [l2, r2, Lib.B1, Lib.B2, Lib.B3, Lib.B4, ih]
variable {R : Type} (N : Nat) (kr : Int -> Option R) (a0 : Row) (a1 : Int)
def b : Option R := l2 N (fun y4 y5 y6 y7 => kr y6) (fun y8 y9 y10 y11 => kr y9) N a0 a1 0 0
theorem b_bind : b N kr a0 a1 = Option.bind (b N (fun r0 => some r0) a0 a1) (fun p => kr p) := by
 unfold b; simp only [Lib.B1, Lib.B2, Lib.B3, Lib.B4, q2_bind]
def vo := b Lib.big (fun r0 => some r0) a0 a1
def c : Bool := Option.isSome (vo a0 a1)
def v := Option.getD (vo a0 a1) (0)
theorem out {x} (h : vo a0 a1 = some x) : c a0 a1 = true /\ v a0 a1 = x := Lib.out_ h
theorem b_eq (hc : c a0 a1 = true) : ∃ N, b N kr a0 a1 = Lib.ap (fun p => kr p) (v a0 a1) := ⟨Lib.big, Lib.bq hc (by apply b_bind)⟩
end Go.FG.U136

namespace Go.FG.U112
def r2 {R : Type} (N : Nat) (g k0 k1 : F_riii R) (x0 : Row) (x1 x2 x3 : Int) : Option R := bif decide (x3 < (x0.length : Int)) then bif decide (0 <= x3) && decide (x3 < (x0.length : Int)) then bif U136.c (cvL (cellAt x0 x3.toNat 0)) x1 then bif decide (U136.v (cvL (cellAt x0 x3.toNat 0)) x1 < 0) then k0 x0 (U136.v (cvL (cellAt x0 x3.toNat 0)) x1) (-1) x3 else g x0 (U136.v (cvL (cellAt x0 x3.toNat 0)) x1) x2 (w64 (x3 + 1)) else none else none else k1 x0 x1 x2 x3
def l2 {R : Type} (N : Nat) (k0 k1 : F_riii R) : Nat -> F_riii R
 | 0 => fun _ _ _ _ => none
 | n + 1 => fun x0 x1 x2 x3 => r2 N (l2 N k0 k1 n) k0 k1 x0 x1 x2 x3
theorem q2_bind {R S : Type} (f : R -> Option S) (N : Nat) (k0 k1 : F_riii R) : ∀ n : Nat, (∀ (x0 : Row) (x1 x2 x3 : Int), Option.bind (l2 N k0 k1 n x0 x1 x2 x3) f = l2 N (fun y0 y1 y2 y3 => Option.bind (k0 y0 y1 y2 y3) f) (fun y0 y1 y2 y3 => Option.bind (k1 y0 y1 y2 y3) f) n x0 x1 x2 x3) := by
 intro n
 induction n with
 | zero => exact fun _ _ _ _ => rfl
 | succ n ih =>
  intro x0 x1 x2 x3
  simp only [l2, r2, Lib.B1, Lib.B2, Lib.B3, Lib.B4, ih]
variable {R : Type} (N : Nat) (kr : Int -> Option R) (a0 : Row) (a1 : Int)
def b : Option R := l2 N (fun y4 y5 y6 y7 => kr y6) (fun y8 y9 y10 y11 => kr y9) N a0 a1 0 0
theorem b_bind : b N kr a0 a1 = Option.bind (b N (fun r0 => some r0) a0 a1) (fun p => kr p) := by
 unfold b; simp only [Lib.B1, Lib.B2, Lib.B3, Lib.B4, q2_bind]
def vo := b Lib.big (fun r0 => some r0) a0 a1
def c : Bool := Option.isSome (vo a0 a1)
def v := Option.getD (vo a0 a1) (0)
theorem out {x} (h : vo a0 a1 = some x) : c a0 a1 = true /\ v a0 a1 = x := Lib.out_ h
theorem b_eq (hc : c a0 a1 = true) : ∃ N, b N kr a0 a1 = Lib.ap (fun p => kr p) (v a0 a1) := ⟨Lib.big, Lib.bq hc (by apply b_bind)⟩
end Go.FG.U112

namespace Go.FG.U82
def b {R : Type} (kr : Int -> Option R) (a0 : Row) (a1 a2 : Int) : Option R := bif U112.c a0 a2 then bif decide (U112.v a0 a2 < 0) then kr (-1) else kr (U112.v a0 a2) else none
variable {R : Type} (kr : Int -> Option R) (a0 : Row) (a1 a2 : Int)
def vo := b (fun r0 => some r0) a0 a1 a2
def c : Bool := Option.isSome (vo a0 a1 a2)
def v := Option.getD (vo a0 a1 a2) (0)
theorem out {x} (h : vo a0 a1 a2 = some x) : c a0 a1 a2 = true /\ v a0 a1 a2 = x := Lib.out_ h
theorem b_eq (hc : c a0 a1 a2 = true) : b kr a0 a1 a2 = Lib.ap (fun p => kr p) (v a0 a1 a2) := Lib.bq hc (by unfold vo b; simp only [Lib.B1, Lib.B2, Lib.B3, Lib.B4])
end Go.FG.U82

namespace Go.FG.U43
variable {R : Type} (kr : Int -> Option R) (a0 a1 a2 : Row) (a3 a4 : Int)
def b : Option R := bif U81.c a0 a4 then bif decide (U81.v a0 a4 < 0) then kr (-1) else bif U81.c a1 (U81.v a0 a4) then bif decide (U81.v a1 (U81.v a0 a4) < 0) then kr (-1) else bif U82.c a2 a3 (U81.v a1 (U81.v a0 a4)) then bif decide (U82.v a2 a3 (U81.v a1 (U81.v a0 a4)) < 0) then kr (-1) else kr (U82.v a2 a3 (U81.v a1 (U81.v a0 a4))) else none else none else none
def vo := b (fun r0 => some r0) a0 a1 a2 a3 a4
def c : Bool := Option.isSome (vo a0 a1 a2 a3 a4)
def v := Option.getD (vo a0 a1 a2 a3 a4) (0)
theorem out {x} (h : vo a0 a1 a2 a3 a4 = some x) : c a0 a1 a2 a3 a4 = true /\ v a0 a1 a2 a3 a4 = x := Lib.out_ h
theorem b_eq (hc : c a0 a1 a2 a3 a4 = true) : b kr a0 a1 a2 a3 a4 = Lib.ap (fun p => kr p) (v a0 a1 a2 a3 a4) := Lib.bq hc (by unfold vo b; simp only [Lib.B1, Lib.B2, Lib.B3, Lib.B4])
end Go.FG.U43

namespace Go.FG.U44
def r2 {R : Type} (N : Nat) (g k0 k1 : F_riii R) (x0 : Row) (x1 x2 x3 : Int) : Option R := bif decide (x3 < (x0.length : Int)) then bif decide (0 <= x3) && decide (x3 < (x0.length : Int)) then bif U59.c x1 then bif !List.beq (ByteArray.toList (cvS (cellAt x0 x3.toNat 0))) (ByteArray.toList (U59.v x1)) then k0 x0 x1 (-1) x3 else bif decide (0 <= x3) && decide (x3 < (x0.length : Int)) then bif U59.c (w64 (x1 + 1)) then bif !List.beq (ByteArray.toList (cvS (cellAt x0 x3.toNat 1))) (ByteArray.toList (U59.v (w64 (x1 + 1)))) then k0 x0 (w64 (x1 + 1)) (-1) x3 else bif decide (0 <= x3) && decide (x3 < (x0.length : Int)) then bif cvI (cellAt x0 x3.toNat 2) != w64 (w64 (x1 + 1) + 1) then k0 x0 (w64 (w64 (x1 + 1) + 1)) (-1) x3 else bif decide (0 <= x3) && decide (x3 < (x0.length : Int)) then bif cvI (cellAt x0 x3.toNat 3) != w64 (w64 (w64 (x1 + 1) + 1) + 1) then k0 x0 (w64 (w64 (w64 (x1 + 1) + 1) + 1)) (-1) x3 else bif decide (0 <= x3) && decide (x3 < (x0.length : Int)) then bif cvI (cellAt x0 x3.toNat 4) != w64 (w64 (w64 (w64 (x1 + 1) + 1) + 1) + 1) then k0 x0 (w64 (w64 (w64 (w64 (x1 + 1) + 1) + 1) + 1)) (-1) x3 else g x0 (w64 (w64 (w64 (w64 (w64 (x1 + 1) + 1) + 1) + 1) + 1)) x2 (w64 (x3 + 1)) else none else none else none else none else none else none else none else k1 x0 x1 x2 x3
def l2 {R : Type} (N : Nat) (k0 k1 : F_riii R) : Nat -> F_riii R
 | 0 => fun _ _ _ _ => none
 | n + 1 => fun x0 x1 x2 x3 => r2 N (l2 N k0 k1 n) k0 k1 x0 x1 x2 x3
theorem q2_bind {R S : Type} (f : R -> Option S) (N : Nat) (k0 k1 : F_riii R) : ∀ n : Nat, (∀ (x0 : Row) (x1 x2 x3 : Int), Option.bind (l2 N k0 k1 n x0 x1 x2 x3) f = l2 N (fun y0 y1 y2 y3 => Option.bind (k0 y0 y1 y2 y3) f) (fun y0 y1 y2 y3 => Option.bind (k1 y0 y1 y2 y3) f) n x0 x1 x2 x3) := by
 intro n
 induction n with
 | zero => exact fun _ _ _ _ => rfl
 | succ n ih =>
  intro x0 x1 x2 x3
  simp only [l2, r2, Lib.B1, Lib.B2, Lib.B3, Lib.B4, ih]
variable {R : Type} (N : Nat) (kr : Int -> Option R) (a0 : Row) (a1 : Int)
def b : Option R := l2 N (fun y4 y5 y6 y7 => kr y6) (fun y8 y9 y10 y11 => kr y9) N a0 a1 0 0
theorem b_bind : b N kr a0 a1 = Option.bind (b N (fun r0 => some r0) a0 a1) (fun p => kr p) := by
 unfold b; simp only [Lib.B1, Lib.B2, Lib.B3, Lib.B4, q2_bind]
def vo := b Lib.big (fun r0 => some r0) a0 a1
def c : Bool := Option.isSome (vo a0 a1)
def v := Option.getD (vo a0 a1) (0)
theorem out {x} (h : vo a0 a1 = some x) : c a0 a1 = true /\ v a0 a1 = x := Lib.out_ h
theorem b_eq (hc : c a0 a1 = true) : ∃ N, b N kr a0 a1 = Lib.ap (fun p => kr p) (v a0 a1) := ⟨Lib.big, Lib.bq hc (by apply b_bind)⟩
end Go.FG.U44

namespace Go.FG.U45
def r2 {R : Type} (N : Nat) (g k0 k1 : F_riii R) (x0 : Row) (x1 x2 x3 : Int) : Option R := bif decide (x3 < (x0.length : Int)) then bif decide (0 <= x3) && decide (x3 < (x0.length : Int)) then bif cvI (cellAt x0 x3.toNat 0) != x1 then k0 x0 x1 (-1) x3 else bif decide (0 <= x3) && decide (x3 < (x0.length : Int)) then bif U59.c (w64 (x1 + 1)) then bif !List.beq (ByteArray.toList (cvS (cellAt x0 x3.toNat 1))) (ByteArray.toList (U59.v (w64 (x1 + 1)))) then k0 x0 (w64 (x1 + 1)) (-1) x3 else bif decide (0 <= x3) && decide (x3 < (x0.length : Int)) then bif cvI (cellAt x0 x3.toNat 2) != w64 (w64 (x1 + 1) + 1) then k0 x0 (w64 (w64 (x1 + 1) + 1)) (-1) x3 else bif decide (0 <= x3) && decide (x3 < (x0.length : Int)) then bif cvI (cellAt x0 x3.toNat 3) != w64 (w64 (w64 (x1 + 1) + 1) + 1) then k0 x0 (w64 (w64 (w64 (x1 + 1) + 1) + 1)) (-1) x3 else bif decide (0 <= x3) && decide (x3 < (x0.length : Int)) then bif cvI (cellAt x0 x3.toNat 4) != w64 (w64 (w64 (w64 (x1 + 1) + 1) + 1) + 1) then k0 x0 (w64 (w64 (w64 (w64 (x1 + 1) + 1) + 1) + 1)) (-1) x3 else bif decide (0 <= x3) && decide (x3 < (x0.length : Int)) then bif U59.c (w64 (w64 (w64 (w64 (w64 (x1 + 1) + 1) + 1) + 1) + 1)) then bif !List.beq (ByteArray.toList (cvS (cellAt x0 x3.toNat 5))) (ByteArray.toList (U59.v (w64 (w64 (w64 (w64 (w64 (x1 + 1) + 1) + 1) + 1) + 1)))) then k0 x0 (w64 (w64 (w64 (w64 (w64 (x1 + 1) + 1) + 1) + 1) + 1)) (-1) x3 else bif decide (0 <= x3) && decide (x3 < (x0.length : Int)) then bif cvI (cellAt x0 x3.toNat 6) != w64 (w64 (w64 (w64 (w64 (w64 (x1 + 1) + 1) + 1) + 1) + 1) + 1) then k0 x0 (w64 (w64 (w64 (w64 (w64 (w64 (x1 + 1) + 1) + 1) + 1) + 1) + 1)) (-1) x3 else g x0 (w64 (w64 (w64 (w64 (w64 (w64 (w64 (x1 + 1) + 1) + 1) + 1) + 1) + 1) + 1)) x2 (w64 (x3 + 1)) else none else none else none else none else none else none else none else none else none else k1 x0 x1 x2 x3
def l2 {R : Type} (N : Nat) (k0 k1 : F_riii R) : Nat -> F_riii R
 | 0 => fun _ _ _ _ => none
 | n + 1 => fun x0 x1 x2 x3 => r2 N (l2 N k0 k1 n) k0 k1 x0 x1 x2 x3
theorem q2_bind {R S : Type} (f : R -> Option S) (N : Nat) (k0 k1 : F_riii R) : ∀ n : Nat, (∀ (x0 : Row) (x1 x2 x3 : Int), Option.bind (l2 N k0 k1 n x0 x1 x2 x3) f = l2 N (fun y0 y1 y2 y3 => Option.bind (k0 y0 y1 y2 y3) f) (fun y0 y1 y2 y3 => Option.bind (k1 y0 y1 y2 y3) f) n x0 x1 x2 x3) := by
 intro n
 induction n with
 | zero => exact fun _ _ _ _ => rfl
 | succ n ih =>
  intro x0 x1 x2 x3
  simp only [l2, r2, Lib.B1, Lib.B2, Lib.B3, Lib.B4, ih]
variable {R : Type} (N : Nat) (kr : Int -> Option R) (a0 : Row) (a1 : Int)
def b : Option R := l2 N (fun y4 y5 y6 y7 => kr y6) (fun y8 y9 y10 y11 => kr y9) N a0 a1 0 0
theorem b_bind : b N kr a0 a1 = Option.bind (b N (fun r0 => some r0) a0 a1) (fun p => kr p) := by
 unfold b; simp only [Lib.B1, Lib.B2, Lib.B3, Lib.B4, q2_bind]
def vo := b Lib.big (fun r0 => some r0) a0 a1
def c : Bool := Option.isSome (vo a0 a1)
def v := Option.getD (vo a0 a1) (0)
theorem out {x} (h : vo a0 a1 = some x) : c a0 a1 = true /\ v a0 a1 = x := Lib.out_ h
theorem b_eq (hc : c a0 a1 = true) : ∃ N, b N kr a0 a1 = Lib.ap (fun p => kr p) (v a0 a1) := ⟨Lib.big, Lib.bq hc (by apply b_bind)⟩
end Go.FG.U45

namespace Go.FG.U13
def b {R : Type} (kr : Int -> Option R) (a0 : Int) (a1 a2 a3 a4 : Row) (a5 : Int) (a6 a7 : Row) (a8 a9 : Int) : Option R := bif U42.c a1 a9 then bif decide (U42.v a1 a9 < 0) then kr (-1) else bif U43.c a2 a3 a4 a5 (U42.v a1 a9) then bif decide (U43.v a2 a3 a4 a5 (U42.v a1 a9) < 0) then kr (-1) else bif U44.c a6 (U43.v a2 a3 a4 a5 (U42.v a1 a9)) then bif decide (U44.v a6 (U43.v a2 a3 a4 a5 (U42.v a1 a9)) < 0) then kr (-1) else bif U45.c a7 (U44.v a6 (U43.v a2 a3 a4 a5 (U42.v a1 a9))) then bif decide (U45.v a7 (U44.v a6 (U43.v a2 a3 a4 a5 (U42.v a1 a9))) < 0) then kr (-1) else kr (U45.v a7 (U44.v a6 (U43.v a2 a3 a4 a5 (U42.v a1 a9)))) else none else none else none else none
variable {R : Type} (kr : Int -> Option R) (a0 : Int) (a1 a2 a3 a4 : Row) (a5 : Int) (a6 a7 : Row) (a8 a9 : Int)
def vo := b (fun r0 => some r0) a0 a1 a2 a3 a4 a5 a6 a7 a8 a9
def c : Bool := Option.isSome (vo a0 a1 a2 a3 a4 a5 a6 a7 a8 a9)
def v := Option.getD (vo a0 a1 a2 a3 a4 a5 a6 a7 a8 a9) (0)
theorem out {x} (h : vo a0 a1 a2 a3 a4 a5 a6 a7 a8 a9 = some x) : c a0 a1 a2 a3 a4 a5 a6 a7 a8 a9 = true /\ v a0 a1 a2 a3 a4 a5 a6 a7 a8 a9 = x := Lib.out_ h
theorem b_eq (hc : c a0 a1 a2 a3 a4 a5 a6 a7 a8 a9 = true) : b kr a0 a1 a2 a3 a4 a5 a6 a7 a8 a9 = Lib.ap (fun p => kr p) (v a0 a1 a2 a3 a4 a5 a6 a7 a8 a9) := Lib.bq hc (by unfold vo b; simp only [Lib.B1, Lib.B2, Lib.B3, Lib.B4])
end Go.FG.U13

namespace Go.FG.U4
variable {R : Type} (kr : Bool -> Option R) (a0 : Int) (a1 a2 a3 a4 : Row) (a5 : Int) (a6 a7 : Row) (a8 a9 : Int) (a10 : ByteArray)
def b : Option R := bif decide ((a10.size : Int) > 1048576) then kr true else bif U7.c a0 a1 a2 a3 a4 a5 a6 a7 a8 1048576 then Lib.lt (U7.v a0 a1 a2 a3 a4 a5 a6 a7 a8 1048576) fun t0 => bif decide (t0 < 0) then kr true else bif U9.c a0 a1 a2 a3 a4 a5 a6 a7 a8 then Lib.lt (U9.v a0 a1 a2 a3 a4 a5 a6 a7 a8) fun t1 => bif U14.c t1.1 t1.2.1 t1.2.2.1 t1.2.2.2.1 t1.2.2.2.2.1 t1.2.2.2.2.2.1 t1.2.2.2.2.2.2.1 t1.2.2.2.2.2.2.2.1 t1.2.2.2.2.2.2.2.2 a9 a10 then Lib.lt (U14.v t1.1 t1.2.1 t1.2.2.1 t1.2.2.2.1 t1.2.2.2.2.1 t1.2.2.2.2.2.1 t1.2.2.2.2.2.2.1 t1.2.2.2.2.2.2.2.1 t1.2.2.2.2.2.2.2.2 a9 a10) fun t2 => bif U9.c a0 a1 a2 a3 a4 a5 a6 a7 a8 then bif U15.c t1.1 t1.2.1 t1.2.2.1 t1.2.2.2.1 t1.2.2.2.2.1 t1.2.2.2.2.2.1 t1.2.2.2.2.2.2.1 t1.2.2.2.2.2.2.2.1 t1.2.2.2.2.2.2.2.2 a9 a10 then Lib.lt (U15.v t1.1 t1.2.1 t1.2.2.1 t1.2.2.2.1 t1.2.2.2.2.1 t1.2.2.2.2.2.1 t1.2.2.2.2.2.2.1 t1.2.2.2.2.2.2.2.1 t1.2.2.2.2.2.2.2.2 a9 a10) fun t4 => bif U11.c t4.1 t4.2.1 t4.2.2.1 t4.2.2.2.1 t4.2.2.2.2.1 t4.2.2.2.2.2.1 t4.2.2.2.2.2.2.1 t4.2.2.2.2.2.2.2.1 t4.2.2.2.2.2.2.2.2.1 t2.1 t2.2.1 t2.2.2.1 t2.2.2.2.1 t2.2.2.2.2.1 t2.2.2.2.2.2.1 t2.2.2.2.2.2.2.1 t2.2.2.2.2.2.2.2.1 t2.2.2.2.2.2.2.2.2.1 then Lib.lt (U11.v t4.1 t4.2.1 t4.2.2.1 t4.2.2.2.1 t4.2.2.2.2.1 t4.2.2.2.2.2.1 t4.2.2.2.2.2.2.1 t4.2.2.2.2.2.2.2.1 t4.2.2.2.2.2.2.2.2.1 t2.1 t2.2.1 t2.2.2.1 t2.2.2.2.1 t2.2.2.2.2.1 t2.2.2.2.2.2.1 t2.2.2.2.2.2.2.1 t2.2.2.2.2.2.2.2.1 t2.2.2.2.2.2.2.2.2.1) fun t5 => bif !t5 then kr false else bif !decide (t4.2.2.2.2.2.2.2.2.2 = t2.2.2.2.2.2.2.2.2.2) then kr false else bif U9.c a0 a1 a2 a3 a4 a5 a6 a7 a8 then bif U11.c t1.1 t1.2.1 t1.2.2.1 t1.2.2.2.1 t1.2.2.2.2.1 t1.2.2.2.2.2.1 t1.2.2.2.2.2.2.1 t1.2.2.2.2.2.2.2.1 t1.2.2.2.2.2.2.2.2 t1.1 t1.2.1 t1.2.2.1 t1.2.2.2.1 t1.2.2.2.2.1 t1.2.2.2.2.2.1 t1.2.2.2.2.2.2.1 t1.2.2.2.2.2.2.2.1 t1.2.2.2.2.2.2.2.2 then Lib.lt (U11.v t1.1 t1.2.1 t1.2.2.1 t1.2.2.2.1 t1.2.2.2.2.1 t1.2.2.2.2.2.1 t1.2.2.2.2.2.2.1 t1.2.2.2.2.2.2.2.1 t1.2.2.2.2.2.2.2.2 t1.1 t1.2.1 t1.2.2.1 t1.2.2.2.1 t1.2.2.2.2.1 t1.2.2.2.2.2.1 t1.2.2.2.2.2.2.1 t1.2.2.2.2.2.2.2.1 t1.2.2.2.2.2.2.2.2) fun t7 => bif !t7 then kr false else bif U12.c t1.1 t1.2.1 t1.2.2.1 t1.2.2.2.1 t1.2.2.2.2.1 t1.2.2.2.2.2.1 t1.2.2.2.2.2.2.1 t1.2.2.2.2.2.2.2.1 t1.2.2.2.2.2.2.2.2 1 then Lib.lt (U12.v t1.1 t1.2.1 t1.2.2.1 t1.2.2.2.1 t1.2.2.2.2.1 t1.2.2.2.2.2.1 t1.2.2.2.2.2.2.1 t1.2.2.2.2.2.2.2.1 t1.2.2.2.2.2.2.2.2 1) fun t8 => bif decide (t8.1 < 0) then kr false else bif U11.c t4.1 t4.2.1 t4.2.2.1 t4.2.2.2.1 t4.2.2.2.2.1 t4.2.2.2.2.2.1 t4.2.2.2.2.2.2.1 t4.2.2.2.2.2.2.2.1 t4.2.2.2.2.2.2.2.2.1 t2.1 t2.2.1 t2.2.2.1 t2.2.2.2.1 t2.2.2.2.2.1 t2.2.2.2.2.2.1 t2.2.2.2.2.2.2.1 t2.2.2.2.2.2.2.2.1 t2.2.2.2.2.2.2.2.2.1 then bif !t5 then kr false else bif !decide (t4.2.2.2.2.2.2.2.2.2 = t2.2.2.2.2.2.2.2.2.2) then kr false else bif U12.c t4.1 t4.2.1 t4.2.2.1 t4.2.2.2.1 t4.2.2.2.2.1 t4.2.2.2.2.2.1 t4.2.2.2.2.2.2.1 t4.2.2.2.2.2.2.2.1 t4.2.2.2.2.2.2.2.2.1 1 then Lib.lt (U12.v t4.1 t4.2.1 t4.2.2.1 t4.2.2.2.1 t4.2.2.2.2.1 t4.2.2.2.2.2.1 t4.2.2.2.2.2.2.1 t4.2.2.2.2.2.2.2.1 t4.2.2.2.2.2.2.2.2.1 1) fun t10 => bif U13.c t4.1 t10.2.1 t10.2.2.1 t10.2.2.2.1 t10.2.2.2.2.1 t4.2.2.2.2.2.1 t10.2.2.2.2.2.1 t10.2.2.2.2.2.2 t4.2.2.2.2.2.2.2.2.1 1 then Lib.lt (U13.v t4.1 t10.2.1 t10.2.2.1 t10.2.2.2.1 t10.2.2.2.2.1 t4.2.2.2.2.2.1 t10.2.2.2.2.2.1 t10.2.2.2.2.2.2 t4.2.2.2.2.2.2.2.2.1 1) fun t11 => bif decide (t11 < 0) then kr false else bif t11 != t10.1 then kr false else bif U9.c a0 a1 a2 a3 a4 a5 a6 a7 a8 then bif U15.c t1.1 t1.2.1 t1.2.2.1 t1.2.2.2.1 t1.2.2.2.2.1 t1.2.2.2.2.2.1 t1.2.2.2.2.2.2.1 t1.2.2.2.2.2.2.2.1 t1.2.2.2.2.2.2.2.2 a9 a10 then bif U11.c t4.1 t4.2.1 t4.2.2.1 t4.2.2.2.1 t4.2.2.2.2.1 t4.2.2.2.2.2.1 t4.2.2.2.2.2.2.1 t4.2.2.2.2.2.2.2.1 t4.2.2.2.2.2.2.2.2.1 t2.1 t2.2.1 t2.2.2.1 t2.2.2.2.1 t2.2.2.2.2.1 t2.2.2.2.2.2.1 t2.2.2.2.2.2.2.1 t2.2.2.2.2.2.2.2.1 t2.2.2.2.2.2.2.2.2.1 then bif !t5 then kr false else bif !decide (t4.2.2.2.2.2.2.2.2.2 = t2.2.2.2.2.2.2.2.2.2) then kr false else bif U13.c t4.1 t10.2.1 t10.2.2.1 t10.2.2.2.1 t10.2.2.2.2.1 t4.2.2.2.2.2.1 t10.2.2.2.2.2.1 t10.2.2.2.2.2.2 t4.2.2.2.2.2.2.2.2.1 1 then bif decide (t11 < 0) then kr false else bif t11 != t10.1 then kr false else kr true else none else none else none else none else none else none else none else none else none else none else none else none else none else none else none else none
def vo := b (fun r0 => some r0) a0 a1 a2 a3 a4 a5 a6 a7 a8 a9 a10
def c : Bool := Option.isSome (vo a0 a1 a2 a3 a4 a5 a6 a7 a8 a9 a10)
def v := Option.getD (vo a0 a1 a2 a3 a4 a5 a6 a7 a8 a9 a10) false
theorem out {x} (h : vo a0 a1 a2 a3 a4 a5 a6 a7 a8 a9 a10 = some x) : c a0 a1 a2 a3 a4 a5 a6 a7 a8 a9 a10 = true /\ v a0 a1 a2 a3 a4 a5 a6 a7 a8 a9 a10 = x := Lib.out_ h
theorem b_eq (hc : c a0 a1 a2 a3 a4 a5 a6 a7 a8 a9 a10 = true) : b kr a0 a1 a2 a3 a4 a5 a6 a7 a8 a9 a10 = Lib.ap (fun p => kr p) (v a0 a1 a2 a3 a4 a5 a6 a7 a8 a9 a10) := Lib.bq hc (by unfold vo b; simp only [Lib.B1, Lib.B2, Lib.B3, Lib.B4])
end Go.FG.U4

