/- Functions of the program, told as functions of numbers, texts and lists, and what each comes to. No condition but those that each states. -/
import Derived.Test.YtijidheebmbkcaaGreatLib
set_option linter.unusedVariables false
set_option linter.unusedSimpArgs false
set_option maxRecDepth 100000
namespace Go.FG.Pu.laws_szEntry
def b {R : Type} (kr : Int → Option R) (a0 : ByteArray) (a1 a2 : Int) (a3 : ByteArray) (a4 : Int) : Option R := bif (decide (w64 (a4 - (↑(ByteArray.size a0) : Int)) < 0)) then (kr (-1)) else (bif (decide (w64 (w64 (a4 - (↑(ByteArray.size a0) : Int)) - (↑(ByteArray.size a3) : Int)) < 0)) then (kr (-1)) else (kr (w64 (w64 (a4 - (↑(ByteArray.size a0) : Int)) - (↑(ByteArray.size a3) : Int)))))
def v (a0 : ByteArray) (a1 a2 : Int) (a3 : ByteArray) (a4 : Int) : Int := bif (decide (w64 (a4 - (↑(ByteArray.size a0) : Int)) < 0)) then (((-1))) else (bif (decide (w64 (w64 (a4 - (↑(ByteArray.size a0) : Int)) - (↑(ByteArray.size a3) : Int)) < 0)) then (((-1))) else (((w64 (w64 (a4 - (↑(ByteArray.size a0) : Int)) - (↑(ByteArray.size a3) : Int))))))
theorem b_eq {R : Type} (kr : Int → Option R) (a0 : ByteArray) (a1 a2 : Int) (a3 : ByteArray) (a4 : Int) : b kr a0 a1 a2 a3 a4 = kr (v a0 a1 a2 a3 a4) := by
  first | rfl | (unfold b v; simp only [Bool.cond_eq_ite]; (repeat' split) <;> rfl)
end Go.FG.Pu.laws_szEntry

namespace Go.FG.Pu.laws_szEntryS
def r5 {R : Type} (N : Nat) (g : Row → Int → Int → Int → Option R) (k0 : Row → Int → Int → Int → Option R) (k1 : Row → Int → Int → Int → Option R) (x0 : Row) (x1 x2 x3 : Int) : Option R := bif (decide (x3 < (↑(List.length x0) : Int))) then (bif (decide (0 ≤ x3) && decide (x3 < (↑(List.length x0) : Int))) then (bif (decide (Pu.laws_szEntry.v (cvS (cellAt x0 (Int.toNat x3) 0)) (cvI (cellAt x0 (Int.toNat x3) 1)) (cvI (cellAt x0 (Int.toNat x3) (1 + 1))) (cvS (cellAt x0 (Int.toNat x3) (1 + 1 + 1))) x1 < 0)) then (k0 x0 (Pu.laws_szEntry.v (cvS (cellAt x0 (Int.toNat x3) 0)) (cvI (cellAt x0 (Int.toNat x3) 1)) (cvI (cellAt x0 (Int.toNat x3) (1 + 1))) (cvS (cellAt x0 (Int.toNat x3) (1 + 1 + 1))) x1) (-1) x3) else (g x0 (Pu.laws_szEntry.v (cvS (cellAt x0 (Int.toNat x3) 0)) (cvI (cellAt x0 (Int.toNat x3) 1)) (cvI (cellAt x0 (Int.toNat x3) (1 + 1))) (cvS (cellAt x0 (Int.toNat x3) (1 + 1 + 1))) x1) x2 (w64 (x3 + 1)))) else (none)) else (k1 x0 x1 x2 x3)
def l5 {R : Type} (N : Nat) (k0 : Row → Int → Int → Int → Option R) (k1 : Row → Int → Int → Int → Option R) : Nat → Row → Int → Int → Int → Option R
  | 0 => (fun _ _ _ _ => none)
  | n + 1 => (fun x0 x1 x2 x3 => r5 N (l5 N k0 k1 n) k0 k1 x0 x1 x2 x3)
def b {R : Type} (N : Nat) (kr : Int → Option R) (a0 : Row) (a1 : Int) : Option R := bif (decide (w64 (a1 - (↑(List.length a0) : Int)) < 0)) then (kr (-1)) else (l5 N (fun y4 y5 y6 y7 => kr y6) (fun y8 y9 y10 y11 => kr y9) N a0 (w64 (a1 - (↑(List.length a0) : Int))) 0 0)
theorem q5_bind {R S : Type} (f : R → Option S) (N : Nat) (k0 : Row → Int → Int → Int → Option R) (k1 : Row → Int → Int → Int → Option R) : ∀ n : Nat, (∀ (x0 : Row) (x1 x2 x3 : Int), Option.bind (l5 N k0 k1 n x0 x1 x2 x3) f = l5 N (fun y0 y1 y2 y3 => (Option.bind (k0 y0 y1 y2 y3) f)) (fun y0 y1 y2 y3 => (Option.bind (k1 y0 y1 y2 y3) f)) n x0 x1 x2 x3) := by
  intro n
  induction n with
  | zero => exact (fun _ _ _ _ => rfl)
  | succ n ih =>
    intro x0 x1 x2 x3
    simp only [l5, r5, Lib.lt_bind, Lib.cond_bind, Lib.some_bind, Lib.none_bind, ih]
variable {R : Type} (N : Nat) (kr : Int → Option R) (a0 : Row) (a1 : Int)
theorem b_bind : b N kr a0 a1 = Option.bind (b N (fun r0 => some (r0)) a0 a1) (fun p => kr p) := by
  unfold b; simp only [Lib.lt_bind, Lib.cond_bind, Lib.some_bind, Lib.none_bind, q5_bind]
def vo : Option (Int) := b Lib.big (fun r0 => some (r0)) a0 a1
def c : Bool := Option.isSome (vo a0 a1)
def v : Int := Option.getD (vo a0 a1) (0)
theorem out {x : Int} (h : vo a0 a1 = some x) : c a0 a1 = true ∧ v a0 a1 = x := Lib.out_ h
theorem b_eq (hc : c a0 a1 = true) : ∃ N, b N kr a0 a1 = (fun p => kr p) (v a0 a1) := ⟨Lib.big, (b_bind Lib.big kr a0 a1).trans (by rw [show b Lib.big (fun r0 => some (r0)) a0 a1 = some (v a0 a1) from Lib.some_ hc]; rfl)⟩
end Go.FG.Pu.laws_szEntryS

namespace Go.FG.Pu.laws_szStringS
def r5 {R : Type} (N : Nat) (g : Row → Int → Int → Int → Option R) (k0 : Row → Int → Int → Int → Option R) (k1 : Row → Int → Int → Int → Option R) (x0 : Row) (x1 x2 x3 : Int) : Option R := bif (decide (x3 < (↑(List.length x0) : Int))) then (bif (decide (0 ≤ x3) && decide (x3 < (↑(List.length x0) : Int))) then (bif (decide (w64 (x1 - (↑(ByteArray.size (cvS (cellAt x0 (Int.toNat x3) 0))) : Int)) < 0)) then (k0 x0 (w64 (x1 - (↑(ByteArray.size (cvS (cellAt x0 (Int.toNat x3) 0))) : Int))) (-1) x3) else (g x0 (w64 (x1 - (↑(ByteArray.size (cvS (cellAt x0 (Int.toNat x3) 0))) : Int))) x2 (w64 (x3 + 1)))) else (none)) else (k1 x0 x1 x2 x3)
def l5 {R : Type} (N : Nat) (k0 : Row → Int → Int → Int → Option R) (k1 : Row → Int → Int → Int → Option R) : Nat → Row → Int → Int → Int → Option R
  | 0 => (fun _ _ _ _ => none)
  | n + 1 => (fun x0 x1 x2 x3 => r5 N (l5 N k0 k1 n) k0 k1 x0 x1 x2 x3)
def b {R : Type} (N : Nat) (kr : Int → Option R) (a0 : Row) (a1 : Int) : Option R := bif (decide (w64 (a1 - (↑(List.length a0) : Int)) < 0)) then (kr (-1)) else (l5 N (fun y4 y5 y6 y7 => kr y6) (fun y8 y9 y10 y11 => kr y9) N a0 (w64 (a1 - (↑(List.length a0) : Int))) 0 0)
theorem q5_bind {R S : Type} (f : R → Option S) (N : Nat) (k0 : Row → Int → Int → Int → Option R) (k1 : Row → Int → Int → Int → Option R) : ∀ n : Nat, (∀ (x0 : Row) (x1 x2 x3 : Int), Option.bind (l5 N k0 k1 n x0 x1 x2 x3) f = l5 N (fun y0 y1 y2 y3 => (Option.bind (k0 y0 y1 y2 y3) f)) (fun y0 y1 y2 y3 => (Option.bind (k1 y0 y1 y2 y3) f)) n x0 x1 x2 x3) := by
  intro n
  induction n with
  | zero => exact (fun _ _ _ _ => rfl)
  | succ n ih =>
    intro x0 x1 x2 x3
    simp only [l5, r5, Lib.lt_bind, Lib.cond_bind, Lib.some_bind, Lib.none_bind, ih]
variable {R : Type} (N : Nat) (kr : Int → Option R) (a0 : Row) (a1 : Int)
theorem b_bind : b N kr a0 a1 = Option.bind (b N (fun r0 => some (r0)) a0 a1) (fun p => kr p) := by
  unfold b; simp only [Lib.lt_bind, Lib.cond_bind, Lib.some_bind, Lib.none_bind, q5_bind]
def vo : Option (Int) := b Lib.big (fun r0 => some (r0)) a0 a1
def c : Bool := Option.isSome (vo a0 a1)
def v : Int := Option.getD (vo a0 a1) (0)
theorem out {x : Int} (h : vo a0 a1 = some x) : c a0 a1 = true ∧ v a0 a1 = x := Lib.out_ h
theorem b_eq (hc : c a0 a1 = true) : ∃ N, b N kr a0 a1 = (fun p => kr p) (v a0 a1) := ⟨Lib.big, (b_bind Lib.big kr a0 a1).trans (by rw [show b Lib.big (fun r0 => some (r0)) a0 a1 = some (v a0 a1) from Lib.some_ hc]; rfl)⟩
end Go.FG.Pu.laws_szStringS

namespace Go.FG.Pu.laws_szIntS
def b {R : Type} (kr : Int → Option R) (a0 : Row) (a1 : Int) : Option R := bif (decide (w64 (a1 - (↑(List.length a0) : Int)) < 0)) then (kr (-1)) else (kr (w64 (a1 - (↑(List.length a0) : Int))))
def v (a0 : Row) (a1 : Int) : Int := bif (decide (w64 (a1 - (↑(List.length a0) : Int)) < 0)) then (((-1))) else (((w64 (a1 - (↑(List.length a0) : Int)))))
theorem b_eq {R : Type} (kr : Int → Option R) (a0 : Row) (a1 : Int) : b kr a0 a1 = kr (v a0 a1) := by
  first | rfl | (unfold b v; simp only [Bool.cond_eq_ite]; (repeat' split) <;> rfl)
theorem fits {a : Row} {L : Int} (h0 : 0 ≤ L) (h1 : L ≤ 1048576) (ha : FitR a) (h : decide (v a L < 0) = false) : a.length ≤ 1048576 ∧ v a L = L - a.length := by
  have e := Lib.sub_len h0 h1 ha.1
  unfold v at h ⊢
  rw [e] at h ⊢
  by_cases hc : L - (a.length : Int) < 0
  · rw [decide_eq_true hc] at h; cases h
  · rw [decide_eq_false hc]; exact ⟨by omega, rfl⟩
end Go.FG.Pu.laws_szIntS

namespace Go.FG.Pu.laws_szIntSS
def r5 {R : Type} (N : Nat) (g : Row → Int → Int → Int → Option R) (k0 : Row → Int → Int → Int → Option R) (k1 : Row → Int → Int → Int → Option R) (x0 : Row) (x1 x2 x3 : Int) : Option R := bif (decide (x3 < (↑(List.length x0) : Int))) then (bif (decide (0 ≤ x3) && decide (x3 < (↑(List.length x0) : Int))) then (bif (decide (Pu.laws_szIntS.v (cvL (cellAt x0 (Int.toNat x3) 0)) x1 < 0)) then (k0 x0 (Pu.laws_szIntS.v (cvL (cellAt x0 (Int.toNat x3) 0)) x1) (-1) x3) else (g x0 (Pu.laws_szIntS.v (cvL (cellAt x0 (Int.toNat x3) 0)) x1) x2 (w64 (x3 + 1)))) else (none)) else (k1 x0 x1 x2 x3)
def l5 {R : Type} (N : Nat) (k0 : Row → Int → Int → Int → Option R) (k1 : Row → Int → Int → Int → Option R) : Nat → Row → Int → Int → Int → Option R
  | 0 => (fun _ _ _ _ => none)
  | n + 1 => (fun x0 x1 x2 x3 => r5 N (l5 N k0 k1 n) k0 k1 x0 x1 x2 x3)
def b {R : Type} (N : Nat) (kr : Int → Option R) (a0 : Row) (a1 : Int) : Option R := bif (decide (w64 (a1 - (↑(List.length a0) : Int)) < 0)) then (kr (-1)) else (l5 N (fun y4 y5 y6 y7 => kr y6) (fun y8 y9 y10 y11 => kr y9) N a0 (w64 (a1 - (↑(List.length a0) : Int))) 0 0)
theorem q5_bind {R S : Type} (f : R → Option S) (N : Nat) (k0 : Row → Int → Int → Int → Option R) (k1 : Row → Int → Int → Int → Option R) : ∀ n : Nat, (∀ (x0 : Row) (x1 x2 x3 : Int), Option.bind (l5 N k0 k1 n x0 x1 x2 x3) f = l5 N (fun y0 y1 y2 y3 => (Option.bind (k0 y0 y1 y2 y3) f)) (fun y0 y1 y2 y3 => (Option.bind (k1 y0 y1 y2 y3) f)) n x0 x1 x2 x3) := by
  intro n
  induction n with
  | zero => exact (fun _ _ _ _ => rfl)
  | succ n ih =>
    intro x0 x1 x2 x3
    simp only [l5, r5, Lib.lt_bind, Lib.cond_bind, Lib.some_bind, Lib.none_bind, ih]
variable {R : Type} (N : Nat) (kr : Int → Option R) (a0 : Row) (a1 : Int)
theorem b_bind : b N kr a0 a1 = Option.bind (b N (fun r0 => some (r0)) a0 a1) (fun p => kr p) := by
  unfold b; simp only [Lib.lt_bind, Lib.cond_bind, Lib.some_bind, Lib.none_bind, q5_bind]
def vo : Option (Int) := b Lib.big (fun r0 => some (r0)) a0 a1
def c : Bool := Option.isSome (vo a0 a1)
def v : Int := Option.getD (vo a0 a1) (0)
theorem out {x : Int} (h : vo a0 a1 = some x) : c a0 a1 = true ∧ v a0 a1 = x := Lib.out_ h
theorem b_eq (hc : c a0 a1 = true) : ∃ N, b N kr a0 a1 = (fun p => kr p) (v a0 a1) := ⟨Lib.big, (b_bind Lib.big kr a0 a1).trans (by rw [show b Lib.big (fun r0 => some (r0)) a0 a1 = some (v a0 a1) from Lib.some_ hc]; rfl)⟩
end Go.FG.Pu.laws_szIntSS

namespace Go.FG.Pu.laws_szSketch
def b {R : Type} (kr : Int → Option R) (a0 : Row) (a1 a2 : Int) : Option R := bif (Pu.laws_szIntSS.c a0 a2) then (bif (decide (Pu.laws_szIntSS.v a0 a2 < 0)) then (kr (-1)) else (kr (Pu.laws_szIntSS.v a0 a2))) else (none)
variable {R : Type} (kr : Int → Option R) (a0 : Row) (a1 a2 : Int)
theorem b_bind : b kr a0 a1 a2 = Option.bind (b (fun r0 => some (r0)) a0 a1 a2) (fun p => kr p) := by
  unfold b; simp only [Lib.lt_bind, Lib.cond_bind, Lib.some_bind, Lib.none_bind]
def vo : Option (Int) := b (fun r0 => some (r0)) a0 a1 a2
def c : Bool := Option.isSome (vo a0 a1 a2)
def v : Int := Option.getD (vo a0 a1 a2) (0)
theorem out {x : Int} (h : vo a0 a1 a2 = some x) : c a0 a1 a2 = true ∧ v a0 a1 a2 = x := Lib.out_ h
theorem b_eq (hc : c a0 a1 a2 = true) : b kr a0 a1 a2 = (fun p => kr p) (v a0 a1 a2) := (b_bind kr a0 a1 a2).trans (by rw [show b (fun r0 => some (r0)) a0 a1 a2 = some (v a0 a1 a2) from Lib.some_ hc]; rfl)
end Go.FG.Pu.laws_szSketch

namespace Go.FG.Pu.laws_szPolicy
def b {R : Type} (kr : Int → Option R) (a0 a1 a2 : Row) (a3 a4 : Int) : Option R := bif (Pu.laws_szStringS.c a0 a4) then (bif (decide (Pu.laws_szStringS.v a0 a4 < 0)) then (kr (-1)) else (bif (Pu.laws_szStringS.c a1 (Pu.laws_szStringS.v a0 a4)) then (bif (decide (Pu.laws_szStringS.v a1 (Pu.laws_szStringS.v a0 a4) < 0)) then (kr (-1)) else (bif (Pu.laws_szSketch.c a2 a3 (Pu.laws_szStringS.v a1 (Pu.laws_szStringS.v a0 a4))) then (bif (decide (Pu.laws_szSketch.v a2 a3 (Pu.laws_szStringS.v a1 (Pu.laws_szStringS.v a0 a4)) < 0)) then (kr (-1)) else (kr (Pu.laws_szSketch.v a2 a3 (Pu.laws_szStringS.v a1 (Pu.laws_szStringS.v a0 a4))))) else (none))) else (none))) else (none)
variable {R : Type} (kr : Int → Option R) (a0 a1 a2 : Row) (a3 a4 : Int)
theorem b_bind : b kr a0 a1 a2 a3 a4 = Option.bind (b (fun r0 => some (r0)) a0 a1 a2 a3 a4) (fun p => kr p) := by
  unfold b; simp only [Lib.lt_bind, Lib.cond_bind, Lib.some_bind, Lib.none_bind]
def vo : Option (Int) := b (fun r0 => some (r0)) a0 a1 a2 a3 a4
def c : Bool := Option.isSome (vo a0 a1 a2 a3 a4)
def v : Int := Option.getD (vo a0 a1 a2 a3 a4) (0)
theorem out {x : Int} (h : vo a0 a1 a2 a3 a4 = some x) : c a0 a1 a2 a3 a4 = true ∧ v a0 a1 a2 a3 a4 = x := Lib.out_ h
theorem b_eq (hc : c a0 a1 a2 a3 a4 = true) : b kr a0 a1 a2 a3 a4 = (fun p => kr p) (v a0 a1 a2 a3 a4) := (b_bind kr a0 a1 a2 a3 a4).trans (by rw [show b (fun r0 => some (r0)) a0 a1 a2 a3 a4 = some (v a0 a1 a2 a3 a4) from Lib.some_ hc]; rfl)
end Go.FG.Pu.laws_szPolicy

namespace Go.FG.Pu.laws_szFetch
def b {R : Type} (kr : Int → Option R) (a0 a1 : ByteArray) (a2 a3 a4 a5 : Int) : Option R := bif (decide (w64 (a5 - (↑(ByteArray.size a0) : Int)) < 0)) then (kr (-1)) else (bif (decide (w64 (w64 (a5 - (↑(ByteArray.size a0) : Int)) - (↑(ByteArray.size a1) : Int)) < 0)) then (kr (-1)) else (kr (w64 (w64 (a5 - (↑(ByteArray.size a0) : Int)) - (↑(ByteArray.size a1) : Int)))))
def v (a0 a1 : ByteArray) (a2 a3 a4 a5 : Int) : Int := bif (decide (w64 (a5 - (↑(ByteArray.size a0) : Int)) < 0)) then (((-1))) else (bif (decide (w64 (w64 (a5 - (↑(ByteArray.size a0) : Int)) - (↑(ByteArray.size a1) : Int)) < 0)) then (((-1))) else (((w64 (w64 (a5 - (↑(ByteArray.size a0) : Int)) - (↑(ByteArray.size a1) : Int))))))
theorem b_eq {R : Type} (kr : Int → Option R) (a0 a1 : ByteArray) (a2 a3 a4 a5 : Int) : b kr a0 a1 a2 a3 a4 a5 = kr (v a0 a1 a2 a3 a4 a5) := by
  first | rfl | (unfold b v; simp only [Bool.cond_eq_ite]; (repeat' split) <;> rfl)
end Go.FG.Pu.laws_szFetch

namespace Go.FG.Pu.laws_szFetchS
def r5 {R : Type} (N : Nat) (g : Row → Int → Int → Int → Option R) (k0 : Row → Int → Int → Int → Option R) (k1 : Row → Int → Int → Int → Option R) (x0 : Row) (x1 x2 x3 : Int) : Option R := bif (decide (x3 < (↑(List.length x0) : Int))) then (bif (decide (0 ≤ x3) && decide (x3 < (↑(List.length x0) : Int))) then (bif (decide (Pu.laws_szFetch.v (cvS (cellAt x0 (Int.toNat x3) 0)) (cvS (cellAt x0 (Int.toNat x3) 1)) (cvI (cellAt x0 (Int.toNat x3) (1 + 1))) (cvI (cellAt x0 (Int.toNat x3) (1 + 1 + 1))) (cvI (cellAt x0 (Int.toNat x3) (1 + 1 + 1 + 1))) x1 < 0)) then (k0 x0 (Pu.laws_szFetch.v (cvS (cellAt x0 (Int.toNat x3) 0)) (cvS (cellAt x0 (Int.toNat x3) 1)) (cvI (cellAt x0 (Int.toNat x3) (1 + 1))) (cvI (cellAt x0 (Int.toNat x3) (1 + 1 + 1))) (cvI (cellAt x0 (Int.toNat x3) (1 + 1 + 1 + 1))) x1) (-1) x3) else (g x0 (Pu.laws_szFetch.v (cvS (cellAt x0 (Int.toNat x3) 0)) (cvS (cellAt x0 (Int.toNat x3) 1)) (cvI (cellAt x0 (Int.toNat x3) (1 + 1))) (cvI (cellAt x0 (Int.toNat x3) (1 + 1 + 1))) (cvI (cellAt x0 (Int.toNat x3) (1 + 1 + 1 + 1))) x1) x2 (w64 (x3 + 1)))) else (none)) else (k1 x0 x1 x2 x3)
def l5 {R : Type} (N : Nat) (k0 : Row → Int → Int → Int → Option R) (k1 : Row → Int → Int → Int → Option R) : Nat → Row → Int → Int → Int → Option R
  | 0 => (fun _ _ _ _ => none)
  | n + 1 => (fun x0 x1 x2 x3 => r5 N (l5 N k0 k1 n) k0 k1 x0 x1 x2 x3)
def b {R : Type} (N : Nat) (kr : Int → Option R) (a0 : Row) (a1 : Int) : Option R := bif (decide (w64 (a1 - (↑(List.length a0) : Int)) < 0)) then (kr (-1)) else (l5 N (fun y4 y5 y6 y7 => kr y6) (fun y8 y9 y10 y11 => kr y9) N a0 (w64 (a1 - (↑(List.length a0) : Int))) 0 0)
theorem q5_bind {R S : Type} (f : R → Option S) (N : Nat) (k0 : Row → Int → Int → Int → Option R) (k1 : Row → Int → Int → Int → Option R) : ∀ n : Nat, (∀ (x0 : Row) (x1 x2 x3 : Int), Option.bind (l5 N k0 k1 n x0 x1 x2 x3) f = l5 N (fun y0 y1 y2 y3 => (Option.bind (k0 y0 y1 y2 y3) f)) (fun y0 y1 y2 y3 => (Option.bind (k1 y0 y1 y2 y3) f)) n x0 x1 x2 x3) := by
  intro n
  induction n with
  | zero => exact (fun _ _ _ _ => rfl)
  | succ n ih =>
    intro x0 x1 x2 x3
    simp only [l5, r5, Lib.lt_bind, Lib.cond_bind, Lib.some_bind, Lib.none_bind, ih]
variable {R : Type} (N : Nat) (kr : Int → Option R) (a0 : Row) (a1 : Int)
theorem b_bind : b N kr a0 a1 = Option.bind (b N (fun r0 => some (r0)) a0 a1) (fun p => kr p) := by
  unfold b; simp only [Lib.lt_bind, Lib.cond_bind, Lib.some_bind, Lib.none_bind, q5_bind]
def vo : Option (Int) := b Lib.big (fun r0 => some (r0)) a0 a1
def c : Bool := Option.isSome (vo a0 a1)
def v : Int := Option.getD (vo a0 a1) (0)
theorem out {x : Int} (h : vo a0 a1 = some x) : c a0 a1 = true ∧ v a0 a1 = x := Lib.out_ h
theorem b_eq (hc : c a0 a1 = true) : ∃ N, b N kr a0 a1 = (fun p => kr p) (v a0 a1) := ⟨Lib.big, (b_bind Lib.big kr a0 a1).trans (by rw [show b Lib.big (fun r0 => some (r0)) a0 a1 = some (v a0 a1) from Lib.some_ hc]; rfl)⟩
end Go.FG.Pu.laws_szFetchS

namespace Go.FG.Pu.laws_szClient
def b {R : Type} (kr : Int → Option R) (a0 : Int) (a1 : ByteArray) (a2 a3 a4 : Int) (a5 : ByteArray) (a6 a7 : Int) : Option R := bif (decide (w64 (a7 - (↑(ByteArray.size a1) : Int)) < 0)) then (kr (-1)) else (bif (decide (w64 (w64 (a7 - (↑(ByteArray.size a1) : Int)) - (↑(ByteArray.size a5) : Int)) < 0)) then (kr (-1)) else (kr (w64 (w64 (a7 - (↑(ByteArray.size a1) : Int)) - (↑(ByteArray.size a5) : Int)))))
def v (a0 : Int) (a1 : ByteArray) (a2 a3 a4 : Int) (a5 : ByteArray) (a6 a7 : Int) : Int := bif (decide (w64 (a7 - (↑(ByteArray.size a1) : Int)) < 0)) then (((-1))) else (bif (decide (w64 (w64 (a7 - (↑(ByteArray.size a1) : Int)) - (↑(ByteArray.size a5) : Int)) < 0)) then (((-1))) else (((w64 (w64 (a7 - (↑(ByteArray.size a1) : Int)) - (↑(ByteArray.size a5) : Int))))))
theorem b_eq {R : Type} (kr : Int → Option R) (a0 : Int) (a1 : ByteArray) (a2 a3 a4 : Int) (a5 : ByteArray) (a6 a7 : Int) : b kr a0 a1 a2 a3 a4 a5 a6 a7 = kr (v a0 a1 a2 a3 a4 a5 a6 a7) := by
  first | rfl | (unfold b v; simp only [Bool.cond_eq_ite]; (repeat' split) <;> rfl)
end Go.FG.Pu.laws_szClient

namespace Go.FG.Pu.laws_szClientS
def r5 {R : Type} (N : Nat) (g : Row → Int → Int → Int → Option R) (k0 : Row → Int → Int → Int → Option R) (k1 : Row → Int → Int → Int → Option R) (x0 : Row) (x1 x2 x3 : Int) : Option R := bif (decide (x3 < (↑(List.length x0) : Int))) then (bif (decide (0 ≤ x3) && decide (x3 < (↑(List.length x0) : Int))) then (bif (decide (Pu.laws_szClient.v (cvI (cellAt x0 (Int.toNat x3) 0)) (cvS (cellAt x0 (Int.toNat x3) 1)) (cvI (cellAt x0 (Int.toNat x3) (1 + 1))) (cvI (cellAt x0 (Int.toNat x3) (1 + 1 + 1))) (cvI (cellAt x0 (Int.toNat x3) (1 + 1 + 1 + 1))) (cvS (cellAt x0 (Int.toNat x3) (1 + 1 + 1 + 1 + 1))) (cvI (cellAt x0 (Int.toNat x3) (1 + 1 + 1 + 1 + 1 + 1))) x1 < 0)) then (k0 x0 (Pu.laws_szClient.v (cvI (cellAt x0 (Int.toNat x3) 0)) (cvS (cellAt x0 (Int.toNat x3) 1)) (cvI (cellAt x0 (Int.toNat x3) (1 + 1))) (cvI (cellAt x0 (Int.toNat x3) (1 + 1 + 1))) (cvI (cellAt x0 (Int.toNat x3) (1 + 1 + 1 + 1))) (cvS (cellAt x0 (Int.toNat x3) (1 + 1 + 1 + 1 + 1))) (cvI (cellAt x0 (Int.toNat x3) (1 + 1 + 1 + 1 + 1 + 1))) x1) (-1) x3) else (g x0 (Pu.laws_szClient.v (cvI (cellAt x0 (Int.toNat x3) 0)) (cvS (cellAt x0 (Int.toNat x3) 1)) (cvI (cellAt x0 (Int.toNat x3) (1 + 1))) (cvI (cellAt x0 (Int.toNat x3) (1 + 1 + 1))) (cvI (cellAt x0 (Int.toNat x3) (1 + 1 + 1 + 1))) (cvS (cellAt x0 (Int.toNat x3) (1 + 1 + 1 + 1 + 1))) (cvI (cellAt x0 (Int.toNat x3) (1 + 1 + 1 + 1 + 1 + 1))) x1) x2 (w64 (x3 + 1)))) else (none)) else (k1 x0 x1 x2 x3)
def l5 {R : Type} (N : Nat) (k0 : Row → Int → Int → Int → Option R) (k1 : Row → Int → Int → Int → Option R) : Nat → Row → Int → Int → Int → Option R
  | 0 => (fun _ _ _ _ => none)
  | n + 1 => (fun x0 x1 x2 x3 => r5 N (l5 N k0 k1 n) k0 k1 x0 x1 x2 x3)
def b {R : Type} (N : Nat) (kr : Int → Option R) (a0 : Row) (a1 : Int) : Option R := bif (decide (w64 (a1 - (↑(List.length a0) : Int)) < 0)) then (kr (-1)) else (l5 N (fun y4 y5 y6 y7 => kr y6) (fun y8 y9 y10 y11 => kr y9) N a0 (w64 (a1 - (↑(List.length a0) : Int))) 0 0)
theorem q5_bind {R S : Type} (f : R → Option S) (N : Nat) (k0 : Row → Int → Int → Int → Option R) (k1 : Row → Int → Int → Int → Option R) : ∀ n : Nat, (∀ (x0 : Row) (x1 x2 x3 : Int), Option.bind (l5 N k0 k1 n x0 x1 x2 x3) f = l5 N (fun y0 y1 y2 y3 => (Option.bind (k0 y0 y1 y2 y3) f)) (fun y0 y1 y2 y3 => (Option.bind (k1 y0 y1 y2 y3) f)) n x0 x1 x2 x3) := by
  intro n
  induction n with
  | zero => exact (fun _ _ _ _ => rfl)
  | succ n ih =>
    intro x0 x1 x2 x3
    simp only [l5, r5, Lib.lt_bind, Lib.cond_bind, Lib.some_bind, Lib.none_bind, ih]
variable {R : Type} (N : Nat) (kr : Int → Option R) (a0 : Row) (a1 : Int)
theorem b_bind : b N kr a0 a1 = Option.bind (b N (fun r0 => some (r0)) a0 a1) (fun p => kr p) := by
  unfold b; simp only [Lib.lt_bind, Lib.cond_bind, Lib.some_bind, Lib.none_bind, q5_bind]
def vo : Option (Int) := b Lib.big (fun r0 => some (r0)) a0 a1
def c : Bool := Option.isSome (vo a0 a1)
def v : Int := Option.getD (vo a0 a1) (0)
theorem out {x : Int} (h : vo a0 a1 = some x) : c a0 a1 = true ∧ v a0 a1 = x := Lib.out_ h
theorem b_eq (hc : c a0 a1 = true) : ∃ N, b N kr a0 a1 = (fun p => kr p) (v a0 a1) := ⟨Lib.big, (b_bind Lib.big kr a0 a1).trans (by rw [show b Lib.big (fun r0 => some (r0)) a0 a1 = some (v a0 a1) from Lib.some_ hc]; rfl)⟩
end Go.FG.Pu.laws_szClientS

namespace Go.FG.Pu.laws_szProxy
def b {R : Type} (kr : Int → Option R) (a0 : Int) (a1 a2 a3 a4 : Row) (a5 : Int) (a6 a7 : Row) (a8 a9 : Int) : Option R := bif (Pu.laws_szEntryS.c a1 a9) then (bif (decide (Pu.laws_szEntryS.v a1 a9 < 0)) then (kr (-1)) else (bif (Pu.laws_szPolicy.c a2 a3 a4 a5 (Pu.laws_szEntryS.v a1 a9)) then (bif (decide (Pu.laws_szPolicy.v a2 a3 a4 a5 (Pu.laws_szEntryS.v a1 a9) < 0)) then (kr (-1)) else (bif (Pu.laws_szFetchS.c a6 (Pu.laws_szPolicy.v a2 a3 a4 a5 (Pu.laws_szEntryS.v a1 a9))) then (bif (decide (Pu.laws_szFetchS.v a6 (Pu.laws_szPolicy.v a2 a3 a4 a5 (Pu.laws_szEntryS.v a1 a9)) < 0)) then (kr (-1)) else (bif (Pu.laws_szClientS.c a7 (Pu.laws_szFetchS.v a6 (Pu.laws_szPolicy.v a2 a3 a4 a5 (Pu.laws_szEntryS.v a1 a9)))) then (bif (decide (Pu.laws_szClientS.v a7 (Pu.laws_szFetchS.v a6 (Pu.laws_szPolicy.v a2 a3 a4 a5 (Pu.laws_szEntryS.v a1 a9))) < 0)) then (kr (-1)) else (kr (Pu.laws_szClientS.v a7 (Pu.laws_szFetchS.v a6 (Pu.laws_szPolicy.v a2 a3 a4 a5 (Pu.laws_szEntryS.v a1 a9)))))) else (none))) else (none))) else (none))) else (none)
variable {R : Type} (kr : Int → Option R) (a0 : Int) (a1 a2 a3 a4 : Row) (a5 : Int) (a6 a7 : Row) (a8 a9 : Int)
theorem b_bind : b kr a0 a1 a2 a3 a4 a5 a6 a7 a8 a9 = Option.bind (b (fun r0 => some (r0)) a0 a1 a2 a3 a4 a5 a6 a7 a8 a9) (fun p => kr p) := by
  unfold b; simp only [Lib.lt_bind, Lib.cond_bind, Lib.some_bind, Lib.none_bind]
def vo : Option (Int) := b (fun r0 => some (r0)) a0 a1 a2 a3 a4 a5 a6 a7 a8 a9
def c : Bool := Option.isSome (vo a0 a1 a2 a3 a4 a5 a6 a7 a8 a9)
def v : Int := Option.getD (vo a0 a1 a2 a3 a4 a5 a6 a7 a8 a9) (0)
theorem out {x : Int} (h : vo a0 a1 a2 a3 a4 a5 a6 a7 a8 a9 = some x) : c a0 a1 a2 a3 a4 a5 a6 a7 a8 a9 = true ∧ v a0 a1 a2 a3 a4 a5 a6 a7 a8 a9 = x := Lib.out_ h
theorem b_eq (hc : c a0 a1 a2 a3 a4 a5 a6 a7 a8 a9 = true) : b kr a0 a1 a2 a3 a4 a5 a6 a7 a8 a9 = (fun p => kr p) (v a0 a1 a2 a3 a4 a5 a6 a7 a8 a9) := (b_bind kr a0 a1 a2 a3 a4 a5 a6 a7 a8 a9).trans (by rw [show b (fun r0 => some (r0)) a0 a1 a2 a3 a4 a5 a6 a7 a8 a9 = some (v a0 a1 a2 a3 a4 a5 a6 a7 a8 a9) from Lib.some_ hc]; rfl)
end Go.FG.Pu.laws_szProxy

namespace Go.FG.Pu.laws_toEntry
def b {R : Type} (kr : ByteArray → Int → Int → ByteArray → Option R) (a0 : ByteArray) (a1 a2 : Int) (a3 : ByteArray) : Option R := kr a0 a1 a2 a3
def v (a0 : ByteArray) (a1 a2 : Int) (a3 : ByteArray) : ByteArray × Int × Int × ByteArray := (a0, a1, a2, a3)
theorem b_eq {R : Type} (kr : ByteArray → Int → Int → ByteArray → Option R) (a0 : ByteArray) (a1 a2 : Int) (a3 : ByteArray) : b kr a0 a1 a2 a3 = kr ((v a0 a1 a2 a3).1) ((v a0 a1 a2 a3).2.1) ((v a0 a1 a2 a3).2.2.1) ((v a0 a1 a2 a3).2.2.2) := by
  first | rfl | (unfold b v; simp only [Bool.cond_eq_ite]; (repeat' split) <;> rfl)
end Go.FG.Pu.laws_toEntry

namespace Go.FG.Pu.laws_toEntryS
def r3 {R : Type} (N : Nat) (g : Row → Int → Row → Option R) (k0 : Row → Int → Row → Option R) (x0 : Row) (x1 : Int) (x2 : Row) : Option R := bif (decide (x1 < (↑(List.length x0) : Int))) then (bif (decide (0 ≤ x1) && decide (x1 < (↑(List.length x0) : Int))) then (bif (decide (0 ≤ x1) && decide (x1 < (↑(List.length x2) : Int))) then (g x0 (w64 (x1 + 1)) (setC x2 (Int.toNat x1) 0 [CV.s (cvS (cellAt x0 (Int.toNat x1) 0)), CV.i IntKind.i64 (cvI (cellAt x0 (Int.toNat x1) 1)), CV.i IntKind.i64 (cvI (cellAt x0 (Int.toNat x1) (1 + 1))), CV.s (cvS (cellAt x0 (Int.toNat x1) (1 + 1 + 1)))])) else (none)) else (none)) else (k0 x0 x1 x2)
def l3 {R : Type} (N : Nat) (k0 : Row → Int → Row → Option R) : Nat → Row → Int → Row → Option R
  | 0 => (fun _ _ _ => none)
  | n + 1 => (fun x0 x1 x2 => r3 N (l3 N k0 n) k0 x0 x1 x2)
def b {R : Type} (N : Nat) (kr : Row → Option R) (a0 : Row) : Option R := bif (decide ((↑(List.length a0) : Int) = (↑(List.length a0) : Int)) && roomy (Int.toNat (↑(List.length a0) : Int)) 48) then (l3 N (fun y3 y4 y5 => kr y5) N a0 0 (zeros [Ck.s, Ck.i IntKind.i64, Ck.i IntKind.i64, Ck.s] (Int.toNat (↑(List.length a0) : Int)))) else (none)
theorem q3_bind {R S : Type} (f : R → Option S) (N : Nat) (k0 : Row → Int → Row → Option R) : ∀ n : Nat, (∀ (x0 : Row) (x1 : Int) (x2 : Row), Option.bind (l3 N k0 n x0 x1 x2) f = l3 N (fun y0 y1 y2 => (Option.bind (k0 y0 y1 y2) f)) n x0 x1 x2) := by
  intro n
  induction n with
  | zero => exact (fun _ _ _ => rfl)
  | succ n ih =>
    intro x0 x1 x2
    simp only [l3, r3, Lib.lt_bind, Lib.cond_bind, Lib.some_bind, Lib.none_bind, ih]
variable {R : Type} (N : Nat) (kr : Row → Option R) (a0 : Row)
theorem b_bind : b N kr a0 = Option.bind (b N (fun r0 => some (r0)) a0) (fun p => kr p) := by
  unfold b; simp only [Lib.lt_bind, Lib.cond_bind, Lib.some_bind, Lib.none_bind, q3_bind]
def vo : Option (Row) := b Lib.big (fun r0 => some (r0)) a0
def c : Bool := Option.isSome (vo a0)
def v : Row := Option.getD (vo a0) ([])
theorem out {x : Row} (h : vo a0 = some x) : c a0 = true ∧ v a0 = x := Lib.out_ h
theorem b_eq (hc : c a0 = true) : ∃ N, b N kr a0 = (fun p => kr p) (v a0) := ⟨Lib.big, (b_bind Lib.big kr a0).trans (by rw [show b Lib.big (fun r0 => some (r0)) a0 = some (v a0) from Lib.some_ hc]; rfl)⟩
end Go.FG.Pu.laws_toEntryS

namespace Go.FG.Pu.laws_toStringS
def r3 {R : Type} (N : Nat) (g : Row → Int → Row → Option R) (k0 : Row → Int → Row → Option R) (x0 : Row) (x1 : Int) (x2 : Row) : Option R := bif (decide (x1 < (↑(List.length x0) : Int))) then (bif (decide (0 ≤ x1) && decide (x1 < (↑(List.length x0) : Int))) then (bif (decide (0 ≤ x1) && decide (x1 < (↑(List.length x2) : Int))) then (g x0 (w64 (x1 + 1)) (setC x2 (Int.toNat x1) 0 [CV.s (cvS (cellAt x0 (Int.toNat x1) 0))])) else (none)) else (none)) else (k0 x0 x1 x2)
def l3 {R : Type} (N : Nat) (k0 : Row → Int → Row → Option R) : Nat → Row → Int → Row → Option R
  | 0 => (fun _ _ _ => none)
  | n + 1 => (fun x0 x1 x2 => r3 N (l3 N k0 n) k0 x0 x1 x2)
def b {R : Type} (N : Nat) (kr : Row → Option R) (a0 : Row) : Option R := bif (decide ((↑(List.length a0) : Int) = (↑(List.length a0) : Int)) && roomy (Int.toNat (↑(List.length a0) : Int)) 16) then (l3 N (fun y3 y4 y5 => kr y5) N a0 0 (zeros [Ck.s] (Int.toNat (↑(List.length a0) : Int)))) else (none)
theorem q3_bind {R S : Type} (f : R → Option S) (N : Nat) (k0 : Row → Int → Row → Option R) : ∀ n : Nat, (∀ (x0 : Row) (x1 : Int) (x2 : Row), Option.bind (l3 N k0 n x0 x1 x2) f = l3 N (fun y0 y1 y2 => (Option.bind (k0 y0 y1 y2) f)) n x0 x1 x2) := by
  intro n
  induction n with
  | zero => exact (fun _ _ _ => rfl)
  | succ n ih =>
    intro x0 x1 x2
    simp only [l3, r3, Lib.lt_bind, Lib.cond_bind, Lib.some_bind, Lib.none_bind, ih]
variable {R : Type} (N : Nat) (kr : Row → Option R) (a0 : Row)
theorem b_bind : b N kr a0 = Option.bind (b N (fun r0 => some (r0)) a0) (fun p => kr p) := by
  unfold b; simp only [Lib.lt_bind, Lib.cond_bind, Lib.some_bind, Lib.none_bind, q3_bind]
def vo : Option (Row) := b Lib.big (fun r0 => some (r0)) a0
def c : Bool := Option.isSome (vo a0)
def v : Row := Option.getD (vo a0) ([])
theorem out {x : Row} (h : vo a0 = some x) : c a0 = true ∧ v a0 = x := Lib.out_ h
theorem b_eq (hc : c a0 = true) : ∃ N, b N kr a0 = (fun p => kr p) (v a0) := ⟨Lib.big, (b_bind Lib.big kr a0).trans (by rw [show b Lib.big (fun r0 => some (r0)) a0 = some (v a0) from Lib.some_ hc]; rfl)⟩
end Go.FG.Pu.laws_toStringS

namespace Go.FG.Pu.laws_toIntS
def r3 {R : Type} (N : Nat) (g : Row → Int → Row → Option R) (k0 : Row → Int → Row → Option R) (x0 : Row) (x1 : Int) (x2 : Row) : Option R := bif (decide (x1 < (↑(List.length x0) : Int))) then (bif (decide (0 ≤ x1) && decide (x1 < (↑(List.length x0) : Int))) then (bif (decide (0 ≤ x1) && decide (x1 < (↑(List.length x2) : Int))) then (g x0 (w64 (x1 + 1)) (setC x2 (Int.toNat x1) 0 [CV.i IntKind.i64 (cvI (cellAt x0 (Int.toNat x1) 0))])) else (none)) else (none)) else (k0 x0 x1 x2)
def l3 {R : Type} (N : Nat) (k0 : Row → Int → Row → Option R) : Nat → Row → Int → Row → Option R
  | 0 => (fun _ _ _ => none)
  | n + 1 => (fun x0 x1 x2 => r3 N (l3 N k0 n) k0 x0 x1 x2)
def b {R : Type} (N : Nat) (kr : Row → Option R) (a0 : Row) : Option R := bif (decide ((↑(List.length a0) : Int) = (↑(List.length a0) : Int)) && roomy (Int.toNat (↑(List.length a0) : Int)) 8) then (l3 N (fun y3 y4 y5 => kr y5) N a0 0 (zeros [Ck.i IntKind.i64] (Int.toNat (↑(List.length a0) : Int)))) else (none)
def v (a0 : Row) : Row := a0.map fun y => [CV.i IntKind.i64 (cvI (y.getD 0 (.b false)))]
def c (a0 : Row) : Bool := decide (a0.length ≤ 1048576)
theorem b_eq {R : Type} (kr : Row → Option R) (a0 : Row) (hc : c a0 = true) : ∃ N, b N kr a0 = kr (v a0) := by
  have hl : a0.length ≤ 1048576 := of_decide_eq_true hc
  refine ⟨a0.length + 1, ?_⟩
  unfold b
  rw [show decide ((a0.length : Int) = (a0.length : Int)) = true by simp, Lib.toN, Lib.roomy_of (by omega) (by omega), Bool.and_self, cond_true]
  refine Lib.fill_run (ks := [Ck.i IntKind.i64]) (v a0) a0.length (by unfold v; simp) (fun y hy => ?_) (fun m (i : Nat) x => l3 (a0.length + 1) (fun _ _ y => kr y) m a0 i x) kr (fun m => ?_) (fun m i hi x hx => ?_)
  · unfold v at hy; obtain ⟨z, _, rfl⟩ := List.mem_map.1 hy; rfl
  · simp only [l3, r3, Lib.dlt, Nat.lt_irrefl, decide_false, cond_false]
  · have hi2 : i < x.length := by omega
    have e : (v a0).getD i [] = [CV.i IntKind.i64 (cvI (cellAt a0 i 0))] := by
      unfold v; simp [List.getD, hi, cellAt]
    simp only [l3, r3, Lib.dlt, Lib.dle0, Lib.toN, hi, hi2, decide_true, Bool.true_and, cond_true, Lib.w64_s hi (by omega), e]
end Go.FG.Pu.laws_toIntS

namespace Go.FG.Pu.laws_toIntSS
def r3 {R : Type} (N : Nat) (g : Row → Int → Row → Option R) (k0 : Row → Int → Row → Option R) (x0 : Row) (x1 : Int) (x2 : Row) : Option R := bif (decide (x1 < (↑(List.length x0) : Int))) then (bif (decide (0 ≤ x1) && decide (x1 < (↑(List.length x0) : Int))) then (bif (Pu.laws_toIntS.c (cvL (cellAt x0 (Int.toNat x1) 0))) then (bif (decide (0 ≤ x1) && decide (x1 < (↑(List.length x2) : Int))) then (g x0 (w64 (x1 + 1)) (setC x2 (Int.toNat x1) 0 [CV.l 3 (Pu.laws_toIntS.v (cvL (cellAt x0 (Int.toNat x1) 0)))])) else (none)) else (none)) else (none)) else (k0 x0 x1 x2)
def l3 {R : Type} (N : Nat) (k0 : Row → Int → Row → Option R) : Nat → Row → Int → Row → Option R
  | 0 => (fun _ _ _ => none)
  | n + 1 => (fun x0 x1 x2 => r3 N (l3 N k0 n) k0 x0 x1 x2)
def b {R : Type} (N : Nat) (kr : Row → Option R) (a0 : Row) : Option R := bif (decide ((↑(List.length a0) : Int) = (↑(List.length a0) : Int)) && roomy (Int.toNat (↑(List.length a0) : Int)) 24) then (l3 N (fun y3 y4 y5 => kr y5) N a0 0 (zeros [Ck.l 3] (Int.toNat (↑(List.length a0) : Int)))) else (none)
theorem q3_bind {R S : Type} (f : R → Option S) (N : Nat) (k0 : Row → Int → Row → Option R) : ∀ n : Nat, (∀ (x0 : Row) (x1 : Int) (x2 : Row), Option.bind (l3 N k0 n x0 x1 x2) f = l3 N (fun y0 y1 y2 => (Option.bind (k0 y0 y1 y2) f)) n x0 x1 x2) := by
  intro n
  induction n with
  | zero => exact (fun _ _ _ => rfl)
  | succ n ih =>
    intro x0 x1 x2
    simp only [l3, r3, Lib.lt_bind, Lib.cond_bind, Lib.some_bind, Lib.none_bind, ih]
variable {R : Type} (N : Nat) (kr : Row → Option R) (a0 : Row)
theorem b_bind : b N kr a0 = Option.bind (b N (fun r0 => some (r0)) a0) (fun p => kr p) := by
  unfold b; simp only [Lib.lt_bind, Lib.cond_bind, Lib.some_bind, Lib.none_bind, q3_bind]
def vo : Option (Row) := b Lib.big (fun r0 => some (r0)) a0
def c : Bool := Option.isSome (vo a0)
def v : Row := Option.getD (vo a0) ([])
theorem out {x : Row} (h : vo a0 = some x) : c a0 = true ∧ v a0 = x := Lib.out_ h
theorem b_eq (hc : c a0 = true) : ∃ N, b N kr a0 = (fun p => kr p) (v a0) := ⟨Lib.big, (b_bind Lib.big kr a0).trans (by rw [show b Lib.big (fun r0 => some (r0)) a0 = some (v a0) from Lib.some_ hc]; rfl)⟩
end Go.FG.Pu.laws_toIntSS

namespace Go.FG.Pu.laws_toSketch
def b {R : Type} (kr : Row → Int → Option R) (a0 : Row) (a1 : Int) : Option R := bif (Pu.laws_toIntSS.c a0) then (kr (Pu.laws_toIntSS.v a0) a1) else (none)
variable {R : Type} (kr : Row → Int → Option R) (a0 : Row) (a1 : Int)
theorem b_bind : b kr a0 a1 = Option.bind (b (fun r0 r1 => some (r0, r1)) a0 a1) (fun p => kr p.1 p.2) := by
  unfold b; simp only [Lib.lt_bind, Lib.cond_bind, Lib.some_bind, Lib.none_bind]
def vo : Option (Row × Int) := b (fun r0 r1 => some (r0, r1)) a0 a1
def c : Bool := Option.isSome (vo a0 a1)
def v : Row × Int := Option.getD (vo a0 a1) ([], 0)
theorem out {x : Row × Int} (h : vo a0 a1 = some x) : c a0 a1 = true ∧ v a0 a1 = x := Lib.out_ h
theorem b_eq (hc : c a0 a1 = true) : b kr a0 a1 = (fun p => kr p.1 p.2) (v a0 a1) := (b_bind kr a0 a1).trans (by rw [show b (fun r0 r1 => some (r0, r1)) a0 a1 = some (v a0 a1) from Lib.some_ hc]; rfl)
end Go.FG.Pu.laws_toSketch

namespace Go.FG.Pu.laws_toPolicy
def b {R : Type} (kr : Row → Row → Row → Int → Option R) (a0 a1 a2 : Row) (a3 : Int) : Option R := bif (Pu.laws_toStringS.c a0) then (bif (Pu.laws_toStringS.c a1) then (bif (Pu.laws_toSketch.c a2 a3) then (kr (Pu.laws_toStringS.v a0) (Pu.laws_toStringS.v a1) ((Pu.laws_toSketch.v a2 a3).1) ((Pu.laws_toSketch.v a2 a3).2)) else (none)) else (none)) else (none)
variable {R : Type} (kr : Row → Row → Row → Int → Option R) (a0 a1 a2 : Row) (a3 : Int)
theorem b_bind : b kr a0 a1 a2 a3 = Option.bind (b (fun r0 r1 r2 r3 => some (r0, r1, r2, r3)) a0 a1 a2 a3) (fun p => kr p.1 p.2.1 p.2.2.1 p.2.2.2) := by
  unfold b; simp only [Lib.lt_bind, Lib.cond_bind, Lib.some_bind, Lib.none_bind]
def vo : Option (Row × Row × Row × Int) := b (fun r0 r1 r2 r3 => some (r0, r1, r2, r3)) a0 a1 a2 a3
def c : Bool := Option.isSome (vo a0 a1 a2 a3)
def v : Row × Row × Row × Int := Option.getD (vo a0 a1 a2 a3) ([], [], [], 0)
theorem out {x : Row × Row × Row × Int} (h : vo a0 a1 a2 a3 = some x) : c a0 a1 a2 a3 = true ∧ v a0 a1 a2 a3 = x := Lib.out_ h
theorem b_eq (hc : c a0 a1 a2 a3 = true) : b kr a0 a1 a2 a3 = (fun p => kr p.1 p.2.1 p.2.2.1 p.2.2.2) (v a0 a1 a2 a3) := (b_bind kr a0 a1 a2 a3).trans (by rw [show b (fun r0 r1 r2 r3 => some (r0, r1, r2, r3)) a0 a1 a2 a3 = some (v a0 a1 a2 a3) from Lib.some_ hc]; rfl)
end Go.FG.Pu.laws_toPolicy

namespace Go.FG.Pu.laws_toFetch
def b {R : Type} (kr : ByteArray → ByteArray → Int → Int → Int → Option R) (a0 a1 : ByteArray) (a2 a3 a4 : Int) : Option R := kr a0 a1 a2 a3 a4
def v (a0 a1 : ByteArray) (a2 a3 a4 : Int) : ByteArray × ByteArray × Int × Int × Int := (a0, a1, a2, a3, a4)
theorem b_eq {R : Type} (kr : ByteArray → ByteArray → Int → Int → Int → Option R) (a0 a1 : ByteArray) (a2 a3 a4 : Int) : b kr a0 a1 a2 a3 a4 = kr ((v a0 a1 a2 a3 a4).1) ((v a0 a1 a2 a3 a4).2.1) ((v a0 a1 a2 a3 a4).2.2.1) ((v a0 a1 a2 a3 a4).2.2.2.1) ((v a0 a1 a2 a3 a4).2.2.2.2) := by
  first | rfl | (unfold b v; simp only [Bool.cond_eq_ite]; (repeat' split) <;> rfl)
end Go.FG.Pu.laws_toFetch

namespace Go.FG.Pu.laws_toFetchS
def r3 {R : Type} (N : Nat) (g : Row → Int → Row → Option R) (k0 : Row → Int → Row → Option R) (x0 : Row) (x1 : Int) (x2 : Row) : Option R := bif (decide (x1 < (↑(List.length x0) : Int))) then (bif (decide (0 ≤ x1) && decide (x1 < (↑(List.length x0) : Int))) then (bif (decide (0 ≤ x1) && decide (x1 < (↑(List.length x2) : Int))) then (g x0 (w64 (x1 + 1)) (setC x2 (Int.toNat x1) 0 [CV.s (cvS (cellAt x0 (Int.toNat x1) 0)), CV.s (cvS (cellAt x0 (Int.toNat x1) 1)), CV.i IntKind.i64 (cvI (cellAt x0 (Int.toNat x1) (1 + 1))), CV.i IntKind.i64 (cvI (cellAt x0 (Int.toNat x1) (1 + 1 + 1))), CV.i IntKind.i64 (cvI (cellAt x0 (Int.toNat x1) (1 + 1 + 1 + 1)))])) else (none)) else (none)) else (k0 x0 x1 x2)
def l3 {R : Type} (N : Nat) (k0 : Row → Int → Row → Option R) : Nat → Row → Int → Row → Option R
  | 0 => (fun _ _ _ => none)
  | n + 1 => (fun x0 x1 x2 => r3 N (l3 N k0 n) k0 x0 x1 x2)
def b {R : Type} (N : Nat) (kr : Row → Option R) (a0 : Row) : Option R := bif (decide ((↑(List.length a0) : Int) = (↑(List.length a0) : Int)) && roomy (Int.toNat (↑(List.length a0) : Int)) 56) then (l3 N (fun y3 y4 y5 => kr y5) N a0 0 (zeros [Ck.s, Ck.s, Ck.i IntKind.i64, Ck.i IntKind.i64, Ck.i IntKind.i64] (Int.toNat (↑(List.length a0) : Int)))) else (none)
theorem q3_bind {R S : Type} (f : R → Option S) (N : Nat) (k0 : Row → Int → Row → Option R) : ∀ n : Nat, (∀ (x0 : Row) (x1 : Int) (x2 : Row), Option.bind (l3 N k0 n x0 x1 x2) f = l3 N (fun y0 y1 y2 => (Option.bind (k0 y0 y1 y2) f)) n x0 x1 x2) := by
  intro n
  induction n with
  | zero => exact (fun _ _ _ => rfl)
  | succ n ih =>
    intro x0 x1 x2
    simp only [l3, r3, Lib.lt_bind, Lib.cond_bind, Lib.some_bind, Lib.none_bind, ih]
variable {R : Type} (N : Nat) (kr : Row → Option R) (a0 : Row)
theorem b_bind : b N kr a0 = Option.bind (b N (fun r0 => some (r0)) a0) (fun p => kr p) := by
  unfold b; simp only [Lib.lt_bind, Lib.cond_bind, Lib.some_bind, Lib.none_bind, q3_bind]
def vo : Option (Row) := b Lib.big (fun r0 => some (r0)) a0
def c : Bool := Option.isSome (vo a0)
def v : Row := Option.getD (vo a0) ([])
theorem out {x : Row} (h : vo a0 = some x) : c a0 = true ∧ v a0 = x := Lib.out_ h
theorem b_eq (hc : c a0 = true) : ∃ N, b N kr a0 = (fun p => kr p) (v a0) := ⟨Lib.big, (b_bind Lib.big kr a0).trans (by rw [show b Lib.big (fun r0 => some (r0)) a0 = some (v a0) from Lib.some_ hc]; rfl)⟩
end Go.FG.Pu.laws_toFetchS

namespace Go.FG.Pu.laws_toClient
def b {R : Type} (kr : Int → ByteArray → Int → Int → Int → ByteArray → Int → Option R) (a0 : Int) (a1 : ByteArray) (a2 a3 a4 : Int) (a5 : ByteArray) (a6 : Int) : Option R := kr a0 a1 a2 a3 a4 a5 a6
def v (a0 : Int) (a1 : ByteArray) (a2 a3 a4 : Int) (a5 : ByteArray) (a6 : Int) : Int × ByteArray × Int × Int × Int × ByteArray × Int := (a0, a1, a2, a3, a4, a5, a6)
theorem b_eq {R : Type} (kr : Int → ByteArray → Int → Int → Int → ByteArray → Int → Option R) (a0 : Int) (a1 : ByteArray) (a2 a3 a4 : Int) (a5 : ByteArray) (a6 : Int) : b kr a0 a1 a2 a3 a4 a5 a6 = kr ((v a0 a1 a2 a3 a4 a5 a6).1) ((v a0 a1 a2 a3 a4 a5 a6).2.1) ((v a0 a1 a2 a3 a4 a5 a6).2.2.1) ((v a0 a1 a2 a3 a4 a5 a6).2.2.2.1) ((v a0 a1 a2 a3 a4 a5 a6).2.2.2.2.1) ((v a0 a1 a2 a3 a4 a5 a6).2.2.2.2.2.1) ((v a0 a1 a2 a3 a4 a5 a6).2.2.2.2.2.2) := by
  first | rfl | (unfold b v; simp only [Bool.cond_eq_ite]; (repeat' split) <;> rfl)
end Go.FG.Pu.laws_toClient

namespace Go.FG.Pu.laws_toClientS
def r3 {R : Type} (N : Nat) (g : Row → Int → Row → Option R) (k0 : Row → Int → Row → Option R) (x0 : Row) (x1 : Int) (x2 : Row) : Option R := bif (decide (x1 < (↑(List.length x0) : Int))) then (bif (decide (0 ≤ x1) && decide (x1 < (↑(List.length x0) : Int))) then (bif (decide (0 ≤ x1) && decide (x1 < (↑(List.length x2) : Int))) then (g x0 (w64 (x1 + 1)) (setC x2 (Int.toNat x1) 0 [CV.i IntKind.i64 (cvI (cellAt x0 (Int.toNat x1) 0)), CV.s (cvS (cellAt x0 (Int.toNat x1) 1)), CV.i IntKind.i64 (cvI (cellAt x0 (Int.toNat x1) (1 + 1))), CV.i IntKind.i64 (cvI (cellAt x0 (Int.toNat x1) (1 + 1 + 1))), CV.i IntKind.i64 (cvI (cellAt x0 (Int.toNat x1) (1 + 1 + 1 + 1))), CV.s (cvS (cellAt x0 (Int.toNat x1) (1 + 1 + 1 + 1 + 1))), CV.i IntKind.i64 (cvI (cellAt x0 (Int.toNat x1) (1 + 1 + 1 + 1 + 1 + 1)))])) else (none)) else (none)) else (k0 x0 x1 x2)
def l3 {R : Type} (N : Nat) (k0 : Row → Int → Row → Option R) : Nat → Row → Int → Row → Option R
  | 0 => (fun _ _ _ => none)
  | n + 1 => (fun x0 x1 x2 => r3 N (l3 N k0 n) k0 x0 x1 x2)
def b {R : Type} (N : Nat) (kr : Row → Option R) (a0 : Row) : Option R := bif (decide ((↑(List.length a0) : Int) = (↑(List.length a0) : Int)) && roomy (Int.toNat (↑(List.length a0) : Int)) 72) then (l3 N (fun y3 y4 y5 => kr y5) N a0 0 (zeros [Ck.i IntKind.i64, Ck.s, Ck.i IntKind.i64, Ck.i IntKind.i64, Ck.i IntKind.i64, Ck.s, Ck.i IntKind.i64] (Int.toNat (↑(List.length a0) : Int)))) else (none)
theorem q3_bind {R S : Type} (f : R → Option S) (N : Nat) (k0 : Row → Int → Row → Option R) : ∀ n : Nat, (∀ (x0 : Row) (x1 : Int) (x2 : Row), Option.bind (l3 N k0 n x0 x1 x2) f = l3 N (fun y0 y1 y2 => (Option.bind (k0 y0 y1 y2) f)) n x0 x1 x2) := by
  intro n
  induction n with
  | zero => exact (fun _ _ _ => rfl)
  | succ n ih =>
    intro x0 x1 x2
    simp only [l3, r3, Lib.lt_bind, Lib.cond_bind, Lib.some_bind, Lib.none_bind, ih]
variable {R : Type} (N : Nat) (kr : Row → Option R) (a0 : Row)
theorem b_bind : b N kr a0 = Option.bind (b N (fun r0 => some (r0)) a0) (fun p => kr p) := by
  unfold b; simp only [Lib.lt_bind, Lib.cond_bind, Lib.some_bind, Lib.none_bind, q3_bind]
def vo : Option (Row) := b Lib.big (fun r0 => some (r0)) a0
def c : Bool := Option.isSome (vo a0)
def v : Row := Option.getD (vo a0) ([])
theorem out {x : Row} (h : vo a0 = some x) : c a0 = true ∧ v a0 = x := Lib.out_ h
theorem b_eq (hc : c a0 = true) : ∃ N, b N kr a0 = (fun p => kr p) (v a0) := ⟨Lib.big, (b_bind Lib.big kr a0).trans (by rw [show b Lib.big (fun r0 => some (r0)) a0 = some (v a0) from Lib.some_ hc]; rfl)⟩
end Go.FG.Pu.laws_toClientS

namespace Go.FG.Pu.laws_toProxy
def b {R : Type} (kr : Int → Row → Row → Row → Row → Int → Row → Row → Int → Option R) (a0 : Int) (a1 a2 a3 a4 : Row) (a5 : Int) (a6 a7 : Row) (a8 : Int) : Option R := bif (Pu.laws_toEntryS.c a1) then (bif (Pu.laws_toPolicy.c a2 a3 a4 a5) then (bif (Pu.laws_toFetchS.c a6) then (bif (Pu.laws_toClientS.c a7) then (kr a0 (Pu.laws_toEntryS.v a1) ((Pu.laws_toPolicy.v a2 a3 a4 a5).1) ((Pu.laws_toPolicy.v a2 a3 a4 a5).2.1) ((Pu.laws_toPolicy.v a2 a3 a4 a5).2.2.1) ((Pu.laws_toPolicy.v a2 a3 a4 a5).2.2.2) (Pu.laws_toFetchS.v a6) (Pu.laws_toClientS.v a7) a8) else (none)) else (none)) else (none)) else (none)
variable {R : Type} (kr : Int → Row → Row → Row → Row → Int → Row → Row → Int → Option R) (a0 : Int) (a1 a2 a3 a4 : Row) (a5 : Int) (a6 a7 : Row) (a8 : Int)
theorem b_bind : b kr a0 a1 a2 a3 a4 a5 a6 a7 a8 = Option.bind (b (fun r0 r1 r2 r3 r4 r5 r6 r7 r8 => some (r0, r1, r2, r3, r4, r5, r6, r7, r8)) a0 a1 a2 a3 a4 a5 a6 a7 a8) (fun p => kr p.1 p.2.1 p.2.2.1 p.2.2.2.1 p.2.2.2.2.1 p.2.2.2.2.2.1 p.2.2.2.2.2.2.1 p.2.2.2.2.2.2.2.1 p.2.2.2.2.2.2.2.2) := by
  unfold b; simp only [Lib.lt_bind, Lib.cond_bind, Lib.some_bind, Lib.none_bind]
def vo : Option (Int × Row × Row × Row × Row × Int × Row × Row × Int) := b (fun r0 r1 r2 r3 r4 r5 r6 r7 r8 => some (r0, r1, r2, r3, r4, r5, r6, r7, r8)) a0 a1 a2 a3 a4 a5 a6 a7 a8
def c : Bool := Option.isSome (vo a0 a1 a2 a3 a4 a5 a6 a7 a8)
def v : Int × Row × Row × Row × Row × Int × Row × Row × Int := Option.getD (vo a0 a1 a2 a3 a4 a5 a6 a7 a8) (0, [], [], [], [], 0, [], [], 0)
theorem out {x : Int × Row × Row × Row × Row × Int × Row × Row × Int} (h : vo a0 a1 a2 a3 a4 a5 a6 a7 a8 = some x) : c a0 a1 a2 a3 a4 a5 a6 a7 a8 = true ∧ v a0 a1 a2 a3 a4 a5 a6 a7 a8 = x := Lib.out_ h
theorem b_eq (hc : c a0 a1 a2 a3 a4 a5 a6 a7 a8 = true) : b kr a0 a1 a2 a3 a4 a5 a6 a7 a8 = (fun p => kr p.1 p.2.1 p.2.2.1 p.2.2.2.1 p.2.2.2.2.1 p.2.2.2.2.2.1 p.2.2.2.2.2.2.1 p.2.2.2.2.2.2.2.1 p.2.2.2.2.2.2.2.2) (v a0 a1 a2 a3 a4 a5 a6 a7 a8) := (b_bind kr a0 a1 a2 a3 a4 a5 a6 a7 a8).trans (by rw [show b (fun r0 r1 r2 r3 r4 r5 r6 r7 r8 => some (r0, r1, r2, r3, r4, r5, r6, r7, r8)) a0 a1 a2 a3 a4 a5 a6 a7 a8 = some (v a0 a1 a2 a3 a4 a5 a6 a7 a8) from Lib.some_ hc]; rfl)
end Go.FG.Pu.laws_toProxy

namespace Go.FG.Pu.spec_l12Copy
def r3 {R : Type} (N : Nat) (g : Int → Row → Int → Int → Int → Option R) (g1 : Int → Row → Int → Int → Int → Row → Option R) (k0 : Int → Row → Int → Int → Int → Option R) (k1 : Int → Row → Int → Int → Int → Row → Option R) (x0 : Int) (x1 : Row) (x2 x3 x4 : Int) : Option R := bif (decide (x0 < (↑(List.length x1) : Int))) then (bif (decide (0 ≤ x0) && decide (x0 < (↑(List.length x1) : Int))) then (bif (roomy (List.length (zeros [Ck.i IntKind.i64] 0) + List.length (cvL (cellAt x1 (Int.toNat x0) 0))) 8) then (g1 (w64 (x0 + 1)) x1 x2 x3 x4 ([] ++ List.set (zeros [Ck.l 3] 1) 0 [CV.l 3 (zeros [Ck.i IntKind.i64] 0 ++ cvL (cellAt x1 (Int.toNat x0) 0))])) else (none)) else (none)) else (k0 x0 x1 x2 x3 x4)
def r3a {R : Type} (N : Nat) (g : Int → Row → Int → Int → Int → Option R) (g1 : Int → Row → Int → Int → Int → Row → Option R) (k0 : Int → Row → Int → Int → Int → Option R) (k1 : Int → Row → Int → Int → Int → Row → Option R) (x5 : Int) (x6 : Row) (x7 x8 x9 : Int) (x10 : Row) : Option R := bif (decide (x5 < (↑(List.length x6) : Int))) then (bif (decide (0 ≤ x5) && decide (x5 < (↑(List.length x6) : Int))) then (bif (roomy (List.length (zeros [Ck.i IntKind.i64] 0) + List.length (cvL (cellAt x6 (Int.toNat x5) 0))) 8) then (bif (roomy (List.length x10 + List.length (List.set (zeros [Ck.l 3] 1) 0 [CV.l 3 (zeros [Ck.i IntKind.i64] 0 ++ cvL (cellAt x6 (Int.toNat x5) 0))])) 24) then (g1 (w64 (x5 + 1)) x6 x7 x8 x9 (x10 ++ List.set (zeros [Ck.l 3] 1) 0 [CV.l 3 (zeros [Ck.i IntKind.i64] 0 ++ cvL (cellAt x6 (Int.toNat x5) 0))])) else (none)) else (none)) else (none)) else (k1 x5 x6 x7 x8 x9 x10)
def l3a {R : Type} (N : Nat) (k0 : Int → Row → Int → Int → Int → Option R) (k1 : Int → Row → Int → Int → Int → Row → Option R) : Nat → Int → Row → Int → Int → Int → Row → Option R
  | 0 => (fun _ _ _ _ _ _ => none)
  | n + 1 => (fun x5 x6 x7 x8 x9 x10 => r3a N (fun x0 x1 x2 x3 x4 => none) (l3a N k0 k1 n) k0 k1 x5 x6 x7 x8 x9 x10)
def l3 {R : Type} (N : Nat) (k0 : Int → Row → Int → Int → Int → Option R) (k1 : Int → Row → Int → Int → Int → Row → Option R) : Nat → Int → Row → Int → Int → Int → Option R
  | 0 => (fun _ _ _ _ _ => none)
  | n + 1 => (fun x0 x1 x2 x3 x4 => r3 N (l3 N k0 k1 n) (l3a N k0 k1 n) k0 k1 x0 x1 x2 x3 x4)
def b {R : Type} (N : Nat) (kr : Row → Int → Option R) (a0 : Row) (a1 : Int) : Option R := l3 N (fun y22 y23 y24 y25 y26 => kr [] y26) (fun y27 y28 y29 y30 y31 y32 => kr y32 y31) N 0 a0 a1 0 a1
theorem q3_bind {R S : Type} (f : R → Option S) (N : Nat) (k0 : Int → Row → Int → Int → Int → Option R) (k1 : Int → Row → Int → Int → Int → Row → Option R) : ∀ n : Nat, (∀ (x0 : Int) (x1 : Row) (x2 x3 x4 : Int), Option.bind (l3 N k0 k1 n x0 x1 x2 x3 x4) f = l3 N (fun y0 y1 y2 y3 y4 => (Option.bind (k0 y0 y1 y2 y3 y4) f)) (fun y0 y1 y2 y3 y4 y5 => (Option.bind (k1 y0 y1 y2 y3 y4 y5) f)) n x0 x1 x2 x3 x4) ∧ (∀ (x5 : Int) (x6 : Row) (x7 x8 x9 : Int) (x10 : Row), Option.bind (l3a N k0 k1 n x5 x6 x7 x8 x9 x10) f = l3a N (fun y0 y1 y2 y3 y4 => (Option.bind (k0 y0 y1 y2 y3 y4) f)) (fun y0 y1 y2 y3 y4 y5 => (Option.bind (k1 y0 y1 y2 y3 y4 y5) f)) n x5 x6 x7 x8 x9 x10) := by
  intro n
  induction n with
  | zero => exact ⟨(fun _ _ _ _ _ => rfl), (fun _ _ _ _ _ _ => rfl)⟩
  | succ n ih =>
    refine ⟨?_, ?_⟩
    · intro x0 x1 x2 x3 x4
      simp only [l3, r3, Lib.lt_bind, Lib.cond_bind, Lib.some_bind, Lib.none_bind, ih.1, ih.2]
    · intro x5 x6 x7 x8 x9 x10
      simp only [l3a, r3a, Lib.lt_bind, Lib.cond_bind, Lib.some_bind, Lib.none_bind, ih.1, ih.2]
theorem l3_bind {R S : Type} (f : R → Option S) (N : Nat) (k0 : Int → Row → Int → Int → Int → Option R) (k1 : Int → Row → Int → Int → Int → Row → Option R) (n : Nat) (x0 : Int) (x1 : Row) (x2 x3 x4 : Int) : Option.bind (l3 N k0 k1 n x0 x1 x2 x3 x4) f = l3 N (fun y0 y1 y2 y3 y4 => (Option.bind (k0 y0 y1 y2 y3 y4) f)) (fun y0 y1 y2 y3 y4 y5 => (Option.bind (k1 y0 y1 y2 y3 y4 y5) f)) n x0 x1 x2 x3 x4 := (q3_bind f N k0 k1 n).1 x0 x1 x2 x3 x4
theorem l3a_bind {R S : Type} (f : R → Option S) (N : Nat) (k0 : Int → Row → Int → Int → Int → Option R) (k1 : Int → Row → Int → Int → Int → Row → Option R) (n : Nat) (x5 : Int) (x6 : Row) (x7 x8 x9 : Int) (x10 : Row) : Option.bind (l3a N k0 k1 n x5 x6 x7 x8 x9 x10) f = l3a N (fun y0 y1 y2 y3 y4 => (Option.bind (k0 y0 y1 y2 y3 y4) f)) (fun y0 y1 y2 y3 y4 y5 => (Option.bind (k1 y0 y1 y2 y3 y4 y5) f)) n x5 x6 x7 x8 x9 x10 := (q3_bind f N k0 k1 n).2 x5 x6 x7 x8 x9 x10
variable {R : Type} (N : Nat) (kr : Row → Int → Option R) (a0 : Row) (a1 : Int)
theorem b_bind : b N kr a0 a1 = Option.bind (b N (fun r0 r1 => some (r0, r1)) a0 a1) (fun p => kr p.1 p.2) := by
  unfold b; simp only [Lib.lt_bind, Lib.cond_bind, Lib.some_bind, Lib.none_bind, l3_bind, l3a_bind]
def vo : Option (Row × Int) := b Lib.big (fun r0 r1 => some (r0, r1)) a0 a1
def c : Bool := Option.isSome (vo a0 a1)
def v : Row × Int := Option.getD (vo a0 a1) ([], 0)
theorem out {x : Row × Int} (h : vo a0 a1 = some x) : c a0 a1 = true ∧ v a0 a1 = x := Lib.out_ h
theorem b_eq (hc : c a0 a1 = true) : ∃ N, b N kr a0 a1 = (fun p => kr p.1 p.2) (v a0 a1) := ⟨Lib.big, (b_bind Lib.big kr a0 a1).trans (by rw [show b Lib.big (fun r0 r1 => some (r0, r1)) a0 a1 = some (v a0 a1) from Lib.some_ hc]; rfl)⟩
end Go.FG.Pu.spec_l12Copy

namespace Go.FG.Pu.spec_l13Copy
def b {R : Type} (kr : Row → Row → Row → Int → Option R) (a0 a1 a2 : Row) (a3 : Int) : Option R := bif (roomy (List.length (zeros [Ck.s] 0) + List.length a0) 16) then (bif (roomy (List.length (zeros [Ck.s] 0) + List.length a1) 16) then (bif (Pu.spec_l12Copy.c a2 a3) then (kr (zeros [Ck.s] 0 ++ a0) (zeros [Ck.s] 0 ++ a1) ((Pu.spec_l12Copy.v a2 a3).1) ((Pu.spec_l12Copy.v a2 a3).2)) else (none)) else (none)) else (none)
variable {R : Type} (kr : Row → Row → Row → Int → Option R) (a0 a1 a2 : Row) (a3 : Int)
theorem b_bind : b kr a0 a1 a2 a3 = Option.bind (b (fun r0 r1 r2 r3 => some (r0, r1, r2, r3)) a0 a1 a2 a3) (fun p => kr p.1 p.2.1 p.2.2.1 p.2.2.2) := by
  unfold b; simp only [Lib.lt_bind, Lib.cond_bind, Lib.some_bind, Lib.none_bind]
def vo : Option (Row × Row × Row × Int) := b (fun r0 r1 r2 r3 => some (r0, r1, r2, r3)) a0 a1 a2 a3
def c : Bool := Option.isSome (vo a0 a1 a2 a3)
def v : Row × Row × Row × Int := Option.getD (vo a0 a1 a2 a3) ([], [], [], 0)
theorem out {x : Row × Row × Row × Int} (h : vo a0 a1 a2 a3 = some x) : c a0 a1 a2 a3 = true ∧ v a0 a1 a2 a3 = x := Lib.out_ h
theorem b_eq (hc : c a0 a1 a2 a3 = true) : b kr a0 a1 a2 a3 = (fun p => kr p.1 p.2.1 p.2.2.1 p.2.2.2) (v a0 a1 a2 a3) := (b_bind kr a0 a1 a2 a3).trans (by rw [show b (fun r0 r1 r2 r3 => some (r0, r1, r2, r3)) a0 a1 a2 a3 = some (v a0 a1 a2 a3) from Lib.some_ hc]; rfl)
end Go.FG.Pu.spec_l13Copy

namespace Go.FG.Pu.spec_l16Copy
def b {R : Type} (kr : Int → Row → Row → Row → Row → Int → Row → Row → Int → Option R) (a0 : Int) (a1 a2 a3 a4 : Row) (a5 : Int) (a6 a7 : Row) (a8 : Int) : Option R := bif (roomy (List.length (zeros [Ck.s, Ck.i IntKind.i64, Ck.i IntKind.i64, Ck.s] 0) + List.length a1) 48) then (bif (Pu.spec_l13Copy.c a2 a3 a4 a5) then (bif (roomy (List.length (zeros [Ck.s, Ck.s, Ck.i IntKind.i64, Ck.i IntKind.i64, Ck.i IntKind.i64] 0) + List.length a6) 56) then (bif (roomy (List.length (zeros [Ck.i IntKind.i64, Ck.s, Ck.i IntKind.i64, Ck.i IntKind.i64, Ck.i IntKind.i64, Ck.s, Ck.i IntKind.i64] 0) + List.length a7) 72) then (kr a0 (zeros [Ck.s, Ck.i IntKind.i64, Ck.i IntKind.i64, Ck.s] 0 ++ a1) ((Pu.spec_l13Copy.v a2 a3 a4 a5).1) ((Pu.spec_l13Copy.v a2 a3 a4 a5).2.1) ((Pu.spec_l13Copy.v a2 a3 a4 a5).2.2.1) ((Pu.spec_l13Copy.v a2 a3 a4 a5).2.2.2) (zeros [Ck.s, Ck.s, Ck.i IntKind.i64, Ck.i IntKind.i64, Ck.i IntKind.i64] 0 ++ a6) (zeros [Ck.i IntKind.i64, Ck.s, Ck.i IntKind.i64, Ck.i IntKind.i64, Ck.i IntKind.i64, Ck.s, Ck.i IntKind.i64] 0 ++ a7) a8) else (none)) else (none)) else (none)) else (none)
variable {R : Type} (kr : Int → Row → Row → Row → Row → Int → Row → Row → Int → Option R) (a0 : Int) (a1 a2 a3 a4 : Row) (a5 : Int) (a6 a7 : Row) (a8 : Int)
theorem b_bind : b kr a0 a1 a2 a3 a4 a5 a6 a7 a8 = Option.bind (b (fun r0 r1 r2 r3 r4 r5 r6 r7 r8 => some (r0, r1, r2, r3, r4, r5, r6, r7, r8)) a0 a1 a2 a3 a4 a5 a6 a7 a8) (fun p => kr p.1 p.2.1 p.2.2.1 p.2.2.2.1 p.2.2.2.2.1 p.2.2.2.2.2.1 p.2.2.2.2.2.2.1 p.2.2.2.2.2.2.2.1 p.2.2.2.2.2.2.2.2) := by
  unfold b; simp only [Lib.lt_bind, Lib.cond_bind, Lib.some_bind, Lib.none_bind]
def vo : Option (Int × Row × Row × Row × Row × Int × Row × Row × Int) := b (fun r0 r1 r2 r3 r4 r5 r6 r7 r8 => some (r0, r1, r2, r3, r4, r5, r6, r7, r8)) a0 a1 a2 a3 a4 a5 a6 a7 a8
def c : Bool := Option.isSome (vo a0 a1 a2 a3 a4 a5 a6 a7 a8)
def v : Int × Row × Row × Row × Row × Int × Row × Row × Int := Option.getD (vo a0 a1 a2 a3 a4 a5 a6 a7 a8) (0, [], [], [], [], 0, [], [], 0)
theorem out {x : Int × Row × Row × Row × Row × Int × Row × Row × Int} (h : vo a0 a1 a2 a3 a4 a5 a6 a7 a8 = some x) : c a0 a1 a2 a3 a4 a5 a6 a7 a8 = true ∧ v a0 a1 a2 a3 a4 a5 a6 a7 a8 = x := Lib.out_ h
theorem b_eq (hc : c a0 a1 a2 a3 a4 a5 a6 a7 a8 = true) : b kr a0 a1 a2 a3 a4 a5 a6 a7 a8 = (fun p => kr p.1 p.2.1 p.2.2.1 p.2.2.2.1 p.2.2.2.2.1 p.2.2.2.2.2.1 p.2.2.2.2.2.2.1 p.2.2.2.2.2.2.2.1 p.2.2.2.2.2.2.2.2) (v a0 a1 a2 a3 a4 a5 a6 a7 a8) := (b_bind kr a0 a1 a2 a3 a4 a5 a6 a7 a8).trans (by rw [show b (fun r0 r1 r2 r3 r4 r5 r6 r7 r8 => some (r0, r1, r2, r3, r4, r5, r6, r7, r8)) a0 a1 a2 a3 a4 a5 a6 a7 a8 = some (v a0 a1 a2 a3 a4 a5 a6 a7 a8) from Lib.some_ hc]; rfl)
end Go.FG.Pu.spec_l16Copy

namespace Go.FG.Pu.spec_l01In
def b {R : Type} (kr : Bool → Option R) (a0 a1 a2 : Int) : Option R := bif (decide (a0 ≥ a1)) then (kr (decide (a0 ≤ a2))) else (kr false)
def v (a0 a1 a2 : Int) : Bool := bif (decide (a0 ≥ a1)) then (((decide (a0 ≤ a2)))) else ((false))
theorem b_eq {R : Type} (kr : Bool → Option R) (a0 a1 a2 : Int) : b kr a0 a1 a2 = kr (v a0 a1 a2) := by
  first | rfl | (unfold b v; simp only [Bool.cond_eq_ite]; (repeat' split) <;> rfl)
end Go.FG.Pu.spec_l01In

namespace Go.FG.Pu.spec_l13Key
def b {R : Type} (kr : Bool → Option R) (a0 : ByteArray) : Option R := kr (Pu.spec_l01In.v (↑(ByteArray.size a0) : Int) 1 30)
def v (a0 : ByteArray) : Bool := ((Pu.spec_l01In.v (↑(ByteArray.size a0) : Int) 1 30))
theorem b_eq {R : Type} (kr : Bool → Option R) (a0 : ByteArray) : b kr a0 = kr (v a0) := by
  first | rfl | (unfold b v; simp only [Bool.cond_eq_ite]; (repeat' split) <;> rfl)
end Go.FG.Pu.spec_l13Key

namespace Go.FG.Pu.spec_EntryOk
def b {R : Type} (kr : Bool → Option R) (a0 : ByteArray) (a1 a2 : Int) (a3 : ByteArray) : Option R := bif (Pu.spec_l13Key.v a0) then (bif (Pu.spec_l01In.v a1 0 1000000000) then (bif (Pu.spec_l01In.v a2 1 999999) then (kr (decide ((↑(ByteArray.size a3) : Int) ≤ 400))) else (kr false)) else (kr false)) else (kr false)
def v (a0 : ByteArray) (a1 a2 : Int) (a3 : ByteArray) : Bool := bif (Pu.spec_l13Key.v a0) then (bif (Pu.spec_l01In.v a1 0 1000000000) then (bif (Pu.spec_l01In.v a2 1 999999) then (((decide ((↑(ByteArray.size a3) : Int) ≤ 400)))) else ((false))) else ((false))) else ((false))
theorem b_eq {R : Type} (kr : Bool → Option R) (a0 : ByteArray) (a1 a2 : Int) (a3 : ByteArray) : b kr a0 a1 a2 a3 = kr (v a0 a1 a2 a3) := by
  first | rfl | (unfold b v; simp only [Bool.cond_eq_ite]; (repeat' split) <;> rfl)
theorem rng {k : ByteArray} {s l : Int} {b : ByteArray} (h : v k s l b = true) : (1 ≤ k.size ∧ k.size ≤ 30) ∧ (0 ≤ s ∧ s ≤ 1000000000) ∧ (1 ≤ l ∧ l ≤ 999999) ∧ b.size ≤ 400 := by
  unfold v at h
  cases h1 : Pu.spec_l13Key.v k <;> rw [h1] at h <;> simp only [cond_true, cond_false, Bool.false_eq_true] at h
  cases h2 : Pu.spec_l01In.v s 0 1000000000 <;> rw [h2] at h <;> simp only [cond_true, cond_false, Bool.false_eq_true] at h
  cases h3 : Pu.spec_l01In.v l 1 999999 <;> rw [h3] at h <;> simp only [cond_true, cond_false, Bool.false_eq_true] at h
  simp [Pu.spec_l13Key.v, Pu.spec_l01In.v] at h1 h2 h3
  have := of_decide_eq_true h
  omega
end Go.FG.Pu.spec_EntryOk

namespace Go.FG.Pu.spec_l13In
def r2 {R : Type} (N : Nat) (g : Row → ByteArray → Bool → Int → Option R) (k0 : Row → ByteArray → Bool → Int → Option R) (k1 : Row → ByteArray → Bool → Int → Option R) (x0 : Row) (x1 : ByteArray) (x2 : Bool) (x3 : Int) : Option R := bif (decide (x3 < (↑(List.length x0) : Int))) then (bif (decide (0 ≤ x3) && decide (x3 < (↑(List.length x0) : Int))) then (bif (List.beq (ByteArray.toList (cvS (cellAt x0 (Int.toNat x3) 0))) (ByteArray.toList x1)) then (k0 x0 x1 true x3) else (g x0 x1 x2 (w64 (x3 + 1)))) else (none)) else (k1 x0 x1 x2 x3)
def l2 {R : Type} (N : Nat) (k0 : Row → ByteArray → Bool → Int → Option R) (k1 : Row → ByteArray → Bool → Int → Option R) : Nat → Row → ByteArray → Bool → Int → Option R
  | 0 => (fun _ _ _ _ => none)
  | n + 1 => (fun x0 x1 x2 x3 => r2 N (l2 N k0 k1 n) k0 k1 x0 x1 x2 x3)
def b {R : Type} (N : Nat) (kr : Bool → Option R) (a0 : Row) (a1 : ByteArray) : Option R := l2 N (fun y4 y5 y6 y7 => kr y6) (fun y8 y9 y10 y11 => kr false) N a0 a1 false 0
theorem q2_bind {R S : Type} (f : R → Option S) (N : Nat) (k0 : Row → ByteArray → Bool → Int → Option R) (k1 : Row → ByteArray → Bool → Int → Option R) : ∀ n : Nat, (∀ (x0 : Row) (x1 : ByteArray) (x2 : Bool) (x3 : Int), Option.bind (l2 N k0 k1 n x0 x1 x2 x3) f = l2 N (fun y0 y1 y2 y3 => (Option.bind (k0 y0 y1 y2 y3) f)) (fun y0 y1 y2 y3 => (Option.bind (k1 y0 y1 y2 y3) f)) n x0 x1 x2 x3) := by
  intro n
  induction n with
  | zero => exact (fun _ _ _ _ => rfl)
  | succ n ih =>
    intro x0 x1 x2 x3
    simp only [l2, r2, Lib.lt_bind, Lib.cond_bind, Lib.some_bind, Lib.none_bind, ih]
variable {R : Type} (N : Nat) (kr : Bool → Option R) (a0 : Row) (a1 : ByteArray)
theorem b_bind : b N kr a0 a1 = Option.bind (b N (fun r0 => some (r0)) a0 a1) (fun p => kr p) := by
  unfold b; simp only [Lib.lt_bind, Lib.cond_bind, Lib.some_bind, Lib.none_bind, q2_bind]
def vo : Option (Bool) := b Lib.big (fun r0 => some (r0)) a0 a1
def c : Bool := Option.isSome (vo a0 a1)
def v : Bool := Option.getD (vo a0 a1) (false)
theorem out {x : Bool} (h : vo a0 a1 = some x) : c a0 a1 = true ∧ v a0 a1 = x := Lib.out_ h
theorem b_eq (hc : c a0 a1 = true) : ∃ N, b N kr a0 a1 = (fun p => kr p) (v a0 a1) := ⟨Lib.big, (b_bind Lib.big kr a0 a1).trans (by rw [show b Lib.big (fun r0 => some (r0)) a0 a1 = some (v a0 a1) from Lib.some_ hc]; rfl)⟩
end Go.FG.Pu.spec_l13In

namespace Go.FG.Pu.spec_PolicyHas
def b {R : Type} (kr : Bool → Option R) (a0 a1 a2 : Row) (a3 : Int) (a4 : ByteArray) : Option R := bif (Pu.spec_l13In.c a0 a4) then (bif (Pu.spec_l13In.v a0 a4) then (kr true) else (bif (Pu.spec_l13In.c a1 a4) then (kr (Pu.spec_l13In.v a1 a4)) else (none))) else (none)
variable {R : Type} (kr : Bool → Option R) (a0 a1 a2 : Row) (a3 : Int) (a4 : ByteArray)
theorem b_bind : b kr a0 a1 a2 a3 a4 = Option.bind (b (fun r0 => some (r0)) a0 a1 a2 a3 a4) (fun p => kr p) := by
  unfold b; simp only [Lib.lt_bind, Lib.cond_bind, Lib.some_bind, Lib.none_bind]
def vo : Option (Bool) := b (fun r0 => some (r0)) a0 a1 a2 a3 a4
def c : Bool := Option.isSome (vo a0 a1 a2 a3 a4)
def v : Bool := Option.getD (vo a0 a1 a2 a3 a4) (false)
theorem out {x : Bool} (h : vo a0 a1 a2 a3 a4 = some x) : c a0 a1 a2 a3 a4 = true ∧ v a0 a1 a2 a3 a4 = x := Lib.out_ h
theorem b_eq (hc : c a0 a1 a2 a3 a4 = true) : b kr a0 a1 a2 a3 a4 = (fun p => kr p) (v a0 a1 a2 a3 a4) := (b_bind kr a0 a1 a2 a3 a4).trans (by rw [show b (fun r0 => some (r0)) a0 a1 a2 a3 a4 = some (v a0 a1 a2 a3 a4) from Lib.some_ hc]; rfl)
end Go.FG.Pu.spec_PolicyHas

namespace Go.FG.Pu.spec_SketchOk
def r9 {R : Type} (N : Nat) (g : Bool → Int → Int → Row → Int → Option R) (k0 : Bool → Int → Int → Row → Int → Option R) (k1 : Bool → Int → Int → Row → Int → Option R) (x4 : Bool) (x5 x6 : Int) (x7 : Row) (x8 : Int) : Option R := bif (decide (0 ≤ x5) && decide (x5 < (↑(List.length x7) : Int))) then (bif (decide (x6 < (↑(List.length (cvL (cellAt x7 (Int.toNat x5) 0))) : Int))) then (bif (decide (0 ≤ x5) && decide (x5 < (↑(List.length x7) : Int))) then (bif (decide (0 ≤ x6) && decide (x6 < (↑(List.length (cvL (cellAt x7 (Int.toNat x5) 0))) : Int))) then (bif (!Pu.spec_l01In.v (cvI (cellAt (cvL (cellAt x7 (Int.toNat x5) 0)) (Int.toNat x6) 0)) 0 15) then (k0 false x5 x6 x7 x8) else (g x4 x5 (w64 (x6 + 1)) x7 x8)) else (none)) else (none)) else (k1 x4 x5 x6 x7 x8)) else (none)
def l9 {R : Type} (N : Nat) (k0 : Bool → Int → Int → Row → Int → Option R) (k1 : Bool → Int → Int → Row → Int → Option R) : Nat → Bool → Int → Int → Row → Int → Option R
  | 0 => (fun _ _ _ _ _ => none)
  | n + 1 => (fun x4 x5 x6 x7 x8 => r9 N (l9 N k0 k1 n) k0 k1 x4 x5 x6 x7 x8)
def r4 {R : Type} (N : Nat) (g : Bool → Int → Row → Int → Option R) (k0 : Bool → Int → Row → Int → Option R) (k1 : Bool → Int → Row → Int → Option R) (x0 : Bool) (x1 : Int) (x2 : Row) (x3 : Int) : Option R := bif (decide (x1 < (↑(List.length x2) : Int))) then (bif (decide (0 ≤ x1) && decide (x1 < (↑(List.length x2) : Int))) then (bif ((↑(List.length (cvL (cellAt x2 (Int.toNat x1) 0))) : Int) != 16) then (k0 false x1 x2 x3) else (l9 N (fun y9 y10 y11 y12 y13 => k0 y9 y10 y12 y13) (fun y14 y15 y16 y17 y18 => g y14 (w64 (y15 + 1)) y17 y18) N x0 x1 0 x2 x3)) else (none)) else (k1 x0 x1 x2 x3)
def l4 {R : Type} (N : Nat) (k0 : Bool → Int → Row → Int → Option R) (k1 : Bool → Int → Row → Int → Option R) : Nat → Bool → Int → Row → Int → Option R
  | 0 => (fun _ _ _ _ => none)
  | n + 1 => (fun x0 x1 x2 x3 => r4 N (l4 N k0 k1 n) k0 k1 x0 x1 x2 x3)
def b {R : Type} (N : Nat) (kr : Bool → Option R) (a0 : Row) (a1 : Int) : Option R := bif ((↑(List.length a0) : Int) != 3) then (kr false) else (bif (!Pu.spec_l01In.v a1 0 63) then (kr false) else (l4 N (fun y19 y20 y21 y22 => kr y19) (fun y23 y24 y25 y26 => kr true) N false 0 a0 a1))
theorem q9_bind {R S : Type} (f : R → Option S) (N : Nat) (k0 : Bool → Int → Int → Row → Int → Option R) (k1 : Bool → Int → Int → Row → Int → Option R) : ∀ n : Nat, (∀ (x4 : Bool) (x5 x6 : Int) (x7 : Row) (x8 : Int), Option.bind (l9 N k0 k1 n x4 x5 x6 x7 x8) f = l9 N (fun y0 y1 y2 y3 y4 => (Option.bind (k0 y0 y1 y2 y3 y4) f)) (fun y0 y1 y2 y3 y4 => (Option.bind (k1 y0 y1 y2 y3 y4) f)) n x4 x5 x6 x7 x8) := by
  intro n
  induction n with
  | zero => exact (fun _ _ _ _ _ => rfl)
  | succ n ih =>
    intro x4 x5 x6 x7 x8
    simp only [l9, r9, Lib.lt_bind, Lib.cond_bind, Lib.some_bind, Lib.none_bind, ih]
theorem q4_bind {R S : Type} (f : R → Option S) (N : Nat) (k0 : Bool → Int → Row → Int → Option R) (k1 : Bool → Int → Row → Int → Option R) : ∀ n : Nat, (∀ (x0 : Bool) (x1 : Int) (x2 : Row) (x3 : Int), Option.bind (l4 N k0 k1 n x0 x1 x2 x3) f = l4 N (fun y0 y1 y2 y3 => (Option.bind (k0 y0 y1 y2 y3) f)) (fun y0 y1 y2 y3 => (Option.bind (k1 y0 y1 y2 y3) f)) n x0 x1 x2 x3) := by
  intro n
  induction n with
  | zero => exact (fun _ _ _ _ => rfl)
  | succ n ih =>
    intro x0 x1 x2 x3
    simp only [l4, r4, Lib.lt_bind, Lib.cond_bind, Lib.some_bind, Lib.none_bind, ih, q9_bind]
variable {R : Type} (N : Nat) (kr : Bool → Option R) (a0 : Row) (a1 : Int)
theorem b_bind : b N kr a0 a1 = Option.bind (b N (fun r0 => some (r0)) a0 a1) (fun p => kr p) := by
  unfold b; simp only [Lib.lt_bind, Lib.cond_bind, Lib.some_bind, Lib.none_bind, q9_bind, q4_bind]
def vo : Option (Bool) := b Lib.big (fun r0 => some (r0)) a0 a1
def c : Bool := Option.isSome (vo a0 a1)
def v : Bool := Option.getD (vo a0 a1) (false)
theorem out {x : Bool} (h : vo a0 a1 = some x) : c a0 a1 = true ∧ v a0 a1 = x := Lib.out_ h
theorem b_eq (hc : c a0 a1 = true) : ∃ N, b N kr a0 a1 = (fun p => kr p) (v a0 a1) := ⟨Lib.big, (b_bind Lib.big kr a0 a1).trans (by rw [show b Lib.big (fun r0 => some (r0)) a0 a1 = some (v a0 a1) from Lib.some_ hc]; rfl)⟩
end Go.FG.Pu.spec_SketchOk

namespace Go.FG.Pu.spec_PolicyOk
def r3 {R : Type} (N : Nat) (g : Bool → Int → Row → Row → Row → Int → Row → Option R) (k0 : Bool → Int → Row → Row → Row → Int → Row → Option R) (k1 : Bool → Int → Row → Row → Row → Int → Row → Option R) (x0 : Bool) (x1 : Int) (x2 x3 x4 : Row) (x5 : Int) (x6 : Row) : Option R := bif (decide (x1 < (↑(List.length x6) : Int))) then (bif (decide (0 ≤ x1) && decide (x1 < (↑(List.length x6) : Int))) then (bif (!Pu.spec_l13Key.v (cvS (cellAt x6 (Int.toNat x1) 0))) then (k0 false x1 x2 x3 x4 x5 x6) else (bif (inB 0 x1 (↑(List.length x6) : Int)) then (bif (decide (0 ≤ x1) && decide (x1 < (↑(List.length x6) : Int))) then (bif (Pu.spec_l13In.c (view x6 (Int.toNat 0) (Int.toNat x1)) (cvS (cellAt x6 (Int.toNat x1) 0))) then (bif (Pu.spec_l13In.v (view x6 (Int.toNat 0) (Int.toNat x1)) (cvS (cellAt x6 (Int.toNat x1) 0))) then (k0 false x1 x2 x3 x4 x5 x6) else (g x0 (w64 (x1 + 1)) x2 x3 x4 x5 x6)) else (none)) else (none)) else (none))) else (none)) else (k1 x0 x1 x2 x3 x4 x5 x6)
def l3 {R : Type} (N : Nat) (k0 : Bool → Int → Row → Row → Row → Int → Row → Option R) (k1 : Bool → Int → Row → Row → Row → Int → Row → Option R) : Nat → Bool → Int → Row → Row → Row → Int → Row → Option R
  | 0 => (fun _ _ _ _ _ _ _ => none)
  | n + 1 => (fun x0 x1 x2 x3 x4 x5 x6 => r3 N (l3 N k0 k1 n) k0 k1 x0 x1 x2 x3 x4 x5 x6)
def b {R : Type} (N : Nat) (kr : Bool → Option R) (a0 a1 a2 : Row) (a3 : Int) : Option R := bif (roomy (List.length (zeros [Ck.s] 0) + List.length a0) 16) then (bif (roomy (List.length (zeros [Ck.s] 0 ++ a0) + List.length a1) 16) then (l3 N (fun y7 y8 y9 y10 y11 y12 y13 => kr y7) (fun y14 y15 y16 y17 y18 y19 y20 => bif (decide ((↑(List.length y16) : Int) ≤ 2)) then (bif (decide ((↑(List.length y17) : Int) ≤ 4)) then (bif (Pu.spec_SketchOk.c y18 y19) then (kr (Pu.spec_SketchOk.v y18 y19)) else (none)) else (kr false)) else (kr false)) N false 0 a0 a1 a2 a3 (zeros [Ck.s] 0 ++ a0 ++ a1)) else (none)) else (none)
theorem q3_bind {R S : Type} (f : R → Option S) (N : Nat) (k0 : Bool → Int → Row → Row → Row → Int → Row → Option R) (k1 : Bool → Int → Row → Row → Row → Int → Row → Option R) : ∀ n : Nat, (∀ (x0 : Bool) (x1 : Int) (x2 x3 x4 : Row) (x5 : Int) (x6 : Row), Option.bind (l3 N k0 k1 n x0 x1 x2 x3 x4 x5 x6) f = l3 N (fun y0 y1 y2 y3 y4 y5 y6 => (Option.bind (k0 y0 y1 y2 y3 y4 y5 y6) f)) (fun y0 y1 y2 y3 y4 y5 y6 => (Option.bind (k1 y0 y1 y2 y3 y4 y5 y6) f)) n x0 x1 x2 x3 x4 x5 x6) := by
  intro n
  induction n with
  | zero => exact (fun _ _ _ _ _ _ _ => rfl)
  | succ n ih =>
    intro x0 x1 x2 x3 x4 x5 x6
    simp only [l3, r3, Lib.lt_bind, Lib.cond_bind, Lib.some_bind, Lib.none_bind, ih]
variable {R : Type} (N : Nat) (kr : Bool → Option R) (a0 a1 a2 : Row) (a3 : Int)
theorem b_bind : b N kr a0 a1 a2 a3 = Option.bind (b N (fun r0 => some (r0)) a0 a1 a2 a3) (fun p => kr p) := by
  unfold b; simp only [Lib.lt_bind, Lib.cond_bind, Lib.some_bind, Lib.none_bind, q3_bind]
def vo : Option (Bool) := b Lib.big (fun r0 => some (r0)) a0 a1 a2 a3
def c : Bool := Option.isSome (vo a0 a1 a2 a3)
def v : Bool := Option.getD (vo a0 a1 a2 a3) (false)
theorem out {x : Bool} (h : vo a0 a1 a2 a3 = some x) : c a0 a1 a2 a3 = true ∧ v a0 a1 a2 a3 = x := Lib.out_ h
theorem b_eq (hc : c a0 a1 a2 a3 = true) : ∃ N, b N kr a0 a1 a2 a3 = (fun p => kr p) (v a0 a1 a2 a3) := ⟨Lib.big, (b_bind Lib.big kr a0 a1 a2 a3).trans (by rw [show b Lib.big (fun r0 => some (r0)) a0 a1 a2 a3 = some (v a0 a1 a2 a3) from Lib.some_ hc]; rfl)⟩
end Go.FG.Pu.spec_PolicyOk

namespace Go.FG.Pu.spec_l16Entries
def r2 {R : Type} (N : Nat) (g : Bool → Int → Int → Row → Row → Row → Row → Int → Row → Row → Int → Option R) (k0 : Bool → Int → Int → Row → Row → Row → Row → Int → Row → Row → Int → Option R) (k1 : Bool → Int → Int → Row → Row → Row → Row → Int → Row → Row → Int → Option R) (x0 : Bool) (x1 x2 : Int) (x3 x4 x5 x6 : Row) (x7 : Int) (x8 x9 : Row) (x10 : Int) : Option R := bif (decide (x1 < (↑(List.length x3) : Int))) then (bif (decide (0 ≤ x1) && decide (x1 < (↑(List.length x3) : Int))) then (bif (!Pu.spec_EntryOk.v (cvS (cellAt x3 (Int.toNat x1) 0)) (cvI (cellAt x3 (Int.toNat x1) 1)) (cvI (cellAt x3 (Int.toNat x1) (1 + 1))) (cvS (cellAt x3 (Int.toNat x1) (1 + 1 + 1)))) then (k0 false x1 x2 x3 x4 x5 x6 x7 x8 x9 x10) else (bif (decide (x1 > 0)) then (bif (decide (0 ≤ w64 (x1 - 1)) && decide (w64 (x1 - 1) < (↑(List.length x3) : Int))) then (bif (decide (0 ≤ x1) && decide (x1 < (↑(List.length x3) : Int))) then (bif (!Go.Op.bytesLess (ByteArray.toList (cvS (cellAt x3 (Int.toNat (w64 (x1 - 1))) 0))) (ByteArray.toList (cvS (cellAt x3 (Int.toNat x1) 0)))) then (k0 false x1 x2 x3 x4 x5 x6 x7 x8 x9 x10) else (bif (decide (0 ≤ x1) && decide (x1 < (↑(List.length x3) : Int))) then (bif (Pu.spec_PolicyHas.c x4 x5 x6 x7 (cvS (cellAt x3 (Int.toNat x1) 0))) then (bif (!Pu.spec_PolicyHas.v x4 x5 x6 x7 (cvS (cellAt x3 (Int.toNat x1) 0))) then (k0 false x1 x2 x3 x4 x5 x6 x7 x8 x9 x10) else (g x0 (w64 (x1 + 1)) x2 x3 x4 x5 x6 x7 x8 x9 x10)) else (none)) else (none))) else (none)) else (none)) else (bif (decide (0 ≤ x1) && decide (x1 < (↑(List.length x3) : Int))) then (bif (Pu.spec_PolicyHas.c x4 x5 x6 x7 (cvS (cellAt x3 (Int.toNat x1) 0))) then (bif (!Pu.spec_PolicyHas.v x4 x5 x6 x7 (cvS (cellAt x3 (Int.toNat x1) 0))) then (k0 false x1 x2 x3 x4 x5 x6 x7 x8 x9 x10) else (g x0 (w64 (x1 + 1)) x2 x3 x4 x5 x6 x7 x8 x9 x10)) else (none)) else (none)))) else (none)) else (k1 x0 x1 x2 x3 x4 x5 x6 x7 x8 x9 x10)
def l2 {R : Type} (N : Nat) (k0 : Bool → Int → Int → Row → Row → Row → Row → Int → Row → Row → Int → Option R) (k1 : Bool → Int → Int → Row → Row → Row → Row → Int → Row → Row → Int → Option R) : Nat → Bool → Int → Int → Row → Row → Row → Row → Int → Row → Row → Int → Option R
  | 0 => (fun _ _ _ _ _ _ _ _ _ _ _ => none)
  | n + 1 => (fun x0 x1 x2 x3 x4 x5 x6 x7 x8 x9 x10 => r2 N (l2 N k0 k1 n) k0 k1 x0 x1 x2 x3 x4 x5 x6 x7 x8 x9 x10)
def b {R : Type} (N : Nat) (kr : Bool → Option R) (a0 : Int) (a1 a2 a3 a4 : Row) (a5 : Int) (a6 a7 : Row) (a8 : Int) : Option R := l2 N (fun y11 y12 y13 y14 y15 y16 y17 y18 y19 y20 y21 => kr y11) (fun y22 y23 y24 y25 y26 y27 y28 y29 y30 y31 y32 => bif (Pu.spec_PolicyOk.c y26 y27 y28 y29) then (bif (Pu.spec_PolicyOk.v y26 y27 y28 y29) then (kr (decide ((↑(List.length y25) : Int) = w64 ((↑(List.length y26) : Int) + (↑(List.length y27) : Int))))) else (kr false)) else (none)) N false 0 a0 a1 a2 a3 a4 a5 a6 a7 a8
theorem q2_bind {R S : Type} (f : R → Option S) (N : Nat) (k0 : Bool → Int → Int → Row → Row → Row → Row → Int → Row → Row → Int → Option R) (k1 : Bool → Int → Int → Row → Row → Row → Row → Int → Row → Row → Int → Option R) : ∀ n : Nat, (∀ (x0 : Bool) (x1 x2 : Int) (x3 x4 x5 x6 : Row) (x7 : Int) (x8 x9 : Row) (x10 : Int), Option.bind (l2 N k0 k1 n x0 x1 x2 x3 x4 x5 x6 x7 x8 x9 x10) f = l2 N (fun y0 y1 y2 y3 y4 y5 y6 y7 y8 y9 y10 => (Option.bind (k0 y0 y1 y2 y3 y4 y5 y6 y7 y8 y9 y10) f)) (fun y0 y1 y2 y3 y4 y5 y6 y7 y8 y9 y10 => (Option.bind (k1 y0 y1 y2 y3 y4 y5 y6 y7 y8 y9 y10) f)) n x0 x1 x2 x3 x4 x5 x6 x7 x8 x9 x10) := by
  intro n
  induction n with
  | zero => exact (fun _ _ _ _ _ _ _ _ _ _ _ => rfl)
  | succ n ih =>
    intro x0 x1 x2 x3 x4 x5 x6 x7 x8 x9 x10
    simp only [l2, r2, Lib.lt_bind, Lib.cond_bind, Lib.some_bind, Lib.none_bind, ih]
variable {R : Type} (N : Nat) (kr : Bool → Option R) (a0 : Int) (a1 a2 a3 a4 : Row) (a5 : Int) (a6 a7 : Row) (a8 : Int)
theorem b_bind : b N kr a0 a1 a2 a3 a4 a5 a6 a7 a8 = Option.bind (b N (fun r0 => some (r0)) a0 a1 a2 a3 a4 a5 a6 a7 a8) (fun p => kr p) := by
  unfold b; simp only [Lib.lt_bind, Lib.cond_bind, Lib.some_bind, Lib.none_bind, q2_bind]
def vo : Option (Bool) := b Lib.big (fun r0 => some (r0)) a0 a1 a2 a3 a4 a5 a6 a7 a8
def c : Bool := Option.isSome (vo a0 a1 a2 a3 a4 a5 a6 a7 a8)
def v : Bool := Option.getD (vo a0 a1 a2 a3 a4 a5 a6 a7 a8) (false)
theorem out {x : Bool} (h : vo a0 a1 a2 a3 a4 a5 a6 a7 a8 = some x) : c a0 a1 a2 a3 a4 a5 a6 a7 a8 = true ∧ v a0 a1 a2 a3 a4 a5 a6 a7 a8 = x := Lib.out_ h
theorem b_eq (hc : c a0 a1 a2 a3 a4 a5 a6 a7 a8 = true) : ∃ N, b N kr a0 a1 a2 a3 a4 a5 a6 a7 a8 = (fun p => kr p) (v a0 a1 a2 a3 a4 a5 a6 a7 a8) := ⟨Lib.big, (b_bind Lib.big kr a0 a1 a2 a3 a4 a5 a6 a7 a8).trans (by rw [show b Lib.big (fun r0 => some (r0)) a0 a1 a2 a3 a4 a5 a6 a7 a8 = some (v a0 a1 a2 a3 a4 a5 a6 a7 a8) from Lib.some_ hc]; rfl)⟩
end Go.FG.Pu.spec_l16Entries

namespace Go.FG.Pu.spec_l16Fetch
def r5 {R : Type} (N : Nat) (g : Int → Bool → Int → Int → Row → Row → Row → Row → Int → Row → Row → Int → ByteArray → ByteArray → Int → Int → Int → Option R) (k0 : Int → Bool → Int → Int → Row → Row → Row → Row → Int → Row → Row → Int → ByteArray → ByteArray → Int → Int → Int → Option R) (k1 : Int → Bool → Int → Int → Row → Row → Row → Row → Int → Row → Row → Int → ByteArray → ByteArray → Int → Int → Int → Option R) (x0 : Int) (x1 : Bool) (x2 x3 : Int) (x4 x5 x6 x7 : Row) (x8 : Int) (x9 x10 : Row) (x11 : Int) (x12 x13 : ByteArray) (x14 x15 x16 : Int) : Option R := bif (decide (x2 < x0)) then (bif (decide (0 ≤ x2) && decide (x2 < (↑(List.length x9) : Int))) then (bif (List.beq (ByteArray.toList (cvS (cellAt x9 (Int.toNat x2) 0))) (ByteArray.toList x12)) then (bif (decide (0 ≤ x2) && decide (x2 < (↑(List.length x9) : Int))) then (bif (decide (cvI (cellAt x9 (Int.toNat x2) 2) = 1)) then (bif (decide (x14 = 1)) then (k0 x0 false x2 x3 x4 x5 x6 x7 x8 x9 x10 x11 x12 x13 x14 x15 x16) else (g x0 x1 (w64 (x2 + 1)) x3 x4 x5 x6 x7 x8 x9 x10 x11 x12 x13 x14 x15 x16)) else (g x0 x1 (w64 (x2 + 1)) x3 x4 x5 x6 x7 x8 x9 x10 x11 x12 x13 x14 x15 x16)) else (none)) else (g x0 x1 (w64 (x2 + 1)) x3 x4 x5 x6 x7 x8 x9 x10 x11 x12 x13 x14 x15 x16)) else (none)) else (k1 x0 x1 x2 x3 x4 x5 x6 x7 x8 x9 x10 x11 x12 x13 x14 x15 x16)
def l5 {R : Type} (N : Nat) (k0 : Int → Bool → Int → Int → Row → Row → Row → Row → Int → Row → Row → Int → ByteArray → ByteArray → Int → Int → Int → Option R) (k1 : Int → Bool → Int → Int → Row → Row → Row → Row → Int → Row → Row → Int → ByteArray → ByteArray → Int → Int → Int → Option R) : Nat → Int → Bool → Int → Int → Row → Row → Row → Row → Int → Row → Row → Int → ByteArray → ByteArray → Int → Int → Int → Option R
  | 0 => (fun _ _ _ _ _ _ _ _ _ _ _ _ _ _ _ _ _ => none)
  | n + 1 => (fun x0 x1 x2 x3 x4 x5 x6 x7 x8 x9 x10 x11 x12 x13 x14 x15 x16 => r5 N (l5 N k0 k1 n) k0 k1 x0 x1 x2 x3 x4 x5 x6 x7 x8 x9 x10 x11 x12 x13 x14 x15 x16)
def b {R : Type} (N : Nat) (kr : Bool → Option R) (a0 : Int) (a1 a2 a3 a4 : Row) (a5 : Int) (a6 a7 : Row) (a8 a9 : Int) : Option R := bif (decide (0 ≤ a9) && decide (a9 < (↑(List.length a6) : Int))) then (bif (!Pu.spec_l13Key.v (cvS (cellAt a6 (Int.toNat a9) 0))) then (kr false) else (bif (decide ((↑(ByteArray.size (cvS (cellAt a6 (Int.toNat a9) 1))) : Int) > 400)) then (kr false) else (bif (!Pu.spec_l01In.v (cvI (cellAt a6 (Int.toNat a9) (1 + 1))) 1 3) then (kr false) else (bif (!Pu.spec_l01In.v (cvI (cellAt a6 (Int.toNat a9) (1 + 1 + 1))) 0 999999) then (kr false) else (bif (!Pu.spec_l01In.v (cvI (cellAt a6 (Int.toNat a9) (1 + 1 + 1 + 1))) 0 a0) then (kr false) else (l5 N (fun y17 y18 y19 y20 y21 y22 y23 y24 y25 y26 y27 y28 y29 y30 y31 y32 y33 => kr y18) (fun y34 y35 y36 y37 y38 y39 y40 y41 y42 y43 y44 y45 y46 y47 y48 y49 y50 => kr true) N a9 false 0 a0 a1 a2 a3 a4 a5 a6 a7 a8 (cvS (cellAt a6 (Int.toNat a9) 0)) (cvS (cellAt a6 (Int.toNat a9) 1)) (cvI (cellAt a6 (Int.toNat a9) (1 + 1))) (cvI (cellAt a6 (Int.toNat a9) (1 + 1 + 1))) (cvI (cellAt a6 (Int.toNat a9) (1 + 1 + 1 + 1))))))))) else (none)
theorem q5_bind {R S : Type} (f : R → Option S) (N : Nat) (k0 : Int → Bool → Int → Int → Row → Row → Row → Row → Int → Row → Row → Int → ByteArray → ByteArray → Int → Int → Int → Option R) (k1 : Int → Bool → Int → Int → Row → Row → Row → Row → Int → Row → Row → Int → ByteArray → ByteArray → Int → Int → Int → Option R) : ∀ n : Nat, (∀ (x0 : Int) (x1 : Bool) (x2 x3 : Int) (x4 x5 x6 x7 : Row) (x8 : Int) (x9 x10 : Row) (x11 : Int) (x12 x13 : ByteArray) (x14 x15 x16 : Int), Option.bind (l5 N k0 k1 n x0 x1 x2 x3 x4 x5 x6 x7 x8 x9 x10 x11 x12 x13 x14 x15 x16) f = l5 N (fun y0 y1 y2 y3 y4 y5 y6 y7 y8 y9 y10 y11 y12 y13 y14 y15 y16 => (Option.bind (k0 y0 y1 y2 y3 y4 y5 y6 y7 y8 y9 y10 y11 y12 y13 y14 y15 y16) f)) (fun y0 y1 y2 y3 y4 y5 y6 y7 y8 y9 y10 y11 y12 y13 y14 y15 y16 => (Option.bind (k1 y0 y1 y2 y3 y4 y5 y6 y7 y8 y9 y10 y11 y12 y13 y14 y15 y16) f)) n x0 x1 x2 x3 x4 x5 x6 x7 x8 x9 x10 x11 x12 x13 x14 x15 x16) := by
  intro n
  induction n with
  | zero => exact (fun _ _ _ _ _ _ _ _ _ _ _ _ _ _ _ _ _ => rfl)
  | succ n ih =>
    intro x0 x1 x2 x3 x4 x5 x6 x7 x8 x9 x10 x11 x12 x13 x14 x15 x16
    simp only [l5, r5, Lib.lt_bind, Lib.cond_bind, Lib.some_bind, Lib.none_bind, ih]
variable {R : Type} (N : Nat) (kr : Bool → Option R) (a0 : Int) (a1 a2 a3 a4 : Row) (a5 : Int) (a6 a7 : Row) (a8 a9 : Int)
theorem b_bind : b N kr a0 a1 a2 a3 a4 a5 a6 a7 a8 a9 = Option.bind (b N (fun r0 => some (r0)) a0 a1 a2 a3 a4 a5 a6 a7 a8 a9) (fun p => kr p) := by
  unfold b; simp only [Lib.lt_bind, Lib.cond_bind, Lib.some_bind, Lib.none_bind, q5_bind]
def vo : Option (Bool) := b Lib.big (fun r0 => some (r0)) a0 a1 a2 a3 a4 a5 a6 a7 a8 a9
def c : Bool := Option.isSome (vo a0 a1 a2 a3 a4 a5 a6 a7 a8 a9)
def v : Bool := Option.getD (vo a0 a1 a2 a3 a4 a5 a6 a7 a8 a9) (false)
theorem out {x : Bool} (h : vo a0 a1 a2 a3 a4 a5 a6 a7 a8 a9 = some x) : c a0 a1 a2 a3 a4 a5 a6 a7 a8 a9 = true ∧ v a0 a1 a2 a3 a4 a5 a6 a7 a8 a9 = x := Lib.out_ h
theorem b_eq (hc : c a0 a1 a2 a3 a4 a5 a6 a7 a8 a9 = true) : ∃ N, b N kr a0 a1 a2 a3 a4 a5 a6 a7 a8 a9 = (fun p => kr p) (v a0 a1 a2 a3 a4 a5 a6 a7 a8 a9) := ⟨Lib.big, (b_bind Lib.big kr a0 a1 a2 a3 a4 a5 a6 a7 a8 a9).trans (by rw [show b Lib.big (fun r0 => some (r0)) a0 a1 a2 a3 a4 a5 a6 a7 a8 a9 = some (v a0 a1 a2 a3 a4 a5 a6 a7 a8 a9) from Lib.some_ hc]; rfl)⟩
end Go.FG.Pu.spec_l16Fetch

namespace Go.FG.Pu.spec_ProxyOk
def r9 {R : Type} (N : Nat) (g : Bool → Int → Int → Row → Row → Row → Row → Int → Row → Row → Int → Option R) (k0 : Bool → Int → Int → Row → Row → Row → Row → Int → Row → Row → Int → Option R) (k1 : Bool → Int → Int → Row → Row → Row → Row → Int → Row → Row → Int → Option R) (x33 : Bool) (x34 x35 : Int) (x36 x37 x38 x39 : Row) (x40 : Int) (x41 x42 : Row) (x43 : Int) : Option R := bif (decide (x34 < (↑(List.length x42) : Int))) then (bif (decide (0 ≤ x34) && decide (x34 < (↑(List.length x42) : Int))) then (bif (!Pu.spec_l01In.v (cvI (cellAt x42 (Int.toNat x34) 0)) 1 9) then (k0 false x34 x35 x36 x37 x38 x39 x40 x41 x42 x43) else (bif (decide (x34 > 0)) then (bif (decide (0 ≤ w64 (x34 - 1)) && decide (w64 (x34 - 1) < (↑(List.length x42) : Int))) then (bif (decide (cvI (cellAt x42 (Int.toNat (w64 (x34 - 1))) 0) ≥ cvI (cellAt x42 (Int.toNat x34) 0))) then (k0 false x34 x35 x36 x37 x38 x39 x40 x41 x42 x43) else (bif (!Pu.spec_l13Key.v (cvS (cellAt x42 (Int.toNat x34) 1))) then (k0 false x34 x35 x36 x37 x38 x39 x40 x41 x42 x43) else (bif (!Pu.spec_l01In.v (cvI (cellAt x42 (Int.toNat x34) (1 + 1 + 1 + 1))) 1 3) then (k0 false x34 x35 x36 x37 x38 x39 x40 x41 x42 x43) else (bif (!Pu.spec_l01In.v (cvI (cellAt x42 (Int.toNat x34) (1 + 1))) 0 (↑(List.length x41) : Int)) then (k0 false x34 x35 x36 x37 x38 x39 x40 x41 x42 x43) else (bif (decide ((↑(ByteArray.size (cvS (cellAt x42 (Int.toNat x34) (1 + 1 + 1 + 1 + 1)))) : Int) > 400)) then (k0 false x34 x35 x36 x37 x38 x39 x40 x41 x42 x43) else (bif (!Pu.spec_l01In.v (cvI (cellAt x42 (Int.toNat x34) (1 + 1 + 1))) 0 x35) then (k0 false x34 x35 x36 x37 x38 x39 x40 x41 x42 x43) else (bif (decide (cvI (cellAt x42 (Int.toNat x34) (1 + 1 + 1 + 1 + 1 + 1)) < 0)) then (k0 false x34 x35 x36 x37 x38 x39 x40 x41 x42 x43) else (g x33 (w64 (x34 + 1)) x35 x36 x37 x38 x39 x40 x41 x42 x43)))))))) else (none)) else (bif (!Pu.spec_l13Key.v (cvS (cellAt x42 (Int.toNat x34) 1))) then (k0 false x34 x35 x36 x37 x38 x39 x40 x41 x42 x43) else (bif (!Pu.spec_l01In.v (cvI (cellAt x42 (Int.toNat x34) (1 + 1 + 1 + 1))) 1 3) then (k0 false x34 x35 x36 x37 x38 x39 x40 x41 x42 x43) else (bif (!Pu.spec_l01In.v (cvI (cellAt x42 (Int.toNat x34) (1 + 1))) 0 (↑(List.length x41) : Int)) then (k0 false x34 x35 x36 x37 x38 x39 x40 x41 x42 x43) else (bif (decide ((↑(ByteArray.size (cvS (cellAt x42 (Int.toNat x34) (1 + 1 + 1 + 1 + 1)))) : Int) > 400)) then (k0 false x34 x35 x36 x37 x38 x39 x40 x41 x42 x43) else (bif (!Pu.spec_l01In.v (cvI (cellAt x42 (Int.toNat x34) (1 + 1 + 1))) 0 x35) then (k0 false x34 x35 x36 x37 x38 x39 x40 x41 x42 x43) else (bif (decide (cvI (cellAt x42 (Int.toNat x34) (1 + 1 + 1 + 1 + 1 + 1)) < 0)) then (k0 false x34 x35 x36 x37 x38 x39 x40 x41 x42 x43) else (g x33 (w64 (x34 + 1)) x35 x36 x37 x38 x39 x40 x41 x42 x43))))))))) else (none)) else (k1 x33 x34 x35 x36 x37 x38 x39 x40 x41 x42 x43)
def l9 {R : Type} (N : Nat) (k0 : Bool → Int → Int → Row → Row → Row → Row → Int → Row → Row → Int → Option R) (k1 : Bool → Int → Int → Row → Row → Row → Row → Int → Row → Row → Int → Option R) : Nat → Bool → Int → Int → Row → Row → Row → Row → Int → Row → Row → Int → Option R
  | 0 => (fun _ _ _ _ _ _ _ _ _ _ _ => none)
  | n + 1 => (fun x33 x34 x35 x36 x37 x38 x39 x40 x41 x42 x43 => r9 N (l9 N k0 k1 n) k0 k1 x33 x34 x35 x36 x37 x38 x39 x40 x41 x42 x43)
def r4 {R : Type} (N : Nat) (g : Bool → Int → Int → Row → Row → Row → Row → Int → Row → Row → Int → Option R) (k0 : Bool → Int → Int → Row → Row → Row → Row → Int → Row → Row → Int → Option R) (k1 : Bool → Int → Int → Row → Row → Row → Row → Int → Row → Row → Int → Option R) (x0 : Bool) (x1 x2 : Int) (x3 x4 x5 x6 : Row) (x7 : Int) (x8 x9 : Row) (x10 : Int) : Option R := bif (decide (x1 < (↑(List.length x8) : Int))) then (bif (Pu.spec_l16Fetch.c x2 x3 x4 x5 x6 x7 x8 x9 x10 x1) then (bif (!Pu.spec_l16Fetch.v x2 x3 x4 x5 x6 x7 x8 x9 x10 x1) then (k0 false x1 x2 x3 x4 x5 x6 x7 x8 x9 x10) else (g x0 (w64 (x1 + 1)) x2 x3 x4 x5 x6 x7 x8 x9 x10)) else (none)) else (k1 x0 x1 x2 x3 x4 x5 x6 x7 x8 x9 x10)
def l4 {R : Type} (N : Nat) (k0 : Bool → Int → Int → Row → Row → Row → Row → Int → Row → Row → Int → Option R) (k1 : Bool → Int → Int → Row → Row → Row → Row → Int → Row → Row → Int → Option R) : Nat → Bool → Int → Int → Row → Row → Row → Row → Int → Row → Row → Int → Option R
  | 0 => (fun _ _ _ _ _ _ _ _ _ _ _ => none)
  | n + 1 => (fun x0 x1 x2 x3 x4 x5 x6 x7 x8 x9 x10 => r4 N (l4 N k0 k1 n) k0 k1 x0 x1 x2 x3 x4 x5 x6 x7 x8 x9 x10)
def b {R : Type} (N : Nat) (kr : Bool → Option R) (a0 : Int) (a1 a2 a3 a4 : Row) (a5 : Int) (a6 a7 : Row) (a8 : Int) : Option R := bif (!Pu.spec_l01In.v a0 1 1000000000) then (kr false) else (bif (Pu.spec_l16Entries.c a0 a1 a2 a3 a4 a5 a6 a7 a8) then (bif (!Pu.spec_l16Entries.v a0 a1 a2 a3 a4 a5 a6 a7 a8) then (kr false) else (bif (decide ((↑(List.length a6) : Int) > 20)) then (kr false) else (bif (decide ((↑(List.length a7) : Int) > 6)) then (kr false) else (bif (!Pu.spec_l01In.v a8 0 1000000000) then (kr false) else (l4 N (fun y11 y12 y13 y14 y15 y16 y17 y18 y19 y20 y21 => kr y11) (fun y22 y23 y24 y25 y26 y27 y28 y29 y30 y31 y32 => l9 N (fun y44 y45 y46 y47 y48 y49 y50 y51 y52 y53 y54 => kr y44) (fun y55 y56 y57 y58 y59 y60 y61 y62 y63 y64 y65 => kr true) N y22 0 y24 y25 y26 y27 y28 y29 y30 y31 y32) N false 0 a0 a1 a2 a3 a4 a5 a6 a7 a8))))) else (none))
theorem q9_bind {R S : Type} (f : R → Option S) (N : Nat) (k0 : Bool → Int → Int → Row → Row → Row → Row → Int → Row → Row → Int → Option R) (k1 : Bool → Int → Int → Row → Row → Row → Row → Int → Row → Row → Int → Option R) : ∀ n : Nat, (∀ (x33 : Bool) (x34 x35 : Int) (x36 x37 x38 x39 : Row) (x40 : Int) (x41 x42 : Row) (x43 : Int), Option.bind (l9 N k0 k1 n x33 x34 x35 x36 x37 x38 x39 x40 x41 x42 x43) f = l9 N (fun y0 y1 y2 y3 y4 y5 y6 y7 y8 y9 y10 => (Option.bind (k0 y0 y1 y2 y3 y4 y5 y6 y7 y8 y9 y10) f)) (fun y0 y1 y2 y3 y4 y5 y6 y7 y8 y9 y10 => (Option.bind (k1 y0 y1 y2 y3 y4 y5 y6 y7 y8 y9 y10) f)) n x33 x34 x35 x36 x37 x38 x39 x40 x41 x42 x43) := by
  intro n
  induction n with
  | zero => exact (fun _ _ _ _ _ _ _ _ _ _ _ => rfl)
  | succ n ih =>
    intro x33 x34 x35 x36 x37 x38 x39 x40 x41 x42 x43
    simp only [l9, r9, Lib.lt_bind, Lib.cond_bind, Lib.some_bind, Lib.none_bind, ih]
theorem q4_bind {R S : Type} (f : R → Option S) (N : Nat) (k0 : Bool → Int → Int → Row → Row → Row → Row → Int → Row → Row → Int → Option R) (k1 : Bool → Int → Int → Row → Row → Row → Row → Int → Row → Row → Int → Option R) : ∀ n : Nat, (∀ (x0 : Bool) (x1 x2 : Int) (x3 x4 x5 x6 : Row) (x7 : Int) (x8 x9 : Row) (x10 : Int), Option.bind (l4 N k0 k1 n x0 x1 x2 x3 x4 x5 x6 x7 x8 x9 x10) f = l4 N (fun y0 y1 y2 y3 y4 y5 y6 y7 y8 y9 y10 => (Option.bind (k0 y0 y1 y2 y3 y4 y5 y6 y7 y8 y9 y10) f)) (fun y0 y1 y2 y3 y4 y5 y6 y7 y8 y9 y10 => (Option.bind (k1 y0 y1 y2 y3 y4 y5 y6 y7 y8 y9 y10) f)) n x0 x1 x2 x3 x4 x5 x6 x7 x8 x9 x10) := by
  intro n
  induction n with
  | zero => exact (fun _ _ _ _ _ _ _ _ _ _ _ => rfl)
  | succ n ih =>
    intro x0 x1 x2 x3 x4 x5 x6 x7 x8 x9 x10
    simp only [l4, r4, Lib.lt_bind, Lib.cond_bind, Lib.some_bind, Lib.none_bind, ih, q9_bind]
variable {R : Type} (N : Nat) (kr : Bool → Option R) (a0 : Int) (a1 a2 a3 a4 : Row) (a5 : Int) (a6 a7 : Row) (a8 : Int)
theorem b_bind : b N kr a0 a1 a2 a3 a4 a5 a6 a7 a8 = Option.bind (b N (fun r0 => some (r0)) a0 a1 a2 a3 a4 a5 a6 a7 a8) (fun p => kr p) := by
  unfold b; simp only [Lib.lt_bind, Lib.cond_bind, Lib.some_bind, Lib.none_bind, q9_bind, q4_bind]
def vo : Option (Bool) := b Lib.big (fun r0 => some (r0)) a0 a1 a2 a3 a4 a5 a6 a7 a8
def c : Bool := Option.isSome (vo a0 a1 a2 a3 a4 a5 a6 a7 a8)
def v : Bool := Option.getD (vo a0 a1 a2 a3 a4 a5 a6 a7 a8) (false)
theorem out {x : Bool} (h : vo a0 a1 a2 a3 a4 a5 a6 a7 a8 = some x) : c a0 a1 a2 a3 a4 a5 a6 a7 a8 = true ∧ v a0 a1 a2 a3 a4 a5 a6 a7 a8 = x := Lib.out_ h
theorem b_eq (hc : c a0 a1 a2 a3 a4 a5 a6 a7 a8 = true) : ∃ N, b N kr a0 a1 a2 a3 a4 a5 a6 a7 a8 = (fun p => kr p) (v a0 a1 a2 a3 a4 a5 a6 a7 a8) := ⟨Lib.big, (b_bind Lib.big kr a0 a1 a2 a3 a4 a5 a6 a7 a8).trans (by rw [show b Lib.big (fun r0 => some (r0)) a0 a1 a2 a3 a4 a5 a6 a7 a8 = some (v a0 a1 a2 a3 a4 a5 a6 a7 a8) from Lib.some_ hc]; rfl)⟩
end Go.FG.Pu.spec_ProxyOk

namespace Go.FG.Pu.spec_l16Open
def b {R : Type} (kr : Bool → Option R) (a0 : Int) (a1 a2 a3 a4 : Row) (a5 : Int) (a6 a7 : Row) (a8 a9 : Int) : Option R := bif (Pu.spec_ProxyOk.c a0 a1 a2 a3 a4 a5 a6 a7 a8) then (bif (Pu.spec_ProxyOk.v a0 a1 a2 a3 a4 a5 a6 a7 a8) then (bif (Pu.spec_l01In.v a9 0 (w64 ((↑(List.length a6) : Int) - 1))) then (bif (decide (0 ≤ a9) && decide (a9 < (↑(List.length a6) : Int))) then (kr (decide (cvI (cellAt a6 (Int.toNat a9) 2) = 1))) else (none)) else (kr false)) else (kr false)) else (none)
variable {R : Type} (kr : Bool → Option R) (a0 : Int) (a1 a2 a3 a4 : Row) (a5 : Int) (a6 a7 : Row) (a8 a9 : Int)
theorem b_bind : b kr a0 a1 a2 a3 a4 a5 a6 a7 a8 a9 = Option.bind (b (fun r0 => some (r0)) a0 a1 a2 a3 a4 a5 a6 a7 a8 a9) (fun p => kr p) := by
  unfold b; simp only [Lib.lt_bind, Lib.cond_bind, Lib.some_bind, Lib.none_bind]
def vo : Option (Bool) := b (fun r0 => some (r0)) a0 a1 a2 a3 a4 a5 a6 a7 a8 a9
def c : Bool := Option.isSome (vo a0 a1 a2 a3 a4 a5 a6 a7 a8 a9)
def v : Bool := Option.getD (vo a0 a1 a2 a3 a4 a5 a6 a7 a8 a9) (false)
theorem out {x : Bool} (h : vo a0 a1 a2 a3 a4 a5 a6 a7 a8 a9 = some x) : c a0 a1 a2 a3 a4 a5 a6 a7 a8 a9 = true ∧ v a0 a1 a2 a3 a4 a5 a6 a7 a8 a9 = x := Lib.out_ h
theorem b_eq (hc : c a0 a1 a2 a3 a4 a5 a6 a7 a8 a9 = true) : b kr a0 a1 a2 a3 a4 a5 a6 a7 a8 a9 = (fun p => kr p) (v a0 a1 a2 a3 a4 a5 a6 a7 a8 a9) := (b_bind kr a0 a1 a2 a3 a4 a5 a6 a7 a8 a9).trans (by rw [show b (fun r0 => some (r0)) a0 a1 a2 a3 a4 a5 a6 a7 a8 a9 = some (v a0 a1 a2 a3 a4 a5 a6 a7 a8 a9) from Lib.some_ hc]; rfl)
end Go.FG.Pu.spec_l16Open

namespace Go.FG.Pu.spec_l16Tell
def r1 {R : Type} (N : Nat) (g : Int → Int → Int → Int → Int → Int → Row → Row → Row → Row → Row → Row → Option R) (k0 : Int → Int → Int → Int → Int → Int → Row → Row → Row → Row → Row → Row → Option R) (x0 x1 x2 x3 x4 x5 : Int) (x6 x7 x8 x9 x10 x11 : Row) : Option R := bif (decide (x2 < (↑(List.length x11) : Int))) then (bif (decide (0 ≤ x2) && decide (x2 < (↑(List.length x11) : Int))) then (bif (decide (cvI (cellAt x11 (Int.toNat x2) 2) = w64 (x0 + 1))) then (bif (decide (0 ≤ x2) && decide (x2 < (↑(List.length x11) : Int))) then (bif (decide (cvI (cellAt x11 (Int.toNat x2) 4) = 1)) then (bif (decide (0 ≤ x0) && decide (x0 < (↑(List.length x10) : Int))) then (bif (decide (0 ≤ x2) && decide (x2 < (↑(List.length x11) : Int))) then (bif (decide (0 ≤ x2) && decide (x2 < (↑(List.length (setC x11 (Int.toNat x2) 5 [CV.s (cvS (cellAt x10 (Int.toNat x0) 1))])) : Int))) then (g x0 x1 (w64 (x2 + 1)) x3 x4 x5 x6 x7 x8 x9 x10 (setC (setC x11 (Int.toNat x2) 5 [CV.s (cvS (cellAt x10 (Int.toNat x0) 1))]) (Int.toNat x2) 4 [CV.i IntKind.i64 x1])) else (none)) else (none)) else (none)) else (g x0 x1 (w64 (x2 + 1)) x3 x4 x5 x6 x7 x8 x9 x10 x11)) else (none)) else (g x0 x1 (w64 (x2 + 1)) x3 x4 x5 x6 x7 x8 x9 x10 x11)) else (none)) else (k0 x0 x1 x2 x3 x4 x5 x6 x7 x8 x9 x10 x11)
def l1 {R : Type} (N : Nat) (k0 : Int → Int → Int → Int → Int → Int → Row → Row → Row → Row → Row → Row → Option R) : Nat → Int → Int → Int → Int → Int → Int → Row → Row → Row → Row → Row → Row → Option R
  | 0 => (fun _ _ _ _ _ _ _ _ _ _ _ _ => none)
  | n + 1 => (fun x0 x1 x2 x3 x4 x5 x6 x7 x8 x9 x10 x11 => r1 N (l1 N k0 n) k0 x0 x1 x2 x3 x4 x5 x6 x7 x8 x9 x10 x11)
def b {R : Type} (N : Nat) (kr : Int → Row → Row → Row → Row → Int → Row → Row → Int → Option R) (a0 : Int) (a1 a2 a3 a4 : Row) (a5 : Int) (a6 a7 : Row) (a8 a9 a10 : Int) : Option R := l1 N (fun y12 y13 y14 y15 y16 y17 y18 y19 y20 y21 y22 y23 => kr y15 y18 y19 y20 y21 y16 y22 y23 y17) N a9 a10 0 a0 a5 a8 a1 a2 a3 a4 a6 a7
theorem q1_bind {R S : Type} (f : R → Option S) (N : Nat) (k0 : Int → Int → Int → Int → Int → Int → Row → Row → Row → Row → Row → Row → Option R) : ∀ n : Nat, (∀ (x0 x1 x2 x3 x4 x5 : Int) (x6 x7 x8 x9 x10 x11 : Row), Option.bind (l1 N k0 n x0 x1 x2 x3 x4 x5 x6 x7 x8 x9 x10 x11) f = l1 N (fun y0 y1 y2 y3 y4 y5 y6 y7 y8 y9 y10 y11 => (Option.bind (k0 y0 y1 y2 y3 y4 y5 y6 y7 y8 y9 y10 y11) f)) n x0 x1 x2 x3 x4 x5 x6 x7 x8 x9 x10 x11) := by
  intro n
  induction n with
  | zero => exact (fun _ _ _ _ _ _ _ _ _ _ _ _ => rfl)
  | succ n ih =>
    intro x0 x1 x2 x3 x4 x5 x6 x7 x8 x9 x10 x11
    simp only [l1, r1, Lib.lt_bind, Lib.cond_bind, Lib.some_bind, Lib.none_bind, ih]
variable {R : Type} (N : Nat) (kr : Int → Row → Row → Row → Row → Int → Row → Row → Int → Option R) (a0 : Int) (a1 a2 a3 a4 : Row) (a5 : Int) (a6 a7 : Row) (a8 a9 a10 : Int)
theorem b_bind : b N kr a0 a1 a2 a3 a4 a5 a6 a7 a8 a9 a10 = Option.bind (b N (fun r0 r1 r2 r3 r4 r5 r6 r7 r8 => some (r0, r1, r2, r3, r4, r5, r6, r7, r8)) a0 a1 a2 a3 a4 a5 a6 a7 a8 a9 a10) (fun p => kr p.1 p.2.1 p.2.2.1 p.2.2.2.1 p.2.2.2.2.1 p.2.2.2.2.2.1 p.2.2.2.2.2.2.1 p.2.2.2.2.2.2.2.1 p.2.2.2.2.2.2.2.2) := by
  unfold b; simp only [Lib.lt_bind, Lib.cond_bind, Lib.some_bind, Lib.none_bind, q1_bind]
def vo : Option (Int × Row × Row × Row × Row × Int × Row × Row × Int) := b Lib.big (fun r0 r1 r2 r3 r4 r5 r6 r7 r8 => some (r0, r1, r2, r3, r4, r5, r6, r7, r8)) a0 a1 a2 a3 a4 a5 a6 a7 a8 a9 a10
def c : Bool := Option.isSome (vo a0 a1 a2 a3 a4 a5 a6 a7 a8 a9 a10)
def v : Int × Row × Row × Row × Row × Int × Row × Row × Int := Option.getD (vo a0 a1 a2 a3 a4 a5 a6 a7 a8 a9 a10) (0, [], [], [], [], 0, [], [], 0)
theorem out {x : Int × Row × Row × Row × Row × Int × Row × Row × Int} (h : vo a0 a1 a2 a3 a4 a5 a6 a7 a8 a9 a10 = some x) : c a0 a1 a2 a3 a4 a5 a6 a7 a8 a9 a10 = true ∧ v a0 a1 a2 a3 a4 a5 a6 a7 a8 a9 a10 = x := Lib.out_ h
theorem b_eq (hc : c a0 a1 a2 a3 a4 a5 a6 a7 a8 a9 a10 = true) : ∃ N, b N kr a0 a1 a2 a3 a4 a5 a6 a7 a8 a9 a10 = (fun p => kr p.1 p.2.1 p.2.2.1 p.2.2.2.1 p.2.2.2.2.1 p.2.2.2.2.2.1 p.2.2.2.2.2.2.1 p.2.2.2.2.2.2.2.1 p.2.2.2.2.2.2.2.2) (v a0 a1 a2 a3 a4 a5 a6 a7 a8 a9 a10) := ⟨Lib.big, (b_bind Lib.big kr a0 a1 a2 a3 a4 a5 a6 a7 a8 a9 a10).trans (by rw [show b Lib.big (fun r0 r1 r2 r3 r4 r5 r6 r7 r8 => some (r0, r1, r2, r3, r4, r5, r6, r7, r8)) a0 a1 a2 a3 a4 a5 a6 a7 a8 a9 a10 = some (v a0 a1 a2 a3 a4 a5 a6 a7 a8 a9 a10) from Lib.some_ hc]; rfl)⟩
end Go.FG.Pu.spec_l16Tell

namespace Go.FG.Pu.spec_BreakFetch
def b {R : Type} (kr : Int → Row → Row → Row → Row → Int → Row → Row → Int → Bool → Option R) (a0 : Int) (a1 a2 a3 a4 : Row) (a5 : Int) (a6 a7 : Row) (a8 a9 : Int) : Option R := bif (Pu.spec_l16Copy.c a0 a1 a2 a3 a4 a5 a6 a7 a8) then (Lib.lt (Pu.spec_l16Copy.v a0 a1 a2 a3 a4 a5 a6 a7 a8) (fun t0 => bif (Pu.spec_l16Open.c a0 a1 a2 a3 a4 a5 a6 a7 a8 a9) then (Lib.lt (Pu.spec_l16Open.v a0 a1 a2 a3 a4 a5 a6 a7 a8 a9) (fun t1 => bif (!t1) then (kr t0.1 t0.2.1 t0.2.2.1 t0.2.2.2.1 t0.2.2.2.2.1 t0.2.2.2.2.2.1 t0.2.2.2.2.2.2.1 t0.2.2.2.2.2.2.2.1 t0.2.2.2.2.2.2.2.2 false) else (bif (decide (0 ≤ a9) && decide (a9 < (↑(List.length t0.2.2.2.2.2.2.1) : Int))) then (bif (Pu.spec_l16Tell.c t0.1 t0.2.1 t0.2.2.1 t0.2.2.2.1 t0.2.2.2.2.1 t0.2.2.2.2.2.1 (setC t0.2.2.2.2.2.2.1 (Int.toNat a9) 2 [CV.i IntKind.i64 3]) t0.2.2.2.2.2.2.2.1 t0.2.2.2.2.2.2.2.2 a9 3) then (Lib.lt (Pu.spec_l16Tell.v t0.1 t0.2.1 t0.2.2.1 t0.2.2.2.1 t0.2.2.2.2.1 t0.2.2.2.2.2.1 (setC t0.2.2.2.2.2.2.1 (Int.toNat a9) 2 [CV.i IntKind.i64 3]) t0.2.2.2.2.2.2.2.1 t0.2.2.2.2.2.2.2.2 a9 3) (fun t2 => kr t2.1 t2.2.1 t2.2.2.1 t2.2.2.2.1 t2.2.2.2.2.1 t2.2.2.2.2.2.1 t2.2.2.2.2.2.2.1 t2.2.2.2.2.2.2.2.1 t2.2.2.2.2.2.2.2.2 true)) else (none)) else (none)))) else (none))) else (none)
variable {R : Type} (kr : Int → Row → Row → Row → Row → Int → Row → Row → Int → Bool → Option R) (a0 : Int) (a1 a2 a3 a4 : Row) (a5 : Int) (a6 a7 : Row) (a8 a9 : Int)
theorem b_bind : b kr a0 a1 a2 a3 a4 a5 a6 a7 a8 a9 = Option.bind (b (fun r0 r1 r2 r3 r4 r5 r6 r7 r8 r9 => some (r0, r1, r2, r3, r4, r5, r6, r7, r8, r9)) a0 a1 a2 a3 a4 a5 a6 a7 a8 a9) (fun p => kr p.1 p.2.1 p.2.2.1 p.2.2.2.1 p.2.2.2.2.1 p.2.2.2.2.2.1 p.2.2.2.2.2.2.1 p.2.2.2.2.2.2.2.1 p.2.2.2.2.2.2.2.2.1 p.2.2.2.2.2.2.2.2.2) := by
  unfold b; simp only [Lib.lt_bind, Lib.cond_bind, Lib.some_bind, Lib.none_bind]
def vo : Option (Int × Row × Row × Row × Row × Int × Row × Row × Int × Bool) := b (fun r0 r1 r2 r3 r4 r5 r6 r7 r8 r9 => some (r0, r1, r2, r3, r4, r5, r6, r7, r8, r9)) a0 a1 a2 a3 a4 a5 a6 a7 a8 a9
def c : Bool := Option.isSome (vo a0 a1 a2 a3 a4 a5 a6 a7 a8 a9)
def v : Int × Row × Row × Row × Row × Int × Row × Row × Int × Bool := Option.getD (vo a0 a1 a2 a3 a4 a5 a6 a7 a8 a9) (0, [], [], [], [], 0, [], [], 0, false)
theorem out {x : Int × Row × Row × Row × Row × Int × Row × Row × Int × Bool} (h : vo a0 a1 a2 a3 a4 a5 a6 a7 a8 a9 = some x) : c a0 a1 a2 a3 a4 a5 a6 a7 a8 a9 = true ∧ v a0 a1 a2 a3 a4 a5 a6 a7 a8 a9 = x := Lib.out_ h
theorem b_eq (hc : c a0 a1 a2 a3 a4 a5 a6 a7 a8 a9 = true) : b kr a0 a1 a2 a3 a4 a5 a6 a7 a8 a9 = (fun p => kr p.1 p.2.1 p.2.2.1 p.2.2.2.1 p.2.2.2.2.1 p.2.2.2.2.2.1 p.2.2.2.2.2.2.1 p.2.2.2.2.2.2.2.1 p.2.2.2.2.2.2.2.2.1 p.2.2.2.2.2.2.2.2.2) (v a0 a1 a2 a3 a4 a5 a6 a7 a8 a9) := (b_bind kr a0 a1 a2 a3 a4 a5 a6 a7 a8 a9).trans (by rw [show b (fun r0 r1 r2 r3 r4 r5 r6 r7 r8 r9 => some (r0, r1, r2, r3, r4, r5, r6, r7, r8, r9)) a0 a1 a2 a3 a4 a5 a6 a7 a8 a9 = some (v a0 a1 a2 a3 a4 a5 a6 a7 a8 a9) from Lib.some_ hc]; rfl)
end Go.FG.Pu.spec_BreakFetch

namespace Go.FG.Pu.impl_copyEntries
def b {R : Type} (kr : Row → Option R) (a0 : Row) : Option R := bif (roomy (List.length (zeros [Ck.s, Ck.i IntKind.i64, Ck.i IntKind.i64, Ck.s] 0) + List.length a0) 48) then (kr (zeros [Ck.s, Ck.i IntKind.i64, Ck.i IntKind.i64, Ck.s] 0 ++ a0)) else (none)
variable {R : Type} (kr : Row → Option R) (a0 : Row)
theorem b_bind : b kr a0 = Option.bind (b (fun r0 => some (r0)) a0) (fun p => kr p) := by
  unfold b; simp only [Lib.lt_bind, Lib.cond_bind, Lib.some_bind, Lib.none_bind]
def vo : Option (Row) := b (fun r0 => some (r0)) a0
def c : Bool := Option.isSome (vo a0)
def v : Row := Option.getD (vo a0) ([])
theorem out {x : Row} (h : vo a0 = some x) : c a0 = true ∧ v a0 = x := Lib.out_ h
theorem b_eq (hc : c a0 = true) : b kr a0 = (fun p => kr p) (v a0) := (b_bind kr a0).trans (by rw [show b (fun r0 => some (r0)) a0 = some (v a0) from Lib.some_ hc]; rfl)
end Go.FG.Pu.impl_copyEntries

namespace Go.FG.Pu.impl_copyTexts
def b {R : Type} (kr : Row → Option R) (a0 : Row) : Option R := bif (roomy (List.length (zeros [Ck.s] 0) + List.length a0) 16) then (kr (zeros [Ck.s] 0 ++ a0)) else (none)
variable {R : Type} (kr : Row → Option R) (a0 : Row)
theorem b_bind : b kr a0 = Option.bind (b (fun r0 => some (r0)) a0) (fun p => kr p) := by
  unfold b; simp only [Lib.lt_bind, Lib.cond_bind, Lib.some_bind, Lib.none_bind]
def vo : Option (Row) := b (fun r0 => some (r0)) a0
def c : Bool := Option.isSome (vo a0)
def v : Row := Option.getD (vo a0) ([])
theorem out {x : Row} (h : vo a0 = some x) : c a0 = true ∧ v a0 = x := Lib.out_ h
theorem b_eq (hc : c a0 = true) : b kr a0 = (fun p => kr p) (v a0) := (b_bind kr a0).trans (by rw [show b (fun r0 => some (r0)) a0 = some (v a0) from Lib.some_ hc]; rfl)
end Go.FG.Pu.impl_copyTexts

namespace Go.FG.Pu.impl_copyInts
def b {R : Type} (kr : Row → Option R) (a0 : Row) : Option R := bif (roomy (List.length (zeros [Ck.i IntKind.i64] 0) + List.length a0) 8) then (kr (zeros [Ck.i IntKind.i64] 0 ++ a0)) else (none)
variable {R : Type} (kr : Row → Option R) (a0 : Row)
theorem b_bind : b kr a0 = Option.bind (b (fun r0 => some (r0)) a0) (fun p => kr p) := by
  unfold b; simp only [Lib.lt_bind, Lib.cond_bind, Lib.some_bind, Lib.none_bind]
def vo : Option (Row) := b (fun r0 => some (r0)) a0
def c : Bool := Option.isSome (vo a0)
def v : Row := Option.getD (vo a0) ([])
theorem out {x : Row} (h : vo a0 = some x) : c a0 = true ∧ v a0 = x := Lib.out_ h
theorem b_eq (hc : c a0 = true) : b kr a0 = (fun p => kr p) (v a0) := (b_bind kr a0).trans (by rw [show b (fun r0 => some (r0)) a0 = some (v a0) from Lib.some_ hc]; rfl)
end Go.FG.Pu.impl_copyInts

namespace Go.FG.Pu.impl_copySketch
def r3 {R : Type} (N : Nat) (g : Row → Int → Int → Int → Int → Option R) (g1 : Row → Int → Int → Int → Int → Row → Option R) (k0 : Row → Int → Int → Int → Int → Option R) (k1 : Row → Int → Int → Int → Int → Row → Option R) (x0 : Row) (x1 x2 x3 x4 : Int) : Option R := bif (decide (x2 < x1)) then (bif (decide (0 ≤ x2) && decide (x2 < (↑(List.length x0) : Int))) then (bif (Pu.impl_copyInts.c (cvL (cellAt x0 (Int.toNat x2) 0))) then (g1 x0 x1 (w64 (x2 + 1)) x3 x4 ([] ++ List.set (zeros [Ck.l 3] 1) 0 [CV.l 3 (Pu.impl_copyInts.v (cvL (cellAt x0 (Int.toNat x2) 0)))])) else (none)) else (none)) else (k0 x0 x1 x2 x3 x4)
def r3a {R : Type} (N : Nat) (g : Row → Int → Int → Int → Int → Option R) (g1 : Row → Int → Int → Int → Int → Row → Option R) (k0 : Row → Int → Int → Int → Int → Option R) (k1 : Row → Int → Int → Int → Int → Row → Option R) (x5 : Row) (x6 x7 x8 x9 : Int) (x10 : Row) : Option R := bif (decide (x7 < x6)) then (bif (decide (0 ≤ x7) && decide (x7 < (↑(List.length x5) : Int))) then (bif (Pu.impl_copyInts.c (cvL (cellAt x5 (Int.toNat x7) 0))) then (bif (roomy (List.length x10 + List.length (List.set (zeros [Ck.l 3] 1) 0 [CV.l 3 (Pu.impl_copyInts.v (cvL (cellAt x5 (Int.toNat x7) 0)))])) 24) then (g1 x5 x6 (w64 (x7 + 1)) x8 x9 (x10 ++ List.set (zeros [Ck.l 3] 1) 0 [CV.l 3 (Pu.impl_copyInts.v (cvL (cellAt x5 (Int.toNat x7) 0)))])) else (none)) else (none)) else (none)) else (k1 x5 x6 x7 x8 x9 x10)
def l3a {R : Type} (N : Nat) (k0 : Row → Int → Int → Int → Int → Option R) (k1 : Row → Int → Int → Int → Int → Row → Option R) : Nat → Row → Int → Int → Int → Int → Row → Option R
  | 0 => (fun _ _ _ _ _ _ => none)
  | n + 1 => (fun x5 x6 x7 x8 x9 x10 => r3a N (fun x0 x1 x2 x3 x4 => none) (l3a N k0 k1 n) k0 k1 x5 x6 x7 x8 x9 x10)
def l3 {R : Type} (N : Nat) (k0 : Row → Int → Int → Int → Int → Option R) (k1 : Row → Int → Int → Int → Int → Row → Option R) : Nat → Row → Int → Int → Int → Int → Option R
  | 0 => (fun _ _ _ _ _ => none)
  | n + 1 => (fun x0 x1 x2 x3 x4 => r3 N (l3 N k0 k1 n) (l3a N k0 k1 n) k0 k1 x0 x1 x2 x3 x4)
def b {R : Type} (N : Nat) (kr : Row → Int → Option R) (a0 : Row) (a1 : Int) : Option R := l3 N (fun y22 y23 y24 y25 y26 => kr [] y26) (fun y27 y28 y29 y30 y31 y32 => kr y32 y31) N a0 (↑(List.length a0) : Int) 0 0 a1
theorem q3_bind {R S : Type} (f : R → Option S) (N : Nat) (k0 : Row → Int → Int → Int → Int → Option R) (k1 : Row → Int → Int → Int → Int → Row → Option R) : ∀ n : Nat, (∀ (x0 : Row) (x1 x2 x3 x4 : Int), Option.bind (l3 N k0 k1 n x0 x1 x2 x3 x4) f = l3 N (fun y0 y1 y2 y3 y4 => (Option.bind (k0 y0 y1 y2 y3 y4) f)) (fun y0 y1 y2 y3 y4 y5 => (Option.bind (k1 y0 y1 y2 y3 y4 y5) f)) n x0 x1 x2 x3 x4) ∧ (∀ (x5 : Row) (x6 x7 x8 x9 : Int) (x10 : Row), Option.bind (l3a N k0 k1 n x5 x6 x7 x8 x9 x10) f = l3a N (fun y0 y1 y2 y3 y4 => (Option.bind (k0 y0 y1 y2 y3 y4) f)) (fun y0 y1 y2 y3 y4 y5 => (Option.bind (k1 y0 y1 y2 y3 y4 y5) f)) n x5 x6 x7 x8 x9 x10) := by
  intro n
  induction n with
  | zero => exact ⟨(fun _ _ _ _ _ => rfl), (fun _ _ _ _ _ _ => rfl)⟩
  | succ n ih =>
    refine ⟨?_, ?_⟩
    · intro x0 x1 x2 x3 x4
      simp only [l3, r3, Lib.lt_bind, Lib.cond_bind, Lib.some_bind, Lib.none_bind, ih.1, ih.2]
    · intro x5 x6 x7 x8 x9 x10
      simp only [l3a, r3a, Lib.lt_bind, Lib.cond_bind, Lib.some_bind, Lib.none_bind, ih.1, ih.2]
theorem l3_bind {R S : Type} (f : R → Option S) (N : Nat) (k0 : Row → Int → Int → Int → Int → Option R) (k1 : Row → Int → Int → Int → Int → Row → Option R) (n : Nat) (x0 : Row) (x1 x2 x3 x4 : Int) : Option.bind (l3 N k0 k1 n x0 x1 x2 x3 x4) f = l3 N (fun y0 y1 y2 y3 y4 => (Option.bind (k0 y0 y1 y2 y3 y4) f)) (fun y0 y1 y2 y3 y4 y5 => (Option.bind (k1 y0 y1 y2 y3 y4 y5) f)) n x0 x1 x2 x3 x4 := (q3_bind f N k0 k1 n).1 x0 x1 x2 x3 x4
theorem l3a_bind {R S : Type} (f : R → Option S) (N : Nat) (k0 : Row → Int → Int → Int → Int → Option R) (k1 : Row → Int → Int → Int → Int → Row → Option R) (n : Nat) (x5 : Row) (x6 x7 x8 x9 : Int) (x10 : Row) : Option.bind (l3a N k0 k1 n x5 x6 x7 x8 x9 x10) f = l3a N (fun y0 y1 y2 y3 y4 => (Option.bind (k0 y0 y1 y2 y3 y4) f)) (fun y0 y1 y2 y3 y4 y5 => (Option.bind (k1 y0 y1 y2 y3 y4 y5) f)) n x5 x6 x7 x8 x9 x10 := (q3_bind f N k0 k1 n).2 x5 x6 x7 x8 x9 x10
variable {R : Type} (N : Nat) (kr : Row → Int → Option R) (a0 : Row) (a1 : Int)
theorem b_bind : b N kr a0 a1 = Option.bind (b N (fun r0 r1 => some (r0, r1)) a0 a1) (fun p => kr p.1 p.2) := by
  unfold b; simp only [Lib.lt_bind, Lib.cond_bind, Lib.some_bind, Lib.none_bind, l3_bind, l3a_bind]
def vo : Option (Row × Int) := b Lib.big (fun r0 r1 => some (r0, r1)) a0 a1
def c : Bool := Option.isSome (vo a0 a1)
def v : Row × Int := Option.getD (vo a0 a1) ([], 0)
theorem out {x : Row × Int} (h : vo a0 a1 = some x) : c a0 a1 = true ∧ v a0 a1 = x := Lib.out_ h
theorem b_eq (hc : c a0 a1 = true) : ∃ N, b N kr a0 a1 = (fun p => kr p.1 p.2) (v a0 a1) := ⟨Lib.big, (b_bind Lib.big kr a0 a1).trans (by rw [show b Lib.big (fun r0 r1 => some (r0, r1)) a0 a1 = some (v a0 a1) from Lib.some_ hc]; rfl)⟩
end Go.FG.Pu.impl_copySketch

namespace Go.FG.Pu.impl_copyPolicy
def b {R : Type} (kr : Row → Row → Row → Int → Option R) (a0 a1 a2 : Row) (a3 : Int) : Option R := bif (Pu.impl_copyTexts.c a0) then (bif (Pu.impl_copyTexts.c a1) then (bif (Pu.impl_copySketch.c a2 a3) then (kr (Pu.impl_copyTexts.v a0) (Pu.impl_copyTexts.v a1) ((Pu.impl_copySketch.v a2 a3).1) ((Pu.impl_copySketch.v a2 a3).2)) else (none)) else (none)) else (none)
variable {R : Type} (kr : Row → Row → Row → Int → Option R) (a0 a1 a2 : Row) (a3 : Int)
theorem b_bind : b kr a0 a1 a2 a3 = Option.bind (b (fun r0 r1 r2 r3 => some (r0, r1, r2, r3)) a0 a1 a2 a3) (fun p => kr p.1 p.2.1 p.2.2.1 p.2.2.2) := by
  unfold b; simp only [Lib.lt_bind, Lib.cond_bind, Lib.some_bind, Lib.none_bind]
def vo : Option (Row × Row × Row × Int) := b (fun r0 r1 r2 r3 => some (r0, r1, r2, r3)) a0 a1 a2 a3
def c : Bool := Option.isSome (vo a0 a1 a2 a3)
def v : Row × Row × Row × Int := Option.getD (vo a0 a1 a2 a3) ([], [], [], 0)
theorem out {x : Row × Row × Row × Int} (h : vo a0 a1 a2 a3 = some x) : c a0 a1 a2 a3 = true ∧ v a0 a1 a2 a3 = x := Lib.out_ h
theorem b_eq (hc : c a0 a1 a2 a3 = true) : b kr a0 a1 a2 a3 = (fun p => kr p.1 p.2.1 p.2.2.1 p.2.2.2) (v a0 a1 a2 a3) := (b_bind kr a0 a1 a2 a3).trans (by rw [show b (fun r0 r1 r2 r3 => some (r0, r1, r2, r3)) a0 a1 a2 a3 = some (v a0 a1 a2 a3) from Lib.some_ hc]; rfl)
end Go.FG.Pu.impl_copyPolicy

namespace Go.FG.Pu.impl_copyProxy
def b {R : Type} (kr : Int → Row → Row → Row → Row → Int → Row → Row → Int → Option R) (a0 : Int) (a1 a2 a3 a4 : Row) (a5 : Int) (a6 a7 : Row) (a8 : Int) : Option R := bif (Pu.impl_copyEntries.c a1) then (bif (Pu.impl_copyPolicy.c a2 a3 a4 a5) then (bif (roomy (List.length (zeros [Ck.s, Ck.s, Ck.i IntKind.i64, Ck.i IntKind.i64, Ck.i IntKind.i64] 0) + List.length a6) 56) then (bif (roomy (List.length (zeros [Ck.i IntKind.i64, Ck.s, Ck.i IntKind.i64, Ck.i IntKind.i64, Ck.i IntKind.i64, Ck.s, Ck.i IntKind.i64] 0) + List.length a7) 72) then (kr a0 (Pu.impl_copyEntries.v a1) ((Pu.impl_copyPolicy.v a2 a3 a4 a5).1) ((Pu.impl_copyPolicy.v a2 a3 a4 a5).2.1) ((Pu.impl_copyPolicy.v a2 a3 a4 a5).2.2.1) ((Pu.impl_copyPolicy.v a2 a3 a4 a5).2.2.2) (zeros [Ck.s, Ck.s, Ck.i IntKind.i64, Ck.i IntKind.i64, Ck.i IntKind.i64] 0 ++ a6) (zeros [Ck.i IntKind.i64, Ck.s, Ck.i IntKind.i64, Ck.i IntKind.i64, Ck.i IntKind.i64, Ck.s, Ck.i IntKind.i64] 0 ++ a7) a8) else (none)) else (none)) else (none)) else (none)
variable {R : Type} (kr : Int → Row → Row → Row → Row → Int → Row → Row → Int → Option R) (a0 : Int) (a1 a2 a3 a4 : Row) (a5 : Int) (a6 a7 : Row) (a8 : Int)
theorem b_bind : b kr a0 a1 a2 a3 a4 a5 a6 a7 a8 = Option.bind (b (fun r0 r1 r2 r3 r4 r5 r6 r7 r8 => some (r0, r1, r2, r3, r4, r5, r6, r7, r8)) a0 a1 a2 a3 a4 a5 a6 a7 a8) (fun p => kr p.1 p.2.1 p.2.2.1 p.2.2.2.1 p.2.2.2.2.1 p.2.2.2.2.2.1 p.2.2.2.2.2.2.1 p.2.2.2.2.2.2.2.1 p.2.2.2.2.2.2.2.2) := by
  unfold b; simp only [Lib.lt_bind, Lib.cond_bind, Lib.some_bind, Lib.none_bind]
def vo : Option (Int × Row × Row × Row × Row × Int × Row × Row × Int) := b (fun r0 r1 r2 r3 r4 r5 r6 r7 r8 => some (r0, r1, r2, r3, r4, r5, r6, r7, r8)) a0 a1 a2 a3 a4 a5 a6 a7 a8
def c : Bool := Option.isSome (vo a0 a1 a2 a3 a4 a5 a6 a7 a8)
def v : Int × Row × Row × Row × Row × Int × Row × Row × Int := Option.getD (vo a0 a1 a2 a3 a4 a5 a6 a7 a8) (0, [], [], [], [], 0, [], [], 0)
theorem out {x : Int × Row × Row × Row × Row × Int × Row × Row × Int} (h : vo a0 a1 a2 a3 a4 a5 a6 a7 a8 = some x) : c a0 a1 a2 a3 a4 a5 a6 a7 a8 = true ∧ v a0 a1 a2 a3 a4 a5 a6 a7 a8 = x := Lib.out_ h
theorem b_eq (hc : c a0 a1 a2 a3 a4 a5 a6 a7 a8 = true) : b kr a0 a1 a2 a3 a4 a5 a6 a7 a8 = (fun p => kr p.1 p.2.1 p.2.2.1 p.2.2.2.1 p.2.2.2.2.1 p.2.2.2.2.2.1 p.2.2.2.2.2.2.1 p.2.2.2.2.2.2.2.1 p.2.2.2.2.2.2.2.2) (v a0 a1 a2 a3 a4 a5 a6 a7 a8) := (b_bind kr a0 a1 a2 a3 a4 a5 a6 a7 a8).trans (by rw [show b (fun r0 r1 r2 r3 r4 r5 r6 r7 r8 => some (r0, r1, r2, r3, r4, r5, r6, r7, r8)) a0 a1 a2 a3 a4 a5 a6 a7 a8 = some (v a0 a1 a2 a3 a4 a5 a6 a7 a8) from Lib.some_ hc]; rfl)
end Go.FG.Pu.impl_copyProxy

namespace Go.FG.Pu.impl_within
def b {R : Type} (kr : Bool → Option R) (a0 a1 a2 : Int) : Option R := bif (decide (a0 ≥ a1)) then (kr (decide (a0 ≤ a2))) else (kr false)
def v (a0 a1 a2 : Int) : Bool := bif (decide (a0 ≥ a1)) then (((decide (a0 ≤ a2)))) else ((false))
theorem b_eq {R : Type} (kr : Bool → Option R) (a0 a1 a2 : Int) : b kr a0 a1 a2 = kr (v a0 a1 a2) := by
  first | rfl | (unfold b v; simp only [Bool.cond_eq_ite]; (repeat' split) <;> rfl)
end Go.FG.Pu.impl_within

namespace Go.FG.Pu.impl_isKey
def b {R : Type} (kr : Bool → Option R) (a0 : ByteArray) : Option R := kr (Pu.impl_within.v (↑(ByteArray.size a0) : Int) 1 30)
def v (a0 : ByteArray) : Bool := ((Pu.impl_within.v (↑(ByteArray.size a0) : Int) 1 30))
theorem b_eq {R : Type} (kr : Bool → Option R) (a0 : ByteArray) : b kr a0 = kr (v a0) := by
  first | rfl | (unfold b v; simp only [Bool.cond_eq_ite]; (repeat' split) <;> rfl)
end Go.FG.Pu.impl_isKey

namespace Go.FG.Pu.impl_isNumber
def b {R : Type} (kr : Bool → Option R) (a0 : Int) : Option R := kr (Pu.impl_within.v a0 0 1000000000)
def v (a0 : Int) : Bool := ((Pu.impl_within.v a0 0 1000000000))
theorem b_eq {R : Type} (kr : Bool → Option R) (a0 : Int) : b kr a0 = kr (v a0) := by
  first | rfl | (unfold b v; simp only [Bool.cond_eq_ite]; (repeat' split) <;> rfl)
end Go.FG.Pu.impl_isNumber

namespace Go.FG.Pu.impl_EntryOk
def b {R : Type} (kr : Bool → Option R) (a0 : ByteArray) (a1 a2 : Int) (a3 : ByteArray) : Option R := bif (Pu.impl_isKey.v a0) then (bif (Pu.impl_isNumber.v a1) then (bif (Pu.impl_within.v a2 1 999999) then (kr (decide ((↑(ByteArray.size a3) : Int) ≤ 400))) else (kr false)) else (kr false)) else (kr false)
def v (a0 : ByteArray) (a1 a2 : Int) (a3 : ByteArray) : Bool := bif (Pu.impl_isKey.v a0) then (bif (Pu.impl_isNumber.v a1) then (bif (Pu.impl_within.v a2 1 999999) then (((decide ((↑(ByteArray.size a3) : Int) ≤ 400)))) else ((false))) else ((false))) else ((false))
theorem b_eq {R : Type} (kr : Bool → Option R) (a0 : ByteArray) (a1 a2 : Int) (a3 : ByteArray) : b kr a0 a1 a2 a3 = kr (v a0 a1 a2 a3) := by
  first | rfl | (unfold b v; simp only [Bool.cond_eq_ite]; (repeat' split) <;> rfl)
end Go.FG.Pu.impl_EntryOk

namespace Go.FG.Pu.slices_Grow_string
def b {R : Type} (kr : Row → Option R) (a0 : Int) : Option R := bif (decide (a0 < 0)) then (none) else (bif (decide (w64 (a0 - w64 (0 - 0)) > 0)) then (bif (decide (0 ≤ w64 (a0 - w64 (0 - 0))) && roomy (List.length ([] : Row) + Int.toNat (w64 (a0 - w64 (0 - 0)))) 16 && decide (w64 (a0 - w64 (0 - 0)) ≤ 9223372036854775807)) then (kr (view ([] ++ zeros [Ck.s] (Int.toNat (w64 (a0 - w64 (0 - 0))))) (Int.toNat 0) (Int.toNat 0))) else (none)) else (kr []))
variable {R : Type} (kr : Row → Option R) (a0 : Int)
theorem b_bind : b kr a0 = Option.bind (b (fun r0 => some (r0)) a0) (fun p => kr p) := by
  unfold b; simp only [Lib.lt_bind, Lib.cond_bind, Lib.some_bind, Lib.none_bind]
def vo : Option (Row) := b (fun r0 => some (r0)) a0
def c : Bool := Option.isSome (vo a0)
def v : Row := Option.getD (vo a0) ([])
theorem out {x : Row} (h : vo a0 = some x) : c a0 = true ∧ v a0 = x := Lib.out_ h
theorem b_eq (hc : c a0 = true) : b kr a0 = (fun p => kr p) (v a0) := (b_bind kr a0).trans (by rw [show b (fun r0 => some (r0)) a0 = some (v a0) from Lib.some_ hc]; rfl)
end Go.FG.Pu.slices_Grow_string

namespace Go.FG.Pu.slices_Concat_string
def r11 {R : Type} (N : Nat) (g : Row → Int → Int → Row → Option R) (k0 : Row → Int → Int → Row → Option R) (x10 : Row) (x11 x12 : Int) (x13 : Row) : Option R := bif (decide (x12 < x11)) then (bif (decide (0 ≤ x12) && decide (x12 < (↑(List.length x10) : Int))) then (bif (roomy (List.length x13 + List.length (cvL (cellAt x10 (Int.toNat x12) 0))) 16) then (g x10 x11 (w64 (x12 + 1)) (x13 ++ cvL (cellAt x10 (Int.toNat x12) 0))) else (none)) else (none)) else (k0 x10 x11 x12 x13)
def l11 {R : Type} (N : Nat) (k0 : Row → Int → Int → Row → Option R) : Nat → Row → Int → Int → Row → Option R
  | 0 => (fun _ _ _ _ => none)
  | n + 1 => (fun x10 x11 x12 x13 => r11 N (l11 N k0 n) k0 x10 x11 x12 x13)
def r3 {R : Type} (N : Nat) (g : Row → Int → Row → Int → Int → Option R) (k0 : Row → Int → Row → Int → Int → Option R) (x0 : Row) (x1 : Int) (x2 : Row) (x3 x4 : Int) : Option R := bif (decide (x4 < x3)) then (bif (decide (0 ≤ x4) && decide (x4 < (↑(List.length x2) : Int))) then (bif (decide (w64 (x1 + (↑(List.length (cvL (cellAt x2 (Int.toNat x4) 0))) : Int)) < 0)) then (none) else (g x0 (w64 (x1 + (↑(List.length (cvL (cellAt x2 (Int.toNat x4) 0))) : Int))) x2 x3 (w64 (x4 + 1)))) else (none)) else (k0 x0 x1 x2 x3 x4)
def l3 {R : Type} (N : Nat) (k0 : Row → Int → Row → Int → Int → Option R) : Nat → Row → Int → Row → Int → Int → Option R
  | 0 => (fun _ _ _ _ _ => none)
  | n + 1 => (fun x0 x1 x2 x3 x4 => r3 N (l3 N k0 n) k0 x0 x1 x2 x3 x4)
def b {R : Type} (N : Nat) (kr : Row → Option R) (a0 : Row) : Option R := l3 N (fun y5 y6 y7 y8 y9 => bif (Pu.slices_Grow_string.c y6) then (l11 N (fun y14 y15 y16 y17 => kr y17) N y5 (↑(List.length y5) : Int) 0 (Pu.slices_Grow_string.v y6)) else (none)) N a0 0 a0 (↑(List.length a0) : Int) 0
theorem q11_bind {R S : Type} (f : R → Option S) (N : Nat) (k0 : Row → Int → Int → Row → Option R) : ∀ n : Nat, (∀ (x10 : Row) (x11 x12 : Int) (x13 : Row), Option.bind (l11 N k0 n x10 x11 x12 x13) f = l11 N (fun y0 y1 y2 y3 => (Option.bind (k0 y0 y1 y2 y3) f)) n x10 x11 x12 x13) := by
  intro n
  induction n with
  | zero => exact (fun _ _ _ _ => rfl)
  | succ n ih =>
    intro x10 x11 x12 x13
    simp only [l11, r11, Lib.lt_bind, Lib.cond_bind, Lib.some_bind, Lib.none_bind, ih]
theorem q3_bind {R S : Type} (f : R → Option S) (N : Nat) (k0 : Row → Int → Row → Int → Int → Option R) : ∀ n : Nat, (∀ (x0 : Row) (x1 : Int) (x2 : Row) (x3 x4 : Int), Option.bind (l3 N k0 n x0 x1 x2 x3 x4) f = l3 N (fun y0 y1 y2 y3 y4 => (Option.bind (k0 y0 y1 y2 y3 y4) f)) n x0 x1 x2 x3 x4) := by
  intro n
  induction n with
  | zero => exact (fun _ _ _ _ _ => rfl)
  | succ n ih =>
    intro x0 x1 x2 x3 x4
    simp only [l3, r3, Lib.lt_bind, Lib.cond_bind, Lib.some_bind, Lib.none_bind, ih, q11_bind]
variable {R : Type} (N : Nat) (kr : Row → Option R) (a0 : Row)
theorem b_bind : b N kr a0 = Option.bind (b N (fun r0 => some (r0)) a0) (fun p => kr p) := by
  unfold b; simp only [Lib.lt_bind, Lib.cond_bind, Lib.some_bind, Lib.none_bind, q11_bind, q3_bind]
def vo : Option (Row) := b Lib.big (fun r0 => some (r0)) a0
def c : Bool := Option.isSome (vo a0)
def v : Row := Option.getD (vo a0) ([])
theorem out {x : Row} (h : vo a0 = some x) : c a0 = true ∧ v a0 = x := Lib.out_ h
theorem b_eq (hc : c a0 = true) : ∃ N, b N kr a0 = (fun p => kr p) (v a0) := ⟨Lib.big, (b_bind Lib.big kr a0).trans (by rw [show b Lib.big (fun r0 => some (r0)) a0 = some (v a0) from Lib.some_ hc]; rfl)⟩
end Go.FG.Pu.slices_Concat_string

namespace Go.FG.Pu.impl_keysIn
def b {R : Type} (kr : Row → Option R) (a0 a1 a2 : Row) (a3 : Int) : Option R := bif (Pu.slices_Concat_string.c (List.set (List.set (zeros [Ck.l 9] 2) 0 [CV.l 9 a0]) 1 [CV.l 9 a1])) then (kr (Pu.slices_Concat_string.v (List.set (List.set (zeros [Ck.l 9] 2) 0 [CV.l 9 a0]) 1 [CV.l 9 a1]))) else (none)
variable {R : Type} (kr : Row → Option R) (a0 a1 a2 : Row) (a3 : Int)
theorem b_bind : b kr a0 a1 a2 a3 = Option.bind (b (fun r0 => some (r0)) a0 a1 a2 a3) (fun p => kr p) := by
  unfold b; simp only [Lib.lt_bind, Lib.cond_bind, Lib.some_bind, Lib.none_bind]
def vo : Option (Row) := b (fun r0 => some (r0)) a0 a1 a2 a3
def c : Bool := Option.isSome (vo a0 a1 a2 a3)
def v : Row := Option.getD (vo a0 a1 a2 a3) ([])
theorem out {x : Row} (h : vo a0 a1 a2 a3 = some x) : c a0 a1 a2 a3 = true ∧ v a0 a1 a2 a3 = x := Lib.out_ h
theorem b_eq (hc : c a0 a1 a2 a3 = true) : b kr a0 a1 a2 a3 = (fun p => kr p) (v a0 a1 a2 a3) := (b_bind kr a0 a1 a2 a3).trans (by rw [show b (fun r0 => some (r0)) a0 a1 a2 a3 = some (v a0 a1 a2 a3) from Lib.some_ hc]; rfl)
end Go.FG.Pu.impl_keysIn

namespace Go.FG.Pu.slices_Index_string
def r2 {R : Type} (N : Nat) (g : Row → ByteArray → Int → Int → Int → Option R) (k0 : Row → ByteArray → Int → Int → Int → Option R) (k1 : Row → ByteArray → Int → Int → Int → Option R) (x0 : Row) (x1 : ByteArray) (x2 x3 x4 : Int) : Option R := bif (decide (x4 < x3)) then (bif (decide (0 ≤ x4) && decide (x4 < (↑(List.length x0) : Int))) then (bif (List.beq (ByteArray.toList x1) (ByteArray.toList (cvS (cellAt x0 (Int.toNat x4) 0)))) then (k0 x0 x1 x4 x3 x4) else (g x0 x1 x2 x3 (w64 (x4 + 1)))) else (none)) else (k1 x0 x1 x2 x3 x4)
def l2 {R : Type} (N : Nat) (k0 : Row → ByteArray → Int → Int → Int → Option R) (k1 : Row → ByteArray → Int → Int → Int → Option R) : Nat → Row → ByteArray → Int → Int → Int → Option R
  | 0 => (fun _ _ _ _ _ => none)
  | n + 1 => (fun x0 x1 x2 x3 x4 => r2 N (l2 N k0 k1 n) k0 k1 x0 x1 x2 x3 x4)
def b {R : Type} (N : Nat) (kr : Int → Option R) (a0 : Row) (a1 : ByteArray) : Option R := l2 N (fun y5 y6 y7 y8 y9 => kr y7) (fun y10 y11 y12 y13 y14 => kr (-1)) N a0 a1 0 (↑(List.length a0) : Int) 0
theorem q2_bind {R S : Type} (f : R → Option S) (N : Nat) (k0 : Row → ByteArray → Int → Int → Int → Option R) (k1 : Row → ByteArray → Int → Int → Int → Option R) : ∀ n : Nat, (∀ (x0 : Row) (x1 : ByteArray) (x2 x3 x4 : Int), Option.bind (l2 N k0 k1 n x0 x1 x2 x3 x4) f = l2 N (fun y0 y1 y2 y3 y4 => (Option.bind (k0 y0 y1 y2 y3 y4) f)) (fun y0 y1 y2 y3 y4 => (Option.bind (k1 y0 y1 y2 y3 y4) f)) n x0 x1 x2 x3 x4) := by
  intro n
  induction n with
  | zero => exact (fun _ _ _ _ _ => rfl)
  | succ n ih =>
    intro x0 x1 x2 x3 x4
    simp only [l2, r2, Lib.lt_bind, Lib.cond_bind, Lib.some_bind, Lib.none_bind, ih]
variable {R : Type} (N : Nat) (kr : Int → Option R) (a0 : Row) (a1 : ByteArray)
theorem b_bind : b N kr a0 a1 = Option.bind (b N (fun r0 => some (r0)) a0 a1) (fun p => kr p) := by
  unfold b; simp only [Lib.lt_bind, Lib.cond_bind, Lib.some_bind, Lib.none_bind, q2_bind]
def vo : Option (Int) := b Lib.big (fun r0 => some (r0)) a0 a1
def c : Bool := Option.isSome (vo a0 a1)
def v : Int := Option.getD (vo a0 a1) (0)
theorem out {x : Int} (h : vo a0 a1 = some x) : c a0 a1 = true ∧ v a0 a1 = x := Lib.out_ h
theorem b_eq (hc : c a0 a1 = true) : ∃ N, b N kr a0 a1 = (fun p => kr p) (v a0 a1) := ⟨Lib.big, (b_bind Lib.big kr a0 a1).trans (by rw [show b Lib.big (fun r0 => some (r0)) a0 a1 = some (v a0 a1) from Lib.some_ hc]; rfl)⟩
end Go.FG.Pu.slices_Index_string

namespace Go.FG.Pu.slices_Contains_string
def b {R : Type} (kr : Bool → Option R) (a0 : Row) (a1 : ByteArray) : Option R := bif (Pu.slices_Index_string.c a0 a1) then (kr (decide (Pu.slices_Index_string.v a0 a1 ≥ 0))) else (none)
variable {R : Type} (kr : Bool → Option R) (a0 : Row) (a1 : ByteArray)
theorem b_bind : b kr a0 a1 = Option.bind (b (fun r0 => some (r0)) a0 a1) (fun p => kr p) := by
  unfold b; simp only [Lib.lt_bind, Lib.cond_bind, Lib.some_bind, Lib.none_bind]
def vo : Option (Bool) := b (fun r0 => some (r0)) a0 a1
def c : Bool := Option.isSome (vo a0 a1)
def v : Bool := Option.getD (vo a0 a1) (false)
theorem out {x : Bool} (h : vo a0 a1 = some x) : c a0 a1 = true ∧ v a0 a1 = x := Lib.out_ h
theorem b_eq (hc : c a0 a1 = true) : b kr a0 a1 = (fun p => kr p) (v a0 a1) := (b_bind kr a0 a1).trans (by rw [show b (fun r0 => some (r0)) a0 a1 = some (v a0 a1) from Lib.some_ hc]; rfl)
end Go.FG.Pu.slices_Contains_string

namespace Go.FG.Pu.impl_PolicyHas
def b {R : Type} (kr : Bool → Option R) (a0 a1 a2 : Row) (a3 : Int) (a4 : ByteArray) : Option R := bif (Pu.impl_keysIn.c a0 a1 a2 a3) then (bif (Pu.slices_Contains_string.c (Pu.impl_keysIn.v a0 a1 a2 a3) a4) then (kr (Pu.slices_Contains_string.v (Pu.impl_keysIn.v a0 a1 a2 a3) a4)) else (none)) else (none)
variable {R : Type} (kr : Bool → Option R) (a0 a1 a2 : Row) (a3 : Int) (a4 : ByteArray)
theorem b_bind : b kr a0 a1 a2 a3 a4 = Option.bind (b (fun r0 => some (r0)) a0 a1 a2 a3 a4) (fun p => kr p) := by
  unfold b; simp only [Lib.lt_bind, Lib.cond_bind, Lib.some_bind, Lib.none_bind]
def vo : Option (Bool) := b (fun r0 => some (r0)) a0 a1 a2 a3 a4
def c : Bool := Option.isSome (vo a0 a1 a2 a3 a4)
def v : Bool := Option.getD (vo a0 a1 a2 a3 a4) (false)
theorem out {x : Bool} (h : vo a0 a1 a2 a3 a4 = some x) : c a0 a1 a2 a3 a4 = true ∧ v a0 a1 a2 a3 a4 = x := Lib.out_ h
theorem b_eq (hc : c a0 a1 a2 a3 a4 = true) : b kr a0 a1 a2 a3 a4 = (fun p => kr p) (v a0 a1 a2 a3 a4) := (b_bind kr a0 a1 a2 a3 a4).trans (by rw [show b (fun r0 => some (r0)) a0 a1 a2 a3 a4 = some (v a0 a1 a2 a3 a4) from Lib.some_ hc]; rfl)
end Go.FG.Pu.impl_PolicyHas

namespace Go.FG.Pu.impl_SketchOk
def r5 {R : Type} (N : Nat) (g : Bool → Row → Row → Int → Int → Row → Int → Int → Row → Int → Option R) (k0 : Bool → Row → Row → Int → Int → Row → Int → Int → Row → Int → Option R) (k1 : Bool → Row → Row → Int → Int → Row → Int → Int → Row → Int → Option R) (x6 : Bool) (x7 x8 : Row) (x9 x10 : Int) (x11 : Row) (x12 x13 : Int) (x14 : Row) (x15 : Int) : Option R := bif (decide (x13 < x12)) then (bif (decide (0 ≤ x13) && decide (x13 < (↑(List.length x11) : Int))) then (bif (!Pu.impl_within.v (cvI (cellAt x11 (Int.toNat x13) 0)) 0 15) then (k0 false x7 x8 x9 x10 x11 x12 x13 x14 x15) else (g x6 x7 x8 x9 x10 x11 x12 (w64 (x13 + 1)) x14 x15)) else (none)) else (k1 x6 x7 x8 x9 x10 x11 x12 x13 x14 x15)
def l5 {R : Type} (N : Nat) (k0 : Bool → Row → Row → Int → Int → Row → Int → Int → Row → Int → Option R) (k1 : Bool → Row → Row → Int → Int → Row → Int → Int → Row → Int → Option R) : Nat → Bool → Row → Row → Int → Int → Row → Int → Int → Row → Int → Option R
  | 0 => (fun _ _ _ _ _ _ _ _ _ _ => none)
  | n + 1 => (fun x6 x7 x8 x9 x10 x11 x12 x13 x14 x15 => r5 N (l5 N k0 k1 n) k0 k1 x6 x7 x8 x9 x10 x11 x12 x13 x14 x15)
def r2 {R : Type} (N : Nat) (g : Bool → Row → Int → Int → Row → Int → Option R) (k0 : Bool → Row → Int → Int → Row → Int → Option R) (k1 : Bool → Row → Int → Int → Row → Int → Option R) (x0 : Bool) (x1 : Row) (x2 x3 : Int) (x4 : Row) (x5 : Int) : Option R := bif (decide (x3 < x2)) then (bif (decide (0 ≤ x3) && decide (x3 < (↑(List.length x1) : Int))) then (l5 N (fun y16 y17 y18 y19 y20 y21 y22 y23 y24 y25 => k0 y16 y18 y19 y20 y24 y25) (fun y26 y27 y28 y29 y30 y31 y32 y33 y34 y35 => bif ((↑(List.length y27) : Int) != 16) then (k0 false y28 y29 y30 y34 y35) else (g y26 y28 y29 (w64 (y30 + 1)) y34 y35)) N x0 (cvL (cellAt x1 (Int.toNat x3) 0)) x1 x2 x3 (cvL (cellAt x1 (Int.toNat x3) 0)) (↑(List.length (cvL (cellAt x1 (Int.toNat x3) 0))) : Int) 0 x4 x5) else (none)) else (k1 x0 x1 x2 x3 x4 x5)
def l2 {R : Type} (N : Nat) (k0 : Bool → Row → Int → Int → Row → Int → Option R) (k1 : Bool → Row → Int → Int → Row → Int → Option R) : Nat → Bool → Row → Int → Int → Row → Int → Option R
  | 0 => (fun _ _ _ _ _ _ => none)
  | n + 1 => (fun x0 x1 x2 x3 x4 x5 => r2 N (l2 N k0 k1 n) k0 k1 x0 x1 x2 x3 x4 x5)
def b {R : Type} (N : Nat) (kr : Bool → Option R) (a0 : Row) (a1 : Int) : Option R := l2 N (fun y36 y37 y38 y39 y40 y41 => kr y36) (fun y42 y43 y44 y45 y46 y47 => bif (decide ((↑(List.length y46) : Int) = 3)) then (kr (Pu.impl_within.v y47 0 63)) else (kr false)) N false a0 (↑(List.length a0) : Int) 0 a0 a1
theorem q5_bind {R S : Type} (f : R → Option S) (N : Nat) (k0 : Bool → Row → Row → Int → Int → Row → Int → Int → Row → Int → Option R) (k1 : Bool → Row → Row → Int → Int → Row → Int → Int → Row → Int → Option R) : ∀ n : Nat, (∀ (x6 : Bool) (x7 x8 : Row) (x9 x10 : Int) (x11 : Row) (x12 x13 : Int) (x14 : Row) (x15 : Int), Option.bind (l5 N k0 k1 n x6 x7 x8 x9 x10 x11 x12 x13 x14 x15) f = l5 N (fun y0 y1 y2 y3 y4 y5 y6 y7 y8 y9 => (Option.bind (k0 y0 y1 y2 y3 y4 y5 y6 y7 y8 y9) f)) (fun y0 y1 y2 y3 y4 y5 y6 y7 y8 y9 => (Option.bind (k1 y0 y1 y2 y3 y4 y5 y6 y7 y8 y9) f)) n x6 x7 x8 x9 x10 x11 x12 x13 x14 x15) := by
  intro n
  induction n with
  | zero => exact (fun _ _ _ _ _ _ _ _ _ _ => rfl)
  | succ n ih =>
    intro x6 x7 x8 x9 x10 x11 x12 x13 x14 x15
    simp only [l5, r5, Lib.lt_bind, Lib.cond_bind, Lib.some_bind, Lib.none_bind, ih]
theorem q2_bind {R S : Type} (f : R → Option S) (N : Nat) (k0 : Bool → Row → Int → Int → Row → Int → Option R) (k1 : Bool → Row → Int → Int → Row → Int → Option R) : ∀ n : Nat, (∀ (x0 : Bool) (x1 : Row) (x2 x3 : Int) (x4 : Row) (x5 : Int), Option.bind (l2 N k0 k1 n x0 x1 x2 x3 x4 x5) f = l2 N (fun y0 y1 y2 y3 y4 y5 => (Option.bind (k0 y0 y1 y2 y3 y4 y5) f)) (fun y0 y1 y2 y3 y4 y5 => (Option.bind (k1 y0 y1 y2 y3 y4 y5) f)) n x0 x1 x2 x3 x4 x5) := by
  intro n
  induction n with
  | zero => exact (fun _ _ _ _ _ _ => rfl)
  | succ n ih =>
    intro x0 x1 x2 x3 x4 x5
    simp only [l2, r2, Lib.lt_bind, Lib.cond_bind, Lib.some_bind, Lib.none_bind, ih, q5_bind]
variable {R : Type} (N : Nat) (kr : Bool → Option R) (a0 : Row) (a1 : Int)
theorem b_bind : b N kr a0 a1 = Option.bind (b N (fun r0 => some (r0)) a0 a1) (fun p => kr p) := by
  unfold b; simp only [Lib.lt_bind, Lib.cond_bind, Lib.some_bind, Lib.none_bind, q5_bind, q2_bind]
def vo : Option (Bool) := b Lib.big (fun r0 => some (r0)) a0 a1
def c : Bool := Option.isSome (vo a0 a1)
def v : Bool := Option.getD (vo a0 a1) (false)
theorem out {x : Bool} (h : vo a0 a1 = some x) : c a0 a1 = true ∧ v a0 a1 = x := Lib.out_ h
theorem b_eq (hc : c a0 a1 = true) : ∃ N, b N kr a0 a1 = (fun p => kr p) (v a0 a1) := ⟨Lib.big, (b_bind Lib.big kr a0 a1).trans (by rw [show b Lib.big (fun r0 => some (r0)) a0 a1 = some (v a0 a1) from Lib.some_ hc]; rfl)⟩
end Go.FG.Pu.impl_SketchOk

namespace Go.FG.Pu.impl_PolicyOk
def r3 {R : Type} (N : Nat) (g : Bool → Int → Int → Row → Row → Row → Int → Row → Option R) (k0 : Bool → Int → Int → Row → Row → Row → Int → Row → Option R) (k1 : Bool → Int → Int → Row → Row → Row → Int → Row → Option R) (x0 : Bool) (x1 x2 : Int) (x3 x4 x5 : Row) (x6 : Int) (x7 : Row) : Option R := bif (decide (x2 < x1)) then (bif (decide (0 ≤ x2) && decide (x2 < (↑(List.length x7) : Int))) then (bif (!Pu.impl_isKey.v (cvS (cellAt x7 (Int.toNat x2) 0))) then (k0 false x1 x2 x3 x4 x5 x6 x7) else (bif (inB 0 x2 (↑(List.length x7) : Int)) then (bif (Pu.slices_Contains_string.c (view x7 (Int.toNat 0) (Int.toNat x2)) (cvS (cellAt x7 (Int.toNat x2) 0))) then (bif (Pu.slices_Contains_string.v (view x7 (Int.toNat 0) (Int.toNat x2)) (cvS (cellAt x7 (Int.toNat x2) 0))) then (k0 false x1 x2 x3 x4 x5 x6 x7) else (g x0 x1 (w64 (x2 + 1)) x3 x4 x5 x6 x7)) else (none)) else (none))) else (none)) else (k1 x0 x1 x2 x3 x4 x5 x6 x7)
def l3 {R : Type} (N : Nat) (k0 : Bool → Int → Int → Row → Row → Row → Int → Row → Option R) (k1 : Bool → Int → Int → Row → Row → Row → Int → Row → Option R) : Nat → Bool → Int → Int → Row → Row → Row → Int → Row → Option R
  | 0 => (fun _ _ _ _ _ _ _ _ => none)
  | n + 1 => (fun x0 x1 x2 x3 x4 x5 x6 x7 => r3 N (l3 N k0 k1 n) k0 k1 x0 x1 x2 x3 x4 x5 x6 x7)
def b {R : Type} (N : Nat) (kr : Bool → Option R) (a0 a1 a2 : Row) (a3 : Int) : Option R := bif (Pu.impl_keysIn.c a0 a1 a2 a3) then (l3 N (fun y8 y9 y10 y11 y12 y13 y14 y15 => kr y8) (fun y16 y17 y18 y19 y20 y21 y22 y23 => bif (decide ((↑(List.length y19) : Int) ≤ 2)) then (bif (decide ((↑(List.length y20) : Int) ≤ 4)) then (bif (Pu.impl_SketchOk.c y21 y22) then (kr (Pu.impl_SketchOk.v y21 y22)) else (none)) else (kr false)) else (kr false)) N false (↑(List.length (Pu.impl_keysIn.v a0 a1 a2 a3)) : Int) 0 a0 a1 a2 a3 (Pu.impl_keysIn.v a0 a1 a2 a3)) else (none)
theorem q3_bind {R S : Type} (f : R → Option S) (N : Nat) (k0 : Bool → Int → Int → Row → Row → Row → Int → Row → Option R) (k1 : Bool → Int → Int → Row → Row → Row → Int → Row → Option R) : ∀ n : Nat, (∀ (x0 : Bool) (x1 x2 : Int) (x3 x4 x5 : Row) (x6 : Int) (x7 : Row), Option.bind (l3 N k0 k1 n x0 x1 x2 x3 x4 x5 x6 x7) f = l3 N (fun y0 y1 y2 y3 y4 y5 y6 y7 => (Option.bind (k0 y0 y1 y2 y3 y4 y5 y6 y7) f)) (fun y0 y1 y2 y3 y4 y5 y6 y7 => (Option.bind (k1 y0 y1 y2 y3 y4 y5 y6 y7) f)) n x0 x1 x2 x3 x4 x5 x6 x7) := by
  intro n
  induction n with
  | zero => exact (fun _ _ _ _ _ _ _ _ => rfl)
  | succ n ih =>
    intro x0 x1 x2 x3 x4 x5 x6 x7
    simp only [l3, r3, Lib.lt_bind, Lib.cond_bind, Lib.some_bind, Lib.none_bind, ih]
variable {R : Type} (N : Nat) (kr : Bool → Option R) (a0 a1 a2 : Row) (a3 : Int)
theorem b_bind : b N kr a0 a1 a2 a3 = Option.bind (b N (fun r0 => some (r0)) a0 a1 a2 a3) (fun p => kr p) := by
  unfold b; simp only [Lib.lt_bind, Lib.cond_bind, Lib.some_bind, Lib.none_bind, q3_bind]
def vo : Option (Bool) := b Lib.big (fun r0 => some (r0)) a0 a1 a2 a3
def c : Bool := Option.isSome (vo a0 a1 a2 a3)
def v : Bool := Option.getD (vo a0 a1 a2 a3) (false)
theorem out {x : Bool} (h : vo a0 a1 a2 a3 = some x) : c a0 a1 a2 a3 = true ∧ v a0 a1 a2 a3 = x := Lib.out_ h
theorem b_eq (hc : c a0 a1 a2 a3 = true) : ∃ N, b N kr a0 a1 a2 a3 = (fun p => kr p) (v a0 a1 a2 a3) := ⟨Lib.big, (b_bind Lib.big kr a0 a1 a2 a3).trans (by rw [show b Lib.big (fun r0 => some (r0)) a0 a1 a2 a3 = some (v a0 a1 a2 a3) from Lib.some_ hc]; rfl)⟩
end Go.FG.Pu.impl_PolicyOk

namespace Go.FG.Pu.impl_entriesOk
def r2 {R : Type} (N : Nat) (g : Bool → Row → Int → Int → Int → Row → Row → Row → Row → Int → Row → Row → Int → Option R) (k0 : Bool → Row → Int → Int → Int → Row → Row → Row → Row → Int → Row → Row → Int → Option R) (k1 : Bool → Row → Int → Int → Int → Row → Row → Row → Row → Int → Row → Row → Int → Option R) (x0 : Bool) (x1 : Row) (x2 x3 x4 : Int) (x5 x6 x7 x8 : Row) (x9 : Int) (x10 x11 : Row) (x12 : Int) : Option R := bif (decide (x3 < x2)) then (bif (decide (0 ≤ x3) && decide (x3 < (↑(List.length x1) : Int))) then (bif (!Pu.impl_EntryOk.v (cvS (cellAt x1 (Int.toNat x3) 0)) (cvI (cellAt x1 (Int.toNat x3) 1)) (cvI (cellAt x1 (Int.toNat x3) (1 + 1))) (cvS (cellAt x1 (Int.toNat x3) (1 + 1 + 1)))) then (k0 false x1 x2 x3 x4 x5 x6 x7 x8 x9 x10 x11 x12) else (bif (decide (x3 > 0)) then (bif (decide (0 ≤ w64 (x3 - 1)) && decide (w64 (x3 - 1) < (↑(List.length x5) : Int))) then (bif (!Go.Op.bytesLess (ByteArray.toList (cvS (cellAt x5 (Int.toNat (w64 (x3 - 1))) 0))) (ByteArray.toList (cvS (cellAt x1 (Int.toNat x3) 0)))) then (k0 false x1 x2 x3 x4 x5 x6 x7 x8 x9 x10 x11 x12) else (bif (Pu.impl_PolicyHas.c x6 x7 x8 x9 (cvS (cellAt x1 (Int.toNat x3) 0))) then (bif (!Pu.impl_PolicyHas.v x6 x7 x8 x9 (cvS (cellAt x1 (Int.toNat x3) 0))) then (k0 false x1 x2 x3 x4 x5 x6 x7 x8 x9 x10 x11 x12) else (g x0 x1 x2 (w64 (x3 + 1)) x4 x5 x6 x7 x8 x9 x10 x11 x12)) else (none))) else (none)) else (bif (Pu.impl_PolicyHas.c x6 x7 x8 x9 (cvS (cellAt x1 (Int.toNat x3) 0))) then (bif (!Pu.impl_PolicyHas.v x6 x7 x8 x9 (cvS (cellAt x1 (Int.toNat x3) 0))) then (k0 false x1 x2 x3 x4 x5 x6 x7 x8 x9 x10 x11 x12) else (g x0 x1 x2 (w64 (x3 + 1)) x4 x5 x6 x7 x8 x9 x10 x11 x12)) else (none)))) else (none)) else (k1 x0 x1 x2 x3 x4 x5 x6 x7 x8 x9 x10 x11 x12)
def l2 {R : Type} (N : Nat) (k0 : Bool → Row → Int → Int → Int → Row → Row → Row → Row → Int → Row → Row → Int → Option R) (k1 : Bool → Row → Int → Int → Int → Row → Row → Row → Row → Int → Row → Row → Int → Option R) : Nat → Bool → Row → Int → Int → Int → Row → Row → Row → Row → Int → Row → Row → Int → Option R
  | 0 => (fun _ _ _ _ _ _ _ _ _ _ _ _ _ => none)
  | n + 1 => (fun x0 x1 x2 x3 x4 x5 x6 x7 x8 x9 x10 x11 x12 => r2 N (l2 N k0 k1 n) k0 k1 x0 x1 x2 x3 x4 x5 x6 x7 x8 x9 x10 x11 x12)
def b {R : Type} (N : Nat) (kr : Bool → Option R) (a0 : Int) (a1 a2 a3 a4 : Row) (a5 : Int) (a6 a7 : Row) (a8 : Int) : Option R := l2 N (fun y13 y14 y15 y16 y17 y18 y19 y20 y21 y22 y23 y24 y25 => kr y13) (fun y26 y27 y28 y29 y30 y31 y32 y33 y34 y35 y36 y37 y38 => bif (Pu.impl_PolicyOk.c y32 y33 y34 y35) then (bif (Pu.impl_PolicyOk.v y32 y33 y34 y35) then (bif (Pu.impl_keysIn.c y32 y33 y34 y35) then (kr (decide ((↑(List.length (Pu.impl_keysIn.v y32 y33 y34 y35)) : Int) = (↑(List.length y31) : Int)))) else (none)) else (kr false)) else (none)) N false a1 (↑(List.length a1) : Int) 0 a0 a1 a2 a3 a4 a5 a6 a7 a8
theorem q2_bind {R S : Type} (f : R → Option S) (N : Nat) (k0 : Bool → Row → Int → Int → Int → Row → Row → Row → Row → Int → Row → Row → Int → Option R) (k1 : Bool → Row → Int → Int → Int → Row → Row → Row → Row → Int → Row → Row → Int → Option R) : ∀ n : Nat, (∀ (x0 : Bool) (x1 : Row) (x2 x3 x4 : Int) (x5 x6 x7 x8 : Row) (x9 : Int) (x10 x11 : Row) (x12 : Int), Option.bind (l2 N k0 k1 n x0 x1 x2 x3 x4 x5 x6 x7 x8 x9 x10 x11 x12) f = l2 N (fun y0 y1 y2 y3 y4 y5 y6 y7 y8 y9 y10 y11 y12 => (Option.bind (k0 y0 y1 y2 y3 y4 y5 y6 y7 y8 y9 y10 y11 y12) f)) (fun y0 y1 y2 y3 y4 y5 y6 y7 y8 y9 y10 y11 y12 => (Option.bind (k1 y0 y1 y2 y3 y4 y5 y6 y7 y8 y9 y10 y11 y12) f)) n x0 x1 x2 x3 x4 x5 x6 x7 x8 x9 x10 x11 x12) := by
  intro n
  induction n with
  | zero => exact (fun _ _ _ _ _ _ _ _ _ _ _ _ _ => rfl)
  | succ n ih =>
    intro x0 x1 x2 x3 x4 x5 x6 x7 x8 x9 x10 x11 x12
    simp only [l2, r2, Lib.lt_bind, Lib.cond_bind, Lib.some_bind, Lib.none_bind, ih]
variable {R : Type} (N : Nat) (kr : Bool → Option R) (a0 : Int) (a1 a2 a3 a4 : Row) (a5 : Int) (a6 a7 : Row) (a8 : Int)
theorem b_bind : b N kr a0 a1 a2 a3 a4 a5 a6 a7 a8 = Option.bind (b N (fun r0 => some (r0)) a0 a1 a2 a3 a4 a5 a6 a7 a8) (fun p => kr p) := by
  unfold b; simp only [Lib.lt_bind, Lib.cond_bind, Lib.some_bind, Lib.none_bind, q2_bind]
def vo : Option (Bool) := b Lib.big (fun r0 => some (r0)) a0 a1 a2 a3 a4 a5 a6 a7 a8
def c : Bool := Option.isSome (vo a0 a1 a2 a3 a4 a5 a6 a7 a8)
def v : Bool := Option.getD (vo a0 a1 a2 a3 a4 a5 a6 a7 a8) (false)
theorem out {x : Bool} (h : vo a0 a1 a2 a3 a4 a5 a6 a7 a8 = some x) : c a0 a1 a2 a3 a4 a5 a6 a7 a8 = true ∧ v a0 a1 a2 a3 a4 a5 a6 a7 a8 = x := Lib.out_ h
theorem b_eq (hc : c a0 a1 a2 a3 a4 a5 a6 a7 a8 = true) : ∃ N, b N kr a0 a1 a2 a3 a4 a5 a6 a7 a8 = (fun p => kr p) (v a0 a1 a2 a3 a4 a5 a6 a7 a8) := ⟨Lib.big, (b_bind Lib.big kr a0 a1 a2 a3 a4 a5 a6 a7 a8).trans (by rw [show b Lib.big (fun r0 => some (r0)) a0 a1 a2 a3 a4 a5 a6 a7 a8 = some (v a0 a1 a2 a3 a4 a5 a6 a7 a8) from Lib.some_ hc]; rfl)⟩
end Go.FG.Pu.impl_entriesOk

namespace Go.FG.Pu.impl_openFor_1
def b {R : Type} (kr : Bool → Option R) (a0 a1 : ByteArray) (a2 a3 a4 : Int) (key1 : ByteArray) : Option R := bif (List.beq (ByteArray.toList a0) (ByteArray.toList key1)) then (kr (decide (a2 = 1))) else (kr false)
def v (a0 a1 : ByteArray) (a2 a3 a4 : Int) (key1 : ByteArray) : Bool := bif (List.beq (ByteArray.toList a0) (ByteArray.toList key1)) then (((decide (a2 = 1)))) else ((false))
theorem b_eq {R : Type} (kr : Bool → Option R) (a0 a1 : ByteArray) (a2 a3 a4 : Int) (key1 : ByteArray) : b kr a0 a1 a2 a3 a4 key1 = kr (v a0 a1 a2 a3 a4 key1) := by
  first | rfl | (unfold b v; simp only [Bool.cond_eq_ite]; (repeat' split) <;> rfl)
end Go.FG.Pu.impl_openFor_1

namespace Go.FG.Pu.slices_IndexFunc_Fetch
def r2 {R : Type} (N : Nat) (g : Row → ByteArray → Int → Int → Int → Option R) (k0 : Row → ByteArray → Int → Int → Int → Option R) (k1 : Row → ByteArray → Int → Int → Int → Option R) (x0 : Row) (x1 : ByteArray) (x2 x3 x4 : Int) : Option R := bif (decide (x4 < x3)) then (bif (decide (0 ≤ x4) && decide (x4 < (↑(List.length x0) : Int))) then (bif (Pu.impl_openFor_1.v (cvS (cellAt x0 (Int.toNat x4) 0)) (cvS (cellAt x0 (Int.toNat x4) 1)) (cvI (cellAt x0 (Int.toNat x4) (1 + 1))) (cvI (cellAt x0 (Int.toNat x4) (1 + 1 + 1))) (cvI (cellAt x0 (Int.toNat x4) (1 + 1 + 1 + 1))) x1) then (k0 x0 x1 x4 x3 x4) else (g x0 x1 x2 x3 (w64 (x4 + 1)))) else (none)) else (k1 x0 x1 x2 x3 x4)
def l2 {R : Type} (N : Nat) (k0 : Row → ByteArray → Int → Int → Int → Option R) (k1 : Row → ByteArray → Int → Int → Int → Option R) : Nat → Row → ByteArray → Int → Int → Int → Option R
  | 0 => (fun _ _ _ _ _ => none)
  | n + 1 => (fun x0 x1 x2 x3 x4 => r2 N (l2 N k0 k1 n) k0 k1 x0 x1 x2 x3 x4)
def b {R : Type} (N : Nat) (kr : Int → Option R) (a0 : Row) (key1 : ByteArray) : Option R := l2 N (fun y5 y6 y7 y8 y9 => kr y7) (fun y10 y11 y12 y13 y14 => kr (-1)) N a0 key1 0 (↑(List.length a0) : Int) 0
theorem q2_bind {R S : Type} (f : R → Option S) (N : Nat) (k0 : Row → ByteArray → Int → Int → Int → Option R) (k1 : Row → ByteArray → Int → Int → Int → Option R) : ∀ n : Nat, (∀ (x0 : Row) (x1 : ByteArray) (x2 x3 x4 : Int), Option.bind (l2 N k0 k1 n x0 x1 x2 x3 x4) f = l2 N (fun y0 y1 y2 y3 y4 => (Option.bind (k0 y0 y1 y2 y3 y4) f)) (fun y0 y1 y2 y3 y4 => (Option.bind (k1 y0 y1 y2 y3 y4) f)) n x0 x1 x2 x3 x4) := by
  intro n
  induction n with
  | zero => exact (fun _ _ _ _ _ => rfl)
  | succ n ih =>
    intro x0 x1 x2 x3 x4
    simp only [l2, r2, Lib.lt_bind, Lib.cond_bind, Lib.some_bind, Lib.none_bind, ih]
variable {R : Type} (N : Nat) (kr : Int → Option R) (a0 : Row) (key1 : ByteArray)
theorem b_bind : b N kr a0 key1 = Option.bind (b N (fun r0 => some (r0)) a0 key1) (fun p => kr p) := by
  unfold b; simp only [Lib.lt_bind, Lib.cond_bind, Lib.some_bind, Lib.none_bind, q2_bind]
def vo : Option (Int) := b Lib.big (fun r0 => some (r0)) a0 key1
def c : Bool := Option.isSome (vo a0 key1)
def v : Int := Option.getD (vo a0 key1) (0)
theorem out {x : Int} (h : vo a0 key1 = some x) : c a0 key1 = true ∧ v a0 key1 = x := Lib.out_ h
theorem b_eq (hc : c a0 key1 = true) : ∃ N, b N kr a0 key1 = (fun p => kr p) (v a0 key1) := ⟨Lib.big, (b_bind Lib.big kr a0 key1).trans (by rw [show b Lib.big (fun r0 => some (r0)) a0 key1 = some (v a0 key1) from Lib.some_ hc]; rfl)⟩
end Go.FG.Pu.slices_IndexFunc_Fetch

namespace Go.FG.Pu.impl_openFor
def b {R : Type} (kr : Int → Option R) (a0 : Int) (a1 a2 a3 a4 : Row) (a5 : Int) (a6 a7 : Row) (a8 : Int) (a9 : ByteArray) : Option R := bif (Pu.slices_IndexFunc_Fetch.c a6 a9) then (kr (Pu.slices_IndexFunc_Fetch.v a6 a9)) else (none)
variable {R : Type} (kr : Int → Option R) (a0 : Int) (a1 a2 a3 a4 : Row) (a5 : Int) (a6 a7 : Row) (a8 : Int) (a9 : ByteArray)
theorem b_bind : b kr a0 a1 a2 a3 a4 a5 a6 a7 a8 a9 = Option.bind (b (fun r0 => some (r0)) a0 a1 a2 a3 a4 a5 a6 a7 a8 a9) (fun p => kr p) := by
  unfold b; simp only [Lib.lt_bind, Lib.cond_bind, Lib.some_bind, Lib.none_bind]
def vo : Option (Int) := b (fun r0 => some (r0)) a0 a1 a2 a3 a4 a5 a6 a7 a8 a9
def c : Bool := Option.isSome (vo a0 a1 a2 a3 a4 a5 a6 a7 a8 a9)
def v : Int := Option.getD (vo a0 a1 a2 a3 a4 a5 a6 a7 a8 a9) (0)
theorem out {x : Int} (h : vo a0 a1 a2 a3 a4 a5 a6 a7 a8 a9 = some x) : c a0 a1 a2 a3 a4 a5 a6 a7 a8 a9 = true ∧ v a0 a1 a2 a3 a4 a5 a6 a7 a8 a9 = x := Lib.out_ h
theorem b_eq (hc : c a0 a1 a2 a3 a4 a5 a6 a7 a8 a9 = true) : b kr a0 a1 a2 a3 a4 a5 a6 a7 a8 a9 = (fun p => kr p) (v a0 a1 a2 a3 a4 a5 a6 a7 a8 a9) := (b_bind kr a0 a1 a2 a3 a4 a5 a6 a7 a8 a9).trans (by rw [show b (fun r0 => some (r0)) a0 a1 a2 a3 a4 a5 a6 a7 a8 a9 = some (v a0 a1 a2 a3 a4 a5 a6 a7 a8 a9) from Lib.some_ hc]; rfl)
end Go.FG.Pu.impl_openFor

namespace Go.FG.Pu.impl_OneEach
def r2 {R : Type} (N : Nat) (g : Bool → Row → Int → Int → Int → Row → Row → Row → Row → Int → Row → Row → Int → Option R) (k0 : Bool → Row → Int → Int → Int → Row → Row → Row → Row → Int → Row → Row → Int → Option R) (k1 : Bool → Row → Int → Int → Int → Row → Row → Row → Row → Int → Row → Row → Int → Option R) (x0 : Bool) (x1 : Row) (x2 x3 x4 : Int) (x5 x6 x7 x8 : Row) (x9 : Int) (x10 x11 : Row) (x12 : Int) : Option R := bif (decide (x3 < x2)) then (bif (decide (0 ≤ x3) && decide (x3 < (↑(List.length x1) : Int))) then (bif (decide (cvI (cellAt x1 (Int.toNat x3) (1 + 1)) = 1)) then (bif (Pu.impl_openFor.c x4 x5 x6 x7 x8 x9 x10 x11 x12 (cvS (cellAt x1 (Int.toNat x3) 0))) then (bif (Pu.impl_openFor.v x4 x5 x6 x7 x8 x9 x10 x11 x12 (cvS (cellAt x1 (Int.toNat x3) 0)) != x3) then (k0 false x1 x2 x3 x4 x5 x6 x7 x8 x9 x10 x11 x12) else (g x0 x1 x2 (w64 (x3 + 1)) x4 x5 x6 x7 x8 x9 x10 x11 x12)) else (none)) else (g x0 x1 x2 (w64 (x3 + 1)) x4 x5 x6 x7 x8 x9 x10 x11 x12)) else (none)) else (k1 x0 x1 x2 x3 x4 x5 x6 x7 x8 x9 x10 x11 x12)
def l2 {R : Type} (N : Nat) (k0 : Bool → Row → Int → Int → Int → Row → Row → Row → Row → Int → Row → Row → Int → Option R) (k1 : Bool → Row → Int → Int → Int → Row → Row → Row → Row → Int → Row → Row → Int → Option R) : Nat → Bool → Row → Int → Int → Int → Row → Row → Row → Row → Int → Row → Row → Int → Option R
  | 0 => (fun _ _ _ _ _ _ _ _ _ _ _ _ _ => none)
  | n + 1 => (fun x0 x1 x2 x3 x4 x5 x6 x7 x8 x9 x10 x11 x12 => r2 N (l2 N k0 k1 n) k0 k1 x0 x1 x2 x3 x4 x5 x6 x7 x8 x9 x10 x11 x12)
def b {R : Type} (N : Nat) (kr : Bool → Option R) (a0 : Int) (a1 a2 a3 a4 : Row) (a5 : Int) (a6 a7 : Row) (a8 : Int) : Option R := l2 N (fun y13 y14 y15 y16 y17 y18 y19 y20 y21 y22 y23 y24 y25 => kr y13) (fun y26 y27 y28 y29 y30 y31 y32 y33 y34 y35 y36 y37 y38 => kr true) N false a6 (↑(List.length a6) : Int) 0 a0 a1 a2 a3 a4 a5 a6 a7 a8
theorem q2_bind {R S : Type} (f : R → Option S) (N : Nat) (k0 : Bool → Row → Int → Int → Int → Row → Row → Row → Row → Int → Row → Row → Int → Option R) (k1 : Bool → Row → Int → Int → Int → Row → Row → Row → Row → Int → Row → Row → Int → Option R) : ∀ n : Nat, (∀ (x0 : Bool) (x1 : Row) (x2 x3 x4 : Int) (x5 x6 x7 x8 : Row) (x9 : Int) (x10 x11 : Row) (x12 : Int), Option.bind (l2 N k0 k1 n x0 x1 x2 x3 x4 x5 x6 x7 x8 x9 x10 x11 x12) f = l2 N (fun y0 y1 y2 y3 y4 y5 y6 y7 y8 y9 y10 y11 y12 => (Option.bind (k0 y0 y1 y2 y3 y4 y5 y6 y7 y8 y9 y10 y11 y12) f)) (fun y0 y1 y2 y3 y4 y5 y6 y7 y8 y9 y10 y11 y12 => (Option.bind (k1 y0 y1 y2 y3 y4 y5 y6 y7 y8 y9 y10 y11 y12) f)) n x0 x1 x2 x3 x4 x5 x6 x7 x8 x9 x10 x11 x12) := by
  intro n
  induction n with
  | zero => exact (fun _ _ _ _ _ _ _ _ _ _ _ _ _ => rfl)
  | succ n ih =>
    intro x0 x1 x2 x3 x4 x5 x6 x7 x8 x9 x10 x11 x12
    simp only [l2, r2, Lib.lt_bind, Lib.cond_bind, Lib.some_bind, Lib.none_bind, ih]
variable {R : Type} (N : Nat) (kr : Bool → Option R) (a0 : Int) (a1 a2 a3 a4 : Row) (a5 : Int) (a6 a7 : Row) (a8 : Int)
theorem b_bind : b N kr a0 a1 a2 a3 a4 a5 a6 a7 a8 = Option.bind (b N (fun r0 => some (r0)) a0 a1 a2 a3 a4 a5 a6 a7 a8) (fun p => kr p) := by
  unfold b; simp only [Lib.lt_bind, Lib.cond_bind, Lib.some_bind, Lib.none_bind, q2_bind]
def vo : Option (Bool) := b Lib.big (fun r0 => some (r0)) a0 a1 a2 a3 a4 a5 a6 a7 a8
def c : Bool := Option.isSome (vo a0 a1 a2 a3 a4 a5 a6 a7 a8)
def v : Bool := Option.getD (vo a0 a1 a2 a3 a4 a5 a6 a7 a8) (false)
theorem out {x : Bool} (h : vo a0 a1 a2 a3 a4 a5 a6 a7 a8 = some x) : c a0 a1 a2 a3 a4 a5 a6 a7 a8 = true ∧ v a0 a1 a2 a3 a4 a5 a6 a7 a8 = x := Lib.out_ h
theorem b_eq (hc : c a0 a1 a2 a3 a4 a5 a6 a7 a8 = true) : ∃ N, b N kr a0 a1 a2 a3 a4 a5 a6 a7 a8 = (fun p => kr p) (v a0 a1 a2 a3 a4 a5 a6 a7 a8) := ⟨Lib.big, (b_bind Lib.big kr a0 a1 a2 a3 a4 a5 a6 a7 a8).trans (by rw [show b Lib.big (fun r0 => some (r0)) a0 a1 a2 a3 a4 a5 a6 a7 a8 = some (v a0 a1 a2 a3 a4 a5 a6 a7 a8) from Lib.some_ hc]; rfl)⟩
end Go.FG.Pu.impl_OneEach

namespace Go.FG.Pu.impl_fetchesOk
def r2 {R : Type} (N : Nat) (g : Bool → Row → Int → Int → Int → Row → Row → Row → Row → Int → Row → Row → Int → Option R) (k0 : Bool → Row → Int → Int → Int → Row → Row → Row → Row → Int → Row → Row → Int → Option R) (k1 : Bool → Row → Int → Int → Int → Row → Row → Row → Row → Int → Row → Row → Int → Option R) (x0 : Bool) (x1 : Row) (x2 x3 x4 : Int) (x5 x6 x7 x8 : Row) (x9 : Int) (x10 x11 : Row) (x12 : Int) : Option R := bif (decide (x3 < x2)) then (bif (decide (0 ≤ x3) && decide (x3 < (↑(List.length x1) : Int))) then (bif (!Pu.impl_isKey.v (cvS (cellAt x1 (Int.toNat x3) 0))) then (k0 false x1 x2 x3 x4 x5 x6 x7 x8 x9 x10 x11 x12) else (bif (decide ((↑(ByteArray.size (cvS (cellAt x1 (Int.toNat x3) 1))) : Int) > 400)) then (k0 false x1 x2 x3 x4 x5 x6 x7 x8 x9 x10 x11 x12) else (bif (!Pu.impl_within.v (cvI (cellAt x1 (Int.toNat x3) (1 + 1))) 1 3) then (k0 false x1 x2 x3 x4 x5 x6 x7 x8 x9 x10 x11 x12) else (bif (!Pu.impl_within.v (cvI (cellAt x1 (Int.toNat x3) (1 + 1 + 1))) 0 999999) then (k0 false x1 x2 x3 x4 x5 x6 x7 x8 x9 x10 x11 x12) else (bif (!Pu.impl_within.v (cvI (cellAt x1 (Int.toNat x3) (1 + 1 + 1 + 1))) 0 x4) then (k0 false x1 x2 x3 x4 x5 x6 x7 x8 x9 x10 x11 x12) else (g x0 x1 x2 (w64 (x3 + 1)) x4 x5 x6 x7 x8 x9 x10 x11 x12)))))) else (none)) else (k1 x0 x1 x2 x3 x4 x5 x6 x7 x8 x9 x10 x11 x12)
def l2 {R : Type} (N : Nat) (k0 : Bool → Row → Int → Int → Int → Row → Row → Row → Row → Int → Row → Row → Int → Option R) (k1 : Bool → Row → Int → Int → Int → Row → Row → Row → Row → Int → Row → Row → Int → Option R) : Nat → Bool → Row → Int → Int → Int → Row → Row → Row → Row → Int → Row → Row → Int → Option R
  | 0 => (fun _ _ _ _ _ _ _ _ _ _ _ _ _ => none)
  | n + 1 => (fun x0 x1 x2 x3 x4 x5 x6 x7 x8 x9 x10 x11 x12 => r2 N (l2 N k0 k1 n) k0 k1 x0 x1 x2 x3 x4 x5 x6 x7 x8 x9 x10 x11 x12)
def b {R : Type} (N : Nat) (kr : Bool → Option R) (a0 : Int) (a1 a2 a3 a4 : Row) (a5 : Int) (a6 a7 : Row) (a8 : Int) : Option R := l2 N (fun y13 y14 y15 y16 y17 y18 y19 y20 y21 y22 y23 y24 y25 => kr y13) (fun y26 y27 y28 y29 y30 y31 y32 y33 y34 y35 y36 y37 y38 => bif (decide ((↑(List.length y36) : Int) ≤ 20)) then (bif (Pu.impl_OneEach.c y30 y31 y32 y33 y34 y35 y36 y37 y38) then (kr (Pu.impl_OneEach.v y30 y31 y32 y33 y34 y35 y36 y37 y38)) else (none)) else (kr false)) N false a6 (↑(List.length a6) : Int) 0 a0 a1 a2 a3 a4 a5 a6 a7 a8
theorem q2_bind {R S : Type} (f : R → Option S) (N : Nat) (k0 : Bool → Row → Int → Int → Int → Row → Row → Row → Row → Int → Row → Row → Int → Option R) (k1 : Bool → Row → Int → Int → Int → Row → Row → Row → Row → Int → Row → Row → Int → Option R) : ∀ n : Nat, (∀ (x0 : Bool) (x1 : Row) (x2 x3 x4 : Int) (x5 x6 x7 x8 : Row) (x9 : Int) (x10 x11 : Row) (x12 : Int), Option.bind (l2 N k0 k1 n x0 x1 x2 x3 x4 x5 x6 x7 x8 x9 x10 x11 x12) f = l2 N (fun y0 y1 y2 y3 y4 y5 y6 y7 y8 y9 y10 y11 y12 => (Option.bind (k0 y0 y1 y2 y3 y4 y5 y6 y7 y8 y9 y10 y11 y12) f)) (fun y0 y1 y2 y3 y4 y5 y6 y7 y8 y9 y10 y11 y12 => (Option.bind (k1 y0 y1 y2 y3 y4 y5 y6 y7 y8 y9 y10 y11 y12) f)) n x0 x1 x2 x3 x4 x5 x6 x7 x8 x9 x10 x11 x12) := by
  intro n
  induction n with
  | zero => exact (fun _ _ _ _ _ _ _ _ _ _ _ _ _ => rfl)
  | succ n ih =>
    intro x0 x1 x2 x3 x4 x5 x6 x7 x8 x9 x10 x11 x12
    simp only [l2, r2, Lib.lt_bind, Lib.cond_bind, Lib.some_bind, Lib.none_bind, ih]
variable {R : Type} (N : Nat) (kr : Bool → Option R) (a0 : Int) (a1 a2 a3 a4 : Row) (a5 : Int) (a6 a7 : Row) (a8 : Int)
theorem b_bind : b N kr a0 a1 a2 a3 a4 a5 a6 a7 a8 = Option.bind (b N (fun r0 => some (r0)) a0 a1 a2 a3 a4 a5 a6 a7 a8) (fun p => kr p) := by
  unfold b; simp only [Lib.lt_bind, Lib.cond_bind, Lib.some_bind, Lib.none_bind, q2_bind]
def vo : Option (Bool) := b Lib.big (fun r0 => some (r0)) a0 a1 a2 a3 a4 a5 a6 a7 a8
def c : Bool := Option.isSome (vo a0 a1 a2 a3 a4 a5 a6 a7 a8)
def v : Bool := Option.getD (vo a0 a1 a2 a3 a4 a5 a6 a7 a8) (false)
theorem out {x : Bool} (h : vo a0 a1 a2 a3 a4 a5 a6 a7 a8 = some x) : c a0 a1 a2 a3 a4 a5 a6 a7 a8 = true ∧ v a0 a1 a2 a3 a4 a5 a6 a7 a8 = x := Lib.out_ h
theorem b_eq (hc : c a0 a1 a2 a3 a4 a5 a6 a7 a8 = true) : ∃ N, b N kr a0 a1 a2 a3 a4 a5 a6 a7 a8 = (fun p => kr p) (v a0 a1 a2 a3 a4 a5 a6 a7 a8) := ⟨Lib.big, (b_bind Lib.big kr a0 a1 a2 a3 a4 a5 a6 a7 a8).trans (by rw [show b Lib.big (fun r0 => some (r0)) a0 a1 a2 a3 a4 a5 a6 a7 a8 = some (v a0 a1 a2 a3 a4 a5 a6 a7 a8) from Lib.some_ hc]; rfl)⟩
end Go.FG.Pu.impl_fetchesOk

namespace Go.FG.Pu.impl_clientsOk
def r2 {R : Type} (N : Nat) (g : Bool → Row → Int → Int → Int → Row → Row → Row → Row → Int → Row → Row → Int → Option R) (k0 : Bool → Row → Int → Int → Int → Row → Row → Row → Row → Int → Row → Row → Int → Option R) (k1 : Bool → Row → Int → Int → Int → Row → Row → Row → Row → Int → Row → Row → Int → Option R) (x0 : Bool) (x1 : Row) (x2 x3 x4 : Int) (x5 x6 x7 x8 : Row) (x9 : Int) (x10 x11 : Row) (x12 : Int) : Option R := bif (decide (x3 < x2)) then (bif (decide (0 ≤ x3) && decide (x3 < (↑(List.length x1) : Int))) then (bif (!Pu.impl_within.v (cvI (cellAt x1 (Int.toNat x3) 0)) 1 9) then (k0 false x1 x2 x3 x4 x5 x6 x7 x8 x9 x10 x11 x12) else (bif (decide (x3 > 0)) then (bif (decide (0 ≤ w64 (x3 - 1)) && decide (w64 (x3 - 1) < (↑(List.length x11) : Int))) then (bif (decide (cvI (cellAt x11 (Int.toNat (w64 (x3 - 1))) 0) ≥ cvI (cellAt x1 (Int.toNat x3) 0))) then (k0 false x1 x2 x3 x4 x5 x6 x7 x8 x9 x10 x11 x12) else (bif (!Pu.impl_isKey.v (cvS (cellAt x1 (Int.toNat x3) 1))) then (k0 false x1 x2 x3 x4 x5 x6 x7 x8 x9 x10 x11 x12) else (bif (!Pu.impl_within.v (cvI (cellAt x1 (Int.toNat x3) (1 + 1 + 1 + 1))) 1 3) then (k0 false x1 x2 x3 x4 x5 x6 x7 x8 x9 x10 x11 x12) else (bif (!Pu.impl_within.v (cvI (cellAt x1 (Int.toNat x3) (1 + 1))) 0 (↑(List.length x10) : Int)) then (k0 false x1 x2 x3 x4 x5 x6 x7 x8 x9 x10 x11 x12) else (bif (decide ((↑(ByteArray.size (cvS (cellAt x1 (Int.toNat x3) (1 + 1 + 1 + 1 + 1)))) : Int) > 400)) then (k0 false x1 x2 x3 x4 x5 x6 x7 x8 x9 x10 x11 x12) else (bif (!Pu.impl_within.v (cvI (cellAt x1 (Int.toNat x3) (1 + 1 + 1))) 0 x4) then (k0 false x1 x2 x3 x4 x5 x6 x7 x8 x9 x10 x11 x12) else (bif (decide (cvI (cellAt x1 (Int.toNat x3) (1 + 1 + 1 + 1 + 1 + 1)) < 0)) then (k0 false x1 x2 x3 x4 x5 x6 x7 x8 x9 x10 x11 x12) else (g x0 x1 x2 (w64 (x3 + 1)) x4 x5 x6 x7 x8 x9 x10 x11 x12)))))))) else (none)) else (bif (!Pu.impl_isKey.v (cvS (cellAt x1 (Int.toNat x3) 1))) then (k0 false x1 x2 x3 x4 x5 x6 x7 x8 x9 x10 x11 x12) else (bif (!Pu.impl_within.v (cvI (cellAt x1 (Int.toNat x3) (1 + 1 + 1 + 1))) 1 3) then (k0 false x1 x2 x3 x4 x5 x6 x7 x8 x9 x10 x11 x12) else (bif (!Pu.impl_within.v (cvI (cellAt x1 (Int.toNat x3) (1 + 1))) 0 (↑(List.length x10) : Int)) then (k0 false x1 x2 x3 x4 x5 x6 x7 x8 x9 x10 x11 x12) else (bif (decide ((↑(ByteArray.size (cvS (cellAt x1 (Int.toNat x3) (1 + 1 + 1 + 1 + 1)))) : Int) > 400)) then (k0 false x1 x2 x3 x4 x5 x6 x7 x8 x9 x10 x11 x12) else (bif (!Pu.impl_within.v (cvI (cellAt x1 (Int.toNat x3) (1 + 1 + 1))) 0 x4) then (k0 false x1 x2 x3 x4 x5 x6 x7 x8 x9 x10 x11 x12) else (bif (decide (cvI (cellAt x1 (Int.toNat x3) (1 + 1 + 1 + 1 + 1 + 1)) < 0)) then (k0 false x1 x2 x3 x4 x5 x6 x7 x8 x9 x10 x11 x12) else (g x0 x1 x2 (w64 (x3 + 1)) x4 x5 x6 x7 x8 x9 x10 x11 x12))))))))) else (none)) else (k1 x0 x1 x2 x3 x4 x5 x6 x7 x8 x9 x10 x11 x12)
def l2 {R : Type} (N : Nat) (k0 : Bool → Row → Int → Int → Int → Row → Row → Row → Row → Int → Row → Row → Int → Option R) (k1 : Bool → Row → Int → Int → Int → Row → Row → Row → Row → Int → Row → Row → Int → Option R) : Nat → Bool → Row → Int → Int → Int → Row → Row → Row → Row → Int → Row → Row → Int → Option R
  | 0 => (fun _ _ _ _ _ _ _ _ _ _ _ _ _ => none)
  | n + 1 => (fun x0 x1 x2 x3 x4 x5 x6 x7 x8 x9 x10 x11 x12 => r2 N (l2 N k0 k1 n) k0 k1 x0 x1 x2 x3 x4 x5 x6 x7 x8 x9 x10 x11 x12)
def b {R : Type} (N : Nat) (kr : Bool → Option R) (a0 : Int) (a1 a2 a3 a4 : Row) (a5 : Int) (a6 a7 : Row) (a8 : Int) : Option R := l2 N (fun y13 y14 y15 y16 y17 y18 y19 y20 y21 y22 y23 y24 y25 => kr y13) (fun y26 y27 y28 y29 y30 y31 y32 y33 y34 y35 y36 y37 y38 => kr (decide ((↑(List.length y37) : Int) ≤ 6))) N false a7 (↑(List.length a7) : Int) 0 a0 a1 a2 a3 a4 a5 a6 a7 a8
theorem q2_bind {R S : Type} (f : R → Option S) (N : Nat) (k0 : Bool → Row → Int → Int → Int → Row → Row → Row → Row → Int → Row → Row → Int → Option R) (k1 : Bool → Row → Int → Int → Int → Row → Row → Row → Row → Int → Row → Row → Int → Option R) : ∀ n : Nat, (∀ (x0 : Bool) (x1 : Row) (x2 x3 x4 : Int) (x5 x6 x7 x8 : Row) (x9 : Int) (x10 x11 : Row) (x12 : Int), Option.bind (l2 N k0 k1 n x0 x1 x2 x3 x4 x5 x6 x7 x8 x9 x10 x11 x12) f = l2 N (fun y0 y1 y2 y3 y4 y5 y6 y7 y8 y9 y10 y11 y12 => (Option.bind (k0 y0 y1 y2 y3 y4 y5 y6 y7 y8 y9 y10 y11 y12) f)) (fun y0 y1 y2 y3 y4 y5 y6 y7 y8 y9 y10 y11 y12 => (Option.bind (k1 y0 y1 y2 y3 y4 y5 y6 y7 y8 y9 y10 y11 y12) f)) n x0 x1 x2 x3 x4 x5 x6 x7 x8 x9 x10 x11 x12) := by
  intro n
  induction n with
  | zero => exact (fun _ _ _ _ _ _ _ _ _ _ _ _ _ => rfl)
  | succ n ih =>
    intro x0 x1 x2 x3 x4 x5 x6 x7 x8 x9 x10 x11 x12
    simp only [l2, r2, Lib.lt_bind, Lib.cond_bind, Lib.some_bind, Lib.none_bind, ih]
variable {R : Type} (N : Nat) (kr : Bool → Option R) (a0 : Int) (a1 a2 a3 a4 : Row) (a5 : Int) (a6 a7 : Row) (a8 : Int)
theorem b_bind : b N kr a0 a1 a2 a3 a4 a5 a6 a7 a8 = Option.bind (b N (fun r0 => some (r0)) a0 a1 a2 a3 a4 a5 a6 a7 a8) (fun p => kr p) := by
  unfold b; simp only [Lib.lt_bind, Lib.cond_bind, Lib.some_bind, Lib.none_bind, q2_bind]
def vo : Option (Bool) := b Lib.big (fun r0 => some (r0)) a0 a1 a2 a3 a4 a5 a6 a7 a8
def c : Bool := Option.isSome (vo a0 a1 a2 a3 a4 a5 a6 a7 a8)
def v : Bool := Option.getD (vo a0 a1 a2 a3 a4 a5 a6 a7 a8) (false)
theorem out {x : Bool} (h : vo a0 a1 a2 a3 a4 a5 a6 a7 a8 = some x) : c a0 a1 a2 a3 a4 a5 a6 a7 a8 = true ∧ v a0 a1 a2 a3 a4 a5 a6 a7 a8 = x := Lib.out_ h
theorem b_eq (hc : c a0 a1 a2 a3 a4 a5 a6 a7 a8 = true) : ∃ N, b N kr a0 a1 a2 a3 a4 a5 a6 a7 a8 = (fun p => kr p) (v a0 a1 a2 a3 a4 a5 a6 a7 a8) := ⟨Lib.big, (b_bind Lib.big kr a0 a1 a2 a3 a4 a5 a6 a7 a8).trans (by rw [show b Lib.big (fun r0 => some (r0)) a0 a1 a2 a3 a4 a5 a6 a7 a8 = some (v a0 a1 a2 a3 a4 a5 a6 a7 a8) from Lib.some_ hc]; rfl)⟩
end Go.FG.Pu.impl_clientsOk

namespace Go.FG.Pu.impl_ProxyOk
def b {R : Type} (kr : Bool → Option R) (a0 : Int) (a1 a2 a3 a4 : Row) (a5 : Int) (a6 a7 : Row) (a8 : Int) : Option R := bif (Pu.impl_within.v a0 1 1000000000) then (bif (Pu.impl_entriesOk.c a0 a1 a2 a3 a4 a5 a6 a7 a8) then (bif (Pu.impl_entriesOk.v a0 a1 a2 a3 a4 a5 a6 a7 a8) then (bif (Pu.impl_fetchesOk.c a0 a1 a2 a3 a4 a5 a6 a7 a8) then (bif (Pu.impl_fetchesOk.v a0 a1 a2 a3 a4 a5 a6 a7 a8) then (bif (Pu.impl_clientsOk.c a0 a1 a2 a3 a4 a5 a6 a7 a8) then (bif (Pu.impl_clientsOk.v a0 a1 a2 a3 a4 a5 a6 a7 a8) then (kr (Pu.impl_isNumber.v a8)) else (kr false)) else (none)) else (kr false)) else (none)) else (kr false)) else (none)) else (kr false)
variable {R : Type} (kr : Bool → Option R) (a0 : Int) (a1 a2 a3 a4 : Row) (a5 : Int) (a6 a7 : Row) (a8 : Int)
theorem b_bind : b kr a0 a1 a2 a3 a4 a5 a6 a7 a8 = Option.bind (b (fun r0 => some (r0)) a0 a1 a2 a3 a4 a5 a6 a7 a8) (fun p => kr p) := by
  unfold b; simp only [Lib.lt_bind, Lib.cond_bind, Lib.some_bind, Lib.none_bind]
def vo : Option (Bool) := b (fun r0 => some (r0)) a0 a1 a2 a3 a4 a5 a6 a7 a8
def c : Bool := Option.isSome (vo a0 a1 a2 a3 a4 a5 a6 a7 a8)
def v : Bool := Option.getD (vo a0 a1 a2 a3 a4 a5 a6 a7 a8) (false)
theorem out {x : Bool} (h : vo a0 a1 a2 a3 a4 a5 a6 a7 a8 = some x) : c a0 a1 a2 a3 a4 a5 a6 a7 a8 = true ∧ v a0 a1 a2 a3 a4 a5 a6 a7 a8 = x := Lib.out_ h
theorem b_eq (hc : c a0 a1 a2 a3 a4 a5 a6 a7 a8 = true) : b kr a0 a1 a2 a3 a4 a5 a6 a7 a8 = (fun p => kr p) (v a0 a1 a2 a3 a4 a5 a6 a7 a8) := (b_bind kr a0 a1 a2 a3 a4 a5 a6 a7 a8).trans (by rw [show b (fun r0 => some (r0)) a0 a1 a2 a3 a4 a5 a6 a7 a8 = some (v a0 a1 a2 a3 a4 a5 a6 a7 a8) from Lib.some_ hc]; rfl)
end Go.FG.Pu.impl_ProxyOk

namespace Go.FG.Pu.impl_hasFetch
def b {R : Type} (kr : Bool → Option R) (a0 : Int) (a1 a2 a3 a4 : Row) (a5 : Int) (a6 a7 : Row) (a8 a9 : Int) : Option R := bif (Pu.impl_ProxyOk.c a0 a1 a2 a3 a4 a5 a6 a7 a8) then (bif (Pu.impl_ProxyOk.v a0 a1 a2 a3 a4 a5 a6 a7 a8) then (kr (Pu.impl_within.v a9 0 (w64 ((↑(List.length a6) : Int) - 1)))) else (kr false)) else (none)
variable {R : Type} (kr : Bool → Option R) (a0 : Int) (a1 a2 a3 a4 : Row) (a5 : Int) (a6 a7 : Row) (a8 a9 : Int)
theorem b_bind : b kr a0 a1 a2 a3 a4 a5 a6 a7 a8 a9 = Option.bind (b (fun r0 => some (r0)) a0 a1 a2 a3 a4 a5 a6 a7 a8 a9) (fun p => kr p) := by
  unfold b; simp only [Lib.lt_bind, Lib.cond_bind, Lib.some_bind, Lib.none_bind]
def vo : Option (Bool) := b (fun r0 => some (r0)) a0 a1 a2 a3 a4 a5 a6 a7 a8 a9
def c : Bool := Option.isSome (vo a0 a1 a2 a3 a4 a5 a6 a7 a8 a9)
def v : Bool := Option.getD (vo a0 a1 a2 a3 a4 a5 a6 a7 a8 a9) (false)
theorem out {x : Bool} (h : vo a0 a1 a2 a3 a4 a5 a6 a7 a8 a9 = some x) : c a0 a1 a2 a3 a4 a5 a6 a7 a8 a9 = true ∧ v a0 a1 a2 a3 a4 a5 a6 a7 a8 a9 = x := Lib.out_ h
theorem b_eq (hc : c a0 a1 a2 a3 a4 a5 a6 a7 a8 a9 = true) : b kr a0 a1 a2 a3 a4 a5 a6 a7 a8 a9 = (fun p => kr p) (v a0 a1 a2 a3 a4 a5 a6 a7 a8 a9) := (b_bind kr a0 a1 a2 a3 a4 a5 a6 a7 a8 a9).trans (by rw [show b (fun r0 => some (r0)) a0 a1 a2 a3 a4 a5 a6 a7 a8 a9 = some (v a0 a1 a2 a3 a4 a5 a6 a7 a8 a9) from Lib.some_ hc]; rfl)
end Go.FG.Pu.impl_hasFetch

namespace Go.FG.Pu.impl_Proxy__end
def r1 {R : Type} (N : Nat) (g : Int → Int → Int → Int → Int → Int → Int → Row → Row → Row → Row → Row → Row → Option R) (k0 : Int → Int → Int → Int → Int → Int → Int → Row → Row → Row → Row → Row → Row → Option R) (x0 x1 x2 x3 x4 x5 x6 : Int) (x7 x8 x9 x10 x11 x12 : Row) : Option R := bif (decide (x3 < x2)) then (bif (decide (0 ≤ x3) && decide (x3 < (↑(List.length x7) : Int))) then (bif (decide (cvI (cellAt x7 (Int.toNat x3) (1 + 1)) = w64 (x0 + 1))) then (bif (decide (cvI (cellAt x7 (Int.toNat x3) (1 + 1 + 1 + 1)) = 1)) then (bif (decide (0 ≤ x0) && decide (x0 < (↑(List.length x12) : Int))) then (bif (decide (0 ≤ x3) && decide (x3 < (↑(List.length x7) : Int))) then (bif (decide (0 ≤ x3) && decide (x3 < (↑(List.length (setC x7 (Int.toNat x3) 4 [CV.i IntKind.i64 x1])) : Int))) then (g x0 x1 x2 (w64 (x3 + 1)) x4 x5 x6 (setC (setC x7 (Int.toNat x3) 4 [CV.i IntKind.i64 x1]) (Int.toNat x3) 5 [CV.s (cvS (cellAt x12 (Int.toNat x0) 1))]) x8 x9 x10 x11 x12) else (none)) else (none)) else (none)) else (g x0 x1 x2 (w64 (x3 + 1)) x4 x5 x6 x7 x8 x9 x10 x11 x12)) else (g x0 x1 x2 (w64 (x3 + 1)) x4 x5 x6 x7 x8 x9 x10 x11 x12)) else (none)) else (k0 x0 x1 x2 x3 x4 x5 x6 x7 x8 x9 x10 x11 x12)
def l1 {R : Type} (N : Nat) (k0 : Int → Int → Int → Int → Int → Int → Int → Row → Row → Row → Row → Row → Row → Option R) : Nat → Int → Int → Int → Int → Int → Int → Int → Row → Row → Row → Row → Row → Row → Option R
  | 0 => (fun _ _ _ _ _ _ _ _ _ _ _ _ _ => none)
  | n + 1 => (fun x0 x1 x2 x3 x4 x5 x6 x7 x8 x9 x10 x11 x12 => r1 N (l1 N k0 n) k0 x0 x1 x2 x3 x4 x5 x6 x7 x8 x9 x10 x11 x12)
def b {R : Type} (N : Nat) (kr : Int → Row → Row → Row → Row → Int → Row → Row → Int → Option R) (a0 : Int) (a1 a2 a3 a4 : Row) (a5 : Int) (a6 a7 : Row) (a8 a9 a10 : Int) : Option R := l1 N (fun y13 y14 y15 y16 y17 y18 y19 y20 y21 y22 y23 y24 y25 => kr y17 y21 y22 y23 y24 y18 y25 y20 y19) N a9 a10 (↑(List.length a7) : Int) 0 a0 a5 a8 a7 a1 a2 a3 a4 a6
theorem q1_bind {R S : Type} (f : R → Option S) (N : Nat) (k0 : Int → Int → Int → Int → Int → Int → Int → Row → Row → Row → Row → Row → Row → Option R) : ∀ n : Nat, (∀ (x0 x1 x2 x3 x4 x5 x6 : Int) (x7 x8 x9 x10 x11 x12 : Row), Option.bind (l1 N k0 n x0 x1 x2 x3 x4 x5 x6 x7 x8 x9 x10 x11 x12) f = l1 N (fun y0 y1 y2 y3 y4 y5 y6 y7 y8 y9 y10 y11 y12 => (Option.bind (k0 y0 y1 y2 y3 y4 y5 y6 y7 y8 y9 y10 y11 y12) f)) n x0 x1 x2 x3 x4 x5 x6 x7 x8 x9 x10 x11 x12) := by
  intro n
  induction n with
  | zero => exact (fun _ _ _ _ _ _ _ _ _ _ _ _ _ => rfl)
  | succ n ih =>
    intro x0 x1 x2 x3 x4 x5 x6 x7 x8 x9 x10 x11 x12
    simp only [l1, r1, Lib.lt_bind, Lib.cond_bind, Lib.some_bind, Lib.none_bind, ih]
variable {R : Type} (N : Nat) (kr : Int → Row → Row → Row → Row → Int → Row → Row → Int → Option R) (a0 : Int) (a1 a2 a3 a4 : Row) (a5 : Int) (a6 a7 : Row) (a8 a9 a10 : Int)
theorem b_bind : b N kr a0 a1 a2 a3 a4 a5 a6 a7 a8 a9 a10 = Option.bind (b N (fun r0 r1 r2 r3 r4 r5 r6 r7 r8 => some (r0, r1, r2, r3, r4, r5, r6, r7, r8)) a0 a1 a2 a3 a4 a5 a6 a7 a8 a9 a10) (fun p => kr p.1 p.2.1 p.2.2.1 p.2.2.2.1 p.2.2.2.2.1 p.2.2.2.2.2.1 p.2.2.2.2.2.2.1 p.2.2.2.2.2.2.2.1 p.2.2.2.2.2.2.2.2) := by
  unfold b; simp only [Lib.lt_bind, Lib.cond_bind, Lib.some_bind, Lib.none_bind, q1_bind]
def vo : Option (Int × Row × Row × Row × Row × Int × Row × Row × Int) := b Lib.big (fun r0 r1 r2 r3 r4 r5 r6 r7 r8 => some (r0, r1, r2, r3, r4, r5, r6, r7, r8)) a0 a1 a2 a3 a4 a5 a6 a7 a8 a9 a10
def c : Bool := Option.isSome (vo a0 a1 a2 a3 a4 a5 a6 a7 a8 a9 a10)
def v : Int × Row × Row × Row × Row × Int × Row × Row × Int := Option.getD (vo a0 a1 a2 a3 a4 a5 a6 a7 a8 a9 a10) (0, [], [], [], [], 0, [], [], 0)
theorem out {x : Int × Row × Row × Row × Row × Int × Row × Row × Int} (h : vo a0 a1 a2 a3 a4 a5 a6 a7 a8 a9 a10 = some x) : c a0 a1 a2 a3 a4 a5 a6 a7 a8 a9 a10 = true ∧ v a0 a1 a2 a3 a4 a5 a6 a7 a8 a9 a10 = x := Lib.out_ h
theorem b_eq (hc : c a0 a1 a2 a3 a4 a5 a6 a7 a8 a9 a10 = true) : ∃ N, b N kr a0 a1 a2 a3 a4 a5 a6 a7 a8 a9 a10 = (fun p => kr p.1 p.2.1 p.2.2.1 p.2.2.2.1 p.2.2.2.2.1 p.2.2.2.2.2.1 p.2.2.2.2.2.2.1 p.2.2.2.2.2.2.2.1 p.2.2.2.2.2.2.2.2) (v a0 a1 a2 a3 a4 a5 a6 a7 a8 a9 a10) := ⟨Lib.big, (b_bind Lib.big kr a0 a1 a2 a3 a4 a5 a6 a7 a8 a9 a10).trans (by rw [show b Lib.big (fun r0 r1 r2 r3 r4 r5 r6 r7 r8 => some (r0, r1, r2, r3, r4, r5, r6, r7, r8)) a0 a1 a2 a3 a4 a5 a6 a7 a8 a9 a10 = some (v a0 a1 a2 a3 a4 a5 a6 a7 a8 a9 a10) from Lib.some_ hc]; rfl)⟩
end Go.FG.Pu.impl_Proxy__end

namespace Go.FG.Pu.impl_BreakFetch
def b {R : Type} (kr : Int → Row → Row → Row → Row → Int → Row → Row → Int → Bool → Option R) (a0 : Int) (a1 a2 a3 a4 : Row) (a5 : Int) (a6 a7 : Row) (a8 a9 : Int) : Option R := bif (Pu.impl_copyProxy.c a0 a1 a2 a3 a4 a5 a6 a7 a8) then (Lib.lt (Pu.impl_copyProxy.v a0 a1 a2 a3 a4 a5 a6 a7 a8) (fun t0 => bif (Pu.impl_hasFetch.c a0 a1 a2 a3 a4 a5 a6 a7 a8 a9) then (Lib.lt (Pu.impl_hasFetch.v a0 a1 a2 a3 a4 a5 a6 a7 a8 a9) (fun t1 => bif (!t1) then (kr t0.1 t0.2.1 t0.2.2.1 t0.2.2.2.1 t0.2.2.2.2.1 t0.2.2.2.2.2.1 t0.2.2.2.2.2.2.1 t0.2.2.2.2.2.2.2.1 t0.2.2.2.2.2.2.2.2 false) else (bif (decide (0 ≤ a9) && decide (a9 < (↑(List.length a6) : Int))) then (bif (cvI (cellAt a6 (Int.toNat a9) 2) != 1) then (kr t0.1 t0.2.1 t0.2.2.1 t0.2.2.2.1 t0.2.2.2.2.1 t0.2.2.2.2.2.1 t0.2.2.2.2.2.2.1 t0.2.2.2.2.2.2.2.1 t0.2.2.2.2.2.2.2.2 false) else (bif (decide (0 ≤ a9) && decide (a9 < (↑(List.length t0.2.2.2.2.2.2.1) : Int))) then (bif (Pu.impl_Proxy__end.c t0.1 t0.2.1 t0.2.2.1 t0.2.2.2.1 t0.2.2.2.2.1 t0.2.2.2.2.2.1 (setC t0.2.2.2.2.2.2.1 (Int.toNat a9) 2 [CV.i IntKind.i64 3]) t0.2.2.2.2.2.2.2.1 t0.2.2.2.2.2.2.2.2 a9 3) then (Lib.lt (Pu.impl_Proxy__end.v t0.1 t0.2.1 t0.2.2.1 t0.2.2.2.1 t0.2.2.2.2.1 t0.2.2.2.2.2.1 (setC t0.2.2.2.2.2.2.1 (Int.toNat a9) 2 [CV.i IntKind.i64 3]) t0.2.2.2.2.2.2.2.1 t0.2.2.2.2.2.2.2.2 a9 3) (fun t2 => kr t2.1 t2.2.1 t2.2.2.1 t2.2.2.2.1 t2.2.2.2.2.1 t2.2.2.2.2.2.1 t2.2.2.2.2.2.2.1 t2.2.2.2.2.2.2.2.1 t2.2.2.2.2.2.2.2.2 true)) else (none)) else (none))) else (none)))) else (none))) else (none)
variable {R : Type} (kr : Int → Row → Row → Row → Row → Int → Row → Row → Int → Bool → Option R) (a0 : Int) (a1 a2 a3 a4 : Row) (a5 : Int) (a6 a7 : Row) (a8 a9 : Int)
theorem b_bind : b kr a0 a1 a2 a3 a4 a5 a6 a7 a8 a9 = Option.bind (b (fun r0 r1 r2 r3 r4 r5 r6 r7 r8 r9 => some (r0, r1, r2, r3, r4, r5, r6, r7, r8, r9)) a0 a1 a2 a3 a4 a5 a6 a7 a8 a9) (fun p => kr p.1 p.2.1 p.2.2.1 p.2.2.2.1 p.2.2.2.2.1 p.2.2.2.2.2.1 p.2.2.2.2.2.2.1 p.2.2.2.2.2.2.2.1 p.2.2.2.2.2.2.2.2.1 p.2.2.2.2.2.2.2.2.2) := by
  unfold b; simp only [Lib.lt_bind, Lib.cond_bind, Lib.some_bind, Lib.none_bind]
def vo : Option (Int × Row × Row × Row × Row × Int × Row × Row × Int × Bool) := b (fun r0 r1 r2 r3 r4 r5 r6 r7 r8 r9 => some (r0, r1, r2, r3, r4, r5, r6, r7, r8, r9)) a0 a1 a2 a3 a4 a5 a6 a7 a8 a9
def c : Bool := Option.isSome (vo a0 a1 a2 a3 a4 a5 a6 a7 a8 a9)
def v : Int × Row × Row × Row × Row × Int × Row × Row × Int × Bool := Option.getD (vo a0 a1 a2 a3 a4 a5 a6 a7 a8 a9) (0, [], [], [], [], 0, [], [], 0, false)
theorem out {x : Int × Row × Row × Row × Row × Int × Row × Row × Int × Bool} (h : vo a0 a1 a2 a3 a4 a5 a6 a7 a8 a9 = some x) : c a0 a1 a2 a3 a4 a5 a6 a7 a8 a9 = true ∧ v a0 a1 a2 a3 a4 a5 a6 a7 a8 a9 = x := Lib.out_ h
theorem b_eq (hc : c a0 a1 a2 a3 a4 a5 a6 a7 a8 a9 = true) : b kr a0 a1 a2 a3 a4 a5 a6 a7 a8 a9 = (fun p => kr p.1 p.2.1 p.2.2.1 p.2.2.2.1 p.2.2.2.2.1 p.2.2.2.2.2.1 p.2.2.2.2.2.2.1 p.2.2.2.2.2.2.2.1 p.2.2.2.2.2.2.2.2.1 p.2.2.2.2.2.2.2.2.2) (v a0 a1 a2 a3 a4 a5 a6 a7 a8 a9) := (b_bind kr a0 a1 a2 a3 a4 a5 a6 a7 a8 a9).trans (by rw [show b (fun r0 r1 r2 r3 r4 r5 r6 r7 r8 r9 => some (r0, r1, r2, r3, r4, r5, r6, r7, r8, r9)) a0 a1 a2 a3 a4 a5 a6 a7 a8 a9 = some (v a0 a1 a2 a3 a4 a5 a6 a7 a8 a9) from Lib.some_ hc]; rfl)
end Go.FG.Pu.impl_BreakFetch

namespace Go.FG.Pu.laws_eqEntry
def b {R : Type} (kr : Bool → Option R) (a0 : ByteArray) (a1 a2 : Int) (a3 a4 : ByteArray) (a5 a6 : Int) (a7 : ByteArray) : Option R := bif (!List.beq (ByteArray.toList a0) (ByteArray.toList a4)) then (kr false) else (bif (a1 != a5) then (kr false) else (bif (a2 != a6) then (kr false) else (bif (!List.beq (ByteArray.toList a3) (ByteArray.toList a7)) then (kr false) else (kr true))))
def v (a0 : ByteArray) (a1 a2 : Int) (a3 a4 : ByteArray) (a5 a6 : Int) (a7 : ByteArray) : Bool := bif (!List.beq (ByteArray.toList a0) (ByteArray.toList a4)) then ((false)) else (bif (a1 != a5) then ((false)) else (bif (a2 != a6) then ((false)) else (bif (!List.beq (ByteArray.toList a3) (ByteArray.toList a7)) then ((false)) else ((true)))))
theorem b_eq {R : Type} (kr : Bool → Option R) (a0 : ByteArray) (a1 a2 : Int) (a3 a4 : ByteArray) (a5 a6 : Int) (a7 : ByteArray) : b kr a0 a1 a2 a3 a4 a5 a6 a7 = kr (v a0 a1 a2 a3 a4 a5 a6 a7) := by
  first | rfl | (unfold b v; simp only [Bool.cond_eq_ite]; (repeat' split) <;> rfl)
end Go.FG.Pu.laws_eqEntry

namespace Go.FG.Pu.laws_eqEntryS
def r4 {R : Type} (N : Nat) (g : Row → Row → Bool → Int → Option R) (k0 : Row → Row → Bool → Int → Option R) (k1 : Row → Row → Bool → Int → Option R) (x0 x1 : Row) (x2 : Bool) (x3 : Int) : Option R := bif (decide (x3 < (↑(List.length x0) : Int))) then (bif (decide (0 ≤ x3) && decide (x3 < (↑(List.length x0) : Int))) then (bif (decide (0 ≤ x3) && decide (x3 < (↑(List.length x1) : Int))) then (bif (!Pu.laws_eqEntry.v (cvS (cellAt x0 (Int.toNat x3) 0)) (cvI (cellAt x0 (Int.toNat x3) 1)) (cvI (cellAt x0 (Int.toNat x3) (1 + 1))) (cvS (cellAt x0 (Int.toNat x3) (1 + 1 + 1))) (cvS (cellAt x1 (Int.toNat x3) 0)) (cvI (cellAt x1 (Int.toNat x3) 1)) (cvI (cellAt x1 (Int.toNat x3) (1 + 1))) (cvS (cellAt x1 (Int.toNat x3) (1 + 1 + 1)))) then (k0 x0 x1 false x3) else (g x0 x1 x2 (w64 (x3 + 1)))) else (none)) else (none)) else (k1 x0 x1 x2 x3)
def l4 {R : Type} (N : Nat) (k0 : Row → Row → Bool → Int → Option R) (k1 : Row → Row → Bool → Int → Option R) : Nat → Row → Row → Bool → Int → Option R
  | 0 => (fun _ _ _ _ => none)
  | n + 1 => (fun x0 x1 x2 x3 => r4 N (l4 N k0 k1 n) k0 k1 x0 x1 x2 x3)
def b {R : Type} (N : Nat) (kr : Bool → Option R) (a0 a1 : Row) : Option R := bif ((↑(List.length a0) : Int) != (↑(List.length a1) : Int)) then (kr false) else (l4 N (fun y4 y5 y6 y7 => kr y6) (fun y8 y9 y10 y11 => kr true) N a0 a1 false 0)
theorem q4_bind {R S : Type} (f : R → Option S) (N : Nat) (k0 : Row → Row → Bool → Int → Option R) (k1 : Row → Row → Bool → Int → Option R) : ∀ n : Nat, (∀ (x0 x1 : Row) (x2 : Bool) (x3 : Int), Option.bind (l4 N k0 k1 n x0 x1 x2 x3) f = l4 N (fun y0 y1 y2 y3 => (Option.bind (k0 y0 y1 y2 y3) f)) (fun y0 y1 y2 y3 => (Option.bind (k1 y0 y1 y2 y3) f)) n x0 x1 x2 x3) := by
  intro n
  induction n with
  | zero => exact (fun _ _ _ _ => rfl)
  | succ n ih =>
    intro x0 x1 x2 x3
    simp only [l4, r4, Lib.lt_bind, Lib.cond_bind, Lib.some_bind, Lib.none_bind, ih]
variable {R : Type} (N : Nat) (kr : Bool → Option R) (a0 a1 : Row)
theorem b_bind : b N kr a0 a1 = Option.bind (b N (fun r0 => some (r0)) a0 a1) (fun p => kr p) := by
  unfold b; simp only [Lib.lt_bind, Lib.cond_bind, Lib.some_bind, Lib.none_bind, q4_bind]
def vo : Option (Bool) := b Lib.big (fun r0 => some (r0)) a0 a1
def c : Bool := Option.isSome (vo a0 a1)
def v : Bool := Option.getD (vo a0 a1) (false)
theorem out {x : Bool} (h : vo a0 a1 = some x) : c a0 a1 = true ∧ v a0 a1 = x := Lib.out_ h
theorem b_eq (hc : c a0 a1 = true) : ∃ N, b N kr a0 a1 = (fun p => kr p) (v a0 a1) := ⟨Lib.big, (b_bind Lib.big kr a0 a1).trans (by rw [show b Lib.big (fun r0 => some (r0)) a0 a1 = some (v a0 a1) from Lib.some_ hc]; rfl)⟩
end Go.FG.Pu.laws_eqEntryS

namespace Go.FG.Pu.laws_eqStringS
def r4 {R : Type} (N : Nat) (g : Row → Row → Bool → Int → Option R) (k0 : Row → Row → Bool → Int → Option R) (k1 : Row → Row → Bool → Int → Option R) (x0 x1 : Row) (x2 : Bool) (x3 : Int) : Option R := bif (decide (x3 < (↑(List.length x0) : Int))) then (bif (decide (0 ≤ x3) && decide (x3 < (↑(List.length x0) : Int))) then (bif (decide (0 ≤ x3) && decide (x3 < (↑(List.length x1) : Int))) then (bif (!List.beq (ByteArray.toList (cvS (cellAt x0 (Int.toNat x3) 0))) (ByteArray.toList (cvS (cellAt x1 (Int.toNat x3) 0)))) then (k0 x0 x1 false x3) else (g x0 x1 x2 (w64 (x3 + 1)))) else (none)) else (none)) else (k1 x0 x1 x2 x3)
def l4 {R : Type} (N : Nat) (k0 : Row → Row → Bool → Int → Option R) (k1 : Row → Row → Bool → Int → Option R) : Nat → Row → Row → Bool → Int → Option R
  | 0 => (fun _ _ _ _ => none)
  | n + 1 => (fun x0 x1 x2 x3 => r4 N (l4 N k0 k1 n) k0 k1 x0 x1 x2 x3)
def b {R : Type} (N : Nat) (kr : Bool → Option R) (a0 a1 : Row) : Option R := bif ((↑(List.length a0) : Int) != (↑(List.length a1) : Int)) then (kr false) else (l4 N (fun y4 y5 y6 y7 => kr y6) (fun y8 y9 y10 y11 => kr true) N a0 a1 false 0)
theorem q4_bind {R S : Type} (f : R → Option S) (N : Nat) (k0 : Row → Row → Bool → Int → Option R) (k1 : Row → Row → Bool → Int → Option R) : ∀ n : Nat, (∀ (x0 x1 : Row) (x2 : Bool) (x3 : Int), Option.bind (l4 N k0 k1 n x0 x1 x2 x3) f = l4 N (fun y0 y1 y2 y3 => (Option.bind (k0 y0 y1 y2 y3) f)) (fun y0 y1 y2 y3 => (Option.bind (k1 y0 y1 y2 y3) f)) n x0 x1 x2 x3) := by
  intro n
  induction n with
  | zero => exact (fun _ _ _ _ => rfl)
  | succ n ih =>
    intro x0 x1 x2 x3
    simp only [l4, r4, Lib.lt_bind, Lib.cond_bind, Lib.some_bind, Lib.none_bind, ih]
variable {R : Type} (N : Nat) (kr : Bool → Option R) (a0 a1 : Row)
theorem b_bind : b N kr a0 a1 = Option.bind (b N (fun r0 => some (r0)) a0 a1) (fun p => kr p) := by
  unfold b; simp only [Lib.lt_bind, Lib.cond_bind, Lib.some_bind, Lib.none_bind, q4_bind]
def vo : Option (Bool) := b Lib.big (fun r0 => some (r0)) a0 a1
def c : Bool := Option.isSome (vo a0 a1)
def v : Bool := Option.getD (vo a0 a1) (false)
theorem out {x : Bool} (h : vo a0 a1 = some x) : c a0 a1 = true ∧ v a0 a1 = x := Lib.out_ h
theorem b_eq (hc : c a0 a1 = true) : ∃ N, b N kr a0 a1 = (fun p => kr p) (v a0 a1) := ⟨Lib.big, (b_bind Lib.big kr a0 a1).trans (by rw [show b Lib.big (fun r0 => some (r0)) a0 a1 = some (v a0 a1) from Lib.some_ hc]; rfl)⟩
end Go.FG.Pu.laws_eqStringS

namespace Go.FG.Pu.laws_eqIntS
def r4 {R : Type} (N : Nat) (g : Row → Row → Bool → Int → Option R) (k0 : Row → Row → Bool → Int → Option R) (k1 : Row → Row → Bool → Int → Option R) (x0 x1 : Row) (x2 : Bool) (x3 : Int) : Option R := bif (decide (x3 < (↑(List.length x0) : Int))) then (bif (decide (0 ≤ x3) && decide (x3 < (↑(List.length x0) : Int))) then (bif (decide (0 ≤ x3) && decide (x3 < (↑(List.length x1) : Int))) then (bif (cvI (cellAt x0 (Int.toNat x3) 0) != cvI (cellAt x1 (Int.toNat x3) 0)) then (k0 x0 x1 false x3) else (g x0 x1 x2 (w64 (x3 + 1)))) else (none)) else (none)) else (k1 x0 x1 x2 x3)
def l4 {R : Type} (N : Nat) (k0 : Row → Row → Bool → Int → Option R) (k1 : Row → Row → Bool → Int → Option R) : Nat → Row → Row → Bool → Int → Option R
  | 0 => (fun _ _ _ _ => none)
  | n + 1 => (fun x0 x1 x2 x3 => r4 N (l4 N k0 k1 n) k0 k1 x0 x1 x2 x3)
def b {R : Type} (N : Nat) (kr : Bool → Option R) (a0 a1 : Row) : Option R := bif ((↑(List.length a0) : Int) != (↑(List.length a1) : Int)) then (kr false) else (l4 N (fun y4 y5 y6 y7 => kr y6) (fun y8 y9 y10 y11 => kr true) N a0 a1 false 0)
def v (a0 : Row) (b1 : Row) : Bool := (a0.length == b1.length) && (List.range a0.length).all fun i => !(cvI (cellAt a0 i 0) != cvI (cellAt b1 i 0))
def fr (a b : Row) (i : Nat) : Bool := (List.range' i (a.length - i)).all fun i => !(cvI (cellAt a i 0) != cvI (cellAt b i 0))
theorem run {R : Type} (N : Nat) (kr : Bool → Option R) (a b : Row) (hl : a.length = b.length) (ha : FitR a) : ∀ n (i : Nat), i ≤ a.length → a.length - i < n → l4 N (fun _ _ y _ => kr y) (fun _ _ _ _ => kr true) n a b false i = kr (fr a b i) := by
  refine Lib.loop_gen (fun n (i : Nat) => l4 N (fun _ _ y _ => kr y) (fun _ _ _ _ => kr true) n a b false i) (fun i => a.length - i) (fun i => i ≤ a.length) (fun i => kr (fr a b i)) (fun n i hi => ?_)
  simp only [l4, r4, Lib.dlt, Lib.dle0, Lib.toN, Bool.true_and]
  by_cases h : i < a.length
  · have e : a.length - i = (a.length - (i + 1)) + 1 := by omega
    have hf : fr a b i = (!(cvI (cellAt a i 0) != cvI (cellAt b i 0)) && fr a b (i + 1)) := by
      unfold fr; rw [e, List.range'_succ, List.all_cons]
    have hb : i < b.length := by omega
    simp only [h, hb, decide_true, cond_true, Lib.w64_s h ha.1]
    cases hv : (cvI (cellAt a i 0) != cvI (cellAt b i 0)) with
    | false => exact .inr ⟨i + 1, h, by omega, by rw [hf, hv]; rfl, rfl⟩
    | true => left; rw [hf, hv]; rfl
  · left
    have : a.length - i = 0 := by omega
    simp only [h, decide_false, cond_false]
    unfold fr; rw [this]; rfl
theorem b_eq {R : Type} (kr : Bool → Option R) (a0 : Row) (b1 : Row) (f0 : FitR a0) (f1 : FitR b1) : ∃ N, b N kr a0 b1 = kr (v a0 b1) := by
  refine ⟨a0.length + 1, ?_⟩
  unfold b v
  by_cases hl : a0.length = b1.length
  · have e : ((a0.length : Int) != (b1.length : Int)) = false := by simp [hl]
    rw [e, cond_false]
    refine (run _ kr a0 b1 hl f0 (a0.length + 1) 0 (by omega) (by omega)).trans ?_
    unfold fr; rw [show (a0.length == b1.length) = true by simp [hl], Nat.sub_zero, ← List.range_eq_range']; rfl
  · have e : ((a0.length : Int) != (b1.length : Int)) = true := by simp; omega
    have e2 : (a0.length == b1.length) = false := by simp; omega
    rw [e, cond_true, e2]; rfl
theorem refl (a : Row) : v a a = true := by unfold v; simp
end Go.FG.Pu.laws_eqIntS

namespace Go.FG.Pu.laws_eqIntSS
def r4 {R : Type} (N : Nat) (g : Row → Row → Bool → Int → Option R) (k0 : Row → Row → Bool → Int → Option R) (k1 : Row → Row → Bool → Int → Option R) (x0 x1 : Row) (x2 : Bool) (x3 : Int) : Option R := bif (decide (x3 < (↑(List.length x0) : Int))) then (bif (decide (0 ≤ x3) && decide (x3 < (↑(List.length x0) : Int))) then (bif (decide (0 ≤ x3) && decide (x3 < (↑(List.length x1) : Int))) then (bif (!Pu.laws_eqIntS.v (cvL (cellAt x0 (Int.toNat x3) 0)) (cvL (cellAt x1 (Int.toNat x3) 0))) then (k0 x0 x1 false x3) else (g x0 x1 x2 (w64 (x3 + 1)))) else (none)) else (none)) else (k1 x0 x1 x2 x3)
def l4 {R : Type} (N : Nat) (k0 : Row → Row → Bool → Int → Option R) (k1 : Row → Row → Bool → Int → Option R) : Nat → Row → Row → Bool → Int → Option R
  | 0 => (fun _ _ _ _ => none)
  | n + 1 => (fun x0 x1 x2 x3 => r4 N (l4 N k0 k1 n) k0 k1 x0 x1 x2 x3)
def b {R : Type} (N : Nat) (kr : Bool → Option R) (a0 a1 : Row) : Option R := bif ((↑(List.length a0) : Int) != (↑(List.length a1) : Int)) then (kr false) else (l4 N (fun y4 y5 y6 y7 => kr y6) (fun y8 y9 y10 y11 => kr true) N a0 a1 false 0)
theorem q4_bind {R S : Type} (f : R → Option S) (N : Nat) (k0 : Row → Row → Bool → Int → Option R) (k1 : Row → Row → Bool → Int → Option R) : ∀ n : Nat, (∀ (x0 x1 : Row) (x2 : Bool) (x3 : Int), Option.bind (l4 N k0 k1 n x0 x1 x2 x3) f = l4 N (fun y0 y1 y2 y3 => (Option.bind (k0 y0 y1 y2 y3) f)) (fun y0 y1 y2 y3 => (Option.bind (k1 y0 y1 y2 y3) f)) n x0 x1 x2 x3) := by
  intro n
  induction n with
  | zero => exact (fun _ _ _ _ => rfl)
  | succ n ih =>
    intro x0 x1 x2 x3
    simp only [l4, r4, Lib.lt_bind, Lib.cond_bind, Lib.some_bind, Lib.none_bind, ih]
variable {R : Type} (N : Nat) (kr : Bool → Option R) (a0 a1 : Row)
theorem b_bind : b N kr a0 a1 = Option.bind (b N (fun r0 => some (r0)) a0 a1) (fun p => kr p) := by
  unfold b; simp only [Lib.lt_bind, Lib.cond_bind, Lib.some_bind, Lib.none_bind, q4_bind]
def vo : Option (Bool) := b Lib.big (fun r0 => some (r0)) a0 a1
def c : Bool := Option.isSome (vo a0 a1)
def v : Bool := Option.getD (vo a0 a1) (false)
theorem out {x : Bool} (h : vo a0 a1 = some x) : c a0 a1 = true ∧ v a0 a1 = x := Lib.out_ h
theorem b_eq (hc : c a0 a1 = true) : ∃ N, b N kr a0 a1 = (fun p => kr p) (v a0 a1) := ⟨Lib.big, (b_bind Lib.big kr a0 a1).trans (by rw [show b Lib.big (fun r0 => some (r0)) a0 a1 = some (v a0 a1) from Lib.some_ hc]; rfl)⟩
end Go.FG.Pu.laws_eqIntSS

namespace Go.FG.Pu.laws_eqSketch
def b {R : Type} (kr : Bool → Option R) (a0 : Row) (a1 : Int) (a2 : Row) (a3 : Int) : Option R := bif (Pu.laws_eqIntSS.c a0 a2) then (bif (!Pu.laws_eqIntSS.v a0 a2) then (kr false) else (bif (a1 != a3) then (kr false) else (kr true))) else (none)
variable {R : Type} (kr : Bool → Option R) (a0 : Row) (a1 : Int) (a2 : Row) (a3 : Int)
theorem b_bind : b kr a0 a1 a2 a3 = Option.bind (b (fun r0 => some (r0)) a0 a1 a2 a3) (fun p => kr p) := by
  unfold b; simp only [Lib.lt_bind, Lib.cond_bind, Lib.some_bind, Lib.none_bind]
def vo : Option (Bool) := b (fun r0 => some (r0)) a0 a1 a2 a3
def c : Bool := Option.isSome (vo a0 a1 a2 a3)
def v : Bool := Option.getD (vo a0 a1 a2 a3) (false)
theorem out {x : Bool} (h : vo a0 a1 a2 a3 = some x) : c a0 a1 a2 a3 = true ∧ v a0 a1 a2 a3 = x := Lib.out_ h
theorem b_eq (hc : c a0 a1 a2 a3 = true) : b kr a0 a1 a2 a3 = (fun p => kr p) (v a0 a1 a2 a3) := (b_bind kr a0 a1 a2 a3).trans (by rw [show b (fun r0 => some (r0)) a0 a1 a2 a3 = some (v a0 a1 a2 a3) from Lib.some_ hc]; rfl)
end Go.FG.Pu.laws_eqSketch

namespace Go.FG.Pu.laws_eqPolicy
def b {R : Type} (kr : Bool → Option R) (a0 a1 a2 : Row) (a3 : Int) (a4 a5 a6 : Row) (a7 : Int) : Option R := bif (Pu.laws_eqStringS.c a0 a4) then (bif (!Pu.laws_eqStringS.v a0 a4) then (kr false) else (bif (Pu.laws_eqStringS.c a1 a5) then (bif (!Pu.laws_eqStringS.v a1 a5) then (kr false) else (bif (Pu.laws_eqSketch.c a2 a3 a6 a7) then (bif (!Pu.laws_eqSketch.v a2 a3 a6 a7) then (kr false) else (kr true)) else (none))) else (none))) else (none)
variable {R : Type} (kr : Bool → Option R) (a0 a1 a2 : Row) (a3 : Int) (a4 a5 a6 : Row) (a7 : Int)
theorem b_bind : b kr a0 a1 a2 a3 a4 a5 a6 a7 = Option.bind (b (fun r0 => some (r0)) a0 a1 a2 a3 a4 a5 a6 a7) (fun p => kr p) := by
  unfold b; simp only [Lib.lt_bind, Lib.cond_bind, Lib.some_bind, Lib.none_bind]
def vo : Option (Bool) := b (fun r0 => some (r0)) a0 a1 a2 a3 a4 a5 a6 a7
def c : Bool := Option.isSome (vo a0 a1 a2 a3 a4 a5 a6 a7)
def v : Bool := Option.getD (vo a0 a1 a2 a3 a4 a5 a6 a7) (false)
theorem out {x : Bool} (h : vo a0 a1 a2 a3 a4 a5 a6 a7 = some x) : c a0 a1 a2 a3 a4 a5 a6 a7 = true ∧ v a0 a1 a2 a3 a4 a5 a6 a7 = x := Lib.out_ h
theorem b_eq (hc : c a0 a1 a2 a3 a4 a5 a6 a7 = true) : b kr a0 a1 a2 a3 a4 a5 a6 a7 = (fun p => kr p) (v a0 a1 a2 a3 a4 a5 a6 a7) := (b_bind kr a0 a1 a2 a3 a4 a5 a6 a7).trans (by rw [show b (fun r0 => some (r0)) a0 a1 a2 a3 a4 a5 a6 a7 = some (v a0 a1 a2 a3 a4 a5 a6 a7) from Lib.some_ hc]; rfl)
end Go.FG.Pu.laws_eqPolicy

namespace Go.FG.Pu.laws_eqFetch
def b {R : Type} (kr : Bool → Option R) (a0 a1 : ByteArray) (a2 a3 a4 : Int) (a5 a6 : ByteArray) (a7 a8 a9 : Int) : Option R := bif (!List.beq (ByteArray.toList a0) (ByteArray.toList a5)) then (kr false) else (bif (!List.beq (ByteArray.toList a1) (ByteArray.toList a6)) then (kr false) else (bif (a2 != a7) then (kr false) else (bif (a3 != a8) then (kr false) else (bif (a4 != a9) then (kr false) else (kr true)))))
def v (a0 a1 : ByteArray) (a2 a3 a4 : Int) (a5 a6 : ByteArray) (a7 a8 a9 : Int) : Bool := bif (!List.beq (ByteArray.toList a0) (ByteArray.toList a5)) then ((false)) else (bif (!List.beq (ByteArray.toList a1) (ByteArray.toList a6)) then ((false)) else (bif (a2 != a7) then ((false)) else (bif (a3 != a8) then ((false)) else (bif (a4 != a9) then ((false)) else ((true))))))
theorem b_eq {R : Type} (kr : Bool → Option R) (a0 a1 : ByteArray) (a2 a3 a4 : Int) (a5 a6 : ByteArray) (a7 a8 a9 : Int) : b kr a0 a1 a2 a3 a4 a5 a6 a7 a8 a9 = kr (v a0 a1 a2 a3 a4 a5 a6 a7 a8 a9) := by
  first | rfl | (unfold b v; simp only [Bool.cond_eq_ite]; (repeat' split) <;> rfl)
end Go.FG.Pu.laws_eqFetch

namespace Go.FG.Pu.laws_eqFetchS
def r4 {R : Type} (N : Nat) (g : Row → Row → Bool → Int → Option R) (k0 : Row → Row → Bool → Int → Option R) (k1 : Row → Row → Bool → Int → Option R) (x0 x1 : Row) (x2 : Bool) (x3 : Int) : Option R := bif (decide (x3 < (↑(List.length x0) : Int))) then (bif (decide (0 ≤ x3) && decide (x3 < (↑(List.length x0) : Int))) then (bif (decide (0 ≤ x3) && decide (x3 < (↑(List.length x1) : Int))) then (bif (!Pu.laws_eqFetch.v (cvS (cellAt x0 (Int.toNat x3) 0)) (cvS (cellAt x0 (Int.toNat x3) 1)) (cvI (cellAt x0 (Int.toNat x3) (1 + 1))) (cvI (cellAt x0 (Int.toNat x3) (1 + 1 + 1))) (cvI (cellAt x0 (Int.toNat x3) (1 + 1 + 1 + 1))) (cvS (cellAt x1 (Int.toNat x3) 0)) (cvS (cellAt x1 (Int.toNat x3) 1)) (cvI (cellAt x1 (Int.toNat x3) (1 + 1))) (cvI (cellAt x1 (Int.toNat x3) (1 + 1 + 1))) (cvI (cellAt x1 (Int.toNat x3) (1 + 1 + 1 + 1)))) then (k0 x0 x1 false x3) else (g x0 x1 x2 (w64 (x3 + 1)))) else (none)) else (none)) else (k1 x0 x1 x2 x3)
def l4 {R : Type} (N : Nat) (k0 : Row → Row → Bool → Int → Option R) (k1 : Row → Row → Bool → Int → Option R) : Nat → Row → Row → Bool → Int → Option R
  | 0 => (fun _ _ _ _ => none)
  | n + 1 => (fun x0 x1 x2 x3 => r4 N (l4 N k0 k1 n) k0 k1 x0 x1 x2 x3)
def b {R : Type} (N : Nat) (kr : Bool → Option R) (a0 a1 : Row) : Option R := bif ((↑(List.length a0) : Int) != (↑(List.length a1) : Int)) then (kr false) else (l4 N (fun y4 y5 y6 y7 => kr y6) (fun y8 y9 y10 y11 => kr true) N a0 a1 false 0)
theorem q4_bind {R S : Type} (f : R → Option S) (N : Nat) (k0 : Row → Row → Bool → Int → Option R) (k1 : Row → Row → Bool → Int → Option R) : ∀ n : Nat, (∀ (x0 x1 : Row) (x2 : Bool) (x3 : Int), Option.bind (l4 N k0 k1 n x0 x1 x2 x3) f = l4 N (fun y0 y1 y2 y3 => (Option.bind (k0 y0 y1 y2 y3) f)) (fun y0 y1 y2 y3 => (Option.bind (k1 y0 y1 y2 y3) f)) n x0 x1 x2 x3) := by
  intro n
  induction n with
  | zero => exact (fun _ _ _ _ => rfl)
  | succ n ih =>
    intro x0 x1 x2 x3
    simp only [l4, r4, Lib.lt_bind, Lib.cond_bind, Lib.some_bind, Lib.none_bind, ih]
variable {R : Type} (N : Nat) (kr : Bool → Option R) (a0 a1 : Row)
theorem b_bind : b N kr a0 a1 = Option.bind (b N (fun r0 => some (r0)) a0 a1) (fun p => kr p) := by
  unfold b; simp only [Lib.lt_bind, Lib.cond_bind, Lib.some_bind, Lib.none_bind, q4_bind]
def vo : Option (Bool) := b Lib.big (fun r0 => some (r0)) a0 a1
def c : Bool := Option.isSome (vo a0 a1)
def v : Bool := Option.getD (vo a0 a1) (false)
theorem out {x : Bool} (h : vo a0 a1 = some x) : c a0 a1 = true ∧ v a0 a1 = x := Lib.out_ h
theorem b_eq (hc : c a0 a1 = true) : ∃ N, b N kr a0 a1 = (fun p => kr p) (v a0 a1) := ⟨Lib.big, (b_bind Lib.big kr a0 a1).trans (by rw [show b Lib.big (fun r0 => some (r0)) a0 a1 = some (v a0 a1) from Lib.some_ hc]; rfl)⟩
end Go.FG.Pu.laws_eqFetchS

namespace Go.FG.Pu.laws_eqClient
def b {R : Type} (kr : Bool → Option R) (a0 : Int) (a1 : ByteArray) (a2 a3 a4 : Int) (a5 : ByteArray) (a6 a7 : Int) (a8 : ByteArray) (a9 a10 a11 : Int) (a12 : ByteArray) (a13 : Int) : Option R := bif (a0 != a7) then (kr false) else (bif (!List.beq (ByteArray.toList a1) (ByteArray.toList a8)) then (kr false) else (bif (a2 != a9) then (kr false) else (bif (a3 != a10) then (kr false) else (bif (a4 != a11) then (kr false) else (bif (!List.beq (ByteArray.toList a5) (ByteArray.toList a12)) then (kr false) else (bif (a6 != a13) then (kr false) else (kr true)))))))
def v (a0 : Int) (a1 : ByteArray) (a2 a3 a4 : Int) (a5 : ByteArray) (a6 a7 : Int) (a8 : ByteArray) (a9 a10 a11 : Int) (a12 : ByteArray) (a13 : Int) : Bool := bif (a0 != a7) then ((false)) else (bif (!List.beq (ByteArray.toList a1) (ByteArray.toList a8)) then ((false)) else (bif (a2 != a9) then ((false)) else (bif (a3 != a10) then ((false)) else (bif (a4 != a11) then ((false)) else (bif (!List.beq (ByteArray.toList a5) (ByteArray.toList a12)) then ((false)) else (bif (a6 != a13) then ((false)) else ((true))))))))
theorem b_eq {R : Type} (kr : Bool → Option R) (a0 : Int) (a1 : ByteArray) (a2 a3 a4 : Int) (a5 : ByteArray) (a6 a7 : Int) (a8 : ByteArray) (a9 a10 a11 : Int) (a12 : ByteArray) (a13 : Int) : b kr a0 a1 a2 a3 a4 a5 a6 a7 a8 a9 a10 a11 a12 a13 = kr (v a0 a1 a2 a3 a4 a5 a6 a7 a8 a9 a10 a11 a12 a13) := by
  first | rfl | (unfold b v; simp only [Bool.cond_eq_ite]; (repeat' split) <;> rfl)
end Go.FG.Pu.laws_eqClient

namespace Go.FG.Pu.laws_eqClientS
def r4 {R : Type} (N : Nat) (g : Row → Row → Bool → Int → Option R) (k0 : Row → Row → Bool → Int → Option R) (k1 : Row → Row → Bool → Int → Option R) (x0 x1 : Row) (x2 : Bool) (x3 : Int) : Option R := bif (decide (x3 < (↑(List.length x0) : Int))) then (bif (decide (0 ≤ x3) && decide (x3 < (↑(List.length x0) : Int))) then (bif (decide (0 ≤ x3) && decide (x3 < (↑(List.length x1) : Int))) then (bif (!Pu.laws_eqClient.v (cvI (cellAt x0 (Int.toNat x3) 0)) (cvS (cellAt x0 (Int.toNat x3) 1)) (cvI (cellAt x0 (Int.toNat x3) (1 + 1))) (cvI (cellAt x0 (Int.toNat x3) (1 + 1 + 1))) (cvI (cellAt x0 (Int.toNat x3) (1 + 1 + 1 + 1))) (cvS (cellAt x0 (Int.toNat x3) (1 + 1 + 1 + 1 + 1))) (cvI (cellAt x0 (Int.toNat x3) (1 + 1 + 1 + 1 + 1 + 1))) (cvI (cellAt x1 (Int.toNat x3) 0)) (cvS (cellAt x1 (Int.toNat x3) 1)) (cvI (cellAt x1 (Int.toNat x3) (1 + 1))) (cvI (cellAt x1 (Int.toNat x3) (1 + 1 + 1))) (cvI (cellAt x1 (Int.toNat x3) (1 + 1 + 1 + 1))) (cvS (cellAt x1 (Int.toNat x3) (1 + 1 + 1 + 1 + 1))) (cvI (cellAt x1 (Int.toNat x3) (1 + 1 + 1 + 1 + 1 + 1)))) then (k0 x0 x1 false x3) else (g x0 x1 x2 (w64 (x3 + 1)))) else (none)) else (none)) else (k1 x0 x1 x2 x3)
def l4 {R : Type} (N : Nat) (k0 : Row → Row → Bool → Int → Option R) (k1 : Row → Row → Bool → Int → Option R) : Nat → Row → Row → Bool → Int → Option R
  | 0 => (fun _ _ _ _ => none)
  | n + 1 => (fun x0 x1 x2 x3 => r4 N (l4 N k0 k1 n) k0 k1 x0 x1 x2 x3)
def b {R : Type} (N : Nat) (kr : Bool → Option R) (a0 a1 : Row) : Option R := bif ((↑(List.length a0) : Int) != (↑(List.length a1) : Int)) then (kr false) else (l4 N (fun y4 y5 y6 y7 => kr y6) (fun y8 y9 y10 y11 => kr true) N a0 a1 false 0)
theorem q4_bind {R S : Type} (f : R → Option S) (N : Nat) (k0 : Row → Row → Bool → Int → Option R) (k1 : Row → Row → Bool → Int → Option R) : ∀ n : Nat, (∀ (x0 x1 : Row) (x2 : Bool) (x3 : Int), Option.bind (l4 N k0 k1 n x0 x1 x2 x3) f = l4 N (fun y0 y1 y2 y3 => (Option.bind (k0 y0 y1 y2 y3) f)) (fun y0 y1 y2 y3 => (Option.bind (k1 y0 y1 y2 y3) f)) n x0 x1 x2 x3) := by
  intro n
  induction n with
  | zero => exact (fun _ _ _ _ => rfl)
  | succ n ih =>
    intro x0 x1 x2 x3
    simp only [l4, r4, Lib.lt_bind, Lib.cond_bind, Lib.some_bind, Lib.none_bind, ih]
variable {R : Type} (N : Nat) (kr : Bool → Option R) (a0 a1 : Row)
theorem b_bind : b N kr a0 a1 = Option.bind (b N (fun r0 => some (r0)) a0 a1) (fun p => kr p) := by
  unfold b; simp only [Lib.lt_bind, Lib.cond_bind, Lib.some_bind, Lib.none_bind, q4_bind]
def vo : Option (Bool) := b Lib.big (fun r0 => some (r0)) a0 a1
def c : Bool := Option.isSome (vo a0 a1)
def v : Bool := Option.getD (vo a0 a1) (false)
theorem out {x : Bool} (h : vo a0 a1 = some x) : c a0 a1 = true ∧ v a0 a1 = x := Lib.out_ h
theorem b_eq (hc : c a0 a1 = true) : ∃ N, b N kr a0 a1 = (fun p => kr p) (v a0 a1) := ⟨Lib.big, (b_bind Lib.big kr a0 a1).trans (by rw [show b Lib.big (fun r0 => some (r0)) a0 a1 = some (v a0 a1) from Lib.some_ hc]; rfl)⟩
end Go.FG.Pu.laws_eqClientS

namespace Go.FG.Pu.laws_eqProxy
def b {R : Type} (kr : Bool → Option R) (a0 : Int) (a1 a2 a3 a4 : Row) (a5 : Int) (a6 a7 : Row) (a8 a9 : Int) (a10 a11 a12 a13 : Row) (a14 : Int) (a15 a16 : Row) (a17 : Int) : Option R := bif (a0 != a9) then (kr false) else (bif (Pu.laws_eqEntryS.c a1 a10) then (bif (!Pu.laws_eqEntryS.v a1 a10) then (kr false) else (bif (Pu.laws_eqPolicy.c a2 a3 a4 a5 a11 a12 a13 a14) then (bif (!Pu.laws_eqPolicy.v a2 a3 a4 a5 a11 a12 a13 a14) then (kr false) else (bif (Pu.laws_eqFetchS.c a6 a15) then (bif (!Pu.laws_eqFetchS.v a6 a15) then (kr false) else (bif (Pu.laws_eqClientS.c a7 a16) then (bif (!Pu.laws_eqClientS.v a7 a16) then (kr false) else (bif (a8 != a17) then (kr false) else (kr true))) else (none))) else (none))) else (none))) else (none))
variable {R : Type} (kr : Bool → Option R) (a0 : Int) (a1 a2 a3 a4 : Row) (a5 : Int) (a6 a7 : Row) (a8 a9 : Int) (a10 a11 a12 a13 : Row) (a14 : Int) (a15 a16 : Row) (a17 : Int)
theorem b_bind : b kr a0 a1 a2 a3 a4 a5 a6 a7 a8 a9 a10 a11 a12 a13 a14 a15 a16 a17 = Option.bind (b (fun r0 => some (r0)) a0 a1 a2 a3 a4 a5 a6 a7 a8 a9 a10 a11 a12 a13 a14 a15 a16 a17) (fun p => kr p) := by
  unfold b; simp only [Lib.lt_bind, Lib.cond_bind, Lib.some_bind, Lib.none_bind]
def vo : Option (Bool) := b (fun r0 => some (r0)) a0 a1 a2 a3 a4 a5 a6 a7 a8 a9 a10 a11 a12 a13 a14 a15 a16 a17
def c : Bool := Option.isSome (vo a0 a1 a2 a3 a4 a5 a6 a7 a8 a9 a10 a11 a12 a13 a14 a15 a16 a17)
def v : Bool := Option.getD (vo a0 a1 a2 a3 a4 a5 a6 a7 a8 a9 a10 a11 a12 a13 a14 a15 a16 a17) (false)
theorem out {x : Bool} (h : vo a0 a1 a2 a3 a4 a5 a6 a7 a8 a9 a10 a11 a12 a13 a14 a15 a16 a17 = some x) : c a0 a1 a2 a3 a4 a5 a6 a7 a8 a9 a10 a11 a12 a13 a14 a15 a16 a17 = true ∧ v a0 a1 a2 a3 a4 a5 a6 a7 a8 a9 a10 a11 a12 a13 a14 a15 a16 a17 = x := Lib.out_ h
theorem b_eq (hc : c a0 a1 a2 a3 a4 a5 a6 a7 a8 a9 a10 a11 a12 a13 a14 a15 a16 a17 = true) : b kr a0 a1 a2 a3 a4 a5 a6 a7 a8 a9 a10 a11 a12 a13 a14 a15 a16 a17 = (fun p => kr p) (v a0 a1 a2 a3 a4 a5 a6 a7 a8 a9 a10 a11 a12 a13 a14 a15 a16 a17) := (b_bind kr a0 a1 a2 a3 a4 a5 a6 a7 a8 a9 a10 a11 a12 a13 a14 a15 a16 a17).trans (by rw [show b (fun r0 => some (r0)) a0 a1 a2 a3 a4 a5 a6 a7 a8 a9 a10 a11 a12 a13 a14 a15 a16 a17 = some (v a0 a1 a2 a3 a4 a5 a6 a7 a8 a9 a10 a11 a12 a13 a14 a15 a16 a17) from Lib.some_ hc]; rfl)
end Go.FG.Pu.laws_eqProxy

namespace Go.FG.Pu.laws_markText
def r4 {R : Type} (N : Nat) (g : Int → ByteArray → Option R) (k0 : Int → ByteArray → Option R) (x0 : Int) (x1 : ByteArray) : Option R := bif (decide (x0 > 0)) then (bif (decide (ByteArray.size (bytesOf (List.set (zeros [Ck.i IntKind.u8] 1) 0 [CV.i IntKind.u8 (IntKind.wrap IntKind.u8 (w64 (48 + Int.tmod x0 10)))])) + ByteArray.size x1 ≤ 4611686018427387904)) then (g (w64 (Int.tdiv x0 10)) (bytesOf (List.set (zeros [Ck.i IntKind.u8] 1) 0 [CV.i IntKind.u8 (IntKind.wrap IntKind.u8 (w64 (48 + Int.tmod x0 10)))]) ++ x1)) else (none)) else (k0 x0 x1)
def l4 {R : Type} (N : Nat) (k0 : Int → ByteArray → Option R) : Nat → Int → ByteArray → Option R
  | 0 => (fun _ _ => none)
  | n + 1 => (fun x0 x1 => r4 N (l4 N k0 n) k0 x0 x1)
def b {R : Type} (N : Nat) (kr : ByteArray → Option R) (a0 : Int) : Option R := bif (decide (a0 ≤ 0)) then (kr ({ data := #[UInt8.ofNat 109, UInt8.ofNat 48] })) else (l4 N (fun y2 y3 => bif (decide (ByteArray.size { data := #[UInt8.ofNat 109] } + ByteArray.size y3 ≤ 4611686018427387904)) then (kr ({ data := #[UInt8.ofNat 109] } ++ y3)) else (none)) N a0 ({ data := #[] }))
theorem q4_bind {R S : Type} (f : R → Option S) (N : Nat) (k0 : Int → ByteArray → Option R) : ∀ n : Nat, (∀ (x0 : Int) (x1 : ByteArray), Option.bind (l4 N k0 n x0 x1) f = l4 N (fun y0 y1 => (Option.bind (k0 y0 y1) f)) n x0 x1) := by
  intro n
  induction n with
  | zero => exact (fun _ _ => rfl)
  | succ n ih =>
    intro x0 x1
    simp only [l4, r4, Lib.lt_bind, Lib.cond_bind, Lib.some_bind, Lib.none_bind, ih]
variable {R : Type} (N : Nat) (kr : ByteArray → Option R) (a0 : Int)
theorem b_bind : b N kr a0 = Option.bind (b N (fun r0 => some (r0)) a0) (fun p => kr p) := by
  unfold b; simp only [Lib.lt_bind, Lib.cond_bind, Lib.some_bind, Lib.none_bind, q4_bind]
def vo : Option (ByteArray) := b Lib.big (fun r0 => some (r0)) a0
def c : Bool := Option.isSome (vo a0)
def v : ByteArray := Option.getD (vo a0) (⟨#[]⟩)
theorem out {x : ByteArray} (h : vo a0 = some x) : c a0 = true ∧ v a0 = x := Lib.out_ h
theorem b_eq (hc : c a0 = true) : ∃ N, b N kr a0 = (fun p => kr p) (v a0) := ⟨Lib.big, (b_bind Lib.big kr a0).trans (by rw [show b Lib.big (fun r0 => some (r0)) a0 = some (v a0) from Lib.some_ hc]; rfl)⟩
end Go.FG.Pu.laws_markText

namespace Go.FG.Pu.laws_markEntryS
def r2 {R : Type} (N : Nat) (g : Int → Int → Row → Option R) (k0 : Int → Int → Row → Option R) (x0 x1 : Int) (x2 : Row) : Option R := bif (decide (x1 < (↑(List.length x2) : Int))) then (bif (Pu.laws_markText.c x0) then (bif (decide (0 ≤ x1) && decide (x1 < (↑(List.length x2) : Int))) then (bif (decide (0 ≤ x1) && decide (x1 < (↑(List.length (setC x2 (Int.toNat x1) 0 [CV.s (Pu.laws_markText.v x0)])) : Int))) then (bif (decide (0 ≤ x1) && decide (x1 < (↑(List.length (setC (setC x2 (Int.toNat x1) 0 [CV.s (Pu.laws_markText.v x0)]) (Int.toNat x1) 1 [CV.i IntKind.i64 (w64 (x0 + 1))])) : Int))) then (bif (Pu.laws_markText.c (w64 (w64 (w64 (x0 + 1) + 1) + 1))) then (bif (decide (0 ≤ x1) && decide (x1 < (↑(List.length (setC (setC (setC x2 (Int.toNat x1) 0 [CV.s (Pu.laws_markText.v x0)]) (Int.toNat x1) 1 [CV.i IntKind.i64 (w64 (x0 + 1))]) (Int.toNat x1) 2 [CV.i IntKind.i64 (w64 (w64 (x0 + 1) + 1))])) : Int))) then (g (w64 (w64 (w64 (w64 (x0 + 1) + 1) + 1) + 1)) (w64 (x1 + 1)) (setC (setC (setC (setC x2 (Int.toNat x1) 0 [CV.s (Pu.laws_markText.v x0)]) (Int.toNat x1) 1 [CV.i IntKind.i64 (w64 (x0 + 1))]) (Int.toNat x1) 2 [CV.i IntKind.i64 (w64 (w64 (x0 + 1) + 1))]) (Int.toNat x1) 3 [CV.s (Pu.laws_markText.v (w64 (w64 (w64 (x0 + 1) + 1) + 1)))])) else (none)) else (none)) else (none)) else (none)) else (none)) else (none)) else (k0 x0 x1 x2)
def l2 {R : Type} (N : Nat) (k0 : Int → Int → Row → Option R) : Nat → Int → Int → Row → Option R
  | 0 => (fun _ _ _ => none)
  | n + 1 => (fun x0 x1 x2 => r2 N (l2 N k0 n) k0 x0 x1 x2)
def b {R : Type} (N : Nat) (kr : Int → Row → Option R) (a0 : Row) (a1 : Int) : Option R := l2 N (fun y3 y4 y5 => kr y3 y5) N a1 0 a0
theorem q2_bind {R S : Type} (f : R → Option S) (N : Nat) (k0 : Int → Int → Row → Option R) : ∀ n : Nat, (∀ (x0 x1 : Int) (x2 : Row), Option.bind (l2 N k0 n x0 x1 x2) f = l2 N (fun y0 y1 y2 => (Option.bind (k0 y0 y1 y2) f)) n x0 x1 x2) := by
  intro n
  induction n with
  | zero => exact (fun _ _ _ => rfl)
  | succ n ih =>
    intro x0 x1 x2
    simp only [l2, r2, Lib.lt_bind, Lib.cond_bind, Lib.some_bind, Lib.none_bind, ih]
variable {R : Type} (N : Nat) (kr : Int → Row → Option R) (a0 : Row) (a1 : Int)
theorem b_bind : b N kr a0 a1 = Option.bind (b N (fun r0 r1 => some (r0, r1)) a0 a1) (fun p => kr p.1 p.2) := by
  unfold b; simp only [Lib.lt_bind, Lib.cond_bind, Lib.some_bind, Lib.none_bind, q2_bind]
def vo : Option (Int × Row) := b Lib.big (fun r0 r1 => some (r0, r1)) a0 a1
def c : Bool := Option.isSome (vo a0 a1)
def v : Int × Row := Option.getD (vo a0 a1) (0, [])
theorem out {x : Int × Row} (h : vo a0 a1 = some x) : c a0 a1 = true ∧ v a0 a1 = x := Lib.out_ h
theorem b_eq (hc : c a0 a1 = true) : ∃ N, b N kr a0 a1 = (fun p => kr p.1 p.2) (v a0 a1) := ⟨Lib.big, (b_bind Lib.big kr a0 a1).trans (by rw [show b Lib.big (fun r0 r1 => some (r0, r1)) a0 a1 = some (v a0 a1) from Lib.some_ hc]; rfl)⟩
end Go.FG.Pu.laws_markEntryS

namespace Go.FG.Pu.laws_markStringS
def r2 {R : Type} (N : Nat) (g : Int → Int → Row → Option R) (k0 : Int → Int → Row → Option R) (x0 x1 : Int) (x2 : Row) : Option R := bif (decide (x1 < (↑(List.length x2) : Int))) then (bif (Pu.laws_markText.c x0) then (bif (decide (0 ≤ x1) && decide (x1 < (↑(List.length x2) : Int))) then (g (w64 (x0 + 1)) (w64 (x1 + 1)) (setC x2 (Int.toNat x1) 0 [CV.s (Pu.laws_markText.v x0)])) else (none)) else (none)) else (k0 x0 x1 x2)
def l2 {R : Type} (N : Nat) (k0 : Int → Int → Row → Option R) : Nat → Int → Int → Row → Option R
  | 0 => (fun _ _ _ => none)
  | n + 1 => (fun x0 x1 x2 => r2 N (l2 N k0 n) k0 x0 x1 x2)
def b {R : Type} (N : Nat) (kr : Int → Row → Option R) (a0 : Row) (a1 : Int) : Option R := l2 N (fun y3 y4 y5 => kr y3 y5) N a1 0 a0
theorem q2_bind {R S : Type} (f : R → Option S) (N : Nat) (k0 : Int → Int → Row → Option R) : ∀ n : Nat, (∀ (x0 x1 : Int) (x2 : Row), Option.bind (l2 N k0 n x0 x1 x2) f = l2 N (fun y0 y1 y2 => (Option.bind (k0 y0 y1 y2) f)) n x0 x1 x2) := by
  intro n
  induction n with
  | zero => exact (fun _ _ _ => rfl)
  | succ n ih =>
    intro x0 x1 x2
    simp only [l2, r2, Lib.lt_bind, Lib.cond_bind, Lib.some_bind, Lib.none_bind, ih]
variable {R : Type} (N : Nat) (kr : Int → Row → Option R) (a0 : Row) (a1 : Int)
theorem b_bind : b N kr a0 a1 = Option.bind (b N (fun r0 r1 => some (r0, r1)) a0 a1) (fun p => kr p.1 p.2) := by
  unfold b; simp only [Lib.lt_bind, Lib.cond_bind, Lib.some_bind, Lib.none_bind, q2_bind]
def vo : Option (Int × Row) := b Lib.big (fun r0 r1 => some (r0, r1)) a0 a1
def c : Bool := Option.isSome (vo a0 a1)
def v : Int × Row := Option.getD (vo a0 a1) (0, [])
theorem out {x : Int × Row} (h : vo a0 a1 = some x) : c a0 a1 = true ∧ v a0 a1 = x := Lib.out_ h
theorem b_eq (hc : c a0 a1 = true) : ∃ N, b N kr a0 a1 = (fun p => kr p.1 p.2) (v a0 a1) := ⟨Lib.big, (b_bind Lib.big kr a0 a1).trans (by rw [show b Lib.big (fun r0 r1 => some (r0, r1)) a0 a1 = some (v a0 a1) from Lib.some_ hc]; rfl)⟩
end Go.FG.Pu.laws_markStringS

namespace Go.FG.Pu.laws_markIntS
def r2 {R : Type} (N : Nat) (g : Int → Int → Row → Option R) (k0 : Int → Int → Row → Option R) (x0 x1 : Int) (x2 : Row) : Option R := bif (decide (x1 < (↑(List.length x2) : Int))) then (bif (decide (0 ≤ x1) && decide (x1 < (↑(List.length x2) : Int))) then (g (w64 (x0 + 1)) (w64 (x1 + 1)) (setC x2 (Int.toNat x1) 0 [CV.i IntKind.i64 x0])) else (none)) else (k0 x0 x1 x2)
def l2 {R : Type} (N : Nat) (k0 : Int → Int → Row → Option R) : Nat → Int → Int → Row → Option R
  | 0 => (fun _ _ _ => none)
  | n + 1 => (fun x0 x1 x2 => r2 N (l2 N k0 n) k0 x0 x1 x2)
def b {R : Type} (N : Nat) (kr : Int → Row → Option R) (a0 : Row) (a1 : Int) : Option R := l2 N (fun y3 y4 y5 => kr y3 y5) N a1 0 a0
theorem q2_bind {R S : Type} (f : R → Option S) (N : Nat) (k0 : Int → Int → Row → Option R) : ∀ n : Nat, (∀ (x0 x1 : Int) (x2 : Row), Option.bind (l2 N k0 n x0 x1 x2) f = l2 N (fun y0 y1 y2 => (Option.bind (k0 y0 y1 y2) f)) n x0 x1 x2) := by
  intro n
  induction n with
  | zero => exact (fun _ _ _ => rfl)
  | succ n ih =>
    intro x0 x1 x2
    simp only [l2, r2, Lib.lt_bind, Lib.cond_bind, Lib.some_bind, Lib.none_bind, ih]
variable {R : Type} (N : Nat) (kr : Int → Row → Option R) (a0 : Row) (a1 : Int)
theorem b_bind : b N kr a0 a1 = Option.bind (b N (fun r0 r1 => some (r0, r1)) a0 a1) (fun p => kr p.1 p.2) := by
  unfold b; simp only [Lib.lt_bind, Lib.cond_bind, Lib.some_bind, Lib.none_bind, q2_bind]
def vo : Option (Int × Row) := b Lib.big (fun r0 r1 => some (r0, r1)) a0 a1
def c : Bool := Option.isSome (vo a0 a1)
def v : Int × Row := Option.getD (vo a0 a1) (0, [])
theorem out {x : Int × Row} (h : vo a0 a1 = some x) : c a0 a1 = true ∧ v a0 a1 = x := Lib.out_ h
theorem b_eq (hc : c a0 a1 = true) : ∃ N, b N kr a0 a1 = (fun p => kr p.1 p.2) (v a0 a1) := ⟨Lib.big, (b_bind Lib.big kr a0 a1).trans (by rw [show b Lib.big (fun r0 r1 => some (r0, r1)) a0 a1 = some (v a0 a1) from Lib.some_ hc]; rfl)⟩
end Go.FG.Pu.laws_markIntS

namespace Go.FG.Pu.laws_markIntSS
def r2 {R : Type} (N : Nat) (g : Int → Int → Row → Option R) (k0 : Int → Int → Row → Option R) (x0 x1 : Int) (x2 : Row) : Option R := bif (decide (x1 < (↑(List.length x2) : Int))) then (bif (decide (0 ≤ x1) && decide (x1 < (↑(List.length x2) : Int))) then (bif (Pu.laws_markIntS.c (cvL (cellAt x2 (Int.toNat x1) 0)) x0) then (g ((Pu.laws_markIntS.v (cvL (cellAt x2 (Int.toNat x1) 0)) x0).1) (w64 (x1 + 1)) (setC x2 (Int.toNat x1) 0 [CV.l 3 (Pu.laws_markIntS.v (cvL (cellAt x2 (Int.toNat x1) 0)) x0).2])) else (none)) else (none)) else (k0 x0 x1 x2)
def l2 {R : Type} (N : Nat) (k0 : Int → Int → Row → Option R) : Nat → Int → Int → Row → Option R
  | 0 => (fun _ _ _ => none)
  | n + 1 => (fun x0 x1 x2 => r2 N (l2 N k0 n) k0 x0 x1 x2)
def b {R : Type} (N : Nat) (kr : Int → Row → Option R) (a0 : Row) (a1 : Int) : Option R := l2 N (fun y3 y4 y5 => kr y3 y5) N a1 0 a0
theorem q2_bind {R S : Type} (f : R → Option S) (N : Nat) (k0 : Int → Int → Row → Option R) : ∀ n : Nat, (∀ (x0 x1 : Int) (x2 : Row), Option.bind (l2 N k0 n x0 x1 x2) f = l2 N (fun y0 y1 y2 => (Option.bind (k0 y0 y1 y2) f)) n x0 x1 x2) := by
  intro n
  induction n with
  | zero => exact (fun _ _ _ => rfl)
  | succ n ih =>
    intro x0 x1 x2
    simp only [l2, r2, Lib.lt_bind, Lib.cond_bind, Lib.some_bind, Lib.none_bind, ih]
variable {R : Type} (N : Nat) (kr : Int → Row → Option R) (a0 : Row) (a1 : Int)
theorem b_bind : b N kr a0 a1 = Option.bind (b N (fun r0 r1 => some (r0, r1)) a0 a1) (fun p => kr p.1 p.2) := by
  unfold b; simp only [Lib.lt_bind, Lib.cond_bind, Lib.some_bind, Lib.none_bind, q2_bind]
def vo : Option (Int × Row) := b Lib.big (fun r0 r1 => some (r0, r1)) a0 a1
def c : Bool := Option.isSome (vo a0 a1)
def v : Int × Row := Option.getD (vo a0 a1) (0, [])
theorem out {x : Int × Row} (h : vo a0 a1 = some x) : c a0 a1 = true ∧ v a0 a1 = x := Lib.out_ h
theorem b_eq (hc : c a0 a1 = true) : ∃ N, b N kr a0 a1 = (fun p => kr p.1 p.2) (v a0 a1) := ⟨Lib.big, (b_bind Lib.big kr a0 a1).trans (by rw [show b Lib.big (fun r0 r1 => some (r0, r1)) a0 a1 = some (v a0 a1) from Lib.some_ hc]; rfl)⟩
end Go.FG.Pu.laws_markIntSS

namespace Go.FG.Pu.laws_markSketch
def b {R : Type} (kr : Int → Row → Option R) (a0 : Row) (a1 a2 : Int) : Option R := bif (Pu.laws_markIntSS.c a0 a2) then (kr ((Pu.laws_markIntSS.v a0 a2).1) ((Pu.laws_markIntSS.v a0 a2).2)) else (none)
variable {R : Type} (kr : Int → Row → Option R) (a0 : Row) (a1 a2 : Int)
theorem b_bind : b kr a0 a1 a2 = Option.bind (b (fun r0 r1 => some (r0, r1)) a0 a1 a2) (fun p => kr p.1 p.2) := by
  unfold b; simp only [Lib.lt_bind, Lib.cond_bind, Lib.some_bind, Lib.none_bind]
def vo : Option (Int × Row) := b (fun r0 r1 => some (r0, r1)) a0 a1 a2
def c : Bool := Option.isSome (vo a0 a1 a2)
def v : Int × Row := Option.getD (vo a0 a1 a2) (0, [])
theorem out {x : Int × Row} (h : vo a0 a1 a2 = some x) : c a0 a1 a2 = true ∧ v a0 a1 a2 = x := Lib.out_ h
theorem b_eq (hc : c a0 a1 a2 = true) : b kr a0 a1 a2 = (fun p => kr p.1 p.2) (v a0 a1 a2) := (b_bind kr a0 a1 a2).trans (by rw [show b (fun r0 r1 => some (r0, r1)) a0 a1 a2 = some (v a0 a1 a2) from Lib.some_ hc]; rfl)
end Go.FG.Pu.laws_markSketch

namespace Go.FG.Pu.laws_markPolicy
def b {R : Type} (kr : Int → Row → Row → Row → Option R) (a0 a1 a2 : Row) (a3 a4 : Int) : Option R := bif (Pu.laws_markStringS.c a0 a4) then (bif (Pu.laws_markStringS.c a1 (Pu.laws_markStringS.v a0 a4).1) then (bif (Pu.laws_markSketch.c a2 a3 (Pu.laws_markStringS.v a1 (Pu.laws_markStringS.v a0 a4).1).1) then (kr ((Pu.laws_markSketch.v a2 a3 (Pu.laws_markStringS.v a1 (Pu.laws_markStringS.v a0 a4).1).1).1) ((Pu.laws_markStringS.v a0 a4).2) ((Pu.laws_markStringS.v a1 (Pu.laws_markStringS.v a0 a4).1).2) ((Pu.laws_markSketch.v a2 a3 (Pu.laws_markStringS.v a1 (Pu.laws_markStringS.v a0 a4).1).1).2)) else (none)) else (none)) else (none)
variable {R : Type} (kr : Int → Row → Row → Row → Option R) (a0 a1 a2 : Row) (a3 a4 : Int)
theorem b_bind : b kr a0 a1 a2 a3 a4 = Option.bind (b (fun r0 r1 r2 r3 => some (r0, r1, r2, r3)) a0 a1 a2 a3 a4) (fun p => kr p.1 p.2.1 p.2.2.1 p.2.2.2) := by
  unfold b; simp only [Lib.lt_bind, Lib.cond_bind, Lib.some_bind, Lib.none_bind]
def vo : Option (Int × Row × Row × Row) := b (fun r0 r1 r2 r3 => some (r0, r1, r2, r3)) a0 a1 a2 a3 a4
def c : Bool := Option.isSome (vo a0 a1 a2 a3 a4)
def v : Int × Row × Row × Row := Option.getD (vo a0 a1 a2 a3 a4) (0, [], [], [])
theorem out {x : Int × Row × Row × Row} (h : vo a0 a1 a2 a3 a4 = some x) : c a0 a1 a2 a3 a4 = true ∧ v a0 a1 a2 a3 a4 = x := Lib.out_ h
theorem b_eq (hc : c a0 a1 a2 a3 a4 = true) : b kr a0 a1 a2 a3 a4 = (fun p => kr p.1 p.2.1 p.2.2.1 p.2.2.2) (v a0 a1 a2 a3 a4) := (b_bind kr a0 a1 a2 a3 a4).trans (by rw [show b (fun r0 r1 r2 r3 => some (r0, r1, r2, r3)) a0 a1 a2 a3 a4 = some (v a0 a1 a2 a3 a4) from Lib.some_ hc]; rfl)
end Go.FG.Pu.laws_markPolicy

namespace Go.FG.Pu.laws_markFetchS
def r2 {R : Type} (N : Nat) (g : Int → Int → Row → Option R) (k0 : Int → Int → Row → Option R) (x0 x1 : Int) (x2 : Row) : Option R := bif (decide (x1 < (↑(List.length x2) : Int))) then (bif (Pu.laws_markText.c x0) then (bif (decide (0 ≤ x1) && decide (x1 < (↑(List.length x2) : Int))) then (bif (Pu.laws_markText.c (w64 (x0 + 1))) then (bif (decide (0 ≤ x1) && decide (x1 < (↑(List.length (setC x2 (Int.toNat x1) 0 [CV.s (Pu.laws_markText.v x0)])) : Int))) then (bif (decide (0 ≤ x1) && decide (x1 < (↑(List.length (setC (setC x2 (Int.toNat x1) 0 [CV.s (Pu.laws_markText.v x0)]) (Int.toNat x1) 1 [CV.s (Pu.laws_markText.v (w64 (x0 + 1)))])) : Int))) then (bif (decide (0 ≤ x1) && decide (x1 < (↑(List.length (setC (setC (setC x2 (Int.toNat x1) 0 [CV.s (Pu.laws_markText.v x0)]) (Int.toNat x1) 1 [CV.s (Pu.laws_markText.v (w64 (x0 + 1)))]) (Int.toNat x1) 2 [CV.i IntKind.i64 (w64 (w64 (x0 + 1) + 1))])) : Int))) then (bif (decide (0 ≤ x1) && decide (x1 < (↑(List.length (setC (setC (setC (setC x2 (Int.toNat x1) 0 [CV.s (Pu.laws_markText.v x0)]) (Int.toNat x1) 1 [CV.s (Pu.laws_markText.v (w64 (x0 + 1)))]) (Int.toNat x1) 2 [CV.i IntKind.i64 (w64 (w64 (x0 + 1) + 1))]) (Int.toNat x1) 3 [CV.i IntKind.i64 (w64 (w64 (w64 (x0 + 1) + 1) + 1))])) : Int))) then (g (w64 (w64 (w64 (w64 (w64 (x0 + 1) + 1) + 1) + 1) + 1)) (w64 (x1 + 1)) (setC (setC (setC (setC (setC x2 (Int.toNat x1) 0 [CV.s (Pu.laws_markText.v x0)]) (Int.toNat x1) 1 [CV.s (Pu.laws_markText.v (w64 (x0 + 1)))]) (Int.toNat x1) 2 [CV.i IntKind.i64 (w64 (w64 (x0 + 1) + 1))]) (Int.toNat x1) 3 [CV.i IntKind.i64 (w64 (w64 (w64 (x0 + 1) + 1) + 1))]) (Int.toNat x1) 4 [CV.i IntKind.i64 (w64 (w64 (w64 (w64 (x0 + 1) + 1) + 1) + 1))])) else (none)) else (none)) else (none)) else (none)) else (none)) else (none)) else (none)) else (k0 x0 x1 x2)
def l2 {R : Type} (N : Nat) (k0 : Int → Int → Row → Option R) : Nat → Int → Int → Row → Option R
  | 0 => (fun _ _ _ => none)
  | n + 1 => (fun x0 x1 x2 => r2 N (l2 N k0 n) k0 x0 x1 x2)
def b {R : Type} (N : Nat) (kr : Int → Row → Option R) (a0 : Row) (a1 : Int) : Option R := l2 N (fun y3 y4 y5 => kr y3 y5) N a1 0 a0
theorem q2_bind {R S : Type} (f : R → Option S) (N : Nat) (k0 : Int → Int → Row → Option R) : ∀ n : Nat, (∀ (x0 x1 : Int) (x2 : Row), Option.bind (l2 N k0 n x0 x1 x2) f = l2 N (fun y0 y1 y2 => (Option.bind (k0 y0 y1 y2) f)) n x0 x1 x2) := by
  intro n
  induction n with
  | zero => exact (fun _ _ _ => rfl)
  | succ n ih =>
    intro x0 x1 x2
    simp only [l2, r2, Lib.lt_bind, Lib.cond_bind, Lib.some_bind, Lib.none_bind, ih]
variable {R : Type} (N : Nat) (kr : Int → Row → Option R) (a0 : Row) (a1 : Int)
theorem b_bind : b N kr a0 a1 = Option.bind (b N (fun r0 r1 => some (r0, r1)) a0 a1) (fun p => kr p.1 p.2) := by
  unfold b; simp only [Lib.lt_bind, Lib.cond_bind, Lib.some_bind, Lib.none_bind, q2_bind]
def vo : Option (Int × Row) := b Lib.big (fun r0 r1 => some (r0, r1)) a0 a1
def c : Bool := Option.isSome (vo a0 a1)
def v : Int × Row := Option.getD (vo a0 a1) (0, [])
theorem out {x : Int × Row} (h : vo a0 a1 = some x) : c a0 a1 = true ∧ v a0 a1 = x := Lib.out_ h
theorem b_eq (hc : c a0 a1 = true) : ∃ N, b N kr a0 a1 = (fun p => kr p.1 p.2) (v a0 a1) := ⟨Lib.big, (b_bind Lib.big kr a0 a1).trans (by rw [show b Lib.big (fun r0 r1 => some (r0, r1)) a0 a1 = some (v a0 a1) from Lib.some_ hc]; rfl)⟩
end Go.FG.Pu.laws_markFetchS

namespace Go.FG.Pu.laws_markClientS
def r2 {R : Type} (N : Nat) (g : Int → Int → Row → Option R) (k0 : Int → Int → Row → Option R) (x0 x1 : Int) (x2 : Row) : Option R := bif (decide (x1 < (↑(List.length x2) : Int))) then (bif (decide (0 ≤ x1) && decide (x1 < (↑(List.length x2) : Int))) then (bif (Pu.laws_markText.c (w64 (x0 + 1))) then (bif (decide (0 ≤ x1) && decide (x1 < (↑(List.length (setC x2 (Int.toNat x1) 0 [CV.i IntKind.i64 x0])) : Int))) then (bif (decide (0 ≤ x1) && decide (x1 < (↑(List.length (setC (setC x2 (Int.toNat x1) 0 [CV.i IntKind.i64 x0]) (Int.toNat x1) 1 [CV.s (Pu.laws_markText.v (w64 (x0 + 1)))])) : Int))) then (bif (decide (0 ≤ x1) && decide (x1 < (↑(List.length (setC (setC (setC x2 (Int.toNat x1) 0 [CV.i IntKind.i64 x0]) (Int.toNat x1) 1 [CV.s (Pu.laws_markText.v (w64 (x0 + 1)))]) (Int.toNat x1) 2 [CV.i IntKind.i64 (w64 (w64 (x0 + 1) + 1))])) : Int))) then (bif (decide (0 ≤ x1) && decide (x1 < (↑(List.length (setC (setC (setC (setC x2 (Int.toNat x1) 0 [CV.i IntKind.i64 x0]) (Int.toNat x1) 1 [CV.s (Pu.laws_markText.v (w64 (x0 + 1)))]) (Int.toNat x1) 2 [CV.i IntKind.i64 (w64 (w64 (x0 + 1) + 1))]) (Int.toNat x1) 3 [CV.i IntKind.i64 (w64 (w64 (w64 (x0 + 1) + 1) + 1))])) : Int))) then (bif (Pu.laws_markText.c (w64 (w64 (w64 (w64 (w64 (x0 + 1) + 1) + 1) + 1) + 1))) then (bif (decide (0 ≤ x1) && decide (x1 < (↑(List.length (setC (setC (setC (setC (setC x2 (Int.toNat x1) 0 [CV.i IntKind.i64 x0]) (Int.toNat x1) 1 [CV.s (Pu.laws_markText.v (w64 (x0 + 1)))]) (Int.toNat x1) 2 [CV.i IntKind.i64 (w64 (w64 (x0 + 1) + 1))]) (Int.toNat x1) 3 [CV.i IntKind.i64 (w64 (w64 (w64 (x0 + 1) + 1) + 1))]) (Int.toNat x1) 4 [CV.i IntKind.i64 (w64 (w64 (w64 (w64 (x0 + 1) + 1) + 1) + 1))])) : Int))) then (bif (decide (0 ≤ x1) && decide (x1 < (↑(List.length (setC (setC (setC (setC (setC (setC x2 (Int.toNat x1) 0 [CV.i IntKind.i64 x0]) (Int.toNat x1) 1 [CV.s (Pu.laws_markText.v (w64 (x0 + 1)))]) (Int.toNat x1) 2 [CV.i IntKind.i64 (w64 (w64 (x0 + 1) + 1))]) (Int.toNat x1) 3 [CV.i IntKind.i64 (w64 (w64 (w64 (x0 + 1) + 1) + 1))]) (Int.toNat x1) 4 [CV.i IntKind.i64 (w64 (w64 (w64 (w64 (x0 + 1) + 1) + 1) + 1))]) (Int.toNat x1) 5 [CV.s (Pu.laws_markText.v (w64 (w64 (w64 (w64 (w64 (x0 + 1) + 1) + 1) + 1) + 1)))])) : Int))) then (g (w64 (w64 (w64 (w64 (w64 (w64 (w64 (x0 + 1) + 1) + 1) + 1) + 1) + 1) + 1)) (w64 (x1 + 1)) (setC (setC (setC (setC (setC (setC (setC x2 (Int.toNat x1) 0 [CV.i IntKind.i64 x0]) (Int.toNat x1) 1 [CV.s (Pu.laws_markText.v (w64 (x0 + 1)))]) (Int.toNat x1) 2 [CV.i IntKind.i64 (w64 (w64 (x0 + 1) + 1))]) (Int.toNat x1) 3 [CV.i IntKind.i64 (w64 (w64 (w64 (x0 + 1) + 1) + 1))]) (Int.toNat x1) 4 [CV.i IntKind.i64 (w64 (w64 (w64 (w64 (x0 + 1) + 1) + 1) + 1))]) (Int.toNat x1) 5 [CV.s (Pu.laws_markText.v (w64 (w64 (w64 (w64 (w64 (x0 + 1) + 1) + 1) + 1) + 1)))]) (Int.toNat x1) 6 [CV.i IntKind.i64 (w64 (w64 (w64 (w64 (w64 (w64 (x0 + 1) + 1) + 1) + 1) + 1) + 1))])) else (none)) else (none)) else (none)) else (none)) else (none)) else (none)) else (none)) else (none)) else (none)) else (k0 x0 x1 x2)
def l2 {R : Type} (N : Nat) (k0 : Int → Int → Row → Option R) : Nat → Int → Int → Row → Option R
  | 0 => (fun _ _ _ => none)
  | n + 1 => (fun x0 x1 x2 => r2 N (l2 N k0 n) k0 x0 x1 x2)
def b {R : Type} (N : Nat) (kr : Int → Row → Option R) (a0 : Row) (a1 : Int) : Option R := l2 N (fun y3 y4 y5 => kr y3 y5) N a1 0 a0
theorem q2_bind {R S : Type} (f : R → Option S) (N : Nat) (k0 : Int → Int → Row → Option R) : ∀ n : Nat, (∀ (x0 x1 : Int) (x2 : Row), Option.bind (l2 N k0 n x0 x1 x2) f = l2 N (fun y0 y1 y2 => (Option.bind (k0 y0 y1 y2) f)) n x0 x1 x2) := by
  intro n
  induction n with
  | zero => exact (fun _ _ _ => rfl)
  | succ n ih =>
    intro x0 x1 x2
    simp only [l2, r2, Lib.lt_bind, Lib.cond_bind, Lib.some_bind, Lib.none_bind, ih]
variable {R : Type} (N : Nat) (kr : Int → Row → Option R) (a0 : Row) (a1 : Int)
theorem b_bind : b N kr a0 a1 = Option.bind (b N (fun r0 r1 => some (r0, r1)) a0 a1) (fun p => kr p.1 p.2) := by
  unfold b; simp only [Lib.lt_bind, Lib.cond_bind, Lib.some_bind, Lib.none_bind, q2_bind]
def vo : Option (Int × Row) := b Lib.big (fun r0 r1 => some (r0, r1)) a0 a1
def c : Bool := Option.isSome (vo a0 a1)
def v : Int × Row := Option.getD (vo a0 a1) (0, [])
theorem out {x : Int × Row} (h : vo a0 a1 = some x) : c a0 a1 = true ∧ v a0 a1 = x := Lib.out_ h
theorem b_eq (hc : c a0 a1 = true) : ∃ N, b N kr a0 a1 = (fun p => kr p.1 p.2) (v a0 a1) := ⟨Lib.big, (b_bind Lib.big kr a0 a1).trans (by rw [show b Lib.big (fun r0 r1 => some (r0, r1)) a0 a1 = some (v a0 a1) from Lib.some_ hc]; rfl)⟩
end Go.FG.Pu.laws_markClientS

namespace Go.FG.Pu.laws_markProxy
def b {R : Type} (kr : Int → Row → Row → Row → Row → Row → Row → Option R) (a0 : Int) (a1 a2 a3 a4 : Row) (a5 : Int) (a6 a7 : Row) (a8 a9 : Int) : Option R := bif (Pu.laws_markEntryS.c a1 a9) then (bif (Pu.laws_markPolicy.c a2 a3 a4 a5 (Pu.laws_markEntryS.v a1 a9).1) then (bif (Pu.laws_markFetchS.c a6 (Pu.laws_markPolicy.v a2 a3 a4 a5 (Pu.laws_markEntryS.v a1 a9).1).1) then (bif (Pu.laws_markClientS.c a7 (Pu.laws_markFetchS.v a6 (Pu.laws_markPolicy.v a2 a3 a4 a5 (Pu.laws_markEntryS.v a1 a9).1).1).1) then (kr ((Pu.laws_markClientS.v a7 (Pu.laws_markFetchS.v a6 (Pu.laws_markPolicy.v a2 a3 a4 a5 (Pu.laws_markEntryS.v a1 a9).1).1).1).1) ((Pu.laws_markEntryS.v a1 a9).2) ((Pu.laws_markPolicy.v a2 a3 a4 a5 (Pu.laws_markEntryS.v a1 a9).1).2.1) ((Pu.laws_markPolicy.v a2 a3 a4 a5 (Pu.laws_markEntryS.v a1 a9).1).2.2.1) ((Pu.laws_markPolicy.v a2 a3 a4 a5 (Pu.laws_markEntryS.v a1 a9).1).2.2.2) ((Pu.laws_markFetchS.v a6 (Pu.laws_markPolicy.v a2 a3 a4 a5 (Pu.laws_markEntryS.v a1 a9).1).1).2) ((Pu.laws_markClientS.v a7 (Pu.laws_markFetchS.v a6 (Pu.laws_markPolicy.v a2 a3 a4 a5 (Pu.laws_markEntryS.v a1 a9).1).1).1).2)) else (none)) else (none)) else (none)) else (none)
variable {R : Type} (kr : Int → Row → Row → Row → Row → Row → Row → Option R) (a0 : Int) (a1 a2 a3 a4 : Row) (a5 : Int) (a6 a7 : Row) (a8 a9 : Int)
theorem b_bind : b kr a0 a1 a2 a3 a4 a5 a6 a7 a8 a9 = Option.bind (b (fun r0 r1 r2 r3 r4 r5 r6 => some (r0, r1, r2, r3, r4, r5, r6)) a0 a1 a2 a3 a4 a5 a6 a7 a8 a9) (fun p => kr p.1 p.2.1 p.2.2.1 p.2.2.2.1 p.2.2.2.2.1 p.2.2.2.2.2.1 p.2.2.2.2.2.2) := by
  unfold b; simp only [Lib.lt_bind, Lib.cond_bind, Lib.some_bind, Lib.none_bind]
def vo : Option (Int × Row × Row × Row × Row × Row × Row) := b (fun r0 r1 r2 r3 r4 r5 r6 => some (r0, r1, r2, r3, r4, r5, r6)) a0 a1 a2 a3 a4 a5 a6 a7 a8 a9
def c : Bool := Option.isSome (vo a0 a1 a2 a3 a4 a5 a6 a7 a8 a9)
def v : Int × Row × Row × Row × Row × Row × Row := Option.getD (vo a0 a1 a2 a3 a4 a5 a6 a7 a8 a9) (0, [], [], [], [], [], [])
theorem out {x : Int × Row × Row × Row × Row × Row × Row} (h : vo a0 a1 a2 a3 a4 a5 a6 a7 a8 a9 = some x) : c a0 a1 a2 a3 a4 a5 a6 a7 a8 a9 = true ∧ v a0 a1 a2 a3 a4 a5 a6 a7 a8 a9 = x := Lib.out_ h
theorem b_eq (hc : c a0 a1 a2 a3 a4 a5 a6 a7 a8 a9 = true) : b kr a0 a1 a2 a3 a4 a5 a6 a7 a8 a9 = (fun p => kr p.1 p.2.1 p.2.2.1 p.2.2.2.1 p.2.2.2.2.1 p.2.2.2.2.2.1 p.2.2.2.2.2.2) (v a0 a1 a2 a3 a4 a5 a6 a7 a8 a9) := (b_bind kr a0 a1 a2 a3 a4 a5 a6 a7 a8 a9).trans (by rw [show b (fun r0 r1 r2 r3 r4 r5 r6 => some (r0, r1, r2, r3, r4, r5, r6)) a0 a1 a2 a3 a4 a5 a6 a7 a8 a9 = some (v a0 a1 a2 a3 a4 a5 a6 a7 a8 a9) from Lib.some_ hc]; rfl)
end Go.FG.Pu.laws_markProxy

namespace Go.FG.Pu.laws_heldEntryS
def r2 {R : Type} (N : Nat) (g : Row → Int → Int → Int → Option R) (k0 : Row → Int → Int → Int → Option R) (k1 : Row → Int → Int → Int → Option R) (x0 : Row) (x1 x2 x3 : Int) : Option R := bif (decide (x3 < (↑(List.length x0) : Int))) then (bif (decide (0 ≤ x3) && decide (x3 < (↑(List.length x0) : Int))) then (bif (Pu.laws_markText.c x1) then (bif (!List.beq (ByteArray.toList (cvS (cellAt x0 (Int.toNat x3) 0))) (ByteArray.toList (Pu.laws_markText.v x1))) then (k0 x0 x1 (-1) x3) else (bif (decide (0 ≤ x3) && decide (x3 < (↑(List.length x0) : Int))) then (bif (cvI (cellAt x0 (Int.toNat x3) 1) != w64 (x1 + 1)) then (k0 x0 (w64 (x1 + 1)) (-1) x3) else (bif (decide (0 ≤ x3) && decide (x3 < (↑(List.length x0) : Int))) then (bif (cvI (cellAt x0 (Int.toNat x3) 2) != w64 (w64 (x1 + 1) + 1)) then (k0 x0 (w64 (w64 (x1 + 1) + 1)) (-1) x3) else (bif (decide (0 ≤ x3) && decide (x3 < (↑(List.length x0) : Int))) then (bif (Pu.laws_markText.c (w64 (w64 (w64 (x1 + 1) + 1) + 1))) then (bif (!List.beq (ByteArray.toList (cvS (cellAt x0 (Int.toNat x3) 3))) (ByteArray.toList (Pu.laws_markText.v (w64 (w64 (w64 (x1 + 1) + 1) + 1))))) then (k0 x0 (w64 (w64 (w64 (x1 + 1) + 1) + 1)) (-1) x3) else (g x0 (w64 (w64 (w64 (w64 (x1 + 1) + 1) + 1) + 1)) x2 (w64 (x3 + 1)))) else (none)) else (none))) else (none))) else (none))) else (none)) else (none)) else (k1 x0 x1 x2 x3)
def l2 {R : Type} (N : Nat) (k0 : Row → Int → Int → Int → Option R) (k1 : Row → Int → Int → Int → Option R) : Nat → Row → Int → Int → Int → Option R
  | 0 => (fun _ _ _ _ => none)
  | n + 1 => (fun x0 x1 x2 x3 => r2 N (l2 N k0 k1 n) k0 k1 x0 x1 x2 x3)
def b {R : Type} (N : Nat) (kr : Int → Option R) (a0 : Row) (a1 : Int) : Option R := l2 N (fun y4 y5 y6 y7 => kr y6) (fun y8 y9 y10 y11 => kr y9) N a0 a1 0 0
theorem q2_bind {R S : Type} (f : R → Option S) (N : Nat) (k0 : Row → Int → Int → Int → Option R) (k1 : Row → Int → Int → Int → Option R) : ∀ n : Nat, (∀ (x0 : Row) (x1 x2 x3 : Int), Option.bind (l2 N k0 k1 n x0 x1 x2 x3) f = l2 N (fun y0 y1 y2 y3 => (Option.bind (k0 y0 y1 y2 y3) f)) (fun y0 y1 y2 y3 => (Option.bind (k1 y0 y1 y2 y3) f)) n x0 x1 x2 x3) := by
  intro n
  induction n with
  | zero => exact (fun _ _ _ _ => rfl)
  | succ n ih =>
    intro x0 x1 x2 x3
    simp only [l2, r2, Lib.lt_bind, Lib.cond_bind, Lib.some_bind, Lib.none_bind, ih]
variable {R : Type} (N : Nat) (kr : Int → Option R) (a0 : Row) (a1 : Int)
theorem b_bind : b N kr a0 a1 = Option.bind (b N (fun r0 => some (r0)) a0 a1) (fun p => kr p) := by
  unfold b; simp only [Lib.lt_bind, Lib.cond_bind, Lib.some_bind, Lib.none_bind, q2_bind]
def vo : Option (Int) := b Lib.big (fun r0 => some (r0)) a0 a1
def c : Bool := Option.isSome (vo a0 a1)
def v : Int := Option.getD (vo a0 a1) (0)
theorem out {x : Int} (h : vo a0 a1 = some x) : c a0 a1 = true ∧ v a0 a1 = x := Lib.out_ h
theorem b_eq (hc : c a0 a1 = true) : ∃ N, b N kr a0 a1 = (fun p => kr p) (v a0 a1) := ⟨Lib.big, (b_bind Lib.big kr a0 a1).trans (by rw [show b Lib.big (fun r0 => some (r0)) a0 a1 = some (v a0 a1) from Lib.some_ hc]; rfl)⟩
end Go.FG.Pu.laws_heldEntryS

namespace Go.FG.Pu.laws_heldStringS
def r2 {R : Type} (N : Nat) (g : Row → Int → Int → Int → Option R) (k0 : Row → Int → Int → Int → Option R) (k1 : Row → Int → Int → Int → Option R) (x0 : Row) (x1 x2 x3 : Int) : Option R := bif (decide (x3 < (↑(List.length x0) : Int))) then (bif (decide (0 ≤ x3) && decide (x3 < (↑(List.length x0) : Int))) then (bif (Pu.laws_markText.c x1) then (bif (!List.beq (ByteArray.toList (cvS (cellAt x0 (Int.toNat x3) 0))) (ByteArray.toList (Pu.laws_markText.v x1))) then (k0 x0 x1 (-1) x3) else (g x0 (w64 (x1 + 1)) x2 (w64 (x3 + 1)))) else (none)) else (none)) else (k1 x0 x1 x2 x3)
def l2 {R : Type} (N : Nat) (k0 : Row → Int → Int → Int → Option R) (k1 : Row → Int → Int → Int → Option R) : Nat → Row → Int → Int → Int → Option R
  | 0 => (fun _ _ _ _ => none)
  | n + 1 => (fun x0 x1 x2 x3 => r2 N (l2 N k0 k1 n) k0 k1 x0 x1 x2 x3)
def b {R : Type} (N : Nat) (kr : Int → Option R) (a0 : Row) (a1 : Int) : Option R := l2 N (fun y4 y5 y6 y7 => kr y6) (fun y8 y9 y10 y11 => kr y9) N a0 a1 0 0
theorem q2_bind {R S : Type} (f : R → Option S) (N : Nat) (k0 : Row → Int → Int → Int → Option R) (k1 : Row → Int → Int → Int → Option R) : ∀ n : Nat, (∀ (x0 : Row) (x1 x2 x3 : Int), Option.bind (l2 N k0 k1 n x0 x1 x2 x3) f = l2 N (fun y0 y1 y2 y3 => (Option.bind (k0 y0 y1 y2 y3) f)) (fun y0 y1 y2 y3 => (Option.bind (k1 y0 y1 y2 y3) f)) n x0 x1 x2 x3) := by
  intro n
  induction n with
  | zero => exact (fun _ _ _ _ => rfl)
  | succ n ih =>
    intro x0 x1 x2 x3
    simp only [l2, r2, Lib.lt_bind, Lib.cond_bind, Lib.some_bind, Lib.none_bind, ih]
variable {R : Type} (N : Nat) (kr : Int → Option R) (a0 : Row) (a1 : Int)
theorem b_bind : b N kr a0 a1 = Option.bind (b N (fun r0 => some (r0)) a0 a1) (fun p => kr p) := by
  unfold b; simp only [Lib.lt_bind, Lib.cond_bind, Lib.some_bind, Lib.none_bind, q2_bind]
def vo : Option (Int) := b Lib.big (fun r0 => some (r0)) a0 a1
def c : Bool := Option.isSome (vo a0 a1)
def v : Int := Option.getD (vo a0 a1) (0)
theorem out {x : Int} (h : vo a0 a1 = some x) : c a0 a1 = true ∧ v a0 a1 = x := Lib.out_ h
theorem b_eq (hc : c a0 a1 = true) : ∃ N, b N kr a0 a1 = (fun p => kr p) (v a0 a1) := ⟨Lib.big, (b_bind Lib.big kr a0 a1).trans (by rw [show b Lib.big (fun r0 => some (r0)) a0 a1 = some (v a0 a1) from Lib.some_ hc]; rfl)⟩
end Go.FG.Pu.laws_heldStringS

namespace Go.FG.Pu.laws_heldIntS
def r2 {R : Type} (N : Nat) (g : Row → Int → Int → Int → Option R) (k0 : Row → Int → Int → Int → Option R) (k1 : Row → Int → Int → Int → Option R) (x0 : Row) (x1 x2 x3 : Int) : Option R := bif (decide (x3 < (↑(List.length x0) : Int))) then (bif (decide (0 ≤ x3) && decide (x3 < (↑(List.length x0) : Int))) then (bif (cvI (cellAt x0 (Int.toNat x3) 0) != x1) then (k0 x0 x1 (-1) x3) else (g x0 (w64 (x1 + 1)) x2 (w64 (x3 + 1)))) else (none)) else (k1 x0 x1 x2 x3)
def l2 {R : Type} (N : Nat) (k0 : Row → Int → Int → Int → Option R) (k1 : Row → Int → Int → Int → Option R) : Nat → Row → Int → Int → Int → Option R
  | 0 => (fun _ _ _ _ => none)
  | n + 1 => (fun x0 x1 x2 x3 => r2 N (l2 N k0 k1 n) k0 k1 x0 x1 x2 x3)
def b {R : Type} (N : Nat) (kr : Int → Option R) (a0 : Row) (a1 : Int) : Option R := l2 N (fun y4 y5 y6 y7 => kr y6) (fun y8 y9 y10 y11 => kr y9) N a0 a1 0 0
theorem q2_bind {R S : Type} (f : R → Option S) (N : Nat) (k0 : Row → Int → Int → Int → Option R) (k1 : Row → Int → Int → Int → Option R) : ∀ n : Nat, (∀ (x0 : Row) (x1 x2 x3 : Int), Option.bind (l2 N k0 k1 n x0 x1 x2 x3) f = l2 N (fun y0 y1 y2 y3 => (Option.bind (k0 y0 y1 y2 y3) f)) (fun y0 y1 y2 y3 => (Option.bind (k1 y0 y1 y2 y3) f)) n x0 x1 x2 x3) := by
  intro n
  induction n with
  | zero => exact (fun _ _ _ _ => rfl)
  | succ n ih =>
    intro x0 x1 x2 x3
    simp only [l2, r2, Lib.lt_bind, Lib.cond_bind, Lib.some_bind, Lib.none_bind, ih]
variable {R : Type} (N : Nat) (kr : Int → Option R) (a0 : Row) (a1 : Int)
theorem b_bind : b N kr a0 a1 = Option.bind (b N (fun r0 => some (r0)) a0 a1) (fun p => kr p) := by
  unfold b; simp only [Lib.lt_bind, Lib.cond_bind, Lib.some_bind, Lib.none_bind, q2_bind]
def vo : Option (Int) := b Lib.big (fun r0 => some (r0)) a0 a1
def c : Bool := Option.isSome (vo a0 a1)
def v : Int := Option.getD (vo a0 a1) (0)
theorem out {x : Int} (h : vo a0 a1 = some x) : c a0 a1 = true ∧ v a0 a1 = x := Lib.out_ h
theorem b_eq (hc : c a0 a1 = true) : ∃ N, b N kr a0 a1 = (fun p => kr p) (v a0 a1) := ⟨Lib.big, (b_bind Lib.big kr a0 a1).trans (by rw [show b Lib.big (fun r0 => some (r0)) a0 a1 = some (v a0 a1) from Lib.some_ hc]; rfl)⟩
end Go.FG.Pu.laws_heldIntS

namespace Go.FG.Pu.laws_heldIntSS
def r2 {R : Type} (N : Nat) (g : Row → Int → Int → Int → Option R) (k0 : Row → Int → Int → Int → Option R) (k1 : Row → Int → Int → Int → Option R) (x0 : Row) (x1 x2 x3 : Int) : Option R := bif (decide (x3 < (↑(List.length x0) : Int))) then (bif (decide (0 ≤ x3) && decide (x3 < (↑(List.length x0) : Int))) then (bif (Pu.laws_heldIntS.c (cvL (cellAt x0 (Int.toNat x3) 0)) x1) then (bif (decide (Pu.laws_heldIntS.v (cvL (cellAt x0 (Int.toNat x3) 0)) x1 < 0)) then (k0 x0 (Pu.laws_heldIntS.v (cvL (cellAt x0 (Int.toNat x3) 0)) x1) (-1) x3) else (g x0 (Pu.laws_heldIntS.v (cvL (cellAt x0 (Int.toNat x3) 0)) x1) x2 (w64 (x3 + 1)))) else (none)) else (none)) else (k1 x0 x1 x2 x3)
def l2 {R : Type} (N : Nat) (k0 : Row → Int → Int → Int → Option R) (k1 : Row → Int → Int → Int → Option R) : Nat → Row → Int → Int → Int → Option R
  | 0 => (fun _ _ _ _ => none)
  | n + 1 => (fun x0 x1 x2 x3 => r2 N (l2 N k0 k1 n) k0 k1 x0 x1 x2 x3)
def b {R : Type} (N : Nat) (kr : Int → Option R) (a0 : Row) (a1 : Int) : Option R := l2 N (fun y4 y5 y6 y7 => kr y6) (fun y8 y9 y10 y11 => kr y9) N a0 a1 0 0
theorem q2_bind {R S : Type} (f : R → Option S) (N : Nat) (k0 : Row → Int → Int → Int → Option R) (k1 : Row → Int → Int → Int → Option R) : ∀ n : Nat, (∀ (x0 : Row) (x1 x2 x3 : Int), Option.bind (l2 N k0 k1 n x0 x1 x2 x3) f = l2 N (fun y0 y1 y2 y3 => (Option.bind (k0 y0 y1 y2 y3) f)) (fun y0 y1 y2 y3 => (Option.bind (k1 y0 y1 y2 y3) f)) n x0 x1 x2 x3) := by
  intro n
  induction n with
  | zero => exact (fun _ _ _ _ => rfl)
  | succ n ih =>
    intro x0 x1 x2 x3
    simp only [l2, r2, Lib.lt_bind, Lib.cond_bind, Lib.some_bind, Lib.none_bind, ih]
variable {R : Type} (N : Nat) (kr : Int → Option R) (a0 : Row) (a1 : Int)
theorem b_bind : b N kr a0 a1 = Option.bind (b N (fun r0 => some (r0)) a0 a1) (fun p => kr p) := by
  unfold b; simp only [Lib.lt_bind, Lib.cond_bind, Lib.some_bind, Lib.none_bind, q2_bind]
def vo : Option (Int) := b Lib.big (fun r0 => some (r0)) a0 a1
def c : Bool := Option.isSome (vo a0 a1)
def v : Int := Option.getD (vo a0 a1) (0)
theorem out {x : Int} (h : vo a0 a1 = some x) : c a0 a1 = true ∧ v a0 a1 = x := Lib.out_ h
theorem b_eq (hc : c a0 a1 = true) : ∃ N, b N kr a0 a1 = (fun p => kr p) (v a0 a1) := ⟨Lib.big, (b_bind Lib.big kr a0 a1).trans (by rw [show b Lib.big (fun r0 => some (r0)) a0 a1 = some (v a0 a1) from Lib.some_ hc]; rfl)⟩
end Go.FG.Pu.laws_heldIntSS

namespace Go.FG.Pu.laws_heldSketch
def b {R : Type} (kr : Int → Option R) (a0 : Row) (a1 a2 : Int) : Option R := bif (Pu.laws_heldIntSS.c a0 a2) then (bif (decide (Pu.laws_heldIntSS.v a0 a2 < 0)) then (kr (-1)) else (kr (Pu.laws_heldIntSS.v a0 a2))) else (none)
variable {R : Type} (kr : Int → Option R) (a0 : Row) (a1 a2 : Int)
theorem b_bind : b kr a0 a1 a2 = Option.bind (b (fun r0 => some (r0)) a0 a1 a2) (fun p => kr p) := by
  unfold b; simp only [Lib.lt_bind, Lib.cond_bind, Lib.some_bind, Lib.none_bind]
def vo : Option (Int) := b (fun r0 => some (r0)) a0 a1 a2
def c : Bool := Option.isSome (vo a0 a1 a2)
def v : Int := Option.getD (vo a0 a1 a2) (0)
theorem out {x : Int} (h : vo a0 a1 a2 = some x) : c a0 a1 a2 = true ∧ v a0 a1 a2 = x := Lib.out_ h
theorem b_eq (hc : c a0 a1 a2 = true) : b kr a0 a1 a2 = (fun p => kr p) (v a0 a1 a2) := (b_bind kr a0 a1 a2).trans (by rw [show b (fun r0 => some (r0)) a0 a1 a2 = some (v a0 a1 a2) from Lib.some_ hc]; rfl)
end Go.FG.Pu.laws_heldSketch

namespace Go.FG.Pu.laws_heldPolicy
def b {R : Type} (kr : Int → Option R) (a0 a1 a2 : Row) (a3 a4 : Int) : Option R := bif (Pu.laws_heldStringS.c a0 a4) then (bif (decide (Pu.laws_heldStringS.v a0 a4 < 0)) then (kr (-1)) else (bif (Pu.laws_heldStringS.c a1 (Pu.laws_heldStringS.v a0 a4)) then (bif (decide (Pu.laws_heldStringS.v a1 (Pu.laws_heldStringS.v a0 a4) < 0)) then (kr (-1)) else (bif (Pu.laws_heldSketch.c a2 a3 (Pu.laws_heldStringS.v a1 (Pu.laws_heldStringS.v a0 a4))) then (bif (decide (Pu.laws_heldSketch.v a2 a3 (Pu.laws_heldStringS.v a1 (Pu.laws_heldStringS.v a0 a4)) < 0)) then (kr (-1)) else (kr (Pu.laws_heldSketch.v a2 a3 (Pu.laws_heldStringS.v a1 (Pu.laws_heldStringS.v a0 a4))))) else (none))) else (none))) else (none)
variable {R : Type} (kr : Int → Option R) (a0 a1 a2 : Row) (a3 a4 : Int)
theorem b_bind : b kr a0 a1 a2 a3 a4 = Option.bind (b (fun r0 => some (r0)) a0 a1 a2 a3 a4) (fun p => kr p) := by
  unfold b; simp only [Lib.lt_bind, Lib.cond_bind, Lib.some_bind, Lib.none_bind]
def vo : Option (Int) := b (fun r0 => some (r0)) a0 a1 a2 a3 a4
def c : Bool := Option.isSome (vo a0 a1 a2 a3 a4)
def v : Int := Option.getD (vo a0 a1 a2 a3 a4) (0)
theorem out {x : Int} (h : vo a0 a1 a2 a3 a4 = some x) : c a0 a1 a2 a3 a4 = true ∧ v a0 a1 a2 a3 a4 = x := Lib.out_ h
theorem b_eq (hc : c a0 a1 a2 a3 a4 = true) : b kr a0 a1 a2 a3 a4 = (fun p => kr p) (v a0 a1 a2 a3 a4) := (b_bind kr a0 a1 a2 a3 a4).trans (by rw [show b (fun r0 => some (r0)) a0 a1 a2 a3 a4 = some (v a0 a1 a2 a3 a4) from Lib.some_ hc]; rfl)
end Go.FG.Pu.laws_heldPolicy

namespace Go.FG.Pu.laws_heldFetchS
def r2 {R : Type} (N : Nat) (g : Row → Int → Int → Int → Option R) (k0 : Row → Int → Int → Int → Option R) (k1 : Row → Int → Int → Int → Option R) (x0 : Row) (x1 x2 x3 : Int) : Option R := bif (decide (x3 < (↑(List.length x0) : Int))) then (bif (decide (0 ≤ x3) && decide (x3 < (↑(List.length x0) : Int))) then (bif (Pu.laws_markText.c x1) then (bif (!List.beq (ByteArray.toList (cvS (cellAt x0 (Int.toNat x3) 0))) (ByteArray.toList (Pu.laws_markText.v x1))) then (k0 x0 x1 (-1) x3) else (bif (decide (0 ≤ x3) && decide (x3 < (↑(List.length x0) : Int))) then (bif (Pu.laws_markText.c (w64 (x1 + 1))) then (bif (!List.beq (ByteArray.toList (cvS (cellAt x0 (Int.toNat x3) 1))) (ByteArray.toList (Pu.laws_markText.v (w64 (x1 + 1))))) then (k0 x0 (w64 (x1 + 1)) (-1) x3) else (bif (decide (0 ≤ x3) && decide (x3 < (↑(List.length x0) : Int))) then (bif (cvI (cellAt x0 (Int.toNat x3) 2) != w64 (w64 (x1 + 1) + 1)) then (k0 x0 (w64 (w64 (x1 + 1) + 1)) (-1) x3) else (bif (decide (0 ≤ x3) && decide (x3 < (↑(List.length x0) : Int))) then (bif (cvI (cellAt x0 (Int.toNat x3) 3) != w64 (w64 (w64 (x1 + 1) + 1) + 1)) then (k0 x0 (w64 (w64 (w64 (x1 + 1) + 1) + 1)) (-1) x3) else (bif (decide (0 ≤ x3) && decide (x3 < (↑(List.length x0) : Int))) then (bif (cvI (cellAt x0 (Int.toNat x3) 4) != w64 (w64 (w64 (w64 (x1 + 1) + 1) + 1) + 1)) then (k0 x0 (w64 (w64 (w64 (w64 (x1 + 1) + 1) + 1) + 1)) (-1) x3) else (g x0 (w64 (w64 (w64 (w64 (w64 (x1 + 1) + 1) + 1) + 1) + 1)) x2 (w64 (x3 + 1)))) else (none))) else (none))) else (none))) else (none)) else (none))) else (none)) else (none)) else (k1 x0 x1 x2 x3)
def l2 {R : Type} (N : Nat) (k0 : Row → Int → Int → Int → Option R) (k1 : Row → Int → Int → Int → Option R) : Nat → Row → Int → Int → Int → Option R
  | 0 => (fun _ _ _ _ => none)
  | n + 1 => (fun x0 x1 x2 x3 => r2 N (l2 N k0 k1 n) k0 k1 x0 x1 x2 x3)
def b {R : Type} (N : Nat) (kr : Int → Option R) (a0 : Row) (a1 : Int) : Option R := l2 N (fun y4 y5 y6 y7 => kr y6) (fun y8 y9 y10 y11 => kr y9) N a0 a1 0 0
theorem q2_bind {R S : Type} (f : R → Option S) (N : Nat) (k0 : Row → Int → Int → Int → Option R) (k1 : Row → Int → Int → Int → Option R) : ∀ n : Nat, (∀ (x0 : Row) (x1 x2 x3 : Int), Option.bind (l2 N k0 k1 n x0 x1 x2 x3) f = l2 N (fun y0 y1 y2 y3 => (Option.bind (k0 y0 y1 y2 y3) f)) (fun y0 y1 y2 y3 => (Option.bind (k1 y0 y1 y2 y3) f)) n x0 x1 x2 x3) := by
  intro n
  induction n with
  | zero => exact (fun _ _ _ _ => rfl)
  | succ n ih =>
    intro x0 x1 x2 x3
    simp only [l2, r2, Lib.lt_bind, Lib.cond_bind, Lib.some_bind, Lib.none_bind, ih]
variable {R : Type} (N : Nat) (kr : Int → Option R) (a0 : Row) (a1 : Int)
theorem b_bind : b N kr a0 a1 = Option.bind (b N (fun r0 => some (r0)) a0 a1) (fun p => kr p) := by
  unfold b; simp only [Lib.lt_bind, Lib.cond_bind, Lib.some_bind, Lib.none_bind, q2_bind]
def vo : Option (Int) := b Lib.big (fun r0 => some (r0)) a0 a1
def c : Bool := Option.isSome (vo a0 a1)
def v : Int := Option.getD (vo a0 a1) (0)
theorem out {x : Int} (h : vo a0 a1 = some x) : c a0 a1 = true ∧ v a0 a1 = x := Lib.out_ h
theorem b_eq (hc : c a0 a1 = true) : ∃ N, b N kr a0 a1 = (fun p => kr p) (v a0 a1) := ⟨Lib.big, (b_bind Lib.big kr a0 a1).trans (by rw [show b Lib.big (fun r0 => some (r0)) a0 a1 = some (v a0 a1) from Lib.some_ hc]; rfl)⟩
end Go.FG.Pu.laws_heldFetchS

namespace Go.FG.Pu.laws_heldClientS
def r2 {R : Type} (N : Nat) (g : Row → Int → Int → Int → Option R) (k0 : Row → Int → Int → Int → Option R) (k1 : Row → Int → Int → Int → Option R) (x0 : Row) (x1 x2 x3 : Int) : Option R := bif (decide (x3 < (↑(List.length x0) : Int))) then (bif (decide (0 ≤ x3) && decide (x3 < (↑(List.length x0) : Int))) then (bif (cvI (cellAt x0 (Int.toNat x3) 0) != x1) then (k0 x0 x1 (-1) x3) else (bif (decide (0 ≤ x3) && decide (x3 < (↑(List.length x0) : Int))) then (bif (Pu.laws_markText.c (w64 (x1 + 1))) then (bif (!List.beq (ByteArray.toList (cvS (cellAt x0 (Int.toNat x3) 1))) (ByteArray.toList (Pu.laws_markText.v (w64 (x1 + 1))))) then (k0 x0 (w64 (x1 + 1)) (-1) x3) else (bif (decide (0 ≤ x3) && decide (x3 < (↑(List.length x0) : Int))) then (bif (cvI (cellAt x0 (Int.toNat x3) 2) != w64 (w64 (x1 + 1) + 1)) then (k0 x0 (w64 (w64 (x1 + 1) + 1)) (-1) x3) else (bif (decide (0 ≤ x3) && decide (x3 < (↑(List.length x0) : Int))) then (bif (cvI (cellAt x0 (Int.toNat x3) 3) != w64 (w64 (w64 (x1 + 1) + 1) + 1)) then (k0 x0 (w64 (w64 (w64 (x1 + 1) + 1) + 1)) (-1) x3) else (bif (decide (0 ≤ x3) && decide (x3 < (↑(List.length x0) : Int))) then (bif (cvI (cellAt x0 (Int.toNat x3) 4) != w64 (w64 (w64 (w64 (x1 + 1) + 1) + 1) + 1)) then (k0 x0 (w64 (w64 (w64 (w64 (x1 + 1) + 1) + 1) + 1)) (-1) x3) else (bif (decide (0 ≤ x3) && decide (x3 < (↑(List.length x0) : Int))) then (bif (Pu.laws_markText.c (w64 (w64 (w64 (w64 (w64 (x1 + 1) + 1) + 1) + 1) + 1))) then (bif (!List.beq (ByteArray.toList (cvS (cellAt x0 (Int.toNat x3) 5))) (ByteArray.toList (Pu.laws_markText.v (w64 (w64 (w64 (w64 (w64 (x1 + 1) + 1) + 1) + 1) + 1))))) then (k0 x0 (w64 (w64 (w64 (w64 (w64 (x1 + 1) + 1) + 1) + 1) + 1)) (-1) x3) else (bif (decide (0 ≤ x3) && decide (x3 < (↑(List.length x0) : Int))) then (bif (cvI (cellAt x0 (Int.toNat x3) 6) != w64 (w64 (w64 (w64 (w64 (w64 (x1 + 1) + 1) + 1) + 1) + 1) + 1)) then (k0 x0 (w64 (w64 (w64 (w64 (w64 (w64 (x1 + 1) + 1) + 1) + 1) + 1) + 1)) (-1) x3) else (g x0 (w64 (w64 (w64 (w64 (w64 (w64 (w64 (x1 + 1) + 1) + 1) + 1) + 1) + 1) + 1)) x2 (w64 (x3 + 1)))) else (none))) else (none)) else (none))) else (none))) else (none))) else (none))) else (none)) else (none))) else (none)) else (k1 x0 x1 x2 x3)
def l2 {R : Type} (N : Nat) (k0 : Row → Int → Int → Int → Option R) (k1 : Row → Int → Int → Int → Option R) : Nat → Row → Int → Int → Int → Option R
  | 0 => (fun _ _ _ _ => none)
  | n + 1 => (fun x0 x1 x2 x3 => r2 N (l2 N k0 k1 n) k0 k1 x0 x1 x2 x3)
def b {R : Type} (N : Nat) (kr : Int → Option R) (a0 : Row) (a1 : Int) : Option R := l2 N (fun y4 y5 y6 y7 => kr y6) (fun y8 y9 y10 y11 => kr y9) N a0 a1 0 0
theorem q2_bind {R S : Type} (f : R → Option S) (N : Nat) (k0 : Row → Int → Int → Int → Option R) (k1 : Row → Int → Int → Int → Option R) : ∀ n : Nat, (∀ (x0 : Row) (x1 x2 x3 : Int), Option.bind (l2 N k0 k1 n x0 x1 x2 x3) f = l2 N (fun y0 y1 y2 y3 => (Option.bind (k0 y0 y1 y2 y3) f)) (fun y0 y1 y2 y3 => (Option.bind (k1 y0 y1 y2 y3) f)) n x0 x1 x2 x3) := by
  intro n
  induction n with
  | zero => exact (fun _ _ _ _ => rfl)
  | succ n ih =>
    intro x0 x1 x2 x3
    simp only [l2, r2, Lib.lt_bind, Lib.cond_bind, Lib.some_bind, Lib.none_bind, ih]
variable {R : Type} (N : Nat) (kr : Int → Option R) (a0 : Row) (a1 : Int)
theorem b_bind : b N kr a0 a1 = Option.bind (b N (fun r0 => some (r0)) a0 a1) (fun p => kr p) := by
  unfold b; simp only [Lib.lt_bind, Lib.cond_bind, Lib.some_bind, Lib.none_bind, q2_bind]
def vo : Option (Int) := b Lib.big (fun r0 => some (r0)) a0 a1
def c : Bool := Option.isSome (vo a0 a1)
def v : Int := Option.getD (vo a0 a1) (0)
theorem out {x : Int} (h : vo a0 a1 = some x) : c a0 a1 = true ∧ v a0 a1 = x := Lib.out_ h
theorem b_eq (hc : c a0 a1 = true) : ∃ N, b N kr a0 a1 = (fun p => kr p) (v a0 a1) := ⟨Lib.big, (b_bind Lib.big kr a0 a1).trans (by rw [show b Lib.big (fun r0 => some (r0)) a0 a1 = some (v a0 a1) from Lib.some_ hc]; rfl)⟩
end Go.FG.Pu.laws_heldClientS

namespace Go.FG.Pu.laws_heldProxy
def b {R : Type} (kr : Int → Option R) (a0 : Int) (a1 a2 a3 a4 : Row) (a5 : Int) (a6 a7 : Row) (a8 a9 : Int) : Option R := bif (Pu.laws_heldEntryS.c a1 a9) then (bif (decide (Pu.laws_heldEntryS.v a1 a9 < 0)) then (kr (-1)) else (bif (Pu.laws_heldPolicy.c a2 a3 a4 a5 (Pu.laws_heldEntryS.v a1 a9)) then (bif (decide (Pu.laws_heldPolicy.v a2 a3 a4 a5 (Pu.laws_heldEntryS.v a1 a9) < 0)) then (kr (-1)) else (bif (Pu.laws_heldFetchS.c a6 (Pu.laws_heldPolicy.v a2 a3 a4 a5 (Pu.laws_heldEntryS.v a1 a9))) then (bif (decide (Pu.laws_heldFetchS.v a6 (Pu.laws_heldPolicy.v a2 a3 a4 a5 (Pu.laws_heldEntryS.v a1 a9)) < 0)) then (kr (-1)) else (bif (Pu.laws_heldClientS.c a7 (Pu.laws_heldFetchS.v a6 (Pu.laws_heldPolicy.v a2 a3 a4 a5 (Pu.laws_heldEntryS.v a1 a9)))) then (bif (decide (Pu.laws_heldClientS.v a7 (Pu.laws_heldFetchS.v a6 (Pu.laws_heldPolicy.v a2 a3 a4 a5 (Pu.laws_heldEntryS.v a1 a9))) < 0)) then (kr (-1)) else (kr (Pu.laws_heldClientS.v a7 (Pu.laws_heldFetchS.v a6 (Pu.laws_heldPolicy.v a2 a3 a4 a5 (Pu.laws_heldEntryS.v a1 a9)))))) else (none))) else (none))) else (none))) else (none)
variable {R : Type} (kr : Int → Option R) (a0 : Int) (a1 a2 a3 a4 : Row) (a5 : Int) (a6 a7 : Row) (a8 a9 : Int)
theorem b_bind : b kr a0 a1 a2 a3 a4 a5 a6 a7 a8 a9 = Option.bind (b (fun r0 => some (r0)) a0 a1 a2 a3 a4 a5 a6 a7 a8 a9) (fun p => kr p) := by
  unfold b; simp only [Lib.lt_bind, Lib.cond_bind, Lib.some_bind, Lib.none_bind]
def vo : Option (Int) := b (fun r0 => some (r0)) a0 a1 a2 a3 a4 a5 a6 a7 a8 a9
def c : Bool := Option.isSome (vo a0 a1 a2 a3 a4 a5 a6 a7 a8 a9)
def v : Int := Option.getD (vo a0 a1 a2 a3 a4 a5 a6 a7 a8 a9) (0)
theorem out {x : Int} (h : vo a0 a1 a2 a3 a4 a5 a6 a7 a8 a9 = some x) : c a0 a1 a2 a3 a4 a5 a6 a7 a8 a9 = true ∧ v a0 a1 a2 a3 a4 a5 a6 a7 a8 a9 = x := Lib.out_ h
theorem b_eq (hc : c a0 a1 a2 a3 a4 a5 a6 a7 a8 a9 = true) : b kr a0 a1 a2 a3 a4 a5 a6 a7 a8 a9 = (fun p => kr p) (v a0 a1 a2 a3 a4 a5 a6 a7 a8 a9) := (b_bind kr a0 a1 a2 a3 a4 a5 a6 a7 a8 a9).trans (by rw [show b (fun r0 => some (r0)) a0 a1 a2 a3 a4 a5 a6 a7 a8 a9 = some (v a0 a1 a2 a3 a4 a5 a6 a7 a8 a9) from Lib.some_ hc]; rfl)
end Go.FG.Pu.laws_heldProxy

namespace Go.FG.Pu.laws_FnExactBreakFetch
def b {R : Type} (kr : Bool → Option R) (a0 : Int) (a1 a2 a3 a4 : Row) (a5 : Int) (a6 a7 : Row) (a8 a9 : Int) : Option R := bif (Pu.laws_szProxy.c a0 a1 a2 a3 a4 a5 a6 a7 a8 1048576) then (Lib.lt (Pu.laws_szProxy.v a0 a1 a2 a3 a4 a5 a6 a7 a8 1048576) (fun t0 => bif (decide (t0 < 0)) then (kr true) else (bif (Pu.laws_toProxy.c a0 a1 a2 a3 a4 a5 a6 a7 a8) then (Lib.lt (Pu.laws_toProxy.v a0 a1 a2 a3 a4 a5 a6 a7 a8) (fun t1 => bif (Pu.spec_BreakFetch.c t1.1 t1.2.1 t1.2.2.1 t1.2.2.2.1 t1.2.2.2.2.1 t1.2.2.2.2.2.1 t1.2.2.2.2.2.2.1 t1.2.2.2.2.2.2.2.1 t1.2.2.2.2.2.2.2.2 a9) then (Lib.lt (Pu.spec_BreakFetch.v t1.1 t1.2.1 t1.2.2.1 t1.2.2.2.1 t1.2.2.2.2.1 t1.2.2.2.2.2.1 t1.2.2.2.2.2.2.1 t1.2.2.2.2.2.2.2.1 t1.2.2.2.2.2.2.2.2 a9) (fun t2 => bif (Pu.laws_toProxy.c a0 a1 a2 a3 a4 a5 a6 a7 a8) then (bif (Pu.impl_BreakFetch.c t1.1 t1.2.1 t1.2.2.1 t1.2.2.2.1 t1.2.2.2.2.1 t1.2.2.2.2.2.1 t1.2.2.2.2.2.2.1 t1.2.2.2.2.2.2.2.1 t1.2.2.2.2.2.2.2.2 a9) then (Lib.lt (Pu.impl_BreakFetch.v t1.1 t1.2.1 t1.2.2.1 t1.2.2.2.1 t1.2.2.2.2.1 t1.2.2.2.2.2.1 t1.2.2.2.2.2.2.1 t1.2.2.2.2.2.2.2.1 t1.2.2.2.2.2.2.2.2 a9) (fun t4 => bif (Pu.laws_eqProxy.c t4.1 t4.2.1 t4.2.2.1 t4.2.2.2.1 t4.2.2.2.2.1 t4.2.2.2.2.2.1 t4.2.2.2.2.2.2.1 t4.2.2.2.2.2.2.2.1 t4.2.2.2.2.2.2.2.2.1 t2.1 t2.2.1 t2.2.2.1 t2.2.2.2.1 t2.2.2.2.2.1 t2.2.2.2.2.2.1 t2.2.2.2.2.2.2.1 t2.2.2.2.2.2.2.2.1 t2.2.2.2.2.2.2.2.2.1) then (Lib.lt (Pu.laws_eqProxy.v t4.1 t4.2.1 t4.2.2.1 t4.2.2.2.1 t4.2.2.2.2.1 t4.2.2.2.2.2.1 t4.2.2.2.2.2.2.1 t4.2.2.2.2.2.2.2.1 t4.2.2.2.2.2.2.2.2.1 t2.1 t2.2.1 t2.2.2.1 t2.2.2.2.1 t2.2.2.2.2.1 t2.2.2.2.2.2.1 t2.2.2.2.2.2.2.1 t2.2.2.2.2.2.2.2.1 t2.2.2.2.2.2.2.2.2.1) (fun t5 => bif (!t5) then (kr false) else (bif (!decide (t4.2.2.2.2.2.2.2.2.2 = t2.2.2.2.2.2.2.2.2.2)) then (kr false) else (bif (Pu.laws_toProxy.c a0 a1 a2 a3 a4 a5 a6 a7 a8) then (bif (Pu.laws_eqProxy.c t1.1 t1.2.1 t1.2.2.1 t1.2.2.2.1 t1.2.2.2.2.1 t1.2.2.2.2.2.1 t1.2.2.2.2.2.2.1 t1.2.2.2.2.2.2.2.1 t1.2.2.2.2.2.2.2.2 t1.1 t1.2.1 t1.2.2.1 t1.2.2.2.1 t1.2.2.2.2.1 t1.2.2.2.2.2.1 t1.2.2.2.2.2.2.1 t1.2.2.2.2.2.2.2.1 t1.2.2.2.2.2.2.2.2) then (Lib.lt (Pu.laws_eqProxy.v t1.1 t1.2.1 t1.2.2.1 t1.2.2.2.1 t1.2.2.2.2.1 t1.2.2.2.2.2.1 t1.2.2.2.2.2.2.1 t1.2.2.2.2.2.2.2.1 t1.2.2.2.2.2.2.2.2 t1.1 t1.2.1 t1.2.2.1 t1.2.2.2.1 t1.2.2.2.2.1 t1.2.2.2.2.2.1 t1.2.2.2.2.2.2.1 t1.2.2.2.2.2.2.2.1 t1.2.2.2.2.2.2.2.2) (fun t7 => bif (!t7) then (kr false) else (bif (Pu.laws_markProxy.c t1.1 t1.2.1 t1.2.2.1 t1.2.2.2.1 t1.2.2.2.2.1 t1.2.2.2.2.2.1 t1.2.2.2.2.2.2.1 t1.2.2.2.2.2.2.2.1 t1.2.2.2.2.2.2.2.2 1) then (Lib.lt (Pu.laws_markProxy.v t1.1 t1.2.1 t1.2.2.1 t1.2.2.2.1 t1.2.2.2.2.1 t1.2.2.2.2.2.1 t1.2.2.2.2.2.2.1 t1.2.2.2.2.2.2.2.1 t1.2.2.2.2.2.2.2.2 1) (fun t8 => bif (decide (t8.1 < 0)) then (kr false) else (bif (Pu.laws_eqProxy.c t4.1 t4.2.1 t4.2.2.1 t4.2.2.2.1 t4.2.2.2.2.1 t4.2.2.2.2.2.1 t4.2.2.2.2.2.2.1 t4.2.2.2.2.2.2.2.1 t4.2.2.2.2.2.2.2.2.1 t2.1 t2.2.1 t2.2.2.1 t2.2.2.2.1 t2.2.2.2.2.1 t2.2.2.2.2.2.1 t2.2.2.2.2.2.2.1 t2.2.2.2.2.2.2.2.1 t2.2.2.2.2.2.2.2.2.1) then (bif (!t5) then (kr false) else (bif (!decide (t4.2.2.2.2.2.2.2.2.2 = t2.2.2.2.2.2.2.2.2.2)) then (kr false) else (bif (Pu.laws_markProxy.c t4.1 t4.2.1 t4.2.2.1 t4.2.2.2.1 t4.2.2.2.2.1 t4.2.2.2.2.2.1 t4.2.2.2.2.2.2.1 t4.2.2.2.2.2.2.2.1 t4.2.2.2.2.2.2.2.2.1 1) then (Lib.lt (Pu.laws_markProxy.v t4.1 t4.2.1 t4.2.2.1 t4.2.2.2.1 t4.2.2.2.2.1 t4.2.2.2.2.2.1 t4.2.2.2.2.2.2.1 t4.2.2.2.2.2.2.2.1 t4.2.2.2.2.2.2.2.2.1 1) (fun t10 => bif (Pu.laws_heldProxy.c t4.1 t10.2.1 t10.2.2.1 t10.2.2.2.1 t10.2.2.2.2.1 t4.2.2.2.2.2.1 t10.2.2.2.2.2.1 t10.2.2.2.2.2.2 t4.2.2.2.2.2.2.2.2.1 1) then (Lib.lt (Pu.laws_heldProxy.v t4.1 t10.2.1 t10.2.2.1 t10.2.2.2.1 t10.2.2.2.2.1 t4.2.2.2.2.2.1 t10.2.2.2.2.2.1 t10.2.2.2.2.2.2 t4.2.2.2.2.2.2.2.2.1 1) (fun t11 => bif (decide (t11 < 0)) then (kr false) else (bif (t11 != t10.1) then (kr false) else (bif (Pu.laws_toProxy.c a0 a1 a2 a3 a4 a5 a6 a7 a8) then (bif (Pu.impl_BreakFetch.c t1.1 t1.2.1 t1.2.2.1 t1.2.2.2.1 t1.2.2.2.2.1 t1.2.2.2.2.2.1 t1.2.2.2.2.2.2.1 t1.2.2.2.2.2.2.2.1 t1.2.2.2.2.2.2.2.2 a9) then (bif (Pu.laws_eqProxy.c t4.1 t4.2.1 t4.2.2.1 t4.2.2.2.1 t4.2.2.2.2.1 t4.2.2.2.2.2.1 t4.2.2.2.2.2.2.1 t4.2.2.2.2.2.2.2.1 t4.2.2.2.2.2.2.2.2.1 t2.1 t2.2.1 t2.2.2.1 t2.2.2.2.1 t2.2.2.2.2.1 t2.2.2.2.2.2.1 t2.2.2.2.2.2.2.1 t2.2.2.2.2.2.2.2.1 t2.2.2.2.2.2.2.2.2.1) then (bif (!t5) then (kr false) else (bif (!decide (t4.2.2.2.2.2.2.2.2.2 = t2.2.2.2.2.2.2.2.2.2)) then (kr false) else (bif (Pu.laws_heldProxy.c t4.1 t10.2.1 t10.2.2.1 t10.2.2.2.1 t10.2.2.2.2.1 t4.2.2.2.2.2.1 t10.2.2.2.2.2.1 t10.2.2.2.2.2.2 t4.2.2.2.2.2.2.2.2.1 1) then (bif (decide (t11 < 0)) then (kr false) else (bif (t11 != t10.1) then (kr false) else (kr true))) else (none)))) else (none)) else (none)) else (none))))) else (none))) else (none)))) else (none)))) else (none)))) else (none)) else (none))))) else (none))) else (none)) else (none))) else (none))) else (none)))) else (none)
variable {R : Type} (kr : Bool → Option R) (a0 : Int) (a1 a2 a3 a4 : Row) (a5 : Int) (a6 a7 : Row) (a8 a9 : Int)
theorem b_bind : b kr a0 a1 a2 a3 a4 a5 a6 a7 a8 a9 = Option.bind (b (fun r0 => some (r0)) a0 a1 a2 a3 a4 a5 a6 a7 a8 a9) (fun p => kr p) := by
  unfold b; simp only [Lib.lt_bind, Lib.cond_bind, Lib.some_bind, Lib.none_bind]
def vo : Option (Bool) := b (fun r0 => some (r0)) a0 a1 a2 a3 a4 a5 a6 a7 a8 a9
def c : Bool := Option.isSome (vo a0 a1 a2 a3 a4 a5 a6 a7 a8 a9)
def v : Bool := Option.getD (vo a0 a1 a2 a3 a4 a5 a6 a7 a8 a9) (false)
theorem out {x : Bool} (h : vo a0 a1 a2 a3 a4 a5 a6 a7 a8 a9 = some x) : c a0 a1 a2 a3 a4 a5 a6 a7 a8 a9 = true ∧ v a0 a1 a2 a3 a4 a5 a6 a7 a8 a9 = x := Lib.out_ h
theorem b_eq (hc : c a0 a1 a2 a3 a4 a5 a6 a7 a8 a9 = true) : b kr a0 a1 a2 a3 a4 a5 a6 a7 a8 a9 = (fun p => kr p) (v a0 a1 a2 a3 a4 a5 a6 a7 a8 a9) := (b_bind kr a0 a1 a2 a3 a4 a5 a6 a7 a8 a9).trans (by rw [show b (fun r0 => some (r0)) a0 a1 a2 a3 a4 a5 a6 a7 a8 a9 = some (v a0 a1 a2 a3 a4 a5 a6 a7 a8 a9) from Lib.some_ hc]; rfl)
end Go.FG.Pu.laws_FnExactBreakFetch

