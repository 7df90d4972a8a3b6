/- Functions of the program, told as functions of numbers, texts and lists, and what each comes to. No condition but those that each states. -/
import Derived.Test.YticmocblmmahkaaLib
set_option linter.unusedVariables false
set_option linter.unusedSimpArgs false
set_option maxRecDepth 100000
namespace Go.FG.Pu.laws_szEntry
def b {R : Type} (kr : Int → Option R) (a0_0 : ByteArray) (a0_1 : Int) (a0_2 : Int) (a0_3 : ByteArray) (left1 : Int) : Option R := bif (decide (w64 (left1 - (↑(ByteArray.size a0_0) : Int)) < 0)) then (kr (-1)) else (bif (decide (w64 (w64 (left1 - (↑(ByteArray.size a0_0) : Int)) - (↑(ByteArray.size a0_3) : Int)) < 0)) then (kr (-1)) else (kr (w64 (w64 (left1 - (↑(ByteArray.size a0_0) : Int)) - (↑(ByteArray.size a0_3) : Int)))))
def v (a0_0 : ByteArray) (a0_1 : Int) (a0_2 : Int) (a0_3 : ByteArray) (left1 : Int) : Int := bif (decide (w64 (left1 - (↑(ByteArray.size a0_0) : Int)) < 0)) then (((-1))) else (bif (decide (w64 (w64 (left1 - (↑(ByteArray.size a0_0) : Int)) - (↑(ByteArray.size a0_3) : Int)) < 0)) then (((-1))) else (((w64 (w64 (left1 - (↑(ByteArray.size a0_0) : Int)) - (↑(ByteArray.size a0_3) : Int))))))
theorem b_eq {R : Type} (kr : Int → Option R) (a0_0 : ByteArray) (a0_1 : Int) (a0_2 : Int) (a0_3 : ByteArray) (left1 : Int) : b kr a0_0 a0_1 a0_2 a0_3 left1 = kr (v a0_0 a0_1 a0_2 a0_3 left1) := by
  first | rfl | (unfold b v; simp only [Bool.cond_eq_ite]; (repeat' split) <;> rfl)
end Go.FG.Pu.laws_szEntry

namespace Go.FG.Pu.laws_szEntryS
def r5 {R : Type} (N : Nat) (g : Row → Int → Int → Int → Option R) (k0 : Row → Int → Int → Int → Option R) (k1 : Row → Int → Int → Int → Option R) (x0 : Row) (x1 : Int) (x2 : Int) (x3 : Int) : Option R := bif (decide (x3 < (↑(List.length x0) : Int))) then (bif (decide (0 ≤ x3) && decide (x3 < (↑(List.length x0) : Int))) then (bif (decide (Pu.laws_szEntry.v (cvS (cellAt x0 (Int.toNat x3) 0)) (cvI (cellAt x0 (Int.toNat x3) 1)) (cvI (cellAt x0 (Int.toNat x3) (1 + 1))) (cvS (cellAt x0 (Int.toNat x3) (1 + 1 + 1))) x1 < 0)) then (k0 x0 (Pu.laws_szEntry.v (cvS (cellAt x0 (Int.toNat x3) 0)) (cvI (cellAt x0 (Int.toNat x3) 1)) (cvI (cellAt x0 (Int.toNat x3) (1 + 1))) (cvS (cellAt x0 (Int.toNat x3) (1 + 1 + 1))) x1) (-1) x3) else (g x0 (Pu.laws_szEntry.v (cvS (cellAt x0 (Int.toNat x3) 0)) (cvI (cellAt x0 (Int.toNat x3) 1)) (cvI (cellAt x0 (Int.toNat x3) (1 + 1))) (cvS (cellAt x0 (Int.toNat x3) (1 + 1 + 1))) x1) x2 (w64 (x3 + 1)))) else (none)) else (k1 x0 x1 x2 x3)
def l5 {R : Type} (N : Nat) (k0 : Row → Int → Int → Int → Option R) (k1 : Row → Int → Int → Int → Option R) : Nat → Row → Int → Int → Int → Option R
  | 0 => (fun _ _ _ _ => none)
  | n + 1 => (fun x0 x1 x2 x3 => r5 N (l5 N k0 k1 n) k0 k1 x0 x1 x2 x3)
def b {R : Type} (N : Nat) (kr : Int → Option R) (a0 : Row) (left1 : Int) : Option R := bif (decide (w64 (left1 - (↑(List.length a0) : Int)) < 0)) then (kr (-1)) else (l5 N (fun y4 y5 y6 y7 => kr y6) (fun y8 y9 y10 y11 => kr y9) N a0 (w64 (left1 - (↑(List.length a0) : Int))) 0 0)
theorem q5_bind {R S : Type} (f : R → Option S) (N : Nat) (k0 : Row → Int → Int → Int → Option R) (k1 : Row → Int → Int → Int → Option R) : ∀ n : Nat, (∀ (x0 : Row) (x1 : Int) (x2 : Int) (x3 : Int), Option.bind (l5 N k0 k1 n x0 x1 x2 x3) f = l5 N (fun y0 y1 y2 y3 => (Option.bind (k0 y0 y1 y2 y3) f)) (fun y0 y1 y2 y3 => (Option.bind (k1 y0 y1 y2 y3) f)) n x0 x1 x2 x3) := by
  intro n
  induction n with
  | zero => exact (fun _ _ _ _ => rfl)
  | succ n ih =>
    intro x0 x1 x2 x3
    simp only [l5, r5, Lib.cond_bind, Lib.some_bind, Lib.none_bind, ih]
theorem l5_bind {R S : Type} (f : R → Option S) (N : Nat) (k0 : Row → Int → Int → Int → Option R) (k1 : Row → Int → Int → Int → Option R) (n : Nat) (x0 : Row) (x1 : Int) (x2 : Int) (x3 : Int) : Option.bind (l5 N k0 k1 n x0 x1 x2 x3) f = l5 N (fun y0 y1 y2 y3 => (Option.bind (k0 y0 y1 y2 y3) f)) (fun y0 y1 y2 y3 => (Option.bind (k1 y0 y1 y2 y3) f)) n x0 x1 x2 x3 := (q5_bind f N k0 k1 n) x0 x1 x2 x3
theorem b_bind {R : Type} (N : Nat) (kr : Int → Option R) (a0 : Row) (left1 : Int) : b N kr a0 left1 = Option.bind (b N (fun r0 => some (r0)) a0 left1) (fun p => kr p) := by
  unfold b; simp only [Lib.cond_bind, Lib.some_bind, Lib.none_bind, l5_bind]
def vo (a0 : Row) (left1 : Int) : Option (Int) := b Lib.big (fun r0 => some (r0)) a0 left1
def c (a0 : Row) (left1 : Int) : Bool := Option.isSome (vo a0 left1)
def v (a0 : Row) (left1 : Int) : Int := Option.getD (vo a0 left1) (0)
theorem out (a0 : Row) (left1 : Int) {x : Int} (h : vo a0 left1 = some x) : c a0 left1 = true ∧ v a0 left1 = x := by
  unfold c v; rw [h]; exact ⟨rfl, rfl⟩
theorem b_eq {R : Type} (kr : Int → Option R) (a0 : Row) (left1 : Int) (hc : c a0 left1 = true) : ∃ N, b N kr a0 left1 = kr (v a0 left1) := by
  refine ⟨Lib.big, ?_⟩
  rw [b_bind]
  have e : vo a0 left1 = some (v a0 left1) := by
    unfold c at hc; unfold v
    cases h : vo a0 left1 with
    | none => rw [h] at hc; cases hc
    | some x => rfl
  unfold vo at e
  rw [e]; rfl
end Go.FG.Pu.laws_szEntryS

namespace Go.FG.Pu.laws_szStringS
def r5 {R : Type} (N : Nat) (g : Row → Int → Int → Int → Option R) (k0 : Row → Int → Int → Int → Option R) (k1 : Row → Int → Int → Int → Option R) (x0 : Row) (x1 : Int) (x2 : Int) (x3 : Int) : Option R := bif (decide (x3 < (↑(List.length x0) : Int))) then (bif (decide (0 ≤ x3) && decide (x3 < (↑(List.length x0) : Int))) then (bif (decide (w64 (x1 - (↑(ByteArray.size (cvS (cellAt x0 (Int.toNat x3) 0))) : Int)) < 0)) then (k0 x0 (w64 (x1 - (↑(ByteArray.size (cvS (cellAt x0 (Int.toNat x3) 0))) : Int))) (-1) x3) else (g x0 (w64 (x1 - (↑(ByteArray.size (cvS (cellAt x0 (Int.toNat x3) 0))) : Int))) x2 (w64 (x3 + 1)))) else (none)) else (k1 x0 x1 x2 x3)
def l5 {R : Type} (N : Nat) (k0 : Row → Int → Int → Int → Option R) (k1 : Row → Int → Int → Int → Option R) : Nat → Row → Int → Int → Int → Option R
  | 0 => (fun _ _ _ _ => none)
  | n + 1 => (fun x0 x1 x2 x3 => r5 N (l5 N k0 k1 n) k0 k1 x0 x1 x2 x3)
def b {R : Type} (N : Nat) (kr : Int → Option R) (a0 : Row) (left1 : Int) : Option R := bif (decide (w64 (left1 - (↑(List.length a0) : Int)) < 0)) then (kr (-1)) else (l5 N (fun y4 y5 y6 y7 => kr y6) (fun y8 y9 y10 y11 => kr y9) N a0 (w64 (left1 - (↑(List.length a0) : Int))) 0 0)
theorem q5_bind {R S : Type} (f : R → Option S) (N : Nat) (k0 : Row → Int → Int → Int → Option R) (k1 : Row → Int → Int → Int → Option R) : ∀ n : Nat, (∀ (x0 : Row) (x1 : Int) (x2 : Int) (x3 : Int), Option.bind (l5 N k0 k1 n x0 x1 x2 x3) f = l5 N (fun y0 y1 y2 y3 => (Option.bind (k0 y0 y1 y2 y3) f)) (fun y0 y1 y2 y3 => (Option.bind (k1 y0 y1 y2 y3) f)) n x0 x1 x2 x3) := by
  intro n
  induction n with
  | zero => exact (fun _ _ _ _ => rfl)
  | succ n ih =>
    intro x0 x1 x2 x3
    simp only [l5, r5, Lib.cond_bind, Lib.some_bind, Lib.none_bind, ih]
theorem l5_bind {R S : Type} (f : R → Option S) (N : Nat) (k0 : Row → Int → Int → Int → Option R) (k1 : Row → Int → Int → Int → Option R) (n : Nat) (x0 : Row) (x1 : Int) (x2 : Int) (x3 : Int) : Option.bind (l5 N k0 k1 n x0 x1 x2 x3) f = l5 N (fun y0 y1 y2 y3 => (Option.bind (k0 y0 y1 y2 y3) f)) (fun y0 y1 y2 y3 => (Option.bind (k1 y0 y1 y2 y3) f)) n x0 x1 x2 x3 := (q5_bind f N k0 k1 n) x0 x1 x2 x3
theorem b_bind {R : Type} (N : Nat) (kr : Int → Option R) (a0 : Row) (left1 : Int) : b N kr a0 left1 = Option.bind (b N (fun r0 => some (r0)) a0 left1) (fun p => kr p) := by
  unfold b; simp only [Lib.cond_bind, Lib.some_bind, Lib.none_bind, l5_bind]
def vo (a0 : Row) (left1 : Int) : Option (Int) := b Lib.big (fun r0 => some (r0)) a0 left1
def c (a0 : Row) (left1 : Int) : Bool := Option.isSome (vo a0 left1)
def v (a0 : Row) (left1 : Int) : Int := Option.getD (vo a0 left1) (0)
theorem out (a0 : Row) (left1 : Int) {x : Int} (h : vo a0 left1 = some x) : c a0 left1 = true ∧ v a0 left1 = x := by
  unfold c v; rw [h]; exact ⟨rfl, rfl⟩
theorem b_eq {R : Type} (kr : Int → Option R) (a0 : Row) (left1 : Int) (hc : c a0 left1 = true) : ∃ N, b N kr a0 left1 = kr (v a0 left1) := by
  refine ⟨Lib.big, ?_⟩
  rw [b_bind]
  have e : vo a0 left1 = some (v a0 left1) := by
    unfold c at hc; unfold v
    cases h : vo a0 left1 with
    | none => rw [h] at hc; cases hc
    | some x => rfl
  unfold vo at e
  rw [e]; rfl
end Go.FG.Pu.laws_szStringS

namespace Go.FG.Pu.laws_szIntS
def b {R : Type} (kr : Int → Option R) (a0 : Row) (left1 : Int) : Option R := bif (decide (w64 (left1 - (↑(List.length a0) : Int)) < 0)) then (kr (-1)) else (kr (w64 (left1 - (↑(List.length a0) : Int))))
def v (a0 : Row) (left1 : Int) : Int := bif (decide (w64 (left1 - (↑(List.length a0) : Int)) < 0)) then (((-1))) else (((w64 (left1 - (↑(List.length a0) : Int)))))
theorem b_eq {R : Type} (kr : Int → Option R) (a0 : Row) (left1 : Int) : b kr a0 left1 = kr (v a0 left1) := by
  first | rfl | (unfold b v; simp only [Bool.cond_eq_ite]; (repeat' split) <;> rfl)
theorem fits {a : Row} {L : Int} (h0 : 0 ≤ L) (h1 : L ≤ 1048576) (ha : FitR a) (h : decide (v a L < 0) = false) : a.length ≤ 1048576 ∧ v a L = L - a.length := by
  have e := Lib.sub_len h0 h1 ha.1
  unfold v at h ⊢
  rw [e] at h ⊢
  by_cases hc : L - (a.length : Int) < 0
  · rw [decide_eq_true hc] at h; cases h
  · rw [decide_eq_false hc]; exact ⟨by omega, rfl⟩
end Go.FG.Pu.laws_szIntS

namespace Go.FG.Pu.laws_szIntSS
def r5 {R : Type} (N : Nat) (g : Row → Int → Int → Int → Option R) (k0 : Row → Int → Int → Int → Option R) (k1 : Row → Int → Int → Int → Option R) (x0 : Row) (x1 : Int) (x2 : Int) (x3 : Int) : Option R := bif (decide (x3 < (↑(List.length x0) : Int))) then (bif (decide (0 ≤ x3) && decide (x3 < (↑(List.length x0) : Int))) then (bif (decide (Pu.laws_szIntS.v (cvL (cellAt x0 (Int.toNat x3) 0)) x1 < 0)) then (k0 x0 (Pu.laws_szIntS.v (cvL (cellAt x0 (Int.toNat x3) 0)) x1) (-1) x3) else (g x0 (Pu.laws_szIntS.v (cvL (cellAt x0 (Int.toNat x3) 0)) x1) x2 (w64 (x3 + 1)))) else (none)) else (k1 x0 x1 x2 x3)
def l5 {R : Type} (N : Nat) (k0 : Row → Int → Int → Int → Option R) (k1 : Row → Int → Int → Int → Option R) : Nat → Row → Int → Int → Int → Option R
  | 0 => (fun _ _ _ _ => none)
  | n + 1 => (fun x0 x1 x2 x3 => r5 N (l5 N k0 k1 n) k0 k1 x0 x1 x2 x3)
def b {R : Type} (N : Nat) (kr : Int → Option R) (a0 : Row) (left1 : Int) : Option R := bif (decide (w64 (left1 - (↑(List.length a0) : Int)) < 0)) then (kr (-1)) else (l5 N (fun y4 y5 y6 y7 => kr y6) (fun y8 y9 y10 y11 => kr y9) N a0 (w64 (left1 - (↑(List.length a0) : Int))) 0 0)
theorem q5_bind {R S : Type} (f : R → Option S) (N : Nat) (k0 : Row → Int → Int → Int → Option R) (k1 : Row → Int → Int → Int → Option R) : ∀ n : Nat, (∀ (x0 : Row) (x1 : Int) (x2 : Int) (x3 : Int), Option.bind (l5 N k0 k1 n x0 x1 x2 x3) f = l5 N (fun y0 y1 y2 y3 => (Option.bind (k0 y0 y1 y2 y3) f)) (fun y0 y1 y2 y3 => (Option.bind (k1 y0 y1 y2 y3) f)) n x0 x1 x2 x3) := by
  intro n
  induction n with
  | zero => exact (fun _ _ _ _ => rfl)
  | succ n ih =>
    intro x0 x1 x2 x3
    simp only [l5, r5, Lib.cond_bind, Lib.some_bind, Lib.none_bind, ih]
theorem l5_bind {R S : Type} (f : R → Option S) (N : Nat) (k0 : Row → Int → Int → Int → Option R) (k1 : Row → Int → Int → Int → Option R) (n : Nat) (x0 : Row) (x1 : Int) (x2 : Int) (x3 : Int) : Option.bind (l5 N k0 k1 n x0 x1 x2 x3) f = l5 N (fun y0 y1 y2 y3 => (Option.bind (k0 y0 y1 y2 y3) f)) (fun y0 y1 y2 y3 => (Option.bind (k1 y0 y1 y2 y3) f)) n x0 x1 x2 x3 := (q5_bind f N k0 k1 n) x0 x1 x2 x3
theorem b_bind {R : Type} (N : Nat) (kr : Int → Option R) (a0 : Row) (left1 : Int) : b N kr a0 left1 = Option.bind (b N (fun r0 => some (r0)) a0 left1) (fun p => kr p) := by
  unfold b; simp only [Lib.cond_bind, Lib.some_bind, Lib.none_bind, l5_bind]
def vo (a0 : Row) (left1 : Int) : Option (Int) := b Lib.big (fun r0 => some (r0)) a0 left1
def c (a0 : Row) (left1 : Int) : Bool := Option.isSome (vo a0 left1)
def v (a0 : Row) (left1 : Int) : Int := Option.getD (vo a0 left1) (0)
theorem out (a0 : Row) (left1 : Int) {x : Int} (h : vo a0 left1 = some x) : c a0 left1 = true ∧ v a0 left1 = x := by
  unfold c v; rw [h]; exact ⟨rfl, rfl⟩
theorem b_eq {R : Type} (kr : Int → Option R) (a0 : Row) (left1 : Int) (hc : c a0 left1 = true) : ∃ N, b N kr a0 left1 = kr (v a0 left1) := by
  refine ⟨Lib.big, ?_⟩
  rw [b_bind]
  have e : vo a0 left1 = some (v a0 left1) := by
    unfold c at hc; unfold v
    cases h : vo a0 left1 with
    | none => rw [h] at hc; cases hc
    | some x => rfl
  unfold vo at e
  rw [e]; rfl
end Go.FG.Pu.laws_szIntSS

namespace Go.FG.Pu.laws_szSketch
def b {R : Type} (kr : Int → Option R) (a0_0 : Row) (a0_1 : Int) (left1 : Int) : Option R := bif (Pu.laws_szIntSS.c a0_0 left1) then (bif (decide (Pu.laws_szIntSS.v a0_0 left1 < 0)) then (kr (-1)) else (kr (Pu.laws_szIntSS.v a0_0 left1))) else (none)
theorem b_bind {R : Type} (kr : Int → Option R) (a0_0 : Row) (a0_1 : Int) (left1 : Int) : b kr a0_0 a0_1 left1 = Option.bind (b (fun r0 => some (r0)) a0_0 a0_1 left1) (fun p => kr p) := by
  unfold b; simp only [Lib.cond_bind, Lib.some_bind, Lib.none_bind]
def vo (a0_0 : Row) (a0_1 : Int) (left1 : Int) : Option (Int) := b (fun r0 => some (r0)) a0_0 a0_1 left1
def c (a0_0 : Row) (a0_1 : Int) (left1 : Int) : Bool := Option.isSome (vo a0_0 a0_1 left1)
def v (a0_0 : Row) (a0_1 : Int) (left1 : Int) : Int := Option.getD (vo a0_0 a0_1 left1) (0)
theorem out (a0_0 : Row) (a0_1 : Int) (left1 : Int) {x : Int} (h : vo a0_0 a0_1 left1 = some x) : c a0_0 a0_1 left1 = true ∧ v a0_0 a0_1 left1 = x := by
  unfold c v; rw [h]; exact ⟨rfl, rfl⟩
theorem b_eq {R : Type} (kr : Int → Option R) (a0_0 : Row) (a0_1 : Int) (left1 : Int) (hc : c a0_0 a0_1 left1 = true) : b kr a0_0 a0_1 left1 = kr (v a0_0 a0_1 left1) := by
  rw [b_bind]
  have e : vo a0_0 a0_1 left1 = some (v a0_0 a0_1 left1) := by
    unfold c at hc; unfold v
    cases h : vo a0_0 a0_1 left1 with
    | none => rw [h] at hc; cases hc
    | some x => rfl
  unfold vo at e
  rw [e]; rfl
end Go.FG.Pu.laws_szSketch

namespace Go.FG.Pu.laws_szPolicy
def b {R : Type} (kr : Int → Option R) (a0_0 : Row) (a0_1 : Row) (a0_2 : Row) (a0_3 : Int) (left1 : Int) : Option R := bif (Pu.laws_szStringS.c a0_0 left1) then (bif (decide (Pu.laws_szStringS.v a0_0 left1 < 0)) then (kr (-1)) else (bif (Pu.laws_szStringS.c a0_1 (Pu.laws_szStringS.v a0_0 left1)) then (bif (decide (Pu.laws_szStringS.v a0_1 (Pu.laws_szStringS.v a0_0 left1) < 0)) then (kr (-1)) else (bif (Pu.laws_szSketch.c a0_2 a0_3 (Pu.laws_szStringS.v a0_1 (Pu.laws_szStringS.v a0_0 left1))) then (bif (decide (Pu.laws_szSketch.v a0_2 a0_3 (Pu.laws_szStringS.v a0_1 (Pu.laws_szStringS.v a0_0 left1)) < 0)) then (kr (-1)) else (kr (Pu.laws_szSketch.v a0_2 a0_3 (Pu.laws_szStringS.v a0_1 (Pu.laws_szStringS.v a0_0 left1))))) else (none))) else (none))) else (none)
theorem b_bind {R : Type} (kr : Int → Option R) (a0_0 : Row) (a0_1 : Row) (a0_2 : Row) (a0_3 : Int) (left1 : Int) : b kr a0_0 a0_1 a0_2 a0_3 left1 = Option.bind (b (fun r0 => some (r0)) a0_0 a0_1 a0_2 a0_3 left1) (fun p => kr p) := by
  unfold b; simp only [Lib.cond_bind, Lib.some_bind, Lib.none_bind]
def vo (a0_0 : Row) (a0_1 : Row) (a0_2 : Row) (a0_3 : Int) (left1 : Int) : Option (Int) := b (fun r0 => some (r0)) a0_0 a0_1 a0_2 a0_3 left1
def c (a0_0 : Row) (a0_1 : Row) (a0_2 : Row) (a0_3 : Int) (left1 : Int) : Bool := Option.isSome (vo a0_0 a0_1 a0_2 a0_3 left1)
def v (a0_0 : Row) (a0_1 : Row) (a0_2 : Row) (a0_3 : Int) (left1 : Int) : Int := Option.getD (vo a0_0 a0_1 a0_2 a0_3 left1) (0)
theorem out (a0_0 : Row) (a0_1 : Row) (a0_2 : Row) (a0_3 : Int) (left1 : Int) {x : Int} (h : vo a0_0 a0_1 a0_2 a0_3 left1 = some x) : c a0_0 a0_1 a0_2 a0_3 left1 = true ∧ v a0_0 a0_1 a0_2 a0_3 left1 = x := by
  unfold c v; rw [h]; exact ⟨rfl, rfl⟩
theorem b_eq {R : Type} (kr : Int → Option R) (a0_0 : Row) (a0_1 : Row) (a0_2 : Row) (a0_3 : Int) (left1 : Int) (hc : c a0_0 a0_1 a0_2 a0_3 left1 = true) : b kr a0_0 a0_1 a0_2 a0_3 left1 = kr (v a0_0 a0_1 a0_2 a0_3 left1) := by
  rw [b_bind]
  have e : vo a0_0 a0_1 a0_2 a0_3 left1 = some (v a0_0 a0_1 a0_2 a0_3 left1) := by
    unfold c at hc; unfold v
    cases h : vo a0_0 a0_1 a0_2 a0_3 left1 with
    | none => rw [h] at hc; cases hc
    | some x => rfl
  unfold vo at e
  rw [e]; rfl
end Go.FG.Pu.laws_szPolicy

namespace Go.FG.Pu.laws_szFetch
def b {R : Type} (kr : Int → Option R) (a0_0 : ByteArray) (a0_1 : ByteArray) (a0_2 : Int) (a0_3 : Int) (a0_4 : Int) (left1 : Int) : Option R := bif (decide (w64 (left1 - (↑(ByteArray.size a0_0) : Int)) < 0)) then (kr (-1)) else (bif (decide (w64 (w64 (left1 - (↑(ByteArray.size a0_0) : Int)) - (↑(ByteArray.size a0_1) : Int)) < 0)) then (kr (-1)) else (kr (w64 (w64 (left1 - (↑(ByteArray.size a0_0) : Int)) - (↑(ByteArray.size a0_1) : Int)))))
def v (a0_0 : ByteArray) (a0_1 : ByteArray) (a0_2 : Int) (a0_3 : Int) (a0_4 : Int) (left1 : Int) : Int := bif (decide (w64 (left1 - (↑(ByteArray.size a0_0) : Int)) < 0)) then (((-1))) else (bif (decide (w64 (w64 (left1 - (↑(ByteArray.size a0_0) : Int)) - (↑(ByteArray.size a0_1) : Int)) < 0)) then (((-1))) else (((w64 (w64 (left1 - (↑(ByteArray.size a0_0) : Int)) - (↑(ByteArray.size a0_1) : Int))))))
theorem b_eq {R : Type} (kr : Int → Option R) (a0_0 : ByteArray) (a0_1 : ByteArray) (a0_2 : Int) (a0_3 : Int) (a0_4 : Int) (left1 : Int) : b kr a0_0 a0_1 a0_2 a0_3 a0_4 left1 = kr (v a0_0 a0_1 a0_2 a0_3 a0_4 left1) := by
  first | rfl | (unfold b v; simp only [Bool.cond_eq_ite]; (repeat' split) <;> rfl)
end Go.FG.Pu.laws_szFetch

namespace Go.FG.Pu.laws_szFetchS
def r5 {R : Type} (N : Nat) (g : Row → Int → Int → Int → Option R) (k0 : Row → Int → Int → Int → Option R) (k1 : Row → Int → Int → Int → Option R) (x0 : Row) (x1 : Int) (x2 : Int) (x3 : Int) : Option R := bif (decide (x3 < (↑(List.length x0) : Int))) then (bif (decide (0 ≤ x3) && decide (x3 < (↑(List.length x0) : Int))) then (bif (decide (Pu.laws_szFetch.v (cvS (cellAt x0 (Int.toNat x3) 0)) (cvS (cellAt x0 (Int.toNat x3) 1)) (cvI (cellAt x0 (Int.toNat x3) (1 + 1))) (cvI (cellAt x0 (Int.toNat x3) (1 + 1 + 1))) (cvI (cellAt x0 (Int.toNat x3) (1 + 1 + 1 + 1))) x1 < 0)) then (k0 x0 (Pu.laws_szFetch.v (cvS (cellAt x0 (Int.toNat x3) 0)) (cvS (cellAt x0 (Int.toNat x3) 1)) (cvI (cellAt x0 (Int.toNat x3) (1 + 1))) (cvI (cellAt x0 (Int.toNat x3) (1 + 1 + 1))) (cvI (cellAt x0 (Int.toNat x3) (1 + 1 + 1 + 1))) x1) (-1) x3) else (g x0 (Pu.laws_szFetch.v (cvS (cellAt x0 (Int.toNat x3) 0)) (cvS (cellAt x0 (Int.toNat x3) 1)) (cvI (cellAt x0 (Int.toNat x3) (1 + 1))) (cvI (cellAt x0 (Int.toNat x3) (1 + 1 + 1))) (cvI (cellAt x0 (Int.toNat x3) (1 + 1 + 1 + 1))) x1) x2 (w64 (x3 + 1)))) else (none)) else (k1 x0 x1 x2 x3)
def l5 {R : Type} (N : Nat) (k0 : Row → Int → Int → Int → Option R) (k1 : Row → Int → Int → Int → Option R) : Nat → Row → Int → Int → Int → Option R
  | 0 => (fun _ _ _ _ => none)
  | n + 1 => (fun x0 x1 x2 x3 => r5 N (l5 N k0 k1 n) k0 k1 x0 x1 x2 x3)
def b {R : Type} (N : Nat) (kr : Int → Option R) (a0 : Row) (left1 : Int) : Option R := bif (decide (w64 (left1 - (↑(List.length a0) : Int)) < 0)) then (kr (-1)) else (l5 N (fun y4 y5 y6 y7 => kr y6) (fun y8 y9 y10 y11 => kr y9) N a0 (w64 (left1 - (↑(List.length a0) : Int))) 0 0)
theorem q5_bind {R S : Type} (f : R → Option S) (N : Nat) (k0 : Row → Int → Int → Int → Option R) (k1 : Row → Int → Int → Int → Option R) : ∀ n : Nat, (∀ (x0 : Row) (x1 : Int) (x2 : Int) (x3 : Int), Option.bind (l5 N k0 k1 n x0 x1 x2 x3) f = l5 N (fun y0 y1 y2 y3 => (Option.bind (k0 y0 y1 y2 y3) f)) (fun y0 y1 y2 y3 => (Option.bind (k1 y0 y1 y2 y3) f)) n x0 x1 x2 x3) := by
  intro n
  induction n with
  | zero => exact (fun _ _ _ _ => rfl)
  | succ n ih =>
    intro x0 x1 x2 x3
    simp only [l5, r5, Lib.cond_bind, Lib.some_bind, Lib.none_bind, ih]
theorem l5_bind {R S : Type} (f : R → Option S) (N : Nat) (k0 : Row → Int → Int → Int → Option R) (k1 : Row → Int → Int → Int → Option R) (n : Nat) (x0 : Row) (x1 : Int) (x2 : Int) (x3 : Int) : Option.bind (l5 N k0 k1 n x0 x1 x2 x3) f = l5 N (fun y0 y1 y2 y3 => (Option.bind (k0 y0 y1 y2 y3) f)) (fun y0 y1 y2 y3 => (Option.bind (k1 y0 y1 y2 y3) f)) n x0 x1 x2 x3 := (q5_bind f N k0 k1 n) x0 x1 x2 x3
theorem b_bind {R : Type} (N : Nat) (kr : Int → Option R) (a0 : Row) (left1 : Int) : b N kr a0 left1 = Option.bind (b N (fun r0 => some (r0)) a0 left1) (fun p => kr p) := by
  unfold b; simp only [Lib.cond_bind, Lib.some_bind, Lib.none_bind, l5_bind]
def vo (a0 : Row) (left1 : Int) : Option (Int) := b Lib.big (fun r0 => some (r0)) a0 left1
def c (a0 : Row) (left1 : Int) : Bool := Option.isSome (vo a0 left1)
def v (a0 : Row) (left1 : Int) : Int := Option.getD (vo a0 left1) (0)
theorem out (a0 : Row) (left1 : Int) {x : Int} (h : vo a0 left1 = some x) : c a0 left1 = true ∧ v a0 left1 = x := by
  unfold c v; rw [h]; exact ⟨rfl, rfl⟩
theorem b_eq {R : Type} (kr : Int → Option R) (a0 : Row) (left1 : Int) (hc : c a0 left1 = true) : ∃ N, b N kr a0 left1 = kr (v a0 left1) := by
  refine ⟨Lib.big, ?_⟩
  rw [b_bind]
  have e : vo a0 left1 = some (v a0 left1) := by
    unfold c at hc; unfold v
    cases h : vo a0 left1 with
    | none => rw [h] at hc; cases hc
    | some x => rfl
  unfold vo at e
  rw [e]; rfl
end Go.FG.Pu.laws_szFetchS

namespace Go.FG.Pu.laws_szClient
def b {R : Type} (kr : Int → Option R) (a0_0 : Int) (a0_1 : ByteArray) (a0_2 : Int) (a0_3 : Int) (a0_4 : Int) (a0_5 : ByteArray) (a0_6 : Int) (left1 : Int) : Option R := bif (decide (w64 (left1 - (↑(ByteArray.size a0_1) : Int)) < 0)) then (kr (-1)) else (bif (decide (w64 (w64 (left1 - (↑(ByteArray.size a0_1) : Int)) - (↑(ByteArray.size a0_5) : Int)) < 0)) then (kr (-1)) else (kr (w64 (w64 (left1 - (↑(ByteArray.size a0_1) : Int)) - (↑(ByteArray.size a0_5) : Int)))))
def v (a0_0 : Int) (a0_1 : ByteArray) (a0_2 : Int) (a0_3 : Int) (a0_4 : Int) (a0_5 : ByteArray) (a0_6 : Int) (left1 : Int) : Int := bif (decide (w64 (left1 - (↑(ByteArray.size a0_1) : Int)) < 0)) then (((-1))) else (bif (decide (w64 (w64 (left1 - (↑(ByteArray.size a0_1) : Int)) - (↑(ByteArray.size a0_5) : Int)) < 0)) then (((-1))) else (((w64 (w64 (left1 - (↑(ByteArray.size a0_1) : Int)) - (↑(ByteArray.size a0_5) : Int))))))
theorem b_eq {R : Type} (kr : Int → Option R) (a0_0 : Int) (a0_1 : ByteArray) (a0_2 : Int) (a0_3 : Int) (a0_4 : Int) (a0_5 : ByteArray) (a0_6 : Int) (left1 : Int) : b kr a0_0 a0_1 a0_2 a0_3 a0_4 a0_5 a0_6 left1 = kr (v a0_0 a0_1 a0_2 a0_3 a0_4 a0_5 a0_6 left1) := by
  first | rfl | (unfold b v; simp only [Bool.cond_eq_ite]; (repeat' split) <;> rfl)
end Go.FG.Pu.laws_szClient

namespace Go.FG.Pu.laws_szClientS
def r5 {R : Type} (N : Nat) (g : Row → Int → Int → Int → Option R) (k0 : Row → Int → Int → Int → Option R) (k1 : Row → Int → Int → Int → Option R) (x0 : Row) (x1 : Int) (x2 : Int) (x3 : Int) : Option R := bif (decide (x3 < (↑(List.length x0) : Int))) then (bif (decide (0 ≤ x3) && decide (x3 < (↑(List.length x0) : Int))) then (bif (decide (Pu.laws_szClient.v (cvI (cellAt x0 (Int.toNat x3) 0)) (cvS (cellAt x0 (Int.toNat x3) 1)) (cvI (cellAt x0 (Int.toNat x3) (1 + 1))) (cvI (cellAt x0 (Int.toNat x3) (1 + 1 + 1))) (cvI (cellAt x0 (Int.toNat x3) (1 + 1 + 1 + 1))) (cvS (cellAt x0 (Int.toNat x3) (1 + 1 + 1 + 1 + 1))) (cvI (cellAt x0 (Int.toNat x3) (1 + 1 + 1 + 1 + 1 + 1))) x1 < 0)) then (k0 x0 (Pu.laws_szClient.v (cvI (cellAt x0 (Int.toNat x3) 0)) (cvS (cellAt x0 (Int.toNat x3) 1)) (cvI (cellAt x0 (Int.toNat x3) (1 + 1))) (cvI (cellAt x0 (Int.toNat x3) (1 + 1 + 1))) (cvI (cellAt x0 (Int.toNat x3) (1 + 1 + 1 + 1))) (cvS (cellAt x0 (Int.toNat x3) (1 + 1 + 1 + 1 + 1))) (cvI (cellAt x0 (Int.toNat x3) (1 + 1 + 1 + 1 + 1 + 1))) x1) (-1) x3) else (g x0 (Pu.laws_szClient.v (cvI (cellAt x0 (Int.toNat x3) 0)) (cvS (cellAt x0 (Int.toNat x3) 1)) (cvI (cellAt x0 (Int.toNat x3) (1 + 1))) (cvI (cellAt x0 (Int.toNat x3) (1 + 1 + 1))) (cvI (cellAt x0 (Int.toNat x3) (1 + 1 + 1 + 1))) (cvS (cellAt x0 (Int.toNat x3) (1 + 1 + 1 + 1 + 1))) (cvI (cellAt x0 (Int.toNat x3) (1 + 1 + 1 + 1 + 1 + 1))) x1) x2 (w64 (x3 + 1)))) else (none)) else (k1 x0 x1 x2 x3)
def l5 {R : Type} (N : Nat) (k0 : Row → Int → Int → Int → Option R) (k1 : Row → Int → Int → Int → Option R) : Nat → Row → Int → Int → Int → Option R
  | 0 => (fun _ _ _ _ => none)
  | n + 1 => (fun x0 x1 x2 x3 => r5 N (l5 N k0 k1 n) k0 k1 x0 x1 x2 x3)
def b {R : Type} (N : Nat) (kr : Int → Option R) (a0 : Row) (left1 : Int) : Option R := bif (decide (w64 (left1 - (↑(List.length a0) : Int)) < 0)) then (kr (-1)) else (l5 N (fun y4 y5 y6 y7 => kr y6) (fun y8 y9 y10 y11 => kr y9) N a0 (w64 (left1 - (↑(List.length a0) : Int))) 0 0)
theorem q5_bind {R S : Type} (f : R → Option S) (N : Nat) (k0 : Row → Int → Int → Int → Option R) (k1 : Row → Int → Int → Int → Option R) : ∀ n : Nat, (∀ (x0 : Row) (x1 : Int) (x2 : Int) (x3 : Int), Option.bind (l5 N k0 k1 n x0 x1 x2 x3) f = l5 N (fun y0 y1 y2 y3 => (Option.bind (k0 y0 y1 y2 y3) f)) (fun y0 y1 y2 y3 => (Option.bind (k1 y0 y1 y2 y3) f)) n x0 x1 x2 x3) := by
  intro n
  induction n with
  | zero => exact (fun _ _ _ _ => rfl)
  | succ n ih =>
    intro x0 x1 x2 x3
    simp only [l5, r5, Lib.cond_bind, Lib.some_bind, Lib.none_bind, ih]
theorem l5_bind {R S : Type} (f : R → Option S) (N : Nat) (k0 : Row → Int → Int → Int → Option R) (k1 : Row → Int → Int → Int → Option R) (n : Nat) (x0 : Row) (x1 : Int) (x2 : Int) (x3 : Int) : Option.bind (l5 N k0 k1 n x0 x1 x2 x3) f = l5 N (fun y0 y1 y2 y3 => (Option.bind (k0 y0 y1 y2 y3) f)) (fun y0 y1 y2 y3 => (Option.bind (k1 y0 y1 y2 y3) f)) n x0 x1 x2 x3 := (q5_bind f N k0 k1 n) x0 x1 x2 x3
theorem b_bind {R : Type} (N : Nat) (kr : Int → Option R) (a0 : Row) (left1 : Int) : b N kr a0 left1 = Option.bind (b N (fun r0 => some (r0)) a0 left1) (fun p => kr p) := by
  unfold b; simp only [Lib.cond_bind, Lib.some_bind, Lib.none_bind, l5_bind]
def vo (a0 : Row) (left1 : Int) : Option (Int) := b Lib.big (fun r0 => some (r0)) a0 left1
def c (a0 : Row) (left1 : Int) : Bool := Option.isSome (vo a0 left1)
def v (a0 : Row) (left1 : Int) : Int := Option.getD (vo a0 left1) (0)
theorem out (a0 : Row) (left1 : Int) {x : Int} (h : vo a0 left1 = some x) : c a0 left1 = true ∧ v a0 left1 = x := by
  unfold c v; rw [h]; exact ⟨rfl, rfl⟩
theorem b_eq {R : Type} (kr : Int → Option R) (a0 : Row) (left1 : Int) (hc : c a0 left1 = true) : ∃ N, b N kr a0 left1 = kr (v a0 left1) := by
  refine ⟨Lib.big, ?_⟩
  rw [b_bind]
  have e : vo a0 left1 = some (v a0 left1) := by
    unfold c at hc; unfold v
    cases h : vo a0 left1 with
    | none => rw [h] at hc; cases hc
    | some x => rfl
  unfold vo at e
  rw [e]; rfl
end Go.FG.Pu.laws_szClientS

namespace Go.FG.Pu.laws_szProxy
def b {R : Type} (kr : Int → Option R) (a0_0 : Int) (a0_1 : Row) (a0_2 : Row) (a0_3 : Row) (a0_4 : Row) (a0_5 : Int) (a0_6 : Row) (a0_7 : Row) (a0_8 : Int) (left1 : Int) : Option R := bif (Pu.laws_szEntryS.c a0_1 left1) then (bif (decide (Pu.laws_szEntryS.v a0_1 left1 < 0)) then (kr (-1)) else (bif (Pu.laws_szPolicy.c a0_2 a0_3 a0_4 a0_5 (Pu.laws_szEntryS.v a0_1 left1)) then (bif (decide (Pu.laws_szPolicy.v a0_2 a0_3 a0_4 a0_5 (Pu.laws_szEntryS.v a0_1 left1) < 0)) then (kr (-1)) else (bif (Pu.laws_szFetchS.c a0_6 (Pu.laws_szPolicy.v a0_2 a0_3 a0_4 a0_5 (Pu.laws_szEntryS.v a0_1 left1))) then (bif (decide (Pu.laws_szFetchS.v a0_6 (Pu.laws_szPolicy.v a0_2 a0_3 a0_4 a0_5 (Pu.laws_szEntryS.v a0_1 left1)) < 0)) then (kr (-1)) else (bif (Pu.laws_szClientS.c a0_7 (Pu.laws_szFetchS.v a0_6 (Pu.laws_szPolicy.v a0_2 a0_3 a0_4 a0_5 (Pu.laws_szEntryS.v a0_1 left1)))) then (bif (decide (Pu.laws_szClientS.v a0_7 (Pu.laws_szFetchS.v a0_6 (Pu.laws_szPolicy.v a0_2 a0_3 a0_4 a0_5 (Pu.laws_szEntryS.v a0_1 left1))) < 0)) then (kr (-1)) else (kr (Pu.laws_szClientS.v a0_7 (Pu.laws_szFetchS.v a0_6 (Pu.laws_szPolicy.v a0_2 a0_3 a0_4 a0_5 (Pu.laws_szEntryS.v a0_1 left1)))))) else (none))) else (none))) else (none))) else (none)
theorem b_bind {R : Type} (kr : Int → Option R) (a0_0 : Int) (a0_1 : Row) (a0_2 : Row) (a0_3 : Row) (a0_4 : Row) (a0_5 : Int) (a0_6 : Row) (a0_7 : Row) (a0_8 : Int) (left1 : Int) : b kr a0_0 a0_1 a0_2 a0_3 a0_4 a0_5 a0_6 a0_7 a0_8 left1 = Option.bind (b (fun r0 => some (r0)) a0_0 a0_1 a0_2 a0_3 a0_4 a0_5 a0_6 a0_7 a0_8 left1) (fun p => kr p) := by
  unfold b; simp only [Lib.cond_bind, Lib.some_bind, Lib.none_bind]
def vo (a0_0 : Int) (a0_1 : Row) (a0_2 : Row) (a0_3 : Row) (a0_4 : Row) (a0_5 : Int) (a0_6 : Row) (a0_7 : Row) (a0_8 : Int) (left1 : Int) : Option (Int) := b (fun r0 => some (r0)) a0_0 a0_1 a0_2 a0_3 a0_4 a0_5 a0_6 a0_7 a0_8 left1
def c (a0_0 : Int) (a0_1 : Row) (a0_2 : Row) (a0_3 : Row) (a0_4 : Row) (a0_5 : Int) (a0_6 : Row) (a0_7 : Row) (a0_8 : Int) (left1 : Int) : Bool := Option.isSome (vo a0_0 a0_1 a0_2 a0_3 a0_4 a0_5 a0_6 a0_7 a0_8 left1)
def v (a0_0 : Int) (a0_1 : Row) (a0_2 : Row) (a0_3 : Row) (a0_4 : Row) (a0_5 : Int) (a0_6 : Row) (a0_7 : Row) (a0_8 : Int) (left1 : Int) : Int := Option.getD (vo a0_0 a0_1 a0_2 a0_3 a0_4 a0_5 a0_6 a0_7 a0_8 left1) (0)
theorem out (a0_0 : Int) (a0_1 : Row) (a0_2 : Row) (a0_3 : Row) (a0_4 : Row) (a0_5 : Int) (a0_6 : Row) (a0_7 : Row) (a0_8 : Int) (left1 : Int) {x : Int} (h : vo a0_0 a0_1 a0_2 a0_3 a0_4 a0_5 a0_6 a0_7 a0_8 left1 = some x) : c a0_0 a0_1 a0_2 a0_3 a0_4 a0_5 a0_6 a0_7 a0_8 left1 = true ∧ v a0_0 a0_1 a0_2 a0_3 a0_4 a0_5 a0_6 a0_7 a0_8 left1 = x := by
  unfold c v; rw [h]; exact ⟨rfl, rfl⟩
theorem b_eq {R : Type} (kr : Int → Option R) (a0_0 : Int) (a0_1 : Row) (a0_2 : Row) (a0_3 : Row) (a0_4 : Row) (a0_5 : Int) (a0_6 : Row) (a0_7 : Row) (a0_8 : Int) (left1 : Int) (hc : c a0_0 a0_1 a0_2 a0_3 a0_4 a0_5 a0_6 a0_7 a0_8 left1 = true) : b kr a0_0 a0_1 a0_2 a0_3 a0_4 a0_5 a0_6 a0_7 a0_8 left1 = kr (v a0_0 a0_1 a0_2 a0_3 a0_4 a0_5 a0_6 a0_7 a0_8 left1) := by
  rw [b_bind]
  have e : vo a0_0 a0_1 a0_2 a0_3 a0_4 a0_5 a0_6 a0_7 a0_8 left1 = some (v a0_0 a0_1 a0_2 a0_3 a0_4 a0_5 a0_6 a0_7 a0_8 left1) := by
    unfold c at hc; unfold v
    cases h : vo a0_0 a0_1 a0_2 a0_3 a0_4 a0_5 a0_6 a0_7 a0_8 left1 with
    | none => rw [h] at hc; cases hc
    | some x => rfl
  unfold vo at e
  rw [e]; rfl
end Go.FG.Pu.laws_szProxy

namespace Go.FG.Pu.laws_szFile
def b {R : Type} (kr : Int → Option R) (a0_0 : ByteArray) (a0_1 : ByteArray) (a0_2 : Int) (left1 : Int) : Option R := bif (decide (w64 (left1 - (↑(ByteArray.size a0_0) : Int)) < 0)) then (kr (-1)) else (bif (decide (w64 (w64 (left1 - (↑(ByteArray.size a0_0) : Int)) - (↑(ByteArray.size a0_1) : Int)) < 0)) then (kr (-1)) else (kr (w64 (w64 (left1 - (↑(ByteArray.size a0_0) : Int)) - (↑(ByteArray.size a0_1) : Int)))))
def v (a0_0 : ByteArray) (a0_1 : ByteArray) (a0_2 : Int) (left1 : Int) : Int := bif (decide (w64 (left1 - (↑(ByteArray.size a0_0) : Int)) < 0)) then (((-1))) else (bif (decide (w64 (w64 (left1 - (↑(ByteArray.size a0_0) : Int)) - (↑(ByteArray.size a0_1) : Int)) < 0)) then (((-1))) else (((w64 (w64 (left1 - (↑(ByteArray.size a0_0) : Int)) - (↑(ByteArray.size a0_1) : Int))))))
theorem b_eq {R : Type} (kr : Int → Option R) (a0_0 : ByteArray) (a0_1 : ByteArray) (a0_2 : Int) (left1 : Int) : b kr a0_0 a0_1 a0_2 left1 = kr (v a0_0 a0_1 a0_2 left1) := by
  first | rfl | (unfold b v; simp only [Bool.cond_eq_ite]; (repeat' split) <;> rfl)
end Go.FG.Pu.laws_szFile

namespace Go.FG.Pu.laws_szFileS
def r5 {R : Type} (N : Nat) (g : Row → Int → Int → Int → Option R) (k0 : Row → Int → Int → Int → Option R) (k1 : Row → Int → Int → Int → Option R) (x0 : Row) (x1 : Int) (x2 : Int) (x3 : Int) : Option R := bif (decide (x3 < (↑(List.length x0) : Int))) then (bif (decide (0 ≤ x3) && decide (x3 < (↑(List.length x0) : Int))) then (bif (decide (Pu.laws_szFile.v (cvS (cellAt x0 (Int.toNat x3) 0)) (cvS (cellAt x0 (Int.toNat x3) 1)) (cvI (cellAt x0 (Int.toNat x3) (1 + 1))) x1 < 0)) then (k0 x0 (Pu.laws_szFile.v (cvS (cellAt x0 (Int.toNat x3) 0)) (cvS (cellAt x0 (Int.toNat x3) 1)) (cvI (cellAt x0 (Int.toNat x3) (1 + 1))) x1) (-1) x3) else (g x0 (Pu.laws_szFile.v (cvS (cellAt x0 (Int.toNat x3) 0)) (cvS (cellAt x0 (Int.toNat x3) 1)) (cvI (cellAt x0 (Int.toNat x3) (1 + 1))) x1) x2 (w64 (x3 + 1)))) else (none)) else (k1 x0 x1 x2 x3)
def l5 {R : Type} (N : Nat) (k0 : Row → Int → Int → Int → Option R) (k1 : Row → Int → Int → Int → Option R) : Nat → Row → Int → Int → Int → Option R
  | 0 => (fun _ _ _ _ => none)
  | n + 1 => (fun x0 x1 x2 x3 => r5 N (l5 N k0 k1 n) k0 k1 x0 x1 x2 x3)
def b {R : Type} (N : Nat) (kr : Int → Option R) (a0 : Row) (left1 : Int) : Option R := bif (decide (w64 (left1 - (↑(List.length a0) : Int)) < 0)) then (kr (-1)) else (l5 N (fun y4 y5 y6 y7 => kr y6) (fun y8 y9 y10 y11 => kr y9) N a0 (w64 (left1 - (↑(List.length a0) : Int))) 0 0)
theorem q5_bind {R S : Type} (f : R → Option S) (N : Nat) (k0 : Row → Int → Int → Int → Option R) (k1 : Row → Int → Int → Int → Option R) : ∀ n : Nat, (∀ (x0 : Row) (x1 : Int) (x2 : Int) (x3 : Int), Option.bind (l5 N k0 k1 n x0 x1 x2 x3) f = l5 N (fun y0 y1 y2 y3 => (Option.bind (k0 y0 y1 y2 y3) f)) (fun y0 y1 y2 y3 => (Option.bind (k1 y0 y1 y2 y3) f)) n x0 x1 x2 x3) := by
  intro n
  induction n with
  | zero => exact (fun _ _ _ _ => rfl)
  | succ n ih =>
    intro x0 x1 x2 x3
    simp only [l5, r5, Lib.cond_bind, Lib.some_bind, Lib.none_bind, ih]
theorem l5_bind {R S : Type} (f : R → Option S) (N : Nat) (k0 : Row → Int → Int → Int → Option R) (k1 : Row → Int → Int → Int → Option R) (n : Nat) (x0 : Row) (x1 : Int) (x2 : Int) (x3 : Int) : Option.bind (l5 N k0 k1 n x0 x1 x2 x3) f = l5 N (fun y0 y1 y2 y3 => (Option.bind (k0 y0 y1 y2 y3) f)) (fun y0 y1 y2 y3 => (Option.bind (k1 y0 y1 y2 y3) f)) n x0 x1 x2 x3 := (q5_bind f N k0 k1 n) x0 x1 x2 x3
theorem b_bind {R : Type} (N : Nat) (kr : Int → Option R) (a0 : Row) (left1 : Int) : b N kr a0 left1 = Option.bind (b N (fun r0 => some (r0)) a0 left1) (fun p => kr p) := by
  unfold b; simp only [Lib.cond_bind, Lib.some_bind, Lib.none_bind, l5_bind]
def vo (a0 : Row) (left1 : Int) : Option (Int) := b Lib.big (fun r0 => some (r0)) a0 left1
def c (a0 : Row) (left1 : Int) : Bool := Option.isSome (vo a0 left1)
def v (a0 : Row) (left1 : Int) : Int := Option.getD (vo a0 left1) (0)
theorem out (a0 : Row) (left1 : Int) {x : Int} (h : vo a0 left1 = some x) : c a0 left1 = true ∧ v a0 left1 = x := by
  unfold c v; rw [h]; exact ⟨rfl, rfl⟩
theorem b_eq {R : Type} (kr : Int → Option R) (a0 : Row) (left1 : Int) (hc : c a0 left1 = true) : ∃ N, b N kr a0 left1 = kr (v a0 left1) := by
  refine ⟨Lib.big, ?_⟩
  rw [b_bind]
  have e : vo a0 left1 = some (v a0 left1) := by
    unfold c at hc; unfold v
    cases h : vo a0 left1 with
    | none => rw [h] at hc; cases hc
    | some x => rfl
  unfold vo at e
  rw [e]; rfl
end Go.FG.Pu.laws_szFileS

namespace Go.FG.Pu.laws_szDisk
def b {R : Type} (kr : Int → Option R) (a0 : Row) (left1 : Int) : Option R := bif (Pu.laws_szFileS.c a0 left1) then (bif (decide (Pu.laws_szFileS.v a0 left1 < 0)) then (kr (-1)) else (kr (Pu.laws_szFileS.v a0 left1))) else (none)
theorem b_bind {R : Type} (kr : Int → Option R) (a0 : Row) (left1 : Int) : b kr a0 left1 = Option.bind (b (fun r0 => some (r0)) a0 left1) (fun p => kr p) := by
  unfold b; simp only [Lib.cond_bind, Lib.some_bind, Lib.none_bind]
def vo (a0 : Row) (left1 : Int) : Option (Int) := b (fun r0 => some (r0)) a0 left1
def c (a0 : Row) (left1 : Int) : Bool := Option.isSome (vo a0 left1)
def v (a0 : Row) (left1 : Int) : Int := Option.getD (vo a0 left1) (0)
theorem out (a0 : Row) (left1 : Int) {x : Int} (h : vo a0 left1 = some x) : c a0 left1 = true ∧ v a0 left1 = x := by
  unfold c v; rw [h]; exact ⟨rfl, rfl⟩
theorem b_eq {R : Type} (kr : Int → Option R) (a0 : Row) (left1 : Int) (hc : c a0 left1 = true) : b kr a0 left1 = kr (v a0 left1) := by
  rw [b_bind]
  have e : vo a0 left1 = some (v a0 left1) := by
    unfold c at hc; unfold v
    cases h : vo a0 left1 with
    | none => rw [h] at hc; cases hc
    | some x => rfl
  unfold vo at e
  rw [e]; rfl
end Go.FG.Pu.laws_szDisk

namespace Go.FG.Pu.laws_szWorld
def b {R : Type} (kr : Int → Option R) (a0_0 : Int) (a0_1 : Row) (a0_2 : Row) (a0_3 : Row) (a0_4 : Row) (a0_5 : Int) (a0_6 : Row) (a0_7 : Row) (a0_8 : Int) (a0_9 : Row) (a0_10 : Row) (a0_11 : Row) (left1 : Int) : Option R := bif (Pu.laws_szProxy.c a0_0 a0_1 a0_2 a0_3 a0_4 a0_5 a0_6 a0_7 a0_8 left1) then (bif (decide (Pu.laws_szProxy.v a0_0 a0_1 a0_2 a0_3 a0_4 a0_5 a0_6 a0_7 a0_8 left1 < 0)) then (kr (-1)) else (bif (Pu.laws_szDisk.c a0_9 (Pu.laws_szProxy.v a0_0 a0_1 a0_2 a0_3 a0_4 a0_5 a0_6 a0_7 a0_8 left1)) then (bif (decide (Pu.laws_szDisk.v a0_9 (Pu.laws_szProxy.v a0_0 a0_1 a0_2 a0_3 a0_4 a0_5 a0_6 a0_7 a0_8 left1) < 0)) then (kr (-1)) else (bif (decide (Pu.laws_szIntS.v a0_10 (Pu.laws_szDisk.v a0_9 (Pu.laws_szProxy.v a0_0 a0_1 a0_2 a0_3 a0_4 a0_5 a0_6 a0_7 a0_8 left1)) < 0)) then (kr (-1)) else (bif (Pu.laws_szEntryS.c a0_11 (Pu.laws_szIntS.v a0_10 (Pu.laws_szDisk.v a0_9 (Pu.laws_szProxy.v a0_0 a0_1 a0_2 a0_3 a0_4 a0_5 a0_6 a0_7 a0_8 left1)))) then (bif (decide (Pu.laws_szEntryS.v a0_11 (Pu.laws_szIntS.v a0_10 (Pu.laws_szDisk.v a0_9 (Pu.laws_szProxy.v a0_0 a0_1 a0_2 a0_3 a0_4 a0_5 a0_6 a0_7 a0_8 left1))) < 0)) then (kr (-1)) else (kr (Pu.laws_szEntryS.v a0_11 (Pu.laws_szIntS.v a0_10 (Pu.laws_szDisk.v a0_9 (Pu.laws_szProxy.v a0_0 a0_1 a0_2 a0_3 a0_4 a0_5 a0_6 a0_7 a0_8 left1)))))) else (none)))) else (none))) else (none)
theorem b_bind {R : Type} (kr : Int → Option R) (a0_0 : Int) (a0_1 : Row) (a0_2 : Row) (a0_3 : Row) (a0_4 : Row) (a0_5 : Int) (a0_6 : Row) (a0_7 : Row) (a0_8 : Int) (a0_9 : Row) (a0_10 : Row) (a0_11 : Row) (left1 : Int) : b kr a0_0 a0_1 a0_2 a0_3 a0_4 a0_5 a0_6 a0_7 a0_8 a0_9 a0_10 a0_11 left1 = Option.bind (b (fun r0 => some (r0)) a0_0 a0_1 a0_2 a0_3 a0_4 a0_5 a0_6 a0_7 a0_8 a0_9 a0_10 a0_11 left1) (fun p => kr p) := by
  unfold b; simp only [Lib.cond_bind, Lib.some_bind, Lib.none_bind]
def vo (a0_0 : Int) (a0_1 : Row) (a0_2 : Row) (a0_3 : Row) (a0_4 : Row) (a0_5 : Int) (a0_6 : Row) (a0_7 : Row) (a0_8 : Int) (a0_9 : Row) (a0_10 : Row) (a0_11 : Row) (left1 : Int) : Option (Int) := b (fun r0 => some (r0)) a0_0 a0_1 a0_2 a0_3 a0_4 a0_5 a0_6 a0_7 a0_8 a0_9 a0_10 a0_11 left1
def c (a0_0 : Int) (a0_1 : Row) (a0_2 : Row) (a0_3 : Row) (a0_4 : Row) (a0_5 : Int) (a0_6 : Row) (a0_7 : Row) (a0_8 : Int) (a0_9 : Row) (a0_10 : Row) (a0_11 : Row) (left1 : Int) : Bool := Option.isSome (vo a0_0 a0_1 a0_2 a0_3 a0_4 a0_5 a0_6 a0_7 a0_8 a0_9 a0_10 a0_11 left1)
def v (a0_0 : Int) (a0_1 : Row) (a0_2 : Row) (a0_3 : Row) (a0_4 : Row) (a0_5 : Int) (a0_6 : Row) (a0_7 : Row) (a0_8 : Int) (a0_9 : Row) (a0_10 : Row) (a0_11 : Row) (left1 : Int) : Int := Option.getD (vo a0_0 a0_1 a0_2 a0_3 a0_4 a0_5 a0_6 a0_7 a0_8 a0_9 a0_10 a0_11 left1) (0)
theorem out (a0_0 : Int) (a0_1 : Row) (a0_2 : Row) (a0_3 : Row) (a0_4 : Row) (a0_5 : Int) (a0_6 : Row) (a0_7 : Row) (a0_8 : Int) (a0_9 : Row) (a0_10 : Row) (a0_11 : Row) (left1 : Int) {x : Int} (h : vo a0_0 a0_1 a0_2 a0_3 a0_4 a0_5 a0_6 a0_7 a0_8 a0_9 a0_10 a0_11 left1 = some x) : c a0_0 a0_1 a0_2 a0_3 a0_4 a0_5 a0_6 a0_7 a0_8 a0_9 a0_10 a0_11 left1 = true ∧ v a0_0 a0_1 a0_2 a0_3 a0_4 a0_5 a0_6 a0_7 a0_8 a0_9 a0_10 a0_11 left1 = x := by
  unfold c v; rw [h]; exact ⟨rfl, rfl⟩
theorem b_eq {R : Type} (kr : Int → Option R) (a0_0 : Int) (a0_1 : Row) (a0_2 : Row) (a0_3 : Row) (a0_4 : Row) (a0_5 : Int) (a0_6 : Row) (a0_7 : Row) (a0_8 : Int) (a0_9 : Row) (a0_10 : Row) (a0_11 : Row) (left1 : Int) (hc : c a0_0 a0_1 a0_2 a0_3 a0_4 a0_5 a0_6 a0_7 a0_8 a0_9 a0_10 a0_11 left1 = true) : b kr a0_0 a0_1 a0_2 a0_3 a0_4 a0_5 a0_6 a0_7 a0_8 a0_9 a0_10 a0_11 left1 = kr (v a0_0 a0_1 a0_2 a0_3 a0_4 a0_5 a0_6 a0_7 a0_8 a0_9 a0_10 a0_11 left1) := by
  rw [b_bind]
  have e : vo a0_0 a0_1 a0_2 a0_3 a0_4 a0_5 a0_6 a0_7 a0_8 a0_9 a0_10 a0_11 left1 = some (v a0_0 a0_1 a0_2 a0_3 a0_4 a0_5 a0_6 a0_7 a0_8 a0_9 a0_10 a0_11 left1) := by
    unfold c at hc; unfold v
    cases h : vo a0_0 a0_1 a0_2 a0_3 a0_4 a0_5 a0_6 a0_7 a0_8 a0_9 a0_10 a0_11 left1 with
    | none => rw [h] at hc; cases hc
    | some x => rfl
  unfold vo at e
  rw [e]; rfl
end Go.FG.Pu.laws_szWorld

namespace Go.FG.Pu.laws_toEntry
def b {R : Type} (kr : ByteArray → Int → Int → ByteArray → Option R) (a0_0 : ByteArray) (a0_1 : Int) (a0_2 : Int) (a0_3 : ByteArray) : Option R := kr a0_0 a0_1 a0_2 a0_3
def v (a0_0 : ByteArray) (a0_1 : Int) (a0_2 : Int) (a0_3 : ByteArray) : ByteArray × Int × Int × ByteArray := (a0_0, a0_1, a0_2, a0_3)
theorem b_eq {R : Type} (kr : ByteArray → Int → Int → ByteArray → Option R) (a0_0 : ByteArray) (a0_1 : Int) (a0_2 : Int) (a0_3 : ByteArray) : b kr a0_0 a0_1 a0_2 a0_3 = kr ((v a0_0 a0_1 a0_2 a0_3).1) ((v a0_0 a0_1 a0_2 a0_3).2.1) ((v a0_0 a0_1 a0_2 a0_3).2.2.1) ((v a0_0 a0_1 a0_2 a0_3).2.2.2) := by
  first | rfl | (unfold b v; simp only [Bool.cond_eq_ite]; (repeat' split) <;> rfl)
end Go.FG.Pu.laws_toEntry

namespace Go.FG.Pu.laws_toEntryS
def r3 {R : Type} (N : Nat) (g : Row → Int → Row → Option R) (k0 : Row → Int → Row → Option R) (x0 : Row) (x1 : Int) (x2 : Row) : Option R := bif (decide (x1 < (↑(List.length x0) : Int))) then (bif (decide (0 ≤ x1) && decide (x1 < (↑(List.length x0) : Int))) then (bif (decide (0 ≤ x1) && decide (x1 < (↑(List.length x2) : Int))) then (g x0 (w64 (x1 + 1)) (setC x2 (Int.toNat x1) 0 [CV.s (cvS (cellAt x0 (Int.toNat x1) 0)), CV.i IntKind.i64 (cvI (cellAt x0 (Int.toNat x1) 1)), CV.i IntKind.i64 (cvI (cellAt x0 (Int.toNat x1) (1 + 1))), CV.s (cvS (cellAt x0 (Int.toNat x1) (1 + 1 + 1)))])) else (none)) else (none)) else (k0 x0 x1 x2)
def l3 {R : Type} (N : Nat) (k0 : Row → Int → Row → Option R) : Nat → Row → Int → Row → Option R
  | 0 => (fun _ _ _ => none)
  | n + 1 => (fun x0 x1 x2 => r3 N (l3 N k0 n) k0 x0 x1 x2)
def b {R : Type} (N : Nat) (kr : Row → Option R) (a0 : Row) : Option R := bif (decide ((↑(List.length a0) : Int) = (↑(List.length a0) : Int)) && roomy (Int.toNat (↑(List.length a0) : Int)) 48) then (l3 N (fun y3 y4 y5 => kr y5) N a0 0 (zeros [Ck.s, Ck.i IntKind.i64, Ck.i IntKind.i64, Ck.s] (Int.toNat (↑(List.length a0) : Int)))) else (none)
theorem q3_bind {R S : Type} (f : R → Option S) (N : Nat) (k0 : Row → Int → Row → Option R) : ∀ n : Nat, (∀ (x0 : Row) (x1 : Int) (x2 : Row), Option.bind (l3 N k0 n x0 x1 x2) f = l3 N (fun y0 y1 y2 => (Option.bind (k0 y0 y1 y2) f)) n x0 x1 x2) := by
  intro n
  induction n with
  | zero => exact (fun _ _ _ => rfl)
  | succ n ih =>
    intro x0 x1 x2
    simp only [l3, r3, Lib.cond_bind, Lib.some_bind, Lib.none_bind, ih]
theorem l3_bind {R S : Type} (f : R → Option S) (N : Nat) (k0 : Row → Int → Row → Option R) (n : Nat) (x0 : Row) (x1 : Int) (x2 : Row) : Option.bind (l3 N k0 n x0 x1 x2) f = l3 N (fun y0 y1 y2 => (Option.bind (k0 y0 y1 y2) f)) n x0 x1 x2 := (q3_bind f N k0 n) x0 x1 x2
theorem b_bind {R : Type} (N : Nat) (kr : Row → Option R) (a0 : Row) : b N kr a0 = Option.bind (b N (fun r0 => some (r0)) a0) (fun p => kr p) := by
  unfold b; simp only [Lib.cond_bind, Lib.some_bind, Lib.none_bind, l3_bind]
def vo (a0 : Row) : Option (Row) := b Lib.big (fun r0 => some (r0)) a0
def c (a0 : Row) : Bool := Option.isSome (vo a0)
def v (a0 : Row) : Row := Option.getD (vo a0) ([])
theorem out (a0 : Row) {x : Row} (h : vo a0 = some x) : c a0 = true ∧ v a0 = x := by
  unfold c v; rw [h]; exact ⟨rfl, rfl⟩
theorem b_eq {R : Type} (kr : Row → Option R) (a0 : Row) (hc : c a0 = true) : ∃ N, b N kr a0 = kr (v a0) := by
  refine ⟨Lib.big, ?_⟩
  rw [b_bind]
  have e : vo a0 = some (v a0) := by
    unfold c at hc; unfold v
    cases h : vo a0 with
    | none => rw [h] at hc; cases hc
    | some x => rfl
  unfold vo at e
  rw [e]; rfl
end Go.FG.Pu.laws_toEntryS

namespace Go.FG.Pu.laws_toStringS
def r3 {R : Type} (N : Nat) (g : Row → Int → Row → Option R) (k0 : Row → Int → Row → Option R) (x0 : Row) (x1 : Int) (x2 : Row) : Option R := bif (decide (x1 < (↑(List.length x0) : Int))) then (bif (decide (0 ≤ x1) && decide (x1 < (↑(List.length x0) : Int))) then (bif (decide (0 ≤ x1) && decide (x1 < (↑(List.length x2) : Int))) then (g x0 (w64 (x1 + 1)) (setC x2 (Int.toNat x1) 0 [CV.s (cvS (cellAt x0 (Int.toNat x1) 0))])) else (none)) else (none)) else (k0 x0 x1 x2)
def l3 {R : Type} (N : Nat) (k0 : Row → Int → Row → Option R) : Nat → Row → Int → Row → Option R
  | 0 => (fun _ _ _ => none)
  | n + 1 => (fun x0 x1 x2 => r3 N (l3 N k0 n) k0 x0 x1 x2)
def b {R : Type} (N : Nat) (kr : Row → Option R) (a0 : Row) : Option R := bif (decide ((↑(List.length a0) : Int) = (↑(List.length a0) : Int)) && roomy (Int.toNat (↑(List.length a0) : Int)) 16) then (l3 N (fun y3 y4 y5 => kr y5) N a0 0 (zeros [Ck.s] (Int.toNat (↑(List.length a0) : Int)))) else (none)
theorem q3_bind {R S : Type} (f : R → Option S) (N : Nat) (k0 : Row → Int → Row → Option R) : ∀ n : Nat, (∀ (x0 : Row) (x1 : Int) (x2 : Row), Option.bind (l3 N k0 n x0 x1 x2) f = l3 N (fun y0 y1 y2 => (Option.bind (k0 y0 y1 y2) f)) n x0 x1 x2) := by
  intro n
  induction n with
  | zero => exact (fun _ _ _ => rfl)
  | succ n ih =>
    intro x0 x1 x2
    simp only [l3, r3, Lib.cond_bind, Lib.some_bind, Lib.none_bind, ih]
theorem l3_bind {R S : Type} (f : R → Option S) (N : Nat) (k0 : Row → Int → Row → Option R) (n : Nat) (x0 : Row) (x1 : Int) (x2 : Row) : Option.bind (l3 N k0 n x0 x1 x2) f = l3 N (fun y0 y1 y2 => (Option.bind (k0 y0 y1 y2) f)) n x0 x1 x2 := (q3_bind f N k0 n) x0 x1 x2
theorem b_bind {R : Type} (N : Nat) (kr : Row → Option R) (a0 : Row) : b N kr a0 = Option.bind (b N (fun r0 => some (r0)) a0) (fun p => kr p) := by
  unfold b; simp only [Lib.cond_bind, Lib.some_bind, Lib.none_bind, l3_bind]
def vo (a0 : Row) : Option (Row) := b Lib.big (fun r0 => some (r0)) a0
def c (a0 : Row) : Bool := Option.isSome (vo a0)
def v (a0 : Row) : Row := Option.getD (vo a0) ([])
theorem out (a0 : Row) {x : Row} (h : vo a0 = some x) : c a0 = true ∧ v a0 = x := by
  unfold c v; rw [h]; exact ⟨rfl, rfl⟩
theorem b_eq {R : Type} (kr : Row → Option R) (a0 : Row) (hc : c a0 = true) : ∃ N, b N kr a0 = kr (v a0) := by
  refine ⟨Lib.big, ?_⟩
  rw [b_bind]
  have e : vo a0 = some (v a0) := by
    unfold c at hc; unfold v
    cases h : vo a0 with
    | none => rw [h] at hc; cases hc
    | some x => rfl
  unfold vo at e
  rw [e]; rfl
end Go.FG.Pu.laws_toStringS

namespace Go.FG.Pu.laws_toIntS
def r3 {R : Type} (N : Nat) (g : Row → Int → Row → Option R) (k0 : Row → Int → Row → Option R) (x0 : Row) (x1 : Int) (x2 : Row) : Option R := bif (decide (x1 < (↑(List.length x0) : Int))) then (bif (decide (0 ≤ x1) && decide (x1 < (↑(List.length x0) : Int))) then (bif (decide (0 ≤ x1) && decide (x1 < (↑(List.length x2) : Int))) then (g x0 (w64 (x1 + 1)) (setC x2 (Int.toNat x1) 0 [CV.i IntKind.i64 (cvI (cellAt x0 (Int.toNat x1) 0))])) else (none)) else (none)) else (k0 x0 x1 x2)
def l3 {R : Type} (N : Nat) (k0 : Row → Int → Row → Option R) : Nat → Row → Int → Row → Option R
  | 0 => (fun _ _ _ => none)
  | n + 1 => (fun x0 x1 x2 => r3 N (l3 N k0 n) k0 x0 x1 x2)
def b {R : Type} (N : Nat) (kr : Row → Option R) (a0 : Row) : Option R := bif (decide ((↑(List.length a0) : Int) = (↑(List.length a0) : Int)) && roomy (Int.toNat (↑(List.length a0) : Int)) 8) then (l3 N (fun y3 y4 y5 => kr y5) N a0 0 (zeros [Ck.i IntKind.i64] (Int.toNat (↑(List.length a0) : Int)))) else (none)
/-- The rows' numbers, one for one. -/
def v (a0 : Row) : Row := a0.map fun y => [CV.i IntKind.i64 (cvI (y.getD 0 (.b false)))]
def c (a0 : Row) : Bool := decide (a0.length ≤ 1048576)
theorem b_eq {R : Type} (kr : Row → Option R) (a0 : Row) (hc : c a0 = true) : ∃ N, b N kr a0 = kr (v a0) := by
  have hl : a0.length ≤ 1048576 := of_decide_eq_true hc
  refine ⟨a0.length + 1, ?_⟩
  unfold b
  rw [show decide ((a0.length : Int) = (a0.length : Int)) = true by simp, Lib.toN, Lib.roomy_of (by omega) (by omega), Bool.and_self, cond_true]
  refine Lib.fill_run (ks := [Ck.i IntKind.i64]) (v a0) a0.length (by unfold v; simp) (fun y hy => ?_) (fun m (i : Nat) x => l3 (a0.length + 1) (fun _ _ y => kr y) m a0 i x) kr (fun m => ?_) (fun m i hi x hx => ?_)
  · unfold v at hy; obtain ⟨z, _, rfl⟩ := List.mem_map.1 hy; rfl
  · simp only [l3, r3, Lib.dlt, Nat.lt_irrefl, decide_false, cond_false]
  · have hi2 : i < x.length := by omega
    have e : (v a0).getD i [] = [CV.i IntKind.i64 (cvI (cellAt a0 i 0))] := by
      unfold v; simp [List.getD, hi, cellAt]
    simp only [l3, r3, Lib.dlt, Lib.dle0, Lib.toN, hi, hi2, decide_true, Bool.true_and, cond_true, Lib.w64_s hi (by omega), e]
end Go.FG.Pu.laws_toIntS

namespace Go.FG.Pu.laws_toIntSS
def r3 {R : Type} (N : Nat) (g : Row → Int → Row → Option R) (k0 : Row → Int → Row → Option R) (x0 : Row) (x1 : Int) (x2 : Row) : Option R := bif (decide (x1 < (↑(List.length x0) : Int))) then (bif (decide (0 ≤ x1) && decide (x1 < (↑(List.length x0) : Int))) then (bif (Pu.laws_toIntS.c (cvL (cellAt x0 (Int.toNat x1) 0))) then (bif (decide (0 ≤ x1) && decide (x1 < (↑(List.length x2) : Int))) then (g x0 (w64 (x1 + 1)) (setC x2 (Int.toNat x1) 0 [CV.l 3 (Pu.laws_toIntS.v (cvL (cellAt x0 (Int.toNat x1) 0)))])) else (none)) else (none)) else (none)) else (k0 x0 x1 x2)
def l3 {R : Type} (N : Nat) (k0 : Row → Int → Row → Option R) : Nat → Row → Int → Row → Option R
  | 0 => (fun _ _ _ => none)
  | n + 1 => (fun x0 x1 x2 => r3 N (l3 N k0 n) k0 x0 x1 x2)
def b {R : Type} (N : Nat) (kr : Row → Option R) (a0 : Row) : Option R := bif (decide ((↑(List.length a0) : Int) = (↑(List.length a0) : Int)) && roomy (Int.toNat (↑(List.length a0) : Int)) 24) then (l3 N (fun y3 y4 y5 => kr y5) N a0 0 (zeros [Ck.l 3] (Int.toNat (↑(List.length a0) : Int)))) else (none)
theorem q3_bind {R S : Type} (f : R → Option S) (N : Nat) (k0 : Row → Int → Row → Option R) : ∀ n : Nat, (∀ (x0 : Row) (x1 : Int) (x2 : Row), Option.bind (l3 N k0 n x0 x1 x2) f = l3 N (fun y0 y1 y2 => (Option.bind (k0 y0 y1 y2) f)) n x0 x1 x2) := by
  intro n
  induction n with
  | zero => exact (fun _ _ _ => rfl)
  | succ n ih =>
    intro x0 x1 x2
    simp only [l3, r3, Lib.cond_bind, Lib.some_bind, Lib.none_bind, ih]
theorem l3_bind {R S : Type} (f : R → Option S) (N : Nat) (k0 : Row → Int → Row → Option R) (n : Nat) (x0 : Row) (x1 : Int) (x2 : Row) : Option.bind (l3 N k0 n x0 x1 x2) f = l3 N (fun y0 y1 y2 => (Option.bind (k0 y0 y1 y2) f)) n x0 x1 x2 := (q3_bind f N k0 n) x0 x1 x2
theorem b_bind {R : Type} (N : Nat) (kr : Row → Option R) (a0 : Row) : b N kr a0 = Option.bind (b N (fun r0 => some (r0)) a0) (fun p => kr p) := by
  unfold b; simp only [Lib.cond_bind, Lib.some_bind, Lib.none_bind, l3_bind]
def vo (a0 : Row) : Option (Row) := b Lib.big (fun r0 => some (r0)) a0
def c (a0 : Row) : Bool := Option.isSome (vo a0)
def v (a0 : Row) : Row := Option.getD (vo a0) ([])
theorem out (a0 : Row) {x : Row} (h : vo a0 = some x) : c a0 = true ∧ v a0 = x := by
  unfold c v; rw [h]; exact ⟨rfl, rfl⟩
theorem b_eq {R : Type} (kr : Row → Option R) (a0 : Row) (hc : c a0 = true) : ∃ N, b N kr a0 = kr (v a0) := by
  refine ⟨Lib.big, ?_⟩
  rw [b_bind]
  have e : vo a0 = some (v a0) := by
    unfold c at hc; unfold v
    cases h : vo a0 with
    | none => rw [h] at hc; cases hc
    | some x => rfl
  unfold vo at e
  rw [e]; rfl
end Go.FG.Pu.laws_toIntSS

namespace Go.FG.Pu.laws_toSketch
def b {R : Type} (kr : Row → Int → Option R) (a0_0 : Row) (a0_1 : Int) : Option R := bif (Pu.laws_toIntSS.c a0_0) then (kr (Pu.laws_toIntSS.v a0_0) a0_1) else (none)
theorem b_bind {R : Type} (kr : Row → Int → Option R) (a0_0 : Row) (a0_1 : Int) : b kr a0_0 a0_1 = Option.bind (b (fun r0 r1 => some (r0, r1)) a0_0 a0_1) (fun p => kr p.1 p.2) := by
  unfold b; simp only [Lib.cond_bind, Lib.some_bind, Lib.none_bind]
def vo (a0_0 : Row) (a0_1 : Int) : Option (Row × Int) := b (fun r0 r1 => some (r0, r1)) a0_0 a0_1
def c (a0_0 : Row) (a0_1 : Int) : Bool := Option.isSome (vo a0_0 a0_1)
def v (a0_0 : Row) (a0_1 : Int) : Row × Int := Option.getD (vo a0_0 a0_1) ([], 0)
theorem out (a0_0 : Row) (a0_1 : Int) {x : Row × Int} (h : vo a0_0 a0_1 = some x) : c a0_0 a0_1 = true ∧ v a0_0 a0_1 = x := by
  unfold c v; rw [h]; exact ⟨rfl, rfl⟩
theorem b_eq {R : Type} (kr : Row → Int → Option R) (a0_0 : Row) (a0_1 : Int) (hc : c a0_0 a0_1 = true) : b kr a0_0 a0_1 = kr ((v a0_0 a0_1).1) ((v a0_0 a0_1).2) := by
  rw [b_bind]
  have e : vo a0_0 a0_1 = some (v a0_0 a0_1) := by
    unfold c at hc; unfold v
    cases h : vo a0_0 a0_1 with
    | none => rw [h] at hc; cases hc
    | some x => rfl
  unfold vo at e
  rw [e]; rfl
end Go.FG.Pu.laws_toSketch

namespace Go.FG.Pu.laws_toPolicy
def b {R : Type} (kr : Row → Row → Row → Int → Option R) (a0_0 : Row) (a0_1 : Row) (a0_2 : Row) (a0_3 : Int) : Option R := bif (Pu.laws_toStringS.c a0_0) then (bif (Pu.laws_toStringS.c a0_1) then (bif (Pu.laws_toSketch.c a0_2 a0_3) then (kr (Pu.laws_toStringS.v a0_0) (Pu.laws_toStringS.v a0_1) ((Pu.laws_toSketch.v a0_2 a0_3).1) ((Pu.laws_toSketch.v a0_2 a0_3).2)) else (none)) else (none)) else (none)
theorem b_bind {R : Type} (kr : Row → Row → Row → Int → Option R) (a0_0 : Row) (a0_1 : Row) (a0_2 : Row) (a0_3 : Int) : b kr a0_0 a0_1 a0_2 a0_3 = Option.bind (b (fun r0 r1 r2 r3 => some (r0, r1, r2, r3)) a0_0 a0_1 a0_2 a0_3) (fun p => kr p.1 p.2.1 p.2.2.1 p.2.2.2) := by
  unfold b; simp only [Lib.cond_bind, Lib.some_bind, Lib.none_bind]
def vo (a0_0 : Row) (a0_1 : Row) (a0_2 : Row) (a0_3 : Int) : Option (Row × Row × Row × Int) := b (fun r0 r1 r2 r3 => some (r0, r1, r2, r3)) a0_0 a0_1 a0_2 a0_3
def c (a0_0 : Row) (a0_1 : Row) (a0_2 : Row) (a0_3 : Int) : Bool := Option.isSome (vo a0_0 a0_1 a0_2 a0_3)
def v (a0_0 : Row) (a0_1 : Row) (a0_2 : Row) (a0_3 : Int) : Row × Row × Row × Int := Option.getD (vo a0_0 a0_1 a0_2 a0_3) ([], [], [], 0)
theorem out (a0_0 : Row) (a0_1 : Row) (a0_2 : Row) (a0_3 : Int) {x : Row × Row × Row × Int} (h : vo a0_0 a0_1 a0_2 a0_3 = some x) : c a0_0 a0_1 a0_2 a0_3 = true ∧ v a0_0 a0_1 a0_2 a0_3 = x := by
  unfold c v; rw [h]; exact ⟨rfl, rfl⟩
theorem b_eq {R : Type} (kr : Row → Row → Row → Int → Option R) (a0_0 : Row) (a0_1 : Row) (a0_2 : Row) (a0_3 : Int) (hc : c a0_0 a0_1 a0_2 a0_3 = true) : b kr a0_0 a0_1 a0_2 a0_3 = kr ((v a0_0 a0_1 a0_2 a0_3).1) ((v a0_0 a0_1 a0_2 a0_3).2.1) ((v a0_0 a0_1 a0_2 a0_3).2.2.1) ((v a0_0 a0_1 a0_2 a0_3).2.2.2) := by
  rw [b_bind]
  have e : vo a0_0 a0_1 a0_2 a0_3 = some (v a0_0 a0_1 a0_2 a0_3) := by
    unfold c at hc; unfold v
    cases h : vo a0_0 a0_1 a0_2 a0_3 with
    | none => rw [h] at hc; cases hc
    | some x => rfl
  unfold vo at e
  rw [e]; rfl
end Go.FG.Pu.laws_toPolicy

namespace Go.FG.Pu.laws_toFetch
def b {R : Type} (kr : ByteArray → ByteArray → Int → Int → Int → Option R) (a0_0 : ByteArray) (a0_1 : ByteArray) (a0_2 : Int) (a0_3 : Int) (a0_4 : Int) : Option R := kr a0_0 a0_1 a0_2 a0_3 a0_4
def v (a0_0 : ByteArray) (a0_1 : ByteArray) (a0_2 : Int) (a0_3 : Int) (a0_4 : Int) : ByteArray × ByteArray × Int × Int × Int := (a0_0, a0_1, a0_2, a0_3, a0_4)
theorem b_eq {R : Type} (kr : ByteArray → ByteArray → Int → Int → Int → Option R) (a0_0 : ByteArray) (a0_1 : ByteArray) (a0_2 : Int) (a0_3 : Int) (a0_4 : Int) : b kr a0_0 a0_1 a0_2 a0_3 a0_4 = kr ((v a0_0 a0_1 a0_2 a0_3 a0_4).1) ((v a0_0 a0_1 a0_2 a0_3 a0_4).2.1) ((v a0_0 a0_1 a0_2 a0_3 a0_4).2.2.1) ((v a0_0 a0_1 a0_2 a0_3 a0_4).2.2.2.1) ((v a0_0 a0_1 a0_2 a0_3 a0_4).2.2.2.2) := by
  first | rfl | (unfold b v; simp only [Bool.cond_eq_ite]; (repeat' split) <;> rfl)
end Go.FG.Pu.laws_toFetch

namespace Go.FG.Pu.laws_toFetchS
def r3 {R : Type} (N : Nat) (g : Row → Int → Row → Option R) (k0 : Row → Int → Row → Option R) (x0 : Row) (x1 : Int) (x2 : Row) : Option R := bif (decide (x1 < (↑(List.length x0) : Int))) then (bif (decide (0 ≤ x1) && decide (x1 < (↑(List.length x0) : Int))) then (bif (decide (0 ≤ x1) && decide (x1 < (↑(List.length x2) : Int))) then (g x0 (w64 (x1 + 1)) (setC x2 (Int.toNat x1) 0 [CV.s (cvS (cellAt x0 (Int.toNat x1) 0)), CV.s (cvS (cellAt x0 (Int.toNat x1) 1)), CV.i IntKind.i64 (cvI (cellAt x0 (Int.toNat x1) (1 + 1))), CV.i IntKind.i64 (cvI (cellAt x0 (Int.toNat x1) (1 + 1 + 1))), CV.i IntKind.i64 (cvI (cellAt x0 (Int.toNat x1) (1 + 1 + 1 + 1)))])) else (none)) else (none)) else (k0 x0 x1 x2)
def l3 {R : Type} (N : Nat) (k0 : Row → Int → Row → Option R) : Nat → Row → Int → Row → Option R
  | 0 => (fun _ _ _ => none)
  | n + 1 => (fun x0 x1 x2 => r3 N (l3 N k0 n) k0 x0 x1 x2)
def b {R : Type} (N : Nat) (kr : Row → Option R) (a0 : Row) : Option R := bif (decide ((↑(List.length a0) : Int) = (↑(List.length a0) : Int)) && roomy (Int.toNat (↑(List.length a0) : Int)) 56) then (l3 N (fun y3 y4 y5 => kr y5) N a0 0 (zeros [Ck.s, Ck.s, Ck.i IntKind.i64, Ck.i IntKind.i64, Ck.i IntKind.i64] (Int.toNat (↑(List.length a0) : Int)))) else (none)
theorem q3_bind {R S : Type} (f : R → Option S) (N : Nat) (k0 : Row → Int → Row → Option R) : ∀ n : Nat, (∀ (x0 : Row) (x1 : Int) (x2 : Row), Option.bind (l3 N k0 n x0 x1 x2) f = l3 N (fun y0 y1 y2 => (Option.bind (k0 y0 y1 y2) f)) n x0 x1 x2) := by
  intro n
  induction n with
  | zero => exact (fun _ _ _ => rfl)
  | succ n ih =>
    intro x0 x1 x2
    simp only [l3, r3, Lib.cond_bind, Lib.some_bind, Lib.none_bind, ih]
theorem l3_bind {R S : Type} (f : R → Option S) (N : Nat) (k0 : Row → Int → Row → Option R) (n : Nat) (x0 : Row) (x1 : Int) (x2 : Row) : Option.bind (l3 N k0 n x0 x1 x2) f = l3 N (fun y0 y1 y2 => (Option.bind (k0 y0 y1 y2) f)) n x0 x1 x2 := (q3_bind f N k0 n) x0 x1 x2
theorem b_bind {R : Type} (N : Nat) (kr : Row → Option R) (a0 : Row) : b N kr a0 = Option.bind (b N (fun r0 => some (r0)) a0) (fun p => kr p) := by
  unfold b; simp only [Lib.cond_bind, Lib.some_bind, Lib.none_bind, l3_bind]
def vo (a0 : Row) : Option (Row) := b Lib.big (fun r0 => some (r0)) a0
def c (a0 : Row) : Bool := Option.isSome (vo a0)
def v (a0 : Row) : Row := Option.getD (vo a0) ([])
theorem out (a0 : Row) {x : Row} (h : vo a0 = some x) : c a0 = true ∧ v a0 = x := by
  unfold c v; rw [h]; exact ⟨rfl, rfl⟩
theorem b_eq {R : Type} (kr : Row → Option R) (a0 : Row) (hc : c a0 = true) : ∃ N, b N kr a0 = kr (v a0) := by
  refine ⟨Lib.big, ?_⟩
  rw [b_bind]
  have e : vo a0 = some (v a0) := by
    unfold c at hc; unfold v
    cases h : vo a0 with
    | none => rw [h] at hc; cases hc
    | some x => rfl
  unfold vo at e
  rw [e]; rfl
end Go.FG.Pu.laws_toFetchS

namespace Go.FG.Pu.laws_toClient
def b {R : Type} (kr : Int → ByteArray → Int → Int → Int → ByteArray → Int → Option R) (a0_0 : Int) (a0_1 : ByteArray) (a0_2 : Int) (a0_3 : Int) (a0_4 : Int) (a0_5 : ByteArray) (a0_6 : Int) : Option R := kr a0_0 a0_1 a0_2 a0_3 a0_4 a0_5 a0_6
def v (a0_0 : Int) (a0_1 : ByteArray) (a0_2 : Int) (a0_3 : Int) (a0_4 : Int) (a0_5 : ByteArray) (a0_6 : Int) : Int × ByteArray × Int × Int × Int × ByteArray × Int := (a0_0, a0_1, a0_2, a0_3, a0_4, a0_5, a0_6)
theorem b_eq {R : Type} (kr : Int → ByteArray → Int → Int → Int → ByteArray → Int → Option R) (a0_0 : Int) (a0_1 : ByteArray) (a0_2 : Int) (a0_3 : Int) (a0_4 : Int) (a0_5 : ByteArray) (a0_6 : Int) : b kr a0_0 a0_1 a0_2 a0_3 a0_4 a0_5 a0_6 = kr ((v a0_0 a0_1 a0_2 a0_3 a0_4 a0_5 a0_6).1) ((v a0_0 a0_1 a0_2 a0_3 a0_4 a0_5 a0_6).2.1) ((v a0_0 a0_1 a0_2 a0_3 a0_4 a0_5 a0_6).2.2.1) ((v a0_0 a0_1 a0_2 a0_3 a0_4 a0_5 a0_6).2.2.2.1) ((v a0_0 a0_1 a0_2 a0_3 a0_4 a0_5 a0_6).2.2.2.2.1) ((v a0_0 a0_1 a0_2 a0_3 a0_4 a0_5 a0_6).2.2.2.2.2.1) ((v a0_0 a0_1 a0_2 a0_3 a0_4 a0_5 a0_6).2.2.2.2.2.2) := by
  first | rfl | (unfold b v; simp only [Bool.cond_eq_ite]; (repeat' split) <;> rfl)
end Go.FG.Pu.laws_toClient

namespace Go.FG.Pu.laws_toClientS
def r3 {R : Type} (N : Nat) (g : Row → Int → Row → Option R) (k0 : Row → Int → Row → Option R) (x0 : Row) (x1 : Int) (x2 : Row) : Option R := bif (decide (x1 < (↑(List.length x0) : Int))) then (bif (decide (0 ≤ x1) && decide (x1 < (↑(List.length x0) : Int))) then (bif (decide (0 ≤ x1) && decide (x1 < (↑(List.length x2) : Int))) then (g x0 (w64 (x1 + 1)) (setC x2 (Int.toNat x1) 0 [CV.i IntKind.i64 (cvI (cellAt x0 (Int.toNat x1) 0)), CV.s (cvS (cellAt x0 (Int.toNat x1) 1)), CV.i IntKind.i64 (cvI (cellAt x0 (Int.toNat x1) (1 + 1))), CV.i IntKind.i64 (cvI (cellAt x0 (Int.toNat x1) (1 + 1 + 1))), CV.i IntKind.i64 (cvI (cellAt x0 (Int.toNat x1) (1 + 1 + 1 + 1))), CV.s (cvS (cellAt x0 (Int.toNat x1) (1 + 1 + 1 + 1 + 1))), CV.i IntKind.i64 (cvI (cellAt x0 (Int.toNat x1) (1 + 1 + 1 + 1 + 1 + 1)))])) else (none)) else (none)) else (k0 x0 x1 x2)
def l3 {R : Type} (N : Nat) (k0 : Row → Int → Row → Option R) : Nat → Row → Int → Row → Option R
  | 0 => (fun _ _ _ => none)
  | n + 1 => (fun x0 x1 x2 => r3 N (l3 N k0 n) k0 x0 x1 x2)
def b {R : Type} (N : Nat) (kr : Row → Option R) (a0 : Row) : Option R := bif (decide ((↑(List.length a0) : Int) = (↑(List.length a0) : Int)) && roomy (Int.toNat (↑(List.length a0) : Int)) 72) then (l3 N (fun y3 y4 y5 => kr y5) N a0 0 (zeros [Ck.i IntKind.i64, Ck.s, Ck.i IntKind.i64, Ck.i IntKind.i64, Ck.i IntKind.i64, Ck.s, Ck.i IntKind.i64] (Int.toNat (↑(List.length a0) : Int)))) else (none)
theorem q3_bind {R S : Type} (f : R → Option S) (N : Nat) (k0 : Row → Int → Row → Option R) : ∀ n : Nat, (∀ (x0 : Row) (x1 : Int) (x2 : Row), Option.bind (l3 N k0 n x0 x1 x2) f = l3 N (fun y0 y1 y2 => (Option.bind (k0 y0 y1 y2) f)) n x0 x1 x2) := by
  intro n
  induction n with
  | zero => exact (fun _ _ _ => rfl)
  | succ n ih =>
    intro x0 x1 x2
    simp only [l3, r3, Lib.cond_bind, Lib.some_bind, Lib.none_bind, ih]
theorem l3_bind {R S : Type} (f : R → Option S) (N : Nat) (k0 : Row → Int → Row → Option R) (n : Nat) (x0 : Row) (x1 : Int) (x2 : Row) : Option.bind (l3 N k0 n x0 x1 x2) f = l3 N (fun y0 y1 y2 => (Option.bind (k0 y0 y1 y2) f)) n x0 x1 x2 := (q3_bind f N k0 n) x0 x1 x2
theorem b_bind {R : Type} (N : Nat) (kr : Row → Option R) (a0 : Row) : b N kr a0 = Option.bind (b N (fun r0 => some (r0)) a0) (fun p => kr p) := by
  unfold b; simp only [Lib.cond_bind, Lib.some_bind, Lib.none_bind, l3_bind]
def vo (a0 : Row) : Option (Row) := b Lib.big (fun r0 => some (r0)) a0
def c (a0 : Row) : Bool := Option.isSome (vo a0)
def v (a0 : Row) : Row := Option.getD (vo a0) ([])
theorem out (a0 : Row) {x : Row} (h : vo a0 = some x) : c a0 = true ∧ v a0 = x := by
  unfold c v; rw [h]; exact ⟨rfl, rfl⟩
theorem b_eq {R : Type} (kr : Row → Option R) (a0 : Row) (hc : c a0 = true) : ∃ N, b N kr a0 = kr (v a0) := by
  refine ⟨Lib.big, ?_⟩
  rw [b_bind]
  have e : vo a0 = some (v a0) := by
    unfold c at hc; unfold v
    cases h : vo a0 with
    | none => rw [h] at hc; cases hc
    | some x => rfl
  unfold vo at e
  rw [e]; rfl
end Go.FG.Pu.laws_toClientS

namespace Go.FG.Pu.laws_toProxy
def b {R : Type} (kr : Int → Row → Row → Row → Row → Int → Row → Row → Int → Option R) (a0_0 : Int) (a0_1 : Row) (a0_2 : Row) (a0_3 : Row) (a0_4 : Row) (a0_5 : Int) (a0_6 : Row) (a0_7 : Row) (a0_8 : Int) : Option R := bif (Pu.laws_toEntryS.c a0_1) then (bif (Pu.laws_toPolicy.c a0_2 a0_3 a0_4 a0_5) then (bif (Pu.laws_toFetchS.c a0_6) then (bif (Pu.laws_toClientS.c a0_7) then (kr a0_0 (Pu.laws_toEntryS.v a0_1) ((Pu.laws_toPolicy.v a0_2 a0_3 a0_4 a0_5).1) ((Pu.laws_toPolicy.v a0_2 a0_3 a0_4 a0_5).2.1) ((Pu.laws_toPolicy.v a0_2 a0_3 a0_4 a0_5).2.2.1) ((Pu.laws_toPolicy.v a0_2 a0_3 a0_4 a0_5).2.2.2) (Pu.laws_toFetchS.v a0_6) (Pu.laws_toClientS.v a0_7) a0_8) else (none)) else (none)) else (none)) else (none)
theorem b_bind {R : Type} (kr : Int → Row → Row → Row → Row → Int → Row → Row → Int → Option R) (a0_0 : Int) (a0_1 : Row) (a0_2 : Row) (a0_3 : Row) (a0_4 : Row) (a0_5 : Int) (a0_6 : Row) (a0_7 : Row) (a0_8 : Int) : b kr a0_0 a0_1 a0_2 a0_3 a0_4 a0_5 a0_6 a0_7 a0_8 = Option.bind (b (fun r0 r1 r2 r3 r4 r5 r6 r7 r8 => some (r0, r1, r2, r3, r4, r5, r6, r7, r8)) a0_0 a0_1 a0_2 a0_3 a0_4 a0_5 a0_6 a0_7 a0_8) (fun p => kr p.1 p.2.1 p.2.2.1 p.2.2.2.1 p.2.2.2.2.1 p.2.2.2.2.2.1 p.2.2.2.2.2.2.1 p.2.2.2.2.2.2.2.1 p.2.2.2.2.2.2.2.2) := by
  unfold b; simp only [Lib.cond_bind, Lib.some_bind, Lib.none_bind]
def vo (a0_0 : Int) (a0_1 : Row) (a0_2 : Row) (a0_3 : Row) (a0_4 : Row) (a0_5 : Int) (a0_6 : Row) (a0_7 : Row) (a0_8 : Int) : Option (Int × Row × Row × Row × Row × Int × Row × Row × Int) := b (fun r0 r1 r2 r3 r4 r5 r6 r7 r8 => some (r0, r1, r2, r3, r4, r5, r6, r7, r8)) a0_0 a0_1 a0_2 a0_3 a0_4 a0_5 a0_6 a0_7 a0_8
def c (a0_0 : Int) (a0_1 : Row) (a0_2 : Row) (a0_3 : Row) (a0_4 : Row) (a0_5 : Int) (a0_6 : Row) (a0_7 : Row) (a0_8 : Int) : Bool := Option.isSome (vo a0_0 a0_1 a0_2 a0_3 a0_4 a0_5 a0_6 a0_7 a0_8)
def v (a0_0 : Int) (a0_1 : Row) (a0_2 : Row) (a0_3 : Row) (a0_4 : Row) (a0_5 : Int) (a0_6 : Row) (a0_7 : Row) (a0_8 : Int) : Int × Row × Row × Row × Row × Int × Row × Row × Int := Option.getD (vo a0_0 a0_1 a0_2 a0_3 a0_4 a0_5 a0_6 a0_7 a0_8) (0, [], [], [], [], 0, [], [], 0)
theorem out (a0_0 : Int) (a0_1 : Row) (a0_2 : Row) (a0_3 : Row) (a0_4 : Row) (a0_5 : Int) (a0_6 : Row) (a0_7 : Row) (a0_8 : Int) {x : Int × Row × Row × Row × Row × Int × Row × Row × Int} (h : vo a0_0 a0_1 a0_2 a0_3 a0_4 a0_5 a0_6 a0_7 a0_8 = some x) : c a0_0 a0_1 a0_2 a0_3 a0_4 a0_5 a0_6 a0_7 a0_8 = true ∧ v a0_0 a0_1 a0_2 a0_3 a0_4 a0_5 a0_6 a0_7 a0_8 = x := by
  unfold c v; rw [h]; exact ⟨rfl, rfl⟩
theorem b_eq {R : Type} (kr : Int → Row → Row → Row → Row → Int → Row → Row → Int → Option R) (a0_0 : Int) (a0_1 : Row) (a0_2 : Row) (a0_3 : Row) (a0_4 : Row) (a0_5 : Int) (a0_6 : Row) (a0_7 : Row) (a0_8 : Int) (hc : c a0_0 a0_1 a0_2 a0_3 a0_4 a0_5 a0_6 a0_7 a0_8 = true) : b kr a0_0 a0_1 a0_2 a0_3 a0_4 a0_5 a0_6 a0_7 a0_8 = kr ((v a0_0 a0_1 a0_2 a0_3 a0_4 a0_5 a0_6 a0_7 a0_8).1) ((v a0_0 a0_1 a0_2 a0_3 a0_4 a0_5 a0_6 a0_7 a0_8).2.1) ((v a0_0 a0_1 a0_2 a0_3 a0_4 a0_5 a0_6 a0_7 a0_8).2.2.1) ((v a0_0 a0_1 a0_2 a0_3 a0_4 a0_5 a0_6 a0_7 a0_8).2.2.2.1) ((v a0_0 a0_1 a0_2 a0_3 a0_4 a0_5 a0_6 a0_7 a0_8).2.2.2.2.1) ((v a0_0 a0_1 a0_2 a0_3 a0_4 a0_5 a0_6 a0_7 a0_8).2.2.2.2.2.1) ((v a0_0 a0_1 a0_2 a0_3 a0_4 a0_5 a0_6 a0_7 a0_8).2.2.2.2.2.2.1) ((v a0_0 a0_1 a0_2 a0_3 a0_4 a0_5 a0_6 a0_7 a0_8).2.2.2.2.2.2.2.1) ((v a0_0 a0_1 a0_2 a0_3 a0_4 a0_5 a0_6 a0_7 a0_8).2.2.2.2.2.2.2.2) := by
  rw [b_bind]
  have e : vo a0_0 a0_1 a0_2 a0_3 a0_4 a0_5 a0_6 a0_7 a0_8 = some (v a0_0 a0_1 a0_2 a0_3 a0_4 a0_5 a0_6 a0_7 a0_8) := by
    unfold c at hc; unfold v
    cases h : vo a0_0 a0_1 a0_2 a0_3 a0_4 a0_5 a0_6 a0_7 a0_8 with
    | none => rw [h] at hc; cases hc
    | some x => rfl
  unfold vo at e
  rw [e]; rfl
end Go.FG.Pu.laws_toProxy

namespace Go.FG.Pu.laws_toFile
def b {R : Type} (kr : ByteArray → ByteArray → Int → Option R) (a0_0 : ByteArray) (a0_1 : ByteArray) (a0_2 : Int) : Option R := kr a0_0 a0_1 a0_2
def v (a0_0 : ByteArray) (a0_1 : ByteArray) (a0_2 : Int) : ByteArray × ByteArray × Int := (a0_0, a0_1, a0_2)
theorem b_eq {R : Type} (kr : ByteArray → ByteArray → Int → Option R) (a0_0 : ByteArray) (a0_1 : ByteArray) (a0_2 : Int) : b kr a0_0 a0_1 a0_2 = kr ((v a0_0 a0_1 a0_2).1) ((v a0_0 a0_1 a0_2).2.1) ((v a0_0 a0_1 a0_2).2.2) := by
  first | rfl | (unfold b v; simp only [Bool.cond_eq_ite]; (repeat' split) <;> rfl)
end Go.FG.Pu.laws_toFile

namespace Go.FG.Pu.laws_toFileS
def r3 {R : Type} (N : Nat) (g : Row → Int → Row → Option R) (k0 : Row → Int → Row → Option R) (x0 : Row) (x1 : Int) (x2 : Row) : Option R := bif (decide (x1 < (↑(List.length x0) : Int))) then (bif (decide (0 ≤ x1) && decide (x1 < (↑(List.length x0) : Int))) then (bif (decide (0 ≤ x1) && decide (x1 < (↑(List.length x2) : Int))) then (g x0 (w64 (x1 + 1)) (setC x2 (Int.toNat x1) 0 [CV.s (cvS (cellAt x0 (Int.toNat x1) 0)), CV.s (cvS (cellAt x0 (Int.toNat x1) 1)), CV.i IntKind.i64 (cvI (cellAt x0 (Int.toNat x1) (1 + 1)))])) else (none)) else (none)) else (k0 x0 x1 x2)
def l3 {R : Type} (N : Nat) (k0 : Row → Int → Row → Option R) : Nat → Row → Int → Row → Option R
  | 0 => (fun _ _ _ => none)
  | n + 1 => (fun x0 x1 x2 => r3 N (l3 N k0 n) k0 x0 x1 x2)
def b {R : Type} (N : Nat) (kr : Row → Option R) (a0 : Row) : Option R := bif (decide ((↑(List.length a0) : Int) = (↑(List.length a0) : Int)) && roomy (Int.toNat (↑(List.length a0) : Int)) 40) then (l3 N (fun y3 y4 y5 => kr y5) N a0 0 (zeros [Ck.s, Ck.s, Ck.i IntKind.i64] (Int.toNat (↑(List.length a0) : Int)))) else (none)
theorem q3_bind {R S : Type} (f : R → Option S) (N : Nat) (k0 : Row → Int → Row → Option R) : ∀ n : Nat, (∀ (x0 : Row) (x1 : Int) (x2 : Row), Option.bind (l3 N k0 n x0 x1 x2) f = l3 N (fun y0 y1 y2 => (Option.bind (k0 y0 y1 y2) f)) n x0 x1 x2) := by
  intro n
  induction n with
  | zero => exact (fun _ _ _ => rfl)
  | succ n ih =>
    intro x0 x1 x2
    simp only [l3, r3, Lib.cond_bind, Lib.some_bind, Lib.none_bind, ih]
theorem l3_bind {R S : Type} (f : R → Option S) (N : Nat) (k0 : Row → Int → Row → Option R) (n : Nat) (x0 : Row) (x1 : Int) (x2 : Row) : Option.bind (l3 N k0 n x0 x1 x2) f = l3 N (fun y0 y1 y2 => (Option.bind (k0 y0 y1 y2) f)) n x0 x1 x2 := (q3_bind f N k0 n) x0 x1 x2
theorem b_bind {R : Type} (N : Nat) (kr : Row → Option R) (a0 : Row) : b N kr a0 = Option.bind (b N (fun r0 => some (r0)) a0) (fun p => kr p) := by
  unfold b; simp only [Lib.cond_bind, Lib.some_bind, Lib.none_bind, l3_bind]
def vo (a0 : Row) : Option (Row) := b Lib.big (fun r0 => some (r0)) a0
def c (a0 : Row) : Bool := Option.isSome (vo a0)
def v (a0 : Row) : Row := Option.getD (vo a0) ([])
theorem out (a0 : Row) {x : Row} (h : vo a0 = some x) : c a0 = true ∧ v a0 = x := by
  unfold c v; rw [h]; exact ⟨rfl, rfl⟩
theorem b_eq {R : Type} (kr : Row → Option R) (a0 : Row) (hc : c a0 = true) : ∃ N, b N kr a0 = kr (v a0) := by
  refine ⟨Lib.big, ?_⟩
  rw [b_bind]
  have e : vo a0 = some (v a0) := by
    unfold c at hc; unfold v
    cases h : vo a0 with
    | none => rw [h] at hc; cases hc
    | some x => rfl
  unfold vo at e
  rw [e]; rfl
end Go.FG.Pu.laws_toFileS

namespace Go.FG.Pu.laws_toDisk
def b {R : Type} (kr : Row → Option R) (a0 : Row) : Option R := bif (Pu.laws_toFileS.c a0) then (kr (Pu.laws_toFileS.v a0)) else (none)
theorem b_bind {R : Type} (kr : Row → Option R) (a0 : Row) : b kr a0 = Option.bind (b (fun r0 => some (r0)) a0) (fun p => kr p) := by
  unfold b; simp only [Lib.cond_bind, Lib.some_bind, Lib.none_bind]
def vo (a0 : Row) : Option (Row) := b (fun r0 => some (r0)) a0
def c (a0 : Row) : Bool := Option.isSome (vo a0)
def v (a0 : Row) : Row := Option.getD (vo a0) ([])
theorem out (a0 : Row) {x : Row} (h : vo a0 = some x) : c a0 = true ∧ v a0 = x := by
  unfold c v; rw [h]; exact ⟨rfl, rfl⟩
theorem b_eq {R : Type} (kr : Row → Option R) (a0 : Row) (hc : c a0 = true) : b kr a0 = kr (v a0) := by
  rw [b_bind]
  have e : vo a0 = some (v a0) := by
    unfold c at hc; unfold v
    cases h : vo a0 with
    | none => rw [h] at hc; cases hc
    | some x => rfl
  unfold vo at e
  rw [e]; rfl
end Go.FG.Pu.laws_toDisk

namespace Go.FG.Pu.laws_toWorld
def b {R : Type} (kr : Int → Row → Row → Row → Row → Int → Row → Row → Int → Row → Row → Row → Option R) (a0_0 : Int) (a0_1 : Row) (a0_2 : Row) (a0_3 : Row) (a0_4 : Row) (a0_5 : Int) (a0_6 : Row) (a0_7 : Row) (a0_8 : Int) (a0_9 : Row) (a0_10 : Row) (a0_11 : Row) : Option R := bif (Pu.laws_toProxy.c a0_0 a0_1 a0_2 a0_3 a0_4 a0_5 a0_6 a0_7 a0_8) then (bif (Pu.laws_toDisk.c a0_9) then (bif (Pu.laws_toIntS.c a0_10) then (bif (Pu.laws_toEntryS.c a0_11) then (kr ((Pu.laws_toProxy.v a0_0 a0_1 a0_2 a0_3 a0_4 a0_5 a0_6 a0_7 a0_8).1) ((Pu.laws_toProxy.v a0_0 a0_1 a0_2 a0_3 a0_4 a0_5 a0_6 a0_7 a0_8).2.1) ((Pu.laws_toProxy.v a0_0 a0_1 a0_2 a0_3 a0_4 a0_5 a0_6 a0_7 a0_8).2.2.1) ((Pu.laws_toProxy.v a0_0 a0_1 a0_2 a0_3 a0_4 a0_5 a0_6 a0_7 a0_8).2.2.2.1) ((Pu.laws_toProxy.v a0_0 a0_1 a0_2 a0_3 a0_4 a0_5 a0_6 a0_7 a0_8).2.2.2.2.1) ((Pu.laws_toProxy.v a0_0 a0_1 a0_2 a0_3 a0_4 a0_5 a0_6 a0_7 a0_8).2.2.2.2.2.1) ((Pu.laws_toProxy.v a0_0 a0_1 a0_2 a0_3 a0_4 a0_5 a0_6 a0_7 a0_8).2.2.2.2.2.2.1) ((Pu.laws_toProxy.v a0_0 a0_1 a0_2 a0_3 a0_4 a0_5 a0_6 a0_7 a0_8).2.2.2.2.2.2.2.1) ((Pu.laws_toProxy.v a0_0 a0_1 a0_2 a0_3 a0_4 a0_5 a0_6 a0_7 a0_8).2.2.2.2.2.2.2.2) (Pu.laws_toDisk.v a0_9) (Pu.laws_toIntS.v a0_10) (Pu.laws_toEntryS.v a0_11)) else (none)) else (none)) else (none)) else (none)
theorem b_bind {R : Type} (kr : Int → Row → Row → Row → Row → Int → Row → Row → Int → Row → Row → Row → Option R) (a0_0 : Int) (a0_1 : Row) (a0_2 : Row) (a0_3 : Row) (a0_4 : Row) (a0_5 : Int) (a0_6 : Row) (a0_7 : Row) (a0_8 : Int) (a0_9 : Row) (a0_10 : Row) (a0_11 : Row) : b kr a0_0 a0_1 a0_2 a0_3 a0_4 a0_5 a0_6 a0_7 a0_8 a0_9 a0_10 a0_11 = Option.bind (b (fun r0 r1 r2 r3 r4 r5 r6 r7 r8 r9 r10 r11 => some (r0, r1, r2, r3, r4, r5, r6, r7, r8, r9, r10, r11)) a0_0 a0_1 a0_2 a0_3 a0_4 a0_5 a0_6 a0_7 a0_8 a0_9 a0_10 a0_11) (fun p => kr p.1 p.2.1 p.2.2.1 p.2.2.2.1 p.2.2.2.2.1 p.2.2.2.2.2.1 p.2.2.2.2.2.2.1 p.2.2.2.2.2.2.2.1 p.2.2.2.2.2.2.2.2.1 p.2.2.2.2.2.2.2.2.2.1 p.2.2.2.2.2.2.2.2.2.2.1 p.2.2.2.2.2.2.2.2.2.2.2) := by
  unfold b; simp only [Lib.cond_bind, Lib.some_bind, Lib.none_bind]
def vo (a0_0 : Int) (a0_1 : Row) (a0_2 : Row) (a0_3 : Row) (a0_4 : Row) (a0_5 : Int) (a0_6 : Row) (a0_7 : Row) (a0_8 : Int) (a0_9 : Row) (a0_10 : Row) (a0_11 : Row) : Option (Int × Row × Row × Row × Row × Int × Row × Row × Int × Row × Row × Row) := b (fun r0 r1 r2 r3 r4 r5 r6 r7 r8 r9 r10 r11 => some (r0, r1, r2, r3, r4, r5, r6, r7, r8, r9, r10, r11)) a0_0 a0_1 a0_2 a0_3 a0_4 a0_5 a0_6 a0_7 a0_8 a0_9 a0_10 a0_11
def c (a0_0 : Int) (a0_1 : Row) (a0_2 : Row) (a0_3 : Row) (a0_4 : Row) (a0_5 : Int) (a0_6 : Row) (a0_7 : Row) (a0_8 : Int) (a0_9 : Row) (a0_10 : Row) (a0_11 : Row) : Bool := Option.isSome (vo a0_0 a0_1 a0_2 a0_3 a0_4 a0_5 a0_6 a0_7 a0_8 a0_9 a0_10 a0_11)
def v (a0_0 : Int) (a0_1 : Row) (a0_2 : Row) (a0_3 : Row) (a0_4 : Row) (a0_5 : Int) (a0_6 : Row) (a0_7 : Row) (a0_8 : Int) (a0_9 : Row) (a0_10 : Row) (a0_11 : Row) : Int × Row × Row × Row × Row × Int × Row × Row × Int × Row × Row × Row := Option.getD (vo a0_0 a0_1 a0_2 a0_3 a0_4 a0_5 a0_6 a0_7 a0_8 a0_9 a0_10 a0_11) (0, [], [], [], [], 0, [], [], 0, [], [], [])
theorem out (a0_0 : Int) (a0_1 : Row) (a0_2 : Row) (a0_3 : Row) (a0_4 : Row) (a0_5 : Int) (a0_6 : Row) (a0_7 : Row) (a0_8 : Int) (a0_9 : Row) (a0_10 : Row) (a0_11 : Row) {x : Int × Row × Row × Row × Row × Int × Row × Row × Int × Row × Row × Row} (h : vo a0_0 a0_1 a0_2 a0_3 a0_4 a0_5 a0_6 a0_7 a0_8 a0_9 a0_10 a0_11 = some x) : c a0_0 a0_1 a0_2 a0_3 a0_4 a0_5 a0_6 a0_7 a0_8 a0_9 a0_10 a0_11 = true ∧ v a0_0 a0_1 a0_2 a0_3 a0_4 a0_5 a0_6 a0_7 a0_8 a0_9 a0_10 a0_11 = x := by
  unfold c v; rw [h]; exact ⟨rfl, rfl⟩
theorem b_eq {R : Type} (kr : Int → Row → Row → Row → Row → Int → Row → Row → Int → Row → Row → Row → Option R) (a0_0 : Int) (a0_1 : Row) (a0_2 : Row) (a0_3 : Row) (a0_4 : Row) (a0_5 : Int) (a0_6 : Row) (a0_7 : Row) (a0_8 : Int) (a0_9 : Row) (a0_10 : Row) (a0_11 : Row) (hc : c a0_0 a0_1 a0_2 a0_3 a0_4 a0_5 a0_6 a0_7 a0_8 a0_9 a0_10 a0_11 = true) : b kr a0_0 a0_1 a0_2 a0_3 a0_4 a0_5 a0_6 a0_7 a0_8 a0_9 a0_10 a0_11 = kr ((v a0_0 a0_1 a0_2 a0_3 a0_4 a0_5 a0_6 a0_7 a0_8 a0_9 a0_10 a0_11).1) ((v a0_0 a0_1 a0_2 a0_3 a0_4 a0_5 a0_6 a0_7 a0_8 a0_9 a0_10 a0_11).2.1) ((v a0_0 a0_1 a0_2 a0_3 a0_4 a0_5 a0_6 a0_7 a0_8 a0_9 a0_10 a0_11).2.2.1) ((v a0_0 a0_1 a0_2 a0_3 a0_4 a0_5 a0_6 a0_7 a0_8 a0_9 a0_10 a0_11).2.2.2.1) ((v a0_0 a0_1 a0_2 a0_3 a0_4 a0_5 a0_6 a0_7 a0_8 a0_9 a0_10 a0_11).2.2.2.2.1) ((v a0_0 a0_1 a0_2 a0_3 a0_4 a0_5 a0_6 a0_7 a0_8 a0_9 a0_10 a0_11).2.2.2.2.2.1) ((v a0_0 a0_1 a0_2 a0_3 a0_4 a0_5 a0_6 a0_7 a0_8 a0_9 a0_10 a0_11).2.2.2.2.2.2.1) ((v a0_0 a0_1 a0_2 a0_3 a0_4 a0_5 a0_6 a0_7 a0_8 a0_9 a0_10 a0_11).2.2.2.2.2.2.2.1) ((v a0_0 a0_1 a0_2 a0_3 a0_4 a0_5 a0_6 a0_7 a0_8 a0_9 a0_10 a0_11).2.2.2.2.2.2.2.2.1) ((v a0_0 a0_1 a0_2 a0_3 a0_4 a0_5 a0_6 a0_7 a0_8 a0_9 a0_10 a0_11).2.2.2.2.2.2.2.2.2.1) ((v a0_0 a0_1 a0_2 a0_3 a0_4 a0_5 a0_6 a0_7 a0_8 a0_9 a0_10 a0_11).2.2.2.2.2.2.2.2.2.2.1) ((v a0_0 a0_1 a0_2 a0_3 a0_4 a0_5 a0_6 a0_7 a0_8 a0_9 a0_10 a0_11).2.2.2.2.2.2.2.2.2.2.2) := by
  rw [b_bind]
  have e : vo a0_0 a0_1 a0_2 a0_3 a0_4 a0_5 a0_6 a0_7 a0_8 a0_9 a0_10 a0_11 = some (v a0_0 a0_1 a0_2 a0_3 a0_4 a0_5 a0_6 a0_7 a0_8 a0_9 a0_10 a0_11) := by
    unfold c at hc; unfold v
    cases h : vo a0_0 a0_1 a0_2 a0_3 a0_4 a0_5 a0_6 a0_7 a0_8 a0_9 a0_10 a0_11 with
    | none => rw [h] at hc; cases hc
    | some x => rfl
  unfold vo at e
  rw [e]; rfl
end Go.FG.Pu.laws_toWorld

namespace Go.FG.Pu.spec_l18In
def r2 {R : Type} (N : Nat) (g : Row → Bool → Int → ByteArray → Int → Int → ByteArray → Option R) (k0 : Row → Bool → Int → ByteArray → Int → Int → ByteArray → Option R) (k1 : Row → Bool → Int → ByteArray → Int → Int → ByteArray → Option R) (x0 : Row) (x1 : Bool) (x2 : Int) (x3 : ByteArray) (x4 : Int) (x5 : Int) (x6 : ByteArray) : Option R := bif (decide (x2 < (↑(List.length x0) : Int))) then (bif (decide (0 ≤ x2) && decide (x2 < (↑(List.length x0) : Int))) then (bif (List.beq (ByteArray.toList (cvS (cellAt x0 (Int.toNat x2) 0))) (ByteArray.toList x3) && (decide (cvI (cellAt x0 (Int.toNat x2) 1) = x4) && (decide (cvI (cellAt x0 (Int.toNat x2) (1 + 1)) = x5) && (List.beq (ByteArray.toList (cvS (cellAt x0 (Int.toNat x2) (1 + 1 + 1)))) (ByteArray.toList x6) && true)))) then (k0 x0 true x2 x3 x4 x5 x6) else (g x0 x1 (w64 (x2 + 1)) x3 x4 x5 x6)) else (none)) else (k1 x0 x1 x2 x3 x4 x5 x6)
def l2 {R : Type} (N : Nat) (k0 : Row → Bool → Int → ByteArray → Int → Int → ByteArray → Option R) (k1 : Row → Bool → Int → ByteArray → Int → Int → ByteArray → Option R) : Nat → Row → Bool → Int → ByteArray → Int → Int → ByteArray → Option R
  | 0 => (fun _ _ _ _ _ _ _ => none)
  | n + 1 => (fun x0 x1 x2 x3 x4 x5 x6 => r2 N (l2 N k0 k1 n) k0 k1 x0 x1 x2 x3 x4 x5 x6)
def b {R : Type} (N : Nat) (kr : Bool → Option R) (list0 : Row) (e1_0 : ByteArray) (e1_1 : Int) (e1_2 : Int) (e1_3 : ByteArray) : Option R := l2 N (fun y7 y8 y9 y10 y11 y12 y13 => kr y8) (fun y14 y15 y16 y17 y18 y19 y20 => kr false) N list0 false 0 e1_0 e1_1 e1_2 e1_3
theorem q2_bind {R S : Type} (f : R → Option S) (N : Nat) (k0 : Row → Bool → Int → ByteArray → Int → Int → ByteArray → Option R) (k1 : Row → Bool → Int → ByteArray → Int → Int → ByteArray → Option R) : ∀ n : Nat, (∀ (x0 : Row) (x1 : Bool) (x2 : Int) (x3 : ByteArray) (x4 : Int) (x5 : Int) (x6 : ByteArray), Option.bind (l2 N k0 k1 n x0 x1 x2 x3 x4 x5 x6) f = l2 N (fun y0 y1 y2 y3 y4 y5 y6 => (Option.bind (k0 y0 y1 y2 y3 y4 y5 y6) f)) (fun y0 y1 y2 y3 y4 y5 y6 => (Option.bind (k1 y0 y1 y2 y3 y4 y5 y6) f)) n x0 x1 x2 x3 x4 x5 x6) := by
  intro n
  induction n with
  | zero => exact (fun _ _ _ _ _ _ _ => rfl)
  | succ n ih =>
    intro x0 x1 x2 x3 x4 x5 x6
    simp only [l2, r2, Lib.cond_bind, Lib.some_bind, Lib.none_bind, ih]
theorem l2_bind {R S : Type} (f : R → Option S) (N : Nat) (k0 : Row → Bool → Int → ByteArray → Int → Int → ByteArray → Option R) (k1 : Row → Bool → Int → ByteArray → Int → Int → ByteArray → Option R) (n : Nat) (x0 : Row) (x1 : Bool) (x2 : Int) (x3 : ByteArray) (x4 : Int) (x5 : Int) (x6 : ByteArray) : Option.bind (l2 N k0 k1 n x0 x1 x2 x3 x4 x5 x6) f = l2 N (fun y0 y1 y2 y3 y4 y5 y6 => (Option.bind (k0 y0 y1 y2 y3 y4 y5 y6) f)) (fun y0 y1 y2 y3 y4 y5 y6 => (Option.bind (k1 y0 y1 y2 y3 y4 y5 y6) f)) n x0 x1 x2 x3 x4 x5 x6 := (q2_bind f N k0 k1 n) x0 x1 x2 x3 x4 x5 x6
theorem b_bind {R : Type} (N : Nat) (kr : Bool → Option R) (list0 : Row) (e1_0 : ByteArray) (e1_1 : Int) (e1_2 : Int) (e1_3 : ByteArray) : b N kr list0 e1_0 e1_1 e1_2 e1_3 = Option.bind (b N (fun r0 => some (r0)) list0 e1_0 e1_1 e1_2 e1_3) (fun p => kr p) := by
  unfold b; simp only [Lib.cond_bind, Lib.some_bind, Lib.none_bind, l2_bind]
def vo (list0 : Row) (e1_0 : ByteArray) (e1_1 : Int) (e1_2 : Int) (e1_3 : ByteArray) : Option (Bool) := b Lib.big (fun r0 => some (r0)) list0 e1_0 e1_1 e1_2 e1_3
def c (list0 : Row) (e1_0 : ByteArray) (e1_1 : Int) (e1_2 : Int) (e1_3 : ByteArray) : Bool := Option.isSome (vo list0 e1_0 e1_1 e1_2 e1_3)
def v (list0 : Row) (e1_0 : ByteArray) (e1_1 : Int) (e1_2 : Int) (e1_3 : ByteArray) : Bool := Option.getD (vo list0 e1_0 e1_1 e1_2 e1_3) (false)
theorem out (list0 : Row) (e1_0 : ByteArray) (e1_1 : Int) (e1_2 : Int) (e1_3 : ByteArray) {x : Bool} (h : vo list0 e1_0 e1_1 e1_2 e1_3 = some x) : c list0 e1_0 e1_1 e1_2 e1_3 = true ∧ v list0 e1_0 e1_1 e1_2 e1_3 = x := by
  unfold c v; rw [h]; exact ⟨rfl, rfl⟩
theorem b_eq {R : Type} (kr : Bool → Option R) (list0 : Row) (e1_0 : ByteArray) (e1_1 : Int) (e1_2 : Int) (e1_3 : ByteArray) (hc : c list0 e1_0 e1_1 e1_2 e1_3 = true) : ∃ N, b N kr list0 e1_0 e1_1 e1_2 e1_3 = kr (v list0 e1_0 e1_1 e1_2 e1_3) := by
  refine ⟨Lib.big, ?_⟩
  rw [b_bind]
  have e : vo list0 e1_0 e1_1 e1_2 e1_3 = some (v list0 e1_0 e1_1 e1_2 e1_3) := by
    unfold c at hc; unfold v
    cases h : vo list0 e1_0 e1_1 e1_2 e1_3 with
    | none => rw [h] at hc; cases hc
    | some x => rfl
  unfold vo at e
  rw [e]; rfl
end Go.FG.Pu.spec_l18In

namespace Go.FG.Pu.spec_StoredRight
def r2 {R : Type} (N : Nat) (g : Bool → Int → Int → Row → Row → Row → Row → Int → Row → Row → Int → Row → Row → Row → Option R) (k0 : Bool → Int → Int → Row → Row → Row → Row → Int → Row → Row → Int → Row → Row → Row → Option R) (k1 : Bool → Int → Int → Row → Row → Row → Row → Int → Row → Row → Int → Row → Row → Row → Option R) (x0 : Bool) (x1 : Int) (x2 : Int) (x3 : Row) (x4 : Row) (x5 : Row) (x6 : Row) (x7 : Int) (x8 : Row) (x9 : Row) (x10 : Int) (x11 : Row) (x12 : Row) (x13 : Row) : Option R := bif (decide (x1 < (↑(List.length x3) : Int))) then (bif (decide (0 ≤ x1) && decide (x1 < (↑(List.length x3) : Int))) then (bif (Pu.spec_l18In.c x13 (cvS (cellAt x3 (Int.toNat x1) 0)) (cvI (cellAt x3 (Int.toNat x1) 1)) (cvI (cellAt x3 (Int.toNat x1) (1 + 1))) (cvS (cellAt x3 (Int.toNat x1) (1 + 1 + 1)))) then (bif (!Pu.spec_l18In.v x13 (cvS (cellAt x3 (Int.toNat x1) 0)) (cvI (cellAt x3 (Int.toNat x1) 1)) (cvI (cellAt x3 (Int.toNat x1) (1 + 1))) (cvS (cellAt x3 (Int.toNat x1) (1 + 1 + 1)))) then (k0 false x1 x2 x3 x4 x5 x6 x7 x8 x9 x10 x11 x12 x13) else (g x0 (w64 (x1 + 1)) x2 x3 x4 x5 x6 x7 x8 x9 x10 x11 x12 x13)) else (none)) else (none)) else (k1 x0 x1 x2 x3 x4 x5 x6 x7 x8 x9 x10 x11 x12 x13)
def l2 {R : Type} (N : Nat) (k0 : Bool → Int → Int → Row → Row → Row → Row → Int → Row → Row → Int → Row → Row → Row → Option R) (k1 : Bool → Int → Int → Row → Row → Row → Row → Int → Row → Row → Int → Row → Row → Row → Option R) : Nat → Bool → Int → Int → Row → Row → Row → Row → Int → Row → Row → Int → Row → Row → Row → Option R
  | 0 => (fun _ _ _ _ _ _ _ _ _ _ _ _ _ _ => none)
  | n + 1 => (fun x0 x1 x2 x3 x4 x5 x6 x7 x8 x9 x10 x11 x12 x13 => r2 N (l2 N k0 k1 n) k0 k1 x0 x1 x2 x3 x4 x5 x6 x7 x8 x9 x10 x11 x12 x13)
def b {R : Type} (N : Nat) (kr : Bool → Option R) (w0_0 : Int) (w0_1 : Row) (w0_2 : Row) (w0_3 : Row) (w0_4 : Row) (w0_5 : Int) (w0_6 : Row) (w0_7 : Row) (w0_8 : Int) (w0_9 : Row) (w0_10 : Row) (w0_11 : Row) : Option R := l2 N (fun y14 y15 y16 y17 y18 y19 y20 y21 y22 y23 y24 y25 y26 y27 => kr y14) (fun y28 y29 y30 y31 y32 y33 y34 y35 y36 y37 y38 y39 y40 y41 => kr true) N false 0 w0_0 w0_1 w0_2 w0_3 w0_4 w0_5 w0_6 w0_7 w0_8 w0_9 w0_10 w0_11
theorem q2_bind {R S : Type} (f : R → Option S) (N : Nat) (k0 : Bool → Int → Int → Row → Row → Row → Row → Int → Row → Row → Int → Row → Row → Row → Option R) (k1 : Bool → Int → Int → Row → Row → Row → Row → Int → Row → Row → Int → Row → Row → Row → Option R) : ∀ n : Nat, (∀ (x0 : Bool) (x1 : Int) (x2 : Int) (x3 : Row) (x4 : Row) (x5 : Row) (x6 : Row) (x7 : Int) (x8 : Row) (x9 : Row) (x10 : Int) (x11 : Row) (x12 : Row) (x13 : Row), Option.bind (l2 N k0 k1 n x0 x1 x2 x3 x4 x5 x6 x7 x8 x9 x10 x11 x12 x13) f = l2 N (fun y0 y1 y2 y3 y4 y5 y6 y7 y8 y9 y10 y11 y12 y13 => (Option.bind (k0 y0 y1 y2 y3 y4 y5 y6 y7 y8 y9 y10 y11 y12 y13) f)) (fun y0 y1 y2 y3 y4 y5 y6 y7 y8 y9 y10 y11 y12 y13 => (Option.bind (k1 y0 y1 y2 y3 y4 y5 y6 y7 y8 y9 y10 y11 y12 y13) f)) n x0 x1 x2 x3 x4 x5 x6 x7 x8 x9 x10 x11 x12 x13) := by
  intro n
  induction n with
  | zero => exact (fun _ _ _ _ _ _ _ _ _ _ _ _ _ _ => rfl)
  | succ n ih =>
    intro x0 x1 x2 x3 x4 x5 x6 x7 x8 x9 x10 x11 x12 x13
    simp only [l2, r2, Lib.cond_bind, Lib.some_bind, Lib.none_bind, ih]
theorem l2_bind {R S : Type} (f : R → Option S) (N : Nat) (k0 : Bool → Int → Int → Row → Row → Row → Row → Int → Row → Row → Int → Row → Row → Row → Option R) (k1 : Bool → Int → Int → Row → Row → Row → Row → Int → Row → Row → Int → Row → Row → Row → Option R) (n : Nat) (x0 : Bool) (x1 : Int) (x2 : Int) (x3 : Row) (x4 : Row) (x5 : Row) (x6 : Row) (x7 : Int) (x8 : Row) (x9 : Row) (x10 : Int) (x11 : Row) (x12 : Row) (x13 : Row) : Option.bind (l2 N k0 k1 n x0 x1 x2 x3 x4 x5 x6 x7 x8 x9 x10 x11 x12 x13) f = l2 N (fun y0 y1 y2 y3 y4 y5 y6 y7 y8 y9 y10 y11 y12 y13 => (Option.bind (k0 y0 y1 y2 y3 y4 y5 y6 y7 y8 y9 y10 y11 y12 y13) f)) (fun y0 y1 y2 y3 y4 y5 y6 y7 y8 y9 y10 y11 y12 y13 => (Option.bind (k1 y0 y1 y2 y3 y4 y5 y6 y7 y8 y9 y10 y11 y12 y13) f)) n x0 x1 x2 x3 x4 x5 x6 x7 x8 x9 x10 x11 x12 x13 := (q2_bind f N k0 k1 n) x0 x1 x2 x3 x4 x5 x6 x7 x8 x9 x10 x11 x12 x13
theorem b_bind {R : Type} (N : Nat) (kr : Bool → Option R) (w0_0 : Int) (w0_1 : Row) (w0_2 : Row) (w0_3 : Row) (w0_4 : Row) (w0_5 : Int) (w0_6 : Row) (w0_7 : Row) (w0_8 : Int) (w0_9 : Row) (w0_10 : Row) (w0_11 : Row) : b N kr w0_0 w0_1 w0_2 w0_3 w0_4 w0_5 w0_6 w0_7 w0_8 w0_9 w0_10 w0_11 = Option.bind (b N (fun r0 => some (r0)) w0_0 w0_1 w0_2 w0_3 w0_4 w0_5 w0_6 w0_7 w0_8 w0_9 w0_10 w0_11) (fun p => kr p) := by
  unfold b; simp only [Lib.cond_bind, Lib.some_bind, Lib.none_bind, l2_bind]
def vo (w0_0 : Int) (w0_1 : Row) (w0_2 : Row) (w0_3 : Row) (w0_4 : Row) (w0_5 : Int) (w0_6 : Row) (w0_7 : Row) (w0_8 : Int) (w0_9 : Row) (w0_10 : Row) (w0_11 : Row) : Option (Bool) := b Lib.big (fun r0 => some (r0)) w0_0 w0_1 w0_2 w0_3 w0_4 w0_5 w0_6 w0_7 w0_8 w0_9 w0_10 w0_11
def c (w0_0 : Int) (w0_1 : Row) (w0_2 : Row) (w0_3 : Row) (w0_4 : Row) (w0_5 : Int) (w0_6 : Row) (w0_7 : Row) (w0_8 : Int) (w0_9 : Row) (w0_10 : Row) (w0_11 : Row) : Bool := Option.isSome (vo w0_0 w0_1 w0_2 w0_3 w0_4 w0_5 w0_6 w0_7 w0_8 w0_9 w0_10 w0_11)
def v (w0_0 : Int) (w0_1 : Row) (w0_2 : Row) (w0_3 : Row) (w0_4 : Row) (w0_5 : Int) (w0_6 : Row) (w0_7 : Row) (w0_8 : Int) (w0_9 : Row) (w0_10 : Row) (w0_11 : Row) : Bool := Option.getD (vo w0_0 w0_1 w0_2 w0_3 w0_4 w0_5 w0_6 w0_7 w0_8 w0_9 w0_10 w0_11) (false)
theorem out (w0_0 : Int) (w0_1 : Row) (w0_2 : Row) (w0_3 : Row) (w0_4 : Row) (w0_5 : Int) (w0_6 : Row) (w0_7 : Row) (w0_8 : Int) (w0_9 : Row) (w0_10 : Row) (w0_11 : Row) {x : Bool} (h : vo w0_0 w0_1 w0_2 w0_3 w0_4 w0_5 w0_6 w0_7 w0_8 w0_9 w0_10 w0_11 = some x) : c w0_0 w0_1 w0_2 w0_3 w0_4 w0_5 w0_6 w0_7 w0_8 w0_9 w0_10 w0_11 = true ∧ v w0_0 w0_1 w0_2 w0_3 w0_4 w0_5 w0_6 w0_7 w0_8 w0_9 w0_10 w0_11 = x := by
  unfold c v; rw [h]; exact ⟨rfl, rfl⟩
theorem b_eq {R : Type} (kr : Bool → Option R) (w0_0 : Int) (w0_1 : Row) (w0_2 : Row) (w0_3 : Row) (w0_4 : Row) (w0_5 : Int) (w0_6 : Row) (w0_7 : Row) (w0_8 : Int) (w0_9 : Row) (w0_10 : Row) (w0_11 : Row) (hc : c w0_0 w0_1 w0_2 w0_3 w0_4 w0_5 w0_6 w0_7 w0_8 w0_9 w0_10 w0_11 = true) : ∃ N, b N kr w0_0 w0_1 w0_2 w0_3 w0_4 w0_5 w0_6 w0_7 w0_8 w0_9 w0_10 w0_11 = kr (v w0_0 w0_1 w0_2 w0_3 w0_4 w0_5 w0_6 w0_7 w0_8 w0_9 w0_10 w0_11) := by
  refine ⟨Lib.big, ?_⟩
  rw [b_bind]
  have e : vo w0_0 w0_1 w0_2 w0_3 w0_4 w0_5 w0_6 w0_7 w0_8 w0_9 w0_10 w0_11 = some (v w0_0 w0_1 w0_2 w0_3 w0_4 w0_5 w0_6 w0_7 w0_8 w0_9 w0_10 w0_11) := by
    unfold c at hc; unfold v
    cases h : vo w0_0 w0_1 w0_2 w0_3 w0_4 w0_5 w0_6 w0_7 w0_8 w0_9 w0_10 w0_11 with
    | none => rw [h] at hc; cases hc
    | some x => rfl
  unfold vo at e
  rw [e]; rfl
end Go.FG.Pu.spec_StoredRight

namespace Go.FG.Pu.slices_Index_Entry
def r2 {R : Type} (N : Nat) (g : Row → Int → Int → Int → ByteArray → Int → Int → ByteArray → Option R) (k0 : Row → Int → Int → Int → ByteArray → Int → Int → ByteArray → Option R) (k1 : Row → Int → Int → Int → ByteArray → Int → Int → ByteArray → Option R) (x0 : Row) (x1 : Int) (x2 : Int) (x3 : Int) (x4 : ByteArray) (x5 : Int) (x6 : Int) (x7 : ByteArray) : Option R := bif (decide (x3 < x2)) then (bif (decide (0 ≤ x3) && decide (x3 < (↑(List.length x0) : Int))) then (bif (List.beq (ByteArray.toList x4) (ByteArray.toList (cvS (cellAt x0 (Int.toNat x3) 0))) && (decide (x5 = cvI (cellAt x0 (Int.toNat x3) 1)) && (decide (x6 = cvI (cellAt x0 (Int.toNat x3) (1 + 1))) && (List.beq (ByteArray.toList x7) (ByteArray.toList (cvS (cellAt x0 (Int.toNat x3) (1 + 1 + 1)))) && true)))) then (k0 x0 x3 x2 x3 x4 x5 x6 x7) else (g x0 x1 x2 (w64 (x3 + 1)) x4 x5 x6 x7)) else (none)) else (k1 x0 x1 x2 x3 x4 x5 x6 x7)
def l2 {R : Type} (N : Nat) (k0 : Row → Int → Int → Int → ByteArray → Int → Int → ByteArray → Option R) (k1 : Row → Int → Int → Int → ByteArray → Int → Int → ByteArray → Option R) : Nat → Row → Int → Int → Int → ByteArray → Int → Int → ByteArray → Option R
  | 0 => (fun _ _ _ _ _ _ _ _ => none)
  | n + 1 => (fun x0 x1 x2 x3 x4 x5 x6 x7 => r2 N (l2 N k0 k1 n) k0 k1 x0 x1 x2 x3 x4 x5 x6 x7)
def b {R : Type} (N : Nat) (kr : Int → Option R) (s0 : Row) (v1_0 : ByteArray) (v1_1 : Int) (v1_2 : Int) (v1_3 : ByteArray) : Option R := l2 N (fun y8 y9 y10 y11 y12 y13 y14 y15 => kr y9) (fun y16 y17 y18 y19 y20 y21 y22 y23 => kr (-1)) N s0 0 (↑(List.length s0) : Int) 0 v1_0 v1_1 v1_2 v1_3
theorem q2_bind {R S : Type} (f : R → Option S) (N : Nat) (k0 : Row → Int → Int → Int → ByteArray → Int → Int → ByteArray → Option R) (k1 : Row → Int → Int → Int → ByteArray → Int → Int → ByteArray → Option R) : ∀ n : Nat, (∀ (x0 : Row) (x1 : Int) (x2 : Int) (x3 : Int) (x4 : ByteArray) (x5 : Int) (x6 : Int) (x7 : ByteArray), Option.bind (l2 N k0 k1 n x0 x1 x2 x3 x4 x5 x6 x7) f = l2 N (fun y0 y1 y2 y3 y4 y5 y6 y7 => (Option.bind (k0 y0 y1 y2 y3 y4 y5 y6 y7) f)) (fun y0 y1 y2 y3 y4 y5 y6 y7 => (Option.bind (k1 y0 y1 y2 y3 y4 y5 y6 y7) f)) n x0 x1 x2 x3 x4 x5 x6 x7) := by
  intro n
  induction n with
  | zero => exact (fun _ _ _ _ _ _ _ _ => rfl)
  | succ n ih =>
    intro x0 x1 x2 x3 x4 x5 x6 x7
    simp only [l2, r2, Lib.cond_bind, Lib.some_bind, Lib.none_bind, ih]
theorem l2_bind {R S : Type} (f : R → Option S) (N : Nat) (k0 : Row → Int → Int → Int → ByteArray → Int → Int → ByteArray → Option R) (k1 : Row → Int → Int → Int → ByteArray → Int → Int → ByteArray → Option R) (n : Nat) (x0 : Row) (x1 : Int) (x2 : Int) (x3 : Int) (x4 : ByteArray) (x5 : Int) (x6 : Int) (x7 : ByteArray) : Option.bind (l2 N k0 k1 n x0 x1 x2 x3 x4 x5 x6 x7) f = l2 N (fun y0 y1 y2 y3 y4 y5 y6 y7 => (Option.bind (k0 y0 y1 y2 y3 y4 y5 y6 y7) f)) (fun y0 y1 y2 y3 y4 y5 y6 y7 => (Option.bind (k1 y0 y1 y2 y3 y4 y5 y6 y7) f)) n x0 x1 x2 x3 x4 x5 x6 x7 := (q2_bind f N k0 k1 n) x0 x1 x2 x3 x4 x5 x6 x7
theorem b_bind {R : Type} (N : Nat) (kr : Int → Option R) (s0 : Row) (v1_0 : ByteArray) (v1_1 : Int) (v1_2 : Int) (v1_3 : ByteArray) : b N kr s0 v1_0 v1_1 v1_2 v1_3 = Option.bind (b N (fun r0 => some (r0)) s0 v1_0 v1_1 v1_2 v1_3) (fun p => kr p) := by
  unfold b; simp only [Lib.cond_bind, Lib.some_bind, Lib.none_bind, l2_bind]
def vo (s0 : Row) (v1_0 : ByteArray) (v1_1 : Int) (v1_2 : Int) (v1_3 : ByteArray) : Option (Int) := b Lib.big (fun r0 => some (r0)) s0 v1_0 v1_1 v1_2 v1_3
def c (s0 : Row) (v1_0 : ByteArray) (v1_1 : Int) (v1_2 : Int) (v1_3 : ByteArray) : Bool := Option.isSome (vo s0 v1_0 v1_1 v1_2 v1_3)
def v (s0 : Row) (v1_0 : ByteArray) (v1_1 : Int) (v1_2 : Int) (v1_3 : ByteArray) : Int := Option.getD (vo s0 v1_0 v1_1 v1_2 v1_3) (0)
theorem out (s0 : Row) (v1_0 : ByteArray) (v1_1 : Int) (v1_2 : Int) (v1_3 : ByteArray) {x : Int} (h : vo s0 v1_0 v1_1 v1_2 v1_3 = some x) : c s0 v1_0 v1_1 v1_2 v1_3 = true ∧ v s0 v1_0 v1_1 v1_2 v1_3 = x := by
  unfold c v; rw [h]; exact ⟨rfl, rfl⟩
theorem b_eq {R : Type} (kr : Int → Option R) (s0 : Row) (v1_0 : ByteArray) (v1_1 : Int) (v1_2 : Int) (v1_3 : ByteArray) (hc : c s0 v1_0 v1_1 v1_2 v1_3 = true) : ∃ N, b N kr s0 v1_0 v1_1 v1_2 v1_3 = kr (v s0 v1_0 v1_1 v1_2 v1_3) := by
  refine ⟨Lib.big, ?_⟩
  rw [b_bind]
  have e : vo s0 v1_0 v1_1 v1_2 v1_3 = some (v s0 v1_0 v1_1 v1_2 v1_3) := by
    unfold c at hc; unfold v
    cases h : vo s0 v1_0 v1_1 v1_2 v1_3 with
    | none => rw [h] at hc; cases hc
    | some x => rfl
  unfold vo at e
  rw [e]; rfl
end Go.FG.Pu.slices_Index_Entry

namespace Go.FG.Pu.slices_Contains_Entry
def b {R : Type} (kr : Bool → Option R) (s0 : Row) (v1_0 : ByteArray) (v1_1 : Int) (v1_2 : Int) (v1_3 : ByteArray) : Option R := bif (Pu.slices_Index_Entry.c s0 v1_0 v1_1 v1_2 v1_3) then (kr (decide (Pu.slices_Index_Entry.v s0 v1_0 v1_1 v1_2 v1_3 ≥ 0))) else (none)
theorem b_bind {R : Type} (kr : Bool → Option R) (s0 : Row) (v1_0 : ByteArray) (v1_1 : Int) (v1_2 : Int) (v1_3 : ByteArray) : b kr s0 v1_0 v1_1 v1_2 v1_3 = Option.bind (b (fun r0 => some (r0)) s0 v1_0 v1_1 v1_2 v1_3) (fun p => kr p) := by
  unfold b; simp only [Lib.cond_bind, Lib.some_bind, Lib.none_bind]
def vo (s0 : Row) (v1_0 : ByteArray) (v1_1 : Int) (v1_2 : Int) (v1_3 : ByteArray) : Option (Bool) := b (fun r0 => some (r0)) s0 v1_0 v1_1 v1_2 v1_3
def c (s0 : Row) (v1_0 : ByteArray) (v1_1 : Int) (v1_2 : Int) (v1_3 : ByteArray) : Bool := Option.isSome (vo s0 v1_0 v1_1 v1_2 v1_3)
def v (s0 : Row) (v1_0 : ByteArray) (v1_1 : Int) (v1_2 : Int) (v1_3 : ByteArray) : Bool := Option.getD (vo s0 v1_0 v1_1 v1_2 v1_3) (false)
theorem out (s0 : Row) (v1_0 : ByteArray) (v1_1 : Int) (v1_2 : Int) (v1_3 : ByteArray) {x : Bool} (h : vo s0 v1_0 v1_1 v1_2 v1_3 = some x) : c s0 v1_0 v1_1 v1_2 v1_3 = true ∧ v s0 v1_0 v1_1 v1_2 v1_3 = x := by
  unfold c v; rw [h]; exact ⟨rfl, rfl⟩
theorem b_eq {R : Type} (kr : Bool → Option R) (s0 : Row) (v1_0 : ByteArray) (v1_1 : Int) (v1_2 : Int) (v1_3 : ByteArray) (hc : c s0 v1_0 v1_1 v1_2 v1_3 = true) : b kr s0 v1_0 v1_1 v1_2 v1_3 = kr (v s0 v1_0 v1_1 v1_2 v1_3) := by
  rw [b_bind]
  have e : vo s0 v1_0 v1_1 v1_2 v1_3 = some (v s0 v1_0 v1_1 v1_2 v1_3) := by
    unfold c at hc; unfold v
    cases h : vo s0 v1_0 v1_1 v1_2 v1_3 with
    | none => rw [h] at hc; cases hc
    | some x => rfl
  unfold vo at e
  rw [e]; rfl
end Go.FG.Pu.slices_Contains_Entry

namespace Go.FG.Pu.impl_StoredRight
def r2 {R : Type} (N : Nat) (g : Bool → Row → Int → Int → Int → Row → Row → Row → Row → Int → Row → Row → Int → Row → Row → Row → Option R) (k0 : Bool → Row → Int → Int → Int → Row → Row → Row → Row → Int → Row → Row → Int → Row → Row → Row → Option R) (k1 : Bool → Row → Int → Int → Int → Row → Row → Row → Row → Int → Row → Row → Int → Row → Row → Row → Option R) (x0 : Bool) (x1 : Row) (x2 : Int) (x3 : Int) (x4 : Int) (x5 : Row) (x6 : Row) (x7 : Row) (x8 : Row) (x9 : Int) (x10 : Row) (x11 : Row) (x12 : Int) (x13 : Row) (x14 : Row) (x15 : Row) : Option R := bif (decide (x3 < x2)) then (bif (decide (0 ≤ x3) && decide (x3 < (↑(List.length x1) : Int))) then (bif (Pu.slices_Contains_Entry.c x15 (cvS (cellAt x1 (Int.toNat x3) 0)) (cvI (cellAt x1 (Int.toNat x3) 1)) (cvI (cellAt x1 (Int.toNat x3) (1 + 1))) (cvS (cellAt x1 (Int.toNat x3) (1 + 1 + 1)))) then (bif (!Pu.slices_Contains_Entry.v x15 (cvS (cellAt x1 (Int.toNat x3) 0)) (cvI (cellAt x1 (Int.toNat x3) 1)) (cvI (cellAt x1 (Int.toNat x3) (1 + 1))) (cvS (cellAt x1 (Int.toNat x3) (1 + 1 + 1)))) then (k0 false x1 x2 x3 x4 x5 x6 x7 x8 x9 x10 x11 x12 x13 x14 x15) else (g x0 x1 x2 (w64 (x3 + 1)) x4 x5 x6 x7 x8 x9 x10 x11 x12 x13 x14 x15)) else (none)) else (none)) else (k1 x0 x1 x2 x3 x4 x5 x6 x7 x8 x9 x10 x11 x12 x13 x14 x15)
def l2 {R : Type} (N : Nat) (k0 : Bool → Row → Int → Int → Int → Row → Row → Row → Row → Int → Row → Row → Int → Row → Row → Row → Option R) (k1 : Bool → Row → Int → Int → Int → Row → Row → Row → Row → Int → Row → Row → Int → Row → Row → Row → Option R) : Nat → Bool → Row → Int → Int → Int → Row → Row → Row → Row → Int → Row → Row → Int → Row → Row → Row → Option R
  | 0 => (fun _ _ _ _ _ _ _ _ _ _ _ _ _ _ _ _ => none)
  | n + 1 => (fun x0 x1 x2 x3 x4 x5 x6 x7 x8 x9 x10 x11 x12 x13 x14 x15 => r2 N (l2 N k0 k1 n) k0 k1 x0 x1 x2 x3 x4 x5 x6 x7 x8 x9 x10 x11 x12 x13 x14 x15)
def b {R : Type} (N : Nat) (kr : Bool → Option R) (w0_0 : Int) (w0_1 : Row) (w0_2 : Row) (w0_3 : Row) (w0_4 : Row) (w0_5 : Int) (w0_6 : Row) (w0_7 : Row) (w0_8 : Int) (w0_9 : Row) (w0_10 : Row) (w0_11 : Row) : Option R := l2 N (fun y16 y17 y18 y19 y20 y21 y22 y23 y24 y25 y26 y27 y28 y29 y30 y31 => kr y16) (fun y32 y33 y34 y35 y36 y37 y38 y39 y40 y41 y42 y43 y44 y45 y46 y47 => kr true) N false w0_1 (↑(List.length w0_1) : Int) 0 w0_0 w0_1 w0_2 w0_3 w0_4 w0_5 w0_6 w0_7 w0_8 w0_9 w0_10 w0_11
theorem q2_bind {R S : Type} (f : R → Option S) (N : Nat) (k0 : Bool → Row → Int → Int → Int → Row → Row → Row → Row → Int → Row → Row → Int → Row → Row → Row → Option R) (k1 : Bool → Row → Int → Int → Int → Row → Row → Row → Row → Int → Row → Row → Int → Row → Row → Row → Option R) : ∀ n : Nat, (∀ (x0 : Bool) (x1 : Row) (x2 : Int) (x3 : Int) (x4 : Int) (x5 : Row) (x6 : Row) (x7 : Row) (x8 : Row) (x9 : Int) (x10 : Row) (x11 : Row) (x12 : Int) (x13 : Row) (x14 : Row) (x15 : Row), Option.bind (l2 N k0 k1 n x0 x1 x2 x3 x4 x5 x6 x7 x8 x9 x10 x11 x12 x13 x14 x15) f = l2 N (fun y0 y1 y2 y3 y4 y5 y6 y7 y8 y9 y10 y11 y12 y13 y14 y15 => (Option.bind (k0 y0 y1 y2 y3 y4 y5 y6 y7 y8 y9 y10 y11 y12 y13 y14 y15) f)) (fun y0 y1 y2 y3 y4 y5 y6 y7 y8 y9 y10 y11 y12 y13 y14 y15 => (Option.bind (k1 y0 y1 y2 y3 y4 y5 y6 y7 y8 y9 y10 y11 y12 y13 y14 y15) f)) n x0 x1 x2 x3 x4 x5 x6 x7 x8 x9 x10 x11 x12 x13 x14 x15) := by
  intro n
  induction n with
  | zero => exact (fun _ _ _ _ _ _ _ _ _ _ _ _ _ _ _ _ => rfl)
  | succ n ih =>
    intro x0 x1 x2 x3 x4 x5 x6 x7 x8 x9 x10 x11 x12 x13 x14 x15
    simp only [l2, r2, Lib.cond_bind, Lib.some_bind, Lib.none_bind, ih]
theorem l2_bind {R S : Type} (f : R → Option S) (N : Nat) (k0 : Bool → Row → Int → Int → Int → Row → Row → Row → Row → Int → Row → Row → Int → Row → Row → Row → Option R) (k1 : Bool → Row → Int → Int → Int → Row → Row → Row → Row → Int → Row → Row → Int → Row → Row → Row → Option R) (n : Nat) (x0 : Bool) (x1 : Row) (x2 : Int) (x3 : Int) (x4 : Int) (x5 : Row) (x6 : Row) (x7 : Row) (x8 : Row) (x9 : Int) (x10 : Row) (x11 : Row) (x12 : Int) (x13 : Row) (x14 : Row) (x15 : Row) : Option.bind (l2 N k0 k1 n x0 x1 x2 x3 x4 x5 x6 x7 x8 x9 x10 x11 x12 x13 x14 x15) f = l2 N (fun y0 y1 y2 y3 y4 y5 y6 y7 y8 y9 y10 y11 y12 y13 y14 y15 => (Option.bind (k0 y0 y1 y2 y3 y4 y5 y6 y7 y8 y9 y10 y11 y12 y13 y14 y15) f)) (fun y0 y1 y2 y3 y4 y5 y6 y7 y8 y9 y10 y11 y12 y13 y14 y15 => (Option.bind (k1 y0 y1 y2 y3 y4 y5 y6 y7 y8 y9 y10 y11 y12 y13 y14 y15) f)) n x0 x1 x2 x3 x4 x5 x6 x7 x8 x9 x10 x11 x12 x13 x14 x15 := (q2_bind f N k0 k1 n) x0 x1 x2 x3 x4 x5 x6 x7 x8 x9 x10 x11 x12 x13 x14 x15
theorem b_bind {R : Type} (N : Nat) (kr : Bool → Option R) (w0_0 : Int) (w0_1 : Row) (w0_2 : Row) (w0_3 : Row) (w0_4 : Row) (w0_5 : Int) (w0_6 : Row) (w0_7 : Row) (w0_8 : Int) (w0_9 : Row) (w0_10 : Row) (w0_11 : Row) : b N kr w0_0 w0_1 w0_2 w0_3 w0_4 w0_5 w0_6 w0_7 w0_8 w0_9 w0_10 w0_11 = Option.bind (b N (fun r0 => some (r0)) w0_0 w0_1 w0_2 w0_3 w0_4 w0_5 w0_6 w0_7 w0_8 w0_9 w0_10 w0_11) (fun p => kr p) := by
  unfold b; simp only [Lib.cond_bind, Lib.some_bind, Lib.none_bind, l2_bind]
def vo (w0_0 : Int) (w0_1 : Row) (w0_2 : Row) (w0_3 : Row) (w0_4 : Row) (w0_5 : Int) (w0_6 : Row) (w0_7 : Row) (w0_8 : Int) (w0_9 : Row) (w0_10 : Row) (w0_11 : Row) : Option (Bool) := b Lib.big (fun r0 => some (r0)) w0_0 w0_1 w0_2 w0_3 w0_4 w0_5 w0_6 w0_7 w0_8 w0_9 w0_10 w0_11
def c (w0_0 : Int) (w0_1 : Row) (w0_2 : Row) (w0_3 : Row) (w0_4 : Row) (w0_5 : Int) (w0_6 : Row) (w0_7 : Row) (w0_8 : Int) (w0_9 : Row) (w0_10 : Row) (w0_11 : Row) : Bool := Option.isSome (vo w0_0 w0_1 w0_2 w0_3 w0_4 w0_5 w0_6 w0_7 w0_8 w0_9 w0_10 w0_11)
def v (w0_0 : Int) (w0_1 : Row) (w0_2 : Row) (w0_3 : Row) (w0_4 : Row) (w0_5 : Int) (w0_6 : Row) (w0_7 : Row) (w0_8 : Int) (w0_9 : Row) (w0_10 : Row) (w0_11 : Row) : Bool := Option.getD (vo w0_0 w0_1 w0_2 w0_3 w0_4 w0_5 w0_6 w0_7 w0_8 w0_9 w0_10 w0_11) (false)
theorem out (w0_0 : Int) (w0_1 : Row) (w0_2 : Row) (w0_3 : Row) (w0_4 : Row) (w0_5 : Int) (w0_6 : Row) (w0_7 : Row) (w0_8 : Int) (w0_9 : Row) (w0_10 : Row) (w0_11 : Row) {x : Bool} (h : vo w0_0 w0_1 w0_2 w0_3 w0_4 w0_5 w0_6 w0_7 w0_8 w0_9 w0_10 w0_11 = some x) : c w0_0 w0_1 w0_2 w0_3 w0_4 w0_5 w0_6 w0_7 w0_8 w0_9 w0_10 w0_11 = true ∧ v w0_0 w0_1 w0_2 w0_3 w0_4 w0_5 w0_6 w0_7 w0_8 w0_9 w0_10 w0_11 = x := by
  unfold c v; rw [h]; exact ⟨rfl, rfl⟩
theorem b_eq {R : Type} (kr : Bool → Option R) (w0_0 : Int) (w0_1 : Row) (w0_2 : Row) (w0_3 : Row) (w0_4 : Row) (w0_5 : Int) (w0_6 : Row) (w0_7 : Row) (w0_8 : Int) (w0_9 : Row) (w0_10 : Row) (w0_11 : Row) (hc : c w0_0 w0_1 w0_2 w0_3 w0_4 w0_5 w0_6 w0_7 w0_8 w0_9 w0_10 w0_11 = true) : ∃ N, b N kr w0_0 w0_1 w0_2 w0_3 w0_4 w0_5 w0_6 w0_7 w0_8 w0_9 w0_10 w0_11 = kr (v w0_0 w0_1 w0_2 w0_3 w0_4 w0_5 w0_6 w0_7 w0_8 w0_9 w0_10 w0_11) := by
  refine ⟨Lib.big, ?_⟩
  rw [b_bind]
  have e : vo w0_0 w0_1 w0_2 w0_3 w0_4 w0_5 w0_6 w0_7 w0_8 w0_9 w0_10 w0_11 = some (v w0_0 w0_1 w0_2 w0_3 w0_4 w0_5 w0_6 w0_7 w0_8 w0_9 w0_10 w0_11) := by
    unfold c at hc; unfold v
    cases h : vo w0_0 w0_1 w0_2 w0_3 w0_4 w0_5 w0_6 w0_7 w0_8 w0_9 w0_10 w0_11 with
    | none => rw [h] at hc; cases hc
    | some x => rfl
  unfold vo at e
  rw [e]; rfl
end Go.FG.Pu.impl_StoredRight

namespace Go.FG.Pu.laws_eqEntry
def b {R : Type} (kr : Bool → Option R) (a0_0 : ByteArray) (a0_1 : Int) (a0_2 : Int) (a0_3 : ByteArray) (b1_0 : ByteArray) (b1_1 : Int) (b1_2 : Int) (b1_3 : ByteArray) : Option R := bif (!List.beq (ByteArray.toList a0_0) (ByteArray.toList b1_0)) then (kr false) else (bif (a0_1 != b1_1) then (kr false) else (bif (a0_2 != b1_2) then (kr false) else (bif (!List.beq (ByteArray.toList a0_3) (ByteArray.toList b1_3)) then (kr false) else (kr true))))
def v (a0_0 : ByteArray) (a0_1 : Int) (a0_2 : Int) (a0_3 : ByteArray) (b1_0 : ByteArray) (b1_1 : Int) (b1_2 : Int) (b1_3 : ByteArray) : Bool := bif (!List.beq (ByteArray.toList a0_0) (ByteArray.toList b1_0)) then ((false)) else (bif (a0_1 != b1_1) then ((false)) else (bif (a0_2 != b1_2) then ((false)) else (bif (!List.beq (ByteArray.toList a0_3) (ByteArray.toList b1_3)) then ((false)) else ((true)))))
theorem b_eq {R : Type} (kr : Bool → Option R) (a0_0 : ByteArray) (a0_1 : Int) (a0_2 : Int) (a0_3 : ByteArray) (b1_0 : ByteArray) (b1_1 : Int) (b1_2 : Int) (b1_3 : ByteArray) : b kr a0_0 a0_1 a0_2 a0_3 b1_0 b1_1 b1_2 b1_3 = kr (v a0_0 a0_1 a0_2 a0_3 b1_0 b1_1 b1_2 b1_3) := by
  first | rfl | (unfold b v; simp only [Bool.cond_eq_ite]; (repeat' split) <;> rfl)
end Go.FG.Pu.laws_eqEntry

namespace Go.FG.Pu.laws_eqEntryS
def r4 {R : Type} (N : Nat) (g : Row → Row → Bool → Int → Option R) (k0 : Row → Row → Bool → Int → Option R) (k1 : Row → Row → Bool → Int → Option R) (x0 : Row) (x1 : Row) (x2 : Bool) (x3 : Int) : Option R := bif (decide (x3 < (↑(List.length x0) : Int))) then (bif (decide (0 ≤ x3) && decide (x3 < (↑(List.length x0) : Int))) then (bif (decide (0 ≤ x3) && decide (x3 < (↑(List.length x1) : Int))) then (bif (!Pu.laws_eqEntry.v (cvS (cellAt x0 (Int.toNat x3) 0)) (cvI (cellAt x0 (Int.toNat x3) 1)) (cvI (cellAt x0 (Int.toNat x3) (1 + 1))) (cvS (cellAt x0 (Int.toNat x3) (1 + 1 + 1))) (cvS (cellAt x1 (Int.toNat x3) 0)) (cvI (cellAt x1 (Int.toNat x3) 1)) (cvI (cellAt x1 (Int.toNat x3) (1 + 1))) (cvS (cellAt x1 (Int.toNat x3) (1 + 1 + 1)))) then (k0 x0 x1 false x3) else (g x0 x1 x2 (w64 (x3 + 1)))) else (none)) else (none)) else (k1 x0 x1 x2 x3)
def l4 {R : Type} (N : Nat) (k0 : Row → Row → Bool → Int → Option R) (k1 : Row → Row → Bool → Int → Option R) : Nat → Row → Row → Bool → Int → Option R
  | 0 => (fun _ _ _ _ => none)
  | n + 1 => (fun x0 x1 x2 x3 => r4 N (l4 N k0 k1 n) k0 k1 x0 x1 x2 x3)
def b {R : Type} (N : Nat) (kr : Bool → Option R) (a0 : Row) (b1 : Row) : Option R := bif ((↑(List.length a0) : Int) != (↑(List.length b1) : Int)) then (kr false) else (l4 N (fun y4 y5 y6 y7 => kr y6) (fun y8 y9 y10 y11 => kr true) N a0 b1 false 0)
theorem q4_bind {R S : Type} (f : R → Option S) (N : Nat) (k0 : Row → Row → Bool → Int → Option R) (k1 : Row → Row → Bool → Int → Option R) : ∀ n : Nat, (∀ (x0 : Row) (x1 : Row) (x2 : Bool) (x3 : Int), Option.bind (l4 N k0 k1 n x0 x1 x2 x3) f = l4 N (fun y0 y1 y2 y3 => (Option.bind (k0 y0 y1 y2 y3) f)) (fun y0 y1 y2 y3 => (Option.bind (k1 y0 y1 y2 y3) f)) n x0 x1 x2 x3) := by
  intro n
  induction n with
  | zero => exact (fun _ _ _ _ => rfl)
  | succ n ih =>
    intro x0 x1 x2 x3
    simp only [l4, r4, Lib.cond_bind, Lib.some_bind, Lib.none_bind, ih]
theorem l4_bind {R S : Type} (f : R → Option S) (N : Nat) (k0 : Row → Row → Bool → Int → Option R) (k1 : Row → Row → Bool → Int → Option R) (n : Nat) (x0 : Row) (x1 : Row) (x2 : Bool) (x3 : Int) : Option.bind (l4 N k0 k1 n x0 x1 x2 x3) f = l4 N (fun y0 y1 y2 y3 => (Option.bind (k0 y0 y1 y2 y3) f)) (fun y0 y1 y2 y3 => (Option.bind (k1 y0 y1 y2 y3) f)) n x0 x1 x2 x3 := (q4_bind f N k0 k1 n) x0 x1 x2 x3
theorem b_bind {R : Type} (N : Nat) (kr : Bool → Option R) (a0 : Row) (b1 : Row) : b N kr a0 b1 = Option.bind (b N (fun r0 => some (r0)) a0 b1) (fun p => kr p) := by
  unfold b; simp only [Lib.cond_bind, Lib.some_bind, Lib.none_bind, l4_bind]
def vo (a0 : Row) (b1 : Row) : Option (Bool) := b Lib.big (fun r0 => some (r0)) a0 b1
def c (a0 : Row) (b1 : Row) : Bool := Option.isSome (vo a0 b1)
def v (a0 : Row) (b1 : Row) : Bool := Option.getD (vo a0 b1) (false)
theorem out (a0 : Row) (b1 : Row) {x : Bool} (h : vo a0 b1 = some x) : c a0 b1 = true ∧ v a0 b1 = x := by
  unfold c v; rw [h]; exact ⟨rfl, rfl⟩
theorem b_eq {R : Type} (kr : Bool → Option R) (a0 : Row) (b1 : Row) (hc : c a0 b1 = true) : ∃ N, b N kr a0 b1 = kr (v a0 b1) := by
  refine ⟨Lib.big, ?_⟩
  rw [b_bind]
  have e : vo a0 b1 = some (v a0 b1) := by
    unfold c at hc; unfold v
    cases h : vo a0 b1 with
    | none => rw [h] at hc; cases hc
    | some x => rfl
  unfold vo at e
  rw [e]; rfl
end Go.FG.Pu.laws_eqEntryS

namespace Go.FG.Pu.laws_eqStringS
def r4 {R : Type} (N : Nat) (g : Row → Row → Bool → Int → Option R) (k0 : Row → Row → Bool → Int → Option R) (k1 : Row → Row → Bool → Int → Option R) (x0 : Row) (x1 : Row) (x2 : Bool) (x3 : Int) : Option R := bif (decide (x3 < (↑(List.length x0) : Int))) then (bif (decide (0 ≤ x3) && decide (x3 < (↑(List.length x0) : Int))) then (bif (decide (0 ≤ x3) && decide (x3 < (↑(List.length x1) : Int))) then (bif (!List.beq (ByteArray.toList (cvS (cellAt x0 (Int.toNat x3) 0))) (ByteArray.toList (cvS (cellAt x1 (Int.toNat x3) 0)))) then (k0 x0 x1 false x3) else (g x0 x1 x2 (w64 (x3 + 1)))) else (none)) else (none)) else (k1 x0 x1 x2 x3)
def l4 {R : Type} (N : Nat) (k0 : Row → Row → Bool → Int → Option R) (k1 : Row → Row → Bool → Int → Option R) : Nat → Row → Row → Bool → Int → Option R
  | 0 => (fun _ _ _ _ => none)
  | n + 1 => (fun x0 x1 x2 x3 => r4 N (l4 N k0 k1 n) k0 k1 x0 x1 x2 x3)
def b {R : Type} (N : Nat) (kr : Bool → Option R) (a0 : Row) (b1 : Row) : Option R := bif ((↑(List.length a0) : Int) != (↑(List.length b1) : Int)) then (kr false) else (l4 N (fun y4 y5 y6 y7 => kr y6) (fun y8 y9 y10 y11 => kr true) N a0 b1 false 0)
theorem q4_bind {R S : Type} (f : R → Option S) (N : Nat) (k0 : Row → Row → Bool → Int → Option R) (k1 : Row → Row → Bool → Int → Option R) : ∀ n : Nat, (∀ (x0 : Row) (x1 : Row) (x2 : Bool) (x3 : Int), Option.bind (l4 N k0 k1 n x0 x1 x2 x3) f = l4 N (fun y0 y1 y2 y3 => (Option.bind (k0 y0 y1 y2 y3) f)) (fun y0 y1 y2 y3 => (Option.bind (k1 y0 y1 y2 y3) f)) n x0 x1 x2 x3) := by
  intro n
  induction n with
  | zero => exact (fun _ _ _ _ => rfl)
  | succ n ih =>
    intro x0 x1 x2 x3
    simp only [l4, r4, Lib.cond_bind, Lib.some_bind, Lib.none_bind, ih]
theorem l4_bind {R S : Type} (f : R → Option S) (N : Nat) (k0 : Row → Row → Bool → Int → Option R) (k1 : Row → Row → Bool → Int → Option R) (n : Nat) (x0 : Row) (x1 : Row) (x2 : Bool) (x3 : Int) : Option.bind (l4 N k0 k1 n x0 x1 x2 x3) f = l4 N (fun y0 y1 y2 y3 => (Option.bind (k0 y0 y1 y2 y3) f)) (fun y0 y1 y2 y3 => (Option.bind (k1 y0 y1 y2 y3) f)) n x0 x1 x2 x3 := (q4_bind f N k0 k1 n) x0 x1 x2 x3
theorem b_bind {R : Type} (N : Nat) (kr : Bool → Option R) (a0 : Row) (b1 : Row) : b N kr a0 b1 = Option.bind (b N (fun r0 => some (r0)) a0 b1) (fun p => kr p) := by
  unfold b; simp only [Lib.cond_bind, Lib.some_bind, Lib.none_bind, l4_bind]
def vo (a0 : Row) (b1 : Row) : Option (Bool) := b Lib.big (fun r0 => some (r0)) a0 b1
def c (a0 : Row) (b1 : Row) : Bool := Option.isSome (vo a0 b1)
def v (a0 : Row) (b1 : Row) : Bool := Option.getD (vo a0 b1) (false)
theorem out (a0 : Row) (b1 : Row) {x : Bool} (h : vo a0 b1 = some x) : c a0 b1 = true ∧ v a0 b1 = x := by
  unfold c v; rw [h]; exact ⟨rfl, rfl⟩
theorem b_eq {R : Type} (kr : Bool → Option R) (a0 : Row) (b1 : Row) (hc : c a0 b1 = true) : ∃ N, b N kr a0 b1 = kr (v a0 b1) := by
  refine ⟨Lib.big, ?_⟩
  rw [b_bind]
  have e : vo a0 b1 = some (v a0 b1) := by
    unfold c at hc; unfold v
    cases h : vo a0 b1 with
    | none => rw [h] at hc; cases hc
    | some x => rfl
  unfold vo at e
  rw [e]; rfl
end Go.FG.Pu.laws_eqStringS

namespace Go.FG.Pu.laws_eqIntS
def r4 {R : Type} (N : Nat) (g : Row → Row → Bool → Int → Option R) (k0 : Row → Row → Bool → Int → Option R) (k1 : Row → Row → Bool → Int → Option R) (x0 : Row) (x1 : Row) (x2 : Bool) (x3 : Int) : Option R := bif (decide (x3 < (↑(List.length x0) : Int))) then (bif (decide (0 ≤ x3) && decide (x3 < (↑(List.length x0) : Int))) then (bif (decide (0 ≤ x3) && decide (x3 < (↑(List.length x1) : Int))) then (bif (cvI (cellAt x0 (Int.toNat x3) 0) != cvI (cellAt x1 (Int.toNat x3) 0)) then (k0 x0 x1 false x3) else (g x0 x1 x2 (w64 (x3 + 1)))) else (none)) else (none)) else (k1 x0 x1 x2 x3)
def l4 {R : Type} (N : Nat) (k0 : Row → Row → Bool → Int → Option R) (k1 : Row → Row → Bool → Int → Option R) : Nat → Row → Row → Bool → Int → Option R
  | 0 => (fun _ _ _ _ => none)
  | n + 1 => (fun x0 x1 x2 x3 => r4 N (l4 N k0 k1 n) k0 k1 x0 x1 x2 x3)
def b {R : Type} (N : Nat) (kr : Bool → Option R) (a0 : Row) (b1 : Row) : Option R := bif ((↑(List.length a0) : Int) != (↑(List.length b1) : Int)) then (kr false) else (l4 N (fun y4 y5 y6 y7 => kr y6) (fun y8 y9 y10 y11 => kr true) N a0 b1 false 0)
def v (a0 : Row) (b1 : Row) : Bool := (a0.length == b1.length) && (List.range a0.length).all fun i => !(cvI (cellAt a0 i 0) != cvI (cellAt b1 i 0))
def fr (a b : Row) (i : Nat) : Bool := (List.range' i (a.length - i)).all fun i => !(cvI (cellAt a i 0) != cvI (cellAt b i 0))
theorem run {R : Type} (N : Nat) (kr : Bool → Option R) (a b : Row) (hl : a.length = b.length) (ha : FitR a) : ∀ n (i : Nat), i ≤ a.length → a.length - i < n → l4 N (fun _ _ y _ => kr y) (fun _ _ _ _ => kr true) n a b false i = kr (fr a b i) := by
  refine Lib.loop_gen (fun n (i : Nat) => l4 N (fun _ _ y _ => kr y) (fun _ _ _ _ => kr true) n a b false i) (fun i => a.length - i) (fun i => i ≤ a.length) (fun i => kr (fr a b i)) (fun n i hi => ?_)
  simp only [l4, r4, Lib.dlt, Lib.dle0, Lib.toN, Bool.true_and]
  by_cases h : i < a.length
  · have e : a.length - i = (a.length - (i + 1)) + 1 := by omega
    have hf : fr a b i = (!(cvI (cellAt a i 0) != cvI (cellAt b i 0)) && fr a b (i + 1)) := by
      unfold fr; rw [e, List.range'_succ, List.all_cons]
    have hb : i < b.length := by omega
    simp only [h, hb, decide_true, cond_true, Lib.w64_s h ha.1]
    cases hv : (cvI (cellAt a i 0) != cvI (cellAt b i 0)) with
    | false => exact .inr ⟨i + 1, h, by omega, by rw [hf, hv]; rfl, rfl⟩
    | true => left; rw [hf, hv]; rfl
  · left
    have : a.length - i = 0 := by omega
    simp only [h, decide_false, cond_false]
    unfold fr; rw [this]; rfl
theorem b_eq {R : Type} (kr : Bool → Option R) (a0 : Row) (b1 : Row) (f0 : FitR a0) (f1 : FitR b1) : ∃ N, b N kr a0 b1 = kr (v a0 b1) := by
  refine ⟨a0.length + 1, ?_⟩
  unfold b v
  by_cases hl : a0.length = b1.length
  · have e : ((a0.length : Int) != (b1.length : Int)) = false := by simp [hl]
    rw [e, cond_false]
    refine (run _ kr a0 b1 hl f0 (a0.length + 1) 0 (by omega) (by omega)).trans ?_
    unfold fr; rw [show (a0.length == b1.length) = true by simp [hl], Nat.sub_zero, ← List.range_eq_range']; rfl
  · have e : ((a0.length : Int) != (b1.length : Int)) = true := by simp; omega
    have e2 : (a0.length == b1.length) = false := by simp; omega
    rw [e, cond_true, e2]; rfl
theorem refl (a : Row) : v a a = true := by unfold v; simp
end Go.FG.Pu.laws_eqIntS

namespace Go.FG.Pu.laws_eqIntSS
def r4 {R : Type} (N : Nat) (g : Row → Row → Bool → Int → Option R) (k0 : Row → Row → Bool → Int → Option R) (k1 : Row → Row → Bool → Int → Option R) (x0 : Row) (x1 : Row) (x2 : Bool) (x3 : Int) : Option R := bif (decide (x3 < (↑(List.length x0) : Int))) then (bif (decide (0 ≤ x3) && decide (x3 < (↑(List.length x0) : Int))) then (bif (decide (0 ≤ x3) && decide (x3 < (↑(List.length x1) : Int))) then (bif (!Pu.laws_eqIntS.v (cvL (cellAt x0 (Int.toNat x3) 0)) (cvL (cellAt x1 (Int.toNat x3) 0))) then (k0 x0 x1 false x3) else (g x0 x1 x2 (w64 (x3 + 1)))) else (none)) else (none)) else (k1 x0 x1 x2 x3)
def l4 {R : Type} (N : Nat) (k0 : Row → Row → Bool → Int → Option R) (k1 : Row → Row → Bool → Int → Option R) : Nat → Row → Row → Bool → Int → Option R
  | 0 => (fun _ _ _ _ => none)
  | n + 1 => (fun x0 x1 x2 x3 => r4 N (l4 N k0 k1 n) k0 k1 x0 x1 x2 x3)
def b {R : Type} (N : Nat) (kr : Bool → Option R) (a0 : Row) (b1 : Row) : Option R := bif ((↑(List.length a0) : Int) != (↑(List.length b1) : Int)) then (kr false) else (l4 N (fun y4 y5 y6 y7 => kr y6) (fun y8 y9 y10 y11 => kr true) N a0 b1 false 0)
theorem q4_bind {R S : Type} (f : R → Option S) (N : Nat) (k0 : Row → Row → Bool → Int → Option R) (k1 : Row → Row → Bool → Int → Option R) : ∀ n : Nat, (∀ (x0 : Row) (x1 : Row) (x2 : Bool) (x3 : Int), Option.bind (l4 N k0 k1 n x0 x1 x2 x3) f = l4 N (fun y0 y1 y2 y3 => (Option.bind (k0 y0 y1 y2 y3) f)) (fun y0 y1 y2 y3 => (Option.bind (k1 y0 y1 y2 y3) f)) n x0 x1 x2 x3) := by
  intro n
  induction n with
  | zero => exact (fun _ _ _ _ => rfl)
  | succ n ih =>
    intro x0 x1 x2 x3
    simp only [l4, r4, Lib.cond_bind, Lib.some_bind, Lib.none_bind, ih]
theorem l4_bind {R S : Type} (f : R → Option S) (N : Nat) (k0 : Row → Row → Bool → Int → Option R) (k1 : Row → Row → Bool → Int → Option R) (n : Nat) (x0 : Row) (x1 : Row) (x2 : Bool) (x3 : Int) : Option.bind (l4 N k0 k1 n x0 x1 x2 x3) f = l4 N (fun y0 y1 y2 y3 => (Option.bind (k0 y0 y1 y2 y3) f)) (fun y0 y1 y2 y3 => (Option.bind (k1 y0 y1 y2 y3) f)) n x0 x1 x2 x3 := (q4_bind f N k0 k1 n) x0 x1 x2 x3
theorem b_bind {R : Type} (N : Nat) (kr : Bool → Option R) (a0 : Row) (b1 : Row) : b N kr a0 b1 = Option.bind (b N (fun r0 => some (r0)) a0 b1) (fun p => kr p) := by
  unfold b; simp only [Lib.cond_bind, Lib.some_bind, Lib.none_bind, l4_bind]
def vo (a0 : Row) (b1 : Row) : Option (Bool) := b Lib.big (fun r0 => some (r0)) a0 b1
def c (a0 : Row) (b1 : Row) : Bool := Option.isSome (vo a0 b1)
def v (a0 : Row) (b1 : Row) : Bool := Option.getD (vo a0 b1) (false)
theorem out (a0 : Row) (b1 : Row) {x : Bool} (h : vo a0 b1 = some x) : c a0 b1 = true ∧ v a0 b1 = x := by
  unfold c v; rw [h]; exact ⟨rfl, rfl⟩
theorem b_eq {R : Type} (kr : Bool → Option R) (a0 : Row) (b1 : Row) (hc : c a0 b1 = true) : ∃ N, b N kr a0 b1 = kr (v a0 b1) := by
  refine ⟨Lib.big, ?_⟩
  rw [b_bind]
  have e : vo a0 b1 = some (v a0 b1) := by
    unfold c at hc; unfold v
    cases h : vo a0 b1 with
    | none => rw [h] at hc; cases hc
    | some x => rfl
  unfold vo at e
  rw [e]; rfl
end Go.FG.Pu.laws_eqIntSS

namespace Go.FG.Pu.laws_eqSketch
def b {R : Type} (kr : Bool → Option R) (a0_0 : Row) (a0_1 : Int) (b1_0 : Row) (b1_1 : Int) : Option R := bif (Pu.laws_eqIntSS.c a0_0 b1_0) then (bif (!Pu.laws_eqIntSS.v a0_0 b1_0) then (kr false) else (bif (a0_1 != b1_1) then (kr false) else (kr true))) else (none)
theorem b_bind {R : Type} (kr : Bool → Option R) (a0_0 : Row) (a0_1 : Int) (b1_0 : Row) (b1_1 : Int) : b kr a0_0 a0_1 b1_0 b1_1 = Option.bind (b (fun r0 => some (r0)) a0_0 a0_1 b1_0 b1_1) (fun p => kr p) := by
  unfold b; simp only [Lib.cond_bind, Lib.some_bind, Lib.none_bind]
def vo (a0_0 : Row) (a0_1 : Int) (b1_0 : Row) (b1_1 : Int) : Option (Bool) := b (fun r0 => some (r0)) a0_0 a0_1 b1_0 b1_1
def c (a0_0 : Row) (a0_1 : Int) (b1_0 : Row) (b1_1 : Int) : Bool := Option.isSome (vo a0_0 a0_1 b1_0 b1_1)
def v (a0_0 : Row) (a0_1 : Int) (b1_0 : Row) (b1_1 : Int) : Bool := Option.getD (vo a0_0 a0_1 b1_0 b1_1) (false)
theorem out (a0_0 : Row) (a0_1 : Int) (b1_0 : Row) (b1_1 : Int) {x : Bool} (h : vo a0_0 a0_1 b1_0 b1_1 = some x) : c a0_0 a0_1 b1_0 b1_1 = true ∧ v a0_0 a0_1 b1_0 b1_1 = x := by
  unfold c v; rw [h]; exact ⟨rfl, rfl⟩
theorem b_eq {R : Type} (kr : Bool → Option R) (a0_0 : Row) (a0_1 : Int) (b1_0 : Row) (b1_1 : Int) (hc : c a0_0 a0_1 b1_0 b1_1 = true) : b kr a0_0 a0_1 b1_0 b1_1 = kr (v a0_0 a0_1 b1_0 b1_1) := by
  rw [b_bind]
  have e : vo a0_0 a0_1 b1_0 b1_1 = some (v a0_0 a0_1 b1_0 b1_1) := by
    unfold c at hc; unfold v
    cases h : vo a0_0 a0_1 b1_0 b1_1 with
    | none => rw [h] at hc; cases hc
    | some x => rfl
  unfold vo at e
  rw [e]; rfl
end Go.FG.Pu.laws_eqSketch

namespace Go.FG.Pu.laws_eqPolicy
def b {R : Type} (kr : Bool → Option R) (a0_0 : Row) (a0_1 : Row) (a0_2 : Row) (a0_3 : Int) (b1_0 : Row) (b1_1 : Row) (b1_2 : Row) (b1_3 : Int) : Option R := bif (Pu.laws_eqStringS.c a0_0 b1_0) then (bif (!Pu.laws_eqStringS.v a0_0 b1_0) then (kr false) else (bif (Pu.laws_eqStringS.c a0_1 b1_1) then (bif (!Pu.laws_eqStringS.v a0_1 b1_1) then (kr false) else (bif (Pu.laws_eqSketch.c a0_2 a0_3 b1_2 b1_3) then (bif (!Pu.laws_eqSketch.v a0_2 a0_3 b1_2 b1_3) then (kr false) else (kr true)) else (none))) else (none))) else (none)
theorem b_bind {R : Type} (kr : Bool → Option R) (a0_0 : Row) (a0_1 : Row) (a0_2 : Row) (a0_3 : Int) (b1_0 : Row) (b1_1 : Row) (b1_2 : Row) (b1_3 : Int) : b kr a0_0 a0_1 a0_2 a0_3 b1_0 b1_1 b1_2 b1_3 = Option.bind (b (fun r0 => some (r0)) a0_0 a0_1 a0_2 a0_3 b1_0 b1_1 b1_2 b1_3) (fun p => kr p) := by
  unfold b; simp only [Lib.cond_bind, Lib.some_bind, Lib.none_bind]
def vo (a0_0 : Row) (a0_1 : Row) (a0_2 : Row) (a0_3 : Int) (b1_0 : Row) (b1_1 : Row) (b1_2 : Row) (b1_3 : Int) : Option (Bool) := b (fun r0 => some (r0)) a0_0 a0_1 a0_2 a0_3 b1_0 b1_1 b1_2 b1_3
def c (a0_0 : Row) (a0_1 : Row) (a0_2 : Row) (a0_3 : Int) (b1_0 : Row) (b1_1 : Row) (b1_2 : Row) (b1_3 : Int) : Bool := Option.isSome (vo a0_0 a0_1 a0_2 a0_3 b1_0 b1_1 b1_2 b1_3)
def v (a0_0 : Row) (a0_1 : Row) (a0_2 : Row) (a0_3 : Int) (b1_0 : Row) (b1_1 : Row) (b1_2 : Row) (b1_3 : Int) : Bool := Option.getD (vo a0_0 a0_1 a0_2 a0_3 b1_0 b1_1 b1_2 b1_3) (false)
theorem out (a0_0 : Row) (a0_1 : Row) (a0_2 : Row) (a0_3 : Int) (b1_0 : Row) (b1_1 : Row) (b1_2 : Row) (b1_3 : Int) {x : Bool} (h : vo a0_0 a0_1 a0_2 a0_3 b1_0 b1_1 b1_2 b1_3 = some x) : c a0_0 a0_1 a0_2 a0_3 b1_0 b1_1 b1_2 b1_3 = true ∧ v a0_0 a0_1 a0_2 a0_3 b1_0 b1_1 b1_2 b1_3 = x := by
  unfold c v; rw [h]; exact ⟨rfl, rfl⟩
theorem b_eq {R : Type} (kr : Bool → Option R) (a0_0 : Row) (a0_1 : Row) (a0_2 : Row) (a0_3 : Int) (b1_0 : Row) (b1_1 : Row) (b1_2 : Row) (b1_3 : Int) (hc : c a0_0 a0_1 a0_2 a0_3 b1_0 b1_1 b1_2 b1_3 = true) : b kr a0_0 a0_1 a0_2 a0_3 b1_0 b1_1 b1_2 b1_3 = kr (v a0_0 a0_1 a0_2 a0_3 b1_0 b1_1 b1_2 b1_3) := by
  rw [b_bind]
  have e : vo a0_0 a0_1 a0_2 a0_3 b1_0 b1_1 b1_2 b1_3 = some (v a0_0 a0_1 a0_2 a0_3 b1_0 b1_1 b1_2 b1_3) := by
    unfold c at hc; unfold v
    cases h : vo a0_0 a0_1 a0_2 a0_3 b1_0 b1_1 b1_2 b1_3 with
    | none => rw [h] at hc; cases hc
    | some x => rfl
  unfold vo at e
  rw [e]; rfl
end Go.FG.Pu.laws_eqPolicy

namespace Go.FG.Pu.laws_eqFetch
def b {R : Type} (kr : Bool → Option R) (a0_0 : ByteArray) (a0_1 : ByteArray) (a0_2 : Int) (a0_3 : Int) (a0_4 : Int) (b1_0 : ByteArray) (b1_1 : ByteArray) (b1_2 : Int) (b1_3 : Int) (b1_4 : Int) : Option R := bif (!List.beq (ByteArray.toList a0_0) (ByteArray.toList b1_0)) then (kr false) else (bif (!List.beq (ByteArray.toList a0_1) (ByteArray.toList b1_1)) then (kr false) else (bif (a0_2 != b1_2) then (kr false) else (bif (a0_3 != b1_3) then (kr false) else (bif (a0_4 != b1_4) then (kr false) else (kr true)))))
def v (a0_0 : ByteArray) (a0_1 : ByteArray) (a0_2 : Int) (a0_3 : Int) (a0_4 : Int) (b1_0 : ByteArray) (b1_1 : ByteArray) (b1_2 : Int) (b1_3 : Int) (b1_4 : Int) : Bool := bif (!List.beq (ByteArray.toList a0_0) (ByteArray.toList b1_0)) then ((false)) else (bif (!List.beq (ByteArray.toList a0_1) (ByteArray.toList b1_1)) then ((false)) else (bif (a0_2 != b1_2) then ((false)) else (bif (a0_3 != b1_3) then ((false)) else (bif (a0_4 != b1_4) then ((false)) else ((true))))))
theorem b_eq {R : Type} (kr : Bool → Option R) (a0_0 : ByteArray) (a0_1 : ByteArray) (a0_2 : Int) (a0_3 : Int) (a0_4 : Int) (b1_0 : ByteArray) (b1_1 : ByteArray) (b1_2 : Int) (b1_3 : Int) (b1_4 : Int) : b kr a0_0 a0_1 a0_2 a0_3 a0_4 b1_0 b1_1 b1_2 b1_3 b1_4 = kr (v a0_0 a0_1 a0_2 a0_3 a0_4 b1_0 b1_1 b1_2 b1_3 b1_4) := by
  first | rfl | (unfold b v; simp only [Bool.cond_eq_ite]; (repeat' split) <;> rfl)
end Go.FG.Pu.laws_eqFetch

namespace Go.FG.Pu.laws_eqFetchS
def r4 {R : Type} (N : Nat) (g : Row → Row → Bool → Int → Option R) (k0 : Row → Row → Bool → Int → Option R) (k1 : Row → Row → Bool → Int → Option R) (x0 : Row) (x1 : Row) (x2 : Bool) (x3 : Int) : Option R := bif (decide (x3 < (↑(List.length x0) : Int))) then (bif (decide (0 ≤ x3) && decide (x3 < (↑(List.length x0) : Int))) then (bif (decide (0 ≤ x3) && decide (x3 < (↑(List.length x1) : Int))) then (bif (!Pu.laws_eqFetch.v (cvS (cellAt x0 (Int.toNat x3) 0)) (cvS (cellAt x0 (Int.toNat x3) 1)) (cvI (cellAt x0 (Int.toNat x3) (1 + 1))) (cvI (cellAt x0 (Int.toNat x3) (1 + 1 + 1))) (cvI (cellAt x0 (Int.toNat x3) (1 + 1 + 1 + 1))) (cvS (cellAt x1 (Int.toNat x3) 0)) (cvS (cellAt x1 (Int.toNat x3) 1)) (cvI (cellAt x1 (Int.toNat x3) (1 + 1))) (cvI (cellAt x1 (Int.toNat x3) (1 + 1 + 1))) (cvI (cellAt x1 (Int.toNat x3) (1 + 1 + 1 + 1)))) then (k0 x0 x1 false x3) else (g x0 x1 x2 (w64 (x3 + 1)))) else (none)) else (none)) else (k1 x0 x1 x2 x3)
def l4 {R : Type} (N : Nat) (k0 : Row → Row → Bool → Int → Option R) (k1 : Row → Row → Bool → Int → Option R) : Nat → Row → Row → Bool → Int → Option R
  | 0 => (fun _ _ _ _ => none)
  | n + 1 => (fun x0 x1 x2 x3 => r4 N (l4 N k0 k1 n) k0 k1 x0 x1 x2 x3)
def b {R : Type} (N : Nat) (kr : Bool → Option R) (a0 : Row) (b1 : Row) : Option R := bif ((↑(List.length a0) : Int) != (↑(List.length b1) : Int)) then (kr false) else (l4 N (fun y4 y5 y6 y7 => kr y6) (fun y8 y9 y10 y11 => kr true) N a0 b1 false 0)
theorem q4_bind {R S : Type} (f : R → Option S) (N : Nat) (k0 : Row → Row → Bool → Int → Option R) (k1 : Row → Row → Bool → Int → Option R) : ∀ n : Nat, (∀ (x0 : Row) (x1 : Row) (x2 : Bool) (x3 : Int), Option.bind (l4 N k0 k1 n x0 x1 x2 x3) f = l4 N (fun y0 y1 y2 y3 => (Option.bind (k0 y0 y1 y2 y3) f)) (fun y0 y1 y2 y3 => (Option.bind (k1 y0 y1 y2 y3) f)) n x0 x1 x2 x3) := by
  intro n
  induction n with
  | zero => exact (fun _ _ _ _ => rfl)
  | succ n ih =>
    intro x0 x1 x2 x3
    simp only [l4, r4, Lib.cond_bind, Lib.some_bind, Lib.none_bind, ih]
theorem l4_bind {R S : Type} (f : R → Option S) (N : Nat) (k0 : Row → Row → Bool → Int → Option R) (k1 : Row → Row → Bool → Int → Option R) (n : Nat) (x0 : Row) (x1 : Row) (x2 : Bool) (x3 : Int) : Option.bind (l4 N k0 k1 n x0 x1 x2 x3) f = l4 N (fun y0 y1 y2 y3 => (Option.bind (k0 y0 y1 y2 y3) f)) (fun y0 y1 y2 y3 => (Option.bind (k1 y0 y1 y2 y3) f)) n x0 x1 x2 x3 := (q4_bind f N k0 k1 n) x0 x1 x2 x3
theorem b_bind {R : Type} (N : Nat) (kr : Bool → Option R) (a0 : Row) (b1 : Row) : b N kr a0 b1 = Option.bind (b N (fun r0 => some (r0)) a0 b1) (fun p => kr p) := by
  unfold b; simp only [Lib.cond_bind, Lib.some_bind, Lib.none_bind, l4_bind]
def vo (a0 : Row) (b1 : Row) : Option (Bool) := b Lib.big (fun r0 => some (r0)) a0 b1
def c (a0 : Row) (b1 : Row) : Bool := Option.isSome (vo a0 b1)
def v (a0 : Row) (b1 : Row) : Bool := Option.getD (vo a0 b1) (false)
theorem out (a0 : Row) (b1 : Row) {x : Bool} (h : vo a0 b1 = some x) : c a0 b1 = true ∧ v a0 b1 = x := by
  unfold c v; rw [h]; exact ⟨rfl, rfl⟩
theorem b_eq {R : Type} (kr : Bool → Option R) (a0 : Row) (b1 : Row) (hc : c a0 b1 = true) : ∃ N, b N kr a0 b1 = kr (v a0 b1) := by
  refine ⟨Lib.big, ?_⟩
  rw [b_bind]
  have e : vo a0 b1 = some (v a0 b1) := by
    unfold c at hc; unfold v
    cases h : vo a0 b1 with
    | none => rw [h] at hc; cases hc
    | some x => rfl
  unfold vo at e
  rw [e]; rfl
end Go.FG.Pu.laws_eqFetchS

namespace Go.FG.Pu.laws_eqClient
def b {R : Type} (kr : Bool → Option R) (a0_0 : Int) (a0_1 : ByteArray) (a0_2 : Int) (a0_3 : Int) (a0_4 : Int) (a0_5 : ByteArray) (a0_6 : Int) (b1_0 : Int) (b1_1 : ByteArray) (b1_2 : Int) (b1_3 : Int) (b1_4 : Int) (b1_5 : ByteArray) (b1_6 : Int) : Option R := bif (a0_0 != b1_0) then (kr false) else (bif (!List.beq (ByteArray.toList a0_1) (ByteArray.toList b1_1)) then (kr false) else (bif (a0_2 != b1_2) then (kr false) else (bif (a0_3 != b1_3) then (kr false) else (bif (a0_4 != b1_4) then (kr false) else (bif (!List.beq (ByteArray.toList a0_5) (ByteArray.toList b1_5)) then (kr false) else (bif (a0_6 != b1_6) then (kr false) else (kr true)))))))
def v (a0_0 : Int) (a0_1 : ByteArray) (a0_2 : Int) (a0_3 : Int) (a0_4 : Int) (a0_5 : ByteArray) (a0_6 : Int) (b1_0 : Int) (b1_1 : ByteArray) (b1_2 : Int) (b1_3 : Int) (b1_4 : Int) (b1_5 : ByteArray) (b1_6 : Int) : Bool := bif (a0_0 != b1_0) then ((false)) else (bif (!List.beq (ByteArray.toList a0_1) (ByteArray.toList b1_1)) then ((false)) else (bif (a0_2 != b1_2) then ((false)) else (bif (a0_3 != b1_3) then ((false)) else (bif (a0_4 != b1_4) then ((false)) else (bif (!List.beq (ByteArray.toList a0_5) (ByteArray.toList b1_5)) then ((false)) else (bif (a0_6 != b1_6) then ((false)) else ((true))))))))
theorem b_eq {R : Type} (kr : Bool → Option R) (a0_0 : Int) (a0_1 : ByteArray) (a0_2 : Int) (a0_3 : Int) (a0_4 : Int) (a0_5 : ByteArray) (a0_6 : Int) (b1_0 : Int) (b1_1 : ByteArray) (b1_2 : Int) (b1_3 : Int) (b1_4 : Int) (b1_5 : ByteArray) (b1_6 : Int) : b kr a0_0 a0_1 a0_2 a0_3 a0_4 a0_5 a0_6 b1_0 b1_1 b1_2 b1_3 b1_4 b1_5 b1_6 = kr (v a0_0 a0_1 a0_2 a0_3 a0_4 a0_5 a0_6 b1_0 b1_1 b1_2 b1_3 b1_4 b1_5 b1_6) := by
  first | rfl | (unfold b v; simp only [Bool.cond_eq_ite]; (repeat' split) <;> rfl)
end Go.FG.Pu.laws_eqClient

namespace Go.FG.Pu.laws_eqClientS
def r4 {R : Type} (N : Nat) (g : Row → Row → Bool → Int → Option R) (k0 : Row → Row → Bool → Int → Option R) (k1 : Row → Row → Bool → Int → Option R) (x0 : Row) (x1 : Row) (x2 : Bool) (x3 : Int) : Option R := bif (decide (x3 < (↑(List.length x0) : Int))) then (bif (decide (0 ≤ x3) && decide (x3 < (↑(List.length x0) : Int))) then (bif (decide (0 ≤ x3) && decide (x3 < (↑(List.length x1) : Int))) then (bif (!Pu.laws_eqClient.v (cvI (cellAt x0 (Int.toNat x3) 0)) (cvS (cellAt x0 (Int.toNat x3) 1)) (cvI (cellAt x0 (Int.toNat x3) (1 + 1))) (cvI (cellAt x0 (Int.toNat x3) (1 + 1 + 1))) (cvI (cellAt x0 (Int.toNat x3) (1 + 1 + 1 + 1))) (cvS (cellAt x0 (Int.toNat x3) (1 + 1 + 1 + 1 + 1))) (cvI (cellAt x0 (Int.toNat x3) (1 + 1 + 1 + 1 + 1 + 1))) (cvI (cellAt x1 (Int.toNat x3) 0)) (cvS (cellAt x1 (Int.toNat x3) 1)) (cvI (cellAt x1 (Int.toNat x3) (1 + 1))) (cvI (cellAt x1 (Int.toNat x3) (1 + 1 + 1))) (cvI (cellAt x1 (Int.toNat x3) (1 + 1 + 1 + 1))) (cvS (cellAt x1 (Int.toNat x3) (1 + 1 + 1 + 1 + 1))) (cvI (cellAt x1 (Int.toNat x3) (1 + 1 + 1 + 1 + 1 + 1)))) then (k0 x0 x1 false x3) else (g x0 x1 x2 (w64 (x3 + 1)))) else (none)) else (none)) else (k1 x0 x1 x2 x3)
def l4 {R : Type} (N : Nat) (k0 : Row → Row → Bool → Int → Option R) (k1 : Row → Row → Bool → Int → Option R) : Nat → Row → Row → Bool → Int → Option R
  | 0 => (fun _ _ _ _ => none)
  | n + 1 => (fun x0 x1 x2 x3 => r4 N (l4 N k0 k1 n) k0 k1 x0 x1 x2 x3)
def b {R : Type} (N : Nat) (kr : Bool → Option R) (a0 : Row) (b1 : Row) : Option R := bif ((↑(List.length a0) : Int) != (↑(List.length b1) : Int)) then (kr false) else (l4 N (fun y4 y5 y6 y7 => kr y6) (fun y8 y9 y10 y11 => kr true) N a0 b1 false 0)
theorem q4_bind {R S : Type} (f : R → Option S) (N : Nat) (k0 : Row → Row → Bool → Int → Option R) (k1 : Row → Row → Bool → Int → Option R) : ∀ n : Nat, (∀ (x0 : Row) (x1 : Row) (x2 : Bool) (x3 : Int), Option.bind (l4 N k0 k1 n x0 x1 x2 x3) f = l4 N (fun y0 y1 y2 y3 => (Option.bind (k0 y0 y1 y2 y3) f)) (fun y0 y1 y2 y3 => (Option.bind (k1 y0 y1 y2 y3) f)) n x0 x1 x2 x3) := by
  intro n
  induction n with
  | zero => exact (fun _ _ _ _ => rfl)
  | succ n ih =>
    intro x0 x1 x2 x3
    simp only [l4, r4, Lib.cond_bind, Lib.some_bind, Lib.none_bind, ih]
theorem l4_bind {R S : Type} (f : R → Option S) (N : Nat) (k0 : Row → Row → Bool → Int → Option R) (k1 : Row → Row → Bool → Int → Option R) (n : Nat) (x0 : Row) (x1 : Row) (x2 : Bool) (x3 : Int) : Option.bind (l4 N k0 k1 n x0 x1 x2 x3) f = l4 N (fun y0 y1 y2 y3 => (Option.bind (k0 y0 y1 y2 y3) f)) (fun y0 y1 y2 y3 => (Option.bind (k1 y0 y1 y2 y3) f)) n x0 x1 x2 x3 := (q4_bind f N k0 k1 n) x0 x1 x2 x3
theorem b_bind {R : Type} (N : Nat) (kr : Bool → Option R) (a0 : Row) (b1 : Row) : b N kr a0 b1 = Option.bind (b N (fun r0 => some (r0)) a0 b1) (fun p => kr p) := by
  unfold b; simp only [Lib.cond_bind, Lib.some_bind, Lib.none_bind, l4_bind]
def vo (a0 : Row) (b1 : Row) : Option (Bool) := b Lib.big (fun r0 => some (r0)) a0 b1
def c (a0 : Row) (b1 : Row) : Bool := Option.isSome (vo a0 b1)
def v (a0 : Row) (b1 : Row) : Bool := Option.getD (vo a0 b1) (false)
theorem out (a0 : Row) (b1 : Row) {x : Bool} (h : vo a0 b1 = some x) : c a0 b1 = true ∧ v a0 b1 = x := by
  unfold c v; rw [h]; exact ⟨rfl, rfl⟩
theorem b_eq {R : Type} (kr : Bool → Option R) (a0 : Row) (b1 : Row) (hc : c a0 b1 = true) : ∃ N, b N kr a0 b1 = kr (v a0 b1) := by
  refine ⟨Lib.big, ?_⟩
  rw [b_bind]
  have e : vo a0 b1 = some (v a0 b1) := by
    unfold c at hc; unfold v
    cases h : vo a0 b1 with
    | none => rw [h] at hc; cases hc
    | some x => rfl
  unfold vo at e
  rw [e]; rfl
end Go.FG.Pu.laws_eqClientS

namespace Go.FG.Pu.laws_eqProxy
def b {R : Type} (kr : Bool → Option R) (a0_0 : Int) (a0_1 : Row) (a0_2 : Row) (a0_3 : Row) (a0_4 : Row) (a0_5 : Int) (a0_6 : Row) (a0_7 : Row) (a0_8 : Int) (b1_0 : Int) (b1_1 : Row) (b1_2 : Row) (b1_3 : Row) (b1_4 : Row) (b1_5 : Int) (b1_6 : Row) (b1_7 : Row) (b1_8 : Int) : Option R := bif (a0_0 != b1_0) then (kr false) else (bif (Pu.laws_eqEntryS.c a0_1 b1_1) then (bif (!Pu.laws_eqEntryS.v a0_1 b1_1) then (kr false) else (bif (Pu.laws_eqPolicy.c a0_2 a0_3 a0_4 a0_5 b1_2 b1_3 b1_4 b1_5) then (bif (!Pu.laws_eqPolicy.v a0_2 a0_3 a0_4 a0_5 b1_2 b1_3 b1_4 b1_5) then (kr false) else (bif (Pu.laws_eqFetchS.c a0_6 b1_6) then (bif (!Pu.laws_eqFetchS.v a0_6 b1_6) then (kr false) else (bif (Pu.laws_eqClientS.c a0_7 b1_7) then (bif (!Pu.laws_eqClientS.v a0_7 b1_7) then (kr false) else (bif (a0_8 != b1_8) then (kr false) else (kr true))) else (none))) else (none))) else (none))) else (none))
theorem b_bind {R : Type} (kr : Bool → Option R) (a0_0 : Int) (a0_1 : Row) (a0_2 : Row) (a0_3 : Row) (a0_4 : Row) (a0_5 : Int) (a0_6 : Row) (a0_7 : Row) (a0_8 : Int) (b1_0 : Int) (b1_1 : Row) (b1_2 : Row) (b1_3 : Row) (b1_4 : Row) (b1_5 : Int) (b1_6 : Row) (b1_7 : Row) (b1_8 : Int) : b kr a0_0 a0_1 a0_2 a0_3 a0_4 a0_5 a0_6 a0_7 a0_8 b1_0 b1_1 b1_2 b1_3 b1_4 b1_5 b1_6 b1_7 b1_8 = Option.bind (b (fun r0 => some (r0)) a0_0 a0_1 a0_2 a0_3 a0_4 a0_5 a0_6 a0_7 a0_8 b1_0 b1_1 b1_2 b1_3 b1_4 b1_5 b1_6 b1_7 b1_8) (fun p => kr p) := by
  unfold b; simp only [Lib.cond_bind, Lib.some_bind, Lib.none_bind]
def vo (a0_0 : Int) (a0_1 : Row) (a0_2 : Row) (a0_3 : Row) (a0_4 : Row) (a0_5 : Int) (a0_6 : Row) (a0_7 : Row) (a0_8 : Int) (b1_0 : Int) (b1_1 : Row) (b1_2 : Row) (b1_3 : Row) (b1_4 : Row) (b1_5 : Int) (b1_6 : Row) (b1_7 : Row) (b1_8 : Int) : Option (Bool) := b (fun r0 => some (r0)) a0_0 a0_1 a0_2 a0_3 a0_4 a0_5 a0_6 a0_7 a0_8 b1_0 b1_1 b1_2 b1_3 b1_4 b1_5 b1_6 b1_7 b1_8
def c (a0_0 : Int) (a0_1 : Row) (a0_2 : Row) (a0_3 : Row) (a0_4 : Row) (a0_5 : Int) (a0_6 : Row) (a0_7 : Row) (a0_8 : Int) (b1_0 : Int) (b1_1 : Row) (b1_2 : Row) (b1_3 : Row) (b1_4 : Row) (b1_5 : Int) (b1_6 : Row) (b1_7 : Row) (b1_8 : Int) : Bool := Option.isSome (vo a0_0 a0_1 a0_2 a0_3 a0_4 a0_5 a0_6 a0_7 a0_8 b1_0 b1_1 b1_2 b1_3 b1_4 b1_5 b1_6 b1_7 b1_8)
def v (a0_0 : Int) (a0_1 : Row) (a0_2 : Row) (a0_3 : Row) (a0_4 : Row) (a0_5 : Int) (a0_6 : Row) (a0_7 : Row) (a0_8 : Int) (b1_0 : Int) (b1_1 : Row) (b1_2 : Row) (b1_3 : Row) (b1_4 : Row) (b1_5 : Int) (b1_6 : Row) (b1_7 : Row) (b1_8 : Int) : Bool := Option.getD (vo a0_0 a0_1 a0_2 a0_3 a0_4 a0_5 a0_6 a0_7 a0_8 b1_0 b1_1 b1_2 b1_3 b1_4 b1_5 b1_6 b1_7 b1_8) (false)
theorem out (a0_0 : Int) (a0_1 : Row) (a0_2 : Row) (a0_3 : Row) (a0_4 : Row) (a0_5 : Int) (a0_6 : Row) (a0_7 : Row) (a0_8 : Int) (b1_0 : Int) (b1_1 : Row) (b1_2 : Row) (b1_3 : Row) (b1_4 : Row) (b1_5 : Int) (b1_6 : Row) (b1_7 : Row) (b1_8 : Int) {x : Bool} (h : vo a0_0 a0_1 a0_2 a0_3 a0_4 a0_5 a0_6 a0_7 a0_8 b1_0 b1_1 b1_2 b1_3 b1_4 b1_5 b1_6 b1_7 b1_8 = some x) : c a0_0 a0_1 a0_2 a0_3 a0_4 a0_5 a0_6 a0_7 a0_8 b1_0 b1_1 b1_2 b1_3 b1_4 b1_5 b1_6 b1_7 b1_8 = true ∧ v a0_0 a0_1 a0_2 a0_3 a0_4 a0_5 a0_6 a0_7 a0_8 b1_0 b1_1 b1_2 b1_3 b1_4 b1_5 b1_6 b1_7 b1_8 = x := by
  unfold c v; rw [h]; exact ⟨rfl, rfl⟩
theorem b_eq {R : Type} (kr : Bool → Option R) (a0_0 : Int) (a0_1 : Row) (a0_2 : Row) (a0_3 : Row) (a0_4 : Row) (a0_5 : Int) (a0_6 : Row) (a0_7 : Row) (a0_8 : Int) (b1_0 : Int) (b1_1 : Row) (b1_2 : Row) (b1_3 : Row) (b1_4 : Row) (b1_5 : Int) (b1_6 : Row) (b1_7 : Row) (b1_8 : Int) (hc : c a0_0 a0_1 a0_2 a0_3 a0_4 a0_5 a0_6 a0_7 a0_8 b1_0 b1_1 b1_2 b1_3 b1_4 b1_5 b1_6 b1_7 b1_8 = true) : b kr a0_0 a0_1 a0_2 a0_3 a0_4 a0_5 a0_6 a0_7 a0_8 b1_0 b1_1 b1_2 b1_3 b1_4 b1_5 b1_6 b1_7 b1_8 = kr (v a0_0 a0_1 a0_2 a0_3 a0_4 a0_5 a0_6 a0_7 a0_8 b1_0 b1_1 b1_2 b1_3 b1_4 b1_5 b1_6 b1_7 b1_8) := by
  rw [b_bind]
  have e : vo a0_0 a0_1 a0_2 a0_3 a0_4 a0_5 a0_6 a0_7 a0_8 b1_0 b1_1 b1_2 b1_3 b1_4 b1_5 b1_6 b1_7 b1_8 = some (v a0_0 a0_1 a0_2 a0_3 a0_4 a0_5 a0_6 a0_7 a0_8 b1_0 b1_1 b1_2 b1_3 b1_4 b1_5 b1_6 b1_7 b1_8) := by
    unfold c at hc; unfold v
    cases h : vo a0_0 a0_1 a0_2 a0_3 a0_4 a0_5 a0_6 a0_7 a0_8 b1_0 b1_1 b1_2 b1_3 b1_4 b1_5 b1_6 b1_7 b1_8 with
    | none => rw [h] at hc; cases hc
    | some x => rfl
  unfold vo at e
  rw [e]; rfl
end Go.FG.Pu.laws_eqProxy

namespace Go.FG.Pu.laws_eqFile
def b {R : Type} (kr : Bool → Option R) (a0_0 : ByteArray) (a0_1 : ByteArray) (a0_2 : Int) (b1_0 : ByteArray) (b1_1 : ByteArray) (b1_2 : Int) : Option R := bif (!List.beq (ByteArray.toList a0_0) (ByteArray.toList b1_0)) then (kr false) else (bif (!List.beq (ByteArray.toList a0_1) (ByteArray.toList b1_1)) then (kr false) else (bif (a0_2 != b1_2) then (kr false) else (kr true)))
def v (a0_0 : ByteArray) (a0_1 : ByteArray) (a0_2 : Int) (b1_0 : ByteArray) (b1_1 : ByteArray) (b1_2 : Int) : Bool := bif (!List.beq (ByteArray.toList a0_0) (ByteArray.toList b1_0)) then ((false)) else (bif (!List.beq (ByteArray.toList a0_1) (ByteArray.toList b1_1)) then ((false)) else (bif (a0_2 != b1_2) then ((false)) else ((true))))
theorem b_eq {R : Type} (kr : Bool → Option R) (a0_0 : ByteArray) (a0_1 : ByteArray) (a0_2 : Int) (b1_0 : ByteArray) (b1_1 : ByteArray) (b1_2 : Int) : b kr a0_0 a0_1 a0_2 b1_0 b1_1 b1_2 = kr (v a0_0 a0_1 a0_2 b1_0 b1_1 b1_2) := by
  first | rfl | (unfold b v; simp only [Bool.cond_eq_ite]; (repeat' split) <;> rfl)
end Go.FG.Pu.laws_eqFile

namespace Go.FG.Pu.laws_eqFileS
def r4 {R : Type} (N : Nat) (g : Row → Row → Bool → Int → Option R) (k0 : Row → Row → Bool → Int → Option R) (k1 : Row → Row → Bool → Int → Option R) (x0 : Row) (x1 : Row) (x2 : Bool) (x3 : Int) : Option R := bif (decide (x3 < (↑(List.length x0) : Int))) then (bif (decide (0 ≤ x3) && decide (x3 < (↑(List.length x0) : Int))) then (bif (decide (0 ≤ x3) && decide (x3 < (↑(List.length x1) : Int))) then (bif (!Pu.laws_eqFile.v (cvS (cellAt x0 (Int.toNat x3) 0)) (cvS (cellAt x0 (Int.toNat x3) 1)) (cvI (cellAt x0 (Int.toNat x3) (1 + 1))) (cvS (cellAt x1 (Int.toNat x3) 0)) (cvS (cellAt x1 (Int.toNat x3) 1)) (cvI (cellAt x1 (Int.toNat x3) (1 + 1)))) then (k0 x0 x1 false x3) else (g x0 x1 x2 (w64 (x3 + 1)))) else (none)) else (none)) else (k1 x0 x1 x2 x3)
def l4 {R : Type} (N : Nat) (k0 : Row → Row → Bool → Int → Option R) (k1 : Row → Row → Bool → Int → Option R) : Nat → Row → Row → Bool → Int → Option R
  | 0 => (fun _ _ _ _ => none)
  | n + 1 => (fun x0 x1 x2 x3 => r4 N (l4 N k0 k1 n) k0 k1 x0 x1 x2 x3)
def b {R : Type} (N : Nat) (kr : Bool → Option R) (a0 : Row) (b1 : Row) : Option R := bif ((↑(List.length a0) : Int) != (↑(List.length b1) : Int)) then (kr false) else (l4 N (fun y4 y5 y6 y7 => kr y6) (fun y8 y9 y10 y11 => kr true) N a0 b1 false 0)
theorem q4_bind {R S : Type} (f : R → Option S) (N : Nat) (k0 : Row → Row → Bool → Int → Option R) (k1 : Row → Row → Bool → Int → Option R) : ∀ n : Nat, (∀ (x0 : Row) (x1 : Row) (x2 : Bool) (x3 : Int), Option.bind (l4 N k0 k1 n x0 x1 x2 x3) f = l4 N (fun y0 y1 y2 y3 => (Option.bind (k0 y0 y1 y2 y3) f)) (fun y0 y1 y2 y3 => (Option.bind (k1 y0 y1 y2 y3) f)) n x0 x1 x2 x3) := by
  intro n
  induction n with
  | zero => exact (fun _ _ _ _ => rfl)
  | succ n ih =>
    intro x0 x1 x2 x3
    simp only [l4, r4, Lib.cond_bind, Lib.some_bind, Lib.none_bind, ih]
theorem l4_bind {R S : Type} (f : R → Option S) (N : Nat) (k0 : Row → Row → Bool → Int → Option R) (k1 : Row → Row → Bool → Int → Option R) (n : Nat) (x0 : Row) (x1 : Row) (x2 : Bool) (x3 : Int) : Option.bind (l4 N k0 k1 n x0 x1 x2 x3) f = l4 N (fun y0 y1 y2 y3 => (Option.bind (k0 y0 y1 y2 y3) f)) (fun y0 y1 y2 y3 => (Option.bind (k1 y0 y1 y2 y3) f)) n x0 x1 x2 x3 := (q4_bind f N k0 k1 n) x0 x1 x2 x3
theorem b_bind {R : Type} (N : Nat) (kr : Bool → Option R) (a0 : Row) (b1 : Row) : b N kr a0 b1 = Option.bind (b N (fun r0 => some (r0)) a0 b1) (fun p => kr p) := by
  unfold b; simp only [Lib.cond_bind, Lib.some_bind, Lib.none_bind, l4_bind]
def vo (a0 : Row) (b1 : Row) : Option (Bool) := b Lib.big (fun r0 => some (r0)) a0 b1
def c (a0 : Row) (b1 : Row) : Bool := Option.isSome (vo a0 b1)
def v (a0 : Row) (b1 : Row) : Bool := Option.getD (vo a0 b1) (false)
theorem out (a0 : Row) (b1 : Row) {x : Bool} (h : vo a0 b1 = some x) : c a0 b1 = true ∧ v a0 b1 = x := by
  unfold c v; rw [h]; exact ⟨rfl, rfl⟩
theorem b_eq {R : Type} (kr : Bool → Option R) (a0 : Row) (b1 : Row) (hc : c a0 b1 = true) : ∃ N, b N kr a0 b1 = kr (v a0 b1) := by
  refine ⟨Lib.big, ?_⟩
  rw [b_bind]
  have e : vo a0 b1 = some (v a0 b1) := by
    unfold c at hc; unfold v
    cases h : vo a0 b1 with
    | none => rw [h] at hc; cases hc
    | some x => rfl
  unfold vo at e
  rw [e]; rfl
end Go.FG.Pu.laws_eqFileS

namespace Go.FG.Pu.laws_eqDisk
def b {R : Type} (kr : Bool → Option R) (a0 : Row) (b1 : Row) : Option R := bif (Pu.laws_eqFileS.c a0 b1) then (bif (!Pu.laws_eqFileS.v a0 b1) then (kr false) else (kr true)) else (none)
theorem b_bind {R : Type} (kr : Bool → Option R) (a0 : Row) (b1 : Row) : b kr a0 b1 = Option.bind (b (fun r0 => some (r0)) a0 b1) (fun p => kr p) := by
  unfold b; simp only [Lib.cond_bind, Lib.some_bind, Lib.none_bind]
def vo (a0 : Row) (b1 : Row) : Option (Bool) := b (fun r0 => some (r0)) a0 b1
def c (a0 : Row) (b1 : Row) : Bool := Option.isSome (vo a0 b1)
def v (a0 : Row) (b1 : Row) : Bool := Option.getD (vo a0 b1) (false)
theorem out (a0 : Row) (b1 : Row) {x : Bool} (h : vo a0 b1 = some x) : c a0 b1 = true ∧ v a0 b1 = x := by
  unfold c v; rw [h]; exact ⟨rfl, rfl⟩
theorem b_eq {R : Type} (kr : Bool → Option R) (a0 : Row) (b1 : Row) (hc : c a0 b1 = true) : b kr a0 b1 = kr (v a0 b1) := by
  rw [b_bind]
  have e : vo a0 b1 = some (v a0 b1) := by
    unfold c at hc; unfold v
    cases h : vo a0 b1 with
    | none => rw [h] at hc; cases hc
    | some x => rfl
  unfold vo at e
  rw [e]; rfl
end Go.FG.Pu.laws_eqDisk

namespace Go.FG.Pu.laws_eqWorld
def b {R : Type} (kr : Bool → Option R) (a0_0 : Int) (a0_1 : Row) (a0_2 : Row) (a0_3 : Row) (a0_4 : Row) (a0_5 : Int) (a0_6 : Row) (a0_7 : Row) (a0_8 : Int) (a0_9 : Row) (a0_10 : Row) (a0_11 : Row) (b1_0 : Int) (b1_1 : Row) (b1_2 : Row) (b1_3 : Row) (b1_4 : Row) (b1_5 : Int) (b1_6 : Row) (b1_7 : Row) (b1_8 : Int) (b1_9 : Row) (b1_10 : Row) (b1_11 : Row) : Option R := bif (Pu.laws_eqProxy.c a0_0 a0_1 a0_2 a0_3 a0_4 a0_5 a0_6 a0_7 a0_8 b1_0 b1_1 b1_2 b1_3 b1_4 b1_5 b1_6 b1_7 b1_8) then (bif (!Pu.laws_eqProxy.v a0_0 a0_1 a0_2 a0_3 a0_4 a0_5 a0_6 a0_7 a0_8 b1_0 b1_1 b1_2 b1_3 b1_4 b1_5 b1_6 b1_7 b1_8) then (kr false) else (bif (Pu.laws_eqDisk.c a0_9 b1_9) then (bif (!Pu.laws_eqDisk.v a0_9 b1_9) then (kr false) else (bif (!Pu.laws_eqIntS.v a0_10 b1_10) then (kr false) else (bif (Pu.laws_eqEntryS.c a0_11 b1_11) then (bif (!Pu.laws_eqEntryS.v a0_11 b1_11) then (kr false) else (kr true)) else (none)))) else (none))) else (none)
theorem b_bind {R : Type} (kr : Bool → Option R) (a0_0 : Int) (a0_1 : Row) (a0_2 : Row) (a0_3 : Row) (a0_4 : Row) (a0_5 : Int) (a0_6 : Row) (a0_7 : Row) (a0_8 : Int) (a0_9 : Row) (a0_10 : Row) (a0_11 : Row) (b1_0 : Int) (b1_1 : Row) (b1_2 : Row) (b1_3 : Row) (b1_4 : Row) (b1_5 : Int) (b1_6 : Row) (b1_7 : Row) (b1_8 : Int) (b1_9 : Row) (b1_10 : Row) (b1_11 : Row) : b kr a0_0 a0_1 a0_2 a0_3 a0_4 a0_5 a0_6 a0_7 a0_8 a0_9 a0_10 a0_11 b1_0 b1_1 b1_2 b1_3 b1_4 b1_5 b1_6 b1_7 b1_8 b1_9 b1_10 b1_11 = Option.bind (b (fun r0 => some (r0)) a0_0 a0_1 a0_2 a0_3 a0_4 a0_5 a0_6 a0_7 a0_8 a0_9 a0_10 a0_11 b1_0 b1_1 b1_2 b1_3 b1_4 b1_5 b1_6 b1_7 b1_8 b1_9 b1_10 b1_11) (fun p => kr p) := by
  unfold b; simp only [Lib.cond_bind, Lib.some_bind, Lib.none_bind]
def vo (a0_0 : Int) (a0_1 : Row) (a0_2 : Row) (a0_3 : Row) (a0_4 : Row) (a0_5 : Int) (a0_6 : Row) (a0_7 : Row) (a0_8 : Int) (a0_9 : Row) (a0_10 : Row) (a0_11 : Row) (b1_0 : Int) (b1_1 : Row) (b1_2 : Row) (b1_3 : Row) (b1_4 : Row) (b1_5 : Int) (b1_6 : Row) (b1_7 : Row) (b1_8 : Int) (b1_9 : Row) (b1_10 : Row) (b1_11 : Row) : Option (Bool) := b (fun r0 => some (r0)) a0_0 a0_1 a0_2 a0_3 a0_4 a0_5 a0_6 a0_7 a0_8 a0_9 a0_10 a0_11 b1_0 b1_1 b1_2 b1_3 b1_4 b1_5 b1_6 b1_7 b1_8 b1_9 b1_10 b1_11
def c (a0_0 : Int) (a0_1 : Row) (a0_2 : Row) (a0_3 : Row) (a0_4 : Row) (a0_5 : Int) (a0_6 : Row) (a0_7 : Row) (a0_8 : Int) (a0_9 : Row) (a0_10 : Row) (a0_11 : Row) (b1_0 : Int) (b1_1 : Row) (b1_2 : Row) (b1_3 : Row) (b1_4 : Row) (b1_5 : Int) (b1_6 : Row) (b1_7 : Row) (b1_8 : Int) (b1_9 : Row) (b1_10 : Row) (b1_11 : Row) : Bool := Option.isSome (vo a0_0 a0_1 a0_2 a0_3 a0_4 a0_5 a0_6 a0_7 a0_8 a0_9 a0_10 a0_11 b1_0 b1_1 b1_2 b1_3 b1_4 b1_5 b1_6 b1_7 b1_8 b1_9 b1_10 b1_11)
def v (a0_0 : Int) (a0_1 : Row) (a0_2 : Row) (a0_3 : Row) (a0_4 : Row) (a0_5 : Int) (a0_6 : Row) (a0_7 : Row) (a0_8 : Int) (a0_9 : Row) (a0_10 : Row) (a0_11 : Row) (b1_0 : Int) (b1_1 : Row) (b1_2 : Row) (b1_3 : Row) (b1_4 : Row) (b1_5 : Int) (b1_6 : Row) (b1_7 : Row) (b1_8 : Int) (b1_9 : Row) (b1_10 : Row) (b1_11 : Row) : Bool := Option.getD (vo a0_0 a0_1 a0_2 a0_3 a0_4 a0_5 a0_6 a0_7 a0_8 a0_9 a0_10 a0_11 b1_0 b1_1 b1_2 b1_3 b1_4 b1_5 b1_6 b1_7 b1_8 b1_9 b1_10 b1_11) (false)
theorem out (a0_0 : Int) (a0_1 : Row) (a0_2 : Row) (a0_3 : Row) (a0_4 : Row) (a0_5 : Int) (a0_6 : Row) (a0_7 : Row) (a0_8 : Int) (a0_9 : Row) (a0_10 : Row) (a0_11 : Row) (b1_0 : Int) (b1_1 : Row) (b1_2 : Row) (b1_3 : Row) (b1_4 : Row) (b1_5 : Int) (b1_6 : Row) (b1_7 : Row) (b1_8 : Int) (b1_9 : Row) (b1_10 : Row) (b1_11 : Row) {x : Bool} (h : vo a0_0 a0_1 a0_2 a0_3 a0_4 a0_5 a0_6 a0_7 a0_8 a0_9 a0_10 a0_11 b1_0 b1_1 b1_2 b1_3 b1_4 b1_5 b1_6 b1_7 b1_8 b1_9 b1_10 b1_11 = some x) : c a0_0 a0_1 a0_2 a0_3 a0_4 a0_5 a0_6 a0_7 a0_8 a0_9 a0_10 a0_11 b1_0 b1_1 b1_2 b1_3 b1_4 b1_5 b1_6 b1_7 b1_8 b1_9 b1_10 b1_11 = true ∧ v a0_0 a0_1 a0_2 a0_3 a0_4 a0_5 a0_6 a0_7 a0_8 a0_9 a0_10 a0_11 b1_0 b1_1 b1_2 b1_3 b1_4 b1_5 b1_6 b1_7 b1_8 b1_9 b1_10 b1_11 = x := by
  unfold c v; rw [h]; exact ⟨rfl, rfl⟩
theorem b_eq {R : Type} (kr : Bool → Option R) (a0_0 : Int) (a0_1 : Row) (a0_2 : Row) (a0_3 : Row) (a0_4 : Row) (a0_5 : Int) (a0_6 : Row) (a0_7 : Row) (a0_8 : Int) (a0_9 : Row) (a0_10 : Row) (a0_11 : Row) (b1_0 : Int) (b1_1 : Row) (b1_2 : Row) (b1_3 : Row) (b1_4 : Row) (b1_5 : Int) (b1_6 : Row) (b1_7 : Row) (b1_8 : Int) (b1_9 : Row) (b1_10 : Row) (b1_11 : Row) (hc : c a0_0 a0_1 a0_2 a0_3 a0_4 a0_5 a0_6 a0_7 a0_8 a0_9 a0_10 a0_11 b1_0 b1_1 b1_2 b1_3 b1_4 b1_5 b1_6 b1_7 b1_8 b1_9 b1_10 b1_11 = true) : b kr a0_0 a0_1 a0_2 a0_3 a0_4 a0_5 a0_6 a0_7 a0_8 a0_9 a0_10 a0_11 b1_0 b1_1 b1_2 b1_3 b1_4 b1_5 b1_6 b1_7 b1_8 b1_9 b1_10 b1_11 = kr (v a0_0 a0_1 a0_2 a0_3 a0_4 a0_5 a0_6 a0_7 a0_8 a0_9 a0_10 a0_11 b1_0 b1_1 b1_2 b1_3 b1_4 b1_5 b1_6 b1_7 b1_8 b1_9 b1_10 b1_11) := by
  rw [b_bind]
  have e : vo a0_0 a0_1 a0_2 a0_3 a0_4 a0_5 a0_6 a0_7 a0_8 a0_9 a0_10 a0_11 b1_0 b1_1 b1_2 b1_3 b1_4 b1_5 b1_6 b1_7 b1_8 b1_9 b1_10 b1_11 = some (v a0_0 a0_1 a0_2 a0_3 a0_4 a0_5 a0_6 a0_7 a0_8 a0_9 a0_10 a0_11 b1_0 b1_1 b1_2 b1_3 b1_4 b1_5 b1_6 b1_7 b1_8 b1_9 b1_10 b1_11) := by
    unfold c at hc; unfold v
    cases h : vo a0_0 a0_1 a0_2 a0_3 a0_4 a0_5 a0_6 a0_7 a0_8 a0_9 a0_10 a0_11 b1_0 b1_1 b1_2 b1_3 b1_4 b1_5 b1_6 b1_7 b1_8 b1_9 b1_10 b1_11 with
    | none => rw [h] at hc; cases hc
    | some x => rfl
  unfold vo at e
  rw [e]; rfl
end Go.FG.Pu.laws_eqWorld

namespace Go.FG.Pu.laws_FnExactStoredRight
def b {R : Type} (kr : Bool → Option R) (aW0_0 : Int) (aW0_1 : Row) (aW0_2 : Row) (aW0_3 : Row) (aW0_4 : Row) (aW0_5 : Int) (aW0_6 : Row) (aW0_7 : Row) (aW0_8 : Int) (aW0_9 : Row) (aW0_10 : Row) (aW0_11 : Row) : Option R := bif (Pu.laws_szWorld.c aW0_0 aW0_1 aW0_2 aW0_3 aW0_4 aW0_5 aW0_6 aW0_7 aW0_8 aW0_9 aW0_10 aW0_11 1048576) then (bif (decide (Pu.laws_szWorld.v aW0_0 aW0_1 aW0_2 aW0_3 aW0_4 aW0_5 aW0_6 aW0_7 aW0_8 aW0_9 aW0_10 aW0_11 1048576 < 0)) then (kr true) else (bif (Pu.laws_toWorld.c aW0_0 aW0_1 aW0_2 aW0_3 aW0_4 aW0_5 aW0_6 aW0_7 aW0_8 aW0_9 aW0_10 aW0_11) then (bif (Pu.spec_StoredRight.c (Pu.laws_toWorld.v aW0_0 aW0_1 aW0_2 aW0_3 aW0_4 aW0_5 aW0_6 aW0_7 aW0_8 aW0_9 aW0_10 aW0_11).1 (Pu.laws_toWorld.v aW0_0 aW0_1 aW0_2 aW0_3 aW0_4 aW0_5 aW0_6 aW0_7 aW0_8 aW0_9 aW0_10 aW0_11).2.1 (Pu.laws_toWorld.v aW0_0 aW0_1 aW0_2 aW0_3 aW0_4 aW0_5 aW0_6 aW0_7 aW0_8 aW0_9 aW0_10 aW0_11).2.2.1 (Pu.laws_toWorld.v aW0_0 aW0_1 aW0_2 aW0_3 aW0_4 aW0_5 aW0_6 aW0_7 aW0_8 aW0_9 aW0_10 aW0_11).2.2.2.1 (Pu.laws_toWorld.v aW0_0 aW0_1 aW0_2 aW0_3 aW0_4 aW0_5 aW0_6 aW0_7 aW0_8 aW0_9 aW0_10 aW0_11).2.2.2.2.1 (Pu.laws_toWorld.v aW0_0 aW0_1 aW0_2 aW0_3 aW0_4 aW0_5 aW0_6 aW0_7 aW0_8 aW0_9 aW0_10 aW0_11).2.2.2.2.2.1 (Pu.laws_toWorld.v aW0_0 aW0_1 aW0_2 aW0_3 aW0_4 aW0_5 aW0_6 aW0_7 aW0_8 aW0_9 aW0_10 aW0_11).2.2.2.2.2.2.1 (Pu.laws_toWorld.v aW0_0 aW0_1 aW0_2 aW0_3 aW0_4 aW0_5 aW0_6 aW0_7 aW0_8 aW0_9 aW0_10 aW0_11).2.2.2.2.2.2.2.1 (Pu.laws_toWorld.v aW0_0 aW0_1 aW0_2 aW0_3 aW0_4 aW0_5 aW0_6 aW0_7 aW0_8 aW0_9 aW0_10 aW0_11).2.2.2.2.2.2.2.2.1 (Pu.laws_toWorld.v aW0_0 aW0_1 aW0_2 aW0_3 aW0_4 aW0_5 aW0_6 aW0_7 aW0_8 aW0_9 aW0_10 aW0_11).2.2.2.2.2.2.2.2.2.1 (Pu.laws_toWorld.v aW0_0 aW0_1 aW0_2 aW0_3 aW0_4 aW0_5 aW0_6 aW0_7 aW0_8 aW0_9 aW0_10 aW0_11).2.2.2.2.2.2.2.2.2.2.1 (Pu.laws_toWorld.v aW0_0 aW0_1 aW0_2 aW0_3 aW0_4 aW0_5 aW0_6 aW0_7 aW0_8 aW0_9 aW0_10 aW0_11).2.2.2.2.2.2.2.2.2.2.2) then (bif (Pu.laws_toWorld.c aW0_0 aW0_1 aW0_2 aW0_3 aW0_4 aW0_5 aW0_6 aW0_7 aW0_8 aW0_9 aW0_10 aW0_11) then (bif (Pu.impl_StoredRight.c (Pu.laws_toWorld.v aW0_0 aW0_1 aW0_2 aW0_3 aW0_4 aW0_5 aW0_6 aW0_7 aW0_8 aW0_9 aW0_10 aW0_11).1 (Pu.laws_toWorld.v aW0_0 aW0_1 aW0_2 aW0_3 aW0_4 aW0_5 aW0_6 aW0_7 aW0_8 aW0_9 aW0_10 aW0_11).2.1 (Pu.laws_toWorld.v aW0_0 aW0_1 aW0_2 aW0_3 aW0_4 aW0_5 aW0_6 aW0_7 aW0_8 aW0_9 aW0_10 aW0_11).2.2.1 (Pu.laws_toWorld.v aW0_0 aW0_1 aW0_2 aW0_3 aW0_4 aW0_5 aW0_6 aW0_7 aW0_8 aW0_9 aW0_10 aW0_11).2.2.2.1 (Pu.laws_toWorld.v aW0_0 aW0_1 aW0_2 aW0_3 aW0_4 aW0_5 aW0_6 aW0_7 aW0_8 aW0_9 aW0_10 aW0_11).2.2.2.2.1 (Pu.laws_toWorld.v aW0_0 aW0_1 aW0_2 aW0_3 aW0_4 aW0_5 aW0_6 aW0_7 aW0_8 aW0_9 aW0_10 aW0_11).2.2.2.2.2.1 (Pu.laws_toWorld.v aW0_0 aW0_1 aW0_2 aW0_3 aW0_4 aW0_5 aW0_6 aW0_7 aW0_8 aW0_9 aW0_10 aW0_11).2.2.2.2.2.2.1 (Pu.laws_toWorld.v aW0_0 aW0_1 aW0_2 aW0_3 aW0_4 aW0_5 aW0_6 aW0_7 aW0_8 aW0_9 aW0_10 aW0_11).2.2.2.2.2.2.2.1 (Pu.laws_toWorld.v aW0_0 aW0_1 aW0_2 aW0_3 aW0_4 aW0_5 aW0_6 aW0_7 aW0_8 aW0_9 aW0_10 aW0_11).2.2.2.2.2.2.2.2.1 (Pu.laws_toWorld.v aW0_0 aW0_1 aW0_2 aW0_3 aW0_4 aW0_5 aW0_6 aW0_7 aW0_8 aW0_9 aW0_10 aW0_11).2.2.2.2.2.2.2.2.2.1 (Pu.laws_toWorld.v aW0_0 aW0_1 aW0_2 aW0_3 aW0_4 aW0_5 aW0_6 aW0_7 aW0_8 aW0_9 aW0_10 aW0_11).2.2.2.2.2.2.2.2.2.2.1 (Pu.laws_toWorld.v aW0_0 aW0_1 aW0_2 aW0_3 aW0_4 aW0_5 aW0_6 aW0_7 aW0_8 aW0_9 aW0_10 aW0_11).2.2.2.2.2.2.2.2.2.2.2) then (bif (!decide (Pu.impl_StoredRight.v (Pu.laws_toWorld.v aW0_0 aW0_1 aW0_2 aW0_3 aW0_4 aW0_5 aW0_6 aW0_7 aW0_8 aW0_9 aW0_10 aW0_11).1 (Pu.laws_toWorld.v aW0_0 aW0_1 aW0_2 aW0_3 aW0_4 aW0_5 aW0_6 aW0_7 aW0_8 aW0_9 aW0_10 aW0_11).2.1 (Pu.laws_toWorld.v aW0_0 aW0_1 aW0_2 aW0_3 aW0_4 aW0_5 aW0_6 aW0_7 aW0_8 aW0_9 aW0_10 aW0_11).2.2.1 (Pu.laws_toWorld.v aW0_0 aW0_1 aW0_2 aW0_3 aW0_4 aW0_5 aW0_6 aW0_7 aW0_8 aW0_9 aW0_10 aW0_11).2.2.2.1 (Pu.laws_toWorld.v aW0_0 aW0_1 aW0_2 aW0_3 aW0_4 aW0_5 aW0_6 aW0_7 aW0_8 aW0_9 aW0_10 aW0_11).2.2.2.2.1 (Pu.laws_toWorld.v aW0_0 aW0_1 aW0_2 aW0_3 aW0_4 aW0_5 aW0_6 aW0_7 aW0_8 aW0_9 aW0_10 aW0_11).2.2.2.2.2.1 (Pu.laws_toWorld.v aW0_0 aW0_1 aW0_2 aW0_3 aW0_4 aW0_5 aW0_6 aW0_7 aW0_8 aW0_9 aW0_10 aW0_11).2.2.2.2.2.2.1 (Pu.laws_toWorld.v aW0_0 aW0_1 aW0_2 aW0_3 aW0_4 aW0_5 aW0_6 aW0_7 aW0_8 aW0_9 aW0_10 aW0_11).2.2.2.2.2.2.2.1 (Pu.laws_toWorld.v aW0_0 aW0_1 aW0_2 aW0_3 aW0_4 aW0_5 aW0_6 aW0_7 aW0_8 aW0_9 aW0_10 aW0_11).2.2.2.2.2.2.2.2.1 (Pu.laws_toWorld.v aW0_0 aW0_1 aW0_2 aW0_3 aW0_4 aW0_5 aW0_6 aW0_7 aW0_8 aW0_9 aW0_10 aW0_11).2.2.2.2.2.2.2.2.2.1 (Pu.laws_toWorld.v aW0_0 aW0_1 aW0_2 aW0_3 aW0_4 aW0_5 aW0_6 aW0_7 aW0_8 aW0_9 aW0_10 aW0_11).2.2.2.2.2.2.2.2.2.2.1 (Pu.laws_toWorld.v aW0_0 aW0_1 aW0_2 aW0_3 aW0_4 aW0_5 aW0_6 aW0_7 aW0_8 aW0_9 aW0_10 aW0_11).2.2.2.2.2.2.2.2.2.2.2 = Pu.spec_StoredRight.v (Pu.laws_toWorld.v aW0_0 aW0_1 aW0_2 aW0_3 aW0_4 aW0_5 aW0_6 aW0_7 aW0_8 aW0_9 aW0_10 aW0_11).1 (Pu.laws_toWorld.v aW0_0 aW0_1 aW0_2 aW0_3 aW0_4 aW0_5 aW0_6 aW0_7 aW0_8 aW0_9 aW0_10 aW0_11).2.1 (Pu.laws_toWorld.v aW0_0 aW0_1 aW0_2 aW0_3 aW0_4 aW0_5 aW0_6 aW0_7 aW0_8 aW0_9 aW0_10 aW0_11).2.2.1 (Pu.laws_toWorld.v aW0_0 aW0_1 aW0_2 aW0_3 aW0_4 aW0_5 aW0_6 aW0_7 aW0_8 aW0_9 aW0_10 aW0_11).2.2.2.1 (Pu.laws_toWorld.v aW0_0 aW0_1 aW0_2 aW0_3 aW0_4 aW0_5 aW0_6 aW0_7 aW0_8 aW0_9 aW0_10 aW0_11).2.2.2.2.1 (Pu.laws_toWorld.v aW0_0 aW0_1 aW0_2 aW0_3 aW0_4 aW0_5 aW0_6 aW0_7 aW0_8 aW0_9 aW0_10 aW0_11).2.2.2.2.2.1 (Pu.laws_toWorld.v aW0_0 aW0_1 aW0_2 aW0_3 aW0_4 aW0_5 aW0_6 aW0_7 aW0_8 aW0_9 aW0_10 aW0_11).2.2.2.2.2.2.1 (Pu.laws_toWorld.v aW0_0 aW0_1 aW0_2 aW0_3 aW0_4 aW0_5 aW0_6 aW0_7 aW0_8 aW0_9 aW0_10 aW0_11).2.2.2.2.2.2.2.1 (Pu.laws_toWorld.v aW0_0 aW0_1 aW0_2 aW0_3 aW0_4 aW0_5 aW0_6 aW0_7 aW0_8 aW0_9 aW0_10 aW0_11).2.2.2.2.2.2.2.2.1 (Pu.laws_toWorld.v aW0_0 aW0_1 aW0_2 aW0_3 aW0_4 aW0_5 aW0_6 aW0_7 aW0_8 aW0_9 aW0_10 aW0_11).2.2.2.2.2.2.2.2.2.1 (Pu.laws_toWorld.v aW0_0 aW0_1 aW0_2 aW0_3 aW0_4 aW0_5 aW0_6 aW0_7 aW0_8 aW0_9 aW0_10 aW0_11).2.2.2.2.2.2.2.2.2.2.1 (Pu.laws_toWorld.v aW0_0 aW0_1 aW0_2 aW0_3 aW0_4 aW0_5 aW0_6 aW0_7 aW0_8 aW0_9 aW0_10 aW0_11).2.2.2.2.2.2.2.2.2.2.2)) then (kr false) else (bif (Pu.laws_toWorld.c aW0_0 aW0_1 aW0_2 aW0_3 aW0_4 aW0_5 aW0_6 aW0_7 aW0_8 aW0_9 aW0_10 aW0_11) then (bif (Pu.laws_eqWorld.c (Pu.laws_toWorld.v aW0_0 aW0_1 aW0_2 aW0_3 aW0_4 aW0_5 aW0_6 aW0_7 aW0_8 aW0_9 aW0_10 aW0_11).1 (Pu.laws_toWorld.v aW0_0 aW0_1 aW0_2 aW0_3 aW0_4 aW0_5 aW0_6 aW0_7 aW0_8 aW0_9 aW0_10 aW0_11).2.1 (Pu.laws_toWorld.v aW0_0 aW0_1 aW0_2 aW0_3 aW0_4 aW0_5 aW0_6 aW0_7 aW0_8 aW0_9 aW0_10 aW0_11).2.2.1 (Pu.laws_toWorld.v aW0_0 aW0_1 aW0_2 aW0_3 aW0_4 aW0_5 aW0_6 aW0_7 aW0_8 aW0_9 aW0_10 aW0_11).2.2.2.1 (Pu.laws_toWorld.v aW0_0 aW0_1 aW0_2 aW0_3 aW0_4 aW0_5 aW0_6 aW0_7 aW0_8 aW0_9 aW0_10 aW0_11).2.2.2.2.1 (Pu.laws_toWorld.v aW0_0 aW0_1 aW0_2 aW0_3 aW0_4 aW0_5 aW0_6 aW0_7 aW0_8 aW0_9 aW0_10 aW0_11).2.2.2.2.2.1 (Pu.laws_toWorld.v aW0_0 aW0_1 aW0_2 aW0_3 aW0_4 aW0_5 aW0_6 aW0_7 aW0_8 aW0_9 aW0_10 aW0_11).2.2.2.2.2.2.1 (Pu.laws_toWorld.v aW0_0 aW0_1 aW0_2 aW0_3 aW0_4 aW0_5 aW0_6 aW0_7 aW0_8 aW0_9 aW0_10 aW0_11).2.2.2.2.2.2.2.1 (Pu.laws_toWorld.v aW0_0 aW0_1 aW0_2 aW0_3 aW0_4 aW0_5 aW0_6 aW0_7 aW0_8 aW0_9 aW0_10 aW0_11).2.2.2.2.2.2.2.2.1 (Pu.laws_toWorld.v aW0_0 aW0_1 aW0_2 aW0_3 aW0_4 aW0_5 aW0_6 aW0_7 aW0_8 aW0_9 aW0_10 aW0_11).2.2.2.2.2.2.2.2.2.1 (Pu.laws_toWorld.v aW0_0 aW0_1 aW0_2 aW0_3 aW0_4 aW0_5 aW0_6 aW0_7 aW0_8 aW0_9 aW0_10 aW0_11).2.2.2.2.2.2.2.2.2.2.1 (Pu.laws_toWorld.v aW0_0 aW0_1 aW0_2 aW0_3 aW0_4 aW0_5 aW0_6 aW0_7 aW0_8 aW0_9 aW0_10 aW0_11).2.2.2.2.2.2.2.2.2.2.2 (Pu.laws_toWorld.v aW0_0 aW0_1 aW0_2 aW0_3 aW0_4 aW0_5 aW0_6 aW0_7 aW0_8 aW0_9 aW0_10 aW0_11).1 (Pu.laws_toWorld.v aW0_0 aW0_1 aW0_2 aW0_3 aW0_4 aW0_5 aW0_6 aW0_7 aW0_8 aW0_9 aW0_10 aW0_11).2.1 (Pu.laws_toWorld.v aW0_0 aW0_1 aW0_2 aW0_3 aW0_4 aW0_5 aW0_6 aW0_7 aW0_8 aW0_9 aW0_10 aW0_11).2.2.1 (Pu.laws_toWorld.v aW0_0 aW0_1 aW0_2 aW0_3 aW0_4 aW0_5 aW0_6 aW0_7 aW0_8 aW0_9 aW0_10 aW0_11).2.2.2.1 (Pu.laws_toWorld.v aW0_0 aW0_1 aW0_2 aW0_3 aW0_4 aW0_5 aW0_6 aW0_7 aW0_8 aW0_9 aW0_10 aW0_11).2.2.2.2.1 (Pu.laws_toWorld.v aW0_0 aW0_1 aW0_2 aW0_3 aW0_4 aW0_5 aW0_6 aW0_7 aW0_8 aW0_9 aW0_10 aW0_11).2.2.2.2.2.1 (Pu.laws_toWorld.v aW0_0 aW0_1 aW0_2 aW0_3 aW0_4 aW0_5 aW0_6 aW0_7 aW0_8 aW0_9 aW0_10 aW0_11).2.2.2.2.2.2.1 (Pu.laws_toWorld.v aW0_0 aW0_1 aW0_2 aW0_3 aW0_4 aW0_5 aW0_6 aW0_7 aW0_8 aW0_9 aW0_10 aW0_11).2.2.2.2.2.2.2.1 (Pu.laws_toWorld.v aW0_0 aW0_1 aW0_2 aW0_3 aW0_4 aW0_5 aW0_6 aW0_7 aW0_8 aW0_9 aW0_10 aW0_11).2.2.2.2.2.2.2.2.1 (Pu.laws_toWorld.v aW0_0 aW0_1 aW0_2 aW0_3 aW0_4 aW0_5 aW0_6 aW0_7 aW0_8 aW0_9 aW0_10 aW0_11).2.2.2.2.2.2.2.2.2.1 (Pu.laws_toWorld.v aW0_0 aW0_1 aW0_2 aW0_3 aW0_4 aW0_5 aW0_6 aW0_7 aW0_8 aW0_9 aW0_10 aW0_11).2.2.2.2.2.2.2.2.2.2.1 (Pu.laws_toWorld.v aW0_0 aW0_1 aW0_2 aW0_3 aW0_4 aW0_5 aW0_6 aW0_7 aW0_8 aW0_9 aW0_10 aW0_11).2.2.2.2.2.2.2.2.2.2.2) then (bif (!Pu.laws_eqWorld.v (Pu.laws_toWorld.v aW0_0 aW0_1 aW0_2 aW0_3 aW0_4 aW0_5 aW0_6 aW0_7 aW0_8 aW0_9 aW0_10 aW0_11).1 (Pu.laws_toWorld.v aW0_0 aW0_1 aW0_2 aW0_3 aW0_4 aW0_5 aW0_6 aW0_7 aW0_8 aW0_9 aW0_10 aW0_11).2.1 (Pu.laws_toWorld.v aW0_0 aW0_1 aW0_2 aW0_3 aW0_4 aW0_5 aW0_6 aW0_7 aW0_8 aW0_9 aW0_10 aW0_11).2.2.1 (Pu.laws_toWorld.v aW0_0 aW0_1 aW0_2 aW0_3 aW0_4 aW0_5 aW0_6 aW0_7 aW0_8 aW0_9 aW0_10 aW0_11).2.2.2.1 (Pu.laws_toWorld.v aW0_0 aW0_1 aW0_2 aW0_3 aW0_4 aW0_5 aW0_6 aW0_7 aW0_8 aW0_9 aW0_10 aW0_11).2.2.2.2.1 (Pu.laws_toWorld.v aW0_0 aW0_1 aW0_2 aW0_3 aW0_4 aW0_5 aW0_6 aW0_7 aW0_8 aW0_9 aW0_10 aW0_11).2.2.2.2.2.1 (Pu.laws_toWorld.v aW0_0 aW0_1 aW0_2 aW0_3 aW0_4 aW0_5 aW0_6 aW0_7 aW0_8 aW0_9 aW0_10 aW0_11).2.2.2.2.2.2.1 (Pu.laws_toWorld.v aW0_0 aW0_1 aW0_2 aW0_3 aW0_4 aW0_5 aW0_6 aW0_7 aW0_8 aW0_9 aW0_10 aW0_11).2.2.2.2.2.2.2.1 (Pu.laws_toWorld.v aW0_0 aW0_1 aW0_2 aW0_3 aW0_4 aW0_5 aW0_6 aW0_7 aW0_8 aW0_9 aW0_10 aW0_11).2.2.2.2.2.2.2.2.1 (Pu.laws_toWorld.v aW0_0 aW0_1 aW0_2 aW0_3 aW0_4 aW0_5 aW0_6 aW0_7 aW0_8 aW0_9 aW0_10 aW0_11).2.2.2.2.2.2.2.2.2.1 (Pu.laws_toWorld.v aW0_0 aW0_1 aW0_2 aW0_3 aW0_4 aW0_5 aW0_6 aW0_7 aW0_8 aW0_9 aW0_10 aW0_11).2.2.2.2.2.2.2.2.2.2.1 (Pu.laws_toWorld.v aW0_0 aW0_1 aW0_2 aW0_3 aW0_4 aW0_5 aW0_6 aW0_7 aW0_8 aW0_9 aW0_10 aW0_11).2.2.2.2.2.2.2.2.2.2.2 (Pu.laws_toWorld.v aW0_0 aW0_1 aW0_2 aW0_3 aW0_4 aW0_5 aW0_6 aW0_7 aW0_8 aW0_9 aW0_10 aW0_11).1 (Pu.laws_toWorld.v aW0_0 aW0_1 aW0_2 aW0_3 aW0_4 aW0_5 aW0_6 aW0_7 aW0_8 aW0_9 aW0_10 aW0_11).2.1 (Pu.laws_toWorld.v aW0_0 aW0_1 aW0_2 aW0_3 aW0_4 aW0_5 aW0_6 aW0_7 aW0_8 aW0_9 aW0_10 aW0_11).2.2.1 (Pu.laws_toWorld.v aW0_0 aW0_1 aW0_2 aW0_3 aW0_4 aW0_5 aW0_6 aW0_7 aW0_8 aW0_9 aW0_10 aW0_11).2.2.2.1 (Pu.laws_toWorld.v aW0_0 aW0_1 aW0_2 aW0_3 aW0_4 aW0_5 aW0_6 aW0_7 aW0_8 aW0_9 aW0_10 aW0_11).2.2.2.2.1 (Pu.laws_toWorld.v aW0_0 aW0_1 aW0_2 aW0_3 aW0_4 aW0_5 aW0_6 aW0_7 aW0_8 aW0_9 aW0_10 aW0_11).2.2.2.2.2.1 (Pu.laws_toWorld.v aW0_0 aW0_1 aW0_2 aW0_3 aW0_4 aW0_5 aW0_6 aW0_7 aW0_8 aW0_9 aW0_10 aW0_11).2.2.2.2.2.2.1 (Pu.laws_toWorld.v aW0_0 aW0_1 aW0_2 aW0_3 aW0_4 aW0_5 aW0_6 aW0_7 aW0_8 aW0_9 aW0_10 aW0_11).2.2.2.2.2.2.2.1 (Pu.laws_toWorld.v aW0_0 aW0_1 aW0_2 aW0_3 aW0_4 aW0_5 aW0_6 aW0_7 aW0_8 aW0_9 aW0_10 aW0_11).2.2.2.2.2.2.2.2.1 (Pu.laws_toWorld.v aW0_0 aW0_1 aW0_2 aW0_3 aW0_4 aW0_5 aW0_6 aW0_7 aW0_8 aW0_9 aW0_10 aW0_11).2.2.2.2.2.2.2.2.2.1 (Pu.laws_toWorld.v aW0_0 aW0_1 aW0_2 aW0_3 aW0_4 aW0_5 aW0_6 aW0_7 aW0_8 aW0_9 aW0_10 aW0_11).2.2.2.2.2.2.2.2.2.2.1 (Pu.laws_toWorld.v aW0_0 aW0_1 aW0_2 aW0_3 aW0_4 aW0_5 aW0_6 aW0_7 aW0_8 aW0_9 aW0_10 aW0_11).2.2.2.2.2.2.2.2.2.2.2) then (kr false) else (kr true)) else (none)) else (none))) else (none)) else (none)) else (none)) else (none))) else (none)
theorem b_bind {R : Type} (kr : Bool → Option R) (aW0_0 : Int) (aW0_1 : Row) (aW0_2 : Row) (aW0_3 : Row) (aW0_4 : Row) (aW0_5 : Int) (aW0_6 : Row) (aW0_7 : Row) (aW0_8 : Int) (aW0_9 : Row) (aW0_10 : Row) (aW0_11 : Row) : b kr aW0_0 aW0_1 aW0_2 aW0_3 aW0_4 aW0_5 aW0_6 aW0_7 aW0_8 aW0_9 aW0_10 aW0_11 = Option.bind (b (fun r0 => some (r0)) aW0_0 aW0_1 aW0_2 aW0_3 aW0_4 aW0_5 aW0_6 aW0_7 aW0_8 aW0_9 aW0_10 aW0_11) (fun p => kr p) := by
  unfold b; simp only [Lib.cond_bind, Lib.some_bind, Lib.none_bind]
def vo (aW0_0 : Int) (aW0_1 : Row) (aW0_2 : Row) (aW0_3 : Row) (aW0_4 : Row) (aW0_5 : Int) (aW0_6 : Row) (aW0_7 : Row) (aW0_8 : Int) (aW0_9 : Row) (aW0_10 : Row) (aW0_11 : Row) : Option (Bool) := b (fun r0 => some (r0)) aW0_0 aW0_1 aW0_2 aW0_3 aW0_4 aW0_5 aW0_6 aW0_7 aW0_8 aW0_9 aW0_10 aW0_11
def c (aW0_0 : Int) (aW0_1 : Row) (aW0_2 : Row) (aW0_3 : Row) (aW0_4 : Row) (aW0_5 : Int) (aW0_6 : Row) (aW0_7 : Row) (aW0_8 : Int) (aW0_9 : Row) (aW0_10 : Row) (aW0_11 : Row) : Bool := Option.isSome (vo aW0_0 aW0_1 aW0_2 aW0_3 aW0_4 aW0_5 aW0_6 aW0_7 aW0_8 aW0_9 aW0_10 aW0_11)
def v (aW0_0 : Int) (aW0_1 : Row) (aW0_2 : Row) (aW0_3 : Row) (aW0_4 : Row) (aW0_5 : Int) (aW0_6 : Row) (aW0_7 : Row) (aW0_8 : Int) (aW0_9 : Row) (aW0_10 : Row) (aW0_11 : Row) : Bool := Option.getD (vo aW0_0 aW0_1 aW0_2 aW0_3 aW0_4 aW0_5 aW0_6 aW0_7 aW0_8 aW0_9 aW0_10 aW0_11) (false)
theorem out (aW0_0 : Int) (aW0_1 : Row) (aW0_2 : Row) (aW0_3 : Row) (aW0_4 : Row) (aW0_5 : Int) (aW0_6 : Row) (aW0_7 : Row) (aW0_8 : Int) (aW0_9 : Row) (aW0_10 : Row) (aW0_11 : Row) {x : Bool} (h : vo aW0_0 aW0_1 aW0_2 aW0_3 aW0_4 aW0_5 aW0_6 aW0_7 aW0_8 aW0_9 aW0_10 aW0_11 = some x) : c aW0_0 aW0_1 aW0_2 aW0_3 aW0_4 aW0_5 aW0_6 aW0_7 aW0_8 aW0_9 aW0_10 aW0_11 = true ∧ v aW0_0 aW0_1 aW0_2 aW0_3 aW0_4 aW0_5 aW0_6 aW0_7 aW0_8 aW0_9 aW0_10 aW0_11 = x := by
  unfold c v; rw [h]; exact ⟨rfl, rfl⟩
theorem b_eq {R : Type} (kr : Bool → Option R) (aW0_0 : Int) (aW0_1 : Row) (aW0_2 : Row) (aW0_3 : Row) (aW0_4 : Row) (aW0_5 : Int) (aW0_6 : Row) (aW0_7 : Row) (aW0_8 : Int) (aW0_9 : Row) (aW0_10 : Row) (aW0_11 : Row) (hc : c aW0_0 aW0_1 aW0_2 aW0_3 aW0_4 aW0_5 aW0_6 aW0_7 aW0_8 aW0_9 aW0_10 aW0_11 = true) : b kr aW0_0 aW0_1 aW0_2 aW0_3 aW0_4 aW0_5 aW0_6 aW0_7 aW0_8 aW0_9 aW0_10 aW0_11 = kr (v aW0_0 aW0_1 aW0_2 aW0_3 aW0_4 aW0_5 aW0_6 aW0_7 aW0_8 aW0_9 aW0_10 aW0_11) := by
  rw [b_bind]
  have e : vo aW0_0 aW0_1 aW0_2 aW0_3 aW0_4 aW0_5 aW0_6 aW0_7 aW0_8 aW0_9 aW0_10 aW0_11 = some (v aW0_0 aW0_1 aW0_2 aW0_3 aW0_4 aW0_5 aW0_6 aW0_7 aW0_8 aW0_9 aW0_10 aW0_11) := by
    unfold c at hc; unfold v
    cases h : vo aW0_0 aW0_1 aW0_2 aW0_3 aW0_4 aW0_5 aW0_6 aW0_7 aW0_8 aW0_9 aW0_10 aW0_11 with
    | none => rw [h] at hc; cases hc
    | some x => rfl
  unfold vo at e
  rw [e]; rfl
end Go.FG.Pu.laws_FnExactStoredRight

