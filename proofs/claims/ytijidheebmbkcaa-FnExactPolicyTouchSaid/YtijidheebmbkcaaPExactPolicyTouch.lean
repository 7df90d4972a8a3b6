/- Functions of the program, told as functions of numbers, texts and lists, and what each comes to. No condition but those that each states. -/
import Derived.Test.YtijidheebmbkcaaLib
set_option linter.unusedVariables false
set_option linter.unusedSimpArgs false
set_option maxRecDepth 100000
namespace Go.FG.Pu.laws_szStringS
def r5 {R : Type} (N : Nat) (g : Row → Int → Int → Int → Option R) (k0 : Row → Int → Int → Int → Option R) (k1 : Row → Int → Int → Int → Option R) (x0 : Row) (x1 : Int) (x2 : Int) (x3 : Int) : Option R := bif (decide (x3 < (↑(List.length x0) : Int))) then (bif (decide (0 ≤ x3) && decide (x3 < (↑(List.length x0) : Int))) then (bif (decide (w64 (x1 - (↑(ByteArray.size (cvS (cellAt x0 (Int.toNat x3) 0))) : Int)) < 0)) then (k0 x0 (w64 (x1 - (↑(ByteArray.size (cvS (cellAt x0 (Int.toNat x3) 0))) : Int))) (-1) x3) else (g x0 (w64 (x1 - (↑(ByteArray.size (cvS (cellAt x0 (Int.toNat x3) 0))) : Int))) x2 (w64 (x3 + 1)))) else (none)) else (k1 x0 x1 x2 x3)
def l5 {R : Type} (N : Nat) (k0 : Row → Int → Int → Int → Option R) (k1 : Row → Int → Int → Int → Option R) : Nat → Row → Int → Int → Int → Option R
  | 0 => (fun _ _ _ _ => none)
  | n + 1 => (fun x0 x1 x2 x3 => r5 N (l5 N k0 k1 n) k0 k1 x0 x1 x2 x3)
def b {R : Type} (N : Nat) (kr : Int → Option R) (a0 : Row) (left1 : Int) : Option R := bif (decide (w64 (left1 - (↑(List.length a0) : Int)) < 0)) then (kr (-1)) else (l5 N (fun y4 y5 y6 y7 => kr y6) (fun y8 y9 y10 y11 => kr y9) N a0 (w64 (left1 - (↑(List.length a0) : Int))) 0 0)
theorem q5_bind {R S : Type} (f : R → Option S) (N : Nat) (k0 : Row → Int → Int → Int → Option R) (k1 : Row → Int → Int → Int → Option R) : ∀ n : Nat, (∀ (x0 : Row) (x1 : Int) (x2 : Int) (x3 : Int), Option.bind (l5 N k0 k1 n x0 x1 x2 x3) f = l5 N (fun y0 y1 y2 y3 => (Option.bind (k0 y0 y1 y2 y3) f)) (fun y0 y1 y2 y3 => (Option.bind (k1 y0 y1 y2 y3) f)) n x0 x1 x2 x3) := by
  intro n
  induction n with
  | zero => exact (fun _ _ _ _ => rfl)
  | succ n ih =>
    intro x0 x1 x2 x3
    simp only [l5, r5, Lib.cond_bind, Lib.some_bind, Lib.none_bind, ih]
theorem l5_bind {R S : Type} (f : R → Option S) (N : Nat) (k0 : Row → Int → Int → Int → Option R) (k1 : Row → Int → Int → Int → Option R) (n : Nat) (x0 : Row) (x1 : Int) (x2 : Int) (x3 : Int) : Option.bind (l5 N k0 k1 n x0 x1 x2 x3) f = l5 N (fun y0 y1 y2 y3 => (Option.bind (k0 y0 y1 y2 y3) f)) (fun y0 y1 y2 y3 => (Option.bind (k1 y0 y1 y2 y3) f)) n x0 x1 x2 x3 := (q5_bind f N k0 k1 n) x0 x1 x2 x3
theorem b_bind {R : Type} (N : Nat) (kr : Int → Option R) (a0 : Row) (left1 : Int) : b N kr a0 left1 = Option.bind (b N (fun r0 => some (r0)) a0 left1) (fun p => kr p) := by
  unfold b; simp only [Lib.cond_bind, Lib.some_bind, Lib.none_bind, l5_bind]
def vo (a0 : Row) (left1 : Int) : Option (Int) := b Lib.big (fun r0 => some (r0)) a0 left1
def c (a0 : Row) (left1 : Int) : Bool := Option.isSome (vo a0 left1)
def v (a0 : Row) (left1 : Int) : Int := Option.getD (vo a0 left1) (0)
theorem out (a0 : Row) (left1 : Int) {x : Int} (h : vo a0 left1 = some x) : c a0 left1 = true ∧ v a0 left1 = x := by
  unfold c v; rw [h]; exact ⟨rfl, rfl⟩
theorem b_eq {R : Type} (kr : Int → Option R) (a0 : Row) (left1 : Int) (hc : c a0 left1 = true) : ∃ N, b N kr a0 left1 = kr (v a0 left1) := by
  refine ⟨Lib.big, ?_⟩
  rw [b_bind]
  have e : vo a0 left1 = some (v a0 left1) := by
    unfold c at hc; unfold v
    cases h : vo a0 left1 with
    | none => rw [h] at hc; cases hc
    | some x => rfl
  unfold vo at e
  rw [e]; rfl
end Go.FG.Pu.laws_szStringS

namespace Go.FG.Pu.laws_szIntS
def b {R : Type} (kr : Int → Option R) (a0 : Row) (left1 : Int) : Option R := bif (decide (w64 (left1 - (↑(List.length a0) : Int)) < 0)) then (kr (-1)) else (kr (w64 (left1 - (↑(List.length a0) : Int))))
def v (a0 : Row) (left1 : Int) : Int := bif (decide (w64 (left1 - (↑(List.length a0) : Int)) < 0)) then (((-1))) else (((w64 (left1 - (↑(List.length a0) : Int)))))
theorem b_eq {R : Type} (kr : Int → Option R) (a0 : Row) (left1 : Int) : b kr a0 left1 = kr (v a0 left1) := by
  first | rfl | (unfold b v; simp only [Bool.cond_eq_ite]; (repeat' split) <;> rfl)
theorem fits {a : Row} {L : Int} (h0 : 0 ≤ L) (h1 : L ≤ 1048576) (ha : FitR a) (h : decide (v a L < 0) = false) : a.length ≤ 1048576 ∧ v a L = L - a.length := by
  have e := Lib.sub_len h0 h1 ha.1
  unfold v at h ⊢
  rw [e] at h ⊢
  by_cases hc : L - (a.length : Int) < 0
  · rw [decide_eq_true hc] at h; cases h
  · rw [decide_eq_false hc]; exact ⟨by omega, rfl⟩
end Go.FG.Pu.laws_szIntS

namespace Go.FG.Pu.laws_szIntSS
def r5 {R : Type} (N : Nat) (g : Row → Int → Int → Int → Option R) (k0 : Row → Int → Int → Int → Option R) (k1 : Row → Int → Int → Int → Option R) (x0 : Row) (x1 : Int) (x2 : Int) (x3 : Int) : Option R := bif (decide (x3 < (↑(List.length x0) : Int))) then (bif (decide (0 ≤ x3) && decide (x3 < (↑(List.length x0) : Int))) then (bif (decide (Pu.laws_szIntS.v (cvL (cellAt x0 (Int.toNat x3) 0)) x1 < 0)) then (k0 x0 (Pu.laws_szIntS.v (cvL (cellAt x0 (Int.toNat x3) 0)) x1) (-1) x3) else (g x0 (Pu.laws_szIntS.v (cvL (cellAt x0 (Int.toNat x3) 0)) x1) x2 (w64 (x3 + 1)))) else (none)) else (k1 x0 x1 x2 x3)
def l5 {R : Type} (N : Nat) (k0 : Row → Int → Int → Int → Option R) (k1 : Row → Int → Int → Int → Option R) : Nat → Row → Int → Int → Int → Option R
  | 0 => (fun _ _ _ _ => none)
  | n + 1 => (fun x0 x1 x2 x3 => r5 N (l5 N k0 k1 n) k0 k1 x0 x1 x2 x3)
def b {R : Type} (N : Nat) (kr : Int → Option R) (a0 : Row) (left1 : Int) : Option R := bif (decide (w64 (left1 - (↑(List.length a0) : Int)) < 0)) then (kr (-1)) else (l5 N (fun y4 y5 y6 y7 => kr y6) (fun y8 y9 y10 y11 => kr y9) N a0 (w64 (left1 - (↑(List.length a0) : Int))) 0 0)
theorem q5_bind {R S : Type} (f : R → Option S) (N : Nat) (k0 : Row → Int → Int → Int → Option R) (k1 : Row → Int → Int → Int → Option R) : ∀ n : Nat, (∀ (x0 : Row) (x1 : Int) (x2 : Int) (x3 : Int), Option.bind (l5 N k0 k1 n x0 x1 x2 x3) f = l5 N (fun y0 y1 y2 y3 => (Option.bind (k0 y0 y1 y2 y3) f)) (fun y0 y1 y2 y3 => (Option.bind (k1 y0 y1 y2 y3) f)) n x0 x1 x2 x3) := by
  intro n
  induction n with
  | zero => exact (fun _ _ _ _ => rfl)
  | succ n ih =>
    intro x0 x1 x2 x3
    simp only [l5, r5, Lib.cond_bind, Lib.some_bind, Lib.none_bind, ih]
theorem l5_bind {R S : Type} (f : R → Option S) (N : Nat) (k0 : Row → Int → Int → Int → Option R) (k1 : Row → Int → Int → Int → Option R) (n : Nat) (x0 : Row) (x1 : Int) (x2 : Int) (x3 : Int) : Option.bind (l5 N k0 k1 n x0 x1 x2 x3) f = l5 N (fun y0 y1 y2 y3 => (Option.bind (k0 y0 y1 y2 y3) f)) (fun y0 y1 y2 y3 => (Option.bind (k1 y0 y1 y2 y3) f)) n x0 x1 x2 x3 := (q5_bind f N k0 k1 n) x0 x1 x2 x3
theorem b_bind {R : Type} (N : Nat) (kr : Int → Option R) (a0 : Row) (left1 : Int) : b N kr a0 left1 = Option.bind (b N (fun r0 => some (r0)) a0 left1) (fun p => kr p) := by
  unfold b; simp only [Lib.cond_bind, Lib.some_bind, Lib.none_bind, l5_bind]
def vo (a0 : Row) (left1 : Int) : Option (Int) := b Lib.big (fun r0 => some (r0)) a0 left1
def c (a0 : Row) (left1 : Int) : Bool := Option.isSome (vo a0 left1)
def v (a0 : Row) (left1 : Int) : Int := Option.getD (vo a0 left1) (0)
theorem out (a0 : Row) (left1 : Int) {x : Int} (h : vo a0 left1 = some x) : c a0 left1 = true ∧ v a0 left1 = x := by
  unfold c v; rw [h]; exact ⟨rfl, rfl⟩
theorem b_eq {R : Type} (kr : Int → Option R) (a0 : Row) (left1 : Int) (hc : c a0 left1 = true) : ∃ N, b N kr a0 left1 = kr (v a0 left1) := by
  refine ⟨Lib.big, ?_⟩
  rw [b_bind]
  have e : vo a0 left1 = some (v a0 left1) := by
    unfold c at hc; unfold v
    cases h : vo a0 left1 with
    | none => rw [h] at hc; cases hc
    | some x => rfl
  unfold vo at e
  rw [e]; rfl
end Go.FG.Pu.laws_szIntSS

namespace Go.FG.Pu.laws_szSketch
def b {R : Type} (kr : Int → Option R) (a0_0 : Row) (a0_1 : Int) (left1 : Int) : Option R := bif (Pu.laws_szIntSS.c a0_0 left1) then (bif (decide (Pu.laws_szIntSS.v a0_0 left1 < 0)) then (kr (-1)) else (kr (Pu.laws_szIntSS.v a0_0 left1))) else (none)
theorem b_bind {R : Type} (kr : Int → Option R) (a0_0 : Row) (a0_1 : Int) (left1 : Int) : b kr a0_0 a0_1 left1 = Option.bind (b (fun r0 => some (r0)) a0_0 a0_1 left1) (fun p => kr p) := by
  unfold b; simp only [Lib.cond_bind, Lib.some_bind, Lib.none_bind]
def vo (a0_0 : Row) (a0_1 : Int) (left1 : Int) : Option (Int) := b (fun r0 => some (r0)) a0_0 a0_1 left1
def c (a0_0 : Row) (a0_1 : Int) (left1 : Int) : Bool := Option.isSome (vo a0_0 a0_1 left1)
def v (a0_0 : Row) (a0_1 : Int) (left1 : Int) : Int := Option.getD (vo a0_0 a0_1 left1) (0)
theorem out (a0_0 : Row) (a0_1 : Int) (left1 : Int) {x : Int} (h : vo a0_0 a0_1 left1 = some x) : c a0_0 a0_1 left1 = true ∧ v a0_0 a0_1 left1 = x := by
  unfold c v; rw [h]; exact ⟨rfl, rfl⟩
theorem b_eq {R : Type} (kr : Int → Option R) (a0_0 : Row) (a0_1 : Int) (left1 : Int) (hc : c a0_0 a0_1 left1 = true) : b kr a0_0 a0_1 left1 = kr (v a0_0 a0_1 left1) := by
  rw [b_bind]
  have e : vo a0_0 a0_1 left1 = some (v a0_0 a0_1 left1) := by
    unfold c at hc; unfold v
    cases h : vo a0_0 a0_1 left1 with
    | none => rw [h] at hc; cases hc
    | some x => rfl
  unfold vo at e
  rw [e]; rfl
end Go.FG.Pu.laws_szSketch

namespace Go.FG.Pu.laws_szPolicy
def b {R : Type} (kr : Int → Option R) (a0_0 : Row) (a0_1 : Row) (a0_2 : Row) (a0_3 : Int) (left1 : Int) : Option R := bif (Pu.laws_szStringS.c a0_0 left1) then (bif (decide (Pu.laws_szStringS.v a0_0 left1 < 0)) then (kr (-1)) else (bif (Pu.laws_szStringS.c a0_1 (Pu.laws_szStringS.v a0_0 left1)) then (bif (decide (Pu.laws_szStringS.v a0_1 (Pu.laws_szStringS.v a0_0 left1) < 0)) then (kr (-1)) else (bif (Pu.laws_szSketch.c a0_2 a0_3 (Pu.laws_szStringS.v a0_1 (Pu.laws_szStringS.v a0_0 left1))) then (bif (decide (Pu.laws_szSketch.v a0_2 a0_3 (Pu.laws_szStringS.v a0_1 (Pu.laws_szStringS.v a0_0 left1)) < 0)) then (kr (-1)) else (kr (Pu.laws_szSketch.v a0_2 a0_3 (Pu.laws_szStringS.v a0_1 (Pu.laws_szStringS.v a0_0 left1))))) else (none))) else (none))) else (none)
theorem b_bind {R : Type} (kr : Int → Option R) (a0_0 : Row) (a0_1 : Row) (a0_2 : Row) (a0_3 : Int) (left1 : Int) : b kr a0_0 a0_1 a0_2 a0_3 left1 = Option.bind (b (fun r0 => some (r0)) a0_0 a0_1 a0_2 a0_3 left1) (fun p => kr p) := by
  unfold b; simp only [Lib.cond_bind, Lib.some_bind, Lib.none_bind]
def vo (a0_0 : Row) (a0_1 : Row) (a0_2 : Row) (a0_3 : Int) (left1 : Int) : Option (Int) := b (fun r0 => some (r0)) a0_0 a0_1 a0_2 a0_3 left1
def c (a0_0 : Row) (a0_1 : Row) (a0_2 : Row) (a0_3 : Int) (left1 : Int) : Bool := Option.isSome (vo a0_0 a0_1 a0_2 a0_3 left1)
def v (a0_0 : Row) (a0_1 : Row) (a0_2 : Row) (a0_3 : Int) (left1 : Int) : Int := Option.getD (vo a0_0 a0_1 a0_2 a0_3 left1) (0)
theorem out (a0_0 : Row) (a0_1 : Row) (a0_2 : Row) (a0_3 : Int) (left1 : Int) {x : Int} (h : vo a0_0 a0_1 a0_2 a0_3 left1 = some x) : c a0_0 a0_1 a0_2 a0_3 left1 = true ∧ v a0_0 a0_1 a0_2 a0_3 left1 = x := by
  unfold c v; rw [h]; exact ⟨rfl, rfl⟩
theorem b_eq {R : Type} (kr : Int → Option R) (a0_0 : Row) (a0_1 : Row) (a0_2 : Row) (a0_3 : Int) (left1 : Int) (hc : c a0_0 a0_1 a0_2 a0_3 left1 = true) : b kr a0_0 a0_1 a0_2 a0_3 left1 = kr (v a0_0 a0_1 a0_2 a0_3 left1) := by
  rw [b_bind]
  have e : vo a0_0 a0_1 a0_2 a0_3 left1 = some (v a0_0 a0_1 a0_2 a0_3 left1) := by
    unfold c at hc; unfold v
    cases h : vo a0_0 a0_1 a0_2 a0_3 left1 with
    | none => rw [h] at hc; cases hc
    | some x => rfl
  unfold vo at e
  rw [e]; rfl
end Go.FG.Pu.laws_szPolicy

namespace Go.FG.Pu.laws_toStringS
def r3 {R : Type} (N : Nat) (g : Row → Int → Row → Option R) (k0 : Row → Int → Row → Option R) (x0 : Row) (x1 : Int) (x2 : Row) : Option R := bif (decide (x1 < (↑(List.length x0) : Int))) then (bif (decide (0 ≤ x1) && decide (x1 < (↑(List.length x0) : Int))) then (bif (decide (0 ≤ x1) && decide (x1 < (↑(List.length x2) : Int))) then (g x0 (w64 (x1 + 1)) (setC x2 (Int.toNat x1) 0 [CV.s (cvS (cellAt x0 (Int.toNat x1) 0))])) else (none)) else (none)) else (k0 x0 x1 x2)
def l3 {R : Type} (N : Nat) (k0 : Row → Int → Row → Option R) : Nat → Row → Int → Row → Option R
  | 0 => (fun _ _ _ => none)
  | n + 1 => (fun x0 x1 x2 => r3 N (l3 N k0 n) k0 x0 x1 x2)
def b {R : Type} (N : Nat) (kr : Row → Option R) (a0 : Row) : Option R := bif (decide ((↑(List.length a0) : Int) = (↑(List.length a0) : Int)) && roomy (Int.toNat (↑(List.length a0) : Int)) 16) then (l3 N (fun y3 y4 y5 => kr y5) N a0 0 (zeros [Ck.s] (Int.toNat (↑(List.length a0) : Int)))) else (none)
theorem q3_bind {R S : Type} (f : R → Option S) (N : Nat) (k0 : Row → Int → Row → Option R) : ∀ n : Nat, (∀ (x0 : Row) (x1 : Int) (x2 : Row), Option.bind (l3 N k0 n x0 x1 x2) f = l3 N (fun y0 y1 y2 => (Option.bind (k0 y0 y1 y2) f)) n x0 x1 x2) := by
  intro n
  induction n with
  | zero => exact (fun _ _ _ => rfl)
  | succ n ih =>
    intro x0 x1 x2
    simp only [l3, r3, Lib.cond_bind, Lib.some_bind, Lib.none_bind, ih]
theorem l3_bind {R S : Type} (f : R → Option S) (N : Nat) (k0 : Row → Int → Row → Option R) (n : Nat) (x0 : Row) (x1 : Int) (x2 : Row) : Option.bind (l3 N k0 n x0 x1 x2) f = l3 N (fun y0 y1 y2 => (Option.bind (k0 y0 y1 y2) f)) n x0 x1 x2 := (q3_bind f N k0 n) x0 x1 x2
theorem b_bind {R : Type} (N : Nat) (kr : Row → Option R) (a0 : Row) : b N kr a0 = Option.bind (b N (fun r0 => some (r0)) a0) (fun p => kr p) := by
  unfold b; simp only [Lib.cond_bind, Lib.some_bind, Lib.none_bind, l3_bind]
def vo (a0 : Row) : Option (Row) := b Lib.big (fun r0 => some (r0)) a0
def c (a0 : Row) : Bool := Option.isSome (vo a0)
def v (a0 : Row) : Row := Option.getD (vo a0) ([])
theorem out (a0 : Row) {x : Row} (h : vo a0 = some x) : c a0 = true ∧ v a0 = x := by
  unfold c v; rw [h]; exact ⟨rfl, rfl⟩
theorem b_eq {R : Type} (kr : Row → Option R) (a0 : Row) (hc : c a0 = true) : ∃ N, b N kr a0 = kr (v a0) := by
  refine ⟨Lib.big, ?_⟩
  rw [b_bind]
  have e : vo a0 = some (v a0) := by
    unfold c at hc; unfold v
    cases h : vo a0 with
    | none => rw [h] at hc; cases hc
    | some x => rfl
  unfold vo at e
  rw [e]; rfl
end Go.FG.Pu.laws_toStringS

namespace Go.FG.Pu.laws_toIntS
def r3 {R : Type} (N : Nat) (g : Row → Int → Row → Option R) (k0 : Row → Int → Row → Option R) (x0 : Row) (x1 : Int) (x2 : Row) : Option R := bif (decide (x1 < (↑(List.length x0) : Int))) then (bif (decide (0 ≤ x1) && decide (x1 < (↑(List.length x0) : Int))) then (bif (decide (0 ≤ x1) && decide (x1 < (↑(List.length x2) : Int))) then (g x0 (w64 (x1 + 1)) (setC x2 (Int.toNat x1) 0 [CV.i IntKind.i64 (cvI (cellAt x0 (Int.toNat x1) 0))])) else (none)) else (none)) else (k0 x0 x1 x2)
def l3 {R : Type} (N : Nat) (k0 : Row → Int → Row → Option R) : Nat → Row → Int → Row → Option R
  | 0 => (fun _ _ _ => none)
  | n + 1 => (fun x0 x1 x2 => r3 N (l3 N k0 n) k0 x0 x1 x2)
def b {R : Type} (N : Nat) (kr : Row → Option R) (a0 : Row) : Option R := bif (decide ((↑(List.length a0) : Int) = (↑(List.length a0) : Int)) && roomy (Int.toNat (↑(List.length a0) : Int)) 8) then (l3 N (fun y3 y4 y5 => kr y5) N a0 0 (zeros [Ck.i IntKind.i64] (Int.toNat (↑(List.length a0) : Int)))) else (none)
/-- The rows' numbers, one for one. -/
def v (a0 : Row) : Row := a0.map fun y => [CV.i IntKind.i64 (cvI (y.getD 0 (.b false)))]
def c (a0 : Row) : Bool := decide (a0.length ≤ 1048576)
theorem b_eq {R : Type} (kr : Row → Option R) (a0 : Row) (hc : c a0 = true) : ∃ N, b N kr a0 = kr (v a0) := by
  have hl : a0.length ≤ 1048576 := of_decide_eq_true hc
  refine ⟨a0.length + 1, ?_⟩
  unfold b
  rw [show decide ((a0.length : Int) = (a0.length : Int)) = true by simp, Lib.toN, Lib.roomy_of (by omega) (by omega), Bool.and_self, cond_true]
  refine Lib.fill_run (ks := [Ck.i IntKind.i64]) (v a0) a0.length (by unfold v; simp) (fun y hy => ?_) (fun m (i : Nat) x => l3 (a0.length + 1) (fun _ _ y => kr y) m a0 i x) kr (fun m => ?_) (fun m i hi x hx => ?_)
  · unfold v at hy; obtain ⟨z, _, rfl⟩ := List.mem_map.1 hy; rfl
  · simp only [l3, r3, Lib.dlt, Nat.lt_irrefl, decide_false, cond_false]
  · have hi2 : i < x.length := by omega
    have e : (v a0).getD i [] = [CV.i IntKind.i64 (cvI (cellAt a0 i 0))] := by
      unfold v; simp [List.getD, hi, cellAt]
    simp only [l3, r3, Lib.dlt, Lib.dle0, Lib.toN, hi, hi2, decide_true, Bool.true_and, cond_true, Lib.w64_s hi (by omega), e]
end Go.FG.Pu.laws_toIntS

namespace Go.FG.Pu.laws_toIntSS
def r3 {R : Type} (N : Nat) (g : Row → Int → Row → Option R) (k0 : Row → Int → Row → Option R) (x0 : Row) (x1 : Int) (x2 : Row) : Option R := bif (decide (x1 < (↑(List.length x0) : Int))) then (bif (decide (0 ≤ x1) && decide (x1 < (↑(List.length x0) : Int))) then (bif (Pu.laws_toIntS.c (cvL (cellAt x0 (Int.toNat x1) 0))) then (bif (decide (0 ≤ x1) && decide (x1 < (↑(List.length x2) : Int))) then (g x0 (w64 (x1 + 1)) (setC x2 (Int.toNat x1) 0 [CV.l 3 (Pu.laws_toIntS.v (cvL (cellAt x0 (Int.toNat x1) 0)))])) else (none)) else (none)) else (none)) else (k0 x0 x1 x2)
def l3 {R : Type} (N : Nat) (k0 : Row → Int → Row → Option R) : Nat → Row → Int → Row → Option R
  | 0 => (fun _ _ _ => none)
  | n + 1 => (fun x0 x1 x2 => r3 N (l3 N k0 n) k0 x0 x1 x2)
def b {R : Type} (N : Nat) (kr : Row → Option R) (a0 : Row) : Option R := bif (decide ((↑(List.length a0) : Int) = (↑(List.length a0) : Int)) && roomy (Int.toNat (↑(List.length a0) : Int)) 24) then (l3 N (fun y3 y4 y5 => kr y5) N a0 0 (zeros [Ck.l 3] (Int.toNat (↑(List.length a0) : Int)))) else (none)
theorem q3_bind {R S : Type} (f : R → Option S) (N : Nat) (k0 : Row → Int → Row → Option R) : ∀ n : Nat, (∀ (x0 : Row) (x1 : Int) (x2 : Row), Option.bind (l3 N k0 n x0 x1 x2) f = l3 N (fun y0 y1 y2 => (Option.bind (k0 y0 y1 y2) f)) n x0 x1 x2) := by
  intro n
  induction n with
  | zero => exact (fun _ _ _ => rfl)
  | succ n ih =>
    intro x0 x1 x2
    simp only [l3, r3, Lib.cond_bind, Lib.some_bind, Lib.none_bind, ih]
theorem l3_bind {R S : Type} (f : R → Option S) (N : Nat) (k0 : Row → Int → Row → Option R) (n : Nat) (x0 : Row) (x1 : Int) (x2 : Row) : Option.bind (l3 N k0 n x0 x1 x2) f = l3 N (fun y0 y1 y2 => (Option.bind (k0 y0 y1 y2) f)) n x0 x1 x2 := (q3_bind f N k0 n) x0 x1 x2
theorem b_bind {R : Type} (N : Nat) (kr : Row → Option R) (a0 : Row) : b N kr a0 = Option.bind (b N (fun r0 => some (r0)) a0) (fun p => kr p) := by
  unfold b; simp only [Lib.cond_bind, Lib.some_bind, Lib.none_bind, l3_bind]
def vo (a0 : Row) : Option (Row) := b Lib.big (fun r0 => some (r0)) a0
def c (a0 : Row) : Bool := Option.isSome (vo a0)
def v (a0 : Row) : Row := Option.getD (vo a0) ([])
theorem out (a0 : Row) {x : Row} (h : vo a0 = some x) : c a0 = true ∧ v a0 = x := by
  unfold c v; rw [h]; exact ⟨rfl, rfl⟩
theorem b_eq {R : Type} (kr : Row → Option R) (a0 : Row) (hc : c a0 = true) : ∃ N, b N kr a0 = kr (v a0) := by
  refine ⟨Lib.big, ?_⟩
  rw [b_bind]
  have e : vo a0 = some (v a0) := by
    unfold c at hc; unfold v
    cases h : vo a0 with
    | none => rw [h] at hc; cases hc
    | some x => rfl
  unfold vo at e
  rw [e]; rfl
end Go.FG.Pu.laws_toIntSS

namespace Go.FG.Pu.laws_toSketch
def b {R : Type} (kr : Row → Int → Option R) (a0_0 : Row) (a0_1 : Int) : Option R := bif (Pu.laws_toIntSS.c a0_0) then (kr (Pu.laws_toIntSS.v a0_0) a0_1) else (none)
theorem b_bind {R : Type} (kr : Row → Int → Option R) (a0_0 : Row) (a0_1 : Int) : b kr a0_0 a0_1 = Option.bind (b (fun r0 r1 => some (r0, r1)) a0_0 a0_1) (fun p => kr p.1 p.2) := by
  unfold b; simp only [Lib.cond_bind, Lib.some_bind, Lib.none_bind]
def vo (a0_0 : Row) (a0_1 : Int) : Option (Row × Int) := b (fun r0 r1 => some (r0, r1)) a0_0 a0_1
def c (a0_0 : Row) (a0_1 : Int) : Bool := Option.isSome (vo a0_0 a0_1)
def v (a0_0 : Row) (a0_1 : Int) : Row × Int := Option.getD (vo a0_0 a0_1) ([], 0)
theorem out (a0_0 : Row) (a0_1 : Int) {x : Row × Int} (h : vo a0_0 a0_1 = some x) : c a0_0 a0_1 = true ∧ v a0_0 a0_1 = x := by
  unfold c v; rw [h]; exact ⟨rfl, rfl⟩
theorem b_eq {R : Type} (kr : Row → Int → Option R) (a0_0 : Row) (a0_1 : Int) (hc : c a0_0 a0_1 = true) : b kr a0_0 a0_1 = kr ((v a0_0 a0_1).1) ((v a0_0 a0_1).2) := by
  rw [b_bind]
  have e : vo a0_0 a0_1 = some (v a0_0 a0_1) := by
    unfold c at hc; unfold v
    cases h : vo a0_0 a0_1 with
    | none => rw [h] at hc; cases hc
    | some x => rfl
  unfold vo at e
  rw [e]; rfl
end Go.FG.Pu.laws_toSketch

namespace Go.FG.Pu.laws_toPolicy
def b {R : Type} (kr : Row → Row → Row → Int → Option R) (a0_0 : Row) (a0_1 : Row) (a0_2 : Row) (a0_3 : Int) : Option R := bif (Pu.laws_toStringS.c a0_0) then (bif (Pu.laws_toStringS.c a0_1) then (bif (Pu.laws_toSketch.c a0_2 a0_3) then (kr (Pu.laws_toStringS.v a0_0) (Pu.laws_toStringS.v a0_1) ((Pu.laws_toSketch.v a0_2 a0_3).1) ((Pu.laws_toSketch.v a0_2 a0_3).2)) else (none)) else (none)) else (none)
theorem b_bind {R : Type} (kr : Row → Row → Row → Int → Option R) (a0_0 : Row) (a0_1 : Row) (a0_2 : Row) (a0_3 : Int) : b kr a0_0 a0_1 a0_2 a0_3 = Option.bind (b (fun r0 r1 r2 r3 => some (r0, r1, r2, r3)) a0_0 a0_1 a0_2 a0_3) (fun p => kr p.1 p.2.1 p.2.2.1 p.2.2.2) := by
  unfold b; simp only [Lib.cond_bind, Lib.some_bind, Lib.none_bind]
def vo (a0_0 : Row) (a0_1 : Row) (a0_2 : Row) (a0_3 : Int) : Option (Row × Row × Row × Int) := b (fun r0 r1 r2 r3 => some (r0, r1, r2, r3)) a0_0 a0_1 a0_2 a0_3
def c (a0_0 : Row) (a0_1 : Row) (a0_2 : Row) (a0_3 : Int) : Bool := Option.isSome (vo a0_0 a0_1 a0_2 a0_3)
def v (a0_0 : Row) (a0_1 : Row) (a0_2 : Row) (a0_3 : Int) : Row × Row × Row × Int := Option.getD (vo a0_0 a0_1 a0_2 a0_3) ([], [], [], 0)
theorem out (a0_0 : Row) (a0_1 : Row) (a0_2 : Row) (a0_3 : Int) {x : Row × Row × Row × Int} (h : vo a0_0 a0_1 a0_2 a0_3 = some x) : c a0_0 a0_1 a0_2 a0_3 = true ∧ v a0_0 a0_1 a0_2 a0_3 = x := by
  unfold c v; rw [h]; exact ⟨rfl, rfl⟩
theorem b_eq {R : Type} (kr : Row → Row → Row → Int → Option R) (a0_0 : Row) (a0_1 : Row) (a0_2 : Row) (a0_3 : Int) (hc : c a0_0 a0_1 a0_2 a0_3 = true) : b kr a0_0 a0_1 a0_2 a0_3 = kr ((v a0_0 a0_1 a0_2 a0_3).1) ((v a0_0 a0_1 a0_2 a0_3).2.1) ((v a0_0 a0_1 a0_2 a0_3).2.2.1) ((v a0_0 a0_1 a0_2 a0_3).2.2.2) := by
  rw [b_bind]
  have e : vo a0_0 a0_1 a0_2 a0_3 = some (v a0_0 a0_1 a0_2 a0_3) := by
    unfold c at hc; unfold v
    cases h : vo a0_0 a0_1 a0_2 a0_3 with
    | none => rw [h] at hc; cases hc
    | some x => rfl
  unfold vo at e
  rw [e]; rfl
end Go.FG.Pu.laws_toPolicy

namespace Go.FG.Pu.spec_l12Copy
def r3 {R : Type} (N : Nat) (g : Int → Row → Int → Int → Int → Option R) (g1 : Int → Row → Int → Int → Int → Row → Option R) (k0 : Int → Row → Int → Int → Int → Option R) (k1 : Int → Row → Int → Int → Int → Row → Option R) (x0 : Int) (x1 : Row) (x2 : Int) (x3 : Int) (x4 : Int) : Option R := bif (decide (x0 < (↑(List.length x1) : Int))) then (bif (decide (0 ≤ x0) && decide (x0 < (↑(List.length x1) : Int))) then (bif (roomy (List.length (zeros [Ck.i IntKind.i64] 0) + List.length (cvL (cellAt x1 (Int.toNat x0) 0))) 8) then (g1 (w64 (x0 + 1)) x1 x2 x3 x4 ([] ++ List.set (zeros [Ck.l 3] 1) 0 [CV.l 3 (zeros [Ck.i IntKind.i64] 0 ++ cvL (cellAt x1 (Int.toNat x0) 0))])) else (none)) else (none)) else (k0 x0 x1 x2 x3 x4)
def r3a {R : Type} (N : Nat) (g : Int → Row → Int → Int → Int → Option R) (g1 : Int → Row → Int → Int → Int → Row → Option R) (k0 : Int → Row → Int → Int → Int → Option R) (k1 : Int → Row → Int → Int → Int → Row → Option R) (x5 : Int) (x6 : Row) (x7 : Int) (x8 : Int) (x9 : Int) (x10 : Row) : Option R := bif (decide (x5 < (↑(List.length x6) : Int))) then (bif (decide (0 ≤ x5) && decide (x5 < (↑(List.length x6) : Int))) then (bif (roomy (List.length (zeros [Ck.i IntKind.i64] 0) + List.length (cvL (cellAt x6 (Int.toNat x5) 0))) 8) then (bif (roomy (List.length x10 + List.length (List.set (zeros [Ck.l 3] 1) 0 [CV.l 3 (zeros [Ck.i IntKind.i64] 0 ++ cvL (cellAt x6 (Int.toNat x5) 0))])) 24) then (g1 (w64 (x5 + 1)) x6 x7 x8 x9 (x10 ++ List.set (zeros [Ck.l 3] 1) 0 [CV.l 3 (zeros [Ck.i IntKind.i64] 0 ++ cvL (cellAt x6 (Int.toNat x5) 0))])) else (none)) else (none)) else (none)) else (k1 x5 x6 x7 x8 x9 x10)
def l3a {R : Type} (N : Nat) (k0 : Int → Row → Int → Int → Int → Option R) (k1 : Int → Row → Int → Int → Int → Row → Option R) : Nat → Int → Row → Int → Int → Int → Row → Option R
  | 0 => (fun _ _ _ _ _ _ => none)
  | n + 1 => (fun x5 x6 x7 x8 x9 x10 => r3a N (fun x0 x1 x2 x3 x4 => none) (l3a N k0 k1 n) k0 k1 x5 x6 x7 x8 x9 x10)
def l3 {R : Type} (N : Nat) (k0 : Int → Row → Int → Int → Int → Option R) (k1 : Int → Row → Int → Int → Int → Row → Option R) : Nat → Int → Row → Int → Int → Int → Option R
  | 0 => (fun _ _ _ _ _ => none)
  | n + 1 => (fun x0 x1 x2 x3 x4 => r3 N (l3 N k0 k1 n) (l3a N k0 k1 n) k0 k1 x0 x1 x2 x3 x4)
def b {R : Type} (N : Nat) (kr : Row → Int → Option R) (s0_0 : Row) (s0_1 : Int) : Option R := l3 N (fun y11 y12 y13 y14 y15 => kr [] y15) (fun y16 y17 y18 y19 y20 y21 => kr y21 y20) N 0 s0_0 s0_1 0 s0_1
theorem q3_bind {R S : Type} (f : R → Option S) (N : Nat) (k0 : Int → Row → Int → Int → Int → Option R) (k1 : Int → Row → Int → Int → Int → Row → Option R) : ∀ n : Nat, (∀ (x0 : Int) (x1 : Row) (x2 : Int) (x3 : Int) (x4 : Int), Option.bind (l3 N k0 k1 n x0 x1 x2 x3 x4) f = l3 N (fun y0 y1 y2 y3 y4 => (Option.bind (k0 y0 y1 y2 y3 y4) f)) (fun y0 y1 y2 y3 y4 y5 => (Option.bind (k1 y0 y1 y2 y3 y4 y5) f)) n x0 x1 x2 x3 x4) ∧ (∀ (x5 : Int) (x6 : Row) (x7 : Int) (x8 : Int) (x9 : Int) (x10 : Row), Option.bind (l3a N k0 k1 n x5 x6 x7 x8 x9 x10) f = l3a N (fun y0 y1 y2 y3 y4 => (Option.bind (k0 y0 y1 y2 y3 y4) f)) (fun y0 y1 y2 y3 y4 y5 => (Option.bind (k1 y0 y1 y2 y3 y4 y5) f)) n x5 x6 x7 x8 x9 x10) := by
  intro n
  induction n with
  | zero => exact ⟨(fun _ _ _ _ _ => rfl), (fun _ _ _ _ _ _ => rfl)⟩
  | succ n ih =>
    refine ⟨?_, ?_⟩
    · intro x0 x1 x2 x3 x4
      simp only [l3, r3, Lib.cond_bind, Lib.some_bind, Lib.none_bind, ih.1, ih.2]
    · intro x5 x6 x7 x8 x9 x10
      simp only [l3a, r3a, Lib.cond_bind, Lib.some_bind, Lib.none_bind, ih.1, ih.2]
theorem l3_bind {R S : Type} (f : R → Option S) (N : Nat) (k0 : Int → Row → Int → Int → Int → Option R) (k1 : Int → Row → Int → Int → Int → Row → Option R) (n : Nat) (x0 : Int) (x1 : Row) (x2 : Int) (x3 : Int) (x4 : Int) : Option.bind (l3 N k0 k1 n x0 x1 x2 x3 x4) f = l3 N (fun y0 y1 y2 y3 y4 => (Option.bind (k0 y0 y1 y2 y3 y4) f)) (fun y0 y1 y2 y3 y4 y5 => (Option.bind (k1 y0 y1 y2 y3 y4 y5) f)) n x0 x1 x2 x3 x4 := (q3_bind f N k0 k1 n).1 x0 x1 x2 x3 x4
theorem l3a_bind {R S : Type} (f : R → Option S) (N : Nat) (k0 : Int → Row → Int → Int → Int → Option R) (k1 : Int → Row → Int → Int → Int → Row → Option R) (n : Nat) (x5 : Int) (x6 : Row) (x7 : Int) (x8 : Int) (x9 : Int) (x10 : Row) : Option.bind (l3a N k0 k1 n x5 x6 x7 x8 x9 x10) f = l3a N (fun y0 y1 y2 y3 y4 => (Option.bind (k0 y0 y1 y2 y3 y4) f)) (fun y0 y1 y2 y3 y4 y5 => (Option.bind (k1 y0 y1 y2 y3 y4 y5) f)) n x5 x6 x7 x8 x9 x10 := (q3_bind f N k0 k1 n).2 x5 x6 x7 x8 x9 x10
theorem b_bind {R : Type} (N : Nat) (kr : Row → Int → Option R) (s0_0 : Row) (s0_1 : Int) : b N kr s0_0 s0_1 = Option.bind (b N (fun r0 r1 => some (r0, r1)) s0_0 s0_1) (fun p => kr p.1 p.2) := by
  unfold b; simp only [Lib.cond_bind, Lib.some_bind, Lib.none_bind, l3_bind, l3a_bind]
def vo (s0_0 : Row) (s0_1 : Int) : Option (Row × Int) := b Lib.big (fun r0 r1 => some (r0, r1)) s0_0 s0_1
def c (s0_0 : Row) (s0_1 : Int) : Bool := Option.isSome (vo s0_0 s0_1)
def v (s0_0 : Row) (s0_1 : Int) : Row × Int := Option.getD (vo s0_0 s0_1) ([], 0)
theorem out (s0_0 : Row) (s0_1 : Int) {x : Row × Int} (h : vo s0_0 s0_1 = some x) : c s0_0 s0_1 = true ∧ v s0_0 s0_1 = x := by
  unfold c v; rw [h]; exact ⟨rfl, rfl⟩
theorem b_eq {R : Type} (kr : Row → Int → Option R) (s0_0 : Row) (s0_1 : Int) (hc : c s0_0 s0_1 = true) : ∃ N, b N kr s0_0 s0_1 = kr ((v s0_0 s0_1).1) ((v s0_0 s0_1).2) := by
  refine ⟨Lib.big, ?_⟩
  rw [b_bind]
  have e : vo s0_0 s0_1 = some (v s0_0 s0_1) := by
    unfold c at hc; unfold v
    cases h : vo s0_0 s0_1 with
    | none => rw [h] at hc; cases hc
    | some x => rfl
  unfold vo at e
  rw [e]; rfl
end Go.FG.Pu.spec_l12Copy

namespace Go.FG.Pu.spec_l13Copy
def b {R : Type} (kr : Row → Row → Row → Int → Option R) (p0_0 : Row) (p0_1 : Row) (p0_2 : Row) (p0_3 : Int) : Option R := bif (roomy (List.length (zeros [Ck.s] 0) + List.length p0_0) 16) then (bif (roomy (List.length (zeros [Ck.s] 0) + List.length p0_1) 16) then (bif (Pu.spec_l12Copy.c p0_2 p0_3) then (kr (zeros [Ck.s] 0 ++ p0_0) (zeros [Ck.s] 0 ++ p0_1) ((Pu.spec_l12Copy.v p0_2 p0_3).1) ((Pu.spec_l12Copy.v p0_2 p0_3).2)) else (none)) else (none)) else (none)
theorem b_bind {R : Type} (kr : Row → Row → Row → Int → Option R) (p0_0 : Row) (p0_1 : Row) (p0_2 : Row) (p0_3 : Int) : b kr p0_0 p0_1 p0_2 p0_3 = Option.bind (b (fun r0 r1 r2 r3 => some (r0, r1, r2, r3)) p0_0 p0_1 p0_2 p0_3) (fun p => kr p.1 p.2.1 p.2.2.1 p.2.2.2) := by
  unfold b; simp only [Lib.cond_bind, Lib.some_bind, Lib.none_bind]
def vo (p0_0 : Row) (p0_1 : Row) (p0_2 : Row) (p0_3 : Int) : Option (Row × Row × Row × Int) := b (fun r0 r1 r2 r3 => some (r0, r1, r2, r3)) p0_0 p0_1 p0_2 p0_3
def c (p0_0 : Row) (p0_1 : Row) (p0_2 : Row) (p0_3 : Int) : Bool := Option.isSome (vo p0_0 p0_1 p0_2 p0_3)
def v (p0_0 : Row) (p0_1 : Row) (p0_2 : Row) (p0_3 : Int) : Row × Row × Row × Int := Option.getD (vo p0_0 p0_1 p0_2 p0_3) ([], [], [], 0)
theorem out (p0_0 : Row) (p0_1 : Row) (p0_2 : Row) (p0_3 : Int) {x : Row × Row × Row × Int} (h : vo p0_0 p0_1 p0_2 p0_3 = some x) : c p0_0 p0_1 p0_2 p0_3 = true ∧ v p0_0 p0_1 p0_2 p0_3 = x := by
  unfold c v; rw [h]; exact ⟨rfl, rfl⟩
theorem b_eq {R : Type} (kr : Row → Row → Row → Int → Option R) (p0_0 : Row) (p0_1 : Row) (p0_2 : Row) (p0_3 : Int) (hc : c p0_0 p0_1 p0_2 p0_3 = true) : b kr p0_0 p0_1 p0_2 p0_3 = kr ((v p0_0 p0_1 p0_2 p0_3).1) ((v p0_0 p0_1 p0_2 p0_3).2.1) ((v p0_0 p0_1 p0_2 p0_3).2.2.1) ((v p0_0 p0_1 p0_2 p0_3).2.2.2) := by
  rw [b_bind]
  have e : vo p0_0 p0_1 p0_2 p0_3 = some (v p0_0 p0_1 p0_2 p0_3) := by
    unfold c at hc; unfold v
    cases h : vo p0_0 p0_1 p0_2 p0_3 with
    | none => rw [h] at hc; cases hc
    | some x => rfl
  unfold vo at e
  rw [e]; rfl
end Go.FG.Pu.spec_l13Copy

namespace Go.FG.Pu.spec_l01In
def b {R : Type} (kr : Bool → Option R) (x0 : Int) (least1 : Int) (most2 : Int) : Option R := bif (decide (x0 ≥ least1)) then (kr (decide (x0 ≤ most2))) else (kr false)
def v (x0 : Int) (least1 : Int) (most2 : Int) : Bool := bif (decide (x0 ≥ least1)) then (((decide (x0 ≤ most2)))) else ((false))
theorem b_eq {R : Type} (kr : Bool → Option R) (x0 : Int) (least1 : Int) (most2 : Int) : b kr x0 least1 most2 = kr (v x0 least1 most2) := by
  first | rfl | (unfold b v; simp only [Bool.cond_eq_ite]; (repeat' split) <;> rfl)
end Go.FG.Pu.spec_l01In

namespace Go.FG.Pu.spec_l13Key
def b {R : Type} (kr : Bool → Option R) (s0 : ByteArray) : Option R := kr (Pu.spec_l01In.v (↑(ByteArray.size s0) : Int) 1 30)
def v (s0 : ByteArray) : Bool := ((Pu.spec_l01In.v (↑(ByteArray.size s0) : Int) 1 30))
theorem b_eq {R : Type} (kr : Bool → Option R) (s0 : ByteArray) : b kr s0 = kr (v s0) := by
  first | rfl | (unfold b v; simp only [Bool.cond_eq_ite]; (repeat' split) <;> rfl)
end Go.FG.Pu.spec_l13Key

namespace Go.FG.Pu.spec_l13In
def r2 {R : Type} (N : Nat) (g : Row → ByteArray → Bool → Int → Option R) (k0 : Row → ByteArray → Bool → Int → Option R) (k1 : Row → ByteArray → Bool → Int → Option R) (x0 : Row) (x1 : ByteArray) (x2 : Bool) (x3 : Int) : Option R := bif (decide (x3 < (↑(List.length x0) : Int))) then (bif (decide (0 ≤ x3) && decide (x3 < (↑(List.length x0) : Int))) then (bif (List.beq (ByteArray.toList (cvS (cellAt x0 (Int.toNat x3) 0))) (ByteArray.toList x1)) then (k0 x0 x1 true x3) else (g x0 x1 x2 (w64 (x3 + 1)))) else (none)) else (k1 x0 x1 x2 x3)
def l2 {R : Type} (N : Nat) (k0 : Row → ByteArray → Bool → Int → Option R) (k1 : Row → ByteArray → Bool → Int → Option R) : Nat → Row → ByteArray → Bool → Int → Option R
  | 0 => (fun _ _ _ _ => none)
  | n + 1 => (fun x0 x1 x2 x3 => r2 N (l2 N k0 k1 n) k0 k1 x0 x1 x2 x3)
def b {R : Type} (N : Nat) (kr : Bool → Option R) (list0 : Row) (s1 : ByteArray) : Option R := l2 N (fun y4 y5 y6 y7 => kr y6) (fun y8 y9 y10 y11 => kr false) N list0 s1 false 0
theorem q2_bind {R S : Type} (f : R → Option S) (N : Nat) (k0 : Row → ByteArray → Bool → Int → Option R) (k1 : Row → ByteArray → Bool → Int → Option R) : ∀ n : Nat, (∀ (x0 : Row) (x1 : ByteArray) (x2 : Bool) (x3 : Int), Option.bind (l2 N k0 k1 n x0 x1 x2 x3) f = l2 N (fun y0 y1 y2 y3 => (Option.bind (k0 y0 y1 y2 y3) f)) (fun y0 y1 y2 y3 => (Option.bind (k1 y0 y1 y2 y3) f)) n x0 x1 x2 x3) := by
  intro n
  induction n with
  | zero => exact (fun _ _ _ _ => rfl)
  | succ n ih =>
    intro x0 x1 x2 x3
    simp only [l2, r2, Lib.cond_bind, Lib.some_bind, Lib.none_bind, ih]
theorem l2_bind {R S : Type} (f : R → Option S) (N : Nat) (k0 : Row → ByteArray → Bool → Int → Option R) (k1 : Row → ByteArray → Bool → Int → Option R) (n : Nat) (x0 : Row) (x1 : ByteArray) (x2 : Bool) (x3 : Int) : Option.bind (l2 N k0 k1 n x0 x1 x2 x3) f = l2 N (fun y0 y1 y2 y3 => (Option.bind (k0 y0 y1 y2 y3) f)) (fun y0 y1 y2 y3 => (Option.bind (k1 y0 y1 y2 y3) f)) n x0 x1 x2 x3 := (q2_bind f N k0 k1 n) x0 x1 x2 x3
theorem b_bind {R : Type} (N : Nat) (kr : Bool → Option R) (list0 : Row) (s1 : ByteArray) : b N kr list0 s1 = Option.bind (b N (fun r0 => some (r0)) list0 s1) (fun p => kr p) := by
  unfold b; simp only [Lib.cond_bind, Lib.some_bind, Lib.none_bind, l2_bind]
def vo (list0 : Row) (s1 : ByteArray) : Option (Bool) := b Lib.big (fun r0 => some (r0)) list0 s1
def c (list0 : Row) (s1 : ByteArray) : Bool := Option.isSome (vo list0 s1)
def v (list0 : Row) (s1 : ByteArray) : Bool := Option.getD (vo list0 s1) (false)
theorem out (list0 : Row) (s1 : ByteArray) {x : Bool} (h : vo list0 s1 = some x) : c list0 s1 = true ∧ v list0 s1 = x := by
  unfold c v; rw [h]; exact ⟨rfl, rfl⟩
theorem b_eq {R : Type} (kr : Bool → Option R) (list0 : Row) (s1 : ByteArray) (hc : c list0 s1 = true) : ∃ N, b N kr list0 s1 = kr (v list0 s1) := by
  refine ⟨Lib.big, ?_⟩
  rw [b_bind]
  have e : vo list0 s1 = some (v list0 s1) := by
    unfold c at hc; unfold v
    cases h : vo list0 s1 with
    | none => rw [h] at hc; cases hc
    | some x => rfl
  unfold vo at e
  rw [e]; rfl
end Go.FG.Pu.spec_l13In

namespace Go.FG.Pu.spec_SketchOk
def r9 {R : Type} (N : Nat) (g : Bool → Int → Int → Row → Int → Option R) (k0 : Bool → Int → Int → Row → Int → Option R) (k1 : Bool → Int → Int → Row → Int → Option R) (x4 : Bool) (x5 : Int) (x6 : Int) (x7 : Row) (x8 : Int) : Option R := bif (decide (0 ≤ x5) && decide (x5 < (↑(List.length x7) : Int))) then (bif (decide (x6 < (↑(List.length (cvL (cellAt x7 (Int.toNat x5) 0))) : Int))) then (bif (decide (0 ≤ x5) && decide (x5 < (↑(List.length x7) : Int))) then (bif (decide (0 ≤ x6) && decide (x6 < (↑(List.length (cvL (cellAt x7 (Int.toNat x5) 0))) : Int))) then (bif (!Pu.spec_l01In.v (cvI (cellAt (cvL (cellAt x7 (Int.toNat x5) 0)) (Int.toNat x6) 0)) 0 15) then (k0 false x5 x6 x7 x8) else (g x4 x5 (w64 (x6 + 1)) x7 x8)) else (none)) else (none)) else (k1 x4 x5 x6 x7 x8)) else (none)
def l9 {R : Type} (N : Nat) (k0 : Bool → Int → Int → Row → Int → Option R) (k1 : Bool → Int → Int → Row → Int → Option R) : Nat → Bool → Int → Int → Row → Int → Option R
  | 0 => (fun _ _ _ _ _ => none)
  | n + 1 => (fun x4 x5 x6 x7 x8 => r9 N (l9 N k0 k1 n) k0 k1 x4 x5 x6 x7 x8)
def r4 {R : Type} (N : Nat) (g : Bool → Int → Row → Int → Option R) (k0 : Bool → Int → Row → Int → Option R) (k1 : Bool → Int → Row → Int → Option R) (x0 : Bool) (x1 : Int) (x2 : Row) (x3 : Int) : Option R := bif (decide (x1 < (↑(List.length x2) : Int))) then (bif (decide (0 ≤ x1) && decide (x1 < (↑(List.length x2) : Int))) then (bif ((↑(List.length (cvL (cellAt x2 (Int.toNat x1) 0))) : Int) != 16) then (k0 false x1 x2 x3) else (l9 N (fun y9 y10 y11 y12 y13 => k0 y9 y10 y12 y13) (fun y14 y15 y16 y17 y18 => g y14 (w64 (y15 + 1)) y17 y18) N x0 x1 0 x2 x3)) else (none)) else (k1 x0 x1 x2 x3)
def l4 {R : Type} (N : Nat) (k0 : Bool → Int → Row → Int → Option R) (k1 : Bool → Int → Row → Int → Option R) : Nat → Bool → Int → Row → Int → Option R
  | 0 => (fun _ _ _ _ => none)
  | n + 1 => (fun x0 x1 x2 x3 => r4 N (l4 N k0 k1 n) k0 k1 x0 x1 x2 x3)
def b {R : Type} (N : Nat) (kr : Bool → Option R) (s0_0 : Row) (s0_1 : Int) : Option R := bif ((↑(List.length s0_0) : Int) != 3) then (kr false) else (bif (!Pu.spec_l01In.v s0_1 0 63) then (kr false) else (l4 N (fun y19 y20 y21 y22 => kr y19) (fun y23 y24 y25 y26 => kr true) N false 0 s0_0 s0_1))
theorem q9_bind {R S : Type} (f : R → Option S) (N : Nat) (k0 : Bool → Int → Int → Row → Int → Option R) (k1 : Bool → Int → Int → Row → Int → Option R) : ∀ n : Nat, (∀ (x4 : Bool) (x5 : Int) (x6 : Int) (x7 : Row) (x8 : Int), Option.bind (l9 N k0 k1 n x4 x5 x6 x7 x8) f = l9 N (fun y0 y1 y2 y3 y4 => (Option.bind (k0 y0 y1 y2 y3 y4) f)) (fun y0 y1 y2 y3 y4 => (Option.bind (k1 y0 y1 y2 y3 y4) f)) n x4 x5 x6 x7 x8) := by
  intro n
  induction n with
  | zero => exact (fun _ _ _ _ _ => rfl)
  | succ n ih =>
    intro x4 x5 x6 x7 x8
    simp only [l9, r9, Lib.cond_bind, Lib.some_bind, Lib.none_bind, ih]
theorem l9_bind {R S : Type} (f : R → Option S) (N : Nat) (k0 : Bool → Int → Int → Row → Int → Option R) (k1 : Bool → Int → Int → Row → Int → Option R) (n : Nat) (x4 : Bool) (x5 : Int) (x6 : Int) (x7 : Row) (x8 : Int) : Option.bind (l9 N k0 k1 n x4 x5 x6 x7 x8) f = l9 N (fun y0 y1 y2 y3 y4 => (Option.bind (k0 y0 y1 y2 y3 y4) f)) (fun y0 y1 y2 y3 y4 => (Option.bind (k1 y0 y1 y2 y3 y4) f)) n x4 x5 x6 x7 x8 := (q9_bind f N k0 k1 n) x4 x5 x6 x7 x8
theorem q4_bind {R S : Type} (f : R → Option S) (N : Nat) (k0 : Bool → Int → Row → Int → Option R) (k1 : Bool → Int → Row → Int → Option R) : ∀ n : Nat, (∀ (x0 : Bool) (x1 : Int) (x2 : Row) (x3 : Int), Option.bind (l4 N k0 k1 n x0 x1 x2 x3) f = l4 N (fun y0 y1 y2 y3 => (Option.bind (k0 y0 y1 y2 y3) f)) (fun y0 y1 y2 y3 => (Option.bind (k1 y0 y1 y2 y3) f)) n x0 x1 x2 x3) := by
  intro n
  induction n with
  | zero => exact (fun _ _ _ _ => rfl)
  | succ n ih =>
    intro x0 x1 x2 x3
    simp only [l4, r4, Lib.cond_bind, Lib.some_bind, Lib.none_bind, ih, l9_bind]
theorem l4_bind {R S : Type} (f : R → Option S) (N : Nat) (k0 : Bool → Int → Row → Int → Option R) (k1 : Bool → Int → Row → Int → Option R) (n : Nat) (x0 : Bool) (x1 : Int) (x2 : Row) (x3 : Int) : Option.bind (l4 N k0 k1 n x0 x1 x2 x3) f = l4 N (fun y0 y1 y2 y3 => (Option.bind (k0 y0 y1 y2 y3) f)) (fun y0 y1 y2 y3 => (Option.bind (k1 y0 y1 y2 y3) f)) n x0 x1 x2 x3 := (q4_bind f N k0 k1 n) x0 x1 x2 x3
theorem b_bind {R : Type} (N : Nat) (kr : Bool → Option R) (s0_0 : Row) (s0_1 : Int) : b N kr s0_0 s0_1 = Option.bind (b N (fun r0 => some (r0)) s0_0 s0_1) (fun p => kr p) := by
  unfold b; simp only [Lib.cond_bind, Lib.some_bind, Lib.none_bind, l9_bind, l4_bind]
def vo (s0_0 : Row) (s0_1 : Int) : Option (Bool) := b Lib.big (fun r0 => some (r0)) s0_0 s0_1
def c (s0_0 : Row) (s0_1 : Int) : Bool := Option.isSome (vo s0_0 s0_1)
def v (s0_0 : Row) (s0_1 : Int) : Bool := Option.getD (vo s0_0 s0_1) (false)
theorem out (s0_0 : Row) (s0_1 : Int) {x : Bool} (h : vo s0_0 s0_1 = some x) : c s0_0 s0_1 = true ∧ v s0_0 s0_1 = x := by
  unfold c v; rw [h]; exact ⟨rfl, rfl⟩
theorem b_eq {R : Type} (kr : Bool → Option R) (s0_0 : Row) (s0_1 : Int) (hc : c s0_0 s0_1 = true) : ∃ N, b N kr s0_0 s0_1 = kr (v s0_0 s0_1) := by
  refine ⟨Lib.big, ?_⟩
  rw [b_bind]
  have e : vo s0_0 s0_1 = some (v s0_0 s0_1) := by
    unfold c at hc; unfold v
    cases h : vo s0_0 s0_1 with
    | none => rw [h] at hc; cases hc
    | some x => rfl
  unfold vo at e
  rw [e]; rfl
end Go.FG.Pu.spec_SketchOk

namespace Go.FG.Pu.spec_PolicyOk
def r3 {R : Type} (N : Nat) (g : Bool → Int → Row → Row → Row → Int → Row → Option R) (k0 : Bool → Int → Row → Row → Row → Int → Row → Option R) (k1 : Bool → Int → Row → Row → Row → Int → Row → Option R) (x0 : Bool) (x1 : Int) (x2 : Row) (x3 : Row) (x4 : Row) (x5 : Int) (x6 : Row) : Option R := bif (decide (x1 < (↑(List.length x6) : Int))) then (bif (decide (0 ≤ x1) && decide (x1 < (↑(List.length x6) : Int))) then (bif (!Pu.spec_l13Key.v (cvS (cellAt x6 (Int.toNat x1) 0))) then (k0 false x1 x2 x3 x4 x5 x6) else (bif (inB 0 x1 (↑(List.length x6) : Int)) then (bif (decide (0 ≤ x1) && decide (x1 < (↑(List.length x6) : Int))) then (bif (Pu.spec_l13In.c (view x6 (Int.toNat 0) (Int.toNat x1)) (cvS (cellAt x6 (Int.toNat x1) 0))) then (bif (Pu.spec_l13In.v (view x6 (Int.toNat 0) (Int.toNat x1)) (cvS (cellAt x6 (Int.toNat x1) 0))) then (k0 false x1 x2 x3 x4 x5 x6) else (g x0 (w64 (x1 + 1)) x2 x3 x4 x5 x6)) else (none)) else (none)) else (none))) else (none)) else (k1 x0 x1 x2 x3 x4 x5 x6)
def l3 {R : Type} (N : Nat) (k0 : Bool → Int → Row → Row → Row → Int → Row → Option R) (k1 : Bool → Int → Row → Row → Row → Int → Row → Option R) : Nat → Bool → Int → Row → Row → Row → Int → Row → Option R
  | 0 => (fun _ _ _ _ _ _ _ => none)
  | n + 1 => (fun x0 x1 x2 x3 x4 x5 x6 => r3 N (l3 N k0 k1 n) k0 k1 x0 x1 x2 x3 x4 x5 x6)
def b {R : Type} (N : Nat) (kr : Bool → Option R) (p0_0 : Row) (p0_1 : Row) (p0_2 : Row) (p0_3 : Int) : Option R := bif (roomy (List.length (zeros [Ck.s] 0) + List.length p0_0) 16) then (bif (roomy (List.length (zeros [Ck.s] 0 ++ p0_0) + List.length p0_1) 16) then (l3 N (fun y7 y8 y9 y10 y11 y12 y13 => kr y7) (fun y14 y15 y16 y17 y18 y19 y20 => bif (decide ((↑(List.length y16) : Int) ≤ 2)) then (bif (decide ((↑(List.length y17) : Int) ≤ 4)) then (bif (Pu.spec_SketchOk.c y18 y19) then (kr (Pu.spec_SketchOk.v y18 y19)) else (none)) else (kr false)) else (kr false)) N false 0 p0_0 p0_1 p0_2 p0_3 (zeros [Ck.s] 0 ++ p0_0 ++ p0_1)) else (none)) else (none)
theorem q3_bind {R S : Type} (f : R → Option S) (N : Nat) (k0 : Bool → Int → Row → Row → Row → Int → Row → Option R) (k1 : Bool → Int → Row → Row → Row → Int → Row → Option R) : ∀ n : Nat, (∀ (x0 : Bool) (x1 : Int) (x2 : Row) (x3 : Row) (x4 : Row) (x5 : Int) (x6 : Row), Option.bind (l3 N k0 k1 n x0 x1 x2 x3 x4 x5 x6) f = l3 N (fun y0 y1 y2 y3 y4 y5 y6 => (Option.bind (k0 y0 y1 y2 y3 y4 y5 y6) f)) (fun y0 y1 y2 y3 y4 y5 y6 => (Option.bind (k1 y0 y1 y2 y3 y4 y5 y6) f)) n x0 x1 x2 x3 x4 x5 x6) := by
  intro n
  induction n with
  | zero => exact (fun _ _ _ _ _ _ _ => rfl)
  | succ n ih =>
    intro x0 x1 x2 x3 x4 x5 x6
    simp only [l3, r3, Lib.cond_bind, Lib.some_bind, Lib.none_bind, ih]
theorem l3_bind {R S : Type} (f : R → Option S) (N : Nat) (k0 : Bool → Int → Row → Row → Row → Int → Row → Option R) (k1 : Bool → Int → Row → Row → Row → Int → Row → Option R) (n : Nat) (x0 : Bool) (x1 : Int) (x2 : Row) (x3 : Row) (x4 : Row) (x5 : Int) (x6 : Row) : Option.bind (l3 N k0 k1 n x0 x1 x2 x3 x4 x5 x6) f = l3 N (fun y0 y1 y2 y3 y4 y5 y6 => (Option.bind (k0 y0 y1 y2 y3 y4 y5 y6) f)) (fun y0 y1 y2 y3 y4 y5 y6 => (Option.bind (k1 y0 y1 y2 y3 y4 y5 y6) f)) n x0 x1 x2 x3 x4 x5 x6 := (q3_bind f N k0 k1 n) x0 x1 x2 x3 x4 x5 x6
theorem b_bind {R : Type} (N : Nat) (kr : Bool → Option R) (p0_0 : Row) (p0_1 : Row) (p0_2 : Row) (p0_3 : Int) : b N kr p0_0 p0_1 p0_2 p0_3 = Option.bind (b N (fun r0 => some (r0)) p0_0 p0_1 p0_2 p0_3) (fun p => kr p) := by
  unfold b; simp only [Lib.cond_bind, Lib.some_bind, Lib.none_bind, l3_bind]
def vo (p0_0 : Row) (p0_1 : Row) (p0_2 : Row) (p0_3 : Int) : Option (Bool) := b Lib.big (fun r0 => some (r0)) p0_0 p0_1 p0_2 p0_3
def c (p0_0 : Row) (p0_1 : Row) (p0_2 : Row) (p0_3 : Int) : Bool := Option.isSome (vo p0_0 p0_1 p0_2 p0_3)
def v (p0_0 : Row) (p0_1 : Row) (p0_2 : Row) (p0_3 : Int) : Bool := Option.getD (vo p0_0 p0_1 p0_2 p0_3) (false)
theorem out (p0_0 : Row) (p0_1 : Row) (p0_2 : Row) (p0_3 : Int) {x : Bool} (h : vo p0_0 p0_1 p0_2 p0_3 = some x) : c p0_0 p0_1 p0_2 p0_3 = true ∧ v p0_0 p0_1 p0_2 p0_3 = x := by
  unfold c v; rw [h]; exact ⟨rfl, rfl⟩
theorem b_eq {R : Type} (kr : Bool → Option R) (p0_0 : Row) (p0_1 : Row) (p0_2 : Row) (p0_3 : Int) (hc : c p0_0 p0_1 p0_2 p0_3 = true) : ∃ N, b N kr p0_0 p0_1 p0_2 p0_3 = kr (v p0_0 p0_1 p0_2 p0_3) := by
  refine ⟨Lib.big, ?_⟩
  rw [b_bind]
  have e : vo p0_0 p0_1 p0_2 p0_3 = some (v p0_0 p0_1 p0_2 p0_3) := by
    unfold c at hc; unfold v
    cases h : vo p0_0 p0_1 p0_2 p0_3 with
    | none => rw [h] at hc; cases hc
    | some x => rfl
  unfold vo at e
  rw [e]; rfl
end Go.FG.Pu.spec_PolicyOk

namespace Go.FG.Pu.spec_SumMore
def r6 {R : Type} (N : Nat) (g : Int → ByteArray → Int → Int → Option R) (k0 : Int → ByteArray → Int → Int → Option R) (x3 : Int) (x4 : ByteArray) (x5 : Int) (x6 : Int) : Option R := bif (decide (x6 < 8)) then (bif (decide (Int.tmod x3 2 = 1)) then (g (IntKind.wrap IntKind.u32 (↑(BitVec.toNat (BitVec.xor (BitVec.ofInt 32 (IntKind.wrap IntKind.u32 (Int.tdiv x3 2))) (BitVec.ofInt 32 3558460437))) : Int)) x4 x5 (w64 (x6 + 1))) else (g (IntKind.wrap IntKind.u32 (Int.tdiv x3 2)) x4 x5 (w64 (x6 + 1)))) else (k0 x3 x4 x5 x6)
def l6 {R : Type} (N : Nat) (k0 : Int → ByteArray → Int → Int → Option R) : Nat → Int → ByteArray → Int → Int → Option R
  | 0 => (fun _ _ _ _ => none)
  | n + 1 => (fun x3 x4 x5 x6 => r6 N (l6 N k0 n) k0 x3 x4 x5 x6)
def r2 {R : Type} (N : Nat) (g : Int → ByteArray → Int → Option R) (k0 : Int → ByteArray → Int → Option R) (x0 : Int) (x1 : ByteArray) (x2 : Int) : Option R := bif (decide (x2 < (↑(ByteArray.size x1) : Int))) then (bif (decide (0 ≤ x2) && decide (x2 < (↑(ByteArray.size x1) : Int))) then (l6 N (fun y7 y8 y9 y10 => g y7 y8 (w64 (y9 + 1))) N (IntKind.wrap IntKind.u32 (↑(BitVec.toNat (BitVec.xor (BitVec.ofInt 32 x0) (BitVec.ofInt 32 (IntKind.wrap IntKind.u32 (↑(btN x1 (Int.toNat x2)) : Int))))) : Int)) x1 x2 0) else (none)) else (k0 x0 x1 x2)
def l2 {R : Type} (N : Nat) (k0 : Int → ByteArray → Int → Option R) : Nat → Int → ByteArray → Int → Option R
  | 0 => (fun _ _ _ => none)
  | n + 1 => (fun x0 x1 x2 => r2 N (l2 N k0 n) k0 x0 x1 x2)
def b {R : Type} (N : Nat) (kr : Int → Option R) (sum0 : Int) (text1 : ByteArray) : Option R := l2 N (fun y11 y12 y13 => kr y11) N sum0 text1 0
theorem q6_bind {R S : Type} (f : R → Option S) (N : Nat) (k0 : Int → ByteArray → Int → Int → Option R) : ∀ n : Nat, (∀ (x3 : Int) (x4 : ByteArray) (x5 : Int) (x6 : Int), Option.bind (l6 N k0 n x3 x4 x5 x6) f = l6 N (fun y0 y1 y2 y3 => (Option.bind (k0 y0 y1 y2 y3) f)) n x3 x4 x5 x6) := by
  intro n
  induction n with
  | zero => exact (fun _ _ _ _ => rfl)
  | succ n ih =>
    intro x3 x4 x5 x6
    simp only [l6, r6, Lib.cond_bind, Lib.some_bind, Lib.none_bind, ih]
theorem l6_bind {R S : Type} (f : R → Option S) (N : Nat) (k0 : Int → ByteArray → Int → Int → Option R) (n : Nat) (x3 : Int) (x4 : ByteArray) (x5 : Int) (x6 : Int) : Option.bind (l6 N k0 n x3 x4 x5 x6) f = l6 N (fun y0 y1 y2 y3 => (Option.bind (k0 y0 y1 y2 y3) f)) n x3 x4 x5 x6 := (q6_bind f N k0 n) x3 x4 x5 x6
theorem q2_bind {R S : Type} (f : R → Option S) (N : Nat) (k0 : Int → ByteArray → Int → Option R) : ∀ n : Nat, (∀ (x0 : Int) (x1 : ByteArray) (x2 : Int), Option.bind (l2 N k0 n x0 x1 x2) f = l2 N (fun y0 y1 y2 => (Option.bind (k0 y0 y1 y2) f)) n x0 x1 x2) := by
  intro n
  induction n with
  | zero => exact (fun _ _ _ => rfl)
  | succ n ih =>
    intro x0 x1 x2
    simp only [l2, r2, Lib.cond_bind, Lib.some_bind, Lib.none_bind, ih, l6_bind]
theorem l2_bind {R S : Type} (f : R → Option S) (N : Nat) (k0 : Int → ByteArray → Int → Option R) (n : Nat) (x0 : Int) (x1 : ByteArray) (x2 : Int) : Option.bind (l2 N k0 n x0 x1 x2) f = l2 N (fun y0 y1 y2 => (Option.bind (k0 y0 y1 y2) f)) n x0 x1 x2 := (q2_bind f N k0 n) x0 x1 x2
theorem b_bind {R : Type} (N : Nat) (kr : Int → Option R) (sum0 : Int) (text1 : ByteArray) : b N kr sum0 text1 = Option.bind (b N (fun r0 => some (r0)) sum0 text1) (fun p => kr p) := by
  unfold b; simp only [Lib.cond_bind, Lib.some_bind, Lib.none_bind, l6_bind, l2_bind]
def vo (sum0 : Int) (text1 : ByteArray) : Option (Int) := b Lib.big (fun r0 => some (r0)) sum0 text1
def c (sum0 : Int) (text1 : ByteArray) : Bool := Option.isSome (vo sum0 text1)
def v (sum0 : Int) (text1 : ByteArray) : Int := Option.getD (vo sum0 text1) (0)
theorem out (sum0 : Int) (text1 : ByteArray) {x : Int} (h : vo sum0 text1 = some x) : c sum0 text1 = true ∧ v sum0 text1 = x := by
  unfold c v; rw [h]; exact ⟨rfl, rfl⟩
theorem b_eq {R : Type} (kr : Int → Option R) (sum0 : Int) (text1 : ByteArray) (hc : c sum0 text1 = true) : ∃ N, b N kr sum0 text1 = kr (v sum0 text1) := by
  refine ⟨Lib.big, ?_⟩
  rw [b_bind]
  have e : vo sum0 text1 = some (v sum0 text1) := by
    unfold c at hc; unfold v
    cases h : vo sum0 text1 with
    | none => rw [h] at hc; cases hc
    | some x => rfl
  unfold vo at e
  rw [e]; rfl
end Go.FG.Pu.spec_SumMore

namespace Go.FG.Pu.spec_SumOf
def b {R : Type} (kr : Int → Option R) (text0 : ByteArray) : Option R := bif (Pu.spec_SumMore.c 4294967295 text0) then (kr (Pu.spec_SumMore.v 4294967295 text0)) else (none)
theorem b_bind {R : Type} (kr : Int → Option R) (text0 : ByteArray) : b kr text0 = Option.bind (b (fun r0 => some (r0)) text0) (fun p => kr p) := by
  unfold b; simp only [Lib.cond_bind, Lib.some_bind, Lib.none_bind]
def vo (text0 : ByteArray) : Option (Int) := b (fun r0 => some (r0)) text0
def c (text0 : ByteArray) : Bool := Option.isSome (vo text0)
def v (text0 : ByteArray) : Int := Option.getD (vo text0) (0)
theorem out (text0 : ByteArray) {x : Int} (h : vo text0 = some x) : c text0 = true ∧ v text0 = x := by
  unfold c v; rw [h]; exact ⟨rfl, rfl⟩
theorem b_eq {R : Type} (kr : Int → Option R) (text0 : ByteArray) (hc : c text0 = true) : b kr text0 = kr (v text0) := by
  rw [b_bind]
  have e : vo text0 = some (v text0) := by
    unfold c at hc; unfold v
    cases h : vo text0 with
    | none => rw [h] at hc; cases hc
    | some x => rfl
  unfold vo at e
  rw [e]; rfl
end Go.FG.Pu.spec_SumOf

namespace Go.FG.Pu.spec_SketchPlace
def b {R : Type} (kr : Int → Option R) (row0 : Int) (key1 : ByteArray) : Option R := bif (decide (ByteArray.size key1 + ByteArray.size (bytesOf (List.set (zeros [Ck.i IntKind.u8] 1) 0 [CV.i IntKind.u8 (IntKind.wrap IntKind.u8 row0)])) ≤ 4611686018427387904)) then (bif (Pu.spec_SumOf.c (key1 ++ bytesOf (List.set (zeros [Ck.i IntKind.u8] 1) 0 [CV.i IntKind.u8 (IntKind.wrap IntKind.u8 row0)]))) then (kr (w64 (Int.tmod (Pu.spec_SumOf.v (key1 ++ bytesOf (List.set (zeros [Ck.i IntKind.u8] 1) 0 [CV.i IntKind.u8 (IntKind.wrap IntKind.u8 row0)]))) 16))) else (none)) else (none)
theorem b_bind {R : Type} (kr : Int → Option R) (row0 : Int) (key1 : ByteArray) : b kr row0 key1 = Option.bind (b (fun r0 => some (r0)) row0 key1) (fun p => kr p) := by
  unfold b; simp only [Lib.cond_bind, Lib.some_bind, Lib.none_bind]
def vo (row0 : Int) (key1 : ByteArray) : Option (Int) := b (fun r0 => some (r0)) row0 key1
def c (row0 : Int) (key1 : ByteArray) : Bool := Option.isSome (vo row0 key1)
def v (row0 : Int) (key1 : ByteArray) : Int := Option.getD (vo row0 key1) (0)
theorem out (row0 : Int) (key1 : ByteArray) {x : Int} (h : vo row0 key1 = some x) : c row0 key1 = true ∧ v row0 key1 = x := by
  unfold c v; rw [h]; exact ⟨rfl, rfl⟩
theorem b_eq {R : Type} (kr : Int → Option R) (row0 : Int) (key1 : ByteArray) (hc : c row0 key1 = true) : b kr row0 key1 = kr (v row0 key1) := by
  rw [b_bind]
  have e : vo row0 key1 = some (v row0 key1) := by
    unfold c at hc; unfold v
    cases h : vo row0 key1 with
    | none => rw [h] at hc; cases hc
    | some x => rfl
  unfold vo at e
  rw [e]; rfl
end Go.FG.Pu.spec_SketchPlace

namespace Go.FG.Pu.spec_SketchBump
def r17 {R : Type} (N : Nat) (g : Int → Int → Int → Int → Row → Option R) (k0 : Int → Int → Int → Int → Row → Option R) (x14 : Int) (x15 : Int) (x16 : Int) (x17 : Int) (x18 : Row) : Option R := bif (decide (0 ≤ x14) && decide (x14 < (↑(List.length x18) : Int))) then (bif (decide (x15 < (↑(List.length (cvL (cellAt x18 (Int.toNat x14) 0))) : Int))) then (bif (decide (0 ≤ x14) && decide (x14 < (↑(List.length x18) : Int))) then (bif (decide (0 ≤ x14) && decide (x14 < (↑(List.length x18) : Int))) then (bif (decide (0 ≤ x15) && decide (x15 < (↑(List.length (cvL (cellAt x18 (Int.toNat x14) 0))) : Int))) then (bif (decide (0 ≤ x15) && decide (x15 < (↑(List.length (cvL (cellAt x18 (Int.toNat x14) 0))) : Int))) then (g x14 (w64 (x15 + 1)) x16 x17 (setC x18 (Int.toNat x14) 0 [CV.l 3 (setC (cvL (cellAt x18 (Int.toNat x14) 0)) (Int.toNat x15) 0 [CV.i IntKind.i64 (w64 (Int.tdiv (cvI (cellAt (cvL (cellAt x18 (Int.toNat x14) 0)) (Int.toNat x15) 0)) 2))])])) else (none)) else (none)) else (none)) else (none)) else (k0 x14 x15 x16 x17 x18)) else (none)
def l17 {R : Type} (N : Nat) (k0 : Int → Int → Int → Int → Row → Option R) : Nat → Int → Int → Int → Int → Row → Option R
  | 0 => (fun _ _ _ _ _ => none)
  | n + 1 => (fun x14 x15 x16 x17 x18 => r17 N (l17 N k0 n) k0 x14 x15 x16 x17 x18)
def r14 {R : Type} (N : Nat) (g : Int → Int → Int → Row → Option R) (k0 : Int → Int → Int → Row → Option R) (x10 : Int) (x11 : Int) (x12 : Int) (x13 : Row) : Option R := bif (decide (x10 < (↑(List.length x13) : Int))) then (l17 N (fun y19 y20 y21 y22 y23 => g (w64 (y19 + 1)) y21 y22 y23) N x10 0 x11 x12 x13) else (k0 x10 x11 x12 x13)
def l14 {R : Type} (N : Nat) (k0 : Int → Int → Int → Row → Option R) : Nat → Int → Int → Int → Row → Option R
  | 0 => (fun _ _ _ _ => none)
  | n + 1 => (fun x10 x11 x12 x13 => r14 N (l14 N k0 n) k0 x10 x11 x12 x13)
def r5 {R : Type} (N : Nat) (g : ByteArray → Int → Int → Int → Row → Option R) (k0 : ByteArray → Int → Int → Int → Row → Option R) (x0 : ByteArray) (x1 : Int) (x2 : Int) (x3 : Int) (x4 : Row) : Option R := bif (decide (x1 < (↑(List.length x4) : Int))) then (bif (Pu.spec_SketchPlace.c x1 x0) then (bif (decide (0 ≤ x1) && decide (x1 < (↑(List.length x4) : Int))) then (bif (decide (0 ≤ Pu.spec_SketchPlace.v x1 x0) && decide (Pu.spec_SketchPlace.v x1 x0 < (↑(List.length (cvL (cellAt x4 (Int.toNat x1) 0))) : Int))) then (bif (decide (cvI (cellAt (cvL (cellAt x4 (Int.toNat x1) 0)) (Int.toNat (Pu.spec_SketchPlace.v x1 x0)) 0) < 15)) then (bif (decide (0 ≤ x1) && decide (x1 < (↑(List.length x4) : Int))) then (bif (decide (0 ≤ Pu.spec_SketchPlace.v x1 x0) && decide (Pu.spec_SketchPlace.v x1 x0 < (↑(List.length (cvL (cellAt x4 (Int.toNat x1) 0))) : Int))) then (bif (decide (0 ≤ Pu.spec_SketchPlace.v x1 x0) && decide (Pu.spec_SketchPlace.v x1 x0 < (↑(List.length (cvL (cellAt x4 (Int.toNat x1) 0))) : Int))) then (g x0 (w64 (x1 + 1)) x2 x3 (setC x4 (Int.toNat x1) 0 [CV.l 3 (setC (cvL (cellAt x4 (Int.toNat x1) 0)) (Int.toNat (Pu.spec_SketchPlace.v x1 x0)) 0 [CV.i IntKind.i64 (w64 (cvI (cellAt (cvL (cellAt x4 (Int.toNat x1) 0)) (Int.toNat (Pu.spec_SketchPlace.v x1 x0)) 0) + 1))])])) else (none)) else (none)) else (none)) else (g x0 (w64 (x1 + 1)) x2 x3 x4)) else (none)) else (none)) else (none)) else (k0 x0 x1 x2 x3 x4)
def l5 {R : Type} (N : Nat) (k0 : ByteArray → Int → Int → Int → Row → Option R) : Nat → ByteArray → Int → Int → Int → Row → Option R
  | 0 => (fun _ _ _ _ _ => none)
  | n + 1 => (fun x0 x1 x2 x3 x4 => r5 N (l5 N k0 n) k0 x0 x1 x2 x3 x4)
def b {R : Type} (N : Nat) (kr : Row → Int → Option R) (s0_0 : Row) (s0_1 : Int) (key1 : ByteArray) : Option R := bif (Pu.spec_l12Copy.c s0_0 s0_1) then (bif (Pu.spec_SketchOk.c s0_0 s0_1) then (bif (!Pu.spec_SketchOk.v s0_0 s0_1) then (kr ((Pu.spec_l12Copy.v s0_0 s0_1).1) ((Pu.spec_l12Copy.v s0_0 s0_1).2)) else (l5 N (fun y5 y6 y7 y8 y9 => bif (decide (w64 (y8 + 1) = 64)) then (l14 N (fun y24 y25 y26 y27 => kr y27 y26) N 0 y7 0 y9) else (kr y9 (w64 (y8 + 1)))) N key1 0 0 ((Pu.spec_l12Copy.v s0_0 s0_1).2) ((Pu.spec_l12Copy.v s0_0 s0_1).1))) else (none)) else (none)
theorem q17_bind {R S : Type} (f : R → Option S) (N : Nat) (k0 : Int → Int → Int → Int → Row → Option R) : ∀ n : Nat, (∀ (x14 : Int) (x15 : Int) (x16 : Int) (x17 : Int) (x18 : Row), Option.bind (l17 N k0 n x14 x15 x16 x17 x18) f = l17 N (fun y0 y1 y2 y3 y4 => (Option.bind (k0 y0 y1 y2 y3 y4) f)) n x14 x15 x16 x17 x18) := by
  intro n
  induction n with
  | zero => exact (fun _ _ _ _ _ => rfl)
  | succ n ih =>
    intro x14 x15 x16 x17 x18
    simp only [l17, r17, Lib.cond_bind, Lib.some_bind, Lib.none_bind, ih]
theorem l17_bind {R S : Type} (f : R → Option S) (N : Nat) (k0 : Int → Int → Int → Int → Row → Option R) (n : Nat) (x14 : Int) (x15 : Int) (x16 : Int) (x17 : Int) (x18 : Row) : Option.bind (l17 N k0 n x14 x15 x16 x17 x18) f = l17 N (fun y0 y1 y2 y3 y4 => (Option.bind (k0 y0 y1 y2 y3 y4) f)) n x14 x15 x16 x17 x18 := (q17_bind f N k0 n) x14 x15 x16 x17 x18
theorem q14_bind {R S : Type} (f : R → Option S) (N : Nat) (k0 : Int → Int → Int → Row → Option R) : ∀ n : Nat, (∀ (x10 : Int) (x11 : Int) (x12 : Int) (x13 : Row), Option.bind (l14 N k0 n x10 x11 x12 x13) f = l14 N (fun y0 y1 y2 y3 => (Option.bind (k0 y0 y1 y2 y3) f)) n x10 x11 x12 x13) := by
  intro n
  induction n with
  | zero => exact (fun _ _ _ _ => rfl)
  | succ n ih =>
    intro x10 x11 x12 x13
    simp only [l14, r14, Lib.cond_bind, Lib.some_bind, Lib.none_bind, ih, l17_bind]
theorem l14_bind {R S : Type} (f : R → Option S) (N : Nat) (k0 : Int → Int → Int → Row → Option R) (n : Nat) (x10 : Int) (x11 : Int) (x12 : Int) (x13 : Row) : Option.bind (l14 N k0 n x10 x11 x12 x13) f = l14 N (fun y0 y1 y2 y3 => (Option.bind (k0 y0 y1 y2 y3) f)) n x10 x11 x12 x13 := (q14_bind f N k0 n) x10 x11 x12 x13
theorem q5_bind {R S : Type} (f : R → Option S) (N : Nat) (k0 : ByteArray → Int → Int → Int → Row → Option R) : ∀ n : Nat, (∀ (x0 : ByteArray) (x1 : Int) (x2 : Int) (x3 : Int) (x4 : Row), Option.bind (l5 N k0 n x0 x1 x2 x3 x4) f = l5 N (fun y0 y1 y2 y3 y4 => (Option.bind (k0 y0 y1 y2 y3 y4) f)) n x0 x1 x2 x3 x4) := by
  intro n
  induction n with
  | zero => exact (fun _ _ _ _ _ => rfl)
  | succ n ih =>
    intro x0 x1 x2 x3 x4
    simp only [l5, r5, Lib.cond_bind, Lib.some_bind, Lib.none_bind, ih, l17_bind, l14_bind]
theorem l5_bind {R S : Type} (f : R → Option S) (N : Nat) (k0 : ByteArray → Int → Int → Int → Row → Option R) (n : Nat) (x0 : ByteArray) (x1 : Int) (x2 : Int) (x3 : Int) (x4 : Row) : Option.bind (l5 N k0 n x0 x1 x2 x3 x4) f = l5 N (fun y0 y1 y2 y3 y4 => (Option.bind (k0 y0 y1 y2 y3 y4) f)) n x0 x1 x2 x3 x4 := (q5_bind f N k0 n) x0 x1 x2 x3 x4
theorem b_bind {R : Type} (N : Nat) (kr : Row → Int → Option R) (s0_0 : Row) (s0_1 : Int) (key1 : ByteArray) : b N kr s0_0 s0_1 key1 = Option.bind (b N (fun r0 r1 => some (r0, r1)) s0_0 s0_1 key1) (fun p => kr p.1 p.2) := by
  unfold b; simp only [Lib.cond_bind, Lib.some_bind, Lib.none_bind, l17_bind, l14_bind, l5_bind]
def vo (s0_0 : Row) (s0_1 : Int) (key1 : ByteArray) : Option (Row × Int) := b Lib.big (fun r0 r1 => some (r0, r1)) s0_0 s0_1 key1
def c (s0_0 : Row) (s0_1 : Int) (key1 : ByteArray) : Bool := Option.isSome (vo s0_0 s0_1 key1)
def v (s0_0 : Row) (s0_1 : Int) (key1 : ByteArray) : Row × Int := Option.getD (vo s0_0 s0_1 key1) ([], 0)
theorem out (s0_0 : Row) (s0_1 : Int) (key1 : ByteArray) {x : Row × Int} (h : vo s0_0 s0_1 key1 = some x) : c s0_0 s0_1 key1 = true ∧ v s0_0 s0_1 key1 = x := by
  unfold c v; rw [h]; exact ⟨rfl, rfl⟩
theorem b_eq {R : Type} (kr : Row → Int → Option R) (s0_0 : Row) (s0_1 : Int) (key1 : ByteArray) (hc : c s0_0 s0_1 key1 = true) : ∃ N, b N kr s0_0 s0_1 key1 = kr ((v s0_0 s0_1 key1).1) ((v s0_0 s0_1 key1).2) := by
  refine ⟨Lib.big, ?_⟩
  rw [b_bind]
  have e : vo s0_0 s0_1 key1 = some (v s0_0 s0_1 key1) := by
    unfold c at hc; unfold v
    cases h : vo s0_0 s0_1 key1 with
    | none => rw [h] at hc; cases hc
    | some x => rfl
  unfold vo at e
  rw [e]; rfl
end Go.FG.Pu.spec_SketchBump

namespace Go.FG.Pu.spec_l13Without
def r3 {R : Type} (N : Nat) (g : Row → ByteArray → Int → Row → Option R) (k0 : Row → ByteArray → Int → Row → Option R) (x0 : Row) (x1 : ByteArray) (x2 : Int) (x3 : Row) : Option R := bif (decide (x2 < (↑(List.length x0) : Int))) then (bif (decide (0 ≤ x2) && decide (x2 < (↑(List.length x0) : Int))) then (bif (!List.beq (ByteArray.toList (cvS (cellAt x0 (Int.toNat x2) 0))) (ByteArray.toList x1)) then (bif (decide (0 ≤ x2) && decide (x2 < (↑(List.length x0) : Int))) then (bif (roomy (List.length x3 + List.length (List.set (zeros [Ck.s] 1) 0 [CV.s (cvS (cellAt x0 (Int.toNat x2) 0))])) 16) then (g x0 x1 (w64 (x2 + 1)) (x3 ++ List.set (zeros [Ck.s] 1) 0 [CV.s (cvS (cellAt x0 (Int.toNat x2) 0))])) else (none)) else (none)) else (g x0 x1 (w64 (x2 + 1)) x3)) else (none)) else (k0 x0 x1 x2 x3)
def l3 {R : Type} (N : Nat) (k0 : Row → ByteArray → Int → Row → Option R) : Nat → Row → ByteArray → Int → Row → Option R
  | 0 => (fun _ _ _ _ => none)
  | n + 1 => (fun x0 x1 x2 x3 => r3 N (l3 N k0 n) k0 x0 x1 x2 x3)
def b {R : Type} (N : Nat) (kr : Row → Option R) (list0 : Row) (s1 : ByteArray) : Option R := l3 N (fun y4 y5 y6 y7 => kr y7) N list0 s1 0 (zeros [Ck.s] 0)
theorem q3_bind {R S : Type} (f : R → Option S) (N : Nat) (k0 : Row → ByteArray → Int → Row → Option R) : ∀ n : Nat, (∀ (x0 : Row) (x1 : ByteArray) (x2 : Int) (x3 : Row), Option.bind (l3 N k0 n x0 x1 x2 x3) f = l3 N (fun y0 y1 y2 y3 => (Option.bind (k0 y0 y1 y2 y3) f)) n x0 x1 x2 x3) := by
  intro n
  induction n with
  | zero => exact (fun _ _ _ _ => rfl)
  | succ n ih =>
    intro x0 x1 x2 x3
    simp only [l3, r3, Lib.cond_bind, Lib.some_bind, Lib.none_bind, ih]
theorem l3_bind {R S : Type} (f : R → Option S) (N : Nat) (k0 : Row → ByteArray → Int → Row → Option R) (n : Nat) (x0 : Row) (x1 : ByteArray) (x2 : Int) (x3 : Row) : Option.bind (l3 N k0 n x0 x1 x2 x3) f = l3 N (fun y0 y1 y2 y3 => (Option.bind (k0 y0 y1 y2 y3) f)) n x0 x1 x2 x3 := (q3_bind f N k0 n) x0 x1 x2 x3
theorem b_bind {R : Type} (N : Nat) (kr : Row → Option R) (list0 : Row) (s1 : ByteArray) : b N kr list0 s1 = Option.bind (b N (fun r0 => some (r0)) list0 s1) (fun p => kr p) := by
  unfold b; simp only [Lib.cond_bind, Lib.some_bind, Lib.none_bind, l3_bind]
def vo (list0 : Row) (s1 : ByteArray) : Option (Row) := b Lib.big (fun r0 => some (r0)) list0 s1
def c (list0 : Row) (s1 : ByteArray) : Bool := Option.isSome (vo list0 s1)
def v (list0 : Row) (s1 : ByteArray) : Row := Option.getD (vo list0 s1) ([])
theorem out (list0 : Row) (s1 : ByteArray) {x : Row} (h : vo list0 s1 = some x) : c list0 s1 = true ∧ v list0 s1 = x := by
  unfold c v; rw [h]; exact ⟨rfl, rfl⟩
theorem b_eq {R : Type} (kr : Row → Option R) (list0 : Row) (s1 : ByteArray) (hc : c list0 s1 = true) : ∃ N, b N kr list0 s1 = kr (v list0 s1) := by
  refine ⟨Lib.big, ?_⟩
  rw [b_bind]
  have e : vo list0 s1 = some (v list0 s1) := by
    unfold c at hc; unfold v
    cases h : vo list0 s1 with
    | none => rw [h] at hc; cases hc
    | some x => rfl
  unfold vo at e
  rw [e]; rfl
end Go.FG.Pu.spec_l13Without

namespace Go.FG.Pu.spec_SketchGuess
def r5 {R : Type} (N : Nat) (g : ByteArray → Int → Int → Row → Int → Option R) (k0 : ByteArray → Int → Int → Row → Int → Option R) (x0 : ByteArray) (x1 : Int) (x2 : Int) (x3 : Row) (x4 : Int) : Option R := bif (decide (x2 < (↑(List.length x3) : Int))) then (bif (decide (0 ≤ x2) && decide (x2 < (↑(List.length x3) : Int))) then (bif (Pu.spec_SketchPlace.c x2 x0) then (bif (decide (0 ≤ Pu.spec_SketchPlace.v x2 x0) && decide (Pu.spec_SketchPlace.v x2 x0 < (↑(List.length (cvL (cellAt x3 (Int.toNat x2) 0))) : Int))) then (bif (decide (cvI (cellAt (cvL (cellAt x3 (Int.toNat x2) 0)) (Int.toNat (Pu.spec_SketchPlace.v x2 x0)) 0) < x1)) then (g x0 (cvI (cellAt (cvL (cellAt x3 (Int.toNat x2) 0)) (Int.toNat (Pu.spec_SketchPlace.v x2 x0)) 0)) (w64 (x2 + 1)) x3 x4) else (g x0 x1 (w64 (x2 + 1)) x3 x4)) else (none)) else (none)) else (none)) else (k0 x0 x1 x2 x3 x4)
def l5 {R : Type} (N : Nat) (k0 : ByteArray → Int → Int → Row → Int → Option R) : Nat → ByteArray → Int → Int → Row → Int → Option R
  | 0 => (fun _ _ _ _ _ => none)
  | n + 1 => (fun x0 x1 x2 x3 x4 => r5 N (l5 N k0 n) k0 x0 x1 x2 x3 x4)
def b {R : Type} (N : Nat) (kr : Int → Option R) (s0_0 : Row) (s0_1 : Int) (key1 : ByteArray) : Option R := bif (Pu.spec_SketchOk.c s0_0 s0_1) then (bif (!Pu.spec_SketchOk.v s0_0 s0_1) then (kr 0) else (l5 N (fun y5 y6 y7 y8 y9 => kr y6) N key1 15 0 s0_0 s0_1)) else (none)
theorem q5_bind {R S : Type} (f : R → Option S) (N : Nat) (k0 : ByteArray → Int → Int → Row → Int → Option R) : ∀ n : Nat, (∀ (x0 : ByteArray) (x1 : Int) (x2 : Int) (x3 : Row) (x4 : Int), Option.bind (l5 N k0 n x0 x1 x2 x3 x4) f = l5 N (fun y0 y1 y2 y3 y4 => (Option.bind (k0 y0 y1 y2 y3 y4) f)) n x0 x1 x2 x3 x4) := by
  intro n
  induction n with
  | zero => exact (fun _ _ _ _ _ => rfl)
  | succ n ih =>
    intro x0 x1 x2 x3 x4
    simp only [l5, r5, Lib.cond_bind, Lib.some_bind, Lib.none_bind, ih]
theorem l5_bind {R S : Type} (f : R → Option S) (N : Nat) (k0 : ByteArray → Int → Int → Row → Int → Option R) (n : Nat) (x0 : ByteArray) (x1 : Int) (x2 : Int) (x3 : Row) (x4 : Int) : Option.bind (l5 N k0 n x0 x1 x2 x3 x4) f = l5 N (fun y0 y1 y2 y3 y4 => (Option.bind (k0 y0 y1 y2 y3 y4) f)) n x0 x1 x2 x3 x4 := (q5_bind f N k0 n) x0 x1 x2 x3 x4
theorem b_bind {R : Type} (N : Nat) (kr : Int → Option R) (s0_0 : Row) (s0_1 : Int) (key1 : ByteArray) : b N kr s0_0 s0_1 key1 = Option.bind (b N (fun r0 => some (r0)) s0_0 s0_1 key1) (fun p => kr p) := by
  unfold b; simp only [Lib.cond_bind, Lib.some_bind, Lib.none_bind, l5_bind]
def vo (s0_0 : Row) (s0_1 : Int) (key1 : ByteArray) : Option (Int) := b Lib.big (fun r0 => some (r0)) s0_0 s0_1 key1
def c (s0_0 : Row) (s0_1 : Int) (key1 : ByteArray) : Bool := Option.isSome (vo s0_0 s0_1 key1)
def v (s0_0 : Row) (s0_1 : Int) (key1 : ByteArray) : Int := Option.getD (vo s0_0 s0_1 key1) (0)
theorem out (s0_0 : Row) (s0_1 : Int) (key1 : ByteArray) {x : Int} (h : vo s0_0 s0_1 key1 = some x) : c s0_0 s0_1 key1 = true ∧ v s0_0 s0_1 key1 = x := by
  unfold c v; rw [h]; exact ⟨rfl, rfl⟩
theorem b_eq {R : Type} (kr : Int → Option R) (s0_0 : Row) (s0_1 : Int) (key1 : ByteArray) (hc : c s0_0 s0_1 key1 = true) : ∃ N, b N kr s0_0 s0_1 key1 = kr (v s0_0 s0_1 key1) := by
  refine ⟨Lib.big, ?_⟩
  rw [b_bind]
  have e : vo s0_0 s0_1 key1 = some (v s0_0 s0_1 key1) := by
    unfold c at hc; unfold v
    cases h : vo s0_0 s0_1 key1 with
    | none => rw [h] at hc; cases hc
    | some x => rfl
  unfold vo at e
  rw [e]; rfl
end Go.FG.Pu.spec_SketchGuess

namespace Go.FG.Pu.spec_PolicyTouch
def b {R : Type} (kr : Row → Row → Row → Int → ByteArray → Option R) (p0_0 : Row) (p0_1 : Row) (p0_2 : Row) (p0_3 : Int) (key1 : ByteArray) : Option R := bif (Pu.spec_l13Copy.c p0_0 p0_1 p0_2 p0_3) then (bif (Pu.spec_PolicyOk.c p0_0 p0_1 p0_2 p0_3) then (bif (!Pu.spec_PolicyOk.v p0_0 p0_1 p0_2 p0_3) then (kr ((Pu.spec_l13Copy.v p0_0 p0_1 p0_2 p0_3).1) ((Pu.spec_l13Copy.v p0_0 p0_1 p0_2 p0_3).2.1) ((Pu.spec_l13Copy.v p0_0 p0_1 p0_2 p0_3).2.2.1) ((Pu.spec_l13Copy.v p0_0 p0_1 p0_2 p0_3).2.2.2) ({ data := #[] })) else (bif (!Pu.spec_l13Key.v key1) then (kr ((Pu.spec_l13Copy.v p0_0 p0_1 p0_2 p0_3).1) ((Pu.spec_l13Copy.v p0_0 p0_1 p0_2 p0_3).2.1) ((Pu.spec_l13Copy.v p0_0 p0_1 p0_2 p0_3).2.2.1) ((Pu.spec_l13Copy.v p0_0 p0_1 p0_2 p0_3).2.2.2) ({ data := #[] })) else (bif (Pu.spec_SketchBump.c p0_2 p0_3 key1) then (bif (Pu.spec_l13In.c p0_0 key1) then (bif (Pu.spec_l13In.v p0_0 key1) then (bif (Pu.spec_l13Without.c p0_0 key1) then (bif (roomy (List.length (Pu.spec_l13Without.v p0_0 key1) + List.length (List.set (zeros [Ck.s] 1) 0 [CV.s key1])) 16) then (kr (Pu.spec_l13Without.v p0_0 key1 ++ List.set (zeros [Ck.s] 1) 0 [CV.s key1]) ((Pu.spec_l13Copy.v p0_0 p0_1 p0_2 p0_3).2.1) ((Pu.spec_SketchBump.v p0_2 p0_3 key1).1) ((Pu.spec_SketchBump.v p0_2 p0_3 key1).2) ({ data := #[] })) else (none)) else (none)) else (bif (Pu.spec_l13In.c p0_1 key1) then (bif (Pu.spec_l13In.v p0_1 key1) then (bif (Pu.spec_l13Without.c p0_1 key1) then (bif (roomy (List.length (Pu.spec_l13Without.v p0_1 key1) + List.length (List.set (zeros [Ck.s] 1) 0 [CV.s key1])) 16) then (kr ((Pu.spec_l13Copy.v p0_0 p0_1 p0_2 p0_3).1) (Pu.spec_l13Without.v p0_1 key1 ++ List.set (zeros [Ck.s] 1) 0 [CV.s key1]) ((Pu.spec_SketchBump.v p0_2 p0_3 key1).1) ((Pu.spec_SketchBump.v p0_2 p0_3 key1).2) ({ data := #[] })) else (none)) else (none)) else (bif (roomy (List.length (Pu.spec_l13Copy.v p0_0 p0_1 p0_2 p0_3).1 + List.length (List.set (zeros [Ck.s] 1) 0 [CV.s key1])) 16) then (bif (decide ((↑(List.length ((Pu.spec_l13Copy.v p0_0 p0_1 p0_2 p0_3).1 ++ List.set (zeros [Ck.s] 1) 0 [CV.s key1])) : Int) ≤ 2)) then (kr ((Pu.spec_l13Copy.v p0_0 p0_1 p0_2 p0_3).1 ++ List.set (zeros [Ck.s] 1) 0 [CV.s key1]) ((Pu.spec_l13Copy.v p0_0 p0_1 p0_2 p0_3).2.1) ((Pu.spec_SketchBump.v p0_2 p0_3 key1).1) ((Pu.spec_SketchBump.v p0_2 p0_3 key1).2) ({ data := #[] })) else (bif (decide (0 < (↑(List.length ((Pu.spec_l13Copy.v p0_0 p0_1 p0_2 p0_3).1 ++ List.set (zeros [Ck.s] 1) 0 [CV.s key1])) : Int))) then (bif (inB 1 (↑(List.length ((Pu.spec_l13Copy.v p0_0 p0_1 p0_2 p0_3).1 ++ List.set (zeros [Ck.s] 1) 0 [CV.s key1])) : Int) (↑(List.length ((Pu.spec_l13Copy.v p0_0 p0_1 p0_2 p0_3).1 ++ List.set (zeros [Ck.s] 1) 0 [CV.s key1])) : Int)) then (bif (roomy (List.length (zeros [Ck.s] 0) + List.length (view ((Pu.spec_l13Copy.v p0_0 p0_1 p0_2 p0_3).1 ++ List.set (zeros [Ck.s] 1) 0 [CV.s key1]) (Int.toNat 1) (Int.toNat (↑(List.length ((Pu.spec_l13Copy.v p0_0 p0_1 p0_2 p0_3).1 ++ List.set (zeros [Ck.s] 1) 0 [CV.s key1])) : Int)))) 16) then (bif (decide ((↑(List.length (Pu.spec_l13Copy.v p0_0 p0_1 p0_2 p0_3).2.1) : Int) < 4)) then (bif (roomy (List.length (Pu.spec_l13Copy.v p0_0 p0_1 p0_2 p0_3).2.1 + List.length (List.set (zeros [Ck.s] 1) 0 [CV.s (cvS (cellAt ((Pu.spec_l13Copy.v p0_0 p0_1 p0_2 p0_3).1 ++ List.set (zeros [Ck.s] 1) 0 [CV.s key1]) (Int.toNat 0) 0))])) 16) then (kr (zeros [Ck.s] 0 ++ view ((Pu.spec_l13Copy.v p0_0 p0_1 p0_2 p0_3).1 ++ List.set (zeros [Ck.s] 1) 0 [CV.s key1]) (Int.toNat 1) (Int.toNat (↑(List.length ((Pu.spec_l13Copy.v p0_0 p0_1 p0_2 p0_3).1 ++ List.set (zeros [Ck.s] 1) 0 [CV.s key1])) : Int))) ((Pu.spec_l13Copy.v p0_0 p0_1 p0_2 p0_3).2.1 ++ List.set (zeros [Ck.s] 1) 0 [CV.s (cvS (cellAt ((Pu.spec_l13Copy.v p0_0 p0_1 p0_2 p0_3).1 ++ List.set (zeros [Ck.s] 1) 0 [CV.s key1]) (Int.toNat 0) 0))]) ((Pu.spec_SketchBump.v p0_2 p0_3 key1).1) ((Pu.spec_SketchBump.v p0_2 p0_3 key1).2) ({ data := #[] })) else (none)) else (bif (Pu.spec_SketchGuess.c (Pu.spec_SketchBump.v p0_2 p0_3 key1).1 (Pu.spec_SketchBump.v p0_2 p0_3 key1).2 (cvS (cellAt ((Pu.spec_l13Copy.v p0_0 p0_1 p0_2 p0_3).1 ++ List.set (zeros [Ck.s] 1) 0 [CV.s key1]) (Int.toNat 0) 0))) then (bif (decide (0 < (↑(List.length (Pu.spec_l13Copy.v p0_0 p0_1 p0_2 p0_3).2.1) : Int))) then (bif (Pu.spec_SketchGuess.c (Pu.spec_SketchBump.v p0_2 p0_3 key1).1 (Pu.spec_SketchBump.v p0_2 p0_3 key1).2 (cvS (cellAt (Pu.spec_l13Copy.v p0_0 p0_1 p0_2 p0_3).2.1 (Int.toNat 0) 0))) then (bif (decide (Pu.spec_SketchGuess.v (Pu.spec_SketchBump.v p0_2 p0_3 key1).1 (Pu.spec_SketchBump.v p0_2 p0_3 key1).2 (cvS (cellAt ((Pu.spec_l13Copy.v p0_0 p0_1 p0_2 p0_3).1 ++ List.set (zeros [Ck.s] 1) 0 [CV.s key1]) (Int.toNat 0) 0)) > Pu.spec_SketchGuess.v (Pu.spec_SketchBump.v p0_2 p0_3 key1).1 (Pu.spec_SketchBump.v p0_2 p0_3 key1).2 (cvS (cellAt (Pu.spec_l13Copy.v p0_0 p0_1 p0_2 p0_3).2.1 (Int.toNat 0) 0)))) then (bif (decide (0 < (↑(List.length (Pu.spec_l13Copy.v p0_0 p0_1 p0_2 p0_3).2.1) : Int))) then (bif (inB 1 (↑(List.length (Pu.spec_l13Copy.v p0_0 p0_1 p0_2 p0_3).2.1) : Int) (↑(List.length (Pu.spec_l13Copy.v p0_0 p0_1 p0_2 p0_3).2.1) : Int)) then (bif (roomy (List.length (zeros [Ck.s] 0) + List.length (view (Pu.spec_l13Copy.v p0_0 p0_1 p0_2 p0_3).2.1 (Int.toNat 1) (Int.toNat (↑(List.length (Pu.spec_l13Copy.v p0_0 p0_1 p0_2 p0_3).2.1) : Int)))) 16) then (bif (roomy (List.length (zeros [Ck.s] 0 ++ view (Pu.spec_l13Copy.v p0_0 p0_1 p0_2 p0_3).2.1 (Int.toNat 1) (Int.toNat (↑(List.length (Pu.spec_l13Copy.v p0_0 p0_1 p0_2 p0_3).2.1) : Int))) + List.length (List.set (zeros [Ck.s] 1) 0 [CV.s (cvS (cellAt ((Pu.spec_l13Copy.v p0_0 p0_1 p0_2 p0_3).1 ++ List.set (zeros [Ck.s] 1) 0 [CV.s key1]) (Int.toNat 0) 0))])) 16) then (kr (zeros [Ck.s] 0 ++ view ((Pu.spec_l13Copy.v p0_0 p0_1 p0_2 p0_3).1 ++ List.set (zeros [Ck.s] 1) 0 [CV.s key1]) (Int.toNat 1) (Int.toNat (↑(List.length ((Pu.spec_l13Copy.v p0_0 p0_1 p0_2 p0_3).1 ++ List.set (zeros [Ck.s] 1) 0 [CV.s key1])) : Int))) (zeros [Ck.s] 0 ++ view (Pu.spec_l13Copy.v p0_0 p0_1 p0_2 p0_3).2.1 (Int.toNat 1) (Int.toNat (↑(List.length (Pu.spec_l13Copy.v p0_0 p0_1 p0_2 p0_3).2.1) : Int)) ++ List.set (zeros [Ck.s] 1) 0 [CV.s (cvS (cellAt ((Pu.spec_l13Copy.v p0_0 p0_1 p0_2 p0_3).1 ++ List.set (zeros [Ck.s] 1) 0 [CV.s key1]) (Int.toNat 0) 0))]) ((Pu.spec_SketchBump.v p0_2 p0_3 key1).1) ((Pu.spec_SketchBump.v p0_2 p0_3 key1).2) (cvS (cellAt (Pu.spec_l13Copy.v p0_0 p0_1 p0_2 p0_3).2.1 (Int.toNat 0) 0))) else (none)) else (none)) else (none)) else (none)) else (kr (zeros [Ck.s] 0 ++ view ((Pu.spec_l13Copy.v p0_0 p0_1 p0_2 p0_3).1 ++ List.set (zeros [Ck.s] 1) 0 [CV.s key1]) (Int.toNat 1) (Int.toNat (↑(List.length ((Pu.spec_l13Copy.v p0_0 p0_1 p0_2 p0_3).1 ++ List.set (zeros [Ck.s] 1) 0 [CV.s key1])) : Int))) ((Pu.spec_l13Copy.v p0_0 p0_1 p0_2 p0_3).2.1) ((Pu.spec_SketchBump.v p0_2 p0_3 key1).1) ((Pu.spec_SketchBump.v p0_2 p0_3 key1).2) (cvS (cellAt ((Pu.spec_l13Copy.v p0_0 p0_1 p0_2 p0_3).1 ++ List.set (zeros [Ck.s] 1) 0 [CV.s key1]) (Int.toNat 0) 0)))) else (none)) else (none)) else (none))) else (none)) else (none)) else (none))) else (none))) else (none))) else (none)) else (none)))) else (none)) else (none)
theorem b_bind {R : Type} (kr : Row → Row → Row → Int → ByteArray → Option R) (p0_0 : Row) (p0_1 : Row) (p0_2 : Row) (p0_3 : Int) (key1 : ByteArray) : b kr p0_0 p0_1 p0_2 p0_3 key1 = Option.bind (b (fun r0 r1 r2 r3 r4 => some (r0, r1, r2, r3, r4)) p0_0 p0_1 p0_2 p0_3 key1) (fun p => kr p.1 p.2.1 p.2.2.1 p.2.2.2.1 p.2.2.2.2) := by
  unfold b; simp only [Lib.cond_bind, Lib.some_bind, Lib.none_bind]
def vo (p0_0 : Row) (p0_1 : Row) (p0_2 : Row) (p0_3 : Int) (key1 : ByteArray) : Option (Row × Row × Row × Int × ByteArray) := b (fun r0 r1 r2 r3 r4 => some (r0, r1, r2, r3, r4)) p0_0 p0_1 p0_2 p0_3 key1
def c (p0_0 : Row) (p0_1 : Row) (p0_2 : Row) (p0_3 : Int) (key1 : ByteArray) : Bool := Option.isSome (vo p0_0 p0_1 p0_2 p0_3 key1)
def v (p0_0 : Row) (p0_1 : Row) (p0_2 : Row) (p0_3 : Int) (key1 : ByteArray) : Row × Row × Row × Int × ByteArray := Option.getD (vo p0_0 p0_1 p0_2 p0_3 key1) ([], [], [], 0, ⟨#[]⟩)
theorem out (p0_0 : Row) (p0_1 : Row) (p0_2 : Row) (p0_3 : Int) (key1 : ByteArray) {x : Row × Row × Row × Int × ByteArray} (h : vo p0_0 p0_1 p0_2 p0_3 key1 = some x) : c p0_0 p0_1 p0_2 p0_3 key1 = true ∧ v p0_0 p0_1 p0_2 p0_3 key1 = x := by
  unfold c v; rw [h]; exact ⟨rfl, rfl⟩
theorem b_eq {R : Type} (kr : Row → Row → Row → Int → ByteArray → Option R) (p0_0 : Row) (p0_1 : Row) (p0_2 : Row) (p0_3 : Int) (key1 : ByteArray) (hc : c p0_0 p0_1 p0_2 p0_3 key1 = true) : b kr p0_0 p0_1 p0_2 p0_3 key1 = kr ((v p0_0 p0_1 p0_2 p0_3 key1).1) ((v p0_0 p0_1 p0_2 p0_3 key1).2.1) ((v p0_0 p0_1 p0_2 p0_3 key1).2.2.1) ((v p0_0 p0_1 p0_2 p0_3 key1).2.2.2.1) ((v p0_0 p0_1 p0_2 p0_3 key1).2.2.2.2) := by
  rw [b_bind]
  have e : vo p0_0 p0_1 p0_2 p0_3 key1 = some (v p0_0 p0_1 p0_2 p0_3 key1) := by
    unfold c at hc; unfold v
    cases h : vo p0_0 p0_1 p0_2 p0_3 key1 with
    | none => rw [h] at hc; cases hc
    | some x => rfl
  unfold vo at e
  rw [e]; rfl
end Go.FG.Pu.spec_PolicyTouch

namespace Go.FG.Pu.impl_copyTexts
def b {R : Type} (kr : Row → Option R) (l0 : Row) : Option R := bif (roomy (List.length (zeros [Ck.s] 0) + List.length l0) 16) then (kr (zeros [Ck.s] 0 ++ l0)) else (none)
theorem b_bind {R : Type} (kr : Row → Option R) (l0 : Row) : b kr l0 = Option.bind (b (fun r0 => some (r0)) l0) (fun p => kr p) := by
  unfold b; simp only [Lib.cond_bind, Lib.some_bind, Lib.none_bind]
def vo (l0 : Row) : Option (Row) := b (fun r0 => some (r0)) l0
def c (l0 : Row) : Bool := Option.isSome (vo l0)
def v (l0 : Row) : Row := Option.getD (vo l0) ([])
theorem out (l0 : Row) {x : Row} (h : vo l0 = some x) : c l0 = true ∧ v l0 = x := by
  unfold c v; rw [h]; exact ⟨rfl, rfl⟩
theorem b_eq {R : Type} (kr : Row → Option R) (l0 : Row) (hc : c l0 = true) : b kr l0 = kr (v l0) := by
  rw [b_bind]
  have e : vo l0 = some (v l0) := by
    unfold c at hc; unfold v
    cases h : vo l0 with
    | none => rw [h] at hc; cases hc
    | some x => rfl
  unfold vo at e
  rw [e]; rfl
end Go.FG.Pu.impl_copyTexts

namespace Go.FG.Pu.impl_copyInts
def b {R : Type} (kr : Row → Option R) (l0 : Row) : Option R := bif (roomy (List.length (zeros [Ck.i IntKind.i64] 0) + List.length l0) 8) then (kr (zeros [Ck.i IntKind.i64] 0 ++ l0)) else (none)
theorem b_bind {R : Type} (kr : Row → Option R) (l0 : Row) : b kr l0 = Option.bind (b (fun r0 => some (r0)) l0) (fun p => kr p) := by
  unfold b; simp only [Lib.cond_bind, Lib.some_bind, Lib.none_bind]
def vo (l0 : Row) : Option (Row) := b (fun r0 => some (r0)) l0
def c (l0 : Row) : Bool := Option.isSome (vo l0)
def v (l0 : Row) : Row := Option.getD (vo l0) ([])
theorem out (l0 : Row) {x : Row} (h : vo l0 = some x) : c l0 = true ∧ v l0 = x := by
  unfold c v; rw [h]; exact ⟨rfl, rfl⟩
theorem b_eq {R : Type} (kr : Row → Option R) (l0 : Row) (hc : c l0 = true) : b kr l0 = kr (v l0) := by
  rw [b_bind]
  have e : vo l0 = some (v l0) := by
    unfold c at hc; unfold v
    cases h : vo l0 with
    | none => rw [h] at hc; cases hc
    | some x => rfl
  unfold vo at e
  rw [e]; rfl
end Go.FG.Pu.impl_copyInts

namespace Go.FG.Pu.impl_copySketch
def r3 {R : Type} (N : Nat) (g : Row → Int → Int → Int → Int → Option R) (g1 : Row → Int → Int → Int → Int → Row → Option R) (k0 : Row → Int → Int → Int → Int → Option R) (k1 : Row → Int → Int → Int → Int → Row → Option R) (x0 : Row) (x1 : Int) (x2 : Int) (x3 : Int) (x4 : Int) : Option R := bif (decide (x2 < x1)) then (bif (decide (0 ≤ x2) && decide (x2 < (↑(List.length x0) : Int))) then (bif (Pu.impl_copyInts.c (cvL (cellAt x0 (Int.toNat x2) 0))) then (g1 x0 x1 (w64 (x2 + 1)) x3 x4 ([] ++ List.set (zeros [Ck.l 3] 1) 0 [CV.l 3 (Pu.impl_copyInts.v (cvL (cellAt x0 (Int.toNat x2) 0)))])) else (none)) else (none)) else (k0 x0 x1 x2 x3 x4)
def r3a {R : Type} (N : Nat) (g : Row → Int → Int → Int → Int → Option R) (g1 : Row → Int → Int → Int → Int → Row → Option R) (k0 : Row → Int → Int → Int → Int → Option R) (k1 : Row → Int → Int → Int → Int → Row → Option R) (x5 : Row) (x6 : Int) (x7 : Int) (x8 : Int) (x9 : Int) (x10 : Row) : Option R := bif (decide (x7 < x6)) then (bif (decide (0 ≤ x7) && decide (x7 < (↑(List.length x5) : Int))) then (bif (Pu.impl_copyInts.c (cvL (cellAt x5 (Int.toNat x7) 0))) then (bif (roomy (List.length x10 + List.length (List.set (zeros [Ck.l 3] 1) 0 [CV.l 3 (Pu.impl_copyInts.v (cvL (cellAt x5 (Int.toNat x7) 0)))])) 24) then (g1 x5 x6 (w64 (x7 + 1)) x8 x9 (x10 ++ List.set (zeros [Ck.l 3] 1) 0 [CV.l 3 (Pu.impl_copyInts.v (cvL (cellAt x5 (Int.toNat x7) 0)))])) else (none)) else (none)) else (none)) else (k1 x5 x6 x7 x8 x9 x10)
def l3a {R : Type} (N : Nat) (k0 : Row → Int → Int → Int → Int → Option R) (k1 : Row → Int → Int → Int → Int → Row → Option R) : Nat → Row → Int → Int → Int → Int → Row → Option R
  | 0 => (fun _ _ _ _ _ _ => none)
  | n + 1 => (fun x5 x6 x7 x8 x9 x10 => r3a N (fun x0 x1 x2 x3 x4 => none) (l3a N k0 k1 n) k0 k1 x5 x6 x7 x8 x9 x10)
def l3 {R : Type} (N : Nat) (k0 : Row → Int → Int → Int → Int → Option R) (k1 : Row → Int → Int → Int → Int → Row → Option R) : Nat → Row → Int → Int → Int → Int → Option R
  | 0 => (fun _ _ _ _ _ => none)
  | n + 1 => (fun x0 x1 x2 x3 x4 => r3 N (l3 N k0 k1 n) (l3a N k0 k1 n) k0 k1 x0 x1 x2 x3 x4)
def b {R : Type} (N : Nat) (kr : Row → Int → Option R) (s0_0 : Row) (s0_1 : Int) : Option R := l3 N (fun y11 y12 y13 y14 y15 => kr [] y15) (fun y16 y17 y18 y19 y20 y21 => kr y21 y20) N s0_0 (↑(List.length s0_0) : Int) 0 0 s0_1
theorem q3_bind {R S : Type} (f : R → Option S) (N : Nat) (k0 : Row → Int → Int → Int → Int → Option R) (k1 : Row → Int → Int → Int → Int → Row → Option R) : ∀ n : Nat, (∀ (x0 : Row) (x1 : Int) (x2 : Int) (x3 : Int) (x4 : Int), Option.bind (l3 N k0 k1 n x0 x1 x2 x3 x4) f = l3 N (fun y0 y1 y2 y3 y4 => (Option.bind (k0 y0 y1 y2 y3 y4) f)) (fun y0 y1 y2 y3 y4 y5 => (Option.bind (k1 y0 y1 y2 y3 y4 y5) f)) n x0 x1 x2 x3 x4) ∧ (∀ (x5 : Row) (x6 : Int) (x7 : Int) (x8 : Int) (x9 : Int) (x10 : Row), Option.bind (l3a N k0 k1 n x5 x6 x7 x8 x9 x10) f = l3a N (fun y0 y1 y2 y3 y4 => (Option.bind (k0 y0 y1 y2 y3 y4) f)) (fun y0 y1 y2 y3 y4 y5 => (Option.bind (k1 y0 y1 y2 y3 y4 y5) f)) n x5 x6 x7 x8 x9 x10) := by
  intro n
  induction n with
  | zero => exact ⟨(fun _ _ _ _ _ => rfl), (fun _ _ _ _ _ _ => rfl)⟩
  | succ n ih =>
    refine ⟨?_, ?_⟩
    · intro x0 x1 x2 x3 x4
      simp only [l3, r3, Lib.cond_bind, Lib.some_bind, Lib.none_bind, ih.1, ih.2]
    · intro x5 x6 x7 x8 x9 x10
      simp only [l3a, r3a, Lib.cond_bind, Lib.some_bind, Lib.none_bind, ih.1, ih.2]
theorem l3_bind {R S : Type} (f : R → Option S) (N : Nat) (k0 : Row → Int → Int → Int → Int → Option R) (k1 : Row → Int → Int → Int → Int → Row → Option R) (n : Nat) (x0 : Row) (x1 : Int) (x2 : Int) (x3 : Int) (x4 : Int) : Option.bind (l3 N k0 k1 n x0 x1 x2 x3 x4) f = l3 N (fun y0 y1 y2 y3 y4 => (Option.bind (k0 y0 y1 y2 y3 y4) f)) (fun y0 y1 y2 y3 y4 y5 => (Option.bind (k1 y0 y1 y2 y3 y4 y5) f)) n x0 x1 x2 x3 x4 := (q3_bind f N k0 k1 n).1 x0 x1 x2 x3 x4
theorem l3a_bind {R S : Type} (f : R → Option S) (N : Nat) (k0 : Row → Int → Int → Int → Int → Option R) (k1 : Row → Int → Int → Int → Int → Row → Option R) (n : Nat) (x5 : Row) (x6 : Int) (x7 : Int) (x8 : Int) (x9 : Int) (x10 : Row) : Option.bind (l3a N k0 k1 n x5 x6 x7 x8 x9 x10) f = l3a N (fun y0 y1 y2 y3 y4 => (Option.bind (k0 y0 y1 y2 y3 y4) f)) (fun y0 y1 y2 y3 y4 y5 => (Option.bind (k1 y0 y1 y2 y3 y4 y5) f)) n x5 x6 x7 x8 x9 x10 := (q3_bind f N k0 k1 n).2 x5 x6 x7 x8 x9 x10
theorem b_bind {R : Type} (N : Nat) (kr : Row → Int → Option R) (s0_0 : Row) (s0_1 : Int) : b N kr s0_0 s0_1 = Option.bind (b N (fun r0 r1 => some (r0, r1)) s0_0 s0_1) (fun p => kr p.1 p.2) := by
  unfold b; simp only [Lib.cond_bind, Lib.some_bind, Lib.none_bind, l3_bind, l3a_bind]
def vo (s0_0 : Row) (s0_1 : Int) : Option (Row × Int) := b Lib.big (fun r0 r1 => some (r0, r1)) s0_0 s0_1
def c (s0_0 : Row) (s0_1 : Int) : Bool := Option.isSome (vo s0_0 s0_1)
def v (s0_0 : Row) (s0_1 : Int) : Row × Int := Option.getD (vo s0_0 s0_1) ([], 0)
theorem out (s0_0 : Row) (s0_1 : Int) {x : Row × Int} (h : vo s0_0 s0_1 = some x) : c s0_0 s0_1 = true ∧ v s0_0 s0_1 = x := by
  unfold c v; rw [h]; exact ⟨rfl, rfl⟩
theorem b_eq {R : Type} (kr : Row → Int → Option R) (s0_0 : Row) (s0_1 : Int) (hc : c s0_0 s0_1 = true) : ∃ N, b N kr s0_0 s0_1 = kr ((v s0_0 s0_1).1) ((v s0_0 s0_1).2) := by
  refine ⟨Lib.big, ?_⟩
  rw [b_bind]
  have e : vo s0_0 s0_1 = some (v s0_0 s0_1) := by
    unfold c at hc; unfold v
    cases h : vo s0_0 s0_1 with
    | none => rw [h] at hc; cases hc
    | some x => rfl
  unfold vo at e
  rw [e]; rfl
end Go.FG.Pu.impl_copySketch

namespace Go.FG.Pu.impl_copyPolicy
def b {R : Type} (kr : Row → Row → Row → Int → Option R) (p0_0 : Row) (p0_1 : Row) (p0_2 : Row) (p0_3 : Int) : Option R := bif (Pu.impl_copyTexts.c p0_0) then (bif (Pu.impl_copyTexts.c p0_1) then (bif (Pu.impl_copySketch.c p0_2 p0_3) then (kr (Pu.impl_copyTexts.v p0_0) (Pu.impl_copyTexts.v p0_1) ((Pu.impl_copySketch.v p0_2 p0_3).1) ((Pu.impl_copySketch.v p0_2 p0_3).2)) else (none)) else (none)) else (none)
theorem b_bind {R : Type} (kr : Row → Row → Row → Int → Option R) (p0_0 : Row) (p0_1 : Row) (p0_2 : Row) (p0_3 : Int) : b kr p0_0 p0_1 p0_2 p0_3 = Option.bind (b (fun r0 r1 r2 r3 => some (r0, r1, r2, r3)) p0_0 p0_1 p0_2 p0_3) (fun p => kr p.1 p.2.1 p.2.2.1 p.2.2.2) := by
  unfold b; simp only [Lib.cond_bind, Lib.some_bind, Lib.none_bind]
def vo (p0_0 : Row) (p0_1 : Row) (p0_2 : Row) (p0_3 : Int) : Option (Row × Row × Row × Int) := b (fun r0 r1 r2 r3 => some (r0, r1, r2, r3)) p0_0 p0_1 p0_2 p0_3
def c (p0_0 : Row) (p0_1 : Row) (p0_2 : Row) (p0_3 : Int) : Bool := Option.isSome (vo p0_0 p0_1 p0_2 p0_3)
def v (p0_0 : Row) (p0_1 : Row) (p0_2 : Row) (p0_3 : Int) : Row × Row × Row × Int := Option.getD (vo p0_0 p0_1 p0_2 p0_3) ([], [], [], 0)
theorem out (p0_0 : Row) (p0_1 : Row) (p0_2 : Row) (p0_3 : Int) {x : Row × Row × Row × Int} (h : vo p0_0 p0_1 p0_2 p0_3 = some x) : c p0_0 p0_1 p0_2 p0_3 = true ∧ v p0_0 p0_1 p0_2 p0_3 = x := by
  unfold c v; rw [h]; exact ⟨rfl, rfl⟩
theorem b_eq {R : Type} (kr : Row → Row → Row → Int → Option R) (p0_0 : Row) (p0_1 : Row) (p0_2 : Row) (p0_3 : Int) (hc : c p0_0 p0_1 p0_2 p0_3 = true) : b kr p0_0 p0_1 p0_2 p0_3 = kr ((v p0_0 p0_1 p0_2 p0_3).1) ((v p0_0 p0_1 p0_2 p0_3).2.1) ((v p0_0 p0_1 p0_2 p0_3).2.2.1) ((v p0_0 p0_1 p0_2 p0_3).2.2.2) := by
  rw [b_bind]
  have e : vo p0_0 p0_1 p0_2 p0_3 = some (v p0_0 p0_1 p0_2 p0_3) := by
    unfold c at hc; unfold v
    cases h : vo p0_0 p0_1 p0_2 p0_3 with
    | none => rw [h] at hc; cases hc
    | some x => rfl
  unfold vo at e
  rw [e]; rfl
end Go.FG.Pu.impl_copyPolicy

namespace Go.FG.Pu.slices_Grow_string
def b {R : Type} (kr : Row → Option R) (n1 : Int) : Option R := bif (decide (n1 < 0)) then (none) else (bif (decide (w64 (n1 - w64 (0 - 0)) > 0)) then (bif (decide (0 ≤ w64 (n1 - w64 (0 - 0))) && roomy (List.length ([] : Row) + Int.toNat (w64 (n1 - w64 (0 - 0)))) 16 && decide (w64 (n1 - w64 (0 - 0)) ≤ 9223372036854775807)) then (kr (view ([] ++ zeros [Ck.s] (Int.toNat (w64 (n1 - w64 (0 - 0))))) (Int.toNat 0) (Int.toNat 0))) else (none)) else (kr []))
theorem b_bind {R : Type} (kr : Row → Option R) (n1 : Int) : b kr n1 = Option.bind (b (fun r0 => some (r0)) n1) (fun p => kr p) := by
  unfold b; simp only [Lib.cond_bind, Lib.some_bind, Lib.none_bind]
def vo (n1 : Int) : Option (Row) := b (fun r0 => some (r0)) n1
def c (n1 : Int) : Bool := Option.isSome (vo n1)
def v (n1 : Int) : Row := Option.getD (vo n1) ([])
theorem out (n1 : Int) {x : Row} (h : vo n1 = some x) : c n1 = true ∧ v n1 = x := by
  unfold c v; rw [h]; exact ⟨rfl, rfl⟩
theorem b_eq {R : Type} (kr : Row → Option R) (n1 : Int) (hc : c n1 = true) : b kr n1 = kr (v n1) := by
  rw [b_bind]
  have e : vo n1 = some (v n1) := by
    unfold c at hc; unfold v
    cases h : vo n1 with
    | none => rw [h] at hc; cases hc
    | some x => rfl
  unfold vo at e
  rw [e]; rfl
end Go.FG.Pu.slices_Grow_string

namespace Go.FG.Pu.slices_Concat_string
def r11 {R : Type} (N : Nat) (g : Row → Int → Int → Row → Option R) (k0 : Row → Int → Int → Row → Option R) (x10 : Row) (x11 : Int) (x12 : Int) (x13 : Row) : Option R := bif (decide (x12 < x11)) then (bif (decide (0 ≤ x12) && decide (x12 < (↑(List.length x10) : Int))) then (bif (roomy (List.length x13 + List.length (cvL (cellAt x10 (Int.toNat x12) 0))) 16) then (g x10 x11 (w64 (x12 + 1)) (x13 ++ cvL (cellAt x10 (Int.toNat x12) 0))) else (none)) else (none)) else (k0 x10 x11 x12 x13)
def l11 {R : Type} (N : Nat) (k0 : Row → Int → Int → Row → Option R) : Nat → Row → Int → Int → Row → Option R
  | 0 => (fun _ _ _ _ => none)
  | n + 1 => (fun x10 x11 x12 x13 => r11 N (l11 N k0 n) k0 x10 x11 x12 x13)
def r3 {R : Type} (N : Nat) (g : Row → Int → Row → Int → Int → Option R) (k0 : Row → Int → Row → Int → Int → Option R) (x0 : Row) (x1 : Int) (x2 : Row) (x3 : Int) (x4 : Int) : Option R := bif (decide (x4 < x3)) then (bif (decide (0 ≤ x4) && decide (x4 < (↑(List.length x2) : Int))) then (bif (decide (w64 (x1 + (↑(List.length (cvL (cellAt x2 (Int.toNat x4) 0))) : Int)) < 0)) then (none) else (g x0 (w64 (x1 + (↑(List.length (cvL (cellAt x2 (Int.toNat x4) 0))) : Int))) x2 x3 (w64 (x4 + 1)))) else (none)) else (k0 x0 x1 x2 x3 x4)
def l3 {R : Type} (N : Nat) (k0 : Row → Int → Row → Int → Int → Option R) : Nat → Row → Int → Row → Int → Int → Option R
  | 0 => (fun _ _ _ _ _ => none)
  | n + 1 => (fun x0 x1 x2 x3 x4 => r3 N (l3 N k0 n) k0 x0 x1 x2 x3 x4)
def b {R : Type} (N : Nat) (kr : Row → Option R) (slices0 : Row) : Option R := l3 N (fun y5 y6 y7 y8 y9 => bif (Pu.slices_Grow_string.c y6) then (l11 N (fun y14 y15 y16 y17 => kr y17) N y5 (↑(List.length y5) : Int) 0 (Pu.slices_Grow_string.v y6)) else (none)) N slices0 0 slices0 (↑(List.length slices0) : Int) 0
theorem q11_bind {R S : Type} (f : R → Option S) (N : Nat) (k0 : Row → Int → Int → Row → Option R) : ∀ n : Nat, (∀ (x10 : Row) (x11 : Int) (x12 : Int) (x13 : Row), Option.bind (l11 N k0 n x10 x11 x12 x13) f = l11 N (fun y0 y1 y2 y3 => (Option.bind (k0 y0 y1 y2 y3) f)) n x10 x11 x12 x13) := by
  intro n
  induction n with
  | zero => exact (fun _ _ _ _ => rfl)
  | succ n ih =>
    intro x10 x11 x12 x13
    simp only [l11, r11, Lib.cond_bind, Lib.some_bind, Lib.none_bind, ih]
theorem l11_bind {R S : Type} (f : R → Option S) (N : Nat) (k0 : Row → Int → Int → Row → Option R) (n : Nat) (x10 : Row) (x11 : Int) (x12 : Int) (x13 : Row) : Option.bind (l11 N k0 n x10 x11 x12 x13) f = l11 N (fun y0 y1 y2 y3 => (Option.bind (k0 y0 y1 y2 y3) f)) n x10 x11 x12 x13 := (q11_bind f N k0 n) x10 x11 x12 x13
theorem q3_bind {R S : Type} (f : R → Option S) (N : Nat) (k0 : Row → Int → Row → Int → Int → Option R) : ∀ n : Nat, (∀ (x0 : Row) (x1 : Int) (x2 : Row) (x3 : Int) (x4 : Int), Option.bind (l3 N k0 n x0 x1 x2 x3 x4) f = l3 N (fun y0 y1 y2 y3 y4 => (Option.bind (k0 y0 y1 y2 y3 y4) f)) n x0 x1 x2 x3 x4) := by
  intro n
  induction n with
  | zero => exact (fun _ _ _ _ _ => rfl)
  | succ n ih =>
    intro x0 x1 x2 x3 x4
    simp only [l3, r3, Lib.cond_bind, Lib.some_bind, Lib.none_bind, ih, l11_bind]
theorem l3_bind {R S : Type} (f : R → Option S) (N : Nat) (k0 : Row → Int → Row → Int → Int → Option R) (n : Nat) (x0 : Row) (x1 : Int) (x2 : Row) (x3 : Int) (x4 : Int) : Option.bind (l3 N k0 n x0 x1 x2 x3 x4) f = l3 N (fun y0 y1 y2 y3 y4 => (Option.bind (k0 y0 y1 y2 y3 y4) f)) n x0 x1 x2 x3 x4 := (q3_bind f N k0 n) x0 x1 x2 x3 x4
theorem b_bind {R : Type} (N : Nat) (kr : Row → Option R) (slices0 : Row) : b N kr slices0 = Option.bind (b N (fun r0 => some (r0)) slices0) (fun p => kr p) := by
  unfold b; simp only [Lib.cond_bind, Lib.some_bind, Lib.none_bind, l11_bind, l3_bind]
def vo (slices0 : Row) : Option (Row) := b Lib.big (fun r0 => some (r0)) slices0
def c (slices0 : Row) : Bool := Option.isSome (vo slices0)
def v (slices0 : Row) : Row := Option.getD (vo slices0) ([])
theorem out (slices0 : Row) {x : Row} (h : vo slices0 = some x) : c slices0 = true ∧ v slices0 = x := by
  unfold c v; rw [h]; exact ⟨rfl, rfl⟩
theorem b_eq {R : Type} (kr : Row → Option R) (slices0 : Row) (hc : c slices0 = true) : ∃ N, b N kr slices0 = kr (v slices0) := by
  refine ⟨Lib.big, ?_⟩
  rw [b_bind]
  have e : vo slices0 = some (v slices0) := by
    unfold c at hc; unfold v
    cases h : vo slices0 with
    | none => rw [h] at hc; cases hc
    | some x => rfl
  unfold vo at e
  rw [e]; rfl
end Go.FG.Pu.slices_Concat_string

namespace Go.FG.Pu.impl_keysIn
def b {R : Type} (kr : Row → Option R) (p0_0 : Row) (p0_1 : Row) (p0_2 : Row) (p0_3 : Int) : Option R := bif (Pu.slices_Concat_string.c (List.set (List.set (zeros [Ck.l 9] 2) 0 [CV.l 9 p0_0]) 1 [CV.l 9 p0_1])) then (kr (Pu.slices_Concat_string.v (List.set (List.set (zeros [Ck.l 9] 2) 0 [CV.l 9 p0_0]) 1 [CV.l 9 p0_1]))) else (none)
theorem b_bind {R : Type} (kr : Row → Option R) (p0_0 : Row) (p0_1 : Row) (p0_2 : Row) (p0_3 : Int) : b kr p0_0 p0_1 p0_2 p0_3 = Option.bind (b (fun r0 => some (r0)) p0_0 p0_1 p0_2 p0_3) (fun p => kr p) := by
  unfold b; simp only [Lib.cond_bind, Lib.some_bind, Lib.none_bind]
def vo (p0_0 : Row) (p0_1 : Row) (p0_2 : Row) (p0_3 : Int) : Option (Row) := b (fun r0 => some (r0)) p0_0 p0_1 p0_2 p0_3
def c (p0_0 : Row) (p0_1 : Row) (p0_2 : Row) (p0_3 : Int) : Bool := Option.isSome (vo p0_0 p0_1 p0_2 p0_3)
def v (p0_0 : Row) (p0_1 : Row) (p0_2 : Row) (p0_3 : Int) : Row := Option.getD (vo p0_0 p0_1 p0_2 p0_3) ([])
theorem out (p0_0 : Row) (p0_1 : Row) (p0_2 : Row) (p0_3 : Int) {x : Row} (h : vo p0_0 p0_1 p0_2 p0_3 = some x) : c p0_0 p0_1 p0_2 p0_3 = true ∧ v p0_0 p0_1 p0_2 p0_3 = x := by
  unfold c v; rw [h]; exact ⟨rfl, rfl⟩
theorem b_eq {R : Type} (kr : Row → Option R) (p0_0 : Row) (p0_1 : Row) (p0_2 : Row) (p0_3 : Int) (hc : c p0_0 p0_1 p0_2 p0_3 = true) : b kr p0_0 p0_1 p0_2 p0_3 = kr (v p0_0 p0_1 p0_2 p0_3) := by
  rw [b_bind]
  have e : vo p0_0 p0_1 p0_2 p0_3 = some (v p0_0 p0_1 p0_2 p0_3) := by
    unfold c at hc; unfold v
    cases h : vo p0_0 p0_1 p0_2 p0_3 with
    | none => rw [h] at hc; cases hc
    | some x => rfl
  unfold vo at e
  rw [e]; rfl
end Go.FG.Pu.impl_keysIn

namespace Go.FG.Pu.impl_within
def b {R : Type} (kr : Bool → Option R) (n0 : Int) (low1 : Int) (high2 : Int) : Option R := bif (decide (n0 ≥ low1)) then (kr (decide (n0 ≤ high2))) else (kr false)
def v (n0 : Int) (low1 : Int) (high2 : Int) : Bool := bif (decide (n0 ≥ low1)) then (((decide (n0 ≤ high2)))) else ((false))
theorem b_eq {R : Type} (kr : Bool → Option R) (n0 : Int) (low1 : Int) (high2 : Int) : b kr n0 low1 high2 = kr (v n0 low1 high2) := by
  first | rfl | (unfold b v; simp only [Bool.cond_eq_ite]; (repeat' split) <;> rfl)
end Go.FG.Pu.impl_within

namespace Go.FG.Pu.impl_isKey
def b {R : Type} (kr : Bool → Option R) (key0 : ByteArray) : Option R := kr (Pu.impl_within.v (↑(ByteArray.size key0) : Int) 1 30)
def v (key0 : ByteArray) : Bool := ((Pu.impl_within.v (↑(ByteArray.size key0) : Int) 1 30))
theorem b_eq {R : Type} (kr : Bool → Option R) (key0 : ByteArray) : b kr key0 = kr (v key0) := by
  first | rfl | (unfold b v; simp only [Bool.cond_eq_ite]; (repeat' split) <;> rfl)
end Go.FG.Pu.impl_isKey

namespace Go.FG.Pu.slices_Index_string
def r2 {R : Type} (N : Nat) (g : Row → ByteArray → Int → Int → Int → Option R) (k0 : Row → ByteArray → Int → Int → Int → Option R) (k1 : Row → ByteArray → Int → Int → Int → Option R) (x0 : Row) (x1 : ByteArray) (x2 : Int) (x3 : Int) (x4 : Int) : Option R := bif (decide (x4 < x3)) then (bif (decide (0 ≤ x4) && decide (x4 < (↑(List.length x0) : Int))) then (bif (List.beq (ByteArray.toList x1) (ByteArray.toList (cvS (cellAt x0 (Int.toNat x4) 0)))) then (k0 x0 x1 x4 x3 x4) else (g x0 x1 x2 x3 (w64 (x4 + 1)))) else (none)) else (k1 x0 x1 x2 x3 x4)
def l2 {R : Type} (N : Nat) (k0 : Row → ByteArray → Int → Int → Int → Option R) (k1 : Row → ByteArray → Int → Int → Int → Option R) : Nat → Row → ByteArray → Int → Int → Int → Option R
  | 0 => (fun _ _ _ _ _ => none)
  | n + 1 => (fun x0 x1 x2 x3 x4 => r2 N (l2 N k0 k1 n) k0 k1 x0 x1 x2 x3 x4)
def b {R : Type} (N : Nat) (kr : Int → Option R) (s0 : Row) (v1 : ByteArray) : Option R := l2 N (fun y5 y6 y7 y8 y9 => kr y7) (fun y10 y11 y12 y13 y14 => kr (-1)) N s0 v1 0 (↑(List.length s0) : Int) 0
theorem q2_bind {R S : Type} (f : R → Option S) (N : Nat) (k0 : Row → ByteArray → Int → Int → Int → Option R) (k1 : Row → ByteArray → Int → Int → Int → Option R) : ∀ n : Nat, (∀ (x0 : Row) (x1 : ByteArray) (x2 : Int) (x3 : Int) (x4 : Int), Option.bind (l2 N k0 k1 n x0 x1 x2 x3 x4) f = l2 N (fun y0 y1 y2 y3 y4 => (Option.bind (k0 y0 y1 y2 y3 y4) f)) (fun y0 y1 y2 y3 y4 => (Option.bind (k1 y0 y1 y2 y3 y4) f)) n x0 x1 x2 x3 x4) := by
  intro n
  induction n with
  | zero => exact (fun _ _ _ _ _ => rfl)
  | succ n ih =>
    intro x0 x1 x2 x3 x4
    simp only [l2, r2, Lib.cond_bind, Lib.some_bind, Lib.none_bind, ih]
theorem l2_bind {R S : Type} (f : R → Option S) (N : Nat) (k0 : Row → ByteArray → Int → Int → Int → Option R) (k1 : Row → ByteArray → Int → Int → Int → Option R) (n : Nat) (x0 : Row) (x1 : ByteArray) (x2 : Int) (x3 : Int) (x4 : Int) : Option.bind (l2 N k0 k1 n x0 x1 x2 x3 x4) f = l2 N (fun y0 y1 y2 y3 y4 => (Option.bind (k0 y0 y1 y2 y3 y4) f)) (fun y0 y1 y2 y3 y4 => (Option.bind (k1 y0 y1 y2 y3 y4) f)) n x0 x1 x2 x3 x4 := (q2_bind f N k0 k1 n) x0 x1 x2 x3 x4
theorem b_bind {R : Type} (N : Nat) (kr : Int → Option R) (s0 : Row) (v1 : ByteArray) : b N kr s0 v1 = Option.bind (b N (fun r0 => some (r0)) s0 v1) (fun p => kr p) := by
  unfold b; simp only [Lib.cond_bind, Lib.some_bind, Lib.none_bind, l2_bind]
def vo (s0 : Row) (v1 : ByteArray) : Option (Int) := b Lib.big (fun r0 => some (r0)) s0 v1
def c (s0 : Row) (v1 : ByteArray) : Bool := Option.isSome (vo s0 v1)
def v (s0 : Row) (v1 : ByteArray) : Int := Option.getD (vo s0 v1) (0)
theorem out (s0 : Row) (v1 : ByteArray) {x : Int} (h : vo s0 v1 = some x) : c s0 v1 = true ∧ v s0 v1 = x := by
  unfold c v; rw [h]; exact ⟨rfl, rfl⟩
theorem b_eq {R : Type} (kr : Int → Option R) (s0 : Row) (v1 : ByteArray) (hc : c s0 v1 = true) : ∃ N, b N kr s0 v1 = kr (v s0 v1) := by
  refine ⟨Lib.big, ?_⟩
  rw [b_bind]
  have e : vo s0 v1 = some (v s0 v1) := by
    unfold c at hc; unfold v
    cases h : vo s0 v1 with
    | none => rw [h] at hc; cases hc
    | some x => rfl
  unfold vo at e
  rw [e]; rfl
end Go.FG.Pu.slices_Index_string

namespace Go.FG.Pu.slices_Contains_string
def b {R : Type} (kr : Bool → Option R) (s0 : Row) (v1 : ByteArray) : Option R := bif (Pu.slices_Index_string.c s0 v1) then (kr (decide (Pu.slices_Index_string.v s0 v1 ≥ 0))) else (none)
theorem b_bind {R : Type} (kr : Bool → Option R) (s0 : Row) (v1 : ByteArray) : b kr s0 v1 = Option.bind (b (fun r0 => some (r0)) s0 v1) (fun p => kr p) := by
  unfold b; simp only [Lib.cond_bind, Lib.some_bind, Lib.none_bind]
def vo (s0 : Row) (v1 : ByteArray) : Option (Bool) := b (fun r0 => some (r0)) s0 v1
def c (s0 : Row) (v1 : ByteArray) : Bool := Option.isSome (vo s0 v1)
def v (s0 : Row) (v1 : ByteArray) : Bool := Option.getD (vo s0 v1) (false)
theorem out (s0 : Row) (v1 : ByteArray) {x : Bool} (h : vo s0 v1 = some x) : c s0 v1 = true ∧ v s0 v1 = x := by
  unfold c v; rw [h]; exact ⟨rfl, rfl⟩
theorem b_eq {R : Type} (kr : Bool → Option R) (s0 : Row) (v1 : ByteArray) (hc : c s0 v1 = true) : b kr s0 v1 = kr (v s0 v1) := by
  rw [b_bind]
  have e : vo s0 v1 = some (v s0 v1) := by
    unfold c at hc; unfold v
    cases h : vo s0 v1 with
    | none => rw [h] at hc; cases hc
    | some x => rfl
  unfold vo at e
  rw [e]; rfl
end Go.FG.Pu.slices_Contains_string

namespace Go.FG.Pu.impl_SketchOk
def r5 {R : Type} (N : Nat) (g : Bool → Row → Row → Int → Int → Row → Int → Int → Row → Int → Option R) (k0 : Bool → Row → Row → Int → Int → Row → Int → Int → Row → Int → Option R) (k1 : Bool → Row → Row → Int → Int → Row → Int → Int → Row → Int → Option R) (x6 : Bool) (x7 : Row) (x8 : Row) (x9 : Int) (x10 : Int) (x11 : Row) (x12 : Int) (x13 : Int) (x14 : Row) (x15 : Int) : Option R := bif (decide (x13 < x12)) then (bif (decide (0 ≤ x13) && decide (x13 < (↑(List.length x11) : Int))) then (bif (!Pu.impl_within.v (cvI (cellAt x11 (Int.toNat x13) 0)) 0 15) then (k0 false x7 x8 x9 x10 x11 x12 x13 x14 x15) else (g x6 x7 x8 x9 x10 x11 x12 (w64 (x13 + 1)) x14 x15)) else (none)) else (k1 x6 x7 x8 x9 x10 x11 x12 x13 x14 x15)
def l5 {R : Type} (N : Nat) (k0 : Bool → Row → Row → Int → Int → Row → Int → Int → Row → Int → Option R) (k1 : Bool → Row → Row → Int → Int → Row → Int → Int → Row → Int → Option R) : Nat → Bool → Row → Row → Int → Int → Row → Int → Int → Row → Int → Option R
  | 0 => (fun _ _ _ _ _ _ _ _ _ _ => none)
  | n + 1 => (fun x6 x7 x8 x9 x10 x11 x12 x13 x14 x15 => r5 N (l5 N k0 k1 n) k0 k1 x6 x7 x8 x9 x10 x11 x12 x13 x14 x15)
def r2 {R : Type} (N : Nat) (g : Bool → Row → Int → Int → Row → Int → Option R) (k0 : Bool → Row → Int → Int → Row → Int → Option R) (k1 : Bool → Row → Int → Int → Row → Int → Option R) (x0 : Bool) (x1 : Row) (x2 : Int) (x3 : Int) (x4 : Row) (x5 : Int) : Option R := bif (decide (x3 < x2)) then (bif (decide (0 ≤ x3) && decide (x3 < (↑(List.length x1) : Int))) then (l5 N (fun y16 y17 y18 y19 y20 y21 y22 y23 y24 y25 => k0 y16 y18 y19 y20 y24 y25) (fun y26 y27 y28 y29 y30 y31 y32 y33 y34 y35 => bif ((↑(List.length y27) : Int) != 16) then (k0 false y28 y29 y30 y34 y35) else (g y26 y28 y29 (w64 (y30 + 1)) y34 y35)) N x0 (cvL (cellAt x1 (Int.toNat x3) 0)) x1 x2 x3 (cvL (cellAt x1 (Int.toNat x3) 0)) (↑(List.length (cvL (cellAt x1 (Int.toNat x3) 0))) : Int) 0 x4 x5) else (none)) else (k1 x0 x1 x2 x3 x4 x5)
def l2 {R : Type} (N : Nat) (k0 : Bool → Row → Int → Int → Row → Int → Option R) (k1 : Bool → Row → Int → Int → Row → Int → Option R) : Nat → Bool → Row → Int → Int → Row → Int → Option R
  | 0 => (fun _ _ _ _ _ _ => none)
  | n + 1 => (fun x0 x1 x2 x3 x4 x5 => r2 N (l2 N k0 k1 n) k0 k1 x0 x1 x2 x3 x4 x5)
def b {R : Type} (N : Nat) (kr : Bool → Option R) (s0_0 : Row) (s0_1 : Int) : Option R := l2 N (fun y36 y37 y38 y39 y40 y41 => kr y36) (fun y42 y43 y44 y45 y46 y47 => bif (decide ((↑(List.length y46) : Int) = 3)) then (kr (Pu.impl_within.v y47 0 63)) else (kr false)) N false s0_0 (↑(List.length s0_0) : Int) 0 s0_0 s0_1
theorem q5_bind {R S : Type} (f : R → Option S) (N : Nat) (k0 : Bool → Row → Row → Int → Int → Row → Int → Int → Row → Int → Option R) (k1 : Bool → Row → Row → Int → Int → Row → Int → Int → Row → Int → Option R) : ∀ n : Nat, (∀ (x6 : Bool) (x7 : Row) (x8 : Row) (x9 : Int) (x10 : Int) (x11 : Row) (x12 : Int) (x13 : Int) (x14 : Row) (x15 : Int), Option.bind (l5 N k0 k1 n x6 x7 x8 x9 x10 x11 x12 x13 x14 x15) f = l5 N (fun y0 y1 y2 y3 y4 y5 y6 y7 y8 y9 => (Option.bind (k0 y0 y1 y2 y3 y4 y5 y6 y7 y8 y9) f)) (fun y0 y1 y2 y3 y4 y5 y6 y7 y8 y9 => (Option.bind (k1 y0 y1 y2 y3 y4 y5 y6 y7 y8 y9) f)) n x6 x7 x8 x9 x10 x11 x12 x13 x14 x15) := by
  intro n
  induction n with
  | zero => exact (fun _ _ _ _ _ _ _ _ _ _ => rfl)
  | succ n ih =>
    intro x6 x7 x8 x9 x10 x11 x12 x13 x14 x15
    simp only [l5, r5, Lib.cond_bind, Lib.some_bind, Lib.none_bind, ih]
theorem l5_bind {R S : Type} (f : R → Option S) (N : Nat) (k0 : Bool → Row → Row → Int → Int → Row → Int → Int → Row → Int → Option R) (k1 : Bool → Row → Row → Int → Int → Row → Int → Int → Row → Int → Option R) (n : Nat) (x6 : Bool) (x7 : Row) (x8 : Row) (x9 : Int) (x10 : Int) (x11 : Row) (x12 : Int) (x13 : Int) (x14 : Row) (x15 : Int) : Option.bind (l5 N k0 k1 n x6 x7 x8 x9 x10 x11 x12 x13 x14 x15) f = l5 N (fun y0 y1 y2 y3 y4 y5 y6 y7 y8 y9 => (Option.bind (k0 y0 y1 y2 y3 y4 y5 y6 y7 y8 y9) f)) (fun y0 y1 y2 y3 y4 y5 y6 y7 y8 y9 => (Option.bind (k1 y0 y1 y2 y3 y4 y5 y6 y7 y8 y9) f)) n x6 x7 x8 x9 x10 x11 x12 x13 x14 x15 := (q5_bind f N k0 k1 n) x6 x7 x8 x9 x10 x11 x12 x13 x14 x15
theorem q2_bind {R S : Type} (f : R → Option S) (N : Nat) (k0 : Bool → Row → Int → Int → Row → Int → Option R) (k1 : Bool → Row → Int → Int → Row → Int → Option R) : ∀ n : Nat, (∀ (x0 : Bool) (x1 : Row) (x2 : Int) (x3 : Int) (x4 : Row) (x5 : Int), Option.bind (l2 N k0 k1 n x0 x1 x2 x3 x4 x5) f = l2 N (fun y0 y1 y2 y3 y4 y5 => (Option.bind (k0 y0 y1 y2 y3 y4 y5) f)) (fun y0 y1 y2 y3 y4 y5 => (Option.bind (k1 y0 y1 y2 y3 y4 y5) f)) n x0 x1 x2 x3 x4 x5) := by
  intro n
  induction n with
  | zero => exact (fun _ _ _ _ _ _ => rfl)
  | succ n ih =>
    intro x0 x1 x2 x3 x4 x5
    simp only [l2, r2, Lib.cond_bind, Lib.some_bind, Lib.none_bind, ih, l5_bind]
theorem l2_bind {R S : Type} (f : R → Option S) (N : Nat) (k0 : Bool → Row → Int → Int → Row → Int → Option R) (k1 : Bool → Row → Int → Int → Row → Int → Option R) (n : Nat) (x0 : Bool) (x1 : Row) (x2 : Int) (x3 : Int) (x4 : Row) (x5 : Int) : Option.bind (l2 N k0 k1 n x0 x1 x2 x3 x4 x5) f = l2 N (fun y0 y1 y2 y3 y4 y5 => (Option.bind (k0 y0 y1 y2 y3 y4 y5) f)) (fun y0 y1 y2 y3 y4 y5 => (Option.bind (k1 y0 y1 y2 y3 y4 y5) f)) n x0 x1 x2 x3 x4 x5 := (q2_bind f N k0 k1 n) x0 x1 x2 x3 x4 x5
theorem b_bind {R : Type} (N : Nat) (kr : Bool → Option R) (s0_0 : Row) (s0_1 : Int) : b N kr s0_0 s0_1 = Option.bind (b N (fun r0 => some (r0)) s0_0 s0_1) (fun p => kr p) := by
  unfold b; simp only [Lib.cond_bind, Lib.some_bind, Lib.none_bind, l5_bind, l2_bind]
def vo (s0_0 : Row) (s0_1 : Int) : Option (Bool) := b Lib.big (fun r0 => some (r0)) s0_0 s0_1
def c (s0_0 : Row) (s0_1 : Int) : Bool := Option.isSome (vo s0_0 s0_1)
def v (s0_0 : Row) (s0_1 : Int) : Bool := Option.getD (vo s0_0 s0_1) (false)
theorem out (s0_0 : Row) (s0_1 : Int) {x : Bool} (h : vo s0_0 s0_1 = some x) : c s0_0 s0_1 = true ∧ v s0_0 s0_1 = x := by
  unfold c v; rw [h]; exact ⟨rfl, rfl⟩
theorem b_eq {R : Type} (kr : Bool → Option R) (s0_0 : Row) (s0_1 : Int) (hc : c s0_0 s0_1 = true) : ∃ N, b N kr s0_0 s0_1 = kr (v s0_0 s0_1) := by
  refine ⟨Lib.big, ?_⟩
  rw [b_bind]
  have e : vo s0_0 s0_1 = some (v s0_0 s0_1) := by
    unfold c at hc; unfold v
    cases h : vo s0_0 s0_1 with
    | none => rw [h] at hc; cases hc
    | some x => rfl
  unfold vo at e
  rw [e]; rfl
end Go.FG.Pu.impl_SketchOk

namespace Go.FG.Pu.impl_PolicyOk
def r3 {R : Type} (N : Nat) (g : Bool → Int → Int → Row → Row → Row → Int → Row → Option R) (k0 : Bool → Int → Int → Row → Row → Row → Int → Row → Option R) (k1 : Bool → Int → Int → Row → Row → Row → Int → Row → Option R) (x0 : Bool) (x1 : Int) (x2 : Int) (x3 : Row) (x4 : Row) (x5 : Row) (x6 : Int) (x7 : Row) : Option R := bif (decide (x2 < x1)) then (bif (decide (0 ≤ x2) && decide (x2 < (↑(List.length x7) : Int))) then (bif (!Pu.impl_isKey.v (cvS (cellAt x7 (Int.toNat x2) 0))) then (k0 false x1 x2 x3 x4 x5 x6 x7) else (bif (inB 0 x2 (↑(List.length x7) : Int)) then (bif (Pu.slices_Contains_string.c (view x7 (Int.toNat 0) (Int.toNat x2)) (cvS (cellAt x7 (Int.toNat x2) 0))) then (bif (Pu.slices_Contains_string.v (view x7 (Int.toNat 0) (Int.toNat x2)) (cvS (cellAt x7 (Int.toNat x2) 0))) then (k0 false x1 x2 x3 x4 x5 x6 x7) else (g x0 x1 (w64 (x2 + 1)) x3 x4 x5 x6 x7)) else (none)) else (none))) else (none)) else (k1 x0 x1 x2 x3 x4 x5 x6 x7)
def l3 {R : Type} (N : Nat) (k0 : Bool → Int → Int → Row → Row → Row → Int → Row → Option R) (k1 : Bool → Int → Int → Row → Row → Row → Int → Row → Option R) : Nat → Bool → Int → Int → Row → Row → Row → Int → Row → Option R
  | 0 => (fun _ _ _ _ _ _ _ _ => none)
  | n + 1 => (fun x0 x1 x2 x3 x4 x5 x6 x7 => r3 N (l3 N k0 k1 n) k0 k1 x0 x1 x2 x3 x4 x5 x6 x7)
def b {R : Type} (N : Nat) (kr : Bool → Option R) (p0_0 : Row) (p0_1 : Row) (p0_2 : Row) (p0_3 : Int) : Option R := bif (Pu.impl_keysIn.c p0_0 p0_1 p0_2 p0_3) then (l3 N (fun y8 y9 y10 y11 y12 y13 y14 y15 => kr y8) (fun y16 y17 y18 y19 y20 y21 y22 y23 => bif (decide ((↑(List.length y19) : Int) ≤ 2)) then (bif (decide ((↑(List.length y20) : Int) ≤ 4)) then (bif (Pu.impl_SketchOk.c y21 y22) then (kr (Pu.impl_SketchOk.v y21 y22)) else (none)) else (kr false)) else (kr false)) N false (↑(List.length (Pu.impl_keysIn.v p0_0 p0_1 p0_2 p0_3)) : Int) 0 p0_0 p0_1 p0_2 p0_3 (Pu.impl_keysIn.v p0_0 p0_1 p0_2 p0_3)) else (none)
theorem q3_bind {R S : Type} (f : R → Option S) (N : Nat) (k0 : Bool → Int → Int → Row → Row → Row → Int → Row → Option R) (k1 : Bool → Int → Int → Row → Row → Row → Int → Row → Option R) : ∀ n : Nat, (∀ (x0 : Bool) (x1 : Int) (x2 : Int) (x3 : Row) (x4 : Row) (x5 : Row) (x6 : Int) (x7 : Row), Option.bind (l3 N k0 k1 n x0 x1 x2 x3 x4 x5 x6 x7) f = l3 N (fun y0 y1 y2 y3 y4 y5 y6 y7 => (Option.bind (k0 y0 y1 y2 y3 y4 y5 y6 y7) f)) (fun y0 y1 y2 y3 y4 y5 y6 y7 => (Option.bind (k1 y0 y1 y2 y3 y4 y5 y6 y7) f)) n x0 x1 x2 x3 x4 x5 x6 x7) := by
  intro n
  induction n with
  | zero => exact (fun _ _ _ _ _ _ _ _ => rfl)
  | succ n ih =>
    intro x0 x1 x2 x3 x4 x5 x6 x7
    simp only [l3, r3, Lib.cond_bind, Lib.some_bind, Lib.none_bind, ih]
theorem l3_bind {R S : Type} (f : R → Option S) (N : Nat) (k0 : Bool → Int → Int → Row → Row → Row → Int → Row → Option R) (k1 : Bool → Int → Int → Row → Row → Row → Int → Row → Option R) (n : Nat) (x0 : Bool) (x1 : Int) (x2 : Int) (x3 : Row) (x4 : Row) (x5 : Row) (x6 : Int) (x7 : Row) : Option.bind (l3 N k0 k1 n x0 x1 x2 x3 x4 x5 x6 x7) f = l3 N (fun y0 y1 y2 y3 y4 y5 y6 y7 => (Option.bind (k0 y0 y1 y2 y3 y4 y5 y6 y7) f)) (fun y0 y1 y2 y3 y4 y5 y6 y7 => (Option.bind (k1 y0 y1 y2 y3 y4 y5 y6 y7) f)) n x0 x1 x2 x3 x4 x5 x6 x7 := (q3_bind f N k0 k1 n) x0 x1 x2 x3 x4 x5 x6 x7
theorem b_bind {R : Type} (N : Nat) (kr : Bool → Option R) (p0_0 : Row) (p0_1 : Row) (p0_2 : Row) (p0_3 : Int) : b N kr p0_0 p0_1 p0_2 p0_3 = Option.bind (b N (fun r0 => some (r0)) p0_0 p0_1 p0_2 p0_3) (fun p => kr p) := by
  unfold b; simp only [Lib.cond_bind, Lib.some_bind, Lib.none_bind, l3_bind]
def vo (p0_0 : Row) (p0_1 : Row) (p0_2 : Row) (p0_3 : Int) : Option (Bool) := b Lib.big (fun r0 => some (r0)) p0_0 p0_1 p0_2 p0_3
def c (p0_0 : Row) (p0_1 : Row) (p0_2 : Row) (p0_3 : Int) : Bool := Option.isSome (vo p0_0 p0_1 p0_2 p0_3)
def v (p0_0 : Row) (p0_1 : Row) (p0_2 : Row) (p0_3 : Int) : Bool := Option.getD (vo p0_0 p0_1 p0_2 p0_3) (false)
theorem out (p0_0 : Row) (p0_1 : Row) (p0_2 : Row) (p0_3 : Int) {x : Bool} (h : vo p0_0 p0_1 p0_2 p0_3 = some x) : c p0_0 p0_1 p0_2 p0_3 = true ∧ v p0_0 p0_1 p0_2 p0_3 = x := by
  unfold c v; rw [h]; exact ⟨rfl, rfl⟩
theorem b_eq {R : Type} (kr : Bool → Option R) (p0_0 : Row) (p0_1 : Row) (p0_2 : Row) (p0_3 : Int) (hc : c p0_0 p0_1 p0_2 p0_3 = true) : ∃ N, b N kr p0_0 p0_1 p0_2 p0_3 = kr (v p0_0 p0_1 p0_2 p0_3) := by
  refine ⟨Lib.big, ?_⟩
  rw [b_bind]
  have e : vo p0_0 p0_1 p0_2 p0_3 = some (v p0_0 p0_1 p0_2 p0_3) := by
    unfold c at hc; unfold v
    cases h : vo p0_0 p0_1 p0_2 p0_3 with
    | none => rw [h] at hc; cases hc
    | some x => rfl
  unfold vo at e
  rw [e]; rfl
end Go.FG.Pu.impl_PolicyOk

namespace Go.FG.Pu.impl_SumMore
def r6 {R : Type} (N : Nat) (g : Int → ByteArray → Int → Int → Option R) (k0 : Int → ByteArray → Int → Int → Option R) (x3 : Int) (x4 : ByteArray) (x5 : Int) (x6 : Int) : Option R := bif (decide (x6 < 8)) then (bif (decide (Int.tmod x3 2 = 1)) then (g (IntKind.wrap IntKind.u32 (↑(BitVec.toNat (BitVec.xor (BitVec.ofInt 32 (IntKind.wrap IntKind.u32 (Int.tdiv x3 2))) (BitVec.ofInt 32 3558460437))) : Int)) x4 x5 (w64 (x6 + 1))) else (g (IntKind.wrap IntKind.u32 (Int.tdiv x3 2)) x4 x5 (w64 (x6 + 1)))) else (k0 x3 x4 x5 x6)
def l6 {R : Type} (N : Nat) (k0 : Int → ByteArray → Int → Int → Option R) : Nat → Int → ByteArray → Int → Int → Option R
  | 0 => (fun _ _ _ _ => none)
  | n + 1 => (fun x3 x4 x5 x6 => r6 N (l6 N k0 n) k0 x3 x4 x5 x6)
def r2 {R : Type} (N : Nat) (g : Int → ByteArray → Int → Option R) (k0 : Int → ByteArray → Int → Option R) (x0 : Int) (x1 : ByteArray) (x2 : Int) : Option R := bif (decide (x2 < (↑(ByteArray.size x1) : Int))) then (bif (decide (0 ≤ x2) && decide (x2 < (↑(ByteArray.size x1) : Int))) then (l6 N (fun y7 y8 y9 y10 => g y7 y8 (w64 (y9 + 1))) N (IntKind.wrap IntKind.u32 (↑(BitVec.toNat (BitVec.xor (BitVec.ofInt 32 x0) (BitVec.ofInt 32 (IntKind.wrap IntKind.u32 (↑(btN x1 (Int.toNat x2)) : Int))))) : Int)) x1 x2 0) else (none)) else (k0 x0 x1 x2)
def l2 {R : Type} (N : Nat) (k0 : Int → ByteArray → Int → Option R) : Nat → Int → ByteArray → Int → Option R
  | 0 => (fun _ _ _ => none)
  | n + 1 => (fun x0 x1 x2 => r2 N (l2 N k0 n) k0 x0 x1 x2)
def b {R : Type} (N : Nat) (kr : Int → Option R) (sum0 : Int) (text1 : ByteArray) : Option R := l2 N (fun y11 y12 y13 => kr y11) N sum0 text1 0
theorem q6_bind {R S : Type} (f : R → Option S) (N : Nat) (k0 : Int → ByteArray → Int → Int → Option R) : ∀ n : Nat, (∀ (x3 : Int) (x4 : ByteArray) (x5 : Int) (x6 : Int), Option.bind (l6 N k0 n x3 x4 x5 x6) f = l6 N (fun y0 y1 y2 y3 => (Option.bind (k0 y0 y1 y2 y3) f)) n x3 x4 x5 x6) := by
  intro n
  induction n with
  | zero => exact (fun _ _ _ _ => rfl)
  | succ n ih =>
    intro x3 x4 x5 x6
    simp only [l6, r6, Lib.cond_bind, Lib.some_bind, Lib.none_bind, ih]
theorem l6_bind {R S : Type} (f : R → Option S) (N : Nat) (k0 : Int → ByteArray → Int → Int → Option R) (n : Nat) (x3 : Int) (x4 : ByteArray) (x5 : Int) (x6 : Int) : Option.bind (l6 N k0 n x3 x4 x5 x6) f = l6 N (fun y0 y1 y2 y3 => (Option.bind (k0 y0 y1 y2 y3) f)) n x3 x4 x5 x6 := (q6_bind f N k0 n) x3 x4 x5 x6
theorem q2_bind {R S : Type} (f : R → Option S) (N : Nat) (k0 : Int → ByteArray → Int → Option R) : ∀ n : Nat, (∀ (x0 : Int) (x1 : ByteArray) (x2 : Int), Option.bind (l2 N k0 n x0 x1 x2) f = l2 N (fun y0 y1 y2 => (Option.bind (k0 y0 y1 y2) f)) n x0 x1 x2) := by
  intro n
  induction n with
  | zero => exact (fun _ _ _ => rfl)
  | succ n ih =>
    intro x0 x1 x2
    simp only [l2, r2, Lib.cond_bind, Lib.some_bind, Lib.none_bind, ih, l6_bind]
theorem l2_bind {R S : Type} (f : R → Option S) (N : Nat) (k0 : Int → ByteArray → Int → Option R) (n : Nat) (x0 : Int) (x1 : ByteArray) (x2 : Int) : Option.bind (l2 N k0 n x0 x1 x2) f = l2 N (fun y0 y1 y2 => (Option.bind (k0 y0 y1 y2) f)) n x0 x1 x2 := (q2_bind f N k0 n) x0 x1 x2
theorem b_bind {R : Type} (N : Nat) (kr : Int → Option R) (sum0 : Int) (text1 : ByteArray) : b N kr sum0 text1 = Option.bind (b N (fun r0 => some (r0)) sum0 text1) (fun p => kr p) := by
  unfold b; simp only [Lib.cond_bind, Lib.some_bind, Lib.none_bind, l6_bind, l2_bind]
def vo (sum0 : Int) (text1 : ByteArray) : Option (Int) := b Lib.big (fun r0 => some (r0)) sum0 text1
def c (sum0 : Int) (text1 : ByteArray) : Bool := Option.isSome (vo sum0 text1)
def v (sum0 : Int) (text1 : ByteArray) : Int := Option.getD (vo sum0 text1) (0)
theorem out (sum0 : Int) (text1 : ByteArray) {x : Int} (h : vo sum0 text1 = some x) : c sum0 text1 = true ∧ v sum0 text1 = x := by
  unfold c v; rw [h]; exact ⟨rfl, rfl⟩
theorem b_eq {R : Type} (kr : Int → Option R) (sum0 : Int) (text1 : ByteArray) (hc : c sum0 text1 = true) : ∃ N, b N kr sum0 text1 = kr (v sum0 text1) := by
  refine ⟨Lib.big, ?_⟩
  rw [b_bind]
  have e : vo sum0 text1 = some (v sum0 text1) := by
    unfold c at hc; unfold v
    cases h : vo sum0 text1 with
    | none => rw [h] at hc; cases hc
    | some x => rfl
  unfold vo at e
  rw [e]; rfl
end Go.FG.Pu.impl_SumMore

namespace Go.FG.Pu.impl_SumOf
def b {R : Type} (kr : Int → Option R) (text0 : ByteArray) : Option R := bif (Pu.impl_SumMore.c 4294967295 text0) then (kr (Pu.impl_SumMore.v 4294967295 text0)) else (none)
theorem b_bind {R : Type} (kr : Int → Option R) (text0 : ByteArray) : b kr text0 = Option.bind (b (fun r0 => some (r0)) text0) (fun p => kr p) := by
  unfold b; simp only [Lib.cond_bind, Lib.some_bind, Lib.none_bind]
def vo (text0 : ByteArray) : Option (Int) := b (fun r0 => some (r0)) text0
def c (text0 : ByteArray) : Bool := Option.isSome (vo text0)
def v (text0 : ByteArray) : Int := Option.getD (vo text0) (0)
theorem out (text0 : ByteArray) {x : Int} (h : vo text0 = some x) : c text0 = true ∧ v text0 = x := by
  unfold c v; rw [h]; exact ⟨rfl, rfl⟩
theorem b_eq {R : Type} (kr : Int → Option R) (text0 : ByteArray) (hc : c text0 = true) : b kr text0 = kr (v text0) := by
  rw [b_bind]
  have e : vo text0 = some (v text0) := by
    unfold c at hc; unfold v
    cases h : vo text0 with
    | none => rw [h] at hc; cases hc
    | some x => rfl
  unfold vo at e
  rw [e]; rfl
end Go.FG.Pu.impl_SumOf

namespace Go.FG.Pu.impl_SketchPlace
def b {R : Type} (kr : Int → Option R) (row0 : Int) (key1 : ByteArray) : Option R := bif (decide (ByteArray.size key1 + ByteArray.size (bytesOf (List.set (zeros [Ck.i IntKind.u8] 1) 0 [CV.i IntKind.u8 (IntKind.wrap IntKind.u8 (w64 (↑(BitVec.toNat (BitVec.and (BitVec.ofInt 64 row0) (BitVec.ofInt 64 255))) : Int)))])) ≤ 4611686018427387904)) then (bif (Pu.impl_SumOf.c (key1 ++ bytesOf (List.set (zeros [Ck.i IntKind.u8] 1) 0 [CV.i IntKind.u8 (IntKind.wrap IntKind.u8 (w64 (↑(BitVec.toNat (BitVec.and (BitVec.ofInt 64 row0) (BitVec.ofInt 64 255))) : Int)))]))) then (kr (Int.tmod (w64 (Pu.impl_SumOf.v (key1 ++ bytesOf (List.set (zeros [Ck.i IntKind.u8] 1) 0 [CV.i IntKind.u8 (IntKind.wrap IntKind.u8 (w64 (↑(BitVec.toNat (BitVec.and (BitVec.ofInt 64 row0) (BitVec.ofInt 64 255))) : Int)))])))) 16)) else (none)) else (none)
theorem b_bind {R : Type} (kr : Int → Option R) (row0 : Int) (key1 : ByteArray) : b kr row0 key1 = Option.bind (b (fun r0 => some (r0)) row0 key1) (fun p => kr p) := by
  unfold b; simp only [Lib.cond_bind, Lib.some_bind, Lib.none_bind]
def vo (row0 : Int) (key1 : ByteArray) : Option (Int) := b (fun r0 => some (r0)) row0 key1
def c (row0 : Int) (key1 : ByteArray) : Bool := Option.isSome (vo row0 key1)
def v (row0 : Int) (key1 : ByteArray) : Int := Option.getD (vo row0 key1) (0)
theorem out (row0 : Int) (key1 : ByteArray) {x : Int} (h : vo row0 key1 = some x) : c row0 key1 = true ∧ v row0 key1 = x := by
  unfold c v; rw [h]; exact ⟨rfl, rfl⟩
theorem b_eq {R : Type} (kr : Int → Option R) (row0 : Int) (key1 : ByteArray) (hc : c row0 key1 = true) : b kr row0 key1 = kr (v row0 key1) := by
  rw [b_bind]
  have e : vo row0 key1 = some (v row0 key1) := by
    unfold c at hc; unfold v
    cases h : vo row0 key1 with
    | none => rw [h] at hc; cases hc
    | some x => rfl
  unfold vo at e
  rw [e]; rfl
end Go.FG.Pu.impl_SketchPlace

namespace Go.FG.Pu.impl_SketchBump
def r18 {R : Type} (N : Nat) (g : Nat → Int → Int → Int → Int → Int → Int → Row → Option R) (k0 : Nat → Int → Int → Int → Int → Int → Int → Row → Option R) (x17 : Nat) (x18 : Int) (x19 : Int) (x20 : Int) (x21 : Int) (x22 : Int) (x23 : Int) (x24 : Row) : Option R := bif (decide (x21 < x20)) then (bif (decide (0 ≤ x21) && decide (x21 < (↑(List.length (cvL (cellAt x24 x17 0))) : Int))) then (bif (decide (0 ≤ x21) && decide (x21 < (↑(List.length (cvL (cellAt x24 x17 0))) : Int))) then (g x17 x18 x19 x20 (w64 (x21 + 1)) x22 x23 (setC x24 x17 0 [CV.l 3 (setC (cvL (cellAt x24 x17 0)) (Int.toNat x21) 0 [CV.i IntKind.i64 (w64 (Int.tdiv (cvI (cellAt (cvL (cellAt x24 x17 0)) (Int.toNat x21) 0)) 2))])])) else (none)) else (none)) else (k0 x17 x18 x19 x20 x21 x22 x23 x24)
def l18 {R : Type} (N : Nat) (k0 : Nat → Int → Int → Int → Int → Int → Int → Row → Option R) : Nat → Nat → Int → Int → Int → Int → Int → Int → Row → Option R
  | 0 => (fun _ _ _ _ _ _ _ _ => none)
  | n + 1 => (fun x17 x18 x19 x20 x21 x22 x23 x24 => r18 N (l18 N k0 n) k0 x17 x18 x19 x20 x21 x22 x23 x24)
def r15 {R : Type} (N : Nat) (g : Int → Int → Int → Int → Row → Option R) (k0 : Int → Int → Int → Int → Row → Option R) (x12 : Int) (x13 : Int) (x14 : Int) (x15 : Int) (x16 : Row) : Option R := bif (decide (x13 < x12)) then (bif (decide (0 ≤ x13) && decide (x13 < (↑(List.length x16) : Int))) then (l18 N (fun y25 y26 y27 y28 y29 y30 y31 y32 => g y26 (w64 (y27 + 1)) y30 y31 y32) N (Int.toNat x13) x12 x13 (↑(List.length (cvL (cellAt x16 (Int.toNat x13) 0))) : Int) 0 x14 x15 x16) else (none)) else (k0 x12 x13 x14 x15 x16)
def l15 {R : Type} (N : Nat) (k0 : Int → Int → Int → Int → Row → Option R) : Nat → Int → Int → Int → Int → Row → Option R
  | 0 => (fun _ _ _ _ _ => none)
  | n + 1 => (fun x12 x13 x14 x15 x16 => r15 N (l15 N k0 n) k0 x12 x13 x14 x15 x16)
def r5 {R : Type} (N : Nat) (g : ByteArray → Int → Int → Int → Int → Row → Option R) (k0 : ByteArray → Int → Int → Int → Int → Row → Option R) (x0 : ByteArray) (x1 : Int) (x2 : Int) (x3 : Int) (x4 : Int) (x5 : Row) : Option R := bif (decide (x2 < x1)) then (bif (decide (0 ≤ x2) && decide (x2 < (↑(List.length x5) : Int))) then (bif (Pu.impl_SketchPlace.c x2 x0) then (bif (decide (0 ≤ Pu.impl_SketchPlace.v x2 x0) && decide (Pu.impl_SketchPlace.v x2 x0 < (↑(List.length (cvL (cellAt x5 (Int.toNat x2) 0))) : Int))) then (bif (decide (0 ≤ Pu.impl_SketchPlace.v x2 x0) && decide (Pu.impl_SketchPlace.v x2 x0 < (↑(List.length (cvL (cellAt x5 (Int.toNat x2) 0))) : Int))) then (g x0 x1 (w64 (x2 + 1)) x3 x4 (setC x5 (Int.toNat x2) 0 [CV.l 3 (setC (cvL (cellAt x5 (Int.toNat x2) 0)) (Int.toNat (Pu.impl_SketchPlace.v x2 x0)) 0 [CV.i IntKind.i64 (minmax false (w64 (cvI (cellAt (cvL (cellAt x5 (Int.toNat x2) 0)) (Int.toNat (Pu.impl_SketchPlace.v x2 x0)) 0) + 1)) 15)])])) else (none)) else (none)) else (none)) else (none)) else (k0 x0 x1 x2 x3 x4 x5)
def l5 {R : Type} (N : Nat) (k0 : ByteArray → Int → Int → Int → Int → Row → Option R) : Nat → ByteArray → Int → Int → Int → Int → Row → Option R
  | 0 => (fun _ _ _ _ _ _ => none)
  | n + 1 => (fun x0 x1 x2 x3 x4 x5 => r5 N (l5 N k0 n) k0 x0 x1 x2 x3 x4 x5)
def b {R : Type} (N : Nat) (kr : Row → Int → Option R) (s0_0 : Row) (s0_1 : Int) (key1 : ByteArray) : Option R := bif (Pu.impl_copySketch.c s0_0 s0_1) then (bif (Pu.impl_SketchOk.c s0_0 s0_1) then (bif (!Pu.impl_SketchOk.v s0_0 s0_1) then (kr ((Pu.impl_copySketch.v s0_0 s0_1).1) ((Pu.impl_copySketch.v s0_0 s0_1).2)) else (l5 N (fun y6 y7 y8 y9 y10 y11 => bif (decide (w64 (y10 + 1) < 64)) then (kr y11 (w64 (y10 + 1))) else (l15 N (fun y33 y34 y35 y36 y37 => kr y37 y36) N (↑(List.length y11) : Int) 0 y9 0 y11)) N key1 (↑(List.length (Pu.impl_copySketch.v s0_0 s0_1).1) : Int) 0 0 ((Pu.impl_copySketch.v s0_0 s0_1).2) ((Pu.impl_copySketch.v s0_0 s0_1).1))) else (none)) else (none)
theorem q18_bind {R S : Type} (f : R → Option S) (N : Nat) (k0 : Nat → Int → Int → Int → Int → Int → Int → Row → Option R) : ∀ n : Nat, (∀ (x17 : Nat) (x18 : Int) (x19 : Int) (x20 : Int) (x21 : Int) (x22 : Int) (x23 : Int) (x24 : Row), Option.bind (l18 N k0 n x17 x18 x19 x20 x21 x22 x23 x24) f = l18 N (fun y0 y1 y2 y3 y4 y5 y6 y7 => (Option.bind (k0 y0 y1 y2 y3 y4 y5 y6 y7) f)) n x17 x18 x19 x20 x21 x22 x23 x24) := by
  intro n
  induction n with
  | zero => exact (fun _ _ _ _ _ _ _ _ => rfl)
  | succ n ih =>
    intro x17 x18 x19 x20 x21 x22 x23 x24
    simp only [l18, r18, Lib.cond_bind, Lib.some_bind, Lib.none_bind, ih]
theorem l18_bind {R S : Type} (f : R → Option S) (N : Nat) (k0 : Nat → Int → Int → Int → Int → Int → Int → Row → Option R) (n : Nat) (x17 : Nat) (x18 : Int) (x19 : Int) (x20 : Int) (x21 : Int) (x22 : Int) (x23 : Int) (x24 : Row) : Option.bind (l18 N k0 n x17 x18 x19 x20 x21 x22 x23 x24) f = l18 N (fun y0 y1 y2 y3 y4 y5 y6 y7 => (Option.bind (k0 y0 y1 y2 y3 y4 y5 y6 y7) f)) n x17 x18 x19 x20 x21 x22 x23 x24 := (q18_bind f N k0 n) x17 x18 x19 x20 x21 x22 x23 x24
theorem q15_bind {R S : Type} (f : R → Option S) (N : Nat) (k0 : Int → Int → Int → Int → Row → Option R) : ∀ n : Nat, (∀ (x12 : Int) (x13 : Int) (x14 : Int) (x15 : Int) (x16 : Row), Option.bind (l15 N k0 n x12 x13 x14 x15 x16) f = l15 N (fun y0 y1 y2 y3 y4 => (Option.bind (k0 y0 y1 y2 y3 y4) f)) n x12 x13 x14 x15 x16) := by
  intro n
  induction n with
  | zero => exact (fun _ _ _ _ _ => rfl)
  | succ n ih =>
    intro x12 x13 x14 x15 x16
    simp only [l15, r15, Lib.cond_bind, Lib.some_bind, Lib.none_bind, ih, l18_bind]
theorem l15_bind {R S : Type} (f : R → Option S) (N : Nat) (k0 : Int → Int → Int → Int → Row → Option R) (n : Nat) (x12 : Int) (x13 : Int) (x14 : Int) (x15 : Int) (x16 : Row) : Option.bind (l15 N k0 n x12 x13 x14 x15 x16) f = l15 N (fun y0 y1 y2 y3 y4 => (Option.bind (k0 y0 y1 y2 y3 y4) f)) n x12 x13 x14 x15 x16 := (q15_bind f N k0 n) x12 x13 x14 x15 x16
theorem q5_bind {R S : Type} (f : R → Option S) (N : Nat) (k0 : ByteArray → Int → Int → Int → Int → Row → Option R) : ∀ n : Nat, (∀ (x0 : ByteArray) (x1 : Int) (x2 : Int) (x3 : Int) (x4 : Int) (x5 : Row), Option.bind (l5 N k0 n x0 x1 x2 x3 x4 x5) f = l5 N (fun y0 y1 y2 y3 y4 y5 => (Option.bind (k0 y0 y1 y2 y3 y4 y5) f)) n x0 x1 x2 x3 x4 x5) := by
  intro n
  induction n with
  | zero => exact (fun _ _ _ _ _ _ => rfl)
  | succ n ih =>
    intro x0 x1 x2 x3 x4 x5
    simp only [l5, r5, Lib.cond_bind, Lib.some_bind, Lib.none_bind, ih, l18_bind, l15_bind]
theorem l5_bind {R S : Type} (f : R → Option S) (N : Nat) (k0 : ByteArray → Int → Int → Int → Int → Row → Option R) (n : Nat) (x0 : ByteArray) (x1 : Int) (x2 : Int) (x3 : Int) (x4 : Int) (x5 : Row) : Option.bind (l5 N k0 n x0 x1 x2 x3 x4 x5) f = l5 N (fun y0 y1 y2 y3 y4 y5 => (Option.bind (k0 y0 y1 y2 y3 y4 y5) f)) n x0 x1 x2 x3 x4 x5 := (q5_bind f N k0 n) x0 x1 x2 x3 x4 x5
theorem b_bind {R : Type} (N : Nat) (kr : Row → Int → Option R) (s0_0 : Row) (s0_1 : Int) (key1 : ByteArray) : b N kr s0_0 s0_1 key1 = Option.bind (b N (fun r0 r1 => some (r0, r1)) s0_0 s0_1 key1) (fun p => kr p.1 p.2) := by
  unfold b; simp only [Lib.cond_bind, Lib.some_bind, Lib.none_bind, l18_bind, l15_bind, l5_bind]
def vo (s0_0 : Row) (s0_1 : Int) (key1 : ByteArray) : Option (Row × Int) := b Lib.big (fun r0 r1 => some (r0, r1)) s0_0 s0_1 key1
def c (s0_0 : Row) (s0_1 : Int) (key1 : ByteArray) : Bool := Option.isSome (vo s0_0 s0_1 key1)
def v (s0_0 : Row) (s0_1 : Int) (key1 : ByteArray) : Row × Int := Option.getD (vo s0_0 s0_1 key1) ([], 0)
theorem out (s0_0 : Row) (s0_1 : Int) (key1 : ByteArray) {x : Row × Int} (h : vo s0_0 s0_1 key1 = some x) : c s0_0 s0_1 key1 = true ∧ v s0_0 s0_1 key1 = x := by
  unfold c v; rw [h]; exact ⟨rfl, rfl⟩
theorem b_eq {R : Type} (kr : Row → Int → Option R) (s0_0 : Row) (s0_1 : Int) (key1 : ByteArray) (hc : c s0_0 s0_1 key1 = true) : ∃ N, b N kr s0_0 s0_1 key1 = kr ((v s0_0 s0_1 key1).1) ((v s0_0 s0_1 key1).2) := by
  refine ⟨Lib.big, ?_⟩
  rw [b_bind]
  have e : vo s0_0 s0_1 key1 = some (v s0_0 s0_1 key1) := by
    unfold c at hc; unfold v
    cases h : vo s0_0 s0_1 key1 with
    | none => rw [h] at hc; cases hc
    | some x => rfl
  unfold vo at e
  rw [e]; rfl
end Go.FG.Pu.impl_SketchBump

namespace Go.FG.Pu.impl_withoutKey_1
def b {R : Type} (kr : Bool → Option R) (s0 : ByteArray) (key1 : ByteArray) : Option R := kr (List.beq (ByteArray.toList s0) (ByteArray.toList key1))
def v (s0 : ByteArray) (key1 : ByteArray) : Bool := ((List.beq (ByteArray.toList s0) (ByteArray.toList key1)))
theorem b_eq {R : Type} (kr : Bool → Option R) (s0 : ByteArray) (key1 : ByteArray) : b kr s0 key1 = kr (v s0 key1) := by
  first | rfl | (unfold b v; simp only [Bool.cond_eq_ite]; (repeat' split) <;> rfl)
end Go.FG.Pu.impl_withoutKey_1

namespace Go.FG.Pu.slices_IndexFunc_string
def r2 {R : Type} (N : Nat) (g : Row → ByteArray → Int → Int → Int → Option R) (k0 : Row → ByteArray → Int → Int → Int → Option R) (k1 : Row → ByteArray → Int → Int → Int → Option R) (x0 : Row) (x1 : ByteArray) (x2 : Int) (x3 : Int) (x4 : Int) : Option R := bif (decide (x4 < x3)) then (bif (decide (0 ≤ x4) && decide (x4 < (↑(List.length x0) : Int))) then (bif (Pu.impl_withoutKey_1.v (cvS (cellAt x0 (Int.toNat x4) 0)) x1) then (k0 x0 x1 x4 x3 x4) else (g x0 x1 x2 x3 (w64 (x4 + 1)))) else (none)) else (k1 x0 x1 x2 x3 x4)
def l2 {R : Type} (N : Nat) (k0 : Row → ByteArray → Int → Int → Int → Option R) (k1 : Row → ByteArray → Int → Int → Int → Option R) : Nat → Row → ByteArray → Int → Int → Int → Option R
  | 0 => (fun _ _ _ _ _ => none)
  | n + 1 => (fun x0 x1 x2 x3 x4 => r2 N (l2 N k0 k1 n) k0 k1 x0 x1 x2 x3 x4)
def b {R : Type} (N : Nat) (kr : Int → Option R) (s0 : Row) (key1 : ByteArray) : Option R := l2 N (fun y5 y6 y7 y8 y9 => kr y7) (fun y10 y11 y12 y13 y14 => kr (-1)) N s0 key1 0 (↑(List.length s0) : Int) 0
theorem q2_bind {R S : Type} (f : R → Option S) (N : Nat) (k0 : Row → ByteArray → Int → Int → Int → Option R) (k1 : Row → ByteArray → Int → Int → Int → Option R) : ∀ n : Nat, (∀ (x0 : Row) (x1 : ByteArray) (x2 : Int) (x3 : Int) (x4 : Int), Option.bind (l2 N k0 k1 n x0 x1 x2 x3 x4) f = l2 N (fun y0 y1 y2 y3 y4 => (Option.bind (k0 y0 y1 y2 y3 y4) f)) (fun y0 y1 y2 y3 y4 => (Option.bind (k1 y0 y1 y2 y3 y4) f)) n x0 x1 x2 x3 x4) := by
  intro n
  induction n with
  | zero => exact (fun _ _ _ _ _ => rfl)
  | succ n ih =>
    intro x0 x1 x2 x3 x4
    simp only [l2, r2, Lib.cond_bind, Lib.some_bind, Lib.none_bind, ih]
theorem l2_bind {R S : Type} (f : R → Option S) (N : Nat) (k0 : Row → ByteArray → Int → Int → Int → Option R) (k1 : Row → ByteArray → Int → Int → Int → Option R) (n : Nat) (x0 : Row) (x1 : ByteArray) (x2 : Int) (x3 : Int) (x4 : Int) : Option.bind (l2 N k0 k1 n x0 x1 x2 x3 x4) f = l2 N (fun y0 y1 y2 y3 y4 => (Option.bind (k0 y0 y1 y2 y3 y4) f)) (fun y0 y1 y2 y3 y4 => (Option.bind (k1 y0 y1 y2 y3 y4) f)) n x0 x1 x2 x3 x4 := (q2_bind f N k0 k1 n) x0 x1 x2 x3 x4
theorem b_bind {R : Type} (N : Nat) (kr : Int → Option R) (s0 : Row) (key1 : ByteArray) : b N kr s0 key1 = Option.bind (b N (fun r0 => some (r0)) s0 key1) (fun p => kr p) := by
  unfold b; simp only [Lib.cond_bind, Lib.some_bind, Lib.none_bind, l2_bind]
def vo (s0 : Row) (key1 : ByteArray) : Option (Int) := b Lib.big (fun r0 => some (r0)) s0 key1
def c (s0 : Row) (key1 : ByteArray) : Bool := Option.isSome (vo s0 key1)
def v (s0 : Row) (key1 : ByteArray) : Int := Option.getD (vo s0 key1) (0)
theorem out (s0 : Row) (key1 : ByteArray) {x : Int} (h : vo s0 key1 = some x) : c s0 key1 = true ∧ v s0 key1 = x := by
  unfold c v; rw [h]; exact ⟨rfl, rfl⟩
theorem b_eq {R : Type} (kr : Int → Option R) (s0 : Row) (key1 : ByteArray) (hc : c s0 key1 = true) : ∃ N, b N kr s0 key1 = kr (v s0 key1) := by
  refine ⟨Lib.big, ?_⟩
  rw [b_bind]
  have e : vo s0 key1 = some (v s0 key1) := by
    unfold c at hc; unfold v
    cases h : vo s0 key1 with
    | none => rw [h] at hc; cases hc
    | some x => rfl
  unfold vo at e
  rw [e]; rfl
end Go.FG.Pu.slices_IndexFunc_string

namespace Go.FG.Pu.slices_DeleteFunc_string
def r5 {R : Type} (N : Nat) (g : ByteArray → Int → Int → Row → Option R) (k0 : ByteArray → Int → Int → Row → Option R) (x0 : ByteArray) (x1 : Int) (x2 : Int) (x3 : Row) : Option R := bif (decide (x2 < (↑(List.length x3) : Int))) then (bif (decide (0 ≤ x2) && decide (x2 < (↑(List.length x3) : Int))) then (bif (!Pu.impl_withoutKey_1.v (cvS (cellAt x3 (Int.toNat x2) 0)) x0) then (bif (decide (0 ≤ x1) && decide (x1 < (↑(List.length x3) : Int))) then (g x0 (w64 (x1 + 1)) (w64 (x2 + 1)) (setC x3 (Int.toNat x1) 0 [CV.s (cvS (cellAt x3 (Int.toNat x2) 0))])) else (none)) else (g x0 x1 (w64 (x2 + 1)) x3)) else (none)) else (k0 x0 x1 x2 x3)
def l5 {R : Type} (N : Nat) (k0 : ByteArray → Int → Int → Row → Option R) : Nat → ByteArray → Int → Int → Row → Option R
  | 0 => (fun _ _ _ _ => none)
  | n + 1 => (fun x0 x1 x2 x3 => r5 N (l5 N k0 n) k0 x0 x1 x2 x3)
def b {R : Type} (N : Nat) (kr : Row → Option R) (s0 : Row) (key1 : ByteArray) : Option R := bif (Pu.slices_IndexFunc_string.c s0 key1) then (bif (decide (Pu.slices_IndexFunc_string.v s0 key1 = Int.neg 1)) then (kr s0) else (l5 N (fun y4 y5 y6 y7 => bif (inB y5 (↑(List.length y7) : Int) (↑(List.length y7) : Int)) then (bif (inB 0 y5 (↑(List.length (List.take (Int.toNat y5) y7 ++ zeros [Ck.s] (Int.toNat (↑(List.length y7) : Int) - Int.toNat y5) ++ List.drop (Int.toNat (↑(List.length y7) : Int)) y7)) : Int)) then (kr (view (List.take (Int.toNat y5) y7 ++ zeros [Ck.s] (Int.toNat (↑(List.length y7) : Int) - Int.toNat y5) ++ List.drop (Int.toNat (↑(List.length y7) : Int)) y7) (Int.toNat 0) (Int.toNat y5))) else (none)) else (none)) N key1 (Pu.slices_IndexFunc_string.v s0 key1) (w64 (Pu.slices_IndexFunc_string.v s0 key1 + 1)) s0)) else (none)
theorem q5_bind {R S : Type} (f : R → Option S) (N : Nat) (k0 : ByteArray → Int → Int → Row → Option R) : ∀ n : Nat, (∀ (x0 : ByteArray) (x1 : Int) (x2 : Int) (x3 : Row), Option.bind (l5 N k0 n x0 x1 x2 x3) f = l5 N (fun y0 y1 y2 y3 => (Option.bind (k0 y0 y1 y2 y3) f)) n x0 x1 x2 x3) := by
  intro n
  induction n with
  | zero => exact (fun _ _ _ _ => rfl)
  | succ n ih =>
    intro x0 x1 x2 x3
    simp only [l5, r5, Lib.cond_bind, Lib.some_bind, Lib.none_bind, ih]
theorem l5_bind {R S : Type} (f : R → Option S) (N : Nat) (k0 : ByteArray → Int → Int → Row → Option R) (n : Nat) (x0 : ByteArray) (x1 : Int) (x2 : Int) (x3 : Row) : Option.bind (l5 N k0 n x0 x1 x2 x3) f = l5 N (fun y0 y1 y2 y3 => (Option.bind (k0 y0 y1 y2 y3) f)) n x0 x1 x2 x3 := (q5_bind f N k0 n) x0 x1 x2 x3
theorem b_bind {R : Type} (N : Nat) (kr : Row → Option R) (s0 : Row) (key1 : ByteArray) : b N kr s0 key1 = Option.bind (b N (fun r0 => some (r0)) s0 key1) (fun p => kr p) := by
  unfold b; simp only [Lib.cond_bind, Lib.some_bind, Lib.none_bind, l5_bind]
def vo (s0 : Row) (key1 : ByteArray) : Option (Row) := b Lib.big (fun r0 => some (r0)) s0 key1
def c (s0 : Row) (key1 : ByteArray) : Bool := Option.isSome (vo s0 key1)
def v (s0 : Row) (key1 : ByteArray) : Row := Option.getD (vo s0 key1) ([])
theorem out (s0 : Row) (key1 : ByteArray) {x : Row} (h : vo s0 key1 = some x) : c s0 key1 = true ∧ v s0 key1 = x := by
  unfold c v; rw [h]; exact ⟨rfl, rfl⟩
theorem b_eq {R : Type} (kr : Row → Option R) (s0 : Row) (key1 : ByteArray) (hc : c s0 key1 = true) : ∃ N, b N kr s0 key1 = kr (v s0 key1) := by
  refine ⟨Lib.big, ?_⟩
  rw [b_bind]
  have e : vo s0 key1 = some (v s0 key1) := by
    unfold c at hc; unfold v
    cases h : vo s0 key1 with
    | none => rw [h] at hc; cases hc
    | some x => rfl
  unfold vo at e
  rw [e]; rfl
end Go.FG.Pu.slices_DeleteFunc_string

namespace Go.FG.Pu.impl_withoutKey
def b {R : Type} (kr : Row → Option R) (l0 : Row) (key1 : ByteArray) : Option R := bif (Pu.impl_copyTexts.c l0) then (bif (Pu.slices_DeleteFunc_string.c (Pu.impl_copyTexts.v l0) key1) then (kr (Pu.slices_DeleteFunc_string.v (Pu.impl_copyTexts.v l0) key1)) else (none)) else (none)
theorem b_bind {R : Type} (kr : Row → Option R) (l0 : Row) (key1 : ByteArray) : b kr l0 key1 = Option.bind (b (fun r0 => some (r0)) l0 key1) (fun p => kr p) := by
  unfold b; simp only [Lib.cond_bind, Lib.some_bind, Lib.none_bind]
def vo (l0 : Row) (key1 : ByteArray) : Option (Row) := b (fun r0 => some (r0)) l0 key1
def c (l0 : Row) (key1 : ByteArray) : Bool := Option.isSome (vo l0 key1)
def v (l0 : Row) (key1 : ByteArray) : Row := Option.getD (vo l0 key1) ([])
theorem out (l0 : Row) (key1 : ByteArray) {x : Row} (h : vo l0 key1 = some x) : c l0 key1 = true ∧ v l0 key1 = x := by
  unfold c v; rw [h]; exact ⟨rfl, rfl⟩
theorem b_eq {R : Type} (kr : Row → Option R) (l0 : Row) (key1 : ByteArray) (hc : c l0 key1 = true) : b kr l0 key1 = kr (v l0 key1) := by
  rw [b_bind]
  have e : vo l0 key1 = some (v l0 key1) := by
    unfold c at hc; unfold v
    cases h : vo l0 key1 with
    | none => rw [h] at hc; cases hc
    | some x => rfl
  unfold vo at e
  rw [e]; rfl
end Go.FG.Pu.impl_withoutKey

namespace Go.FG.Pu.impl_SketchGuess
def r5 {R : Type} (N : Nat) (g : ByteArray → Int → Row → Int → Int → Option R) (k0 : ByteArray → Int → Row → Int → Int → Option R) (x0 : ByteArray) (x1 : Int) (x2 : Row) (x3 : Int) (x4 : Int) : Option R := bif (decide (x4 < x3)) then (bif (decide (0 ≤ x4) && decide (x4 < (↑(List.length x2) : Int))) then (bif (Pu.impl_SketchPlace.c x4 x0) then (bif (decide (0 ≤ Pu.impl_SketchPlace.v x4 x0) && decide (Pu.impl_SketchPlace.v x4 x0 < (↑(List.length (cvL (cellAt x2 (Int.toNat x4) 0))) : Int))) then (g x0 (minmax false x1 (cvI (cellAt (cvL (cellAt x2 (Int.toNat x4) 0)) (Int.toNat (Pu.impl_SketchPlace.v x4 x0)) 0))) x2 x3 (w64 (x4 + 1))) else (none)) else (none)) else (none)) else (k0 x0 x1 x2 x3 x4)
def l5 {R : Type} (N : Nat) (k0 : ByteArray → Int → Row → Int → Int → Option R) : Nat → ByteArray → Int → Row → Int → Int → Option R
  | 0 => (fun _ _ _ _ _ => none)
  | n + 1 => (fun x0 x1 x2 x3 x4 => r5 N (l5 N k0 n) k0 x0 x1 x2 x3 x4)
def b {R : Type} (N : Nat) (kr : Int → Option R) (s0_0 : Row) (s0_1 : Int) (key1 : ByteArray) : Option R := bif (Pu.impl_SketchOk.c s0_0 s0_1) then (bif (!Pu.impl_SketchOk.v s0_0 s0_1) then (kr 0) else (l5 N (fun y5 y6 y7 y8 y9 => kr y6) N key1 15 s0_0 (↑(List.length s0_0) : Int) 0)) else (none)
theorem q5_bind {R S : Type} (f : R → Option S) (N : Nat) (k0 : ByteArray → Int → Row → Int → Int → Option R) : ∀ n : Nat, (∀ (x0 : ByteArray) (x1 : Int) (x2 : Row) (x3 : Int) (x4 : Int), Option.bind (l5 N k0 n x0 x1 x2 x3 x4) f = l5 N (fun y0 y1 y2 y3 y4 => (Option.bind (k0 y0 y1 y2 y3 y4) f)) n x0 x1 x2 x3 x4) := by
  intro n
  induction n with
  | zero => exact (fun _ _ _ _ _ => rfl)
  | succ n ih =>
    intro x0 x1 x2 x3 x4
    simp only [l5, r5, Lib.cond_bind, Lib.some_bind, Lib.none_bind, ih]
theorem l5_bind {R S : Type} (f : R → Option S) (N : Nat) (k0 : ByteArray → Int → Row → Int → Int → Option R) (n : Nat) (x0 : ByteArray) (x1 : Int) (x2 : Row) (x3 : Int) (x4 : Int) : Option.bind (l5 N k0 n x0 x1 x2 x3 x4) f = l5 N (fun y0 y1 y2 y3 y4 => (Option.bind (k0 y0 y1 y2 y3 y4) f)) n x0 x1 x2 x3 x4 := (q5_bind f N k0 n) x0 x1 x2 x3 x4
theorem b_bind {R : Type} (N : Nat) (kr : Int → Option R) (s0_0 : Row) (s0_1 : Int) (key1 : ByteArray) : b N kr s0_0 s0_1 key1 = Option.bind (b N (fun r0 => some (r0)) s0_0 s0_1 key1) (fun p => kr p) := by
  unfold b; simp only [Lib.cond_bind, Lib.some_bind, Lib.none_bind, l5_bind]
def vo (s0_0 : Row) (s0_1 : Int) (key1 : ByteArray) : Option (Int) := b Lib.big (fun r0 => some (r0)) s0_0 s0_1 key1
def c (s0_0 : Row) (s0_1 : Int) (key1 : ByteArray) : Bool := Option.isSome (vo s0_0 s0_1 key1)
def v (s0_0 : Row) (s0_1 : Int) (key1 : ByteArray) : Int := Option.getD (vo s0_0 s0_1 key1) (0)
theorem out (s0_0 : Row) (s0_1 : Int) (key1 : ByteArray) {x : Int} (h : vo s0_0 s0_1 key1 = some x) : c s0_0 s0_1 key1 = true ∧ v s0_0 s0_1 key1 = x := by
  unfold c v; rw [h]; exact ⟨rfl, rfl⟩
theorem b_eq {R : Type} (kr : Int → Option R) (s0_0 : Row) (s0_1 : Int) (key1 : ByteArray) (hc : c s0_0 s0_1 key1 = true) : ∃ N, b N kr s0_0 s0_1 key1 = kr (v s0_0 s0_1 key1) := by
  refine ⟨Lib.big, ?_⟩
  rw [b_bind]
  have e : vo s0_0 s0_1 key1 = some (v s0_0 s0_1 key1) := by
    unfold c at hc; unfold v
    cases h : vo s0_0 s0_1 key1 with
    | none => rw [h] at hc; cases hc
    | some x => rfl
  unfold vo at e
  rw [e]; rfl
end Go.FG.Pu.impl_SketchGuess

namespace Go.FG.Pu.impl_PolicyTouch
def b {R : Type} (kr : Row → Row → Row → Int → ByteArray → Option R) (p0_0 : Row) (p0_1 : Row) (p0_2 : Row) (p0_3 : Int) (key1 : ByteArray) : Option R := bif (Pu.impl_copyPolicy.c p0_0 p0_1 p0_2 p0_3) then (bif (Pu.impl_PolicyOk.c p0_0 p0_1 p0_2 p0_3) then (bif (!Pu.impl_PolicyOk.v p0_0 p0_1 p0_2 p0_3) then (kr ((Pu.impl_copyPolicy.v p0_0 p0_1 p0_2 p0_3).1) ((Pu.impl_copyPolicy.v p0_0 p0_1 p0_2 p0_3).2.1) ((Pu.impl_copyPolicy.v p0_0 p0_1 p0_2 p0_3).2.2.1) ((Pu.impl_copyPolicy.v p0_0 p0_1 p0_2 p0_3).2.2.2) ({ data := #[] })) else (bif (!Pu.impl_isKey.v key1) then (kr ((Pu.impl_copyPolicy.v p0_0 p0_1 p0_2 p0_3).1) ((Pu.impl_copyPolicy.v p0_0 p0_1 p0_2 p0_3).2.1) ((Pu.impl_copyPolicy.v p0_0 p0_1 p0_2 p0_3).2.2.1) ((Pu.impl_copyPolicy.v p0_0 p0_1 p0_2 p0_3).2.2.2) ({ data := #[] })) else (bif (Pu.impl_SketchBump.c p0_2 p0_3 key1) then (bif (Pu.slices_Contains_string.c p0_1 key1) then (bif (Pu.slices_Contains_string.v p0_1 key1) then (bif (Pu.impl_withoutKey.c p0_1 key1) then (bif (roomy (List.length (Pu.impl_withoutKey.v p0_1 key1) + List.length (List.set (zeros [Ck.s] 1) 0 [CV.s key1])) 16) then (kr ((Pu.impl_copyPolicy.v p0_0 p0_1 p0_2 p0_3).1) (Pu.impl_withoutKey.v p0_1 key1 ++ List.set (zeros [Ck.s] 1) 0 [CV.s key1]) ((Pu.impl_SketchBump.v p0_2 p0_3 key1).1) ((Pu.impl_SketchBump.v p0_2 p0_3 key1).2) ({ data := #[] })) else (none)) else (none)) else (bif (Pu.impl_withoutKey.c p0_0 key1) then (bif (roomy (List.length (Pu.impl_withoutKey.v p0_0 key1) + List.length (List.set (zeros [Ck.s] 1) 0 [CV.s key1])) 16) then (bif (decide ((↑(List.length (Pu.impl_withoutKey.v p0_0 key1 ++ List.set (zeros [Ck.s] 1) 0 [CV.s key1])) : Int) ≤ 2)) then (kr (Pu.impl_withoutKey.v p0_0 key1 ++ List.set (zeros [Ck.s] 1) 0 [CV.s key1]) ((Pu.impl_copyPolicy.v p0_0 p0_1 p0_2 p0_3).2.1) ((Pu.impl_SketchBump.v p0_2 p0_3 key1).1) ((Pu.impl_SketchBump.v p0_2 p0_3 key1).2) ({ data := #[] })) else (bif (decide (0 < (↑(List.length (Pu.impl_withoutKey.v p0_0 key1 ++ List.set (zeros [Ck.s] 1) 0 [CV.s key1])) : Int))) then (bif (inB 1 (↑(List.length (Pu.impl_withoutKey.v p0_0 key1 ++ List.set (zeros [Ck.s] 1) 0 [CV.s key1])) : Int) (↑(List.length (Pu.impl_withoutKey.v p0_0 key1 ++ List.set (zeros [Ck.s] 1) 0 [CV.s key1])) : Int)) then (bif (decide ((↑(List.length (Pu.impl_copyPolicy.v p0_0 p0_1 p0_2 p0_3).2.1) : Int) < 4)) then (bif (roomy (List.length (Pu.impl_copyPolicy.v p0_0 p0_1 p0_2 p0_3).2.1 + List.length (List.set (zeros [Ck.s] 1) 0 [CV.s (cvS (cellAt (Pu.impl_withoutKey.v p0_0 key1 ++ List.set (zeros [Ck.s] 1) 0 [CV.s key1]) (Int.toNat 0) 0))])) 16) then (kr (view (Pu.impl_withoutKey.v p0_0 key1 ++ List.set (zeros [Ck.s] 1) 0 [CV.s key1]) (Int.toNat 1) (Int.toNat (↑(List.length (Pu.impl_withoutKey.v p0_0 key1 ++ List.set (zeros [Ck.s] 1) 0 [CV.s key1])) : Int))) ((Pu.impl_copyPolicy.v p0_0 p0_1 p0_2 p0_3).2.1 ++ List.set (zeros [Ck.s] 1) 0 [CV.s (cvS (cellAt (Pu.impl_withoutKey.v p0_0 key1 ++ List.set (zeros [Ck.s] 1) 0 [CV.s key1]) (Int.toNat 0) 0))]) ((Pu.impl_SketchBump.v p0_2 p0_3 key1).1) ((Pu.impl_SketchBump.v p0_2 p0_3 key1).2) ({ data := #[] })) else (none)) else (bif (decide (0 < (↑(List.length (Pu.impl_copyPolicy.v p0_0 p0_1 p0_2 p0_3).2.1) : Int))) then (bif (Pu.impl_SketchGuess.c (Pu.impl_SketchBump.v p0_2 p0_3 key1).1 (Pu.impl_SketchBump.v p0_2 p0_3 key1).2 (cvS (cellAt (Pu.impl_withoutKey.v p0_0 key1 ++ List.set (zeros [Ck.s] 1) 0 [CV.s key1]) (Int.toNat 0) 0))) then (bif (Pu.impl_SketchGuess.c (Pu.impl_SketchBump.v p0_2 p0_3 key1).1 (Pu.impl_SketchBump.v p0_2 p0_3 key1).2 (cvS (cellAt (Pu.impl_copyPolicy.v p0_0 p0_1 p0_2 p0_3).2.1 (Int.toNat 0) 0))) then (bif (decide (Pu.impl_SketchGuess.v (Pu.impl_SketchBump.v p0_2 p0_3 key1).1 (Pu.impl_SketchBump.v p0_2 p0_3 key1).2 (cvS (cellAt (Pu.impl_withoutKey.v p0_0 key1 ++ List.set (zeros [Ck.s] 1) 0 [CV.s key1]) (Int.toNat 0) 0)) > Pu.impl_SketchGuess.v (Pu.impl_SketchBump.v p0_2 p0_3 key1).1 (Pu.impl_SketchBump.v p0_2 p0_3 key1).2 (cvS (cellAt (Pu.impl_copyPolicy.v p0_0 p0_1 p0_2 p0_3).2.1 (Int.toNat 0) 0)))) then (bif (inB 1 (↑(List.length (Pu.impl_copyPolicy.v p0_0 p0_1 p0_2 p0_3).2.1) : Int) (↑(List.length (Pu.impl_copyPolicy.v p0_0 p0_1 p0_2 p0_3).2.1) : Int)) then (bif (roomy (List.length (view (Pu.impl_copyPolicy.v p0_0 p0_1 p0_2 p0_3).2.1 (Int.toNat 1) (Int.toNat (↑(List.length (Pu.impl_copyPolicy.v p0_0 p0_1 p0_2 p0_3).2.1) : Int))) + List.length (List.set (zeros [Ck.s] 1) 0 [CV.s (cvS (cellAt (Pu.impl_withoutKey.v p0_0 key1 ++ List.set (zeros [Ck.s] 1) 0 [CV.s key1]) (Int.toNat 0) 0))])) 16) then (kr (view (Pu.impl_withoutKey.v p0_0 key1 ++ List.set (zeros [Ck.s] 1) 0 [CV.s key1]) (Int.toNat 1) (Int.toNat (↑(List.length (Pu.impl_withoutKey.v p0_0 key1 ++ List.set (zeros [Ck.s] 1) 0 [CV.s key1])) : Int))) (view (Pu.impl_copyPolicy.v p0_0 p0_1 p0_2 p0_3).2.1 (Int.toNat 1) (Int.toNat (↑(List.length (Pu.impl_copyPolicy.v p0_0 p0_1 p0_2 p0_3).2.1) : Int)) ++ List.set (zeros [Ck.s] 1) 0 [CV.s (cvS (cellAt (Pu.impl_withoutKey.v p0_0 key1 ++ List.set (zeros [Ck.s] 1) 0 [CV.s key1]) (Int.toNat 0) 0))]) ((Pu.impl_SketchBump.v p0_2 p0_3 key1).1) ((Pu.impl_SketchBump.v p0_2 p0_3 key1).2) (cvS (cellAt (Pu.impl_copyPolicy.v p0_0 p0_1 p0_2 p0_3).2.1 (Int.toNat 0) 0))) else (none)) else (none)) else (kr (view (Pu.impl_withoutKey.v p0_0 key1 ++ List.set (zeros [Ck.s] 1) 0 [CV.s key1]) (Int.toNat 1) (Int.toNat (↑(List.length (Pu.impl_withoutKey.v p0_0 key1 ++ List.set (zeros [Ck.s] 1) 0 [CV.s key1])) : Int))) ((Pu.impl_copyPolicy.v p0_0 p0_1 p0_2 p0_3).2.1) ((Pu.impl_SketchBump.v p0_2 p0_3 key1).1) ((Pu.impl_SketchBump.v p0_2 p0_3 key1).2) (cvS (cellAt (Pu.impl_withoutKey.v p0_0 key1 ++ List.set (zeros [Ck.s] 1) 0 [CV.s key1]) (Int.toNat 0) 0)))) else (none)) else (none)) else (none))) else (none)) else (none))) else (none)) else (none))) else (none)) else (none)))) else (none)) else (none)
theorem b_bind {R : Type} (kr : Row → Row → Row → Int → ByteArray → Option R) (p0_0 : Row) (p0_1 : Row) (p0_2 : Row) (p0_3 : Int) (key1 : ByteArray) : b kr p0_0 p0_1 p0_2 p0_3 key1 = Option.bind (b (fun r0 r1 r2 r3 r4 => some (r0, r1, r2, r3, r4)) p0_0 p0_1 p0_2 p0_3 key1) (fun p => kr p.1 p.2.1 p.2.2.1 p.2.2.2.1 p.2.2.2.2) := by
  unfold b; simp only [Lib.cond_bind, Lib.some_bind, Lib.none_bind]
def vo (p0_0 : Row) (p0_1 : Row) (p0_2 : Row) (p0_3 : Int) (key1 : ByteArray) : Option (Row × Row × Row × Int × ByteArray) := b (fun r0 r1 r2 r3 r4 => some (r0, r1, r2, r3, r4)) p0_0 p0_1 p0_2 p0_3 key1
def c (p0_0 : Row) (p0_1 : Row) (p0_2 : Row) (p0_3 : Int) (key1 : ByteArray) : Bool := Option.isSome (vo p0_0 p0_1 p0_2 p0_3 key1)
def v (p0_0 : Row) (p0_1 : Row) (p0_2 : Row) (p0_3 : Int) (key1 : ByteArray) : Row × Row × Row × Int × ByteArray := Option.getD (vo p0_0 p0_1 p0_2 p0_3 key1) ([], [], [], 0, ⟨#[]⟩)
theorem out (p0_0 : Row) (p0_1 : Row) (p0_2 : Row) (p0_3 : Int) (key1 : ByteArray) {x : Row × Row × Row × Int × ByteArray} (h : vo p0_0 p0_1 p0_2 p0_3 key1 = some x) : c p0_0 p0_1 p0_2 p0_3 key1 = true ∧ v p0_0 p0_1 p0_2 p0_3 key1 = x := by
  unfold c v; rw [h]; exact ⟨rfl, rfl⟩
theorem b_eq {R : Type} (kr : Row → Row → Row → Int → ByteArray → Option R) (p0_0 : Row) (p0_1 : Row) (p0_2 : Row) (p0_3 : Int) (key1 : ByteArray) (hc : c p0_0 p0_1 p0_2 p0_3 key1 = true) : b kr p0_0 p0_1 p0_2 p0_3 key1 = kr ((v p0_0 p0_1 p0_2 p0_3 key1).1) ((v p0_0 p0_1 p0_2 p0_3 key1).2.1) ((v p0_0 p0_1 p0_2 p0_3 key1).2.2.1) ((v p0_0 p0_1 p0_2 p0_3 key1).2.2.2.1) ((v p0_0 p0_1 p0_2 p0_3 key1).2.2.2.2) := by
  rw [b_bind]
  have e : vo p0_0 p0_1 p0_2 p0_3 key1 = some (v p0_0 p0_1 p0_2 p0_3 key1) := by
    unfold c at hc; unfold v
    cases h : vo p0_0 p0_1 p0_2 p0_3 key1 with
    | none => rw [h] at hc; cases hc
    | some x => rfl
  unfold vo at e
  rw [e]; rfl
end Go.FG.Pu.impl_PolicyTouch

namespace Go.FG.Pu.laws_eqStringS
def r4 {R : Type} (N : Nat) (g : Row → Row → Bool → Int → Option R) (k0 : Row → Row → Bool → Int → Option R) (k1 : Row → Row → Bool → Int → Option R) (x0 : Row) (x1 : Row) (x2 : Bool) (x3 : Int) : Option R := bif (decide (x3 < (↑(List.length x0) : Int))) then (bif (decide (0 ≤ x3) && decide (x3 < (↑(List.length x0) : Int))) then (bif (decide (0 ≤ x3) && decide (x3 < (↑(List.length x1) : Int))) then (bif (!List.beq (ByteArray.toList (cvS (cellAt x0 (Int.toNat x3) 0))) (ByteArray.toList (cvS (cellAt x1 (Int.toNat x3) 0)))) then (k0 x0 x1 false x3) else (g x0 x1 x2 (w64 (x3 + 1)))) else (none)) else (none)) else (k1 x0 x1 x2 x3)
def l4 {R : Type} (N : Nat) (k0 : Row → Row → Bool → Int → Option R) (k1 : Row → Row → Bool → Int → Option R) : Nat → Row → Row → Bool → Int → Option R
  | 0 => (fun _ _ _ _ => none)
  | n + 1 => (fun x0 x1 x2 x3 => r4 N (l4 N k0 k1 n) k0 k1 x0 x1 x2 x3)
def b {R : Type} (N : Nat) (kr : Bool → Option R) (a0 : Row) (b1 : Row) : Option R := bif ((↑(List.length a0) : Int) != (↑(List.length b1) : Int)) then (kr false) else (l4 N (fun y4 y5 y6 y7 => kr y6) (fun y8 y9 y10 y11 => kr true) N a0 b1 false 0)
theorem q4_bind {R S : Type} (f : R → Option S) (N : Nat) (k0 : Row → Row → Bool → Int → Option R) (k1 : Row → Row → Bool → Int → Option R) : ∀ n : Nat, (∀ (x0 : Row) (x1 : Row) (x2 : Bool) (x3 : Int), Option.bind (l4 N k0 k1 n x0 x1 x2 x3) f = l4 N (fun y0 y1 y2 y3 => (Option.bind (k0 y0 y1 y2 y3) f)) (fun y0 y1 y2 y3 => (Option.bind (k1 y0 y1 y2 y3) f)) n x0 x1 x2 x3) := by
  intro n
  induction n with
  | zero => exact (fun _ _ _ _ => rfl)
  | succ n ih =>
    intro x0 x1 x2 x3
    simp only [l4, r4, Lib.cond_bind, Lib.some_bind, Lib.none_bind, ih]
theorem l4_bind {R S : Type} (f : R → Option S) (N : Nat) (k0 : Row → Row → Bool → Int → Option R) (k1 : Row → Row → Bool → Int → Option R) (n : Nat) (x0 : Row) (x1 : Row) (x2 : Bool) (x3 : Int) : Option.bind (l4 N k0 k1 n x0 x1 x2 x3) f = l4 N (fun y0 y1 y2 y3 => (Option.bind (k0 y0 y1 y2 y3) f)) (fun y0 y1 y2 y3 => (Option.bind (k1 y0 y1 y2 y3) f)) n x0 x1 x2 x3 := (q4_bind f N k0 k1 n) x0 x1 x2 x3
theorem b_bind {R : Type} (N : Nat) (kr : Bool → Option R) (a0 : Row) (b1 : Row) : b N kr a0 b1 = Option.bind (b N (fun r0 => some (r0)) a0 b1) (fun p => kr p) := by
  unfold b; simp only [Lib.cond_bind, Lib.some_bind, Lib.none_bind, l4_bind]
def vo (a0 : Row) (b1 : Row) : Option (Bool) := b Lib.big (fun r0 => some (r0)) a0 b1
def c (a0 : Row) (b1 : Row) : Bool := Option.isSome (vo a0 b1)
def v (a0 : Row) (b1 : Row) : Bool := Option.getD (vo a0 b1) (false)
theorem out (a0 : Row) (b1 : Row) {x : Bool} (h : vo a0 b1 = some x) : c a0 b1 = true ∧ v a0 b1 = x := by
  unfold c v; rw [h]; exact ⟨rfl, rfl⟩
theorem b_eq {R : Type} (kr : Bool → Option R) (a0 : Row) (b1 : Row) (hc : c a0 b1 = true) : ∃ N, b N kr a0 b1 = kr (v a0 b1) := by
  refine ⟨Lib.big, ?_⟩
  rw [b_bind]
  have e : vo a0 b1 = some (v a0 b1) := by
    unfold c at hc; unfold v
    cases h : vo a0 b1 with
    | none => rw [h] at hc; cases hc
    | some x => rfl
  unfold vo at e
  rw [e]; rfl
end Go.FG.Pu.laws_eqStringS

namespace Go.FG.Pu.laws_eqIntS
def r4 {R : Type} (N : Nat) (g : Row → Row → Bool → Int → Option R) (k0 : Row → Row → Bool → Int → Option R) (k1 : Row → Row → Bool → Int → Option R) (x0 : Row) (x1 : Row) (x2 : Bool) (x3 : Int) : Option R := bif (decide (x3 < (↑(List.length x0) : Int))) then (bif (decide (0 ≤ x3) && decide (x3 < (↑(List.length x0) : Int))) then (bif (decide (0 ≤ x3) && decide (x3 < (↑(List.length x1) : Int))) then (bif (cvI (cellAt x0 (Int.toNat x3) 0) != cvI (cellAt x1 (Int.toNat x3) 0)) then (k0 x0 x1 false x3) else (g x0 x1 x2 (w64 (x3 + 1)))) else (none)) else (none)) else (k1 x0 x1 x2 x3)
def l4 {R : Type} (N : Nat) (k0 : Row → Row → Bool → Int → Option R) (k1 : Row → Row → Bool → Int → Option R) : Nat → Row → Row → Bool → Int → Option R
  | 0 => (fun _ _ _ _ => none)
  | n + 1 => (fun x0 x1 x2 x3 => r4 N (l4 N k0 k1 n) k0 k1 x0 x1 x2 x3)
def b {R : Type} (N : Nat) (kr : Bool → Option R) (a0 : Row) (b1 : Row) : Option R := bif ((↑(List.length a0) : Int) != (↑(List.length b1) : Int)) then (kr false) else (l4 N (fun y4 y5 y6 y7 => kr y6) (fun y8 y9 y10 y11 => kr true) N a0 b1 false 0)
def v (a0 : Row) (b1 : Row) : Bool := (a0.length == b1.length) && (List.range a0.length).all fun i => !(cvI (cellAt a0 i 0) != cvI (cellAt b1 i 0))
def fr (a b : Row) (i : Nat) : Bool := (List.range' i (a.length - i)).all fun i => !(cvI (cellAt a i 0) != cvI (cellAt b i 0))
theorem run {R : Type} (N : Nat) (kr : Bool → Option R) (a b : Row) (hl : a.length = b.length) (ha : FitR a) : ∀ n (i : Nat), i ≤ a.length → a.length - i < n → l4 N (fun _ _ y _ => kr y) (fun _ _ _ _ => kr true) n a b false i = kr (fr a b i) := by
  refine Lib.loop_gen (fun n (i : Nat) => l4 N (fun _ _ y _ => kr y) (fun _ _ _ _ => kr true) n a b false i) (fun i => a.length - i) (fun i => i ≤ a.length) (fun i => kr (fr a b i)) (fun n i hi => ?_)
  simp only [l4, r4, Lib.dlt, Lib.dle0, Lib.toN, Bool.true_and]
  by_cases h : i < a.length
  · have e : a.length - i = (a.length - (i + 1)) + 1 := by omega
    have hf : fr a b i = (!(cvI (cellAt a i 0) != cvI (cellAt b i 0)) && fr a b (i + 1)) := by
      unfold fr; rw [e, List.range'_succ, List.all_cons]
    have hb : i < b.length := by omega
    simp only [h, hb, decide_true, cond_true, Lib.w64_s h ha.1]
    cases hv : (cvI (cellAt a i 0) != cvI (cellAt b i 0)) with
    | false => exact .inr ⟨i + 1, h, by omega, by rw [hf, hv]; rfl, rfl⟩
    | true => left; rw [hf, hv]; rfl
  · left
    have : a.length - i = 0 := by omega
    simp only [h, decide_false, cond_false]
    unfold fr; rw [this]; rfl
theorem b_eq {R : Type} (kr : Bool → Option R) (a0 : Row) (b1 : Row) (f0 : FitR a0) (f1 : FitR b1) : ∃ N, b N kr a0 b1 = kr (v a0 b1) := by
  refine ⟨a0.length + 1, ?_⟩
  unfold b v
  by_cases hl : a0.length = b1.length
  · have e : ((a0.length : Int) != (b1.length : Int)) = false := by simp [hl]
    rw [e, cond_false]
    refine (run _ kr a0 b1 hl f0 (a0.length + 1) 0 (by omega) (by omega)).trans ?_
    unfold fr; rw [show (a0.length == b1.length) = true by simp [hl], Nat.sub_zero, ← List.range_eq_range']; rfl
  · have e : ((a0.length : Int) != (b1.length : Int)) = true := by simp; omega
    have e2 : (a0.length == b1.length) = false := by simp; omega
    rw [e, cond_true, e2]; rfl
theorem refl (a : Row) : v a a = true := by unfold v; simp
end Go.FG.Pu.laws_eqIntS

namespace Go.FG.Pu.laws_eqIntSS
def r4 {R : Type} (N : Nat) (g : Row → Row → Bool → Int → Option R) (k0 : Row → Row → Bool → Int → Option R) (k1 : Row → Row → Bool → Int → Option R) (x0 : Row) (x1 : Row) (x2 : Bool) (x3 : Int) : Option R := bif (decide (x3 < (↑(List.length x0) : Int))) then (bif (decide (0 ≤ x3) && decide (x3 < (↑(List.length x0) : Int))) then (bif (decide (0 ≤ x3) && decide (x3 < (↑(List.length x1) : Int))) then (bif (!Pu.laws_eqIntS.v (cvL (cellAt x0 (Int.toNat x3) 0)) (cvL (cellAt x1 (Int.toNat x3) 0))) then (k0 x0 x1 false x3) else (g x0 x1 x2 (w64 (x3 + 1)))) else (none)) else (none)) else (k1 x0 x1 x2 x3)
def l4 {R : Type} (N : Nat) (k0 : Row → Row → Bool → Int → Option R) (k1 : Row → Row → Bool → Int → Option R) : Nat → Row → Row → Bool → Int → Option R
  | 0 => (fun _ _ _ _ => none)
  | n + 1 => (fun x0 x1 x2 x3 => r4 N (l4 N k0 k1 n) k0 k1 x0 x1 x2 x3)
def b {R : Type} (N : Nat) (kr : Bool → Option R) (a0 : Row) (b1 : Row) : Option R := bif ((↑(List.length a0) : Int) != (↑(List.length b1) : Int)) then (kr false) else (l4 N (fun y4 y5 y6 y7 => kr y6) (fun y8 y9 y10 y11 => kr true) N a0 b1 false 0)
theorem q4_bind {R S : Type} (f : R → Option S) (N : Nat) (k0 : Row → Row → Bool → Int → Option R) (k1 : Row → Row → Bool → Int → Option R) : ∀ n : Nat, (∀ (x0 : Row) (x1 : Row) (x2 : Bool) (x3 : Int), Option.bind (l4 N k0 k1 n x0 x1 x2 x3) f = l4 N (fun y0 y1 y2 y3 => (Option.bind (k0 y0 y1 y2 y3) f)) (fun y0 y1 y2 y3 => (Option.bind (k1 y0 y1 y2 y3) f)) n x0 x1 x2 x3) := by
  intro n
  induction n with
  | zero => exact (fun _ _ _ _ => rfl)
  | succ n ih =>
    intro x0 x1 x2 x3
    simp only [l4, r4, Lib.cond_bind, Lib.some_bind, Lib.none_bind, ih]
theorem l4_bind {R S : Type} (f : R → Option S) (N : Nat) (k0 : Row → Row → Bool → Int → Option R) (k1 : Row → Row → Bool → Int → Option R) (n : Nat) (x0 : Row) (x1 : Row) (x2 : Bool) (x3 : Int) : Option.bind (l4 N k0 k1 n x0 x1 x2 x3) f = l4 N (fun y0 y1 y2 y3 => (Option.bind (k0 y0 y1 y2 y3) f)) (fun y0 y1 y2 y3 => (Option.bind (k1 y0 y1 y2 y3) f)) n x0 x1 x2 x3 := (q4_bind f N k0 k1 n) x0 x1 x2 x3
theorem b_bind {R : Type} (N : Nat) (kr : Bool → Option R) (a0 : Row) (b1 : Row) : b N kr a0 b1 = Option.bind (b N (fun r0 => some (r0)) a0 b1) (fun p => kr p) := by
  unfold b; simp only [Lib.cond_bind, Lib.some_bind, Lib.none_bind, l4_bind]
def vo (a0 : Row) (b1 : Row) : Option (Bool) := b Lib.big (fun r0 => some (r0)) a0 b1
def c (a0 : Row) (b1 : Row) : Bool := Option.isSome (vo a0 b1)
def v (a0 : Row) (b1 : Row) : Bool := Option.getD (vo a0 b1) (false)
theorem out (a0 : Row) (b1 : Row) {x : Bool} (h : vo a0 b1 = some x) : c a0 b1 = true ∧ v a0 b1 = x := by
  unfold c v; rw [h]; exact ⟨rfl, rfl⟩
theorem b_eq {R : Type} (kr : Bool → Option R) (a0 : Row) (b1 : Row) (hc : c a0 b1 = true) : ∃ N, b N kr a0 b1 = kr (v a0 b1) := by
  refine ⟨Lib.big, ?_⟩
  rw [b_bind]
  have e : vo a0 b1 = some (v a0 b1) := by
    unfold c at hc; unfold v
    cases h : vo a0 b1 with
    | none => rw [h] at hc; cases hc
    | some x => rfl
  unfold vo at e
  rw [e]; rfl
end Go.FG.Pu.laws_eqIntSS

namespace Go.FG.Pu.laws_eqSketch
def b {R : Type} (kr : Bool → Option R) (a0_0 : Row) (a0_1 : Int) (b1_0 : Row) (b1_1 : Int) : Option R := bif (Pu.laws_eqIntSS.c a0_0 b1_0) then (bif (!Pu.laws_eqIntSS.v a0_0 b1_0) then (kr false) else (bif (a0_1 != b1_1) then (kr false) else (kr true))) else (none)
theorem b_bind {R : Type} (kr : Bool → Option R) (a0_0 : Row) (a0_1 : Int) (b1_0 : Row) (b1_1 : Int) : b kr a0_0 a0_1 b1_0 b1_1 = Option.bind (b (fun r0 => some (r0)) a0_0 a0_1 b1_0 b1_1) (fun p => kr p) := by
  unfold b; simp only [Lib.cond_bind, Lib.some_bind, Lib.none_bind]
def vo (a0_0 : Row) (a0_1 : Int) (b1_0 : Row) (b1_1 : Int) : Option (Bool) := b (fun r0 => some (r0)) a0_0 a0_1 b1_0 b1_1
def c (a0_0 : Row) (a0_1 : Int) (b1_0 : Row) (b1_1 : Int) : Bool := Option.isSome (vo a0_0 a0_1 b1_0 b1_1)
def v (a0_0 : Row) (a0_1 : Int) (b1_0 : Row) (b1_1 : Int) : Bool := Option.getD (vo a0_0 a0_1 b1_0 b1_1) (false)
theorem out (a0_0 : Row) (a0_1 : Int) (b1_0 : Row) (b1_1 : Int) {x : Bool} (h : vo a0_0 a0_1 b1_0 b1_1 = some x) : c a0_0 a0_1 b1_0 b1_1 = true ∧ v a0_0 a0_1 b1_0 b1_1 = x := by
  unfold c v; rw [h]; exact ⟨rfl, rfl⟩
theorem b_eq {R : Type} (kr : Bool → Option R) (a0_0 : Row) (a0_1 : Int) (b1_0 : Row) (b1_1 : Int) (hc : c a0_0 a0_1 b1_0 b1_1 = true) : b kr a0_0 a0_1 b1_0 b1_1 = kr (v a0_0 a0_1 b1_0 b1_1) := by
  rw [b_bind]
  have e : vo a0_0 a0_1 b1_0 b1_1 = some (v a0_0 a0_1 b1_0 b1_1) := by
    unfold c at hc; unfold v
    cases h : vo a0_0 a0_1 b1_0 b1_1 with
    | none => rw [h] at hc; cases hc
    | some x => rfl
  unfold vo at e
  rw [e]; rfl
end Go.FG.Pu.laws_eqSketch

namespace Go.FG.Pu.laws_eqPolicy
def b {R : Type} (kr : Bool → Option R) (a0_0 : Row) (a0_1 : Row) (a0_2 : Row) (a0_3 : Int) (b1_0 : Row) (b1_1 : Row) (b1_2 : Row) (b1_3 : Int) : Option R := bif (Pu.laws_eqStringS.c a0_0 b1_0) then (bif (!Pu.laws_eqStringS.v a0_0 b1_0) then (kr false) else (bif (Pu.laws_eqStringS.c a0_1 b1_1) then (bif (!Pu.laws_eqStringS.v a0_1 b1_1) then (kr false) else (bif (Pu.laws_eqSketch.c a0_2 a0_3 b1_2 b1_3) then (bif (!Pu.laws_eqSketch.v a0_2 a0_3 b1_2 b1_3) then (kr false) else (kr true)) else (none))) else (none))) else (none)
theorem b_bind {R : Type} (kr : Bool → Option R) (a0_0 : Row) (a0_1 : Row) (a0_2 : Row) (a0_3 : Int) (b1_0 : Row) (b1_1 : Row) (b1_2 : Row) (b1_3 : Int) : b kr a0_0 a0_1 a0_2 a0_3 b1_0 b1_1 b1_2 b1_3 = Option.bind (b (fun r0 => some (r0)) a0_0 a0_1 a0_2 a0_3 b1_0 b1_1 b1_2 b1_3) (fun p => kr p) := by
  unfold b; simp only [Lib.cond_bind, Lib.some_bind, Lib.none_bind]
def vo (a0_0 : Row) (a0_1 : Row) (a0_2 : Row) (a0_3 : Int) (b1_0 : Row) (b1_1 : Row) (b1_2 : Row) (b1_3 : Int) : Option (Bool) := b (fun r0 => some (r0)) a0_0 a0_1 a0_2 a0_3 b1_0 b1_1 b1_2 b1_3
def c (a0_0 : Row) (a0_1 : Row) (a0_2 : Row) (a0_3 : Int) (b1_0 : Row) (b1_1 : Row) (b1_2 : Row) (b1_3 : Int) : Bool := Option.isSome (vo a0_0 a0_1 a0_2 a0_3 b1_0 b1_1 b1_2 b1_3)
def v (a0_0 : Row) (a0_1 : Row) (a0_2 : Row) (a0_3 : Int) (b1_0 : Row) (b1_1 : Row) (b1_2 : Row) (b1_3 : Int) : Bool := Option.getD (vo a0_0 a0_1 a0_2 a0_3 b1_0 b1_1 b1_2 b1_3) (false)
theorem out (a0_0 : Row) (a0_1 : Row) (a0_2 : Row) (a0_3 : Int) (b1_0 : Row) (b1_1 : Row) (b1_2 : Row) (b1_3 : Int) {x : Bool} (h : vo a0_0 a0_1 a0_2 a0_3 b1_0 b1_1 b1_2 b1_3 = some x) : c a0_0 a0_1 a0_2 a0_3 b1_0 b1_1 b1_2 b1_3 = true ∧ v a0_0 a0_1 a0_2 a0_3 b1_0 b1_1 b1_2 b1_3 = x := by
  unfold c v; rw [h]; exact ⟨rfl, rfl⟩
theorem b_eq {R : Type} (kr : Bool → Option R) (a0_0 : Row) (a0_1 : Row) (a0_2 : Row) (a0_3 : Int) (b1_0 : Row) (b1_1 : Row) (b1_2 : Row) (b1_3 : Int) (hc : c a0_0 a0_1 a0_2 a0_3 b1_0 b1_1 b1_2 b1_3 = true) : b kr a0_0 a0_1 a0_2 a0_3 b1_0 b1_1 b1_2 b1_3 = kr (v a0_0 a0_1 a0_2 a0_3 b1_0 b1_1 b1_2 b1_3) := by
  rw [b_bind]
  have e : vo a0_0 a0_1 a0_2 a0_3 b1_0 b1_1 b1_2 b1_3 = some (v a0_0 a0_1 a0_2 a0_3 b1_0 b1_1 b1_2 b1_3) := by
    unfold c at hc; unfold v
    cases h : vo a0_0 a0_1 a0_2 a0_3 b1_0 b1_1 b1_2 b1_3 with
    | none => rw [h] at hc; cases hc
    | some x => rfl
  unfold vo at e
  rw [e]; rfl
end Go.FG.Pu.laws_eqPolicy

namespace Go.FG.Pu.laws_markText
def r4 {R : Type} (N : Nat) (g : Int → ByteArray → Option R) (k0 : Int → ByteArray → Option R) (x0 : Int) (x1 : ByteArray) : Option R := bif (decide (x0 > 0)) then (bif (decide (ByteArray.size (bytesOf (List.set (zeros [Ck.i IntKind.u8] 1) 0 [CV.i IntKind.u8 (IntKind.wrap IntKind.u8 (w64 (48 + Int.tmod x0 10)))])) + ByteArray.size x1 ≤ 4611686018427387904)) then (g (w64 (Int.tdiv x0 10)) (bytesOf (List.set (zeros [Ck.i IntKind.u8] 1) 0 [CV.i IntKind.u8 (IntKind.wrap IntKind.u8 (w64 (48 + Int.tmod x0 10)))]) ++ x1)) else (none)) else (k0 x0 x1)
def l4 {R : Type} (N : Nat) (k0 : Int → ByteArray → Option R) : Nat → Int → ByteArray → Option R
  | 0 => (fun _ _ => none)
  | n + 1 => (fun x0 x1 => r4 N (l4 N k0 n) k0 x0 x1)
def b {R : Type} (N : Nat) (kr : ByteArray → Option R) (k0 : Int) : Option R := bif (decide (k0 ≤ 0)) then (kr ({ data := #[UInt8.ofNat 109, UInt8.ofNat 48] })) else (l4 N (fun y2 y3 => bif (decide (ByteArray.size { data := #[UInt8.ofNat 109] } + ByteArray.size y3 ≤ 4611686018427387904)) then (kr ({ data := #[UInt8.ofNat 109] } ++ y3)) else (none)) N k0 ({ data := #[] }))
theorem q4_bind {R S : Type} (f : R → Option S) (N : Nat) (k0 : Int → ByteArray → Option R) : ∀ n : Nat, (∀ (x0 : Int) (x1 : ByteArray), Option.bind (l4 N k0 n x0 x1) f = l4 N (fun y0 y1 => (Option.bind (k0 y0 y1) f)) n x0 x1) := by
  intro n
  induction n with
  | zero => exact (fun _ _ => rfl)
  | succ n ih =>
    intro x0 x1
    simp only [l4, r4, Lib.cond_bind, Lib.some_bind, Lib.none_bind, ih]
theorem l4_bind {R S : Type} (f : R → Option S) (N : Nat) (k0 : Int → ByteArray → Option R) (n : Nat) (x0 : Int) (x1 : ByteArray) : Option.bind (l4 N k0 n x0 x1) f = l4 N (fun y0 y1 => (Option.bind (k0 y0 y1) f)) n x0 x1 := (q4_bind f N k0 n) x0 x1
theorem b_bind {R : Type} (N : Nat) (kr : ByteArray → Option R) (k0 : Int) : b N kr k0 = Option.bind (b N (fun r0 => some (r0)) k0) (fun p => kr p) := by
  unfold b; simp only [Lib.cond_bind, Lib.some_bind, Lib.none_bind, l4_bind]
def vo (k0 : Int) : Option (ByteArray) := b Lib.big (fun r0 => some (r0)) k0
def c (k0 : Int) : Bool := Option.isSome (vo k0)
def v (k0 : Int) : ByteArray := Option.getD (vo k0) (⟨#[]⟩)
theorem out (k0 : Int) {x : ByteArray} (h : vo k0 = some x) : c k0 = true ∧ v k0 = x := by
  unfold c v; rw [h]; exact ⟨rfl, rfl⟩
theorem b_eq {R : Type} (kr : ByteArray → Option R) (k0 : Int) (hc : c k0 = true) : ∃ N, b N kr k0 = kr (v k0) := by
  refine ⟨Lib.big, ?_⟩
  rw [b_bind]
  have e : vo k0 = some (v k0) := by
    unfold c at hc; unfold v
    cases h : vo k0 with
    | none => rw [h] at hc; cases hc
    | some x => rfl
  unfold vo at e
  rw [e]; rfl
end Go.FG.Pu.laws_markText

namespace Go.FG.Pu.laws_markStringS
def r2 {R : Type} (N : Nat) (g : Int → Int → Row → Option R) (k0 : Int → Int → Row → Option R) (x0 : Int) (x1 : Int) (x2 : Row) : Option R := bif (decide (x1 < (↑(List.length x2) : Int))) then (bif (Pu.laws_markText.c x0) then (bif (decide (0 ≤ x1) && decide (x1 < (↑(List.length x2) : Int))) then (g (w64 (x0 + 1)) (w64 (x1 + 1)) (setC x2 (Int.toNat x1) 0 [CV.s (Pu.laws_markText.v x0)])) else (none)) else (none)) else (k0 x0 x1 x2)
def l2 {R : Type} (N : Nat) (k0 : Int → Int → Row → Option R) : Nat → Int → Int → Row → Option R
  | 0 => (fun _ _ _ => none)
  | n + 1 => (fun x0 x1 x2 => r2 N (l2 N k0 n) k0 x0 x1 x2)
def b {R : Type} (N : Nat) (kr : Int → Row → Option R) (a0 : Row) (k1 : Int) : Option R := l2 N (fun y3 y4 y5 => kr y3 y5) N k1 0 a0
theorem q2_bind {R S : Type} (f : R → Option S) (N : Nat) (k0 : Int → Int → Row → Option R) : ∀ n : Nat, (∀ (x0 : Int) (x1 : Int) (x2 : Row), Option.bind (l2 N k0 n x0 x1 x2) f = l2 N (fun y0 y1 y2 => (Option.bind (k0 y0 y1 y2) f)) n x0 x1 x2) := by
  intro n
  induction n with
  | zero => exact (fun _ _ _ => rfl)
  | succ n ih =>
    intro x0 x1 x2
    simp only [l2, r2, Lib.cond_bind, Lib.some_bind, Lib.none_bind, ih]
theorem l2_bind {R S : Type} (f : R → Option S) (N : Nat) (k0 : Int → Int → Row → Option R) (n : Nat) (x0 : Int) (x1 : Int) (x2 : Row) : Option.bind (l2 N k0 n x0 x1 x2) f = l2 N (fun y0 y1 y2 => (Option.bind (k0 y0 y1 y2) f)) n x0 x1 x2 := (q2_bind f N k0 n) x0 x1 x2
theorem b_bind {R : Type} (N : Nat) (kr : Int → Row → Option R) (a0 : Row) (k1 : Int) : b N kr a0 k1 = Option.bind (b N (fun r0 r1 => some (r0, r1)) a0 k1) (fun p => kr p.1 p.2) := by
  unfold b; simp only [Lib.cond_bind, Lib.some_bind, Lib.none_bind, l2_bind]
def vo (a0 : Row) (k1 : Int) : Option (Int × Row) := b Lib.big (fun r0 r1 => some (r0, r1)) a0 k1
def c (a0 : Row) (k1 : Int) : Bool := Option.isSome (vo a0 k1)
def v (a0 : Row) (k1 : Int) : Int × Row := Option.getD (vo a0 k1) (0, [])
theorem out (a0 : Row) (k1 : Int) {x : Int × Row} (h : vo a0 k1 = some x) : c a0 k1 = true ∧ v a0 k1 = x := by
  unfold c v; rw [h]; exact ⟨rfl, rfl⟩
theorem b_eq {R : Type} (kr : Int → Row → Option R) (a0 : Row) (k1 : Int) (hc : c a0 k1 = true) : ∃ N, b N kr a0 k1 = kr ((v a0 k1).1) ((v a0 k1).2) := by
  refine ⟨Lib.big, ?_⟩
  rw [b_bind]
  have e : vo a0 k1 = some (v a0 k1) := by
    unfold c at hc; unfold v
    cases h : vo a0 k1 with
    | none => rw [h] at hc; cases hc
    | some x => rfl
  unfold vo at e
  rw [e]; rfl
end Go.FG.Pu.laws_markStringS

namespace Go.FG.Pu.laws_markIntS
def r2 {R : Type} (N : Nat) (g : Int → Int → Row → Option R) (k0 : Int → Int → Row → Option R) (x0 : Int) (x1 : Int) (x2 : Row) : Option R := bif (decide (x1 < (↑(List.length x2) : Int))) then (bif (decide (0 ≤ x1) && decide (x1 < (↑(List.length x2) : Int))) then (g (w64 (x0 + 1)) (w64 (x1 + 1)) (setC x2 (Int.toNat x1) 0 [CV.i IntKind.i64 x0])) else (none)) else (k0 x0 x1 x2)
def l2 {R : Type} (N : Nat) (k0 : Int → Int → Row → Option R) : Nat → Int → Int → Row → Option R
  | 0 => (fun _ _ _ => none)
  | n + 1 => (fun x0 x1 x2 => r2 N (l2 N k0 n) k0 x0 x1 x2)
def b {R : Type} (N : Nat) (kr : Int → Row → Option R) (a0 : Row) (k1 : Int) : Option R := l2 N (fun y3 y4 y5 => kr y3 y5) N k1 0 a0
theorem q2_bind {R S : Type} (f : R → Option S) (N : Nat) (k0 : Int → Int → Row → Option R) : ∀ n : Nat, (∀ (x0 : Int) (x1 : Int) (x2 : Row), Option.bind (l2 N k0 n x0 x1 x2) f = l2 N (fun y0 y1 y2 => (Option.bind (k0 y0 y1 y2) f)) n x0 x1 x2) := by
  intro n
  induction n with
  | zero => exact (fun _ _ _ => rfl)
  | succ n ih =>
    intro x0 x1 x2
    simp only [l2, r2, Lib.cond_bind, Lib.some_bind, Lib.none_bind, ih]
theorem l2_bind {R S : Type} (f : R → Option S) (N : Nat) (k0 : Int → Int → Row → Option R) (n : Nat) (x0 : Int) (x1 : Int) (x2 : Row) : Option.bind (l2 N k0 n x0 x1 x2) f = l2 N (fun y0 y1 y2 => (Option.bind (k0 y0 y1 y2) f)) n x0 x1 x2 := (q2_bind f N k0 n) x0 x1 x2
theorem b_bind {R : Type} (N : Nat) (kr : Int → Row → Option R) (a0 : Row) (k1 : Int) : b N kr a0 k1 = Option.bind (b N (fun r0 r1 => some (r0, r1)) a0 k1) (fun p => kr p.1 p.2) := by
  unfold b; simp only [Lib.cond_bind, Lib.some_bind, Lib.none_bind, l2_bind]
def vo (a0 : Row) (k1 : Int) : Option (Int × Row) := b Lib.big (fun r0 r1 => some (r0, r1)) a0 k1
def c (a0 : Row) (k1 : Int) : Bool := Option.isSome (vo a0 k1)
def v (a0 : Row) (k1 : Int) : Int × Row := Option.getD (vo a0 k1) (0, [])
theorem out (a0 : Row) (k1 : Int) {x : Int × Row} (h : vo a0 k1 = some x) : c a0 k1 = true ∧ v a0 k1 = x := by
  unfold c v; rw [h]; exact ⟨rfl, rfl⟩
theorem b_eq {R : Type} (kr : Int → Row → Option R) (a0 : Row) (k1 : Int) (hc : c a0 k1 = true) : ∃ N, b N kr a0 k1 = kr ((v a0 k1).1) ((v a0 k1).2) := by
  refine ⟨Lib.big, ?_⟩
  rw [b_bind]
  have e : vo a0 k1 = some (v a0 k1) := by
    unfold c at hc; unfold v
    cases h : vo a0 k1 with
    | none => rw [h] at hc; cases hc
    | some x => rfl
  unfold vo at e
  rw [e]; rfl
end Go.FG.Pu.laws_markIntS

namespace Go.FG.Pu.laws_markIntSS
def r2 {R : Type} (N : Nat) (g : Int → Int → Row → Option R) (k0 : Int → Int → Row → Option R) (x0 : Int) (x1 : Int) (x2 : Row) : Option R := bif (decide (x1 < (↑(List.length x2) : Int))) then (bif (decide (0 ≤ x1) && decide (x1 < (↑(List.length x2) : Int))) then (bif (Pu.laws_markIntS.c (cvL (cellAt x2 (Int.toNat x1) 0)) x0) then (g ((Pu.laws_markIntS.v (cvL (cellAt x2 (Int.toNat x1) 0)) x0).1) (w64 (x1 + 1)) (setC x2 (Int.toNat x1) 0 [CV.l 3 (Pu.laws_markIntS.v (cvL (cellAt x2 (Int.toNat x1) 0)) x0).2])) else (none)) else (none)) else (k0 x0 x1 x2)
def l2 {R : Type} (N : Nat) (k0 : Int → Int → Row → Option R) : Nat → Int → Int → Row → Option R
  | 0 => (fun _ _ _ => none)
  | n + 1 => (fun x0 x1 x2 => r2 N (l2 N k0 n) k0 x0 x1 x2)
def b {R : Type} (N : Nat) (kr : Int → Row → Option R) (a0 : Row) (k1 : Int) : Option R := l2 N (fun y3 y4 y5 => kr y3 y5) N k1 0 a0
theorem q2_bind {R S : Type} (f : R → Option S) (N : Nat) (k0 : Int → Int → Row → Option R) : ∀ n : Nat, (∀ (x0 : Int) (x1 : Int) (x2 : Row), Option.bind (l2 N k0 n x0 x1 x2) f = l2 N (fun y0 y1 y2 => (Option.bind (k0 y0 y1 y2) f)) n x0 x1 x2) := by
  intro n
  induction n with
  | zero => exact (fun _ _ _ => rfl)
  | succ n ih =>
    intro x0 x1 x2
    simp only [l2, r2, Lib.cond_bind, Lib.some_bind, Lib.none_bind, ih]
theorem l2_bind {R S : Type} (f : R → Option S) (N : Nat) (k0 : Int → Int → Row → Option R) (n : Nat) (x0 : Int) (x1 : Int) (x2 : Row) : Option.bind (l2 N k0 n x0 x1 x2) f = l2 N (fun y0 y1 y2 => (Option.bind (k0 y0 y1 y2) f)) n x0 x1 x2 := (q2_bind f N k0 n) x0 x1 x2
theorem b_bind {R : Type} (N : Nat) (kr : Int → Row → Option R) (a0 : Row) (k1 : Int) : b N kr a0 k1 = Option.bind (b N (fun r0 r1 => some (r0, r1)) a0 k1) (fun p => kr p.1 p.2) := by
  unfold b; simp only [Lib.cond_bind, Lib.some_bind, Lib.none_bind, l2_bind]
def vo (a0 : Row) (k1 : Int) : Option (Int × Row) := b Lib.big (fun r0 r1 => some (r0, r1)) a0 k1
def c (a0 : Row) (k1 : Int) : Bool := Option.isSome (vo a0 k1)
def v (a0 : Row) (k1 : Int) : Int × Row := Option.getD (vo a0 k1) (0, [])
theorem out (a0 : Row) (k1 : Int) {x : Int × Row} (h : vo a0 k1 = some x) : c a0 k1 = true ∧ v a0 k1 = x := by
  unfold c v; rw [h]; exact ⟨rfl, rfl⟩
theorem b_eq {R : Type} (kr : Int → Row → Option R) (a0 : Row) (k1 : Int) (hc : c a0 k1 = true) : ∃ N, b N kr a0 k1 = kr ((v a0 k1).1) ((v a0 k1).2) := by
  refine ⟨Lib.big, ?_⟩
  rw [b_bind]
  have e : vo a0 k1 = some (v a0 k1) := by
    unfold c at hc; unfold v
    cases h : vo a0 k1 with
    | none => rw [h] at hc; cases hc
    | some x => rfl
  unfold vo at e
  rw [e]; rfl
end Go.FG.Pu.laws_markIntSS

namespace Go.FG.Pu.laws_markSketch
def b {R : Type} (kr : Int → Row → Option R) (a0_0 : Row) (a0_1 : Int) (k1 : Int) : Option R := bif (Pu.laws_markIntSS.c a0_0 k1) then (kr ((Pu.laws_markIntSS.v a0_0 k1).1) ((Pu.laws_markIntSS.v a0_0 k1).2)) else (none)
theorem b_bind {R : Type} (kr : Int → Row → Option R) (a0_0 : Row) (a0_1 : Int) (k1 : Int) : b kr a0_0 a0_1 k1 = Option.bind (b (fun r0 r1 => some (r0, r1)) a0_0 a0_1 k1) (fun p => kr p.1 p.2) := by
  unfold b; simp only [Lib.cond_bind, Lib.some_bind, Lib.none_bind]
def vo (a0_0 : Row) (a0_1 : Int) (k1 : Int) : Option (Int × Row) := b (fun r0 r1 => some (r0, r1)) a0_0 a0_1 k1
def c (a0_0 : Row) (a0_1 : Int) (k1 : Int) : Bool := Option.isSome (vo a0_0 a0_1 k1)
def v (a0_0 : Row) (a0_1 : Int) (k1 : Int) : Int × Row := Option.getD (vo a0_0 a0_1 k1) (0, [])
theorem out (a0_0 : Row) (a0_1 : Int) (k1 : Int) {x : Int × Row} (h : vo a0_0 a0_1 k1 = some x) : c a0_0 a0_1 k1 = true ∧ v a0_0 a0_1 k1 = x := by
  unfold c v; rw [h]; exact ⟨rfl, rfl⟩
theorem b_eq {R : Type} (kr : Int → Row → Option R) (a0_0 : Row) (a0_1 : Int) (k1 : Int) (hc : c a0_0 a0_1 k1 = true) : b kr a0_0 a0_1 k1 = kr ((v a0_0 a0_1 k1).1) ((v a0_0 a0_1 k1).2) := by
  rw [b_bind]
  have e : vo a0_0 a0_1 k1 = some (v a0_0 a0_1 k1) := by
    unfold c at hc; unfold v
    cases h : vo a0_0 a0_1 k1 with
    | none => rw [h] at hc; cases hc
    | some x => rfl
  unfold vo at e
  rw [e]; rfl
end Go.FG.Pu.laws_markSketch

namespace Go.FG.Pu.laws_markPolicy
def b {R : Type} (kr : Int → Row → Row → Row → Option R) (a0_0 : Row) (a0_1 : Row) (a0_2 : Row) (a0_3 : Int) (k1 : Int) : Option R := bif (Pu.laws_markStringS.c a0_0 k1) then (bif (Pu.laws_markStringS.c a0_1 (Pu.laws_markStringS.v a0_0 k1).1) then (bif (Pu.laws_markSketch.c a0_2 a0_3 (Pu.laws_markStringS.v a0_1 (Pu.laws_markStringS.v a0_0 k1).1).1) then (kr ((Pu.laws_markSketch.v a0_2 a0_3 (Pu.laws_markStringS.v a0_1 (Pu.laws_markStringS.v a0_0 k1).1).1).1) ((Pu.laws_markStringS.v a0_0 k1).2) ((Pu.laws_markStringS.v a0_1 (Pu.laws_markStringS.v a0_0 k1).1).2) ((Pu.laws_markSketch.v a0_2 a0_3 (Pu.laws_markStringS.v a0_1 (Pu.laws_markStringS.v a0_0 k1).1).1).2)) else (none)) else (none)) else (none)
theorem b_bind {R : Type} (kr : Int → Row → Row → Row → Option R) (a0_0 : Row) (a0_1 : Row) (a0_2 : Row) (a0_3 : Int) (k1 : Int) : b kr a0_0 a0_1 a0_2 a0_3 k1 = Option.bind (b (fun r0 r1 r2 r3 => some (r0, r1, r2, r3)) a0_0 a0_1 a0_2 a0_3 k1) (fun p => kr p.1 p.2.1 p.2.2.1 p.2.2.2) := by
  unfold b; simp only [Lib.cond_bind, Lib.some_bind, Lib.none_bind]
def vo (a0_0 : Row) (a0_1 : Row) (a0_2 : Row) (a0_3 : Int) (k1 : Int) : Option (Int × Row × Row × Row) := b (fun r0 r1 r2 r3 => some (r0, r1, r2, r3)) a0_0 a0_1 a0_2 a0_3 k1
def c (a0_0 : Row) (a0_1 : Row) (a0_2 : Row) (a0_3 : Int) (k1 : Int) : Bool := Option.isSome (vo a0_0 a0_1 a0_2 a0_3 k1)
def v (a0_0 : Row) (a0_1 : Row) (a0_2 : Row) (a0_3 : Int) (k1 : Int) : Int × Row × Row × Row := Option.getD (vo a0_0 a0_1 a0_2 a0_3 k1) (0, [], [], [])
theorem out (a0_0 : Row) (a0_1 : Row) (a0_2 : Row) (a0_3 : Int) (k1 : Int) {x : Int × Row × Row × Row} (h : vo a0_0 a0_1 a0_2 a0_3 k1 = some x) : c a0_0 a0_1 a0_2 a0_3 k1 = true ∧ v a0_0 a0_1 a0_2 a0_3 k1 = x := by
  unfold c v; rw [h]; exact ⟨rfl, rfl⟩
theorem b_eq {R : Type} (kr : Int → Row → Row → Row → Option R) (a0_0 : Row) (a0_1 : Row) (a0_2 : Row) (a0_3 : Int) (k1 : Int) (hc : c a0_0 a0_1 a0_2 a0_3 k1 = true) : b kr a0_0 a0_1 a0_2 a0_3 k1 = kr ((v a0_0 a0_1 a0_2 a0_3 k1).1) ((v a0_0 a0_1 a0_2 a0_3 k1).2.1) ((v a0_0 a0_1 a0_2 a0_3 k1).2.2.1) ((v a0_0 a0_1 a0_2 a0_3 k1).2.2.2) := by
  rw [b_bind]
  have e : vo a0_0 a0_1 a0_2 a0_3 k1 = some (v a0_0 a0_1 a0_2 a0_3 k1) := by
    unfold c at hc; unfold v
    cases h : vo a0_0 a0_1 a0_2 a0_3 k1 with
    | none => rw [h] at hc; cases hc
    | some x => rfl
  unfold vo at e
  rw [e]; rfl
end Go.FG.Pu.laws_markPolicy

namespace Go.FG.Pu.laws_heldStringS
def r2 {R : Type} (N : Nat) (g : Row → Int → Int → Int → Option R) (k0 : Row → Int → Int → Int → Option R) (k1 : Row → Int → Int → Int → Option R) (x0 : Row) (x1 : Int) (x2 : Int) (x3 : Int) : Option R := bif (decide (x3 < (↑(List.length x0) : Int))) then (bif (decide (0 ≤ x3) && decide (x3 < (↑(List.length x0) : Int))) then (bif (Pu.laws_markText.c x1) then (bif (!List.beq (ByteArray.toList (cvS (cellAt x0 (Int.toNat x3) 0))) (ByteArray.toList (Pu.laws_markText.v x1))) then (k0 x0 x1 (-1) x3) else (g x0 (w64 (x1 + 1)) x2 (w64 (x3 + 1)))) else (none)) else (none)) else (k1 x0 x1 x2 x3)
def l2 {R : Type} (N : Nat) (k0 : Row → Int → Int → Int → Option R) (k1 : Row → Int → Int → Int → Option R) : Nat → Row → Int → Int → Int → Option R
  | 0 => (fun _ _ _ _ => none)
  | n + 1 => (fun x0 x1 x2 x3 => r2 N (l2 N k0 k1 n) k0 k1 x0 x1 x2 x3)
def b {R : Type} (N : Nat) (kr : Int → Option R) (a0 : Row) (k1 : Int) : Option R := l2 N (fun y4 y5 y6 y7 => kr y6) (fun y8 y9 y10 y11 => kr y9) N a0 k1 0 0
theorem q2_bind {R S : Type} (f : R → Option S) (N : Nat) (k0 : Row → Int → Int → Int → Option R) (k1 : Row → Int → Int → Int → Option R) : ∀ n : Nat, (∀ (x0 : Row) (x1 : Int) (x2 : Int) (x3 : Int), Option.bind (l2 N k0 k1 n x0 x1 x2 x3) f = l2 N (fun y0 y1 y2 y3 => (Option.bind (k0 y0 y1 y2 y3) f)) (fun y0 y1 y2 y3 => (Option.bind (k1 y0 y1 y2 y3) f)) n x0 x1 x2 x3) := by
  intro n
  induction n with
  | zero => exact (fun _ _ _ _ => rfl)
  | succ n ih =>
    intro x0 x1 x2 x3
    simp only [l2, r2, Lib.cond_bind, Lib.some_bind, Lib.none_bind, ih]
theorem l2_bind {R S : Type} (f : R → Option S) (N : Nat) (k0 : Row → Int → Int → Int → Option R) (k1 : Row → Int → Int → Int → Option R) (n : Nat) (x0 : Row) (x1 : Int) (x2 : Int) (x3 : Int) : Option.bind (l2 N k0 k1 n x0 x1 x2 x3) f = l2 N (fun y0 y1 y2 y3 => (Option.bind (k0 y0 y1 y2 y3) f)) (fun y0 y1 y2 y3 => (Option.bind (k1 y0 y1 y2 y3) f)) n x0 x1 x2 x3 := (q2_bind f N k0 k1 n) x0 x1 x2 x3
theorem b_bind {R : Type} (N : Nat) (kr : Int → Option R) (a0 : Row) (k1 : Int) : b N kr a0 k1 = Option.bind (b N (fun r0 => some (r0)) a0 k1) (fun p => kr p) := by
  unfold b; simp only [Lib.cond_bind, Lib.some_bind, Lib.none_bind, l2_bind]
def vo (a0 : Row) (k1 : Int) : Option (Int) := b Lib.big (fun r0 => some (r0)) a0 k1
def c (a0 : Row) (k1 : Int) : Bool := Option.isSome (vo a0 k1)
def v (a0 : Row) (k1 : Int) : Int := Option.getD (vo a0 k1) (0)
theorem out (a0 : Row) (k1 : Int) {x : Int} (h : vo a0 k1 = some x) : c a0 k1 = true ∧ v a0 k1 = x := by
  unfold c v; rw [h]; exact ⟨rfl, rfl⟩
theorem b_eq {R : Type} (kr : Int → Option R) (a0 : Row) (k1 : Int) (hc : c a0 k1 = true) : ∃ N, b N kr a0 k1 = kr (v a0 k1) := by
  refine ⟨Lib.big, ?_⟩
  rw [b_bind]
  have e : vo a0 k1 = some (v a0 k1) := by
    unfold c at hc; unfold v
    cases h : vo a0 k1 with
    | none => rw [h] at hc; cases hc
    | some x => rfl
  unfold vo at e
  rw [e]; rfl
end Go.FG.Pu.laws_heldStringS

namespace Go.FG.Pu.laws_heldIntS
def r2 {R : Type} (N : Nat) (g : Row → Int → Int → Int → Option R) (k0 : Row → Int → Int → Int → Option R) (k1 : Row → Int → Int → Int → Option R) (x0 : Row) (x1 : Int) (x2 : Int) (x3 : Int) : Option R := bif (decide (x3 < (↑(List.length x0) : Int))) then (bif (decide (0 ≤ x3) && decide (x3 < (↑(List.length x0) : Int))) then (bif (cvI (cellAt x0 (Int.toNat x3) 0) != x1) then (k0 x0 x1 (-1) x3) else (g x0 (w64 (x1 + 1)) x2 (w64 (x3 + 1)))) else (none)) else (k1 x0 x1 x2 x3)
def l2 {R : Type} (N : Nat) (k0 : Row → Int → Int → Int → Option R) (k1 : Row → Int → Int → Int → Option R) : Nat → Row → Int → Int → Int → Option R
  | 0 => (fun _ _ _ _ => none)
  | n + 1 => (fun x0 x1 x2 x3 => r2 N (l2 N k0 k1 n) k0 k1 x0 x1 x2 x3)
def b {R : Type} (N : Nat) (kr : Int → Option R) (a0 : Row) (k1 : Int) : Option R := l2 N (fun y4 y5 y6 y7 => kr y6) (fun y8 y9 y10 y11 => kr y9) N a0 k1 0 0
theorem q2_bind {R S : Type} (f : R → Option S) (N : Nat) (k0 : Row → Int → Int → Int → Option R) (k1 : Row → Int → Int → Int → Option R) : ∀ n : Nat, (∀ (x0 : Row) (x1 : Int) (x2 : Int) (x3 : Int), Option.bind (l2 N k0 k1 n x0 x1 x2 x3) f = l2 N (fun y0 y1 y2 y3 => (Option.bind (k0 y0 y1 y2 y3) f)) (fun y0 y1 y2 y3 => (Option.bind (k1 y0 y1 y2 y3) f)) n x0 x1 x2 x3) := by
  intro n
  induction n with
  | zero => exact (fun _ _ _ _ => rfl)
  | succ n ih =>
    intro x0 x1 x2 x3
    simp only [l2, r2, Lib.cond_bind, Lib.some_bind, Lib.none_bind, ih]
theorem l2_bind {R S : Type} (f : R → Option S) (N : Nat) (k0 : Row → Int → Int → Int → Option R) (k1 : Row → Int → Int → Int → Option R) (n : Nat) (x0 : Row) (x1 : Int) (x2 : Int) (x3 : Int) : Option.bind (l2 N k0 k1 n x0 x1 x2 x3) f = l2 N (fun y0 y1 y2 y3 => (Option.bind (k0 y0 y1 y2 y3) f)) (fun y0 y1 y2 y3 => (Option.bind (k1 y0 y1 y2 y3) f)) n x0 x1 x2 x3 := (q2_bind f N k0 k1 n) x0 x1 x2 x3
theorem b_bind {R : Type} (N : Nat) (kr : Int → Option R) (a0 : Row) (k1 : Int) : b N kr a0 k1 = Option.bind (b N (fun r0 => some (r0)) a0 k1) (fun p => kr p) := by
  unfold b; simp only [Lib.cond_bind, Lib.some_bind, Lib.none_bind, l2_bind]
def vo (a0 : Row) (k1 : Int) : Option (Int) := b Lib.big (fun r0 => some (r0)) a0 k1
def c (a0 : Row) (k1 : Int) : Bool := Option.isSome (vo a0 k1)
def v (a0 : Row) (k1 : Int) : Int := Option.getD (vo a0 k1) (0)
theorem out (a0 : Row) (k1 : Int) {x : Int} (h : vo a0 k1 = some x) : c a0 k1 = true ∧ v a0 k1 = x := by
  unfold c v; rw [h]; exact ⟨rfl, rfl⟩
theorem b_eq {R : Type} (kr : Int → Option R) (a0 : Row) (k1 : Int) (hc : c a0 k1 = true) : ∃ N, b N kr a0 k1 = kr (v a0 k1) := by
  refine ⟨Lib.big, ?_⟩
  rw [b_bind]
  have e : vo a0 k1 = some (v a0 k1) := by
    unfold c at hc; unfold v
    cases h : vo a0 k1 with
    | none => rw [h] at hc; cases hc
    | some x => rfl
  unfold vo at e
  rw [e]; rfl
end Go.FG.Pu.laws_heldIntS

namespace Go.FG.Pu.laws_heldIntSS
def r2 {R : Type} (N : Nat) (g : Row → Int → Int → Int → Option R) (k0 : Row → Int → Int → Int → Option R) (k1 : Row → Int → Int → Int → Option R) (x0 : Row) (x1 : Int) (x2 : Int) (x3 : Int) : Option R := bif (decide (x3 < (↑(List.length x0) : Int))) then (bif (decide (0 ≤ x3) && decide (x3 < (↑(List.length x0) : Int))) then (bif (Pu.laws_heldIntS.c (cvL (cellAt x0 (Int.toNat x3) 0)) x1) then (bif (decide (Pu.laws_heldIntS.v (cvL (cellAt x0 (Int.toNat x3) 0)) x1 < 0)) then (k0 x0 (Pu.laws_heldIntS.v (cvL (cellAt x0 (Int.toNat x3) 0)) x1) (-1) x3) else (g x0 (Pu.laws_heldIntS.v (cvL (cellAt x0 (Int.toNat x3) 0)) x1) x2 (w64 (x3 + 1)))) else (none)) else (none)) else (k1 x0 x1 x2 x3)
def l2 {R : Type} (N : Nat) (k0 : Row → Int → Int → Int → Option R) (k1 : Row → Int → Int → Int → Option R) : Nat → Row → Int → Int → Int → Option R
  | 0 => (fun _ _ _ _ => none)
  | n + 1 => (fun x0 x1 x2 x3 => r2 N (l2 N k0 k1 n) k0 k1 x0 x1 x2 x3)
def b {R : Type} (N : Nat) (kr : Int → Option R) (a0 : Row) (k1 : Int) : Option R := l2 N (fun y4 y5 y6 y7 => kr y6) (fun y8 y9 y10 y11 => kr y9) N a0 k1 0 0
theorem q2_bind {R S : Type} (f : R → Option S) (N : Nat) (k0 : Row → Int → Int → Int → Option R) (k1 : Row → Int → Int → Int → Option R) : ∀ n : Nat, (∀ (x0 : Row) (x1 : Int) (x2 : Int) (x3 : Int), Option.bind (l2 N k0 k1 n x0 x1 x2 x3) f = l2 N (fun y0 y1 y2 y3 => (Option.bind (k0 y0 y1 y2 y3) f)) (fun y0 y1 y2 y3 => (Option.bind (k1 y0 y1 y2 y3) f)) n x0 x1 x2 x3) := by
  intro n
  induction n with
  | zero => exact (fun _ _ _ _ => rfl)
  | succ n ih =>
    intro x0 x1 x2 x3
    simp only [l2, r2, Lib.cond_bind, Lib.some_bind, Lib.none_bind, ih]
theorem l2_bind {R S : Type} (f : R → Option S) (N : Nat) (k0 : Row → Int → Int → Int → Option R) (k1 : Row → Int → Int → Int → Option R) (n : Nat) (x0 : Row) (x1 : Int) (x2 : Int) (x3 : Int) : Option.bind (l2 N k0 k1 n x0 x1 x2 x3) f = l2 N (fun y0 y1 y2 y3 => (Option.bind (k0 y0 y1 y2 y3) f)) (fun y0 y1 y2 y3 => (Option.bind (k1 y0 y1 y2 y3) f)) n x0 x1 x2 x3 := (q2_bind f N k0 k1 n) x0 x1 x2 x3
theorem b_bind {R : Type} (N : Nat) (kr : Int → Option R) (a0 : Row) (k1 : Int) : b N kr a0 k1 = Option.bind (b N (fun r0 => some (r0)) a0 k1) (fun p => kr p) := by
  unfold b; simp only [Lib.cond_bind, Lib.some_bind, Lib.none_bind, l2_bind]
def vo (a0 : Row) (k1 : Int) : Option (Int) := b Lib.big (fun r0 => some (r0)) a0 k1
def c (a0 : Row) (k1 : Int) : Bool := Option.isSome (vo a0 k1)
def v (a0 : Row) (k1 : Int) : Int := Option.getD (vo a0 k1) (0)
theorem out (a0 : Row) (k1 : Int) {x : Int} (h : vo a0 k1 = some x) : c a0 k1 = true ∧ v a0 k1 = x := by
  unfold c v; rw [h]; exact ⟨rfl, rfl⟩
theorem b_eq {R : Type} (kr : Int → Option R) (a0 : Row) (k1 : Int) (hc : c a0 k1 = true) : ∃ N, b N kr a0 k1 = kr (v a0 k1) := by
  refine ⟨Lib.big, ?_⟩
  rw [b_bind]
  have e : vo a0 k1 = some (v a0 k1) := by
    unfold c at hc; unfold v
    cases h : vo a0 k1 with
    | none => rw [h] at hc; cases hc
    | some x => rfl
  unfold vo at e
  rw [e]; rfl
end Go.FG.Pu.laws_heldIntSS

namespace Go.FG.Pu.laws_heldSketch
def b {R : Type} (kr : Int → Option R) (a0_0 : Row) (a0_1 : Int) (k1 : Int) : Option R := bif (Pu.laws_heldIntSS.c a0_0 k1) then (bif (decide (Pu.laws_heldIntSS.v a0_0 k1 < 0)) then (kr (-1)) else (kr (Pu.laws_heldIntSS.v a0_0 k1))) else (none)
theorem b_bind {R : Type} (kr : Int → Option R) (a0_0 : Row) (a0_1 : Int) (k1 : Int) : b kr a0_0 a0_1 k1 = Option.bind (b (fun r0 => some (r0)) a0_0 a0_1 k1) (fun p => kr p) := by
  unfold b; simp only [Lib.cond_bind, Lib.some_bind, Lib.none_bind]
def vo (a0_0 : Row) (a0_1 : Int) (k1 : Int) : Option (Int) := b (fun r0 => some (r0)) a0_0 a0_1 k1
def c (a0_0 : Row) (a0_1 : Int) (k1 : Int) : Bool := Option.isSome (vo a0_0 a0_1 k1)
def v (a0_0 : Row) (a0_1 : Int) (k1 : Int) : Int := Option.getD (vo a0_0 a0_1 k1) (0)
theorem out (a0_0 : Row) (a0_1 : Int) (k1 : Int) {x : Int} (h : vo a0_0 a0_1 k1 = some x) : c a0_0 a0_1 k1 = true ∧ v a0_0 a0_1 k1 = x := by
  unfold c v; rw [h]; exact ⟨rfl, rfl⟩
theorem b_eq {R : Type} (kr : Int → Option R) (a0_0 : Row) (a0_1 : Int) (k1 : Int) (hc : c a0_0 a0_1 k1 = true) : b kr a0_0 a0_1 k1 = kr (v a0_0 a0_1 k1) := by
  rw [b_bind]
  have e : vo a0_0 a0_1 k1 = some (v a0_0 a0_1 k1) := by
    unfold c at hc; unfold v
    cases h : vo a0_0 a0_1 k1 with
    | none => rw [h] at hc; cases hc
    | some x => rfl
  unfold vo at e
  rw [e]; rfl
end Go.FG.Pu.laws_heldSketch

namespace Go.FG.Pu.laws_heldPolicy
def b {R : Type} (kr : Int → Option R) (a0_0 : Row) (a0_1 : Row) (a0_2 : Row) (a0_3 : Int) (k1 : Int) : Option R := bif (Pu.laws_heldStringS.c a0_0 k1) then (bif (decide (Pu.laws_heldStringS.v a0_0 k1 < 0)) then (kr (-1)) else (bif (Pu.laws_heldStringS.c a0_1 (Pu.laws_heldStringS.v a0_0 k1)) then (bif (decide (Pu.laws_heldStringS.v a0_1 (Pu.laws_heldStringS.v a0_0 k1) < 0)) then (kr (-1)) else (bif (Pu.laws_heldSketch.c a0_2 a0_3 (Pu.laws_heldStringS.v a0_1 (Pu.laws_heldStringS.v a0_0 k1))) then (bif (decide (Pu.laws_heldSketch.v a0_2 a0_3 (Pu.laws_heldStringS.v a0_1 (Pu.laws_heldStringS.v a0_0 k1)) < 0)) then (kr (-1)) else (kr (Pu.laws_heldSketch.v a0_2 a0_3 (Pu.laws_heldStringS.v a0_1 (Pu.laws_heldStringS.v a0_0 k1))))) else (none))) else (none))) else (none)
theorem b_bind {R : Type} (kr : Int → Option R) (a0_0 : Row) (a0_1 : Row) (a0_2 : Row) (a0_3 : Int) (k1 : Int) : b kr a0_0 a0_1 a0_2 a0_3 k1 = Option.bind (b (fun r0 => some (r0)) a0_0 a0_1 a0_2 a0_3 k1) (fun p => kr p) := by
  unfold b; simp only [Lib.cond_bind, Lib.some_bind, Lib.none_bind]
def vo (a0_0 : Row) (a0_1 : Row) (a0_2 : Row) (a0_3 : Int) (k1 : Int) : Option (Int) := b (fun r0 => some (r0)) a0_0 a0_1 a0_2 a0_3 k1
def c (a0_0 : Row) (a0_1 : Row) (a0_2 : Row) (a0_3 : Int) (k1 : Int) : Bool := Option.isSome (vo a0_0 a0_1 a0_2 a0_3 k1)
def v (a0_0 : Row) (a0_1 : Row) (a0_2 : Row) (a0_3 : Int) (k1 : Int) : Int := Option.getD (vo a0_0 a0_1 a0_2 a0_3 k1) (0)
theorem out (a0_0 : Row) (a0_1 : Row) (a0_2 : Row) (a0_3 : Int) (k1 : Int) {x : Int} (h : vo a0_0 a0_1 a0_2 a0_3 k1 = some x) : c a0_0 a0_1 a0_2 a0_3 k1 = true ∧ v a0_0 a0_1 a0_2 a0_3 k1 = x := by
  unfold c v; rw [h]; exact ⟨rfl, rfl⟩
theorem b_eq {R : Type} (kr : Int → Option R) (a0_0 : Row) (a0_1 : Row) (a0_2 : Row) (a0_3 : Int) (k1 : Int) (hc : c a0_0 a0_1 a0_2 a0_3 k1 = true) : b kr a0_0 a0_1 a0_2 a0_3 k1 = kr (v a0_0 a0_1 a0_2 a0_3 k1) := by
  rw [b_bind]
  have e : vo a0_0 a0_1 a0_2 a0_3 k1 = some (v a0_0 a0_1 a0_2 a0_3 k1) := by
    unfold c at hc; unfold v
    cases h : vo a0_0 a0_1 a0_2 a0_3 k1 with
    | none => rw [h] at hc; cases hc
    | some x => rfl
  unfold vo at e
  rw [e]; rfl
end Go.FG.Pu.laws_heldPolicy

namespace Go.FG.Pu.laws_FnExactPolicyTouch
def b {R : Type} (kr : Bool → Option R) (aP0_0 : Row) (aP0_1 : Row) (aP0_2 : Row) (aP0_3 : Int) (aKey1 : ByteArray) : Option R := bif (decide ((↑(ByteArray.size aKey1) : Int) > 1048576)) then (kr true) else (bif (Pu.laws_szPolicy.c aP0_0 aP0_1 aP0_2 aP0_3 1048576) then (bif (decide (Pu.laws_szPolicy.v aP0_0 aP0_1 aP0_2 aP0_3 1048576 < 0)) then (kr true) else (bif (Pu.laws_toPolicy.c aP0_0 aP0_1 aP0_2 aP0_3) then (Lib.lt (Pu.laws_toPolicy.v aP0_0 aP0_1 aP0_2 aP0_3) (fun t0 => bif (Pu.spec_PolicyTouch.c t0.1 t0.2.1 t0.2.2.1 t0.2.2.2 aKey1) then (Lib.lt (Pu.spec_PolicyTouch.v t0.1 t0.2.1 t0.2.2.1 t0.2.2.2 aKey1) (fun t1 => bif (Pu.laws_toPolicy.c aP0_0 aP0_1 aP0_2 aP0_3) then (bif (Pu.impl_PolicyTouch.c t0.1 t0.2.1 t0.2.2.1 t0.2.2.2 aKey1) then (Lib.lt (Pu.impl_PolicyTouch.v t0.1 t0.2.1 t0.2.2.1 t0.2.2.2 aKey1) (fun t2 => bif (Pu.laws_eqPolicy.c t2.1 t2.2.1 t2.2.2.1 t2.2.2.2.1 t1.1 t1.2.1 t1.2.2.1 t1.2.2.2.1) then (bif (!Pu.laws_eqPolicy.v t2.1 t2.2.1 t2.2.2.1 t2.2.2.2.1 t1.1 t1.2.1 t1.2.2.1 t1.2.2.2.1) then (kr false) else (bif (!List.beq (ByteArray.toList t2.2.2.2.2) (ByteArray.toList t1.2.2.2.2)) then (kr false) else (bif (Pu.laws_toPolicy.c aP0_0 aP0_1 aP0_2 aP0_3) then (bif (Pu.laws_eqPolicy.c t0.1 t0.2.1 t0.2.2.1 t0.2.2.2 t0.1 t0.2.1 t0.2.2.1 t0.2.2.2) then (bif (!Pu.laws_eqPolicy.v t0.1 t0.2.1 t0.2.2.1 t0.2.2.2 t0.1 t0.2.1 t0.2.2.1 t0.2.2.2) then (kr false) else (bif (Pu.laws_markPolicy.c t0.1 t0.2.1 t0.2.2.1 t0.2.2.2 1) then (bif (decide ((Pu.laws_markPolicy.v t0.1 t0.2.1 t0.2.2.1 t0.2.2.2 1).1 < 0)) then (kr false) else (bif (Pu.laws_eqPolicy.c t2.1 t2.2.1 t2.2.2.1 t2.2.2.2.1 t1.1 t1.2.1 t1.2.2.1 t1.2.2.2.1) then (bif (!Pu.laws_eqPolicy.v t2.1 t2.2.1 t2.2.2.1 t2.2.2.2.1 t1.1 t1.2.1 t1.2.2.1 t1.2.2.2.1) then (kr false) else (bif (!List.beq (ByteArray.toList t2.2.2.2.2) (ByteArray.toList t1.2.2.2.2)) then (kr false) else (bif (Pu.laws_markPolicy.c t2.1 t2.2.1 t2.2.2.1 t2.2.2.2.1 1) then (Lib.lt (Pu.laws_markPolicy.v t2.1 t2.2.1 t2.2.2.1 t2.2.2.2.1 1) (fun t3 => bif (Pu.laws_heldPolicy.c t3.2.1 t3.2.2.1 t3.2.2.2 t2.2.2.2.1 1) then (bif (decide (Pu.laws_heldPolicy.v t3.2.1 t3.2.2.1 t3.2.2.2 t2.2.2.2.1 1 < 0)) then (kr false) else (bif (Pu.laws_heldPolicy.v t3.2.1 t3.2.2.1 t3.2.2.2 t2.2.2.2.1 1 != t3.1) then (kr false) else (bif (Pu.laws_toPolicy.c aP0_0 aP0_1 aP0_2 aP0_3) then (bif (Pu.impl_PolicyTouch.c t0.1 t0.2.1 t0.2.2.1 t0.2.2.2 aKey1) then (bif (Pu.laws_eqPolicy.c t2.1 t2.2.1 t2.2.2.1 t2.2.2.2.1 t1.1 t1.2.1 t1.2.2.1 t1.2.2.2.1) then (bif (!Pu.laws_eqPolicy.v t2.1 t2.2.1 t2.2.2.1 t2.2.2.2.1 t1.1 t1.2.1 t1.2.2.1 t1.2.2.2.1) then (kr false) else (bif (!List.beq (ByteArray.toList t2.2.2.2.2) (ByteArray.toList t1.2.2.2.2)) then (kr false) else (bif (Pu.laws_heldPolicy.c t3.2.1 t3.2.2.1 t3.2.2.2 t2.2.2.2.1 1) then (bif (decide (Pu.laws_heldPolicy.v t3.2.1 t3.2.2.1 t3.2.2.2 t2.2.2.2.1 1 < 0)) then (kr false) else (bif (Pu.laws_heldPolicy.v t3.2.1 t3.2.2.1 t3.2.2.2 t2.2.2.2.1 1 != t3.1) then (kr false) else (kr true))) else (none)))) else (none)) else (none)) else (none)))) else (none))) else (none)))) else (none))) else (none))) else (none)) else (none)))) else (none))) else (none)) else (none))) else (none))) else (none))) else (none))
theorem b_bind {R : Type} (kr : Bool → Option R) (aP0_0 : Row) (aP0_1 : Row) (aP0_2 : Row) (aP0_3 : Int) (aKey1 : ByteArray) : b kr aP0_0 aP0_1 aP0_2 aP0_3 aKey1 = Option.bind (b (fun r0 => some (r0)) aP0_0 aP0_1 aP0_2 aP0_3 aKey1) (fun p => kr p) := by
  unfold b; simp only [Lib.lt_bind, Lib.cond_bind, Lib.some_bind, Lib.none_bind]
def vo (aP0_0 : Row) (aP0_1 : Row) (aP0_2 : Row) (aP0_3 : Int) (aKey1 : ByteArray) : Option (Bool) := b (fun r0 => some (r0)) aP0_0 aP0_1 aP0_2 aP0_3 aKey1
def c (aP0_0 : Row) (aP0_1 : Row) (aP0_2 : Row) (aP0_3 : Int) (aKey1 : ByteArray) : Bool := Option.isSome (vo aP0_0 aP0_1 aP0_2 aP0_3 aKey1)
def v (aP0_0 : Row) (aP0_1 : Row) (aP0_2 : Row) (aP0_3 : Int) (aKey1 : ByteArray) : Bool := Option.getD (vo aP0_0 aP0_1 aP0_2 aP0_3 aKey1) (false)
theorem out (aP0_0 : Row) (aP0_1 : Row) (aP0_2 : Row) (aP0_3 : Int) (aKey1 : ByteArray) {x : Bool} (h : vo aP0_0 aP0_1 aP0_2 aP0_3 aKey1 = some x) : c aP0_0 aP0_1 aP0_2 aP0_3 aKey1 = true ∧ v aP0_0 aP0_1 aP0_2 aP0_3 aKey1 = x := by
  unfold c v; rw [h]; exact ⟨rfl, rfl⟩
theorem b_eq {R : Type} (kr : Bool → Option R) (aP0_0 : Row) (aP0_1 : Row) (aP0_2 : Row) (aP0_3 : Int) (aKey1 : ByteArray) (hc : c aP0_0 aP0_1 aP0_2 aP0_3 aKey1 = true) : b kr aP0_0 aP0_1 aP0_2 aP0_3 aKey1 = kr (v aP0_0 aP0_1 aP0_2 aP0_3 aKey1) := by
  rw [b_bind]
  have e : vo aP0_0 aP0_1 aP0_2 aP0_3 aKey1 = some (v aP0_0 aP0_1 aP0_2 aP0_3 aKey1) := by
    unfold c at hc; unfold v
    cases h : vo aP0_0 aP0_1 aP0_2 aP0_3 aKey1 with
    | none => rw [h] at hc; cases hc
    | some x => rfl
  unfold vo at e
  rw [e]; rfl
end Go.FG.Pu.laws_FnExactPolicyTouch

