/- Functions of the program, told as functions of numbers, texts and lists, and what each comes to. No condition but those that each states. -/
import Derived.Test.YtijidheebmbkcaaLib
set_option linter.unusedVariables false
set_option linter.unusedSimpArgs false
set_option maxRecDepth 100000
namespace Go.FG.Pu.laws_szEntry
def b {R : Type} (kr : Int → Option R) (a0_0 : ByteArray) (a0_1 : Int) (a0_2 : Int) (a0_3 : ByteArray) (left1 : Int) : Option R := bif (decide (w64 (left1 - (↑(ByteArray.size a0_0) : Int)) < 0)) then (kr (-1)) else (bif (decide (w64 (w64 (left1 - (↑(ByteArray.size a0_0) : Int)) - (↑(ByteArray.size a0_3) : Int)) < 0)) then (kr (-1)) else (kr (w64 (w64 (left1 - (↑(ByteArray.size a0_0) : Int)) - (↑(ByteArray.size a0_3) : Int)))))
def v (a0_0 : ByteArray) (a0_1 : Int) (a0_2 : Int) (a0_3 : ByteArray) (left1 : Int) : Int := bif (decide (w64 (left1 - (↑(ByteArray.size a0_0) : Int)) < 0)) then (((-1))) else (bif (decide (w64 (w64 (left1 - (↑(ByteArray.size a0_0) : Int)) - (↑(ByteArray.size a0_3) : Int)) < 0)) then (((-1))) else (((w64 (w64 (left1 - (↑(ByteArray.size a0_0) : Int)) - (↑(ByteArray.size a0_3) : Int))))))
theorem b_eq {R : Type} (kr : Int → Option R) (a0_0 : ByteArray) (a0_1 : Int) (a0_2 : Int) (a0_3 : ByteArray) (left1 : Int) : b kr a0_0 a0_1 a0_2 a0_3 left1 = kr (v a0_0 a0_1 a0_2 a0_3 left1) := by
  first | rfl | (unfold b v; simp only [Bool.cond_eq_ite]; (repeat' split) <;> rfl)
end Go.FG.Pu.laws_szEntry

namespace Go.FG.Pu.laws_szEntryS
def r5 {R : Type} (N : Nat) (g : Row → Int → Int → Int → Option R) (k0 : Row → Int → Int → Int → Option R) (k1 : Row → Int → Int → Int → Option R) (x0 : Row) (x1 : Int) (x2 : Int) (x3 : Int) : Option R := bif (decide (x3 < (↑(List.length x0) : Int))) then (bif (decide (0 ≤ x3) && decide (x3 < (↑(List.length x0) : Int))) then (bif (decide (Pu.laws_szEntry.v (cvS (cellAt x0 (Int.toNat x3) 0)) (cvI (cellAt x0 (Int.toNat x3) 1)) (cvI (cellAt x0 (Int.toNat x3) (1 + 1))) (cvS (cellAt x0 (Int.toNat x3) (1 + 1 + 1))) x1 < 0)) then (k0 x0 (Pu.laws_szEntry.v (cvS (cellAt x0 (Int.toNat x3) 0)) (cvI (cellAt x0 (Int.toNat x3) 1)) (cvI (cellAt x0 (Int.toNat x3) (1 + 1))) (cvS (cellAt x0 (Int.toNat x3) (1 + 1 + 1))) x1) (-1) x3) else (g x0 (Pu.laws_szEntry.v (cvS (cellAt x0 (Int.toNat x3) 0)) (cvI (cellAt x0 (Int.toNat x3) 1)) (cvI (cellAt x0 (Int.toNat x3) (1 + 1))) (cvS (cellAt x0 (Int.toNat x3) (1 + 1 + 1))) x1) x2 (w64 (x3 + 1)))) else (none)) else (k1 x0 x1 x2 x3)
def l5 {R : Type} (N : Nat) (k0 : Row → Int → Int → Int → Option R) (k1 : Row → Int → Int → Int → Option R) : Nat → Row → Int → Int → Int → Option R
  | 0 => (fun _ _ _ _ => none)
  | n + 1 => (fun x0 x1 x2 x3 => r5 N (l5 N k0 k1 n) k0 k1 x0 x1 x2 x3)
def b {R : Type} (N : Nat) (kr : Int → Option R) (a0 : Row) (left1 : Int) : Option R := bif (decide (w64 (left1 - (↑(List.length a0) : Int)) < 0)) then (kr (-1)) else (l5 N (fun y4 y5 y6 y7 => kr y6) (fun y8 y9 y10 y11 => kr y9) N a0 (w64 (left1 - (↑(List.length a0) : Int))) 0 0)
theorem q5_bind {R S : Type} (f : R → Option S) (N : Nat) (k0 : Row → Int → Int → Int → Option R) (k1 : Row → Int → Int → Int → Option R) : ∀ n : Nat, (∀ (x0 : Row) (x1 : Int) (x2 : Int) (x3 : Int), Option.bind (l5 N k0 k1 n x0 x1 x2 x3) f = l5 N (fun y0 y1 y2 y3 => (Option.bind (k0 y0 y1 y2 y3) f)) (fun y0 y1 y2 y3 => (Option.bind (k1 y0 y1 y2 y3) f)) n x0 x1 x2 x3) := by
  intro n
  induction n with
  | zero => exact (fun _ _ _ _ => rfl)
  | succ n ih =>
    intro x0 x1 x2 x3
    simp only [l5, r5, Lib.cond_bind, Lib.some_bind, Lib.none_bind, ih]
theorem l5_bind {R S : Type} (f : R → Option S) (N : Nat) (k0 : Row → Int → Int → Int → Option R) (k1 : Row → Int → Int → Int → Option R) (n : Nat) (x0 : Row) (x1 : Int) (x2 : Int) (x3 : Int) : Option.bind (l5 N k0 k1 n x0 x1 x2 x3) f = l5 N (fun y0 y1 y2 y3 => (Option.bind (k0 y0 y1 y2 y3) f)) (fun y0 y1 y2 y3 => (Option.bind (k1 y0 y1 y2 y3) f)) n x0 x1 x2 x3 := (q5_bind f N k0 k1 n) x0 x1 x2 x3
theorem b_bind {R : Type} (N : Nat) (kr : Int → Option R) (a0 : Row) (left1 : Int) : b N kr a0 left1 = Option.bind (b N (fun r0 => some (r0)) a0 left1) (fun p => kr p) := by
  unfold b; simp only [Lib.cond_bind, Lib.some_bind, Lib.none_bind, l5_bind]
def vo (a0 : Row) (left1 : Int) : Option (Int) := b Lib.big (fun r0 => some (r0)) a0 left1
def c (a0 : Row) (left1 : Int) : Bool := Option.isSome (vo a0 left1)
def v (a0 : Row) (left1 : Int) : Int := Option.getD (vo a0 left1) (0)
theorem out (a0 : Row) (left1 : Int) {x : Int} (h : vo a0 left1 = some x) : c a0 left1 = true ∧ v a0 left1 = x := by
  unfold c v; rw [h]; exact ⟨rfl, rfl⟩
theorem b_eq {R : Type} (kr : Int → Option R) (a0 : Row) (left1 : Int) (hc : c a0 left1 = true) : ∃ N, b N kr a0 left1 = kr (v a0 left1) := by
  refine ⟨Lib.big, ?_⟩
  rw [b_bind]
  have e : vo a0 left1 = some (v a0 left1) := by
    unfold c at hc; unfold v
    cases h : vo a0 left1 with
    | none => rw [h] at hc; cases hc
    | some x => rfl
  unfold vo at e
  rw [e]; rfl
end Go.FG.Pu.laws_szEntryS

namespace Go.FG.Pu.laws_szStringS
def r5 {R : Type} (N : Nat) (g : Row → Int → Int → Int → Option R) (k0 : Row → Int → Int → Int → Option R) (k1 : Row → Int → Int → Int → Option R) (x0 : Row) (x1 : Int) (x2 : Int) (x3 : Int) : Option R := bif (decide (x3 < (↑(List.length x0) : Int))) then (bif (decide (0 ≤ x3) && decide (x3 < (↑(List.length x0) : Int))) then (bif (decide (w64 (x1 - (↑(ByteArray.size (cvS (cellAt x0 (Int.toNat x3) 0))) : Int)) < 0)) then (k0 x0 (w64 (x1 - (↑(ByteArray.size (cvS (cellAt x0 (Int.toNat x3) 0))) : Int))) (-1) x3) else (g x0 (w64 (x1 - (↑(ByteArray.size (cvS (cellAt x0 (Int.toNat x3) 0))) : Int))) x2 (w64 (x3 + 1)))) else (none)) else (k1 x0 x1 x2 x3)
def l5 {R : Type} (N : Nat) (k0 : Row → Int → Int → Int → Option R) (k1 : Row → Int → Int → Int → Option R) : Nat → Row → Int → Int → Int → Option R
  | 0 => (fun _ _ _ _ => none)
  | n + 1 => (fun x0 x1 x2 x3 => r5 N (l5 N k0 k1 n) k0 k1 x0 x1 x2 x3)
def b {R : Type} (N : Nat) (kr : Int → Option R) (a0 : Row) (left1 : Int) : Option R := bif (decide (w64 (left1 - (↑(List.length a0) : Int)) < 0)) then (kr (-1)) else (l5 N (fun y4 y5 y6 y7 => kr y6) (fun y8 y9 y10 y11 => kr y9) N a0 (w64 (left1 - (↑(List.length a0) : Int))) 0 0)
theorem q5_bind {R S : Type} (f : R → Option S) (N : Nat) (k0 : Row → Int → Int → Int → Option R) (k1 : Row → Int → Int → Int → Option R) : ∀ n : Nat, (∀ (x0 : Row) (x1 : Int) (x2 : Int) (x3 : Int), Option.bind (l5 N k0 k1 n x0 x1 x2 x3) f = l5 N (fun y0 y1 y2 y3 => (Option.bind (k0 y0 y1 y2 y3) f)) (fun y0 y1 y2 y3 => (Option.bind (k1 y0 y1 y2 y3) f)) n x0 x1 x2 x3) := by
  intro n
  induction n with
  | zero => exact (fun _ _ _ _ => rfl)
  | succ n ih =>
    intro x0 x1 x2 x3
    simp only [l5, r5, Lib.cond_bind, Lib.some_bind, Lib.none_bind, ih]
theorem l5_bind {R S : Type} (f : R → Option S) (N : Nat) (k0 : Row → Int → Int → Int → Option R) (k1 : Row → Int → Int → Int → Option R) (n : Nat) (x0 : Row) (x1 : Int) (x2 : Int) (x3 : Int) : Option.bind (l5 N k0 k1 n x0 x1 x2 x3) f = l5 N (fun y0 y1 y2 y3 => (Option.bind (k0 y0 y1 y2 y3) f)) (fun y0 y1 y2 y3 => (Option.bind (k1 y0 y1 y2 y3) f)) n x0 x1 x2 x3 := (q5_bind f N k0 k1 n) x0 x1 x2 x3
theorem b_bind {R : Type} (N : Nat) (kr : Int → Option R) (a0 : Row) (left1 : Int) : b N kr a0 left1 = Option.bind (b N (fun r0 => some (r0)) a0 left1) (fun p => kr p) := by
  unfold b; simp only [Lib.cond_bind, Lib.some_bind, Lib.none_bind, l5_bind]
def vo (a0 : Row) (left1 : Int) : Option (Int) := b Lib.big (fun r0 => some (r0)) a0 left1
def c (a0 : Row) (left1 : Int) : Bool := Option.isSome (vo a0 left1)
def v (a0 : Row) (left1 : Int) : Int := Option.getD (vo a0 left1) (0)
theorem out (a0 : Row) (left1 : Int) {x : Int} (h : vo a0 left1 = some x) : c a0 left1 = true ∧ v a0 left1 = x := by
  unfold c v; rw [h]; exact ⟨rfl, rfl⟩
theorem b_eq {R : Type} (kr : Int → Option R) (a0 : Row) (left1 : Int) (hc : c a0 left1 = true) : ∃ N, b N kr a0 left1 = kr (v a0 left1) := by
  refine ⟨Lib.big, ?_⟩
  rw [b_bind]
  have e : vo a0 left1 = some (v a0 left1) := by
    unfold c at hc; unfold v
    cases h : vo a0 left1 with
    | none => rw [h] at hc; cases hc
    | some x => rfl
  unfold vo at e
  rw [e]; rfl
end Go.FG.Pu.laws_szStringS

namespace Go.FG.Pu.laws_szIntS
def b {R : Type} (kr : Int → Option R) (a0 : Row) (left1 : Int) : Option R := bif (decide (w64 (left1 - (↑(List.length a0) : Int)) < 0)) then (kr (-1)) else (kr (w64 (left1 - (↑(List.length a0) : Int))))
def v (a0 : Row) (left1 : Int) : Int := bif (decide (w64 (left1 - (↑(List.length a0) : Int)) < 0)) then (((-1))) else (((w64 (left1 - (↑(List.length a0) : Int)))))
theorem b_eq {R : Type} (kr : Int → Option R) (a0 : Row) (left1 : Int) : b kr a0 left1 = kr (v a0 left1) := by
  first | rfl | (unfold b v; simp only [Bool.cond_eq_ite]; (repeat' split) <;> rfl)
theorem fits {a : Row} {L : Int} (h0 : 0 ≤ L) (h1 : L ≤ 1048576) (ha : FitR a) (h : decide (v a L < 0) = false) : a.length ≤ 1048576 ∧ v a L = L - a.length := by
  have e := Lib.sub_len h0 h1 ha.1
  unfold v at h ⊢
  rw [e] at h ⊢
  by_cases hc : L - (a.length : Int) < 0
  · rw [decide_eq_true hc] at h; cases h
  · rw [decide_eq_false hc]; exact ⟨by omega, rfl⟩
end Go.FG.Pu.laws_szIntS

namespace Go.FG.Pu.laws_szIntSS
def r5 {R : Type} (N : Nat) (g : Row → Int → Int → Int → Option R) (k0 : Row → Int → Int → Int → Option R) (k1 : Row → Int → Int → Int → Option R) (x0 : Row) (x1 : Int) (x2 : Int) (x3 : Int) : Option R := bif (decide (x3 < (↑(List.length x0) : Int))) then (bif (decide (0 ≤ x3) && decide (x3 < (↑(List.length x0) : Int))) then (bif (decide (Pu.laws_szIntS.v (cvL (cellAt x0 (Int.toNat x3) 0)) x1 < 0)) then (k0 x0 (Pu.laws_szIntS.v (cvL (cellAt x0 (Int.toNat x3) 0)) x1) (-1) x3) else (g x0 (Pu.laws_szIntS.v (cvL (cellAt x0 (Int.toNat x3) 0)) x1) x2 (w64 (x3 + 1)))) else (none)) else (k1 x0 x1 x2 x3)
def l5 {R : Type} (N : Nat) (k0 : Row → Int → Int → Int → Option R) (k1 : Row → Int → Int → Int → Option R) : Nat → Row → Int → Int → Int → Option R
  | 0 => (fun _ _ _ _ => none)
  | n + 1 => (fun x0 x1 x2 x3 => r5 N (l5 N k0 k1 n) k0 k1 x0 x1 x2 x3)
def b {R : Type} (N : Nat) (kr : Int → Option R) (a0 : Row) (left1 : Int) : Option R := bif (decide (w64 (left1 - (↑(List.length a0) : Int)) < 0)) then (kr (-1)) else (l5 N (fun y4 y5 y6 y7 => kr y6) (fun y8 y9 y10 y11 => kr y9) N a0 (w64 (left1 - (↑(List.length a0) : Int))) 0 0)
theorem q5_bind {R S : Type} (f : R → Option S) (N : Nat) (k0 : Row → Int → Int → Int → Option R) (k1 : Row → Int → Int → Int → Option R) : ∀ n : Nat, (∀ (x0 : Row) (x1 : Int) (x2 : Int) (x3 : Int), Option.bind (l5 N k0 k1 n x0 x1 x2 x3) f = l5 N (fun y0 y1 y2 y3 => (Option.bind (k0 y0 y1 y2 y3) f)) (fun y0 y1 y2 y3 => (Option.bind (k1 y0 y1 y2 y3) f)) n x0 x1 x2 x3) := by
  intro n
  induction n with
  | zero => exact (fun _ _ _ _ => rfl)
  | succ n ih =>
    intro x0 x1 x2 x3
    simp only [l5, r5, Lib.cond_bind, Lib.some_bind, Lib.none_bind, ih]
theorem l5_bind {R S : Type} (f : R → Option S) (N : Nat) (k0 : Row → Int → Int → Int → Option R) (k1 : Row → Int → Int → Int → Option R) (n : Nat) (x0 : Row) (x1 : Int) (x2 : Int) (x3 : Int) : Option.bind (l5 N k0 k1 n x0 x1 x2 x3) f = l5 N (fun y0 y1 y2 y3 => (Option.bind (k0 y0 y1 y2 y3) f)) (fun y0 y1 y2 y3 => (Option.bind (k1 y0 y1 y2 y3) f)) n x0 x1 x2 x3 := (q5_bind f N k0 k1 n) x0 x1 x2 x3
theorem b_bind {R : Type} (N : Nat) (kr : Int → Option R) (a0 : Row) (left1 : Int) : b N kr a0 left1 = Option.bind (b N (fun r0 => some (r0)) a0 left1) (fun p => kr p) := by
  unfold b; simp only [Lib.cond_bind, Lib.some_bind, Lib.none_bind, l5_bind]
def vo (a0 : Row) (left1 : Int) : Option (Int) := b Lib.big (fun r0 => some (r0)) a0 left1
def c (a0 : Row) (left1 : Int) : Bool := Option.isSome (vo a0 left1)
def v (a0 : Row) (left1 : Int) : Int := Option.getD (vo a0 left1) (0)
theorem out (a0 : Row) (left1 : Int) {x : Int} (h : vo a0 left1 = some x) : c a0 left1 = true ∧ v a0 left1 = x := by
  unfold c v; rw [h]; exact ⟨rfl, rfl⟩
theorem b_eq {R : Type} (kr : Int → Option R) (a0 : Row) (left1 : Int) (hc : c a0 left1 = true) : ∃ N, b N kr a0 left1 = kr (v a0 left1) := by
  refine ⟨Lib.big, ?_⟩
  rw [b_bind]
  have e : vo a0 left1 = some (v a0 left1) := by
    unfold c at hc; unfold v
    cases h : vo a0 left1 with
    | none => rw [h] at hc; cases hc
    | some x => rfl
  unfold vo at e
  rw [e]; rfl
end Go.FG.Pu.laws_szIntSS

namespace Go.FG.Pu.laws_szSketch
def b {R : Type} (kr : Int → Option R) (a0_0 : Row) (a0_1 : Int) (left1 : Int) : Option R := bif (Pu.laws_szIntSS.c a0_0 left1) then (bif (decide (Pu.laws_szIntSS.v a0_0 left1 < 0)) then (kr (-1)) else (kr (Pu.laws_szIntSS.v a0_0 left1))) else (none)
theorem b_bind {R : Type} (kr : Int → Option R) (a0_0 : Row) (a0_1 : Int) (left1 : Int) : b kr a0_0 a0_1 left1 = Option.bind (b (fun r0 => some (r0)) a0_0 a0_1 left1) (fun p => kr p) := by
  unfold b; simp only [Lib.cond_bind, Lib.some_bind, Lib.none_bind]
def vo (a0_0 : Row) (a0_1 : Int) (left1 : Int) : Option (Int) := b (fun r0 => some (r0)) a0_0 a0_1 left1
def c (a0_0 : Row) (a0_1 : Int) (left1 : Int) : Bool := Option.isSome (vo a0_0 a0_1 left1)
def v (a0_0 : Row) (a0_1 : Int) (left1 : Int) : Int := Option.getD (vo a0_0 a0_1 left1) (0)
theorem out (a0_0 : Row) (a0_1 : Int) (left1 : Int) {x : Int} (h : vo a0_0 a0_1 left1 = some x) : c a0_0 a0_1 left1 = true ∧ v a0_0 a0_1 left1 = x := by
  unfold c v; rw [h]; exact ⟨rfl, rfl⟩
theorem b_eq {R : Type} (kr : Int → Option R) (a0_0 : Row) (a0_1 : Int) (left1 : Int) (hc : c a0_0 a0_1 left1 = true) : b kr a0_0 a0_1 left1 = kr (v a0_0 a0_1 left1) := by
  rw [b_bind]
  have e : vo a0_0 a0_1 left1 = some (v a0_0 a0_1 left1) := by
    unfold c at hc; unfold v
    cases h : vo a0_0 a0_1 left1 with
    | none => rw [h] at hc; cases hc
    | some x => rfl
  unfold vo at e
  rw [e]; rfl
end Go.FG.Pu.laws_szSketch

namespace Go.FG.Pu.laws_szPolicy
def b {R : Type} (kr : Int → Option R) (a0_0 : Row) (a0_1 : Row) (a0_2 : Row) (a0_3 : Int) (left1 : Int) : Option R := bif (Pu.laws_szStringS.c a0_0 left1) then (bif (decide (Pu.laws_szStringS.v a0_0 left1 < 0)) then (kr (-1)) else (bif (Pu.laws_szStringS.c a0_1 (Pu.laws_szStringS.v a0_0 left1)) then (bif (decide (Pu.laws_szStringS.v a0_1 (Pu.laws_szStringS.v a0_0 left1) < 0)) then (kr (-1)) else (bif (Pu.laws_szSketch.c a0_2 a0_3 (Pu.laws_szStringS.v a0_1 (Pu.laws_szStringS.v a0_0 left1))) then (bif (decide (Pu.laws_szSketch.v a0_2 a0_3 (Pu.laws_szStringS.v a0_1 (Pu.laws_szStringS.v a0_0 left1)) < 0)) then (kr (-1)) else (kr (Pu.laws_szSketch.v a0_2 a0_3 (Pu.laws_szStringS.v a0_1 (Pu.laws_szStringS.v a0_0 left1))))) else (none))) else (none))) else (none)
theorem b_bind {R : Type} (kr : Int → Option R) (a0_0 : Row) (a0_1 : Row) (a0_2 : Row) (a0_3 : Int) (left1 : Int) : b kr a0_0 a0_1 a0_2 a0_3 left1 = Option.bind (b (fun r0 => some (r0)) a0_0 a0_1 a0_2 a0_3 left1) (fun p => kr p) := by
  unfold b; simp only [Lib.cond_bind, Lib.some_bind, Lib.none_bind]
def vo (a0_0 : Row) (a0_1 : Row) (a0_2 : Row) (a0_3 : Int) (left1 : Int) : Option (Int) := b (fun r0 => some (r0)) a0_0 a0_1 a0_2 a0_3 left1
def c (a0_0 : Row) (a0_1 : Row) (a0_2 : Row) (a0_3 : Int) (left1 : Int) : Bool := Option.isSome (vo a0_0 a0_1 a0_2 a0_3 left1)
def v (a0_0 : Row) (a0_1 : Row) (a0_2 : Row) (a0_3 : Int) (left1 : Int) : Int := Option.getD (vo a0_0 a0_1 a0_2 a0_3 left1) (0)
theorem out (a0_0 : Row) (a0_1 : Row) (a0_2 : Row) (a0_3 : Int) (left1 : Int) {x : Int} (h : vo a0_0 a0_1 a0_2 a0_3 left1 = some x) : c a0_0 a0_1 a0_2 a0_3 left1 = true ∧ v a0_0 a0_1 a0_2 a0_3 left1 = x := by
  unfold c v; rw [h]; exact ⟨rfl, rfl⟩
theorem b_eq {R : Type} (kr : Int → Option R) (a0_0 : Row) (a0_1 : Row) (a0_2 : Row) (a0_3 : Int) (left1 : Int) (hc : c a0_0 a0_1 a0_2 a0_3 left1 = true) : b kr a0_0 a0_1 a0_2 a0_3 left1 = kr (v a0_0 a0_1 a0_2 a0_3 left1) := by
  rw [b_bind]
  have e : vo a0_0 a0_1 a0_2 a0_3 left1 = some (v a0_0 a0_1 a0_2 a0_3 left1) := by
    unfold c at hc; unfold v
    cases h : vo a0_0 a0_1 a0_2 a0_3 left1 with
    | none => rw [h] at hc; cases hc
    | some x => rfl
  unfold vo at e
  rw [e]; rfl
end Go.FG.Pu.laws_szPolicy

namespace Go.FG.Pu.laws_szFetch
def b {R : Type} (kr : Int → Option R) (a0_0 : ByteArray) (a0_1 : ByteArray) (a0_2 : Int) (a0_3 : Int) (a0_4 : Int) (left1 : Int) : Option R := bif (decide (w64 (left1 - (↑(ByteArray.size a0_0) : Int)) < 0)) then (kr (-1)) else (bif (decide (w64 (w64 (left1 - (↑(ByteArray.size a0_0) : Int)) - (↑(ByteArray.size a0_1) : Int)) < 0)) then (kr (-1)) else (kr (w64 (w64 (left1 - (↑(ByteArray.size a0_0) : Int)) - (↑(ByteArray.size a0_1) : Int)))))
def v (a0_0 : ByteArray) (a0_1 : ByteArray) (a0_2 : Int) (a0_3 : Int) (a0_4 : Int) (left1 : Int) : Int := bif (decide (w64 (left1 - (↑(ByteArray.size a0_0) : Int)) < 0)) then (((-1))) else (bif (decide (w64 (w64 (left1 - (↑(ByteArray.size a0_0) : Int)) - (↑(ByteArray.size a0_1) : Int)) < 0)) then (((-1))) else (((w64 (w64 (left1 - (↑(ByteArray.size a0_0) : Int)) - (↑(ByteArray.size a0_1) : Int))))))
theorem b_eq {R : Type} (kr : Int → Option R) (a0_0 : ByteArray) (a0_1 : ByteArray) (a0_2 : Int) (a0_3 : Int) (a0_4 : Int) (left1 : Int) : b kr a0_0 a0_1 a0_2 a0_3 a0_4 left1 = kr (v a0_0 a0_1 a0_2 a0_3 a0_4 left1) := by
  first | rfl | (unfold b v; simp only [Bool.cond_eq_ite]; (repeat' split) <;> rfl)
end Go.FG.Pu.laws_szFetch

namespace Go.FG.Pu.laws_szFetchS
def r5 {R : Type} (N : Nat) (g : Row → Int → Int → Int → Option R) (k0 : Row → Int → Int → Int → Option R) (k1 : Row → Int → Int → Int → Option R) (x0 : Row) (x1 : Int) (x2 : Int) (x3 : Int) : Option R := bif (decide (x3 < (↑(List.length x0) : Int))) then (bif (decide (0 ≤ x3) && decide (x3 < (↑(List.length x0) : Int))) then (bif (decide (Pu.laws_szFetch.v (cvS (cellAt x0 (Int.toNat x3) 0)) (cvS (cellAt x0 (Int.toNat x3) 1)) (cvI (cellAt x0 (Int.toNat x3) (1 + 1))) (cvI (cellAt x0 (Int.toNat x3) (1 + 1 + 1))) (cvI (cellAt x0 (Int.toNat x3) (1 + 1 + 1 + 1))) x1 < 0)) then (k0 x0 (Pu.laws_szFetch.v (cvS (cellAt x0 (Int.toNat x3) 0)) (cvS (cellAt x0 (Int.toNat x3) 1)) (cvI (cellAt x0 (Int.toNat x3) (1 + 1))) (cvI (cellAt x0 (Int.toNat x3) (1 + 1 + 1))) (cvI (cellAt x0 (Int.toNat x3) (1 + 1 + 1 + 1))) x1) (-1) x3) else (g x0 (Pu.laws_szFetch.v (cvS (cellAt x0 (Int.toNat x3) 0)) (cvS (cellAt x0 (Int.toNat x3) 1)) (cvI (cellAt x0 (Int.toNat x3) (1 + 1))) (cvI (cellAt x0 (Int.toNat x3) (1 + 1 + 1))) (cvI (cellAt x0 (Int.toNat x3) (1 + 1 + 1 + 1))) x1) x2 (w64 (x3 + 1)))) else (none)) else (k1 x0 x1 x2 x3)
def l5 {R : Type} (N : Nat) (k0 : Row → Int → Int → Int → Option R) (k1 : Row → Int → Int → Int → Option R) : Nat → Row → Int → Int → Int → Option R
  | 0 => (fun _ _ _ _ => none)
  | n + 1 => (fun x0 x1 x2 x3 => r5 N (l5 N k0 k1 n) k0 k1 x0 x1 x2 x3)
def b {R : Type} (N : Nat) (kr : Int → Option R) (a0 : Row) (left1 : Int) : Option R := bif (decide (w64 (left1 - (↑(List.length a0) : Int)) < 0)) then (kr (-1)) else (l5 N (fun y4 y5 y6 y7 => kr y6) (fun y8 y9 y10 y11 => kr y9) N a0 (w64 (left1 - (↑(List.length a0) : Int))) 0 0)
theorem q5_bind {R S : Type} (f : R → Option S) (N : Nat) (k0 : Row → Int → Int → Int → Option R) (k1 : Row → Int → Int → Int → Option R) : ∀ n : Nat, (∀ (x0 : Row) (x1 : Int) (x2 : Int) (x3 : Int), Option.bind (l5 N k0 k1 n x0 x1 x2 x3) f = l5 N (fun y0 y1 y2 y3 => (Option.bind (k0 y0 y1 y2 y3) f)) (fun y0 y1 y2 y3 => (Option.bind (k1 y0 y1 y2 y3) f)) n x0 x1 x2 x3) := by
  intro n
  induction n with
  | zero => exact (fun _ _ _ _ => rfl)
  | succ n ih =>
    intro x0 x1 x2 x3
    simp only [l5, r5, Lib.cond_bind, Lib.some_bind, Lib.none_bind, ih]
theorem l5_bind {R S : Type} (f : R → Option S) (N : Nat) (k0 : Row → Int → Int → Int → Option R) (k1 : Row → Int → Int → Int → Option R) (n : Nat) (x0 : Row) (x1 : Int) (x2 : Int) (x3 : Int) : Option.bind (l5 N k0 k1 n x0 x1 x2 x3) f = l5 N (fun y0 y1 y2 y3 => (Option.bind (k0 y0 y1 y2 y3) f)) (fun y0 y1 y2 y3 => (Option.bind (k1 y0 y1 y2 y3) f)) n x0 x1 x2 x3 := (q5_bind f N k0 k1 n) x0 x1 x2 x3
theorem b_bind {R : Type} (N : Nat) (kr : Int → Option R) (a0 : Row) (left1 : Int) : b N kr a0 left1 = Option.bind (b N (fun r0 => some (r0)) a0 left1) (fun p => kr p) := by
  unfold b; simp only [Lib.cond_bind, Lib.some_bind, Lib.none_bind, l5_bind]
def vo (a0 : Row) (left1 : Int) : Option (Int) := b Lib.big (fun r0 => some (r0)) a0 left1
def c (a0 : Row) (left1 : Int) : Bool := Option.isSome (vo a0 left1)
def v (a0 : Row) (left1 : Int) : Int := Option.getD (vo a0 left1) (0)
theorem out (a0 : Row) (left1 : Int) {x : Int} (h : vo a0 left1 = some x) : c a0 left1 = true ∧ v a0 left1 = x := by
  unfold c v; rw [h]; exact ⟨rfl, rfl⟩
theorem b_eq {R : Type} (kr : Int → Option R) (a0 : Row) (left1 : Int) (hc : c a0 left1 = true) : ∃ N, b N kr a0 left1 = kr (v a0 left1) := by
  refine ⟨Lib.big, ?_⟩
  rw [b_bind]
  have e : vo a0 left1 = some (v a0 left1) := by
    unfold c at hc; unfold v
    cases h : vo a0 left1 with
    | none => rw [h] at hc; cases hc
    | some x => rfl
  unfold vo at e
  rw [e]; rfl
end Go.FG.Pu.laws_szFetchS

namespace Go.FG.Pu.laws_szClient
def b {R : Type} (kr : Int → Option R) (a0_0 : Int) (a0_1 : ByteArray) (a0_2 : Int) (a0_3 : Int) (a0_4 : Int) (a0_5 : ByteArray) (a0_6 : Int) (left1 : Int) : Option R := bif (decide (w64 (left1 - (↑(ByteArray.size a0_1) : Int)) < 0)) then (kr (-1)) else (bif (decide (w64 (w64 (left1 - (↑(ByteArray.size a0_1) : Int)) - (↑(ByteArray.size a0_5) : Int)) < 0)) then (kr (-1)) else (kr (w64 (w64 (left1 - (↑(ByteArray.size a0_1) : Int)) - (↑(ByteArray.size a0_5) : Int)))))
def v (a0_0 : Int) (a0_1 : ByteArray) (a0_2 : Int) (a0_3 : Int) (a0_4 : Int) (a0_5 : ByteArray) (a0_6 : Int) (left1 : Int) : Int := bif (decide (w64 (left1 - (↑(ByteArray.size a0_1) : Int)) < 0)) then (((-1))) else (bif (decide (w64 (w64 (left1 - (↑(ByteArray.size a0_1) : Int)) - (↑(ByteArray.size a0_5) : Int)) < 0)) then (((-1))) else (((w64 (w64 (left1 - (↑(ByteArray.size a0_1) : Int)) - (↑(ByteArray.size a0_5) : Int))))))
theorem b_eq {R : Type} (kr : Int → Option R) (a0_0 : Int) (a0_1 : ByteArray) (a0_2 : Int) (a0_3 : Int) (a0_4 : Int) (a0_5 : ByteArray) (a0_6 : Int) (left1 : Int) : b kr a0_0 a0_1 a0_2 a0_3 a0_4 a0_5 a0_6 left1 = kr (v a0_0 a0_1 a0_2 a0_3 a0_4 a0_5 a0_6 left1) := by
  first | rfl | (unfold b v; simp only [Bool.cond_eq_ite]; (repeat' split) <;> rfl)
end Go.FG.Pu.laws_szClient

namespace Go.FG.Pu.laws_szClientS
def r5 {R : Type} (N : Nat) (g : Row → Int → Int → Int → Option R) (k0 : Row → Int → Int → Int → Option R) (k1 : Row → Int → Int → Int → Option R) (x0 : Row) (x1 : Int) (x2 : Int) (x3 : Int) : Option R := bif (decide (x3 < (↑(List.length x0) : Int))) then (bif (decide (0 ≤ x3) && decide (x3 < (↑(List.length x0) : Int))) then (bif (decide (Pu.laws_szClient.v (cvI (cellAt x0 (Int.toNat x3) 0)) (cvS (cellAt x0 (Int.toNat x3) 1)) (cvI (cellAt x0 (Int.toNat x3) (1 + 1))) (cvI (cellAt x0 (Int.toNat x3) (1 + 1 + 1))) (cvI (cellAt x0 (Int.toNat x3) (1 + 1 + 1 + 1))) (cvS (cellAt x0 (Int.toNat x3) (1 + 1 + 1 + 1 + 1))) (cvI (cellAt x0 (Int.toNat x3) (1 + 1 + 1 + 1 + 1 + 1))) x1 < 0)) then (k0 x0 (Pu.laws_szClient.v (cvI (cellAt x0 (Int.toNat x3) 0)) (cvS (cellAt x0 (Int.toNat x3) 1)) (cvI (cellAt x0 (Int.toNat x3) (1 + 1))) (cvI (cellAt x0 (Int.toNat x3) (1 + 1 + 1))) (cvI (cellAt x0 (Int.toNat x3) (1 + 1 + 1 + 1))) (cvS (cellAt x0 (Int.toNat x3) (1 + 1 + 1 + 1 + 1))) (cvI (cellAt x0 (Int.toNat x3) (1 + 1 + 1 + 1 + 1 + 1))) x1) (-1) x3) else (g x0 (Pu.laws_szClient.v (cvI (cellAt x0 (Int.toNat x3) 0)) (cvS (cellAt x0 (Int.toNat x3) 1)) (cvI (cellAt x0 (Int.toNat x3) (1 + 1))) (cvI (cellAt x0 (Int.toNat x3) (1 + 1 + 1))) (cvI (cellAt x0 (Int.toNat x3) (1 + 1 + 1 + 1))) (cvS (cellAt x0 (Int.toNat x3) (1 + 1 + 1 + 1 + 1))) (cvI (cellAt x0 (Int.toNat x3) (1 + 1 + 1 + 1 + 1 + 1))) x1) x2 (w64 (x3 + 1)))) else (none)) else (k1 x0 x1 x2 x3)
def l5 {R : Type} (N : Nat) (k0 : Row → Int → Int → Int → Option R) (k1 : Row → Int → Int → Int → Option R) : Nat → Row → Int → Int → Int → Option R
  | 0 => (fun _ _ _ _ => none)
  | n + 1 => (fun x0 x1 x2 x3 => r5 N (l5 N k0 k1 n) k0 k1 x0 x1 x2 x3)
def b {R : Type} (N : Nat) (kr : Int → Option R) (a0 : Row) (left1 : Int) : Option R := bif (decide (w64 (left1 - (↑(List.length a0) : Int)) < 0)) then (kr (-1)) else (l5 N (fun y4 y5 y6 y7 => kr y6) (fun y8 y9 y10 y11 => kr y9) N a0 (w64 (left1 - (↑(List.length a0) : Int))) 0 0)
theorem q5_bind {R S : Type} (f : R → Option S) (N : Nat) (k0 : Row → Int → Int → Int → Option R) (k1 : Row → Int → Int → Int → Option R) : ∀ n : Nat, (∀ (x0 : Row) (x1 : Int) (x2 : Int) (x3 : Int), Option.bind (l5 N k0 k1 n x0 x1 x2 x3) f = l5 N (fun y0 y1 y2 y3 => (Option.bind (k0 y0 y1 y2 y3) f)) (fun y0 y1 y2 y3 => (Option.bind (k1 y0 y1 y2 y3) f)) n x0 x1 x2 x3) := by
  intro n
  induction n with
  | zero => exact (fun _ _ _ _ => rfl)
  | succ n ih =>
    intro x0 x1 x2 x3
    simp only [l5, r5, Lib.cond_bind, Lib.some_bind, Lib.none_bind, ih]
theorem l5_bind {R S : Type} (f : R → Option S) (N : Nat) (k0 : Row → Int → Int → Int → Option R) (k1 : Row → Int → Int → Int → Option R) (n : Nat) (x0 : Row) (x1 : Int) (x2 : Int) (x3 : Int) : Option.bind (l5 N k0 k1 n x0 x1 x2 x3) f = l5 N (fun y0 y1 y2 y3 => (Option.bind (k0 y0 y1 y2 y3) f)) (fun y0 y1 y2 y3 => (Option.bind (k1 y0 y1 y2 y3) f)) n x0 x1 x2 x3 := (q5_bind f N k0 k1 n) x0 x1 x2 x3
theorem b_bind {R : Type} (N : Nat) (kr : Int → Option R) (a0 : Row) (left1 : Int) : b N kr a0 left1 = Option.bind (b N (fun r0 => some (r0)) a0 left1) (fun p => kr p) := by
  unfold b; simp only [Lib.cond_bind, Lib.some_bind, Lib.none_bind, l5_bind]
def vo (a0 : Row) (left1 : Int) : Option (Int) := b Lib.big (fun r0 => some (r0)) a0 left1
def c (a0 : Row) (left1 : Int) : Bool := Option.isSome (vo a0 left1)
def v (a0 : Row) (left1 : Int) : Int := Option.getD (vo a0 left1) (0)
theorem out (a0 : Row) (left1 : Int) {x : Int} (h : vo a0 left1 = some x) : c a0 left1 = true ∧ v a0 left1 = x := by
  unfold c v; rw [h]; exact ⟨rfl, rfl⟩
theorem b_eq {R : Type} (kr : Int → Option R) (a0 : Row) (left1 : Int) (hc : c a0 left1 = true) : ∃ N, b N kr a0 left1 = kr (v a0 left1) := by
  refine ⟨Lib.big, ?_⟩
  rw [b_bind]
  have e : vo a0 left1 = some (v a0 left1) := by
    unfold c at hc; unfold v
    cases h : vo a0 left1 with
    | none => rw [h] at hc; cases hc
    | some x => rfl
  unfold vo at e
  rw [e]; rfl
end Go.FG.Pu.laws_szClientS

namespace Go.FG.Pu.laws_szProxy
def b {R : Type} (kr : Int → Option R) (a0_0 : Int) (a0_1 : Row) (a0_2 : Row) (a0_3 : Row) (a0_4 : Row) (a0_5 : Int) (a0_6 : Row) (a0_7 : Row) (a0_8 : Int) (left1 : Int) : Option R := bif (Pu.laws_szEntryS.c a0_1 left1) then (bif (decide (Pu.laws_szEntryS.v a0_1 left1 < 0)) then (kr (-1)) else (bif (Pu.laws_szPolicy.c a0_2 a0_3 a0_4 a0_5 (Pu.laws_szEntryS.v a0_1 left1)) then (bif (decide (Pu.laws_szPolicy.v a0_2 a0_3 a0_4 a0_5 (Pu.laws_szEntryS.v a0_1 left1) < 0)) then (kr (-1)) else (bif (Pu.laws_szFetchS.c a0_6 (Pu.laws_szPolicy.v a0_2 a0_3 a0_4 a0_5 (Pu.laws_szEntryS.v a0_1 left1))) then (bif (decide (Pu.laws_szFetchS.v a0_6 (Pu.laws_szPolicy.v a0_2 a0_3 a0_4 a0_5 (Pu.laws_szEntryS.v a0_1 left1)) < 0)) then (kr (-1)) else (bif (Pu.laws_szClientS.c a0_7 (Pu.laws_szFetchS.v a0_6 (Pu.laws_szPolicy.v a0_2 a0_3 a0_4 a0_5 (Pu.laws_szEntryS.v a0_1 left1)))) then (bif (decide (Pu.laws_szClientS.v a0_7 (Pu.laws_szFetchS.v a0_6 (Pu.laws_szPolicy.v a0_2 a0_3 a0_4 a0_5 (Pu.laws_szEntryS.v a0_1 left1))) < 0)) then (kr (-1)) else (kr (Pu.laws_szClientS.v a0_7 (Pu.laws_szFetchS.v a0_6 (Pu.laws_szPolicy.v a0_2 a0_3 a0_4 a0_5 (Pu.laws_szEntryS.v a0_1 left1)))))) else (none))) else (none))) else (none))) else (none)
theorem b_bind {R : Type} (kr : Int → Option R) (a0_0 : Int) (a0_1 : Row) (a0_2 : Row) (a0_3 : Row) (a0_4 : Row) (a0_5 : Int) (a0_6 : Row) (a0_7 : Row) (a0_8 : Int) (left1 : Int) : b kr a0_0 a0_1 a0_2 a0_3 a0_4 a0_5 a0_6 a0_7 a0_8 left1 = Option.bind (b (fun r0 => some (r0)) a0_0 a0_1 a0_2 a0_3 a0_4 a0_5 a0_6 a0_7 a0_8 left1) (fun p => kr p) := by
  unfold b; simp only [Lib.cond_bind, Lib.some_bind, Lib.none_bind]
def vo (a0_0 : Int) (a0_1 : Row) (a0_2 : Row) (a0_3 : Row) (a0_4 : Row) (a0_5 : Int) (a0_6 : Row) (a0_7 : Row) (a0_8 : Int) (left1 : Int) : Option (Int) := b (fun r0 => some (r0)) a0_0 a0_1 a0_2 a0_3 a0_4 a0_5 a0_6 a0_7 a0_8 left1
def c (a0_0 : Int) (a0_1 : Row) (a0_2 : Row) (a0_3 : Row) (a0_4 : Row) (a0_5 : Int) (a0_6 : Row) (a0_7 : Row) (a0_8 : Int) (left1 : Int) : Bool := Option.isSome (vo a0_0 a0_1 a0_2 a0_3 a0_4 a0_5 a0_6 a0_7 a0_8 left1)
def v (a0_0 : Int) (a0_1 : Row) (a0_2 : Row) (a0_3 : Row) (a0_4 : Row) (a0_5 : Int) (a0_6 : Row) (a0_7 : Row) (a0_8 : Int) (left1 : Int) : Int := Option.getD (vo a0_0 a0_1 a0_2 a0_3 a0_4 a0_5 a0_6 a0_7 a0_8 left1) (0)
theorem out (a0_0 : Int) (a0_1 : Row) (a0_2 : Row) (a0_3 : Row) (a0_4 : Row) (a0_5 : Int) (a0_6 : Row) (a0_7 : Row) (a0_8 : Int) (left1 : Int) {x : Int} (h : vo a0_0 a0_1 a0_2 a0_3 a0_4 a0_5 a0_6 a0_7 a0_8 left1 = some x) : c a0_0 a0_1 a0_2 a0_3 a0_4 a0_5 a0_6 a0_7 a0_8 left1 = true ∧ v a0_0 a0_1 a0_2 a0_3 a0_4 a0_5 a0_6 a0_7 a0_8 left1 = x := by
  unfold c v; rw [h]; exact ⟨rfl, rfl⟩
theorem b_eq {R : Type} (kr : Int → Option R) (a0_0 : Int) (a0_1 : Row) (a0_2 : Row) (a0_3 : Row) (a0_4 : Row) (a0_5 : Int) (a0_6 : Row) (a0_7 : Row) (a0_8 : Int) (left1 : Int) (hc : c a0_0 a0_1 a0_2 a0_3 a0_4 a0_5 a0_6 a0_7 a0_8 left1 = true) : b kr a0_0 a0_1 a0_2 a0_3 a0_4 a0_5 a0_6 a0_7 a0_8 left1 = kr (v a0_0 a0_1 a0_2 a0_3 a0_4 a0_5 a0_6 a0_7 a0_8 left1) := by
  rw [b_bind]
  have e : vo a0_0 a0_1 a0_2 a0_3 a0_4 a0_5 a0_6 a0_7 a0_8 left1 = some (v a0_0 a0_1 a0_2 a0_3 a0_4 a0_5 a0_6 a0_7 a0_8 left1) := by
    unfold c at hc; unfold v
    cases h : vo a0_0 a0_1 a0_2 a0_3 a0_4 a0_5 a0_6 a0_7 a0_8 left1 with
    | none => rw [h] at hc; cases hc
    | some x => rfl
  unfold vo at e
  rw [e]; rfl
end Go.FG.Pu.laws_szProxy

namespace Go.FG.Pu.laws_toEntry
def b {R : Type} (kr : ByteArray → Int → Int → ByteArray → Option R) (a0_0 : ByteArray) (a0_1 : Int) (a0_2 : Int) (a0_3 : ByteArray) : Option R := kr a0_0 a0_1 a0_2 a0_3
def v (a0_0 : ByteArray) (a0_1 : Int) (a0_2 : Int) (a0_3 : ByteArray) : ByteArray × Int × Int × ByteArray := (a0_0, a0_1, a0_2, a0_3)
theorem b_eq {R : Type} (kr : ByteArray → Int → Int → ByteArray → Option R) (a0_0 : ByteArray) (a0_1 : Int) (a0_2 : Int) (a0_3 : ByteArray) : b kr a0_0 a0_1 a0_2 a0_3 = kr ((v a0_0 a0_1 a0_2 a0_3).1) ((v a0_0 a0_1 a0_2 a0_3).2.1) ((v a0_0 a0_1 a0_2 a0_3).2.2.1) ((v a0_0 a0_1 a0_2 a0_3).2.2.2) := by
  first | rfl | (unfold b v; simp only [Bool.cond_eq_ite]; (repeat' split) <;> rfl)
end Go.FG.Pu.laws_toEntry

namespace Go.FG.Pu.laws_toEntryS
def r3 {R : Type} (N : Nat) (g : Row → Int → Row → Option R) (k0 : Row → Int → Row → Option R) (x0 : Row) (x1 : Int) (x2 : Row) : Option R := bif (decide (x1 < (↑(List.length x0) : Int))) then (bif (decide (0 ≤ x1) && decide (x1 < (↑(List.length x0) : Int))) then (bif (decide (0 ≤ x1) && decide (x1 < (↑(List.length x2) : Int))) then (g x0 (w64 (x1 + 1)) (setC x2 (Int.toNat x1) 0 [CV.s (cvS (cellAt x0 (Int.toNat x1) 0)), CV.i IntKind.i64 (cvI (cellAt x0 (Int.toNat x1) 1)), CV.i IntKind.i64 (cvI (cellAt x0 (Int.toNat x1) (1 + 1))), CV.s (cvS (cellAt x0 (Int.toNat x1) (1 + 1 + 1)))])) else (none)) else (none)) else (k0 x0 x1 x2)
def l3 {R : Type} (N : Nat) (k0 : Row → Int → Row → Option R) : Nat → Row → Int → Row → Option R
  | 0 => (fun _ _ _ => none)
  | n + 1 => (fun x0 x1 x2 => r3 N (l3 N k0 n) k0 x0 x1 x2)
def b {R : Type} (N : Nat) (kr : Row → Option R) (a0 : Row) : Option R := bif (decide ((↑(List.length a0) : Int) = (↑(List.length a0) : Int)) && roomy (Int.toNat (↑(List.length a0) : Int)) 48) then (l3 N (fun y3 y4 y5 => kr y5) N a0 0 (zeros [Ck.s, Ck.i IntKind.i64, Ck.i IntKind.i64, Ck.s] (Int.toNat (↑(List.length a0) : Int)))) else (none)
theorem q3_bind {R S : Type} (f : R → Option S) (N : Nat) (k0 : Row → Int → Row → Option R) : ∀ n : Nat, (∀ (x0 : Row) (x1 : Int) (x2 : Row), Option.bind (l3 N k0 n x0 x1 x2) f = l3 N (fun y0 y1 y2 => (Option.bind (k0 y0 y1 y2) f)) n x0 x1 x2) := by
  intro n
  induction n with
  | zero => exact (fun _ _ _ => rfl)
  | succ n ih =>
    intro x0 x1 x2
    simp only [l3, r3, Lib.cond_bind, Lib.some_bind, Lib.none_bind, ih]
theorem l3_bind {R S : Type} (f : R → Option S) (N : Nat) (k0 : Row → Int → Row → Option R) (n : Nat) (x0 : Row) (x1 : Int) (x2 : Row) : Option.bind (l3 N k0 n x0 x1 x2) f = l3 N (fun y0 y1 y2 => (Option.bind (k0 y0 y1 y2) f)) n x0 x1 x2 := (q3_bind f N k0 n) x0 x1 x2
theorem b_bind {R : Type} (N : Nat) (kr : Row → Option R) (a0 : Row) : b N kr a0 = Option.bind (b N (fun r0 => some (r0)) a0) (fun p => kr p) := by
  unfold b; simp only [Lib.cond_bind, Lib.some_bind, Lib.none_bind, l3_bind]
def vo (a0 : Row) : Option (Row) := b Lib.big (fun r0 => some (r0)) a0
def c (a0 : Row) : Bool := Option.isSome (vo a0)
def v (a0 : Row) : Row := Option.getD (vo a0) ([])
theorem out (a0 : Row) {x : Row} (h : vo a0 = some x) : c a0 = true ∧ v a0 = x := by
  unfold c v; rw [h]; exact ⟨rfl, rfl⟩
theorem b_eq {R : Type} (kr : Row → Option R) (a0 : Row) (hc : c a0 = true) : ∃ N, b N kr a0 = kr (v a0) := by
  refine ⟨Lib.big, ?_⟩
  rw [b_bind]
  have e : vo a0 = some (v a0) := by
    unfold c at hc; unfold v
    cases h : vo a0 with
    | none => rw [h] at hc; cases hc
    | some x => rfl
  unfold vo at e
  rw [e]; rfl
end Go.FG.Pu.laws_toEntryS

namespace Go.FG.Pu.laws_toStringS
def r3 {R : Type} (N : Nat) (g : Row → Int → Row → Option R) (k0 : Row → Int → Row → Option R) (x0 : Row) (x1 : Int) (x2 : Row) : Option R := bif (decide (x1 < (↑(List.length x0) : Int))) then (bif (decide (0 ≤ x1) && decide (x1 < (↑(List.length x0) : Int))) then (bif (decide (0 ≤ x1) && decide (x1 < (↑(List.length x2) : Int))) then (g x0 (w64 (x1 + 1)) (setC x2 (Int.toNat x1) 0 [CV.s (cvS (cellAt x0 (Int.toNat x1) 0))])) else (none)) else (none)) else (k0 x0 x1 x2)
def l3 {R : Type} (N : Nat) (k0 : Row → Int → Row → Option R) : Nat → Row → Int → Row → Option R
  | 0 => (fun _ _ _ => none)
  | n + 1 => (fun x0 x1 x2 => r3 N (l3 N k0 n) k0 x0 x1 x2)
def b {R : Type} (N : Nat) (kr : Row → Option R) (a0 : Row) : Option R := bif (decide ((↑(List.length a0) : Int) = (↑(List.length a0) : Int)) && roomy (Int.toNat (↑(List.length a0) : Int)) 16) then (l3 N (fun y3 y4 y5 => kr y5) N a0 0 (zeros [Ck.s] (Int.toNat (↑(List.length a0) : Int)))) else (none)
theorem q3_bind {R S : Type} (f : R → Option S) (N : Nat) (k0 : Row → Int → Row → Option R) : ∀ n : Nat, (∀ (x0 : Row) (x1 : Int) (x2 : Row), Option.bind (l3 N k0 n x0 x1 x2) f = l3 N (fun y0 y1 y2 => (Option.bind (k0 y0 y1 y2) f)) n x0 x1 x2) := by
  intro n
  induction n with
  | zero => exact (fun _ _ _ => rfl)
  | succ n ih =>
    intro x0 x1 x2
    simp only [l3, r3, Lib.cond_bind, Lib.some_bind, Lib.none_bind, ih]
theorem l3_bind {R S : Type} (f : R → Option S) (N : Nat) (k0 : Row → Int → Row → Option R) (n : Nat) (x0 : Row) (x1 : Int) (x2 : Row) : Option.bind (l3 N k0 n x0 x1 x2) f = l3 N (fun y0 y1 y2 => (Option.bind (k0 y0 y1 y2) f)) n x0 x1 x2 := (q3_bind f N k0 n) x0 x1 x2
theorem b_bind {R : Type} (N : Nat) (kr : Row → Option R) (a0 : Row) : b N kr a0 = Option.bind (b N (fun r0 => some (r0)) a0) (fun p => kr p) := by
  unfold b; simp only [Lib.cond_bind, Lib.some_bind, Lib.none_bind, l3_bind]
def vo (a0 : Row) : Option (Row) := b Lib.big (fun r0 => some (r0)) a0
def c (a0 : Row) : Bool := Option.isSome (vo a0)
def v (a0 : Row) : Row := Option.getD (vo a0) ([])
theorem out (a0 : Row) {x : Row} (h : vo a0 = some x) : c a0 = true ∧ v a0 = x := by
  unfold c v; rw [h]; exact ⟨rfl, rfl⟩
theorem b_eq {R : Type} (kr : Row → Option R) (a0 : Row) (hc : c a0 = true) : ∃ N, b N kr a0 = kr (v a0) := by
  refine ⟨Lib.big, ?_⟩
  rw [b_bind]
  have e : vo a0 = some (v a0) := by
    unfold c at hc; unfold v
    cases h : vo a0 with
    | none => rw [h] at hc; cases hc
    | some x => rfl
  unfold vo at e
  rw [e]; rfl
end Go.FG.Pu.laws_toStringS

namespace Go.FG.Pu.laws_toIntS
def r3 {R : Type} (N : Nat) (g : Row → Int → Row → Option R) (k0 : Row → Int → Row → Option R) (x0 : Row) (x1 : Int) (x2 : Row) : Option R := bif (decide (x1 < (↑(List.length x0) : Int))) then (bif (decide (0 ≤ x1) && decide (x1 < (↑(List.length x0) : Int))) then (bif (decide (0 ≤ x1) && decide (x1 < (↑(List.length x2) : Int))) then (g x0 (w64 (x1 + 1)) (setC x2 (Int.toNat x1) 0 [CV.i IntKind.i64 (cvI (cellAt x0 (Int.toNat x1) 0))])) else (none)) else (none)) else (k0 x0 x1 x2)
def l3 {R : Type} (N : Nat) (k0 : Row → Int → Row → Option R) : Nat → Row → Int → Row → Option R
  | 0 => (fun _ _ _ => none)
  | n + 1 => (fun x0 x1 x2 => r3 N (l3 N k0 n) k0 x0 x1 x2)
def b {R : Type} (N : Nat) (kr : Row → Option R) (a0 : Row) : Option R := bif (decide ((↑(List.length a0) : Int) = (↑(List.length a0) : Int)) && roomy (Int.toNat (↑(List.length a0) : Int)) 8) then (l3 N (fun y3 y4 y5 => kr y5) N a0 0 (zeros [Ck.i IntKind.i64] (Int.toNat (↑(List.length a0) : Int)))) else (none)
/-- The rows' numbers, one for one. -/
def v (a0 : Row) : Row := a0.map fun y => [CV.i IntKind.i64 (cvI (y.getD 0 (.b false)))]
def c (a0 : Row) : Bool := decide (a0.length ≤ 1048576)
theorem b_eq {R : Type} (kr : Row → Option R) (a0 : Row) (hc : c a0 = true) : ∃ N, b N kr a0 = kr (v a0) := by
  have hl : a0.length ≤ 1048576 := of_decide_eq_true hc
  refine ⟨a0.length + 1, ?_⟩
  unfold b
  rw [show decide ((a0.length : Int) = (a0.length : Int)) = true by simp, Lib.toN, Lib.roomy_of (by omega) (by omega), Bool.and_self, cond_true]
  refine Lib.fill_run (ks := [Ck.i IntKind.i64]) (v a0) a0.length (by unfold v; simp) (fun y hy => ?_) (fun m (i : Nat) x => l3 (a0.length + 1) (fun _ _ y => kr y) m a0 i x) kr (fun m => ?_) (fun m i hi x hx => ?_)
  · unfold v at hy; obtain ⟨z, _, rfl⟩ := List.mem_map.1 hy; rfl
  · simp only [l3, r3, Lib.dlt, Nat.lt_irrefl, decide_false, cond_false]
  · have hi2 : i < x.length := by omega
    have e : (v a0).getD i [] = [CV.i IntKind.i64 (cvI (cellAt a0 i 0))] := by
      unfold v; simp [List.getD, hi, cellAt]
    simp only [l3, r3, Lib.dlt, Lib.dle0, Lib.toN, hi, hi2, decide_true, Bool.true_and, cond_true, Lib.w64_s hi (by omega), e]
end Go.FG.Pu.laws_toIntS

namespace Go.FG.Pu.laws_toIntSS
def r3 {R : Type} (N : Nat) (g : Row → Int → Row → Option R) (k0 : Row → Int → Row → Option R) (x0 : Row) (x1 : Int) (x2 : Row) : Option R := bif (decide (x1 < (↑(List.length x0) : Int))) then (bif (decide (0 ≤ x1) && decide (x1 < (↑(List.length x0) : Int))) then (bif (Pu.laws_toIntS.c (cvL (cellAt x0 (Int.toNat x1) 0))) then (bif (decide (0 ≤ x1) && decide (x1 < (↑(List.length x2) : Int))) then (g x0 (w64 (x1 + 1)) (setC x2 (Int.toNat x1) 0 [CV.l 3 (Pu.laws_toIntS.v (cvL (cellAt x0 (Int.toNat x1) 0)))])) else (none)) else (none)) else (none)) else (k0 x0 x1 x2)
def l3 {R : Type} (N : Nat) (k0 : Row → Int → Row → Option R) : Nat → Row → Int → Row → Option R
  | 0 => (fun _ _ _ => none)
  | n + 1 => (fun x0 x1 x2 => r3 N (l3 N k0 n) k0 x0 x1 x2)
def b {R : Type} (N : Nat) (kr : Row → Option R) (a0 : Row) : Option R := bif (decide ((↑(List.length a0) : Int) = (↑(List.length a0) : Int)) && roomy (Int.toNat (↑(List.length a0) : Int)) 24) then (l3 N (fun y3 y4 y5 => kr y5) N a0 0 (zeros [Ck.l 3] (Int.toNat (↑(List.length a0) : Int)))) else (none)
theorem q3_bind {R S : Type} (f : R → Option S) (N : Nat) (k0 : Row → Int → Row → Option R) : ∀ n : Nat, (∀ (x0 : Row) (x1 : Int) (x2 : Row), Option.bind (l3 N k0 n x0 x1 x2) f = l3 N (fun y0 y1 y2 => (Option.bind (k0 y0 y1 y2) f)) n x0 x1 x2) := by
  intro n
  induction n with
  | zero => exact (fun _ _ _ => rfl)
  | succ n ih =>
    intro x0 x1 x2
    simp only [l3, r3, Lib.cond_bind, Lib.some_bind, Lib.none_bind, ih]
theorem l3_bind {R S : Type} (f : R → Option S) (N : Nat) (k0 : Row → Int → Row → Option R) (n : Nat) (x0 : Row) (x1 : Int) (x2 : Row) : Option.bind (l3 N k0 n x0 x1 x2) f = l3 N (fun y0 y1 y2 => (Option.bind (k0 y0 y1 y2) f)) n x0 x1 x2 := (q3_bind f N k0 n) x0 x1 x2
theorem b_bind {R : Type} (N : Nat) (kr : Row → Option R) (a0 : Row) : b N kr a0 = Option.bind (b N (fun r0 => some (r0)) a0) (fun p => kr p) := by
  unfold b; simp only [Lib.cond_bind, Lib.some_bind, Lib.none_bind, l3_bind]
def vo (a0 : Row) : Option (Row) := b Lib.big (fun r0 => some (r0)) a0
def c (a0 : Row) : Bool := Option.isSome (vo a0)
def v (a0 : Row) : Row := Option.getD (vo a0) ([])
theorem out (a0 : Row) {x : Row} (h : vo a0 = some x) : c a0 = true ∧ v a0 = x := by
  unfold c v; rw [h]; exact ⟨rfl, rfl⟩
theorem b_eq {R : Type} (kr : Row → Option R) (a0 : Row) (hc : c a0 = true) : ∃ N, b N kr a0 = kr (v a0) := by
  refine ⟨Lib.big, ?_⟩
  rw [b_bind]
  have e : vo a0 = some (v a0) := by
    unfold c at hc; unfold v
    cases h : vo a0 with
    | none => rw [h] at hc; cases hc
    | some x => rfl
  unfold vo at e
  rw [e]; rfl
end Go.FG.Pu.laws_toIntSS

namespace Go.FG.Pu.laws_toSketch
def b {R : Type} (kr : Row → Int → Option R) (a0_0 : Row) (a0_1 : Int) : Option R := bif (Pu.laws_toIntSS.c a0_0) then (kr (Pu.laws_toIntSS.v a0_0) a0_1) else (none)
theorem b_bind {R : Type} (kr : Row → Int → Option R) (a0_0 : Row) (a0_1 : Int) : b kr a0_0 a0_1 = Option.bind (b (fun r0 r1 => some (r0, r1)) a0_0 a0_1) (fun p => kr p.1 p.2) := by
  unfold b; simp only [Lib.cond_bind, Lib.some_bind, Lib.none_bind]
def vo (a0_0 : Row) (a0_1 : Int) : Option (Row × Int) := b (fun r0 r1 => some (r0, r1)) a0_0 a0_1
def c (a0_0 : Row) (a0_1 : Int) : Bool := Option.isSome (vo a0_0 a0_1)
def v (a0_0 : Row) (a0_1 : Int) : Row × Int := Option.getD (vo a0_0 a0_1) ([], 0)
theorem out (a0_0 : Row) (a0_1 : Int) {x : Row × Int} (h : vo a0_0 a0_1 = some x) : c a0_0 a0_1 = true ∧ v a0_0 a0_1 = x := by
  unfold c v; rw [h]; exact ⟨rfl, rfl⟩
theorem b_eq {R : Type} (kr : Row → Int → Option R) (a0_0 : Row) (a0_1 : Int) (hc : c a0_0 a0_1 = true) : b kr a0_0 a0_1 = kr ((v a0_0 a0_1).1) ((v a0_0 a0_1).2) := by
  rw [b_bind]
  have e : vo a0_0 a0_1 = some (v a0_0 a0_1) := by
    unfold c at hc; unfold v
    cases h : vo a0_0 a0_1 with
    | none => rw [h] at hc; cases hc
    | some x => rfl
  unfold vo at e
  rw [e]; rfl
end Go.FG.Pu.laws_toSketch

namespace Go.FG.Pu.laws_toPolicy
def b {R : Type} (kr : Row → Row → Row → Int → Option R) (a0_0 : Row) (a0_1 : Row) (a0_2 : Row) (a0_3 : Int) : Option R := bif (Pu.laws_toStringS.c a0_0) then (bif (Pu.laws_toStringS.c a0_1) then (bif (Pu.laws_toSketch.c a0_2 a0_3) then (kr (Pu.laws_toStringS.v a0_0) (Pu.laws_toStringS.v a0_1) ((Pu.laws_toSketch.v a0_2 a0_3).1) ((Pu.laws_toSketch.v a0_2 a0_3).2)) else (none)) else (none)) else (none)
theorem b_bind {R : Type} (kr : Row → Row → Row → Int → Option R) (a0_0 : Row) (a0_1 : Row) (a0_2 : Row) (a0_3 : Int) : b kr a0_0 a0_1 a0_2 a0_3 = Option.bind (b (fun r0 r1 r2 r3 => some (r0, r1, r2, r3)) a0_0 a0_1 a0_2 a0_3) (fun p => kr p.1 p.2.1 p.2.2.1 p.2.2.2) := by
  unfold b; simp only [Lib.cond_bind, Lib.some_bind, Lib.none_bind]
def vo (a0_0 : Row) (a0_1 : Row) (a0_2 : Row) (a0_3 : Int) : Option (Row × Row × Row × Int) := b (fun r0 r1 r2 r3 => some (r0, r1, r2, r3)) a0_0 a0_1 a0_2 a0_3
def c (a0_0 : Row) (a0_1 : Row) (a0_2 : Row) (a0_3 : Int) : Bool := Option.isSome (vo a0_0 a0_1 a0_2 a0_3)
def v (a0_0 : Row) (a0_1 : Row) (a0_2 : Row) (a0_3 : Int) : Row × Row × Row × Int := Option.getD (vo a0_0 a0_1 a0_2 a0_3) ([], [], [], 0)
theorem out (a0_0 : Row) (a0_1 : Row) (a0_2 : Row) (a0_3 : Int) {x : Row × Row × Row × Int} (h : vo a0_0 a0_1 a0_2 a0_3 = some x) : c a0_0 a0_1 a0_2 a0_3 = true ∧ v a0_0 a0_1 a0_2 a0_3 = x := by
  unfold c v; rw [h]; exact ⟨rfl, rfl⟩
theorem b_eq {R : Type} (kr : Row → Row → Row → Int → Option R) (a0_0 : Row) (a0_1 : Row) (a0_2 : Row) (a0_3 : Int) (hc : c a0_0 a0_1 a0_2 a0_3 = true) : b kr a0_0 a0_1 a0_2 a0_3 = kr ((v a0_0 a0_1 a0_2 a0_3).1) ((v a0_0 a0_1 a0_2 a0_3).2.1) ((v a0_0 a0_1 a0_2 a0_3).2.2.1) ((v a0_0 a0_1 a0_2 a0_3).2.2.2) := by
  rw [b_bind]
  have e : vo a0_0 a0_1 a0_2 a0_3 = some (v a0_0 a0_1 a0_2 a0_3) := by
    unfold c at hc; unfold v
    cases h : vo a0_0 a0_1 a0_2 a0_3 with
    | none => rw [h] at hc; cases hc
    | some x => rfl
  unfold vo at e
  rw [e]; rfl
end Go.FG.Pu.laws_toPolicy

namespace Go.FG.Pu.laws_toFetch
def b {R : Type} (kr : ByteArray → ByteArray → Int → Int → Int → Option R) (a0_0 : ByteArray) (a0_1 : ByteArray) (a0_2 : Int) (a0_3 : Int) (a0_4 : Int) : Option R := kr a0_0 a0_1 a0_2 a0_3 a0_4
def v (a0_0 : ByteArray) (a0_1 : ByteArray) (a0_2 : Int) (a0_3 : Int) (a0_4 : Int) : ByteArray × ByteArray × Int × Int × Int := (a0_0, a0_1, a0_2, a0_3, a0_4)
theorem b_eq {R : Type} (kr : ByteArray → ByteArray → Int → Int → Int → Option R) (a0_0 : ByteArray) (a0_1 : ByteArray) (a0_2 : Int) (a0_3 : Int) (a0_4 : Int) : b kr a0_0 a0_1 a0_2 a0_3 a0_4 = kr ((v a0_0 a0_1 a0_2 a0_3 a0_4).1) ((v a0_0 a0_1 a0_2 a0_3 a0_4).2.1) ((v a0_0 a0_1 a0_2 a0_3 a0_4).2.2.1) ((v a0_0 a0_1 a0_2 a0_3 a0_4).2.2.2.1) ((v a0_0 a0_1 a0_2 a0_3 a0_4).2.2.2.2) := by
  first | rfl | (unfold b v; simp only [Bool.cond_eq_ite]; (repeat' split) <;> rfl)
end Go.FG.Pu.laws_toFetch

namespace Go.FG.Pu.laws_toFetchS
def r3 {R : Type} (N : Nat) (g : Row → Int → Row → Option R) (k0 : Row → Int → Row → Option R) (x0 : Row) (x1 : Int) (x2 : Row) : Option R := bif (decide (x1 < (↑(List.length x0) : Int))) then (bif (decide (0 ≤ x1) && decide (x1 < (↑(List.length x0) : Int))) then (bif (decide (0 ≤ x1) && decide (x1 < (↑(List.length x2) : Int))) then (g x0 (w64 (x1 + 1)) (setC x2 (Int.toNat x1) 0 [CV.s (cvS (cellAt x0 (Int.toNat x1) 0)), CV.s (cvS (cellAt x0 (Int.toNat x1) 1)), CV.i IntKind.i64 (cvI (cellAt x0 (Int.toNat x1) (1 + 1))), CV.i IntKind.i64 (cvI (cellAt x0 (Int.toNat x1) (1 + 1 + 1))), CV.i IntKind.i64 (cvI (cellAt x0 (Int.toNat x1) (1 + 1 + 1 + 1)))])) else (none)) else (none)) else (k0 x0 x1 x2)
def l3 {R : Type} (N : Nat) (k0 : Row → Int → Row → Option R) : Nat → Row → Int → Row → Option R
  | 0 => (fun _ _ _ => none)
  | n + 1 => (fun x0 x1 x2 => r3 N (l3 N k0 n) k0 x0 x1 x2)
def b {R : Type} (N : Nat) (kr : Row → Option R) (a0 : Row) : Option R := bif (decide ((↑(List.length a0) : Int) = (↑(List.length a0) : Int)) && roomy (Int.toNat (↑(List.length a0) : Int)) 56) then (l3 N (fun y3 y4 y5 => kr y5) N a0 0 (zeros [Ck.s, Ck.s, Ck.i IntKind.i64, Ck.i IntKind.i64, Ck.i IntKind.i64] (Int.toNat (↑(List.length a0) : Int)))) else (none)
theorem q3_bind {R S : Type} (f : R → Option S) (N : Nat) (k0 : Row → Int → Row → Option R) : ∀ n : Nat, (∀ (x0 : Row) (x1 : Int) (x2 : Row), Option.bind (l3 N k0 n x0 x1 x2) f = l3 N (fun y0 y1 y2 => (Option.bind (k0 y0 y1 y2) f)) n x0 x1 x2) := by
  intro n
  induction n with
  | zero => exact (fun _ _ _ => rfl)
  | succ n ih =>
    intro x0 x1 x2
    simp only [l3, r3, Lib.cond_bind, Lib.some_bind, Lib.none_bind, ih]
theorem l3_bind {R S : Type} (f : R → Option S) (N : Nat) (k0 : Row → Int → Row → Option R) (n : Nat) (x0 : Row) (x1 : Int) (x2 : Row) : Option.bind (l3 N k0 n x0 x1 x2) f = l3 N (fun y0 y1 y2 => (Option.bind (k0 y0 y1 y2) f)) n x0 x1 x2 := (q3_bind f N k0 n) x0 x1 x2
theorem b_bind {R : Type} (N : Nat) (kr : Row → Option R) (a0 : Row) : b N kr a0 = Option.bind (b N (fun r0 => some (r0)) a0) (fun p => kr p) := by
  unfold b; simp only [Lib.cond_bind, Lib.some_bind, Lib.none_bind, l3_bind]
def vo (a0 : Row) : Option (Row) := b Lib.big (fun r0 => some (r0)) a0
def c (a0 : Row) : Bool := Option.isSome (vo a0)
def v (a0 : Row) : Row := Option.getD (vo a0) ([])
theorem out (a0 : Row) {x : Row} (h : vo a0 = some x) : c a0 = true ∧ v a0 = x := by
  unfold c v; rw [h]; exact ⟨rfl, rfl⟩
theorem b_eq {R : Type} (kr : Row → Option R) (a0 : Row) (hc : c a0 = true) : ∃ N, b N kr a0 = kr (v a0) := by
  refine ⟨Lib.big, ?_⟩
  rw [b_bind]
  have e : vo a0 = some (v a0) := by
    unfold c at hc; unfold v
    cases h : vo a0 with
    | none => rw [h] at hc; cases hc
    | some x => rfl
  unfold vo at e
  rw [e]; rfl
end Go.FG.Pu.laws_toFetchS

namespace Go.FG.Pu.laws_toClient
def b {R : Type} (kr : Int → ByteArray → Int → Int → Int → ByteArray → Int → Option R) (a0_0 : Int) (a0_1 : ByteArray) (a0_2 : Int) (a0_3 : Int) (a0_4 : Int) (a0_5 : ByteArray) (a0_6 : Int) : Option R := kr a0_0 a0_1 a0_2 a0_3 a0_4 a0_5 a0_6
def v (a0_0 : Int) (a0_1 : ByteArray) (a0_2 : Int) (a0_3 : Int) (a0_4 : Int) (a0_5 : ByteArray) (a0_6 : Int) : Int × ByteArray × Int × Int × Int × ByteArray × Int := (a0_0, a0_1, a0_2, a0_3, a0_4, a0_5, a0_6)
theorem b_eq {R : Type} (kr : Int → ByteArray → Int → Int → Int → ByteArray → Int → Option R) (a0_0 : Int) (a0_1 : ByteArray) (a0_2 : Int) (a0_3 : Int) (a0_4 : Int) (a0_5 : ByteArray) (a0_6 : Int) : b kr a0_0 a0_1 a0_2 a0_3 a0_4 a0_5 a0_6 = kr ((v a0_0 a0_1 a0_2 a0_3 a0_4 a0_5 a0_6).1) ((v a0_0 a0_1 a0_2 a0_3 a0_4 a0_5 a0_6).2.1) ((v a0_0 a0_1 a0_2 a0_3 a0_4 a0_5 a0_6).2.2.1) ((v a0_0 a0_1 a0_2 a0_3 a0_4 a0_5 a0_6).2.2.2.1) ((v a0_0 a0_1 a0_2 a0_3 a0_4 a0_5 a0_6).2.2.2.2.1) ((v a0_0 a0_1 a0_2 a0_3 a0_4 a0_5 a0_6).2.2.2.2.2.1) ((v a0_0 a0_1 a0_2 a0_3 a0_4 a0_5 a0_6).2.2.2.2.2.2) := by
  first | rfl | (unfold b v; simp only [Bool.cond_eq_ite]; (repeat' split) <;> rfl)
end Go.FG.Pu.laws_toClient

namespace Go.FG.Pu.laws_toClientS
def r3 {R : Type} (N : Nat) (g : Row → Int → Row → Option R) (k0 : Row → Int → Row → Option R) (x0 : Row) (x1 : Int) (x2 : Row) : Option R := bif (decide (x1 < (↑(List.length x0) : Int))) then (bif (decide (0 ≤ x1) && decide (x1 < (↑(List.length x0) : Int))) then (bif (decide (0 ≤ x1) && decide (x1 < (↑(List.length x2) : Int))) then (g x0 (w64 (x1 + 1)) (setC x2 (Int.toNat x1) 0 [CV.i IntKind.i64 (cvI (cellAt x0 (Int.toNat x1) 0)), CV.s (cvS (cellAt x0 (Int.toNat x1) 1)), CV.i IntKind.i64 (cvI (cellAt x0 (Int.toNat x1) (1 + 1))), CV.i IntKind.i64 (cvI (cellAt x0 (Int.toNat x1) (1 + 1 + 1))), CV.i IntKind.i64 (cvI (cellAt x0 (Int.toNat x1) (1 + 1 + 1 + 1))), CV.s (cvS (cellAt x0 (Int.toNat x1) (1 + 1 + 1 + 1 + 1))), CV.i IntKind.i64 (cvI (cellAt x0 (Int.toNat x1) (1 + 1 + 1 + 1 + 1 + 1)))])) else (none)) else (none)) else (k0 x0 x1 x2)
def l3 {R : Type} (N : Nat) (k0 : Row → Int → Row → Option R) : Nat → Row → Int → Row → Option R
  | 0 => (fun _ _ _ => none)
  | n + 1 => (fun x0 x1 x2 => r3 N (l3 N k0 n) k0 x0 x1 x2)
def b {R : Type} (N : Nat) (kr : Row → Option R) (a0 : Row) : Option R := bif (decide ((↑(List.length a0) : Int) = (↑(List.length a0) : Int)) && roomy (Int.toNat (↑(List.length a0) : Int)) 72) then (l3 N (fun y3 y4 y5 => kr y5) N a0 0 (zeros [Ck.i IntKind.i64, Ck.s, Ck.i IntKind.i64, Ck.i IntKind.i64, Ck.i IntKind.i64, Ck.s, Ck.i IntKind.i64] (Int.toNat (↑(List.length a0) : Int)))) else (none)
theorem q3_bind {R S : Type} (f : R → Option S) (N : Nat) (k0 : Row → Int → Row → Option R) : ∀ n : Nat, (∀ (x0 : Row) (x1 : Int) (x2 : Row), Option.bind (l3 N k0 n x0 x1 x2) f = l3 N (fun y0 y1 y2 => (Option.bind (k0 y0 y1 y2) f)) n x0 x1 x2) := by
  intro n
  induction n with
  | zero => exact (fun _ _ _ => rfl)
  | succ n ih =>
    intro x0 x1 x2
    simp only [l3, r3, Lib.cond_bind, Lib.some_bind, Lib.none_bind, ih]
theorem l3_bind {R S : Type} (f : R → Option S) (N : Nat) (k0 : Row → Int → Row → Option R) (n : Nat) (x0 : Row) (x1 : Int) (x2 : Row) : Option.bind (l3 N k0 n x0 x1 x2) f = l3 N (fun y0 y1 y2 => (Option.bind (k0 y0 y1 y2) f)) n x0 x1 x2 := (q3_bind f N k0 n) x0 x1 x2
theorem b_bind {R : Type} (N : Nat) (kr : Row → Option R) (a0 : Row) : b N kr a0 = Option.bind (b N (fun r0 => some (r0)) a0) (fun p => kr p) := by
  unfold b; simp only [Lib.cond_bind, Lib.some_bind, Lib.none_bind, l3_bind]
def vo (a0 : Row) : Option (Row) := b Lib.big (fun r0 => some (r0)) a0
def c (a0 : Row) : Bool := Option.isSome (vo a0)
def v (a0 : Row) : Row := Option.getD (vo a0) ([])
theorem out (a0 : Row) {x : Row} (h : vo a0 = some x) : c a0 = true ∧ v a0 = x := by
  unfold c v; rw [h]; exact ⟨rfl, rfl⟩
theorem b_eq {R : Type} (kr : Row → Option R) (a0 : Row) (hc : c a0 = true) : ∃ N, b N kr a0 = kr (v a0) := by
  refine ⟨Lib.big, ?_⟩
  rw [b_bind]
  have e : vo a0 = some (v a0) := by
    unfold c at hc; unfold v
    cases h : vo a0 with
    | none => rw [h] at hc; cases hc
    | some x => rfl
  unfold vo at e
  rw [e]; rfl
end Go.FG.Pu.laws_toClientS

namespace Go.FG.Pu.laws_toProxy
def b {R : Type} (kr : Int → Row → Row → Row → Row → Int → Row → Row → Int → Option R) (a0_0 : Int) (a0_1 : Row) (a0_2 : Row) (a0_3 : Row) (a0_4 : Row) (a0_5 : Int) (a0_6 : Row) (a0_7 : Row) (a0_8 : Int) : Option R := bif (Pu.laws_toEntryS.c a0_1) then (bif (Pu.laws_toPolicy.c a0_2 a0_3 a0_4 a0_5) then (bif (Pu.laws_toFetchS.c a0_6) then (bif (Pu.laws_toClientS.c a0_7) then (kr a0_0 (Pu.laws_toEntryS.v a0_1) ((Pu.laws_toPolicy.v a0_2 a0_3 a0_4 a0_5).1) ((Pu.laws_toPolicy.v a0_2 a0_3 a0_4 a0_5).2.1) ((Pu.laws_toPolicy.v a0_2 a0_3 a0_4 a0_5).2.2.1) ((Pu.laws_toPolicy.v a0_2 a0_3 a0_4 a0_5).2.2.2) (Pu.laws_toFetchS.v a0_6) (Pu.laws_toClientS.v a0_7) a0_8) else (none)) else (none)) else (none)) else (none)
theorem b_bind {R : Type} (kr : Int → Row → Row → Row → Row → Int → Row → Row → Int → Option R) (a0_0 : Int) (a0_1 : Row) (a0_2 : Row) (a0_3 : Row) (a0_4 : Row) (a0_5 : Int) (a0_6 : Row) (a0_7 : Row) (a0_8 : Int) : b kr a0_0 a0_1 a0_2 a0_3 a0_4 a0_5 a0_6 a0_7 a0_8 = Option.bind (b (fun r0 r1 r2 r3 r4 r5 r6 r7 r8 => some (r0, r1, r2, r3, r4, r5, r6, r7, r8)) a0_0 a0_1 a0_2 a0_3 a0_4 a0_5 a0_6 a0_7 a0_8) (fun p => kr p.1 p.2.1 p.2.2.1 p.2.2.2.1 p.2.2.2.2.1 p.2.2.2.2.2.1 p.2.2.2.2.2.2.1 p.2.2.2.2.2.2.2.1 p.2.2.2.2.2.2.2.2) := by
  unfold b; simp only [Lib.cond_bind, Lib.some_bind, Lib.none_bind]
def vo (a0_0 : Int) (a0_1 : Row) (a0_2 : Row) (a0_3 : Row) (a0_4 : Row) (a0_5 : Int) (a0_6 : Row) (a0_7 : Row) (a0_8 : Int) : Option (Int × Row × Row × Row × Row × Int × Row × Row × Int) := b (fun r0 r1 r2 r3 r4 r5 r6 r7 r8 => some (r0, r1, r2, r3, r4, r5, r6, r7, r8)) a0_0 a0_1 a0_2 a0_3 a0_4 a0_5 a0_6 a0_7 a0_8
def c (a0_0 : Int) (a0_1 : Row) (a0_2 : Row) (a0_3 : Row) (a0_4 : Row) (a0_5 : Int) (a0_6 : Row) (a0_7 : Row) (a0_8 : Int) : Bool := Option.isSome (vo a0_0 a0_1 a0_2 a0_3 a0_4 a0_5 a0_6 a0_7 a0_8)
def v (a0_0 : Int) (a0_1 : Row) (a0_2 : Row) (a0_3 : Row) (a0_4 : Row) (a0_5 : Int) (a0_6 : Row) (a0_7 : Row) (a0_8 : Int) : Int × Row × Row × Row × Row × Int × Row × Row × Int := Option.getD (vo a0_0 a0_1 a0_2 a0_3 a0_4 a0_5 a0_6 a0_7 a0_8) (0, [], [], [], [], 0, [], [], 0)
theorem out (a0_0 : Int) (a0_1 : Row) (a0_2 : Row) (a0_3 : Row) (a0_4 : Row) (a0_5 : Int) (a0_6 : Row) (a0_7 : Row) (a0_8 : Int) {x : Int × Row × Row × Row × Row × Int × Row × Row × Int} (h : vo a0_0 a0_1 a0_2 a0_3 a0_4 a0_5 a0_6 a0_7 a0_8 = some x) : c a0_0 a0_1 a0_2 a0_3 a0_4 a0_5 a0_6 a0_7 a0_8 = true ∧ v a0_0 a0_1 a0_2 a0_3 a0_4 a0_5 a0_6 a0_7 a0_8 = x := by
  unfold c v; rw [h]; exact ⟨rfl, rfl⟩
theorem b_eq {R : Type} (kr : Int → Row → Row → Row → Row → Int → Row → Row → Int → Option R) (a0_0 : Int) (a0_1 : Row) (a0_2 : Row) (a0_3 : Row) (a0_4 : Row) (a0_5 : Int) (a0_6 : Row) (a0_7 : Row) (a0_8 : Int) (hc : c a0_0 a0_1 a0_2 a0_3 a0_4 a0_5 a0_6 a0_7 a0_8 = true) : b kr a0_0 a0_1 a0_2 a0_3 a0_4 a0_5 a0_6 a0_7 a0_8 = kr ((v a0_0 a0_1 a0_2 a0_3 a0_4 a0_5 a0_6 a0_7 a0_8).1) ((v a0_0 a0_1 a0_2 a0_3 a0_4 a0_5 a0_6 a0_7 a0_8).2.1) ((v a0_0 a0_1 a0_2 a0_3 a0_4 a0_5 a0_6 a0_7 a0_8).2.2.1) ((v a0_0 a0_1 a0_2 a0_3 a0_4 a0_5 a0_6 a0_7 a0_8).2.2.2.1) ((v a0_0 a0_1 a0_2 a0_3 a0_4 a0_5 a0_6 a0_7 a0_8).2.2.2.2.1) ((v a0_0 a0_1 a0_2 a0_3 a0_4 a0_5 a0_6 a0_7 a0_8).2.2.2.2.2.1) ((v a0_0 a0_1 a0_2 a0_3 a0_4 a0_5 a0_6 a0_7 a0_8).2.2.2.2.2.2.1) ((v a0_0 a0_1 a0_2 a0_3 a0_4 a0_5 a0_6 a0_7 a0_8).2.2.2.2.2.2.2.1) ((v a0_0 a0_1 a0_2 a0_3 a0_4 a0_5 a0_6 a0_7 a0_8).2.2.2.2.2.2.2.2) := by
  rw [b_bind]
  have e : vo a0_0 a0_1 a0_2 a0_3 a0_4 a0_5 a0_6 a0_7 a0_8 = some (v a0_0 a0_1 a0_2 a0_3 a0_4 a0_5 a0_6 a0_7 a0_8) := by
    unfold c at hc; unfold v
    cases h : vo a0_0 a0_1 a0_2 a0_3 a0_4 a0_5 a0_6 a0_7 a0_8 with
    | none => rw [h] at hc; cases hc
    | some x => rfl
  unfold vo at e
  rw [e]; rfl
end Go.FG.Pu.laws_toProxy

namespace Go.FG.Pu.spec_l12Copy
def r3 {R : Type} (N : Nat) (g : Int → Row → Int → Int → Int → Option R) (g1 : Int → Row → Int → Int → Int → Row → Option R) (k0 : Int → Row → Int → Int → Int → Option R) (k1 : Int → Row → Int → Int → Int → Row → Option R) (x0 : Int) (x1 : Row) (x2 : Int) (x3 : Int) (x4 : Int) : Option R := bif (decide (x0 < (↑(List.length x1) : Int))) then (bif (decide (0 ≤ x0) && decide (x0 < (↑(List.length x1) : Int))) then (bif (roomy (List.length (zeros [Ck.i IntKind.i64] 0) + List.length (cvL (cellAt x1 (Int.toNat x0) 0))) 8) then (g1 (w64 (x0 + 1)) x1 x2 x3 x4 ([] ++ List.set (zeros [Ck.l 3] 1) 0 [CV.l 3 (zeros [Ck.i IntKind.i64] 0 ++ cvL (cellAt x1 (Int.toNat x0) 0))])) else (none)) else (none)) else (k0 x0 x1 x2 x3 x4)
def r3a {R : Type} (N : Nat) (g : Int → Row → Int → Int → Int → Option R) (g1 : Int → Row → Int → Int → Int → Row → Option R) (k0 : Int → Row → Int → Int → Int → Option R) (k1 : Int → Row → Int → Int → Int → Row → Option R) (x5 : Int) (x6 : Row) (x7 : Int) (x8 : Int) (x9 : Int) (x10 : Row) : Option R := bif (decide (x5 < (↑(List.length x6) : Int))) then (bif (decide (0 ≤ x5) && decide (x5 < (↑(List.length x6) : Int))) then (bif (roomy (List.length (zeros [Ck.i IntKind.i64] 0) + List.length (cvL (cellAt x6 (Int.toNat x5) 0))) 8) then (bif (roomy (List.length x10 + List.length (List.set (zeros [Ck.l 3] 1) 0 [CV.l 3 (zeros [Ck.i IntKind.i64] 0 ++ cvL (cellAt x6 (Int.toNat x5) 0))])) 24) then (g1 (w64 (x5 + 1)) x6 x7 x8 x9 (x10 ++ List.set (zeros [Ck.l 3] 1) 0 [CV.l 3 (zeros [Ck.i IntKind.i64] 0 ++ cvL (cellAt x6 (Int.toNat x5) 0))])) else (none)) else (none)) else (none)) else (k1 x5 x6 x7 x8 x9 x10)
def l3a {R : Type} (N : Nat) (k0 : Int → Row → Int → Int → Int → Option R) (k1 : Int → Row → Int → Int → Int → Row → Option R) : Nat → Int → Row → Int → Int → Int → Row → Option R
  | 0 => (fun _ _ _ _ _ _ => none)
  | n + 1 => (fun x5 x6 x7 x8 x9 x10 => r3a N (fun x0 x1 x2 x3 x4 => none) (l3a N k0 k1 n) k0 k1 x5 x6 x7 x8 x9 x10)
def l3 {R : Type} (N : Nat) (k0 : Int → Row → Int → Int → Int → Option R) (k1 : Int → Row → Int → Int → Int → Row → Option R) : Nat → Int → Row → Int → Int → Int → Option R
  | 0 => (fun _ _ _ _ _ => none)
  | n + 1 => (fun x0 x1 x2 x3 x4 => r3 N (l3 N k0 k1 n) (l3a N k0 k1 n) k0 k1 x0 x1 x2 x3 x4)
def b {R : Type} (N : Nat) (kr : Row → Int → Option R) (s0_0 : Row) (s0_1 : Int) : Option R := l3 N (fun y11 y12 y13 y14 y15 => kr [] y15) (fun y16 y17 y18 y19 y20 y21 => kr y21 y20) N 0 s0_0 s0_1 0 s0_1
theorem q3_bind {R S : Type} (f : R → Option S) (N : Nat) (k0 : Int → Row → Int → Int → Int → Option R) (k1 : Int → Row → Int → Int → Int → Row → Option R) : ∀ n : Nat, (∀ (x0 : Int) (x1 : Row) (x2 : Int) (x3 : Int) (x4 : Int), Option.bind (l3 N k0 k1 n x0 x1 x2 x3 x4) f = l3 N (fun y0 y1 y2 y3 y4 => (Option.bind (k0 y0 y1 y2 y3 y4) f)) (fun y0 y1 y2 y3 y4 y5 => (Option.bind (k1 y0 y1 y2 y3 y4 y5) f)) n x0 x1 x2 x3 x4) ∧ (∀ (x5 : Int) (x6 : Row) (x7 : Int) (x8 : Int) (x9 : Int) (x10 : Row), Option.bind (l3a N k0 k1 n x5 x6 x7 x8 x9 x10) f = l3a N (fun y0 y1 y2 y3 y4 => (Option.bind (k0 y0 y1 y2 y3 y4) f)) (fun y0 y1 y2 y3 y4 y5 => (Option.bind (k1 y0 y1 y2 y3 y4 y5) f)) n x5 x6 x7 x8 x9 x10) := by
  intro n
  induction n with
  | zero => exact ⟨(fun _ _ _ _ _ => rfl), (fun _ _ _ _ _ _ => rfl)⟩
  | succ n ih =>
    refine ⟨?_, ?_⟩
    · intro x0 x1 x2 x3 x4
      simp only [l3, r3, Lib.cond_bind, Lib.some_bind, Lib.none_bind, ih.1, ih.2]
    · intro x5 x6 x7 x8 x9 x10
      simp only [l3a, r3a, Lib.cond_bind, Lib.some_bind, Lib.none_bind, ih.1, ih.2]
theorem l3_bind {R S : Type} (f : R → Option S) (N : Nat) (k0 : Int → Row → Int → Int → Int → Option R) (k1 : Int → Row → Int → Int → Int → Row → Option R) (n : Nat) (x0 : Int) (x1 : Row) (x2 : Int) (x3 : Int) (x4 : Int) : Option.bind (l3 N k0 k1 n x0 x1 x2 x3 x4) f = l3 N (fun y0 y1 y2 y3 y4 => (Option.bind (k0 y0 y1 y2 y3 y4) f)) (fun y0 y1 y2 y3 y4 y5 => (Option.bind (k1 y0 y1 y2 y3 y4 y5) f)) n x0 x1 x2 x3 x4 := (q3_bind f N k0 k1 n).1 x0 x1 x2 x3 x4
theorem l3a_bind {R S : Type} (f : R → Option S) (N : Nat) (k0 : Int → Row → Int → Int → Int → Option R) (k1 : Int → Row → Int → Int → Int → Row → Option R) (n : Nat) (x5 : Int) (x6 : Row) (x7 : Int) (x8 : Int) (x9 : Int) (x10 : Row) : Option.bind (l3a N k0 k1 n x5 x6 x7 x8 x9 x10) f = l3a N (fun y0 y1 y2 y3 y4 => (Option.bind (k0 y0 y1 y2 y3 y4) f)) (fun y0 y1 y2 y3 y4 y5 => (Option.bind (k1 y0 y1 y2 y3 y4 y5) f)) n x5 x6 x7 x8 x9 x10 := (q3_bind f N k0 k1 n).2 x5 x6 x7 x8 x9 x10
theorem b_bind {R : Type} (N : Nat) (kr : Row → Int → Option R) (s0_0 : Row) (s0_1 : Int) : b N kr s0_0 s0_1 = Option.bind (b N (fun r0 r1 => some (r0, r1)) s0_0 s0_1) (fun p => kr p.1 p.2) := by
  unfold b; simp only [Lib.cond_bind, Lib.some_bind, Lib.none_bind, l3_bind, l3a_bind]
def vo (s0_0 : Row) (s0_1 : Int) : Option (Row × Int) := b Lib.big (fun r0 r1 => some (r0, r1)) s0_0 s0_1
def c (s0_0 : Row) (s0_1 : Int) : Bool := Option.isSome (vo s0_0 s0_1)
def v (s0_0 : Row) (s0_1 : Int) : Row × Int := Option.getD (vo s0_0 s0_1) ([], 0)
theorem out (s0_0 : Row) (s0_1 : Int) {x : Row × Int} (h : vo s0_0 s0_1 = some x) : c s0_0 s0_1 = true ∧ v s0_0 s0_1 = x := by
  unfold c v; rw [h]; exact ⟨rfl, rfl⟩
theorem b_eq {R : Type} (kr : Row → Int → Option R) (s0_0 : Row) (s0_1 : Int) (hc : c s0_0 s0_1 = true) : ∃ N, b N kr s0_0 s0_1 = kr ((v s0_0 s0_1).1) ((v s0_0 s0_1).2) := by
  refine ⟨Lib.big, ?_⟩
  rw [b_bind]
  have e : vo s0_0 s0_1 = some (v s0_0 s0_1) := by
    unfold c at hc; unfold v
    cases h : vo s0_0 s0_1 with
    | none => rw [h] at hc; cases hc
    | some x => rfl
  unfold vo at e
  rw [e]; rfl
end Go.FG.Pu.spec_l12Copy

namespace Go.FG.Pu.spec_l13Copy
def b {R : Type} (kr : Row → Row → Row → Int → Option R) (p0_0 : Row) (p0_1 : Row) (p0_2 : Row) (p0_3 : Int) : Option R := bif (roomy (List.length (zeros [Ck.s] 0) + List.length p0_0) 16) then (bif (roomy (List.length (zeros [Ck.s] 0) + List.length p0_1) 16) then (bif (Pu.spec_l12Copy.c p0_2 p0_3) then (kr (zeros [Ck.s] 0 ++ p0_0) (zeros [Ck.s] 0 ++ p0_1) ((Pu.spec_l12Copy.v p0_2 p0_3).1) ((Pu.spec_l12Copy.v p0_2 p0_3).2)) else (none)) else (none)) else (none)
theorem b_bind {R : Type} (kr : Row → Row → Row → Int → Option R) (p0_0 : Row) (p0_1 : Row) (p0_2 : Row) (p0_3 : Int) : b kr p0_0 p0_1 p0_2 p0_3 = Option.bind (b (fun r0 r1 r2 r3 => some (r0, r1, r2, r3)) p0_0 p0_1 p0_2 p0_3) (fun p => kr p.1 p.2.1 p.2.2.1 p.2.2.2) := by
  unfold b; simp only [Lib.cond_bind, Lib.some_bind, Lib.none_bind]
def vo (p0_0 : Row) (p0_1 : Row) (p0_2 : Row) (p0_3 : Int) : Option (Row × Row × Row × Int) := b (fun r0 r1 r2 r3 => some (r0, r1, r2, r3)) p0_0 p0_1 p0_2 p0_3
def c (p0_0 : Row) (p0_1 : Row) (p0_2 : Row) (p0_3 : Int) : Bool := Option.isSome (vo p0_0 p0_1 p0_2 p0_3)
def v (p0_0 : Row) (p0_1 : Row) (p0_2 : Row) (p0_3 : Int) : Row × Row × Row × Int := Option.getD (vo p0_0 p0_1 p0_2 p0_3) ([], [], [], 0)
theorem out (p0_0 : Row) (p0_1 : Row) (p0_2 : Row) (p0_3 : Int) {x : Row × Row × Row × Int} (h : vo p0_0 p0_1 p0_2 p0_3 = some x) : c p0_0 p0_1 p0_2 p0_3 = true ∧ v p0_0 p0_1 p0_2 p0_3 = x := by
  unfold c v; rw [h]; exact ⟨rfl, rfl⟩
theorem b_eq {R : Type} (kr : Row → Row → Row → Int → Option R) (p0_0 : Row) (p0_1 : Row) (p0_2 : Row) (p0_3 : Int) (hc : c p0_0 p0_1 p0_2 p0_3 = true) : b kr p0_0 p0_1 p0_2 p0_3 = kr ((v p0_0 p0_1 p0_2 p0_3).1) ((v p0_0 p0_1 p0_2 p0_3).2.1) ((v p0_0 p0_1 p0_2 p0_3).2.2.1) ((v p0_0 p0_1 p0_2 p0_3).2.2.2) := by
  rw [b_bind]
  have e : vo p0_0 p0_1 p0_2 p0_3 = some (v p0_0 p0_1 p0_2 p0_3) := by
    unfold c at hc; unfold v
    cases h : vo p0_0 p0_1 p0_2 p0_3 with
    | none => rw [h] at hc; cases hc
    | some x => rfl
  unfold vo at e
  rw [e]; rfl
end Go.FG.Pu.spec_l13Copy

namespace Go.FG.Pu.spec_l16Copy
def b {R : Type} (kr : Int → Row → Row → Row → Row → Int → Row → Row → Int → Option R) (p0_0 : Int) (p0_1 : Row) (p0_2 : Row) (p0_3 : Row) (p0_4 : Row) (p0_5 : Int) (p0_6 : Row) (p0_7 : Row) (p0_8 : Int) : Option R := bif (roomy (List.length (zeros [Ck.s, Ck.i IntKind.i64, Ck.i IntKind.i64, Ck.s] 0) + List.length p0_1) 48) then (bif (Pu.spec_l13Copy.c p0_2 p0_3 p0_4 p0_5) then (bif (roomy (List.length (zeros [Ck.s, Ck.s, Ck.i IntKind.i64, Ck.i IntKind.i64, Ck.i IntKind.i64] 0) + List.length p0_6) 56) then (bif (roomy (List.length (zeros [Ck.i IntKind.i64, Ck.s, Ck.i IntKind.i64, Ck.i IntKind.i64, Ck.i IntKind.i64, Ck.s, Ck.i IntKind.i64] 0) + List.length p0_7) 72) then (kr p0_0 (zeros [Ck.s, Ck.i IntKind.i64, Ck.i IntKind.i64, Ck.s] 0 ++ p0_1) ((Pu.spec_l13Copy.v p0_2 p0_3 p0_4 p0_5).1) ((Pu.spec_l13Copy.v p0_2 p0_3 p0_4 p0_5).2.1) ((Pu.spec_l13Copy.v p0_2 p0_3 p0_4 p0_5).2.2.1) ((Pu.spec_l13Copy.v p0_2 p0_3 p0_4 p0_5).2.2.2) (zeros [Ck.s, Ck.s, Ck.i IntKind.i64, Ck.i IntKind.i64, Ck.i IntKind.i64] 0 ++ p0_6) (zeros [Ck.i IntKind.i64, Ck.s, Ck.i IntKind.i64, Ck.i IntKind.i64, Ck.i IntKind.i64, Ck.s, Ck.i IntKind.i64] 0 ++ p0_7) p0_8) else (none)) else (none)) else (none)) else (none)
theorem b_bind {R : Type} (kr : Int → Row → Row → Row → Row → Int → Row → Row → Int → Option R) (p0_0 : Int) (p0_1 : Row) (p0_2 : Row) (p0_3 : Row) (p0_4 : Row) (p0_5 : Int) (p0_6 : Row) (p0_7 : Row) (p0_8 : Int) : b kr p0_0 p0_1 p0_2 p0_3 p0_4 p0_5 p0_6 p0_7 p0_8 = Option.bind (b (fun r0 r1 r2 r3 r4 r5 r6 r7 r8 => some (r0, r1, r2, r3, r4, r5, r6, r7, r8)) p0_0 p0_1 p0_2 p0_3 p0_4 p0_5 p0_6 p0_7 p0_8) (fun p => kr p.1 p.2.1 p.2.2.1 p.2.2.2.1 p.2.2.2.2.1 p.2.2.2.2.2.1 p.2.2.2.2.2.2.1 p.2.2.2.2.2.2.2.1 p.2.2.2.2.2.2.2.2) := by
  unfold b; simp only [Lib.cond_bind, Lib.some_bind, Lib.none_bind]
def vo (p0_0 : Int) (p0_1 : Row) (p0_2 : Row) (p0_3 : Row) (p0_4 : Row) (p0_5 : Int) (p0_6 : Row) (p0_7 : Row) (p0_8 : Int) : Option (Int × Row × Row × Row × Row × Int × Row × Row × Int) := b (fun r0 r1 r2 r3 r4 r5 r6 r7 r8 => some (r0, r1, r2, r3, r4, r5, r6, r7, r8)) p0_0 p0_1 p0_2 p0_3 p0_4 p0_5 p0_6 p0_7 p0_8
def c (p0_0 : Int) (p0_1 : Row) (p0_2 : Row) (p0_3 : Row) (p0_4 : Row) (p0_5 : Int) (p0_6 : Row) (p0_7 : Row) (p0_8 : Int) : Bool := Option.isSome (vo p0_0 p0_1 p0_2 p0_3 p0_4 p0_5 p0_6 p0_7 p0_8)
def v (p0_0 : Int) (p0_1 : Row) (p0_2 : Row) (p0_3 : Row) (p0_4 : Row) (p0_5 : Int) (p0_6 : Row) (p0_7 : Row) (p0_8 : Int) : Int × Row × Row × Row × Row × Int × Row × Row × Int := Option.getD (vo p0_0 p0_1 p0_2 p0_3 p0_4 p0_5 p0_6 p0_7 p0_8) (0, [], [], [], [], 0, [], [], 0)
theorem out (p0_0 : Int) (p0_1 : Row) (p0_2 : Row) (p0_3 : Row) (p0_4 : Row) (p0_5 : Int) (p0_6 : Row) (p0_7 : Row) (p0_8 : Int) {x : Int × Row × Row × Row × Row × Int × Row × Row × Int} (h : vo p0_0 p0_1 p0_2 p0_3 p0_4 p0_5 p0_6 p0_7 p0_8 = some x) : c p0_0 p0_1 p0_2 p0_3 p0_4 p0_5 p0_6 p0_7 p0_8 = true ∧ v p0_0 p0_1 p0_2 p0_3 p0_4 p0_5 p0_6 p0_7 p0_8 = x := by
  unfold c v; rw [h]; exact ⟨rfl, rfl⟩
theorem b_eq {R : Type} (kr : Int → Row → Row → Row → Row → Int → Row → Row → Int → Option R) (p0_0 : Int) (p0_1 : Row) (p0_2 : Row) (p0_3 : Row) (p0_4 : Row) (p0_5 : Int) (p0_6 : Row) (p0_7 : Row) (p0_8 : Int) (hc : c p0_0 p0_1 p0_2 p0_3 p0_4 p0_5 p0_6 p0_7 p0_8 = true) : b kr p0_0 p0_1 p0_2 p0_3 p0_4 p0_5 p0_6 p0_7 p0_8 = kr ((v p0_0 p0_1 p0_2 p0_3 p0_4 p0_5 p0_6 p0_7 p0_8).1) ((v p0_0 p0_1 p0_2 p0_3 p0_4 p0_5 p0_6 p0_7 p0_8).2.1) ((v p0_0 p0_1 p0_2 p0_3 p0_4 p0_5 p0_6 p0_7 p0_8).2.2.1) ((v p0_0 p0_1 p0_2 p0_3 p0_4 p0_5 p0_6 p0_7 p0_8).2.2.2.1) ((v p0_0 p0_1 p0_2 p0_3 p0_4 p0_5 p0_6 p0_7 p0_8).2.2.2.2.1) ((v p0_0 p0_1 p0_2 p0_3 p0_4 p0_5 p0_6 p0_7 p0_8).2.2.2.2.2.1) ((v p0_0 p0_1 p0_2 p0_3 p0_4 p0_5 p0_6 p0_7 p0_8).2.2.2.2.2.2.1) ((v p0_0 p0_1 p0_2 p0_3 p0_4 p0_5 p0_6 p0_7 p0_8).2.2.2.2.2.2.2.1) ((v p0_0 p0_1 p0_2 p0_3 p0_4 p0_5 p0_6 p0_7 p0_8).2.2.2.2.2.2.2.2) := by
  rw [b_bind]
  have e : vo p0_0 p0_1 p0_2 p0_3 p0_4 p0_5 p0_6 p0_7 p0_8 = some (v p0_0 p0_1 p0_2 p0_3 p0_4 p0_5 p0_6 p0_7 p0_8) := by
    unfold c at hc; unfold v
    cases h : vo p0_0 p0_1 p0_2 p0_3 p0_4 p0_5 p0_6 p0_7 p0_8 with
    | none => rw [h] at hc; cases hc
    | some x => rfl
  unfold vo at e
  rw [e]; rfl
end Go.FG.Pu.spec_l16Copy

namespace Go.FG.Pu.spec_LeaveClient
def r4 {R : Type} (N : Nat) (g : Int → Int → Int → Row → Row → Row → Row → Int → Row → Row → Int → Int → Int → Int → Int → Int → Int → Row → Row → Row → Row → Row → Row → Option R) (k0 : Int → Int → Int → Row → Row → Row → Row → Int → Row → Row → Int → Int → Int → Int → Int → Int → Int → Row → Row → Row → Row → Row → Row → Option R) (x0 : Int) (x1 : Int) (x2 : Int) (x3 : Row) (x4 : Row) (x5 : Row) (x6 : Row) (x7 : Int) (x8 : Row) (x9 : Row) (x10 : Int) (x11 : Int) (x12 : Int) (x13 : Int) (x14 : Int) (x15 : Int) (x16 : Int) (x17 : Row) (x18 : Row) (x19 : Row) (x20 : Row) (x21 : Row) (x22 : Row) : Option R := bif (decide (x1 < (↑(List.length x9) : Int))) then (bif (decide (0 ≤ x1) && decide (x1 < (↑(List.length x9) : Int))) then (bif (cvI (cellAt x9 (Int.toNat x1) 0) != x0) then (bif (decide (0 ≤ x1) && decide (x1 < (↑(List.length x9) : Int))) then (bif (roomy (List.length x22 + List.length (List.set (zeros [Ck.i IntKind.i64, Ck.s, Ck.i IntKind.i64, Ck.i IntKind.i64, Ck.i IntKind.i64, Ck.s, Ck.i IntKind.i64] 1) 0 [CV.i IntKind.i64 (cvI (cellAt x9 (Int.toNat x1) 0)), CV.s (cvS (cellAt x9 (Int.toNat x1) 1)), CV.i IntKind.i64 (cvI (cellAt x9 (Int.toNat x1) (1 + 1))), CV.i IntKind.i64 (cvI (cellAt x9 (Int.toNat x1) (1 + 1 + 1))), CV.i IntKind.i64 (cvI (cellAt x9 (Int.toNat x1) (1 + 1 + 1 + 1))), CV.s (cvS (cellAt x9 (Int.toNat x1) (1 + 1 + 1 + 1 + 1))), CV.i IntKind.i64 (cvI (cellAt x9 (Int.toNat x1) (1 + 1 + 1 + 1 + 1 + 1)))])) 72) then (g x0 (w64 (x1 + 1)) x2 x3 x4 x5 x6 x7 x8 x9 x10 x11 x12 x13 x14 x15 x16 x17 x18 x19 x20 x21 (x22 ++ List.set (zeros [Ck.i IntKind.i64, Ck.s, Ck.i IntKind.i64, Ck.i IntKind.i64, Ck.i IntKind.i64, Ck.s, Ck.i IntKind.i64] 1) 0 [CV.i IntKind.i64 (cvI (cellAt x9 (Int.toNat x1) 0)), CV.s (cvS (cellAt x9 (Int.toNat x1) 1)), CV.i IntKind.i64 (cvI (cellAt x9 (Int.toNat x1) (1 + 1))), CV.i IntKind.i64 (cvI (cellAt x9 (Int.toNat x1) (1 + 1 + 1))), CV.i IntKind.i64 (cvI (cellAt x9 (Int.toNat x1) (1 + 1 + 1 + 1))), CV.s (cvS (cellAt x9 (Int.toNat x1) (1 + 1 + 1 + 1 + 1))), CV.i IntKind.i64 (cvI (cellAt x9 (Int.toNat x1) (1 + 1 + 1 + 1 + 1 + 1)))])) else (none)) else (none)) else (g x0 (w64 (x1 + 1)) x2 x3 x4 x5 x6 x7 x8 x9 x10 x11 x12 x13 x14 x15 x16 x17 x18 x19 x20 x21 x22)) else (none)) else (k0 x0 x1 x2 x3 x4 x5 x6 x7 x8 x9 x10 x11 x12 x13 x14 x15 x16 x17 x18 x19 x20 x21 x22)
def l4 {R : Type} (N : Nat) (k0 : Int → Int → Int → Row → Row → Row → Row → Int → Row → Row → Int → Int → Int → Int → Int → Int → Int → Row → Row → Row → Row → Row → Row → Option R) : Nat → Int → Int → Int → Row → Row → Row → Row → Int → Row → Row → Int → Int → Int → Int → Int → Int → Int → Row → Row → Row → Row → Row → Row → Option R
  | 0 => (fun _ _ _ _ _ _ _ _ _ _ _ _ _ _ _ _ _ _ _ _ _ _ _ => none)
  | n + 1 => (fun x0 x1 x2 x3 x4 x5 x6 x7 x8 x9 x10 x11 x12 x13 x14 x15 x16 x17 x18 x19 x20 x21 x22 => r4 N (l4 N k0 n) k0 x0 x1 x2 x3 x4 x5 x6 x7 x8 x9 x10 x11 x12 x13 x14 x15 x16 x17 x18 x19 x20 x21 x22)
def b {R : Type} (N : Nat) (kr : Int → Row → Row → Row → Row → Int → Row → Row → Int → Option R) (p0_0 : Int) (p0_1 : Row) (p0_2 : Row) (p0_3 : Row) (p0_4 : Row) (p0_5 : Int) (p0_6 : Row) (p0_7 : Row) (p0_8 : Int) (id1 : Int) : Option R := bif (Pu.spec_l16Copy.c p0_0 p0_1 p0_2 p0_3 p0_4 p0_5 p0_6 p0_7 p0_8) then (l4 N (fun y23 y24 y25 y26 y27 y28 y29 y30 y31 y32 y33 y34 y35 y36 y37 y38 y39 y40 y41 y42 y43 y44 y45 => kr y37 y40 y41 y42 y43 y38 y44 y45 y39) N id1 0 p0_0 p0_1 p0_2 p0_3 p0_4 p0_5 p0_6 p0_7 p0_8 0 0 0 ((Pu.spec_l16Copy.v p0_0 p0_1 p0_2 p0_3 p0_4 p0_5 p0_6 p0_7 p0_8).1) ((Pu.spec_l16Copy.v p0_0 p0_1 p0_2 p0_3 p0_4 p0_5 p0_6 p0_7 p0_8).2.2.2.2.2.1) ((Pu.spec_l16Copy.v p0_0 p0_1 p0_2 p0_3 p0_4 p0_5 p0_6 p0_7 p0_8).2.2.2.2.2.2.2.2) ((Pu.spec_l16Copy.v p0_0 p0_1 p0_2 p0_3 p0_4 p0_5 p0_6 p0_7 p0_8).2.1) ((Pu.spec_l16Copy.v p0_0 p0_1 p0_2 p0_3 p0_4 p0_5 p0_6 p0_7 p0_8).2.2.1) ((Pu.spec_l16Copy.v p0_0 p0_1 p0_2 p0_3 p0_4 p0_5 p0_6 p0_7 p0_8).2.2.2.1) ((Pu.spec_l16Copy.v p0_0 p0_1 p0_2 p0_3 p0_4 p0_5 p0_6 p0_7 p0_8).2.2.2.2.1) ((Pu.spec_l16Copy.v p0_0 p0_1 p0_2 p0_3 p0_4 p0_5 p0_6 p0_7 p0_8).2.2.2.2.2.2.1) (zeros [Ck.i IntKind.i64, Ck.s, Ck.i IntKind.i64, Ck.i IntKind.i64, Ck.i IntKind.i64, Ck.s, Ck.i IntKind.i64] 0)) else (none)
theorem q4_bind {R S : Type} (f : R → Option S) (N : Nat) (k0 : Int → Int → Int → Row → Row → Row → Row → Int → Row → Row → Int → Int → Int → Int → Int → Int → Int → Row → Row → Row → Row → Row → Row → Option R) : ∀ n : Nat, (∀ (x0 : Int) (x1 : Int) (x2 : Int) (x3 : Row) (x4 : Row) (x5 : Row) (x6 : Row) (x7 : Int) (x8 : Row) (x9 : Row) (x10 : Int) (x11 : Int) (x12 : Int) (x13 : Int) (x14 : Int) (x15 : Int) (x16 : Int) (x17 : Row) (x18 : Row) (x19 : Row) (x20 : Row) (x21 : Row) (x22 : Row), Option.bind (l4 N k0 n x0 x1 x2 x3 x4 x5 x6 x7 x8 x9 x10 x11 x12 x13 x14 x15 x16 x17 x18 x19 x20 x21 x22) f = l4 N (fun y0 y1 y2 y3 y4 y5 y6 y7 y8 y9 y10 y11 y12 y13 y14 y15 y16 y17 y18 y19 y20 y21 y22 => (Option.bind (k0 y0 y1 y2 y3 y4 y5 y6 y7 y8 y9 y10 y11 y12 y13 y14 y15 y16 y17 y18 y19 y20 y21 y22) f)) n x0 x1 x2 x3 x4 x5 x6 x7 x8 x9 x10 x11 x12 x13 x14 x15 x16 x17 x18 x19 x20 x21 x22) := by
  intro n
  induction n with
  | zero => exact (fun _ _ _ _ _ _ _ _ _ _ _ _ _ _ _ _ _ _ _ _ _ _ _ => rfl)
  | succ n ih =>
    intro x0 x1 x2 x3 x4 x5 x6 x7 x8 x9 x10 x11 x12 x13 x14 x15 x16 x17 x18 x19 x20 x21 x22
    simp only [l4, r4, Lib.cond_bind, Lib.some_bind, Lib.none_bind, ih]
theorem l4_bind {R S : Type} (f : R → Option S) (N : Nat) (k0 : Int → Int → Int → Row → Row → Row → Row → Int → Row → Row → Int → Int → Int → Int → Int → Int → Int → Row → Row → Row → Row → Row → Row → Option R) (n : Nat) (x0 : Int) (x1 : Int) (x2 : Int) (x3 : Row) (x4 : Row) (x5 : Row) (x6 : Row) (x7 : Int) (x8 : Row) (x9 : Row) (x10 : Int) (x11 : Int) (x12 : Int) (x13 : Int) (x14 : Int) (x15 : Int) (x16 : Int) (x17 : Row) (x18 : Row) (x19 : Row) (x20 : Row) (x21 : Row) (x22 : Row) : Option.bind (l4 N k0 n x0 x1 x2 x3 x4 x5 x6 x7 x8 x9 x10 x11 x12 x13 x14 x15 x16 x17 x18 x19 x20 x21 x22) f = l4 N (fun y0 y1 y2 y3 y4 y5 y6 y7 y8 y9 y10 y11 y12 y13 y14 y15 y16 y17 y18 y19 y20 y21 y22 => (Option.bind (k0 y0 y1 y2 y3 y4 y5 y6 y7 y8 y9 y10 y11 y12 y13 y14 y15 y16 y17 y18 y19 y20 y21 y22) f)) n x0 x1 x2 x3 x4 x5 x6 x7 x8 x9 x10 x11 x12 x13 x14 x15 x16 x17 x18 x19 x20 x21 x22 := (q4_bind f N k0 n) x0 x1 x2 x3 x4 x5 x6 x7 x8 x9 x10 x11 x12 x13 x14 x15 x16 x17 x18 x19 x20 x21 x22
theorem b_bind {R : Type} (N : Nat) (kr : Int → Row → Row → Row → Row → Int → Row → Row → Int → Option R) (p0_0 : Int) (p0_1 : Row) (p0_2 : Row) (p0_3 : Row) (p0_4 : Row) (p0_5 : Int) (p0_6 : Row) (p0_7 : Row) (p0_8 : Int) (id1 : Int) : b N kr p0_0 p0_1 p0_2 p0_3 p0_4 p0_5 p0_6 p0_7 p0_8 id1 = Option.bind (b N (fun r0 r1 r2 r3 r4 r5 r6 r7 r8 => some (r0, r1, r2, r3, r4, r5, r6, r7, r8)) p0_0 p0_1 p0_2 p0_3 p0_4 p0_5 p0_6 p0_7 p0_8 id1) (fun p => kr p.1 p.2.1 p.2.2.1 p.2.2.2.1 p.2.2.2.2.1 p.2.2.2.2.2.1 p.2.2.2.2.2.2.1 p.2.2.2.2.2.2.2.1 p.2.2.2.2.2.2.2.2) := by
  unfold b; simp only [Lib.cond_bind, Lib.some_bind, Lib.none_bind, l4_bind]
def vo (p0_0 : Int) (p0_1 : Row) (p0_2 : Row) (p0_3 : Row) (p0_4 : Row) (p0_5 : Int) (p0_6 : Row) (p0_7 : Row) (p0_8 : Int) (id1 : Int) : Option (Int × Row × Row × Row × Row × Int × Row × Row × Int) := b Lib.big (fun r0 r1 r2 r3 r4 r5 r6 r7 r8 => some (r0, r1, r2, r3, r4, r5, r6, r7, r8)) p0_0 p0_1 p0_2 p0_3 p0_4 p0_5 p0_6 p0_7 p0_8 id1
def c (p0_0 : Int) (p0_1 : Row) (p0_2 : Row) (p0_3 : Row) (p0_4 : Row) (p0_5 : Int) (p0_6 : Row) (p0_7 : Row) (p0_8 : Int) (id1 : Int) : Bool := Option.isSome (vo p0_0 p0_1 p0_2 p0_3 p0_4 p0_5 p0_6 p0_7 p0_8 id1)
def v (p0_0 : Int) (p0_1 : Row) (p0_2 : Row) (p0_3 : Row) (p0_4 : Row) (p0_5 : Int) (p0_6 : Row) (p0_7 : Row) (p0_8 : Int) (id1 : Int) : Int × Row × Row × Row × Row × Int × Row × Row × Int := Option.getD (vo p0_0 p0_1 p0_2 p0_3 p0_4 p0_5 p0_6 p0_7 p0_8 id1) (0, [], [], [], [], 0, [], [], 0)
theorem out (p0_0 : Int) (p0_1 : Row) (p0_2 : Row) (p0_3 : Row) (p0_4 : Row) (p0_5 : Int) (p0_6 : Row) (p0_7 : Row) (p0_8 : Int) (id1 : Int) {x : Int × Row × Row × Row × Row × Int × Row × Row × Int} (h : vo p0_0 p0_1 p0_2 p0_3 p0_4 p0_5 p0_6 p0_7 p0_8 id1 = some x) : c p0_0 p0_1 p0_2 p0_3 p0_4 p0_5 p0_6 p0_7 p0_8 id1 = true ∧ v p0_0 p0_1 p0_2 p0_3 p0_4 p0_5 p0_6 p0_7 p0_8 id1 = x := by
  unfold c v; rw [h]; exact ⟨rfl, rfl⟩
theorem b_eq {R : Type} (kr : Int → Row → Row → Row → Row → Int → Row → Row → Int → Option R) (p0_0 : Int) (p0_1 : Row) (p0_2 : Row) (p0_3 : Row) (p0_4 : Row) (p0_5 : Int) (p0_6 : Row) (p0_7 : Row) (p0_8 : Int) (id1 : Int) (hc : c p0_0 p0_1 p0_2 p0_3 p0_4 p0_5 p0_6 p0_7 p0_8 id1 = true) : ∃ N, b N kr p0_0 p0_1 p0_2 p0_3 p0_4 p0_5 p0_6 p0_7 p0_8 id1 = kr ((v p0_0 p0_1 p0_2 p0_3 p0_4 p0_5 p0_6 p0_7 p0_8 id1).1) ((v p0_0 p0_1 p0_2 p0_3 p0_4 p0_5 p0_6 p0_7 p0_8 id1).2.1) ((v p0_0 p0_1 p0_2 p0_3 p0_4 p0_5 p0_6 p0_7 p0_8 id1).2.2.1) ((v p0_0 p0_1 p0_2 p0_3 p0_4 p0_5 p0_6 p0_7 p0_8 id1).2.2.2.1) ((v p0_0 p0_1 p0_2 p0_3 p0_4 p0_5 p0_6 p0_7 p0_8 id1).2.2.2.2.1) ((v p0_0 p0_1 p0_2 p0_3 p0_4 p0_5 p0_6 p0_7 p0_8 id1).2.2.2.2.2.1) ((v p0_0 p0_1 p0_2 p0_3 p0_4 p0_5 p0_6 p0_7 p0_8 id1).2.2.2.2.2.2.1) ((v p0_0 p0_1 p0_2 p0_3 p0_4 p0_5 p0_6 p0_7 p0_8 id1).2.2.2.2.2.2.2.1) ((v p0_0 p0_1 p0_2 p0_3 p0_4 p0_5 p0_6 p0_7 p0_8 id1).2.2.2.2.2.2.2.2) := by
  refine ⟨Lib.big, ?_⟩
  rw [b_bind]
  have e : vo p0_0 p0_1 p0_2 p0_3 p0_4 p0_5 p0_6 p0_7 p0_8 id1 = some (v p0_0 p0_1 p0_2 p0_3 p0_4 p0_5 p0_6 p0_7 p0_8 id1) := by
    unfold c at hc; unfold v
    cases h : vo p0_0 p0_1 p0_2 p0_3 p0_4 p0_5 p0_6 p0_7 p0_8 id1 with
    | none => rw [h] at hc; cases hc
    | some x => rfl
  unfold vo at e
  rw [e]; rfl
end Go.FG.Pu.spec_LeaveClient

namespace Go.FG.Pu.impl_copyEntries
def b {R : Type} (kr : Row → Option R) (l0 : Row) : Option R := bif (roomy (List.length (zeros [Ck.s, Ck.i IntKind.i64, Ck.i IntKind.i64, Ck.s] 0) + List.length l0) 48) then (kr (zeros [Ck.s, Ck.i IntKind.i64, Ck.i IntKind.i64, Ck.s] 0 ++ l0)) else (none)
theorem b_bind {R : Type} (kr : Row → Option R) (l0 : Row) : b kr l0 = Option.bind (b (fun r0 => some (r0)) l0) (fun p => kr p) := by
  unfold b; simp only [Lib.cond_bind, Lib.some_bind, Lib.none_bind]
def vo (l0 : Row) : Option (Row) := b (fun r0 => some (r0)) l0
def c (l0 : Row) : Bool := Option.isSome (vo l0)
def v (l0 : Row) : Row := Option.getD (vo l0) ([])
theorem out (l0 : Row) {x : Row} (h : vo l0 = some x) : c l0 = true ∧ v l0 = x := by
  unfold c v; rw [h]; exact ⟨rfl, rfl⟩
theorem b_eq {R : Type} (kr : Row → Option R) (l0 : Row) (hc : c l0 = true) : b kr l0 = kr (v l0) := by
  rw [b_bind]
  have e : vo l0 = some (v l0) := by
    unfold c at hc; unfold v
    cases h : vo l0 with
    | none => rw [h] at hc; cases hc
    | some x => rfl
  unfold vo at e
  rw [e]; rfl
end Go.FG.Pu.impl_copyEntries

namespace Go.FG.Pu.impl_copyTexts
def b {R : Type} (kr : Row → Option R) (l0 : Row) : Option R := bif (roomy (List.length (zeros [Ck.s] 0) + List.length l0) 16) then (kr (zeros [Ck.s] 0 ++ l0)) else (none)
theorem b_bind {R : Type} (kr : Row → Option R) (l0 : Row) : b kr l0 = Option.bind (b (fun r0 => some (r0)) l0) (fun p => kr p) := by
  unfold b; simp only [Lib.cond_bind, Lib.some_bind, Lib.none_bind]
def vo (l0 : Row) : Option (Row) := b (fun r0 => some (r0)) l0
def c (l0 : Row) : Bool := Option.isSome (vo l0)
def v (l0 : Row) : Row := Option.getD (vo l0) ([])
theorem out (l0 : Row) {x : Row} (h : vo l0 = some x) : c l0 = true ∧ v l0 = x := by
  unfold c v; rw [h]; exact ⟨rfl, rfl⟩
theorem b_eq {R : Type} (kr : Row → Option R) (l0 : Row) (hc : c l0 = true) : b kr l0 = kr (v l0) := by
  rw [b_bind]
  have e : vo l0 = some (v l0) := by
    unfold c at hc; unfold v
    cases h : vo l0 with
    | none => rw [h] at hc; cases hc
    | some x => rfl
  unfold vo at e
  rw [e]; rfl
end Go.FG.Pu.impl_copyTexts

namespace Go.FG.Pu.impl_copyInts
def b {R : Type} (kr : Row → Option R) (l0 : Row) : Option R := bif (roomy (List.length (zeros [Ck.i IntKind.i64] 0) + List.length l0) 8) then (kr (zeros [Ck.i IntKind.i64] 0 ++ l0)) else (none)
theorem b_bind {R : Type} (kr : Row → Option R) (l0 : Row) : b kr l0 = Option.bind (b (fun r0 => some (r0)) l0) (fun p => kr p) := by
  unfold b; simp only [Lib.cond_bind, Lib.some_bind, Lib.none_bind]
def vo (l0 : Row) : Option (Row) := b (fun r0 => some (r0)) l0
def c (l0 : Row) : Bool := Option.isSome (vo l0)
def v (l0 : Row) : Row := Option.getD (vo l0) ([])
theorem out (l0 : Row) {x : Row} (h : vo l0 = some x) : c l0 = true ∧ v l0 = x := by
  unfold c v; rw [h]; exact ⟨rfl, rfl⟩
theorem b_eq {R : Type} (kr : Row → Option R) (l0 : Row) (hc : c l0 = true) : b kr l0 = kr (v l0) := by
  rw [b_bind]
  have e : vo l0 = some (v l0) := by
    unfold c at hc; unfold v
    cases h : vo l0 with
    | none => rw [h] at hc; cases hc
    | some x => rfl
  unfold vo at e
  rw [e]; rfl
end Go.FG.Pu.impl_copyInts

namespace Go.FG.Pu.impl_copySketch
def r3 {R : Type} (N : Nat) (g : Row → Int → Int → Int → Int → Option R) (g1 : Row → Int → Int → Int → Int → Row → Option R) (k0 : Row → Int → Int → Int → Int → Option R) (k1 : Row → Int → Int → Int → Int → Row → Option R) (x0 : Row) (x1 : Int) (x2 : Int) (x3 : Int) (x4 : Int) : Option R := bif (decide (x2 < x1)) then (bif (decide (0 ≤ x2) && decide (x2 < (↑(List.length x0) : Int))) then (bif (Pu.impl_copyInts.c (cvL (cellAt x0 (Int.toNat x2) 0))) then (g1 x0 x1 (w64 (x2 + 1)) x3 x4 ([] ++ List.set (zeros [Ck.l 3] 1) 0 [CV.l 3 (Pu.impl_copyInts.v (cvL (cellAt x0 (Int.toNat x2) 0)))])) else (none)) else (none)) else (k0 x0 x1 x2 x3 x4)
def r3a {R : Type} (N : Nat) (g : Row → Int → Int → Int → Int → Option R) (g1 : Row → Int → Int → Int → Int → Row → Option R) (k0 : Row → Int → Int → Int → Int → Option R) (k1 : Row → Int → Int → Int → Int → Row → Option R) (x5 : Row) (x6 : Int) (x7 : Int) (x8 : Int) (x9 : Int) (x10 : Row) : Option R := bif (decide (x7 < x6)) then (bif (decide (0 ≤ x7) && decide (x7 < (↑(List.length x5) : Int))) then (bif (Pu.impl_copyInts.c (cvL (cellAt x5 (Int.toNat x7) 0))) then (bif (roomy (List.length x10 + List.length (List.set (zeros [Ck.l 3] 1) 0 [CV.l 3 (Pu.impl_copyInts.v (cvL (cellAt x5 (Int.toNat x7) 0)))])) 24) then (g1 x5 x6 (w64 (x7 + 1)) x8 x9 (x10 ++ List.set (zeros [Ck.l 3] 1) 0 [CV.l 3 (Pu.impl_copyInts.v (cvL (cellAt x5 (Int.toNat x7) 0)))])) else (none)) else (none)) else (none)) else (k1 x5 x6 x7 x8 x9 x10)
def l3a {R : Type} (N : Nat) (k0 : Row → Int → Int → Int → Int → Option R) (k1 : Row → Int → Int → Int → Int → Row → Option R) : Nat → Row → Int → Int → Int → Int → Row → Option R
  | 0 => (fun _ _ _ _ _ _ => none)
  | n + 1 => (fun x5 x6 x7 x8 x9 x10 => r3a N (fun x0 x1 x2 x3 x4 => none) (l3a N k0 k1 n) k0 k1 x5 x6 x7 x8 x9 x10)
def l3 {R : Type} (N : Nat) (k0 : Row → Int → Int → Int → Int → Option R) (k1 : Row → Int → Int → Int → Int → Row → Option R) : Nat → Row → Int → Int → Int → Int → Option R
  | 0 => (fun _ _ _ _ _ => none)
  | n + 1 => (fun x0 x1 x2 x3 x4 => r3 N (l3 N k0 k1 n) (l3a N k0 k1 n) k0 k1 x0 x1 x2 x3 x4)
def b {R : Type} (N : Nat) (kr : Row → Int → Option R) (s0_0 : Row) (s0_1 : Int) : Option R := l3 N (fun y11 y12 y13 y14 y15 => kr [] y15) (fun y16 y17 y18 y19 y20 y21 => kr y21 y20) N s0_0 (↑(List.length s0_0) : Int) 0 0 s0_1
theorem q3_bind {R S : Type} (f : R → Option S) (N : Nat) (k0 : Row → Int → Int → Int → Int → Option R) (k1 : Row → Int → Int → Int → Int → Row → Option R) : ∀ n : Nat, (∀ (x0 : Row) (x1 : Int) (x2 : Int) (x3 : Int) (x4 : Int), Option.bind (l3 N k0 k1 n x0 x1 x2 x3 x4) f = l3 N (fun y0 y1 y2 y3 y4 => (Option.bind (k0 y0 y1 y2 y3 y4) f)) (fun y0 y1 y2 y3 y4 y5 => (Option.bind (k1 y0 y1 y2 y3 y4 y5) f)) n x0 x1 x2 x3 x4) ∧ (∀ (x5 : Row) (x6 : Int) (x7 : Int) (x8 : Int) (x9 : Int) (x10 : Row), Option.bind (l3a N k0 k1 n x5 x6 x7 x8 x9 x10) f = l3a N (fun y0 y1 y2 y3 y4 => (Option.bind (k0 y0 y1 y2 y3 y4) f)) (fun y0 y1 y2 y3 y4 y5 => (Option.bind (k1 y0 y1 y2 y3 y4 y5) f)) n x5 x6 x7 x8 x9 x10) := by
  intro n
  induction n with
  | zero => exact ⟨(fun _ _ _ _ _ => rfl), (fun _ _ _ _ _ _ => rfl)⟩
  | succ n ih =>
    refine ⟨?_, ?_⟩
    · intro x0 x1 x2 x3 x4
      simp only [l3, r3, Lib.cond_bind, Lib.some_bind, Lib.none_bind, ih.1, ih.2]
    · intro x5 x6 x7 x8 x9 x10
      simp only [l3a, r3a, Lib.cond_bind, Lib.some_bind, Lib.none_bind, ih.1, ih.2]
theorem l3_bind {R S : Type} (f : R → Option S) (N : Nat) (k0 : Row → Int → Int → Int → Int → Option R) (k1 : Row → Int → Int → Int → Int → Row → Option R) (n : Nat) (x0 : Row) (x1 : Int) (x2 : Int) (x3 : Int) (x4 : Int) : Option.bind (l3 N k0 k1 n x0 x1 x2 x3 x4) f = l3 N (fun y0 y1 y2 y3 y4 => (Option.bind (k0 y0 y1 y2 y3 y4) f)) (fun y0 y1 y2 y3 y4 y5 => (Option.bind (k1 y0 y1 y2 y3 y4 y5) f)) n x0 x1 x2 x3 x4 := (q3_bind f N k0 k1 n).1 x0 x1 x2 x3 x4
theorem l3a_bind {R S : Type} (f : R → Option S) (N : Nat) (k0 : Row → Int → Int → Int → Int → Option R) (k1 : Row → Int → Int → Int → Int → Row → Option R) (n : Nat) (x5 : Row) (x6 : Int) (x7 : Int) (x8 : Int) (x9 : Int) (x10 : Row) : Option.bind (l3a N k0 k1 n x5 x6 x7 x8 x9 x10) f = l3a N (fun y0 y1 y2 y3 y4 => (Option.bind (k0 y0 y1 y2 y3 y4) f)) (fun y0 y1 y2 y3 y4 y5 => (Option.bind (k1 y0 y1 y2 y3 y4 y5) f)) n x5 x6 x7 x8 x9 x10 := (q3_bind f N k0 k1 n).2 x5 x6 x7 x8 x9 x10
theorem b_bind {R : Type} (N : Nat) (kr : Row → Int → Option R) (s0_0 : Row) (s0_1 : Int) : b N kr s0_0 s0_1 = Option.bind (b N (fun r0 r1 => some (r0, r1)) s0_0 s0_1) (fun p => kr p.1 p.2) := by
  unfold b; simp only [Lib.cond_bind, Lib.some_bind, Lib.none_bind, l3_bind, l3a_bind]
def vo (s0_0 : Row) (s0_1 : Int) : Option (Row × Int) := b Lib.big (fun r0 r1 => some (r0, r1)) s0_0 s0_1
def c (s0_0 : Row) (s0_1 : Int) : Bool := Option.isSome (vo s0_0 s0_1)
def v (s0_0 : Row) (s0_1 : Int) : Row × Int := Option.getD (vo s0_0 s0_1) ([], 0)
theorem out (s0_0 : Row) (s0_1 : Int) {x : Row × Int} (h : vo s0_0 s0_1 = some x) : c s0_0 s0_1 = true ∧ v s0_0 s0_1 = x := by
  unfold c v; rw [h]; exact ⟨rfl, rfl⟩
theorem b_eq {R : Type} (kr : Row → Int → Option R) (s0_0 : Row) (s0_1 : Int) (hc : c s0_0 s0_1 = true) : ∃ N, b N kr s0_0 s0_1 = kr ((v s0_0 s0_1).1) ((v s0_0 s0_1).2) := by
  refine ⟨Lib.big, ?_⟩
  rw [b_bind]
  have e : vo s0_0 s0_1 = some (v s0_0 s0_1) := by
    unfold c at hc; unfold v
    cases h : vo s0_0 s0_1 with
    | none => rw [h] at hc; cases hc
    | some x => rfl
  unfold vo at e
  rw [e]; rfl
end Go.FG.Pu.impl_copySketch

namespace Go.FG.Pu.impl_copyPolicy
def b {R : Type} (kr : Row → Row → Row → Int → Option R) (p0_0 : Row) (p0_1 : Row) (p0_2 : Row) (p0_3 : Int) : Option R := bif (Pu.impl_copyTexts.c p0_0) then (bif (Pu.impl_copyTexts.c p0_1) then (bif (Pu.impl_copySketch.c p0_2 p0_3) then (kr (Pu.impl_copyTexts.v p0_0) (Pu.impl_copyTexts.v p0_1) ((Pu.impl_copySketch.v p0_2 p0_3).1) ((Pu.impl_copySketch.v p0_2 p0_3).2)) else (none)) else (none)) else (none)
theorem b_bind {R : Type} (kr : Row → Row → Row → Int → Option R) (p0_0 : Row) (p0_1 : Row) (p0_2 : Row) (p0_3 : Int) : b kr p0_0 p0_1 p0_2 p0_3 = Option.bind (b (fun r0 r1 r2 r3 => some (r0, r1, r2, r3)) p0_0 p0_1 p0_2 p0_3) (fun p => kr p.1 p.2.1 p.2.2.1 p.2.2.2) := by
  unfold b; simp only [Lib.cond_bind, Lib.some_bind, Lib.none_bind]
def vo (p0_0 : Row) (p0_1 : Row) (p0_2 : Row) (p0_3 : Int) : Option (Row × Row × Row × Int) := b (fun r0 r1 r2 r3 => some (r0, r1, r2, r3)) p0_0 p0_1 p0_2 p0_3
def c (p0_0 : Row) (p0_1 : Row) (p0_2 : Row) (p0_3 : Int) : Bool := Option.isSome (vo p0_0 p0_1 p0_2 p0_3)
def v (p0_0 : Row) (p0_1 : Row) (p0_2 : Row) (p0_3 : Int) : Row × Row × Row × Int := Option.getD (vo p0_0 p0_1 p0_2 p0_3) ([], [], [], 0)
theorem out (p0_0 : Row) (p0_1 : Row) (p0_2 : Row) (p0_3 : Int) {x : Row × Row × Row × Int} (h : vo p0_0 p0_1 p0_2 p0_3 = some x) : c p0_0 p0_1 p0_2 p0_3 = true ∧ v p0_0 p0_1 p0_2 p0_3 = x := by
  unfold c v; rw [h]; exact ⟨rfl, rfl⟩
theorem b_eq {R : Type} (kr : Row → Row → Row → Int → Option R) (p0_0 : Row) (p0_1 : Row) (p0_2 : Row) (p0_3 : Int) (hc : c p0_0 p0_1 p0_2 p0_3 = true) : b kr p0_0 p0_1 p0_2 p0_3 = kr ((v p0_0 p0_1 p0_2 p0_3).1) ((v p0_0 p0_1 p0_2 p0_3).2.1) ((v p0_0 p0_1 p0_2 p0_3).2.2.1) ((v p0_0 p0_1 p0_2 p0_3).2.2.2) := by
  rw [b_bind]
  have e : vo p0_0 p0_1 p0_2 p0_3 = some (v p0_0 p0_1 p0_2 p0_3) := by
    unfold c at hc; unfold v
    cases h : vo p0_0 p0_1 p0_2 p0_3 with
    | none => rw [h] at hc; cases hc
    | some x => rfl
  unfold vo at e
  rw [e]; rfl
end Go.FG.Pu.impl_copyPolicy

namespace Go.FG.Pu.impl_copyProxy
def b {R : Type} (kr : Int → Row → Row → Row → Row → Int → Row → Row → Int → Option R) (p0_0 : Int) (p0_1 : Row) (p0_2 : Row) (p0_3 : Row) (p0_4 : Row) (p0_5 : Int) (p0_6 : Row) (p0_7 : Row) (p0_8 : Int) : Option R := bif (Pu.impl_copyEntries.c p0_1) then (bif (Pu.impl_copyPolicy.c p0_2 p0_3 p0_4 p0_5) then (bif (roomy (List.length (zeros [Ck.s, Ck.s, Ck.i IntKind.i64, Ck.i IntKind.i64, Ck.i IntKind.i64] 0) + List.length p0_6) 56) then (bif (roomy (List.length (zeros [Ck.i IntKind.i64, Ck.s, Ck.i IntKind.i64, Ck.i IntKind.i64, Ck.i IntKind.i64, Ck.s, Ck.i IntKind.i64] 0) + List.length p0_7) 72) then (kr p0_0 (Pu.impl_copyEntries.v p0_1) ((Pu.impl_copyPolicy.v p0_2 p0_3 p0_4 p0_5).1) ((Pu.impl_copyPolicy.v p0_2 p0_3 p0_4 p0_5).2.1) ((Pu.impl_copyPolicy.v p0_2 p0_3 p0_4 p0_5).2.2.1) ((Pu.impl_copyPolicy.v p0_2 p0_3 p0_4 p0_5).2.2.2) (zeros [Ck.s, Ck.s, Ck.i IntKind.i64, Ck.i IntKind.i64, Ck.i IntKind.i64] 0 ++ p0_6) (zeros [Ck.i IntKind.i64, Ck.s, Ck.i IntKind.i64, Ck.i IntKind.i64, Ck.i IntKind.i64, Ck.s, Ck.i IntKind.i64] 0 ++ p0_7) p0_8) else (none)) else (none)) else (none)) else (none)
theorem b_bind {R : Type} (kr : Int → Row → Row → Row → Row → Int → Row → Row → Int → Option R) (p0_0 : Int) (p0_1 : Row) (p0_2 : Row) (p0_3 : Row) (p0_4 : Row) (p0_5 : Int) (p0_6 : Row) (p0_7 : Row) (p0_8 : Int) : b kr p0_0 p0_1 p0_2 p0_3 p0_4 p0_5 p0_6 p0_7 p0_8 = Option.bind (b (fun r0 r1 r2 r3 r4 r5 r6 r7 r8 => some (r0, r1, r2, r3, r4, r5, r6, r7, r8)) p0_0 p0_1 p0_2 p0_3 p0_4 p0_5 p0_6 p0_7 p0_8) (fun p => kr p.1 p.2.1 p.2.2.1 p.2.2.2.1 p.2.2.2.2.1 p.2.2.2.2.2.1 p.2.2.2.2.2.2.1 p.2.2.2.2.2.2.2.1 p.2.2.2.2.2.2.2.2) := by
  unfold b; simp only [Lib.cond_bind, Lib.some_bind, Lib.none_bind]
def vo (p0_0 : Int) (p0_1 : Row) (p0_2 : Row) (p0_3 : Row) (p0_4 : Row) (p0_5 : Int) (p0_6 : Row) (p0_7 : Row) (p0_8 : Int) : Option (Int × Row × Row × Row × Row × Int × Row × Row × Int) := b (fun r0 r1 r2 r3 r4 r5 r6 r7 r8 => some (r0, r1, r2, r3, r4, r5, r6, r7, r8)) p0_0 p0_1 p0_2 p0_3 p0_4 p0_5 p0_6 p0_7 p0_8
def c (p0_0 : Int) (p0_1 : Row) (p0_2 : Row) (p0_3 : Row) (p0_4 : Row) (p0_5 : Int) (p0_6 : Row) (p0_7 : Row) (p0_8 : Int) : Bool := Option.isSome (vo p0_0 p0_1 p0_2 p0_3 p0_4 p0_5 p0_6 p0_7 p0_8)
def v (p0_0 : Int) (p0_1 : Row) (p0_2 : Row) (p0_3 : Row) (p0_4 : Row) (p0_5 : Int) (p0_6 : Row) (p0_7 : Row) (p0_8 : Int) : Int × Row × Row × Row × Row × Int × Row × Row × Int := Option.getD (vo p0_0 p0_1 p0_2 p0_3 p0_4 p0_5 p0_6 p0_7 p0_8) (0, [], [], [], [], 0, [], [], 0)
theorem out (p0_0 : Int) (p0_1 : Row) (p0_2 : Row) (p0_3 : Row) (p0_4 : Row) (p0_5 : Int) (p0_6 : Row) (p0_7 : Row) (p0_8 : Int) {x : Int × Row × Row × Row × Row × Int × Row × Row × Int} (h : vo p0_0 p0_1 p0_2 p0_3 p0_4 p0_5 p0_6 p0_7 p0_8 = some x) : c p0_0 p0_1 p0_2 p0_3 p0_4 p0_5 p0_6 p0_7 p0_8 = true ∧ v p0_0 p0_1 p0_2 p0_3 p0_4 p0_5 p0_6 p0_7 p0_8 = x := by
  unfold c v; rw [h]; exact ⟨rfl, rfl⟩
theorem b_eq {R : Type} (kr : Int → Row → Row → Row → Row → Int → Row → Row → Int → Option R) (p0_0 : Int) (p0_1 : Row) (p0_2 : Row) (p0_3 : Row) (p0_4 : Row) (p0_5 : Int) (p0_6 : Row) (p0_7 : Row) (p0_8 : Int) (hc : c p0_0 p0_1 p0_2 p0_3 p0_4 p0_5 p0_6 p0_7 p0_8 = true) : b kr p0_0 p0_1 p0_2 p0_3 p0_4 p0_5 p0_6 p0_7 p0_8 = kr ((v p0_0 p0_1 p0_2 p0_3 p0_4 p0_5 p0_6 p0_7 p0_8).1) ((v p0_0 p0_1 p0_2 p0_3 p0_4 p0_5 p0_6 p0_7 p0_8).2.1) ((v p0_0 p0_1 p0_2 p0_3 p0_4 p0_5 p0_6 p0_7 p0_8).2.2.1) ((v p0_0 p0_1 p0_2 p0_3 p0_4 p0_5 p0_6 p0_7 p0_8).2.2.2.1) ((v p0_0 p0_1 p0_2 p0_3 p0_4 p0_5 p0_6 p0_7 p0_8).2.2.2.2.1) ((v p0_0 p0_1 p0_2 p0_3 p0_4 p0_5 p0_6 p0_7 p0_8).2.2.2.2.2.1) ((v p0_0 p0_1 p0_2 p0_3 p0_4 p0_5 p0_6 p0_7 p0_8).2.2.2.2.2.2.1) ((v p0_0 p0_1 p0_2 p0_3 p0_4 p0_5 p0_6 p0_7 p0_8).2.2.2.2.2.2.2.1) ((v p0_0 p0_1 p0_2 p0_3 p0_4 p0_5 p0_6 p0_7 p0_8).2.2.2.2.2.2.2.2) := by
  rw [b_bind]
  have e : vo p0_0 p0_1 p0_2 p0_3 p0_4 p0_5 p0_6 p0_7 p0_8 = some (v p0_0 p0_1 p0_2 p0_3 p0_4 p0_5 p0_6 p0_7 p0_8) := by
    unfold c at hc; unfold v
    cases h : vo p0_0 p0_1 p0_2 p0_3 p0_4 p0_5 p0_6 p0_7 p0_8 with
    | none => rw [h] at hc; cases hc
    | some x => rfl
  unfold vo at e
  rw [e]; rfl
end Go.FG.Pu.impl_copyProxy

namespace Go.FG.Pu.impl_clientAt_1
def b {R : Type} (kr : Bool → Option R) (c0_0 : Int) (c0_1 : ByteArray) (c0_2 : Int) (c0_3 : Int) (c0_4 : Int) (c0_5 : ByteArray) (c0_6 : Int) (id1 : Int) : Option R := kr (decide (c0_0 = id1))
def v (c0_0 : Int) (c0_1 : ByteArray) (c0_2 : Int) (c0_3 : Int) (c0_4 : Int) (c0_5 : ByteArray) (c0_6 : Int) (id1 : Int) : Bool := ((decide (c0_0 = id1)))
theorem b_eq {R : Type} (kr : Bool → Option R) (c0_0 : Int) (c0_1 : ByteArray) (c0_2 : Int) (c0_3 : Int) (c0_4 : Int) (c0_5 : ByteArray) (c0_6 : Int) (id1 : Int) : b kr c0_0 c0_1 c0_2 c0_3 c0_4 c0_5 c0_6 id1 = kr (v c0_0 c0_1 c0_2 c0_3 c0_4 c0_5 c0_6 id1) := by
  first | rfl | (unfold b v; simp only [Bool.cond_eq_ite]; (repeat' split) <;> rfl)
end Go.FG.Pu.impl_clientAt_1

namespace Go.FG.Pu.slices_IndexFunc_Clienta
def r2 {R : Type} (N : Nat) (g : Row → Int → Int → Int → Int → Option R) (k0 : Row → Int → Int → Int → Int → Option R) (k1 : Row → Int → Int → Int → Int → Option R) (x0 : Row) (x1 : Int) (x2 : Int) (x3 : Int) (x4 : Int) : Option R := bif (decide (x4 < x3)) then (bif (decide (0 ≤ x4) && decide (x4 < (↑(List.length x0) : Int))) then (bif (Pu.impl_clientAt_1.v (cvI (cellAt x0 (Int.toNat x4) 0)) (cvS (cellAt x0 (Int.toNat x4) 1)) (cvI (cellAt x0 (Int.toNat x4) (1 + 1))) (cvI (cellAt x0 (Int.toNat x4) (1 + 1 + 1))) (cvI (cellAt x0 (Int.toNat x4) (1 + 1 + 1 + 1))) (cvS (cellAt x0 (Int.toNat x4) (1 + 1 + 1 + 1 + 1))) (cvI (cellAt x0 (Int.toNat x4) (1 + 1 + 1 + 1 + 1 + 1))) x1) then (k0 x0 x1 x4 x3 x4) else (g x0 x1 x2 x3 (w64 (x4 + 1)))) else (none)) else (k1 x0 x1 x2 x3 x4)
def l2 {R : Type} (N : Nat) (k0 : Row → Int → Int → Int → Int → Option R) (k1 : Row → Int → Int → Int → Int → Option R) : Nat → Row → Int → Int → Int → Int → Option R
  | 0 => (fun _ _ _ _ _ => none)
  | n + 1 => (fun x0 x1 x2 x3 x4 => r2 N (l2 N k0 k1 n) k0 k1 x0 x1 x2 x3 x4)
def b {R : Type} (N : Nat) (kr : Int → Option R) (s0 : Row) (id1 : Int) : Option R := l2 N (fun y5 y6 y7 y8 y9 => kr y7) (fun y10 y11 y12 y13 y14 => kr (-1)) N s0 id1 0 (↑(List.length s0) : Int) 0
theorem q2_bind {R S : Type} (f : R → Option S) (N : Nat) (k0 : Row → Int → Int → Int → Int → Option R) (k1 : Row → Int → Int → Int → Int → Option R) : ∀ n : Nat, (∀ (x0 : Row) (x1 : Int) (x2 : Int) (x3 : Int) (x4 : Int), Option.bind (l2 N k0 k1 n x0 x1 x2 x3 x4) f = l2 N (fun y0 y1 y2 y3 y4 => (Option.bind (k0 y0 y1 y2 y3 y4) f)) (fun y0 y1 y2 y3 y4 => (Option.bind (k1 y0 y1 y2 y3 y4) f)) n x0 x1 x2 x3 x4) := by
  intro n
  induction n with
  | zero => exact (fun _ _ _ _ _ => rfl)
  | succ n ih =>
    intro x0 x1 x2 x3 x4
    simp only [l2, r2, Lib.cond_bind, Lib.some_bind, Lib.none_bind, ih]
theorem l2_bind {R S : Type} (f : R → Option S) (N : Nat) (k0 : Row → Int → Int → Int → Int → Option R) (k1 : Row → Int → Int → Int → Int → Option R) (n : Nat) (x0 : Row) (x1 : Int) (x2 : Int) (x3 : Int) (x4 : Int) : Option.bind (l2 N k0 k1 n x0 x1 x2 x3 x4) f = l2 N (fun y0 y1 y2 y3 y4 => (Option.bind (k0 y0 y1 y2 y3 y4) f)) (fun y0 y1 y2 y3 y4 => (Option.bind (k1 y0 y1 y2 y3 y4) f)) n x0 x1 x2 x3 x4 := (q2_bind f N k0 k1 n) x0 x1 x2 x3 x4
theorem b_bind {R : Type} (N : Nat) (kr : Int → Option R) (s0 : Row) (id1 : Int) : b N kr s0 id1 = Option.bind (b N (fun r0 => some (r0)) s0 id1) (fun p => kr p) := by
  unfold b; simp only [Lib.cond_bind, Lib.some_bind, Lib.none_bind, l2_bind]
def vo (s0 : Row) (id1 : Int) : Option (Int) := b Lib.big (fun r0 => some (r0)) s0 id1
def c (s0 : Row) (id1 : Int) : Bool := Option.isSome (vo s0 id1)
def v (s0 : Row) (id1 : Int) : Int := Option.getD (vo s0 id1) (0)
theorem out (s0 : Row) (id1 : Int) {x : Int} (h : vo s0 id1 = some x) : c s0 id1 = true ∧ v s0 id1 = x := by
  unfold c v; rw [h]; exact ⟨rfl, rfl⟩
theorem b_eq {R : Type} (kr : Int → Option R) (s0 : Row) (id1 : Int) (hc : c s0 id1 = true) : ∃ N, b N kr s0 id1 = kr (v s0 id1) := by
  refine ⟨Lib.big, ?_⟩
  rw [b_bind]
  have e : vo s0 id1 = some (v s0 id1) := by
    unfold c at hc; unfold v
    cases h : vo s0 id1 with
    | none => rw [h] at hc; cases hc
    | some x => rfl
  unfold vo at e
  rw [e]; rfl
end Go.FG.Pu.slices_IndexFunc_Clienta

namespace Go.FG.Pu.impl_LeaveClient_1
def b {R : Type} (kr : Bool → Option R) (c0_0 : Int) (c0_1 : ByteArray) (c0_2 : Int) (c0_3 : Int) (c0_4 : Int) (c0_5 : ByteArray) (c0_6 : Int) (id1 : Int) : Option R := kr (decide (c0_0 = id1))
def v (c0_0 : Int) (c0_1 : ByteArray) (c0_2 : Int) (c0_3 : Int) (c0_4 : Int) (c0_5 : ByteArray) (c0_6 : Int) (id1 : Int) : Bool := ((decide (c0_0 = id1)))
theorem b_eq {R : Type} (kr : Bool → Option R) (c0_0 : Int) (c0_1 : ByteArray) (c0_2 : Int) (c0_3 : Int) (c0_4 : Int) (c0_5 : ByteArray) (c0_6 : Int) (id1 : Int) : b kr c0_0 c0_1 c0_2 c0_3 c0_4 c0_5 c0_6 id1 = kr (v c0_0 c0_1 c0_2 c0_3 c0_4 c0_5 c0_6 id1) := by
  first | rfl | (unfold b v; simp only [Bool.cond_eq_ite]; (repeat' split) <;> rfl)
end Go.FG.Pu.impl_LeaveClient_1

namespace Go.FG.Pu.slices_IndexFunc_Clientb
def r2 {R : Type} (N : Nat) (g : Row → Int → Int → Int → Int → Option R) (k0 : Row → Int → Int → Int → Int → Option R) (k1 : Row → Int → Int → Int → Int → Option R) (x0 : Row) (x1 : Int) (x2 : Int) (x3 : Int) (x4 : Int) : Option R := bif (decide (x4 < x3)) then (bif (decide (0 ≤ x4) && decide (x4 < (↑(List.length x0) : Int))) then (bif (Pu.impl_LeaveClient_1.v (cvI (cellAt x0 (Int.toNat x4) 0)) (cvS (cellAt x0 (Int.toNat x4) 1)) (cvI (cellAt x0 (Int.toNat x4) (1 + 1))) (cvI (cellAt x0 (Int.toNat x4) (1 + 1 + 1))) (cvI (cellAt x0 (Int.toNat x4) (1 + 1 + 1 + 1))) (cvS (cellAt x0 (Int.toNat x4) (1 + 1 + 1 + 1 + 1))) (cvI (cellAt x0 (Int.toNat x4) (1 + 1 + 1 + 1 + 1 + 1))) x1) then (k0 x0 x1 x4 x3 x4) else (g x0 x1 x2 x3 (w64 (x4 + 1)))) else (none)) else (k1 x0 x1 x2 x3 x4)
def l2 {R : Type} (N : Nat) (k0 : Row → Int → Int → Int → Int → Option R) (k1 : Row → Int → Int → Int → Int → Option R) : Nat → Row → Int → Int → Int → Int → Option R
  | 0 => (fun _ _ _ _ _ => none)
  | n + 1 => (fun x0 x1 x2 x3 x4 => r2 N (l2 N k0 k1 n) k0 k1 x0 x1 x2 x3 x4)
def b {R : Type} (N : Nat) (kr : Int → Option R) (s0 : Row) (id1 : Int) : Option R := l2 N (fun y5 y6 y7 y8 y9 => kr y7) (fun y10 y11 y12 y13 y14 => kr (-1)) N s0 id1 0 (↑(List.length s0) : Int) 0
theorem q2_bind {R S : Type} (f : R → Option S) (N : Nat) (k0 : Row → Int → Int → Int → Int → Option R) (k1 : Row → Int → Int → Int → Int → Option R) : ∀ n : Nat, (∀ (x0 : Row) (x1 : Int) (x2 : Int) (x3 : Int) (x4 : Int), Option.bind (l2 N k0 k1 n x0 x1 x2 x3 x4) f = l2 N (fun y0 y1 y2 y3 y4 => (Option.bind (k0 y0 y1 y2 y3 y4) f)) (fun y0 y1 y2 y3 y4 => (Option.bind (k1 y0 y1 y2 y3 y4) f)) n x0 x1 x2 x3 x4) := by
  intro n
  induction n with
  | zero => exact (fun _ _ _ _ _ => rfl)
  | succ n ih =>
    intro x0 x1 x2 x3 x4
    simp only [l2, r2, Lib.cond_bind, Lib.some_bind, Lib.none_bind, ih]
theorem l2_bind {R S : Type} (f : R → Option S) (N : Nat) (k0 : Row → Int → Int → Int → Int → Option R) (k1 : Row → Int → Int → Int → Int → Option R) (n : Nat) (x0 : Row) (x1 : Int) (x2 : Int) (x3 : Int) (x4 : Int) : Option.bind (l2 N k0 k1 n x0 x1 x2 x3 x4) f = l2 N (fun y0 y1 y2 y3 y4 => (Option.bind (k0 y0 y1 y2 y3 y4) f)) (fun y0 y1 y2 y3 y4 => (Option.bind (k1 y0 y1 y2 y3 y4) f)) n x0 x1 x2 x3 x4 := (q2_bind f N k0 k1 n) x0 x1 x2 x3 x4
theorem b_bind {R : Type} (N : Nat) (kr : Int → Option R) (s0 : Row) (id1 : Int) : b N kr s0 id1 = Option.bind (b N (fun r0 => some (r0)) s0 id1) (fun p => kr p) := by
  unfold b; simp only [Lib.cond_bind, Lib.some_bind, Lib.none_bind, l2_bind]
def vo (s0 : Row) (id1 : Int) : Option (Int) := b Lib.big (fun r0 => some (r0)) s0 id1
def c (s0 : Row) (id1 : Int) : Bool := Option.isSome (vo s0 id1)
def v (s0 : Row) (id1 : Int) : Int := Option.getD (vo s0 id1) (0)
theorem out (s0 : Row) (id1 : Int) {x : Int} (h : vo s0 id1 = some x) : c s0 id1 = true ∧ v s0 id1 = x := by
  unfold c v; rw [h]; exact ⟨rfl, rfl⟩
theorem b_eq {R : Type} (kr : Int → Option R) (s0 : Row) (id1 : Int) (hc : c s0 id1 = true) : ∃ N, b N kr s0 id1 = kr (v s0 id1) := by
  refine ⟨Lib.big, ?_⟩
  rw [b_bind]
  have e : vo s0 id1 = some (v s0 id1) := by
    unfold c at hc; unfold v
    cases h : vo s0 id1 with
    | none => rw [h] at hc; cases hc
    | some x => rfl
  unfold vo at e
  rw [e]; rfl
end Go.FG.Pu.slices_IndexFunc_Clientb

namespace Go.FG.Pu.slices_DeleteFunc_Client
def r5 {R : Type} (N : Nat) (g : Int → Int → Int → Row → Option R) (k0 : Int → Int → Int → Row → Option R) (x0 : Int) (x1 : Int) (x2 : Int) (x3 : Row) : Option R := bif (decide (x2 < (↑(List.length x3) : Int))) then (bif (decide (0 ≤ x2) && decide (x2 < (↑(List.length x3) : Int))) then (bif (!Pu.impl_LeaveClient_1.v (cvI (cellAt x3 (Int.toNat x2) 0)) (cvS (cellAt x3 (Int.toNat x2) 1)) (cvI (cellAt x3 (Int.toNat x2) (1 + 1))) (cvI (cellAt x3 (Int.toNat x2) (1 + 1 + 1))) (cvI (cellAt x3 (Int.toNat x2) (1 + 1 + 1 + 1))) (cvS (cellAt x3 (Int.toNat x2) (1 + 1 + 1 + 1 + 1))) (cvI (cellAt x3 (Int.toNat x2) (1 + 1 + 1 + 1 + 1 + 1))) x0) then (bif (decide (0 ≤ x1) && decide (x1 < (↑(List.length x3) : Int))) then (g x0 (w64 (x1 + 1)) (w64 (x2 + 1)) (setC x3 (Int.toNat x1) 0 [CV.i IntKind.i64 (cvI (cellAt x3 (Int.toNat x2) 0)), CV.s (cvS (cellAt x3 (Int.toNat x2) 1)), CV.i IntKind.i64 (cvI (cellAt x3 (Int.toNat x2) (1 + 1))), CV.i IntKind.i64 (cvI (cellAt x3 (Int.toNat x2) (1 + 1 + 1))), CV.i IntKind.i64 (cvI (cellAt x3 (Int.toNat x2) (1 + 1 + 1 + 1))), CV.s (cvS (cellAt x3 (Int.toNat x2) (1 + 1 + 1 + 1 + 1))), CV.i IntKind.i64 (cvI (cellAt x3 (Int.toNat x2) (1 + 1 + 1 + 1 + 1 + 1)))])) else (none)) else (g x0 x1 (w64 (x2 + 1)) x3)) else (none)) else (k0 x0 x1 x2 x3)
def l5 {R : Type} (N : Nat) (k0 : Int → Int → Int → Row → Option R) : Nat → Int → Int → Int → Row → Option R
  | 0 => (fun _ _ _ _ => none)
  | n + 1 => (fun x0 x1 x2 x3 => r5 N (l5 N k0 n) k0 x0 x1 x2 x3)
def b {R : Type} (N : Nat) (kr : Row → Option R) (s0 : Row) (id1 : Int) : Option R := bif (Pu.slices_IndexFunc_Clientb.c s0 id1) then (bif (decide (Pu.slices_IndexFunc_Clientb.v s0 id1 = Int.neg 1)) then (kr s0) else (l5 N (fun y4 y5 y6 y7 => bif (inB y5 (↑(List.length y7) : Int) (↑(List.length y7) : Int)) then (bif (inB 0 y5 (↑(List.length (List.take (Int.toNat y5) y7 ++ zeros [Ck.i IntKind.i64, Ck.s, Ck.i IntKind.i64, Ck.i IntKind.i64, Ck.i IntKind.i64, Ck.s, Ck.i IntKind.i64] (Int.toNat (↑(List.length y7) : Int) - Int.toNat y5) ++ List.drop (Int.toNat (↑(List.length y7) : Int)) y7)) : Int)) then (kr (view (List.take (Int.toNat y5) y7 ++ zeros [Ck.i IntKind.i64, Ck.s, Ck.i IntKind.i64, Ck.i IntKind.i64, Ck.i IntKind.i64, Ck.s, Ck.i IntKind.i64] (Int.toNat (↑(List.length y7) : Int) - Int.toNat y5) ++ List.drop (Int.toNat (↑(List.length y7) : Int)) y7) (Int.toNat 0) (Int.toNat y5))) else (none)) else (none)) N id1 (Pu.slices_IndexFunc_Clientb.v s0 id1) (w64 (Pu.slices_IndexFunc_Clientb.v s0 id1 + 1)) s0)) else (none)
theorem q5_bind {R S : Type} (f : R → Option S) (N : Nat) (k0 : Int → Int → Int → Row → Option R) : ∀ n : Nat, (∀ (x0 : Int) (x1 : Int) (x2 : Int) (x3 : Row), Option.bind (l5 N k0 n x0 x1 x2 x3) f = l5 N (fun y0 y1 y2 y3 => (Option.bind (k0 y0 y1 y2 y3) f)) n x0 x1 x2 x3) := by
  intro n
  induction n with
  | zero => exact (fun _ _ _ _ => rfl)
  | succ n ih =>
    intro x0 x1 x2 x3
    simp only [l5, r5, Lib.cond_bind, Lib.some_bind, Lib.none_bind, ih]
theorem l5_bind {R S : Type} (f : R → Option S) (N : Nat) (k0 : Int → Int → Int → Row → Option R) (n : Nat) (x0 : Int) (x1 : Int) (x2 : Int) (x3 : Row) : Option.bind (l5 N k0 n x0 x1 x2 x3) f = l5 N (fun y0 y1 y2 y3 => (Option.bind (k0 y0 y1 y2 y3) f)) n x0 x1 x2 x3 := (q5_bind f N k0 n) x0 x1 x2 x3
theorem b_bind {R : Type} (N : Nat) (kr : Row → Option R) (s0 : Row) (id1 : Int) : b N kr s0 id1 = Option.bind (b N (fun r0 => some (r0)) s0 id1) (fun p => kr p) := by
  unfold b; simp only [Lib.cond_bind, Lib.some_bind, Lib.none_bind, l5_bind]
def vo (s0 : Row) (id1 : Int) : Option (Row) := b Lib.big (fun r0 => some (r0)) s0 id1
def c (s0 : Row) (id1 : Int) : Bool := Option.isSome (vo s0 id1)
def v (s0 : Row) (id1 : Int) : Row := Option.getD (vo s0 id1) ([])
theorem out (s0 : Row) (id1 : Int) {x : Row} (h : vo s0 id1 = some x) : c s0 id1 = true ∧ v s0 id1 = x := by
  unfold c v; rw [h]; exact ⟨rfl, rfl⟩
theorem b_eq {R : Type} (kr : Row → Option R) (s0 : Row) (id1 : Int) (hc : c s0 id1 = true) : ∃ N, b N kr s0 id1 = kr (v s0 id1) := by
  refine ⟨Lib.big, ?_⟩
  rw [b_bind]
  have e : vo s0 id1 = some (v s0 id1) := by
    unfold c at hc; unfold v
    cases h : vo s0 id1 with
    | none => rw [h] at hc; cases hc
    | some x => rfl
  unfold vo at e
  rw [e]; rfl
end Go.FG.Pu.slices_DeleteFunc_Client

namespace Go.FG.Pu.impl_LeaveClient
def b {R : Type} (kr : Int → Row → Row → Row → Row → Int → Row → Row → Int → Option R) (p0_0 : Int) (p0_1 : Row) (p0_2 : Row) (p0_3 : Row) (p0_4 : Row) (p0_5 : Int) (p0_6 : Row) (p0_7 : Row) (p0_8 : Int) (id1 : Int) : Option R := bif (Pu.impl_copyProxy.c p0_0 p0_1 p0_2 p0_3 p0_4 p0_5 p0_6 p0_7 p0_8) then (bif (Pu.slices_DeleteFunc_Client.c (Pu.impl_copyProxy.v p0_0 p0_1 p0_2 p0_3 p0_4 p0_5 p0_6 p0_7 p0_8).2.2.2.2.2.2.2.1 id1) then (kr ((Pu.impl_copyProxy.v p0_0 p0_1 p0_2 p0_3 p0_4 p0_5 p0_6 p0_7 p0_8).1) ((Pu.impl_copyProxy.v p0_0 p0_1 p0_2 p0_3 p0_4 p0_5 p0_6 p0_7 p0_8).2.1) ((Pu.impl_copyProxy.v p0_0 p0_1 p0_2 p0_3 p0_4 p0_5 p0_6 p0_7 p0_8).2.2.1) ((Pu.impl_copyProxy.v p0_0 p0_1 p0_2 p0_3 p0_4 p0_5 p0_6 p0_7 p0_8).2.2.2.1) ((Pu.impl_copyProxy.v p0_0 p0_1 p0_2 p0_3 p0_4 p0_5 p0_6 p0_7 p0_8).2.2.2.2.1) ((Pu.impl_copyProxy.v p0_0 p0_1 p0_2 p0_3 p0_4 p0_5 p0_6 p0_7 p0_8).2.2.2.2.2.1) ((Pu.impl_copyProxy.v p0_0 p0_1 p0_2 p0_3 p0_4 p0_5 p0_6 p0_7 p0_8).2.2.2.2.2.2.1) (Pu.slices_DeleteFunc_Client.v (Pu.impl_copyProxy.v p0_0 p0_1 p0_2 p0_3 p0_4 p0_5 p0_6 p0_7 p0_8).2.2.2.2.2.2.2.1 id1) ((Pu.impl_copyProxy.v p0_0 p0_1 p0_2 p0_3 p0_4 p0_5 p0_6 p0_7 p0_8).2.2.2.2.2.2.2.2)) else (none)) else (none)
theorem b_bind {R : Type} (kr : Int → Row → Row → Row → Row → Int → Row → Row → Int → Option R) (p0_0 : Int) (p0_1 : Row) (p0_2 : Row) (p0_3 : Row) (p0_4 : Row) (p0_5 : Int) (p0_6 : Row) (p0_7 : Row) (p0_8 : Int) (id1 : Int) : b kr p0_0 p0_1 p0_2 p0_3 p0_4 p0_5 p0_6 p0_7 p0_8 id1 = Option.bind (b (fun r0 r1 r2 r3 r4 r5 r6 r7 r8 => some (r0, r1, r2, r3, r4, r5, r6, r7, r8)) p0_0 p0_1 p0_2 p0_3 p0_4 p0_5 p0_6 p0_7 p0_8 id1) (fun p => kr p.1 p.2.1 p.2.2.1 p.2.2.2.1 p.2.2.2.2.1 p.2.2.2.2.2.1 p.2.2.2.2.2.2.1 p.2.2.2.2.2.2.2.1 p.2.2.2.2.2.2.2.2) := by
  unfold b; simp only [Lib.cond_bind, Lib.some_bind, Lib.none_bind]
def vo (p0_0 : Int) (p0_1 : Row) (p0_2 : Row) (p0_3 : Row) (p0_4 : Row) (p0_5 : Int) (p0_6 : Row) (p0_7 : Row) (p0_8 : Int) (id1 : Int) : Option (Int × Row × Row × Row × Row × Int × Row × Row × Int) := b (fun r0 r1 r2 r3 r4 r5 r6 r7 r8 => some (r0, r1, r2, r3, r4, r5, r6, r7, r8)) p0_0 p0_1 p0_2 p0_3 p0_4 p0_5 p0_6 p0_7 p0_8 id1
def c (p0_0 : Int) (p0_1 : Row) (p0_2 : Row) (p0_3 : Row) (p0_4 : Row) (p0_5 : Int) (p0_6 : Row) (p0_7 : Row) (p0_8 : Int) (id1 : Int) : Bool := Option.isSome (vo p0_0 p0_1 p0_2 p0_3 p0_4 p0_5 p0_6 p0_7 p0_8 id1)
def v (p0_0 : Int) (p0_1 : Row) (p0_2 : Row) (p0_3 : Row) (p0_4 : Row) (p0_5 : Int) (p0_6 : Row) (p0_7 : Row) (p0_8 : Int) (id1 : Int) : Int × Row × Row × Row × Row × Int × Row × Row × Int := Option.getD (vo p0_0 p0_1 p0_2 p0_3 p0_4 p0_5 p0_6 p0_7 p0_8 id1) (0, [], [], [], [], 0, [], [], 0)
theorem out (p0_0 : Int) (p0_1 : Row) (p0_2 : Row) (p0_3 : Row) (p0_4 : Row) (p0_5 : Int) (p0_6 : Row) (p0_7 : Row) (p0_8 : Int) (id1 : Int) {x : Int × Row × Row × Row × Row × Int × Row × Row × Int} (h : vo p0_0 p0_1 p0_2 p0_3 p0_4 p0_5 p0_6 p0_7 p0_8 id1 = some x) : c p0_0 p0_1 p0_2 p0_3 p0_4 p0_5 p0_6 p0_7 p0_8 id1 = true ∧ v p0_0 p0_1 p0_2 p0_3 p0_4 p0_5 p0_6 p0_7 p0_8 id1 = x := by
  unfold c v; rw [h]; exact ⟨rfl, rfl⟩
theorem b_eq {R : Type} (kr : Int → Row → Row → Row → Row → Int → Row → Row → Int → Option R) (p0_0 : Int) (p0_1 : Row) (p0_2 : Row) (p0_3 : Row) (p0_4 : Row) (p0_5 : Int) (p0_6 : Row) (p0_7 : Row) (p0_8 : Int) (id1 : Int) (hc : c p0_0 p0_1 p0_2 p0_3 p0_4 p0_5 p0_6 p0_7 p0_8 id1 = true) : b kr p0_0 p0_1 p0_2 p0_3 p0_4 p0_5 p0_6 p0_7 p0_8 id1 = kr ((v p0_0 p0_1 p0_2 p0_3 p0_4 p0_5 p0_6 p0_7 p0_8 id1).1) ((v p0_0 p0_1 p0_2 p0_3 p0_4 p0_5 p0_6 p0_7 p0_8 id1).2.1) ((v p0_0 p0_1 p0_2 p0_3 p0_4 p0_5 p0_6 p0_7 p0_8 id1).2.2.1) ((v p0_0 p0_1 p0_2 p0_3 p0_4 p0_5 p0_6 p0_7 p0_8 id1).2.2.2.1) ((v p0_0 p0_1 p0_2 p0_3 p0_4 p0_5 p0_6 p0_7 p0_8 id1).2.2.2.2.1) ((v p0_0 p0_1 p0_2 p0_3 p0_4 p0_5 p0_6 p0_7 p0_8 id1).2.2.2.2.2.1) ((v p0_0 p0_1 p0_2 p0_3 p0_4 p0_5 p0_6 p0_7 p0_8 id1).2.2.2.2.2.2.1) ((v p0_0 p0_1 p0_2 p0_3 p0_4 p0_5 p0_6 p0_7 p0_8 id1).2.2.2.2.2.2.2.1) ((v p0_0 p0_1 p0_2 p0_3 p0_4 p0_5 p0_6 p0_7 p0_8 id1).2.2.2.2.2.2.2.2) := by
  rw [b_bind]
  have e : vo p0_0 p0_1 p0_2 p0_3 p0_4 p0_5 p0_6 p0_7 p0_8 id1 = some (v p0_0 p0_1 p0_2 p0_3 p0_4 p0_5 p0_6 p0_7 p0_8 id1) := by
    unfold c at hc; unfold v
    cases h : vo p0_0 p0_1 p0_2 p0_3 p0_4 p0_5 p0_6 p0_7 p0_8 id1 with
    | none => rw [h] at hc; cases hc
    | some x => rfl
  unfold vo at e
  rw [e]; rfl
end Go.FG.Pu.impl_LeaveClient

namespace Go.FG.Pu.laws_eqEntry
def b {R : Type} (kr : Bool → Option R) (a0_0 : ByteArray) (a0_1 : Int) (a0_2 : Int) (a0_3 : ByteArray) (b1_0 : ByteArray) (b1_1 : Int) (b1_2 : Int) (b1_3 : ByteArray) : Option R := bif (!List.beq (ByteArray.toList a0_0) (ByteArray.toList b1_0)) then (kr false) else (bif (a0_1 != b1_1) then (kr false) else (bif (a0_2 != b1_2) then (kr false) else (bif (!List.beq (ByteArray.toList a0_3) (ByteArray.toList b1_3)) then (kr false) else (kr true))))
def v (a0_0 : ByteArray) (a0_1 : Int) (a0_2 : Int) (a0_3 : ByteArray) (b1_0 : ByteArray) (b1_1 : Int) (b1_2 : Int) (b1_3 : ByteArray) : Bool := bif (!List.beq (ByteArray.toList a0_0) (ByteArray.toList b1_0)) then ((false)) else (bif (a0_1 != b1_1) then ((false)) else (bif (a0_2 != b1_2) then ((false)) else (bif (!List.beq (ByteArray.toList a0_3) (ByteArray.toList b1_3)) then ((false)) else ((true)))))
theorem b_eq {R : Type} (kr : Bool → Option R) (a0_0 : ByteArray) (a0_1 : Int) (a0_2 : Int) (a0_3 : ByteArray) (b1_0 : ByteArray) (b1_1 : Int) (b1_2 : Int) (b1_3 : ByteArray) : b kr a0_0 a0_1 a0_2 a0_3 b1_0 b1_1 b1_2 b1_3 = kr (v a0_0 a0_1 a0_2 a0_3 b1_0 b1_1 b1_2 b1_3) := by
  first | rfl | (unfold b v; simp only [Bool.cond_eq_ite]; (repeat' split) <;> rfl)
end Go.FG.Pu.laws_eqEntry

namespace Go.FG.Pu.laws_eqEntryS
def r4 {R : Type} (N : Nat) (g : Row → Row → Bool → Int → Option R) (k0 : Row → Row → Bool → Int → Option R) (k1 : Row → Row → Bool → Int → Option R) (x0 : Row) (x1 : Row) (x2 : Bool) (x3 : Int) : Option R := bif (decide (x3 < (↑(List.length x0) : Int))) then (bif (decide (0 ≤ x3) && decide (x3 < (↑(List.length x0) : Int))) then (bif (decide (0 ≤ x3) && decide (x3 < (↑(List.length x1) : Int))) then (bif (!Pu.laws_eqEntry.v (cvS (cellAt x0 (Int.toNat x3) 0)) (cvI (cellAt x0 (Int.toNat x3) 1)) (cvI (cellAt x0 (Int.toNat x3) (1 + 1))) (cvS (cellAt x0 (Int.toNat x3) (1 + 1 + 1))) (cvS (cellAt x1 (Int.toNat x3) 0)) (cvI (cellAt x1 (Int.toNat x3) 1)) (cvI (cellAt x1 (Int.toNat x3) (1 + 1))) (cvS (cellAt x1 (Int.toNat x3) (1 + 1 + 1)))) then (k0 x0 x1 false x3) else (g x0 x1 x2 (w64 (x3 + 1)))) else (none)) else (none)) else (k1 x0 x1 x2 x3)
def l4 {R : Type} (N : Nat) (k0 : Row → Row → Bool → Int → Option R) (k1 : Row → Row → Bool → Int → Option R) : Nat → Row → Row → Bool → Int → Option R
  | 0 => (fun _ _ _ _ => none)
  | n + 1 => (fun x0 x1 x2 x3 => r4 N (l4 N k0 k1 n) k0 k1 x0 x1 x2 x3)
def b {R : Type} (N : Nat) (kr : Bool → Option R) (a0 : Row) (b1 : Row) : Option R := bif ((↑(List.length a0) : Int) != (↑(List.length b1) : Int)) then (kr false) else (l4 N (fun y4 y5 y6 y7 => kr y6) (fun y8 y9 y10 y11 => kr true) N a0 b1 false 0)
theorem q4_bind {R S : Type} (f : R → Option S) (N : Nat) (k0 : Row → Row → Bool → Int → Option R) (k1 : Row → Row → Bool → Int → Option R) : ∀ n : Nat, (∀ (x0 : Row) (x1 : Row) (x2 : Bool) (x3 : Int), Option.bind (l4 N k0 k1 n x0 x1 x2 x3) f = l4 N (fun y0 y1 y2 y3 => (Option.bind (k0 y0 y1 y2 y3) f)) (fun y0 y1 y2 y3 => (Option.bind (k1 y0 y1 y2 y3) f)) n x0 x1 x2 x3) := by
  intro n
  induction n with
  | zero => exact (fun _ _ _ _ => rfl)
  | succ n ih =>
    intro x0 x1 x2 x3
    simp only [l4, r4, Lib.cond_bind, Lib.some_bind, Lib.none_bind, ih]
theorem l4_bind {R S : Type} (f : R → Option S) (N : Nat) (k0 : Row → Row → Bool → Int → Option R) (k1 : Row → Row → Bool → Int → Option R) (n : Nat) (x0 : Row) (x1 : Row) (x2 : Bool) (x3 : Int) : Option.bind (l4 N k0 k1 n x0 x1 x2 x3) f = l4 N (fun y0 y1 y2 y3 => (Option.bind (k0 y0 y1 y2 y3) f)) (fun y0 y1 y2 y3 => (Option.bind (k1 y0 y1 y2 y3) f)) n x0 x1 x2 x3 := (q4_bind f N k0 k1 n) x0 x1 x2 x3
theorem b_bind {R : Type} (N : Nat) (kr : Bool → Option R) (a0 : Row) (b1 : Row) : b N kr a0 b1 = Option.bind (b N (fun r0 => some (r0)) a0 b1) (fun p => kr p) := by
  unfold b; simp only [Lib.cond_bind, Lib.some_bind, Lib.none_bind, l4_bind]
def vo (a0 : Row) (b1 : Row) : Option (Bool) := b Lib.big (fun r0 => some (r0)) a0 b1
def c (a0 : Row) (b1 : Row) : Bool := Option.isSome (vo a0 b1)
def v (a0 : Row) (b1 : Row) : Bool := Option.getD (vo a0 b1) (false)
theorem out (a0 : Row) (b1 : Row) {x : Bool} (h : vo a0 b1 = some x) : c a0 b1 = true ∧ v a0 b1 = x := by
  unfold c v; rw [h]; exact ⟨rfl, rfl⟩
theorem b_eq {R : Type} (kr : Bool → Option R) (a0 : Row) (b1 : Row) (hc : c a0 b1 = true) : ∃ N, b N kr a0 b1 = kr (v a0 b1) := by
  refine ⟨Lib.big, ?_⟩
  rw [b_bind]
  have e : vo a0 b1 = some (v a0 b1) := by
    unfold c at hc; unfold v
    cases h : vo a0 b1 with
    | none => rw [h] at hc; cases hc
    | some x => rfl
  unfold vo at e
  rw [e]; rfl
end Go.FG.Pu.laws_eqEntryS

namespace Go.FG.Pu.laws_eqStringS
def r4 {R : Type} (N : Nat) (g : Row → Row → Bool → Int → Option R) (k0 : Row → Row → Bool → Int → Option R) (k1 : Row → Row → Bool → Int → Option R) (x0 : Row) (x1 : Row) (x2 : Bool) (x3 : Int) : Option R := bif (decide (x3 < (↑(List.length x0) : Int))) then (bif (decide (0 ≤ x3) && decide (x3 < (↑(List.length x0) : Int))) then (bif (decide (0 ≤ x3) && decide (x3 < (↑(List.length x1) : Int))) then (bif (!List.beq (ByteArray.toList (cvS (cellAt x0 (Int.toNat x3) 0))) (ByteArray.toList (cvS (cellAt x1 (Int.toNat x3) 0)))) then (k0 x0 x1 false x3) else (g x0 x1 x2 (w64 (x3 + 1)))) else (none)) else (none)) else (k1 x0 x1 x2 x3)
def l4 {R : Type} (N : Nat) (k0 : Row → Row → Bool → Int → Option R) (k1 : Row → Row → Bool → Int → Option R) : Nat → Row → Row → Bool → Int → Option R
  | 0 => (fun _ _ _ _ => none)
  | n + 1 => (fun x0 x1 x2 x3 => r4 N (l4 N k0 k1 n) k0 k1 x0 x1 x2 x3)
def b {R : Type} (N : Nat) (kr : Bool → Option R) (a0 : Row) (b1 : Row) : Option R := bif ((↑(List.length a0) : Int) != (↑(List.length b1) : Int)) then (kr false) else (l4 N (fun y4 y5 y6 y7 => kr y6) (fun y8 y9 y10 y11 => kr true) N a0 b1 false 0)
theorem q4_bind {R S : Type} (f : R → Option S) (N : Nat) (k0 : Row → Row → Bool → Int → Option R) (k1 : Row → Row → Bool → Int → Option R) : ∀ n : Nat, (∀ (x0 : Row) (x1 : Row) (x2 : Bool) (x3 : Int), Option.bind (l4 N k0 k1 n x0 x1 x2 x3) f = l4 N (fun y0 y1 y2 y3 => (Option.bind (k0 y0 y1 y2 y3) f)) (fun y0 y1 y2 y3 => (Option.bind (k1 y0 y1 y2 y3) f)) n x0 x1 x2 x3) := by
  intro n
  induction n with
  | zero => exact (fun _ _ _ _ => rfl)
  | succ n ih =>
    intro x0 x1 x2 x3
    simp only [l4, r4, Lib.cond_bind, Lib.some_bind, Lib.none_bind, ih]
theorem l4_bind {R S : Type} (f : R → Option S) (N : Nat) (k0 : Row → Row → Bool → Int → Option R) (k1 : Row → Row → Bool → Int → Option R) (n : Nat) (x0 : Row) (x1 : Row) (x2 : Bool) (x3 : Int) : Option.bind (l4 N k0 k1 n x0 x1 x2 x3) f = l4 N (fun y0 y1 y2 y3 => (Option.bind (k0 y0 y1 y2 y3) f)) (fun y0 y1 y2 y3 => (Option.bind (k1 y0 y1 y2 y3) f)) n x0 x1 x2 x3 := (q4_bind f N k0 k1 n) x0 x1 x2 x3
theorem b_bind {R : Type} (N : Nat) (kr : Bool → Option R) (a0 : Row) (b1 : Row) : b N kr a0 b1 = Option.bind (b N (fun r0 => some (r0)) a0 b1) (fun p => kr p) := by
  unfold b; simp only [Lib.cond_bind, Lib.some_bind, Lib.none_bind, l4_bind]
def vo (a0 : Row) (b1 : Row) : Option (Bool) := b Lib.big (fun r0 => some (r0)) a0 b1
def c (a0 : Row) (b1 : Row) : Bool := Option.isSome (vo a0 b1)
def v (a0 : Row) (b1 : Row) : Bool := Option.getD (vo a0 b1) (false)
theorem out (a0 : Row) (b1 : Row) {x : Bool} (h : vo a0 b1 = some x) : c a0 b1 = true ∧ v a0 b1 = x := by
  unfold c v; rw [h]; exact ⟨rfl, rfl⟩
theorem b_eq {R : Type} (kr : Bool → Option R) (a0 : Row) (b1 : Row) (hc : c a0 b1 = true) : ∃ N, b N kr a0 b1 = kr (v a0 b1) := by
  refine ⟨Lib.big, ?_⟩
  rw [b_bind]
  have e : vo a0 b1 = some (v a0 b1) := by
    unfold c at hc; unfold v
    cases h : vo a0 b1 with
    | none => rw [h] at hc; cases hc
    | some x => rfl
  unfold vo at e
  rw [e]; rfl
end Go.FG.Pu.laws_eqStringS

namespace Go.FG.Pu.laws_eqIntS
def r4 {R : Type} (N : Nat) (g : Row → Row → Bool → Int → Option R) (k0 : Row → Row → Bool → Int → Option R) (k1 : Row → Row → Bool → Int → Option R) (x0 : Row) (x1 : Row) (x2 : Bool) (x3 : Int) : Option R := bif (decide (x3 < (↑(List.length x0) : Int))) then (bif (decide (0 ≤ x3) && decide (x3 < (↑(List.length x0) : Int))) then (bif (decide (0 ≤ x3) && decide (x3 < (↑(List.length x1) : Int))) then (bif (cvI (cellAt x0 (Int.toNat x3) 0) != cvI (cellAt x1 (Int.toNat x3) 0)) then (k0 x0 x1 false x3) else (g x0 x1 x2 (w64 (x3 + 1)))) else (none)) else (none)) else (k1 x0 x1 x2 x3)
def l4 {R : Type} (N : Nat) (k0 : Row → Row → Bool → Int → Option R) (k1 : Row → Row → Bool → Int → Option R) : Nat → Row → Row → Bool → Int → Option R
  | 0 => (fun _ _ _ _ => none)
  | n + 1 => (fun x0 x1 x2 x3 => r4 N (l4 N k0 k1 n) k0 k1 x0 x1 x2 x3)
def b {R : Type} (N : Nat) (kr : Bool → Option R) (a0 : Row) (b1 : Row) : Option R := bif ((↑(List.length a0) : Int) != (↑(List.length b1) : Int)) then (kr false) else (l4 N (fun y4 y5 y6 y7 => kr y6) (fun y8 y9 y10 y11 => kr true) N a0 b1 false 0)
def v (a0 : Row) (b1 : Row) : Bool := (a0.length == b1.length) && (List.range a0.length).all fun i => !(cvI (cellAt a0 i 0) != cvI (cellAt b1 i 0))
def fr (a b : Row) (i : Nat) : Bool := (List.range' i (a.length - i)).all fun i => !(cvI (cellAt a i 0) != cvI (cellAt b i 0))
theorem run {R : Type} (N : Nat) (kr : Bool → Option R) (a b : Row) (hl : a.length = b.length) (ha : FitR a) : ∀ n (i : Nat), i ≤ a.length → a.length - i < n → l4 N (fun _ _ y _ => kr y) (fun _ _ _ _ => kr true) n a b false i = kr (fr a b i) := by
  refine Lib.loop_gen (fun n (i : Nat) => l4 N (fun _ _ y _ => kr y) (fun _ _ _ _ => kr true) n a b false i) (fun i => a.length - i) (fun i => i ≤ a.length) (fun i => kr (fr a b i)) (fun n i hi => ?_)
  simp only [l4, r4, Lib.dlt, Lib.dle0, Lib.toN, Bool.true_and]
  by_cases h : i < a.length
  · have e : a.length - i = (a.length - (i + 1)) + 1 := by omega
    have hf : fr a b i = (!(cvI (cellAt a i 0) != cvI (cellAt b i 0)) && fr a b (i + 1)) := by
      unfold fr; rw [e, List.range'_succ, List.all_cons]
    have hb : i < b.length := by omega
    simp only [h, hb, decide_true, cond_true, Lib.w64_s h ha.1]
    cases hv : (cvI (cellAt a i 0) != cvI (cellAt b i 0)) with
    | false => exact .inr ⟨i + 1, h, by omega, by rw [hf, hv]; rfl, rfl⟩
    | true => left; rw [hf, hv]; rfl
  · left
    have : a.length - i = 0 := by omega
    simp only [h, decide_false, cond_false]
    unfold fr; rw [this]; rfl
theorem b_eq {R : Type} (kr : Bool → Option R) (a0 : Row) (b1 : Row) (f0 : FitR a0) (f1 : FitR b1) : ∃ N, b N kr a0 b1 = kr (v a0 b1) := by
  refine ⟨a0.length + 1, ?_⟩
  unfold b v
  by_cases hl : a0.length = b1.length
  · have e : ((a0.length : Int) != (b1.length : Int)) = false := by simp [hl]
    rw [e, cond_false]
    refine (run _ kr a0 b1 hl f0 (a0.length + 1) 0 (by omega) (by omega)).trans ?_
    unfold fr; rw [show (a0.length == b1.length) = true by simp [hl], Nat.sub_zero, ← List.range_eq_range']; rfl
  · have e : ((a0.length : Int) != (b1.length : Int)) = true := by simp; omega
    have e2 : (a0.length == b1.length) = false := by simp; omega
    rw [e, cond_true, e2]; rfl
theorem refl (a : Row) : v a a = true := by unfold v; simp
end Go.FG.Pu.laws_eqIntS

namespace Go.FG.Pu.laws_eqIntSS
def r4 {R : Type} (N : Nat) (g : Row → Row → Bool → Int → Option R) (k0 : Row → Row → Bool → Int → Option R) (k1 : Row → Row → Bool → Int → Option R) (x0 : Row) (x1 : Row) (x2 : Bool) (x3 : Int) : Option R := bif (decide (x3 < (↑(List.length x0) : Int))) then (bif (decide (0 ≤ x3) && decide (x3 < (↑(List.length x0) : Int))) then (bif (decide (0 ≤ x3) && decide (x3 < (↑(List.length x1) : Int))) then (bif (!Pu.laws_eqIntS.v (cvL (cellAt x0 (Int.toNat x3) 0)) (cvL (cellAt x1 (Int.toNat x3) 0))) then (k0 x0 x1 false x3) else (g x0 x1 x2 (w64 (x3 + 1)))) else (none)) else (none)) else (k1 x0 x1 x2 x3)
def l4 {R : Type} (N : Nat) (k0 : Row → Row → Bool → Int → Option R) (k1 : Row → Row → Bool → Int → Option R) : Nat → Row → Row → Bool → Int → Option R
  | 0 => (fun _ _ _ _ => none)
  | n + 1 => (fun x0 x1 x2 x3 => r4 N (l4 N k0 k1 n) k0 k1 x0 x1 x2 x3)
def b {R : Type} (N : Nat) (kr : Bool → Option R) (a0 : Row) (b1 : Row) : Option R := bif ((↑(List.length a0) : Int) != (↑(List.length b1) : Int)) then (kr false) else (l4 N (fun y4 y5 y6 y7 => kr y6) (fun y8 y9 y10 y11 => kr true) N a0 b1 false 0)
theorem q4_bind {R S : Type} (f : R → Option S) (N : Nat) (k0 : Row → Row → Bool → Int → Option R) (k1 : Row → Row → Bool → Int → Option R) : ∀ n : Nat, (∀ (x0 : Row) (x1 : Row) (x2 : Bool) (x3 : Int), Option.bind (l4 N k0 k1 n x0 x1 x2 x3) f = l4 N (fun y0 y1 y2 y3 => (Option.bind (k0 y0 y1 y2 y3) f)) (fun y0 y1 y2 y3 => (Option.bind (k1 y0 y1 y2 y3) f)) n x0 x1 x2 x3) := by
  intro n
  induction n with
  | zero => exact (fun _ _ _ _ => rfl)
  | succ n ih =>
    intro x0 x1 x2 x3
    simp only [l4, r4, Lib.cond_bind, Lib.some_bind, Lib.none_bind, ih]
theorem l4_bind {R S : Type} (f : R → Option S) (N : Nat) (k0 : Row → Row → Bool → Int → Option R) (k1 : Row → Row → Bool → Int → Option R) (n : Nat) (x0 : Row) (x1 : Row) (x2 : Bool) (x3 : Int) : Option.bind (l4 N k0 k1 n x0 x1 x2 x3) f = l4 N (fun y0 y1 y2 y3 => (Option.bind (k0 y0 y1 y2 y3) f)) (fun y0 y1 y2 y3 => (Option.bind (k1 y0 y1 y2 y3) f)) n x0 x1 x2 x3 := (q4_bind f N k0 k1 n) x0 x1 x2 x3
theorem b_bind {R : Type} (N : Nat) (kr : Bool → Option R) (a0 : Row) (b1 : Row) : b N kr a0 b1 = Option.bind (b N (fun r0 => some (r0)) a0 b1) (fun p => kr p) := by
  unfold b; simp only [Lib.cond_bind, Lib.some_bind, Lib.none_bind, l4_bind]
def vo (a0 : Row) (b1 : Row) : Option (Bool) := b Lib.big (fun r0 => some (r0)) a0 b1
def c (a0 : Row) (b1 : Row) : Bool := Option.isSome (vo a0 b1)
def v (a0 : Row) (b1 : Row) : Bool := Option.getD (vo a0 b1) (false)
theorem out (a0 : Row) (b1 : Row) {x : Bool} (h : vo a0 b1 = some x) : c a0 b1 = true ∧ v a0 b1 = x := by
  unfold c v; rw [h]; exact ⟨rfl, rfl⟩
theorem b_eq {R : Type} (kr : Bool → Option R) (a0 : Row) (b1 : Row) (hc : c a0 b1 = true) : ∃ N, b N kr a0 b1 = kr (v a0 b1) := by
  refine ⟨Lib.big, ?_⟩
  rw [b_bind]
  have e : vo a0 b1 = some (v a0 b1) := by
    unfold c at hc; unfold v
    cases h : vo a0 b1 with
    | none => rw [h] at hc; cases hc
    | some x => rfl
  unfold vo at e
  rw [e]; rfl
end Go.FG.Pu.laws_eqIntSS

namespace Go.FG.Pu.laws_eqSketch
def b {R : Type} (kr : Bool → Option R) (a0_0 : Row) (a0_1 : Int) (b1_0 : Row) (b1_1 : Int) : Option R := bif (Pu.laws_eqIntSS.c a0_0 b1_0) then (bif (!Pu.laws_eqIntSS.v a0_0 b1_0) then (kr false) else (bif (a0_1 != b1_1) then (kr false) else (kr true))) else (none)
theorem b_bind {R : Type} (kr : Bool → Option R) (a0_0 : Row) (a0_1 : Int) (b1_0 : Row) (b1_1 : Int) : b kr a0_0 a0_1 b1_0 b1_1 = Option.bind (b (fun r0 => some (r0)) a0_0 a0_1 b1_0 b1_1) (fun p => kr p) := by
  unfold b; simp only [Lib.cond_bind, Lib.some_bind, Lib.none_bind]
def vo (a0_0 : Row) (a0_1 : Int) (b1_0 : Row) (b1_1 : Int) : Option (Bool) := b (fun r0 => some (r0)) a0_0 a0_1 b1_0 b1_1
def c (a0_0 : Row) (a0_1 : Int) (b1_0 : Row) (b1_1 : Int) : Bool := Option.isSome (vo a0_0 a0_1 b1_0 b1_1)
def v (a0_0 : Row) (a0_1 : Int) (b1_0 : Row) (b1_1 : Int) : Bool := Option.getD (vo a0_0 a0_1 b1_0 b1_1) (false)
theorem out (a0_0 : Row) (a0_1 : Int) (b1_0 : Row) (b1_1 : Int) {x : Bool} (h : vo a0_0 a0_1 b1_0 b1_1 = some x) : c a0_0 a0_1 b1_0 b1_1 = true ∧ v a0_0 a0_1 b1_0 b1_1 = x := by
  unfold c v; rw [h]; exact ⟨rfl, rfl⟩
theorem b_eq {R : Type} (kr : Bool → Option R) (a0_0 : Row) (a0_1 : Int) (b1_0 : Row) (b1_1 : Int) (hc : c a0_0 a0_1 b1_0 b1_1 = true) : b kr a0_0 a0_1 b1_0 b1_1 = kr (v a0_0 a0_1 b1_0 b1_1) := by
  rw [b_bind]
  have e : vo a0_0 a0_1 b1_0 b1_1 = some (v a0_0 a0_1 b1_0 b1_1) := by
    unfold c at hc; unfold v
    cases h : vo a0_0 a0_1 b1_0 b1_1 with
    | none => rw [h] at hc; cases hc
    | some x => rfl
  unfold vo at e
  rw [e]; rfl
end Go.FG.Pu.laws_eqSketch

namespace Go.FG.Pu.laws_eqPolicy
def b {R : Type} (kr : Bool → Option R) (a0_0 : Row) (a0_1 : Row) (a0_2 : Row) (a0_3 : Int) (b1_0 : Row) (b1_1 : Row) (b1_2 : Row) (b1_3 : Int) : Option R := bif (Pu.laws_eqStringS.c a0_0 b1_0) then (bif (!Pu.laws_eqStringS.v a0_0 b1_0) then (kr false) else (bif (Pu.laws_eqStringS.c a0_1 b1_1) then (bif (!Pu.laws_eqStringS.v a0_1 b1_1) then (kr false) else (bif (Pu.laws_eqSketch.c a0_2 a0_3 b1_2 b1_3) then (bif (!Pu.laws_eqSketch.v a0_2 a0_3 b1_2 b1_3) then (kr false) else (kr true)) else (none))) else (none))) else (none)
theorem b_bind {R : Type} (kr : Bool → Option R) (a0_0 : Row) (a0_1 : Row) (a0_2 : Row) (a0_3 : Int) (b1_0 : Row) (b1_1 : Row) (b1_2 : Row) (b1_3 : Int) : b kr a0_0 a0_1 a0_2 a0_3 b1_0 b1_1 b1_2 b1_3 = Option.bind (b (fun r0 => some (r0)) a0_0 a0_1 a0_2 a0_3 b1_0 b1_1 b1_2 b1_3) (fun p => kr p) := by
  unfold b; simp only [Lib.cond_bind, Lib.some_bind, Lib.none_bind]
def vo (a0_0 : Row) (a0_1 : Row) (a0_2 : Row) (a0_3 : Int) (b1_0 : Row) (b1_1 : Row) (b1_2 : Row) (b1_3 : Int) : Option (Bool) := b (fun r0 => some (r0)) a0_0 a0_1 a0_2 a0_3 b1_0 b1_1 b1_2 b1_3
def c (a0_0 : Row) (a0_1 : Row) (a0_2 : Row) (a0_3 : Int) (b1_0 : Row) (b1_1 : Row) (b1_2 : Row) (b1_3 : Int) : Bool := Option.isSome (vo a0_0 a0_1 a0_2 a0_3 b1_0 b1_1 b1_2 b1_3)
def v (a0_0 : Row) (a0_1 : Row) (a0_2 : Row) (a0_3 : Int) (b1_0 : Row) (b1_1 : Row) (b1_2 : Row) (b1_3 : Int) : Bool := Option.getD (vo a0_0 a0_1 a0_2 a0_3 b1_0 b1_1 b1_2 b1_3) (false)
theorem out (a0_0 : Row) (a0_1 : Row) (a0_2 : Row) (a0_3 : Int) (b1_0 : Row) (b1_1 : Row) (b1_2 : Row) (b1_3 : Int) {x : Bool} (h : vo a0_0 a0_1 a0_2 a0_3 b1_0 b1_1 b1_2 b1_3 = some x) : c a0_0 a0_1 a0_2 a0_3 b1_0 b1_1 b1_2 b1_3 = true ∧ v a0_0 a0_1 a0_2 a0_3 b1_0 b1_1 b1_2 b1_3 = x := by
  unfold c v; rw [h]; exact ⟨rfl, rfl⟩
theorem b_eq {R : Type} (kr : Bool → Option R) (a0_0 : Row) (a0_1 : Row) (a0_2 : Row) (a0_3 : Int) (b1_0 : Row) (b1_1 : Row) (b1_2 : Row) (b1_3 : Int) (hc : c a0_0 a0_1 a0_2 a0_3 b1_0 b1_1 b1_2 b1_3 = true) : b kr a0_0 a0_1 a0_2 a0_3 b1_0 b1_1 b1_2 b1_3 = kr (v a0_0 a0_1 a0_2 a0_3 b1_0 b1_1 b1_2 b1_3) := by
  rw [b_bind]
  have e : vo a0_0 a0_1 a0_2 a0_3 b1_0 b1_1 b1_2 b1_3 = some (v a0_0 a0_1 a0_2 a0_3 b1_0 b1_1 b1_2 b1_3) := by
    unfold c at hc; unfold v
    cases h : vo a0_0 a0_1 a0_2 a0_3 b1_0 b1_1 b1_2 b1_3 with
    | none => rw [h] at hc; cases hc
    | some x => rfl
  unfold vo at e
  rw [e]; rfl
end Go.FG.Pu.laws_eqPolicy

namespace Go.FG.Pu.laws_eqFetch
def b {R : Type} (kr : Bool → Option R) (a0_0 : ByteArray) (a0_1 : ByteArray) (a0_2 : Int) (a0_3 : Int) (a0_4 : Int) (b1_0 : ByteArray) (b1_1 : ByteArray) (b1_2 : Int) (b1_3 : Int) (b1_4 : Int) : Option R := bif (!List.beq (ByteArray.toList a0_0) (ByteArray.toList b1_0)) then (kr false) else (bif (!List.beq (ByteArray.toList a0_1) (ByteArray.toList b1_1)) then (kr false) else (bif (a0_2 != b1_2) then (kr false) else (bif (a0_3 != b1_3) then (kr false) else (bif (a0_4 != b1_4) then (kr false) else (kr true)))))
def v (a0_0 : ByteArray) (a0_1 : ByteArray) (a0_2 : Int) (a0_3 : Int) (a0_4 : Int) (b1_0 : ByteArray) (b1_1 : ByteArray) (b1_2 : Int) (b1_3 : Int) (b1_4 : Int) : Bool := bif (!List.beq (ByteArray.toList a0_0) (ByteArray.toList b1_0)) then ((false)) else (bif (!List.beq (ByteArray.toList a0_1) (ByteArray.toList b1_1)) then ((false)) else (bif (a0_2 != b1_2) then ((false)) else (bif (a0_3 != b1_3) then ((false)) else (bif (a0_4 != b1_4) then ((false)) else ((true))))))
theorem b_eq {R : Type} (kr : Bool → Option R) (a0_0 : ByteArray) (a0_1 : ByteArray) (a0_2 : Int) (a0_3 : Int) (a0_4 : Int) (b1_0 : ByteArray) (b1_1 : ByteArray) (b1_2 : Int) (b1_3 : Int) (b1_4 : Int) : b kr a0_0 a0_1 a0_2 a0_3 a0_4 b1_0 b1_1 b1_2 b1_3 b1_4 = kr (v a0_0 a0_1 a0_2 a0_3 a0_4 b1_0 b1_1 b1_2 b1_3 b1_4) := by
  first | rfl | (unfold b v; simp only [Bool.cond_eq_ite]; (repeat' split) <;> rfl)
end Go.FG.Pu.laws_eqFetch

namespace Go.FG.Pu.laws_eqFetchS
def r4 {R : Type} (N : Nat) (g : Row → Row → Bool → Int → Option R) (k0 : Row → Row → Bool → Int → Option R) (k1 : Row → Row → Bool → Int → Option R) (x0 : Row) (x1 : Row) (x2 : Bool) (x3 : Int) : Option R := bif (decide (x3 < (↑(List.length x0) : Int))) then (bif (decide (0 ≤ x3) && decide (x3 < (↑(List.length x0) : Int))) then (bif (decide (0 ≤ x3) && decide (x3 < (↑(List.length x1) : Int))) then (bif (!Pu.laws_eqFetch.v (cvS (cellAt x0 (Int.toNat x3) 0)) (cvS (cellAt x0 (Int.toNat x3) 1)) (cvI (cellAt x0 (Int.toNat x3) (1 + 1))) (cvI (cellAt x0 (Int.toNat x3) (1 + 1 + 1))) (cvI (cellAt x0 (Int.toNat x3) (1 + 1 + 1 + 1))) (cvS (cellAt x1 (Int.toNat x3) 0)) (cvS (cellAt x1 (Int.toNat x3) 1)) (cvI (cellAt x1 (Int.toNat x3) (1 + 1))) (cvI (cellAt x1 (Int.toNat x3) (1 + 1 + 1))) (cvI (cellAt x1 (Int.toNat x3) (1 + 1 + 1 + 1)))) then (k0 x0 x1 false x3) else (g x0 x1 x2 (w64 (x3 + 1)))) else (none)) else (none)) else (k1 x0 x1 x2 x3)
def l4 {R : Type} (N : Nat) (k0 : Row → Row → Bool → Int → Option R) (k1 : Row → Row → Bool → Int → Option R) : Nat → Row → Row → Bool → Int → Option R
  | 0 => (fun _ _ _ _ => none)
  | n + 1 => (fun x0 x1 x2 x3 => r4 N (l4 N k0 k1 n) k0 k1 x0 x1 x2 x3)
def b {R : Type} (N : Nat) (kr : Bool → Option R) (a0 : Row) (b1 : Row) : Option R := bif ((↑(List.length a0) : Int) != (↑(List.length b1) : Int)) then (kr false) else (l4 N (fun y4 y5 y6 y7 => kr y6) (fun y8 y9 y10 y11 => kr true) N a0 b1 false 0)
theorem q4_bind {R S : Type} (f : R → Option S) (N : Nat) (k0 : Row → Row → Bool → Int → Option R) (k1 : Row → Row → Bool → Int → Option R) : ∀ n : Nat, (∀ (x0 : Row) (x1 : Row) (x2 : Bool) (x3 : Int), Option.bind (l4 N k0 k1 n x0 x1 x2 x3) f = l4 N (fun y0 y1 y2 y3 => (Option.bind (k0 y0 y1 y2 y3) f)) (fun y0 y1 y2 y3 => (Option.bind (k1 y0 y1 y2 y3) f)) n x0 x1 x2 x3) := by
  intro n
  induction n with
  | zero => exact (fun _ _ _ _ => rfl)
  | succ n ih =>
    intro x0 x1 x2 x3
    simp only [l4, r4, Lib.cond_bind, Lib.some_bind, Lib.none_bind, ih]
theorem l4_bind {R S : Type} (f : R → Option S) (N : Nat) (k0 : Row → Row → Bool → Int → Option R) (k1 : Row → Row → Bool → Int → Option R) (n : Nat) (x0 : Row) (x1 : Row) (x2 : Bool) (x3 : Int) : Option.bind (l4 N k0 k1 n x0 x1 x2 x3) f = l4 N (fun y0 y1 y2 y3 => (Option.bind (k0 y0 y1 y2 y3) f)) (fun y0 y1 y2 y3 => (Option.bind (k1 y0 y1 y2 y3) f)) n x0 x1 x2 x3 := (q4_bind f N k0 k1 n) x0 x1 x2 x3
theorem b_bind {R : Type} (N : Nat) (kr : Bool → Option R) (a0 : Row) (b1 : Row) : b N kr a0 b1 = Option.bind (b N (fun r0 => some (r0)) a0 b1) (fun p => kr p) := by
  unfold b; simp only [Lib.cond_bind, Lib.some_bind, Lib.none_bind, l4_bind]
def vo (a0 : Row) (b1 : Row) : Option (Bool) := b Lib.big (fun r0 => some (r0)) a0 b1
def c (a0 : Row) (b1 : Row) : Bool := Option.isSome (vo a0 b1)
def v (a0 : Row) (b1 : Row) : Bool := Option.getD (vo a0 b1) (false)
theorem out (a0 : Row) (b1 : Row) {x : Bool} (h : vo a0 b1 = some x) : c a0 b1 = true ∧ v a0 b1 = x := by
  unfold c v; rw [h]; exact ⟨rfl, rfl⟩
theorem b_eq {R : Type} (kr : Bool → Option R) (a0 : Row) (b1 : Row) (hc : c a0 b1 = true) : ∃ N, b N kr a0 b1 = kr (v a0 b1) := by
  refine ⟨Lib.big, ?_⟩
  rw [b_bind]
  have e : vo a0 b1 = some (v a0 b1) := by
    unfold c at hc; unfold v
    cases h : vo a0 b1 with
    | none => rw [h] at hc; cases hc
    | some x => rfl
  unfold vo at e
  rw [e]; rfl
end Go.FG.Pu.laws_eqFetchS

namespace Go.FG.Pu.laws_eqClient
def b {R : Type} (kr : Bool → Option R) (a0_0 : Int) (a0_1 : ByteArray) (a0_2 : Int) (a0_3 : Int) (a0_4 : Int) (a0_5 : ByteArray) (a0_6 : Int) (b1_0 : Int) (b1_1 : ByteArray) (b1_2 : Int) (b1_3 : Int) (b1_4 : Int) (b1_5 : ByteArray) (b1_6 : Int) : Option R := bif (a0_0 != b1_0) then (kr false) else (bif (!List.beq (ByteArray.toList a0_1) (ByteArray.toList b1_1)) then (kr false) else (bif (a0_2 != b1_2) then (kr false) else (bif (a0_3 != b1_3) then (kr false) else (bif (a0_4 != b1_4) then (kr false) else (bif (!List.beq (ByteArray.toList a0_5) (ByteArray.toList b1_5)) then (kr false) else (bif (a0_6 != b1_6) then (kr false) else (kr true)))))))
def v (a0_0 : Int) (a0_1 : ByteArray) (a0_2 : Int) (a0_3 : Int) (a0_4 : Int) (a0_5 : ByteArray) (a0_6 : Int) (b1_0 : Int) (b1_1 : ByteArray) (b1_2 : Int) (b1_3 : Int) (b1_4 : Int) (b1_5 : ByteArray) (b1_6 : Int) : Bool := bif (a0_0 != b1_0) then ((false)) else (bif (!List.beq (ByteArray.toList a0_1) (ByteArray.toList b1_1)) then ((false)) else (bif (a0_2 != b1_2) then ((false)) else (bif (a0_3 != b1_3) then ((false)) else (bif (a0_4 != b1_4) then ((false)) else (bif (!List.beq (ByteArray.toList a0_5) (ByteArray.toList b1_5)) then ((false)) else (bif (a0_6 != b1_6) then ((false)) else ((true))))))))
theorem b_eq {R : Type} (kr : Bool → Option R) (a0_0 : Int) (a0_1 : ByteArray) (a0_2 : Int) (a0_3 : Int) (a0_4 : Int) (a0_5 : ByteArray) (a0_6 : Int) (b1_0 : Int) (b1_1 : ByteArray) (b1_2 : Int) (b1_3 : Int) (b1_4 : Int) (b1_5 : ByteArray) (b1_6 : Int) : b kr a0_0 a0_1 a0_2 a0_3 a0_4 a0_5 a0_6 b1_0 b1_1 b1_2 b1_3 b1_4 b1_5 b1_6 = kr (v a0_0 a0_1 a0_2 a0_3 a0_4 a0_5 a0_6 b1_0 b1_1 b1_2 b1_3 b1_4 b1_5 b1_6) := by
  first | rfl | (unfold b v; simp only [Bool.cond_eq_ite]; (repeat' split) <;> rfl)
end Go.FG.Pu.laws_eqClient

namespace Go.FG.Pu.laws_eqClientS
def r4 {R : Type} (N : Nat) (g : Row → Row → Bool → Int → Option R) (k0 : Row → Row → Bool → Int → Option R) (k1 : Row → Row → Bool → Int → Option R) (x0 : Row) (x1 : Row) (x2 : Bool) (x3 : Int) : Option R := bif (decide (x3 < (↑(List.length x0) : Int))) then (bif (decide (0 ≤ x3) && decide (x3 < (↑(List.length x0) : Int))) then (bif (decide (0 ≤ x3) && decide (x3 < (↑(List.length x1) : Int))) then (bif (!Pu.laws_eqClient.v (cvI (cellAt x0 (Int.toNat x3) 0)) (cvS (cellAt x0 (Int.toNat x3) 1)) (cvI (cellAt x0 (Int.toNat x3) (1 + 1))) (cvI (cellAt x0 (Int.toNat x3) (1 + 1 + 1))) (cvI (cellAt x0 (Int.toNat x3) (1 + 1 + 1 + 1))) (cvS (cellAt x0 (Int.toNat x3) (1 + 1 + 1 + 1 + 1))) (cvI (cellAt x0 (Int.toNat x3) (1 + 1 + 1 + 1 + 1 + 1))) (cvI (cellAt x1 (Int.toNat x3) 0)) (cvS (cellAt x1 (Int.toNat x3) 1)) (cvI (cellAt x1 (Int.toNat x3) (1 + 1))) (cvI (cellAt x1 (Int.toNat x3) (1 + 1 + 1))) (cvI (cellAt x1 (Int.toNat x3) (1 + 1 + 1 + 1))) (cvS (cellAt x1 (Int.toNat x3) (1 + 1 + 1 + 1 + 1))) (cvI (cellAt x1 (Int.toNat x3) (1 + 1 + 1 + 1 + 1 + 1)))) then (k0 x0 x1 false x3) else (g x0 x1 x2 (w64 (x3 + 1)))) else (none)) else (none)) else (k1 x0 x1 x2 x3)
def l4 {R : Type} (N : Nat) (k0 : Row → Row → Bool → Int → Option R) (k1 : Row → Row → Bool → Int → Option R) : Nat → Row → Row → Bool → Int → Option R
  | 0 => (fun _ _ _ _ => none)
  | n + 1 => (fun x0 x1 x2 x3 => r4 N (l4 N k0 k1 n) k0 k1 x0 x1 x2 x3)
def b {R : Type} (N : Nat) (kr : Bool → Option R) (a0 : Row) (b1 : Row) : Option R := bif ((↑(List.length a0) : Int) != (↑(List.length b1) : Int)) then (kr false) else (l4 N (fun y4 y5 y6 y7 => kr y6) (fun y8 y9 y10 y11 => kr true) N a0 b1 false 0)
theorem q4_bind {R S : Type} (f : R → Option S) (N : Nat) (k0 : Row → Row → Bool → Int → Option R) (k1 : Row → Row → Bool → Int → Option R) : ∀ n : Nat, (∀ (x0 : Row) (x1 : Row) (x2 : Bool) (x3 : Int), Option.bind (l4 N k0 k1 n x0 x1 x2 x3) f = l4 N (fun y0 y1 y2 y3 => (Option.bind (k0 y0 y1 y2 y3) f)) (fun y0 y1 y2 y3 => (Option.bind (k1 y0 y1 y2 y3) f)) n x0 x1 x2 x3) := by
  intro n
  induction n with
  | zero => exact (fun _ _ _ _ => rfl)
  | succ n ih =>
    intro x0 x1 x2 x3
    simp only [l4, r4, Lib.cond_bind, Lib.some_bind, Lib.none_bind, ih]
theorem l4_bind {R S : Type} (f : R → Option S) (N : Nat) (k0 : Row → Row → Bool → Int → Option R) (k1 : Row → Row → Bool → Int → Option R) (n : Nat) (x0 : Row) (x1 : Row) (x2 : Bool) (x3 : Int) : Option.bind (l4 N k0 k1 n x0 x1 x2 x3) f = l4 N (fun y0 y1 y2 y3 => (Option.bind (k0 y0 y1 y2 y3) f)) (fun y0 y1 y2 y3 => (Option.bind (k1 y0 y1 y2 y3) f)) n x0 x1 x2 x3 := (q4_bind f N k0 k1 n) x0 x1 x2 x3
theorem b_bind {R : Type} (N : Nat) (kr : Bool → Option R) (a0 : Row) (b1 : Row) : b N kr a0 b1 = Option.bind (b N (fun r0 => some (r0)) a0 b1) (fun p => kr p) := by
  unfold b; simp only [Lib.cond_bind, Lib.some_bind, Lib.none_bind, l4_bind]
def vo (a0 : Row) (b1 : Row) : Option (Bool) := b Lib.big (fun r0 => some (r0)) a0 b1
def c (a0 : Row) (b1 : Row) : Bool := Option.isSome (vo a0 b1)
def v (a0 : Row) (b1 : Row) : Bool := Option.getD (vo a0 b1) (false)
theorem out (a0 : Row) (b1 : Row) {x : Bool} (h : vo a0 b1 = some x) : c a0 b1 = true ∧ v a0 b1 = x := by
  unfold c v; rw [h]; exact ⟨rfl, rfl⟩
theorem b_eq {R : Type} (kr : Bool → Option R) (a0 : Row) (b1 : Row) (hc : c a0 b1 = true) : ∃ N, b N kr a0 b1 = kr (v a0 b1) := by
  refine ⟨Lib.big, ?_⟩
  rw [b_bind]
  have e : vo a0 b1 = some (v a0 b1) := by
    unfold c at hc; unfold v
    cases h : vo a0 b1 with
    | none => rw [h] at hc; cases hc
    | some x => rfl
  unfold vo at e
  rw [e]; rfl
end Go.FG.Pu.laws_eqClientS

namespace Go.FG.Pu.laws_eqProxy
def b {R : Type} (kr : Bool → Option R) (a0_0 : Int) (a0_1 : Row) (a0_2 : Row) (a0_3 : Row) (a0_4 : Row) (a0_5 : Int) (a0_6 : Row) (a0_7 : Row) (a0_8 : Int) (b1_0 : Int) (b1_1 : Row) (b1_2 : Row) (b1_3 : Row) (b1_4 : Row) (b1_5 : Int) (b1_6 : Row) (b1_7 : Row) (b1_8 : Int) : Option R := bif (a0_0 != b1_0) then (kr false) else (bif (Pu.laws_eqEntryS.c a0_1 b1_1) then (bif (!Pu.laws_eqEntryS.v a0_1 b1_1) then (kr false) else (bif (Pu.laws_eqPolicy.c a0_2 a0_3 a0_4 a0_5 b1_2 b1_3 b1_4 b1_5) then (bif (!Pu.laws_eqPolicy.v a0_2 a0_3 a0_4 a0_5 b1_2 b1_3 b1_4 b1_5) then (kr false) else (bif (Pu.laws_eqFetchS.c a0_6 b1_6) then (bif (!Pu.laws_eqFetchS.v a0_6 b1_6) then (kr false) else (bif (Pu.laws_eqClientS.c a0_7 b1_7) then (bif (!Pu.laws_eqClientS.v a0_7 b1_7) then (kr false) else (bif (a0_8 != b1_8) then (kr false) else (kr true))) else (none))) else (none))) else (none))) else (none))
theorem b_bind {R : Type} (kr : Bool → Option R) (a0_0 : Int) (a0_1 : Row) (a0_2 : Row) (a0_3 : Row) (a0_4 : Row) (a0_5 : Int) (a0_6 : Row) (a0_7 : Row) (a0_8 : Int) (b1_0 : Int) (b1_1 : Row) (b1_2 : Row) (b1_3 : Row) (b1_4 : Row) (b1_5 : Int) (b1_6 : Row) (b1_7 : Row) (b1_8 : Int) : b kr a0_0 a0_1 a0_2 a0_3 a0_4 a0_5 a0_6 a0_7 a0_8 b1_0 b1_1 b1_2 b1_3 b1_4 b1_5 b1_6 b1_7 b1_8 = Option.bind (b (fun r0 => some (r0)) a0_0 a0_1 a0_2 a0_3 a0_4 a0_5 a0_6 a0_7 a0_8 b1_0 b1_1 b1_2 b1_3 b1_4 b1_5 b1_6 b1_7 b1_8) (fun p => kr p) := by
  unfold b; simp only [Lib.cond_bind, Lib.some_bind, Lib.none_bind]
def vo (a0_0 : Int) (a0_1 : Row) (a0_2 : Row) (a0_3 : Row) (a0_4 : Row) (a0_5 : Int) (a0_6 : Row) (a0_7 : Row) (a0_8 : Int) (b1_0 : Int) (b1_1 : Row) (b1_2 : Row) (b1_3 : Row) (b1_4 : Row) (b1_5 : Int) (b1_6 : Row) (b1_7 : Row) (b1_8 : Int) : Option (Bool) := b (fun r0 => some (r0)) a0_0 a0_1 a0_2 a0_3 a0_4 a0_5 a0_6 a0_7 a0_8 b1_0 b1_1 b1_2 b1_3 b1_4 b1_5 b1_6 b1_7 b1_8
def c (a0_0 : Int) (a0_1 : Row) (a0_2 : Row) (a0_3 : Row) (a0_4 : Row) (a0_5 : Int) (a0_6 : Row) (a0_7 : Row) (a0_8 : Int) (b1_0 : Int) (b1_1 : Row) (b1_2 : Row) (b1_3 : Row) (b1_4 : Row) (b1_5 : Int) (b1_6 : Row) (b1_7 : Row) (b1_8 : Int) : Bool := Option.isSome (vo a0_0 a0_1 a0_2 a0_3 a0_4 a0_5 a0_6 a0_7 a0_8 b1_0 b1_1 b1_2 b1_3 b1_4 b1_5 b1_6 b1_7 b1_8)
def v (a0_0 : Int) (a0_1 : Row) (a0_2 : Row) (a0_3 : Row) (a0_4 : Row) (a0_5 : Int) (a0_6 : Row) (a0_7 : Row) (a0_8 : Int) (b1_0 : Int) (b1_1 : Row) (b1_2 : Row) (b1_3 : Row) (b1_4 : Row) (b1_5 : Int) (b1_6 : Row) (b1_7 : Row) (b1_8 : Int) : Bool := Option.getD (vo a0_0 a0_1 a0_2 a0_3 a0_4 a0_5 a0_6 a0_7 a0_8 b1_0 b1_1 b1_2 b1_3 b1_4 b1_5 b1_6 b1_7 b1_8) (false)
theorem out (a0_0 : Int) (a0_1 : Row) (a0_2 : Row) (a0_3 : Row) (a0_4 : Row) (a0_5 : Int) (a0_6 : Row) (a0_7 : Row) (a0_8 : Int) (b1_0 : Int) (b1_1 : Row) (b1_2 : Row) (b1_3 : Row) (b1_4 : Row) (b1_5 : Int) (b1_6 : Row) (b1_7 : Row) (b1_8 : Int) {x : Bool} (h : vo a0_0 a0_1 a0_2 a0_3 a0_4 a0_5 a0_6 a0_7 a0_8 b1_0 b1_1 b1_2 b1_3 b1_4 b1_5 b1_6 b1_7 b1_8 = some x) : c a0_0 a0_1 a0_2 a0_3 a0_4 a0_5 a0_6 a0_7 a0_8 b1_0 b1_1 b1_2 b1_3 b1_4 b1_5 b1_6 b1_7 b1_8 = true ∧ v a0_0 a0_1 a0_2 a0_3 a0_4 a0_5 a0_6 a0_7 a0_8 b1_0 b1_1 b1_2 b1_3 b1_4 b1_5 b1_6 b1_7 b1_8 = x := by
  unfold c v; rw [h]; exact ⟨rfl, rfl⟩
theorem b_eq {R : Type} (kr : Bool → Option R) (a0_0 : Int) (a0_1 : Row) (a0_2 : Row) (a0_3 : Row) (a0_4 : Row) (a0_5 : Int) (a0_6 : Row) (a0_7 : Row) (a0_8 : Int) (b1_0 : Int) (b1_1 : Row) (b1_2 : Row) (b1_3 : Row) (b1_4 : Row) (b1_5 : Int) (b1_6 : Row) (b1_7 : Row) (b1_8 : Int) (hc : c a0_0 a0_1 a0_2 a0_3 a0_4 a0_5 a0_6 a0_7 a0_8 b1_0 b1_1 b1_2 b1_3 b1_4 b1_5 b1_6 b1_7 b1_8 = true) : b kr a0_0 a0_1 a0_2 a0_3 a0_4 a0_5 a0_6 a0_7 a0_8 b1_0 b1_1 b1_2 b1_3 b1_4 b1_5 b1_6 b1_7 b1_8 = kr (v a0_0 a0_1 a0_2 a0_3 a0_4 a0_5 a0_6 a0_7 a0_8 b1_0 b1_1 b1_2 b1_3 b1_4 b1_5 b1_6 b1_7 b1_8) := by
  rw [b_bind]
  have e : vo a0_0 a0_1 a0_2 a0_3 a0_4 a0_5 a0_6 a0_7 a0_8 b1_0 b1_1 b1_2 b1_3 b1_4 b1_5 b1_6 b1_7 b1_8 = some (v a0_0 a0_1 a0_2 a0_3 a0_4 a0_5 a0_6 a0_7 a0_8 b1_0 b1_1 b1_2 b1_3 b1_4 b1_5 b1_6 b1_7 b1_8) := by
    unfold c at hc; unfold v
    cases h : vo a0_0 a0_1 a0_2 a0_3 a0_4 a0_5 a0_6 a0_7 a0_8 b1_0 b1_1 b1_2 b1_3 b1_4 b1_5 b1_6 b1_7 b1_8 with
    | none => rw [h] at hc; cases hc
    | some x => rfl
  unfold vo at e
  rw [e]; rfl
end Go.FG.Pu.laws_eqProxy

namespace Go.FG.Pu.laws_markText
def r4 {R : Type} (N : Nat) (g : Int → ByteArray → Option R) (k0 : Int → ByteArray → Option R) (x0 : Int) (x1 : ByteArray) : Option R := bif (decide (x0 > 0)) then (bif (decide (ByteArray.size (bytesOf (List.set (zeros [Ck.i IntKind.u8] 1) 0 [CV.i IntKind.u8 (IntKind.wrap IntKind.u8 (w64 (48 + Int.tmod x0 10)))])) + ByteArray.size x1 ≤ 4611686018427387904)) then (g (w64 (Int.tdiv x0 10)) (bytesOf (List.set (zeros [Ck.i IntKind.u8] 1) 0 [CV.i IntKind.u8 (IntKind.wrap IntKind.u8 (w64 (48 + Int.tmod x0 10)))]) ++ x1)) else (none)) else (k0 x0 x1)
def l4 {R : Type} (N : Nat) (k0 : Int → ByteArray → Option R) : Nat → Int → ByteArray → Option R
  | 0 => (fun _ _ => none)
  | n + 1 => (fun x0 x1 => r4 N (l4 N k0 n) k0 x0 x1)
def b {R : Type} (N : Nat) (kr : ByteArray → Option R) (k0 : Int) : Option R := bif (decide (k0 ≤ 0)) then (kr ({ data := #[UInt8.ofNat 109, UInt8.ofNat 48] })) else (l4 N (fun y2 y3 => bif (decide (ByteArray.size { data := #[UInt8.ofNat 109] } + ByteArray.size y3 ≤ 4611686018427387904)) then (kr ({ data := #[UInt8.ofNat 109] } ++ y3)) else (none)) N k0 ({ data := #[] }))
theorem q4_bind {R S : Type} (f : R → Option S) (N : Nat) (k0 : Int → ByteArray → Option R) : ∀ n : Nat, (∀ (x0 : Int) (x1 : ByteArray), Option.bind (l4 N k0 n x0 x1) f = l4 N (fun y0 y1 => (Option.bind (k0 y0 y1) f)) n x0 x1) := by
  intro n
  induction n with
  | zero => exact (fun _ _ => rfl)
  | succ n ih =>
    intro x0 x1
    simp only [l4, r4, Lib.cond_bind, Lib.some_bind, Lib.none_bind, ih]
theorem l4_bind {R S : Type} (f : R → Option S) (N : Nat) (k0 : Int → ByteArray → Option R) (n : Nat) (x0 : Int) (x1 : ByteArray) : Option.bind (l4 N k0 n x0 x1) f = l4 N (fun y0 y1 => (Option.bind (k0 y0 y1) f)) n x0 x1 := (q4_bind f N k0 n) x0 x1
theorem b_bind {R : Type} (N : Nat) (kr : ByteArray → Option R) (k0 : Int) : b N kr k0 = Option.bind (b N (fun r0 => some (r0)) k0) (fun p => kr p) := by
  unfold b; simp only [Lib.cond_bind, Lib.some_bind, Lib.none_bind, l4_bind]
def vo (k0 : Int) : Option (ByteArray) := b Lib.big (fun r0 => some (r0)) k0
def c (k0 : Int) : Bool := Option.isSome (vo k0)
def v (k0 : Int) : ByteArray := Option.getD (vo k0) (⟨#[]⟩)
theorem out (k0 : Int) {x : ByteArray} (h : vo k0 = some x) : c k0 = true ∧ v k0 = x := by
  unfold c v; rw [h]; exact ⟨rfl, rfl⟩
theorem b_eq {R : Type} (kr : ByteArray → Option R) (k0 : Int) (hc : c k0 = true) : ∃ N, b N kr k0 = kr (v k0) := by
  refine ⟨Lib.big, ?_⟩
  rw [b_bind]
  have e : vo k0 = some (v k0) := by
    unfold c at hc; unfold v
    cases h : vo k0 with
    | none => rw [h] at hc; cases hc
    | some x => rfl
  unfold vo at e
  rw [e]; rfl
end Go.FG.Pu.laws_markText

namespace Go.FG.Pu.laws_markEntryS
def r2 {R : Type} (N : Nat) (g : Int → Int → Row → Option R) (k0 : Int → Int → Row → Option R) (x0 : Int) (x1 : Int) (x2 : Row) : Option R := bif (decide (x1 < (↑(List.length x2) : Int))) then (bif (Pu.laws_markText.c x0) then (bif (decide (0 ≤ x1) && decide (x1 < (↑(List.length x2) : Int))) then (bif (decide (0 ≤ x1) && decide (x1 < (↑(List.length (setC x2 (Int.toNat x1) 0 [CV.s (Pu.laws_markText.v x0)])) : Int))) then (bif (decide (0 ≤ x1) && decide (x1 < (↑(List.length (setC (setC x2 (Int.toNat x1) 0 [CV.s (Pu.laws_markText.v x0)]) (Int.toNat x1) 1 [CV.i IntKind.i64 (w64 (x0 + 1))])) : Int))) then (bif (Pu.laws_markText.c (w64 (w64 (w64 (x0 + 1) + 1) + 1))) then (bif (decide (0 ≤ x1) && decide (x1 < (↑(List.length (setC (setC (setC x2 (Int.toNat x1) 0 [CV.s (Pu.laws_markText.v x0)]) (Int.toNat x1) 1 [CV.i IntKind.i64 (w64 (x0 + 1))]) (Int.toNat x1) 2 [CV.i IntKind.i64 (w64 (w64 (x0 + 1) + 1))])) : Int))) then (g (w64 (w64 (w64 (w64 (x0 + 1) + 1) + 1) + 1)) (w64 (x1 + 1)) (setC (setC (setC (setC x2 (Int.toNat x1) 0 [CV.s (Pu.laws_markText.v x0)]) (Int.toNat x1) 1 [CV.i IntKind.i64 (w64 (x0 + 1))]) (Int.toNat x1) 2 [CV.i IntKind.i64 (w64 (w64 (x0 + 1) + 1))]) (Int.toNat x1) 3 [CV.s (Pu.laws_markText.v (w64 (w64 (w64 (x0 + 1) + 1) + 1)))])) else (none)) else (none)) else (none)) else (none)) else (none)) else (none)) else (k0 x0 x1 x2)
def l2 {R : Type} (N : Nat) (k0 : Int → Int → Row → Option R) : Nat → Int → Int → Row → Option R
  | 0 => (fun _ _ _ => none)
  | n + 1 => (fun x0 x1 x2 => r2 N (l2 N k0 n) k0 x0 x1 x2)
def b {R : Type} (N : Nat) (kr : Int → Row → Option R) (a0 : Row) (k1 : Int) : Option R := l2 N (fun y3 y4 y5 => kr y3 y5) N k1 0 a0
theorem q2_bind {R S : Type} (f : R → Option S) (N : Nat) (k0 : Int → Int → Row → Option R) : ∀ n : Nat, (∀ (x0 : Int) (x1 : Int) (x2 : Row), Option.bind (l2 N k0 n x0 x1 x2) f = l2 N (fun y0 y1 y2 => (Option.bind (k0 y0 y1 y2) f)) n x0 x1 x2) := by
  intro n
  induction n with
  | zero => exact (fun _ _ _ => rfl)
  | succ n ih =>
    intro x0 x1 x2
    simp only [l2, r2, Lib.cond_bind, Lib.some_bind, Lib.none_bind, ih]
theorem l2_bind {R S : Type} (f : R → Option S) (N : Nat) (k0 : Int → Int → Row → Option R) (n : Nat) (x0 : Int) (x1 : Int) (x2 : Row) : Option.bind (l2 N k0 n x0 x1 x2) f = l2 N (fun y0 y1 y2 => (Option.bind (k0 y0 y1 y2) f)) n x0 x1 x2 := (q2_bind f N k0 n) x0 x1 x2
theorem b_bind {R : Type} (N : Nat) (kr : Int → Row → Option R) (a0 : Row) (k1 : Int) : b N kr a0 k1 = Option.bind (b N (fun r0 r1 => some (r0, r1)) a0 k1) (fun p => kr p.1 p.2) := by
  unfold b; simp only [Lib.cond_bind, Lib.some_bind, Lib.none_bind, l2_bind]
def vo (a0 : Row) (k1 : Int) : Option (Int × Row) := b Lib.big (fun r0 r1 => some (r0, r1)) a0 k1
def c (a0 : Row) (k1 : Int) : Bool := Option.isSome (vo a0 k1)
def v (a0 : Row) (k1 : Int) : Int × Row := Option.getD (vo a0 k1) (0, [])
theorem out (a0 : Row) (k1 : Int) {x : Int × Row} (h : vo a0 k1 = some x) : c a0 k1 = true ∧ v a0 k1 = x := by
  unfold c v; rw [h]; exact ⟨rfl, rfl⟩
theorem b_eq {R : Type} (kr : Int → Row → Option R) (a0 : Row) (k1 : Int) (hc : c a0 k1 = true) : ∃ N, b N kr a0 k1 = kr ((v a0 k1).1) ((v a0 k1).2) := by
  refine ⟨Lib.big, ?_⟩
  rw [b_bind]
  have e : vo a0 k1 = some (v a0 k1) := by
    unfold c at hc; unfold v
    cases h : vo a0 k1 with
    | none => rw [h] at hc; cases hc
    | some x => rfl
  unfold vo at e
  rw [e]; rfl
end Go.FG.Pu.laws_markEntryS

namespace Go.FG.Pu.laws_markStringS
def r2 {R : Type} (N : Nat) (g : Int → Int → Row → Option R) (k0 : Int → Int → Row → Option R) (x0 : Int) (x1 : Int) (x2 : Row) : Option R := bif (decide (x1 < (↑(List.length x2) : Int))) then (bif (Pu.laws_markText.c x0) then (bif (decide (0 ≤ x1) && decide (x1 < (↑(List.length x2) : Int))) then (g (w64 (x0 + 1)) (w64 (x1 + 1)) (setC x2 (Int.toNat x1) 0 [CV.s (Pu.laws_markText.v x0)])) else (none)) else (none)) else (k0 x0 x1 x2)
def l2 {R : Type} (N : Nat) (k0 : Int → Int → Row → Option R) : Nat → Int → Int → Row → Option R
  | 0 => (fun _ _ _ => none)
  | n + 1 => (fun x0 x1 x2 => r2 N (l2 N k0 n) k0 x0 x1 x2)
def b {R : Type} (N : Nat) (kr : Int → Row → Option R) (a0 : Row) (k1 : Int) : Option R := l2 N (fun y3 y4 y5 => kr y3 y5) N k1 0 a0
theorem q2_bind {R S : Type} (f : R → Option S) (N : Nat) (k0 : Int → Int → Row → Option R) : ∀ n : Nat, (∀ (x0 : Int) (x1 : Int) (x2 : Row), Option.bind (l2 N k0 n x0 x1 x2) f = l2 N (fun y0 y1 y2 => (Option.bind (k0 y0 y1 y2) f)) n x0 x1 x2) := by
  intro n
  induction n with
  | zero => exact (fun _ _ _ => rfl)
  | succ n ih =>
    intro x0 x1 x2
    simp only [l2, r2, Lib.cond_bind, Lib.some_bind, Lib.none_bind, ih]
theorem l2_bind {R S : Type} (f : R → Option S) (N : Nat) (k0 : Int → Int → Row → Option R) (n : Nat) (x0 : Int) (x1 : Int) (x2 : Row) : Option.bind (l2 N k0 n x0 x1 x2) f = l2 N (fun y0 y1 y2 => (Option.bind (k0 y0 y1 y2) f)) n x0 x1 x2 := (q2_bind f N k0 n) x0 x1 x2
theorem b_bind {R : Type} (N : Nat) (kr : Int → Row → Option R) (a0 : Row) (k1 : Int) : b N kr a0 k1 = Option.bind (b N (fun r0 r1 => some (r0, r1)) a0 k1) (fun p => kr p.1 p.2) := by
  unfold b; simp only [Lib.cond_bind, Lib.some_bind, Lib.none_bind, l2_bind]
def vo (a0 : Row) (k1 : Int) : Option (Int × Row) := b Lib.big (fun r0 r1 => some (r0, r1)) a0 k1
def c (a0 : Row) (k1 : Int) : Bool := Option.isSome (vo a0 k1)
def v (a0 : Row) (k1 : Int) : Int × Row := Option.getD (vo a0 k1) (0, [])
theorem out (a0 : Row) (k1 : Int) {x : Int × Row} (h : vo a0 k1 = some x) : c a0 k1 = true ∧ v a0 k1 = x := by
  unfold c v; rw [h]; exact ⟨rfl, rfl⟩
theorem b_eq {R : Type} (kr : Int → Row → Option R) (a0 : Row) (k1 : Int) (hc : c a0 k1 = true) : ∃ N, b N kr a0 k1 = kr ((v a0 k1).1) ((v a0 k1).2) := by
  refine ⟨Lib.big, ?_⟩
  rw [b_bind]
  have e : vo a0 k1 = some (v a0 k1) := by
    unfold c at hc; unfold v
    cases h : vo a0 k1 with
    | none => rw [h] at hc; cases hc
    | some x => rfl
  unfold vo at e
  rw [e]; rfl
end Go.FG.Pu.laws_markStringS

namespace Go.FG.Pu.laws_markIntS
def r2 {R : Type} (N : Nat) (g : Int → Int → Row → Option R) (k0 : Int → Int → Row → Option R) (x0 : Int) (x1 : Int) (x2 : Row) : Option R := bif (decide (x1 < (↑(List.length x2) : Int))) then (bif (decide (0 ≤ x1) && decide (x1 < (↑(List.length x2) : Int))) then (g (w64 (x0 + 1)) (w64 (x1 + 1)) (setC x2 (Int.toNat x1) 0 [CV.i IntKind.i64 x0])) else (none)) else (k0 x0 x1 x2)
def l2 {R : Type} (N : Nat) (k0 : Int → Int → Row → Option R) : Nat → Int → Int → Row → Option R
  | 0 => (fun _ _ _ => none)
  | n + 1 => (fun x0 x1 x2 => r2 N (l2 N k0 n) k0 x0 x1 x2)
def b {R : Type} (N : Nat) (kr : Int → Row → Option R) (a0 : Row) (k1 : Int) : Option R := l2 N (fun y3 y4 y5 => kr y3 y5) N k1 0 a0
theorem q2_bind {R S : Type} (f : R → Option S) (N : Nat) (k0 : Int → Int → Row → Option R) : ∀ n : Nat, (∀ (x0 : Int) (x1 : Int) (x2 : Row), Option.bind (l2 N k0 n x0 x1 x2) f = l2 N (fun y0 y1 y2 => (Option.bind (k0 y0 y1 y2) f)) n x0 x1 x2) := by
  intro n
  induction n with
  | zero => exact (fun _ _ _ => rfl)
  | succ n ih =>
    intro x0 x1 x2
    simp only [l2, r2, Lib.cond_bind, Lib.some_bind, Lib.none_bind, ih]
theorem l2_bind {R S : Type} (f : R → Option S) (N : Nat) (k0 : Int → Int → Row → Option R) (n : Nat) (x0 : Int) (x1 : Int) (x2 : Row) : Option.bind (l2 N k0 n x0 x1 x2) f = l2 N (fun y0 y1 y2 => (Option.bind (k0 y0 y1 y2) f)) n x0 x1 x2 := (q2_bind f N k0 n) x0 x1 x2
theorem b_bind {R : Type} (N : Nat) (kr : Int → Row → Option R) (a0 : Row) (k1 : Int) : b N kr a0 k1 = Option.bind (b N (fun r0 r1 => some (r0, r1)) a0 k1) (fun p => kr p.1 p.2) := by
  unfold b; simp only [Lib.cond_bind, Lib.some_bind, Lib.none_bind, l2_bind]
def vo (a0 : Row) (k1 : Int) : Option (Int × Row) := b Lib.big (fun r0 r1 => some (r0, r1)) a0 k1
def c (a0 : Row) (k1 : Int) : Bool := Option.isSome (vo a0 k1)
def v (a0 : Row) (k1 : Int) : Int × Row := Option.getD (vo a0 k1) (0, [])
theorem out (a0 : Row) (k1 : Int) {x : Int × Row} (h : vo a0 k1 = some x) : c a0 k1 = true ∧ v a0 k1 = x := by
  unfold c v; rw [h]; exact ⟨rfl, rfl⟩
theorem b_eq {R : Type} (kr : Int → Row → Option R) (a0 : Row) (k1 : Int) (hc : c a0 k1 = true) : ∃ N, b N kr a0 k1 = kr ((v a0 k1).1) ((v a0 k1).2) := by
  refine ⟨Lib.big, ?_⟩
  rw [b_bind]
  have e : vo a0 k1 = some (v a0 k1) := by
    unfold c at hc; unfold v
    cases h : vo a0 k1 with
    | none => rw [h] at hc; cases hc
    | some x => rfl
  unfold vo at e
  rw [e]; rfl
end Go.FG.Pu.laws_markIntS

namespace Go.FG.Pu.laws_markIntSS
def r2 {R : Type} (N : Nat) (g : Int → Int → Row → Option R) (k0 : Int → Int → Row → Option R) (x0 : Int) (x1 : Int) (x2 : Row) : Option R := bif (decide (x1 < (↑(List.length x2) : Int))) then (bif (decide (0 ≤ x1) && decide (x1 < (↑(List.length x2) : Int))) then (bif (Pu.laws_markIntS.c (cvL (cellAt x2 (Int.toNat x1) 0)) x0) then (g ((Pu.laws_markIntS.v (cvL (cellAt x2 (Int.toNat x1) 0)) x0).1) (w64 (x1 + 1)) (setC x2 (Int.toNat x1) 0 [CV.l 3 (Pu.laws_markIntS.v (cvL (cellAt x2 (Int.toNat x1) 0)) x0).2])) else (none)) else (none)) else (k0 x0 x1 x2)
def l2 {R : Type} (N : Nat) (k0 : Int → Int → Row → Option R) : Nat → Int → Int → Row → Option R
  | 0 => (fun _ _ _ => none)
  | n + 1 => (fun x0 x1 x2 => r2 N (l2 N k0 n) k0 x0 x1 x2)
def b {R : Type} (N : Nat) (kr : Int → Row → Option R) (a0 : Row) (k1 : Int) : Option R := l2 N (fun y3 y4 y5 => kr y3 y5) N k1 0 a0
theorem q2_bind {R S : Type} (f : R → Option S) (N : Nat) (k0 : Int → Int → Row → Option R) : ∀ n : Nat, (∀ (x0 : Int) (x1 : Int) (x2 : Row), Option.bind (l2 N k0 n x0 x1 x2) f = l2 N (fun y0 y1 y2 => (Option.bind (k0 y0 y1 y2) f)) n x0 x1 x2) := by
  intro n
  induction n with
  | zero => exact (fun _ _ _ => rfl)
  | succ n ih =>
    intro x0 x1 x2
    simp only [l2, r2, Lib.cond_bind, Lib.some_bind, Lib.none_bind, ih]
theorem l2_bind {R S : Type} (f : R → Option S) (N : Nat) (k0 : Int → Int → Row → Option R) (n : Nat) (x0 : Int) (x1 : Int) (x2 : Row) : Option.bind (l2 N k0 n x0 x1 x2) f = l2 N (fun y0 y1 y2 => (Option.bind (k0 y0 y1 y2) f)) n x0 x1 x2 := (q2_bind f N k0 n) x0 x1 x2
theorem b_bind {R : Type} (N : Nat) (kr : Int → Row → Option R) (a0 : Row) (k1 : Int) : b N kr a0 k1 = Option.bind (b N (fun r0 r1 => some (r0, r1)) a0 k1) (fun p => kr p.1 p.2) := by
  unfold b; simp only [Lib.cond_bind, Lib.some_bind, Lib.none_bind, l2_bind]
def vo (a0 : Row) (k1 : Int) : Option (Int × Row) := b Lib.big (fun r0 r1 => some (r0, r1)) a0 k1
def c (a0 : Row) (k1 : Int) : Bool := Option.isSome (vo a0 k1)
def v (a0 : Row) (k1 : Int) : Int × Row := Option.getD (vo a0 k1) (0, [])
theorem out (a0 : Row) (k1 : Int) {x : Int × Row} (h : vo a0 k1 = some x) : c a0 k1 = true ∧ v a0 k1 = x := by
  unfold c v; rw [h]; exact ⟨rfl, rfl⟩
theorem b_eq {R : Type} (kr : Int → Row → Option R) (a0 : Row) (k1 : Int) (hc : c a0 k1 = true) : ∃ N, b N kr a0 k1 = kr ((v a0 k1).1) ((v a0 k1).2) := by
  refine ⟨Lib.big, ?_⟩
  rw [b_bind]
  have e : vo a0 k1 = some (v a0 k1) := by
    unfold c at hc; unfold v
    cases h : vo a0 k1 with
    | none => rw [h] at hc; cases hc
    | some x => rfl
  unfold vo at e
  rw [e]; rfl
end Go.FG.Pu.laws_markIntSS

namespace Go.FG.Pu.laws_markSketch
def b {R : Type} (kr : Int → Row → Option R) (a0_0 : Row) (a0_1 : Int) (k1 : Int) : Option R := bif (Pu.laws_markIntSS.c a0_0 k1) then (kr ((Pu.laws_markIntSS.v a0_0 k1).1) ((Pu.laws_markIntSS.v a0_0 k1).2)) else (none)
theorem b_bind {R : Type} (kr : Int → Row → Option R) (a0_0 : Row) (a0_1 : Int) (k1 : Int) : b kr a0_0 a0_1 k1 = Option.bind (b (fun r0 r1 => some (r0, r1)) a0_0 a0_1 k1) (fun p => kr p.1 p.2) := by
  unfold b; simp only [Lib.cond_bind, Lib.some_bind, Lib.none_bind]
def vo (a0_0 : Row) (a0_1 : Int) (k1 : Int) : Option (Int × Row) := b (fun r0 r1 => some (r0, r1)) a0_0 a0_1 k1
def c (a0_0 : Row) (a0_1 : Int) (k1 : Int) : Bool := Option.isSome (vo a0_0 a0_1 k1)
def v (a0_0 : Row) (a0_1 : Int) (k1 : Int) : Int × Row := Option.getD (vo a0_0 a0_1 k1) (0, [])
theorem out (a0_0 : Row) (a0_1 : Int) (k1 : Int) {x : Int × Row} (h : vo a0_0 a0_1 k1 = some x) : c a0_0 a0_1 k1 = true ∧ v a0_0 a0_1 k1 = x := by
  unfold c v; rw [h]; exact ⟨rfl, rfl⟩
theorem b_eq {R : Type} (kr : Int → Row → Option R) (a0_0 : Row) (a0_1 : Int) (k1 : Int) (hc : c a0_0 a0_1 k1 = true) : b kr a0_0 a0_1 k1 = kr ((v a0_0 a0_1 k1).1) ((v a0_0 a0_1 k1).2) := by
  rw [b_bind]
  have e : vo a0_0 a0_1 k1 = some (v a0_0 a0_1 k1) := by
    unfold c at hc; unfold v
    cases h : vo a0_0 a0_1 k1 with
    | none => rw [h] at hc; cases hc
    | some x => rfl
  unfold vo at e
  rw [e]; rfl
end Go.FG.Pu.laws_markSketch

namespace Go.FG.Pu.laws_markPolicy
def b {R : Type} (kr : Int → Row → Row → Row → Option R) (a0_0 : Row) (a0_1 : Row) (a0_2 : Row) (a0_3 : Int) (k1 : Int) : Option R := bif (Pu.laws_markStringS.c a0_0 k1) then (bif (Pu.laws_markStringS.c a0_1 (Pu.laws_markStringS.v a0_0 k1).1) then (bif (Pu.laws_markSketch.c a0_2 a0_3 (Pu.laws_markStringS.v a0_1 (Pu.laws_markStringS.v a0_0 k1).1).1) then (kr ((Pu.laws_markSketch.v a0_2 a0_3 (Pu.laws_markStringS.v a0_1 (Pu.laws_markStringS.v a0_0 k1).1).1).1) ((Pu.laws_markStringS.v a0_0 k1).2) ((Pu.laws_markStringS.v a0_1 (Pu.laws_markStringS.v a0_0 k1).1).2) ((Pu.laws_markSketch.v a0_2 a0_3 (Pu.laws_markStringS.v a0_1 (Pu.laws_markStringS.v a0_0 k1).1).1).2)) else (none)) else (none)) else (none)
theorem b_bind {R : Type} (kr : Int → Row → Row → Row → Option R) (a0_0 : Row) (a0_1 : Row) (a0_2 : Row) (a0_3 : Int) (k1 : Int) : b kr a0_0 a0_1 a0_2 a0_3 k1 = Option.bind (b (fun r0 r1 r2 r3 => some (r0, r1, r2, r3)) a0_0 a0_1 a0_2 a0_3 k1) (fun p => kr p.1 p.2.1 p.2.2.1 p.2.2.2) := by
  unfold b; simp only [Lib.cond_bind, Lib.some_bind, Lib.none_bind]
def vo (a0_0 : Row) (a0_1 : Row) (a0_2 : Row) (a0_3 : Int) (k1 : Int) : Option (Int × Row × Row × Row) := b (fun r0 r1 r2 r3 => some (r0, r1, r2, r3)) a0_0 a0_1 a0_2 a0_3 k1
def c (a0_0 : Row) (a0_1 : Row) (a0_2 : Row) (a0_3 : Int) (k1 : Int) : Bool := Option.isSome (vo a0_0 a0_1 a0_2 a0_3 k1)
def v (a0_0 : Row) (a0_1 : Row) (a0_2 : Row) (a0_3 : Int) (k1 : Int) : Int × Row × Row × Row := Option.getD (vo a0_0 a0_1 a0_2 a0_3 k1) (0, [], [], [])
theorem out (a0_0 : Row) (a0_1 : Row) (a0_2 : Row) (a0_3 : Int) (k1 : Int) {x : Int × Row × Row × Row} (h : vo a0_0 a0_1 a0_2 a0_3 k1 = some x) : c a0_0 a0_1 a0_2 a0_3 k1 = true ∧ v a0_0 a0_1 a0_2 a0_3 k1 = x := by
  unfold c v; rw [h]; exact ⟨rfl, rfl⟩
theorem b_eq {R : Type} (kr : Int → Row → Row → Row → Option R) (a0_0 : Row) (a0_1 : Row) (a0_2 : Row) (a0_3 : Int) (k1 : Int) (hc : c a0_0 a0_1 a0_2 a0_3 k1 = true) : b kr a0_0 a0_1 a0_2 a0_3 k1 = kr ((v a0_0 a0_1 a0_2 a0_3 k1).1) ((v a0_0 a0_1 a0_2 a0_3 k1).2.1) ((v a0_0 a0_1 a0_2 a0_3 k1).2.2.1) ((v a0_0 a0_1 a0_2 a0_3 k1).2.2.2) := by
  rw [b_bind]
  have e : vo a0_0 a0_1 a0_2 a0_3 k1 = some (v a0_0 a0_1 a0_2 a0_3 k1) := by
    unfold c at hc; unfold v
    cases h : vo a0_0 a0_1 a0_2 a0_3 k1 with
    | none => rw [h] at hc; cases hc
    | some x => rfl
  unfold vo at e
  rw [e]; rfl
end Go.FG.Pu.laws_markPolicy

namespace Go.FG.Pu.laws_markFetchS
def r2 {R : Type} (N : Nat) (g : Int → Int → Row → Option R) (k0 : Int → Int → Row → Option R) (x0 : Int) (x1 : Int) (x2 : Row) : Option R := bif (decide (x1 < (↑(List.length x2) : Int))) then (bif (Pu.laws_markText.c x0) then (bif (decide (0 ≤ x1) && decide (x1 < (↑(List.length x2) : Int))) then (bif (Pu.laws_markText.c (w64 (x0 + 1))) then (bif (decide (0 ≤ x1) && decide (x1 < (↑(List.length (setC x2 (Int.toNat x1) 0 [CV.s (Pu.laws_markText.v x0)])) : Int))) then (bif (decide (0 ≤ x1) && decide (x1 < (↑(List.length (setC (setC x2 (Int.toNat x1) 0 [CV.s (Pu.laws_markText.v x0)]) (Int.toNat x1) 1 [CV.s (Pu.laws_markText.v (w64 (x0 + 1)))])) : Int))) then (bif (decide (0 ≤ x1) && decide (x1 < (↑(List.length (setC (setC (setC x2 (Int.toNat x1) 0 [CV.s (Pu.laws_markText.v x0)]) (Int.toNat x1) 1 [CV.s (Pu.laws_markText.v (w64 (x0 + 1)))]) (Int.toNat x1) 2 [CV.i IntKind.i64 (w64 (w64 (x0 + 1) + 1))])) : Int))) then (bif (decide (0 ≤ x1) && decide (x1 < (↑(List.length (setC (setC (setC (setC x2 (Int.toNat x1) 0 [CV.s (Pu.laws_markText.v x0)]) (Int.toNat x1) 1 [CV.s (Pu.laws_markText.v (w64 (x0 + 1)))]) (Int.toNat x1) 2 [CV.i IntKind.i64 (w64 (w64 (x0 + 1) + 1))]) (Int.toNat x1) 3 [CV.i IntKind.i64 (w64 (w64 (w64 (x0 + 1) + 1) + 1))])) : Int))) then (g (w64 (w64 (w64 (w64 (w64 (x0 + 1) + 1) + 1) + 1) + 1)) (w64 (x1 + 1)) (setC (setC (setC (setC (setC x2 (Int.toNat x1) 0 [CV.s (Pu.laws_markText.v x0)]) (Int.toNat x1) 1 [CV.s (Pu.laws_markText.v (w64 (x0 + 1)))]) (Int.toNat x1) 2 [CV.i IntKind.i64 (w64 (w64 (x0 + 1) + 1))]) (Int.toNat x1) 3 [CV.i IntKind.i64 (w64 (w64 (w64 (x0 + 1) + 1) + 1))]) (Int.toNat x1) 4 [CV.i IntKind.i64 (w64 (w64 (w64 (w64 (x0 + 1) + 1) + 1) + 1))])) else (none)) else (none)) else (none)) else (none)) else (none)) else (none)) else (none)) else (k0 x0 x1 x2)
def l2 {R : Type} (N : Nat) (k0 : Int → Int → Row → Option R) : Nat → Int → Int → Row → Option R
  | 0 => (fun _ _ _ => none)
  | n + 1 => (fun x0 x1 x2 => r2 N (l2 N k0 n) k0 x0 x1 x2)
def b {R : Type} (N : Nat) (kr : Int → Row → Option R) (a0 : Row) (k1 : Int) : Option R := l2 N (fun y3 y4 y5 => kr y3 y5) N k1 0 a0
theorem q2_bind {R S : Type} (f : R → Option S) (N : Nat) (k0 : Int → Int → Row → Option R) : ∀ n : Nat, (∀ (x0 : Int) (x1 : Int) (x2 : Row), Option.bind (l2 N k0 n x0 x1 x2) f = l2 N (fun y0 y1 y2 => (Option.bind (k0 y0 y1 y2) f)) n x0 x1 x2) := by
  intro n
  induction n with
  | zero => exact (fun _ _ _ => rfl)
  | succ n ih =>
    intro x0 x1 x2
    simp only [l2, r2, Lib.cond_bind, Lib.some_bind, Lib.none_bind, ih]
theorem l2_bind {R S : Type} (f : R → Option S) (N : Nat) (k0 : Int → Int → Row → Option R) (n : Nat) (x0 : Int) (x1 : Int) (x2 : Row) : Option.bind (l2 N k0 n x0 x1 x2) f = l2 N (fun y0 y1 y2 => (Option.bind (k0 y0 y1 y2) f)) n x0 x1 x2 := (q2_bind f N k0 n) x0 x1 x2
theorem b_bind {R : Type} (N : Nat) (kr : Int → Row → Option R) (a0 : Row) (k1 : Int) : b N kr a0 k1 = Option.bind (b N (fun r0 r1 => some (r0, r1)) a0 k1) (fun p => kr p.1 p.2) := by
  unfold b; simp only [Lib.cond_bind, Lib.some_bind, Lib.none_bind, l2_bind]
def vo (a0 : Row) (k1 : Int) : Option (Int × Row) := b Lib.big (fun r0 r1 => some (r0, r1)) a0 k1
def c (a0 : Row) (k1 : Int) : Bool := Option.isSome (vo a0 k1)
def v (a0 : Row) (k1 : Int) : Int × Row := Option.getD (vo a0 k1) (0, [])
theorem out (a0 : Row) (k1 : Int) {x : Int × Row} (h : vo a0 k1 = some x) : c a0 k1 = true ∧ v a0 k1 = x := by
  unfold c v; rw [h]; exact ⟨rfl, rfl⟩
theorem b_eq {R : Type} (kr : Int → Row → Option R) (a0 : Row) (k1 : Int) (hc : c a0 k1 = true) : ∃ N, b N kr a0 k1 = kr ((v a0 k1).1) ((v a0 k1).2) := by
  refine ⟨Lib.big, ?_⟩
  rw [b_bind]
  have e : vo a0 k1 = some (v a0 k1) := by
    unfold c at hc; unfold v
    cases h : vo a0 k1 with
    | none => rw [h] at hc; cases hc
    | some x => rfl
  unfold vo at e
  rw [e]; rfl
end Go.FG.Pu.laws_markFetchS

namespace Go.FG.Pu.laws_markClientS
def r2 {R : Type} (N : Nat) (g : Int → Int → Row → Option R) (k0 : Int → Int → Row → Option R) (x0 : Int) (x1 : Int) (x2 : Row) : Option R := bif (decide (x1 < (↑(List.length x2) : Int))) then (bif (decide (0 ≤ x1) && decide (x1 < (↑(List.length x2) : Int))) then (bif (Pu.laws_markText.c (w64 (x0 + 1))) then (bif (decide (0 ≤ x1) && decide (x1 < (↑(List.length (setC x2 (Int.toNat x1) 0 [CV.i IntKind.i64 x0])) : Int))) then (bif (decide (0 ≤ x1) && decide (x1 < (↑(List.length (setC (setC x2 (Int.toNat x1) 0 [CV.i IntKind.i64 x0]) (Int.toNat x1) 1 [CV.s (Pu.laws_markText.v (w64 (x0 + 1)))])) : Int))) then (bif (decide (0 ≤ x1) && decide (x1 < (↑(List.length (setC (setC (setC x2 (Int.toNat x1) 0 [CV.i IntKind.i64 x0]) (Int.toNat x1) 1 [CV.s (Pu.laws_markText.v (w64 (x0 + 1)))]) (Int.toNat x1) 2 [CV.i IntKind.i64 (w64 (w64 (x0 + 1) + 1))])) : Int))) then (bif (decide (0 ≤ x1) && decide (x1 < (↑(List.length (setC (setC (setC (setC x2 (Int.toNat x1) 0 [CV.i IntKind.i64 x0]) (Int.toNat x1) 1 [CV.s (Pu.laws_markText.v (w64 (x0 + 1)))]) (Int.toNat x1) 2 [CV.i IntKind.i64 (w64 (w64 (x0 + 1) + 1))]) (Int.toNat x1) 3 [CV.i IntKind.i64 (w64 (w64 (w64 (x0 + 1) + 1) + 1))])) : Int))) then (bif (Pu.laws_markText.c (w64 (w64 (w64 (w64 (w64 (x0 + 1) + 1) + 1) + 1) + 1))) then (bif (decide (0 ≤ x1) && decide (x1 < (↑(List.length (setC (setC (setC (setC (setC x2 (Int.toNat x1) 0 [CV.i IntKind.i64 x0]) (Int.toNat x1) 1 [CV.s (Pu.laws_markText.v (w64 (x0 + 1)))]) (Int.toNat x1) 2 [CV.i IntKind.i64 (w64 (w64 (x0 + 1) + 1))]) (Int.toNat x1) 3 [CV.i IntKind.i64 (w64 (w64 (w64 (x0 + 1) + 1) + 1))]) (Int.toNat x1) 4 [CV.i IntKind.i64 (w64 (w64 (w64 (w64 (x0 + 1) + 1) + 1) + 1))])) : Int))) then (bif (decide (0 ≤ x1) && decide (x1 < (↑(List.length (setC (setC (setC (setC (setC (setC x2 (Int.toNat x1) 0 [CV.i IntKind.i64 x0]) (Int.toNat x1) 1 [CV.s (Pu.laws_markText.v (w64 (x0 + 1)))]) (Int.toNat x1) 2 [CV.i IntKind.i64 (w64 (w64 (x0 + 1) + 1))]) (Int.toNat x1) 3 [CV.i IntKind.i64 (w64 (w64 (w64 (x0 + 1) + 1) + 1))]) (Int.toNat x1) 4 [CV.i IntKind.i64 (w64 (w64 (w64 (w64 (x0 + 1) + 1) + 1) + 1))]) (Int.toNat x1) 5 [CV.s (Pu.laws_markText.v (w64 (w64 (w64 (w64 (w64 (x0 + 1) + 1) + 1) + 1) + 1)))])) : Int))) then (g (w64 (w64 (w64 (w64 (w64 (w64 (w64 (x0 + 1) + 1) + 1) + 1) + 1) + 1) + 1)) (w64 (x1 + 1)) (setC (setC (setC (setC (setC (setC (setC x2 (Int.toNat x1) 0 [CV.i IntKind.i64 x0]) (Int.toNat x1) 1 [CV.s (Pu.laws_markText.v (w64 (x0 + 1)))]) (Int.toNat x1) 2 [CV.i IntKind.i64 (w64 (w64 (x0 + 1) + 1))]) (Int.toNat x1) 3 [CV.i IntKind.i64 (w64 (w64 (w64 (x0 + 1) + 1) + 1))]) (Int.toNat x1) 4 [CV.i IntKind.i64 (w64 (w64 (w64 (w64 (x0 + 1) + 1) + 1) + 1))]) (Int.toNat x1) 5 [CV.s (Pu.laws_markText.v (w64 (w64 (w64 (w64 (w64 (x0 + 1) + 1) + 1) + 1) + 1)))]) (Int.toNat x1) 6 [CV.i IntKind.i64 (w64 (w64 (w64 (w64 (w64 (w64 (x0 + 1) + 1) + 1) + 1) + 1) + 1))])) else (none)) else (none)) else (none)) else (none)) else (none)) else (none)) else (none)) else (none)) else (none)) else (k0 x0 x1 x2)
def l2 {R : Type} (N : Nat) (k0 : Int → Int → Row → Option R) : Nat → Int → Int → Row → Option R
  | 0 => (fun _ _ _ => none)
  | n + 1 => (fun x0 x1 x2 => r2 N (l2 N k0 n) k0 x0 x1 x2)
def b {R : Type} (N : Nat) (kr : Int → Row → Option R) (a0 : Row) (k1 : Int) : Option R := l2 N (fun y3 y4 y5 => kr y3 y5) N k1 0 a0
theorem q2_bind {R S : Type} (f : R → Option S) (N : Nat) (k0 : Int → Int → Row → Option R) : ∀ n : Nat, (∀ (x0 : Int) (x1 : Int) (x2 : Row), Option.bind (l2 N k0 n x0 x1 x2) f = l2 N (fun y0 y1 y2 => (Option.bind (k0 y0 y1 y2) f)) n x0 x1 x2) := by
  intro n
  induction n with
  | zero => exact (fun _ _ _ => rfl)
  | succ n ih =>
    intro x0 x1 x2
    simp only [l2, r2, Lib.cond_bind, Lib.some_bind, Lib.none_bind, ih]
theorem l2_bind {R S : Type} (f : R → Option S) (N : Nat) (k0 : Int → Int → Row → Option R) (n : Nat) (x0 : Int) (x1 : Int) (x2 : Row) : Option.bind (l2 N k0 n x0 x1 x2) f = l2 N (fun y0 y1 y2 => (Option.bind (k0 y0 y1 y2) f)) n x0 x1 x2 := (q2_bind f N k0 n) x0 x1 x2
theorem b_bind {R : Type} (N : Nat) (kr : Int → Row → Option R) (a0 : Row) (k1 : Int) : b N kr a0 k1 = Option.bind (b N (fun r0 r1 => some (r0, r1)) a0 k1) (fun p => kr p.1 p.2) := by
  unfold b; simp only [Lib.cond_bind, Lib.some_bind, Lib.none_bind, l2_bind]
def vo (a0 : Row) (k1 : Int) : Option (Int × Row) := b Lib.big (fun r0 r1 => some (r0, r1)) a0 k1
def c (a0 : Row) (k1 : Int) : Bool := Option.isSome (vo a0 k1)
def v (a0 : Row) (k1 : Int) : Int × Row := Option.getD (vo a0 k1) (0, [])
theorem out (a0 : Row) (k1 : Int) {x : Int × Row} (h : vo a0 k1 = some x) : c a0 k1 = true ∧ v a0 k1 = x := by
  unfold c v; rw [h]; exact ⟨rfl, rfl⟩
theorem b_eq {R : Type} (kr : Int → Row → Option R) (a0 : Row) (k1 : Int) (hc : c a0 k1 = true) : ∃ N, b N kr a0 k1 = kr ((v a0 k1).1) ((v a0 k1).2) := by
  refine ⟨Lib.big, ?_⟩
  rw [b_bind]
  have e : vo a0 k1 = some (v a0 k1) := by
    unfold c at hc; unfold v
    cases h : vo a0 k1 with
    | none => rw [h] at hc; cases hc
    | some x => rfl
  unfold vo at e
  rw [e]; rfl
end Go.FG.Pu.laws_markClientS

namespace Go.FG.Pu.laws_markProxy
def b {R : Type} (kr : Int → Row → Row → Row → Row → Row → Row → Option R) (a0_0 : Int) (a0_1 : Row) (a0_2 : Row) (a0_3 : Row) (a0_4 : Row) (a0_5 : Int) (a0_6 : Row) (a0_7 : Row) (a0_8 : Int) (k1 : Int) : Option R := bif (Pu.laws_markEntryS.c a0_1 k1) then (bif (Pu.laws_markPolicy.c a0_2 a0_3 a0_4 a0_5 (Pu.laws_markEntryS.v a0_1 k1).1) then (bif (Pu.laws_markFetchS.c a0_6 (Pu.laws_markPolicy.v a0_2 a0_3 a0_4 a0_5 (Pu.laws_markEntryS.v a0_1 k1).1).1) then (bif (Pu.laws_markClientS.c a0_7 (Pu.laws_markFetchS.v a0_6 (Pu.laws_markPolicy.v a0_2 a0_3 a0_4 a0_5 (Pu.laws_markEntryS.v a0_1 k1).1).1).1) then (kr ((Pu.laws_markClientS.v a0_7 (Pu.laws_markFetchS.v a0_6 (Pu.laws_markPolicy.v a0_2 a0_3 a0_4 a0_5 (Pu.laws_markEntryS.v a0_1 k1).1).1).1).1) ((Pu.laws_markEntryS.v a0_1 k1).2) ((Pu.laws_markPolicy.v a0_2 a0_3 a0_4 a0_5 (Pu.laws_markEntryS.v a0_1 k1).1).2.1) ((Pu.laws_markPolicy.v a0_2 a0_3 a0_4 a0_5 (Pu.laws_markEntryS.v a0_1 k1).1).2.2.1) ((Pu.laws_markPolicy.v a0_2 a0_3 a0_4 a0_5 (Pu.laws_markEntryS.v a0_1 k1).1).2.2.2) ((Pu.laws_markFetchS.v a0_6 (Pu.laws_markPolicy.v a0_2 a0_3 a0_4 a0_5 (Pu.laws_markEntryS.v a0_1 k1).1).1).2) ((Pu.laws_markClientS.v a0_7 (Pu.laws_markFetchS.v a0_6 (Pu.laws_markPolicy.v a0_2 a0_3 a0_4 a0_5 (Pu.laws_markEntryS.v a0_1 k1).1).1).1).2)) else (none)) else (none)) else (none)) else (none)
theorem b_bind {R : Type} (kr : Int → Row → Row → Row → Row → Row → Row → Option R) (a0_0 : Int) (a0_1 : Row) (a0_2 : Row) (a0_3 : Row) (a0_4 : Row) (a0_5 : Int) (a0_6 : Row) (a0_7 : Row) (a0_8 : Int) (k1 : Int) : b kr a0_0 a0_1 a0_2 a0_3 a0_4 a0_5 a0_6 a0_7 a0_8 k1 = Option.bind (b (fun r0 r1 r2 r3 r4 r5 r6 => some (r0, r1, r2, r3, r4, r5, r6)) a0_0 a0_1 a0_2 a0_3 a0_4 a0_5 a0_6 a0_7 a0_8 k1) (fun p => kr p.1 p.2.1 p.2.2.1 p.2.2.2.1 p.2.2.2.2.1 p.2.2.2.2.2.1 p.2.2.2.2.2.2) := by
  unfold b; simp only [Lib.cond_bind, Lib.some_bind, Lib.none_bind]
def vo (a0_0 : Int) (a0_1 : Row) (a0_2 : Row) (a0_3 : Row) (a0_4 : Row) (a0_5 : Int) (a0_6 : Row) (a0_7 : Row) (a0_8 : Int) (k1 : Int) : Option (Int × Row × Row × Row × Row × Row × Row) := b (fun r0 r1 r2 r3 r4 r5 r6 => some (r0, r1, r2, r3, r4, r5, r6)) a0_0 a0_1 a0_2 a0_3 a0_4 a0_5 a0_6 a0_7 a0_8 k1
def c (a0_0 : Int) (a0_1 : Row) (a0_2 : Row) (a0_3 : Row) (a0_4 : Row) (a0_5 : Int) (a0_6 : Row) (a0_7 : Row) (a0_8 : Int) (k1 : Int) : Bool := Option.isSome (vo a0_0 a0_1 a0_2 a0_3 a0_4 a0_5 a0_6 a0_7 a0_8 k1)
def v (a0_0 : Int) (a0_1 : Row) (a0_2 : Row) (a0_3 : Row) (a0_4 : Row) (a0_5 : Int) (a0_6 : Row) (a0_7 : Row) (a0_8 : Int) (k1 : Int) : Int × Row × Row × Row × Row × Row × Row := Option.getD (vo a0_0 a0_1 a0_2 a0_3 a0_4 a0_5 a0_6 a0_7 a0_8 k1) (0, [], [], [], [], [], [])
theorem out (a0_0 : Int) (a0_1 : Row) (a0_2 : Row) (a0_3 : Row) (a0_4 : Row) (a0_5 : Int) (a0_6 : Row) (a0_7 : Row) (a0_8 : Int) (k1 : Int) {x : Int × Row × Row × Row × Row × Row × Row} (h : vo a0_0 a0_1 a0_2 a0_3 a0_4 a0_5 a0_6 a0_7 a0_8 k1 = some x) : c a0_0 a0_1 a0_2 a0_3 a0_4 a0_5 a0_6 a0_7 a0_8 k1 = true ∧ v a0_0 a0_1 a0_2 a0_3 a0_4 a0_5 a0_6 a0_7 a0_8 k1 = x := by
  unfold c v; rw [h]; exact ⟨rfl, rfl⟩
theorem b_eq {R : Type} (kr : Int → Row → Row → Row → Row → Row → Row → Option R) (a0_0 : Int) (a0_1 : Row) (a0_2 : Row) (a0_3 : Row) (a0_4 : Row) (a0_5 : Int) (a0_6 : Row) (a0_7 : Row) (a0_8 : Int) (k1 : Int) (hc : c a0_0 a0_1 a0_2 a0_3 a0_4 a0_5 a0_6 a0_7 a0_8 k1 = true) : b kr a0_0 a0_1 a0_2 a0_3 a0_4 a0_5 a0_6 a0_7 a0_8 k1 = kr ((v a0_0 a0_1 a0_2 a0_3 a0_4 a0_5 a0_6 a0_7 a0_8 k1).1) ((v a0_0 a0_1 a0_2 a0_3 a0_4 a0_5 a0_6 a0_7 a0_8 k1).2.1) ((v a0_0 a0_1 a0_2 a0_3 a0_4 a0_5 a0_6 a0_7 a0_8 k1).2.2.1) ((v a0_0 a0_1 a0_2 a0_3 a0_4 a0_5 a0_6 a0_7 a0_8 k1).2.2.2.1) ((v a0_0 a0_1 a0_2 a0_3 a0_4 a0_5 a0_6 a0_7 a0_8 k1).2.2.2.2.1) ((v a0_0 a0_1 a0_2 a0_3 a0_4 a0_5 a0_6 a0_7 a0_8 k1).2.2.2.2.2.1) ((v a0_0 a0_1 a0_2 a0_3 a0_4 a0_5 a0_6 a0_7 a0_8 k1).2.2.2.2.2.2) := by
  rw [b_bind]
  have e : vo a0_0 a0_1 a0_2 a0_3 a0_4 a0_5 a0_6 a0_7 a0_8 k1 = some (v a0_0 a0_1 a0_2 a0_3 a0_4 a0_5 a0_6 a0_7 a0_8 k1) := by
    unfold c at hc; unfold v
    cases h : vo a0_0 a0_1 a0_2 a0_3 a0_4 a0_5 a0_6 a0_7 a0_8 k1 with
    | none => rw [h] at hc; cases hc
    | some x => rfl
  unfold vo at e
  rw [e]; rfl
end Go.FG.Pu.laws_markProxy

namespace Go.FG.Pu.laws_heldEntryS
def r2 {R : Type} (N : Nat) (g : Row → Int → Int → Int → Option R) (k0 : Row → Int → Int → Int → Option R) (k1 : Row → Int → Int → Int → Option R) (x0 : Row) (x1 : Int) (x2 : Int) (x3 : Int) : Option R := bif (decide (x3 < (↑(List.length x0) : Int))) then (bif (decide (0 ≤ x3) && decide (x3 < (↑(List.length x0) : Int))) then (bif (Pu.laws_markText.c x1) then (bif (!List.beq (ByteArray.toList (cvS (cellAt x0 (Int.toNat x3) 0))) (ByteArray.toList (Pu.laws_markText.v x1))) then (k0 x0 x1 (-1) x3) else (bif (decide (0 ≤ x3) && decide (x3 < (↑(List.length x0) : Int))) then (bif (cvI (cellAt x0 (Int.toNat x3) 1) != w64 (x1 + 1)) then (k0 x0 (w64 (x1 + 1)) (-1) x3) else (bif (decide (0 ≤ x3) && decide (x3 < (↑(List.length x0) : Int))) then (bif (cvI (cellAt x0 (Int.toNat x3) 2) != w64 (w64 (x1 + 1) + 1)) then (k0 x0 (w64 (w64 (x1 + 1) + 1)) (-1) x3) else (bif (decide (0 ≤ x3) && decide (x3 < (↑(List.length x0) : Int))) then (bif (Pu.laws_markText.c (w64 (w64 (w64 (x1 + 1) + 1) + 1))) then (bif (!List.beq (ByteArray.toList (cvS (cellAt x0 (Int.toNat x3) 3))) (ByteArray.toList (Pu.laws_markText.v (w64 (w64 (w64 (x1 + 1) + 1) + 1))))) then (k0 x0 (w64 (w64 (w64 (x1 + 1) + 1) + 1)) (-1) x3) else (g x0 (w64 (w64 (w64 (w64 (x1 + 1) + 1) + 1) + 1)) x2 (w64 (x3 + 1)))) else (none)) else (none))) else (none))) else (none))) else (none)) else (none)) else (k1 x0 x1 x2 x3)
def l2 {R : Type} (N : Nat) (k0 : Row → Int → Int → Int → Option R) (k1 : Row → Int → Int → Int → Option R) : Nat → Row → Int → Int → Int → Option R
  | 0 => (fun _ _ _ _ => none)
  | n + 1 => (fun x0 x1 x2 x3 => r2 N (l2 N k0 k1 n) k0 k1 x0 x1 x2 x3)
def b {R : Type} (N : Nat) (kr : Int → Option R) (a0 : Row) (k1 : Int) : Option R := l2 N (fun y4 y5 y6 y7 => kr y6) (fun y8 y9 y10 y11 => kr y9) N a0 k1 0 0
theorem q2_bind {R S : Type} (f : R → Option S) (N : Nat) (k0 : Row → Int → Int → Int → Option R) (k1 : Row → Int → Int → Int → Option R) : ∀ n : Nat, (∀ (x0 : Row) (x1 : Int) (x2 : Int) (x3 : Int), Option.bind (l2 N k0 k1 n x0 x1 x2 x3) f = l2 N (fun y0 y1 y2 y3 => (Option.bind (k0 y0 y1 y2 y3) f)) (fun y0 y1 y2 y3 => (Option.bind (k1 y0 y1 y2 y3) f)) n x0 x1 x2 x3) := by
  intro n
  induction n with
  | zero => exact (fun _ _ _ _ => rfl)
  | succ n ih =>
    intro x0 x1 x2 x3
    simp only [l2, r2, Lib.cond_bind, Lib.some_bind, Lib.none_bind, ih]
theorem l2_bind {R S : Type} (f : R → Option S) (N : Nat) (k0 : Row → Int → Int → Int → Option R) (k1 : Row → Int → Int → Int → Option R) (n : Nat) (x0 : Row) (x1 : Int) (x2 : Int) (x3 : Int) : Option.bind (l2 N k0 k1 n x0 x1 x2 x3) f = l2 N (fun y0 y1 y2 y3 => (Option.bind (k0 y0 y1 y2 y3) f)) (fun y0 y1 y2 y3 => (Option.bind (k1 y0 y1 y2 y3) f)) n x0 x1 x2 x3 := (q2_bind f N k0 k1 n) x0 x1 x2 x3
theorem b_bind {R : Type} (N : Nat) (kr : Int → Option R) (a0 : Row) (k1 : Int) : b N kr a0 k1 = Option.bind (b N (fun r0 => some (r0)) a0 k1) (fun p => kr p) := by
  unfold b; simp only [Lib.cond_bind, Lib.some_bind, Lib.none_bind, l2_bind]
def vo (a0 : Row) (k1 : Int) : Option (Int) := b Lib.big (fun r0 => some (r0)) a0 k1
def c (a0 : Row) (k1 : Int) : Bool := Option.isSome (vo a0 k1)
def v (a0 : Row) (k1 : Int) : Int := Option.getD (vo a0 k1) (0)
theorem out (a0 : Row) (k1 : Int) {x : Int} (h : vo a0 k1 = some x) : c a0 k1 = true ∧ v a0 k1 = x := by
  unfold c v; rw [h]; exact ⟨rfl, rfl⟩
theorem b_eq {R : Type} (kr : Int → Option R) (a0 : Row) (k1 : Int) (hc : c a0 k1 = true) : ∃ N, b N kr a0 k1 = kr (v a0 k1) := by
  refine ⟨Lib.big, ?_⟩
  rw [b_bind]
  have e : vo a0 k1 = some (v a0 k1) := by
    unfold c at hc; unfold v
    cases h : vo a0 k1 with
    | none => rw [h] at hc; cases hc
    | some x => rfl
  unfold vo at e
  rw [e]; rfl
end Go.FG.Pu.laws_heldEntryS

namespace Go.FG.Pu.laws_heldStringS
def r2 {R : Type} (N : Nat) (g : Row → Int → Int → Int → Option R) (k0 : Row → Int → Int → Int → Option R) (k1 : Row → Int → Int → Int → Option R) (x0 : Row) (x1 : Int) (x2 : Int) (x3 : Int) : Option R := bif (decide (x3 < (↑(List.length x0) : Int))) then (bif (decide (0 ≤ x3) && decide (x3 < (↑(List.length x0) : Int))) then (bif (Pu.laws_markText.c x1) then (bif (!List.beq (ByteArray.toList (cvS (cellAt x0 (Int.toNat x3) 0))) (ByteArray.toList (Pu.laws_markText.v x1))) then (k0 x0 x1 (-1) x3) else (g x0 (w64 (x1 + 1)) x2 (w64 (x3 + 1)))) else (none)) else (none)) else (k1 x0 x1 x2 x3)
def l2 {R : Type} (N : Nat) (k0 : Row → Int → Int → Int → Option R) (k1 : Row → Int → Int → Int → Option R) : Nat → Row → Int → Int → Int → Option R
  | 0 => (fun _ _ _ _ => none)
  | n + 1 => (fun x0 x1 x2 x3 => r2 N (l2 N k0 k1 n) k0 k1 x0 x1 x2 x3)
def b {R : Type} (N : Nat) (kr : Int → Option R) (a0 : Row) (k1 : Int) : Option R := l2 N (fun y4 y5 y6 y7 => kr y6) (fun y8 y9 y10 y11 => kr y9) N a0 k1 0 0
theorem q2_bind {R S : Type} (f : R → Option S) (N : Nat) (k0 : Row → Int → Int → Int → Option R) (k1 : Row → Int → Int → Int → Option R) : ∀ n : Nat, (∀ (x0 : Row) (x1 : Int) (x2 : Int) (x3 : Int), Option.bind (l2 N k0 k1 n x0 x1 x2 x3) f = l2 N (fun y0 y1 y2 y3 => (Option.bind (k0 y0 y1 y2 y3) f)) (fun y0 y1 y2 y3 => (Option.bind (k1 y0 y1 y2 y3) f)) n x0 x1 x2 x3) := by
  intro n
  induction n with
  | zero => exact (fun _ _ _ _ => rfl)
  | succ n ih =>
    intro x0 x1 x2 x3
    simp only [l2, r2, Lib.cond_bind, Lib.some_bind, Lib.none_bind, ih]
theorem l2_bind {R S : Type} (f : R → Option S) (N : Nat) (k0 : Row → Int → Int → Int → Option R) (k1 : Row → Int → Int → Int → Option R) (n : Nat) (x0 : Row) (x1 : Int) (x2 : Int) (x3 : Int) : Option.bind (l2 N k0 k1 n x0 x1 x2 x3) f = l2 N (fun y0 y1 y2 y3 => (Option.bind (k0 y0 y1 y2 y3) f)) (fun y0 y1 y2 y3 => (Option.bind (k1 y0 y1 y2 y3) f)) n x0 x1 x2 x3 := (q2_bind f N k0 k1 n) x0 x1 x2 x3
theorem b_bind {R : Type} (N : Nat) (kr : Int → Option R) (a0 : Row) (k1 : Int) : b N kr a0 k1 = Option.bind (b N (fun r0 => some (r0)) a0 k1) (fun p => kr p) := by
  unfold b; simp only [Lib.cond_bind, Lib.some_bind, Lib.none_bind, l2_bind]
def vo (a0 : Row) (k1 : Int) : Option (Int) := b Lib.big (fun r0 => some (r0)) a0 k1
def c (a0 : Row) (k1 : Int) : Bool := Option.isSome (vo a0 k1)
def v (a0 : Row) (k1 : Int) : Int := Option.getD (vo a0 k1) (0)
theorem out (a0 : Row) (k1 : Int) {x : Int} (h : vo a0 k1 = some x) : c a0 k1 = true ∧ v a0 k1 = x := by
  unfold c v; rw [h]; exact ⟨rfl, rfl⟩
theorem b_eq {R : Type} (kr : Int → Option R) (a0 : Row) (k1 : Int) (hc : c a0 k1 = true) : ∃ N, b N kr a0 k1 = kr (v a0 k1) := by
  refine ⟨Lib.big, ?_⟩
  rw [b_bind]
  have e : vo a0 k1 = some (v a0 k1) := by
    unfold c at hc; unfold v
    cases h : vo a0 k1 with
    | none => rw [h] at hc; cases hc
    | some x => rfl
  unfold vo at e
  rw [e]; rfl
end Go.FG.Pu.laws_heldStringS

namespace Go.FG.Pu.laws_heldIntS
def r2 {R : Type} (N : Nat) (g : Row → Int → Int → Int → Option R) (k0 : Row → Int → Int → Int → Option R) (k1 : Row → Int → Int → Int → Option R) (x0 : Row) (x1 : Int) (x2 : Int) (x3 : Int) : Option R := bif (decide (x3 < (↑(List.length x0) : Int))) then (bif (decide (0 ≤ x3) && decide (x3 < (↑(List.length x0) : Int))) then (bif (cvI (cellAt x0 (Int.toNat x3) 0) != x1) then (k0 x0 x1 (-1) x3) else (g x0 (w64 (x1 + 1)) x2 (w64 (x3 + 1)))) else (none)) else (k1 x0 x1 x2 x3)
def l2 {R : Type} (N : Nat) (k0 : Row → Int → Int → Int → Option R) (k1 : Row → Int → Int → Int → Option R) : Nat → Row → Int → Int → Int → Option R
  | 0 => (fun _ _ _ _ => none)
  | n + 1 => (fun x0 x1 x2 x3 => r2 N (l2 N k0 k1 n) k0 k1 x0 x1 x2 x3)
def b {R : Type} (N : Nat) (kr : Int → Option R) (a0 : Row) (k1 : Int) : Option R := l2 N (fun y4 y5 y6 y7 => kr y6) (fun y8 y9 y10 y11 => kr y9) N a0 k1 0 0
theorem q2_bind {R S : Type} (f : R → Option S) (N : Nat) (k0 : Row → Int → Int → Int → Option R) (k1 : Row → Int → Int → Int → Option R) : ∀ n : Nat, (∀ (x0 : Row) (x1 : Int) (x2 : Int) (x3 : Int), Option.bind (l2 N k0 k1 n x0 x1 x2 x3) f = l2 N (fun y0 y1 y2 y3 => (Option.bind (k0 y0 y1 y2 y3) f)) (fun y0 y1 y2 y3 => (Option.bind (k1 y0 y1 y2 y3) f)) n x0 x1 x2 x3) := by
  intro n
  induction n with
  | zero => exact (fun _ _ _ _ => rfl)
  | succ n ih =>
    intro x0 x1 x2 x3
    simp only [l2, r2, Lib.cond_bind, Lib.some_bind, Lib.none_bind, ih]
theorem l2_bind {R S : Type} (f : R → Option S) (N : Nat) (k0 : Row → Int → Int → Int → Option R) (k1 : Row → Int → Int → Int → Option R) (n : Nat) (x0 : Row) (x1 : Int) (x2 : Int) (x3 : Int) : Option.bind (l2 N k0 k1 n x0 x1 x2 x3) f = l2 N (fun y0 y1 y2 y3 => (Option.bind (k0 y0 y1 y2 y3) f)) (fun y0 y1 y2 y3 => (Option.bind (k1 y0 y1 y2 y3) f)) n x0 x1 x2 x3 := (q2_bind f N k0 k1 n) x0 x1 x2 x3
theorem b_bind {R : Type} (N : Nat) (kr : Int → Option R) (a0 : Row) (k1 : Int) : b N kr a0 k1 = Option.bind (b N (fun r0 => some (r0)) a0 k1) (fun p => kr p) := by
  unfold b; simp only [Lib.cond_bind, Lib.some_bind, Lib.none_bind, l2_bind]
def vo (a0 : Row) (k1 : Int) : Option (Int) := b Lib.big (fun r0 => some (r0)) a0 k1
def c (a0 : Row) (k1 : Int) : Bool := Option.isSome (vo a0 k1)
def v (a0 : Row) (k1 : Int) : Int := Option.getD (vo a0 k1) (0)
theorem out (a0 : Row) (k1 : Int) {x : Int} (h : vo a0 k1 = some x) : c a0 k1 = true ∧ v a0 k1 = x := by
  unfold c v; rw [h]; exact ⟨rfl, rfl⟩
theorem b_eq {R : Type} (kr : Int → Option R) (a0 : Row) (k1 : Int) (hc : c a0 k1 = true) : ∃ N, b N kr a0 k1 = kr (v a0 k1) := by
  refine ⟨Lib.big, ?_⟩
  rw [b_bind]
  have e : vo a0 k1 = some (v a0 k1) := by
    unfold c at hc; unfold v
    cases h : vo a0 k1 with
    | none => rw [h] at hc; cases hc
    | some x => rfl
  unfold vo at e
  rw [e]; rfl
end Go.FG.Pu.laws_heldIntS

namespace Go.FG.Pu.laws_heldIntSS
def r2 {R : Type} (N : Nat) (g : Row → Int → Int → Int → Option R) (k0 : Row → Int → Int → Int → Option R) (k1 : Row → Int → Int → Int → Option R) (x0 : Row) (x1 : Int) (x2 : Int) (x3 : Int) : Option R := bif (decide (x3 < (↑(List.length x0) : Int))) then (bif (decide (0 ≤ x3) && decide (x3 < (↑(List.length x0) : Int))) then (bif (Pu.laws_heldIntS.c (cvL (cellAt x0 (Int.toNat x3) 0)) x1) then (bif (decide (Pu.laws_heldIntS.v (cvL (cellAt x0 (Int.toNat x3) 0)) x1 < 0)) then (k0 x0 (Pu.laws_heldIntS.v (cvL (cellAt x0 (Int.toNat x3) 0)) x1) (-1) x3) else (g x0 (Pu.laws_heldIntS.v (cvL (cellAt x0 (Int.toNat x3) 0)) x1) x2 (w64 (x3 + 1)))) else (none)) else (none)) else (k1 x0 x1 x2 x3)
def l2 {R : Type} (N : Nat) (k0 : Row → Int → Int → Int → Option R) (k1 : Row → Int → Int → Int → Option R) : Nat → Row → Int → Int → Int → Option R
  | 0 => (fun _ _ _ _ => none)
  | n + 1 => (fun x0 x1 x2 x3 => r2 N (l2 N k0 k1 n) k0 k1 x0 x1 x2 x3)
def b {R : Type} (N : Nat) (kr : Int → Option R) (a0 : Row) (k1 : Int) : Option R := l2 N (fun y4 y5 y6 y7 => kr y6) (fun y8 y9 y10 y11 => kr y9) N a0 k1 0 0
theorem q2_bind {R S : Type} (f : R → Option S) (N : Nat) (k0 : Row → Int → Int → Int → Option R) (k1 : Row → Int → Int → Int → Option R) : ∀ n : Nat, (∀ (x0 : Row) (x1 : Int) (x2 : Int) (x3 : Int), Option.bind (l2 N k0 k1 n x0 x1 x2 x3) f = l2 N (fun y0 y1 y2 y3 => (Option.bind (k0 y0 y1 y2 y3) f)) (fun y0 y1 y2 y3 => (Option.bind (k1 y0 y1 y2 y3) f)) n x0 x1 x2 x3) := by
  intro n
  induction n with
  | zero => exact (fun _ _ _ _ => rfl)
  | succ n ih =>
    intro x0 x1 x2 x3
    simp only [l2, r2, Lib.cond_bind, Lib.some_bind, Lib.none_bind, ih]
theorem l2_bind {R S : Type} (f : R → Option S) (N : Nat) (k0 : Row → Int → Int → Int → Option R) (k1 : Row → Int → Int → Int → Option R) (n : Nat) (x0 : Row) (x1 : Int) (x2 : Int) (x3 : Int) : Option.bind (l2 N k0 k1 n x0 x1 x2 x3) f = l2 N (fun y0 y1 y2 y3 => (Option.bind (k0 y0 y1 y2 y3) f)) (fun y0 y1 y2 y3 => (Option.bind (k1 y0 y1 y2 y3) f)) n x0 x1 x2 x3 := (q2_bind f N k0 k1 n) x0 x1 x2 x3
theorem b_bind {R : Type} (N : Nat) (kr : Int → Option R) (a0 : Row) (k1 : Int) : b N kr a0 k1 = Option.bind (b N (fun r0 => some (r0)) a0 k1) (fun p => kr p) := by
  unfold b; simp only [Lib.cond_bind, Lib.some_bind, Lib.none_bind, l2_bind]
def vo (a0 : Row) (k1 : Int) : Option (Int) := b Lib.big (fun r0 => some (r0)) a0 k1
def c (a0 : Row) (k1 : Int) : Bool := Option.isSome (vo a0 k1)
def v (a0 : Row) (k1 : Int) : Int := Option.getD (vo a0 k1) (0)
theorem out (a0 : Row) (k1 : Int) {x : Int} (h : vo a0 k1 = some x) : c a0 k1 = true ∧ v a0 k1 = x := by
  unfold c v; rw [h]; exact ⟨rfl, rfl⟩
theorem b_eq {R : Type} (kr : Int → Option R) (a0 : Row) (k1 : Int) (hc : c a0 k1 = true) : ∃ N, b N kr a0 k1 = kr (v a0 k1) := by
  refine ⟨Lib.big, ?_⟩
  rw [b_bind]
  have e : vo a0 k1 = some (v a0 k1) := by
    unfold c at hc; unfold v
    cases h : vo a0 k1 with
    | none => rw [h] at hc; cases hc
    | some x => rfl
  unfold vo at e
  rw [e]; rfl
end Go.FG.Pu.laws_heldIntSS

namespace Go.FG.Pu.laws_heldSketch
def b {R : Type} (kr : Int → Option R) (a0_0 : Row) (a0_1 : Int) (k1 : Int) : Option R := bif (Pu.laws_heldIntSS.c a0_0 k1) then (bif (decide (Pu.laws_heldIntSS.v a0_0 k1 < 0)) then (kr (-1)) else (kr (Pu.laws_heldIntSS.v a0_0 k1))) else (none)
theorem b_bind {R : Type} (kr : Int → Option R) (a0_0 : Row) (a0_1 : Int) (k1 : Int) : b kr a0_0 a0_1 k1 = Option.bind (b (fun r0 => some (r0)) a0_0 a0_1 k1) (fun p => kr p) := by
  unfold b; simp only [Lib.cond_bind, Lib.some_bind, Lib.none_bind]
def vo (a0_0 : Row) (a0_1 : Int) (k1 : Int) : Option (Int) := b (fun r0 => some (r0)) a0_0 a0_1 k1
def c (a0_0 : Row) (a0_1 : Int) (k1 : Int) : Bool := Option.isSome (vo a0_0 a0_1 k1)
def v (a0_0 : Row) (a0_1 : Int) (k1 : Int) : Int := Option.getD (vo a0_0 a0_1 k1) (0)
theorem out (a0_0 : Row) (a0_1 : Int) (k1 : Int) {x : Int} (h : vo a0_0 a0_1 k1 = some x) : c a0_0 a0_1 k1 = true ∧ v a0_0 a0_1 k1 = x := by
  unfold c v; rw [h]; exact ⟨rfl, rfl⟩
theorem b_eq {R : Type} (kr : Int → Option R) (a0_0 : Row) (a0_1 : Int) (k1 : Int) (hc : c a0_0 a0_1 k1 = true) : b kr a0_0 a0_1 k1 = kr (v a0_0 a0_1 k1) := by
  rw [b_bind]
  have e : vo a0_0 a0_1 k1 = some (v a0_0 a0_1 k1) := by
    unfold c at hc; unfold v
    cases h : vo a0_0 a0_1 k1 with
    | none => rw [h] at hc; cases hc
    | some x => rfl
  unfold vo at e
  rw [e]; rfl
end Go.FG.Pu.laws_heldSketch

namespace Go.FG.Pu.laws_heldPolicy
def b {R : Type} (kr : Int → Option R) (a0_0 : Row) (a0_1 : Row) (a0_2 : Row) (a0_3 : Int) (k1 : Int) : Option R := bif (Pu.laws_heldStringS.c a0_0 k1) then (bif (decide (Pu.laws_heldStringS.v a0_0 k1 < 0)) then (kr (-1)) else (bif (Pu.laws_heldStringS.c a0_1 (Pu.laws_heldStringS.v a0_0 k1)) then (bif (decide (Pu.laws_heldStringS.v a0_1 (Pu.laws_heldStringS.v a0_0 k1) < 0)) then (kr (-1)) else (bif (Pu.laws_heldSketch.c a0_2 a0_3 (Pu.laws_heldStringS.v a0_1 (Pu.laws_heldStringS.v a0_0 k1))) then (bif (decide (Pu.laws_heldSketch.v a0_2 a0_3 (Pu.laws_heldStringS.v a0_1 (Pu.laws_heldStringS.v a0_0 k1)) < 0)) then (kr (-1)) else (kr (Pu.laws_heldSketch.v a0_2 a0_3 (Pu.laws_heldStringS.v a0_1 (Pu.laws_heldStringS.v a0_0 k1))))) else (none))) else (none))) else (none)
theorem b_bind {R : Type} (kr : Int → Option R) (a0_0 : Row) (a0_1 : Row) (a0_2 : Row) (a0_3 : Int) (k1 : Int) : b kr a0_0 a0_1 a0_2 a0_3 k1 = Option.bind (b (fun r0 => some (r0)) a0_0 a0_1 a0_2 a0_3 k1) (fun p => kr p) := by
  unfold b; simp only [Lib.cond_bind, Lib.some_bind, Lib.none_bind]
def vo (a0_0 : Row) (a0_1 : Row) (a0_2 : Row) (a0_3 : Int) (k1 : Int) : Option (Int) := b (fun r0 => some (r0)) a0_0 a0_1 a0_2 a0_3 k1
def c (a0_0 : Row) (a0_1 : Row) (a0_2 : Row) (a0_3 : Int) (k1 : Int) : Bool := Option.isSome (vo a0_0 a0_1 a0_2 a0_3 k1)
def v (a0_0 : Row) (a0_1 : Row) (a0_2 : Row) (a0_3 : Int) (k1 : Int) : Int := Option.getD (vo a0_0 a0_1 a0_2 a0_3 k1) (0)
theorem out (a0_0 : Row) (a0_1 : Row) (a0_2 : Row) (a0_3 : Int) (k1 : Int) {x : Int} (h : vo a0_0 a0_1 a0_2 a0_3 k1 = some x) : c a0_0 a0_1 a0_2 a0_3 k1 = true ∧ v a0_0 a0_1 a0_2 a0_3 k1 = x := by
  unfold c v; rw [h]; exact ⟨rfl, rfl⟩
theorem b_eq {R : Type} (kr : Int → Option R) (a0_0 : Row) (a0_1 : Row) (a0_2 : Row) (a0_3 : Int) (k1 : Int) (hc : c a0_0 a0_1 a0_2 a0_3 k1 = true) : b kr a0_0 a0_1 a0_2 a0_3 k1 = kr (v a0_0 a0_1 a0_2 a0_3 k1) := by
  rw [b_bind]
  have e : vo a0_0 a0_1 a0_2 a0_3 k1 = some (v a0_0 a0_1 a0_2 a0_3 k1) := by
    unfold c at hc; unfold v
    cases h : vo a0_0 a0_1 a0_2 a0_3 k1 with
    | none => rw [h] at hc; cases hc
    | some x => rfl
  unfold vo at e
  rw [e]; rfl
end Go.FG.Pu.laws_heldPolicy

namespace Go.FG.Pu.laws_heldFetchS
def r2 {R : Type} (N : Nat) (g : Row → Int → Int → Int → Option R) (k0 : Row → Int → Int → Int → Option R) (k1 : Row → Int → Int → Int → Option R) (x0 : Row) (x1 : Int) (x2 : Int) (x3 : Int) : Option R := bif (decide (x3 < (↑(List.length x0) : Int))) then (bif (decide (0 ≤ x3) && decide (x3 < (↑(List.length x0) : Int))) then (bif (Pu.laws_markText.c x1) then (bif (!List.beq (ByteArray.toList (cvS (cellAt x0 (Int.toNat x3) 0))) (ByteArray.toList (Pu.laws_markText.v x1))) then (k0 x0 x1 (-1) x3) else (bif (decide (0 ≤ x3) && decide (x3 < (↑(List.length x0) : Int))) then (bif (Pu.laws_markText.c (w64 (x1 + 1))) then (bif (!List.beq (ByteArray.toList (cvS (cellAt x0 (Int.toNat x3) 1))) (ByteArray.toList (Pu.laws_markText.v (w64 (x1 + 1))))) then (k0 x0 (w64 (x1 + 1)) (-1) x3) else (bif (decide (0 ≤ x3) && decide (x3 < (↑(List.length x0) : Int))) then (bif (cvI (cellAt x0 (Int.toNat x3) 2) != w64 (w64 (x1 + 1) + 1)) then (k0 x0 (w64 (w64 (x1 + 1) + 1)) (-1) x3) else (bif (decide (0 ≤ x3) && decide (x3 < (↑(List.length x0) : Int))) then (bif (cvI (cellAt x0 (Int.toNat x3) 3) != w64 (w64 (w64 (x1 + 1) + 1) + 1)) then (k0 x0 (w64 (w64 (w64 (x1 + 1) + 1) + 1)) (-1) x3) else (bif (decide (0 ≤ x3) && decide (x3 < (↑(List.length x0) : Int))) then (bif (cvI (cellAt x0 (Int.toNat x3) 4) != w64 (w64 (w64 (w64 (x1 + 1) + 1) + 1) + 1)) then (k0 x0 (w64 (w64 (w64 (w64 (x1 + 1) + 1) + 1) + 1)) (-1) x3) else (g x0 (w64 (w64 (w64 (w64 (w64 (x1 + 1) + 1) + 1) + 1) + 1)) x2 (w64 (x3 + 1)))) else (none))) else (none))) else (none))) else (none)) else (none))) else (none)) else (none)) else (k1 x0 x1 x2 x3)
def l2 {R : Type} (N : Nat) (k0 : Row → Int → Int → Int → Option R) (k1 : Row → Int → Int → Int → Option R) : Nat → Row → Int → Int → Int → Option R
  | 0 => (fun _ _ _ _ => none)
  | n + 1 => (fun x0 x1 x2 x3 => r2 N (l2 N k0 k1 n) k0 k1 x0 x1 x2 x3)
def b {R : Type} (N : Nat) (kr : Int → Option R) (a0 : Row) (k1 : Int) : Option R := l2 N (fun y4 y5 y6 y7 => kr y6) (fun y8 y9 y10 y11 => kr y9) N a0 k1 0 0
theorem q2_bind {R S : Type} (f : R → Option S) (N : Nat) (k0 : Row → Int → Int → Int → Option R) (k1 : Row → Int → Int → Int → Option R) : ∀ n : Nat, (∀ (x0 : Row) (x1 : Int) (x2 : Int) (x3 : Int), Option.bind (l2 N k0 k1 n x0 x1 x2 x3) f = l2 N (fun y0 y1 y2 y3 => (Option.bind (k0 y0 y1 y2 y3) f)) (fun y0 y1 y2 y3 => (Option.bind (k1 y0 y1 y2 y3) f)) n x0 x1 x2 x3) := by
  intro n
  induction n with
  | zero => exact (fun _ _ _ _ => rfl)
  | succ n ih =>
    intro x0 x1 x2 x3
    simp only [l2, r2, Lib.cond_bind, Lib.some_bind, Lib.none_bind, ih]
theorem l2_bind {R S : Type} (f : R → Option S) (N : Nat) (k0 : Row → Int → Int → Int → Option R) (k1 : Row → Int → Int → Int → Option R) (n : Nat) (x0 : Row) (x1 : Int) (x2 : Int) (x3 : Int) : Option.bind (l2 N k0 k1 n x0 x1 x2 x3) f = l2 N (fun y0 y1 y2 y3 => (Option.bind (k0 y0 y1 y2 y3) f)) (fun y0 y1 y2 y3 => (Option.bind (k1 y0 y1 y2 y3) f)) n x0 x1 x2 x3 := (q2_bind f N k0 k1 n) x0 x1 x2 x3
theorem b_bind {R : Type} (N : Nat) (kr : Int → Option R) (a0 : Row) (k1 : Int) : b N kr a0 k1 = Option.bind (b N (fun r0 => some (r0)) a0 k1) (fun p => kr p) := by
  unfold b; simp only [Lib.cond_bind, Lib.some_bind, Lib.none_bind, l2_bind]
def vo (a0 : Row) (k1 : Int) : Option (Int) := b Lib.big (fun r0 => some (r0)) a0 k1
def c (a0 : Row) (k1 : Int) : Bool := Option.isSome (vo a0 k1)
def v (a0 : Row) (k1 : Int) : Int := Option.getD (vo a0 k1) (0)
theorem out (a0 : Row) (k1 : Int) {x : Int} (h : vo a0 k1 = some x) : c a0 k1 = true ∧ v a0 k1 = x := by
  unfold c v; rw [h]; exact ⟨rfl, rfl⟩
theorem b_eq {R : Type} (kr : Int → Option R) (a0 : Row) (k1 : Int) (hc : c a0 k1 = true) : ∃ N, b N kr a0 k1 = kr (v a0 k1) := by
  refine ⟨Lib.big, ?_⟩
  rw [b_bind]
  have e : vo a0 k1 = some (v a0 k1) := by
    unfold c at hc; unfold v
    cases h : vo a0 k1 with
    | none => rw [h] at hc; cases hc
    | some x => rfl
  unfold vo at e
  rw [e]; rfl
end Go.FG.Pu.laws_heldFetchS

namespace Go.FG.Pu.laws_heldClientS
def r2 {R : Type} (N : Nat) (g : Row → Int → Int → Int → Option R) (k0 : Row → Int → Int → Int → Option R) (k1 : Row → Int → Int → Int → Option R) (x0 : Row) (x1 : Int) (x2 : Int) (x3 : Int) : Option R := bif (decide (x3 < (↑(List.length x0) : Int))) then (bif (decide (0 ≤ x3) && decide (x3 < (↑(List.length x0) : Int))) then (bif (cvI (cellAt x0 (Int.toNat x3) 0) != x1) then (k0 x0 x1 (-1) x3) else (bif (decide (0 ≤ x3) && decide (x3 < (↑(List.length x0) : Int))) then (bif (Pu.laws_markText.c (w64 (x1 + 1))) then (bif (!List.beq (ByteArray.toList (cvS (cellAt x0 (Int.toNat x3) 1))) (ByteArray.toList (Pu.laws_markText.v (w64 (x1 + 1))))) then (k0 x0 (w64 (x1 + 1)) (-1) x3) else (bif (decide (0 ≤ x3) && decide (x3 < (↑(List.length x0) : Int))) then (bif (cvI (cellAt x0 (Int.toNat x3) 2) != w64 (w64 (x1 + 1) + 1)) then (k0 x0 (w64 (w64 (x1 + 1) + 1)) (-1) x3) else (bif (decide (0 ≤ x3) && decide (x3 < (↑(List.length x0) : Int))) then (bif (cvI (cellAt x0 (Int.toNat x3) 3) != w64 (w64 (w64 (x1 + 1) + 1) + 1)) then (k0 x0 (w64 (w64 (w64 (x1 + 1) + 1) + 1)) (-1) x3) else (bif (decide (0 ≤ x3) && decide (x3 < (↑(List.length x0) : Int))) then (bif (cvI (cellAt x0 (Int.toNat x3) 4) != w64 (w64 (w64 (w64 (x1 + 1) + 1) + 1) + 1)) then (k0 x0 (w64 (w64 (w64 (w64 (x1 + 1) + 1) + 1) + 1)) (-1) x3) else (bif (decide (0 ≤ x3) && decide (x3 < (↑(List.length x0) : Int))) then (bif (Pu.laws_markText.c (w64 (w64 (w64 (w64 (w64 (x1 + 1) + 1) + 1) + 1) + 1))) then (bif (!List.beq (ByteArray.toList (cvS (cellAt x0 (Int.toNat x3) 5))) (ByteArray.toList (Pu.laws_markText.v (w64 (w64 (w64 (w64 (w64 (x1 + 1) + 1) + 1) + 1) + 1))))) then (k0 x0 (w64 (w64 (w64 (w64 (w64 (x1 + 1) + 1) + 1) + 1) + 1)) (-1) x3) else (bif (decide (0 ≤ x3) && decide (x3 < (↑(List.length x0) : Int))) then (bif (cvI (cellAt x0 (Int.toNat x3) 6) != w64 (w64 (w64 (w64 (w64 (w64 (x1 + 1) + 1) + 1) + 1) + 1) + 1)) then (k0 x0 (w64 (w64 (w64 (w64 (w64 (w64 (x1 + 1) + 1) + 1) + 1) + 1) + 1)) (-1) x3) else (g x0 (w64 (w64 (w64 (w64 (w64 (w64 (w64 (x1 + 1) + 1) + 1) + 1) + 1) + 1) + 1)) x2 (w64 (x3 + 1)))) else (none))) else (none)) else (none))) else (none))) else (none))) else (none))) else (none)) else (none))) else (none)) else (k1 x0 x1 x2 x3)
def l2 {R : Type} (N : Nat) (k0 : Row → Int → Int → Int → Option R) (k1 : Row → Int → Int → Int → Option R) : Nat → Row → Int → Int → Int → Option R
  | 0 => (fun _ _ _ _ => none)
  | n + 1 => (fun x0 x1 x2 x3 => r2 N (l2 N k0 k1 n) k0 k1 x0 x1 x2 x3)
def b {R : Type} (N : Nat) (kr : Int → Option R) (a0 : Row) (k1 : Int) : Option R := l2 N (fun y4 y5 y6 y7 => kr y6) (fun y8 y9 y10 y11 => kr y9) N a0 k1 0 0
theorem q2_bind {R S : Type} (f : R → Option S) (N : Nat) (k0 : Row → Int → Int → Int → Option R) (k1 : Row → Int → Int → Int → Option R) : ∀ n : Nat, (∀ (x0 : Row) (x1 : Int) (x2 : Int) (x3 : Int), Option.bind (l2 N k0 k1 n x0 x1 x2 x3) f = l2 N (fun y0 y1 y2 y3 => (Option.bind (k0 y0 y1 y2 y3) f)) (fun y0 y1 y2 y3 => (Option.bind (k1 y0 y1 y2 y3) f)) n x0 x1 x2 x3) := by
  intro n
  induction n with
  | zero => exact (fun _ _ _ _ => rfl)
  | succ n ih =>
    intro x0 x1 x2 x3
    simp only [l2, r2, Lib.cond_bind, Lib.some_bind, Lib.none_bind, ih]
theorem l2_bind {R S : Type} (f : R → Option S) (N : Nat) (k0 : Row → Int → Int → Int → Option R) (k1 : Row → Int → Int → Int → Option R) (n : Nat) (x0 : Row) (x1 : Int) (x2 : Int) (x3 : Int) : Option.bind (l2 N k0 k1 n x0 x1 x2 x3) f = l2 N (fun y0 y1 y2 y3 => (Option.bind (k0 y0 y1 y2 y3) f)) (fun y0 y1 y2 y3 => (Option.bind (k1 y0 y1 y2 y3) f)) n x0 x1 x2 x3 := (q2_bind f N k0 k1 n) x0 x1 x2 x3
theorem b_bind {R : Type} (N : Nat) (kr : Int → Option R) (a0 : Row) (k1 : Int) : b N kr a0 k1 = Option.bind (b N (fun r0 => some (r0)) a0 k1) (fun p => kr p) := by
  unfold b; simp only [Lib.cond_bind, Lib.some_bind, Lib.none_bind, l2_bind]
def vo (a0 : Row) (k1 : Int) : Option (Int) := b Lib.big (fun r0 => some (r0)) a0 k1
def c (a0 : Row) (k1 : Int) : Bool := Option.isSome (vo a0 k1)
def v (a0 : Row) (k1 : Int) : Int := Option.getD (vo a0 k1) (0)
theorem out (a0 : Row) (k1 : Int) {x : Int} (h : vo a0 k1 = some x) : c a0 k1 = true ∧ v a0 k1 = x := by
  unfold c v; rw [h]; exact ⟨rfl, rfl⟩
theorem b_eq {R : Type} (kr : Int → Option R) (a0 : Row) (k1 : Int) (hc : c a0 k1 = true) : ∃ N, b N kr a0 k1 = kr (v a0 k1) := by
  refine ⟨Lib.big, ?_⟩
  rw [b_bind]
  have e : vo a0 k1 = some (v a0 k1) := by
    unfold c at hc; unfold v
    cases h : vo a0 k1 with
    | none => rw [h] at hc; cases hc
    | some x => rfl
  unfold vo at e
  rw [e]; rfl
end Go.FG.Pu.laws_heldClientS

namespace Go.FG.Pu.laws_heldProxy
def b {R : Type} (kr : Int → Option R) (a0_0 : Int) (a0_1 : Row) (a0_2 : Row) (a0_3 : Row) (a0_4 : Row) (a0_5 : Int) (a0_6 : Row) (a0_7 : Row) (a0_8 : Int) (k1 : Int) : Option R := bif (Pu.laws_heldEntryS.c a0_1 k1) then (bif (decide (Pu.laws_heldEntryS.v a0_1 k1 < 0)) then (kr (-1)) else (bif (Pu.laws_heldPolicy.c a0_2 a0_3 a0_4 a0_5 (Pu.laws_heldEntryS.v a0_1 k1)) then (bif (decide (Pu.laws_heldPolicy.v a0_2 a0_3 a0_4 a0_5 (Pu.laws_heldEntryS.v a0_1 k1) < 0)) then (kr (-1)) else (bif (Pu.laws_heldFetchS.c a0_6 (Pu.laws_heldPolicy.v a0_2 a0_3 a0_4 a0_5 (Pu.laws_heldEntryS.v a0_1 k1))) then (bif (decide (Pu.laws_heldFetchS.v a0_6 (Pu.laws_heldPolicy.v a0_2 a0_3 a0_4 a0_5 (Pu.laws_heldEntryS.v a0_1 k1)) < 0)) then (kr (-1)) else (bif (Pu.laws_heldClientS.c a0_7 (Pu.laws_heldFetchS.v a0_6 (Pu.laws_heldPolicy.v a0_2 a0_3 a0_4 a0_5 (Pu.laws_heldEntryS.v a0_1 k1)))) then (bif (decide (Pu.laws_heldClientS.v a0_7 (Pu.laws_heldFetchS.v a0_6 (Pu.laws_heldPolicy.v a0_2 a0_3 a0_4 a0_5 (Pu.laws_heldEntryS.v a0_1 k1))) < 0)) then (kr (-1)) else (kr (Pu.laws_heldClientS.v a0_7 (Pu.laws_heldFetchS.v a0_6 (Pu.laws_heldPolicy.v a0_2 a0_3 a0_4 a0_5 (Pu.laws_heldEntryS.v a0_1 k1)))))) else (none))) else (none))) else (none))) else (none)
theorem b_bind {R : Type} (kr : Int → Option R) (a0_0 : Int) (a0_1 : Row) (a0_2 : Row) (a0_3 : Row) (a0_4 : Row) (a0_5 : Int) (a0_6 : Row) (a0_7 : Row) (a0_8 : Int) (k1 : Int) : b kr a0_0 a0_1 a0_2 a0_3 a0_4 a0_5 a0_6 a0_7 a0_8 k1 = Option.bind (b (fun r0 => some (r0)) a0_0 a0_1 a0_2 a0_3 a0_4 a0_5 a0_6 a0_7 a0_8 k1) (fun p => kr p) := by
  unfold b; simp only [Lib.cond_bind, Lib.some_bind, Lib.none_bind]
def vo (a0_0 : Int) (a0_1 : Row) (a0_2 : Row) (a0_3 : Row) (a0_4 : Row) (a0_5 : Int) (a0_6 : Row) (a0_7 : Row) (a0_8 : Int) (k1 : Int) : Option (Int) := b (fun r0 => some (r0)) a0_0 a0_1 a0_2 a0_3 a0_4 a0_5 a0_6 a0_7 a0_8 k1
def c (a0_0 : Int) (a0_1 : Row) (a0_2 : Row) (a0_3 : Row) (a0_4 : Row) (a0_5 : Int) (a0_6 : Row) (a0_7 : Row) (a0_8 : Int) (k1 : Int) : Bool := Option.isSome (vo a0_0 a0_1 a0_2 a0_3 a0_4 a0_5 a0_6 a0_7 a0_8 k1)
def v (a0_0 : Int) (a0_1 : Row) (a0_2 : Row) (a0_3 : Row) (a0_4 : Row) (a0_5 : Int) (a0_6 : Row) (a0_7 : Row) (a0_8 : Int) (k1 : Int) : Int := Option.getD (vo a0_0 a0_1 a0_2 a0_3 a0_4 a0_5 a0_6 a0_7 a0_8 k1) (0)
theorem out (a0_0 : Int) (a0_1 : Row) (a0_2 : Row) (a0_3 : Row) (a0_4 : Row) (a0_5 : Int) (a0_6 : Row) (a0_7 : Row) (a0_8 : Int) (k1 : Int) {x : Int} (h : vo a0_0 a0_1 a0_2 a0_3 a0_4 a0_5 a0_6 a0_7 a0_8 k1 = some x) : c a0_0 a0_1 a0_2 a0_3 a0_4 a0_5 a0_6 a0_7 a0_8 k1 = true ∧ v a0_0 a0_1 a0_2 a0_3 a0_4 a0_5 a0_6 a0_7 a0_8 k1 = x := by
  unfold c v; rw [h]; exact ⟨rfl, rfl⟩
theorem b_eq {R : Type} (kr : Int → Option R) (a0_0 : Int) (a0_1 : Row) (a0_2 : Row) (a0_3 : Row) (a0_4 : Row) (a0_5 : Int) (a0_6 : Row) (a0_7 : Row) (a0_8 : Int) (k1 : Int) (hc : c a0_0 a0_1 a0_2 a0_3 a0_4 a0_5 a0_6 a0_7 a0_8 k1 = true) : b kr a0_0 a0_1 a0_2 a0_3 a0_4 a0_5 a0_6 a0_7 a0_8 k1 = kr (v a0_0 a0_1 a0_2 a0_3 a0_4 a0_5 a0_6 a0_7 a0_8 k1) := by
  rw [b_bind]
  have e : vo a0_0 a0_1 a0_2 a0_3 a0_4 a0_5 a0_6 a0_7 a0_8 k1 = some (v a0_0 a0_1 a0_2 a0_3 a0_4 a0_5 a0_6 a0_7 a0_8 k1) := by
    unfold c at hc; unfold v
    cases h : vo a0_0 a0_1 a0_2 a0_3 a0_4 a0_5 a0_6 a0_7 a0_8 k1 with
    | none => rw [h] at hc; cases hc
    | some x => rfl
  unfold vo at e
  rw [e]; rfl
end Go.FG.Pu.laws_heldProxy

namespace Go.FG.Pu.laws_FnExactLeaveClient
def b {R : Type} (kr : Bool → Option R) (aP0_0 : Int) (aP0_1 : Row) (aP0_2 : Row) (aP0_3 : Row) (aP0_4 : Row) (aP0_5 : Int) (aP0_6 : Row) (aP0_7 : Row) (aP0_8 : Int) (aId1 : Int) : Option R := bif (Pu.laws_szProxy.c aP0_0 aP0_1 aP0_2 aP0_3 aP0_4 aP0_5 aP0_6 aP0_7 aP0_8 1048576) then (bif (decide (Pu.laws_szProxy.v aP0_0 aP0_1 aP0_2 aP0_3 aP0_4 aP0_5 aP0_6 aP0_7 aP0_8 1048576 < 0)) then (kr true) else (bif (Pu.laws_toProxy.c aP0_0 aP0_1 aP0_2 aP0_3 aP0_4 aP0_5 aP0_6 aP0_7 aP0_8) then (Lib.lt (Pu.laws_toProxy.v aP0_0 aP0_1 aP0_2 aP0_3 aP0_4 aP0_5 aP0_6 aP0_7 aP0_8) (fun t0 => bif (Pu.spec_LeaveClient.c t0.1 t0.2.1 t0.2.2.1 t0.2.2.2.1 t0.2.2.2.2.1 t0.2.2.2.2.2.1 t0.2.2.2.2.2.2.1 t0.2.2.2.2.2.2.2.1 t0.2.2.2.2.2.2.2.2 aId1) then (Lib.lt (Pu.spec_LeaveClient.v t0.1 t0.2.1 t0.2.2.1 t0.2.2.2.1 t0.2.2.2.2.1 t0.2.2.2.2.2.1 t0.2.2.2.2.2.2.1 t0.2.2.2.2.2.2.2.1 t0.2.2.2.2.2.2.2.2 aId1) (fun t1 => bif (Pu.laws_toProxy.c aP0_0 aP0_1 aP0_2 aP0_3 aP0_4 aP0_5 aP0_6 aP0_7 aP0_8) then (bif (Pu.impl_LeaveClient.c t0.1 t0.2.1 t0.2.2.1 t0.2.2.2.1 t0.2.2.2.2.1 t0.2.2.2.2.2.1 t0.2.2.2.2.2.2.1 t0.2.2.2.2.2.2.2.1 t0.2.2.2.2.2.2.2.2 aId1) then (Lib.lt (Pu.impl_LeaveClient.v t0.1 t0.2.1 t0.2.2.1 t0.2.2.2.1 t0.2.2.2.2.1 t0.2.2.2.2.2.1 t0.2.2.2.2.2.2.1 t0.2.2.2.2.2.2.2.1 t0.2.2.2.2.2.2.2.2 aId1) (fun t2 => bif (Pu.laws_eqProxy.c t2.1 t2.2.1 t2.2.2.1 t2.2.2.2.1 t2.2.2.2.2.1 t2.2.2.2.2.2.1 t2.2.2.2.2.2.2.1 t2.2.2.2.2.2.2.2.1 t2.2.2.2.2.2.2.2.2 t1.1 t1.2.1 t1.2.2.1 t1.2.2.2.1 t1.2.2.2.2.1 t1.2.2.2.2.2.1 t1.2.2.2.2.2.2.1 t1.2.2.2.2.2.2.2.1 t1.2.2.2.2.2.2.2.2) then (bif (!Pu.laws_eqProxy.v t2.1 t2.2.1 t2.2.2.1 t2.2.2.2.1 t2.2.2.2.2.1 t2.2.2.2.2.2.1 t2.2.2.2.2.2.2.1 t2.2.2.2.2.2.2.2.1 t2.2.2.2.2.2.2.2.2 t1.1 t1.2.1 t1.2.2.1 t1.2.2.2.1 t1.2.2.2.2.1 t1.2.2.2.2.2.1 t1.2.2.2.2.2.2.1 t1.2.2.2.2.2.2.2.1 t1.2.2.2.2.2.2.2.2) then (kr false) else (bif (Pu.laws_toProxy.c aP0_0 aP0_1 aP0_2 aP0_3 aP0_4 aP0_5 aP0_6 aP0_7 aP0_8) then (bif (Pu.laws_eqProxy.c t0.1 t0.2.1 t0.2.2.1 t0.2.2.2.1 t0.2.2.2.2.1 t0.2.2.2.2.2.1 t0.2.2.2.2.2.2.1 t0.2.2.2.2.2.2.2.1 t0.2.2.2.2.2.2.2.2 t0.1 t0.2.1 t0.2.2.1 t0.2.2.2.1 t0.2.2.2.2.1 t0.2.2.2.2.2.1 t0.2.2.2.2.2.2.1 t0.2.2.2.2.2.2.2.1 t0.2.2.2.2.2.2.2.2) then (bif (!Pu.laws_eqProxy.v t0.1 t0.2.1 t0.2.2.1 t0.2.2.2.1 t0.2.2.2.2.1 t0.2.2.2.2.2.1 t0.2.2.2.2.2.2.1 t0.2.2.2.2.2.2.2.1 t0.2.2.2.2.2.2.2.2 t0.1 t0.2.1 t0.2.2.1 t0.2.2.2.1 t0.2.2.2.2.1 t0.2.2.2.2.2.1 t0.2.2.2.2.2.2.1 t0.2.2.2.2.2.2.2.1 t0.2.2.2.2.2.2.2.2) then (kr false) else (bif (Pu.laws_markProxy.c t0.1 t0.2.1 t0.2.2.1 t0.2.2.2.1 t0.2.2.2.2.1 t0.2.2.2.2.2.1 t0.2.2.2.2.2.2.1 t0.2.2.2.2.2.2.2.1 t0.2.2.2.2.2.2.2.2 1) then (bif (decide ((Pu.laws_markProxy.v t0.1 t0.2.1 t0.2.2.1 t0.2.2.2.1 t0.2.2.2.2.1 t0.2.2.2.2.2.1 t0.2.2.2.2.2.2.1 t0.2.2.2.2.2.2.2.1 t0.2.2.2.2.2.2.2.2 1).1 < 0)) then (kr false) else (bif (Pu.laws_eqProxy.c t2.1 t2.2.1 t2.2.2.1 t2.2.2.2.1 t2.2.2.2.2.1 t2.2.2.2.2.2.1 t2.2.2.2.2.2.2.1 t2.2.2.2.2.2.2.2.1 t2.2.2.2.2.2.2.2.2 t1.1 t1.2.1 t1.2.2.1 t1.2.2.2.1 t1.2.2.2.2.1 t1.2.2.2.2.2.1 t1.2.2.2.2.2.2.1 t1.2.2.2.2.2.2.2.1 t1.2.2.2.2.2.2.2.2) then (bif (!Pu.laws_eqProxy.v t2.1 t2.2.1 t2.2.2.1 t2.2.2.2.1 t2.2.2.2.2.1 t2.2.2.2.2.2.1 t2.2.2.2.2.2.2.1 t2.2.2.2.2.2.2.2.1 t2.2.2.2.2.2.2.2.2 t1.1 t1.2.1 t1.2.2.1 t1.2.2.2.1 t1.2.2.2.2.1 t1.2.2.2.2.2.1 t1.2.2.2.2.2.2.1 t1.2.2.2.2.2.2.2.1 t1.2.2.2.2.2.2.2.2) then (kr false) else (bif (Pu.laws_markProxy.c t2.1 t2.2.1 t2.2.2.1 t2.2.2.2.1 t2.2.2.2.2.1 t2.2.2.2.2.2.1 t2.2.2.2.2.2.2.1 t2.2.2.2.2.2.2.2.1 t2.2.2.2.2.2.2.2.2 1) then (Lib.lt (Pu.laws_markProxy.v t2.1 t2.2.1 t2.2.2.1 t2.2.2.2.1 t2.2.2.2.2.1 t2.2.2.2.2.2.1 t2.2.2.2.2.2.2.1 t2.2.2.2.2.2.2.2.1 t2.2.2.2.2.2.2.2.2 1) (fun t3 => bif (Pu.laws_heldProxy.c t2.1 t3.2.1 t3.2.2.1 t3.2.2.2.1 t3.2.2.2.2.1 t2.2.2.2.2.2.1 t3.2.2.2.2.2.1 t3.2.2.2.2.2.2 t2.2.2.2.2.2.2.2.2 1) then (bif (decide (Pu.laws_heldProxy.v t2.1 t3.2.1 t3.2.2.1 t3.2.2.2.1 t3.2.2.2.2.1 t2.2.2.2.2.2.1 t3.2.2.2.2.2.1 t3.2.2.2.2.2.2 t2.2.2.2.2.2.2.2.2 1 < 0)) then (kr false) else (bif (Pu.laws_heldProxy.v t2.1 t3.2.1 t3.2.2.1 t3.2.2.2.1 t3.2.2.2.2.1 t2.2.2.2.2.2.1 t3.2.2.2.2.2.1 t3.2.2.2.2.2.2 t2.2.2.2.2.2.2.2.2 1 != t3.1) then (kr false) else (bif (Pu.laws_toProxy.c aP0_0 aP0_1 aP0_2 aP0_3 aP0_4 aP0_5 aP0_6 aP0_7 aP0_8) then (bif (Pu.impl_LeaveClient.c t0.1 t0.2.1 t0.2.2.1 t0.2.2.2.1 t0.2.2.2.2.1 t0.2.2.2.2.2.1 t0.2.2.2.2.2.2.1 t0.2.2.2.2.2.2.2.1 t0.2.2.2.2.2.2.2.2 aId1) then (bif (Pu.laws_eqProxy.c t2.1 t2.2.1 t2.2.2.1 t2.2.2.2.1 t2.2.2.2.2.1 t2.2.2.2.2.2.1 t2.2.2.2.2.2.2.1 t2.2.2.2.2.2.2.2.1 t2.2.2.2.2.2.2.2.2 t1.1 t1.2.1 t1.2.2.1 t1.2.2.2.1 t1.2.2.2.2.1 t1.2.2.2.2.2.1 t1.2.2.2.2.2.2.1 t1.2.2.2.2.2.2.2.1 t1.2.2.2.2.2.2.2.2) then (bif (!Pu.laws_eqProxy.v t2.1 t2.2.1 t2.2.2.1 t2.2.2.2.1 t2.2.2.2.2.1 t2.2.2.2.2.2.1 t2.2.2.2.2.2.2.1 t2.2.2.2.2.2.2.2.1 t2.2.2.2.2.2.2.2.2 t1.1 t1.2.1 t1.2.2.1 t1.2.2.2.1 t1.2.2.2.2.1 t1.2.2.2.2.2.1 t1.2.2.2.2.2.2.1 t1.2.2.2.2.2.2.2.1 t1.2.2.2.2.2.2.2.2) then (kr false) else (bif (Pu.laws_heldProxy.c t2.1 t3.2.1 t3.2.2.1 t3.2.2.2.1 t3.2.2.2.2.1 t2.2.2.2.2.2.1 t3.2.2.2.2.2.1 t3.2.2.2.2.2.2 t2.2.2.2.2.2.2.2.2 1) then (bif (decide (Pu.laws_heldProxy.v t2.1 t3.2.1 t3.2.2.1 t3.2.2.2.1 t3.2.2.2.2.1 t2.2.2.2.2.2.1 t3.2.2.2.2.2.1 t3.2.2.2.2.2.2 t2.2.2.2.2.2.2.2.2 1 < 0)) then (kr false) else (bif (Pu.laws_heldProxy.v t2.1 t3.2.1 t3.2.2.1 t3.2.2.2.1 t3.2.2.2.2.1 t2.2.2.2.2.2.1 t3.2.2.2.2.2.1 t3.2.2.2.2.2.2 t2.2.2.2.2.2.2.2.2 1 != t3.1) then (kr false) else (kr true))) else (none))) else (none)) else (none)) else (none)))) else (none))) else (none))) else (none))) else (none))) else (none)) else (none))) else (none))) else (none)) else (none))) else (none))) else (none))) else (none)
theorem b_bind {R : Type} (kr : Bool → Option R) (aP0_0 : Int) (aP0_1 : Row) (aP0_2 : Row) (aP0_3 : Row) (aP0_4 : Row) (aP0_5 : Int) (aP0_6 : Row) (aP0_7 : Row) (aP0_8 : Int) (aId1 : Int) : b kr aP0_0 aP0_1 aP0_2 aP0_3 aP0_4 aP0_5 aP0_6 aP0_7 aP0_8 aId1 = Option.bind (b (fun r0 => some (r0)) aP0_0 aP0_1 aP0_2 aP0_3 aP0_4 aP0_5 aP0_6 aP0_7 aP0_8 aId1) (fun p => kr p) := by
  unfold b; simp only [Lib.lt_bind, Lib.cond_bind, Lib.some_bind, Lib.none_bind]
def vo (aP0_0 : Int) (aP0_1 : Row) (aP0_2 : Row) (aP0_3 : Row) (aP0_4 : Row) (aP0_5 : Int) (aP0_6 : Row) (aP0_7 : Row) (aP0_8 : Int) (aId1 : Int) : Option (Bool) := b (fun r0 => some (r0)) aP0_0 aP0_1 aP0_2 aP0_3 aP0_4 aP0_5 aP0_6 aP0_7 aP0_8 aId1
def c (aP0_0 : Int) (aP0_1 : Row) (aP0_2 : Row) (aP0_3 : Row) (aP0_4 : Row) (aP0_5 : Int) (aP0_6 : Row) (aP0_7 : Row) (aP0_8 : Int) (aId1 : Int) : Bool := Option.isSome (vo aP0_0 aP0_1 aP0_2 aP0_3 aP0_4 aP0_5 aP0_6 aP0_7 aP0_8 aId1)
def v (aP0_0 : Int) (aP0_1 : Row) (aP0_2 : Row) (aP0_3 : Row) (aP0_4 : Row) (aP0_5 : Int) (aP0_6 : Row) (aP0_7 : Row) (aP0_8 : Int) (aId1 : Int) : Bool := Option.getD (vo aP0_0 aP0_1 aP0_2 aP0_3 aP0_4 aP0_5 aP0_6 aP0_7 aP0_8 aId1) (false)
theorem out (aP0_0 : Int) (aP0_1 : Row) (aP0_2 : Row) (aP0_3 : Row) (aP0_4 : Row) (aP0_5 : Int) (aP0_6 : Row) (aP0_7 : Row) (aP0_8 : Int) (aId1 : Int) {x : Bool} (h : vo aP0_0 aP0_1 aP0_2 aP0_3 aP0_4 aP0_5 aP0_6 aP0_7 aP0_8 aId1 = some x) : c aP0_0 aP0_1 aP0_2 aP0_3 aP0_4 aP0_5 aP0_6 aP0_7 aP0_8 aId1 = true ∧ v aP0_0 aP0_1 aP0_2 aP0_3 aP0_4 aP0_5 aP0_6 aP0_7 aP0_8 aId1 = x := by
  unfold c v; rw [h]; exact ⟨rfl, rfl⟩
theorem b_eq {R : Type} (kr : Bool → Option R) (aP0_0 : Int) (aP0_1 : Row) (aP0_2 : Row) (aP0_3 : Row) (aP0_4 : Row) (aP0_5 : Int) (aP0_6 : Row) (aP0_7 : Row) (aP0_8 : Int) (aId1 : Int) (hc : c aP0_0 aP0_1 aP0_2 aP0_3 aP0_4 aP0_5 aP0_6 aP0_7 aP0_8 aId1 = true) : b kr aP0_0 aP0_1 aP0_2 aP0_3 aP0_4 aP0_5 aP0_6 aP0_7 aP0_8 aId1 = kr (v aP0_0 aP0_1 aP0_2 aP0_3 aP0_4 aP0_5 aP0_6 aP0_7 aP0_8 aId1) := by
  rw [b_bind]
  have e : vo aP0_0 aP0_1 aP0_2 aP0_3 aP0_4 aP0_5 aP0_6 aP0_7 aP0_8 aId1 = some (v aP0_0 aP0_1 aP0_2 aP0_3 aP0_4 aP0_5 aP0_6 aP0_7 aP0_8 aId1) := by
    unfold c at hc; unfold v
    cases h : vo aP0_0 aP0_1 aP0_2 aP0_3 aP0_4 aP0_5 aP0_6 aP0_7 aP0_8 aId1 with
    | none => rw [h] at hc; cases hc
    | some x => rfl
  unfold vo at e
  rw [e]; rfl
end Go.FG.Pu.laws_FnExactLeaveClient

