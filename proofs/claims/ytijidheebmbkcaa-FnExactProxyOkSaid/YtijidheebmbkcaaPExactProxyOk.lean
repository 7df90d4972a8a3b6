/- Functions of the program, told as functions of numbers, texts and lists, and what each comes to. No condition but those that each states. -/
import Derived.Test.YtijidheebmbkcaaLib
set_option linter.unusedVariables false
set_option linter.unusedSimpArgs false
set_option maxRecDepth 100000
namespace Go.FG.Pu.laws_szEntry
def b {R : Type} (kr : Int → Option R) (a0_0 : ByteArray) (a0_1 : Int) (a0_2 : Int) (a0_3 : ByteArray) (left1 : Int) : Option R := bif (decide (w64 (left1 - (↑(ByteArray.size a0_0) : Int)) < 0)) then (kr (-1)) else (bif (decide (w64 (w64 (left1 - (↑(ByteArray.size a0_0) : Int)) - (↑(ByteArray.size a0_3) : Int)) < 0)) then (kr (-1)) else (kr (w64 (w64 (left1 - (↑(ByteArray.size a0_0) : Int)) - (↑(ByteArray.size a0_3) : Int)))))
def v (a0_0 : ByteArray) (a0_1 : Int) (a0_2 : Int) (a0_3 : ByteArray) (left1 : Int) : Int := bif (decide (w64 (left1 - (↑(ByteArray.size a0_0) : Int)) < 0)) then (((-1))) else (bif (decide (w64 (w64 (left1 - (↑(ByteArray.size a0_0) : Int)) - (↑(ByteArray.size a0_3) : Int)) < 0)) then (((-1))) else (((w64 (w64 (left1 - (↑(ByteArray.size a0_0) : Int)) - (↑(ByteArray.size a0_3) : Int))))))
theorem b_eq {R : Type} (kr : Int → Option R) (a0_0 : ByteArray) (a0_1 : Int) (a0_2 : Int) (a0_3 : ByteArray) (left1 : Int) : b kr a0_0 a0_1 a0_2 a0_3 left1 = kr (v a0_0 a0_1 a0_2 a0_3 left1) := by
  first | rfl | (unfold b v; simp only [Bool.cond_eq_ite]; (repeat' split) <;> rfl)
end Go.FG.Pu.laws_szEntry

namespace Go.FG.Pu.laws_szEntryS
def r5 {R : Type} (N : Nat) (g : Row → Int → Int → Int → Option R) (k0 : Row → Int → Int → Int → Option R) (k1 : Row → Int → Int → Int → Option R) (x0 : Row) (x1 : Int) (x2 : Int) (x3 : Int) : Option R := bif (decide (x3 < (↑(List.length x0) : Int))) then (bif (decide (0 ≤ x3) && decide (x3 < (↑(List.length x0) : Int))) then (bif (decide (Pu.laws_szEntry.v (cvS (cellAt x0 (Int.toNat x3) 0)) (cvI (cellAt x0 (Int.toNat x3) 1)) (cvI (cellAt x0 (Int.toNat x3) (1 + 1))) (cvS (cellAt x0 (Int.toNat x3) (1 + 1 + 1))) x1 < 0)) then (k0 x0 (Pu.laws_szEntry.v (cvS (cellAt x0 (Int.toNat x3) 0)) (cvI (cellAt x0 (Int.toNat x3) 1)) (cvI (cellAt x0 (Int.toNat x3) (1 + 1))) (cvS (cellAt x0 (Int.toNat x3) (1 + 1 + 1))) x1) (-1) x3) else (g x0 (Pu.laws_szEntry.v (cvS (cellAt x0 (Int.toNat x3) 0)) (cvI (cellAt x0 (Int.toNat x3) 1)) (cvI (cellAt x0 (Int.toNat x3) (1 + 1))) (cvS (cellAt x0 (Int.toNat x3) (1 + 1 + 1))) x1) x2 (w64 (x3 + 1)))) else (none)) else (k1 x0 x1 x2 x3)
def l5 {R : Type} (N : Nat) (k0 : Row → Int → Int → Int → Option R) (k1 : Row → Int → Int → Int → Option R) : Nat → Row → Int → Int → Int → Option R
  | 0 => (fun _ _ _ _ => none)
  | n + 1 => (fun x0 x1 x2 x3 => r5 N (l5 N k0 k1 n) k0 k1 x0 x1 x2 x3)
def b {R : Type} (N : Nat) (kr : Int → Option R) (a0 : Row) (left1 : Int) : Option R := bif (decide (w64 (left1 - (↑(List.length a0) : Int)) < 0)) then (kr (-1)) else (l5 N (fun y4 y5 y6 y7 => kr y6) (fun y8 y9 y10 y11 => kr y9) N a0 (w64 (left1 - (↑(List.length a0) : Int))) 0 0)
theorem q5_bind {R S : Type} (f : R → Option S) (N : Nat) (k0 : Row → Int → Int → Int → Option R) (k1 : Row → Int → Int → Int → Option R) : ∀ n : Nat, (∀ (x0 : Row) (x1 : Int) (x2 : Int) (x3 : Int), Option.bind (l5 N k0 k1 n x0 x1 x2 x3) f = l5 N (fun y0 y1 y2 y3 => (Option.bind (k0 y0 y1 y2 y3) f)) (fun y0 y1 y2 y3 => (Option.bind (k1 y0 y1 y2 y3) f)) n x0 x1 x2 x3) := by
  intro n
  induction n with
  | zero => exact (fun _ _ _ _ => rfl)
  | succ n ih =>
    intro x0 x1 x2 x3
    simp only [l5, r5, Lib.cond_bind, Lib.some_bind, Lib.none_bind, ih]
theorem l5_bind {R S : Type} (f : R → Option S) (N : Nat) (k0 : Row → Int → Int → Int → Option R) (k1 : Row → Int → Int → Int → Option R) (n : Nat) (x0 : Row) (x1 : Int) (x2 : Int) (x3 : Int) : Option.bind (l5 N k0 k1 n x0 x1 x2 x3) f = l5 N (fun y0 y1 y2 y3 => (Option.bind (k0 y0 y1 y2 y3) f)) (fun y0 y1 y2 y3 => (Option.bind (k1 y0 y1 y2 y3) f)) n x0 x1 x2 x3 := (q5_bind f N k0 k1 n) x0 x1 x2 x3
theorem b_bind {R : Type} (N : Nat) (kr : Int → Option R) (a0 : Row) (left1 : Int) : b N kr a0 left1 = Option.bind (b N (fun r0 => some (r0)) a0 left1) (fun p => kr p) := by
  unfold b; simp only [Lib.cond_bind, Lib.some_bind, Lib.none_bind, l5_bind]
def vo (a0 : Row) (left1 : Int) : Option (Int) := b Lib.big (fun r0 => some (r0)) a0 left1
def c (a0 : Row) (left1 : Int) : Bool := Option.isSome (vo a0 left1)
def v (a0 : Row) (left1 : Int) : Int := Option.getD (vo a0 left1) (0)
theorem out (a0 : Row) (left1 : Int) {x : Int} (h : vo a0 left1 = some x) : c a0 left1 = true ∧ v a0 left1 = x := by
  unfold c v; rw [h]; exact ⟨rfl, rfl⟩
theorem b_eq {R : Type} (kr : Int → Option R) (a0 : Row) (left1 : Int) (hc : c a0 left1 = true) : ∃ N, b N kr a0 left1 = kr (v a0 left1) := by
  refine ⟨Lib.big, ?_⟩
  rw [b_bind]
  have e : vo a0 left1 = some (v a0 left1) := by
    unfold c at hc; unfold v
    cases h : vo a0 left1 with
    | none => rw [h] at hc; cases hc
    | some x => rfl
  unfold vo at e
  rw [e]; rfl
end Go.FG.Pu.laws_szEntryS

namespace Go.FG.Pu.laws_szStringS
def r5 {R : Type} (N : Nat) (g : Row → Int → Int → Int → Option R) (k0 : Row → Int → Int → Int → Option R) (k1 : Row → Int → Int → Int → Option R) (x0 : Row) (x1 : Int) (x2 : Int) (x3 : Int) : Option R := bif (decide (x3 < (↑(List.length x0) : Int))) then (bif (decide (0 ≤ x3) && decide (x3 < (↑(List.length x0) : Int))) then (bif (decide (w64 (x1 - (↑(ByteArray.size (cvS (cellAt x0 (Int.toNat x3) 0))) : Int)) < 0)) then (k0 x0 (w64 (x1 - (↑(ByteArray.size (cvS (cellAt x0 (Int.toNat x3) 0))) : Int))) (-1) x3) else (g x0 (w64 (x1 - (↑(ByteArray.size (cvS (cellAt x0 (Int.toNat x3) 0))) : Int))) x2 (w64 (x3 + 1)))) else (none)) else (k1 x0 x1 x2 x3)
def l5 {R : Type} (N : Nat) (k0 : Row → Int → Int → Int → Option R) (k1 : Row → Int → Int → Int → Option R) : Nat → Row → Int → Int → Int → Option R
  | 0 => (fun _ _ _ _ => none)
  | n + 1 => (fun x0 x1 x2 x3 => r5 N (l5 N k0 k1 n) k0 k1 x0 x1 x2 x3)
def b {R : Type} (N : Nat) (kr : Int → Option R) (a0 : Row) (left1 : Int) : Option R := bif (decide (w64 (left1 - (↑(List.length a0) : Int)) < 0)) then (kr (-1)) else (l5 N (fun y4 y5 y6 y7 => kr y6) (fun y8 y9 y10 y11 => kr y9) N a0 (w64 (left1 - (↑(List.length a0) : Int))) 0 0)
theorem q5_bind {R S : Type} (f : R → Option S) (N : Nat) (k0 : Row → Int → Int → Int → Option R) (k1 : Row → Int → Int → Int → Option R) : ∀ n : Nat, (∀ (x0 : Row) (x1 : Int) (x2 : Int) (x3 : Int), Option.bind (l5 N k0 k1 n x0 x1 x2 x3) f = l5 N (fun y0 y1 y2 y3 => (Option.bind (k0 y0 y1 y2 y3) f)) (fun y0 y1 y2 y3 => (Option.bind (k1 y0 y1 y2 y3) f)) n x0 x1 x2 x3) := by
  intro n
  induction n with
  | zero => exact (fun _ _ _ _ => rfl)
  | succ n ih =>
    intro x0 x1 x2 x3
    simp only [l5, r5, Lib.cond_bind, Lib.some_bind, Lib.none_bind, ih]
theorem l5_bind {R S : Type} (f : R → Option S) (N : Nat) (k0 : Row → Int → Int → Int → Option R) (k1 : Row → Int → Int → Int → Option R) (n : Nat) (x0 : Row) (x1 : Int) (x2 : Int) (x3 : Int) : Option.bind (l5 N k0 k1 n x0 x1 x2 x3) f = l5 N (fun y0 y1 y2 y3 => (Option.bind (k0 y0 y1 y2 y3) f)) (fun y0 y1 y2 y3 => (Option.bind (k1 y0 y1 y2 y3) f)) n x0 x1 x2 x3 := (q5_bind f N k0 k1 n) x0 x1 x2 x3
theorem b_bind {R : Type} (N : Nat) (kr : Int → Option R) (a0 : Row) (left1 : Int) : b N kr a0 left1 = Option.bind (b N (fun r0 => some (r0)) a0 left1) (fun p => kr p) := by
  unfold b; simp only [Lib.cond_bind, Lib.some_bind, Lib.none_bind, l5_bind]
def vo (a0 : Row) (left1 : Int) : Option (Int) := b Lib.big (fun r0 => some (r0)) a0 left1
def c (a0 : Row) (left1 : Int) : Bool := Option.isSome (vo a0 left1)
def v (a0 : Row) (left1 : Int) : Int := Option.getD (vo a0 left1) (0)
theorem out (a0 : Row) (left1 : Int) {x : Int} (h : vo a0 left1 = some x) : c a0 left1 = true ∧ v a0 left1 = x := by
  unfold c v; rw [h]; exact ⟨rfl, rfl⟩
theorem b_eq {R : Type} (kr : Int → Option R) (a0 : Row) (left1 : Int) (hc : c a0 left1 = true) : ∃ N, b N kr a0 left1 = kr (v a0 left1) := by
  refine ⟨Lib.big, ?_⟩
  rw [b_bind]
  have e : vo a0 left1 = some (v a0 left1) := by
    unfold c at hc; unfold v
    cases h : vo a0 left1 with
    | none => rw [h] at hc; cases hc
    | some x => rfl
  unfold vo at e
  rw [e]; rfl
end Go.FG.Pu.laws_szStringS

namespace Go.FG.Pu.laws_szIntS
def b {R : Type} (kr : Int → Option R) (a0 : Row) (left1 : Int) : Option R := bif (decide (w64 (left1 - (↑(List.length a0) : Int)) < 0)) then (kr (-1)) else (kr (w64 (left1 - (↑(List.length a0) : Int))))
def v (a0 : Row) (left1 : Int) : Int := bif (decide (w64 (left1 - (↑(List.length a0) : Int)) < 0)) then (((-1))) else (((w64 (left1 - (↑(List.length a0) : Int)))))
theorem b_eq {R : Type} (kr : Int → Option R) (a0 : Row) (left1 : Int) : b kr a0 left1 = kr (v a0 left1) := by
  first | rfl | (unfold b v; simp only [Bool.cond_eq_ite]; (repeat' split) <;> rfl)
theorem fits {a : Row} {L : Int} (h0 : 0 ≤ L) (h1 : L ≤ 1048576) (ha : FitR a) (h : decide (v a L < 0) = false) : a.length ≤ 1048576 ∧ v a L = L - a.length := by
  have e := Lib.sub_len h0 h1 ha.1
  unfold v at h ⊢
  rw [e] at h ⊢
  by_cases hc : L - (a.length : Int) < 0
  · rw [decide_eq_true hc] at h; cases h
  · rw [decide_eq_false hc]; exact ⟨by omega, rfl⟩
end Go.FG.Pu.laws_szIntS

namespace Go.FG.Pu.laws_szIntSS
def r5 {R : Type} (N : Nat) (g : Row → Int → Int → Int → Option R) (k0 : Row → Int → Int → Int → Option R) (k1 : Row → Int → Int → Int → Option R) (x0 : Row) (x1 : Int) (x2 : Int) (x3 : Int) : Option R := bif (decide (x3 < (↑(List.length x0) : Int))) then (bif (decide (0 ≤ x3) && decide (x3 < (↑(List.length x0) : Int))) then (bif (decide (Pu.laws_szIntS.v (cvL (cellAt x0 (Int.toNat x3) 0)) x1 < 0)) then (k0 x0 (Pu.laws_szIntS.v (cvL (cellAt x0 (Int.toNat x3) 0)) x1) (-1) x3) else (g x0 (Pu.laws_szIntS.v (cvL (cellAt x0 (Int.toNat x3) 0)) x1) x2 (w64 (x3 + 1)))) else (none)) else (k1 x0 x1 x2 x3)
def l5 {R : Type} (N : Nat) (k0 : Row → Int → Int → Int → Option R) (k1 : Row → Int → Int → Int → Option R) : Nat → Row → Int → Int → Int → Option R
  | 0 => (fun _ _ _ _ => none)
  | n + 1 => (fun x0 x1 x2 x3 => r5 N (l5 N k0 k1 n) k0 k1 x0 x1 x2 x3)
def b {R : Type} (N : Nat) (kr : Int → Option R) (a0 : Row) (left1 : Int) : Option R := bif (decide (w64 (left1 - (↑(List.length a0) : Int)) < 0)) then (kr (-1)) else (l5 N (fun y4 y5 y6 y7 => kr y6) (fun y8 y9 y10 y11 => kr y9) N a0 (w64 (left1 - (↑(List.length a0) : Int))) 0 0)
theorem q5_bind {R S : Type} (f : R → Option S) (N : Nat) (k0 : Row → Int → Int → Int → Option R) (k1 : Row → Int → Int → Int → Option R) : ∀ n : Nat, (∀ (x0 : Row) (x1 : Int) (x2 : Int) (x3 : Int), Option.bind (l5 N k0 k1 n x0 x1 x2 x3) f = l5 N (fun y0 y1 y2 y3 => (Option.bind (k0 y0 y1 y2 y3) f)) (fun y0 y1 y2 y3 => (Option.bind (k1 y0 y1 y2 y3) f)) n x0 x1 x2 x3) := by
  intro n
  induction n with
  | zero => exact (fun _ _ _ _ => rfl)
  | succ n ih =>
    intro x0 x1 x2 x3
    simp only [l5, r5, Lib.cond_bind, Lib.some_bind, Lib.none_bind, ih]
theorem l5_bind {R S : Type} (f : R → Option S) (N : Nat) (k0 : Row → Int → Int → Int → Option R) (k1 : Row → Int → Int → Int → Option R) (n : Nat) (x0 : Row) (x1 : Int) (x2 : Int) (x3 : Int) : Option.bind (l5 N k0 k1 n x0 x1 x2 x3) f = l5 N (fun y0 y1 y2 y3 => (Option.bind (k0 y0 y1 y2 y3) f)) (fun y0 y1 y2 y3 => (Option.bind (k1 y0 y1 y2 y3) f)) n x0 x1 x2 x3 := (q5_bind f N k0 k1 n) x0 x1 x2 x3
theorem b_bind {R : Type} (N : Nat) (kr : Int → Option R) (a0 : Row) (left1 : Int) : b N kr a0 left1 = Option.bind (b N (fun r0 => some (r0)) a0 left1) (fun p => kr p) := by
  unfold b; simp only [Lib.cond_bind, Lib.some_bind, Lib.none_bind, l5_bind]
def vo (a0 : Row) (left1 : Int) : Option (Int) := b Lib.big (fun r0 => some (r0)) a0 left1
def c (a0 : Row) (left1 : Int) : Bool := Option.isSome (vo a0 left1)
def v (a0 : Row) (left1 : Int) : Int := Option.getD (vo a0 left1) (0)
theorem out (a0 : Row) (left1 : Int) {x : Int} (h : vo a0 left1 = some x) : c a0 left1 = true ∧ v a0 left1 = x := by
  unfold c v; rw [h]; exact ⟨rfl, rfl⟩
theorem b_eq {R : Type} (kr : Int → Option R) (a0 : Row) (left1 : Int) (hc : c a0 left1 = true) : ∃ N, b N kr a0 left1 = kr (v a0 left1) := by
  refine ⟨Lib.big, ?_⟩
  rw [b_bind]
  have e : vo a0 left1 = some (v a0 left1) := by
    unfold c at hc; unfold v
    cases h : vo a0 left1 with
    | none => rw [h] at hc; cases hc
    | some x => rfl
  unfold vo at e
  rw [e]; rfl
end Go.FG.Pu.laws_szIntSS

namespace Go.FG.Pu.laws_szSketch
def b {R : Type} (kr : Int → Option R) (a0_0 : Row) (a0_1 : Int) (left1 : Int) : Option R := bif (Pu.laws_szIntSS.c a0_0 left1) then (bif (decide (Pu.laws_szIntSS.v a0_0 left1 < 0)) then (kr (-1)) else (kr (Pu.laws_szIntSS.v a0_0 left1))) else (none)
theorem b_bind {R : Type} (kr : Int → Option R) (a0_0 : Row) (a0_1 : Int) (left1 : Int) : b kr a0_0 a0_1 left1 = Option.bind (b (fun r0 => some (r0)) a0_0 a0_1 left1) (fun p => kr p) := by
  unfold b; simp only [Lib.cond_bind, Lib.some_bind, Lib.none_bind]
def vo (a0_0 : Row) (a0_1 : Int) (left1 : Int) : Option (Int) := b (fun r0 => some (r0)) a0_0 a0_1 left1
def c (a0_0 : Row) (a0_1 : Int) (left1 : Int) : Bool := Option.isSome (vo a0_0 a0_1 left1)
def v (a0_0 : Row) (a0_1 : Int) (left1 : Int) : Int := Option.getD (vo a0_0 a0_1 left1) (0)
theorem out (a0_0 : Row) (a0_1 : Int) (left1 : Int) {x : Int} (h : vo a0_0 a0_1 left1 = some x) : c a0_0 a0_1 left1 = true ∧ v a0_0 a0_1 left1 = x := by
  unfold c v; rw [h]; exact ⟨rfl, rfl⟩
theorem b_eq {R : Type} (kr : Int → Option R) (a0_0 : Row) (a0_1 : Int) (left1 : Int) (hc : c a0_0 a0_1 left1 = true) : b kr a0_0 a0_1 left1 = kr (v a0_0 a0_1 left1) := by
  rw [b_bind]
  have e : vo a0_0 a0_1 left1 = some (v a0_0 a0_1 left1) := by
    unfold c at hc; unfold v
    cases h : vo a0_0 a0_1 left1 with
    | none => rw [h] at hc; cases hc
    | some x => rfl
  unfold vo at e
  rw [e]; rfl
end Go.FG.Pu.laws_szSketch

namespace Go.FG.Pu.laws_szPolicy
def b {R : Type} (kr : Int → Option R) (a0_0 : Row) (a0_1 : Row) (a0_2 : Row) (a0_3 : Int) (left1 : Int) : Option R := bif (Pu.laws_szStringS.c a0_0 left1) then (bif (decide (Pu.laws_szStringS.v a0_0 left1 < 0)) then (kr (-1)) else (bif (Pu.laws_szStringS.c a0_1 (Pu.laws_szStringS.v a0_0 left1)) then (bif (decide (Pu.laws_szStringS.v a0_1 (Pu.laws_szStringS.v a0_0 left1) < 0)) then (kr (-1)) else (bif (Pu.laws_szSketch.c a0_2 a0_3 (Pu.laws_szStringS.v a0_1 (Pu.laws_szStringS.v a0_0 left1))) then (bif (decide (Pu.laws_szSketch.v a0_2 a0_3 (Pu.laws_szStringS.v a0_1 (Pu.laws_szStringS.v a0_0 left1)) < 0)) then (kr (-1)) else (kr (Pu.laws_szSketch.v a0_2 a0_3 (Pu.laws_szStringS.v a0_1 (Pu.laws_szStringS.v a0_0 left1))))) else (none))) else (none))) else (none)
theorem b_bind {R : Type} (kr : Int → Option R) (a0_0 : Row) (a0_1 : Row) (a0_2 : Row) (a0_3 : Int) (left1 : Int) : b kr a0_0 a0_1 a0_2 a0_3 left1 = Option.bind (b (fun r0 => some (r0)) a0_0 a0_1 a0_2 a0_3 left1) (fun p => kr p) := by
  unfold b; simp only [Lib.cond_bind, Lib.some_bind, Lib.none_bind]
def vo (a0_0 : Row) (a0_1 : Row) (a0_2 : Row) (a0_3 : Int) (left1 : Int) : Option (Int) := b (fun r0 => some (r0)) a0_0 a0_1 a0_2 a0_3 left1
def c (a0_0 : Row) (a0_1 : Row) (a0_2 : Row) (a0_3 : Int) (left1 : Int) : Bool := Option.isSome (vo a0_0 a0_1 a0_2 a0_3 left1)
def v (a0_0 : Row) (a0_1 : Row) (a0_2 : Row) (a0_3 : Int) (left1 : Int) : Int := Option.getD (vo a0_0 a0_1 a0_2 a0_3 left1) (0)
theorem out (a0_0 : Row) (a0_1 : Row) (a0_2 : Row) (a0_3 : Int) (left1 : Int) {x : Int} (h : vo a0_0 a0_1 a0_2 a0_3 left1 = some x) : c a0_0 a0_1 a0_2 a0_3 left1 = true ∧ v a0_0 a0_1 a0_2 a0_3 left1 = x := by
  unfold c v; rw [h]; exact ⟨rfl, rfl⟩
theorem b_eq {R : Type} (kr : Int → Option R) (a0_0 : Row) (a0_1 : Row) (a0_2 : Row) (a0_3 : Int) (left1 : Int) (hc : c a0_0 a0_1 a0_2 a0_3 left1 = true) : b kr a0_0 a0_1 a0_2 a0_3 left1 = kr (v a0_0 a0_1 a0_2 a0_3 left1) := by
  rw [b_bind]
  have e : vo a0_0 a0_1 a0_2 a0_3 left1 = some (v a0_0 a0_1 a0_2 a0_3 left1) := by
    unfold c at hc; unfold v
    cases h : vo a0_0 a0_1 a0_2 a0_3 left1 with
    | none => rw [h] at hc; cases hc
    | some x => rfl
  unfold vo at e
  rw [e]; rfl
end Go.FG.Pu.laws_szPolicy

namespace Go.FG.Pu.laws_szFetch
def b {R : Type} (kr : Int → Option R) (a0_0 : ByteArray) (a0_1 : ByteArray) (a0_2 : Int) (a0_3 : Int) (a0_4 : Int) (left1 : Int) : Option R := bif (decide (w64 (left1 - (↑(ByteArray.size a0_0) : Int)) < 0)) then (kr (-1)) else (bif (decide (w64 (w64 (left1 - (↑(ByteArray.size a0_0) : Int)) - (↑(ByteArray.size a0_1) : Int)) < 0)) then (kr (-1)) else (kr (w64 (w64 (left1 - (↑(ByteArray.size a0_0) : Int)) - (↑(ByteArray.size a0_1) : Int)))))
def v (a0_0 : ByteArray) (a0_1 : ByteArray) (a0_2 : Int) (a0_3 : Int) (a0_4 : Int) (left1 : Int) : Int := bif (decide (w64 (left1 - (↑(ByteArray.size a0_0) : Int)) < 0)) then (((-1))) else (bif (decide (w64 (w64 (left1 - (↑(ByteArray.size a0_0) : Int)) - (↑(ByteArray.size a0_1) : Int)) < 0)) then (((-1))) else (((w64 (w64 (left1 - (↑(ByteArray.size a0_0) : Int)) - (↑(ByteArray.size a0_1) : Int))))))
theorem b_eq {R : Type} (kr : Int → Option R) (a0_0 : ByteArray) (a0_1 : ByteArray) (a0_2 : Int) (a0_3 : Int) (a0_4 : Int) (left1 : Int) : b kr a0_0 a0_1 a0_2 a0_3 a0_4 left1 = kr (v a0_0 a0_1 a0_2 a0_3 a0_4 left1) := by
  first | rfl | (unfold b v; simp only [Bool.cond_eq_ite]; (repeat' split) <;> rfl)
end Go.FG.Pu.laws_szFetch

namespace Go.FG.Pu.laws_szFetchS
def r5 {R : Type} (N : Nat) (g : Row → Int → Int → Int → Option R) (k0 : Row → Int → Int → Int → Option R) (k1 : Row → Int → Int → Int → Option R) (x0 : Row) (x1 : Int) (x2 : Int) (x3 : Int) : Option R := bif (decide (x3 < (↑(List.length x0) : Int))) then (bif (decide (0 ≤ x3) && decide (x3 < (↑(List.length x0) : Int))) then (bif (decide (Pu.laws_szFetch.v (cvS (cellAt x0 (Int.toNat x3) 0)) (cvS (cellAt x0 (Int.toNat x3) 1)) (cvI (cellAt x0 (Int.toNat x3) (1 + 1))) (cvI (cellAt x0 (Int.toNat x3) (1 + 1 + 1))) (cvI (cellAt x0 (Int.toNat x3) (1 + 1 + 1 + 1))) x1 < 0)) then (k0 x0 (Pu.laws_szFetch.v (cvS (cellAt x0 (Int.toNat x3) 0)) (cvS (cellAt x0 (Int.toNat x3) 1)) (cvI (cellAt x0 (Int.toNat x3) (1 + 1))) (cvI (cellAt x0 (Int.toNat x3) (1 + 1 + 1))) (cvI (cellAt x0 (Int.toNat x3) (1 + 1 + 1 + 1))) x1) (-1) x3) else (g x0 (Pu.laws_szFetch.v (cvS (cellAt x0 (Int.toNat x3) 0)) (cvS (cellAt x0 (Int.toNat x3) 1)) (cvI (cellAt x0 (Int.toNat x3) (1 + 1))) (cvI (cellAt x0 (Int.toNat x3) (1 + 1 + 1))) (cvI (cellAt x0 (Int.toNat x3) (1 + 1 + 1 + 1))) x1) x2 (w64 (x3 + 1)))) else (none)) else (k1 x0 x1 x2 x3)
def l5 {R : Type} (N : Nat) (k0 : Row → Int → Int → Int → Option R) (k1 : Row → Int → Int → Int → Option R) : Nat → Row → Int → Int → Int → Option R
  | 0 => (fun _ _ _ _ => none)
  | n + 1 => (fun x0 x1 x2 x3 => r5 N (l5 N k0 k1 n) k0 k1 x0 x1 x2 x3)
def b {R : Type} (N : Nat) (kr : Int → Option R) (a0 : Row) (left1 : Int) : Option R := bif (decide (w64 (left1 - (↑(List.length a0) : Int)) < 0)) then (kr (-1)) else (l5 N (fun y4 y5 y6 y7 => kr y6) (fun y8 y9 y10 y11 => kr y9) N a0 (w64 (left1 - (↑(List.length a0) : Int))) 0 0)
theorem q5_bind {R S : Type} (f : R → Option S) (N : Nat) (k0 : Row → Int → Int → Int → Option R) (k1 : Row → Int → Int → Int → Option R) : ∀ n : Nat, (∀ (x0 : Row) (x1 : Int) (x2 : Int) (x3 : Int), Option.bind (l5 N k0 k1 n x0 x1 x2 x3) f = l5 N (fun y0 y1 y2 y3 => (Option.bind (k0 y0 y1 y2 y3) f)) (fun y0 y1 y2 y3 => (Option.bind (k1 y0 y1 y2 y3) f)) n x0 x1 x2 x3) := by
  intro n
  induction n with
  | zero => exact (fun _ _ _ _ => rfl)
  | succ n ih =>
    intro x0 x1 x2 x3
    simp only [l5, r5, Lib.cond_bind, Lib.some_bind, Lib.none_bind, ih]
theorem l5_bind {R S : Type} (f : R → Option S) (N : Nat) (k0 : Row → Int → Int → Int → Option R) (k1 : Row → Int → Int → Int → Option R) (n : Nat) (x0 : Row) (x1 : Int) (x2 : Int) (x3 : Int) : Option.bind (l5 N k0 k1 n x0 x1 x2 x3) f = l5 N (fun y0 y1 y2 y3 => (Option.bind (k0 y0 y1 y2 y3) f)) (fun y0 y1 y2 y3 => (Option.bind (k1 y0 y1 y2 y3) f)) n x0 x1 x2 x3 := (q5_bind f N k0 k1 n) x0 x1 x2 x3
theorem b_bind {R : Type} (N : Nat) (kr : Int → Option R) (a0 : Row) (left1 : Int) : b N kr a0 left1 = Option.bind (b N (fun r0 => some (r0)) a0 left1) (fun p => kr p) := by
  unfold b; simp only [Lib.cond_bind, Lib.some_bind, Lib.none_bind, l5_bind]
def vo (a0 : Row) (left1 : Int) : Option (Int) := b Lib.big (fun r0 => some (r0)) a0 left1
def c (a0 : Row) (left1 : Int) : Bool := Option.isSome (vo a0 left1)
def v (a0 : Row) (left1 : Int) : Int := Option.getD (vo a0 left1) (0)
theorem out (a0 : Row) (left1 : Int) {x : Int} (h : vo a0 left1 = some x) : c a0 left1 = true ∧ v a0 left1 = x := by
  unfold c v; rw [h]; exact ⟨rfl, rfl⟩
theorem b_eq {R : Type} (kr : Int → Option R) (a0 : Row) (left1 : Int) (hc : c a0 left1 = true) : ∃ N, b N kr a0 left1 = kr (v a0 left1) := by
  refine ⟨Lib.big, ?_⟩
  rw [b_bind]
  have e : vo a0 left1 = some (v a0 left1) := by
    unfold c at hc; unfold v
    cases h : vo a0 left1 with
    | none => rw [h] at hc; cases hc
    | some x => rfl
  unfold vo at e
  rw [e]; rfl
end Go.FG.Pu.laws_szFetchS

namespace Go.FG.Pu.laws_szClient
def b {R : Type} (kr : Int → Option R) (a0_0 : Int) (a0_1 : ByteArray) (a0_2 : Int) (a0_3 : Int) (a0_4 : Int) (a0_5 : ByteArray) (a0_6 : Int) (left1 : Int) : Option R := bif (decide (w64 (left1 - (↑(ByteArray.size a0_1) : Int)) < 0)) then (kr (-1)) else (bif (decide (w64 (w64 (left1 - (↑(ByteArray.size a0_1) : Int)) - (↑(ByteArray.size a0_5) : Int)) < 0)) then (kr (-1)) else (kr (w64 (w64 (left1 - (↑(ByteArray.size a0_1) : Int)) - (↑(ByteArray.size a0_5) : Int)))))
def v (a0_0 : Int) (a0_1 : ByteArray) (a0_2 : Int) (a0_3 : Int) (a0_4 : Int) (a0_5 : ByteArray) (a0_6 : Int) (left1 : Int) : Int := bif (decide (w64 (left1 - (↑(ByteArray.size a0_1) : Int)) < 0)) then (((-1))) else (bif (decide (w64 (w64 (left1 - (↑(ByteArray.size a0_1) : Int)) - (↑(ByteArray.size a0_5) : Int)) < 0)) then (((-1))) else (((w64 (w64 (left1 - (↑(ByteArray.size a0_1) : Int)) - (↑(ByteArray.size a0_5) : Int))))))
theorem b_eq {R : Type} (kr : Int → Option R) (a0_0 : Int) (a0_1 : ByteArray) (a0_2 : Int) (a0_3 : Int) (a0_4 : Int) (a0_5 : ByteArray) (a0_6 : Int) (left1 : Int) : b kr a0_0 a0_1 a0_2 a0_3 a0_4 a0_5 a0_6 left1 = kr (v a0_0 a0_1 a0_2 a0_3 a0_4 a0_5 a0_6 left1) := by
  first | rfl | (unfold b v; simp only [Bool.cond_eq_ite]; (repeat' split) <;> rfl)
end Go.FG.Pu.laws_szClient

namespace Go.FG.Pu.laws_szClientS
def r5 {R : Type} (N : Nat) (g : Row → Int → Int → Int → Option R) (k0 : Row → Int → Int → Int → Option R) (k1 : Row → Int → Int → Int → Option R) (x0 : Row) (x1 : Int) (x2 : Int) (x3 : Int) : Option R := bif (decide (x3 < (↑(List.length x0) : Int))) then (bif (decide (0 ≤ x3) && decide (x3 < (↑(List.length x0) : Int))) then (bif (decide (Pu.laws_szClient.v (cvI (cellAt x0 (Int.toNat x3) 0)) (cvS (cellAt x0 (Int.toNat x3) 1)) (cvI (cellAt x0 (Int.toNat x3) (1 + 1))) (cvI (cellAt x0 (Int.toNat x3) (1 + 1 + 1))) (cvI (cellAt x0 (Int.toNat x3) (1 + 1 + 1 + 1))) (cvS (cellAt x0 (Int.toNat x3) (1 + 1 + 1 + 1 + 1))) (cvI (cellAt x0 (Int.toNat x3) (1 + 1 + 1 + 1 + 1 + 1))) x1 < 0)) then (k0 x0 (Pu.laws_szClient.v (cvI (cellAt x0 (Int.toNat x3) 0)) (cvS (cellAt x0 (Int.toNat x3) 1)) (cvI (cellAt x0 (Int.toNat x3) (1 + 1))) (cvI (cellAt x0 (Int.toNat x3) (1 + 1 + 1))) (cvI (cellAt x0 (Int.toNat x3) (1 + 1 + 1 + 1))) (cvS (cellAt x0 (Int.toNat x3) (1 + 1 + 1 + 1 + 1))) (cvI (cellAt x0 (Int.toNat x3) (1 + 1 + 1 + 1 + 1 + 1))) x1) (-1) x3) else (g x0 (Pu.laws_szClient.v (cvI (cellAt x0 (Int.toNat x3) 0)) (cvS (cellAt x0 (Int.toNat x3) 1)) (cvI (cellAt x0 (Int.toNat x3) (1 + 1))) (cvI (cellAt x0 (Int.toNat x3) (1 + 1 + 1))) (cvI (cellAt x0 (Int.toNat x3) (1 + 1 + 1 + 1))) (cvS (cellAt x0 (Int.toNat x3) (1 + 1 + 1 + 1 + 1))) (cvI (cellAt x0 (Int.toNat x3) (1 + 1 + 1 + 1 + 1 + 1))) x1) x2 (w64 (x3 + 1)))) else (none)) else (k1 x0 x1 x2 x3)
def l5 {R : Type} (N : Nat) (k0 : Row → Int → Int → Int → Option R) (k1 : Row → Int → Int → Int → Option R) : Nat → Row → Int → Int → Int → Option R
  | 0 => (fun _ _ _ _ => none)
  | n + 1 => (fun x0 x1 x2 x3 => r5 N (l5 N k0 k1 n) k0 k1 x0 x1 x2 x3)
def b {R : Type} (N : Nat) (kr : Int → Option R) (a0 : Row) (left1 : Int) : Option R := bif (decide (w64 (left1 - (↑(List.length a0) : Int)) < 0)) then (kr (-1)) else (l5 N (fun y4 y5 y6 y7 => kr y6) (fun y8 y9 y10 y11 => kr y9) N a0 (w64 (left1 - (↑(List.length a0) : Int))) 0 0)
theorem q5_bind {R S : Type} (f : R → Option S) (N : Nat) (k0 : Row → Int → Int → Int → Option R) (k1 : Row → Int → Int → Int → Option R) : ∀ n : Nat, (∀ (x0 : Row) (x1 : Int) (x2 : Int) (x3 : Int), Option.bind (l5 N k0 k1 n x0 x1 x2 x3) f = l5 N (fun y0 y1 y2 y3 => (Option.bind (k0 y0 y1 y2 y3) f)) (fun y0 y1 y2 y3 => (Option.bind (k1 y0 y1 y2 y3) f)) n x0 x1 x2 x3) := by
  intro n
  induction n with
  | zero => exact (fun _ _ _ _ => rfl)
  | succ n ih =>
    intro x0 x1 x2 x3
    simp only [l5, r5, Lib.cond_bind, Lib.some_bind, Lib.none_bind, ih]
theorem l5_bind {R S : Type} (f : R → Option S) (N : Nat) (k0 : Row → Int → Int → Int → Option R) (k1 : Row → Int → Int → Int → Option R) (n : Nat) (x0 : Row) (x1 : Int) (x2 : Int) (x3 : Int) : Option.bind (l5 N k0 k1 n x0 x1 x2 x3) f = l5 N (fun y0 y1 y2 y3 => (Option.bind (k0 y0 y1 y2 y3) f)) (fun y0 y1 y2 y3 => (Option.bind (k1 y0 y1 y2 y3) f)) n x0 x1 x2 x3 := (q5_bind f N k0 k1 n) x0 x1 x2 x3
theorem b_bind {R : Type} (N : Nat) (kr : Int → Option R) (a0 : Row) (left1 : Int) : b N kr a0 left1 = Option.bind (b N (fun r0 => some (r0)) a0 left1) (fun p => kr p) := by
  unfold b; simp only [Lib.cond_bind, Lib.some_bind, Lib.none_bind, l5_bind]
def vo (a0 : Row) (left1 : Int) : Option (Int) := b Lib.big (fun r0 => some (r0)) a0 left1
def c (a0 : Row) (left1 : Int) : Bool := Option.isSome (vo a0 left1)
def v (a0 : Row) (left1 : Int) : Int := Option.getD (vo a0 left1) (0)
theorem out (a0 : Row) (left1 : Int) {x : Int} (h : vo a0 left1 = some x) : c a0 left1 = true ∧ v a0 left1 = x := by
  unfold c v; rw [h]; exact ⟨rfl, rfl⟩
theorem b_eq {R : Type} (kr : Int → Option R) (a0 : Row) (left1 : Int) (hc : c a0 left1 = true) : ∃ N, b N kr a0 left1 = kr (v a0 left1) := by
  refine ⟨Lib.big, ?_⟩
  rw [b_bind]
  have e : vo a0 left1 = some (v a0 left1) := by
    unfold c at hc; unfold v
    cases h : vo a0 left1 with
    | none => rw [h] at hc; cases hc
    | some x => rfl
  unfold vo at e
  rw [e]; rfl
end Go.FG.Pu.laws_szClientS

namespace Go.FG.Pu.laws_szProxy
def b {R : Type} (kr : Int → Option R) (a0_0 : Int) (a0_1 : Row) (a0_2 : Row) (a0_3 : Row) (a0_4 : Row) (a0_5 : Int) (a0_6 : Row) (a0_7 : Row) (a0_8 : Int) (left1 : Int) : Option R := bif (Pu.laws_szEntryS.c a0_1 left1) then (bif (decide (Pu.laws_szEntryS.v a0_1 left1 < 0)) then (kr (-1)) else (bif (Pu.laws_szPolicy.c a0_2 a0_3 a0_4 a0_5 (Pu.laws_szEntryS.v a0_1 left1)) then (bif (decide (Pu.laws_szPolicy.v a0_2 a0_3 a0_4 a0_5 (Pu.laws_szEntryS.v a0_1 left1) < 0)) then (kr (-1)) else (bif (Pu.laws_szFetchS.c a0_6 (Pu.laws_szPolicy.v a0_2 a0_3 a0_4 a0_5 (Pu.laws_szEntryS.v a0_1 left1))) then (bif (decide (Pu.laws_szFetchS.v a0_6 (Pu.laws_szPolicy.v a0_2 a0_3 a0_4 a0_5 (Pu.laws_szEntryS.v a0_1 left1)) < 0)) then (kr (-1)) else (bif (Pu.laws_szClientS.c a0_7 (Pu.laws_szFetchS.v a0_6 (Pu.laws_szPolicy.v a0_2 a0_3 a0_4 a0_5 (Pu.laws_szEntryS.v a0_1 left1)))) then (bif (decide (Pu.laws_szClientS.v a0_7 (Pu.laws_szFetchS.v a0_6 (Pu.laws_szPolicy.v a0_2 a0_3 a0_4 a0_5 (Pu.laws_szEntryS.v a0_1 left1))) < 0)) then (kr (-1)) else (kr (Pu.laws_szClientS.v a0_7 (Pu.laws_szFetchS.v a0_6 (Pu.laws_szPolicy.v a0_2 a0_3 a0_4 a0_5 (Pu.laws_szEntryS.v a0_1 left1)))))) else (none))) else (none))) else (none))) else (none)
theorem b_bind {R : Type} (kr : Int → Option R) (a0_0 : Int) (a0_1 : Row) (a0_2 : Row) (a0_3 : Row) (a0_4 : Row) (a0_5 : Int) (a0_6 : Row) (a0_7 : Row) (a0_8 : Int) (left1 : Int) : b kr a0_0 a0_1 a0_2 a0_3 a0_4 a0_5 a0_6 a0_7 a0_8 left1 = Option.bind (b (fun r0 => some (r0)) a0_0 a0_1 a0_2 a0_3 a0_4 a0_5 a0_6 a0_7 a0_8 left1) (fun p => kr p) := by
  unfold b; simp only [Lib.cond_bind, Lib.some_bind, Lib.none_bind]
def vo (a0_0 : Int) (a0_1 : Row) (a0_2 : Row) (a0_3 : Row) (a0_4 : Row) (a0_5 : Int) (a0_6 : Row) (a0_7 : Row) (a0_8 : Int) (left1 : Int) : Option (Int) := b (fun r0 => some (r0)) a0_0 a0_1 a0_2 a0_3 a0_4 a0_5 a0_6 a0_7 a0_8 left1
def c (a0_0 : Int) (a0_1 : Row) (a0_2 : Row) (a0_3 : Row) (a0_4 : Row) (a0_5 : Int) (a0_6 : Row) (a0_7 : Row) (a0_8 : Int) (left1 : Int) : Bool := Option.isSome (vo a0_0 a0_1 a0_2 a0_3 a0_4 a0_5 a0_6 a0_7 a0_8 left1)
def v (a0_0 : Int) (a0_1 : Row) (a0_2 : Row) (a0_3 : Row) (a0_4 : Row) (a0_5 : Int) (a0_6 : Row) (a0_7 : Row) (a0_8 : Int) (left1 : Int) : Int := Option.getD (vo a0_0 a0_1 a0_2 a0_3 a0_4 a0_5 a0_6 a0_7 a0_8 left1) (0)
theorem out (a0_0 : Int) (a0_1 : Row) (a0_2 : Row) (a0_3 : Row) (a0_4 : Row) (a0_5 : Int) (a0_6 : Row) (a0_7 : Row) (a0_8 : Int) (left1 : Int) {x : Int} (h : vo a0_0 a0_1 a0_2 a0_3 a0_4 a0_5 a0_6 a0_7 a0_8 left1 = some x) : c a0_0 a0_1 a0_2 a0_3 a0_4 a0_5 a0_6 a0_7 a0_8 left1 = true ∧ v a0_0 a0_1 a0_2 a0_3 a0_4 a0_5 a0_6 a0_7 a0_8 left1 = x := by
  unfold c v; rw [h]; exact ⟨rfl, rfl⟩
theorem b_eq {R : Type} (kr : Int → Option R) (a0_0 : Int) (a0_1 : Row) (a0_2 : Row) (a0_3 : Row) (a0_4 : Row) (a0_5 : Int) (a0_6 : Row) (a0_7 : Row) (a0_8 : Int) (left1 : Int) (hc : c a0_0 a0_1 a0_2 a0_3 a0_4 a0_5 a0_6 a0_7 a0_8 left1 = true) : b kr a0_0 a0_1 a0_2 a0_3 a0_4 a0_5 a0_6 a0_7 a0_8 left1 = kr (v a0_0 a0_1 a0_2 a0_3 a0_4 a0_5 a0_6 a0_7 a0_8 left1) := by
  rw [b_bind]
  have e : vo a0_0 a0_1 a0_2 a0_3 a0_4 a0_5 a0_6 a0_7 a0_8 left1 = some (v a0_0 a0_1 a0_2 a0_3 a0_4 a0_5 a0_6 a0_7 a0_8 left1) := by
    unfold c at hc; unfold v
    cases h : vo a0_0 a0_1 a0_2 a0_3 a0_4 a0_5 a0_6 a0_7 a0_8 left1 with
    | none => rw [h] at hc; cases hc
    | some x => rfl
  unfold vo at e
  rw [e]; rfl
end Go.FG.Pu.laws_szProxy

namespace Go.FG.Pu.laws_toEntry
def b {R : Type} (kr : ByteArray → Int → Int → ByteArray → Option R) (a0_0 : ByteArray) (a0_1 : Int) (a0_2 : Int) (a0_3 : ByteArray) : Option R := kr a0_0 a0_1 a0_2 a0_3
def v (a0_0 : ByteArray) (a0_1 : Int) (a0_2 : Int) (a0_3 : ByteArray) : ByteArray × Int × Int × ByteArray := (a0_0, a0_1, a0_2, a0_3)
theorem b_eq {R : Type} (kr : ByteArray → Int → Int → ByteArray → Option R) (a0_0 : ByteArray) (a0_1 : Int) (a0_2 : Int) (a0_3 : ByteArray) : b kr a0_0 a0_1 a0_2 a0_3 = kr ((v a0_0 a0_1 a0_2 a0_3).1) ((v a0_0 a0_1 a0_2 a0_3).2.1) ((v a0_0 a0_1 a0_2 a0_3).2.2.1) ((v a0_0 a0_1 a0_2 a0_3).2.2.2) := by
  first | rfl | (unfold b v; simp only [Bool.cond_eq_ite]; (repeat' split) <;> rfl)
end Go.FG.Pu.laws_toEntry

namespace Go.FG.Pu.laws_toEntryS
def r3 {R : Type} (N : Nat) (g : Row → Int → Row → Option R) (k0 : Row → Int → Row → Option R) (x0 : Row) (x1 : Int) (x2 : Row) : Option R := bif (decide (x1 < (↑(List.length x0) : Int))) then (bif (decide (0 ≤ x1) && decide (x1 < (↑(List.length x0) : Int))) then (bif (decide (0 ≤ x1) && decide (x1 < (↑(List.length x2) : Int))) then (g x0 (w64 (x1 + 1)) (setC x2 (Int.toNat x1) 0 [CV.s (cvS (cellAt x0 (Int.toNat x1) 0)), CV.i IntKind.i64 (cvI (cellAt x0 (Int.toNat x1) 1)), CV.i IntKind.i64 (cvI (cellAt x0 (Int.toNat x1) (1 + 1))), CV.s (cvS (cellAt x0 (Int.toNat x1) (1 + 1 + 1)))])) else (none)) else (none)) else (k0 x0 x1 x2)
def l3 {R : Type} (N : Nat) (k0 : Row → Int → Row → Option R) : Nat → Row → Int → Row → Option R
  | 0 => (fun _ _ _ => none)
  | n + 1 => (fun x0 x1 x2 => r3 N (l3 N k0 n) k0 x0 x1 x2)
def b {R : Type} (N : Nat) (kr : Row → Option R) (a0 : Row) : Option R := bif (decide ((↑(List.length a0) : Int) = (↑(List.length a0) : Int)) && roomy (Int.toNat (↑(List.length a0) : Int)) 48) then (l3 N (fun y3 y4 y5 => kr y5) N a0 0 (zeros [Ck.s, Ck.i IntKind.i64, Ck.i IntKind.i64, Ck.s] (Int.toNat (↑(List.length a0) : Int)))) else (none)
theorem q3_bind {R S : Type} (f : R → Option S) (N : Nat) (k0 : Row → Int → Row → Option R) : ∀ n : Nat, (∀ (x0 : Row) (x1 : Int) (x2 : Row), Option.bind (l3 N k0 n x0 x1 x2) f = l3 N (fun y0 y1 y2 => (Option.bind (k0 y0 y1 y2) f)) n x0 x1 x2) := by
  intro n
  induction n with
  | zero => exact (fun _ _ _ => rfl)
  | succ n ih =>
    intro x0 x1 x2
    simp only [l3, r3, Lib.cond_bind, Lib.some_bind, Lib.none_bind, ih]
theorem l3_bind {R S : Type} (f : R → Option S) (N : Nat) (k0 : Row → Int → Row → Option R) (n : Nat) (x0 : Row) (x1 : Int) (x2 : Row) : Option.bind (l3 N k0 n x0 x1 x2) f = l3 N (fun y0 y1 y2 => (Option.bind (k0 y0 y1 y2) f)) n x0 x1 x2 := (q3_bind f N k0 n) x0 x1 x2
theorem b_bind {R : Type} (N : Nat) (kr : Row → Option R) (a0 : Row) : b N kr a0 = Option.bind (b N (fun r0 => some (r0)) a0) (fun p => kr p) := by
  unfold b; simp only [Lib.cond_bind, Lib.some_bind, Lib.none_bind, l3_bind]
def vo (a0 : Row) : Option (Row) := b Lib.big (fun r0 => some (r0)) a0
def c (a0 : Row) : Bool := Option.isSome (vo a0)
def v (a0 : Row) : Row := Option.getD (vo a0) ([])
theorem out (a0 : Row) {x : Row} (h : vo a0 = some x) : c a0 = true ∧ v a0 = x := by
  unfold c v; rw [h]; exact ⟨rfl, rfl⟩
theorem b_eq {R : Type} (kr : Row → Option R) (a0 : Row) (hc : c a0 = true) : ∃ N, b N kr a0 = kr (v a0) := by
  refine ⟨Lib.big, ?_⟩
  rw [b_bind]
  have e : vo a0 = some (v a0) := by
    unfold c at hc; unfold v
    cases h : vo a0 with
    | none => rw [h] at hc; cases hc
    | some x => rfl
  unfold vo at e
  rw [e]; rfl
end Go.FG.Pu.laws_toEntryS

namespace Go.FG.Pu.laws_toStringS
def r3 {R : Type} (N : Nat) (g : Row → Int → Row → Option R) (k0 : Row → Int → Row → Option R) (x0 : Row) (x1 : Int) (x2 : Row) : Option R := bif (decide (x1 < (↑(List.length x0) : Int))) then (bif (decide (0 ≤ x1) && decide (x1 < (↑(List.length x0) : Int))) then (bif (decide (0 ≤ x1) && decide (x1 < (↑(List.length x2) : Int))) then (g x0 (w64 (x1 + 1)) (setC x2 (Int.toNat x1) 0 [CV.s (cvS (cellAt x0 (Int.toNat x1) 0))])) else (none)) else (none)) else (k0 x0 x1 x2)
def l3 {R : Type} (N : Nat) (k0 : Row → Int → Row → Option R) : Nat → Row → Int → Row → Option R
  | 0 => (fun _ _ _ => none)
  | n + 1 => (fun x0 x1 x2 => r3 N (l3 N k0 n) k0 x0 x1 x2)
def b {R : Type} (N : Nat) (kr : Row → Option R) (a0 : Row) : Option R := bif (decide ((↑(List.length a0) : Int) = (↑(List.length a0) : Int)) && roomy (Int.toNat (↑(List.length a0) : Int)) 16) then (l3 N (fun y3 y4 y5 => kr y5) N a0 0 (zeros [Ck.s] (Int.toNat (↑(List.length a0) : Int)))) else (none)
theorem q3_bind {R S : Type} (f : R → Option S) (N : Nat) (k0 : Row → Int → Row → Option R) : ∀ n : Nat, (∀ (x0 : Row) (x1 : Int) (x2 : Row), Option.bind (l3 N k0 n x0 x1 x2) f = l3 N (fun y0 y1 y2 => (Option.bind (k0 y0 y1 y2) f)) n x0 x1 x2) := by
  intro n
  induction n with
  | zero => exact (fun _ _ _ => rfl)
  | succ n ih =>
    intro x0 x1 x2
    simp only [l3, r3, Lib.cond_bind, Lib.some_bind, Lib.none_bind, ih]
theorem l3_bind {R S : Type} (f : R → Option S) (N : Nat) (k0 : Row → Int → Row → Option R) (n : Nat) (x0 : Row) (x1 : Int) (x2 : Row) : Option.bind (l3 N k0 n x0 x1 x2) f = l3 N (fun y0 y1 y2 => (Option.bind (k0 y0 y1 y2) f)) n x0 x1 x2 := (q3_bind f N k0 n) x0 x1 x2
theorem b_bind {R : Type} (N : Nat) (kr : Row → Option R) (a0 : Row) : b N kr a0 = Option.bind (b N (fun r0 => some (r0)) a0) (fun p => kr p) := by
  unfold b; simp only [Lib.cond_bind, Lib.some_bind, Lib.none_bind, l3_bind]
def vo (a0 : Row) : Option (Row) := b Lib.big (fun r0 => some (r0)) a0
def c (a0 : Row) : Bool := Option.isSome (vo a0)
def v (a0 : Row) : Row := Option.getD (vo a0) ([])
theorem out (a0 : Row) {x : Row} (h : vo a0 = some x) : c a0 = true ∧ v a0 = x := by
  unfold c v; rw [h]; exact ⟨rfl, rfl⟩
theorem b_eq {R : Type} (kr : Row → Option R) (a0 : Row) (hc : c a0 = true) : ∃ N, b N kr a0 = kr (v a0) := by
  refine ⟨Lib.big, ?_⟩
  rw [b_bind]
  have e : vo a0 = some (v a0) := by
    unfold c at hc; unfold v
    cases h : vo a0 with
    | none => rw [h] at hc; cases hc
    | some x => rfl
  unfold vo at e
  rw [e]; rfl
end Go.FG.Pu.laws_toStringS

namespace Go.FG.Pu.laws_toIntS
def r3 {R : Type} (N : Nat) (g : Row → Int → Row → Option R) (k0 : Row → Int → Row → Option R) (x0 : Row) (x1 : Int) (x2 : Row) : Option R := bif (decide (x1 < (↑(List.length x0) : Int))) then (bif (decide (0 ≤ x1) && decide (x1 < (↑(List.length x0) : Int))) then (bif (decide (0 ≤ x1) && decide (x1 < (↑(List.length x2) : Int))) then (g x0 (w64 (x1 + 1)) (setC x2 (Int.toNat x1) 0 [CV.i IntKind.i64 (cvI (cellAt x0 (Int.toNat x1) 0))])) else (none)) else (none)) else (k0 x0 x1 x2)
def l3 {R : Type} (N : Nat) (k0 : Row → Int → Row → Option R) : Nat → Row → Int → Row → Option R
  | 0 => (fun _ _ _ => none)
  | n + 1 => (fun x0 x1 x2 => r3 N (l3 N k0 n) k0 x0 x1 x2)
def b {R : Type} (N : Nat) (kr : Row → Option R) (a0 : Row) : Option R := bif (decide ((↑(List.length a0) : Int) = (↑(List.length a0) : Int)) && roomy (Int.toNat (↑(List.length a0) : Int)) 8) then (l3 N (fun y3 y4 y5 => kr y5) N a0 0 (zeros [Ck.i IntKind.i64] (Int.toNat (↑(List.length a0) : Int)))) else (none)
/-- The rows' numbers, one for one. -/
def v (a0 : Row) : Row := a0.map fun y => [CV.i IntKind.i64 (cvI (y.getD 0 (.b false)))]
def c (a0 : Row) : Bool := decide (a0.length ≤ 1048576)
theorem b_eq {R : Type} (kr : Row → Option R) (a0 : Row) (hc : c a0 = true) : ∃ N, b N kr a0 = kr (v a0) := by
  have hl : a0.length ≤ 1048576 := of_decide_eq_true hc
  refine ⟨a0.length + 1, ?_⟩
  unfold b
  rw [show decide ((a0.length : Int) = (a0.length : Int)) = true by simp, Lib.toN, Lib.roomy_of (by omega) (by omega), Bool.and_self, cond_true]
  refine Lib.fill_run (ks := [Ck.i IntKind.i64]) (v a0) a0.length (by unfold v; simp) (fun y hy => ?_) (fun m (i : Nat) x => l3 (a0.length + 1) (fun _ _ y => kr y) m a0 i x) kr (fun m => ?_) (fun m i hi x hx => ?_)
  · unfold v at hy; obtain ⟨z, _, rfl⟩ := List.mem_map.1 hy; rfl
  · simp only [l3, r3, Lib.dlt, Nat.lt_irrefl, decide_false, cond_false]
  · have hi2 : i < x.length := by omega
    have e : (v a0).getD i [] = [CV.i IntKind.i64 (cvI (cellAt a0 i 0))] := by
      unfold v; simp [List.getD, hi, cellAt]
    simp only [l3, r3, Lib.dlt, Lib.dle0, Lib.toN, hi, hi2, decide_true, Bool.true_and, cond_true, Lib.w64_s hi (by omega), e]
end Go.FG.Pu.laws_toIntS

namespace Go.FG.Pu.laws_toIntSS
def r3 {R : Type} (N : Nat) (g : Row → Int → Row → Option R) (k0 : Row → Int → Row → Option R) (x0 : Row) (x1 : Int) (x2 : Row) : Option R := bif (decide (x1 < (↑(List.length x0) : Int))) then (bif (decide (0 ≤ x1) && decide (x1 < (↑(List.length x0) : Int))) then (bif (Pu.laws_toIntS.c (cvL (cellAt x0 (Int.toNat x1) 0))) then (bif (decide (0 ≤ x1) && decide (x1 < (↑(List.length x2) : Int))) then (g x0 (w64 (x1 + 1)) (setC x2 (Int.toNat x1) 0 [CV.l 3 (Pu.laws_toIntS.v (cvL (cellAt x0 (Int.toNat x1) 0)))])) else (none)) else (none)) else (none)) else (k0 x0 x1 x2)
def l3 {R : Type} (N : Nat) (k0 : Row → Int → Row → Option R) : Nat → Row → Int → Row → Option R
  | 0 => (fun _ _ _ => none)
  | n + 1 => (fun x0 x1 x2 => r3 N (l3 N k0 n) k0 x0 x1 x2)
def b {R : Type} (N : Nat) (kr : Row → Option R) (a0 : Row) : Option R := bif (decide ((↑(List.length a0) : Int) = (↑(List.length a0) : Int)) && roomy (Int.toNat (↑(List.length a0) : Int)) 24) then (l3 N (fun y3 y4 y5 => kr y5) N a0 0 (zeros [Ck.l 3] (Int.toNat (↑(List.length a0) : Int)))) else (none)
theorem q3_bind {R S : Type} (f : R → Option S) (N : Nat) (k0 : Row → Int → Row → Option R) : ∀ n : Nat, (∀ (x0 : Row) (x1 : Int) (x2 : Row), Option.bind (l3 N k0 n x0 x1 x2) f = l3 N (fun y0 y1 y2 => (Option.bind (k0 y0 y1 y2) f)) n x0 x1 x2) := by
  intro n
  induction n with
  | zero => exact (fun _ _ _ => rfl)
  | succ n ih =>
    intro x0 x1 x2
    simp only [l3, r3, Lib.cond_bind, Lib.some_bind, Lib.none_bind, ih]
theorem l3_bind {R S : Type} (f : R → Option S) (N : Nat) (k0 : Row → Int → Row → Option R) (n : Nat) (x0 : Row) (x1 : Int) (x2 : Row) : Option.bind (l3 N k0 n x0 x1 x2) f = l3 N (fun y0 y1 y2 => (Option.bind (k0 y0 y1 y2) f)) n x0 x1 x2 := (q3_bind f N k0 n) x0 x1 x2
theorem b_bind {R : Type} (N : Nat) (kr : Row → Option R) (a0 : Row) : b N kr a0 = Option.bind (b N (fun r0 => some (r0)) a0) (fun p => kr p) := by
  unfold b; simp only [Lib.cond_bind, Lib.some_bind, Lib.none_bind, l3_bind]
def vo (a0 : Row) : Option (Row) := b Lib.big (fun r0 => some (r0)) a0
def c (a0 : Row) : Bool := Option.isSome (vo a0)
def v (a0 : Row) : Row := Option.getD (vo a0) ([])
theorem out (a0 : Row) {x : Row} (h : vo a0 = some x) : c a0 = true ∧ v a0 = x := by
  unfold c v; rw [h]; exact ⟨rfl, rfl⟩
theorem b_eq {R : Type} (kr : Row → Option R) (a0 : Row) (hc : c a0 = true) : ∃ N, b N kr a0 = kr (v a0) := by
  refine ⟨Lib.big, ?_⟩
  rw [b_bind]
  have e : vo a0 = some (v a0) := by
    unfold c at hc; unfold v
    cases h : vo a0 with
    | none => rw [h] at hc; cases hc
    | some x => rfl
  unfold vo at e
  rw [e]; rfl
end Go.FG.Pu.laws_toIntSS

namespace Go.FG.Pu.laws_toSketch
def b {R : Type} (kr : Row → Int → Option R) (a0_0 : Row) (a0_1 : Int) : Option R := bif (Pu.laws_toIntSS.c a0_0) then (kr (Pu.laws_toIntSS.v a0_0) a0_1) else (none)
theorem b_bind {R : Type} (kr : Row → Int → Option R) (a0_0 : Row) (a0_1 : Int) : b kr a0_0 a0_1 = Option.bind (b (fun r0 r1 => some (r0, r1)) a0_0 a0_1) (fun p => kr p.1 p.2) := by
  unfold b; simp only [Lib.cond_bind, Lib.some_bind, Lib.none_bind]
def vo (a0_0 : Row) (a0_1 : Int) : Option (Row × Int) := b (fun r0 r1 => some (r0, r1)) a0_0 a0_1
def c (a0_0 : Row) (a0_1 : Int) : Bool := Option.isSome (vo a0_0 a0_1)
def v (a0_0 : Row) (a0_1 : Int) : Row × Int := Option.getD (vo a0_0 a0_1) ([], 0)
theorem out (a0_0 : Row) (a0_1 : Int) {x : Row × Int} (h : vo a0_0 a0_1 = some x) : c a0_0 a0_1 = true ∧ v a0_0 a0_1 = x := by
  unfold c v; rw [h]; exact ⟨rfl, rfl⟩
theorem b_eq {R : Type} (kr : Row → Int → Option R) (a0_0 : Row) (a0_1 : Int) (hc : c a0_0 a0_1 = true) : b kr a0_0 a0_1 = kr ((v a0_0 a0_1).1) ((v a0_0 a0_1).2) := by
  rw [b_bind]
  have e : vo a0_0 a0_1 = some (v a0_0 a0_1) := by
    unfold c at hc; unfold v
    cases h : vo a0_0 a0_1 with
    | none => rw [h] at hc; cases hc
    | some x => rfl
  unfold vo at e
  rw [e]; rfl
end Go.FG.Pu.laws_toSketch

namespace Go.FG.Pu.laws_toPolicy
def b {R : Type} (kr : Row → Row → Row → Int → Option R) (a0_0 : Row) (a0_1 : Row) (a0_2 : Row) (a0_3 : Int) : Option R := bif (Pu.laws_toStringS.c a0_0) then (bif (Pu.laws_toStringS.c a0_1) then (bif (Pu.laws_toSketch.c a0_2 a0_3) then (kr (Pu.laws_toStringS.v a0_0) (Pu.laws_toStringS.v a0_1) ((Pu.laws_toSketch.v a0_2 a0_3).1) ((Pu.laws_toSketch.v a0_2 a0_3).2)) else (none)) else (none)) else (none)
theorem b_bind {R : Type} (kr : Row → Row → Row → Int → Option R) (a0_0 : Row) (a0_1 : Row) (a0_2 : Row) (a0_3 : Int) : b kr a0_0 a0_1 a0_2 a0_3 = Option.bind (b (fun r0 r1 r2 r3 => some (r0, r1, r2, r3)) a0_0 a0_1 a0_2 a0_3) (fun p => kr p.1 p.2.1 p.2.2.1 p.2.2.2) := by
  unfold b; simp only [Lib.cond_bind, Lib.some_bind, Lib.none_bind]
def vo (a0_0 : Row) (a0_1 : Row) (a0_2 : Row) (a0_3 : Int) : Option (Row × Row × Row × Int) := b (fun r0 r1 r2 r3 => some (r0, r1, r2, r3)) a0_0 a0_1 a0_2 a0_3
def c (a0_0 : Row) (a0_1 : Row) (a0_2 : Row) (a0_3 : Int) : Bool := Option.isSome (vo a0_0 a0_1 a0_2 a0_3)
def v (a0_0 : Row) (a0_1 : Row) (a0_2 : Row) (a0_3 : Int) : Row × Row × Row × Int := Option.getD (vo a0_0 a0_1 a0_2 a0_3) ([], [], [], 0)
theorem out (a0_0 : Row) (a0_1 : Row) (a0_2 : Row) (a0_3 : Int) {x : Row × Row × Row × Int} (h : vo a0_0 a0_1 a0_2 a0_3 = some x) : c a0_0 a0_1 a0_2 a0_3 = true ∧ v a0_0 a0_1 a0_2 a0_3 = x := by
  unfold c v; rw [h]; exact ⟨rfl, rfl⟩
theorem b_eq {R : Type} (kr : Row → Row → Row → Int → Option R) (a0_0 : Row) (a0_1 : Row) (a0_2 : Row) (a0_3 : Int) (hc : c a0_0 a0_1 a0_2 a0_3 = true) : b kr a0_0 a0_1 a0_2 a0_3 = kr ((v a0_0 a0_1 a0_2 a0_3).1) ((v a0_0 a0_1 a0_2 a0_3).2.1) ((v a0_0 a0_1 a0_2 a0_3).2.2.1) ((v a0_0 a0_1 a0_2 a0_3).2.2.2) := by
  rw [b_bind]
  have e : vo a0_0 a0_1 a0_2 a0_3 = some (v a0_0 a0_1 a0_2 a0_3) := by
    unfold c at hc; unfold v
    cases h : vo a0_0 a0_1 a0_2 a0_3 with
    | none => rw [h] at hc; cases hc
    | some x => rfl
  unfold vo at e
  rw [e]; rfl
end Go.FG.Pu.laws_toPolicy

namespace Go.FG.Pu.laws_toFetch
def b {R : Type} (kr : ByteArray → ByteArray → Int → Int → Int → Option R) (a0_0 : ByteArray) (a0_1 : ByteArray) (a0_2 : Int) (a0_3 : Int) (a0_4 : Int) : Option R := kr a0_0 a0_1 a0_2 a0_3 a0_4
def v (a0_0 : ByteArray) (a0_1 : ByteArray) (a0_2 : Int) (a0_3 : Int) (a0_4 : Int) : ByteArray × ByteArray × Int × Int × Int := (a0_0, a0_1, a0_2, a0_3, a0_4)
theorem b_eq {R : Type} (kr : ByteArray → ByteArray → Int → Int → Int → Option R) (a0_0 : ByteArray) (a0_1 : ByteArray) (a0_2 : Int) (a0_3 : Int) (a0_4 : Int) : b kr a0_0 a0_1 a0_2 a0_3 a0_4 = kr ((v a0_0 a0_1 a0_2 a0_3 a0_4).1) ((v a0_0 a0_1 a0_2 a0_3 a0_4).2.1) ((v a0_0 a0_1 a0_2 a0_3 a0_4).2.2.1) ((v a0_0 a0_1 a0_2 a0_3 a0_4).2.2.2.1) ((v a0_0 a0_1 a0_2 a0_3 a0_4).2.2.2.2) := by
  first | rfl | (unfold b v; simp only [Bool.cond_eq_ite]; (repeat' split) <;> rfl)
end Go.FG.Pu.laws_toFetch

namespace Go.FG.Pu.laws_toFetchS
def r3 {R : Type} (N : Nat) (g : Row → Int → Row → Option R) (k0 : Row → Int → Row → Option R) (x0 : Row) (x1 : Int) (x2 : Row) : Option R := bif (decide (x1 < (↑(List.length x0) : Int))) then (bif (decide (0 ≤ x1) && decide (x1 < (↑(List.length x0) : Int))) then (bif (decide (0 ≤ x1) && decide (x1 < (↑(List.length x2) : Int))) then (g x0 (w64 (x1 + 1)) (setC x2 (Int.toNat x1) 0 [CV.s (cvS (cellAt x0 (Int.toNat x1) 0)), CV.s (cvS (cellAt x0 (Int.toNat x1) 1)), CV.i IntKind.i64 (cvI (cellAt x0 (Int.toNat x1) (1 + 1))), CV.i IntKind.i64 (cvI (cellAt x0 (Int.toNat x1) (1 + 1 + 1))), CV.i IntKind.i64 (cvI (cellAt x0 (Int.toNat x1) (1 + 1 + 1 + 1)))])) else (none)) else (none)) else (k0 x0 x1 x2)
def l3 {R : Type} (N : Nat) (k0 : Row → Int → Row → Option R) : Nat → Row → Int → Row → Option R
  | 0 => (fun _ _ _ => none)
  | n + 1 => (fun x0 x1 x2 => r3 N (l3 N k0 n) k0 x0 x1 x2)
def b {R : Type} (N : Nat) (kr : Row → Option R) (a0 : Row) : Option R := bif (decide ((↑(List.length a0) : Int) = (↑(List.length a0) : Int)) && roomy (Int.toNat (↑(List.length a0) : Int)) 56) then (l3 N (fun y3 y4 y5 => kr y5) N a0 0 (zeros [Ck.s, Ck.s, Ck.i IntKind.i64, Ck.i IntKind.i64, Ck.i IntKind.i64] (Int.toNat (↑(List.length a0) : Int)))) else (none)
theorem q3_bind {R S : Type} (f : R → Option S) (N : Nat) (k0 : Row → Int → Row → Option R) : ∀ n : Nat, (∀ (x0 : Row) (x1 : Int) (x2 : Row), Option.bind (l3 N k0 n x0 x1 x2) f = l3 N (fun y0 y1 y2 => (Option.bind (k0 y0 y1 y2) f)) n x0 x1 x2) := by
  intro n
  induction n with
  | zero => exact (fun _ _ _ => rfl)
  | succ n ih =>
    intro x0 x1 x2
    simp only [l3, r3, Lib.cond_bind, Lib.some_bind, Lib.none_bind, ih]
theorem l3_bind {R S : Type} (f : R → Option S) (N : Nat) (k0 : Row → Int → Row → Option R) (n : Nat) (x0 : Row) (x1 : Int) (x2 : Row) : Option.bind (l3 N k0 n x0 x1 x2) f = l3 N (fun y0 y1 y2 => (Option.bind (k0 y0 y1 y2) f)) n x0 x1 x2 := (q3_bind f N k0 n) x0 x1 x2
theorem b_bind {R : Type} (N : Nat) (kr : Row → Option R) (a0 : Row) : b N kr a0 = Option.bind (b N (fun r0 => some (r0)) a0) (fun p => kr p) := by
  unfold b; simp only [Lib.cond_bind, Lib.some_bind, Lib.none_bind, l3_bind]
def vo (a0 : Row) : Option (Row) := b Lib.big (fun r0 => some (r0)) a0
def c (a0 : Row) : Bool := Option.isSome (vo a0)
def v (a0 : Row) : Row := Option.getD (vo a0) ([])
theorem out (a0 : Row) {x : Row} (h : vo a0 = some x) : c a0 = true ∧ v a0 = x := by
  unfold c v; rw [h]; exact ⟨rfl, rfl⟩
theorem b_eq {R : Type} (kr : Row → Option R) (a0 : Row) (hc : c a0 = true) : ∃ N, b N kr a0 = kr (v a0) := by
  refine ⟨Lib.big, ?_⟩
  rw [b_bind]
  have e : vo a0 = some (v a0) := by
    unfold c at hc; unfold v
    cases h : vo a0 with
    | none => rw [h] at hc; cases hc
    | some x => rfl
  unfold vo at e
  rw [e]; rfl
end Go.FG.Pu.laws_toFetchS

namespace Go.FG.Pu.laws_toClient
def b {R : Type} (kr : Int → ByteArray → Int → Int → Int → ByteArray → Int → Option R) (a0_0 : Int) (a0_1 : ByteArray) (a0_2 : Int) (a0_3 : Int) (a0_4 : Int) (a0_5 : ByteArray) (a0_6 : Int) : Option R := kr a0_0 a0_1 a0_2 a0_3 a0_4 a0_5 a0_6
def v (a0_0 : Int) (a0_1 : ByteArray) (a0_2 : Int) (a0_3 : Int) (a0_4 : Int) (a0_5 : ByteArray) (a0_6 : Int) : Int × ByteArray × Int × Int × Int × ByteArray × Int := (a0_0, a0_1, a0_2, a0_3, a0_4, a0_5, a0_6)
theorem b_eq {R : Type} (kr : Int → ByteArray → Int → Int → Int → ByteArray → Int → Option R) (a0_0 : Int) (a0_1 : ByteArray) (a0_2 : Int) (a0_3 : Int) (a0_4 : Int) (a0_5 : ByteArray) (a0_6 : Int) : b kr a0_0 a0_1 a0_2 a0_3 a0_4 a0_5 a0_6 = kr ((v a0_0 a0_1 a0_2 a0_3 a0_4 a0_5 a0_6).1) ((v a0_0 a0_1 a0_2 a0_3 a0_4 a0_5 a0_6).2.1) ((v a0_0 a0_1 a0_2 a0_3 a0_4 a0_5 a0_6).2.2.1) ((v a0_0 a0_1 a0_2 a0_3 a0_4 a0_5 a0_6).2.2.2.1) ((v a0_0 a0_1 a0_2 a0_3 a0_4 a0_5 a0_6).2.2.2.2.1) ((v a0_0 a0_1 a0_2 a0_3 a0_4 a0_5 a0_6).2.2.2.2.2.1) ((v a0_0 a0_1 a0_2 a0_3 a0_4 a0_5 a0_6).2.2.2.2.2.2) := by
  first | rfl | (unfold b v; simp only [Bool.cond_eq_ite]; (repeat' split) <;> rfl)
end Go.FG.Pu.laws_toClient

namespace Go.FG.Pu.laws_toClientS
def r3 {R : Type} (N : Nat) (g : Row → Int → Row → Option R) (k0 : Row → Int → Row → Option R) (x0 : Row) (x1 : Int) (x2 : Row) : Option R := bif (decide (x1 < (↑(List.length x0) : Int))) then (bif (decide (0 ≤ x1) && decide (x1 < (↑(List.length x0) : Int))) then (bif (decide (0 ≤ x1) && decide (x1 < (↑(List.length x2) : Int))) then (g x0 (w64 (x1 + 1)) (setC x2 (Int.toNat x1) 0 [CV.i IntKind.i64 (cvI (cellAt x0 (Int.toNat x1) 0)), CV.s (cvS (cellAt x0 (Int.toNat x1) 1)), CV.i IntKind.i64 (cvI (cellAt x0 (Int.toNat x1) (1 + 1))), CV.i IntKind.i64 (cvI (cellAt x0 (Int.toNat x1) (1 + 1 + 1))), CV.i IntKind.i64 (cvI (cellAt x0 (Int.toNat x1) (1 + 1 + 1 + 1))), CV.s (cvS (cellAt x0 (Int.toNat x1) (1 + 1 + 1 + 1 + 1))), CV.i IntKind.i64 (cvI (cellAt x0 (Int.toNat x1) (1 + 1 + 1 + 1 + 1 + 1)))])) else (none)) else (none)) else (k0 x0 x1 x2)
def l3 {R : Type} (N : Nat) (k0 : Row → Int → Row → Option R) : Nat → Row → Int → Row → Option R
  | 0 => (fun _ _ _ => none)
  | n + 1 => (fun x0 x1 x2 => r3 N (l3 N k0 n) k0 x0 x1 x2)
def b {R : Type} (N : Nat) (kr : Row → Option R) (a0 : Row) : Option R := bif (decide ((↑(List.length a0) : Int) = (↑(List.length a0) : Int)) && roomy (Int.toNat (↑(List.length a0) : Int)) 72) then (l3 N (fun y3 y4 y5 => kr y5) N a0 0 (zeros [Ck.i IntKind.i64, Ck.s, Ck.i IntKind.i64, Ck.i IntKind.i64, Ck.i IntKind.i64, Ck.s, Ck.i IntKind.i64] (Int.toNat (↑(List.length a0) : Int)))) else (none)
theorem q3_bind {R S : Type} (f : R → Option S) (N : Nat) (k0 : Row → Int → Row → Option R) : ∀ n : Nat, (∀ (x0 : Row) (x1 : Int) (x2 : Row), Option.bind (l3 N k0 n x0 x1 x2) f = l3 N (fun y0 y1 y2 => (Option.bind (k0 y0 y1 y2) f)) n x0 x1 x2) := by
  intro n
  induction n with
  | zero => exact (fun _ _ _ => rfl)
  | succ n ih =>
    intro x0 x1 x2
    simp only [l3, r3, Lib.cond_bind, Lib.some_bind, Lib.none_bind, ih]
theorem l3_bind {R S : Type} (f : R → Option S) (N : Nat) (k0 : Row → Int → Row → Option R) (n : Nat) (x0 : Row) (x1 : Int) (x2 : Row) : Option.bind (l3 N k0 n x0 x1 x2) f = l3 N (fun y0 y1 y2 => (Option.bind (k0 y0 y1 y2) f)) n x0 x1 x2 := (q3_bind f N k0 n) x0 x1 x2
theorem b_bind {R : Type} (N : Nat) (kr : Row → Option R) (a0 : Row) : b N kr a0 = Option.bind (b N (fun r0 => some (r0)) a0) (fun p => kr p) := by
  unfold b; simp only [Lib.cond_bind, Lib.some_bind, Lib.none_bind, l3_bind]
def vo (a0 : Row) : Option (Row) := b Lib.big (fun r0 => some (r0)) a0
def c (a0 : Row) : Bool := Option.isSome (vo a0)
def v (a0 : Row) : Row := Option.getD (vo a0) ([])
theorem out (a0 : Row) {x : Row} (h : vo a0 = some x) : c a0 = true ∧ v a0 = x := by
  unfold c v; rw [h]; exact ⟨rfl, rfl⟩
theorem b_eq {R : Type} (kr : Row → Option R) (a0 : Row) (hc : c a0 = true) : ∃ N, b N kr a0 = kr (v a0) := by
  refine ⟨Lib.big, ?_⟩
  rw [b_bind]
  have e : vo a0 = some (v a0) := by
    unfold c at hc; unfold v
    cases h : vo a0 with
    | none => rw [h] at hc; cases hc
    | some x => rfl
  unfold vo at e
  rw [e]; rfl
end Go.FG.Pu.laws_toClientS

namespace Go.FG.Pu.laws_toProxy
def b {R : Type} (kr : Int → Row → Row → Row → Row → Int → Row → Row → Int → Option R) (a0_0 : Int) (a0_1 : Row) (a0_2 : Row) (a0_3 : Row) (a0_4 : Row) (a0_5 : Int) (a0_6 : Row) (a0_7 : Row) (a0_8 : Int) : Option R := bif (Pu.laws_toEntryS.c a0_1) then (bif (Pu.laws_toPolicy.c a0_2 a0_3 a0_4 a0_5) then (bif (Pu.laws_toFetchS.c a0_6) then (bif (Pu.laws_toClientS.c a0_7) then (kr a0_0 (Pu.laws_toEntryS.v a0_1) ((Pu.laws_toPolicy.v a0_2 a0_3 a0_4 a0_5).1) ((Pu.laws_toPolicy.v a0_2 a0_3 a0_4 a0_5).2.1) ((Pu.laws_toPolicy.v a0_2 a0_3 a0_4 a0_5).2.2.1) ((Pu.laws_toPolicy.v a0_2 a0_3 a0_4 a0_5).2.2.2) (Pu.laws_toFetchS.v a0_6) (Pu.laws_toClientS.v a0_7) a0_8) else (none)) else (none)) else (none)) else (none)
theorem b_bind {R : Type} (kr : Int → Row → Row → Row → Row → Int → Row → Row → Int → Option R) (a0_0 : Int) (a0_1 : Row) (a0_2 : Row) (a0_3 : Row) (a0_4 : Row) (a0_5 : Int) (a0_6 : Row) (a0_7 : Row) (a0_8 : Int) : b kr a0_0 a0_1 a0_2 a0_3 a0_4 a0_5 a0_6 a0_7 a0_8 = Option.bind (b (fun r0 r1 r2 r3 r4 r5 r6 r7 r8 => some (r0, r1, r2, r3, r4, r5, r6, r7, r8)) a0_0 a0_1 a0_2 a0_3 a0_4 a0_5 a0_6 a0_7 a0_8) (fun p => kr p.1 p.2.1 p.2.2.1 p.2.2.2.1 p.2.2.2.2.1 p.2.2.2.2.2.1 p.2.2.2.2.2.2.1 p.2.2.2.2.2.2.2.1 p.2.2.2.2.2.2.2.2) := by
  unfold b; simp only [Lib.cond_bind, Lib.some_bind, Lib.none_bind]
def vo (a0_0 : Int) (a0_1 : Row) (a0_2 : Row) (a0_3 : Row) (a0_4 : Row) (a0_5 : Int) (a0_6 : Row) (a0_7 : Row) (a0_8 : Int) : Option (Int × Row × Row × Row × Row × Int × Row × Row × Int) := b (fun r0 r1 r2 r3 r4 r5 r6 r7 r8 => some (r0, r1, r2, r3, r4, r5, r6, r7, r8)) a0_0 a0_1 a0_2 a0_3 a0_4 a0_5 a0_6 a0_7 a0_8
def c (a0_0 : Int) (a0_1 : Row) (a0_2 : Row) (a0_3 : Row) (a0_4 : Row) (a0_5 : Int) (a0_6 : Row) (a0_7 : Row) (a0_8 : Int) : Bool := Option.isSome (vo a0_0 a0_1 a0_2 a0_3 a0_4 a0_5 a0_6 a0_7 a0_8)
def v (a0_0 : Int) (a0_1 : Row) (a0_2 : Row) (a0_3 : Row) (a0_4 : Row) (a0_5 : Int) (a0_6 : Row) (a0_7 : Row) (a0_8 : Int) : Int × Row × Row × Row × Row × Int × Row × Row × Int := Option.getD (vo a0_0 a0_1 a0_2 a0_3 a0_4 a0_5 a0_6 a0_7 a0_8) (0, [], [], [], [], 0, [], [], 0)
theorem out (a0_0 : Int) (a0_1 : Row) (a0_2 : Row) (a0_3 : Row) (a0_4 : Row) (a0_5 : Int) (a0_6 : Row) (a0_7 : Row) (a0_8 : Int) {x : Int × Row × Row × Row × Row × Int × Row × Row × Int} (h : vo a0_0 a0_1 a0_2 a0_3 a0_4 a0_5 a0_6 a0_7 a0_8 = some x) : c a0_0 a0_1 a0_2 a0_3 a0_4 a0_5 a0_6 a0_7 a0_8 = true ∧ v a0_0 a0_1 a0_2 a0_3 a0_4 a0_5 a0_6 a0_7 a0_8 = x := by
  unfold c v; rw [h]; exact ⟨rfl, rfl⟩
theorem b_eq {R : Type} (kr : Int → Row → Row → Row → Row → Int → Row → Row → Int → Option R) (a0_0 : Int) (a0_1 : Row) (a0_2 : Row) (a0_3 : Row) (a0_4 : Row) (a0_5 : Int) (a0_6 : Row) (a0_7 : Row) (a0_8 : Int) (hc : c a0_0 a0_1 a0_2 a0_3 a0_4 a0_5 a0_6 a0_7 a0_8 = true) : b kr a0_0 a0_1 a0_2 a0_3 a0_4 a0_5 a0_6 a0_7 a0_8 = kr ((v a0_0 a0_1 a0_2 a0_3 a0_4 a0_5 a0_6 a0_7 a0_8).1) ((v a0_0 a0_1 a0_2 a0_3 a0_4 a0_5 a0_6 a0_7 a0_8).2.1) ((v a0_0 a0_1 a0_2 a0_3 a0_4 a0_5 a0_6 a0_7 a0_8).2.2.1) ((v a0_0 a0_1 a0_2 a0_3 a0_4 a0_5 a0_6 a0_7 a0_8).2.2.2.1) ((v a0_0 a0_1 a0_2 a0_3 a0_4 a0_5 a0_6 a0_7 a0_8).2.2.2.2.1) ((v a0_0 a0_1 a0_2 a0_3 a0_4 a0_5 a0_6 a0_7 a0_8).2.2.2.2.2.1) ((v a0_0 a0_1 a0_2 a0_3 a0_4 a0_5 a0_6 a0_7 a0_8).2.2.2.2.2.2.1) ((v a0_0 a0_1 a0_2 a0_3 a0_4 a0_5 a0_6 a0_7 a0_8).2.2.2.2.2.2.2.1) ((v a0_0 a0_1 a0_2 a0_3 a0_4 a0_5 a0_6 a0_7 a0_8).2.2.2.2.2.2.2.2) := by
  rw [b_bind]
  have e : vo a0_0 a0_1 a0_2 a0_3 a0_4 a0_5 a0_6 a0_7 a0_8 = some (v a0_0 a0_1 a0_2 a0_3 a0_4 a0_5 a0_6 a0_7 a0_8) := by
    unfold c at hc; unfold v
    cases h : vo a0_0 a0_1 a0_2 a0_3 a0_4 a0_5 a0_6 a0_7 a0_8 with
    | none => rw [h] at hc; cases hc
    | some x => rfl
  unfold vo at e
  rw [e]; rfl
end Go.FG.Pu.laws_toProxy

namespace Go.FG.Pu.spec_l01In
def b {R : Type} (kr : Bool → Option R) (x0 : Int) (least1 : Int) (most2 : Int) : Option R := bif (decide (x0 ≥ least1)) then (kr (decide (x0 ≤ most2))) else (kr false)
def v (x0 : Int) (least1 : Int) (most2 : Int) : Bool := bif (decide (x0 ≥ least1)) then (((decide (x0 ≤ most2)))) else ((false))
theorem b_eq {R : Type} (kr : Bool → Option R) (x0 : Int) (least1 : Int) (most2 : Int) : b kr x0 least1 most2 = kr (v x0 least1 most2) := by
  first | rfl | (unfold b v; simp only [Bool.cond_eq_ite]; (repeat' split) <;> rfl)
end Go.FG.Pu.spec_l01In

namespace Go.FG.Pu.spec_l13Key
def b {R : Type} (kr : Bool → Option R) (s0 : ByteArray) : Option R := kr (Pu.spec_l01In.v (↑(ByteArray.size s0) : Int) 1 30)
def v (s0 : ByteArray) : Bool := ((Pu.spec_l01In.v (↑(ByteArray.size s0) : Int) 1 30))
theorem b_eq {R : Type} (kr : Bool → Option R) (s0 : ByteArray) : b kr s0 = kr (v s0) := by
  first | rfl | (unfold b v; simp only [Bool.cond_eq_ite]; (repeat' split) <;> rfl)
end Go.FG.Pu.spec_l13Key

namespace Go.FG.Pu.spec_EntryOk
def b {R : Type} (kr : Bool → Option R) (e0_0 : ByteArray) (e0_1 : Int) (e0_2 : Int) (e0_3 : ByteArray) : Option R := bif (Pu.spec_l13Key.v e0_0) then (bif (Pu.spec_l01In.v e0_1 0 1000000000) then (bif (Pu.spec_l01In.v e0_2 1 999999) then (kr (decide ((↑(ByteArray.size e0_3) : Int) ≤ 400))) else (kr false)) else (kr false)) else (kr false)
def v (e0_0 : ByteArray) (e0_1 : Int) (e0_2 : Int) (e0_3 : ByteArray) : Bool := bif (Pu.spec_l13Key.v e0_0) then (bif (Pu.spec_l01In.v e0_1 0 1000000000) then (bif (Pu.spec_l01In.v e0_2 1 999999) then (((decide ((↑(ByteArray.size e0_3) : Int) ≤ 400)))) else ((false))) else ((false))) else ((false))
theorem b_eq {R : Type} (kr : Bool → Option R) (e0_0 : ByteArray) (e0_1 : Int) (e0_2 : Int) (e0_3 : ByteArray) : b kr e0_0 e0_1 e0_2 e0_3 = kr (v e0_0 e0_1 e0_2 e0_3) := by
  first | rfl | (unfold b v; simp only [Bool.cond_eq_ite]; (repeat' split) <;> rfl)
theorem rng {k : ByteArray} {s l : Int} {b : ByteArray} (h : v k s l b = true) : (1 ≤ k.size ∧ k.size ≤ 30) ∧ (0 ≤ s ∧ s ≤ 1000000000) ∧ (1 ≤ l ∧ l ≤ 999999) ∧ b.size ≤ 400 := by
  unfold v at h
  cases h1 : Pu.spec_l13Key.v k <;> rw [h1] at h <;> simp only [cond_true, cond_false, Bool.false_eq_true] at h
  cases h2 : Pu.spec_l01In.v s 0 1000000000 <;> rw [h2] at h <;> simp only [cond_true, cond_false, Bool.false_eq_true] at h
  cases h3 : Pu.spec_l01In.v l 1 999999 <;> rw [h3] at h <;> simp only [cond_true, cond_false, Bool.false_eq_true] at h
  simp [Pu.spec_l13Key.v, Pu.spec_l01In.v] at h1 h2 h3
  have := of_decide_eq_true h
  omega
end Go.FG.Pu.spec_EntryOk

namespace Go.FG.Pu.spec_l13In
def r2 {R : Type} (N : Nat) (g : Row → ByteArray → Bool → Int → Option R) (k0 : Row → ByteArray → Bool → Int → Option R) (k1 : Row → ByteArray → Bool → Int → Option R) (x0 : Row) (x1 : ByteArray) (x2 : Bool) (x3 : Int) : Option R := bif (decide (x3 < (↑(List.length x0) : Int))) then (bif (decide (0 ≤ x3) && decide (x3 < (↑(List.length x0) : Int))) then (bif (List.beq (ByteArray.toList (cvS (cellAt x0 (Int.toNat x3) 0))) (ByteArray.toList x1)) then (k0 x0 x1 true x3) else (g x0 x1 x2 (w64 (x3 + 1)))) else (none)) else (k1 x0 x1 x2 x3)
def l2 {R : Type} (N : Nat) (k0 : Row → ByteArray → Bool → Int → Option R) (k1 : Row → ByteArray → Bool → Int → Option R) : Nat → Row → ByteArray → Bool → Int → Option R
  | 0 => (fun _ _ _ _ => none)
  | n + 1 => (fun x0 x1 x2 x3 => r2 N (l2 N k0 k1 n) k0 k1 x0 x1 x2 x3)
def b {R : Type} (N : Nat) (kr : Bool → Option R) (list0 : Row) (s1 : ByteArray) : Option R := l2 N (fun y4 y5 y6 y7 => kr y6) (fun y8 y9 y10 y11 => kr false) N list0 s1 false 0
theorem q2_bind {R S : Type} (f : R → Option S) (N : Nat) (k0 : Row → ByteArray → Bool → Int → Option R) (k1 : Row → ByteArray → Bool → Int → Option R) : ∀ n : Nat, (∀ (x0 : Row) (x1 : ByteArray) (x2 : Bool) (x3 : Int), Option.bind (l2 N k0 k1 n x0 x1 x2 x3) f = l2 N (fun y0 y1 y2 y3 => (Option.bind (k0 y0 y1 y2 y3) f)) (fun y0 y1 y2 y3 => (Option.bind (k1 y0 y1 y2 y3) f)) n x0 x1 x2 x3) := by
  intro n
  induction n with
  | zero => exact (fun _ _ _ _ => rfl)
  | succ n ih =>
    intro x0 x1 x2 x3
    simp only [l2, r2, Lib.cond_bind, Lib.some_bind, Lib.none_bind, ih]
theorem l2_bind {R S : Type} (f : R → Option S) (N : Nat) (k0 : Row → ByteArray → Bool → Int → Option R) (k1 : Row → ByteArray → Bool → Int → Option R) (n : Nat) (x0 : Row) (x1 : ByteArray) (x2 : Bool) (x3 : Int) : Option.bind (l2 N k0 k1 n x0 x1 x2 x3) f = l2 N (fun y0 y1 y2 y3 => (Option.bind (k0 y0 y1 y2 y3) f)) (fun y0 y1 y2 y3 => (Option.bind (k1 y0 y1 y2 y3) f)) n x0 x1 x2 x3 := (q2_bind f N k0 k1 n) x0 x1 x2 x3
theorem b_bind {R : Type} (N : Nat) (kr : Bool → Option R) (list0 : Row) (s1 : ByteArray) : b N kr list0 s1 = Option.bind (b N (fun r0 => some (r0)) list0 s1) (fun p => kr p) := by
  unfold b; simp only [Lib.cond_bind, Lib.some_bind, Lib.none_bind, l2_bind]
def vo (list0 : Row) (s1 : ByteArray) : Option (Bool) := b Lib.big (fun r0 => some (r0)) list0 s1
def c (list0 : Row) (s1 : ByteArray) : Bool := Option.isSome (vo list0 s1)
def v (list0 : Row) (s1 : ByteArray) : Bool := Option.getD (vo list0 s1) (false)
theorem out (list0 : Row) (s1 : ByteArray) {x : Bool} (h : vo list0 s1 = some x) : c list0 s1 = true ∧ v list0 s1 = x := by
  unfold c v; rw [h]; exact ⟨rfl, rfl⟩
theorem b_eq {R : Type} (kr : Bool → Option R) (list0 : Row) (s1 : ByteArray) (hc : c list0 s1 = true) : ∃ N, b N kr list0 s1 = kr (v list0 s1) := by
  refine ⟨Lib.big, ?_⟩
  rw [b_bind]
  have e : vo list0 s1 = some (v list0 s1) := by
    unfold c at hc; unfold v
    cases h : vo list0 s1 with
    | none => rw [h] at hc; cases hc
    | some x => rfl
  unfold vo at e
  rw [e]; rfl
end Go.FG.Pu.spec_l13In

namespace Go.FG.Pu.spec_PolicyHas
def b {R : Type} (kr : Bool → Option R) (p0_0 : Row) (p0_1 : Row) (p0_2 : Row) (p0_3 : Int) (key1 : ByteArray) : Option R := bif (Pu.spec_l13In.c p0_0 key1) then (bif (Pu.spec_l13In.v p0_0 key1) then (kr true) else (bif (Pu.spec_l13In.c p0_1 key1) then (kr (Pu.spec_l13In.v p0_1 key1)) else (none))) else (none)
theorem b_bind {R : Type} (kr : Bool → Option R) (p0_0 : Row) (p0_1 : Row) (p0_2 : Row) (p0_3 : Int) (key1 : ByteArray) : b kr p0_0 p0_1 p0_2 p0_3 key1 = Option.bind (b (fun r0 => some (r0)) p0_0 p0_1 p0_2 p0_3 key1) (fun p => kr p) := by
  unfold b; simp only [Lib.cond_bind, Lib.some_bind, Lib.none_bind]
def vo (p0_0 : Row) (p0_1 : Row) (p0_2 : Row) (p0_3 : Int) (key1 : ByteArray) : Option (Bool) := b (fun r0 => some (r0)) p0_0 p0_1 p0_2 p0_3 key1
def c (p0_0 : Row) (p0_1 : Row) (p0_2 : Row) (p0_3 : Int) (key1 : ByteArray) : Bool := Option.isSome (vo p0_0 p0_1 p0_2 p0_3 key1)
def v (p0_0 : Row) (p0_1 : Row) (p0_2 : Row) (p0_3 : Int) (key1 : ByteArray) : Bool := Option.getD (vo p0_0 p0_1 p0_2 p0_3 key1) (false)
theorem out (p0_0 : Row) (p0_1 : Row) (p0_2 : Row) (p0_3 : Int) (key1 : ByteArray) {x : Bool} (h : vo p0_0 p0_1 p0_2 p0_3 key1 = some x) : c p0_0 p0_1 p0_2 p0_3 key1 = true ∧ v p0_0 p0_1 p0_2 p0_3 key1 = x := by
  unfold c v; rw [h]; exact ⟨rfl, rfl⟩
theorem b_eq {R : Type} (kr : Bool → Option R) (p0_0 : Row) (p0_1 : Row) (p0_2 : Row) (p0_3 : Int) (key1 : ByteArray) (hc : c p0_0 p0_1 p0_2 p0_3 key1 = true) : b kr p0_0 p0_1 p0_2 p0_3 key1 = kr (v p0_0 p0_1 p0_2 p0_3 key1) := by
  rw [b_bind]
  have e : vo p0_0 p0_1 p0_2 p0_3 key1 = some (v p0_0 p0_1 p0_2 p0_3 key1) := by
    unfold c at hc; unfold v
    cases h : vo p0_0 p0_1 p0_2 p0_3 key1 with
    | none => rw [h] at hc; cases hc
    | some x => rfl
  unfold vo at e
  rw [e]; rfl
end Go.FG.Pu.spec_PolicyHas

namespace Go.FG.Pu.spec_SketchOk
def r9 {R : Type} (N : Nat) (g : Bool → Int → Int → Row → Int → Option R) (k0 : Bool → Int → Int → Row → Int → Option R) (k1 : Bool → Int → Int → Row → Int → Option R) (x4 : Bool) (x5 : Int) (x6 : Int) (x7 : Row) (x8 : Int) : Option R := bif (decide (0 ≤ x5) && decide (x5 < (↑(List.length x7) : Int))) then (bif (decide (x6 < (↑(List.length (cvL (cellAt x7 (Int.toNat x5) 0))) : Int))) then (bif (decide (0 ≤ x5) && decide (x5 < (↑(List.length x7) : Int))) then (bif (decide (0 ≤ x6) && decide (x6 < (↑(List.length (cvL (cellAt x7 (Int.toNat x5) 0))) : Int))) then (bif (!Pu.spec_l01In.v (cvI (cellAt (cvL (cellAt x7 (Int.toNat x5) 0)) (Int.toNat x6) 0)) 0 15) then (k0 false x5 x6 x7 x8) else (g x4 x5 (w64 (x6 + 1)) x7 x8)) else (none)) else (none)) else (k1 x4 x5 x6 x7 x8)) else (none)
def l9 {R : Type} (N : Nat) (k0 : Bool → Int → Int → Row → Int → Option R) (k1 : Bool → Int → Int → Row → Int → Option R) : Nat → Bool → Int → Int → Row → Int → Option R
  | 0 => (fun _ _ _ _ _ => none)
  | n + 1 => (fun x4 x5 x6 x7 x8 => r9 N (l9 N k0 k1 n) k0 k1 x4 x5 x6 x7 x8)
def r4 {R : Type} (N : Nat) (g : Bool → Int → Row → Int → Option R) (k0 : Bool → Int → Row → Int → Option R) (k1 : Bool → Int → Row → Int → Option R) (x0 : Bool) (x1 : Int) (x2 : Row) (x3 : Int) : Option R := bif (decide (x1 < (↑(List.length x2) : Int))) then (bif (decide (0 ≤ x1) && decide (x1 < (↑(List.length x2) : Int))) then (bif ((↑(List.length (cvL (cellAt x2 (Int.toNat x1) 0))) : Int) != 16) then (k0 false x1 x2 x3) else (l9 N (fun y9 y10 y11 y12 y13 => k0 y9 y10 y12 y13) (fun y14 y15 y16 y17 y18 => g y14 (w64 (y15 + 1)) y17 y18) N x0 x1 0 x2 x3)) else (none)) else (k1 x0 x1 x2 x3)
def l4 {R : Type} (N : Nat) (k0 : Bool → Int → Row → Int → Option R) (k1 : Bool → Int → Row → Int → Option R) : Nat → Bool → Int → Row → Int → Option R
  | 0 => (fun _ _ _ _ => none)
  | n + 1 => (fun x0 x1 x2 x3 => r4 N (l4 N k0 k1 n) k0 k1 x0 x1 x2 x3)
def b {R : Type} (N : Nat) (kr : Bool → Option R) (s0_0 : Row) (s0_1 : Int) : Option R := bif ((↑(List.length s0_0) : Int) != 3) then (kr false) else (bif (!Pu.spec_l01In.v s0_1 0 63) then (kr false) else (l4 N (fun y19 y20 y21 y22 => kr y19) (fun y23 y24 y25 y26 => kr true) N false 0 s0_0 s0_1))
theorem q9_bind {R S : Type} (f : R → Option S) (N : Nat) (k0 : Bool → Int → Int → Row → Int → Option R) (k1 : Bool → Int → Int → Row → Int → Option R) : ∀ n : Nat, (∀ (x4 : Bool) (x5 : Int) (x6 : Int) (x7 : Row) (x8 : Int), Option.bind (l9 N k0 k1 n x4 x5 x6 x7 x8) f = l9 N (fun y0 y1 y2 y3 y4 => (Option.bind (k0 y0 y1 y2 y3 y4) f)) (fun y0 y1 y2 y3 y4 => (Option.bind (k1 y0 y1 y2 y3 y4) f)) n x4 x5 x6 x7 x8) := by
  intro n
  induction n with
  | zero => exact (fun _ _ _ _ _ => rfl)
  | succ n ih =>
    intro x4 x5 x6 x7 x8
    simp only [l9, r9, Lib.cond_bind, Lib.some_bind, Lib.none_bind, ih]
theorem l9_bind {R S : Type} (f : R → Option S) (N : Nat) (k0 : Bool → Int → Int → Row → Int → Option R) (k1 : Bool → Int → Int → Row → Int → Option R) (n : Nat) (x4 : Bool) (x5 : Int) (x6 : Int) (x7 : Row) (x8 : Int) : Option.bind (l9 N k0 k1 n x4 x5 x6 x7 x8) f = l9 N (fun y0 y1 y2 y3 y4 => (Option.bind (k0 y0 y1 y2 y3 y4) f)) (fun y0 y1 y2 y3 y4 => (Option.bind (k1 y0 y1 y2 y3 y4) f)) n x4 x5 x6 x7 x8 := (q9_bind f N k0 k1 n) x4 x5 x6 x7 x8
theorem q4_bind {R S : Type} (f : R → Option S) (N : Nat) (k0 : Bool → Int → Row → Int → Option R) (k1 : Bool → Int → Row → Int → Option R) : ∀ n : Nat, (∀ (x0 : Bool) (x1 : Int) (x2 : Row) (x3 : Int), Option.bind (l4 N k0 k1 n x0 x1 x2 x3) f = l4 N (fun y0 y1 y2 y3 => (Option.bind (k0 y0 y1 y2 y3) f)) (fun y0 y1 y2 y3 => (Option.bind (k1 y0 y1 y2 y3) f)) n x0 x1 x2 x3) := by
  intro n
  induction n with
  | zero => exact (fun _ _ _ _ => rfl)
  | succ n ih =>
    intro x0 x1 x2 x3
    simp only [l4, r4, Lib.cond_bind, Lib.some_bind, Lib.none_bind, ih, l9_bind]
theorem l4_bind {R S : Type} (f : R → Option S) (N : Nat) (k0 : Bool → Int → Row → Int → Option R) (k1 : Bool → Int → Row → Int → Option R) (n : Nat) (x0 : Bool) (x1 : Int) (x2 : Row) (x3 : Int) : Option.bind (l4 N k0 k1 n x0 x1 x2 x3) f = l4 N (fun y0 y1 y2 y3 => (Option.bind (k0 y0 y1 y2 y3) f)) (fun y0 y1 y2 y3 => (Option.bind (k1 y0 y1 y2 y3) f)) n x0 x1 x2 x3 := (q4_bind f N k0 k1 n) x0 x1 x2 x3
theorem b_bind {R : Type} (N : Nat) (kr : Bool → Option R) (s0_0 : Row) (s0_1 : Int) : b N kr s0_0 s0_1 = Option.bind (b N (fun r0 => some (r0)) s0_0 s0_1) (fun p => kr p) := by
  unfold b; simp only [Lib.cond_bind, Lib.some_bind, Lib.none_bind, l9_bind, l4_bind]
def vo (s0_0 : Row) (s0_1 : Int) : Option (Bool) := b Lib.big (fun r0 => some (r0)) s0_0 s0_1
def c (s0_0 : Row) (s0_1 : Int) : Bool := Option.isSome (vo s0_0 s0_1)
def v (s0_0 : Row) (s0_1 : Int) : Bool := Option.getD (vo s0_0 s0_1) (false)
theorem out (s0_0 : Row) (s0_1 : Int) {x : Bool} (h : vo s0_0 s0_1 = some x) : c s0_0 s0_1 = true ∧ v s0_0 s0_1 = x := by
  unfold c v; rw [h]; exact ⟨rfl, rfl⟩
theorem b_eq {R : Type} (kr : Bool → Option R) (s0_0 : Row) (s0_1 : Int) (hc : c s0_0 s0_1 = true) : ∃ N, b N kr s0_0 s0_1 = kr (v s0_0 s0_1) := by
  refine ⟨Lib.big, ?_⟩
  rw [b_bind]
  have e : vo s0_0 s0_1 = some (v s0_0 s0_1) := by
    unfold c at hc; unfold v
    cases h : vo s0_0 s0_1 with
    | none => rw [h] at hc; cases hc
    | some x => rfl
  unfold vo at e
  rw [e]; rfl
end Go.FG.Pu.spec_SketchOk

namespace Go.FG.Pu.spec_PolicyOk
def r3 {R : Type} (N : Nat) (g : Bool → Int → Row → Row → Row → Int → Row → Option R) (k0 : Bool → Int → Row → Row → Row → Int → Row → Option R) (k1 : Bool → Int → Row → Row → Row → Int → Row → Option R) (x0 : Bool) (x1 : Int) (x2 : Row) (x3 : Row) (x4 : Row) (x5 : Int) (x6 : Row) : Option R := bif (decide (x1 < (↑(List.length x6) : Int))) then (bif (decide (0 ≤ x1) && decide (x1 < (↑(List.length x6) : Int))) then (bif (!Pu.spec_l13Key.v (cvS (cellAt x6 (Int.toNat x1) 0))) then (k0 false x1 x2 x3 x4 x5 x6) else (bif (inB 0 x1 (↑(List.length x6) : Int)) then (bif (decide (0 ≤ x1) && decide (x1 < (↑(List.length x6) : Int))) then (bif (Pu.spec_l13In.c (view x6 (Int.toNat 0) (Int.toNat x1)) (cvS (cellAt x6 (Int.toNat x1) 0))) then (bif (Pu.spec_l13In.v (view x6 (Int.toNat 0) (Int.toNat x1)) (cvS (cellAt x6 (Int.toNat x1) 0))) then (k0 false x1 x2 x3 x4 x5 x6) else (g x0 (w64 (x1 + 1)) x2 x3 x4 x5 x6)) else (none)) else (none)) else (none))) else (none)) else (k1 x0 x1 x2 x3 x4 x5 x6)
def l3 {R : Type} (N : Nat) (k0 : Bool → Int → Row → Row → Row → Int → Row → Option R) (k1 : Bool → Int → Row → Row → Row → Int → Row → Option R) : Nat → Bool → Int → Row → Row → Row → Int → Row → Option R
  | 0 => (fun _ _ _ _ _ _ _ => none)
  | n + 1 => (fun x0 x1 x2 x3 x4 x5 x6 => r3 N (l3 N k0 k1 n) k0 k1 x0 x1 x2 x3 x4 x5 x6)
def b {R : Type} (N : Nat) (kr : Bool → Option R) (p0_0 : Row) (p0_1 : Row) (p0_2 : Row) (p0_3 : Int) : Option R := bif (roomy (List.length (zeros [Ck.s] 0) + List.length p0_0) 16) then (bif (roomy (List.length (zeros [Ck.s] 0 ++ p0_0) + List.length p0_1) 16) then (l3 N (fun y7 y8 y9 y10 y11 y12 y13 => kr y7) (fun y14 y15 y16 y17 y18 y19 y20 => bif (decide ((↑(List.length y16) : Int) ≤ 2)) then (bif (decide ((↑(List.length y17) : Int) ≤ 4)) then (bif (Pu.spec_SketchOk.c y18 y19) then (kr (Pu.spec_SketchOk.v y18 y19)) else (none)) else (kr false)) else (kr false)) N false 0 p0_0 p0_1 p0_2 p0_3 (zeros [Ck.s] 0 ++ p0_0 ++ p0_1)) else (none)) else (none)
theorem q3_bind {R S : Type} (f : R → Option S) (N : Nat) (k0 : Bool → Int → Row → Row → Row → Int → Row → Option R) (k1 : Bool → Int → Row → Row → Row → Int → Row → Option R) : ∀ n : Nat, (∀ (x0 : Bool) (x1 : Int) (x2 : Row) (x3 : Row) (x4 : Row) (x5 : Int) (x6 : Row), Option.bind (l3 N k0 k1 n x0 x1 x2 x3 x4 x5 x6) f = l3 N (fun y0 y1 y2 y3 y4 y5 y6 => (Option.bind (k0 y0 y1 y2 y3 y4 y5 y6) f)) (fun y0 y1 y2 y3 y4 y5 y6 => (Option.bind (k1 y0 y1 y2 y3 y4 y5 y6) f)) n x0 x1 x2 x3 x4 x5 x6) := by
  intro n
  induction n with
  | zero => exact (fun _ _ _ _ _ _ _ => rfl)
  | succ n ih =>
    intro x0 x1 x2 x3 x4 x5 x6
    simp only [l3, r3, Lib.cond_bind, Lib.some_bind, Lib.none_bind, ih]
theorem l3_bind {R S : Type} (f : R → Option S) (N : Nat) (k0 : Bool → Int → Row → Row → Row → Int → Row → Option R) (k1 : Bool → Int → Row → Row → Row → Int → Row → Option R) (n : Nat) (x0 : Bool) (x1 : Int) (x2 : Row) (x3 : Row) (x4 : Row) (x5 : Int) (x6 : Row) : Option.bind (l3 N k0 k1 n x0 x1 x2 x3 x4 x5 x6) f = l3 N (fun y0 y1 y2 y3 y4 y5 y6 => (Option.bind (k0 y0 y1 y2 y3 y4 y5 y6) f)) (fun y0 y1 y2 y3 y4 y5 y6 => (Option.bind (k1 y0 y1 y2 y3 y4 y5 y6) f)) n x0 x1 x2 x3 x4 x5 x6 := (q3_bind f N k0 k1 n) x0 x1 x2 x3 x4 x5 x6
theorem b_bind {R : Type} (N : Nat) (kr : Bool → Option R) (p0_0 : Row) (p0_1 : Row) (p0_2 : Row) (p0_3 : Int) : b N kr p0_0 p0_1 p0_2 p0_3 = Option.bind (b N (fun r0 => some (r0)) p0_0 p0_1 p0_2 p0_3) (fun p => kr p) := by
  unfold b; simp only [Lib.cond_bind, Lib.some_bind, Lib.none_bind, l3_bind]
def vo (p0_0 : Row) (p0_1 : Row) (p0_2 : Row) (p0_3 : Int) : Option (Bool) := b Lib.big (fun r0 => some (r0)) p0_0 p0_1 p0_2 p0_3
def c (p0_0 : Row) (p0_1 : Row) (p0_2 : Row) (p0_3 : Int) : Bool := Option.isSome (vo p0_0 p0_1 p0_2 p0_3)
def v (p0_0 : Row) (p0_1 : Row) (p0_2 : Row) (p0_3 : Int) : Bool := Option.getD (vo p0_0 p0_1 p0_2 p0_3) (false)
theorem out (p0_0 : Row) (p0_1 : Row) (p0_2 : Row) (p0_3 : Int) {x : Bool} (h : vo p0_0 p0_1 p0_2 p0_3 = some x) : c p0_0 p0_1 p0_2 p0_3 = true ∧ v p0_0 p0_1 p0_2 p0_3 = x := by
  unfold c v; rw [h]; exact ⟨rfl, rfl⟩
theorem b_eq {R : Type} (kr : Bool → Option R) (p0_0 : Row) (p0_1 : Row) (p0_2 : Row) (p0_3 : Int) (hc : c p0_0 p0_1 p0_2 p0_3 = true) : ∃ N, b N kr p0_0 p0_1 p0_2 p0_3 = kr (v p0_0 p0_1 p0_2 p0_3) := by
  refine ⟨Lib.big, ?_⟩
  rw [b_bind]
  have e : vo p0_0 p0_1 p0_2 p0_3 = some (v p0_0 p0_1 p0_2 p0_3) := by
    unfold c at hc; unfold v
    cases h : vo p0_0 p0_1 p0_2 p0_3 with
    | none => rw [h] at hc; cases hc
    | some x => rfl
  unfold vo at e
  rw [e]; rfl
end Go.FG.Pu.spec_PolicyOk

namespace Go.FG.Pu.spec_l16Entries
def r2 {R : Type} (N : Nat) (g : Bool → Int → Int → Row → Row → Row → Row → Int → Row → Row → Int → Option R) (k0 : Bool → Int → Int → Row → Row → Row → Row → Int → Row → Row → Int → Option R) (k1 : Bool → Int → Int → Row → Row → Row → Row → Int → Row → Row → Int → Option R) (x0 : Bool) (x1 : Int) (x2 : Int) (x3 : Row) (x4 : Row) (x5 : Row) (x6 : Row) (x7 : Int) (x8 : Row) (x9 : Row) (x10 : Int) : Option R := bif (decide (x1 < (↑(List.length x3) : Int))) then (bif (decide (0 ≤ x1) && decide (x1 < (↑(List.length x3) : Int))) then (bif (!Pu.spec_EntryOk.v (cvS (cellAt x3 (Int.toNat x1) 0)) (cvI (cellAt x3 (Int.toNat x1) 1)) (cvI (cellAt x3 (Int.toNat x1) (1 + 1))) (cvS (cellAt x3 (Int.toNat x1) (1 + 1 + 1)))) then (k0 false x1 x2 x3 x4 x5 x6 x7 x8 x9 x10) else (bif (decide (x1 > 0)) then (bif (decide (0 ≤ w64 (x1 - 1)) && decide (w64 (x1 - 1) < (↑(List.length x3) : Int))) then (bif (decide (0 ≤ x1) && decide (x1 < (↑(List.length x3) : Int))) then (bif (!Go.Op.bytesLess (ByteArray.toList (cvS (cellAt x3 (Int.toNat (w64 (x1 - 1))) 0))) (ByteArray.toList (cvS (cellAt x3 (Int.toNat x1) 0)))) then (k0 false x1 x2 x3 x4 x5 x6 x7 x8 x9 x10) else (bif (decide (0 ≤ x1) && decide (x1 < (↑(List.length x3) : Int))) then (bif (Pu.spec_PolicyHas.c x4 x5 x6 x7 (cvS (cellAt x3 (Int.toNat x1) 0))) then (bif (!Pu.spec_PolicyHas.v x4 x5 x6 x7 (cvS (cellAt x3 (Int.toNat x1) 0))) then (k0 false x1 x2 x3 x4 x5 x6 x7 x8 x9 x10) else (g x0 (w64 (x1 + 1)) x2 x3 x4 x5 x6 x7 x8 x9 x10)) else (none)) else (none))) else (none)) else (none)) else (bif (decide (0 ≤ x1) && decide (x1 < (↑(List.length x3) : Int))) then (bif (Pu.spec_PolicyHas.c x4 x5 x6 x7 (cvS (cellAt x3 (Int.toNat x1) 0))) then (bif (!Pu.spec_PolicyHas.v x4 x5 x6 x7 (cvS (cellAt x3 (Int.toNat x1) 0))) then (k0 false x1 x2 x3 x4 x5 x6 x7 x8 x9 x10) else (g x0 (w64 (x1 + 1)) x2 x3 x4 x5 x6 x7 x8 x9 x10)) else (none)) else (none)))) else (none)) else (k1 x0 x1 x2 x3 x4 x5 x6 x7 x8 x9 x10)
def l2 {R : Type} (N : Nat) (k0 : Bool → Int → Int → Row → Row → Row → Row → Int → Row → Row → Int → Option R) (k1 : Bool → Int → Int → Row → Row → Row → Row → Int → Row → Row → Int → Option R) : Nat → Bool → Int → Int → Row → Row → Row → Row → Int → Row → Row → Int → Option R
  | 0 => (fun _ _ _ _ _ _ _ _ _ _ _ => none)
  | n + 1 => (fun x0 x1 x2 x3 x4 x5 x6 x7 x8 x9 x10 => r2 N (l2 N k0 k1 n) k0 k1 x0 x1 x2 x3 x4 x5 x6 x7 x8 x9 x10)
def b {R : Type} (N : Nat) (kr : Bool → Option R) (p0_0 : Int) (p0_1 : Row) (p0_2 : Row) (p0_3 : Row) (p0_4 : Row) (p0_5 : Int) (p0_6 : Row) (p0_7 : Row) (p0_8 : Int) : Option R := l2 N (fun y11 y12 y13 y14 y15 y16 y17 y18 y19 y20 y21 => kr y11) (fun y22 y23 y24 y25 y26 y27 y28 y29 y30 y31 y32 => bif (Pu.spec_PolicyOk.c y26 y27 y28 y29) then (bif (Pu.spec_PolicyOk.v y26 y27 y28 y29) then (kr (decide ((↑(List.length y25) : Int) = w64 ((↑(List.length y26) : Int) + (↑(List.length y27) : Int))))) else (kr false)) else (none)) N false 0 p0_0 p0_1 p0_2 p0_3 p0_4 p0_5 p0_6 p0_7 p0_8
theorem q2_bind {R S : Type} (f : R → Option S) (N : Nat) (k0 : Bool → Int → Int → Row → Row → Row → Row → Int → Row → Row → Int → Option R) (k1 : Bool → Int → Int → Row → Row → Row → Row → Int → Row → Row → Int → Option R) : ∀ n : Nat, (∀ (x0 : Bool) (x1 : Int) (x2 : Int) (x3 : Row) (x4 : Row) (x5 : Row) (x6 : Row) (x7 : Int) (x8 : Row) (x9 : Row) (x10 : Int), Option.bind (l2 N k0 k1 n x0 x1 x2 x3 x4 x5 x6 x7 x8 x9 x10) f = l2 N (fun y0 y1 y2 y3 y4 y5 y6 y7 y8 y9 y10 => (Option.bind (k0 y0 y1 y2 y3 y4 y5 y6 y7 y8 y9 y10) f)) (fun y0 y1 y2 y3 y4 y5 y6 y7 y8 y9 y10 => (Option.bind (k1 y0 y1 y2 y3 y4 y5 y6 y7 y8 y9 y10) f)) n x0 x1 x2 x3 x4 x5 x6 x7 x8 x9 x10) := by
  intro n
  induction n with
  | zero => exact (fun _ _ _ _ _ _ _ _ _ _ _ => rfl)
  | succ n ih =>
    intro x0 x1 x2 x3 x4 x5 x6 x7 x8 x9 x10
    simp only [l2, r2, Lib.cond_bind, Lib.some_bind, Lib.none_bind, ih]
theorem l2_bind {R S : Type} (f : R → Option S) (N : Nat) (k0 : Bool → Int → Int → Row → Row → Row → Row → Int → Row → Row → Int → Option R) (k1 : Bool → Int → Int → Row → Row → Row → Row → Int → Row → Row → Int → Option R) (n : Nat) (x0 : Bool) (x1 : Int) (x2 : Int) (x3 : Row) (x4 : Row) (x5 : Row) (x6 : Row) (x7 : Int) (x8 : Row) (x9 : Row) (x10 : Int) : Option.bind (l2 N k0 k1 n x0 x1 x2 x3 x4 x5 x6 x7 x8 x9 x10) f = l2 N (fun y0 y1 y2 y3 y4 y5 y6 y7 y8 y9 y10 => (Option.bind (k0 y0 y1 y2 y3 y4 y5 y6 y7 y8 y9 y10) f)) (fun y0 y1 y2 y3 y4 y5 y6 y7 y8 y9 y10 => (Option.bind (k1 y0 y1 y2 y3 y4 y5 y6 y7 y8 y9 y10) f)) n x0 x1 x2 x3 x4 x5 x6 x7 x8 x9 x10 := (q2_bind f N k0 k1 n) x0 x1 x2 x3 x4 x5 x6 x7 x8 x9 x10
theorem b_bind {R : Type} (N : Nat) (kr : Bool → Option R) (p0_0 : Int) (p0_1 : Row) (p0_2 : Row) (p0_3 : Row) (p0_4 : Row) (p0_5 : Int) (p0_6 : Row) (p0_7 : Row) (p0_8 : Int) : b N kr p0_0 p0_1 p0_2 p0_3 p0_4 p0_5 p0_6 p0_7 p0_8 = Option.bind (b N (fun r0 => some (r0)) p0_0 p0_1 p0_2 p0_3 p0_4 p0_5 p0_6 p0_7 p0_8) (fun p => kr p) := by
  unfold b; simp only [Lib.cond_bind, Lib.some_bind, Lib.none_bind, l2_bind]
def vo (p0_0 : Int) (p0_1 : Row) (p0_2 : Row) (p0_3 : Row) (p0_4 : Row) (p0_5 : Int) (p0_6 : Row) (p0_7 : Row) (p0_8 : Int) : Option (Bool) := b Lib.big (fun r0 => some (r0)) p0_0 p0_1 p0_2 p0_3 p0_4 p0_5 p0_6 p0_7 p0_8
def c (p0_0 : Int) (p0_1 : Row) (p0_2 : Row) (p0_3 : Row) (p0_4 : Row) (p0_5 : Int) (p0_6 : Row) (p0_7 : Row) (p0_8 : Int) : Bool := Option.isSome (vo p0_0 p0_1 p0_2 p0_3 p0_4 p0_5 p0_6 p0_7 p0_8)
def v (p0_0 : Int) (p0_1 : Row) (p0_2 : Row) (p0_3 : Row) (p0_4 : Row) (p0_5 : Int) (p0_6 : Row) (p0_7 : Row) (p0_8 : Int) : Bool := Option.getD (vo p0_0 p0_1 p0_2 p0_3 p0_4 p0_5 p0_6 p0_7 p0_8) (false)
theorem out (p0_0 : Int) (p0_1 : Row) (p0_2 : Row) (p0_3 : Row) (p0_4 : Row) (p0_5 : Int) (p0_6 : Row) (p0_7 : Row) (p0_8 : Int) {x : Bool} (h : vo p0_0 p0_1 p0_2 p0_3 p0_4 p0_5 p0_6 p0_7 p0_8 = some x) : c p0_0 p0_1 p0_2 p0_3 p0_4 p0_5 p0_6 p0_7 p0_8 = true ∧ v p0_0 p0_1 p0_2 p0_3 p0_4 p0_5 p0_6 p0_7 p0_8 = x := by
  unfold c v; rw [h]; exact ⟨rfl, rfl⟩
theorem b_eq {R : Type} (kr : Bool → Option R) (p0_0 : Int) (p0_1 : Row) (p0_2 : Row) (p0_3 : Row) (p0_4 : Row) (p0_5 : Int) (p0_6 : Row) (p0_7 : Row) (p0_8 : Int) (hc : c p0_0 p0_1 p0_2 p0_3 p0_4 p0_5 p0_6 p0_7 p0_8 = true) : ∃ N, b N kr p0_0 p0_1 p0_2 p0_3 p0_4 p0_5 p0_6 p0_7 p0_8 = kr (v p0_0 p0_1 p0_2 p0_3 p0_4 p0_5 p0_6 p0_7 p0_8) := by
  refine ⟨Lib.big, ?_⟩
  rw [b_bind]
  have e : vo p0_0 p0_1 p0_2 p0_3 p0_4 p0_5 p0_6 p0_7 p0_8 = some (v p0_0 p0_1 p0_2 p0_3 p0_4 p0_5 p0_6 p0_7 p0_8) := by
    unfold c at hc; unfold v
    cases h : vo p0_0 p0_1 p0_2 p0_3 p0_4 p0_5 p0_6 p0_7 p0_8 with
    | none => rw [h] at hc; cases hc
    | some x => rfl
  unfold vo at e
  rw [e]; rfl
end Go.FG.Pu.spec_l16Entries

namespace Go.FG.Pu.spec_l16Fetch
def r5 {R : Type} (N : Nat) (g : Int → Bool → Int → Int → Row → Row → Row → Row → Int → Row → Row → Int → ByteArray → ByteArray → Int → Int → Int → Option R) (k0 : Int → Bool → Int → Int → Row → Row → Row → Row → Int → Row → Row → Int → ByteArray → ByteArray → Int → Int → Int → Option R) (k1 : Int → Bool → Int → Int → Row → Row → Row → Row → Int → Row → Row → Int → ByteArray → ByteArray → Int → Int → Int → Option R) (x0 : Int) (x1 : Bool) (x2 : Int) (x3 : Int) (x4 : Row) (x5 : Row) (x6 : Row) (x7 : Row) (x8 : Int) (x9 : Row) (x10 : Row) (x11 : Int) (x12 : ByteArray) (x13 : ByteArray) (x14 : Int) (x15 : Int) (x16 : Int) : Option R := bif (decide (x2 < x0)) then (bif (decide (0 ≤ x2) && decide (x2 < (↑(List.length x9) : Int))) then (bif (List.beq (ByteArray.toList (cvS (cellAt x9 (Int.toNat x2) 0))) (ByteArray.toList x12)) then (bif (decide (0 ≤ x2) && decide (x2 < (↑(List.length x9) : Int))) then (bif (decide (cvI (cellAt x9 (Int.toNat x2) 2) = 1)) then (bif (decide (x14 = 1)) then (k0 x0 false x2 x3 x4 x5 x6 x7 x8 x9 x10 x11 x12 x13 x14 x15 x16) else (g x0 x1 (w64 (x2 + 1)) x3 x4 x5 x6 x7 x8 x9 x10 x11 x12 x13 x14 x15 x16)) else (g x0 x1 (w64 (x2 + 1)) x3 x4 x5 x6 x7 x8 x9 x10 x11 x12 x13 x14 x15 x16)) else (none)) else (g x0 x1 (w64 (x2 + 1)) x3 x4 x5 x6 x7 x8 x9 x10 x11 x12 x13 x14 x15 x16)) else (none)) else (k1 x0 x1 x2 x3 x4 x5 x6 x7 x8 x9 x10 x11 x12 x13 x14 x15 x16)
def l5 {R : Type} (N : Nat) (k0 : Int → Bool → Int → Int → Row → Row → Row → Row → Int → Row → Row → Int → ByteArray → ByteArray → Int → Int → Int → Option R) (k1 : Int → Bool → Int → Int → Row → Row → Row → Row → Int → Row → Row → Int → ByteArray → ByteArray → Int → Int → Int → Option R) : Nat → Int → Bool → Int → Int → Row → Row → Row → Row → Int → Row → Row → Int → ByteArray → ByteArray → Int → Int → Int → Option R
  | 0 => (fun _ _ _ _ _ _ _ _ _ _ _ _ _ _ _ _ _ => none)
  | n + 1 => (fun x0 x1 x2 x3 x4 x5 x6 x7 x8 x9 x10 x11 x12 x13 x14 x15 x16 => r5 N (l5 N k0 k1 n) k0 k1 x0 x1 x2 x3 x4 x5 x6 x7 x8 x9 x10 x11 x12 x13 x14 x15 x16)
def b {R : Type} (N : Nat) (kr : Bool → Option R) (p0_0 : Int) (p0_1 : Row) (p0_2 : Row) (p0_3 : Row) (p0_4 : Row) (p0_5 : Int) (p0_6 : Row) (p0_7 : Row) (p0_8 : Int) (i1 : Int) : Option R := bif (decide (0 ≤ i1) && decide (i1 < (↑(List.length p0_6) : Int))) then (bif (!Pu.spec_l13Key.v (cvS (cellAt p0_6 (Int.toNat i1) 0))) then (kr false) else (bif (decide ((↑(ByteArray.size (cvS (cellAt p0_6 (Int.toNat i1) 1))) : Int) > 400)) then (kr false) else (bif (!Pu.spec_l01In.v (cvI (cellAt p0_6 (Int.toNat i1) (1 + 1))) 1 3) then (kr false) else (bif (!Pu.spec_l01In.v (cvI (cellAt p0_6 (Int.toNat i1) (1 + 1 + 1))) 0 999999) then (kr false) else (bif (!Pu.spec_l01In.v (cvI (cellAt p0_6 (Int.toNat i1) (1 + 1 + 1 + 1))) 0 p0_0) then (kr false) else (l5 N (fun y17 y18 y19 y20 y21 y22 y23 y24 y25 y26 y27 y28 y29 y30 y31 y32 y33 => kr y18) (fun y34 y35 y36 y37 y38 y39 y40 y41 y42 y43 y44 y45 y46 y47 y48 y49 y50 => kr true) N i1 false 0 p0_0 p0_1 p0_2 p0_3 p0_4 p0_5 p0_6 p0_7 p0_8 (cvS (cellAt p0_6 (Int.toNat i1) 0)) (cvS (cellAt p0_6 (Int.toNat i1) 1)) (cvI (cellAt p0_6 (Int.toNat i1) (1 + 1))) (cvI (cellAt p0_6 (Int.toNat i1) (1 + 1 + 1))) (cvI (cellAt p0_6 (Int.toNat i1) (1 + 1 + 1 + 1))))))))) else (none)
theorem q5_bind {R S : Type} (f : R → Option S) (N : Nat) (k0 : Int → Bool → Int → Int → Row → Row → Row → Row → Int → Row → Row → Int → ByteArray → ByteArray → Int → Int → Int → Option R) (k1 : Int → Bool → Int → Int → Row → Row → Row → Row → Int → Row → Row → Int → ByteArray → ByteArray → Int → Int → Int → Option R) : ∀ n : Nat, (∀ (x0 : Int) (x1 : Bool) (x2 : Int) (x3 : Int) (x4 : Row) (x5 : Row) (x6 : Row) (x7 : Row) (x8 : Int) (x9 : Row) (x10 : Row) (x11 : Int) (x12 : ByteArray) (x13 : ByteArray) (x14 : Int) (x15 : Int) (x16 : Int), Option.bind (l5 N k0 k1 n x0 x1 x2 x3 x4 x5 x6 x7 x8 x9 x10 x11 x12 x13 x14 x15 x16) f = l5 N (fun y0 y1 y2 y3 y4 y5 y6 y7 y8 y9 y10 y11 y12 y13 y14 y15 y16 => (Option.bind (k0 y0 y1 y2 y3 y4 y5 y6 y7 y8 y9 y10 y11 y12 y13 y14 y15 y16) f)) (fun y0 y1 y2 y3 y4 y5 y6 y7 y8 y9 y10 y11 y12 y13 y14 y15 y16 => (Option.bind (k1 y0 y1 y2 y3 y4 y5 y6 y7 y8 y9 y10 y11 y12 y13 y14 y15 y16) f)) n x0 x1 x2 x3 x4 x5 x6 x7 x8 x9 x10 x11 x12 x13 x14 x15 x16) := by
  intro n
  induction n with
  | zero => exact (fun _ _ _ _ _ _ _ _ _ _ _ _ _ _ _ _ _ => rfl)
  | succ n ih =>
    intro x0 x1 x2 x3 x4 x5 x6 x7 x8 x9 x10 x11 x12 x13 x14 x15 x16
    simp only [l5, r5, Lib.cond_bind, Lib.some_bind, Lib.none_bind, ih]
theorem l5_bind {R S : Type} (f : R → Option S) (N : Nat) (k0 : Int → Bool → Int → Int → Row → Row → Row → Row → Int → Row → Row → Int → ByteArray → ByteArray → Int → Int → Int → Option R) (k1 : Int → Bool → Int → Int → Row → Row → Row → Row → Int → Row → Row → Int → ByteArray → ByteArray → Int → Int → Int → Option R) (n : Nat) (x0 : Int) (x1 : Bool) (x2 : Int) (x3 : Int) (x4 : Row) (x5 : Row) (x6 : Row) (x7 : Row) (x8 : Int) (x9 : Row) (x10 : Row) (x11 : Int) (x12 : ByteArray) (x13 : ByteArray) (x14 : Int) (x15 : Int) (x16 : Int) : Option.bind (l5 N k0 k1 n x0 x1 x2 x3 x4 x5 x6 x7 x8 x9 x10 x11 x12 x13 x14 x15 x16) f = l5 N (fun y0 y1 y2 y3 y4 y5 y6 y7 y8 y9 y10 y11 y12 y13 y14 y15 y16 => (Option.bind (k0 y0 y1 y2 y3 y4 y5 y6 y7 y8 y9 y10 y11 y12 y13 y14 y15 y16) f)) (fun y0 y1 y2 y3 y4 y5 y6 y7 y8 y9 y10 y11 y12 y13 y14 y15 y16 => (Option.bind (k1 y0 y1 y2 y3 y4 y5 y6 y7 y8 y9 y10 y11 y12 y13 y14 y15 y16) f)) n x0 x1 x2 x3 x4 x5 x6 x7 x8 x9 x10 x11 x12 x13 x14 x15 x16 := (q5_bind f N k0 k1 n) x0 x1 x2 x3 x4 x5 x6 x7 x8 x9 x10 x11 x12 x13 x14 x15 x16
theorem b_bind {R : Type} (N : Nat) (kr : Bool → Option R) (p0_0 : Int) (p0_1 : Row) (p0_2 : Row) (p0_3 : Row) (p0_4 : Row) (p0_5 : Int) (p0_6 : Row) (p0_7 : Row) (p0_8 : Int) (i1 : Int) : b N kr p0_0 p0_1 p0_2 p0_3 p0_4 p0_5 p0_6 p0_7 p0_8 i1 = Option.bind (b N (fun r0 => some (r0)) p0_0 p0_1 p0_2 p0_3 p0_4 p0_5 p0_6 p0_7 p0_8 i1) (fun p => kr p) := by
  unfold b; simp only [Lib.cond_bind, Lib.some_bind, Lib.none_bind, l5_bind]
def vo (p0_0 : Int) (p0_1 : Row) (p0_2 : Row) (p0_3 : Row) (p0_4 : Row) (p0_5 : Int) (p0_6 : Row) (p0_7 : Row) (p0_8 : Int) (i1 : Int) : Option (Bool) := b Lib.big (fun r0 => some (r0)) p0_0 p0_1 p0_2 p0_3 p0_4 p0_5 p0_6 p0_7 p0_8 i1
def c (p0_0 : Int) (p0_1 : Row) (p0_2 : Row) (p0_3 : Row) (p0_4 : Row) (p0_5 : Int) (p0_6 : Row) (p0_7 : Row) (p0_8 : Int) (i1 : Int) : Bool := Option.isSome (vo p0_0 p0_1 p0_2 p0_3 p0_4 p0_5 p0_6 p0_7 p0_8 i1)
def v (p0_0 : Int) (p0_1 : Row) (p0_2 : Row) (p0_3 : Row) (p0_4 : Row) (p0_5 : Int) (p0_6 : Row) (p0_7 : Row) (p0_8 : Int) (i1 : Int) : Bool := Option.getD (vo p0_0 p0_1 p0_2 p0_3 p0_4 p0_5 p0_6 p0_7 p0_8 i1) (false)
theorem out (p0_0 : Int) (p0_1 : Row) (p0_2 : Row) (p0_3 : Row) (p0_4 : Row) (p0_5 : Int) (p0_6 : Row) (p0_7 : Row) (p0_8 : Int) (i1 : Int) {x : Bool} (h : vo p0_0 p0_1 p0_2 p0_3 p0_4 p0_5 p0_6 p0_7 p0_8 i1 = some x) : c p0_0 p0_1 p0_2 p0_3 p0_4 p0_5 p0_6 p0_7 p0_8 i1 = true ∧ v p0_0 p0_1 p0_2 p0_3 p0_4 p0_5 p0_6 p0_7 p0_8 i1 = x := by
  unfold c v; rw [h]; exact ⟨rfl, rfl⟩
theorem b_eq {R : Type} (kr : Bool → Option R) (p0_0 : Int) (p0_1 : Row) (p0_2 : Row) (p0_3 : Row) (p0_4 : Row) (p0_5 : Int) (p0_6 : Row) (p0_7 : Row) (p0_8 : Int) (i1 : Int) (hc : c p0_0 p0_1 p0_2 p0_3 p0_4 p0_5 p0_6 p0_7 p0_8 i1 = true) : ∃ N, b N kr p0_0 p0_1 p0_2 p0_3 p0_4 p0_5 p0_6 p0_7 p0_8 i1 = kr (v p0_0 p0_1 p0_2 p0_3 p0_4 p0_5 p0_6 p0_7 p0_8 i1) := by
  refine ⟨Lib.big, ?_⟩
  rw [b_bind]
  have e : vo p0_0 p0_1 p0_2 p0_3 p0_4 p0_5 p0_6 p0_7 p0_8 i1 = some (v p0_0 p0_1 p0_2 p0_3 p0_4 p0_5 p0_6 p0_7 p0_8 i1) := by
    unfold c at hc; unfold v
    cases h : vo p0_0 p0_1 p0_2 p0_3 p0_4 p0_5 p0_6 p0_7 p0_8 i1 with
    | none => rw [h] at hc; cases hc
    | some x => rfl
  unfold vo at e
  rw [e]; rfl
end Go.FG.Pu.spec_l16Fetch

namespace Go.FG.Pu.spec_ProxyOk
def r9 {R : Type} (N : Nat) (g : Bool → Int → Int → Row → Row → Row → Row → Int → Row → Row → Int → Option R) (k0 : Bool → Int → Int → Row → Row → Row → Row → Int → Row → Row → Int → Option R) (k1 : Bool → Int → Int → Row → Row → Row → Row → Int → Row → Row → Int → Option R) (x33 : Bool) (x34 : Int) (x35 : Int) (x36 : Row) (x37 : Row) (x38 : Row) (x39 : Row) (x40 : Int) (x41 : Row) (x42 : Row) (x43 : Int) : Option R := bif (decide (x34 < (↑(List.length x42) : Int))) then (bif (decide (0 ≤ x34) && decide (x34 < (↑(List.length x42) : Int))) then (bif (!Pu.spec_l01In.v (cvI (cellAt x42 (Int.toNat x34) 0)) 1 9) then (k0 false x34 x35 x36 x37 x38 x39 x40 x41 x42 x43) else (bif (decide (x34 > 0)) then (bif (decide (0 ≤ w64 (x34 - 1)) && decide (w64 (x34 - 1) < (↑(List.length x42) : Int))) then (bif (decide (cvI (cellAt x42 (Int.toNat (w64 (x34 - 1))) 0) ≥ cvI (cellAt x42 (Int.toNat x34) 0))) then (k0 false x34 x35 x36 x37 x38 x39 x40 x41 x42 x43) else (bif (!Pu.spec_l13Key.v (cvS (cellAt x42 (Int.toNat x34) 1))) then (k0 false x34 x35 x36 x37 x38 x39 x40 x41 x42 x43) else (bif (!Pu.spec_l01In.v (cvI (cellAt x42 (Int.toNat x34) (1 + 1 + 1 + 1))) 1 3) then (k0 false x34 x35 x36 x37 x38 x39 x40 x41 x42 x43) else (bif (!Pu.spec_l01In.v (cvI (cellAt x42 (Int.toNat x34) (1 + 1))) 0 (↑(List.length x41) : Int)) then (k0 false x34 x35 x36 x37 x38 x39 x40 x41 x42 x43) else (bif (decide ((↑(ByteArray.size (cvS (cellAt x42 (Int.toNat x34) (1 + 1 + 1 + 1 + 1)))) : Int) > 400)) then (k0 false x34 x35 x36 x37 x38 x39 x40 x41 x42 x43) else (bif (!Pu.spec_l01In.v (cvI (cellAt x42 (Int.toNat x34) (1 + 1 + 1))) 0 x35) then (k0 false x34 x35 x36 x37 x38 x39 x40 x41 x42 x43) else (bif (decide (cvI (cellAt x42 (Int.toNat x34) (1 + 1 + 1 + 1 + 1 + 1)) < 0)) then (k0 false x34 x35 x36 x37 x38 x39 x40 x41 x42 x43) else (g x33 (w64 (x34 + 1)) x35 x36 x37 x38 x39 x40 x41 x42 x43)))))))) else (none)) else (bif (!Pu.spec_l13Key.v (cvS (cellAt x42 (Int.toNat x34) 1))) then (k0 false x34 x35 x36 x37 x38 x39 x40 x41 x42 x43) else (bif (!Pu.spec_l01In.v (cvI (cellAt x42 (Int.toNat x34) (1 + 1 + 1 + 1))) 1 3) then (k0 false x34 x35 x36 x37 x38 x39 x40 x41 x42 x43) else (bif (!Pu.spec_l01In.v (cvI (cellAt x42 (Int.toNat x34) (1 + 1))) 0 (↑(List.length x41) : Int)) then (k0 false x34 x35 x36 x37 x38 x39 x40 x41 x42 x43) else (bif (decide ((↑(ByteArray.size (cvS (cellAt x42 (Int.toNat x34) (1 + 1 + 1 + 1 + 1)))) : Int) > 400)) then (k0 false x34 x35 x36 x37 x38 x39 x40 x41 x42 x43) else (bif (!Pu.spec_l01In.v (cvI (cellAt x42 (Int.toNat x34) (1 + 1 + 1))) 0 x35) then (k0 false x34 x35 x36 x37 x38 x39 x40 x41 x42 x43) else (bif (decide (cvI (cellAt x42 (Int.toNat x34) (1 + 1 + 1 + 1 + 1 + 1)) < 0)) then (k0 false x34 x35 x36 x37 x38 x39 x40 x41 x42 x43) else (g x33 (w64 (x34 + 1)) x35 x36 x37 x38 x39 x40 x41 x42 x43))))))))) else (none)) else (k1 x33 x34 x35 x36 x37 x38 x39 x40 x41 x42 x43)
def l9 {R : Type} (N : Nat) (k0 : Bool → Int → Int → Row → Row → Row → Row → Int → Row → Row → Int → Option R) (k1 : Bool → Int → Int → Row → Row → Row → Row → Int → Row → Row → Int → Option R) : Nat → Bool → Int → Int → Row → Row → Row → Row → Int → Row → Row → Int → Option R
  | 0 => (fun _ _ _ _ _ _ _ _ _ _ _ => none)
  | n + 1 => (fun x33 x34 x35 x36 x37 x38 x39 x40 x41 x42 x43 => r9 N (l9 N k0 k1 n) k0 k1 x33 x34 x35 x36 x37 x38 x39 x40 x41 x42 x43)
def r4 {R : Type} (N : Nat) (g : Bool → Int → Int → Row → Row → Row → Row → Int → Row → Row → Int → Option R) (k0 : Bool → Int → Int → Row → Row → Row → Row → Int → Row → Row → Int → Option R) (k1 : Bool → Int → Int → Row → Row → Row → Row → Int → Row → Row → Int → Option R) (x0 : Bool) (x1 : Int) (x2 : Int) (x3 : Row) (x4 : Row) (x5 : Row) (x6 : Row) (x7 : Int) (x8 : Row) (x9 : Row) (x10 : Int) : Option R := bif (decide (x1 < (↑(List.length x8) : Int))) then (bif (Pu.spec_l16Fetch.c x2 x3 x4 x5 x6 x7 x8 x9 x10 x1) then (bif (!Pu.spec_l16Fetch.v x2 x3 x4 x5 x6 x7 x8 x9 x10 x1) then (k0 false x1 x2 x3 x4 x5 x6 x7 x8 x9 x10) else (g x0 (w64 (x1 + 1)) x2 x3 x4 x5 x6 x7 x8 x9 x10)) else (none)) else (k1 x0 x1 x2 x3 x4 x5 x6 x7 x8 x9 x10)
def l4 {R : Type} (N : Nat) (k0 : Bool → Int → Int → Row → Row → Row → Row → Int → Row → Row → Int → Option R) (k1 : Bool → Int → Int → Row → Row → Row → Row → Int → Row → Row → Int → Option R) : Nat → Bool → Int → Int → Row → Row → Row → Row → Int → Row → Row → Int → Option R
  | 0 => (fun _ _ _ _ _ _ _ _ _ _ _ => none)
  | n + 1 => (fun x0 x1 x2 x3 x4 x5 x6 x7 x8 x9 x10 => r4 N (l4 N k0 k1 n) k0 k1 x0 x1 x2 x3 x4 x5 x6 x7 x8 x9 x10)
def b {R : Type} (N : Nat) (kr : Bool → Option R) (p0_0 : Int) (p0_1 : Row) (p0_2 : Row) (p0_3 : Row) (p0_4 : Row) (p0_5 : Int) (p0_6 : Row) (p0_7 : Row) (p0_8 : Int) : Option R := bif (!Pu.spec_l01In.v p0_0 1 1000000000) then (kr false) else (bif (Pu.spec_l16Entries.c p0_0 p0_1 p0_2 p0_3 p0_4 p0_5 p0_6 p0_7 p0_8) then (bif (!Pu.spec_l16Entries.v p0_0 p0_1 p0_2 p0_3 p0_4 p0_5 p0_6 p0_7 p0_8) then (kr false) else (bif (decide ((↑(List.length p0_6) : Int) > 20)) then (kr false) else (bif (decide ((↑(List.length p0_7) : Int) > 6)) then (kr false) else (bif (!Pu.spec_l01In.v p0_8 0 1000000000) then (kr false) else (l4 N (fun y11 y12 y13 y14 y15 y16 y17 y18 y19 y20 y21 => kr y11) (fun y22 y23 y24 y25 y26 y27 y28 y29 y30 y31 y32 => l9 N (fun y44 y45 y46 y47 y48 y49 y50 y51 y52 y53 y54 => kr y44) (fun y55 y56 y57 y58 y59 y60 y61 y62 y63 y64 y65 => kr true) N y22 0 y24 y25 y26 y27 y28 y29 y30 y31 y32) N false 0 p0_0 p0_1 p0_2 p0_3 p0_4 p0_5 p0_6 p0_7 p0_8))))) else (none))
theorem q9_bind {R S : Type} (f : R → Option S) (N : Nat) (k0 : Bool → Int → Int → Row → Row → Row → Row → Int → Row → Row → Int → Option R) (k1 : Bool → Int → Int → Row → Row → Row → Row → Int → Row → Row → Int → Option R) : ∀ n : Nat, (∀ (x33 : Bool) (x34 : Int) (x35 : Int) (x36 : Row) (x37 : Row) (x38 : Row) (x39 : Row) (x40 : Int) (x41 : Row) (x42 : Row) (x43 : Int), Option.bind (l9 N k0 k1 n x33 x34 x35 x36 x37 x38 x39 x40 x41 x42 x43) f = l9 N (fun y0 y1 y2 y3 y4 y5 y6 y7 y8 y9 y10 => (Option.bind (k0 y0 y1 y2 y3 y4 y5 y6 y7 y8 y9 y10) f)) (fun y0 y1 y2 y3 y4 y5 y6 y7 y8 y9 y10 => (Option.bind (k1 y0 y1 y2 y3 y4 y5 y6 y7 y8 y9 y10) f)) n x33 x34 x35 x36 x37 x38 x39 x40 x41 x42 x43) := by
  intro n
  induction n with
  | zero => exact (fun _ _ _ _ _ _ _ _ _ _ _ => rfl)
  | succ n ih =>
    intro x33 x34 x35 x36 x37 x38 x39 x40 x41 x42 x43
    simp only [l9, r9, Lib.cond_bind, Lib.some_bind, Lib.none_bind, ih]
theorem l9_bind {R S : Type} (f : R → Option S) (N : Nat) (k0 : Bool → Int → Int → Row → Row → Row → Row → Int → Row → Row → Int → Option R) (k1 : Bool → Int → Int → Row → Row → Row → Row → Int → Row → Row → Int → Option R) (n : Nat) (x33 : Bool) (x34 : Int) (x35 : Int) (x36 : Row) (x37 : Row) (x38 : Row) (x39 : Row) (x40 : Int) (x41 : Row) (x42 : Row) (x43 : Int) : Option.bind (l9 N k0 k1 n x33 x34 x35 x36 x37 x38 x39 x40 x41 x42 x43) f = l9 N (fun y0 y1 y2 y3 y4 y5 y6 y7 y8 y9 y10 => (Option.bind (k0 y0 y1 y2 y3 y4 y5 y6 y7 y8 y9 y10) f)) (fun y0 y1 y2 y3 y4 y5 y6 y7 y8 y9 y10 => (Option.bind (k1 y0 y1 y2 y3 y4 y5 y6 y7 y8 y9 y10) f)) n x33 x34 x35 x36 x37 x38 x39 x40 x41 x42 x43 := (q9_bind f N k0 k1 n) x33 x34 x35 x36 x37 x38 x39 x40 x41 x42 x43
theorem q4_bind {R S : Type} (f : R → Option S) (N : Nat) (k0 : Bool → Int → Int → Row → Row → Row → Row → Int → Row → Row → Int → Option R) (k1 : Bool → Int → Int → Row → Row → Row → Row → Int → Row → Row → Int → Option R) : ∀ n : Nat, (∀ (x0 : Bool) (x1 : Int) (x2 : Int) (x3 : Row) (x4 : Row) (x5 : Row) (x6 : Row) (x7 : Int) (x8 : Row) (x9 : Row) (x10 : Int), Option.bind (l4 N k0 k1 n x0 x1 x2 x3 x4 x5 x6 x7 x8 x9 x10) f = l4 N (fun y0 y1 y2 y3 y4 y5 y6 y7 y8 y9 y10 => (Option.bind (k0 y0 y1 y2 y3 y4 y5 y6 y7 y8 y9 y10) f)) (fun y0 y1 y2 y3 y4 y5 y6 y7 y8 y9 y10 => (Option.bind (k1 y0 y1 y2 y3 y4 y5 y6 y7 y8 y9 y10) f)) n x0 x1 x2 x3 x4 x5 x6 x7 x8 x9 x10) := by
  intro n
  induction n with
  | zero => exact (fun _ _ _ _ _ _ _ _ _ _ _ => rfl)
  | succ n ih =>
    intro x0 x1 x2 x3 x4 x5 x6 x7 x8 x9 x10
    simp only [l4, r4, Lib.cond_bind, Lib.some_bind, Lib.none_bind, ih, l9_bind]
theorem l4_bind {R S : Type} (f : R → Option S) (N : Nat) (k0 : Bool → Int → Int → Row → Row → Row → Row → Int → Row → Row → Int → Option R) (k1 : Bool → Int → Int → Row → Row → Row → Row → Int → Row → Row → Int → Option R) (n : Nat) (x0 : Bool) (x1 : Int) (x2 : Int) (x3 : Row) (x4 : Row) (x5 : Row) (x6 : Row) (x7 : Int) (x8 : Row) (x9 : Row) (x10 : Int) : Option.bind (l4 N k0 k1 n x0 x1 x2 x3 x4 x5 x6 x7 x8 x9 x10) f = l4 N (fun y0 y1 y2 y3 y4 y5 y6 y7 y8 y9 y10 => (Option.bind (k0 y0 y1 y2 y3 y4 y5 y6 y7 y8 y9 y10) f)) (fun y0 y1 y2 y3 y4 y5 y6 y7 y8 y9 y10 => (Option.bind (k1 y0 y1 y2 y3 y4 y5 y6 y7 y8 y9 y10) f)) n x0 x1 x2 x3 x4 x5 x6 x7 x8 x9 x10 := (q4_bind f N k0 k1 n) x0 x1 x2 x3 x4 x5 x6 x7 x8 x9 x10
theorem b_bind {R : Type} (N : Nat) (kr : Bool → Option R) (p0_0 : Int) (p0_1 : Row) (p0_2 : Row) (p0_3 : Row) (p0_4 : Row) (p0_5 : Int) (p0_6 : Row) (p0_7 : Row) (p0_8 : Int) : b N kr p0_0 p0_1 p0_2 p0_3 p0_4 p0_5 p0_6 p0_7 p0_8 = Option.bind (b N (fun r0 => some (r0)) p0_0 p0_1 p0_2 p0_3 p0_4 p0_5 p0_6 p0_7 p0_8) (fun p => kr p) := by
  unfold b; simp only [Lib.cond_bind, Lib.some_bind, Lib.none_bind, l9_bind, l4_bind]
def vo (p0_0 : Int) (p0_1 : Row) (p0_2 : Row) (p0_3 : Row) (p0_4 : Row) (p0_5 : Int) (p0_6 : Row) (p0_7 : Row) (p0_8 : Int) : Option (Bool) := b Lib.big (fun r0 => some (r0)) p0_0 p0_1 p0_2 p0_3 p0_4 p0_5 p0_6 p0_7 p0_8
def c (p0_0 : Int) (p0_1 : Row) (p0_2 : Row) (p0_3 : Row) (p0_4 : Row) (p0_5 : Int) (p0_6 : Row) (p0_7 : Row) (p0_8 : Int) : Bool := Option.isSome (vo p0_0 p0_1 p0_2 p0_3 p0_4 p0_5 p0_6 p0_7 p0_8)
def v (p0_0 : Int) (p0_1 : Row) (p0_2 : Row) (p0_3 : Row) (p0_4 : Row) (p0_5 : Int) (p0_6 : Row) (p0_7 : Row) (p0_8 : Int) : Bool := Option.getD (vo p0_0 p0_1 p0_2 p0_3 p0_4 p0_5 p0_6 p0_7 p0_8) (false)
theorem out (p0_0 : Int) (p0_1 : Row) (p0_2 : Row) (p0_3 : Row) (p0_4 : Row) (p0_5 : Int) (p0_6 : Row) (p0_7 : Row) (p0_8 : Int) {x : Bool} (h : vo p0_0 p0_1 p0_2 p0_3 p0_4 p0_5 p0_6 p0_7 p0_8 = some x) : c p0_0 p0_1 p0_2 p0_3 p0_4 p0_5 p0_6 p0_7 p0_8 = true ∧ v p0_0 p0_1 p0_2 p0_3 p0_4 p0_5 p0_6 p0_7 p0_8 = x := by
  unfold c v; rw [h]; exact ⟨rfl, rfl⟩
theorem b_eq {R : Type} (kr : Bool → Option R) (p0_0 : Int) (p0_1 : Row) (p0_2 : Row) (p0_3 : Row) (p0_4 : Row) (p0_5 : Int) (p0_6 : Row) (p0_7 : Row) (p0_8 : Int) (hc : c p0_0 p0_1 p0_2 p0_3 p0_4 p0_5 p0_6 p0_7 p0_8 = true) : ∃ N, b N kr p0_0 p0_1 p0_2 p0_3 p0_4 p0_5 p0_6 p0_7 p0_8 = kr (v p0_0 p0_1 p0_2 p0_3 p0_4 p0_5 p0_6 p0_7 p0_8) := by
  refine ⟨Lib.big, ?_⟩
  rw [b_bind]
  have e : vo p0_0 p0_1 p0_2 p0_3 p0_4 p0_5 p0_6 p0_7 p0_8 = some (v p0_0 p0_1 p0_2 p0_3 p0_4 p0_5 p0_6 p0_7 p0_8) := by
    unfold c at hc; unfold v
    cases h : vo p0_0 p0_1 p0_2 p0_3 p0_4 p0_5 p0_6 p0_7 p0_8 with
    | none => rw [h] at hc; cases hc
    | some x => rfl
  unfold vo at e
  rw [e]; rfl
end Go.FG.Pu.spec_ProxyOk

namespace Go.FG.Pu.impl_within
def b {R : Type} (kr : Bool → Option R) (n0 : Int) (low1 : Int) (high2 : Int) : Option R := bif (decide (n0 ≥ low1)) then (kr (decide (n0 ≤ high2))) else (kr false)
def v (n0 : Int) (low1 : Int) (high2 : Int) : Bool := bif (decide (n0 ≥ low1)) then (((decide (n0 ≤ high2)))) else ((false))
theorem b_eq {R : Type} (kr : Bool → Option R) (n0 : Int) (low1 : Int) (high2 : Int) : b kr n0 low1 high2 = kr (v n0 low1 high2) := by
  first | rfl | (unfold b v; simp only [Bool.cond_eq_ite]; (repeat' split) <;> rfl)
end Go.FG.Pu.impl_within

namespace Go.FG.Pu.impl_isKey
def b {R : Type} (kr : Bool → Option R) (key0 : ByteArray) : Option R := kr (Pu.impl_within.v (↑(ByteArray.size key0) : Int) 1 30)
def v (key0 : ByteArray) : Bool := ((Pu.impl_within.v (↑(ByteArray.size key0) : Int) 1 30))
theorem b_eq {R : Type} (kr : Bool → Option R) (key0 : ByteArray) : b kr key0 = kr (v key0) := by
  first | rfl | (unfold b v; simp only [Bool.cond_eq_ite]; (repeat' split) <;> rfl)
end Go.FG.Pu.impl_isKey

namespace Go.FG.Pu.impl_isNumber
def b {R : Type} (kr : Bool → Option R) (n0 : Int) : Option R := kr (Pu.impl_within.v n0 0 1000000000)
def v (n0 : Int) : Bool := ((Pu.impl_within.v n0 0 1000000000))
theorem b_eq {R : Type} (kr : Bool → Option R) (n0 : Int) : b kr n0 = kr (v n0) := by
  first | rfl | (unfold b v; simp only [Bool.cond_eq_ite]; (repeat' split) <;> rfl)
end Go.FG.Pu.impl_isNumber

namespace Go.FG.Pu.impl_EntryOk
def b {R : Type} (kr : Bool → Option R) (e0_0 : ByteArray) (e0_1 : Int) (e0_2 : Int) (e0_3 : ByteArray) : Option R := bif (Pu.impl_isKey.v e0_0) then (bif (Pu.impl_isNumber.v e0_1) then (bif (Pu.impl_within.v e0_2 1 999999) then (kr (decide ((↑(ByteArray.size e0_3) : Int) ≤ 400))) else (kr false)) else (kr false)) else (kr false)
def v (e0_0 : ByteArray) (e0_1 : Int) (e0_2 : Int) (e0_3 : ByteArray) : Bool := bif (Pu.impl_isKey.v e0_0) then (bif (Pu.impl_isNumber.v e0_1) then (bif (Pu.impl_within.v e0_2 1 999999) then (((decide ((↑(ByteArray.size e0_3) : Int) ≤ 400)))) else ((false))) else ((false))) else ((false))
theorem b_eq {R : Type} (kr : Bool → Option R) (e0_0 : ByteArray) (e0_1 : Int) (e0_2 : Int) (e0_3 : ByteArray) : b kr e0_0 e0_1 e0_2 e0_3 = kr (v e0_0 e0_1 e0_2 e0_3) := by
  first | rfl | (unfold b v; simp only [Bool.cond_eq_ite]; (repeat' split) <;> rfl)
end Go.FG.Pu.impl_EntryOk

namespace Go.FG.Pu.slices_Grow_string
def b {R : Type} (kr : Row → Option R) (n1 : Int) : Option R := bif (decide (n1 < 0)) then (none) else (bif (decide (w64 (n1 - w64 (0 - 0)) > 0)) then (bif (decide (0 ≤ w64 (n1 - w64 (0 - 0))) && roomy (List.length ([] : Row) + Int.toNat (w64 (n1 - w64 (0 - 0)))) 16 && decide (w64 (n1 - w64 (0 - 0)) ≤ 9223372036854775807)) then (kr (view ([] ++ zeros [Ck.s] (Int.toNat (w64 (n1 - w64 (0 - 0))))) (Int.toNat 0) (Int.toNat 0))) else (none)) else (kr []))
theorem b_bind {R : Type} (kr : Row → Option R) (n1 : Int) : b kr n1 = Option.bind (b (fun r0 => some (r0)) n1) (fun p => kr p) := by
  unfold b; simp only [Lib.cond_bind, Lib.some_bind, Lib.none_bind]
def vo (n1 : Int) : Option (Row) := b (fun r0 => some (r0)) n1
def c (n1 : Int) : Bool := Option.isSome (vo n1)
def v (n1 : Int) : Row := Option.getD (vo n1) ([])
theorem out (n1 : Int) {x : Row} (h : vo n1 = some x) : c n1 = true ∧ v n1 = x := by
  unfold c v; rw [h]; exact ⟨rfl, rfl⟩
theorem b_eq {R : Type} (kr : Row → Option R) (n1 : Int) (hc : c n1 = true) : b kr n1 = kr (v n1) := by
  rw [b_bind]
  have e : vo n1 = some (v n1) := by
    unfold c at hc; unfold v
    cases h : vo n1 with
    | none => rw [h] at hc; cases hc
    | some x => rfl
  unfold vo at e
  rw [e]; rfl
end Go.FG.Pu.slices_Grow_string

namespace Go.FG.Pu.slices_Concat_string
def r11 {R : Type} (N : Nat) (g : Row → Int → Int → Row → Option R) (k0 : Row → Int → Int → Row → Option R) (x10 : Row) (x11 : Int) (x12 : Int) (x13 : Row) : Option R := bif (decide (x12 < x11)) then (bif (decide (0 ≤ x12) && decide (x12 < (↑(List.length x10) : Int))) then (bif (roomy (List.length x13 + List.length (cvL (cellAt x10 (Int.toNat x12) 0))) 16) then (g x10 x11 (w64 (x12 + 1)) (x13 ++ cvL (cellAt x10 (Int.toNat x12) 0))) else (none)) else (none)) else (k0 x10 x11 x12 x13)
def l11 {R : Type} (N : Nat) (k0 : Row → Int → Int → Row → Option R) : Nat → Row → Int → Int → Row → Option R
  | 0 => (fun _ _ _ _ => none)
  | n + 1 => (fun x10 x11 x12 x13 => r11 N (l11 N k0 n) k0 x10 x11 x12 x13)
def r3 {R : Type} (N : Nat) (g : Row → Int → Row → Int → Int → Option R) (k0 : Row → Int → Row → Int → Int → Option R) (x0 : Row) (x1 : Int) (x2 : Row) (x3 : Int) (x4 : Int) : Option R := bif (decide (x4 < x3)) then (bif (decide (0 ≤ x4) && decide (x4 < (↑(List.length x2) : Int))) then (bif (decide (w64 (x1 + (↑(List.length (cvL (cellAt x2 (Int.toNat x4) 0))) : Int)) < 0)) then (none) else (g x0 (w64 (x1 + (↑(List.length (cvL (cellAt x2 (Int.toNat x4) 0))) : Int))) x2 x3 (w64 (x4 + 1)))) else (none)) else (k0 x0 x1 x2 x3 x4)
def l3 {R : Type} (N : Nat) (k0 : Row → Int → Row → Int → Int → Option R) : Nat → Row → Int → Row → Int → Int → Option R
  | 0 => (fun _ _ _ _ _ => none)
  | n + 1 => (fun x0 x1 x2 x3 x4 => r3 N (l3 N k0 n) k0 x0 x1 x2 x3 x4)
def b {R : Type} (N : Nat) (kr : Row → Option R) (slices0 : Row) : Option R := l3 N (fun y5 y6 y7 y8 y9 => bif (Pu.slices_Grow_string.c y6) then (l11 N (fun y14 y15 y16 y17 => kr y17) N y5 (↑(List.length y5) : Int) 0 (Pu.slices_Grow_string.v y6)) else (none)) N slices0 0 slices0 (↑(List.length slices0) : Int) 0
theorem q11_bind {R S : Type} (f : R → Option S) (N : Nat) (k0 : Row → Int → Int → Row → Option R) : ∀ n : Nat, (∀ (x10 : Row) (x11 : Int) (x12 : Int) (x13 : Row), Option.bind (l11 N k0 n x10 x11 x12 x13) f = l11 N (fun y0 y1 y2 y3 => (Option.bind (k0 y0 y1 y2 y3) f)) n x10 x11 x12 x13) := by
  intro n
  induction n with
  | zero => exact (fun _ _ _ _ => rfl)
  | succ n ih =>
    intro x10 x11 x12 x13
    simp only [l11, r11, Lib.cond_bind, Lib.some_bind, Lib.none_bind, ih]
theorem l11_bind {R S : Type} (f : R → Option S) (N : Nat) (k0 : Row → Int → Int → Row → Option R) (n : Nat) (x10 : Row) (x11 : Int) (x12 : Int) (x13 : Row) : Option.bind (l11 N k0 n x10 x11 x12 x13) f = l11 N (fun y0 y1 y2 y3 => (Option.bind (k0 y0 y1 y2 y3) f)) n x10 x11 x12 x13 := (q11_bind f N k0 n) x10 x11 x12 x13
theorem q3_bind {R S : Type} (f : R → Option S) (N : Nat) (k0 : Row → Int → Row → Int → Int → Option R) : ∀ n : Nat, (∀ (x0 : Row) (x1 : Int) (x2 : Row) (x3 : Int) (x4 : Int), Option.bind (l3 N k0 n x0 x1 x2 x3 x4) f = l3 N (fun y0 y1 y2 y3 y4 => (Option.bind (k0 y0 y1 y2 y3 y4) f)) n x0 x1 x2 x3 x4) := by
  intro n
  induction n with
  | zero => exact (fun _ _ _ _ _ => rfl)
  | succ n ih =>
    intro x0 x1 x2 x3 x4
    simp only [l3, r3, Lib.cond_bind, Lib.some_bind, Lib.none_bind, ih, l11_bind]
theorem l3_bind {R S : Type} (f : R → Option S) (N : Nat) (k0 : Row → Int → Row → Int → Int → Option R) (n : Nat) (x0 : Row) (x1 : Int) (x2 : Row) (x3 : Int) (x4 : Int) : Option.bind (l3 N k0 n x0 x1 x2 x3 x4) f = l3 N (fun y0 y1 y2 y3 y4 => (Option.bind (k0 y0 y1 y2 y3 y4) f)) n x0 x1 x2 x3 x4 := (q3_bind f N k0 n) x0 x1 x2 x3 x4
theorem b_bind {R : Type} (N : Nat) (kr : Row → Option R) (slices0 : Row) : b N kr slices0 = Option.bind (b N (fun r0 => some (r0)) slices0) (fun p => kr p) := by
  unfold b; simp only [Lib.cond_bind, Lib.some_bind, Lib.none_bind, l11_bind, l3_bind]
def vo (slices0 : Row) : Option (Row) := b Lib.big (fun r0 => some (r0)) slices0
def c (slices0 : Row) : Bool := Option.isSome (vo slices0)
def v (slices0 : Row) : Row := Option.getD (vo slices0) ([])
theorem out (slices0 : Row) {x : Row} (h : vo slices0 = some x) : c slices0 = true ∧ v slices0 = x := by
  unfold c v; rw [h]; exact ⟨rfl, rfl⟩
theorem b_eq {R : Type} (kr : Row → Option R) (slices0 : Row) (hc : c slices0 = true) : ∃ N, b N kr slices0 = kr (v slices0) := by
  refine ⟨Lib.big, ?_⟩
  rw [b_bind]
  have e : vo slices0 = some (v slices0) := by
    unfold c at hc; unfold v
    cases h : vo slices0 with
    | none => rw [h] at hc; cases hc
    | some x => rfl
  unfold vo at e
  rw [e]; rfl
end Go.FG.Pu.slices_Concat_string

namespace Go.FG.Pu.impl_keysIn
def b {R : Type} (kr : Row → Option R) (p0_0 : Row) (p0_1 : Row) (p0_2 : Row) (p0_3 : Int) : Option R := bif (Pu.slices_Concat_string.c (List.set (List.set (zeros [Ck.l 9] 2) 0 [CV.l 9 p0_0]) 1 [CV.l 9 p0_1])) then (kr (Pu.slices_Concat_string.v (List.set (List.set (zeros [Ck.l 9] 2) 0 [CV.l 9 p0_0]) 1 [CV.l 9 p0_1]))) else (none)
theorem b_bind {R : Type} (kr : Row → Option R) (p0_0 : Row) (p0_1 : Row) (p0_2 : Row) (p0_3 : Int) : b kr p0_0 p0_1 p0_2 p0_3 = Option.bind (b (fun r0 => some (r0)) p0_0 p0_1 p0_2 p0_3) (fun p => kr p) := by
  unfold b; simp only [Lib.cond_bind, Lib.some_bind, Lib.none_bind]
def vo (p0_0 : Row) (p0_1 : Row) (p0_2 : Row) (p0_3 : Int) : Option (Row) := b (fun r0 => some (r0)) p0_0 p0_1 p0_2 p0_3
def c (p0_0 : Row) (p0_1 : Row) (p0_2 : Row) (p0_3 : Int) : Bool := Option.isSome (vo p0_0 p0_1 p0_2 p0_3)
def v (p0_0 : Row) (p0_1 : Row) (p0_2 : Row) (p0_3 : Int) : Row := Option.getD (vo p0_0 p0_1 p0_2 p0_3) ([])
theorem out (p0_0 : Row) (p0_1 : Row) (p0_2 : Row) (p0_3 : Int) {x : Row} (h : vo p0_0 p0_1 p0_2 p0_3 = some x) : c p0_0 p0_1 p0_2 p0_3 = true ∧ v p0_0 p0_1 p0_2 p0_3 = x := by
  unfold c v; rw [h]; exact ⟨rfl, rfl⟩
theorem b_eq {R : Type} (kr : Row → Option R) (p0_0 : Row) (p0_1 : Row) (p0_2 : Row) (p0_3 : Int) (hc : c p0_0 p0_1 p0_2 p0_3 = true) : b kr p0_0 p0_1 p0_2 p0_3 = kr (v p0_0 p0_1 p0_2 p0_3) := by
  rw [b_bind]
  have e : vo p0_0 p0_1 p0_2 p0_3 = some (v p0_0 p0_1 p0_2 p0_3) := by
    unfold c at hc; unfold v
    cases h : vo p0_0 p0_1 p0_2 p0_3 with
    | none => rw [h] at hc; cases hc
    | some x => rfl
  unfold vo at e
  rw [e]; rfl
end Go.FG.Pu.impl_keysIn

namespace Go.FG.Pu.slices_Index_string
def r2 {R : Type} (N : Nat) (g : Row → ByteArray → Int → Int → Int → Option R) (k0 : Row → ByteArray → Int → Int → Int → Option R) (k1 : Row → ByteArray → Int → Int → Int → Option R) (x0 : Row) (x1 : ByteArray) (x2 : Int) (x3 : Int) (x4 : Int) : Option R := bif (decide (x4 < x3)) then (bif (decide (0 ≤ x4) && decide (x4 < (↑(List.length x0) : Int))) then (bif (List.beq (ByteArray.toList x1) (ByteArray.toList (cvS (cellAt x0 (Int.toNat x4) 0)))) then (k0 x0 x1 x4 x3 x4) else (g x0 x1 x2 x3 (w64 (x4 + 1)))) else (none)) else (k1 x0 x1 x2 x3 x4)
def l2 {R : Type} (N : Nat) (k0 : Row → ByteArray → Int → Int → Int → Option R) (k1 : Row → ByteArray → Int → Int → Int → Option R) : Nat → Row → ByteArray → Int → Int → Int → Option R
  | 0 => (fun _ _ _ _ _ => none)
  | n + 1 => (fun x0 x1 x2 x3 x4 => r2 N (l2 N k0 k1 n) k0 k1 x0 x1 x2 x3 x4)
def b {R : Type} (N : Nat) (kr : Int → Option R) (s0 : Row) (v1 : ByteArray) : Option R := l2 N (fun y5 y6 y7 y8 y9 => kr y7) (fun y10 y11 y12 y13 y14 => kr (-1)) N s0 v1 0 (↑(List.length s0) : Int) 0
theorem q2_bind {R S : Type} (f : R → Option S) (N : Nat) (k0 : Row → ByteArray → Int → Int → Int → Option R) (k1 : Row → ByteArray → Int → Int → Int → Option R) : ∀ n : Nat, (∀ (x0 : Row) (x1 : ByteArray) (x2 : Int) (x3 : Int) (x4 : Int), Option.bind (l2 N k0 k1 n x0 x1 x2 x3 x4) f = l2 N (fun y0 y1 y2 y3 y4 => (Option.bind (k0 y0 y1 y2 y3 y4) f)) (fun y0 y1 y2 y3 y4 => (Option.bind (k1 y0 y1 y2 y3 y4) f)) n x0 x1 x2 x3 x4) := by
  intro n
  induction n with
  | zero => exact (fun _ _ _ _ _ => rfl)
  | succ n ih =>
    intro x0 x1 x2 x3 x4
    simp only [l2, r2, Lib.cond_bind, Lib.some_bind, Lib.none_bind, ih]
theorem l2_bind {R S : Type} (f : R → Option S) (N : Nat) (k0 : Row → ByteArray → Int → Int → Int → Option R) (k1 : Row → ByteArray → Int → Int → Int → Option R) (n : Nat) (x0 : Row) (x1 : ByteArray) (x2 : Int) (x3 : Int) (x4 : Int) : Option.bind (l2 N k0 k1 n x0 x1 x2 x3 x4) f = l2 N (fun y0 y1 y2 y3 y4 => (Option.bind (k0 y0 y1 y2 y3 y4) f)) (fun y0 y1 y2 y3 y4 => (Option.bind (k1 y0 y1 y2 y3 y4) f)) n x0 x1 x2 x3 x4 := (q2_bind f N k0 k1 n) x0 x1 x2 x3 x4
theorem b_bind {R : Type} (N : Nat) (kr : Int → Option R) (s0 : Row) (v1 : ByteArray) : b N kr s0 v1 = Option.bind (b N (fun r0 => some (r0)) s0 v1) (fun p => kr p) := by
  unfold b; simp only [Lib.cond_bind, Lib.some_bind, Lib.none_bind, l2_bind]
def vo (s0 : Row) (v1 : ByteArray) : Option (Int) := b Lib.big (fun r0 => some (r0)) s0 v1
def c (s0 : Row) (v1 : ByteArray) : Bool := Option.isSome (vo s0 v1)
def v (s0 : Row) (v1 : ByteArray) : Int := Option.getD (vo s0 v1) (0)
theorem out (s0 : Row) (v1 : ByteArray) {x : Int} (h : vo s0 v1 = some x) : c s0 v1 = true ∧ v s0 v1 = x := by
  unfold c v; rw [h]; exact ⟨rfl, rfl⟩
theorem b_eq {R : Type} (kr : Int → Option R) (s0 : Row) (v1 : ByteArray) (hc : c s0 v1 = true) : ∃ N, b N kr s0 v1 = kr (v s0 v1) := by
  refine ⟨Lib.big, ?_⟩
  rw [b_bind]
  have e : vo s0 v1 = some (v s0 v1) := by
    unfold c at hc; unfold v
    cases h : vo s0 v1 with
    | none => rw [h] at hc; cases hc
    | some x => rfl
  unfold vo at e
  rw [e]; rfl
end Go.FG.Pu.slices_Index_string

namespace Go.FG.Pu.slices_Contains_string
def b {R : Type} (kr : Bool → Option R) (s0 : Row) (v1 : ByteArray) : Option R := bif (Pu.slices_Index_string.c s0 v1) then (kr (decide (Pu.slices_Index_string.v s0 v1 ≥ 0))) else (none)
theorem b_bind {R : Type} (kr : Bool → Option R) (s0 : Row) (v1 : ByteArray) : b kr s0 v1 = Option.bind (b (fun r0 => some (r0)) s0 v1) (fun p => kr p) := by
  unfold b; simp only [Lib.cond_bind, Lib.some_bind, Lib.none_bind]
def vo (s0 : Row) (v1 : ByteArray) : Option (Bool) := b (fun r0 => some (r0)) s0 v1
def c (s0 : Row) (v1 : ByteArray) : Bool := Option.isSome (vo s0 v1)
def v (s0 : Row) (v1 : ByteArray) : Bool := Option.getD (vo s0 v1) (false)
theorem out (s0 : Row) (v1 : ByteArray) {x : Bool} (h : vo s0 v1 = some x) : c s0 v1 = true ∧ v s0 v1 = x := by
  unfold c v; rw [h]; exact ⟨rfl, rfl⟩
theorem b_eq {R : Type} (kr : Bool → Option R) (s0 : Row) (v1 : ByteArray) (hc : c s0 v1 = true) : b kr s0 v1 = kr (v s0 v1) := by
  rw [b_bind]
  have e : vo s0 v1 = some (v s0 v1) := by
    unfold c at hc; unfold v
    cases h : vo s0 v1 with
    | none => rw [h] at hc; cases hc
    | some x => rfl
  unfold vo at e
  rw [e]; rfl
end Go.FG.Pu.slices_Contains_string

namespace Go.FG.Pu.impl_PolicyHas
def b {R : Type} (kr : Bool → Option R) (p0_0 : Row) (p0_1 : Row) (p0_2 : Row) (p0_3 : Int) (key1 : ByteArray) : Option R := bif (Pu.impl_keysIn.c p0_0 p0_1 p0_2 p0_3) then (bif (Pu.slices_Contains_string.c (Pu.impl_keysIn.v p0_0 p0_1 p0_2 p0_3) key1) then (kr (Pu.slices_Contains_string.v (Pu.impl_keysIn.v p0_0 p0_1 p0_2 p0_3) key1)) else (none)) else (none)
theorem b_bind {R : Type} (kr : Bool → Option R) (p0_0 : Row) (p0_1 : Row) (p0_2 : Row) (p0_3 : Int) (key1 : ByteArray) : b kr p0_0 p0_1 p0_2 p0_3 key1 = Option.bind (b (fun r0 => some (r0)) p0_0 p0_1 p0_2 p0_3 key1) (fun p => kr p) := by
  unfold b; simp only [Lib.cond_bind, Lib.some_bind, Lib.none_bind]
def vo (p0_0 : Row) (p0_1 : Row) (p0_2 : Row) (p0_3 : Int) (key1 : ByteArray) : Option (Bool) := b (fun r0 => some (r0)) p0_0 p0_1 p0_2 p0_3 key1
def c (p0_0 : Row) (p0_1 : Row) (p0_2 : Row) (p0_3 : Int) (key1 : ByteArray) : Bool := Option.isSome (vo p0_0 p0_1 p0_2 p0_3 key1)
def v (p0_0 : Row) (p0_1 : Row) (p0_2 : Row) (p0_3 : Int) (key1 : ByteArray) : Bool := Option.getD (vo p0_0 p0_1 p0_2 p0_3 key1) (false)
theorem out (p0_0 : Row) (p0_1 : Row) (p0_2 : Row) (p0_3 : Int) (key1 : ByteArray) {x : Bool} (h : vo p0_0 p0_1 p0_2 p0_3 key1 = some x) : c p0_0 p0_1 p0_2 p0_3 key1 = true ∧ v p0_0 p0_1 p0_2 p0_3 key1 = x := by
  unfold c v; rw [h]; exact ⟨rfl, rfl⟩
theorem b_eq {R : Type} (kr : Bool → Option R) (p0_0 : Row) (p0_1 : Row) (p0_2 : Row) (p0_3 : Int) (key1 : ByteArray) (hc : c p0_0 p0_1 p0_2 p0_3 key1 = true) : b kr p0_0 p0_1 p0_2 p0_3 key1 = kr (v p0_0 p0_1 p0_2 p0_3 key1) := by
  rw [b_bind]
  have e : vo p0_0 p0_1 p0_2 p0_3 key1 = some (v p0_0 p0_1 p0_2 p0_3 key1) := by
    unfold c at hc; unfold v
    cases h : vo p0_0 p0_1 p0_2 p0_3 key1 with
    | none => rw [h] at hc; cases hc
    | some x => rfl
  unfold vo at e
  rw [e]; rfl
end Go.FG.Pu.impl_PolicyHas

namespace Go.FG.Pu.impl_SketchOk
def r5 {R : Type} (N : Nat) (g : Bool → Row → Row → Int → Int → Row → Int → Int → Row → Int → Option R) (k0 : Bool → Row → Row → Int → Int → Row → Int → Int → Row → Int → Option R) (k1 : Bool → Row → Row → Int → Int → Row → Int → Int → Row → Int → Option R) (x6 : Bool) (x7 : Row) (x8 : Row) (x9 : Int) (x10 : Int) (x11 : Row) (x12 : Int) (x13 : Int) (x14 : Row) (x15 : Int) : Option R := bif (decide (x13 < x12)) then (bif (decide (0 ≤ x13) && decide (x13 < (↑(List.length x11) : Int))) then (bif (!Pu.impl_within.v (cvI (cellAt x11 (Int.toNat x13) 0)) 0 15) then (k0 false x7 x8 x9 x10 x11 x12 x13 x14 x15) else (g x6 x7 x8 x9 x10 x11 x12 (w64 (x13 + 1)) x14 x15)) else (none)) else (k1 x6 x7 x8 x9 x10 x11 x12 x13 x14 x15)
def l5 {R : Type} (N : Nat) (k0 : Bool → Row → Row → Int → Int → Row → Int → Int → Row → Int → Option R) (k1 : Bool → Row → Row → Int → Int → Row → Int → Int → Row → Int → Option R) : Nat → Bool → Row → Row → Int → Int → Row → Int → Int → Row → Int → Option R
  | 0 => (fun _ _ _ _ _ _ _ _ _ _ => none)
  | n + 1 => (fun x6 x7 x8 x9 x10 x11 x12 x13 x14 x15 => r5 N (l5 N k0 k1 n) k0 k1 x6 x7 x8 x9 x10 x11 x12 x13 x14 x15)
def r2 {R : Type} (N : Nat) (g : Bool → Row → Int → Int → Row → Int → Option R) (k0 : Bool → Row → Int → Int → Row → Int → Option R) (k1 : Bool → Row → Int → Int → Row → Int → Option R) (x0 : Bool) (x1 : Row) (x2 : Int) (x3 : Int) (x4 : Row) (x5 : Int) : Option R := bif (decide (x3 < x2)) then (bif (decide (0 ≤ x3) && decide (x3 < (↑(List.length x1) : Int))) then (l5 N (fun y16 y17 y18 y19 y20 y21 y22 y23 y24 y25 => k0 y16 y18 y19 y20 y24 y25) (fun y26 y27 y28 y29 y30 y31 y32 y33 y34 y35 => bif ((↑(List.length y27) : Int) != 16) then (k0 false y28 y29 y30 y34 y35) else (g y26 y28 y29 (w64 (y30 + 1)) y34 y35)) N x0 (cvL (cellAt x1 (Int.toNat x3) 0)) x1 x2 x3 (cvL (cellAt x1 (Int.toNat x3) 0)) (↑(List.length (cvL (cellAt x1 (Int.toNat x3) 0))) : Int) 0 x4 x5) else (none)) else (k1 x0 x1 x2 x3 x4 x5)
def l2 {R : Type} (N : Nat) (k0 : Bool → Row → Int → Int → Row → Int → Option R) (k1 : Bool → Row → Int → Int → Row → Int → Option R) : Nat → Bool → Row → Int → Int → Row → Int → Option R
  | 0 => (fun _ _ _ _ _ _ => none)
  | n + 1 => (fun x0 x1 x2 x3 x4 x5 => r2 N (l2 N k0 k1 n) k0 k1 x0 x1 x2 x3 x4 x5)
def b {R : Type} (N : Nat) (kr : Bool → Option R) (s0_0 : Row) (s0_1 : Int) : Option R := l2 N (fun y36 y37 y38 y39 y40 y41 => kr y36) (fun y42 y43 y44 y45 y46 y47 => bif (decide ((↑(List.length y46) : Int) = 3)) then (kr (Pu.impl_within.v y47 0 63)) else (kr false)) N false s0_0 (↑(List.length s0_0) : Int) 0 s0_0 s0_1
theorem q5_bind {R S : Type} (f : R → Option S) (N : Nat) (k0 : Bool → Row → Row → Int → Int → Row → Int → Int → Row → Int → Option R) (k1 : Bool → Row → Row → Int → Int → Row → Int → Int → Row → Int → Option R) : ∀ n : Nat, (∀ (x6 : Bool) (x7 : Row) (x8 : Row) (x9 : Int) (x10 : Int) (x11 : Row) (x12 : Int) (x13 : Int) (x14 : Row) (x15 : Int), Option.bind (l5 N k0 k1 n x6 x7 x8 x9 x10 x11 x12 x13 x14 x15) f = l5 N (fun y0 y1 y2 y3 y4 y5 y6 y7 y8 y9 => (Option.bind (k0 y0 y1 y2 y3 y4 y5 y6 y7 y8 y9) f)) (fun y0 y1 y2 y3 y4 y5 y6 y7 y8 y9 => (Option.bind (k1 y0 y1 y2 y3 y4 y5 y6 y7 y8 y9) f)) n x6 x7 x8 x9 x10 x11 x12 x13 x14 x15) := by
  intro n
  induction n with
  | zero => exact (fun _ _ _ _ _ _ _ _ _ _ => rfl)
  | succ n ih =>
    intro x6 x7 x8 x9 x10 x11 x12 x13 x14 x15
    simp only [l5, r5, Lib.cond_bind, Lib.some_bind, Lib.none_bind, ih]
theorem l5_bind {R S : Type} (f : R → Option S) (N : Nat) (k0 : Bool → Row → Row → Int → Int → Row → Int → Int → Row → Int → Option R) (k1 : Bool → Row → Row → Int → Int → Row → Int → Int → Row → Int → Option R) (n : Nat) (x6 : Bool) (x7 : Row) (x8 : Row) (x9 : Int) (x10 : Int) (x11 : Row) (x12 : Int) (x13 : Int) (x14 : Row) (x15 : Int) : Option.bind (l5 N k0 k1 n x6 x7 x8 x9 x10 x11 x12 x13 x14 x15) f = l5 N (fun y0 y1 y2 y3 y4 y5 y6 y7 y8 y9 => (Option.bind (k0 y0 y1 y2 y3 y4 y5 y6 y7 y8 y9) f)) (fun y0 y1 y2 y3 y4 y5 y6 y7 y8 y9 => (Option.bind (k1 y0 y1 y2 y3 y4 y5 y6 y7 y8 y9) f)) n x6 x7 x8 x9 x10 x11 x12 x13 x14 x15 := (q5_bind f N k0 k1 n) x6 x7 x8 x9 x10 x11 x12 x13 x14 x15
theorem q2_bind {R S : Type} (f : R → Option S) (N : Nat) (k0 : Bool → Row → Int → Int → Row → Int → Option R) (k1 : Bool → Row → Int → Int → Row → Int → Option R) : ∀ n : Nat, (∀ (x0 : Bool) (x1 : Row) (x2 : Int) (x3 : Int) (x4 : Row) (x5 : Int), Option.bind (l2 N k0 k1 n x0 x1 x2 x3 x4 x5) f = l2 N (fun y0 y1 y2 y3 y4 y5 => (Option.bind (k0 y0 y1 y2 y3 y4 y5) f)) (fun y0 y1 y2 y3 y4 y5 => (Option.bind (k1 y0 y1 y2 y3 y4 y5) f)) n x0 x1 x2 x3 x4 x5) := by
  intro n
  induction n with
  | zero => exact (fun _ _ _ _ _ _ => rfl)
  | succ n ih =>
    intro x0 x1 x2 x3 x4 x5
    simp only [l2, r2, Lib.cond_bind, Lib.some_bind, Lib.none_bind, ih, l5_bind]
theorem l2_bind {R S : Type} (f : R → Option S) (N : Nat) (k0 : Bool → Row → Int → Int → Row → Int → Option R) (k1 : Bool → Row → Int → Int → Row → Int → Option R) (n : Nat) (x0 : Bool) (x1 : Row) (x2 : Int) (x3 : Int) (x4 : Row) (x5 : Int) : Option.bind (l2 N k0 k1 n x0 x1 x2 x3 x4 x5) f = l2 N (fun y0 y1 y2 y3 y4 y5 => (Option.bind (k0 y0 y1 y2 y3 y4 y5) f)) (fun y0 y1 y2 y3 y4 y5 => (Option.bind (k1 y0 y1 y2 y3 y4 y5) f)) n x0 x1 x2 x3 x4 x5 := (q2_bind f N k0 k1 n) x0 x1 x2 x3 x4 x5
theorem b_bind {R : Type} (N : Nat) (kr : Bool → Option R) (s0_0 : Row) (s0_1 : Int) : b N kr s0_0 s0_1 = Option.bind (b N (fun r0 => some (r0)) s0_0 s0_1) (fun p => kr p) := by
  unfold b; simp only [Lib.cond_bind, Lib.some_bind, Lib.none_bind, l5_bind, l2_bind]
def vo (s0_0 : Row) (s0_1 : Int) : Option (Bool) := b Lib.big (fun r0 => some (r0)) s0_0 s0_1
def c (s0_0 : Row) (s0_1 : Int) : Bool := Option.isSome (vo s0_0 s0_1)
def v (s0_0 : Row) (s0_1 : Int) : Bool := Option.getD (vo s0_0 s0_1) (false)
theorem out (s0_0 : Row) (s0_1 : Int) {x : Bool} (h : vo s0_0 s0_1 = some x) : c s0_0 s0_1 = true ∧ v s0_0 s0_1 = x := by
  unfold c v; rw [h]; exact ⟨rfl, rfl⟩
theorem b_eq {R : Type} (kr : Bool → Option R) (s0_0 : Row) (s0_1 : Int) (hc : c s0_0 s0_1 = true) : ∃ N, b N kr s0_0 s0_1 = kr (v s0_0 s0_1) := by
  refine ⟨Lib.big, ?_⟩
  rw [b_bind]
  have e : vo s0_0 s0_1 = some (v s0_0 s0_1) := by
    unfold c at hc; unfold v
    cases h : vo s0_0 s0_1 with
    | none => rw [h] at hc; cases hc
    | some x => rfl
  unfold vo at e
  rw [e]; rfl
end Go.FG.Pu.impl_SketchOk

namespace Go.FG.Pu.impl_PolicyOk
def r3 {R : Type} (N : Nat) (g : Bool → Int → Int → Row → Row → Row → Int → Row → Option R) (k0 : Bool → Int → Int → Row → Row → Row → Int → Row → Option R) (k1 : Bool → Int → Int → Row → Row → Row → Int → Row → Option R) (x0 : Bool) (x1 : Int) (x2 : Int) (x3 : Row) (x4 : Row) (x5 : Row) (x6 : Int) (x7 : Row) : Option R := bif (decide (x2 < x1)) then (bif (decide (0 ≤ x2) && decide (x2 < (↑(List.length x7) : Int))) then (bif (!Pu.impl_isKey.v (cvS (cellAt x7 (Int.toNat x2) 0))) then (k0 false x1 x2 x3 x4 x5 x6 x7) else (bif (inB 0 x2 (↑(List.length x7) : Int)) then (bif (Pu.slices_Contains_string.c (view x7 (Int.toNat 0) (Int.toNat x2)) (cvS (cellAt x7 (Int.toNat x2) 0))) then (bif (Pu.slices_Contains_string.v (view x7 (Int.toNat 0) (Int.toNat x2)) (cvS (cellAt x7 (Int.toNat x2) 0))) then (k0 false x1 x2 x3 x4 x5 x6 x7) else (g x0 x1 (w64 (x2 + 1)) x3 x4 x5 x6 x7)) else (none)) else (none))) else (none)) else (k1 x0 x1 x2 x3 x4 x5 x6 x7)
def l3 {R : Type} (N : Nat) (k0 : Bool → Int → Int → Row → Row → Row → Int → Row → Option R) (k1 : Bool → Int → Int → Row → Row → Row → Int → Row → Option R) : Nat → Bool → Int → Int → Row → Row → Row → Int → Row → Option R
  | 0 => (fun _ _ _ _ _ _ _ _ => none)
  | n + 1 => (fun x0 x1 x2 x3 x4 x5 x6 x7 => r3 N (l3 N k0 k1 n) k0 k1 x0 x1 x2 x3 x4 x5 x6 x7)
def b {R : Type} (N : Nat) (kr : Bool → Option R) (p0_0 : Row) (p0_1 : Row) (p0_2 : Row) (p0_3 : Int) : Option R := bif (Pu.impl_keysIn.c p0_0 p0_1 p0_2 p0_3) then (l3 N (fun y8 y9 y10 y11 y12 y13 y14 y15 => kr y8) (fun y16 y17 y18 y19 y20 y21 y22 y23 => bif (decide ((↑(List.length y19) : Int) ≤ 2)) then (bif (decide ((↑(List.length y20) : Int) ≤ 4)) then (bif (Pu.impl_SketchOk.c y21 y22) then (kr (Pu.impl_SketchOk.v y21 y22)) else (none)) else (kr false)) else (kr false)) N false (↑(List.length (Pu.impl_keysIn.v p0_0 p0_1 p0_2 p0_3)) : Int) 0 p0_0 p0_1 p0_2 p0_3 (Pu.impl_keysIn.v p0_0 p0_1 p0_2 p0_3)) else (none)
theorem q3_bind {R S : Type} (f : R → Option S) (N : Nat) (k0 : Bool → Int → Int → Row → Row → Row → Int → Row → Option R) (k1 : Bool → Int → Int → Row → Row → Row → Int → Row → Option R) : ∀ n : Nat, (∀ (x0 : Bool) (x1 : Int) (x2 : Int) (x3 : Row) (x4 : Row) (x5 : Row) (x6 : Int) (x7 : Row), Option.bind (l3 N k0 k1 n x0 x1 x2 x3 x4 x5 x6 x7) f = l3 N (fun y0 y1 y2 y3 y4 y5 y6 y7 => (Option.bind (k0 y0 y1 y2 y3 y4 y5 y6 y7) f)) (fun y0 y1 y2 y3 y4 y5 y6 y7 => (Option.bind (k1 y0 y1 y2 y3 y4 y5 y6 y7) f)) n x0 x1 x2 x3 x4 x5 x6 x7) := by
  intro n
  induction n with
  | zero => exact (fun _ _ _ _ _ _ _ _ => rfl)
  | succ n ih =>
    intro x0 x1 x2 x3 x4 x5 x6 x7
    simp only [l3, r3, Lib.cond_bind, Lib.some_bind, Lib.none_bind, ih]
theorem l3_bind {R S : Type} (f : R → Option S) (N : Nat) (k0 : Bool → Int → Int → Row → Row → Row → Int → Row → Option R) (k1 : Bool → Int → Int → Row → Row → Row → Int → Row → Option R) (n : Nat) (x0 : Bool) (x1 : Int) (x2 : Int) (x3 : Row) (x4 : Row) (x5 : Row) (x6 : Int) (x7 : Row) : Option.bind (l3 N k0 k1 n x0 x1 x2 x3 x4 x5 x6 x7) f = l3 N (fun y0 y1 y2 y3 y4 y5 y6 y7 => (Option.bind (k0 y0 y1 y2 y3 y4 y5 y6 y7) f)) (fun y0 y1 y2 y3 y4 y5 y6 y7 => (Option.bind (k1 y0 y1 y2 y3 y4 y5 y6 y7) f)) n x0 x1 x2 x3 x4 x5 x6 x7 := (q3_bind f N k0 k1 n) x0 x1 x2 x3 x4 x5 x6 x7
theorem b_bind {R : Type} (N : Nat) (kr : Bool → Option R) (p0_0 : Row) (p0_1 : Row) (p0_2 : Row) (p0_3 : Int) : b N kr p0_0 p0_1 p0_2 p0_3 = Option.bind (b N (fun r0 => some (r0)) p0_0 p0_1 p0_2 p0_3) (fun p => kr p) := by
  unfold b; simp only [Lib.cond_bind, Lib.some_bind, Lib.none_bind, l3_bind]
def vo (p0_0 : Row) (p0_1 : Row) (p0_2 : Row) (p0_3 : Int) : Option (Bool) := b Lib.big (fun r0 => some (r0)) p0_0 p0_1 p0_2 p0_3
def c (p0_0 : Row) (p0_1 : Row) (p0_2 : Row) (p0_3 : Int) : Bool := Option.isSome (vo p0_0 p0_1 p0_2 p0_3)
def v (p0_0 : Row) (p0_1 : Row) (p0_2 : Row) (p0_3 : Int) : Bool := Option.getD (vo p0_0 p0_1 p0_2 p0_3) (false)
theorem out (p0_0 : Row) (p0_1 : Row) (p0_2 : Row) (p0_3 : Int) {x : Bool} (h : vo p0_0 p0_1 p0_2 p0_3 = some x) : c p0_0 p0_1 p0_2 p0_3 = true ∧ v p0_0 p0_1 p0_2 p0_3 = x := by
  unfold c v; rw [h]; exact ⟨rfl, rfl⟩
theorem b_eq {R : Type} (kr : Bool → Option R) (p0_0 : Row) (p0_1 : Row) (p0_2 : Row) (p0_3 : Int) (hc : c p0_0 p0_1 p0_2 p0_3 = true) : ∃ N, b N kr p0_0 p0_1 p0_2 p0_3 = kr (v p0_0 p0_1 p0_2 p0_3) := by
  refine ⟨Lib.big, ?_⟩
  rw [b_bind]
  have e : vo p0_0 p0_1 p0_2 p0_3 = some (v p0_0 p0_1 p0_2 p0_3) := by
    unfold c at hc; unfold v
    cases h : vo p0_0 p0_1 p0_2 p0_3 with
    | none => rw [h] at hc; cases hc
    | some x => rfl
  unfold vo at e
  rw [e]; rfl
end Go.FG.Pu.impl_PolicyOk

namespace Go.FG.Pu.impl_entriesOk
def r2 {R : Type} (N : Nat) (g : Bool → Row → Int → Int → Int → Row → Row → Row → Row → Int → Row → Row → Int → Option R) (k0 : Bool → Row → Int → Int → Int → Row → Row → Row → Row → Int → Row → Row → Int → Option R) (k1 : Bool → Row → Int → Int → Int → Row → Row → Row → Row → Int → Row → Row → Int → Option R) (x0 : Bool) (x1 : Row) (x2 : Int) (x3 : Int) (x4 : Int) (x5 : Row) (x6 : Row) (x7 : Row) (x8 : Row) (x9 : Int) (x10 : Row) (x11 : Row) (x12 : Int) : Option R := bif (decide (x3 < x2)) then (bif (decide (0 ≤ x3) && decide (x3 < (↑(List.length x1) : Int))) then (bif (!Pu.impl_EntryOk.v (cvS (cellAt x1 (Int.toNat x3) 0)) (cvI (cellAt x1 (Int.toNat x3) 1)) (cvI (cellAt x1 (Int.toNat x3) (1 + 1))) (cvS (cellAt x1 (Int.toNat x3) (1 + 1 + 1)))) then (k0 false x1 x2 x3 x4 x5 x6 x7 x8 x9 x10 x11 x12) else (bif (decide (x3 > 0)) then (bif (decide (0 ≤ w64 (x3 - 1)) && decide (w64 (x3 - 1) < (↑(List.length x5) : Int))) then (bif (!Go.Op.bytesLess (ByteArray.toList (cvS (cellAt x5 (Int.toNat (w64 (x3 - 1))) 0))) (ByteArray.toList (cvS (cellAt x1 (Int.toNat x3) 0)))) then (k0 false x1 x2 x3 x4 x5 x6 x7 x8 x9 x10 x11 x12) else (bif (Pu.impl_PolicyHas.c x6 x7 x8 x9 (cvS (cellAt x1 (Int.toNat x3) 0))) then (bif (!Pu.impl_PolicyHas.v x6 x7 x8 x9 (cvS (cellAt x1 (Int.toNat x3) 0))) then (k0 false x1 x2 x3 x4 x5 x6 x7 x8 x9 x10 x11 x12) else (g x0 x1 x2 (w64 (x3 + 1)) x4 x5 x6 x7 x8 x9 x10 x11 x12)) else (none))) else (none)) else (bif (Pu.impl_PolicyHas.c x6 x7 x8 x9 (cvS (cellAt x1 (Int.toNat x3) 0))) then (bif (!Pu.impl_PolicyHas.v x6 x7 x8 x9 (cvS (cellAt x1 (Int.toNat x3) 0))) then (k0 false x1 x2 x3 x4 x5 x6 x7 x8 x9 x10 x11 x12) else (g x0 x1 x2 (w64 (x3 + 1)) x4 x5 x6 x7 x8 x9 x10 x11 x12)) else (none)))) else (none)) else (k1 x0 x1 x2 x3 x4 x5 x6 x7 x8 x9 x10 x11 x12)
def l2 {R : Type} (N : Nat) (k0 : Bool → Row → Int → Int → Int → Row → Row → Row → Row → Int → Row → Row → Int → Option R) (k1 : Bool → Row → Int → Int → Int → Row → Row → Row → Row → Int → Row → Row → Int → Option R) : Nat → Bool → Row → Int → Int → Int → Row → Row → Row → Row → Int → Row → Row → Int → Option R
  | 0 => (fun _ _ _ _ _ _ _ _ _ _ _ _ _ => none)
  | n + 1 => (fun x0 x1 x2 x3 x4 x5 x6 x7 x8 x9 x10 x11 x12 => r2 N (l2 N k0 k1 n) k0 k1 x0 x1 x2 x3 x4 x5 x6 x7 x8 x9 x10 x11 x12)
def b {R : Type} (N : Nat) (kr : Bool → Option R) (p0_0 : Int) (p0_1 : Row) (p0_2 : Row) (p0_3 : Row) (p0_4 : Row) (p0_5 : Int) (p0_6 : Row) (p0_7 : Row) (p0_8 : Int) : Option R := l2 N (fun y13 y14 y15 y16 y17 y18 y19 y20 y21 y22 y23 y24 y25 => kr y13) (fun y26 y27 y28 y29 y30 y31 y32 y33 y34 y35 y36 y37 y38 => bif (Pu.impl_PolicyOk.c y32 y33 y34 y35) then (bif (Pu.impl_PolicyOk.v y32 y33 y34 y35) then (bif (Pu.impl_keysIn.c y32 y33 y34 y35) then (kr (decide ((↑(List.length (Pu.impl_keysIn.v y32 y33 y34 y35)) : Int) = (↑(List.length y31) : Int)))) else (none)) else (kr false)) else (none)) N false p0_1 (↑(List.length p0_1) : Int) 0 p0_0 p0_1 p0_2 p0_3 p0_4 p0_5 p0_6 p0_7 p0_8
theorem q2_bind {R S : Type} (f : R → Option S) (N : Nat) (k0 : Bool → Row → Int → Int → Int → Row → Row → Row → Row → Int → Row → Row → Int → Option R) (k1 : Bool → Row → Int → Int → Int → Row → Row → Row → Row → Int → Row → Row → Int → Option R) : ∀ n : Nat, (∀ (x0 : Bool) (x1 : Row) (x2 : Int) (x3 : Int) (x4 : Int) (x5 : Row) (x6 : Row) (x7 : Row) (x8 : Row) (x9 : Int) (x10 : Row) (x11 : Row) (x12 : Int), Option.bind (l2 N k0 k1 n x0 x1 x2 x3 x4 x5 x6 x7 x8 x9 x10 x11 x12) f = l2 N (fun y0 y1 y2 y3 y4 y5 y6 y7 y8 y9 y10 y11 y12 => (Option.bind (k0 y0 y1 y2 y3 y4 y5 y6 y7 y8 y9 y10 y11 y12) f)) (fun y0 y1 y2 y3 y4 y5 y6 y7 y8 y9 y10 y11 y12 => (Option.bind (k1 y0 y1 y2 y3 y4 y5 y6 y7 y8 y9 y10 y11 y12) f)) n x0 x1 x2 x3 x4 x5 x6 x7 x8 x9 x10 x11 x12) := by
  intro n
  induction n with
  | zero => exact (fun _ _ _ _ _ _ _ _ _ _ _ _ _ => rfl)
  | succ n ih =>
    intro x0 x1 x2 x3 x4 x5 x6 x7 x8 x9 x10 x11 x12
    simp only [l2, r2, Lib.cond_bind, Lib.some_bind, Lib.none_bind, ih]
theorem l2_bind {R S : Type} (f : R → Option S) (N : Nat) (k0 : Bool → Row → Int → Int → Int → Row → Row → Row → Row → Int → Row → Row → Int → Option R) (k1 : Bool → Row → Int → Int → Int → Row → Row → Row → Row → Int → Row → Row → Int → Option R) (n : Nat) (x0 : Bool) (x1 : Row) (x2 : Int) (x3 : Int) (x4 : Int) (x5 : Row) (x6 : Row) (x7 : Row) (x8 : Row) (x9 : Int) (x10 : Row) (x11 : Row) (x12 : Int) : Option.bind (l2 N k0 k1 n x0 x1 x2 x3 x4 x5 x6 x7 x8 x9 x10 x11 x12) f = l2 N (fun y0 y1 y2 y3 y4 y5 y6 y7 y8 y9 y10 y11 y12 => (Option.bind (k0 y0 y1 y2 y3 y4 y5 y6 y7 y8 y9 y10 y11 y12) f)) (fun y0 y1 y2 y3 y4 y5 y6 y7 y8 y9 y10 y11 y12 => (Option.bind (k1 y0 y1 y2 y3 y4 y5 y6 y7 y8 y9 y10 y11 y12) f)) n x0 x1 x2 x3 x4 x5 x6 x7 x8 x9 x10 x11 x12 := (q2_bind f N k0 k1 n) x0 x1 x2 x3 x4 x5 x6 x7 x8 x9 x10 x11 x12
theorem b_bind {R : Type} (N : Nat) (kr : Bool → Option R) (p0_0 : Int) (p0_1 : Row) (p0_2 : Row) (p0_3 : Row) (p0_4 : Row) (p0_5 : Int) (p0_6 : Row) (p0_7 : Row) (p0_8 : Int) : b N kr p0_0 p0_1 p0_2 p0_3 p0_4 p0_5 p0_6 p0_7 p0_8 = Option.bind (b N (fun r0 => some (r0)) p0_0 p0_1 p0_2 p0_3 p0_4 p0_5 p0_6 p0_7 p0_8) (fun p => kr p) := by
  unfold b; simp only [Lib.cond_bind, Lib.some_bind, Lib.none_bind, l2_bind]
def vo (p0_0 : Int) (p0_1 : Row) (p0_2 : Row) (p0_3 : Row) (p0_4 : Row) (p0_5 : Int) (p0_6 : Row) (p0_7 : Row) (p0_8 : Int) : Option (Bool) := b Lib.big (fun r0 => some (r0)) p0_0 p0_1 p0_2 p0_3 p0_4 p0_5 p0_6 p0_7 p0_8
def c (p0_0 : Int) (p0_1 : Row) (p0_2 : Row) (p0_3 : Row) (p0_4 : Row) (p0_5 : Int) (p0_6 : Row) (p0_7 : Row) (p0_8 : Int) : Bool := Option.isSome (vo p0_0 p0_1 p0_2 p0_3 p0_4 p0_5 p0_6 p0_7 p0_8)
def v (p0_0 : Int) (p0_1 : Row) (p0_2 : Row) (p0_3 : Row) (p0_4 : Row) (p0_5 : Int) (p0_6 : Row) (p0_7 : Row) (p0_8 : Int) : Bool := Option.getD (vo p0_0 p0_1 p0_2 p0_3 p0_4 p0_5 p0_6 p0_7 p0_8) (false)
theorem out (p0_0 : Int) (p0_1 : Row) (p0_2 : Row) (p0_3 : Row) (p0_4 : Row) (p0_5 : Int) (p0_6 : Row) (p0_7 : Row) (p0_8 : Int) {x : Bool} (h : vo p0_0 p0_1 p0_2 p0_3 p0_4 p0_5 p0_6 p0_7 p0_8 = some x) : c p0_0 p0_1 p0_2 p0_3 p0_4 p0_5 p0_6 p0_7 p0_8 = true ∧ v p0_0 p0_1 p0_2 p0_3 p0_4 p0_5 p0_6 p0_7 p0_8 = x := by
  unfold c v; rw [h]; exact ⟨rfl, rfl⟩
theorem b_eq {R : Type} (kr : Bool → Option R) (p0_0 : Int) (p0_1 : Row) (p0_2 : Row) (p0_3 : Row) (p0_4 : Row) (p0_5 : Int) (p0_6 : Row) (p0_7 : Row) (p0_8 : Int) (hc : c p0_0 p0_1 p0_2 p0_3 p0_4 p0_5 p0_6 p0_7 p0_8 = true) : ∃ N, b N kr p0_0 p0_1 p0_2 p0_3 p0_4 p0_5 p0_6 p0_7 p0_8 = kr (v p0_0 p0_1 p0_2 p0_3 p0_4 p0_5 p0_6 p0_7 p0_8) := by
  refine ⟨Lib.big, ?_⟩
  rw [b_bind]
  have e : vo p0_0 p0_1 p0_2 p0_3 p0_4 p0_5 p0_6 p0_7 p0_8 = some (v p0_0 p0_1 p0_2 p0_3 p0_4 p0_5 p0_6 p0_7 p0_8) := by
    unfold c at hc; unfold v
    cases h : vo p0_0 p0_1 p0_2 p0_3 p0_4 p0_5 p0_6 p0_7 p0_8 with
    | none => rw [h] at hc; cases hc
    | some x => rfl
  unfold vo at e
  rw [e]; rfl
end Go.FG.Pu.impl_entriesOk

namespace Go.FG.Pu.impl_openFor_1
def b {R : Type} (kr : Bool → Option R) (f0_0 : ByteArray) (f0_1 : ByteArray) (f0_2 : Int) (f0_3 : Int) (f0_4 : Int) (key1 : ByteArray) : Option R := bif (List.beq (ByteArray.toList f0_0) (ByteArray.toList key1)) then (kr (decide (f0_2 = 1))) else (kr false)
def v (f0_0 : ByteArray) (f0_1 : ByteArray) (f0_2 : Int) (f0_3 : Int) (f0_4 : Int) (key1 : ByteArray) : Bool := bif (List.beq (ByteArray.toList f0_0) (ByteArray.toList key1)) then (((decide (f0_2 = 1)))) else ((false))
theorem b_eq {R : Type} (kr : Bool → Option R) (f0_0 : ByteArray) (f0_1 : ByteArray) (f0_2 : Int) (f0_3 : Int) (f0_4 : Int) (key1 : ByteArray) : b kr f0_0 f0_1 f0_2 f0_3 f0_4 key1 = kr (v f0_0 f0_1 f0_2 f0_3 f0_4 key1) := by
  first | rfl | (unfold b v; simp only [Bool.cond_eq_ite]; (repeat' split) <;> rfl)
end Go.FG.Pu.impl_openFor_1

namespace Go.FG.Pu.slices_IndexFunc_Fetch
def r2 {R : Type} (N : Nat) (g : Row → ByteArray → Int → Int → Int → Option R) (k0 : Row → ByteArray → Int → Int → Int → Option R) (k1 : Row → ByteArray → Int → Int → Int → Option R) (x0 : Row) (x1 : ByteArray) (x2 : Int) (x3 : Int) (x4 : Int) : Option R := bif (decide (x4 < x3)) then (bif (decide (0 ≤ x4) && decide (x4 < (↑(List.length x0) : Int))) then (bif (Pu.impl_openFor_1.v (cvS (cellAt x0 (Int.toNat x4) 0)) (cvS (cellAt x0 (Int.toNat x4) 1)) (cvI (cellAt x0 (Int.toNat x4) (1 + 1))) (cvI (cellAt x0 (Int.toNat x4) (1 + 1 + 1))) (cvI (cellAt x0 (Int.toNat x4) (1 + 1 + 1 + 1))) x1) then (k0 x0 x1 x4 x3 x4) else (g x0 x1 x2 x3 (w64 (x4 + 1)))) else (none)) else (k1 x0 x1 x2 x3 x4)
def l2 {R : Type} (N : Nat) (k0 : Row → ByteArray → Int → Int → Int → Option R) (k1 : Row → ByteArray → Int → Int → Int → Option R) : Nat → Row → ByteArray → Int → Int → Int → Option R
  | 0 => (fun _ _ _ _ _ => none)
  | n + 1 => (fun x0 x1 x2 x3 x4 => r2 N (l2 N k0 k1 n) k0 k1 x0 x1 x2 x3 x4)
def b {R : Type} (N : Nat) (kr : Int → Option R) (s0 : Row) (key1 : ByteArray) : Option R := l2 N (fun y5 y6 y7 y8 y9 => kr y7) (fun y10 y11 y12 y13 y14 => kr (-1)) N s0 key1 0 (↑(List.length s0) : Int) 0
theorem q2_bind {R S : Type} (f : R → Option S) (N : Nat) (k0 : Row → ByteArray → Int → Int → Int → Option R) (k1 : Row → ByteArray → Int → Int → Int → Option R) : ∀ n : Nat, (∀ (x0 : Row) (x1 : ByteArray) (x2 : Int) (x3 : Int) (x4 : Int), Option.bind (l2 N k0 k1 n x0 x1 x2 x3 x4) f = l2 N (fun y0 y1 y2 y3 y4 => (Option.bind (k0 y0 y1 y2 y3 y4) f)) (fun y0 y1 y2 y3 y4 => (Option.bind (k1 y0 y1 y2 y3 y4) f)) n x0 x1 x2 x3 x4) := by
  intro n
  induction n with
  | zero => exact (fun _ _ _ _ _ => rfl)
  | succ n ih =>
    intro x0 x1 x2 x3 x4
    simp only [l2, r2, Lib.cond_bind, Lib.some_bind, Lib.none_bind, ih]
theorem l2_bind {R S : Type} (f : R → Option S) (N : Nat) (k0 : Row → ByteArray → Int → Int → Int → Option R) (k1 : Row → ByteArray → Int → Int → Int → Option R) (n : Nat) (x0 : Row) (x1 : ByteArray) (x2 : Int) (x3 : Int) (x4 : Int) : Option.bind (l2 N k0 k1 n x0 x1 x2 x3 x4) f = l2 N (fun y0 y1 y2 y3 y4 => (Option.bind (k0 y0 y1 y2 y3 y4) f)) (fun y0 y1 y2 y3 y4 => (Option.bind (k1 y0 y1 y2 y3 y4) f)) n x0 x1 x2 x3 x4 := (q2_bind f N k0 k1 n) x0 x1 x2 x3 x4
theorem b_bind {R : Type} (N : Nat) (kr : Int → Option R) (s0 : Row) (key1 : ByteArray) : b N kr s0 key1 = Option.bind (b N (fun r0 => some (r0)) s0 key1) (fun p => kr p) := by
  unfold b; simp only [Lib.cond_bind, Lib.some_bind, Lib.none_bind, l2_bind]
def vo (s0 : Row) (key1 : ByteArray) : Option (Int) := b Lib.big (fun r0 => some (r0)) s0 key1
def c (s0 : Row) (key1 : ByteArray) : Bool := Option.isSome (vo s0 key1)
def v (s0 : Row) (key1 : ByteArray) : Int := Option.getD (vo s0 key1) (0)
theorem out (s0 : Row) (key1 : ByteArray) {x : Int} (h : vo s0 key1 = some x) : c s0 key1 = true ∧ v s0 key1 = x := by
  unfold c v; rw [h]; exact ⟨rfl, rfl⟩
theorem b_eq {R : Type} (kr : Int → Option R) (s0 : Row) (key1 : ByteArray) (hc : c s0 key1 = true) : ∃ N, b N kr s0 key1 = kr (v s0 key1) := by
  refine ⟨Lib.big, ?_⟩
  rw [b_bind]
  have e : vo s0 key1 = some (v s0 key1) := by
    unfold c at hc; unfold v
    cases h : vo s0 key1 with
    | none => rw [h] at hc; cases hc
    | some x => rfl
  unfold vo at e
  rw [e]; rfl
end Go.FG.Pu.slices_IndexFunc_Fetch

namespace Go.FG.Pu.impl_openFor
def b {R : Type} (kr : Int → Option R) (p0_0 : Int) (p0_1 : Row) (p0_2 : Row) (p0_3 : Row) (p0_4 : Row) (p0_5 : Int) (p0_6 : Row) (p0_7 : Row) (p0_8 : Int) (key1 : ByteArray) : Option R := bif (Pu.slices_IndexFunc_Fetch.c p0_6 key1) then (kr (Pu.slices_IndexFunc_Fetch.v p0_6 key1)) else (none)
theorem b_bind {R : Type} (kr : Int → Option R) (p0_0 : Int) (p0_1 : Row) (p0_2 : Row) (p0_3 : Row) (p0_4 : Row) (p0_5 : Int) (p0_6 : Row) (p0_7 : Row) (p0_8 : Int) (key1 : ByteArray) : b kr p0_0 p0_1 p0_2 p0_3 p0_4 p0_5 p0_6 p0_7 p0_8 key1 = Option.bind (b (fun r0 => some (r0)) p0_0 p0_1 p0_2 p0_3 p0_4 p0_5 p0_6 p0_7 p0_8 key1) (fun p => kr p) := by
  unfold b; simp only [Lib.cond_bind, Lib.some_bind, Lib.none_bind]
def vo (p0_0 : Int) (p0_1 : Row) (p0_2 : Row) (p0_3 : Row) (p0_4 : Row) (p0_5 : Int) (p0_6 : Row) (p0_7 : Row) (p0_8 : Int) (key1 : ByteArray) : Option (Int) := b (fun r0 => some (r0)) p0_0 p0_1 p0_2 p0_3 p0_4 p0_5 p0_6 p0_7 p0_8 key1
def c (p0_0 : Int) (p0_1 : Row) (p0_2 : Row) (p0_3 : Row) (p0_4 : Row) (p0_5 : Int) (p0_6 : Row) (p0_7 : Row) (p0_8 : Int) (key1 : ByteArray) : Bool := Option.isSome (vo p0_0 p0_1 p0_2 p0_3 p0_4 p0_5 p0_6 p0_7 p0_8 key1)
def v (p0_0 : Int) (p0_1 : Row) (p0_2 : Row) (p0_3 : Row) (p0_4 : Row) (p0_5 : Int) (p0_6 : Row) (p0_7 : Row) (p0_8 : Int) (key1 : ByteArray) : Int := Option.getD (vo p0_0 p0_1 p0_2 p0_3 p0_4 p0_5 p0_6 p0_7 p0_8 key1) (0)
theorem out (p0_0 : Int) (p0_1 : Row) (p0_2 : Row) (p0_3 : Row) (p0_4 : Row) (p0_5 : Int) (p0_6 : Row) (p0_7 : Row) (p0_8 : Int) (key1 : ByteArray) {x : Int} (h : vo p0_0 p0_1 p0_2 p0_3 p0_4 p0_5 p0_6 p0_7 p0_8 key1 = some x) : c p0_0 p0_1 p0_2 p0_3 p0_4 p0_5 p0_6 p0_7 p0_8 key1 = true ∧ v p0_0 p0_1 p0_2 p0_3 p0_4 p0_5 p0_6 p0_7 p0_8 key1 = x := by
  unfold c v; rw [h]; exact ⟨rfl, rfl⟩
theorem b_eq {R : Type} (kr : Int → Option R) (p0_0 : Int) (p0_1 : Row) (p0_2 : Row) (p0_3 : Row) (p0_4 : Row) (p0_5 : Int) (p0_6 : Row) (p0_7 : Row) (p0_8 : Int) (key1 : ByteArray) (hc : c p0_0 p0_1 p0_2 p0_3 p0_4 p0_5 p0_6 p0_7 p0_8 key1 = true) : b kr p0_0 p0_1 p0_2 p0_3 p0_4 p0_5 p0_6 p0_7 p0_8 key1 = kr (v p0_0 p0_1 p0_2 p0_3 p0_4 p0_5 p0_6 p0_7 p0_8 key1) := by
  rw [b_bind]
  have e : vo p0_0 p0_1 p0_2 p0_3 p0_4 p0_5 p0_6 p0_7 p0_8 key1 = some (v p0_0 p0_1 p0_2 p0_3 p0_4 p0_5 p0_6 p0_7 p0_8 key1) := by
    unfold c at hc; unfold v
    cases h : vo p0_0 p0_1 p0_2 p0_3 p0_4 p0_5 p0_6 p0_7 p0_8 key1 with
    | none => rw [h] at hc; cases hc
    | some x => rfl
  unfold vo at e
  rw [e]; rfl
end Go.FG.Pu.impl_openFor

namespace Go.FG.Pu.impl_OneEach
def r2 {R : Type} (N : Nat) (g : Bool → Row → Int → Int → Int → Row → Row → Row → Row → Int → Row → Row → Int → Option R) (k0 : Bool → Row → Int → Int → Int → Row → Row → Row → Row → Int → Row → Row → Int → Option R) (k1 : Bool → Row → Int → Int → Int → Row → Row → Row → Row → Int → Row → Row → Int → Option R) (x0 : Bool) (x1 : Row) (x2 : Int) (x3 : Int) (x4 : Int) (x5 : Row) (x6 : Row) (x7 : Row) (x8 : Row) (x9 : Int) (x10 : Row) (x11 : Row) (x12 : Int) : Option R := bif (decide (x3 < x2)) then (bif (decide (0 ≤ x3) && decide (x3 < (↑(List.length x1) : Int))) then (bif (decide (cvI (cellAt x1 (Int.toNat x3) (1 + 1)) = 1)) then (bif (Pu.impl_openFor.c x4 x5 x6 x7 x8 x9 x10 x11 x12 (cvS (cellAt x1 (Int.toNat x3) 0))) then (bif (Pu.impl_openFor.v x4 x5 x6 x7 x8 x9 x10 x11 x12 (cvS (cellAt x1 (Int.toNat x3) 0)) != x3) then (k0 false x1 x2 x3 x4 x5 x6 x7 x8 x9 x10 x11 x12) else (g x0 x1 x2 (w64 (x3 + 1)) x4 x5 x6 x7 x8 x9 x10 x11 x12)) else (none)) else (g x0 x1 x2 (w64 (x3 + 1)) x4 x5 x6 x7 x8 x9 x10 x11 x12)) else (none)) else (k1 x0 x1 x2 x3 x4 x5 x6 x7 x8 x9 x10 x11 x12)
def l2 {R : Type} (N : Nat) (k0 : Bool → Row → Int → Int → Int → Row → Row → Row → Row → Int → Row → Row → Int → Option R) (k1 : Bool → Row → Int → Int → Int → Row → Row → Row → Row → Int → Row → Row → Int → Option R) : Nat → Bool → Row → Int → Int → Int → Row → Row → Row → Row → Int → Row → Row → Int → Option R
  | 0 => (fun _ _ _ _ _ _ _ _ _ _ _ _ _ => none)
  | n + 1 => (fun x0 x1 x2 x3 x4 x5 x6 x7 x8 x9 x10 x11 x12 => r2 N (l2 N k0 k1 n) k0 k1 x0 x1 x2 x3 x4 x5 x6 x7 x8 x9 x10 x11 x12)
def b {R : Type} (N : Nat) (kr : Bool → Option R) (p0_0 : Int) (p0_1 : Row) (p0_2 : Row) (p0_3 : Row) (p0_4 : Row) (p0_5 : Int) (p0_6 : Row) (p0_7 : Row) (p0_8 : Int) : Option R := l2 N (fun y13 y14 y15 y16 y17 y18 y19 y20 y21 y22 y23 y24 y25 => kr y13) (fun y26 y27 y28 y29 y30 y31 y32 y33 y34 y35 y36 y37 y38 => kr true) N false p0_6 (↑(List.length p0_6) : Int) 0 p0_0 p0_1 p0_2 p0_3 p0_4 p0_5 p0_6 p0_7 p0_8
theorem q2_bind {R S : Type} (f : R → Option S) (N : Nat) (k0 : Bool → Row → Int → Int → Int → Row → Row → Row → Row → Int → Row → Row → Int → Option R) (k1 : Bool → Row → Int → Int → Int → Row → Row → Row → Row → Int → Row → Row → Int → Option R) : ∀ n : Nat, (∀ (x0 : Bool) (x1 : Row) (x2 : Int) (x3 : Int) (x4 : Int) (x5 : Row) (x6 : Row) (x7 : Row) (x8 : Row) (x9 : Int) (x10 : Row) (x11 : Row) (x12 : Int), Option.bind (l2 N k0 k1 n x0 x1 x2 x3 x4 x5 x6 x7 x8 x9 x10 x11 x12) f = l2 N (fun y0 y1 y2 y3 y4 y5 y6 y7 y8 y9 y10 y11 y12 => (Option.bind (k0 y0 y1 y2 y3 y4 y5 y6 y7 y8 y9 y10 y11 y12) f)) (fun y0 y1 y2 y3 y4 y5 y6 y7 y8 y9 y10 y11 y12 => (Option.bind (k1 y0 y1 y2 y3 y4 y5 y6 y7 y8 y9 y10 y11 y12) f)) n x0 x1 x2 x3 x4 x5 x6 x7 x8 x9 x10 x11 x12) := by
  intro n
  induction n with
  | zero => exact (fun _ _ _ _ _ _ _ _ _ _ _ _ _ => rfl)
  | succ n ih =>
    intro x0 x1 x2 x3 x4 x5 x6 x7 x8 x9 x10 x11 x12
    simp only [l2, r2, Lib.cond_bind, Lib.some_bind, Lib.none_bind, ih]
theorem l2_bind {R S : Type} (f : R → Option S) (N : Nat) (k0 : Bool → Row → Int → Int → Int → Row → Row → Row → Row → Int → Row → Row → Int → Option R) (k1 : Bool → Row → Int → Int → Int → Row → Row → Row → Row → Int → Row → Row → Int → Option R) (n : Nat) (x0 : Bool) (x1 : Row) (x2 : Int) (x3 : Int) (x4 : Int) (x5 : Row) (x6 : Row) (x7 : Row) (x8 : Row) (x9 : Int) (x10 : Row) (x11 : Row) (x12 : Int) : Option.bind (l2 N k0 k1 n x0 x1 x2 x3 x4 x5 x6 x7 x8 x9 x10 x11 x12) f = l2 N (fun y0 y1 y2 y3 y4 y5 y6 y7 y8 y9 y10 y11 y12 => (Option.bind (k0 y0 y1 y2 y3 y4 y5 y6 y7 y8 y9 y10 y11 y12) f)) (fun y0 y1 y2 y3 y4 y5 y6 y7 y8 y9 y10 y11 y12 => (Option.bind (k1 y0 y1 y2 y3 y4 y5 y6 y7 y8 y9 y10 y11 y12) f)) n x0 x1 x2 x3 x4 x5 x6 x7 x8 x9 x10 x11 x12 := (q2_bind f N k0 k1 n) x0 x1 x2 x3 x4 x5 x6 x7 x8 x9 x10 x11 x12
theorem b_bind {R : Type} (N : Nat) (kr : Bool → Option R) (p0_0 : Int) (p0_1 : Row) (p0_2 : Row) (p0_3 : Row) (p0_4 : Row) (p0_5 : Int) (p0_6 : Row) (p0_7 : Row) (p0_8 : Int) : b N kr p0_0 p0_1 p0_2 p0_3 p0_4 p0_5 p0_6 p0_7 p0_8 = Option.bind (b N (fun r0 => some (r0)) p0_0 p0_1 p0_2 p0_3 p0_4 p0_5 p0_6 p0_7 p0_8) (fun p => kr p) := by
  unfold b; simp only [Lib.cond_bind, Lib.some_bind, Lib.none_bind, l2_bind]
def vo (p0_0 : Int) (p0_1 : Row) (p0_2 : Row) (p0_3 : Row) (p0_4 : Row) (p0_5 : Int) (p0_6 : Row) (p0_7 : Row) (p0_8 : Int) : Option (Bool) := b Lib.big (fun r0 => some (r0)) p0_0 p0_1 p0_2 p0_3 p0_4 p0_5 p0_6 p0_7 p0_8
def c (p0_0 : Int) (p0_1 : Row) (p0_2 : Row) (p0_3 : Row) (p0_4 : Row) (p0_5 : Int) (p0_6 : Row) (p0_7 : Row) (p0_8 : Int) : Bool := Option.isSome (vo p0_0 p0_1 p0_2 p0_3 p0_4 p0_5 p0_6 p0_7 p0_8)
def v (p0_0 : Int) (p0_1 : Row) (p0_2 : Row) (p0_3 : Row) (p0_4 : Row) (p0_5 : Int) (p0_6 : Row) (p0_7 : Row) (p0_8 : Int) : Bool := Option.getD (vo p0_0 p0_1 p0_2 p0_3 p0_4 p0_5 p0_6 p0_7 p0_8) (false)
theorem out (p0_0 : Int) (p0_1 : Row) (p0_2 : Row) (p0_3 : Row) (p0_4 : Row) (p0_5 : Int) (p0_6 : Row) (p0_7 : Row) (p0_8 : Int) {x : Bool} (h : vo p0_0 p0_1 p0_2 p0_3 p0_4 p0_5 p0_6 p0_7 p0_8 = some x) : c p0_0 p0_1 p0_2 p0_3 p0_4 p0_5 p0_6 p0_7 p0_8 = true ∧ v p0_0 p0_1 p0_2 p0_3 p0_4 p0_5 p0_6 p0_7 p0_8 = x := by
  unfold c v; rw [h]; exact ⟨rfl, rfl⟩
theorem b_eq {R : Type} (kr : Bool → Option R) (p0_0 : Int) (p0_1 : Row) (p0_2 : Row) (p0_3 : Row) (p0_4 : Row) (p0_5 : Int) (p0_6 : Row) (p0_7 : Row) (p0_8 : Int) (hc : c p0_0 p0_1 p0_2 p0_3 p0_4 p0_5 p0_6 p0_7 p0_8 = true) : ∃ N, b N kr p0_0 p0_1 p0_2 p0_3 p0_4 p0_5 p0_6 p0_7 p0_8 = kr (v p0_0 p0_1 p0_2 p0_3 p0_4 p0_5 p0_6 p0_7 p0_8) := by
  refine ⟨Lib.big, ?_⟩
  rw [b_bind]
  have e : vo p0_0 p0_1 p0_2 p0_3 p0_4 p0_5 p0_6 p0_7 p0_8 = some (v p0_0 p0_1 p0_2 p0_3 p0_4 p0_5 p0_6 p0_7 p0_8) := by
    unfold c at hc; unfold v
    cases h : vo p0_0 p0_1 p0_2 p0_3 p0_4 p0_5 p0_6 p0_7 p0_8 with
    | none => rw [h] at hc; cases hc
    | some x => rfl
  unfold vo at e
  rw [e]; rfl
end Go.FG.Pu.impl_OneEach

namespace Go.FG.Pu.impl_fetchesOk
def r2 {R : Type} (N : Nat) (g : Bool → Row → Int → Int → Int → Row → Row → Row → Row → Int → Row → Row → Int → Option R) (k0 : Bool → Row → Int → Int → Int → Row → Row → Row → Row → Int → Row → Row → Int → Option R) (k1 : Bool → Row → Int → Int → Int → Row → Row → Row → Row → Int → Row → Row → Int → Option R) (x0 : Bool) (x1 : Row) (x2 : Int) (x3 : Int) (x4 : Int) (x5 : Row) (x6 : Row) (x7 : Row) (x8 : Row) (x9 : Int) (x10 : Row) (x11 : Row) (x12 : Int) : Option R := bif (decide (x3 < x2)) then (bif (decide (0 ≤ x3) && decide (x3 < (↑(List.length x1) : Int))) then (bif (!Pu.impl_isKey.v (cvS (cellAt x1 (Int.toNat x3) 0))) then (k0 false x1 x2 x3 x4 x5 x6 x7 x8 x9 x10 x11 x12) else (bif (decide ((↑(ByteArray.size (cvS (cellAt x1 (Int.toNat x3) 1))) : Int) > 400)) then (k0 false x1 x2 x3 x4 x5 x6 x7 x8 x9 x10 x11 x12) else (bif (!Pu.impl_within.v (cvI (cellAt x1 (Int.toNat x3) (1 + 1))) 1 3) then (k0 false x1 x2 x3 x4 x5 x6 x7 x8 x9 x10 x11 x12) else (bif (!Pu.impl_within.v (cvI (cellAt x1 (Int.toNat x3) (1 + 1 + 1))) 0 999999) then (k0 false x1 x2 x3 x4 x5 x6 x7 x8 x9 x10 x11 x12) else (bif (!Pu.impl_within.v (cvI (cellAt x1 (Int.toNat x3) (1 + 1 + 1 + 1))) 0 x4) then (k0 false x1 x2 x3 x4 x5 x6 x7 x8 x9 x10 x11 x12) else (g x0 x1 x2 (w64 (x3 + 1)) x4 x5 x6 x7 x8 x9 x10 x11 x12)))))) else (none)) else (k1 x0 x1 x2 x3 x4 x5 x6 x7 x8 x9 x10 x11 x12)
def l2 {R : Type} (N : Nat) (k0 : Bool → Row → Int → Int → Int → Row → Row → Row → Row → Int → Row → Row → Int → Option R) (k1 : Bool → Row → Int → Int → Int → Row → Row → Row → Row → Int → Row → Row → Int → Option R) : Nat → Bool → Row → Int → Int → Int → Row → Row → Row → Row → Int → Row → Row → Int → Option R
  | 0 => (fun _ _ _ _ _ _ _ _ _ _ _ _ _ => none)
  | n + 1 => (fun x0 x1 x2 x3 x4 x5 x6 x7 x8 x9 x10 x11 x12 => r2 N (l2 N k0 k1 n) k0 k1 x0 x1 x2 x3 x4 x5 x6 x7 x8 x9 x10 x11 x12)
def b {R : Type} (N : Nat) (kr : Bool → Option R) (p0_0 : Int) (p0_1 : Row) (p0_2 : Row) (p0_3 : Row) (p0_4 : Row) (p0_5 : Int) (p0_6 : Row) (p0_7 : Row) (p0_8 : Int) : Option R := l2 N (fun y13 y14 y15 y16 y17 y18 y19 y20 y21 y22 y23 y24 y25 => kr y13) (fun y26 y27 y28 y29 y30 y31 y32 y33 y34 y35 y36 y37 y38 => bif (decide ((↑(List.length y36) : Int) ≤ 20)) then (bif (Pu.impl_OneEach.c y30 y31 y32 y33 y34 y35 y36 y37 y38) then (kr (Pu.impl_OneEach.v y30 y31 y32 y33 y34 y35 y36 y37 y38)) else (none)) else (kr false)) N false p0_6 (↑(List.length p0_6) : Int) 0 p0_0 p0_1 p0_2 p0_3 p0_4 p0_5 p0_6 p0_7 p0_8
theorem q2_bind {R S : Type} (f : R → Option S) (N : Nat) (k0 : Bool → Row → Int → Int → Int → Row → Row → Row → Row → Int → Row → Row → Int → Option R) (k1 : Bool → Row → Int → Int → Int → Row → Row → Row → Row → Int → Row → Row → Int → Option R) : ∀ n : Nat, (∀ (x0 : Bool) (x1 : Row) (x2 : Int) (x3 : Int) (x4 : Int) (x5 : Row) (x6 : Row) (x7 : Row) (x8 : Row) (x9 : Int) (x10 : Row) (x11 : Row) (x12 : Int), Option.bind (l2 N k0 k1 n x0 x1 x2 x3 x4 x5 x6 x7 x8 x9 x10 x11 x12) f = l2 N (fun y0 y1 y2 y3 y4 y5 y6 y7 y8 y9 y10 y11 y12 => (Option.bind (k0 y0 y1 y2 y3 y4 y5 y6 y7 y8 y9 y10 y11 y12) f)) (fun y0 y1 y2 y3 y4 y5 y6 y7 y8 y9 y10 y11 y12 => (Option.bind (k1 y0 y1 y2 y3 y4 y5 y6 y7 y8 y9 y10 y11 y12) f)) n x0 x1 x2 x3 x4 x5 x6 x7 x8 x9 x10 x11 x12) := by
  intro n
  induction n with
  | zero => exact (fun _ _ _ _ _ _ _ _ _ _ _ _ _ => rfl)
  | succ n ih =>
    intro x0 x1 x2 x3 x4 x5 x6 x7 x8 x9 x10 x11 x12
    simp only [l2, r2, Lib.cond_bind, Lib.some_bind, Lib.none_bind, ih]
theorem l2_bind {R S : Type} (f : R → Option S) (N : Nat) (k0 : Bool → Row → Int → Int → Int → Row → Row → Row → Row → Int → Row → Row → Int → Option R) (k1 : Bool → Row → Int → Int → Int → Row → Row → Row → Row → Int → Row → Row → Int → Option R) (n : Nat) (x0 : Bool) (x1 : Row) (x2 : Int) (x3 : Int) (x4 : Int) (x5 : Row) (x6 : Row) (x7 : Row) (x8 : Row) (x9 : Int) (x10 : Row) (x11 : Row) (x12 : Int) : Option.bind (l2 N k0 k1 n x0 x1 x2 x3 x4 x5 x6 x7 x8 x9 x10 x11 x12) f = l2 N (fun y0 y1 y2 y3 y4 y5 y6 y7 y8 y9 y10 y11 y12 => (Option.bind (k0 y0 y1 y2 y3 y4 y5 y6 y7 y8 y9 y10 y11 y12) f)) (fun y0 y1 y2 y3 y4 y5 y6 y7 y8 y9 y10 y11 y12 => (Option.bind (k1 y0 y1 y2 y3 y4 y5 y6 y7 y8 y9 y10 y11 y12) f)) n x0 x1 x2 x3 x4 x5 x6 x7 x8 x9 x10 x11 x12 := (q2_bind f N k0 k1 n) x0 x1 x2 x3 x4 x5 x6 x7 x8 x9 x10 x11 x12
theorem b_bind {R : Type} (N : Nat) (kr : Bool → Option R) (p0_0 : Int) (p0_1 : Row) (p0_2 : Row) (p0_3 : Row) (p0_4 : Row) (p0_5 : Int) (p0_6 : Row) (p0_7 : Row) (p0_8 : Int) : b N kr p0_0 p0_1 p0_2 p0_3 p0_4 p0_5 p0_6 p0_7 p0_8 = Option.bind (b N (fun r0 => some (r0)) p0_0 p0_1 p0_2 p0_3 p0_4 p0_5 p0_6 p0_7 p0_8) (fun p => kr p) := by
  unfold b; simp only [Lib.cond_bind, Lib.some_bind, Lib.none_bind, l2_bind]
def vo (p0_0 : Int) (p0_1 : Row) (p0_2 : Row) (p0_3 : Row) (p0_4 : Row) (p0_5 : Int) (p0_6 : Row) (p0_7 : Row) (p0_8 : Int) : Option (Bool) := b Lib.big (fun r0 => some (r0)) p0_0 p0_1 p0_2 p0_3 p0_4 p0_5 p0_6 p0_7 p0_8
def c (p0_0 : Int) (p0_1 : Row) (p0_2 : Row) (p0_3 : Row) (p0_4 : Row) (p0_5 : Int) (p0_6 : Row) (p0_7 : Row) (p0_8 : Int) : Bool := Option.isSome (vo p0_0 p0_1 p0_2 p0_3 p0_4 p0_5 p0_6 p0_7 p0_8)
def v (p0_0 : Int) (p0_1 : Row) (p0_2 : Row) (p0_3 : Row) (p0_4 : Row) (p0_5 : Int) (p0_6 : Row) (p0_7 : Row) (p0_8 : Int) : Bool := Option.getD (vo p0_0 p0_1 p0_2 p0_3 p0_4 p0_5 p0_6 p0_7 p0_8) (false)
theorem out (p0_0 : Int) (p0_1 : Row) (p0_2 : Row) (p0_3 : Row) (p0_4 : Row) (p0_5 : Int) (p0_6 : Row) (p0_7 : Row) (p0_8 : Int) {x : Bool} (h : vo p0_0 p0_1 p0_2 p0_3 p0_4 p0_5 p0_6 p0_7 p0_8 = some x) : c p0_0 p0_1 p0_2 p0_3 p0_4 p0_5 p0_6 p0_7 p0_8 = true ∧ v p0_0 p0_1 p0_2 p0_3 p0_4 p0_5 p0_6 p0_7 p0_8 = x := by
  unfold c v; rw [h]; exact ⟨rfl, rfl⟩
theorem b_eq {R : Type} (kr : Bool → Option R) (p0_0 : Int) (p0_1 : Row) (p0_2 : Row) (p0_3 : Row) (p0_4 : Row) (p0_5 : Int) (p0_6 : Row) (p0_7 : Row) (p0_8 : Int) (hc : c p0_0 p0_1 p0_2 p0_3 p0_4 p0_5 p0_6 p0_7 p0_8 = true) : ∃ N, b N kr p0_0 p0_1 p0_2 p0_3 p0_4 p0_5 p0_6 p0_7 p0_8 = kr (v p0_0 p0_1 p0_2 p0_3 p0_4 p0_5 p0_6 p0_7 p0_8) := by
  refine ⟨Lib.big, ?_⟩
  rw [b_bind]
  have e : vo p0_0 p0_1 p0_2 p0_3 p0_4 p0_5 p0_6 p0_7 p0_8 = some (v p0_0 p0_1 p0_2 p0_3 p0_4 p0_5 p0_6 p0_7 p0_8) := by
    unfold c at hc; unfold v
    cases h : vo p0_0 p0_1 p0_2 p0_3 p0_4 p0_5 p0_6 p0_7 p0_8 with
    | none => rw [h] at hc; cases hc
    | some x => rfl
  unfold vo at e
  rw [e]; rfl
end Go.FG.Pu.impl_fetchesOk

namespace Go.FG.Pu.impl_clientsOk
def r2 {R : Type} (N : Nat) (g : Bool → Row → Int → Int → Int → Row → Row → Row → Row → Int → Row → Row → Int → Option R) (k0 : Bool → Row → Int → Int → Int → Row → Row → Row → Row → Int → Row → Row → Int → Option R) (k1 : Bool → Row → Int → Int → Int → Row → Row → Row → Row → Int → Row → Row → Int → Option R) (x0 : Bool) (x1 : Row) (x2 : Int) (x3 : Int) (x4 : Int) (x5 : Row) (x6 : Row) (x7 : Row) (x8 : Row) (x9 : Int) (x10 : Row) (x11 : Row) (x12 : Int) : Option R := bif (decide (x3 < x2)) then (bif (decide (0 ≤ x3) && decide (x3 < (↑(List.length x1) : Int))) then (bif (!Pu.impl_within.v (cvI (cellAt x1 (Int.toNat x3) 0)) 1 9) then (k0 false x1 x2 x3 x4 x5 x6 x7 x8 x9 x10 x11 x12) else (bif (decide (x3 > 0)) then (bif (decide (0 ≤ w64 (x3 - 1)) && decide (w64 (x3 - 1) < (↑(List.length x11) : Int))) then (bif (decide (cvI (cellAt x11 (Int.toNat (w64 (x3 - 1))) 0) ≥ cvI (cellAt x1 (Int.toNat x3) 0))) then (k0 false x1 x2 x3 x4 x5 x6 x7 x8 x9 x10 x11 x12) else (bif (!Pu.impl_isKey.v (cvS (cellAt x1 (Int.toNat x3) 1))) then (k0 false x1 x2 x3 x4 x5 x6 x7 x8 x9 x10 x11 x12) else (bif (!Pu.impl_within.v (cvI (cellAt x1 (Int.toNat x3) (1 + 1 + 1 + 1))) 1 3) then (k0 false x1 x2 x3 x4 x5 x6 x7 x8 x9 x10 x11 x12) else (bif (!Pu.impl_within.v (cvI (cellAt x1 (Int.toNat x3) (1 + 1))) 0 (↑(List.length x10) : Int)) then (k0 false x1 x2 x3 x4 x5 x6 x7 x8 x9 x10 x11 x12) else (bif (decide ((↑(ByteArray.size (cvS (cellAt x1 (Int.toNat x3) (1 + 1 + 1 + 1 + 1)))) : Int) > 400)) then (k0 false x1 x2 x3 x4 x5 x6 x7 x8 x9 x10 x11 x12) else (bif (!Pu.impl_within.v (cvI (cellAt x1 (Int.toNat x3) (1 + 1 + 1))) 0 x4) then (k0 false x1 x2 x3 x4 x5 x6 x7 x8 x9 x10 x11 x12) else (bif (decide (cvI (cellAt x1 (Int.toNat x3) (1 + 1 + 1 + 1 + 1 + 1)) < 0)) then (k0 false x1 x2 x3 x4 x5 x6 x7 x8 x9 x10 x11 x12) else (g x0 x1 x2 (w64 (x3 + 1)) x4 x5 x6 x7 x8 x9 x10 x11 x12)))))))) else (none)) else (bif (!Pu.impl_isKey.v (cvS (cellAt x1 (Int.toNat x3) 1))) then (k0 false x1 x2 x3 x4 x5 x6 x7 x8 x9 x10 x11 x12) else (bif (!Pu.impl_within.v (cvI (cellAt x1 (Int.toNat x3) (1 + 1 + 1 + 1))) 1 3) then (k0 false x1 x2 x3 x4 x5 x6 x7 x8 x9 x10 x11 x12) else (bif (!Pu.impl_within.v (cvI (cellAt x1 (Int.toNat x3) (1 + 1))) 0 (↑(List.length x10) : Int)) then (k0 false x1 x2 x3 x4 x5 x6 x7 x8 x9 x10 x11 x12) else (bif (decide ((↑(ByteArray.size (cvS (cellAt x1 (Int.toNat x3) (1 + 1 + 1 + 1 + 1)))) : Int) > 400)) then (k0 false x1 x2 x3 x4 x5 x6 x7 x8 x9 x10 x11 x12) else (bif (!Pu.impl_within.v (cvI (cellAt x1 (Int.toNat x3) (1 + 1 + 1))) 0 x4) then (k0 false x1 x2 x3 x4 x5 x6 x7 x8 x9 x10 x11 x12) else (bif (decide (cvI (cellAt x1 (Int.toNat x3) (1 + 1 + 1 + 1 + 1 + 1)) < 0)) then (k0 false x1 x2 x3 x4 x5 x6 x7 x8 x9 x10 x11 x12) else (g x0 x1 x2 (w64 (x3 + 1)) x4 x5 x6 x7 x8 x9 x10 x11 x12))))))))) else (none)) else (k1 x0 x1 x2 x3 x4 x5 x6 x7 x8 x9 x10 x11 x12)
def l2 {R : Type} (N : Nat) (k0 : Bool → Row → Int → Int → Int → Row → Row → Row → Row → Int → Row → Row → Int → Option R) (k1 : Bool → Row → Int → Int → Int → Row → Row → Row → Row → Int → Row → Row → Int → Option R) : Nat → Bool → Row → Int → Int → Int → Row → Row → Row → Row → Int → Row → Row → Int → Option R
  | 0 => (fun _ _ _ _ _ _ _ _ _ _ _ _ _ => none)
  | n + 1 => (fun x0 x1 x2 x3 x4 x5 x6 x7 x8 x9 x10 x11 x12 => r2 N (l2 N k0 k1 n) k0 k1 x0 x1 x2 x3 x4 x5 x6 x7 x8 x9 x10 x11 x12)
def b {R : Type} (N : Nat) (kr : Bool → Option R) (p0_0 : Int) (p0_1 : Row) (p0_2 : Row) (p0_3 : Row) (p0_4 : Row) (p0_5 : Int) (p0_6 : Row) (p0_7 : Row) (p0_8 : Int) : Option R := l2 N (fun y13 y14 y15 y16 y17 y18 y19 y20 y21 y22 y23 y24 y25 => kr y13) (fun y26 y27 y28 y29 y30 y31 y32 y33 y34 y35 y36 y37 y38 => kr (decide ((↑(List.length y37) : Int) ≤ 6))) N false p0_7 (↑(List.length p0_7) : Int) 0 p0_0 p0_1 p0_2 p0_3 p0_4 p0_5 p0_6 p0_7 p0_8
theorem q2_bind {R S : Type} (f : R → Option S) (N : Nat) (k0 : Bool → Row → Int → Int → Int → Row → Row → Row → Row → Int → Row → Row → Int → Option R) (k1 : Bool → Row → Int → Int → Int → Row → Row → Row → Row → Int → Row → Row → Int → Option R) : ∀ n : Nat, (∀ (x0 : Bool) (x1 : Row) (x2 : Int) (x3 : Int) (x4 : Int) (x5 : Row) (x6 : Row) (x7 : Row) (x8 : Row) (x9 : Int) (x10 : Row) (x11 : Row) (x12 : Int), Option.bind (l2 N k0 k1 n x0 x1 x2 x3 x4 x5 x6 x7 x8 x9 x10 x11 x12) f = l2 N (fun y0 y1 y2 y3 y4 y5 y6 y7 y8 y9 y10 y11 y12 => (Option.bind (k0 y0 y1 y2 y3 y4 y5 y6 y7 y8 y9 y10 y11 y12) f)) (fun y0 y1 y2 y3 y4 y5 y6 y7 y8 y9 y10 y11 y12 => (Option.bind (k1 y0 y1 y2 y3 y4 y5 y6 y7 y8 y9 y10 y11 y12) f)) n x0 x1 x2 x3 x4 x5 x6 x7 x8 x9 x10 x11 x12) := by
  intro n
  induction n with
  | zero => exact (fun _ _ _ _ _ _ _ _ _ _ _ _ _ => rfl)
  | succ n ih =>
    intro x0 x1 x2 x3 x4 x5 x6 x7 x8 x9 x10 x11 x12
    simp only [l2, r2, Lib.cond_bind, Lib.some_bind, Lib.none_bind, ih]
theorem l2_bind {R S : Type} (f : R → Option S) (N : Nat) (k0 : Bool → Row → Int → Int → Int → Row → Row → Row → Row → Int → Row → Row → Int → Option R) (k1 : Bool → Row → Int → Int → Int → Row → Row → Row → Row → Int → Row → Row → Int → Option R) (n : Nat) (x0 : Bool) (x1 : Row) (x2 : Int) (x3 : Int) (x4 : Int) (x5 : Row) (x6 : Row) (x7 : Row) (x8 : Row) (x9 : Int) (x10 : Row) (x11 : Row) (x12 : Int) : Option.bind (l2 N k0 k1 n x0 x1 x2 x3 x4 x5 x6 x7 x8 x9 x10 x11 x12) f = l2 N (fun y0 y1 y2 y3 y4 y5 y6 y7 y8 y9 y10 y11 y12 => (Option.bind (k0 y0 y1 y2 y3 y4 y5 y6 y7 y8 y9 y10 y11 y12) f)) (fun y0 y1 y2 y3 y4 y5 y6 y7 y8 y9 y10 y11 y12 => (Option.bind (k1 y0 y1 y2 y3 y4 y5 y6 y7 y8 y9 y10 y11 y12) f)) n x0 x1 x2 x3 x4 x5 x6 x7 x8 x9 x10 x11 x12 := (q2_bind f N k0 k1 n) x0 x1 x2 x3 x4 x5 x6 x7 x8 x9 x10 x11 x12
theorem b_bind {R : Type} (N : Nat) (kr : Bool → Option R) (p0_0 : Int) (p0_1 : Row) (p0_2 : Row) (p0_3 : Row) (p0_4 : Row) (p0_5 : Int) (p0_6 : Row) (p0_7 : Row) (p0_8 : Int) : b N kr p0_0 p0_1 p0_2 p0_3 p0_4 p0_5 p0_6 p0_7 p0_8 = Option.bind (b N (fun r0 => some (r0)) p0_0 p0_1 p0_2 p0_3 p0_4 p0_5 p0_6 p0_7 p0_8) (fun p => kr p) := by
  unfold b; simp only [Lib.cond_bind, Lib.some_bind, Lib.none_bind, l2_bind]
def vo (p0_0 : Int) (p0_1 : Row) (p0_2 : Row) (p0_3 : Row) (p0_4 : Row) (p0_5 : Int) (p0_6 : Row) (p0_7 : Row) (p0_8 : Int) : Option (Bool) := b Lib.big (fun r0 => some (r0)) p0_0 p0_1 p0_2 p0_3 p0_4 p0_5 p0_6 p0_7 p0_8
def c (p0_0 : Int) (p0_1 : Row) (p0_2 : Row) (p0_3 : Row) (p0_4 : Row) (p0_5 : Int) (p0_6 : Row) (p0_7 : Row) (p0_8 : Int) : Bool := Option.isSome (vo p0_0 p0_1 p0_2 p0_3 p0_4 p0_5 p0_6 p0_7 p0_8)
def v (p0_0 : Int) (p0_1 : Row) (p0_2 : Row) (p0_3 : Row) (p0_4 : Row) (p0_5 : Int) (p0_6 : Row) (p0_7 : Row) (p0_8 : Int) : Bool := Option.getD (vo p0_0 p0_1 p0_2 p0_3 p0_4 p0_5 p0_6 p0_7 p0_8) (false)
theorem out (p0_0 : Int) (p0_1 : Row) (p0_2 : Row) (p0_3 : Row) (p0_4 : Row) (p0_5 : Int) (p0_6 : Row) (p0_7 : Row) (p0_8 : Int) {x : Bool} (h : vo p0_0 p0_1 p0_2 p0_3 p0_4 p0_5 p0_6 p0_7 p0_8 = some x) : c p0_0 p0_1 p0_2 p0_3 p0_4 p0_5 p0_6 p0_7 p0_8 = true ∧ v p0_0 p0_1 p0_2 p0_3 p0_4 p0_5 p0_6 p0_7 p0_8 = x := by
  unfold c v; rw [h]; exact ⟨rfl, rfl⟩
theorem b_eq {R : Type} (kr : Bool → Option R) (p0_0 : Int) (p0_1 : Row) (p0_2 : Row) (p0_3 : Row) (p0_4 : Row) (p0_5 : Int) (p0_6 : Row) (p0_7 : Row) (p0_8 : Int) (hc : c p0_0 p0_1 p0_2 p0_3 p0_4 p0_5 p0_6 p0_7 p0_8 = true) : ∃ N, b N kr p0_0 p0_1 p0_2 p0_3 p0_4 p0_5 p0_6 p0_7 p0_8 = kr (v p0_0 p0_1 p0_2 p0_3 p0_4 p0_5 p0_6 p0_7 p0_8) := by
  refine ⟨Lib.big, ?_⟩
  rw [b_bind]
  have e : vo p0_0 p0_1 p0_2 p0_3 p0_4 p0_5 p0_6 p0_7 p0_8 = some (v p0_0 p0_1 p0_2 p0_3 p0_4 p0_5 p0_6 p0_7 p0_8) := by
    unfold c at hc; unfold v
    cases h : vo p0_0 p0_1 p0_2 p0_3 p0_4 p0_5 p0_6 p0_7 p0_8 with
    | none => rw [h] at hc; cases hc
    | some x => rfl
  unfold vo at e
  rw [e]; rfl
end Go.FG.Pu.impl_clientsOk

namespace Go.FG.Pu.impl_ProxyOk
def b {R : Type} (kr : Bool → Option R) (p0_0 : Int) (p0_1 : Row) (p0_2 : Row) (p0_3 : Row) (p0_4 : Row) (p0_5 : Int) (p0_6 : Row) (p0_7 : Row) (p0_8 : Int) : Option R := bif (Pu.impl_within.v p0_0 1 1000000000) then (bif (Pu.impl_entriesOk.c p0_0 p0_1 p0_2 p0_3 p0_4 p0_5 p0_6 p0_7 p0_8) then (bif (Pu.impl_entriesOk.v p0_0 p0_1 p0_2 p0_3 p0_4 p0_5 p0_6 p0_7 p0_8) then (bif (Pu.impl_fetchesOk.c p0_0 p0_1 p0_2 p0_3 p0_4 p0_5 p0_6 p0_7 p0_8) then (bif (Pu.impl_fetchesOk.v p0_0 p0_1 p0_2 p0_3 p0_4 p0_5 p0_6 p0_7 p0_8) then (bif (Pu.impl_clientsOk.c p0_0 p0_1 p0_2 p0_3 p0_4 p0_5 p0_6 p0_7 p0_8) then (bif (Pu.impl_clientsOk.v p0_0 p0_1 p0_2 p0_3 p0_4 p0_5 p0_6 p0_7 p0_8) then (kr (Pu.impl_isNumber.v p0_8)) else (kr false)) else (none)) else (kr false)) else (none)) else (kr false)) else (none)) else (kr false)
theorem b_bind {R : Type} (kr : Bool → Option R) (p0_0 : Int) (p0_1 : Row) (p0_2 : Row) (p0_3 : Row) (p0_4 : Row) (p0_5 : Int) (p0_6 : Row) (p0_7 : Row) (p0_8 : Int) : b kr p0_0 p0_1 p0_2 p0_3 p0_4 p0_5 p0_6 p0_7 p0_8 = Option.bind (b (fun r0 => some (r0)) p0_0 p0_1 p0_2 p0_3 p0_4 p0_5 p0_6 p0_7 p0_8) (fun p => kr p) := by
  unfold b; simp only [Lib.cond_bind, Lib.some_bind, Lib.none_bind]
def vo (p0_0 : Int) (p0_1 : Row) (p0_2 : Row) (p0_3 : Row) (p0_4 : Row) (p0_5 : Int) (p0_6 : Row) (p0_7 : Row) (p0_8 : Int) : Option (Bool) := b (fun r0 => some (r0)) p0_0 p0_1 p0_2 p0_3 p0_4 p0_5 p0_6 p0_7 p0_8
def c (p0_0 : Int) (p0_1 : Row) (p0_2 : Row) (p0_3 : Row) (p0_4 : Row) (p0_5 : Int) (p0_6 : Row) (p0_7 : Row) (p0_8 : Int) : Bool := Option.isSome (vo p0_0 p0_1 p0_2 p0_3 p0_4 p0_5 p0_6 p0_7 p0_8)
def v (p0_0 : Int) (p0_1 : Row) (p0_2 : Row) (p0_3 : Row) (p0_4 : Row) (p0_5 : Int) (p0_6 : Row) (p0_7 : Row) (p0_8 : Int) : Bool := Option.getD (vo p0_0 p0_1 p0_2 p0_3 p0_4 p0_5 p0_6 p0_7 p0_8) (false)
theorem out (p0_0 : Int) (p0_1 : Row) (p0_2 : Row) (p0_3 : Row) (p0_4 : Row) (p0_5 : Int) (p0_6 : Row) (p0_7 : Row) (p0_8 : Int) {x : Bool} (h : vo p0_0 p0_1 p0_2 p0_3 p0_4 p0_5 p0_6 p0_7 p0_8 = some x) : c p0_0 p0_1 p0_2 p0_3 p0_4 p0_5 p0_6 p0_7 p0_8 = true ∧ v p0_0 p0_1 p0_2 p0_3 p0_4 p0_5 p0_6 p0_7 p0_8 = x := by
  unfold c v; rw [h]; exact ⟨rfl, rfl⟩
theorem b_eq {R : Type} (kr : Bool → Option R) (p0_0 : Int) (p0_1 : Row) (p0_2 : Row) (p0_3 : Row) (p0_4 : Row) (p0_5 : Int) (p0_6 : Row) (p0_7 : Row) (p0_8 : Int) (hc : c p0_0 p0_1 p0_2 p0_3 p0_4 p0_5 p0_6 p0_7 p0_8 = true) : b kr p0_0 p0_1 p0_2 p0_3 p0_4 p0_5 p0_6 p0_7 p0_8 = kr (v p0_0 p0_1 p0_2 p0_3 p0_4 p0_5 p0_6 p0_7 p0_8) := by
  rw [b_bind]
  have e : vo p0_0 p0_1 p0_2 p0_3 p0_4 p0_5 p0_6 p0_7 p0_8 = some (v p0_0 p0_1 p0_2 p0_3 p0_4 p0_5 p0_6 p0_7 p0_8) := by
    unfold c at hc; unfold v
    cases h : vo p0_0 p0_1 p0_2 p0_3 p0_4 p0_5 p0_6 p0_7 p0_8 with
    | none => rw [h] at hc; cases hc
    | some x => rfl
  unfold vo at e
  rw [e]; rfl
end Go.FG.Pu.impl_ProxyOk

namespace Go.FG.Pu.laws_eqEntry
def b {R : Type} (kr : Bool → Option R) (a0_0 : ByteArray) (a0_1 : Int) (a0_2 : Int) (a0_3 : ByteArray) (b1_0 : ByteArray) (b1_1 : Int) (b1_2 : Int) (b1_3 : ByteArray) : Option R := bif (!List.beq (ByteArray.toList a0_0) (ByteArray.toList b1_0)) then (kr false) else (bif (a0_1 != b1_1) then (kr false) else (bif (a0_2 != b1_2) then (kr false) else (bif (!List.beq (ByteArray.toList a0_3) (ByteArray.toList b1_3)) then (kr false) else (kr true))))
def v (a0_0 : ByteArray) (a0_1 : Int) (a0_2 : Int) (a0_3 : ByteArray) (b1_0 : ByteArray) (b1_1 : Int) (b1_2 : Int) (b1_3 : ByteArray) : Bool := bif (!List.beq (ByteArray.toList a0_0) (ByteArray.toList b1_0)) then ((false)) else (bif (a0_1 != b1_1) then ((false)) else (bif (a0_2 != b1_2) then ((false)) else (bif (!List.beq (ByteArray.toList a0_3) (ByteArray.toList b1_3)) then ((false)) else ((true)))))
theorem b_eq {R : Type} (kr : Bool → Option R) (a0_0 : ByteArray) (a0_1 : Int) (a0_2 : Int) (a0_3 : ByteArray) (b1_0 : ByteArray) (b1_1 : Int) (b1_2 : Int) (b1_3 : ByteArray) : b kr a0_0 a0_1 a0_2 a0_3 b1_0 b1_1 b1_2 b1_3 = kr (v a0_0 a0_1 a0_2 a0_3 b1_0 b1_1 b1_2 b1_3) := by
  first | rfl | (unfold b v; simp only [Bool.cond_eq_ite]; (repeat' split) <;> rfl)
end Go.FG.Pu.laws_eqEntry

namespace Go.FG.Pu.laws_eqEntryS
def r4 {R : Type} (N : Nat) (g : Row → Row → Bool → Int → Option R) (k0 : Row → Row → Bool → Int → Option R) (k1 : Row → Row → Bool → Int → Option R) (x0 : Row) (x1 : Row) (x2 : Bool) (x3 : Int) : Option R := bif (decide (x3 < (↑(List.length x0) : Int))) then (bif (decide (0 ≤ x3) && decide (x3 < (↑(List.length x0) : Int))) then (bif (decide (0 ≤ x3) && decide (x3 < (↑(List.length x1) : Int))) then (bif (!Pu.laws_eqEntry.v (cvS (cellAt x0 (Int.toNat x3) 0)) (cvI (cellAt x0 (Int.toNat x3) 1)) (cvI (cellAt x0 (Int.toNat x3) (1 + 1))) (cvS (cellAt x0 (Int.toNat x3) (1 + 1 + 1))) (cvS (cellAt x1 (Int.toNat x3) 0)) (cvI (cellAt x1 (Int.toNat x3) 1)) (cvI (cellAt x1 (Int.toNat x3) (1 + 1))) (cvS (cellAt x1 (Int.toNat x3) (1 + 1 + 1)))) then (k0 x0 x1 false x3) else (g x0 x1 x2 (w64 (x3 + 1)))) else (none)) else (none)) else (k1 x0 x1 x2 x3)
def l4 {R : Type} (N : Nat) (k0 : Row → Row → Bool → Int → Option R) (k1 : Row → Row → Bool → Int → Option R) : Nat → Row → Row → Bool → Int → Option R
  | 0 => (fun _ _ _ _ => none)
  | n + 1 => (fun x0 x1 x2 x3 => r4 N (l4 N k0 k1 n) k0 k1 x0 x1 x2 x3)
def b {R : Type} (N : Nat) (kr : Bool → Option R) (a0 : Row) (b1 : Row) : Option R := bif ((↑(List.length a0) : Int) != (↑(List.length b1) : Int)) then (kr false) else (l4 N (fun y4 y5 y6 y7 => kr y6) (fun y8 y9 y10 y11 => kr true) N a0 b1 false 0)
theorem q4_bind {R S : Type} (f : R → Option S) (N : Nat) (k0 : Row → Row → Bool → Int → Option R) (k1 : Row → Row → Bool → Int → Option R) : ∀ n : Nat, (∀ (x0 : Row) (x1 : Row) (x2 : Bool) (x3 : Int), Option.bind (l4 N k0 k1 n x0 x1 x2 x3) f = l4 N (fun y0 y1 y2 y3 => (Option.bind (k0 y0 y1 y2 y3) f)) (fun y0 y1 y2 y3 => (Option.bind (k1 y0 y1 y2 y3) f)) n x0 x1 x2 x3) := by
  intro n
  induction n with
  | zero => exact (fun _ _ _ _ => rfl)
  | succ n ih =>
    intro x0 x1 x2 x3
    simp only [l4, r4, Lib.cond_bind, Lib.some_bind, Lib.none_bind, ih]
theorem l4_bind {R S : Type} (f : R → Option S) (N : Nat) (k0 : Row → Row → Bool → Int → Option R) (k1 : Row → Row → Bool → Int → Option R) (n : Nat) (x0 : Row) (x1 : Row) (x2 : Bool) (x3 : Int) : Option.bind (l4 N k0 k1 n x0 x1 x2 x3) f = l4 N (fun y0 y1 y2 y3 => (Option.bind (k0 y0 y1 y2 y3) f)) (fun y0 y1 y2 y3 => (Option.bind (k1 y0 y1 y2 y3) f)) n x0 x1 x2 x3 := (q4_bind f N k0 k1 n) x0 x1 x2 x3
theorem b_bind {R : Type} (N : Nat) (kr : Bool → Option R) (a0 : Row) (b1 : Row) : b N kr a0 b1 = Option.bind (b N (fun r0 => some (r0)) a0 b1) (fun p => kr p) := by
  unfold b; simp only [Lib.cond_bind, Lib.some_bind, Lib.none_bind, l4_bind]
def vo (a0 : Row) (b1 : Row) : Option (Bool) := b Lib.big (fun r0 => some (r0)) a0 b1
def c (a0 : Row) (b1 : Row) : Bool := Option.isSome (vo a0 b1)
def v (a0 : Row) (b1 : Row) : Bool := Option.getD (vo a0 b1) (false)
theorem out (a0 : Row) (b1 : Row) {x : Bool} (h : vo a0 b1 = some x) : c a0 b1 = true ∧ v a0 b1 = x := by
  unfold c v; rw [h]; exact ⟨rfl, rfl⟩
theorem b_eq {R : Type} (kr : Bool → Option R) (a0 : Row) (b1 : Row) (hc : c a0 b1 = true) : ∃ N, b N kr a0 b1 = kr (v a0 b1) := by
  refine ⟨Lib.big, ?_⟩
  rw [b_bind]
  have e : vo a0 b1 = some (v a0 b1) := by
    unfold c at hc; unfold v
    cases h : vo a0 b1 with
    | none => rw [h] at hc; cases hc
    | some x => rfl
  unfold vo at e
  rw [e]; rfl
end Go.FG.Pu.laws_eqEntryS

namespace Go.FG.Pu.laws_eqStringS
def r4 {R : Type} (N : Nat) (g : Row → Row → Bool → Int → Option R) (k0 : Row → Row → Bool → Int → Option R) (k1 : Row → Row → Bool → Int → Option R) (x0 : Row) (x1 : Row) (x2 : Bool) (x3 : Int) : Option R := bif (decide (x3 < (↑(List.length x0) : Int))) then (bif (decide (0 ≤ x3) && decide (x3 < (↑(List.length x0) : Int))) then (bif (decide (0 ≤ x3) && decide (x3 < (↑(List.length x1) : Int))) then (bif (!List.beq (ByteArray.toList (cvS (cellAt x0 (Int.toNat x3) 0))) (ByteArray.toList (cvS (cellAt x1 (Int.toNat x3) 0)))) then (k0 x0 x1 false x3) else (g x0 x1 x2 (w64 (x3 + 1)))) else (none)) else (none)) else (k1 x0 x1 x2 x3)
def l4 {R : Type} (N : Nat) (k0 : Row → Row → Bool → Int → Option R) (k1 : Row → Row → Bool → Int → Option R) : Nat → Row → Row → Bool → Int → Option R
  | 0 => (fun _ _ _ _ => none)
  | n + 1 => (fun x0 x1 x2 x3 => r4 N (l4 N k0 k1 n) k0 k1 x0 x1 x2 x3)
def b {R : Type} (N : Nat) (kr : Bool → Option R) (a0 : Row) (b1 : Row) : Option R := bif ((↑(List.length a0) : Int) != (↑(List.length b1) : Int)) then (kr false) else (l4 N (fun y4 y5 y6 y7 => kr y6) (fun y8 y9 y10 y11 => kr true) N a0 b1 false 0)
theorem q4_bind {R S : Type} (f : R → Option S) (N : Nat) (k0 : Row → Row → Bool → Int → Option R) (k1 : Row → Row → Bool → Int → Option R) : ∀ n : Nat, (∀ (x0 : Row) (x1 : Row) (x2 : Bool) (x3 : Int), Option.bind (l4 N k0 k1 n x0 x1 x2 x3) f = l4 N (fun y0 y1 y2 y3 => (Option.bind (k0 y0 y1 y2 y3) f)) (fun y0 y1 y2 y3 => (Option.bind (k1 y0 y1 y2 y3) f)) n x0 x1 x2 x3) := by
  intro n
  induction n with
  | zero => exact (fun _ _ _ _ => rfl)
  | succ n ih =>
    intro x0 x1 x2 x3
    simp only [l4, r4, Lib.cond_bind, Lib.some_bind, Lib.none_bind, ih]
theorem l4_bind {R S : Type} (f : R → Option S) (N : Nat) (k0 : Row → Row → Bool → Int → Option R) (k1 : Row → Row → Bool → Int → Option R) (n : Nat) (x0 : Row) (x1 : Row) (x2 : Bool) (x3 : Int) : Option.bind (l4 N k0 k1 n x0 x1 x2 x3) f = l4 N (fun y0 y1 y2 y3 => (Option.bind (k0 y0 y1 y2 y3) f)) (fun y0 y1 y2 y3 => (Option.bind (k1 y0 y1 y2 y3) f)) n x0 x1 x2 x3 := (q4_bind f N k0 k1 n) x0 x1 x2 x3
theorem b_bind {R : Type} (N : Nat) (kr : Bool → Option R) (a0 : Row) (b1 : Row) : b N kr a0 b1 = Option.bind (b N (fun r0 => some (r0)) a0 b1) (fun p => kr p) := by
  unfold b; simp only [Lib.cond_bind, Lib.some_bind, Lib.none_bind, l4_bind]
def vo (a0 : Row) (b1 : Row) : Option (Bool) := b Lib.big (fun r0 => some (r0)) a0 b1
def c (a0 : Row) (b1 : Row) : Bool := Option.isSome (vo a0 b1)
def v (a0 : Row) (b1 : Row) : Bool := Option.getD (vo a0 b1) (false)
theorem out (a0 : Row) (b1 : Row) {x : Bool} (h : vo a0 b1 = some x) : c a0 b1 = true ∧ v a0 b1 = x := by
  unfold c v; rw [h]; exact ⟨rfl, rfl⟩
theorem b_eq {R : Type} (kr : Bool → Option R) (a0 : Row) (b1 : Row) (hc : c a0 b1 = true) : ∃ N, b N kr a0 b1 = kr (v a0 b1) := by
  refine ⟨Lib.big, ?_⟩
  rw [b_bind]
  have e : vo a0 b1 = some (v a0 b1) := by
    unfold c at hc; unfold v
    cases h : vo a0 b1 with
    | none => rw [h] at hc; cases hc
    | some x => rfl
  unfold vo at e
  rw [e]; rfl
end Go.FG.Pu.laws_eqStringS

namespace Go.FG.Pu.laws_eqIntS
def r4 {R : Type} (N : Nat) (g : Row → Row → Bool → Int → Option R) (k0 : Row → Row → Bool → Int → Option R) (k1 : Row → Row → Bool → Int → Option R) (x0 : Row) (x1 : Row) (x2 : Bool) (x3 : Int) : Option R := bif (decide (x3 < (↑(List.length x0) : Int))) then (bif (decide (0 ≤ x3) && decide (x3 < (↑(List.length x0) : Int))) then (bif (decide (0 ≤ x3) && decide (x3 < (↑(List.length x1) : Int))) then (bif (cvI (cellAt x0 (Int.toNat x3) 0) != cvI (cellAt x1 (Int.toNat x3) 0)) then (k0 x0 x1 false x3) else (g x0 x1 x2 (w64 (x3 + 1)))) else (none)) else (none)) else (k1 x0 x1 x2 x3)
def l4 {R : Type} (N : Nat) (k0 : Row → Row → Bool → Int → Option R) (k1 : Row → Row → Bool → Int → Option R) : Nat → Row → Row → Bool → Int → Option R
  | 0 => (fun _ _ _ _ => none)
  | n + 1 => (fun x0 x1 x2 x3 => r4 N (l4 N k0 k1 n) k0 k1 x0 x1 x2 x3)
def b {R : Type} (N : Nat) (kr : Bool → Option R) (a0 : Row) (b1 : Row) : Option R := bif ((↑(List.length a0) : Int) != (↑(List.length b1) : Int)) then (kr false) else (l4 N (fun y4 y5 y6 y7 => kr y6) (fun y8 y9 y10 y11 => kr true) N a0 b1 false 0)
def v (a0 : Row) (b1 : Row) : Bool := (a0.length == b1.length) && (List.range a0.length).all fun i => !(cvI (cellAt a0 i 0) != cvI (cellAt b1 i 0))
def fr (a b : Row) (i : Nat) : Bool := (List.range' i (a.length - i)).all fun i => !(cvI (cellAt a i 0) != cvI (cellAt b i 0))
theorem run {R : Type} (N : Nat) (kr : Bool → Option R) (a b : Row) (hl : a.length = b.length) (ha : FitR a) : ∀ n (i : Nat), i ≤ a.length → a.length - i < n → l4 N (fun _ _ y _ => kr y) (fun _ _ _ _ => kr true) n a b false i = kr (fr a b i) := by
  refine Lib.loop_gen (fun n (i : Nat) => l4 N (fun _ _ y _ => kr y) (fun _ _ _ _ => kr true) n a b false i) (fun i => a.length - i) (fun i => i ≤ a.length) (fun i => kr (fr a b i)) (fun n i hi => ?_)
  simp only [l4, r4, Lib.dlt, Lib.dle0, Lib.toN, Bool.true_and]
  by_cases h : i < a.length
  · have e : a.length - i = (a.length - (i + 1)) + 1 := by omega
    have hf : fr a b i = (!(cvI (cellAt a i 0) != cvI (cellAt b i 0)) && fr a b (i + 1)) := by
      unfold fr; rw [e, List.range'_succ, List.all_cons]
    have hb : i < b.length := by omega
    simp only [h, hb, decide_true, cond_true, Lib.w64_s h ha.1]
    cases hv : (cvI (cellAt a i 0) != cvI (cellAt b i 0)) with
    | false => exact .inr ⟨i + 1, h, by omega, by rw [hf, hv]; rfl, rfl⟩
    | true => left; rw [hf, hv]; rfl
  · left
    have : a.length - i = 0 := by omega
    simp only [h, decide_false, cond_false]
    unfold fr; rw [this]; rfl
theorem b_eq {R : Type} (kr : Bool → Option R) (a0 : Row) (b1 : Row) (f0 : FitR a0) (f1 : FitR b1) : ∃ N, b N kr a0 b1 = kr (v a0 b1) := by
  refine ⟨a0.length + 1, ?_⟩
  unfold b v
  by_cases hl : a0.length = b1.length
  · have e : ((a0.length : Int) != (b1.length : Int)) = false := by simp [hl]
    rw [e, cond_false]
    refine (run _ kr a0 b1 hl f0 (a0.length + 1) 0 (by omega) (by omega)).trans ?_
    unfold fr; rw [show (a0.length == b1.length) = true by simp [hl], Nat.sub_zero, ← List.range_eq_range']; rfl
  · have e : ((a0.length : Int) != (b1.length : Int)) = true := by simp; omega
    have e2 : (a0.length == b1.length) = false := by simp; omega
    rw [e, cond_true, e2]; rfl
theorem refl (a : Row) : v a a = true := by unfold v; simp
end Go.FG.Pu.laws_eqIntS

namespace Go.FG.Pu.laws_eqIntSS
def r4 {R : Type} (N : Nat) (g : Row → Row → Bool → Int → Option R) (k0 : Row → Row → Bool → Int → Option R) (k1 : Row → Row → Bool → Int → Option R) (x0 : Row) (x1 : Row) (x2 : Bool) (x3 : Int) : Option R := bif (decide (x3 < (↑(List.length x0) : Int))) then (bif (decide (0 ≤ x3) && decide (x3 < (↑(List.length x0) : Int))) then (bif (decide (0 ≤ x3) && decide (x3 < (↑(List.length x1) : Int))) then (bif (!Pu.laws_eqIntS.v (cvL (cellAt x0 (Int.toNat x3) 0)) (cvL (cellAt x1 (Int.toNat x3) 0))) then (k0 x0 x1 false x3) else (g x0 x1 x2 (w64 (x3 + 1)))) else (none)) else (none)) else (k1 x0 x1 x2 x3)
def l4 {R : Type} (N : Nat) (k0 : Row → Row → Bool → Int → Option R) (k1 : Row → Row → Bool → Int → Option R) : Nat → Row → Row → Bool → Int → Option R
  | 0 => (fun _ _ _ _ => none)
  | n + 1 => (fun x0 x1 x2 x3 => r4 N (l4 N k0 k1 n) k0 k1 x0 x1 x2 x3)
def b {R : Type} (N : Nat) (kr : Bool → Option R) (a0 : Row) (b1 : Row) : Option R := bif ((↑(List.length a0) : Int) != (↑(List.length b1) : Int)) then (kr false) else (l4 N (fun y4 y5 y6 y7 => kr y6) (fun y8 y9 y10 y11 => kr true) N a0 b1 false 0)
theorem q4_bind {R S : Type} (f : R → Option S) (N : Nat) (k0 : Row → Row → Bool → Int → Option R) (k1 : Row → Row → Bool → Int → Option R) : ∀ n : Nat, (∀ (x0 : Row) (x1 : Row) (x2 : Bool) (x3 : Int), Option.bind (l4 N k0 k1 n x0 x1 x2 x3) f = l4 N (fun y0 y1 y2 y3 => (Option.bind (k0 y0 y1 y2 y3) f)) (fun y0 y1 y2 y3 => (Option.bind (k1 y0 y1 y2 y3) f)) n x0 x1 x2 x3) := by
  intro n
  induction n with
  | zero => exact (fun _ _ _ _ => rfl)
  | succ n ih =>
    intro x0 x1 x2 x3
    simp only [l4, r4, Lib.cond_bind, Lib.some_bind, Lib.none_bind, ih]
theorem l4_bind {R S : Type} (f : R → Option S) (N : Nat) (k0 : Row → Row → Bool → Int → Option R) (k1 : Row → Row → Bool → Int → Option R) (n : Nat) (x0 : Row) (x1 : Row) (x2 : Bool) (x3 : Int) : Option.bind (l4 N k0 k1 n x0 x1 x2 x3) f = l4 N (fun y0 y1 y2 y3 => (Option.bind (k0 y0 y1 y2 y3) f)) (fun y0 y1 y2 y3 => (Option.bind (k1 y0 y1 y2 y3) f)) n x0 x1 x2 x3 := (q4_bind f N k0 k1 n) x0 x1 x2 x3
theorem b_bind {R : Type} (N : Nat) (kr : Bool → Option R) (a0 : Row) (b1 : Row) : b N kr a0 b1 = Option.bind (b N (fun r0 => some (r0)) a0 b1) (fun p => kr p) := by
  unfold b; simp only [Lib.cond_bind, Lib.some_bind, Lib.none_bind, l4_bind]
def vo (a0 : Row) (b1 : Row) : Option (Bool) := b Lib.big (fun r0 => some (r0)) a0 b1
def c (a0 : Row) (b1 : Row) : Bool := Option.isSome (vo a0 b1)
def v (a0 : Row) (b1 : Row) : Bool := Option.getD (vo a0 b1) (false)
theorem out (a0 : Row) (b1 : Row) {x : Bool} (h : vo a0 b1 = some x) : c a0 b1 = true ∧ v a0 b1 = x := by
  unfold c v; rw [h]; exact ⟨rfl, rfl⟩
theorem b_eq {R : Type} (kr : Bool → Option R) (a0 : Row) (b1 : Row) (hc : c a0 b1 = true) : ∃ N, b N kr a0 b1 = kr (v a0 b1) := by
  refine ⟨Lib.big, ?_⟩
  rw [b_bind]
  have e : vo a0 b1 = some (v a0 b1) := by
    unfold c at hc; unfold v
    cases h : vo a0 b1 with
    | none => rw [h] at hc; cases hc
    | some x => rfl
  unfold vo at e
  rw [e]; rfl
end Go.FG.Pu.laws_eqIntSS

namespace Go.FG.Pu.laws_eqSketch
def b {R : Type} (kr : Bool → Option R) (a0_0 : Row) (a0_1 : Int) (b1_0 : Row) (b1_1 : Int) : Option R := bif (Pu.laws_eqIntSS.c a0_0 b1_0) then (bif (!Pu.laws_eqIntSS.v a0_0 b1_0) then (kr false) else (bif (a0_1 != b1_1) then (kr false) else (kr true))) else (none)
theorem b_bind {R : Type} (kr : Bool → Option R) (a0_0 : Row) (a0_1 : Int) (b1_0 : Row) (b1_1 : Int) : b kr a0_0 a0_1 b1_0 b1_1 = Option.bind (b (fun r0 => some (r0)) a0_0 a0_1 b1_0 b1_1) (fun p => kr p) := by
  unfold b; simp only [Lib.cond_bind, Lib.some_bind, Lib.none_bind]
def vo (a0_0 : Row) (a0_1 : Int) (b1_0 : Row) (b1_1 : Int) : Option (Bool) := b (fun r0 => some (r0)) a0_0 a0_1 b1_0 b1_1
def c (a0_0 : Row) (a0_1 : Int) (b1_0 : Row) (b1_1 : Int) : Bool := Option.isSome (vo a0_0 a0_1 b1_0 b1_1)
def v (a0_0 : Row) (a0_1 : Int) (b1_0 : Row) (b1_1 : Int) : Bool := Option.getD (vo a0_0 a0_1 b1_0 b1_1) (false)
theorem out (a0_0 : Row) (a0_1 : Int) (b1_0 : Row) (b1_1 : Int) {x : Bool} (h : vo a0_0 a0_1 b1_0 b1_1 = some x) : c a0_0 a0_1 b1_0 b1_1 = true ∧ v a0_0 a0_1 b1_0 b1_1 = x := by
  unfold c v; rw [h]; exact ⟨rfl, rfl⟩
theorem b_eq {R : Type} (kr : Bool → Option R) (a0_0 : Row) (a0_1 : Int) (b1_0 : Row) (b1_1 : Int) (hc : c a0_0 a0_1 b1_0 b1_1 = true) : b kr a0_0 a0_1 b1_0 b1_1 = kr (v a0_0 a0_1 b1_0 b1_1) := by
  rw [b_bind]
  have e : vo a0_0 a0_1 b1_0 b1_1 = some (v a0_0 a0_1 b1_0 b1_1) := by
    unfold c at hc; unfold v
    cases h : vo a0_0 a0_1 b1_0 b1_1 with
    | none => rw [h] at hc; cases hc
    | some x => rfl
  unfold vo at e
  rw [e]; rfl
end Go.FG.Pu.laws_eqSketch

namespace Go.FG.Pu.laws_eqPolicy
def b {R : Type} (kr : Bool → Option R) (a0_0 : Row) (a0_1 : Row) (a0_2 : Row) (a0_3 : Int) (b1_0 : Row) (b1_1 : Row) (b1_2 : Row) (b1_3 : Int) : Option R := bif (Pu.laws_eqStringS.c a0_0 b1_0) then (bif (!Pu.laws_eqStringS.v a0_0 b1_0) then (kr false) else (bif (Pu.laws_eqStringS.c a0_1 b1_1) then (bif (!Pu.laws_eqStringS.v a0_1 b1_1) then (kr false) else (bif (Pu.laws_eqSketch.c a0_2 a0_3 b1_2 b1_3) then (bif (!Pu.laws_eqSketch.v a0_2 a0_3 b1_2 b1_3) then (kr false) else (kr true)) else (none))) else (none))) else (none)
theorem b_bind {R : Type} (kr : Bool → Option R) (a0_0 : Row) (a0_1 : Row) (a0_2 : Row) (a0_3 : Int) (b1_0 : Row) (b1_1 : Row) (b1_2 : Row) (b1_3 : Int) : b kr a0_0 a0_1 a0_2 a0_3 b1_0 b1_1 b1_2 b1_3 = Option.bind (b (fun r0 => some (r0)) a0_0 a0_1 a0_2 a0_3 b1_0 b1_1 b1_2 b1_3) (fun p => kr p) := by
  unfold b; simp only [Lib.cond_bind, Lib.some_bind, Lib.none_bind]
def vo (a0_0 : Row) (a0_1 : Row) (a0_2 : Row) (a0_3 : Int) (b1_0 : Row) (b1_1 : Row) (b1_2 : Row) (b1_3 : Int) : Option (Bool) := b (fun r0 => some (r0)) a0_0 a0_1 a0_2 a0_3 b1_0 b1_1 b1_2 b1_3
def c (a0_0 : Row) (a0_1 : Row) (a0_2 : Row) (a0_3 : Int) (b1_0 : Row) (b1_1 : Row) (b1_2 : Row) (b1_3 : Int) : Bool := Option.isSome (vo a0_0 a0_1 a0_2 a0_3 b1_0 b1_1 b1_2 b1_3)
def v (a0_0 : Row) (a0_1 : Row) (a0_2 : Row) (a0_3 : Int) (b1_0 : Row) (b1_1 : Row) (b1_2 : Row) (b1_3 : Int) : Bool := Option.getD (vo a0_0 a0_1 a0_2 a0_3 b1_0 b1_1 b1_2 b1_3) (false)
theorem out (a0_0 : Row) (a0_1 : Row) (a0_2 : Row) (a0_3 : Int) (b1_0 : Row) (b1_1 : Row) (b1_2 : Row) (b1_3 : Int) {x : Bool} (h : vo a0_0 a0_1 a0_2 a0_3 b1_0 b1_1 b1_2 b1_3 = some x) : c a0_0 a0_1 a0_2 a0_3 b1_0 b1_1 b1_2 b1_3 = true ∧ v a0_0 a0_1 a0_2 a0_3 b1_0 b1_1 b1_2 b1_3 = x := by
  unfold c v; rw [h]; exact ⟨rfl, rfl⟩
theorem b_eq {R : Type} (kr : Bool → Option R) (a0_0 : Row) (a0_1 : Row) (a0_2 : Row) (a0_3 : Int) (b1_0 : Row) (b1_1 : Row) (b1_2 : Row) (b1_3 : Int) (hc : c a0_0 a0_1 a0_2 a0_3 b1_0 b1_1 b1_2 b1_3 = true) : b kr a0_0 a0_1 a0_2 a0_3 b1_0 b1_1 b1_2 b1_3 = kr (v a0_0 a0_1 a0_2 a0_3 b1_0 b1_1 b1_2 b1_3) := by
  rw [b_bind]
  have e : vo a0_0 a0_1 a0_2 a0_3 b1_0 b1_1 b1_2 b1_3 = some (v a0_0 a0_1 a0_2 a0_3 b1_0 b1_1 b1_2 b1_3) := by
    unfold c at hc; unfold v
    cases h : vo a0_0 a0_1 a0_2 a0_3 b1_0 b1_1 b1_2 b1_3 with
    | none => rw [h] at hc; cases hc
    | some x => rfl
  unfold vo at e
  rw [e]; rfl
end Go.FG.Pu.laws_eqPolicy

namespace Go.FG.Pu.laws_eqFetch
def b {R : Type} (kr : Bool → Option R) (a0_0 : ByteArray) (a0_1 : ByteArray) (a0_2 : Int) (a0_3 : Int) (a0_4 : Int) (b1_0 : ByteArray) (b1_1 : ByteArray) (b1_2 : Int) (b1_3 : Int) (b1_4 : Int) : Option R := bif (!List.beq (ByteArray.toList a0_0) (ByteArray.toList b1_0)) then (kr false) else (bif (!List.beq (ByteArray.toList a0_1) (ByteArray.toList b1_1)) then (kr false) else (bif (a0_2 != b1_2) then (kr false) else (bif (a0_3 != b1_3) then (kr false) else (bif (a0_4 != b1_4) then (kr false) else (kr true)))))
def v (a0_0 : ByteArray) (a0_1 : ByteArray) (a0_2 : Int) (a0_3 : Int) (a0_4 : Int) (b1_0 : ByteArray) (b1_1 : ByteArray) (b1_2 : Int) (b1_3 : Int) (b1_4 : Int) : Bool := bif (!List.beq (ByteArray.toList a0_0) (ByteArray.toList b1_0)) then ((false)) else (bif (!List.beq (ByteArray.toList a0_1) (ByteArray.toList b1_1)) then ((false)) else (bif (a0_2 != b1_2) then ((false)) else (bif (a0_3 != b1_3) then ((false)) else (bif (a0_4 != b1_4) then ((false)) else ((true))))))
theorem b_eq {R : Type} (kr : Bool → Option R) (a0_0 : ByteArray) (a0_1 : ByteArray) (a0_2 : Int) (a0_3 : Int) (a0_4 : Int) (b1_0 : ByteArray) (b1_1 : ByteArray) (b1_2 : Int) (b1_3 : Int) (b1_4 : Int) : b kr a0_0 a0_1 a0_2 a0_3 a0_4 b1_0 b1_1 b1_2 b1_3 b1_4 = kr (v a0_0 a0_1 a0_2 a0_3 a0_4 b1_0 b1_1 b1_2 b1_3 b1_4) := by
  first | rfl | (unfold b v; simp only [Bool.cond_eq_ite]; (repeat' split) <;> rfl)
end Go.FG.Pu.laws_eqFetch

namespace Go.FG.Pu.laws_eqFetchS
def r4 {R : Type} (N : Nat) (g : Row → Row → Bool → Int → Option R) (k0 : Row → Row → Bool → Int → Option R) (k1 : Row → Row → Bool → Int → Option R) (x0 : Row) (x1 : Row) (x2 : Bool) (x3 : Int) : Option R := bif (decide (x3 < (↑(List.length x0) : Int))) then (bif (decide (0 ≤ x3) && decide (x3 < (↑(List.length x0) : Int))) then (bif (decide (0 ≤ x3) && decide (x3 < (↑(List.length x1) : Int))) then (bif (!Pu.laws_eqFetch.v (cvS (cellAt x0 (Int.toNat x3) 0)) (cvS (cellAt x0 (Int.toNat x3) 1)) (cvI (cellAt x0 (Int.toNat x3) (1 + 1))) (cvI (cellAt x0 (Int.toNat x3) (1 + 1 + 1))) (cvI (cellAt x0 (Int.toNat x3) (1 + 1 + 1 + 1))) (cvS (cellAt x1 (Int.toNat x3) 0)) (cvS (cellAt x1 (Int.toNat x3) 1)) (cvI (cellAt x1 (Int.toNat x3) (1 + 1))) (cvI (cellAt x1 (Int.toNat x3) (1 + 1 + 1))) (cvI (cellAt x1 (Int.toNat x3) (1 + 1 + 1 + 1)))) then (k0 x0 x1 false x3) else (g x0 x1 x2 (w64 (x3 + 1)))) else (none)) else (none)) else (k1 x0 x1 x2 x3)
def l4 {R : Type} (N : Nat) (k0 : Row → Row → Bool → Int → Option R) (k1 : Row → Row → Bool → Int → Option R) : Nat → Row → Row → Bool → Int → Option R
  | 0 => (fun _ _ _ _ => none)
  | n + 1 => (fun x0 x1 x2 x3 => r4 N (l4 N k0 k1 n) k0 k1 x0 x1 x2 x3)
def b {R : Type} (N : Nat) (kr : Bool → Option R) (a0 : Row) (b1 : Row) : Option R := bif ((↑(List.length a0) : Int) != (↑(List.length b1) : Int)) then (kr false) else (l4 N (fun y4 y5 y6 y7 => kr y6) (fun y8 y9 y10 y11 => kr true) N a0 b1 false 0)
theorem q4_bind {R S : Type} (f : R → Option S) (N : Nat) (k0 : Row → Row → Bool → Int → Option R) (k1 : Row → Row → Bool → Int → Option R) : ∀ n : Nat, (∀ (x0 : Row) (x1 : Row) (x2 : Bool) (x3 : Int), Option.bind (l4 N k0 k1 n x0 x1 x2 x3) f = l4 N (fun y0 y1 y2 y3 => (Option.bind (k0 y0 y1 y2 y3) f)) (fun y0 y1 y2 y3 => (Option.bind (k1 y0 y1 y2 y3) f)) n x0 x1 x2 x3) := by
  intro n
  induction n with
  | zero => exact (fun _ _ _ _ => rfl)
  | succ n ih =>
    intro x0 x1 x2 x3
    simp only [l4, r4, Lib.cond_bind, Lib.some_bind, Lib.none_bind, ih]
theorem l4_bind {R S : Type} (f : R → Option S) (N : Nat) (k0 : Row → Row → Bool → Int → Option R) (k1 : Row → Row → Bool → Int → Option R) (n : Nat) (x0 : Row) (x1 : Row) (x2 : Bool) (x3 : Int) : Option.bind (l4 N k0 k1 n x0 x1 x2 x3) f = l4 N (fun y0 y1 y2 y3 => (Option.bind (k0 y0 y1 y2 y3) f)) (fun y0 y1 y2 y3 => (Option.bind (k1 y0 y1 y2 y3) f)) n x0 x1 x2 x3 := (q4_bind f N k0 k1 n) x0 x1 x2 x3
theorem b_bind {R : Type} (N : Nat) (kr : Bool → Option R) (a0 : Row) (b1 : Row) : b N kr a0 b1 = Option.bind (b N (fun r0 => some (r0)) a0 b1) (fun p => kr p) := by
  unfold b; simp only [Lib.cond_bind, Lib.some_bind, Lib.none_bind, l4_bind]
def vo (a0 : Row) (b1 : Row) : Option (Bool) := b Lib.big (fun r0 => some (r0)) a0 b1
def c (a0 : Row) (b1 : Row) : Bool := Option.isSome (vo a0 b1)
def v (a0 : Row) (b1 : Row) : Bool := Option.getD (vo a0 b1) (false)
theorem out (a0 : Row) (b1 : Row) {x : Bool} (h : vo a0 b1 = some x) : c a0 b1 = true ∧ v a0 b1 = x := by
  unfold c v; rw [h]; exact ⟨rfl, rfl⟩
theorem b_eq {R : Type} (kr : Bool → Option R) (a0 : Row) (b1 : Row) (hc : c a0 b1 = true) : ∃ N, b N kr a0 b1 = kr (v a0 b1) := by
  refine ⟨Lib.big, ?_⟩
  rw [b_bind]
  have e : vo a0 b1 = some (v a0 b1) := by
    unfold c at hc; unfold v
    cases h : vo a0 b1 with
    | none => rw [h] at hc; cases hc
    | some x => rfl
  unfold vo at e
  rw [e]; rfl
end Go.FG.Pu.laws_eqFetchS

namespace Go.FG.Pu.laws_eqClient
def b {R : Type} (kr : Bool → Option R) (a0_0 : Int) (a0_1 : ByteArray) (a0_2 : Int) (a0_3 : Int) (a0_4 : Int) (a0_5 : ByteArray) (a0_6 : Int) (b1_0 : Int) (b1_1 : ByteArray) (b1_2 : Int) (b1_3 : Int) (b1_4 : Int) (b1_5 : ByteArray) (b1_6 : Int) : Option R := bif (a0_0 != b1_0) then (kr false) else (bif (!List.beq (ByteArray.toList a0_1) (ByteArray.toList b1_1)) then (kr false) else (bif (a0_2 != b1_2) then (kr false) else (bif (a0_3 != b1_3) then (kr false) else (bif (a0_4 != b1_4) then (kr false) else (bif (!List.beq (ByteArray.toList a0_5) (ByteArray.toList b1_5)) then (kr false) else (bif (a0_6 != b1_6) then (kr false) else (kr true)))))))
def v (a0_0 : Int) (a0_1 : ByteArray) (a0_2 : Int) (a0_3 : Int) (a0_4 : Int) (a0_5 : ByteArray) (a0_6 : Int) (b1_0 : Int) (b1_1 : ByteArray) (b1_2 : Int) (b1_3 : Int) (b1_4 : Int) (b1_5 : ByteArray) (b1_6 : Int) : Bool := bif (a0_0 != b1_0) then ((false)) else (bif (!List.beq (ByteArray.toList a0_1) (ByteArray.toList b1_1)) then ((false)) else (bif (a0_2 != b1_2) then ((false)) else (bif (a0_3 != b1_3) then ((false)) else (bif (a0_4 != b1_4) then ((false)) else (bif (!List.beq (ByteArray.toList a0_5) (ByteArray.toList b1_5)) then ((false)) else (bif (a0_6 != b1_6) then ((false)) else ((true))))))))
theorem b_eq {R : Type} (kr : Bool → Option R) (a0_0 : Int) (a0_1 : ByteArray) (a0_2 : Int) (a0_3 : Int) (a0_4 : Int) (a0_5 : ByteArray) (a0_6 : Int) (b1_0 : Int) (b1_1 : ByteArray) (b1_2 : Int) (b1_3 : Int) (b1_4 : Int) (b1_5 : ByteArray) (b1_6 : Int) : b kr a0_0 a0_1 a0_2 a0_3 a0_4 a0_5 a0_6 b1_0 b1_1 b1_2 b1_3 b1_4 b1_5 b1_6 = kr (v a0_0 a0_1 a0_2 a0_3 a0_4 a0_5 a0_6 b1_0 b1_1 b1_2 b1_3 b1_4 b1_5 b1_6) := by
  first | rfl | (unfold b v; simp only [Bool.cond_eq_ite]; (repeat' split) <;> rfl)
end Go.FG.Pu.laws_eqClient

namespace Go.FG.Pu.laws_eqClientS
def r4 {R : Type} (N : Nat) (g : Row → Row → Bool → Int → Option R) (k0 : Row → Row → Bool → Int → Option R) (k1 : Row → Row → Bool → Int → Option R) (x0 : Row) (x1 : Row) (x2 : Bool) (x3 : Int) : Option R := bif (decide (x3 < (↑(List.length x0) : Int))) then (bif (decide (0 ≤ x3) && decide (x3 < (↑(List.length x0) : Int))) then (bif (decide (0 ≤ x3) && decide (x3 < (↑(List.length x1) : Int))) then (bif (!Pu.laws_eqClient.v (cvI (cellAt x0 (Int.toNat x3) 0)) (cvS (cellAt x0 (Int.toNat x3) 1)) (cvI (cellAt x0 (Int.toNat x3) (1 + 1))) (cvI (cellAt x0 (Int.toNat x3) (1 + 1 + 1))) (cvI (cellAt x0 (Int.toNat x3) (1 + 1 + 1 + 1))) (cvS (cellAt x0 (Int.toNat x3) (1 + 1 + 1 + 1 + 1))) (cvI (cellAt x0 (Int.toNat x3) (1 + 1 + 1 + 1 + 1 + 1))) (cvI (cellAt x1 (Int.toNat x3) 0)) (cvS (cellAt x1 (Int.toNat x3) 1)) (cvI (cellAt x1 (Int.toNat x3) (1 + 1))) (cvI (cellAt x1 (Int.toNat x3) (1 + 1 + 1))) (cvI (cellAt x1 (Int.toNat x3) (1 + 1 + 1 + 1))) (cvS (cellAt x1 (Int.toNat x3) (1 + 1 + 1 + 1 + 1))) (cvI (cellAt x1 (Int.toNat x3) (1 + 1 + 1 + 1 + 1 + 1)))) then (k0 x0 x1 false x3) else (g x0 x1 x2 (w64 (x3 + 1)))) else (none)) else (none)) else (k1 x0 x1 x2 x3)
def l4 {R : Type} (N : Nat) (k0 : Row → Row → Bool → Int → Option R) (k1 : Row → Row → Bool → Int → Option R) : Nat → Row → Row → Bool → Int → Option R
  | 0 => (fun _ _ _ _ => none)
  | n + 1 => (fun x0 x1 x2 x3 => r4 N (l4 N k0 k1 n) k0 k1 x0 x1 x2 x3)
def b {R : Type} (N : Nat) (kr : Bool → Option R) (a0 : Row) (b1 : Row) : Option R := bif ((↑(List.length a0) : Int) != (↑(List.length b1) : Int)) then (kr false) else (l4 N (fun y4 y5 y6 y7 => kr y6) (fun y8 y9 y10 y11 => kr true) N a0 b1 false 0)
theorem q4_bind {R S : Type} (f : R → Option S) (N : Nat) (k0 : Row → Row → Bool → Int → Option R) (k1 : Row → Row → Bool → Int → Option R) : ∀ n : Nat, (∀ (x0 : Row) (x1 : Row) (x2 : Bool) (x3 : Int), Option.bind (l4 N k0 k1 n x0 x1 x2 x3) f = l4 N (fun y0 y1 y2 y3 => (Option.bind (k0 y0 y1 y2 y3) f)) (fun y0 y1 y2 y3 => (Option.bind (k1 y0 y1 y2 y3) f)) n x0 x1 x2 x3) := by
  intro n
  induction n with
  | zero => exact (fun _ _ _ _ => rfl)
  | succ n ih =>
    intro x0 x1 x2 x3
    simp only [l4, r4, Lib.cond_bind, Lib.some_bind, Lib.none_bind, ih]
theorem l4_bind {R S : Type} (f : R → Option S) (N : Nat) (k0 : Row → Row → Bool → Int → Option R) (k1 : Row → Row → Bool → Int → Option R) (n : Nat) (x0 : Row) (x1 : Row) (x2 : Bool) (x3 : Int) : Option.bind (l4 N k0 k1 n x0 x1 x2 x3) f = l4 N (fun y0 y1 y2 y3 => (Option.bind (k0 y0 y1 y2 y3) f)) (fun y0 y1 y2 y3 => (Option.bind (k1 y0 y1 y2 y3) f)) n x0 x1 x2 x3 := (q4_bind f N k0 k1 n) x0 x1 x2 x3
theorem b_bind {R : Type} (N : Nat) (kr : Bool → Option R) (a0 : Row) (b1 : Row) : b N kr a0 b1 = Option.bind (b N (fun r0 => some (r0)) a0 b1) (fun p => kr p) := by
  unfold b; simp only [Lib.cond_bind, Lib.some_bind, Lib.none_bind, l4_bind]
def vo (a0 : Row) (b1 : Row) : Option (Bool) := b Lib.big (fun r0 => some (r0)) a0 b1
def c (a0 : Row) (b1 : Row) : Bool := Option.isSome (vo a0 b1)
def v (a0 : Row) (b1 : Row) : Bool := Option.getD (vo a0 b1) (false)
theorem out (a0 : Row) (b1 : Row) {x : Bool} (h : vo a0 b1 = some x) : c a0 b1 = true ∧ v a0 b1 = x := by
  unfold c v; rw [h]; exact ⟨rfl, rfl⟩
theorem b_eq {R : Type} (kr : Bool → Option R) (a0 : Row) (b1 : Row) (hc : c a0 b1 = true) : ∃ N, b N kr a0 b1 = kr (v a0 b1) := by
  refine ⟨Lib.big, ?_⟩
  rw [b_bind]
  have e : vo a0 b1 = some (v a0 b1) := by
    unfold c at hc; unfold v
    cases h : vo a0 b1 with
    | none => rw [h] at hc; cases hc
    | some x => rfl
  unfold vo at e
  rw [e]; rfl
end Go.FG.Pu.laws_eqClientS

namespace Go.FG.Pu.laws_eqProxy
def b {R : Type} (kr : Bool → Option R) (a0_0 : Int) (a0_1 : Row) (a0_2 : Row) (a0_3 : Row) (a0_4 : Row) (a0_5 : Int) (a0_6 : Row) (a0_7 : Row) (a0_8 : Int) (b1_0 : Int) (b1_1 : Row) (b1_2 : Row) (b1_3 : Row) (b1_4 : Row) (b1_5 : Int) (b1_6 : Row) (b1_7 : Row) (b1_8 : Int) : Option R := bif (a0_0 != b1_0) then (kr false) else (bif (Pu.laws_eqEntryS.c a0_1 b1_1) then (bif (!Pu.laws_eqEntryS.v a0_1 b1_1) then (kr false) else (bif (Pu.laws_eqPolicy.c a0_2 a0_3 a0_4 a0_5 b1_2 b1_3 b1_4 b1_5) then (bif (!Pu.laws_eqPolicy.v a0_2 a0_3 a0_4 a0_5 b1_2 b1_3 b1_4 b1_5) then (kr false) else (bif (Pu.laws_eqFetchS.c a0_6 b1_6) then (bif (!Pu.laws_eqFetchS.v a0_6 b1_6) then (kr false) else (bif (Pu.laws_eqClientS.c a0_7 b1_7) then (bif (!Pu.laws_eqClientS.v a0_7 b1_7) then (kr false) else (bif (a0_8 != b1_8) then (kr false) else (kr true))) else (none))) else (none))) else (none))) else (none))
theorem b_bind {R : Type} (kr : Bool → Option R) (a0_0 : Int) (a0_1 : Row) (a0_2 : Row) (a0_3 : Row) (a0_4 : Row) (a0_5 : Int) (a0_6 : Row) (a0_7 : Row) (a0_8 : Int) (b1_0 : Int) (b1_1 : Row) (b1_2 : Row) (b1_3 : Row) (b1_4 : Row) (b1_5 : Int) (b1_6 : Row) (b1_7 : Row) (b1_8 : Int) : b kr a0_0 a0_1 a0_2 a0_3 a0_4 a0_5 a0_6 a0_7 a0_8 b1_0 b1_1 b1_2 b1_3 b1_4 b1_5 b1_6 b1_7 b1_8 = Option.bind (b (fun r0 => some (r0)) a0_0 a0_1 a0_2 a0_3 a0_4 a0_5 a0_6 a0_7 a0_8 b1_0 b1_1 b1_2 b1_3 b1_4 b1_5 b1_6 b1_7 b1_8) (fun p => kr p) := by
  unfold b; simp only [Lib.cond_bind, Lib.some_bind, Lib.none_bind]
def vo (a0_0 : Int) (a0_1 : Row) (a0_2 : Row) (a0_3 : Row) (a0_4 : Row) (a0_5 : Int) (a0_6 : Row) (a0_7 : Row) (a0_8 : Int) (b1_0 : Int) (b1_1 : Row) (b1_2 : Row) (b1_3 : Row) (b1_4 : Row) (b1_5 : Int) (b1_6 : Row) (b1_7 : Row) (b1_8 : Int) : Option (Bool) := b (fun r0 => some (r0)) a0_0 a0_1 a0_2 a0_3 a0_4 a0_5 a0_6 a0_7 a0_8 b1_0 b1_1 b1_2 b1_3 b1_4 b1_5 b1_6 b1_7 b1_8
def c (a0_0 : Int) (a0_1 : Row) (a0_2 : Row) (a0_3 : Row) (a0_4 : Row) (a0_5 : Int) (a0_6 : Row) (a0_7 : Row) (a0_8 : Int) (b1_0 : Int) (b1_1 : Row) (b1_2 : Row) (b1_3 : Row) (b1_4 : Row) (b1_5 : Int) (b1_6 : Row) (b1_7 : Row) (b1_8 : Int) : Bool := Option.isSome (vo a0_0 a0_1 a0_2 a0_3 a0_4 a0_5 a0_6 a0_7 a0_8 b1_0 b1_1 b1_2 b1_3 b1_4 b1_5 b1_6 b1_7 b1_8)
def v (a0_0 : Int) (a0_1 : Row) (a0_2 : Row) (a0_3 : Row) (a0_4 : Row) (a0_5 : Int) (a0_6 : Row) (a0_7 : Row) (a0_8 : Int) (b1_0 : Int) (b1_1 : Row) (b1_2 : Row) (b1_3 : Row) (b1_4 : Row) (b1_5 : Int) (b1_6 : Row) (b1_7 : Row) (b1_8 : Int) : Bool := Option.getD (vo a0_0 a0_1 a0_2 a0_3 a0_4 a0_5 a0_6 a0_7 a0_8 b1_0 b1_1 b1_2 b1_3 b1_4 b1_5 b1_6 b1_7 b1_8) (false)
theorem out (a0_0 : Int) (a0_1 : Row) (a0_2 : Row) (a0_3 : Row) (a0_4 : Row) (a0_5 : Int) (a0_6 : Row) (a0_7 : Row) (a0_8 : Int) (b1_0 : Int) (b1_1 : Row) (b1_2 : Row) (b1_3 : Row) (b1_4 : Row) (b1_5 : Int) (b1_6 : Row) (b1_7 : Row) (b1_8 : Int) {x : Bool} (h : vo a0_0 a0_1 a0_2 a0_3 a0_4 a0_5 a0_6 a0_7 a0_8 b1_0 b1_1 b1_2 b1_3 b1_4 b1_5 b1_6 b1_7 b1_8 = some x) : c a0_0 a0_1 a0_2 a0_3 a0_4 a0_5 a0_6 a0_7 a0_8 b1_0 b1_1 b1_2 b1_3 b1_4 b1_5 b1_6 b1_7 b1_8 = true ∧ v a0_0 a0_1 a0_2 a0_3 a0_4 a0_5 a0_6 a0_7 a0_8 b1_0 b1_1 b1_2 b1_3 b1_4 b1_5 b1_6 b1_7 b1_8 = x := by
  unfold c v; rw [h]; exact ⟨rfl, rfl⟩
theorem b_eq {R : Type} (kr : Bool → Option R) (a0_0 : Int) (a0_1 : Row) (a0_2 : Row) (a0_3 : Row) (a0_4 : Row) (a0_5 : Int) (a0_6 : Row) (a0_7 : Row) (a0_8 : Int) (b1_0 : Int) (b1_1 : Row) (b1_2 : Row) (b1_3 : Row) (b1_4 : Row) (b1_5 : Int) (b1_6 : Row) (b1_7 : Row) (b1_8 : Int) (hc : c a0_0 a0_1 a0_2 a0_3 a0_4 a0_5 a0_6 a0_7 a0_8 b1_0 b1_1 b1_2 b1_3 b1_4 b1_5 b1_6 b1_7 b1_8 = true) : b kr a0_0 a0_1 a0_2 a0_3 a0_4 a0_5 a0_6 a0_7 a0_8 b1_0 b1_1 b1_2 b1_3 b1_4 b1_5 b1_6 b1_7 b1_8 = kr (v a0_0 a0_1 a0_2 a0_3 a0_4 a0_5 a0_6 a0_7 a0_8 b1_0 b1_1 b1_2 b1_3 b1_4 b1_5 b1_6 b1_7 b1_8) := by
  rw [b_bind]
  have e : vo a0_0 a0_1 a0_2 a0_3 a0_4 a0_5 a0_6 a0_7 a0_8 b1_0 b1_1 b1_2 b1_3 b1_4 b1_5 b1_6 b1_7 b1_8 = some (v a0_0 a0_1 a0_2 a0_3 a0_4 a0_5 a0_6 a0_7 a0_8 b1_0 b1_1 b1_2 b1_3 b1_4 b1_5 b1_6 b1_7 b1_8) := by
    unfold c at hc; unfold v
    cases h : vo a0_0 a0_1 a0_2 a0_3 a0_4 a0_5 a0_6 a0_7 a0_8 b1_0 b1_1 b1_2 b1_3 b1_4 b1_5 b1_6 b1_7 b1_8 with
    | none => rw [h] at hc; cases hc
    | some x => rfl
  unfold vo at e
  rw [e]; rfl
end Go.FG.Pu.laws_eqProxy

namespace Go.FG.Pu.laws_FnExactProxyOk
def b {R : Type} (kr : Bool → Option R) (aP0_0 : Int) (aP0_1 : Row) (aP0_2 : Row) (aP0_3 : Row) (aP0_4 : Row) (aP0_5 : Int) (aP0_6 : Row) (aP0_7 : Row) (aP0_8 : Int) : Option R := bif (Pu.laws_szProxy.c aP0_0 aP0_1 aP0_2 aP0_3 aP0_4 aP0_5 aP0_6 aP0_7 aP0_8 1048576) then (bif (decide (Pu.laws_szProxy.v aP0_0 aP0_1 aP0_2 aP0_3 aP0_4 aP0_5 aP0_6 aP0_7 aP0_8 1048576 < 0)) then (kr true) else (bif (Pu.laws_toProxy.c aP0_0 aP0_1 aP0_2 aP0_3 aP0_4 aP0_5 aP0_6 aP0_7 aP0_8) then (bif (Pu.spec_ProxyOk.c (Pu.laws_toProxy.v aP0_0 aP0_1 aP0_2 aP0_3 aP0_4 aP0_5 aP0_6 aP0_7 aP0_8).1 (Pu.laws_toProxy.v aP0_0 aP0_1 aP0_2 aP0_3 aP0_4 aP0_5 aP0_6 aP0_7 aP0_8).2.1 (Pu.laws_toProxy.v aP0_0 aP0_1 aP0_2 aP0_3 aP0_4 aP0_5 aP0_6 aP0_7 aP0_8).2.2.1 (Pu.laws_toProxy.v aP0_0 aP0_1 aP0_2 aP0_3 aP0_4 aP0_5 aP0_6 aP0_7 aP0_8).2.2.2.1 (Pu.laws_toProxy.v aP0_0 aP0_1 aP0_2 aP0_3 aP0_4 aP0_5 aP0_6 aP0_7 aP0_8).2.2.2.2.1 (Pu.laws_toProxy.v aP0_0 aP0_1 aP0_2 aP0_3 aP0_4 aP0_5 aP0_6 aP0_7 aP0_8).2.2.2.2.2.1 (Pu.laws_toProxy.v aP0_0 aP0_1 aP0_2 aP0_3 aP0_4 aP0_5 aP0_6 aP0_7 aP0_8).2.2.2.2.2.2.1 (Pu.laws_toProxy.v aP0_0 aP0_1 aP0_2 aP0_3 aP0_4 aP0_5 aP0_6 aP0_7 aP0_8).2.2.2.2.2.2.2.1 (Pu.laws_toProxy.v aP0_0 aP0_1 aP0_2 aP0_3 aP0_4 aP0_5 aP0_6 aP0_7 aP0_8).2.2.2.2.2.2.2.2) then (bif (Pu.laws_toProxy.c aP0_0 aP0_1 aP0_2 aP0_3 aP0_4 aP0_5 aP0_6 aP0_7 aP0_8) then (bif (Pu.impl_ProxyOk.c (Pu.laws_toProxy.v aP0_0 aP0_1 aP0_2 aP0_3 aP0_4 aP0_5 aP0_6 aP0_7 aP0_8).1 (Pu.laws_toProxy.v aP0_0 aP0_1 aP0_2 aP0_3 aP0_4 aP0_5 aP0_6 aP0_7 aP0_8).2.1 (Pu.laws_toProxy.v aP0_0 aP0_1 aP0_2 aP0_3 aP0_4 aP0_5 aP0_6 aP0_7 aP0_8).2.2.1 (Pu.laws_toProxy.v aP0_0 aP0_1 aP0_2 aP0_3 aP0_4 aP0_5 aP0_6 aP0_7 aP0_8).2.2.2.1 (Pu.laws_toProxy.v aP0_0 aP0_1 aP0_2 aP0_3 aP0_4 aP0_5 aP0_6 aP0_7 aP0_8).2.2.2.2.1 (Pu.laws_toProxy.v aP0_0 aP0_1 aP0_2 aP0_3 aP0_4 aP0_5 aP0_6 aP0_7 aP0_8).2.2.2.2.2.1 (Pu.laws_toProxy.v aP0_0 aP0_1 aP0_2 aP0_3 aP0_4 aP0_5 aP0_6 aP0_7 aP0_8).2.2.2.2.2.2.1 (Pu.laws_toProxy.v aP0_0 aP0_1 aP0_2 aP0_3 aP0_4 aP0_5 aP0_6 aP0_7 aP0_8).2.2.2.2.2.2.2.1 (Pu.laws_toProxy.v aP0_0 aP0_1 aP0_2 aP0_3 aP0_4 aP0_5 aP0_6 aP0_7 aP0_8).2.2.2.2.2.2.2.2) then (bif (!decide (Pu.impl_ProxyOk.v (Pu.laws_toProxy.v aP0_0 aP0_1 aP0_2 aP0_3 aP0_4 aP0_5 aP0_6 aP0_7 aP0_8).1 (Pu.laws_toProxy.v aP0_0 aP0_1 aP0_2 aP0_3 aP0_4 aP0_5 aP0_6 aP0_7 aP0_8).2.1 (Pu.laws_toProxy.v aP0_0 aP0_1 aP0_2 aP0_3 aP0_4 aP0_5 aP0_6 aP0_7 aP0_8).2.2.1 (Pu.laws_toProxy.v aP0_0 aP0_1 aP0_2 aP0_3 aP0_4 aP0_5 aP0_6 aP0_7 aP0_8).2.2.2.1 (Pu.laws_toProxy.v aP0_0 aP0_1 aP0_2 aP0_3 aP0_4 aP0_5 aP0_6 aP0_7 aP0_8).2.2.2.2.1 (Pu.laws_toProxy.v aP0_0 aP0_1 aP0_2 aP0_3 aP0_4 aP0_5 aP0_6 aP0_7 aP0_8).2.2.2.2.2.1 (Pu.laws_toProxy.v aP0_0 aP0_1 aP0_2 aP0_3 aP0_4 aP0_5 aP0_6 aP0_7 aP0_8).2.2.2.2.2.2.1 (Pu.laws_toProxy.v aP0_0 aP0_1 aP0_2 aP0_3 aP0_4 aP0_5 aP0_6 aP0_7 aP0_8).2.2.2.2.2.2.2.1 (Pu.laws_toProxy.v aP0_0 aP0_1 aP0_2 aP0_3 aP0_4 aP0_5 aP0_6 aP0_7 aP0_8).2.2.2.2.2.2.2.2 = Pu.spec_ProxyOk.v (Pu.laws_toProxy.v aP0_0 aP0_1 aP0_2 aP0_3 aP0_4 aP0_5 aP0_6 aP0_7 aP0_8).1 (Pu.laws_toProxy.v aP0_0 aP0_1 aP0_2 aP0_3 aP0_4 aP0_5 aP0_6 aP0_7 aP0_8).2.1 (Pu.laws_toProxy.v aP0_0 aP0_1 aP0_2 aP0_3 aP0_4 aP0_5 aP0_6 aP0_7 aP0_8).2.2.1 (Pu.laws_toProxy.v aP0_0 aP0_1 aP0_2 aP0_3 aP0_4 aP0_5 aP0_6 aP0_7 aP0_8).2.2.2.1 (Pu.laws_toProxy.v aP0_0 aP0_1 aP0_2 aP0_3 aP0_4 aP0_5 aP0_6 aP0_7 aP0_8).2.2.2.2.1 (Pu.laws_toProxy.v aP0_0 aP0_1 aP0_2 aP0_3 aP0_4 aP0_5 aP0_6 aP0_7 aP0_8).2.2.2.2.2.1 (Pu.laws_toProxy.v aP0_0 aP0_1 aP0_2 aP0_3 aP0_4 aP0_5 aP0_6 aP0_7 aP0_8).2.2.2.2.2.2.1 (Pu.laws_toProxy.v aP0_0 aP0_1 aP0_2 aP0_3 aP0_4 aP0_5 aP0_6 aP0_7 aP0_8).2.2.2.2.2.2.2.1 (Pu.laws_toProxy.v aP0_0 aP0_1 aP0_2 aP0_3 aP0_4 aP0_5 aP0_6 aP0_7 aP0_8).2.2.2.2.2.2.2.2)) then (kr false) else (bif (Pu.laws_toProxy.c aP0_0 aP0_1 aP0_2 aP0_3 aP0_4 aP0_5 aP0_6 aP0_7 aP0_8) then (bif (Pu.laws_eqProxy.c (Pu.laws_toProxy.v aP0_0 aP0_1 aP0_2 aP0_3 aP0_4 aP0_5 aP0_6 aP0_7 aP0_8).1 (Pu.laws_toProxy.v aP0_0 aP0_1 aP0_2 aP0_3 aP0_4 aP0_5 aP0_6 aP0_7 aP0_8).2.1 (Pu.laws_toProxy.v aP0_0 aP0_1 aP0_2 aP0_3 aP0_4 aP0_5 aP0_6 aP0_7 aP0_8).2.2.1 (Pu.laws_toProxy.v aP0_0 aP0_1 aP0_2 aP0_3 aP0_4 aP0_5 aP0_6 aP0_7 aP0_8).2.2.2.1 (Pu.laws_toProxy.v aP0_0 aP0_1 aP0_2 aP0_3 aP0_4 aP0_5 aP0_6 aP0_7 aP0_8).2.2.2.2.1 (Pu.laws_toProxy.v aP0_0 aP0_1 aP0_2 aP0_3 aP0_4 aP0_5 aP0_6 aP0_7 aP0_8).2.2.2.2.2.1 (Pu.laws_toProxy.v aP0_0 aP0_1 aP0_2 aP0_3 aP0_4 aP0_5 aP0_6 aP0_7 aP0_8).2.2.2.2.2.2.1 (Pu.laws_toProxy.v aP0_0 aP0_1 aP0_2 aP0_3 aP0_4 aP0_5 aP0_6 aP0_7 aP0_8).2.2.2.2.2.2.2.1 (Pu.laws_toProxy.v aP0_0 aP0_1 aP0_2 aP0_3 aP0_4 aP0_5 aP0_6 aP0_7 aP0_8).2.2.2.2.2.2.2.2 (Pu.laws_toProxy.v aP0_0 aP0_1 aP0_2 aP0_3 aP0_4 aP0_5 aP0_6 aP0_7 aP0_8).1 (Pu.laws_toProxy.v aP0_0 aP0_1 aP0_2 aP0_3 aP0_4 aP0_5 aP0_6 aP0_7 aP0_8).2.1 (Pu.laws_toProxy.v aP0_0 aP0_1 aP0_2 aP0_3 aP0_4 aP0_5 aP0_6 aP0_7 aP0_8).2.2.1 (Pu.laws_toProxy.v aP0_0 aP0_1 aP0_2 aP0_3 aP0_4 aP0_5 aP0_6 aP0_7 aP0_8).2.2.2.1 (Pu.laws_toProxy.v aP0_0 aP0_1 aP0_2 aP0_3 aP0_4 aP0_5 aP0_6 aP0_7 aP0_8).2.2.2.2.1 (Pu.laws_toProxy.v aP0_0 aP0_1 aP0_2 aP0_3 aP0_4 aP0_5 aP0_6 aP0_7 aP0_8).2.2.2.2.2.1 (Pu.laws_toProxy.v aP0_0 aP0_1 aP0_2 aP0_3 aP0_4 aP0_5 aP0_6 aP0_7 aP0_8).2.2.2.2.2.2.1 (Pu.laws_toProxy.v aP0_0 aP0_1 aP0_2 aP0_3 aP0_4 aP0_5 aP0_6 aP0_7 aP0_8).2.2.2.2.2.2.2.1 (Pu.laws_toProxy.v aP0_0 aP0_1 aP0_2 aP0_3 aP0_4 aP0_5 aP0_6 aP0_7 aP0_8).2.2.2.2.2.2.2.2) then (bif (!Pu.laws_eqProxy.v (Pu.laws_toProxy.v aP0_0 aP0_1 aP0_2 aP0_3 aP0_4 aP0_5 aP0_6 aP0_7 aP0_8).1 (Pu.laws_toProxy.v aP0_0 aP0_1 aP0_2 aP0_3 aP0_4 aP0_5 aP0_6 aP0_7 aP0_8).2.1 (Pu.laws_toProxy.v aP0_0 aP0_1 aP0_2 aP0_3 aP0_4 aP0_5 aP0_6 aP0_7 aP0_8).2.2.1 (Pu.laws_toProxy.v aP0_0 aP0_1 aP0_2 aP0_3 aP0_4 aP0_5 aP0_6 aP0_7 aP0_8).2.2.2.1 (Pu.laws_toProxy.v aP0_0 aP0_1 aP0_2 aP0_3 aP0_4 aP0_5 aP0_6 aP0_7 aP0_8).2.2.2.2.1 (Pu.laws_toProxy.v aP0_0 aP0_1 aP0_2 aP0_3 aP0_4 aP0_5 aP0_6 aP0_7 aP0_8).2.2.2.2.2.1 (Pu.laws_toProxy.v aP0_0 aP0_1 aP0_2 aP0_3 aP0_4 aP0_5 aP0_6 aP0_7 aP0_8).2.2.2.2.2.2.1 (Pu.laws_toProxy.v aP0_0 aP0_1 aP0_2 aP0_3 aP0_4 aP0_5 aP0_6 aP0_7 aP0_8).2.2.2.2.2.2.2.1 (Pu.laws_toProxy.v aP0_0 aP0_1 aP0_2 aP0_3 aP0_4 aP0_5 aP0_6 aP0_7 aP0_8).2.2.2.2.2.2.2.2 (Pu.laws_toProxy.v aP0_0 aP0_1 aP0_2 aP0_3 aP0_4 aP0_5 aP0_6 aP0_7 aP0_8).1 (Pu.laws_toProxy.v aP0_0 aP0_1 aP0_2 aP0_3 aP0_4 aP0_5 aP0_6 aP0_7 aP0_8).2.1 (Pu.laws_toProxy.v aP0_0 aP0_1 aP0_2 aP0_3 aP0_4 aP0_5 aP0_6 aP0_7 aP0_8).2.2.1 (Pu.laws_toProxy.v aP0_0 aP0_1 aP0_2 aP0_3 aP0_4 aP0_5 aP0_6 aP0_7 aP0_8).2.2.2.1 (Pu.laws_toProxy.v aP0_0 aP0_1 aP0_2 aP0_3 aP0_4 aP0_5 aP0_6 aP0_7 aP0_8).2.2.2.2.1 (Pu.laws_toProxy.v aP0_0 aP0_1 aP0_2 aP0_3 aP0_4 aP0_5 aP0_6 aP0_7 aP0_8).2.2.2.2.2.1 (Pu.laws_toProxy.v aP0_0 aP0_1 aP0_2 aP0_3 aP0_4 aP0_5 aP0_6 aP0_7 aP0_8).2.2.2.2.2.2.1 (Pu.laws_toProxy.v aP0_0 aP0_1 aP0_2 aP0_3 aP0_4 aP0_5 aP0_6 aP0_7 aP0_8).2.2.2.2.2.2.2.1 (Pu.laws_toProxy.v aP0_0 aP0_1 aP0_2 aP0_3 aP0_4 aP0_5 aP0_6 aP0_7 aP0_8).2.2.2.2.2.2.2.2) then (kr false) else (kr true)) else (none)) else (none))) else (none)) else (none)) else (none)) else (none))) else (none)
theorem b_bind {R : Type} (kr : Bool → Option R) (aP0_0 : Int) (aP0_1 : Row) (aP0_2 : Row) (aP0_3 : Row) (aP0_4 : Row) (aP0_5 : Int) (aP0_6 : Row) (aP0_7 : Row) (aP0_8 : Int) : b kr aP0_0 aP0_1 aP0_2 aP0_3 aP0_4 aP0_5 aP0_6 aP0_7 aP0_8 = Option.bind (b (fun r0 => some (r0)) aP0_0 aP0_1 aP0_2 aP0_3 aP0_4 aP0_5 aP0_6 aP0_7 aP0_8) (fun p => kr p) := by
  unfold b; simp only [Lib.cond_bind, Lib.some_bind, Lib.none_bind]
def vo (aP0_0 : Int) (aP0_1 : Row) (aP0_2 : Row) (aP0_3 : Row) (aP0_4 : Row) (aP0_5 : Int) (aP0_6 : Row) (aP0_7 : Row) (aP0_8 : Int) : Option (Bool) := b (fun r0 => some (r0)) aP0_0 aP0_1 aP0_2 aP0_3 aP0_4 aP0_5 aP0_6 aP0_7 aP0_8
def c (aP0_0 : Int) (aP0_1 : Row) (aP0_2 : Row) (aP0_3 : Row) (aP0_4 : Row) (aP0_5 : Int) (aP0_6 : Row) (aP0_7 : Row) (aP0_8 : Int) : Bool := Option.isSome (vo aP0_0 aP0_1 aP0_2 aP0_3 aP0_4 aP0_5 aP0_6 aP0_7 aP0_8)
def v (aP0_0 : Int) (aP0_1 : Row) (aP0_2 : Row) (aP0_3 : Row) (aP0_4 : Row) (aP0_5 : Int) (aP0_6 : Row) (aP0_7 : Row) (aP0_8 : Int) : Bool := Option.getD (vo aP0_0 aP0_1 aP0_2 aP0_3 aP0_4 aP0_5 aP0_6 aP0_7 aP0_8) (false)
theorem out (aP0_0 : Int) (aP0_1 : Row) (aP0_2 : Row) (aP0_3 : Row) (aP0_4 : Row) (aP0_5 : Int) (aP0_6 : Row) (aP0_7 : Row) (aP0_8 : Int) {x : Bool} (h : vo aP0_0 aP0_1 aP0_2 aP0_3 aP0_4 aP0_5 aP0_6 aP0_7 aP0_8 = some x) : c aP0_0 aP0_1 aP0_2 aP0_3 aP0_4 aP0_5 aP0_6 aP0_7 aP0_8 = true ∧ v aP0_0 aP0_1 aP0_2 aP0_3 aP0_4 aP0_5 aP0_6 aP0_7 aP0_8 = x := by
  unfold c v; rw [h]; exact ⟨rfl, rfl⟩
theorem b_eq {R : Type} (kr : Bool → Option R) (aP0_0 : Int) (aP0_1 : Row) (aP0_2 : Row) (aP0_3 : Row) (aP0_4 : Row) (aP0_5 : Int) (aP0_6 : Row) (aP0_7 : Row) (aP0_8 : Int) (hc : c aP0_0 aP0_1 aP0_2 aP0_3 aP0_4 aP0_5 aP0_6 aP0_7 aP0_8 = true) : b kr aP0_0 aP0_1 aP0_2 aP0_3 aP0_4 aP0_5 aP0_6 aP0_7 aP0_8 = kr (v aP0_0 aP0_1 aP0_2 aP0_3 aP0_4 aP0_5 aP0_6 aP0_7 aP0_8) := by
  rw [b_bind]
  have e : vo aP0_0 aP0_1 aP0_2 aP0_3 aP0_4 aP0_5 aP0_6 aP0_7 aP0_8 = some (v aP0_0 aP0_1 aP0_2 aP0_3 aP0_4 aP0_5 aP0_6 aP0_7 aP0_8) := by
    unfold c at hc; unfold v
    cases h : vo aP0_0 aP0_1 aP0_2 aP0_3 aP0_4 aP0_5 aP0_6 aP0_7 aP0_8 with
    | none => rw [h] at hc; cases hc
    | some x => rfl
  unfold vo at e
  rw [e]; rfl
end Go.FG.Pu.laws_FnExactProxyOk

namespace Go.FG.Pu.impl_copyInts
def b {R : Type} (kr : Row → Option R) (l0 : Row) : Option R := bif (roomy (List.length (zeros [Ck.i IntKind.i64] 0) + List.length l0) 8) then (kr (zeros [Ck.i IntKind.i64] 0 ++ l0)) else (none)
theorem b_bind {R : Type} (kr : Row → Option R) (l0 : Row) : b kr l0 = Option.bind (b (fun r0 => some (r0)) l0) (fun p => kr p) := by
  unfold b; simp only [Lib.cond_bind, Lib.some_bind, Lib.none_bind]
def vo (l0 : Row) : Option (Row) := b (fun r0 => some (r0)) l0
def c (l0 : Row) : Bool := Option.isSome (vo l0)
def v (l0 : Row) : Row := Option.getD (vo l0) ([])
theorem out (l0 : Row) {x : Row} (h : vo l0 = some x) : c l0 = true ∧ v l0 = x := by
  unfold c v; rw [h]; exact ⟨rfl, rfl⟩
theorem b_eq {R : Type} (kr : Row → Option R) (l0 : Row) (hc : c l0 = true) : b kr l0 = kr (v l0) := by
  rw [b_bind]
  have e : vo l0 = some (v l0) := by
    unfold c at hc; unfold v
    cases h : vo l0 with
    | none => rw [h] at hc; cases hc
    | some x => rfl
  unfold vo at e
  rw [e]; rfl
end Go.FG.Pu.impl_copyInts

namespace Go.FG.Pu.impl_copySketch
def r3 {R : Type} (N : Nat) (g : Row → Int → Int → Int → Int → Option R) (g1 : Row → Int → Int → Int → Int → Row → Option R) (k0 : Row → Int → Int → Int → Int → Option R) (k1 : Row → Int → Int → Int → Int → Row → Option R) (x0 : Row) (x1 : Int) (x2 : Int) (x3 : Int) (x4 : Int) : Option R := bif (decide (x2 < x1)) then (bif (decide (0 ≤ x2) && decide (x2 < (↑(List.length x0) : Int))) then (bif (Pu.impl_copyInts.c (cvL (cellAt x0 (Int.toNat x2) 0))) then (g1 x0 x1 (w64 (x2 + 1)) x3 x4 ([] ++ List.set (zeros [Ck.l 3] 1) 0 [CV.l 3 (Pu.impl_copyInts.v (cvL (cellAt x0 (Int.toNat x2) 0)))])) else (none)) else (none)) else (k0 x0 x1 x2 x3 x4)
def r3a {R : Type} (N : Nat) (g : Row → Int → Int → Int → Int → Option R) (g1 : Row → Int → Int → Int → Int → Row → Option R) (k0 : Row → Int → Int → Int → Int → Option R) (k1 : Row → Int → Int → Int → Int → Row → Option R) (x5 : Row) (x6 : Int) (x7 : Int) (x8 : Int) (x9 : Int) (x10 : Row) : Option R := bif (decide (x7 < x6)) then (bif (decide (0 ≤ x7) && decide (x7 < (↑(List.length x5) : Int))) then (bif (Pu.impl_copyInts.c (cvL (cellAt x5 (Int.toNat x7) 0))) then (bif (roomy (List.length x10 + List.length (List.set (zeros [Ck.l 3] 1) 0 [CV.l 3 (Pu.impl_copyInts.v (cvL (cellAt x5 (Int.toNat x7) 0)))])) 24) then (g1 x5 x6 (w64 (x7 + 1)) x8 x9 (x10 ++ List.set (zeros [Ck.l 3] 1) 0 [CV.l 3 (Pu.impl_copyInts.v (cvL (cellAt x5 (Int.toNat x7) 0)))])) else (none)) else (none)) else (none)) else (k1 x5 x6 x7 x8 x9 x10)
def l3a {R : Type} (N : Nat) (k0 : Row → Int → Int → Int → Int → Option R) (k1 : Row → Int → Int → Int → Int → Row → Option R) : Nat → Row → Int → Int → Int → Int → Row → Option R
  | 0 => (fun _ _ _ _ _ _ => none)
  | n + 1 => (fun x5 x6 x7 x8 x9 x10 => r3a N (fun x0 x1 x2 x3 x4 => none) (l3a N k0 k1 n) k0 k1 x5 x6 x7 x8 x9 x10)
def l3 {R : Type} (N : Nat) (k0 : Row → Int → Int → Int → Int → Option R) (k1 : Row → Int → Int → Int → Int → Row → Option R) : Nat → Row → Int → Int → Int → Int → Option R
  | 0 => (fun _ _ _ _ _ => none)
  | n + 1 => (fun x0 x1 x2 x3 x4 => r3 N (l3 N k0 k1 n) (l3a N k0 k1 n) k0 k1 x0 x1 x2 x3 x4)
def b {R : Type} (N : Nat) (kr : Row → Int → Option R) (s0_0 : Row) (s0_1 : Int) : Option R := l3 N (fun y11 y12 y13 y14 y15 => kr [] y15) (fun y16 y17 y18 y19 y20 y21 => kr y21 y20) N s0_0 (↑(List.length s0_0) : Int) 0 0 s0_1
theorem q3_bind {R S : Type} (f : R → Option S) (N : Nat) (k0 : Row → Int → Int → Int → Int → Option R) (k1 : Row → Int → Int → Int → Int → Row → Option R) : ∀ n : Nat, (∀ (x0 : Row) (x1 : Int) (x2 : Int) (x3 : Int) (x4 : Int), Option.bind (l3 N k0 k1 n x0 x1 x2 x3 x4) f = l3 N (fun y0 y1 y2 y3 y4 => (Option.bind (k0 y0 y1 y2 y3 y4) f)) (fun y0 y1 y2 y3 y4 y5 => (Option.bind (k1 y0 y1 y2 y3 y4 y5) f)) n x0 x1 x2 x3 x4) ∧ (∀ (x5 : Row) (x6 : Int) (x7 : Int) (x8 : Int) (x9 : Int) (x10 : Row), Option.bind (l3a N k0 k1 n x5 x6 x7 x8 x9 x10) f = l3a N (fun y0 y1 y2 y3 y4 => (Option.bind (k0 y0 y1 y2 y3 y4) f)) (fun y0 y1 y2 y3 y4 y5 => (Option.bind (k1 y0 y1 y2 y3 y4 y5) f)) n x5 x6 x7 x8 x9 x10) := by
  intro n
  induction n with
  | zero => exact ⟨(fun _ _ _ _ _ => rfl), (fun _ _ _ _ _ _ => rfl)⟩
  | succ n ih =>
    refine ⟨?_, ?_⟩
    · intro x0 x1 x2 x3 x4
      simp only [l3, r3, Lib.cond_bind, Lib.some_bind, Lib.none_bind, ih.1, ih.2]
    · intro x5 x6 x7 x8 x9 x10
      simp only [l3a, r3a, Lib.cond_bind, Lib.some_bind, Lib.none_bind, ih.1, ih.2]
theorem l3_bind {R S : Type} (f : R → Option S) (N : Nat) (k0 : Row → Int → Int → Int → Int → Option R) (k1 : Row → Int → Int → Int → Int → Row → Option R) (n : Nat) (x0 : Row) (x1 : Int) (x2 : Int) (x3 : Int) (x4 : Int) : Option.bind (l3 N k0 k1 n x0 x1 x2 x3 x4) f = l3 N (fun y0 y1 y2 y3 y4 => (Option.bind (k0 y0 y1 y2 y3 y4) f)) (fun y0 y1 y2 y3 y4 y5 => (Option.bind (k1 y0 y1 y2 y3 y4 y5) f)) n x0 x1 x2 x3 x4 := (q3_bind f N k0 k1 n).1 x0 x1 x2 x3 x4
theorem l3a_bind {R S : Type} (f : R → Option S) (N : Nat) (k0 : Row → Int → Int → Int → Int → Option R) (k1 : Row → Int → Int → Int → Int → Row → Option R) (n : Nat) (x5 : Row) (x6 : Int) (x7 : Int) (x8 : Int) (x9 : Int) (x10 : Row) : Option.bind (l3a N k0 k1 n x5 x6 x7 x8 x9 x10) f = l3a N (fun y0 y1 y2 y3 y4 => (Option.bind (k0 y0 y1 y2 y3 y4) f)) (fun y0 y1 y2 y3 y4 y5 => (Option.bind (k1 y0 y1 y2 y3 y4 y5) f)) n x5 x6 x7 x8 x9 x10 := (q3_bind f N k0 k1 n).2 x5 x6 x7 x8 x9 x10
theorem b_bind {R : Type} (N : Nat) (kr : Row → Int → Option R) (s0_0 : Row) (s0_1 : Int) : b N kr s0_0 s0_1 = Option.bind (b N (fun r0 r1 => some (r0, r1)) s0_0 s0_1) (fun p => kr p.1 p.2) := by
  unfold b; simp only [Lib.cond_bind, Lib.some_bind, Lib.none_bind, l3_bind, l3a_bind]
def vo (s0_0 : Row) (s0_1 : Int) : Option (Row × Int) := b Lib.big (fun r0 r1 => some (r0, r1)) s0_0 s0_1
def c (s0_0 : Row) (s0_1 : Int) : Bool := Option.isSome (vo s0_0 s0_1)
def v (s0_0 : Row) (s0_1 : Int) : Row × Int := Option.getD (vo s0_0 s0_1) ([], 0)
theorem out (s0_0 : Row) (s0_1 : Int) {x : Row × Int} (h : vo s0_0 s0_1 = some x) : c s0_0 s0_1 = true ∧ v s0_0 s0_1 = x := by
  unfold c v; rw [h]; exact ⟨rfl, rfl⟩
theorem b_eq {R : Type} (kr : Row → Int → Option R) (s0_0 : Row) (s0_1 : Int) (hc : c s0_0 s0_1 = true) : ∃ N, b N kr s0_0 s0_1 = kr ((v s0_0 s0_1).1) ((v s0_0 s0_1).2) := by
  refine ⟨Lib.big, ?_⟩
  rw [b_bind]
  have e : vo s0_0 s0_1 = some (v s0_0 s0_1) := by
    unfold c at hc; unfold v
    cases h : vo s0_0 s0_1 with
    | none => rw [h] at hc; cases hc
    | some x => rfl
  unfold vo at e
  rw [e]; rfl
end Go.FG.Pu.impl_copySketch

