/- Functions of the program, told as functions of numbers, texts and lists, and what each comes to. No condition but those that each states. -/
import Derived.Test.YticmocblmmahkaaLib
set_option linter.unusedVariables false
set_option linter.unusedSimpArgs false
set_option maxRecDepth 100000
namespace Go.FG.Pu.laws_szFile
def b {R : Type} (kr : Int → Option R) (a0_0 : ByteArray) (a0_1 : ByteArray) (a0_2 : Int) (left1 : Int) : Option R := bif (decide (w64 (left1 - (↑(ByteArray.size a0_0) : Int)) < 0)) then (kr (-1)) else (bif (decide (w64 (w64 (left1 - (↑(ByteArray.size a0_0) : Int)) - (↑(ByteArray.size a0_1) : Int)) < 0)) then (kr (-1)) else (kr (w64 (w64 (left1 - (↑(ByteArray.size a0_0) : Int)) - (↑(ByteArray.size a0_1) : Int)))))
def v (a0_0 : ByteArray) (a0_1 : ByteArray) (a0_2 : Int) (left1 : Int) : Int := bif (decide (w64 (left1 - (↑(ByteArray.size a0_0) : Int)) < 0)) then (((-1))) else (bif (decide (w64 (w64 (left1 - (↑(ByteArray.size a0_0) : Int)) - (↑(ByteArray.size a0_1) : Int)) < 0)) then (((-1))) else (((w64 (w64 (left1 - (↑(ByteArray.size a0_0) : Int)) - (↑(ByteArray.size a0_1) : Int))))))
theorem b_eq {R : Type} (kr : Int → Option R) (a0_0 : ByteArray) (a0_1 : ByteArray) (a0_2 : Int) (left1 : Int) : b kr a0_0 a0_1 a0_2 left1 = kr (v a0_0 a0_1 a0_2 left1) := by
  first | rfl | (unfold b v; simp only [Bool.cond_eq_ite]; (repeat' split) <;> rfl)
end Go.FG.Pu.laws_szFile

namespace Go.FG.Pu.laws_szFileS
def r5 {R : Type} (N : Nat) (g : Row → Int → Int → Int → Option R) (k0 : Row → Int → Int → Int → Option R) (k1 : Row → Int → Int → Int → Option R) (x0 : Row) (x1 : Int) (x2 : Int) (x3 : Int) : Option R := bif (decide (x3 < (↑(List.length x0) : Int))) then (bif (decide (0 ≤ x3) && decide (x3 < (↑(List.length x0) : Int))) then (bif (decide (Pu.laws_szFile.v (cvS (cellAt x0 (Int.toNat x3) 0)) (cvS (cellAt x0 (Int.toNat x3) 1)) (cvI (cellAt x0 (Int.toNat x3) (1 + 1))) x1 < 0)) then (k0 x0 (Pu.laws_szFile.v (cvS (cellAt x0 (Int.toNat x3) 0)) (cvS (cellAt x0 (Int.toNat x3) 1)) (cvI (cellAt x0 (Int.toNat x3) (1 + 1))) x1) (-1) x3) else (g x0 (Pu.laws_szFile.v (cvS (cellAt x0 (Int.toNat x3) 0)) (cvS (cellAt x0 (Int.toNat x3) 1)) (cvI (cellAt x0 (Int.toNat x3) (1 + 1))) x1) x2 (w64 (x3 + 1)))) else (none)) else (k1 x0 x1 x2 x3)
def l5 {R : Type} (N : Nat) (k0 : Row → Int → Int → Int → Option R) (k1 : Row → Int → Int → Int → Option R) : Nat → Row → Int → Int → Int → Option R
  | 0 => (fun _ _ _ _ => none)
  | n + 1 => (fun x0 x1 x2 x3 => r5 N (l5 N k0 k1 n) k0 k1 x0 x1 x2 x3)
def b {R : Type} (N : Nat) (kr : Int → Option R) (a0 : Row) (left1 : Int) : Option R := bif (decide (w64 (left1 - (↑(List.length a0) : Int)) < 0)) then (kr (-1)) else (l5 N (fun y4 y5 y6 y7 => kr y6) (fun y8 y9 y10 y11 => kr y9) N a0 (w64 (left1 - (↑(List.length a0) : Int))) 0 0)
theorem q5_bind {R S : Type} (f : R → Option S) (N : Nat) (k0 : Row → Int → Int → Int → Option R) (k1 : Row → Int → Int → Int → Option R) : ∀ n : Nat, (∀ (x0 : Row) (x1 : Int) (x2 : Int) (x3 : Int), Option.bind (l5 N k0 k1 n x0 x1 x2 x3) f = l5 N (fun y0 y1 y2 y3 => (Option.bind (k0 y0 y1 y2 y3) f)) (fun y0 y1 y2 y3 => (Option.bind (k1 y0 y1 y2 y3) f)) n x0 x1 x2 x3) := by
  intro n
  induction n with
  | zero => exact (fun _ _ _ _ => rfl)
  | succ n ih =>
    intro x0 x1 x2 x3
    simp only [l5, r5, Lib.cond_bind, Lib.some_bind, Lib.none_bind, ih]
theorem l5_bind {R S : Type} (f : R → Option S) (N : Nat) (k0 : Row → Int → Int → Int → Option R) (k1 : Row → Int → Int → Int → Option R) (n : Nat) (x0 : Row) (x1 : Int) (x2 : Int) (x3 : Int) : Option.bind (l5 N k0 k1 n x0 x1 x2 x3) f = l5 N (fun y0 y1 y2 y3 => (Option.bind (k0 y0 y1 y2 y3) f)) (fun y0 y1 y2 y3 => (Option.bind (k1 y0 y1 y2 y3) f)) n x0 x1 x2 x3 := (q5_bind f N k0 k1 n) x0 x1 x2 x3
theorem b_bind {R : Type} (N : Nat) (kr : Int → Option R) (a0 : Row) (left1 : Int) : b N kr a0 left1 = Option.bind (b N (fun r0 => some (r0)) a0 left1) (fun p => kr p) := by
  unfold b; simp only [Lib.cond_bind, Lib.some_bind, Lib.none_bind, l5_bind]
def vo (a0 : Row) (left1 : Int) : Option (Int) := b Lib.big (fun r0 => some (r0)) a0 left1
def c (a0 : Row) (left1 : Int) : Bool := Option.isSome (vo a0 left1)
def v (a0 : Row) (left1 : Int) : Int := Option.getD (vo a0 left1) (0)
theorem out (a0 : Row) (left1 : Int) {x : Int} (h : vo a0 left1 = some x) : c a0 left1 = true ∧ v a0 left1 = x := by
  unfold c v; rw [h]; exact ⟨rfl, rfl⟩
theorem b_eq {R : Type} (kr : Int → Option R) (a0 : Row) (left1 : Int) (hc : c a0 left1 = true) : ∃ N, b N kr a0 left1 = kr (v a0 left1) := by
  refine ⟨Lib.big, ?_⟩
  rw [b_bind]
  have e : vo a0 left1 = some (v a0 left1) := by
    unfold c at hc; unfold v
    cases h : vo a0 left1 with
    | none => rw [h] at hc; cases hc
    | some x => rfl
  unfold vo at e
  rw [e]; rfl
end Go.FG.Pu.laws_szFileS

namespace Go.FG.Pu.laws_szDisk
def b {R : Type} (kr : Int → Option R) (a0 : Row) (left1 : Int) : Option R := bif (Pu.laws_szFileS.c a0 left1) then (bif (decide (Pu.laws_szFileS.v a0 left1 < 0)) then (kr (-1)) else (kr (Pu.laws_szFileS.v a0 left1))) else (none)
theorem b_bind {R : Type} (kr : Int → Option R) (a0 : Row) (left1 : Int) : b kr a0 left1 = Option.bind (b (fun r0 => some (r0)) a0 left1) (fun p => kr p) := by
  unfold b; simp only [Lib.cond_bind, Lib.some_bind, Lib.none_bind]
def vo (a0 : Row) (left1 : Int) : Option (Int) := b (fun r0 => some (r0)) a0 left1
def c (a0 : Row) (left1 : Int) : Bool := Option.isSome (vo a0 left1)
def v (a0 : Row) (left1 : Int) : Int := Option.getD (vo a0 left1) (0)
theorem out (a0 : Row) (left1 : Int) {x : Int} (h : vo a0 left1 = some x) : c a0 left1 = true ∧ v a0 left1 = x := by
  unfold c v; rw [h]; exact ⟨rfl, rfl⟩
theorem b_eq {R : Type} (kr : Int → Option R) (a0 : Row) (left1 : Int) (hc : c a0 left1 = true) : b kr a0 left1 = kr (v a0 left1) := by
  rw [b_bind]
  have e : vo a0 left1 = some (v a0 left1) := by
    unfold c at hc; unfold v
    cases h : vo a0 left1 with
    | none => rw [h] at hc; cases hc
    | some x => rfl
  unfold vo at e
  rw [e]; rfl
end Go.FG.Pu.laws_szDisk

namespace Go.FG.Pu.laws_szEntry
def b {R : Type} (kr : Int → Option R) (a0_0 : ByteArray) (a0_1 : Int) (a0_2 : Int) (a0_3 : ByteArray) (left1 : Int) : Option R := bif (decide (w64 (left1 - (↑(ByteArray.size a0_0) : Int)) < 0)) then (kr (-1)) else (bif (decide (w64 (w64 (left1 - (↑(ByteArray.size a0_0) : Int)) - (↑(ByteArray.size a0_3) : Int)) < 0)) then (kr (-1)) else (kr (w64 (w64 (left1 - (↑(ByteArray.size a0_0) : Int)) - (↑(ByteArray.size a0_3) : Int)))))
def v (a0_0 : ByteArray) (a0_1 : Int) (a0_2 : Int) (a0_3 : ByteArray) (left1 : Int) : Int := bif (decide (w64 (left1 - (↑(ByteArray.size a0_0) : Int)) < 0)) then (((-1))) else (bif (decide (w64 (w64 (left1 - (↑(ByteArray.size a0_0) : Int)) - (↑(ByteArray.size a0_3) : Int)) < 0)) then (((-1))) else (((w64 (w64 (left1 - (↑(ByteArray.size a0_0) : Int)) - (↑(ByteArray.size a0_3) : Int))))))
theorem b_eq {R : Type} (kr : Int → Option R) (a0_0 : ByteArray) (a0_1 : Int) (a0_2 : Int) (a0_3 : ByteArray) (left1 : Int) : b kr a0_0 a0_1 a0_2 a0_3 left1 = kr (v a0_0 a0_1 a0_2 a0_3 left1) := by
  first | rfl | (unfold b v; simp only [Bool.cond_eq_ite]; (repeat' split) <;> rfl)
end Go.FG.Pu.laws_szEntry

namespace Go.FG.Pu.laws_szEntryS
def r5 {R : Type} (N : Nat) (g : Row → Int → Int → Int → Option R) (k0 : Row → Int → Int → Int → Option R) (k1 : Row → Int → Int → Int → Option R) (x0 : Row) (x1 : Int) (x2 : Int) (x3 : Int) : Option R := bif (decide (x3 < (↑(List.length x0) : Int))) then (bif (decide (0 ≤ x3) && decide (x3 < (↑(List.length x0) : Int))) then (bif (decide (Pu.laws_szEntry.v (cvS (cellAt x0 (Int.toNat x3) 0)) (cvI (cellAt x0 (Int.toNat x3) 1)) (cvI (cellAt x0 (Int.toNat x3) (1 + 1))) (cvS (cellAt x0 (Int.toNat x3) (1 + 1 + 1))) x1 < 0)) then (k0 x0 (Pu.laws_szEntry.v (cvS (cellAt x0 (Int.toNat x3) 0)) (cvI (cellAt x0 (Int.toNat x3) 1)) (cvI (cellAt x0 (Int.toNat x3) (1 + 1))) (cvS (cellAt x0 (Int.toNat x3) (1 + 1 + 1))) x1) (-1) x3) else (g x0 (Pu.laws_szEntry.v (cvS (cellAt x0 (Int.toNat x3) 0)) (cvI (cellAt x0 (Int.toNat x3) 1)) (cvI (cellAt x0 (Int.toNat x3) (1 + 1))) (cvS (cellAt x0 (Int.toNat x3) (1 + 1 + 1))) x1) x2 (w64 (x3 + 1)))) else (none)) else (k1 x0 x1 x2 x3)
def l5 {R : Type} (N : Nat) (k0 : Row → Int → Int → Int → Option R) (k1 : Row → Int → Int → Int → Option R) : Nat → Row → Int → Int → Int → Option R
  | 0 => (fun _ _ _ _ => none)
  | n + 1 => (fun x0 x1 x2 x3 => r5 N (l5 N k0 k1 n) k0 k1 x0 x1 x2 x3)
def b {R : Type} (N : Nat) (kr : Int → Option R) (a0 : Row) (left1 : Int) : Option R := bif (decide (w64 (left1 - (↑(List.length a0) : Int)) < 0)) then (kr (-1)) else (l5 N (fun y4 y5 y6 y7 => kr y6) (fun y8 y9 y10 y11 => kr y9) N a0 (w64 (left1 - (↑(List.length a0) : Int))) 0 0)
theorem q5_bind {R S : Type} (f : R → Option S) (N : Nat) (k0 : Row → Int → Int → Int → Option R) (k1 : Row → Int → Int → Int → Option R) : ∀ n : Nat, (∀ (x0 : Row) (x1 : Int) (x2 : Int) (x3 : Int), Option.bind (l5 N k0 k1 n x0 x1 x2 x3) f = l5 N (fun y0 y1 y2 y3 => (Option.bind (k0 y0 y1 y2 y3) f)) (fun y0 y1 y2 y3 => (Option.bind (k1 y0 y1 y2 y3) f)) n x0 x1 x2 x3) := by
  intro n
  induction n with
  | zero => exact (fun _ _ _ _ => rfl)
  | succ n ih =>
    intro x0 x1 x2 x3
    simp only [l5, r5, Lib.cond_bind, Lib.some_bind, Lib.none_bind, ih]
theorem l5_bind {R S : Type} (f : R → Option S) (N : Nat) (k0 : Row → Int → Int → Int → Option R) (k1 : Row → Int → Int → Int → Option R) (n : Nat) (x0 : Row) (x1 : Int) (x2 : Int) (x3 : Int) : Option.bind (l5 N k0 k1 n x0 x1 x2 x3) f = l5 N (fun y0 y1 y2 y3 => (Option.bind (k0 y0 y1 y2 y3) f)) (fun y0 y1 y2 y3 => (Option.bind (k1 y0 y1 y2 y3) f)) n x0 x1 x2 x3 := (q5_bind f N k0 k1 n) x0 x1 x2 x3
theorem b_bind {R : Type} (N : Nat) (kr : Int → Option R) (a0 : Row) (left1 : Int) : b N kr a0 left1 = Option.bind (b N (fun r0 => some (r0)) a0 left1) (fun p => kr p) := by
  unfold b; simp only [Lib.cond_bind, Lib.some_bind, Lib.none_bind, l5_bind]
def vo (a0 : Row) (left1 : Int) : Option (Int) := b Lib.big (fun r0 => some (r0)) a0 left1
def c (a0 : Row) (left1 : Int) : Bool := Option.isSome (vo a0 left1)
def v (a0 : Row) (left1 : Int) : Int := Option.getD (vo a0 left1) (0)
theorem out (a0 : Row) (left1 : Int) {x : Int} (h : vo a0 left1 = some x) : c a0 left1 = true ∧ v a0 left1 = x := by
  unfold c v; rw [h]; exact ⟨rfl, rfl⟩
theorem b_eq {R : Type} (kr : Int → Option R) (a0 : Row) (left1 : Int) (hc : c a0 left1 = true) : ∃ N, b N kr a0 left1 = kr (v a0 left1) := by
  refine ⟨Lib.big, ?_⟩
  rw [b_bind]
  have e : vo a0 left1 = some (v a0 left1) := by
    unfold c at hc; unfold v
    cases h : vo a0 left1 with
    | none => rw [h] at hc; cases hc
    | some x => rfl
  unfold vo at e
  rw [e]; rfl
end Go.FG.Pu.laws_szEntryS

namespace Go.FG.Pu.laws_toFile
def b {R : Type} (kr : ByteArray → ByteArray → Int → Option R) (a0_0 : ByteArray) (a0_1 : ByteArray) (a0_2 : Int) : Option R := kr a0_0 a0_1 a0_2
def v (a0_0 : ByteArray) (a0_1 : ByteArray) (a0_2 : Int) : ByteArray × ByteArray × Int := (a0_0, a0_1, a0_2)
theorem b_eq {R : Type} (kr : ByteArray → ByteArray → Int → Option R) (a0_0 : ByteArray) (a0_1 : ByteArray) (a0_2 : Int) : b kr a0_0 a0_1 a0_2 = kr ((v a0_0 a0_1 a0_2).1) ((v a0_0 a0_1 a0_2).2.1) ((v a0_0 a0_1 a0_2).2.2) := by
  first | rfl | (unfold b v; simp only [Bool.cond_eq_ite]; (repeat' split) <;> rfl)
end Go.FG.Pu.laws_toFile

namespace Go.FG.Pu.laws_toFileS
def r3 {R : Type} (N : Nat) (g : Row → Int → Row → Option R) (k0 : Row → Int → Row → Option R) (x0 : Row) (x1 : Int) (x2 : Row) : Option R := bif (decide (x1 < (↑(List.length x0) : Int))) then (bif (decide (0 ≤ x1) && decide (x1 < (↑(List.length x0) : Int))) then (bif (decide (0 ≤ x1) && decide (x1 < (↑(List.length x2) : Int))) then (g x0 (w64 (x1 + 1)) (setC x2 (Int.toNat x1) 0 [CV.s (cvS (cellAt x0 (Int.toNat x1) 0)), CV.s (cvS (cellAt x0 (Int.toNat x1) 1)), CV.i IntKind.i64 (cvI (cellAt x0 (Int.toNat x1) (1 + 1)))])) else (none)) else (none)) else (k0 x0 x1 x2)
def l3 {R : Type} (N : Nat) (k0 : Row → Int → Row → Option R) : Nat → Row → Int → Row → Option R
  | 0 => (fun _ _ _ => none)
  | n + 1 => (fun x0 x1 x2 => r3 N (l3 N k0 n) k0 x0 x1 x2)
def b {R : Type} (N : Nat) (kr : Row → Option R) (a0 : Row) : Option R := bif (decide ((↑(List.length a0) : Int) = (↑(List.length a0) : Int)) && roomy (Int.toNat (↑(List.length a0) : Int)) 40) then (l3 N (fun y3 y4 y5 => kr y5) N a0 0 (zeros [Ck.s, Ck.s, Ck.i IntKind.i64] (Int.toNat (↑(List.length a0) : Int)))) else (none)
theorem q3_bind {R S : Type} (f : R → Option S) (N : Nat) (k0 : Row → Int → Row → Option R) : ∀ n : Nat, (∀ (x0 : Row) (x1 : Int) (x2 : Row), Option.bind (l3 N k0 n x0 x1 x2) f = l3 N (fun y0 y1 y2 => (Option.bind (k0 y0 y1 y2) f)) n x0 x1 x2) := by
  intro n
  induction n with
  | zero => exact (fun _ _ _ => rfl)
  | succ n ih =>
    intro x0 x1 x2
    simp only [l3, r3, Lib.cond_bind, Lib.some_bind, Lib.none_bind, ih]
theorem l3_bind {R S : Type} (f : R → Option S) (N : Nat) (k0 : Row → Int → Row → Option R) (n : Nat) (x0 : Row) (x1 : Int) (x2 : Row) : Option.bind (l3 N k0 n x0 x1 x2) f = l3 N (fun y0 y1 y2 => (Option.bind (k0 y0 y1 y2) f)) n x0 x1 x2 := (q3_bind f N k0 n) x0 x1 x2
theorem b_bind {R : Type} (N : Nat) (kr : Row → Option R) (a0 : Row) : b N kr a0 = Option.bind (b N (fun r0 => some (r0)) a0) (fun p => kr p) := by
  unfold b; simp only [Lib.cond_bind, Lib.some_bind, Lib.none_bind, l3_bind]
def vo (a0 : Row) : Option (Row) := b Lib.big (fun r0 => some (r0)) a0
def c (a0 : Row) : Bool := Option.isSome (vo a0)
def v (a0 : Row) : Row := Option.getD (vo a0) ([])
theorem out (a0 : Row) {x : Row} (h : vo a0 = some x) : c a0 = true ∧ v a0 = x := by
  unfold c v; rw [h]; exact ⟨rfl, rfl⟩
theorem b_eq {R : Type} (kr : Row → Option R) (a0 : Row) (hc : c a0 = true) : ∃ N, b N kr a0 = kr (v a0) := by
  refine ⟨Lib.big, ?_⟩
  rw [b_bind]
  have e : vo a0 = some (v a0) := by
    unfold c at hc; unfold v
    cases h : vo a0 with
    | none => rw [h] at hc; cases hc
    | some x => rfl
  unfold vo at e
  rw [e]; rfl
end Go.FG.Pu.laws_toFileS

namespace Go.FG.Pu.laws_toDisk
def b {R : Type} (kr : Row → Option R) (a0 : Row) : Option R := bif (Pu.laws_toFileS.c a0) then (kr (Pu.laws_toFileS.v a0)) else (none)
theorem b_bind {R : Type} (kr : Row → Option R) (a0 : Row) : b kr a0 = Option.bind (b (fun r0 => some (r0)) a0) (fun p => kr p) := by
  unfold b; simp only [Lib.cond_bind, Lib.some_bind, Lib.none_bind]
def vo (a0 : Row) : Option (Row) := b (fun r0 => some (r0)) a0
def c (a0 : Row) : Bool := Option.isSome (vo a0)
def v (a0 : Row) : Row := Option.getD (vo a0) ([])
theorem out (a0 : Row) {x : Row} (h : vo a0 = some x) : c a0 = true ∧ v a0 = x := by
  unfold c v; rw [h]; exact ⟨rfl, rfl⟩
theorem b_eq {R : Type} (kr : Row → Option R) (a0 : Row) (hc : c a0 = true) : b kr a0 = kr (v a0) := by
  rw [b_bind]
  have e : vo a0 = some (v a0) := by
    unfold c at hc; unfold v
    cases h : vo a0 with
    | none => rw [h] at hc; cases hc
    | some x => rfl
  unfold vo at e
  rw [e]; rfl
end Go.FG.Pu.laws_toDisk

namespace Go.FG.Pu.laws_toEntry
def b {R : Type} (kr : ByteArray → Int → Int → ByteArray → Option R) (a0_0 : ByteArray) (a0_1 : Int) (a0_2 : Int) (a0_3 : ByteArray) : Option R := kr a0_0 a0_1 a0_2 a0_3
def v (a0_0 : ByteArray) (a0_1 : Int) (a0_2 : Int) (a0_3 : ByteArray) : ByteArray × Int × Int × ByteArray := (a0_0, a0_1, a0_2, a0_3)
theorem b_eq {R : Type} (kr : ByteArray → Int → Int → ByteArray → Option R) (a0_0 : ByteArray) (a0_1 : Int) (a0_2 : Int) (a0_3 : ByteArray) : b kr a0_0 a0_1 a0_2 a0_3 = kr ((v a0_0 a0_1 a0_2 a0_3).1) ((v a0_0 a0_1 a0_2 a0_3).2.1) ((v a0_0 a0_1 a0_2 a0_3).2.2.1) ((v a0_0 a0_1 a0_2 a0_3).2.2.2) := by
  first | rfl | (unfold b v; simp only [Bool.cond_eq_ite]; (repeat' split) <;> rfl)
end Go.FG.Pu.laws_toEntry

namespace Go.FG.Pu.laws_toEntryS
def r3 {R : Type} (N : Nat) (g : Row → Int → Row → Option R) (k0 : Row → Int → Row → Option R) (x0 : Row) (x1 : Int) (x2 : Row) : Option R := bif (decide (x1 < (↑(List.length x0) : Int))) then (bif (decide (0 ≤ x1) && decide (x1 < (↑(List.length x0) : Int))) then (bif (decide (0 ≤ x1) && decide (x1 < (↑(List.length x2) : Int))) then (g x0 (w64 (x1 + 1)) (setC x2 (Int.toNat x1) 0 [CV.s (cvS (cellAt x0 (Int.toNat x1) 0)), CV.i IntKind.i64 (cvI (cellAt x0 (Int.toNat x1) 1)), CV.i IntKind.i64 (cvI (cellAt x0 (Int.toNat x1) (1 + 1))), CV.s (cvS (cellAt x0 (Int.toNat x1) (1 + 1 + 1)))])) else (none)) else (none)) else (k0 x0 x1 x2)
def l3 {R : Type} (N : Nat) (k0 : Row → Int → Row → Option R) : Nat → Row → Int → Row → Option R
  | 0 => (fun _ _ _ => none)
  | n + 1 => (fun x0 x1 x2 => r3 N (l3 N k0 n) k0 x0 x1 x2)
def b {R : Type} (N : Nat) (kr : Row → Option R) (a0 : Row) : Option R := bif (decide ((↑(List.length a0) : Int) = (↑(List.length a0) : Int)) && roomy (Int.toNat (↑(List.length a0) : Int)) 48) then (l3 N (fun y3 y4 y5 => kr y5) N a0 0 (zeros [Ck.s, Ck.i IntKind.i64, Ck.i IntKind.i64, Ck.s] (Int.toNat (↑(List.length a0) : Int)))) else (none)
theorem q3_bind {R S : Type} (f : R → Option S) (N : Nat) (k0 : Row → Int → Row → Option R) : ∀ n : Nat, (∀ (x0 : Row) (x1 : Int) (x2 : Row), Option.bind (l3 N k0 n x0 x1 x2) f = l3 N (fun y0 y1 y2 => (Option.bind (k0 y0 y1 y2) f)) n x0 x1 x2) := by
  intro n
  induction n with
  | zero => exact (fun _ _ _ => rfl)
  | succ n ih =>
    intro x0 x1 x2
    simp only [l3, r3, Lib.cond_bind, Lib.some_bind, Lib.none_bind, ih]
theorem l3_bind {R S : Type} (f : R → Option S) (N : Nat) (k0 : Row → Int → Row → Option R) (n : Nat) (x0 : Row) (x1 : Int) (x2 : Row) : Option.bind (l3 N k0 n x0 x1 x2) f = l3 N (fun y0 y1 y2 => (Option.bind (k0 y0 y1 y2) f)) n x0 x1 x2 := (q3_bind f N k0 n) x0 x1 x2
theorem b_bind {R : Type} (N : Nat) (kr : Row → Option R) (a0 : Row) : b N kr a0 = Option.bind (b N (fun r0 => some (r0)) a0) (fun p => kr p) := by
  unfold b; simp only [Lib.cond_bind, Lib.some_bind, Lib.none_bind, l3_bind]
def vo (a0 : Row) : Option (Row) := b Lib.big (fun r0 => some (r0)) a0
def c (a0 : Row) : Bool := Option.isSome (vo a0)
def v (a0 : Row) : Row := Option.getD (vo a0) ([])
theorem out (a0 : Row) {x : Row} (h : vo a0 = some x) : c a0 = true ∧ v a0 = x := by
  unfold c v; rw [h]; exact ⟨rfl, rfl⟩
theorem b_eq {R : Type} (kr : Row → Option R) (a0 : Row) (hc : c a0 = true) : ∃ N, b N kr a0 = kr (v a0) := by
  refine ⟨Lib.big, ?_⟩
  rw [b_bind]
  have e : vo a0 = some (v a0) := by
    unfold c at hc; unfold v
    cases h : vo a0 with
    | none => rw [h] at hc; cases hc
    | some x => rfl
  unfold vo at e
  rw [e]; rfl
end Go.FG.Pu.laws_toEntryS

namespace Go.FG.Pu.spec_l01In
def b {R : Type} (kr : Bool → Option R) (x0 : Int) (least1 : Int) (most2 : Int) : Option R := bif (decide (x0 ≥ least1)) then (kr (decide (x0 ≤ most2))) else (kr false)
def v (x0 : Int) (least1 : Int) (most2 : Int) : Bool := bif (decide (x0 ≥ least1)) then (((decide (x0 ≤ most2)))) else ((false))
theorem b_eq {R : Type} (kr : Bool → Option R) (x0 : Int) (least1 : Int) (most2 : Int) : b kr x0 least1 most2 = kr (v x0 least1 most2) := by
  first | rfl | (unfold b v; simp only [Bool.cond_eq_ite]; (repeat' split) <;> rfl)
end Go.FG.Pu.spec_l01In

namespace Go.FG.Pu.spec_l03Name
def b {R : Type} (kr : Bool → Option R) (s0 : ByteArray) : Option R := kr (Pu.spec_l01In.v (↑(ByteArray.size s0) : Int) 1 8)
def v (s0 : ByteArray) : Bool := ((Pu.spec_l01In.v (↑(ByteArray.size s0) : Int) 1 8))
theorem b_eq {R : Type} (kr : Bool → Option R) (s0 : ByteArray) : b kr s0 = kr (v s0) := by
  first | rfl | (unfold b v; simp only [Bool.cond_eq_ite]; (repeat' split) <;> rfl)
end Go.FG.Pu.spec_l03Name

namespace Go.FG.Pu.spec_DiskOk
def r4 {R : Type} (N : Nat) (g : Bool → Int → Row → Option R) (k0 : Bool → Int → Row → Option R) (k1 : Bool → Int → Row → Option R) (x0 : Bool) (x1 : Int) (x2 : Row) : Option R := bif (decide (x1 < (↑(List.length x2) : Int))) then (bif (decide (0 ≤ x1) && decide (x1 < (↑(List.length x2) : Int))) then (bif (!Pu.spec_l03Name.v (cvS (cellAt x2 (Int.toNat x1) 0))) then (k0 false x1 x2) else (bif (decide ((↑(ByteArray.size (cvS (cellAt x2 (Int.toNat x1) 1))) : Int) > 20000)) then (k0 false x1 x2) else (bif (!Pu.spec_l01In.v (cvI (cellAt x2 (Int.toNat x1) (1 + 1))) 0 (↑(ByteArray.size (cvS (cellAt x2 (Int.toNat x1) 1))) : Int)) then (k0 false x1 x2) else (bif (decide (x1 > 0)) then (bif (decide (0 ≤ w64 (x1 - 1)) && decide (w64 (x1 - 1) < (↑(List.length x2) : Int))) then (bif (!Go.Op.bytesLess (ByteArray.toList (cvS (cellAt x2 (Int.toNat (w64 (x1 - 1))) 0))) (ByteArray.toList (cvS (cellAt x2 (Int.toNat x1) 0)))) then (k0 false x1 x2) else (g x0 (w64 (x1 + 1)) x2)) else (none)) else (g x0 (w64 (x1 + 1)) x2))))) else (none)) else (k1 x0 x1 x2)
def l4 {R : Type} (N : Nat) (k0 : Bool → Int → Row → Option R) (k1 : Bool → Int → Row → Option R) : Nat → Bool → Int → Row → Option R
  | 0 => (fun _ _ _ => none)
  | n + 1 => (fun x0 x1 x2 => r4 N (l4 N k0 k1 n) k0 k1 x0 x1 x2)
def b {R : Type} (N : Nat) (kr : Bool → Option R) (d0 : Row) : Option R := bif (decide ((↑(List.length d0) : Int) > 30)) then (kr false) else (l4 N (fun y3 y4 y5 => kr y3) (fun y6 y7 y8 => kr true) N false 0 d0)
theorem q4_bind {R S : Type} (f : R → Option S) (N : Nat) (k0 : Bool → Int → Row → Option R) (k1 : Bool → Int → Row → Option R) : ∀ n : Nat, (∀ (x0 : Bool) (x1 : Int) (x2 : Row), Option.bind (l4 N k0 k1 n x0 x1 x2) f = l4 N (fun y0 y1 y2 => (Option.bind (k0 y0 y1 y2) f)) (fun y0 y1 y2 => (Option.bind (k1 y0 y1 y2) f)) n x0 x1 x2) := by
  intro n
  induction n with
  | zero => exact (fun _ _ _ => rfl)
  | succ n ih =>
    intro x0 x1 x2
    simp only [l4, r4, Lib.cond_bind, Lib.some_bind, Lib.none_bind, ih]
theorem l4_bind {R S : Type} (f : R → Option S) (N : Nat) (k0 : Bool → Int → Row → Option R) (k1 : Bool → Int → Row → Option R) (n : Nat) (x0 : Bool) (x1 : Int) (x2 : Row) : Option.bind (l4 N k0 k1 n x0 x1 x2) f = l4 N (fun y0 y1 y2 => (Option.bind (k0 y0 y1 y2) f)) (fun y0 y1 y2 => (Option.bind (k1 y0 y1 y2) f)) n x0 x1 x2 := (q4_bind f N k0 k1 n) x0 x1 x2
theorem b_bind {R : Type} (N : Nat) (kr : Bool → Option R) (d0 : Row) : b N kr d0 = Option.bind (b N (fun r0 => some (r0)) d0) (fun p => kr p) := by
  unfold b; simp only [Lib.cond_bind, Lib.some_bind, Lib.none_bind, l4_bind]
def vo (d0 : Row) : Option (Bool) := b Lib.big (fun r0 => some (r0)) d0
def c (d0 : Row) : Bool := Option.isSome (vo d0)
def v (d0 : Row) : Bool := Option.getD (vo d0) (false)
theorem out (d0 : Row) {x : Bool} (h : vo d0 = some x) : c d0 = true ∧ v d0 = x := by
  unfold c v; rw [h]; exact ⟨rfl, rfl⟩
theorem b_eq {R : Type} (kr : Bool → Option R) (d0 : Row) (hc : c d0 = true) : ∃ N, b N kr d0 = kr (v d0) := by
  refine ⟨Lib.big, ?_⟩
  rw [b_bind]
  have e : vo d0 = some (v d0) := by
    unfold c at hc; unfold v
    cases h : vo d0 with
    | none => rw [h] at hc; cases hc
    | some x => rfl
  unfold vo at e
  rw [e]; rfl
end Go.FG.Pu.spec_DiskOk

namespace Go.FG.Pu.spec_l03At
def r2 {R : Type} (N : Nat) (g : ByteArray → Int → Int → Row → Option R) (k0 : ByteArray → Int → Int → Row → Option R) (k1 : ByteArray → Int → Int → Row → Option R) (x0 : ByteArray) (x1 : Int) (x2 : Int) (x3 : Row) : Option R := bif (decide (x2 < (↑(List.length x3) : Int))) then (bif (decide (0 ≤ x2) && decide (x2 < (↑(List.length x3) : Int))) then (bif (List.beq (ByteArray.toList (cvS (cellAt x3 (Int.toNat x2) 0))) (ByteArray.toList x0)) then (k0 x0 x2 x2 x3) else (g x0 x1 (w64 (x2 + 1)) x3)) else (none)) else (k1 x0 x1 x2 x3)
def l2 {R : Type} (N : Nat) (k0 : ByteArray → Int → Int → Row → Option R) (k1 : ByteArray → Int → Int → Row → Option R) : Nat → ByteArray → Int → Int → Row → Option R
  | 0 => (fun _ _ _ _ => none)
  | n + 1 => (fun x0 x1 x2 x3 => r2 N (l2 N k0 k1 n) k0 k1 x0 x1 x2 x3)
def b {R : Type} (N : Nat) (kr : Int → Option R) (d0 : Row) (name1 : ByteArray) : Option R := l2 N (fun y4 y5 y6 y7 => kr y5) (fun y8 y9 y10 y11 => kr (-1)) N name1 0 0 d0
theorem q2_bind {R S : Type} (f : R → Option S) (N : Nat) (k0 : ByteArray → Int → Int → Row → Option R) (k1 : ByteArray → Int → Int → Row → Option R) : ∀ n : Nat, (∀ (x0 : ByteArray) (x1 : Int) (x2 : Int) (x3 : Row), Option.bind (l2 N k0 k1 n x0 x1 x2 x3) f = l2 N (fun y0 y1 y2 y3 => (Option.bind (k0 y0 y1 y2 y3) f)) (fun y0 y1 y2 y3 => (Option.bind (k1 y0 y1 y2 y3) f)) n x0 x1 x2 x3) := by
  intro n
  induction n with
  | zero => exact (fun _ _ _ _ => rfl)
  | succ n ih =>
    intro x0 x1 x2 x3
    simp only [l2, r2, Lib.cond_bind, Lib.some_bind, Lib.none_bind, ih]
theorem l2_bind {R S : Type} (f : R → Option S) (N : Nat) (k0 : ByteArray → Int → Int → Row → Option R) (k1 : ByteArray → Int → Int → Row → Option R) (n : Nat) (x0 : ByteArray) (x1 : Int) (x2 : Int) (x3 : Row) : Option.bind (l2 N k0 k1 n x0 x1 x2 x3) f = l2 N (fun y0 y1 y2 y3 => (Option.bind (k0 y0 y1 y2 y3) f)) (fun y0 y1 y2 y3 => (Option.bind (k1 y0 y1 y2 y3) f)) n x0 x1 x2 x3 := (q2_bind f N k0 k1 n) x0 x1 x2 x3
theorem b_bind {R : Type} (N : Nat) (kr : Int → Option R) (d0 : Row) (name1 : ByteArray) : b N kr d0 name1 = Option.bind (b N (fun r0 => some (r0)) d0 name1) (fun p => kr p) := by
  unfold b; simp only [Lib.cond_bind, Lib.some_bind, Lib.none_bind, l2_bind]
def vo (d0 : Row) (name1 : ByteArray) : Option (Int) := b Lib.big (fun r0 => some (r0)) d0 name1
def c (d0 : Row) (name1 : ByteArray) : Bool := Option.isSome (vo d0 name1)
def v (d0 : Row) (name1 : ByteArray) : Int := Option.getD (vo d0 name1) (0)
theorem out (d0 : Row) (name1 : ByteArray) {x : Int} (h : vo d0 name1 = some x) : c d0 name1 = true ∧ v d0 name1 = x := by
  unfold c v; rw [h]; exact ⟨rfl, rfl⟩
theorem b_eq {R : Type} (kr : Int → Option R) (d0 : Row) (name1 : ByteArray) (hc : c d0 name1 = true) : ∃ N, b N kr d0 name1 = kr (v d0 name1) := by
  refine ⟨Lib.big, ?_⟩
  rw [b_bind]
  have e : vo d0 name1 = some (v d0 name1) := by
    unfold c at hc; unfold v
    cases h : vo d0 name1 with
    | none => rw [h] at hc; cases hc
    | some x => rfl
  unfold vo at e
  rw [e]; rfl
end Go.FG.Pu.spec_l03At

namespace Go.FG.Pu.spec_FileAt
def b {R : Type} (kr : ByteArray → Bool → Option R) (d0 : Row) (name1 : ByteArray) : Option R := bif (Pu.spec_l03At.c d0 name1) then (bif (decide (Pu.spec_l03At.v d0 name1 < 0)) then (kr ({ data := #[] }) false) else (bif (decide (0 ≤ Pu.spec_l03At.v d0 name1) && decide (Pu.spec_l03At.v d0 name1 < (↑(List.length d0) : Int))) then (kr (cvS (cellAt d0 (Int.toNat (Pu.spec_l03At.v d0 name1)) 1)) true) else (none))) else (none)
theorem b_bind {R : Type} (kr : ByteArray → Bool → Option R) (d0 : Row) (name1 : ByteArray) : b kr d0 name1 = Option.bind (b (fun r0 r1 => some (r0, r1)) d0 name1) (fun p => kr p.1 p.2) := by
  unfold b; simp only [Lib.cond_bind, Lib.some_bind, Lib.none_bind]
def vo (d0 : Row) (name1 : ByteArray) : Option (ByteArray × Bool) := b (fun r0 r1 => some (r0, r1)) d0 name1
def c (d0 : Row) (name1 : ByteArray) : Bool := Option.isSome (vo d0 name1)
def v (d0 : Row) (name1 : ByteArray) : ByteArray × Bool := Option.getD (vo d0 name1) (⟨#[]⟩, false)
theorem out (d0 : Row) (name1 : ByteArray) {x : ByteArray × Bool} (h : vo d0 name1 = some x) : c d0 name1 = true ∧ v d0 name1 = x := by
  unfold c v; rw [h]; exact ⟨rfl, rfl⟩
theorem b_eq {R : Type} (kr : ByteArray → Bool → Option R) (d0 : Row) (name1 : ByteArray) (hc : c d0 name1 = true) : b kr d0 name1 = kr ((v d0 name1).1) ((v d0 name1).2) := by
  rw [b_bind]
  have e : vo d0 name1 = some (v d0 name1) := by
    unfold c at hc; unfold v
    cases h : vo d0 name1 with
    | none => rw [h] at hc; cases hc
    | some x => rfl
  unfold vo at e
  rw [e]; rfl
end Go.FG.Pu.spec_FileAt

namespace Go.FG.Pu.spec_l13Key
def b {R : Type} (kr : Bool → Option R) (s0 : ByteArray) : Option R := kr (Pu.spec_l01In.v (↑(ByteArray.size s0) : Int) 1 30)
def v (s0 : ByteArray) : Bool := ((Pu.spec_l01In.v (↑(ByteArray.size s0) : Int) 1 30))
theorem b_eq {R : Type} (kr : Bool → Option R) (s0 : ByteArray) : b kr s0 = kr (v s0) := by
  first | rfl | (unfold b v; simp only [Bool.cond_eq_ite]; (repeat' split) <;> rfl)
end Go.FG.Pu.spec_l13Key

namespace Go.FG.Pu.spec_EntryOk
def b {R : Type} (kr : Bool → Option R) (e0_0 : ByteArray) (e0_1 : Int) (e0_2 : Int) (e0_3 : ByteArray) : Option R := bif (Pu.spec_l13Key.v e0_0) then (bif (Pu.spec_l01In.v e0_1 0 1000000000) then (bif (Pu.spec_l01In.v e0_2 1 999999) then (kr (decide ((↑(ByteArray.size e0_3) : Int) ≤ 400))) else (kr false)) else (kr false)) else (kr false)
def v (e0_0 : ByteArray) (e0_1 : Int) (e0_2 : Int) (e0_3 : ByteArray) : Bool := bif (Pu.spec_l13Key.v e0_0) then (bif (Pu.spec_l01In.v e0_1 0 1000000000) then (bif (Pu.spec_l01In.v e0_2 1 999999) then (((decide ((↑(ByteArray.size e0_3) : Int) ≤ 400)))) else ((false))) else ((false))) else ((false))
theorem b_eq {R : Type} (kr : Bool → Option R) (e0_0 : ByteArray) (e0_1 : Int) (e0_2 : Int) (e0_3 : ByteArray) : b kr e0_0 e0_1 e0_2 e0_3 = kr (v e0_0 e0_1 e0_2 e0_3) := by
  first | rfl | (unfold b v; simp only [Bool.cond_eq_ite]; (repeat' split) <;> rfl)
theorem rng {k : ByteArray} {s l : Int} {b : ByteArray} (h : v k s l b = true) : (1 ≤ k.size ∧ k.size ≤ 30) ∧ (0 ≤ s ∧ s ≤ 1000000000) ∧ (1 ≤ l ∧ l ≤ 999999) ∧ b.size ≤ 400 := by
  unfold v at h
  cases h1 : Pu.spec_l13Key.v k <;> rw [h1] at h <;> simp only [cond_true, cond_false, Bool.false_eq_true] at h
  cases h2 : Pu.spec_l01In.v s 0 1000000000 <;> rw [h2] at h <;> simp only [cond_true, cond_false, Bool.false_eq_true] at h
  cases h3 : Pu.spec_l01In.v l 1 999999 <;> rw [h3] at h <;> simp only [cond_true, cond_false, Bool.false_eq_true] at h
  simp [Pu.spec_l13Key.v, Pu.spec_l01In.v] at h1 h2 h3
  have := of_decide_eq_true h
  omega
end Go.FG.Pu.spec_EntryOk

namespace Go.FG.Pu.spec_l01Var
def r2 {R : Type} (N : Nat) (g : Int → Row → Option R) (k0 : Int → Row → Option R) (x0 : Int) (x1 : Row) : Option R := bif (decide (x0 > 127)) then (bif (roomy (List.length x1 + List.length (List.set (zeros [Ck.i IntKind.u8] 1) 0 [CV.i IntKind.u8 (IntKind.wrap IntKind.u8 (w64 (Int.tmod x0 128 + 128)))])) 1) then (g (w64 (Int.tdiv x0 128)) (x1 ++ List.set (zeros [Ck.i IntKind.u8] 1) 0 [CV.i IntKind.u8 (IntKind.wrap IntKind.u8 (w64 (Int.tmod x0 128 + 128)))])) else (none)) else (k0 x0 x1)
def l2 {R : Type} (N : Nat) (k0 : Int → Row → Option R) : Nat → Int → Row → Option R
  | 0 => (fun _ _ => none)
  | n + 1 => (fun x0 x1 => r2 N (l2 N k0 n) k0 x0 x1)
def b {R : Type} (N : Nat) (kr : ByteArray → Option R) (n0 : Int) : Option R := l2 N (fun y2 y3 => bif (roomy (List.length y3 + List.length (List.set (zeros [Ck.i IntKind.u8] 1) 0 [CV.i IntKind.u8 (IntKind.wrap IntKind.u8 y2)])) 1) then (bif (decide (List.length (y3 ++ List.set (zeros [Ck.i IntKind.u8] 1) 0 [CV.i IntKind.u8 (IntKind.wrap IntKind.u8 y2)]) ≤ 4611686018427387904)) then (kr (bytesOf (y3 ++ List.set (zeros [Ck.i IntKind.u8] 1) 0 [CV.i IntKind.u8 (IntKind.wrap IntKind.u8 y2)]))) else (none)) else (none)) N n0 (zeros [Ck.i IntKind.u8] 0)
def v (n0 : Int) : ByteArray := bytesOf (Lib.vb n0)
def c (n0 : Int) : Bool := decide (n0 ≤ 9223372036854775807)
theorem b_eq {R : Type} (kr : ByteArray → Option R) (n0 : Int) (hc : c n0 = true) : ∃ N, b N kr n0 = kr (v n0) := by
  refine ⟨n0.toNat + 1, ?_⟩
  refine Lib.var_run (fun n x acc => l2 (n0.toNat + 1) _ n x acc) kr (fun n x acc h hl => ?_) (fun n x acc h hl => ?_) n0 (of_decide_eq_true hc)
  · simp only [l2, r2, h, decide_true, cond_true, Lib.len_set1, show List.length acc + List.length [[CV.i IntKind.u8 (IntKind.wrap IntKind.u8 (w64 (Int.tmod x 128 + 128)))]] = acc.length + 1 from rfl, Lib.roomy1 (show acc.length + 1 ≤ 140737488355328 by omega), show decide ((128 : Int) = 0) = false from rfl, Bool.and_false, Bool.not_false]
  · simp only [l2, r2, h, decide_false, cond_false, Lib.len_set1, show List.length acc + List.length [[CV.i IntKind.u8 (IntKind.wrap IntKind.u8 x)]] = acc.length + 1 from rfl, Lib.roomy1 (show acc.length + 1 ≤ 140737488355328 by omega), cond_true]
    exact Lib.bif_t (Lib.dec_t (by rw [List.length_append, List.length_singleton]; omega))
end Go.FG.Pu.spec_l01Var

namespace Go.FG.Pu.spec_EntryText
def b {R : Type} (kr : ByteArray → Bool → Option R) (e0_0 : ByteArray) (e0_1 : Int) (e0_2 : Int) (e0_3 : ByteArray) : Option R := bif (!Pu.spec_EntryOk.v e0_0 e0_1 e0_2 e0_3) then (kr ({ data := #[] }) false) else (bif (Pu.spec_l01Var.c (↑(ByteArray.size e0_0) : Int)) then (bif (decide (ByteArray.size (Pu.spec_l01Var.v (↑(ByteArray.size e0_0) : Int)) + ByteArray.size e0_0 ≤ 4611686018427387904)) then (bif (Pu.spec_l01Var.c e0_1) then (bif (decide (ByteArray.size (Pu.spec_l01Var.v (↑(ByteArray.size e0_0) : Int) ++ e0_0) + ByteArray.size (Pu.spec_l01Var.v e0_1) ≤ 4611686018427387904)) then (bif (Pu.spec_l01Var.c e0_2) then (bif (decide (ByteArray.size (Pu.spec_l01Var.v (↑(ByteArray.size e0_0) : Int) ++ e0_0 ++ Pu.spec_l01Var.v e0_1) + ByteArray.size (Pu.spec_l01Var.v e0_2) ≤ 4611686018427387904)) then (bif (decide (ByteArray.size (Pu.spec_l01Var.v (↑(ByteArray.size e0_0) : Int) ++ e0_0 ++ Pu.spec_l01Var.v e0_1 ++ Pu.spec_l01Var.v e0_2) + ByteArray.size e0_3 ≤ 4611686018427387904)) then (kr (Pu.spec_l01Var.v (↑(ByteArray.size e0_0) : Int) ++ e0_0 ++ Pu.spec_l01Var.v e0_1 ++ Pu.spec_l01Var.v e0_2 ++ e0_3) true) else (none)) else (none)) else (none)) else (none)) else (none)) else (none)) else (none))
def txt (k : ByteArray) (s l : Int) (b : ByteArray) : ByteArray := bytesOf (Lib.vb k.size) ++ k ++ bytesOf (Lib.vb s) ++ bytesOf (Lib.vb l) ++ b
def v (e0_0 : ByteArray) (e0_1 : Int) (e0_2 : Int) (e0_3 : ByteArray) : ByteArray × Bool := if Pu.spec_EntryOk.v e0_0 e0_1 e0_2 e0_3 = true then (txt e0_0 e0_1 e0_2 e0_3, true) else (⟨#[]⟩, false)
theorem b_eq {R : Type} (kr : ByteArray → Bool → Option R) (e0_0 : ByteArray) (e0_1 : Int) (e0_2 : Int) (e0_3 : ByteArray) : b kr e0_0 e0_1 e0_2 e0_3 = kr (v e0_0 e0_1 e0_2 e0_3).1 (v e0_0 e0_1 e0_2 e0_3).2 := by
  unfold b v
  cases h : Pu.spec_EntryOk.v e0_0 e0_1 e0_2 e0_3 with
  | false => rfl
  | true =>
    have hr := Pu.spec_EntryOk.rng h
    have cc : ∀ x : Int, x ≤ 9223372036854775807 → Pu.spec_l01Var.c x = true := fun x hx => decide_eq_true hx
    have z1 : (Pu.spec_l01Var.v (e0_0.size : Int)).size ≤ 64 := Lib.var_size (x := (e0_0.size : Int)) (by omega)
    have z2 : (Pu.spec_l01Var.v e0_1).size ≤ 64 := Lib.var_size (x := e0_1) (by omega)
    have z3 : (Pu.spec_l01Var.v e0_2).size ≤ 64 := Lib.var_size (x := e0_2) (by omega)
    simp (disch := omega) only [Bool.not_true, cond_false, cc _ (show (e0_0.size : Int) ≤ 9223372036854775807 by omega), cc e0_1 (by omega), cc e0_2 (by omega), cond_true, if_true, Lib.size_app, Lib.dnat]
    rfl
end Go.FG.Pu.spec_EntryText

namespace Go.FG.Pu.spec_SumMore
def r6 {R : Type} (N : Nat) (g : Int → ByteArray → Int → Int → Option R) (k0 : Int → ByteArray → Int → Int → Option R) (x3 : Int) (x4 : ByteArray) (x5 : Int) (x6 : Int) : Option R := bif (decide (x6 < 8)) then (bif (decide (Int.tmod x3 2 = 1)) then (g (IntKind.wrap IntKind.u32 (↑(BitVec.toNat (BitVec.xor (BitVec.ofInt 32 (IntKind.wrap IntKind.u32 (Int.tdiv x3 2))) (BitVec.ofInt 32 3558460437))) : Int)) x4 x5 (w64 (x6 + 1))) else (g (IntKind.wrap IntKind.u32 (Int.tdiv x3 2)) x4 x5 (w64 (x6 + 1)))) else (k0 x3 x4 x5 x6)
def l6 {R : Type} (N : Nat) (k0 : Int → ByteArray → Int → Int → Option R) : Nat → Int → ByteArray → Int → Int → Option R
  | 0 => (fun _ _ _ _ => none)
  | n + 1 => (fun x3 x4 x5 x6 => r6 N (l6 N k0 n) k0 x3 x4 x5 x6)
def r2 {R : Type} (N : Nat) (g : Int → ByteArray → Int → Option R) (k0 : Int → ByteArray → Int → Option R) (x0 : Int) (x1 : ByteArray) (x2 : Int) : Option R := bif (decide (x2 < (↑(ByteArray.size x1) : Int))) then (bif (decide (0 ≤ x2) && decide (x2 < (↑(ByteArray.size x1) : Int))) then (l6 N (fun y7 y8 y9 y10 => g y7 y8 (w64 (y9 + 1))) N (IntKind.wrap IntKind.u32 (↑(BitVec.toNat (BitVec.xor (BitVec.ofInt 32 x0) (BitVec.ofInt 32 (IntKind.wrap IntKind.u32 (↑(btN x1 (Int.toNat x2)) : Int))))) : Int)) x1 x2 0) else (none)) else (k0 x0 x1 x2)
def l2 {R : Type} (N : Nat) (k0 : Int → ByteArray → Int → Option R) : Nat → Int → ByteArray → Int → Option R
  | 0 => (fun _ _ _ => none)
  | n + 1 => (fun x0 x1 x2 => r2 N (l2 N k0 n) k0 x0 x1 x2)
def b {R : Type} (N : Nat) (kr : Int → Option R) (sum0 : Int) (text1 : ByteArray) : Option R := l2 N (fun y11 y12 y13 => kr y11) N sum0 text1 0
theorem q6_bind {R S : Type} (f : R → Option S) (N : Nat) (k0 : Int → ByteArray → Int → Int → Option R) : ∀ n : Nat, (∀ (x3 : Int) (x4 : ByteArray) (x5 : Int) (x6 : Int), Option.bind (l6 N k0 n x3 x4 x5 x6) f = l6 N (fun y0 y1 y2 y3 => (Option.bind (k0 y0 y1 y2 y3) f)) n x3 x4 x5 x6) := by
  intro n
  induction n with
  | zero => exact (fun _ _ _ _ => rfl)
  | succ n ih =>
    intro x3 x4 x5 x6
    simp only [l6, r6, Lib.cond_bind, Lib.some_bind, Lib.none_bind, ih]
theorem l6_bind {R S : Type} (f : R → Option S) (N : Nat) (k0 : Int → ByteArray → Int → Int → Option R) (n : Nat) (x3 : Int) (x4 : ByteArray) (x5 : Int) (x6 : Int) : Option.bind (l6 N k0 n x3 x4 x5 x6) f = l6 N (fun y0 y1 y2 y3 => (Option.bind (k0 y0 y1 y2 y3) f)) n x3 x4 x5 x6 := (q6_bind f N k0 n) x3 x4 x5 x6
theorem q2_bind {R S : Type} (f : R → Option S) (N : Nat) (k0 : Int → ByteArray → Int → Option R) : ∀ n : Nat, (∀ (x0 : Int) (x1 : ByteArray) (x2 : Int), Option.bind (l2 N k0 n x0 x1 x2) f = l2 N (fun y0 y1 y2 => (Option.bind (k0 y0 y1 y2) f)) n x0 x1 x2) := by
  intro n
  induction n with
  | zero => exact (fun _ _ _ => rfl)
  | succ n ih =>
    intro x0 x1 x2
    simp only [l2, r2, Lib.cond_bind, Lib.some_bind, Lib.none_bind, ih, l6_bind]
theorem l2_bind {R S : Type} (f : R → Option S) (N : Nat) (k0 : Int → ByteArray → Int → Option R) (n : Nat) (x0 : Int) (x1 : ByteArray) (x2 : Int) : Option.bind (l2 N k0 n x0 x1 x2) f = l2 N (fun y0 y1 y2 => (Option.bind (k0 y0 y1 y2) f)) n x0 x1 x2 := (q2_bind f N k0 n) x0 x1 x2
theorem b_bind {R : Type} (N : Nat) (kr : Int → Option R) (sum0 : Int) (text1 : ByteArray) : b N kr sum0 text1 = Option.bind (b N (fun r0 => some (r0)) sum0 text1) (fun p => kr p) := by
  unfold b; simp only [Lib.cond_bind, Lib.some_bind, Lib.none_bind, l6_bind, l2_bind]
def vo (sum0 : Int) (text1 : ByteArray) : Option (Int) := b Lib.big (fun r0 => some (r0)) sum0 text1
def c (sum0 : Int) (text1 : ByteArray) : Bool := Option.isSome (vo sum0 text1)
def v (sum0 : Int) (text1 : ByteArray) : Int := Option.getD (vo sum0 text1) (0)
theorem out (sum0 : Int) (text1 : ByteArray) {x : Int} (h : vo sum0 text1 = some x) : c sum0 text1 = true ∧ v sum0 text1 = x := by
  unfold c v; rw [h]; exact ⟨rfl, rfl⟩
theorem b_eq {R : Type} (kr : Int → Option R) (sum0 : Int) (text1 : ByteArray) (hc : c sum0 text1 = true) : ∃ N, b N kr sum0 text1 = kr (v sum0 text1) := by
  refine ⟨Lib.big, ?_⟩
  rw [b_bind]
  have e : vo sum0 text1 = some (v sum0 text1) := by
    unfold c at hc; unfold v
    cases h : vo sum0 text1 with
    | none => rw [h] at hc; cases hc
    | some x => rfl
  unfold vo at e
  rw [e]; rfl
end Go.FG.Pu.spec_SumMore

namespace Go.FG.Pu.spec_SumOf
def b {R : Type} (kr : Int → Option R) (text0 : ByteArray) : Option R := bif (Pu.spec_SumMore.c 4294967295 text0) then (kr (Pu.spec_SumMore.v 4294967295 text0)) else (none)
theorem b_bind {R : Type} (kr : Int → Option R) (text0 : ByteArray) : b kr text0 = Option.bind (b (fun r0 => some (r0)) text0) (fun p => kr p) := by
  unfold b; simp only [Lib.cond_bind, Lib.some_bind, Lib.none_bind]
def vo (text0 : ByteArray) : Option (Int) := b (fun r0 => some (r0)) text0
def c (text0 : ByteArray) : Bool := Option.isSome (vo text0)
def v (text0 : ByteArray) : Int := Option.getD (vo text0) (0)
theorem out (text0 : ByteArray) {x : Int} (h : vo text0 = some x) : c text0 = true ∧ v text0 = x := by
  unfold c v; rw [h]; exact ⟨rfl, rfl⟩
theorem b_eq {R : Type} (kr : Int → Option R) (text0 : ByteArray) (hc : c text0 = true) : b kr text0 = kr (v text0) := by
  rw [b_bind]
  have e : vo text0 = some (v text0) := by
    unfold c at hc; unfold v
    cases h : vo text0 with
    | none => rw [h] at hc; cases hc
    | some x => rfl
  unfold vo at e
  rw [e]; rfl
end Go.FG.Pu.spec_SumOf

namespace Go.FG.Pu.spec_l02Four
def b {R : Type} (kr : ByteArray → Option R) (x0 : Int) : Option R := kr (bytesOf (List.set (List.set (List.set (List.set (zeros [Ck.i IntKind.u8] 4) 0 [CV.i IntKind.u8 (IntKind.wrap IntKind.u8 (Int.fdiv x0 (Int.pow 2 (if Int.toNat 24 ≤ 32 then Int.toNat 24 else 32))))]) 1 [CV.i IntKind.u8 (IntKind.wrap IntKind.u8 (Int.fdiv x0 (Int.pow 2 (if Int.toNat 16 ≤ 32 then Int.toNat 16 else 32))))]) 2 [CV.i IntKind.u8 (IntKind.wrap IntKind.u8 (Int.fdiv x0 (Int.pow 2 (if Int.toNat 8 ≤ 32 then Int.toNat 8 else 32))))]) 3 [CV.i IntKind.u8 (IntKind.wrap IntKind.u8 x0)]))
def v (x0 : Int) : ByteArray := ((bytesOf (List.set (List.set (List.set (List.set (zeros [Ck.i IntKind.u8] 4) 0 [CV.i IntKind.u8 (IntKind.wrap IntKind.u8 (Int.fdiv x0 (Int.pow 2 (if Int.toNat 24 ≤ 32 then Int.toNat 24 else 32))))]) 1 [CV.i IntKind.u8 (IntKind.wrap IntKind.u8 (Int.fdiv x0 (Int.pow 2 (if Int.toNat 16 ≤ 32 then Int.toNat 16 else 32))))]) 2 [CV.i IntKind.u8 (IntKind.wrap IntKind.u8 (Int.fdiv x0 (Int.pow 2 (if Int.toNat 8 ≤ 32 then Int.toNat 8 else 32))))]) 3 [CV.i IntKind.u8 (IntKind.wrap IntKind.u8 x0)])))
theorem b_eq {R : Type} (kr : ByteArray → Option R) (x0 : Int) : b kr x0 = kr (v x0) := by
  first | rfl | (unfold b v; simp only [Bool.cond_eq_ite]; (repeat' split) <;> rfl)
end Go.FG.Pu.spec_l02Four

namespace Go.FG.Pu.spec_Frame
def b {R : Type} (kr : ByteArray → Bool → Option R) (text0 : ByteArray) : Option R := bif (!Pu.spec_l01In.v (↑(ByteArray.size text0) : Int) 1 9000) then (kr ({ data := #[] }) false) else (bif (Pu.spec_l01Var.c (↑(ByteArray.size text0) : Int)) then (bif (Pu.spec_SumOf.c text0) then (bif (decide (ByteArray.size (Pu.spec_l01Var.v (↑(ByteArray.size text0) : Int)) + ByteArray.size (Pu.spec_l02Four.v (Pu.spec_SumOf.v text0)) ≤ 4611686018427387904)) then (bif (decide (ByteArray.size (Pu.spec_l01Var.v (↑(ByteArray.size text0) : Int) ++ Pu.spec_l02Four.v (Pu.spec_SumOf.v text0)) + ByteArray.size text0 ≤ 4611686018427387904)) then (kr (Pu.spec_l01Var.v (↑(ByteArray.size text0) : Int) ++ Pu.spec_l02Four.v (Pu.spec_SumOf.v text0) ++ text0) true) else (none)) else (none)) else (none)) else (none))
theorem b_bind {R : Type} (kr : ByteArray → Bool → Option R) (text0 : ByteArray) : b kr text0 = Option.bind (b (fun r0 r1 => some (r0, r1)) text0) (fun p => kr p.1 p.2) := by
  unfold b; simp only [Lib.cond_bind, Lib.some_bind, Lib.none_bind]
def vo (text0 : ByteArray) : Option (ByteArray × Bool) := b (fun r0 r1 => some (r0, r1)) text0
def c (text0 : ByteArray) : Bool := Option.isSome (vo text0)
def v (text0 : ByteArray) : ByteArray × Bool := Option.getD (vo text0) (⟨#[]⟩, false)
theorem out (text0 : ByteArray) {x : ByteArray × Bool} (h : vo text0 = some x) : c text0 = true ∧ v text0 = x := by
  unfold c v; rw [h]; exact ⟨rfl, rfl⟩
theorem b_eq {R : Type} (kr : ByteArray → Bool → Option R) (text0 : ByteArray) (hc : c text0 = true) : b kr text0 = kr ((v text0).1) ((v text0).2) := by
  rw [b_bind]
  have e : vo text0 = some (v text0) := by
    unfold c at hc; unfold v
    cases h : vo text0 with
    | none => rw [h] at hc; cases hc
    | some x => rfl
  unfold vo at e
  rw [e]; rfl
end Go.FG.Pu.spec_Frame

namespace Go.FG.Pu.spec_AnewActs
def r9 {R : Type} (N : Nat) (g : Row → Bool → ByteArray → Int → Row → Option R) (k0 : Row → Bool → ByteArray → Int → Row → Row → Option R) (k1 : Row → Bool → ByteArray → Int → Row → Option R) (x0 : Row) (x1 : Bool) (x2 : ByteArray) (x3 : Int) (x4 : Row) : Option R := bif (decide (x3 < (↑(List.length x0) : Int))) then (bif (decide (0 ≤ x3) && decide (x3 < (↑(List.length x0) : Int))) then (bif (Pu.spec_Frame.c (Pu.spec_EntryText.v (cvS (cellAt x0 (Int.toNat x3) 0)) (cvI (cellAt x0 (Int.toNat x3) 1)) (cvI (cellAt x0 (Int.toNat x3) (1 + 1))) (cvS (cellAt x0 (Int.toNat x3) (1 + 1 + 1)))).1) then (bif (!(Pu.spec_EntryText.v (cvS (cellAt x0 (Int.toNat x3) 0)) (cvI (cellAt x0 (Int.toNat x3) 1)) (cvI (cellAt x0 (Int.toNat x3) (1 + 1))) (cvS (cellAt x0 (Int.toNat x3) (1 + 1 + 1)))).2) then (k0 x0 false x2 x3 (zeros [Ck.i IntKind.i64, Ck.s, Ck.s, Ck.s] 0) x4) else (bif (!(Pu.spec_Frame.v (Pu.spec_EntryText.v (cvS (cellAt x0 (Int.toNat x3) 0)) (cvI (cellAt x0 (Int.toNat x3) 1)) (cvI (cellAt x0 (Int.toNat x3) (1 + 1))) (cvS (cellAt x0 (Int.toNat x3) (1 + 1 + 1)))).1).2) then (k0 x0 false x2 x3 (zeros [Ck.i IntKind.i64, Ck.s, Ck.s, Ck.s] 0) x4) else (bif (decide (ByteArray.size x2 + ByteArray.size (Pu.spec_Frame.v (Pu.spec_EntryText.v (cvS (cellAt x0 (Int.toNat x3) 0)) (cvI (cellAt x0 (Int.toNat x3) 1)) (cvI (cellAt x0 (Int.toNat x3) (1 + 1))) (cvS (cellAt x0 (Int.toNat x3) (1 + 1 + 1)))).1).1 ≤ 4611686018427387904)) then (g x0 x1 (x2 ++ (Pu.spec_Frame.v (Pu.spec_EntryText.v (cvS (cellAt x0 (Int.toNat x3) 0)) (cvI (cellAt x0 (Int.toNat x3) 1)) (cvI (cellAt x0 (Int.toNat x3) (1 + 1))) (cvS (cellAt x0 (Int.toNat x3) (1 + 1 + 1)))).1).1) (w64 (x3 + 1)) x4) else (none)))) else (none)) else (none)) else (k1 x0 x1 x2 x3 x4)
def l9 {R : Type} (N : Nat) (k0 : Row → Bool → ByteArray → Int → Row → Row → Option R) (k1 : Row → Bool → ByteArray → Int → Row → Option R) : Nat → Row → Bool → ByteArray → Int → Row → Option R
  | 0 => (fun _ _ _ _ _ => none)
  | n + 1 => (fun x0 x1 x2 x3 x4 => r9 N (l9 N k0 k1 n) k0 k1 x0 x1 x2 x3 x4)
def b {R : Type} (N : Nat) (kr : Row → Bool → Option R) (d0 : Row) (list1 : Row) : Option R := bif (Pu.spec_DiskOk.c d0) then (bif (!Pu.spec_DiskOk.v d0) then (kr (zeros [Ck.i IntKind.i64, Ck.s, Ck.s, Ck.s] 0) false) else (bif (Pu.spec_FileAt.c d0 { data := #[UInt8.ofNat 110, UInt8.ofNat 101, UInt8.ofNat 119] }) then (bif ((Pu.spec_FileAt.v d0 { data := #[UInt8.ofNat 110, UInt8.ofNat 101, UInt8.ofNat 119] }).2) then (l9 N (fun y5 y6 y7 y8 y9 y10 => kr y9 y6) (fun y11 y12 y13 y14 y15 => bif (roomy (List.length y15 + List.length (List.set (List.set (List.set (zeros [Ck.i IntKind.i64, Ck.s, Ck.s, Ck.s] 3) 0 [CV.i IntKind.i64 1, CV.s { data := #[UInt8.ofNat 110, UInt8.ofNat 101, UInt8.ofNat 119] }, CV.s y13, CV.s { data := #[] }]) 1 [CV.i IntKind.i64 2, CV.s { data := #[UInt8.ofNat 110, UInt8.ofNat 101, UInt8.ofNat 119] }, CV.s { data := #[] }, CV.s { data := #[] }]) 2 [CV.i IntKind.i64 3, CV.s { data := #[UInt8.ofNat 110, UInt8.ofNat 101, UInt8.ofNat 119] }, CV.s { data := #[] }, CV.s { data := #[UInt8.ofNat 107, UInt8.ofNat 101, UInt8.ofNat 112, UInt8.ofNat 116] }])) 56) then (kr (y15 ++ List.set (List.set (List.set (zeros [Ck.i IntKind.i64, Ck.s, Ck.s, Ck.s] 3) 0 [CV.i IntKind.i64 1, CV.s { data := #[UInt8.ofNat 110, UInt8.ofNat 101, UInt8.ofNat 119] }, CV.s y13, CV.s { data := #[] }]) 1 [CV.i IntKind.i64 2, CV.s { data := #[UInt8.ofNat 110, UInt8.ofNat 101, UInt8.ofNat 119] }, CV.s { data := #[] }, CV.s { data := #[] }]) 2 [CV.i IntKind.i64 3, CV.s { data := #[UInt8.ofNat 110, UInt8.ofNat 101, UInt8.ofNat 119] }, CV.s { data := #[] }, CV.s { data := #[UInt8.ofNat 107, UInt8.ofNat 101, UInt8.ofNat 112, UInt8.ofNat 116] }]) true) else (none)) N list1 false ({ data := #[] }) 0 (zeros [Ck.i IntKind.i64, Ck.s, Ck.s, Ck.s] 0 ++ List.set (zeros [Ck.i IntKind.i64, Ck.s, Ck.s, Ck.s] 1) 0 [CV.i IntKind.i64 4, CV.s { data := #[UInt8.ofNat 110, UInt8.ofNat 101, UInt8.ofNat 119] }, CV.s { data := #[] }, CV.s { data := #[] }])) else (l9 N (fun y16 y17 y18 y19 y20 y21 => kr y20 y17) (fun y22 y23 y24 y25 y26 => bif (roomy (List.length y26 + List.length (List.set (List.set (List.set (zeros [Ck.i IntKind.i64, Ck.s, Ck.s, Ck.s] 3) 0 [CV.i IntKind.i64 1, CV.s { data := #[UInt8.ofNat 110, UInt8.ofNat 101, UInt8.ofNat 119] }, CV.s y24, CV.s { data := #[] }]) 1 [CV.i IntKind.i64 2, CV.s { data := #[UInt8.ofNat 110, UInt8.ofNat 101, UInt8.ofNat 119] }, CV.s { data := #[] }, CV.s { data := #[] }]) 2 [CV.i IntKind.i64 3, CV.s { data := #[UInt8.ofNat 110, UInt8.ofNat 101, UInt8.ofNat 119] }, CV.s { data := #[] }, CV.s { data := #[UInt8.ofNat 107, UInt8.ofNat 101, UInt8.ofNat 112, UInt8.ofNat 116] }])) 56) then (kr (y26 ++ List.set (List.set (List.set (zeros [Ck.i IntKind.i64, Ck.s, Ck.s, Ck.s] 3) 0 [CV.i IntKind.i64 1, CV.s { data := #[UInt8.ofNat 110, UInt8.ofNat 101, UInt8.ofNat 119] }, CV.s y24, CV.s { data := #[] }]) 1 [CV.i IntKind.i64 2, CV.s { data := #[UInt8.ofNat 110, UInt8.ofNat 101, UInt8.ofNat 119] }, CV.s { data := #[] }, CV.s { data := #[] }]) 2 [CV.i IntKind.i64 3, CV.s { data := #[UInt8.ofNat 110, UInt8.ofNat 101, UInt8.ofNat 119] }, CV.s { data := #[] }, CV.s { data := #[UInt8.ofNat 107, UInt8.ofNat 101, UInt8.ofNat 112, UInt8.ofNat 116] }]) true) else (none)) N list1 false ({ data := #[] }) 0 (zeros [Ck.i IntKind.i64, Ck.s, Ck.s, Ck.s] 0))) else (none))) else (none)
theorem q9_bind {R S : Type} (f : R → Option S) (N : Nat) (k0 : Row → Bool → ByteArray → Int → Row → Row → Option R) (k1 : Row → Bool → ByteArray → Int → Row → Option R) : ∀ n : Nat, (∀ (x0 : Row) (x1 : Bool) (x2 : ByteArray) (x3 : Int) (x4 : Row), Option.bind (l9 N k0 k1 n x0 x1 x2 x3 x4) f = l9 N (fun y0 y1 y2 y3 y4 y5 => (Option.bind (k0 y0 y1 y2 y3 y4 y5) f)) (fun y0 y1 y2 y3 y4 => (Option.bind (k1 y0 y1 y2 y3 y4) f)) n x0 x1 x2 x3 x4) := by
  intro n
  induction n with
  | zero => exact (fun _ _ _ _ _ => rfl)
  | succ n ih =>
    intro x0 x1 x2 x3 x4
    simp only [l9, r9, Lib.cond_bind, Lib.some_bind, Lib.none_bind, ih]
theorem l9_bind {R S : Type} (f : R → Option S) (N : Nat) (k0 : Row → Bool → ByteArray → Int → Row → Row → Option R) (k1 : Row → Bool → ByteArray → Int → Row → Option R) (n : Nat) (x0 : Row) (x1 : Bool) (x2 : ByteArray) (x3 : Int) (x4 : Row) : Option.bind (l9 N k0 k1 n x0 x1 x2 x3 x4) f = l9 N (fun y0 y1 y2 y3 y4 y5 => (Option.bind (k0 y0 y1 y2 y3 y4 y5) f)) (fun y0 y1 y2 y3 y4 => (Option.bind (k1 y0 y1 y2 y3 y4) f)) n x0 x1 x2 x3 x4 := (q9_bind f N k0 k1 n) x0 x1 x2 x3 x4
theorem b_bind {R : Type} (N : Nat) (kr : Row → Bool → Option R) (d0 : Row) (list1 : Row) : b N kr d0 list1 = Option.bind (b N (fun r0 r1 => some (r0, r1)) d0 list1) (fun p => kr p.1 p.2) := by
  unfold b; simp only [Lib.cond_bind, Lib.some_bind, Lib.none_bind, l9_bind]
def vo (d0 : Row) (list1 : Row) : Option (Row × Bool) := b Lib.big (fun r0 r1 => some (r0, r1)) d0 list1
def c (d0 : Row) (list1 : Row) : Bool := Option.isSome (vo d0 list1)
def v (d0 : Row) (list1 : Row) : Row × Bool := Option.getD (vo d0 list1) ([], false)
theorem out (d0 : Row) (list1 : Row) {x : Row × Bool} (h : vo d0 list1 = some x) : c d0 list1 = true ∧ v d0 list1 = x := by
  unfold c v; rw [h]; exact ⟨rfl, rfl⟩
theorem b_eq {R : Type} (kr : Row → Bool → Option R) (d0 : Row) (list1 : Row) (hc : c d0 list1 = true) : ∃ N, b N kr d0 list1 = kr ((v d0 list1).1) ((v d0 list1).2) := by
  refine ⟨Lib.big, ?_⟩
  rw [b_bind]
  have e : vo d0 list1 = some (v d0 list1) := by
    unfold c at hc; unfold v
    cases h : vo d0 list1 with
    | none => rw [h] at hc; cases hc
    | some x => rfl
  unfold vo at e
  rw [e]; rfl
end Go.FG.Pu.spec_AnewActs

namespace Go.FG.Pu.impl_within
def b {R : Type} (kr : Bool → Option R) (n0 : Int) (low1 : Int) (high2 : Int) : Option R := bif (decide (n0 ≥ low1)) then (kr (decide (n0 ≤ high2))) else (kr false)
def v (n0 : Int) (low1 : Int) (high2 : Int) : Bool := bif (decide (n0 ≥ low1)) then (((decide (n0 ≤ high2)))) else ((false))
theorem b_eq {R : Type} (kr : Bool → Option R) (n0 : Int) (low1 : Int) (high2 : Int) : b kr n0 low1 high2 = kr (v n0 low1 high2) := by
  first | rfl | (unfold b v; simp only [Bool.cond_eq_ite]; (repeat' split) <;> rfl)
end Go.FG.Pu.impl_within

namespace Go.FG.Pu.impl_DiskOk
def r2 {R : Type} (N : Nat) (g : Bool → Row → Int → Int → Row → Option R) (k0 : Bool → Row → Int → Int → Row → Option R) (k1 : Bool → Row → Int → Int → Row → Option R) (x0 : Bool) (x1 : Row) (x2 : Int) (x3 : Int) (x4 : Row) : Option R := bif (decide (x3 < x2)) then (bif (decide (0 ≤ x3) && decide (x3 < (↑(List.length x1) : Int))) then (bif (!Pu.impl_within.v (↑(ByteArray.size (cvS (cellAt x1 (Int.toNat x3) 0))) : Int) 1 8) then (k0 false x1 x2 x3 x4) else (bif (decide ((↑(ByteArray.size (cvS (cellAt x1 (Int.toNat x3) 1))) : Int) > 20000)) then (k0 false x1 x2 x3 x4) else (bif (!Pu.impl_within.v (cvI (cellAt x1 (Int.toNat x3) (1 + 1))) 0 (↑(ByteArray.size (cvS (cellAt x1 (Int.toNat x3) 1))) : Int)) then (k0 false x1 x2 x3 x4) else (bif (decide (x3 > 0)) then (bif (decide (0 ≤ w64 (x3 - 1)) && decide (w64 (x3 - 1) < (↑(List.length x4) : Int))) then (bif (!Go.Op.bytesLess (ByteArray.toList (cvS (cellAt x4 (Int.toNat (w64 (x3 - 1))) 0))) (ByteArray.toList (cvS (cellAt x1 (Int.toNat x3) 0)))) then (k0 false x1 x2 x3 x4) else (g x0 x1 x2 (w64 (x3 + 1)) x4)) else (none)) else (g x0 x1 x2 (w64 (x3 + 1)) x4))))) else (none)) else (k1 x0 x1 x2 x3 x4)
def l2 {R : Type} (N : Nat) (k0 : Bool → Row → Int → Int → Row → Option R) (k1 : Bool → Row → Int → Int → Row → Option R) : Nat → Bool → Row → Int → Int → Row → Option R
  | 0 => (fun _ _ _ _ _ => none)
  | n + 1 => (fun x0 x1 x2 x3 x4 => r2 N (l2 N k0 k1 n) k0 k1 x0 x1 x2 x3 x4)
def b {R : Type} (N : Nat) (kr : Bool → Option R) (d0 : Row) : Option R := l2 N (fun y5 y6 y7 y8 y9 => kr y5) (fun y10 y11 y12 y13 y14 => kr (decide ((↑(List.length y14) : Int) ≤ 30))) N false d0 (↑(List.length d0) : Int) 0 d0
theorem q2_bind {R S : Type} (f : R → Option S) (N : Nat) (k0 : Bool → Row → Int → Int → Row → Option R) (k1 : Bool → Row → Int → Int → Row → Option R) : ∀ n : Nat, (∀ (x0 : Bool) (x1 : Row) (x2 : Int) (x3 : Int) (x4 : Row), Option.bind (l2 N k0 k1 n x0 x1 x2 x3 x4) f = l2 N (fun y0 y1 y2 y3 y4 => (Option.bind (k0 y0 y1 y2 y3 y4) f)) (fun y0 y1 y2 y3 y4 => (Option.bind (k1 y0 y1 y2 y3 y4) f)) n x0 x1 x2 x3 x4) := by
  intro n
  induction n with
  | zero => exact (fun _ _ _ _ _ => rfl)
  | succ n ih =>
    intro x0 x1 x2 x3 x4
    simp only [l2, r2, Lib.cond_bind, Lib.some_bind, Lib.none_bind, ih]
theorem l2_bind {R S : Type} (f : R → Option S) (N : Nat) (k0 : Bool → Row → Int → Int → Row → Option R) (k1 : Bool → Row → Int → Int → Row → Option R) (n : Nat) (x0 : Bool) (x1 : Row) (x2 : Int) (x3 : Int) (x4 : Row) : Option.bind (l2 N k0 k1 n x0 x1 x2 x3 x4) f = l2 N (fun y0 y1 y2 y3 y4 => (Option.bind (k0 y0 y1 y2 y3 y4) f)) (fun y0 y1 y2 y3 y4 => (Option.bind (k1 y0 y1 y2 y3 y4) f)) n x0 x1 x2 x3 x4 := (q2_bind f N k0 k1 n) x0 x1 x2 x3 x4
theorem b_bind {R : Type} (N : Nat) (kr : Bool → Option R) (d0 : Row) : b N kr d0 = Option.bind (b N (fun r0 => some (r0)) d0) (fun p => kr p) := by
  unfold b; simp only [Lib.cond_bind, Lib.some_bind, Lib.none_bind, l2_bind]
def vo (d0 : Row) : Option (Bool) := b Lib.big (fun r0 => some (r0)) d0
def c (d0 : Row) : Bool := Option.isSome (vo d0)
def v (d0 : Row) : Bool := Option.getD (vo d0) (false)
theorem out (d0 : Row) {x : Bool} (h : vo d0 = some x) : c d0 = true ∧ v d0 = x := by
  unfold c v; rw [h]; exact ⟨rfl, rfl⟩
theorem b_eq {R : Type} (kr : Bool → Option R) (d0 : Row) (hc : c d0 = true) : ∃ N, b N kr d0 = kr (v d0) := by
  refine ⟨Lib.big, ?_⟩
  rw [b_bind]
  have e : vo d0 = some (v d0) := by
    unfold c at hc; unfold v
    cases h : vo d0 with
    | none => rw [h] at hc; cases hc
    | some x => rfl
  unfold vo at e
  rw [e]; rfl
end Go.FG.Pu.impl_DiskOk

namespace Go.FG.Pu.impl_isKey
def b {R : Type} (kr : Bool → Option R) (key0 : ByteArray) : Option R := kr (Pu.impl_within.v (↑(ByteArray.size key0) : Int) 1 30)
def v (key0 : ByteArray) : Bool := ((Pu.impl_within.v (↑(ByteArray.size key0) : Int) 1 30))
theorem b_eq {R : Type} (kr : Bool → Option R) (key0 : ByteArray) : b kr key0 = kr (v key0) := by
  first | rfl | (unfold b v; simp only [Bool.cond_eq_ite]; (repeat' split) <;> rfl)
end Go.FG.Pu.impl_isKey

namespace Go.FG.Pu.impl_isNumber
def b {R : Type} (kr : Bool → Option R) (n0 : Int) : Option R := kr (Pu.impl_within.v n0 0 1000000000)
def v (n0 : Int) : Bool := ((Pu.impl_within.v n0 0 1000000000))
theorem b_eq {R : Type} (kr : Bool → Option R) (n0 : Int) : b kr n0 = kr (v n0) := by
  first | rfl | (unfold b v; simp only [Bool.cond_eq_ite]; (repeat' split) <;> rfl)
end Go.FG.Pu.impl_isNumber

namespace Go.FG.Pu.impl_EntryOk
def b {R : Type} (kr : Bool → Option R) (e0_0 : ByteArray) (e0_1 : Int) (e0_2 : Int) (e0_3 : ByteArray) : Option R := bif (Pu.impl_isKey.v e0_0) then (bif (Pu.impl_isNumber.v e0_1) then (bif (Pu.impl_within.v e0_2 1 999999) then (kr (decide ((↑(ByteArray.size e0_3) : Int) ≤ 400))) else (kr false)) else (kr false)) else (kr false)
def v (e0_0 : ByteArray) (e0_1 : Int) (e0_2 : Int) (e0_3 : ByteArray) : Bool := bif (Pu.impl_isKey.v e0_0) then (bif (Pu.impl_isNumber.v e0_1) then (bif (Pu.impl_within.v e0_2 1 999999) then (((decide ((↑(ByteArray.size e0_3) : Int) ≤ 400)))) else ((false))) else ((false))) else ((false))
theorem b_eq {R : Type} (kr : Bool → Option R) (e0_0 : ByteArray) (e0_1 : Int) (e0_2 : Int) (e0_3 : ByteArray) : b kr e0_0 e0_1 e0_2 e0_3 = kr (v e0_0 e0_1 e0_2 e0_3) := by
  first | rfl | (unfold b v; simp only [Bool.cond_eq_ite]; (repeat' split) <;> rfl)
end Go.FG.Pu.impl_EntryOk

namespace Go.FG.Pu.impl_VarText
def r4 {R : Type} (N : Nat) (g : Int → Row → Option R) (k0 : Int → Row → Option R) (x0 : Int) (x1 : Row) : Option R := bif (decide (x0 > 127)) then (bif (roomy (List.length x1 + List.length (List.set (zeros [Ck.i IntKind.u8] 1) 0 [CV.i IntKind.u8 (IntKind.wrap IntKind.u8 (w64 (Int.tmod x0 128 + 128)))])) 1) then (g (w64 (Int.tdiv x0 128)) (x1 ++ List.set (zeros [Ck.i IntKind.u8] 1) 0 [CV.i IntKind.u8 (IntKind.wrap IntKind.u8 (w64 (Int.tmod x0 128 + 128)))])) else (none)) else (k0 x0 x1)
def l4 {R : Type} (N : Nat) (k0 : Int → Row → Option R) : Nat → Int → Row → Option R
  | 0 => (fun _ _ => none)
  | n + 1 => (fun x0 x1 => r4 N (l4 N k0 n) k0 x0 x1)
def b {R : Type} (N : Nat) (kr : ByteArray → Bool → Option R) (n0 : Int) : Option R := bif (!Pu.impl_within.v n0 0 1000000000) then (kr ({ data := #[] }) false) else (l4 N (fun y2 y3 => bif (roomy (List.length y3 + List.length (List.set (zeros [Ck.i IntKind.u8] 1) 0 [CV.i IntKind.u8 (IntKind.wrap IntKind.u8 y2)])) 1) then (bif (decide (List.length (y3 ++ List.set (zeros [Ck.i IntKind.u8] 1) 0 [CV.i IntKind.u8 (IntKind.wrap IntKind.u8 y2)]) ≤ 4611686018427387904)) then (kr (bytesOf (y3 ++ List.set (zeros [Ck.i IntKind.u8] 1) 0 [CV.i IntKind.u8 (IntKind.wrap IntKind.u8 y2)])) true) else (none)) else (none)) N n0 (zeros [Ck.i IntKind.u8] 0))
def v (n0 : Int) : ByteArray × Bool := if 0 ≤ n0 ∧ n0 ≤ 1000000000 then (bytesOf (Lib.vb n0), true) else (⟨#[]⟩, false)
theorem b_eq {R : Type} (kr : ByteArray → Bool → Option R) (n0 : Int) : ∃ N, b N kr n0 = kr (v n0).1 (v n0).2 := by
  refine ⟨n0.toNat + 1, ?_⟩
  unfold b v
  by_cases hn : 0 ≤ n0 ∧ n0 ≤ 1000000000
  · have e : Pu.impl_within.v n0 0 1000000000 = true := by simp [Pu.impl_within.v, hn]
    rw [e, if_pos hn]
    refine Lib.var_run (fun n x acc => l4 (n0.toNat + 1) _ n x acc) (fun y => kr y true) (fun n x acc h hl => ?_) (fun n x acc h hl => ?_) n0 (by omega)
    · simp only [l4, r4, h, decide_true, cond_true, Lib.len_set1, show List.length acc + List.length [[CV.i IntKind.u8 (IntKind.wrap IntKind.u8 (w64 (Int.tmod x 128 + 128)))]] = acc.length + 1 from rfl, Lib.roomy1 (show acc.length + 1 ≤ 140737488355328 by omega), show decide ((128 : Int) = 0) = false from rfl, Bool.and_false, Bool.not_false]
    · simp only [l4, r4, h, decide_false, cond_false, Lib.len_set1, show List.length acc + List.length [[CV.i IntKind.u8 (IntKind.wrap IntKind.u8 x)]] = acc.length + 1 from rfl, Lib.roomy1 (show acc.length + 1 ≤ 140737488355328 by omega), cond_true]
      exact Lib.bif_t (Lib.dec_t (by rw [List.length_append, List.length_singleton]; omega))
  · have e : Pu.impl_within.v n0 0 1000000000 = false := by
      simp [Pu.impl_within.v]; omega
    rw [e, if_neg hn]; rfl
end Go.FG.Pu.impl_VarText

namespace Go.FG.Pu.impl_ShortText
def b {R : Type} (kr : ByteArray → Bool → Option R) (s0 : ByteArray) : Option R := bif (decide ((↑(ByteArray.size s0) : Int) > 20000)) then (kr ({ data := #[] }) false) else (bif (decide (ByteArray.size (Pu.impl_VarText.v (↑(ByteArray.size s0) : Int)).1 + ByteArray.size s0 ≤ 4611686018427387904)) then (kr ((Pu.impl_VarText.v (↑(ByteArray.size s0) : Int)).1 ++ s0) true) else (none))
def v (s0 : ByteArray) : ByteArray × Bool := if s0.size > 20000 then (⟨#[]⟩, false) else (bytesOf (Lib.vb s0.size) ++ s0, true)
theorem b_eq {R : Type} (kr : ByteArray → Bool → Option R) (s0 : ByteArray) : b kr s0 = kr (v s0).1 (v s0).2 := by
  unfold b v
  by_cases h : s0.size > 20000
  · rw [if_pos h, show decide ((s0.size : Int) > 20000) = true by simp; omega]; rfl
  · rw [if_neg h, show decide ((s0.size : Int) > 20000) = false by simp; omega]
    have e : Pu.impl_VarText.v (s0.size : Int) = (bytesOf (Lib.vb s0.size), true) := by unfold Pu.impl_VarText.v; rw [if_pos (by omega)]
    have := Lib.var_size (x := (s0.size : Int)) (by omega)
    rw [e, cond_false]
    simp (disch := omega) only [Lib.dnat, cond_true]
end Go.FG.Pu.impl_ShortText

namespace Go.FG.Pu.impl_EntryText
def b {R : Type} (kr : ByteArray → Bool → Option R) (e0_0 : ByteArray) (e0_1 : Int) (e0_2 : Int) (e0_3 : ByteArray) : Option R := bif (!Pu.impl_EntryOk.v e0_0 e0_1 e0_2 e0_3) then (kr ({ data := #[] }) false) else (bif (decide (ByteArray.size (Pu.impl_ShortText.v e0_0).1 + ByteArray.size (Pu.impl_VarText.v e0_1).1 ≤ 4611686018427387904)) then (bif (decide (ByteArray.size ((Pu.impl_ShortText.v e0_0).1 ++ (Pu.impl_VarText.v e0_1).1) + ByteArray.size (Pu.impl_VarText.v e0_2).1 ≤ 4611686018427387904)) then (bif (decide (ByteArray.size ((Pu.impl_ShortText.v e0_0).1 ++ (Pu.impl_VarText.v e0_1).1 ++ (Pu.impl_VarText.v e0_2).1) + ByteArray.size e0_3 ≤ 4611686018427387904)) then (kr ((Pu.impl_ShortText.v e0_0).1 ++ (Pu.impl_VarText.v e0_1).1 ++ (Pu.impl_VarText.v e0_2).1 ++ e0_3) true) else (none)) else (none)) else (none))
def v (e0_0 : ByteArray) (e0_1 : Int) (e0_2 : Int) (e0_3 : ByteArray) : ByteArray × Bool := Pu.spec_EntryText.v e0_0 e0_1 e0_2 e0_3
theorem b_eq {R : Type} (kr : ByteArray → Bool → Option R) (e0_0 : ByteArray) (e0_1 : Int) (e0_2 : Int) (e0_3 : ByteArray) : b kr e0_0 e0_1 e0_2 e0_3 = kr (v e0_0 e0_1 e0_2 e0_3).1 (v e0_0 e0_1 e0_2 e0_3).2 := by
  have ee : Pu.impl_EntryOk.v e0_0 e0_1 e0_2 e0_3 = Pu.spec_EntryOk.v e0_0 e0_1 e0_2 e0_3 := rfl
  unfold b v Pu.spec_EntryText.v
  rw [ee]
  cases h : Pu.spec_EntryOk.v e0_0 e0_1 e0_2 e0_3 with
  | false => rfl
  | true =>
    have hr := Pu.spec_EntryOk.rng h
    have z1 : (bytesOf (Lib.vb (e0_0.size : Int))).size ≤ 64 := Lib.var_size (x := (e0_0.size : Int)) (by omega)
    have z2 : (bytesOf (Lib.vb e0_1)).size ≤ 64 := Lib.var_size (x := e0_1) (by omega)
    have z3 : (bytesOf (Lib.vb e0_2)).size ≤ 64 := Lib.var_size (x := e0_2) (by omega)
    have e1 : Pu.impl_ShortText.v e0_0 = (bytesOf (Lib.vb e0_0.size) ++ e0_0, true) := by unfold Pu.impl_ShortText.v; rw [if_neg (by omega)]
    have e2 : Pu.impl_VarText.v e0_1 = (bytesOf (Lib.vb e0_1), true) := by unfold Pu.impl_VarText.v; rw [if_pos (by omega)]
    have e3 : Pu.impl_VarText.v e0_2 = (bytesOf (Lib.vb e0_2), true) := by unfold Pu.impl_VarText.v; rw [if_pos (by omega)]
    rw [e1, e2, e3]
    simp (disch := omega) only [Bool.not_true, cond_false, cond_true, if_true, Lib.size_app, Lib.dnat]
    rfl
end Go.FG.Pu.impl_EntryText

namespace Go.FG.Pu.impl_SumMore
def r6 {R : Type} (N : Nat) (g : Int → ByteArray → Int → Int → Option R) (k0 : Int → ByteArray → Int → Int → Option R) (x3 : Int) (x4 : ByteArray) (x5 : Int) (x6 : Int) : Option R := bif (decide (x6 < 8)) then (bif (decide (Int.tmod x3 2 = 1)) then (g (IntKind.wrap IntKind.u32 (↑(BitVec.toNat (BitVec.xor (BitVec.ofInt 32 (IntKind.wrap IntKind.u32 (Int.tdiv x3 2))) (BitVec.ofInt 32 3558460437))) : Int)) x4 x5 (w64 (x6 + 1))) else (g (IntKind.wrap IntKind.u32 (Int.tdiv x3 2)) x4 x5 (w64 (x6 + 1)))) else (k0 x3 x4 x5 x6)
def l6 {R : Type} (N : Nat) (k0 : Int → ByteArray → Int → Int → Option R) : Nat → Int → ByteArray → Int → Int → Option R
  | 0 => (fun _ _ _ _ => none)
  | n + 1 => (fun x3 x4 x5 x6 => r6 N (l6 N k0 n) k0 x3 x4 x5 x6)
def r2 {R : Type} (N : Nat) (g : Int → ByteArray → Int → Option R) (k0 : Int → ByteArray → Int → Option R) (x0 : Int) (x1 : ByteArray) (x2 : Int) : Option R := bif (decide (x2 < (↑(ByteArray.size x1) : Int))) then (bif (decide (0 ≤ x2) && decide (x2 < (↑(ByteArray.size x1) : Int))) then (l6 N (fun y7 y8 y9 y10 => g y7 y8 (w64 (y9 + 1))) N (IntKind.wrap IntKind.u32 (↑(BitVec.toNat (BitVec.xor (BitVec.ofInt 32 x0) (BitVec.ofInt 32 (IntKind.wrap IntKind.u32 (↑(btN x1 (Int.toNat x2)) : Int))))) : Int)) x1 x2 0) else (none)) else (k0 x0 x1 x2)
def l2 {R : Type} (N : Nat) (k0 : Int → ByteArray → Int → Option R) : Nat → Int → ByteArray → Int → Option R
  | 0 => (fun _ _ _ => none)
  | n + 1 => (fun x0 x1 x2 => r2 N (l2 N k0 n) k0 x0 x1 x2)
def b {R : Type} (N : Nat) (kr : Int → Option R) (sum0 : Int) (text1 : ByteArray) : Option R := l2 N (fun y11 y12 y13 => kr y11) N sum0 text1 0
theorem q6_bind {R S : Type} (f : R → Option S) (N : Nat) (k0 : Int → ByteArray → Int → Int → Option R) : ∀ n : Nat, (∀ (x3 : Int) (x4 : ByteArray) (x5 : Int) (x6 : Int), Option.bind (l6 N k0 n x3 x4 x5 x6) f = l6 N (fun y0 y1 y2 y3 => (Option.bind (k0 y0 y1 y2 y3) f)) n x3 x4 x5 x6) := by
  intro n
  induction n with
  | zero => exact (fun _ _ _ _ => rfl)
  | succ n ih =>
    intro x3 x4 x5 x6
    simp only [l6, r6, Lib.cond_bind, Lib.some_bind, Lib.none_bind, ih]
theorem l6_bind {R S : Type} (f : R → Option S) (N : Nat) (k0 : Int → ByteArray → Int → Int → Option R) (n : Nat) (x3 : Int) (x4 : ByteArray) (x5 : Int) (x6 : Int) : Option.bind (l6 N k0 n x3 x4 x5 x6) f = l6 N (fun y0 y1 y2 y3 => (Option.bind (k0 y0 y1 y2 y3) f)) n x3 x4 x5 x6 := (q6_bind f N k0 n) x3 x4 x5 x6
theorem q2_bind {R S : Type} (f : R → Option S) (N : Nat) (k0 : Int → ByteArray → Int → Option R) : ∀ n : Nat, (∀ (x0 : Int) (x1 : ByteArray) (x2 : Int), Option.bind (l2 N k0 n x0 x1 x2) f = l2 N (fun y0 y1 y2 => (Option.bind (k0 y0 y1 y2) f)) n x0 x1 x2) := by
  intro n
  induction n with
  | zero => exact (fun _ _ _ => rfl)
  | succ n ih =>
    intro x0 x1 x2
    simp only [l2, r2, Lib.cond_bind, Lib.some_bind, Lib.none_bind, ih, l6_bind]
theorem l2_bind {R S : Type} (f : R → Option S) (N : Nat) (k0 : Int → ByteArray → Int → Option R) (n : Nat) (x0 : Int) (x1 : ByteArray) (x2 : Int) : Option.bind (l2 N k0 n x0 x1 x2) f = l2 N (fun y0 y1 y2 => (Option.bind (k0 y0 y1 y2) f)) n x0 x1 x2 := (q2_bind f N k0 n) x0 x1 x2
theorem b_bind {R : Type} (N : Nat) (kr : Int → Option R) (sum0 : Int) (text1 : ByteArray) : b N kr sum0 text1 = Option.bind (b N (fun r0 => some (r0)) sum0 text1) (fun p => kr p) := by
  unfold b; simp only [Lib.cond_bind, Lib.some_bind, Lib.none_bind, l6_bind, l2_bind]
def vo (sum0 : Int) (text1 : ByteArray) : Option (Int) := b Lib.big (fun r0 => some (r0)) sum0 text1
def c (sum0 : Int) (text1 : ByteArray) : Bool := Option.isSome (vo sum0 text1)
def v (sum0 : Int) (text1 : ByteArray) : Int := Option.getD (vo sum0 text1) (0)
theorem out (sum0 : Int) (text1 : ByteArray) {x : Int} (h : vo sum0 text1 = some x) : c sum0 text1 = true ∧ v sum0 text1 = x := by
  unfold c v; rw [h]; exact ⟨rfl, rfl⟩
theorem b_eq {R : Type} (kr : Int → Option R) (sum0 : Int) (text1 : ByteArray) (hc : c sum0 text1 = true) : ∃ N, b N kr sum0 text1 = kr (v sum0 text1) := by
  refine ⟨Lib.big, ?_⟩
  rw [b_bind]
  have e : vo sum0 text1 = some (v sum0 text1) := by
    unfold c at hc; unfold v
    cases h : vo sum0 text1 with
    | none => rw [h] at hc; cases hc
    | some x => rfl
  unfold vo at e
  rw [e]; rfl
end Go.FG.Pu.impl_SumMore

namespace Go.FG.Pu.impl_SumOf
def b {R : Type} (kr : Int → Option R) (text0 : ByteArray) : Option R := bif (Pu.impl_SumMore.c 4294967295 text0) then (kr (Pu.impl_SumMore.v 4294967295 text0)) else (none)
theorem b_bind {R : Type} (kr : Int → Option R) (text0 : ByteArray) : b kr text0 = Option.bind (b (fun r0 => some (r0)) text0) (fun p => kr p) := by
  unfold b; simp only [Lib.cond_bind, Lib.some_bind, Lib.none_bind]
def vo (text0 : ByteArray) : Option (Int) := b (fun r0 => some (r0)) text0
def c (text0 : ByteArray) : Bool := Option.isSome (vo text0)
def v (text0 : ByteArray) : Int := Option.getD (vo text0) (0)
theorem out (text0 : ByteArray) {x : Int} (h : vo text0 = some x) : c text0 = true ∧ v text0 = x := by
  unfold c v; rw [h]; exact ⟨rfl, rfl⟩
theorem b_eq {R : Type} (kr : Int → Option R) (text0 : ByteArray) (hc : c text0 = true) : b kr text0 = kr (v text0) := by
  rw [b_bind]
  have e : vo text0 = some (v text0) := by
    unfold c at hc; unfold v
    cases h : vo text0 with
    | none => rw [h] at hc; cases hc
    | some x => rfl
  unfold vo at e
  rw [e]; rfl
end Go.FG.Pu.impl_SumOf

namespace Go.FG.Pu.impl_sumText
def b {R : Type} (kr : ByteArray → Option R) (text0 : ByteArray) : Option R := bif (Pu.impl_SumOf.c text0) then (kr (bytesOf (List.set (List.set (List.set (List.set (zeros [Ck.i IntKind.u8] 4) 0 [CV.i IntKind.u8 (IntKind.wrap IntKind.u8 (Int.fdiv (Pu.impl_SumOf.v text0) (Int.pow 2 (if Int.toNat 24 ≤ 32 then Int.toNat 24 else 32))))]) 1 [CV.i IntKind.u8 (IntKind.wrap IntKind.u8 (Int.fdiv (Pu.impl_SumOf.v text0) (Int.pow 2 (if Int.toNat 16 ≤ 32 then Int.toNat 16 else 32))))]) 2 [CV.i IntKind.u8 (IntKind.wrap IntKind.u8 (Int.fdiv (Pu.impl_SumOf.v text0) (Int.pow 2 (if Int.toNat 8 ≤ 32 then Int.toNat 8 else 32))))]) 3 [CV.i IntKind.u8 (IntKind.wrap IntKind.u8 (Pu.impl_SumOf.v text0))]))) else (none)
theorem b_bind {R : Type} (kr : ByteArray → Option R) (text0 : ByteArray) : b kr text0 = Option.bind (b (fun r0 => some (r0)) text0) (fun p => kr p) := by
  unfold b; simp only [Lib.cond_bind, Lib.some_bind, Lib.none_bind]
def vo (text0 : ByteArray) : Option (ByteArray) := b (fun r0 => some (r0)) text0
def c (text0 : ByteArray) : Bool := Option.isSome (vo text0)
def v (text0 : ByteArray) : ByteArray := Option.getD (vo text0) (⟨#[]⟩)
theorem out (text0 : ByteArray) {x : ByteArray} (h : vo text0 = some x) : c text0 = true ∧ v text0 = x := by
  unfold c v; rw [h]; exact ⟨rfl, rfl⟩
theorem b_eq {R : Type} (kr : ByteArray → Option R) (text0 : ByteArray) (hc : c text0 = true) : b kr text0 = kr (v text0) := by
  rw [b_bind]
  have e : vo text0 = some (v text0) := by
    unfold c at hc; unfold v
    cases h : vo text0 with
    | none => rw [h] at hc; cases hc
    | some x => rfl
  unfold vo at e
  rw [e]; rfl
end Go.FG.Pu.impl_sumText

namespace Go.FG.Pu.impl_Frame
def b {R : Type} (kr : ByteArray → Bool → Option R) (text0 : ByteArray) : Option R := bif (!Pu.impl_within.v (↑(ByteArray.size text0) : Int) 1 9000) then (kr ({ data := #[] }) false) else (bif (Pu.impl_sumText.c text0) then (bif (decide (ByteArray.size (Pu.impl_VarText.v (↑(ByteArray.size text0) : Int)).1 + ByteArray.size (Pu.impl_sumText.v text0) ≤ 4611686018427387904)) then (bif (decide (ByteArray.size ((Pu.impl_VarText.v (↑(ByteArray.size text0) : Int)).1 ++ Pu.impl_sumText.v text0) + ByteArray.size text0 ≤ 4611686018427387904)) then (kr ((Pu.impl_VarText.v (↑(ByteArray.size text0) : Int)).1 ++ Pu.impl_sumText.v text0 ++ text0) true) else (none)) else (none)) else (none))
theorem b_bind {R : Type} (kr : ByteArray → Bool → Option R) (text0 : ByteArray) : b kr text0 = Option.bind (b (fun r0 r1 => some (r0, r1)) text0) (fun p => kr p.1 p.2) := by
  unfold b; simp only [Lib.cond_bind, Lib.some_bind, Lib.none_bind]
def vo (text0 : ByteArray) : Option (ByteArray × Bool) := b (fun r0 r1 => some (r0, r1)) text0
def c (text0 : ByteArray) : Bool := Option.isSome (vo text0)
def v (text0 : ByteArray) : ByteArray × Bool := Option.getD (vo text0) (⟨#[]⟩, false)
theorem out (text0 : ByteArray) {x : ByteArray × Bool} (h : vo text0 = some x) : c text0 = true ∧ v text0 = x := by
  unfold c v; rw [h]; exact ⟨rfl, rfl⟩
theorem b_eq {R : Type} (kr : ByteArray → Bool → Option R) (text0 : ByteArray) (hc : c text0 = true) : b kr text0 = kr ((v text0).1) ((v text0).2) := by
  rw [b_bind]
  have e : vo text0 = some (v text0) := by
    unfold c at hc; unfold v
    cases h : vo text0 with
    | none => rw [h] at hc; cases hc
    | some x => rfl
  unfold vo at e
  rw [e]; rfl
end Go.FG.Pu.impl_Frame

namespace Go.FG.Pu.impl_framed
def b {R : Type} (kr : ByteArray → Bool → Option R) (e0_0 : ByteArray) (e0_1 : Int) (e0_2 : Int) (e0_3 : ByteArray) : Option R := bif (!(Pu.impl_EntryText.v e0_0 e0_1 e0_2 e0_3).2) then (kr ({ data := #[] }) false) else (bif (Pu.impl_Frame.c (Pu.impl_EntryText.v e0_0 e0_1 e0_2 e0_3).1) then (kr ((Pu.impl_Frame.v (Pu.impl_EntryText.v e0_0 e0_1 e0_2 e0_3).1).1) ((Pu.impl_Frame.v (Pu.impl_EntryText.v e0_0 e0_1 e0_2 e0_3).1).2)) else (none))
theorem b_bind {R : Type} (kr : ByteArray → Bool → Option R) (e0_0 : ByteArray) (e0_1 : Int) (e0_2 : Int) (e0_3 : ByteArray) : b kr e0_0 e0_1 e0_2 e0_3 = Option.bind (b (fun r0 r1 => some (r0, r1)) e0_0 e0_1 e0_2 e0_3) (fun p => kr p.1 p.2) := by
  unfold b; simp only [Lib.cond_bind, Lib.some_bind, Lib.none_bind]
def vo (e0_0 : ByteArray) (e0_1 : Int) (e0_2 : Int) (e0_3 : ByteArray) : Option (ByteArray × Bool) := b (fun r0 r1 => some (r0, r1)) e0_0 e0_1 e0_2 e0_3
def c (e0_0 : ByteArray) (e0_1 : Int) (e0_2 : Int) (e0_3 : ByteArray) : Bool := Option.isSome (vo e0_0 e0_1 e0_2 e0_3)
def v (e0_0 : ByteArray) (e0_1 : Int) (e0_2 : Int) (e0_3 : ByteArray) : ByteArray × Bool := Option.getD (vo e0_0 e0_1 e0_2 e0_3) (⟨#[]⟩, false)
theorem out (e0_0 : ByteArray) (e0_1 : Int) (e0_2 : Int) (e0_3 : ByteArray) {x : ByteArray × Bool} (h : vo e0_0 e0_1 e0_2 e0_3 = some x) : c e0_0 e0_1 e0_2 e0_3 = true ∧ v e0_0 e0_1 e0_2 e0_3 = x := by
  unfold c v; rw [h]; exact ⟨rfl, rfl⟩
theorem b_eq {R : Type} (kr : ByteArray → Bool → Option R) (e0_0 : ByteArray) (e0_1 : Int) (e0_2 : Int) (e0_3 : ByteArray) (hc : c e0_0 e0_1 e0_2 e0_3 = true) : b kr e0_0 e0_1 e0_2 e0_3 = kr ((v e0_0 e0_1 e0_2 e0_3).1) ((v e0_0 e0_1 e0_2 e0_3).2) := by
  rw [b_bind]
  have e : vo e0_0 e0_1 e0_2 e0_3 = some (v e0_0 e0_1 e0_2 e0_3) := by
    unfold c at hc; unfold v
    cases h : vo e0_0 e0_1 e0_2 e0_3 with
    | none => rw [h] at hc; cases hc
    | some x => rfl
  unfold vo at e
  rw [e]; rfl
end Go.FG.Pu.impl_framed

namespace Go.FG.Pu.impl_placeOf_1
def b {R : Type} (kr : Bool → Option R) (f0_0 : ByteArray) (f0_1 : ByteArray) (f0_2 : Int) (name1 : ByteArray) : Option R := kr (List.beq (ByteArray.toList f0_0) (ByteArray.toList name1))
def v (f0_0 : ByteArray) (f0_1 : ByteArray) (f0_2 : Int) (name1 : ByteArray) : Bool := ((List.beq (ByteArray.toList f0_0) (ByteArray.toList name1)))
theorem b_eq {R : Type} (kr : Bool → Option R) (f0_0 : ByteArray) (f0_1 : ByteArray) (f0_2 : Int) (name1 : ByteArray) : b kr f0_0 f0_1 f0_2 name1 = kr (v f0_0 f0_1 f0_2 name1) := by
  first | rfl | (unfold b v; simp only [Bool.cond_eq_ite]; (repeat' split) <;> rfl)
end Go.FG.Pu.impl_placeOf_1

namespace Go.FG.Pu.slices_IndexFunc_Filea
def r2 {R : Type} (N : Nat) (g : Row → ByteArray → Int → Int → Int → Option R) (k0 : Row → ByteArray → Int → Int → Int → Option R) (k1 : Row → ByteArray → Int → Int → Int → Option R) (x0 : Row) (x1 : ByteArray) (x2 : Int) (x3 : Int) (x4 : Int) : Option R := bif (decide (x4 < x3)) then (bif (decide (0 ≤ x4) && decide (x4 < (↑(List.length x0) : Int))) then (bif (Pu.impl_placeOf_1.v (cvS (cellAt x0 (Int.toNat x4) 0)) (cvS (cellAt x0 (Int.toNat x4) 1)) (cvI (cellAt x0 (Int.toNat x4) (1 + 1))) x1) then (k0 x0 x1 x4 x3 x4) else (g x0 x1 x2 x3 (w64 (x4 + 1)))) else (none)) else (k1 x0 x1 x2 x3 x4)
def l2 {R : Type} (N : Nat) (k0 : Row → ByteArray → Int → Int → Int → Option R) (k1 : Row → ByteArray → Int → Int → Int → Option R) : Nat → Row → ByteArray → Int → Int → Int → Option R
  | 0 => (fun _ _ _ _ _ => none)
  | n + 1 => (fun x0 x1 x2 x3 x4 => r2 N (l2 N k0 k1 n) k0 k1 x0 x1 x2 x3 x4)
def b {R : Type} (N : Nat) (kr : Int → Option R) (s0 : Row) (name1 : ByteArray) : Option R := l2 N (fun y5 y6 y7 y8 y9 => kr y7) (fun y10 y11 y12 y13 y14 => kr (-1)) N s0 name1 0 (↑(List.length s0) : Int) 0
theorem q2_bind {R S : Type} (f : R → Option S) (N : Nat) (k0 : Row → ByteArray → Int → Int → Int → Option R) (k1 : Row → ByteArray → Int → Int → Int → Option R) : ∀ n : Nat, (∀ (x0 : Row) (x1 : ByteArray) (x2 : Int) (x3 : Int) (x4 : Int), Option.bind (l2 N k0 k1 n x0 x1 x2 x3 x4) f = l2 N (fun y0 y1 y2 y3 y4 => (Option.bind (k0 y0 y1 y2 y3 y4) f)) (fun y0 y1 y2 y3 y4 => (Option.bind (k1 y0 y1 y2 y3 y4) f)) n x0 x1 x2 x3 x4) := by
  intro n
  induction n with
  | zero => exact (fun _ _ _ _ _ => rfl)
  | succ n ih =>
    intro x0 x1 x2 x3 x4
    simp only [l2, r2, Lib.cond_bind, Lib.some_bind, Lib.none_bind, ih]
theorem l2_bind {R S : Type} (f : R → Option S) (N : Nat) (k0 : Row → ByteArray → Int → Int → Int → Option R) (k1 : Row → ByteArray → Int → Int → Int → Option R) (n : Nat) (x0 : Row) (x1 : ByteArray) (x2 : Int) (x3 : Int) (x4 : Int) : Option.bind (l2 N k0 k1 n x0 x1 x2 x3 x4) f = l2 N (fun y0 y1 y2 y3 y4 => (Option.bind (k0 y0 y1 y2 y3 y4) f)) (fun y0 y1 y2 y3 y4 => (Option.bind (k1 y0 y1 y2 y3 y4) f)) n x0 x1 x2 x3 x4 := (q2_bind f N k0 k1 n) x0 x1 x2 x3 x4
theorem b_bind {R : Type} (N : Nat) (kr : Int → Option R) (s0 : Row) (name1 : ByteArray) : b N kr s0 name1 = Option.bind (b N (fun r0 => some (r0)) s0 name1) (fun p => kr p) := by
  unfold b; simp only [Lib.cond_bind, Lib.some_bind, Lib.none_bind, l2_bind]
def vo (s0 : Row) (name1 : ByteArray) : Option (Int) := b Lib.big (fun r0 => some (r0)) s0 name1
def c (s0 : Row) (name1 : ByteArray) : Bool := Option.isSome (vo s0 name1)
def v (s0 : Row) (name1 : ByteArray) : Int := Option.getD (vo s0 name1) (0)
theorem out (s0 : Row) (name1 : ByteArray) {x : Int} (h : vo s0 name1 = some x) : c s0 name1 = true ∧ v s0 name1 = x := by
  unfold c v; rw [h]; exact ⟨rfl, rfl⟩
theorem b_eq {R : Type} (kr : Int → Option R) (s0 : Row) (name1 : ByteArray) (hc : c s0 name1 = true) : ∃ N, b N kr s0 name1 = kr (v s0 name1) := by
  refine ⟨Lib.big, ?_⟩
  rw [b_bind]
  have e : vo s0 name1 = some (v s0 name1) := by
    unfold c at hc; unfold v
    cases h : vo s0 name1 with
    | none => rw [h] at hc; cases hc
    | some x => rfl
  unfold vo at e
  rw [e]; rfl
end Go.FG.Pu.slices_IndexFunc_Filea

namespace Go.FG.Pu.impl_placeOf
def b {R : Type} (kr : Int → Option R) (d0 : Row) (name1 : ByteArray) : Option R := bif (Pu.slices_IndexFunc_Filea.c d0 name1) then (kr (Pu.slices_IndexFunc_Filea.v d0 name1)) else (none)
theorem b_bind {R : Type} (kr : Int → Option R) (d0 : Row) (name1 : ByteArray) : b kr d0 name1 = Option.bind (b (fun r0 => some (r0)) d0 name1) (fun p => kr p) := by
  unfold b; simp only [Lib.cond_bind, Lib.some_bind, Lib.none_bind]
def vo (d0 : Row) (name1 : ByteArray) : Option (Int) := b (fun r0 => some (r0)) d0 name1
def c (d0 : Row) (name1 : ByteArray) : Bool := Option.isSome (vo d0 name1)
def v (d0 : Row) (name1 : ByteArray) : Int := Option.getD (vo d0 name1) (0)
theorem out (d0 : Row) (name1 : ByteArray) {x : Int} (h : vo d0 name1 = some x) : c d0 name1 = true ∧ v d0 name1 = x := by
  unfold c v; rw [h]; exact ⟨rfl, rfl⟩
theorem b_eq {R : Type} (kr : Int → Option R) (d0 : Row) (name1 : ByteArray) (hc : c d0 name1 = true) : b kr d0 name1 = kr (v d0 name1) := by
  rw [b_bind]
  have e : vo d0 name1 = some (v d0 name1) := by
    unfold c at hc; unfold v
    cases h : vo d0 name1 with
    | none => rw [h] at hc; cases hc
    | some x => rfl
  unfold vo at e
  rw [e]; rfl
end Go.FG.Pu.impl_placeOf

namespace Go.FG.Pu.impl_FileAt
def b {R : Type} (kr : ByteArray → Bool → Option R) (d0 : Row) (name1 : ByteArray) : Option R := bif (Pu.impl_placeOf.c d0 name1) then (bif (decide (Pu.impl_placeOf.v d0 name1 < 0)) then (kr ({ data := #[] }) false) else (bif (decide (0 ≤ Pu.impl_placeOf.v d0 name1) && decide (Pu.impl_placeOf.v d0 name1 < (↑(List.length d0) : Int))) then (kr (cvS (cellAt d0 (Int.toNat (Pu.impl_placeOf.v d0 name1)) 1)) true) else (none))) else (none)
theorem b_bind {R : Type} (kr : ByteArray → Bool → Option R) (d0 : Row) (name1 : ByteArray) : b kr d0 name1 = Option.bind (b (fun r0 r1 => some (r0, r1)) d0 name1) (fun p => kr p.1 p.2) := by
  unfold b; simp only [Lib.cond_bind, Lib.some_bind, Lib.none_bind]
def vo (d0 : Row) (name1 : ByteArray) : Option (ByteArray × Bool) := b (fun r0 r1 => some (r0, r1)) d0 name1
def c (d0 : Row) (name1 : ByteArray) : Bool := Option.isSome (vo d0 name1)
def v (d0 : Row) (name1 : ByteArray) : ByteArray × Bool := Option.getD (vo d0 name1) (⟨#[]⟩, false)
theorem out (d0 : Row) (name1 : ByteArray) {x : ByteArray × Bool} (h : vo d0 name1 = some x) : c d0 name1 = true ∧ v d0 name1 = x := by
  unfold c v; rw [h]; exact ⟨rfl, rfl⟩
theorem b_eq {R : Type} (kr : ByteArray → Bool → Option R) (d0 : Row) (name1 : ByteArray) (hc : c d0 name1 = true) : b kr d0 name1 = kr ((v d0 name1).1) ((v d0 name1).2) := by
  rw [b_bind]
  have e : vo d0 name1 = some (v d0 name1) := by
    unfold c at hc; unfold v
    cases h : vo d0 name1 with
    | none => rw [h] at hc; cases hc
    | some x => rfl
  unfold vo at e
  rw [e]; rfl
end Go.FG.Pu.impl_FileAt

namespace Go.FG.Pu.impl_AnewActs
def r5 {R : Type} (N : Nat) (g : Bool → ByteArray → Row → Int → Int → Row → Option R) (k0 : Bool → ByteArray → Row → Int → Int → Row → Option R) (k1 : Bool → ByteArray → Row → Int → Int → Row → Option R) (x0 : Bool) (x1 : ByteArray) (x2 : Row) (x3 : Int) (x4 : Int) (x5 : Row) : Option R := bif (decide (x4 < x3)) then (bif (decide (0 ≤ x4) && decide (x4 < (↑(List.length x2) : Int))) then (bif (Pu.impl_framed.c (cvS (cellAt x2 (Int.toNat x4) 0)) (cvI (cellAt x2 (Int.toNat x4) 1)) (cvI (cellAt x2 (Int.toNat x4) (1 + 1))) (cvS (cellAt x2 (Int.toNat x4) (1 + 1 + 1)))) then (bif (!(Pu.impl_framed.v (cvS (cellAt x2 (Int.toNat x4) 0)) (cvI (cellAt x2 (Int.toNat x4) 1)) (cvI (cellAt x2 (Int.toNat x4) (1 + 1))) (cvS (cellAt x2 (Int.toNat x4) (1 + 1 + 1)))).2) then (k0 false x1 x2 x3 x4 x5) else (bif (decide (ByteArray.size x1 + ByteArray.size (Pu.impl_framed.v (cvS (cellAt x2 (Int.toNat x4) 0)) (cvI (cellAt x2 (Int.toNat x4) 1)) (cvI (cellAt x2 (Int.toNat x4) (1 + 1))) (cvS (cellAt x2 (Int.toNat x4) (1 + 1 + 1)))).1 ≤ 4611686018427387904)) then (g x0 (x1 ++ (Pu.impl_framed.v (cvS (cellAt x2 (Int.toNat x4) 0)) (cvI (cellAt x2 (Int.toNat x4) 1)) (cvI (cellAt x2 (Int.toNat x4) (1 + 1))) (cvS (cellAt x2 (Int.toNat x4) (1 + 1 + 1)))).1) x2 x3 (w64 (x4 + 1)) x5) else (none))) else (none)) else (none)) else (k1 x0 x1 x2 x3 x4 x5)
def l5 {R : Type} (N : Nat) (k0 : Bool → ByteArray → Row → Int → Int → Row → Option R) (k1 : Bool → ByteArray → Row → Int → Int → Row → Option R) : Nat → Bool → ByteArray → Row → Int → Int → Row → Option R
  | 0 => (fun _ _ _ _ _ _ => none)
  | n + 1 => (fun x0 x1 x2 x3 x4 x5 => r5 N (l5 N k0 k1 n) k0 k1 x0 x1 x2 x3 x4 x5)
def b {R : Type} (N : Nat) (kr : Row → Bool → Option R) (d0 : Row) (list1 : Row) : Option R := bif (Pu.impl_DiskOk.c d0) then (bif (!Pu.impl_DiskOk.v d0) then (kr [] false) else (l5 N (fun y6 y7 y8 y9 y10 y11 => kr [] y6) (fun y12 y13 y14 y15 y16 y17 => bif (Pu.impl_FileAt.c y17 { data := #[UInt8.ofNat 110, UInt8.ofNat 101, UInt8.ofNat 119] }) then (bif ((Pu.impl_FileAt.v y17 { data := #[UInt8.ofNat 110, UInt8.ofNat 101, UInt8.ofNat 119] }).2) then (kr (zeros [Ck.i IntKind.i64, Ck.s, Ck.s, Ck.s] 0 ++ List.set (zeros [Ck.i IntKind.i64, Ck.s, Ck.s, Ck.s] 1) 0 [CV.i IntKind.i64 4, CV.s { data := #[UInt8.ofNat 110, UInt8.ofNat 101, UInt8.ofNat 119] }, CV.s { data := #[] }, CV.s { data := #[] }] ++ List.set (List.set (List.set (zeros [Ck.i IntKind.i64, Ck.s, Ck.s, Ck.s] 3) 0 [CV.i IntKind.i64 1, CV.s { data := #[UInt8.ofNat 110, UInt8.ofNat 101, UInt8.ofNat 119] }, CV.s y13, CV.s { data := #[] }]) 1 [CV.i IntKind.i64 2, CV.s { data := #[UInt8.ofNat 110, UInt8.ofNat 101, UInt8.ofNat 119] }, CV.s { data := #[] }, CV.s { data := #[] }]) 2 [CV.i IntKind.i64 3, CV.s { data := #[UInt8.ofNat 110, UInt8.ofNat 101, UInt8.ofNat 119] }, CV.s { data := #[] }, CV.s { data := #[UInt8.ofNat 107, UInt8.ofNat 101, UInt8.ofNat 112, UInt8.ofNat 116] }]) true) else (kr (zeros [Ck.i IntKind.i64, Ck.s, Ck.s, Ck.s] 0 ++ List.set (List.set (List.set (zeros [Ck.i IntKind.i64, Ck.s, Ck.s, Ck.s] 3) 0 [CV.i IntKind.i64 1, CV.s { data := #[UInt8.ofNat 110, UInt8.ofNat 101, UInt8.ofNat 119] }, CV.s y13, CV.s { data := #[] }]) 1 [CV.i IntKind.i64 2, CV.s { data := #[UInt8.ofNat 110, UInt8.ofNat 101, UInt8.ofNat 119] }, CV.s { data := #[] }, CV.s { data := #[] }]) 2 [CV.i IntKind.i64 3, CV.s { data := #[UInt8.ofNat 110, UInt8.ofNat 101, UInt8.ofNat 119] }, CV.s { data := #[] }, CV.s { data := #[UInt8.ofNat 107, UInt8.ofNat 101, UInt8.ofNat 112, UInt8.ofNat 116] }]) true)) else (none)) N false ({ data := #[] }) list1 (↑(List.length list1) : Int) 0 d0)) else (none)
theorem q5_bind {R S : Type} (f : R → Option S) (N : Nat) (k0 : Bool → ByteArray → Row → Int → Int → Row → Option R) (k1 : Bool → ByteArray → Row → Int → Int → Row → Option R) : ∀ n : Nat, (∀ (x0 : Bool) (x1 : ByteArray) (x2 : Row) (x3 : Int) (x4 : Int) (x5 : Row), Option.bind (l5 N k0 k1 n x0 x1 x2 x3 x4 x5) f = l5 N (fun y0 y1 y2 y3 y4 y5 => (Option.bind (k0 y0 y1 y2 y3 y4 y5) f)) (fun y0 y1 y2 y3 y4 y5 => (Option.bind (k1 y0 y1 y2 y3 y4 y5) f)) n x0 x1 x2 x3 x4 x5) := by
  intro n
  induction n with
  | zero => exact (fun _ _ _ _ _ _ => rfl)
  | succ n ih =>
    intro x0 x1 x2 x3 x4 x5
    simp only [l5, r5, Lib.cond_bind, Lib.some_bind, Lib.none_bind, ih]
theorem l5_bind {R S : Type} (f : R → Option S) (N : Nat) (k0 : Bool → ByteArray → Row → Int → Int → Row → Option R) (k1 : Bool → ByteArray → Row → Int → Int → Row → Option R) (n : Nat) (x0 : Bool) (x1 : ByteArray) (x2 : Row) (x3 : Int) (x4 : Int) (x5 : Row) : Option.bind (l5 N k0 k1 n x0 x1 x2 x3 x4 x5) f = l5 N (fun y0 y1 y2 y3 y4 y5 => (Option.bind (k0 y0 y1 y2 y3 y4 y5) f)) (fun y0 y1 y2 y3 y4 y5 => (Option.bind (k1 y0 y1 y2 y3 y4 y5) f)) n x0 x1 x2 x3 x4 x5 := (q5_bind f N k0 k1 n) x0 x1 x2 x3 x4 x5
theorem b_bind {R : Type} (N : Nat) (kr : Row → Bool → Option R) (d0 : Row) (list1 : Row) : b N kr d0 list1 = Option.bind (b N (fun r0 r1 => some (r0, r1)) d0 list1) (fun p => kr p.1 p.2) := by
  unfold b; simp only [Lib.cond_bind, Lib.some_bind, Lib.none_bind, l5_bind]
def vo (d0 : Row) (list1 : Row) : Option (Row × Bool) := b Lib.big (fun r0 r1 => some (r0, r1)) d0 list1
def c (d0 : Row) (list1 : Row) : Bool := Option.isSome (vo d0 list1)
def v (d0 : Row) (list1 : Row) : Row × Bool := Option.getD (vo d0 list1) ([], false)
theorem out (d0 : Row) (list1 : Row) {x : Row × Bool} (h : vo d0 list1 = some x) : c d0 list1 = true ∧ v d0 list1 = x := by
  unfold c v; rw [h]; exact ⟨rfl, rfl⟩
theorem b_eq {R : Type} (kr : Row → Bool → Option R) (d0 : Row) (list1 : Row) (hc : c d0 list1 = true) : ∃ N, b N kr d0 list1 = kr ((v d0 list1).1) ((v d0 list1).2) := by
  refine ⟨Lib.big, ?_⟩
  rw [b_bind]
  have e : vo d0 list1 = some (v d0 list1) := by
    unfold c at hc; unfold v
    cases h : vo d0 list1 with
    | none => rw [h] at hc; cases hc
    | some x => rfl
  unfold vo at e
  rw [e]; rfl
end Go.FG.Pu.impl_AnewActs

namespace Go.FG.Pu.laws_eqAct
def b {R : Type} (kr : Bool → Option R) (a0_0 : Int) (a0_1 : ByteArray) (a0_2 : ByteArray) (a0_3 : ByteArray) (b1_0 : Int) (b1_1 : ByteArray) (b1_2 : ByteArray) (b1_3 : ByteArray) : Option R := bif (a0_0 != b1_0) then (kr false) else (bif (!List.beq (ByteArray.toList a0_1) (ByteArray.toList b1_1)) then (kr false) else (bif (!List.beq (ByteArray.toList a0_2) (ByteArray.toList b1_2)) then (kr false) else (bif (!List.beq (ByteArray.toList a0_3) (ByteArray.toList b1_3)) then (kr false) else (kr true))))
def v (a0_0 : Int) (a0_1 : ByteArray) (a0_2 : ByteArray) (a0_3 : ByteArray) (b1_0 : Int) (b1_1 : ByteArray) (b1_2 : ByteArray) (b1_3 : ByteArray) : Bool := bif (a0_0 != b1_0) then ((false)) else (bif (!List.beq (ByteArray.toList a0_1) (ByteArray.toList b1_1)) then ((false)) else (bif (!List.beq (ByteArray.toList a0_2) (ByteArray.toList b1_2)) then ((false)) else (bif (!List.beq (ByteArray.toList a0_3) (ByteArray.toList b1_3)) then ((false)) else ((true)))))
theorem b_eq {R : Type} (kr : Bool → Option R) (a0_0 : Int) (a0_1 : ByteArray) (a0_2 : ByteArray) (a0_3 : ByteArray) (b1_0 : Int) (b1_1 : ByteArray) (b1_2 : ByteArray) (b1_3 : ByteArray) : b kr a0_0 a0_1 a0_2 a0_3 b1_0 b1_1 b1_2 b1_3 = kr (v a0_0 a0_1 a0_2 a0_3 b1_0 b1_1 b1_2 b1_3) := by
  first | rfl | (unfold b v; simp only [Bool.cond_eq_ite]; (repeat' split) <;> rfl)
end Go.FG.Pu.laws_eqAct

namespace Go.FG.Pu.laws_eqActS
def r4 {R : Type} (N : Nat) (g : Row → Row → Bool → Int → Option R) (k0 : Row → Row → Bool → Int → Option R) (k1 : Row → Row → Bool → Int → Option R) (x0 : Row) (x1 : Row) (x2 : Bool) (x3 : Int) : Option R := bif (decide (x3 < (↑(List.length x0) : Int))) then (bif (decide (0 ≤ x3) && decide (x3 < (↑(List.length x0) : Int))) then (bif (decide (0 ≤ x3) && decide (x3 < (↑(List.length x1) : Int))) then (bif (!Pu.laws_eqAct.v (cvI (cellAt x0 (Int.toNat x3) 0)) (cvS (cellAt x0 (Int.toNat x3) 1)) (cvS (cellAt x0 (Int.toNat x3) (1 + 1))) (cvS (cellAt x0 (Int.toNat x3) (1 + 1 + 1))) (cvI (cellAt x1 (Int.toNat x3) 0)) (cvS (cellAt x1 (Int.toNat x3) 1)) (cvS (cellAt x1 (Int.toNat x3) (1 + 1))) (cvS (cellAt x1 (Int.toNat x3) (1 + 1 + 1)))) then (k0 x0 x1 false x3) else (g x0 x1 x2 (w64 (x3 + 1)))) else (none)) else (none)) else (k1 x0 x1 x2 x3)
def l4 {R : Type} (N : Nat) (k0 : Row → Row → Bool → Int → Option R) (k1 : Row → Row → Bool → Int → Option R) : Nat → Row → Row → Bool → Int → Option R
  | 0 => (fun _ _ _ _ => none)
  | n + 1 => (fun x0 x1 x2 x3 => r4 N (l4 N k0 k1 n) k0 k1 x0 x1 x2 x3)
def b {R : Type} (N : Nat) (kr : Bool → Option R) (a0 : Row) (b1 : Row) : Option R := bif ((↑(List.length a0) : Int) != (↑(List.length b1) : Int)) then (kr false) else (l4 N (fun y4 y5 y6 y7 => kr y6) (fun y8 y9 y10 y11 => kr true) N a0 b1 false 0)
theorem q4_bind {R S : Type} (f : R → Option S) (N : Nat) (k0 : Row → Row → Bool → Int → Option R) (k1 : Row → Row → Bool → Int → Option R) : ∀ n : Nat, (∀ (x0 : Row) (x1 : Row) (x2 : Bool) (x3 : Int), Option.bind (l4 N k0 k1 n x0 x1 x2 x3) f = l4 N (fun y0 y1 y2 y3 => (Option.bind (k0 y0 y1 y2 y3) f)) (fun y0 y1 y2 y3 => (Option.bind (k1 y0 y1 y2 y3) f)) n x0 x1 x2 x3) := by
  intro n
  induction n with
  | zero => exact (fun _ _ _ _ => rfl)
  | succ n ih =>
    intro x0 x1 x2 x3
    simp only [l4, r4, Lib.cond_bind, Lib.some_bind, Lib.none_bind, ih]
theorem l4_bind {R S : Type} (f : R → Option S) (N : Nat) (k0 : Row → Row → Bool → Int → Option R) (k1 : Row → Row → Bool → Int → Option R) (n : Nat) (x0 : Row) (x1 : Row) (x2 : Bool) (x3 : Int) : Option.bind (l4 N k0 k1 n x0 x1 x2 x3) f = l4 N (fun y0 y1 y2 y3 => (Option.bind (k0 y0 y1 y2 y3) f)) (fun y0 y1 y2 y3 => (Option.bind (k1 y0 y1 y2 y3) f)) n x0 x1 x2 x3 := (q4_bind f N k0 k1 n) x0 x1 x2 x3
theorem b_bind {R : Type} (N : Nat) (kr : Bool → Option R) (a0 : Row) (b1 : Row) : b N kr a0 b1 = Option.bind (b N (fun r0 => some (r0)) a0 b1) (fun p => kr p) := by
  unfold b; simp only [Lib.cond_bind, Lib.some_bind, Lib.none_bind, l4_bind]
def vo (a0 : Row) (b1 : Row) : Option (Bool) := b Lib.big (fun r0 => some (r0)) a0 b1
def c (a0 : Row) (b1 : Row) : Bool := Option.isSome (vo a0 b1)
def v (a0 : Row) (b1 : Row) : Bool := Option.getD (vo a0 b1) (false)
theorem out (a0 : Row) (b1 : Row) {x : Bool} (h : vo a0 b1 = some x) : c a0 b1 = true ∧ v a0 b1 = x := by
  unfold c v; rw [h]; exact ⟨rfl, rfl⟩
theorem b_eq {R : Type} (kr : Bool → Option R) (a0 : Row) (b1 : Row) (hc : c a0 b1 = true) : ∃ N, b N kr a0 b1 = kr (v a0 b1) := by
  refine ⟨Lib.big, ?_⟩
  rw [b_bind]
  have e : vo a0 b1 = some (v a0 b1) := by
    unfold c at hc; unfold v
    cases h : vo a0 b1 with
    | none => rw [h] at hc; cases hc
    | some x => rfl
  unfold vo at e
  rw [e]; rfl
end Go.FG.Pu.laws_eqActS

namespace Go.FG.Pu.laws_eqFile
def b {R : Type} (kr : Bool → Option R) (a0_0 : ByteArray) (a0_1 : ByteArray) (a0_2 : Int) (b1_0 : ByteArray) (b1_1 : ByteArray) (b1_2 : Int) : Option R := bif (!List.beq (ByteArray.toList a0_0) (ByteArray.toList b1_0)) then (kr false) else (bif (!List.beq (ByteArray.toList a0_1) (ByteArray.toList b1_1)) then (kr false) else (bif (a0_2 != b1_2) then (kr false) else (kr true)))
def v (a0_0 : ByteArray) (a0_1 : ByteArray) (a0_2 : Int) (b1_0 : ByteArray) (b1_1 : ByteArray) (b1_2 : Int) : Bool := bif (!List.beq (ByteArray.toList a0_0) (ByteArray.toList b1_0)) then ((false)) else (bif (!List.beq (ByteArray.toList a0_1) (ByteArray.toList b1_1)) then ((false)) else (bif (a0_2 != b1_2) then ((false)) else ((true))))
theorem b_eq {R : Type} (kr : Bool → Option R) (a0_0 : ByteArray) (a0_1 : ByteArray) (a0_2 : Int) (b1_0 : ByteArray) (b1_1 : ByteArray) (b1_2 : Int) : b kr a0_0 a0_1 a0_2 b1_0 b1_1 b1_2 = kr (v a0_0 a0_1 a0_2 b1_0 b1_1 b1_2) := by
  first | rfl | (unfold b v; simp only [Bool.cond_eq_ite]; (repeat' split) <;> rfl)
end Go.FG.Pu.laws_eqFile

namespace Go.FG.Pu.laws_eqFileS
def r4 {R : Type} (N : Nat) (g : Row → Row → Bool → Int → Option R) (k0 : Row → Row → Bool → Int → Option R) (k1 : Row → Row → Bool → Int → Option R) (x0 : Row) (x1 : Row) (x2 : Bool) (x3 : Int) : Option R := bif (decide (x3 < (↑(List.length x0) : Int))) then (bif (decide (0 ≤ x3) && decide (x3 < (↑(List.length x0) : Int))) then (bif (decide (0 ≤ x3) && decide (x3 < (↑(List.length x1) : Int))) then (bif (!Pu.laws_eqFile.v (cvS (cellAt x0 (Int.toNat x3) 0)) (cvS (cellAt x0 (Int.toNat x3) 1)) (cvI (cellAt x0 (Int.toNat x3) (1 + 1))) (cvS (cellAt x1 (Int.toNat x3) 0)) (cvS (cellAt x1 (Int.toNat x3) 1)) (cvI (cellAt x1 (Int.toNat x3) (1 + 1)))) then (k0 x0 x1 false x3) else (g x0 x1 x2 (w64 (x3 + 1)))) else (none)) else (none)) else (k1 x0 x1 x2 x3)
def l4 {R : Type} (N : Nat) (k0 : Row → Row → Bool → Int → Option R) (k1 : Row → Row → Bool → Int → Option R) : Nat → Row → Row → Bool → Int → Option R
  | 0 => (fun _ _ _ _ => none)
  | n + 1 => (fun x0 x1 x2 x3 => r4 N (l4 N k0 k1 n) k0 k1 x0 x1 x2 x3)
def b {R : Type} (N : Nat) (kr : Bool → Option R) (a0 : Row) (b1 : Row) : Option R := bif ((↑(List.length a0) : Int) != (↑(List.length b1) : Int)) then (kr false) else (l4 N (fun y4 y5 y6 y7 => kr y6) (fun y8 y9 y10 y11 => kr true) N a0 b1 false 0)
theorem q4_bind {R S : Type} (f : R → Option S) (N : Nat) (k0 : Row → Row → Bool → Int → Option R) (k1 : Row → Row → Bool → Int → Option R) : ∀ n : Nat, (∀ (x0 : Row) (x1 : Row) (x2 : Bool) (x3 : Int), Option.bind (l4 N k0 k1 n x0 x1 x2 x3) f = l4 N (fun y0 y1 y2 y3 => (Option.bind (k0 y0 y1 y2 y3) f)) (fun y0 y1 y2 y3 => (Option.bind (k1 y0 y1 y2 y3) f)) n x0 x1 x2 x3) := by
  intro n
  induction n with
  | zero => exact (fun _ _ _ _ => rfl)
  | succ n ih =>
    intro x0 x1 x2 x3
    simp only [l4, r4, Lib.cond_bind, Lib.some_bind, Lib.none_bind, ih]
theorem l4_bind {R S : Type} (f : R → Option S) (N : Nat) (k0 : Row → Row → Bool → Int → Option R) (k1 : Row → Row → Bool → Int → Option R) (n : Nat) (x0 : Row) (x1 : Row) (x2 : Bool) (x3 : Int) : Option.bind (l4 N k0 k1 n x0 x1 x2 x3) f = l4 N (fun y0 y1 y2 y3 => (Option.bind (k0 y0 y1 y2 y3) f)) (fun y0 y1 y2 y3 => (Option.bind (k1 y0 y1 y2 y3) f)) n x0 x1 x2 x3 := (q4_bind f N k0 k1 n) x0 x1 x2 x3
theorem b_bind {R : Type} (N : Nat) (kr : Bool → Option R) (a0 : Row) (b1 : Row) : b N kr a0 b1 = Option.bind (b N (fun r0 => some (r0)) a0 b1) (fun p => kr p) := by
  unfold b; simp only [Lib.cond_bind, Lib.some_bind, Lib.none_bind, l4_bind]
def vo (a0 : Row) (b1 : Row) : Option (Bool) := b Lib.big (fun r0 => some (r0)) a0 b1
def c (a0 : Row) (b1 : Row) : Bool := Option.isSome (vo a0 b1)
def v (a0 : Row) (b1 : Row) : Bool := Option.getD (vo a0 b1) (false)
theorem out (a0 : Row) (b1 : Row) {x : Bool} (h : vo a0 b1 = some x) : c a0 b1 = true ∧ v a0 b1 = x := by
  unfold c v; rw [h]; exact ⟨rfl, rfl⟩
theorem b_eq {R : Type} (kr : Bool → Option R) (a0 : Row) (b1 : Row) (hc : c a0 b1 = true) : ∃ N, b N kr a0 b1 = kr (v a0 b1) := by
  refine ⟨Lib.big, ?_⟩
  rw [b_bind]
  have e : vo a0 b1 = some (v a0 b1) := by
    unfold c at hc; unfold v
    cases h : vo a0 b1 with
    | none => rw [h] at hc; cases hc
    | some x => rfl
  unfold vo at e
  rw [e]; rfl
end Go.FG.Pu.laws_eqFileS

namespace Go.FG.Pu.laws_eqDisk
def b {R : Type} (kr : Bool → Option R) (a0 : Row) (b1 : Row) : Option R := bif (Pu.laws_eqFileS.c a0 b1) then (bif (!Pu.laws_eqFileS.v a0 b1) then (kr false) else (kr true)) else (none)
theorem b_bind {R : Type} (kr : Bool → Option R) (a0 : Row) (b1 : Row) : b kr a0 b1 = Option.bind (b (fun r0 => some (r0)) a0 b1) (fun p => kr p) := by
  unfold b; simp only [Lib.cond_bind, Lib.some_bind, Lib.none_bind]
def vo (a0 : Row) (b1 : Row) : Option (Bool) := b (fun r0 => some (r0)) a0 b1
def c (a0 : Row) (b1 : Row) : Bool := Option.isSome (vo a0 b1)
def v (a0 : Row) (b1 : Row) : Bool := Option.getD (vo a0 b1) (false)
theorem out (a0 : Row) (b1 : Row) {x : Bool} (h : vo a0 b1 = some x) : c a0 b1 = true ∧ v a0 b1 = x := by
  unfold c v; rw [h]; exact ⟨rfl, rfl⟩
theorem b_eq {R : Type} (kr : Bool → Option R) (a0 : Row) (b1 : Row) (hc : c a0 b1 = true) : b kr a0 b1 = kr (v a0 b1) := by
  rw [b_bind]
  have e : vo a0 b1 = some (v a0 b1) := by
    unfold c at hc; unfold v
    cases h : vo a0 b1 with
    | none => rw [h] at hc; cases hc
    | some x => rfl
  unfold vo at e
  rw [e]; rfl
end Go.FG.Pu.laws_eqDisk

namespace Go.FG.Pu.laws_eqEntry
def b {R : Type} (kr : Bool → Option R) (a0_0 : ByteArray) (a0_1 : Int) (a0_2 : Int) (a0_3 : ByteArray) (b1_0 : ByteArray) (b1_1 : Int) (b1_2 : Int) (b1_3 : ByteArray) : Option R := bif (!List.beq (ByteArray.toList a0_0) (ByteArray.toList b1_0)) then (kr false) else (bif (a0_1 != b1_1) then (kr false) else (bif (a0_2 != b1_2) then (kr false) else (bif (!List.beq (ByteArray.toList a0_3) (ByteArray.toList b1_3)) then (kr false) else (kr true))))
def v (a0_0 : ByteArray) (a0_1 : Int) (a0_2 : Int) (a0_3 : ByteArray) (b1_0 : ByteArray) (b1_1 : Int) (b1_2 : Int) (b1_3 : ByteArray) : Bool := bif (!List.beq (ByteArray.toList a0_0) (ByteArray.toList b1_0)) then ((false)) else (bif (a0_1 != b1_1) then ((false)) else (bif (a0_2 != b1_2) then ((false)) else (bif (!List.beq (ByteArray.toList a0_3) (ByteArray.toList b1_3)) then ((false)) else ((true)))))
theorem b_eq {R : Type} (kr : Bool → Option R) (a0_0 : ByteArray) (a0_1 : Int) (a0_2 : Int) (a0_3 : ByteArray) (b1_0 : ByteArray) (b1_1 : Int) (b1_2 : Int) (b1_3 : ByteArray) : b kr a0_0 a0_1 a0_2 a0_3 b1_0 b1_1 b1_2 b1_3 = kr (v a0_0 a0_1 a0_2 a0_3 b1_0 b1_1 b1_2 b1_3) := by
  first | rfl | (unfold b v; simp only [Bool.cond_eq_ite]; (repeat' split) <;> rfl)
end Go.FG.Pu.laws_eqEntry

namespace Go.FG.Pu.laws_eqEntryS
def r4 {R : Type} (N : Nat) (g : Row → Row → Bool → Int → Option R) (k0 : Row → Row → Bool → Int → Option R) (k1 : Row → Row → Bool → Int → Option R) (x0 : Row) (x1 : Row) (x2 : Bool) (x3 : Int) : Option R := bif (decide (x3 < (↑(List.length x0) : Int))) then (bif (decide (0 ≤ x3) && decide (x3 < (↑(List.length x0) : Int))) then (bif (decide (0 ≤ x3) && decide (x3 < (↑(List.length x1) : Int))) then (bif (!Pu.laws_eqEntry.v (cvS (cellAt x0 (Int.toNat x3) 0)) (cvI (cellAt x0 (Int.toNat x3) 1)) (cvI (cellAt x0 (Int.toNat x3) (1 + 1))) (cvS (cellAt x0 (Int.toNat x3) (1 + 1 + 1))) (cvS (cellAt x1 (Int.toNat x3) 0)) (cvI (cellAt x1 (Int.toNat x3) 1)) (cvI (cellAt x1 (Int.toNat x3) (1 + 1))) (cvS (cellAt x1 (Int.toNat x3) (1 + 1 + 1)))) then (k0 x0 x1 false x3) else (g x0 x1 x2 (w64 (x3 + 1)))) else (none)) else (none)) else (k1 x0 x1 x2 x3)
def l4 {R : Type} (N : Nat) (k0 : Row → Row → Bool → Int → Option R) (k1 : Row → Row → Bool → Int → Option R) : Nat → Row → Row → Bool → Int → Option R
  | 0 => (fun _ _ _ _ => none)
  | n + 1 => (fun x0 x1 x2 x3 => r4 N (l4 N k0 k1 n) k0 k1 x0 x1 x2 x3)
def b {R : Type} (N : Nat) (kr : Bool → Option R) (a0 : Row) (b1 : Row) : Option R := bif ((↑(List.length a0) : Int) != (↑(List.length b1) : Int)) then (kr false) else (l4 N (fun y4 y5 y6 y7 => kr y6) (fun y8 y9 y10 y11 => kr true) N a0 b1 false 0)
theorem q4_bind {R S : Type} (f : R → Option S) (N : Nat) (k0 : Row → Row → Bool → Int → Option R) (k1 : Row → Row → Bool → Int → Option R) : ∀ n : Nat, (∀ (x0 : Row) (x1 : Row) (x2 : Bool) (x3 : Int), Option.bind (l4 N k0 k1 n x0 x1 x2 x3) f = l4 N (fun y0 y1 y2 y3 => (Option.bind (k0 y0 y1 y2 y3) f)) (fun y0 y1 y2 y3 => (Option.bind (k1 y0 y1 y2 y3) f)) n x0 x1 x2 x3) := by
  intro n
  induction n with
  | zero => exact (fun _ _ _ _ => rfl)
  | succ n ih =>
    intro x0 x1 x2 x3
    simp only [l4, r4, Lib.cond_bind, Lib.some_bind, Lib.none_bind, ih]
theorem l4_bind {R S : Type} (f : R → Option S) (N : Nat) (k0 : Row → Row → Bool → Int → Option R) (k1 : Row → Row → Bool → Int → Option R) (n : Nat) (x0 : Row) (x1 : Row) (x2 : Bool) (x3 : Int) : Option.bind (l4 N k0 k1 n x0 x1 x2 x3) f = l4 N (fun y0 y1 y2 y3 => (Option.bind (k0 y0 y1 y2 y3) f)) (fun y0 y1 y2 y3 => (Option.bind (k1 y0 y1 y2 y3) f)) n x0 x1 x2 x3 := (q4_bind f N k0 k1 n) x0 x1 x2 x3
theorem b_bind {R : Type} (N : Nat) (kr : Bool → Option R) (a0 : Row) (b1 : Row) : b N kr a0 b1 = Option.bind (b N (fun r0 => some (r0)) a0 b1) (fun p => kr p) := by
  unfold b; simp only [Lib.cond_bind, Lib.some_bind, Lib.none_bind, l4_bind]
def vo (a0 : Row) (b1 : Row) : Option (Bool) := b Lib.big (fun r0 => some (r0)) a0 b1
def c (a0 : Row) (b1 : Row) : Bool := Option.isSome (vo a0 b1)
def v (a0 : Row) (b1 : Row) : Bool := Option.getD (vo a0 b1) (false)
theorem out (a0 : Row) (b1 : Row) {x : Bool} (h : vo a0 b1 = some x) : c a0 b1 = true ∧ v a0 b1 = x := by
  unfold c v; rw [h]; exact ⟨rfl, rfl⟩
theorem b_eq {R : Type} (kr : Bool → Option R) (a0 : Row) (b1 : Row) (hc : c a0 b1 = true) : ∃ N, b N kr a0 b1 = kr (v a0 b1) := by
  refine ⟨Lib.big, ?_⟩
  rw [b_bind]
  have e : vo a0 b1 = some (v a0 b1) := by
    unfold c at hc; unfold v
    cases h : vo a0 b1 with
    | none => rw [h] at hc; cases hc
    | some x => rfl
  unfold vo at e
  rw [e]; rfl
end Go.FG.Pu.laws_eqEntryS

namespace Go.FG.Pu.laws_markText
def r4 {R : Type} (N : Nat) (g : Int → ByteArray → Option R) (k0 : Int → ByteArray → Option R) (x0 : Int) (x1 : ByteArray) : Option R := bif (decide (x0 > 0)) then (bif (decide (ByteArray.size (bytesOf (List.set (zeros [Ck.i IntKind.u8] 1) 0 [CV.i IntKind.u8 (IntKind.wrap IntKind.u8 (w64 (48 + Int.tmod x0 10)))])) + ByteArray.size x1 ≤ 4611686018427387904)) then (g (w64 (Int.tdiv x0 10)) (bytesOf (List.set (zeros [Ck.i IntKind.u8] 1) 0 [CV.i IntKind.u8 (IntKind.wrap IntKind.u8 (w64 (48 + Int.tmod x0 10)))]) ++ x1)) else (none)) else (k0 x0 x1)
def l4 {R : Type} (N : Nat) (k0 : Int → ByteArray → Option R) : Nat → Int → ByteArray → Option R
  | 0 => (fun _ _ => none)
  | n + 1 => (fun x0 x1 => r4 N (l4 N k0 n) k0 x0 x1)
def b {R : Type} (N : Nat) (kr : ByteArray → Option R) (k0 : Int) : Option R := bif (decide (k0 ≤ 0)) then (kr ({ data := #[UInt8.ofNat 109, UInt8.ofNat 48] })) else (l4 N (fun y2 y3 => bif (decide (ByteArray.size { data := #[UInt8.ofNat 109] } + ByteArray.size y3 ≤ 4611686018427387904)) then (kr ({ data := #[UInt8.ofNat 109] } ++ y3)) else (none)) N k0 ({ data := #[] }))
theorem q4_bind {R S : Type} (f : R → Option S) (N : Nat) (k0 : Int → ByteArray → Option R) : ∀ n : Nat, (∀ (x0 : Int) (x1 : ByteArray), Option.bind (l4 N k0 n x0 x1) f = l4 N (fun y0 y1 => (Option.bind (k0 y0 y1) f)) n x0 x1) := by
  intro n
  induction n with
  | zero => exact (fun _ _ => rfl)
  | succ n ih =>
    intro x0 x1
    simp only [l4, r4, Lib.cond_bind, Lib.some_bind, Lib.none_bind, ih]
theorem l4_bind {R S : Type} (f : R → Option S) (N : Nat) (k0 : Int → ByteArray → Option R) (n : Nat) (x0 : Int) (x1 : ByteArray) : Option.bind (l4 N k0 n x0 x1) f = l4 N (fun y0 y1 => (Option.bind (k0 y0 y1) f)) n x0 x1 := (q4_bind f N k0 n) x0 x1
theorem b_bind {R : Type} (N : Nat) (kr : ByteArray → Option R) (k0 : Int) : b N kr k0 = Option.bind (b N (fun r0 => some (r0)) k0) (fun p => kr p) := by
  unfold b; simp only [Lib.cond_bind, Lib.some_bind, Lib.none_bind, l4_bind]
def vo (k0 : Int) : Option (ByteArray) := b Lib.big (fun r0 => some (r0)) k0
def c (k0 : Int) : Bool := Option.isSome (vo k0)
def v (k0 : Int) : ByteArray := Option.getD (vo k0) (⟨#[]⟩)
theorem out (k0 : Int) {x : ByteArray} (h : vo k0 = some x) : c k0 = true ∧ v k0 = x := by
  unfold c v; rw [h]; exact ⟨rfl, rfl⟩
theorem b_eq {R : Type} (kr : ByteArray → Option R) (k0 : Int) (hc : c k0 = true) : ∃ N, b N kr k0 = kr (v k0) := by
  refine ⟨Lib.big, ?_⟩
  rw [b_bind]
  have e : vo k0 = some (v k0) := by
    unfold c at hc; unfold v
    cases h : vo k0 with
    | none => rw [h] at hc; cases hc
    | some x => rfl
  unfold vo at e
  rw [e]; rfl
end Go.FG.Pu.laws_markText

namespace Go.FG.Pu.laws_markFileS
def r2 {R : Type} (N : Nat) (g : Int → Int → Row → Option R) (k0 : Int → Int → Row → Option R) (x0 : Int) (x1 : Int) (x2 : Row) : Option R := bif (decide (x1 < (↑(List.length x2) : Int))) then (bif (Pu.laws_markText.c x0) then (bif (decide (0 ≤ x1) && decide (x1 < (↑(List.length x2) : Int))) then (bif (Pu.laws_markText.c (w64 (x0 + 1))) then (bif (decide (0 ≤ x1) && decide (x1 < (↑(List.length (setC x2 (Int.toNat x1) 0 [CV.s (Pu.laws_markText.v x0)])) : Int))) then (bif (decide (0 ≤ x1) && decide (x1 < (↑(List.length (setC (setC x2 (Int.toNat x1) 0 [CV.s (Pu.laws_markText.v x0)]) (Int.toNat x1) 1 [CV.s (Pu.laws_markText.v (w64 (x0 + 1)))])) : Int))) then (g (w64 (w64 (w64 (x0 + 1) + 1) + 1)) (w64 (x1 + 1)) (setC (setC (setC x2 (Int.toNat x1) 0 [CV.s (Pu.laws_markText.v x0)]) (Int.toNat x1) 1 [CV.s (Pu.laws_markText.v (w64 (x0 + 1)))]) (Int.toNat x1) 2 [CV.i IntKind.i64 (w64 (w64 (x0 + 1) + 1))])) else (none)) else (none)) else (none)) else (none)) else (none)) else (k0 x0 x1 x2)
def l2 {R : Type} (N : Nat) (k0 : Int → Int → Row → Option R) : Nat → Int → Int → Row → Option R
  | 0 => (fun _ _ _ => none)
  | n + 1 => (fun x0 x1 x2 => r2 N (l2 N k0 n) k0 x0 x1 x2)
def b {R : Type} (N : Nat) (kr : Int → Row → Option R) (a0 : Row) (k1 : Int) : Option R := l2 N (fun y3 y4 y5 => kr y3 y5) N k1 0 a0
theorem q2_bind {R S : Type} (f : R → Option S) (N : Nat) (k0 : Int → Int → Row → Option R) : ∀ n : Nat, (∀ (x0 : Int) (x1 : Int) (x2 : Row), Option.bind (l2 N k0 n x0 x1 x2) f = l2 N (fun y0 y1 y2 => (Option.bind (k0 y0 y1 y2) f)) n x0 x1 x2) := by
  intro n
  induction n with
  | zero => exact (fun _ _ _ => rfl)
  | succ n ih =>
    intro x0 x1 x2
    simp only [l2, r2, Lib.cond_bind, Lib.some_bind, Lib.none_bind, ih]
theorem l2_bind {R S : Type} (f : R → Option S) (N : Nat) (k0 : Int → Int → Row → Option R) (n : Nat) (x0 : Int) (x1 : Int) (x2 : Row) : Option.bind (l2 N k0 n x0 x1 x2) f = l2 N (fun y0 y1 y2 => (Option.bind (k0 y0 y1 y2) f)) n x0 x1 x2 := (q2_bind f N k0 n) x0 x1 x2
theorem b_bind {R : Type} (N : Nat) (kr : Int → Row → Option R) (a0 : Row) (k1 : Int) : b N kr a0 k1 = Option.bind (b N (fun r0 r1 => some (r0, r1)) a0 k1) (fun p => kr p.1 p.2) := by
  unfold b; simp only [Lib.cond_bind, Lib.some_bind, Lib.none_bind, l2_bind]
def vo (a0 : Row) (k1 : Int) : Option (Int × Row) := b Lib.big (fun r0 r1 => some (r0, r1)) a0 k1
def c (a0 : Row) (k1 : Int) : Bool := Option.isSome (vo a0 k1)
def v (a0 : Row) (k1 : Int) : Int × Row := Option.getD (vo a0 k1) (0, [])
theorem out (a0 : Row) (k1 : Int) {x : Int × Row} (h : vo a0 k1 = some x) : c a0 k1 = true ∧ v a0 k1 = x := by
  unfold c v; rw [h]; exact ⟨rfl, rfl⟩
theorem b_eq {R : Type} (kr : Int → Row → Option R) (a0 : Row) (k1 : Int) (hc : c a0 k1 = true) : ∃ N, b N kr a0 k1 = kr ((v a0 k1).1) ((v a0 k1).2) := by
  refine ⟨Lib.big, ?_⟩
  rw [b_bind]
  have e : vo a0 k1 = some (v a0 k1) := by
    unfold c at hc; unfold v
    cases h : vo a0 k1 with
    | none => rw [h] at hc; cases hc
    | some x => rfl
  unfold vo at e
  rw [e]; rfl
end Go.FG.Pu.laws_markFileS

namespace Go.FG.Pu.laws_markDisk
def b {R : Type} (kr : Int → Row → Option R) (a0 : Row) (k1 : Int) : Option R := bif (Pu.laws_markFileS.c a0 k1) then (kr ((Pu.laws_markFileS.v a0 k1).1) ((Pu.laws_markFileS.v a0 k1).2)) else (none)
theorem b_bind {R : Type} (kr : Int → Row → Option R) (a0 : Row) (k1 : Int) : b kr a0 k1 = Option.bind (b (fun r0 r1 => some (r0, r1)) a0 k1) (fun p => kr p.1 p.2) := by
  unfold b; simp only [Lib.cond_bind, Lib.some_bind, Lib.none_bind]
def vo (a0 : Row) (k1 : Int) : Option (Int × Row) := b (fun r0 r1 => some (r0, r1)) a0 k1
def c (a0 : Row) (k1 : Int) : Bool := Option.isSome (vo a0 k1)
def v (a0 : Row) (k1 : Int) : Int × Row := Option.getD (vo a0 k1) (0, [])
theorem out (a0 : Row) (k1 : Int) {x : Int × Row} (h : vo a0 k1 = some x) : c a0 k1 = true ∧ v a0 k1 = x := by
  unfold c v; rw [h]; exact ⟨rfl, rfl⟩
theorem b_eq {R : Type} (kr : Int → Row → Option R) (a0 : Row) (k1 : Int) (hc : c a0 k1 = true) : b kr a0 k1 = kr ((v a0 k1).1) ((v a0 k1).2) := by
  rw [b_bind]
  have e : vo a0 k1 = some (v a0 k1) := by
    unfold c at hc; unfold v
    cases h : vo a0 k1 with
    | none => rw [h] at hc; cases hc
    | some x => rfl
  unfold vo at e
  rw [e]; rfl
end Go.FG.Pu.laws_markDisk

namespace Go.FG.Pu.laws_markEntryS
def r2 {R : Type} (N : Nat) (g : Int → Int → Row → Option R) (k0 : Int → Int → Row → Option R) (x0 : Int) (x1 : Int) (x2 : Row) : Option R := bif (decide (x1 < (↑(List.length x2) : Int))) then (bif (Pu.laws_markText.c x0) then (bif (decide (0 ≤ x1) && decide (x1 < (↑(List.length x2) : Int))) then (bif (decide (0 ≤ x1) && decide (x1 < (↑(List.length (setC x2 (Int.toNat x1) 0 [CV.s (Pu.laws_markText.v x0)])) : Int))) then (bif (decide (0 ≤ x1) && decide (x1 < (↑(List.length (setC (setC x2 (Int.toNat x1) 0 [CV.s (Pu.laws_markText.v x0)]) (Int.toNat x1) 1 [CV.i IntKind.i64 (w64 (x0 + 1))])) : Int))) then (bif (Pu.laws_markText.c (w64 (w64 (w64 (x0 + 1) + 1) + 1))) then (bif (decide (0 ≤ x1) && decide (x1 < (↑(List.length (setC (setC (setC x2 (Int.toNat x1) 0 [CV.s (Pu.laws_markText.v x0)]) (Int.toNat x1) 1 [CV.i IntKind.i64 (w64 (x0 + 1))]) (Int.toNat x1) 2 [CV.i IntKind.i64 (w64 (w64 (x0 + 1) + 1))])) : Int))) then (g (w64 (w64 (w64 (w64 (x0 + 1) + 1) + 1) + 1)) (w64 (x1 + 1)) (setC (setC (setC (setC x2 (Int.toNat x1) 0 [CV.s (Pu.laws_markText.v x0)]) (Int.toNat x1) 1 [CV.i IntKind.i64 (w64 (x0 + 1))]) (Int.toNat x1) 2 [CV.i IntKind.i64 (w64 (w64 (x0 + 1) + 1))]) (Int.toNat x1) 3 [CV.s (Pu.laws_markText.v (w64 (w64 (w64 (x0 + 1) + 1) + 1)))])) else (none)) else (none)) else (none)) else (none)) else (none)) else (none)) else (k0 x0 x1 x2)
def l2 {R : Type} (N : Nat) (k0 : Int → Int → Row → Option R) : Nat → Int → Int → Row → Option R
  | 0 => (fun _ _ _ => none)
  | n + 1 => (fun x0 x1 x2 => r2 N (l2 N k0 n) k0 x0 x1 x2)
def b {R : Type} (N : Nat) (kr : Int → Row → Option R) (a0 : Row) (k1 : Int) : Option R := l2 N (fun y3 y4 y5 => kr y3 y5) N k1 0 a0
theorem q2_bind {R S : Type} (f : R → Option S) (N : Nat) (k0 : Int → Int → Row → Option R) : ∀ n : Nat, (∀ (x0 : Int) (x1 : Int) (x2 : Row), Option.bind (l2 N k0 n x0 x1 x2) f = l2 N (fun y0 y1 y2 => (Option.bind (k0 y0 y1 y2) f)) n x0 x1 x2) := by
  intro n
  induction n with
  | zero => exact (fun _ _ _ => rfl)
  | succ n ih =>
    intro x0 x1 x2
    simp only [l2, r2, Lib.cond_bind, Lib.some_bind, Lib.none_bind, ih]
theorem l2_bind {R S : Type} (f : R → Option S) (N : Nat) (k0 : Int → Int → Row → Option R) (n : Nat) (x0 : Int) (x1 : Int) (x2 : Row) : Option.bind (l2 N k0 n x0 x1 x2) f = l2 N (fun y0 y1 y2 => (Option.bind (k0 y0 y1 y2) f)) n x0 x1 x2 := (q2_bind f N k0 n) x0 x1 x2
theorem b_bind {R : Type} (N : Nat) (kr : Int → Row → Option R) (a0 : Row) (k1 : Int) : b N kr a0 k1 = Option.bind (b N (fun r0 r1 => some (r0, r1)) a0 k1) (fun p => kr p.1 p.2) := by
  unfold b; simp only [Lib.cond_bind, Lib.some_bind, Lib.none_bind, l2_bind]
def vo (a0 : Row) (k1 : Int) : Option (Int × Row) := b Lib.big (fun r0 r1 => some (r0, r1)) a0 k1
def c (a0 : Row) (k1 : Int) : Bool := Option.isSome (vo a0 k1)
def v (a0 : Row) (k1 : Int) : Int × Row := Option.getD (vo a0 k1) (0, [])
theorem out (a0 : Row) (k1 : Int) {x : Int × Row} (h : vo a0 k1 = some x) : c a0 k1 = true ∧ v a0 k1 = x := by
  unfold c v; rw [h]; exact ⟨rfl, rfl⟩
theorem b_eq {R : Type} (kr : Int → Row → Option R) (a0 : Row) (k1 : Int) (hc : c a0 k1 = true) : ∃ N, b N kr a0 k1 = kr ((v a0 k1).1) ((v a0 k1).2) := by
  refine ⟨Lib.big, ?_⟩
  rw [b_bind]
  have e : vo a0 k1 = some (v a0 k1) := by
    unfold c at hc; unfold v
    cases h : vo a0 k1 with
    | none => rw [h] at hc; cases hc
    | some x => rfl
  unfold vo at e
  rw [e]; rfl
end Go.FG.Pu.laws_markEntryS

namespace Go.FG.Pu.laws_markActS
def r2 {R : Type} (N : Nat) (g : Int → Int → Row → Option R) (k0 : Int → Int → Row → Option R) (x0 : Int) (x1 : Int) (x2 : Row) : Option R := bif (decide (x1 < (↑(List.length x2) : Int))) then (bif (decide (0 ≤ x1) && decide (x1 < (↑(List.length x2) : Int))) then (bif (Pu.laws_markText.c (w64 (x0 + 1))) then (bif (decide (0 ≤ x1) && decide (x1 < (↑(List.length (setC x2 (Int.toNat x1) 0 [CV.i IntKind.i64 x0])) : Int))) then (bif (Pu.laws_markText.c (w64 (w64 (x0 + 1) + 1))) then (bif (decide (0 ≤ x1) && decide (x1 < (↑(List.length (setC (setC x2 (Int.toNat x1) 0 [CV.i IntKind.i64 x0]) (Int.toNat x1) 1 [CV.s (Pu.laws_markText.v (w64 (x0 + 1)))])) : Int))) then (bif (Pu.laws_markText.c (w64 (w64 (w64 (x0 + 1) + 1) + 1))) then (bif (decide (0 ≤ x1) && decide (x1 < (↑(List.length (setC (setC (setC x2 (Int.toNat x1) 0 [CV.i IntKind.i64 x0]) (Int.toNat x1) 1 [CV.s (Pu.laws_markText.v (w64 (x0 + 1)))]) (Int.toNat x1) 2 [CV.s (Pu.laws_markText.v (w64 (w64 (x0 + 1) + 1)))])) : Int))) then (g (w64 (w64 (w64 (w64 (x0 + 1) + 1) + 1) + 1)) (w64 (x1 + 1)) (setC (setC (setC (setC x2 (Int.toNat x1) 0 [CV.i IntKind.i64 x0]) (Int.toNat x1) 1 [CV.s (Pu.laws_markText.v (w64 (x0 + 1)))]) (Int.toNat x1) 2 [CV.s (Pu.laws_markText.v (w64 (w64 (x0 + 1) + 1)))]) (Int.toNat x1) 3 [CV.s (Pu.laws_markText.v (w64 (w64 (w64 (x0 + 1) + 1) + 1)))])) else (none)) else (none)) else (none)) else (none)) else (none)) else (none)) else (none)) else (k0 x0 x1 x2)
def l2 {R : Type} (N : Nat) (k0 : Int → Int → Row → Option R) : Nat → Int → Int → Row → Option R
  | 0 => (fun _ _ _ => none)
  | n + 1 => (fun x0 x1 x2 => r2 N (l2 N k0 n) k0 x0 x1 x2)
def b {R : Type} (N : Nat) (kr : Int → Row → Option R) (a0 : Row) (k1 : Int) : Option R := l2 N (fun y3 y4 y5 => kr y3 y5) N k1 0 a0
theorem q2_bind {R S : Type} (f : R → Option S) (N : Nat) (k0 : Int → Int → Row → Option R) : ∀ n : Nat, (∀ (x0 : Int) (x1 : Int) (x2 : Row), Option.bind (l2 N k0 n x0 x1 x2) f = l2 N (fun y0 y1 y2 => (Option.bind (k0 y0 y1 y2) f)) n x0 x1 x2) := by
  intro n
  induction n with
  | zero => exact (fun _ _ _ => rfl)
  | succ n ih =>
    intro x0 x1 x2
    simp only [l2, r2, Lib.cond_bind, Lib.some_bind, Lib.none_bind, ih]
theorem l2_bind {R S : Type} (f : R → Option S) (N : Nat) (k0 : Int → Int → Row → Option R) (n : Nat) (x0 : Int) (x1 : Int) (x2 : Row) : Option.bind (l2 N k0 n x0 x1 x2) f = l2 N (fun y0 y1 y2 => (Option.bind (k0 y0 y1 y2) f)) n x0 x1 x2 := (q2_bind f N k0 n) x0 x1 x2
theorem b_bind {R : Type} (N : Nat) (kr : Int → Row → Option R) (a0 : Row) (k1 : Int) : b N kr a0 k1 = Option.bind (b N (fun r0 r1 => some (r0, r1)) a0 k1) (fun p => kr p.1 p.2) := by
  unfold b; simp only [Lib.cond_bind, Lib.some_bind, Lib.none_bind, l2_bind]
def vo (a0 : Row) (k1 : Int) : Option (Int × Row) := b Lib.big (fun r0 r1 => some (r0, r1)) a0 k1
def c (a0 : Row) (k1 : Int) : Bool := Option.isSome (vo a0 k1)
def v (a0 : Row) (k1 : Int) : Int × Row := Option.getD (vo a0 k1) (0, [])
theorem out (a0 : Row) (k1 : Int) {x : Int × Row} (h : vo a0 k1 = some x) : c a0 k1 = true ∧ v a0 k1 = x := by
  unfold c v; rw [h]; exact ⟨rfl, rfl⟩
theorem b_eq {R : Type} (kr : Int → Row → Option R) (a0 : Row) (k1 : Int) (hc : c a0 k1 = true) : ∃ N, b N kr a0 k1 = kr ((v a0 k1).1) ((v a0 k1).2) := by
  refine ⟨Lib.big, ?_⟩
  rw [b_bind]
  have e : vo a0 k1 = some (v a0 k1) := by
    unfold c at hc; unfold v
    cases h : vo a0 k1 with
    | none => rw [h] at hc; cases hc
    | some x => rfl
  unfold vo at e
  rw [e]; rfl
end Go.FG.Pu.laws_markActS

namespace Go.FG.Pu.laws_heldActS
def r2 {R : Type} (N : Nat) (g : Row → Int → Int → Int → Option R) (k0 : Row → Int → Int → Int → Option R) (k1 : Row → Int → Int → Int → Option R) (x0 : Row) (x1 : Int) (x2 : Int) (x3 : Int) : Option R := bif (decide (x3 < (↑(List.length x0) : Int))) then (bif (decide (0 ≤ x3) && decide (x3 < (↑(List.length x0) : Int))) then (bif (cvI (cellAt x0 (Int.toNat x3) 0) != x1) then (k0 x0 x1 (-1) x3) else (bif (decide (0 ≤ x3) && decide (x3 < (↑(List.length x0) : Int))) then (bif (Pu.laws_markText.c (w64 (x1 + 1))) then (bif (!List.beq (ByteArray.toList (cvS (cellAt x0 (Int.toNat x3) 1))) (ByteArray.toList (Pu.laws_markText.v (w64 (x1 + 1))))) then (k0 x0 (w64 (x1 + 1)) (-1) x3) else (bif (decide (0 ≤ x3) && decide (x3 < (↑(List.length x0) : Int))) then (bif (Pu.laws_markText.c (w64 (w64 (x1 + 1) + 1))) then (bif (!List.beq (ByteArray.toList (cvS (cellAt x0 (Int.toNat x3) 2))) (ByteArray.toList (Pu.laws_markText.v (w64 (w64 (x1 + 1) + 1))))) then (k0 x0 (w64 (w64 (x1 + 1) + 1)) (-1) x3) else (bif (decide (0 ≤ x3) && decide (x3 < (↑(List.length x0) : Int))) then (bif (Pu.laws_markText.c (w64 (w64 (w64 (x1 + 1) + 1) + 1))) then (bif (!List.beq (ByteArray.toList (cvS (cellAt x0 (Int.toNat x3) 3))) (ByteArray.toList (Pu.laws_markText.v (w64 (w64 (w64 (x1 + 1) + 1) + 1))))) then (k0 x0 (w64 (w64 (w64 (x1 + 1) + 1) + 1)) (-1) x3) else (g x0 (w64 (w64 (w64 (w64 (x1 + 1) + 1) + 1) + 1)) x2 (w64 (x3 + 1)))) else (none)) else (none))) else (none)) else (none))) else (none)) else (none))) else (none)) else (k1 x0 x1 x2 x3)
def l2 {R : Type} (N : Nat) (k0 : Row → Int → Int → Int → Option R) (k1 : Row → Int → Int → Int → Option R) : Nat → Row → Int → Int → Int → Option R
  | 0 => (fun _ _ _ _ => none)
  | n + 1 => (fun x0 x1 x2 x3 => r2 N (l2 N k0 k1 n) k0 k1 x0 x1 x2 x3)
def b {R : Type} (N : Nat) (kr : Int → Option R) (a0 : Row) (k1 : Int) : Option R := l2 N (fun y4 y5 y6 y7 => kr y6) (fun y8 y9 y10 y11 => kr y9) N a0 k1 0 0
theorem q2_bind {R S : Type} (f : R → Option S) (N : Nat) (k0 : Row → Int → Int → Int → Option R) (k1 : Row → Int → Int → Int → Option R) : ∀ n : Nat, (∀ (x0 : Row) (x1 : Int) (x2 : Int) (x3 : Int), Option.bind (l2 N k0 k1 n x0 x1 x2 x3) f = l2 N (fun y0 y1 y2 y3 => (Option.bind (k0 y0 y1 y2 y3) f)) (fun y0 y1 y2 y3 => (Option.bind (k1 y0 y1 y2 y3) f)) n x0 x1 x2 x3) := by
  intro n
  induction n with
  | zero => exact (fun _ _ _ _ => rfl)
  | succ n ih =>
    intro x0 x1 x2 x3
    simp only [l2, r2, Lib.cond_bind, Lib.some_bind, Lib.none_bind, ih]
theorem l2_bind {R S : Type} (f : R → Option S) (N : Nat) (k0 : Row → Int → Int → Int → Option R) (k1 : Row → Int → Int → Int → Option R) (n : Nat) (x0 : Row) (x1 : Int) (x2 : Int) (x3 : Int) : Option.bind (l2 N k0 k1 n x0 x1 x2 x3) f = l2 N (fun y0 y1 y2 y3 => (Option.bind (k0 y0 y1 y2 y3) f)) (fun y0 y1 y2 y3 => (Option.bind (k1 y0 y1 y2 y3) f)) n x0 x1 x2 x3 := (q2_bind f N k0 k1 n) x0 x1 x2 x3
theorem b_bind {R : Type} (N : Nat) (kr : Int → Option R) (a0 : Row) (k1 : Int) : b N kr a0 k1 = Option.bind (b N (fun r0 => some (r0)) a0 k1) (fun p => kr p) := by
  unfold b; simp only [Lib.cond_bind, Lib.some_bind, Lib.none_bind, l2_bind]
def vo (a0 : Row) (k1 : Int) : Option (Int) := b Lib.big (fun r0 => some (r0)) a0 k1
def c (a0 : Row) (k1 : Int) : Bool := Option.isSome (vo a0 k1)
def v (a0 : Row) (k1 : Int) : Int := Option.getD (vo a0 k1) (0)
theorem out (a0 : Row) (k1 : Int) {x : Int} (h : vo a0 k1 = some x) : c a0 k1 = true ∧ v a0 k1 = x := by
  unfold c v; rw [h]; exact ⟨rfl, rfl⟩
theorem b_eq {R : Type} (kr : Int → Option R) (a0 : Row) (k1 : Int) (hc : c a0 k1 = true) : ∃ N, b N kr a0 k1 = kr (v a0 k1) := by
  refine ⟨Lib.big, ?_⟩
  rw [b_bind]
  have e : vo a0 k1 = some (v a0 k1) := by
    unfold c at hc; unfold v
    cases h : vo a0 k1 with
    | none => rw [h] at hc; cases hc
    | some x => rfl
  unfold vo at e
  rw [e]; rfl
end Go.FG.Pu.laws_heldActS

namespace Go.FG.Pu.laws_FnExactAnewActs
def b {R : Type} (kr : Bool → Option R) (aD0 : Row) (aList1 : Row) : Option R := bif (Pu.laws_szDisk.c aD0 1048576) then (bif (decide (Pu.laws_szDisk.v aD0 1048576 < 0)) then (kr true) else (bif (Pu.laws_szEntryS.c aList1 (Pu.laws_szDisk.v aD0 1048576)) then (bif (decide (Pu.laws_szEntryS.v aList1 (Pu.laws_szDisk.v aD0 1048576) < 0)) then (kr true) else (bif (Pu.laws_toDisk.c aD0) then (bif (Pu.laws_toEntryS.c aList1) then (bif (Pu.spec_AnewActs.c (Pu.laws_toDisk.v aD0) (Pu.laws_toEntryS.v aList1)) then (bif (Pu.laws_toDisk.c aD0) then (bif (Pu.laws_toEntryS.c aList1) then (bif (Pu.impl_AnewActs.c (Pu.laws_toDisk.v aD0) (Pu.laws_toEntryS.v aList1)) then (bif (Pu.laws_eqActS.c (Pu.impl_AnewActs.v (Pu.laws_toDisk.v aD0) (Pu.laws_toEntryS.v aList1)).1 (Pu.spec_AnewActs.v (Pu.laws_toDisk.v aD0) (Pu.laws_toEntryS.v aList1)).1) then (bif (!Pu.laws_eqActS.v (Pu.impl_AnewActs.v (Pu.laws_toDisk.v aD0) (Pu.laws_toEntryS.v aList1)).1 (Pu.spec_AnewActs.v (Pu.laws_toDisk.v aD0) (Pu.laws_toEntryS.v aList1)).1) then (kr false) else (bif (!decide ((Pu.impl_AnewActs.v (Pu.laws_toDisk.v aD0) (Pu.laws_toEntryS.v aList1)).2 = (Pu.spec_AnewActs.v (Pu.laws_toDisk.v aD0) (Pu.laws_toEntryS.v aList1)).2)) then (kr false) else (bif (Pu.laws_toDisk.c aD0) then (bif (Pu.laws_eqDisk.c (Pu.laws_toDisk.v aD0) (Pu.laws_toDisk.v aD0)) then (bif (!Pu.laws_eqDisk.v (Pu.laws_toDisk.v aD0) (Pu.laws_toDisk.v aD0)) then (kr false) else (bif (Pu.laws_toEntryS.c aList1) then (bif (Pu.laws_eqEntryS.c (Pu.laws_toEntryS.v aList1) (Pu.laws_toEntryS.v aList1)) then (bif (!Pu.laws_eqEntryS.v (Pu.laws_toEntryS.v aList1) (Pu.laws_toEntryS.v aList1)) then (kr false) else (bif (Pu.laws_markDisk.c (Pu.laws_toDisk.v aD0) 1) then (bif (Pu.laws_markEntryS.c (Pu.laws_toEntryS.v aList1) (Pu.laws_markDisk.v (Pu.laws_toDisk.v aD0) 1).1) then (bif (decide ((Pu.laws_markEntryS.v (Pu.laws_toEntryS.v aList1) (Pu.laws_markDisk.v (Pu.laws_toDisk.v aD0) 1).1).1 < 0)) then (kr false) else (bif (Pu.laws_eqActS.c (Pu.impl_AnewActs.v (Pu.laws_toDisk.v aD0) (Pu.laws_toEntryS.v aList1)).1 (Pu.spec_AnewActs.v (Pu.laws_toDisk.v aD0) (Pu.laws_toEntryS.v aList1)).1) then (bif (!Pu.laws_eqActS.v (Pu.impl_AnewActs.v (Pu.laws_toDisk.v aD0) (Pu.laws_toEntryS.v aList1)).1 (Pu.spec_AnewActs.v (Pu.laws_toDisk.v aD0) (Pu.laws_toEntryS.v aList1)).1) then (kr false) else (bif (!decide ((Pu.impl_AnewActs.v (Pu.laws_toDisk.v aD0) (Pu.laws_toEntryS.v aList1)).2 = (Pu.spec_AnewActs.v (Pu.laws_toDisk.v aD0) (Pu.laws_toEntryS.v aList1)).2)) then (kr false) else (bif (Pu.laws_markActS.c (Pu.impl_AnewActs.v (Pu.laws_toDisk.v aD0) (Pu.laws_toEntryS.v aList1)).1 1) then (bif (Pu.laws_heldActS.c (Pu.laws_markActS.v (Pu.impl_AnewActs.v (Pu.laws_toDisk.v aD0) (Pu.laws_toEntryS.v aList1)).1 1).2 1) then (bif (decide (Pu.laws_heldActS.v (Pu.laws_markActS.v (Pu.impl_AnewActs.v (Pu.laws_toDisk.v aD0) (Pu.laws_toEntryS.v aList1)).1 1).2 1 < 0)) then (kr false) else (bif (Pu.laws_heldActS.v (Pu.laws_markActS.v (Pu.impl_AnewActs.v (Pu.laws_toDisk.v aD0) (Pu.laws_toEntryS.v aList1)).1 1).2 1 != (Pu.laws_markActS.v (Pu.impl_AnewActs.v (Pu.laws_toDisk.v aD0) (Pu.laws_toEntryS.v aList1)).1 1).1) then (kr false) else (bif (Pu.laws_toDisk.c aD0) then (bif (Pu.laws_toEntryS.c aList1) then (bif (Pu.impl_AnewActs.c (Pu.laws_toDisk.v aD0) (Pu.laws_toEntryS.v aList1)) then (bif (Pu.laws_eqActS.c (Pu.impl_AnewActs.v (Pu.laws_toDisk.v aD0) (Pu.laws_toEntryS.v aList1)).1 (Pu.spec_AnewActs.v (Pu.laws_toDisk.v aD0) (Pu.laws_toEntryS.v aList1)).1) then (bif (!Pu.laws_eqActS.v (Pu.impl_AnewActs.v (Pu.laws_toDisk.v aD0) (Pu.laws_toEntryS.v aList1)).1 (Pu.spec_AnewActs.v (Pu.laws_toDisk.v aD0) (Pu.laws_toEntryS.v aList1)).1) then (kr false) else (bif (!decide ((Pu.impl_AnewActs.v (Pu.laws_toDisk.v aD0) (Pu.laws_toEntryS.v aList1)).2 = (Pu.spec_AnewActs.v (Pu.laws_toDisk.v aD0) (Pu.laws_toEntryS.v aList1)).2)) then (kr false) else (bif (Pu.laws_heldActS.c (Pu.laws_markActS.v (Pu.impl_AnewActs.v (Pu.laws_toDisk.v aD0) (Pu.laws_toEntryS.v aList1)).1 1).2 1) then (bif (decide (Pu.laws_heldActS.v (Pu.laws_markActS.v (Pu.impl_AnewActs.v (Pu.laws_toDisk.v aD0) (Pu.laws_toEntryS.v aList1)).1 1).2 1 < 0)) then (kr false) else (bif (Pu.laws_heldActS.v (Pu.laws_markActS.v (Pu.impl_AnewActs.v (Pu.laws_toDisk.v aD0) (Pu.laws_toEntryS.v aList1)).1 1).2 1 != (Pu.laws_markActS.v (Pu.impl_AnewActs.v (Pu.laws_toDisk.v aD0) (Pu.laws_toEntryS.v aList1)).1 1).1) then (kr false) else (kr true))) else (none)))) else (none)) else (none)) else (none)) else (none)))) else (none)) else (none)))) else (none))) else (none)) else (none))) else (none)) else (none))) else (none)) else (none)))) else (none)) else (none)) else (none)) else (none)) else (none)) else (none)) else (none))) else (none))) else (none)
theorem b_bind {R : Type} (kr : Bool → Option R) (aD0 : Row) (aList1 : Row) : b kr aD0 aList1 = Option.bind (b (fun r0 => some (r0)) aD0 aList1) (fun p => kr p) := by
  unfold b; simp only [Lib.cond_bind, Lib.some_bind, Lib.none_bind]
def vo (aD0 : Row) (aList1 : Row) : Option (Bool) := b (fun r0 => some (r0)) aD0 aList1
def c (aD0 : Row) (aList1 : Row) : Bool := Option.isSome (vo aD0 aList1)
def v (aD0 : Row) (aList1 : Row) : Bool := Option.getD (vo aD0 aList1) (false)
theorem out (aD0 : Row) (aList1 : Row) {x : Bool} (h : vo aD0 aList1 = some x) : c aD0 aList1 = true ∧ v aD0 aList1 = x := by
  unfold c v; rw [h]; exact ⟨rfl, rfl⟩
theorem b_eq {R : Type} (kr : Bool → Option R) (aD0 : Row) (aList1 : Row) (hc : c aD0 aList1 = true) : b kr aD0 aList1 = kr (v aD0 aList1) := by
  rw [b_bind]
  have e : vo aD0 aList1 = some (v aD0 aList1) := by
    unfold c at hc; unfold v
    cases h : vo aD0 aList1 with
    | none => rw [h] at hc; cases hc
    | some x => rfl
  unfold vo at e
  rw [e]; rfl
end Go.FG.Pu.laws_FnExactAnewActs

