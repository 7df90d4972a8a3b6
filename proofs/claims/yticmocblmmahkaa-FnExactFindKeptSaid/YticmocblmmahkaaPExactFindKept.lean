/- Functions of the program, told as functions of numbers, texts and lists, and what each comes to. No condition but those that each states. -/
import Derived.Test.YticmocblmmahkaaLib
set_option linter.unusedVariables false
set_option linter.unusedSimpArgs false
set_option maxRecDepth 100000
namespace Go.FG.Pu.laws_szFile
def b {R : Type} (kr : Int → Option R) (a0_0 : ByteArray) (a0_1 : ByteArray) (a0_2 : Int) (left1 : Int) : Option R := bif (decide (w64 (left1 - (↑(ByteArray.size a0_0) : Int)) < 0)) then (kr (-1)) else (bif (decide (w64 (w64 (left1 - (↑(ByteArray.size a0_0) : Int)) - (↑(ByteArray.size a0_1) : Int)) < 0)) then (kr (-1)) else (kr (w64 (w64 (left1 - (↑(ByteArray.size a0_0) : Int)) - (↑(ByteArray.size a0_1) : Int)))))
def v (a0_0 : ByteArray) (a0_1 : ByteArray) (a0_2 : Int) (left1 : Int) : Int := bif (decide (w64 (left1 - (↑(ByteArray.size a0_0) : Int)) < 0)) then (((-1))) else (bif (decide (w64 (w64 (left1 - (↑(ByteArray.size a0_0) : Int)) - (↑(ByteArray.size a0_1) : Int)) < 0)) then (((-1))) else (((w64 (w64 (left1 - (↑(ByteArray.size a0_0) : Int)) - (↑(ByteArray.size a0_1) : Int))))))
theorem b_eq {R : Type} (kr : Int → Option R) (a0_0 : ByteArray) (a0_1 : ByteArray) (a0_2 : Int) (left1 : Int) : b kr a0_0 a0_1 a0_2 left1 = kr (v a0_0 a0_1 a0_2 left1) := by
  first | rfl | (unfold b v; simp only [Bool.cond_eq_ite]; (repeat' split) <;> rfl)
end Go.FG.Pu.laws_szFile

namespace Go.FG.Pu.laws_szFileS
def r5 {R : Type} (N : Nat) (g : Row → Int → Int → Int → Option R) (k0 : Row → Int → Int → Int → Option R) (k1 : Row → Int → Int → Int → Option R) (x0 : Row) (x1 : Int) (x2 : Int) (x3 : Int) : Option R := bif (decide (x3 < (↑(List.length x0) : Int))) then (bif (decide (0 ≤ x3) && decide (x3 < (↑(List.length x0) : Int))) then (bif (decide (Pu.laws_szFile.v (cvS (cellAt x0 (Int.toNat x3) 0)) (cvS (cellAt x0 (Int.toNat x3) 1)) (cvI (cellAt x0 (Int.toNat x3) (1 + 1))) x1 < 0)) then (k0 x0 (Pu.laws_szFile.v (cvS (cellAt x0 (Int.toNat x3) 0)) (cvS (cellAt x0 (Int.toNat x3) 1)) (cvI (cellAt x0 (Int.toNat x3) (1 + 1))) x1) (-1) x3) else (g x0 (Pu.laws_szFile.v (cvS (cellAt x0 (Int.toNat x3) 0)) (cvS (cellAt x0 (Int.toNat x3) 1)) (cvI (cellAt x0 (Int.toNat x3) (1 + 1))) x1) x2 (w64 (x3 + 1)))) else (none)) else (k1 x0 x1 x2 x3)
def l5 {R : Type} (N : Nat) (k0 : Row → Int → Int → Int → Option R) (k1 : Row → Int → Int → Int → Option R) : Nat → Row → Int → Int → Int → Option R
  | 0 => (fun _ _ _ _ => none)
  | n + 1 => (fun x0 x1 x2 x3 => r5 N (l5 N k0 k1 n) k0 k1 x0 x1 x2 x3)
def b {R : Type} (N : Nat) (kr : Int → Option R) (a0 : Row) (left1 : Int) : Option R := bif (decide (w64 (left1 - (↑(List.length a0) : Int)) < 0)) then (kr (-1)) else (l5 N (fun y4 y5 y6 y7 => kr y6) (fun y8 y9 y10 y11 => kr y9) N a0 (w64 (left1 - (↑(List.length a0) : Int))) 0 0)
theorem q5_bind {R S : Type} (f : R → Option S) (N : Nat) (k0 : Row → Int → Int → Int → Option R) (k1 : Row → Int → Int → Int → Option R) : ∀ n : Nat, (∀ (x0 : Row) (x1 : Int) (x2 : Int) (x3 : Int), Option.bind (l5 N k0 k1 n x0 x1 x2 x3) f = l5 N (fun y0 y1 y2 y3 => (Option.bind (k0 y0 y1 y2 y3) f)) (fun y0 y1 y2 y3 => (Option.bind (k1 y0 y1 y2 y3) f)) n x0 x1 x2 x3) := by
  intro n
  induction n with
  | zero => exact (fun _ _ _ _ => rfl)
  | succ n ih =>
    intro x0 x1 x2 x3
    simp only [l5, r5, Lib.cond_bind, Lib.some_bind, Lib.none_bind, ih]
theorem l5_bind {R S : Type} (f : R → Option S) (N : Nat) (k0 : Row → Int → Int → Int → Option R) (k1 : Row → Int → Int → Int → Option R) (n : Nat) (x0 : Row) (x1 : Int) (x2 : Int) (x3 : Int) : Option.bind (l5 N k0 k1 n x0 x1 x2 x3) f = l5 N (fun y0 y1 y2 y3 => (Option.bind (k0 y0 y1 y2 y3) f)) (fun y0 y1 y2 y3 => (Option.bind (k1 y0 y1 y2 y3) f)) n x0 x1 x2 x3 := (q5_bind f N k0 k1 n) x0 x1 x2 x3
theorem b_bind {R : Type} (N : Nat) (kr : Int → Option R) (a0 : Row) (left1 : Int) : b N kr a0 left1 = Option.bind (b N (fun r0 => some (r0)) a0 left1) (fun p => kr p) := by
  unfold b; simp only [Lib.cond_bind, Lib.some_bind, Lib.none_bind, l5_bind]
def vo (a0 : Row) (left1 : Int) : Option (Int) := b Lib.big (fun r0 => some (r0)) a0 left1
def c (a0 : Row) (left1 : Int) : Bool := Option.isSome (vo a0 left1)
def v (a0 : Row) (left1 : Int) : Int := Option.getD (vo a0 left1) (0)
theorem out (a0 : Row) (left1 : Int) {x : Int} (h : vo a0 left1 = some x) : c a0 left1 = true ∧ v a0 left1 = x := by
  unfold c v; rw [h]; exact ⟨rfl, rfl⟩
theorem b_eq {R : Type} (kr : Int → Option R) (a0 : Row) (left1 : Int) (hc : c a0 left1 = true) : ∃ N, b N kr a0 left1 = kr (v a0 left1) := by
  refine ⟨Lib.big, ?_⟩
  rw [b_bind]
  have e : vo a0 left1 = some (v a0 left1) := by
    unfold c at hc; unfold v
    cases h : vo a0 left1 with
    | none => rw [h] at hc; cases hc
    | some x => rfl
  unfold vo at e
  rw [e]; rfl
end Go.FG.Pu.laws_szFileS

namespace Go.FG.Pu.laws_szDisk
def b {R : Type} (kr : Int → Option R) (a0 : Row) (left1 : Int) : Option R := bif (Pu.laws_szFileS.c a0 left1) then (bif (decide (Pu.laws_szFileS.v a0 left1 < 0)) then (kr (-1)) else (kr (Pu.laws_szFileS.v a0 left1))) else (none)
theorem b_bind {R : Type} (kr : Int → Option R) (a0 : Row) (left1 : Int) : b kr a0 left1 = Option.bind (b (fun r0 => some (r0)) a0 left1) (fun p => kr p) := by
  unfold b; simp only [Lib.cond_bind, Lib.some_bind, Lib.none_bind]
def vo (a0 : Row) (left1 : Int) : Option (Int) := b (fun r0 => some (r0)) a0 left1
def c (a0 : Row) (left1 : Int) : Bool := Option.isSome (vo a0 left1)
def v (a0 : Row) (left1 : Int) : Int := Option.getD (vo a0 left1) (0)
theorem out (a0 : Row) (left1 : Int) {x : Int} (h : vo a0 left1 = some x) : c a0 left1 = true ∧ v a0 left1 = x := by
  unfold c v; rw [h]; exact ⟨rfl, rfl⟩
theorem b_eq {R : Type} (kr : Int → Option R) (a0 : Row) (left1 : Int) (hc : c a0 left1 = true) : b kr a0 left1 = kr (v a0 left1) := by
  rw [b_bind]
  have e : vo a0 left1 = some (v a0 left1) := by
    unfold c at hc; unfold v
    cases h : vo a0 left1 with
    | none => rw [h] at hc; cases hc
    | some x => rfl
  unfold vo at e
  rw [e]; rfl
end Go.FG.Pu.laws_szDisk

namespace Go.FG.Pu.laws_toFile
def b {R : Type} (kr : ByteArray → ByteArray → Int → Option R) (a0_0 : ByteArray) (a0_1 : ByteArray) (a0_2 : Int) : Option R := kr a0_0 a0_1 a0_2
def v (a0_0 : ByteArray) (a0_1 : ByteArray) (a0_2 : Int) : ByteArray × ByteArray × Int := (a0_0, a0_1, a0_2)
theorem b_eq {R : Type} (kr : ByteArray → ByteArray → Int → Option R) (a0_0 : ByteArray) (a0_1 : ByteArray) (a0_2 : Int) : b kr a0_0 a0_1 a0_2 = kr ((v a0_0 a0_1 a0_2).1) ((v a0_0 a0_1 a0_2).2.1) ((v a0_0 a0_1 a0_2).2.2) := by
  first | rfl | (unfold b v; simp only [Bool.cond_eq_ite]; (repeat' split) <;> rfl)
end Go.FG.Pu.laws_toFile

namespace Go.FG.Pu.laws_toFileS
def r3 {R : Type} (N : Nat) (g : Row → Int → Row → Option R) (k0 : Row → Int → Row → Option R) (x0 : Row) (x1 : Int) (x2 : Row) : Option R := bif (decide (x1 < (↑(List.length x0) : Int))) then (bif (decide (0 ≤ x1) && decide (x1 < (↑(List.length x0) : Int))) then (bif (decide (0 ≤ x1) && decide (x1 < (↑(List.length x2) : Int))) then (g x0 (w64 (x1 + 1)) (setC x2 (Int.toNat x1) 0 [CV.s (cvS (cellAt x0 (Int.toNat x1) 0)), CV.s (cvS (cellAt x0 (Int.toNat x1) 1)), CV.i IntKind.i64 (cvI (cellAt x0 (Int.toNat x1) (1 + 1)))])) else (none)) else (none)) else (k0 x0 x1 x2)
def l3 {R : Type} (N : Nat) (k0 : Row → Int → Row → Option R) : Nat → Row → Int → Row → Option R
  | 0 => (fun _ _ _ => none)
  | n + 1 => (fun x0 x1 x2 => r3 N (l3 N k0 n) k0 x0 x1 x2)
def b {R : Type} (N : Nat) (kr : Row → Option R) (a0 : Row) : Option R := bif (decide ((↑(List.length a0) : Int) = (↑(List.length a0) : Int)) && roomy (Int.toNat (↑(List.length a0) : Int)) 40) then (l3 N (fun y3 y4 y5 => kr y5) N a0 0 (zeros [Ck.s, Ck.s, Ck.i IntKind.i64] (Int.toNat (↑(List.length a0) : Int)))) else (none)
theorem q3_bind {R S : Type} (f : R → Option S) (N : Nat) (k0 : Row → Int → Row → Option R) : ∀ n : Nat, (∀ (x0 : Row) (x1 : Int) (x2 : Row), Option.bind (l3 N k0 n x0 x1 x2) f = l3 N (fun y0 y1 y2 => (Option.bind (k0 y0 y1 y2) f)) n x0 x1 x2) := by
  intro n
  induction n with
  | zero => exact (fun _ _ _ => rfl)
  | succ n ih =>
    intro x0 x1 x2
    simp only [l3, r3, Lib.cond_bind, Lib.some_bind, Lib.none_bind, ih]
theorem l3_bind {R S : Type} (f : R → Option S) (N : Nat) (k0 : Row → Int → Row → Option R) (n : Nat) (x0 : Row) (x1 : Int) (x2 : Row) : Option.bind (l3 N k0 n x0 x1 x2) f = l3 N (fun y0 y1 y2 => (Option.bind (k0 y0 y1 y2) f)) n x0 x1 x2 := (q3_bind f N k0 n) x0 x1 x2
theorem b_bind {R : Type} (N : Nat) (kr : Row → Option R) (a0 : Row) : b N kr a0 = Option.bind (b N (fun r0 => some (r0)) a0) (fun p => kr p) := by
  unfold b; simp only [Lib.cond_bind, Lib.some_bind, Lib.none_bind, l3_bind]
def vo (a0 : Row) : Option (Row) := b Lib.big (fun r0 => some (r0)) a0
def c (a0 : Row) : Bool := Option.isSome (vo a0)
def v (a0 : Row) : Row := Option.getD (vo a0) ([])
theorem out (a0 : Row) {x : Row} (h : vo a0 = some x) : c a0 = true ∧ v a0 = x := by
  unfold c v; rw [h]; exact ⟨rfl, rfl⟩
theorem b_eq {R : Type} (kr : Row → Option R) (a0 : Row) (hc : c a0 = true) : ∃ N, b N kr a0 = kr (v a0) := by
  refine ⟨Lib.big, ?_⟩
  rw [b_bind]
  have e : vo a0 = some (v a0) := by
    unfold c at hc; unfold v
    cases h : vo a0 with
    | none => rw [h] at hc; cases hc
    | some x => rfl
  unfold vo at e
  rw [e]; rfl
end Go.FG.Pu.laws_toFileS

namespace Go.FG.Pu.laws_toDisk
def b {R : Type} (kr : Row → Option R) (a0 : Row) : Option R := bif (Pu.laws_toFileS.c a0) then (kr (Pu.laws_toFileS.v a0)) else (none)
theorem b_bind {R : Type} (kr : Row → Option R) (a0 : Row) : b kr a0 = Option.bind (b (fun r0 => some (r0)) a0) (fun p => kr p) := by
  unfold b; simp only [Lib.cond_bind, Lib.some_bind, Lib.none_bind]
def vo (a0 : Row) : Option (Row) := b (fun r0 => some (r0)) a0
def c (a0 : Row) : Bool := Option.isSome (vo a0)
def v (a0 : Row) : Row := Option.getD (vo a0) ([])
theorem out (a0 : Row) {x : Row} (h : vo a0 = some x) : c a0 = true ∧ v a0 = x := by
  unfold c v; rw [h]; exact ⟨rfl, rfl⟩
theorem b_eq {R : Type} (kr : Row → Option R) (a0 : Row) (hc : c a0 = true) : b kr a0 = kr (v a0) := by
  rw [b_bind]
  have e : vo a0 = some (v a0) := by
    unfold c at hc; unfold v
    cases h : vo a0 with
    | none => rw [h] at hc; cases hc
    | some x => rfl
  unfold vo at e
  rw [e]; rfl
end Go.FG.Pu.laws_toDisk

namespace Go.FG.Pu.spec_l01In
def b {R : Type} (kr : Bool → Option R) (x0 : Int) (least1 : Int) (most2 : Int) : Option R := bif (decide (x0 ≥ least1)) then (kr (decide (x0 ≤ most2))) else (kr false)
def v (x0 : Int) (least1 : Int) (most2 : Int) : Bool := bif (decide (x0 ≥ least1)) then (((decide (x0 ≤ most2)))) else ((false))
theorem b_eq {R : Type} (kr : Bool → Option R) (x0 : Int) (least1 : Int) (most2 : Int) : b kr x0 least1 most2 = kr (v x0 least1 most2) := by
  first | rfl | (unfold b v; simp only [Bool.cond_eq_ite]; (repeat' split) <;> rfl)
end Go.FG.Pu.spec_l01In

namespace Go.FG.Pu.spec_l03Name
def b {R : Type} (kr : Bool → Option R) (s0 : ByteArray) : Option R := kr (Pu.spec_l01In.v (↑(ByteArray.size s0) : Int) 1 8)
def v (s0 : ByteArray) : Bool := ((Pu.spec_l01In.v (↑(ByteArray.size s0) : Int) 1 8))
theorem b_eq {R : Type} (kr : Bool → Option R) (s0 : ByteArray) : b kr s0 = kr (v s0) := by
  first | rfl | (unfold b v; simp only [Bool.cond_eq_ite]; (repeat' split) <;> rfl)
end Go.FG.Pu.spec_l03Name

namespace Go.FG.Pu.spec_DiskOk
def r4 {R : Type} (N : Nat) (g : Bool → Int → Row → Option R) (k0 : Bool → Int → Row → Option R) (k1 : Bool → Int → Row → Option R) (x0 : Bool) (x1 : Int) (x2 : Row) : Option R := bif (decide (x1 < (↑(List.length x2) : Int))) then (bif (decide (0 ≤ x1) && decide (x1 < (↑(List.length x2) : Int))) then (bif (!Pu.spec_l03Name.v (cvS (cellAt x2 (Int.toNat x1) 0))) then (k0 false x1 x2) else (bif (decide ((↑(ByteArray.size (cvS (cellAt x2 (Int.toNat x1) 1))) : Int) > 20000)) then (k0 false x1 x2) else (bif (!Pu.spec_l01In.v (cvI (cellAt x2 (Int.toNat x1) (1 + 1))) 0 (↑(ByteArray.size (cvS (cellAt x2 (Int.toNat x1) 1))) : Int)) then (k0 false x1 x2) else (bif (decide (x1 > 0)) then (bif (decide (0 ≤ w64 (x1 - 1)) && decide (w64 (x1 - 1) < (↑(List.length x2) : Int))) then (bif (!Go.Op.bytesLess (ByteArray.toList (cvS (cellAt x2 (Int.toNat (w64 (x1 - 1))) 0))) (ByteArray.toList (cvS (cellAt x2 (Int.toNat x1) 0)))) then (k0 false x1 x2) else (g x0 (w64 (x1 + 1)) x2)) else (none)) else (g x0 (w64 (x1 + 1)) x2))))) else (none)) else (k1 x0 x1 x2)
def l4 {R : Type} (N : Nat) (k0 : Bool → Int → Row → Option R) (k1 : Bool → Int → Row → Option R) : Nat → Bool → Int → Row → Option R
  | 0 => (fun _ _ _ => none)
  | n + 1 => (fun x0 x1 x2 => r4 N (l4 N k0 k1 n) k0 k1 x0 x1 x2)
def b {R : Type} (N : Nat) (kr : Bool → Option R) (d0 : Row) : Option R := bif (decide ((↑(List.length d0) : Int) > 30)) then (kr false) else (l4 N (fun y3 y4 y5 => kr y3) (fun y6 y7 y8 => kr true) N false 0 d0)
theorem q4_bind {R S : Type} (f : R → Option S) (N : Nat) (k0 : Bool → Int → Row → Option R) (k1 : Bool → Int → Row → Option R) : ∀ n : Nat, (∀ (x0 : Bool) (x1 : Int) (x2 : Row), Option.bind (l4 N k0 k1 n x0 x1 x2) f = l4 N (fun y0 y1 y2 => (Option.bind (k0 y0 y1 y2) f)) (fun y0 y1 y2 => (Option.bind (k1 y0 y1 y2) f)) n x0 x1 x2) := by
  intro n
  induction n with
  | zero => exact (fun _ _ _ => rfl)
  | succ n ih =>
    intro x0 x1 x2
    simp only [l4, r4, Lib.cond_bind, Lib.some_bind, Lib.none_bind, ih]
theorem l4_bind {R S : Type} (f : R → Option S) (N : Nat) (k0 : Bool → Int → Row → Option R) (k1 : Bool → Int → Row → Option R) (n : Nat) (x0 : Bool) (x1 : Int) (x2 : Row) : Option.bind (l4 N k0 k1 n x0 x1 x2) f = l4 N (fun y0 y1 y2 => (Option.bind (k0 y0 y1 y2) f)) (fun y0 y1 y2 => (Option.bind (k1 y0 y1 y2) f)) n x0 x1 x2 := (q4_bind f N k0 k1 n) x0 x1 x2
theorem b_bind {R : Type} (N : Nat) (kr : Bool → Option R) (d0 : Row) : b N kr d0 = Option.bind (b N (fun r0 => some (r0)) d0) (fun p => kr p) := by
  unfold b; simp only [Lib.cond_bind, Lib.some_bind, Lib.none_bind, l4_bind]
def vo (d0 : Row) : Option (Bool) := b Lib.big (fun r0 => some (r0)) d0
def c (d0 : Row) : Bool := Option.isSome (vo d0)
def v (d0 : Row) : Bool := Option.getD (vo d0) (false)
theorem out (d0 : Row) {x : Bool} (h : vo d0 = some x) : c d0 = true ∧ v d0 = x := by
  unfold c v; rw [h]; exact ⟨rfl, rfl⟩
theorem b_eq {R : Type} (kr : Bool → Option R) (d0 : Row) (hc : c d0 = true) : ∃ N, b N kr d0 = kr (v d0) := by
  refine ⟨Lib.big, ?_⟩
  rw [b_bind]
  have e : vo d0 = some (v d0) := by
    unfold c at hc; unfold v
    cases h : vo d0 with
    | none => rw [h] at hc; cases hc
    | some x => rfl
  unfold vo at e
  rw [e]; rfl
end Go.FG.Pu.spec_DiskOk

namespace Go.FG.Pu.spec_l03At
def r2 {R : Type} (N : Nat) (g : ByteArray → Int → Int → Row → Option R) (k0 : ByteArray → Int → Int → Row → Option R) (k1 : ByteArray → Int → Int → Row → Option R) (x0 : ByteArray) (x1 : Int) (x2 : Int) (x3 : Row) : Option R := bif (decide (x2 < (↑(List.length x3) : Int))) then (bif (decide (0 ≤ x2) && decide (x2 < (↑(List.length x3) : Int))) then (bif (List.beq (ByteArray.toList (cvS (cellAt x3 (Int.toNat x2) 0))) (ByteArray.toList x0)) then (k0 x0 x2 x2 x3) else (g x0 x1 (w64 (x2 + 1)) x3)) else (none)) else (k1 x0 x1 x2 x3)
def l2 {R : Type} (N : Nat) (k0 : ByteArray → Int → Int → Row → Option R) (k1 : ByteArray → Int → Int → Row → Option R) : Nat → ByteArray → Int → Int → Row → Option R
  | 0 => (fun _ _ _ _ => none)
  | n + 1 => (fun x0 x1 x2 x3 => r2 N (l2 N k0 k1 n) k0 k1 x0 x1 x2 x3)
def b {R : Type} (N : Nat) (kr : Int → Option R) (d0 : Row) (name1 : ByteArray) : Option R := l2 N (fun y4 y5 y6 y7 => kr y5) (fun y8 y9 y10 y11 => kr (-1)) N name1 0 0 d0
theorem q2_bind {R S : Type} (f : R → Option S) (N : Nat) (k0 : ByteArray → Int → Int → Row → Option R) (k1 : ByteArray → Int → Int → Row → Option R) : ∀ n : Nat, (∀ (x0 : ByteArray) (x1 : Int) (x2 : Int) (x3 : Row), Option.bind (l2 N k0 k1 n x0 x1 x2 x3) f = l2 N (fun y0 y1 y2 y3 => (Option.bind (k0 y0 y1 y2 y3) f)) (fun y0 y1 y2 y3 => (Option.bind (k1 y0 y1 y2 y3) f)) n x0 x1 x2 x3) := by
  intro n
  induction n with
  | zero => exact (fun _ _ _ _ => rfl)
  | succ n ih =>
    intro x0 x1 x2 x3
    simp only [l2, r2, Lib.cond_bind, Lib.some_bind, Lib.none_bind, ih]
theorem l2_bind {R S : Type} (f : R → Option S) (N : Nat) (k0 : ByteArray → Int → Int → Row → Option R) (k1 : ByteArray → Int → Int → Row → Option R) (n : Nat) (x0 : ByteArray) (x1 : Int) (x2 : Int) (x3 : Row) : Option.bind (l2 N k0 k1 n x0 x1 x2 x3) f = l2 N (fun y0 y1 y2 y3 => (Option.bind (k0 y0 y1 y2 y3) f)) (fun y0 y1 y2 y3 => (Option.bind (k1 y0 y1 y2 y3) f)) n x0 x1 x2 x3 := (q2_bind f N k0 k1 n) x0 x1 x2 x3
theorem b_bind {R : Type} (N : Nat) (kr : Int → Option R) (d0 : Row) (name1 : ByteArray) : b N kr d0 name1 = Option.bind (b N (fun r0 => some (r0)) d0 name1) (fun p => kr p) := by
  unfold b; simp only [Lib.cond_bind, Lib.some_bind, Lib.none_bind, l2_bind]
def vo (d0 : Row) (name1 : ByteArray) : Option (Int) := b Lib.big (fun r0 => some (r0)) d0 name1
def c (d0 : Row) (name1 : ByteArray) : Bool := Option.isSome (vo d0 name1)
def v (d0 : Row) (name1 : ByteArray) : Int := Option.getD (vo d0 name1) (0)
theorem out (d0 : Row) (name1 : ByteArray) {x : Int} (h : vo d0 name1 = some x) : c d0 name1 = true ∧ v d0 name1 = x := by
  unfold c v; rw [h]; exact ⟨rfl, rfl⟩
theorem b_eq {R : Type} (kr : Int → Option R) (d0 : Row) (name1 : ByteArray) (hc : c d0 name1 = true) : ∃ N, b N kr d0 name1 = kr (v d0 name1) := by
  refine ⟨Lib.big, ?_⟩
  rw [b_bind]
  have e : vo d0 name1 = some (v d0 name1) := by
    unfold c at hc; unfold v
    cases h : vo d0 name1 with
    | none => rw [h] at hc; cases hc
    | some x => rfl
  unfold vo at e
  rw [e]; rfl
end Go.FG.Pu.spec_l03At

namespace Go.FG.Pu.spec_FileAt
def b {R : Type} (kr : ByteArray → Bool → Option R) (d0 : Row) (name1 : ByteArray) : Option R := bif (Pu.spec_l03At.c d0 name1) then (bif (decide (Pu.spec_l03At.v d0 name1 < 0)) then (kr ({ data := #[] }) false) else (bif (decide (0 ≤ Pu.spec_l03At.v d0 name1) && decide (Pu.spec_l03At.v d0 name1 < (↑(List.length d0) : Int))) then (kr (cvS (cellAt d0 (Int.toNat (Pu.spec_l03At.v d0 name1)) 1)) true) else (none))) else (none)
theorem b_bind {R : Type} (kr : ByteArray → Bool → Option R) (d0 : Row) (name1 : ByteArray) : b kr d0 name1 = Option.bind (b (fun r0 r1 => some (r0, r1)) d0 name1) (fun p => kr p.1 p.2) := by
  unfold b; simp only [Lib.cond_bind, Lib.some_bind, Lib.none_bind]
def vo (d0 : Row) (name1 : ByteArray) : Option (ByteArray × Bool) := b (fun r0 r1 => some (r0, r1)) d0 name1
def c (d0 : Row) (name1 : ByteArray) : Bool := Option.isSome (vo d0 name1)
def v (d0 : Row) (name1 : ByteArray) : ByteArray × Bool := Option.getD (vo d0 name1) (⟨#[]⟩, false)
theorem out (d0 : Row) (name1 : ByteArray) {x : ByteArray × Bool} (h : vo d0 name1 = some x) : c d0 name1 = true ∧ v d0 name1 = x := by
  unfold c v; rw [h]; exact ⟨rfl, rfl⟩
theorem b_eq {R : Type} (kr : ByteArray → Bool → Option R) (d0 : Row) (name1 : ByteArray) (hc : c d0 name1 = true) : b kr d0 name1 = kr ((v d0 name1).1) ((v d0 name1).2) := by
  rw [b_bind]
  have e : vo d0 name1 = some (v d0 name1) := by
    unfold c at hc; unfold v
    cases h : vo d0 name1 with
    | none => rw [h] at hc; cases hc
    | some x => rfl
  unfold vo at e
  rw [e]; rfl
end Go.FG.Pu.spec_FileAt

namespace Go.FG.Pu.spec_l01Var
def r2 {R : Type} (N : Nat) (g : Int → Row → Option R) (k0 : Int → Row → Option R) (x0 : Int) (x1 : Row) : Option R := bif (decide (x0 > 127)) then (bif (roomy (List.length x1 + List.length (List.set (zeros [Ck.i IntKind.u8] 1) 0 [CV.i IntKind.u8 (IntKind.wrap IntKind.u8 (w64 (Int.tmod x0 128 + 128)))])) 1) then (g (w64 (Int.tdiv x0 128)) (x1 ++ List.set (zeros [Ck.i IntKind.u8] 1) 0 [CV.i IntKind.u8 (IntKind.wrap IntKind.u8 (w64 (Int.tmod x0 128 + 128)))])) else (none)) else (k0 x0 x1)
def l2 {R : Type} (N : Nat) (k0 : Int → Row → Option R) : Nat → Int → Row → Option R
  | 0 => (fun _ _ => none)
  | n + 1 => (fun x0 x1 => r2 N (l2 N k0 n) k0 x0 x1)
def b {R : Type} (N : Nat) (kr : ByteArray → Option R) (n0 : Int) : Option R := l2 N (fun y2 y3 => bif (roomy (List.length y3 + List.length (List.set (zeros [Ck.i IntKind.u8] 1) 0 [CV.i IntKind.u8 (IntKind.wrap IntKind.u8 y2)])) 1) then (bif (decide (List.length (y3 ++ List.set (zeros [Ck.i IntKind.u8] 1) 0 [CV.i IntKind.u8 (IntKind.wrap IntKind.u8 y2)]) ≤ 4611686018427387904)) then (kr (bytesOf (y3 ++ List.set (zeros [Ck.i IntKind.u8] 1) 0 [CV.i IntKind.u8 (IntKind.wrap IntKind.u8 y2)]))) else (none)) else (none)) N n0 (zeros [Ck.i IntKind.u8] 0)
def v (n0 : Int) : ByteArray := bytesOf (Lib.vb n0)
def c (n0 : Int) : Bool := decide (n0 ≤ 9223372036854775807)
theorem b_eq {R : Type} (kr : ByteArray → Option R) (n0 : Int) (hc : c n0 = true) : ∃ N, b N kr n0 = kr (v n0) := by
  refine ⟨n0.toNat + 1, ?_⟩
  refine Lib.var_run (fun n x acc => l2 (n0.toNat + 1) _ n x acc) kr (fun n x acc h hl => ?_) (fun n x acc h hl => ?_) n0 (of_decide_eq_true hc)
  · simp only [l2, r2, h, decide_true, cond_true, Lib.len_set1, show List.length acc + List.length [[CV.i IntKind.u8 (IntKind.wrap IntKind.u8 (w64 (Int.tmod x 128 + 128)))]] = acc.length + 1 from rfl, Lib.roomy1 (show acc.length + 1 ≤ 140737488355328 by omega), show decide ((128 : Int) = 0) = false from rfl, Bool.and_false, Bool.not_false]
  · simp only [l2, r2, h, decide_false, cond_false, Lib.len_set1, show List.length acc + List.length [[CV.i IntKind.u8 (IntKind.wrap IntKind.u8 x)]] = acc.length + 1 from rfl, Lib.roomy1 (show acc.length + 1 ≤ 140737488355328 by omega), cond_true]
    exact Lib.bif_t (Lib.dec_t (by rw [List.length_append, List.length_singleton]; omega))
end Go.FG.Pu.spec_l01Var

namespace Go.FG.Pu.spec_ReadVar
def r6 {R : Type} (N : Nat) (g : ByteArray → Int → Int → Int → Bool → Int → Int → Int → Option R) (k0 : ByteArray → Int → Int → Int → Bool → Int → Int → Int → Option R) (k1 : ByteArray → Int → Int → Int → Bool → Int → Int → Int → Option R) (x0 : ByteArray) (x1 : Int) (x2 : Int) (x3 : Int) (x4 : Bool) (x5 : Int) (x6 : Int) (x7 : Int) : Option R := bif (decide (x7 < (↑(ByteArray.size x0) : Int))) then (bif (decide (x7 < w64 (x1 + 5))) then (bif (decide (0 ≤ x7) && decide (x7 < (↑(ByteArray.size x0) : Int))) then (bif (decide (0 ≤ x7) && decide (x7 < (↑(ByteArray.size x0) : Int))) then (bif (decide ((↑(btN x0 (Int.toNat x7)) : Int) < 128)) then (bif (decide (w64 (x5 + w64 (Int.tmod (w64 (↑(btN x0 (Int.toNat x7)) : Int)) 128 * x6)) > 1000000000)) then (k0 x0 x1 0 0 false (w64 (x5 + w64 (Int.tmod (w64 (↑(btN x0 (Int.toNat x7)) : Int)) 128 * x6))) (w64 (x6 * 128)) x7) else (bif (Pu.spec_l01Var.c (w64 (x5 + w64 (Int.tmod (w64 (↑(btN x0 (Int.toNat x7)) : Int)) 128 * x6)))) then (bif (inB x1 (w64 (x7 + 1)) (↑(ByteArray.size x0) : Int)) then (bif (!List.beq (ByteArray.toList (Pu.spec_l01Var.v (w64 (x5 + w64 (Int.tmod (w64 (↑(btN x0 (Int.toNat x7)) : Int)) 128 * x6))))) (ByteArray.toList (ByteArray.extract x0 (Int.toNat x1) (Int.toNat (w64 (x7 + 1)))))) then (k0 x0 x1 0 0 false (w64 (x5 + w64 (Int.tmod (w64 (↑(btN x0 (Int.toNat x7)) : Int)) 128 * x6))) (w64 (x6 * 128)) x7) else (k0 x0 x1 (w64 (x5 + w64 (Int.tmod (w64 (↑(btN x0 (Int.toNat x7)) : Int)) 128 * x6))) (w64 (x7 + 1)) true (w64 (x5 + w64 (Int.tmod (w64 (↑(btN x0 (Int.toNat x7)) : Int)) 128 * x6))) (w64 (x6 * 128)) x7)) else (none)) else (none))) else (g x0 x1 x2 x3 x4 (w64 (x5 + w64 (Int.tmod (w64 (↑(btN x0 (Int.toNat x7)) : Int)) 128 * x6))) (w64 (x6 * 128)) (w64 (x7 + 1)))) else (none)) else (none)) else (k1 x0 x1 x2 x3 x4 x5 x6 x7)) else (k1 x0 x1 x2 x3 x4 x5 x6 x7)
def l6 {R : Type} (N : Nat) (k0 : ByteArray → Int → Int → Int → Bool → Int → Int → Int → Option R) (k1 : ByteArray → Int → Int → Int → Bool → Int → Int → Int → Option R) : Nat → ByteArray → Int → Int → Int → Bool → Int → Int → Int → Option R
  | 0 => (fun _ _ _ _ _ _ _ _ => none)
  | n + 1 => (fun x0 x1 x2 x3 x4 x5 x6 x7 => r6 N (l6 N k0 k1 n) k0 k1 x0 x1 x2 x3 x4 x5 x6 x7)
def b {R : Type} (N : Nat) (kr : Int → Int → Bool → Option R) (text0 : ByteArray) (at1 : Int) : Option R := bif (!Pu.spec_l01In.v at1 0 (↑(ByteArray.size text0) : Int)) then (kr 0 0 false) else (l6 N (fun y8 y9 y10 y11 y12 y13 y14 y15 => kr y10 y11 y12) (fun y16 y17 y18 y19 y20 y21 y22 y23 => kr 0 0 false) N text0 at1 0 0 false 0 1 at1)
def v (text0 : ByteArray) (at1 : Int) : Int × Int × Bool := if 0 ≤ at1 ∧ at1 ≤ text0.size then Lib.rv text0 at1.toNat 5 0 0 else (0, 0, false)
theorem b_eq {R : Type} (kr : Int → Int → Bool → Option R) (text0 : ByteArray) (at1 : Int) (f0 : okS text0) : ∃ N, b N kr text0 at1 = kr (v text0 at1).1 (v text0 at1).2.1 (v text0 at1).2.2 := by
  refine ⟨6, ?_⟩
  unfold b v
  by_cases hn : 0 ≤ at1 ∧ at1 ≤ text0.size
  · have e : Pu.spec_l01In.v at1 0 (text0.size : Int) = true := by simp [Pu.spec_l01In.v, hn]
    obtain ⟨a, rfl⟩ : ∃ a : Nat, at1 = (a : Int) := ⟨at1.toNat, by omega⟩
    have ha : a ≤ text0.size := by omega
    rw [e, if_pos hn, Lib.toN]
    have hs : text0.size ≤ 4611686018427387904 := f0
    simp only [Bool.not_true, cond_false]
    have := Lib.loop_gen (fun m (s : Nat × Int) => l6 6 (fun y8 y9 y10 y11 y12 y13 y14 y15 => kr y10 y11 y12) (fun y16 y17 y18 y19 y20 y21 y22 y23 => kr 0 0 false) m text0 a 0 0 false s.2 (128 ^ s.1) ((a + s.1 : Nat) : Int)) (fun s => 5 - s.1) (fun s => s.1 ≤ 5 ∧ s.2 = Lib.num text0 a s.1 ∧ ∀ i, i < s.1 → 128 ≤ btN text0 (a + i))
      (fun s => kr (Lib.rv text0 a (5 - s.1) s.1 s.2).1 (Lib.rv text0 a (5 - s.1) s.1 s.2).2.1 (Lib.rv text0 a (5 - s.1) s.1 s.2).2.2) (fun m s hs5 => by
      obtain ⟨j, n⟩ := s
      obtain ⟨hj, hnum, hge⟩ := hs5
      dsimp only at hj hnum hge ⊢
      have hb := Lib.btN_lt text0 (a + j)
      have e5 : w64 ((a : Int) + 5) = ((a + 5 : Nat) : Int) := by rw [w64_eq (by omega) (by omega)]; omega
      by_cases hin : a + j < text0.size
      · by_cases hj5 : j < 5
        · have eb : w64 (btN text0 (a + j) : Int) = (btN text0 (a + j) : Int) := w64_eq (by omega) (by omega)
          have em : Int.tmod (btN text0 (a + j) : Int) 128 = (btN text0 (a + j) : Int) % 128 := Int.tmod_eq_emod_of_nonneg (by omega)
          have hp : (128 : Int) ^ j ≤ 268435456 ∧ (1 : Int) ≤ 128 ^ j ∧ (128 : Int) ^ (j + 1) = 128 ^ j * 128 := by
            obtain rfl | rfl | rfl | rfl | rfl : j = 0 ∨ j = 1 ∨ j = 2 ∨ j = 3 ∨ j = 4 := by omega
            all_goals decide
          have hrg := Lib.num_rng text0 j a
          rw [← hnum] at hrg
          have hm0 : 0 ≤ (btN text0 (a + j) : Int) % 128 ∧ (btN text0 (a + j) : Int) % 128 ≤ 127 := by omega
          have hq : 0 ≤ (btN text0 (a + j) : Int) % 128 * 128 ^ j ∧ (btN text0 (a + j) : Int) % 128 * 128 ^ j ≤ 127 * 128 ^ j :=
            ⟨Int.mul_nonneg hm0.1 (by omega), Int.mul_le_mul_of_nonneg_right hm0.2 (by omega)⟩
          have eq1 : w64 ((btN text0 (a + j) : Int) % 128 * 128 ^ j) = (btN text0 (a + j) : Int) % 128 * 128 ^ j := w64_eq (by omega) (by omega)
          have eq2 : w64 (n + (btN text0 (a + j) : Int) % 128 * 128 ^ j) = n + (btN text0 (a + j) : Int) % 128 * 128 ^ j := w64_eq (by omega) (by omega)
          have eq3 : w64 ((128 : Int) ^ j * 128) = 128 ^ (j + 1) := by rw [hp.2.2]; exact w64_eq (by omega) (by omega)
          have ef : 5 - j = (5 - (j + 1)) + 1 := by omega
          have hsn : n + (btN text0 (a + j) : Int) % 128 * 128 ^ j = Lib.num text0 a (j + 1) := by rw [Lib.num_snoc, ← hnum]
          have en : w64 (((a + j : Nat) : Int) + 1) = ((a + (j + 1) : Nat) : Int) := Lib.w64_s hin (by omega)
          have c2 : decide (((a + j : Nat) : Int) < ((a + 5 : Nat) : Int)) = true := Lib.dlt_t (by omega)
          have hrv : Lib.rv text0 a (5 - j) j n = (if (btN text0 (a + j) : Int) > 127 then Lib.rv text0 a (5 - (j + 1)) (j + 1) (n + (btN text0 (a + j) : Int) % 128 * 128 ^ j)
              else if (j > 0 ∧ btN text0 (a + j) = 0) ∨ n + (btN text0 (a + j) : Int) % 128 * 128 ^ j > 1000000000 then (0, 0, false)
              else (n + (btN text0 (a + j) : Int) % 128 * 128 ^ j, ((a + j + 1 : Nat) : Int), true)) := by
            rw [ef]; simp only [Lib.rv]; rw [if_pos hin]
          simp only [l6, r6, Lib.dlt_t hin, e5, c2, Lib.dle0, Lib.toN, eb, em, eq1, eq2, eq3, en, cond_true, Bool.and_self]
          by_cases hc : (btN text0 (a + j) : Int) < 128
          · left
            rw [decide_eq_true hc, cond_true, hrv, if_neg (by omega)]
            by_cases hbig : n + (btN text0 (a + j) : Int) % 128 * 128 ^ j > 1000000000
            · rw [decide_eq_true hbig, if_pos (.inr hbig)]; rfl
            · have ec : Pu.spec_l01Var.c (n + (btN text0 (a + j) : Int) % 128 * 128 ^ j) = true := decide_eq_true (by omega)
              have ein : inB (a : Int) ((a + (j + 1) : Nat) : Int) (text0.size : Int) = true := by simp [inB]; omega
              rw [decide_eq_false hbig, cond_false, ec, cond_true, ein, cond_true, hsn]
              have hcan := Lib.canon text0 j a (by omega) hge (by omega) (by rw [← hsn]; omega)
              unfold Pu.spec_l01Var.v
              rw [hcan]
              by_cases hz : j > 0 ∧ btN text0 (a + j) = 0
              · rw [decide_eq_true hz, if_pos (.inl hz)]; rfl
              · rw [decide_eq_false hz, if_neg (by rw [hsn] at hbig; omega)]; rfl
          · right
            rw [decide_eq_false hc]
            refine ⟨(j + 1, n + (btN text0 (a + j) : Int) % 128 * 128 ^ j), ⟨by dsimp only; omega, hsn, fun i hi => ?_⟩, by dsimp only; omega, by dsimp only; rw [hrv, if_pos (by omega)], rfl⟩
            by_cases hij : i < j
            · exact hge i hij
            · have : i = j := by dsimp only at hi; omega
              subst this; omega
        · left
          have hj' : j = 5 := by omega
          subst hj'
          simp only [l6, r6, Lib.dlt_t hin, e5, Lib.dlt_f (Nat.lt_irrefl (a + 5)), cond_true, cond_false]
          rfl
      · left
        have hrv : Lib.rv text0 a (5 - j) j n = (0, 0, false) := by
          by_cases hj5 : j < 5
          · have ef : 5 - j = (5 - (j + 1)) + 1 := by omega
            rw [ef]; simp only [Lib.rv]; rw [if_neg hin]
          · rw [show 5 - j = 0 by omega]; rfl
        simp only [l6, r6, Lib.dlt_f hin, cond_false, hrv]) 6 (0, 0) ⟨by dsimp only; omega, rfl, fun i hi => by dsimp only at hi; omega⟩ (by dsimp only; omega)
    exact this
  · have e : Pu.spec_l01In.v at1 0 (text0.size : Int) = false := by
      simp [Pu.spec_l01In.v]; omega
    rw [e, if_neg hn]; rfl
end Go.FG.Pu.spec_ReadVar

namespace Go.FG.Pu.spec_SumMore
def r6 {R : Type} (N : Nat) (g : Int → ByteArray → Int → Int → Option R) (k0 : Int → ByteArray → Int → Int → Option R) (x3 : Int) (x4 : ByteArray) (x5 : Int) (x6 : Int) : Option R := bif (decide (x6 < 8)) then (bif (decide (Int.tmod x3 2 = 1)) then (g (IntKind.wrap IntKind.u32 (↑(BitVec.toNat (BitVec.xor (BitVec.ofInt 32 (IntKind.wrap IntKind.u32 (Int.tdiv x3 2))) (BitVec.ofInt 32 3558460437))) : Int)) x4 x5 (w64 (x6 + 1))) else (g (IntKind.wrap IntKind.u32 (Int.tdiv x3 2)) x4 x5 (w64 (x6 + 1)))) else (k0 x3 x4 x5 x6)
def l6 {R : Type} (N : Nat) (k0 : Int → ByteArray → Int → Int → Option R) : Nat → Int → ByteArray → Int → Int → Option R
  | 0 => (fun _ _ _ _ => none)
  | n + 1 => (fun x3 x4 x5 x6 => r6 N (l6 N k0 n) k0 x3 x4 x5 x6)
def r2 {R : Type} (N : Nat) (g : Int → ByteArray → Int → Option R) (k0 : Int → ByteArray → Int → Option R) (x0 : Int) (x1 : ByteArray) (x2 : Int) : Option R := bif (decide (x2 < (↑(ByteArray.size x1) : Int))) then (bif (decide (0 ≤ x2) && decide (x2 < (↑(ByteArray.size x1) : Int))) then (l6 N (fun y7 y8 y9 y10 => g y7 y8 (w64 (y9 + 1))) N (IntKind.wrap IntKind.u32 (↑(BitVec.toNat (BitVec.xor (BitVec.ofInt 32 x0) (BitVec.ofInt 32 (IntKind.wrap IntKind.u32 (↑(btN x1 (Int.toNat x2)) : Int))))) : Int)) x1 x2 0) else (none)) else (k0 x0 x1 x2)
def l2 {R : Type} (N : Nat) (k0 : Int → ByteArray → Int → Option R) : Nat → Int → ByteArray → Int → Option R
  | 0 => (fun _ _ _ => none)
  | n + 1 => (fun x0 x1 x2 => r2 N (l2 N k0 n) k0 x0 x1 x2)
def b {R : Type} (N : Nat) (kr : Int → Option R) (sum0 : Int) (text1 : ByteArray) : Option R := l2 N (fun y11 y12 y13 => kr y11) N sum0 text1 0
theorem q6_bind {R S : Type} (f : R → Option S) (N : Nat) (k0 : Int → ByteArray → Int → Int → Option R) : ∀ n : Nat, (∀ (x3 : Int) (x4 : ByteArray) (x5 : Int) (x6 : Int), Option.bind (l6 N k0 n x3 x4 x5 x6) f = l6 N (fun y0 y1 y2 y3 => (Option.bind (k0 y0 y1 y2 y3) f)) n x3 x4 x5 x6) := by
  intro n
  induction n with
  | zero => exact (fun _ _ _ _ => rfl)
  | succ n ih =>
    intro x3 x4 x5 x6
    simp only [l6, r6, Lib.cond_bind, Lib.some_bind, Lib.none_bind, ih]
theorem l6_bind {R S : Type} (f : R → Option S) (N : Nat) (k0 : Int → ByteArray → Int → Int → Option R) (n : Nat) (x3 : Int) (x4 : ByteArray) (x5 : Int) (x6 : Int) : Option.bind (l6 N k0 n x3 x4 x5 x6) f = l6 N (fun y0 y1 y2 y3 => (Option.bind (k0 y0 y1 y2 y3) f)) n x3 x4 x5 x6 := (q6_bind f N k0 n) x3 x4 x5 x6
theorem q2_bind {R S : Type} (f : R → Option S) (N : Nat) (k0 : Int → ByteArray → Int → Option R) : ∀ n : Nat, (∀ (x0 : Int) (x1 : ByteArray) (x2 : Int), Option.bind (l2 N k0 n x0 x1 x2) f = l2 N (fun y0 y1 y2 => (Option.bind (k0 y0 y1 y2) f)) n x0 x1 x2) := by
  intro n
  induction n with
  | zero => exact (fun _ _ _ => rfl)
  | succ n ih =>
    intro x0 x1 x2
    simp only [l2, r2, Lib.cond_bind, Lib.some_bind, Lib.none_bind, ih, l6_bind]
theorem l2_bind {R S : Type} (f : R → Option S) (N : Nat) (k0 : Int → ByteArray → Int → Option R) (n : Nat) (x0 : Int) (x1 : ByteArray) (x2 : Int) : Option.bind (l2 N k0 n x0 x1 x2) f = l2 N (fun y0 y1 y2 => (Option.bind (k0 y0 y1 y2) f)) n x0 x1 x2 := (q2_bind f N k0 n) x0 x1 x2
theorem b_bind {R : Type} (N : Nat) (kr : Int → Option R) (sum0 : Int) (text1 : ByteArray) : b N kr sum0 text1 = Option.bind (b N (fun r0 => some (r0)) sum0 text1) (fun p => kr p) := by
  unfold b; simp only [Lib.cond_bind, Lib.some_bind, Lib.none_bind, l6_bind, l2_bind]
def vo (sum0 : Int) (text1 : ByteArray) : Option (Int) := b Lib.big (fun r0 => some (r0)) sum0 text1
def c (sum0 : Int) (text1 : ByteArray) : Bool := Option.isSome (vo sum0 text1)
def v (sum0 : Int) (text1 : ByteArray) : Int := Option.getD (vo sum0 text1) (0)
theorem out (sum0 : Int) (text1 : ByteArray) {x : Int} (h : vo sum0 text1 = some x) : c sum0 text1 = true ∧ v sum0 text1 = x := by
  unfold c v; rw [h]; exact ⟨rfl, rfl⟩
theorem b_eq {R : Type} (kr : Int → Option R) (sum0 : Int) (text1 : ByteArray) (hc : c sum0 text1 = true) : ∃ N, b N kr sum0 text1 = kr (v sum0 text1) := by
  refine ⟨Lib.big, ?_⟩
  rw [b_bind]
  have e : vo sum0 text1 = some (v sum0 text1) := by
    unfold c at hc; unfold v
    cases h : vo sum0 text1 with
    | none => rw [h] at hc; cases hc
    | some x => rfl
  unfold vo at e
  rw [e]; rfl
end Go.FG.Pu.spec_SumMore

namespace Go.FG.Pu.spec_SumOf
def b {R : Type} (kr : Int → Option R) (text0 : ByteArray) : Option R := bif (Pu.spec_SumMore.c 4294967295 text0) then (kr (Pu.spec_SumMore.v 4294967295 text0)) else (none)
theorem b_bind {R : Type} (kr : Int → Option R) (text0 : ByteArray) : b kr text0 = Option.bind (b (fun r0 => some (r0)) text0) (fun p => kr p) := by
  unfold b; simp only [Lib.cond_bind, Lib.some_bind, Lib.none_bind]
def vo (text0 : ByteArray) : Option (Int) := b (fun r0 => some (r0)) text0
def c (text0 : ByteArray) : Bool := Option.isSome (vo text0)
def v (text0 : ByteArray) : Int := Option.getD (vo text0) (0)
theorem out (text0 : ByteArray) {x : Int} (h : vo text0 = some x) : c text0 = true ∧ v text0 = x := by
  unfold c v; rw [h]; exact ⟨rfl, rfl⟩
theorem b_eq {R : Type} (kr : Int → Option R) (text0 : ByteArray) (hc : c text0 = true) : b kr text0 = kr (v text0) := by
  rw [b_bind]
  have e : vo text0 = some (v text0) := by
    unfold c at hc; unfold v
    cases h : vo text0 with
    | none => rw [h] at hc; cases hc
    | some x => rfl
  unfold vo at e
  rw [e]; rfl
end Go.FG.Pu.spec_SumOf

namespace Go.FG.Pu.spec_l02Four
def b {R : Type} (kr : ByteArray → Option R) (x0 : Int) : Option R := kr (bytesOf (List.set (List.set (List.set (List.set (zeros [Ck.i IntKind.u8] 4) 0 [CV.i IntKind.u8 (IntKind.wrap IntKind.u8 (Int.fdiv x0 (Int.pow 2 (if Int.toNat 24 ≤ 32 then Int.toNat 24 else 32))))]) 1 [CV.i IntKind.u8 (IntKind.wrap IntKind.u8 (Int.fdiv x0 (Int.pow 2 (if Int.toNat 16 ≤ 32 then Int.toNat 16 else 32))))]) 2 [CV.i IntKind.u8 (IntKind.wrap IntKind.u8 (Int.fdiv x0 (Int.pow 2 (if Int.toNat 8 ≤ 32 then Int.toNat 8 else 32))))]) 3 [CV.i IntKind.u8 (IntKind.wrap IntKind.u8 x0)]))
def v (x0 : Int) : ByteArray := ((bytesOf (List.set (List.set (List.set (List.set (zeros [Ck.i IntKind.u8] 4) 0 [CV.i IntKind.u8 (IntKind.wrap IntKind.u8 (Int.fdiv x0 (Int.pow 2 (if Int.toNat 24 ≤ 32 then Int.toNat 24 else 32))))]) 1 [CV.i IntKind.u8 (IntKind.wrap IntKind.u8 (Int.fdiv x0 (Int.pow 2 (if Int.toNat 16 ≤ 32 then Int.toNat 16 else 32))))]) 2 [CV.i IntKind.u8 (IntKind.wrap IntKind.u8 (Int.fdiv x0 (Int.pow 2 (if Int.toNat 8 ≤ 32 then Int.toNat 8 else 32))))]) 3 [CV.i IntKind.u8 (IntKind.wrap IntKind.u8 x0)])))
theorem b_eq {R : Type} (kr : ByteArray → Option R) (x0 : Int) : b kr x0 = kr (v x0) := by
  first | rfl | (unfold b v; simp only [Bool.cond_eq_ite]; (repeat' split) <;> rfl)
end Go.FG.Pu.spec_l02Four

namespace Go.FG.Pu.spec_Frame
def b {R : Type} (kr : ByteArray → Bool → Option R) (text0 : ByteArray) : Option R := bif (!Pu.spec_l01In.v (↑(ByteArray.size text0) : Int) 1 9000) then (kr ({ data := #[] }) false) else (bif (Pu.spec_l01Var.c (↑(ByteArray.size text0) : Int)) then (bif (Pu.spec_SumOf.c text0) then (bif (decide (ByteArray.size (Pu.spec_l01Var.v (↑(ByteArray.size text0) : Int)) + ByteArray.size (Pu.spec_l02Four.v (Pu.spec_SumOf.v text0)) ≤ 4611686018427387904)) then (bif (decide (ByteArray.size (Pu.spec_l01Var.v (↑(ByteArray.size text0) : Int) ++ Pu.spec_l02Four.v (Pu.spec_SumOf.v text0)) + ByteArray.size text0 ≤ 4611686018427387904)) then (kr (Pu.spec_l01Var.v (↑(ByteArray.size text0) : Int) ++ Pu.spec_l02Four.v (Pu.spec_SumOf.v text0) ++ text0) true) else (none)) else (none)) else (none)) else (none))
theorem b_bind {R : Type} (kr : ByteArray → Bool → Option R) (text0 : ByteArray) : b kr text0 = Option.bind (b (fun r0 r1 => some (r0, r1)) text0) (fun p => kr p.1 p.2) := by
  unfold b; simp only [Lib.cond_bind, Lib.some_bind, Lib.none_bind]
def vo (text0 : ByteArray) : Option (ByteArray × Bool) := b (fun r0 r1 => some (r0, r1)) text0
def c (text0 : ByteArray) : Bool := Option.isSome (vo text0)
def v (text0 : ByteArray) : ByteArray × Bool := Option.getD (vo text0) (⟨#[]⟩, false)
theorem out (text0 : ByteArray) {x : ByteArray × Bool} (h : vo text0 = some x) : c text0 = true ∧ v text0 = x := by
  unfold c v; rw [h]; exact ⟨rfl, rfl⟩
theorem b_eq {R : Type} (kr : ByteArray → Bool → Option R) (text0 : ByteArray) (hc : c text0 = true) : b kr text0 = kr ((v text0).1) ((v text0).2) := by
  rw [b_bind]
  have e : vo text0 = some (v text0) := by
    unfold c at hc; unfold v
    cases h : vo text0 with
    | none => rw [h] at hc; cases hc
    | some x => rfl
  unfold vo at e
  rw [e]; rfl
end Go.FG.Pu.spec_Frame

namespace Go.FG.Pu.spec_Unframe
def r5 {R : Type} (N : Nat) (g : ByteArray → Int → Int → Row → Option R) (k0 : ByteArray → Int → Int → Row → Option R) (k1 : ByteArray → Int → Int → Row → Option R) (x0 : ByteArray) (x1 : Int) (x2 : Int) (x3 : Row) : Option R := bif (decide (x2 < (↑(ByteArray.size x0) : Int))) then (bif (!(Pu.spec_ReadVar.v x0 x2).2.2) then (k0 x0 x2 x2 x3) else (bif (decide ((Pu.spec_ReadVar.v x0 x2).1 > w64 (w64 ((↑(ByteArray.size x0) : Int) - (Pu.spec_ReadVar.v x0 x2).2.1) - 4))) then (k0 x0 x2 x2 x3) else (bif (inB (w64 ((Pu.spec_ReadVar.v x0 x2).2.1 + 4)) (w64 (w64 ((Pu.spec_ReadVar.v x0 x2).2.1 + 4) + (Pu.spec_ReadVar.v x0 x2).1)) (↑(ByteArray.size x0) : Int)) then (bif (Pu.spec_Frame.c (ByteArray.extract x0 (Int.toNat (w64 ((Pu.spec_ReadVar.v x0 x2).2.1 + 4))) (Int.toNat (w64 (w64 ((Pu.spec_ReadVar.v x0 x2).2.1 + 4) + (Pu.spec_ReadVar.v x0 x2).1))))) then (bif (!(Pu.spec_Frame.v (ByteArray.extract x0 (Int.toNat (w64 ((Pu.spec_ReadVar.v x0 x2).2.1 + 4))) (Int.toNat (w64 (w64 ((Pu.spec_ReadVar.v x0 x2).2.1 + 4) + (Pu.spec_ReadVar.v x0 x2).1))))).2) then (k0 x0 x2 x2 x3) else (bif (inB x2 (w64 (w64 ((Pu.spec_ReadVar.v x0 x2).2.1 + 4) + (Pu.spec_ReadVar.v x0 x2).1)) (↑(ByteArray.size x0) : Int)) then (bif (!List.beq (ByteArray.toList (Pu.spec_Frame.v (ByteArray.extract x0 (Int.toNat (w64 ((Pu.spec_ReadVar.v x0 x2).2.1 + 4))) (Int.toNat (w64 (w64 ((Pu.spec_ReadVar.v x0 x2).2.1 + 4) + (Pu.spec_ReadVar.v x0 x2).1))))).1) (ByteArray.toList (ByteArray.extract x0 (Int.toNat x2) (Int.toNat (w64 (w64 ((Pu.spec_ReadVar.v x0 x2).2.1 + 4) + (Pu.spec_ReadVar.v x0 x2).1)))))) then (k0 x0 x2 x2 x3) else (bif (roomy (List.length x3 + List.length (List.set (zeros [Ck.s] 1) 0 [CV.s (ByteArray.extract x0 (Int.toNat (w64 ((Pu.spec_ReadVar.v x0 x2).2.1 + 4))) (Int.toNat (w64 (w64 ((Pu.spec_ReadVar.v x0 x2).2.1 + 4) + (Pu.spec_ReadVar.v x0 x2).1))))])) 16) then (g x0 x1 (w64 (w64 ((Pu.spec_ReadVar.v x0 x2).2.1 + 4) + (Pu.spec_ReadVar.v x0 x2).1)) (x3 ++ List.set (zeros [Ck.s] 1) 0 [CV.s (ByteArray.extract x0 (Int.toNat (w64 ((Pu.spec_ReadVar.v x0 x2).2.1 + 4))) (Int.toNat (w64 (w64 ((Pu.spec_ReadVar.v x0 x2).2.1 + 4) + (Pu.spec_ReadVar.v x0 x2).1))))])) else (none))) else (none))) else (none)) else (none)))) else (k1 x0 x1 x2 x3)
def l5 {R : Type} (N : Nat) (k0 : ByteArray → Int → Int → Row → Option R) (k1 : ByteArray → Int → Int → Row → Option R) : Nat → ByteArray → Int → Int → Row → Option R
  | 0 => (fun _ _ _ _ => none)
  | n + 1 => (fun x0 x1 x2 x3 => r5 N (l5 N k0 k1 n) k0 k1 x0 x1 x2 x3)
def b {R : Type} (N : Nat) (kr : Row → Int → Option R) (file0 : ByteArray) : Option R := bif (decide ((↑(ByteArray.size file0) : Int) > 20000)) then (kr (zeros [Ck.s] 0) 0) else (l5 N (fun y4 y5 y6 y7 => kr y7 y5) (fun y8 y9 y10 y11 => kr y11 y10) N file0 0 0 (zeros [Ck.s] 0))
theorem q5_bind {R S : Type} (f : R → Option S) (N : Nat) (k0 : ByteArray → Int → Int → Row → Option R) (k1 : ByteArray → Int → Int → Row → Option R) : ∀ n : Nat, (∀ (x0 : ByteArray) (x1 : Int) (x2 : Int) (x3 : Row), Option.bind (l5 N k0 k1 n x0 x1 x2 x3) f = l5 N (fun y0 y1 y2 y3 => (Option.bind (k0 y0 y1 y2 y3) f)) (fun y0 y1 y2 y3 => (Option.bind (k1 y0 y1 y2 y3) f)) n x0 x1 x2 x3) := by
  intro n
  induction n with
  | zero => exact (fun _ _ _ _ => rfl)
  | succ n ih =>
    intro x0 x1 x2 x3
    simp only [l5, r5, Lib.cond_bind, Lib.some_bind, Lib.none_bind, ih]
theorem l5_bind {R S : Type} (f : R → Option S) (N : Nat) (k0 : ByteArray → Int → Int → Row → Option R) (k1 : ByteArray → Int → Int → Row → Option R) (n : Nat) (x0 : ByteArray) (x1 : Int) (x2 : Int) (x3 : Row) : Option.bind (l5 N k0 k1 n x0 x1 x2 x3) f = l5 N (fun y0 y1 y2 y3 => (Option.bind (k0 y0 y1 y2 y3) f)) (fun y0 y1 y2 y3 => (Option.bind (k1 y0 y1 y2 y3) f)) n x0 x1 x2 x3 := (q5_bind f N k0 k1 n) x0 x1 x2 x3
theorem b_bind {R : Type} (N : Nat) (kr : Row → Int → Option R) (file0 : ByteArray) : b N kr file0 = Option.bind (b N (fun r0 r1 => some (r0, r1)) file0) (fun p => kr p.1 p.2) := by
  unfold b; simp only [Lib.cond_bind, Lib.some_bind, Lib.none_bind, l5_bind]
def vo (file0 : ByteArray) : Option (Row × Int) := b Lib.big (fun r0 r1 => some (r0, r1)) file0
def c (file0 : ByteArray) : Bool := Option.isSome (vo file0)
def v (file0 : ByteArray) : Row × Int := Option.getD (vo file0) ([], 0)
theorem out (file0 : ByteArray) {x : Row × Int} (h : vo file0 = some x) : c file0 = true ∧ v file0 = x := by
  unfold c v; rw [h]; exact ⟨rfl, rfl⟩
theorem b_eq {R : Type} (kr : Row → Int → Option R) (file0 : ByteArray) (hc : c file0 = true) : ∃ N, b N kr file0 = kr ((v file0).1) ((v file0).2) := by
  refine ⟨Lib.big, ?_⟩
  rw [b_bind]
  have e : vo file0 = some (v file0) := by
    unfold c at hc; unfold v
    cases h : vo file0 with
    | none => rw [h] at hc; cases hc
    | some x => rfl
  unfold vo at e
  rw [e]; rfl
end Go.FG.Pu.spec_Unframe

namespace Go.FG.Pu.spec_ReadShort
def b {R : Type} (kr : ByteArray → Int → Bool → Option R) (text0 : ByteArray) (at1 : Int) : Option R := bif (!(Pu.spec_ReadVar.v text0 at1).2.2) then (kr ({ data := #[] }) 0 false) else (bif (decide ((Pu.spec_ReadVar.v text0 at1).1 > 20000)) then (kr ({ data := #[] }) 0 false) else (bif (decide ((Pu.spec_ReadVar.v text0 at1).1 > w64 ((↑(ByteArray.size text0) : Int) - (Pu.spec_ReadVar.v text0 at1).2.1))) then (kr ({ data := #[] }) 0 false) else (bif (inB (Pu.spec_ReadVar.v text0 at1).2.1 (w64 ((Pu.spec_ReadVar.v text0 at1).2.1 + (Pu.spec_ReadVar.v text0 at1).1)) (↑(ByteArray.size text0) : Int)) then (kr (ByteArray.extract text0 (Int.toNat (Pu.spec_ReadVar.v text0 at1).2.1) (Int.toNat (w64 ((Pu.spec_ReadVar.v text0 at1).2.1 + (Pu.spec_ReadVar.v text0 at1).1)))) (w64 ((Pu.spec_ReadVar.v text0 at1).2.1 + (Pu.spec_ReadVar.v text0 at1).1)) true) else (none))))
def v (text0 : ByteArray) (at1 : Int) : ByteArray × Int × Bool := Lib.readShort text0 at1
theorem b_eq {R : Type} (kr : ByteArray → Int → Bool → Option R) (text0 : ByteArray) (at1 : Int) (f0 : okS text0) : b kr text0 at1 = kr (v text0 at1).1 (v text0 at1).2.1 (v text0 at1).2.2 := Lib.readShort_run f0 at1 kr
end Go.FG.Pu.spec_ReadShort

namespace Go.FG.Pu.spec_l13Key
def b {R : Type} (kr : Bool → Option R) (s0 : ByteArray) : Option R := kr (Pu.spec_l01In.v (↑(ByteArray.size s0) : Int) 1 30)
def v (s0 : ByteArray) : Bool := ((Pu.spec_l01In.v (↑(ByteArray.size s0) : Int) 1 30))
theorem b_eq {R : Type} (kr : Bool → Option R) (s0 : ByteArray) : b kr s0 = kr (v s0) := by
  first | rfl | (unfold b v; simp only [Bool.cond_eq_ite]; (repeat' split) <;> rfl)
end Go.FG.Pu.spec_l13Key

namespace Go.FG.Pu.spec_EntryOk
def b {R : Type} (kr : Bool → Option R) (e0_0 : ByteArray) (e0_1 : Int) (e0_2 : Int) (e0_3 : ByteArray) : Option R := bif (Pu.spec_l13Key.v e0_0) then (bif (Pu.spec_l01In.v e0_1 0 1000000000) then (bif (Pu.spec_l01In.v e0_2 1 999999) then (kr (decide ((↑(ByteArray.size e0_3) : Int) ≤ 400))) else (kr false)) else (kr false)) else (kr false)
def v (e0_0 : ByteArray) (e0_1 : Int) (e0_2 : Int) (e0_3 : ByteArray) : Bool := bif (Pu.spec_l13Key.v e0_0) then (bif (Pu.spec_l01In.v e0_1 0 1000000000) then (bif (Pu.spec_l01In.v e0_2 1 999999) then (((decide ((↑(ByteArray.size e0_3) : Int) ≤ 400)))) else ((false))) else ((false))) else ((false))
theorem b_eq {R : Type} (kr : Bool → Option R) (e0_0 : ByteArray) (e0_1 : Int) (e0_2 : Int) (e0_3 : ByteArray) : b kr e0_0 e0_1 e0_2 e0_3 = kr (v e0_0 e0_1 e0_2 e0_3) := by
  first | rfl | (unfold b v; simp only [Bool.cond_eq_ite]; (repeat' split) <;> rfl)
theorem rng {k : ByteArray} {s l : Int} {b : ByteArray} (h : v k s l b = true) : (1 ≤ k.size ∧ k.size ≤ 30) ∧ (0 ≤ s ∧ s ≤ 1000000000) ∧ (1 ≤ l ∧ l ≤ 999999) ∧ b.size ≤ 400 := by
  unfold v at h
  cases h1 : Pu.spec_l13Key.v k <;> rw [h1] at h <;> simp only [cond_true, cond_false, Bool.false_eq_true] at h
  cases h2 : Pu.spec_l01In.v s 0 1000000000 <;> rw [h2] at h <;> simp only [cond_true, cond_false, Bool.false_eq_true] at h
  cases h3 : Pu.spec_l01In.v l 1 999999 <;> rw [h3] at h <;> simp only [cond_true, cond_false, Bool.false_eq_true] at h
  simp [Pu.spec_l13Key.v, Pu.spec_l01In.v] at h1 h2 h3
  have := of_decide_eq_true h
  omega
end Go.FG.Pu.spec_EntryOk

namespace Go.FG.Pu.spec_EntryText
def b {R : Type} (kr : ByteArray → Bool → Option R) (e0_0 : ByteArray) (e0_1 : Int) (e0_2 : Int) (e0_3 : ByteArray) : Option R := bif (!Pu.spec_EntryOk.v e0_0 e0_1 e0_2 e0_3) then (kr ({ data := #[] }) false) else (bif (Pu.spec_l01Var.c (↑(ByteArray.size e0_0) : Int)) then (bif (decide (ByteArray.size (Pu.spec_l01Var.v (↑(ByteArray.size e0_0) : Int)) + ByteArray.size e0_0 ≤ 4611686018427387904)) then (bif (Pu.spec_l01Var.c e0_1) then (bif (decide (ByteArray.size (Pu.spec_l01Var.v (↑(ByteArray.size e0_0) : Int) ++ e0_0) + ByteArray.size (Pu.spec_l01Var.v e0_1) ≤ 4611686018427387904)) then (bif (Pu.spec_l01Var.c e0_2) then (bif (decide (ByteArray.size (Pu.spec_l01Var.v (↑(ByteArray.size e0_0) : Int) ++ e0_0 ++ Pu.spec_l01Var.v e0_1) + ByteArray.size (Pu.spec_l01Var.v e0_2) ≤ 4611686018427387904)) then (bif (decide (ByteArray.size (Pu.spec_l01Var.v (↑(ByteArray.size e0_0) : Int) ++ e0_0 ++ Pu.spec_l01Var.v e0_1 ++ Pu.spec_l01Var.v e0_2) + ByteArray.size e0_3 ≤ 4611686018427387904)) then (kr (Pu.spec_l01Var.v (↑(ByteArray.size e0_0) : Int) ++ e0_0 ++ Pu.spec_l01Var.v e0_1 ++ Pu.spec_l01Var.v e0_2 ++ e0_3) true) else (none)) else (none)) else (none)) else (none)) else (none)) else (none)) else (none))
def txt (k : ByteArray) (s l : Int) (b : ByteArray) : ByteArray := bytesOf (Lib.vb k.size) ++ k ++ bytesOf (Lib.vb s) ++ bytesOf (Lib.vb l) ++ b
def v (e0_0 : ByteArray) (e0_1 : Int) (e0_2 : Int) (e0_3 : ByteArray) : ByteArray × Bool := if Pu.spec_EntryOk.v e0_0 e0_1 e0_2 e0_3 = true then (txt e0_0 e0_1 e0_2 e0_3, true) else (⟨#[]⟩, false)
theorem b_eq {R : Type} (kr : ByteArray → Bool → Option R) (e0_0 : ByteArray) (e0_1 : Int) (e0_2 : Int) (e0_3 : ByteArray) : b kr e0_0 e0_1 e0_2 e0_3 = kr (v e0_0 e0_1 e0_2 e0_3).1 (v e0_0 e0_1 e0_2 e0_3).2 := by
  unfold b v
  cases h : Pu.spec_EntryOk.v e0_0 e0_1 e0_2 e0_3 with
  | false => rfl
  | true =>
    have hr := Pu.spec_EntryOk.rng h
    have cc : ∀ x : Int, x ≤ 9223372036854775807 → Pu.spec_l01Var.c x = true := fun x hx => decide_eq_true hx
    have z1 : (Pu.spec_l01Var.v (e0_0.size : Int)).size ≤ 64 := Lib.var_size (x := (e0_0.size : Int)) (by omega)
    have z2 : (Pu.spec_l01Var.v e0_1).size ≤ 64 := Lib.var_size (x := e0_1) (by omega)
    have z3 : (Pu.spec_l01Var.v e0_2).size ≤ 64 := Lib.var_size (x := e0_2) (by omega)
    simp (disch := omega) only [Bool.not_true, cond_false, cc _ (show (e0_0.size : Int) ≤ 9223372036854775807 by omega), cc e0_1 (by omega), cc e0_2 (by omega), cond_true, if_true, Lib.size_app, Lib.dnat]
    rfl
end Go.FG.Pu.spec_EntryText

namespace Go.FG.Pu.spec_ReadEntry
def b {R : Type} (kr : ByteArray → Int → Int → ByteArray → Bool → Option R) (t0 : ByteArray) : Option R := bif (!(Pu.spec_ReadShort.v t0 0).2.2) then (kr ({ data := #[] }) 0 0 ({ data := #[] }) false) else (bif (!(Pu.spec_ReadVar.v t0 (Pu.spec_ReadShort.v t0 0).2.1).2.2) then (kr ({ data := #[] }) 0 0 ({ data := #[] }) false) else (bif (!(Pu.spec_ReadVar.v t0 (Pu.spec_ReadVar.v t0 (Pu.spec_ReadShort.v t0 0).2.1).2.1).2.2) then (kr ({ data := #[] }) 0 0 ({ data := #[] }) false) else (bif (inB (Pu.spec_ReadVar.v t0 (Pu.spec_ReadVar.v t0 (Pu.spec_ReadShort.v t0 0).2.1).2.1).2.1 (↑(ByteArray.size t0) : Int) (↑(ByteArray.size t0) : Int)) then (bif (!(Pu.spec_EntryText.v (Pu.spec_ReadShort.v t0 0).1 (Pu.spec_ReadVar.v t0 (Pu.spec_ReadShort.v t0 0).2.1).1 (Pu.spec_ReadVar.v t0 (Pu.spec_ReadVar.v t0 (Pu.spec_ReadShort.v t0 0).2.1).2.1).1 (ByteArray.extract t0 (Int.toNat (Pu.spec_ReadVar.v t0 (Pu.spec_ReadVar.v t0 (Pu.spec_ReadShort.v t0 0).2.1).2.1).2.1) (Int.toNat (↑(ByteArray.size t0) : Int)))).2) then (kr ({ data := #[] }) 0 0 ({ data := #[] }) false) else (bif (!List.beq (ByteArray.toList (Pu.spec_EntryText.v (Pu.spec_ReadShort.v t0 0).1 (Pu.spec_ReadVar.v t0 (Pu.spec_ReadShort.v t0 0).2.1).1 (Pu.spec_ReadVar.v t0 (Pu.spec_ReadVar.v t0 (Pu.spec_ReadShort.v t0 0).2.1).2.1).1 (ByteArray.extract t0 (Int.toNat (Pu.spec_ReadVar.v t0 (Pu.spec_ReadVar.v t0 (Pu.spec_ReadShort.v t0 0).2.1).2.1).2.1) (Int.toNat (↑(ByteArray.size t0) : Int)))).1) (ByteArray.toList t0)) then (kr ({ data := #[] }) 0 0 ({ data := #[] }) false) else (kr ((Pu.spec_ReadShort.v t0 0).1) ((Pu.spec_ReadVar.v t0 (Pu.spec_ReadShort.v t0 0).2.1).1) ((Pu.spec_ReadVar.v t0 (Pu.spec_ReadVar.v t0 (Pu.spec_ReadShort.v t0 0).2.1).2.1).1) (ByteArray.extract t0 (Int.toNat (Pu.spec_ReadVar.v t0 (Pu.spec_ReadVar.v t0 (Pu.spec_ReadShort.v t0 0).2.1).2.1).2.1) (Int.toNat (↑(ByteArray.size t0) : Int))) true))) else (none))))
def no : ByteArray × Int × Int × ByteArray × Bool := (⟨#[]⟩, 0, 0, ⟨#[]⟩, false)
def v (t0 : ByteArray) : ByteArray × Int × Int × ByteArray × Bool :=
  match Lib.readShort t0 0 with
  | (k, a, true) => (match Lib.readVar t0 a with
    | (s, x, true) => (match Lib.readVar t0 x with
      | (l, y, true) => if Pu.spec_EntryOk.v k s l (t0.extract y.toNat t0.size) = true then (k, s, l, t0.extract y.toNat t0.size, true) else no
      | _ => no)
    | _ => no)
  | _ => no
theorem b_eq {R : Type} (kr : ByteArray → Int → Int → ByteArray → Bool → Option R) (t0 : ByteArray) (f0 : okS t0) : b kr t0 = kr (v t0).1 (v t0).2.1 (v t0).2.2.1 (v t0).2.2.2.1 (v t0).2.2.2.2 := by
  have e1 : Pu.spec_ReadShort.v = Lib.readShort := rfl
  have e2 : Pu.spec_ReadVar.v = Lib.readVar := rfl
  unfold b v
  simp only [e1, e2, Lib.toN]
  cases h1 : Lib.readShort t0 0 with
  | mk k r1 =>
    obtain ⟨a, ok1⟩ := r1
    cases ok1 with
    | false => rfl
    | true =>
      dsimp only
      cases h2 : Lib.readVar t0 a with
      | mk s r2 =>
        obtain ⟨x, ok2⟩ := r2
        cases ok2 with
        | false => rfl
        | true =>
          dsimp only
          cases h3 : Lib.readVar t0 x with
          | mk l r3 =>
            obtain ⟨y, ok3⟩ := r3
            cases ok3 with
            | false => rfl
            | true =>
              obtain ⟨p1, p2, p3, p4, p5⟩ := Lib.readShort_ok h1
              obtain ⟨q1, q2, q3, q4, q5, q6⟩ := Lib.readVar_ok h2
              obtain ⟨r1, r2, r3, r4, r5, r6⟩ := Lib.readVar_ok h3
              dsimp only
              simp only [Bool.not_true, cond_false]
              rw [Lib.bif_t (show inB y (t0.size : Int) (t0.size : Int) = true by simp [inB]; omega)]
              unfold Pu.spec_EntryText.v
              cases hE : Pu.spec_EntryOk.v k s l (t0.extract y.toNat t0.size) with
              | false => rfl
              | true =>
                have ht : Pu.spec_EntryText.txt k s l (t0.extract y.toNat t0.size) = t0 := by
                  unfold Pu.spec_EntryText.txt
                  rw [p5, q6, Lib.ext_app t0 (by omega) (by omega), r6, Lib.ext_app t0 (by omega) (by omega), Lib.ext_app t0 (by omega) (by omega)]
                  exact Lib.ext_all t0
                simp only [if_true, Bool.not_true, cond_false, ht, Lib.beq_self]
end Go.FG.Pu.spec_ReadEntry

namespace Go.FG.Pu.spec_l15Put
def r9 {R : Type} (N : Nat) (g : Row → Int → ByteArray → Int → Int → ByteArray → Row → Option R) (k0 : Row → Int → ByteArray → Int → Int → ByteArray → Row → Option R) (x14 : Row) (x15 : Int) (x16 : ByteArray) (x17 : Int) (x18 : Int) (x19 : ByteArray) (x20 : Row) : Option R := bif (decide (x15 < (↑(List.length x14) : Int))) then (bif (decide (0 ≤ x15) && decide (x15 < (↑(List.length x14) : Int))) then (bif (!(Go.Op.bytesLess (ByteArray.toList (cvS (cellAt x14 (Int.toNat x15) 0))) (ByteArray.toList x16) || List.beq (ByteArray.toList (cvS (cellAt x14 (Int.toNat x15) 0))) (ByteArray.toList x16))) then (bif (decide (0 ≤ x15) && decide (x15 < (↑(List.length x14) : Int))) then (bif (roomy (List.length x20 + List.length (List.set (zeros [Ck.s, Ck.i IntKind.i64, Ck.i IntKind.i64, Ck.s] 1) 0 [CV.s (cvS (cellAt x14 (Int.toNat x15) 0)), CV.i IntKind.i64 (cvI (cellAt x14 (Int.toNat x15) 1)), CV.i IntKind.i64 (cvI (cellAt x14 (Int.toNat x15) (1 + 1))), CV.s (cvS (cellAt x14 (Int.toNat x15) (1 + 1 + 1)))])) 48) then (g x14 (w64 (x15 + 1)) x16 x17 x18 x19 (x20 ++ List.set (zeros [Ck.s, Ck.i IntKind.i64, Ck.i IntKind.i64, Ck.s] 1) 0 [CV.s (cvS (cellAt x14 (Int.toNat x15) 0)), CV.i IntKind.i64 (cvI (cellAt x14 (Int.toNat x15) 1)), CV.i IntKind.i64 (cvI (cellAt x14 (Int.toNat x15) (1 + 1))), CV.s (cvS (cellAt x14 (Int.toNat x15) (1 + 1 + 1)))])) else (none)) else (none)) else (g x14 (w64 (x15 + 1)) x16 x17 x18 x19 x20)) else (none)) else (k0 x14 x15 x16 x17 x18 x19 x20)
def l9 {R : Type} (N : Nat) (k0 : Row → Int → ByteArray → Int → Int → ByteArray → Row → Option R) : Nat → Row → Int → ByteArray → Int → Int → ByteArray → Row → Option R
  | 0 => (fun _ _ _ _ _ _ _ => none)
  | n + 1 => (fun x14 x15 x16 x17 x18 x19 x20 => r9 N (l9 N k0 n) k0 x14 x15 x16 x17 x18 x19 x20)
def r3 {R : Type} (N : Nat) (g : Row → Int → ByteArray → Int → Int → ByteArray → Row → Option R) (k0 : Row → Int → ByteArray → Int → Int → ByteArray → Row → Option R) (x0 : Row) (x1 : Int) (x2 : ByteArray) (x3 : Int) (x4 : Int) (x5 : ByteArray) (x6 : Row) : Option R := bif (decide (x1 < (↑(List.length x0) : Int))) then (bif (decide (0 ≤ x1) && decide (x1 < (↑(List.length x0) : Int))) then (bif (Go.Op.bytesLess (ByteArray.toList (cvS (cellAt x0 (Int.toNat x1) 0))) (ByteArray.toList x2)) then (bif (decide (0 ≤ x1) && decide (x1 < (↑(List.length x0) : Int))) then (bif (roomy (List.length x6 + List.length (List.set (zeros [Ck.s, Ck.i IntKind.i64, Ck.i IntKind.i64, Ck.s] 1) 0 [CV.s (cvS (cellAt x0 (Int.toNat x1) 0)), CV.i IntKind.i64 (cvI (cellAt x0 (Int.toNat x1) 1)), CV.i IntKind.i64 (cvI (cellAt x0 (Int.toNat x1) (1 + 1))), CV.s (cvS (cellAt x0 (Int.toNat x1) (1 + 1 + 1)))])) 48) then (g x0 (w64 (x1 + 1)) x2 x3 x4 x5 (x6 ++ List.set (zeros [Ck.s, Ck.i IntKind.i64, Ck.i IntKind.i64, Ck.s] 1) 0 [CV.s (cvS (cellAt x0 (Int.toNat x1) 0)), CV.i IntKind.i64 (cvI (cellAt x0 (Int.toNat x1) 1)), CV.i IntKind.i64 (cvI (cellAt x0 (Int.toNat x1) (1 + 1))), CV.s (cvS (cellAt x0 (Int.toNat x1) (1 + 1 + 1)))])) else (none)) else (none)) else (g x0 (w64 (x1 + 1)) x2 x3 x4 x5 x6)) else (none)) else (k0 x0 x1 x2 x3 x4 x5 x6)
def l3 {R : Type} (N : Nat) (k0 : Row → Int → ByteArray → Int → Int → ByteArray → Row → Option R) : Nat → Row → Int → ByteArray → Int → Int → ByteArray → Row → Option R
  | 0 => (fun _ _ _ _ _ _ _ => none)
  | n + 1 => (fun x0 x1 x2 x3 x4 x5 x6 => r3 N (l3 N k0 n) k0 x0 x1 x2 x3 x4 x5 x6)
def b {R : Type} (N : Nat) (kr : Row → Option R) (list0 : Row) (e1_0 : ByteArray) (e1_1 : Int) (e1_2 : Int) (e1_3 : ByteArray) : Option R := l3 N (fun y7 y8 y9 y10 y11 y12 y13 => bif (roomy (List.length y13 + List.length (List.set (zeros [Ck.s, Ck.i IntKind.i64, Ck.i IntKind.i64, Ck.s] 1) 0 [CV.s y9, CV.i IntKind.i64 y10, CV.i IntKind.i64 y11, CV.s y12])) 48) then (l9 N (fun y21 y22 y23 y24 y25 y26 y27 => kr y27) N y7 0 y9 y10 y11 y12 (y13 ++ List.set (zeros [Ck.s, Ck.i IntKind.i64, Ck.i IntKind.i64, Ck.s] 1) 0 [CV.s y9, CV.i IntKind.i64 y10, CV.i IntKind.i64 y11, CV.s y12])) else (none)) N list0 0 e1_0 e1_1 e1_2 e1_3 (zeros [Ck.s, Ck.i IntKind.i64, Ck.i IntKind.i64, Ck.s] 0)
theorem q9_bind {R S : Type} (f : R → Option S) (N : Nat) (k0 : Row → Int → ByteArray → Int → Int → ByteArray → Row → Option R) : ∀ n : Nat, (∀ (x14 : Row) (x15 : Int) (x16 : ByteArray) (x17 : Int) (x18 : Int) (x19 : ByteArray) (x20 : Row), Option.bind (l9 N k0 n x14 x15 x16 x17 x18 x19 x20) f = l9 N (fun y0 y1 y2 y3 y4 y5 y6 => (Option.bind (k0 y0 y1 y2 y3 y4 y5 y6) f)) n x14 x15 x16 x17 x18 x19 x20) := by
  intro n
  induction n with
  | zero => exact (fun _ _ _ _ _ _ _ => rfl)
  | succ n ih =>
    intro x14 x15 x16 x17 x18 x19 x20
    simp only [l9, r9, Lib.cond_bind, Lib.some_bind, Lib.none_bind, ih]
theorem l9_bind {R S : Type} (f : R → Option S) (N : Nat) (k0 : Row → Int → ByteArray → Int → Int → ByteArray → Row → Option R) (n : Nat) (x14 : Row) (x15 : Int) (x16 : ByteArray) (x17 : Int) (x18 : Int) (x19 : ByteArray) (x20 : Row) : Option.bind (l9 N k0 n x14 x15 x16 x17 x18 x19 x20) f = l9 N (fun y0 y1 y2 y3 y4 y5 y6 => (Option.bind (k0 y0 y1 y2 y3 y4 y5 y6) f)) n x14 x15 x16 x17 x18 x19 x20 := (q9_bind f N k0 n) x14 x15 x16 x17 x18 x19 x20
theorem q3_bind {R S : Type} (f : R → Option S) (N : Nat) (k0 : Row → Int → ByteArray → Int → Int → ByteArray → Row → Option R) : ∀ n : Nat, (∀ (x0 : Row) (x1 : Int) (x2 : ByteArray) (x3 : Int) (x4 : Int) (x5 : ByteArray) (x6 : Row), Option.bind (l3 N k0 n x0 x1 x2 x3 x4 x5 x6) f = l3 N (fun y0 y1 y2 y3 y4 y5 y6 => (Option.bind (k0 y0 y1 y2 y3 y4 y5 y6) f)) n x0 x1 x2 x3 x4 x5 x6) := by
  intro n
  induction n with
  | zero => exact (fun _ _ _ _ _ _ _ => rfl)
  | succ n ih =>
    intro x0 x1 x2 x3 x4 x5 x6
    simp only [l3, r3, Lib.cond_bind, Lib.some_bind, Lib.none_bind, ih, l9_bind]
theorem l3_bind {R S : Type} (f : R → Option S) (N : Nat) (k0 : Row → Int → ByteArray → Int → Int → ByteArray → Row → Option R) (n : Nat) (x0 : Row) (x1 : Int) (x2 : ByteArray) (x3 : Int) (x4 : Int) (x5 : ByteArray) (x6 : Row) : Option.bind (l3 N k0 n x0 x1 x2 x3 x4 x5 x6) f = l3 N (fun y0 y1 y2 y3 y4 y5 y6 => (Option.bind (k0 y0 y1 y2 y3 y4 y5 y6) f)) n x0 x1 x2 x3 x4 x5 x6 := (q3_bind f N k0 n) x0 x1 x2 x3 x4 x5 x6
theorem b_bind {R : Type} (N : Nat) (kr : Row → Option R) (list0 : Row) (e1_0 : ByteArray) (e1_1 : Int) (e1_2 : Int) (e1_3 : ByteArray) : b N kr list0 e1_0 e1_1 e1_2 e1_3 = Option.bind (b N (fun r0 => some (r0)) list0 e1_0 e1_1 e1_2 e1_3) (fun p => kr p) := by
  unfold b; simp only [Lib.cond_bind, Lib.some_bind, Lib.none_bind, l9_bind, l3_bind]
def vo (list0 : Row) (e1_0 : ByteArray) (e1_1 : Int) (e1_2 : Int) (e1_3 : ByteArray) : Option (Row) := b Lib.big (fun r0 => some (r0)) list0 e1_0 e1_1 e1_2 e1_3
def c (list0 : Row) (e1_0 : ByteArray) (e1_1 : Int) (e1_2 : Int) (e1_3 : ByteArray) : Bool := Option.isSome (vo list0 e1_0 e1_1 e1_2 e1_3)
def v (list0 : Row) (e1_0 : ByteArray) (e1_1 : Int) (e1_2 : Int) (e1_3 : ByteArray) : Row := Option.getD (vo list0 e1_0 e1_1 e1_2 e1_3) ([])
theorem out (list0 : Row) (e1_0 : ByteArray) (e1_1 : Int) (e1_2 : Int) (e1_3 : ByteArray) {x : Row} (h : vo list0 e1_0 e1_1 e1_2 e1_3 = some x) : c list0 e1_0 e1_1 e1_2 e1_3 = true ∧ v list0 e1_0 e1_1 e1_2 e1_3 = x := by
  unfold c v; rw [h]; exact ⟨rfl, rfl⟩
theorem b_eq {R : Type} (kr : Row → Option R) (list0 : Row) (e1_0 : ByteArray) (e1_1 : Int) (e1_2 : Int) (e1_3 : ByteArray) (hc : c list0 e1_0 e1_1 e1_2 e1_3 = true) : ∃ N, b N kr list0 e1_0 e1_1 e1_2 e1_3 = kr (v list0 e1_0 e1_1 e1_2 e1_3) := by
  refine ⟨Lib.big, ?_⟩
  rw [b_bind]
  have e : vo list0 e1_0 e1_1 e1_2 e1_3 = some (v list0 e1_0 e1_1 e1_2 e1_3) := by
    unfold c at hc; unfold v
    cases h : vo list0 e1_0 e1_1 e1_2 e1_3 with
    | none => rw [h] at hc; cases hc
    | some x => rfl
  unfold vo at e
  rw [e]; rfl
end Go.FG.Pu.spec_l15Put

namespace Go.FG.Pu.spec_FindKept
def r7 {R : Type} (N : Nat) (g : Int → Row → Row → Option R) (k0 : Int → Row → Row → Option R) (x0 : Int) (x1 : Row) (x2 : Row) : Option R := bif (decide (x0 < (↑(List.length x2) : Int))) then (bif (decide (0 ≤ x0) && decide (x0 < (↑(List.length x2) : Int))) then (bif ((Pu.spec_ReadEntry.v (cvS (cellAt x2 (Int.toNat x0) 0))).2.2.2.2) then (bif (Pu.spec_l15Put.c x1 (Pu.spec_ReadEntry.v (cvS (cellAt x2 (Int.toNat x0) 0))).1 (Pu.spec_ReadEntry.v (cvS (cellAt x2 (Int.toNat x0) 0))).2.1 (Pu.spec_ReadEntry.v (cvS (cellAt x2 (Int.toNat x0) 0))).2.2.1 (Pu.spec_ReadEntry.v (cvS (cellAt x2 (Int.toNat x0) 0))).2.2.2.1) then (g (w64 (x0 + 1)) (Pu.spec_l15Put.v x1 (Pu.spec_ReadEntry.v (cvS (cellAt x2 (Int.toNat x0) 0))).1 (Pu.spec_ReadEntry.v (cvS (cellAt x2 (Int.toNat x0) 0))).2.1 (Pu.spec_ReadEntry.v (cvS (cellAt x2 (Int.toNat x0) 0))).2.2.1 (Pu.spec_ReadEntry.v (cvS (cellAt x2 (Int.toNat x0) 0))).2.2.2.1) x2) else (none)) else (g (w64 (x0 + 1)) x1 x2)) else (none)) else (k0 x0 x1 x2)
def l7 {R : Type} (N : Nat) (k0 : Int → Row → Row → Option R) : Nat → Int → Row → Row → Option R
  | 0 => (fun _ _ _ => none)
  | n + 1 => (fun x0 x1 x2 => r7 N (l7 N k0 n) k0 x0 x1 x2)
def b {R : Type} (N : Nat) (kr : Row → Option R) (d0 : Row) : Option R := bif (Pu.spec_DiskOk.c d0) then (bif (!Pu.spec_DiskOk.v d0) then (kr (zeros [Ck.s, Ck.i IntKind.i64, Ck.i IntKind.i64, Ck.s] 0)) else (bif (Pu.spec_FileAt.c d0 { data := #[UInt8.ofNat 107, UInt8.ofNat 101, UInt8.ofNat 112, UInt8.ofNat 116] }) then (bif (Pu.spec_Unframe.c (Pu.spec_FileAt.v d0 { data := #[UInt8.ofNat 107, UInt8.ofNat 101, UInt8.ofNat 112, UInt8.ofNat 116] }).1) then (l7 N (fun y3 y4 y5 => kr y4) N 0 (zeros [Ck.s, Ck.i IntKind.i64, Ck.i IntKind.i64, Ck.s] 0) ((Pu.spec_Unframe.v (Pu.spec_FileAt.v d0 { data := #[UInt8.ofNat 107, UInt8.ofNat 101, UInt8.ofNat 112, UInt8.ofNat 116] }).1).1)) else (none)) else (none))) else (none)
theorem q7_bind {R S : Type} (f : R → Option S) (N : Nat) (k0 : Int → Row → Row → Option R) : ∀ n : Nat, (∀ (x0 : Int) (x1 : Row) (x2 : Row), Option.bind (l7 N k0 n x0 x1 x2) f = l7 N (fun y0 y1 y2 => (Option.bind (k0 y0 y1 y2) f)) n x0 x1 x2) := by
  intro n
  induction n with
  | zero => exact (fun _ _ _ => rfl)
  | succ n ih =>
    intro x0 x1 x2
    simp only [l7, r7, Lib.cond_bind, Lib.some_bind, Lib.none_bind, ih]
theorem l7_bind {R S : Type} (f : R → Option S) (N : Nat) (k0 : Int → Row → Row → Option R) (n : Nat) (x0 : Int) (x1 : Row) (x2 : Row) : Option.bind (l7 N k0 n x0 x1 x2) f = l7 N (fun y0 y1 y2 => (Option.bind (k0 y0 y1 y2) f)) n x0 x1 x2 := (q7_bind f N k0 n) x0 x1 x2
theorem b_bind {R : Type} (N : Nat) (kr : Row → Option R) (d0 : Row) : b N kr d0 = Option.bind (b N (fun r0 => some (r0)) d0) (fun p => kr p) := by
  unfold b; simp only [Lib.cond_bind, Lib.some_bind, Lib.none_bind, l7_bind]
def vo (d0 : Row) : Option (Row) := b Lib.big (fun r0 => some (r0)) d0
def c (d0 : Row) : Bool := Option.isSome (vo d0)
def v (d0 : Row) : Row := Option.getD (vo d0) ([])
theorem out (d0 : Row) {x : Row} (h : vo d0 = some x) : c d0 = true ∧ v d0 = x := by
  unfold c v; rw [h]; exact ⟨rfl, rfl⟩
theorem b_eq {R : Type} (kr : Row → Option R) (d0 : Row) (hc : c d0 = true) : ∃ N, b N kr d0 = kr (v d0) := by
  refine ⟨Lib.big, ?_⟩
  rw [b_bind]
  have e : vo d0 = some (v d0) := by
    unfold c at hc; unfold v
    cases h : vo d0 with
    | none => rw [h] at hc; cases hc
    | some x => rfl
  unfold vo at e
  rw [e]; rfl
end Go.FG.Pu.spec_FindKept

namespace Go.FG.Pu.impl_within
def b {R : Type} (kr : Bool → Option R) (n0 : Int) (low1 : Int) (high2 : Int) : Option R := bif (decide (n0 ≥ low1)) then (kr (decide (n0 ≤ high2))) else (kr false)
def v (n0 : Int) (low1 : Int) (high2 : Int) : Bool := bif (decide (n0 ≥ low1)) then (((decide (n0 ≤ high2)))) else ((false))
theorem b_eq {R : Type} (kr : Bool → Option R) (n0 : Int) (low1 : Int) (high2 : Int) : b kr n0 low1 high2 = kr (v n0 low1 high2) := by
  first | rfl | (unfold b v; simp only [Bool.cond_eq_ite]; (repeat' split) <;> rfl)
end Go.FG.Pu.impl_within

namespace Go.FG.Pu.impl_DiskOk
def r2 {R : Type} (N : Nat) (g : Bool → Row → Int → Int → Row → Option R) (k0 : Bool → Row → Int → Int → Row → Option R) (k1 : Bool → Row → Int → Int → Row → Option R) (x0 : Bool) (x1 : Row) (x2 : Int) (x3 : Int) (x4 : Row) : Option R := bif (decide (x3 < x2)) then (bif (decide (0 ≤ x3) && decide (x3 < (↑(List.length x1) : Int))) then (bif (!Pu.impl_within.v (↑(ByteArray.size (cvS (cellAt x1 (Int.toNat x3) 0))) : Int) 1 8) then (k0 false x1 x2 x3 x4) else (bif (decide ((↑(ByteArray.size (cvS (cellAt x1 (Int.toNat x3) 1))) : Int) > 20000)) then (k0 false x1 x2 x3 x4) else (bif (!Pu.impl_within.v (cvI (cellAt x1 (Int.toNat x3) (1 + 1))) 0 (↑(ByteArray.size (cvS (cellAt x1 (Int.toNat x3) 1))) : Int)) then (k0 false x1 x2 x3 x4) else (bif (decide (x3 > 0)) then (bif (decide (0 ≤ w64 (x3 - 1)) && decide (w64 (x3 - 1) < (↑(List.length x4) : Int))) then (bif (!Go.Op.bytesLess (ByteArray.toList (cvS (cellAt x4 (Int.toNat (w64 (x3 - 1))) 0))) (ByteArray.toList (cvS (cellAt x1 (Int.toNat x3) 0)))) then (k0 false x1 x2 x3 x4) else (g x0 x1 x2 (w64 (x3 + 1)) x4)) else (none)) else (g x0 x1 x2 (w64 (x3 + 1)) x4))))) else (none)) else (k1 x0 x1 x2 x3 x4)
def l2 {R : Type} (N : Nat) (k0 : Bool → Row → Int → Int → Row → Option R) (k1 : Bool → Row → Int → Int → Row → Option R) : Nat → Bool → Row → Int → Int → Row → Option R
  | 0 => (fun _ _ _ _ _ => none)
  | n + 1 => (fun x0 x1 x2 x3 x4 => r2 N (l2 N k0 k1 n) k0 k1 x0 x1 x2 x3 x4)
def b {R : Type} (N : Nat) (kr : Bool → Option R) (d0 : Row) : Option R := l2 N (fun y5 y6 y7 y8 y9 => kr y5) (fun y10 y11 y12 y13 y14 => kr (decide ((↑(List.length y14) : Int) ≤ 30))) N false d0 (↑(List.length d0) : Int) 0 d0
theorem q2_bind {R S : Type} (f : R → Option S) (N : Nat) (k0 : Bool → Row → Int → Int → Row → Option R) (k1 : Bool → Row → Int → Int → Row → Option R) : ∀ n : Nat, (∀ (x0 : Bool) (x1 : Row) (x2 : Int) (x3 : Int) (x4 : Row), Option.bind (l2 N k0 k1 n x0 x1 x2 x3 x4) f = l2 N (fun y0 y1 y2 y3 y4 => (Option.bind (k0 y0 y1 y2 y3 y4) f)) (fun y0 y1 y2 y3 y4 => (Option.bind (k1 y0 y1 y2 y3 y4) f)) n x0 x1 x2 x3 x4) := by
  intro n
  induction n with
  | zero => exact (fun _ _ _ _ _ => rfl)
  | succ n ih =>
    intro x0 x1 x2 x3 x4
    simp only [l2, r2, Lib.cond_bind, Lib.some_bind, Lib.none_bind, ih]
theorem l2_bind {R S : Type} (f : R → Option S) (N : Nat) (k0 : Bool → Row → Int → Int → Row → Option R) (k1 : Bool → Row → Int → Int → Row → Option R) (n : Nat) (x0 : Bool) (x1 : Row) (x2 : Int) (x3 : Int) (x4 : Row) : Option.bind (l2 N k0 k1 n x0 x1 x2 x3 x4) f = l2 N (fun y0 y1 y2 y3 y4 => (Option.bind (k0 y0 y1 y2 y3 y4) f)) (fun y0 y1 y2 y3 y4 => (Option.bind (k1 y0 y1 y2 y3 y4) f)) n x0 x1 x2 x3 x4 := (q2_bind f N k0 k1 n) x0 x1 x2 x3 x4
theorem b_bind {R : Type} (N : Nat) (kr : Bool → Option R) (d0 : Row) : b N kr d0 = Option.bind (b N (fun r0 => some (r0)) d0) (fun p => kr p) := by
  unfold b; simp only [Lib.cond_bind, Lib.some_bind, Lib.none_bind, l2_bind]
def vo (d0 : Row) : Option (Bool) := b Lib.big (fun r0 => some (r0)) d0
def c (d0 : Row) : Bool := Option.isSome (vo d0)
def v (d0 : Row) : Bool := Option.getD (vo d0) (false)
theorem out (d0 : Row) {x : Bool} (h : vo d0 = some x) : c d0 = true ∧ v d0 = x := by
  unfold c v; rw [h]; exact ⟨rfl, rfl⟩
theorem b_eq {R : Type} (kr : Bool → Option R) (d0 : Row) (hc : c d0 = true) : ∃ N, b N kr d0 = kr (v d0) := by
  refine ⟨Lib.big, ?_⟩
  rw [b_bind]
  have e : vo d0 = some (v d0) := by
    unfold c at hc; unfold v
    cases h : vo d0 with
    | none => rw [h] at hc; cases hc
    | some x => rfl
  unfold vo at e
  rw [e]; rfl
end Go.FG.Pu.impl_DiskOk

namespace Go.FG.Pu.impl_placeOf_1
def b {R : Type} (kr : Bool → Option R) (f0_0 : ByteArray) (f0_1 : ByteArray) (f0_2 : Int) (name1 : ByteArray) : Option R := kr (List.beq (ByteArray.toList f0_0) (ByteArray.toList name1))
def v (f0_0 : ByteArray) (f0_1 : ByteArray) (f0_2 : Int) (name1 : ByteArray) : Bool := ((List.beq (ByteArray.toList f0_0) (ByteArray.toList name1)))
theorem b_eq {R : Type} (kr : Bool → Option R) (f0_0 : ByteArray) (f0_1 : ByteArray) (f0_2 : Int) (name1 : ByteArray) : b kr f0_0 f0_1 f0_2 name1 = kr (v f0_0 f0_1 f0_2 name1) := by
  first | rfl | (unfold b v; simp only [Bool.cond_eq_ite]; (repeat' split) <;> rfl)
end Go.FG.Pu.impl_placeOf_1

namespace Go.FG.Pu.slices_IndexFunc_Filea
def r2 {R : Type} (N : Nat) (g : Row → ByteArray → Int → Int → Int → Option R) (k0 : Row → ByteArray → Int → Int → Int → Option R) (k1 : Row → ByteArray → Int → Int → Int → Option R) (x0 : Row) (x1 : ByteArray) (x2 : Int) (x3 : Int) (x4 : Int) : Option R := bif (decide (x4 < x3)) then (bif (decide (0 ≤ x4) && decide (x4 < (↑(List.length x0) : Int))) then (bif (Pu.impl_placeOf_1.v (cvS (cellAt x0 (Int.toNat x4) 0)) (cvS (cellAt x0 (Int.toNat x4) 1)) (cvI (cellAt x0 (Int.toNat x4) (1 + 1))) x1) then (k0 x0 x1 x4 x3 x4) else (g x0 x1 x2 x3 (w64 (x4 + 1)))) else (none)) else (k1 x0 x1 x2 x3 x4)
def l2 {R : Type} (N : Nat) (k0 : Row → ByteArray → Int → Int → Int → Option R) (k1 : Row → ByteArray → Int → Int → Int → Option R) : Nat → Row → ByteArray → Int → Int → Int → Option R
  | 0 => (fun _ _ _ _ _ => none)
  | n + 1 => (fun x0 x1 x2 x3 x4 => r2 N (l2 N k0 k1 n) k0 k1 x0 x1 x2 x3 x4)
def b {R : Type} (N : Nat) (kr : Int → Option R) (s0 : Row) (name1 : ByteArray) : Option R := l2 N (fun y5 y6 y7 y8 y9 => kr y7) (fun y10 y11 y12 y13 y14 => kr (-1)) N s0 name1 0 (↑(List.length s0) : Int) 0
theorem q2_bind {R S : Type} (f : R → Option S) (N : Nat) (k0 : Row → ByteArray → Int → Int → Int → Option R) (k1 : Row → ByteArray → Int → Int → Int → Option R) : ∀ n : Nat, (∀ (x0 : Row) (x1 : ByteArray) (x2 : Int) (x3 : Int) (x4 : Int), Option.bind (l2 N k0 k1 n x0 x1 x2 x3 x4) f = l2 N (fun y0 y1 y2 y3 y4 => (Option.bind (k0 y0 y1 y2 y3 y4) f)) (fun y0 y1 y2 y3 y4 => (Option.bind (k1 y0 y1 y2 y3 y4) f)) n x0 x1 x2 x3 x4) := by
  intro n
  induction n with
  | zero => exact (fun _ _ _ _ _ => rfl)
  | succ n ih =>
    intro x0 x1 x2 x3 x4
    simp only [l2, r2, Lib.cond_bind, Lib.some_bind, Lib.none_bind, ih]
theorem l2_bind {R S : Type} (f : R → Option S) (N : Nat) (k0 : Row → ByteArray → Int → Int → Int → Option R) (k1 : Row → ByteArray → Int → Int → Int → Option R) (n : Nat) (x0 : Row) (x1 : ByteArray) (x2 : Int) (x3 : Int) (x4 : Int) : Option.bind (l2 N k0 k1 n x0 x1 x2 x3 x4) f = l2 N (fun y0 y1 y2 y3 y4 => (Option.bind (k0 y0 y1 y2 y3 y4) f)) (fun y0 y1 y2 y3 y4 => (Option.bind (k1 y0 y1 y2 y3 y4) f)) n x0 x1 x2 x3 x4 := (q2_bind f N k0 k1 n) x0 x1 x2 x3 x4
theorem b_bind {R : Type} (N : Nat) (kr : Int → Option R) (s0 : Row) (name1 : ByteArray) : b N kr s0 name1 = Option.bind (b N (fun r0 => some (r0)) s0 name1) (fun p => kr p) := by
  unfold b; simp only [Lib.cond_bind, Lib.some_bind, Lib.none_bind, l2_bind]
def vo (s0 : Row) (name1 : ByteArray) : Option (Int) := b Lib.big (fun r0 => some (r0)) s0 name1
def c (s0 : Row) (name1 : ByteArray) : Bool := Option.isSome (vo s0 name1)
def v (s0 : Row) (name1 : ByteArray) : Int := Option.getD (vo s0 name1) (0)
theorem out (s0 : Row) (name1 : ByteArray) {x : Int} (h : vo s0 name1 = some x) : c s0 name1 = true ∧ v s0 name1 = x := by
  unfold c v; rw [h]; exact ⟨rfl, rfl⟩
theorem b_eq {R : Type} (kr : Int → Option R) (s0 : Row) (name1 : ByteArray) (hc : c s0 name1 = true) : ∃ N, b N kr s0 name1 = kr (v s0 name1) := by
  refine ⟨Lib.big, ?_⟩
  rw [b_bind]
  have e : vo s0 name1 = some (v s0 name1) := by
    unfold c at hc; unfold v
    cases h : vo s0 name1 with
    | none => rw [h] at hc; cases hc
    | some x => rfl
  unfold vo at e
  rw [e]; rfl
end Go.FG.Pu.slices_IndexFunc_Filea

namespace Go.FG.Pu.impl_placeOf
def b {R : Type} (kr : Int → Option R) (d0 : Row) (name1 : ByteArray) : Option R := bif (Pu.slices_IndexFunc_Filea.c d0 name1) then (kr (Pu.slices_IndexFunc_Filea.v d0 name1)) else (none)
theorem b_bind {R : Type} (kr : Int → Option R) (d0 : Row) (name1 : ByteArray) : b kr d0 name1 = Option.bind (b (fun r0 => some (r0)) d0 name1) (fun p => kr p) := by
  unfold b; simp only [Lib.cond_bind, Lib.some_bind, Lib.none_bind]
def vo (d0 : Row) (name1 : ByteArray) : Option (Int) := b (fun r0 => some (r0)) d0 name1
def c (d0 : Row) (name1 : ByteArray) : Bool := Option.isSome (vo d0 name1)
def v (d0 : Row) (name1 : ByteArray) : Int := Option.getD (vo d0 name1) (0)
theorem out (d0 : Row) (name1 : ByteArray) {x : Int} (h : vo d0 name1 = some x) : c d0 name1 = true ∧ v d0 name1 = x := by
  unfold c v; rw [h]; exact ⟨rfl, rfl⟩
theorem b_eq {R : Type} (kr : Int → Option R) (d0 : Row) (name1 : ByteArray) (hc : c d0 name1 = true) : b kr d0 name1 = kr (v d0 name1) := by
  rw [b_bind]
  have e : vo d0 name1 = some (v d0 name1) := by
    unfold c at hc; unfold v
    cases h : vo d0 name1 with
    | none => rw [h] at hc; cases hc
    | some x => rfl
  unfold vo at e
  rw [e]; rfl
end Go.FG.Pu.impl_placeOf

namespace Go.FG.Pu.impl_FileAt
def b {R : Type} (kr : ByteArray → Bool → Option R) (d0 : Row) (name1 : ByteArray) : Option R := bif (Pu.impl_placeOf.c d0 name1) then (bif (decide (Pu.impl_placeOf.v d0 name1 < 0)) then (kr ({ data := #[] }) false) else (bif (decide (0 ≤ Pu.impl_placeOf.v d0 name1) && decide (Pu.impl_placeOf.v d0 name1 < (↑(List.length d0) : Int))) then (kr (cvS (cellAt d0 (Int.toNat (Pu.impl_placeOf.v d0 name1)) 1)) true) else (none))) else (none)
theorem b_bind {R : Type} (kr : ByteArray → Bool → Option R) (d0 : Row) (name1 : ByteArray) : b kr d0 name1 = Option.bind (b (fun r0 r1 => some (r0, r1)) d0 name1) (fun p => kr p.1 p.2) := by
  unfold b; simp only [Lib.cond_bind, Lib.some_bind, Lib.none_bind]
def vo (d0 : Row) (name1 : ByteArray) : Option (ByteArray × Bool) := b (fun r0 r1 => some (r0, r1)) d0 name1
def c (d0 : Row) (name1 : ByteArray) : Bool := Option.isSome (vo d0 name1)
def v (d0 : Row) (name1 : ByteArray) : ByteArray × Bool := Option.getD (vo d0 name1) (⟨#[]⟩, false)
theorem out (d0 : Row) (name1 : ByteArray) {x : ByteArray × Bool} (h : vo d0 name1 = some x) : c d0 name1 = true ∧ v d0 name1 = x := by
  unfold c v; rw [h]; exact ⟨rfl, rfl⟩
theorem b_eq {R : Type} (kr : ByteArray → Bool → Option R) (d0 : Row) (name1 : ByteArray) (hc : c d0 name1 = true) : b kr d0 name1 = kr ((v d0 name1).1) ((v d0 name1).2) := by
  rw [b_bind]
  have e : vo d0 name1 = some (v d0 name1) := by
    unfold c at hc; unfold v
    cases h : vo d0 name1 with
    | none => rw [h] at hc; cases hc
    | some x => rfl
  unfold vo at e
  rw [e]; rfl
end Go.FG.Pu.impl_FileAt

namespace Go.FG.Pu.impl_ReadVar
def r5 {R : Type} (N : Nat) (g : ByteArray → Int → Int → Int → Bool → Int → Int → Option R) (k0 : ByteArray → Int → Int → Int → Bool → Int → Int → Option R) (k1 : ByteArray → Int → Int → Int → Bool → Int → Int → Option R) (x0 : ByteArray) (x1 : Int) (x2 : Int) (x3 : Int) (x4 : Bool) (x5 : Int) (x6 : Int) : Option R := bif (decide (x6 < 5)) then (bif (decide (w64 (x1 + x6) < (↑(ByteArray.size x0) : Int))) then (bif (decide (0 ≤ w64 (x1 + x6)) && decide (w64 (x1 + x6) < (↑(ByteArray.size x0) : Int))) then (bif (decide (0 ≤ w64 (7 * x6))) then (bif (decide (w64 (↑(btN x0 (Int.toNat (w64 (x1 + x6)))) : Int) > 127)) then (g x0 x1 x2 x3 x4 (w64 (x5 + w64 (Int.tmod (w64 (↑(btN x0 (Int.toNat (w64 (x1 + x6)))) : Int)) 128 * Int.pow 2 (if Int.toNat (w64 (7 * x6)) ≤ 64 then Int.toNat (w64 (7 * x6)) else 64)))) (w64 (x6 + 1))) else (bif (decide (x6 > 0)) then (bif (decide (w64 (↑(btN x0 (Int.toNat (w64 (x1 + x6)))) : Int) = 0)) then (k0 x0 x1 0 0 false (w64 (x5 + w64 (Int.tmod (w64 (↑(btN x0 (Int.toNat (w64 (x1 + x6)))) : Int)) 128 * Int.pow 2 (if Int.toNat (w64 (7 * x6)) ≤ 64 then Int.toNat (w64 (7 * x6)) else 64)))) x6) else (bif (decide (w64 (x5 + w64 (Int.tmod (w64 (↑(btN x0 (Int.toNat (w64 (x1 + x6)))) : Int)) 128 * Int.pow 2 (if Int.toNat (w64 (7 * x6)) ≤ 64 then Int.toNat (w64 (7 * x6)) else 64))) > 1000000000)) then (k0 x0 x1 0 0 false (w64 (x5 + w64 (Int.tmod (w64 (↑(btN x0 (Int.toNat (w64 (x1 + x6)))) : Int)) 128 * Int.pow 2 (if Int.toNat (w64 (7 * x6)) ≤ 64 then Int.toNat (w64 (7 * x6)) else 64)))) x6) else (k0 x0 x1 (w64 (x5 + w64 (Int.tmod (w64 (↑(btN x0 (Int.toNat (w64 (x1 + x6)))) : Int)) 128 * Int.pow 2 (if Int.toNat (w64 (7 * x6)) ≤ 64 then Int.toNat (w64 (7 * x6)) else 64)))) (w64 (w64 (x1 + x6) + 1)) true (w64 (x5 + w64 (Int.tmod (w64 (↑(btN x0 (Int.toNat (w64 (x1 + x6)))) : Int)) 128 * Int.pow 2 (if Int.toNat (w64 (7 * x6)) ≤ 64 then Int.toNat (w64 (7 * x6)) else 64)))) x6))) else (bif (decide (w64 (x5 + w64 (Int.tmod (w64 (↑(btN x0 (Int.toNat (w64 (x1 + x6)))) : Int)) 128 * Int.pow 2 (if Int.toNat (w64 (7 * x6)) ≤ 64 then Int.toNat (w64 (7 * x6)) else 64))) > 1000000000)) then (k0 x0 x1 0 0 false (w64 (x5 + w64 (Int.tmod (w64 (↑(btN x0 (Int.toNat (w64 (x1 + x6)))) : Int)) 128 * Int.pow 2 (if Int.toNat (w64 (7 * x6)) ≤ 64 then Int.toNat (w64 (7 * x6)) else 64)))) x6) else (k0 x0 x1 (w64 (x5 + w64 (Int.tmod (w64 (↑(btN x0 (Int.toNat (w64 (x1 + x6)))) : Int)) 128 * Int.pow 2 (if Int.toNat (w64 (7 * x6)) ≤ 64 then Int.toNat (w64 (7 * x6)) else 64)))) (w64 (w64 (x1 + x6) + 1)) true (w64 (x5 + w64 (Int.tmod (w64 (↑(btN x0 (Int.toNat (w64 (x1 + x6)))) : Int)) 128 * Int.pow 2 (if Int.toNat (w64 (7 * x6)) ≤ 64 then Int.toNat (w64 (7 * x6)) else 64)))) x6)))) else (none)) else (none)) else (k1 x0 x1 x2 x3 x4 x5 x6)) else (k1 x0 x1 x2 x3 x4 x5 x6)
def l5 {R : Type} (N : Nat) (k0 : ByteArray → Int → Int → Int → Bool → Int → Int → Option R) (k1 : ByteArray → Int → Int → Int → Bool → Int → Int → Option R) : Nat → ByteArray → Int → Int → Int → Bool → Int → Int → Option R
  | 0 => (fun _ _ _ _ _ _ _ => none)
  | n + 1 => (fun x0 x1 x2 x3 x4 x5 x6 => r5 N (l5 N k0 k1 n) k0 k1 x0 x1 x2 x3 x4 x5 x6)
def b {R : Type} (N : Nat) (kr : Int → Int → Bool → Option R) (text0 : ByteArray) (at1 : Int) : Option R := bif (!Pu.impl_within.v at1 0 (↑(ByteArray.size text0) : Int)) then (kr 0 0 false) else (l5 N (fun y7 y8 y9 y10 y11 y12 y13 => kr y9 y10 y11) (fun y14 y15 y16 y17 y18 y19 y20 => kr 0 0 false) N text0 at1 0 0 false 0 0)
def v (text0 : ByteArray) (at1 : Int) : Int × Int × Bool := if 0 ≤ at1 ∧ at1 ≤ text0.size then Lib.rv text0 at1.toNat 5 0 0 else (0, 0, false)
theorem b_eq {R : Type} (kr : Int → Int → Bool → Option R) (text0 : ByteArray) (at1 : Int) (f0 : okS text0) : ∃ N, b N kr text0 at1 = kr (v text0 at1).1 (v text0 at1).2.1 (v text0 at1).2.2 := by
  refine ⟨6, ?_⟩
  unfold b v
  by_cases hn : 0 ≤ at1 ∧ at1 ≤ text0.size
  · have e : Pu.impl_within.v at1 0 (text0.size : Int) = true := by simp [Pu.impl_within.v, hn]
    obtain ⟨a, rfl⟩ : ∃ a : Nat, at1 = (a : Int) := ⟨at1.toNat, by omega⟩
    have ha : a ≤ text0.size := by omega
    rw [e, if_pos hn, Lib.toN]
    have hs : text0.size ≤ 4611686018427387904 := f0
    simp only [Bool.not_true, cond_false]
    have := Lib.loop_gen (fun m (s : Nat × Int) => l5 6 (fun y7 y8 y9 y10 y11 y12 y13 => kr y9 y10 y11) (fun y14 y15 y16 y17 y18 y19 y20 => kr 0 0 false) m text0 a 0 0 false s.2 s.1) (fun s => 5 - s.1) (fun s => s.1 ≤ 5 ∧ 0 ≤ s.2 ∧ s.2 < 128 ^ s.1)
      (fun s => kr (Lib.rv text0 a (5 - s.1) s.1 s.2).1 (Lib.rv text0 a (5 - s.1) s.1 s.2).2.1 (Lib.rv text0 a (5 - s.1) s.1 s.2).2.2) (fun m s hs5 => by
      obtain ⟨j, n⟩ := s
      obtain ⟨hj, h0, hlt⟩ := hs5
      dsimp only at hj h0 hlt ⊢
      have hb := Lib.btN_lt text0 (a + j)
      by_cases hj5 : j < 5
      · by_cases hin : a + j < text0.size
        · have ew : w64 ((a : Int) + (j : Int)) = ((a + j : Nat) : Int) := by rw [w64_eq (by omega) (by omega)]; omega
          have ew2 : w64 ((a + j : Nat) : Int) = ((a + j : Nat) : Int) := w64_eq (by omega) (by omega)
          have eb : w64 (btN text0 (a + j) : Int) = (btN text0 (a + j) : Int) := w64_eq (by omega) (by omega)
          have em : Int.tmod (btN text0 (a + j) : Int) 128 = (btN text0 (a + j) : Int) % 128 := Int.tmod_eq_emod_of_nonneg (by omega)
          have e7 : w64 (7 * (j : Int)) = ((7 * j : Nat) : Int) := by rw [w64_eq (by omega) (by omega)]; omega
          have ep : Int.pow 2 (if 7 * j ≤ 64 then 7 * j else 64) = 128 ^ j := by
            rw [if_pos (by omega)]
            show (2 : Int) ^ (7 * j) = 128 ^ j
            rw [Int.pow_mul]; rfl
          have hp : (128 : Int) ^ j ≤ 268435456 ∧ (1 : Int) ≤ 128 ^ j ∧ (128 : Int) ^ (j + 1) = 128 * 128 ^ j := by
            obtain rfl | rfl | rfl | rfl | rfl : j = 0 ∨ j = 1 ∨ j = 2 ∨ j = 3 ∨ j = 4 := by omega
            all_goals decide
          have hm0 : 0 ≤ (btN text0 (a + j) : Int) % 128 ∧ (btN text0 (a + j) : Int) % 128 ≤ 127 := by omega
          have hq : 0 ≤ (btN text0 (a + j) : Int) % 128 * 128 ^ j ∧ (btN text0 (a + j) : Int) % 128 * 128 ^ j ≤ 127 * 128 ^ j :=
            ⟨Int.mul_nonneg hm0.1 (by omega), Int.mul_le_mul_of_nonneg_right hm0.2 (by omega)⟩
          have eq1 : w64 ((btN text0 (a + j) : Int) % 128 * 128 ^ j) = (btN text0 (a + j) : Int) % 128 * 128 ^ j := w64_eq (by omega) (by omega)
          have eq2 : w64 (n + (btN text0 (a + j) : Int) % 128 * 128 ^ j) = n + (btN text0 (a + j) : Int) % 128 * 128 ^ j := w64_eq (by omega) (by omega)
          have ej : w64 ((j : Int) + 1) = ((j + 1 : Nat) : Int) := Lib.w64_s hj5 (by omega)
          have ef : 5 - j = (5 - (j + 1)) + 1 := by omega
          have c1 : decide ((j : Int) < 5) = true := by simp; omega
          have c2 : decide (((a + j : Nat) : Int) < (text0.size : Int)) = true := Lib.dlt_t hin
          have hrv : Lib.rv text0 a (5 - j) j n = (if (btN text0 (a + j) : Int) > 127 then Lib.rv text0 a (5 - (j + 1)) (j + 1) (n + (btN text0 (a + j) : Int) % 128 * 128 ^ j)
              else if (j > 0 ∧ btN text0 (a + j) = 0) ∨ n + (btN text0 (a + j) : Int) % 128 * 128 ^ j > 1000000000 then (0, 0, false)
              else (n + (btN text0 (a + j) : Int) % 128 * 128 ^ j, ((a + j + 1 : Nat) : Int), true)) := by
            rw [ef]; simp only [Lib.rv]; rw [if_pos hin]
          have en : w64 (((a + j : Nat) : Int) + 1) = ((a + j + 1 : Nat) : Int) := Lib.w64_s hin (by omega)
          simp only [l5, r5, c1, ew, c2, Lib.dle0, Lib.toN, eb, em, e7, ep, eq1, eq2, ej, en, cond_true, Bool.and_self]
          by_cases hc : (btN text0 (a + j) : Int) > 127
          · right
            rw [decide_eq_true hc]
            exact ⟨(j + 1, n + (btN text0 (a + j) : Int) % 128 * 128 ^ j), ⟨by dsimp only; omega, by dsimp only; omega, by dsimp only; omega⟩, by dsimp only; omega, by dsimp only; rw [hrv, if_pos hc], rfl⟩
          · left
            rw [decide_eq_false hc, cond_false, hrv, if_neg hc]
            by_cases hj0 : (j : Int) > 0
            · rw [decide_eq_true hj0, cond_true]
              by_cases hz : (btN text0 (a + j) : Int) = 0
              · rw [decide_eq_true hz, if_pos (.inl ⟨by omega, by omega⟩)]; rfl
              · rw [decide_eq_false hz, cond_false]
                by_cases hbig : n + (btN text0 (a + j) : Int) % 128 * 128 ^ j > 1000000000
                · rw [decide_eq_true hbig, if_pos (.inr hbig)]; rfl
                · rw [decide_eq_false hbig, if_neg (by omega)]; rfl
            · rw [decide_eq_false hj0, cond_false]
              by_cases hbig : n + (btN text0 (a + j) : Int) % 128 * 128 ^ j > 1000000000
              · rw [decide_eq_true hbig, if_pos (.inr hbig)]; rfl
              · rw [decide_eq_false hbig, if_neg (by omega)]; rfl
        · left
          have ew : w64 ((a : Int) + (j : Int)) = ((a + j : Nat) : Int) := by rw [w64_eq (by omega) (by omega)]; omega
          have ef : 5 - j = (5 - (j + 1)) + 1 := by omega
          have hrv : Lib.rv text0 a (5 - j) j n = (0, 0, false) := by rw [ef]; simp only [Lib.rv]; rw [if_neg hin]
          simp only [l5, r5, show decide ((j : Int) < 5) = true by simp; omega, ew, Lib.dlt_f hin, cond_true, cond_false, hrv]
      · left
        have hj' : j = 5 := by omega
        subst hj'
        simp only [l5, r5, show decide (((5 : Nat) : Int) < 5) = false from rfl, cond_false]
        rfl) 6 (0, 0) ⟨by dsimp only; omega, by dsimp only; omega, by dsimp only; decide⟩ (by dsimp only; omega)
    exact this
  · have e : Pu.impl_within.v at1 0 (text0.size : Int) = false := by
      simp [Pu.impl_within.v]; omega
    rw [e, if_neg hn]; rfl
end Go.FG.Pu.impl_ReadVar

namespace Go.FG.Pu.impl_SumMore
def r6 {R : Type} (N : Nat) (g : Int → ByteArray → Int → Int → Option R) (k0 : Int → ByteArray → Int → Int → Option R) (x3 : Int) (x4 : ByteArray) (x5 : Int) (x6 : Int) : Option R := bif (decide (x6 < 8)) then (bif (decide (Int.tmod x3 2 = 1)) then (g (IntKind.wrap IntKind.u32 (↑(BitVec.toNat (BitVec.xor (BitVec.ofInt 32 (IntKind.wrap IntKind.u32 (Int.tdiv x3 2))) (BitVec.ofInt 32 3558460437))) : Int)) x4 x5 (w64 (x6 + 1))) else (g (IntKind.wrap IntKind.u32 (Int.tdiv x3 2)) x4 x5 (w64 (x6 + 1)))) else (k0 x3 x4 x5 x6)
def l6 {R : Type} (N : Nat) (k0 : Int → ByteArray → Int → Int → Option R) : Nat → Int → ByteArray → Int → Int → Option R
  | 0 => (fun _ _ _ _ => none)
  | n + 1 => (fun x3 x4 x5 x6 => r6 N (l6 N k0 n) k0 x3 x4 x5 x6)
def r2 {R : Type} (N : Nat) (g : Int → ByteArray → Int → Option R) (k0 : Int → ByteArray → Int → Option R) (x0 : Int) (x1 : ByteArray) (x2 : Int) : Option R := bif (decide (x2 < (↑(ByteArray.size x1) : Int))) then (bif (decide (0 ≤ x2) && decide (x2 < (↑(ByteArray.size x1) : Int))) then (l6 N (fun y7 y8 y9 y10 => g y7 y8 (w64 (y9 + 1))) N (IntKind.wrap IntKind.u32 (↑(BitVec.toNat (BitVec.xor (BitVec.ofInt 32 x0) (BitVec.ofInt 32 (IntKind.wrap IntKind.u32 (↑(btN x1 (Int.toNat x2)) : Int))))) : Int)) x1 x2 0) else (none)) else (k0 x0 x1 x2)
def l2 {R : Type} (N : Nat) (k0 : Int → ByteArray → Int → Option R) : Nat → Int → ByteArray → Int → Option R
  | 0 => (fun _ _ _ => none)
  | n + 1 => (fun x0 x1 x2 => r2 N (l2 N k0 n) k0 x0 x1 x2)
def b {R : Type} (N : Nat) (kr : Int → Option R) (sum0 : Int) (text1 : ByteArray) : Option R := l2 N (fun y11 y12 y13 => kr y11) N sum0 text1 0
theorem q6_bind {R S : Type} (f : R → Option S) (N : Nat) (k0 : Int → ByteArray → Int → Int → Option R) : ∀ n : Nat, (∀ (x3 : Int) (x4 : ByteArray) (x5 : Int) (x6 : Int), Option.bind (l6 N k0 n x3 x4 x5 x6) f = l6 N (fun y0 y1 y2 y3 => (Option.bind (k0 y0 y1 y2 y3) f)) n x3 x4 x5 x6) := by
  intro n
  induction n with
  | zero => exact (fun _ _ _ _ => rfl)
  | succ n ih =>
    intro x3 x4 x5 x6
    simp only [l6, r6, Lib.cond_bind, Lib.some_bind, Lib.none_bind, ih]
theorem l6_bind {R S : Type} (f : R → Option S) (N : Nat) (k0 : Int → ByteArray → Int → Int → Option R) (n : Nat) (x3 : Int) (x4 : ByteArray) (x5 : Int) (x6 : Int) : Option.bind (l6 N k0 n x3 x4 x5 x6) f = l6 N (fun y0 y1 y2 y3 => (Option.bind (k0 y0 y1 y2 y3) f)) n x3 x4 x5 x6 := (q6_bind f N k0 n) x3 x4 x5 x6
theorem q2_bind {R S : Type} (f : R → Option S) (N : Nat) (k0 : Int → ByteArray → Int → Option R) : ∀ n : Nat, (∀ (x0 : Int) (x1 : ByteArray) (x2 : Int), Option.bind (l2 N k0 n x0 x1 x2) f = l2 N (fun y0 y1 y2 => (Option.bind (k0 y0 y1 y2) f)) n x0 x1 x2) := by
  intro n
  induction n with
  | zero => exact (fun _ _ _ => rfl)
  | succ n ih =>
    intro x0 x1 x2
    simp only [l2, r2, Lib.cond_bind, Lib.some_bind, Lib.none_bind, ih, l6_bind]
theorem l2_bind {R S : Type} (f : R → Option S) (N : Nat) (k0 : Int → ByteArray → Int → Option R) (n : Nat) (x0 : Int) (x1 : ByteArray) (x2 : Int) : Option.bind (l2 N k0 n x0 x1 x2) f = l2 N (fun y0 y1 y2 => (Option.bind (k0 y0 y1 y2) f)) n x0 x1 x2 := (q2_bind f N k0 n) x0 x1 x2
theorem b_bind {R : Type} (N : Nat) (kr : Int → Option R) (sum0 : Int) (text1 : ByteArray) : b N kr sum0 text1 = Option.bind (b N (fun r0 => some (r0)) sum0 text1) (fun p => kr p) := by
  unfold b; simp only [Lib.cond_bind, Lib.some_bind, Lib.none_bind, l6_bind, l2_bind]
def vo (sum0 : Int) (text1 : ByteArray) : Option (Int) := b Lib.big (fun r0 => some (r0)) sum0 text1
def c (sum0 : Int) (text1 : ByteArray) : Bool := Option.isSome (vo sum0 text1)
def v (sum0 : Int) (text1 : ByteArray) : Int := Option.getD (vo sum0 text1) (0)
theorem out (sum0 : Int) (text1 : ByteArray) {x : Int} (h : vo sum0 text1 = some x) : c sum0 text1 = true ∧ v sum0 text1 = x := by
  unfold c v; rw [h]; exact ⟨rfl, rfl⟩
theorem b_eq {R : Type} (kr : Int → Option R) (sum0 : Int) (text1 : ByteArray) (hc : c sum0 text1 = true) : ∃ N, b N kr sum0 text1 = kr (v sum0 text1) := by
  refine ⟨Lib.big, ?_⟩
  rw [b_bind]
  have e : vo sum0 text1 = some (v sum0 text1) := by
    unfold c at hc; unfold v
    cases h : vo sum0 text1 with
    | none => rw [h] at hc; cases hc
    | some x => rfl
  unfold vo at e
  rw [e]; rfl
end Go.FG.Pu.impl_SumMore

namespace Go.FG.Pu.impl_SumOf
def b {R : Type} (kr : Int → Option R) (text0 : ByteArray) : Option R := bif (Pu.impl_SumMore.c 4294967295 text0) then (kr (Pu.impl_SumMore.v 4294967295 text0)) else (none)
theorem b_bind {R : Type} (kr : Int → Option R) (text0 : ByteArray) : b kr text0 = Option.bind (b (fun r0 => some (r0)) text0) (fun p => kr p) := by
  unfold b; simp only [Lib.cond_bind, Lib.some_bind, Lib.none_bind]
def vo (text0 : ByteArray) : Option (Int) := b (fun r0 => some (r0)) text0
def c (text0 : ByteArray) : Bool := Option.isSome (vo text0)
def v (text0 : ByteArray) : Int := Option.getD (vo text0) (0)
theorem out (text0 : ByteArray) {x : Int} (h : vo text0 = some x) : c text0 = true ∧ v text0 = x := by
  unfold c v; rw [h]; exact ⟨rfl, rfl⟩
theorem b_eq {R : Type} (kr : Int → Option R) (text0 : ByteArray) (hc : c text0 = true) : b kr text0 = kr (v text0) := by
  rw [b_bind]
  have e : vo text0 = some (v text0) := by
    unfold c at hc; unfold v
    cases h : vo text0 with
    | none => rw [h] at hc; cases hc
    | some x => rfl
  unfold vo at e
  rw [e]; rfl
end Go.FG.Pu.impl_SumOf

namespace Go.FG.Pu.impl_sumText
def b {R : Type} (kr : ByteArray → Option R) (text0 : ByteArray) : Option R := bif (Pu.impl_SumOf.c text0) then (kr (bytesOf (List.set (List.set (List.set (List.set (zeros [Ck.i IntKind.u8] 4) 0 [CV.i IntKind.u8 (IntKind.wrap IntKind.u8 (Int.fdiv (Pu.impl_SumOf.v text0) (Int.pow 2 (if Int.toNat 24 ≤ 32 then Int.toNat 24 else 32))))]) 1 [CV.i IntKind.u8 (IntKind.wrap IntKind.u8 (Int.fdiv (Pu.impl_SumOf.v text0) (Int.pow 2 (if Int.toNat 16 ≤ 32 then Int.toNat 16 else 32))))]) 2 [CV.i IntKind.u8 (IntKind.wrap IntKind.u8 (Int.fdiv (Pu.impl_SumOf.v text0) (Int.pow 2 (if Int.toNat 8 ≤ 32 then Int.toNat 8 else 32))))]) 3 [CV.i IntKind.u8 (IntKind.wrap IntKind.u8 (Pu.impl_SumOf.v text0))]))) else (none)
theorem b_bind {R : Type} (kr : ByteArray → Option R) (text0 : ByteArray) : b kr text0 = Option.bind (b (fun r0 => some (r0)) text0) (fun p => kr p) := by
  unfold b; simp only [Lib.cond_bind, Lib.some_bind, Lib.none_bind]
def vo (text0 : ByteArray) : Option (ByteArray) := b (fun r0 => some (r0)) text0
def c (text0 : ByteArray) : Bool := Option.isSome (vo text0)
def v (text0 : ByteArray) : ByteArray := Option.getD (vo text0) (⟨#[]⟩)
theorem out (text0 : ByteArray) {x : ByteArray} (h : vo text0 = some x) : c text0 = true ∧ v text0 = x := by
  unfold c v; rw [h]; exact ⟨rfl, rfl⟩
theorem b_eq {R : Type} (kr : ByteArray → Option R) (text0 : ByteArray) (hc : c text0 = true) : b kr text0 = kr (v text0) := by
  rw [b_bind]
  have e : vo text0 = some (v text0) := by
    unfold c at hc; unfold v
    cases h : vo text0 with
    | none => rw [h] at hc; cases hc
    | some x => rfl
  unfold vo at e
  rw [e]; rfl
end Go.FG.Pu.impl_sumText

namespace Go.FG.Pu.impl_Unframe
def r3 {R : Type} (N : Nat) (g : ByteArray → Int → Row → Option R) (k0 : ByteArray → Int → Row → Option R) (x0 : ByteArray) (x1 : Int) (x2 : Row) : Option R := bif (decide ((↑(ByteArray.size x0) : Int) ≤ 20000)) then (bif (!(Pu.impl_ReadVar.v x0 x1).2.2) then (k0 x0 x1 x2) else (bif (!Pu.impl_within.v (Pu.impl_ReadVar.v x0 x1).1 1 9000) then (k0 x0 x1 x2) else (bif (decide (w64 ((Pu.impl_ReadVar.v x0 x1).1 + 4) > w64 ((↑(ByteArray.size x0) : Int) - (Pu.impl_ReadVar.v x0 x1).2.1))) then (k0 x0 x1 x2) else (bif (inB (w64 ((Pu.impl_ReadVar.v x0 x1).2.1 + 4)) (w64 (w64 ((Pu.impl_ReadVar.v x0 x1).2.1 + 4) + (Pu.impl_ReadVar.v x0 x1).1)) (↑(ByteArray.size x0) : Int)) then (bif (Pu.impl_sumText.c (ByteArray.extract x0 (Int.toNat (w64 ((Pu.impl_ReadVar.v x0 x1).2.1 + 4))) (Int.toNat (w64 (w64 ((Pu.impl_ReadVar.v x0 x1).2.1 + 4) + (Pu.impl_ReadVar.v x0 x1).1))))) then (bif (inB (Pu.impl_ReadVar.v x0 x1).2.1 (w64 ((Pu.impl_ReadVar.v x0 x1).2.1 + 4)) (↑(ByteArray.size x0) : Int)) then (bif (!List.beq (ByteArray.toList (Pu.impl_sumText.v (ByteArray.extract x0 (Int.toNat (w64 ((Pu.impl_ReadVar.v x0 x1).2.1 + 4))) (Int.toNat (w64 (w64 ((Pu.impl_ReadVar.v x0 x1).2.1 + 4) + (Pu.impl_ReadVar.v x0 x1).1)))))) (ByteArray.toList (ByteArray.extract x0 (Int.toNat (Pu.impl_ReadVar.v x0 x1).2.1) (Int.toNat (w64 ((Pu.impl_ReadVar.v x0 x1).2.1 + 4)))))) then (k0 x0 x1 x2) else (bif (roomy (List.length x2 + List.length (List.set (zeros [Ck.s] 1) 0 [CV.s (ByteArray.extract x0 (Int.toNat (w64 ((Pu.impl_ReadVar.v x0 x1).2.1 + 4))) (Int.toNat (w64 (w64 ((Pu.impl_ReadVar.v x0 x1).2.1 + 4) + (Pu.impl_ReadVar.v x0 x1).1))))])) 16) then (g x0 (w64 (w64 ((Pu.impl_ReadVar.v x0 x1).2.1 + 4) + (Pu.impl_ReadVar.v x0 x1).1)) (x2 ++ List.set (zeros [Ck.s] 1) 0 [CV.s (ByteArray.extract x0 (Int.toNat (w64 ((Pu.impl_ReadVar.v x0 x1).2.1 + 4))) (Int.toNat (w64 (w64 ((Pu.impl_ReadVar.v x0 x1).2.1 + 4) + (Pu.impl_ReadVar.v x0 x1).1))))])) else (none))) else (none)) else (none)) else (none))))) else (k0 x0 x1 x2)
def l3 {R : Type} (N : Nat) (k0 : ByteArray → Int → Row → Option R) : Nat → ByteArray → Int → Row → Option R
  | 0 => (fun _ _ _ => none)
  | n + 1 => (fun x0 x1 x2 => r3 N (l3 N k0 n) k0 x0 x1 x2)
def b {R : Type} (N : Nat) (kr : Row → Int → Option R) (file0 : ByteArray) : Option R := l3 N (fun y3 y4 y5 => kr y5 y4) N file0 0 (zeros [Ck.s] 0)
theorem q3_bind {R S : Type} (f : R → Option S) (N : Nat) (k0 : ByteArray → Int → Row → Option R) : ∀ n : Nat, (∀ (x0 : ByteArray) (x1 : Int) (x2 : Row), Option.bind (l3 N k0 n x0 x1 x2) f = l3 N (fun y0 y1 y2 => (Option.bind (k0 y0 y1 y2) f)) n x0 x1 x2) := by
  intro n
  induction n with
  | zero => exact (fun _ _ _ => rfl)
  | succ n ih =>
    intro x0 x1 x2
    simp only [l3, r3, Lib.cond_bind, Lib.some_bind, Lib.none_bind, ih]
theorem l3_bind {R S : Type} (f : R → Option S) (N : Nat) (k0 : ByteArray → Int → Row → Option R) (n : Nat) (x0 : ByteArray) (x1 : Int) (x2 : Row) : Option.bind (l3 N k0 n x0 x1 x2) f = l3 N (fun y0 y1 y2 => (Option.bind (k0 y0 y1 y2) f)) n x0 x1 x2 := (q3_bind f N k0 n) x0 x1 x2
theorem b_bind {R : Type} (N : Nat) (kr : Row → Int → Option R) (file0 : ByteArray) : b N kr file0 = Option.bind (b N (fun r0 r1 => some (r0, r1)) file0) (fun p => kr p.1 p.2) := by
  unfold b; simp only [Lib.cond_bind, Lib.some_bind, Lib.none_bind, l3_bind]
def vo (file0 : ByteArray) : Option (Row × Int) := b Lib.big (fun r0 r1 => some (r0, r1)) file0
def c (file0 : ByteArray) : Bool := Option.isSome (vo file0)
def v (file0 : ByteArray) : Row × Int := Option.getD (vo file0) ([], 0)
theorem out (file0 : ByteArray) {x : Row × Int} (h : vo file0 = some x) : c file0 = true ∧ v file0 = x := by
  unfold c v; rw [h]; exact ⟨rfl, rfl⟩
theorem b_eq {R : Type} (kr : Row → Int → Option R) (file0 : ByteArray) (hc : c file0 = true) : ∃ N, b N kr file0 = kr ((v file0).1) ((v file0).2) := by
  refine ⟨Lib.big, ?_⟩
  rw [b_bind]
  have e : vo file0 = some (v file0) := by
    unfold c at hc; unfold v
    cases h : vo file0 with
    | none => rw [h] at hc; cases hc
    | some x => rfl
  unfold vo at e
  rw [e]; rfl
end Go.FG.Pu.impl_Unframe

namespace Go.FG.Pu.impl_ReadShort
def b {R : Type} (kr : ByteArray → Int → Bool → Option R) (text0 : ByteArray) (at1 : Int) : Option R := bif (!(Pu.impl_ReadVar.v text0 at1).2.2) then (kr ({ data := #[] }) 0 false) else (bif (decide ((Pu.impl_ReadVar.v text0 at1).1 > 20000)) then (kr ({ data := #[] }) 0 false) else (bif (decide ((Pu.impl_ReadVar.v text0 at1).1 > w64 ((↑(ByteArray.size text0) : Int) - (Pu.impl_ReadVar.v text0 at1).2.1))) then (kr ({ data := #[] }) 0 false) else (bif (inB (Pu.impl_ReadVar.v text0 at1).2.1 (w64 ((Pu.impl_ReadVar.v text0 at1).2.1 + (Pu.impl_ReadVar.v text0 at1).1)) (↑(ByteArray.size text0) : Int)) then (kr (ByteArray.extract text0 (Int.toNat (Pu.impl_ReadVar.v text0 at1).2.1) (Int.toNat (w64 ((Pu.impl_ReadVar.v text0 at1).2.1 + (Pu.impl_ReadVar.v text0 at1).1)))) (w64 ((Pu.impl_ReadVar.v text0 at1).2.1 + (Pu.impl_ReadVar.v text0 at1).1)) true) else (none))))
def v (text0 : ByteArray) (at1 : Int) : ByteArray × Int × Bool := Lib.readShort text0 at1
theorem b_eq {R : Type} (kr : ByteArray → Int → Bool → Option R) (text0 : ByteArray) (at1 : Int) (f0 : okS text0) : b kr text0 at1 = kr (v text0 at1).1 (v text0 at1).2.1 (v text0 at1).2.2 := Lib.readShort_run f0 at1 kr
end Go.FG.Pu.impl_ReadShort

namespace Go.FG.Pu.impl_isKey
def b {R : Type} (kr : Bool → Option R) (key0 : ByteArray) : Option R := kr (Pu.impl_within.v (↑(ByteArray.size key0) : Int) 1 30)
def v (key0 : ByteArray) : Bool := ((Pu.impl_within.v (↑(ByteArray.size key0) : Int) 1 30))
theorem b_eq {R : Type} (kr : Bool → Option R) (key0 : ByteArray) : b kr key0 = kr (v key0) := by
  first | rfl | (unfold b v; simp only [Bool.cond_eq_ite]; (repeat' split) <;> rfl)
end Go.FG.Pu.impl_isKey

namespace Go.FG.Pu.impl_isNumber
def b {R : Type} (kr : Bool → Option R) (n0 : Int) : Option R := kr (Pu.impl_within.v n0 0 1000000000)
def v (n0 : Int) : Bool := ((Pu.impl_within.v n0 0 1000000000))
theorem b_eq {R : Type} (kr : Bool → Option R) (n0 : Int) : b kr n0 = kr (v n0) := by
  first | rfl | (unfold b v; simp only [Bool.cond_eq_ite]; (repeat' split) <;> rfl)
end Go.FG.Pu.impl_isNumber

namespace Go.FG.Pu.impl_EntryOk
def b {R : Type} (kr : Bool → Option R) (e0_0 : ByteArray) (e0_1 : Int) (e0_2 : Int) (e0_3 : ByteArray) : Option R := bif (Pu.impl_isKey.v e0_0) then (bif (Pu.impl_isNumber.v e0_1) then (bif (Pu.impl_within.v e0_2 1 999999) then (kr (decide ((↑(ByteArray.size e0_3) : Int) ≤ 400))) else (kr false)) else (kr false)) else (kr false)
def v (e0_0 : ByteArray) (e0_1 : Int) (e0_2 : Int) (e0_3 : ByteArray) : Bool := bif (Pu.impl_isKey.v e0_0) then (bif (Pu.impl_isNumber.v e0_1) then (bif (Pu.impl_within.v e0_2 1 999999) then (((decide ((↑(ByteArray.size e0_3) : Int) ≤ 400)))) else ((false))) else ((false))) else ((false))
theorem b_eq {R : Type} (kr : Bool → Option R) (e0_0 : ByteArray) (e0_1 : Int) (e0_2 : Int) (e0_3 : ByteArray) : b kr e0_0 e0_1 e0_2 e0_3 = kr (v e0_0 e0_1 e0_2 e0_3) := by
  first | rfl | (unfold b v; simp only [Bool.cond_eq_ite]; (repeat' split) <;> rfl)
end Go.FG.Pu.impl_EntryOk

namespace Go.FG.Pu.impl_ReadEntry
def b {R : Type} (kr : ByteArray → Int → Int → ByteArray → Bool → Option R) (t0 : ByteArray) : Option R := bif (!(Pu.impl_ReadShort.v t0 0).2.2) then (kr ({ data := #[] }) 0 0 ({ data := #[] }) false) else (bif (!(Pu.impl_ReadVar.v t0 (Pu.impl_ReadShort.v t0 0).2.1).2.2) then (kr ({ data := #[] }) 0 0 ({ data := #[] }) false) else (bif (!(Pu.impl_ReadVar.v t0 (Pu.impl_ReadVar.v t0 (Pu.impl_ReadShort.v t0 0).2.1).2.1).2.2) then (kr ({ data := #[] }) 0 0 ({ data := #[] }) false) else (bif (inB (Pu.impl_ReadVar.v t0 (Pu.impl_ReadVar.v t0 (Pu.impl_ReadShort.v t0 0).2.1).2.1).2.1 (↑(ByteArray.size t0) : Int) (↑(ByteArray.size t0) : Int)) then (bif (!Pu.impl_EntryOk.v (Pu.impl_ReadShort.v t0 0).1 (Pu.impl_ReadVar.v t0 (Pu.impl_ReadShort.v t0 0).2.1).1 (Pu.impl_ReadVar.v t0 (Pu.impl_ReadVar.v t0 (Pu.impl_ReadShort.v t0 0).2.1).2.1).1 (ByteArray.extract t0 (Int.toNat (Pu.impl_ReadVar.v t0 (Pu.impl_ReadVar.v t0 (Pu.impl_ReadShort.v t0 0).2.1).2.1).2.1) (Int.toNat (↑(ByteArray.size t0) : Int)))) then (kr ({ data := #[] }) 0 0 ({ data := #[] }) false) else (kr ((Pu.impl_ReadShort.v t0 0).1) ((Pu.impl_ReadVar.v t0 (Pu.impl_ReadShort.v t0 0).2.1).1) ((Pu.impl_ReadVar.v t0 (Pu.impl_ReadVar.v t0 (Pu.impl_ReadShort.v t0 0).2.1).2.1).1) (ByteArray.extract t0 (Int.toNat (Pu.impl_ReadVar.v t0 (Pu.impl_ReadVar.v t0 (Pu.impl_ReadShort.v t0 0).2.1).2.1).2.1) (Int.toNat (↑(ByteArray.size t0) : Int))) true)) else (none))))
def v (t0 : ByteArray) : ByteArray × Int × Int × ByteArray × Bool := Pu.spec_ReadEntry.v t0
theorem b_eq {R : Type} (kr : ByteArray → Int → Int → ByteArray → Bool → Option R) (t0 : ByteArray) (f0 : okS t0) : b kr t0 = kr (v t0).1 (v t0).2.1 (v t0).2.2.1 (v t0).2.2.2.1 (v t0).2.2.2.2 := by
  have e1 : Pu.impl_ReadShort.v = Lib.readShort := rfl
  have e2 : Pu.impl_ReadVar.v = Lib.readVar := rfl
  have e3 : ∀ a b c d, Pu.impl_EntryOk.v a b c d = Pu.spec_EntryOk.v a b c d := fun _ _ _ _ => rfl
  unfold b v Pu.spec_ReadEntry.v
  simp only [e1, e2, e3, Lib.toN]
  cases h1 : Lib.readShort t0 0 with
  | mk k r1 =>
    obtain ⟨a, ok1⟩ := r1
    cases ok1 with
    | false => rfl
    | true =>
      dsimp only
      cases h2 : Lib.readVar t0 a with
      | mk s r2 =>
        obtain ⟨x, ok2⟩ := r2
        cases ok2 with
        | false => rfl
        | true =>
          dsimp only
          cases h3 : Lib.readVar t0 x with
          | mk l r3 =>
            obtain ⟨y, ok3⟩ := r3
            cases ok3 with
            | false => rfl
            | true =>
              obtain ⟨r1, r2, r3, r4, r5, r6⟩ := Lib.readVar_ok h3
              dsimp only
              simp only [Bool.not_true, cond_false]
              rw [Lib.bif_t (show inB y (t0.size : Int) (t0.size : Int) = true by simp [inB]; omega)]
              cases hE : Pu.spec_EntryOk.v k s l (t0.extract y.toNat t0.size) with
              | false => rfl
              | true => rfl
end Go.FG.Pu.impl_ReadEntry

namespace Go.FG.Pu.impl_copyEntries
def b {R : Type} (kr : Row → Option R) (l0 : Row) : Option R := bif (roomy (List.length (zeros [Ck.s, Ck.i IntKind.i64, Ck.i IntKind.i64, Ck.s] 0) + List.length l0) 48) then (kr (zeros [Ck.s, Ck.i IntKind.i64, Ck.i IntKind.i64, Ck.s] 0 ++ l0)) else (none)
theorem b_bind {R : Type} (kr : Row → Option R) (l0 : Row) : b kr l0 = Option.bind (b (fun r0 => some (r0)) l0) (fun p => kr p) := by
  unfold b; simp only [Lib.cond_bind, Lib.some_bind, Lib.none_bind]
def vo (l0 : Row) : Option (Row) := b (fun r0 => some (r0)) l0
def c (l0 : Row) : Bool := Option.isSome (vo l0)
def v (l0 : Row) : Row := Option.getD (vo l0) ([])
theorem out (l0 : Row) {x : Row} (h : vo l0 = some x) : c l0 = true ∧ v l0 = x := by
  unfold c v; rw [h]; exact ⟨rfl, rfl⟩
theorem b_eq {R : Type} (kr : Row → Option R) (l0 : Row) (hc : c l0 = true) : b kr l0 = kr (v l0) := by
  rw [b_bind]
  have e : vo l0 = some (v l0) := by
    unfold c at hc; unfold v
    cases h : vo l0 with
    | none => rw [h] at hc; cases hc
    | some x => rfl
  unfold vo at e
  rw [e]; rfl
end Go.FG.Pu.impl_copyEntries

namespace Go.FG.Pu.impl_dropEntry_1
def b {R : Type} (kr : Bool → Option R) (e0_0 : ByteArray) (e0_1 : Int) (e0_2 : Int) (e0_3 : ByteArray) (key1 : ByteArray) : Option R := kr (List.beq (ByteArray.toList e0_0) (ByteArray.toList key1))
def v (e0_0 : ByteArray) (e0_1 : Int) (e0_2 : Int) (e0_3 : ByteArray) (key1 : ByteArray) : Bool := ((List.beq (ByteArray.toList e0_0) (ByteArray.toList key1)))
theorem b_eq {R : Type} (kr : Bool → Option R) (e0_0 : ByteArray) (e0_1 : Int) (e0_2 : Int) (e0_3 : ByteArray) (key1 : ByteArray) : b kr e0_0 e0_1 e0_2 e0_3 key1 = kr (v e0_0 e0_1 e0_2 e0_3 key1) := by
  first | rfl | (unfold b v; simp only [Bool.cond_eq_ite]; (repeat' split) <;> rfl)
end Go.FG.Pu.impl_dropEntry_1

namespace Go.FG.Pu.slices_IndexFunc_Entryb
def r2 {R : Type} (N : Nat) (g : Row → ByteArray → Int → Int → Int → Option R) (k0 : Row → ByteArray → Int → Int → Int → Option R) (k1 : Row → ByteArray → Int → Int → Int → Option R) (x0 : Row) (x1 : ByteArray) (x2 : Int) (x3 : Int) (x4 : Int) : Option R := bif (decide (x4 < x3)) then (bif (decide (0 ≤ x4) && decide (x4 < (↑(List.length x0) : Int))) then (bif (Pu.impl_dropEntry_1.v (cvS (cellAt x0 (Int.toNat x4) 0)) (cvI (cellAt x0 (Int.toNat x4) 1)) (cvI (cellAt x0 (Int.toNat x4) (1 + 1))) (cvS (cellAt x0 (Int.toNat x4) (1 + 1 + 1))) x1) then (k0 x0 x1 x4 x3 x4) else (g x0 x1 x2 x3 (w64 (x4 + 1)))) else (none)) else (k1 x0 x1 x2 x3 x4)
def l2 {R : Type} (N : Nat) (k0 : Row → ByteArray → Int → Int → Int → Option R) (k1 : Row → ByteArray → Int → Int → Int → Option R) : Nat → Row → ByteArray → Int → Int → Int → Option R
  | 0 => (fun _ _ _ _ _ => none)
  | n + 1 => (fun x0 x1 x2 x3 x4 => r2 N (l2 N k0 k1 n) k0 k1 x0 x1 x2 x3 x4)
def b {R : Type} (N : Nat) (kr : Int → Option R) (s0 : Row) (key1 : ByteArray) : Option R := l2 N (fun y5 y6 y7 y8 y9 => kr y7) (fun y10 y11 y12 y13 y14 => kr (-1)) N s0 key1 0 (↑(List.length s0) : Int) 0
theorem q2_bind {R S : Type} (f : R → Option S) (N : Nat) (k0 : Row → ByteArray → Int → Int → Int → Option R) (k1 : Row → ByteArray → Int → Int → Int → Option R) : ∀ n : Nat, (∀ (x0 : Row) (x1 : ByteArray) (x2 : Int) (x3 : Int) (x4 : Int), Option.bind (l2 N k0 k1 n x0 x1 x2 x3 x4) f = l2 N (fun y0 y1 y2 y3 y4 => (Option.bind (k0 y0 y1 y2 y3 y4) f)) (fun y0 y1 y2 y3 y4 => (Option.bind (k1 y0 y1 y2 y3 y4) f)) n x0 x1 x2 x3 x4) := by
  intro n
  induction n with
  | zero => exact (fun _ _ _ _ _ => rfl)
  | succ n ih =>
    intro x0 x1 x2 x3 x4
    simp only [l2, r2, Lib.cond_bind, Lib.some_bind, Lib.none_bind, ih]
theorem l2_bind {R S : Type} (f : R → Option S) (N : Nat) (k0 : Row → ByteArray → Int → Int → Int → Option R) (k1 : Row → ByteArray → Int → Int → Int → Option R) (n : Nat) (x0 : Row) (x1 : ByteArray) (x2 : Int) (x3 : Int) (x4 : Int) : Option.bind (l2 N k0 k1 n x0 x1 x2 x3 x4) f = l2 N (fun y0 y1 y2 y3 y4 => (Option.bind (k0 y0 y1 y2 y3 y4) f)) (fun y0 y1 y2 y3 y4 => (Option.bind (k1 y0 y1 y2 y3 y4) f)) n x0 x1 x2 x3 x4 := (q2_bind f N k0 k1 n) x0 x1 x2 x3 x4
theorem b_bind {R : Type} (N : Nat) (kr : Int → Option R) (s0 : Row) (key1 : ByteArray) : b N kr s0 key1 = Option.bind (b N (fun r0 => some (r0)) s0 key1) (fun p => kr p) := by
  unfold b; simp only [Lib.cond_bind, Lib.some_bind, Lib.none_bind, l2_bind]
def vo (s0 : Row) (key1 : ByteArray) : Option (Int) := b Lib.big (fun r0 => some (r0)) s0 key1
def c (s0 : Row) (key1 : ByteArray) : Bool := Option.isSome (vo s0 key1)
def v (s0 : Row) (key1 : ByteArray) : Int := Option.getD (vo s0 key1) (0)
theorem out (s0 : Row) (key1 : ByteArray) {x : Int} (h : vo s0 key1 = some x) : c s0 key1 = true ∧ v s0 key1 = x := by
  unfold c v; rw [h]; exact ⟨rfl, rfl⟩
theorem b_eq {R : Type} (kr : Int → Option R) (s0 : Row) (key1 : ByteArray) (hc : c s0 key1 = true) : ∃ N, b N kr s0 key1 = kr (v s0 key1) := by
  refine ⟨Lib.big, ?_⟩
  rw [b_bind]
  have e : vo s0 key1 = some (v s0 key1) := by
    unfold c at hc; unfold v
    cases h : vo s0 key1 with
    | none => rw [h] at hc; cases hc
    | some x => rfl
  unfold vo at e
  rw [e]; rfl
end Go.FG.Pu.slices_IndexFunc_Entryb

namespace Go.FG.Pu.slices_DeleteFunc_Entry
def r5 {R : Type} (N : Nat) (g : ByteArray → Int → Int → Row → Option R) (k0 : ByteArray → Int → Int → Row → Option R) (x0 : ByteArray) (x1 : Int) (x2 : Int) (x3 : Row) : Option R := bif (decide (x2 < (↑(List.length x3) : Int))) then (bif (decide (0 ≤ x2) && decide (x2 < (↑(List.length x3) : Int))) then (bif (!Pu.impl_dropEntry_1.v (cvS (cellAt x3 (Int.toNat x2) 0)) (cvI (cellAt x3 (Int.toNat x2) 1)) (cvI (cellAt x3 (Int.toNat x2) (1 + 1))) (cvS (cellAt x3 (Int.toNat x2) (1 + 1 + 1))) x0) then (bif (decide (0 ≤ x1) && decide (x1 < (↑(List.length x3) : Int))) then (g x0 (w64 (x1 + 1)) (w64 (x2 + 1)) (setC x3 (Int.toNat x1) 0 [CV.s (cvS (cellAt x3 (Int.toNat x2) 0)), CV.i IntKind.i64 (cvI (cellAt x3 (Int.toNat x2) 1)), CV.i IntKind.i64 (cvI (cellAt x3 (Int.toNat x2) (1 + 1))), CV.s (cvS (cellAt x3 (Int.toNat x2) (1 + 1 + 1)))])) else (none)) else (g x0 x1 (w64 (x2 + 1)) x3)) else (none)) else (k0 x0 x1 x2 x3)
def l5 {R : Type} (N : Nat) (k0 : ByteArray → Int → Int → Row → Option R) : Nat → ByteArray → Int → Int → Row → Option R
  | 0 => (fun _ _ _ _ => none)
  | n + 1 => (fun x0 x1 x2 x3 => r5 N (l5 N k0 n) k0 x0 x1 x2 x3)
def b {R : Type} (N : Nat) (kr : Row → Option R) (s0 : Row) (key1 : ByteArray) : Option R := bif (Pu.slices_IndexFunc_Entryb.c s0 key1) then (bif (decide (Pu.slices_IndexFunc_Entryb.v s0 key1 = Int.neg 1)) then (kr s0) else (l5 N (fun y4 y5 y6 y7 => bif (inB y5 (↑(List.length y7) : Int) (↑(List.length y7) : Int)) then (bif (inB 0 y5 (↑(List.length (List.take (Int.toNat y5) y7 ++ zeros [Ck.s, Ck.i IntKind.i64, Ck.i IntKind.i64, Ck.s] (Int.toNat (↑(List.length y7) : Int) - Int.toNat y5) ++ List.drop (Int.toNat (↑(List.length y7) : Int)) y7)) : Int)) then (kr (view (List.take (Int.toNat y5) y7 ++ zeros [Ck.s, Ck.i IntKind.i64, Ck.i IntKind.i64, Ck.s] (Int.toNat (↑(List.length y7) : Int) - Int.toNat y5) ++ List.drop (Int.toNat (↑(List.length y7) : Int)) y7) (Int.toNat 0) (Int.toNat y5))) else (none)) else (none)) N key1 (Pu.slices_IndexFunc_Entryb.v s0 key1) (w64 (Pu.slices_IndexFunc_Entryb.v s0 key1 + 1)) s0)) else (none)
theorem q5_bind {R S : Type} (f : R → Option S) (N : Nat) (k0 : ByteArray → Int → Int → Row → Option R) : ∀ n : Nat, (∀ (x0 : ByteArray) (x1 : Int) (x2 : Int) (x3 : Row), Option.bind (l5 N k0 n x0 x1 x2 x3) f = l5 N (fun y0 y1 y2 y3 => (Option.bind (k0 y0 y1 y2 y3) f)) n x0 x1 x2 x3) := by
  intro n
  induction n with
  | zero => exact (fun _ _ _ _ => rfl)
  | succ n ih =>
    intro x0 x1 x2 x3
    simp only [l5, r5, Lib.cond_bind, Lib.some_bind, Lib.none_bind, ih]
theorem l5_bind {R S : Type} (f : R → Option S) (N : Nat) (k0 : ByteArray → Int → Int → Row → Option R) (n : Nat) (x0 : ByteArray) (x1 : Int) (x2 : Int) (x3 : Row) : Option.bind (l5 N k0 n x0 x1 x2 x3) f = l5 N (fun y0 y1 y2 y3 => (Option.bind (k0 y0 y1 y2 y3) f)) n x0 x1 x2 x3 := (q5_bind f N k0 n) x0 x1 x2 x3
theorem b_bind {R : Type} (N : Nat) (kr : Row → Option R) (s0 : Row) (key1 : ByteArray) : b N kr s0 key1 = Option.bind (b N (fun r0 => some (r0)) s0 key1) (fun p => kr p) := by
  unfold b; simp only [Lib.cond_bind, Lib.some_bind, Lib.none_bind, l5_bind]
def vo (s0 : Row) (key1 : ByteArray) : Option (Row) := b Lib.big (fun r0 => some (r0)) s0 key1
def c (s0 : Row) (key1 : ByteArray) : Bool := Option.isSome (vo s0 key1)
def v (s0 : Row) (key1 : ByteArray) : Row := Option.getD (vo s0 key1) ([])
theorem out (s0 : Row) (key1 : ByteArray) {x : Row} (h : vo s0 key1 = some x) : c s0 key1 = true ∧ v s0 key1 = x := by
  unfold c v; rw [h]; exact ⟨rfl, rfl⟩
theorem b_eq {R : Type} (kr : Row → Option R) (s0 : Row) (key1 : ByteArray) (hc : c s0 key1 = true) : ∃ N, b N kr s0 key1 = kr (v s0 key1) := by
  refine ⟨Lib.big, ?_⟩
  rw [b_bind]
  have e : vo s0 key1 = some (v s0 key1) := by
    unfold c at hc; unfold v
    cases h : vo s0 key1 with
    | none => rw [h] at hc; cases hc
    | some x => rfl
  unfold vo at e
  rw [e]; rfl
end Go.FG.Pu.slices_DeleteFunc_Entry

namespace Go.FG.Pu.impl_dropEntry
def b {R : Type} (kr : Row → Option R) (list0 : Row) (key1 : ByteArray) : Option R := bif (Pu.impl_copyEntries.c list0) then (bif (Pu.slices_DeleteFunc_Entry.c (Pu.impl_copyEntries.v list0) key1) then (kr (Pu.slices_DeleteFunc_Entry.v (Pu.impl_copyEntries.v list0) key1)) else (none)) else (none)
theorem b_bind {R : Type} (kr : Row → Option R) (list0 : Row) (key1 : ByteArray) : b kr list0 key1 = Option.bind (b (fun r0 => some (r0)) list0 key1) (fun p => kr p) := by
  unfold b; simp only [Lib.cond_bind, Lib.some_bind, Lib.none_bind]
def vo (list0 : Row) (key1 : ByteArray) : Option (Row) := b (fun r0 => some (r0)) list0 key1
def c (list0 : Row) (key1 : ByteArray) : Bool := Option.isSome (vo list0 key1)
def v (list0 : Row) (key1 : ByteArray) : Row := Option.getD (vo list0 key1) ([])
theorem out (list0 : Row) (key1 : ByteArray) {x : Row} (h : vo list0 key1 = some x) : c list0 key1 = true ∧ v list0 key1 = x := by
  unfold c v; rw [h]; exact ⟨rfl, rfl⟩
theorem b_eq {R : Type} (kr : Row → Option R) (list0 : Row) (key1 : ByteArray) (hc : c list0 key1 = true) : b kr list0 key1 = kr (v list0 key1) := by
  rw [b_bind]
  have e : vo list0 key1 = some (v list0 key1) := by
    unfold c at hc; unfold v
    cases h : vo list0 key1 with
    | none => rw [h] at hc; cases hc
    | some x => rfl
  unfold vo at e
  rw [e]; rfl
end Go.FG.Pu.impl_dropEntry


namespace Go.FG.Pu.impl_putEntry
def r3 {R : Type} (N : Nat) (g : Int → ByteArray → Int → Int → ByteArray → Row → Option R) (k0 : Int → ByteArray → Int → Int → ByteArray → Row → Option R) (x0 : Int) (x1 : ByteArray) (x2 : Int) (x3 : Int) (x4 : ByteArray) (x5 : Row) : Option R := bif (decide (x0 < (↑(List.length x5) : Int))) then (bif (decide (0 ≤ x0) && decide (x0 < (↑(List.length x5) : Int))) then (bif (Go.Op.bytesLess (ByteArray.toList (cvS (cellAt x5 (Int.toNat x0) 0))) (ByteArray.toList x1)) then (g (w64 (x0 + 1)) x1 x2 x3 x4 x5) else (k0 x0 x1 x2 x3 x4 x5)) else (none)) else (k0 x0 x1 x2 x3 x4 x5)
def l3 {R : Type} (N : Nat) (k0 : Int → ByteArray → Int → Int → ByteArray → Row → Option R) : Nat → Int → ByteArray → Int → Int → ByteArray → Row → Option R
  | 0 => (fun _ _ _ _ _ _ => none)
  | n + 1 => (fun x0 x1 x2 x3 x4 x5 => r3 N (l3 N k0 n) k0 x0 x1 x2 x3 x4 x5)
def b {R : Type} (N : Nat) (kr : Row → Option R) (list0 : Row) (e1_0 : ByteArray) (e1_1 : Int) (e1_2 : Int) (e1_3 : ByteArray) : Option R := bif (Pu.impl_dropEntry.c list0 e1_0) then (l3 N (fun y6 y7 y8 y9 y10 y11 => bif (decide (0 ≤ y6) && decide (y6 ≤ (↑(List.length y11) : Int)) && roomy (List.length y11 + List.length (List.set (zeros [Ck.s, Ck.i IntKind.i64, Ck.i IntKind.i64, Ck.s] 1) 0 [CV.s y7, CV.i IntKind.i64 y8, CV.i IntKind.i64 y9, CV.s y10])) 48) then (kr (Pu.insR y11 (Int.toNat y6) (List.set (zeros [Ck.s, Ck.i IntKind.i64, Ck.i IntKind.i64, Ck.s] 1) 0 [CV.s y7, CV.i IntKind.i64 y8, CV.i IntKind.i64 y9, CV.s y10]))) else (none)) N 0 e1_0 e1_1 e1_2 e1_3 (Pu.impl_dropEntry.v list0 e1_0)) else (none)
theorem q3_bind {R S : Type} (f : R → Option S) (N : Nat) (k0 : Int → ByteArray → Int → Int → ByteArray → Row → Option R) : ∀ n : Nat, (∀ (x0 : Int) (x1 : ByteArray) (x2 : Int) (x3 : Int) (x4 : ByteArray) (x5 : Row), Option.bind (l3 N k0 n x0 x1 x2 x3 x4 x5) f = l3 N (fun y0 y1 y2 y3 y4 y5 => (Option.bind (k0 y0 y1 y2 y3 y4 y5) f)) n x0 x1 x2 x3 x4 x5) := by
  intro n
  induction n with
  | zero => exact (fun _ _ _ _ _ _ => rfl)
  | succ n ih =>
    intro x0 x1 x2 x3 x4 x5
    simp only [l3, r3, Lib.cond_bind, Lib.some_bind, Lib.none_bind, ih]
theorem l3_bind {R S : Type} (f : R → Option S) (N : Nat) (k0 : Int → ByteArray → Int → Int → ByteArray → Row → Option R) (n : Nat) (x0 : Int) (x1 : ByteArray) (x2 : Int) (x3 : Int) (x4 : ByteArray) (x5 : Row) : Option.bind (l3 N k0 n x0 x1 x2 x3 x4 x5) f = l3 N (fun y0 y1 y2 y3 y4 y5 => (Option.bind (k0 y0 y1 y2 y3 y4 y5) f)) n x0 x1 x2 x3 x4 x5 := (q3_bind f N k0 n) x0 x1 x2 x3 x4 x5
theorem b_bind {R : Type} (N : Nat) (kr : Row → Option R) (list0 : Row) (e1_0 : ByteArray) (e1_1 : Int) (e1_2 : Int) (e1_3 : ByteArray) : b N kr list0 e1_0 e1_1 e1_2 e1_3 = Option.bind (b N (fun r0 => some (r0)) list0 e1_0 e1_1 e1_2 e1_3) (fun p => kr p) := by
  unfold b; simp only [Lib.cond_bind, Lib.some_bind, Lib.none_bind, l3_bind]
def vo (list0 : Row) (e1_0 : ByteArray) (e1_1 : Int) (e1_2 : Int) (e1_3 : ByteArray) : Option (Row) := b Lib.big (fun r0 => some (r0)) list0 e1_0 e1_1 e1_2 e1_3
def c (list0 : Row) (e1_0 : ByteArray) (e1_1 : Int) (e1_2 : Int) (e1_3 : ByteArray) : Bool := Option.isSome (vo list0 e1_0 e1_1 e1_2 e1_3)
def v (list0 : Row) (e1_0 : ByteArray) (e1_1 : Int) (e1_2 : Int) (e1_3 : ByteArray) : Row := Option.getD (vo list0 e1_0 e1_1 e1_2 e1_3) ([])
theorem out (list0 : Row) (e1_0 : ByteArray) (e1_1 : Int) (e1_2 : Int) (e1_3 : ByteArray) {x : Row} (h : vo list0 e1_0 e1_1 e1_2 e1_3 = some x) : c list0 e1_0 e1_1 e1_2 e1_3 = true ∧ v list0 e1_0 e1_1 e1_2 e1_3 = x := by
  unfold c v; rw [h]; exact ⟨rfl, rfl⟩
theorem b_eq {R : Type} (kr : Row → Option R) (list0 : Row) (e1_0 : ByteArray) (e1_1 : Int) (e1_2 : Int) (e1_3 : ByteArray) (hc : c list0 e1_0 e1_1 e1_2 e1_3 = true) : ∃ N, b N kr list0 e1_0 e1_1 e1_2 e1_3 = kr (v list0 e1_0 e1_1 e1_2 e1_3) := by
  refine ⟨Lib.big, ?_⟩
  rw [b_bind]
  have e : vo list0 e1_0 e1_1 e1_2 e1_3 = some (v list0 e1_0 e1_1 e1_2 e1_3) := by
    unfold c at hc; unfold v
    cases h : vo list0 e1_0 e1_1 e1_2 e1_3 with
    | none => rw [h] at hc; cases hc
    | some x => rfl
  unfold vo at e
  rw [e]; rfl
end Go.FG.Pu.impl_putEntry

namespace Go.FG.Pu.impl_FindKept
def r7 {R : Type} (N : Nat) (g : Int → Int → Row → Row → Option R) (k0 : Int → Int → Row → Row → Option R) (x0 : Int) (x1 : Int) (x2 : Row) (x3 : Row) : Option R := bif (decide (x1 < x0)) then (bif (decide (0 ≤ x1) && decide (x1 < (↑(List.length x3) : Int))) then (bif ((Pu.impl_ReadEntry.v (cvS (cellAt x3 (Int.toNat x1) 0))).2.2.2.2) then (bif (Pu.impl_putEntry.c x2 (Pu.impl_ReadEntry.v (cvS (cellAt x3 (Int.toNat x1) 0))).1 (Pu.impl_ReadEntry.v (cvS (cellAt x3 (Int.toNat x1) 0))).2.1 (Pu.impl_ReadEntry.v (cvS (cellAt x3 (Int.toNat x1) 0))).2.2.1 (Pu.impl_ReadEntry.v (cvS (cellAt x3 (Int.toNat x1) 0))).2.2.2.1) then (g x0 (w64 (x1 + 1)) (Pu.impl_putEntry.v x2 (Pu.impl_ReadEntry.v (cvS (cellAt x3 (Int.toNat x1) 0))).1 (Pu.impl_ReadEntry.v (cvS (cellAt x3 (Int.toNat x1) 0))).2.1 (Pu.impl_ReadEntry.v (cvS (cellAt x3 (Int.toNat x1) 0))).2.2.1 (Pu.impl_ReadEntry.v (cvS (cellAt x3 (Int.toNat x1) 0))).2.2.2.1) x3) else (none)) else (g x0 (w64 (x1 + 1)) x2 x3)) else (none)) else (k0 x0 x1 x2 x3)
def l7 {R : Type} (N : Nat) (k0 : Int → Int → Row → Row → Option R) : Nat → Int → Int → Row → Row → Option R
  | 0 => (fun _ _ _ _ => none)
  | n + 1 => (fun x0 x1 x2 x3 => r7 N (l7 N k0 n) k0 x0 x1 x2 x3)
def b {R : Type} (N : Nat) (kr : Row → Option R) (d0 : Row) : Option R := bif (Pu.impl_DiskOk.c d0) then (bif (!Pu.impl_DiskOk.v d0) then (kr (zeros [Ck.s, Ck.i IntKind.i64, Ck.i IntKind.i64, Ck.s] 0)) else (bif (Pu.impl_FileAt.c d0 { data := #[UInt8.ofNat 107, UInt8.ofNat 101, UInt8.ofNat 112, UInt8.ofNat 116] }) then (bif (Pu.impl_Unframe.c (Pu.impl_FileAt.v d0 { data := #[UInt8.ofNat 107, UInt8.ofNat 101, UInt8.ofNat 112, UInt8.ofNat 116] }).1) then (l7 N (fun y4 y5 y6 y7 => kr y6) N (↑(List.length (Pu.impl_Unframe.v (Pu.impl_FileAt.v d0 { data := #[UInt8.ofNat 107, UInt8.ofNat 101, UInt8.ofNat 112, UInt8.ofNat 116] }).1).1) : Int) 0 (zeros [Ck.s, Ck.i IntKind.i64, Ck.i IntKind.i64, Ck.s] 0) ((Pu.impl_Unframe.v (Pu.impl_FileAt.v d0 { data := #[UInt8.ofNat 107, UInt8.ofNat 101, UInt8.ofNat 112, UInt8.ofNat 116] }).1).1)) else (none)) else (none))) else (none)
theorem q7_bind {R S : Type} (f : R → Option S) (N : Nat) (k0 : Int → Int → Row → Row → Option R) : ∀ n : Nat, (∀ (x0 : Int) (x1 : Int) (x2 : Row) (x3 : Row), Option.bind (l7 N k0 n x0 x1 x2 x3) f = l7 N (fun y0 y1 y2 y3 => (Option.bind (k0 y0 y1 y2 y3) f)) n x0 x1 x2 x3) := by
  intro n
  induction n with
  | zero => exact (fun _ _ _ _ => rfl)
  | succ n ih =>
    intro x0 x1 x2 x3
    simp only [l7, r7, Lib.cond_bind, Lib.some_bind, Lib.none_bind, ih]
theorem l7_bind {R S : Type} (f : R → Option S) (N : Nat) (k0 : Int → Int → Row → Row → Option R) (n : Nat) (x0 : Int) (x1 : Int) (x2 : Row) (x3 : Row) : Option.bind (l7 N k0 n x0 x1 x2 x3) f = l7 N (fun y0 y1 y2 y3 => (Option.bind (k0 y0 y1 y2 y3) f)) n x0 x1 x2 x3 := (q7_bind f N k0 n) x0 x1 x2 x3
theorem b_bind {R : Type} (N : Nat) (kr : Row → Option R) (d0 : Row) : b N kr d0 = Option.bind (b N (fun r0 => some (r0)) d0) (fun p => kr p) := by
  unfold b; simp only [Lib.cond_bind, Lib.some_bind, Lib.none_bind, l7_bind]
def vo (d0 : Row) : Option (Row) := b Lib.big (fun r0 => some (r0)) d0
def c (d0 : Row) : Bool := Option.isSome (vo d0)
def v (d0 : Row) : Row := Option.getD (vo d0) ([])
theorem out (d0 : Row) {x : Row} (h : vo d0 = some x) : c d0 = true ∧ v d0 = x := by
  unfold c v; rw [h]; exact ⟨rfl, rfl⟩
theorem b_eq {R : Type} (kr : Row → Option R) (d0 : Row) (hc : c d0 = true) : ∃ N, b N kr d0 = kr (v d0) := by
  refine ⟨Lib.big, ?_⟩
  rw [b_bind]
  have e : vo d0 = some (v d0) := by
    unfold c at hc; unfold v
    cases h : vo d0 with
    | none => rw [h] at hc; cases hc
    | some x => rfl
  unfold vo at e
  rw [e]; rfl
end Go.FG.Pu.impl_FindKept

namespace Go.FG.Pu.laws_eqEntry
def b {R : Type} (kr : Bool → Option R) (a0_0 : ByteArray) (a0_1 : Int) (a0_2 : Int) (a0_3 : ByteArray) (b1_0 : ByteArray) (b1_1 : Int) (b1_2 : Int) (b1_3 : ByteArray) : Option R := bif (!List.beq (ByteArray.toList a0_0) (ByteArray.toList b1_0)) then (kr false) else (bif (a0_1 != b1_1) then (kr false) else (bif (a0_2 != b1_2) then (kr false) else (bif (!List.beq (ByteArray.toList a0_3) (ByteArray.toList b1_3)) then (kr false) else (kr true))))
def v (a0_0 : ByteArray) (a0_1 : Int) (a0_2 : Int) (a0_3 : ByteArray) (b1_0 : ByteArray) (b1_1 : Int) (b1_2 : Int) (b1_3 : ByteArray) : Bool := bif (!List.beq (ByteArray.toList a0_0) (ByteArray.toList b1_0)) then ((false)) else (bif (a0_1 != b1_1) then ((false)) else (bif (a0_2 != b1_2) then ((false)) else (bif (!List.beq (ByteArray.toList a0_3) (ByteArray.toList b1_3)) then ((false)) else ((true)))))
theorem b_eq {R : Type} (kr : Bool → Option R) (a0_0 : ByteArray) (a0_1 : Int) (a0_2 : Int) (a0_3 : ByteArray) (b1_0 : ByteArray) (b1_1 : Int) (b1_2 : Int) (b1_3 : ByteArray) : b kr a0_0 a0_1 a0_2 a0_3 b1_0 b1_1 b1_2 b1_3 = kr (v a0_0 a0_1 a0_2 a0_3 b1_0 b1_1 b1_2 b1_3) := by
  first | rfl | (unfold b v; simp only [Bool.cond_eq_ite]; (repeat' split) <;> rfl)
end Go.FG.Pu.laws_eqEntry

namespace Go.FG.Pu.laws_eqEntryS
def r4 {R : Type} (N : Nat) (g : Row → Row → Bool → Int → Option R) (k0 : Row → Row → Bool → Int → Option R) (k1 : Row → Row → Bool → Int → Option R) (x0 : Row) (x1 : Row) (x2 : Bool) (x3 : Int) : Option R := bif (decide (x3 < (↑(List.length x0) : Int))) then (bif (decide (0 ≤ x3) && decide (x3 < (↑(List.length x0) : Int))) then (bif (decide (0 ≤ x3) && decide (x3 < (↑(List.length x1) : Int))) then (bif (!Pu.laws_eqEntry.v (cvS (cellAt x0 (Int.toNat x3) 0)) (cvI (cellAt x0 (Int.toNat x3) 1)) (cvI (cellAt x0 (Int.toNat x3) (1 + 1))) (cvS (cellAt x0 (Int.toNat x3) (1 + 1 + 1))) (cvS (cellAt x1 (Int.toNat x3) 0)) (cvI (cellAt x1 (Int.toNat x3) 1)) (cvI (cellAt x1 (Int.toNat x3) (1 + 1))) (cvS (cellAt x1 (Int.toNat x3) (1 + 1 + 1)))) then (k0 x0 x1 false x3) else (g x0 x1 x2 (w64 (x3 + 1)))) else (none)) else (none)) else (k1 x0 x1 x2 x3)
def l4 {R : Type} (N : Nat) (k0 : Row → Row → Bool → Int → Option R) (k1 : Row → Row → Bool → Int → Option R) : Nat → Row → Row → Bool → Int → Option R
  | 0 => (fun _ _ _ _ => none)
  | n + 1 => (fun x0 x1 x2 x3 => r4 N (l4 N k0 k1 n) k0 k1 x0 x1 x2 x3)
def b {R : Type} (N : Nat) (kr : Bool → Option R) (a0 : Row) (b1 : Row) : Option R := bif ((↑(List.length a0) : Int) != (↑(List.length b1) : Int)) then (kr false) else (l4 N (fun y4 y5 y6 y7 => kr y6) (fun y8 y9 y10 y11 => kr true) N a0 b1 false 0)
theorem q4_bind {R S : Type} (f : R → Option S) (N : Nat) (k0 : Row → Row → Bool → Int → Option R) (k1 : Row → Row → Bool → Int → Option R) : ∀ n : Nat, (∀ (x0 : Row) (x1 : Row) (x2 : Bool) (x3 : Int), Option.bind (l4 N k0 k1 n x0 x1 x2 x3) f = l4 N (fun y0 y1 y2 y3 => (Option.bind (k0 y0 y1 y2 y3) f)) (fun y0 y1 y2 y3 => (Option.bind (k1 y0 y1 y2 y3) f)) n x0 x1 x2 x3) := by
  intro n
  induction n with
  | zero => exact (fun _ _ _ _ => rfl)
  | succ n ih =>
    intro x0 x1 x2 x3
    simp only [l4, r4, Lib.cond_bind, Lib.some_bind, Lib.none_bind, ih]
theorem l4_bind {R S : Type} (f : R → Option S) (N : Nat) (k0 : Row → Row → Bool → Int → Option R) (k1 : Row → Row → Bool → Int → Option R) (n : Nat) (x0 : Row) (x1 : Row) (x2 : Bool) (x3 : Int) : Option.bind (l4 N k0 k1 n x0 x1 x2 x3) f = l4 N (fun y0 y1 y2 y3 => (Option.bind (k0 y0 y1 y2 y3) f)) (fun y0 y1 y2 y3 => (Option.bind (k1 y0 y1 y2 y3) f)) n x0 x1 x2 x3 := (q4_bind f N k0 k1 n) x0 x1 x2 x3
theorem b_bind {R : Type} (N : Nat) (kr : Bool → Option R) (a0 : Row) (b1 : Row) : b N kr a0 b1 = Option.bind (b N (fun r0 => some (r0)) a0 b1) (fun p => kr p) := by
  unfold b; simp only [Lib.cond_bind, Lib.some_bind, Lib.none_bind, l4_bind]
def vo (a0 : Row) (b1 : Row) : Option (Bool) := b Lib.big (fun r0 => some (r0)) a0 b1
def c (a0 : Row) (b1 : Row) : Bool := Option.isSome (vo a0 b1)
def v (a0 : Row) (b1 : Row) : Bool := Option.getD (vo a0 b1) (false)
theorem out (a0 : Row) (b1 : Row) {x : Bool} (h : vo a0 b1 = some x) : c a0 b1 = true ∧ v a0 b1 = x := by
  unfold c v; rw [h]; exact ⟨rfl, rfl⟩
theorem b_eq {R : Type} (kr : Bool → Option R) (a0 : Row) (b1 : Row) (hc : c a0 b1 = true) : ∃ N, b N kr a0 b1 = kr (v a0 b1) := by
  refine ⟨Lib.big, ?_⟩
  rw [b_bind]
  have e : vo a0 b1 = some (v a0 b1) := by
    unfold c at hc; unfold v
    cases h : vo a0 b1 with
    | none => rw [h] at hc; cases hc
    | some x => rfl
  unfold vo at e
  rw [e]; rfl
end Go.FG.Pu.laws_eqEntryS

namespace Go.FG.Pu.laws_eqFile
def b {R : Type} (kr : Bool → Option R) (a0_0 : ByteArray) (a0_1 : ByteArray) (a0_2 : Int) (b1_0 : ByteArray) (b1_1 : ByteArray) (b1_2 : Int) : Option R := bif (!List.beq (ByteArray.toList a0_0) (ByteArray.toList b1_0)) then (kr false) else (bif (!List.beq (ByteArray.toList a0_1) (ByteArray.toList b1_1)) then (kr false) else (bif (a0_2 != b1_2) then (kr false) else (kr true)))
def v (a0_0 : ByteArray) (a0_1 : ByteArray) (a0_2 : Int) (b1_0 : ByteArray) (b1_1 : ByteArray) (b1_2 : Int) : Bool := bif (!List.beq (ByteArray.toList a0_0) (ByteArray.toList b1_0)) then ((false)) else (bif (!List.beq (ByteArray.toList a0_1) (ByteArray.toList b1_1)) then ((false)) else (bif (a0_2 != b1_2) then ((false)) else ((true))))
theorem b_eq {R : Type} (kr : Bool → Option R) (a0_0 : ByteArray) (a0_1 : ByteArray) (a0_2 : Int) (b1_0 : ByteArray) (b1_1 : ByteArray) (b1_2 : Int) : b kr a0_0 a0_1 a0_2 b1_0 b1_1 b1_2 = kr (v a0_0 a0_1 a0_2 b1_0 b1_1 b1_2) := by
  first | rfl | (unfold b v; simp only [Bool.cond_eq_ite]; (repeat' split) <;> rfl)
end Go.FG.Pu.laws_eqFile

namespace Go.FG.Pu.laws_eqFileS
def r4 {R : Type} (N : Nat) (g : Row → Row → Bool → Int → Option R) (k0 : Row → Row → Bool → Int → Option R) (k1 : Row → Row → Bool → Int → Option R) (x0 : Row) (x1 : Row) (x2 : Bool) (x3 : Int) : Option R := bif (decide (x3 < (↑(List.length x0) : Int))) then (bif (decide (0 ≤ x3) && decide (x3 < (↑(List.length x0) : Int))) then (bif (decide (0 ≤ x3) && decide (x3 < (↑(List.length x1) : Int))) then (bif (!Pu.laws_eqFile.v (cvS (cellAt x0 (Int.toNat x3) 0)) (cvS (cellAt x0 (Int.toNat x3) 1)) (cvI (cellAt x0 (Int.toNat x3) (1 + 1))) (cvS (cellAt x1 (Int.toNat x3) 0)) (cvS (cellAt x1 (Int.toNat x3) 1)) (cvI (cellAt x1 (Int.toNat x3) (1 + 1)))) then (k0 x0 x1 false x3) else (g x0 x1 x2 (w64 (x3 + 1)))) else (none)) else (none)) else (k1 x0 x1 x2 x3)
def l4 {R : Type} (N : Nat) (k0 : Row → Row → Bool → Int → Option R) (k1 : Row → Row → Bool → Int → Option R) : Nat → Row → Row → Bool → Int → Option R
  | 0 => (fun _ _ _ _ => none)
  | n + 1 => (fun x0 x1 x2 x3 => r4 N (l4 N k0 k1 n) k0 k1 x0 x1 x2 x3)
def b {R : Type} (N : Nat) (kr : Bool → Option R) (a0 : Row) (b1 : Row) : Option R := bif ((↑(List.length a0) : Int) != (↑(List.length b1) : Int)) then (kr false) else (l4 N (fun y4 y5 y6 y7 => kr y6) (fun y8 y9 y10 y11 => kr true) N a0 b1 false 0)
theorem q4_bind {R S : Type} (f : R → Option S) (N : Nat) (k0 : Row → Row → Bool → Int → Option R) (k1 : Row → Row → Bool → Int → Option R) : ∀ n : Nat, (∀ (x0 : Row) (x1 : Row) (x2 : Bool) (x3 : Int), Option.bind (l4 N k0 k1 n x0 x1 x2 x3) f = l4 N (fun y0 y1 y2 y3 => (Option.bind (k0 y0 y1 y2 y3) f)) (fun y0 y1 y2 y3 => (Option.bind (k1 y0 y1 y2 y3) f)) n x0 x1 x2 x3) := by
  intro n
  induction n with
  | zero => exact (fun _ _ _ _ => rfl)
  | succ n ih =>
    intro x0 x1 x2 x3
    simp only [l4, r4, Lib.cond_bind, Lib.some_bind, Lib.none_bind, ih]
theorem l4_bind {R S : Type} (f : R → Option S) (N : Nat) (k0 : Row → Row → Bool → Int → Option R) (k1 : Row → Row → Bool → Int → Option R) (n : Nat) (x0 : Row) (x1 : Row) (x2 : Bool) (x3 : Int) : Option.bind (l4 N k0 k1 n x0 x1 x2 x3) f = l4 N (fun y0 y1 y2 y3 => (Option.bind (k0 y0 y1 y2 y3) f)) (fun y0 y1 y2 y3 => (Option.bind (k1 y0 y1 y2 y3) f)) n x0 x1 x2 x3 := (q4_bind f N k0 k1 n) x0 x1 x2 x3
theorem b_bind {R : Type} (N : Nat) (kr : Bool → Option R) (a0 : Row) (b1 : Row) : b N kr a0 b1 = Option.bind (b N (fun r0 => some (r0)) a0 b1) (fun p => kr p) := by
  unfold b; simp only [Lib.cond_bind, Lib.some_bind, Lib.none_bind, l4_bind]
def vo (a0 : Row) (b1 : Row) : Option (Bool) := b Lib.big (fun r0 => some (r0)) a0 b1
def c (a0 : Row) (b1 : Row) : Bool := Option.isSome (vo a0 b1)
def v (a0 : Row) (b1 : Row) : Bool := Option.getD (vo a0 b1) (false)
theorem out (a0 : Row) (b1 : Row) {x : Bool} (h : vo a0 b1 = some x) : c a0 b1 = true ∧ v a0 b1 = x := by
  unfold c v; rw [h]; exact ⟨rfl, rfl⟩
theorem b_eq {R : Type} (kr : Bool → Option R) (a0 : Row) (b1 : Row) (hc : c a0 b1 = true) : ∃ N, b N kr a0 b1 = kr (v a0 b1) := by
  refine ⟨Lib.big, ?_⟩
  rw [b_bind]
  have e : vo a0 b1 = some (v a0 b1) := by
    unfold c at hc; unfold v
    cases h : vo a0 b1 with
    | none => rw [h] at hc; cases hc
    | some x => rfl
  unfold vo at e
  rw [e]; rfl
end Go.FG.Pu.laws_eqFileS

namespace Go.FG.Pu.laws_eqDisk
def b {R : Type} (kr : Bool → Option R) (a0 : Row) (b1 : Row) : Option R := bif (Pu.laws_eqFileS.c a0 b1) then (bif (!Pu.laws_eqFileS.v a0 b1) then (kr false) else (kr true)) else (none)
theorem b_bind {R : Type} (kr : Bool → Option R) (a0 : Row) (b1 : Row) : b kr a0 b1 = Option.bind (b (fun r0 => some (r0)) a0 b1) (fun p => kr p) := by
  unfold b; simp only [Lib.cond_bind, Lib.some_bind, Lib.none_bind]
def vo (a0 : Row) (b1 : Row) : Option (Bool) := b (fun r0 => some (r0)) a0 b1
def c (a0 : Row) (b1 : Row) : Bool := Option.isSome (vo a0 b1)
def v (a0 : Row) (b1 : Row) : Bool := Option.getD (vo a0 b1) (false)
theorem out (a0 : Row) (b1 : Row) {x : Bool} (h : vo a0 b1 = some x) : c a0 b1 = true ∧ v a0 b1 = x := by
  unfold c v; rw [h]; exact ⟨rfl, rfl⟩
theorem b_eq {R : Type} (kr : Bool → Option R) (a0 : Row) (b1 : Row) (hc : c a0 b1 = true) : b kr a0 b1 = kr (v a0 b1) := by
  rw [b_bind]
  have e : vo a0 b1 = some (v a0 b1) := by
    unfold c at hc; unfold v
    cases h : vo a0 b1 with
    | none => rw [h] at hc; cases hc
    | some x => rfl
  unfold vo at e
  rw [e]; rfl
end Go.FG.Pu.laws_eqDisk

namespace Go.FG.Pu.laws_markText
def r4 {R : Type} (N : Nat) (g : Int → ByteArray → Option R) (k0 : Int → ByteArray → Option R) (x0 : Int) (x1 : ByteArray) : Option R := bif (decide (x0 > 0)) then (bif (decide (ByteArray.size (bytesOf (List.set (zeros [Ck.i IntKind.u8] 1) 0 [CV.i IntKind.u8 (IntKind.wrap IntKind.u8 (w64 (48 + Int.tmod x0 10)))])) + ByteArray.size x1 ≤ 4611686018427387904)) then (g (w64 (Int.tdiv x0 10)) (bytesOf (List.set (zeros [Ck.i IntKind.u8] 1) 0 [CV.i IntKind.u8 (IntKind.wrap IntKind.u8 (w64 (48 + Int.tmod x0 10)))]) ++ x1)) else (none)) else (k0 x0 x1)
def l4 {R : Type} (N : Nat) (k0 : Int → ByteArray → Option R) : Nat → Int → ByteArray → Option R
  | 0 => (fun _ _ => none)
  | n + 1 => (fun x0 x1 => r4 N (l4 N k0 n) k0 x0 x1)
def b {R : Type} (N : Nat) (kr : ByteArray → Option R) (k0 : Int) : Option R := bif (decide (k0 ≤ 0)) then (kr ({ data := #[UInt8.ofNat 109, UInt8.ofNat 48] })) else (l4 N (fun y2 y3 => bif (decide (ByteArray.size { data := #[UInt8.ofNat 109] } + ByteArray.size y3 ≤ 4611686018427387904)) then (kr ({ data := #[UInt8.ofNat 109] } ++ y3)) else (none)) N k0 ({ data := #[] }))
theorem q4_bind {R S : Type} (f : R → Option S) (N : Nat) (k0 : Int → ByteArray → Option R) : ∀ n : Nat, (∀ (x0 : Int) (x1 : ByteArray), Option.bind (l4 N k0 n x0 x1) f = l4 N (fun y0 y1 => (Option.bind (k0 y0 y1) f)) n x0 x1) := by
  intro n
  induction n with
  | zero => exact (fun _ _ => rfl)
  | succ n ih =>
    intro x0 x1
    simp only [l4, r4, Lib.cond_bind, Lib.some_bind, Lib.none_bind, ih]
theorem l4_bind {R S : Type} (f : R → Option S) (N : Nat) (k0 : Int → ByteArray → Option R) (n : Nat) (x0 : Int) (x1 : ByteArray) : Option.bind (l4 N k0 n x0 x1) f = l4 N (fun y0 y1 => (Option.bind (k0 y0 y1) f)) n x0 x1 := (q4_bind f N k0 n) x0 x1
theorem b_bind {R : Type} (N : Nat) (kr : ByteArray → Option R) (k0 : Int) : b N kr k0 = Option.bind (b N (fun r0 => some (r0)) k0) (fun p => kr p) := by
  unfold b; simp only [Lib.cond_bind, Lib.some_bind, Lib.none_bind, l4_bind]
def vo (k0 : Int) : Option (ByteArray) := b Lib.big (fun r0 => some (r0)) k0
def c (k0 : Int) : Bool := Option.isSome (vo k0)
def v (k0 : Int) : ByteArray := Option.getD (vo k0) (⟨#[]⟩)
theorem out (k0 : Int) {x : ByteArray} (h : vo k0 = some x) : c k0 = true ∧ v k0 = x := by
  unfold c v; rw [h]; exact ⟨rfl, rfl⟩
theorem b_eq {R : Type} (kr : ByteArray → Option R) (k0 : Int) (hc : c k0 = true) : ∃ N, b N kr k0 = kr (v k0) := by
  refine ⟨Lib.big, ?_⟩
  rw [b_bind]
  have e : vo k0 = some (v k0) := by
    unfold c at hc; unfold v
    cases h : vo k0 with
    | none => rw [h] at hc; cases hc
    | some x => rfl
  unfold vo at e
  rw [e]; rfl
end Go.FG.Pu.laws_markText

namespace Go.FG.Pu.laws_markFileS
def r2 {R : Type} (N : Nat) (g : Int → Int → Row → Option R) (k0 : Int → Int → Row → Option R) (x0 : Int) (x1 : Int) (x2 : Row) : Option R := bif (decide (x1 < (↑(List.length x2) : Int))) then (bif (Pu.laws_markText.c x0) then (bif (decide (0 ≤ x1) && decide (x1 < (↑(List.length x2) : Int))) then (bif (Pu.laws_markText.c (w64 (x0 + 1))) then (bif (decide (0 ≤ x1) && decide (x1 < (↑(List.length (setC x2 (Int.toNat x1) 0 [CV.s (Pu.laws_markText.v x0)])) : Int))) then (bif (decide (0 ≤ x1) && decide (x1 < (↑(List.length (setC (setC x2 (Int.toNat x1) 0 [CV.s (Pu.laws_markText.v x0)]) (Int.toNat x1) 1 [CV.s (Pu.laws_markText.v (w64 (x0 + 1)))])) : Int))) then (g (w64 (w64 (w64 (x0 + 1) + 1) + 1)) (w64 (x1 + 1)) (setC (setC (setC x2 (Int.toNat x1) 0 [CV.s (Pu.laws_markText.v x0)]) (Int.toNat x1) 1 [CV.s (Pu.laws_markText.v (w64 (x0 + 1)))]) (Int.toNat x1) 2 [CV.i IntKind.i64 (w64 (w64 (x0 + 1) + 1))])) else (none)) else (none)) else (none)) else (none)) else (none)) else (k0 x0 x1 x2)
def l2 {R : Type} (N : Nat) (k0 : Int → Int → Row → Option R) : Nat → Int → Int → Row → Option R
  | 0 => (fun _ _ _ => none)
  | n + 1 => (fun x0 x1 x2 => r2 N (l2 N k0 n) k0 x0 x1 x2)
def b {R : Type} (N : Nat) (kr : Int → Row → Option R) (a0 : Row) (k1 : Int) : Option R := l2 N (fun y3 y4 y5 => kr y3 y5) N k1 0 a0
theorem q2_bind {R S : Type} (f : R → Option S) (N : Nat) (k0 : Int → Int → Row → Option R) : ∀ n : Nat, (∀ (x0 : Int) (x1 : Int) (x2 : Row), Option.bind (l2 N k0 n x0 x1 x2) f = l2 N (fun y0 y1 y2 => (Option.bind (k0 y0 y1 y2) f)) n x0 x1 x2) := by
  intro n
  induction n with
  | zero => exact (fun _ _ _ => rfl)
  | succ n ih =>
    intro x0 x1 x2
    simp only [l2, r2, Lib.cond_bind, Lib.some_bind, Lib.none_bind, ih]
theorem l2_bind {R S : Type} (f : R → Option S) (N : Nat) (k0 : Int → Int → Row → Option R) (n : Nat) (x0 : Int) (x1 : Int) (x2 : Row) : Option.bind (l2 N k0 n x0 x1 x2) f = l2 N (fun y0 y1 y2 => (Option.bind (k0 y0 y1 y2) f)) n x0 x1 x2 := (q2_bind f N k0 n) x0 x1 x2
theorem b_bind {R : Type} (N : Nat) (kr : Int → Row → Option R) (a0 : Row) (k1 : Int) : b N kr a0 k1 = Option.bind (b N (fun r0 r1 => some (r0, r1)) a0 k1) (fun p => kr p.1 p.2) := by
  unfold b; simp only [Lib.cond_bind, Lib.some_bind, Lib.none_bind, l2_bind]
def vo (a0 : Row) (k1 : Int) : Option (Int × Row) := b Lib.big (fun r0 r1 => some (r0, r1)) a0 k1
def c (a0 : Row) (k1 : Int) : Bool := Option.isSome (vo a0 k1)
def v (a0 : Row) (k1 : Int) : Int × Row := Option.getD (vo a0 k1) (0, [])
theorem out (a0 : Row) (k1 : Int) {x : Int × Row} (h : vo a0 k1 = some x) : c a0 k1 = true ∧ v a0 k1 = x := by
  unfold c v; rw [h]; exact ⟨rfl, rfl⟩
theorem b_eq {R : Type} (kr : Int → Row → Option R) (a0 : Row) (k1 : Int) (hc : c a0 k1 = true) : ∃ N, b N kr a0 k1 = kr ((v a0 k1).1) ((v a0 k1).2) := by
  refine ⟨Lib.big, ?_⟩
  rw [b_bind]
  have e : vo a0 k1 = some (v a0 k1) := by
    unfold c at hc; unfold v
    cases h : vo a0 k1 with
    | none => rw [h] at hc; cases hc
    | some x => rfl
  unfold vo at e
  rw [e]; rfl
end Go.FG.Pu.laws_markFileS

namespace Go.FG.Pu.laws_markDisk
def b {R : Type} (kr : Int → Row → Option R) (a0 : Row) (k1 : Int) : Option R := bif (Pu.laws_markFileS.c a0 k1) then (kr ((Pu.laws_markFileS.v a0 k1).1) ((Pu.laws_markFileS.v a0 k1).2)) else (none)
theorem b_bind {R : Type} (kr : Int → Row → Option R) (a0 : Row) (k1 : Int) : b kr a0 k1 = Option.bind (b (fun r0 r1 => some (r0, r1)) a0 k1) (fun p => kr p.1 p.2) := by
  unfold b; simp only [Lib.cond_bind, Lib.some_bind, Lib.none_bind]
def vo (a0 : Row) (k1 : Int) : Option (Int × Row) := b (fun r0 r1 => some (r0, r1)) a0 k1
def c (a0 : Row) (k1 : Int) : Bool := Option.isSome (vo a0 k1)
def v (a0 : Row) (k1 : Int) : Int × Row := Option.getD (vo a0 k1) (0, [])
theorem out (a0 : Row) (k1 : Int) {x : Int × Row} (h : vo a0 k1 = some x) : c a0 k1 = true ∧ v a0 k1 = x := by
  unfold c v; rw [h]; exact ⟨rfl, rfl⟩
theorem b_eq {R : Type} (kr : Int → Row → Option R) (a0 : Row) (k1 : Int) (hc : c a0 k1 = true) : b kr a0 k1 = kr ((v a0 k1).1) ((v a0 k1).2) := by
  rw [b_bind]
  have e : vo a0 k1 = some (v a0 k1) := by
    unfold c at hc; unfold v
    cases h : vo a0 k1 with
    | none => rw [h] at hc; cases hc
    | some x => rfl
  unfold vo at e
  rw [e]; rfl
end Go.FG.Pu.laws_markDisk

namespace Go.FG.Pu.laws_markEntryS
def r2 {R : Type} (N : Nat) (g : Int → Int → Row → Option R) (k0 : Int → Int → Row → Option R) (x0 : Int) (x1 : Int) (x2 : Row) : Option R := bif (decide (x1 < (↑(List.length x2) : Int))) then (bif (Pu.laws_markText.c x0) then (bif (decide (0 ≤ x1) && decide (x1 < (↑(List.length x2) : Int))) then (bif (decide (0 ≤ x1) && decide (x1 < (↑(List.length (setC x2 (Int.toNat x1) 0 [CV.s (Pu.laws_markText.v x0)])) : Int))) then (bif (decide (0 ≤ x1) && decide (x1 < (↑(List.length (setC (setC x2 (Int.toNat x1) 0 [CV.s (Pu.laws_markText.v x0)]) (Int.toNat x1) 1 [CV.i IntKind.i64 (w64 (x0 + 1))])) : Int))) then (bif (Pu.laws_markText.c (w64 (w64 (w64 (x0 + 1) + 1) + 1))) then (bif (decide (0 ≤ x1) && decide (x1 < (↑(List.length (setC (setC (setC x2 (Int.toNat x1) 0 [CV.s (Pu.laws_markText.v x0)]) (Int.toNat x1) 1 [CV.i IntKind.i64 (w64 (x0 + 1))]) (Int.toNat x1) 2 [CV.i IntKind.i64 (w64 (w64 (x0 + 1) + 1))])) : Int))) then (g (w64 (w64 (w64 (w64 (x0 + 1) + 1) + 1) + 1)) (w64 (x1 + 1)) (setC (setC (setC (setC x2 (Int.toNat x1) 0 [CV.s (Pu.laws_markText.v x0)]) (Int.toNat x1) 1 [CV.i IntKind.i64 (w64 (x0 + 1))]) (Int.toNat x1) 2 [CV.i IntKind.i64 (w64 (w64 (x0 + 1) + 1))]) (Int.toNat x1) 3 [CV.s (Pu.laws_markText.v (w64 (w64 (w64 (x0 + 1) + 1) + 1)))])) else (none)) else (none)) else (none)) else (none)) else (none)) else (none)) else (k0 x0 x1 x2)
def l2 {R : Type} (N : Nat) (k0 : Int → Int → Row → Option R) : Nat → Int → Int → Row → Option R
  | 0 => (fun _ _ _ => none)
  | n + 1 => (fun x0 x1 x2 => r2 N (l2 N k0 n) k0 x0 x1 x2)
def b {R : Type} (N : Nat) (kr : Int → Row → Option R) (a0 : Row) (k1 : Int) : Option R := l2 N (fun y3 y4 y5 => kr y3 y5) N k1 0 a0
theorem q2_bind {R S : Type} (f : R → Option S) (N : Nat) (k0 : Int → Int → Row → Option R) : ∀ n : Nat, (∀ (x0 : Int) (x1 : Int) (x2 : Row), Option.bind (l2 N k0 n x0 x1 x2) f = l2 N (fun y0 y1 y2 => (Option.bind (k0 y0 y1 y2) f)) n x0 x1 x2) := by
  intro n
  induction n with
  | zero => exact (fun _ _ _ => rfl)
  | succ n ih =>
    intro x0 x1 x2
    simp only [l2, r2, Lib.cond_bind, Lib.some_bind, Lib.none_bind, ih]
theorem l2_bind {R S : Type} (f : R → Option S) (N : Nat) (k0 : Int → Int → Row → Option R) (n : Nat) (x0 : Int) (x1 : Int) (x2 : Row) : Option.bind (l2 N k0 n x0 x1 x2) f = l2 N (fun y0 y1 y2 => (Option.bind (k0 y0 y1 y2) f)) n x0 x1 x2 := (q2_bind f N k0 n) x0 x1 x2
theorem b_bind {R : Type} (N : Nat) (kr : Int → Row → Option R) (a0 : Row) (k1 : Int) : b N kr a0 k1 = Option.bind (b N (fun r0 r1 => some (r0, r1)) a0 k1) (fun p => kr p.1 p.2) := by
  unfold b; simp only [Lib.cond_bind, Lib.some_bind, Lib.none_bind, l2_bind]
def vo (a0 : Row) (k1 : Int) : Option (Int × Row) := b Lib.big (fun r0 r1 => some (r0, r1)) a0 k1
def c (a0 : Row) (k1 : Int) : Bool := Option.isSome (vo a0 k1)
def v (a0 : Row) (k1 : Int) : Int × Row := Option.getD (vo a0 k1) (0, [])
theorem out (a0 : Row) (k1 : Int) {x : Int × Row} (h : vo a0 k1 = some x) : c a0 k1 = true ∧ v a0 k1 = x := by
  unfold c v; rw [h]; exact ⟨rfl, rfl⟩
theorem b_eq {R : Type} (kr : Int → Row → Option R) (a0 : Row) (k1 : Int) (hc : c a0 k1 = true) : ∃ N, b N kr a0 k1 = kr ((v a0 k1).1) ((v a0 k1).2) := by
  refine ⟨Lib.big, ?_⟩
  rw [b_bind]
  have e : vo a0 k1 = some (v a0 k1) := by
    unfold c at hc; unfold v
    cases h : vo a0 k1 with
    | none => rw [h] at hc; cases hc
    | some x => rfl
  unfold vo at e
  rw [e]; rfl
end Go.FG.Pu.laws_markEntryS

namespace Go.FG.Pu.laws_heldEntryS
def r2 {R : Type} (N : Nat) (g : Row → Int → Int → Int → Option R) (k0 : Row → Int → Int → Int → Option R) (k1 : Row → Int → Int → Int → Option R) (x0 : Row) (x1 : Int) (x2 : Int) (x3 : Int) : Option R := bif (decide (x3 < (↑(List.length x0) : Int))) then (bif (decide (0 ≤ x3) && decide (x3 < (↑(List.length x0) : Int))) then (bif (Pu.laws_markText.c x1) then (bif (!List.beq (ByteArray.toList (cvS (cellAt x0 (Int.toNat x3) 0))) (ByteArray.toList (Pu.laws_markText.v x1))) then (k0 x0 x1 (-1) x3) else (bif (decide (0 ≤ x3) && decide (x3 < (↑(List.length x0) : Int))) then (bif (cvI (cellAt x0 (Int.toNat x3) 1) != w64 (x1 + 1)) then (k0 x0 (w64 (x1 + 1)) (-1) x3) else (bif (decide (0 ≤ x3) && decide (x3 < (↑(List.length x0) : Int))) then (bif (cvI (cellAt x0 (Int.toNat x3) 2) != w64 (w64 (x1 + 1) + 1)) then (k0 x0 (w64 (w64 (x1 + 1) + 1)) (-1) x3) else (bif (decide (0 ≤ x3) && decide (x3 < (↑(List.length x0) : Int))) then (bif (Pu.laws_markText.c (w64 (w64 (w64 (x1 + 1) + 1) + 1))) then (bif (!List.beq (ByteArray.toList (cvS (cellAt x0 (Int.toNat x3) 3))) (ByteArray.toList (Pu.laws_markText.v (w64 (w64 (w64 (x1 + 1) + 1) + 1))))) then (k0 x0 (w64 (w64 (w64 (x1 + 1) + 1) + 1)) (-1) x3) else (g x0 (w64 (w64 (w64 (w64 (x1 + 1) + 1) + 1) + 1)) x2 (w64 (x3 + 1)))) else (none)) else (none))) else (none))) else (none))) else (none)) else (none)) else (k1 x0 x1 x2 x3)
def l2 {R : Type} (N : Nat) (k0 : Row → Int → Int → Int → Option R) (k1 : Row → Int → Int → Int → Option R) : Nat → Row → Int → Int → Int → Option R
  | 0 => (fun _ _ _ _ => none)
  | n + 1 => (fun x0 x1 x2 x3 => r2 N (l2 N k0 k1 n) k0 k1 x0 x1 x2 x3)
def b {R : Type} (N : Nat) (kr : Int → Option R) (a0 : Row) (k1 : Int) : Option R := l2 N (fun y4 y5 y6 y7 => kr y6) (fun y8 y9 y10 y11 => kr y9) N a0 k1 0 0
theorem q2_bind {R S : Type} (f : R → Option S) (N : Nat) (k0 : Row → Int → Int → Int → Option R) (k1 : Row → Int → Int → Int → Option R) : ∀ n : Nat, (∀ (x0 : Row) (x1 : Int) (x2 : Int) (x3 : Int), Option.bind (l2 N k0 k1 n x0 x1 x2 x3) f = l2 N (fun y0 y1 y2 y3 => (Option.bind (k0 y0 y1 y2 y3) f)) (fun y0 y1 y2 y3 => (Option.bind (k1 y0 y1 y2 y3) f)) n x0 x1 x2 x3) := by
  intro n
  induction n with
  | zero => exact (fun _ _ _ _ => rfl)
  | succ n ih =>
    intro x0 x1 x2 x3
    simp only [l2, r2, Lib.cond_bind, Lib.some_bind, Lib.none_bind, ih]
theorem l2_bind {R S : Type} (f : R → Option S) (N : Nat) (k0 : Row → Int → Int → Int → Option R) (k1 : Row → Int → Int → Int → Option R) (n : Nat) (x0 : Row) (x1 : Int) (x2 : Int) (x3 : Int) : Option.bind (l2 N k0 k1 n x0 x1 x2 x3) f = l2 N (fun y0 y1 y2 y3 => (Option.bind (k0 y0 y1 y2 y3) f)) (fun y0 y1 y2 y3 => (Option.bind (k1 y0 y1 y2 y3) f)) n x0 x1 x2 x3 := (q2_bind f N k0 k1 n) x0 x1 x2 x3
theorem b_bind {R : Type} (N : Nat) (kr : Int → Option R) (a0 : Row) (k1 : Int) : b N kr a0 k1 = Option.bind (b N (fun r0 => some (r0)) a0 k1) (fun p => kr p) := by
  unfold b; simp only [Lib.cond_bind, Lib.some_bind, Lib.none_bind, l2_bind]
def vo (a0 : Row) (k1 : Int) : Option (Int) := b Lib.big (fun r0 => some (r0)) a0 k1
def c (a0 : Row) (k1 : Int) : Bool := Option.isSome (vo a0 k1)
def v (a0 : Row) (k1 : Int) : Int := Option.getD (vo a0 k1) (0)
theorem out (a0 : Row) (k1 : Int) {x : Int} (h : vo a0 k1 = some x) : c a0 k1 = true ∧ v a0 k1 = x := by
  unfold c v; rw [h]; exact ⟨rfl, rfl⟩
theorem b_eq {R : Type} (kr : Int → Option R) (a0 : Row) (k1 : Int) (hc : c a0 k1 = true) : ∃ N, b N kr a0 k1 = kr (v a0 k1) := by
  refine ⟨Lib.big, ?_⟩
  rw [b_bind]
  have e : vo a0 k1 = some (v a0 k1) := by
    unfold c at hc; unfold v
    cases h : vo a0 k1 with
    | none => rw [h] at hc; cases hc
    | some x => rfl
  unfold vo at e
  rw [e]; rfl
end Go.FG.Pu.laws_heldEntryS

namespace Go.FG.Pu.laws_FnExactFindKept
def b {R : Type} (kr : Bool → Option R) (aD0 : Row) : Option R := bif (Pu.laws_szDisk.c aD0 1048576) then (bif (decide (Pu.laws_szDisk.v aD0 1048576 < 0)) then (kr true) else (bif (Pu.laws_toDisk.c aD0) then (bif (Pu.spec_FindKept.c (Pu.laws_toDisk.v aD0)) then (bif (Pu.laws_toDisk.c aD0) then (bif (Pu.impl_FindKept.c (Pu.laws_toDisk.v aD0)) then (bif (Pu.laws_eqEntryS.c (Pu.impl_FindKept.v (Pu.laws_toDisk.v aD0)) (Pu.spec_FindKept.v (Pu.laws_toDisk.v aD0))) then (bif (!Pu.laws_eqEntryS.v (Pu.impl_FindKept.v (Pu.laws_toDisk.v aD0)) (Pu.spec_FindKept.v (Pu.laws_toDisk.v aD0))) then (kr false) else (bif (Pu.laws_toDisk.c aD0) then (bif (Pu.laws_eqDisk.c (Pu.laws_toDisk.v aD0) (Pu.laws_toDisk.v aD0)) then (bif (!Pu.laws_eqDisk.v (Pu.laws_toDisk.v aD0) (Pu.laws_toDisk.v aD0)) then (kr false) else (bif (Pu.laws_markDisk.c (Pu.laws_toDisk.v aD0) 1) then (bif (decide ((Pu.laws_markDisk.v (Pu.laws_toDisk.v aD0) 1).1 < 0)) then (kr false) else (bif (Pu.laws_eqEntryS.c (Pu.impl_FindKept.v (Pu.laws_toDisk.v aD0)) (Pu.spec_FindKept.v (Pu.laws_toDisk.v aD0))) then (bif (!Pu.laws_eqEntryS.v (Pu.impl_FindKept.v (Pu.laws_toDisk.v aD0)) (Pu.spec_FindKept.v (Pu.laws_toDisk.v aD0))) then (kr false) else (bif (Pu.laws_markEntryS.c (Pu.impl_FindKept.v (Pu.laws_toDisk.v aD0)) 1) then (bif (Pu.laws_heldEntryS.c (Pu.laws_markEntryS.v (Pu.impl_FindKept.v (Pu.laws_toDisk.v aD0)) 1).2 1) then (bif (decide (Pu.laws_heldEntryS.v (Pu.laws_markEntryS.v (Pu.impl_FindKept.v (Pu.laws_toDisk.v aD0)) 1).2 1 < 0)) then (kr false) else (bif (Pu.laws_heldEntryS.v (Pu.laws_markEntryS.v (Pu.impl_FindKept.v (Pu.laws_toDisk.v aD0)) 1).2 1 != (Pu.laws_markEntryS.v (Pu.impl_FindKept.v (Pu.laws_toDisk.v aD0)) 1).1) then (kr false) else (bif (Pu.laws_toDisk.c aD0) then (bif (Pu.impl_FindKept.c (Pu.laws_toDisk.v aD0)) then (bif (Pu.laws_eqEntryS.c (Pu.impl_FindKept.v (Pu.laws_toDisk.v aD0)) (Pu.spec_FindKept.v (Pu.laws_toDisk.v aD0))) then (bif (!Pu.laws_eqEntryS.v (Pu.impl_FindKept.v (Pu.laws_toDisk.v aD0)) (Pu.spec_FindKept.v (Pu.laws_toDisk.v aD0))) then (kr false) else (bif (Pu.laws_heldEntryS.c (Pu.laws_markEntryS.v (Pu.impl_FindKept.v (Pu.laws_toDisk.v aD0)) 1).2 1) then (bif (decide (Pu.laws_heldEntryS.v (Pu.laws_markEntryS.v (Pu.impl_FindKept.v (Pu.laws_toDisk.v aD0)) 1).2 1 < 0)) then (kr false) else (bif (Pu.laws_heldEntryS.v (Pu.laws_markEntryS.v (Pu.impl_FindKept.v (Pu.laws_toDisk.v aD0)) 1).2 1 != (Pu.laws_markEntryS.v (Pu.impl_FindKept.v (Pu.laws_toDisk.v aD0)) 1).1) then (kr false) else (kr true))) else (none))) else (none)) else (none)) else (none)))) else (none)) else (none))) else (none))) else (none))) else (none)) else (none))) else (none)) else (none)) else (none)) else (none)) else (none))) else (none)
theorem b_bind {R : Type} (kr : Bool → Option R) (aD0 : Row) : b kr aD0 = Option.bind (b (fun r0 => some (r0)) aD0) (fun p => kr p) := by
  unfold b; simp only [Lib.cond_bind, Lib.some_bind, Lib.none_bind]
def vo (aD0 : Row) : Option (Bool) := b (fun r0 => some (r0)) aD0
def c (aD0 : Row) : Bool := Option.isSome (vo aD0)
def v (aD0 : Row) : Bool := Option.getD (vo aD0) (false)
theorem out (aD0 : Row) {x : Bool} (h : vo aD0 = some x) : c aD0 = true ∧ v aD0 = x := by
  unfold c v; rw [h]; exact ⟨rfl, rfl⟩
theorem b_eq {R : Type} (kr : Bool → Option R) (aD0 : Row) (hc : c aD0 = true) : b kr aD0 = kr (v aD0) := by
  rw [b_bind]
  have e : vo aD0 = some (v aD0) := by
    unfold c at hc; unfold v
    cases h : vo aD0 with
    | none => rw [h] at hc; cases hc
    | some x => rfl
  unfold vo at e
  rw [e]; rfl
end Go.FG.Pu.laws_FnExactFindKept

