/- Functions of the program, told as functions of numbers, texts and lists, and what each comes to. No condition but those that each states. -/
import Derived.Test.YticmocblmmahkaaLib
set_option linter.unusedVariables false
set_option linter.unusedSimpArgs false
set_option maxRecDepth 100000
namespace Go.FG.Pu.laws_big
def b {R : Type} (kr : Bool → Option R) (code0 : Row) : Option R := kr (decide ((↑(List.length code0) : Int) > 1048576))
def v (code0 : Row) : Bool := ((decide ((↑(List.length code0) : Int) > 1048576)))
theorem b_eq {R : Type} (kr : Bool → Option R) (code0 : Row) : b kr code0 = kr (v code0) := by
  first | rfl | (unfold b v; simp only [Bool.cond_eq_ite]; (repeat' split) <;> rfl)
end Go.FG.Pu.laws_big

namespace Go.FG.Pu.spec_l01New
def r3 {R : Type} (N : Nat) (g : Row → Int → Int → Option R) (k0 : Row → Int → Int → Option R) (x0 : Row) (x1 : Int) (x2 : Int) : Option R := bif (decide (x2 < (↑(List.length x0) : Int))) then (bif (decide (x2 < 4000)) then (bif (decide (0 ≤ x2) && decide (x2 < (↑(List.length x0) : Int))) then (g x0 (w64 (↑(BitVec.toNat (BitVec.and (BitVec.ofInt 64 (w64 (w64 (w64 (x1 * 131) + w64 (cvI (cellAt x0 (Int.toNat x2) 0))) + 7))) (BitVec.ofInt 64 1073741823))) : Int)) (w64 (x2 + 1))) else (none)) else (k0 x0 x1 x2)) else (k0 x0 x1 x2)
def l3 {R : Type} (N : Nat) (k0 : Row → Int → Int → Option R) : Nat → Row → Int → Int → Option R
  | 0 => (fun _ _ _ => none)
  | n + 1 => (fun x0 x1 x2 => r3 N (l3 N k0 n) k0 x0 x1 x2)
def b {R : Type} (N : Nat) (kr : Row → Int → Int → Option R) (code0 : Row) : Option R := l3 N (fun y3 y4 y5 => kr y3 0 y4) N code0 (w64 (34901 + (↑(List.length code0) : Int))) 0
theorem q3_bind {R S : Type} (f : R → Option S) (N : Nat) (k0 : Row → Int → Int → Option R) : ∀ n : Nat, (∀ (x0 : Row) (x1 : Int) (x2 : Int), Option.bind (l3 N k0 n x0 x1 x2) f = l3 N (fun y0 y1 y2 => (Option.bind (k0 y0 y1 y2) f)) n x0 x1 x2) := by
  intro n
  induction n with
  | zero => exact (fun _ _ _ => rfl)
  | succ n ih =>
    intro x0 x1 x2
    simp only [l3, r3, Lib.cond_bind, Lib.some_bind, Lib.none_bind, ih]
theorem l3_bind {R S : Type} (f : R → Option S) (N : Nat) (k0 : Row → Int → Int → Option R) (n : Nat) (x0 : Row) (x1 : Int) (x2 : Int) : Option.bind (l3 N k0 n x0 x1 x2) f = l3 N (fun y0 y1 y2 => (Option.bind (k0 y0 y1 y2) f)) n x0 x1 x2 := (q3_bind f N k0 n) x0 x1 x2
theorem b_bind {R : Type} (N : Nat) (kr : Row → Int → Int → Option R) (code0 : Row) : b N kr code0 = Option.bind (b N (fun r0 r1 r2 => some (r0, r1, r2)) code0) (fun p => kr p.1 p.2.1 p.2.2) := by
  unfold b; simp only [Lib.cond_bind, Lib.some_bind, Lib.none_bind, l3_bind]
def vo (code0 : Row) : Option (Row × Int × Int) := b Lib.big (fun r0 r1 r2 => some (r0, r1, r2)) code0
def c (code0 : Row) : Bool := Option.isSome (vo code0)
def v (code0 : Row) : Row × Int × Int := Option.getD (vo code0) ([], 0, 0)
theorem out (code0 : Row) {x : Row × Int × Int} (h : vo code0 = some x) : c code0 = true ∧ v code0 = x := by
  unfold c v; rw [h]; exact ⟨rfl, rfl⟩
theorem b_eq {R : Type} (kr : Row → Int → Int → Option R) (code0 : Row) (hc : c code0 = true) : ∃ N, b N kr code0 = kr ((v code0).1) ((v code0).2.1) ((v code0).2.2) := by
  refine ⟨Lib.big, ?_⟩
  rw [b_bind]
  have e : vo code0 = some (v code0) := by
    unfold c at hc; unfold v
    cases h : vo code0 with
    | none => rw [h] at hc; cases hc
    | some x => rfl
  unfold vo at e
  rw [e]; rfl
end Go.FG.Pu.spec_l01New

namespace Go.FG.Pu.spec_StreamNew
def b {R : Type} (kr : Int → ByteArray → Row → Option R)  : Option R := kr 1 ({ data := #[] }) []
def v  : Int × ByteArray × Row := (1, ({ data := #[] }), [])
theorem b_eq {R : Type} (kr : Int → ByteArray → Row → Option R)  : b kr  = kr v.1 v.2.1 v.2.2 := by
  first | rfl | (unfold b v; simp only [Bool.cond_eq_ite]; (repeat' split) <;> rfl)
end Go.FG.Pu.spec_StreamNew

namespace Go.FG.Pu.spec_l01Byte
def b {R : Type} (kr : Int → Row → Int → Int → Option R) (c0_0 : Row) (c0_1 : Int) (c0_2 : Int) : Option R := bif (decide (c0_1 < (↑(List.length c0_0) : Int))) then (bif (decide (0 ≤ c0_1) && decide (c0_1 < (↑(List.length c0_0) : Int))) then (kr (w64 (↑(BitVec.toNat (BitVec.and (BitVec.ofInt 64 (w64 (w64 (↑(BitVec.toNat (BitVec.and (BitVec.ofInt 64 (w64 (↑(BitVec.toNat (BitVec.xor (BitVec.ofInt 64 (Int.fdiv (w64 (w64 (c0_2 * 6364136223846793005) + 1442695040888963407)) (Int.pow 2 (if Int.toNat 33 ≤ 64 then Int.toNat 33 else 64)))) (BitVec.ofInt 64 (Int.fdiv (w64 (w64 (c0_2 * 6364136223846793005) + 1442695040888963407)) (Int.pow 2 (if Int.toNat 45 ≤ 64 then Int.toNat 45 else 64)))))) : Int))) (BitVec.ofInt 64 255))) : Int) + w64 (cvI (cellAt c0_0 (Int.toNat c0_1) 0))))) (BitVec.ofInt 64 255))) : Int)) c0_0 (w64 (c0_1 + 1)) (w64 (w64 (c0_2 * 6364136223846793005) + 1442695040888963407))) else (none)) else (kr (w64 (↑(BitVec.toNat (BitVec.and (BitVec.ofInt 64 (w64 (↑(BitVec.toNat (BitVec.xor (BitVec.ofInt 64 (Int.fdiv (w64 (w64 (c0_2 * 6364136223846793005) + 1442695040888963407)) (Int.pow 2 (if Int.toNat 33 ≤ 64 then Int.toNat 33 else 64)))) (BitVec.ofInt 64 (Int.fdiv (w64 (w64 (c0_2 * 6364136223846793005) + 1442695040888963407)) (Int.pow 2 (if Int.toNat 45 ≤ 64 then Int.toNat 45 else 64)))))) : Int))) (BitVec.ofInt 64 255))) : Int)) c0_0 c0_1 (w64 (w64 (c0_2 * 6364136223846793005) + 1442695040888963407)))
theorem b_bind {R : Type} (kr : Int → Row → Int → Int → Option R) (c0_0 : Row) (c0_1 : Int) (c0_2 : Int) : b kr c0_0 c0_1 c0_2 = Option.bind (b (fun r0 r1 r2 r3 => some (r0, r1, r2, r3)) c0_0 c0_1 c0_2) (fun p => kr p.1 p.2.1 p.2.2.1 p.2.2.2) := by
  unfold b; simp only [Lib.cond_bind, Lib.some_bind, Lib.none_bind]
def vo (c0_0 : Row) (c0_1 : Int) (c0_2 : Int) : Option (Int × Row × Int × Int) := b (fun r0 r1 r2 r3 => some (r0, r1, r2, r3)) c0_0 c0_1 c0_2
def c (c0_0 : Row) (c0_1 : Int) (c0_2 : Int) : Bool := Option.isSome (vo c0_0 c0_1 c0_2)
def v (c0_0 : Row) (c0_1 : Int) (c0_2 : Int) : Int × Row × Int × Int := Option.getD (vo c0_0 c0_1 c0_2) (0, [], 0, 0)
theorem out (c0_0 : Row) (c0_1 : Int) (c0_2 : Int) {x : Int × Row × Int × Int} (h : vo c0_0 c0_1 c0_2 = some x) : c c0_0 c0_1 c0_2 = true ∧ v c0_0 c0_1 c0_2 = x := by
  unfold c v; rw [h]; exact ⟨rfl, rfl⟩
theorem b_eq {R : Type} (kr : Int → Row → Int → Int → Option R) (c0_0 : Row) (c0_1 : Int) (c0_2 : Int) (hc : c c0_0 c0_1 c0_2 = true) : b kr c0_0 c0_1 c0_2 = kr ((v c0_0 c0_1 c0_2).1) ((v c0_0 c0_1 c0_2).2.1) ((v c0_0 c0_1 c0_2).2.2.1) ((v c0_0 c0_1 c0_2).2.2.2) := by
  rw [b_bind]
  have e : vo c0_0 c0_1 c0_2 = some (v c0_0 c0_1 c0_2) := by
    unfold c at hc; unfold v
    cases h : vo c0_0 c0_1 c0_2 with
    | none => rw [h] at hc; cases hc
    | some x => rfl
  unfold vo at e
  rw [e]; rfl
end Go.FG.Pu.spec_l01Byte

namespace Go.FG.Pu.spec_l01Below
def b {R : Type} (kr : Int → Row → Int → Int → Option R) (c0_0 : Row) (c0_1 : Int) (c0_2 : Int) (n1 : Int) : Option R := bif (decide (n1 ≤ 0)) then (kr 0 c0_0 c0_1 c0_2) else (bif (decide (n1 ≤ 256)) then (bif (Pu.spec_l01Byte.c c0_0 c0_1 c0_2) then (bif (!decide (n1 = 0)) then (kr (Int.tmod (Pu.spec_l01Byte.v c0_0 c0_1 c0_2).1 n1) ((Pu.spec_l01Byte.v c0_0 c0_1 c0_2).2.1) ((Pu.spec_l01Byte.v c0_0 c0_1 c0_2).2.2.1) ((Pu.spec_l01Byte.v c0_0 c0_1 c0_2).2.2.2)) else (none)) else (none)) else (bif (Pu.spec_l01Byte.c c0_0 c0_1 c0_2) then (bif (Pu.spec_l01Byte.c (Pu.spec_l01Byte.v c0_0 c0_1 c0_2).2.1 (Pu.spec_l01Byte.v c0_0 c0_1 c0_2).2.2.1 (Pu.spec_l01Byte.v c0_0 c0_1 c0_2).2.2.2) then (bif (Pu.spec_l01Byte.c (Pu.spec_l01Byte.v (Pu.spec_l01Byte.v c0_0 c0_1 c0_2).2.1 (Pu.spec_l01Byte.v c0_0 c0_1 c0_2).2.2.1 (Pu.spec_l01Byte.v c0_0 c0_1 c0_2).2.2.2).2.1 (Pu.spec_l01Byte.v (Pu.spec_l01Byte.v c0_0 c0_1 c0_2).2.1 (Pu.spec_l01Byte.v c0_0 c0_1 c0_2).2.2.1 (Pu.spec_l01Byte.v c0_0 c0_1 c0_2).2.2.2).2.2.1 (Pu.spec_l01Byte.v (Pu.spec_l01Byte.v c0_0 c0_1 c0_2).2.1 (Pu.spec_l01Byte.v c0_0 c0_1 c0_2).2.2.1 (Pu.spec_l01Byte.v c0_0 c0_1 c0_2).2.2.2).2.2.2) then (bif (Pu.spec_l01Byte.c (Pu.spec_l01Byte.v (Pu.spec_l01Byte.v (Pu.spec_l01Byte.v c0_0 c0_1 c0_2).2.1 (Pu.spec_l01Byte.v c0_0 c0_1 c0_2).2.2.1 (Pu.spec_l01Byte.v c0_0 c0_1 c0_2).2.2.2).2.1 (Pu.spec_l01Byte.v (Pu.spec_l01Byte.v c0_0 c0_1 c0_2).2.1 (Pu.spec_l01Byte.v c0_0 c0_1 c0_2).2.2.1 (Pu.spec_l01Byte.v c0_0 c0_1 c0_2).2.2.2).2.2.1 (Pu.spec_l01Byte.v (Pu.spec_l01Byte.v c0_0 c0_1 c0_2).2.1 (Pu.spec_l01Byte.v c0_0 c0_1 c0_2).2.2.1 (Pu.spec_l01Byte.v c0_0 c0_1 c0_2).2.2.2).2.2.2).2.1 (Pu.spec_l01Byte.v (Pu.spec_l01Byte.v (Pu.spec_l01Byte.v c0_0 c0_1 c0_2).2.1 (Pu.spec_l01Byte.v c0_0 c0_1 c0_2).2.2.1 (Pu.spec_l01Byte.v c0_0 c0_1 c0_2).2.2.2).2.1 (Pu.spec_l01Byte.v (Pu.spec_l01Byte.v c0_0 c0_1 c0_2).2.1 (Pu.spec_l01Byte.v c0_0 c0_1 c0_2).2.2.1 (Pu.spec_l01Byte.v c0_0 c0_1 c0_2).2.2.2).2.2.1 (Pu.spec_l01Byte.v (Pu.spec_l01Byte.v c0_0 c0_1 c0_2).2.1 (Pu.spec_l01Byte.v c0_0 c0_1 c0_2).2.2.1 (Pu.spec_l01Byte.v c0_0 c0_1 c0_2).2.2.2).2.2.2).2.2.1 (Pu.spec_l01Byte.v (Pu.spec_l01Byte.v (Pu.spec_l01Byte.v c0_0 c0_1 c0_2).2.1 (Pu.spec_l01Byte.v c0_0 c0_1 c0_2).2.2.1 (Pu.spec_l01Byte.v c0_0 c0_1 c0_2).2.2.2).2.1 (Pu.spec_l01Byte.v (Pu.spec_l01Byte.v c0_0 c0_1 c0_2).2.1 (Pu.spec_l01Byte.v c0_0 c0_1 c0_2).2.2.1 (Pu.spec_l01Byte.v c0_0 c0_1 c0_2).2.2.2).2.2.1 (Pu.spec_l01Byte.v (Pu.spec_l01Byte.v c0_0 c0_1 c0_2).2.1 (Pu.spec_l01Byte.v c0_0 c0_1 c0_2).2.2.1 (Pu.spec_l01Byte.v c0_0 c0_1 c0_2).2.2.2).2.2.2).2.2.2) then (bif (!decide (n1 = 0)) then (kr (Int.tmod (w64 (w64 (w64 (w64 ((Pu.spec_l01Byte.v c0_0 c0_1 c0_2).1 * 16777216) + w64 ((Pu.spec_l01Byte.v (Pu.spec_l01Byte.v c0_0 c0_1 c0_2).2.1 (Pu.spec_l01Byte.v c0_0 c0_1 c0_2).2.2.1 (Pu.spec_l01Byte.v c0_0 c0_1 c0_2).2.2.2).1 * 65536)) + w64 ((Pu.spec_l01Byte.v (Pu.spec_l01Byte.v (Pu.spec_l01Byte.v c0_0 c0_1 c0_2).2.1 (Pu.spec_l01Byte.v c0_0 c0_1 c0_2).2.2.1 (Pu.spec_l01Byte.v c0_0 c0_1 c0_2).2.2.2).2.1 (Pu.spec_l01Byte.v (Pu.spec_l01Byte.v c0_0 c0_1 c0_2).2.1 (Pu.spec_l01Byte.v c0_0 c0_1 c0_2).2.2.1 (Pu.spec_l01Byte.v c0_0 c0_1 c0_2).2.2.2).2.2.1 (Pu.spec_l01Byte.v (Pu.spec_l01Byte.v c0_0 c0_1 c0_2).2.1 (Pu.spec_l01Byte.v c0_0 c0_1 c0_2).2.2.1 (Pu.spec_l01Byte.v c0_0 c0_1 c0_2).2.2.2).2.2.2).1 * 256)) + (Pu.spec_l01Byte.v (Pu.spec_l01Byte.v (Pu.spec_l01Byte.v (Pu.spec_l01Byte.v c0_0 c0_1 c0_2).2.1 (Pu.spec_l01Byte.v c0_0 c0_1 c0_2).2.2.1 (Pu.spec_l01Byte.v c0_0 c0_1 c0_2).2.2.2).2.1 (Pu.spec_l01Byte.v (Pu.spec_l01Byte.v c0_0 c0_1 c0_2).2.1 (Pu.spec_l01Byte.v c0_0 c0_1 c0_2).2.2.1 (Pu.spec_l01Byte.v c0_0 c0_1 c0_2).2.2.2).2.2.1 (Pu.spec_l01Byte.v (Pu.spec_l01Byte.v c0_0 c0_1 c0_2).2.1 (Pu.spec_l01Byte.v c0_0 c0_1 c0_2).2.2.1 (Pu.spec_l01Byte.v c0_0 c0_1 c0_2).2.2.2).2.2.2).2.1 (Pu.spec_l01Byte.v (Pu.spec_l01Byte.v (Pu.spec_l01Byte.v c0_0 c0_1 c0_2).2.1 (Pu.spec_l01Byte.v c0_0 c0_1 c0_2).2.2.1 (Pu.spec_l01Byte.v c0_0 c0_1 c0_2).2.2.2).2.1 (Pu.spec_l01Byte.v (Pu.spec_l01Byte.v c0_0 c0_1 c0_2).2.1 (Pu.spec_l01Byte.v c0_0 c0_1 c0_2).2.2.1 (Pu.spec_l01Byte.v c0_0 c0_1 c0_2).2.2.2).2.2.1 (Pu.spec_l01Byte.v (Pu.spec_l01Byte.v c0_0 c0_1 c0_2).2.1 (Pu.spec_l01Byte.v c0_0 c0_1 c0_2).2.2.1 (Pu.spec_l01Byte.v c0_0 c0_1 c0_2).2.2.2).2.2.2).2.2.1 (Pu.spec_l01Byte.v (Pu.spec_l01Byte.v (Pu.spec_l01Byte.v c0_0 c0_1 c0_2).2.1 (Pu.spec_l01Byte.v c0_0 c0_1 c0_2).2.2.1 (Pu.spec_l01Byte.v c0_0 c0_1 c0_2).2.2.2).2.1 (Pu.spec_l01Byte.v (Pu.spec_l01Byte.v c0_0 c0_1 c0_2).2.1 (Pu.spec_l01Byte.v c0_0 c0_1 c0_2).2.2.1 (Pu.spec_l01Byte.v c0_0 c0_1 c0_2).2.2.2).2.2.1 (Pu.spec_l01Byte.v (Pu.spec_l01Byte.v c0_0 c0_1 c0_2).2.1 (Pu.spec_l01Byte.v c0_0 c0_1 c0_2).2.2.1 (Pu.spec_l01Byte.v c0_0 c0_1 c0_2).2.2.2).2.2.2).2.2.2).1)) n1) ((Pu.spec_l01Byte.v (Pu.spec_l01Byte.v (Pu.spec_l01Byte.v (Pu.spec_l01Byte.v c0_0 c0_1 c0_2).2.1 (Pu.spec_l01Byte.v c0_0 c0_1 c0_2).2.2.1 (Pu.spec_l01Byte.v c0_0 c0_1 c0_2).2.2.2).2.1 (Pu.spec_l01Byte.v (Pu.spec_l01Byte.v c0_0 c0_1 c0_2).2.1 (Pu.spec_l01Byte.v c0_0 c0_1 c0_2).2.2.1 (Pu.spec_l01Byte.v c0_0 c0_1 c0_2).2.2.2).2.2.1 (Pu.spec_l01Byte.v (Pu.spec_l01Byte.v c0_0 c0_1 c0_2).2.1 (Pu.spec_l01Byte.v c0_0 c0_1 c0_2).2.2.1 (Pu.spec_l01Byte.v c0_0 c0_1 c0_2).2.2.2).2.2.2).2.1 (Pu.spec_l01Byte.v (Pu.spec_l01Byte.v (Pu.spec_l01Byte.v c0_0 c0_1 c0_2).2.1 (Pu.spec_l01Byte.v c0_0 c0_1 c0_2).2.2.1 (Pu.spec_l01Byte.v c0_0 c0_1 c0_2).2.2.2).2.1 (Pu.spec_l01Byte.v (Pu.spec_l01Byte.v c0_0 c0_1 c0_2).2.1 (Pu.spec_l01Byte.v c0_0 c0_1 c0_2).2.2.1 (Pu.spec_l01Byte.v c0_0 c0_1 c0_2).2.2.2).2.2.1 (Pu.spec_l01Byte.v (Pu.spec_l01Byte.v c0_0 c0_1 c0_2).2.1 (Pu.spec_l01Byte.v c0_0 c0_1 c0_2).2.2.1 (Pu.spec_l01Byte.v c0_0 c0_1 c0_2).2.2.2).2.2.2).2.2.1 (Pu.spec_l01Byte.v (Pu.spec_l01Byte.v (Pu.spec_l01Byte.v c0_0 c0_1 c0_2).2.1 (Pu.spec_l01Byte.v c0_0 c0_1 c0_2).2.2.1 (Pu.spec_l01Byte.v c0_0 c0_1 c0_2).2.2.2).2.1 (Pu.spec_l01Byte.v (Pu.spec_l01Byte.v c0_0 c0_1 c0_2).2.1 (Pu.spec_l01Byte.v c0_0 c0_1 c0_2).2.2.1 (Pu.spec_l01Byte.v c0_0 c0_1 c0_2).2.2.2).2.2.1 (Pu.spec_l01Byte.v (Pu.spec_l01Byte.v c0_0 c0_1 c0_2).2.1 (Pu.spec_l01Byte.v c0_0 c0_1 c0_2).2.2.1 (Pu.spec_l01Byte.v c0_0 c0_1 c0_2).2.2.2).2.2.2).2.2.2).2.1) ((Pu.spec_l01Byte.v (Pu.spec_l01Byte.v (Pu.spec_l01Byte.v (Pu.spec_l01Byte.v c0_0 c0_1 c0_2).2.1 (Pu.spec_l01Byte.v c0_0 c0_1 c0_2).2.2.1 (Pu.spec_l01Byte.v c0_0 c0_1 c0_2).2.2.2).2.1 (Pu.spec_l01Byte.v (Pu.spec_l01Byte.v c0_0 c0_1 c0_2).2.1 (Pu.spec_l01Byte.v c0_0 c0_1 c0_2).2.2.1 (Pu.spec_l01Byte.v c0_0 c0_1 c0_2).2.2.2).2.2.1 (Pu.spec_l01Byte.v (Pu.spec_l01Byte.v c0_0 c0_1 c0_2).2.1 (Pu.spec_l01Byte.v c0_0 c0_1 c0_2).2.2.1 (Pu.spec_l01Byte.v c0_0 c0_1 c0_2).2.2.2).2.2.2).2.1 (Pu.spec_l01Byte.v (Pu.spec_l01Byte.v (Pu.spec_l01Byte.v c0_0 c0_1 c0_2).2.1 (Pu.spec_l01Byte.v c0_0 c0_1 c0_2).2.2.1 (Pu.spec_l01Byte.v c0_0 c0_1 c0_2).2.2.2).2.1 (Pu.spec_l01Byte.v (Pu.spec_l01Byte.v c0_0 c0_1 c0_2).2.1 (Pu.spec_l01Byte.v c0_0 c0_1 c0_2).2.2.1 (Pu.spec_l01Byte.v c0_0 c0_1 c0_2).2.2.2).2.2.1 (Pu.spec_l01Byte.v (Pu.spec_l01Byte.v c0_0 c0_1 c0_2).2.1 (Pu.spec_l01Byte.v c0_0 c0_1 c0_2).2.2.1 (Pu.spec_l01Byte.v c0_0 c0_1 c0_2).2.2.2).2.2.2).2.2.1 (Pu.spec_l01Byte.v (Pu.spec_l01Byte.v (Pu.spec_l01Byte.v c0_0 c0_1 c0_2).2.1 (Pu.spec_l01Byte.v c0_0 c0_1 c0_2).2.2.1 (Pu.spec_l01Byte.v c0_0 c0_1 c0_2).2.2.2).2.1 (Pu.spec_l01Byte.v (Pu.spec_l01Byte.v c0_0 c0_1 c0_2).2.1 (Pu.spec_l01Byte.v c0_0 c0_1 c0_2).2.2.1 (Pu.spec_l01Byte.v c0_0 c0_1 c0_2).2.2.2).2.2.1 (Pu.spec_l01Byte.v (Pu.spec_l01Byte.v c0_0 c0_1 c0_2).2.1 (Pu.spec_l01Byte.v c0_0 c0_1 c0_2).2.2.1 (Pu.spec_l01Byte.v c0_0 c0_1 c0_2).2.2.2).2.2.2).2.2.2).2.2.1) ((Pu.spec_l01Byte.v (Pu.spec_l01Byte.v (Pu.spec_l01Byte.v (Pu.spec_l01Byte.v c0_0 c0_1 c0_2).2.1 (Pu.spec_l01Byte.v c0_0 c0_1 c0_2).2.2.1 (Pu.spec_l01Byte.v c0_0 c0_1 c0_2).2.2.2).2.1 (Pu.spec_l01Byte.v (Pu.spec_l01Byte.v c0_0 c0_1 c0_2).2.1 (Pu.spec_l01Byte.v c0_0 c0_1 c0_2).2.2.1 (Pu.spec_l01Byte.v c0_0 c0_1 c0_2).2.2.2).2.2.1 (Pu.spec_l01Byte.v (Pu.spec_l01Byte.v c0_0 c0_1 c0_2).2.1 (Pu.spec_l01Byte.v c0_0 c0_1 c0_2).2.2.1 (Pu.spec_l01Byte.v c0_0 c0_1 c0_2).2.2.2).2.2.2).2.1 (Pu.spec_l01Byte.v (Pu.spec_l01Byte.v (Pu.spec_l01Byte.v c0_0 c0_1 c0_2).2.1 (Pu.spec_l01Byte.v c0_0 c0_1 c0_2).2.2.1 (Pu.spec_l01Byte.v c0_0 c0_1 c0_2).2.2.2).2.1 (Pu.spec_l01Byte.v (Pu.spec_l01Byte.v c0_0 c0_1 c0_2).2.1 (Pu.spec_l01Byte.v c0_0 c0_1 c0_2).2.2.1 (Pu.spec_l01Byte.v c0_0 c0_1 c0_2).2.2.2).2.2.1 (Pu.spec_l01Byte.v (Pu.spec_l01Byte.v c0_0 c0_1 c0_2).2.1 (Pu.spec_l01Byte.v c0_0 c0_1 c0_2).2.2.1 (Pu.spec_l01Byte.v c0_0 c0_1 c0_2).2.2.2).2.2.2).2.2.1 (Pu.spec_l01Byte.v (Pu.spec_l01Byte.v (Pu.spec_l01Byte.v c0_0 c0_1 c0_2).2.1 (Pu.spec_l01Byte.v c0_0 c0_1 c0_2).2.2.1 (Pu.spec_l01Byte.v c0_0 c0_1 c0_2).2.2.2).2.1 (Pu.spec_l01Byte.v (Pu.spec_l01Byte.v c0_0 c0_1 c0_2).2.1 (Pu.spec_l01Byte.v c0_0 c0_1 c0_2).2.2.1 (Pu.spec_l01Byte.v c0_0 c0_1 c0_2).2.2.2).2.2.1 (Pu.spec_l01Byte.v (Pu.spec_l01Byte.v c0_0 c0_1 c0_2).2.1 (Pu.spec_l01Byte.v c0_0 c0_1 c0_2).2.2.1 (Pu.spec_l01Byte.v c0_0 c0_1 c0_2).2.2.2).2.2.2).2.2.2).2.2.2)) else (none)) else (none)) else (none)) else (none)) else (none)))
theorem b_bind {R : Type} (kr : Int → Row → Int → Int → Option R) (c0_0 : Row) (c0_1 : Int) (c0_2 : Int) (n1 : Int) : b kr c0_0 c0_1 c0_2 n1 = Option.bind (b (fun r0 r1 r2 r3 => some (r0, r1, r2, r3)) c0_0 c0_1 c0_2 n1) (fun p => kr p.1 p.2.1 p.2.2.1 p.2.2.2) := by
  unfold b; simp only [Lib.cond_bind, Lib.some_bind, Lib.none_bind]
def vo (c0_0 : Row) (c0_1 : Int) (c0_2 : Int) (n1 : Int) : Option (Int × Row × Int × Int) := b (fun r0 r1 r2 r3 => some (r0, r1, r2, r3)) c0_0 c0_1 c0_2 n1
def c (c0_0 : Row) (c0_1 : Int) (c0_2 : Int) (n1 : Int) : Bool := Option.isSome (vo c0_0 c0_1 c0_2 n1)
def v (c0_0 : Row) (c0_1 : Int) (c0_2 : Int) (n1 : Int) : Int × Row × Int × Int := Option.getD (vo c0_0 c0_1 c0_2 n1) (0, [], 0, 0)
theorem out (c0_0 : Row) (c0_1 : Int) (c0_2 : Int) (n1 : Int) {x : Int × Row × Int × Int} (h : vo c0_0 c0_1 c0_2 n1 = some x) : c c0_0 c0_1 c0_2 n1 = true ∧ v c0_0 c0_1 c0_2 n1 = x := by
  unfold c v; rw [h]; exact ⟨rfl, rfl⟩
theorem b_eq {R : Type} (kr : Int → Row → Int → Int → Option R) (c0_0 : Row) (c0_1 : Int) (c0_2 : Int) (n1 : Int) (hc : c c0_0 c0_1 c0_2 n1 = true) : b kr c0_0 c0_1 c0_2 n1 = kr ((v c0_0 c0_1 c0_2 n1).1) ((v c0_0 c0_1 c0_2 n1).2.1) ((v c0_0 c0_1 c0_2 n1).2.2.1) ((v c0_0 c0_1 c0_2 n1).2.2.2) := by
  rw [b_bind]
  have e : vo c0_0 c0_1 c0_2 n1 = some (v c0_0 c0_1 c0_2 n1) := by
    unfold c at hc; unfold v
    cases h : vo c0_0 c0_1 c0_2 n1 with
    | none => rw [h] at hc; cases hc
    | some x => rfl
  unfold vo at e
  rw [e]; rfl
end Go.FG.Pu.spec_l01Below

namespace Go.FG.Pu.spec_l01Text
def r5 {R : Type} (N : Nat) (g : Int → Int → Row → Int → Int → Row → Option R) (k0 : Int → Int → Row → Int → Int → Row → Option R) (x0 : Int) (x1 : Int) (x2 : Row) (x3 : Int) (x4 : Int) (x5 : Row) : Option R := bif (decide (x1 < x0)) then (bif (Pu.spec_l01Byte.c x2 x3 x4) then (bif (roomy (List.length x5 + List.length (List.set (zeros [Ck.i IntKind.u8] 1) 0 [CV.i IntKind.u8 (IntKind.wrap IntKind.u8 (Pu.spec_l01Byte.v x2 x3 x4).1)])) 1) then (g x0 (w64 (x1 + 1)) ((Pu.spec_l01Byte.v x2 x3 x4).2.1) ((Pu.spec_l01Byte.v x2 x3 x4).2.2.1) ((Pu.spec_l01Byte.v x2 x3 x4).2.2.2) (x5 ++ List.set (zeros [Ck.i IntKind.u8] 1) 0 [CV.i IntKind.u8 (IntKind.wrap IntKind.u8 (Pu.spec_l01Byte.v x2 x3 x4).1)])) else (none)) else (none)) else (k0 x0 x1 x2 x3 x4 x5)
def l5 {R : Type} (N : Nat) (k0 : Int → Int → Row → Int → Int → Row → Option R) : Nat → Int → Int → Row → Int → Int → Row → Option R
  | 0 => (fun _ _ _ _ _ _ => none)
  | n + 1 => (fun x0 x1 x2 x3 x4 x5 => r5 N (l5 N k0 n) k0 x0 x1 x2 x3 x4 x5)
def b {R : Type} (N : Nat) (kr : ByteArray → Row → Int → Int → Option R) (c0_0 : Row) (c0_1 : Int) (c0_2 : Int) (n1 : Int) : Option R := bif (decide (n1 > 5000)) then (l5 N (fun y6 y7 y8 y9 y10 y11 => bif (decide (List.length y11 ≤ 4611686018427387904)) then (kr (bytesOf y11) y8 y9 y10) else (none)) N 5000 0 c0_0 c0_1 c0_2 (zeros [Ck.i IntKind.u8] 0)) else (l5 N (fun y12 y13 y14 y15 y16 y17 => bif (decide (List.length y17 ≤ 4611686018427387904)) then (kr (bytesOf y17) y14 y15 y16) else (none)) N n1 0 c0_0 c0_1 c0_2 (zeros [Ck.i IntKind.u8] 0))
theorem q5_bind {R S : Type} (f : R → Option S) (N : Nat) (k0 : Int → Int → Row → Int → Int → Row → Option R) : ∀ n : Nat, (∀ (x0 : Int) (x1 : Int) (x2 : Row) (x3 : Int) (x4 : Int) (x5 : Row), Option.bind (l5 N k0 n x0 x1 x2 x3 x4 x5) f = l5 N (fun y0 y1 y2 y3 y4 y5 => (Option.bind (k0 y0 y1 y2 y3 y4 y5) f)) n x0 x1 x2 x3 x4 x5) := by
  intro n
  induction n with
  | zero => exact (fun _ _ _ _ _ _ => rfl)
  | succ n ih =>
    intro x0 x1 x2 x3 x4 x5
    simp only [l5, r5, Lib.cond_bind, Lib.some_bind, Lib.none_bind, ih]
theorem l5_bind {R S : Type} (f : R → Option S) (N : Nat) (k0 : Int → Int → Row → Int → Int → Row → Option R) (n : Nat) (x0 : Int) (x1 : Int) (x2 : Row) (x3 : Int) (x4 : Int) (x5 : Row) : Option.bind (l5 N k0 n x0 x1 x2 x3 x4 x5) f = l5 N (fun y0 y1 y2 y3 y4 y5 => (Option.bind (k0 y0 y1 y2 y3 y4 y5) f)) n x0 x1 x2 x3 x4 x5 := (q5_bind f N k0 n) x0 x1 x2 x3 x4 x5
theorem b_bind {R : Type} (N : Nat) (kr : ByteArray → Row → Int → Int → Option R) (c0_0 : Row) (c0_1 : Int) (c0_2 : Int) (n1 : Int) : b N kr c0_0 c0_1 c0_2 n1 = Option.bind (b N (fun r0 r1 r2 r3 => some (r0, r1, r2, r3)) c0_0 c0_1 c0_2 n1) (fun p => kr p.1 p.2.1 p.2.2.1 p.2.2.2) := by
  unfold b; simp only [Lib.cond_bind, Lib.some_bind, Lib.none_bind, l5_bind]
def vo (c0_0 : Row) (c0_1 : Int) (c0_2 : Int) (n1 : Int) : Option (ByteArray × Row × Int × Int) := b Lib.big (fun r0 r1 r2 r3 => some (r0, r1, r2, r3)) c0_0 c0_1 c0_2 n1
def c (c0_0 : Row) (c0_1 : Int) (c0_2 : Int) (n1 : Int) : Bool := Option.isSome (vo c0_0 c0_1 c0_2 n1)
def v (c0_0 : Row) (c0_1 : Int) (c0_2 : Int) (n1 : Int) : ByteArray × Row × Int × Int := Option.getD (vo c0_0 c0_1 c0_2 n1) (⟨#[]⟩, [], 0, 0)
theorem out (c0_0 : Row) (c0_1 : Int) (c0_2 : Int) (n1 : Int) {x : ByteArray × Row × Int × Int} (h : vo c0_0 c0_1 c0_2 n1 = some x) : c c0_0 c0_1 c0_2 n1 = true ∧ v c0_0 c0_1 c0_2 n1 = x := by
  unfold c v; rw [h]; exact ⟨rfl, rfl⟩
theorem b_eq {R : Type} (kr : ByteArray → Row → Int → Int → Option R) (c0_0 : Row) (c0_1 : Int) (c0_2 : Int) (n1 : Int) (hc : c c0_0 c0_1 c0_2 n1 = true) : ∃ N, b N kr c0_0 c0_1 c0_2 n1 = kr ((v c0_0 c0_1 c0_2 n1).1) ((v c0_0 c0_1 c0_2 n1).2.1) ((v c0_0 c0_1 c0_2 n1).2.2.1) ((v c0_0 c0_1 c0_2 n1).2.2.2) := by
  refine ⟨Lib.big, ?_⟩
  rw [b_bind]
  have e : vo c0_0 c0_1 c0_2 n1 = some (v c0_0 c0_1 c0_2 n1) := by
    unfold c at hc; unfold v
    cases h : vo c0_0 c0_1 c0_2 n1 with
    | none => rw [h] at hc; cases hc
    | some x => rfl
  unfold vo at e
  rw [e]; rfl
end Go.FG.Pu.spec_l01Text

namespace Go.FG.Pu.spec_l14Copy
def b {R : Type} (kr : Int → ByteArray → Row → Option R) (s0_0 : Int) (s0_1 : ByteArray) (s0_2 : Row) : Option R := bif (roomy (List.length (zeros [Ck.i IntKind.i64, Ck.i IntKind.i64] 0) + List.length s0_2) 16) then (kr s0_0 s0_1 (zeros [Ck.i IntKind.i64, Ck.i IntKind.i64] 0 ++ s0_2)) else (none)
def v (s0_0 : Int) (s0_1 : ByteArray) (s0_2 : Row) : Int × ByteArray × Row := (s0_0, s0_1, s0_2)
def c (s0_0 : Int) (s0_1 : ByteArray) (s0_2 : Row) : Bool := decide (s0_2.length ≤ 4294967296)
theorem b_eq {R : Type} (kr : Int → ByteArray → Row → Option R) (s0_0 : Int) (s0_1 : ByteArray) (s0_2 : Row) (hc : c s0_0 s0_1 s0_2 = true) : b kr s0_0 s0_1 s0_2 = kr (v s0_0 s0_1 s0_2).1 (v s0_0 s0_1 s0_2).2.1 (v s0_0 s0_1 s0_2).2.2 := by
  have h : s0_2.length ≤ 4294967296 := of_decide_eq_true hc
  unfold b
  rw [show List.length (zeros [Ck.i IntKind.i64, Ck.i IntKind.i64] 0) + s0_2.length = s0_2.length by simp [zeros], Lib.roomy_of (by omega) (by omega)]
  rfl
end Go.FG.Pu.spec_l14Copy

namespace Go.FG.Pu.spec_l01In
def b {R : Type} (kr : Bool → Option R) (x0 : Int) (least1 : Int) (most2 : Int) : Option R := bif (decide (x0 ≥ least1)) then (kr (decide (x0 ≤ most2))) else (kr false)
def v (x0 : Int) (least1 : Int) (most2 : Int) : Bool := bif (decide (x0 ≥ least1)) then (((decide (x0 ≤ most2)))) else ((false))
theorem b_eq {R : Type} (kr : Bool → Option R) (x0 : Int) (least1 : Int) (most2 : Int) : b kr x0 least1 most2 = kr (v x0 least1 most2) := by
  first | rfl | (unfold b v; simp only [Bool.cond_eq_ite]; (repeat' split) <;> rfl)
end Go.FG.Pu.spec_l01In

namespace Go.FG.Pu.spec_StreamOk
def r2 {R : Type} (N : Nat) (g : Bool → Int → Int → ByteArray → Row → Option R) (k0 : Bool → Int → Int → ByteArray → Row → Option R) (k1 : Bool → Int → Int → ByteArray → Row → Option R) (x0 : Bool) (x1 : Int) (x2 : Int) (x3 : ByteArray) (x4 : Row) : Option R := bif (decide (x1 < (↑(List.length x4) : Int))) then (bif (decide (0 ≤ x1) && decide (x1 < (↑(List.length x4) : Int))) then (bif (!Pu.spec_l01In.v (cvI (cellAt x4 (Int.toNat x1) 0)) 1 9) then (k0 false x1 x2 x3 x4) else (bif (decide (x1 > 0)) then (bif (decide (0 ≤ w64 (x1 - 1)) && decide (w64 (x1 - 1) < (↑(List.length x4) : Int))) then (bif (decide (cvI (cellAt x4 (Int.toNat (w64 (x1 - 1))) 0) ≥ cvI (cellAt x4 (Int.toNat x1) 0))) then (k0 false x1 x2 x3 x4) else (bif (!Pu.spec_l01In.v (cvI (cellAt x4 (Int.toNat x1) 1)) 0 (↑(ByteArray.size x3) : Int)) then (k0 false x1 x2 x3 x4) else (g x0 (w64 (x1 + 1)) x2 x3 x4))) else (none)) else (bif (!Pu.spec_l01In.v (cvI (cellAt x4 (Int.toNat x1) 1)) 0 (↑(ByteArray.size x3) : Int)) then (k0 false x1 x2 x3 x4) else (g x0 (w64 (x1 + 1)) x2 x3 x4)))) else (none)) else (k1 x0 x1 x2 x3 x4)
def l2 {R : Type} (N : Nat) (k0 : Bool → Int → Int → ByteArray → Row → Option R) (k1 : Bool → Int → Int → ByteArray → Row → Option R) : Nat → Bool → Int → Int → ByteArray → Row → Option R
  | 0 => (fun _ _ _ _ _ => none)
  | n + 1 => (fun x0 x1 x2 x3 x4 => r2 N (l2 N k0 k1 n) k0 k1 x0 x1 x2 x3 x4)
def b {R : Type} (N : Nat) (kr : Bool → Option R) (s0_0 : Int) (s0_1 : ByteArray) (s0_2 : Row) : Option R := l2 N (fun y5 y6 y7 y8 y9 => kr y5) (fun y10 y11 y12 y13 y14 => bif (Pu.spec_l01In.v y12 1 3) then (bif (decide ((↑(ByteArray.size y13) : Int) ≤ 400)) then (kr (decide ((↑(List.length y14) : Int) ≤ 6))) else (kr false)) else (kr false)) N false 0 s0_0 s0_1 s0_2
def el (t : ByteArray) (rs : Row) (i : Nat) : Bool := decide (1 ≤ cvI (cellAt rs i 0) ∧ cvI (cellAt rs i 0) ≤ 9) && (decide (0 ≤ cvI (cellAt rs i 1) ∧ cvI (cellAt rs i 1) ≤ t.size) && (i == 0 || decide (cvI (cellAt rs (i - 1) 0) < cvI (cellAt rs i 0))))
def rest (st : Int) (t : ByteArray) (rs : Row) : Bool := decide (1 ≤ st ∧ st ≤ 3) && (decide (t.size ≤ 400) && decide (rs.length ≤ 6))
def v (s0_0 : Int) (s0_1 : ByteArray) (s0_2 : Row) : Bool := (List.range s0_2.length).all (el s0_1 s0_2) && rest s0_0 s0_1 s0_2
theorem in_eq (n a b : Int) : Pu.spec_l01In.v n a b = decide (a ≤ n ∧ n ≤ b) := by
  unfold Pu.spec_l01In.v
  by_cases h : a ≤ n <;> by_cases h2 : n ≤ b <;> simp [h, h2]
theorem rest_eq (st : Int) (t : ByteArray) (rs : Row) {R : Type} (kr : Bool → Option R) : (bif (Pu.spec_l01In.v st 1 3) then (bif (decide ((↑(ByteArray.size t) : Int) ≤ 400)) then (kr (decide ((↑(List.length rs) : Int) ≤ 6))) else (kr false)) else (kr false)) = kr (rest st t rs) := by
  unfold rest
  rw [in_eq]
  have e1 : decide ((t.size : Int) ≤ 400) = decide (t.size ≤ 400) := by rw [decide_eq_decide]; omega
  have e2 : decide ((rs.length : Int) ≤ 6) = decide (rs.length ≤ 6) := by rw [decide_eq_decide]; omega
  rw [e1, e2]
  cases decide (1 ≤ st ∧ st ≤ 3) <;> cases decide (t.size ≤ 400) <;> rfl
theorem w64_p {i : Nat} (h : 0 < i) (hn : i ≤ 9223372036854775807) : w64 ((i : Int) - 1) = ((i - 1 : Nat) : Int) := by
  rw [w64_eq (by omega) (by omega)]; omega
theorem all_from (p : Nat → Bool) {i n : Nat} (h : i < n) : (List.range' i (n - i)).all p = (p i && (List.range' (i + 1) (n - (i + 1))).all p) := by
  rw [show n - i = (n - (i + 1)) + 1 by omega, List.range'_succ, List.all_cons]
theorem b_eq {R : Type} (kr : Bool → Option R) (s0_0 : Int) (s0_1 : ByteArray) (s0_2 : Row) (f0 : okS s0_1) (f1 : FitR s0_2) : ∃ N, b N kr s0_0 s0_1 s0_2 = kr (v s0_0 s0_1 s0_2) := by
  refine ⟨s0_2.length + 1, ?_⟩
  unfold b
  simp only [rest_eq]
  have := Lib.loop_gen (fun n (i : Nat) => l2 (s0_2.length + 1) (fun y5 y6 y7 y8 y9 => kr y5) (fun y10 y11 y12 y13 y14 => kr (rest y12 y13 y14)) n false i s0_0 s0_1 s0_2) (fun i => s0_2.length - i) (fun i => i ≤ s0_2.length)
    (fun i => kr ((List.range' i (s0_2.length - i)).all (el s0_1 s0_2) && rest s0_0 s0_1 s0_2)) (fun n i hi => by
    simp only [l2, r2, Lib.dlt, Lib.dle0, Lib.toN, Bool.true_and, in_eq]
    by_cases h : i < s0_2.length
    · rw [all_from _ h]
      simp only [h, decide_true, cond_true, Lib.w64_s h f1.1]
      cases h1 : decide (1 ≤ cvI (cellAt s0_2 i 0) ∧ cvI (cellAt s0_2 i 0) ≤ 9) with
      | false => left; simp [el, h1]
      | true =>
        simp only [Bool.not_true, cond_false]
        by_cases hz : 0 < i
        · have e0 : decide ((i : Int) > 0) = true := by simp; omega
          have hp : i - 1 < s0_2.length := by omega
          have hi0 : (i == 0) = false := by simp; omega
          simp only [e0, cond_true, w64_p hz (by have := f1.1; omega), Lib.dle0, Lib.dlt, Lib.toN, hp, decide_true, Bool.and_self]
          cases h2 : decide (cvI (cellAt s0_2 (i - 1) 0) ≥ cvI (cellAt s0_2 i 0)) with
          | true =>
            left
            have e3 : decide (cvI (cellAt s0_2 (i - 1) 0) < cvI (cellAt s0_2 i 0)) = false := by simp at h2 ⊢; omega
            simp [el, e3, hi0]
          | false =>
            have e3 : decide (cvI (cellAt s0_2 (i - 1) 0) < cvI (cellAt s0_2 i 0)) = true := by simp at h2 ⊢; omega
            cases h3 : decide (0 ≤ cvI (cellAt s0_2 i 1) ∧ cvI (cellAt s0_2 i 1) ≤ s0_1.size) with
            | false => left; simp [el, h3]
            | true => right; exact ⟨i + 1, h, by omega, by simp only [el, h1, h3, e3, Bool.or_true, Bool.true_and], rfl⟩
        · have hz : i = 0 := by omega
          subst hz
          simp only [show decide (((0 : Nat) : Int) > 0) = false from rfl, cond_false]
          cases h3 : decide (0 ≤ cvI (cellAt s0_2 0 1) ∧ cvI (cellAt s0_2 0 1) ≤ s0_1.size) with
          | false => left; simp [el, h3]
          | true => right; exact ⟨1, h, by omega, by simp only [el, h1, h3, Bool.true_and]; rfl, rfl⟩
    · left
      have h0 : s0_2.length - i = 0 := by omega
      simp only [h, decide_false, cond_false, h0, List.range'_zero, List.all_nil, Bool.true_and]) (s0_2.length + 1) 0 (by omega) (by omega)
  refine this.trans ?_
  unfold v
  rw [Nat.sub_zero, ← List.range_eq_range']
theorem facts {st : Int} {t : ByteArray} {rs : Row} (h : v st t rs = true) : (∀ i, i < rs.length → 0 ≤ cvI (cellAt rs i 1) ∧ cvI (cellAt rs i 1) ≤ t.size) ∧ t.size ≤ 400 ∧ rs.length ≤ 6 := by
  unfold v rest at h
  simp only [Bool.and_eq_true, List.all_eq_true, List.mem_range, decide_eq_true_eq] at h
  obtain ⟨h1, h2, h3, h4⟩ := h
  refine ⟨fun i hi => ?_, h3, h4⟩
  have := h1 i hi
  unfold el at this
  simp only [Bool.and_eq_true, decide_eq_true_eq] at this
  exact this.2.1
end Go.FG.Pu.spec_StreamOk

namespace Go.FG.Pu.spec_StreamPut
def b {R : Type} (kr : Int → ByteArray → Row → Bool → Option R) (s0_0 : Int) (s0_1 : ByteArray) (s0_2 : Row) (part1 : ByteArray) : Option R := bif (Pu.spec_l14Copy.c s0_0 s0_1 s0_2) then (bif (!Pu.spec_StreamOk.v s0_0 s0_1 s0_2) then (kr s0_0 s0_1 s0_2 false) else (bif (s0_0 != 1) then (kr s0_0 s0_1 s0_2 false) else (bif (!Pu.spec_l01In.v (↑(ByteArray.size part1) : Int) 1 40) then (kr s0_0 s0_1 s0_2 false) else (bif (decide (w64 ((↑(ByteArray.size s0_1) : Int) + (↑(ByteArray.size part1) : Int)) > 400)) then (kr s0_0 s0_1 s0_2 false) else (bif (decide (ByteArray.size s0_1 + ByteArray.size part1 ≤ 4611686018427387904)) then (kr s0_0 (s0_1 ++ part1) s0_2 true) else (none)))))) else (none)
def v (s0_0 : Int) (s0_1 : ByteArray) (s0_2 : Row) (part1 : ByteArray) : Int × ByteArray × Row × Bool :=
  if Pu.spec_StreamOk.v s0_0 s0_1 s0_2 = true ∧ s0_0 = 1 ∧ 1 ≤ part1.size ∧ part1.size ≤ 40 ∧ s0_1.size + part1.size ≤ 400 then (s0_0, s0_1 ++ part1, s0_2, true) else (s0_0, s0_1, s0_2, false)
def c (s0_0 : Int) (s0_1 : ByteArray) (s0_2 : Row) (part1 : ByteArray) : Bool := decide (s0_2.length ≤ 4294967296)
theorem b_eq {R : Type} (kr : Int → ByteArray → Row → Bool → Option R) (s0_0 : Int) (s0_1 : ByteArray) (s0_2 : Row) (part1 : ByteArray) (hc : c s0_0 s0_1 s0_2 part1 = true) (f0 : okS s0_1) (f1 : FitR s0_2) (f2 : okS part1) : b kr s0_0 s0_1 s0_2 part1 = kr (v s0_0 s0_1 s0_2 part1).1 (v s0_0 s0_1 s0_2 part1).2.1 (v s0_0 s0_1 s0_2 part1).2.2.1 (v s0_0 s0_1 s0_2 part1).2.2.2 := by
  have hs1 : s0_1.size ≤ 4611686018427387904 := f0
  have hs2 : part1.size ≤ 4611686018427387904 := f2
  have e1 : Pu.spec_l14Copy.c s0_0 s0_1 s0_2 = true := hc
  have e2 : ∀ a b c, Pu.spec_StreamOk.v a b c = Pu.spec_StreamOk.v a b c := fun _ _ _ => rfl
  have e3 : ∀ n a b, Pu.spec_l01In.v n a b = decide (a ≤ n ∧ n ≤ b) := Pu.spec_StreamOk.in_eq
  unfold b v
  rw [e1, e2, e3, cond_true]
  cases h1 : Pu.spec_StreamOk.v s0_0 s0_1 s0_2 with
  | false => simp
  | true =>
    by_cases h2 : s0_0 = 1
    · by_cases h3 : 1 ≤ (part1.size : Int) ∧ (part1.size : Int) ≤ 40
      · have e4 : w64 ((s0_1.size : Int) + (part1.size : Int)) = s0_1.size + part1.size := w64_eq (by omega) (by omega)
        rw [e4, decide_eq_true h3]
        by_cases h4 : (s0_1.size : Int) + (part1.size : Int) > 400
        · rw [Lib.dec_t h4, if_neg (by omega)]; simp [h2]
        · rw [Lib.dec_f h4, if_pos (by refine ⟨rfl, h2, ?_, ?_, ?_⟩ <;> omega), Lib.dec_t (show s0_1.size + part1.size ≤ 4611686018427387904 by omega)]; simp [h2]
      · rw [decide_eq_false h3, if_neg (by omega)]; simp
    · have hne : (s0_0 != 1) = true := bne_iff_ne.mpr h2
      rw [if_neg (by simp [h2]), hne]; rfl
end Go.FG.Pu.spec_StreamPut

namespace Go.FG.Pu.spec_l14At
def r2 {R : Type} (N : Nat) (g : Int → Int → Int → Int → ByteArray → Row → Option R) (k0 : Int → Int → Int → Int → ByteArray → Row → Option R) (k1 : Int → Int → Int → Int → ByteArray → Row → Option R) (x0 : Int) (x1 : Int) (x2 : Int) (x3 : Int) (x4 : ByteArray) (x5 : Row) : Option R := bif (decide (x2 < (↑(List.length x5) : Int))) then (bif (decide (0 ≤ x2) && decide (x2 < (↑(List.length x5) : Int))) then (bif (decide (cvI (cellAt x5 (Int.toNat x2) 0) = x0)) then (k0 x0 x2 x2 x3 x4 x5) else (g x0 x1 (w64 (x2 + 1)) x3 x4 x5)) else (none)) else (k1 x0 x1 x2 x3 x4 x5)
def l2 {R : Type} (N : Nat) (k0 : Int → Int → Int → Int → ByteArray → Row → Option R) (k1 : Int → Int → Int → Int → ByteArray → Row → Option R) : Nat → Int → Int → Int → Int → ByteArray → Row → Option R
  | 0 => (fun _ _ _ _ _ _ => none)
  | n + 1 => (fun x0 x1 x2 x3 x4 x5 => r2 N (l2 N k0 k1 n) k0 k1 x0 x1 x2 x3 x4 x5)
def b {R : Type} (N : Nat) (kr : Int → Option R) (s0_0 : Int) (s0_1 : ByteArray) (s0_2 : Row) (id1 : Int) : Option R := l2 N (fun y6 y7 y8 y9 y10 y11 => kr y7) (fun y12 y13 y14 y15 y16 y17 => kr (-1)) N id1 0 0 s0_0 s0_1 s0_2
def v (s0_0 : Int) (s0_1 : ByteArray) (s0_2 : Row) (id1 : Int) : Int := Lib.fi (fun i => decide (cvI (cellAt s0_2 i 0) = id1)) s0_2.length 0
theorem b_eq {R : Type} (kr : Int → Option R) (s0_0 : Int) (s0_1 : ByteArray) (s0_2 : Row) (id1 : Int) (f0 : okS s0_1) (f1 : FitR s0_2) : ∃ N, b N kr s0_0 s0_1 s0_2 id1 = kr (v s0_0 s0_1 s0_2 id1) := by
  refine ⟨s0_2.length + 1, ?_⟩
  refine Lib.fi_run (fun i => decide (cvI (cellAt s0_2 i 0) = id1)) s0_2.length (fun m i => l2 (s0_2.length + 1) (fun y6 y7 y8 y9 y10 y11 => kr y7) (fun y12 y13 y14 y15 y16 y17 => kr (-1)) m id1 0 i s0_0 s0_1 s0_2) kr (fun m i hi hp => ?_) (fun m i hi hp => ?_) (fun m => ?_)
  · simp only [l2, r2, Lib.dlt, Lib.dle0, Lib.toN, hi, decide_true, Bool.true_and, cond_true, hp]
  · simp only [l2, r2, Lib.dlt, Lib.dle0, Lib.toN, hi, decide_true, Bool.true_and, cond_true, hp, cond_false, Lib.w64_s hi f1.1]
  · simp only [l2, r2, Lib.dlt, Nat.lt_irrefl, decide_false, cond_false]
end Go.FG.Pu.spec_l14At

namespace Go.FG.Pu.spec_StreamJoin
def r10 {R : Type} (N : Nat) (g : Int → Int → Int → ByteArray → Row → Int → ByteArray → Int → ByteArray → Row → Row → Option R) (k0 : Int → Int → Int → ByteArray → Row → Int → ByteArray → Int → ByteArray → Row → Row → Option R) (x22 : Int) (x23 : Int) (x24 : Int) (x25 : ByteArray) (x26 : Row) (x27 : Int) (x28 : ByteArray) (x29 : Int) (x30 : ByteArray) (x31 : Row) (x32 : Row) : Option R := bif (decide (x23 < (↑(List.length x26) : Int))) then (bif (decide (0 ≤ x23) && decide (x23 < (↑(List.length x26) : Int))) then (bif (decide (cvI (cellAt x26 (Int.toNat x23) 0) > x22)) then (bif (decide (0 ≤ x23) && decide (x23 < (↑(List.length x26) : Int))) then (bif (roomy (List.length x31 + List.length (List.set (zeros [Ck.i IntKind.i64, Ck.i IntKind.i64] 1) 0 [CV.i IntKind.i64 (cvI (cellAt x26 (Int.toNat x23) 0)), CV.i IntKind.i64 (cvI (cellAt x26 (Int.toNat x23) 1))])) 16) then (g x22 (w64 (x23 + 1)) x24 x25 x26 x27 x28 x29 x30 (x31 ++ List.set (zeros [Ck.i IntKind.i64, Ck.i IntKind.i64] 1) 0 [CV.i IntKind.i64 (cvI (cellAt x26 (Int.toNat x23) 0)), CV.i IntKind.i64 (cvI (cellAt x26 (Int.toNat x23) 1))]) x32) else (none)) else (none)) else (g x22 (w64 (x23 + 1)) x24 x25 x26 x27 x28 x29 x30 x31 x32)) else (none)) else (k0 x22 x23 x24 x25 x26 x27 x28 x29 x30 x31 x32)
def l10 {R : Type} (N : Nat) (k0 : Int → Int → Int → ByteArray → Row → Int → ByteArray → Int → ByteArray → Row → Row → Option R) : Nat → Int → Int → Int → ByteArray → Row → Int → ByteArray → Int → ByteArray → Row → Row → Option R
  | 0 => (fun _ _ _ _ _ _ _ _ _ _ _ => none)
  | n + 1 => (fun x22 x23 x24 x25 x26 x27 x28 x29 x30 x31 x32 => r10 N (l10 N k0 n) k0 x22 x23 x24 x25 x26 x27 x28 x29 x30 x31 x32)
def r4 {R : Type} (N : Nat) (g : Int → Int → Int → ByteArray → Row → Int → ByteArray → Int → ByteArray → Row → Row → Option R) (k0 : Int → Int → Int → ByteArray → Row → Int → ByteArray → Int → ByteArray → Row → Row → Option R) (x0 : Int) (x1 : Int) (x2 : Int) (x3 : ByteArray) (x4 : Row) (x5 : Int) (x6 : ByteArray) (x7 : Int) (x8 : ByteArray) (x9 : Row) (x10 : Row) : Option R := bif (decide (x1 < (↑(List.length x4) : Int))) then (bif (decide (0 ≤ x1) && decide (x1 < (↑(List.length x4) : Int))) then (bif (decide (cvI (cellAt x4 (Int.toNat x1) 0) < x0)) then (bif (decide (0 ≤ x1) && decide (x1 < (↑(List.length x4) : Int))) then (bif (roomy (List.length x9 + List.length (List.set (zeros [Ck.i IntKind.i64, Ck.i IntKind.i64] 1) 0 [CV.i IntKind.i64 (cvI (cellAt x4 (Int.toNat x1) 0)), CV.i IntKind.i64 (cvI (cellAt x4 (Int.toNat x1) 1))])) 16) then (g x0 (w64 (x1 + 1)) x2 x3 x4 x5 x6 x7 x8 (x9 ++ List.set (zeros [Ck.i IntKind.i64, Ck.i IntKind.i64] 1) 0 [CV.i IntKind.i64 (cvI (cellAt x4 (Int.toNat x1) 0)), CV.i IntKind.i64 (cvI (cellAt x4 (Int.toNat x1) 1))]) x10) else (none)) else (none)) else (g x0 (w64 (x1 + 1)) x2 x3 x4 x5 x6 x7 x8 x9 x10)) else (none)) else (k0 x0 x1 x2 x3 x4 x5 x6 x7 x8 x9 x10)
def l4 {R : Type} (N : Nat) (k0 : Int → Int → Int → ByteArray → Row → Int → ByteArray → Int → ByteArray → Row → Row → Option R) : Nat → Int → Int → Int → ByteArray → Row → Int → ByteArray → Int → ByteArray → Row → Row → Option R
  | 0 => (fun _ _ _ _ _ _ _ _ _ _ _ => none)
  | n + 1 => (fun x0 x1 x2 x3 x4 x5 x6 x7 x8 x9 x10 => r4 N (l4 N k0 n) k0 x0 x1 x2 x3 x4 x5 x6 x7 x8 x9 x10)
def b {R : Type} (N : Nat) (kr : Int → ByteArray → Row → Bool → Option R) (s0_0 : Int) (s0_1 : ByteArray) (s0_2 : Row) (id1 : Int) : Option R := bif (Pu.spec_l14Copy.c s0_0 s0_1 s0_2) then (l4 N (fun y11 y12 y13 y14 y15 y16 y17 y18 y19 y20 y21 => bif (roomy (List.length y20 + List.length (List.set (zeros [Ck.i IntKind.i64, Ck.i IntKind.i64] 1) 0 [CV.i IntKind.i64 y11, CV.i IntKind.i64 0])) 16) then (l10 N (fun y33 y34 y35 y36 y37 y38 y39 y40 y41 y42 y43 => bif (!Pu.spec_StreamOk.v y35 y36 y37) then (kr y40 y41 y43 false) else (bif (decide (Pu.spec_l14At.v y35 y36 y37 y33 ≥ 0)) then (kr y40 y41 y43 false) else (bif (!Pu.spec_StreamOk.v y35 y36 y42) then (kr y40 y41 y43 false) else (kr y35 y36 y42 true)))) N y11 0 y13 y14 y15 y16 y17 y18 y19 (y20 ++ List.set (zeros [Ck.i IntKind.i64, Ck.i IntKind.i64] 1) 0 [CV.i IntKind.i64 y11, CV.i IntKind.i64 0]) y21) else (none)) N id1 0 s0_0 s0_1 s0_2 0 ({ data := #[] }) s0_0 s0_1 (zeros [Ck.i IntKind.i64, Ck.i IntKind.i64] 0) s0_2) else (none)
theorem q10_bind {R S : Type} (f : R → Option S) (N : Nat) (k0 : Int → Int → Int → ByteArray → Row → Int → ByteArray → Int → ByteArray → Row → Row → Option R) : ∀ n : Nat, (∀ (x22 : Int) (x23 : Int) (x24 : Int) (x25 : ByteArray) (x26 : Row) (x27 : Int) (x28 : ByteArray) (x29 : Int) (x30 : ByteArray) (x31 : Row) (x32 : Row), Option.bind (l10 N k0 n x22 x23 x24 x25 x26 x27 x28 x29 x30 x31 x32) f = l10 N (fun y0 y1 y2 y3 y4 y5 y6 y7 y8 y9 y10 => (Option.bind (k0 y0 y1 y2 y3 y4 y5 y6 y7 y8 y9 y10) f)) n x22 x23 x24 x25 x26 x27 x28 x29 x30 x31 x32) := by
  intro n
  induction n with
  | zero => exact (fun _ _ _ _ _ _ _ _ _ _ _ => rfl)
  | succ n ih =>
    intro x22 x23 x24 x25 x26 x27 x28 x29 x30 x31 x32
    simp only [l10, r10, Lib.cond_bind, Lib.some_bind, Lib.none_bind, ih]
theorem l10_bind {R S : Type} (f : R → Option S) (N : Nat) (k0 : Int → Int → Int → ByteArray → Row → Int → ByteArray → Int → ByteArray → Row → Row → Option R) (n : Nat) (x22 : Int) (x23 : Int) (x24 : Int) (x25 : ByteArray) (x26 : Row) (x27 : Int) (x28 : ByteArray) (x29 : Int) (x30 : ByteArray) (x31 : Row) (x32 : Row) : Option.bind (l10 N k0 n x22 x23 x24 x25 x26 x27 x28 x29 x30 x31 x32) f = l10 N (fun y0 y1 y2 y3 y4 y5 y6 y7 y8 y9 y10 => (Option.bind (k0 y0 y1 y2 y3 y4 y5 y6 y7 y8 y9 y10) f)) n x22 x23 x24 x25 x26 x27 x28 x29 x30 x31 x32 := (q10_bind f N k0 n) x22 x23 x24 x25 x26 x27 x28 x29 x30 x31 x32
theorem q4_bind {R S : Type} (f : R → Option S) (N : Nat) (k0 : Int → Int → Int → ByteArray → Row → Int → ByteArray → Int → ByteArray → Row → Row → Option R) : ∀ n : Nat, (∀ (x0 : Int) (x1 : Int) (x2 : Int) (x3 : ByteArray) (x4 : Row) (x5 : Int) (x6 : ByteArray) (x7 : Int) (x8 : ByteArray) (x9 : Row) (x10 : Row), Option.bind (l4 N k0 n x0 x1 x2 x3 x4 x5 x6 x7 x8 x9 x10) f = l4 N (fun y0 y1 y2 y3 y4 y5 y6 y7 y8 y9 y10 => (Option.bind (k0 y0 y1 y2 y3 y4 y5 y6 y7 y8 y9 y10) f)) n x0 x1 x2 x3 x4 x5 x6 x7 x8 x9 x10) := by
  intro n
  induction n with
  | zero => exact (fun _ _ _ _ _ _ _ _ _ _ _ => rfl)
  | succ n ih =>
    intro x0 x1 x2 x3 x4 x5 x6 x7 x8 x9 x10
    simp only [l4, r4, Lib.cond_bind, Lib.some_bind, Lib.none_bind, ih, l10_bind]
theorem l4_bind {R S : Type} (f : R → Option S) (N : Nat) (k0 : Int → Int → Int → ByteArray → Row → Int → ByteArray → Int → ByteArray → Row → Row → Option R) (n : Nat) (x0 : Int) (x1 : Int) (x2 : Int) (x3 : ByteArray) (x4 : Row) (x5 : Int) (x6 : ByteArray) (x7 : Int) (x8 : ByteArray) (x9 : Row) (x10 : Row) : Option.bind (l4 N k0 n x0 x1 x2 x3 x4 x5 x6 x7 x8 x9 x10) f = l4 N (fun y0 y1 y2 y3 y4 y5 y6 y7 y8 y9 y10 => (Option.bind (k0 y0 y1 y2 y3 y4 y5 y6 y7 y8 y9 y10) f)) n x0 x1 x2 x3 x4 x5 x6 x7 x8 x9 x10 := (q4_bind f N k0 n) x0 x1 x2 x3 x4 x5 x6 x7 x8 x9 x10
theorem b_bind {R : Type} (N : Nat) (kr : Int → ByteArray → Row → Bool → Option R) (s0_0 : Int) (s0_1 : ByteArray) (s0_2 : Row) (id1 : Int) : b N kr s0_0 s0_1 s0_2 id1 = Option.bind (b N (fun r0 r1 r2 r3 => some (r0, r1, r2, r3)) s0_0 s0_1 s0_2 id1) (fun p => kr p.1 p.2.1 p.2.2.1 p.2.2.2) := by
  unfold b; simp only [Lib.cond_bind, Lib.some_bind, Lib.none_bind, l10_bind, l4_bind]
def vo (s0_0 : Int) (s0_1 : ByteArray) (s0_2 : Row) (id1 : Int) : Option (Int × ByteArray × Row × Bool) := b Lib.big (fun r0 r1 r2 r3 => some (r0, r1, r2, r3)) s0_0 s0_1 s0_2 id1
def c (s0_0 : Int) (s0_1 : ByteArray) (s0_2 : Row) (id1 : Int) : Bool := Option.isSome (vo s0_0 s0_1 s0_2 id1)
def v (s0_0 : Int) (s0_1 : ByteArray) (s0_2 : Row) (id1 : Int) : Int × ByteArray × Row × Bool := Option.getD (vo s0_0 s0_1 s0_2 id1) (0, ⟨#[]⟩, [], false)
theorem out (s0_0 : Int) (s0_1 : ByteArray) (s0_2 : Row) (id1 : Int) {x : Int × ByteArray × Row × Bool} (h : vo s0_0 s0_1 s0_2 id1 = some x) : c s0_0 s0_1 s0_2 id1 = true ∧ v s0_0 s0_1 s0_2 id1 = x := by
  unfold c v; rw [h]; exact ⟨rfl, rfl⟩
theorem b_eq {R : Type} (kr : Int → ByteArray → Row → Bool → Option R) (s0_0 : Int) (s0_1 : ByteArray) (s0_2 : Row) (id1 : Int) (hc : c s0_0 s0_1 s0_2 id1 = true) : ∃ N, b N kr s0_0 s0_1 s0_2 id1 = kr ((v s0_0 s0_1 s0_2 id1).1) ((v s0_0 s0_1 s0_2 id1).2.1) ((v s0_0 s0_1 s0_2 id1).2.2.1) ((v s0_0 s0_1 s0_2 id1).2.2.2) := by
  refine ⟨Lib.big, ?_⟩
  rw [b_bind]
  have e : vo s0_0 s0_1 s0_2 id1 = some (v s0_0 s0_1 s0_2 id1) := by
    unfold c at hc; unfold v
    cases h : vo s0_0 s0_1 s0_2 id1 with
    | none => rw [h] at hc; cases hc
    | some x => rfl
  unfold vo at e
  rw [e]; rfl
end Go.FG.Pu.spec_StreamJoin

namespace Go.FG.Pu.spec_StreamRead
def b {R : Type} (kr : Int → ByteArray → Row → ByteArray → Bool → Option R) (s0_0 : Int) (s0_1 : ByteArray) (s0_2 : Row) (id1 : Int) (most2 : Int) : Option R := bif (Pu.spec_l14Copy.c s0_0 s0_1 s0_2) then (bif (!Pu.spec_StreamOk.v s0_0 s0_1 s0_2) then (kr s0_0 s0_1 s0_2 ({ data := #[] }) false) else (bif (decide (Pu.spec_l14At.v s0_0 s0_1 s0_2 id1 < 0)) then (kr s0_0 s0_1 s0_2 ({ data := #[] }) false) else (bif (decide (most2 < 0)) then (bif (decide (0 ≤ Pu.spec_l14At.v s0_0 s0_1 s0_2 id1) && decide (Pu.spec_l14At.v s0_0 s0_1 s0_2 id1 < (↑(List.length s0_2) : Int))) then (bif (decide (0 < w64 ((↑(ByteArray.size s0_1) : Int) - cvI (cellAt s0_2 (Int.toNat (Pu.spec_l14At.v s0_0 s0_1 s0_2 id1)) 1)))) then (bif (decide (0 ≤ Pu.spec_l14At.v s0_0 s0_1 s0_2 id1) && decide (Pu.spec_l14At.v s0_0 s0_1 s0_2 id1 < (↑(List.length s0_2) : Int))) then (bif (inB (cvI (cellAt s0_2 (Int.toNat (Pu.spec_l14At.v s0_0 s0_1 s0_2 id1)) 1)) (w64 (cvI (cellAt s0_2 (Int.toNat (Pu.spec_l14At.v s0_0 s0_1 s0_2 id1)) 1) + 0)) (↑(ByteArray.size s0_1) : Int)) then (kr s0_0 s0_1 (setC s0_2 (Int.toNat (Pu.spec_l14At.v s0_0 s0_1 s0_2 id1)) 1 [CV.i IntKind.i64 (w64 (cvI (cellAt s0_2 (Int.toNat (Pu.spec_l14At.v s0_0 s0_1 s0_2 id1)) 1) + 0))]) (ByteArray.extract s0_1 (Int.toNat (cvI (cellAt s0_2 (Int.toNat (Pu.spec_l14At.v s0_0 s0_1 s0_2 id1)) 1))) (Int.toNat (w64 (cvI (cellAt s0_2 (Int.toNat (Pu.spec_l14At.v s0_0 s0_1 s0_2 id1)) 1) + 0)))) true) else (none)) else (none)) else (bif (decide (0 ≤ Pu.spec_l14At.v s0_0 s0_1 s0_2 id1) && decide (Pu.spec_l14At.v s0_0 s0_1 s0_2 id1 < (↑(List.length s0_2) : Int))) then (bif (inB (cvI (cellAt s0_2 (Int.toNat (Pu.spec_l14At.v s0_0 s0_1 s0_2 id1)) 1)) (↑(ByteArray.size s0_1) : Int) (↑(ByteArray.size s0_1) : Int)) then (kr s0_0 s0_1 (setC s0_2 (Int.toNat (Pu.spec_l14At.v s0_0 s0_1 s0_2 id1)) 1 [CV.i IntKind.i64 (↑(ByteArray.size s0_1) : Int)]) (ByteArray.extract s0_1 (Int.toNat (cvI (cellAt s0_2 (Int.toNat (Pu.spec_l14At.v s0_0 s0_1 s0_2 id1)) 1))) (Int.toNat (↑(ByteArray.size s0_1) : Int))) true) else (none)) else (none))) else (none)) else (bif (decide (0 ≤ Pu.spec_l14At.v s0_0 s0_1 s0_2 id1) && decide (Pu.spec_l14At.v s0_0 s0_1 s0_2 id1 < (↑(List.length s0_2) : Int))) then (bif (decide (most2 < w64 ((↑(ByteArray.size s0_1) : Int) - cvI (cellAt s0_2 (Int.toNat (Pu.spec_l14At.v s0_0 s0_1 s0_2 id1)) 1)))) then (bif (decide (0 ≤ Pu.spec_l14At.v s0_0 s0_1 s0_2 id1) && decide (Pu.spec_l14At.v s0_0 s0_1 s0_2 id1 < (↑(List.length s0_2) : Int))) then (bif (inB (cvI (cellAt s0_2 (Int.toNat (Pu.spec_l14At.v s0_0 s0_1 s0_2 id1)) 1)) (w64 (cvI (cellAt s0_2 (Int.toNat (Pu.spec_l14At.v s0_0 s0_1 s0_2 id1)) 1) + most2)) (↑(ByteArray.size s0_1) : Int)) then (kr s0_0 s0_1 (setC s0_2 (Int.toNat (Pu.spec_l14At.v s0_0 s0_1 s0_2 id1)) 1 [CV.i IntKind.i64 (w64 (cvI (cellAt s0_2 (Int.toNat (Pu.spec_l14At.v s0_0 s0_1 s0_2 id1)) 1) + most2))]) (ByteArray.extract s0_1 (Int.toNat (cvI (cellAt s0_2 (Int.toNat (Pu.spec_l14At.v s0_0 s0_1 s0_2 id1)) 1))) (Int.toNat (w64 (cvI (cellAt s0_2 (Int.toNat (Pu.spec_l14At.v s0_0 s0_1 s0_2 id1)) 1) + most2)))) true) else (none)) else (none)) else (bif (decide (0 ≤ Pu.spec_l14At.v s0_0 s0_1 s0_2 id1) && decide (Pu.spec_l14At.v s0_0 s0_1 s0_2 id1 < (↑(List.length s0_2) : Int))) then (bif (inB (cvI (cellAt s0_2 (Int.toNat (Pu.spec_l14At.v s0_0 s0_1 s0_2 id1)) 1)) (↑(ByteArray.size s0_1) : Int) (↑(ByteArray.size s0_1) : Int)) then (kr s0_0 s0_1 (setC s0_2 (Int.toNat (Pu.spec_l14At.v s0_0 s0_1 s0_2 id1)) 1 [CV.i IntKind.i64 (↑(ByteArray.size s0_1) : Int)]) (ByteArray.extract s0_1 (Int.toNat (cvI (cellAt s0_2 (Int.toNat (Pu.spec_l14At.v s0_0 s0_1 s0_2 id1)) 1))) (Int.toNat (↑(ByteArray.size s0_1) : Int))) true) else (none)) else (none))) else (none))))) else (none)
def e (t : ByteArray) (rs : Row) (k most : Int) : Int := cvI (cellAt rs k.toNat 1) + minmax false (minmax true most 0) (t.size - cvI (cellAt rs k.toNat 1))
def v (s0_0 : Int) (s0_1 : ByteArray) (s0_2 : Row) (id1 : Int) (most2 : Int) : Int × ByteArray × Row × ByteArray × Bool :=
  if Pu.spec_StreamOk.v s0_0 s0_1 s0_2 = true ∧ 0 ≤ Pu.spec_l14At.v s0_0 s0_1 s0_2 id1 then (s0_0, s0_1, setC s0_2 (Pu.spec_l14At.v s0_0 s0_1 s0_2 id1).toNat 1 [CV.i IntKind.i64 (e s0_1 s0_2 (Pu.spec_l14At.v s0_0 s0_1 s0_2 id1) most2)], s0_1.extract (cvI (cellAt s0_2 (Pu.spec_l14At.v s0_0 s0_1 s0_2 id1).toNat 1)).toNat (e s0_1 s0_2 (Pu.spec_l14At.v s0_0 s0_1 s0_2 id1) most2).toNat, true) else (s0_0, s0_1, s0_2, ⟨#[]⟩, false)
def c (s0_0 : Int) (s0_1 : ByteArray) (s0_2 : Row) (id1 : Int) (most2 : Int) : Bool := decide (s0_2.length ≤ 4294967296)
theorem b_eq {R : Type} (kr : Int → ByteArray → Row → ByteArray → Bool → Option R) (s0_0 : Int) (s0_1 : ByteArray) (s0_2 : Row) (id1 : Int) (most2 : Int) (hc : c s0_0 s0_1 s0_2 id1 most2 = true) : b kr s0_0 s0_1 s0_2 id1 most2 = kr (v s0_0 s0_1 s0_2 id1 most2).1 (v s0_0 s0_1 s0_2 id1 most2).2.1 (v s0_0 s0_1 s0_2 id1 most2).2.2.1 (v s0_0 s0_1 s0_2 id1 most2).2.2.2.1 (v s0_0 s0_1 s0_2 id1 most2).2.2.2.2 := by
  have e1 : Pu.spec_l14Copy.c s0_0 s0_1 s0_2 = true := hc
  have hk := Lib.fi_rng (fun i => decide (cvI (cellAt s0_2 i 0) = id1)) s0_2.length 0
  unfold b v
  rw [e1, cond_true]
  cases h1 : Pu.spec_StreamOk.v s0_0 s0_1 s0_2 with
  | false => simp
  | true =>
    obtain ⟨q1, q2, q3⟩ := Pu.spec_StreamOk.facts h1
    rcases hk with ⟨hk, _⟩ | ⟨k, _, hk2, hk, _⟩
    · have hv : Pu.spec_l14At.v s0_0 s0_1 s0_2 id1 = -1 := hk
      rw [hv]; simp
    · have hv : Pu.spec_l14At.v s0_0 s0_1 s0_2 id1 = (k : Int) := hk
      have hkl : k < s0_2.length := by omega
      obtain ⟨a1, a2⟩ := q1 k hkl
      rw [hv, if_pos ⟨rfl, by omega⟩]
      simp only [Lib.toN, Lib.dle0, Lib.dlt_t hkl, Bool.and_self, cond_true, Bool.not_true, cond_false, show decide ((k : Int) < 0) = false from decide_eq_false (by omega)]
      have ew : w64 ((s0_1.size : Int) - cvI (cellAt s0_2 k 1)) = s0_1.size - cvI (cellAt s0_2 k 1) := w64_eq (by omega) (by omega)
      simp only [ew]
      unfold e
      simp only [Lib.toN]
      by_cases hm : most2 < 0
      · have em : minmax true most2 0 = 0 := by simp [minmax]; omega
        rw [Lib.dec_t hm, cond_true, em, w64_eq (x := cvI (cellAt s0_2 k 1) + 0) (by omega) (by omega)]
        by_cases h2 : 0 < (s0_1.size : Int) - cvI (cellAt s0_2 k 1)
        · have en : minmax false 0 (s0_1.size - cvI (cellAt s0_2 k 1)) = 0 := by simp [minmax]; omega
          rw [Lib.dec_t h2, cond_true, en, Lib.bif_t (by simp [inB]; omega)]
        · have en : cvI (cellAt s0_2 k 1) + minmax false 0 (s0_1.size - cvI (cellAt s0_2 k 1)) = s0_1.size := by simp [minmax]; omega
          rw [Lib.dec_f h2, cond_false, en, Lib.bif_t (by simp [inB]; omega)]
          rfl
      · have em : minmax true most2 0 = most2 := by simp [minmax]; omega
        rw [Lib.dec_f hm, cond_false, em]
        by_cases h2 : most2 < (s0_1.size : Int) - cvI (cellAt s0_2 k 1)
        · have en : minmax false most2 (s0_1.size - cvI (cellAt s0_2 k 1)) = most2 := by simp [minmax]; omega
          rw [Lib.dec_t h2, cond_true, en, w64_eq (x := cvI (cellAt s0_2 k 1) + most2) (by omega) (by omega), Lib.bif_t (by simp [inB]; omega)]
        · have en : cvI (cellAt s0_2 k 1) + minmax false most2 (s0_1.size - cvI (cellAt s0_2 k 1)) = s0_1.size := by
            simp [minmax]; split <;> omega
          rw [Lib.dec_f h2, cond_false, en, Lib.bif_t (by simp [inB]; omega)]
          rfl
end Go.FG.Pu.spec_StreamRead

namespace Go.FG.Pu.impl_readerAt_1
def b {R : Type} (kr : Bool → Option R) (r0_0 : Int) (r0_1 : Int) (id1 : Int) : Option R := kr (decide (r0_0 = id1))
def v (r0_0 : Int) (r0_1 : Int) (id1 : Int) : Bool := ((decide (r0_0 = id1)))
theorem b_eq {R : Type} (kr : Bool → Option R) (r0_0 : Int) (r0_1 : Int) (id1 : Int) : b kr r0_0 r0_1 id1 = kr (v r0_0 r0_1 id1) := by
  first | rfl | (unfold b v; simp only [Bool.cond_eq_ite]; (repeat' split) <;> rfl)
end Go.FG.Pu.impl_readerAt_1

namespace Go.FG.Pu.slices_IndexFunc_Readera
def r2 {R : Type} (N : Nat) (g : Row → Int → Int → Int → Int → Option R) (k0 : Row → Int → Int → Int → Int → Option R) (k1 : Row → Int → Int → Int → Int → Option R) (x0 : Row) (x1 : Int) (x2 : Int) (x3 : Int) (x4 : Int) : Option R := bif (decide (x4 < x3)) then (bif (decide (0 ≤ x4) && decide (x4 < (↑(List.length x0) : Int))) then (bif (Pu.impl_readerAt_1.v (cvI (cellAt x0 (Int.toNat x4) 0)) (cvI (cellAt x0 (Int.toNat x4) 1)) x1) then (k0 x0 x1 x4 x3 x4) else (g x0 x1 x2 x3 (w64 (x4 + 1)))) else (none)) else (k1 x0 x1 x2 x3 x4)
def l2 {R : Type} (N : Nat) (k0 : Row → Int → Int → Int → Int → Option R) (k1 : Row → Int → Int → Int → Int → Option R) : Nat → Row → Int → Int → Int → Int → Option R
  | 0 => (fun _ _ _ _ _ => none)
  | n + 1 => (fun x0 x1 x2 x3 x4 => r2 N (l2 N k0 k1 n) k0 k1 x0 x1 x2 x3 x4)
def b {R : Type} (N : Nat) (kr : Int → Option R) (s0 : Row) (id1 : Int) : Option R := l2 N (fun y5 y6 y7 y8 y9 => kr y7) (fun y10 y11 y12 y13 y14 => kr (-1)) N s0 id1 0 (↑(List.length s0) : Int) 0
def v (s0 : Row) (id1 : Int) : Int := Lib.fi (fun i => decide (cvI (cellAt s0 i 0) = id1)) s0.length 0
theorem b_eq {R : Type} (kr : Int → Option R) (s0 : Row) (id1 : Int) (f0 : FitR s0) : ∃ N, b N kr s0 id1 = kr (v s0 id1) := by
  refine ⟨s0.length + 1, ?_⟩
  refine Lib.fi_run (fun i => decide (cvI (cellAt s0 i 0) = id1)) s0.length (fun m i => l2 (s0.length + 1) (fun y5 y6 y7 y8 y9 => kr y7) (fun y10 y11 y12 y13 y14 => kr (-1)) m s0 id1 0 s0.length i) kr (fun m i hi hp => ?_) (fun m i hi hp => ?_) (fun m => ?_)
  · have e : Pu.impl_readerAt_1.v (cvI (cellAt s0 i 0)) (cvI (cellAt s0 i 1)) id1 = true := hp
    simp only [l2, r2, Lib.dlt, Lib.dle0, Lib.toN, hi, decide_true, Bool.true_and, cond_true, e]
  · have e : Pu.impl_readerAt_1.v (cvI (cellAt s0 i 0)) (cvI (cellAt s0 i 1)) id1 = false := hp
    simp only [l2, r2, Lib.dlt, Lib.dle0, Lib.toN, hi, decide_true, Bool.true_and, cond_true, e, cond_false, Lib.w64_s hi f0.1]
  · simp only [l2, r2, Lib.dlt, Nat.lt_irrefl, decide_false, cond_false]
end Go.FG.Pu.slices_IndexFunc_Readera

namespace Go.FG.Pu.impl_StreamLeave_1
def b {R : Type} (kr : Bool → Option R) (r0_0 : Int) (r0_1 : Int) (id1 : Int) : Option R := kr (decide (r0_0 = id1))
def v (r0_0 : Int) (r0_1 : Int) (id1 : Int) : Bool := ((decide (r0_0 = id1)))
theorem b_eq {R : Type} (kr : Bool → Option R) (r0_0 : Int) (r0_1 : Int) (id1 : Int) : b kr r0_0 r0_1 id1 = kr (v r0_0 r0_1 id1) := by
  first | rfl | (unfold b v; simp only [Bool.cond_eq_ite]; (repeat' split) <;> rfl)
end Go.FG.Pu.impl_StreamLeave_1

namespace Go.FG.Pu.slices_IndexFunc_Readerb
def r2 {R : Type} (N : Nat) (g : Row → Int → Int → Int → Int → Option R) (k0 : Row → Int → Int → Int → Int → Option R) (k1 : Row → Int → Int → Int → Int → Option R) (x0 : Row) (x1 : Int) (x2 : Int) (x3 : Int) (x4 : Int) : Option R := bif (decide (x4 < x3)) then (bif (decide (0 ≤ x4) && decide (x4 < (↑(List.length x0) : Int))) then (bif (Pu.impl_StreamLeave_1.v (cvI (cellAt x0 (Int.toNat x4) 0)) (cvI (cellAt x0 (Int.toNat x4) 1)) x1) then (k0 x0 x1 x4 x3 x4) else (g x0 x1 x2 x3 (w64 (x4 + 1)))) else (none)) else (k1 x0 x1 x2 x3 x4)
def l2 {R : Type} (N : Nat) (k0 : Row → Int → Int → Int → Int → Option R) (k1 : Row → Int → Int → Int → Int → Option R) : Nat → Row → Int → Int → Int → Int → Option R
  | 0 => (fun _ _ _ _ _ => none)
  | n + 1 => (fun x0 x1 x2 x3 x4 => r2 N (l2 N k0 k1 n) k0 k1 x0 x1 x2 x3 x4)
def b {R : Type} (N : Nat) (kr : Int → Option R) (s0 : Row) (id1 : Int) : Option R := l2 N (fun y5 y6 y7 y8 y9 => kr y7) (fun y10 y11 y12 y13 y14 => kr (-1)) N s0 id1 0 (↑(List.length s0) : Int) 0
def v (s0 : Row) (id1 : Int) : Int := Lib.fi (fun i => decide (cvI (cellAt s0 i 0) = id1)) s0.length 0
theorem b_eq {R : Type} (kr : Int → Option R) (s0 : Row) (id1 : Int) (f0 : FitR s0) : ∃ N, b N kr s0 id1 = kr (v s0 id1) := by
  refine ⟨s0.length + 1, ?_⟩
  refine Lib.fi_run (fun i => decide (cvI (cellAt s0 i 0) = id1)) s0.length (fun m i => l2 (s0.length + 1) (fun y5 y6 y7 y8 y9 => kr y7) (fun y10 y11 y12 y13 y14 => kr (-1)) m s0 id1 0 s0.length i) kr (fun m i hi hp => ?_) (fun m i hi hp => ?_) (fun m => ?_)
  · have e : Pu.impl_StreamLeave_1.v (cvI (cellAt s0 i 0)) (cvI (cellAt s0 i 1)) id1 = true := hp
    simp only [l2, r2, Lib.dlt, Lib.dle0, Lib.toN, hi, decide_true, Bool.true_and, cond_true, e]
  · have e : Pu.impl_StreamLeave_1.v (cvI (cellAt s0 i 0)) (cvI (cellAt s0 i 1)) id1 = false := hp
    simp only [l2, r2, Lib.dlt, Lib.dle0, Lib.toN, hi, decide_true, Bool.true_and, cond_true, e, cond_false, Lib.w64_s hi f0.1]
  · simp only [l2, r2, Lib.dlt, Nat.lt_irrefl, decide_false, cond_false]
end Go.FG.Pu.slices_IndexFunc_Readerb

namespace Go.FG.Pu.slices_DeleteFunc_Reader
def r5 {R : Type} (N : Nat) (g : Int → Int → Int → Row → Option R) (k0 : Int → Int → Int → Row → Option R) (x0 : Int) (x1 : Int) (x2 : Int) (x3 : Row) : Option R := bif (decide (x2 < (↑(List.length x3) : Int))) then (bif (decide (0 ≤ x2) && decide (x2 < (↑(List.length x3) : Int))) then (bif (!Pu.impl_StreamLeave_1.v (cvI (cellAt x3 (Int.toNat x2) 0)) (cvI (cellAt x3 (Int.toNat x2) 1)) x0) then (bif (decide (0 ≤ x1) && decide (x1 < (↑(List.length x3) : Int))) then (g x0 (w64 (x1 + 1)) (w64 (x2 + 1)) (setC x3 (Int.toNat x1) 0 [CV.i IntKind.i64 (cvI (cellAt x3 (Int.toNat x2) 0)), CV.i IntKind.i64 (cvI (cellAt x3 (Int.toNat x2) 1))])) else (none)) else (g x0 x1 (w64 (x2 + 1)) x3)) else (none)) else (k0 x0 x1 x2 x3)
def l5 {R : Type} (N : Nat) (k0 : Int → Int → Int → Row → Option R) : Nat → Int → Int → Int → Row → Option R
  | 0 => (fun _ _ _ _ => none)
  | n + 1 => (fun x0 x1 x2 x3 => r5 N (l5 N k0 n) k0 x0 x1 x2 x3)
def b {R : Type} (N : Nat) (kr : Row → Option R) (s0 : Row) (id1 : Int) : Option R := bif (decide (Pu.slices_IndexFunc_Readerb.v s0 id1 = Int.neg 1)) then (kr s0) else (l5 N (fun y4 y5 y6 y7 => bif (inB y5 (↑(List.length y7) : Int) (↑(List.length y7) : Int)) then (bif (inB 0 y5 (↑(List.length (List.take (Int.toNat y5) y7 ++ zeros [Ck.i IntKind.i64, Ck.i IntKind.i64] (Int.toNat (↑(List.length y7) : Int) - Int.toNat y5) ++ List.drop (Int.toNat (↑(List.length y7) : Int)) y7)) : Int)) then (kr (view (List.take (Int.toNat y5) y7 ++ zeros [Ck.i IntKind.i64, Ck.i IntKind.i64] (Int.toNat (↑(List.length y7) : Int) - Int.toNat y5) ++ List.drop (Int.toNat (↑(List.length y7) : Int)) y7) (Int.toNat 0) (Int.toNat y5))) else (none)) else (none)) N id1 (Pu.slices_IndexFunc_Readerb.v s0 id1) (w64 (Pu.slices_IndexFunc_Readerb.v s0 id1 + 1)) s0)
def cn (y : List CV) : Bool := match y with | [.i .i64 _, .i .i64 _] => true | _ => false
def cr (y : List CV) : List CV := [CV.i IntKind.i64 (cvI (y.getD 0 (.b false))), CV.i IntKind.i64 (cvI (y.getD 1 (.b false)))]
theorem cr_of {y : List CV} (h : cn y = true) : cr y = y := by
  unfold cn at h
  split at h
  · rfl
  · cases h
theorem len_of {y : List CV} (h : cn y = true) : y.length = 2 := by rw [← cr_of h]; rfl
def keep (d : Int) (y : List CV) : Bool := !decide (cvI (y.getD 0 (.b false)) = d)
def v (s0 : Row) (del1 : Int) : Row := s0.filter (keep del1)
def c (s0 : Row) (del1 : Int) : Bool := s0.all cn
theorem filter_succ (d : Int) {s : Row} {i : Nat} (h : i < s.length) : (s.take (i + 1)).filter (keep d) = (s.take i).filter (keep d) ++ (bif keep d s[i] then [s[i]] else []) := by
  rw [List.take_succ_eq_append_getElem h, List.filter_append]
  cases hk : keep d s[i] <;> simp [hk]
theorem run {R : Type} (N : Nat) (s0 : Row) (d : Int) (hc : s0.all cn = true) (hn : s0.length ≤ 9223372036854775807) (K : Int → Int → Int → Row → Option R) (kr : Row → Option R)
    (hK : ∀ (j : Nat) x, x.length = s0.length → j ≤ s0.length → K d j s0.length x = kr (x.take j)) (m j i : Nat) (x : Row)
    (hi : j < i ∧ i ≤ s0.length ∧ x.length = s0.length ∧ (∀ y ∈ x, y.length = 2) ∧ x.take j = (s0.take i).filter (keep d) ∧ x.drop i = s0.drop i) (hm : s0.length - i < m) :
    l5 N K m d j i x = kr (s0.filter (keep d)) := by
  have hca : ∀ y ∈ s0, cn y = true := List.all_eq_true.1 hc
  refine Lib.loop_gen (fun m (s : Nat × Nat × Row) => l5 N K m d s.1 s.2.1 s.2.2) (fun s => s0.length - s.2.1)
    (fun s => s.1 < s.2.1 ∧ s.2.1 ≤ s0.length ∧ s.2.2.length = s0.length ∧ (∀ y ∈ s.2.2, y.length = 2) ∧ s.2.2.take s.1 = (s0.take s.2.1).filter (keep d) ∧ s.2.2.drop s.2.1 = s0.drop s.2.1)
    (fun _ => kr (s0.filter (keep d))) (fun m s hs => ?_) m (j, i, x) hi hm
  obtain ⟨j, i, x⟩ := s
  obtain ⟨h1, h2, h3, h4, h5, h6⟩ := hs
  simp only at h1 h2 h3 h4 h5 h6 ⊢
  by_cases hin : i < s0.length
  · right
    have hix : i < x.length := by omega
    have hjx : j < x.length := by omega
    have hx : x[i] = s0[i] := by
      have e1 := Lib.drop_cons_of hix
      have e2 := Lib.drop_cons_of hin
      rw [h6, e2] at e1
      exact (List.cons.inj e1).1.symm
    have hd : x.drop (i + 1) = s0.drop (i + 1) := by
      have e1 := Lib.drop_cons_of hix
      have e2 := Lib.drop_cons_of hin
      rw [h6, e2] at e1
      exact (List.cons.inj e1).2.symm
    have hcn := hca _ (List.getElem_mem hin)
    have hf := filter_succ d hin
    cases hk : keep d s0[i] with
    | true =>
      refine ⟨(j + 1, i + 1, x.set j s0[i]), ?_, by simp only; omega, trivial, ?_⟩
      · rw [hk, cond_true, ← h5] at hf
        refine ⟨by simp only; omega, by simp only; omega, by simpa using h3, ?_, ?_, ?_⟩
        · intro y hy
          rcases List.mem_or_eq_of_mem_set hy with h | h
          · exact h4 y h
          · rw [h]; exact len_of hcn
        · rw [hf]
          rw [List.take_succ_eq_append_getElem (by simpa using hjx)]
          simp [List.take_set_of_le]
        · simp only
          rw [List.drop_set_of_lt (by omega)]; exact hd
      · have e : Pu.impl_StreamLeave_1.v (cvI (cellAt x i 0)) (cvI (cellAt x i 1)) d = false := by
          have : (!Pu.impl_StreamLeave_1.v (cvI (cellAt x i 0)) (cvI (cellAt x i 1)) d) = true := by
            rw [Lib.cellAt_of hix, hx]; exact hk
          simpa using this
        have es : setC x j 0 [CV.i IntKind.i64 (cvI (cellAt x i 0)), CV.i IntKind.i64 (cvI (cellAt x i 1))] = x.set j s0[i] := by
          have hl := h4 _ (List.getElem_mem hjx)
          rw [Lib.setC_eq hjx, Lib.cellAt_of hix, Lib.cellAt_of hix, hx]
          have : splice x[j] 0 (cr s0[i]) = s0[i] := by
            rw [cr_of hcn]
            unfold splice
            have := len_of hcn
            simp [hl, this, List.drop_eq_nil_of_le]
          unfold cr at this
          rw [this]
        have b1 : (j : Int) < (x.length : Int) := by omega
        simp only [l5, r5, Lib.dlt, Lib.dle0, Lib.toN, hix, hjx, decide_true, Bool.true_and, cond_true, e, Bool.not_false, es, Lib.w64_s hin hn, Lib.w64_s (show j < s0.length by omega) hn]
    | false =>
      refine ⟨(j, i + 1, x), ?_, by simp only; omega, trivial, ?_⟩
      · rw [hk, cond_false, List.append_nil, ← h5] at hf
        exact ⟨by simp only; omega, by simp only; omega, h3, h4, hf.symm, hd⟩
      · have e : Pu.impl_StreamLeave_1.v (cvI (cellAt x i 0)) (cvI (cellAt x i 1)) d = true := by
          have : (!Pu.impl_StreamLeave_1.v (cvI (cellAt x i 0)) (cvI (cellAt x i 1)) d) = false := by
            rw [Lib.cellAt_of hix, hx]; exact hk
          simpa using this
        simp only [l5, r5, Lib.dlt, Lib.dle0, Lib.toN, hix, decide_true, Bool.true_and, cond_true, e, Bool.not_true, cond_false, Lib.w64_s hin hn]
  · left
    have : i = s0.length := by omega
    subst this
    rw [List.take_length] at h5
    have e := hK j x h3 (by omega)
    rw [h5] at e
    have hix : ¬ s0.length < x.length := by omega
    simp only [l5, r5, Lib.dlt, hix, decide_false, cond_false, e]
theorem b_eq {R : Type} (kr : Row → Option R) (s0 : Row) (del1 : Int) (hc : c s0 del1 = true) (f0 : FitR s0) : ∃ N, b N kr s0 del1 = kr (v s0 del1) := by
  refine ⟨s0.length + 1, ?_⟩
  have hn := f0.1
  unfold b v
  rcases Lib.fi_rng (fun i => decide (cvI (cellAt s0 i 0) = del1)) s0.length 0 with ⟨h, hall⟩ | ⟨k, _, hk2, hk, hkp, hbef⟩
  · have hv : Pu.slices_IndexFunc_Readerb.v s0 del1 = -1 := h
    have : s0.filter (keep del1) = s0 := by
      rw [List.filter_eq_self]
      intro y hy
      obtain ⟨i, hi, rfl⟩ := List.getElem_of_mem hy
      have := hall i (Nat.zero_le _) (by omega)
      rw [Lib.cellAt_of hi] at this
      unfold keep; rw [this]; rfl
    rw [hv, this]; rfl
  · have hv : Pu.slices_IndexFunc_Readerb.v s0 del1 = (k : Int) := hk
    have hkl : k < s0.length := by omega
    have hne : decide ((k : Int) = Int.neg 1) = false := decide_eq_false (by show ¬ (k : Int) = -1; omega)
    rw [hv, hne, cond_false, Lib.w64_s hkl hn]
    have hca : ∀ y ∈ s0, cn y = true := List.all_eq_true.1 hc
    refine run _ s0 del1 hc hn _ kr (fun j x hx hj => ?_) _ k (k + 1) s0 ⟨by omega, by omega, rfl, fun y hy => len_of (hca y hy), ?_, rfl⟩ (by omega)
    · have b1 : inB (j : Int) (s0.length : Int) (s0.length : Int) = true := by simp [inB]; omega
      have e : List.take j x ++ zeros [Ck.i IntKind.i64, Ck.i IntKind.i64] (s0.length - j) ++ List.drop s0.length x = List.take j x ++ zeros [Ck.i IntKind.i64, Ck.i IntKind.i64] (s0.length - j) := by
        rw [List.drop_eq_nil_of_le (by omega), List.append_nil]
      have hl : (List.take j x).length = j := by simp; omega
      simp only [hx, Lib.toN, b1, cond_true, e]
      rw [Lib.bif_t (by simp [inB]; omega)]
      unfold view
      rw [show Int.toNat 0 = 0 from rfl, List.drop_zero, Nat.sub_zero, List.take_append_of_le_length (by omega), List.take_of_length_le (by omega)]
    · rw [filter_succ del1 hkl]
      have e1 : keep del1 s0[k] = false := by
        rw [Lib.cellAt_of hkl] at hkp
        unfold keep; rw [hkp]; rfl
      have e2 : (s0.take k).filter (keep del1) = s0.take k := by
        rw [List.filter_eq_self]
        intro y hy
        obtain ⟨i, hi, rfl⟩ := List.getElem_of_mem hy
        have hik : i < k := by simp at hi; omega
        have := hbef i (Nat.zero_le _) hik
        rw [Lib.cellAt_of (by omega)] at this
        rw [List.getElem_take]
        unfold keep; rw [this]; rfl
      rw [e1, e2, cond_false, List.append_nil]
end Go.FG.Pu.slices_DeleteFunc_Reader

namespace Go.FG.Pu.spec_StreamLeave
def r3 {R : Type} (N : Nat) (g : Int → Int → Int → ByteArray → Row → Int → ByteArray → Int → ByteArray → Option R) (g1 : Int → Int → Int → ByteArray → Row → Int → ByteArray → Int → ByteArray → Row → Option R) (k0 : Int → Int → Int → ByteArray → Row → Int → ByteArray → Int → ByteArray → Option R) (k1 : Int → Int → Int → ByteArray → Row → Int → ByteArray → Int → ByteArray → Row → Option R) (x0 : Int) (x1 : Int) (x2 : Int) (x3 : ByteArray) (x4 : Row) (x5 : Int) (x6 : ByteArray) (x7 : Int) (x8 : ByteArray) : Option R := bif (decide (x1 < (↑(List.length x4) : Int))) then (bif (decide (0 ≤ x1) && decide (x1 < (↑(List.length x4) : Int))) then (bif (cvI (cellAt x4 (Int.toNat x1) 0) != x0) then (bif (decide (0 ≤ x1) && decide (x1 < (↑(List.length x4) : Int))) then (g1 x0 (w64 (x1 + 1)) x2 x3 x4 x5 x6 x7 x8 ([] ++ List.set (zeros [Ck.i IntKind.i64, Ck.i IntKind.i64] 1) 0 [CV.i IntKind.i64 (cvI (cellAt x4 (Int.toNat x1) 0)), CV.i IntKind.i64 (cvI (cellAt x4 (Int.toNat x1) 1))])) else (none)) else (g x0 (w64 (x1 + 1)) x2 x3 x4 x5 x6 x7 x8)) else (none)) else (k0 x0 x1 x2 x3 x4 x5 x6 x7 x8)
def r3a {R : Type} (N : Nat) (g : Int → Int → Int → ByteArray → Row → Int → ByteArray → Int → ByteArray → Option R) (g1 : Int → Int → Int → ByteArray → Row → Int → ByteArray → Int → ByteArray → Row → Option R) (k0 : Int → Int → Int → ByteArray → Row → Int → ByteArray → Int → ByteArray → Option R) (k1 : Int → Int → Int → ByteArray → Row → Int → ByteArray → Int → ByteArray → Row → Option R) (x9 : Int) (x10 : Int) (x11 : Int) (x12 : ByteArray) (x13 : Row) (x14 : Int) (x15 : ByteArray) (x16 : Int) (x17 : ByteArray) (x18 : Row) : Option R := bif (decide (x10 < (↑(List.length x13) : Int))) then (bif (decide (0 ≤ x10) && decide (x10 < (↑(List.length x13) : Int))) then (bif (cvI (cellAt x13 (Int.toNat x10) 0) != x9) then (bif (decide (0 ≤ x10) && decide (x10 < (↑(List.length x13) : Int))) then (bif (roomy (List.length x18 + List.length (List.set (zeros [Ck.i IntKind.i64, Ck.i IntKind.i64] 1) 0 [CV.i IntKind.i64 (cvI (cellAt x13 (Int.toNat x10) 0)), CV.i IntKind.i64 (cvI (cellAt x13 (Int.toNat x10) 1))])) 16) then (g1 x9 (w64 (x10 + 1)) x11 x12 x13 x14 x15 x16 x17 (x18 ++ List.set (zeros [Ck.i IntKind.i64, Ck.i IntKind.i64] 1) 0 [CV.i IntKind.i64 (cvI (cellAt x13 (Int.toNat x10) 0)), CV.i IntKind.i64 (cvI (cellAt x13 (Int.toNat x10) 1))])) else (none)) else (none)) else (g1 x9 (w64 (x10 + 1)) x11 x12 x13 x14 x15 x16 x17 x18)) else (none)) else (k1 x9 x10 x11 x12 x13 x14 x15 x16 x17 x18)
def l3a {R : Type} (N : Nat) (k0 : Int → Int → Int → ByteArray → Row → Int → ByteArray → Int → ByteArray → Option R) (k1 : Int → Int → Int → ByteArray → Row → Int → ByteArray → Int → ByteArray → Row → Option R) : Nat → Int → Int → Int → ByteArray → Row → Int → ByteArray → Int → ByteArray → Row → Option R
  | 0 => (fun _ _ _ _ _ _ _ _ _ _ => none)
  | n + 1 => (fun x9 x10 x11 x12 x13 x14 x15 x16 x17 x18 => r3a N (fun x0 x1 x2 x3 x4 x5 x6 x7 x8 => none) (l3a N k0 k1 n) k0 k1 x9 x10 x11 x12 x13 x14 x15 x16 x17 x18)
def l3 {R : Type} (N : Nat) (k0 : Int → Int → Int → ByteArray → Row → Int → ByteArray → Int → ByteArray → Option R) (k1 : Int → Int → Int → ByteArray → Row → Int → ByteArray → Int → ByteArray → Row → Option R) : Nat → Int → Int → Int → ByteArray → Row → Int → ByteArray → Int → ByteArray → Option R
  | 0 => (fun _ _ _ _ _ _ _ _ _ => none)
  | n + 1 => (fun x0 x1 x2 x3 x4 x5 x6 x7 x8 => r3 N (l3 N k0 k1 n) (l3a N k0 k1 n) k0 k1 x0 x1 x2 x3 x4 x5 x6 x7 x8)
def b {R : Type} (N : Nat) (kr : Int → ByteArray → Row → Option R) (s0_0 : Int) (s0_1 : ByteArray) (s0_2 : Row) (id1 : Int) : Option R := l3 N (fun y19 y20 y21 y22 y23 y24 y25 y26 y27 => kr y26 y27 []) (fun y28 y29 y30 y31 y32 y33 y34 y35 y36 y37 => kr y35 y36 y37) N id1 0 s0_0 s0_1 s0_2 0 ({ data := #[] }) s0_0 s0_1
def f (id1 : Int) (s : Row) : Row := (s.filter (Pu.slices_DeleteFunc_Reader.keep id1)).map Pu.slices_DeleteFunc_Reader.cr
def v (s0_0 : Int) (s0_1 : ByteArray) (s0_2 : Row) (id1 : Int) : Int × ByteArray × Row := (s0_0, s0_1, f id1 s0_2)
def c (s0_0 : Int) (s0_1 : ByteArray) (s0_2 : Row) (id1 : Int) : Bool := decide (s0_2.length ≤ 4294967296)
theorem f_cons (id1 : Int) {s : Row} {i : Nat} (h : i < s.length) : f id1 (s.drop i) = (bif Pu.slices_DeleteFunc_Reader.keep id1 s[i] then [Pu.slices_DeleteFunc_Reader.cr s[i]] else []) ++ f id1 (s.drop (i + 1)) := by
  unfold f
  rw [Lib.drop_cons_of h]
  cases hk : Pu.slices_DeleteFunc_Reader.keep id1 s[i] with
  | true => rw [List.filter_cons_of_pos hk]; rfl
  | false => rw [List.filter_cons_of_neg (by rw [hk]; exact Bool.false_ne_true)]; rfl
theorem f_len (id1 : Int) (s : Row) : (f id1 s).length ≤ s.length := by
  unfold f; rw [List.length_map]; exact List.length_filter_le _ _
theorem ne_eq {s : Row} {i : Nat} (id1 : Int) (h : i < s.length) : (cvI (cellAt s i 0) != id1) = Pu.slices_DeleteFunc_Reader.keep id1 s[i] := by
  rw [Lib.cellAt_of h]; unfold Pu.slices_DeleteFunc_Reader.keep
  cases hd : decide (cvI (s[i].getD 0 (CV.b false)) = id1) with
  | true => rw [of_decide_eq_true hd]; simp
  | false => exact bne_iff_ne.mpr (of_decide_eq_false hd)
theorem cr_eq {s : Row} {i : Nat} (h : i < s.length) : List.set (zeros [Ck.i IntKind.i64, Ck.i IntKind.i64] 1) 0 [CV.i IntKind.i64 (cvI (cellAt s i 0)), CV.i IntKind.i64 (cvI (cellAt s i 1))] = [Pu.slices_DeleteFunc_Reader.cr s[i]] := by
  rw [Lib.len_set1, Lib.cellAt_of h, Lib.cellAt_of h]; rfl
theorem b_eq {R : Type} (kr : Int → ByteArray → Row → Option R) (s0_0 : Int) (s0_1 : ByteArray) (s0_2 : Row) (id1 : Int) (hc : c s0_0 s0_1 s0_2 id1 = true) : ∃ N, b N kr s0_0 s0_1 s0_2 id1 = kr (v s0_0 s0_1 s0_2 id1).1 (v s0_0 s0_1 s0_2 id1).2.1 (v s0_0 s0_1 s0_2 id1).2.2 := by
  have hl : s0_2.length ≤ 4294967296 := of_decide_eq_true hc
  refine ⟨s0_2.length + 1, ?_⟩
  unfold b v
  have hB : ∀ (m i : Nat) (w : Row), i ≤ s0_2.length → w.length ≤ i → s0_2.length - i < m → l3a (s0_2.length + 1) (fun y19 y20 y21 y22 y23 y24 y25 y26 y27 => kr y26 y27 []) (fun y28 y29 y30 y31 y32 y33 y34 y35 y36 y37 => kr y35 y36 y37) m id1 i s0_0 s0_1 s0_2 0 ({ data := #[] }) s0_0 s0_1 w = kr s0_0 s0_1 (w ++ f id1 (s0_2.drop i)) := by
    intro m i w h1 h2 h3
    refine Lib.loop_gen (fun m (s : Nat × Row) => l3a (s0_2.length + 1) (fun y19 y20 y21 y22 y23 y24 y25 y26 y27 => kr y26 y27 []) (fun y28 y29 y30 y31 y32 y33 y34 y35 y36 y37 => kr y35 y36 y37) m id1 s.1 s0_0 s0_1 s0_2 0 ({ data := #[] }) s0_0 s0_1 s.2)
      (fun s => s0_2.length - s.1) (fun s => s.1 ≤ s0_2.length ∧ s.2.length ≤ s.1) (fun s => kr s0_0 s0_1 (s.2 ++ f id1 (s0_2.drop s.1))) (fun m s hs => ?_) m (i, w) ⟨h1, h2⟩ h3
    obtain ⟨i, w⟩ := s
    obtain ⟨h1, h2⟩ := hs
    simp only at h1 h2 ⊢
    by_cases hin : i < s0_2.length
    · right
      have hf := f_cons id1 hin
      have hr : roomy (w.length + [Pu.slices_DeleteFunc_Reader.cr s0_2[i]].length) 16 = true := Lib.roomy_of (by simp only [List.length_singleton]; omega) (by simp only [List.length_singleton]; omega)
      cases hk : Pu.slices_DeleteFunc_Reader.keep id1 s0_2[i] with
      | true =>
        rw [hk, cond_true] at hf
        refine ⟨(i + 1, w ++ [Pu.slices_DeleteFunc_Reader.cr s0_2[i]]), ⟨hin, by simp; omega⟩, by simp only; omega, by simp only [hf, List.append_assoc], ?_⟩
        simp only [l3a, r3a, Lib.dlt, Lib.dle0, Lib.toN, hin, decide_true, Bool.true_and, cond_true, ne_eq id1 hin, hk, cr_eq hin, hr, Lib.w64_s hin (by omega)]
      | false =>
        rw [hk, cond_false, List.nil_append] at hf
        refine ⟨(i + 1, w), ⟨hin, by simp only; omega⟩, by simp only; omega, by simp only [hf], ?_⟩
        simp only [l3a, r3a, Lib.dlt, Lib.dle0, Lib.toN, hin, decide_true, Bool.true_and, cond_true, cond_false, ne_eq id1 hin, hk, Lib.w64_s hin (by omega)]
    · left
      have : i = s0_2.length := by omega
      subst this
      simp only [l3a, r3a, Lib.dlt, Nat.lt_irrefl, decide_false, cond_false, List.drop_length]
      rw [show f id1 [] = [] from rfl, List.append_nil]
  have hA : ∀ (m i : Nat), i ≤ s0_2.length → s0_2.length - i < m → l3 (s0_2.length + 1) (fun y19 y20 y21 y22 y23 y24 y25 y26 y27 => kr y26 y27 []) (fun y28 y29 y30 y31 y32 y33 y34 y35 y36 y37 => kr y35 y36 y37) m id1 i s0_0 s0_1 s0_2 0 ({ data := #[] }) s0_0 s0_1 = kr s0_0 s0_1 (f id1 (s0_2.drop i)) := by
    intro m
    induction m with
    | zero => intro i _ h; omega
    | succ m ih =>
      intro i h1 h2
      by_cases hin : i < s0_2.length
      · have hf := f_cons id1 hin
        cases hk : Pu.slices_DeleteFunc_Reader.keep id1 s0_2[i] with
        | true =>
          rw [hk, cond_true] at hf
          have e := hB m (i + 1) [Pu.slices_DeleteFunc_Reader.cr s0_2[i]] hin (by simp) (by omega)
          rw [hf, ← e]
          simp only [l3, r3, Lib.dlt, Lib.dle0, Lib.toN, hin, decide_true, Bool.true_and, cond_true, ne_eq id1 hin, hk, cr_eq hin, Lib.w64_s hin (show s0_2.length ≤ 9223372036854775807 by omega), List.nil_append]
        | false =>
          rw [hk, cond_false, List.nil_append] at hf
          have e := ih (i + 1) hin (by omega)
          rw [hf, ← e]
          simp only [l3, r3, Lib.dlt, Lib.dle0, Lib.toN, hin, decide_true, Bool.true_and, cond_true, cond_false, ne_eq id1 hin, hk, Lib.w64_s hin (show s0_2.length ≤ 9223372036854775807 by omega)]
      · have : i = s0_2.length := by omega
        subst this
        simp only [l3, r3, Lib.dlt, Nat.lt_irrefl, decide_false, cond_false, List.drop_length]
        rfl
  have := hA (s0_2.length + 1) 0 (Nat.zero_le _) (by omega)
  rw [List.drop_zero] at this
  exact this
end Go.FG.Pu.spec_StreamLeave

namespace Go.FG.Pu.spec_l01Once
def b {R : Type} (kr : Bool → Row → Int → Int → Option R) (c0_0 : Row) (c0_1 : Int) (c0_2 : Int) (n1 : Int) : Option R := bif (Pu.spec_l01Below.c c0_0 c0_1 c0_2 n1) then (kr (decide ((Pu.spec_l01Below.v c0_0 c0_1 c0_2 n1).1 = 0)) ((Pu.spec_l01Below.v c0_0 c0_1 c0_2 n1).2.1) ((Pu.spec_l01Below.v c0_0 c0_1 c0_2 n1).2.2.1) ((Pu.spec_l01Below.v c0_0 c0_1 c0_2 n1).2.2.2)) else (none)
theorem b_bind {R : Type} (kr : Bool → Row → Int → Int → Option R) (c0_0 : Row) (c0_1 : Int) (c0_2 : Int) (n1 : Int) : b kr c0_0 c0_1 c0_2 n1 = Option.bind (b (fun r0 r1 r2 r3 => some (r0, r1, r2, r3)) c0_0 c0_1 c0_2 n1) (fun p => kr p.1 p.2.1 p.2.2.1 p.2.2.2) := by
  unfold b; simp only [Lib.cond_bind, Lib.some_bind, Lib.none_bind]
def vo (c0_0 : Row) (c0_1 : Int) (c0_2 : Int) (n1 : Int) : Option (Bool × Row × Int × Int) := b (fun r0 r1 r2 r3 => some (r0, r1, r2, r3)) c0_0 c0_1 c0_2 n1
def c (c0_0 : Row) (c0_1 : Int) (c0_2 : Int) (n1 : Int) : Bool := Option.isSome (vo c0_0 c0_1 c0_2 n1)
def v (c0_0 : Row) (c0_1 : Int) (c0_2 : Int) (n1 : Int) : Bool × Row × Int × Int := Option.getD (vo c0_0 c0_1 c0_2 n1) (false, [], 0, 0)
theorem out (c0_0 : Row) (c0_1 : Int) (c0_2 : Int) (n1 : Int) {x : Bool × Row × Int × Int} (h : vo c0_0 c0_1 c0_2 n1 = some x) : c c0_0 c0_1 c0_2 n1 = true ∧ v c0_0 c0_1 c0_2 n1 = x := by
  unfold c v; rw [h]; exact ⟨rfl, rfl⟩
theorem b_eq {R : Type} (kr : Bool → Row → Int → Int → Option R) (c0_0 : Row) (c0_1 : Int) (c0_2 : Int) (n1 : Int) (hc : c c0_0 c0_1 c0_2 n1 = true) : b kr c0_0 c0_1 c0_2 n1 = kr ((v c0_0 c0_1 c0_2 n1).1) ((v c0_0 c0_1 c0_2 n1).2.1) ((v c0_0 c0_1 c0_2 n1).2.2.1) ((v c0_0 c0_1 c0_2 n1).2.2.2) := by
  rw [b_bind]
  have e : vo c0_0 c0_1 c0_2 n1 = some (v c0_0 c0_1 c0_2 n1) := by
    unfold c at hc; unfold v
    cases h : vo c0_0 c0_1 c0_2 n1 with
    | none => rw [h] at hc; cases hc
    | some x => rfl
  unfold vo at e
  rw [e]; rfl
end Go.FG.Pu.spec_l01Once

namespace Go.FG.Pu.spec_StreamEnd
def b {R : Type} (kr : Int → ByteArray → Row → Bool → Option R) (s0_0 : Int) (s0_1 : ByteArray) (s0_2 : Row) (broken1 : Bool) : Option R := bif (Pu.spec_l14Copy.c s0_0 s0_1 s0_2) then (bif (!Pu.spec_StreamOk.v s0_0 s0_1 s0_2) then (kr s0_0 s0_1 s0_2 false) else (bif (s0_0 != 1) then (kr s0_0 s0_1 s0_2 false) else (bif broken1 then (kr 3 s0_1 s0_2 true) else (kr 2 s0_1 s0_2 true)))) else (none)
def v (s0_0 : Int) (s0_1 : ByteArray) (s0_2 : Row) (broken1 : Bool) : Int × ByteArray × Row × Bool :=
  if Pu.spec_StreamOk.v s0_0 s0_1 s0_2 = true ∧ s0_0 = 1 then ((if broken1 = true then 3 else 2), s0_1, s0_2, true) else (s0_0, s0_1, s0_2, false)
def c (s0_0 : Int) (s0_1 : ByteArray) (s0_2 : Row) (broken1 : Bool) : Bool := decide (s0_2.length ≤ 4294967296)
theorem b_eq {R : Type} (kr : Int → ByteArray → Row → Bool → Option R) (s0_0 : Int) (s0_1 : ByteArray) (s0_2 : Row) (broken1 : Bool) (hc : c s0_0 s0_1 s0_2 broken1 = true) : b kr s0_0 s0_1 s0_2 broken1 = kr (v s0_0 s0_1 s0_2 broken1).1 (v s0_0 s0_1 s0_2 broken1).2.1 (v s0_0 s0_1 s0_2 broken1).2.2.1 (v s0_0 s0_1 s0_2 broken1).2.2.2 := by
  have e1 : Pu.spec_l14Copy.c s0_0 s0_1 s0_2 = true := hc
  have e2 : ∀ a b c, Pu.spec_StreamOk.v a b c = Pu.spec_StreamOk.v a b c := fun _ _ _ => rfl
  unfold b v
  rw [e1, e2, cond_true]
  cases h1 : Pu.spec_StreamOk.v s0_0 s0_1 s0_2 with
  | false => simp
  | true =>
    by_cases h2 : s0_0 = 1
    · cases broken1 <;> simp [h2]
    · have hne : (s0_0 != 1) = true := bne_iff_ne.mpr h2
      rw [if_neg (by simp [h2]), hne]; rfl
end Go.FG.Pu.spec_StreamEnd

namespace Go.FG.Pu.spec_l14Stream
def r3 {R : Type} (N : Nat) (g : Int → Row → Int → Int → Int → ByteArray → Int → ByteArray → Row → Option R) (k0 : Int → Row → Int → Int → Int → ByteArray → Int → ByteArray → Row → Option R) (x0 : Int) (x1 : Row) (x2 : Int) (x3 : Int) (x4 : Int) (x5 : ByteArray) (x6 : Int) (x7 : ByteArray) (x8 : Row) : Option R := bif (Pu.spec_l01Below.c x1 x2 x3 14) then (bif (decide (x0 < (Pu.spec_l01Below.v x1 x2 x3 14).1)) then (bif (Pu.spec_l01Below.c (Pu.spec_l01Below.v x1 x2 x3 14).2.1 (Pu.spec_l01Below.v x1 x2 x3 14).2.2.1 (Pu.spec_l01Below.v x1 x2 x3 14).2.2.2 6) then (bif (decide ((Pu.spec_l01Below.v (Pu.spec_l01Below.v x1 x2 x3 14).2.1 (Pu.spec_l01Below.v x1 x2 x3 14).2.2.1 (Pu.spec_l01Below.v x1 x2 x3 14).2.2.2 6).1 = 0)) then (bif (Pu.spec_l01Below.c (Pu.spec_l01Below.v (Pu.spec_l01Below.v x1 x2 x3 14).2.1 (Pu.spec_l01Below.v x1 x2 x3 14).2.2.1 (Pu.spec_l01Below.v x1 x2 x3 14).2.2.2 6).2.1 (Pu.spec_l01Below.v (Pu.spec_l01Below.v x1 x2 x3 14).2.1 (Pu.spec_l01Below.v x1 x2 x3 14).2.2.1 (Pu.spec_l01Below.v x1 x2 x3 14).2.2.2 6).2.2.1 (Pu.spec_l01Below.v (Pu.spec_l01Below.v x1 x2 x3 14).2.1 (Pu.spec_l01Below.v x1 x2 x3 14).2.2.1 (Pu.spec_l01Below.v x1 x2 x3 14).2.2.2 6).2.2.2 6) then (bif (Pu.spec_l01Text.c (Pu.spec_l01Below.v (Pu.spec_l01Below.v (Pu.spec_l01Below.v x1 x2 x3 14).2.1 (Pu.spec_l01Below.v x1 x2 x3 14).2.2.1 (Pu.spec_l01Below.v x1 x2 x3 14).2.2.2 6).2.1 (Pu.spec_l01Below.v (Pu.spec_l01Below.v x1 x2 x3 14).2.1 (Pu.spec_l01Below.v x1 x2 x3 14).2.2.1 (Pu.spec_l01Below.v x1 x2 x3 14).2.2.2 6).2.2.1 (Pu.spec_l01Below.v (Pu.spec_l01Below.v x1 x2 x3 14).2.1 (Pu.spec_l01Below.v x1 x2 x3 14).2.2.1 (Pu.spec_l01Below.v x1 x2 x3 14).2.2.2 6).2.2.2 6).2.1 (Pu.spec_l01Below.v (Pu.spec_l01Below.v (Pu.spec_l01Below.v x1 x2 x3 14).2.1 (Pu.spec_l01Below.v x1 x2 x3 14).2.2.1 (Pu.spec_l01Below.v x1 x2 x3 14).2.2.2 6).2.1 (Pu.spec_l01Below.v (Pu.spec_l01Below.v x1 x2 x3 14).2.1 (Pu.spec_l01Below.v x1 x2 x3 14).2.2.1 (Pu.spec_l01Below.v x1 x2 x3 14).2.2.2 6).2.2.1 (Pu.spec_l01Below.v (Pu.spec_l01Below.v x1 x2 x3 14).2.1 (Pu.spec_l01Below.v x1 x2 x3 14).2.2.1 (Pu.spec_l01Below.v x1 x2 x3 14).2.2.2 6).2.2.2 6).2.2.1 (Pu.spec_l01Below.v (Pu.spec_l01Below.v (Pu.spec_l01Below.v x1 x2 x3 14).2.1 (Pu.spec_l01Below.v x1 x2 x3 14).2.2.1 (Pu.spec_l01Below.v x1 x2 x3 14).2.2.2 6).2.1 (Pu.spec_l01Below.v (Pu.spec_l01Below.v x1 x2 x3 14).2.1 (Pu.spec_l01Below.v x1 x2 x3 14).2.2.1 (Pu.spec_l01Below.v x1 x2 x3 14).2.2.2 6).2.2.1 (Pu.spec_l01Below.v (Pu.spec_l01Below.v x1 x2 x3 14).2.1 (Pu.spec_l01Below.v x1 x2 x3 14).2.2.1 (Pu.spec_l01Below.v x1 x2 x3 14).2.2.2 6).2.2.2 6).2.2.2 (w64 (1 + (Pu.spec_l01Below.v (Pu.spec_l01Below.v (Pu.spec_l01Below.v x1 x2 x3 14).2.1 (Pu.spec_l01Below.v x1 x2 x3 14).2.2.1 (Pu.spec_l01Below.v x1 x2 x3 14).2.2.2 6).2.1 (Pu.spec_l01Below.v (Pu.spec_l01Below.v x1 x2 x3 14).2.1 (Pu.spec_l01Below.v x1 x2 x3 14).2.2.1 (Pu.spec_l01Below.v x1 x2 x3 14).2.2.2 6).2.2.1 (Pu.spec_l01Below.v (Pu.spec_l01Below.v x1 x2 x3 14).2.1 (Pu.spec_l01Below.v x1 x2 x3 14).2.2.1 (Pu.spec_l01Below.v x1 x2 x3 14).2.2.2 6).2.2.2 6).1))) then (bif (Pu.spec_StreamPut.c x6 x7 x8 (Pu.spec_l01Text.v (Pu.spec_l01Below.v (Pu.spec_l01Below.v (Pu.spec_l01Below.v x1 x2 x3 14).2.1 (Pu.spec_l01Below.v x1 x2 x3 14).2.2.1 (Pu.spec_l01Below.v x1 x2 x3 14).2.2.2 6).2.1 (Pu.spec_l01Below.v (Pu.spec_l01Below.v x1 x2 x3 14).2.1 (Pu.spec_l01Below.v x1 x2 x3 14).2.2.1 (Pu.spec_l01Below.v x1 x2 x3 14).2.2.2 6).2.2.1 (Pu.spec_l01Below.v (Pu.spec_l01Below.v x1 x2 x3 14).2.1 (Pu.spec_l01Below.v x1 x2 x3 14).2.2.1 (Pu.spec_l01Below.v x1 x2 x3 14).2.2.2 6).2.2.2 6).2.1 (Pu.spec_l01Below.v (Pu.spec_l01Below.v (Pu.spec_l01Below.v x1 x2 x3 14).2.1 (Pu.spec_l01Below.v x1 x2 x3 14).2.2.1 (Pu.spec_l01Below.v x1 x2 x3 14).2.2.2 6).2.1 (Pu.spec_l01Below.v (Pu.spec_l01Below.v x1 x2 x3 14).2.1 (Pu.spec_l01Below.v x1 x2 x3 14).2.2.1 (Pu.spec_l01Below.v x1 x2 x3 14).2.2.2 6).2.2.1 (Pu.spec_l01Below.v (Pu.spec_l01Below.v x1 x2 x3 14).2.1 (Pu.spec_l01Below.v x1 x2 x3 14).2.2.1 (Pu.spec_l01Below.v x1 x2 x3 14).2.2.2 6).2.2.2 6).2.2.1 (Pu.spec_l01Below.v (Pu.spec_l01Below.v (Pu.spec_l01Below.v x1 x2 x3 14).2.1 (Pu.spec_l01Below.v x1 x2 x3 14).2.2.1 (Pu.spec_l01Below.v x1 x2 x3 14).2.2.2 6).2.1 (Pu.spec_l01Below.v (Pu.spec_l01Below.v x1 x2 x3 14).2.1 (Pu.spec_l01Below.v x1 x2 x3 14).2.2.1 (Pu.spec_l01Below.v x1 x2 x3 14).2.2.2 6).2.2.1 (Pu.spec_l01Below.v (Pu.spec_l01Below.v x1 x2 x3 14).2.1 (Pu.spec_l01Below.v x1 x2 x3 14).2.2.1 (Pu.spec_l01Below.v x1 x2 x3 14).2.2.2 6).2.2.2 6).2.2.2 (w64 (1 + (Pu.spec_l01Below.v (Pu.spec_l01Below.v (Pu.spec_l01Below.v x1 x2 x3 14).2.1 (Pu.spec_l01Below.v x1 x2 x3 14).2.2.1 (Pu.spec_l01Below.v x1 x2 x3 14).2.2.2 6).2.1 (Pu.spec_l01Below.v (Pu.spec_l01Below.v x1 x2 x3 14).2.1 (Pu.spec_l01Below.v x1 x2 x3 14).2.2.1 (Pu.spec_l01Below.v x1 x2 x3 14).2.2.2 6).2.2.1 (Pu.spec_l01Below.v (Pu.spec_l01Below.v x1 x2 x3 14).2.1 (Pu.spec_l01Below.v x1 x2 x3 14).2.2.1 (Pu.spec_l01Below.v x1 x2 x3 14).2.2.2 6).2.2.2 6).1))).1) then (g (w64 (x0 + 1)) ((Pu.spec_l01Text.v (Pu.spec_l01Below.v (Pu.spec_l01Below.v (Pu.spec_l01Below.v x1 x2 x3 14).2.1 (Pu.spec_l01Below.v x1 x2 x3 14).2.2.1 (Pu.spec_l01Below.v x1 x2 x3 14).2.2.2 6).2.1 (Pu.spec_l01Below.v (Pu.spec_l01Below.v x1 x2 x3 14).2.1 (Pu.spec_l01Below.v x1 x2 x3 14).2.2.1 (Pu.spec_l01Below.v x1 x2 x3 14).2.2.2 6).2.2.1 (Pu.spec_l01Below.v (Pu.spec_l01Below.v x1 x2 x3 14).2.1 (Pu.spec_l01Below.v x1 x2 x3 14).2.2.1 (Pu.spec_l01Below.v x1 x2 x3 14).2.2.2 6).2.2.2 6).2.1 (Pu.spec_l01Below.v (Pu.spec_l01Below.v (Pu.spec_l01Below.v x1 x2 x3 14).2.1 (Pu.spec_l01Below.v x1 x2 x3 14).2.2.1 (Pu.spec_l01Below.v x1 x2 x3 14).2.2.2 6).2.1 (Pu.spec_l01Below.v (Pu.spec_l01Below.v x1 x2 x3 14).2.1 (Pu.spec_l01Below.v x1 x2 x3 14).2.2.1 (Pu.spec_l01Below.v x1 x2 x3 14).2.2.2 6).2.2.1 (Pu.spec_l01Below.v (Pu.spec_l01Below.v x1 x2 x3 14).2.1 (Pu.spec_l01Below.v x1 x2 x3 14).2.2.1 (Pu.spec_l01Below.v x1 x2 x3 14).2.2.2 6).2.2.2 6).2.2.1 (Pu.spec_l01Below.v (Pu.spec_l01Below.v (Pu.spec_l01Below.v x1 x2 x3 14).2.1 (Pu.spec_l01Below.v x1 x2 x3 14).2.2.1 (Pu.spec_l01Below.v x1 x2 x3 14).2.2.2 6).2.1 (Pu.spec_l01Below.v (Pu.spec_l01Below.v x1 x2 x3 14).2.1 (Pu.spec_l01Below.v x1 x2 x3 14).2.2.1 (Pu.spec_l01Below.v x1 x2 x3 14).2.2.2 6).2.2.1 (Pu.spec_l01Below.v (Pu.spec_l01Below.v x1 x2 x3 14).2.1 (Pu.spec_l01Below.v x1 x2 x3 14).2.2.1 (Pu.spec_l01Below.v x1 x2 x3 14).2.2.2 6).2.2.2 6).2.2.2 (w64 (1 + (Pu.spec_l01Below.v (Pu.spec_l01Below.v (Pu.spec_l01Below.v x1 x2 x3 14).2.1 (Pu.spec_l01Below.v x1 x2 x3 14).2.2.1 (Pu.spec_l01Below.v x1 x2 x3 14).2.2.2 6).2.1 (Pu.spec_l01Below.v (Pu.spec_l01Below.v x1 x2 x3 14).2.1 (Pu.spec_l01Below.v x1 x2 x3 14).2.2.1 (Pu.spec_l01Below.v x1 x2 x3 14).2.2.2 6).2.2.1 (Pu.spec_l01Below.v (Pu.spec_l01Below.v x1 x2 x3 14).2.1 (Pu.spec_l01Below.v x1 x2 x3 14).2.2.1 (Pu.spec_l01Below.v x1 x2 x3 14).2.2.2 6).2.2.2 6).1))).2.1) ((Pu.spec_l01Text.v (Pu.spec_l01Below.v (Pu.spec_l01Below.v (Pu.spec_l01Below.v x1 x2 x3 14).2.1 (Pu.spec_l01Below.v x1 x2 x3 14).2.2.1 (Pu.spec_l01Below.v x1 x2 x3 14).2.2.2 6).2.1 (Pu.spec_l01Below.v (Pu.spec_l01Below.v x1 x2 x3 14).2.1 (Pu.spec_l01Below.v x1 x2 x3 14).2.2.1 (Pu.spec_l01Below.v x1 x2 x3 14).2.2.2 6).2.2.1 (Pu.spec_l01Below.v (Pu.spec_l01Below.v x1 x2 x3 14).2.1 (Pu.spec_l01Below.v x1 x2 x3 14).2.2.1 (Pu.spec_l01Below.v x1 x2 x3 14).2.2.2 6).2.2.2 6).2.1 (Pu.spec_l01Below.v (Pu.spec_l01Below.v (Pu.spec_l01Below.v x1 x2 x3 14).2.1 (Pu.spec_l01Below.v x1 x2 x3 14).2.2.1 (Pu.spec_l01Below.v x1 x2 x3 14).2.2.2 6).2.1 (Pu.spec_l01Below.v (Pu.spec_l01Below.v x1 x2 x3 14).2.1 (Pu.spec_l01Below.v x1 x2 x3 14).2.2.1 (Pu.spec_l01Below.v x1 x2 x3 14).2.2.2 6).2.2.1 (Pu.spec_l01Below.v (Pu.spec_l01Below.v x1 x2 x3 14).2.1 (Pu.spec_l01Below.v x1 x2 x3 14).2.2.1 (Pu.spec_l01Below.v x1 x2 x3 14).2.2.2 6).2.2.2 6).2.2.1 (Pu.spec_l01Below.v (Pu.spec_l01Below.v (Pu.spec_l01Below.v x1 x2 x3 14).2.1 (Pu.spec_l01Below.v x1 x2 x3 14).2.2.1 (Pu.spec_l01Below.v x1 x2 x3 14).2.2.2 6).2.1 (Pu.spec_l01Below.v (Pu.spec_l01Below.v x1 x2 x3 14).2.1 (Pu.spec_l01Below.v x1 x2 x3 14).2.2.1 (Pu.spec_l01Below.v x1 x2 x3 14).2.2.2 6).2.2.1 (Pu.spec_l01Below.v (Pu.spec_l01Below.v x1 x2 x3 14).2.1 (Pu.spec_l01Below.v x1 x2 x3 14).2.2.1 (Pu.spec_l01Below.v x1 x2 x3 14).2.2.2 6).2.2.2 6).2.2.2 (w64 (1 + (Pu.spec_l01Below.v (Pu.spec_l01Below.v (Pu.spec_l01Below.v x1 x2 x3 14).2.1 (Pu.spec_l01Below.v x1 x2 x3 14).2.2.1 (Pu.spec_l01Below.v x1 x2 x3 14).2.2.2 6).2.1 (Pu.spec_l01Below.v (Pu.spec_l01Below.v x1 x2 x3 14).2.1 (Pu.spec_l01Below.v x1 x2 x3 14).2.2.1 (Pu.spec_l01Below.v x1 x2 x3 14).2.2.2 6).2.2.1 (Pu.spec_l01Below.v (Pu.spec_l01Below.v x1 x2 x3 14).2.1 (Pu.spec_l01Below.v x1 x2 x3 14).2.2.1 (Pu.spec_l01Below.v x1 x2 x3 14).2.2.2 6).2.2.2 6).1))).2.2.1) ((Pu.spec_l01Text.v (Pu.spec_l01Below.v (Pu.spec_l01Below.v (Pu.spec_l01Below.v x1 x2 x3 14).2.1 (Pu.spec_l01Below.v x1 x2 x3 14).2.2.1 (Pu.spec_l01Below.v x1 x2 x3 14).2.2.2 6).2.1 (Pu.spec_l01Below.v (Pu.spec_l01Below.v x1 x2 x3 14).2.1 (Pu.spec_l01Below.v x1 x2 x3 14).2.2.1 (Pu.spec_l01Below.v x1 x2 x3 14).2.2.2 6).2.2.1 (Pu.spec_l01Below.v (Pu.spec_l01Below.v x1 x2 x3 14).2.1 (Pu.spec_l01Below.v x1 x2 x3 14).2.2.1 (Pu.spec_l01Below.v x1 x2 x3 14).2.2.2 6).2.2.2 6).2.1 (Pu.spec_l01Below.v (Pu.spec_l01Below.v (Pu.spec_l01Below.v x1 x2 x3 14).2.1 (Pu.spec_l01Below.v x1 x2 x3 14).2.2.1 (Pu.spec_l01Below.v x1 x2 x3 14).2.2.2 6).2.1 (Pu.spec_l01Below.v (Pu.spec_l01Below.v x1 x2 x3 14).2.1 (Pu.spec_l01Below.v x1 x2 x3 14).2.2.1 (Pu.spec_l01Below.v x1 x2 x3 14).2.2.2 6).2.2.1 (Pu.spec_l01Below.v (Pu.spec_l01Below.v x1 x2 x3 14).2.1 (Pu.spec_l01Below.v x1 x2 x3 14).2.2.1 (Pu.spec_l01Below.v x1 x2 x3 14).2.2.2 6).2.2.2 6).2.2.1 (Pu.spec_l01Below.v (Pu.spec_l01Below.v (Pu.spec_l01Below.v x1 x2 x3 14).2.1 (Pu.spec_l01Below.v x1 x2 x3 14).2.2.1 (Pu.spec_l01Below.v x1 x2 x3 14).2.2.2 6).2.1 (Pu.spec_l01Below.v (Pu.spec_l01Below.v x1 x2 x3 14).2.1 (Pu.spec_l01Below.v x1 x2 x3 14).2.2.1 (Pu.spec_l01Below.v x1 x2 x3 14).2.2.2 6).2.2.1 (Pu.spec_l01Below.v (Pu.spec_l01Below.v x1 x2 x3 14).2.1 (Pu.spec_l01Below.v x1 x2 x3 14).2.2.1 (Pu.spec_l01Below.v x1 x2 x3 14).2.2.2 6).2.2.2 6).2.2.2 (w64 (1 + (Pu.spec_l01Below.v (Pu.spec_l01Below.v (Pu.spec_l01Below.v x1 x2 x3 14).2.1 (Pu.spec_l01Below.v x1 x2 x3 14).2.2.1 (Pu.spec_l01Below.v x1 x2 x3 14).2.2.2 6).2.1 (Pu.spec_l01Below.v (Pu.spec_l01Below.v x1 x2 x3 14).2.1 (Pu.spec_l01Below.v x1 x2 x3 14).2.2.1 (Pu.spec_l01Below.v x1 x2 x3 14).2.2.2 6).2.2.1 (Pu.spec_l01Below.v (Pu.spec_l01Below.v x1 x2 x3 14).2.1 (Pu.spec_l01Below.v x1 x2 x3 14).2.2.1 (Pu.spec_l01Below.v x1 x2 x3 14).2.2.2 6).2.2.2 6).1))).2.2.2) x4 x5 ((Pu.spec_StreamPut.v x6 x7 x8 (Pu.spec_l01Text.v (Pu.spec_l01Below.v (Pu.spec_l01Below.v (Pu.spec_l01Below.v x1 x2 x3 14).2.1 (Pu.spec_l01Below.v x1 x2 x3 14).2.2.1 (Pu.spec_l01Below.v x1 x2 x3 14).2.2.2 6).2.1 (Pu.spec_l01Below.v (Pu.spec_l01Below.v x1 x2 x3 14).2.1 (Pu.spec_l01Below.v x1 x2 x3 14).2.2.1 (Pu.spec_l01Below.v x1 x2 x3 14).2.2.2 6).2.2.1 (Pu.spec_l01Below.v (Pu.spec_l01Below.v x1 x2 x3 14).2.1 (Pu.spec_l01Below.v x1 x2 x3 14).2.2.1 (Pu.spec_l01Below.v x1 x2 x3 14).2.2.2 6).2.2.2 6).2.1 (Pu.spec_l01Below.v (Pu.spec_l01Below.v (Pu.spec_l01Below.v x1 x2 x3 14).2.1 (Pu.spec_l01Below.v x1 x2 x3 14).2.2.1 (Pu.spec_l01Below.v x1 x2 x3 14).2.2.2 6).2.1 (Pu.spec_l01Below.v (Pu.spec_l01Below.v x1 x2 x3 14).2.1 (Pu.spec_l01Below.v x1 x2 x3 14).2.2.1 (Pu.spec_l01Below.v x1 x2 x3 14).2.2.2 6).2.2.1 (Pu.spec_l01Below.v (Pu.spec_l01Below.v x1 x2 x3 14).2.1 (Pu.spec_l01Below.v x1 x2 x3 14).2.2.1 (Pu.spec_l01Below.v x1 x2 x3 14).2.2.2 6).2.2.2 6).2.2.1 (Pu.spec_l01Below.v (Pu.spec_l01Below.v (Pu.spec_l01Below.v x1 x2 x3 14).2.1 (Pu.spec_l01Below.v x1 x2 x3 14).2.2.1 (Pu.spec_l01Below.v x1 x2 x3 14).2.2.2 6).2.1 (Pu.spec_l01Below.v (Pu.spec_l01Below.v x1 x2 x3 14).2.1 (Pu.spec_l01Below.v x1 x2 x3 14).2.2.1 (Pu.spec_l01Below.v x1 x2 x3 14).2.2.2 6).2.2.1 (Pu.spec_l01Below.v (Pu.spec_l01Below.v x1 x2 x3 14).2.1 (Pu.spec_l01Below.v x1 x2 x3 14).2.2.1 (Pu.spec_l01Below.v x1 x2 x3 14).2.2.2 6).2.2.2 6).2.2.2 (w64 (1 + (Pu.spec_l01Below.v (Pu.spec_l01Below.v (Pu.spec_l01Below.v x1 x2 x3 14).2.1 (Pu.spec_l01Below.v x1 x2 x3 14).2.2.1 (Pu.spec_l01Below.v x1 x2 x3 14).2.2.2 6).2.1 (Pu.spec_l01Below.v (Pu.spec_l01Below.v x1 x2 x3 14).2.1 (Pu.spec_l01Below.v x1 x2 x3 14).2.2.1 (Pu.spec_l01Below.v x1 x2 x3 14).2.2.2 6).2.2.1 (Pu.spec_l01Below.v (Pu.spec_l01Below.v x1 x2 x3 14).2.1 (Pu.spec_l01Below.v x1 x2 x3 14).2.2.1 (Pu.spec_l01Below.v x1 x2 x3 14).2.2.2 6).2.2.2 6).1))).1).1) ((Pu.spec_StreamPut.v x6 x7 x8 (Pu.spec_l01Text.v (Pu.spec_l01Below.v (Pu.spec_l01Below.v (Pu.spec_l01Below.v x1 x2 x3 14).2.1 (Pu.spec_l01Below.v x1 x2 x3 14).2.2.1 (Pu.spec_l01Below.v x1 x2 x3 14).2.2.2 6).2.1 (Pu.spec_l01Below.v (Pu.spec_l01Below.v x1 x2 x3 14).2.1 (Pu.spec_l01Below.v x1 x2 x3 14).2.2.1 (Pu.spec_l01Below.v x1 x2 x3 14).2.2.2 6).2.2.1 (Pu.spec_l01Below.v (Pu.spec_l01Below.v x1 x2 x3 14).2.1 (Pu.spec_l01Below.v x1 x2 x3 14).2.2.1 (Pu.spec_l01Below.v x1 x2 x3 14).2.2.2 6).2.2.2 6).2.1 (Pu.spec_l01Below.v (Pu.spec_l01Below.v (Pu.spec_l01Below.v x1 x2 x3 14).2.1 (Pu.spec_l01Below.v x1 x2 x3 14).2.2.1 (Pu.spec_l01Below.v x1 x2 x3 14).2.2.2 6).2.1 (Pu.spec_l01Below.v (Pu.spec_l01Below.v x1 x2 x3 14).2.1 (Pu.spec_l01Below.v x1 x2 x3 14).2.2.1 (Pu.spec_l01Below.v x1 x2 x3 14).2.2.2 6).2.2.1 (Pu.spec_l01Below.v (Pu.spec_l01Below.v x1 x2 x3 14).2.1 (Pu.spec_l01Below.v x1 x2 x3 14).2.2.1 (Pu.spec_l01Below.v x1 x2 x3 14).2.2.2 6).2.2.2 6).2.2.1 (Pu.spec_l01Below.v (Pu.spec_l01Below.v (Pu.spec_l01Below.v x1 x2 x3 14).2.1 (Pu.spec_l01Below.v x1 x2 x3 14).2.2.1 (Pu.spec_l01Below.v x1 x2 x3 14).2.2.2 6).2.1 (Pu.spec_l01Below.v (Pu.spec_l01Below.v x1 x2 x3 14).2.1 (Pu.spec_l01Below.v x1 x2 x3 14).2.2.1 (Pu.spec_l01Below.v x1 x2 x3 14).2.2.2 6).2.2.1 (Pu.spec_l01Below.v (Pu.spec_l01Below.v x1 x2 x3 14).2.1 (Pu.spec_l01Below.v x1 x2 x3 14).2.2.1 (Pu.spec_l01Below.v x1 x2 x3 14).2.2.2 6).2.2.2 6).2.2.2 (w64 (1 + (Pu.spec_l01Below.v (Pu.spec_l01Below.v (Pu.spec_l01Below.v x1 x2 x3 14).2.1 (Pu.spec_l01Below.v x1 x2 x3 14).2.2.1 (Pu.spec_l01Below.v x1 x2 x3 14).2.2.2 6).2.1 (Pu.spec_l01Below.v (Pu.spec_l01Below.v x1 x2 x3 14).2.1 (Pu.spec_l01Below.v x1 x2 x3 14).2.2.1 (Pu.spec_l01Below.v x1 x2 x3 14).2.2.2 6).2.2.1 (Pu.spec_l01Below.v (Pu.spec_l01Below.v x1 x2 x3 14).2.1 (Pu.spec_l01Below.v x1 x2 x3 14).2.2.1 (Pu.spec_l01Below.v x1 x2 x3 14).2.2.2 6).2.2.2 6).1))).1).2.1) ((Pu.spec_StreamPut.v x6 x7 x8 (Pu.spec_l01Text.v (Pu.spec_l01Below.v (Pu.spec_l01Below.v (Pu.spec_l01Below.v x1 x2 x3 14).2.1 (Pu.spec_l01Below.v x1 x2 x3 14).2.2.1 (Pu.spec_l01Below.v x1 x2 x3 14).2.2.2 6).2.1 (Pu.spec_l01Below.v (Pu.spec_l01Below.v x1 x2 x3 14).2.1 (Pu.spec_l01Below.v x1 x2 x3 14).2.2.1 (Pu.spec_l01Below.v x1 x2 x3 14).2.2.2 6).2.2.1 (Pu.spec_l01Below.v (Pu.spec_l01Below.v x1 x2 x3 14).2.1 (Pu.spec_l01Below.v x1 x2 x3 14).2.2.1 (Pu.spec_l01Below.v x1 x2 x3 14).2.2.2 6).2.2.2 6).2.1 (Pu.spec_l01Below.v (Pu.spec_l01Below.v (Pu.spec_l01Below.v x1 x2 x3 14).2.1 (Pu.spec_l01Below.v x1 x2 x3 14).2.2.1 (Pu.spec_l01Below.v x1 x2 x3 14).2.2.2 6).2.1 (Pu.spec_l01Below.v (Pu.spec_l01Below.v x1 x2 x3 14).2.1 (Pu.spec_l01Below.v x1 x2 x3 14).2.2.1 (Pu.spec_l01Below.v x1 x2 x3 14).2.2.2 6).2.2.1 (Pu.spec_l01Below.v (Pu.spec_l01Below.v x1 x2 x3 14).2.1 (Pu.spec_l01Below.v x1 x2 x3 14).2.2.1 (Pu.spec_l01Below.v x1 x2 x3 14).2.2.2 6).2.2.2 6).2.2.1 (Pu.spec_l01Below.v (Pu.spec_l01Below.v (Pu.spec_l01Below.v x1 x2 x3 14).2.1 (Pu.spec_l01Below.v x1 x2 x3 14).2.2.1 (Pu.spec_l01Below.v x1 x2 x3 14).2.2.2 6).2.1 (Pu.spec_l01Below.v (Pu.spec_l01Below.v x1 x2 x3 14).2.1 (Pu.spec_l01Below.v x1 x2 x3 14).2.2.1 (Pu.spec_l01Below.v x1 x2 x3 14).2.2.2 6).2.2.1 (Pu.spec_l01Below.v (Pu.spec_l01Below.v x1 x2 x3 14).2.1 (Pu.spec_l01Below.v x1 x2 x3 14).2.2.1 (Pu.spec_l01Below.v x1 x2 x3 14).2.2.2 6).2.2.2 6).2.2.2 (w64 (1 + (Pu.spec_l01Below.v (Pu.spec_l01Below.v (Pu.spec_l01Below.v x1 x2 x3 14).2.1 (Pu.spec_l01Below.v x1 x2 x3 14).2.2.1 (Pu.spec_l01Below.v x1 x2 x3 14).2.2.2 6).2.1 (Pu.spec_l01Below.v (Pu.spec_l01Below.v x1 x2 x3 14).2.1 (Pu.spec_l01Below.v x1 x2 x3 14).2.2.1 (Pu.spec_l01Below.v x1 x2 x3 14).2.2.2 6).2.2.1 (Pu.spec_l01Below.v (Pu.spec_l01Below.v x1 x2 x3 14).2.1 (Pu.spec_l01Below.v x1 x2 x3 14).2.2.1 (Pu.spec_l01Below.v x1 x2 x3 14).2.2.2 6).2.2.2 6).1))).1).2.2.1)) else (none)) else (none)) else (none)) else (bif (decide ((Pu.spec_l01Below.v (Pu.spec_l01Below.v x1 x2 x3 14).2.1 (Pu.spec_l01Below.v x1 x2 x3 14).2.2.1 (Pu.spec_l01Below.v x1 x2 x3 14).2.2.2 6).1 = 1)) then (bif (Pu.spec_l01Below.c (Pu.spec_l01Below.v (Pu.spec_l01Below.v x1 x2 x3 14).2.1 (Pu.spec_l01Below.v x1 x2 x3 14).2.2.1 (Pu.spec_l01Below.v x1 x2 x3 14).2.2.2 6).2.1 (Pu.spec_l01Below.v (Pu.spec_l01Below.v x1 x2 x3 14).2.1 (Pu.spec_l01Below.v x1 x2 x3 14).2.2.1 (Pu.spec_l01Below.v x1 x2 x3 14).2.2.2 6).2.2.1 (Pu.spec_l01Below.v (Pu.spec_l01Below.v x1 x2 x3 14).2.1 (Pu.spec_l01Below.v x1 x2 x3 14).2.2.1 (Pu.spec_l01Below.v x1 x2 x3 14).2.2.2 6).2.2.2 6) then (bif (Pu.spec_l01Text.c (Pu.spec_l01Below.v (Pu.spec_l01Below.v (Pu.spec_l01Below.v x1 x2 x3 14).2.1 (Pu.spec_l01Below.v x1 x2 x3 14).2.2.1 (Pu.spec_l01Below.v x1 x2 x3 14).2.2.2 6).2.1 (Pu.spec_l01Below.v (Pu.spec_l01Below.v x1 x2 x3 14).2.1 (Pu.spec_l01Below.v x1 x2 x3 14).2.2.1 (Pu.spec_l01Below.v x1 x2 x3 14).2.2.2 6).2.2.1 (Pu.spec_l01Below.v (Pu.spec_l01Below.v x1 x2 x3 14).2.1 (Pu.spec_l01Below.v x1 x2 x3 14).2.2.1 (Pu.spec_l01Below.v x1 x2 x3 14).2.2.2 6).2.2.2 6).2.1 (Pu.spec_l01Below.v (Pu.spec_l01Below.v (Pu.spec_l01Below.v x1 x2 x3 14).2.1 (Pu.spec_l01Below.v x1 x2 x3 14).2.2.1 (Pu.spec_l01Below.v x1 x2 x3 14).2.2.2 6).2.1 (Pu.spec_l01Below.v (Pu.spec_l01Below.v x1 x2 x3 14).2.1 (Pu.spec_l01Below.v x1 x2 x3 14).2.2.1 (Pu.spec_l01Below.v x1 x2 x3 14).2.2.2 6).2.2.1 (Pu.spec_l01Below.v (Pu.spec_l01Below.v x1 x2 x3 14).2.1 (Pu.spec_l01Below.v x1 x2 x3 14).2.2.1 (Pu.spec_l01Below.v x1 x2 x3 14).2.2.2 6).2.2.2 6).2.2.1 (Pu.spec_l01Below.v (Pu.spec_l01Below.v (Pu.spec_l01Below.v x1 x2 x3 14).2.1 (Pu.spec_l01Below.v x1 x2 x3 14).2.2.1 (Pu.spec_l01Below.v x1 x2 x3 14).2.2.2 6).2.1 (Pu.spec_l01Below.v (Pu.spec_l01Below.v x1 x2 x3 14).2.1 (Pu.spec_l01Below.v x1 x2 x3 14).2.2.1 (Pu.spec_l01Below.v x1 x2 x3 14).2.2.2 6).2.2.1 (Pu.spec_l01Below.v (Pu.spec_l01Below.v x1 x2 x3 14).2.1 (Pu.spec_l01Below.v x1 x2 x3 14).2.2.1 (Pu.spec_l01Below.v x1 x2 x3 14).2.2.2 6).2.2.2 6).2.2.2 (w64 (1 + (Pu.spec_l01Below.v (Pu.spec_l01Below.v (Pu.spec_l01Below.v x1 x2 x3 14).2.1 (Pu.spec_l01Below.v x1 x2 x3 14).2.2.1 (Pu.spec_l01Below.v x1 x2 x3 14).2.2.2 6).2.1 (Pu.spec_l01Below.v (Pu.spec_l01Below.v x1 x2 x3 14).2.1 (Pu.spec_l01Below.v x1 x2 x3 14).2.2.1 (Pu.spec_l01Below.v x1 x2 x3 14).2.2.2 6).2.2.1 (Pu.spec_l01Below.v (Pu.spec_l01Below.v x1 x2 x3 14).2.1 (Pu.spec_l01Below.v x1 x2 x3 14).2.2.1 (Pu.spec_l01Below.v x1 x2 x3 14).2.2.2 6).2.2.2 6).1))) then (bif (Pu.spec_StreamPut.c x6 x7 x8 (Pu.spec_l01Text.v (Pu.spec_l01Below.v (Pu.spec_l01Below.v (Pu.spec_l01Below.v x1 x2 x3 14).2.1 (Pu.spec_l01Below.v x1 x2 x3 14).2.2.1 (Pu.spec_l01Below.v x1 x2 x3 14).2.2.2 6).2.1 (Pu.spec_l01Below.v (Pu.spec_l01Below.v x1 x2 x3 14).2.1 (Pu.spec_l01Below.v x1 x2 x3 14).2.2.1 (Pu.spec_l01Below.v x1 x2 x3 14).2.2.2 6).2.2.1 (Pu.spec_l01Below.v (Pu.spec_l01Below.v x1 x2 x3 14).2.1 (Pu.spec_l01Below.v x1 x2 x3 14).2.2.1 (Pu.spec_l01Below.v x1 x2 x3 14).2.2.2 6).2.2.2 6).2.1 (Pu.spec_l01Below.v (Pu.spec_l01Below.v (Pu.spec_l01Below.v x1 x2 x3 14).2.1 (Pu.spec_l01Below.v x1 x2 x3 14).2.2.1 (Pu.spec_l01Below.v x1 x2 x3 14).2.2.2 6).2.1 (Pu.spec_l01Below.v (Pu.spec_l01Below.v x1 x2 x3 14).2.1 (Pu.spec_l01Below.v x1 x2 x3 14).2.2.1 (Pu.spec_l01Below.v x1 x2 x3 14).2.2.2 6).2.2.1 (Pu.spec_l01Below.v (Pu.spec_l01Below.v x1 x2 x3 14).2.1 (Pu.spec_l01Below.v x1 x2 x3 14).2.2.1 (Pu.spec_l01Below.v x1 x2 x3 14).2.2.2 6).2.2.2 6).2.2.1 (Pu.spec_l01Below.v (Pu.spec_l01Below.v (Pu.spec_l01Below.v x1 x2 x3 14).2.1 (Pu.spec_l01Below.v x1 x2 x3 14).2.2.1 (Pu.spec_l01Below.v x1 x2 x3 14).2.2.2 6).2.1 (Pu.spec_l01Below.v (Pu.spec_l01Below.v x1 x2 x3 14).2.1 (Pu.spec_l01Below.v x1 x2 x3 14).2.2.1 (Pu.spec_l01Below.v x1 x2 x3 14).2.2.2 6).2.2.1 (Pu.spec_l01Below.v (Pu.spec_l01Below.v x1 x2 x3 14).2.1 (Pu.spec_l01Below.v x1 x2 x3 14).2.2.1 (Pu.spec_l01Below.v x1 x2 x3 14).2.2.2 6).2.2.2 6).2.2.2 (w64 (1 + (Pu.spec_l01Below.v (Pu.spec_l01Below.v (Pu.spec_l01Below.v x1 x2 x3 14).2.1 (Pu.spec_l01Below.v x1 x2 x3 14).2.2.1 (Pu.spec_l01Below.v x1 x2 x3 14).2.2.2 6).2.1 (Pu.spec_l01Below.v (Pu.spec_l01Below.v x1 x2 x3 14).2.1 (Pu.spec_l01Below.v x1 x2 x3 14).2.2.1 (Pu.spec_l01Below.v x1 x2 x3 14).2.2.2 6).2.2.1 (Pu.spec_l01Below.v (Pu.spec_l01Below.v x1 x2 x3 14).2.1 (Pu.spec_l01Below.v x1 x2 x3 14).2.2.1 (Pu.spec_l01Below.v x1 x2 x3 14).2.2.2 6).2.2.2 6).1))).1) then (g (w64 (x0 + 1)) ((Pu.spec_l01Text.v (Pu.spec_l01Below.v (Pu.spec_l01Below.v (Pu.spec_l01Below.v x1 x2 x3 14).2.1 (Pu.spec_l01Below.v x1 x2 x3 14).2.2.1 (Pu.spec_l01Below.v x1 x2 x3 14).2.2.2 6).2.1 (Pu.spec_l01Below.v (Pu.spec_l01Below.v x1 x2 x3 14).2.1 (Pu.spec_l01Below.v x1 x2 x3 14).2.2.1 (Pu.spec_l01Below.v x1 x2 x3 14).2.2.2 6).2.2.1 (Pu.spec_l01Below.v (Pu.spec_l01Below.v x1 x2 x3 14).2.1 (Pu.spec_l01Below.v x1 x2 x3 14).2.2.1 (Pu.spec_l01Below.v x1 x2 x3 14).2.2.2 6).2.2.2 6).2.1 (Pu.spec_l01Below.v (Pu.spec_l01Below.v (Pu.spec_l01Below.v x1 x2 x3 14).2.1 (Pu.spec_l01Below.v x1 x2 x3 14).2.2.1 (Pu.spec_l01Below.v x1 x2 x3 14).2.2.2 6).2.1 (Pu.spec_l01Below.v (Pu.spec_l01Below.v x1 x2 x3 14).2.1 (Pu.spec_l01Below.v x1 x2 x3 14).2.2.1 (Pu.spec_l01Below.v x1 x2 x3 14).2.2.2 6).2.2.1 (Pu.spec_l01Below.v (Pu.spec_l01Below.v x1 x2 x3 14).2.1 (Pu.spec_l01Below.v x1 x2 x3 14).2.2.1 (Pu.spec_l01Below.v x1 x2 x3 14).2.2.2 6).2.2.2 6).2.2.1 (Pu.spec_l01Below.v (Pu.spec_l01Below.v (Pu.spec_l01Below.v x1 x2 x3 14).2.1 (Pu.spec_l01Below.v x1 x2 x3 14).2.2.1 (Pu.spec_l01Below.v x1 x2 x3 14).2.2.2 6).2.1 (Pu.spec_l01Below.v (Pu.spec_l01Below.v x1 x2 x3 14).2.1 (Pu.spec_l01Below.v x1 x2 x3 14).2.2.1 (Pu.spec_l01Below.v x1 x2 x3 14).2.2.2 6).2.2.1 (Pu.spec_l01Below.v (Pu.spec_l01Below.v x1 x2 x3 14).2.1 (Pu.spec_l01Below.v x1 x2 x3 14).2.2.1 (Pu.spec_l01Below.v x1 x2 x3 14).2.2.2 6).2.2.2 6).2.2.2 (w64 (1 + (Pu.spec_l01Below.v (Pu.spec_l01Below.v (Pu.spec_l01Below.v x1 x2 x3 14).2.1 (Pu.spec_l01Below.v x1 x2 x3 14).2.2.1 (Pu.spec_l01Below.v x1 x2 x3 14).2.2.2 6).2.1 (Pu.spec_l01Below.v (Pu.spec_l01Below.v x1 x2 x3 14).2.1 (Pu.spec_l01Below.v x1 x2 x3 14).2.2.1 (Pu.spec_l01Below.v x1 x2 x3 14).2.2.2 6).2.2.1 (Pu.spec_l01Below.v (Pu.spec_l01Below.v x1 x2 x3 14).2.1 (Pu.spec_l01Below.v x1 x2 x3 14).2.2.1 (Pu.spec_l01Below.v x1 x2 x3 14).2.2.2 6).2.2.2 6).1))).2.1) ((Pu.spec_l01Text.v (Pu.spec_l01Below.v (Pu.spec_l01Below.v (Pu.spec_l01Below.v x1 x2 x3 14).2.1 (Pu.spec_l01Below.v x1 x2 x3 14).2.2.1 (Pu.spec_l01Below.v x1 x2 x3 14).2.2.2 6).2.1 (Pu.spec_l01Below.v (Pu.spec_l01Below.v x1 x2 x3 14).2.1 (Pu.spec_l01Below.v x1 x2 x3 14).2.2.1 (Pu.spec_l01Below.v x1 x2 x3 14).2.2.2 6).2.2.1 (Pu.spec_l01Below.v (Pu.spec_l01Below.v x1 x2 x3 14).2.1 (Pu.spec_l01Below.v x1 x2 x3 14).2.2.1 (Pu.spec_l01Below.v x1 x2 x3 14).2.2.2 6).2.2.2 6).2.1 (Pu.spec_l01Below.v (Pu.spec_l01Below.v (Pu.spec_l01Below.v x1 x2 x3 14).2.1 (Pu.spec_l01Below.v x1 x2 x3 14).2.2.1 (Pu.spec_l01Below.v x1 x2 x3 14).2.2.2 6).2.1 (Pu.spec_l01Below.v (Pu.spec_l01Below.v x1 x2 x3 14).2.1 (Pu.spec_l01Below.v x1 x2 x3 14).2.2.1 (Pu.spec_l01Below.v x1 x2 x3 14).2.2.2 6).2.2.1 (Pu.spec_l01Below.v (Pu.spec_l01Below.v x1 x2 x3 14).2.1 (Pu.spec_l01Below.v x1 x2 x3 14).2.2.1 (Pu.spec_l01Below.v x1 x2 x3 14).2.2.2 6).2.2.2 6).2.2.1 (Pu.spec_l01Below.v (Pu.spec_l01Below.v (Pu.spec_l01Below.v x1 x2 x3 14).2.1 (Pu.spec_l01Below.v x1 x2 x3 14).2.2.1 (Pu.spec_l01Below.v x1 x2 x3 14).2.2.2 6).2.1 (Pu.spec_l01Below.v (Pu.spec_l01Below.v x1 x2 x3 14).2.1 (Pu.spec_l01Below.v x1 x2 x3 14).2.2.1 (Pu.spec_l01Below.v x1 x2 x3 14).2.2.2 6).2.2.1 (Pu.spec_l01Below.v (Pu.spec_l01Below.v x1 x2 x3 14).2.1 (Pu.spec_l01Below.v x1 x2 x3 14).2.2.1 (Pu.spec_l01Below.v x1 x2 x3 14).2.2.2 6).2.2.2 6).2.2.2 (w64 (1 + (Pu.spec_l01Below.v (Pu.spec_l01Below.v (Pu.spec_l01Below.v x1 x2 x3 14).2.1 (Pu.spec_l01Below.v x1 x2 x3 14).2.2.1 (Pu.spec_l01Below.v x1 x2 x3 14).2.2.2 6).2.1 (Pu.spec_l01Below.v (Pu.spec_l01Below.v x1 x2 x3 14).2.1 (Pu.spec_l01Below.v x1 x2 x3 14).2.2.1 (Pu.spec_l01Below.v x1 x2 x3 14).2.2.2 6).2.2.1 (Pu.spec_l01Below.v (Pu.spec_l01Below.v x1 x2 x3 14).2.1 (Pu.spec_l01Below.v x1 x2 x3 14).2.2.1 (Pu.spec_l01Below.v x1 x2 x3 14).2.2.2 6).2.2.2 6).1))).2.2.1) ((Pu.spec_l01Text.v (Pu.spec_l01Below.v (Pu.spec_l01Below.v (Pu.spec_l01Below.v x1 x2 x3 14).2.1 (Pu.spec_l01Below.v x1 x2 x3 14).2.2.1 (Pu.spec_l01Below.v x1 x2 x3 14).2.2.2 6).2.1 (Pu.spec_l01Below.v (Pu.spec_l01Below.v x1 x2 x3 14).2.1 (Pu.spec_l01Below.v x1 x2 x3 14).2.2.1 (Pu.spec_l01Below.v x1 x2 x3 14).2.2.2 6).2.2.1 (Pu.spec_l01Below.v (Pu.spec_l01Below.v x1 x2 x3 14).2.1 (Pu.spec_l01Below.v x1 x2 x3 14).2.2.1 (Pu.spec_l01Below.v x1 x2 x3 14).2.2.2 6).2.2.2 6).2.1 (Pu.spec_l01Below.v (Pu.spec_l01Below.v (Pu.spec_l01Below.v x1 x2 x3 14).2.1 (Pu.spec_l01Below.v x1 x2 x3 14).2.2.1 (Pu.spec_l01Below.v x1 x2 x3 14).2.2.2 6).2.1 (Pu.spec_l01Below.v (Pu.spec_l01Below.v x1 x2 x3 14).2.1 (Pu.spec_l01Below.v x1 x2 x3 14).2.2.1 (Pu.spec_l01Below.v x1 x2 x3 14).2.2.2 6).2.2.1 (Pu.spec_l01Below.v (Pu.spec_l01Below.v x1 x2 x3 14).2.1 (Pu.spec_l01Below.v x1 x2 x3 14).2.2.1 (Pu.spec_l01Below.v x1 x2 x3 14).2.2.2 6).2.2.2 6).2.2.1 (Pu.spec_l01Below.v (Pu.spec_l01Below.v (Pu.spec_l01Below.v x1 x2 x3 14).2.1 (Pu.spec_l01Below.v x1 x2 x3 14).2.2.1 (Pu.spec_l01Below.v x1 x2 x3 14).2.2.2 6).2.1 (Pu.spec_l01Below.v (Pu.spec_l01Below.v x1 x2 x3 14).2.1 (Pu.spec_l01Below.v x1 x2 x3 14).2.2.1 (Pu.spec_l01Below.v x1 x2 x3 14).2.2.2 6).2.2.1 (Pu.spec_l01Below.v (Pu.spec_l01Below.v x1 x2 x3 14).2.1 (Pu.spec_l01Below.v x1 x2 x3 14).2.2.1 (Pu.spec_l01Below.v x1 x2 x3 14).2.2.2 6).2.2.2 6).2.2.2 (w64 (1 + (Pu.spec_l01Below.v (Pu.spec_l01Below.v (Pu.spec_l01Below.v x1 x2 x3 14).2.1 (Pu.spec_l01Below.v x1 x2 x3 14).2.2.1 (Pu.spec_l01Below.v x1 x2 x3 14).2.2.2 6).2.1 (Pu.spec_l01Below.v (Pu.spec_l01Below.v x1 x2 x3 14).2.1 (Pu.spec_l01Below.v x1 x2 x3 14).2.2.1 (Pu.spec_l01Below.v x1 x2 x3 14).2.2.2 6).2.2.1 (Pu.spec_l01Below.v (Pu.spec_l01Below.v x1 x2 x3 14).2.1 (Pu.spec_l01Below.v x1 x2 x3 14).2.2.1 (Pu.spec_l01Below.v x1 x2 x3 14).2.2.2 6).2.2.2 6).1))).2.2.2) x4 x5 ((Pu.spec_StreamPut.v x6 x7 x8 (Pu.spec_l01Text.v (Pu.spec_l01Below.v (Pu.spec_l01Below.v (Pu.spec_l01Below.v x1 x2 x3 14).2.1 (Pu.spec_l01Below.v x1 x2 x3 14).2.2.1 (Pu.spec_l01Below.v x1 x2 x3 14).2.2.2 6).2.1 (Pu.spec_l01Below.v (Pu.spec_l01Below.v x1 x2 x3 14).2.1 (Pu.spec_l01Below.v x1 x2 x3 14).2.2.1 (Pu.spec_l01Below.v x1 x2 x3 14).2.2.2 6).2.2.1 (Pu.spec_l01Below.v (Pu.spec_l01Below.v x1 x2 x3 14).2.1 (Pu.spec_l01Below.v x1 x2 x3 14).2.2.1 (Pu.spec_l01Below.v x1 x2 x3 14).2.2.2 6).2.2.2 6).2.1 (Pu.spec_l01Below.v (Pu.spec_l01Below.v (Pu.spec_l01Below.v x1 x2 x3 14).2.1 (Pu.spec_l01Below.v x1 x2 x3 14).2.2.1 (Pu.spec_l01Below.v x1 x2 x3 14).2.2.2 6).2.1 (Pu.spec_l01Below.v (Pu.spec_l01Below.v x1 x2 x3 14).2.1 (Pu.spec_l01Below.v x1 x2 x3 14).2.2.1 (Pu.spec_l01Below.v x1 x2 x3 14).2.2.2 6).2.2.1 (Pu.spec_l01Below.v (Pu.spec_l01Below.v x1 x2 x3 14).2.1 (Pu.spec_l01Below.v x1 x2 x3 14).2.2.1 (Pu.spec_l01Below.v x1 x2 x3 14).2.2.2 6).2.2.2 6).2.2.1 (Pu.spec_l01Below.v (Pu.spec_l01Below.v (Pu.spec_l01Below.v x1 x2 x3 14).2.1 (Pu.spec_l01Below.v x1 x2 x3 14).2.2.1 (Pu.spec_l01Below.v x1 x2 x3 14).2.2.2 6).2.1 (Pu.spec_l01Below.v (Pu.spec_l01Below.v x1 x2 x3 14).2.1 (Pu.spec_l01Below.v x1 x2 x3 14).2.2.1 (Pu.spec_l01Below.v x1 x2 x3 14).2.2.2 6).2.2.1 (Pu.spec_l01Below.v (Pu.spec_l01Below.v x1 x2 x3 14).2.1 (Pu.spec_l01Below.v x1 x2 x3 14).2.2.1 (Pu.spec_l01Below.v x1 x2 x3 14).2.2.2 6).2.2.2 6).2.2.2 (w64 (1 + (Pu.spec_l01Below.v (Pu.spec_l01Below.v (Pu.spec_l01Below.v x1 x2 x3 14).2.1 (Pu.spec_l01Below.v x1 x2 x3 14).2.2.1 (Pu.spec_l01Below.v x1 x2 x3 14).2.2.2 6).2.1 (Pu.spec_l01Below.v (Pu.spec_l01Below.v x1 x2 x3 14).2.1 (Pu.spec_l01Below.v x1 x2 x3 14).2.2.1 (Pu.spec_l01Below.v x1 x2 x3 14).2.2.2 6).2.2.1 (Pu.spec_l01Below.v (Pu.spec_l01Below.v x1 x2 x3 14).2.1 (Pu.spec_l01Below.v x1 x2 x3 14).2.2.1 (Pu.spec_l01Below.v x1 x2 x3 14).2.2.2 6).2.2.2 6).1))).1).1) ((Pu.spec_StreamPut.v x6 x7 x8 (Pu.spec_l01Text.v (Pu.spec_l01Below.v (Pu.spec_l01Below.v (Pu.spec_l01Below.v x1 x2 x3 14).2.1 (Pu.spec_l01Below.v x1 x2 x3 14).2.2.1 (Pu.spec_l01Below.v x1 x2 x3 14).2.2.2 6).2.1 (Pu.spec_l01Below.v (Pu.spec_l01Below.v x1 x2 x3 14).2.1 (Pu.spec_l01Below.v x1 x2 x3 14).2.2.1 (Pu.spec_l01Below.v x1 x2 x3 14).2.2.2 6).2.2.1 (Pu.spec_l01Below.v (Pu.spec_l01Below.v x1 x2 x3 14).2.1 (Pu.spec_l01Below.v x1 x2 x3 14).2.2.1 (Pu.spec_l01Below.v x1 x2 x3 14).2.2.2 6).2.2.2 6).2.1 (Pu.spec_l01Below.v (Pu.spec_l01Below.v (Pu.spec_l01Below.v x1 x2 x3 14).2.1 (Pu.spec_l01Below.v x1 x2 x3 14).2.2.1 (Pu.spec_l01Below.v x1 x2 x3 14).2.2.2 6).2.1 (Pu.spec_l01Below.v (Pu.spec_l01Below.v x1 x2 x3 14).2.1 (Pu.spec_l01Below.v x1 x2 x3 14).2.2.1 (Pu.spec_l01Below.v x1 x2 x3 14).2.2.2 6).2.2.1 (Pu.spec_l01Below.v (Pu.spec_l01Below.v x1 x2 x3 14).2.1 (Pu.spec_l01Below.v x1 x2 x3 14).2.2.1 (Pu.spec_l01Below.v x1 x2 x3 14).2.2.2 6).2.2.2 6).2.2.1 (Pu.spec_l01Below.v (Pu.spec_l01Below.v (Pu.spec_l01Below.v x1 x2 x3 14).2.1 (Pu.spec_l01Below.v x1 x2 x3 14).2.2.1 (Pu.spec_l01Below.v x1 x2 x3 14).2.2.2 6).2.1 (Pu.spec_l01Below.v (Pu.spec_l01Below.v x1 x2 x3 14).2.1 (Pu.spec_l01Below.v x1 x2 x3 14).2.2.1 (Pu.spec_l01Below.v x1 x2 x3 14).2.2.2 6).2.2.1 (Pu.spec_l01Below.v (Pu.spec_l01Below.v x1 x2 x3 14).2.1 (Pu.spec_l01Below.v x1 x2 x3 14).2.2.1 (Pu.spec_l01Below.v x1 x2 x3 14).2.2.2 6).2.2.2 6).2.2.2 (w64 (1 + (Pu.spec_l01Below.v (Pu.spec_l01Below.v (Pu.spec_l01Below.v x1 x2 x3 14).2.1 (Pu.spec_l01Below.v x1 x2 x3 14).2.2.1 (Pu.spec_l01Below.v x1 x2 x3 14).2.2.2 6).2.1 (Pu.spec_l01Below.v (Pu.spec_l01Below.v x1 x2 x3 14).2.1 (Pu.spec_l01Below.v x1 x2 x3 14).2.2.1 (Pu.spec_l01Below.v x1 x2 x3 14).2.2.2 6).2.2.1 (Pu.spec_l01Below.v (Pu.spec_l01Below.v x1 x2 x3 14).2.1 (Pu.spec_l01Below.v x1 x2 x3 14).2.2.1 (Pu.spec_l01Below.v x1 x2 x3 14).2.2.2 6).2.2.2 6).1))).1).2.1) ((Pu.spec_StreamPut.v x6 x7 x8 (Pu.spec_l01Text.v (Pu.spec_l01Below.v (Pu.spec_l01Below.v (Pu.spec_l01Below.v x1 x2 x3 14).2.1 (Pu.spec_l01Below.v x1 x2 x3 14).2.2.1 (Pu.spec_l01Below.v x1 x2 x3 14).2.2.2 6).2.1 (Pu.spec_l01Below.v (Pu.spec_l01Below.v x1 x2 x3 14).2.1 (Pu.spec_l01Below.v x1 x2 x3 14).2.2.1 (Pu.spec_l01Below.v x1 x2 x3 14).2.2.2 6).2.2.1 (Pu.spec_l01Below.v (Pu.spec_l01Below.v x1 x2 x3 14).2.1 (Pu.spec_l01Below.v x1 x2 x3 14).2.2.1 (Pu.spec_l01Below.v x1 x2 x3 14).2.2.2 6).2.2.2 6).2.1 (Pu.spec_l01Below.v (Pu.spec_l01Below.v (Pu.spec_l01Below.v x1 x2 x3 14).2.1 (Pu.spec_l01Below.v x1 x2 x3 14).2.2.1 (Pu.spec_l01Below.v x1 x2 x3 14).2.2.2 6).2.1 (Pu.spec_l01Below.v (Pu.spec_l01Below.v x1 x2 x3 14).2.1 (Pu.spec_l01Below.v x1 x2 x3 14).2.2.1 (Pu.spec_l01Below.v x1 x2 x3 14).2.2.2 6).2.2.1 (Pu.spec_l01Below.v (Pu.spec_l01Below.v x1 x2 x3 14).2.1 (Pu.spec_l01Below.v x1 x2 x3 14).2.2.1 (Pu.spec_l01Below.v x1 x2 x3 14).2.2.2 6).2.2.2 6).2.2.1 (Pu.spec_l01Below.v (Pu.spec_l01Below.v (Pu.spec_l01Below.v x1 x2 x3 14).2.1 (Pu.spec_l01Below.v x1 x2 x3 14).2.2.1 (Pu.spec_l01Below.v x1 x2 x3 14).2.2.2 6).2.1 (Pu.spec_l01Below.v (Pu.spec_l01Below.v x1 x2 x3 14).2.1 (Pu.spec_l01Below.v x1 x2 x3 14).2.2.1 (Pu.spec_l01Below.v x1 x2 x3 14).2.2.2 6).2.2.1 (Pu.spec_l01Below.v (Pu.spec_l01Below.v x1 x2 x3 14).2.1 (Pu.spec_l01Below.v x1 x2 x3 14).2.2.1 (Pu.spec_l01Below.v x1 x2 x3 14).2.2.2 6).2.2.2 6).2.2.2 (w64 (1 + (Pu.spec_l01Below.v (Pu.spec_l01Below.v (Pu.spec_l01Below.v x1 x2 x3 14).2.1 (Pu.spec_l01Below.v x1 x2 x3 14).2.2.1 (Pu.spec_l01Below.v x1 x2 x3 14).2.2.2 6).2.1 (Pu.spec_l01Below.v (Pu.spec_l01Below.v x1 x2 x3 14).2.1 (Pu.spec_l01Below.v x1 x2 x3 14).2.2.1 (Pu.spec_l01Below.v x1 x2 x3 14).2.2.2 6).2.2.1 (Pu.spec_l01Below.v (Pu.spec_l01Below.v x1 x2 x3 14).2.1 (Pu.spec_l01Below.v x1 x2 x3 14).2.2.1 (Pu.spec_l01Below.v x1 x2 x3 14).2.2.2 6).2.2.2 6).1))).1).2.2.1)) else (none)) else (none)) else (none)) else (bif (decide ((Pu.spec_l01Below.v (Pu.spec_l01Below.v x1 x2 x3 14).2.1 (Pu.spec_l01Below.v x1 x2 x3 14).2.2.1 (Pu.spec_l01Below.v x1 x2 x3 14).2.2.2 6).1 = 2)) then (bif (Pu.spec_l01Below.c (Pu.spec_l01Below.v (Pu.spec_l01Below.v x1 x2 x3 14).2.1 (Pu.spec_l01Below.v x1 x2 x3 14).2.2.1 (Pu.spec_l01Below.v x1 x2 x3 14).2.2.2 6).2.1 (Pu.spec_l01Below.v (Pu.spec_l01Below.v x1 x2 x3 14).2.1 (Pu.spec_l01Below.v x1 x2 x3 14).2.2.1 (Pu.spec_l01Below.v x1 x2 x3 14).2.2.2 6).2.2.1 (Pu.spec_l01Below.v (Pu.spec_l01Below.v x1 x2 x3 14).2.1 (Pu.spec_l01Below.v x1 x2 x3 14).2.2.1 (Pu.spec_l01Below.v x1 x2 x3 14).2.2.2 6).2.2.2 5) then (bif (Pu.spec_StreamJoin.c x6 x7 x8 (w64 (1 + (Pu.spec_l01Below.v (Pu.spec_l01Below.v (Pu.spec_l01Below.v x1 x2 x3 14).2.1 (Pu.spec_l01Below.v x1 x2 x3 14).2.2.1 (Pu.spec_l01Below.v x1 x2 x3 14).2.2.2 6).2.1 (Pu.spec_l01Below.v (Pu.spec_l01Below.v x1 x2 x3 14).2.1 (Pu.spec_l01Below.v x1 x2 x3 14).2.2.1 (Pu.spec_l01Below.v x1 x2 x3 14).2.2.2 6).2.2.1 (Pu.spec_l01Below.v (Pu.spec_l01Below.v x1 x2 x3 14).2.1 (Pu.spec_l01Below.v x1 x2 x3 14).2.2.1 (Pu.spec_l01Below.v x1 x2 x3 14).2.2.2 6).2.2.2 5).1))) then (g (w64 (x0 + 1)) ((Pu.spec_l01Below.v (Pu.spec_l01Below.v (Pu.spec_l01Below.v x1 x2 x3 14).2.1 (Pu.spec_l01Below.v x1 x2 x3 14).2.2.1 (Pu.spec_l01Below.v x1 x2 x3 14).2.2.2 6).2.1 (Pu.spec_l01Below.v (Pu.spec_l01Below.v x1 x2 x3 14).2.1 (Pu.spec_l01Below.v x1 x2 x3 14).2.2.1 (Pu.spec_l01Below.v x1 x2 x3 14).2.2.2 6).2.2.1 (Pu.spec_l01Below.v (Pu.spec_l01Below.v x1 x2 x3 14).2.1 (Pu.spec_l01Below.v x1 x2 x3 14).2.2.1 (Pu.spec_l01Below.v x1 x2 x3 14).2.2.2 6).2.2.2 5).2.1) ((Pu.spec_l01Below.v (Pu.spec_l01Below.v (Pu.spec_l01Below.v x1 x2 x3 14).2.1 (Pu.spec_l01Below.v x1 x2 x3 14).2.2.1 (Pu.spec_l01Below.v x1 x2 x3 14).2.2.2 6).2.1 (Pu.spec_l01Below.v (Pu.spec_l01Below.v x1 x2 x3 14).2.1 (Pu.spec_l01Below.v x1 x2 x3 14).2.2.1 (Pu.spec_l01Below.v x1 x2 x3 14).2.2.2 6).2.2.1 (Pu.spec_l01Below.v (Pu.spec_l01Below.v x1 x2 x3 14).2.1 (Pu.spec_l01Below.v x1 x2 x3 14).2.2.1 (Pu.spec_l01Below.v x1 x2 x3 14).2.2.2 6).2.2.2 5).2.2.1) ((Pu.spec_l01Below.v (Pu.spec_l01Below.v (Pu.spec_l01Below.v x1 x2 x3 14).2.1 (Pu.spec_l01Below.v x1 x2 x3 14).2.2.1 (Pu.spec_l01Below.v x1 x2 x3 14).2.2.2 6).2.1 (Pu.spec_l01Below.v (Pu.spec_l01Below.v x1 x2 x3 14).2.1 (Pu.spec_l01Below.v x1 x2 x3 14).2.2.1 (Pu.spec_l01Below.v x1 x2 x3 14).2.2.2 6).2.2.1 (Pu.spec_l01Below.v (Pu.spec_l01Below.v x1 x2 x3 14).2.1 (Pu.spec_l01Below.v x1 x2 x3 14).2.2.1 (Pu.spec_l01Below.v x1 x2 x3 14).2.2.2 6).2.2.2 5).2.2.2) x4 x5 ((Pu.spec_StreamJoin.v x6 x7 x8 (w64 (1 + (Pu.spec_l01Below.v (Pu.spec_l01Below.v (Pu.spec_l01Below.v x1 x2 x3 14).2.1 (Pu.spec_l01Below.v x1 x2 x3 14).2.2.1 (Pu.spec_l01Below.v x1 x2 x3 14).2.2.2 6).2.1 (Pu.spec_l01Below.v (Pu.spec_l01Below.v x1 x2 x3 14).2.1 (Pu.spec_l01Below.v x1 x2 x3 14).2.2.1 (Pu.spec_l01Below.v x1 x2 x3 14).2.2.2 6).2.2.1 (Pu.spec_l01Below.v (Pu.spec_l01Below.v x1 x2 x3 14).2.1 (Pu.spec_l01Below.v x1 x2 x3 14).2.2.1 (Pu.spec_l01Below.v x1 x2 x3 14).2.2.2 6).2.2.2 5).1))).1) ((Pu.spec_StreamJoin.v x6 x7 x8 (w64 (1 + (Pu.spec_l01Below.v (Pu.spec_l01Below.v (Pu.spec_l01Below.v x1 x2 x3 14).2.1 (Pu.spec_l01Below.v x1 x2 x3 14).2.2.1 (Pu.spec_l01Below.v x1 x2 x3 14).2.2.2 6).2.1 (Pu.spec_l01Below.v (Pu.spec_l01Below.v x1 x2 x3 14).2.1 (Pu.spec_l01Below.v x1 x2 x3 14).2.2.1 (Pu.spec_l01Below.v x1 x2 x3 14).2.2.2 6).2.2.1 (Pu.spec_l01Below.v (Pu.spec_l01Below.v x1 x2 x3 14).2.1 (Pu.spec_l01Below.v x1 x2 x3 14).2.2.1 (Pu.spec_l01Below.v x1 x2 x3 14).2.2.2 6).2.2.2 5).1))).2.1) ((Pu.spec_StreamJoin.v x6 x7 x8 (w64 (1 + (Pu.spec_l01Below.v (Pu.spec_l01Below.v (Pu.spec_l01Below.v x1 x2 x3 14).2.1 (Pu.spec_l01Below.v x1 x2 x3 14).2.2.1 (Pu.spec_l01Below.v x1 x2 x3 14).2.2.2 6).2.1 (Pu.spec_l01Below.v (Pu.spec_l01Below.v x1 x2 x3 14).2.1 (Pu.spec_l01Below.v x1 x2 x3 14).2.2.1 (Pu.spec_l01Below.v x1 x2 x3 14).2.2.2 6).2.2.1 (Pu.spec_l01Below.v (Pu.spec_l01Below.v x1 x2 x3 14).2.1 (Pu.spec_l01Below.v x1 x2 x3 14).2.2.1 (Pu.spec_l01Below.v x1 x2 x3 14).2.2.2 6).2.2.2 5).1))).2.2.1)) else (none)) else (none)) else (bif (decide ((Pu.spec_l01Below.v (Pu.spec_l01Below.v x1 x2 x3 14).2.1 (Pu.spec_l01Below.v x1 x2 x3 14).2.2.1 (Pu.spec_l01Below.v x1 x2 x3 14).2.2.2 6).1 = 3)) then (bif (Pu.spec_l01Below.c (Pu.spec_l01Below.v (Pu.spec_l01Below.v x1 x2 x3 14).2.1 (Pu.spec_l01Below.v x1 x2 x3 14).2.2.1 (Pu.spec_l01Below.v x1 x2 x3 14).2.2.2 6).2.1 (Pu.spec_l01Below.v (Pu.spec_l01Below.v x1 x2 x3 14).2.1 (Pu.spec_l01Below.v x1 x2 x3 14).2.2.1 (Pu.spec_l01Below.v x1 x2 x3 14).2.2.2 6).2.2.1 (Pu.spec_l01Below.v (Pu.spec_l01Below.v x1 x2 x3 14).2.1 (Pu.spec_l01Below.v x1 x2 x3 14).2.2.1 (Pu.spec_l01Below.v x1 x2 x3 14).2.2.2 6).2.2.2 5) then (bif (Pu.spec_l01Below.c (Pu.spec_l01Below.v (Pu.spec_l01Below.v (Pu.spec_l01Below.v x1 x2 x3 14).2.1 (Pu.spec_l01Below.v x1 x2 x3 14).2.2.1 (Pu.spec_l01Below.v x1 x2 x3 14).2.2.2 6).2.1 (Pu.spec_l01Below.v (Pu.spec_l01Below.v x1 x2 x3 14).2.1 (Pu.spec_l01Below.v x1 x2 x3 14).2.2.1 (Pu.spec_l01Below.v x1 x2 x3 14).2.2.2 6).2.2.1 (Pu.spec_l01Below.v (Pu.spec_l01Below.v x1 x2 x3 14).2.1 (Pu.spec_l01Below.v x1 x2 x3 14).2.2.1 (Pu.spec_l01Below.v x1 x2 x3 14).2.2.2 6).2.2.2 5).2.1 (Pu.spec_l01Below.v (Pu.spec_l01Below.v (Pu.spec_l01Below.v x1 x2 x3 14).2.1 (Pu.spec_l01Below.v x1 x2 x3 14).2.2.1 (Pu.spec_l01Below.v x1 x2 x3 14).2.2.2 6).2.1 (Pu.spec_l01Below.v (Pu.spec_l01Below.v x1 x2 x3 14).2.1 (Pu.spec_l01Below.v x1 x2 x3 14).2.2.1 (Pu.spec_l01Below.v x1 x2 x3 14).2.2.2 6).2.2.1 (Pu.spec_l01Below.v (Pu.spec_l01Below.v x1 x2 x3 14).2.1 (Pu.spec_l01Below.v x1 x2 x3 14).2.2.1 (Pu.spec_l01Below.v x1 x2 x3 14).2.2.2 6).2.2.2 5).2.2.1 (Pu.spec_l01Below.v (Pu.spec_l01Below.v (Pu.spec_l01Below.v x1 x2 x3 14).2.1 (Pu.spec_l01Below.v x1 x2 x3 14).2.2.1 (Pu.spec_l01Below.v x1 x2 x3 14).2.2.2 6).2.1 (Pu.spec_l01Below.v (Pu.spec_l01Below.v x1 x2 x3 14).2.1 (Pu.spec_l01Below.v x1 x2 x3 14).2.2.1 (Pu.spec_l01Below.v x1 x2 x3 14).2.2.2 6).2.2.1 (Pu.spec_l01Below.v (Pu.spec_l01Below.v x1 x2 x3 14).2.1 (Pu.spec_l01Below.v x1 x2 x3 14).2.2.1 (Pu.spec_l01Below.v x1 x2 x3 14).2.2.2 6).2.2.2 5).2.2.2 6) then (bif (Pu.spec_StreamRead.c x6 x7 x8 (w64 (1 + (Pu.spec_l01Below.v (Pu.spec_l01Below.v (Pu.spec_l01Below.v x1 x2 x3 14).2.1 (Pu.spec_l01Below.v x1 x2 x3 14).2.2.1 (Pu.spec_l01Below.v x1 x2 x3 14).2.2.2 6).2.1 (Pu.spec_l01Below.v (Pu.spec_l01Below.v x1 x2 x3 14).2.1 (Pu.spec_l01Below.v x1 x2 x3 14).2.2.1 (Pu.spec_l01Below.v x1 x2 x3 14).2.2.2 6).2.2.1 (Pu.spec_l01Below.v (Pu.spec_l01Below.v x1 x2 x3 14).2.1 (Pu.spec_l01Below.v x1 x2 x3 14).2.2.1 (Pu.spec_l01Below.v x1 x2 x3 14).2.2.2 6).2.2.2 5).1)) (Pu.spec_l01Below.v (Pu.spec_l01Below.v (Pu.spec_l01Below.v (Pu.spec_l01Below.v x1 x2 x3 14).2.1 (Pu.spec_l01Below.v x1 x2 x3 14).2.2.1 (Pu.spec_l01Below.v x1 x2 x3 14).2.2.2 6).2.1 (Pu.spec_l01Below.v (Pu.spec_l01Below.v x1 x2 x3 14).2.1 (Pu.spec_l01Below.v x1 x2 x3 14).2.2.1 (Pu.spec_l01Below.v x1 x2 x3 14).2.2.2 6).2.2.1 (Pu.spec_l01Below.v (Pu.spec_l01Below.v x1 x2 x3 14).2.1 (Pu.spec_l01Below.v x1 x2 x3 14).2.2.1 (Pu.spec_l01Below.v x1 x2 x3 14).2.2.2 6).2.2.2 5).2.1 (Pu.spec_l01Below.v (Pu.spec_l01Below.v (Pu.spec_l01Below.v x1 x2 x3 14).2.1 (Pu.spec_l01Below.v x1 x2 x3 14).2.2.1 (Pu.spec_l01Below.v x1 x2 x3 14).2.2.2 6).2.1 (Pu.spec_l01Below.v (Pu.spec_l01Below.v x1 x2 x3 14).2.1 (Pu.spec_l01Below.v x1 x2 x3 14).2.2.1 (Pu.spec_l01Below.v x1 x2 x3 14).2.2.2 6).2.2.1 (Pu.spec_l01Below.v (Pu.spec_l01Below.v x1 x2 x3 14).2.1 (Pu.spec_l01Below.v x1 x2 x3 14).2.2.1 (Pu.spec_l01Below.v x1 x2 x3 14).2.2.2 6).2.2.2 5).2.2.1 (Pu.spec_l01Below.v (Pu.spec_l01Below.v (Pu.spec_l01Below.v x1 x2 x3 14).2.1 (Pu.spec_l01Below.v x1 x2 x3 14).2.2.1 (Pu.spec_l01Below.v x1 x2 x3 14).2.2.2 6).2.1 (Pu.spec_l01Below.v (Pu.spec_l01Below.v x1 x2 x3 14).2.1 (Pu.spec_l01Below.v x1 x2 x3 14).2.2.1 (Pu.spec_l01Below.v x1 x2 x3 14).2.2.2 6).2.2.1 (Pu.spec_l01Below.v (Pu.spec_l01Below.v x1 x2 x3 14).2.1 (Pu.spec_l01Below.v x1 x2 x3 14).2.2.1 (Pu.spec_l01Below.v x1 x2 x3 14).2.2.2 6).2.2.2 5).2.2.2 6).1) then (g (w64 (x0 + 1)) ((Pu.spec_l01Below.v (Pu.spec_l01Below.v (Pu.spec_l01Below.v (Pu.spec_l01Below.v x1 x2 x3 14).2.1 (Pu.spec_l01Below.v x1 x2 x3 14).2.2.1 (Pu.spec_l01Below.v x1 x2 x3 14).2.2.2 6).2.1 (Pu.spec_l01Below.v (Pu.spec_l01Below.v x1 x2 x3 14).2.1 (Pu.spec_l01Below.v x1 x2 x3 14).2.2.1 (Pu.spec_l01Below.v x1 x2 x3 14).2.2.2 6).2.2.1 (Pu.spec_l01Below.v (Pu.spec_l01Below.v x1 x2 x3 14).2.1 (Pu.spec_l01Below.v x1 x2 x3 14).2.2.1 (Pu.spec_l01Below.v x1 x2 x3 14).2.2.2 6).2.2.2 5).2.1 (Pu.spec_l01Below.v (Pu.spec_l01Below.v (Pu.spec_l01Below.v x1 x2 x3 14).2.1 (Pu.spec_l01Below.v x1 x2 x3 14).2.2.1 (Pu.spec_l01Below.v x1 x2 x3 14).2.2.2 6).2.1 (Pu.spec_l01Below.v (Pu.spec_l01Below.v x1 x2 x3 14).2.1 (Pu.spec_l01Below.v x1 x2 x3 14).2.2.1 (Pu.spec_l01Below.v x1 x2 x3 14).2.2.2 6).2.2.1 (Pu.spec_l01Below.v (Pu.spec_l01Below.v x1 x2 x3 14).2.1 (Pu.spec_l01Below.v x1 x2 x3 14).2.2.1 (Pu.spec_l01Below.v x1 x2 x3 14).2.2.2 6).2.2.2 5).2.2.1 (Pu.spec_l01Below.v (Pu.spec_l01Below.v (Pu.spec_l01Below.v x1 x2 x3 14).2.1 (Pu.spec_l01Below.v x1 x2 x3 14).2.2.1 (Pu.spec_l01Below.v x1 x2 x3 14).2.2.2 6).2.1 (Pu.spec_l01Below.v (Pu.spec_l01Below.v x1 x2 x3 14).2.1 (Pu.spec_l01Below.v x1 x2 x3 14).2.2.1 (Pu.spec_l01Below.v x1 x2 x3 14).2.2.2 6).2.2.1 (Pu.spec_l01Below.v (Pu.spec_l01Below.v x1 x2 x3 14).2.1 (Pu.spec_l01Below.v x1 x2 x3 14).2.2.1 (Pu.spec_l01Below.v x1 x2 x3 14).2.2.2 6).2.2.2 5).2.2.2 6).2.1) ((Pu.spec_l01Below.v (Pu.spec_l01Below.v (Pu.spec_l01Below.v (Pu.spec_l01Below.v x1 x2 x3 14).2.1 (Pu.spec_l01Below.v x1 x2 x3 14).2.2.1 (Pu.spec_l01Below.v x1 x2 x3 14).2.2.2 6).2.1 (Pu.spec_l01Below.v (Pu.spec_l01Below.v x1 x2 x3 14).2.1 (Pu.spec_l01Below.v x1 x2 x3 14).2.2.1 (Pu.spec_l01Below.v x1 x2 x3 14).2.2.2 6).2.2.1 (Pu.spec_l01Below.v (Pu.spec_l01Below.v x1 x2 x3 14).2.1 (Pu.spec_l01Below.v x1 x2 x3 14).2.2.1 (Pu.spec_l01Below.v x1 x2 x3 14).2.2.2 6).2.2.2 5).2.1 (Pu.spec_l01Below.v (Pu.spec_l01Below.v (Pu.spec_l01Below.v x1 x2 x3 14).2.1 (Pu.spec_l01Below.v x1 x2 x3 14).2.2.1 (Pu.spec_l01Below.v x1 x2 x3 14).2.2.2 6).2.1 (Pu.spec_l01Below.v (Pu.spec_l01Below.v x1 x2 x3 14).2.1 (Pu.spec_l01Below.v x1 x2 x3 14).2.2.1 (Pu.spec_l01Below.v x1 x2 x3 14).2.2.2 6).2.2.1 (Pu.spec_l01Below.v (Pu.spec_l01Below.v x1 x2 x3 14).2.1 (Pu.spec_l01Below.v x1 x2 x3 14).2.2.1 (Pu.spec_l01Below.v x1 x2 x3 14).2.2.2 6).2.2.2 5).2.2.1 (Pu.spec_l01Below.v (Pu.spec_l01Below.v (Pu.spec_l01Below.v x1 x2 x3 14).2.1 (Pu.spec_l01Below.v x1 x2 x3 14).2.2.1 (Pu.spec_l01Below.v x1 x2 x3 14).2.2.2 6).2.1 (Pu.spec_l01Below.v (Pu.spec_l01Below.v x1 x2 x3 14).2.1 (Pu.spec_l01Below.v x1 x2 x3 14).2.2.1 (Pu.spec_l01Below.v x1 x2 x3 14).2.2.2 6).2.2.1 (Pu.spec_l01Below.v (Pu.spec_l01Below.v x1 x2 x3 14).2.1 (Pu.spec_l01Below.v x1 x2 x3 14).2.2.1 (Pu.spec_l01Below.v x1 x2 x3 14).2.2.2 6).2.2.2 5).2.2.2 6).2.2.1) ((Pu.spec_l01Below.v (Pu.spec_l01Below.v (Pu.spec_l01Below.v (Pu.spec_l01Below.v x1 x2 x3 14).2.1 (Pu.spec_l01Below.v x1 x2 x3 14).2.2.1 (Pu.spec_l01Below.v x1 x2 x3 14).2.2.2 6).2.1 (Pu.spec_l01Below.v (Pu.spec_l01Below.v x1 x2 x3 14).2.1 (Pu.spec_l01Below.v x1 x2 x3 14).2.2.1 (Pu.spec_l01Below.v x1 x2 x3 14).2.2.2 6).2.2.1 (Pu.spec_l01Below.v (Pu.spec_l01Below.v x1 x2 x3 14).2.1 (Pu.spec_l01Below.v x1 x2 x3 14).2.2.1 (Pu.spec_l01Below.v x1 x2 x3 14).2.2.2 6).2.2.2 5).2.1 (Pu.spec_l01Below.v (Pu.spec_l01Below.v (Pu.spec_l01Below.v x1 x2 x3 14).2.1 (Pu.spec_l01Below.v x1 x2 x3 14).2.2.1 (Pu.spec_l01Below.v x1 x2 x3 14).2.2.2 6).2.1 (Pu.spec_l01Below.v (Pu.spec_l01Below.v x1 x2 x3 14).2.1 (Pu.spec_l01Below.v x1 x2 x3 14).2.2.1 (Pu.spec_l01Below.v x1 x2 x3 14).2.2.2 6).2.2.1 (Pu.spec_l01Below.v (Pu.spec_l01Below.v x1 x2 x3 14).2.1 (Pu.spec_l01Below.v x1 x2 x3 14).2.2.1 (Pu.spec_l01Below.v x1 x2 x3 14).2.2.2 6).2.2.2 5).2.2.1 (Pu.spec_l01Below.v (Pu.spec_l01Below.v (Pu.spec_l01Below.v x1 x2 x3 14).2.1 (Pu.spec_l01Below.v x1 x2 x3 14).2.2.1 (Pu.spec_l01Below.v x1 x2 x3 14).2.2.2 6).2.1 (Pu.spec_l01Below.v (Pu.spec_l01Below.v x1 x2 x3 14).2.1 (Pu.spec_l01Below.v x1 x2 x3 14).2.2.1 (Pu.spec_l01Below.v x1 x2 x3 14).2.2.2 6).2.2.1 (Pu.spec_l01Below.v (Pu.spec_l01Below.v x1 x2 x3 14).2.1 (Pu.spec_l01Below.v x1 x2 x3 14).2.2.1 (Pu.spec_l01Below.v x1 x2 x3 14).2.2.2 6).2.2.2 5).2.2.2 6).2.2.2) x4 x5 ((Pu.spec_StreamRead.v x6 x7 x8 (w64 (1 + (Pu.spec_l01Below.v (Pu.spec_l01Below.v (Pu.spec_l01Below.v x1 x2 x3 14).2.1 (Pu.spec_l01Below.v x1 x2 x3 14).2.2.1 (Pu.spec_l01Below.v x1 x2 x3 14).2.2.2 6).2.1 (Pu.spec_l01Below.v (Pu.spec_l01Below.v x1 x2 x3 14).2.1 (Pu.spec_l01Below.v x1 x2 x3 14).2.2.1 (Pu.spec_l01Below.v x1 x2 x3 14).2.2.2 6).2.2.1 (Pu.spec_l01Below.v (Pu.spec_l01Below.v x1 x2 x3 14).2.1 (Pu.spec_l01Below.v x1 x2 x3 14).2.2.1 (Pu.spec_l01Below.v x1 x2 x3 14).2.2.2 6).2.2.2 5).1)) (Pu.spec_l01Below.v (Pu.spec_l01Below.v (Pu.spec_l01Below.v (Pu.spec_l01Below.v x1 x2 x3 14).2.1 (Pu.spec_l01Below.v x1 x2 x3 14).2.2.1 (Pu.spec_l01Below.v x1 x2 x3 14).2.2.2 6).2.1 (Pu.spec_l01Below.v (Pu.spec_l01Below.v x1 x2 x3 14).2.1 (Pu.spec_l01Below.v x1 x2 x3 14).2.2.1 (Pu.spec_l01Below.v x1 x2 x3 14).2.2.2 6).2.2.1 (Pu.spec_l01Below.v (Pu.spec_l01Below.v x1 x2 x3 14).2.1 (Pu.spec_l01Below.v x1 x2 x3 14).2.2.1 (Pu.spec_l01Below.v x1 x2 x3 14).2.2.2 6).2.2.2 5).2.1 (Pu.spec_l01Below.v (Pu.spec_l01Below.v (Pu.spec_l01Below.v x1 x2 x3 14).2.1 (Pu.spec_l01Below.v x1 x2 x3 14).2.2.1 (Pu.spec_l01Below.v x1 x2 x3 14).2.2.2 6).2.1 (Pu.spec_l01Below.v (Pu.spec_l01Below.v x1 x2 x3 14).2.1 (Pu.spec_l01Below.v x1 x2 x3 14).2.2.1 (Pu.spec_l01Below.v x1 x2 x3 14).2.2.2 6).2.2.1 (Pu.spec_l01Below.v (Pu.spec_l01Below.v x1 x2 x3 14).2.1 (Pu.spec_l01Below.v x1 x2 x3 14).2.2.1 (Pu.spec_l01Below.v x1 x2 x3 14).2.2.2 6).2.2.2 5).2.2.1 (Pu.spec_l01Below.v (Pu.spec_l01Below.v (Pu.spec_l01Below.v x1 x2 x3 14).2.1 (Pu.spec_l01Below.v x1 x2 x3 14).2.2.1 (Pu.spec_l01Below.v x1 x2 x3 14).2.2.2 6).2.1 (Pu.spec_l01Below.v (Pu.spec_l01Below.v x1 x2 x3 14).2.1 (Pu.spec_l01Below.v x1 x2 x3 14).2.2.1 (Pu.spec_l01Below.v x1 x2 x3 14).2.2.2 6).2.2.1 (Pu.spec_l01Below.v (Pu.spec_l01Below.v x1 x2 x3 14).2.1 (Pu.spec_l01Below.v x1 x2 x3 14).2.2.1 (Pu.spec_l01Below.v x1 x2 x3 14).2.2.2 6).2.2.2 5).2.2.2 6).1).1) ((Pu.spec_StreamRead.v x6 x7 x8 (w64 (1 + (Pu.spec_l01Below.v (Pu.spec_l01Below.v (Pu.spec_l01Below.v x1 x2 x3 14).2.1 (Pu.spec_l01Below.v x1 x2 x3 14).2.2.1 (Pu.spec_l01Below.v x1 x2 x3 14).2.2.2 6).2.1 (Pu.spec_l01Below.v (Pu.spec_l01Below.v x1 x2 x3 14).2.1 (Pu.spec_l01Below.v x1 x2 x3 14).2.2.1 (Pu.spec_l01Below.v x1 x2 x3 14).2.2.2 6).2.2.1 (Pu.spec_l01Below.v (Pu.spec_l01Below.v x1 x2 x3 14).2.1 (Pu.spec_l01Below.v x1 x2 x3 14).2.2.1 (Pu.spec_l01Below.v x1 x2 x3 14).2.2.2 6).2.2.2 5).1)) (Pu.spec_l01Below.v (Pu.spec_l01Below.v (Pu.spec_l01Below.v (Pu.spec_l01Below.v x1 x2 x3 14).2.1 (Pu.spec_l01Below.v x1 x2 x3 14).2.2.1 (Pu.spec_l01Below.v x1 x2 x3 14).2.2.2 6).2.1 (Pu.spec_l01Below.v (Pu.spec_l01Below.v x1 x2 x3 14).2.1 (Pu.spec_l01Below.v x1 x2 x3 14).2.2.1 (Pu.spec_l01Below.v x1 x2 x3 14).2.2.2 6).2.2.1 (Pu.spec_l01Below.v (Pu.spec_l01Below.v x1 x2 x3 14).2.1 (Pu.spec_l01Below.v x1 x2 x3 14).2.2.1 (Pu.spec_l01Below.v x1 x2 x3 14).2.2.2 6).2.2.2 5).2.1 (Pu.spec_l01Below.v (Pu.spec_l01Below.v (Pu.spec_l01Below.v x1 x2 x3 14).2.1 (Pu.spec_l01Below.v x1 x2 x3 14).2.2.1 (Pu.spec_l01Below.v x1 x2 x3 14).2.2.2 6).2.1 (Pu.spec_l01Below.v (Pu.spec_l01Below.v x1 x2 x3 14).2.1 (Pu.spec_l01Below.v x1 x2 x3 14).2.2.1 (Pu.spec_l01Below.v x1 x2 x3 14).2.2.2 6).2.2.1 (Pu.spec_l01Below.v (Pu.spec_l01Below.v x1 x2 x3 14).2.1 (Pu.spec_l01Below.v x1 x2 x3 14).2.2.1 (Pu.spec_l01Below.v x1 x2 x3 14).2.2.2 6).2.2.2 5).2.2.1 (Pu.spec_l01Below.v (Pu.spec_l01Below.v (Pu.spec_l01Below.v x1 x2 x3 14).2.1 (Pu.spec_l01Below.v x1 x2 x3 14).2.2.1 (Pu.spec_l01Below.v x1 x2 x3 14).2.2.2 6).2.1 (Pu.spec_l01Below.v (Pu.spec_l01Below.v x1 x2 x3 14).2.1 (Pu.spec_l01Below.v x1 x2 x3 14).2.2.1 (Pu.spec_l01Below.v x1 x2 x3 14).2.2.2 6).2.2.1 (Pu.spec_l01Below.v (Pu.spec_l01Below.v x1 x2 x3 14).2.1 (Pu.spec_l01Below.v x1 x2 x3 14).2.2.1 (Pu.spec_l01Below.v x1 x2 x3 14).2.2.2 6).2.2.2 5).2.2.2 6).1).2.1) ((Pu.spec_StreamRead.v x6 x7 x8 (w64 (1 + (Pu.spec_l01Below.v (Pu.spec_l01Below.v (Pu.spec_l01Below.v x1 x2 x3 14).2.1 (Pu.spec_l01Below.v x1 x2 x3 14).2.2.1 (Pu.spec_l01Below.v x1 x2 x3 14).2.2.2 6).2.1 (Pu.spec_l01Below.v (Pu.spec_l01Below.v x1 x2 x3 14).2.1 (Pu.spec_l01Below.v x1 x2 x3 14).2.2.1 (Pu.spec_l01Below.v x1 x2 x3 14).2.2.2 6).2.2.1 (Pu.spec_l01Below.v (Pu.spec_l01Below.v x1 x2 x3 14).2.1 (Pu.spec_l01Below.v x1 x2 x3 14).2.2.1 (Pu.spec_l01Below.v x1 x2 x3 14).2.2.2 6).2.2.2 5).1)) (Pu.spec_l01Below.v (Pu.spec_l01Below.v (Pu.spec_l01Below.v (Pu.spec_l01Below.v x1 x2 x3 14).2.1 (Pu.spec_l01Below.v x1 x2 x3 14).2.2.1 (Pu.spec_l01Below.v x1 x2 x3 14).2.2.2 6).2.1 (Pu.spec_l01Below.v (Pu.spec_l01Below.v x1 x2 x3 14).2.1 (Pu.spec_l01Below.v x1 x2 x3 14).2.2.1 (Pu.spec_l01Below.v x1 x2 x3 14).2.2.2 6).2.2.1 (Pu.spec_l01Below.v (Pu.spec_l01Below.v x1 x2 x3 14).2.1 (Pu.spec_l01Below.v x1 x2 x3 14).2.2.1 (Pu.spec_l01Below.v x1 x2 x3 14).2.2.2 6).2.2.2 5).2.1 (Pu.spec_l01Below.v (Pu.spec_l01Below.v (Pu.spec_l01Below.v x1 x2 x3 14).2.1 (Pu.spec_l01Below.v x1 x2 x3 14).2.2.1 (Pu.spec_l01Below.v x1 x2 x3 14).2.2.2 6).2.1 (Pu.spec_l01Below.v (Pu.spec_l01Below.v x1 x2 x3 14).2.1 (Pu.spec_l01Below.v x1 x2 x3 14).2.2.1 (Pu.spec_l01Below.v x1 x2 x3 14).2.2.2 6).2.2.1 (Pu.spec_l01Below.v (Pu.spec_l01Below.v x1 x2 x3 14).2.1 (Pu.spec_l01Below.v x1 x2 x3 14).2.2.1 (Pu.spec_l01Below.v x1 x2 x3 14).2.2.2 6).2.2.2 5).2.2.1 (Pu.spec_l01Below.v (Pu.spec_l01Below.v (Pu.spec_l01Below.v x1 x2 x3 14).2.1 (Pu.spec_l01Below.v x1 x2 x3 14).2.2.1 (Pu.spec_l01Below.v x1 x2 x3 14).2.2.2 6).2.1 (Pu.spec_l01Below.v (Pu.spec_l01Below.v x1 x2 x3 14).2.1 (Pu.spec_l01Below.v x1 x2 x3 14).2.2.1 (Pu.spec_l01Below.v x1 x2 x3 14).2.2.2 6).2.2.1 (Pu.spec_l01Below.v (Pu.spec_l01Below.v x1 x2 x3 14).2.1 (Pu.spec_l01Below.v x1 x2 x3 14).2.2.1 (Pu.spec_l01Below.v x1 x2 x3 14).2.2.2 6).2.2.2 5).2.2.2 6).1).2.2.1)) else (none)) else (none)) else (none)) else (bif (decide ((Pu.spec_l01Below.v (Pu.spec_l01Below.v x1 x2 x3 14).2.1 (Pu.spec_l01Below.v x1 x2 x3 14).2.2.1 (Pu.spec_l01Below.v x1 x2 x3 14).2.2.2 6).1 = 4)) then (bif (Pu.spec_l01Below.c (Pu.spec_l01Below.v (Pu.spec_l01Below.v x1 x2 x3 14).2.1 (Pu.spec_l01Below.v x1 x2 x3 14).2.2.1 (Pu.spec_l01Below.v x1 x2 x3 14).2.2.2 6).2.1 (Pu.spec_l01Below.v (Pu.spec_l01Below.v x1 x2 x3 14).2.1 (Pu.spec_l01Below.v x1 x2 x3 14).2.2.1 (Pu.spec_l01Below.v x1 x2 x3 14).2.2.2 6).2.2.1 (Pu.spec_l01Below.v (Pu.spec_l01Below.v x1 x2 x3 14).2.1 (Pu.spec_l01Below.v x1 x2 x3 14).2.2.1 (Pu.spec_l01Below.v x1 x2 x3 14).2.2.2 6).2.2.2 5) then (bif (Pu.spec_StreamLeave.c x6 x7 x8 (w64 (1 + (Pu.spec_l01Below.v (Pu.spec_l01Below.v (Pu.spec_l01Below.v x1 x2 x3 14).2.1 (Pu.spec_l01Below.v x1 x2 x3 14).2.2.1 (Pu.spec_l01Below.v x1 x2 x3 14).2.2.2 6).2.1 (Pu.spec_l01Below.v (Pu.spec_l01Below.v x1 x2 x3 14).2.1 (Pu.spec_l01Below.v x1 x2 x3 14).2.2.1 (Pu.spec_l01Below.v x1 x2 x3 14).2.2.2 6).2.2.1 (Pu.spec_l01Below.v (Pu.spec_l01Below.v x1 x2 x3 14).2.1 (Pu.spec_l01Below.v x1 x2 x3 14).2.2.1 (Pu.spec_l01Below.v x1 x2 x3 14).2.2.2 6).2.2.2 5).1))) then (g (w64 (x0 + 1)) ((Pu.spec_l01Below.v (Pu.spec_l01Below.v (Pu.spec_l01Below.v x1 x2 x3 14).2.1 (Pu.spec_l01Below.v x1 x2 x3 14).2.2.1 (Pu.spec_l01Below.v x1 x2 x3 14).2.2.2 6).2.1 (Pu.spec_l01Below.v (Pu.spec_l01Below.v x1 x2 x3 14).2.1 (Pu.spec_l01Below.v x1 x2 x3 14).2.2.1 (Pu.spec_l01Below.v x1 x2 x3 14).2.2.2 6).2.2.1 (Pu.spec_l01Below.v (Pu.spec_l01Below.v x1 x2 x3 14).2.1 (Pu.spec_l01Below.v x1 x2 x3 14).2.2.1 (Pu.spec_l01Below.v x1 x2 x3 14).2.2.2 6).2.2.2 5).2.1) ((Pu.spec_l01Below.v (Pu.spec_l01Below.v (Pu.spec_l01Below.v x1 x2 x3 14).2.1 (Pu.spec_l01Below.v x1 x2 x3 14).2.2.1 (Pu.spec_l01Below.v x1 x2 x3 14).2.2.2 6).2.1 (Pu.spec_l01Below.v (Pu.spec_l01Below.v x1 x2 x3 14).2.1 (Pu.spec_l01Below.v x1 x2 x3 14).2.2.1 (Pu.spec_l01Below.v x1 x2 x3 14).2.2.2 6).2.2.1 (Pu.spec_l01Below.v (Pu.spec_l01Below.v x1 x2 x3 14).2.1 (Pu.spec_l01Below.v x1 x2 x3 14).2.2.1 (Pu.spec_l01Below.v x1 x2 x3 14).2.2.2 6).2.2.2 5).2.2.1) ((Pu.spec_l01Below.v (Pu.spec_l01Below.v (Pu.spec_l01Below.v x1 x2 x3 14).2.1 (Pu.spec_l01Below.v x1 x2 x3 14).2.2.1 (Pu.spec_l01Below.v x1 x2 x3 14).2.2.2 6).2.1 (Pu.spec_l01Below.v (Pu.spec_l01Below.v x1 x2 x3 14).2.1 (Pu.spec_l01Below.v x1 x2 x3 14).2.2.1 (Pu.spec_l01Below.v x1 x2 x3 14).2.2.2 6).2.2.1 (Pu.spec_l01Below.v (Pu.spec_l01Below.v x1 x2 x3 14).2.1 (Pu.spec_l01Below.v x1 x2 x3 14).2.2.1 (Pu.spec_l01Below.v x1 x2 x3 14).2.2.2 6).2.2.2 5).2.2.2) x4 x5 x6 x7 (Pu.spec_StreamLeave.f (w64 (1 + (Pu.spec_l01Below.v (Pu.spec_l01Below.v (Pu.spec_l01Below.v x1 x2 x3 14).2.1 (Pu.spec_l01Below.v x1 x2 x3 14).2.2.1 (Pu.spec_l01Below.v x1 x2 x3 14).2.2.2 6).2.1 (Pu.spec_l01Below.v (Pu.spec_l01Below.v x1 x2 x3 14).2.1 (Pu.spec_l01Below.v x1 x2 x3 14).2.2.1 (Pu.spec_l01Below.v x1 x2 x3 14).2.2.2 6).2.2.1 (Pu.spec_l01Below.v (Pu.spec_l01Below.v x1 x2 x3 14).2.1 (Pu.spec_l01Below.v x1 x2 x3 14).2.2.1 (Pu.spec_l01Below.v x1 x2 x3 14).2.2.2 6).2.2.2 5).1)) x8)) else (none)) else (none)) else (bif (Pu.spec_l01Once.c (Pu.spec_l01Below.v (Pu.spec_l01Below.v x1 x2 x3 14).2.1 (Pu.spec_l01Below.v x1 x2 x3 14).2.2.1 (Pu.spec_l01Below.v x1 x2 x3 14).2.2.2 6).2.1 (Pu.spec_l01Below.v (Pu.spec_l01Below.v x1 x2 x3 14).2.1 (Pu.spec_l01Below.v x1 x2 x3 14).2.2.1 (Pu.spec_l01Below.v x1 x2 x3 14).2.2.2 6).2.2.1 (Pu.spec_l01Below.v (Pu.spec_l01Below.v x1 x2 x3 14).2.1 (Pu.spec_l01Below.v x1 x2 x3 14).2.2.1 (Pu.spec_l01Below.v x1 x2 x3 14).2.2.2 6).2.2.2 6) then (bif ((Pu.spec_l01Once.v (Pu.spec_l01Below.v (Pu.spec_l01Below.v x1 x2 x3 14).2.1 (Pu.spec_l01Below.v x1 x2 x3 14).2.2.1 (Pu.spec_l01Below.v x1 x2 x3 14).2.2.2 6).2.1 (Pu.spec_l01Below.v (Pu.spec_l01Below.v x1 x2 x3 14).2.1 (Pu.spec_l01Below.v x1 x2 x3 14).2.2.1 (Pu.spec_l01Below.v x1 x2 x3 14).2.2.2 6).2.2.1 (Pu.spec_l01Below.v (Pu.spec_l01Below.v x1 x2 x3 14).2.1 (Pu.spec_l01Below.v x1 x2 x3 14).2.2.1 (Pu.spec_l01Below.v x1 x2 x3 14).2.2.2 6).2.2.2 6).1) then (bif (Pu.spec_l01Once.c (Pu.spec_l01Once.v (Pu.spec_l01Below.v (Pu.spec_l01Below.v x1 x2 x3 14).2.1 (Pu.spec_l01Below.v x1 x2 x3 14).2.2.1 (Pu.spec_l01Below.v x1 x2 x3 14).2.2.2 6).2.1 (Pu.spec_l01Below.v (Pu.spec_l01Below.v x1 x2 x3 14).2.1 (Pu.spec_l01Below.v x1 x2 x3 14).2.2.1 (Pu.spec_l01Below.v x1 x2 x3 14).2.2.2 6).2.2.1 (Pu.spec_l01Below.v (Pu.spec_l01Below.v x1 x2 x3 14).2.1 (Pu.spec_l01Below.v x1 x2 x3 14).2.2.1 (Pu.spec_l01Below.v x1 x2 x3 14).2.2.2 6).2.2.2 6).2.1 (Pu.spec_l01Once.v (Pu.spec_l01Below.v (Pu.spec_l01Below.v x1 x2 x3 14).2.1 (Pu.spec_l01Below.v x1 x2 x3 14).2.2.1 (Pu.spec_l01Below.v x1 x2 x3 14).2.2.2 6).2.1 (Pu.spec_l01Below.v (Pu.spec_l01Below.v x1 x2 x3 14).2.1 (Pu.spec_l01Below.v x1 x2 x3 14).2.2.1 (Pu.spec_l01Below.v x1 x2 x3 14).2.2.2 6).2.2.1 (Pu.spec_l01Below.v (Pu.spec_l01Below.v x1 x2 x3 14).2.1 (Pu.spec_l01Below.v x1 x2 x3 14).2.2.1 (Pu.spec_l01Below.v x1 x2 x3 14).2.2.2 6).2.2.2 6).2.2.1 (Pu.spec_l01Once.v (Pu.spec_l01Below.v (Pu.spec_l01Below.v x1 x2 x3 14).2.1 (Pu.spec_l01Below.v x1 x2 x3 14).2.2.1 (Pu.spec_l01Below.v x1 x2 x3 14).2.2.2 6).2.1 (Pu.spec_l01Below.v (Pu.spec_l01Below.v x1 x2 x3 14).2.1 (Pu.spec_l01Below.v x1 x2 x3 14).2.2.1 (Pu.spec_l01Below.v x1 x2 x3 14).2.2.2 6).2.2.1 (Pu.spec_l01Below.v (Pu.spec_l01Below.v x1 x2 x3 14).2.1 (Pu.spec_l01Below.v x1 x2 x3 14).2.2.1 (Pu.spec_l01Below.v x1 x2 x3 14).2.2.2 6).2.2.2 6).2.2.2 2) then (bif (Pu.spec_StreamEnd.c x6 x7 x8 (Pu.spec_l01Once.v (Pu.spec_l01Once.v (Pu.spec_l01Below.v (Pu.spec_l01Below.v x1 x2 x3 14).2.1 (Pu.spec_l01Below.v x1 x2 x3 14).2.2.1 (Pu.spec_l01Below.v x1 x2 x3 14).2.2.2 6).2.1 (Pu.spec_l01Below.v (Pu.spec_l01Below.v x1 x2 x3 14).2.1 (Pu.spec_l01Below.v x1 x2 x3 14).2.2.1 (Pu.spec_l01Below.v x1 x2 x3 14).2.2.2 6).2.2.1 (Pu.spec_l01Below.v (Pu.spec_l01Below.v x1 x2 x3 14).2.1 (Pu.spec_l01Below.v x1 x2 x3 14).2.2.1 (Pu.spec_l01Below.v x1 x2 x3 14).2.2.2 6).2.2.2 6).2.1 (Pu.spec_l01Once.v (Pu.spec_l01Below.v (Pu.spec_l01Below.v x1 x2 x3 14).2.1 (Pu.spec_l01Below.v x1 x2 x3 14).2.2.1 (Pu.spec_l01Below.v x1 x2 x3 14).2.2.2 6).2.1 (Pu.spec_l01Below.v (Pu.spec_l01Below.v x1 x2 x3 14).2.1 (Pu.spec_l01Below.v x1 x2 x3 14).2.2.1 (Pu.spec_l01Below.v x1 x2 x3 14).2.2.2 6).2.2.1 (Pu.spec_l01Below.v (Pu.spec_l01Below.v x1 x2 x3 14).2.1 (Pu.spec_l01Below.v x1 x2 x3 14).2.2.1 (Pu.spec_l01Below.v x1 x2 x3 14).2.2.2 6).2.2.2 6).2.2.1 (Pu.spec_l01Once.v (Pu.spec_l01Below.v (Pu.spec_l01Below.v x1 x2 x3 14).2.1 (Pu.spec_l01Below.v x1 x2 x3 14).2.2.1 (Pu.spec_l01Below.v x1 x2 x3 14).2.2.2 6).2.1 (Pu.spec_l01Below.v (Pu.spec_l01Below.v x1 x2 x3 14).2.1 (Pu.spec_l01Below.v x1 x2 x3 14).2.2.1 (Pu.spec_l01Below.v x1 x2 x3 14).2.2.2 6).2.2.1 (Pu.spec_l01Below.v (Pu.spec_l01Below.v x1 x2 x3 14).2.1 (Pu.spec_l01Below.v x1 x2 x3 14).2.2.1 (Pu.spec_l01Below.v x1 x2 x3 14).2.2.2 6).2.2.2 6).2.2.2 2).1) then (g (w64 (x0 + 1)) ((Pu.spec_l01Once.v (Pu.spec_l01Once.v (Pu.spec_l01Below.v (Pu.spec_l01Below.v x1 x2 x3 14).2.1 (Pu.spec_l01Below.v x1 x2 x3 14).2.2.1 (Pu.spec_l01Below.v x1 x2 x3 14).2.2.2 6).2.1 (Pu.spec_l01Below.v (Pu.spec_l01Below.v x1 x2 x3 14).2.1 (Pu.spec_l01Below.v x1 x2 x3 14).2.2.1 (Pu.spec_l01Below.v x1 x2 x3 14).2.2.2 6).2.2.1 (Pu.spec_l01Below.v (Pu.spec_l01Below.v x1 x2 x3 14).2.1 (Pu.spec_l01Below.v x1 x2 x3 14).2.2.1 (Pu.spec_l01Below.v x1 x2 x3 14).2.2.2 6).2.2.2 6).2.1 (Pu.spec_l01Once.v (Pu.spec_l01Below.v (Pu.spec_l01Below.v x1 x2 x3 14).2.1 (Pu.spec_l01Below.v x1 x2 x3 14).2.2.1 (Pu.spec_l01Below.v x1 x2 x3 14).2.2.2 6).2.1 (Pu.spec_l01Below.v (Pu.spec_l01Below.v x1 x2 x3 14).2.1 (Pu.spec_l01Below.v x1 x2 x3 14).2.2.1 (Pu.spec_l01Below.v x1 x2 x3 14).2.2.2 6).2.2.1 (Pu.spec_l01Below.v (Pu.spec_l01Below.v x1 x2 x3 14).2.1 (Pu.spec_l01Below.v x1 x2 x3 14).2.2.1 (Pu.spec_l01Below.v x1 x2 x3 14).2.2.2 6).2.2.2 6).2.2.1 (Pu.spec_l01Once.v (Pu.spec_l01Below.v (Pu.spec_l01Below.v x1 x2 x3 14).2.1 (Pu.spec_l01Below.v x1 x2 x3 14).2.2.1 (Pu.spec_l01Below.v x1 x2 x3 14).2.2.2 6).2.1 (Pu.spec_l01Below.v (Pu.spec_l01Below.v x1 x2 x3 14).2.1 (Pu.spec_l01Below.v x1 x2 x3 14).2.2.1 (Pu.spec_l01Below.v x1 x2 x3 14).2.2.2 6).2.2.1 (Pu.spec_l01Below.v (Pu.spec_l01Below.v x1 x2 x3 14).2.1 (Pu.spec_l01Below.v x1 x2 x3 14).2.2.1 (Pu.spec_l01Below.v x1 x2 x3 14).2.2.2 6).2.2.2 6).2.2.2 2).2.1) ((Pu.spec_l01Once.v (Pu.spec_l01Once.v (Pu.spec_l01Below.v (Pu.spec_l01Below.v x1 x2 x3 14).2.1 (Pu.spec_l01Below.v x1 x2 x3 14).2.2.1 (Pu.spec_l01Below.v x1 x2 x3 14).2.2.2 6).2.1 (Pu.spec_l01Below.v (Pu.spec_l01Below.v x1 x2 x3 14).2.1 (Pu.spec_l01Below.v x1 x2 x3 14).2.2.1 (Pu.spec_l01Below.v x1 x2 x3 14).2.2.2 6).2.2.1 (Pu.spec_l01Below.v (Pu.spec_l01Below.v x1 x2 x3 14).2.1 (Pu.spec_l01Below.v x1 x2 x3 14).2.2.1 (Pu.spec_l01Below.v x1 x2 x3 14).2.2.2 6).2.2.2 6).2.1 (Pu.spec_l01Once.v (Pu.spec_l01Below.v (Pu.spec_l01Below.v x1 x2 x3 14).2.1 (Pu.spec_l01Below.v x1 x2 x3 14).2.2.1 (Pu.spec_l01Below.v x1 x2 x3 14).2.2.2 6).2.1 (Pu.spec_l01Below.v (Pu.spec_l01Below.v x1 x2 x3 14).2.1 (Pu.spec_l01Below.v x1 x2 x3 14).2.2.1 (Pu.spec_l01Below.v x1 x2 x3 14).2.2.2 6).2.2.1 (Pu.spec_l01Below.v (Pu.spec_l01Below.v x1 x2 x3 14).2.1 (Pu.spec_l01Below.v x1 x2 x3 14).2.2.1 (Pu.spec_l01Below.v x1 x2 x3 14).2.2.2 6).2.2.2 6).2.2.1 (Pu.spec_l01Once.v (Pu.spec_l01Below.v (Pu.spec_l01Below.v x1 x2 x3 14).2.1 (Pu.spec_l01Below.v x1 x2 x3 14).2.2.1 (Pu.spec_l01Below.v x1 x2 x3 14).2.2.2 6).2.1 (Pu.spec_l01Below.v (Pu.spec_l01Below.v x1 x2 x3 14).2.1 (Pu.spec_l01Below.v x1 x2 x3 14).2.2.1 (Pu.spec_l01Below.v x1 x2 x3 14).2.2.2 6).2.2.1 (Pu.spec_l01Below.v (Pu.spec_l01Below.v x1 x2 x3 14).2.1 (Pu.spec_l01Below.v x1 x2 x3 14).2.2.1 (Pu.spec_l01Below.v x1 x2 x3 14).2.2.2 6).2.2.2 6).2.2.2 2).2.2.1) ((Pu.spec_l01Once.v (Pu.spec_l01Once.v (Pu.spec_l01Below.v (Pu.spec_l01Below.v x1 x2 x3 14).2.1 (Pu.spec_l01Below.v x1 x2 x3 14).2.2.1 (Pu.spec_l01Below.v x1 x2 x3 14).2.2.2 6).2.1 (Pu.spec_l01Below.v (Pu.spec_l01Below.v x1 x2 x3 14).2.1 (Pu.spec_l01Below.v x1 x2 x3 14).2.2.1 (Pu.spec_l01Below.v x1 x2 x3 14).2.2.2 6).2.2.1 (Pu.spec_l01Below.v (Pu.spec_l01Below.v x1 x2 x3 14).2.1 (Pu.spec_l01Below.v x1 x2 x3 14).2.2.1 (Pu.spec_l01Below.v x1 x2 x3 14).2.2.2 6).2.2.2 6).2.1 (Pu.spec_l01Once.v (Pu.spec_l01Below.v (Pu.spec_l01Below.v x1 x2 x3 14).2.1 (Pu.spec_l01Below.v x1 x2 x3 14).2.2.1 (Pu.spec_l01Below.v x1 x2 x3 14).2.2.2 6).2.1 (Pu.spec_l01Below.v (Pu.spec_l01Below.v x1 x2 x3 14).2.1 (Pu.spec_l01Below.v x1 x2 x3 14).2.2.1 (Pu.spec_l01Below.v x1 x2 x3 14).2.2.2 6).2.2.1 (Pu.spec_l01Below.v (Pu.spec_l01Below.v x1 x2 x3 14).2.1 (Pu.spec_l01Below.v x1 x2 x3 14).2.2.1 (Pu.spec_l01Below.v x1 x2 x3 14).2.2.2 6).2.2.2 6).2.2.1 (Pu.spec_l01Once.v (Pu.spec_l01Below.v (Pu.spec_l01Below.v x1 x2 x3 14).2.1 (Pu.spec_l01Below.v x1 x2 x3 14).2.2.1 (Pu.spec_l01Below.v x1 x2 x3 14).2.2.2 6).2.1 (Pu.spec_l01Below.v (Pu.spec_l01Below.v x1 x2 x3 14).2.1 (Pu.spec_l01Below.v x1 x2 x3 14).2.2.1 (Pu.spec_l01Below.v x1 x2 x3 14).2.2.2 6).2.2.1 (Pu.spec_l01Below.v (Pu.spec_l01Below.v x1 x2 x3 14).2.1 (Pu.spec_l01Below.v x1 x2 x3 14).2.2.1 (Pu.spec_l01Below.v x1 x2 x3 14).2.2.2 6).2.2.2 6).2.2.2 2).2.2.2) x4 x5 ((Pu.spec_StreamEnd.v x6 x7 x8 (Pu.spec_l01Once.v (Pu.spec_l01Once.v (Pu.spec_l01Below.v (Pu.spec_l01Below.v x1 x2 x3 14).2.1 (Pu.spec_l01Below.v x1 x2 x3 14).2.2.1 (Pu.spec_l01Below.v x1 x2 x3 14).2.2.2 6).2.1 (Pu.spec_l01Below.v (Pu.spec_l01Below.v x1 x2 x3 14).2.1 (Pu.spec_l01Below.v x1 x2 x3 14).2.2.1 (Pu.spec_l01Below.v x1 x2 x3 14).2.2.2 6).2.2.1 (Pu.spec_l01Below.v (Pu.spec_l01Below.v x1 x2 x3 14).2.1 (Pu.spec_l01Below.v x1 x2 x3 14).2.2.1 (Pu.spec_l01Below.v x1 x2 x3 14).2.2.2 6).2.2.2 6).2.1 (Pu.spec_l01Once.v (Pu.spec_l01Below.v (Pu.spec_l01Below.v x1 x2 x3 14).2.1 (Pu.spec_l01Below.v x1 x2 x3 14).2.2.1 (Pu.spec_l01Below.v x1 x2 x3 14).2.2.2 6).2.1 (Pu.spec_l01Below.v (Pu.spec_l01Below.v x1 x2 x3 14).2.1 (Pu.spec_l01Below.v x1 x2 x3 14).2.2.1 (Pu.spec_l01Below.v x1 x2 x3 14).2.2.2 6).2.2.1 (Pu.spec_l01Below.v (Pu.spec_l01Below.v x1 x2 x3 14).2.1 (Pu.spec_l01Below.v x1 x2 x3 14).2.2.1 (Pu.spec_l01Below.v x1 x2 x3 14).2.2.2 6).2.2.2 6).2.2.1 (Pu.spec_l01Once.v (Pu.spec_l01Below.v (Pu.spec_l01Below.v x1 x2 x3 14).2.1 (Pu.spec_l01Below.v x1 x2 x3 14).2.2.1 (Pu.spec_l01Below.v x1 x2 x3 14).2.2.2 6).2.1 (Pu.spec_l01Below.v (Pu.spec_l01Below.v x1 x2 x3 14).2.1 (Pu.spec_l01Below.v x1 x2 x3 14).2.2.1 (Pu.spec_l01Below.v x1 x2 x3 14).2.2.2 6).2.2.1 (Pu.spec_l01Below.v (Pu.spec_l01Below.v x1 x2 x3 14).2.1 (Pu.spec_l01Below.v x1 x2 x3 14).2.2.1 (Pu.spec_l01Below.v x1 x2 x3 14).2.2.2 6).2.2.2 6).2.2.2 2).1).1) ((Pu.spec_StreamEnd.v x6 x7 x8 (Pu.spec_l01Once.v (Pu.spec_l01Once.v (Pu.spec_l01Below.v (Pu.spec_l01Below.v x1 x2 x3 14).2.1 (Pu.spec_l01Below.v x1 x2 x3 14).2.2.1 (Pu.spec_l01Below.v x1 x2 x3 14).2.2.2 6).2.1 (Pu.spec_l01Below.v (Pu.spec_l01Below.v x1 x2 x3 14).2.1 (Pu.spec_l01Below.v x1 x2 x3 14).2.2.1 (Pu.spec_l01Below.v x1 x2 x3 14).2.2.2 6).2.2.1 (Pu.spec_l01Below.v (Pu.spec_l01Below.v x1 x2 x3 14).2.1 (Pu.spec_l01Below.v x1 x2 x3 14).2.2.1 (Pu.spec_l01Below.v x1 x2 x3 14).2.2.2 6).2.2.2 6).2.1 (Pu.spec_l01Once.v (Pu.spec_l01Below.v (Pu.spec_l01Below.v x1 x2 x3 14).2.1 (Pu.spec_l01Below.v x1 x2 x3 14).2.2.1 (Pu.spec_l01Below.v x1 x2 x3 14).2.2.2 6).2.1 (Pu.spec_l01Below.v (Pu.spec_l01Below.v x1 x2 x3 14).2.1 (Pu.spec_l01Below.v x1 x2 x3 14).2.2.1 (Pu.spec_l01Below.v x1 x2 x3 14).2.2.2 6).2.2.1 (Pu.spec_l01Below.v (Pu.spec_l01Below.v x1 x2 x3 14).2.1 (Pu.spec_l01Below.v x1 x2 x3 14).2.2.1 (Pu.spec_l01Below.v x1 x2 x3 14).2.2.2 6).2.2.2 6).2.2.1 (Pu.spec_l01Once.v (Pu.spec_l01Below.v (Pu.spec_l01Below.v x1 x2 x3 14).2.1 (Pu.spec_l01Below.v x1 x2 x3 14).2.2.1 (Pu.spec_l01Below.v x1 x2 x3 14).2.2.2 6).2.1 (Pu.spec_l01Below.v (Pu.spec_l01Below.v x1 x2 x3 14).2.1 (Pu.spec_l01Below.v x1 x2 x3 14).2.2.1 (Pu.spec_l01Below.v x1 x2 x3 14).2.2.2 6).2.2.1 (Pu.spec_l01Below.v (Pu.spec_l01Below.v x1 x2 x3 14).2.1 (Pu.spec_l01Below.v x1 x2 x3 14).2.2.1 (Pu.spec_l01Below.v x1 x2 x3 14).2.2.2 6).2.2.2 6).2.2.2 2).1).2.1) ((Pu.spec_StreamEnd.v x6 x7 x8 (Pu.spec_l01Once.v (Pu.spec_l01Once.v (Pu.spec_l01Below.v (Pu.spec_l01Below.v x1 x2 x3 14).2.1 (Pu.spec_l01Below.v x1 x2 x3 14).2.2.1 (Pu.spec_l01Below.v x1 x2 x3 14).2.2.2 6).2.1 (Pu.spec_l01Below.v (Pu.spec_l01Below.v x1 x2 x3 14).2.1 (Pu.spec_l01Below.v x1 x2 x3 14).2.2.1 (Pu.spec_l01Below.v x1 x2 x3 14).2.2.2 6).2.2.1 (Pu.spec_l01Below.v (Pu.spec_l01Below.v x1 x2 x3 14).2.1 (Pu.spec_l01Below.v x1 x2 x3 14).2.2.1 (Pu.spec_l01Below.v x1 x2 x3 14).2.2.2 6).2.2.2 6).2.1 (Pu.spec_l01Once.v (Pu.spec_l01Below.v (Pu.spec_l01Below.v x1 x2 x3 14).2.1 (Pu.spec_l01Below.v x1 x2 x3 14).2.2.1 (Pu.spec_l01Below.v x1 x2 x3 14).2.2.2 6).2.1 (Pu.spec_l01Below.v (Pu.spec_l01Below.v x1 x2 x3 14).2.1 (Pu.spec_l01Below.v x1 x2 x3 14).2.2.1 (Pu.spec_l01Below.v x1 x2 x3 14).2.2.2 6).2.2.1 (Pu.spec_l01Below.v (Pu.spec_l01Below.v x1 x2 x3 14).2.1 (Pu.spec_l01Below.v x1 x2 x3 14).2.2.1 (Pu.spec_l01Below.v x1 x2 x3 14).2.2.2 6).2.2.2 6).2.2.1 (Pu.spec_l01Once.v (Pu.spec_l01Below.v (Pu.spec_l01Below.v x1 x2 x3 14).2.1 (Pu.spec_l01Below.v x1 x2 x3 14).2.2.1 (Pu.spec_l01Below.v x1 x2 x3 14).2.2.2 6).2.1 (Pu.spec_l01Below.v (Pu.spec_l01Below.v x1 x2 x3 14).2.1 (Pu.spec_l01Below.v x1 x2 x3 14).2.2.1 (Pu.spec_l01Below.v x1 x2 x3 14).2.2.2 6).2.2.1 (Pu.spec_l01Below.v (Pu.spec_l01Below.v x1 x2 x3 14).2.1 (Pu.spec_l01Below.v x1 x2 x3 14).2.2.1 (Pu.spec_l01Below.v x1 x2 x3 14).2.2.2 6).2.2.2 6).2.2.2 2).1).2.2.1)) else (none)) else (none)) else (g (w64 (x0 + 1)) ((Pu.spec_l01Once.v (Pu.spec_l01Below.v (Pu.spec_l01Below.v x1 x2 x3 14).2.1 (Pu.spec_l01Below.v x1 x2 x3 14).2.2.1 (Pu.spec_l01Below.v x1 x2 x3 14).2.2.2 6).2.1 (Pu.spec_l01Below.v (Pu.spec_l01Below.v x1 x2 x3 14).2.1 (Pu.spec_l01Below.v x1 x2 x3 14).2.2.1 (Pu.spec_l01Below.v x1 x2 x3 14).2.2.2 6).2.2.1 (Pu.spec_l01Below.v (Pu.spec_l01Below.v x1 x2 x3 14).2.1 (Pu.spec_l01Below.v x1 x2 x3 14).2.2.1 (Pu.spec_l01Below.v x1 x2 x3 14).2.2.2 6).2.2.2 6).2.1) ((Pu.spec_l01Once.v (Pu.spec_l01Below.v (Pu.spec_l01Below.v x1 x2 x3 14).2.1 (Pu.spec_l01Below.v x1 x2 x3 14).2.2.1 (Pu.spec_l01Below.v x1 x2 x3 14).2.2.2 6).2.1 (Pu.spec_l01Below.v (Pu.spec_l01Below.v x1 x2 x3 14).2.1 (Pu.spec_l01Below.v x1 x2 x3 14).2.2.1 (Pu.spec_l01Below.v x1 x2 x3 14).2.2.2 6).2.2.1 (Pu.spec_l01Below.v (Pu.spec_l01Below.v x1 x2 x3 14).2.1 (Pu.spec_l01Below.v x1 x2 x3 14).2.2.1 (Pu.spec_l01Below.v x1 x2 x3 14).2.2.2 6).2.2.2 6).2.2.1) ((Pu.spec_l01Once.v (Pu.spec_l01Below.v (Pu.spec_l01Below.v x1 x2 x3 14).2.1 (Pu.spec_l01Below.v x1 x2 x3 14).2.2.1 (Pu.spec_l01Below.v x1 x2 x3 14).2.2.2 6).2.1 (Pu.spec_l01Below.v (Pu.spec_l01Below.v x1 x2 x3 14).2.1 (Pu.spec_l01Below.v x1 x2 x3 14).2.2.1 (Pu.spec_l01Below.v x1 x2 x3 14).2.2.2 6).2.2.1 (Pu.spec_l01Below.v (Pu.spec_l01Below.v x1 x2 x3 14).2.1 (Pu.spec_l01Below.v x1 x2 x3 14).2.2.1 (Pu.spec_l01Below.v x1 x2 x3 14).2.2.2 6).2.2.2 6).2.2.2) x4 x5 x6 x7 x8)) else (none))))))) else (none)) else (k0 x0 ((Pu.spec_l01Below.v x1 x2 x3 14).2.1) ((Pu.spec_l01Below.v x1 x2 x3 14).2.2.1) ((Pu.spec_l01Below.v x1 x2 x3 14).2.2.2) x4 x5 x6 x7 x8)) else (none)
def l3 {R : Type} (N : Nat) (k0 : Int → Row → Int → Int → Int → ByteArray → Int → ByteArray → Row → Option R) : Nat → Int → Row → Int → Int → Int → ByteArray → Int → ByteArray → Row → Option R
  | 0 => (fun _ _ _ _ _ _ _ _ _ => none)
  | n + 1 => (fun x0 x1 x2 x3 x4 x5 x6 x7 x8 => r3 N (l3 N k0 n) k0 x0 x1 x2 x3 x4 x5 x6 x7 x8)
def b {R : Type} (N : Nat) (kr : Int → ByteArray → Row → Row → Int → Int → Option R) (c0_0 : Row) (c0_1 : Int) (c0_2 : Int) : Option R := l3 N (fun y9 y10 y11 y12 y13 y14 y15 y16 y17 => kr y15 y16 y17 y10 y11 y12) N 0 c0_0 c0_1 c0_2 0 ({ data := #[] }) 1 ({ data := #[] }) []
theorem q3_bind {R S : Type} (f : R → Option S) (N : Nat) (k0 : Int → Row → Int → Int → Int → ByteArray → Int → ByteArray → Row → Option R) : ∀ n : Nat, (∀ (x0 : Int) (x1 : Row) (x2 : Int) (x3 : Int) (x4 : Int) (x5 : ByteArray) (x6 : Int) (x7 : ByteArray) (x8 : Row), Option.bind (l3 N k0 n x0 x1 x2 x3 x4 x5 x6 x7 x8) f = l3 N (fun y0 y1 y2 y3 y4 y5 y6 y7 y8 => (Option.bind (k0 y0 y1 y2 y3 y4 y5 y6 y7 y8) f)) n x0 x1 x2 x3 x4 x5 x6 x7 x8) := by
  intro n
  induction n with
  | zero => exact (fun _ _ _ _ _ _ _ _ _ => rfl)
  | succ n ih =>
    intro x0 x1 x2 x3 x4 x5 x6 x7 x8
    simp only [l3, r3, Lib.cond_bind, Lib.some_bind, Lib.none_bind, ih]
theorem l3_bind {R S : Type} (f : R → Option S) (N : Nat) (k0 : Int → Row → Int → Int → Int → ByteArray → Int → ByteArray → Row → Option R) (n : Nat) (x0 : Int) (x1 : Row) (x2 : Int) (x3 : Int) (x4 : Int) (x5 : ByteArray) (x6 : Int) (x7 : ByteArray) (x8 : Row) : Option.bind (l3 N k0 n x0 x1 x2 x3 x4 x5 x6 x7 x8) f = l3 N (fun y0 y1 y2 y3 y4 y5 y6 y7 y8 => (Option.bind (k0 y0 y1 y2 y3 y4 y5 y6 y7 y8) f)) n x0 x1 x2 x3 x4 x5 x6 x7 x8 := (q3_bind f N k0 n) x0 x1 x2 x3 x4 x5 x6 x7 x8
theorem b_bind {R : Type} (N : Nat) (kr : Int → ByteArray → Row → Row → Int → Int → Option R) (c0_0 : Row) (c0_1 : Int) (c0_2 : Int) : b N kr c0_0 c0_1 c0_2 = Option.bind (b N (fun r0 r1 r2 r3 r4 r5 => some (r0, r1, r2, r3, r4, r5)) c0_0 c0_1 c0_2) (fun p => kr p.1 p.2.1 p.2.2.1 p.2.2.2.1 p.2.2.2.2.1 p.2.2.2.2.2) := by
  unfold b; simp only [Lib.cond_bind, Lib.some_bind, Lib.none_bind, l3_bind]
def vo (c0_0 : Row) (c0_1 : Int) (c0_2 : Int) : Option (Int × ByteArray × Row × Row × Int × Int) := b Lib.big (fun r0 r1 r2 r3 r4 r5 => some (r0, r1, r2, r3, r4, r5)) c0_0 c0_1 c0_2
def c (c0_0 : Row) (c0_1 : Int) (c0_2 : Int) : Bool := Option.isSome (vo c0_0 c0_1 c0_2)
def v (c0_0 : Row) (c0_1 : Int) (c0_2 : Int) : Int × ByteArray × Row × Row × Int × Int := Option.getD (vo c0_0 c0_1 c0_2) (0, ⟨#[]⟩, [], [], 0, 0)
theorem out (c0_0 : Row) (c0_1 : Int) (c0_2 : Int) {x : Int × ByteArray × Row × Row × Int × Int} (h : vo c0_0 c0_1 c0_2 = some x) : c c0_0 c0_1 c0_2 = true ∧ v c0_0 c0_1 c0_2 = x := by
  unfold c v; rw [h]; exact ⟨rfl, rfl⟩
theorem b_eq {R : Type} (kr : Int → ByteArray → Row → Row → Int → Int → Option R) (c0_0 : Row) (c0_1 : Int) (c0_2 : Int) (hc : c c0_0 c0_1 c0_2 = true) : ∃ N, b N kr c0_0 c0_1 c0_2 = kr ((v c0_0 c0_1 c0_2).1) ((v c0_0 c0_1 c0_2).2.1) ((v c0_0 c0_1 c0_2).2.2.1) ((v c0_0 c0_1 c0_2).2.2.2.1) ((v c0_0 c0_1 c0_2).2.2.2.2.1) ((v c0_0 c0_1 c0_2).2.2.2.2.2) := by
  refine ⟨Lib.big, ?_⟩
  rw [b_bind]
  have e : vo c0_0 c0_1 c0_2 = some (v c0_0 c0_1 c0_2) := by
    unfold c at hc; unfold v
    cases h : vo c0_0 c0_1 c0_2 with
    | none => rw [h] at hc; cases hc
    | some x => rfl
  unfold vo at e
  rw [e]; rfl
end Go.FG.Pu.spec_l14Stream

namespace Go.FG.Pu.spec_DrawStream
def b {R : Type} (kr : Int → ByteArray → Row → Option R) (code0 : Row) : Option R := bif (Pu.spec_l01New.c code0) then (bif (Pu.spec_l14Stream.c (Pu.spec_l01New.v code0).1 (Pu.spec_l01New.v code0).2.1 (Pu.spec_l01New.v code0).2.2) then (kr ((Pu.spec_l14Stream.v (Pu.spec_l01New.v code0).1 (Pu.spec_l01New.v code0).2.1 (Pu.spec_l01New.v code0).2.2).1) ((Pu.spec_l14Stream.v (Pu.spec_l01New.v code0).1 (Pu.spec_l01New.v code0).2.1 (Pu.spec_l01New.v code0).2.2).2.1) ((Pu.spec_l14Stream.v (Pu.spec_l01New.v code0).1 (Pu.spec_l01New.v code0).2.1 (Pu.spec_l01New.v code0).2.2).2.2.1)) else (none)) else (none)
theorem b_bind {R : Type} (kr : Int → ByteArray → Row → Option R) (code0 : Row) : b kr code0 = Option.bind (b (fun r0 r1 r2 => some (r0, r1, r2)) code0) (fun p => kr p.1 p.2.1 p.2.2) := by
  unfold b; simp only [Lib.cond_bind, Lib.some_bind, Lib.none_bind]
def vo (code0 : Row) : Option (Int × ByteArray × Row) := b (fun r0 r1 r2 => some (r0, r1, r2)) code0
def c (code0 : Row) : Bool := Option.isSome (vo code0)
def v (code0 : Row) : Int × ByteArray × Row := Option.getD (vo code0) (0, ⟨#[]⟩, [])
theorem out (code0 : Row) {x : Int × ByteArray × Row} (h : vo code0 = some x) : c code0 = true ∧ v code0 = x := by
  unfold c v; rw [h]; exact ⟨rfl, rfl⟩
theorem b_eq {R : Type} (kr : Int → ByteArray → Row → Option R) (code0 : Row) (hc : c code0 = true) : b kr code0 = kr ((v code0).1) ((v code0).2.1) ((v code0).2.2) := by
  rw [b_bind]
  have e : vo code0 = some (v code0) := by
    unfold c at hc; unfold v
    cases h : vo code0 with
    | none => rw [h] at hc; cases hc
    | some x => rfl
  unfold vo at e
  rw [e]; rfl
end Go.FG.Pu.spec_DrawStream

namespace Go.FG.Pu.spec_DrawPlaces
def r5 {R : Type} (N : Nat) (g : Int → Row → Int → Int → Row → Option R) (k0 : Int → Row → Int → Int → Row → Option R) (x0 : Int) (x1 : Row) (x2 : Int) (x3 : Int) (x4 : Row) : Option R := bif (decide (x0 < 12)) then (bif (Pu.spec_l01Below.c x1 x2 x3 10000) then (bif (roomy (List.length x4 + List.length (List.set (zeros [Ck.i IntKind.i64] 1) 0 [CV.i IntKind.i64 (Pu.spec_l01Below.v x1 x2 x3 10000).1])) 8) then (g (w64 (x0 + 1)) ((Pu.spec_l01Below.v x1 x2 x3 10000).2.1) ((Pu.spec_l01Below.v x1 x2 x3 10000).2.2.1) ((Pu.spec_l01Below.v x1 x2 x3 10000).2.2.2) (x4 ++ List.set (zeros [Ck.i IntKind.i64] 1) 0 [CV.i IntKind.i64 (Pu.spec_l01Below.v x1 x2 x3 10000).1])) else (none)) else (none)) else (k0 x0 x1 x2 x3 x4)
def l5 {R : Type} (N : Nat) (k0 : Int → Row → Int → Int → Row → Option R) : Nat → Int → Row → Int → Int → Row → Option R
  | 0 => (fun _ _ _ _ _ => none)
  | n + 1 => (fun x0 x1 x2 x3 x4 => r5 N (l5 N k0 n) k0 x0 x1 x2 x3 x4)
def b {R : Type} (N : Nat) (kr : Row → Option R) (code0 : Row) : Option R := bif (Pu.spec_l01New.c code0) then (bif (Pu.spec_l01Byte.c (Pu.spec_l01New.v code0).1 (Pu.spec_l01New.v code0).2.1 (Pu.spec_l01New.v code0).2.2) then (l5 N (fun y5 y6 y7 y8 y9 => kr y9) N 0 ((Pu.spec_l01Byte.v (Pu.spec_l01New.v code0).1 (Pu.spec_l01New.v code0).2.1 (Pu.spec_l01New.v code0).2.2).2.1) ((Pu.spec_l01Byte.v (Pu.spec_l01New.v code0).1 (Pu.spec_l01New.v code0).2.1 (Pu.spec_l01New.v code0).2.2).2.2.1) ((Pu.spec_l01Byte.v (Pu.spec_l01New.v code0).1 (Pu.spec_l01New.v code0).2.1 (Pu.spec_l01New.v code0).2.2).2.2.2) (zeros [Ck.i IntKind.i64] 0)) else (none)) else (none)
theorem q5_bind {R S : Type} (f : R → Option S) (N : Nat) (k0 : Int → Row → Int → Int → Row → Option R) : ∀ n : Nat, (∀ (x0 : Int) (x1 : Row) (x2 : Int) (x3 : Int) (x4 : Row), Option.bind (l5 N k0 n x0 x1 x2 x3 x4) f = l5 N (fun y0 y1 y2 y3 y4 => (Option.bind (k0 y0 y1 y2 y3 y4) f)) n x0 x1 x2 x3 x4) := by
  intro n
  induction n with
  | zero => exact (fun _ _ _ _ _ => rfl)
  | succ n ih =>
    intro x0 x1 x2 x3 x4
    simp only [l5, r5, Lib.cond_bind, Lib.some_bind, Lib.none_bind, ih]
theorem l5_bind {R S : Type} (f : R → Option S) (N : Nat) (k0 : Int → Row → Int → Int → Row → Option R) (n : Nat) (x0 : Int) (x1 : Row) (x2 : Int) (x3 : Int) (x4 : Row) : Option.bind (l5 N k0 n x0 x1 x2 x3 x4) f = l5 N (fun y0 y1 y2 y3 y4 => (Option.bind (k0 y0 y1 y2 y3 y4) f)) n x0 x1 x2 x3 x4 := (q5_bind f N k0 n) x0 x1 x2 x3 x4
theorem b_bind {R : Type} (N : Nat) (kr : Row → Option R) (code0 : Row) : b N kr code0 = Option.bind (b N (fun r0 => some (r0)) code0) (fun p => kr p) := by
  unfold b; simp only [Lib.cond_bind, Lib.some_bind, Lib.none_bind, l5_bind]
def vo (code0 : Row) : Option (Row) := b Lib.big (fun r0 => some (r0)) code0
def c (code0 : Row) : Bool := Option.isSome (vo code0)
def v (code0 : Row) : Row := Option.getD (vo code0) ([])
theorem out (code0 : Row) {x : Row} (h : vo code0 = some x) : c code0 = true ∧ v code0 = x := by
  unfold c v; rw [h]; exact ⟨rfl, rfl⟩
theorem b_eq {R : Type} (kr : Row → Option R) (code0 : Row) (hc : c code0 = true) : ∃ N, b N kr code0 = kr (v code0) := by
  refine ⟨Lib.big, ?_⟩
  rw [b_bind]
  have e : vo code0 = some (v code0) := by
    unfold c at hc; unfold v
    cases h : vo code0 with
    | none => rw [h] at hc; cases hc
    | some x => rfl
  unfold vo at e
  rw [e]; rfl
end Go.FG.Pu.spec_DrawPlaces

namespace Go.FG.Pu.impl_copyStream
def b {R : Type} (kr : Int → ByteArray → Row → Option R) (s0_0 : Int) (s0_1 : ByteArray) (s0_2 : Row) : Option R := bif (roomy (List.length (zeros [Ck.i IntKind.i64, Ck.i IntKind.i64] 0) + List.length s0_2) 16) then (kr s0_0 s0_1 (zeros [Ck.i IntKind.i64, Ck.i IntKind.i64] 0 ++ s0_2)) else (none)
def v (s0_0 : Int) (s0_1 : ByteArray) (s0_2 : Row) : Int × ByteArray × Row := (s0_0, s0_1, s0_2)
def c (s0_0 : Int) (s0_1 : ByteArray) (s0_2 : Row) : Bool := decide (s0_2.length ≤ 4294967296)
theorem b_eq {R : Type} (kr : Int → ByteArray → Row → Option R) (s0_0 : Int) (s0_1 : ByteArray) (s0_2 : Row) (hc : c s0_0 s0_1 s0_2 = true) : b kr s0_0 s0_1 s0_2 = kr (v s0_0 s0_1 s0_2).1 (v s0_0 s0_1 s0_2).2.1 (v s0_0 s0_1 s0_2).2.2 := by
  have h : s0_2.length ≤ 4294967296 := of_decide_eq_true hc
  unfold b
  rw [show List.length (zeros [Ck.i IntKind.i64, Ck.i IntKind.i64] 0) + s0_2.length = s0_2.length by simp [zeros], Lib.roomy_of (by omega) (by omega)]
  rfl
end Go.FG.Pu.impl_copyStream

namespace Go.FG.Pu.impl_within
def b {R : Type} (kr : Bool → Option R) (n0 : Int) (low1 : Int) (high2 : Int) : Option R := bif (decide (n0 ≥ low1)) then (kr (decide (n0 ≤ high2))) else (kr false)
def v (n0 : Int) (low1 : Int) (high2 : Int) : Bool := bif (decide (n0 ≥ low1)) then (((decide (n0 ≤ high2)))) else ((false))
theorem b_eq {R : Type} (kr : Bool → Option R) (n0 : Int) (low1 : Int) (high2 : Int) : b kr n0 low1 high2 = kr (v n0 low1 high2) := by
  first | rfl | (unfold b v; simp only [Bool.cond_eq_ite]; (repeat' split) <;> rfl)
end Go.FG.Pu.impl_within

namespace Go.FG.Pu.impl_StreamOk
def r2 {R : Type} (N : Nat) (g : Bool → Row → Int → Int → Int → ByteArray → Row → Option R) (k0 : Bool → Row → Int → Int → Int → ByteArray → Row → Option R) (k1 : Bool → Row → Int → Int → Int → ByteArray → Row → Option R) (x0 : Bool) (x1 : Row) (x2 : Int) (x3 : Int) (x4 : Int) (x5 : ByteArray) (x6 : Row) : Option R := bif (decide (x3 < x2)) then (bif (decide (0 ≤ x3) && decide (x3 < (↑(List.length x1) : Int))) then (bif (!Pu.impl_within.v (cvI (cellAt x1 (Int.toNat x3) 0)) 1 9) then (k0 false x1 x2 x3 x4 x5 x6) else (bif (!Pu.impl_within.v (cvI (cellAt x1 (Int.toNat x3) 1)) 0 (↑(ByteArray.size x5) : Int)) then (k0 false x1 x2 x3 x4 x5 x6) else (bif (decide (x3 > 0)) then (bif (decide (0 ≤ w64 (x3 - 1)) && decide (w64 (x3 - 1) < (↑(List.length x6) : Int))) then (bif (decide (cvI (cellAt x6 (Int.toNat (w64 (x3 - 1))) 0) ≥ cvI (cellAt x1 (Int.toNat x3) 0))) then (k0 false x1 x2 x3 x4 x5 x6) else (g x0 x1 x2 (w64 (x3 + 1)) x4 x5 x6)) else (none)) else (g x0 x1 x2 (w64 (x3 + 1)) x4 x5 x6)))) else (none)) else (k1 x0 x1 x2 x3 x4 x5 x6)
def l2 {R : Type} (N : Nat) (k0 : Bool → Row → Int → Int → Int → ByteArray → Row → Option R) (k1 : Bool → Row → Int → Int → Int → ByteArray → Row → Option R) : Nat → Bool → Row → Int → Int → Int → ByteArray → Row → Option R
  | 0 => (fun _ _ _ _ _ _ _ => none)
  | n + 1 => (fun x0 x1 x2 x3 x4 x5 x6 => r2 N (l2 N k0 k1 n) k0 k1 x0 x1 x2 x3 x4 x5 x6)
def b {R : Type} (N : Nat) (kr : Bool → Option R) (s0_0 : Int) (s0_1 : ByteArray) (s0_2 : Row) : Option R := l2 N (fun y7 y8 y9 y10 y11 y12 y13 => kr y7) (fun y14 y15 y16 y17 y18 y19 y20 => bif (Pu.impl_within.v y18 1 3) then (bif (decide ((↑(ByteArray.size y19) : Int) ≤ 400)) then (kr (decide ((↑(List.length y20) : Int) ≤ 6))) else (kr false)) else (kr false)) N false s0_2 (↑(List.length s0_2) : Int) 0 s0_0 s0_1 s0_2
def v (s0_0 : Int) (s0_1 : ByteArray) (s0_2 : Row) : Bool := (List.range s0_2.length).all (Pu.spec_StreamOk.el s0_1 s0_2) && Pu.spec_StreamOk.rest s0_0 s0_1 s0_2
theorem b_eq {R : Type} (kr : Bool → Option R) (s0_0 : Int) (s0_1 : ByteArray) (s0_2 : Row) (f0 : okS s0_1) (f1 : FitR s0_2) : ∃ N, b N kr s0_0 s0_1 s0_2 = kr (v s0_0 s0_1 s0_2) := by
  refine ⟨s0_2.length + 1, ?_⟩
  unfold b
  have ew : Pu.impl_within.v = Pu.spec_l01In.v := rfl
  simp only [ew, Pu.spec_StreamOk.rest_eq]
  have := Lib.loop_gen (fun n (i : Nat) => l2 (s0_2.length + 1) (fun y7 y8 y9 y10 y11 y12 y13 => kr y7) (fun y14 y15 y16 y17 y18 y19 y20 => kr (Pu.spec_StreamOk.rest y18 y19 y20)) n false s0_2 s0_2.length i s0_0 s0_1 s0_2) (fun i => s0_2.length - i) (fun i => i ≤ s0_2.length)
    (fun i => kr ((List.range' i (s0_2.length - i)).all (Pu.spec_StreamOk.el s0_1 s0_2) && Pu.spec_StreamOk.rest s0_0 s0_1 s0_2)) (fun n i hi => by
    simp only [l2, r2, ew, Lib.dlt, Lib.dle0, Lib.toN, Bool.true_and, Pu.spec_StreamOk.in_eq]
    by_cases h : i < s0_2.length
    · rw [Pu.spec_StreamOk.all_from _ h]
      simp only [h, decide_true, cond_true, Lib.w64_s h f1.1]
      cases h1 : decide (1 ≤ cvI (cellAt s0_2 i 0) ∧ cvI (cellAt s0_2 i 0) ≤ 9) with
      | false => left; simp [Pu.spec_StreamOk.el, h1]
      | true =>
        simp only [Bool.not_true, cond_false]
        cases h3 : decide (0 ≤ cvI (cellAt s0_2 i 1) ∧ cvI (cellAt s0_2 i 1) ≤ s0_1.size) with
        | false => left; simp [Pu.spec_StreamOk.el, h3]
        | true =>
          simp only [Bool.not_true, cond_false]
          by_cases hz : 0 < i
          · have e0 : decide ((i : Int) > 0) = true := by simp; omega
            have hp : i - 1 < s0_2.length := by omega
            have hi0 : (i == 0) = false := by simp; omega
            simp only [e0, cond_true, Pu.spec_StreamOk.w64_p hz (by have := f1.1; omega), Lib.dle0, Lib.dlt, Lib.toN, hp, decide_true, Bool.and_self]
            cases h2 : decide (cvI (cellAt s0_2 (i - 1) 0) ≥ cvI (cellAt s0_2 i 0)) with
            | true =>
              left
              have e3 : decide (cvI (cellAt s0_2 (i - 1) 0) < cvI (cellAt s0_2 i 0)) = false := by simp at h2 ⊢; omega
              simp [Pu.spec_StreamOk.el, e3, hi0]
            | false =>
              have e3 : decide (cvI (cellAt s0_2 (i - 1) 0) < cvI (cellAt s0_2 i 0)) = true := by simp at h2 ⊢; omega
              right; exact ⟨i + 1, h, by omega, by simp only [Pu.spec_StreamOk.el, h1, h3, e3, Bool.or_true, Bool.true_and], rfl⟩
          · have hz : i = 0 := by omega
            subst hz
            simp only [show decide (((0 : Nat) : Int) > 0) = false from rfl, cond_false]
            right; exact ⟨1, h, by omega, by simp only [Pu.spec_StreamOk.el, h1, h3, Bool.true_and]; rfl, rfl⟩
    · left
      have h0 : s0_2.length - i = 0 := by omega
      simp only [h, decide_false, cond_false, h0, List.range'_zero, List.all_nil, Bool.true_and]) (s0_2.length + 1) 0 (by omega) (by omega)
  refine this.trans ?_
  unfold v
  rw [Nat.sub_zero, ← List.range_eq_range']
end Go.FG.Pu.impl_StreamOk

namespace Go.FG.Pu.impl_StreamEnd
def b {R : Type} (kr : Int → ByteArray → Row → Bool → Option R) (s0_0 : Int) (s0_1 : ByteArray) (s0_2 : Row) (broken1 : Bool) : Option R := bif (Pu.impl_copyStream.c s0_0 s0_1 s0_2) then (bif (!Pu.impl_StreamOk.v s0_0 s0_1 s0_2) then (kr s0_0 s0_1 s0_2 false) else (bif (s0_0 != 1) then (kr s0_0 s0_1 s0_2 false) else (bif broken1 then (kr 3 s0_1 s0_2 true) else (kr 2 s0_1 s0_2 true)))) else (none)
def v (s0_0 : Int) (s0_1 : ByteArray) (s0_2 : Row) (broken1 : Bool) : Int × ByteArray × Row × Bool :=
  if Pu.spec_StreamOk.v s0_0 s0_1 s0_2 = true ∧ s0_0 = 1 then ((if broken1 = true then 3 else 2), s0_1, s0_2, true) else (s0_0, s0_1, s0_2, false)
def c (s0_0 : Int) (s0_1 : ByteArray) (s0_2 : Row) (broken1 : Bool) : Bool := decide (s0_2.length ≤ 4294967296)
theorem b_eq {R : Type} (kr : Int → ByteArray → Row → Bool → Option R) (s0_0 : Int) (s0_1 : ByteArray) (s0_2 : Row) (broken1 : Bool) (hc : c s0_0 s0_1 s0_2 broken1 = true) : b kr s0_0 s0_1 s0_2 broken1 = kr (v s0_0 s0_1 s0_2 broken1).1 (v s0_0 s0_1 s0_2 broken1).2.1 (v s0_0 s0_1 s0_2 broken1).2.2.1 (v s0_0 s0_1 s0_2 broken1).2.2.2 := by
  have e1 : Pu.impl_copyStream.c s0_0 s0_1 s0_2 = true := hc
  have e2 : ∀ a b c, Pu.impl_StreamOk.v a b c = Pu.spec_StreamOk.v a b c := fun _ _ _ => rfl
  unfold b v
  rw [e1, e2, cond_true]
  cases h1 : Pu.spec_StreamOk.v s0_0 s0_1 s0_2 with
  | false => simp
  | true =>
    by_cases h2 : s0_0 = 1
    · cases broken1 <;> simp [h2]
    · have hne : (s0_0 != 1) = true := bne_iff_ne.mpr h2
      rw [if_neg (by simp [h2]), hne]; rfl
end Go.FG.Pu.impl_StreamEnd

namespace Go.FG.Pu.impl_StreamPut
def b {R : Type} (kr : Int → ByteArray → Row → Bool → Option R) (s0_0 : Int) (s0_1 : ByteArray) (s0_2 : Row) (part1 : ByteArray) : Option R := bif (Pu.impl_copyStream.c s0_0 s0_1 s0_2) then (bif (!Pu.impl_StreamOk.v s0_0 s0_1 s0_2) then (kr s0_0 s0_1 s0_2 false) else (bif (s0_0 != 1) then (kr s0_0 s0_1 s0_2 false) else (bif (!Pu.impl_within.v (↑(ByteArray.size part1) : Int) 1 40) then (kr s0_0 s0_1 s0_2 false) else (bif (decide (w64 ((↑(ByteArray.size s0_1) : Int) + (↑(ByteArray.size part1) : Int)) > 400)) then (kr s0_0 s0_1 s0_2 false) else (bif (decide (ByteArray.size s0_1 + ByteArray.size part1 ≤ 4611686018427387904)) then (kr s0_0 (s0_1 ++ part1) s0_2 true) else (none)))))) else (none)
def v (s0_0 : Int) (s0_1 : ByteArray) (s0_2 : Row) (part1 : ByteArray) : Int × ByteArray × Row × Bool :=
  if Pu.spec_StreamOk.v s0_0 s0_1 s0_2 = true ∧ s0_0 = 1 ∧ 1 ≤ part1.size ∧ part1.size ≤ 40 ∧ s0_1.size + part1.size ≤ 400 then (s0_0, s0_1 ++ part1, s0_2, true) else (s0_0, s0_1, s0_2, false)
def c (s0_0 : Int) (s0_1 : ByteArray) (s0_2 : Row) (part1 : ByteArray) : Bool := decide (s0_2.length ≤ 4294967296)
theorem b_eq {R : Type} (kr : Int → ByteArray → Row → Bool → Option R) (s0_0 : Int) (s0_1 : ByteArray) (s0_2 : Row) (part1 : ByteArray) (hc : c s0_0 s0_1 s0_2 part1 = true) (f0 : okS s0_1) (f1 : FitR s0_2) (f2 : okS part1) : b kr s0_0 s0_1 s0_2 part1 = kr (v s0_0 s0_1 s0_2 part1).1 (v s0_0 s0_1 s0_2 part1).2.1 (v s0_0 s0_1 s0_2 part1).2.2.1 (v s0_0 s0_1 s0_2 part1).2.2.2 := by
  have hs1 : s0_1.size ≤ 4611686018427387904 := f0
  have hs2 : part1.size ≤ 4611686018427387904 := f2
  have e1 : Pu.impl_copyStream.c s0_0 s0_1 s0_2 = true := hc
  have e2 : ∀ a b c, Pu.impl_StreamOk.v a b c = Pu.spec_StreamOk.v a b c := fun _ _ _ => rfl
  have e3 : ∀ n a b, Pu.impl_within.v n a b = decide (a ≤ n ∧ n ≤ b) := Pu.spec_StreamOk.in_eq
  unfold b v
  rw [e1, e2, e3, cond_true]
  cases h1 : Pu.spec_StreamOk.v s0_0 s0_1 s0_2 with
  | false => simp
  | true =>
    by_cases h2 : s0_0 = 1
    · by_cases h3 : 1 ≤ (part1.size : Int) ∧ (part1.size : Int) ≤ 40
      · have e4 : w64 ((s0_1.size : Int) + (part1.size : Int)) = s0_1.size + part1.size := w64_eq (by omega) (by omega)
        rw [e4, decide_eq_true h3]
        by_cases h4 : (s0_1.size : Int) + (part1.size : Int) > 400
        · rw [Lib.dec_t h4, if_neg (by omega)]; simp [h2]
        · rw [Lib.dec_f h4, if_pos (by refine ⟨rfl, h2, ?_, ?_, ?_⟩ <;> omega), Lib.dec_t (show s0_1.size + part1.size ≤ 4611686018427387904 by omega)]; simp [h2]
      · rw [decide_eq_false h3, if_neg (by omega)]; simp
    · have hne : (s0_0 != 1) = true := bne_iff_ne.mpr h2
      rw [if_neg (by simp [h2]), hne]; rfl
end Go.FG.Pu.impl_StreamPut

namespace Go.FG.Pu.impl_StreamLeave
def b {R : Type} (kr : Int → ByteArray → Row → Option R) (s0_0 : Int) (s0_1 : ByteArray) (s0_2 : Row) (id1 : Int) : Option R := bif (Pu.impl_copyStream.c s0_0 s0_1 s0_2) then (bif (Pu.slices_DeleteFunc_Reader.c s0_2 id1) then (kr s0_0 s0_1 (Pu.slices_DeleteFunc_Reader.v s0_2 id1)) else (none)) else (none)
def v (s0_0 : Int) (s0_1 : ByteArray) (s0_2 : Row) (id1 : Int) : Int × ByteArray × Row := (s0_0, s0_1, Pu.slices_DeleteFunc_Reader.v s0_2 id1)
def c (s0_0 : Int) (s0_1 : ByteArray) (s0_2 : Row) (id1 : Int) : Bool := Pu.impl_copyStream.c s0_0 s0_1 s0_2 && Pu.slices_DeleteFunc_Reader.c s0_2 id1
theorem b_eq {R : Type} (kr : Int → ByteArray → Row → Option R) (s0_0 : Int) (s0_1 : ByteArray) (s0_2 : Row) (id1 : Int) (hc : c s0_0 s0_1 s0_2 id1 = true) : b kr s0_0 s0_1 s0_2 id1 = kr (v s0_0 s0_1 s0_2 id1).1 (v s0_0 s0_1 s0_2 id1).2.1 (v s0_0 s0_1 s0_2 id1).2.2 := by
  have hc2 := (Bool.and_eq_true _ _).mp hc
  unfold b v
  rw [hc2.1, hc2.2]; rfl
end Go.FG.Pu.impl_StreamLeave


namespace Go.FG.Pu.impl_readerAt
def b {R : Type} (kr : Int → Option R) (s0_0 : Int) (s0_1 : ByteArray) (s0_2 : Row) (id1 : Int) : Option R := kr (Pu.slices_IndexFunc_Readera.v s0_2 id1)
def v (s0_0 : Int) (s0_1 : ByteArray) (s0_2 : Row) (id1 : Int) : Int := ((Pu.slices_IndexFunc_Readera.v s0_2 id1))
theorem b_eq {R : Type} (kr : Int → Option R) (s0_0 : Int) (s0_1 : ByteArray) (s0_2 : Row) (id1 : Int) : b kr s0_0 s0_1 s0_2 id1 = kr (v s0_0 s0_1 s0_2 id1) := by
  first | rfl | (unfold b v; simp only [Bool.cond_eq_ite]; (repeat' split) <;> rfl)
end Go.FG.Pu.impl_readerAt

namespace Go.FG.Pu.impl_StreamJoin
def r2 {R : Type} (N : Nat) (g : Int → Int → Int → ByteArray → Row → Int → ByteArray → Option R) (k0 : Int → Int → Int → ByteArray → Row → Int → ByteArray → Option R) (x0 : Int) (x1 : Int) (x2 : Int) (x3 : ByteArray) (x4 : Row) (x5 : Int) (x6 : ByteArray) : Option R := bif (decide (x1 < (↑(List.length x4) : Int))) then (bif (decide (0 ≤ x1) && decide (x1 < (↑(List.length x4) : Int))) then (bif (decide (cvI (cellAt x4 (Int.toNat x1) 0) < x0)) then (g x0 (w64 (x1 + 1)) x2 x3 x4 x5 x6) else (k0 x0 x1 x2 x3 x4 x5 x6)) else (none)) else (k0 x0 x1 x2 x3 x4 x5 x6)
def l2 {R : Type} (N : Nat) (k0 : Int → Int → Int → ByteArray → Row → Int → ByteArray → Option R) : Nat → Int → Int → Int → ByteArray → Row → Int → ByteArray → Option R
  | 0 => (fun _ _ _ _ _ _ _ => none)
  | n + 1 => (fun x0 x1 x2 x3 x4 x5 x6 => r2 N (l2 N k0 n) k0 x0 x1 x2 x3 x4 x5 x6)
def b {R : Type} (N : Nat) (kr : Int → ByteArray → Row → Bool → Option R) (s0_0 : Int) (s0_1 : ByteArray) (s0_2 : Row) (id1 : Int) : Option R := l2 N (fun y7 y8 y9 y10 y11 y12 y13 => bif (Pu.impl_copyStream.c y9 y10 y11) then (bif (decide (0 ≤ y8) && decide (y8 ≤ (↑(List.length y11) : Int)) && roomy (List.length y11 + List.length (List.set (zeros [Ck.i IntKind.i64, Ck.i IntKind.i64] 1) 0 [CV.i IntKind.i64 y7, CV.i IntKind.i64 0])) 16) then (bif (!Pu.impl_StreamOk.v y9 y10 (Pu.insR y11 (Int.toNat y8) (List.set (zeros [Ck.i IntKind.i64, Ck.i IntKind.i64] 1) 0 [CV.i IntKind.i64 y7, CV.i IntKind.i64 0]))) then (bif (Pu.impl_copyStream.c y9 y10 y11) then (kr y9 y10 y11 false) else (none)) else (bif (decide (Pu.impl_readerAt.v y9 y10 y11 y7 ≥ 0)) then (bif (Pu.impl_copyStream.c y9 y10 y11) then (kr y9 y10 y11 false) else (none)) else (kr y9 y10 (Pu.insR y11 (Int.toNat y8) (List.set (zeros [Ck.i IntKind.i64, Ck.i IntKind.i64] 1) 0 [CV.i IntKind.i64 y7, CV.i IntKind.i64 0])) true))) else (none)) else (none)) N id1 0 s0_0 s0_1 s0_2 0 ({ data := #[] })
theorem q2_bind {R S : Type} (f : R → Option S) (N : Nat) (k0 : Int → Int → Int → ByteArray → Row → Int → ByteArray → Option R) : ∀ n : Nat, (∀ (x0 : Int) (x1 : Int) (x2 : Int) (x3 : ByteArray) (x4 : Row) (x5 : Int) (x6 : ByteArray), Option.bind (l2 N k0 n x0 x1 x2 x3 x4 x5 x6) f = l2 N (fun y0 y1 y2 y3 y4 y5 y6 => (Option.bind (k0 y0 y1 y2 y3 y4 y5 y6) f)) n x0 x1 x2 x3 x4 x5 x6) := by
  intro n
  induction n with
  | zero => exact (fun _ _ _ _ _ _ _ => rfl)
  | succ n ih =>
    intro x0 x1 x2 x3 x4 x5 x6
    simp only [l2, r2, Lib.cond_bind, Lib.some_bind, Lib.none_bind, ih]
theorem l2_bind {R S : Type} (f : R → Option S) (N : Nat) (k0 : Int → Int → Int → ByteArray → Row → Int → ByteArray → Option R) (n : Nat) (x0 : Int) (x1 : Int) (x2 : Int) (x3 : ByteArray) (x4 : Row) (x5 : Int) (x6 : ByteArray) : Option.bind (l2 N k0 n x0 x1 x2 x3 x4 x5 x6) f = l2 N (fun y0 y1 y2 y3 y4 y5 y6 => (Option.bind (k0 y0 y1 y2 y3 y4 y5 y6) f)) n x0 x1 x2 x3 x4 x5 x6 := (q2_bind f N k0 n) x0 x1 x2 x3 x4 x5 x6
theorem b_bind {R : Type} (N : Nat) (kr : Int → ByteArray → Row → Bool → Option R) (s0_0 : Int) (s0_1 : ByteArray) (s0_2 : Row) (id1 : Int) : b N kr s0_0 s0_1 s0_2 id1 = Option.bind (b N (fun r0 r1 r2 r3 => some (r0, r1, r2, r3)) s0_0 s0_1 s0_2 id1) (fun p => kr p.1 p.2.1 p.2.2.1 p.2.2.2) := by
  unfold b; simp only [Lib.cond_bind, Lib.some_bind, Lib.none_bind, l2_bind]
def vo (s0_0 : Int) (s0_1 : ByteArray) (s0_2 : Row) (id1 : Int) : Option (Int × ByteArray × Row × Bool) := b Lib.big (fun r0 r1 r2 r3 => some (r0, r1, r2, r3)) s0_0 s0_1 s0_2 id1
def c (s0_0 : Int) (s0_1 : ByteArray) (s0_2 : Row) (id1 : Int) : Bool := Option.isSome (vo s0_0 s0_1 s0_2 id1)
def v (s0_0 : Int) (s0_1 : ByteArray) (s0_2 : Row) (id1 : Int) : Int × ByteArray × Row × Bool := Option.getD (vo s0_0 s0_1 s0_2 id1) (0, ⟨#[]⟩, [], false)
theorem out (s0_0 : Int) (s0_1 : ByteArray) (s0_2 : Row) (id1 : Int) {x : Int × ByteArray × Row × Bool} (h : vo s0_0 s0_1 s0_2 id1 = some x) : c s0_0 s0_1 s0_2 id1 = true ∧ v s0_0 s0_1 s0_2 id1 = x := by
  unfold c v; rw [h]; exact ⟨rfl, rfl⟩
theorem b_eq {R : Type} (kr : Int → ByteArray → Row → Bool → Option R) (s0_0 : Int) (s0_1 : ByteArray) (s0_2 : Row) (id1 : Int) (hc : c s0_0 s0_1 s0_2 id1 = true) : ∃ N, b N kr s0_0 s0_1 s0_2 id1 = kr ((v s0_0 s0_1 s0_2 id1).1) ((v s0_0 s0_1 s0_2 id1).2.1) ((v s0_0 s0_1 s0_2 id1).2.2.1) ((v s0_0 s0_1 s0_2 id1).2.2.2) := by
  refine ⟨Lib.big, ?_⟩
  rw [b_bind]
  have e : vo s0_0 s0_1 s0_2 id1 = some (v s0_0 s0_1 s0_2 id1) := by
    unfold c at hc; unfold v
    cases h : vo s0_0 s0_1 s0_2 id1 with
    | none => rw [h] at hc; cases hc
    | some x => rfl
  unfold vo at e
  rw [e]; rfl
end Go.FG.Pu.impl_StreamJoin

namespace Go.FG.Pu.impl_StreamRead
def b {R : Type} (kr : Int → ByteArray → Row → ByteArray → Bool → Option R) (s0_0 : Int) (s0_1 : ByteArray) (s0_2 : Row) (id1 : Int) (most2 : Int) : Option R := bif (Pu.impl_copyStream.c s0_0 s0_1 s0_2) then (bif (!Pu.impl_StreamOk.v s0_0 s0_1 s0_2) then (kr s0_0 s0_1 s0_2 ({ data := #[] }) false) else (bif (decide (Pu.impl_readerAt.v s0_0 s0_1 s0_2 id1 < 0)) then (kr s0_0 s0_1 s0_2 ({ data := #[] }) false) else (bif (decide (0 ≤ Pu.impl_readerAt.v s0_0 s0_1 s0_2 id1) && decide (Pu.impl_readerAt.v s0_0 s0_1 s0_2 id1 < (↑(List.length s0_2) : Int))) then (bif (decide (0 ≤ Pu.impl_readerAt.v s0_0 s0_1 s0_2 id1) && decide (Pu.impl_readerAt.v s0_0 s0_1 s0_2 id1 < (↑(List.length s0_2) : Int))) then (bif (decide (0 ≤ Pu.impl_readerAt.v s0_0 s0_1 s0_2 id1) && decide (Pu.impl_readerAt.v s0_0 s0_1 s0_2 id1 < (↑(List.length s0_2) : Int))) then (bif (inB (cvI (cellAt s0_2 (Int.toNat (Pu.impl_readerAt.v s0_0 s0_1 s0_2 id1)) 1)) (w64 (cvI (cellAt s0_2 (Int.toNat (Pu.impl_readerAt.v s0_0 s0_1 s0_2 id1)) 1) + minmax false (minmax true most2 0) (w64 ((↑(ByteArray.size s0_1) : Int) - cvI (cellAt s0_2 (Int.toNat (Pu.impl_readerAt.v s0_0 s0_1 s0_2 id1)) 1))))) (↑(ByteArray.size s0_1) : Int)) then (kr s0_0 s0_1 (setC s0_2 (Int.toNat (Pu.impl_readerAt.v s0_0 s0_1 s0_2 id1)) 1 [CV.i IntKind.i64 (w64 (cvI (cellAt s0_2 (Int.toNat (Pu.impl_readerAt.v s0_0 s0_1 s0_2 id1)) 1) + minmax false (minmax true most2 0) (w64 ((↑(ByteArray.size s0_1) : Int) - cvI (cellAt s0_2 (Int.toNat (Pu.impl_readerAt.v s0_0 s0_1 s0_2 id1)) 1)))))]) (ByteArray.extract s0_1 (Int.toNat (cvI (cellAt s0_2 (Int.toNat (Pu.impl_readerAt.v s0_0 s0_1 s0_2 id1)) 1))) (Int.toNat (w64 (cvI (cellAt s0_2 (Int.toNat (Pu.impl_readerAt.v s0_0 s0_1 s0_2 id1)) 1) + minmax false (minmax true most2 0) (w64 ((↑(ByteArray.size s0_1) : Int) - cvI (cellAt s0_2 (Int.toNat (Pu.impl_readerAt.v s0_0 s0_1 s0_2 id1)) 1))))))) true) else (none)) else (none)) else (none)) else (none)))) else (none)
def v (s0_0 : Int) (s0_1 : ByteArray) (s0_2 : Row) (id1 : Int) (most2 : Int) : Int × ByteArray × Row × ByteArray × Bool := Pu.spec_StreamRead.v s0_0 s0_1 s0_2 id1 most2
def c (s0_0 : Int) (s0_1 : ByteArray) (s0_2 : Row) (id1 : Int) (most2 : Int) : Bool := decide (s0_2.length ≤ 4294967296)
theorem b_eq {R : Type} (kr : Int → ByteArray → Row → ByteArray → Bool → Option R) (s0_0 : Int) (s0_1 : ByteArray) (s0_2 : Row) (id1 : Int) (most2 : Int) (hc : c s0_0 s0_1 s0_2 id1 most2 = true) : b kr s0_0 s0_1 s0_2 id1 most2 = kr (v s0_0 s0_1 s0_2 id1 most2).1 (v s0_0 s0_1 s0_2 id1 most2).2.1 (v s0_0 s0_1 s0_2 id1 most2).2.2.1 (v s0_0 s0_1 s0_2 id1 most2).2.2.2.1 (v s0_0 s0_1 s0_2 id1 most2).2.2.2.2 := by
  have e1 : Pu.impl_copyStream.c s0_0 s0_1 s0_2 = true := hc
  have e2 : ∀ a b c, Pu.impl_StreamOk.v a b c = Pu.spec_StreamOk.v a b c := fun _ _ _ => rfl
  have e3 : ∀ a b c d, Pu.impl_readerAt.v a b c d = Pu.spec_l14At.v a b c d := fun _ _ _ _ => rfl
  have hk := Lib.fi_rng (fun i => decide (cvI (cellAt s0_2 i 0) = id1)) s0_2.length 0
  unfold b v Pu.spec_StreamRead.v
  simp only [e1, e2, e3, cond_true]
  cases h1 : Pu.spec_StreamOk.v s0_0 s0_1 s0_2 with
  | false => simp
  | true =>
    obtain ⟨q1, q2, q3⟩ := Pu.spec_StreamOk.facts h1
    rcases hk with ⟨hk, _⟩ | ⟨k, _, hk2, hk, _⟩
    · have hv : Pu.spec_l14At.v s0_0 s0_1 s0_2 id1 = -1 := hk
      rw [hv]; simp
    · have hv : Pu.spec_l14At.v s0_0 s0_1 s0_2 id1 = (k : Int) := hk
      have hkl : k < s0_2.length := by omega
      obtain ⟨a1, a2⟩ := q1 k hkl
      rw [hv, if_pos ⟨rfl, by omega⟩]
      have ew : w64 ((s0_1.size : Int) - cvI (cellAt s0_2 k 1)) = s0_1.size - cvI (cellAt s0_2 k 1) := w64_eq (by omega) (by omega)
      have hmm : 0 ≤ minmax false (minmax true most2 0) (s0_1.size - cvI (cellAt s0_2 k 1)) ∧ minmax false (minmax true most2 0) (s0_1.size - cvI (cellAt s0_2 k 1)) ≤ s0_1.size - cvI (cellAt s0_2 k 1) := by
        simp only [minmax, cond_true, cond_false]; split <;> split <;> omega
      simp only [Lib.toN, Lib.dle0, Lib.dlt_t hkl, Bool.and_self, cond_true, Bool.not_true, cond_false, show decide ((k : Int) < 0) = false from decide_eq_false (by omega), ew]
      rw [w64_eq (x := cvI (cellAt s0_2 k 1) + minmax false (minmax true most2 0) (s0_1.size - cvI (cellAt s0_2 k 1))) (by omega) (by omega), Lib.bif_t (by simp [inB]; omega)]
      rfl
end Go.FG.Pu.impl_StreamRead

namespace Go.FG.Pu.laws_FnEnded
def b {R : Type} (kr : Bool → Option R) (code0 : Row) : Option R := bif (Pu.laws_big.v code0) then (kr true) else (bif (Pu.spec_DrawStream.c code0) then (bif (Pu.spec_DrawPlaces.c code0) then (bif (decide (0 < (↑(List.length (Pu.spec_DrawPlaces.v code0)) : Int))) then (bif (Pu.impl_StreamEnd.c (Pu.spec_DrawStream.v code0).1 (Pu.spec_DrawStream.v code0).2.1 (Pu.spec_DrawStream.v code0).2.2 (decide (Int.tmod (cvI (cellAt (Pu.spec_DrawPlaces.v code0) (Int.toNat 0) 0)) 2 = 0))) then (bif (Pu.impl_StreamPut.c (Pu.impl_StreamEnd.v (Pu.spec_DrawStream.v code0).1 (Pu.spec_DrawStream.v code0).2.1 (Pu.spec_DrawStream.v code0).2.2 (decide (Int.tmod (cvI (cellAt (Pu.spec_DrawPlaces.v code0) (Int.toNat 0) 0)) 2 = 0))).1 (Pu.impl_StreamEnd.v (Pu.spec_DrawStream.v code0).1 (Pu.spec_DrawStream.v code0).2.1 (Pu.spec_DrawStream.v code0).2.2 (decide (Int.tmod (cvI (cellAt (Pu.spec_DrawPlaces.v code0) (Int.toNat 0) 0)) 2 = 0))).2.1 (Pu.impl_StreamEnd.v (Pu.spec_DrawStream.v code0).1 (Pu.spec_DrawStream.v code0).2.1 (Pu.spec_DrawStream.v code0).2.2 (decide (Int.tmod (cvI (cellAt (Pu.spec_DrawPlaces.v code0) (Int.toNat 0) 0)) 2 = 0))).2.2.1 { data := #[UInt8.ofNat 120] }) then (bif (Pu.impl_StreamEnd.c (Pu.impl_StreamEnd.v (Pu.spec_DrawStream.v code0).1 (Pu.spec_DrawStream.v code0).2.1 (Pu.spec_DrawStream.v code0).2.2 (decide (Int.tmod (cvI (cellAt (Pu.spec_DrawPlaces.v code0) (Int.toNat 0) 0)) 2 = 0))).1 (Pu.impl_StreamEnd.v (Pu.spec_DrawStream.v code0).1 (Pu.spec_DrawStream.v code0).2.1 (Pu.spec_DrawStream.v code0).2.2 (decide (Int.tmod (cvI (cellAt (Pu.spec_DrawPlaces.v code0) (Int.toNat 0) 0)) 2 = 0))).2.1 (Pu.impl_StreamEnd.v (Pu.spec_DrawStream.v code0).1 (Pu.spec_DrawStream.v code0).2.1 (Pu.spec_DrawStream.v code0).2.2 (decide (Int.tmod (cvI (cellAt (Pu.spec_DrawPlaces.v code0) (Int.toNat 0) 0)) 2 = 0))).2.2.1 false) then (bif (!decide ((Pu.impl_StreamEnd.v (Pu.spec_DrawStream.v code0).1 (Pu.spec_DrawStream.v code0).2.1 (Pu.spec_DrawStream.v code0).2.2 (decide (Int.tmod (cvI (cellAt (Pu.spec_DrawPlaces.v code0) (Int.toNat 0) 0)) 2 = 0))).2.2.2 = decide ((Pu.spec_DrawStream.v code0).1 = 1))) then (kr false) else (bif ((Pu.impl_StreamPut.v (Pu.impl_StreamEnd.v (Pu.spec_DrawStream.v code0).1 (Pu.spec_DrawStream.v code0).2.1 (Pu.spec_DrawStream.v code0).2.2 (decide (Int.tmod (cvI (cellAt (Pu.spec_DrawPlaces.v code0) (Int.toNat 0) 0)) 2 = 0))).1 (Pu.impl_StreamEnd.v (Pu.spec_DrawStream.v code0).1 (Pu.spec_DrawStream.v code0).2.1 (Pu.spec_DrawStream.v code0).2.2 (decide (Int.tmod (cvI (cellAt (Pu.spec_DrawPlaces.v code0) (Int.toNat 0) 0)) 2 = 0))).2.1 (Pu.impl_StreamEnd.v (Pu.spec_DrawStream.v code0).1 (Pu.spec_DrawStream.v code0).2.1 (Pu.spec_DrawStream.v code0).2.2 (decide (Int.tmod (cvI (cellAt (Pu.spec_DrawPlaces.v code0) (Int.toNat 0) 0)) 2 = 0))).2.2.1 { data := #[UInt8.ofNat 120] }).2.2.2) then (kr false) else (bif ((Pu.impl_StreamEnd.v (Pu.impl_StreamEnd.v (Pu.spec_DrawStream.v code0).1 (Pu.spec_DrawStream.v code0).2.1 (Pu.spec_DrawStream.v code0).2.2 (decide (Int.tmod (cvI (cellAt (Pu.spec_DrawPlaces.v code0) (Int.toNat 0) 0)) 2 = 0))).1 (Pu.impl_StreamEnd.v (Pu.spec_DrawStream.v code0).1 (Pu.spec_DrawStream.v code0).2.1 (Pu.spec_DrawStream.v code0).2.2 (decide (Int.tmod (cvI (cellAt (Pu.spec_DrawPlaces.v code0) (Int.toNat 0) 0)) 2 = 0))).2.1 (Pu.impl_StreamEnd.v (Pu.spec_DrawStream.v code0).1 (Pu.spec_DrawStream.v code0).2.1 (Pu.spec_DrawStream.v code0).2.2 (decide (Int.tmod (cvI (cellAt (Pu.spec_DrawPlaces.v code0) (Int.toNat 0) 0)) 2 = 0))).2.2.1 false).2.2.2) then (kr false) else (bif (!List.beq (ByteArray.toList (Pu.impl_StreamEnd.v (Pu.spec_DrawStream.v code0).1 (Pu.spec_DrawStream.v code0).2.1 (Pu.spec_DrawStream.v code0).2.2 (decide (Int.tmod (cvI (cellAt (Pu.spec_DrawPlaces.v code0) (Int.toNat 0) 0)) 2 = 0))).2.1) (ByteArray.toList (Pu.spec_DrawStream.v code0).2.1)) then (kr false) else (bif (Pu.impl_StreamLeave.c (Pu.impl_StreamEnd.v (Pu.spec_DrawStream.v code0).1 (Pu.spec_DrawStream.v code0).2.1 (Pu.spec_DrawStream.v code0).2.2 (decide (Int.tmod (cvI (cellAt (Pu.spec_DrawPlaces.v code0) (Int.toNat 0) 0)) 2 = 0))).1 (Pu.impl_StreamEnd.v (Pu.spec_DrawStream.v code0).1 (Pu.spec_DrawStream.v code0).2.1 (Pu.spec_DrawStream.v code0).2.2 (decide (Int.tmod (cvI (cellAt (Pu.spec_DrawPlaces.v code0) (Int.toNat 0) 0)) 2 = 0))).2.1 (Pu.impl_StreamEnd.v (Pu.spec_DrawStream.v code0).1 (Pu.spec_DrawStream.v code0).2.1 (Pu.spec_DrawStream.v code0).2.2 (decide (Int.tmod (cvI (cellAt (Pu.spec_DrawPlaces.v code0) (Int.toNat 0) 0)) 2 = 0))).2.2.1 8) then (bif (Pu.impl_StreamJoin.c (Pu.impl_StreamEnd.v (Pu.spec_DrawStream.v code0).1 (Pu.spec_DrawStream.v code0).2.1 (Pu.spec_DrawStream.v code0).2.2 (decide (Int.tmod (cvI (cellAt (Pu.spec_DrawPlaces.v code0) (Int.toNat 0) 0)) 2 = 0))).1 (Pu.impl_StreamEnd.v (Pu.spec_DrawStream.v code0).1 (Pu.spec_DrawStream.v code0).2.1 (Pu.spec_DrawStream.v code0).2.2 (decide (Int.tmod (cvI (cellAt (Pu.spec_DrawPlaces.v code0) (Int.toNat 0) 0)) 2 = 0))).2.1 (Pu.slices_DeleteFunc_Reader.v (Pu.impl_StreamEnd.v (Pu.spec_DrawStream.v code0).1 (Pu.spec_DrawStream.v code0).2.1 (Pu.spec_DrawStream.v code0).2.2 (decide (Int.tmod (cvI (cellAt (Pu.spec_DrawPlaces.v code0) (Int.toNat 0) 0)) 2 = 0))).2.2.1 8) 8) then (bif (Pu.impl_StreamRead.c (Pu.impl_StreamJoin.v (Pu.impl_StreamEnd.v (Pu.spec_DrawStream.v code0).1 (Pu.spec_DrawStream.v code0).2.1 (Pu.spec_DrawStream.v code0).2.2 (decide (Int.tmod (cvI (cellAt (Pu.spec_DrawPlaces.v code0) (Int.toNat 0) 0)) 2 = 0))).1 (Pu.impl_StreamEnd.v (Pu.spec_DrawStream.v code0).1 (Pu.spec_DrawStream.v code0).2.1 (Pu.spec_DrawStream.v code0).2.2 (decide (Int.tmod (cvI (cellAt (Pu.spec_DrawPlaces.v code0) (Int.toNat 0) 0)) 2 = 0))).2.1 (Pu.slices_DeleteFunc_Reader.v (Pu.impl_StreamEnd.v (Pu.spec_DrawStream.v code0).1 (Pu.spec_DrawStream.v code0).2.1 (Pu.spec_DrawStream.v code0).2.2 (decide (Int.tmod (cvI (cellAt (Pu.spec_DrawPlaces.v code0) (Int.toNat 0) 0)) 2 = 0))).2.2.1 8) 8).1 (Pu.impl_StreamJoin.v (Pu.impl_StreamEnd.v (Pu.spec_DrawStream.v code0).1 (Pu.spec_DrawStream.v code0).2.1 (Pu.spec_DrawStream.v code0).2.2 (decide (Int.tmod (cvI (cellAt (Pu.spec_DrawPlaces.v code0) (Int.toNat 0) 0)) 2 = 0))).1 (Pu.impl_StreamEnd.v (Pu.spec_DrawStream.v code0).1 (Pu.spec_DrawStream.v code0).2.1 (Pu.spec_DrawStream.v code0).2.2 (decide (Int.tmod (cvI (cellAt (Pu.spec_DrawPlaces.v code0) (Int.toNat 0) 0)) 2 = 0))).2.1 (Pu.slices_DeleteFunc_Reader.v (Pu.impl_StreamEnd.v (Pu.spec_DrawStream.v code0).1 (Pu.spec_DrawStream.v code0).2.1 (Pu.spec_DrawStream.v code0).2.2 (decide (Int.tmod (cvI (cellAt (Pu.spec_DrawPlaces.v code0) (Int.toNat 0) 0)) 2 = 0))).2.2.1 8) 8).2.1 (Pu.impl_StreamJoin.v (Pu.impl_StreamEnd.v (Pu.spec_DrawStream.v code0).1 (Pu.spec_DrawStream.v code0).2.1 (Pu.spec_DrawStream.v code0).2.2 (decide (Int.tmod (cvI (cellAt (Pu.spec_DrawPlaces.v code0) (Int.toNat 0) 0)) 2 = 0))).1 (Pu.impl_StreamEnd.v (Pu.spec_DrawStream.v code0).1 (Pu.spec_DrawStream.v code0).2.1 (Pu.spec_DrawStream.v code0).2.2 (decide (Int.tmod (cvI (cellAt (Pu.spec_DrawPlaces.v code0) (Int.toNat 0) 0)) 2 = 0))).2.1 (Pu.slices_DeleteFunc_Reader.v (Pu.impl_StreamEnd.v (Pu.spec_DrawStream.v code0).1 (Pu.spec_DrawStream.v code0).2.1 (Pu.spec_DrawStream.v code0).2.2 (decide (Int.tmod (cvI (cellAt (Pu.spec_DrawPlaces.v code0) (Int.toNat 0) 0)) 2 = 0))).2.2.1 8) 8).2.2.1 8 1000) then (bif (!(Pu.impl_StreamJoin.v (Pu.impl_StreamEnd.v (Pu.spec_DrawStream.v code0).1 (Pu.spec_DrawStream.v code0).2.1 (Pu.spec_DrawStream.v code0).2.2 (decide (Int.tmod (cvI (cellAt (Pu.spec_DrawPlaces.v code0) (Int.toNat 0) 0)) 2 = 0))).1 (Pu.impl_StreamEnd.v (Pu.spec_DrawStream.v code0).1 (Pu.spec_DrawStream.v code0).2.1 (Pu.spec_DrawStream.v code0).2.2 (decide (Int.tmod (cvI (cellAt (Pu.spec_DrawPlaces.v code0) (Int.toNat 0) 0)) 2 = 0))).2.1 (Pu.slices_DeleteFunc_Reader.v (Pu.impl_StreamEnd.v (Pu.spec_DrawStream.v code0).1 (Pu.spec_DrawStream.v code0).2.1 (Pu.spec_DrawStream.v code0).2.2 (decide (Int.tmod (cvI (cellAt (Pu.spec_DrawPlaces.v code0) (Int.toNat 0) 0)) 2 = 0))).2.2.1 8) 8).2.2.2) then (kr true) else (bif ((Pu.impl_StreamRead.v (Pu.impl_StreamJoin.v (Pu.impl_StreamEnd.v (Pu.spec_DrawStream.v code0).1 (Pu.spec_DrawStream.v code0).2.1 (Pu.spec_DrawStream.v code0).2.2 (decide (Int.tmod (cvI (cellAt (Pu.spec_DrawPlaces.v code0) (Int.toNat 0) 0)) 2 = 0))).1 (Pu.impl_StreamEnd.v (Pu.spec_DrawStream.v code0).1 (Pu.spec_DrawStream.v code0).2.1 (Pu.spec_DrawStream.v code0).2.2 (decide (Int.tmod (cvI (cellAt (Pu.spec_DrawPlaces.v code0) (Int.toNat 0) 0)) 2 = 0))).2.1 (Pu.slices_DeleteFunc_Reader.v (Pu.impl_StreamEnd.v (Pu.spec_DrawStream.v code0).1 (Pu.spec_DrawStream.v code0).2.1 (Pu.spec_DrawStream.v code0).2.2 (decide (Int.tmod (cvI (cellAt (Pu.spec_DrawPlaces.v code0) (Int.toNat 0) 0)) 2 = 0))).2.2.1 8) 8).1 (Pu.impl_StreamJoin.v (Pu.impl_StreamEnd.v (Pu.spec_DrawStream.v code0).1 (Pu.spec_DrawStream.v code0).2.1 (Pu.spec_DrawStream.v code0).2.2 (decide (Int.tmod (cvI (cellAt (Pu.spec_DrawPlaces.v code0) (Int.toNat 0) 0)) 2 = 0))).1 (Pu.impl_StreamEnd.v (Pu.spec_DrawStream.v code0).1 (Pu.spec_DrawStream.v code0).2.1 (Pu.spec_DrawStream.v code0).2.2 (decide (Int.tmod (cvI (cellAt (Pu.spec_DrawPlaces.v code0) (Int.toNat 0) 0)) 2 = 0))).2.1 (Pu.slices_DeleteFunc_Reader.v (Pu.impl_StreamEnd.v (Pu.spec_DrawStream.v code0).1 (Pu.spec_DrawStream.v code0).2.1 (Pu.spec_DrawStream.v code0).2.2 (decide (Int.tmod (cvI (cellAt (Pu.spec_DrawPlaces.v code0) (Int.toNat 0) 0)) 2 = 0))).2.2.1 8) 8).2.1 (Pu.impl_StreamJoin.v (Pu.impl_StreamEnd.v (Pu.spec_DrawStream.v code0).1 (Pu.spec_DrawStream.v code0).2.1 (Pu.spec_DrawStream.v code0).2.2 (decide (Int.tmod (cvI (cellAt (Pu.spec_DrawPlaces.v code0) (Int.toNat 0) 0)) 2 = 0))).1 (Pu.impl_StreamEnd.v (Pu.spec_DrawStream.v code0).1 (Pu.spec_DrawStream.v code0).2.1 (Pu.spec_DrawStream.v code0).2.2 (decide (Int.tmod (cvI (cellAt (Pu.spec_DrawPlaces.v code0) (Int.toNat 0) 0)) 2 = 0))).2.1 (Pu.slices_DeleteFunc_Reader.v (Pu.impl_StreamEnd.v (Pu.spec_DrawStream.v code0).1 (Pu.spec_DrawStream.v code0).2.1 (Pu.spec_DrawStream.v code0).2.2 (decide (Int.tmod (cvI (cellAt (Pu.spec_DrawPlaces.v code0) (Int.toNat 0) 0)) 2 = 0))).2.2.1 8) 8).2.2.1 8 1000).2.2.2.2) then (kr (List.beq (ByteArray.toList (Pu.impl_StreamRead.v (Pu.impl_StreamJoin.v (Pu.impl_StreamEnd.v (Pu.spec_DrawStream.v code0).1 (Pu.spec_DrawStream.v code0).2.1 (Pu.spec_DrawStream.v code0).2.2 (decide (Int.tmod (cvI (cellAt (Pu.spec_DrawPlaces.v code0) (Int.toNat 0) 0)) 2 = 0))).1 (Pu.impl_StreamEnd.v (Pu.spec_DrawStream.v code0).1 (Pu.spec_DrawStream.v code0).2.1 (Pu.spec_DrawStream.v code0).2.2 (decide (Int.tmod (cvI (cellAt (Pu.spec_DrawPlaces.v code0) (Int.toNat 0) 0)) 2 = 0))).2.1 (Pu.slices_DeleteFunc_Reader.v (Pu.impl_StreamEnd.v (Pu.spec_DrawStream.v code0).1 (Pu.spec_DrawStream.v code0).2.1 (Pu.spec_DrawStream.v code0).2.2 (decide (Int.tmod (cvI (cellAt (Pu.spec_DrawPlaces.v code0) (Int.toNat 0) 0)) 2 = 0))).2.2.1 8) 8).1 (Pu.impl_StreamJoin.v (Pu.impl_StreamEnd.v (Pu.spec_DrawStream.v code0).1 (Pu.spec_DrawStream.v code0).2.1 (Pu.spec_DrawStream.v code0).2.2 (decide (Int.tmod (cvI (cellAt (Pu.spec_DrawPlaces.v code0) (Int.toNat 0) 0)) 2 = 0))).1 (Pu.impl_StreamEnd.v (Pu.spec_DrawStream.v code0).1 (Pu.spec_DrawStream.v code0).2.1 (Pu.spec_DrawStream.v code0).2.2 (decide (Int.tmod (cvI (cellAt (Pu.spec_DrawPlaces.v code0) (Int.toNat 0) 0)) 2 = 0))).2.1 (Pu.slices_DeleteFunc_Reader.v (Pu.impl_StreamEnd.v (Pu.spec_DrawStream.v code0).1 (Pu.spec_DrawStream.v code0).2.1 (Pu.spec_DrawStream.v code0).2.2 (decide (Int.tmod (cvI (cellAt (Pu.spec_DrawPlaces.v code0) (Int.toNat 0) 0)) 2 = 0))).2.2.1 8) 8).2.1 (Pu.impl_StreamJoin.v (Pu.impl_StreamEnd.v (Pu.spec_DrawStream.v code0).1 (Pu.spec_DrawStream.v code0).2.1 (Pu.spec_DrawStream.v code0).2.2 (decide (Int.tmod (cvI (cellAt (Pu.spec_DrawPlaces.v code0) (Int.toNat 0) 0)) 2 = 0))).1 (Pu.impl_StreamEnd.v (Pu.spec_DrawStream.v code0).1 (Pu.spec_DrawStream.v code0).2.1 (Pu.spec_DrawStream.v code0).2.2 (decide (Int.tmod (cvI (cellAt (Pu.spec_DrawPlaces.v code0) (Int.toNat 0) 0)) 2 = 0))).2.1 (Pu.slices_DeleteFunc_Reader.v (Pu.impl_StreamEnd.v (Pu.spec_DrawStream.v code0).1 (Pu.spec_DrawStream.v code0).2.1 (Pu.spec_DrawStream.v code0).2.2 (decide (Int.tmod (cvI (cellAt (Pu.spec_DrawPlaces.v code0) (Int.toNat 0) 0)) 2 = 0))).2.2.1 8) 8).2.2.1 8 1000).2.2.2.1) (ByteArray.toList (Pu.spec_DrawStream.v code0).2.1))) else (kr false))) else (none)) else (none)) else (none)))))) else (none)) else (none)) else (none)) else (none)) else (none)) else (none))
theorem b_bind {R : Type} (kr : Bool → Option R) (code0 : Row) : b kr code0 = Option.bind (b (fun r0 => some (r0)) code0) (fun p => kr p) := by
  unfold b; simp only [Lib.cond_bind, Lib.some_bind, Lib.none_bind]
def vo (code0 : Row) : Option (Bool) := b (fun r0 => some (r0)) code0
def c (code0 : Row) : Bool := Option.isSome (vo code0)
def v (code0 : Row) : Bool := Option.getD (vo code0) (false)
theorem out (code0 : Row) {x : Bool} (h : vo code0 = some x) : c code0 = true ∧ v code0 = x := by
  unfold c v; rw [h]; exact ⟨rfl, rfl⟩
theorem b_eq {R : Type} (kr : Bool → Option R) (code0 : Row) (hc : c code0 = true) : b kr code0 = kr (v code0) := by
  rw [b_bind]
  have e : vo code0 = some (v code0) := by
    unfold c at hc; unfold v
    cases h : vo code0 with
    | none => rw [h] at hc; cases hc
    | some x => rfl
  unfold vo at e
  rw [e]; rfl
end Go.FG.Pu.laws_FnEnded

