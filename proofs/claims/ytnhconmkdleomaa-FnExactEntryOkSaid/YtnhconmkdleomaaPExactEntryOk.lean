/- Functions of the program, told as functions of numbers, texts and lists, and what each comes to. No condition but those that each states. -/
import Derived.Test.YtnhconmkdleomaaLib
set_option linter.unusedVariables false
set_option linter.unusedSimpArgs false
set_option maxRecDepth 100000
namespace Go.FG.Pu.laws_szEntry
def b {R : Type} (kr : Int → Option R) (a0_0 : ByteArray) (a0_1 : Int) (a0_2 : Int) (a0_3 : ByteArray) (left1 : Int) : Option R := bif (decide (w64 (left1 - (↑(ByteArray.size a0_0) : Int)) < 0)) then (kr (-1)) else (bif (decide (w64 (w64 (left1 - (↑(ByteArray.size a0_0) : Int)) - (↑(ByteArray.size a0_3) : Int)) < 0)) then (kr (-1)) else (kr (w64 (w64 (left1 - (↑(ByteArray.size a0_0) : Int)) - (↑(ByteArray.size a0_3) : Int)))))
def v (a0_0 : ByteArray) (a0_1 : Int) (a0_2 : Int) (a0_3 : ByteArray) (left1 : Int) : Int := bif (decide (w64 (left1 - (↑(ByteArray.size a0_0) : Int)) < 0)) then (((-1))) else (bif (decide (w64 (w64 (left1 - (↑(ByteArray.size a0_0) : Int)) - (↑(ByteArray.size a0_3) : Int)) < 0)) then (((-1))) else (((w64 (w64 (left1 - (↑(ByteArray.size a0_0) : Int)) - (↑(ByteArray.size a0_3) : Int))))))
theorem b_eq {R : Type} (kr : Int → Option R) (a0_0 : ByteArray) (a0_1 : Int) (a0_2 : Int) (a0_3 : ByteArray) (left1 : Int) : b kr a0_0 a0_1 a0_2 a0_3 left1 = kr (v a0_0 a0_1 a0_2 a0_3 left1) := by
  first | rfl | (unfold b v; simp only [Bool.cond_eq_ite]; (repeat' split) <;> rfl)
end Go.FG.Pu.laws_szEntry

namespace Go.FG.Pu.laws_toEntry
def b {R : Type} (kr : ByteArray → Int → Int → ByteArray → Option R) (a0_0 : ByteArray) (a0_1 : Int) (a0_2 : Int) (a0_3 : ByteArray) : Option R := kr a0_0 a0_1 a0_2 a0_3
def v (a0_0 : ByteArray) (a0_1 : Int) (a0_2 : Int) (a0_3 : ByteArray) : ByteArray × Int × Int × ByteArray := (a0_0, a0_1, a0_2, a0_3)
theorem b_eq {R : Type} (kr : ByteArray → Int → Int → ByteArray → Option R) (a0_0 : ByteArray) (a0_1 : Int) (a0_2 : Int) (a0_3 : ByteArray) : b kr a0_0 a0_1 a0_2 a0_3 = kr ((v a0_0 a0_1 a0_2 a0_3).1) ((v a0_0 a0_1 a0_2 a0_3).2.1) ((v a0_0 a0_1 a0_2 a0_3).2.2.1) ((v a0_0 a0_1 a0_2 a0_3).2.2.2) := by
  first | rfl | (unfold b v; simp only [Bool.cond_eq_ite]; (repeat' split) <;> rfl)
end Go.FG.Pu.laws_toEntry

namespace Go.FG.Pu.spec_l01In
def b {R : Type} (kr : Bool → Option R) (x0 : Int) (least1 : Int) (most2 : Int) : Option R := bif (decide (x0 ≥ least1)) then (kr (decide (x0 ≤ most2))) else (kr false)
def v (x0 : Int) (least1 : Int) (most2 : Int) : Bool := bif (decide (x0 ≥ least1)) then (((decide (x0 ≤ most2)))) else ((false))
theorem b_eq {R : Type} (kr : Bool → Option R) (x0 : Int) (least1 : Int) (most2 : Int) : b kr x0 least1 most2 = kr (v x0 least1 most2) := by
  first | rfl | (unfold b v; simp only [Bool.cond_eq_ite]; (repeat' split) <;> rfl)
end Go.FG.Pu.spec_l01In

namespace Go.FG.Pu.spec_l13Key
def b {R : Type} (kr : Bool → Option R) (s0 : ByteArray) : Option R := kr (Pu.spec_l01In.v (↑(ByteArray.size s0) : Int) 1 30)
def v (s0 : ByteArray) : Bool := ((Pu.spec_l01In.v (↑(ByteArray.size s0) : Int) 1 30))
theorem b_eq {R : Type} (kr : Bool → Option R) (s0 : ByteArray) : b kr s0 = kr (v s0) := by
  first | rfl | (unfold b v; simp only [Bool.cond_eq_ite]; (repeat' split) <;> rfl)
end Go.FG.Pu.spec_l13Key

namespace Go.FG.Pu.spec_EntryOk
def b {R : Type} (kr : Bool → Option R) (e0_0 : ByteArray) (e0_1 : Int) (e0_2 : Int) (e0_3 : ByteArray) : Option R := bif (Pu.spec_l13Key.v e0_0) then (bif (Pu.spec_l01In.v e0_1 0 1000000000) then (bif (Pu.spec_l01In.v e0_2 1 999999) then (kr (decide ((↑(ByteArray.size e0_3) : Int) ≤ 400))) else (kr false)) else (kr false)) else (kr false)
def v (e0_0 : ByteArray) (e0_1 : Int) (e0_2 : Int) (e0_3 : ByteArray) : Bool := bif (Pu.spec_l13Key.v e0_0) then (bif (Pu.spec_l01In.v e0_1 0 1000000000) then (bif (Pu.spec_l01In.v e0_2 1 999999) then (((decide ((↑(ByteArray.size e0_3) : Int) ≤ 400)))) else ((false))) else ((false))) else ((false))
theorem b_eq {R : Type} (kr : Bool → Option R) (e0_0 : ByteArray) (e0_1 : Int) (e0_2 : Int) (e0_3 : ByteArray) : b kr e0_0 e0_1 e0_2 e0_3 = kr (v e0_0 e0_1 e0_2 e0_3) := by
  first | rfl | (unfold b v; simp only [Bool.cond_eq_ite]; (repeat' split) <;> rfl)
theorem rng {k : ByteArray} {s l : Int} {b : ByteArray} (h : v k s l b = true) : (1 ≤ k.size ∧ k.size ≤ 30) ∧ (0 ≤ s ∧ s ≤ 1000000000) ∧ (1 ≤ l ∧ l ≤ 999999) ∧ b.size ≤ 400 := by
  unfold v at h
  cases h1 : Pu.spec_l13Key.v k <;> rw [h1] at h <;> simp only [cond_true, cond_false, Bool.false_eq_true] at h
  cases h2 : Pu.spec_l01In.v s 0 1000000000 <;> rw [h2] at h <;> simp only [cond_true, cond_false, Bool.false_eq_true] at h
  cases h3 : Pu.spec_l01In.v l 1 999999 <;> rw [h3] at h <;> simp only [cond_true, cond_false, Bool.false_eq_true] at h
  simp [Pu.spec_l13Key.v, Pu.spec_l01In.v] at h1 h2 h3
  have := of_decide_eq_true h
  omega
end Go.FG.Pu.spec_EntryOk

namespace Go.FG.Pu.impl_within
def b {R : Type} (kr : Bool → Option R) (n0 : Int) (low1 : Int) (high2 : Int) : Option R := bif (decide (n0 ≥ low1)) then (kr (decide (n0 ≤ high2))) else (kr false)
def v (n0 : Int) (low1 : Int) (high2 : Int) : Bool := bif (decide (n0 ≥ low1)) then (((decide (n0 ≤ high2)))) else ((false))
theorem b_eq {R : Type} (kr : Bool → Option R) (n0 : Int) (low1 : Int) (high2 : Int) : b kr n0 low1 high2 = kr (v n0 low1 high2) := by
  first | rfl | (unfold b v; simp only [Bool.cond_eq_ite]; (repeat' split) <;> rfl)
end Go.FG.Pu.impl_within

namespace Go.FG.Pu.impl_isKey
def b {R : Type} (kr : Bool → Option R) (key0 : ByteArray) : Option R := kr (Pu.impl_within.v (↑(ByteArray.size key0) : Int) 1 30)
def v (key0 : ByteArray) : Bool := ((Pu.impl_within.v (↑(ByteArray.size key0) : Int) 1 30))
theorem b_eq {R : Type} (kr : Bool → Option R) (key0 : ByteArray) : b kr key0 = kr (v key0) := by
  first | rfl | (unfold b v; simp only [Bool.cond_eq_ite]; (repeat' split) <;> rfl)
end Go.FG.Pu.impl_isKey

namespace Go.FG.Pu.impl_isNumber
def b {R : Type} (kr : Bool → Option R) (n0 : Int) : Option R := kr (Pu.impl_within.v n0 0 1000000000)
def v (n0 : Int) : Bool := ((Pu.impl_within.v n0 0 1000000000))
theorem b_eq {R : Type} (kr : Bool → Option R) (n0 : Int) : b kr n0 = kr (v n0) := by
  first | rfl | (unfold b v; simp only [Bool.cond_eq_ite]; (repeat' split) <;> rfl)
end Go.FG.Pu.impl_isNumber

namespace Go.FG.Pu.impl_EntryOk
def b {R : Type} (kr : Bool → Option R) (e0_0 : ByteArray) (e0_1 : Int) (e0_2 : Int) (e0_3 : ByteArray) : Option R := bif (Pu.impl_isKey.v e0_0) then (bif (Pu.impl_isNumber.v e0_1) then (bif (Pu.impl_within.v e0_2 1 999999) then (kr (decide ((↑(ByteArray.size e0_3) : Int) ≤ 400))) else (kr false)) else (kr false)) else (kr false)
def v (e0_0 : ByteArray) (e0_1 : Int) (e0_2 : Int) (e0_3 : ByteArray) : Bool := bif (Pu.impl_isKey.v e0_0) then (bif (Pu.impl_isNumber.v e0_1) then (bif (Pu.impl_within.v e0_2 1 999999) then (((decide ((↑(ByteArray.size e0_3) : Int) ≤ 400)))) else ((false))) else ((false))) else ((false))
theorem b_eq {R : Type} (kr : Bool → Option R) (e0_0 : ByteArray) (e0_1 : Int) (e0_2 : Int) (e0_3 : ByteArray) : b kr e0_0 e0_1 e0_2 e0_3 = kr (v e0_0 e0_1 e0_2 e0_3) := by
  first | rfl | (unfold b v; simp only [Bool.cond_eq_ite]; (repeat' split) <;> rfl)
end Go.FG.Pu.impl_EntryOk

namespace Go.FG.Pu.laws_FnExactEntryOk
def b {R : Type} (kr : Bool → Option R) (aE0_0 : ByteArray) (aE0_1 : Int) (aE0_2 : Int) (aE0_3 : ByteArray) : Option R := bif (decide (Pu.laws_szEntry.v aE0_0 aE0_1 aE0_2 aE0_3 1048576 < 0)) then (kr true) else (bif (!decide (Pu.impl_EntryOk.v aE0_0 aE0_1 aE0_2 aE0_3 = Pu.spec_EntryOk.v aE0_0 aE0_1 aE0_2 aE0_3)) then (kr false) else (kr true))
def v (aE0_0 : ByteArray) (aE0_1 : Int) (aE0_2 : Int) (aE0_3 : ByteArray) : Bool := bif (decide (Pu.laws_szEntry.v aE0_0 aE0_1 aE0_2 aE0_3 1048576 < 0)) then ((true)) else (bif (!decide (Pu.impl_EntryOk.v aE0_0 aE0_1 aE0_2 aE0_3 = Pu.spec_EntryOk.v aE0_0 aE0_1 aE0_2 aE0_3)) then ((false)) else ((true)))
theorem b_eq {R : Type} (kr : Bool → Option R) (aE0_0 : ByteArray) (aE0_1 : Int) (aE0_2 : Int) (aE0_3 : ByteArray) : b kr aE0_0 aE0_1 aE0_2 aE0_3 = kr (v aE0_0 aE0_1 aE0_2 aE0_3) := by
  first | rfl | (unfold b v; simp only [Bool.cond_eq_ite]; (repeat' split) <;> rfl)
theorem law (k : ByteArray) (s l : Int) (b : ByteArray) (h1 : k.size ≤ 140737488351232) (h2 : (Lit.int .i64 s).wf = true) (h3 : (Lit.int .i64 l).wf = true) (h4 : b.size ≤ 140737488351232) : v k s l b = true := by
  have e : Pu.impl_EntryOk.v k s l b = Pu.spec_EntryOk.v k s l b := rfl
  unfold v
  rw [e]; simp
end Go.FG.Pu.laws_FnExactEntryOk

