/- Functions of the program, told as functions of numbers, texts and lists, and what each comes to. No condition but those that each states. -/
import Derived.Test.YtnhconmkdleomaaLib
set_option linter.unusedVariables false
set_option linter.unusedSimpArgs false
set_option maxRecDepth 100000
namespace Go.FG.Pu.laws_szEntry
def b {R : Type} (kr : Int → Option R) (a0_0 : ByteArray) (a0_1 : Int) (a0_2 : Int) (a0_3 : ByteArray) (left1 : Int) : Option R := bif (decide (w64 (left1 - (↑(ByteArray.size a0_0) : Int)) < 0)) then (kr (-1)) else (bif (decide (w64 (w64 (left1 - (↑(ByteArray.size a0_0) : Int)) - (↑(ByteArray.size a0_3) : Int)) < 0)) then (kr (-1)) else (kr (w64 (w64 (left1 - (↑(ByteArray.size a0_0) : Int)) - (↑(ByteArray.size a0_3) : Int)))))
def v (a0_0 : ByteArray) (a0_1 : Int) (a0_2 : Int) (a0_3 : ByteArray) (left1 : Int) : Int := bif (decide (w64 (left1 - (↑(ByteArray.size a0_0) : Int)) < 0)) then (((-1))) else (bif (decide (w64 (w64 (left1 - (↑(ByteArray.size a0_0) : Int)) - (↑(ByteArray.size a0_3) : Int)) < 0)) then (((-1))) else (((w64 (w64 (left1 - (↑(ByteArray.size a0_0) : Int)) - (↑(ByteArray.size a0_3) : Int))))))
theorem b_eq {R : Type} (kr : Int → Option R) (a0_0 : ByteArray) (a0_1 : Int) (a0_2 : Int) (a0_3 : ByteArray) (left1 : Int) : b kr a0_0 a0_1 a0_2 a0_3 left1 = kr (v a0_0 a0_1 a0_2 a0_3 left1) := by
  first | rfl | (unfold b v; simp only [Bool.cond_eq_ite]; (repeat' split) <;> rfl)
end Go.FG.Pu.laws_szEntry

namespace Go.FG.Pu.laws_toEntry
def b {R : Type} (kr : ByteArray → Int → Int → ByteArray → Option R) (a0_0 : ByteArray) (a0_1 : Int) (a0_2 : Int) (a0_3 : ByteArray) : Option R := kr a0_0 a0_1 a0_2 a0_3
def v (a0_0 : ByteArray) (a0_1 : Int) (a0_2 : Int) (a0_3 : ByteArray) : ByteArray × Int × Int × ByteArray := (a0_0, a0_1, a0_2, a0_3)
theorem b_eq {R : Type} (kr : ByteArray → Int → Int → ByteArray → Option R) (a0_0 : ByteArray) (a0_1 : Int) (a0_2 : Int) (a0_3 : ByteArray) : b kr a0_0 a0_1 a0_2 a0_3 = kr ((v a0_0 a0_1 a0_2 a0_3).1) ((v a0_0 a0_1 a0_2 a0_3).2.1) ((v a0_0 a0_1 a0_2 a0_3).2.2.1) ((v a0_0 a0_1 a0_2 a0_3).2.2.2) := by
  first | rfl | (unfold b v; simp only [Bool.cond_eq_ite]; (repeat' split) <;> rfl)
end Go.FG.Pu.laws_toEntry

namespace Go.FG.Pu.spec_l01In
def b {R : Type} (kr : Bool → Option R) (x0 : Int) (least1 : Int) (most2 : Int) : Option R := bif (decide (x0 ≥ least1)) then (kr (decide (x0 ≤ most2))) else (kr false)
def v (x0 : Int) (least1 : Int) (most2 : Int) : Bool := bif (decide (x0 ≥ least1)) then (((decide (x0 ≤ most2)))) else ((false))
theorem b_eq {R : Type} (kr : Bool → Option R) (x0 : Int) (least1 : Int) (most2 : Int) : b kr x0 least1 most2 = kr (v x0 least1 most2) := by
  first | rfl | (unfold b v; simp only [Bool.cond_eq_ite]; (repeat' split) <;> rfl)
end Go.FG.Pu.spec_l01In

namespace Go.FG.Pu.spec_l13Key
def b {R : Type} (kr : Bool → Option R) (s0 : ByteArray) : Option R := kr (Pu.spec_l01In.v (↑(ByteArray.size s0) : Int) 1 30)
def v (s0 : ByteArray) : Bool := ((Pu.spec_l01In.v (↑(ByteArray.size s0) : Int) 1 30))
theorem b_eq {R : Type} (kr : Bool → Option R) (s0 : ByteArray) : b kr s0 = kr (v s0) := by
  first | rfl | (unfold b v; simp only [Bool.cond_eq_ite]; (repeat' split) <;> rfl)
end Go.FG.Pu.spec_l13Key

namespace Go.FG.Pu.spec_EntryOk
def b {R : Type} (kr : Bool → Option R) (e0_0 : ByteArray) (e0_1 : Int) (e0_2 : Int) (e0_3 : ByteArray) : Option R := bif (Pu.spec_l13Key.v e0_0) then (bif (Pu.spec_l01In.v e0_1 0 1000000000) then (bif (Pu.spec_l01In.v e0_2 1 999999) then (kr (decide ((↑(ByteArray.size e0_3) : Int) ≤ 400))) else (kr false)) else (kr false)) else (kr false)
def v (e0_0 : ByteArray) (e0_1 : Int) (e0_2 : Int) (e0_3 : ByteArray) : Bool := bif (Pu.spec_l13Key.v e0_0) then (bif (Pu.spec_l01In.v e0_1 0 1000000000) then (bif (Pu.spec_l01In.v e0_2 1 999999) then (((decide ((↑(ByteArray.size e0_3) : Int) ≤ 400)))) else ((false))) else ((false))) else ((false))
theorem b_eq {R : Type} (kr : Bool → Option R) (e0_0 : ByteArray) (e0_1 : Int) (e0_2 : Int) (e0_3 : ByteArray) : b kr e0_0 e0_1 e0_2 e0_3 = kr (v e0_0 e0_1 e0_2 e0_3) := by
  first | rfl | (unfold b v; simp only [Bool.cond_eq_ite]; (repeat' split) <;> rfl)
theorem rng {k : ByteArray} {s l : Int} {b : ByteArray} (h : v k s l b = true) : (1 ≤ k.size ∧ k.size ≤ 30) ∧ (0 ≤ s ∧ s ≤ 1000000000) ∧ (1 ≤ l ∧ l ≤ 999999) ∧ b.size ≤ 400 := by
  unfold v at h
  cases h1 : Pu.spec_l13Key.v k <;> rw [h1] at h <;> simp only [cond_true, cond_false, Bool.false_eq_true] at h
  cases h2 : Pu.spec_l01In.v s 0 1000000000 <;> rw [h2] at h <;> simp only [cond_true, cond_false, Bool.false_eq_true] at h
  cases h3 : Pu.spec_l01In.v l 1 999999 <;> rw [h3] at h <;> simp only [cond_true, cond_false, Bool.false_eq_true] at h
  simp [Pu.spec_l13Key.v, Pu.spec_l01In.v] at h1 h2 h3
  have := of_decide_eq_true h
  omega
end Go.FG.Pu.spec_EntryOk

namespace Go.FG.Pu.spec_l01Var
def r2 {R : Type} (N : Nat) (g : Int → Row → Option R) (k0 : Int → Row → Option R) (x0 : Int) (x1 : Row) : Option R := bif (decide (x0 > 127)) then (bif (!(decide (x0 = x0) && decide (128 = 0))) then (bif (roomy (List.length x1 + List.length (List.set (zeros [Ck.i IntKind.u8] 1) 0 [CV.i IntKind.u8 (IntKind.wrap IntKind.u8 (w64 (Int.tmod x0 128 + 128)))])) 1) then (bif (!(decide (x0 = x0) && decide (128 = 0))) then (g (w64 (Int.tdiv x0 128)) (x1 ++ List.set (zeros [Ck.i IntKind.u8] 1) 0 [CV.i IntKind.u8 (IntKind.wrap IntKind.u8 (w64 (Int.tmod x0 128 + 128)))])) else (none)) else (none)) else (none)) else (k0 x0 x1)
def l2 {R : Type} (N : Nat) (k0 : Int → Row → Option R) : Nat → Int → Row → Option R
  | 0 => (fun _ _ => none)
  | n + 1 => (fun x0 x1 => r2 N (l2 N k0 n) k0 x0 x1)
def b {R : Type} (N : Nat) (kr : ByteArray → Option R) (n0 : Int) : Option R := l2 N (fun y2 y3 => bif (roomy (List.length y3 + List.length (List.set (zeros [Ck.i IntKind.u8] 1) 0 [CV.i IntKind.u8 (IntKind.wrap IntKind.u8 y2)])) 1) then (kr (bytesOf (y3 ++ List.set (zeros [Ck.i IntKind.u8] 1) 0 [CV.i IntKind.u8 (IntKind.wrap IntKind.u8 y2)]))) else (none)) N n0 (zeros [Ck.i IntKind.u8] 0)
def v (n0 : Int) : ByteArray := bytesOf (Lib.vb n0)
def c (n0 : Int) : Bool := decide (n0 ≤ 9223372036854775807)
theorem b_eq {R : Type} (kr : ByteArray → Option R) (n0 : Int) (hc : c n0 = true) : ∃ N, b N kr n0 = kr (v n0) := by
  refine ⟨n0.toNat + 1, ?_⟩
  refine Lib.var_run (fun n x acc => l2 (n0.toNat + 1) _ n x acc) kr (fun n x acc h hl => ?_) (fun n x acc h hl => ?_) n0 (of_decide_eq_true hc)
  · simp only [l2, r2, h, decide_true, cond_true, Lib.len_set1, show List.length acc + List.length [[CV.i IntKind.u8 (IntKind.wrap IntKind.u8 (w64 (Int.tmod x 128 + 128)))]] = acc.length + 1 from rfl, Lib.roomy1 (show acc.length + 1 ≤ 140737488355328 by omega), show decide ((128 : Int) = 0) = false from rfl, Bool.and_false, Bool.not_false]
    rfl
  · simp only [l2, r2, h, decide_false, cond_false, Lib.len_set1, show List.length acc + List.length [[CV.i IntKind.u8 (IntKind.wrap IntKind.u8 x)]] = acc.length + 1 from rfl, Lib.roomy1 (show acc.length + 1 ≤ 140737488355328 by omega), cond_true]
end Go.FG.Pu.spec_l01Var

namespace Go.FG.Pu.spec_EntryText
def b {R : Type} (kr : ByteArray → Bool → Option R) (e0_0 : ByteArray) (e0_1 : Int) (e0_2 : Int) (e0_3 : ByteArray) : Option R := bif (!Pu.spec_EntryOk.v e0_0 e0_1 e0_2 e0_3) then (kr ({ data := #[] }) false) else (bif (Pu.spec_l01Var.c (↑(ByteArray.size e0_0) : Int)) then (bif (decide (ByteArray.size (Pu.spec_l01Var.v (↑(ByteArray.size e0_0) : Int)) + ByteArray.size e0_0 ≤ 9223372036854775807)) then (bif (Pu.spec_l01Var.c e0_1) then (bif (decide (ByteArray.size (Pu.spec_l01Var.v (↑(ByteArray.size e0_0) : Int) ++ e0_0) + ByteArray.size (Pu.spec_l01Var.v e0_1) ≤ 9223372036854775807)) then (bif (Pu.spec_l01Var.c e0_2) then (bif (decide (ByteArray.size (Pu.spec_l01Var.v (↑(ByteArray.size e0_0) : Int) ++ e0_0 ++ Pu.spec_l01Var.v e0_1) + ByteArray.size (Pu.spec_l01Var.v e0_2) ≤ 9223372036854775807)) then (bif (decide (ByteArray.size (Pu.spec_l01Var.v (↑(ByteArray.size e0_0) : Int) ++ e0_0 ++ Pu.spec_l01Var.v e0_1 ++ Pu.spec_l01Var.v e0_2) + ByteArray.size e0_3 ≤ 9223372036854775807)) then (kr (Pu.spec_l01Var.v (↑(ByteArray.size e0_0) : Int) ++ e0_0 ++ Pu.spec_l01Var.v e0_1 ++ Pu.spec_l01Var.v e0_2 ++ e0_3) true) else (none)) else (none)) else (none)) else (none)) else (none)) else (none)) else (none))
def txt (k : ByteArray) (s l : Int) (b : ByteArray) : ByteArray := bytesOf (Lib.vb k.size) ++ k ++ bytesOf (Lib.vb s) ++ bytesOf (Lib.vb l) ++ b
def v (e0_0 : ByteArray) (e0_1 : Int) (e0_2 : Int) (e0_3 : ByteArray) : ByteArray × Bool := if Pu.spec_EntryOk.v e0_0 e0_1 e0_2 e0_3 = true then (txt e0_0 e0_1 e0_2 e0_3, true) else (⟨#[]⟩, false)
theorem b_eq {R : Type} (kr : ByteArray → Bool → Option R) (e0_0 : ByteArray) (e0_1 : Int) (e0_2 : Int) (e0_3 : ByteArray) : b kr e0_0 e0_1 e0_2 e0_3 = kr (v e0_0 e0_1 e0_2 e0_3).1 (v e0_0 e0_1 e0_2 e0_3).2 := by
  unfold b v
  cases h : Pu.spec_EntryOk.v e0_0 e0_1 e0_2 e0_3 with
  | false => rfl
  | true =>
    have hr := Pu.spec_EntryOk.rng h
    have cc : ∀ x : Int, x ≤ 9223372036854775807 → Pu.spec_l01Var.c x = true := fun x hx => decide_eq_true hx
    have z1 : (Pu.spec_l01Var.v (e0_0.size : Int)).size ≤ 64 := Lib.var_size (x := (e0_0.size : Int)) (by omega)
    have z2 : (Pu.spec_l01Var.v e0_1).size ≤ 64 := Lib.var_size (x := e0_1) (by omega)
    have z3 : (Pu.spec_l01Var.v e0_2).size ≤ 64 := Lib.var_size (x := e0_2) (by omega)
    simp (disch := omega) only [Bool.not_true, cond_false, cc _ (show (e0_0.size : Int) ≤ 9223372036854775807 by omega), cc e0_1 (by omega), cc e0_2 (by omega), cond_true, if_true, Lib.size_app, Lib.dnat]
    rfl
end Go.FG.Pu.spec_EntryText

namespace Go.FG.Pu.impl_within
def b {R : Type} (kr : Bool → Option R) (n0 : Int) (low1 : Int) (high2 : Int) : Option R := bif (decide (n0 ≥ low1)) then (kr (decide (n0 ≤ high2))) else (kr false)
def v (n0 : Int) (low1 : Int) (high2 : Int) : Bool := bif (decide (n0 ≥ low1)) then (((decide (n0 ≤ high2)))) else ((false))
theorem b_eq {R : Type} (kr : Bool → Option R) (n0 : Int) (low1 : Int) (high2 : Int) : b kr n0 low1 high2 = kr (v n0 low1 high2) := by
  first | rfl | (unfold b v; simp only [Bool.cond_eq_ite]; (repeat' split) <;> rfl)
end Go.FG.Pu.impl_within

namespace Go.FG.Pu.impl_isKey
def b {R : Type} (kr : Bool → Option R) (key0 : ByteArray) : Option R := kr (Pu.impl_within.v (↑(ByteArray.size key0) : Int) 1 30)
def v (key0 : ByteArray) : Bool := ((Pu.impl_within.v (↑(ByteArray.size key0) : Int) 1 30))
theorem b_eq {R : Type} (kr : Bool → Option R) (key0 : ByteArray) : b kr key0 = kr (v key0) := by
  first | rfl | (unfold b v; simp only [Bool.cond_eq_ite]; (repeat' split) <;> rfl)
end Go.FG.Pu.impl_isKey

namespace Go.FG.Pu.impl_isNumber
def b {R : Type} (kr : Bool → Option R) (n0 : Int) : Option R := kr (Pu.impl_within.v n0 0 1000000000)
def v (n0 : Int) : Bool := ((Pu.impl_within.v n0 0 1000000000))
theorem b_eq {R : Type} (kr : Bool → Option R) (n0 : Int) : b kr n0 = kr (v n0) := by
  first | rfl | (unfold b v; simp only [Bool.cond_eq_ite]; (repeat' split) <;> rfl)
end Go.FG.Pu.impl_isNumber

namespace Go.FG.Pu.impl_EntryOk
def b {R : Type} (kr : Bool → Option R) (e0_0 : ByteArray) (e0_1 : Int) (e0_2 : Int) (e0_3 : ByteArray) : Option R := bif (Pu.impl_isKey.v e0_0) then (bif (Pu.impl_isNumber.v e0_1) then (bif (Pu.impl_within.v e0_2 1 999999) then (kr (decide ((↑(ByteArray.size e0_3) : Int) ≤ 400))) else (kr false)) else (kr false)) else (kr false)
def v (e0_0 : ByteArray) (e0_1 : Int) (e0_2 : Int) (e0_3 : ByteArray) : Bool := bif (Pu.impl_isKey.v e0_0) then (bif (Pu.impl_isNumber.v e0_1) then (bif (Pu.impl_within.v e0_2 1 999999) then (((decide ((↑(ByteArray.size e0_3) : Int) ≤ 400)))) else ((false))) else ((false))) else ((false))
theorem b_eq {R : Type} (kr : Bool → Option R) (e0_0 : ByteArray) (e0_1 : Int) (e0_2 : Int) (e0_3 : ByteArray) : b kr e0_0 e0_1 e0_2 e0_3 = kr (v e0_0 e0_1 e0_2 e0_3) := by
  first | rfl | (unfold b v; simp only [Bool.cond_eq_ite]; (repeat' split) <;> rfl)
end Go.FG.Pu.impl_EntryOk

namespace Go.FG.Pu.impl_VarText
def r4 {R : Type} (N : Nat) (g : Int → Row → Option R) (k0 : Int → Row → Option R) (x0 : Int) (x1 : Row) : Option R := bif (decide (x0 > 127)) then (bif (!(decide (x0 = x0) && decide (128 = 0))) then (bif (roomy (List.length x1 + List.length (List.set (zeros [Ck.i IntKind.u8] 1) 0 [CV.i IntKind.u8 (IntKind.wrap IntKind.u8 (w64 (Int.tmod x0 128 + 128)))])) 1) then (bif (!(decide (x0 = x0) && decide (128 = 0))) then (g (w64 (Int.tdiv x0 128)) (x1 ++ List.set (zeros [Ck.i IntKind.u8] 1) 0 [CV.i IntKind.u8 (IntKind.wrap IntKind.u8 (w64 (Int.tmod x0 128 + 128)))])) else (none)) else (none)) else (none)) else (k0 x0 x1)
def l4 {R : Type} (N : Nat) (k0 : Int → Row → Option R) : Nat → Int → Row → Option R
  | 0 => (fun _ _ => none)
  | n + 1 => (fun x0 x1 => r4 N (l4 N k0 n) k0 x0 x1)
def b {R : Type} (N : Nat) (kr : ByteArray → Bool → Option R) (n0 : Int) : Option R := bif (!Pu.impl_within.v n0 0 1000000000) then (kr ({ data := #[] }) false) else (l4 N (fun y2 y3 => bif (roomy (List.length y3 + List.length (List.set (zeros [Ck.i IntKind.u8] 1) 0 [CV.i IntKind.u8 (IntKind.wrap IntKind.u8 y2)])) 1) then (kr (bytesOf (y3 ++ List.set (zeros [Ck.i IntKind.u8] 1) 0 [CV.i IntKind.u8 (IntKind.wrap IntKind.u8 y2)])) true) else (none)) N n0 (zeros [Ck.i IntKind.u8] 0))
def v (n0 : Int) : ByteArray × Bool := if 0 ≤ n0 ∧ n0 ≤ 1000000000 then (bytesOf (Lib.vb n0), true) else (⟨#[]⟩, false)
theorem b_eq {R : Type} (kr : ByteArray → Bool → Option R) (n0 : Int) : ∃ N, b N kr n0 = kr (v n0).1 (v n0).2 := by
  refine ⟨n0.toNat + 1, ?_⟩
  unfold b v
  by_cases hn : 0 ≤ n0 ∧ n0 ≤ 1000000000
  · have e : Pu.impl_within.v n0 0 1000000000 = true := by simp [Pu.impl_within.v, hn]
    rw [e, if_pos hn]
    refine Lib.var_run (fun n x acc => l4 (n0.toNat + 1) _ n x acc) (fun y => kr y true) (fun n x acc h hl => ?_) (fun n x acc h hl => ?_) n0 (by omega)
    · simp only [l4, r4, h, decide_true, cond_true, Lib.len_set1, show List.length acc + List.length [[CV.i IntKind.u8 (IntKind.wrap IntKind.u8 (w64 (Int.tmod x 128 + 128)))]] = acc.length + 1 from rfl, Lib.roomy1 (show acc.length + 1 ≤ 140737488355328 by omega), show decide ((128 : Int) = 0) = false from rfl, Bool.and_false, Bool.not_false]
      rfl
    · simp only [l4, r4, h, decide_false, cond_false, Lib.len_set1, show List.length acc + List.length [[CV.i IntKind.u8 (IntKind.wrap IntKind.u8 x)]] = acc.length + 1 from rfl, Lib.roomy1 (show acc.length + 1 ≤ 140737488355328 by omega), cond_true]
  · have e : Pu.impl_within.v n0 0 1000000000 = false := by
      simp [Pu.impl_within.v]; omega
    rw [e, if_neg hn]; rfl
end Go.FG.Pu.impl_VarText

namespace Go.FG.Pu.impl_ShortText
def b {R : Type} (kr : ByteArray → Bool → Option R) (s0 : ByteArray) : Option R := bif (decide ((↑(ByteArray.size s0) : Int) > 20000)) then (kr ({ data := #[] }) false) else (bif (decide (ByteArray.size (Pu.impl_VarText.v (↑(ByteArray.size s0) : Int)).1 + ByteArray.size s0 ≤ 9223372036854775807)) then (kr ((Pu.impl_VarText.v (↑(ByteArray.size s0) : Int)).1 ++ s0) true) else (none))
def v (s0 : ByteArray) : ByteArray × Bool := if s0.size > 20000 then (⟨#[]⟩, false) else (bytesOf (Lib.vb s0.size) ++ s0, true)
theorem b_eq {R : Type} (kr : ByteArray → Bool → Option R) (s0 : ByteArray) : b kr s0 = kr (v s0).1 (v s0).2 := by
  unfold b v
  by_cases h : s0.size > 20000
  · rw [if_pos h, show decide ((s0.size : Int) > 20000) = true by simp; omega]; rfl
  · rw [if_neg h, show decide ((s0.size : Int) > 20000) = false by simp; omega]
    have e : Pu.impl_VarText.v (s0.size : Int) = (bytesOf (Lib.vb s0.size), true) := by unfold Pu.impl_VarText.v; rw [if_pos (by omega)]
    have := Lib.var_size (x := (s0.size : Int)) (by omega)
    rw [e, cond_false]
    simp (disch := omega) only [Lib.dnat, cond_true]
end Go.FG.Pu.impl_ShortText

namespace Go.FG.Pu.impl_EntryText
def b {R : Type} (kr : ByteArray → Bool → Option R) (e0_0 : ByteArray) (e0_1 : Int) (e0_2 : Int) (e0_3 : ByteArray) : Option R := bif (!Pu.impl_EntryOk.v e0_0 e0_1 e0_2 e0_3) then (kr ({ data := #[] }) false) else (bif (decide (ByteArray.size (Pu.impl_ShortText.v e0_0).1 + ByteArray.size (Pu.impl_VarText.v e0_1).1 ≤ 9223372036854775807)) then (bif (decide (ByteArray.size ((Pu.impl_ShortText.v e0_0).1 ++ (Pu.impl_VarText.v e0_1).1) + ByteArray.size (Pu.impl_VarText.v e0_2).1 ≤ 9223372036854775807)) then (bif (decide (ByteArray.size ((Pu.impl_ShortText.v e0_0).1 ++ (Pu.impl_VarText.v e0_1).1 ++ (Pu.impl_VarText.v e0_2).1) + ByteArray.size e0_3 ≤ 9223372036854775807)) then (kr ((Pu.impl_ShortText.v e0_0).1 ++ (Pu.impl_VarText.v e0_1).1 ++ (Pu.impl_VarText.v e0_2).1 ++ e0_3) true) else (none)) else (none)) else (none))
def v (e0_0 : ByteArray) (e0_1 : Int) (e0_2 : Int) (e0_3 : ByteArray) : ByteArray × Bool := Pu.spec_EntryText.v e0_0 e0_1 e0_2 e0_3
theorem b_eq {R : Type} (kr : ByteArray → Bool → Option R) (e0_0 : ByteArray) (e0_1 : Int) (e0_2 : Int) (e0_3 : ByteArray) : b kr e0_0 e0_1 e0_2 e0_3 = kr (v e0_0 e0_1 e0_2 e0_3).1 (v e0_0 e0_1 e0_2 e0_3).2 := by
  have ee : Pu.impl_EntryOk.v e0_0 e0_1 e0_2 e0_3 = Pu.spec_EntryOk.v e0_0 e0_1 e0_2 e0_3 := rfl
  unfold b v Pu.spec_EntryText.v
  rw [ee]
  cases h : Pu.spec_EntryOk.v e0_0 e0_1 e0_2 e0_3 with
  | false => rfl
  | true =>
    have hr := Pu.spec_EntryOk.rng h
    have z1 : (bytesOf (Lib.vb (e0_0.size : Int))).size ≤ 64 := Lib.var_size (x := (e0_0.size : Int)) (by omega)
    have z2 : (bytesOf (Lib.vb e0_1)).size ≤ 64 := Lib.var_size (x := e0_1) (by omega)
    have z3 : (bytesOf (Lib.vb e0_2)).size ≤ 64 := Lib.var_size (x := e0_2) (by omega)
    have e1 : Pu.impl_ShortText.v e0_0 = (bytesOf (Lib.vb e0_0.size) ++ e0_0, true) := by unfold Pu.impl_ShortText.v; rw [if_neg (by omega)]
    have e2 : Pu.impl_VarText.v e0_1 = (bytesOf (Lib.vb e0_1), true) := by unfold Pu.impl_VarText.v; rw [if_pos (by omega)]
    have e3 : Pu.impl_VarText.v e0_2 = (bytesOf (Lib.vb e0_2), true) := by unfold Pu.impl_VarText.v; rw [if_pos (by omega)]
    rw [e1, e2, e3]
    simp (disch := omega) only [Bool.not_true, cond_false, cond_true, if_true, Lib.size_app, Lib.dnat]
    rfl
end Go.FG.Pu.impl_EntryText

namespace Go.FG.Pu.laws_FnExactEntryText
def b {R : Type} (kr : Bool → Option R) (aE0_0 : ByteArray) (aE0_1 : Int) (aE0_2 : Int) (aE0_3 : ByteArray) : Option R := bif (decide (Pu.laws_szEntry.v aE0_0 aE0_1 aE0_2 aE0_3 1048576 < 0)) then (kr true) else (bif (!List.beq (ByteArray.toList (Pu.impl_EntryText.v aE0_0 aE0_1 aE0_2 aE0_3).1) (ByteArray.toList (Pu.spec_EntryText.v aE0_0 aE0_1 aE0_2 aE0_3).1)) then (kr false) else (bif (!decide ((Pu.impl_EntryText.v aE0_0 aE0_1 aE0_2 aE0_3).2 = (Pu.spec_EntryText.v aE0_0 aE0_1 aE0_2 aE0_3).2)) then (kr false) else (kr true)))
def v (aE0_0 : ByteArray) (aE0_1 : Int) (aE0_2 : Int) (aE0_3 : ByteArray) : Bool := bif (decide (Pu.laws_szEntry.v aE0_0 aE0_1 aE0_2 aE0_3 1048576 < 0)) then ((true)) else (bif (!List.beq (ByteArray.toList (Pu.impl_EntryText.v aE0_0 aE0_1 aE0_2 aE0_3).1) (ByteArray.toList (Pu.spec_EntryText.v aE0_0 aE0_1 aE0_2 aE0_3).1)) then ((false)) else (bif (!decide ((Pu.impl_EntryText.v aE0_0 aE0_1 aE0_2 aE0_3).2 = (Pu.spec_EntryText.v aE0_0 aE0_1 aE0_2 aE0_3).2)) then ((false)) else ((true))))
theorem b_eq {R : Type} (kr : Bool → Option R) (aE0_0 : ByteArray) (aE0_1 : Int) (aE0_2 : Int) (aE0_3 : ByteArray) : b kr aE0_0 aE0_1 aE0_2 aE0_3 = kr (v aE0_0 aE0_1 aE0_2 aE0_3) := by
  first | rfl | (unfold b v; simp only [Bool.cond_eq_ite]; (repeat' split) <;> rfl)
theorem law (k : ByteArray) (s l : Int) (b : ByteArray) (h1 : k.size ≤ 140737488351232) (h2 : (Lit.int .i64 s).wf = true) (h3 : (Lit.int .i64 l).wf = true) (h4 : b.size ≤ 140737488351232) : v k s l b = true := by
  have e : ∀ k s l b, Pu.impl_EntryText.v k s l b = Pu.spec_EntryText.v k s l b := fun _ _ _ _ => rfl
  unfold v
  simp only [e]
  simp [Lib.beq_self]
end Go.FG.Pu.laws_FnExactEntryText

