/- Functions of the program, told as functions of numbers, texts and lists, and what each comes to. No condition but those that each states. -/
import Derived.Test.YtnhconmkdleomaaLib
set_option linter.unusedVariables false
set_option linter.unusedSimpArgs false
set_option maxRecDepth 100000
namespace Go.FG.Pu.laws_szIntS
def b {R : Type} (kr : Int → Option R) (a0 : Row) (left1 : Int) : Option R := bif (decide (w64 (left1 - (↑(List.length a0) : Int)) < 0)) then (kr (-1)) else (kr (w64 (left1 - (↑(List.length a0) : Int))))
def v (a0 : Row) (left1 : Int) : Int := bif (decide (w64 (left1 - (↑(List.length a0) : Int)) < 0)) then (((-1))) else (((w64 (left1 - (↑(List.length a0) : Int)))))
theorem b_eq {R : Type} (kr : Int → Option R) (a0 : Row) (left1 : Int) : b kr a0 left1 = kr (v a0 left1) := by
  first | rfl | (unfold b v; simp only [Bool.cond_eq_ite]; (repeat' split) <;> rfl)
theorem fits {a : Row} {L : Int} (h0 : 0 ≤ L) (h1 : L ≤ 1048576) (ha : FitR a) (h : decide (v a L < 0) = false) : a.length ≤ 1048576 ∧ v a L = L - a.length := by
  have e := Lib.sub_len h0 h1 ha.1
  unfold v at h ⊢
  rw [e] at h ⊢
  by_cases hc : L - (a.length : Int) < 0
  · rw [decide_eq_true hc] at h; cases h
  · rw [decide_eq_false hc]; exact ⟨by omega, rfl⟩
end Go.FG.Pu.laws_szIntS

namespace Go.FG.Pu.laws_szEvent
def b {R : Type} (kr : Int → Option R) (a0_0 : Int) (a0_1 : Int) (a0_2 : ByteArray) (a0_3 : Int) (a0_4 : Row) (left1 : Int) : Option R := bif (decide (w64 (left1 - (↑(ByteArray.size a0_2) : Int)) < 0)) then (kr (-1)) else (bif (decide (Pu.laws_szIntS.v a0_4 (w64 (left1 - (↑(ByteArray.size a0_2) : Int))) < 0)) then (kr (-1)) else (kr (Pu.laws_szIntS.v a0_4 (w64 (left1 - (↑(ByteArray.size a0_2) : Int))))))
def v (a0_0 : Int) (a0_1 : Int) (a0_2 : ByteArray) (a0_3 : Int) (a0_4 : Row) (left1 : Int) : Int := bif (decide (w64 (left1 - (↑(ByteArray.size a0_2) : Int)) < 0)) then (((-1))) else (bif (decide (Pu.laws_szIntS.v a0_4 (w64 (left1 - (↑(ByteArray.size a0_2) : Int))) < 0)) then (((-1))) else (((Pu.laws_szIntS.v a0_4 (w64 (left1 - (↑(ByteArray.size a0_2) : Int)))))))
theorem b_eq {R : Type} (kr : Int → Option R) (a0_0 : Int) (a0_1 : Int) (a0_2 : ByteArray) (a0_3 : Int) (a0_4 : Row) (left1 : Int) : b kr a0_0 a0_1 a0_2 a0_3 a0_4 left1 = kr (v a0_0 a0_1 a0_2 a0_3 a0_4 left1) := by
  first | rfl | (unfold b v; simp only [Bool.cond_eq_ite]; (repeat' split) <;> rfl)
theorem fits {x y : Int} {t : ByteArray} {z : Int} {a : Row} {L : Int} (h0 : 0 ≤ L) (h1 : L ≤ 1048576) (ht : okS t) (ha : FitR a) (h : decide (v x y t z a L < 0) = false) : t.size ≤ 1048576 ∧ a.length ≤ 1048576 := by
  have e := Lib.sub_len h0 h1 ht
  unfold v at h
  rw [e] at h
  by_cases hc : L - (t.size : Int) < 0
  · rw [decide_eq_true hc] at h; cases h
  · rw [decide_eq_false hc, cond_false] at h
    cases h2 : decide (Pu.laws_szIntS.v a (L - t.size) < 0) with
    | true => rw [h2] at h; cases h
    | false => exact ⟨by omega, (Pu.laws_szIntS.fits (by omega) (by omega) ha h2).1⟩
end Go.FG.Pu.laws_szEvent

namespace Go.FG.Pu.laws_toIntS
def r3 {R : Type} (N : Nat) (g : Row → Int → Row → Option R) (k0 : Row → Int → Row → Option R) (x0 : Row) (x1 : Int) (x2 : Row) : Option R := bif (decide (x1 < (↑(List.length x0) : Int))) then (bif (decide (0 ≤ x1) && decide (x1 < (↑(List.length x0) : Int))) then (bif (decide (0 ≤ x1) && decide (x1 < (↑(List.length x2) : Int))) then (g x0 (w64 (x1 + 1)) (setC x2 (Int.toNat x1) 0 [CV.i IntKind.i64 (cvI (cellAt x0 (Int.toNat x1) 0))])) else (none)) else (none)) else (k0 x0 x1 x2)
def l3 {R : Type} (N : Nat) (k0 : Row → Int → Row → Option R) : Nat → Row → Int → Row → Option R
  | 0 => (fun _ _ _ => none)
  | n + 1 => (fun x0 x1 x2 => r3 N (l3 N k0 n) k0 x0 x1 x2)
def b {R : Type} (N : Nat) (kr : Row → Option R) (a0 : Row) : Option R := bif (decide ((↑(List.length a0) : Int) = (↑(List.length a0) : Int)) && roomy (Int.toNat (↑(List.length a0) : Int)) 8) then (l3 N (fun y3 y4 y5 => kr y5) N a0 0 (zeros [Ck.i IntKind.i64] (Int.toNat (↑(List.length a0) : Int)))) else (none)
/-- The rows' numbers, one for one. -/
def v (a0 : Row) : Row := a0.map fun y => [CV.i IntKind.i64 (cvI (y.getD 0 (.b false)))]
def c (a0 : Row) : Bool := decide (a0.length ≤ 1048576)
theorem b_eq {R : Type} (kr : Row → Option R) (a0 : Row) (hc : c a0 = true) : ∃ N, b N kr a0 = kr (v a0) := by
  have hl : a0.length ≤ 1048576 := of_decide_eq_true hc
  refine ⟨a0.length + 1, ?_⟩
  unfold b
  rw [show decide ((a0.length : Int) = (a0.length : Int)) = true by simp, Lib.toN, Lib.roomy_of (by omega) (by omega), Bool.and_self, cond_true]
  refine Lib.fill_run (ks := [Ck.i IntKind.i64]) (v a0) a0.length (by unfold v; simp) (fun y hy => ?_) (fun m (i : Nat) x => l3 (a0.length + 1) (fun _ _ y => kr y) m a0 i x) kr (fun m => ?_) (fun m i hi x hx => ?_)
  · unfold v at hy; obtain ⟨z, _, rfl⟩ := List.mem_map.1 hy; rfl
  · simp only [l3, r3, Lib.dlt, Nat.lt_irrefl, decide_false, cond_false]
  · have hi2 : i < x.length := by omega
    have e : (v a0).getD i [] = [CV.i IntKind.i64 (cvI (cellAt a0 i 0))] := by
      unfold v; simp [List.getD, hi, cellAt]
    simp only [l3, r3, Lib.dlt, Lib.dle0, Lib.toN, hi, hi2, decide_true, Bool.true_and, cond_true, Lib.w64_s hi (by omega), e]
end Go.FG.Pu.laws_toIntS

namespace Go.FG.Pu.laws_toEvent
def b {R : Type} (kr : Int → Int → ByteArray → Int → Row → Option R) (a0_0 : Int) (a0_1 : Int) (a0_2 : ByteArray) (a0_3 : Int) (a0_4 : Row) : Option R := bif (Pu.laws_toIntS.c a0_4) then (kr a0_0 a0_1 a0_2 a0_3 (Pu.laws_toIntS.v a0_4)) else (none)
def v (a0_0 : Int) (a0_1 : Int) (a0_2 : ByteArray) (a0_3 : Int) (a0_4 : Row) : Int × Int × ByteArray × Int × Row := (a0_0, a0_1, a0_2, a0_3, Pu.laws_toIntS.v a0_4)
def c (a0_0 : Int) (a0_1 : Int) (a0_2 : ByteArray) (a0_3 : Int) (a0_4 : Row) : Bool := Pu.laws_toIntS.c a0_4
theorem b_eq {R : Type} (kr : Int → Int → ByteArray → Int → Row → Option R) (a0_0 : Int) (a0_1 : Int) (a0_2 : ByteArray) (a0_3 : Int) (a0_4 : Row) (hc : c a0_0 a0_1 a0_2 a0_3 a0_4 = true) : b kr a0_0 a0_1 a0_2 a0_3 a0_4 = kr (v a0_0 a0_1 a0_2 a0_3 a0_4).1 (v a0_0 a0_1 a0_2 a0_3 a0_4).2.1 (v a0_0 a0_1 a0_2 a0_3 a0_4).2.2.1 (v a0_0 a0_1 a0_2 a0_3 a0_4).2.2.2.1 (v a0_0 a0_1 a0_2 a0_3 a0_4).2.2.2.2 := by
  unfold c at hc
  unfold b v; rw [hc]; rfl
end Go.FG.Pu.laws_toEvent

namespace Go.FG.Pu.spec_l01In
def b {R : Type} (kr : Bool → Option R) (x0 : Int) (least1 : Int) (most2 : Int) : Option R := bif (decide (x0 ≥ least1)) then (kr (decide (x0 ≤ most2))) else (kr false)
def v (x0 : Int) (least1 : Int) (most2 : Int) : Bool := bif (decide (x0 ≥ least1)) then (((decide (x0 ≤ most2)))) else ((false))
theorem b_eq {R : Type} (kr : Bool → Option R) (x0 : Int) (least1 : Int) (most2 : Int) : b kr x0 least1 most2 = kr (v x0 least1 most2) := by
  first | rfl | (unfold b v; simp only [Bool.cond_eq_ite]; (repeat' split) <;> rfl)
end Go.FG.Pu.spec_l01In

namespace Go.FG.Pu.spec_EventOk
def b {R : Type} (kr : Bool → Option R) (e0_0 : Int) (e0_1 : Int) (e0_2 : ByteArray) (e0_3 : Int) (e0_4 : Row) : Option R := bif (Pu.spec_l01In.v e0_0 1 7) then (bif (Pu.spec_l01In.v e0_1 0 30) then (bif (decide ((↑(ByteArray.size e0_2) : Int) ≤ 60)) then (bif (decide (e0_3 ≥ 0)) then (kr (decide ((↑(List.length e0_4) : Int) ≤ 4))) else (kr false)) else (kr false)) else (kr false)) else (kr false)
def v (e0_0 : Int) (e0_1 : Int) (e0_2 : ByteArray) (e0_3 : Int) (e0_4 : Row) : Bool := bif (Pu.spec_l01In.v e0_0 1 7) then (bif (Pu.spec_l01In.v e0_1 0 30) then (bif (decide ((↑(ByteArray.size e0_2) : Int) ≤ 60)) then (bif (decide (e0_3 ≥ 0)) then (((decide ((↑(List.length e0_4) : Int) ≤ 4)))) else ((false))) else ((false))) else ((false))) else ((false))
theorem b_eq {R : Type} (kr : Bool → Option R) (e0_0 : Int) (e0_1 : Int) (e0_2 : ByteArray) (e0_3 : Int) (e0_4 : Row) : b kr e0_0 e0_1 e0_2 e0_3 e0_4 = kr (v e0_0 e0_1 e0_2 e0_3 e0_4) := by
  first | rfl | (unfold b v; simp only [Bool.cond_eq_ite]; (repeat' split) <;> rfl)
end Go.FG.Pu.spec_EventOk

namespace Go.FG.Pu.impl_within
def b {R : Type} (kr : Bool → Option R) (n0 : Int) (low1 : Int) (high2 : Int) : Option R := bif (decide (n0 ≥ low1)) then (kr (decide (n0 ≤ high2))) else (kr false)
def v (n0 : Int) (low1 : Int) (high2 : Int) : Bool := bif (decide (n0 ≥ low1)) then (((decide (n0 ≤ high2)))) else ((false))
theorem b_eq {R : Type} (kr : Bool → Option R) (n0 : Int) (low1 : Int) (high2 : Int) : b kr n0 low1 high2 = kr (v n0 low1 high2) := by
  first | rfl | (unfold b v; simp only [Bool.cond_eq_ite]; (repeat' split) <;> rfl)
end Go.FG.Pu.impl_within

namespace Go.FG.Pu.impl_EventOk
def b {R : Type} (kr : Bool → Option R) (e0_0 : Int) (e0_1 : Int) (e0_2 : ByteArray) (e0_3 : Int) (e0_4 : Row) : Option R := bif (Pu.impl_within.v e0_0 1 7) then (bif (Pu.impl_within.v e0_1 0 30) then (bif (decide ((↑(ByteArray.size e0_2) : Int) ≤ 60)) then (bif (decide (e0_3 ≥ 0)) then (kr (decide ((↑(List.length e0_4) : Int) ≤ 4))) else (kr false)) else (kr false)) else (kr false)) else (kr false)
def v (e0_0 : Int) (e0_1 : Int) (e0_2 : ByteArray) (e0_3 : Int) (e0_4 : Row) : Bool := bif (Pu.impl_within.v e0_0 1 7) then (bif (Pu.impl_within.v e0_1 0 30) then (bif (decide ((↑(ByteArray.size e0_2) : Int) ≤ 60)) then (bif (decide (e0_3 ≥ 0)) then (((decide ((↑(List.length e0_4) : Int) ≤ 4)))) else ((false))) else ((false))) else ((false))) else ((false))
theorem b_eq {R : Type} (kr : Bool → Option R) (e0_0 : Int) (e0_1 : Int) (e0_2 : ByteArray) (e0_3 : Int) (e0_4 : Row) : b kr e0_0 e0_1 e0_2 e0_3 e0_4 = kr (v e0_0 e0_1 e0_2 e0_3 e0_4) := by
  first | rfl | (unfold b v; simp only [Bool.cond_eq_ite]; (repeat' split) <;> rfl)
end Go.FG.Pu.impl_EventOk

namespace Go.FG.Pu.laws_eqIntS
def r4 {R : Type} (N : Nat) (g : Row → Row → Bool → Int → Option R) (k0 : Row → Row → Bool → Int → Option R) (k1 : Row → Row → Bool → Int → Option R) (x0 : Row) (x1 : Row) (x2 : Bool) (x3 : Int) : Option R := bif (decide (x3 < (↑(List.length x0) : Int))) then (bif (decide (0 ≤ x3) && decide (x3 < (↑(List.length x0) : Int))) then (bif (decide (0 ≤ x3) && decide (x3 < (↑(List.length x1) : Int))) then (bif (cvI (cellAt x0 (Int.toNat x3) 0) != cvI (cellAt x1 (Int.toNat x3) 0)) then (k0 x0 x1 false x3) else (g x0 x1 x2 (w64 (x3 + 1)))) else (none)) else (none)) else (k1 x0 x1 x2 x3)
def l4 {R : Type} (N : Nat) (k0 : Row → Row → Bool → Int → Option R) (k1 : Row → Row → Bool → Int → Option R) : Nat → Row → Row → Bool → Int → Option R
  | 0 => (fun _ _ _ _ => none)
  | n + 1 => (fun x0 x1 x2 x3 => r4 N (l4 N k0 k1 n) k0 k1 x0 x1 x2 x3)
def b {R : Type} (N : Nat) (kr : Bool → Option R) (a0 : Row) (b1 : Row) : Option R := bif ((↑(List.length a0) : Int) != (↑(List.length b1) : Int)) then (kr false) else (l4 N (fun y4 y5 y6 y7 => kr y6) (fun y8 y9 y10 y11 => kr true) N a0 b1 false 0)
def v (a0 : Row) (b1 : Row) : Bool := (a0.length == b1.length) && (List.range a0.length).all fun i => !(cvI (cellAt a0 i 0) != cvI (cellAt b1 i 0))
def fr (a b : Row) (i : Nat) : Bool := (List.range' i (a.length - i)).all fun i => !(cvI (cellAt a i 0) != cvI (cellAt b i 0))
theorem run {R : Type} (N : Nat) (kr : Bool → Option R) (a b : Row) (hl : a.length = b.length) (ha : FitR a) : ∀ n (i : Nat), i ≤ a.length → a.length - i < n → l4 N (fun _ _ y _ => kr y) (fun _ _ _ _ => kr true) n a b false i = kr (fr a b i) := by
  refine Lib.loop_gen (fun n (i : Nat) => l4 N (fun _ _ y _ => kr y) (fun _ _ _ _ => kr true) n a b false i) (fun i => a.length - i) (fun i => i ≤ a.length) (fun i => kr (fr a b i)) (fun n i hi => ?_)
  simp only [l4, r4, Lib.dlt, Lib.dle0, Lib.toN, Bool.true_and]
  by_cases h : i < a.length
  · have e : a.length - i = (a.length - (i + 1)) + 1 := by omega
    have hf : fr a b i = (!(cvI (cellAt a i 0) != cvI (cellAt b i 0)) && fr a b (i + 1)) := by
      unfold fr; rw [e, List.range'_succ, List.all_cons]
    have hb : i < b.length := by omega
    simp only [h, hb, decide_true, cond_true, Lib.w64_s h ha.1]
    cases hv : (cvI (cellAt a i 0) != cvI (cellAt b i 0)) with
    | false => exact .inr ⟨i + 1, h, by omega, by rw [hf, hv]; rfl, rfl⟩
    | true => left; rw [hf, hv]; rfl
  · left
    have : a.length - i = 0 := by omega
    simp only [h, decide_false, cond_false]
    unfold fr; rw [this]; rfl
theorem b_eq {R : Type} (kr : Bool → Option R) (a0 : Row) (b1 : Row) (f0 : FitR a0) (f1 : FitR b1) : ∃ N, b N kr a0 b1 = kr (v a0 b1) := by
  refine ⟨a0.length + 1, ?_⟩
  unfold b v
  by_cases hl : a0.length = b1.length
  · have e : ((a0.length : Int) != (b1.length : Int)) = false := by simp [hl]
    rw [e, cond_false]
    refine (run _ kr a0 b1 hl f0 (a0.length + 1) 0 (by omega) (by omega)).trans ?_
    unfold fr; rw [show (a0.length == b1.length) = true by simp [hl], Nat.sub_zero, ← List.range_eq_range']; rfl
  · have e : ((a0.length : Int) != (b1.length : Int)) = true := by simp; omega
    have e2 : (a0.length == b1.length) = false := by simp; omega
    rw [e, cond_true, e2]; rfl
theorem refl (a : Row) : v a a = true := by unfold v; simp
end Go.FG.Pu.laws_eqIntS

namespace Go.FG.Pu.laws_eqEvent
def b {R : Type} (kr : Bool → Option R) (a0_0 : Int) (a0_1 : Int) (a0_2 : ByteArray) (a0_3 : Int) (a0_4 : Row) (b1_0 : Int) (b1_1 : Int) (b1_2 : ByteArray) (b1_3 : Int) (b1_4 : Row) : Option R := bif (a0_0 != b1_0) then (kr false) else (bif (a0_1 != b1_1) then (kr false) else (bif (!List.beq (ByteArray.toList a0_2) (ByteArray.toList b1_2)) then (kr false) else (bif (a0_3 != b1_3) then (kr false) else (bif (!Pu.laws_eqIntS.v a0_4 b1_4) then (kr false) else (kr true)))))
def v (a0_0 : Int) (a0_1 : Int) (a0_2 : ByteArray) (a0_3 : Int) (a0_4 : Row) (b1_0 : Int) (b1_1 : Int) (b1_2 : ByteArray) (b1_3 : Int) (b1_4 : Row) : Bool := bif (a0_0 != b1_0) then ((false)) else (bif (a0_1 != b1_1) then ((false)) else (bif (!List.beq (ByteArray.toList a0_2) (ByteArray.toList b1_2)) then ((false)) else (bif (a0_3 != b1_3) then ((false)) else (bif (!Pu.laws_eqIntS.v a0_4 b1_4) then ((false)) else ((true))))))
theorem b_eq {R : Type} (kr : Bool → Option R) (a0_0 : Int) (a0_1 : Int) (a0_2 : ByteArray) (a0_3 : Int) (a0_4 : Row) (b1_0 : Int) (b1_1 : Int) (b1_2 : ByteArray) (b1_3 : Int) (b1_4 : Row) : b kr a0_0 a0_1 a0_2 a0_3 a0_4 b1_0 b1_1 b1_2 b1_3 b1_4 = kr (v a0_0 a0_1 a0_2 a0_3 a0_4 b1_0 b1_1 b1_2 b1_3 b1_4) := by
  first | rfl | (unfold b v; simp only [Bool.cond_eq_ite]; (repeat' split) <;> rfl)
theorem refl (x y : Int) (t : ByteArray) (z : Int) (a : Row) : v x y t z a x y t z a = true := by
  unfold v; simp [Lib.beq_self, Pu.laws_eqIntS.refl]
end Go.FG.Pu.laws_eqEvent

namespace Go.FG.Pu.laws_FnExactEventOk
def b {R : Type} (kr : Bool → Option R) (aE0_0 : Int) (aE0_1 : Int) (aE0_2 : ByteArray) (aE0_3 : Int) (aE0_4 : Row) : Option R := bif (decide (Pu.laws_szEvent.v aE0_0 aE0_1 aE0_2 aE0_3 aE0_4 1048576 < 0)) then (kr true) else (bif (Pu.laws_toEvent.c aE0_0 aE0_1 aE0_2 aE0_3 aE0_4) then (bif (Pu.laws_toEvent.c aE0_0 aE0_1 aE0_2 aE0_3 aE0_4) then (bif (!decide (Pu.impl_EventOk.v aE0_0 aE0_1 aE0_2 aE0_3 (Pu.laws_toIntS.v aE0_4) = Pu.spec_EventOk.v aE0_0 aE0_1 aE0_2 aE0_3 (Pu.laws_toIntS.v aE0_4))) then (kr false) else (bif (Pu.laws_toEvent.c aE0_0 aE0_1 aE0_2 aE0_3 aE0_4) then (bif (!Pu.laws_eqEvent.v aE0_0 aE0_1 aE0_2 aE0_3 (Pu.laws_toIntS.v aE0_4) aE0_0 aE0_1 aE0_2 aE0_3 (Pu.laws_toIntS.v aE0_4)) then (kr false) else (kr true)) else (none))) else (none)) else (none))
def v (aE0_0 : Int) (aE0_1 : Int) (aE0_2 : ByteArray) (aE0_3 : Int) (aE0_4 : Row) : Bool := true
theorem b_eq {R : Type} (kr : Bool → Option R) (aE0_0 : Int) (aE0_1 : Int) (aE0_2 : ByteArray) (aE0_3 : Int) (aE0_4 : Row) (f0 : okS aE0_2) (f1 : FitR aE0_4) : b kr aE0_0 aE0_1 aE0_2 aE0_3 aE0_4 = kr (v aE0_0 aE0_1 aE0_2 aE0_3 aE0_4) := by
  unfold b v
  cases h : decide (Pu.laws_szEvent.v aE0_0 aE0_1 aE0_2 aE0_3 aE0_4 1048576 < 0) with
  | true => rfl
  | false =>
    have hs := Pu.laws_szEvent.fits (by omega) (by omega) f0 f1 h
    have hc : Pu.laws_toEvent.c aE0_0 aE0_1 aE0_2 aE0_3 aE0_4 = true := decide_eq_true hs.2
    have e : ∀ a b c d l, Pu.impl_EventOk.v a b c d l = Pu.spec_EventOk.v a b c d l := fun _ _ _ _ _ => rfl
    simp only [hc, e, cond_true, cond_false, Pu.laws_eqEvent.refl, decide_true, Bool.not_true]
theorem law (a b : Int) (t : ByteArray) (n : Int) (l : Row) {A B C D E : Prop} (_ : A) (_ : B) (_ : C) (_ : D) (_ : E) : v a b t n l = true := rfl
end Go.FG.Pu.laws_FnExactEventOk

