/- Functions of the program, told as functions of numbers, texts and lists, and what each comes to. No condition but those that each states. -/
import Derived.Test.YticmocblmmahkaaLib
set_option linter.unusedVariables false
set_option linter.unusedSimpArgs false
set_option maxRecDepth 100000
namespace Go.FG.Pu.laws_szReaderS
def b {R : Type} (kr : Int → Option R) (a0 : Row) (left1 : Int) : Option R := bif (decide (w64 (left1 - (↑(List.length a0) : Int)) < 0)) then (kr (-1)) else (kr (w64 (left1 - (↑(List.length a0) : Int))))
def v (a0 : Row) (left1 : Int) : Int := bif (decide (w64 (left1 - (↑(List.length a0) : Int)) < 0)) then (((-1))) else (((w64 (left1 - (↑(List.length a0) : Int)))))
theorem b_eq {R : Type} (kr : Int → Option R) (a0 : Row) (left1 : Int) : b kr a0 left1 = kr (v a0 left1) := by
  first | rfl | (unfold b v; simp only [Bool.cond_eq_ite]; (repeat' split) <;> rfl)
theorem fits {a : Row} {L : Int} (h0 : 0 ≤ L) (h1 : L ≤ 1048576) (ha : FitR a) (h : decide (v a L < 0) = false) : a.length ≤ 1048576 ∧ v a L = L - a.length := by
  have e := Lib.sub_len h0 h1 ha.1
  unfold v at h ⊢
  rw [e] at h ⊢
  by_cases hc : L - (a.length : Int) < 0
  · rw [decide_eq_true hc] at h; cases h
  · rw [decide_eq_false hc]; exact ⟨by omega, rfl⟩
end Go.FG.Pu.laws_szReaderS

namespace Go.FG.Pu.laws_szStream
def b {R : Type} (kr : Int → Option R) (a0_0 : Int) (a0_1 : ByteArray) (a0_2 : Row) (left1 : Int) : Option R := bif (decide (w64 (left1 - (↑(ByteArray.size a0_1) : Int)) < 0)) then (kr (-1)) else (bif (decide (Pu.laws_szReaderS.v a0_2 (w64 (left1 - (↑(ByteArray.size a0_1) : Int))) < 0)) then (kr (-1)) else (kr (Pu.laws_szReaderS.v a0_2 (w64 (left1 - (↑(ByteArray.size a0_1) : Int))))))
def v (a0_0 : Int) (a0_1 : ByteArray) (a0_2 : Row) (left1 : Int) : Int := bif (decide (w64 (left1 - (↑(ByteArray.size a0_1) : Int)) < 0)) then (((-1))) else (bif (decide (Pu.laws_szReaderS.v a0_2 (w64 (left1 - (↑(ByteArray.size a0_1) : Int))) < 0)) then (((-1))) else (((Pu.laws_szReaderS.v a0_2 (w64 (left1 - (↑(ByteArray.size a0_1) : Int)))))))
theorem b_eq {R : Type} (kr : Int → Option R) (a0_0 : Int) (a0_1 : ByteArray) (a0_2 : Row) (left1 : Int) : b kr a0_0 a0_1 a0_2 left1 = kr (v a0_0 a0_1 a0_2 left1) := by
  first | rfl | (unfold b v; simp only [Bool.cond_eq_ite]; (repeat' split) <;> rfl)
theorem fits {s : Int} {t : ByteArray} {a : Row} {L : Int} (h0 : 0 ≤ L) (h1 : L ≤ 1048576) (ht : okS t) (ha : FitR a) (h : decide (v s t a L < 0) = false) : t.size ≤ 1048576 ∧ a.length ≤ 1048576 := by
  have e := Lib.sub_len h0 h1 (Nat.le_trans ht (by omega))
  unfold v at h
  rw [e] at h
  by_cases hc : L - (t.size : Int) < 0
  · rw [decide_eq_true hc] at h; cases h
  · rw [decide_eq_false hc, cond_false] at h
    cases h2 : decide (Pu.laws_szReaderS.v a (L - t.size) < 0) with
    | true => rw [h2] at h; cases h
    | false => exact ⟨by omega, (Pu.laws_szReaderS.fits (by omega) (by omega) ha h2).1⟩
end Go.FG.Pu.laws_szStream

namespace Go.FG.Pu.laws_toReader
def b {R : Type} (kr : Int → Int → Option R) (a0_0 : Int) (a0_1 : Int) : Option R := kr a0_0 a0_1
def v (a0_0 : Int) (a0_1 : Int) : Int × Int := (a0_0, a0_1)
theorem b_eq {R : Type} (kr : Int → Int → Option R) (a0_0 : Int) (a0_1 : Int) : b kr a0_0 a0_1 = kr ((v a0_0 a0_1).1) ((v a0_0 a0_1).2) := by
  first | rfl | (unfold b v; simp only [Bool.cond_eq_ite]; (repeat' split) <;> rfl)
end Go.FG.Pu.laws_toReader

namespace Go.FG.Pu.laws_toReaderS
def r3 {R : Type} (N : Nat) (g : Row → Int → Row → Option R) (k0 : Row → Int → Row → Option R) (x0 : Row) (x1 : Int) (x2 : Row) : Option R := bif (decide (x1 < (↑(List.length x0) : Int))) then (bif (decide (0 ≤ x1) && decide (x1 < (↑(List.length x0) : Int))) then (bif (decide (0 ≤ x1) && decide (x1 < (↑(List.length x2) : Int))) then (g x0 (w64 (x1 + 1)) (setC x2 (Int.toNat x1) 0 [CV.i IntKind.i64 (cvI (cellAt x0 (Int.toNat x1) 0)), CV.i IntKind.i64 (cvI (cellAt x0 (Int.toNat x1) 1))])) else (none)) else (none)) else (k0 x0 x1 x2)
def l3 {R : Type} (N : Nat) (k0 : Row → Int → Row → Option R) : Nat → Row → Int → Row → Option R
  | 0 => (fun _ _ _ => none)
  | n + 1 => (fun x0 x1 x2 => r3 N (l3 N k0 n) k0 x0 x1 x2)
def b {R : Type} (N : Nat) (kr : Row → Option R) (a0 : Row) : Option R := bif (decide ((↑(List.length a0) : Int) = (↑(List.length a0) : Int)) && roomy (Int.toNat (↑(List.length a0) : Int)) 16) then (l3 N (fun y3 y4 y5 => kr y5) N a0 0 (zeros [Ck.i IntKind.i64, Ck.i IntKind.i64] (Int.toNat (↑(List.length a0) : Int)))) else (none)
/-- The rows' numbers, one for one. -/
def v (a0 : Row) : Row := a0.map fun y => [CV.i IntKind.i64 (cvI (y.getD 0 (.b false))), CV.i IntKind.i64 (cvI (y.getD 1 (.b false)))]
def c (a0 : Row) : Bool := decide (a0.length ≤ 1048576)
theorem b_eq {R : Type} (kr : Row → Option R) (a0 : Row) (hc : c a0 = true) : ∃ N, b N kr a0 = kr (v a0) := by
  have hl : a0.length ≤ 1048576 := of_decide_eq_true hc
  refine ⟨a0.length + 1, ?_⟩
  unfold b
  rw [show decide ((a0.length : Int) = (a0.length : Int)) = true by simp, Lib.toN, Lib.roomy_of (by omega) (by omega), Bool.and_self, cond_true]
  refine Lib.fill_run (ks := [Ck.i IntKind.i64, Ck.i IntKind.i64]) (v a0) a0.length (by unfold v; simp) (fun y hy => ?_) (fun m (i : Nat) x => l3 (a0.length + 1) (fun _ _ y => kr y) m a0 i x) kr (fun m => ?_) (fun m i hi x hx => ?_)
  · unfold v at hy; obtain ⟨z, _, rfl⟩ := List.mem_map.1 hy; rfl
  · simp only [l3, r3, Lib.dlt, Nat.lt_irrefl, decide_false, cond_false]
  · have hi2 : i < x.length := by omega
    have e : (v a0).getD i [] = [CV.i IntKind.i64 (cvI (cellAt a0 i 0)), CV.i IntKind.i64 (cvI (cellAt a0 i 1))] := by
      unfold v; simp [List.getD, hi, cellAt]
    simp only [l3, r3, Lib.dlt, Lib.dle0, Lib.toN, hi, hi2, decide_true, Bool.true_and, cond_true, Lib.w64_s hi (by omega), e]
end Go.FG.Pu.laws_toReaderS

namespace Go.FG.Pu.laws_toStream
def b {R : Type} (kr : Int → ByteArray → Row → Option R) (a0_0 : Int) (a0_1 : ByteArray) (a0_2 : Row) : Option R := bif (Pu.laws_toReaderS.c a0_2) then (kr a0_0 a0_1 (Pu.laws_toReaderS.v a0_2)) else (none)
def v (a0_0 : Int) (a0_1 : ByteArray) (a0_2 : Row) : Int × ByteArray × Row := (a0_0, a0_1, Pu.laws_toReaderS.v a0_2)
def c (a0_0 : Int) (a0_1 : ByteArray) (a0_2 : Row) : Bool := Pu.laws_toReaderS.c a0_2
theorem b_eq {R : Type} (kr : Int → ByteArray → Row → Option R) (a0_0 : Int) (a0_1 : ByteArray) (a0_2 : Row) (hc : c a0_0 a0_1 a0_2 = true) : b kr a0_0 a0_1 a0_2 = kr (v a0_0 a0_1 a0_2).1 (v a0_0 a0_1 a0_2).2.1 (v a0_0 a0_1 a0_2).2.2 := by
  unfold c at hc
  unfold b v; rw [hc]; rfl
end Go.FG.Pu.laws_toStream

namespace Go.FG.Pu.spec_l14Copy
def b {R : Type} (kr : Int → ByteArray → Row → Option R) (s0_0 : Int) (s0_1 : ByteArray) (s0_2 : Row) : Option R := bif (roomy (List.length (zeros [Ck.i IntKind.i64, Ck.i IntKind.i64] 0) + List.length s0_2) 16) then (kr s0_0 s0_1 (zeros [Ck.i IntKind.i64, Ck.i IntKind.i64] 0 ++ s0_2)) else (none)
def v (s0_0 : Int) (s0_1 : ByteArray) (s0_2 : Row) : Int × ByteArray × Row := (s0_0, s0_1, s0_2)
def c (s0_0 : Int) (s0_1 : ByteArray) (s0_2 : Row) : Bool := decide (s0_2.length ≤ 4294967296)
theorem b_eq {R : Type} (kr : Int → ByteArray → Row → Option R) (s0_0 : Int) (s0_1 : ByteArray) (s0_2 : Row) (hc : c s0_0 s0_1 s0_2 = true) : b kr s0_0 s0_1 s0_2 = kr (v s0_0 s0_1 s0_2).1 (v s0_0 s0_1 s0_2).2.1 (v s0_0 s0_1 s0_2).2.2 := by
  have h : s0_2.length ≤ 4294967296 := of_decide_eq_true hc
  unfold b
  rw [show List.length (zeros [Ck.i IntKind.i64, Ck.i IntKind.i64] 0) + s0_2.length = s0_2.length by simp [zeros], Lib.roomy_of (by omega) (by omega)]
  rfl
end Go.FG.Pu.spec_l14Copy

namespace Go.FG.Pu.spec_l01In
def b {R : Type} (kr : Bool → Option R) (x0 : Int) (least1 : Int) (most2 : Int) : Option R := bif (decide (x0 ≥ least1)) then (kr (decide (x0 ≤ most2))) else (kr false)
def v (x0 : Int) (least1 : Int) (most2 : Int) : Bool := bif (decide (x0 ≥ least1)) then (((decide (x0 ≤ most2)))) else ((false))
theorem b_eq {R : Type} (kr : Bool → Option R) (x0 : Int) (least1 : Int) (most2 : Int) : b kr x0 least1 most2 = kr (v x0 least1 most2) := by
  first | rfl | (unfold b v; simp only [Bool.cond_eq_ite]; (repeat' split) <;> rfl)
end Go.FG.Pu.spec_l01In

namespace Go.FG.Pu.spec_StreamOk
def r2 {R : Type} (N : Nat) (g : Bool → Int → Int → ByteArray → Row → Option R) (k0 : Bool → Int → Int → ByteArray → Row → Option R) (k1 : Bool → Int → Int → ByteArray → Row → Option R) (x0 : Bool) (x1 : Int) (x2 : Int) (x3 : ByteArray) (x4 : Row) : Option R := bif (decide (x1 < (↑(List.length x4) : Int))) then (bif (decide (0 ≤ x1) && decide (x1 < (↑(List.length x4) : Int))) then (bif (!Pu.spec_l01In.v (cvI (cellAt x4 (Int.toNat x1) 0)) 1 9) then (k0 false x1 x2 x3 x4) else (bif (decide (x1 > 0)) then (bif (decide (0 ≤ w64 (x1 - 1)) && decide (w64 (x1 - 1) < (↑(List.length x4) : Int))) then (bif (decide (cvI (cellAt x4 (Int.toNat (w64 (x1 - 1))) 0) ≥ cvI (cellAt x4 (Int.toNat x1) 0))) then (k0 false x1 x2 x3 x4) else (bif (!Pu.spec_l01In.v (cvI (cellAt x4 (Int.toNat x1) 1)) 0 (↑(ByteArray.size x3) : Int)) then (k0 false x1 x2 x3 x4) else (g x0 (w64 (x1 + 1)) x2 x3 x4))) else (none)) else (bif (!Pu.spec_l01In.v (cvI (cellAt x4 (Int.toNat x1) 1)) 0 (↑(ByteArray.size x3) : Int)) then (k0 false x1 x2 x3 x4) else (g x0 (w64 (x1 + 1)) x2 x3 x4)))) else (none)) else (k1 x0 x1 x2 x3 x4)
def l2 {R : Type} (N : Nat) (k0 : Bool → Int → Int → ByteArray → Row → Option R) (k1 : Bool → Int → Int → ByteArray → Row → Option R) : Nat → Bool → Int → Int → ByteArray → Row → Option R
  | 0 => (fun _ _ _ _ _ => none)
  | n + 1 => (fun x0 x1 x2 x3 x4 => r2 N (l2 N k0 k1 n) k0 k1 x0 x1 x2 x3 x4)
def b {R : Type} (N : Nat) (kr : Bool → Option R) (s0_0 : Int) (s0_1 : ByteArray) (s0_2 : Row) : Option R := l2 N (fun y5 y6 y7 y8 y9 => kr y5) (fun y10 y11 y12 y13 y14 => bif (Pu.spec_l01In.v y12 1 3) then (bif (decide ((↑(ByteArray.size y13) : Int) ≤ 400)) then (kr (decide ((↑(List.length y14) : Int) ≤ 6))) else (kr false)) else (kr false)) N false 0 s0_0 s0_1 s0_2
def el (t : ByteArray) (rs : Row) (i : Nat) : Bool := decide (1 ≤ cvI (cellAt rs i 0) ∧ cvI (cellAt rs i 0) ≤ 9) && (decide (0 ≤ cvI (cellAt rs i 1) ∧ cvI (cellAt rs i 1) ≤ t.size) && (i == 0 || decide (cvI (cellAt rs (i - 1) 0) < cvI (cellAt rs i 0))))
def rest (st : Int) (t : ByteArray) (rs : Row) : Bool := decide (1 ≤ st ∧ st ≤ 3) && (decide (t.size ≤ 400) && decide (rs.length ≤ 6))
def v (s0_0 : Int) (s0_1 : ByteArray) (s0_2 : Row) : Bool := (List.range s0_2.length).all (el s0_1 s0_2) && rest s0_0 s0_1 s0_2
theorem in_eq (n a b : Int) : Pu.spec_l01In.v n a b = decide (a ≤ n ∧ n ≤ b) := by
  unfold Pu.spec_l01In.v
  by_cases h : a ≤ n <;> by_cases h2 : n ≤ b <;> simp [h, h2]
theorem rest_eq (st : Int) (t : ByteArray) (rs : Row) {R : Type} (kr : Bool → Option R) : (bif (Pu.spec_l01In.v st 1 3) then (bif (decide ((↑(ByteArray.size t) : Int) ≤ 400)) then (kr (decide ((↑(List.length rs) : Int) ≤ 6))) else (kr false)) else (kr false)) = kr (rest st t rs) := by
  unfold rest
  rw [in_eq]
  have e1 : decide ((t.size : Int) ≤ 400) = decide (t.size ≤ 400) := by rw [decide_eq_decide]; omega
  have e2 : decide ((rs.length : Int) ≤ 6) = decide (rs.length ≤ 6) := by rw [decide_eq_decide]; omega
  rw [e1, e2]
  cases decide (1 ≤ st ∧ st ≤ 3) <;> cases decide (t.size ≤ 400) <;> rfl
theorem w64_p {i : Nat} (h : 0 < i) (hn : i ≤ 9223372036854775807) : w64 ((i : Int) - 1) = ((i - 1 : Nat) : Int) := by
  rw [w64_eq (by omega) (by omega)]; omega
theorem all_from (p : Nat → Bool) {i n : Nat} (h : i < n) : (List.range' i (n - i)).all p = (p i && (List.range' (i + 1) (n - (i + 1))).all p) := by
  rw [show n - i = (n - (i + 1)) + 1 by omega, List.range'_succ, List.all_cons]
theorem b_eq {R : Type} (kr : Bool → Option R) (s0_0 : Int) (s0_1 : ByteArray) (s0_2 : Row) (f0 : okS s0_1) (f1 : FitR s0_2) : ∃ N, b N kr s0_0 s0_1 s0_2 = kr (v s0_0 s0_1 s0_2) := by
  refine ⟨s0_2.length + 1, ?_⟩
  unfold b
  simp only [rest_eq]
  have := Lib.loop_gen (fun n (i : Nat) => l2 (s0_2.length + 1) (fun y5 y6 y7 y8 y9 => kr y5) (fun y10 y11 y12 y13 y14 => kr (rest y12 y13 y14)) n false i s0_0 s0_1 s0_2) (fun i => s0_2.length - i) (fun i => i ≤ s0_2.length)
    (fun i => kr ((List.range' i (s0_2.length - i)).all (el s0_1 s0_2) && rest s0_0 s0_1 s0_2)) (fun n i hi => by
    simp only [l2, r2, Lib.dlt, Lib.dle0, Lib.toN, Bool.true_and, in_eq]
    by_cases h : i < s0_2.length
    · rw [all_from _ h]
      simp only [h, decide_true, cond_true, Lib.w64_s h f1.1]
      cases h1 : decide (1 ≤ cvI (cellAt s0_2 i 0) ∧ cvI (cellAt s0_2 i 0) ≤ 9) with
      | false => left; simp [el, h1]
      | true =>
        simp only [Bool.not_true, cond_false]
        by_cases hz : 0 < i
        · have e0 : decide ((i : Int) > 0) = true := by simp; omega
          have hp : i - 1 < s0_2.length := by omega
          have hi0 : (i == 0) = false := by simp; omega
          simp only [e0, cond_true, w64_p hz (by have := f1.1; omega), Lib.dle0, Lib.dlt, Lib.toN, hp, decide_true, Bool.and_self]
          cases h2 : decide (cvI (cellAt s0_2 (i - 1) 0) ≥ cvI (cellAt s0_2 i 0)) with
          | true =>
            left
            have e3 : decide (cvI (cellAt s0_2 (i - 1) 0) < cvI (cellAt s0_2 i 0)) = false := by simp at h2 ⊢; omega
            simp [el, e3, hi0]
          | false =>
            have e3 : decide (cvI (cellAt s0_2 (i - 1) 0) < cvI (cellAt s0_2 i 0)) = true := by simp at h2 ⊢; omega
            cases h3 : decide (0 ≤ cvI (cellAt s0_2 i 1) ∧ cvI (cellAt s0_2 i 1) ≤ s0_1.size) with
            | false => left; simp [el, h3]
            | true => right; exact ⟨i + 1, h, by omega, by simp only [el, h1, h3, e3, Bool.or_true, Bool.true_and], rfl⟩
        · have hz : i = 0 := by omega
          subst hz
          simp only [show decide (((0 : Nat) : Int) > 0) = false from rfl, cond_false]
          cases h3 : decide (0 ≤ cvI (cellAt s0_2 0 1) ∧ cvI (cellAt s0_2 0 1) ≤ s0_1.size) with
          | false => left; simp [el, h3]
          | true => right; exact ⟨1, h, by omega, by simp only [el, h1, h3, Bool.true_and]; rfl, rfl⟩
    · left
      have h0 : s0_2.length - i = 0 := by omega
      simp only [h, decide_false, cond_false, h0, List.range'_zero, List.all_nil, Bool.true_and]) (s0_2.length + 1) 0 (by omega) (by omega)
  refine this.trans ?_
  unfold v
  rw [Nat.sub_zero, ← List.range_eq_range']
theorem facts {st : Int} {t : ByteArray} {rs : Row} (h : v st t rs = true) : (∀ i, i < rs.length → 0 ≤ cvI (cellAt rs i 1) ∧ cvI (cellAt rs i 1) ≤ t.size) ∧ t.size ≤ 400 ∧ rs.length ≤ 6 := by
  unfold v rest at h
  simp only [Bool.and_eq_true, List.all_eq_true, List.mem_range, decide_eq_true_eq] at h
  obtain ⟨h1, h2, h3, h4⟩ := h
  refine ⟨fun i hi => ?_, h3, h4⟩
  have := h1 i hi
  unfold el at this
  simp only [Bool.and_eq_true, decide_eq_true_eq] at this
  exact this.2.1
end Go.FG.Pu.spec_StreamOk

namespace Go.FG.Pu.spec_l14At
def r2 {R : Type} (N : Nat) (g : Int → Int → Int → Int → ByteArray → Row → Option R) (k0 : Int → Int → Int → Int → ByteArray → Row → Option R) (k1 : Int → Int → Int → Int → ByteArray → Row → Option R) (x0 : Int) (x1 : Int) (x2 : Int) (x3 : Int) (x4 : ByteArray) (x5 : Row) : Option R := bif (decide (x2 < (↑(List.length x5) : Int))) then (bif (decide (0 ≤ x2) && decide (x2 < (↑(List.length x5) : Int))) then (bif (decide (cvI (cellAt x5 (Int.toNat x2) 0) = x0)) then (k0 x0 x2 x2 x3 x4 x5) else (g x0 x1 (w64 (x2 + 1)) x3 x4 x5)) else (none)) else (k1 x0 x1 x2 x3 x4 x5)
def l2 {R : Type} (N : Nat) (k0 : Int → Int → Int → Int → ByteArray → Row → Option R) (k1 : Int → Int → Int → Int → ByteArray → Row → Option R) : Nat → Int → Int → Int → Int → ByteArray → Row → Option R
  | 0 => (fun _ _ _ _ _ _ => none)
  | n + 1 => (fun x0 x1 x2 x3 x4 x5 => r2 N (l2 N k0 k1 n) k0 k1 x0 x1 x2 x3 x4 x5)
def b {R : Type} (N : Nat) (kr : Int → Option R) (s0_0 : Int) (s0_1 : ByteArray) (s0_2 : Row) (id1 : Int) : Option R := l2 N (fun y6 y7 y8 y9 y10 y11 => kr y7) (fun y12 y13 y14 y15 y16 y17 => kr (-1)) N id1 0 0 s0_0 s0_1 s0_2
def v (s0_0 : Int) (s0_1 : ByteArray) (s0_2 : Row) (id1 : Int) : Int := Lib.fi (fun i => decide (cvI (cellAt s0_2 i 0) = id1)) s0_2.length 0
theorem b_eq {R : Type} (kr : Int → Option R) (s0_0 : Int) (s0_1 : ByteArray) (s0_2 : Row) (id1 : Int) (f0 : okS s0_1) (f1 : FitR s0_2) : ∃ N, b N kr s0_0 s0_1 s0_2 id1 = kr (v s0_0 s0_1 s0_2 id1) := by
  refine ⟨s0_2.length + 1, ?_⟩
  refine Lib.fi_run (fun i => decide (cvI (cellAt s0_2 i 0) = id1)) s0_2.length (fun m i => l2 (s0_2.length + 1) (fun y6 y7 y8 y9 y10 y11 => kr y7) (fun y12 y13 y14 y15 y16 y17 => kr (-1)) m id1 0 i s0_0 s0_1 s0_2) kr (fun m i hi hp => ?_) (fun m i hi hp => ?_) (fun m => ?_)
  · simp only [l2, r2, Lib.dlt, Lib.dle0, Lib.toN, hi, decide_true, Bool.true_and, cond_true, hp]
  · simp only [l2, r2, Lib.dlt, Lib.dle0, Lib.toN, hi, decide_true, Bool.true_and, cond_true, hp, cond_false, Lib.w64_s hi f1.1]
  · simp only [l2, r2, Lib.dlt, Nat.lt_irrefl, decide_false, cond_false]
end Go.FG.Pu.spec_l14At

namespace Go.FG.Pu.spec_StreamJoin
def r10 {R : Type} (N : Nat) (g : Int → Int → Int → ByteArray → Row → Int → ByteArray → Int → ByteArray → Row → Row → Option R) (k0 : Int → Int → Int → ByteArray → Row → Int → ByteArray → Int → ByteArray → Row → Row → Option R) (x22 : Int) (x23 : Int) (x24 : Int) (x25 : ByteArray) (x26 : Row) (x27 : Int) (x28 : ByteArray) (x29 : Int) (x30 : ByteArray) (x31 : Row) (x32 : Row) : Option R := bif (decide (x23 < (↑(List.length x26) : Int))) then (bif (decide (0 ≤ x23) && decide (x23 < (↑(List.length x26) : Int))) then (bif (decide (cvI (cellAt x26 (Int.toNat x23) 0) > x22)) then (bif (decide (0 ≤ x23) && decide (x23 < (↑(List.length x26) : Int))) then (bif (roomy (List.length x31 + List.length (List.set (zeros [Ck.i IntKind.i64, Ck.i IntKind.i64] 1) 0 [CV.i IntKind.i64 (cvI (cellAt x26 (Int.toNat x23) 0)), CV.i IntKind.i64 (cvI (cellAt x26 (Int.toNat x23) 1))])) 16) then (g x22 (w64 (x23 + 1)) x24 x25 x26 x27 x28 x29 x30 (x31 ++ List.set (zeros [Ck.i IntKind.i64, Ck.i IntKind.i64] 1) 0 [CV.i IntKind.i64 (cvI (cellAt x26 (Int.toNat x23) 0)), CV.i IntKind.i64 (cvI (cellAt x26 (Int.toNat x23) 1))]) x32) else (none)) else (none)) else (g x22 (w64 (x23 + 1)) x24 x25 x26 x27 x28 x29 x30 x31 x32)) else (none)) else (k0 x22 x23 x24 x25 x26 x27 x28 x29 x30 x31 x32)
def l10 {R : Type} (N : Nat) (k0 : Int → Int → Int → ByteArray → Row → Int → ByteArray → Int → ByteArray → Row → Row → Option R) : Nat → Int → Int → Int → ByteArray → Row → Int → ByteArray → Int → ByteArray → Row → Row → Option R
  | 0 => (fun _ _ _ _ _ _ _ _ _ _ _ => none)
  | n + 1 => (fun x22 x23 x24 x25 x26 x27 x28 x29 x30 x31 x32 => r10 N (l10 N k0 n) k0 x22 x23 x24 x25 x26 x27 x28 x29 x30 x31 x32)
def r4 {R : Type} (N : Nat) (g : Int → Int → Int → ByteArray → Row → Int → ByteArray → Int → ByteArray → Row → Row → Option R) (k0 : Int → Int → Int → ByteArray → Row → Int → ByteArray → Int → ByteArray → Row → Row → Option R) (x0 : Int) (x1 : Int) (x2 : Int) (x3 : ByteArray) (x4 : Row) (x5 : Int) (x6 : ByteArray) (x7 : Int) (x8 : ByteArray) (x9 : Row) (x10 : Row) : Option R := bif (decide (x1 < (↑(List.length x4) : Int))) then (bif (decide (0 ≤ x1) && decide (x1 < (↑(List.length x4) : Int))) then (bif (decide (cvI (cellAt x4 (Int.toNat x1) 0) < x0)) then (bif (decide (0 ≤ x1) && decide (x1 < (↑(List.length x4) : Int))) then (bif (roomy (List.length x9 + List.length (List.set (zeros [Ck.i IntKind.i64, Ck.i IntKind.i64] 1) 0 [CV.i IntKind.i64 (cvI (cellAt x4 (Int.toNat x1) 0)), CV.i IntKind.i64 (cvI (cellAt x4 (Int.toNat x1) 1))])) 16) then (g x0 (w64 (x1 + 1)) x2 x3 x4 x5 x6 x7 x8 (x9 ++ List.set (zeros [Ck.i IntKind.i64, Ck.i IntKind.i64] 1) 0 [CV.i IntKind.i64 (cvI (cellAt x4 (Int.toNat x1) 0)), CV.i IntKind.i64 (cvI (cellAt x4 (Int.toNat x1) 1))]) x10) else (none)) else (none)) else (g x0 (w64 (x1 + 1)) x2 x3 x4 x5 x6 x7 x8 x9 x10)) else (none)) else (k0 x0 x1 x2 x3 x4 x5 x6 x7 x8 x9 x10)
def l4 {R : Type} (N : Nat) (k0 : Int → Int → Int → ByteArray → Row → Int → ByteArray → Int → ByteArray → Row → Row → Option R) : Nat → Int → Int → Int → ByteArray → Row → Int → ByteArray → Int → ByteArray → Row → Row → Option R
  | 0 => (fun _ _ _ _ _ _ _ _ _ _ _ => none)
  | n + 1 => (fun x0 x1 x2 x3 x4 x5 x6 x7 x8 x9 x10 => r4 N (l4 N k0 n) k0 x0 x1 x2 x3 x4 x5 x6 x7 x8 x9 x10)
def b {R : Type} (N : Nat) (kr : Int → ByteArray → Row → Bool → Option R) (s0_0 : Int) (s0_1 : ByteArray) (s0_2 : Row) (id1 : Int) : Option R := bif (Pu.spec_l14Copy.c s0_0 s0_1 s0_2) then (l4 N (fun y11 y12 y13 y14 y15 y16 y17 y18 y19 y20 y21 => bif (roomy (List.length y20 + List.length (List.set (zeros [Ck.i IntKind.i64, Ck.i IntKind.i64] 1) 0 [CV.i IntKind.i64 y11, CV.i IntKind.i64 0])) 16) then (l10 N (fun y33 y34 y35 y36 y37 y38 y39 y40 y41 y42 y43 => bif (!Pu.spec_StreamOk.v y35 y36 y37) then (kr y40 y41 y43 false) else (bif (decide (Pu.spec_l14At.v y35 y36 y37 y33 ≥ 0)) then (kr y40 y41 y43 false) else (bif (!Pu.spec_StreamOk.v y35 y36 y42) then (kr y40 y41 y43 false) else (kr y35 y36 y42 true)))) N y11 0 y13 y14 y15 y16 y17 y18 y19 (y20 ++ List.set (zeros [Ck.i IntKind.i64, Ck.i IntKind.i64] 1) 0 [CV.i IntKind.i64 y11, CV.i IntKind.i64 0]) y21) else (none)) N id1 0 s0_0 s0_1 s0_2 0 ({ data := #[] }) s0_0 s0_1 (zeros [Ck.i IntKind.i64, Ck.i IntKind.i64] 0) s0_2) else (none)
theorem q10_bind {R S : Type} (f : R → Option S) (N : Nat) (k0 : Int → Int → Int → ByteArray → Row → Int → ByteArray → Int → ByteArray → Row → Row → Option R) : ∀ n : Nat, (∀ (x22 : Int) (x23 : Int) (x24 : Int) (x25 : ByteArray) (x26 : Row) (x27 : Int) (x28 : ByteArray) (x29 : Int) (x30 : ByteArray) (x31 : Row) (x32 : Row), Option.bind (l10 N k0 n x22 x23 x24 x25 x26 x27 x28 x29 x30 x31 x32) f = l10 N (fun y0 y1 y2 y3 y4 y5 y6 y7 y8 y9 y10 => (Option.bind (k0 y0 y1 y2 y3 y4 y5 y6 y7 y8 y9 y10) f)) n x22 x23 x24 x25 x26 x27 x28 x29 x30 x31 x32) := by
  intro n
  induction n with
  | zero => exact (fun _ _ _ _ _ _ _ _ _ _ _ => rfl)
  | succ n ih =>
    intro x22 x23 x24 x25 x26 x27 x28 x29 x30 x31 x32
    simp only [l10, r10, Lib.cond_bind, Lib.some_bind, Lib.none_bind, ih]
theorem l10_bind {R S : Type} (f : R → Option S) (N : Nat) (k0 : Int → Int → Int → ByteArray → Row → Int → ByteArray → Int → ByteArray → Row → Row → Option R) (n : Nat) (x22 : Int) (x23 : Int) (x24 : Int) (x25 : ByteArray) (x26 : Row) (x27 : Int) (x28 : ByteArray) (x29 : Int) (x30 : ByteArray) (x31 : Row) (x32 : Row) : Option.bind (l10 N k0 n x22 x23 x24 x25 x26 x27 x28 x29 x30 x31 x32) f = l10 N (fun y0 y1 y2 y3 y4 y5 y6 y7 y8 y9 y10 => (Option.bind (k0 y0 y1 y2 y3 y4 y5 y6 y7 y8 y9 y10) f)) n x22 x23 x24 x25 x26 x27 x28 x29 x30 x31 x32 := (q10_bind f N k0 n) x22 x23 x24 x25 x26 x27 x28 x29 x30 x31 x32
theorem q4_bind {R S : Type} (f : R → Option S) (N : Nat) (k0 : Int → Int → Int → ByteArray → Row → Int → ByteArray → Int → ByteArray → Row → Row → Option R) : ∀ n : Nat, (∀ (x0 : Int) (x1 : Int) (x2 : Int) (x3 : ByteArray) (x4 : Row) (x5 : Int) (x6 : ByteArray) (x7 : Int) (x8 : ByteArray) (x9 : Row) (x10 : Row), Option.bind (l4 N k0 n x0 x1 x2 x3 x4 x5 x6 x7 x8 x9 x10) f = l4 N (fun y0 y1 y2 y3 y4 y5 y6 y7 y8 y9 y10 => (Option.bind (k0 y0 y1 y2 y3 y4 y5 y6 y7 y8 y9 y10) f)) n x0 x1 x2 x3 x4 x5 x6 x7 x8 x9 x10) := by
  intro n
  induction n with
  | zero => exact (fun _ _ _ _ _ _ _ _ _ _ _ => rfl)
  | succ n ih =>
    intro x0 x1 x2 x3 x4 x5 x6 x7 x8 x9 x10
    simp only [l4, r4, Lib.cond_bind, Lib.some_bind, Lib.none_bind, ih, l10_bind]
theorem l4_bind {R S : Type} (f : R → Option S) (N : Nat) (k0 : Int → Int → Int → ByteArray → Row → Int → ByteArray → Int → ByteArray → Row → Row → Option R) (n : Nat) (x0 : Int) (x1 : Int) (x2 : Int) (x3 : ByteArray) (x4 : Row) (x5 : Int) (x6 : ByteArray) (x7 : Int) (x8 : ByteArray) (x9 : Row) (x10 : Row) : Option.bind (l4 N k0 n x0 x1 x2 x3 x4 x5 x6 x7 x8 x9 x10) f = l4 N (fun y0 y1 y2 y3 y4 y5 y6 y7 y8 y9 y10 => (Option.bind (k0 y0 y1 y2 y3 y4 y5 y6 y7 y8 y9 y10) f)) n x0 x1 x2 x3 x4 x5 x6 x7 x8 x9 x10 := (q4_bind f N k0 n) x0 x1 x2 x3 x4 x5 x6 x7 x8 x9 x10
theorem b_bind {R : Type} (N : Nat) (kr : Int → ByteArray → Row → Bool → Option R) (s0_0 : Int) (s0_1 : ByteArray) (s0_2 : Row) (id1 : Int) : b N kr s0_0 s0_1 s0_2 id1 = Option.bind (b N (fun r0 r1 r2 r3 => some (r0, r1, r2, r3)) s0_0 s0_1 s0_2 id1) (fun p => kr p.1 p.2.1 p.2.2.1 p.2.2.2) := by
  unfold b; simp only [Lib.cond_bind, Lib.some_bind, Lib.none_bind, l10_bind, l4_bind]
def vo (s0_0 : Int) (s0_1 : ByteArray) (s0_2 : Row) (id1 : Int) : Option (Int × ByteArray × Row × Bool) := b Lib.big (fun r0 r1 r2 r3 => some (r0, r1, r2, r3)) s0_0 s0_1 s0_2 id1
def c (s0_0 : Int) (s0_1 : ByteArray) (s0_2 : Row) (id1 : Int) : Bool := Option.isSome (vo s0_0 s0_1 s0_2 id1)
def v (s0_0 : Int) (s0_1 : ByteArray) (s0_2 : Row) (id1 : Int) : Int × ByteArray × Row × Bool := Option.getD (vo s0_0 s0_1 s0_2 id1) (0, ⟨#[]⟩, [], false)
theorem out (s0_0 : Int) (s0_1 : ByteArray) (s0_2 : Row) (id1 : Int) {x : Int × ByteArray × Row × Bool} (h : vo s0_0 s0_1 s0_2 id1 = some x) : c s0_0 s0_1 s0_2 id1 = true ∧ v s0_0 s0_1 s0_2 id1 = x := by
  unfold c v; rw [h]; exact ⟨rfl, rfl⟩
theorem b_eq {R : Type} (kr : Int → ByteArray → Row → Bool → Option R) (s0_0 : Int) (s0_1 : ByteArray) (s0_2 : Row) (id1 : Int) (hc : c s0_0 s0_1 s0_2 id1 = true) : ∃ N, b N kr s0_0 s0_1 s0_2 id1 = kr ((v s0_0 s0_1 s0_2 id1).1) ((v s0_0 s0_1 s0_2 id1).2.1) ((v s0_0 s0_1 s0_2 id1).2.2.1) ((v s0_0 s0_1 s0_2 id1).2.2.2) := by
  refine ⟨Lib.big, ?_⟩
  rw [b_bind]
  have e : vo s0_0 s0_1 s0_2 id1 = some (v s0_0 s0_1 s0_2 id1) := by
    unfold c at hc; unfold v
    cases h : vo s0_0 s0_1 s0_2 id1 with
    | none => rw [h] at hc; cases hc
    | some x => rfl
  unfold vo at e
  rw [e]; rfl
end Go.FG.Pu.spec_StreamJoin

namespace Go.FG.Pu.impl_copyStream
def b {R : Type} (kr : Int → ByteArray → Row → Option R) (s0_0 : Int) (s0_1 : ByteArray) (s0_2 : Row) : Option R := bif (roomy (List.length (zeros [Ck.i IntKind.i64, Ck.i IntKind.i64] 0) + List.length s0_2) 16) then (kr s0_0 s0_1 (zeros [Ck.i IntKind.i64, Ck.i IntKind.i64] 0 ++ s0_2)) else (none)
def v (s0_0 : Int) (s0_1 : ByteArray) (s0_2 : Row) : Int × ByteArray × Row := (s0_0, s0_1, s0_2)
def c (s0_0 : Int) (s0_1 : ByteArray) (s0_2 : Row) : Bool := decide (s0_2.length ≤ 4294967296)
theorem b_eq {R : Type} (kr : Int → ByteArray → Row → Option R) (s0_0 : Int) (s0_1 : ByteArray) (s0_2 : Row) (hc : c s0_0 s0_1 s0_2 = true) : b kr s0_0 s0_1 s0_2 = kr (v s0_0 s0_1 s0_2).1 (v s0_0 s0_1 s0_2).2.1 (v s0_0 s0_1 s0_2).2.2 := by
  have h : s0_2.length ≤ 4294967296 := of_decide_eq_true hc
  unfold b
  rw [show List.length (zeros [Ck.i IntKind.i64, Ck.i IntKind.i64] 0) + s0_2.length = s0_2.length by simp [zeros], Lib.roomy_of (by omega) (by omega)]
  rfl
end Go.FG.Pu.impl_copyStream


namespace Go.FG.Pu.impl_within
def b {R : Type} (kr : Bool → Option R) (n0 : Int) (low1 : Int) (high2 : Int) : Option R := bif (decide (n0 ≥ low1)) then (kr (decide (n0 ≤ high2))) else (kr false)
def v (n0 : Int) (low1 : Int) (high2 : Int) : Bool := bif (decide (n0 ≥ low1)) then (((decide (n0 ≤ high2)))) else ((false))
theorem b_eq {R : Type} (kr : Bool → Option R) (n0 : Int) (low1 : Int) (high2 : Int) : b kr n0 low1 high2 = kr (v n0 low1 high2) := by
  first | rfl | (unfold b v; simp only [Bool.cond_eq_ite]; (repeat' split) <;> rfl)
end Go.FG.Pu.impl_within

namespace Go.FG.Pu.impl_StreamOk
def r2 {R : Type} (N : Nat) (g : Bool → Row → Int → Int → Int → ByteArray → Row → Option R) (k0 : Bool → Row → Int → Int → Int → ByteArray → Row → Option R) (k1 : Bool → Row → Int → Int → Int → ByteArray → Row → Option R) (x0 : Bool) (x1 : Row) (x2 : Int) (x3 : Int) (x4 : Int) (x5 : ByteArray) (x6 : Row) : Option R := bif (decide (x3 < x2)) then (bif (decide (0 ≤ x3) && decide (x3 < (↑(List.length x1) : Int))) then (bif (!Pu.impl_within.v (cvI (cellAt x1 (Int.toNat x3) 0)) 1 9) then (k0 false x1 x2 x3 x4 x5 x6) else (bif (!Pu.impl_within.v (cvI (cellAt x1 (Int.toNat x3) 1)) 0 (↑(ByteArray.size x5) : Int)) then (k0 false x1 x2 x3 x4 x5 x6) else (bif (decide (x3 > 0)) then (bif (decide (0 ≤ w64 (x3 - 1)) && decide (w64 (x3 - 1) < (↑(List.length x6) : Int))) then (bif (decide (cvI (cellAt x6 (Int.toNat (w64 (x3 - 1))) 0) ≥ cvI (cellAt x1 (Int.toNat x3) 0))) then (k0 false x1 x2 x3 x4 x5 x6) else (g x0 x1 x2 (w64 (x3 + 1)) x4 x5 x6)) else (none)) else (g x0 x1 x2 (w64 (x3 + 1)) x4 x5 x6)))) else (none)) else (k1 x0 x1 x2 x3 x4 x5 x6)
def l2 {R : Type} (N : Nat) (k0 : Bool → Row → Int → Int → Int → ByteArray → Row → Option R) (k1 : Bool → Row → Int → Int → Int → ByteArray → Row → Option R) : Nat → Bool → Row → Int → Int → Int → ByteArray → Row → Option R
  | 0 => (fun _ _ _ _ _ _ _ => none)
  | n + 1 => (fun x0 x1 x2 x3 x4 x5 x6 => r2 N (l2 N k0 k1 n) k0 k1 x0 x1 x2 x3 x4 x5 x6)
def b {R : Type} (N : Nat) (kr : Bool → Option R) (s0_0 : Int) (s0_1 : ByteArray) (s0_2 : Row) : Option R := l2 N (fun y7 y8 y9 y10 y11 y12 y13 => kr y7) (fun y14 y15 y16 y17 y18 y19 y20 => bif (Pu.impl_within.v y18 1 3) then (bif (decide ((↑(ByteArray.size y19) : Int) ≤ 400)) then (kr (decide ((↑(List.length y20) : Int) ≤ 6))) else (kr false)) else (kr false)) N false s0_2 (↑(List.length s0_2) : Int) 0 s0_0 s0_1 s0_2
def v (s0_0 : Int) (s0_1 : ByteArray) (s0_2 : Row) : Bool := (List.range s0_2.length).all (Pu.spec_StreamOk.el s0_1 s0_2) && Pu.spec_StreamOk.rest s0_0 s0_1 s0_2
theorem b_eq {R : Type} (kr : Bool → Option R) (s0_0 : Int) (s0_1 : ByteArray) (s0_2 : Row) (f0 : okS s0_1) (f1 : FitR s0_2) : ∃ N, b N kr s0_0 s0_1 s0_2 = kr (v s0_0 s0_1 s0_2) := by
  refine ⟨s0_2.length + 1, ?_⟩
  unfold b
  have ew : Pu.impl_within.v = Pu.spec_l01In.v := rfl
  simp only [ew, Pu.spec_StreamOk.rest_eq]
  have := Lib.loop_gen (fun n (i : Nat) => l2 (s0_2.length + 1) (fun y7 y8 y9 y10 y11 y12 y13 => kr y7) (fun y14 y15 y16 y17 y18 y19 y20 => kr (Pu.spec_StreamOk.rest y18 y19 y20)) n false s0_2 s0_2.length i s0_0 s0_1 s0_2) (fun i => s0_2.length - i) (fun i => i ≤ s0_2.length)
    (fun i => kr ((List.range' i (s0_2.length - i)).all (Pu.spec_StreamOk.el s0_1 s0_2) && Pu.spec_StreamOk.rest s0_0 s0_1 s0_2)) (fun n i hi => by
    simp only [l2, r2, ew, Lib.dlt, Lib.dle0, Lib.toN, Bool.true_and, Pu.spec_StreamOk.in_eq]
    by_cases h : i < s0_2.length
    · rw [Pu.spec_StreamOk.all_from _ h]
      simp only [h, decide_true, cond_true, Lib.w64_s h f1.1]
      cases h1 : decide (1 ≤ cvI (cellAt s0_2 i 0) ∧ cvI (cellAt s0_2 i 0) ≤ 9) with
      | false => left; simp [Pu.spec_StreamOk.el, h1]
      | true =>
        simp only [Bool.not_true, cond_false]
        cases h3 : decide (0 ≤ cvI (cellAt s0_2 i 1) ∧ cvI (cellAt s0_2 i 1) ≤ s0_1.size) with
        | false => left; simp [Pu.spec_StreamOk.el, h3]
        | true =>
          simp only [Bool.not_true, cond_false]
          by_cases hz : 0 < i
          · have e0 : decide ((i : Int) > 0) = true := by simp; omega
            have hp : i - 1 < s0_2.length := by omega
            have hi0 : (i == 0) = false := by simp; omega
            simp only [e0, cond_true, Pu.spec_StreamOk.w64_p hz (by have := f1.1; omega), Lib.dle0, Lib.dlt, Lib.toN, hp, decide_true, Bool.and_self]
            cases h2 : decide (cvI (cellAt s0_2 (i - 1) 0) ≥ cvI (cellAt s0_2 i 0)) with
            | true =>
              left
              have e3 : decide (cvI (cellAt s0_2 (i - 1) 0) < cvI (cellAt s0_2 i 0)) = false := by simp at h2 ⊢; omega
              simp [Pu.spec_StreamOk.el, e3, hi0]
            | false =>
              have e3 : decide (cvI (cellAt s0_2 (i - 1) 0) < cvI (cellAt s0_2 i 0)) = true := by simp at h2 ⊢; omega
              right; exact ⟨i + 1, h, by omega, by simp only [Pu.spec_StreamOk.el, h1, h3, e3, Bool.or_true, Bool.true_and], rfl⟩
          · have hz : i = 0 := by omega
            subst hz
            simp only [show decide (((0 : Nat) : Int) > 0) = false from rfl, cond_false]
            right; exact ⟨1, h, by omega, by simp only [Pu.spec_StreamOk.el, h1, h3, Bool.true_and]; rfl, rfl⟩
    · left
      have h0 : s0_2.length - i = 0 := by omega
      simp only [h, decide_false, cond_false, h0, List.range'_zero, List.all_nil, Bool.true_and]) (s0_2.length + 1) 0 (by omega) (by omega)
  refine this.trans ?_
  unfold v
  rw [Nat.sub_zero, ← List.range_eq_range']
end Go.FG.Pu.impl_StreamOk

namespace Go.FG.Pu.impl_readerAt_1
def b {R : Type} (kr : Bool → Option R) (r0_0 : Int) (r0_1 : Int) (id1 : Int) : Option R := kr (decide (r0_0 = id1))
def v (r0_0 : Int) (r0_1 : Int) (id1 : Int) : Bool := ((decide (r0_0 = id1)))
theorem b_eq {R : Type} (kr : Bool → Option R) (r0_0 : Int) (r0_1 : Int) (id1 : Int) : b kr r0_0 r0_1 id1 = kr (v r0_0 r0_1 id1) := by
  first | rfl | (unfold b v; simp only [Bool.cond_eq_ite]; (repeat' split) <;> rfl)
end Go.FG.Pu.impl_readerAt_1

namespace Go.FG.Pu.slices_IndexFunc_Readera
def r2 {R : Type} (N : Nat) (g : Row → Int → Int → Int → Int → Option R) (k0 : Row → Int → Int → Int → Int → Option R) (k1 : Row → Int → Int → Int → Int → Option R) (x0 : Row) (x1 : Int) (x2 : Int) (x3 : Int) (x4 : Int) : Option R := bif (decide (x4 < x3)) then (bif (decide (0 ≤ x4) && decide (x4 < (↑(List.length x0) : Int))) then (bif (Pu.impl_readerAt_1.v (cvI (cellAt x0 (Int.toNat x4) 0)) (cvI (cellAt x0 (Int.toNat x4) 1)) x1) then (k0 x0 x1 x4 x3 x4) else (g x0 x1 x2 x3 (w64 (x4 + 1)))) else (none)) else (k1 x0 x1 x2 x3 x4)
def l2 {R : Type} (N : Nat) (k0 : Row → Int → Int → Int → Int → Option R) (k1 : Row → Int → Int → Int → Int → Option R) : Nat → Row → Int → Int → Int → Int → Option R
  | 0 => (fun _ _ _ _ _ => none)
  | n + 1 => (fun x0 x1 x2 x3 x4 => r2 N (l2 N k0 k1 n) k0 k1 x0 x1 x2 x3 x4)
def b {R : Type} (N : Nat) (kr : Int → Option R) (s0 : Row) (id1 : Int) : Option R := l2 N (fun y5 y6 y7 y8 y9 => kr y7) (fun y10 y11 y12 y13 y14 => kr (-1)) N s0 id1 0 (↑(List.length s0) : Int) 0
def v (s0 : Row) (id1 : Int) : Int := Lib.fi (fun i => decide (cvI (cellAt s0 i 0) = id1)) s0.length 0
theorem b_eq {R : Type} (kr : Int → Option R) (s0 : Row) (id1 : Int) (f0 : FitR s0) : ∃ N, b N kr s0 id1 = kr (v s0 id1) := by
  refine ⟨s0.length + 1, ?_⟩
  refine Lib.fi_run (fun i => decide (cvI (cellAt s0 i 0) = id1)) s0.length (fun m i => l2 (s0.length + 1) (fun y5 y6 y7 y8 y9 => kr y7) (fun y10 y11 y12 y13 y14 => kr (-1)) m s0 id1 0 s0.length i) kr (fun m i hi hp => ?_) (fun m i hi hp => ?_) (fun m => ?_)
  · have e : Pu.impl_readerAt_1.v (cvI (cellAt s0 i 0)) (cvI (cellAt s0 i 1)) id1 = true := hp
    simp only [l2, r2, Lib.dlt, Lib.dle0, Lib.toN, hi, decide_true, Bool.true_and, cond_true, e]
  · have e : Pu.impl_readerAt_1.v (cvI (cellAt s0 i 0)) (cvI (cellAt s0 i 1)) id1 = false := hp
    simp only [l2, r2, Lib.dlt, Lib.dle0, Lib.toN, hi, decide_true, Bool.true_and, cond_true, e, cond_false, Lib.w64_s hi f0.1]
  · simp only [l2, r2, Lib.dlt, Nat.lt_irrefl, decide_false, cond_false]
end Go.FG.Pu.slices_IndexFunc_Readera

namespace Go.FG.Pu.impl_StreamLeave_1
def b {R : Type} (kr : Bool → Option R) (r0_0 : Int) (r0_1 : Int) (id1 : Int) : Option R := kr (decide (r0_0 = id1))
def v (r0_0 : Int) (r0_1 : Int) (id1 : Int) : Bool := ((decide (r0_0 = id1)))
theorem b_eq {R : Type} (kr : Bool → Option R) (r0_0 : Int) (r0_1 : Int) (id1 : Int) : b kr r0_0 r0_1 id1 = kr (v r0_0 r0_1 id1) := by
  first | rfl | (unfold b v; simp only [Bool.cond_eq_ite]; (repeat' split) <;> rfl)
end Go.FG.Pu.impl_StreamLeave_1

namespace Go.FG.Pu.slices_IndexFunc_Readerb
def r2 {R : Type} (N : Nat) (g : Row → Int → Int → Int → Int → Option R) (k0 : Row → Int → Int → Int → Int → Option R) (k1 : Row → Int → Int → Int → Int → Option R) (x0 : Row) (x1 : Int) (x2 : Int) (x3 : Int) (x4 : Int) : Option R := bif (decide (x4 < x3)) then (bif (decide (0 ≤ x4) && decide (x4 < (↑(List.length x0) : Int))) then (bif (Pu.impl_StreamLeave_1.v (cvI (cellAt x0 (Int.toNat x4) 0)) (cvI (cellAt x0 (Int.toNat x4) 1)) x1) then (k0 x0 x1 x4 x3 x4) else (g x0 x1 x2 x3 (w64 (x4 + 1)))) else (none)) else (k1 x0 x1 x2 x3 x4)
def l2 {R : Type} (N : Nat) (k0 : Row → Int → Int → Int → Int → Option R) (k1 : Row → Int → Int → Int → Int → Option R) : Nat → Row → Int → Int → Int → Int → Option R
  | 0 => (fun _ _ _ _ _ => none)
  | n + 1 => (fun x0 x1 x2 x3 x4 => r2 N (l2 N k0 k1 n) k0 k1 x0 x1 x2 x3 x4)
def b {R : Type} (N : Nat) (kr : Int → Option R) (s0 : Row) (id1 : Int) : Option R := l2 N (fun y5 y6 y7 y8 y9 => kr y7) (fun y10 y11 y12 y13 y14 => kr (-1)) N s0 id1 0 (↑(List.length s0) : Int) 0
def v (s0 : Row) (id1 : Int) : Int := Lib.fi (fun i => decide (cvI (cellAt s0 i 0) = id1)) s0.length 0
theorem b_eq {R : Type} (kr : Int → Option R) (s0 : Row) (id1 : Int) (f0 : FitR s0) : ∃ N, b N kr s0 id1 = kr (v s0 id1) := by
  refine ⟨s0.length + 1, ?_⟩
  refine Lib.fi_run (fun i => decide (cvI (cellAt s0 i 0) = id1)) s0.length (fun m i => l2 (s0.length + 1) (fun y5 y6 y7 y8 y9 => kr y7) (fun y10 y11 y12 y13 y14 => kr (-1)) m s0 id1 0 s0.length i) kr (fun m i hi hp => ?_) (fun m i hi hp => ?_) (fun m => ?_)
  · have e : Pu.impl_StreamLeave_1.v (cvI (cellAt s0 i 0)) (cvI (cellAt s0 i 1)) id1 = true := hp
    simp only [l2, r2, Lib.dlt, Lib.dle0, Lib.toN, hi, decide_true, Bool.true_and, cond_true, e]
  · have e : Pu.impl_StreamLeave_1.v (cvI (cellAt s0 i 0)) (cvI (cellAt s0 i 1)) id1 = false := hp
    simp only [l2, r2, Lib.dlt, Lib.dle0, Lib.toN, hi, decide_true, Bool.true_and, cond_true, e, cond_false, Lib.w64_s hi f0.1]
  · simp only [l2, r2, Lib.dlt, Nat.lt_irrefl, decide_false, cond_false]
end Go.FG.Pu.slices_IndexFunc_Readerb

namespace Go.FG.Pu.impl_readerAt
def b {R : Type} (kr : Int → Option R) (s0_0 : Int) (s0_1 : ByteArray) (s0_2 : Row) (id1 : Int) : Option R := kr (Pu.slices_IndexFunc_Readera.v s0_2 id1)
def v (s0_0 : Int) (s0_1 : ByteArray) (s0_2 : Row) (id1 : Int) : Int := ((Pu.slices_IndexFunc_Readera.v s0_2 id1))
theorem b_eq {R : Type} (kr : Int → Option R) (s0_0 : Int) (s0_1 : ByteArray) (s0_2 : Row) (id1 : Int) : b kr s0_0 s0_1 s0_2 id1 = kr (v s0_0 s0_1 s0_2 id1) := by
  first | rfl | (unfold b v; simp only [Bool.cond_eq_ite]; (repeat' split) <;> rfl)
end Go.FG.Pu.impl_readerAt

namespace Go.FG.Pu.impl_StreamJoin
def r2 {R : Type} (N : Nat) (g : Int → Int → Int → ByteArray → Row → Int → ByteArray → Option R) (k0 : Int → Int → Int → ByteArray → Row → Int → ByteArray → Option R) (x0 : Int) (x1 : Int) (x2 : Int) (x3 : ByteArray) (x4 : Row) (x5 : Int) (x6 : ByteArray) : Option R := bif (decide (x1 < (↑(List.length x4) : Int))) then (bif (decide (0 ≤ x1) && decide (x1 < (↑(List.length x4) : Int))) then (bif (decide (cvI (cellAt x4 (Int.toNat x1) 0) < x0)) then (g x0 (w64 (x1 + 1)) x2 x3 x4 x5 x6) else (k0 x0 x1 x2 x3 x4 x5 x6)) else (none)) else (k0 x0 x1 x2 x3 x4 x5 x6)
def l2 {R : Type} (N : Nat) (k0 : Int → Int → Int → ByteArray → Row → Int → ByteArray → Option R) : Nat → Int → Int → Int → ByteArray → Row → Int → ByteArray → Option R
  | 0 => (fun _ _ _ _ _ _ _ => none)
  | n + 1 => (fun x0 x1 x2 x3 x4 x5 x6 => r2 N (l2 N k0 n) k0 x0 x1 x2 x3 x4 x5 x6)
def b {R : Type} (N : Nat) (kr : Int → ByteArray → Row → Bool → Option R) (s0_0 : Int) (s0_1 : ByteArray) (s0_2 : Row) (id1 : Int) : Option R := l2 N (fun y7 y8 y9 y10 y11 y12 y13 => bif (Pu.impl_copyStream.c y9 y10 y11) then (bif (decide (0 ≤ y8) && decide (y8 ≤ (↑(List.length y11) : Int)) && roomy (List.length y11 + List.length (List.set (zeros [Ck.i IntKind.i64, Ck.i IntKind.i64] 1) 0 [CV.i IntKind.i64 y7, CV.i IntKind.i64 0])) 16) then (bif (!Pu.impl_StreamOk.v y9 y10 (Pu.insR y11 (Int.toNat y8) (List.set (zeros [Ck.i IntKind.i64, Ck.i IntKind.i64] 1) 0 [CV.i IntKind.i64 y7, CV.i IntKind.i64 0]))) then (bif (Pu.impl_copyStream.c y9 y10 y11) then (kr y9 y10 y11 false) else (none)) else (bif (decide (Pu.impl_readerAt.v y9 y10 y11 y7 ≥ 0)) then (bif (Pu.impl_copyStream.c y9 y10 y11) then (kr y9 y10 y11 false) else (none)) else (kr y9 y10 (Pu.insR y11 (Int.toNat y8) (List.set (zeros [Ck.i IntKind.i64, Ck.i IntKind.i64] 1) 0 [CV.i IntKind.i64 y7, CV.i IntKind.i64 0])) true))) else (none)) else (none)) N id1 0 s0_0 s0_1 s0_2 0 ({ data := #[] })
theorem q2_bind {R S : Type} (f : R → Option S) (N : Nat) (k0 : Int → Int → Int → ByteArray → Row → Int → ByteArray → Option R) : ∀ n : Nat, (∀ (x0 : Int) (x1 : Int) (x2 : Int) (x3 : ByteArray) (x4 : Row) (x5 : Int) (x6 : ByteArray), Option.bind (l2 N k0 n x0 x1 x2 x3 x4 x5 x6) f = l2 N (fun y0 y1 y2 y3 y4 y5 y6 => (Option.bind (k0 y0 y1 y2 y3 y4 y5 y6) f)) n x0 x1 x2 x3 x4 x5 x6) := by
  intro n
  induction n with
  | zero => exact (fun _ _ _ _ _ _ _ => rfl)
  | succ n ih =>
    intro x0 x1 x2 x3 x4 x5 x6
    simp only [l2, r2, Lib.cond_bind, Lib.some_bind, Lib.none_bind, ih]
theorem l2_bind {R S : Type} (f : R → Option S) (N : Nat) (k0 : Int → Int → Int → ByteArray → Row → Int → ByteArray → Option R) (n : Nat) (x0 : Int) (x1 : Int) (x2 : Int) (x3 : ByteArray) (x4 : Row) (x5 : Int) (x6 : ByteArray) : Option.bind (l2 N k0 n x0 x1 x2 x3 x4 x5 x6) f = l2 N (fun y0 y1 y2 y3 y4 y5 y6 => (Option.bind (k0 y0 y1 y2 y3 y4 y5 y6) f)) n x0 x1 x2 x3 x4 x5 x6 := (q2_bind f N k0 n) x0 x1 x2 x3 x4 x5 x6
theorem b_bind {R : Type} (N : Nat) (kr : Int → ByteArray → Row → Bool → Option R) (s0_0 : Int) (s0_1 : ByteArray) (s0_2 : Row) (id1 : Int) : b N kr s0_0 s0_1 s0_2 id1 = Option.bind (b N (fun r0 r1 r2 r3 => some (r0, r1, r2, r3)) s0_0 s0_1 s0_2 id1) (fun p => kr p.1 p.2.1 p.2.2.1 p.2.2.2) := by
  unfold b; simp only [Lib.cond_bind, Lib.some_bind, Lib.none_bind, l2_bind]
def vo (s0_0 : Int) (s0_1 : ByteArray) (s0_2 : Row) (id1 : Int) : Option (Int × ByteArray × Row × Bool) := b Lib.big (fun r0 r1 r2 r3 => some (r0, r1, r2, r3)) s0_0 s0_1 s0_2 id1
def c (s0_0 : Int) (s0_1 : ByteArray) (s0_2 : Row) (id1 : Int) : Bool := Option.isSome (vo s0_0 s0_1 s0_2 id1)
def v (s0_0 : Int) (s0_1 : ByteArray) (s0_2 : Row) (id1 : Int) : Int × ByteArray × Row × Bool := Option.getD (vo s0_0 s0_1 s0_2 id1) (0, ⟨#[]⟩, [], false)
theorem out (s0_0 : Int) (s0_1 : ByteArray) (s0_2 : Row) (id1 : Int) {x : Int × ByteArray × Row × Bool} (h : vo s0_0 s0_1 s0_2 id1 = some x) : c s0_0 s0_1 s0_2 id1 = true ∧ v s0_0 s0_1 s0_2 id1 = x := by
  unfold c v; rw [h]; exact ⟨rfl, rfl⟩
theorem b_eq {R : Type} (kr : Int → ByteArray → Row → Bool → Option R) (s0_0 : Int) (s0_1 : ByteArray) (s0_2 : Row) (id1 : Int) (hc : c s0_0 s0_1 s0_2 id1 = true) : ∃ N, b N kr s0_0 s0_1 s0_2 id1 = kr ((v s0_0 s0_1 s0_2 id1).1) ((v s0_0 s0_1 s0_2 id1).2.1) ((v s0_0 s0_1 s0_2 id1).2.2.1) ((v s0_0 s0_1 s0_2 id1).2.2.2) := by
  refine ⟨Lib.big, ?_⟩
  rw [b_bind]
  have e : vo s0_0 s0_1 s0_2 id1 = some (v s0_0 s0_1 s0_2 id1) := by
    unfold c at hc; unfold v
    cases h : vo s0_0 s0_1 s0_2 id1 with
    | none => rw [h] at hc; cases hc
    | some x => rfl
  unfold vo at e
  rw [e]; rfl
end Go.FG.Pu.impl_StreamJoin

namespace Go.FG.Pu.laws_eqReader
def b {R : Type} (kr : Bool → Option R) (a0_0 : Int) (a0_1 : Int) (b1_0 : Int) (b1_1 : Int) : Option R := bif (a0_0 != b1_0) then (kr false) else (bif (a0_1 != b1_1) then (kr false) else (kr true))
def v (a0_0 : Int) (a0_1 : Int) (b1_0 : Int) (b1_1 : Int) : Bool := bif (a0_0 != b1_0) then ((false)) else (bif (a0_1 != b1_1) then ((false)) else ((true)))
theorem b_eq {R : Type} (kr : Bool → Option R) (a0_0 : Int) (a0_1 : Int) (b1_0 : Int) (b1_1 : Int) : b kr a0_0 a0_1 b1_0 b1_1 = kr (v a0_0 a0_1 b1_0 b1_1) := by
  first | rfl | (unfold b v; simp only [Bool.cond_eq_ite]; (repeat' split) <;> rfl)
end Go.FG.Pu.laws_eqReader

namespace Go.FG.Pu.laws_eqReaderS
def r4 {R : Type} (N : Nat) (g : Row → Row → Bool → Int → Option R) (k0 : Row → Row → Bool → Int → Option R) (k1 : Row → Row → Bool → Int → Option R) (x0 : Row) (x1 : Row) (x2 : Bool) (x3 : Int) : Option R := bif (decide (x3 < (↑(List.length x0) : Int))) then (bif (decide (0 ≤ x3) && decide (x3 < (↑(List.length x0) : Int))) then (bif (decide (0 ≤ x3) && decide (x3 < (↑(List.length x1) : Int))) then (bif (!Pu.laws_eqReader.v (cvI (cellAt x0 (Int.toNat x3) 0)) (cvI (cellAt x0 (Int.toNat x3) 1)) (cvI (cellAt x1 (Int.toNat x3) 0)) (cvI (cellAt x1 (Int.toNat x3) 1))) then (k0 x0 x1 false x3) else (g x0 x1 x2 (w64 (x3 + 1)))) else (none)) else (none)) else (k1 x0 x1 x2 x3)
def l4 {R : Type} (N : Nat) (k0 : Row → Row → Bool → Int → Option R) (k1 : Row → Row → Bool → Int → Option R) : Nat → Row → Row → Bool → Int → Option R
  | 0 => (fun _ _ _ _ => none)
  | n + 1 => (fun x0 x1 x2 x3 => r4 N (l4 N k0 k1 n) k0 k1 x0 x1 x2 x3)
def b {R : Type} (N : Nat) (kr : Bool → Option R) (a0 : Row) (b1 : Row) : Option R := bif ((↑(List.length a0) : Int) != (↑(List.length b1) : Int)) then (kr false) else (l4 N (fun y4 y5 y6 y7 => kr y6) (fun y8 y9 y10 y11 => kr true) N a0 b1 false 0)
def v (a0 : Row) (b1 : Row) : Bool := (a0.length == b1.length) && (List.range a0.length).all fun i => Pu.laws_eqReader.v (cvI (cellAt a0 i 0)) (cvI (cellAt a0 i 1)) (cvI (cellAt b1 i 0)) (cvI (cellAt b1 i 1))
def fr (a b : Row) (i : Nat) : Bool := (List.range' i (a.length - i)).all fun i => Pu.laws_eqReader.v (cvI (cellAt a i 0)) (cvI (cellAt a i 1)) (cvI (cellAt b i 0)) (cvI (cellAt b i 1))
theorem run {R : Type} (N : Nat) (kr : Bool → Option R) (a b : Row) (hl : a.length = b.length) (ha : FitR a) : ∀ n (i : Nat), i ≤ a.length → a.length - i < n → l4 N (fun _ _ y _ => kr y) (fun _ _ _ _ => kr true) n a b false i = kr (fr a b i) := by
  refine Lib.loop_gen (fun n (i : Nat) => l4 N (fun _ _ y _ => kr y) (fun _ _ _ _ => kr true) n a b false i) (fun i => a.length - i) (fun i => i ≤ a.length) (fun i => kr (fr a b i)) (fun n i hi => ?_)
  simp only [l4, r4, Lib.dlt, Lib.dle0, Lib.toN, Bool.true_and]
  by_cases h : i < a.length
  · have e : a.length - i = (a.length - (i + 1)) + 1 := by omega
    have hf : fr a b i = (Pu.laws_eqReader.v (cvI (cellAt a i 0)) (cvI (cellAt a i 1)) (cvI (cellAt b i 0)) (cvI (cellAt b i 1)) && fr a b (i + 1)) := by
      unfold fr; rw [e, List.range'_succ, List.all_cons]
    have hb : i < b.length := by omega
    simp only [h, hb, decide_true, cond_true, Lib.w64_s h ha.1]
    cases hv : Pu.laws_eqReader.v (cvI (cellAt a i 0)) (cvI (cellAt a i 1)) (cvI (cellAt b i 0)) (cvI (cellAt b i 1)) with
    | true => exact .inr ⟨i + 1, h, by omega, by rw [hf, hv]; rfl, rfl⟩
    | false => left; rw [hf, hv]; rfl
  · left
    have : a.length - i = 0 := by omega
    simp only [h, decide_false, cond_false]
    unfold fr; rw [this]; rfl
theorem b_eq {R : Type} (kr : Bool → Option R) (a0 : Row) (b1 : Row) (f0 : FitR a0) (f1 : FitR b1) : ∃ N, b N kr a0 b1 = kr (v a0 b1) := by
  refine ⟨a0.length + 1, ?_⟩
  unfold b v
  by_cases hl : a0.length = b1.length
  · have e : ((a0.length : Int) != (b1.length : Int)) = false := by simp [hl]
    rw [e, cond_false]
    refine (run _ kr a0 b1 hl f0 (a0.length + 1) 0 (by omega) (by omega)).trans ?_
    unfold fr; rw [show (a0.length == b1.length) = true by simp [hl], Nat.sub_zero, ← List.range_eq_range']; rfl
  · have e : ((a0.length : Int) != (b1.length : Int)) = true := by simp; omega
    have e2 : (a0.length == b1.length) = false := by simp; omega
    rw [e, cond_true, e2]; rfl
theorem refl (a : Row) : v a a = true := by unfold v; simp [Pu.laws_eqReader.v]
end Go.FG.Pu.laws_eqReaderS

namespace Go.FG.Pu.laws_eqStream
def b {R : Type} (kr : Bool → Option R) (a0_0 : Int) (a0_1 : ByteArray) (a0_2 : Row) (b1_0 : Int) (b1_1 : ByteArray) (b1_2 : Row) : Option R := bif (a0_0 != b1_0) then (kr false) else (bif (!List.beq (ByteArray.toList a0_1) (ByteArray.toList b1_1)) then (kr false) else (bif (!Pu.laws_eqReaderS.v a0_2 b1_2) then (kr false) else (kr true)))
def v (a0_0 : Int) (a0_1 : ByteArray) (a0_2 : Row) (b1_0 : Int) (b1_1 : ByteArray) (b1_2 : Row) : Bool := bif (a0_0 != b1_0) then ((false)) else (bif (!List.beq (ByteArray.toList a0_1) (ByteArray.toList b1_1)) then ((false)) else (bif (!Pu.laws_eqReaderS.v a0_2 b1_2) then ((false)) else ((true))))
theorem b_eq {R : Type} (kr : Bool → Option R) (a0_0 : Int) (a0_1 : ByteArray) (a0_2 : Row) (b1_0 : Int) (b1_1 : ByteArray) (b1_2 : Row) : b kr a0_0 a0_1 a0_2 b1_0 b1_1 b1_2 = kr (v a0_0 a0_1 a0_2 b1_0 b1_1 b1_2) := by
  first | rfl | (unfold b v; simp only [Bool.cond_eq_ite]; (repeat' split) <;> rfl)
theorem refl (s : Int) (t : ByteArray) (a : Row) : v s t a s t a = true := by
  unfold v; simp [Lib.beq_self, Pu.laws_eqReaderS.refl]
end Go.FG.Pu.laws_eqStream

namespace Go.FG.Pu.laws_markReaderS
def r2 {R : Type} (N : Nat) (g : Int → Int → Row → Option R) (k0 : Int → Int → Row → Option R) (x0 : Int) (x1 : Int) (x2 : Row) : Option R := bif (decide (x1 < (↑(List.length x2) : Int))) then (bif (decide (0 ≤ x1) && decide (x1 < (↑(List.length x2) : Int))) then (bif (decide (0 ≤ x1) && decide (x1 < (↑(List.length (setC x2 (Int.toNat x1) 0 [CV.i IntKind.i64 x0])) : Int))) then (g (w64 (w64 (x0 + 1) + 1)) (w64 (x1 + 1)) (setC (setC x2 (Int.toNat x1) 0 [CV.i IntKind.i64 x0]) (Int.toNat x1) 1 [CV.i IntKind.i64 (w64 (x0 + 1))])) else (none)) else (none)) else (k0 x0 x1 x2)
def l2 {R : Type} (N : Nat) (k0 : Int → Int → Row → Option R) : Nat → Int → Int → Row → Option R
  | 0 => (fun _ _ _ => none)
  | n + 1 => (fun x0 x1 x2 => r2 N (l2 N k0 n) k0 x0 x1 x2)
def b {R : Type} (N : Nat) (kr : Int → Row → Option R) (a0 : Row) (k1 : Int) : Option R := l2 N (fun y3 y4 y5 => kr y3 y5) N k1 0 a0
def mk : Int → Row → Row
  | _, [] => []
  | k, y :: r => splice (splice y 0 [CV.i IntKind.i64 k]) 1 [CV.i IntKind.i64 (w64 (k + 1))] :: mk (w64 (w64 (k + 1) + 1)) r
def v (a0 : Row) (k1 : Int) : Int × Row := (Lib.up k1 (2 * a0.length), mk k1 a0)
theorem b_eq {R : Type} (kr : Int → Row → Option R) (a0 : Row) (k1 : Int) (f0 : FitR a0) : ∃ N, b N kr a0 k1 = kr (v a0 k1).1 (v a0 k1).2 := by
  refine ⟨a0.length + 1, ?_⟩
  unfold b
  have := Lib.loop_gen (fun m (s : Int × Nat × Row) => l2 (a0.length + 1) (fun y3 y4 y5 => kr y3 y5) m s.1 s.2.1 s.2.2) (fun s => a0.length - s.2.1) (fun s => s.2.2.length = a0.length ∧ s.2.1 ≤ a0.length)
    (fun s => kr (Lib.up s.1 (2 * (a0.length - s.2.1))) (s.2.2.take s.2.1 ++ mk s.1 (s.2.2.drop s.2.1))) (fun m s hs => by
    obtain ⟨k, i, x⟩ := s
    obtain ⟨hx, hi⟩ := hs
    dsimp only at hx hi ⊢
    simp only [l2, r2, Lib.dlt, Lib.dle0, Lib.toN, Lib.length_setC, Bool.true_and]
    by_cases h : i < x.length
    · right
      simp only [h, decide_true, cond_true, Lib.w64_s h (by rw [hx]; exact f0.1)]
      refine ⟨(w64 (w64 (k + 1) + 1), i + 1, setC (setC x i 0 [CV.i IntKind.i64 k]) i 1 [CV.i IntKind.i64 (w64 (k + 1))]), ⟨by simp only [Lib.length_setC]; exact hx, by dsimp only; omega⟩, by dsimp only; omega, ?_, rfl⟩
      dsimp only
      have e : setC (setC x i 0 [CV.i IntKind.i64 k]) i 1 [CV.i IntKind.i64 (w64 (k + 1))] = x.set i (splice (splice x[i] 0 [CV.i IntKind.i64 k]) 1 [CV.i IntKind.i64 (w64 (k + 1))]) := by
        rw [Lib.setC_eq (by rw [Lib.length_setC]; exact h)]
        simp [Lib.setC_eq h]
      rw [e, Lib.set_take_drop h, Lib.drop_cons_of h]
      have e2 : 2 * (a0.length - i) = 2 * (a0.length - (i + 1)) + 1 + 1 := by omega
      rw [e2]; rfl
    · left
      have h0 : a0.length - i = 0 := by omega
      simp only [h, decide_false, cond_false, h0]
      rw [List.take_of_length_le (by omega), List.drop_eq_nil_of_le (by omega)]
      simp [Lib.up, mk]) (a0.length + 1) (k1, 0, a0) ⟨rfl, by dsimp only; omega⟩ (by dsimp only; omega)
  simpa [v] using this
end Go.FG.Pu.laws_markReaderS

namespace Go.FG.Pu.laws_markStream
def b {R : Type} (kr : Int → Row → Option R) (a0_0 : Int) (a0_1 : ByteArray) (a0_2 : Row) (k1 : Int) : Option R := kr (Lib.up k1 (2 * List.length a0_2)) (Pu.laws_markReaderS.mk k1 a0_2)
def v (a0_0 : Int) (a0_1 : ByteArray) (a0_2 : Row) (k1 : Int) : Int × Row := ((Lib.up k1 (2 * List.length a0_2)), (Pu.laws_markReaderS.mk k1 a0_2))
theorem b_eq {R : Type} (kr : Int → Row → Option R) (a0_0 : Int) (a0_1 : ByteArray) (a0_2 : Row) (k1 : Int) : b kr a0_0 a0_1 a0_2 k1 = kr ((v a0_0 a0_1 a0_2 k1).1) ((v a0_0 a0_1 a0_2 k1).2) := by
  first | rfl | (unfold b v; simp only [Bool.cond_eq_ite]; (repeat' split) <;> rfl)
end Go.FG.Pu.laws_markStream

namespace Go.FG.Pu.laws_heldReaderS
def r2 {R : Type} (N : Nat) (g : Row → Int → Int → Int → Option R) (k0 : Row → Int → Int → Int → Option R) (k1 : Row → Int → Int → Int → Option R) (x0 : Row) (x1 : Int) (x2 : Int) (x3 : Int) : Option R := bif (decide (x3 < (↑(List.length x0) : Int))) then (bif (decide (0 ≤ x3) && decide (x3 < (↑(List.length x0) : Int))) then (bif (cvI (cellAt x0 (Int.toNat x3) 0) != x1) then (k0 x0 x1 (-1) x3) else (bif (decide (0 ≤ x3) && decide (x3 < (↑(List.length x0) : Int))) then (bif (cvI (cellAt x0 (Int.toNat x3) 1) != w64 (x1 + 1)) then (k0 x0 (w64 (x1 + 1)) (-1) x3) else (g x0 (w64 (w64 (x1 + 1) + 1)) x2 (w64 (x3 + 1)))) else (none))) else (none)) else (k1 x0 x1 x2 x3)
def l2 {R : Type} (N : Nat) (k0 : Row → Int → Int → Int → Option R) (k1 : Row → Int → Int → Int → Option R) : Nat → Row → Int → Int → Int → Option R
  | 0 => (fun _ _ _ _ => none)
  | n + 1 => (fun x0 x1 x2 x3 => r2 N (l2 N k0 k1 n) k0 k1 x0 x1 x2 x3)
def b {R : Type} (N : Nat) (kr : Int → Option R) (a0 : Row) (k1 : Int) : Option R := l2 N (fun y4 y5 y6 y7 => kr y6) (fun y8 y9 y10 y11 => kr y9) N a0 k1 0 0
def v : Row → Int → Int
  | [], k => k
  | y :: r, k => bif cvI (y.getD 0 (.b false)) != k then -1 else bif cvI (y.getD 1 (.b false)) != w64 (k + 1) then -1 else v r (w64 (w64 (k + 1) + 1))
theorem b_eq {R : Type} (kr : Int → Option R) (a0 : Row) (k1 : Int) (f0 : FitR a0) : ∃ N, b N kr a0 k1 = kr (v a0 k1) := by
  refine ⟨a0.length + 1, ?_⟩
  unfold b
  have := Lib.loop_gen (fun m (s : Int × Nat) => l2 (a0.length + 1) (fun y4 y5 y6 y7 => kr y6) (fun y8 y9 y10 y11 => kr y9) m a0 s.1 0 s.2) (fun s => a0.length - s.2) (fun s => s.2 ≤ a0.length)
    (fun s => kr (v (a0.drop s.2) s.1)) (fun m s hi => by
    obtain ⟨k, i⟩ := s
    dsimp only at hi ⊢
    simp only [l2, r2, Lib.dlt, Lib.dle0, Lib.toN, Bool.true_and]
    by_cases h : i < a0.length
    · simp only [h, decide_true, cond_true, Lib.w64_s h f0.1]
      rw [Lib.drop_cons_of h]
      simp only [v, Lib.cellAt_of h]
      cases h1 : (cvI (a0[i].getD 0 (.b false)) != k) with
      | true => left; rfl
      | false =>
        cases h2 : (cvI (a0[i].getD 1 (.b false)) != w64 (k + 1)) with
        | true => left; rfl
        | false => right; exact ⟨(w64 (w64 (k + 1) + 1), i + 1), by dsimp only; omega, by dsimp only; omega, rfl, rfl⟩
    · left
      simp only [h, decide_false, cond_false]
      rw [List.drop_eq_nil_of_le (by omega)]; rfl) (a0.length + 1) (k1, 0) (by dsimp only; omega) (by dsimp only; omega)
  simpa using this
theorem marked : ∀ (r : Row) (k : Int), (∀ y ∈ r, y.length = 2) → v (Pu.laws_markReaderS.mk k r) k = Lib.up k (2 * r.length)
  | [], k, _ => rfl
  | y :: r, k, h => by
    have hy := h y (List.mem_cons_self ..)
    obtain ⟨a, b, rfl⟩ : ∃ a b, y = [a, b] := by
      match y, hy with
      | [a, b], _ => exact ⟨a, b, rfl⟩
    have e : 2 * (List.length ([a, b] :: r)) = 2 * r.length + 1 + 1 := by simp; omega
    rw [e]
    simp only [Pu.laws_markReaderS.mk, v, splice]
    simp only [Lib.up]
    rw [← marked r _ (fun z hz => h z (List.mem_cons_of_mem _ hz))]
    simp [cvI]
end Go.FG.Pu.laws_heldReaderS

namespace Go.FG.Pu.laws_heldStream
def b {R : Type} (kr : Int → Option R) (a0_0 : Int) (a0_1 : ByteArray) (a0_2 : Row) (k1 : Int) : Option R := bif (decide (Pu.laws_heldReaderS.v a0_2 k1 < 0)) then (kr (-1)) else (kr (Pu.laws_heldReaderS.v a0_2 k1))
def v (a0_0 : Int) (a0_1 : ByteArray) (a0_2 : Row) (k1 : Int) : Int := bif (decide (Pu.laws_heldReaderS.v a0_2 k1 < 0)) then (((-1))) else (((Pu.laws_heldReaderS.v a0_2 k1)))
theorem b_eq {R : Type} (kr : Int → Option R) (a0_0 : Int) (a0_1 : ByteArray) (a0_2 : Row) (k1 : Int) : b kr a0_0 a0_1 a0_2 k1 = kr (v a0_0 a0_1 a0_2 k1) := by
  first | rfl | (unfold b v; simp only [Bool.cond_eq_ite]; (repeat' split) <;> rfl)
theorem marked {a : Int} {t : ByteArray} {r : Row} (h : ∀ y ∈ r, y.length = 2) (hl : r.length ≤ 2000000) : v a t (Pu.laws_markReaderS.mk 1 r) 1 = 1 + 2 * r.length := by
  have e : Pu.laws_heldReaderS.v (Pu.laws_markReaderS.mk 1 r) 1 = 1 + 2 * r.length := by
    rw [Pu.laws_heldReaderS.marked r 1 h, Lib.up_eq _ _ (by omega) (by omega)]; omega
  unfold v
  rw [e, Lib.dec_f (by omega)]; rfl
theorem up1 {r : Row} (hl : r.length ≤ 2000000) : Lib.up 1 (2 * r.length) = 1 + 2 * r.length := by
  rw [Lib.up_eq _ _ (by omega) (by omega)]; omega
theorem to2 (r : Row) : ∀ y ∈ Pu.laws_toReaderS.v r, y.length = 2 := by
  intro y hy
  unfold Pu.laws_toReaderS.v at hy
  obtain ⟨z, _, rfl⟩ := List.mem_map.1 hy; rfl
theorem toLen (r : Row) : (Pu.laws_toReaderS.v r).length = r.length := by unfold Pu.laws_toReaderS.v; simp
end Go.FG.Pu.laws_heldStream

namespace Go.FG.Pu.laws_FnExactStreamJoin
def b {R : Type} (kr : Bool → Option R) (aS0_0 : Int) (aS0_1 : ByteArray) (aS0_2 : Row) (aId1 : Int) : Option R := bif (decide (Pu.laws_szStream.v aS0_0 aS0_1 aS0_2 1048576 < 0)) then (kr true) else (bif (Pu.laws_toStream.c aS0_0 aS0_1 aS0_2) then (bif (Pu.spec_StreamJoin.c aS0_0 aS0_1 (Pu.laws_toReaderS.v aS0_2) aId1) then (bif (Pu.laws_toStream.c aS0_0 aS0_1 aS0_2) then (bif (Pu.impl_StreamJoin.c aS0_0 aS0_1 (Pu.laws_toReaderS.v aS0_2) aId1) then (bif (!Pu.laws_eqStream.v (Pu.impl_StreamJoin.v aS0_0 aS0_1 (Pu.laws_toReaderS.v aS0_2) aId1).1 (Pu.impl_StreamJoin.v aS0_0 aS0_1 (Pu.laws_toReaderS.v aS0_2) aId1).2.1 (Pu.impl_StreamJoin.v aS0_0 aS0_1 (Pu.laws_toReaderS.v aS0_2) aId1).2.2.1 (Pu.spec_StreamJoin.v aS0_0 aS0_1 (Pu.laws_toReaderS.v aS0_2) aId1).1 (Pu.spec_StreamJoin.v aS0_0 aS0_1 (Pu.laws_toReaderS.v aS0_2) aId1).2.1 (Pu.spec_StreamJoin.v aS0_0 aS0_1 (Pu.laws_toReaderS.v aS0_2) aId1).2.2.1) then (kr false) else (bif (!decide ((Pu.impl_StreamJoin.v aS0_0 aS0_1 (Pu.laws_toReaderS.v aS0_2) aId1).2.2.2 = (Pu.spec_StreamJoin.v aS0_0 aS0_1 (Pu.laws_toReaderS.v aS0_2) aId1).2.2.2)) then (kr false) else (bif (Pu.laws_toStream.c aS0_0 aS0_1 aS0_2) then (bif (!Pu.laws_eqStream.v aS0_0 aS0_1 (Pu.laws_toReaderS.v aS0_2) aS0_0 aS0_1 (Pu.laws_toReaderS.v aS0_2)) then (kr false) else (bif (decide (Lib.up 1 (2 * List.length (Pu.laws_toReaderS.v aS0_2)) < 0)) then (kr false) else (bif (!Pu.laws_eqStream.v (Pu.impl_StreamJoin.v aS0_0 aS0_1 (Pu.laws_toReaderS.v aS0_2) aId1).1 (Pu.impl_StreamJoin.v aS0_0 aS0_1 (Pu.laws_toReaderS.v aS0_2) aId1).2.1 (Pu.impl_StreamJoin.v aS0_0 aS0_1 (Pu.laws_toReaderS.v aS0_2) aId1).2.2.1 (Pu.spec_StreamJoin.v aS0_0 aS0_1 (Pu.laws_toReaderS.v aS0_2) aId1).1 (Pu.spec_StreamJoin.v aS0_0 aS0_1 (Pu.laws_toReaderS.v aS0_2) aId1).2.1 (Pu.spec_StreamJoin.v aS0_0 aS0_1 (Pu.laws_toReaderS.v aS0_2) aId1).2.2.1) then (kr false) else (bif (!decide ((Pu.impl_StreamJoin.v aS0_0 aS0_1 (Pu.laws_toReaderS.v aS0_2) aId1).2.2.2 = (Pu.spec_StreamJoin.v aS0_0 aS0_1 (Pu.laws_toReaderS.v aS0_2) aId1).2.2.2)) then (kr false) else (bif (decide (Pu.laws_heldStream.v (Pu.impl_StreamJoin.v aS0_0 aS0_1 (Pu.laws_toReaderS.v aS0_2) aId1).1 (Pu.impl_StreamJoin.v aS0_0 aS0_1 (Pu.laws_toReaderS.v aS0_2) aId1).2.1 (Pu.laws_markReaderS.mk 1 (Pu.impl_StreamJoin.v aS0_0 aS0_1 (Pu.laws_toReaderS.v aS0_2) aId1).2.2.1) 1 < 0)) then (kr false) else (bif (Pu.laws_heldStream.v (Pu.impl_StreamJoin.v aS0_0 aS0_1 (Pu.laws_toReaderS.v aS0_2) aId1).1 (Pu.impl_StreamJoin.v aS0_0 aS0_1 (Pu.laws_toReaderS.v aS0_2) aId1).2.1 (Pu.laws_markReaderS.mk 1 (Pu.impl_StreamJoin.v aS0_0 aS0_1 (Pu.laws_toReaderS.v aS0_2) aId1).2.2.1) 1 != Lib.up 1 (2 * List.length (Pu.impl_StreamJoin.v aS0_0 aS0_1 (Pu.laws_toReaderS.v aS0_2) aId1).2.2.1)) then (kr false) else (bif (Pu.laws_toStream.c aS0_0 aS0_1 aS0_2) then (bif (Pu.impl_StreamJoin.c aS0_0 aS0_1 (Pu.laws_toReaderS.v aS0_2) aId1) then (bif (!Pu.laws_eqStream.v (Pu.impl_StreamJoin.v aS0_0 aS0_1 (Pu.laws_toReaderS.v aS0_2) aId1).1 (Pu.impl_StreamJoin.v aS0_0 aS0_1 (Pu.laws_toReaderS.v aS0_2) aId1).2.1 (Pu.impl_StreamJoin.v aS0_0 aS0_1 (Pu.laws_toReaderS.v aS0_2) aId1).2.2.1 (Pu.spec_StreamJoin.v aS0_0 aS0_1 (Pu.laws_toReaderS.v aS0_2) aId1).1 (Pu.spec_StreamJoin.v aS0_0 aS0_1 (Pu.laws_toReaderS.v aS0_2) aId1).2.1 (Pu.spec_StreamJoin.v aS0_0 aS0_1 (Pu.laws_toReaderS.v aS0_2) aId1).2.2.1) then (kr false) else (bif (!decide ((Pu.impl_StreamJoin.v aS0_0 aS0_1 (Pu.laws_toReaderS.v aS0_2) aId1).2.2.2 = (Pu.spec_StreamJoin.v aS0_0 aS0_1 (Pu.laws_toReaderS.v aS0_2) aId1).2.2.2)) then (kr false) else (bif (decide (Pu.laws_heldStream.v (Pu.impl_StreamJoin.v aS0_0 aS0_1 (Pu.laws_toReaderS.v aS0_2) aId1).1 (Pu.impl_StreamJoin.v aS0_0 aS0_1 (Pu.laws_toReaderS.v aS0_2) aId1).2.1 (Pu.laws_markReaderS.mk 1 (Pu.impl_StreamJoin.v aS0_0 aS0_1 (Pu.laws_toReaderS.v aS0_2) aId1).2.2.1) 1 < 0)) then (kr false) else (bif (Pu.laws_heldStream.v (Pu.impl_StreamJoin.v aS0_0 aS0_1 (Pu.laws_toReaderS.v aS0_2) aId1).1 (Pu.impl_StreamJoin.v aS0_0 aS0_1 (Pu.laws_toReaderS.v aS0_2) aId1).2.1 (Pu.laws_markReaderS.mk 1 (Pu.impl_StreamJoin.v aS0_0 aS0_1 (Pu.laws_toReaderS.v aS0_2) aId1).2.2.1) 1 != Lib.up 1 (2 * List.length (Pu.impl_StreamJoin.v aS0_0 aS0_1 (Pu.laws_toReaderS.v aS0_2) aId1).2.2.1)) then (kr false) else (kr true))))) else (none)) else (none)))))))) else (none)))) else (none)) else (none)) else (none)) else (none))
theorem b_bind {R : Type} (kr : Bool → Option R) (aS0_0 : Int) (aS0_1 : ByteArray) (aS0_2 : Row) (aId1 : Int) : b kr aS0_0 aS0_1 aS0_2 aId1 = Option.bind (b (fun r0 => some (r0)) aS0_0 aS0_1 aS0_2 aId1) (fun p => kr p) := by
  unfold b; simp only [Lib.cond_bind, Lib.some_bind, Lib.none_bind]
def vo (aS0_0 : Int) (aS0_1 : ByteArray) (aS0_2 : Row) (aId1 : Int) : Option (Bool) := b (fun r0 => some (r0)) aS0_0 aS0_1 aS0_2 aId1
def c (aS0_0 : Int) (aS0_1 : ByteArray) (aS0_2 : Row) (aId1 : Int) : Bool := Option.isSome (vo aS0_0 aS0_1 aS0_2 aId1)
def v (aS0_0 : Int) (aS0_1 : ByteArray) (aS0_2 : Row) (aId1 : Int) : Bool := Option.getD (vo aS0_0 aS0_1 aS0_2 aId1) (false)
theorem out (aS0_0 : Int) (aS0_1 : ByteArray) (aS0_2 : Row) (aId1 : Int) {x : Bool} (h : vo aS0_0 aS0_1 aS0_2 aId1 = some x) : c aS0_0 aS0_1 aS0_2 aId1 = true ∧ v aS0_0 aS0_1 aS0_2 aId1 = x := by
  unfold c v; rw [h]; exact ⟨rfl, rfl⟩
theorem b_eq {R : Type} (kr : Bool → Option R) (aS0_0 : Int) (aS0_1 : ByteArray) (aS0_2 : Row) (aId1 : Int) (hc : c aS0_0 aS0_1 aS0_2 aId1 = true) : b kr aS0_0 aS0_1 aS0_2 aId1 = kr (v aS0_0 aS0_1 aS0_2 aId1) := by
  rw [b_bind]
  have e : vo aS0_0 aS0_1 aS0_2 aId1 = some (v aS0_0 aS0_1 aS0_2 aId1) := by
    unfold c at hc; unfold v
    cases h : vo aS0_0 aS0_1 aS0_2 aId1 with
    | none => rw [h] at hc; cases hc
    | some x => rfl
  unfold vo at e
  rw [e]; rfl
end Go.FG.Pu.laws_FnExactStreamJoin

