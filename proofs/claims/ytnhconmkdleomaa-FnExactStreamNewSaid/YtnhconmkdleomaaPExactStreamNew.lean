/- Functions of the program, told as functions of numbers, texts and lists, and what each comes to. No condition but those that each states. -/
import Derived.Test.YtnhconmkdleomaaLib
set_option linter.unusedVariables false
set_option linter.unusedSimpArgs false
set_option maxRecDepth 100000
namespace Go.FG.Pu.spec_StreamNew
def b {R : Type} (kr : Int → ByteArray → Row → Option R)  : Option R := kr 1 ({ data := #[] }) []
def v  : Int × ByteArray × Row := (1, ({ data := #[] }), [])
theorem b_eq {R : Type} (kr : Int → ByteArray → Row → Option R)  : b kr  = kr v.1 v.2.1 v.2.2 := by
  first | rfl | (unfold b v; simp only [Bool.cond_eq_ite]; (repeat' split) <;> rfl)
end Go.FG.Pu.spec_StreamNew

namespace Go.FG.Pu.impl_StreamNew
def b {R : Type} (kr : Int → ByteArray → Row → Option R)  : Option R := kr 1 ({ data := #[] }) []
def v  : Int × ByteArray × Row := (1, ({ data := #[] }), [])
theorem b_eq {R : Type} (kr : Int → ByteArray → Row → Option R)  : b kr  = kr v.1 v.2.1 v.2.2 := by
  first | rfl | (unfold b v; simp only [Bool.cond_eq_ite]; (repeat' split) <;> rfl)
end Go.FG.Pu.impl_StreamNew

namespace Go.FG.Pu.laws_eqReader
def b {R : Type} (kr : Bool → Option R) (a0_0 : Int) (a0_1 : Int) (b1_0 : Int) (b1_1 : Int) : Option R := bif (a0_0 != b1_0) then (kr false) else (bif (a0_1 != b1_1) then (kr false) else (kr true))
def v (a0_0 : Int) (a0_1 : Int) (b1_0 : Int) (b1_1 : Int) : Bool := bif (a0_0 != b1_0) then ((false)) else (bif (a0_1 != b1_1) then ((false)) else ((true)))
theorem b_eq {R : Type} (kr : Bool → Option R) (a0_0 : Int) (a0_1 : Int) (b1_0 : Int) (b1_1 : Int) : b kr a0_0 a0_1 b1_0 b1_1 = kr (v a0_0 a0_1 b1_0 b1_1) := by
  first | rfl | (unfold b v; simp only [Bool.cond_eq_ite]; (repeat' split) <;> rfl)
end Go.FG.Pu.laws_eqReader

namespace Go.FG.Pu.laws_eqReaderS
def r4 {R : Type} (N : Nat) (g : Row → Row → Bool → Int → Option R) (k0 : Row → Row → Bool → Int → Option R) (k1 : Row → Row → Bool → Int → Option R) (x0 : Row) (x1 : Row) (x2 : Bool) (x3 : Int) : Option R := bif (decide (x3 < (↑(List.length x0) : Int))) then (bif (decide (0 ≤ x3) && decide (x3 < (↑(List.length x0) : Int))) then (bif (decide (0 ≤ x3) && decide (x3 < (↑(List.length x1) : Int))) then (bif (!Pu.laws_eqReader.v (cvI (cellAt x0 (Int.toNat x3) 0)) (cvI (cellAt x0 (Int.toNat x3) 1)) (cvI (cellAt x1 (Int.toNat x3) 0)) (cvI (cellAt x1 (Int.toNat x3) 1))) then (k0 x0 x1 false x3) else (g x0 x1 x2 (w64 (x3 + 1)))) else (none)) else (none)) else (k1 x0 x1 x2 x3)
def l4 {R : Type} (N : Nat) (k0 : Row → Row → Bool → Int → Option R) (k1 : Row → Row → Bool → Int → Option R) : Nat → Row → Row → Bool → Int → Option R
  | 0 => (fun _ _ _ _ => none)
  | n + 1 => (fun x0 x1 x2 x3 => r4 N (l4 N k0 k1 n) k0 k1 x0 x1 x2 x3)
def b {R : Type} (N : Nat) (kr : Bool → Option R) (a0 : Row) (b1 : Row) : Option R := bif ((↑(List.length a0) : Int) != (↑(List.length b1) : Int)) then (kr false) else (l4 N (fun y4 y5 y6 y7 => kr y6) (fun y8 y9 y10 y11 => kr true) N a0 b1 false 0)
def v (a0 : Row) (b1 : Row) : Bool := (a0.length == b1.length) && (List.range a0.length).all fun i => Pu.laws_eqReader.v (cvI (cellAt a0 i 0)) (cvI (cellAt a0 i 1)) (cvI (cellAt b1 i 0)) (cvI (cellAt b1 i 1))
def fr (a b : Row) (i : Nat) : Bool := (List.range' i (a.length - i)).all fun i => Pu.laws_eqReader.v (cvI (cellAt a i 0)) (cvI (cellAt a i 1)) (cvI (cellAt b i 0)) (cvI (cellAt b i 1))
theorem run {R : Type} (N : Nat) (kr : Bool → Option R) (a b : Row) (hl : a.length = b.length) (ha : FitR a) : ∀ n (i : Nat), i ≤ a.length → a.length - i < n → l4 N (fun _ _ y _ => kr y) (fun _ _ _ _ => kr true) n a b false i = kr (fr a b i) := by
  refine Lib.loop_gen (fun n (i : Nat) => l4 N (fun _ _ y _ => kr y) (fun _ _ _ _ => kr true) n a b false i) (fun i => a.length - i) (fun i => i ≤ a.length) (fun i => kr (fr a b i)) (fun n i hi => ?_)
  simp only [l4, r4, Lib.dlt, Lib.dle0, Lib.toN, Bool.true_and]
  by_cases h : i < a.length
  · have e : a.length - i = (a.length - (i + 1)) + 1 := by omega
    have hf : fr a b i = (Pu.laws_eqReader.v (cvI (cellAt a i 0)) (cvI (cellAt a i 1)) (cvI (cellAt b i 0)) (cvI (cellAt b i 1)) && fr a b (i + 1)) := by
      unfold fr; rw [e, List.range'_succ, List.all_cons]
    have hb : i < b.length := by omega
    simp only [h, hb, decide_true, cond_true, Lib.w64_s h ha.1]
    cases hv : Pu.laws_eqReader.v (cvI (cellAt a i 0)) (cvI (cellAt a i 1)) (cvI (cellAt b i 0)) (cvI (cellAt b i 1)) with
    | true => exact .inr ⟨i + 1, h, by omega, by rw [hf, hv]; rfl, rfl⟩
    | false => left; rw [hf, hv]; rfl
  · left
    have : a.length - i = 0 := by omega
    simp only [h, decide_false, cond_false]
    unfold fr; rw [this]; rfl
theorem b_eq {R : Type} (kr : Bool → Option R) (a0 : Row) (b1 : Row) (f0 : FitR a0) (f1 : FitR b1) : ∃ N, b N kr a0 b1 = kr (v a0 b1) := by
  refine ⟨a0.length + 1, ?_⟩
  unfold b v
  by_cases hl : a0.length = b1.length
  · have e : ((a0.length : Int) != (b1.length : Int)) = false := by simp [hl]
    rw [e, cond_false]
    refine (run _ kr a0 b1 hl f0 (a0.length + 1) 0 (by omega) (by omega)).trans ?_
    unfold fr; rw [show (a0.length == b1.length) = true by simp [hl], Nat.sub_zero, ← List.range_eq_range']; rfl
  · have e : ((a0.length : Int) != (b1.length : Int)) = true := by simp; omega
    have e2 : (a0.length == b1.length) = false := by simp; omega
    rw [e, cond_true, e2]; rfl
theorem refl (a : Row) : v a a = true := by unfold v; simp [Pu.laws_eqReader.v]
end Go.FG.Pu.laws_eqReaderS

namespace Go.FG.Pu.laws_eqStream
def b {R : Type} (kr : Bool → Option R) (a0_0 : Int) (a0_1 : ByteArray) (a0_2 : Row) (b1_0 : Int) (b1_1 : ByteArray) (b1_2 : Row) : Option R := bif (a0_0 != b1_0) then (kr false) else (bif (!List.beq (ByteArray.toList a0_1) (ByteArray.toList b1_1)) then (kr false) else (bif (!Pu.laws_eqReaderS.v a0_2 b1_2) then (kr false) else (kr true)))
def v (a0_0 : Int) (a0_1 : ByteArray) (a0_2 : Row) (b1_0 : Int) (b1_1 : ByteArray) (b1_2 : Row) : Bool := bif (a0_0 != b1_0) then ((false)) else (bif (!List.beq (ByteArray.toList a0_1) (ByteArray.toList b1_1)) then ((false)) else (bif (!Pu.laws_eqReaderS.v a0_2 b1_2) then ((false)) else ((true))))
theorem b_eq {R : Type} (kr : Bool → Option R) (a0_0 : Int) (a0_1 : ByteArray) (a0_2 : Row) (b1_0 : Int) (b1_1 : ByteArray) (b1_2 : Row) : b kr a0_0 a0_1 a0_2 b1_0 b1_1 b1_2 = kr (v a0_0 a0_1 a0_2 b1_0 b1_1 b1_2) := by
  first | rfl | (unfold b v; simp only [Bool.cond_eq_ite]; (repeat' split) <;> rfl)
theorem refl (s : Int) (t : ByteArray) (a : Row) : v s t a s t a = true := by
  unfold v; simp [Lib.beq_self, Pu.laws_eqReaderS.refl]
end Go.FG.Pu.laws_eqStream

namespace Go.FG.Pu.laws_markReaderS
def r2 {R : Type} (N : Nat) (g : Int → Int → Row → Option R) (k0 : Int → Int → Row → Option R) (x0 : Int) (x1 : Int) (x2 : Row) : Option R := bif (decide (x1 < (↑(List.length x2) : Int))) then (bif (decide (0 ≤ x1) && decide (x1 < (↑(List.length x2) : Int))) then (bif (decide (0 ≤ x1) && decide (x1 < (↑(List.length (setC x2 (Int.toNat x1) 0 [CV.i IntKind.i64 x0])) : Int))) then (g (w64 (w64 (x0 + 1) + 1)) (w64 (x1 + 1)) (setC (setC x2 (Int.toNat x1) 0 [CV.i IntKind.i64 x0]) (Int.toNat x1) 1 [CV.i IntKind.i64 (w64 (x0 + 1))])) else (none)) else (none)) else (k0 x0 x1 x2)
def l2 {R : Type} (N : Nat) (k0 : Int → Int → Row → Option R) : Nat → Int → Int → Row → Option R
  | 0 => (fun _ _ _ => none)
  | n + 1 => (fun x0 x1 x2 => r2 N (l2 N k0 n) k0 x0 x1 x2)
def b {R : Type} (N : Nat) (kr : Int → Row → Option R) (a0 : Row) (k1 : Int) : Option R := l2 N (fun y3 y4 y5 => kr y3 y5) N k1 0 a0
def mk : Int → Row → Row
  | _, [] => []
  | k, y :: r => splice (splice y 0 [CV.i IntKind.i64 k]) 1 [CV.i IntKind.i64 (w64 (k + 1))] :: mk (w64 (w64 (k + 1) + 1)) r
def v (a0 : Row) (k1 : Int) : Int × Row := (Lib.up k1 (2 * a0.length), mk k1 a0)
theorem b_eq {R : Type} (kr : Int → Row → Option R) (a0 : Row) (k1 : Int) (f0 : FitR a0) : ∃ N, b N kr a0 k1 = kr (v a0 k1).1 (v a0 k1).2 := by
  refine ⟨a0.length + 1, ?_⟩
  unfold b
  have := Lib.loop_gen (fun m (s : Int × Nat × Row) => l2 (a0.length + 1) (fun y3 y4 y5 => kr y3 y5) m s.1 s.2.1 s.2.2) (fun s => a0.length - s.2.1) (fun s => s.2.2.length = a0.length ∧ s.2.1 ≤ a0.length)
    (fun s => kr (Lib.up s.1 (2 * (a0.length - s.2.1))) (s.2.2.take s.2.1 ++ mk s.1 (s.2.2.drop s.2.1))) (fun m s hs => by
    obtain ⟨k, i, x⟩ := s
    obtain ⟨hx, hi⟩ := hs
    dsimp only at hx hi ⊢
    simp only [l2, r2, Lib.dlt, Lib.dle0, Lib.toN, Lib.length_setC, Bool.true_and]
    by_cases h : i < x.length
    · right
      simp only [h, decide_true, cond_true, Lib.w64_s h (by rw [hx]; exact f0.1)]
      refine ⟨(w64 (w64 (k + 1) + 1), i + 1, setC (setC x i 0 [CV.i IntKind.i64 k]) i 1 [CV.i IntKind.i64 (w64 (k + 1))]), ⟨by simp only [Lib.length_setC]; exact hx, by dsimp only; omega⟩, by dsimp only; omega, ?_, rfl⟩
      dsimp only
      have e : setC (setC x i 0 [CV.i IntKind.i64 k]) i 1 [CV.i IntKind.i64 (w64 (k + 1))] = x.set i (splice (splice x[i] 0 [CV.i IntKind.i64 k]) 1 [CV.i IntKind.i64 (w64 (k + 1))]) := by
        rw [Lib.setC_eq (by rw [Lib.length_setC]; exact h)]
        simp [Lib.setC_eq h]
      rw [e, Lib.set_take_drop h, Lib.drop_cons_of h]
      have e2 : 2 * (a0.length - i) = 2 * (a0.length - (i + 1)) + 1 + 1 := by omega
      rw [e2]; rfl
    · left
      have h0 : a0.length - i = 0 := by omega
      simp only [h, decide_false, cond_false, h0]
      rw [List.take_of_length_le (by omega), List.drop_eq_nil_of_le (by omega)]
      simp [Lib.up, mk]) (a0.length + 1) (k1, 0, a0) ⟨rfl, by dsimp only; omega⟩ (by dsimp only; omega)
  simpa [v] using this
end Go.FG.Pu.laws_markReaderS

namespace Go.FG.Pu.laws_markStream
def b {R : Type} (kr : Int → Row → Option R) (a0_0 : Int) (a0_1 : ByteArray) (a0_2 : Row) (k1 : Int) : Option R := kr (Lib.up k1 (Nat.mul 2 (List.length a0_2))) (Pu.laws_markReaderS.mk k1 a0_2)
def v (a0_0 : Int) (a0_1 : ByteArray) (a0_2 : Row) (k1 : Int) : Int × Row := ((Lib.up k1 (Nat.mul 2 (List.length a0_2))), (Pu.laws_markReaderS.mk k1 a0_2))
theorem b_eq {R : Type} (kr : Int → Row → Option R) (a0_0 : Int) (a0_1 : ByteArray) (a0_2 : Row) (k1 : Int) : b kr a0_0 a0_1 a0_2 k1 = kr ((v a0_0 a0_1 a0_2 k1).1) ((v a0_0 a0_1 a0_2 k1).2) := by
  first | rfl | (unfold b v; simp only [Bool.cond_eq_ite]; (repeat' split) <;> rfl)
end Go.FG.Pu.laws_markStream

namespace Go.FG.Pu.laws_heldReaderS
def r2 {R : Type} (N : Nat) (g : Row → Int → Int → Int → Option R) (k0 : Row → Int → Int → Int → Option R) (k1 : Row → Int → Int → Int → Option R) (x0 : Row) (x1 : Int) (x2 : Int) (x3 : Int) : Option R := bif (decide (x3 < (↑(List.length x0) : Int))) then (bif (decide (0 ≤ x3) && decide (x3 < (↑(List.length x0) : Int))) then (bif (cvI (cellAt x0 (Int.toNat x3) 0) != x1) then (k0 x0 x1 (-1) x3) else (bif (decide (0 ≤ x3) && decide (x3 < (↑(List.length x0) : Int))) then (bif (cvI (cellAt x0 (Int.toNat x3) 1) != w64 (x1 + 1)) then (k0 x0 (w64 (x1 + 1)) (-1) x3) else (g x0 (w64 (w64 (x1 + 1) + 1)) x2 (w64 (x3 + 1)))) else (none))) else (none)) else (k1 x0 x1 x2 x3)
def l2 {R : Type} (N : Nat) (k0 : Row → Int → Int → Int → Option R) (k1 : Row → Int → Int → Int → Option R) : Nat → Row → Int → Int → Int → Option R
  | 0 => (fun _ _ _ _ => none)
  | n + 1 => (fun x0 x1 x2 x3 => r2 N (l2 N k0 k1 n) k0 k1 x0 x1 x2 x3)
def b {R : Type} (N : Nat) (kr : Int → Option R) (a0 : Row) (k1 : Int) : Option R := l2 N (fun y4 y5 y6 y7 => kr y6) (fun y8 y9 y10 y11 => kr y9) N a0 k1 0 0
def v : Row → Int → Int
  | [], k => k
  | y :: r, k => bif cvI (y.getD 0 (.b false)) != k then -1 else bif cvI (y.getD 1 (.b false)) != w64 (k + 1) then -1 else v r (w64 (w64 (k + 1) + 1))
theorem b_eq {R : Type} (kr : Int → Option R) (a0 : Row) (k1 : Int) (f0 : FitR a0) : ∃ N, b N kr a0 k1 = kr (v a0 k1) := by
  refine ⟨a0.length + 1, ?_⟩
  unfold b
  have := Lib.loop_gen (fun m (s : Int × Nat) => l2 (a0.length + 1) (fun y4 y5 y6 y7 => kr y6) (fun y8 y9 y10 y11 => kr y9) m a0 s.1 0 s.2) (fun s => a0.length - s.2) (fun s => s.2 ≤ a0.length)
    (fun s => kr (v (a0.drop s.2) s.1)) (fun m s hi => by
    obtain ⟨k, i⟩ := s
    dsimp only at hi ⊢
    simp only [l2, r2, Lib.dlt, Lib.dle0, Lib.toN, Bool.true_and]
    by_cases h : i < a0.length
    · simp only [h, decide_true, cond_true, Lib.w64_s h f0.1]
      rw [Lib.drop_cons_of h]
      simp only [v, Lib.cellAt_of h]
      cases h1 : (cvI (a0[i].getD 0 (.b false)) != k) with
      | true => left; rfl
      | false =>
        cases h2 : (cvI (a0[i].getD 1 (.b false)) != w64 (k + 1)) with
        | true => left; rfl
        | false => right; exact ⟨(w64 (w64 (k + 1) + 1), i + 1), by dsimp only; omega, by dsimp only; omega, rfl, rfl⟩
    · left
      simp only [h, decide_false, cond_false]
      rw [List.drop_eq_nil_of_le (by omega)]; rfl) (a0.length + 1) (k1, 0) (by dsimp only; omega) (by dsimp only; omega)
  simpa using this
theorem marked : ∀ (r : Row) (k : Int), (∀ y ∈ r, y.length = 2) → v (Pu.laws_markReaderS.mk k r) k = Lib.up k (2 * r.length)
  | [], k, _ => rfl
  | y :: r, k, h => by
    have hy := h y (List.mem_cons_self ..)
    obtain ⟨a, b, rfl⟩ : ∃ a b, y = [a, b] := by
      match y, hy with
      | [a, b], _ => exact ⟨a, b, rfl⟩
    have e : 2 * (List.length ([a, b] :: r)) = 2 * r.length + 1 + 1 := by simp; omega
    rw [e]
    simp only [Pu.laws_markReaderS.mk, v, splice]
    simp only [Lib.up]
    rw [← marked r _ (fun z hz => h z (List.mem_cons_of_mem _ hz))]
    simp [cvI]
end Go.FG.Pu.laws_heldReaderS

namespace Go.FG.Pu.laws_heldStream
def b {R : Type} (kr : Int → Option R) (a0_0 : Int) (a0_1 : ByteArray) (a0_2 : Row) (k1 : Int) : Option R := bif (decide (Pu.laws_heldReaderS.v a0_2 k1 < 0)) then (kr (-1)) else (kr (Pu.laws_heldReaderS.v a0_2 k1))
def v (a0_0 : Int) (a0_1 : ByteArray) (a0_2 : Row) (k1 : Int) : Int := bif (decide (Pu.laws_heldReaderS.v a0_2 k1 < 0)) then (((-1))) else (((Pu.laws_heldReaderS.v a0_2 k1)))
theorem b_eq {R : Type} (kr : Int → Option R) (a0_0 : Int) (a0_1 : ByteArray) (a0_2 : Row) (k1 : Int) : b kr a0_0 a0_1 a0_2 k1 = kr (v a0_0 a0_1 a0_2 k1) := by
  first | rfl | (unfold b v; simp only [Bool.cond_eq_ite]; (repeat' split) <;> rfl)
end Go.FG.Pu.laws_heldStream

namespace Go.FG.Pu.laws_FnExactStreamNew
def b {R : Type} (kr : Bool → Option R)  : Option R := kr true
def v  : Bool := (true)
theorem b_eq {R : Type} (kr : Bool → Option R)  : b kr  = kr v := by
  first | rfl | (unfold b v; simp only [Bool.cond_eq_ite]; (repeat' split) <;> rfl)
theorem law : v = true := rfl
end Go.FG.Pu.laws_FnExactStreamNew

