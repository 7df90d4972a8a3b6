/- What the functions come to, in plain numbers, texts and lists; last the law itself. No condition but those that each states. -/
import Derived.Test.YticmocblmmahkaaPExactStoredRight
set_option linter.unusedVariables false
set_option linter.unusedSimpArgs false
set_option maxRecDepth 100000
namespace Go.FG.Pu.laws_szIntSS
theorem bd {q : Row} {L : Int} (z : q.length ≤ 9223372036854775807) (h0 : 0 ≤ L) (h1 : L ≤ 1048576) : Pu.laws_szIntS.v q L ≤ 1048576 ∧ (¬ Pu.laws_szIntS.v q L < 0 → q.length ≤ 1048576) := by
  unfold Pu.laws_szIntS.v
  rw [Lib.w64_ok (by omega) (by omega)]
  by_cases c0 : L - (q.length : Int) < 0
  · rw [decide_eq_true c0, cond_true]; exact ⟨by omega, fun h => absurd (by omega) h⟩
  · rw [decide_eq_false c0, cond_false]; exact ⟨by omega, fun h => by omega⟩
def inn (a : Row) : Prop := ∀ j, j < a.length → (cvL (cellAt a j 0)).length ≤ 1048576
theorem run (a : Row) (L : Int) (h0 : 0 ≤ L) (h1 : L ≤ 1048576) (ha : FitR a) : ∃ x, vo a L = some x ∧ x ≤ 1048576 ∧ (0 ≤ x → a.length ≤ 1048576 ∧ inn a) := by
  have hl := ha.1
  unfold vo b
  rw [Lib.w64_ok (x := L - (a.length : Int)) (by omega) (by omega)]
  by_cases hc : L - (a.length : Int) < 0
  · rw [decide_eq_true hc]; exact ⟨-1, rfl, by omega, fun h => by omega⟩
  · rw [decide_eq_false hc, cond_false]
    have key := Lib.loop_post (fun n (s : Nat × Int) => l5 Lib.big (fun (_ : Row) (_ y6 _ : Int) => some y6) (fun (_ : Row) (y9 _ _ : Int) => some y9) n a s.2 0 (s.1 : Int)) (fun s => a.length - s.1) (fun s => s.1 ≤ a.length ∧ 0 ≤ s.2 ∧ s.2 ≤ 1048576 ∧ ∀ j, j < s.1 → (cvL (cellAt a j 0)).length ≤ 1048576) (fun x => x ≤ 1048576 ∧ (0 ≤ x → inn a)) (fun n s hs => by
      obtain ⟨i, L⟩ := s
      obtain ⟨hi, hL0, hL1, hin⟩ := hs
      dsimp only at hi hL0 hL1 hin ⊢
      by_cases h : i < a.length
      · have hi1 : w64 ((i : Int) + 1) = ((i + 1 : Nat) : Int) := Lib.w64_ok (by omega) (by omega)
        have hw := bd (Lib.FitR_cell ha i 0).1 hL0 hL1
        by_cases hn : Pu.laws_szIntS.v (cvL (cellAt a i 0)) L < 0
        · exact .inl ⟨-1, by simp only [l5, r5, Lib.dlt, h, decide_true, Lib.dle0, Bool.and_self, cond_true, Lib.toN, hn], by omega, fun h => by omega⟩
        · exact .inr ⟨(i + 1, Pu.laws_szIntS.v (cvL (cellAt a i 0)) L), ⟨h, by omega, hw.1, fun j hj => by
            by_cases hji : j = i
            · subst hji; exact hw.2 hn
            · exact hin j (by dsimp only at hj; omega)⟩, by dsimp only; omega, by simp only [l5, r5, Lib.dlt, h, decide_true, decide_false, Lib.dle0, Bool.and_self, cond_true, cond_false, Lib.toN, hn, hi1]⟩
      · exact .inl ⟨L, by simp only [l5, r5, Lib.dlt, h, decide_false, cond_false], hL1, fun _ j hj => hin j (by omega)⟩) Lib.big (0, L - (a.length : Int)) ⟨Nat.zero_le _, by dsimp only; omega, by dsimp only; omega, fun j hj => absurd hj (Nat.not_lt_zero j)⟩ (Lib.lt_big (by omega))
    obtain ⟨x, hx, hb, hb2⟩ := key
    exact ⟨x, hx, hb, fun h => ⟨by omega, hb2 h⟩⟩
theorem ok (a : Row) (L : Int) (h0 : 0 ≤ L) (h1 : L ≤ 1048576) (ha : FitR a) : c a L = true ∧ v a L ≤ 1048576 ∧ (0 ≤ v a L → a.length ≤ 1048576 ∧ inn a) := by
  obtain ⟨x, h, h2, h3⟩ := run a L h0 h1 ha
  obtain ⟨e1, e2⟩ := out a L h
  rw [e2]; exact ⟨e1, h2, h3⟩
end Go.FG.Pu.laws_szIntSS

namespace Go.FG.Pu.laws_szEntry
theorem bd (x0 : ByteArray) (x1 : Int) (x2 : Int) (x3 : ByteArray) (L : Int) (h0 : okS x0) (h3 : okS x3) (hL0 : 0 ≤ L) (hL1 : L ≤ 1048576) : v x0 x1 x2 x3 L ≤ 1048576 := by
  have hz : ∀ x, okS x → x.size ≤ 4611686018427387904 := fun _ h => h
  have z0 := hz _ h0
  have z3 := hz _ h3
  unfold v
  rw [Lib.w64_ok (x := L - (x0.size : Int)) (by omega) (by omega)]
  by_cases c0 : L - (x0.size : Int) < 0
  · rw [decide_eq_true c0, cond_true]; omega
  · rw [decide_eq_false c0, cond_false]
    rw [Lib.w64_ok (x := (L - (x0.size : Int)) - (x3.size : Int)) (by omega) (by omega)]
    by_cases c3 : (L - (x0.size : Int)) - (x3.size : Int) < 0
    · rw [decide_eq_true c3, cond_true]; omega
    · rw [decide_eq_false c3, cond_false]
      omega
end Go.FG.Pu.laws_szEntry

namespace Go.FG.Pu.laws_szEntryS
theorem run (a : Row) (L : Int) (h0 : 0 ≤ L) (h1 : L ≤ 1048576) (ha : FitR a) : ∃ x, vo a L = some x ∧ x ≤ 1048576 ∧ (0 ≤ x → a.length ≤ 1048576) := by
  have hl := ha.1
  unfold vo b
  rw [Lib.w64_ok (x := L - (a.length : Int)) (by omega) (by omega)]
  by_cases hc : L - (a.length : Int) < 0
  · rw [decide_eq_true hc]; exact ⟨-1, rfl, by omega, fun h => by omega⟩
  · rw [decide_eq_false hc, cond_false]
    have key := Lib.loop_post (fun n (s : Nat × Int) => l5 Lib.big (fun (_ : Row) (_ y6 _ : Int) => some y6) (fun (_ : Row) (y9 _ _ : Int) => some y9) n a s.2 0 (s.1 : Int)) (fun s => a.length - s.1) (fun s => s.1 ≤ a.length ∧ 0 ≤ s.2 ∧ s.2 ≤ 1048576) (fun x => x ≤ 1048576) (fun n s hs => by
      obtain ⟨i, L⟩ := s
      obtain ⟨hi, hL0, hL1⟩ := hs
      dsimp only at hi hL0 hL1 ⊢
      by_cases h : i < a.length
      · have hi1 : w64 ((i : Int) + 1) = ((i + 1 : Nat) : Int) := Lib.w64_ok (by omega) (by omega)
        have hw : Pu.laws_szEntry.v (cvS (cellAt a i 0)) (cvI (cellAt a i 1)) (cvI (cellAt a i (1 + 1))) (cvS (cellAt a i (1 + 1 + 1))) L ≤ 1048576 := Pu.laws_szEntry.bd _ _ _ _ L (Lib.okS_cell ha i _) (Lib.okS_cell ha i _) hL0 hL1
        by_cases hn : Pu.laws_szEntry.v (cvS (cellAt a i 0)) (cvI (cellAt a i 1)) (cvI (cellAt a i (1 + 1))) (cvS (cellAt a i (1 + 1 + 1))) L < 0
        · exact .inl ⟨-1, by simp only [l5, r5, Lib.dlt, h, decide_true, Lib.dle0, Bool.and_self, cond_true, Lib.toN, hn], by omega⟩
        · exact .inr ⟨(i + 1, Pu.laws_szEntry.v (cvS (cellAt a i 0)) (cvI (cellAt a i 1)) (cvI (cellAt a i (1 + 1))) (cvS (cellAt a i (1 + 1 + 1))) L), ⟨h, by omega, hw⟩, by dsimp only; omega, by simp only [l5, r5, Lib.dlt, h, decide_true, decide_false, Lib.dle0, Bool.and_self, cond_true, cond_false, Lib.toN, hn, hi1]⟩
      · exact .inl ⟨L, by simp only [l5, r5, Lib.dlt, h, decide_false, cond_false], hL1⟩) Lib.big (0, L - (a.length : Int)) ⟨Nat.zero_le _, by dsimp only; omega, by dsimp only; omega⟩ (Lib.lt_big (by omega))
    obtain ⟨x, hx, hb⟩ := key
    exact ⟨x, hx, hb, fun _ => by omega⟩
theorem ok (a : Row) (L : Int) (h0 : 0 ≤ L) (h1 : L ≤ 1048576) (ha : FitR a) : c a L = true ∧ v a L ≤ 1048576 ∧ (0 ≤ v a L → a.length ≤ 1048576) := by
  obtain ⟨x, h, h2, h3⟩ := run a L h0 h1 ha
  obtain ⟨e1, e2⟩ := out a L h
  rw [e2]; exact ⟨e1, h2, h3⟩
end Go.FG.Pu.laws_szEntryS

namespace Go.FG.Pu.laws_szStringS
theorem run (a : Row) (L : Int) (h0 : 0 ≤ L) (h1 : L ≤ 1048576) (ha : FitR a) : ∃ x, vo a L = some x ∧ x ≤ 1048576 ∧ (0 ≤ x → a.length ≤ 1048576) := by
  have hl := ha.1
  unfold vo b
  rw [Lib.w64_ok (x := L - (a.length : Int)) (by omega) (by omega)]
  by_cases hc : L - (a.length : Int) < 0
  · rw [decide_eq_true hc]; exact ⟨-1, rfl, by omega, fun h => by omega⟩
  · rw [decide_eq_false hc, cond_false]
    have key := Lib.loop_post (fun n (s : Nat × Int) => l5 Lib.big (fun (_ : Row) (_ y6 _ : Int) => some y6) (fun (_ : Row) (y9 _ _ : Int) => some y9) n a s.2 0 (s.1 : Int)) (fun s => a.length - s.1) (fun s => s.1 ≤ a.length ∧ 0 ≤ s.2 ∧ s.2 ≤ 1048576) (fun x => x ≤ 1048576) (fun n s hs => by
      obtain ⟨i, L⟩ := s
      obtain ⟨hi, hL0, hL1⟩ := hs
      dsimp only at hi hL0 hL1 ⊢
      by_cases h : i < a.length
      · have hi1 : w64 ((i : Int) + 1) = ((i + 1 : Nat) : Int) := Lib.w64_ok (by omega) (by omega)
        have z : (cvS (cellAt a i 0)).size ≤ 4611686018427387904 := Lib.okS_cell ha i 0
        have hw : w64 (L - (↑(ByteArray.size (cvS (cellAt a i 0))) : Int)) ≤ 1048576 := by rw [Lib.w64_ok (by omega) (by omega)]; omega
        by_cases hn : w64 (L - (↑(ByteArray.size (cvS (cellAt a i 0))) : Int)) < 0
        · exact .inl ⟨-1, by simp only [l5, r5, Lib.dlt, h, decide_true, Lib.dle0, Bool.and_self, cond_true, Lib.toN, hn], by omega⟩
        · exact .inr ⟨(i + 1, w64 (L - (↑(ByteArray.size (cvS (cellAt a i 0))) : Int))), ⟨h, by omega, hw⟩, by dsimp only; omega, by simp only [l5, r5, Lib.dlt, h, decide_true, decide_false, Lib.dle0, Bool.and_self, cond_true, cond_false, Lib.toN, hn, hi1]⟩
      · exact .inl ⟨L, by simp only [l5, r5, Lib.dlt, h, decide_false, cond_false], hL1⟩) Lib.big (0, L - (a.length : Int)) ⟨Nat.zero_le _, by dsimp only; omega, by dsimp only; omega⟩ (Lib.lt_big (by omega))
    obtain ⟨x, hx, hb⟩ := key
    exact ⟨x, hx, hb, fun _ => by omega⟩
theorem ok (a : Row) (L : Int) (h0 : 0 ≤ L) (h1 : L ≤ 1048576) (ha : FitR a) : c a L = true ∧ v a L ≤ 1048576 ∧ (0 ≤ v a L → a.length ≤ 1048576) := by
  obtain ⟨x, h, h2, h3⟩ := run a L h0 h1 ha
  obtain ⟨e1, e2⟩ := out a L h
  rw [e2]; exact ⟨e1, h2, h3⟩
end Go.FG.Pu.laws_szStringS

namespace Go.FG.Pu.laws_szSketch
theorem ok (r : Row) (k : Int) (L : Int) (h0 : 0 ≤ L) (h1 : L ≤ 1048576) (ha : FitR r) : c r k L = true ∧ v r k L ≤ 1048576 ∧ (0 ≤ v r k L → r.length ≤ 1048576 ∧ Pu.laws_szIntSS.inn r) := by
  obtain ⟨e1, e2, e3⟩ := Pu.laws_szIntSS.ok r L h0 h1 ha
  by_cases h : Pu.laws_szIntSS.v r L < 0
  · obtain ⟨q1, q2⟩ := out r k L (x := -1) (by unfold vo b; rw [e1, cond_true, decide_eq_true h, cond_true])
    rw [q2]; exact ⟨q1, by omega, fun h => by omega⟩
  · obtain ⟨q1, q2⟩ := out r k L (x := Pu.laws_szIntSS.v r L) (by unfold vo b; rw [e1, cond_true, decide_eq_false h, cond_false])
    rw [q2]; exact ⟨q1, e2, e3⟩
end Go.FG.Pu.laws_szSketch

namespace Go.FG.Pu.laws_szPolicy
theorem ok (r0 r1 r2 : Row) (k : Int) (L : Int) (h0 : 0 ≤ L) (h1 : L ≤ 1048576) (f0 : FitR r0) (f1 : FitR r1) (f2 : FitR r2) : c r0 r1 r2 k L = true ∧ v r0 r1 r2 k L ≤ 1048576 ∧ (0 ≤ v r0 r1 r2 k L → r0.length ≤ 1048576 ∧ r1.length ≤ 1048576 ∧ r2.length ≤ 1048576 ∧ Pu.laws_szIntSS.inn r2) := by
  have a1 := Pu.laws_szStringS.ok r0 L h0 h1 f0
  by_cases hA : Pu.laws_szStringS.v r0 L < 0
  · obtain ⟨q1, q2⟩ := out r0 r1 r2 k L (x := -1) (by unfold vo b; rw [a1.1, cond_true, decide_eq_true hA, cond_true])
    rw [q2]; exact ⟨q1, by omega, fun h => by omega⟩
  have a2 := Pu.laws_szStringS.ok r1 (Pu.laws_szStringS.v r0 L) (by omega) a1.2.1 f1
  by_cases hB : Pu.laws_szStringS.v r1 (Pu.laws_szStringS.v r0 L) < 0
  · obtain ⟨q1, q2⟩ := out r0 r1 r2 k L (x := -1) (by unfold vo b; rw [a1.1, cond_true, decide_eq_false hA, cond_false, a2.1, cond_true, decide_eq_true hB, cond_true])
    rw [q2]; exact ⟨q1, by omega, fun h => by omega⟩
  have a3 := Pu.laws_szSketch.ok r2 k (Pu.laws_szStringS.v r1 (Pu.laws_szStringS.v r0 L)) (by omega) a2.2.1 f2
  by_cases hC : Pu.laws_szSketch.v r2 k (Pu.laws_szStringS.v r1 (Pu.laws_szStringS.v r0 L)) < 0
  · obtain ⟨q1, q2⟩ := out r0 r1 r2 k L (x := -1) (by unfold vo b; rw [a1.1, cond_true, decide_eq_false hA, cond_false, a2.1, cond_true, decide_eq_false hB, cond_false, a3.1, cond_true, decide_eq_true hC, cond_true])
    rw [q2]; exact ⟨q1, by omega, fun h => by omega⟩
  obtain ⟨q1, q2⟩ := out r0 r1 r2 k L (x := Pu.laws_szSketch.v r2 k (Pu.laws_szStringS.v r1 (Pu.laws_szStringS.v r0 L))) (by unfold vo b; rw [a1.1, cond_true, decide_eq_false hA, cond_false, a2.1, cond_true, decide_eq_false hB, cond_false, a3.1, cond_true, decide_eq_false hC, cond_false])
  rw [q2]; exact ⟨q1, a3.2.1, fun h => ⟨a1.2.2 (by omega), a2.2.2 (by omega), a3.2.2 h⟩⟩
end Go.FG.Pu.laws_szPolicy

namespace Go.FG.Pu.laws_szFetch
theorem bd (x0 : ByteArray) (x1 : ByteArray) (x2 : Int) (x3 : Int) (x4 : Int) (L : Int) (h0 : okS x0) (h1 : okS x1) (hL0 : 0 ≤ L) (hL1 : L ≤ 1048576) : v x0 x1 x2 x3 x4 L ≤ 1048576 := by
  have hz : ∀ x, okS x → x.size ≤ 4611686018427387904 := fun _ h => h
  have z0 := hz _ h0
  have z1 := hz _ h1
  unfold v
  rw [Lib.w64_ok (x := L - (x0.size : Int)) (by omega) (by omega)]
  by_cases c0 : L - (x0.size : Int) < 0
  · rw [decide_eq_true c0, cond_true]; omega
  · rw [decide_eq_false c0, cond_false]
    rw [Lib.w64_ok (x := (L - (x0.size : Int)) - (x1.size : Int)) (by omega) (by omega)]
    by_cases c1 : (L - (x0.size : Int)) - (x1.size : Int) < 0
    · rw [decide_eq_true c1, cond_true]; omega
    · rw [decide_eq_false c1, cond_false]
      omega
end Go.FG.Pu.laws_szFetch

namespace Go.FG.Pu.laws_szFetchS
theorem run (a : Row) (L : Int) (h0 : 0 ≤ L) (h1 : L ≤ 1048576) (ha : FitR a) : ∃ x, vo a L = some x ∧ x ≤ 1048576 ∧ (0 ≤ x → a.length ≤ 1048576) := by
  have hl := ha.1
  unfold vo b
  rw [Lib.w64_ok (x := L - (a.length : Int)) (by omega) (by omega)]
  by_cases hc : L - (a.length : Int) < 0
  · rw [decide_eq_true hc]; exact ⟨-1, rfl, by omega, fun h => by omega⟩
  · rw [decide_eq_false hc, cond_false]
    have key := Lib.loop_post (fun n (s : Nat × Int) => l5 Lib.big (fun (_ : Row) (_ y6 _ : Int) => some y6) (fun (_ : Row) (y9 _ _ : Int) => some y9) n a s.2 0 (s.1 : Int)) (fun s => a.length - s.1) (fun s => s.1 ≤ a.length ∧ 0 ≤ s.2 ∧ s.2 ≤ 1048576) (fun x => x ≤ 1048576) (fun n s hs => by
      obtain ⟨i, L⟩ := s
      obtain ⟨hi, hL0, hL1⟩ := hs
      dsimp only at hi hL0 hL1 ⊢
      by_cases h : i < a.length
      · have hi1 : w64 ((i : Int) + 1) = ((i + 1 : Nat) : Int) := Lib.w64_ok (by omega) (by omega)
        have hw : Pu.laws_szFetch.v (cvS (cellAt a i 0)) (cvS (cellAt a i 1)) (cvI (cellAt a i (1 + 1))) (cvI (cellAt a i (1 + 1 + 1))) (cvI (cellAt a i (1 + 1 + 1 + 1))) L ≤ 1048576 := Pu.laws_szFetch.bd _ _ _ _ _ L (Lib.okS_cell ha i _) (Lib.okS_cell ha i _) hL0 hL1
        by_cases hn : Pu.laws_szFetch.v (cvS (cellAt a i 0)) (cvS (cellAt a i 1)) (cvI (cellAt a i (1 + 1))) (cvI (cellAt a i (1 + 1 + 1))) (cvI (cellAt a i (1 + 1 + 1 + 1))) L < 0
        · exact .inl ⟨-1, by simp only [l5, r5, Lib.dlt, h, decide_true, Lib.dle0, Bool.and_self, cond_true, Lib.toN, hn], by omega⟩
        · exact .inr ⟨(i + 1, Pu.laws_szFetch.v (cvS (cellAt a i 0)) (cvS (cellAt a i 1)) (cvI (cellAt a i (1 + 1))) (cvI (cellAt a i (1 + 1 + 1))) (cvI (cellAt a i (1 + 1 + 1 + 1))) L), ⟨h, by omega, hw⟩, by dsimp only; omega, by simp only [l5, r5, Lib.dlt, h, decide_true, decide_false, Lib.dle0, Bool.and_self, cond_true, cond_false, Lib.toN, hn, hi1]⟩
      · exact .inl ⟨L, by simp only [l5, r5, Lib.dlt, h, decide_false, cond_false], hL1⟩) Lib.big (0, L - (a.length : Int)) ⟨Nat.zero_le _, by dsimp only; omega, by dsimp only; omega⟩ (Lib.lt_big (by omega))
    obtain ⟨x, hx, hb⟩ := key
    exact ⟨x, hx, hb, fun _ => by omega⟩
theorem ok (a : Row) (L : Int) (h0 : 0 ≤ L) (h1 : L ≤ 1048576) (ha : FitR a) : c a L = true ∧ v a L ≤ 1048576 ∧ (0 ≤ v a L → a.length ≤ 1048576) := by
  obtain ⟨x, h, h2, h3⟩ := run a L h0 h1 ha
  obtain ⟨e1, e2⟩ := out a L h
  rw [e2]; exact ⟨e1, h2, h3⟩
end Go.FG.Pu.laws_szFetchS

namespace Go.FG.Pu.laws_szClient
theorem bd (x0 : Int) (x1 : ByteArray) (x2 : Int) (x3 : Int) (x4 : Int) (x5 : ByteArray) (x6 : Int) (L : Int) (h1 : okS x1) (h5 : okS x5) (hL0 : 0 ≤ L) (hL1 : L ≤ 1048576) : v x0 x1 x2 x3 x4 x5 x6 L ≤ 1048576 := by
  have hz : ∀ x, okS x → x.size ≤ 4611686018427387904 := fun _ h => h
  have z1 := hz _ h1
  have z5 := hz _ h5
  unfold v
  rw [Lib.w64_ok (x := L - (x1.size : Int)) (by omega) (by omega)]
  by_cases c1 : L - (x1.size : Int) < 0
  · rw [decide_eq_true c1, cond_true]; omega
  · rw [decide_eq_false c1, cond_false]
    rw [Lib.w64_ok (x := (L - (x1.size : Int)) - (x5.size : Int)) (by omega) (by omega)]
    by_cases c5 : (L - (x1.size : Int)) - (x5.size : Int) < 0
    · rw [decide_eq_true c5, cond_true]; omega
    · rw [decide_eq_false c5, cond_false]
      omega
end Go.FG.Pu.laws_szClient

namespace Go.FG.Pu.laws_szClientS
theorem run (a : Row) (L : Int) (h0 : 0 ≤ L) (h1 : L ≤ 1048576) (ha : FitR a) : ∃ x, vo a L = some x ∧ x ≤ 1048576 ∧ (0 ≤ x → a.length ≤ 1048576) := by
  have hl := ha.1
  unfold vo b
  rw [Lib.w64_ok (x := L - (a.length : Int)) (by omega) (by omega)]
  by_cases hc : L - (a.length : Int) < 0
  · rw [decide_eq_true hc]; exact ⟨-1, rfl, by omega, fun h => by omega⟩
  · rw [decide_eq_false hc, cond_false]
    have key := Lib.loop_post (fun n (s : Nat × Int) => l5 Lib.big (fun (_ : Row) (_ y6 _ : Int) => some y6) (fun (_ : Row) (y9 _ _ : Int) => some y9) n a s.2 0 (s.1 : Int)) (fun s => a.length - s.1) (fun s => s.1 ≤ a.length ∧ 0 ≤ s.2 ∧ s.2 ≤ 1048576) (fun x => x ≤ 1048576) (fun n s hs => by
      obtain ⟨i, L⟩ := s
      obtain ⟨hi, hL0, hL1⟩ := hs
      dsimp only at hi hL0 hL1 ⊢
      by_cases h : i < a.length
      · have hi1 : w64 ((i : Int) + 1) = ((i + 1 : Nat) : Int) := Lib.w64_ok (by omega) (by omega)
        have hw : Pu.laws_szClient.v (cvI (cellAt a i 0)) (cvS (cellAt a i 1)) (cvI (cellAt a i (1 + 1))) (cvI (cellAt a i (1 + 1 + 1))) (cvI (cellAt a i (1 + 1 + 1 + 1))) (cvS (cellAt a i (1 + 1 + 1 + 1 + 1))) (cvI (cellAt a i (1 + 1 + 1 + 1 + 1 + 1))) L ≤ 1048576 := Pu.laws_szClient.bd _ _ _ _ _ _ _ L (Lib.okS_cell ha i _) (Lib.okS_cell ha i _) hL0 hL1
        by_cases hn : Pu.laws_szClient.v (cvI (cellAt a i 0)) (cvS (cellAt a i 1)) (cvI (cellAt a i (1 + 1))) (cvI (cellAt a i (1 + 1 + 1))) (cvI (cellAt a i (1 + 1 + 1 + 1))) (cvS (cellAt a i (1 + 1 + 1 + 1 + 1))) (cvI (cellAt a i (1 + 1 + 1 + 1 + 1 + 1))) L < 0
        · exact .inl ⟨-1, by simp only [l5, r5, Lib.dlt, h, decide_true, Lib.dle0, Bool.and_self, cond_true, Lib.toN, hn], by omega⟩
        · exact .inr ⟨(i + 1, Pu.laws_szClient.v (cvI (cellAt a i 0)) (cvS (cellAt a i 1)) (cvI (cellAt a i (1 + 1))) (cvI (cellAt a i (1 + 1 + 1))) (cvI (cellAt a i (1 + 1 + 1 + 1))) (cvS (cellAt a i (1 + 1 + 1 + 1 + 1))) (cvI (cellAt a i (1 + 1 + 1 + 1 + 1 + 1))) L), ⟨h, by omega, hw⟩, by dsimp only; omega, by simp only [l5, r5, Lib.dlt, h, decide_true, decide_false, Lib.dle0, Bool.and_self, cond_true, cond_false, Lib.toN, hn, hi1]⟩
      · exact .inl ⟨L, by simp only [l5, r5, Lib.dlt, h, decide_false, cond_false], hL1⟩) Lib.big (0, L - (a.length : Int)) ⟨Nat.zero_le _, by dsimp only; omega, by dsimp only; omega⟩ (Lib.lt_big (by omega))
    obtain ⟨x, hx, hb⟩ := key
    exact ⟨x, hx, hb, fun _ => by omega⟩
theorem ok (a : Row) (L : Int) (h0 : 0 ≤ L) (h1 : L ≤ 1048576) (ha : FitR a) : c a L = true ∧ v a L ≤ 1048576 ∧ (0 ≤ v a L → a.length ≤ 1048576) := by
  obtain ⟨x, h, h2, h3⟩ := run a L h0 h1 ha
  obtain ⟨e1, e2⟩ := out a L h
  rw [e2]; exact ⟨e1, h2, h3⟩
end Go.FG.Pu.laws_szClientS

namespace Go.FG.Pu.laws_szProxy
theorem ok (i0 : Int) (r1 r2 r3 r4 : Row) (i5 : Int) (r6 r7 : Row) (i8 : Int) (L : Int) (h0 : 0 ≤ L) (h1 : L ≤ 1048576) (f1 : FitR r1) (f2 : FitR r2) (f3 : FitR r3) (f4 : FitR r4) (f6 : FitR r6) (f7 : FitR r7) :
    c i0 r1 r2 r3 r4 i5 r6 r7 i8 L = true ∧ v i0 r1 r2 r3 r4 i5 r6 r7 i8 L ≤ 1048576 ∧ (0 ≤ v i0 r1 r2 r3 r4 i5 r6 r7 i8 L → r1.length ≤ 1048576 ∧ (r2.length ≤ 1048576 ∧ r3.length ≤ 1048576 ∧ r4.length ≤ 1048576 ∧ Pu.laws_szIntSS.inn r4) ∧ r6.length ≤ 1048576 ∧ r7.length ≤ 1048576) := by
  have a1 := Pu.laws_szEntryS.ok r1 L h0 h1 f1
  by_cases hA : Pu.laws_szEntryS.v r1 L < 0
  · obtain ⟨q1, q2⟩ := out i0 r1 r2 r3 r4 i5 r6 r7 i8 L (x := -1) (by unfold vo b; rw [a1.1, cond_true, decide_eq_true hA, cond_true])
    rw [q2]; exact ⟨q1, by omega, fun h => by omega⟩
  have a2 := Pu.laws_szPolicy.ok r2 r3 r4 i5 (Pu.laws_szEntryS.v r1 L) (by omega) a1.2.1 f2 f3 f4
  by_cases hB : Pu.laws_szPolicy.v r2 r3 r4 i5 (Pu.laws_szEntryS.v r1 L) < 0
  · obtain ⟨q1, q2⟩ := out i0 r1 r2 r3 r4 i5 r6 r7 i8 L (x := -1) (by unfold vo b; rw [a1.1, cond_true, decide_eq_false hA, cond_false, a2.1, cond_true, decide_eq_true hB, cond_true])
    rw [q2]; exact ⟨q1, by omega, fun h => by omega⟩
  have a3 := Pu.laws_szFetchS.ok r6 (Pu.laws_szPolicy.v r2 r3 r4 i5 (Pu.laws_szEntryS.v r1 L)) (by omega) a2.2.1 f6
  by_cases hC : Pu.laws_szFetchS.v r6 (Pu.laws_szPolicy.v r2 r3 r4 i5 (Pu.laws_szEntryS.v r1 L)) < 0
  · obtain ⟨q1, q2⟩ := out i0 r1 r2 r3 r4 i5 r6 r7 i8 L (x := -1) (by unfold vo b; rw [a1.1, cond_true, decide_eq_false hA, cond_false, a2.1, cond_true, decide_eq_false hB, cond_false, a3.1, cond_true, decide_eq_true hC, cond_true])
    rw [q2]; exact ⟨q1, by omega, fun h => by omega⟩
  have a4 := Pu.laws_szClientS.ok r7 (Pu.laws_szFetchS.v r6 (Pu.laws_szPolicy.v r2 r3 r4 i5 (Pu.laws_szEntryS.v r1 L))) (by omega) a3.2.1 f7
  by_cases hD : Pu.laws_szClientS.v r7 (Pu.laws_szFetchS.v r6 (Pu.laws_szPolicy.v r2 r3 r4 i5 (Pu.laws_szEntryS.v r1 L))) < 0
  · obtain ⟨q1, q2⟩ := out i0 r1 r2 r3 r4 i5 r6 r7 i8 L (x := -1) (by unfold vo b; rw [a1.1, cond_true, decide_eq_false hA, cond_false, a2.1, cond_true, decide_eq_false hB, cond_false, a3.1, cond_true, decide_eq_false hC, cond_false, a4.1, cond_true, decide_eq_true hD, cond_true])
    rw [q2]; exact ⟨q1, by omega, fun h => by omega⟩
  obtain ⟨q1, q2⟩ := out i0 r1 r2 r3 r4 i5 r6 r7 i8 L (x := Pu.laws_szClientS.v r7 (Pu.laws_szFetchS.v r6 (Pu.laws_szPolicy.v r2 r3 r4 i5 (Pu.laws_szEntryS.v r1 L)))) (by unfold vo b; rw [a1.1, cond_true, decide_eq_false hA, cond_false, a2.1, cond_true, decide_eq_false hB, cond_false, a3.1, cond_true, decide_eq_false hC, cond_false, a4.1, cond_true, decide_eq_false hD, cond_false])
  rw [q2]; exact ⟨q1, a4.2.1, fun h => ⟨a1.2.2 (by omega), a2.2.2 (by omega), a3.2.2 (by omega), a4.2.2 h⟩⟩
end Go.FG.Pu.laws_szProxy

namespace Go.FG.Pu.laws_szFile
theorem bd (x0 : ByteArray) (x1 : ByteArray) (x2 : Int) (L : Int) (h0 : okS x0) (h1 : okS x1) (hL0 : 0 ≤ L) (hL1 : L ≤ 1048576) : v x0 x1 x2 L ≤ 1048576 := by
  have hz : ∀ x, okS x → x.size ≤ 4611686018427387904 := fun _ h => h
  have z0 := hz _ h0
  have z1 := hz _ h1
  unfold v
  rw [Lib.w64_ok (x := L - (x0.size : Int)) (by omega) (by omega)]
  by_cases c0 : L - (x0.size : Int) < 0
  · rw [decide_eq_true c0, cond_true]; omega
  · rw [decide_eq_false c0, cond_false]
    rw [Lib.w64_ok (x := (L - (x0.size : Int)) - (x1.size : Int)) (by omega) (by omega)]
    by_cases c1 : (L - (x0.size : Int)) - (x1.size : Int) < 0
    · rw [decide_eq_true c1, cond_true]; omega
    · rw [decide_eq_false c1, cond_false]
      omega
end Go.FG.Pu.laws_szFile

namespace Go.FG.Pu.laws_szFileS
theorem run (a : Row) (L : Int) (h0 : 0 ≤ L) (h1 : L ≤ 1048576) (ha : FitR a) : ∃ x, vo a L = some x ∧ x ≤ 1048576 ∧ (0 ≤ x → a.length ≤ 1048576) := by
  have hl := ha.1
  unfold vo b
  rw [Lib.w64_ok (x := L - (a.length : Int)) (by omega) (by omega)]
  by_cases hc : L - (a.length : Int) < 0
  · rw [decide_eq_true hc]; exact ⟨-1, rfl, by omega, fun h => by omega⟩
  · rw [decide_eq_false hc, cond_false]
    have key := Lib.loop_post (fun n (s : Nat × Int) => l5 Lib.big (fun (_ : Row) (_ y6 _ : Int) => some y6) (fun (_ : Row) (y9 _ _ : Int) => some y9) n a s.2 0 (s.1 : Int)) (fun s => a.length - s.1) (fun s => s.1 ≤ a.length ∧ 0 ≤ s.2 ∧ s.2 ≤ 1048576) (fun x => x ≤ 1048576) (fun n s hs => by
      obtain ⟨i, L⟩ := s
      obtain ⟨hi, hL0, hL1⟩ := hs
      dsimp only at hi hL0 hL1 ⊢
      by_cases h : i < a.length
      · have hi1 : w64 ((i : Int) + 1) = ((i + 1 : Nat) : Int) := Lib.w64_ok (by omega) (by omega)
        have hw : Pu.laws_szFile.v (cvS (cellAt a i 0)) (cvS (cellAt a i 1)) (cvI (cellAt a i (1 + 1))) L ≤ 1048576 := Pu.laws_szFile.bd _ _ _ L (Lib.okS_cell ha i _) (Lib.okS_cell ha i _) hL0 hL1
        by_cases hn : Pu.laws_szFile.v (cvS (cellAt a i 0)) (cvS (cellAt a i 1)) (cvI (cellAt a i (1 + 1))) L < 0
        · exact .inl ⟨-1, by simp only [l5, r5, Lib.dlt, h, decide_true, Lib.dle0, Bool.and_self, cond_true, Lib.toN, hn], by omega⟩
        · exact .inr ⟨(i + 1, Pu.laws_szFile.v (cvS (cellAt a i 0)) (cvS (cellAt a i 1)) (cvI (cellAt a i (1 + 1))) L), ⟨h, by omega, hw⟩, by dsimp only; omega, by simp only [l5, r5, Lib.dlt, h, decide_true, decide_false, Lib.dle0, Bool.and_self, cond_true, cond_false, Lib.toN, hn, hi1]⟩
      · exact .inl ⟨L, by simp only [l5, r5, Lib.dlt, h, decide_false, cond_false], hL1⟩) Lib.big (0, L - (a.length : Int)) ⟨Nat.zero_le _, by dsimp only; omega, by dsimp only; omega⟩ (Lib.lt_big (by omega))
    obtain ⟨x, hx, hb⟩ := key
    exact ⟨x, hx, hb, fun _ => by omega⟩
theorem ok (a : Row) (L : Int) (h0 : 0 ≤ L) (h1 : L ≤ 1048576) (ha : FitR a) : c a L = true ∧ v a L ≤ 1048576 ∧ (0 ≤ v a L → a.length ≤ 1048576) := by
  obtain ⟨x, h, h2, h3⟩ := run a L h0 h1 ha
  obtain ⟨e1, e2⟩ := out a L h
  rw [e2]; exact ⟨e1, h2, h3⟩
end Go.FG.Pu.laws_szFileS

namespace Go.FG.Pu.laws_szDisk
theorem ok (r : Row) (L : Int) (h0 : 0 ≤ L) (h1 : L ≤ 1048576) (ha : FitR r) : c r L = true ∧ v r L ≤ 1048576 ∧ (0 ≤ v r L → r.length ≤ 1048576) := by
  obtain ⟨e1, e2, e3⟩ := Pu.laws_szFileS.ok r L h0 h1 ha
  by_cases h : Pu.laws_szFileS.v r L < 0
  · obtain ⟨q1, q2⟩ := out r L (x := -1) (by unfold vo b; rw [e1, cond_true, decide_eq_true h, cond_true])
    rw [q2]; exact ⟨q1, by omega, fun h => by omega⟩
  · obtain ⟨q1, q2⟩ := out r L (x := Pu.laws_szFileS.v r L) (by unfold vo b; rw [e1, cond_true, decide_eq_false h, cond_false])
    rw [q2]; exact ⟨q1, e2, e3⟩
end Go.FG.Pu.laws_szDisk

namespace Go.FG.Pu.laws_szWorld
theorem ok (i0 : Int) (r1 r2 r3 r4 : Row) (i5 : Int) (r6 r7 : Row) (i8 : Int) (r9 r10 r11 : Row) (L : Int) (h0 : 0 ≤ L) (h1 : L ≤ 1048576) (f1 : FitR r1) (f2 : FitR r2) (f3 : FitR r3) (f4 : FitR r4) (f6 : FitR r6) (f7 : FitR r7) (f9 : FitR r9) (f10 : FitR r10) (f11 : FitR r11) :
    c i0 r1 r2 r3 r4 i5 r6 r7 i8 r9 r10 r11 L = true ∧ v i0 r1 r2 r3 r4 i5 r6 r7 i8 r9 r10 r11 L ≤ 1048576 ∧ (0 ≤ v i0 r1 r2 r3 r4 i5 r6 r7 i8 r9 r10 r11 L → (r1.length ≤ 1048576 ∧ (r2.length ≤ 1048576 ∧ r3.length ≤ 1048576 ∧ r4.length ≤ 1048576 ∧ Pu.laws_szIntSS.inn r4) ∧ r6.length ≤ 1048576 ∧ r7.length ≤ 1048576) ∧ r9.length ≤ 1048576 ∧ r10.length ≤ 1048576 ∧ r11.length ≤ 1048576) := by
  have a1 := Pu.laws_szProxy.ok i0 r1 r2 r3 r4 i5 r6 r7 i8 L h0 h1 f1 f2 f3 f4 f6 f7
  generalize ex1 : Pu.laws_szProxy.v i0 r1 r2 r3 r4 i5 r6 r7 i8 L = x1 at a1
  by_cases hA : x1 < 0
  · obtain ⟨q1, q2⟩ := out i0 r1 r2 r3 r4 i5 r6 r7 i8 r9 r10 r11 L (x := -1) (by unfold vo b; rw [ex1, a1.1, cond_true, decide_eq_true hA, cond_true])
    rw [q2]; exact ⟨q1, by omega, fun h => by omega⟩
  have a2 := Pu.laws_szDisk.ok r9 x1 (by omega) a1.2.1 f9
  generalize ex2 : Pu.laws_szDisk.v r9 x1 = x2 at a2
  by_cases hB : x2 < 0
  · obtain ⟨q1, q2⟩ := out i0 r1 r2 r3 r4 i5 r6 r7 i8 r9 r10 r11 L (x := -1) (by unfold vo b; rw [ex1, ex2, a1.1, cond_true, decide_eq_false hA, cond_false, a2.1, cond_true, decide_eq_true hB, cond_true])
    rw [q2]; exact ⟨q1, by omega, fun h => by omega⟩
  have a3 := Pu.laws_szIntSS.bd (q := r10) (L := x2) f10.1 (by omega) a2.2.1
  generalize ex3 : Pu.laws_szIntS.v r10 x2 = x3 at a3
  by_cases hC : x3 < 0
  · obtain ⟨q1, q2⟩ := out i0 r1 r2 r3 r4 i5 r6 r7 i8 r9 r10 r11 L (x := -1) (by unfold vo b; rw [ex1, ex2, ex3, a1.1, cond_true, decide_eq_false hA, cond_false, a2.1, cond_true, decide_eq_false hB, cond_false, decide_eq_true hC, cond_true])
    rw [q2]; exact ⟨q1, by omega, fun h => by omega⟩
  have a4 := Pu.laws_szEntryS.ok r11 x3 (by omega) a3.1 f11
  generalize ex4 : Pu.laws_szEntryS.v r11 x3 = x4 at a4
  by_cases hD : x4 < 0
  · obtain ⟨q1, q2⟩ := out i0 r1 r2 r3 r4 i5 r6 r7 i8 r9 r10 r11 L (x := -1) (by unfold vo b; rw [ex1, ex2, ex3, ex4, a1.1, cond_true, decide_eq_false hA, cond_false, a2.1, cond_true, decide_eq_false hB, cond_false, decide_eq_false hC, cond_false, a4.1, cond_true, decide_eq_true hD, cond_true])
    rw [q2]; exact ⟨q1, by omega, fun h => by omega⟩
  obtain ⟨q1, q2⟩ := out i0 r1 r2 r3 r4 i5 r6 r7 i8 r9 r10 r11 L (x := x4) (by unfold vo b; rw [ex1, ex2, ex3, ex4, a1.1, cond_true, decide_eq_false hA, cond_false, a2.1, cond_true, decide_eq_false hB, cond_false, decide_eq_false hC, cond_false, a4.1, cond_true, decide_eq_false hD, cond_false])
  rw [q2]; exact ⟨q1, a4.2.1, fun h => ⟨a1.2.2 (by omega), a2.2.2 (by omega), a3.2 hC, a4.2.2 h⟩⟩
end Go.FG.Pu.laws_szWorld

namespace Go.FG.Pu.laws_toEntryS
/-- The rows' cells, one for one. -/
def tl (a0 : Row) : Row := a0.map fun y => [CV.s (cvS (y.getD 0 (.b false))), CV.i IntKind.i64 (cvI (y.getD 1 (.b false))), CV.i IntKind.i64 (cvI (y.getD 2 (.b false))), CV.s (cvS (y.getD 3 (.b false)))]
theorem tl_len (a0 : Row) : (tl a0).length = a0.length := by unfold tl; simp
theorem tl_sh (a0 : Row) : ∀ y ∈ tl a0, y.length = 4 := by
  intro y hy; unfold tl at hy; obtain ⟨z, _, rfl⟩ := List.mem_map.1 hy; rfl
theorem tl_idem (a0 : Row) : tl (tl a0) = tl a0 := by
  unfold tl; rw [List.map_map]; apply List.map_congr_left; intro y _; rfl
theorem run (a0 : Row) (hl : a0.length ≤ 1048576) : vo a0 = some (tl a0) := by
  unfold vo b
  rw [show decide ((a0.length : Int) = (a0.length : Int)) = true by simp, Lib.toN, Lib.roomy_of (by omega) (by omega), Bool.and_self, cond_true]
  have mono := Lib.loop_gen (fun m (s : Nat) => l3 Lib.big (fun (_ : Row) (_ : Int) (y : Row) => some y) m a0 (s : Int) ((tl a0).take s ++ zeros [Ck.s, Ck.i IntKind.i64, Ck.i IntKind.i64, Ck.s] (a0.length - s))) (fun i => a0.length - i) (fun i => i ≤ a0.length) (fun _ => some (tl a0)) (fun m i hi => by
    by_cases h : i < a0.length
    · right
      refine ⟨i + 1, h, by omega, rfl, ?_⟩
      have hlt : i < (tl a0).length := by rw [tl_len]; exact h
      have e := Lib.setC_step (ks := [Ck.s, Ck.i IntKind.i64, Ck.i IntKind.i64, Ck.s]) (tl_len a0) h (List.getElem?_eq_getElem hlt) (tl_sh a0 _ (List.getElem_mem hlt))
      have eg : (tl a0)[i] = [CV.s (cvS (cellAt a0 i 0)), CV.i IntKind.i64 (cvI (cellAt a0 i 1)), CV.i IntKind.i64 (cvI (cellAt a0 i 2)), CV.s (cvS (cellAt a0 i 3))] := by simp [tl, cellAt, List.getD, h]
      rw [eg] at e
      have hx : ((tl a0).take i ++ zeros [Ck.s, Ck.i IntKind.i64, Ck.i IntKind.i64, Ck.s] (a0.length - i)).length = a0.length := by rw [List.length_append, List.length_take, tl_len, Lib.length_zeros]; omega
      have hi1 : w64 ((i : Int) + 1) = ((i + 1 : Nat) : Int) := Lib.w64_ok (by omega) (by omega)
      show l3 Lib.big _ (m + 1) a0 (i : Int) _ = l3 Lib.big _ m a0 ((i + 1 : Nat) : Int) _
      rw [← e]
      simp only [l3, r3, hx, Lib.dlt, Lib.dle0, Lib.toN, h, decide_true, Bool.and_self, cond_true, hi1]
    · left
      have : i = a0.length := by omega
      subst this
      rw [Nat.sub_self, List.take_of_length_le (by rw [tl_len]; exact Nat.le_refl _), show zeros [Ck.s, Ck.i IntKind.i64, Ck.i IntKind.i64, Ck.s] 0 = [] from rfl, List.append_nil]
      simp only [l3, r3, Lib.dlt, Nat.lt_irrefl, decide_false, cond_false]) Lib.big 0 (Nat.zero_le _) (Lib.lt_big (by omega))
  simpa using mono
theorem ok (a0 : Row) (hl : a0.length ≤ 1048576) : c a0 = true ∧ v a0 = tl a0 := out a0 (run a0 hl)
end Go.FG.Pu.laws_toEntryS

namespace Go.FG.Pu.laws_toStringS
/-- The rows' cells, one for one. -/
def tl (a0 : Row) : Row := a0.map fun y => [CV.s (cvS (y.getD 0 (.b false)))]
theorem tl_len (a0 : Row) : (tl a0).length = a0.length := by unfold tl; simp
theorem tl_sh (a0 : Row) : ∀ y ∈ tl a0, y.length = 1 := by
  intro y hy; unfold tl at hy; obtain ⟨z, _, rfl⟩ := List.mem_map.1 hy; rfl
theorem tl_idem (a0 : Row) : tl (tl a0) = tl a0 := by
  unfold tl; rw [List.map_map]; apply List.map_congr_left; intro y _; rfl
theorem run (a0 : Row) (hl : a0.length ≤ 1048576) : vo a0 = some (tl a0) := by
  unfold vo b
  rw [show decide ((a0.length : Int) = (a0.length : Int)) = true by simp, Lib.toN, Lib.roomy_of (by omega) (by omega), Bool.and_self, cond_true]
  have mono := Lib.loop_gen (fun m (s : Nat) => l3 Lib.big (fun (_ : Row) (_ : Int) (y : Row) => some y) m a0 (s : Int) ((tl a0).take s ++ zeros [Ck.s] (a0.length - s))) (fun i => a0.length - i) (fun i => i ≤ a0.length) (fun _ => some (tl a0)) (fun m i hi => by
    by_cases h : i < a0.length
    · right
      refine ⟨i + 1, h, by omega, rfl, ?_⟩
      have hlt : i < (tl a0).length := by rw [tl_len]; exact h
      have e := Lib.setC_step (ks := [Ck.s]) (tl_len a0) h (List.getElem?_eq_getElem hlt) (tl_sh a0 _ (List.getElem_mem hlt))
      have eg : (tl a0)[i] = [CV.s (cvS (cellAt a0 i 0))] := by simp [tl, cellAt, List.getD, h]
      rw [eg] at e
      have hx : ((tl a0).take i ++ zeros [Ck.s] (a0.length - i)).length = a0.length := by rw [List.length_append, List.length_take, tl_len, Lib.length_zeros]; omega
      have hi1 : w64 ((i : Int) + 1) = ((i + 1 : Nat) : Int) := Lib.w64_ok (by omega) (by omega)
      show l3 Lib.big _ (m + 1) a0 (i : Int) _ = l3 Lib.big _ m a0 ((i + 1 : Nat) : Int) _
      rw [← e]
      simp only [l3, r3, hx, Lib.dlt, Lib.dle0, Lib.toN, h, decide_true, Bool.and_self, cond_true, hi1]
    · left
      have : i = a0.length := by omega
      subst this
      rw [Nat.sub_self, List.take_of_length_le (by rw [tl_len]; exact Nat.le_refl _), show zeros [Ck.s] 0 = [] from rfl, List.append_nil]
      simp only [l3, r3, Lib.dlt, Nat.lt_irrefl, decide_false, cond_false]) Lib.big 0 (Nat.zero_le _) (Lib.lt_big (by omega))
  simpa using mono
theorem ok (a0 : Row) (hl : a0.length ≤ 1048576) : c a0 = true ∧ v a0 = tl a0 := out a0 (run a0 hl)
end Go.FG.Pu.laws_toStringS

namespace Go.FG.Pu.laws_toIntSS
def tl (a0 : Row) : Row := a0.map fun y => [CV.l 3 (Pu.laws_toIntS.v (cvL (y.getD 0 (.b false))))]
theorem tl_len (a0 : Row) : (tl a0).length = a0.length := by unfold tl; simp
theorem tl_sh (a0 : Row) : ∀ y ∈ tl a0, y.length = 1 := by
  intro y hy; unfold tl at hy; obtain ⟨z, _, rfl⟩ := List.mem_map.1 hy; rfl
theorem run (a0 : Row) (hl : a0.length ≤ 1048576) (hin : Pu.laws_szIntSS.inn a0) : vo a0 = some (tl a0) := by
  unfold vo b
  rw [show decide ((a0.length : Int) = (a0.length : Int)) = true by simp, Lib.toN, Lib.roomy_of (by omega) (by omega), Bool.and_self, cond_true]
  have mono := Lib.loop_gen (fun m (s : Nat) => l3 Lib.big (fun (_ : Row) (_ : Int) (y : Row) => some y) m a0 (s : Int) ((tl a0).take s ++ zeros [Ck.l 3] (a0.length - s))) (fun i => a0.length - i) (fun i => i ≤ a0.length) (fun _ => some (tl a0)) (fun m i hi => by
    by_cases h : i < a0.length
    · right
      refine ⟨i + 1, h, by omega, rfl, ?_⟩
      have hlt : i < (tl a0).length := by rw [tl_len]; exact h
      have e := Lib.setC_step (ks := [Ck.l 3]) (tl_len a0) h (List.getElem?_eq_getElem hlt) (tl_sh a0 _ (List.getElem_mem hlt))
      have eg : (tl a0)[i] = [CV.l 3 (Pu.laws_toIntS.v (cvL (cellAt a0 i 0)))] := by simp [tl, cellAt, List.getD, h]
      rw [eg] at e
      have hx : ((tl a0).take i ++ zeros [Ck.l 3] (a0.length - i)).length = a0.length := by rw [List.length_append, List.length_take, tl_len, Lib.length_zeros]; omega
      have hi1 : w64 ((i : Int) + 1) = ((i + 1 : Nat) : Int) := Lib.w64_ok (by omega) (by omega)
      have hc : Pu.laws_toIntS.c (cvL (cellAt a0 i 0)) = true := decide_eq_true (hin i h)
      show l3 Lib.big _ (m + 1) a0 (i : Int) _ = l3 Lib.big _ m a0 ((i + 1 : Nat) : Int) _
      rw [← e]
      simp only [l3, r3, hx, hc, Lib.dlt, Lib.dle0, Lib.toN, h, decide_true, Bool.and_self, cond_true, hi1]
    · left
      have : i = a0.length := by omega
      subst this
      rw [Nat.sub_self, List.take_of_length_le (by rw [tl_len]; exact Nat.le_refl _), show zeros [Ck.l 3] 0 = [] from rfl, List.append_nil]
      simp only [l3, r3, Lib.dlt, Nat.lt_irrefl, decide_false, cond_false]) Lib.big 0 (Nat.zero_le _) (Lib.lt_big (by omega))
  simpa using mono
theorem ok (a0 : Row) (hl : a0.length ≤ 1048576) (hin : Pu.laws_szIntSS.inn a0) : c a0 = true ∧ v a0 = tl a0 := out a0 (run a0 hl hin)
end Go.FG.Pu.laws_toIntSS

namespace Go.FG.Pu.laws_toFetchS
/-- The rows' cells, one for one. -/
def tl (a0 : Row) : Row := a0.map fun y => [CV.s (cvS (y.getD 0 (.b false))), CV.s (cvS (y.getD 1 (.b false))), CV.i IntKind.i64 (cvI (y.getD 2 (.b false))), CV.i IntKind.i64 (cvI (y.getD 3 (.b false))), CV.i IntKind.i64 (cvI (y.getD 4 (.b false)))]
theorem tl_len (a0 : Row) : (tl a0).length = a0.length := by unfold tl; simp
theorem tl_sh (a0 : Row) : ∀ y ∈ tl a0, y.length = 5 := by
  intro y hy; unfold tl at hy; obtain ⟨z, _, rfl⟩ := List.mem_map.1 hy; rfl
theorem tl_idem (a0 : Row) : tl (tl a0) = tl a0 := by
  unfold tl; rw [List.map_map]; apply List.map_congr_left; intro y _; rfl
theorem run (a0 : Row) (hl : a0.length ≤ 1048576) : vo a0 = some (tl a0) := by
  unfold vo b
  rw [show decide ((a0.length : Int) = (a0.length : Int)) = true by simp, Lib.toN, Lib.roomy_of (by omega) (by omega), Bool.and_self, cond_true]
  have mono := Lib.loop_gen (fun m (s : Nat) => l3 Lib.big (fun (_ : Row) (_ : Int) (y : Row) => some y) m a0 (s : Int) ((tl a0).take s ++ zeros [Ck.s, Ck.s, Ck.i IntKind.i64, Ck.i IntKind.i64, Ck.i IntKind.i64] (a0.length - s))) (fun i => a0.length - i) (fun i => i ≤ a0.length) (fun _ => some (tl a0)) (fun m i hi => by
    by_cases h : i < a0.length
    · right
      refine ⟨i + 1, h, by omega, rfl, ?_⟩
      have hlt : i < (tl a0).length := by rw [tl_len]; exact h
      have e := Lib.setC_step (ks := [Ck.s, Ck.s, Ck.i IntKind.i64, Ck.i IntKind.i64, Ck.i IntKind.i64]) (tl_len a0) h (List.getElem?_eq_getElem hlt) (tl_sh a0 _ (List.getElem_mem hlt))
      have eg : (tl a0)[i] = [CV.s (cvS (cellAt a0 i 0)), CV.s (cvS (cellAt a0 i 1)), CV.i IntKind.i64 (cvI (cellAt a0 i 2)), CV.i IntKind.i64 (cvI (cellAt a0 i 3)), CV.i IntKind.i64 (cvI (cellAt a0 i 4))] := by simp [tl, cellAt, List.getD, h]
      rw [eg] at e
      have hx : ((tl a0).take i ++ zeros [Ck.s, Ck.s, Ck.i IntKind.i64, Ck.i IntKind.i64, Ck.i IntKind.i64] (a0.length - i)).length = a0.length := by rw [List.length_append, List.length_take, tl_len, Lib.length_zeros]; omega
      have hi1 : w64 ((i : Int) + 1) = ((i + 1 : Nat) : Int) := Lib.w64_ok (by omega) (by omega)
      show l3 Lib.big _ (m + 1) a0 (i : Int) _ = l3 Lib.big _ m a0 ((i + 1 : Nat) : Int) _
      rw [← e]
      simp only [l3, r3, hx, Lib.dlt, Lib.dle0, Lib.toN, h, decide_true, Bool.and_self, cond_true, hi1]
    · left
      have : i = a0.length := by omega
      subst this
      rw [Nat.sub_self, List.take_of_length_le (by rw [tl_len]; exact Nat.le_refl _), show zeros [Ck.s, Ck.s, Ck.i IntKind.i64, Ck.i IntKind.i64, Ck.i IntKind.i64] 0 = [] from rfl, List.append_nil]
      simp only [l3, r3, Lib.dlt, Nat.lt_irrefl, decide_false, cond_false]) Lib.big 0 (Nat.zero_le _) (Lib.lt_big (by omega))
  simpa using mono
theorem ok (a0 : Row) (hl : a0.length ≤ 1048576) : c a0 = true ∧ v a0 = tl a0 := out a0 (run a0 hl)
end Go.FG.Pu.laws_toFetchS

namespace Go.FG.Pu.laws_toClientS
/-- The rows' cells, one for one. -/
def tl (a0 : Row) : Row := a0.map fun y => [CV.i IntKind.i64 (cvI (y.getD 0 (.b false))), CV.s (cvS (y.getD 1 (.b false))), CV.i IntKind.i64 (cvI (y.getD 2 (.b false))), CV.i IntKind.i64 (cvI (y.getD 3 (.b false))), CV.i IntKind.i64 (cvI (y.getD 4 (.b false))), CV.s (cvS (y.getD 5 (.b false))), CV.i IntKind.i64 (cvI (y.getD 6 (.b false)))]
theorem tl_len (a0 : Row) : (tl a0).length = a0.length := by unfold tl; simp
theorem tl_sh (a0 : Row) : ∀ y ∈ tl a0, y.length = 7 := by
  intro y hy; unfold tl at hy; obtain ⟨z, _, rfl⟩ := List.mem_map.1 hy; rfl
theorem tl_idem (a0 : Row) : tl (tl a0) = tl a0 := by
  unfold tl; rw [List.map_map]; apply List.map_congr_left; intro y _; rfl
theorem run (a0 : Row) (hl : a0.length ≤ 1048576) : vo a0 = some (tl a0) := by
  unfold vo b
  rw [show decide ((a0.length : Int) = (a0.length : Int)) = true by simp, Lib.toN, Lib.roomy_of (by omega) (by omega), Bool.and_self, cond_true]
  have mono := Lib.loop_gen (fun m (s : Nat) => l3 Lib.big (fun (_ : Row) (_ : Int) (y : Row) => some y) m a0 (s : Int) ((tl a0).take s ++ zeros [Ck.i IntKind.i64, Ck.s, Ck.i IntKind.i64, Ck.i IntKind.i64, Ck.i IntKind.i64, Ck.s, Ck.i IntKind.i64] (a0.length - s))) (fun i => a0.length - i) (fun i => i ≤ a0.length) (fun _ => some (tl a0)) (fun m i hi => by
    by_cases h : i < a0.length
    · right
      refine ⟨i + 1, h, by omega, rfl, ?_⟩
      have hlt : i < (tl a0).length := by rw [tl_len]; exact h
      have e := Lib.setC_step (ks := [Ck.i IntKind.i64, Ck.s, Ck.i IntKind.i64, Ck.i IntKind.i64, Ck.i IntKind.i64, Ck.s, Ck.i IntKind.i64]) (tl_len a0) h (List.getElem?_eq_getElem hlt) (tl_sh a0 _ (List.getElem_mem hlt))
      have eg : (tl a0)[i] = [CV.i IntKind.i64 (cvI (cellAt a0 i 0)), CV.s (cvS (cellAt a0 i 1)), CV.i IntKind.i64 (cvI (cellAt a0 i 2)), CV.i IntKind.i64 (cvI (cellAt a0 i 3)), CV.i IntKind.i64 (cvI (cellAt a0 i 4)), CV.s (cvS (cellAt a0 i 5)), CV.i IntKind.i64 (cvI (cellAt a0 i 6))] := by simp [tl, cellAt, List.getD, h]
      rw [eg] at e
      have hx : ((tl a0).take i ++ zeros [Ck.i IntKind.i64, Ck.s, Ck.i IntKind.i64, Ck.i IntKind.i64, Ck.i IntKind.i64, Ck.s, Ck.i IntKind.i64] (a0.length - i)).length = a0.length := by rw [List.length_append, List.length_take, tl_len, Lib.length_zeros]; omega
      have hi1 : w64 ((i : Int) + 1) = ((i + 1 : Nat) : Int) := Lib.w64_ok (by omega) (by omega)
      show l3 Lib.big _ (m + 1) a0 (i : Int) _ = l3 Lib.big _ m a0 ((i + 1 : Nat) : Int) _
      rw [← e]
      simp only [l3, r3, hx, Lib.dlt, Lib.dle0, Lib.toN, h, decide_true, Bool.and_self, cond_true, hi1]
    · left
      have : i = a0.length := by omega
      subst this
      rw [Nat.sub_self, List.take_of_length_le (by rw [tl_len]; exact Nat.le_refl _), show zeros [Ck.i IntKind.i64, Ck.s, Ck.i IntKind.i64, Ck.i IntKind.i64, Ck.i IntKind.i64, Ck.s, Ck.i IntKind.i64] 0 = [] from rfl, List.append_nil]
      simp only [l3, r3, Lib.dlt, Nat.lt_irrefl, decide_false, cond_false]) Lib.big 0 (Nat.zero_le _) (Lib.lt_big (by omega))
  simpa using mono
theorem ok (a0 : Row) (hl : a0.length ≤ 1048576) : c a0 = true ∧ v a0 = tl a0 := out a0 (run a0 hl)
end Go.FG.Pu.laws_toClientS

namespace Go.FG.Pu.laws_toFileS
/-- The rows' cells, one for one. -/
def tl (a0 : Row) : Row := a0.map fun y => [CV.s (cvS (y.getD 0 (.b false))), CV.s (cvS (y.getD 1 (.b false))), CV.i IntKind.i64 (cvI (y.getD 2 (.b false)))]
theorem tl_len (a0 : Row) : (tl a0).length = a0.length := by unfold tl; simp
theorem tl_sh (a0 : Row) : ∀ y ∈ tl a0, y.length = 3 := by
  intro y hy; unfold tl at hy; obtain ⟨z, _, rfl⟩ := List.mem_map.1 hy; rfl
theorem tl_idem (a0 : Row) : tl (tl a0) = tl a0 := by
  unfold tl; rw [List.map_map]; apply List.map_congr_left; intro y _; rfl
theorem run (a0 : Row) (hl : a0.length ≤ 1048576) : vo a0 = some (tl a0) := by
  unfold vo b
  rw [show decide ((a0.length : Int) = (a0.length : Int)) = true by simp, Lib.toN, Lib.roomy_of (by omega) (by omega), Bool.and_self, cond_true]
  have mono := Lib.loop_gen (fun m (s : Nat) => l3 Lib.big (fun (_ : Row) (_ : Int) (y : Row) => some y) m a0 (s : Int) ((tl a0).take s ++ zeros [Ck.s, Ck.s, Ck.i IntKind.i64] (a0.length - s))) (fun i => a0.length - i) (fun i => i ≤ a0.length) (fun _ => some (tl a0)) (fun m i hi => by
    by_cases h : i < a0.length
    · right
      refine ⟨i + 1, h, by omega, rfl, ?_⟩
      have hlt : i < (tl a0).length := by rw [tl_len]; exact h
      have e := Lib.setC_step (ks := [Ck.s, Ck.s, Ck.i IntKind.i64]) (tl_len a0) h (List.getElem?_eq_getElem hlt) (tl_sh a0 _ (List.getElem_mem hlt))
      have eg : (tl a0)[i] = [CV.s (cvS (cellAt a0 i 0)), CV.s (cvS (cellAt a0 i 1)), CV.i IntKind.i64 (cvI (cellAt a0 i 2))] := by simp [tl, cellAt, List.getD, h]
      rw [eg] at e
      have hx : ((tl a0).take i ++ zeros [Ck.s, Ck.s, Ck.i IntKind.i64] (a0.length - i)).length = a0.length := by rw [List.length_append, List.length_take, tl_len, Lib.length_zeros]; omega
      have hi1 : w64 ((i : Int) + 1) = ((i + 1 : Nat) : Int) := Lib.w64_ok (by omega) (by omega)
      show l3 Lib.big _ (m + 1) a0 (i : Int) _ = l3 Lib.big _ m a0 ((i + 1 : Nat) : Int) _
      rw [← e]
      simp only [l3, r3, hx, Lib.dlt, Lib.dle0, Lib.toN, h, decide_true, Bool.and_self, cond_true, hi1]
    · left
      have : i = a0.length := by omega
      subst this
      rw [Nat.sub_self, List.take_of_length_le (by rw [tl_len]; exact Nat.le_refl _), show zeros [Ck.s, Ck.s, Ck.i IntKind.i64] 0 = [] from rfl, List.append_nil]
      simp only [l3, r3, Lib.dlt, Nat.lt_irrefl, decide_false, cond_false]) Lib.big 0 (Nat.zero_le _) (Lib.lt_big (by omega))
  simpa using mono
theorem ok (a0 : Row) (hl : a0.length ≤ 1048576) : c a0 = true ∧ v a0 = tl a0 := out a0 (run a0 hl)
end Go.FG.Pu.laws_toFileS

namespace Go.FG.Pu.laws_toSketch
theorem ok (r : Row) (k : Int) (hl : r.length ≤ 1048576) (hin : Pu.laws_szIntSS.inn r) : c r k = true ∧ v r k = (Pu.laws_toIntSS.tl r, k) := by
  have h := Pu.laws_toIntSS.ok r hl hin
  exact out r k (by unfold vo b; rw [h.1, h.2, cond_true])
end Go.FG.Pu.laws_toSketch

namespace Go.FG.Pu.laws_toPolicy
theorem ok (r0 r1 r2 : Row) (k : Int) (h0 : r0.length ≤ 1048576) (h1 : r1.length ≤ 1048576) (hl : r2.length ≤ 1048576) (hin : Pu.laws_szIntSS.inn r2) : c r0 r1 r2 k = true ∧ v r0 r1 r2 k = (Pu.laws_toStringS.tl r0, Pu.laws_toStringS.tl r1, Pu.laws_toIntSS.tl r2, k) := by
  have a0 := Pu.laws_toStringS.ok r0 h0
  have a1 := Pu.laws_toStringS.ok r1 h1
  have a2 := Pu.laws_toSketch.ok r2 k hl hin
  exact out r0 r1 r2 k (by unfold vo b; rw [a0.1, a0.2, a1.1, a1.2, a2.1, a2.2, cond_true, cond_true, cond_true])
end Go.FG.Pu.laws_toPolicy

namespace Go.FG.Pu.laws_toProxy
theorem ok (i0 : Int) (r1 r2 r3 r4 : Row) (i5 : Int) (r6 r7 : Row) (i8 : Int) (h1 : r1.length ≤ 1048576) (h2 : r2.length ≤ 1048576) (h3 : r3.length ≤ 1048576) (h4 : r4.length ≤ 1048576) (hin : Pu.laws_szIntSS.inn r4) (h6 : r6.length ≤ 1048576) (h7 : r7.length ≤ 1048576) :
    c i0 r1 r2 r3 r4 i5 r6 r7 i8 = true ∧ v i0 r1 r2 r3 r4 i5 r6 r7 i8 = (i0, Pu.laws_toEntryS.tl r1, Pu.laws_toStringS.tl r2, Pu.laws_toStringS.tl r3, Pu.laws_toIntSS.tl r4, i5, Pu.laws_toFetchS.tl r6, Pu.laws_toClientS.tl r7, i8) := by
  have a1 := Pu.laws_toEntryS.ok r1 h1
  have a2 := Pu.laws_toPolicy.ok r2 r3 r4 i5 h2 h3 h4 hin
  have a3 := Pu.laws_toFetchS.ok r6 h6
  have a4 := Pu.laws_toClientS.ok r7 h7
  exact out i0 r1 r2 r3 r4 i5 r6 r7 i8 (by unfold vo b; rw [a1.1, a1.2, a2.1, a2.2, a3.1, a3.2, a4.1, a4.2, cond_true, cond_true, cond_true, cond_true])
end Go.FG.Pu.laws_toProxy

namespace Go.FG.Pu.laws_toDisk
theorem ok (a0 : Row) (hl : a0.length ≤ 1048576) : c a0 = true ∧ v a0 = Pu.laws_toFileS.tl a0 := by
  have h := Pu.laws_toFileS.ok a0 hl
  exact out a0 (by unfold vo b; rw [h.1, h.2, cond_true])
end Go.FG.Pu.laws_toDisk

namespace Go.FG.Pu.laws_toWorld
theorem ok (i0 : Int) (r1 r2 r3 r4 : Row) (i5 : Int) (r6 r7 : Row) (i8 : Int) (r9 r10 r11 : Row) (h1 : r1.length ≤ 1048576) (h2 : r2.length ≤ 1048576) (h3 : r3.length ≤ 1048576) (h4 : r4.length ≤ 1048576) (hin : Pu.laws_szIntSS.inn r4) (h6 : r6.length ≤ 1048576) (h7 : r7.length ≤ 1048576) (h9 : r9.length ≤ 1048576) (h10 : r10.length ≤ 1048576) (h11 : r11.length ≤ 1048576) :
    c i0 r1 r2 r3 r4 i5 r6 r7 i8 r9 r10 r11 = true ∧ v i0 r1 r2 r3 r4 i5 r6 r7 i8 r9 r10 r11 = (i0, Pu.laws_toEntryS.tl r1, Pu.laws_toStringS.tl r2, Pu.laws_toStringS.tl r3, Pu.laws_toIntSS.tl r4, i5, Pu.laws_toFetchS.tl r6, Pu.laws_toClientS.tl r7, i8, Pu.laws_toFileS.tl r9, Pu.laws_toIntS.v r10, Pu.laws_toEntryS.tl r11) := by
  have a1 := Pu.laws_toProxy.ok i0 r1 r2 r3 r4 i5 r6 r7 i8 h1 h2 h3 h4 hin h6 h7
  have a2 := Pu.laws_toDisk.ok r9 h9
  have a3 : Pu.laws_toIntS.c r10 = true := decide_eq_true h10
  have a4 := Pu.laws_toEntryS.ok r11 h11
  exact out i0 r1 r2 r3 r4 i5 r6 r7 i8 r9 r10 r11 (by unfold vo b; rw [a1.1, a1.2, a2.1, a2.2, a3, a4.1, a4.2, cond_true, cond_true, cond_true, cond_true])
end Go.FG.Pu.laws_toWorld

namespace Go.FG.Pu.spec_l18In
def p (s : Row) (k : ByteArray) (a l : Int) (t : ByteArray) (i : Nat) : Bool := List.beq (ByteArray.toList (cvS (cellAt s i 0))) (ByteArray.toList k) && (decide (cvI (cellAt s i 1) = a) && (decide (cvI (cellAt s i (1 + 1)) = l) && (List.beq (ByteArray.toList (cvS (cellAt s i (1 + 1 + 1)))) (ByteArray.toList t) && true)))
def val (s : Row) (k : ByteArray) (a l : Int) (t : ByteArray) : Bool := decide (Lib.fi (p s k a l t) s.length 0 ≥ 0)
theorem ok (s : Row) (k : ByteArray) (a l : Int) (t : ByteArray) (hl : s.length ≤ 4294967296) : c s k a l t = true ∧ v s k a l t = val s k a l t := by
  refine out s k a l t ?_
  unfold vo b
  refine Lib.fi_gen (p s k a l t) s.length (fun m (i : Nat) => l2 Lib.big (fun (_ : Row) (y8 : Bool) (_ : Int) (_ : ByteArray) (_ _ : Int) (_ : ByteArray) => some y8) (fun (_ : Row) (_ : Bool) (_ : Int) (_ : ByteArray) (_ _ : Int) (_ : ByteArray) => some false) m s false (i : Int) k a l t) (fun x => some (decide (x ≥ 0))) (fun m i hi hp => ?_) (fun m i hi hp => ?_) (fun m => ?_) Lib.big (Lib.lt_big (by omega))
  · unfold p at hp
    rw [show decide ((i : Int) ≥ 0) = true from decide_eq_true (by omega)]
    simp only [l2, r2, Lib.dlt, Lib.dle0, Lib.toN, hi, decide_true, Bool.and_self, cond_true]
    rw [hp, cond_true]
  · unfold p at hp
    simp only [l2, r2, Lib.dlt, Lib.dle0, Lib.toN, hi, decide_true, Bool.and_self, cond_true]
    rw [hp, cond_false, Lib.w64_s hi (by omega : s.length ≤ 9223372036854775807)]
  · simp only [l2, r2, Lib.dlt, Nat.lt_irrefl, decide_false, cond_false]; rfl
end Go.FG.Pu.spec_l18In

namespace Go.FG.Pu.spec_StoredRight
def q (a s : Row) (i : Nat) : Bool := Pu.spec_l18In.val s (cvS (cellAt a i 0)) (cvI (cellAt a i 1)) (cvI (cellAt a i (1 + 1))) (cvS (cellAt a i (1 + 1 + 1)))
def val (a s : Row) : Bool := bif (List.range a.length).all (q a s) then true else false
theorem ok (i0 : Int) (p1 p2 p3 p4 : Row) (i5 : Int) (p6 p7 : Row) (i8 : Int) (p9 p10 p11 : Row) (hl : p1.length ≤ 4294967296) (hl2 : p11.length ≤ 4294967296) : c i0 p1 p2 p3 p4 i5 p6 p7 i8 p9 p10 p11 = true ∧ v i0 p1 p2 p3 p4 i5 p6 p7 i8 p9 p10 p11 = val p1 p11 := by
  refine out _ _ _ _ _ _ _ _ _ _ _ _ ?_
  unfold vo b
  have hw : ∀ i, i < p1.length → w64 ((i : Int) + 1) = ((i + 1 : Nat) : Int) := fun i h => Lib.w64_s h (by omega)
  have ho := fun k a l t => Pu.spec_l18In.ok p11 k a l t hl2
  have key := Lib.all_gen (q p1 p11) p1.length (fun m (i : Nat) => l2 Lib.big (fun (y14 : Bool) (_ _ : Int) (_ _ _ _ : Row) (_ : Int) (_ _ : Row) (_ : Int) (_ _ _ : Row) => some y14) (fun (_ : Bool) (_ _ : Int) (_ _ _ _ : Row) (_ : Int) (_ _ : Row) (_ : Int) (_ _ _ : Row) => some true) m false (i : Int) i0 p1 p2 p3 p4 i5 p6 p7 i8 p9 p10 p11) (some false) (some true)
    (fun m i hi hp => by
      unfold q at hp
      simp only [l2, r2, Lib.dlt, hi, decide_true, Lib.dle0, Bool.and_self, cond_true, Lib.toN, (ho _ _ _ _).1, (ho _ _ _ _).2, hp, Bool.not_true, cond_false, hw i hi])
    (fun m i hi hp => by
      unfold q at hp
      simp only [l2, r2, Lib.dlt, hi, decide_true, Lib.dle0, Bool.and_self, cond_true, Lib.toN, (ho _ _ _ _).1, (ho _ _ _ _).2, hp, Bool.not_false])
    (fun m => by simp only [l2, r2, Lib.dlt, Nat.lt_irrefl, decide_false, cond_false]) Lib.big (Lib.lt_big (by omega))
  refine key.trans ?_
  unfold val
  cases (List.range p1.length).all (q p1 p11) <;> rfl
end Go.FG.Pu.spec_StoredRight

namespace Go.FG.Pu.slices_Index_Entry
theorem sym (s : Row) (k : ByteArray) (a l : Int) (t : ByteArray) (i : Nat) : (List.beq (ByteArray.toList k) (ByteArray.toList (cvS (cellAt s i 0))) && (decide (a = cvI (cellAt s i 1)) && (decide (l = cvI (cellAt s i (1 + 1))) && (List.beq (ByteArray.toList t) (ByteArray.toList (cvS (cellAt s i (1 + 1 + 1)))) && true)))) = Pu.spec_l18In.p s k a l t i := by
  have e : ∀ {α : Type} [DecidableEq α] (x y : α), decide (x = y) = decide (y = x) := fun x y => by rw [decide_eq_decide]; exact eq_comm
  unfold Pu.spec_l18In.p
  rw [Lib.beq_ba, Lib.beq_ba, Lib.beq_ba, Lib.beq_ba, e k, e t, e a, e l]
theorem ok (s : Row) (k : ByteArray) (a l : Int) (t : ByteArray) (hl : s.length ≤ 4294967296) : c s k a l t = true ∧ v s k a l t = Lib.fi (Pu.spec_l18In.p s k a l t) s.length 0 := by
  refine out s k a l t ?_
  unfold vo b
  refine Lib.fi_gen (Pu.spec_l18In.p s k a l t) s.length (fun m (i : Nat) => l2 Lib.big (fun (_ : Row) (y9 _ _ : Int) (_ : ByteArray) (_ _ : Int) (_ : ByteArray) => some y9) (fun (_ : Row) (_ _ _ : Int) (_ : ByteArray) (_ _ : Int) (_ : ByteArray) => some (-1)) m s 0 (s.length : Int) (i : Int) k a l t) some (fun m i hi hp => ?_) (fun m i hi hp => ?_) (fun m => ?_) Lib.big (Lib.lt_big (by omega))
  · rw [← sym] at hp
    simp only [l2, r2, Lib.dlt, Lib.dle0, Lib.toN, hi, decide_true, Bool.and_self, cond_true]
    rw [hp, cond_true]
  · rw [← sym] at hp
    simp only [l2, r2, Lib.dlt, Lib.dle0, Lib.toN, hi, decide_true, Bool.and_self, cond_true]
    rw [hp, cond_false, Lib.w64_s hi (by omega : s.length ≤ 9223372036854775807)]
  · simp only [l2, r2, Lib.dlt, Nat.lt_irrefl, decide_false, cond_false]
end Go.FG.Pu.slices_Index_Entry

namespace Go.FG.Pu.slices_Contains_Entry
theorem ok (s : Row) (k : ByteArray) (a l : Int) (t : ByteArray) (hl : s.length ≤ 4294967296) : c s k a l t = true ∧ v s k a l t = Pu.spec_l18In.val s k a l t := by
  have h := Pu.slices_Index_Entry.ok s k a l t hl
  exact out s k a l t (by unfold vo b; rw [h.1, h.2, cond_true]; rfl)
end Go.FG.Pu.slices_Contains_Entry

namespace Go.FG.Pu.impl_StoredRight
theorem ok (i0 : Int) (p1 p2 p3 p4 : Row) (i5 : Int) (p6 p7 : Row) (i8 : Int) (p9 p10 p11 : Row) (hl : p1.length ≤ 4294967296) (hl2 : p11.length ≤ 4294967296) : c i0 p1 p2 p3 p4 i5 p6 p7 i8 p9 p10 p11 = true ∧ v i0 p1 p2 p3 p4 i5 p6 p7 i8 p9 p10 p11 = Pu.spec_StoredRight.val p1 p11 := by
  refine out _ _ _ _ _ _ _ _ _ _ _ _ ?_
  unfold vo b
  have hw : ∀ i, i < p1.length → w64 ((i : Int) + 1) = ((i + 1 : Nat) : Int) := fun i h => Lib.w64_s h (by omega)
  have ho := fun k a l t => Pu.slices_Contains_Entry.ok p11 k a l t hl2
  have key := Lib.all_gen (Pu.spec_StoredRight.q p1 p11) p1.length (fun m (i : Nat) => l2 Lib.big (fun (y14 : Bool) (_ : Row) (_ _ _ : Int) (_ _ _ _ : Row) (_ : Int) (_ _ : Row) (_ : Int) (_ _ _ : Row) => some y14) (fun (_ : Bool) (_ : Row) (_ _ _ : Int) (_ _ _ _ : Row) (_ : Int) (_ _ : Row) (_ : Int) (_ _ _ : Row) => some true) m false p1 (p1.length : Int) (i : Int) i0 p1 p2 p3 p4 i5 p6 p7 i8 p9 p10 p11) (some false) (some true)
    (fun m i hi hp => by
      unfold Pu.spec_StoredRight.q at hp
      simp only [l2, r2, Lib.dlt, hi, decide_true, Lib.dle0, Bool.and_self, cond_true, Lib.toN, (ho _ _ _ _).1, (ho _ _ _ _).2, hp, Bool.not_true, cond_false, hw i hi])
    (fun m i hi hp => by
      unfold Pu.spec_StoredRight.q at hp
      simp only [l2, r2, Lib.dlt, hi, decide_true, Lib.dle0, Bool.and_self, cond_true, Lib.toN, (ho _ _ _ _).1, (ho _ _ _ _).2, hp, Bool.not_false])
    (fun m => by simp only [l2, r2, Lib.dlt, Nat.lt_irrefl, decide_false, cond_false]) Lib.big (Lib.lt_big (by omega))
  refine key.trans ?_
  unfold Pu.spec_StoredRight.val
  cases (List.range p1.length).all (Pu.spec_StoredRight.q p1 p11) <;> rfl
end Go.FG.Pu.impl_StoredRight

namespace Go.FG.Pu.laws_eqEntryS
theorem run (a : Row) (hl : a.length ≤ 9223372036854775807) : vo a a = some true := by
  unfold vo b
  rw [show ((a.length : Int) != (a.length : Int)) = false from bne_self_eq_false _, cond_false]
  have := Lib.loop_gen (fun n (i : Nat) => l4 Lib.big (fun (_ _ : Row) (y : Bool) (_ : Int) => some y) (fun (_ _ : Row) (_ : Bool) (_ : Int) => some true) n a a false (i : Int)) (fun i => a.length - i) (fun i => i ≤ a.length) (fun _ => some true) (fun n i hi => by
    by_cases h : i < a.length
    · right
      refine ⟨i + 1, h, by omega, rfl, ?_⟩
      have hi1 : w64 ((i : Int) + 1) = ((i + 1 : Nat) : Int) := Lib.w64_ok (by omega) (by omega)
      have hel : ∀ (x0 : ByteArray) (x1 : Int) (x2 : Int) (x3 : ByteArray), Pu.laws_eqEntry.v x0 x1 x2 x3 x0 x1 x2 x3 = true := fun _ _ _ _ => by
        simp only [Pu.laws_eqEntry.v, bne_self_eq_false, Lib.beq_refl_ba, Bool.not_true, cond_false]
      simp only [l4, r4, Lib.dlt, h, decide_true, Lib.dle0, Bool.and_self, cond_true, Lib.toN, hi1, hel, Bool.not_true, cond_false]
    · left
      simp only [l4, r4, Lib.dlt, h, decide_false, cond_false]) Lib.big 0 (Nat.zero_le _) (Lib.lt_big (by omega))
  exact this
theorem ok (a : Row) (hl : a.length ≤ 9223372036854775807) : c a a = true ∧ v a a = true := out a a (run a hl)
end Go.FG.Pu.laws_eqEntryS

namespace Go.FG.Pu.laws_eqStringS
theorem run (a : Row) (hl : a.length ≤ 9223372036854775807) : vo a a = some true := by
  unfold vo b
  rw [show ((a.length : Int) != (a.length : Int)) = false from bne_self_eq_false _, cond_false]
  have := Lib.loop_gen (fun n (i : Nat) => l4 Lib.big (fun (_ _ : Row) (y : Bool) (_ : Int) => some y) (fun (_ _ : Row) (_ : Bool) (_ : Int) => some true) n a a false (i : Int)) (fun i => a.length - i) (fun i => i ≤ a.length) (fun _ => some true) (fun n i hi => by
    by_cases h : i < a.length
    · right
      refine ⟨i + 1, h, by omega, rfl, ?_⟩
      have hi1 : w64 ((i : Int) + 1) = ((i + 1 : Nat) : Int) := Lib.w64_ok (by omega) (by omega)
      simp only [l4, r4, Lib.dlt, h, decide_true, Lib.dle0, Bool.and_self, cond_true, Lib.toN, hi1, bne_self_eq_false, Lib.beq_refl_ba, Bool.not_true, cond_false]
    · left
      simp only [l4, r4, Lib.dlt, h, decide_false, cond_false]) Lib.big 0 (Nat.zero_le _) (Lib.lt_big (by omega))
  exact this
theorem ok (a : Row) (hl : a.length ≤ 9223372036854775807) : c a a = true ∧ v a a = true := out a a (run a hl)
end Go.FG.Pu.laws_eqStringS

namespace Go.FG.Pu.laws_eqIntSS
theorem run (a : Row) (hl : a.length ≤ 9223372036854775807) : vo a a = some true := by
  unfold vo b
  rw [show ((a.length : Int) != (a.length : Int)) = false from bne_self_eq_false _, cond_false]
  have := Lib.loop_gen (fun n (i : Nat) => l4 Lib.big (fun (_ _ : Row) (y : Bool) (_ : Int) => some y) (fun (_ _ : Row) (_ : Bool) (_ : Int) => some true) n a a false (i : Int)) (fun i => a.length - i) (fun i => i ≤ a.length) (fun _ => some true) (fun n i hi => by
    by_cases h : i < a.length
    · right
      refine ⟨i + 1, h, by omega, rfl, ?_⟩
      have hi1 : w64 ((i : Int) + 1) = ((i + 1 : Nat) : Int) := Lib.w64_ok (by omega) (by omega)
      simp only [l4, r4, Lib.dlt, h, decide_true, Lib.dle0, Bool.and_self, cond_true, Lib.toN, hi1, Pu.laws_eqIntS.refl, Bool.not_true, cond_false]
    · left
      simp only [l4, r4, Lib.dlt, h, decide_false, cond_false]) Lib.big 0 (Nat.zero_le _) (Lib.lt_big (by omega))
  exact this
theorem ok (a : Row) (hl : a.length ≤ 9223372036854775807) : c a a = true ∧ v a a = true := out a a (run a hl)
end Go.FG.Pu.laws_eqIntSS

namespace Go.FG.Pu.laws_eqSketch
theorem ok (r : Row) (k : Int) (hl : r.length ≤ 9223372036854775807) : c r k r k = true ∧ v r k r k = true := by
  have h := Pu.laws_eqIntSS.ok r hl
  exact out r k r k (by unfold vo b; rw [h.1, h.2, bne_self_eq_false]; rfl)
end Go.FG.Pu.laws_eqSketch

namespace Go.FG.Pu.laws_eqPolicy
theorem ok (r0 r1 r2 : Row) (k : Int) (h0 : r0.length ≤ 9223372036854775807) (h1 : r1.length ≤ 9223372036854775807) (h2 : r2.length ≤ 9223372036854775807) : c r0 r1 r2 k r0 r1 r2 k = true ∧ v r0 r1 r2 k r0 r1 r2 k = true := by
  have a0 := Pu.laws_eqStringS.ok r0 h0
  have a1 := Pu.laws_eqStringS.ok r1 h1
  have a2 := Pu.laws_eqSketch.ok r2 k h2
  exact out r0 r1 r2 k r0 r1 r2 k (by unfold vo b; rw [a0.1, a0.2, a1.1, a1.2, a2.1, a2.2]; rfl)
end Go.FG.Pu.laws_eqPolicy

namespace Go.FG.Pu.laws_eqFetchS
theorem run (a : Row) (hl : a.length ≤ 9223372036854775807) : vo a a = some true := by
  unfold vo b
  rw [show ((a.length : Int) != (a.length : Int)) = false from bne_self_eq_false _, cond_false]
  have := Lib.loop_gen (fun n (i : Nat) => l4 Lib.big (fun (_ _ : Row) (y : Bool) (_ : Int) => some y) (fun (_ _ : Row) (_ : Bool) (_ : Int) => some true) n a a false (i : Int)) (fun i => a.length - i) (fun i => i ≤ a.length) (fun _ => some true) (fun n i hi => by
    by_cases h : i < a.length
    · right
      refine ⟨i + 1, h, by omega, rfl, ?_⟩
      have hi1 : w64 ((i : Int) + 1) = ((i + 1 : Nat) : Int) := Lib.w64_ok (by omega) (by omega)
      have hel : ∀ (x0 : ByteArray) (x1 : ByteArray) (x2 : Int) (x3 : Int) (x4 : Int), Pu.laws_eqFetch.v x0 x1 x2 x3 x4 x0 x1 x2 x3 x4 = true := fun _ _ _ _ _ => by
        simp only [Pu.laws_eqFetch.v, bne_self_eq_false, Lib.beq_refl_ba, Bool.not_true, cond_false]
      simp only [l4, r4, Lib.dlt, h, decide_true, Lib.dle0, Bool.and_self, cond_true, Lib.toN, hi1, hel, Bool.not_true, cond_false]
    · left
      simp only [l4, r4, Lib.dlt, h, decide_false, cond_false]) Lib.big 0 (Nat.zero_le _) (Lib.lt_big (by omega))
  exact this
theorem ok (a : Row) (hl : a.length ≤ 9223372036854775807) : c a a = true ∧ v a a = true := out a a (run a hl)
end Go.FG.Pu.laws_eqFetchS

namespace Go.FG.Pu.laws_eqClientS
theorem run (a : Row) (hl : a.length ≤ 9223372036854775807) : vo a a = some true := by
  unfold vo b
  rw [show ((a.length : Int) != (a.length : Int)) = false from bne_self_eq_false _, cond_false]
  have := Lib.loop_gen (fun n (i : Nat) => l4 Lib.big (fun (_ _ : Row) (y : Bool) (_ : Int) => some y) (fun (_ _ : Row) (_ : Bool) (_ : Int) => some true) n a a false (i : Int)) (fun i => a.length - i) (fun i => i ≤ a.length) (fun _ => some true) (fun n i hi => by
    by_cases h : i < a.length
    · right
      refine ⟨i + 1, h, by omega, rfl, ?_⟩
      have hi1 : w64 ((i : Int) + 1) = ((i + 1 : Nat) : Int) := Lib.w64_ok (by omega) (by omega)
      have hel : ∀ (x0 : Int) (x1 : ByteArray) (x2 : Int) (x3 : Int) (x4 : Int) (x5 : ByteArray) (x6 : Int), Pu.laws_eqClient.v x0 x1 x2 x3 x4 x5 x6 x0 x1 x2 x3 x4 x5 x6 = true := fun _ _ _ _ _ _ _ => by
        simp only [Pu.laws_eqClient.v, bne_self_eq_false, Lib.beq_refl_ba, Bool.not_true, cond_false]
      simp only [l4, r4, Lib.dlt, h, decide_true, Lib.dle0, Bool.and_self, cond_true, Lib.toN, hi1, hel, Bool.not_true, cond_false]
    · left
      simp only [l4, r4, Lib.dlt, h, decide_false, cond_false]) Lib.big 0 (Nat.zero_le _) (Lib.lt_big (by omega))
  exact this
theorem ok (a : Row) (hl : a.length ≤ 9223372036854775807) : c a a = true ∧ v a a = true := out a a (run a hl)
end Go.FG.Pu.laws_eqClientS

namespace Go.FG.Pu.laws_eqProxy
theorem ok (i0 : Int) (r1 r2 r3 r4 : Row) (i5 : Int) (r6 r7 : Row) (i8 : Int) (h1 : r1.length ≤ 9223372036854775807) (h2 : r2.length ≤ 9223372036854775807) (h3 : r3.length ≤ 9223372036854775807) (h4 : r4.length ≤ 9223372036854775807) (h6 : r6.length ≤ 9223372036854775807) (h7 : r7.length ≤ 9223372036854775807) :
    c i0 r1 r2 r3 r4 i5 r6 r7 i8 i0 r1 r2 r3 r4 i5 r6 r7 i8 = true ∧ v i0 r1 r2 r3 r4 i5 r6 r7 i8 i0 r1 r2 r3 r4 i5 r6 r7 i8 = true := by
  have a1 := Pu.laws_eqEntryS.ok r1 h1
  have a2 := Pu.laws_eqPolicy.ok r2 r3 r4 i5 h2 h3 h4
  have a3 := Pu.laws_eqFetchS.ok r6 h6
  have a4 := Pu.laws_eqClientS.ok r7 h7
  exact out _ _ _ _ _ _ _ _ _ _ _ _ _ _ _ _ _ _ (by unfold vo b; rw [a1.1, a1.2, a2.1, a2.2, a3.1, a3.2, a4.1, a4.2, bne_self_eq_false, bne_self_eq_false]; rfl)
end Go.FG.Pu.laws_eqProxy

namespace Go.FG.Pu.laws_eqFileS
theorem run (a : Row) (hl : a.length ≤ 9223372036854775807) : vo a a = some true := by
  unfold vo b
  rw [show ((a.length : Int) != (a.length : Int)) = false from bne_self_eq_false _, cond_false]
  have := Lib.loop_gen (fun n (i : Nat) => l4 Lib.big (fun (_ _ : Row) (y : Bool) (_ : Int) => some y) (fun (_ _ : Row) (_ : Bool) (_ : Int) => some true) n a a false (i : Int)) (fun i => a.length - i) (fun i => i ≤ a.length) (fun _ => some true) (fun n i hi => by
    by_cases h : i < a.length
    · right
      refine ⟨i + 1, h, by omega, rfl, ?_⟩
      have hi1 : w64 ((i : Int) + 1) = ((i + 1 : Nat) : Int) := Lib.w64_ok (by omega) (by omega)
      have hel : ∀ (x0 : ByteArray) (x1 : ByteArray) (x2 : Int), Pu.laws_eqFile.v x0 x1 x2 x0 x1 x2 = true := fun _ _ _ => by
        simp only [Pu.laws_eqFile.v, bne_self_eq_false, Lib.beq_refl_ba, Bool.not_true, cond_false]
      simp only [l4, r4, Lib.dlt, h, decide_true, Lib.dle0, Bool.and_self, cond_true, Lib.toN, hi1, hel, Bool.not_true, cond_false]
    · left
      simp only [l4, r4, Lib.dlt, h, decide_false, cond_false]) Lib.big 0 (Nat.zero_le _) (Lib.lt_big (by omega))
  exact this
theorem ok (a : Row) (hl : a.length ≤ 9223372036854775807) : c a a = true ∧ v a a = true := out a a (run a hl)
end Go.FG.Pu.laws_eqFileS

namespace Go.FG.Pu.laws_eqDisk
theorem ok (a : Row) (hl : a.length ≤ 9223372036854775807) : c a a = true ∧ v a a = true := by
  have h := Pu.laws_eqFileS.ok a hl
  exact out a a (by unfold vo b; rw [h.1, h.2, cond_true]; rfl)
end Go.FG.Pu.laws_eqDisk

namespace Go.FG.Pu.laws_eqWorld
theorem ok (i0 : Int) (r1 r2 r3 r4 : Row) (i5 : Int) (r6 r7 : Row) (i8 : Int) (r9 r10 r11 : Row) (h1 : r1.length ≤ 9223372036854775807) (h2 : r2.length ≤ 9223372036854775807) (h3 : r3.length ≤ 9223372036854775807) (h4 : r4.length ≤ 9223372036854775807) (h6 : r6.length ≤ 9223372036854775807) (h7 : r7.length ≤ 9223372036854775807) (h9 : r9.length ≤ 9223372036854775807) (h11 : r11.length ≤ 9223372036854775807) :
    c i0 r1 r2 r3 r4 i5 r6 r7 i8 r9 r10 r11 i0 r1 r2 r3 r4 i5 r6 r7 i8 r9 r10 r11 = true ∧ v i0 r1 r2 r3 r4 i5 r6 r7 i8 r9 r10 r11 i0 r1 r2 r3 r4 i5 r6 r7 i8 r9 r10 r11 = true := by
  have a1 := Pu.laws_eqProxy.ok i0 r1 r2 r3 r4 i5 r6 r7 i8 h1 h2 h3 h4 h6 h7
  have a2 := Pu.laws_eqDisk.ok r9 h9
  have a4 := Pu.laws_eqEntryS.ok r11 h11
  exact out _ _ _ _ _ _ _ _ _ _ _ _ _ _ _ _ _ _ _ _ _ _ _ _ (by unfold vo b; rw [a1.1, a1.2, a2.1, a2.2, Pu.laws_eqIntS.refl, a4.1, a4.2]; rfl)
end Go.FG.Pu.laws_eqWorld

namespace Go.FG.Pu.laws_FnExactStoredRight
theorem run (i0 : Int) (r1 r2 r3 r4 : Row) (i5 : Int) (r6 r7 : Row) (i8 : Int) (r9 r10 r11 : Row) (f1 : FitR r1) (f2 : FitR r2) (f3 : FitR r3) (f4 : FitR r4) (f6 : FitR r6) (f7 : FitR r7) (f9 : FitR r9) (f10 : FitR r10) (f11 : FitR r11) : vo i0 r1 r2 r3 r4 i5 r6 r7 i8 r9 r10 r11 = some true := by
  unfold vo b
  obtain ⟨z1, z2, z3⟩ := Pu.laws_szWorld.ok i0 r1 r2 r3 r4 i5 r6 r7 i8 r9 r10 r11 1048576 (by omega) (by omega) f1 f2 f3 f4 f6 f7 f9 f10 f11
  rw [z1, cond_true]
  by_cases h : Pu.laws_szWorld.v i0 r1 r2 r3 r4 i5 r6 r7 i8 r9 r10 r11 1048576 < 0
  · rw [decide_eq_true h]; rfl
  · rw [decide_eq_false h, cond_false]
    obtain ⟨⟨l1, ⟨l2, l3, l4, l5⟩, l6, l7⟩, l9, l10, l11⟩ := z3 (by omega)
    obtain ⟨t1, t2⟩ := Pu.laws_toWorld.ok i0 r1 r2 r3 r4 i5 r6 r7 i8 r9 r10 r11 l1 l2 l3 l4 l5 l6 l7 l9 l10 l11
    have m1 := Pu.laws_toEntryS.tl_len r1
    have m2 := Pu.laws_toStringS.tl_len r2
    have m3 := Pu.laws_toStringS.tl_len r3
    have m4 := Pu.laws_toIntSS.tl_len r4
    have m6 := Pu.laws_toFetchS.tl_len r6
    have m7 := Pu.laws_toClientS.tl_len r7
    have m9 := Pu.laws_toFileS.tl_len r9
    have m11 := Pu.laws_toEntryS.tl_len r11
    have a1 := Pu.spec_StoredRight.ok i0 (Pu.laws_toEntryS.tl r1) (Pu.laws_toStringS.tl r2) (Pu.laws_toStringS.tl r3) (Pu.laws_toIntSS.tl r4) i5 (Pu.laws_toFetchS.tl r6) (Pu.laws_toClientS.tl r7) i8 (Pu.laws_toFileS.tl r9) (Pu.laws_toIntS.v r10) (Pu.laws_toEntryS.tl r11) (by omega) (by omega)
    have a2 := Pu.impl_StoredRight.ok i0 (Pu.laws_toEntryS.tl r1) (Pu.laws_toStringS.tl r2) (Pu.laws_toStringS.tl r3) (Pu.laws_toIntSS.tl r4) i5 (Pu.laws_toFetchS.tl r6) (Pu.laws_toClientS.tl r7) i8 (Pu.laws_toFileS.tl r9) (Pu.laws_toIntS.v r10) (Pu.laws_toEntryS.tl r11) (by omega) (by omega)
    have a3 := Pu.laws_eqWorld.ok i0 (Pu.laws_toEntryS.tl r1) (Pu.laws_toStringS.tl r2) (Pu.laws_toStringS.tl r3) (Pu.laws_toIntSS.tl r4) i5 (Pu.laws_toFetchS.tl r6) (Pu.laws_toClientS.tl r7) i8 (Pu.laws_toFileS.tl r9) (Pu.laws_toIntS.v r10) (Pu.laws_toEntryS.tl r11) (by omega) (by omega) (by omega) (by omega) (by omega) (by omega) (by omega) (by omega)
    simp only [t1, t2, a1.1, a1.2, a2.1, a2.2, a3.1, a3.2, cond_true, cond_false, decide_true, Bool.not_true]
theorem law (i0 : Int) (r1 r2 r3 r4 : Row) (i5 : Int) (r6 r7 : Row) (i8 : Int) (r9 r10 r11 : Row) {A B C : Prop} (_ : A) (f1 : FitR r1) (f2 : FitR r2) (f3 : FitR r3) (f4 : FitR r4) (_ : B) (f6 : FitR r6) (f7 : FitR r7) (_ : C) (f9 : FitR r9) (f10 : FitR r10) (f11 : FitR r11) : v i0 r1 r2 r3 r4 i5 r6 r7 i8 r9 r10 r11 = true := (out _ _ _ _ _ _ _ _ _ _ _ _ (run i0 r1 r2 r3 r4 i5 r6 r7 i8 r9 r10 r11 f1 f2 f3 f4 f6 f7 f9 f10 f11)).2
theorem lawc (i0 : Int) (r1 r2 r3 r4 : Row) (i5 : Int) (r6 r7 : Row) (i8 : Int) (r9 r10 r11 : Row) {A B C : Prop} (_ : A) (f1 : FitR r1) (f2 : FitR r2) (f3 : FitR r3) (f4 : FitR r4) (_ : B) (f6 : FitR r6) (f7 : FitR r7) (_ : C) (f9 : FitR r9) (f10 : FitR r10) (f11 : FitR r11) : c i0 r1 r2 r3 r4 i5 r6 r7 i8 r9 r10 r11 = true := (out _ _ _ _ _ _ _ _ _ _ _ _ (run i0 r1 r2 r3 r4 i5 r6 r7 i8 r9 r10 r11 f1 f2 f3 f4 f6 f7 f9 f10 f11)).1
end Go.FG.Pu.laws_FnExactStoredRight

