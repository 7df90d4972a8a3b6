/- What the functions come to, in plain numbers, texts and lists; last the law itself. No condition but those that each states. -/
import Derived.Test.YtijidheebmbkcaaPExactLeaveClient
set_option linter.unusedVariables false
set_option linter.unusedSimpArgs false
set_option maxRecDepth 100000
namespace Go.FG.Pu.laws_szIntSS
theorem bd {q : Row} {L : Int} (z : q.length ≤ 9223372036854775807) (h0 : 0 ≤ L) (h1 : L ≤ 1048576) : Pu.laws_szIntS.v q L ≤ 1048576 ∧ (¬ Pu.laws_szIntS.v q L < 0 → q.length ≤ 1048576 ∧ Pu.laws_szIntS.v q L = L - (q.length : Int)) := by
  unfold Pu.laws_szIntS.v
  rw [Lib.w64_ok (by omega) (by omega)]
  by_cases c0 : L - (q.length : Int) < 0
  · rw [decide_eq_true c0, cond_true]; exact ⟨by omega, fun h => absurd (by omega) h⟩
  · rw [decide_eq_false c0, cond_false]; exact ⟨by omega, fun h => ⟨by omega, rfl⟩⟩
def tot (a : Row) : Nat := (a.map fun y => (cvL (y.getD 0 (.b false))).length).sum
def inn (a : Row) : Prop := (∀ j, j < a.length → (cvL (cellAt a j 0)).length ≤ 1048576) ∧ tot a ≤ 1048576
theorem tot_succ (a : Row) (i : Nat) (h : i < a.length) : tot (a.take (i + 1)) = tot (a.take i) + (cvL (cellAt a i 0)).length := by
  unfold tot
  rw [List.take_succ_eq_append_getElem h, List.map_append, List.sum_append, Lib.cellAt_of h]
  simp
theorem run (a : Row) (L : Int) (h0 : 0 ≤ L) (h1 : L ≤ 1048576) (ha : FitR a) : ∃ x, vo a L = some x ∧ x ≤ 1048576 ∧ (0 ≤ x → a.length ≤ 1048576 ∧ inn a) := by
  have hl := ha.1
  unfold vo b
  rw [Lib.w64_ok (x := L - (a.length : Int)) (by omega) (by omega)]
  by_cases hc : L - (a.length : Int) < 0
  · rw [decide_eq_true hc]; exact ⟨-1, rfl, by omega, fun h => by omega⟩
  · rw [decide_eq_false hc, cond_false]
    have key := Lib.loop_post (fun n (s : Nat × Int) => l5 Lib.big (fun (_ : Row) (_ y6 _ : Int) => some y6) (fun (_ : Row) (y9 _ _ : Int) => some y9) n a s.2 0 (s.1 : Int)) (fun s => a.length - s.1) (fun s => s.1 ≤ a.length ∧ 0 ≤ s.2 ∧ s.2 ≤ 1048576 ∧ (∀ j, j < s.1 → (cvL (cellAt a j 0)).length ≤ 1048576) ∧ s.2 + (tot (a.take s.1) : Int) ≤ 1048576) (fun x => x ≤ 1048576 ∧ (0 ≤ x → inn a)) (fun n s hs => by
      obtain ⟨i, L⟩ := s
      obtain ⟨hi, hL0, hL1, hin, hto⟩ := hs
      dsimp only at hi hL0 hL1 hin hto ⊢
      by_cases h : i < a.length
      · have hi1 : w64 ((i : Int) + 1) = ((i + 1 : Nat) : Int) := Lib.w64_ok (by omega) (by omega)
        have hw := bd (Lib.FitR_cell ha i 0).1 hL0 hL1
        by_cases hn : Pu.laws_szIntS.v (cvL (cellAt a i 0)) L < 0
        · exact .inl ⟨-1, by simp only [l5, r5, Lib.dlt, h, decide_true, Lib.dle0, Bool.and_self, cond_true, Lib.toN, hn], by omega, fun h => by omega⟩
        · exact .inr ⟨(i + 1, Pu.laws_szIntS.v (cvL (cellAt a i 0)) L), ⟨h, by omega, hw.1, fun j hj => by
            by_cases hji : j = i
            · subst hji; exact (hw.2 hn).1
            · exact hin j (by dsimp only at hj; omega), by
            have e := (hw.2 hn).2
            have e2 := tot_succ a i h
            dsimp only
            rw [e, e2]; omega⟩, by dsimp only; omega, by simp only [l5, r5, Lib.dlt, h, decide_true, decide_false, Lib.dle0, Bool.and_self, cond_true, cond_false, Lib.toN, hn, hi1]⟩
      · exact .inl ⟨L, by simp only [l5, r5, Lib.dlt, h, decide_false, cond_false], hL1, fun _ => ⟨fun j hj => hin j (by omega), by
          have e : i = a.length := by omega
          rw [e, List.take_length] at hto; omega⟩⟩) Lib.big (0, L - (a.length : Int)) ⟨Nat.zero_le _, by dsimp only; omega, by dsimp only; omega, fun j hj => absurd hj (Nat.not_lt_zero j), by dsimp only; rw [List.take_zero]; show L - (a.length : Int) + ((0 : Nat) : Int) ≤ _; omega⟩ (Lib.lt_big (by omega))
    obtain ⟨x, hx, hb, hb2⟩ := key
    exact ⟨x, hx, hb, fun h => ⟨by omega, hb2 h⟩⟩
theorem ok (a : Row) (L : Int) (h0 : 0 ≤ L) (h1 : L ≤ 1048576) (ha : FitR a) : c a L = true ∧ v a L ≤ 1048576 ∧ (0 ≤ v a L → a.length ≤ 1048576 ∧ inn a) := by
  obtain ⟨x, h, h2, h3⟩ := run a L h0 h1 ha
  obtain ⟨e1, e2⟩ := out a L h
  rw [e2]; exact ⟨e1, h2, h3⟩
end Go.FG.Pu.laws_szIntSS

namespace Go.FG.Pu.laws_szEntry
theorem bd (x0 : ByteArray) (x1 : Int) (x2 : Int) (x3 : ByteArray) (L : Int) (h0 : okS x0) (h3 : okS x3) (hL0 : 0 ≤ L) (hL1 : L ≤ 1048576) : v x0 x1 x2 x3 L ≤ 1048576 := by
  have hz : ∀ x, okS x → x.size ≤ 4611686018427387904 := fun _ h => h
  have z0 := hz _ h0
  have z3 := hz _ h3
  unfold v
  rw [Lib.w64_ok (x := L - (x0.size : Int)) (by omega) (by omega)]
  by_cases c0 : L - (x0.size : Int) < 0
  · rw [decide_eq_true c0, cond_true]; omega
  · rw [decide_eq_false c0, cond_false]
    rw [Lib.w64_ok (x := (L - (x0.size : Int)) - (x3.size : Int)) (by omega) (by omega)]
    by_cases c3 : (L - (x0.size : Int)) - (x3.size : Int) < 0
    · rw [decide_eq_true c3, cond_true]; omega
    · rw [decide_eq_false c3, cond_false]
      omega
end Go.FG.Pu.laws_szEntry

namespace Go.FG.Pu.laws_szEntryS
theorem run (a : Row) (L : Int) (h0 : 0 ≤ L) (h1 : L ≤ 1048576) (ha : FitR a) : ∃ x, vo a L = some x ∧ x ≤ 1048576 ∧ (0 ≤ x → a.length ≤ 1048576) := by
  have hl := ha.1
  unfold vo b
  rw [Lib.w64_ok (x := L - (a.length : Int)) (by omega) (by omega)]
  by_cases hc : L - (a.length : Int) < 0
  · rw [decide_eq_true hc]; exact ⟨-1, rfl, by omega, fun h => by omega⟩
  · rw [decide_eq_false hc, cond_false]
    have key := Lib.loop_post (fun n (s : Nat × Int) => l5 Lib.big (fun (_ : Row) (_ y6 _ : Int) => some y6) (fun (_ : Row) (y9 _ _ : Int) => some y9) n a s.2 0 (s.1 : Int)) (fun s => a.length - s.1) (fun s => s.1 ≤ a.length ∧ 0 ≤ s.2 ∧ s.2 ≤ 1048576) (fun x => x ≤ 1048576) (fun n s hs => by
      obtain ⟨i, L⟩ := s
      obtain ⟨hi, hL0, hL1⟩ := hs
      dsimp only at hi hL0 hL1 ⊢
      by_cases h : i < a.length
      · have hi1 : w64 ((i : Int) + 1) = ((i + 1 : Nat) : Int) := Lib.w64_ok (by omega) (by omega)
        have hw : Pu.laws_szEntry.v (cvS (cellAt a i 0)) (cvI (cellAt a i 1)) (cvI (cellAt a i (1 + 1))) (cvS (cellAt a i (1 + 1 + 1))) L ≤ 1048576 := Pu.laws_szEntry.bd _ _ _ _ L (Lib.okS_cell ha i _) (Lib.okS_cell ha i _) hL0 hL1
        by_cases hn : Pu.laws_szEntry.v (cvS (cellAt a i 0)) (cvI (cellAt a i 1)) (cvI (cellAt a i (1 + 1))) (cvS (cellAt a i (1 + 1 + 1))) L < 0
        · exact .inl ⟨-1, by simp only [l5, r5, Lib.dlt, h, decide_true, Lib.dle0, Bool.and_self, cond_true, Lib.toN, hn], by omega⟩
        · exact .inr ⟨(i + 1, Pu.laws_szEntry.v (cvS (cellAt a i 0)) (cvI (cellAt a i 1)) (cvI (cellAt a i (1 + 1))) (cvS (cellAt a i (1 + 1 + 1))) L), ⟨h, by omega, hw⟩, by dsimp only; omega, by simp only [l5, r5, Lib.dlt, h, decide_true, decide_false, Lib.dle0, Bool.and_self, cond_true, cond_false, Lib.toN, hn, hi1]⟩
      · exact .inl ⟨L, by simp only [l5, r5, Lib.dlt, h, decide_false, cond_false], hL1⟩) Lib.big (0, L - (a.length : Int)) ⟨Nat.zero_le _, by dsimp only; omega, by dsimp only; omega⟩ (Lib.lt_big (by omega))
    obtain ⟨x, hx, hb⟩ := key
    exact ⟨x, hx, hb, fun _ => by omega⟩
theorem ok (a : Row) (L : Int) (h0 : 0 ≤ L) (h1 : L ≤ 1048576) (ha : FitR a) : c a L = true ∧ v a L ≤ 1048576 ∧ (0 ≤ v a L → a.length ≤ 1048576) := by
  obtain ⟨x, h, h2, h3⟩ := run a L h0 h1 ha
  obtain ⟨e1, e2⟩ := out a L h
  rw [e2]; exact ⟨e1, h2, h3⟩
end Go.FG.Pu.laws_szEntryS

namespace Go.FG.Pu.laws_szStringS
theorem run (a : Row) (L : Int) (h0 : 0 ≤ L) (h1 : L ≤ 1048576) (ha : FitR a) : ∃ x, vo a L = some x ∧ x ≤ 1048576 ∧ (0 ≤ x → a.length ≤ 1048576) := by
  have hl := ha.1
  unfold vo b
  rw [Lib.w64_ok (x := L - (a.length : Int)) (by omega) (by omega)]
  by_cases hc : L - (a.length : Int) < 0
  · rw [decide_eq_true hc]; exact ⟨-1, rfl, by omega, fun h => by omega⟩
  · rw [decide_eq_false hc, cond_false]
    have key := Lib.loop_post (fun n (s : Nat × Int) => l5 Lib.big (fun (_ : Row) (_ y6 _ : Int) => some y6) (fun (_ : Row) (y9 _ _ : Int) => some y9) n a s.2 0 (s.1 : Int)) (fun s => a.length - s.1) (fun s => s.1 ≤ a.length ∧ 0 ≤ s.2 ∧ s.2 ≤ 1048576) (fun x => x ≤ 1048576) (fun n s hs => by
      obtain ⟨i, L⟩ := s
      obtain ⟨hi, hL0, hL1⟩ := hs
      dsimp only at hi hL0 hL1 ⊢
      by_cases h : i < a.length
      · have hi1 : w64 ((i : Int) + 1) = ((i + 1 : Nat) : Int) := Lib.w64_ok (by omega) (by omega)
        have z : (cvS (cellAt a i 0)).size ≤ 4611686018427387904 := Lib.okS_cell ha i 0
        have hw : w64 (L - (↑(ByteArray.size (cvS (cellAt a i 0))) : Int)) ≤ 1048576 := by rw [Lib.w64_ok (by omega) (by omega)]; omega
        by_cases hn : w64 (L - (↑(ByteArray.size (cvS (cellAt a i 0))) : Int)) < 0
        · exact .inl ⟨-1, by simp only [l5, r5, Lib.dlt, h, decide_true, Lib.dle0, Bool.and_self, cond_true, Lib.toN, hn], by omega⟩
        · exact .inr ⟨(i + 1, w64 (L - (↑(ByteArray.size (cvS (cellAt a i 0))) : Int))), ⟨h, by omega, hw⟩, by dsimp only; omega, by simp only [l5, r5, Lib.dlt, h, decide_true, decide_false, Lib.dle0, Bool.and_self, cond_true, cond_false, Lib.toN, hn, hi1]⟩
      · exact .inl ⟨L, by simp only [l5, r5, Lib.dlt, h, decide_false, cond_false], hL1⟩) Lib.big (0, L - (a.length : Int)) ⟨Nat.zero_le _, by dsimp only; omega, by dsimp only; omega⟩ (Lib.lt_big (by omega))
    obtain ⟨x, hx, hb⟩ := key
    exact ⟨x, hx, hb, fun _ => by omega⟩
theorem ok (a : Row) (L : Int) (h0 : 0 ≤ L) (h1 : L ≤ 1048576) (ha : FitR a) : c a L = true ∧ v a L ≤ 1048576 ∧ (0 ≤ v a L → a.length ≤ 1048576) := by
  obtain ⟨x, h, h2, h3⟩ := run a L h0 h1 ha
  obtain ⟨e1, e2⟩ := out a L h
  rw [e2]; exact ⟨e1, h2, h3⟩
end Go.FG.Pu.laws_szStringS

namespace Go.FG.Pu.laws_szSketch
theorem ok (r : Row) (k : Int) (L : Int) (h0 : 0 ≤ L) (h1 : L ≤ 1048576) (ha : FitR r) : c r k L = true ∧ v r k L ≤ 1048576 ∧ (0 ≤ v r k L → r.length ≤ 1048576 ∧ Pu.laws_szIntSS.inn r) := by
  obtain ⟨e1, e2, e3⟩ := Pu.laws_szIntSS.ok r L h0 h1 ha
  by_cases h : Pu.laws_szIntSS.v r L < 0
  · obtain ⟨q1, q2⟩ := out r k L (x := -1) (by unfold vo b; rw [e1, cond_true, decide_eq_true h, cond_true])
    rw [q2]; exact ⟨q1, by omega, fun h => by omega⟩
  · obtain ⟨q1, q2⟩ := out r k L (x := Pu.laws_szIntSS.v r L) (by unfold vo b; rw [e1, cond_true, decide_eq_false h, cond_false])
    rw [q2]; exact ⟨q1, e2, e3⟩
end Go.FG.Pu.laws_szSketch

namespace Go.FG.Pu.laws_szPolicy
theorem ok (r0 r1 r2 : Row) (k : Int) (L : Int) (h0 : 0 ≤ L) (h1 : L ≤ 1048576) (f0 : FitR r0) (f1 : FitR r1) (f2 : FitR r2) : c r0 r1 r2 k L = true ∧ v r0 r1 r2 k L ≤ 1048576 ∧ (0 ≤ v r0 r1 r2 k L → r0.length ≤ 1048576 ∧ r1.length ≤ 1048576 ∧ r2.length ≤ 1048576 ∧ Pu.laws_szIntSS.inn r2) := by
  have a1 := Pu.laws_szStringS.ok r0 L h0 h1 f0
  by_cases hA : Pu.laws_szStringS.v r0 L < 0
  · obtain ⟨q1, q2⟩ := out r0 r1 r2 k L (x := -1) (by unfold vo b; rw [a1.1, cond_true, decide_eq_true hA, cond_true])
    rw [q2]; exact ⟨q1, by omega, fun h => by omega⟩
  have a2 := Pu.laws_szStringS.ok r1 (Pu.laws_szStringS.v r0 L) (by omega) a1.2.1 f1
  by_cases hB : Pu.laws_szStringS.v r1 (Pu.laws_szStringS.v r0 L) < 0
  · obtain ⟨q1, q2⟩ := out r0 r1 r2 k L (x := -1) (by unfold vo b; rw [a1.1, cond_true, decide_eq_false hA, cond_false, a2.1, cond_true, decide_eq_true hB, cond_true])
    rw [q2]; exact ⟨q1, by omega, fun h => by omega⟩
  have a3 := Pu.laws_szSketch.ok r2 k (Pu.laws_szStringS.v r1 (Pu.laws_szStringS.v r0 L)) (by omega) a2.2.1 f2
  by_cases hC : Pu.laws_szSketch.v r2 k (Pu.laws_szStringS.v r1 (Pu.laws_szStringS.v r0 L)) < 0
  · obtain ⟨q1, q2⟩ := out r0 r1 r2 k L (x := -1) (by unfold vo b; rw [a1.1, cond_true, decide_eq_false hA, cond_false, a2.1, cond_true, decide_eq_false hB, cond_false, a3.1, cond_true, decide_eq_true hC, cond_true])
    rw [q2]; exact ⟨q1, by omega, fun h => by omega⟩
  obtain ⟨q1, q2⟩ := out r0 r1 r2 k L (x := Pu.laws_szSketch.v r2 k (Pu.laws_szStringS.v r1 (Pu.laws_szStringS.v r0 L))) (by unfold vo b; rw [a1.1, cond_true, decide_eq_false hA, cond_false, a2.1, cond_true, decide_eq_false hB, cond_false, a3.1, cond_true, decide_eq_false hC, cond_false])
  rw [q2]; exact ⟨q1, a3.2.1, fun h => ⟨a1.2.2 (by omega), a2.2.2 (by omega), a3.2.2 h⟩⟩
end Go.FG.Pu.laws_szPolicy

namespace Go.FG.Pu.laws_szFetch
theorem bd (x0 : ByteArray) (x1 : ByteArray) (x2 : Int) (x3 : Int) (x4 : Int) (L : Int) (h0 : okS x0) (h1 : okS x1) (hL0 : 0 ≤ L) (hL1 : L ≤ 1048576) : v x0 x1 x2 x3 x4 L ≤ 1048576 := by
  have hz : ∀ x, okS x → x.size ≤ 4611686018427387904 := fun _ h => h
  have z0 := hz _ h0
  have z1 := hz _ h1
  unfold v
  rw [Lib.w64_ok (x := L - (x0.size : Int)) (by omega) (by omega)]
  by_cases c0 : L - (x0.size : Int) < 0
  · rw [decide_eq_true c0, cond_true]; omega
  · rw [decide_eq_false c0, cond_false]
    rw [Lib.w64_ok (x := (L - (x0.size : Int)) - (x1.size : Int)) (by omega) (by omega)]
    by_cases c1 : (L - (x0.size : Int)) - (x1.size : Int) < 0
    · rw [decide_eq_true c1, cond_true]; omega
    · rw [decide_eq_false c1, cond_false]
      omega
end Go.FG.Pu.laws_szFetch

namespace Go.FG.Pu.laws_szFetchS
theorem run (a : Row) (L : Int) (h0 : 0 ≤ L) (h1 : L ≤ 1048576) (ha : FitR a) : ∃ x, vo a L = some x ∧ x ≤ 1048576 ∧ (0 ≤ x → a.length ≤ 1048576) := by
  have hl := ha.1
  unfold vo b
  rw [Lib.w64_ok (x := L - (a.length : Int)) (by omega) (by omega)]
  by_cases hc : L - (a.length : Int) < 0
  · rw [decide_eq_true hc]; exact ⟨-1, rfl, by omega, fun h => by omega⟩
  · rw [decide_eq_false hc, cond_false]
    have key := Lib.loop_post (fun n (s : Nat × Int) => l5 Lib.big (fun (_ : Row) (_ y6 _ : Int) => some y6) (fun (_ : Row) (y9 _ _ : Int) => some y9) n a s.2 0 (s.1 : Int)) (fun s => a.length - s.1) (fun s => s.1 ≤ a.length ∧ 0 ≤ s.2 ∧ s.2 ≤ 1048576) (fun x => x ≤ 1048576) (fun n s hs => by
      obtain ⟨i, L⟩ := s
      obtain ⟨hi, hL0, hL1⟩ := hs
      dsimp only at hi hL0 hL1 ⊢
      by_cases h : i < a.length
      · have hi1 : w64 ((i : Int) + 1) = ((i + 1 : Nat) : Int) := Lib.w64_ok (by omega) (by omega)
        have hw : Pu.laws_szFetch.v (cvS (cellAt a i 0)) (cvS (cellAt a i 1)) (cvI (cellAt a i (1 + 1))) (cvI (cellAt a i (1 + 1 + 1))) (cvI (cellAt a i (1 + 1 + 1 + 1))) L ≤ 1048576 := Pu.laws_szFetch.bd _ _ _ _ _ L (Lib.okS_cell ha i _) (Lib.okS_cell ha i _) hL0 hL1
        by_cases hn : Pu.laws_szFetch.v (cvS (cellAt a i 0)) (cvS (cellAt a i 1)) (cvI (cellAt a i (1 + 1))) (cvI (cellAt a i (1 + 1 + 1))) (cvI (cellAt a i (1 + 1 + 1 + 1))) L < 0
        · exact .inl ⟨-1, by simp only [l5, r5, Lib.dlt, h, decide_true, Lib.dle0, Bool.and_self, cond_true, Lib.toN, hn], by omega⟩
        · exact .inr ⟨(i + 1, Pu.laws_szFetch.v (cvS (cellAt a i 0)) (cvS (cellAt a i 1)) (cvI (cellAt a i (1 + 1))) (cvI (cellAt a i (1 + 1 + 1))) (cvI (cellAt a i (1 + 1 + 1 + 1))) L), ⟨h, by omega, hw⟩, by dsimp only; omega, by simp only [l5, r5, Lib.dlt, h, decide_true, decide_false, Lib.dle0, Bool.and_self, cond_true, cond_false, Lib.toN, hn, hi1]⟩
      · exact .inl ⟨L, by simp only [l5, r5, Lib.dlt, h, decide_false, cond_false], hL1⟩) Lib.big (0, L - (a.length : Int)) ⟨Nat.zero_le _, by dsimp only; omega, by dsimp only; omega⟩ (Lib.lt_big (by omega))
    obtain ⟨x, hx, hb⟩ := key
    exact ⟨x, hx, hb, fun _ => by omega⟩
theorem ok (a : Row) (L : Int) (h0 : 0 ≤ L) (h1 : L ≤ 1048576) (ha : FitR a) : c a L = true ∧ v a L ≤ 1048576 ∧ (0 ≤ v a L → a.length ≤ 1048576) := by
  obtain ⟨x, h, h2, h3⟩ := run a L h0 h1 ha
  obtain ⟨e1, e2⟩ := out a L h
  rw [e2]; exact ⟨e1, h2, h3⟩
end Go.FG.Pu.laws_szFetchS

namespace Go.FG.Pu.laws_szClient
theorem bd (x0 : Int) (x1 : ByteArray) (x2 : Int) (x3 : Int) (x4 : Int) (x5 : ByteArray) (x6 : Int) (L : Int) (h1 : okS x1) (h5 : okS x5) (hL0 : 0 ≤ L) (hL1 : L ≤ 1048576) : v x0 x1 x2 x3 x4 x5 x6 L ≤ 1048576 := by
  have hz : ∀ x, okS x → x.size ≤ 4611686018427387904 := fun _ h => h
  have z1 := hz _ h1
  have z5 := hz _ h5
  unfold v
  rw [Lib.w64_ok (x := L - (x1.size : Int)) (by omega) (by omega)]
  by_cases c1 : L - (x1.size : Int) < 0
  · rw [decide_eq_true c1, cond_true]; omega
  · rw [decide_eq_false c1, cond_false]
    rw [Lib.w64_ok (x := (L - (x1.size : Int)) - (x5.size : Int)) (by omega) (by omega)]
    by_cases c5 : (L - (x1.size : Int)) - (x5.size : Int) < 0
    · rw [decide_eq_true c5, cond_true]; omega
    · rw [decide_eq_false c5, cond_false]
      omega
end Go.FG.Pu.laws_szClient

namespace Go.FG.Pu.laws_szClientS
theorem run (a : Row) (L : Int) (h0 : 0 ≤ L) (h1 : L ≤ 1048576) (ha : FitR a) : ∃ x, vo a L = some x ∧ x ≤ 1048576 ∧ (0 ≤ x → a.length ≤ 1048576) := by
  have hl := ha.1
  unfold vo b
  rw [Lib.w64_ok (x := L - (a.length : Int)) (by omega) (by omega)]
  by_cases hc : L - (a.length : Int) < 0
  · rw [decide_eq_true hc]; exact ⟨-1, rfl, by omega, fun h => by omega⟩
  · rw [decide_eq_false hc, cond_false]
    have key := Lib.loop_post (fun n (s : Nat × Int) => l5 Lib.big (fun (_ : Row) (_ y6 _ : Int) => some y6) (fun (_ : Row) (y9 _ _ : Int) => some y9) n a s.2 0 (s.1 : Int)) (fun s => a.length - s.1) (fun s => s.1 ≤ a.length ∧ 0 ≤ s.2 ∧ s.2 ≤ 1048576) (fun x => x ≤ 1048576) (fun n s hs => by
      obtain ⟨i, L⟩ := s
      obtain ⟨hi, hL0, hL1⟩ := hs
      dsimp only at hi hL0 hL1 ⊢
      by_cases h : i < a.length
      · have hi1 : w64 ((i : Int) + 1) = ((i + 1 : Nat) : Int) := Lib.w64_ok (by omega) (by omega)
        have hw : Pu.laws_szClient.v (cvI (cellAt a i 0)) (cvS (cellAt a i 1)) (cvI (cellAt a i (1 + 1))) (cvI (cellAt a i (1 + 1 + 1))) (cvI (cellAt a i (1 + 1 + 1 + 1))) (cvS (cellAt a i (1 + 1 + 1 + 1 + 1))) (cvI (cellAt a i (1 + 1 + 1 + 1 + 1 + 1))) L ≤ 1048576 := Pu.laws_szClient.bd _ _ _ _ _ _ _ L (Lib.okS_cell ha i _) (Lib.okS_cell ha i _) hL0 hL1
        by_cases hn : Pu.laws_szClient.v (cvI (cellAt a i 0)) (cvS (cellAt a i 1)) (cvI (cellAt a i (1 + 1))) (cvI (cellAt a i (1 + 1 + 1))) (cvI (cellAt a i (1 + 1 + 1 + 1))) (cvS (cellAt a i (1 + 1 + 1 + 1 + 1))) (cvI (cellAt a i (1 + 1 + 1 + 1 + 1 + 1))) L < 0
        · exact .inl ⟨-1, by simp only [l5, r5, Lib.dlt, h, decide_true, Lib.dle0, Bool.and_self, cond_true, Lib.toN, hn], by omega⟩
        · exact .inr ⟨(i + 1, Pu.laws_szClient.v (cvI (cellAt a i 0)) (cvS (cellAt a i 1)) (cvI (cellAt a i (1 + 1))) (cvI (cellAt a i (1 + 1 + 1))) (cvI (cellAt a i (1 + 1 + 1 + 1))) (cvS (cellAt a i (1 + 1 + 1 + 1 + 1))) (cvI (cellAt a i (1 + 1 + 1 + 1 + 1 + 1))) L), ⟨h, by omega, hw⟩, by dsimp only; omega, by simp only [l5, r5, Lib.dlt, h, decide_true, decide_false, Lib.dle0, Bool.and_self, cond_true, cond_false, Lib.toN, hn, hi1]⟩
      · exact .inl ⟨L, by simp only [l5, r5, Lib.dlt, h, decide_false, cond_false], hL1⟩) Lib.big (0, L - (a.length : Int)) ⟨Nat.zero_le _, by dsimp only; omega, by dsimp only; omega⟩ (Lib.lt_big (by omega))
    obtain ⟨x, hx, hb⟩ := key
    exact ⟨x, hx, hb, fun _ => by omega⟩
theorem ok (a : Row) (L : Int) (h0 : 0 ≤ L) (h1 : L ≤ 1048576) (ha : FitR a) : c a L = true ∧ v a L ≤ 1048576 ∧ (0 ≤ v a L → a.length ≤ 1048576) := by
  obtain ⟨x, h, h2, h3⟩ := run a L h0 h1 ha
  obtain ⟨e1, e2⟩ := out a L h
  rw [e2]; exact ⟨e1, h2, h3⟩
end Go.FG.Pu.laws_szClientS

namespace Go.FG.Pu.laws_szProxy
theorem ok (i0 : Int) (r1 r2 r3 r4 : Row) (i5 : Int) (r6 r7 : Row) (i8 : Int) (L : Int) (h0 : 0 ≤ L) (h1 : L ≤ 1048576) (f1 : FitR r1) (f2 : FitR r2) (f3 : FitR r3) (f4 : FitR r4) (f6 : FitR r6) (f7 : FitR r7) :
    c i0 r1 r2 r3 r4 i5 r6 r7 i8 L = true ∧ v i0 r1 r2 r3 r4 i5 r6 r7 i8 L ≤ 1048576 ∧ (0 ≤ v i0 r1 r2 r3 r4 i5 r6 r7 i8 L → r1.length ≤ 1048576 ∧ (r2.length ≤ 1048576 ∧ r3.length ≤ 1048576 ∧ r4.length ≤ 1048576 ∧ Pu.laws_szIntSS.inn r4) ∧ r6.length ≤ 1048576 ∧ r7.length ≤ 1048576) := by
  have a1 := Pu.laws_szEntryS.ok r1 L h0 h1 f1
  by_cases hA : Pu.laws_szEntryS.v r1 L < 0
  · obtain ⟨q1, q2⟩ := out i0 r1 r2 r3 r4 i5 r6 r7 i8 L (x := -1) (by unfold vo b; rw [a1.1, cond_true, decide_eq_true hA, cond_true])
    rw [q2]; exact ⟨q1, by omega, fun h => by omega⟩
  have a2 := Pu.laws_szPolicy.ok r2 r3 r4 i5 (Pu.laws_szEntryS.v r1 L) (by omega) a1.2.1 f2 f3 f4
  by_cases hB : Pu.laws_szPolicy.v r2 r3 r4 i5 (Pu.laws_szEntryS.v r1 L) < 0
  · obtain ⟨q1, q2⟩ := out i0 r1 r2 r3 r4 i5 r6 r7 i8 L (x := -1) (by unfold vo b; rw [a1.1, cond_true, decide_eq_false hA, cond_false, a2.1, cond_true, decide_eq_true hB, cond_true])
    rw [q2]; exact ⟨q1, by omega, fun h => by omega⟩
  have a3 := Pu.laws_szFetchS.ok r6 (Pu.laws_szPolicy.v r2 r3 r4 i5 (Pu.laws_szEntryS.v r1 L)) (by omega) a2.2.1 f6
  by_cases hC : Pu.laws_szFetchS.v r6 (Pu.laws_szPolicy.v r2 r3 r4 i5 (Pu.laws_szEntryS.v r1 L)) < 0
  · obtain ⟨q1, q2⟩ := out i0 r1 r2 r3 r4 i5 r6 r7 i8 L (x := -1) (by unfold vo b; rw [a1.1, cond_true, decide_eq_false hA, cond_false, a2.1, cond_true, decide_eq_false hB, cond_false, a3.1, cond_true, decide_eq_true hC, cond_true])
    rw [q2]; exact ⟨q1, by omega, fun h => by omega⟩
  have a4 := Pu.laws_szClientS.ok r7 (Pu.laws_szFetchS.v r6 (Pu.laws_szPolicy.v r2 r3 r4 i5 (Pu.laws_szEntryS.v r1 L))) (by omega) a3.2.1 f7
  by_cases hD : Pu.laws_szClientS.v r7 (Pu.laws_szFetchS.v r6 (Pu.laws_szPolicy.v r2 r3 r4 i5 (Pu.laws_szEntryS.v r1 L))) < 0
  · obtain ⟨q1, q2⟩ := out i0 r1 r2 r3 r4 i5 r6 r7 i8 L (x := -1) (by unfold vo b; rw [a1.1, cond_true, decide_eq_false hA, cond_false, a2.1, cond_true, decide_eq_false hB, cond_false, a3.1, cond_true, decide_eq_false hC, cond_false, a4.1, cond_true, decide_eq_true hD, cond_true])
    rw [q2]; exact ⟨q1, by omega, fun h => by omega⟩
  obtain ⟨q1, q2⟩ := out i0 r1 r2 r3 r4 i5 r6 r7 i8 L (x := Pu.laws_szClientS.v r7 (Pu.laws_szFetchS.v r6 (Pu.laws_szPolicy.v r2 r3 r4 i5 (Pu.laws_szEntryS.v r1 L)))) (by unfold vo b; rw [a1.1, cond_true, decide_eq_false hA, cond_false, a2.1, cond_true, decide_eq_false hB, cond_false, a3.1, cond_true, decide_eq_false hC, cond_false, a4.1, cond_true, decide_eq_false hD, cond_false])
  rw [q2]; exact ⟨q1, a4.2.1, fun h => ⟨a1.2.2 (by omega), a2.2.2 (by omega), a3.2.2 (by omega), a4.2.2 h⟩⟩
end Go.FG.Pu.laws_szProxy

namespace Go.FG.Pu.laws_toEntryS
/-- The rows' cells, one for one. -/
def tl (a0 : Row) : Row := a0.map fun y => [CV.s (cvS (y.getD 0 (.b false))), CV.i IntKind.i64 (cvI (y.getD 1 (.b false))), CV.i IntKind.i64 (cvI (y.getD 2 (.b false))), CV.s (cvS (y.getD 3 (.b false)))]
theorem tl_len (a0 : Row) : (tl a0).length = a0.length := by unfold tl; simp
theorem tl_sh (a0 : Row) : ∀ y ∈ tl a0, y.length = 4 := by
  intro y hy; unfold tl at hy; obtain ⟨z, _, rfl⟩ := List.mem_map.1 hy; rfl
theorem tl_idem (a0 : Row) : tl (tl a0) = tl a0 := by
  unfold tl; rw [List.map_map]; apply List.map_congr_left; intro y _; rfl
theorem run (a0 : Row) (hl : a0.length ≤ 1048576) : vo a0 = some (tl a0) := by
  unfold vo b
  rw [show decide ((a0.length : Int) = (a0.length : Int)) = true by simp, Lib.toN, Lib.roomy_of (by omega) (by omega), Bool.and_self, cond_true]
  have mono := Lib.loop_gen (fun m (s : Nat) => l3 Lib.big (fun (_ : Row) (_ : Int) (y : Row) => some y) m a0 (s : Int) ((tl a0).take s ++ zeros [Ck.s, Ck.i IntKind.i64, Ck.i IntKind.i64, Ck.s] (a0.length - s))) (fun i => a0.length - i) (fun i => i ≤ a0.length) (fun _ => some (tl a0)) (fun m i hi => by
    by_cases h : i < a0.length
    · right
      refine ⟨i + 1, h, by omega, rfl, ?_⟩
      have hlt : i < (tl a0).length := by rw [tl_len]; exact h
      have e := Lib.setC_step (ks := [Ck.s, Ck.i IntKind.i64, Ck.i IntKind.i64, Ck.s]) (tl_len a0) h (List.getElem?_eq_getElem hlt) (tl_sh a0 _ (List.getElem_mem hlt))
      have eg : (tl a0)[i] = [CV.s (cvS (cellAt a0 i 0)), CV.i IntKind.i64 (cvI (cellAt a0 i 1)), CV.i IntKind.i64 (cvI (cellAt a0 i 2)), CV.s (cvS (cellAt a0 i 3))] := by simp [tl, cellAt, List.getD, h]
      rw [eg] at e
      have hx : ((tl a0).take i ++ zeros [Ck.s, Ck.i IntKind.i64, Ck.i IntKind.i64, Ck.s] (a0.length - i)).length = a0.length := by rw [List.length_append, List.length_take, tl_len, Lib.length_zeros]; omega
      have hi1 : w64 ((i : Int) + 1) = ((i + 1 : Nat) : Int) := Lib.w64_ok (by omega) (by omega)
      show l3 Lib.big _ (m + 1) a0 (i : Int) _ = l3 Lib.big _ m a0 ((i + 1 : Nat) : Int) _
      rw [← e]
      simp only [l3, r3, hx, Lib.dlt, Lib.dle0, Lib.toN, h, decide_true, Bool.and_self, cond_true, hi1]
    · left
      have : i = a0.length := by omega
      subst this
      rw [Nat.sub_self, List.take_of_length_le (by rw [tl_len]; exact Nat.le_refl _), show zeros [Ck.s, Ck.i IntKind.i64, Ck.i IntKind.i64, Ck.s] 0 = [] from rfl, List.append_nil]
      simp only [l3, r3, Lib.dlt, Nat.lt_irrefl, decide_false, cond_false]) Lib.big 0 (Nat.zero_le _) (Lib.lt_big (by omega))
  simpa using mono
theorem ok (a0 : Row) (hl : a0.length ≤ 1048576) : c a0 = true ∧ v a0 = tl a0 := out a0 (run a0 hl)
end Go.FG.Pu.laws_toEntryS

namespace Go.FG.Pu.laws_toStringS
/-- The rows' cells, one for one. -/
def tl (a0 : Row) : Row := a0.map fun y => [CV.s (cvS (y.getD 0 (.b false)))]
theorem tl_len (a0 : Row) : (tl a0).length = a0.length := by unfold tl; simp
theorem tl_sh (a0 : Row) : ∀ y ∈ tl a0, y.length = 1 := by
  intro y hy; unfold tl at hy; obtain ⟨z, _, rfl⟩ := List.mem_map.1 hy; rfl
theorem tl_idem (a0 : Row) : tl (tl a0) = tl a0 := by
  unfold tl; rw [List.map_map]; apply List.map_congr_left; intro y _; rfl
theorem run (a0 : Row) (hl : a0.length ≤ 1048576) : vo a0 = some (tl a0) := by
  unfold vo b
  rw [show decide ((a0.length : Int) = (a0.length : Int)) = true by simp, Lib.toN, Lib.roomy_of (by omega) (by omega), Bool.and_self, cond_true]
  have mono := Lib.loop_gen (fun m (s : Nat) => l3 Lib.big (fun (_ : Row) (_ : Int) (y : Row) => some y) m a0 (s : Int) ((tl a0).take s ++ zeros [Ck.s] (a0.length - s))) (fun i => a0.length - i) (fun i => i ≤ a0.length) (fun _ => some (tl a0)) (fun m i hi => by
    by_cases h : i < a0.length
    · right
      refine ⟨i + 1, h, by omega, rfl, ?_⟩
      have hlt : i < (tl a0).length := by rw [tl_len]; exact h
      have e := Lib.setC_step (ks := [Ck.s]) (tl_len a0) h (List.getElem?_eq_getElem hlt) (tl_sh a0 _ (List.getElem_mem hlt))
      have eg : (tl a0)[i] = [CV.s (cvS (cellAt a0 i 0))] := by simp [tl, cellAt, List.getD, h]
      rw [eg] at e
      have hx : ((tl a0).take i ++ zeros [Ck.s] (a0.length - i)).length = a0.length := by rw [List.length_append, List.length_take, tl_len, Lib.length_zeros]; omega
      have hi1 : w64 ((i : Int) + 1) = ((i + 1 : Nat) : Int) := Lib.w64_ok (by omega) (by omega)
      show l3 Lib.big _ (m + 1) a0 (i : Int) _ = l3 Lib.big _ m a0 ((i + 1 : Nat) : Int) _
      rw [← e]
      simp only [l3, r3, hx, Lib.dlt, Lib.dle0, Lib.toN, h, decide_true, Bool.and_self, cond_true, hi1]
    · left
      have : i = a0.length := by omega
      subst this
      rw [Nat.sub_self, List.take_of_length_le (by rw [tl_len]; exact Nat.le_refl _), show zeros [Ck.s] 0 = [] from rfl, List.append_nil]
      simp only [l3, r3, Lib.dlt, Nat.lt_irrefl, decide_false, cond_false]) Lib.big 0 (Nat.zero_le _) (Lib.lt_big (by omega))
  simpa using mono
theorem ok (a0 : Row) (hl : a0.length ≤ 1048576) : c a0 = true ∧ v a0 = tl a0 := out a0 (run a0 hl)
end Go.FG.Pu.laws_toStringS

namespace Go.FG.Pu.laws_toIntSS
def tl (a0 : Row) : Row := a0.map fun y => [CV.l 3 (Pu.laws_toIntS.v (cvL (y.getD 0 (.b false))))]
theorem tl_len (a0 : Row) : (tl a0).length = a0.length := by unfold tl; simp
theorem tl_sh (a0 : Row) : ∀ y ∈ tl a0, y.length = 1 := by
  intro y hy; unfold tl at hy; obtain ⟨z, _, rfl⟩ := List.mem_map.1 hy; rfl
theorem run (a0 : Row) (hl : a0.length ≤ 1048576) (hin : Pu.laws_szIntSS.inn a0) : vo a0 = some (tl a0) := by
  unfold vo b
  rw [show decide ((a0.length : Int) = (a0.length : Int)) = true by simp, Lib.toN, Lib.roomy_of (by omega) (by omega), Bool.and_self, cond_true]
  have mono := Lib.loop_gen (fun m (s : Nat) => l3 Lib.big (fun (_ : Row) (_ : Int) (y : Row) => some y) m a0 (s : Int) ((tl a0).take s ++ zeros [Ck.l 3] (a0.length - s))) (fun i => a0.length - i) (fun i => i ≤ a0.length) (fun _ => some (tl a0)) (fun m i hi => by
    by_cases h : i < a0.length
    · right
      refine ⟨i + 1, h, by omega, rfl, ?_⟩
      have hlt : i < (tl a0).length := by rw [tl_len]; exact h
      have e := Lib.setC_step (ks := [Ck.l 3]) (tl_len a0) h (List.getElem?_eq_getElem hlt) (tl_sh a0 _ (List.getElem_mem hlt))
      have eg : (tl a0)[i] = [CV.l 3 (Pu.laws_toIntS.v (cvL (cellAt a0 i 0)))] := by simp [tl, cellAt, List.getD, h]
      rw [eg] at e
      have hx : ((tl a0).take i ++ zeros [Ck.l 3] (a0.length - i)).length = a0.length := by rw [List.length_append, List.length_take, tl_len, Lib.length_zeros]; omega
      have hi1 : w64 ((i : Int) + 1) = ((i + 1 : Nat) : Int) := Lib.w64_ok (by omega) (by omega)
      have hc : Pu.laws_toIntS.c (cvL (cellAt a0 i 0)) = true := decide_eq_true (hin.1 i h)
      show l3 Lib.big _ (m + 1) a0 (i : Int) _ = l3 Lib.big _ m a0 ((i + 1 : Nat) : Int) _
      rw [← e]
      simp only [l3, r3, hx, hc, Lib.dlt, Lib.dle0, Lib.toN, h, decide_true, Bool.and_self, cond_true, hi1]
    · left
      have : i = a0.length := by omega
      subst this
      rw [Nat.sub_self, List.take_of_length_le (by rw [tl_len]; exact Nat.le_refl _), show zeros [Ck.l 3] 0 = [] from rfl, List.append_nil]
      simp only [l3, r3, Lib.dlt, Nat.lt_irrefl, decide_false, cond_false]) Lib.big 0 (Nat.zero_le _) (Lib.lt_big (by omega))
  simpa using mono
theorem ok (a0 : Row) (hl : a0.length ≤ 1048576) (hin : Pu.laws_szIntSS.inn a0) : c a0 = true ∧ v a0 = tl a0 := out a0 (run a0 hl hin)
end Go.FG.Pu.laws_toIntSS

namespace Go.FG.Pu.laws_toFetchS
/-- The rows' cells, one for one. -/
def tl (a0 : Row) : Row := a0.map fun y => [CV.s (cvS (y.getD 0 (.b false))), CV.s (cvS (y.getD 1 (.b false))), CV.i IntKind.i64 (cvI (y.getD 2 (.b false))), CV.i IntKind.i64 (cvI (y.getD 3 (.b false))), CV.i IntKind.i64 (cvI (y.getD 4 (.b false)))]
theorem tl_len (a0 : Row) : (tl a0).length = a0.length := by unfold tl; simp
theorem tl_sh (a0 : Row) : ∀ y ∈ tl a0, y.length = 5 := by
  intro y hy; unfold tl at hy; obtain ⟨z, _, rfl⟩ := List.mem_map.1 hy; rfl
theorem tl_idem (a0 : Row) : tl (tl a0) = tl a0 := by
  unfold tl; rw [List.map_map]; apply List.map_congr_left; intro y _; rfl
theorem run (a0 : Row) (hl : a0.length ≤ 1048576) : vo a0 = some (tl a0) := by
  unfold vo b
  rw [show decide ((a0.length : Int) = (a0.length : Int)) = true by simp, Lib.toN, Lib.roomy_of (by omega) (by omega), Bool.and_self, cond_true]
  have mono := Lib.loop_gen (fun m (s : Nat) => l3 Lib.big (fun (_ : Row) (_ : Int) (y : Row) => some y) m a0 (s : Int) ((tl a0).take s ++ zeros [Ck.s, Ck.s, Ck.i IntKind.i64, Ck.i IntKind.i64, Ck.i IntKind.i64] (a0.length - s))) (fun i => a0.length - i) (fun i => i ≤ a0.length) (fun _ => some (tl a0)) (fun m i hi => by
    by_cases h : i < a0.length
    · right
      refine ⟨i + 1, h, by omega, rfl, ?_⟩
      have hlt : i < (tl a0).length := by rw [tl_len]; exact h
      have e := Lib.setC_step (ks := [Ck.s, Ck.s, Ck.i IntKind.i64, Ck.i IntKind.i64, Ck.i IntKind.i64]) (tl_len a0) h (List.getElem?_eq_getElem hlt) (tl_sh a0 _ (List.getElem_mem hlt))
      have eg : (tl a0)[i] = [CV.s (cvS (cellAt a0 i 0)), CV.s (cvS (cellAt a0 i 1)), CV.i IntKind.i64 (cvI (cellAt a0 i 2)), CV.i IntKind.i64 (cvI (cellAt a0 i 3)), CV.i IntKind.i64 (cvI (cellAt a0 i 4))] := by simp [tl, cellAt, List.getD, h]
      rw [eg] at e
      have hx : ((tl a0).take i ++ zeros [Ck.s, Ck.s, Ck.i IntKind.i64, Ck.i IntKind.i64, Ck.i IntKind.i64] (a0.length - i)).length = a0.length := by rw [List.length_append, List.length_take, tl_len, Lib.length_zeros]; omega
      have hi1 : w64 ((i : Int) + 1) = ((i + 1 : Nat) : Int) := Lib.w64_ok (by omega) (by omega)
      show l3 Lib.big _ (m + 1) a0 (i : Int) _ = l3 Lib.big _ m a0 ((i + 1 : Nat) : Int) _
      rw [← e]
      simp only [l3, r3, hx, Lib.dlt, Lib.dle0, Lib.toN, h, decide_true, Bool.and_self, cond_true, hi1]
    · left
      have : i = a0.length := by omega
      subst this
      rw [Nat.sub_self, List.take_of_length_le (by rw [tl_len]; exact Nat.le_refl _), show zeros [Ck.s, Ck.s, Ck.i IntKind.i64, Ck.i IntKind.i64, Ck.i IntKind.i64] 0 = [] from rfl, List.append_nil]
      simp only [l3, r3, Lib.dlt, Nat.lt_irrefl, decide_false, cond_false]) Lib.big 0 (Nat.zero_le _) (Lib.lt_big (by omega))
  simpa using mono
theorem ok (a0 : Row) (hl : a0.length ≤ 1048576) : c a0 = true ∧ v a0 = tl a0 := out a0 (run a0 hl)
end Go.FG.Pu.laws_toFetchS

namespace Go.FG.Pu.laws_toClientS
/-- The rows' cells, one for one. -/
def tl (a0 : Row) : Row := a0.map fun y => [CV.i IntKind.i64 (cvI (y.getD 0 (.b false))), CV.s (cvS (y.getD 1 (.b false))), CV.i IntKind.i64 (cvI (y.getD 2 (.b false))), CV.i IntKind.i64 (cvI (y.getD 3 (.b false))), CV.i IntKind.i64 (cvI (y.getD 4 (.b false))), CV.s (cvS (y.getD 5 (.b false))), CV.i IntKind.i64 (cvI (y.getD 6 (.b false)))]
theorem tl_len (a0 : Row) : (tl a0).length = a0.length := by unfold tl; simp
theorem tl_sh (a0 : Row) : ∀ y ∈ tl a0, y.length = 7 := by
  intro y hy; unfold tl at hy; obtain ⟨z, _, rfl⟩ := List.mem_map.1 hy; rfl
theorem tl_idem (a0 : Row) : tl (tl a0) = tl a0 := by
  unfold tl; rw [List.map_map]; apply List.map_congr_left; intro y _; rfl
theorem run (a0 : Row) (hl : a0.length ≤ 1048576) : vo a0 = some (tl a0) := by
  unfold vo b
  rw [show decide ((a0.length : Int) = (a0.length : Int)) = true by simp, Lib.toN, Lib.roomy_of (by omega) (by omega), Bool.and_self, cond_true]
  have mono := Lib.loop_gen (fun m (s : Nat) => l3 Lib.big (fun (_ : Row) (_ : Int) (y : Row) => some y) m a0 (s : Int) ((tl a0).take s ++ zeros [Ck.i IntKind.i64, Ck.s, Ck.i IntKind.i64, Ck.i IntKind.i64, Ck.i IntKind.i64, Ck.s, Ck.i IntKind.i64] (a0.length - s))) (fun i => a0.length - i) (fun i => i ≤ a0.length) (fun _ => some (tl a0)) (fun m i hi => by
    by_cases h : i < a0.length
    · right
      refine ⟨i + 1, h, by omega, rfl, ?_⟩
      have hlt : i < (tl a0).length := by rw [tl_len]; exact h
      have e := Lib.setC_step (ks := [Ck.i IntKind.i64, Ck.s, Ck.i IntKind.i64, Ck.i IntKind.i64, Ck.i IntKind.i64, Ck.s, Ck.i IntKind.i64]) (tl_len a0) h (List.getElem?_eq_getElem hlt) (tl_sh a0 _ (List.getElem_mem hlt))
      have eg : (tl a0)[i] = [CV.i IntKind.i64 (cvI (cellAt a0 i 0)), CV.s (cvS (cellAt a0 i 1)), CV.i IntKind.i64 (cvI (cellAt a0 i 2)), CV.i IntKind.i64 (cvI (cellAt a0 i 3)), CV.i IntKind.i64 (cvI (cellAt a0 i 4)), CV.s (cvS (cellAt a0 i 5)), CV.i IntKind.i64 (cvI (cellAt a0 i 6))] := by simp [tl, cellAt, List.getD, h]
      rw [eg] at e
      have hx : ((tl a0).take i ++ zeros [Ck.i IntKind.i64, Ck.s, Ck.i IntKind.i64, Ck.i IntKind.i64, Ck.i IntKind.i64, Ck.s, Ck.i IntKind.i64] (a0.length - i)).length = a0.length := by rw [List.length_append, List.length_take, tl_len, Lib.length_zeros]; omega
      have hi1 : w64 ((i : Int) + 1) = ((i + 1 : Nat) : Int) := Lib.w64_ok (by omega) (by omega)
      show l3 Lib.big _ (m + 1) a0 (i : Int) _ = l3 Lib.big _ m a0 ((i + 1 : Nat) : Int) _
      rw [← e]
      simp only [l3, r3, hx, Lib.dlt, Lib.dle0, Lib.toN, h, decide_true, Bool.and_self, cond_true, hi1]
    · left
      have : i = a0.length := by omega
      subst this
      rw [Nat.sub_self, List.take_of_length_le (by rw [tl_len]; exact Nat.le_refl _), show zeros [Ck.i IntKind.i64, Ck.s, Ck.i IntKind.i64, Ck.i IntKind.i64, Ck.i IntKind.i64, Ck.s, Ck.i IntKind.i64] 0 = [] from rfl, List.append_nil]
      simp only [l3, r3, Lib.dlt, Nat.lt_irrefl, decide_false, cond_false]) Lib.big 0 (Nat.zero_le _) (Lib.lt_big (by omega))
  simpa using mono
theorem ok (a0 : Row) (hl : a0.length ≤ 1048576) : c a0 = true ∧ v a0 = tl a0 := out a0 (run a0 hl)
end Go.FG.Pu.laws_toClientS

namespace Go.FG.Pu.laws_toSketch
theorem ok (r : Row) (k : Int) (hl : r.length ≤ 1048576) (hin : Pu.laws_szIntSS.inn r) : c r k = true ∧ v r k = (Pu.laws_toIntSS.tl r, k) := by
  have h := Pu.laws_toIntSS.ok r hl hin
  exact out r k (by unfold vo b; rw [h.1, h.2, cond_true])
end Go.FG.Pu.laws_toSketch

namespace Go.FG.Pu.laws_toPolicy
theorem ok (r0 r1 r2 : Row) (k : Int) (h0 : r0.length ≤ 1048576) (h1 : r1.length ≤ 1048576) (hl : r2.length ≤ 1048576) (hin : Pu.laws_szIntSS.inn r2) : c r0 r1 r2 k = true ∧ v r0 r1 r2 k = (Pu.laws_toStringS.tl r0, Pu.laws_toStringS.tl r1, Pu.laws_toIntSS.tl r2, k) := by
  have a0 := Pu.laws_toStringS.ok r0 h0
  have a1 := Pu.laws_toStringS.ok r1 h1
  have a2 := Pu.laws_toSketch.ok r2 k hl hin
  exact out r0 r1 r2 k (by unfold vo b; rw [a0.1, a0.2, a1.1, a1.2, a2.1, a2.2, cond_true, cond_true, cond_true])
/-- What is copied, as lists. -/
def bs (r : Row) : List ByteArray := r.map fun y => cvS (y.getD 0 (.b false))
def is (r : Row) : List (List Int) := r.map fun y => (cvL (y.getD 0 (.b false))).map fun z => cvI (z.getD 0 (.b false))
theorem tl_rs (r : Row) : Pu.laws_toStringS.tl r = Lib.rs (bs r) := by
  unfold Pu.laws_toStringS.tl Lib.rs bs; rw [List.map_map]; rfl
theorem tl_rr (r : Row) : Pu.laws_toIntSS.tl r = Lib.rr (is r) := by
  unfold Pu.laws_toIntSS.tl Lib.rr is
  rw [List.map_map]
  apply List.map_congr_left
  intro y _
  show [CV.l 3 (Pu.laws_toIntS.v (cvL (y.getD 0 (.b false))))] = [CV.l 3 (Lib.ri ((cvL (y.getD 0 (.b false))).map fun z => cvI (z.getD 0 (.b false))))]
  unfold Pu.laws_toIntS.v Lib.ri; rw [List.map_map]; rfl
theorem bs_len (r : Row) : (bs r).length = r.length := by unfold bs; simp
theorem is_len (r : Row) : (is r).length = r.length := by unfold is; simp
theorem bs_size {r : Row} (h : FitR r) : ∀ k ∈ bs r, k.size ≤ 4611686018427387904 := by
  intro k hk
  unfold bs at hk
  obtain ⟨y, hy, rfl⟩ := List.mem_map.1 hk
  obtain ⟨i, hi, rfl⟩ := List.getElem_of_mem hy
  have := Lib.okS_cell h i 0
  rw [Lib.cellAt_of hi] at this
  exact this
theorem is_fit {r : Row} (hl : r.length ≤ 1048576) (h : Pu.laws_szIntSS.inn r) : (is r).length ≤ 1048576 ∧ (∀ q ∈ is r, q.length ≤ 1048576) ∧ ((is r).map List.length).sum ≤ 1048576 := by
  refine ⟨by rw [is_len]; exact hl, fun q hq => ?_, ?_⟩
  · unfold is at hq
    obtain ⟨y, hy, rfl⟩ := List.mem_map.1 hq
    obtain ⟨i, hi, rfl⟩ := List.getElem_of_mem hy
    have := h.1 i hi
    rw [Lib.cellAt_of hi] at this
    rw [List.length_map]; exact this
  · have := h.2
    unfold Pu.laws_szIntSS.tot at this
    unfold is
    rw [List.map_map]
    rw [show (List.length ∘ fun y : List CV => (cvL (y.getD 0 (.b false))).map fun z => cvI (z.getD 0 (.b false))) = fun y : List CV => (cvL (y.getD 0 (.b false))).length from by funext y; simp]
    exact this
theorem abs (r0 r1 r2 : Row) (k : Int) (h0 : r0.length ≤ 1048576) (h1 : r1.length ≤ 1048576) (hl : r2.length ≤ 1048576) (hin : Pu.laws_szIntSS.inn r2) : c r0 r1 r2 k = true ∧ v r0 r1 r2 k = (Lib.rs (bs r0), Lib.rs (bs r1), Lib.rr (is r2), k) := by
  have h := ok r0 r1 r2 k h0 h1 hl hin
  rw [tl_rs, tl_rs, tl_rr] at h; exact h
end Go.FG.Pu.laws_toPolicy

namespace Go.FG.Pu.laws_toProxy
theorem ok (i0 : Int) (r1 r2 r3 r4 : Row) (i5 : Int) (r6 r7 : Row) (i8 : Int) (h1 : r1.length ≤ 1048576) (h2 : r2.length ≤ 1048576) (h3 : r3.length ≤ 1048576) (h4 : r4.length ≤ 1048576) (hin : Pu.laws_szIntSS.inn r4) (h6 : r6.length ≤ 1048576) (h7 : r7.length ≤ 1048576) :
    c i0 r1 r2 r3 r4 i5 r6 r7 i8 = true ∧ v i0 r1 r2 r3 r4 i5 r6 r7 i8 = (i0, Pu.laws_toEntryS.tl r1, Pu.laws_toStringS.tl r2, Pu.laws_toStringS.tl r3, Pu.laws_toIntSS.tl r4, i5, Pu.laws_toFetchS.tl r6, Pu.laws_toClientS.tl r7, i8) := by
  have a1 := Pu.laws_toEntryS.ok r1 h1
  have a2 := Pu.laws_toPolicy.ok r2 r3 r4 i5 h2 h3 h4 hin
  have a3 := Pu.laws_toFetchS.ok r6 h6
  have a4 := Pu.laws_toClientS.ok r7 h7
  exact out i0 r1 r2 r3 r4 i5 r6 r7 i8 (by unfold vo b; rw [a1.1, a1.2, a2.1, a2.2, a3.1, a3.2, a4.1, a4.2, cond_true, cond_true, cond_true, cond_true])
/-! What is copied, as a structure. -/
def eo (y : List CV) : Lib.En := ⟨cvS (y.getD 0 (.b false)), cvI (y.getD 1 (.b false)), cvI (y.getD 2 (.b false)), cvS (y.getD 3 (.b false))⟩
def fo (y : List CV) : Lib.Fe := ⟨cvS (y.getD 0 (.b false)), cvS (y.getD 1 (.b false)), cvI (y.getD 2 (.b false)), cvI (y.getD 3 (.b false)), cvI (y.getD 4 (.b false))⟩
def co (y : List CV) : Lib.Cl := ⟨cvI (y.getD 0 (.b false)), cvS (y.getD 1 (.b false)), cvI (y.getD 2 (.b false)), cvI (y.getD 3 (.b false)), cvI (y.getD 4 (.b false)), cvS (y.getD 5 (.b false)), cvI (y.getD 6 (.b false))⟩
theorem tl_re (r : Row) : Pu.laws_toEntryS.tl r = Lib.re (r.map eo) := by
  unfold Pu.laws_toEntryS.tl Lib.re; rw [List.map_map]; rfl
theorem tl_rf (r : Row) : Pu.laws_toFetchS.tl r = Lib.rf (r.map fo) := by
  unfold Pu.laws_toFetchS.tl Lib.rf; rw [List.map_map]; rfl
theorem tl_rc (r : Row) : Pu.laws_toClientS.tl r = Lib.rc (r.map co) := by
  unfold Pu.laws_toClientS.tl Lib.rc; rw [List.map_map]; rfl
theorem abs (i0 : Int) (r1 r2 r3 r4 : Row) (i5 : Int) (r6 r7 : Row) (i8 : Int) (h : r1.length ≤ 1048576 ∧ (r2.length ≤ 1048576 ∧ r3.length ≤ 1048576 ∧ r4.length ≤ 1048576 ∧ Pu.laws_szIntSS.inn r4) ∧ r6.length ≤ 1048576 ∧ r7.length ≤ 1048576) :
    ∃ p : Lib.Px, p.Fit 1048576 ∧ c i0 r1 r2 r3 r4 i5 r6 r7 i8 = true ∧ v i0 r1 r2 r3 r4 i5 r6 r7 i8 = (p.now, Lib.re p.en, Lib.rs p.w, Lib.rs p.m, Lib.rr p.s, p.a, Lib.rf p.fe, Lib.rc p.cl, p.hits) := by
  obtain ⟨h1, ⟨h2, h3, h4, hin⟩, h6, h7⟩ := h
  have t := ok i0 r1 r2 r3 r4 i5 r6 r7 i8 h1 h2 h3 h4 hin h6 h7
  rw [tl_re, Pu.laws_toPolicy.tl_rs, Pu.laws_toPolicy.tl_rs, Pu.laws_toPolicy.tl_rr, tl_rf, tl_rc] at t
  refine ⟨⟨i0, r1.map eo, Pu.laws_toPolicy.bs r2, Pu.laws_toPolicy.bs r3, Pu.laws_toPolicy.is r4, i5, r6.map fo, r7.map co, i8⟩, ⟨by simpa using h1, by dsimp only; rw [Pu.laws_toPolicy.bs_len]; exact h2, by dsimp only; rw [Pu.laws_toPolicy.bs_len]; exact h3, Pu.laws_toPolicy.is_fit h4 hin, by simpa using h6, by simpa using h7⟩, t⟩
end Go.FG.Pu.laws_toProxy

namespace Go.FG.Pu.impl_copyInts
theorem ok (l : Row) (hl : l.length ≤ 4294967296) : c l = true ∧ v l = l := by
  refine out l ?_
  unfold vo b
  rw [show List.length (zeros [Ck.i IntKind.i64] 0) + l.length = l.length by simp [zeros], Lib.roomy_of (by omega) (by omega)]
  rfl
end Go.FG.Pu.impl_copyInts

namespace Go.FG.Pu.impl_copySketch
open Lib (rr)
def fitS (s : List (List Int)) : Prop := s.length ≤ 1048576 ∧ ∀ q ∈ s, q.length ≤ 1048576
theorem run {R : Type} (N : Nat) (K0 : Row → Int → Int → Int → Int → Option R) (K1 : Row → Int → Int → Int → Int → Row → Option R) (s : List (List Int)) (z a : Int) (hf : fitS s) (m : Nat) (hm : s.length + 1 < m) (kr : Row → Option R)
    (h0 : s = [] → K0 (rr s) 0 0 z a = kr []) (h1 : K1 (rr s) s.length s.length z a (rr s) = kr (rr s)) : l3 N K0 K1 m (rr s) (s.length : Int) 0 z a = kr (rr s) := by
  obtain ⟨m, rfl⟩ : ∃ m', m = m' + 1 := ⟨m - 1, by omega⟩
  have hci : ∀ i (h : i < s.length), Pu.impl_copyInts.c (Lib.ri s[i]) = true ∧ Pu.impl_copyInts.v (Lib.ri s[i]) = Lib.ri s[i] := fun i h => Pu.impl_copyInts.ok _ (by rw [Lib.ri_len]; have := hf.2 _ (List.getElem_mem h); omega)
  by_cases hs : s = []
  · subst hs
    simp only [l3, r3, List.length_nil, Int.natCast_zero, Int.lt_irrefl, decide_false, cond_false]
    exact h0 rfl
  · have hp : 0 < s.length := List.length_pos_iff.2 hs
    have key := Lib.for_run (R := R) s.length (fun m i (x : Row) => l3a N K0 K1 m (rr s) (s.length : Int) (i : Int) z a x) (fun i => rr (s.take i)) (kr (rr s)) (fun m i h => by
      have hl := hf.1
      simp only [l3a, r3a, Lib.dlt, h, decide_true, cond_true, Lib.dle0, Bool.true_and, Lib.rr_len, Lib.toN, Lib.rr0 h, cvL, (hci i h).1, (hci i h).2, Lib.set1, List.length_singleton]
      rw [Lib.roomy_of (by rw [List.length_take]; omega) (by rw [List.length_take]; omega), cond_true, Lib.w64_s h (by omega)]
      have := Lib.take_snoc (fun q => [CV.l 3 (Lib.ri q)]) s i h
      unfold rr; rw [← this]) (fun m => by
      simp only [l3a, r3a, Lib.dlt, Nat.lt_irrefl, decide_false, cond_false, List.take_length]; exact h1) m 1 hp (by omega)
    simp only [l3, r3, decide_eq_true (show (0 : Int) < (s.length : Int) by omega), cond_true, Bool.and_self, Lib.rr_len, show decide ((0 : Int) ≤ 0) = true from rfl]
    have e := hci 0 hp
    have e0 := Lib.rr0 (l := s) hp
    simp only [show Int.toNat 0 = 0 from rfl, e0, cvL, e.1, e.2, cond_true, Lib.set1, List.nil_append]
    rw [show w64 (0 + 1) = ((1 : Nat) : Int) from rfl]
    refine Eq.trans ?_ key
    have := Lib.take_snoc (fun q => [CV.l 3 (Lib.ri q)]) s 0 hp
    unfold rr; rw [show (0 + 1) = 1 from rfl] at this; rw [← this]; rfl
theorem ok (s : List (List Int)) (a : Int) (hf : fitS s) : c (rr s) a = true ∧ v (rr s) a = (rr s, a) := by
  refine out _ _ ?_
  unfold vo b
  rw [Lib.rr_len]
  exact run Lib.big (fun _ _ _ _ y => some ([], y)) (fun _ _ _ _ y20 y21 => some (y21, y20)) s 0 a hf Lib.big (Lib.lt_big (by have := hf.1; omega)) (fun x => some (x, a)) (fun _ => rfl) rfl
end Go.FG.Pu.impl_copySketch

namespace Go.FG.Pu.spec_l12Copy
open Lib (rr)
theorem run {R : Type} (N : Nat) (K0 : Int → Row → Int → Int → Int → Option R) (K1 : Int → Row → Int → Int → Int → Row → Option R) (s : List (List Int)) (z y a : Int) (hf : Pu.impl_copySketch.fitS s) (m : Nat) (hm : s.length + 1 < m) (kr : Row → Option R)
    (h0 : s = [] → K0 0 (rr s) z y a = kr []) (h1 : K1 s.length (rr s) z y a (rr s) = kr (rr s)) : l3 N K0 K1 m 0 (rr s) z y a = kr (rr s) := by
  obtain ⟨m, rfl⟩ : ∃ m', m = m' + 1 := ⟨m - 1, by omega⟩
  have hz : ∀ q : Row, zeros [Ck.i IntKind.i64] 0 ++ q = q := fun q => rfl
  have hci : ∀ i (h : i < s.length), roomy (List.length (zeros [Ck.i IntKind.i64] 0) + List.length (Lib.ri s[i])) 8 = true := fun i h => by
    have := hf.2 _ (List.getElem_mem h)
    exact Lib.roomy_of (by rw [Lib.ri_len]; simp [zeros]; omega) (by rw [Lib.ri_len]; simp [zeros]; omega)
  by_cases hs : s = []
  · subst hs
    simp only [l3, r3, Lib.rr_len, List.length_nil, Int.natCast_zero, Int.lt_irrefl, decide_false, cond_false]
    exact h0 rfl
  · have hp : 0 < s.length := List.length_pos_iff.2 hs
    have key := Lib.for_run (R := R) s.length (fun m i (x : Row) => l3a N K0 K1 m (i : Int) (rr s) z y a x) (fun i => rr (s.take i)) (kr (rr s)) (fun m i h => by
      have hl := hf.1
      simp only [l3a, r3a, Lib.rr_len, Lib.dlt, h, decide_true, cond_true, Lib.dle0, Bool.true_and, Lib.toN, Lib.rr0 h, cvL, hci i h, hz, Lib.set1, List.length_singleton]
      rw [Lib.roomy_of (by rw [List.length_take]; omega) (by rw [List.length_take]; omega), cond_true, Lib.w64_s h (by omega)]
      have := Lib.take_snoc (fun q => [CV.l 3 (Lib.ri q)]) s i h
      unfold rr; rw [← this]) (fun m => by
      simp only [l3a, r3a, Lib.rr_len, Lib.dlt, Nat.lt_irrefl, decide_false, cond_false, List.take_length]; exact h1) m 1 hp (by omega)
    have e := hci 0 hp
    have e0 := Lib.rr0 (l := s) hp
    simp only [l3, r3, decide_eq_true (show (0 : Int) < (s.length : Int) by omega), cond_true, Bool.and_self, Lib.rr_len, show decide ((0 : Int) ≤ 0) = true from rfl, show Int.toNat 0 = 0 from rfl, e0, cvL, e, hz, cond_true, Lib.set1, List.nil_append]
    rw [show w64 (0 + 1) = ((1 : Nat) : Int) from rfl]
    refine Eq.trans ?_ key
    have := Lib.take_snoc (fun q => [CV.l 3 (Lib.ri q)]) s 0 hp
    unfold rr; rw [show (0 + 1) = 1 from rfl] at this; rw [← this]; rfl
theorem ok (s : List (List Int)) (a : Int) (hf : Pu.impl_copySketch.fitS s) : c (rr s) a = true ∧ v (rr s) a = (rr s, a) := by
  refine out _ _ ?_
  unfold vo b
  exact run Lib.big (fun _ _ _ _ y => some ([], y)) (fun _ _ _ _ y20 y21 => some (y21, y20)) s a 0 a hf Lib.big (Lib.lt_big (by have := hf.1; omega)) (fun x => some (x, a)) (fun _ => rfl) rfl
end Go.FG.Pu.spec_l12Copy

namespace Go.FG.Pu.spec_l13Copy
open Lib (rr rs)
theorem ok (w m : List ByteArray) (s : List (List Int)) (a : Int) (hw : w.length ≤ 1048576) (hm : m.length ≤ 1048576) (hf : Pu.impl_copySketch.fitS s) : c (rs w) (rs m) (rr s) a = true ∧ v (rs w) (rs m) (rr s) a = (rs w, rs m, rr s, a) := by
  have h3 := Pu.spec_l12Copy.ok s a hf
  have r1 : roomy (List.length (zeros [Ck.s] 0) + List.length (rs w)) 16 = true := Lib.roomy_of (by simp [zeros, Lib.rs_len]; omega) (by simp [zeros, Lib.rs_len]; omega)
  have r2 : roomy (List.length (zeros [Ck.s] 0) + List.length (rs m)) 16 = true := Lib.roomy_of (by simp [zeros, Lib.rs_len]; omega) (by simp [zeros, Lib.rs_len]; omega)
  exact out _ _ _ _ (by unfold vo b; rw [r1, r2, h3.1, h3.2, cond_true, cond_true, cond_true]; rfl)
end Go.FG.Pu.spec_l13Copy

namespace Go.FG.Pu.spec_l16Copy
open Lib (rr rs re rf rc Px)
theorem ok (p : Px) (hp : p.Fit 1048576) : c p.now (re p.en) (rs p.w) (rs p.m) (rr p.s) p.a (rf p.fe) (rc p.cl) p.hits = true ∧ v p.now (re p.en) (rs p.w) (rs p.m) (rr p.s) p.a (rf p.fe) (rc p.cl) p.hits = (p.now, re p.en, rs p.w, rs p.m, rr p.s, p.a, rf p.fe, rc p.cl, p.hits) := by
  have he := hp.en
  have hf := hp.fe
  have hc := hp.cl
  have h2 := Pu.spec_l13Copy.ok p.w p.m p.s p.a hp.w hp.m ⟨hp.s.1, hp.s.2.1⟩
  exact out _ _ _ _ _ _ _ _ _ (by
    unfold vo b
    rw [h2.1, h2.2, cond_true, Lib.roomy_of (b := 48) (by simp [zeros, Lib.re_len]; omega) (by simp [zeros, Lib.re_len]; omega), Lib.roomy_of (b := 56) (by simp [zeros, Lib.rf_len]; omega) (by simp [zeros, Lib.rf_len]; omega), Lib.roomy_of (b := 72) (by simp [zeros, Lib.rc_len]; omega) (by simp [zeros, Lib.rc_len]; omega)]
    rfl)
end Go.FG.Pu.spec_l16Copy

namespace Go.FG.Pu.spec_LeaveClient
open Lib (rr rs re rf rc Px Cl el wc0 wc1 wc2 wc3 wc4 wc5 wc6)
def val (p : Px) (id : Int) : Px := { p with cl := p.cl.filter fun c => !decide (c.id = id) }
theorem ok (p : Px) (id : Int) (hp : p.Fit 1048576) : c p.now (re p.en) (rs p.w) (rs p.m) (rr p.s) p.a (rf p.fe) (rc p.cl) p.hits id = true ∧ v p.now (re p.en) (rs p.w) (rs p.m) (rr p.s) p.a (rf p.fe) (rc p.cl) p.hits id = (p.now, re p.en, rs p.w, rs p.m, rr p.s, p.a, rf p.fe, rc (val p id).cl, p.hits) := by
  have h := Pu.spec_l16Copy.ok p hp
  have hc := hp.cl
  refine out _ _ _ _ _ _ _ _ _ _ ?_
  unfold vo b
  simp only [Lib.lt, h.1, h.2, cond_true]
  have key := Lib.for_run p.cl.length (fun n (i : Nat) (x : Row) => l4 Lib.big (fun (_ _ _ : Int) (_ _ _ _ : Row) (_ : Int) (_ _ : Row) (_ _ _ _ y37 y38 y39 : Int) (y40 y41 y42 y43 y44 y45 : Row) => some (y37, y40, y41, y42, y43, y38, y44, y45, y39)) n id (i : Int) p.now (re p.en) (rs p.w) (rs p.m) (rr p.s) p.a (rf p.fe) (rc p.cl) p.hits 0 0 0 p.now p.a p.hits (re p.en) (rs p.w) (rs p.m) (rr p.s) (rf p.fe) x) (fun i => rc ((p.cl.take i).filter fun c => !decide (c.id = id))) (some (p.now, re p.en, rs p.w, rs p.m, rr p.s, p.a, rf p.fe, rc (val p id).cl, p.hits)) (fun n i hi => by
    have hlen : ((p.cl.take i).filter fun c => !decide (c.id = id)).length ≤ i := by
      refine Nat.le_trans (List.length_filter_le ..) ?_
      rw [List.length_take]; omega
    have e : (p.cl.take (i + 1)).filter (fun c => !decide (c.id = id)) = (p.cl.take i).filter (fun c => !decide (c.id = id)) ++ (bif !decide ((el p.cl i).id = id) then [el p.cl i] else []) := by
      rw [List.take_succ_eq_append_getElem hi, List.filter_append, Lib.el_eq hi]
      cases hd : decide (p.cl[i].id = id) <;> simp [hd]
    rw [e]
    simp only [l4, r4, Lib.rc_len, Lib.dlt, hi, decide_true, Lib.dle0, Bool.and_self, cond_true, Lib.toN, wc0 hi, wc1 hi, wc2 hi, wc3 hi, wc4 hi, wc5 hi, wc6 hi, cvS, cvI, Lib.set1, List.length_singleton, Lib.w64_s hi (by omega : p.cl.length ≤ 9223372036854775807)]
    rw [Lib.roomy_of (by omega) (by omega), cond_true, show ((el p.cl i).id != id) = !decide ((el p.cl i).id = id) from rfl]
    cases decide ((el p.cl i).id = id) with
    | true => rw [Bool.not_true, cond_false, cond_false, List.append_nil]
    | false =>
      rw [Bool.not_false, cond_true, cond_true]
      unfold Lib.rc; rw [List.map_append]; rfl) (fun n => by
    simp only [l4, r4, Lib.rc_len, Lib.dlt, Nat.lt_irrefl, decide_false, cond_false, List.take_length]; rfl) Lib.big 0 (Nat.zero_le _) (Lib.lt_big (by omega))
  exact key
end Go.FG.Pu.spec_LeaveClient

namespace Go.FG.Pu.slices_IndexFunc_Clientb
def p (s : Row) (k : Int) (i : Nat) : Bool := decide (cvI (cellAt s i 0) = k)
theorem ok (d : Row) (n : Int) (hl : d.length ≤ 4294967296) : c d n = true ∧ v d n = Lib.fi (p d n) d.length 0 := by
  refine out d n ?_
  unfold vo b
  refine Lib.fi_gen (p d n) d.length (fun m (i : Nat) => l2 Lib.big (fun (_ : Row) (_ : Int) (y7 _ _ : Int) => some y7) (fun (_ : Row) (_ : Int) (_ _ _ : Int) => some (-1)) m d n 0 (d.length : Int) (i : Int)) some (fun m i hi hp => ?_) (fun m i hi hp => ?_) (fun m => ?_) Lib.big (Lib.lt_big (by omega))
  · unfold p at hp
    simp only [l2, r2, Lib.dlt, Lib.dle0, Lib.toN, hi, decide_true, Bool.and_self, cond_true, Pu.impl_LeaveClient_1.v, hp]
  · unfold p at hp
    simp only [l2, r2, Lib.dlt, Lib.dle0, Lib.toN, hi, decide_true, Bool.and_self, cond_true, Pu.impl_LeaveClient_1.v, hp, cond_false, Lib.w64_s hi (by omega : d.length ≤ 9223372036854775807)]
  · simp only [l2, r2, Lib.dlt, Nat.lt_irrefl, decide_false, cond_false]
end Go.FG.Pu.slices_IndexFunc_Clientb

namespace Go.FG.Pu.slices_DeleteFunc_Client
def cn (y : List CV) : Bool := match y with | [.i .i64 _, .s _, .i .i64 _, .i .i64 _, .i .i64 _, .s _, .i .i64 _] => true | _ => false
def cr (y : List CV) : List CV := [CV.i IntKind.i64 (cvI (y.getD 0 (.b false))), CV.s (cvS (y.getD 1 (.b false))), CV.i IntKind.i64 (cvI (y.getD 2 (.b false))), CV.i IntKind.i64 (cvI (y.getD 3 (.b false))), CV.i IntKind.i64 (cvI (y.getD 4 (.b false))), CV.s (cvS (y.getD 5 (.b false))), CV.i IntKind.i64 (cvI (y.getD 6 (.b false)))]
theorem cr_of {y : List CV} (h : cn y = true) : cr y = y := by
  unfold cn at h
  split at h
  · rfl
  · cases h
theorem len_of {y : List CV} (h : cn y = true) : y.length = 7 := by rw [← cr_of h]; rfl
def keep (d : Int) (y : List CV) : Bool := !decide (cvI (y.getD 0 (.b false)) = d)
theorem filter_succ (d : Int) {s : Row} {i : Nat} (h : i < s.length) : (s.take (i + 1)).filter (keep d) = (s.take i).filter (keep d) ++ (bif keep d s[i] then [s[i]] else []) := by
  rw [List.take_succ_eq_append_getElem h, List.filter_append]
  cases hk : keep d s[i] <;> simp [hk]
theorem run {R : Type} (N : Nat) (s0 : Row) (d : Int) (hc : s0.all cn = true) (hn : s0.length ≤ 9223372036854775807) (K : Int → Int → Int → Row → Option R) (kr : Row → Option R)
    (hK : ∀ (j : Nat) x, x.length = s0.length → j ≤ s0.length → K d j s0.length x = kr (x.take j)) (m j i : Nat) (x : Row)
    (hi : j < i ∧ i ≤ s0.length ∧ x.length = s0.length ∧ (∀ y ∈ x, y.length = 7) ∧ x.take j = (s0.take i).filter (keep d) ∧ x.drop i = s0.drop i) (hm : s0.length - i < m) :
    l5 N K m d j i x = kr (s0.filter (keep d)) := by
  have hca : ∀ y ∈ s0, cn y = true := List.all_eq_true.1 hc
  refine Lib.loop_gen (fun m (s : Nat × Nat × Row) => l5 N K m d s.1 s.2.1 s.2.2) (fun s => s0.length - s.2.1)
    (fun s => s.1 < s.2.1 ∧ s.2.1 ≤ s0.length ∧ s.2.2.length = s0.length ∧ (∀ y ∈ s.2.2, y.length = 7) ∧ s.2.2.take s.1 = (s0.take s.2.1).filter (keep d) ∧ s.2.2.drop s.2.1 = s0.drop s.2.1)
    (fun _ => kr (s0.filter (keep d))) (fun m s hs => ?_) m (j, i, x) hi hm
  obtain ⟨j, i, x⟩ := s
  obtain ⟨h1, h2, h3, h4, h5, h6⟩ := hs
  simp only at h1 h2 h3 h4 h5 h6 ⊢
  by_cases hin : i < s0.length
  · right
    have hix : i < x.length := by omega
    have hjx : j < x.length := by omega
    have hx : x[i] = s0[i] := by
      have e1 := Lib.drop_cons_of hix
      have e2 := Lib.drop_cons_of hin
      rw [h6, e2] at e1
      exact (List.cons.inj e1).1.symm
    have hd : x.drop (i + 1) = s0.drop (i + 1) := by
      have e1 := Lib.drop_cons_of hix
      have e2 := Lib.drop_cons_of hin
      rw [h6, e2] at e1
      exact (List.cons.inj e1).2.symm
    have hcn := hca _ (List.getElem_mem hin)
    have hf := filter_succ d hin
    cases hk : keep d s0[i] with
    | true =>
      refine ⟨(j + 1, i + 1, x.set j s0[i]), ?_, by simp only; omega, trivial, ?_⟩
      · rw [hk, cond_true, ← h5] at hf
        refine ⟨by simp only; omega, by simp only; omega, by simpa using h3, ?_, ?_, ?_⟩
        · intro y hy
          rcases List.mem_or_eq_of_mem_set hy with h | h
          · exact h4 y h
          · rw [h]; exact len_of hcn
        · rw [hf]
          rw [List.take_succ_eq_append_getElem (by simpa using hjx)]
          simp [List.take_set_of_le]
        · simp only
          rw [List.drop_set_of_lt (by omega)]; exact hd
      · have e : Pu.impl_LeaveClient_1.v (cvI (cellAt x i 0)) (cvS (cellAt x i 1)) (cvI (cellAt x i (1 + 1))) (cvI (cellAt x i (1 + 1 + 1))) (cvI (cellAt x i (1 + 1 + 1 + 1))) (cvS (cellAt x i (1 + 1 + 1 + 1 + 1))) (cvI (cellAt x i (1 + 1 + 1 + 1 + 1 + 1))) d = false := by
          have : (!Pu.impl_LeaveClient_1.v (cvI (cellAt x i 0)) (cvS (cellAt x i 1)) (cvI (cellAt x i (1 + 1))) (cvI (cellAt x i (1 + 1 + 1))) (cvI (cellAt x i (1 + 1 + 1 + 1))) (cvS (cellAt x i (1 + 1 + 1 + 1 + 1))) (cvI (cellAt x i (1 + 1 + 1 + 1 + 1 + 1))) d) = true := by
            rw [Lib.cellAt_of hix, hx]; exact hk
          simpa using this
        have es : setC x j 0 [CV.i IntKind.i64 (cvI (cellAt x i 0)), CV.s (cvS (cellAt x i 1)), CV.i IntKind.i64 (cvI (cellAt x i (1 + 1))), CV.i IntKind.i64 (cvI (cellAt x i (1 + 1 + 1))), CV.i IntKind.i64 (cvI (cellAt x i (1 + 1 + 1 + 1))), CV.s (cvS (cellAt x i (1 + 1 + 1 + 1 + 1))), CV.i IntKind.i64 (cvI (cellAt x i (1 + 1 + 1 + 1 + 1 + 1)))] = x.set j s0[i] := by
          have hl := h4 _ (List.getElem_mem hjx)
          rw [Lib.setC_eq hjx, Lib.cellAt_of hix, Lib.cellAt_of hix, Lib.cellAt_of hix, Lib.cellAt_of hix, Lib.cellAt_of hix, Lib.cellAt_of hix, Lib.cellAt_of hix, hx]
          have : splice x[j] 0 (cr s0[i]) = s0[i] := by
            rw [cr_of hcn]
            unfold splice
            have := len_of hcn
            simp [hl, this, List.drop_eq_nil_of_le]
          unfold cr at this
          rw [this]
        have b1 : (j : Int) < (x.length : Int) := by omega
        simp only [l5, r5, Lib.dlt, Lib.dle0, Lib.toN, hix, hjx, decide_true, Bool.true_and, cond_true, e, Bool.not_false, es, Lib.w64_s hin hn, Lib.w64_s (show j < s0.length by omega) hn]
    | false =>
      refine ⟨(j, i + 1, x), ?_, by simp only; omega, trivial, ?_⟩
      · rw [hk, cond_false, List.append_nil, ← h5] at hf
        exact ⟨by simp only; omega, by simp only; omega, h3, h4, hf.symm, hd⟩
      · have e : Pu.impl_LeaveClient_1.v (cvI (cellAt x i 0)) (cvS (cellAt x i 1)) (cvI (cellAt x i (1 + 1))) (cvI (cellAt x i (1 + 1 + 1))) (cvI (cellAt x i (1 + 1 + 1 + 1))) (cvS (cellAt x i (1 + 1 + 1 + 1 + 1))) (cvI (cellAt x i (1 + 1 + 1 + 1 + 1 + 1))) d = true := by
          have : (!Pu.impl_LeaveClient_1.v (cvI (cellAt x i 0)) (cvS (cellAt x i 1)) (cvI (cellAt x i (1 + 1))) (cvI (cellAt x i (1 + 1 + 1))) (cvI (cellAt x i (1 + 1 + 1 + 1))) (cvS (cellAt x i (1 + 1 + 1 + 1 + 1))) (cvI (cellAt x i (1 + 1 + 1 + 1 + 1 + 1))) d) = false := by
            rw [Lib.cellAt_of hix, hx]; exact hk
          simpa using this
        simp only [l5, r5, Lib.dlt, Lib.dle0, Lib.toN, hix, decide_true, Bool.true_and, cond_true, e, Bool.not_true, cond_false, Lib.w64_s hin hn]
  · left
    have : i = s0.length := by omega
    subst this
    rw [List.take_length] at h5
    have e := hK j x h3 (by omega)
    rw [h5] at e
    have hix : ¬ s0.length < x.length := by omega
    simp only [l5, r5, Lib.dlt, hix, decide_false, cond_false, e]
theorem ok (s0 : Row) (del1 : Int) (hc : s0.all cn = true) (hn : s0.length ≤ 4294967296) : c s0 del1 = true ∧ v s0 del1 = s0.filter (keep del1) := by
  refine out s0 del1 ?_
  have hv := Pu.slices_IndexFunc_Clientb.ok s0 del1 hn
  unfold vo b
  rw [hv.1, hv.2, cond_true]
  rcases Lib.fi_rng (Pu.slices_IndexFunc_Clientb.p s0 del1) s0.length 0 with ⟨h, hall⟩ | ⟨k, _, hk2, hk, hkp, hbef⟩
  · rw [h]
    have : s0.filter (keep del1) = s0 := by
      rw [List.filter_eq_self]
      intro y hy
      obtain ⟨i, hi, rfl⟩ := List.getElem_of_mem hy
      have := hall i (Nat.zero_le _) (by omega)
      unfold Pu.slices_IndexFunc_Clientb.p at this
      rw [Lib.cellAt_of hi] at this
      unfold keep; rw [this]; rfl
    rw [this]; rfl
  · rw [hk]
    have hkl : k < s0.length := by omega
    have hne : decide ((k : Int) = Int.neg 1) = false := decide_eq_false (by show ¬ (k : Int) = -1; omega)
    rw [hne, cond_false, Lib.w64_s hkl (by omega)]
    have hca : ∀ y ∈ s0, cn y = true := List.all_eq_true.1 hc
    refine run _ s0 del1 hc (by omega) _ some (fun j x hx hj => ?_) _ k (k + 1) s0 ⟨by omega, by omega, rfl, fun y hy => len_of (hca y hy), ?_, rfl⟩ (Lib.lt_big (by omega))
    · have b1 : inB (j : Int) (s0.length : Int) (s0.length : Int) = true := by simp [inB]; omega
      have e : List.take j x ++ zeros [Ck.i IntKind.i64, Ck.s, Ck.i IntKind.i64, Ck.i IntKind.i64, Ck.i IntKind.i64, Ck.s, Ck.i IntKind.i64] (s0.length - j) ++ List.drop s0.length x = List.take j x ++ zeros [Ck.i IntKind.i64, Ck.s, Ck.i IntKind.i64, Ck.i IntKind.i64, Ck.i IntKind.i64, Ck.s, Ck.i IntKind.i64] (s0.length - j) := by
        rw [List.drop_eq_nil_of_le (by omega), List.append_nil]
      have hl : (List.take j x).length = j := by simp; omega
      simp only [hx, Lib.toN, b1, cond_true, e]
      rw [Lib.bif_t (by simp [inB]; omega)]
      unfold view
      rw [show Int.toNat 0 = 0 from rfl, List.drop_zero, Nat.sub_zero, List.take_append_of_le_length (by omega), List.take_of_length_le (by omega)]
    · rw [filter_succ del1 hkl]
      have e1 : keep del1 s0[k] = false := by
        unfold Pu.slices_IndexFunc_Clientb.p at hkp
        rw [Lib.cellAt_of hkl] at hkp
        unfold keep; rw [hkp]; rfl
      have e2 : (s0.take k).filter (keep del1) = s0.take k := by
        rw [List.filter_eq_self]
        intro y hy
        obtain ⟨i, hi, rfl⟩ := List.getElem_of_mem hy
        have hik : i < k := by simp at hi; omega
        have := hbef i (Nat.zero_le _) hik
        unfold Pu.slices_IndexFunc_Clientb.p at this
        rw [Lib.cellAt_of (by omega)] at this
        rw [List.getElem_take]
        unfold keep; rw [this]; rfl
      rw [e1, e2, cond_false, List.append_nil]
end Go.FG.Pu.slices_DeleteFunc_Client

namespace Go.FG.Pu.impl_copyEntries
theorem ok (l : Row) (hl : l.length ≤ 4294967296) : c l = true ∧ v l = l := by
  refine out l ?_
  unfold vo b
  rw [show List.length (zeros [Ck.s, Ck.i IntKind.i64, Ck.i IntKind.i64, Ck.s] 0) + l.length = l.length by simp [zeros], Lib.roomy_of (by omega) (by omega)]
  rfl
end Go.FG.Pu.impl_copyEntries

namespace Go.FG.Pu.impl_copyTexts
theorem ok (l : Row) (hl : l.length ≤ 4294967296) : c l = true ∧ v l = l := by
  refine out l ?_
  unfold vo b
  rw [show List.length (zeros [Ck.s] 0) + l.length = l.length by simp [zeros], Lib.roomy_of (by omega) (by omega)]
  rfl
end Go.FG.Pu.impl_copyTexts

namespace Go.FG.Pu.impl_copyPolicy
open Lib (rr rs)
theorem ok (w m : List ByteArray) (s : List (List Int)) (a : Int) (hw : w.length ≤ 1048576) (hm : m.length ≤ 1048576) (hf : Pu.impl_copySketch.fitS s) : c (rs w) (rs m) (rr s) a = true ∧ v (rs w) (rs m) (rr s) a = (rs w, rs m, rr s, a) := by
  have h1 := Pu.impl_copyTexts.ok (rs w) (by rw [Lib.rs_len]; omega)
  have h2 := Pu.impl_copyTexts.ok (rs m) (by rw [Lib.rs_len]; omega)
  have h3 := Pu.impl_copySketch.ok s a hf
  exact out _ _ _ _ (by unfold vo b; rw [h1.1, h1.2, h2.1, h2.2, h3.1, h3.2, cond_true, cond_true, cond_true])
end Go.FG.Pu.impl_copyPolicy

namespace Go.FG.Pu.impl_copyProxy
open Lib (rr rs re rf rc Px)
theorem ok (p : Px) (hp : p.Fit 1048576) : c p.now (re p.en) (rs p.w) (rs p.m) (rr p.s) p.a (rf p.fe) (rc p.cl) p.hits = true ∧ v p.now (re p.en) (rs p.w) (rs p.m) (rr p.s) p.a (rf p.fe) (rc p.cl) p.hits = (p.now, re p.en, rs p.w, rs p.m, rr p.s, p.a, rf p.fe, rc p.cl, p.hits) := by
  have he := hp.en
  have hf := hp.fe
  have hc := hp.cl
  have h1 := Pu.impl_copyEntries.ok (re p.en) (by rw [Lib.re_len]; omega)
  have h2 := Pu.impl_copyPolicy.ok p.w p.m p.s p.a hp.w hp.m ⟨hp.s.1, hp.s.2.1⟩
  exact out _ _ _ _ _ _ _ _ _ (by
    unfold vo b
    rw [h1.1, h1.2, h2.1, h2.2, cond_true, cond_true, Lib.roomy_of (by simp [zeros, Lib.rf_len]; omega) (by simp [zeros, Lib.rf_len]; omega), Lib.roomy_of (by simp [zeros, Lib.rc_len]; omega) (by simp [zeros, Lib.rc_len]; omega)]
    rfl)
end Go.FG.Pu.impl_copyProxy

namespace Go.FG.Pu.impl_LeaveClient
open Lib (rr rs re rf rc Px Cl)
theorem cn_rc (l : List Cl) : (rc l).all Pu.slices_DeleteFunc_Client.cn = true := by
  rw [List.all_eq_true]; intro y hy
  unfold Lib.rc at hy; obtain ⟨z, _, rfl⟩ := List.mem_map.1 hy; rfl
theorem filt (l : List Cl) (id : Int) : (rc l).filter (Pu.slices_DeleteFunc_Client.keep id) = rc (l.filter fun c => !decide (c.id = id)) := by
  unfold Lib.rc
  rw [List.filter_map]
  rfl
theorem ok (p : Px) (id : Int) (hp : p.Fit 1048576) : c p.now (re p.en) (rs p.w) (rs p.m) (rr p.s) p.a (rf p.fe) (rc p.cl) p.hits id = true ∧ v p.now (re p.en) (rs p.w) (rs p.m) (rr p.s) p.a (rf p.fe) (rc p.cl) p.hits id = (p.now, re p.en, rs p.w, rs p.m, rr p.s, p.a, rf p.fe, rc (Pu.spec_LeaveClient.val p id).cl, p.hits) := by
  have h := Pu.impl_copyProxy.ok p hp
  have hc := hp.cl
  have h2 := Pu.slices_DeleteFunc_Client.ok (rc p.cl) id (cn_rc _) (by rw [Lib.rc_len]; omega)
  rw [filt] at h2
  exact out _ _ _ _ _ _ _ _ _ _ (by
    unfold vo b
    simp only [Lib.lt, h.1, h.2, h2.1, h2.2, cond_true]; rfl)
end Go.FG.Pu.impl_LeaveClient

namespace Go.FG.Pu.laws_eqEntryS
theorem run (a : Row) (hl : a.length ≤ 9223372036854775807) : vo a a = some true := by
  unfold vo b
  rw [show ((a.length : Int) != (a.length : Int)) = false from bne_self_eq_false _, cond_false]
  have := Lib.loop_gen (fun n (i : Nat) => l4 Lib.big (fun (_ _ : Row) (y : Bool) (_ : Int) => some y) (fun (_ _ : Row) (_ : Bool) (_ : Int) => some true) n a a false (i : Int)) (fun i => a.length - i) (fun i => i ≤ a.length) (fun _ => some true) (fun n i hi => by
    by_cases h : i < a.length
    · right
      refine ⟨i + 1, h, by omega, rfl, ?_⟩
      have hi1 : w64 ((i : Int) + 1) = ((i + 1 : Nat) : Int) := Lib.w64_ok (by omega) (by omega)
      have hel : ∀ (x0 : ByteArray) (x1 : Int) (x2 : Int) (x3 : ByteArray), Pu.laws_eqEntry.v x0 x1 x2 x3 x0 x1 x2 x3 = true := fun _ _ _ _ => by
        simp only [Pu.laws_eqEntry.v, bne_self_eq_false, Lib.beq_refl_ba, Bool.not_true, cond_false]
      simp only [l4, r4, Lib.dlt, h, decide_true, Lib.dle0, Bool.and_self, cond_true, Lib.toN, hi1, hel, Bool.not_true, cond_false]
    · left
      simp only [l4, r4, Lib.dlt, h, decide_false, cond_false]) Lib.big 0 (Nat.zero_le _) (Lib.lt_big (by omega))
  exact this
theorem ok (a : Row) (hl : a.length ≤ 9223372036854775807) : c a a = true ∧ v a a = true := out a a (run a hl)
end Go.FG.Pu.laws_eqEntryS

namespace Go.FG.Pu.laws_eqStringS
theorem run (a : Row) (hl : a.length ≤ 9223372036854775807) : vo a a = some true := by
  unfold vo b
  rw [show ((a.length : Int) != (a.length : Int)) = false from bne_self_eq_false _, cond_false]
  have := Lib.loop_gen (fun n (i : Nat) => l4 Lib.big (fun (_ _ : Row) (y : Bool) (_ : Int) => some y) (fun (_ _ : Row) (_ : Bool) (_ : Int) => some true) n a a false (i : Int)) (fun i => a.length - i) (fun i => i ≤ a.length) (fun _ => some true) (fun n i hi => by
    by_cases h : i < a.length
    · right
      refine ⟨i + 1, h, by omega, rfl, ?_⟩
      have hi1 : w64 ((i : Int) + 1) = ((i + 1 : Nat) : Int) := Lib.w64_ok (by omega) (by omega)
      simp only [l4, r4, Lib.dlt, h, decide_true, Lib.dle0, Bool.and_self, cond_true, Lib.toN, hi1, bne_self_eq_false, Lib.beq_refl_ba, Bool.not_true, cond_false]
    · left
      simp only [l4, r4, Lib.dlt, h, decide_false, cond_false]) Lib.big 0 (Nat.zero_le _) (Lib.lt_big (by omega))
  exact this
theorem ok (a : Row) (hl : a.length ≤ 9223372036854775807) : c a a = true ∧ v a a = true := out a a (run a hl)
end Go.FG.Pu.laws_eqStringS

namespace Go.FG.Pu.laws_eqIntSS
theorem run (a : Row) (hl : a.length ≤ 9223372036854775807) : vo a a = some true := by
  unfold vo b
  rw [show ((a.length : Int) != (a.length : Int)) = false from bne_self_eq_false _, cond_false]
  have := Lib.loop_gen (fun n (i : Nat) => l4 Lib.big (fun (_ _ : Row) (y : Bool) (_ : Int) => some y) (fun (_ _ : Row) (_ : Bool) (_ : Int) => some true) n a a false (i : Int)) (fun i => a.length - i) (fun i => i ≤ a.length) (fun _ => some true) (fun n i hi => by
    by_cases h : i < a.length
    · right
      refine ⟨i + 1, h, by omega, rfl, ?_⟩
      have hi1 : w64 ((i : Int) + 1) = ((i + 1 : Nat) : Int) := Lib.w64_ok (by omega) (by omega)
      simp only [l4, r4, Lib.dlt, h, decide_true, Lib.dle0, Bool.and_self, cond_true, Lib.toN, hi1, Pu.laws_eqIntS.refl, Bool.not_true, cond_false]
    · left
      simp only [l4, r4, Lib.dlt, h, decide_false, cond_false]) Lib.big 0 (Nat.zero_le _) (Lib.lt_big (by omega))
  exact this
theorem ok (a : Row) (hl : a.length ≤ 9223372036854775807) : c a a = true ∧ v a a = true := out a a (run a hl)
end Go.FG.Pu.laws_eqIntSS

namespace Go.FG.Pu.laws_eqSketch
theorem ok (r : Row) (k : Int) (hl : r.length ≤ 9223372036854775807) : c r k r k = true ∧ v r k r k = true := by
  have h := Pu.laws_eqIntSS.ok r hl
  exact out r k r k (by unfold vo b; rw [h.1, h.2, bne_self_eq_false]; rfl)
end Go.FG.Pu.laws_eqSketch

namespace Go.FG.Pu.laws_eqPolicy
theorem ok (r0 r1 r2 : Row) (k : Int) (h0 : r0.length ≤ 9223372036854775807) (h1 : r1.length ≤ 9223372036854775807) (h2 : r2.length ≤ 9223372036854775807) : c r0 r1 r2 k r0 r1 r2 k = true ∧ v r0 r1 r2 k r0 r1 r2 k = true := by
  have a0 := Pu.laws_eqStringS.ok r0 h0
  have a1 := Pu.laws_eqStringS.ok r1 h1
  have a2 := Pu.laws_eqSketch.ok r2 k h2
  exact out r0 r1 r2 k r0 r1 r2 k (by unfold vo b; rw [a0.1, a0.2, a1.1, a1.2, a2.1, a2.2]; rfl)
end Go.FG.Pu.laws_eqPolicy

namespace Go.FG.Pu.laws_eqFetchS
theorem run (a : Row) (hl : a.length ≤ 9223372036854775807) : vo a a = some true := by
  unfold vo b
  rw [show ((a.length : Int) != (a.length : Int)) = false from bne_self_eq_false _, cond_false]
  have := Lib.loop_gen (fun n (i : Nat) => l4 Lib.big (fun (_ _ : Row) (y : Bool) (_ : Int) => some y) (fun (_ _ : Row) (_ : Bool) (_ : Int) => some true) n a a false (i : Int)) (fun i => a.length - i) (fun i => i ≤ a.length) (fun _ => some true) (fun n i hi => by
    by_cases h : i < a.length
    · right
      refine ⟨i + 1, h, by omega, rfl, ?_⟩
      have hi1 : w64 ((i : Int) + 1) = ((i + 1 : Nat) : Int) := Lib.w64_ok (by omega) (by omega)
      have hel : ∀ (x0 : ByteArray) (x1 : ByteArray) (x2 : Int) (x3 : Int) (x4 : Int), Pu.laws_eqFetch.v x0 x1 x2 x3 x4 x0 x1 x2 x3 x4 = true := fun _ _ _ _ _ => by
        simp only [Pu.laws_eqFetch.v, bne_self_eq_false, Lib.beq_refl_ba, Bool.not_true, cond_false]
      simp only [l4, r4, Lib.dlt, h, decide_true, Lib.dle0, Bool.and_self, cond_true, Lib.toN, hi1, hel, Bool.not_true, cond_false]
    · left
      simp only [l4, r4, Lib.dlt, h, decide_false, cond_false]) Lib.big 0 (Nat.zero_le _) (Lib.lt_big (by omega))
  exact this
theorem ok (a : Row) (hl : a.length ≤ 9223372036854775807) : c a a = true ∧ v a a = true := out a a (run a hl)
end Go.FG.Pu.laws_eqFetchS

namespace Go.FG.Pu.laws_eqClientS
theorem run (a : Row) (hl : a.length ≤ 9223372036854775807) : vo a a = some true := by
  unfold vo b
  rw [show ((a.length : Int) != (a.length : Int)) = false from bne_self_eq_false _, cond_false]
  have := Lib.loop_gen (fun n (i : Nat) => l4 Lib.big (fun (_ _ : Row) (y : Bool) (_ : Int) => some y) (fun (_ _ : Row) (_ : Bool) (_ : Int) => some true) n a a false (i : Int)) (fun i => a.length - i) (fun i => i ≤ a.length) (fun _ => some true) (fun n i hi => by
    by_cases h : i < a.length
    · right
      refine ⟨i + 1, h, by omega, rfl, ?_⟩
      have hi1 : w64 ((i : Int) + 1) = ((i + 1 : Nat) : Int) := Lib.w64_ok (by omega) (by omega)
      have hel : ∀ (x0 : Int) (x1 : ByteArray) (x2 : Int) (x3 : Int) (x4 : Int) (x5 : ByteArray) (x6 : Int), Pu.laws_eqClient.v x0 x1 x2 x3 x4 x5 x6 x0 x1 x2 x3 x4 x5 x6 = true := fun _ _ _ _ _ _ _ => by
        simp only [Pu.laws_eqClient.v, bne_self_eq_false, Lib.beq_refl_ba, Bool.not_true, cond_false]
      simp only [l4, r4, Lib.dlt, h, decide_true, Lib.dle0, Bool.and_self, cond_true, Lib.toN, hi1, hel, Bool.not_true, cond_false]
    · left
      simp only [l4, r4, Lib.dlt, h, decide_false, cond_false]) Lib.big 0 (Nat.zero_le _) (Lib.lt_big (by omega))
  exact this
theorem ok (a : Row) (hl : a.length ≤ 9223372036854775807) : c a a = true ∧ v a a = true := out a a (run a hl)
end Go.FG.Pu.laws_eqClientS

namespace Go.FG.Pu.laws_eqProxy
theorem ok (i0 : Int) (r1 r2 r3 r4 : Row) (i5 : Int) (r6 r7 : Row) (i8 : Int) (h1 : r1.length ≤ 9223372036854775807) (h2 : r2.length ≤ 9223372036854775807) (h3 : r3.length ≤ 9223372036854775807) (h4 : r4.length ≤ 9223372036854775807) (h6 : r6.length ≤ 9223372036854775807) (h7 : r7.length ≤ 9223372036854775807) :
    c i0 r1 r2 r3 r4 i5 r6 r7 i8 i0 r1 r2 r3 r4 i5 r6 r7 i8 = true ∧ v i0 r1 r2 r3 r4 i5 r6 r7 i8 i0 r1 r2 r3 r4 i5 r6 r7 i8 = true := by
  have a1 := Pu.laws_eqEntryS.ok r1 h1
  have a2 := Pu.laws_eqPolicy.ok r2 r3 r4 i5 h2 h3 h4
  have a3 := Pu.laws_eqFetchS.ok r6 h6
  have a4 := Pu.laws_eqClientS.ok r7 h7
  exact out _ _ _ _ _ _ _ _ _ _ _ _ _ _ _ _ _ _ (by unfold vo b; rw [a1.1, a1.2, a2.1, a2.2, a3.1, a3.2, a4.1, a4.2, bne_self_eq_false, bne_self_eq_false]; rfl)
theorem refl (p : Lib.Px) (hp : p.Fit 1048576) : c p.now (Lib.re p.en) (Lib.rs p.w) (Lib.rs p.m) (Lib.rr p.s) p.a (Lib.rf p.fe) (Lib.rc p.cl) p.hits p.now (Lib.re p.en) (Lib.rs p.w) (Lib.rs p.m) (Lib.rr p.s) p.a (Lib.rf p.fe) (Lib.rc p.cl) p.hits = true ∧ v p.now (Lib.re p.en) (Lib.rs p.w) (Lib.rs p.m) (Lib.rr p.s) p.a (Lib.rf p.fe) (Lib.rc p.cl) p.hits p.now (Lib.re p.en) (Lib.rs p.w) (Lib.rs p.m) (Lib.rr p.s) p.a (Lib.rf p.fe) (Lib.rc p.cl) p.hits = true :=
  ok p.now (Lib.re p.en) (Lib.rs p.w) (Lib.rs p.m) (Lib.rr p.s) p.a (Lib.rf p.fe) (Lib.rc p.cl) p.hits (by rw [Lib.re_len]; have := hp.en; omega) (by rw [Lib.rs_len]; have := hp.w; omega) (by rw [Lib.rs_len]; have := hp.m; omega) (by rw [Lib.rr_len]; have := hp.s.1; omega) (by rw [Lib.rf_len]; have := hp.fe; omega) (by rw [Lib.rc_len]; have := hp.cl; omega)
end Go.FG.Pu.laws_eqProxy

namespace Go.FG.Pu.laws_markIntS
def row (k : Int) : List CV := [CV.i IntKind.i64 (k)]
def mkl (k : Int) (n : Nat) : Row := (List.range n).map fun (j : Nat) => row (k + 1 * (j : Int))
theorem mkl_len (k : Int) (n : Nat) : (mkl k n).length = n := by unfold mkl; simp
theorem mkl_sh (k : Int) (n : Nat) : ∀ y ∈ mkl k n, y.length = 1 := by
  intro y hy; unfold mkl at hy; obtain ⟨j, _, rfl⟩ := List.mem_map.1 hy; rfl
theorem sp0 (y0 x : CV) : splice [y0] 0 [x] = [x] := rfl
theorem run (a0 : Row) (k1 : Int) (hs : ∀ y ∈ a0, y.length = 1) (hl : a0.length ≤ 4194304) (h0 : 0 ≤ k1) (h1 : k1 ≤ 1000000000000) : vo a0 k1 = some (k1 + 1 * (a0.length : Int), mkl k1 a0.length) := by
  unfold vo b
  have := Lib.loop_gen (fun n (i : Nat) => l2 Lib.big (fun (y3 y4 : Int) (y5 : Row) => some (y3, y5)) n (k1 + 1 * (i : Int)) (i : Int) (mkl k1 i ++ a0.drop i)) (fun i => a0.length - i) (fun i => i ≤ a0.length) (fun _ => some (k1 + 1 * (a0.length : Int), mkl k1 a0.length)) (fun n i hi => by
    have hml := mkl_len k1 i
    by_cases h : i < a0.length
    · right
      refine ⟨i + 1, h, by omega, rfl, ?_⟩
      have e3 : mkl k1 (i + 1) ++ a0.drop (i + 1) = mkl k1 i ++ row (k1 + 1 * (i : Int)) :: a0.drop (i + 1) := by
        unfold mkl; rw [Lib.range_map_succ, List.append_assoc]; rfl
      have eA : k1 + 1 * ((i + 1 : Nat) : Int) = (k1 + 1 * (i : Int)) + 1 := by omega
      show l2 Lib.big _ (n + 1) (k1 + 1 * (i : Int)) (i : Int) (mkl k1 i ++ a0.drop i) = l2 Lib.big _ n (k1 + 1 * ((i + 1 : Nat) : Int)) ((i + 1 : Nat) : Int) (mkl k1 (i + 1) ++ a0.drop (i + 1))
      rw [eA, e3, Lib.drop_cons_of h]
      have hy := hs _ (List.getElem_mem h)
      have hk0 : 0 ≤ k1 + 1 * (i : Int) := by omega
      have hk1 : k1 + 1 * (i : Int) ≤ 2000000000000 := by omega
      generalize k1 + 1 * (i : Int) = k at hk0 hk1
      generalize a0[i] = y at hy
      obtain ⟨y0, rfl⟩ : ∃ y0, y = [y0] := by
        match y, hy with
        | [y0], _ => exact ⟨y0, rfl⟩
      have hd : ∀ z : List CV, decide ((i : Int) < ((mkl k1 i ++ z :: a0.drop (i + 1)).length : Int)) = true := fun z => by
        rw [Lib.len_mid, hml]; exact decide_eq_true (by omega)
      have hi1 : w64 ((i : Int) + 1) = ((i + 1 : Nat) : Int) := Lib.w64_ok (by omega) (by omega)
      simp only [l2, r2, Lib.length_setC, hd, Lib.dle0, Bool.and_self, cond_true, Lib.toN, Lib.setC_mid _ _ _ _ _ _ hml, sp0, Lib.w64_ok (x := k + 1) (by omega) (by omega), hi1]
      rfl
    · left
      have : i = a0.length := by omega
      subst this
      show l2 Lib.big _ (n + 1) (k1 + 1 * (a0.length : Int)) (a0.length : Int) (mkl k1 a0.length ++ a0.drop a0.length) = _
      rw [List.drop_length, List.append_nil]
      simp only [l2, r2, hml, Lib.dlt, Nat.lt_irrefl, decide_false, cond_false]) Lib.big 0 (Nat.zero_le _) (Lib.lt_big (by omega))
  have e0 : mkl k1 0 ++ a0.drop 0 = a0 := rfl
  rw [e0] at this
  simpa using this
theorem ok (a0 : Row) (k1 : Int) (hs : ∀ y ∈ a0, y.length = 1) (hl : a0.length ≤ 4194304) (h0 : 0 ≤ k1) (h1 : k1 ≤ 1000000000000) : c a0 k1 = true ∧ v a0 k1 = (k1 + 1 * (a0.length : Int), mkl k1 a0.length) := out a0 k1 (run a0 k1 hs hl h0 h1)
end Go.FG.Pu.laws_markIntS

namespace Go.FG.Pu.laws_markIntSS
open Lib (rr ri)
def sm (l : List Nat) : Int := (l.sum : Nat)
def lens (s : List (List Int)) : List Nat := s.map List.length
def mkk : Int → List Nat → Row
  | _, [] => []
  | k, n :: r => [CV.l 3 (Pu.laws_markIntS.mkl k n)] :: mkk (k + n) r
theorem mkk_snoc : ∀ (l : List Nat) (k : Int) (n : Nat), mkk k (l ++ [n]) = mkk k l ++ [[CV.l 3 (Pu.laws_markIntS.mkl (k + sm l) n)]]
  | [], k, n => by simp [mkk, sm]
  | m :: l, k, n => by
    have e : k + (m : Int) + sm l = k + sm (m :: l) := by unfold sm; rw [List.sum_cons]; omega
    simp only [List.cons_append, mkk]
    rw [mkk_snoc l (k + m) n, e]
theorem mkk_len : ∀ (l : List Nat) (k : Int), (mkk k l).length = l.length
  | [], _ => rfl
  | n :: l, k => by simp [mkk, mkk_len l]
theorem sm_succ (s : List (List Int)) (i : Nat) (h : i < s.length) : sm (lens (s.take (i + 1))) = sm (lens (s.take i)) + (s[i].length : Int) := by
  unfold sm lens
  rw [List.take_succ_eq_append_getElem h, List.map_append, List.sum_append]; simp
theorem lens_snoc (s : List (List Int)) (i : Nat) (h : i < s.length) : lens (s.take (i + 1)) = lens (s.take i) ++ [s[i].length] := by
  unfold lens
  rw [List.take_succ_eq_append_getElem h, List.map_append]; rfl
theorem sm_take (s : List (List Int)) (i : Nat) : 0 ≤ sm (lens (s.take i)) ∧ sm (lens (s.take i)) ≤ sm (lens s) := by
  unfold sm lens
  refine ⟨by omega, ?_⟩
  have e : (s.map List.length).sum = ((s.take i).map List.length).sum + ((s.drop i).map List.length).sum := by
    rw [← List.sum_append, ← List.map_append, List.take_append_drop]
  rw [e]; omega
theorem at_le (s : List (List Int)) (i : Nat) (h : i < s.length) : (s[i].length : Int) ≤ sm (lens s) := by
  have h1 := sm_succ s i h
  have h2 := sm_take s (i + 1)
  have h3 := sm_take s i
  omega
theorem ri_sh (q : List Int) : ∀ y ∈ ri q, y.length = 1 := by
  intro y hy; unfold Lib.ri at hy; obtain ⟨z, _, rfl⟩ := List.mem_map.1 hy; rfl
theorem ok (s : List (List Int)) (k : Int) (hl : s.length ≤ 4194304) (ht : sm (lens s) ≤ 4194304) (h0 : 0 ≤ k) (h1 : k ≤ 500000000000) : c (rr s) k = true ∧ v (rr s) k = (k + sm (lens s), mkk k (lens s)) := by
  refine out _ _ ?_
  unfold vo b
  have key := Lib.for_run s.length (fun m (i : Nat) (t : Int × Row) => l2 Lib.big (fun (y3 _ : Int) (y5 : Row) => some (y3, y5)) m t.1 (i : Int) t.2) (fun i => (k + sm (lens (s.take i)), mkk k (lens (s.take i)) ++ rr (s.drop i))) (some (k + sm (lens s), mkk k (lens s))) (fun m i h => by
    dsimp only
    have hA : (mkk k (lens (s.take i))).length = i := by rw [mkk_len]; unfold lens; simp; omega
    have hd : rr (s.drop i) = [CV.l 3 (ri s[i])] :: rr (s.drop (i + 1)) := by
      unfold Lib.rr; rw [List.drop_eq_getElem_cons h, List.map_cons]
    have hb := sm_take s i
    have ha := at_le s i h
    have hm := Pu.laws_markIntS.ok (ri s[i]) (k + sm (lens (s.take i))) (ri_sh _) (by rw [Lib.ri_len]; omega) (by omega) (by omega)
    rw [Lib.ri_len] at hm
    rw [hd]
    have hdl : ∀ z : List CV, decide ((i : Int) < ((mkk k (lens (s.take i)) ++ z :: rr (s.drop (i + 1))).length : Int)) = true := fun z => by
      rw [Lib.len_mid, hA]; exact decide_eq_true (by omega)
    simp only [l2, r2, hdl, Lib.dle0, Bool.and_self, cond_true, Lib.toN, Lib.cellAt_mid _ _ _ _ _ hA, List.getD_cons_zero, cvL, hm.1, hm.2, Lib.setC_mid _ _ _ _ _ _ hA, Lib.w64_s h (by omega : s.length ≤ 9223372036854775807)]
    rw [sm_succ s i h, lens_snoc s i h, mkk_snoc, List.append_assoc, show k + sm (lens (s.take i)) + 1 * (s[i].length : Int) = k + (sm (lens (s.take i)) + (s[i].length : Int)) by omega]
    rfl) (fun m => by
    have hA : (mkk k (lens s)).length = s.length := by rw [mkk_len]; unfold lens; simp
    simp only [List.take_length, List.drop_length, show rr [] = [] from rfl, List.append_nil, l2, r2, hA, Lib.dlt, Nat.lt_irrefl, decide_false, cond_false]) Lib.big 0 (Nat.zero_le _) (Lib.lt_big (by omega))
  dsimp only [List.take_zero, List.drop_zero] at key
  rw [show sm (lens []) = 0 from rfl, Int.add_zero] at key
  exact key
end Go.FG.Pu.laws_markIntSS

namespace Go.FG.Pu.laws_markText
theorem post (k : Int) (h1 : k ≤ 1152921504606846976) : ∃ x, vo k = some x := by
  unfold vo b
  cases h : decide (k ≤ 0) with
  | true => exact ⟨_, rfl⟩
  | false =>
    rw [cond_false]
    have h0 : ¬ k ≤ 0 := of_decide_eq_false h
    obtain ⟨x, hx, _⟩ := Lib.loop_post (fun n (s : Int × ByteArray) => l4 Lib.big (fun (y2 : Int) (y3 : ByteArray) => bif (decide (ByteArray.size { data := #[UInt8.ofNat 109] } + ByteArray.size y3 ≤ 4611686018427387904)) then some ({ data := #[UInt8.ofNat 109] } ++ y3) else none) n s.1 s.2)
      (fun s => s.1.toNat) (fun s => 0 ≤ s.1 ∧ (s.2.size : Int) + s.1 ≤ 1152921504606846976) (fun _ => True) (fun n s hs => by
        obtain ⟨x, t⟩ := s
        obtain ⟨a1, a2⟩ := hs
        dsimp only at a1 a2 ⊢
        have hsz : ByteArray.size (bytesOf (List.set (zeros [Ck.i IntKind.u8] 1) 0 [CV.i IntKind.u8 (IntKind.wrap IntKind.u8 (w64 (48 + Int.tmod x 10)))])) = 1 := by rw [Lib.size_bytesOf, List.length_set]; rfl
        by_cases hx : x > 0
        · right
          have e1 : Int.tdiv x 10 = x / 10 := Int.tdiv_eq_ediv_of_nonneg (by omega)
          refine ⟨(w64 (Int.tdiv x 10), bytesOf (List.set (zeros [Ck.i IntKind.u8] 1) 0 [CV.i IntKind.u8 (IntKind.wrap IntKind.u8 (w64 (48 + Int.tmod x 10)))]) ++ t), ?_, ?_, ?_⟩
          · dsimp only
            rw [e1, Lib.w64_ok (by omega) (by omega), Lib.size_app, hsz]; omega
          · dsimp only; rw [e1, Lib.w64_ok (by omega) (by omega)]; omega
          · simp only [l4, r4, decide_eq_true hx, cond_true, hsz]
            rw [Lib.bif_t (Lib.dnat (by omega))]
        · left
          refine ⟨{ data := #[UInt8.ofNat 109] } ++ t, ?_, trivial⟩
          simp only [l4, r4, decide_eq_false hx, cond_false]
          exact Lib.bif_t (Lib.dnat (show ByteArray.size { data := #[UInt8.ofNat 109] } + t.size ≤ _ by rw [show ByteArray.size { data := #[UInt8.ofNat 109] } = 1 from rfl]; omega))) Lib.big (k, ⟨#[]⟩) ⟨by dsimp only; omega, by dsimp only; rw [show ByteArray.size ⟨#[]⟩ = 0 from rfl]; omega⟩ (Lib.lt_big (by dsimp only; omega))
    exact ⟨x, hx⟩
theorem ok (k : Int) (h1 : k ≤ 1152921504606846976) : c k = true := by
  obtain ⟨x, h⟩ := post k h1
  exact (out k h).1
end Go.FG.Pu.laws_markText

namespace Go.FG.Pu.laws_markStringS
def row (k : Int) : List CV := [CV.s (Pu.laws_markText.v (k))]
def mkl (k : Int) (n : Nat) : Row := (List.range n).map fun (j : Nat) => row (k + 1 * (j : Int))
theorem mkl_len (k : Int) (n : Nat) : (mkl k n).length = n := by unfold mkl; simp
theorem mkl_sh (k : Int) (n : Nat) : ∀ y ∈ mkl k n, y.length = 1 := by
  intro y hy; unfold mkl at hy; obtain ⟨j, _, rfl⟩ := List.mem_map.1 hy; rfl
theorem sp0 (y0 x : CV) : splice [y0] 0 [x] = [x] := rfl
theorem run (a0 : Row) (k1 : Int) (hs : ∀ y ∈ a0, y.length = 1) (hl : a0.length ≤ 4194304) (h0 : 0 ≤ k1) (h1 : k1 ≤ 1000000000000) : vo a0 k1 = some (k1 + 1 * (a0.length : Int), mkl k1 a0.length) := by
  unfold vo b
  have := Lib.loop_gen (fun n (i : Nat) => l2 Lib.big (fun (y3 y4 : Int) (y5 : Row) => some (y3, y5)) n (k1 + 1 * (i : Int)) (i : Int) (mkl k1 i ++ a0.drop i)) (fun i => a0.length - i) (fun i => i ≤ a0.length) (fun _ => some (k1 + 1 * (a0.length : Int), mkl k1 a0.length)) (fun n i hi => by
    have hml := mkl_len k1 i
    by_cases h : i < a0.length
    · right
      refine ⟨i + 1, h, by omega, rfl, ?_⟩
      have e3 : mkl k1 (i + 1) ++ a0.drop (i + 1) = mkl k1 i ++ row (k1 + 1 * (i : Int)) :: a0.drop (i + 1) := by
        unfold mkl; rw [Lib.range_map_succ, List.append_assoc]; rfl
      have eA : k1 + 1 * ((i + 1 : Nat) : Int) = (k1 + 1 * (i : Int)) + 1 := by omega
      show l2 Lib.big _ (n + 1) (k1 + 1 * (i : Int)) (i : Int) (mkl k1 i ++ a0.drop i) = l2 Lib.big _ n (k1 + 1 * ((i + 1 : Nat) : Int)) ((i + 1 : Nat) : Int) (mkl k1 (i + 1) ++ a0.drop (i + 1))
      rw [eA, e3, Lib.drop_cons_of h]
      have hy := hs _ (List.getElem_mem h)
      have hk0 : 0 ≤ k1 + 1 * (i : Int) := by omega
      have hk1 : k1 + 1 * (i : Int) ≤ 2000000000000 := by omega
      generalize k1 + 1 * (i : Int) = k at hk0 hk1
      generalize a0[i] = y at hy
      obtain ⟨y0, rfl⟩ : ∃ y0, y = [y0] := by
        match y, hy with
        | [y0], _ => exact ⟨y0, rfl⟩
      have hd : ∀ z : List CV, decide ((i : Int) < ((mkl k1 i ++ z :: a0.drop (i + 1)).length : Int)) = true := fun z => by
        rw [Lib.len_mid, hml]; exact decide_eq_true (by omega)
      have hi1 : w64 ((i : Int) + 1) = ((i + 1 : Nat) : Int) := Lib.w64_ok (by omega) (by omega)
      simp only [l2, r2, Lib.length_setC, hd, Lib.dle0, Bool.and_self, cond_true, Lib.toN, Lib.setC_mid _ _ _ _ _ _ hml, sp0, Lib.w64_ok (x := k + 1) (by omega) (by omega), Pu.laws_markText.ok (k) (by omega), hi1]
      rfl
    · left
      have : i = a0.length := by omega
      subst this
      show l2 Lib.big _ (n + 1) (k1 + 1 * (a0.length : Int)) (a0.length : Int) (mkl k1 a0.length ++ a0.drop a0.length) = _
      rw [List.drop_length, List.append_nil]
      simp only [l2, r2, hml, Lib.dlt, Nat.lt_irrefl, decide_false, cond_false]) Lib.big 0 (Nat.zero_le _) (Lib.lt_big (by omega))
  have e0 : mkl k1 0 ++ a0.drop 0 = a0 := rfl
  rw [e0] at this
  simpa using this
theorem ok (a0 : Row) (k1 : Int) (hs : ∀ y ∈ a0, y.length = 1) (hl : a0.length ≤ 4194304) (h0 : 0 ≤ k1) (h1 : k1 ≤ 1000000000000) : c a0 k1 = true ∧ v a0 k1 = (k1 + 1 * (a0.length : Int), mkl k1 a0.length) := out a0 k1 (run a0 k1 hs hl h0 h1)
end Go.FG.Pu.laws_markStringS

namespace Go.FG.Pu.laws_markSketch
open Lib (rr)
open Pu.laws_markIntSS (mkk sm lens)
theorem ok (s : List (List Int)) (a k : Int) (hl : s.length ≤ 4194304) (ht : sm (lens s) ≤ 4194304) (h0 : 0 ≤ k) (h1 : k ≤ 500000000000) : c (rr s) a k = true ∧ v (rr s) a k = (k + sm (lens s), mkk k (lens s)) := by
  have h := Pu.laws_markIntSS.ok s k hl ht h0 h1
  exact out _ _ _ (by unfold vo b; rw [h.1, h.2, cond_true])
end Go.FG.Pu.laws_markSketch

namespace Go.FG.Pu.laws_markPolicy
open Lib (rr rs)
open Pu.laws_markIntSS (mkk sm lens)
theorem rs_sh (q : List ByteArray) : ∀ y ∈ rs q, y.length = 1 := by
  intro y hy; unfold Lib.rs at hy; obtain ⟨z, _, rfl⟩ := List.mem_map.1 hy; rfl
def n1 (k : Int) (w : Nat) : Int := k + 1 * (w : Int)
/-- Marks of a policy. -/
theorem ok (w m : List ByteArray) (s : List (List Int)) (a k : Int) (hw : w.length ≤ 2097152) (hm : m.length ≤ 2097152) (hl : s.length ≤ 4194304) (ht : sm (lens s) ≤ 4194304) (h0 : 0 ≤ k) (h1 : k ≤ 400000000000) : c (rs w) (rs m) (rr s) a k = true ∧
    v (rs w) (rs m) (rr s) a k = (n1 (n1 k w.length) m.length + sm (lens s), Pu.laws_markStringS.mkl k w.length, Pu.laws_markStringS.mkl (n1 k w.length) m.length, mkk (n1 (n1 k w.length) m.length) (lens s)) := by
  have a1 := Pu.laws_markStringS.ok (rs w) k (rs_sh w) (by rw [Lib.rs_len]; omega) h0 (by omega)
  have a2 := Pu.laws_markStringS.ok (rs m) (n1 k w.length) (rs_sh m) (by rw [Lib.rs_len]; omega) (by unfold n1; omega) (by unfold n1; omega)
  have a3 := Pu.laws_markSketch.ok s a (n1 (n1 k w.length) m.length) hl ht (by unfold n1; omega) (by unfold n1; omega)
  rw [Lib.rs_len] at a1 a2
  unfold n1 at a2 a3 ⊢
  exact out _ _ _ _ _ (by unfold vo b; simp only [a1.1, a1.2, a2.1, a2.2, a3.1, a3.2, cond_true])
end Go.FG.Pu.laws_markPolicy

namespace Go.FG.Pu.laws_heldIntS
theorem run (k1 : Int) (a : Nat) (hl : a ≤ 4194304) (h0 : 0 ≤ k1) (h1 : k1 ≤ 1000000000000) : vo (Pu.laws_markIntS.mkl k1 a) k1 = some (k1 + 1 * (a : Int)) := by
  have hml := Pu.laws_markIntS.mkl_len k1 a
  unfold vo b
  have := Lib.loop_gen (fun n (i : Nat) => l2 Lib.big (fun (_ : Row) (_ y6 _ : Int) => some y6) (fun (_ : Row) (y9 _ _ : Int) => some y9) n (Pu.laws_markIntS.mkl k1 a) (k1 + 1 * (i : Int)) 0 (i : Int)) (fun i => a - i) (fun i => i ≤ a) (fun _ => some (k1 + 1 * (a : Int))) (fun n i hi => by
    by_cases h : i < a
    · right
      refine ⟨i + 1, h, by omega, rfl, ?_⟩
      have eA : k1 + 1 * ((i + 1 : Nat) : Int) = (k1 + 1 * (i : Int)) + 1 := by omega
      show l2 Lib.big _ _ (n + 1) (Pu.laws_markIntS.mkl k1 a) (k1 + 1 * (i : Int)) 0 (i : Int) = l2 Lib.big _ _ n (Pu.laws_markIntS.mkl k1 a) (k1 + 1 * ((i + 1 : Nat) : Int)) 0 ((i + 1 : Nat) : Int)
      rw [eA]
      have ce0 : cvI (cellAt (Pu.laws_markIntS.mkl k1 a) i 0) = k1 + 1 * (i : Int) := by
        unfold Pu.laws_markIntS.mkl; rw [Lib.cellAt_rm _ _ _ _ h]; rfl
      have hk0 : 0 ≤ k1 + 1 * (i : Int) := by omega
      have hk1 : k1 + 1 * (i : Int) ≤ 2000000000000 := by omega
      generalize k1 + 1 * (i : Int) = k at *
      have hi1 : w64 ((i : Int) + 1) = ((i + 1 : Nat) : Int) := Lib.w64_ok (by omega) (by omega)
      simp only [l2, r2, hml, Lib.dlt, h, decide_true, Lib.dle0, Bool.and_self, cond_true, Lib.toN, ce0, Lib.w64_ok (x := k + 1) (by omega) (by omega), hi1, bne_self_eq_false, cond_false, Lib.beq_refl_ba, Bool.not_true]
    · left
      have : i = a := by omega
      subst this
      simp only [l2, r2, hml, Lib.dlt, Nat.lt_irrefl, decide_false, cond_false]) Lib.big 0 (Nat.zero_le _) (Lib.lt_big (by omega))
  simpa using this
theorem ok (k1 : Int) (a : Nat) (hl : a ≤ 4194304) (h0 : 0 ≤ k1) (h1 : k1 ≤ 1000000000000) : c (Pu.laws_markIntS.mkl k1 a) k1 = true ∧ v (Pu.laws_markIntS.mkl k1 a) k1 = k1 + 1 * (a : Int) := out _ _ (run k1 a hl h0 h1)
end Go.FG.Pu.laws_heldIntS

namespace Go.FG.Pu.laws_heldIntSS
open Pu.laws_markIntSS (mkk mkk_len sm)
theorem sm_cons (n : Nat) (l : List Nat) : sm (n :: l) = (n : Int) + sm l := by unfold sm; rw [List.sum_cons]; omega
theorem sm_nn (l : List Nat) : 0 ≤ sm l := by unfold sm; omega
theorem cells : ∀ (l : List Nat) (k : Int) (i : Nat) (h : i < l.length), cellAt (mkk k l) i 0 = CV.l 3 (Pu.laws_markIntS.mkl (k + sm (l.take i)) l[i])
  | n :: l, k, 0, h => by simp [mkk, cellAt, sm]
  | n :: l, k, i + 1, h => by
    have := cells l (k + n) i (by simpa using h)
    rw [List.take_succ_cons, sm_cons, List.getElem_cons_succ]
    rw [show k + ((n : Int) + sm (l.take i)) = k + n + sm (l.take i) by omega, ← this]
    rfl
theorem sm_split (l : List Nat) (i : Nat) (h : i < l.length) : sm (l.take (i + 1)) = sm (l.take i) + (l[i] : Int) := by
  unfold sm; rw [List.take_succ_eq_append_getElem h, List.sum_append]; simp
theorem sm_le (l : List Nat) (i : Nat) : sm (l.take i) ≤ sm l := by
  unfold sm
  have e : l.sum = (l.take i).sum + (l.drop i).sum := by rw [← List.sum_append, List.take_append_drop]
  rw [e]; omega
theorem ok (k : Int) (l : List Nat) (hl : l.length ≤ 4194304) (ht : sm l ≤ 4194304) (h0 : 0 ≤ k) (h1 : k ≤ 500000000000) : c (mkk k l) k = true ∧ v (mkk k l) k = k + sm l := by
  refine out _ _ ?_
  unfold vo b
  have key := Lib.for_run l.length (fun m (i : Nat) (t : Int) => l2 Lib.big (fun (_ : Row) (_ y6 _ : Int) => some y6) (fun (_ : Row) (y9 _ _ : Int) => some y9) m (mkk k l) t 0 (i : Int)) (fun i => k + sm (l.take i)) (some (k + sm l)) (fun m i h => by
    have hb := sm_nn (l.take i)
    have hc := sm_split l i h
    have hd := sm_le l (i + 1)
    have hm := Pu.laws_heldIntS.ok (k + sm (l.take i)) l[i] (by omega) (by omega) (by omega)
    simp only [l2, r2, mkk_len, Lib.dlt, h, decide_true, Lib.dle0, Bool.and_self, cond_true, Lib.toN, cells l k i h, cvL, hm.1, hm.2, Lib.w64_s h (by omega : l.length ≤ 9223372036854775807)]
    rw [decide_eq_false (show ¬ k + sm (l.take i) + 1 * (l[i] : Int) < 0 by omega), cond_false, hc, show k + sm (l.take i) + 1 * (l[i] : Int) = k + (sm (l.take i) + (l[i] : Int)) by omega]) (fun m => by
    simp only [List.take_length, l2, r2, mkk_len, Lib.dlt, Nat.lt_irrefl, decide_false, cond_false]) Lib.big 0 (Nat.zero_le _) (Lib.lt_big (by omega))
  dsimp only [List.take_zero] at key
  rw [show sm [] = 0 from rfl, Int.add_zero] at key
  exact key
end Go.FG.Pu.laws_heldIntSS

namespace Go.FG.Pu.laws_markEntryS
def row (k : Int) : List CV := [CV.s (Pu.laws_markText.v (k)), CV.i IntKind.i64 (k + 1), CV.i IntKind.i64 (k + 1 + 1), CV.s (Pu.laws_markText.v (k + 1 + 1 + 1))]
def mkl (k : Int) (n : Nat) : Row := (List.range n).map fun (j : Nat) => row (k + 4 * (j : Int))
theorem mkl_len (k : Int) (n : Nat) : (mkl k n).length = n := by unfold mkl; simp
theorem mkl_sh (k : Int) (n : Nat) : ∀ y ∈ mkl k n, y.length = 4 := by
  intro y hy; unfold mkl at hy; obtain ⟨j, _, rfl⟩ := List.mem_map.1 hy; rfl
theorem sp0 (y0 y1 y2 y3 x : CV) : splice [y0, y1, y2, y3] 0 [x] = [x, y1, y2, y3] := rfl
theorem sp1 (y0 y1 y2 y3 x : CV) : splice [y0, y1, y2, y3] 1 [x] = [y0, x, y2, y3] := rfl
theorem sp2 (y0 y1 y2 y3 x : CV) : splice [y0, y1, y2, y3] 2 [x] = [y0, y1, x, y3] := rfl
theorem sp3 (y0 y1 y2 y3 x : CV) : splice [y0, y1, y2, y3] 3 [x] = [y0, y1, y2, x] := rfl
theorem run (a0 : Row) (k1 : Int) (hs : ∀ y ∈ a0, y.length = 4) (hl : a0.length ≤ 4194304) (h0 : 0 ≤ k1) (h1 : k1 ≤ 1000000000000) : vo a0 k1 = some (k1 + 4 * (a0.length : Int), mkl k1 a0.length) := by
  unfold vo b
  have := Lib.loop_gen (fun n (i : Nat) => l2 Lib.big (fun (y3 y4 : Int) (y5 : Row) => some (y3, y5)) n (k1 + 4 * (i : Int)) (i : Int) (mkl k1 i ++ a0.drop i)) (fun i => a0.length - i) (fun i => i ≤ a0.length) (fun _ => some (k1 + 4 * (a0.length : Int), mkl k1 a0.length)) (fun n i hi => by
    have hml := mkl_len k1 i
    by_cases h : i < a0.length
    · right
      refine ⟨i + 1, h, by omega, rfl, ?_⟩
      have e3 : mkl k1 (i + 1) ++ a0.drop (i + 1) = mkl k1 i ++ row (k1 + 4 * (i : Int)) :: a0.drop (i + 1) := by
        unfold mkl; rw [Lib.range_map_succ, List.append_assoc]; rfl
      have eA : k1 + 4 * ((i + 1 : Nat) : Int) = (k1 + 4 * (i : Int)) + 1 + 1 + 1 + 1 := by omega
      show l2 Lib.big _ (n + 1) (k1 + 4 * (i : Int)) (i : Int) (mkl k1 i ++ a0.drop i) = l2 Lib.big _ n (k1 + 4 * ((i + 1 : Nat) : Int)) ((i + 1 : Nat) : Int) (mkl k1 (i + 1) ++ a0.drop (i + 1))
      rw [eA, e3, Lib.drop_cons_of h]
      have hy := hs _ (List.getElem_mem h)
      have hk0 : 0 ≤ k1 + 4 * (i : Int) := by omega
      have hk1 : k1 + 4 * (i : Int) ≤ 2000000000000 := by omega
      generalize k1 + 4 * (i : Int) = k at hk0 hk1
      generalize a0[i] = y at hy
      obtain ⟨y0, y1, y2, y3, rfl⟩ : ∃ y0 y1 y2 y3, y = [y0, y1, y2, y3] := by
        match y, hy with
        | [y0, y1, y2, y3], _ => exact ⟨y0, y1, y2, y3, rfl⟩
      have hd : ∀ z : List CV, decide ((i : Int) < ((mkl k1 i ++ z :: a0.drop (i + 1)).length : Int)) = true := fun z => by
        rw [Lib.len_mid, hml]; exact decide_eq_true (by omega)
      have hi1 : w64 ((i : Int) + 1) = ((i + 1 : Nat) : Int) := Lib.w64_ok (by omega) (by omega)
      simp only [l2, r2, Lib.length_setC, hd, Lib.dle0, Bool.and_self, cond_true, Lib.toN, Lib.setC_mid _ _ _ _ _ _ hml, sp0, sp1, sp2, sp3, Lib.w64_ok (x := k + 1) (by omega) (by omega), Lib.w64_ok (x := k + 1 + 1) (by omega) (by omega), Lib.w64_ok (x := k + 1 + 1 + 1) (by omega) (by omega), Lib.w64_ok (x := k + 1 + 1 + 1 + 1) (by omega) (by omega), Pu.laws_markText.ok (k) (by omega), Pu.laws_markText.ok (k + 1 + 1 + 1) (by omega), hi1]
      rfl
    · left
      have : i = a0.length := by omega
      subst this
      show l2 Lib.big _ (n + 1) (k1 + 4 * (a0.length : Int)) (a0.length : Int) (mkl k1 a0.length ++ a0.drop a0.length) = _
      rw [List.drop_length, List.append_nil]
      simp only [l2, r2, hml, Lib.dlt, Nat.lt_irrefl, decide_false, cond_false]) Lib.big 0 (Nat.zero_le _) (Lib.lt_big (by omega))
  have e0 : mkl k1 0 ++ a0.drop 0 = a0 := rfl
  rw [e0] at this
  simpa using this
theorem ok (a0 : Row) (k1 : Int) (hs : ∀ y ∈ a0, y.length = 4) (hl : a0.length ≤ 4194304) (h0 : 0 ≤ k1) (h1 : k1 ≤ 1000000000000) : c a0 k1 = true ∧ v a0 k1 = (k1 + 4 * (a0.length : Int), mkl k1 a0.length) := out a0 k1 (run a0 k1 hs hl h0 h1)
end Go.FG.Pu.laws_markEntryS

namespace Go.FG.Pu.laws_heldEntryS
theorem run (k1 : Int) (a : Nat) (hl : a ≤ 4194304) (h0 : 0 ≤ k1) (h1 : k1 ≤ 1000000000000) : vo (Pu.laws_markEntryS.mkl k1 a) k1 = some (k1 + 4 * (a : Int)) := by
  have hml := Pu.laws_markEntryS.mkl_len k1 a
  unfold vo b
  have := Lib.loop_gen (fun n (i : Nat) => l2 Lib.big (fun (_ : Row) (_ y6 _ : Int) => some y6) (fun (_ : Row) (y9 _ _ : Int) => some y9) n (Pu.laws_markEntryS.mkl k1 a) (k1 + 4 * (i : Int)) 0 (i : Int)) (fun i => a - i) (fun i => i ≤ a) (fun _ => some (k1 + 4 * (a : Int))) (fun n i hi => by
    by_cases h : i < a
    · right
      refine ⟨i + 1, h, by omega, rfl, ?_⟩
      have eA : k1 + 4 * ((i + 1 : Nat) : Int) = (k1 + 4 * (i : Int)) + 1 + 1 + 1 + 1 := by omega
      show l2 Lib.big _ _ (n + 1) (Pu.laws_markEntryS.mkl k1 a) (k1 + 4 * (i : Int)) 0 (i : Int) = l2 Lib.big _ _ n (Pu.laws_markEntryS.mkl k1 a) (k1 + 4 * ((i + 1 : Nat) : Int)) 0 ((i + 1 : Nat) : Int)
      rw [eA]
      have ce0 : cvS (cellAt (Pu.laws_markEntryS.mkl k1 a) i 0) = Pu.laws_markText.v (k1 + 4 * (i : Int)) := by
        unfold Pu.laws_markEntryS.mkl; rw [Lib.cellAt_rm _ _ _ _ h]; rfl
      have ce1 : cvI (cellAt (Pu.laws_markEntryS.mkl k1 a) i 1) = k1 + 4 * (i : Int) + 1 := by
        unfold Pu.laws_markEntryS.mkl; rw [Lib.cellAt_rm _ _ _ _ h]; rfl
      have ce2 : cvI (cellAt (Pu.laws_markEntryS.mkl k1 a) i 2) = k1 + 4 * (i : Int) + 1 + 1 := by
        unfold Pu.laws_markEntryS.mkl; rw [Lib.cellAt_rm _ _ _ _ h]; rfl
      have ce3 : cvS (cellAt (Pu.laws_markEntryS.mkl k1 a) i 3) = Pu.laws_markText.v (k1 + 4 * (i : Int) + 1 + 1 + 1) := by
        unfold Pu.laws_markEntryS.mkl; rw [Lib.cellAt_rm _ _ _ _ h]; rfl
      have hk0 : 0 ≤ k1 + 4 * (i : Int) := by omega
      have hk1 : k1 + 4 * (i : Int) ≤ 2000000000000 := by omega
      generalize k1 + 4 * (i : Int) = k at *
      have hi1 : w64 ((i : Int) + 1) = ((i + 1 : Nat) : Int) := Lib.w64_ok (by omega) (by omega)
      simp only [l2, r2, hml, Lib.dlt, h, decide_true, Lib.dle0, Bool.and_self, cond_true, Lib.toN, ce0, ce1, ce2, ce3, Lib.w64_ok (x := k + 1) (by omega) (by omega), Lib.w64_ok (x := k + 1 + 1) (by omega) (by omega), Lib.w64_ok (x := k + 1 + 1 + 1) (by omega) (by omega), Lib.w64_ok (x := k + 1 + 1 + 1 + 1) (by omega) (by omega), Pu.laws_markText.ok (k) (by omega), Pu.laws_markText.ok (k + 1 + 1 + 1) (by omega), hi1, bne_self_eq_false, cond_false, Lib.beq_refl_ba, Bool.not_true]
    · left
      have : i = a := by omega
      subst this
      simp only [l2, r2, hml, Lib.dlt, Nat.lt_irrefl, decide_false, cond_false]) Lib.big 0 (Nat.zero_le _) (Lib.lt_big (by omega))
  simpa using this
theorem ok (k1 : Int) (a : Nat) (hl : a ≤ 4194304) (h0 : 0 ≤ k1) (h1 : k1 ≤ 1000000000000) : c (Pu.laws_markEntryS.mkl k1 a) k1 = true ∧ v (Pu.laws_markEntryS.mkl k1 a) k1 = k1 + 4 * (a : Int) := out _ _ (run k1 a hl h0 h1)
end Go.FG.Pu.laws_heldEntryS

namespace Go.FG.Pu.laws_heldStringS
theorem run (k1 : Int) (a : Nat) (hl : a ≤ 4194304) (h0 : 0 ≤ k1) (h1 : k1 ≤ 1000000000000) : vo (Pu.laws_markStringS.mkl k1 a) k1 = some (k1 + 1 * (a : Int)) := by
  have hml := Pu.laws_markStringS.mkl_len k1 a
  unfold vo b
  have := Lib.loop_gen (fun n (i : Nat) => l2 Lib.big (fun (_ : Row) (_ y6 _ : Int) => some y6) (fun (_ : Row) (y9 _ _ : Int) => some y9) n (Pu.laws_markStringS.mkl k1 a) (k1 + 1 * (i : Int)) 0 (i : Int)) (fun i => a - i) (fun i => i ≤ a) (fun _ => some (k1 + 1 * (a : Int))) (fun n i hi => by
    by_cases h : i < a
    · right
      refine ⟨i + 1, h, by omega, rfl, ?_⟩
      have eA : k1 + 1 * ((i + 1 : Nat) : Int) = (k1 + 1 * (i : Int)) + 1 := by omega
      show l2 Lib.big _ _ (n + 1) (Pu.laws_markStringS.mkl k1 a) (k1 + 1 * (i : Int)) 0 (i : Int) = l2 Lib.big _ _ n (Pu.laws_markStringS.mkl k1 a) (k1 + 1 * ((i + 1 : Nat) : Int)) 0 ((i + 1 : Nat) : Int)
      rw [eA]
      have ce0 : cvS (cellAt (Pu.laws_markStringS.mkl k1 a) i 0) = Pu.laws_markText.v (k1 + 1 * (i : Int)) := by
        unfold Pu.laws_markStringS.mkl; rw [Lib.cellAt_rm _ _ _ _ h]; rfl
      have hk0 : 0 ≤ k1 + 1 * (i : Int) := by omega
      have hk1 : k1 + 1 * (i : Int) ≤ 2000000000000 := by omega
      generalize k1 + 1 * (i : Int) = k at *
      have hi1 : w64 ((i : Int) + 1) = ((i + 1 : Nat) : Int) := Lib.w64_ok (by omega) (by omega)
      simp only [l2, r2, hml, Lib.dlt, h, decide_true, Lib.dle0, Bool.and_self, cond_true, Lib.toN, ce0, Lib.w64_ok (x := k + 1) (by omega) (by omega), Pu.laws_markText.ok (k) (by omega), hi1, bne_self_eq_false, cond_false, Lib.beq_refl_ba, Bool.not_true]
    · left
      have : i = a := by omega
      subst this
      simp only [l2, r2, hml, Lib.dlt, Nat.lt_irrefl, decide_false, cond_false]) Lib.big 0 (Nat.zero_le _) (Lib.lt_big (by omega))
  simpa using this
theorem ok (k1 : Int) (a : Nat) (hl : a ≤ 4194304) (h0 : 0 ≤ k1) (h1 : k1 ≤ 1000000000000) : c (Pu.laws_markStringS.mkl k1 a) k1 = true ∧ v (Pu.laws_markStringS.mkl k1 a) k1 = k1 + 1 * (a : Int) := out _ _ (run k1 a hl h0 h1)
end Go.FG.Pu.laws_heldStringS

namespace Go.FG.Pu.laws_heldSketch
open Pu.laws_markIntSS (mkk sm)
theorem ok (a k : Int) (l : List Nat) (hl : l.length ≤ 4194304) (ht : sm l ≤ 4194304) (h0 : 0 ≤ k) (h1 : k ≤ 500000000000) : c (mkk k l) a k = true ∧ v (mkk k l) a k = k + sm l := by
  have h := Pu.laws_heldIntSS.ok k l hl ht h0 h1
  have hn := Pu.laws_heldIntSS.sm_nn l
  exact out _ _ _ (by unfold vo b; rw [h.1, h.2, cond_true, decide_eq_false (show ¬ k + sm l < 0 by omega), cond_false])
end Go.FG.Pu.laws_heldSketch

namespace Go.FG.Pu.laws_heldPolicy
open Pu.laws_markIntSS (mkk sm)
open Pu.laws_markPolicy (n1)
theorem ok (a k : Int) (w m : Nat) (l : List Nat) (hw : w ≤ 2097152) (hm : m ≤ 2097152) (hl : l.length ≤ 4194304) (ht : sm l ≤ 4194304) (h0 : 0 ≤ k) (h1 : k ≤ 400000000000) :
    c (Pu.laws_markStringS.mkl k w) (Pu.laws_markStringS.mkl (n1 k w) m) (mkk (n1 (n1 k w) m) l) a k = true ∧ v (Pu.laws_markStringS.mkl k w) (Pu.laws_markStringS.mkl (n1 k w) m) (mkk (n1 (n1 k w) m) l) a k = n1 (n1 k w) m + sm l := by
  have a1 := Pu.laws_heldStringS.ok k w (by omega) h0 (by omega)
  have a2 := Pu.laws_heldStringS.ok (n1 k w) m (by omega) (by unfold n1; omega) (by unfold n1; omega)
  have a3 := Pu.laws_heldSketch.ok a (n1 (n1 k w) m) l hl ht (by unfold n1; omega) (by unfold n1; omega)
  have hn := Pu.laws_heldIntSS.sm_nn l
  unfold n1 at a2 a3 ⊢
  exact out _ _ _ _ _ (by unfold vo b; simp only [a1.1, a1.2, a2.1, a2.2, a3.1, a3.2, cond_true, cond_false, decide_eq_false (show ¬ k + 1 * (w : Int) < 0 by omega), decide_eq_false (show ¬ k + 1 * (w : Int) + 1 * (m : Int) < 0 by omega), decide_eq_false (show ¬ k + 1 * (w : Int) + 1 * (m : Int) + sm l < 0 by omega)])
end Go.FG.Pu.laws_heldPolicy

namespace Go.FG.Pu.laws_markFetchS
def row (k : Int) : List CV := [CV.s (Pu.laws_markText.v (k)), CV.s (Pu.laws_markText.v (k + 1)), CV.i IntKind.i64 (k + 1 + 1), CV.i IntKind.i64 (k + 1 + 1 + 1), CV.i IntKind.i64 (k + 1 + 1 + 1 + 1)]
def mkl (k : Int) (n : Nat) : Row := (List.range n).map fun (j : Nat) => row (k + 5 * (j : Int))
theorem mkl_len (k : Int) (n : Nat) : (mkl k n).length = n := by unfold mkl; simp
theorem mkl_sh (k : Int) (n : Nat) : ∀ y ∈ mkl k n, y.length = 5 := by
  intro y hy; unfold mkl at hy; obtain ⟨j, _, rfl⟩ := List.mem_map.1 hy; rfl
theorem sp0 (y0 y1 y2 y3 y4 x : CV) : splice [y0, y1, y2, y3, y4] 0 [x] = [x, y1, y2, y3, y4] := rfl
theorem sp1 (y0 y1 y2 y3 y4 x : CV) : splice [y0, y1, y2, y3, y4] 1 [x] = [y0, x, y2, y3, y4] := rfl
theorem sp2 (y0 y1 y2 y3 y4 x : CV) : splice [y0, y1, y2, y3, y4] 2 [x] = [y0, y1, x, y3, y4] := rfl
theorem sp3 (y0 y1 y2 y3 y4 x : CV) : splice [y0, y1, y2, y3, y4] 3 [x] = [y0, y1, y2, x, y4] := rfl
theorem sp4 (y0 y1 y2 y3 y4 x : CV) : splice [y0, y1, y2, y3, y4] 4 [x] = [y0, y1, y2, y3, x] := rfl
theorem run (a0 : Row) (k1 : Int) (hs : ∀ y ∈ a0, y.length = 5) (hl : a0.length ≤ 4194304) (h0 : 0 ≤ k1) (h1 : k1 ≤ 1000000000000) : vo a0 k1 = some (k1 + 5 * (a0.length : Int), mkl k1 a0.length) := by
  unfold vo b
  have := Lib.loop_gen (fun n (i : Nat) => l2 Lib.big (fun (y3 y4 : Int) (y5 : Row) => some (y3, y5)) n (k1 + 5 * (i : Int)) (i : Int) (mkl k1 i ++ a0.drop i)) (fun i => a0.length - i) (fun i => i ≤ a0.length) (fun _ => some (k1 + 5 * (a0.length : Int), mkl k1 a0.length)) (fun n i hi => by
    have hml := mkl_len k1 i
    by_cases h : i < a0.length
    · right
      refine ⟨i + 1, h, by omega, rfl, ?_⟩
      have e3 : mkl k1 (i + 1) ++ a0.drop (i + 1) = mkl k1 i ++ row (k1 + 5 * (i : Int)) :: a0.drop (i + 1) := by
        unfold mkl; rw [Lib.range_map_succ, List.append_assoc]; rfl
      have eA : k1 + 5 * ((i + 1 : Nat) : Int) = (k1 + 5 * (i : Int)) + 1 + 1 + 1 + 1 + 1 := by omega
      show l2 Lib.big _ (n + 1) (k1 + 5 * (i : Int)) (i : Int) (mkl k1 i ++ a0.drop i) = l2 Lib.big _ n (k1 + 5 * ((i + 1 : Nat) : Int)) ((i + 1 : Nat) : Int) (mkl k1 (i + 1) ++ a0.drop (i + 1))
      rw [eA, e3, Lib.drop_cons_of h]
      have hy := hs _ (List.getElem_mem h)
      have hk0 : 0 ≤ k1 + 5 * (i : Int) := by omega
      have hk1 : k1 + 5 * (i : Int) ≤ 2000000000000 := by omega
      generalize k1 + 5 * (i : Int) = k at hk0 hk1
      generalize a0[i] = y at hy
      obtain ⟨y0, y1, y2, y3, y4, rfl⟩ : ∃ y0 y1 y2 y3 y4, y = [y0, y1, y2, y3, y4] := by
        match y, hy with
        | [y0, y1, y2, y3, y4], _ => exact ⟨y0, y1, y2, y3, y4, rfl⟩
      have hd : ∀ z : List CV, decide ((i : Int) < ((mkl k1 i ++ z :: a0.drop (i + 1)).length : Int)) = true := fun z => by
        rw [Lib.len_mid, hml]; exact decide_eq_true (by omega)
      have hi1 : w64 ((i : Int) + 1) = ((i + 1 : Nat) : Int) := Lib.w64_ok (by omega) (by omega)
      simp only [l2, r2, Lib.length_setC, hd, Lib.dle0, Bool.and_self, cond_true, Lib.toN, Lib.setC_mid _ _ _ _ _ _ hml, sp0, sp1, sp2, sp3, sp4, Lib.w64_ok (x := k + 1) (by omega) (by omega), Lib.w64_ok (x := k + 1 + 1) (by omega) (by omega), Lib.w64_ok (x := k + 1 + 1 + 1) (by omega) (by omega), Lib.w64_ok (x := k + 1 + 1 + 1 + 1) (by omega) (by omega), Lib.w64_ok (x := k + 1 + 1 + 1 + 1 + 1) (by omega) (by omega), Pu.laws_markText.ok (k) (by omega), Pu.laws_markText.ok (k + 1) (by omega), hi1]
      rfl
    · left
      have : i = a0.length := by omega
      subst this
      show l2 Lib.big _ (n + 1) (k1 + 5 * (a0.length : Int)) (a0.length : Int) (mkl k1 a0.length ++ a0.drop a0.length) = _
      rw [List.drop_length, List.append_nil]
      simp only [l2, r2, hml, Lib.dlt, Nat.lt_irrefl, decide_false, cond_false]) Lib.big 0 (Nat.zero_le _) (Lib.lt_big (by omega))
  have e0 : mkl k1 0 ++ a0.drop 0 = a0 := rfl
  rw [e0] at this
  simpa using this
theorem ok (a0 : Row) (k1 : Int) (hs : ∀ y ∈ a0, y.length = 5) (hl : a0.length ≤ 4194304) (h0 : 0 ≤ k1) (h1 : k1 ≤ 1000000000000) : c a0 k1 = true ∧ v a0 k1 = (k1 + 5 * (a0.length : Int), mkl k1 a0.length) := out a0 k1 (run a0 k1 hs hl h0 h1)
end Go.FG.Pu.laws_markFetchS

namespace Go.FG.Pu.laws_heldFetchS
theorem run (k1 : Int) (a : Nat) (hl : a ≤ 4194304) (h0 : 0 ≤ k1) (h1 : k1 ≤ 1000000000000) : vo (Pu.laws_markFetchS.mkl k1 a) k1 = some (k1 + 5 * (a : Int)) := by
  have hml := Pu.laws_markFetchS.mkl_len k1 a
  unfold vo b
  have := Lib.loop_gen (fun n (i : Nat) => l2 Lib.big (fun (_ : Row) (_ y6 _ : Int) => some y6) (fun (_ : Row) (y9 _ _ : Int) => some y9) n (Pu.laws_markFetchS.mkl k1 a) (k1 + 5 * (i : Int)) 0 (i : Int)) (fun i => a - i) (fun i => i ≤ a) (fun _ => some (k1 + 5 * (a : Int))) (fun n i hi => by
    by_cases h : i < a
    · right
      refine ⟨i + 1, h, by omega, rfl, ?_⟩
      have eA : k1 + 5 * ((i + 1 : Nat) : Int) = (k1 + 5 * (i : Int)) + 1 + 1 + 1 + 1 + 1 := by omega
      show l2 Lib.big _ _ (n + 1) (Pu.laws_markFetchS.mkl k1 a) (k1 + 5 * (i : Int)) 0 (i : Int) = l2 Lib.big _ _ n (Pu.laws_markFetchS.mkl k1 a) (k1 + 5 * ((i + 1 : Nat) : Int)) 0 ((i + 1 : Nat) : Int)
      rw [eA]
      have ce0 : cvS (cellAt (Pu.laws_markFetchS.mkl k1 a) i 0) = Pu.laws_markText.v (k1 + 5 * (i : Int)) := by
        unfold Pu.laws_markFetchS.mkl; rw [Lib.cellAt_rm _ _ _ _ h]; rfl
      have ce1 : cvS (cellAt (Pu.laws_markFetchS.mkl k1 a) i 1) = Pu.laws_markText.v (k1 + 5 * (i : Int) + 1) := by
        unfold Pu.laws_markFetchS.mkl; rw [Lib.cellAt_rm _ _ _ _ h]; rfl
      have ce2 : cvI (cellAt (Pu.laws_markFetchS.mkl k1 a) i 2) = k1 + 5 * (i : Int) + 1 + 1 := by
        unfold Pu.laws_markFetchS.mkl; rw [Lib.cellAt_rm _ _ _ _ h]; rfl
      have ce3 : cvI (cellAt (Pu.laws_markFetchS.mkl k1 a) i 3) = k1 + 5 * (i : Int) + 1 + 1 + 1 := by
        unfold Pu.laws_markFetchS.mkl; rw [Lib.cellAt_rm _ _ _ _ h]; rfl
      have ce4 : cvI (cellAt (Pu.laws_markFetchS.mkl k1 a) i 4) = k1 + 5 * (i : Int) + 1 + 1 + 1 + 1 := by
        unfold Pu.laws_markFetchS.mkl; rw [Lib.cellAt_rm _ _ _ _ h]; rfl
      have hk0 : 0 ≤ k1 + 5 * (i : Int) := by omega
      have hk1 : k1 + 5 * (i : Int) ≤ 2000000000000 := by omega
      generalize k1 + 5 * (i : Int) = k at *
      have hi1 : w64 ((i : Int) + 1) = ((i + 1 : Nat) : Int) := Lib.w64_ok (by omega) (by omega)
      simp only [l2, r2, hml, Lib.dlt, h, decide_true, Lib.dle0, Bool.and_self, cond_true, Lib.toN, ce0, ce1, ce2, ce3, ce4, Lib.w64_ok (x := k + 1) (by omega) (by omega), Lib.w64_ok (x := k + 1 + 1) (by omega) (by omega), Lib.w64_ok (x := k + 1 + 1 + 1) (by omega) (by omega), Lib.w64_ok (x := k + 1 + 1 + 1 + 1) (by omega) (by omega), Lib.w64_ok (x := k + 1 + 1 + 1 + 1 + 1) (by omega) (by omega), Pu.laws_markText.ok (k) (by omega), Pu.laws_markText.ok (k + 1) (by omega), hi1, bne_self_eq_false, cond_false, Lib.beq_refl_ba, Bool.not_true]
    · left
      have : i = a := by omega
      subst this
      simp only [l2, r2, hml, Lib.dlt, Nat.lt_irrefl, decide_false, cond_false]) Lib.big 0 (Nat.zero_le _) (Lib.lt_big (by omega))
  simpa using this
theorem ok (k1 : Int) (a : Nat) (hl : a ≤ 4194304) (h0 : 0 ≤ k1) (h1 : k1 ≤ 1000000000000) : c (Pu.laws_markFetchS.mkl k1 a) k1 = true ∧ v (Pu.laws_markFetchS.mkl k1 a) k1 = k1 + 5 * (a : Int) := out _ _ (run k1 a hl h0 h1)
end Go.FG.Pu.laws_heldFetchS

namespace Go.FG.Pu.laws_markClientS
def row (k : Int) : List CV := [CV.i IntKind.i64 (k), CV.s (Pu.laws_markText.v (k + 1)), CV.i IntKind.i64 (k + 1 + 1), CV.i IntKind.i64 (k + 1 + 1 + 1), CV.i IntKind.i64 (k + 1 + 1 + 1 + 1), CV.s (Pu.laws_markText.v (k + 1 + 1 + 1 + 1 + 1)), CV.i IntKind.i64 (k + 1 + 1 + 1 + 1 + 1 + 1)]
def mkl (k : Int) (n : Nat) : Row := (List.range n).map fun (j : Nat) => row (k + 7 * (j : Int))
theorem mkl_len (k : Int) (n : Nat) : (mkl k n).length = n := by unfold mkl; simp
theorem mkl_sh (k : Int) (n : Nat) : ∀ y ∈ mkl k n, y.length = 7 := by
  intro y hy; unfold mkl at hy; obtain ⟨j, _, rfl⟩ := List.mem_map.1 hy; rfl
theorem sp0 (y0 y1 y2 y3 y4 y5 y6 x : CV) : splice [y0, y1, y2, y3, y4, y5, y6] 0 [x] = [x, y1, y2, y3, y4, y5, y6] := rfl
theorem sp1 (y0 y1 y2 y3 y4 y5 y6 x : CV) : splice [y0, y1, y2, y3, y4, y5, y6] 1 [x] = [y0, x, y2, y3, y4, y5, y6] := rfl
theorem sp2 (y0 y1 y2 y3 y4 y5 y6 x : CV) : splice [y0, y1, y2, y3, y4, y5, y6] 2 [x] = [y0, y1, x, y3, y4, y5, y6] := rfl
theorem sp3 (y0 y1 y2 y3 y4 y5 y6 x : CV) : splice [y0, y1, y2, y3, y4, y5, y6] 3 [x] = [y0, y1, y2, x, y4, y5, y6] := rfl
theorem sp4 (y0 y1 y2 y3 y4 y5 y6 x : CV) : splice [y0, y1, y2, y3, y4, y5, y6] 4 [x] = [y0, y1, y2, y3, x, y5, y6] := rfl
theorem sp5 (y0 y1 y2 y3 y4 y5 y6 x : CV) : splice [y0, y1, y2, y3, y4, y5, y6] 5 [x] = [y0, y1, y2, y3, y4, x, y6] := rfl
theorem sp6 (y0 y1 y2 y3 y4 y5 y6 x : CV) : splice [y0, y1, y2, y3, y4, y5, y6] 6 [x] = [y0, y1, y2, y3, y4, y5, x] := rfl
theorem run (a0 : Row) (k1 : Int) (hs : ∀ y ∈ a0, y.length = 7) (hl : a0.length ≤ 4194304) (h0 : 0 ≤ k1) (h1 : k1 ≤ 1000000000000) : vo a0 k1 = some (k1 + 7 * (a0.length : Int), mkl k1 a0.length) := by
  unfold vo b
  have := Lib.loop_gen (fun n (i : Nat) => l2 Lib.big (fun (y3 y4 : Int) (y5 : Row) => some (y3, y5)) n (k1 + 7 * (i : Int)) (i : Int) (mkl k1 i ++ a0.drop i)) (fun i => a0.length - i) (fun i => i ≤ a0.length) (fun _ => some (k1 + 7 * (a0.length : Int), mkl k1 a0.length)) (fun n i hi => by
    have hml := mkl_len k1 i
    by_cases h : i < a0.length
    · right
      refine ⟨i + 1, h, by omega, rfl, ?_⟩
      have e3 : mkl k1 (i + 1) ++ a0.drop (i + 1) = mkl k1 i ++ row (k1 + 7 * (i : Int)) :: a0.drop (i + 1) := by
        unfold mkl; rw [Lib.range_map_succ, List.append_assoc]; rfl
      have eA : k1 + 7 * ((i + 1 : Nat) : Int) = (k1 + 7 * (i : Int)) + 1 + 1 + 1 + 1 + 1 + 1 + 1 := by omega
      show l2 Lib.big _ (n + 1) (k1 + 7 * (i : Int)) (i : Int) (mkl k1 i ++ a0.drop i) = l2 Lib.big _ n (k1 + 7 * ((i + 1 : Nat) : Int)) ((i + 1 : Nat) : Int) (mkl k1 (i + 1) ++ a0.drop (i + 1))
      rw [eA, e3, Lib.drop_cons_of h]
      have hy := hs _ (List.getElem_mem h)
      have hk0 : 0 ≤ k1 + 7 * (i : Int) := by omega
      have hk1 : k1 + 7 * (i : Int) ≤ 2000000000000 := by omega
      generalize k1 + 7 * (i : Int) = k at hk0 hk1
      generalize a0[i] = y at hy
      obtain ⟨y0, y1, y2, y3, y4, y5, y6, rfl⟩ : ∃ y0 y1 y2 y3 y4 y5 y6, y = [y0, y1, y2, y3, y4, y5, y6] := by
        match y, hy with
        | [y0, y1, y2, y3, y4, y5, y6], _ => exact ⟨y0, y1, y2, y3, y4, y5, y6, rfl⟩
      have hd : ∀ z : List CV, decide ((i : Int) < ((mkl k1 i ++ z :: a0.drop (i + 1)).length : Int)) = true := fun z => by
        rw [Lib.len_mid, hml]; exact decide_eq_true (by omega)
      have hi1 : w64 ((i : Int) + 1) = ((i + 1 : Nat) : Int) := Lib.w64_ok (by omega) (by omega)
      simp only [l2, r2, Lib.length_setC, hd, Lib.dle0, Bool.and_self, cond_true, Lib.toN, Lib.setC_mid _ _ _ _ _ _ hml, sp0, sp1, sp2, sp3, sp4, sp5, sp6, Lib.w64_ok (x := k + 1) (by omega) (by omega), Lib.w64_ok (x := k + 1 + 1) (by omega) (by omega), Lib.w64_ok (x := k + 1 + 1 + 1) (by omega) (by omega), Lib.w64_ok (x := k + 1 + 1 + 1 + 1) (by omega) (by omega), Lib.w64_ok (x := k + 1 + 1 + 1 + 1 + 1) (by omega) (by omega), Lib.w64_ok (x := k + 1 + 1 + 1 + 1 + 1 + 1) (by omega) (by omega), Lib.w64_ok (x := k + 1 + 1 + 1 + 1 + 1 + 1 + 1) (by omega) (by omega), Pu.laws_markText.ok (k + 1) (by omega), Pu.laws_markText.ok (k + 1 + 1 + 1 + 1 + 1) (by omega), hi1]
      rfl
    · left
      have : i = a0.length := by omega
      subst this
      show l2 Lib.big _ (n + 1) (k1 + 7 * (a0.length : Int)) (a0.length : Int) (mkl k1 a0.length ++ a0.drop a0.length) = _
      rw [List.drop_length, List.append_nil]
      simp only [l2, r2, hml, Lib.dlt, Nat.lt_irrefl, decide_false, cond_false]) Lib.big 0 (Nat.zero_le _) (Lib.lt_big (by omega))
  have e0 : mkl k1 0 ++ a0.drop 0 = a0 := rfl
  rw [e0] at this
  simpa using this
theorem ok (a0 : Row) (k1 : Int) (hs : ∀ y ∈ a0, y.length = 7) (hl : a0.length ≤ 4194304) (h0 : 0 ≤ k1) (h1 : k1 ≤ 1000000000000) : c a0 k1 = true ∧ v a0 k1 = (k1 + 7 * (a0.length : Int), mkl k1 a0.length) := out a0 k1 (run a0 k1 hs hl h0 h1)
end Go.FG.Pu.laws_markClientS

namespace Go.FG.Pu.laws_heldClientS
theorem run (k1 : Int) (a : Nat) (hl : a ≤ 4194304) (h0 : 0 ≤ k1) (h1 : k1 ≤ 1000000000000) : vo (Pu.laws_markClientS.mkl k1 a) k1 = some (k1 + 7 * (a : Int)) := by
  have hml := Pu.laws_markClientS.mkl_len k1 a
  unfold vo b
  have := Lib.loop_gen (fun n (i : Nat) => l2 Lib.big (fun (_ : Row) (_ y6 _ : Int) => some y6) (fun (_ : Row) (y9 _ _ : Int) => some y9) n (Pu.laws_markClientS.mkl k1 a) (k1 + 7 * (i : Int)) 0 (i : Int)) (fun i => a - i) (fun i => i ≤ a) (fun _ => some (k1 + 7 * (a : Int))) (fun n i hi => by
    by_cases h : i < a
    · right
      refine ⟨i + 1, h, by omega, rfl, ?_⟩
      have eA : k1 + 7 * ((i + 1 : Nat) : Int) = (k1 + 7 * (i : Int)) + 1 + 1 + 1 + 1 + 1 + 1 + 1 := by omega
      show l2 Lib.big _ _ (n + 1) (Pu.laws_markClientS.mkl k1 a) (k1 + 7 * (i : Int)) 0 (i : Int) = l2 Lib.big _ _ n (Pu.laws_markClientS.mkl k1 a) (k1 + 7 * ((i + 1 : Nat) : Int)) 0 ((i + 1 : Nat) : Int)
      rw [eA]
      have ce0 : cvI (cellAt (Pu.laws_markClientS.mkl k1 a) i 0) = k1 + 7 * (i : Int) := by
        unfold Pu.laws_markClientS.mkl; rw [Lib.cellAt_rm _ _ _ _ h]; rfl
      have ce1 : cvS (cellAt (Pu.laws_markClientS.mkl k1 a) i 1) = Pu.laws_markText.v (k1 + 7 * (i : Int) + 1) := by
        unfold Pu.laws_markClientS.mkl; rw [Lib.cellAt_rm _ _ _ _ h]; rfl
      have ce2 : cvI (cellAt (Pu.laws_markClientS.mkl k1 a) i 2) = k1 + 7 * (i : Int) + 1 + 1 := by
        unfold Pu.laws_markClientS.mkl; rw [Lib.cellAt_rm _ _ _ _ h]; rfl
      have ce3 : cvI (cellAt (Pu.laws_markClientS.mkl k1 a) i 3) = k1 + 7 * (i : Int) + 1 + 1 + 1 := by
        unfold Pu.laws_markClientS.mkl; rw [Lib.cellAt_rm _ _ _ _ h]; rfl
      have ce4 : cvI (cellAt (Pu.laws_markClientS.mkl k1 a) i 4) = k1 + 7 * (i : Int) + 1 + 1 + 1 + 1 := by
        unfold Pu.laws_markClientS.mkl; rw [Lib.cellAt_rm _ _ _ _ h]; rfl
      have ce5 : cvS (cellAt (Pu.laws_markClientS.mkl k1 a) i 5) = Pu.laws_markText.v (k1 + 7 * (i : Int) + 1 + 1 + 1 + 1 + 1) := by
        unfold Pu.laws_markClientS.mkl; rw [Lib.cellAt_rm _ _ _ _ h]; rfl
      have ce6 : cvI (cellAt (Pu.laws_markClientS.mkl k1 a) i 6) = k1 + 7 * (i : Int) + 1 + 1 + 1 + 1 + 1 + 1 := by
        unfold Pu.laws_markClientS.mkl; rw [Lib.cellAt_rm _ _ _ _ h]; rfl
      have hk0 : 0 ≤ k1 + 7 * (i : Int) := by omega
      have hk1 : k1 + 7 * (i : Int) ≤ 2000000000000 := by omega
      generalize k1 + 7 * (i : Int) = k at *
      have hi1 : w64 ((i : Int) + 1) = ((i + 1 : Nat) : Int) := Lib.w64_ok (by omega) (by omega)
      simp only [l2, r2, hml, Lib.dlt, h, decide_true, Lib.dle0, Bool.and_self, cond_true, Lib.toN, ce0, ce1, ce2, ce3, ce4, ce5, ce6, Lib.w64_ok (x := k + 1) (by omega) (by omega), Lib.w64_ok (x := k + 1 + 1) (by omega) (by omega), Lib.w64_ok (x := k + 1 + 1 + 1) (by omega) (by omega), Lib.w64_ok (x := k + 1 + 1 + 1 + 1) (by omega) (by omega), Lib.w64_ok (x := k + 1 + 1 + 1 + 1 + 1) (by omega) (by omega), Lib.w64_ok (x := k + 1 + 1 + 1 + 1 + 1 + 1) (by omega) (by omega), Lib.w64_ok (x := k + 1 + 1 + 1 + 1 + 1 + 1 + 1) (by omega) (by omega), Pu.laws_markText.ok (k + 1) (by omega), Pu.laws_markText.ok (k + 1 + 1 + 1 + 1 + 1) (by omega), hi1, bne_self_eq_false, cond_false, Lib.beq_refl_ba, Bool.not_true]
    · left
      have : i = a := by omega
      subst this
      simp only [l2, r2, hml, Lib.dlt, Nat.lt_irrefl, decide_false, cond_false]) Lib.big 0 (Nat.zero_le _) (Lib.lt_big (by omega))
  simpa using this
theorem ok (k1 : Int) (a : Nat) (hl : a ≤ 4194304) (h0 : 0 ≤ k1) (h1 : k1 ≤ 1000000000000) : c (Pu.laws_markClientS.mkl k1 a) k1 = true ∧ v (Pu.laws_markClientS.mkl k1 a) k1 = k1 + 7 * (a : Int) := out _ _ (run k1 a hl h0 h1)
end Go.FG.Pu.laws_heldClientS

namespace Go.FG.Pu.laws_heldProxy
open Lib (rr rs re rf rc Px)
open Pu.laws_markIntSS (mkk sm lens)
open Pu.laws_markPolicy (n1)
theorem re_sh (l : List Lib.En) : ∀ y ∈ re l, y.length = 4 := by
  intro y hy; unfold Lib.re at hy; obtain ⟨z, _, rfl⟩ := List.mem_map.1 hy; rfl
theorem rf_sh (l : List Lib.Fe) : ∀ y ∈ rf l, y.length = 5 := by
  intro y hy; unfold Lib.rf at hy; obtain ⟨z, _, rfl⟩ := List.mem_map.1 hy; rfl
theorem rc_sh (l : List Lib.Cl) : ∀ y ∈ rc l, y.length = 7 := by
  intro y hy; unfold Lib.rc at hy; obtain ⟨z, _, rfl⟩ := List.mem_map.1 hy; rfl
/-- What is marked is found marked. -/
theorem both (p : Px) (hp : p.Fit 2000000) : ∃ (K : Int) (A1 A2 A3 A4 A5 A6 : Row), 0 ≤ K ∧
    (Pu.laws_markProxy.c p.now (re p.en) (rs p.w) (rs p.m) (rr p.s) p.a (rf p.fe) (rc p.cl) p.hits 1 = true ∧ Pu.laws_markProxy.v p.now (re p.en) (rs p.w) (rs p.m) (rr p.s) p.a (rf p.fe) (rc p.cl) p.hits 1 = (K, A1, A2, A3, A4, A5, A6)) ∧
    ∀ (x y z : Int), c x A1 A2 A3 A4 y A5 A6 z 1 = true ∧ v x A1 A2 A3 A4 y A5 A6 z 1 = K := by
  have he := hp.en
  have hw := hp.w
  have hm := hp.m
  have hs := hp.s.1
  have ht : sm (lens p.s) ≤ 2000000 := by
    have := hp.s.2.2
    unfold sm lens; omega
  have hf := hp.fe
  have hc := hp.cl
  have nn := Pu.laws_heldIntSS.sm_nn (lens p.s)
  have hll : (lens p.s).length ≤ 4194304 := by unfold lens; rw [List.length_map]; omega
  have a1 := Pu.laws_markEntryS.ok (re p.en) 1 (re_sh _) (by rw [Lib.re_len]; omega) (by omega) (by omega)
  have b1 := Pu.laws_heldEntryS.ok 1 p.en.length (by omega) (by omega) (by omega)
  rw [Lib.re_len] at a1
  generalize hk1 : 1 + 4 * (p.en.length : Int) = k1 at a1 b1
  have a2 := Pu.laws_markPolicy.ok p.w p.m p.s p.a k1 (by omega) (by omega) (by omega) (by omega) (by omega) (by omega)
  have b2 := fun y => Pu.laws_heldPolicy.ok y k1 p.w.length p.m.length (lens p.s) (by omega) (by omega) hll (by omega) (by omega) (by omega)
  have hk2' : 0 ≤ n1 (n1 k1 p.w.length) p.m.length + sm (lens p.s) ∧ n1 (n1 k1 p.w.length) p.m.length + sm (lens p.s) ≤ 100000000 := by unfold n1; omega
  generalize hk2 : n1 (n1 k1 p.w.length) p.m.length + sm (lens p.s) = k2 at a2 b2 hk2'
  have a3 := Pu.laws_markFetchS.ok (rf p.fe) k2 (rf_sh _) (by rw [Lib.rf_len]; omega) (by omega) (by omega)
  have b3 := Pu.laws_heldFetchS.ok k2 p.fe.length (by omega) (by omega) (by omega)
  rw [Lib.rf_len] at a3
  generalize hk3 : k2 + 5 * (p.fe.length : Int) = k3 at a3 b3
  have a4 := Pu.laws_markClientS.ok (rc p.cl) k3 (rc_sh _) (by rw [Lib.rc_len]; omega) (by omega) (by omega)
  have b4 := Pu.laws_heldClientS.ok k3 p.cl.length (by omega) (by omega) (by omega)
  rw [Lib.rc_len] at a4
  generalize hk4 : k3 + 7 * (p.cl.length : Int) = k4 at a4 b4
  refine ⟨k4, _, _, _, _, _, _, by omega, Pu.laws_markProxy.out _ _ _ _ _ _ _ _ _ _ (by
    unfold Pu.laws_markProxy.vo Pu.laws_markProxy.b
    simp only [a1.1, a1.2, a2.1, a2.2, a3.1, a3.2, a4.1, a4.2, cond_true]; rfl), fun x y z => out _ _ _ _ _ _ _ _ _ _ (by
    unfold vo b
    have q1 : decide (k1 < 0) = false := decide_eq_false (by omega)
    have q2 : decide (k2 < 0) = false := decide_eq_false (by omega)
    have q3 : decide (k3 < 0) = false := decide_eq_false (by omega)
    have q4 : decide (k4 < 0) = false := decide_eq_false (by omega)
    simp only [b1.1, b1.2, (b2 y).1, (b2 y).2, b3.1, b3.2, b4.1, b4.2, q1, q2, q3, q4, cond_true, cond_false])⟩
end Go.FG.Pu.laws_heldProxy

namespace Go.FG.Pu.laws_FnExactLeaveClient
open Lib (rr rs re rf rc Px)
theorem run (i0 : Int) (r1 r2 r3 r4 : Row) (i5 : Int) (r6 r7 : Row) (i8 n : Int) (f1 : FitR r1) (f2 : FitR r2) (f3 : FitR r3) (f4 : FitR r4) (f6 : FitR r6) (f7 : FitR r7) : vo i0 r1 r2 r3 r4 i5 r6 r7 i8 n = some true := by
  unfold vo b
  obtain ⟨z1, z2, z3⟩ := Pu.laws_szProxy.ok i0 r1 r2 r3 r4 i5 r6 r7 i8 1048576 (by omega) (by omega) f1 f2 f3 f4 f6 f7
  rw [z1, cond_true]
  by_cases h : Pu.laws_szProxy.v i0 r1 r2 r3 r4 i5 r6 r7 i8 1048576 < 0
  · rw [decide_eq_true h]; rfl
  rw [decide_eq_false h, cond_false]
  obtain ⟨p, hp, t1, t2⟩ := Pu.laws_toProxy.abs i0 r1 r2 r3 r4 i5 r6 r7 i8 (z3 (by omega))
  have S := Pu.spec_LeaveClient.ok p n hp
  have I := Pu.impl_LeaveClient.ok p n hp
  have hq : (Pu.spec_LeaveClient.val p n).Fit 1048576 := ⟨hp.en, hp.w, hp.m, hp.s, hp.fe, Nat.le_trans (List.length_filter_le ..) hp.cl⟩
  have a1 := Pu.laws_eqProxy.refl p hp
  have a2 := Pu.laws_eqProxy.refl (Pu.spec_LeaveClient.val p n) hq
  obtain ⟨K, A1, A2, A3, A4, A5, A6, k0, ⟨m1, m2⟩, _⟩ := Pu.laws_heldProxy.both p (hp.le (by omega))
  obtain ⟨L, B1, B2, B3, B4, B5, B6, l0, ⟨n1, n2⟩, n3⟩ := Pu.laws_heldProxy.both (Pu.spec_LeaveClient.val p n) (hq.le (by omega))
  have d1 : decide (K < 0) = false := decide_eq_false (by omega)
  have d2 : decide (L < 0) = false := decide_eq_false (by omega)
  change Pu.laws_eqProxy.c p.now (re p.en) (rs p.w) (rs p.m) (rr p.s) p.a (rf p.fe) (rc (Pu.spec_LeaveClient.val p n).cl) p.hits p.now (re p.en) (rs p.w) (rs p.m) (rr p.s) p.a (rf p.fe) (rc (Pu.spec_LeaveClient.val p n).cl) p.hits = true ∧ Pu.laws_eqProxy.v p.now (re p.en) (rs p.w) (rs p.m) (rr p.s) p.a (rf p.fe) (rc (Pu.spec_LeaveClient.val p n).cl) p.hits p.now (re p.en) (rs p.w) (rs p.m) (rr p.s) p.a (rf p.fe) (rc (Pu.spec_LeaveClient.val p n).cl) p.hits = true at a2
  change Pu.laws_markProxy.c p.now (re p.en) (rs p.w) (rs p.m) (rr p.s) p.a (rf p.fe) (rc (Pu.spec_LeaveClient.val p n).cl) p.hits 1 = true at n1
  change Pu.laws_markProxy.v p.now (re p.en) (rs p.w) (rs p.m) (rr p.s) p.a (rf p.fe) (rc (Pu.spec_LeaveClient.val p n).cl) p.hits 1 = _ at n2
  simp only [Lib.lt, t1, t2, S.1, S.2, I.1, I.2, a1.1, a1.2, a2.1, a2.2, m1, m2, n1, n2, (n3 _ _ _).1, (n3 _ _ _).2, d1, d2, bne_self_eq_false, cond_true, cond_false, Bool.not_true]
theorem law (i0 : Int) (r1 r2 r3 r4 : Row) (i5 : Int) (r6 r7 : Row) (i8 n : Int) {A B C D : Prop} (_ : A) (f1 : FitR r1) (f2 : FitR r2) (f3 : FitR r3) (f4 : FitR r4) (_ : B) (f6 : FitR r6) (f7 : FitR r7) (_ : C) (_ : D) : v i0 r1 r2 r3 r4 i5 r6 r7 i8 n = true := (out _ _ _ _ _ _ _ _ _ _ (run i0 r1 r2 r3 r4 i5 r6 r7 i8 n f1 f2 f3 f4 f6 f7)).2
theorem lawc (i0 : Int) (r1 r2 r3 r4 : Row) (i5 : Int) (r6 r7 : Row) (i8 n : Int) {A B C D : Prop} (_ : A) (f1 : FitR r1) (f2 : FitR r2) (f3 : FitR r3) (f4 : FitR r4) (_ : B) (f6 : FitR r6) (f7 : FitR r7) (_ : C) (_ : D) : c i0 r1 r2 r3 r4 i5 r6 r7 i8 n = true := (out _ _ _ _ _ _ _ _ _ _ (run i0 r1 r2 r3 r4 i5 r6 r7 i8 n f1 f2 f3 f4 f6 f7)).1
end Go.FG.Pu.laws_FnExactLeaveClient

