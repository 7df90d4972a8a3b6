/- What the functions come to, in plain numbers, texts and lists; last the law itself. No condition but those that each states. -/
import Derived.Test.YtijidheebmbkcaaPExactPolicyTouch
set_option linter.unusedVariables false
set_option linter.unusedSimpArgs false
set_option maxRecDepth 100000
namespace Go.FG.Pu.laws_szIntSS
theorem bd {q : Row} {L : Int} (z : q.length ≤ 9223372036854775807) (h0 : 0 ≤ L) (h1 : L ≤ 1048576) : Pu.laws_szIntS.v q L ≤ 1048576 ∧ (¬ Pu.laws_szIntS.v q L < 0 → q.length ≤ 1048576 ∧ Pu.laws_szIntS.v q L = L - (q.length : Int)) := by
  unfold Pu.laws_szIntS.v
  rw [Lib.w64_ok (by omega) (by omega)]
  by_cases c0 : L - (q.length : Int) < 0
  · rw [decide_eq_true c0, cond_true]; exact ⟨by omega, fun h => absurd (by omega) h⟩
  · rw [decide_eq_false c0, cond_false]; exact ⟨by omega, fun h => ⟨by omega, rfl⟩⟩
def tot (a : Row) : Nat := (a.map fun y => (cvL (y.getD 0 (.b false))).length).sum
def inn (a : Row) : Prop := (∀ j, j < a.length → (cvL (cellAt a j 0)).length ≤ 1048576) ∧ tot a ≤ 1048576
theorem tot_succ (a : Row) (i : Nat) (h : i < a.length) : tot (a.take (i + 1)) = tot (a.take i) + (cvL (cellAt a i 0)).length := by
  unfold tot
  rw [List.take_succ_eq_append_getElem h, List.map_append, List.sum_append, Lib.cellAt_of h]
  simp
theorem run (a : Row) (L : Int) (h0 : 0 ≤ L) (h1 : L ≤ 1048576) (ha : FitR a) : ∃ x, vo a L = some x ∧ x ≤ 1048576 ∧ (0 ≤ x → a.length ≤ 1048576 ∧ inn a) := by
  have hl := ha.1
  unfold vo b
  rw [Lib.w64_ok (x := L - (a.length : Int)) (by omega) (by omega)]
  by_cases hc : L - (a.length : Int) < 0
  · rw [decide_eq_true hc]; exact ⟨-1, rfl, by omega, fun h => by omega⟩
  · rw [decide_eq_false hc, cond_false]
    have key := Lib.loop_post (fun n (s : Nat × Int) => l5 Lib.big (fun (_ : Row) (_ y6 _ : Int) => some y6) (fun (_ : Row) (y9 _ _ : Int) => some y9) n a s.2 0 (s.1 : Int)) (fun s => a.length - s.1) (fun s => s.1 ≤ a.length ∧ 0 ≤ s.2 ∧ s.2 ≤ 1048576 ∧ (∀ j, j < s.1 → (cvL (cellAt a j 0)).length ≤ 1048576) ∧ s.2 + (tot (a.take s.1) : Int) ≤ 1048576) (fun x => x ≤ 1048576 ∧ (0 ≤ x → inn a)) (fun n s hs => by
      obtain ⟨i, L⟩ := s
      obtain ⟨hi, hL0, hL1, hin, hto⟩ := hs
      dsimp only at hi hL0 hL1 hin hto ⊢
      by_cases h : i < a.length
      · have hi1 : w64 ((i : Int) + 1) = ((i + 1 : Nat) : Int) := Lib.w64_ok (by omega) (by omega)
        have hw := bd (Lib.FitR_cell ha i 0).1 hL0 hL1
        by_cases hn : Pu.laws_szIntS.v (cvL (cellAt a i 0)) L < 0
        · exact .inl ⟨-1, by simp only [l5, r5, Lib.dlt, h, decide_true, Lib.dle0, Bool.and_self, cond_true, Lib.toN, hn], by omega, fun h => by omega⟩
        · exact .inr ⟨(i + 1, Pu.laws_szIntS.v (cvL (cellAt a i 0)) L), ⟨h, by omega, hw.1, fun j hj => by
            by_cases hji : j = i
            · subst hji; exact (hw.2 hn).1
            · exact hin j (by dsimp only at hj; omega), by
            have e := (hw.2 hn).2
            have e2 := tot_succ a i h
            dsimp only
            rw [e, e2]; omega⟩, by dsimp only; omega, by simp only [l5, r5, Lib.dlt, h, decide_true, decide_false, Lib.dle0, Bool.and_self, cond_true, cond_false, Lib.toN, hn, hi1]⟩
      · exact .inl ⟨L, by simp only [l5, r5, Lib.dlt, h, decide_false, cond_false], hL1, fun _ => ⟨fun j hj => hin j (by omega), by
          have e : i = a.length := by omega
          rw [e, List.take_length] at hto; omega⟩⟩) Lib.big (0, L - (a.length : Int)) ⟨Nat.zero_le _, by dsimp only; omega, by dsimp only; omega, fun j hj => absurd hj (Nat.not_lt_zero j), by dsimp only; rw [List.take_zero]; show L - (a.length : Int) + ((0 : Nat) : Int) ≤ _; omega⟩ (Lib.lt_big (by omega))
    obtain ⟨x, hx, hb, hb2⟩ := key
    exact ⟨x, hx, hb, fun h => ⟨by omega, hb2 h⟩⟩
theorem ok (a : Row) (L : Int) (h0 : 0 ≤ L) (h1 : L ≤ 1048576) (ha : FitR a) : c a L = true ∧ v a L ≤ 1048576 ∧ (0 ≤ v a L → a.length ≤ 1048576 ∧ inn a) := by
  obtain ⟨x, h, h2, h3⟩ := run a L h0 h1 ha
  obtain ⟨e1, e2⟩ := out a L h
  rw [e2]; exact ⟨e1, h2, h3⟩
end Go.FG.Pu.laws_szIntSS

namespace Go.FG.Pu.laws_szStringS
theorem run (a : Row) (L : Int) (h0 : 0 ≤ L) (h1 : L ≤ 1048576) (ha : FitR a) : ∃ x, vo a L = some x ∧ x ≤ 1048576 ∧ (0 ≤ x → a.length ≤ 1048576) := by
  have hl := ha.1
  unfold vo b
  rw [Lib.w64_ok (x := L - (a.length : Int)) (by omega) (by omega)]
  by_cases hc : L - (a.length : Int) < 0
  · rw [decide_eq_true hc]; exact ⟨-1, rfl, by omega, fun h => by omega⟩
  · rw [decide_eq_false hc, cond_false]
    have key := Lib.loop_post (fun n (s : Nat × Int) => l5 Lib.big (fun (_ : Row) (_ y6 _ : Int) => some y6) (fun (_ : Row) (y9 _ _ : Int) => some y9) n a s.2 0 (s.1 : Int)) (fun s => a.length - s.1) (fun s => s.1 ≤ a.length ∧ 0 ≤ s.2 ∧ s.2 ≤ 1048576) (fun x => x ≤ 1048576) (fun n s hs => by
      obtain ⟨i, L⟩ := s
      obtain ⟨hi, hL0, hL1⟩ := hs
      dsimp only at hi hL0 hL1 ⊢
      by_cases h : i < a.length
      · have hi1 : w64 ((i : Int) + 1) = ((i + 1 : Nat) : Int) := Lib.w64_ok (by omega) (by omega)
        have z : (cvS (cellAt a i 0)).size ≤ 4611686018427387904 := Lib.okS_cell ha i 0
        have hw : w64 (L - (↑(ByteArray.size (cvS (cellAt a i 0))) : Int)) ≤ 1048576 := by rw [Lib.w64_ok (by omega) (by omega)]; omega
        by_cases hn : w64 (L - (↑(ByteArray.size (cvS (cellAt a i 0))) : Int)) < 0
        · exact .inl ⟨-1, by simp only [l5, r5, Lib.dlt, h, decide_true, Lib.dle0, Bool.and_self, cond_true, Lib.toN, hn], by omega⟩
        · exact .inr ⟨(i + 1, w64 (L - (↑(ByteArray.size (cvS (cellAt a i 0))) : Int))), ⟨h, by omega, hw⟩, by dsimp only; omega, by simp only [l5, r5, Lib.dlt, h, decide_true, decide_false, Lib.dle0, Bool.and_self, cond_true, cond_false, Lib.toN, hn, hi1]⟩
      · exact .inl ⟨L, by simp only [l5, r5, Lib.dlt, h, decide_false, cond_false], hL1⟩) Lib.big (0, L - (a.length : Int)) ⟨Nat.zero_le _, by dsimp only; omega, by dsimp only; omega⟩ (Lib.lt_big (by omega))
    obtain ⟨x, hx, hb⟩ := key
    exact ⟨x, hx, hb, fun _ => by omega⟩
theorem ok (a : Row) (L : Int) (h0 : 0 ≤ L) (h1 : L ≤ 1048576) (ha : FitR a) : c a L = true ∧ v a L ≤ 1048576 ∧ (0 ≤ v a L → a.length ≤ 1048576) := by
  obtain ⟨x, h, h2, h3⟩ := run a L h0 h1 ha
  obtain ⟨e1, e2⟩ := out a L h
  rw [e2]; exact ⟨e1, h2, h3⟩
end Go.FG.Pu.laws_szStringS

namespace Go.FG.Pu.laws_szSketch
theorem ok (r : Row) (k : Int) (L : Int) (h0 : 0 ≤ L) (h1 : L ≤ 1048576) (ha : FitR r) : c r k L = true ∧ v r k L ≤ 1048576 ∧ (0 ≤ v r k L → r.length ≤ 1048576 ∧ Pu.laws_szIntSS.inn r) := by
  obtain ⟨e1, e2, e3⟩ := Pu.laws_szIntSS.ok r L h0 h1 ha
  by_cases h : Pu.laws_szIntSS.v r L < 0
  · obtain ⟨q1, q2⟩ := out r k L (x := -1) (by unfold vo b; rw [e1, cond_true, decide_eq_true h, cond_true])
    rw [q2]; exact ⟨q1, by omega, fun h => by omega⟩
  · obtain ⟨q1, q2⟩ := out r k L (x := Pu.laws_szIntSS.v r L) (by unfold vo b; rw [e1, cond_true, decide_eq_false h, cond_false])
    rw [q2]; exact ⟨q1, e2, e3⟩
end Go.FG.Pu.laws_szSketch

namespace Go.FG.Pu.laws_szPolicy
theorem ok (r0 r1 r2 : Row) (k : Int) (L : Int) (h0 : 0 ≤ L) (h1 : L ≤ 1048576) (f0 : FitR r0) (f1 : FitR r1) (f2 : FitR r2) : c r0 r1 r2 k L = true ∧ v r0 r1 r2 k L ≤ 1048576 ∧ (0 ≤ v r0 r1 r2 k L → r0.length ≤ 1048576 ∧ r1.length ≤ 1048576 ∧ r2.length ≤ 1048576 ∧ Pu.laws_szIntSS.inn r2) := by
  have a1 := Pu.laws_szStringS.ok r0 L h0 h1 f0
  by_cases hA : Pu.laws_szStringS.v r0 L < 0
  · obtain ⟨q1, q2⟩ := out r0 r1 r2 k L (x := -1) (by unfold vo b; rw [a1.1, cond_true, decide_eq_true hA, cond_true])
    rw [q2]; exact ⟨q1, by omega, fun h => by omega⟩
  have a2 := Pu.laws_szStringS.ok r1 (Pu.laws_szStringS.v r0 L) (by omega) a1.2.1 f1
  by_cases hB : Pu.laws_szStringS.v r1 (Pu.laws_szStringS.v r0 L) < 0
  · obtain ⟨q1, q2⟩ := out r0 r1 r2 k L (x := -1) (by unfold vo b; rw [a1.1, cond_true, decide_eq_false hA, cond_false, a2.1, cond_true, decide_eq_true hB, cond_true])
    rw [q2]; exact ⟨q1, by omega, fun h => by omega⟩
  have a3 := Pu.laws_szSketch.ok r2 k (Pu.laws_szStringS.v r1 (Pu.laws_szStringS.v r0 L)) (by omega) a2.2.1 f2
  by_cases hC : Pu.laws_szSketch.v r2 k (Pu.laws_szStringS.v r1 (Pu.laws_szStringS.v r0 L)) < 0
  · obtain ⟨q1, q2⟩ := out r0 r1 r2 k L (x := -1) (by unfold vo b; rw [a1.1, cond_true, decide_eq_false hA, cond_false, a2.1, cond_true, decide_eq_false hB, cond_false, a3.1, cond_true, decide_eq_true hC, cond_true])
    rw [q2]; exact ⟨q1, by omega, fun h => by omega⟩
  obtain ⟨q1, q2⟩ := out r0 r1 r2 k L (x := Pu.laws_szSketch.v r2 k (Pu.laws_szStringS.v r1 (Pu.laws_szStringS.v r0 L))) (by unfold vo b; rw [a1.1, cond_true, decide_eq_false hA, cond_false, a2.1, cond_true, decide_eq_false hB, cond_false, a3.1, cond_true, decide_eq_false hC, cond_false])
  rw [q2]; exact ⟨q1, a3.2.1, fun h => ⟨a1.2.2 (by omega), a2.2.2 (by omega), a3.2.2 h⟩⟩
end Go.FG.Pu.laws_szPolicy

namespace Go.FG.Pu.laws_toStringS
/-- The rows' cells, one for one. -/
def tl (a0 : Row) : Row := a0.map fun y => [CV.s (cvS (y.getD 0 (.b false)))]
theorem tl_len (a0 : Row) : (tl a0).length = a0.length := by unfold tl; simp
theorem tl_sh (a0 : Row) : ∀ y ∈ tl a0, y.length = 1 := by
  intro y hy; unfold tl at hy; obtain ⟨z, _, rfl⟩ := List.mem_map.1 hy; rfl
theorem tl_idem (a0 : Row) : tl (tl a0) = tl a0 := by
  unfold tl; rw [List.map_map]; apply List.map_congr_left; intro y _; rfl
theorem run (a0 : Row) (hl : a0.length ≤ 1048576) : vo a0 = some (tl a0) := by
  unfold vo b
  rw [show decide ((a0.length : Int) = (a0.length : Int)) = true by simp, Lib.toN, Lib.roomy_of (by omega) (by omega), Bool.and_self, cond_true]
  have mono := Lib.loop_gen (fun m (s : Nat) => l3 Lib.big (fun (_ : Row) (_ : Int) (y : Row) => some y) m a0 (s : Int) ((tl a0).take s ++ zeros [Ck.s] (a0.length - s))) (fun i => a0.length - i) (fun i => i ≤ a0.length) (fun _ => some (tl a0)) (fun m i hi => by
    by_cases h : i < a0.length
    · right
      refine ⟨i + 1, h, by omega, rfl, ?_⟩
      have hlt : i < (tl a0).length := by rw [tl_len]; exact h
      have e := Lib.setC_step (ks := [Ck.s]) (tl_len a0) h (List.getElem?_eq_getElem hlt) (tl_sh a0 _ (List.getElem_mem hlt))
      have eg : (tl a0)[i] = [CV.s (cvS (cellAt a0 i 0))] := by simp [tl, cellAt, List.getD, h]
      rw [eg] at e
      have hx : ((tl a0).take i ++ zeros [Ck.s] (a0.length - i)).length = a0.length := by rw [List.length_append, List.length_take, tl_len, Lib.length_zeros]; omega
      have hi1 : w64 ((i : Int) + 1) = ((i + 1 : Nat) : Int) := Lib.w64_ok (by omega) (by omega)
      show l3 Lib.big _ (m + 1) a0 (i : Int) _ = l3 Lib.big _ m a0 ((i + 1 : Nat) : Int) _
      rw [← e]
      simp only [l3, r3, hx, Lib.dlt, Lib.dle0, Lib.toN, h, decide_true, Bool.and_self, cond_true, hi1]
    · left
      have : i = a0.length := by omega
      subst this
      rw [Nat.sub_self, List.take_of_length_le (by rw [tl_len]; exact Nat.le_refl _), show zeros [Ck.s] 0 = [] from rfl, List.append_nil]
      simp only [l3, r3, Lib.dlt, Nat.lt_irrefl, decide_false, cond_false]) Lib.big 0 (Nat.zero_le _) (Lib.lt_big (by omega))
  simpa using mono
theorem ok (a0 : Row) (hl : a0.length ≤ 1048576) : c a0 = true ∧ v a0 = tl a0 := out a0 (run a0 hl)
end Go.FG.Pu.laws_toStringS

namespace Go.FG.Pu.laws_toIntSS
def tl (a0 : Row) : Row := a0.map fun y => [CV.l 3 (Pu.laws_toIntS.v (cvL (y.getD 0 (.b false))))]
theorem tl_len (a0 : Row) : (tl a0).length = a0.length := by unfold tl; simp
theorem tl_sh (a0 : Row) : ∀ y ∈ tl a0, y.length = 1 := by
  intro y hy; unfold tl at hy; obtain ⟨z, _, rfl⟩ := List.mem_map.1 hy; rfl
theorem run (a0 : Row) (hl : a0.length ≤ 1048576) (hin : Pu.laws_szIntSS.inn a0) : vo a0 = some (tl a0) := by
  unfold vo b
  rw [show decide ((a0.length : Int) = (a0.length : Int)) = true by simp, Lib.toN, Lib.roomy_of (by omega) (by omega), Bool.and_self, cond_true]
  have mono := Lib.loop_gen (fun m (s : Nat) => l3 Lib.big (fun (_ : Row) (_ : Int) (y : Row) => some y) m a0 (s : Int) ((tl a0).take s ++ zeros [Ck.l 3] (a0.length - s))) (fun i => a0.length - i) (fun i => i ≤ a0.length) (fun _ => some (tl a0)) (fun m i hi => by
    by_cases h : i < a0.length
    · right
      refine ⟨i + 1, h, by omega, rfl, ?_⟩
      have hlt : i < (tl a0).length := by rw [tl_len]; exact h
      have e := Lib.setC_step (ks := [Ck.l 3]) (tl_len a0) h (List.getElem?_eq_getElem hlt) (tl_sh a0 _ (List.getElem_mem hlt))
      have eg : (tl a0)[i] = [CV.l 3 (Pu.laws_toIntS.v (cvL (cellAt a0 i 0)))] := by simp [tl, cellAt, List.getD, h]
      rw [eg] at e
      have hx : ((tl a0).take i ++ zeros [Ck.l 3] (a0.length - i)).length = a0.length := by rw [List.length_append, List.length_take, tl_len, Lib.length_zeros]; omega
      have hi1 : w64 ((i : Int) + 1) = ((i + 1 : Nat) : Int) := Lib.w64_ok (by omega) (by omega)
      have hc : Pu.laws_toIntS.c (cvL (cellAt a0 i 0)) = true := decide_eq_true (hin.1 i h)
      show l3 Lib.big _ (m + 1) a0 (i : Int) _ = l3 Lib.big _ m a0 ((i + 1 : Nat) : Int) _
      rw [← e]
      simp only [l3, r3, hx, hc, Lib.dlt, Lib.dle0, Lib.toN, h, decide_true, Bool.and_self, cond_true, hi1]
    · left
      have : i = a0.length := by omega
      subst this
      rw [Nat.sub_self, List.take_of_length_le (by rw [tl_len]; exact Nat.le_refl _), show zeros [Ck.l 3] 0 = [] from rfl, List.append_nil]
      simp only [l3, r3, Lib.dlt, Nat.lt_irrefl, decide_false, cond_false]) Lib.big 0 (Nat.zero_le _) (Lib.lt_big (by omega))
  simpa using mono
theorem ok (a0 : Row) (hl : a0.length ≤ 1048576) (hin : Pu.laws_szIntSS.inn a0) : c a0 = true ∧ v a0 = tl a0 := out a0 (run a0 hl hin)
end Go.FG.Pu.laws_toIntSS

namespace Go.FG.Pu.laws_toSketch
theorem ok (r : Row) (k : Int) (hl : r.length ≤ 1048576) (hin : Pu.laws_szIntSS.inn r) : c r k = true ∧ v r k = (Pu.laws_toIntSS.tl r, k) := by
  have h := Pu.laws_toIntSS.ok r hl hin
  exact out r k (by unfold vo b; rw [h.1, h.2, cond_true])
end Go.FG.Pu.laws_toSketch

namespace Go.FG.Pu.laws_toPolicy
theorem ok (r0 r1 r2 : Row) (k : Int) (h0 : r0.length ≤ 1048576) (h1 : r1.length ≤ 1048576) (hl : r2.length ≤ 1048576) (hin : Pu.laws_szIntSS.inn r2) : c r0 r1 r2 k = true ∧ v r0 r1 r2 k = (Pu.laws_toStringS.tl r0, Pu.laws_toStringS.tl r1, Pu.laws_toIntSS.tl r2, k) := by
  have a0 := Pu.laws_toStringS.ok r0 h0
  have a1 := Pu.laws_toStringS.ok r1 h1
  have a2 := Pu.laws_toSketch.ok r2 k hl hin
  exact out r0 r1 r2 k (by unfold vo b; rw [a0.1, a0.2, a1.1, a1.2, a2.1, a2.2, cond_true, cond_true, cond_true])
/-- What is copied, as lists. -/
def bs (r : Row) : List ByteArray := r.map fun y => cvS (y.getD 0 (.b false))
def is (r : Row) : List (List Int) := r.map fun y => (cvL (y.getD 0 (.b false))).map fun z => cvI (z.getD 0 (.b false))
theorem tl_rs (r : Row) : Pu.laws_toStringS.tl r = Lib.rs (bs r) := by
  unfold Pu.laws_toStringS.tl Lib.rs bs; rw [List.map_map]; rfl
theorem tl_rr (r : Row) : Pu.laws_toIntSS.tl r = Lib.rr (is r) := by
  unfold Pu.laws_toIntSS.tl Lib.rr is
  rw [List.map_map]
  apply List.map_congr_left
  intro y _
  show [CV.l 3 (Pu.laws_toIntS.v (cvL (y.getD 0 (.b false))))] = [CV.l 3 (Lib.ri ((cvL (y.getD 0 (.b false))).map fun z => cvI (z.getD 0 (.b false))))]
  unfold Pu.laws_toIntS.v Lib.ri; rw [List.map_map]; rfl
theorem bs_len (r : Row) : (bs r).length = r.length := by unfold bs; simp
theorem is_len (r : Row) : (is r).length = r.length := by unfold is; simp
theorem bs_size {r : Row} (h : FitR r) : ∀ k ∈ bs r, k.size ≤ 4611686018427387904 := by
  intro k hk
  unfold bs at hk
  obtain ⟨y, hy, rfl⟩ := List.mem_map.1 hk
  obtain ⟨i, hi, rfl⟩ := List.getElem_of_mem hy
  have := Lib.okS_cell h i 0
  rw [Lib.cellAt_of hi] at this
  exact this
theorem is_fit {r : Row} (hl : r.length ≤ 1048576) (h : Pu.laws_szIntSS.inn r) : (is r).length ≤ 1048576 ∧ (∀ q ∈ is r, q.length ≤ 1048576) ∧ ((is r).map List.length).sum ≤ 1048576 := by
  refine ⟨by rw [is_len]; exact hl, fun q hq => ?_, ?_⟩
  · unfold is at hq
    obtain ⟨y, hy, rfl⟩ := List.mem_map.1 hq
    obtain ⟨i, hi, rfl⟩ := List.getElem_of_mem hy
    have := h.1 i hi
    rw [Lib.cellAt_of hi] at this
    rw [List.length_map]; exact this
  · have := h.2
    unfold Pu.laws_szIntSS.tot at this
    unfold is
    rw [List.map_map]
    rw [show (List.length ∘ fun y : List CV => (cvL (y.getD 0 (.b false))).map fun z => cvI (z.getD 0 (.b false))) = fun y : List CV => (cvL (y.getD 0 (.b false))).length from by funext y; simp]
    exact this
theorem abs (r0 r1 r2 : Row) (k : Int) (h0 : r0.length ≤ 1048576) (h1 : r1.length ≤ 1048576) (hl : r2.length ≤ 1048576) (hin : Pu.laws_szIntSS.inn r2) : c r0 r1 r2 k = true ∧ v r0 r1 r2 k = (Lib.rs (bs r0), Lib.rs (bs r1), Lib.rr (is r2), k) := by
  have h := ok r0 r1 r2 k h0 h1 hl hin
  rw [tl_rs, tl_rs, tl_rr] at h; exact h
end Go.FG.Pu.laws_toPolicy

namespace Go.FG.Pu.impl_copyInts
theorem ok (l : Row) (hl : l.length ≤ 4294967296) : c l = true ∧ v l = l := by
  refine out l ?_
  unfold vo b
  rw [show List.length (zeros [Ck.i IntKind.i64] 0) + l.length = l.length by simp [zeros], Lib.roomy_of (by omega) (by omega)]
  rfl
end Go.FG.Pu.impl_copyInts

namespace Go.FG.Pu.impl_copySketch
open Lib (rr)
def fitS (s : List (List Int)) : Prop := s.length ≤ 1048576 ∧ ∀ q ∈ s, q.length ≤ 1048576
theorem run {R : Type} (N : Nat) (K0 : Row → Int → Int → Int → Int → Option R) (K1 : Row → Int → Int → Int → Int → Row → Option R) (s : List (List Int)) (z a : Int) (hf : fitS s) (m : Nat) (hm : s.length + 1 < m) (kr : Row → Option R)
    (h0 : s = [] → K0 (rr s) 0 0 z a = kr []) (h1 : K1 (rr s) s.length s.length z a (rr s) = kr (rr s)) : l3 N K0 K1 m (rr s) (s.length : Int) 0 z a = kr (rr s) := by
  obtain ⟨m, rfl⟩ : ∃ m', m = m' + 1 := ⟨m - 1, by omega⟩
  have hci : ∀ i (h : i < s.length), Pu.impl_copyInts.c (Lib.ri s[i]) = true ∧ Pu.impl_copyInts.v (Lib.ri s[i]) = Lib.ri s[i] := fun i h => Pu.impl_copyInts.ok _ (by rw [Lib.ri_len]; have := hf.2 _ (List.getElem_mem h); omega)
  by_cases hs : s = []
  · subst hs
    simp only [l3, r3, List.length_nil, Int.natCast_zero, Int.lt_irrefl, decide_false, cond_false]
    exact h0 rfl
  · have hp : 0 < s.length := List.length_pos_iff.2 hs
    have key := Lib.for_run (R := R) s.length (fun m i (x : Row) => l3a N K0 K1 m (rr s) (s.length : Int) (i : Int) z a x) (fun i => rr (s.take i)) (kr (rr s)) (fun m i h => by
      have hl := hf.1
      simp only [l3a, r3a, Lib.dlt, h, decide_true, cond_true, Lib.dle0, Bool.true_and, Lib.rr_len, Lib.toN, Lib.rr0 h, cvL, (hci i h).1, (hci i h).2, Lib.set1, List.length_singleton]
      rw [Lib.roomy_of (by rw [List.length_take]; omega) (by rw [List.length_take]; omega), cond_true, Lib.w64_s h (by omega)]
      have := Lib.take_snoc (fun q => [CV.l 3 (Lib.ri q)]) s i h
      unfold rr; rw [← this]) (fun m => by
      simp only [l3a, r3a, Lib.dlt, Nat.lt_irrefl, decide_false, cond_false, List.take_length]; exact h1) m 1 hp (by omega)
    simp only [l3, r3, decide_eq_true (show (0 : Int) < (s.length : Int) by omega), cond_true, Bool.and_self, Lib.rr_len, show decide ((0 : Int) ≤ 0) = true from rfl]
    have e := hci 0 hp
    have e0 := Lib.rr0 (l := s) hp
    simp only [show Int.toNat 0 = 0 from rfl, e0, cvL, e.1, e.2, cond_true, Lib.set1, List.nil_append]
    rw [show w64 (0 + 1) = ((1 : Nat) : Int) from rfl]
    refine Eq.trans ?_ key
    have := Lib.take_snoc (fun q => [CV.l 3 (Lib.ri q)]) s 0 hp
    unfold rr; rw [show (0 + 1) = 1 from rfl] at this; rw [← this]; rfl
theorem ok (s : List (List Int)) (a : Int) (hf : fitS s) : c (rr s) a = true ∧ v (rr s) a = (rr s, a) := by
  refine out _ _ ?_
  unfold vo b
  rw [Lib.rr_len]
  exact run Lib.big (fun _ _ _ _ y => some ([], y)) (fun _ _ _ _ y20 y21 => some (y21, y20)) s 0 a hf Lib.big (Lib.lt_big (by have := hf.1; omega)) (fun x => some (x, a)) (fun _ => rfl) rfl
end Go.FG.Pu.impl_copySketch

namespace Go.FG.Pu.spec_l13In
/-- Is a key in a list. -/
def has (l : List ByteArray) (k : ByteArray) : Bool := l.any fun x => decide (x = k)
def without (l : List ByteArray) (k : ByteArray) : List ByteArray := l.filter fun x => !decide (x = k)
theorem has_iff {l : List ByteArray} {k : ByteArray} : has l k = true ↔ k ∈ l := by unfold has; simp
theorem has_no {l : List ByteArray} {k : ByteArray} : has l k = false ↔ k ∉ l := by rw [← has_iff]; cases has l k <;> simp
theorem without_no {l : List ByteArray} {k : ByteArray} (h : has l k = false) : without l k = l := by
  unfold without
  rw [List.filter_eq_self]
  intro x hx
  have := has_no.1 h
  simp; intro e; subst e; exact this hx
theorem without_len {l : List ByteArray} {k : ByteArray} : (without l k).length ≤ l.length := List.length_filter_le ..
theorem without_lt {l : List ByteArray} {k : ByteArray} (h : has l k = true) : (without l k).length < l.length := by
  unfold without
  refine List.length_filter_lt_length_iff_exists.2 ⟨k, has_iff.1 h, by simp⟩
theorem ok (l : List ByteArray) (k : ByteArray) (hl : l.length ≤ 4294967296) : c (Lib.rs l) k = true ∧ v (Lib.rs l) k = has l k := by
  refine out _ _ ?_
  unfold vo b
  have := Lib.any_list l (fun x => decide (x = k)) (fun m (i : Nat) => l2 Lib.big (fun (_ : Row) (_ : ByteArray) (y6 : Bool) (_ : Int) => some y6) (fun (_ : Row) (_ : ByteArray) (_ : Bool) (_ : Int) => some false) m (Lib.rs l) k false (i : Int)) (some true) (some false)
    (fun m i h hp => by simp only [l2, r2, Lib.rs_len, Lib.dlt, h, decide_true, Lib.dle0, Bool.and_self, cond_true, Lib.toN, Lib.rs0 h, cvS, Lib.beq_ba, hp])
    (fun m i h hp => by simp only [l2, r2, Lib.rs_len, Lib.dlt, h, decide_true, Lib.dle0, Bool.and_self, cond_true, Lib.toN, Lib.rs0 h, cvS, Lib.beq_ba, hp, cond_false, Lib.w64_s h (by omega : l.length ≤ 9223372036854775807)])
    (fun m => by simp only [l2, r2, Lib.rs_len, Lib.dlt, Nat.lt_irrefl, decide_false, cond_false]) Lib.big (Lib.lt_big (by omega))
  refine this.trans ?_
  unfold has; cases l.any fun x => decide (x = k) <;> rfl
end Go.FG.Pu.spec_l13In

namespace Go.FG.Pu.spec_SketchOk
open Lib (rr)
def nOk (n : Int) : Bool := decide (0 ≤ n ∧ n ≤ 15)
def rowOk (q : List Int) : Bool := decide (q.length = 16) && q.all nOk
/-- A right sketch. -/
def skOk (s : List (List Int)) (a : Int) : Bool := decide (s.length = 3) && (decide (0 ≤ a ∧ a ≤ 63) && s.all rowOk)
theorem in_dec (n a b : Int) : Pu.spec_l01In.v n a b = decide (a ≤ n ∧ n ≤ b) := by
  unfold Pu.spec_l01In.v
  by_cases h1 : a ≤ n
  · rw [decide_eq_true (show n ≥ a from h1), cond_true]
    by_cases h2 : n ≤ b <;> simp [h1, h2]
  · rw [decide_eq_false (show ¬ n ≥ a from h1), cond_false]; simp [h1]
theorem ok (s : List (List Int)) (a : Int) (hf : Pu.impl_copySketch.fitS s) : c (rr s) a = true ∧ v (rr s) a = skOk s a := by
  refine out _ _ ?_
  unfold vo b skOk
  rw [Lib.rr_len]
  by_cases h3 : ¬ s.length = 3
  · rw [show ((s.length : Int) != 3) = true by simp; omega, decide_eq_false h3]; rfl
  have h3 : s.length = 3 := Decidable.not_not.1 h3
  rw [show ((s.length : Int) != 3) = false by simp; omega, decide_eq_true h3, cond_false, in_dec]
  cases h4 : decide (0 ≤ a ∧ a ≤ 63) with
  | false => rfl
  | true =>
    rw [Bool.not_true, cond_false, Bool.true_and, Bool.true_and]
    have inner : ∀ i (h : i < s.length) (K0 K1 : Bool → Int → Int → Row → Int → Option Bool) (kf kt : Option Bool) (h0 : ∀ j : Int, K0 false i j (rr s) a = kf) (h1 : ∀ j : Int, K1 false i j (rr s) a = kt), l9 Lib.big K0 K1 Lib.big false (i : Int) 0 (rr s) a = bif (s[i]).all nOk then kt else kf := fun i h K0 K1 kf kt h0 h1 =>
      Lib.all_list (s[i]) nOk (fun m (j : Nat) => l9 Lib.big K0 K1 m false (i : Int) (j : Int) (rr s) a) kf kt
        (fun m j hj hp => by
          have hl := hf.2 _ (List.getElem_mem h)
          unfold nOk at hp
          simp only [l9, r9, Lib.rr_len, Lib.dlt, h, decide_true, Lib.dle0, Bool.and_self, cond_true, Lib.toN, Lib.rr0 h, cvL, Lib.ri_len, hj, Lib.ri0 hj, cvI, in_dec, hp, Bool.not_true, cond_false, Lib.w64_s hj (by omega : s[i].length ≤ 9223372036854775807)])
        (fun m j hj hp => by
          unfold nOk at hp
          simp only [l9, r9, Lib.rr_len, Lib.dlt, h, decide_true, Lib.dle0, Bool.and_self, cond_true, Lib.toN, Lib.rr0 h, cvL, Lib.ri_len, hj, Lib.ri0 hj, cvI, in_dec, hp, Bool.not_false, h0])
        (fun m => by simp only [l9, r9, Lib.rr_len, Lib.dlt, h, decide_true, Lib.dle0, Bool.and_self, cond_true, Lib.toN, Lib.rr0 h, cvL, Lib.ri_len, Nat.lt_irrefl, decide_false, cond_false, h1]) Lib.big (Lib.lt_big (by have := hf.2 _ (List.getElem_mem h); omega))
    have key := Lib.all_list s rowOk (fun m (i : Nat) => l4 Lib.big (fun (y19 : Bool) (_ : Int) (_ : Row) (_ : Int) => some y19) (fun (_ : Bool) (_ : Int) (_ : Row) (_ : Int) => some true) m false (i : Int) (rr s) a) (some false) (some true)
      (fun m i h hp => by
        unfold rowOk at hp
        rw [Bool.and_eq_true] at hp
        have hl := of_decide_eq_true hp.1
        simp only [l4, r4, Lib.rr_len, Lib.dlt, h, decide_true, Lib.dle0, Bool.and_self, cond_true, Lib.toN, Lib.rr0 h, cvL, Lib.ri_len, hl, show (((16 : Nat) : Int) != 16) = false from rfl, cond_false]
        rw [inner i h _ _ _ _ (fun _ => rfl) (fun _ => rfl), hp.2, cond_true, Lib.w64_s h (by omega)])
      (fun m i h hp => by
        unfold rowOk at hp
        by_cases hl : s[i].length = 16
        · rw [decide_eq_true hl, Bool.true_and] at hp
          simp only [l4, r4, Lib.rr_len, Lib.dlt, h, decide_true, Lib.dle0, Bool.and_self, cond_true, Lib.toN, Lib.rr0 h, cvL, Lib.ri_len, hl, show (((16 : Nat) : Int) != 16) = false from rfl, cond_false]
          rw [inner i h _ _ _ _ (fun _ => rfl) (fun _ => rfl), hp, cond_false]
        · simp only [l4, r4, Lib.rr_len, Lib.dlt, h, decide_true, Lib.dle0, Bool.and_self, cond_true, Lib.toN, Lib.rr0 h, cvL, Lib.ri_len, show ((s[i].length : Int) != 16) = true by simp; omega])
      (fun m => by simp only [l4, r4, Lib.rr_len, Lib.dlt, Nat.lt_irrefl, decide_false, cond_false]) Lib.big (Lib.lt_big (by omega))
    refine key.trans ?_
    cases s.all rowOk <;> rfl
end Go.FG.Pu.spec_SketchOk

namespace Go.FG.Pu.spec_PolicyOk
open Lib (rr rs)
open Pu.spec_l13In (has without has_iff has_no)
def keyOk (k : ByteArray) : Bool := decide (1 ≤ (k.size : Int) ∧ (k.size : Int) ≤ 30)
def kOk (l : List ByteArray) (i : Nat) : Bool := keyOk (l.getD i ⟨#[]⟩) && !has (l.take i) (l.getD i ⟨#[]⟩)
def keysOk (l : List ByteArray) : Bool := (List.range l.length).all (kOk l)
/-- A right policy. -/
def pOk (w m : List ByteArray) (s : List (List Int)) (a : Int) : Bool := keysOk (w ++ m) && (decide (w.length ≤ 2) && (decide (m.length ≤ 4) && Pu.spec_SketchOk.skOk s a))
theorem key_dec (k : ByteArray) : Pu.spec_l13Key.v k = keyOk k := Pu.spec_SketchOk.in_dec _ _ _
theorem view_rs (l : List ByteArray) (i : Nat) : view (Lib.rs l) (Int.toNat 0) i = Lib.rs (l.take i) := by
  unfold view Lib.rs; rw [show Int.toNat 0 = 0 from rfl, List.drop_zero, Nat.sub_zero, List.map_take]
theorem ok (w m : List ByteArray) (s : List (List Int)) (a : Int) (hw : w.length ≤ 1048576) (hm : m.length ≤ 1048576) (hf : Pu.impl_copySketch.fitS s) : c (rs w) (rs m) (rr s) a = true ∧ v (rs w) (rs m) (rr s) a = pOk w m s a := by
  refine out _ _ _ _ ?_
  have h2 := Pu.spec_SketchOk.ok s a hf
  unfold vo b
  have r1 : roomy (List.length (zeros [Ck.s] 0) + List.length (rs w)) 16 = true := Lib.roomy_of (by simp [zeros, Lib.rs_len]; omega) (by simp [zeros, Lib.rs_len]; omega)
  have r2 : roomy (List.length (zeros [Ck.s] 0 ++ rs w) + List.length (rs m)) 16 = true := Lib.roomy_of (by simp [zeros, Lib.rs_len]; omega) (by simp [zeros, Lib.rs_len]; omega)
  have e : zeros [Ck.s] 0 ++ rs w ++ rs m = rs (w ++ m) := by
    rw [show zeros [Ck.s] 0 ++ rs w = rs w from rfl]; unfold Lib.rs; rw [List.map_append]
  rw [r1, r2, cond_true, cond_true, e]
  have hl : (w ++ m).length ≤ 2097152 := by rw [List.length_append]; omega
  have hin : ∀ i, i < (w ++ m).length → Pu.spec_l13In.c (rs ((w ++ m).take i)) ((w ++ m).getD i ⟨#[]⟩) = true ∧ Pu.spec_l13In.v (rs ((w ++ m).take i)) ((w ++ m).getD i ⟨#[]⟩) = has ((w ++ m).take i) ((w ++ m).getD i ⟨#[]⟩) := fun i hi => Pu.spec_l13In.ok _ _ (by rw [List.length_take]; omega)
  have hk : ∀ i (hi : i < (w ++ m).length), cvS (cellAt (rs (w ++ m)) i 0) = (w ++ m).getD i ⟨#[]⟩ := fun i hi => by rw [Lib.rs0 hi, show (w ++ m).getD i ⟨#[]⟩ = (w ++ m)[i] by rw [List.getD_eq_getElem?_getD, List.getElem?_eq_getElem hi]; rfl]; rfl
  generalize hL : w ++ m = L at hl hin hk
  have key := Lib.all_gen (kOk L) L.length (fun n (i : Nat) => l3 Lib.big (fun (y7 : Bool) (_ : Int) (_ _ _ : Row) (_ : Int) (_ : Row) => some y7) (fun (_ : Bool) (_ : Int) (y16 y17 y18 : Row) (y19 : Int) (_ : Row) => bif (decide ((↑(List.length y16) : Int) ≤ 2)) then (bif (decide ((↑(List.length y17) : Int) ≤ 4)) then (bif (Pu.spec_SketchOk.c y18 y19) then (some (Pu.spec_SketchOk.v y18 y19)) else (none)) else (some false)) else (some false)) n false (i : Int) (rs w) (rs m) (rr s) a (rs L)) (some false) (some (decide (w.length ≤ 2) && (decide (m.length ≤ 4) && Pu.spec_SketchOk.skOk s a)))
    (fun n i hi hp => by
      unfold kOk at hp
      rw [Bool.and_eq_true, Bool.not_eq_true'] at hp
      have b1 : inB 0 (i : Int) (L.length : Int) = true := by simp [inB]; omega
      simp only [l3, r3, Lib.rs_len, Lib.dlt, hi, decide_true, Lib.dle0, Bool.and_self, cond_true, Lib.toN, hk i hi, key_dec, hp.1, Bool.not_true, cond_false, b1, view_rs, (hin i hi).1, (hin i hi).2, hp.2, Lib.w64_s hi (by omega : L.length ≤ 9223372036854775807)])
    (fun n i hi hp => by
      have b1 : inB 0 (i : Int) (L.length : Int) = true := by simp [inB]; omega
      unfold kOk at hp
      cases h1 : keyOk (L.getD i ⟨#[]⟩) with
      | false => simp only [l3, r3, Lib.rs_len, Lib.dlt, hi, decide_true, Lib.dle0, Bool.and_self, cond_true, Lib.toN, hk i hi, key_dec, h1, Bool.not_false]
      | true =>
        rw [h1, Bool.true_and, Bool.not_eq_false'] at hp
        simp only [l3, r3, Lib.rs_len, Lib.dlt, hi, decide_true, Lib.dle0, Bool.and_self, cond_true, Lib.toN, hk i hi, key_dec, h1, Bool.not_true, cond_false, b1, view_rs, (hin i hi).1, (hin i hi).2, hp])
    (fun n => by
      simp only [l3, r3, Lib.rs_len, Lib.dlt, Nat.lt_irrefl, decide_false, cond_false, h2.1, h2.2, cond_true]
      rw [show decide ((w.length : Int) ≤ 2) = decide (w.length ≤ 2) by rw [decide_eq_decide]; omega, show decide ((m.length : Int) ≤ 4) = decide (m.length ≤ 4) by rw [decide_eq_decide]; omega]
      cases decide (w.length ≤ 2) <;> cases decide (m.length ≤ 4) <;> rfl) Lib.big (Lib.lt_big (by omega))
  refine key.trans ?_
  unfold pOk keysOk
  rw [hL]
  cases (List.range L.length).all (kOk L) <;> rfl
end Go.FG.Pu.spec_PolicyOk

namespace Go.FG.Pu.spec_SumMore
/-- One bit. -/
def rd (x : Int) : Int := bif decide (Int.tmod x 2 = 1) then (IntKind.wrap IntKind.u32 (↑(BitVec.toNat (BitVec.xor (BitVec.ofInt 32 (IntKind.wrap IntKind.u32 (Int.tdiv x 2))) (BitVec.ofInt 32 3558460437))) : Int)) else (IntKind.wrap IntKind.u32 (Int.tdiv x 2))
def rds : Nat → Int → Int | 0, x => x | n + 1, x => rds n (rd x)
theorem in6 {R : Type} (N : Nat) (K : Int → ByteArray → Int → Int → Option R) (a : ByteArray) (b : Int) : ∀ (d n i : Nat) (x : Int), d + i = 8 → d < n → l6 N K n x a b (i : Int) = K (rds d x) a b 8 := by
  intro d
  induction d with
  | zero =>
    intro n i x h1 h2
    obtain ⟨n, rfl⟩ : ∃ m, n = m + 1 := ⟨n - 1, by omega⟩
    have : i = 8 := by omega
    subst this
    rfl
  | succ d ih =>
    intro n i x h1 h2
    obtain ⟨n, rfl⟩ : ∃ m, n = m + 1 := ⟨n - 1, by omega⟩
    have hi1 : w64 ((i : Int) + 1) = ((i + 1 : Nat) : Int) := Lib.w64_ok (by omega) (by omega)
    rw [rds, ← ih n (i + 1) (rd x) (by omega) (by omega)]
    simp only [l6, r6, decide_eq_true (show (i : Int) < 8 by omega), cond_true, hi1, rd]
    cases decide (Int.tmod x 2 = 1) <;> rfl
def su (t : ByteArray) : Nat → Nat → Int → Int
  | 0, _, s => s
  | d + 1, i, s => su t d (i + 1) (rds 8 (IntKind.wrap IntKind.u32 (↑(BitVec.toNat (BitVec.xor (BitVec.ofInt 32 s) (BitVec.ofInt 32 (IntKind.wrap IntKind.u32 (↑(btN t i) : Int))))) : Int)))
theorem run (s : Int) (t : ByteArray) (ht : t.size ≤ 4611686018427387904) : vo s t = some (su t t.size 0 s) := by
  unfold vo b
  have key : ∀ (d n i : Nat) (s : Int), d + i = t.size → d < n → l2 Lib.big (fun (y11 : Int) (_ : ByteArray) (_ : Int) => some y11) n s t (i : Int) = some (su t d i s) := by
    intro d
    induction d with
    | zero =>
      intro n i s h1 h2
      obtain ⟨n, rfl⟩ : ∃ m, n = m + 1 := ⟨n - 1, by omega⟩
      simp only [l2, r2, Lib.dlt, decide_eq_false (show ¬ i < t.size by omega), cond_false]; rfl
    | succ d ih =>
      intro n i s h1 h2
      obtain ⟨n, rfl⟩ : ∃ m, n = m + 1 := ⟨n - 1, by omega⟩
      have hi1 : w64 ((i : Int) + 1) = ((i + 1 : Nat) : Int) := Lib.w64_ok (by omega) (by omega)
      simp only [l2, r2, Lib.dlt, decide_eq_true (show i < t.size by omega), Lib.dle0, Bool.and_self, cond_true, Lib.toN]
      have e := in6 (R := Int) Lib.big (fun y7 y8 y9 _ => l2 Lib.big (fun y11 _ _ => some y11) n y7 y8 (w64 (y9 + 1))) t (i : Int) 8 Lib.big 0 (IntKind.wrap IntKind.u32 (↑(BitVec.toNat (BitVec.xor (BitVec.ofInt 32 s) (BitVec.ofInt 32 (IntKind.wrap IntKind.u32 (↑(btN t i) : Int))))) : Int)) rfl (by unfold Lib.big; omega)
      refine e.trans ?_
      rw [hi1, ih n (i + 1) _ (by omega) (by omega)]; rfl
  exact key t.size Lib.big 0 s (by omega) (Lib.lt_big (by omega))
theorem ok (s : Int) (t : ByteArray) (ht : t.size ≤ 4611686018427387904) : c s t = true ∧ v s t = su t t.size 0 s := out s t (run s t ht)
end Go.FG.Pu.spec_SumMore

namespace Go.FG.Pu.spec_SumOf
theorem ok (t : ByteArray) (ht : t.size ≤ 4611686018427387904) : c t = true ∧ v t = Pu.spec_SumMore.su t t.size 0 4294967295 := by
  have h := Pu.spec_SumMore.ok 4294967295 t ht
  refine out t ?_
  unfold vo b
  rw [h.1, h.2]; rfl
end Go.FG.Pu.spec_SumOf

namespace Go.FG.Pu.spec_SketchPlace
theorem wr32 (x : Int) : 0 ≤ IntKind.wrap IntKind.u32 x ∧ IntKind.wrap IntKind.u32 x < 4294967296 := by
  have e : IntKind.wrap IntKind.u32 x = x % 4294967296 := rfl
  rw [e]; omega
theorem rd_rng (x : Int) : 0 ≤ Pu.spec_SumMore.rd x ∧ Pu.spec_SumMore.rd x < 4294967296 := by
  unfold Pu.spec_SumMore.rd
  cases decide (Int.tmod x 2 = 1) <;> exact wr32 _
theorem rds_rng : ∀ (n : Nat) (x : Int), 0 ≤ x ∧ x < 4294967296 → 0 ≤ Pu.spec_SumMore.rds n x ∧ Pu.spec_SumMore.rds n x < 4294967296
  | 0, _, h => h
  | n + 1, x, _ => rds_rng n _ (rd_rng x)
theorem su_rng (t : ByteArray) : ∀ (d i : Nat) (s : Int), 0 ≤ s ∧ s < 4294967296 → 0 ≤ Pu.spec_SumMore.su t d i s ∧ Pu.spec_SumMore.su t d i s < 4294967296
  | 0, _, _, h => h
  | d + 1, i, s, h => su_rng t d (i + 1) _ (rds_rng 8 _ (wr32 _))
def keyed (i : Nat) (key : ByteArray) : ByteArray := key ++ bytesOf [[CV.i IntKind.u8 (i : Int)]]
def sm (i : Nat) (key : ByteArray) : Int := Pu.spec_SumMore.su (keyed i key) (keyed i key).size 0 4294967295
/-- A key's place in a row. -/
def pl (i : Nat) (key : ByteArray) : Nat := (Int.tmod (sm i key) 16).toNat
theorem sm_rng (i : Nat) (key : ByteArray) : 0 ≤ sm i key ∧ sm i key < 4294967296 := su_rng _ _ _ _ (by omega)
theorem pl_int (i : Nat) (key : ByteArray) : Int.tmod (sm i key) 16 = (pl i key : Int) := by
  have := sm_rng i key
  have h : 0 ≤ Int.tmod (sm i key) 16 := Int.tmod_nonneg _ this.1
  unfold pl; omega
theorem pl_lt (i : Nat) (key : ByteArray) : pl i key < 16 := by
  have := sm_rng i key
  have h := Int.tmod_lt_of_pos (sm i key) (show (0 : Int) < 16 by omega)
  have h2 : 0 ≤ Int.tmod (sm i key) 16 := Int.tmod_nonneg _ this.1
  unfold pl; omega
theorem size_keyed (i : Nat) (key : ByteArray) : (keyed i key).size = key.size + 1 := by unfold keyed; rw [ByteArray.size_append, Lib.size_1]
theorem ok (i : Nat) (key : ByteArray) (hi : i < 3) (hk : key.size ≤ 140737488355328) : c (i : Int) key = true ∧ v (i : Int) key = (pl i key : Int) := by
  refine out _ _ ?_
  unfold vo b
  have e : (key ++ bytesOf (List.set (zeros [Ck.i IntKind.u8] 1) 0 [CV.i IntKind.u8 (IntKind.wrap IntKind.u8 (i : Int))])) = keyed i key := by
    unfold keyed
    match i, hi with
    | 0, _ => rfl
    | 1, _ => rfl
    | 2, _ => rfl
  have hs := size_keyed i key
  have h := Pu.spec_SumOf.ok (keyed i key) (by omega)
  have e2 : ByteArray.size key + ByteArray.size (bytesOf (List.set (zeros [Ck.i IntKind.u8] 1) 0 [CV.i IntKind.u8 (IntKind.wrap IntKind.u8 (i : Int))])) = key.size + 1 := by rw [Lib.set1, Lib.size_1]
  rw [e2, e, decide_eq_true (by omega), cond_true, h.1, h.2, cond_true]
  have hp := pl_int i key
  have hl := pl_lt i key
  unfold sm at hp
  rw [hp, Lib.w64_ok (by omega) (by omega)]
end Go.FG.Pu.spec_SketchPlace

namespace Go.FG.Pu.spec_l12Copy
open Lib (rr)
theorem run {R : Type} (N : Nat) (K0 : Int → Row → Int → Int → Int → Option R) (K1 : Int → Row → Int → Int → Int → Row → Option R) (s : List (List Int)) (z y a : Int) (hf : Pu.impl_copySketch.fitS s) (m : Nat) (hm : s.length + 1 < m) (kr : Row → Option R)
    (h0 : s = [] → K0 0 (rr s) z y a = kr []) (h1 : K1 s.length (rr s) z y a (rr s) = kr (rr s)) : l3 N K0 K1 m 0 (rr s) z y a = kr (rr s) := by
  obtain ⟨m, rfl⟩ : ∃ m', m = m' + 1 := ⟨m - 1, by omega⟩
  have hz : ∀ q : Row, zeros [Ck.i IntKind.i64] 0 ++ q = q := fun q => rfl
  have hci : ∀ i (h : i < s.length), roomy (List.length (zeros [Ck.i IntKind.i64] 0) + List.length (Lib.ri s[i])) 8 = true := fun i h => by
    have := hf.2 _ (List.getElem_mem h)
    exact Lib.roomy_of (by rw [Lib.ri_len]; simp [zeros]; omega) (by rw [Lib.ri_len]; simp [zeros]; omega)
  by_cases hs : s = []
  · subst hs
    simp only [l3, r3, Lib.rr_len, List.length_nil, Int.natCast_zero, Int.lt_irrefl, decide_false, cond_false]
    exact h0 rfl
  · have hp : 0 < s.length := List.length_pos_iff.2 hs
    have key := Lib.for_run (R := R) s.length (fun m i (x : Row) => l3a N K0 K1 m (i : Int) (rr s) z y a x) (fun i => rr (s.take i)) (kr (rr s)) (fun m i h => by
      have hl := hf.1
      simp only [l3a, r3a, Lib.rr_len, Lib.dlt, h, decide_true, cond_true, Lib.dle0, Bool.true_and, Lib.toN, Lib.rr0 h, cvL, hci i h, hz, Lib.set1, List.length_singleton]
      rw [Lib.roomy_of (by rw [List.length_take]; omega) (by rw [List.length_take]; omega), cond_true, Lib.w64_s h (by omega)]
      have := Lib.take_snoc (fun q => [CV.l 3 (Lib.ri q)]) s i h
      unfold rr; rw [← this]) (fun m => by
      simp only [l3a, r3a, Lib.rr_len, Lib.dlt, Nat.lt_irrefl, decide_false, cond_false, List.take_length]; exact h1) m 1 hp (by omega)
    have e := hci 0 hp
    have e0 := Lib.rr0 (l := s) hp
    simp only [l3, r3, decide_eq_true (show (0 : Int) < (s.length : Int) by omega), cond_true, Bool.and_self, Lib.rr_len, show decide ((0 : Int) ≤ 0) = true from rfl, show Int.toNat 0 = 0 from rfl, e0, cvL, e, hz, cond_true, Lib.set1, List.nil_append]
    rw [show w64 (0 + 1) = ((1 : Nat) : Int) from rfl]
    refine Eq.trans ?_ key
    have := Lib.take_snoc (fun q => [CV.l 3 (Lib.ri q)]) s 0 hp
    unfold rr; rw [show (0 + 1) = 1 from rfl] at this; rw [← this]; rfl
theorem ok (s : List (List Int)) (a : Int) (hf : Pu.impl_copySketch.fitS s) : c (rr s) a = true ∧ v (rr s) a = (rr s, a) := by
  refine out _ _ ?_
  unfold vo b
  exact run Lib.big (fun _ _ _ _ y => some ([], y)) (fun _ _ _ _ y20 y21 => some (y21, y20)) s a 0 a hf Lib.big (Lib.lt_big (by have := hf.1; omega)) (fun x => some (x, a)) (fun _ => rfl) rfl
end Go.FG.Pu.spec_l12Copy

namespace Go.FG.Pu.spec_SketchBump
open Lib (rr ri)
def bq (p : Nat) (q : List Int) : List Int := q.set p (bif decide (q.getD p 0 < 15) then q.getD p 0 + 1 else q.getD p 0)
def bump (s : List (List Int)) (key : ByteArray) : List (List Int) := s.mapIdx fun i q => bq (Pu.spec_SketchPlace.pl i key) q
def half (s : List (List Int)) : List (List Int) := s.map fun q => q.map fun n => Int.tdiv n 2
/-- A sketch behind one more key. -/
def val (s : List (List Int)) (a : Int) (key : ByteArray) : List (List Int) × Int :=
  bif Pu.spec_SketchOk.skOk s a then (bif decide (a + 1 = 64) then (half (bump s key), 0) else (bump s key, a + 1)) else (s, a)
def fR (q : List Int) : List CV := [CV.l 3 (ri q)]
theorem rr_map (L : List (List Int)) : rr L = L.map fR := rfl
theorem setI (q : List Int) (p : Nat) (x : Int) (h : p < q.length) : setC (ri q) p 0 [CV.i IntKind.i64 x] = ri (q.set p x) := Lib.setC_map (fun n => [CV.i IntKind.i64 n]) q p 0 _ x h rfl
theorem setR (L : List (List Int)) (i : Nat) (q : List Int) (h : i < L.length) : setC (L.map fR) i 0 [CV.l 3 (ri q)] = (L.set i q).map fR := Lib.setC_map fR L i 0 _ q h rfl
theorem cellR (L : List (List Int)) (i : Nat) (h : i < L.length) : cellAt (L.map fR) i 0 = CV.l 3 (ri L[i]) := Lib.cell_map fR L i 0 h
theorem ok_open {s : List (List Int)} {a : Int} (h : Pu.spec_SketchOk.skOk s a = true) : s.length = 3 ∧ (0 ≤ a ∧ a ≤ 63) ∧ ∀ q ∈ s, q.length = 16 ∧ ∀ n ∈ q, 0 ≤ n ∧ n ≤ 15 := by
  unfold Pu.spec_SketchOk.skOk at h
  rw [Bool.and_eq_true, Bool.and_eq_true] at h
  refine ⟨of_decide_eq_true h.1, of_decide_eq_true h.2.1, fun q hq => ?_⟩
  have := List.all_eq_true.1 h.2.2 q hq
  unfold Pu.spec_SketchOk.rowOk at this
  rw [Bool.and_eq_true] at this
  refine ⟨of_decide_eq_true this.1, fun n hn => ?_⟩
  have := List.all_eq_true.1 this.2 n hn
  unfold Pu.spec_SketchOk.nOk at this
  exact of_decide_eq_true this
theorem getD_of {q : List Int} {p : Nat} (h : p < q.length) : q.getD p 0 = q[p] := by simp [List.getD, h]
/-- Rounds that bump. -/
theorem run5 {R : Type} (K : ByteArray → Int → Int → Int → Row → Option R) (s : List (List Int)) (key : ByteArray) (y a : Int) (hs : s.length = 3) (hq : ∀ q ∈ s, q.length = 16 ∧ ∀ n ∈ q, 0 ≤ n ∧ n ≤ 15) (hk : key.size ≤ 140737488355328) :
    l5 Lib.big K Lib.big key 0 y a (rr s) = K key 3 y a (rr (bump s key)) := by
  refine (Lib.upd_run fR s (fun i q => bq (Pu.spec_SketchPlace.pl i key) q) (fun m (i : Nat) x => l5 Lib.big K m key (i : Int) y a x) (fun x => K key 3 y a x) (fun m i L h h2 hL hLi => ?_) (fun m L hL => ?_) Lib.big (Lib.lt_big (by omega)))
  · have hp := Pu.spec_SketchPlace.ok i key (by omega) hk
    have hpl := Pu.spec_SketchPlace.pl_lt i key
    obtain ⟨h16, hn⟩ := hq _ (List.getElem_mem h)
    have e0 : cellAt (L.map fR) i 0 = CV.l 3 (ri s[i]) := by rw [cellR L i h2, hLi]
    have hb : Pu.spec_SketchPlace.pl i key < s[i].length := by omega
    have hx := hn _ (List.getElem_mem hb)
    simp only [l5, r5, List.length_map, Lib.dlt, h2, decide_true, cond_true, hp.1, hp.2, Lib.dle0, Bool.and_self, Lib.toN, e0, cvL, Lib.ri_len, h16, hpl, Lib.ri0 hb, cvI]
    unfold bq
    rw [getD_of hb]
    cases hd : decide (s[i][Pu.spec_SketchPlace.pl i key] < 15) with
    | true =>
      have := of_decide_eq_true hd
      rw [cond_true, cond_true, Lib.w64_ok (x := s[i][Pu.spec_SketchPlace.pl i key] + 1) (by omega) (by omega), setI _ _ _ hb, setR _ _ _ h2, Lib.w64_s h2 (by omega)]
    | false =>
      rw [cond_false, cond_false, Lib.w64_s h2 (by omega), List.set_getElem_self, ← hLi, List.set_getElem_self]
  · simp only [l5, r5, List.length_map, Lib.dlt, hL, Nat.lt_irrefl, decide_false, cond_false, hs]; rfl
theorem bump_fit {s : List (List Int)} {key : ByteArray} (hs : s.length = 3) (hq : ∀ q ∈ s, q.length = 16 ∧ ∀ n ∈ q, 0 ≤ n ∧ n ≤ 15) : (bump s key).length = 3 ∧ ∀ q ∈ bump s key, q.length = 16 ∧ ∀ n ∈ q, 0 ≤ n ∧ n ≤ 15 := by
  unfold bump
  refine ⟨by simp [hs], fun q hm => ?_⟩
  obtain ⟨i, hi, rfl⟩ := List.mem_mapIdx.1 hm
  obtain ⟨h16, hn⟩ := hq _ (List.getElem_mem hi)
  unfold bq
  have hb : Pu.spec_SketchPlace.pl i key < s[i].length := by have := Pu.spec_SketchPlace.pl_lt i key; omega
  refine ⟨by rw [List.length_set]; exact h16, fun n h => ?_⟩
  rcases List.mem_or_eq_of_mem_set h with h | h
  · exact hn n h
  · rw [getD_of hb] at h
    have hx := hn _ (List.getElem_mem hb)
    rw [h]
    cases hd : decide (s[i][Pu.spec_SketchPlace.pl i key] < 15) with
    | true => have := of_decide_eq_true hd; rw [cond_true]; omega
    | false => rw [cond_false]; exact hx
/-- One row is halved. -/
theorem run17 {R : Type} (K : Int → Int → Int → Int → Row → Option R) (L : List (List Int)) (i : Nat) (h : i < L.length) (y a : Int) (hl : L.length ≤ 1048576) (hq : L[i].length = 16) (hn : ∀ n ∈ L[i], 0 ≤ n ∧ n ≤ 15) :
    l17 Lib.big K Lib.big (i : Int) 0 y a (L.map fR) = K i 16 y a ((L.set i (L[i].map fun n => Int.tdiv n 2)).map fR) := by
  have hmi : L[i].mapIdx (fun _ n => Int.tdiv n 2) = L[i].map fun n => Int.tdiv n 2 := by
    apply List.ext_getElem <;> simp
  have key := Lib.for_run (L[i].length) (fun m (k : Nat) x => l17 Lib.big K m (i : Int) (k : Int) y a x) (fun k => (L.set i (Lib.updL L[i] (fun _ n => Int.tdiv n 2) k)).map fR) (K i 16 y a ((L.set i (L[i].map fun n => Int.tdiv n 2)).map fR)) (fun m k hk => ?_) (fun m => ?_) Lib.big 0 (Nat.zero_le _) (Lib.lt_big (by omega))
  · rw [Lib.updL_0, List.set_getElem_self] at key; exact key
  · have hu := Lib.updL_len L[i] (fun _ n => Int.tdiv n 2) k (by omega)
    generalize hU : Lib.updL L[i] (fun _ n => Int.tdiv n 2) k = U at hu
    have hku : k < U.length := by omega
    have hat : U[k] = L[i][k] := by subst hU; exact Lib.updL_at _ _ _ hk _
    have hset : U.set k (Int.tdiv L[i][k] 2) = Lib.updL L[i] (fun _ n => Int.tdiv n 2) (k + 1) := by subst hU; exact Lib.updL_set L[i] (fun _ n => Int.tdiv n 2) k hk
    have h2 : i < (L.set i U).length := by simpa using h
    have e0 : cellAt ((L.set i U).map fR) i 0 = CV.l 3 (ri U) := by rw [cellR _ _ h2, List.getElem_set_self]
    have hx := hn _ (List.getElem_mem hk)
    have ht : 0 ≤ Int.tdiv L[i][k] 2 := Int.tdiv_nonneg hx.1 (by omega)
    have ht2 : Int.tdiv L[i][k] 2 ≤ 15 := Int.le_trans (Int.tdiv_le_self _ hx.1) hx.2
    simp only [l17, r17, List.length_map, List.length_set, Lib.dlt, h, hku, decide_true, cond_true, Lib.dle0, Bool.and_self, Lib.toN, e0, cvL, Lib.ri_len, Lib.ri0 hku, cvI, hat]
    rw [Lib.w64_ok (x := Int.tdiv L[i][k] 2) (by omega) (by omega), setI _ _ _ hku, setR _ _ _ h2, hset, List.set_set, Lib.w64_s hk (by omega)]
  · have e0 : cellAt ((L.set i (Lib.updL L[i] (fun _ n => Int.tdiv n 2) L[i].length)).map fR) i 0 = CV.l 3 (ri (L[i].map fun n => Int.tdiv n 2)) := by rw [cellR _ _ (by simpa using h), List.getElem_set_self, Lib.updL_end, hmi]
    simp only [l17, r17, List.length_map, List.length_set, Lib.dlt, h, decide_true, cond_true, Lib.dle0, Bool.and_self, Lib.toN, e0, cvL, Lib.ri_len, Nat.lt_irrefl, decide_false, cond_false]
    rw [Lib.updL_end, hmi, hq]; rfl
theorem run14 {R : Type} (K : Int → Int → Int → Row → Option R) (s : List (List Int)) (y a : Int) (hs : s.length = 3) (hq : ∀ q ∈ s, q.length = 16 ∧ ∀ n ∈ q, 0 ≤ n ∧ n ≤ 15) :
    l14 Lib.big K Lib.big 0 y a (rr s) = K 3 y a (rr (half s)) := by
  have hmi : s.mapIdx (fun _ q => q.map fun n => Int.tdiv n 2) = half s := by
    unfold half; apply List.ext_getElem <;> simp
  rw [← hmi]
  refine (Lib.upd_run fR s (fun _ q => q.map fun n => Int.tdiv n 2) (fun m (i : Nat) x => l14 Lib.big K m (i : Int) y a x) (fun x => K 3 y a x) (fun m i L h h2 hL hLi => ?_) (fun m L hL => ?_) Lib.big (Lib.lt_big (by omega)))
  · obtain ⟨h16, hn⟩ := hq _ (List.getElem_mem h)
    simp only [l14, r14, List.length_map, Lib.dlt, h2, decide_true, cond_true]
    rw [run17 _ L i h2 y a (by omega) (by rw [hLi]; exact h16) (by rw [hLi]; exact hn), Lib.w64_s h2 (by omega), hLi]
  · simp only [l14, r14, List.length_map, Lib.dlt, hL, Nat.lt_irrefl, decide_false, cond_false, hs]; rfl
theorem ok (s : List (List Int)) (a : Int) (key : ByteArray) (hf : Pu.impl_copySketch.fitS s) (hk : key.size ≤ 140737488355328) : c (rr s) a key = true ∧ v (rr s) a key = (rr (val s a key).1, (val s a key).2) := by
  refine out _ _ _ ?_
  have h1 := Pu.spec_l12Copy.ok s a hf
  have h2 := Pu.spec_SketchOk.ok s a hf
  unfold vo b val
  rw [h1.1, h1.2, h2.1, h2.2, cond_true, cond_true]
  cases hok : Pu.spec_SketchOk.skOk s a with
  | false => rfl
  | true =>
    obtain ⟨hs, ha, hq⟩ := ok_open hok
    obtain ⟨b1, b2⟩ := bump_fit (key := key) hs hq
    rw [Bool.not_true, cond_false, cond_true, run5 _ s key _ _ hs hq hk, Lib.w64_ok (x := a + 1) (by omega) (by omega)]
    cases hd : decide (a + 1 = 64) with
    | false => rfl
    | true => rw [cond_true, cond_true, run14 _ _ _ _ b1 b2]
end Go.FG.Pu.spec_SketchBump

namespace Go.FG.Pu.spec_SketchGuess
open Lib (rr ri)
def gs (key : ByteArray) : Nat → List (List Int) → Int → Int
  | _, [], x => x
  | i, q :: r, x => gs key (i + 1) r (bif decide (q.getD (Pu.spec_SketchPlace.pl i key) 0 < x) then q.getD (Pu.spec_SketchPlace.pl i key) 0 else x)
def val (s : List (List Int)) (a : Int) (key : ByteArray) : Int := bif Pu.spec_SketchOk.skOk s a then gs key 0 s 15 else 0
theorem gs_step (key : ByteArray) (s : List (List Int)) (i : Nat) (h : i < s.length) (x : Int) : gs key i (s.drop i) x = gs key (i + 1) (s.drop (i + 1)) (bif decide (s[i].getD (Pu.spec_SketchPlace.pl i key) 0 < x) then s[i].getD (Pu.spec_SketchPlace.pl i key) 0 else x) := by
  rw [List.drop_eq_getElem_cons h]; rfl
theorem ok (s : List (List Int)) (a : Int) (key : ByteArray) (hf : Pu.impl_copySketch.fitS s) (hk : key.size ≤ 140737488355328) : c (rr s) a key = true ∧ v (rr s) a key = val s a key := by
  refine out _ _ _ ?_
  have h2 := Pu.spec_SketchOk.ok s a hf
  unfold vo b val
  rw [h2.1, h2.2, cond_true]
  cases hok : Pu.spec_SketchOk.skOk s a with
  | false => rfl
  | true =>
    obtain ⟨hs, ha, hq⟩ := Pu.spec_SketchBump.ok_open hok
    rw [Bool.not_true, cond_false, cond_true]
    have := Lib.loop_gen (fun m (t : Nat × Int) => l5 Lib.big (fun (_ : ByteArray) (y6 _ : Int) (_ : Row) (_ : Int) => some y6) m key t.2 (t.1 : Int) (rr s) a) (fun t => s.length - t.1) (fun t => t.1 ≤ s.length) (fun t => some (gs key t.1 (s.drop t.1) t.2)) (fun m t ht => by
      obtain ⟨i, x⟩ := t
      dsimp only at ht ⊢
      by_cases h : i < s.length
      · right
        have hp := Pu.spec_SketchPlace.ok i key (by omega) hk
        have hpl := Pu.spec_SketchPlace.pl_lt i key
        obtain ⟨h16, hn⟩ := hq _ (List.getElem_mem h)
        have hb : Pu.spec_SketchPlace.pl i key < s[i].length := by omega
        refine ⟨(i + 1, bif decide (s[i].getD (Pu.spec_SketchPlace.pl i key) 0 < x) then s[i].getD (Pu.spec_SketchPlace.pl i key) 0 else x), by dsimp only; omega, by dsimp only; omega, by rw [← gs_step key s i h x], ?_⟩
        simp only [l5, r5, Lib.rr_len, Lib.dlt, h, decide_true, cond_true, hp.1, hp.2, Lib.dle0, Bool.and_self, Lib.toN, Lib.rr0 h, cvL, Lib.ri_len, h16, hpl, Lib.ri0 hb, cvI, Lib.w64_s h (by omega : s.length ≤ 9223372036854775807)]
        rw [Pu.spec_SketchBump.getD_of hb]
        cases decide (s[i][Pu.spec_SketchPlace.pl i key] < x) <;> rfl
      · left
        have : i = s.length := by omega
        subst this
        simp only [l5, r5, Lib.rr_len, Lib.dlt, Nat.lt_irrefl, decide_false, cond_false, List.drop_length, gs]) Lib.big (0, 15) (Nat.zero_le _) (Lib.lt_big (by dsimp only; omega))
    simpa using this
end Go.FG.Pu.spec_SketchGuess

namespace Go.FG.Pu.spec_l13Copy
open Lib (rr rs)
theorem ok (w m : List ByteArray) (s : List (List Int)) (a : Int) (hw : w.length ≤ 1048576) (hm : m.length ≤ 1048576) (hf : Pu.impl_copySketch.fitS s) : c (rs w) (rs m) (rr s) a = true ∧ v (rs w) (rs m) (rr s) a = (rs w, rs m, rr s, a) := by
  have h3 := Pu.spec_l12Copy.ok s a hf
  have r1 : roomy (List.length (zeros [Ck.s] 0) + List.length (rs w)) 16 = true := Lib.roomy_of (by simp [zeros, Lib.rs_len]; omega) (by simp [zeros, Lib.rs_len]; omega)
  have r2 : roomy (List.length (zeros [Ck.s] 0) + List.length (rs m)) 16 = true := Lib.roomy_of (by simp [zeros, Lib.rs_len]; omega) (by simp [zeros, Lib.rs_len]; omega)
  exact out _ _ _ _ (by unfold vo b; rw [r1, r2, h3.1, h3.2, cond_true, cond_true, cond_true]; rfl)
end Go.FG.Pu.spec_l13Copy

namespace Go.FG.Pu.spec_l13Without
theorem ok (l : List ByteArray) (k : ByteArray) (hl : l.length ≤ 1048576) : c (Lib.rs l) k = true ∧ v (Lib.rs l) k = Lib.rs (Pu.spec_l13In.without l k) := by
  refine out _ _ ?_
  unfold vo b
  have key := Lib.for_run l.length (fun m (i : Nat) (x : Row) => l3 Lib.big (fun (_ : Row) (_ : ByteArray) (_ : Int) (y7 : Row) => some y7) m (Lib.rs l) k (i : Int) x) (fun i => Lib.rs (Pu.spec_l13In.without (l.take i) k)) (some (Lib.rs (Pu.spec_l13In.without l k))) (fun m i h => by
    have hlen := Pu.spec_l13In.without_len (l := l.take i) (k := k)
    rw [List.length_take] at hlen
    simp only [l3, r3, Lib.rs_len, Lib.dlt, h, decide_true, Lib.dle0, Bool.and_self, cond_true, Lib.toN, Lib.rs0 h, cvS, Lib.beq_ba, Lib.set1, List.length_singleton, Lib.w64_s h (by omega : l.length ≤ 9223372036854775807)]
    rw [Lib.roomy_of (by omega) (by omega), cond_true]
    have e : Pu.spec_l13In.without (l.take (i + 1)) k = Pu.spec_l13In.without (l.take i) k ++ (bif !decide (l[i] = k) then [l[i]] else []) := by
      unfold Pu.spec_l13In.without
      rw [List.take_succ_eq_append_getElem h, List.filter_append]
      cases hd : decide (l[i] = k) <;> simp [hd]
    rw [e]
    cases hd : decide (l[i] = k) with
    | true => rw [Bool.not_true, cond_false, cond_false, List.append_nil]
    | false =>
      rw [Bool.not_false, cond_true, cond_true]
      unfold Lib.rs; rw [List.map_append]; rfl) (fun m => by
    simp only [l3, r3, Lib.rs_len, Lib.dlt, Nat.lt_irrefl, decide_false, cond_false, List.take_length]) Lib.big 0 (Nat.zero_le _) (Lib.lt_big (by omega))
  exact key
end Go.FG.Pu.spec_l13Without

namespace Go.FG.Pu.spec_PolicyTouch
open Lib (rr rs)
open Pu.spec_l13In (has without has_iff has_no without_no without_len without_lt)
open Pu.spec_PolicyOk (keyOk kOk keysOk pOk key_dec)
/-- What a touched policy comes to: keys, sketch, and the key that goes. -/
def val (w m : List ByteArray) (s : List (List Int)) (a : Int) (key : ByteArray) : List ByteArray × List ByteArray × List (List Int) × Int × ByteArray :=
  bif pOk w m s a && keyOk key then
    bif has w key then (without w key ++ [key], m, (Pu.spec_SketchBump.val s a key).1, (Pu.spec_SketchBump.val s a key).2, ⟨#[]⟩)
    else bif has m key then (w, without m key ++ [key], (Pu.spec_SketchBump.val s a key).1, (Pu.spec_SketchBump.val s a key).2, ⟨#[]⟩)
    else bif decide ((w ++ [key]).length ≤ 2) then (w ++ [key], m, (Pu.spec_SketchBump.val s a key).1, (Pu.spec_SketchBump.val s a key).2, ⟨#[]⟩)
    else bif decide (m.length < 4) then ((w ++ [key]).tail, m ++ [(w ++ [key]).getD 0 ⟨#[]⟩], (Pu.spec_SketchBump.val s a key).1, (Pu.spec_SketchBump.val s a key).2, ⟨#[]⟩)
    else bif decide (Pu.spec_SketchGuess.val (Pu.spec_SketchBump.val s a key).1 (Pu.spec_SketchBump.val s a key).2 ((w ++ [key]).getD 0 ⟨#[]⟩) > Pu.spec_SketchGuess.val (Pu.spec_SketchBump.val s a key).1 (Pu.spec_SketchBump.val s a key).2 (m.getD 0 ⟨#[]⟩)) then
      ((w ++ [key]).tail, m.tail ++ [(w ++ [key]).getD 0 ⟨#[]⟩], (Pu.spec_SketchBump.val s a key).1, (Pu.spec_SketchBump.val s a key).2, m.getD 0 ⟨#[]⟩)
    else ((w ++ [key]).tail, m, (Pu.spec_SketchBump.val s a key).1, (Pu.spec_SketchBump.val s a key).2, (w ++ [key]).getD 0 ⟨#[]⟩)
  else (w, m, s, a, ⟨#[]⟩)
theorem snoc (l : List ByteArray) (k : ByteArray) : rs l ++ List.set (zeros [Ck.s] 1) 0 [CV.s k] = rs (l ++ [k]) := by unfold Lib.rs; rw [List.map_append]; rfl
theorem snoc1 (l : List ByteArray) (k : ByteArray) : rs l ++ [[CV.s k]] = rs (l ++ [k]) := by unfold Lib.rs; rw [List.map_append]; rfl
theorem zer (l : List ByteArray) : zeros [Ck.s] 0 ++ rs l = rs l := rfl
theorem head0 (l : List ByteArray) : cvS (cellAt (rs l) (Int.toNat 0) 0) = l.getD 0 ⟨#[]⟩ := by cases l <;> rfl
theorem tail1 (l : List ByteArray) : view (rs l) (Int.toNat 1) (Int.toNat (l.length : Int)) = rs l.tail := by
  unfold view Lib.rs
  rw [show Int.toNat 1 = 1 from rfl, Lib.toN, List.drop_one, ← List.map_tail, List.take_of_length_le (by simp)]
theorem keysOk_mem {l : List ByteArray} (h : keysOk l = true) {k : ByteArray} (hk : k ∈ l) : keyOk k = true := by
  unfold keysOk at h
  rw [List.all_eq_true] at h
  obtain ⟨i, hi, rfl⟩ := List.getElem_of_mem hk
  have := h i (by simpa using hi)
  unfold kOk at this
  rw [Bool.and_eq_true] at this
  have e : l.getD i ⟨#[]⟩ = l[i] := by simp [List.getD, hi]
  rw [e] at this; exact this.1
theorem keysOk_iff {l : List ByteArray} : keysOk l = true ↔ (∀ k ∈ l, keyOk k = true) ∧ l.Nodup := by
  constructor
  · intro h
    refine ⟨fun k hk => keysOk_mem h hk, ?_⟩
    rw [List.nodup_iff_pairwise_ne, List.pairwise_iff_getElem]
    intro i j hi hj hij he
    unfold keysOk at h
    rw [List.all_eq_true] at h
    have h2 := h j (by simpa using hj)
    unfold kOk at h2
    have e : l.getD j ⟨#[]⟩ = l[j] := by simp [List.getD, hj]
    rw [e, Bool.and_eq_true, Bool.not_eq_true', has_no] at h2
    refine h2.2 ?_
    rw [← he]
    have : (l.take j)[i]'(by rw [List.length_take]; omega) = l[i] := List.getElem_take ..
    rw [← this]; exact List.getElem_mem _
  · intro h
    unfold keysOk
    rw [List.all_eq_true]
    intro j hj
    have hj : j < l.length := by simpa using hj
    unfold kOk
    have e : l.getD j ⟨#[]⟩ = l[j] := by simp [List.getD, hj]
    rw [e, Bool.and_eq_true, Bool.not_eq_true', has_no]
    refine ⟨h.1 _ (List.getElem_mem hj), fun hm => ?_⟩
    obtain ⟨i, hi, he⟩ := List.getElem_of_mem hm
    rw [List.length_take] at hi
    rw [List.getElem_take] at he
    have h2 := h.2
    rw [List.nodup_iff_pairwise_ne, List.pairwise_iff_getElem] at h2
    exact h2 i j (by omega) hj (by omega) he
theorem key_size {k : ByteArray} (h : keyOk k = true) : 1 ≤ k.size ∧ k.size ≤ 30 := by
  unfold keyOk at h; have := of_decide_eq_true h; omega
theorem sk_fit {s : List (List Int)} {a : Int} {key : ByteArray} (h : Pu.impl_copySketch.fitS s) : Pu.impl_copySketch.fitS (Pu.spec_SketchBump.val s a key).1 := by
  unfold Pu.spec_SketchBump.val
  cases hok : Pu.spec_SketchOk.skOk s a with
  | false => exact h
  | true =>
    obtain ⟨hs, _, hq⟩ := Pu.spec_SketchBump.ok_open hok
    obtain ⟨b1, b2⟩ := Pu.spec_SketchBump.bump_fit (key := key) hs hq
    rw [cond_true]
    cases decide (a + 1 = 64) with
    | false => exact ⟨by rw [cond_false]; dsimp only; omega, fun q h => by have := (b2 q h).1; omega⟩
    | true =>
      rw [cond_true]; dsimp only; unfold Pu.spec_SketchBump.half
      refine ⟨by rw [List.length_map]; omega, fun q h => ?_⟩
      obtain ⟨q', hq', rfl⟩ := List.mem_map.1 h
      rw [List.length_map]; have := (b2 q' hq').1; omega
theorem getD_mem {l : List ByteArray} (h : 0 < l.length) : l.getD 0 ⟨#[]⟩ ∈ l := by
  cases l with
  | nil => simp at h
  | cons x r => exact List.mem_cons_self ..
theorem p_open {w m : List ByteArray} {s : List (List Int)} {a : Int} (h : pOk w m s a = true) : keysOk (w ++ m) = true ∧ w.length ≤ 2 ∧ m.length ≤ 4 ∧ Pu.spec_SketchOk.skOk s a = true := by
  unfold pOk at h
  simp only [Bool.and_eq_true, decide_eq_true_eq] at h
  exact ⟨h.1, h.2.1, h.2.2.1, h.2.2.2⟩
theorem ok (w m : List ByteArray) (s : List (List Int)) (a : Int) (key : ByteArray) (hw : w.length ≤ 1048576) (hm : m.length ≤ 1048576) (hf : Pu.impl_copySketch.fitS s) (hk : key.size ≤ 140737488355328) :
    c (rs w) (rs m) (rr s) a key = true ∧ v (rs w) (rs m) (rr s) a key = (rs (val w m s a key).1, rs (val w m s a key).2.1, rr (val w m s a key).2.2.1, (val w m s a key).2.2.2.1, (val w m s a key).2.2.2.2) := by
  refine out _ _ _ _ _ ?_
  have h1 := Pu.spec_l13Copy.ok w m s a hw hm hf
  have h2 := Pu.spec_PolicyOk.ok w m s a hw hm hf
  have h3 := Pu.spec_SketchBump.ok s a key hf hk
  have h4 := Pu.spec_l13In.ok w key (by omega)
  have h5 := Pu.spec_l13In.ok m key (by omega)
  have h6 := Pu.spec_l13Without.ok w key hw
  have h7 := Pu.spec_l13Without.ok m key hm
  have sf := sk_fit (a := a) (key := key) hf
  unfold vo b
  simp only [Lib.lt, h1.1, h1.2, h2.1, h2.2, cond_true]
  unfold val
  cases hp : pOk w m s a with
  | false => rfl
  | true =>
    obtain ⟨p1, p2, p3, p4⟩ := p_open hp
    rw [key_dec, Bool.true_and]
    cases hk2 : keyOk key with
    | false => rfl
    | true =>
      have hks := key_size hk2
      have l6 := without_len (l := w) (k := key)
      have l7 := without_len (l := m) (k := key)
      simp only [Bool.not_true, cond_false, cond_true, h3.1, h3.2, h4.1, h4.2, h5.1, h5.2, h6.1, h6.2, h7.1, h7.2, snoc1, zer, Lib.rs_len, Lib.set1, List.length_singleton]
      rw [Lib.roomy_of (n := (without w key).length + 1) (by omega) (by omega), Lib.roomy_of (n := (without m key).length + 1) (by omega) (by omega), Lib.roomy_of (n := w.length + 1) (by omega) (by omega)]
      simp only [cond_true]
      cases hA : has w key with
      | true => rfl
      | false =>
        cases hB : has m key with
        | true => rfl
        | false =>
          simp only [cond_false]
          rw [show decide (((w ++ [key]).length : Int) ≤ 2) = decide ((w ++ [key]).length ≤ 2) by rw [decide_eq_decide]; omega]
          cases hC : decide ((w ++ [key]).length ≤ 2) with
          | true => rfl
          | false =>
            have hlw : (w ++ [key]).length = 3 := by
              have := of_decide_eq_false hC
              rw [List.length_append, List.length_singleton] at this ⊢; omega
            have hfm : (w ++ [key]).getD 0 ⟨#[]⟩ ∈ w ++ [key] := getD_mem (by omega)
            have hfs : ((w ++ [key]).getD 0 ⟨#[]⟩).size ≤ 30 := by
              rcases List.mem_append.1 hfm with h | h
              · exact (key_size (keysOk_mem p1 (List.mem_append_left _ h))).2
              · rw [List.mem_singleton] at h; rw [h]; exact hks.2
            have g1 := Pu.spec_SketchGuess.ok (Pu.spec_SketchBump.val s a key).1 (Pu.spec_SketchBump.val s a key).2 ((w ++ [key]).getD 0 ⟨#[]⟩) sf (by omega)
            have i1 : inB 1 ((w ++ [key]).length : Int) ((w ++ [key]).length : Int) = true := by rw [hlw]; rfl
            have ht : (w ++ [key]).tail.length = 2 := by rw [List.length_tail]; omega
            have rz : roomy (List.length (zeros [Ck.s] 0) + (w ++ [key]).tail.length) 16 = true := Lib.roomy_of (by rw [ht]; decide) (by rw [ht]; decide)
            simp only [cond_false, decide_eq_true (show (0 : Int) < ((w ++ [key]).length : Int) by omega), i1, cond_true, head0, tail1, rz, zer, snoc1, Lib.rs_len, Lib.roomy_of (n := m.length + 1) (b := 16) (by omega) (by omega), g1.1, g1.2]
            rw [show decide ((m.length : Int) < 4) = decide (m.length < 4) by rw [decide_eq_decide]; omega]
            cases hD : decide (m.length < 4) with
            | true => rfl
            | false =>
              have hm4 : m.length = 4 := by have := of_decide_eq_false hD; omega
              have hmm : m.getD 0 ⟨#[]⟩ ∈ m := getD_mem (by omega)
              have hms := (key_size (keysOk_mem p1 (List.mem_append_right _ hmm))).2
              have g2 := Pu.spec_SketchGuess.ok (Pu.spec_SketchBump.val s a key).1 (Pu.spec_SketchBump.val s a key).2 (m.getD 0 ⟨#[]⟩) sf (by omega)
              have i2 : inB 1 (m.length : Int) (m.length : Int) = true := by simp [inB]; omega
              have ht2 : m.tail.length = 3 := by rw [List.length_tail]; omega
              have rz2 : roomy (List.length (zeros [Ck.s] 0) + m.tail.length) 16 = true := Lib.roomy_of (by rw [ht2]; decide) (by rw [ht2]; decide)
              simp only [cond_false, decide_eq_true (show (0 : Int) < (m.length : Int) by omega), i2, cond_true, rz2, snoc1, Lib.roomy_of (n := m.tail.length + 1) (b := 16) (by omega) (by omega), g2.1, g2.2]
              cases decide (Pu.spec_SketchGuess.val (Pu.spec_SketchBump.val s a key).1 (Pu.spec_SketchBump.val s a key).2 ((w ++ [key]).getD 0 ⟨#[]⟩) > Pu.spec_SketchGuess.val (Pu.spec_SketchBump.val s a key).1 (Pu.spec_SketchBump.val s a key).2 (m.getD 0 ⟨#[]⟩)) <;> rfl
/-! How much is in it. -/
def lens (s : List (List Int)) : List Nat := s.map List.length
theorem lens_bump (s : List (List Int)) (key : ByteArray) : lens (Pu.spec_SketchBump.bump s key) = lens s := by
  unfold lens Pu.spec_SketchBump.bump
  apply List.ext_getElem
  · simp
  · intro i h1 h2
    simp [Pu.spec_SketchBump.bq]
theorem lens_half (s : List (List Int)) : lens (Pu.spec_SketchBump.half s) = lens s := by
  unfold lens Pu.spec_SketchBump.half
  rw [List.map_map]; apply List.map_congr_left; intro q _; simp
theorem lens_sk (s : List (List Int)) (a : Int) (key : ByteArray) : lens (Pu.spec_SketchBump.val s a key).1 = lens s := by
  unfold Pu.spec_SketchBump.val
  cases Pu.spec_SketchOk.skOk s a with
  | false => rfl
  | true =>
    cases decide (a + 1 = 64) with
    | false => exact lens_bump s key
    | true => exact (lens_half _).trans (lens_bump s key)
theorem val_bd (w m : List ByteArray) (s : List (List Int)) (a : Int) (key : ByteArray) : (val w m s a key).1.length ≤ w.length + 1 ∧ (val w m s a key).2.1.length ≤ m.length + 1 ∧ lens (val w m s a key).2.2.1 = lens s := by
  have hw := without_len (l := w) (k := key)
  have hm := without_len (l := m) (k := key)
  have hs := lens_sk s a key
  unfold val
  cases pOk w m s a && keyOk key with
  | false => exact ⟨by rw [cond_false]; exact Nat.le_succ _, by rw [cond_false]; exact Nat.le_succ _, rfl⟩
  | true =>
    rw [cond_true]
    cases has w key with
    | true => refine ⟨?_, ?_, hs⟩ <;> (simp only [cond_true]; simp; try omega)
    | false =>
      cases has m key with
      | true => refine ⟨?_, ?_, hs⟩ <;> (simp only [cond_true, cond_false]; simp; try omega)
      | false =>
        cases decide ((w ++ [key]).length ≤ 2) with
        | true => refine ⟨?_, ?_, hs⟩ <;> (simp only [cond_true, cond_false]; simp; try omega)
        | false =>
          cases decide (m.length < 4) with
          | true => refine ⟨?_, ?_, hs⟩ <;> (simp only [cond_true, cond_false]; simp; try omega)
          | false =>
            cases decide (Pu.spec_SketchGuess.val (Pu.spec_SketchBump.val s a key).1 (Pu.spec_SketchBump.val s a key).2 ((w ++ [key]).getD 0 ⟨#[]⟩) > Pu.spec_SketchGuess.val (Pu.spec_SketchBump.val s a key).1 (Pu.spec_SketchBump.val s a key).2 (m.getD 0 ⟨#[]⟩)) with
            | true => refine ⟨?_, ?_, hs⟩ <;> (simp only [cond_true, cond_false]; simp; try omega)
            | false => refine ⟨?_, ?_, hs⟩ <;> (simp only [cond_true, cond_false]; simp; try omega)
end Go.FG.Pu.spec_PolicyTouch

namespace Go.FG.Pu.impl_copyTexts
theorem ok (l : Row) (hl : l.length ≤ 4294967296) : c l = true ∧ v l = l := by
  refine out l ?_
  unfold vo b
  rw [show List.length (zeros [Ck.s] 0) + l.length = l.length by simp [zeros], Lib.roomy_of (by omega) (by omega)]
  rfl
end Go.FG.Pu.impl_copyTexts

namespace Go.FG.Pu.impl_copyPolicy
open Lib (rr rs)
theorem ok (w m : List ByteArray) (s : List (List Int)) (a : Int) (hw : w.length ≤ 1048576) (hm : m.length ≤ 1048576) (hf : Pu.impl_copySketch.fitS s) : c (rs w) (rs m) (rr s) a = true ∧ v (rs w) (rs m) (rr s) a = (rs w, rs m, rr s, a) := by
  have h1 := Pu.impl_copyTexts.ok (rs w) (by rw [Lib.rs_len]; omega)
  have h2 := Pu.impl_copyTexts.ok (rs m) (by rw [Lib.rs_len]; omega)
  have h3 := Pu.impl_copySketch.ok s a hf
  exact out _ _ _ _ (by unfold vo b; rw [h1.1, h1.2, h2.1, h2.2, h3.1, h3.2, cond_true, cond_true, cond_true])
end Go.FG.Pu.impl_copyPolicy

namespace Go.FG.Pu.impl_SketchOk
open Lib (rr)
theorem in_dec (n a b : Int) : Pu.impl_within.v n a b = decide (a ≤ n ∧ n ≤ b) := Pu.spec_SketchOk.in_dec n a b
theorem ok (s : List (List Int)) (a : Int) (hf : Pu.impl_copySketch.fitS s) : c (rr s) a = true ∧ v (rr s) a = Pu.spec_SketchOk.skOk s a := by
  refine out _ _ ?_
  unfold vo b
  have hl := hf.1
  rw [Lib.rr_len]
  have inner : ∀ i (h : i < s.length) (K0 K1 : Bool → Row → Row → Int → Int → Row → Int → Int → Row → Int → Option Bool) (kf kt : Option Bool) (x : Int)
      (h0 : ∀ j : Int, K0 false (Lib.ri s[i]) (rr s) s.length i (Lib.ri s[i]) x j (rr s) a = kf) (h1 : ∀ j : Int, K1 false (Lib.ri s[i]) (rr s) s.length i (Lib.ri s[i]) x j (rr s) a = kt), x = (s[i].length : Int) → l5 Lib.big K0 K1 Lib.big false (Lib.ri s[i]) (rr s) s.length (i : Int) (Lib.ri s[i]) x 0 (rr s) a = bif (s[i]).all Pu.spec_SketchOk.nOk then kt else kf := fun i h K0 K1 kf kt x h0 h1 hx => by
    subst hx
    exact Lib.all_list (s[i]) Pu.spec_SketchOk.nOk (fun m (j : Nat) => l5 Lib.big K0 K1 m false (Lib.ri s[i]) (rr s) s.length (i : Int) (Lib.ri s[i]) s[i].length (j : Int) (rr s) a) kf kt
      (fun m j hj hp => by
        have hl := hf.2 _ (List.getElem_mem h)
        unfold Pu.spec_SketchOk.nOk at hp
        simp only [l5, r5, Lib.dlt, hj, decide_true, Lib.dle0, Bool.and_self, cond_true, Lib.toN, Lib.ri_len, Lib.ri0 hj, cvI, in_dec, hp, Bool.not_true, cond_false, Lib.w64_s hj (by omega : s[i].length ≤ 9223372036854775807)])
      (fun m j hj hp => by
        unfold Pu.spec_SketchOk.nOk at hp
        simp only [l5, r5, Lib.dlt, hj, decide_true, Lib.dle0, Bool.and_self, cond_true, Lib.toN, Lib.ri_len, Lib.ri0 hj, cvI, in_dec, hp, Bool.not_false, h0])
      (fun m => by simp only [l5, r5, Lib.dlt, Nat.lt_irrefl, decide_false, cond_false, h1]) Lib.big (Lib.lt_big (by have := hf.2 _ (List.getElem_mem h); omega))
  have ro : ∀ q : List Int, Pu.spec_SketchOk.rowOk q = (q.all Pu.spec_SketchOk.nOk && decide (q.length = 16)) := fun q => Bool.and_comm ..
  have key := Lib.all_list s Pu.spec_SketchOk.rowOk (fun m (i : Nat) => l2 Lib.big (fun (y36 : Bool) (_ : Row) (_ _ : Int) (_ : Row) (_ : Int) => some y36) (fun (_ : Bool) (_ : Row) (_ _ : Int) (y46 : Row) (y47 : Int) => bif (decide ((↑(List.length y46) : Int) = 3)) then (some (Pu.impl_within.v y47 0 63)) else (some false)) m false (rr s) s.length (i : Int) (rr s) a) (some false) (some (decide (s.length = 3) && decide (0 ≤ a ∧ a ≤ 63)))
    (fun m i h hp => by
      rw [ro, Bool.and_eq_true] at hp
      have h16 := of_decide_eq_true hp.2
      simp only [l2, r2, Lib.rr_len, Lib.dlt, h, decide_true, Lib.dle0, Bool.and_self, cond_true, Lib.toN, Lib.rr0 h, cvL, Lib.ri_len]
      rw [inner i h _ _ (some false) _ _ (fun _ => rfl) (fun _ => rfl) rfl, hp.1, cond_true, Lib.ri_len, h16, show (((16 : Nat) : Int) != 16) = false from rfl, cond_false, Lib.w64_s h (by omega)])
    (fun m i h hp => by
      rw [ro] at hp
      simp only [l2, r2, Lib.rr_len, Lib.dlt, h, decide_true, Lib.dle0, Bool.and_self, cond_true, Lib.toN, Lib.rr0 h, cvL, Lib.ri_len]
      rw [inner i h _ _ (some false) _ _ (fun _ => rfl) (fun _ => rfl) rfl]
      cases ha : (s[i]).all Pu.spec_SketchOk.nOk with
      | false => rfl
      | true =>
        rw [ha, Bool.true_and] at hp
        have := of_decide_eq_false hp
        rw [cond_true, Lib.ri_len, show ((s[i].length : Int) != 16) = true by simp; omega, cond_true])
    (fun m => by
      simp only [l2, r2, Lib.rr_len, Lib.dlt, Nat.lt_irrefl, decide_false, cond_false, in_dec]
      rw [show decide ((s.length : Int) = 3) = decide (s.length = 3) by rw [decide_eq_decide]; omega]
      cases decide (s.length = 3) <;> rfl) Lib.big (Lib.lt_big (by omega))
  refine key.trans ?_
  unfold Pu.spec_SketchOk.skOk
  cases s.all Pu.spec_SketchOk.rowOk <;> cases decide (s.length = 3) <;> cases decide (0 ≤ a ∧ a ≤ 63) <;> rfl
end Go.FG.Pu.impl_SketchOk

namespace Go.FG.Pu.slices_Grow_string
theorem ok (n : Int) (h0 : 0 ≤ n) (h1 : n ≤ 4294967296) : c n = true ∧ v n = [] := by
  refine out n ?_
  unfold vo b
  have e : w64 (n - w64 (0 - 0)) = n := by
    rw [show w64 (0 - 0) = 0 from rfl, Int.sub_zero, Lib.w64_ok (by omega) (by omega)]
  rw [e, decide_eq_false (show ¬ n < 0 by omega), cond_false]
  by_cases hn : n > 0
  · rw [decide_eq_true hn, cond_true, decide_eq_true h0, decide_eq_true (show n ≤ 9223372036854775807 by omega), Lib.roomy_of (by simp; omega) (by simp; omega)]
    simp [view]
  · rw [decide_eq_false hn, cond_false]
end Go.FG.Pu.slices_Grow_string

namespace Go.FG.Pu.slices_Concat_string
theorem ok (p q : Row) (hp : p.length ≤ 1048576) (hq : q.length ≤ 1048576) : c [[CV.l 9 p], [CV.l 9 q]] = true ∧ v [[CV.l 9 p], [CV.l 9 q]] = p ++ q := by
  refine out _ ?_
  have w1 : w64 (0 + (p.length : Int)) = (p.length : Int) := by rw [Int.zero_add]; exact Lib.w64_ok (by omega) (by omega)
  have w2 : w64 ((p.length : Int) + (q.length : Int)) = (p.length : Int) + (q.length : Int) := Lib.w64_ok (by omega) (by omega)
  have hg := Pu.slices_Grow_string.ok ((p.length : Int) + (q.length : Int)) (by omega) (by omega)
  have d1 : decide ((p.length : Int) < 0) = false := decide_eq_false (by omega)
  have d2 : decide ((p.length : Int) + (q.length : Int) < 0) = false := decide_eq_false (by omega)
  have g1 : roomy (0 + p.length) 16 = true := Lib.roomy_of (by omega) (by omega)
  have g2 : roomy (p.length + q.length) 16 = true := Lib.roomy_of (by omega) (by omega)
  have c0 : cvL (cellAt [[CV.l 9 p], [CV.l 9 q]] 0 0) = p := rfl
  have c1 : cvL (cellAt [[CV.l 9 p], [CV.l 9 q]] 1 0) = q := rfl
  unfold vo b
  obtain ⟨n, hn⟩ : ∃ n, Lib.big = n + 3 := ⟨18446744073709551613, rfl⟩
  generalize Lib.big = B at hn ⊢
  subst hn
  have k3 : ∀ (R : Type) (K : Row → Int → Row → Int → Int → Option R) (S : Row), S = [[CV.l 9 p], [CV.l 9 q]] → l3 (n + 3) K (n + 3) S 0 S 2 0 = K S ((p.length : Int) + (q.length : Int)) S 2 2 := by
    intro R K S hS
    subst hS
    simp only [l3, r3, List.length_cons, List.length_nil, show Int.toNat 0 = 0 from rfl, c0, w1, d1, show w64 (0 + 1) = 1 from rfl, show Int.toNat 1 = 1 from rfl, c1, w2, d2, show w64 (1 + 1) = 2 from rfl, cond_false, show decide ((0 : Int) < 2) = true from rfl, show decide ((1 : Int) < 2) = true from rfl, show decide ((2 : Int) < 2) = false from rfl, show decide ((0 : Int) ≤ 0) = true from rfl, show decide ((0 : Int) ≤ 1) = true from rfl, show ((0 + 1 + 1 : Nat) : Int) = 2 from rfl, Bool.and_self, cond_true]
  have k11 : ∀ (R : Type) (K : Row → Int → Int → Row → Option R) (S : Row), S = [[CV.l 9 p], [CV.l 9 q]] → l11 (n + 3) K (n + 3) S 2 0 [] = K S 2 2 (p ++ q) := by
    intro R K S hS
    subst hS
    simp only [l11, r11, List.length_cons, List.length_nil, show Int.toNat 0 = 0 from rfl, c0, g1, show w64 (0 + 1) = 1 from rfl, show Int.toNat 1 = 1 from rfl, c1, List.nil_append, g2, show w64 (1 + 1) = 2 from rfl, cond_false, show decide ((0 : Int) < 2) = true from rfl, show decide ((1 : Int) < 2) = true from rfl, show decide ((2 : Int) < 2) = false from rfl, show decide ((0 : Int) ≤ 0) = true from rfl, show decide ((0 : Int) ≤ 1) = true from rfl, show ((0 + 1 + 1 : Nat) : Int) = 2 from rfl, Bool.and_self, cond_true]
  show l3 (n + 3) _ (n + 3) _ 0 _ 2 0 = _
  rw [k3 _ _ _ rfl, hg.1, hg.2, cond_true]
  exact k11 _ _ _ rfl
end Go.FG.Pu.slices_Concat_string

namespace Go.FG.Pu.impl_keysIn
theorem ok (w m : List ByteArray) (s : Row) (a : Int) (hw : w.length ≤ 1048576) (hm : m.length ≤ 1048576) : c (Lib.rs w) (Lib.rs m) s a = true ∧ v (Lib.rs w) (Lib.rs m) s a = Lib.rs (w ++ m) := by
  have h := Pu.slices_Concat_string.ok (Lib.rs w) (Lib.rs m) (by rw [Lib.rs_len]; exact hw) (by rw [Lib.rs_len]; exact hm)
  have e : List.set (List.set (zeros [Ck.l 9] 2) 0 [CV.l 9 (Lib.rs w)]) 1 [CV.l 9 (Lib.rs m)] = [[CV.l 9 (Lib.rs w)], [CV.l 9 (Lib.rs m)]] := rfl
  have e2 : Lib.rs w ++ Lib.rs m = Lib.rs (w ++ m) := by unfold Lib.rs; rw [List.map_append]
  exact out _ _ _ _ (by unfold vo b; rw [e, h.1, h.2, cond_true, e2])
end Go.FG.Pu.impl_keysIn

namespace Go.FG.Pu.slices_Index_string
theorem ok (l : List ByteArray) (k : ByteArray) (hl : l.length ≤ 4294967296) : c (Lib.rs l) k = true ∧ decide (v (Lib.rs l) k ≥ 0) = Pu.spec_l13In.has l k := by
  have h := out (Lib.rs l) k (x := Lib.fi (fun i => decide ((l.getD i ⟨#[]⟩) = k)) l.length 0) (by
    unfold vo b
    rw [Lib.rs_len]
    refine Lib.fi_gen (fun i => decide ((l.getD i ⟨#[]⟩) = k)) l.length (fun m (i : Nat) => l2 Lib.big (fun (_ : Row) (_ : ByteArray) (y7 _ _ : Int) => some y7) (fun (_ : Row) (_ : ByteArray) (_ _ _ : Int) => some (-1)) m (Lib.rs l) k 0 (l.length : Int) (i : Int)) some (fun m i hi hp => ?_) (fun m i hi hp => ?_) (fun m => ?_) Lib.big (Lib.lt_big (by omega))
    · have hg : l.getD i ⟨#[]⟩ = l[i] := by simp [List.getD, hi]
      rw [hg] at hp
      have hp' : decide (k = l[i]) = true := by rw [← hp, decide_eq_decide]; exact eq_comm
      simp only [l2, r2, Lib.rs_len, Lib.dlt, hi, decide_true, Lib.dle0, Bool.and_self, cond_true, Lib.toN, Lib.rs0 hi, cvS, Lib.beq_ba, hp']
    · have hg : l.getD i ⟨#[]⟩ = l[i] := by simp [List.getD, hi]
      rw [hg] at hp
      have hp' : decide (k = l[i]) = false := by rw [← hp, decide_eq_decide]; exact eq_comm
      simp only [l2, r2, Lib.rs_len, Lib.dlt, hi, decide_true, Lib.dle0, Bool.and_self, cond_true, Lib.toN, Lib.rs0 hi, cvS, Lib.beq_ba, hp', cond_false, Lib.w64_s hi (by omega : l.length ≤ 9223372036854775807)]
    · simp only [l2, r2, Lib.dlt, Nat.lt_irrefl, decide_false, cond_false])
  refine ⟨h.1, ?_⟩
  rw [h.2]
  exact Lib.fi_any l (fun x => decide (x = k)) _ (fun i hi => by simp [List.getD, hi])
end Go.FG.Pu.slices_Index_string

namespace Go.FG.Pu.slices_Contains_string
theorem ok (l : List ByteArray) (k : ByteArray) (hl : l.length ≤ 4294967296) : c (Lib.rs l) k = true ∧ v (Lib.rs l) k = Pu.spec_l13In.has l k := by
  have h := Pu.slices_Index_string.ok l k hl
  exact out _ _ (by unfold vo b; rw [h.1, h.2, cond_true])
end Go.FG.Pu.slices_Contains_string

namespace Go.FG.Pu.impl_PolicyOk
open Lib (rr rs)
open Pu.spec_l13In (has without has_iff has_no)
open Pu.spec_PolicyOk (keyOk kOk keysOk pOk view_rs)
theorem key_dec (k : ByteArray) : Pu.impl_isKey.v k = keyOk k := Pu.spec_SketchOk.in_dec _ _ _
theorem ok (w m : List ByteArray) (s : List (List Int)) (a : Int) (hw : w.length ≤ 1048576) (hm : m.length ≤ 1048576) (hf : Pu.impl_copySketch.fitS s) : c (rs w) (rs m) (rr s) a = true ∧ v (rs w) (rs m) (rr s) a = pOk w m s a := by
  refine out _ _ _ _ ?_
  have h2 := Pu.impl_SketchOk.ok s a hf
  have h3 := Pu.impl_keysIn.ok w m (rr s) a hw hm
  unfold vo b
  rw [h3.1, h3.2, cond_true, Lib.rs_len]
  have hl : (w ++ m).length ≤ 2097152 := by rw [List.length_append]; omega
  have hin : ∀ i, i < (w ++ m).length → Pu.slices_Contains_string.c (rs ((w ++ m).take i)) ((w ++ m).getD i ⟨#[]⟩) = true ∧ Pu.slices_Contains_string.v (rs ((w ++ m).take i)) ((w ++ m).getD i ⟨#[]⟩) = has ((w ++ m).take i) ((w ++ m).getD i ⟨#[]⟩) := fun i hi => Pu.slices_Contains_string.ok _ _ (by rw [List.length_take]; omega)
  have hk : ∀ i (hi : i < (w ++ m).length), cvS (cellAt (rs (w ++ m)) i 0) = (w ++ m).getD i ⟨#[]⟩ := fun i hi => by rw [Lib.rs0 hi, show (w ++ m).getD i ⟨#[]⟩ = (w ++ m)[i] by rw [List.getD_eq_getElem?_getD, List.getElem?_eq_getElem hi]; rfl]; rfl
  generalize hL : w ++ m = L at hl hin hk
  have key := Lib.all_gen (kOk L) L.length (fun n (i : Nat) => l3 Lib.big (fun (y8 : Bool) (_ _ : Int) (_ _ _ : Row) (_ : Int) (_ : Row) => some y8) (fun (_ : Bool) (_ _ : Int) (y19 y20 y21 : Row) (y22 : Int) (_ : Row) => bif (decide ((↑(List.length y19) : Int) ≤ 2)) then (bif (decide ((↑(List.length y20) : Int) ≤ 4)) then (bif (Pu.impl_SketchOk.c y21 y22) then (some (Pu.impl_SketchOk.v y21 y22)) else (none)) else (some false)) else (some false)) n false (L.length : Int) (i : Int) (rs w) (rs m) (rr s) a (rs L)) (some false) (some (decide (w.length ≤ 2) && (decide (m.length ≤ 4) && Pu.spec_SketchOk.skOk s a)))
    (fun n i hi hp => by
      unfold kOk at hp
      rw [Bool.and_eq_true, Bool.not_eq_true'] at hp
      have b1 : inB 0 (i : Int) (L.length : Int) = true := by simp [inB]; omega
      simp only [l3, r3, Lib.rs_len, Lib.dlt, hi, decide_true, Lib.dle0, Bool.and_self, cond_true, Lib.toN, hk i hi, key_dec, hp.1, Bool.not_true, cond_false, b1, view_rs, (hin i hi).1, (hin i hi).2, hp.2, Lib.w64_s hi (by omega : L.length ≤ 9223372036854775807)])
    (fun n i hi hp => by
      have b1 : inB 0 (i : Int) (L.length : Int) = true := by simp [inB]; omega
      unfold kOk at hp
      cases h1 : keyOk (L.getD i ⟨#[]⟩) with
      | false => simp only [l3, r3, Lib.rs_len, Lib.dlt, hi, decide_true, Lib.dle0, Bool.and_self, cond_true, Lib.toN, hk i hi, key_dec, h1, Bool.not_false]
      | true =>
        rw [h1, Bool.true_and, Bool.not_eq_false'] at hp
        simp only [l3, r3, Lib.rs_len, Lib.dlt, hi, decide_true, Lib.dle0, Bool.and_self, cond_true, Lib.toN, hk i hi, key_dec, h1, Bool.not_true, cond_false, b1, view_rs, (hin i hi).1, (hin i hi).2, hp])
    (fun n => by
      simp only [l3, r3, Lib.rs_len, Lib.dlt, Nat.lt_irrefl, decide_false, cond_false, h2.1, h2.2, cond_true]
      rw [show decide ((w.length : Int) ≤ 2) = decide (w.length ≤ 2) by rw [decide_eq_decide]; omega, show decide ((m.length : Int) ≤ 4) = decide (m.length ≤ 4) by rw [decide_eq_decide]; omega]
      cases decide (w.length ≤ 2) <;> cases decide (m.length ≤ 4) <;> rfl) Lib.big (Lib.lt_big (by omega))
  refine key.trans ?_
  unfold pOk keysOk
  rw [hL]
  cases (List.range L.length).all (kOk L) <;> rfl
end Go.FG.Pu.impl_PolicyOk

namespace Go.FG.Pu.impl_SumMore
theorem in6 {R : Type} (N : Nat) (K : Int → ByteArray → Int → Int → Option R) (a : ByteArray) (b : Int) : ∀ (d n i : Nat) (x : Int), d + i = 8 → d < n → l6 N K n x a b (i : Int) = K (Pu.spec_SumMore.rds d x) a b 8 := by
  intro d
  induction d with
  | zero =>
    intro n i x h1 h2
    obtain ⟨n, rfl⟩ : ∃ m, n = m + 1 := ⟨n - 1, by omega⟩
    have : i = 8 := by omega
    subst this
    rfl
  | succ d ih =>
    intro n i x h1 h2
    obtain ⟨n, rfl⟩ : ∃ m, n = m + 1 := ⟨n - 1, by omega⟩
    have hi1 : w64 ((i : Int) + 1) = ((i + 1 : Nat) : Int) := Lib.w64_ok (by omega) (by omega)
    rw [Pu.spec_SumMore.rds, ← ih n (i + 1) (Pu.spec_SumMore.rd x) (by omega) (by omega)]
    simp only [l6, r6, decide_eq_true (show (i : Int) < 8 by omega), cond_true, hi1, Pu.spec_SumMore.rd]
    cases decide (Int.tmod x 2 = 1) <;> rfl
theorem run (s : Int) (t : ByteArray) (ht : t.size ≤ 4611686018427387904) : vo s t = some (Pu.spec_SumMore.su t t.size 0 s) := by
  unfold vo b
  have key : ∀ (d n i : Nat) (s : Int), d + i = t.size → d < n → l2 Lib.big (fun (y11 : Int) (_ : ByteArray) (_ : Int) => some y11) n s t (i : Int) = some (Pu.spec_SumMore.su t d i s) := by
    intro d
    induction d with
    | zero =>
      intro n i s h1 h2
      obtain ⟨n, rfl⟩ : ∃ m, n = m + 1 := ⟨n - 1, by omega⟩
      simp only [l2, r2, Lib.dlt, decide_eq_false (show ¬ i < t.size by omega), cond_false]; rfl
    | succ d ih =>
      intro n i s h1 h2
      obtain ⟨n, rfl⟩ : ∃ m, n = m + 1 := ⟨n - 1, by omega⟩
      have hi1 : w64 ((i : Int) + 1) = ((i + 1 : Nat) : Int) := Lib.w64_ok (by omega) (by omega)
      simp only [l2, r2, Lib.dlt, decide_eq_true (show i < t.size by omega), Lib.dle0, Bool.and_self, cond_true, Lib.toN]
      have e := in6 (R := Int) Lib.big (fun y7 y8 y9 _ => l2 Lib.big (fun y11 _ _ => some y11) n y7 y8 (w64 (y9 + 1))) t (i : Int) 8 Lib.big 0 (IntKind.wrap IntKind.u32 (↑(BitVec.toNat (BitVec.xor (BitVec.ofInt 32 s) (BitVec.ofInt 32 (IntKind.wrap IntKind.u32 (↑(btN t i) : Int))))) : Int)) rfl (by unfold Lib.big; omega)
      refine e.trans ?_
      rw [hi1, ih n (i + 1) _ (by omega) (by omega)]; rfl
  exact key t.size Lib.big 0 s (by omega) (Lib.lt_big (by omega))
theorem ok (s : Int) (t : ByteArray) (ht : t.size ≤ 4611686018427387904) : c s t = true ∧ v s t = Pu.spec_SumMore.su t t.size 0 s := out s t (run s t ht)
end Go.FG.Pu.impl_SumMore

namespace Go.FG.Pu.impl_SumOf
theorem ok (t : ByteArray) (ht : t.size ≤ 4611686018427387904) : c t = true ∧ v t = Pu.spec_SumMore.su t t.size 0 4294967295 := by
  have h := Pu.impl_SumMore.ok 4294967295 t ht
  refine out t ?_
  unfold vo b
  rw [h.1, h.2]; rfl
end Go.FG.Pu.impl_SumOf

namespace Go.FG.Pu.impl_SketchPlace
theorem ok (i : Nat) (key : ByteArray) (hi : i < 3) (hk : key.size ≤ 140737488355328) : c (i : Int) key = true ∧ v (i : Int) key = (Pu.spec_SketchPlace.pl i key : Int) := by
  refine out _ _ ?_
  unfold vo b
  have e : (key ++ bytesOf (List.set (zeros [Ck.i IntKind.u8] 1) 0 [CV.i IntKind.u8 (IntKind.wrap IntKind.u8 (w64 (↑(BitVec.toNat (BitVec.and (BitVec.ofInt 64 (i : Int)) (BitVec.ofInt 64 255))) : Int)))])) = Pu.spec_SketchPlace.keyed i key := by
    unfold Pu.spec_SketchPlace.keyed
    match i, hi with
    | 0, _ => rfl
    | 1, _ => rfl
    | 2, _ => rfl
  have hs := Pu.spec_SketchPlace.size_keyed i key
  have h := Pu.impl_SumOf.ok (Pu.spec_SketchPlace.keyed i key) (by omega)
  have e2 : ByteArray.size key + ByteArray.size (bytesOf (List.set (zeros [Ck.i IntKind.u8] 1) 0 [CV.i IntKind.u8 (IntKind.wrap IntKind.u8 (w64 (↑(BitVec.toNat (BitVec.and (BitVec.ofInt 64 (i : Int)) (BitVec.ofInt 64 255))) : Int)))])) = key.size + 1 := by rw [Lib.set1, Lib.size_1]
  rw [e2, e, decide_eq_true (by omega), cond_true, h.1, h.2, cond_true]
  have hp := Pu.spec_SketchPlace.pl_int i key
  have hl := Pu.spec_SketchPlace.pl_lt i key
  have hr := Pu.spec_SketchPlace.sm_rng i key
  unfold Pu.spec_SketchPlace.sm at hp hr
  rw [Lib.w64_ok (by omega) (by omega), hp]
end Go.FG.Pu.impl_SketchPlace

namespace Go.FG.Pu.impl_SketchBump
open Lib (rr ri)
open Pu.spec_SketchBump (fR bq bump half cellR setI setR getD_of ok_open bump_fit)
theorem run5 {R : Type} (K : ByteArray → Int → Int → Int → Int → Row → Option R) (s : List (List Int)) (key : ByteArray) (y a : Int) (hs : s.length = 3) (hq : ∀ q ∈ s, q.length = 16 ∧ ∀ n ∈ q, 0 ≤ n ∧ n ≤ 15) (hk : key.size ≤ 140737488355328) :
    l5 Lib.big K Lib.big key 3 0 y a (rr s) = K key 3 3 y a (rr (bump s key)) := by
  refine (Lib.upd_run fR s (fun i q => bq (Pu.spec_SketchPlace.pl i key) q) (fun m (i : Nat) x => l5 Lib.big K m key 3 (i : Int) y a x) (fun x => K key 3 3 y a x) (fun m i L h h2 hL hLi => ?_) (fun m L hL => ?_) Lib.big (Lib.lt_big (by omega)))
  · have hp := Pu.impl_SketchPlace.ok i key (by omega) hk
    have hpl := Pu.spec_SketchPlace.pl_lt i key
    obtain ⟨h16, hn⟩ := hq _ (List.getElem_mem h)
    have e0 : cellAt (L.map fR) i 0 = CV.l 3 (ri s[i]) := by rw [cellR L i h2, hLi]
    have hb : Pu.spec_SketchPlace.pl i key < s[i].length := by omega
    have hx := hn _ (List.getElem_mem hb)
    have e3 : decide ((i : Int) < 3) = true := decide_eq_true (by omega)
    simp only [l5, r5, List.length_map, Lib.dlt, h2, e3, decide_true, cond_true, hp.1, hp.2, Lib.dle0, Bool.and_self, Lib.toN, e0, cvL, Lib.ri_len, h16, hpl, Lib.ri0 hb, cvI]
    unfold bq minmax
    rw [getD_of hb, cond_false, Lib.w64_ok (x := s[i][Pu.spec_SketchPlace.pl i key] + 1) (by omega) (by omega)]
    by_cases hd : s[i][Pu.spec_SketchPlace.pl i key] < 15
    · rw [if_neg (by omega), decide_eq_true hd, cond_true, setI _ _ _ hb, setR _ _ _ h2, Lib.w64_s h2 (by omega)]
    · have e15 : s[i][Pu.spec_SketchPlace.pl i key] = 15 := by omega
      rw [if_pos (by omega), decide_eq_false hd, cond_false, e15, setI _ _ _ hb, setR _ _ _ h2, Lib.w64_s h2 (by omega)]
  · have e3 : decide ((s.length : Int) < 3) = false := decide_eq_false (by omega)
    simp only [l5, r5, e3, cond_false, hs]; rfl
theorem run18 {R : Type} (K : Nat → Int → Int → Int → Int → Int → Int → Row → Option R) (L : List (List Int)) (i : Nat) (h : i < L.length) (u w y a : Int) (hl : L.length ≤ 1048576) (hq : L[i].length = 16) (hn : ∀ n ∈ L[i], 0 ≤ n ∧ n ≤ 15) :
    l18 Lib.big K Lib.big i u w 16 0 y a (L.map fR) = K i u w 16 16 y a ((L.set i (L[i].map fun n => Int.tdiv n 2)).map fR) := by
  have hmi : L[i].mapIdx (fun _ n => Int.tdiv n 2) = L[i].map fun n => Int.tdiv n 2 := by
    apply List.ext_getElem <;> simp
  have key := Lib.for_run (L[i].length) (fun m (k : Nat) x => l18 Lib.big K m i u w 16 (k : Int) y a x) (fun k => (L.set i (Lib.updL L[i] (fun _ n => Int.tdiv n 2) k)).map fR) (K i u w 16 16 y a ((L.set i (L[i].map fun n => Int.tdiv n 2)).map fR)) (fun m k hk => ?_) (fun m => ?_) Lib.big 0 (Nat.zero_le _) (Lib.lt_big (by omega))
  · rw [Lib.updL_0, List.set_getElem_self] at key; exact key
  · have hu := Lib.updL_len L[i] (fun _ n => Int.tdiv n 2) k (by omega)
    generalize hU : Lib.updL L[i] (fun _ n => Int.tdiv n 2) k = U at hu
    have hku : k < U.length := by omega
    have hat : U[k] = L[i][k] := by subst hU; exact Lib.updL_at _ _ _ hk _
    have hset : U.set k (Int.tdiv L[i][k] 2) = Lib.updL L[i] (fun _ n => Int.tdiv n 2) (k + 1) := by subst hU; exact Lib.updL_set L[i] (fun _ n => Int.tdiv n 2) k hk
    have h2 : i < (L.set i U).length := by simpa using h
    have e0 : cellAt ((L.set i U).map fR) i 0 = CV.l 3 (ri U) := by rw [cellR _ _ h2, List.getElem_set_self]
    have hx := hn _ (List.getElem_mem hk)
    have ht : 0 ≤ Int.tdiv L[i][k] 2 := Int.tdiv_nonneg hx.1 (by omega)
    have ht2 : Int.tdiv L[i][k] 2 ≤ 15 := Int.le_trans (Int.tdiv_le_self _ hx.1) hx.2
    have e3 : decide ((k : Int) < 16) = true := decide_eq_true (by omega)
    simp only [l18, r18, List.length_map, List.length_set, Lib.dlt, h, hku, e3, decide_true, cond_true, Lib.dle0, Bool.and_self, Lib.toN, e0, cvL, Lib.ri_len, Lib.ri0 hku, cvI, hat]
    rw [Lib.w64_ok (x := Int.tdiv L[i][k] 2) (by omega) (by omega), setI _ _ _ hku, setR _ _ _ h2, hset, List.set_set, Lib.w64_s hk (by omega)]
  · have e3 : decide ((L[i].length : Int) < 16) = false := decide_eq_false (by omega)
    simp only [l18, r18, e3, cond_false]
    rw [Lib.updL_end, hmi, hq]; rfl
theorem run15 {R : Type} (K : Int → Int → Int → Int → Row → Option R) (s : List (List Int)) (y a : Int) (hs : s.length = 3) (hq : ∀ q ∈ s, q.length = 16 ∧ ∀ n ∈ q, 0 ≤ n ∧ n ≤ 15) :
    l15 Lib.big K Lib.big 3 0 y a (rr s) = K 3 3 y a (rr (half s)) := by
  have hmi : s.mapIdx (fun _ q => q.map fun n => Int.tdiv n 2) = half s := by
    unfold half; apply List.ext_getElem <;> simp
  rw [← hmi]
  refine (Lib.upd_run fR s (fun _ q => q.map fun n => Int.tdiv n 2) (fun m (i : Nat) x => l15 Lib.big K m 3 (i : Int) y a x) (fun x => K 3 3 y a x) (fun m i L h h2 hL hLi => ?_) (fun m L hL => ?_) Lib.big (Lib.lt_big (by omega)))
  · obtain ⟨h16, hn⟩ := hq _ (List.getElem_mem h)
    have e3 : decide ((i : Int) < 3) = true := decide_eq_true (by omega)
    have e0 : cellAt (L.map fR) i 0 = CV.l 3 (ri s[i]) := by rw [cellR L i h2, hLi]
    simp only [l15, r15, List.length_map, Lib.dlt, h2, e3, decide_true, cond_true, Lib.dle0, Bool.and_self, Lib.toN, e0, cvL, Lib.ri_len, h16]
    rw [show ((16 : Nat) : Int) = 16 from rfl, run18 _ L i h2 3 i y a (by omega) (by rw [hLi]; exact h16) (by rw [hLi]; exact hn), Lib.w64_s h2 (by omega), hLi]
  · have e3 : decide ((s.length : Int) < 3) = false := decide_eq_false (by omega)
    simp only [l15, r15, e3, cond_false, hs]; rfl
theorem ok (s : List (List Int)) (a : Int) (key : ByteArray) (hf : Pu.impl_copySketch.fitS s) (hk : key.size ≤ 140737488355328) : c (rr s) a key = true ∧ v (rr s) a key = (rr (Pu.spec_SketchBump.val s a key).1, (Pu.spec_SketchBump.val s a key).2) := by
  refine out _ _ _ ?_
  have h1 := Pu.impl_copySketch.ok s a hf
  have h2 := Pu.impl_SketchOk.ok s a hf
  unfold vo b Pu.spec_SketchBump.val
  rw [h1.1, h1.2, h2.1, h2.2, cond_true, cond_true]
  cases hok : Pu.spec_SketchOk.skOk s a with
  | false => rfl
  | true =>
    obtain ⟨hs, ha, hq⟩ := ok_open hok
    obtain ⟨b1, b2⟩ := bump_fit (key := key) hs hq
    rw [Bool.not_true, cond_false, cond_true, Lib.rr_len, hs, show ((3 : Nat) : Int) = 3 from rfl, run5 _ s key _ _ hs hq hk, Lib.w64_ok (x := a + 1) (by omega) (by omega)]
    by_cases hd : a + 1 = 64
    · rw [decide_eq_false (show ¬ a + 1 < 64 by omega), decide_eq_true hd, cond_true, cond_false, Lib.rr_len, b1, show ((3 : Nat) : Int) = 3 from rfl, run15 _ _ _ _ b1 b2]
    · rw [decide_eq_true (show a + 1 < 64 by omega), decide_eq_false hd]; rfl
end Go.FG.Pu.impl_SketchBump

namespace Go.FG.Pu.slices_IndexFunc_string
def p (s : Row) (k : ByteArray) (i : Nat) : Bool := List.beq (ByteArray.toList (cvS (cellAt s i 0))) (ByteArray.toList k)
theorem ok (d : Row) (n : ByteArray) (hl : d.length ≤ 4294967296) : c d n = true ∧ v d n = Lib.fi (p d n) d.length 0 := by
  refine out d n ?_
  unfold vo b
  refine Lib.fi_gen (p d n) d.length (fun m (i : Nat) => l2 Lib.big (fun (_ : Row) (_ : ByteArray) (y7 _ _ : Int) => some y7) (fun (_ : Row) (_ : ByteArray) (_ _ _ : Int) => some (-1)) m d n 0 (d.length : Int) (i : Int)) some (fun m i hi hp => ?_) (fun m i hi hp => ?_) (fun m => ?_) Lib.big (Lib.lt_big (by omega))
  · unfold p at hp
    simp only [l2, r2, Lib.dlt, Lib.dle0, Lib.toN, hi, decide_true, Bool.and_self, cond_true, Pu.impl_withoutKey_1.v, hp]
  · unfold p at hp
    simp only [l2, r2, Lib.dlt, Lib.dle0, Lib.toN, hi, decide_true, Bool.and_self, cond_true, Pu.impl_withoutKey_1.v, hp, cond_false, Lib.w64_s hi (by omega : d.length ≤ 9223372036854775807)]
  · simp only [l2, r2, Lib.dlt, Nat.lt_irrefl, decide_false, cond_false]
end Go.FG.Pu.slices_IndexFunc_string

namespace Go.FG.Pu.slices_DeleteFunc_string
def cn (y : List CV) : Bool := match y with | [.s _] => true | _ => false
def cr (y : List CV) : List CV := [CV.s (cvS (y.getD 0 (.b false)))]
theorem cr_of {y : List CV} (h : cn y = true) : cr y = y := by
  unfold cn at h
  split at h
  · rfl
  · cases h
theorem len_of {y : List CV} (h : cn y = true) : y.length = 1 := by rw [← cr_of h]; rfl
def keep (d : ByteArray) (y : List CV) : Bool := !List.beq (ByteArray.toList (cvS (y.getD 0 (.b false)))) (ByteArray.toList d)
theorem filter_succ (d : ByteArray) {s : Row} {i : Nat} (h : i < s.length) : (s.take (i + 1)).filter (keep d) = (s.take i).filter (keep d) ++ (bif keep d s[i] then [s[i]] else []) := by
  rw [List.take_succ_eq_append_getElem h, List.filter_append]
  cases hk : keep d s[i] <;> simp [hk]
theorem run {R : Type} (N : Nat) (s0 : Row) (d : ByteArray) (hc : s0.all cn = true) (hn : s0.length ≤ 9223372036854775807) (K : ByteArray → Int → Int → Row → Option R) (kr : Row → Option R)
    (hK : ∀ (j : Nat) x, x.length = s0.length → j ≤ s0.length → K d j s0.length x = kr (x.take j)) (m j i : Nat) (x : Row)
    (hi : j < i ∧ i ≤ s0.length ∧ x.length = s0.length ∧ (∀ y ∈ x, y.length = 1) ∧ x.take j = (s0.take i).filter (keep d) ∧ x.drop i = s0.drop i) (hm : s0.length - i < m) :
    l5 N K m d j i x = kr (s0.filter (keep d)) := by
  have hca : ∀ y ∈ s0, cn y = true := List.all_eq_true.1 hc
  refine Lib.loop_gen (fun m (s : Nat × Nat × Row) => l5 N K m d s.1 s.2.1 s.2.2) (fun s => s0.length - s.2.1)
    (fun s => s.1 < s.2.1 ∧ s.2.1 ≤ s0.length ∧ s.2.2.length = s0.length ∧ (∀ y ∈ s.2.2, y.length = 1) ∧ s.2.2.take s.1 = (s0.take s.2.1).filter (keep d) ∧ s.2.2.drop s.2.1 = s0.drop s.2.1)
    (fun _ => kr (s0.filter (keep d))) (fun m s hs => ?_) m (j, i, x) hi hm
  obtain ⟨j, i, x⟩ := s
  obtain ⟨h1, h2, h3, h4, h5, h6⟩ := hs
  simp only at h1 h2 h3 h4 h5 h6 ⊢
  by_cases hin : i < s0.length
  · right
    have hix : i < x.length := by omega
    have hjx : j < x.length := by omega
    have hx : x[i] = s0[i] := by
      have e1 := Lib.drop_cons_of hix
      have e2 := Lib.drop_cons_of hin
      rw [h6, e2] at e1
      exact (List.cons.inj e1).1.symm
    have hd : x.drop (i + 1) = s0.drop (i + 1) := by
      have e1 := Lib.drop_cons_of hix
      have e2 := Lib.drop_cons_of hin
      rw [h6, e2] at e1
      exact (List.cons.inj e1).2.symm
    have hcn := hca _ (List.getElem_mem hin)
    have hf := filter_succ d hin
    cases hk : keep d s0[i] with
    | true =>
      refine ⟨(j + 1, i + 1, x.set j s0[i]), ?_, by simp only; omega, trivial, ?_⟩
      · rw [hk, cond_true, ← h5] at hf
        refine ⟨by simp only; omega, by simp only; omega, by simpa using h3, ?_, ?_, ?_⟩
        · intro y hy
          rcases List.mem_or_eq_of_mem_set hy with h | h
          · exact h4 y h
          · rw [h]; exact len_of hcn
        · rw [hf]
          rw [List.take_succ_eq_append_getElem (by simpa using hjx)]
          simp [List.take_set_of_le]
        · simp only
          rw [List.drop_set_of_lt (by omega)]; exact hd
      · have e : Pu.impl_withoutKey_1.v (cvS (cellAt x i 0)) d = false := by
          have : (!Pu.impl_withoutKey_1.v (cvS (cellAt x i 0)) d) = true := by
            rw [Lib.cellAt_of hix, hx]; exact hk
          simpa using this
        have es : setC x j 0 [CV.s (cvS (cellAt x i 0))] = x.set j s0[i] := by
          have hl := h4 _ (List.getElem_mem hjx)
          rw [Lib.setC_eq hjx, Lib.cellAt_of hix, hx]
          have : splice x[j] 0 (cr s0[i]) = s0[i] := by
            rw [cr_of hcn]
            unfold splice
            have := len_of hcn
            simp [hl, this, List.drop_eq_nil_of_le]
          unfold cr at this
          rw [this]
        have b1 : (j : Int) < (x.length : Int) := by omega
        simp only [l5, r5, Lib.dlt, Lib.dle0, Lib.toN, hix, hjx, decide_true, Bool.true_and, cond_true, e, Bool.not_false, es, Lib.w64_s hin hn, Lib.w64_s (show j < s0.length by omega) hn]
    | false =>
      refine ⟨(j, i + 1, x), ?_, by simp only; omega, trivial, ?_⟩
      · rw [hk, cond_false, List.append_nil, ← h5] at hf
        exact ⟨by simp only; omega, by simp only; omega, h3, h4, hf.symm, hd⟩
      · have e : Pu.impl_withoutKey_1.v (cvS (cellAt x i 0)) d = true := by
          have : (!Pu.impl_withoutKey_1.v (cvS (cellAt x i 0)) d) = false := by
            rw [Lib.cellAt_of hix, hx]; exact hk
          simpa using this
        simp only [l5, r5, Lib.dlt, Lib.dle0, Lib.toN, hix, decide_true, Bool.true_and, cond_true, e, Bool.not_true, cond_false, Lib.w64_s hin hn]
  · left
    have : i = s0.length := by omega
    subst this
    rw [List.take_length] at h5
    have e := hK j x h3 (by omega)
    rw [h5] at e
    have hix : ¬ s0.length < x.length := by omega
    simp only [l5, r5, Lib.dlt, hix, decide_false, cond_false, e]
theorem ok (s0 : Row) (del1 : ByteArray) (hc : s0.all cn = true) (hn : s0.length ≤ 4294967296) : c s0 del1 = true ∧ v s0 del1 = s0.filter (keep del1) := by
  refine out s0 del1 ?_
  have hv := Pu.slices_IndexFunc_string.ok s0 del1 hn
  unfold vo b
  rw [hv.1, hv.2, cond_true]
  rcases Lib.fi_rng (Pu.slices_IndexFunc_string.p s0 del1) s0.length 0 with ⟨h, hall⟩ | ⟨k, _, hk2, hk, hkp, hbef⟩
  · rw [h]
    have : s0.filter (keep del1) = s0 := by
      rw [List.filter_eq_self]
      intro y hy
      obtain ⟨i, hi, rfl⟩ := List.getElem_of_mem hy
      have := hall i (Nat.zero_le _) (by omega)
      unfold Pu.slices_IndexFunc_string.p at this
      rw [Lib.cellAt_of hi] at this
      unfold keep; rw [this]; rfl
    rw [this]; rfl
  · rw [hk]
    have hkl : k < s0.length := by omega
    have hne : decide ((k : Int) = Int.neg 1) = false := decide_eq_false (by show ¬ (k : Int) = -1; omega)
    rw [hne, cond_false, Lib.w64_s hkl (by omega)]
    have hca : ∀ y ∈ s0, cn y = true := List.all_eq_true.1 hc
    refine run _ s0 del1 hc (by omega) _ some (fun j x hx hj => ?_) _ k (k + 1) s0 ⟨by omega, by omega, rfl, fun y hy => len_of (hca y hy), ?_, rfl⟩ (Lib.lt_big (by omega))
    · have b1 : inB (j : Int) (s0.length : Int) (s0.length : Int) = true := by simp [inB]; omega
      have e : List.take j x ++ zeros [Ck.s] (s0.length - j) ++ List.drop s0.length x = List.take j x ++ zeros [Ck.s] (s0.length - j) := by
        rw [List.drop_eq_nil_of_le (by omega), List.append_nil]
      have hl : (List.take j x).length = j := by simp; omega
      simp only [hx, Lib.toN, b1, cond_true, e]
      rw [Lib.bif_t (by simp [inB]; omega)]
      unfold view
      rw [show Int.toNat 0 = 0 from rfl, List.drop_zero, Nat.sub_zero, List.take_append_of_le_length (by omega), List.take_of_length_le (by omega)]
    · rw [filter_succ del1 hkl]
      have e1 : keep del1 s0[k] = false := by
        unfold Pu.slices_IndexFunc_string.p at hkp
        rw [Lib.cellAt_of hkl] at hkp
        unfold keep; rw [hkp]; rfl
      have e2 : (s0.take k).filter (keep del1) = s0.take k := by
        rw [List.filter_eq_self]
        intro y hy
        obtain ⟨i, hi, rfl⟩ := List.getElem_of_mem hy
        have hik : i < k := by simp at hi; omega
        have := hbef i (Nat.zero_le _) hik
        unfold Pu.slices_IndexFunc_string.p at this
        rw [Lib.cellAt_of (by omega)] at this
        rw [List.getElem_take]
        unfold keep; rw [this]; rfl
      rw [e1, e2, cond_false, List.append_nil]
end Go.FG.Pu.slices_DeleteFunc_string

namespace Go.FG.Pu.impl_withoutKey
theorem cn_rs (l : List ByteArray) : (Lib.rs l).all Pu.slices_DeleteFunc_string.cn = true := by
  rw [List.all_eq_true]; intro y hy
  unfold Lib.rs at hy; obtain ⟨z, _, rfl⟩ := List.mem_map.1 hy; rfl
theorem filt (l : List ByteArray) (k : ByteArray) : (Lib.rs l).filter (Pu.slices_DeleteFunc_string.keep k) = Lib.rs (Pu.spec_l13In.without l k) := by
  unfold Lib.rs Pu.spec_l13In.without
  rw [List.filter_map]
  congr 1
  apply List.filter_congr
  intro x _
  show (!List.beq (ByteArray.toList x) (ByteArray.toList k)) = _
  rw [Lib.beq_ba]
theorem ok (l : List ByteArray) (k : ByteArray) (hl : l.length ≤ 1048576) : c (Lib.rs l) k = true ∧ v (Lib.rs l) k = Lib.rs (Pu.spec_l13In.without l k) := by
  have h1 := Pu.impl_copyTexts.ok (Lib.rs l) (by rw [Lib.rs_len]; omega)
  have h2 := Pu.slices_DeleteFunc_string.ok (Lib.rs l) k (cn_rs l) (by rw [Lib.rs_len]; omega)
  rw [filt] at h2
  exact out _ _ (by unfold vo b; rw [h1.1, h1.2, h2.1, h2.2, cond_true, cond_true])
end Go.FG.Pu.impl_withoutKey

namespace Go.FG.Pu.impl_SketchGuess
open Lib (rr ri)
open Pu.spec_SketchGuess (gs gs_step)
theorem ok (s : List (List Int)) (a : Int) (key : ByteArray) (hf : Pu.impl_copySketch.fitS s) (hk : key.size ≤ 140737488355328) : c (rr s) a key = true ∧ v (rr s) a key = Pu.spec_SketchGuess.val s a key := by
  refine out _ _ _ ?_
  have h2 := Pu.impl_SketchOk.ok s a hf
  unfold vo b Pu.spec_SketchGuess.val
  rw [h2.1, h2.2, cond_true]
  cases hok : Pu.spec_SketchOk.skOk s a with
  | false => rfl
  | true =>
    obtain ⟨hs, ha, hq⟩ := Pu.spec_SketchBump.ok_open hok
    rw [Bool.not_true, cond_false, cond_true, Lib.rr_len]
    have := Lib.loop_gen (fun m (t : Nat × Int) => l5 Lib.big (fun (_ : ByteArray) (y6 : Int) (_ : Row) (_ _ : Int) => some y6) m key t.2 (rr s) s.length (t.1 : Int)) (fun t => s.length - t.1) (fun t => t.1 ≤ s.length) (fun t => some (gs key t.1 (s.drop t.1) t.2)) (fun m t ht => by
      obtain ⟨i, x⟩ := t
      dsimp only at ht ⊢
      by_cases h : i < s.length
      · right
        have hp := Pu.impl_SketchPlace.ok i key (by omega) hk
        have hpl := Pu.spec_SketchPlace.pl_lt i key
        obtain ⟨h16, hn⟩ := hq _ (List.getElem_mem h)
        have hb : Pu.spec_SketchPlace.pl i key < s[i].length := by omega
        refine ⟨(i + 1, bif decide (s[i].getD (Pu.spec_SketchPlace.pl i key) 0 < x) then s[i].getD (Pu.spec_SketchPlace.pl i key) 0 else x), by dsimp only; omega, by dsimp only; omega, by rw [← gs_step key s i h x], ?_⟩
        simp only [l5, r5, Lib.rr_len, Lib.dlt, h, decide_true, cond_true, hp.1, hp.2, Lib.dle0, Bool.and_self, Lib.toN, Lib.rr0 h, cvL, Lib.ri_len, h16, hpl, Lib.ri0 hb, cvI, Lib.w64_s h (by omega : s.length ≤ 9223372036854775807)]
        rw [Pu.spec_SketchBump.getD_of hb]
        unfold minmax
        rw [cond_false]
        by_cases hd : s[i][Pu.spec_SketchPlace.pl i key] < x
        · rw [if_pos hd, decide_eq_true hd, cond_true]
        · rw [if_neg hd, decide_eq_false hd, cond_false]
      · left
        have : i = s.length := by omega
        subst this
        simp only [l5, r5, Lib.rr_len, Lib.dlt, Nat.lt_irrefl, decide_false, cond_false, List.drop_length, gs]) Lib.big (0, 15) (Nat.zero_le _) (Lib.lt_big (by dsimp only; omega))
    simpa using this
end Go.FG.Pu.impl_SketchGuess

namespace Go.FG.Pu.impl_PolicyTouch
open Lib (rr rs)
open Pu.spec_l13In (has without has_iff has_no without_no without_len without_lt)
open Pu.spec_PolicyOk (keyOk kOk keysOk pOk)
open Pu.spec_PolicyTouch (snoc1 zer head0 tail1 keysOk_mem keysOk_iff key_size sk_fit getD_mem p_open)
theorem ok (w m : List ByteArray) (s : List (List Int)) (a : Int) (key : ByteArray) (hw : w.length ≤ 1048576) (hm : m.length ≤ 1048576) (hf : Pu.impl_copySketch.fitS s) (hk : key.size ≤ 140737488355328) :
    c (rs w) (rs m) (rr s) a key = true ∧ v (rs w) (rs m) (rr s) a key = (rs (Pu.spec_PolicyTouch.val w m s a key).1, rs (Pu.spec_PolicyTouch.val w m s a key).2.1, rr (Pu.spec_PolicyTouch.val w m s a key).2.2.1, (Pu.spec_PolicyTouch.val w m s a key).2.2.2.1, (Pu.spec_PolicyTouch.val w m s a key).2.2.2.2) := by
  refine out _ _ _ _ _ ?_
  have h1 := Pu.impl_copyPolicy.ok w m s a hw hm hf
  have h2 := Pu.impl_PolicyOk.ok w m s a hw hm hf
  have h3 := Pu.impl_SketchBump.ok s a key hf hk
  have h5 := Pu.slices_Contains_string.ok m key (by omega)
  have h6 := Pu.impl_withoutKey.ok w key hw
  have h7 := Pu.impl_withoutKey.ok m key hm
  have sf := sk_fit (a := a) (key := key) hf
  unfold vo b
  simp only [Lib.lt, h1.1, h1.2, h2.1, h2.2, cond_true]
  unfold Pu.spec_PolicyTouch.val
  cases hp : pOk w m s a with
  | false => rfl
  | true =>
    obtain ⟨p1, p2, p3, p4⟩ := p_open hp
    rw [Pu.impl_PolicyOk.key_dec, Bool.true_and]
    cases hk2 : keyOk key with
    | false => rfl
    | true =>
      have hks := key_size hk2
      have l6 := without_len (l := w) (k := key)
      have l7 := without_len (l := m) (k := key)
      simp only [Bool.not_true, cond_false, cond_true, h3.1, h3.2, h5.1, h5.2, h6.1, h6.2, h7.1, h7.2, snoc1, zer, Lib.rs_len, Lib.set1, List.length_singleton]
      rw [Lib.roomy_of (n := (without w key).length + 1) (by omega) (by omega), Lib.roomy_of (n := (without m key).length + 1) (by omega) (by omega)]
      simp only [cond_true]
      cases hA : has w key with
      | true =>
        have hB : has m key = false := by
          rw [has_no]
          intro hm2
          have := (keysOk_iff.1 p1).2
          rw [List.nodup_append] at this
          exact this.2.2 key (has_iff.1 hA) key hm2 rfl
        have hlt := without_lt hA
        rw [hB, cond_false, cond_true, decide_eq_true (show ((without w key ++ [key]).length : Int) ≤ 2 by rw [List.length_append, List.length_singleton]; omega)]
        rfl
      | false =>
        rw [without_no hA]
        cases hB : has m key with
        | true => rfl
        | false =>
          simp only [cond_false]
          rw [show decide (((w ++ [key]).length : Int) ≤ 2) = decide ((w ++ [key]).length ≤ 2) by rw [decide_eq_decide]; omega]
          cases hC : decide ((w ++ [key]).length ≤ 2) with
          | true => rfl
          | false =>
            have hlw : (w ++ [key]).length = 3 := by
              have := of_decide_eq_false hC
              rw [List.length_append, List.length_singleton] at this ⊢; omega
            have hfm : (w ++ [key]).getD 0 ⟨#[]⟩ ∈ w ++ [key] := getD_mem (by omega)
            have hfs : ((w ++ [key]).getD 0 ⟨#[]⟩).size ≤ 30 := by
              rcases List.mem_append.1 hfm with h | h
              · exact (key_size (keysOk_mem p1 (List.mem_append_left _ h))).2
              · rw [List.mem_singleton] at h; rw [h]; exact hks.2
            have g1 := Pu.impl_SketchGuess.ok (Pu.spec_SketchBump.val s a key).1 (Pu.spec_SketchBump.val s a key).2 ((w ++ [key]).getD 0 ⟨#[]⟩) sf (by omega)
            have i1 : inB 1 ((w ++ [key]).length : Int) ((w ++ [key]).length : Int) = true := by rw [hlw]; rfl
            simp only [cond_false, decide_eq_true (show (0 : Int) < ((w ++ [key]).length : Int) by omega), i1, cond_true, head0, tail1, zer, snoc1, Lib.rs_len, Lib.roomy_of (n := m.length + 1) (b := 16) (by omega) (by omega), g1.1, g1.2]
            rw [show decide ((m.length : Int) < 4) = decide (m.length < 4) by rw [decide_eq_decide]; omega]
            cases hD : decide (m.length < 4) with
            | true => rfl
            | false =>
              have hm4 : m.length = 4 := by have := of_decide_eq_false hD; omega
              have hmm : m.getD 0 ⟨#[]⟩ ∈ m := getD_mem (by omega)
              have hms := (key_size (keysOk_mem p1 (List.mem_append_right _ hmm))).2
              have g2 := Pu.impl_SketchGuess.ok (Pu.spec_SketchBump.val s a key).1 (Pu.spec_SketchBump.val s a key).2 (m.getD 0 ⟨#[]⟩) sf (by omega)
              have i2 : inB 1 (m.length : Int) (m.length : Int) = true := by simp [inB]; omega
              have ht2 : m.tail.length = 3 := by rw [List.length_tail]; omega
              simp only [cond_false, decide_eq_true (show (0 : Int) < (m.length : Int) by omega), i2, cond_true, snoc1, Lib.roomy_of (n := m.tail.length + 1) (b := 16) (by omega) (by omega), g2.1, g2.2]
              cases decide (Pu.spec_SketchGuess.val (Pu.spec_SketchBump.val s a key).1 (Pu.spec_SketchBump.val s a key).2 ((w ++ [key]).getD 0 ⟨#[]⟩) > Pu.spec_SketchGuess.val (Pu.spec_SketchBump.val s a key).1 (Pu.spec_SketchBump.val s a key).2 (m.getD 0 ⟨#[]⟩)) <;> rfl
end Go.FG.Pu.impl_PolicyTouch

namespace Go.FG.Pu.laws_markIntS
def row (k : Int) : List CV := [CV.i IntKind.i64 (k)]
def mkl (k : Int) (n : Nat) : Row := (List.range n).map fun (j : Nat) => row (k + 1 * (j : Int))
theorem mkl_len (k : Int) (n : Nat) : (mkl k n).length = n := by unfold mkl; simp
theorem mkl_sh (k : Int) (n : Nat) : ∀ y ∈ mkl k n, y.length = 1 := by
  intro y hy; unfold mkl at hy; obtain ⟨j, _, rfl⟩ := List.mem_map.1 hy; rfl
theorem sp0 (y0 x : CV) : splice [y0] 0 [x] = [x] := rfl
theorem run (a0 : Row) (k1 : Int) (hs : ∀ y ∈ a0, y.length = 1) (hl : a0.length ≤ 4194304) (h0 : 0 ≤ k1) (h1 : k1 ≤ 1000000000000) : vo a0 k1 = some (k1 + 1 * (a0.length : Int), mkl k1 a0.length) := by
  unfold vo b
  have := Lib.loop_gen (fun n (i : Nat) => l2 Lib.big (fun (y3 y4 : Int) (y5 : Row) => some (y3, y5)) n (k1 + 1 * (i : Int)) (i : Int) (mkl k1 i ++ a0.drop i)) (fun i => a0.length - i) (fun i => i ≤ a0.length) (fun _ => some (k1 + 1 * (a0.length : Int), mkl k1 a0.length)) (fun n i hi => by
    have hml := mkl_len k1 i
    by_cases h : i < a0.length
    · right
      refine ⟨i + 1, h, by omega, rfl, ?_⟩
      have e3 : mkl k1 (i + 1) ++ a0.drop (i + 1) = mkl k1 i ++ row (k1 + 1 * (i : Int)) :: a0.drop (i + 1) := by
        unfold mkl; rw [Lib.range_map_succ, List.append_assoc]; rfl
      have eA : k1 + 1 * ((i + 1 : Nat) : Int) = (k1 + 1 * (i : Int)) + 1 := by omega
      show l2 Lib.big _ (n + 1) (k1 + 1 * (i : Int)) (i : Int) (mkl k1 i ++ a0.drop i) = l2 Lib.big _ n (k1 + 1 * ((i + 1 : Nat) : Int)) ((i + 1 : Nat) : Int) (mkl k1 (i + 1) ++ a0.drop (i + 1))
      rw [eA, e3, Lib.drop_cons_of h]
      have hy := hs _ (List.getElem_mem h)
      have hk0 : 0 ≤ k1 + 1 * (i : Int) := by omega
      have hk1 : k1 + 1 * (i : Int) ≤ 2000000000000 := by omega
      generalize k1 + 1 * (i : Int) = k at hk0 hk1
      generalize a0[i] = y at hy
      obtain ⟨y0, rfl⟩ : ∃ y0, y = [y0] := by
        match y, hy with
        | [y0], _ => exact ⟨y0, rfl⟩
      have hd : ∀ z : List CV, decide ((i : Int) < ((mkl k1 i ++ z :: a0.drop (i + 1)).length : Int)) = true := fun z => by
        rw [Lib.len_mid, hml]; exact decide_eq_true (by omega)
      have hi1 : w64 ((i : Int) + 1) = ((i + 1 : Nat) : Int) := Lib.w64_ok (by omega) (by omega)
      simp only [l2, r2, Lib.length_setC, hd, Lib.dle0, Bool.and_self, cond_true, Lib.toN, Lib.setC_mid _ _ _ _ _ _ hml, sp0, Lib.w64_ok (x := k + 1) (by omega) (by omega), hi1]
      rfl
    · left
      have : i = a0.length := by omega
      subst this
      show l2 Lib.big _ (n + 1) (k1 + 1 * (a0.length : Int)) (a0.length : Int) (mkl k1 a0.length ++ a0.drop a0.length) = _
      rw [List.drop_length, List.append_nil]
      simp only [l2, r2, hml, Lib.dlt, Nat.lt_irrefl, decide_false, cond_false]) Lib.big 0 (Nat.zero_le _) (Lib.lt_big (by omega))
  have e0 : mkl k1 0 ++ a0.drop 0 = a0 := rfl
  rw [e0] at this
  simpa using this
theorem ok (a0 : Row) (k1 : Int) (hs : ∀ y ∈ a0, y.length = 1) (hl : a0.length ≤ 4194304) (h0 : 0 ≤ k1) (h1 : k1 ≤ 1000000000000) : c a0 k1 = true ∧ v a0 k1 = (k1 + 1 * (a0.length : Int), mkl k1 a0.length) := out a0 k1 (run a0 k1 hs hl h0 h1)
end Go.FG.Pu.laws_markIntS

namespace Go.FG.Pu.laws_markIntSS
open Lib (rr ri)
def sm (l : List Nat) : Int := (l.sum : Nat)
def lens (s : List (List Int)) : List Nat := s.map List.length
def mkk : Int → List Nat → Row
  | _, [] => []
  | k, n :: r => [CV.l 3 (Pu.laws_markIntS.mkl k n)] :: mkk (k + n) r
theorem mkk_snoc : ∀ (l : List Nat) (k : Int) (n : Nat), mkk k (l ++ [n]) = mkk k l ++ [[CV.l 3 (Pu.laws_markIntS.mkl (k + sm l) n)]]
  | [], k, n => by simp [mkk, sm]
  | m :: l, k, n => by
    have e : k + (m : Int) + sm l = k + sm (m :: l) := by unfold sm; rw [List.sum_cons]; omega
    simp only [List.cons_append, mkk]
    rw [mkk_snoc l (k + m) n, e]
theorem mkk_len : ∀ (l : List Nat) (k : Int), (mkk k l).length = l.length
  | [], _ => rfl
  | n :: l, k => by simp [mkk, mkk_len l]
theorem sm_succ (s : List (List Int)) (i : Nat) (h : i < s.length) : sm (lens (s.take (i + 1))) = sm (lens (s.take i)) + (s[i].length : Int) := by
  unfold sm lens
  rw [List.take_succ_eq_append_getElem h, List.map_append, List.sum_append]; simp
theorem lens_snoc (s : List (List Int)) (i : Nat) (h : i < s.length) : lens (s.take (i + 1)) = lens (s.take i) ++ [s[i].length] := by
  unfold lens
  rw [List.take_succ_eq_append_getElem h, List.map_append]; rfl
theorem sm_take (s : List (List Int)) (i : Nat) : 0 ≤ sm (lens (s.take i)) ∧ sm (lens (s.take i)) ≤ sm (lens s) := by
  unfold sm lens
  refine ⟨by omega, ?_⟩
  have e : (s.map List.length).sum = ((s.take i).map List.length).sum + ((s.drop i).map List.length).sum := by
    rw [← List.sum_append, ← List.map_append, List.take_append_drop]
  rw [e]; omega
theorem at_le (s : List (List Int)) (i : Nat) (h : i < s.length) : (s[i].length : Int) ≤ sm (lens s) := by
  have h1 := sm_succ s i h
  have h2 := sm_take s (i + 1)
  have h3 := sm_take s i
  omega
theorem ri_sh (q : List Int) : ∀ y ∈ ri q, y.length = 1 := by
  intro y hy; unfold Lib.ri at hy; obtain ⟨z, _, rfl⟩ := List.mem_map.1 hy; rfl
theorem ok (s : List (List Int)) (k : Int) (hl : s.length ≤ 4194304) (ht : sm (lens s) ≤ 4194304) (h0 : 0 ≤ k) (h1 : k ≤ 500000000000) : c (rr s) k = true ∧ v (rr s) k = (k + sm (lens s), mkk k (lens s)) := by
  refine out _ _ ?_
  unfold vo b
  have key := Lib.for_run s.length (fun m (i : Nat) (t : Int × Row) => l2 Lib.big (fun (y3 _ : Int) (y5 : Row) => some (y3, y5)) m t.1 (i : Int) t.2) (fun i => (k + sm (lens (s.take i)), mkk k (lens (s.take i)) ++ rr (s.drop i))) (some (k + sm (lens s), mkk k (lens s))) (fun m i h => by
    dsimp only
    have hA : (mkk k (lens (s.take i))).length = i := by rw [mkk_len]; unfold lens; simp; omega
    have hd : rr (s.drop i) = [CV.l 3 (ri s[i])] :: rr (s.drop (i + 1)) := by
      unfold Lib.rr; rw [List.drop_eq_getElem_cons h, List.map_cons]
    have hb := sm_take s i
    have ha := at_le s i h
    have hm := Pu.laws_markIntS.ok (ri s[i]) (k + sm (lens (s.take i))) (ri_sh _) (by rw [Lib.ri_len]; omega) (by omega) (by omega)
    rw [Lib.ri_len] at hm
    rw [hd]
    have hdl : ∀ z : List CV, decide ((i : Int) < ((mkk k (lens (s.take i)) ++ z :: rr (s.drop (i + 1))).length : Int)) = true := fun z => by
      rw [Lib.len_mid, hA]; exact decide_eq_true (by omega)
    simp only [l2, r2, hdl, Lib.dle0, Bool.and_self, cond_true, Lib.toN, Lib.cellAt_mid _ _ _ _ _ hA, List.getD_cons_zero, cvL, hm.1, hm.2, Lib.setC_mid _ _ _ _ _ _ hA, Lib.w64_s h (by omega : s.length ≤ 9223372036854775807)]
    rw [sm_succ s i h, lens_snoc s i h, mkk_snoc, List.append_assoc, show k + sm (lens (s.take i)) + 1 * (s[i].length : Int) = k + (sm (lens (s.take i)) + (s[i].length : Int)) by omega]
    rfl) (fun m => by
    have hA : (mkk k (lens s)).length = s.length := by rw [mkk_len]; unfold lens; simp
    simp only [List.take_length, List.drop_length, show rr [] = [] from rfl, List.append_nil, l2, r2, hA, Lib.dlt, Nat.lt_irrefl, decide_false, cond_false]) Lib.big 0 (Nat.zero_le _) (Lib.lt_big (by omega))
  dsimp only [List.take_zero, List.drop_zero] at key
  rw [show sm (lens []) = 0 from rfl, Int.add_zero] at key
  exact key
end Go.FG.Pu.laws_markIntSS

namespace Go.FG.Pu.laws_eqStringS
theorem run (a : Row) (hl : a.length ≤ 9223372036854775807) : vo a a = some true := by
  unfold vo b
  rw [show ((a.length : Int) != (a.length : Int)) = false from bne_self_eq_false _, cond_false]
  have := Lib.loop_gen (fun n (i : Nat) => l4 Lib.big (fun (_ _ : Row) (y : Bool) (_ : Int) => some y) (fun (_ _ : Row) (_ : Bool) (_ : Int) => some true) n a a false (i : Int)) (fun i => a.length - i) (fun i => i ≤ a.length) (fun _ => some true) (fun n i hi => by
    by_cases h : i < a.length
    · right
      refine ⟨i + 1, h, by omega, rfl, ?_⟩
      have hi1 : w64 ((i : Int) + 1) = ((i + 1 : Nat) : Int) := Lib.w64_ok (by omega) (by omega)
      simp only [l4, r4, Lib.dlt, h, decide_true, Lib.dle0, Bool.and_self, cond_true, Lib.toN, hi1, bne_self_eq_false, Lib.beq_refl_ba, Bool.not_true, cond_false]
    · left
      simp only [l4, r4, Lib.dlt, h, decide_false, cond_false]) Lib.big 0 (Nat.zero_le _) (Lib.lt_big (by omega))
  exact this
theorem ok (a : Row) (hl : a.length ≤ 9223372036854775807) : c a a = true ∧ v a a = true := out a a (run a hl)
end Go.FG.Pu.laws_eqStringS

namespace Go.FG.Pu.laws_eqIntSS
theorem run (a : Row) (hl : a.length ≤ 9223372036854775807) : vo a a = some true := by
  unfold vo b
  rw [show ((a.length : Int) != (a.length : Int)) = false from bne_self_eq_false _, cond_false]
  have := Lib.loop_gen (fun n (i : Nat) => l4 Lib.big (fun (_ _ : Row) (y : Bool) (_ : Int) => some y) (fun (_ _ : Row) (_ : Bool) (_ : Int) => some true) n a a false (i : Int)) (fun i => a.length - i) (fun i => i ≤ a.length) (fun _ => some true) (fun n i hi => by
    by_cases h : i < a.length
    · right
      refine ⟨i + 1, h, by omega, rfl, ?_⟩
      have hi1 : w64 ((i : Int) + 1) = ((i + 1 : Nat) : Int) := Lib.w64_ok (by omega) (by omega)
      simp only [l4, r4, Lib.dlt, h, decide_true, Lib.dle0, Bool.and_self, cond_true, Lib.toN, hi1, Pu.laws_eqIntS.refl, Bool.not_true, cond_false]
    · left
      simp only [l4, r4, Lib.dlt, h, decide_false, cond_false]) Lib.big 0 (Nat.zero_le _) (Lib.lt_big (by omega))
  exact this
theorem ok (a : Row) (hl : a.length ≤ 9223372036854775807) : c a a = true ∧ v a a = true := out a a (run a hl)
end Go.FG.Pu.laws_eqIntSS

namespace Go.FG.Pu.laws_eqSketch
theorem ok (r : Row) (k : Int) (hl : r.length ≤ 9223372036854775807) : c r k r k = true ∧ v r k r k = true := by
  have h := Pu.laws_eqIntSS.ok r hl
  exact out r k r k (by unfold vo b; rw [h.1, h.2, bne_self_eq_false]; rfl)
end Go.FG.Pu.laws_eqSketch

namespace Go.FG.Pu.laws_eqPolicy
theorem ok (r0 r1 r2 : Row) (k : Int) (h0 : r0.length ≤ 9223372036854775807) (h1 : r1.length ≤ 9223372036854775807) (h2 : r2.length ≤ 9223372036854775807) : c r0 r1 r2 k r0 r1 r2 k = true ∧ v r0 r1 r2 k r0 r1 r2 k = true := by
  have a0 := Pu.laws_eqStringS.ok r0 h0
  have a1 := Pu.laws_eqStringS.ok r1 h1
  have a2 := Pu.laws_eqSketch.ok r2 k h2
  exact out r0 r1 r2 k r0 r1 r2 k (by unfold vo b; rw [a0.1, a0.2, a1.1, a1.2, a2.1, a2.2]; rfl)
end Go.FG.Pu.laws_eqPolicy

namespace Go.FG.Pu.laws_markText
theorem post (k : Int) (h1 : k ≤ 1152921504606846976) : ∃ x, vo k = some x := by
  unfold vo b
  cases h : decide (k ≤ 0) with
  | true => exact ⟨_, rfl⟩
  | false =>
    rw [cond_false]
    have h0 : ¬ k ≤ 0 := of_decide_eq_false h
    obtain ⟨x, hx, _⟩ := Lib.loop_post (fun n (s : Int × ByteArray) => l4 Lib.big (fun (y2 : Int) (y3 : ByteArray) => bif (decide (ByteArray.size { data := #[UInt8.ofNat 109] } + ByteArray.size y3 ≤ 4611686018427387904)) then some ({ data := #[UInt8.ofNat 109] } ++ y3) else none) n s.1 s.2)
      (fun s => s.1.toNat) (fun s => 0 ≤ s.1 ∧ (s.2.size : Int) + s.1 ≤ 1152921504606846976) (fun _ => True) (fun n s hs => by
        obtain ⟨x, t⟩ := s
        obtain ⟨a1, a2⟩ := hs
        dsimp only at a1 a2 ⊢
        have hsz : ByteArray.size (bytesOf (List.set (zeros [Ck.i IntKind.u8] 1) 0 [CV.i IntKind.u8 (IntKind.wrap IntKind.u8 (w64 (48 + Int.tmod x 10)))])) = 1 := by rw [Lib.size_bytesOf, List.length_set]; rfl
        by_cases hx : x > 0
        · right
          have e1 : Int.tdiv x 10 = x / 10 := Int.tdiv_eq_ediv_of_nonneg (by omega)
          refine ⟨(w64 (Int.tdiv x 10), bytesOf (List.set (zeros [Ck.i IntKind.u8] 1) 0 [CV.i IntKind.u8 (IntKind.wrap IntKind.u8 (w64 (48 + Int.tmod x 10)))]) ++ t), ?_, ?_, ?_⟩
          · dsimp only
            rw [e1, Lib.w64_ok (by omega) (by omega), Lib.size_app, hsz]; omega
          · dsimp only; rw [e1, Lib.w64_ok (by omega) (by omega)]; omega
          · simp only [l4, r4, decide_eq_true hx, cond_true, hsz]
            rw [Lib.bif_t (Lib.dnat (by omega))]
        · left
          refine ⟨{ data := #[UInt8.ofNat 109] } ++ t, ?_, trivial⟩
          simp only [l4, r4, decide_eq_false hx, cond_false]
          exact Lib.bif_t (Lib.dnat (show ByteArray.size { data := #[UInt8.ofNat 109] } + t.size ≤ _ by rw [show ByteArray.size { data := #[UInt8.ofNat 109] } = 1 from rfl]; omega))) Lib.big (k, ⟨#[]⟩) ⟨by dsimp only; omega, by dsimp only; rw [show ByteArray.size ⟨#[]⟩ = 0 from rfl]; omega⟩ (Lib.lt_big (by dsimp only; omega))
    exact ⟨x, hx⟩
theorem ok (k : Int) (h1 : k ≤ 1152921504606846976) : c k = true := by
  obtain ⟨x, h⟩ := post k h1
  exact (out k h).1
end Go.FG.Pu.laws_markText

namespace Go.FG.Pu.laws_markStringS
def row (k : Int) : List CV := [CV.s (Pu.laws_markText.v (k))]
def mkl (k : Int) (n : Nat) : Row := (List.range n).map fun (j : Nat) => row (k + 1 * (j : Int))
theorem mkl_len (k : Int) (n : Nat) : (mkl k n).length = n := by unfold mkl; simp
theorem mkl_sh (k : Int) (n : Nat) : ∀ y ∈ mkl k n, y.length = 1 := by
  intro y hy; unfold mkl at hy; obtain ⟨j, _, rfl⟩ := List.mem_map.1 hy; rfl
theorem sp0 (y0 x : CV) : splice [y0] 0 [x] = [x] := rfl
theorem run (a0 : Row) (k1 : Int) (hs : ∀ y ∈ a0, y.length = 1) (hl : a0.length ≤ 4194304) (h0 : 0 ≤ k1) (h1 : k1 ≤ 1000000000000) : vo a0 k1 = some (k1 + 1 * (a0.length : Int), mkl k1 a0.length) := by
  unfold vo b
  have := Lib.loop_gen (fun n (i : Nat) => l2 Lib.big (fun (y3 y4 : Int) (y5 : Row) => some (y3, y5)) n (k1 + 1 * (i : Int)) (i : Int) (mkl k1 i ++ a0.drop i)) (fun i => a0.length - i) (fun i => i ≤ a0.length) (fun _ => some (k1 + 1 * (a0.length : Int), mkl k1 a0.length)) (fun n i hi => by
    have hml := mkl_len k1 i
    by_cases h : i < a0.length
    · right
      refine ⟨i + 1, h, by omega, rfl, ?_⟩
      have e3 : mkl k1 (i + 1) ++ a0.drop (i + 1) = mkl k1 i ++ row (k1 + 1 * (i : Int)) :: a0.drop (i + 1) := by
        unfold mkl; rw [Lib.range_map_succ, List.append_assoc]; rfl
      have eA : k1 + 1 * ((i + 1 : Nat) : Int) = (k1 + 1 * (i : Int)) + 1 := by omega
      show l2 Lib.big _ (n + 1) (k1 + 1 * (i : Int)) (i : Int) (mkl k1 i ++ a0.drop i) = l2 Lib.big _ n (k1 + 1 * ((i + 1 : Nat) : Int)) ((i + 1 : Nat) : Int) (mkl k1 (i + 1) ++ a0.drop (i + 1))
      rw [eA, e3, Lib.drop_cons_of h]
      have hy := hs _ (List.getElem_mem h)
      have hk0 : 0 ≤ k1 + 1 * (i : Int) := by omega
      have hk1 : k1 + 1 * (i : Int) ≤ 2000000000000 := by omega
      generalize k1 + 1 * (i : Int) = k at hk0 hk1
      generalize a0[i] = y at hy
      obtain ⟨y0, rfl⟩ : ∃ y0, y = [y0] := by
        match y, hy with
        | [y0], _ => exact ⟨y0, rfl⟩
      have hd : ∀ z : List CV, decide ((i : Int) < ((mkl k1 i ++ z :: a0.drop (i + 1)).length : Int)) = true := fun z => by
        rw [Lib.len_mid, hml]; exact decide_eq_true (by omega)
      have hi1 : w64 ((i : Int) + 1) = ((i + 1 : Nat) : Int) := Lib.w64_ok (by omega) (by omega)
      simp only [l2, r2, Lib.length_setC, hd, Lib.dle0, Bool.and_self, cond_true, Lib.toN, Lib.setC_mid _ _ _ _ _ _ hml, sp0, Lib.w64_ok (x := k + 1) (by omega) (by omega), Pu.laws_markText.ok (k) (by omega), hi1]
      rfl
    · left
      have : i = a0.length := by omega
      subst this
      show l2 Lib.big _ (n + 1) (k1 + 1 * (a0.length : Int)) (a0.length : Int) (mkl k1 a0.length ++ a0.drop a0.length) = _
      rw [List.drop_length, List.append_nil]
      simp only [l2, r2, hml, Lib.dlt, Nat.lt_irrefl, decide_false, cond_false]) Lib.big 0 (Nat.zero_le _) (Lib.lt_big (by omega))
  have e0 : mkl k1 0 ++ a0.drop 0 = a0 := rfl
  rw [e0] at this
  simpa using this
theorem ok (a0 : Row) (k1 : Int) (hs : ∀ y ∈ a0, y.length = 1) (hl : a0.length ≤ 4194304) (h0 : 0 ≤ k1) (h1 : k1 ≤ 1000000000000) : c a0 k1 = true ∧ v a0 k1 = (k1 + 1 * (a0.length : Int), mkl k1 a0.length) := out a0 k1 (run a0 k1 hs hl h0 h1)
end Go.FG.Pu.laws_markStringS

namespace Go.FG.Pu.laws_markSketch
open Lib (rr)
open Pu.laws_markIntSS (mkk sm lens)
theorem ok (s : List (List Int)) (a k : Int) (hl : s.length ≤ 4194304) (ht : sm (lens s) ≤ 4194304) (h0 : 0 ≤ k) (h1 : k ≤ 500000000000) : c (rr s) a k = true ∧ v (rr s) a k = (k + sm (lens s), mkk k (lens s)) := by
  have h := Pu.laws_markIntSS.ok s k hl ht h0 h1
  exact out _ _ _ (by unfold vo b; rw [h.1, h.2, cond_true])
end Go.FG.Pu.laws_markSketch

namespace Go.FG.Pu.laws_markPolicy
open Lib (rr rs)
open Pu.laws_markIntSS (mkk sm lens)
theorem rs_sh (q : List ByteArray) : ∀ y ∈ rs q, y.length = 1 := by
  intro y hy; unfold Lib.rs at hy; obtain ⟨z, _, rfl⟩ := List.mem_map.1 hy; rfl
def n1 (k : Int) (w : Nat) : Int := k + 1 * (w : Int)
/-- Marks of a policy. -/
theorem ok (w m : List ByteArray) (s : List (List Int)) (a k : Int) (hw : w.length ≤ 2097152) (hm : m.length ≤ 2097152) (hl : s.length ≤ 4194304) (ht : sm (lens s) ≤ 4194304) (h0 : 0 ≤ k) (h1 : k ≤ 400000000000) : c (rs w) (rs m) (rr s) a k = true ∧
    v (rs w) (rs m) (rr s) a k = (n1 (n1 k w.length) m.length + sm (lens s), Pu.laws_markStringS.mkl k w.length, Pu.laws_markStringS.mkl (n1 k w.length) m.length, mkk (n1 (n1 k w.length) m.length) (lens s)) := by
  have a1 := Pu.laws_markStringS.ok (rs w) k (rs_sh w) (by rw [Lib.rs_len]; omega) h0 (by omega)
  have a2 := Pu.laws_markStringS.ok (rs m) (n1 k w.length) (rs_sh m) (by rw [Lib.rs_len]; omega) (by unfold n1; omega) (by unfold n1; omega)
  have a3 := Pu.laws_markSketch.ok s a (n1 (n1 k w.length) m.length) hl ht (by unfold n1; omega) (by unfold n1; omega)
  rw [Lib.rs_len] at a1 a2
  unfold n1 at a2 a3 ⊢
  exact out _ _ _ _ _ (by unfold vo b; simp only [a1.1, a1.2, a2.1, a2.2, a3.1, a3.2, cond_true])
end Go.FG.Pu.laws_markPolicy

namespace Go.FG.Pu.laws_heldStringS
theorem run (k1 : Int) (a : Nat) (hl : a ≤ 4194304) (h0 : 0 ≤ k1) (h1 : k1 ≤ 1000000000000) : vo (Pu.laws_markStringS.mkl k1 a) k1 = some (k1 + 1 * (a : Int)) := by
  have hml := Pu.laws_markStringS.mkl_len k1 a
  unfold vo b
  have := Lib.loop_gen (fun n (i : Nat) => l2 Lib.big (fun (_ : Row) (_ y6 _ : Int) => some y6) (fun (_ : Row) (y9 _ _ : Int) => some y9) n (Pu.laws_markStringS.mkl k1 a) (k1 + 1 * (i : Int)) 0 (i : Int)) (fun i => a - i) (fun i => i ≤ a) (fun _ => some (k1 + 1 * (a : Int))) (fun n i hi => by
    by_cases h : i < a
    · right
      refine ⟨i + 1, h, by omega, rfl, ?_⟩
      have eA : k1 + 1 * ((i + 1 : Nat) : Int) = (k1 + 1 * (i : Int)) + 1 := by omega
      show l2 Lib.big _ _ (n + 1) (Pu.laws_markStringS.mkl k1 a) (k1 + 1 * (i : Int)) 0 (i : Int) = l2 Lib.big _ _ n (Pu.laws_markStringS.mkl k1 a) (k1 + 1 * ((i + 1 : Nat) : Int)) 0 ((i + 1 : Nat) : Int)
      rw [eA]
      have ce0 : cvS (cellAt (Pu.laws_markStringS.mkl k1 a) i 0) = Pu.laws_markText.v (k1 + 1 * (i : Int)) := by
        unfold Pu.laws_markStringS.mkl; rw [Lib.cellAt_rm _ _ _ _ h]; rfl
      have hk0 : 0 ≤ k1 + 1 * (i : Int) := by omega
      have hk1 : k1 + 1 * (i : Int) ≤ 2000000000000 := by omega
      generalize k1 + 1 * (i : Int) = k at *
      have hi1 : w64 ((i : Int) + 1) = ((i + 1 : Nat) : Int) := Lib.w64_ok (by omega) (by omega)
      simp only [l2, r2, hml, Lib.dlt, h, decide_true, Lib.dle0, Bool.and_self, cond_true, Lib.toN, ce0, Lib.w64_ok (x := k + 1) (by omega) (by omega), Pu.laws_markText.ok (k) (by omega), hi1, bne_self_eq_false, cond_false, Lib.beq_refl_ba, Bool.not_true]
    · left
      have : i = a := by omega
      subst this
      simp only [l2, r2, hml, Lib.dlt, Nat.lt_irrefl, decide_false, cond_false]) Lib.big 0 (Nat.zero_le _) (Lib.lt_big (by omega))
  simpa using this
theorem ok (k1 : Int) (a : Nat) (hl : a ≤ 4194304) (h0 : 0 ≤ k1) (h1 : k1 ≤ 1000000000000) : c (Pu.laws_markStringS.mkl k1 a) k1 = true ∧ v (Pu.laws_markStringS.mkl k1 a) k1 = k1 + 1 * (a : Int) := out _ _ (run k1 a hl h0 h1)
end Go.FG.Pu.laws_heldStringS

namespace Go.FG.Pu.laws_heldIntS
theorem run (k1 : Int) (a : Nat) (hl : a ≤ 4194304) (h0 : 0 ≤ k1) (h1 : k1 ≤ 1000000000000) : vo (Pu.laws_markIntS.mkl k1 a) k1 = some (k1 + 1 * (a : Int)) := by
  have hml := Pu.laws_markIntS.mkl_len k1 a
  unfold vo b
  have := Lib.loop_gen (fun n (i : Nat) => l2 Lib.big (fun (_ : Row) (_ y6 _ : Int) => some y6) (fun (_ : Row) (y9 _ _ : Int) => some y9) n (Pu.laws_markIntS.mkl k1 a) (k1 + 1 * (i : Int)) 0 (i : Int)) (fun i => a - i) (fun i => i ≤ a) (fun _ => some (k1 + 1 * (a : Int))) (fun n i hi => by
    by_cases h : i < a
    · right
      refine ⟨i + 1, h, by omega, rfl, ?_⟩
      have eA : k1 + 1 * ((i + 1 : Nat) : Int) = (k1 + 1 * (i : Int)) + 1 := by omega
      show l2 Lib.big _ _ (n + 1) (Pu.laws_markIntS.mkl k1 a) (k1 + 1 * (i : Int)) 0 (i : Int) = l2 Lib.big _ _ n (Pu.laws_markIntS.mkl k1 a) (k1 + 1 * ((i + 1 : Nat) : Int)) 0 ((i + 1 : Nat) : Int)
      rw [eA]
      have ce0 : cvI (cellAt (Pu.laws_markIntS.mkl k1 a) i 0) = k1 + 1 * (i : Int) := by
        unfold Pu.laws_markIntS.mkl; rw [Lib.cellAt_rm _ _ _ _ h]; rfl
      have hk0 : 0 ≤ k1 + 1 * (i : Int) := by omega
      have hk1 : k1 + 1 * (i : Int) ≤ 2000000000000 := by omega
      generalize k1 + 1 * (i : Int) = k at *
      have hi1 : w64 ((i : Int) + 1) = ((i + 1 : Nat) : Int) := Lib.w64_ok (by omega) (by omega)
      simp only [l2, r2, hml, Lib.dlt, h, decide_true, Lib.dle0, Bool.and_self, cond_true, Lib.toN, ce0, Lib.w64_ok (x := k + 1) (by omega) (by omega), hi1, bne_self_eq_false, cond_false, Lib.beq_refl_ba, Bool.not_true]
    · left
      have : i = a := by omega
      subst this
      simp only [l2, r2, hml, Lib.dlt, Nat.lt_irrefl, decide_false, cond_false]) Lib.big 0 (Nat.zero_le _) (Lib.lt_big (by omega))
  simpa using this
theorem ok (k1 : Int) (a : Nat) (hl : a ≤ 4194304) (h0 : 0 ≤ k1) (h1 : k1 ≤ 1000000000000) : c (Pu.laws_markIntS.mkl k1 a) k1 = true ∧ v (Pu.laws_markIntS.mkl k1 a) k1 = k1 + 1 * (a : Int) := out _ _ (run k1 a hl h0 h1)
end Go.FG.Pu.laws_heldIntS

namespace Go.FG.Pu.laws_heldIntSS
open Pu.laws_markIntSS (mkk mkk_len sm)
theorem sm_cons (n : Nat) (l : List Nat) : sm (n :: l) = (n : Int) + sm l := by unfold sm; rw [List.sum_cons]; omega
theorem sm_nn (l : List Nat) : 0 ≤ sm l := by unfold sm; omega
theorem cells : ∀ (l : List Nat) (k : Int) (i : Nat) (h : i < l.length), cellAt (mkk k l) i 0 = CV.l 3 (Pu.laws_markIntS.mkl (k + sm (l.take i)) l[i])
  | n :: l, k, 0, h => by simp [mkk, cellAt, sm]
  | n :: l, k, i + 1, h => by
    have := cells l (k + n) i (by simpa using h)
    rw [List.take_succ_cons, sm_cons, List.getElem_cons_succ]
    rw [show k + ((n : Int) + sm (l.take i)) = k + n + sm (l.take i) by omega, ← this]
    rfl
theorem sm_split (l : List Nat) (i : Nat) (h : i < l.length) : sm (l.take (i + 1)) = sm (l.take i) + (l[i] : Int) := by
  unfold sm; rw [List.take_succ_eq_append_getElem h, List.sum_append]; simp
theorem sm_le (l : List Nat) (i : Nat) : sm (l.take i) ≤ sm l := by
  unfold sm
  have e : l.sum = (l.take i).sum + (l.drop i).sum := by rw [← List.sum_append, List.take_append_drop]
  rw [e]; omega
theorem ok (k : Int) (l : List Nat) (hl : l.length ≤ 4194304) (ht : sm l ≤ 4194304) (h0 : 0 ≤ k) (h1 : k ≤ 500000000000) : c (mkk k l) k = true ∧ v (mkk k l) k = k + sm l := by
  refine out _ _ ?_
  unfold vo b
  have key := Lib.for_run l.length (fun m (i : Nat) (t : Int) => l2 Lib.big (fun (_ : Row) (_ y6 _ : Int) => some y6) (fun (_ : Row) (y9 _ _ : Int) => some y9) m (mkk k l) t 0 (i : Int)) (fun i => k + sm (l.take i)) (some (k + sm l)) (fun m i h => by
    have hb := sm_nn (l.take i)
    have hc := sm_split l i h
    have hd := sm_le l (i + 1)
    have hm := Pu.laws_heldIntS.ok (k + sm (l.take i)) l[i] (by omega) (by omega) (by omega)
    simp only [l2, r2, mkk_len, Lib.dlt, h, decide_true, Lib.dle0, Bool.and_self, cond_true, Lib.toN, cells l k i h, cvL, hm.1, hm.2, Lib.w64_s h (by omega : l.length ≤ 9223372036854775807)]
    rw [decide_eq_false (show ¬ k + sm (l.take i) + 1 * (l[i] : Int) < 0 by omega), cond_false, hc, show k + sm (l.take i) + 1 * (l[i] : Int) = k + (sm (l.take i) + (l[i] : Int)) by omega]) (fun m => by
    simp only [List.take_length, l2, r2, mkk_len, Lib.dlt, Nat.lt_irrefl, decide_false, cond_false]) Lib.big 0 (Nat.zero_le _) (Lib.lt_big (by omega))
  dsimp only [List.take_zero] at key
  rw [show sm [] = 0 from rfl, Int.add_zero] at key
  exact key
end Go.FG.Pu.laws_heldIntSS

namespace Go.FG.Pu.laws_heldSketch
open Pu.laws_markIntSS (mkk sm)
theorem ok (a k : Int) (l : List Nat) (hl : l.length ≤ 4194304) (ht : sm l ≤ 4194304) (h0 : 0 ≤ k) (h1 : k ≤ 500000000000) : c (mkk k l) a k = true ∧ v (mkk k l) a k = k + sm l := by
  have h := Pu.laws_heldIntSS.ok k l hl ht h0 h1
  have hn := Pu.laws_heldIntSS.sm_nn l
  exact out _ _ _ (by unfold vo b; rw [h.1, h.2, cond_true, decide_eq_false (show ¬ k + sm l < 0 by omega), cond_false])
end Go.FG.Pu.laws_heldSketch

namespace Go.FG.Pu.laws_heldPolicy
open Pu.laws_markIntSS (mkk sm)
open Pu.laws_markPolicy (n1)
theorem ok (a k : Int) (w m : Nat) (l : List Nat) (hw : w ≤ 2097152) (hm : m ≤ 2097152) (hl : l.length ≤ 4194304) (ht : sm l ≤ 4194304) (h0 : 0 ≤ k) (h1 : k ≤ 400000000000) :
    c (Pu.laws_markStringS.mkl k w) (Pu.laws_markStringS.mkl (n1 k w) m) (mkk (n1 (n1 k w) m) l) a k = true ∧ v (Pu.laws_markStringS.mkl k w) (Pu.laws_markStringS.mkl (n1 k w) m) (mkk (n1 (n1 k w) m) l) a k = n1 (n1 k w) m + sm l := by
  have a1 := Pu.laws_heldStringS.ok k w (by omega) h0 (by omega)
  have a2 := Pu.laws_heldStringS.ok (n1 k w) m (by omega) (by unfold n1; omega) (by unfold n1; omega)
  have a3 := Pu.laws_heldSketch.ok a (n1 (n1 k w) m) l hl ht (by unfold n1; omega) (by unfold n1; omega)
  have hn := Pu.laws_heldIntSS.sm_nn l
  unfold n1 at a2 a3 ⊢
  exact out _ _ _ _ _ (by unfold vo b; simp only [a1.1, a1.2, a2.1, a2.2, a3.1, a3.2, cond_true, cond_false, decide_eq_false (show ¬ k + 1 * (w : Int) < 0 by omega), decide_eq_false (show ¬ k + 1 * (w : Int) + 1 * (m : Int) < 0 by omega), decide_eq_false (show ¬ k + 1 * (w : Int) + 1 * (m : Int) + sm l < 0 by omega)])
end Go.FG.Pu.laws_heldPolicy

namespace Go.FG.Pu.laws_FnExactPolicyTouch
open Lib (rr rs)
theorem run (r0 r1 r2 : Row) (a : Int) (key : ByteArray) (f0 : FitR r0) (f1 : FitR r1) (f2 : FitR r2) : vo r0 r1 r2 a key = some true := by
  unfold vo b
  by_cases hk : (key.size : Int) > 1048576
  · rw [decide_eq_true hk]; rfl
  rw [decide_eq_false hk, cond_false]
  obtain ⟨z1, z2, z3⟩ := Pu.laws_szPolicy.ok r0 r1 r2 a 1048576 (by omega) (by omega) f0 f1 f2
  rw [z1, cond_true]
  by_cases h : Pu.laws_szPolicy.v r0 r1 r2 a 1048576 < 0
  · rw [decide_eq_true h]; rfl
  rw [decide_eq_false h, cond_false]
  obtain ⟨l0, l1, l2, hin⟩ := z3 (by omega)
  have t := Pu.laws_toPolicy.abs r0 r1 r2 a l0 l1 l2 hin
  have q0 := Pu.laws_toPolicy.bs_len r0
  have q1 := Pu.laws_toPolicy.bs_len r1
  obtain ⟨q2, q3, q4⟩ := Pu.laws_toPolicy.is_fit l2 hin
  generalize Pu.laws_toPolicy.bs r0 = w at t q0
  generalize Pu.laws_toPolicy.bs r1 = m at t q1
  generalize Pu.laws_toPolicy.is r2 = s at t q2 q3 q4
  have hf : Pu.impl_copySketch.fitS s := ⟨q2, q3⟩
  have S := Pu.spec_PolicyTouch.ok w m s a key (by omega) (by omega) hf (by omega)
  have I := Pu.impl_PolicyTouch.ok w m s a key (by omega) (by omega) hf (by omega)
  obtain ⟨b1, b2, b3⟩ := Pu.spec_PolicyTouch.val_bd w m s a key
  have b4 : (Pu.spec_PolicyTouch.val w m s a key).2.2.1.length = s.length := by
    have := congrArg List.length b3; unfold Pu.spec_PolicyTouch.lens at this; simpa using this
  have b5 : Pu.laws_markIntSS.sm (Pu.laws_markIntSS.lens (Pu.spec_PolicyTouch.val w m s a key).2.2.1) ≤ 1048576 := by
    rw [show Pu.laws_markIntSS.lens (Pu.spec_PolicyTouch.val w m s a key).2.2.1 = s.map List.length from b3]
    unfold Pu.laws_markIntSS.sm; omega
  have b6 : Pu.laws_markIntSS.sm (Pu.laws_markIntSS.lens s) ≤ 1048576 := by
    show (((s.map List.length).sum : Nat) : Int) ≤ 1048576; omega
  generalize Pu.spec_PolicyTouch.val w m s a key = V at S I b1 b2 b3 b4 b5
  obtain ⟨W, M, T, A, G⟩ := V
  dsimp only at S I b1 b2 b3 b4 b5
  have e1 := Pu.laws_eqPolicy.ok (rs W) (rs M) (rr T) A (by rw [Lib.rs_len]; omega) (by rw [Lib.rs_len]; omega) (by rw [Lib.rr_len]; omega)
  have e2 := Pu.laws_eqPolicy.ok (rs w) (rs m) (rr s) a (by rw [Lib.rs_len]; omega) (by rw [Lib.rs_len]; omega) (by rw [Lib.rr_len]; omega)
  have m1 := Pu.laws_markPolicy.ok w m s a 1 (by omega) (by omega) (by omega) (by omega) (by omega) (by omega)
  have m2 := Pu.laws_markPolicy.ok W M T A 1 (by omega) (by omega) (by omega) (by omega) (by omega) (by omega)
  have hh := Pu.laws_heldPolicy.ok A 1 W.length M.length (Pu.laws_markIntSS.lens T) (by omega) (by omega) (by unfold Pu.laws_markIntSS.lens; rw [List.length_map]; omega) (by omega) (by omega) (by omega)
  have nn := Pu.laws_heldIntSS.sm_nn (Pu.laws_markIntSS.lens T)
  have nn2 := Pu.laws_heldIntSS.sm_nn (Pu.laws_markIntSS.lens s)
  have p1 : decide (Pu.laws_markPolicy.n1 (Pu.laws_markPolicy.n1 1 w.length) m.length + Pu.laws_markIntSS.sm (Pu.laws_markIntSS.lens s) < 0) = false := decide_eq_false (by unfold Pu.laws_markPolicy.n1; omega)
  have p2 : decide (Pu.laws_markPolicy.n1 (Pu.laws_markPolicy.n1 1 W.length) M.length + Pu.laws_markIntSS.sm (Pu.laws_markIntSS.lens T) < 0) = false := decide_eq_false (by unfold Pu.laws_markPolicy.n1; omega)
  simp only [Lib.lt, t.1, t.2, S.1, S.2, I.1, I.2, e1.1, e1.2, e2.1, e2.2, m1.1, m1.2, m2.1, m2.2, hh.1, hh.2, p1, p2, Lib.beq_refl_ba, bne_self_eq_false, cond_true, cond_false, Bool.not_true]
theorem law (r0 r1 r2 : Row) (a : Int) (key : ByteArray) {A B : Prop} (f0 : FitR r0) (f1 : FitR r1) (f2 : FitR r2) (_ : A) (_ : B) : v r0 r1 r2 a key = true := (out _ _ _ _ _ (run r0 r1 r2 a key f0 f1 f2)).2
theorem lawc (r0 r1 r2 : Row) (a : Int) (key : ByteArray) {A B : Prop} (f0 : FitR r0) (f1 : FitR r1) (f2 : FitR r2) (_ : A) (_ : B) : c r0 r1 r2 a key = true := (out _ _ _ _ _ (run r0 r1 r2 a key f0 f1 f2)).1
end Go.FG.Pu.laws_FnExactPolicyTouch

