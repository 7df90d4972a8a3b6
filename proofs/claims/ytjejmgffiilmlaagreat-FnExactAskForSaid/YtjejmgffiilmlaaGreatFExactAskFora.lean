/- What the functions come to, in plain numbers, texts and lists; last the law itself. No condition but those that each states. -/
import Derived.Test.YtjejmgffiilmlaaGreatPExactAskFor
set_option linter.unusedVariables false
set_option linter.unusedSimpArgs false
set_option maxRecDepth 100000
namespace Go.FG.U214
theorem bd {q : Row} {L : Int} (z : q.length <= 9223372036854775807) (h0 : 0 <= L) (h1 : L <= 1048576) : U110.v q L <= 1048576 /\ (¬ U110.v q L < 0 -> q.length <= 1048576 /\ U110.v q L = L - (q.length : Int)) := by
 unfold U110.v
 rw [Lib.w64_ok (by omega) (by omega)]
 by_cases c0 : L - (q.length : Int) < 0
 ·rw [decide_eq_true c0, cond_true]; exact ⟨by omega, fun h => absurd (by omega) h⟩
 ·rw [decide_eq_false c0, cond_false]; exact ⟨by omega, fun h => ⟨by omega, rfl⟩⟩
def tot (a : Row) : Nat := (a.map fun y => (cvL (y.getD 0 (.b false))).length).sum
def inn (a : Row) : Prop := (∀ j, j < a.length -> (cvL (cellAt a j 0)).length <= 1048576) /\ tot a <= 1048576
theorem tot_succ (a : Row) (i : Nat) (h : i < a.length) : tot (a.take (i + 1)) = tot (a.take i) + (cvL (cellAt a i 0)).length := by
 unfold tot
 rw [List.take_succ_eq_append_getElem h, List.map_append, List.sum_append, Lib.cellAt_of h]
 simp
theorem run (a : Row) (L : Int) (h0 : 0 <= L) (h1 : L <= 1048576) (ha : FitR a) : ∃ x, vo a L = some x /\ x <= 1048576 /\ (0 <= x -> a.length <= 1048576 /\ inn a) := by
 have hl := ha.1
 unfold vo b
 rw [Lib.w64_ok (x := L - (a.length : Int)) (by omega) (by omega)]
 by_cases hc : L - (a.length : Int) < 0
 ·rw [decide_eq_true hc]; exact ⟨-1, rfl, by omega, fun h => by omega⟩
 ·rw [decide_eq_false hc, cond_false]
  have key := Lib.loop_post (fun n (s : Nat × Int) => l5 Lib.big (fun (_ : Row) (_ y6 _ : Int) => some y6) (fun (_ : Row) (y9 _ _ : Int) => some y9) n a s.2 0 (s.1 : Int)) (fun s => a.length - s.1) (fun s => s.1 <= a.length /\ 0 <= s.2 /\ s.2 <= 1048576 /\ (∀ j, j < s.1 -> (cvL (cellAt a j 0)).length <= 1048576) /\ s.2 + (tot (a.take s.1) : Int) <= 1048576) (fun x => x <= 1048576 /\ (0 <= x -> inn a)) (fun n s hs => by
   obtain ⟨i, L⟩ := s
   obtain ⟨hi, hL0, hL1, hin, hto⟩ := hs
   dsimp only at hi hL0 hL1 hin hto ⊢
   by_cases h : i < a.length
   ·have hi1 : w64 ((i : Int) + 1) = ((i + 1 : Nat) : Int) := Lib.w64_ok (by omega) (by omega)
    have hw := bd (Lib.FitR_cell ha i 0).1 hL0 hL1
    by_cases hn : U110.v (cvL (cellAt a i 0)) L < 0
    ·exact .inl ⟨-1, by simp only [l5, r5, Lib.dlt, h, decide_true, Lib.dle0, Bool.and_self, cond_true, Lib.toN, hn], by omega, fun h => by omega⟩
    ·exact .inr ⟨(i + 1, U110.v (cvL (cellAt a i 0)) L), ⟨h, by omega, hw.1, fun j hj => by
      by_cases hji : j = i
      ·subst hji; exact (hw.2 hn).1
      ·exact hin j (by dsimp only at hj; omega), by
      have e := (hw.2 hn).2
      have e2 := tot_succ a i h
      dsimp only
      rw [e, e2]; omega⟩, by dsimp only; omega, by simp only [l5, r5, Lib.dlt, h, decide_true, decide_false, Lib.dle0, Bool.and_self, cond_true, cond_false, Lib.toN, hn, hi1]⟩
   ·exact .inl ⟨L, by simp only [l5, r5, Lib.dlt, h, decide_false, cond_false], hL1, fun _ => ⟨fun j hj => hin j (by omega), by
     have e : i = a.length := by omega
     rw [e, List.take_length] at hto; omega⟩⟩) Lib.big (0, L - (a.length : Int)) ⟨Nat.zero_le _, by dsimp only; omega, by dsimp only; omega, fun j hj => absurd hj (Nat.not_lt_zero j), by dsimp only; rw [List.take_zero]; show L - (a.length : Int) + ((0 : Nat) : Int) <= _; omega⟩ (Lib.lt_big (by omega))
  obtain ⟨x, hx, hb, hb2⟩ := key
  exact ⟨x, hx, hb, fun h => ⟨by omega, hb2 h⟩⟩
theorem ok (a : Row) (L : Int) (h0 : 0 <= L) (h1 : L <= 1048576) (ha : FitR a) : c a L = true /\ v a L <= 1048576 /\ (0 <= v a L -> a.length <= 1048576 /\ inn a) := by
 obtain ⟨x, h, h2, h3⟩ := run a L h0 h1 ha
 obtain ⟨e1, e2⟩ := out a L h
 rw [e2]; exact ⟨e1, h2, h3⟩
end Go.FG.U214

namespace Go.FG.U135
theorem bd (x0 : ByteArray) (x1 : Int) (x2 : Int) (x3 : ByteArray) (L : Int) (h0 : okS x0) (h3 : okS x3) (hL0 : 0 <= L) (hL1 : L <= 1048576) : v x0 x1 x2 x3 L <= 1048576 := by
 have hz : ∀ x, okS x -> x.size <= 4611686018427387904 := fun _ h => h
 have z0 := hz _ h0
 have z3 := hz _ h3
 unfold v
 rw [Lib.w64_ok (x := L - (x0.size : Int)) (by omega) (by omega)]
 by_cases c0 : L - (x0.size : Int) < 0
 ·rw [decide_eq_true c0, cond_true]; omega
 ·rw [decide_eq_false c0, cond_false]
  rw [Lib.w64_ok (x := (L - (x0.size : Int)) - (x3.size : Int)) (by omega) (by omega)]
  by_cases c3 : (L - (x0.size : Int)) - (x3.size : Int) < 0
  ·rw [decide_eq_true c3, cond_true]; omega
  ·rw [decide_eq_false c3, cond_false]
   omega
end Go.FG.U135

namespace Go.FG.U44
theorem run (a : Row) (L : Int) (h0 : 0 <= L) (h1 : L <= 1048576) (ha : FitR a) : ∃ x, vo a L = some x /\ x <= 1048576 /\ (0 <= x -> a.length <= 1048576) := by
 have hl := ha.1
 unfold vo b
 rw [Lib.w64_ok (x := L - (a.length : Int)) (by omega) (by omega)]
 by_cases hc : L - (a.length : Int) < 0
 ·rw [decide_eq_true hc]; exact ⟨-1, rfl, by omega, fun h => by omega⟩
 ·rw [decide_eq_false hc, cond_false]
  have key := Lib.loop_post (fun n (s : Nat × Int) => l5 Lib.big (fun (_ : Row) (_ y6 _ : Int) => some y6) (fun (_ : Row) (y9 _ _ : Int) => some y9) n a s.2 0 (s.1 : Int)) (fun s => a.length - s.1) (fun s => s.1 <= a.length /\ 0 <= s.2 /\ s.2 <= 1048576) (fun x => x <= 1048576) (fun n s hs => by
   obtain ⟨i, L⟩ := s
   obtain ⟨hi, hL0, hL1⟩ := hs
   dsimp only at hi hL0 hL1 ⊢
   by_cases h : i < a.length
   ·have hi1 : w64 ((i : Int) + 1) = ((i + 1 : Nat) : Int) := Lib.w64_ok (by omega) (by omega)
    have hw : U135.v (cvS (cellAt a i 0)) (cvI (cellAt a i 1)) (cvI (cellAt a i (1 + 1))) (cvS (cellAt a i (1 + 1 + 1))) L <= 1048576 := U135.bd _ _ _ _ L (Lib.okS_cell ha i _) (Lib.okS_cell ha i _) hL0 hL1
    by_cases hn : U135.v (cvS (cellAt a i 0)) (cvI (cellAt a i 1)) (cvI (cellAt a i (1 + 1))) (cvS (cellAt a i (1 + 1 + 1))) L < 0
    ·exact .inl ⟨-1, by simp only [l5, r5, Lib.dlt, h, decide_true, Lib.dle0, Bool.and_self, cond_true, Lib.toN, hn], by omega⟩
    ·exact .inr ⟨(i + 1, U135.v (cvS (cellAt a i 0)) (cvI (cellAt a i 1)) (cvI (cellAt a i (1 + 1))) (cvS (cellAt a i (1 + 1 + 1))) L), ⟨h, by omega, hw⟩, by dsimp only; omega, by simp only [l5, r5, Lib.dlt, h, decide_true, decide_false, Lib.dle0, Bool.and_self, cond_true, cond_false, Lib.toN, hn, hi1]⟩
   ·exact .inl ⟨L, by simp only [l5, r5, Lib.dlt, h, decide_false, cond_false], hL1⟩) Lib.big (0, L - (a.length : Int)) ⟨Nat.zero_le _, by dsimp only; omega, by dsimp only; omega⟩ (Lib.lt_big (by omega))
  obtain ⟨x, hx, hb⟩ := key
  exact ⟨x, hx, hb, fun _ => by omega⟩
theorem ok (a : Row) (L : Int) (h0 : 0 <= L) (h1 : L <= 1048576) (ha : FitR a) : c a L = true /\ v a L <= 1048576 /\ (0 <= v a L -> a.length <= 1048576) := by
 obtain ⟨x, h, h2, h3⟩ := run a L h0 h1 ha
 obtain ⟨e1, e2⟩ := out a L h
 rw [e2]; exact ⟨e1, h2, h3⟩
end Go.FG.U44

namespace Go.FG.U136
theorem run (a : Row) (L : Int) (h0 : 0 <= L) (h1 : L <= 1048576) (ha : FitR a) : ∃ x, vo a L = some x /\ x <= 1048576 /\ (0 <= x -> a.length <= 1048576) := by
 have hl := ha.1
 unfold vo b
 rw [Lib.w64_ok (x := L - (a.length : Int)) (by omega) (by omega)]
 by_cases hc : L - (a.length : Int) < 0
 ·rw [decide_eq_true hc]; exact ⟨-1, rfl, by omega, fun h => by omega⟩
 ·rw [decide_eq_false hc, cond_false]
  have key := Lib.loop_post (fun n (s : Nat × Int) => l5 Lib.big (fun (_ : Row) (_ y6 _ : Int) => some y6) (fun (_ : Row) (y9 _ _ : Int) => some y9) n a s.2 0 (s.1 : Int)) (fun s => a.length - s.1) (fun s => s.1 <= a.length /\ 0 <= s.2 /\ s.2 <= 1048576) (fun x => x <= 1048576) (fun n s hs => by
   obtain ⟨i, L⟩ := s
   obtain ⟨hi, hL0, hL1⟩ := hs
   dsimp only at hi hL0 hL1 ⊢
   by_cases h : i < a.length
   ·have hi1 : w64 ((i : Int) + 1) = ((i + 1 : Nat) : Int) := Lib.w64_ok (by omega) (by omega)
    have z : (cvS (cellAt a i 0)).size <= 4611686018427387904 := Lib.okS_cell ha i 0
    have hw : w64 (L - (↑(ByteArray.size (cvS (cellAt a i 0))) : Int)) <= 1048576 := by rw [Lib.w64_ok (by omega) (by omega)]; omega
    by_cases hn : w64 (L - (↑(ByteArray.size (cvS (cellAt a i 0))) : Int)) < 0
    ·exact .inl ⟨-1, by simp only [l5, r5, Lib.dlt, h, decide_true, Lib.dle0, Bool.and_self, cond_true, Lib.toN, hn], by omega⟩
    ·exact .inr ⟨(i + 1, w64 (L - (↑(ByteArray.size (cvS (cellAt a i 0))) : Int))), ⟨h, by omega, hw⟩, by dsimp only; omega, by simp only [l5, r5, Lib.dlt, h, decide_true, decide_false, Lib.dle0, Bool.and_self, cond_true, cond_false, Lib.toN, hn, hi1]⟩
   ·exact .inl ⟨L, by simp only [l5, r5, Lib.dlt, h, decide_false, cond_false], hL1⟩) Lib.big (0, L - (a.length : Int)) ⟨Nat.zero_le _, by dsimp only; omega, by dsimp only; omega⟩ (Lib.lt_big (by omega))
  obtain ⟨x, hx, hb⟩ := key
  exact ⟨x, hx, hb, fun _ => by omega⟩
theorem ok (a : Row) (L : Int) (h0 : 0 <= L) (h1 : L <= 1048576) (ha : FitR a) : c a L = true /\ v a L <= 1048576 /\ (0 <= v a L -> a.length <= 1048576) := by
 obtain ⟨x, h, h2, h3⟩ := run a L h0 h1 ha
 obtain ⟨e1, e2⟩ := out a L h
 rw [e2]; exact ⟨e1, h2, h3⟩
end Go.FG.U136

namespace Go.FG.U137
theorem ok (r : Row) (k : Int) (L : Int) (h0 : 0 <= L) (h1 : L <= 1048576) (ha : FitR r) : c r k L = true /\ v r k L <= 1048576 /\ (0 <= v r k L -> r.length <= 1048576 /\ U214.inn r) := by
 obtain ⟨e1, e2, e3⟩ := U214.ok r L h0 h1 ha
 by_cases h : U214.v r L < 0
 ·obtain ⟨q1, q2⟩ := out r k L (x := -1) (by unfold vo b; rw [e1, cond_true, decide_eq_true h, cond_true])
  rw [q2]; exact ⟨q1, by omega, fun h => by omega⟩
 ·obtain ⟨q1, q2⟩ := out r k L (x := U214.v r L) (by unfold vo b; rw [e1, cond_true, decide_eq_false h, cond_false])
  rw [q2]; exact ⟨q1, e2, e3⟩
end Go.FG.U137

namespace Go.FG.U45
theorem ok (r0 r1 r2 : Row) (k : Int) (L : Int) (h0 : 0 <= L) (h1 : L <= 1048576) (f0 : FitR r0) (f1 : FitR r1) (f2 : FitR r2) : c r0 r1 r2 k L = true /\ v r0 r1 r2 k L <= 1048576 /\ (0 <= v r0 r1 r2 k L -> r0.length <= 1048576 /\ r1.length <= 1048576 /\ r2.length <= 1048576 /\ U214.inn r2) := by
 have a1 := U136.ok r0 L h0 h1 f0
 by_cases hA : U136.v r0 L < 0
 ·obtain ⟨q1, q2⟩ := out r0 r1 r2 k L (x := -1) (by unfold vo b; rw [a1.1, cond_true, decide_eq_true hA, cond_true])
  rw [q2]; exact ⟨q1, by omega, fun h => by omega⟩
 have a2 := U136.ok r1 (U136.v r0 L) (by omega) a1.2.1 f1
 by_cases hB : U136.v r1 (U136.v r0 L) < 0
 ·obtain ⟨q1, q2⟩ := out r0 r1 r2 k L (x := -1) (by unfold vo b; rw [a1.1, cond_true, decide_eq_false hA, cond_false, a2.1, cond_true, decide_eq_true hB, cond_true])
  rw [q2]; exact ⟨q1, by omega, fun h => by omega⟩
 have a3 := U137.ok r2 k (U136.v r1 (U136.v r0 L)) (by omega) a2.2.1 f2
 by_cases hC : U137.v r2 k (U136.v r1 (U136.v r0 L)) < 0
 ·obtain ⟨q1, q2⟩ := out r0 r1 r2 k L (x := -1) (by unfold vo b; rw [a1.1, cond_true, decide_eq_false hA, cond_false, a2.1, cond_true, decide_eq_false hB, cond_false, a3.1, cond_true, decide_eq_true hC, cond_true])
  rw [q2]; exact ⟨q1, by omega, fun h => by omega⟩
 obtain ⟨q1, q2⟩ := out r0 r1 r2 k L (x := U137.v r2 k (U136.v r1 (U136.v r0 L))) (by unfold vo b; rw [a1.1, cond_true, decide_eq_false hA, cond_false, a2.1, cond_true, decide_eq_false hB, cond_false, a3.1, cond_true, decide_eq_false hC, cond_false])
 rw [q2]; exact ⟨q1, a3.2.1, fun h => ⟨a1.2.2 (by omega), a2.2.2 (by omega), a3.2.2 h⟩⟩
end Go.FG.U45

namespace Go.FG.U138
theorem bd (x0 : ByteArray) (x1 : ByteArray) (x2 : Int) (x3 : Int) (x4 : Int) (L : Int) (h0 : okS x0) (h1 : okS x1) (hL0 : 0 <= L) (hL1 : L <= 1048576) : v x0 x1 x2 x3 x4 L <= 1048576 := by
 have hz : ∀ x, okS x -> x.size <= 4611686018427387904 := fun _ h => h
 have z0 := hz _ h0
 have z1 := hz _ h1
 unfold v
 rw [Lib.w64_ok (x := L - (x0.size : Int)) (by omega) (by omega)]
 by_cases c0 : L - (x0.size : Int) < 0
 ·rw [decide_eq_true c0, cond_true]; omega
 ·rw [decide_eq_false c0, cond_false]
  rw [Lib.w64_ok (x := (L - (x0.size : Int)) - (x1.size : Int)) (by omega) (by omega)]
  by_cases c1 : (L - (x0.size : Int)) - (x1.size : Int) < 0
  ·rw [decide_eq_true c1, cond_true]; omega
  ·rw [decide_eq_false c1, cond_false]
   omega
end Go.FG.U138

namespace Go.FG.U46
theorem run (a : Row) (L : Int) (h0 : 0 <= L) (h1 : L <= 1048576) (ha : FitR a) : ∃ x, vo a L = some x /\ x <= 1048576 /\ (0 <= x -> a.length <= 1048576) := by
 have hl := ha.1
 unfold vo b
 rw [Lib.w64_ok (x := L - (a.length : Int)) (by omega) (by omega)]
 by_cases hc : L - (a.length : Int) < 0
 ·rw [decide_eq_true hc]; exact ⟨-1, rfl, by omega, fun h => by omega⟩
 ·rw [decide_eq_false hc, cond_false]
  have key := Lib.loop_post (fun n (s : Nat × Int) => l5 Lib.big (fun (_ : Row) (_ y6 _ : Int) => some y6) (fun (_ : Row) (y9 _ _ : Int) => some y9) n a s.2 0 (s.1 : Int)) (fun s => a.length - s.1) (fun s => s.1 <= a.length /\ 0 <= s.2 /\ s.2 <= 1048576) (fun x => x <= 1048576) (fun n s hs => by
   obtain ⟨i, L⟩ := s
   obtain ⟨hi, hL0, hL1⟩ := hs
   dsimp only at hi hL0 hL1 ⊢
   by_cases h : i < a.length
   ·have hi1 : w64 ((i : Int) + 1) = ((i + 1 : Nat) : Int) := Lib.w64_ok (by omega) (by omega)
    have hw : U138.v (cvS (cellAt a i 0)) (cvS (cellAt a i 1)) (cvI (cellAt a i (1 + 1))) (cvI (cellAt a i (1 + 1 + 1))) (cvI (cellAt a i (1 + 1 + 1 + 1))) L <= 1048576 := U138.bd _ _ _ _ _ L (Lib.okS_cell ha i _) (Lib.okS_cell ha i _) hL0 hL1
    by_cases hn : U138.v (cvS (cellAt a i 0)) (cvS (cellAt a i 1)) (cvI (cellAt a i (1 + 1))) (cvI (cellAt a i (1 + 1 + 1))) (cvI (cellAt a i (1 + 1 + 1 + 1))) L < 0
    ·exact .inl ⟨-1, by simp only [l5, r5, Lib.dlt, h, decide_true, Lib.dle0, Bool.and_self, cond_true, Lib.toN, hn], by omega⟩
    ·exact .inr ⟨(i + 1, U138.v (cvS (cellAt a i 0)) (cvS (cellAt a i 1)) (cvI (cellAt a i (1 + 1))) (cvI (cellAt a i (1 + 1 + 1))) (cvI (cellAt a i (1 + 1 + 1 + 1))) L), ⟨h, by omega, hw⟩, by dsimp only; omega, by simp only [l5, r5, Lib.dlt, h, decide_true, decide_false, Lib.dle0, Bool.and_self, cond_true, cond_false, Lib.toN, hn, hi1]⟩
   ·exact .inl ⟨L, by simp only [l5, r5, Lib.dlt, h, decide_false, cond_false], hL1⟩) Lib.big (0, L - (a.length : Int)) ⟨Nat.zero_le _, by dsimp only; omega, by dsimp only; omega⟩ (Lib.lt_big (by omega))
  obtain ⟨x, hx, hb⟩ := key
  exact ⟨x, hx, hb, fun _ => by omega⟩
theorem ok (a : Row) (L : Int) (h0 : 0 <= L) (h1 : L <= 1048576) (ha : FitR a) : c a L = true /\ v a L <= 1048576 /\ (0 <= v a L -> a.length <= 1048576) := by
 obtain ⟨x, h, h2, h3⟩ := run a L h0 h1 ha
 obtain ⟨e1, e2⟩ := out a L h
 rw [e2]; exact ⟨e1, h2, h3⟩
end Go.FG.U46

namespace Go.FG.U139
theorem bd (x0 : Int) (x1 : ByteArray) (x2 : Int) (x3 : Int) (x4 : Int) (x5 : ByteArray) (x6 : Int) (L : Int) (h1 : okS x1) (h5 : okS x5) (hL0 : 0 <= L) (hL1 : L <= 1048576) : v x0 x1 x2 x3 x4 x5 x6 L <= 1048576 := by
 have hz : ∀ x, okS x -> x.size <= 4611686018427387904 := fun _ h => h
 have z1 := hz _ h1
 have z5 := hz _ h5
 unfold v
 rw [Lib.w64_ok (x := L - (x1.size : Int)) (by omega) (by omega)]
 by_cases c1 : L - (x1.size : Int) < 0
 ·rw [decide_eq_true c1, cond_true]; omega
 ·rw [decide_eq_false c1, cond_false]
  rw [Lib.w64_ok (x := (L - (x1.size : Int)) - (x5.size : Int)) (by omega) (by omega)]
  by_cases c5 : (L - (x1.size : Int)) - (x5.size : Int) < 0
  ·rw [decide_eq_true c5, cond_true]; omega
  ·rw [decide_eq_false c5, cond_false]
   omega
end Go.FG.U139

namespace Go.FG.U47
theorem run (a : Row) (L : Int) (h0 : 0 <= L) (h1 : L <= 1048576) (ha : FitR a) : ∃ x, vo a L = some x /\ x <= 1048576 /\ (0 <= x -> a.length <= 1048576) := by
 have hl := ha.1
 unfold vo b
 rw [Lib.w64_ok (x := L - (a.length : Int)) (by omega) (by omega)]
 by_cases hc : L - (a.length : Int) < 0
 ·rw [decide_eq_true hc]; exact ⟨-1, rfl, by omega, fun h => by omega⟩
 ·rw [decide_eq_false hc, cond_false]
  have key := Lib.loop_post (fun n (s : Nat × Int) => l5 Lib.big (fun (_ : Row) (_ y6 _ : Int) => some y6) (fun (_ : Row) (y9 _ _ : Int) => some y9) n a s.2 0 (s.1 : Int)) (fun s => a.length - s.1) (fun s => s.1 <= a.length /\ 0 <= s.2 /\ s.2 <= 1048576) (fun x => x <= 1048576) (fun n s hs => by
   obtain ⟨i, L⟩ := s
   obtain ⟨hi, hL0, hL1⟩ := hs
   dsimp only at hi hL0 hL1 ⊢
   by_cases h : i < a.length
   ·have hi1 : w64 ((i : Int) + 1) = ((i + 1 : Nat) : Int) := Lib.w64_ok (by omega) (by omega)
    have hw : U139.v (cvI (cellAt a i 0)) (cvS (cellAt a i 1)) (cvI (cellAt a i (1 + 1))) (cvI (cellAt a i (1 + 1 + 1))) (cvI (cellAt a i (1 + 1 + 1 + 1))) (cvS (cellAt a i (1 + 1 + 1 + 1 + 1))) (cvI (cellAt a i (1 + 1 + 1 + 1 + 1 + 1))) L <= 1048576 := U139.bd _ _ _ _ _ _ _ L (Lib.okS_cell ha i _) (Lib.okS_cell ha i _) hL0 hL1
    by_cases hn : U139.v (cvI (cellAt a i 0)) (cvS (cellAt a i 1)) (cvI (cellAt a i (1 + 1))) (cvI (cellAt a i (1 + 1 + 1))) (cvI (cellAt a i (1 + 1 + 1 + 1))) (cvS (cellAt a i (1 + 1 + 1 + 1 + 1))) (cvI (cellAt a i (1 + 1 + 1 + 1 + 1 + 1))) L < 0
    ·exact .inl ⟨-1, by simp only [l5, r5, Lib.dlt, h, decide_true, Lib.dle0, Bool.and_self, cond_true, Lib.toN, hn], by omega⟩
    ·exact .inr ⟨(i + 1, U139.v (cvI (cellAt a i 0)) (cvS (cellAt a i 1)) (cvI (cellAt a i (1 + 1))) (cvI (cellAt a i (1 + 1 + 1))) (cvI (cellAt a i (1 + 1 + 1 + 1))) (cvS (cellAt a i (1 + 1 + 1 + 1 + 1))) (cvI (cellAt a i (1 + 1 + 1 + 1 + 1 + 1))) L), ⟨h, by omega, hw⟩, by dsimp only; omega, by simp only [l5, r5, Lib.dlt, h, decide_true, decide_false, Lib.dle0, Bool.and_self, cond_true, cond_false, Lib.toN, hn, hi1]⟩
   ·exact .inl ⟨L, by simp only [l5, r5, Lib.dlt, h, decide_false, cond_false], hL1⟩) Lib.big (0, L - (a.length : Int)) ⟨Nat.zero_le _, by dsimp only; omega, by dsimp only; omega⟩ (Lib.lt_big (by omega))
  obtain ⟨x, hx, hb⟩ := key
  exact ⟨x, hx, hb, fun _ => by omega⟩
theorem ok (a : Row) (L : Int) (h0 : 0 <= L) (h1 : L <= 1048576) (ha : FitR a) : c a L = true /\ v a L <= 1048576 /\ (0 <= v a L -> a.length <= 1048576) := by
 obtain ⟨x, h, h2, h3⟩ := run a L h0 h1 ha
 obtain ⟨e1, e2⟩ := out a L h
 rw [e2]; exact ⟨e1, h2, h3⟩
end Go.FG.U47

namespace Go.FG.U8
theorem ok (i0 : Int) (r1 r2 r3 r4 : Row) (i5 : Int) (r6 r7 : Row) (i8 : Int) (L : Int) (h0 : 0 <= L) (h1 : L <= 1048576) (f1 : FitR r1) (f2 : FitR r2) (f3 : FitR r3) (f4 : FitR r4) (f6 : FitR r6) (f7 : FitR r7) :
  c i0 r1 r2 r3 r4 i5 r6 r7 i8 L = true /\ v i0 r1 r2 r3 r4 i5 r6 r7 i8 L <= 1048576 /\ (0 <= v i0 r1 r2 r3 r4 i5 r6 r7 i8 L -> r1.length <= 1048576 /\ (r2.length <= 1048576 /\ r3.length <= 1048576 /\ r4.length <= 1048576 /\ U214.inn r4) /\ r6.length <= 1048576 /\ r7.length <= 1048576) := by
 have a1 := U44.ok r1 L h0 h1 f1
 by_cases hA : U44.v r1 L < 0
 ·obtain ⟨q1, q2⟩ := out i0 r1 r2 r3 r4 i5 r6 r7 i8 L (x := -1) (by unfold vo b; rw [a1.1, cond_true, decide_eq_true hA, cond_true])
  rw [q2]; exact ⟨q1, by omega, fun h => by omega⟩
 have a2 := U45.ok r2 r3 r4 i5 (U44.v r1 L) (by omega) a1.2.1 f2 f3 f4
 by_cases hB : U45.v r2 r3 r4 i5 (U44.v r1 L) < 0
 ·obtain ⟨q1, q2⟩ := out i0 r1 r2 r3 r4 i5 r6 r7 i8 L (x := -1) (by unfold vo b; rw [a1.1, cond_true, decide_eq_false hA, cond_false, a2.1, cond_true, decide_eq_true hB, cond_true])
  rw [q2]; exact ⟨q1, by omega, fun h => by omega⟩
 have a3 := U46.ok r6 (U45.v r2 r3 r4 i5 (U44.v r1 L)) (by omega) a2.2.1 f6
 by_cases hC : U46.v r6 (U45.v r2 r3 r4 i5 (U44.v r1 L)) < 0
 ·obtain ⟨q1, q2⟩ := out i0 r1 r2 r3 r4 i5 r6 r7 i8 L (x := -1) (by unfold vo b; rw [a1.1, cond_true, decide_eq_false hA, cond_false, a2.1, cond_true, decide_eq_false hB, cond_false, a3.1, cond_true, decide_eq_true hC, cond_true])
  rw [q2]; exact ⟨q1, by omega, fun h => by omega⟩
 have a4 := U47.ok r7 (U46.v r6 (U45.v r2 r3 r4 i5 (U44.v r1 L))) (by omega) a3.2.1 f7
 by_cases hD : U47.v r7 (U46.v r6 (U45.v r2 r3 r4 i5 (U44.v r1 L))) < 0
 ·obtain ⟨q1, q2⟩ := out i0 r1 r2 r3 r4 i5 r6 r7 i8 L (x := -1) (by unfold vo b; rw [a1.1, cond_true, decide_eq_false hA, cond_false, a2.1, cond_true, decide_eq_false hB, cond_false, a3.1, cond_true, decide_eq_false hC, cond_false, a4.1, cond_true, decide_eq_true hD, cond_true])
  rw [q2]; exact ⟨q1, by omega, fun h => by omega⟩
 obtain ⟨q1, q2⟩ := out i0 r1 r2 r3 r4 i5 r6 r7 i8 L (x := U47.v r7 (U46.v r6 (U45.v r2 r3 r4 i5 (U44.v r1 L)))) (by unfold vo b; rw [a1.1, cond_true, decide_eq_false hA, cond_false, a2.1, cond_true, decide_eq_false hB, cond_false, a3.1, cond_true, decide_eq_false hC, cond_false, a4.1, cond_true, decide_eq_false hD, cond_false])
 rw [q2]; exact ⟨q1, a4.2.1, fun h => ⟨a1.2.2 (by omega), a2.2.2 (by omega), a3.2.2 (by omega), a4.2.2 h⟩⟩
end Go.FG.U8

namespace Go.FG.U58
def tl (a0 : Row) : Row := a0.map fun y => [CV.s (cvS (y.getD 0 (.b false))), CV.i IntKind.i64 (cvI (y.getD 1 (.b false))), CV.i IntKind.i64 (cvI (y.getD 2 (.b false))), CV.s (cvS (y.getD 3 (.b false)))]
theorem tl_len (a0 : Row) : (tl a0).length = a0.length := by unfold tl; simp
theorem tl_sh (a0 : Row) : ∀ y ∈ tl a0, y.length = 4 := by
 intro y hy; unfold tl at hy; obtain ⟨z, _, rfl⟩ := List.mem_map.1 hy; rfl
theorem run (a0 : Row) (hl : a0.length <= 1048576) : vo a0 = some (tl a0) := by
 unfold vo b
 rw [show decide ((a0.length : Int) = (a0.length : Int)) = true by simp, Lib.toN, Lib.roomy_of (by omega) (by omega), Bool.and_self, cond_true]
 have mono := Lib.loop_gen (fun m (s : Nat) => l3 Lib.big (fun (_ : Row) (_ : Int) (y : Row) => some y) m a0 (s : Int) ((tl a0).take s ++ zeros [Ck.s, Ck.i IntKind.i64, Ck.i IntKind.i64, Ck.s] (a0.length - s))) (fun i => a0.length - i) (fun i => i <= a0.length) (fun _ => some (tl a0)) (fun m i hi => by
  by_cases h : i < a0.length
  ·right
   refine ⟨i + 1, h, by omega, rfl, ?_⟩
   have hlt : i < (tl a0).length := by rw [tl_len]; exact h
   have e := Lib.setC_step (ks := [Ck.s, Ck.i IntKind.i64, Ck.i IntKind.i64, Ck.s]) (tl_len a0) h (List.getElem?_eq_getElem hlt) (tl_sh a0 _ (List.getElem_mem hlt))
   have eg : (tl a0)[i] = [CV.s (cvS (cellAt a0 i 0)), CV.i IntKind.i64 (cvI (cellAt a0 i 1)), CV.i IntKind.i64 (cvI (cellAt a0 i 2)), CV.s (cvS (cellAt a0 i 3))] := by simp [tl, cellAt, List.getD, h]
   rw [eg] at e
   have hx : ((tl a0).take i ++ zeros [Ck.s, Ck.i IntKind.i64, Ck.i IntKind.i64, Ck.s] (a0.length - i)).length = a0.length := by rw [List.length_append, List.length_take, tl_len, Lib.length_zeros]; omega
   have hi1 : w64 ((i : Int) + 1) = ((i + 1 : Nat) : Int) := Lib.w64_ok (by omega) (by omega)
   show l3 Lib.big _ (m + 1) a0 (i : Int) _ = l3 Lib.big _ m a0 ((i + 1 : Nat) : Int) _
   rw [<- e]
   simp only [l3, r3, hx, Lib.dlt, Lib.dle0, Lib.toN, h, decide_true, Bool.and_self, cond_true, hi1]
  ·left
   have : i = a0.length := by omega
   subst this
   rw [Nat.sub_self, List.take_of_length_le (by rw [tl_len]; exact Nat.le_refl _), show zeros [Ck.s, Ck.i IntKind.i64, Ck.i IntKind.i64, Ck.s] 0 = [] from rfl, List.append_nil]
   simp only [l3, r3, Lib.dlt, Nat.lt_irrefl, decide_false, cond_false]) Lib.big 0 (Nat.zero_le _) (Lib.lt_big (by omega))
 simpa using mono
theorem ok (a0 : Row) (hl : a0.length <= 1048576) : c a0 = true /\ v a0 = tl a0 := out a0 (run a0 hl)
end Go.FG.U58

namespace Go.FG.U150
def tl (a0 : Row) : Row := a0.map fun y => [CV.s (cvS (y.getD 0 (.b false)))]
theorem tl_len (a0 : Row) : (tl a0).length = a0.length := by unfold tl; simp
theorem tl_sh (a0 : Row) : ∀ y ∈ tl a0, y.length = 1 := by
 intro y hy; unfold tl at hy; obtain ⟨z, _, rfl⟩ := List.mem_map.1 hy; rfl
theorem run (a0 : Row) (hl : a0.length <= 1048576) : vo a0 = some (tl a0) := by
 unfold vo b
 rw [show decide ((a0.length : Int) = (a0.length : Int)) = true by simp, Lib.toN, Lib.roomy_of (by omega) (by omega), Bool.and_self, cond_true]
 have mono := Lib.loop_gen (fun m (s : Nat) => l3 Lib.big (fun (_ : Row) (_ : Int) (y : Row) => some y) m a0 (s : Int) ((tl a0).take s ++ zeros [Ck.s] (a0.length - s))) (fun i => a0.length - i) (fun i => i <= a0.length) (fun _ => some (tl a0)) (fun m i hi => by
  by_cases h : i < a0.length
  ·right
   refine ⟨i + 1, h, by omega, rfl, ?_⟩
   have hlt : i < (tl a0).length := by rw [tl_len]; exact h
   have e := Lib.setC_step (ks := [Ck.s]) (tl_len a0) h (List.getElem?_eq_getElem hlt) (tl_sh a0 _ (List.getElem_mem hlt))
   have eg : (tl a0)[i] = [CV.s (cvS (cellAt a0 i 0))] := by simp [tl, cellAt, List.getD, h]
   rw [eg] at e
   have hx : ((tl a0).take i ++ zeros [Ck.s] (a0.length - i)).length = a0.length := by rw [List.length_append, List.length_take, tl_len, Lib.length_zeros]; omega
   have hi1 : w64 ((i : Int) + 1) = ((i + 1 : Nat) : Int) := Lib.w64_ok (by omega) (by omega)
   show l3 Lib.big _ (m + 1) a0 (i : Int) _ = l3 Lib.big _ m a0 ((i + 1 : Nat) : Int) _
   rw [<- e]
   simp only [l3, r3, hx, Lib.dlt, Lib.dle0, Lib.toN, h, decide_true, Bool.and_self, cond_true, hi1]
  ·left
   have : i = a0.length := by omega
   subst this
   rw [Nat.sub_self, List.take_of_length_le (by rw [tl_len]; exact Nat.le_refl _), show zeros [Ck.s] 0 = [] from rfl, List.append_nil]
   simp only [l3, r3, Lib.dlt, Nat.lt_irrefl, decide_false, cond_false]) Lib.big 0 (Nat.zero_le _) (Lib.lt_big (by omega))
 simpa using mono
theorem ok (a0 : Row) (hl : a0.length <= 1048576) : c a0 = true /\ v a0 = tl a0 := out a0 (run a0 hl)
end Go.FG.U150

namespace Go.FG.U216
def tl (a0 : Row) : Row := a0.map fun y => [CV.l 3 (U117.v (cvL (y.getD 0 (.b false))))]
theorem tl_len (a0 : Row) : (tl a0).length = a0.length := by unfold tl; simp
theorem tl_sh (a0 : Row) : ∀ y ∈ tl a0, y.length = 1 := by
 intro y hy; unfold tl at hy; obtain ⟨z, _, rfl⟩ := List.mem_map.1 hy; rfl
theorem run (a0 : Row) (hl : a0.length <= 1048576) (hin : U214.inn a0) : vo a0 = some (tl a0) := by
 unfold vo b
 rw [show decide ((a0.length : Int) = (a0.length : Int)) = true by simp, Lib.toN, Lib.roomy_of (by omega) (by omega), Bool.and_self, cond_true]
 have mono := Lib.loop_gen (fun m (s : Nat) => l3 Lib.big (fun (_ : Row) (_ : Int) (y : Row) => some y) m a0 (s : Int) ((tl a0).take s ++ zeros [Ck.l 3] (a0.length - s))) (fun i => a0.length - i) (fun i => i <= a0.length) (fun _ => some (tl a0)) (fun m i hi => by
  by_cases h : i < a0.length
  ·right
   refine ⟨i + 1, h, by omega, rfl, ?_⟩
   have hlt : i < (tl a0).length := by rw [tl_len]; exact h
   have e := Lib.setC_step (ks := [Ck.l 3]) (tl_len a0) h (List.getElem?_eq_getElem hlt) (tl_sh a0 _ (List.getElem_mem hlt))
   have eg : (tl a0)[i] = [CV.l 3 (U117.v (cvL (cellAt a0 i 0)))] := by simp [tl, cellAt, List.getD, h]
   rw [eg] at e
   have hx : ((tl a0).take i ++ zeros [Ck.l 3] (a0.length - i)).length = a0.length := by rw [List.length_append, List.length_take, tl_len, Lib.length_zeros]; omega
   have hi1 : w64 ((i : Int) + 1) = ((i + 1 : Nat) : Int) := Lib.w64_ok (by omega) (by omega)
   have hc : U117.c (cvL (cellAt a0 i 0)) = true := decide_eq_true (hin.1 i h)
   show l3 Lib.big _ (m + 1) a0 (i : Int) _ = l3 Lib.big _ m a0 ((i + 1 : Nat) : Int) _
   rw [<- e]
   simp only [l3, r3, hx, hc, Lib.dlt, Lib.dle0, Lib.toN, h, decide_true, Bool.and_self, cond_true, hi1]
  ·left
   have : i = a0.length := by omega
   subst this
   rw [Nat.sub_self, List.take_of_length_le (by rw [tl_len]; exact Nat.le_refl _), show zeros [Ck.l 3] 0 = [] from rfl, List.append_nil]
   simp only [l3, r3, Lib.dlt, Nat.lt_irrefl, decide_false, cond_false]) Lib.big 0 (Nat.zero_le _) (Lib.lt_big (by omega))
 simpa using mono
theorem ok (a0 : Row) (hl : a0.length <= 1048576) (hin : U214.inn a0) : c a0 = true /\ v a0 = tl a0 := out a0 (run a0 hl hin)
end Go.FG.U216

namespace Go.FG.U60
def tl (a0 : Row) : Row := a0.map fun y => [CV.s (cvS (y.getD 0 (.b false))), CV.s (cvS (y.getD 1 (.b false))), CV.i IntKind.i64 (cvI (y.getD 2 (.b false))), CV.i IntKind.i64 (cvI (y.getD 3 (.b false))), CV.i IntKind.i64 (cvI (y.getD 4 (.b false)))]
theorem tl_len (a0 : Row) : (tl a0).length = a0.length := by unfold tl; simp
theorem tl_sh (a0 : Row) : ∀ y ∈ tl a0, y.length = 5 := by
 intro y hy; unfold tl at hy; obtain ⟨z, _, rfl⟩ := List.mem_map.1 hy; rfl
theorem run (a0 : Row) (hl : a0.length <= 1048576) : vo a0 = some (tl a0) := by
 unfold vo b
 rw [show decide ((a0.length : Int) = (a0.length : Int)) = true by simp, Lib.toN, Lib.roomy_of (by omega) (by omega), Bool.and_self, cond_true]
 have mono := Lib.loop_gen (fun m (s : Nat) => l3 Lib.big (fun (_ : Row) (_ : Int) (y : Row) => some y) m a0 (s : Int) ((tl a0).take s ++ zeros [Ck.s, Ck.s, Ck.i IntKind.i64, Ck.i IntKind.i64, Ck.i IntKind.i64] (a0.length - s))) (fun i => a0.length - i) (fun i => i <= a0.length) (fun _ => some (tl a0)) (fun m i hi => by
  by_cases h : i < a0.length
  ·right
   refine ⟨i + 1, h, by omega, rfl, ?_⟩
   have hlt : i < (tl a0).length := by rw [tl_len]; exact h
   have e := Lib.setC_step (ks := [Ck.s, Ck.s, Ck.i IntKind.i64, Ck.i IntKind.i64, Ck.i IntKind.i64]) (tl_len a0) h (List.getElem?_eq_getElem hlt) (tl_sh a0 _ (List.getElem_mem hlt))
   have eg : (tl a0)[i] = [CV.s (cvS (cellAt a0 i 0)), CV.s (cvS (cellAt a0 i 1)), CV.i IntKind.i64 (cvI (cellAt a0 i 2)), CV.i IntKind.i64 (cvI (cellAt a0 i 3)), CV.i IntKind.i64 (cvI (cellAt a0 i 4))] := by simp [tl, cellAt, List.getD, h]
   rw [eg] at e
   have hx : ((tl a0).take i ++ zeros [Ck.s, Ck.s, Ck.i IntKind.i64, Ck.i IntKind.i64, Ck.i IntKind.i64] (a0.length - i)).length = a0.length := by rw [List.length_append, List.length_take, tl_len, Lib.length_zeros]; omega
   have hi1 : w64 ((i : Int) + 1) = ((i + 1 : Nat) : Int) := Lib.w64_ok (by omega) (by omega)
   show l3 Lib.big _ (m + 1) a0 (i : Int) _ = l3 Lib.big _ m a0 ((i + 1 : Nat) : Int) _
   rw [<- e]
   simp only [l3, r3, hx, Lib.dlt, Lib.dle0, Lib.toN, h, decide_true, Bool.and_self, cond_true, hi1]
  ·left
   have : i = a0.length := by omega
   subst this
   rw [Nat.sub_self, List.take_of_length_le (by rw [tl_len]; exact Nat.le_refl _), show zeros [Ck.s, Ck.s, Ck.i IntKind.i64, Ck.i IntKind.i64, Ck.i IntKind.i64] 0 = [] from rfl, List.append_nil]
   simp only [l3, r3, Lib.dlt, Nat.lt_irrefl, decide_false, cond_false]) Lib.big 0 (Nat.zero_le _) (Lib.lt_big (by omega))
 simpa using mono
theorem ok (a0 : Row) (hl : a0.length <= 1048576) : c a0 = true /\ v a0 = tl a0 := out a0 (run a0 hl)
end Go.FG.U60

namespace Go.FG.U61
def tl (a0 : Row) : Row := a0.map fun y => [CV.i IntKind.i64 (cvI (y.getD 0 (.b false))), CV.s (cvS (y.getD 1 (.b false))), CV.i IntKind.i64 (cvI (y.getD 2 (.b false))), CV.i IntKind.i64 (cvI (y.getD 3 (.b false))), CV.i IntKind.i64 (cvI (y.getD 4 (.b false))), CV.s (cvS (y.getD 5 (.b false))), CV.i IntKind.i64 (cvI (y.getD 6 (.b false)))]
theorem tl_len (a0 : Row) : (tl a0).length = a0.length := by unfold tl; simp
theorem tl_sh (a0 : Row) : ∀ y ∈ tl a0, y.length = 7 := by
 intro y hy; unfold tl at hy; obtain ⟨z, _, rfl⟩ := List.mem_map.1 hy; rfl
theorem run (a0 : Row) (hl : a0.length <= 1048576) : vo a0 = some (tl a0) := by
 unfold vo b
 rw [show decide ((a0.length : Int) = (a0.length : Int)) = true by simp, Lib.toN, Lib.roomy_of (by omega) (by omega), Bool.and_self, cond_true]
 have mono := Lib.loop_gen (fun m (s : Nat) => l3 Lib.big (fun (_ : Row) (_ : Int) (y : Row) => some y) m a0 (s : Int) ((tl a0).take s ++ zeros [Ck.i IntKind.i64, Ck.s, Ck.i IntKind.i64, Ck.i IntKind.i64, Ck.i IntKind.i64, Ck.s, Ck.i IntKind.i64] (a0.length - s))) (fun i => a0.length - i) (fun i => i <= a0.length) (fun _ => some (tl a0)) (fun m i hi => by
  by_cases h : i < a0.length
  ·right
   refine ⟨i + 1, h, by omega, rfl, ?_⟩
   have hlt : i < (tl a0).length := by rw [tl_len]; exact h
   have e := Lib.setC_step (ks := [Ck.i IntKind.i64, Ck.s, Ck.i IntKind.i64, Ck.i IntKind.i64, Ck.i IntKind.i64, Ck.s, Ck.i IntKind.i64]) (tl_len a0) h (List.getElem?_eq_getElem hlt) (tl_sh a0 _ (List.getElem_mem hlt))
   have eg : (tl a0)[i] = [CV.i IntKind.i64 (cvI (cellAt a0 i 0)), CV.s (cvS (cellAt a0 i 1)), CV.i IntKind.i64 (cvI (cellAt a0 i 2)), CV.i IntKind.i64 (cvI (cellAt a0 i 3)), CV.i IntKind.i64 (cvI (cellAt a0 i 4)), CV.s (cvS (cellAt a0 i 5)), CV.i IntKind.i64 (cvI (cellAt a0 i 6))] := by simp [tl, cellAt, List.getD, h]
   rw [eg] at e
   have hx : ((tl a0).take i ++ zeros [Ck.i IntKind.i64, Ck.s, Ck.i IntKind.i64, Ck.i IntKind.i64, Ck.i IntKind.i64, Ck.s, Ck.i IntKind.i64] (a0.length - i)).length = a0.length := by rw [List.length_append, List.length_take, tl_len, Lib.length_zeros]; omega
   have hi1 : w64 ((i : Int) + 1) = ((i + 1 : Nat) : Int) := Lib.w64_ok (by omega) (by omega)
   show l3 Lib.big _ (m + 1) a0 (i : Int) _ = l3 Lib.big _ m a0 ((i + 1 : Nat) : Int) _
   rw [<- e]
   simp only [l3, r3, hx, Lib.dlt, Lib.dle0, Lib.toN, h, decide_true, Bool.and_self, cond_true, hi1]
  ·left
   have : i = a0.length := by omega
   subst this
   rw [Nat.sub_self, List.take_of_length_le (by rw [tl_len]; exact Nat.le_refl _), show zeros [Ck.i IntKind.i64, Ck.s, Ck.i IntKind.i64, Ck.i IntKind.i64, Ck.i IntKind.i64, Ck.s, Ck.i IntKind.i64] 0 = [] from rfl, List.append_nil]
   simp only [l3, r3, Lib.dlt, Nat.lt_irrefl, decide_false, cond_false]) Lib.big 0 (Nat.zero_le _) (Lib.lt_big (by omega))
 simpa using mono
theorem ok (a0 : Row) (hl : a0.length <= 1048576) : c a0 = true /\ v a0 = tl a0 := out a0 (run a0 hl)
end Go.FG.U61

namespace Go.FG.U151
theorem ok (r : Row) (k : Int) (hl : r.length <= 1048576) (hin : U214.inn r) : c r k = true /\ v r k = (U216.tl r, k) := by
 have h := U216.ok r hl hin
 exact out r k (by unfold vo b; rw [h.1, h.2, cond_true])
end Go.FG.U151

namespace Go.FG.U59
theorem ok (r0 r1 r2 : Row) (k : Int) (h0 : r0.length <= 1048576) (h1 : r1.length <= 1048576) (hl : r2.length <= 1048576) (hin : U214.inn r2) : c r0 r1 r2 k = true /\ v r0 r1 r2 k = (U150.tl r0, U150.tl r1, U216.tl r2, k) := by
 have a0 := U150.ok r0 h0
 have a1 := U150.ok r1 h1
 have a2 := U151.ok r2 k hl hin
 exact out r0 r1 r2 k (by unfold vo b; rw [a0.1, a0.2, a1.1, a1.2, a2.1, a2.2, cond_true, cond_true, cond_true])
def bs (r : Row) : List ByteArray := r.map fun y => cvS (y.getD 0 (.b false))
def is (r : Row) : List (List Int) := r.map fun y => (cvL (y.getD 0 (.b false))).map fun z => cvI (z.getD 0 (.b false))
theorem tl_rs (r : Row) : U150.tl r = Lib.rs (bs r) := by
 unfold U150.tl Lib.rs bs; rw [List.map_map]; rfl
theorem tl_rr (r : Row) : U216.tl r = Lib.rr (is r) := by
 unfold U216.tl Lib.rr is
 rw [List.map_map]
 apply List.map_congr_left
 intro y _
 show [CV.l 3 (U117.v (cvL (y.getD 0 (.b false))))] = [CV.l 3 (Lib.ri ((cvL (y.getD 0 (.b false))).map fun z => cvI (z.getD 0 (.b false))))]
 unfold U117.v Lib.ri; rw [List.map_map]; rfl
theorem bs_len (r : Row) : (bs r).length = r.length := by unfold bs; simp
theorem is_len (r : Row) : (is r).length = r.length := by unfold is; simp
theorem is_fit {r : Row} (hl : r.length <= 1048576) (h : U214.inn r) : (is r).length <= 1048576 /\ (∀ q ∈ is r, q.length <= 1048576) /\ ((is r).map List.length).sum <= 1048576 := by
 refine ⟨by rw [is_len]; exact hl, fun q hq => ?_, ?_⟩
 ·unfold is at hq
  obtain ⟨y, hy, rfl⟩ := List.mem_map.1 hq
  obtain ⟨i, hi, rfl⟩ := List.getElem_of_mem hy
  have := h.1 i hi
  rw [Lib.cellAt_of hi] at this
  rw [List.length_map]; exact this
 ·have := h.2
  unfold U214.tot at this
  unfold is
  rw [List.map_map]
  rw [show (List.length ∘ fun y : List CV => (cvL (y.getD 0 (.b false))).map fun z => cvI (z.getD 0 (.b false))) = fun y : List CV => (cvL (y.getD 0 (.b false))).length from by funext y; simp]
  exact this
end Go.FG.U59

namespace Go.FG.U10
theorem ok (i0 : Int) (r1 r2 r3 r4 : Row) (i5 : Int) (r6 r7 : Row) (i8 : Int) (h1 : r1.length <= 1048576) (h2 : r2.length <= 1048576) (h3 : r3.length <= 1048576) (h4 : r4.length <= 1048576) (hin : U214.inn r4) (h6 : r6.length <= 1048576) (h7 : r7.length <= 1048576) :
  c i0 r1 r2 r3 r4 i5 r6 r7 i8 = true /\ v i0 r1 r2 r3 r4 i5 r6 r7 i8 = (i0, U58.tl r1, U150.tl r2, U150.tl r3, U216.tl r4, i5, U60.tl r6, U61.tl r7, i8) := by
 have a1 := U58.ok r1 h1
 have a2 := U59.ok r2 r3 r4 i5 h2 h3 h4 hin
 have a3 := U60.ok r6 h6
 have a4 := U61.ok r7 h7
 exact out i0 r1 r2 r3 r4 i5 r6 r7 i8 (by unfold vo b; rw [a1.1, a1.2, a2.1, a2.2, a3.1, a3.2, a4.1, a4.2, cond_true, cond_true, cond_true, cond_true])
def eo (y : List CV) : Lib.En := ⟨cvS (y.getD 0 (.b false)), cvI (y.getD 1 (.b false)), cvI (y.getD 2 (.b false)), cvS (y.getD 3 (.b false))⟩
def fo (y : List CV) : Lib.Fe := ⟨cvS (y.getD 0 (.b false)), cvS (y.getD 1 (.b false)), cvI (y.getD 2 (.b false)), cvI (y.getD 3 (.b false)), cvI (y.getD 4 (.b false))⟩
def co (y : List CV) : Lib.Cl := ⟨cvI (y.getD 0 (.b false)), cvS (y.getD 1 (.b false)), cvI (y.getD 2 (.b false)), cvI (y.getD 3 (.b false)), cvI (y.getD 4 (.b false)), cvS (y.getD 5 (.b false)), cvI (y.getD 6 (.b false))⟩
theorem tl_re (r : Row) : U58.tl r = Lib.re (r.map eo) := by
 unfold U58.tl Lib.re; rw [List.map_map]; rfl
theorem tl_rf (r : Row) : U60.tl r = Lib.rf (r.map fo) := by
 unfold U60.tl Lib.rf; rw [List.map_map]; rfl
theorem tl_rc (r : Row) : U61.tl r = Lib.rc (r.map co) := by
 unfold U61.tl Lib.rc; rw [List.map_map]; rfl
theorem abs (i0 : Int) (r1 r2 r3 r4 : Row) (i5 : Int) (r6 r7 : Row) (i8 : Int) (h : r1.length <= 1048576 /\ (r2.length <= 1048576 /\ r3.length <= 1048576 /\ r4.length <= 1048576 /\ U214.inn r4) /\ r6.length <= 1048576 /\ r7.length <= 1048576) :
  ∃ p : Lib.Px, p.Fit 1048576 /\ c i0 r1 r2 r3 r4 i5 r6 r7 i8 = true /\ v i0 r1 r2 r3 r4 i5 r6 r7 i8 = (p.now, Lib.re p.en, Lib.rs p.w, Lib.rs p.m, Lib.rr p.s, p.a, Lib.rf p.fe, Lib.rc p.cl, p.hits) := by
 obtain ⟨h1, ⟨h2, h3, h4, hin⟩, h6, h7⟩ := h
 have t := ok i0 r1 r2 r3 r4 i5 r6 r7 i8 h1 h2 h3 h4 hin h6 h7
 rw [tl_re, U59.tl_rs, U59.tl_rs, U59.tl_rr, tl_rf, tl_rc] at t
 refine ⟨⟨i0, r1.map eo, U59.bs r2, U59.bs r3, U59.is r4, i5, r6.map fo, r7.map co, i8⟩, ⟨by simpa using h1, by dsimp only; rw [U59.bs_len]; exact h2, by dsimp only; rw [U59.bs_len]; exact h3, U59.is_fit h4 hin, by simpa using h6, by simpa using h7⟩, t⟩
end Go.FG.U10

namespace Go.FG.U143
def has (l : List ByteArray) (k : ByteArray) : Bool := l.any fun x => decide (x = k)
def without (l : List ByteArray) (k : ByteArray) : List ByteArray := l.filter fun x => !decide (x = k)
theorem has_iff {l : List ByteArray} {k : ByteArray} : has l k = true ↔ k ∈ l := by unfold has; simp
theorem has_no {l : List ByteArray} {k : ByteArray} : has l k = false ↔ k ∉ l := by rw [<- has_iff]; cases has l k <;> simp
theorem without_no {l : List ByteArray} {k : ByteArray} (h : has l k = false) : without l k = l := by
 unfold without
 rw [List.filter_eq_self]
 intro x hx
 have := has_no.1 h
 simp; intro e; subst e; exact this hx
theorem without_len {l : List ByteArray} {k : ByteArray} : (without l k).length <= l.length := List.length_filter_le ..
theorem without_lt {l : List ByteArray} {k : ByteArray} (h : has l k = true) : (without l k).length < l.length := by
 unfold without
 refine List.length_filter_lt_length_iff_exists.2 ⟨k, has_iff.1 h, by simp⟩
theorem ok (l : List ByteArray) (k : ByteArray) (hl : l.length <= 4294967296) : c (Lib.rs l) k = true /\ v (Lib.rs l) k = has l k := by
 refine out _ _ ?_
 unfold vo b
 have := Lib.any_list l (fun x => decide (x = k)) (fun m (i : Nat) => l2 Lib.big (fun (_ : Row) (_ : ByteArray) (y6 : Bool) (_ : Int) => some y6) (fun (_ : Row) (_ : ByteArray) (_ : Bool) (_ : Int) => some false) m (Lib.rs l) k false (i : Int)) (some true) (some false)
  (fun m i h hp => by simp only [l2, r2, Lib.rs_len, Lib.dlt, h, decide_true, Lib.dle0, Bool.and_self, cond_true, Lib.toN, Lib.rs0 h, cvS, Lib.beq_ba, hp])
  (fun m i h hp => by simp only [l2, r2, Lib.rs_len, Lib.dlt, h, decide_true, Lib.dle0, Bool.and_self, cond_true, Lib.toN, Lib.rs0 h, cvS, Lib.beq_ba, hp, cond_false, Lib.w64_s h (by omega : l.length <= 9223372036854775807)])
  (fun m => by simp only [l2, r2, Lib.rs_len, Lib.dlt, Nat.lt_irrefl, decide_false, cond_false]) Lib.big (Lib.lt_big (by omega))
 refine this.trans ?_
 unfold has; cases l.any fun x => decide (x = k) <;> rfl
end Go.FG.U143

namespace Go.FG.U223
theorem ok (l : Row) (hl : l.length <= 4294967296) : c l = true /\ v l = l := by
 refine out l ?_
 unfold vo b
 rw [show List.length (zeros [Ck.i IntKind.i64] 0) + l.length = l.length by simp [zeros], Lib.roomy_of (by omega) (by omega)]
 rfl
end Go.FG.U223

namespace Go.FG.U168
open Lib (rr)
def fitS (s : List (List Int)) : Prop := s.length <= 1048576 /\ ∀ q ∈ s, q.length <= 1048576
theorem run {R : Type} (N : Nat) (K0 : Row -> Int -> Int -> Int -> Int -> Option R) (K1 : Row -> Int -> Int -> Int -> Int -> Row -> Option R) (s : List (List Int)) (z a : Int) (hf : fitS s) (m : Nat) (hm : s.length + 1 < m) (kr : Row -> Option R)
  (h0 : s = [] -> K0 (rr s) 0 0 z a = kr []) (h1 : K1 (rr s) s.length s.length z a (rr s) = kr (rr s)) : l3 N K0 K1 m (rr s) (s.length : Int) 0 z a = kr (rr s) := by
 obtain ⟨m, rfl⟩ : ∃ m', m = m' + 1 := ⟨m - 1, by omega⟩
 have hci : ∀ i (h : i < s.length), U223.c (Lib.ri s[i]) = true /\ U223.v (Lib.ri s[i]) = Lib.ri s[i] := fun i h => U223.ok _ (by rw [Lib.ri_len]; have := hf.2 _ (List.getElem_mem h); omega)
 by_cases hs : s = []
 ·subst hs
  simp only [l3, r3, List.length_nil, Int.natCast_zero, Int.lt_irrefl, decide_false, cond_false]
  exact h0 rfl
 ·have hp : 0 < s.length := List.length_pos_iff.2 hs
  have key := Lib.for_run (R := R) s.length (fun m i (x : Row) => l3a N K0 K1 m (rr s) (s.length : Int) (i : Int) z a x) (fun i => rr (s.take i)) (kr (rr s)) (fun m i h => by
   have hl := hf.1
   simp only [l3a, r3a, Lib.dlt, h, decide_true, cond_true, Lib.dle0, Bool.true_and, Lib.rr_len, Lib.toN, Lib.rr0 h, cvL, (hci i h).1, (hci i h).2, Lib.set1, List.length_singleton]
   rw [Lib.roomy_of (by rw [List.length_take]; omega) (by rw [List.length_take]; omega), cond_true, Lib.w64_s h (by omega)]
   have := Lib.take_snoc (fun q => [CV.l 3 (Lib.ri q)]) s i h
   unfold rr; rw [<- this]) (fun m => by
   simp only [l3a, r3a, Lib.dlt, Nat.lt_irrefl, decide_false, cond_false, List.take_length]; exact h1) m 1 hp (by omega)
  simp only [l3, r3, decide_eq_true (show (0 : Int) < (s.length : Int) by omega), cond_true, Bool.and_self, Lib.rr_len, show decide ((0 : Int) <= 0) = true from rfl]
  have e := hci 0 hp
  have e0 := Lib.rr0 (l := s) hp
  simp only [show Int.toNat 0 = 0 from rfl, e0, cvL, e.1, e.2, cond_true, Lib.set1, List.nil_append]
  rw [show w64 (0 + 1) = ((1 : Nat) : Int) from rfl]
  refine Eq.trans ?_ key
  have := Lib.take_snoc (fun q => [CV.l 3 (Lib.ri q)]) s 0 hp
  unfold rr; rw [show (0 + 1) = 1 from rfl] at this; rw [<- this]; rfl
theorem ok (s : List (List Int)) (a : Int) (hf : fitS s) : c (rr s) a = true /\ v (rr s) a = (rr s, a) := by
 refine out _ _ ?_
 unfold vo b
 rw [Lib.rr_len]
 exact run Lib.big (fun _ _ _ _ y => some ([], y)) (fun _ _ _ _ y20 y21 => some (y21, y20)) s 0 a hf Lib.big (Lib.lt_big (by have := hf.1; omega)) (fun x => some (x, a)) (fun _ => rfl) rfl
end Go.FG.U168

namespace Go.FG.U147
open Lib (rr)
def nOk (n : Int) : Bool := decide (0 <= n /\ n <= 15)
def rowOk (q : List Int) : Bool := decide (q.length = 16) && q.all nOk
def skOk (s : List (List Int)) (a : Int) : Bool := decide (s.length = 3) && (decide (0 <= a /\ a <= 63) && s.all rowOk)
theorem in_dec (n a b : Int) : U49.v n a b = decide (a <= n /\ n <= b) := by
 unfold U49.v
 by_cases h1 : a <= n
 ·rw [decide_eq_true (show n ≥ a from h1), cond_true]
  by_cases h2 : n <= b <;> simp [h1, h2]
 ·rw [decide_eq_false (show ¬ n ≥ a from h1), cond_false]; simp [h1]
theorem ok (s : List (List Int)) (a : Int) (hf : U168.fitS s) : c (rr s) a = true /\ v (rr s) a = skOk s a := by
 refine out _ _ ?_
 unfold vo b skOk
 rw [Lib.rr_len]
 by_cases h3 : ¬ s.length = 3
 ·rw [show ((s.length : Int) != 3) = true by simp; omega, decide_eq_false h3]; rfl
 have h3 : s.length = 3 := Decidable.not_not.1 h3
 rw [show ((s.length : Int) != 3) = false by simp; omega, decide_eq_true h3, cond_false, in_dec]
 cases h4 : decide (0 <= a /\ a <= 63) with
 | false => rfl
 | true =>
  rw [Bool.not_true, cond_false, Bool.true_and, Bool.true_and]
  have inner : ∀ i (h : i < s.length) (K0 K1 : Bool -> Int -> Int -> Row -> Int -> Option Bool) (kf kt : Option Bool) (h0 : ∀ j : Int, K0 false i j (rr s) a = kf) (h1 : ∀ j : Int, K1 false i j (rr s) a = kt), l9 Lib.big K0 K1 Lib.big false (i : Int) 0 (rr s) a = bif (s[i]).all nOk then kt else kf := fun i h K0 K1 kf kt h0 h1 =>
   Lib.all_list (s[i]) nOk (fun m (j : Nat) => l9 Lib.big K0 K1 m false (i : Int) (j : Int) (rr s) a) kf kt
    (fun m j hj hp => by
     have hl := hf.2 _ (List.getElem_mem h)
     unfold nOk at hp
     simp only [l9, r9, Lib.rr_len, Lib.dlt, h, decide_true, Lib.dle0, Bool.and_self, cond_true, Lib.toN, Lib.rr0 h, cvL, Lib.ri_len, hj, Lib.ri0 hj, cvI, in_dec, hp, Bool.not_true, cond_false, Lib.w64_s hj (by omega : s[i].length <= 9223372036854775807)])
    (fun m j hj hp => by
     unfold nOk at hp
     simp only [l9, r9, Lib.rr_len, Lib.dlt, h, decide_true, Lib.dle0, Bool.and_self, cond_true, Lib.toN, Lib.rr0 h, cvL, Lib.ri_len, hj, Lib.ri0 hj, cvI, in_dec, hp, Bool.not_false, h0])
    (fun m => by simp only [l9, r9, Lib.rr_len, Lib.dlt, h, decide_true, Lib.dle0, Bool.and_self, cond_true, Lib.toN, Lib.rr0 h, cvL, Lib.ri_len, Nat.lt_irrefl, decide_false, cond_false, h1]) Lib.big (Lib.lt_big (by have := hf.2 _ (List.getElem_mem h); omega))
  have key := Lib.all_list s rowOk (fun m (i : Nat) => l4 Lib.big (fun (y19 : Bool) (_ : Int) (_ : Row) (_ : Int) => some y19) (fun (_ : Bool) (_ : Int) (_ : Row) (_ : Int) => some true) m false (i : Int) (rr s) a) (some false) (some true)
   (fun m i h hp => by
    unfold rowOk at hp
    rw [Bool.and_eq_true] at hp
    have hl := of_decide_eq_true hp.1
    simp only [l4, r4, Lib.rr_len, Lib.dlt, h, decide_true, Lib.dle0, Bool.and_self, cond_true, Lib.toN, Lib.rr0 h, cvL, Lib.ri_len, hl, show (((16 : Nat) : Int) != 16) = false from rfl, cond_false]
    rw [inner i h _ _ _ _ (fun _ => rfl) (fun _ => rfl), hp.2, cond_true, Lib.w64_s h (by omega)])
   (fun m i h hp => by
    unfold rowOk at hp
    by_cases hl : s[i].length = 16
    ·rw [decide_eq_true hl, Bool.true_and] at hp
     simp only [l4, r4, Lib.rr_len, Lib.dlt, h, decide_true, Lib.dle0, Bool.and_self, cond_true, Lib.toN, Lib.rr0 h, cvL, Lib.ri_len, hl, show (((16 : Nat) : Int) != 16) = false from rfl, cond_false]
     rw [inner i h _ _ _ _ (fun _ => rfl) (fun _ => rfl), hp, cond_false]
    ·simp only [l4, r4, Lib.rr_len, Lib.dlt, h, decide_true, Lib.dle0, Bool.and_self, cond_true, Lib.toN, Lib.rr0 h, cvL, Lib.ri_len, show ((s[i].length : Int) != 16) = true by simp; omega])
   (fun m => by simp only [l4, r4, Lib.rr_len, Lib.dlt, Nat.lt_irrefl, decide_false, cond_false]) Lib.big (Lib.lt_big (by omega))
  refine key.trans ?_
  cases s.all rowOk <;> rfl
end Go.FG.U147

namespace Go.FG.U142
open Lib (rr rs)
open U143 (has without has_iff has_no)
def keyOk (k : ByteArray) : Bool := decide (1 <= (k.size : Int) /\ (k.size : Int) <= 30)
def kOk (l : List ByteArray) (i : Nat) : Bool := keyOk (l.getD i ⟨#[]⟩) && !has (l.take i) (l.getD i ⟨#[]⟩)
def keysOk (l : List ByteArray) : Bool := (List.range l.length).all (kOk l)
def pOk (w m : List ByteArray) (s : List (List Int)) (a : Int) : Bool := keysOk (w ++ m) && (decide (w.length <= 2) && (decide (m.length <= 4) && U147.skOk s a))
theorem key_dec (k : ByteArray) : U50.v k = keyOk k := U147.in_dec _ _ _
theorem view_rs (l : List ByteArray) (i : Nat) : view (Lib.rs l) (Int.toNat 0) i = Lib.rs (l.take i) := by
 unfold view Lib.rs; rw [show Int.toNat 0 = 0 from rfl, List.drop_zero, Nat.sub_zero, List.map_take]
theorem ok (w m : List ByteArray) (s : List (List Int)) (a : Int) (hw : w.length <= 1048576) (hm : m.length <= 1048576) (hf : U168.fitS s) : c (rs w) (rs m) (rr s) a = true /\ v (rs w) (rs m) (rr s) a = pOk w m s a := by
 refine out _ _ _ _ ?_
 have h2 := U147.ok s a hf
 unfold vo b
 have r1 : roomy (List.length (zeros [Ck.s] 0) + List.length (rs w)) 16 = true := Lib.roomy_of (by simp [zeros, Lib.rs_len]; omega) (by simp [zeros, Lib.rs_len]; omega)
 have r2 : roomy (List.length (zeros [Ck.s] 0 ++ rs w) + List.length (rs m)) 16 = true := Lib.roomy_of (by simp [zeros, Lib.rs_len]; omega) (by simp [zeros, Lib.rs_len]; omega)
 have e : zeros [Ck.s] 0 ++ rs w ++ rs m = rs (w ++ m) := by
  rw [show zeros [Ck.s] 0 ++ rs w = rs w from rfl]; unfold Lib.rs; rw [List.map_append]
 rw [r1, r2, cond_true, cond_true, e]
 have hl : (w ++ m).length <= 2097152 := by rw [List.length_append]; omega
 have hin : ∀ i, i < (w ++ m).length -> U143.c (rs ((w ++ m).take i)) ((w ++ m).getD i ⟨#[]⟩) = true /\ U143.v (rs ((w ++ m).take i)) ((w ++ m).getD i ⟨#[]⟩) = has ((w ++ m).take i) ((w ++ m).getD i ⟨#[]⟩) := fun i hi => U143.ok _ _ (by rw [List.length_take]; omega)
 have hk : ∀ i (hi : i < (w ++ m).length), cvS (cellAt (rs (w ++ m)) i 0) = (w ++ m).getD i ⟨#[]⟩ := fun i hi => by rw [Lib.rs0 hi, show (w ++ m).getD i ⟨#[]⟩ = (w ++ m)[i] by rw [List.getD_eq_getElem?_getD, List.getElem?_eq_getElem hi]; rfl]; rfl
 generalize hL : w ++ m = L at hl hin hk
 have key := Lib.all_gen (kOk L) L.length (fun n (i : Nat) => l3 Lib.big (fun (y7 : Bool) (_ : Int) (_ _ _ : Row) (_ : Int) (_ : Row) => some y7) (fun (_ : Bool) (_ : Int) (y16 y17 y18 : Row) (y19 : Int) (_ : Row) => bif (decide ((↑(List.length y16) : Int) <= 2)) then (bif (decide ((↑(List.length y17) : Int) <= 4)) then (bif (U147.c y18 y19) then (some (U147.v y18 y19)) else (none)) else (some false)) else (some false)) n false (i : Int) (rs w) (rs m) (rr s) a (rs L)) (some false) (some (decide (w.length <= 2) && (decide (m.length <= 4) && U147.skOk s a)))
  (fun n i hi hp => by
   unfold kOk at hp
   rw [Bool.and_eq_true, Bool.not_eq_true'] at hp
   have b1 : inB 0 (i : Int) (L.length : Int) = true := by simp [inB]; omega
   simp only [l3, r3, Lib.rs_len, Lib.dlt, hi, decide_true, Lib.dle0, Bool.and_self, cond_true, Lib.toN, hk i hi, key_dec, hp.1, Bool.not_true, cond_false, b1, view_rs, (hin i hi).1, (hin i hi).2, hp.2, Lib.w64_s hi (by omega : L.length <= 9223372036854775807)])
  (fun n i hi hp => by
   have b1 : inB 0 (i : Int) (L.length : Int) = true := by simp [inB]; omega
   unfold kOk at hp
   cases h1 : keyOk (L.getD i ⟨#[]⟩) with
   | false => simp only [l3, r3, Lib.rs_len, Lib.dlt, hi, decide_true, Lib.dle0, Bool.and_self, cond_true, Lib.toN, hk i hi, key_dec, h1, Bool.not_false]
   | true =>
    rw [h1, Bool.true_and, Bool.not_eq_false'] at hp
    simp only [l3, r3, Lib.rs_len, Lib.dlt, hi, decide_true, Lib.dle0, Bool.and_self, cond_true, Lib.toN, hk i hi, key_dec, h1, Bool.not_true, cond_false, b1, view_rs, (hin i hi).1, (hin i hi).2, hp])
  (fun n => by
   simp only [l3, r3, Lib.rs_len, Lib.dlt, Nat.lt_irrefl, decide_false, cond_false, h2.1, h2.2, cond_true]
   rw [show decide ((w.length : Int) <= 2) = decide (w.length <= 2) by rw [decide_eq_decide]; omega, show decide ((m.length : Int) <= 4) = decide (m.length <= 4) by rw [decide_eq_decide]; omega]
   cases decide (w.length <= 2) <;> cases decide (m.length <= 4) <;> rfl) Lib.big (Lib.lt_big (by omega))
 refine key.trans ?_
 unfold pOk keysOk
 rw [hL]
 cases (List.range L.length).all (kOk L) <;> rfl
end Go.FG.U142

namespace Go.FG.U213
open Lib (rr rs)
open U143 (has)
theorem ok (w m : List ByteArray) (s : Row) (a : Int) (k : ByteArray) (hw : w.length <= 1048576) (hm : m.length <= 1048576) : c (rs w) (rs m) s a k = true /\ v (rs w) (rs m) s a k = (has w k || has m k) := by
 have h1 := U143.ok w k (by omega)
 have h2 := U143.ok m k (by omega)
 exact out _ _ _ _ _ (by
  unfold vo b
  rw [h1.1, h1.2, h2.1, h2.2, cond_true, cond_true]
  cases has w k <;> rfl)
end Go.FG.U213

namespace Go.FG.U133
open Lib (rr rs re el we0 we1 we2 we3 En)
open U143 (has)
open U142 (pOk)
def enOk (e : En) : Bool := U141.v e.k e.st e.li e.bo
def eAt (en : List En) (w m : List ByteArray) (i : Nat) : Bool :=
 enOk (el en i) && ((decide (i = 0) || Go.Op.bytesLess (ByteArray.toList (el en (i - 1)).k) (ByteArray.toList (el en i).k)) && (has w (el en i).k || has m (el en i).k))
def eOk (en : List En) (w m : List ByteArray) (s : List (List Int)) (a : Int) : Bool := (List.range en.length).all (eAt en w m) && (pOk w m s a && decide (w.length + m.length = en.length))
theorem ok (i0 : Int) (en : List En) (w m : List ByteArray) (s : List (List Int)) (a : Int) (r6 r7 : Row) (i8 : Int) (he : en.length <= 1048576) (hw : w.length <= 1048576) (hm : m.length <= 1048576) (hf : U168.fitS s) :
  c i0 (re en) (rs w) (rs m) (rr s) a r6 r7 i8 = true /\ v i0 (re en) (rs w) (rs m) (rr s) a r6 r7 i8 = eOk en w m s a := by
 refine out _ _ _ _ _ _ _ _ _ ?_
 have h1 := U142.ok w m s a hw hm hf
 have h2 := fun k => U213.ok w m (rr s) a k hw hm
 unfold vo b
 have key := Lib.all_gen (eAt en w m) en.length (fun n (i : Nat) => l2 Lib.big (fun (y11 : Bool) (_ _ : Int) (_ _ _ _ : Row) (_ : Int) (_ _ : Row) (_ : Int) => some y11) (fun (_ : Bool) (_ _ : Int) (y25 y26 y27 y28 : Row) (y29 : Int) (_ _ : Row) (_ : Int) => bif (U142.c y26 y27 y28 y29) then (bif (U142.v y26 y27 y28 y29) then (some (decide ((↑(List.length y25) : Int) = w64 ((↑(List.length y26) : Int) + (↑(List.length y27) : Int))))) else (some false)) else (none)) n false (i : Int) i0 (re en) (rs w) (rs m) (rr s) a r6 r7 i8) (some false) (some (pOk w m s a && decide (w.length + m.length = en.length)))
  (fun n i hi hp => by
   unfold eAt enOk at hp
   rw [Bool.and_eq_true, Bool.and_eq_true] at hp
   obtain ⟨p1, p2, p3⟩ := hp
   by_cases hz : i = 0
   ·subst hz
    simp only [l2, r2, Lib.re_len, Lib.dlt, hi, decide_true, Lib.dle0, Bool.and_self, cond_true, Lib.toN, we0 hi, we1 hi, we2 hi, we3 hi, cvS, cvI, p1, Bool.not_true, cond_false, decide_eq_false (show ¬ (((0 : Nat) : Int) > 0) by omega), (h2 _).1, (h2 _).2, p3, Lib.w64_s hi (by omega : en.length <= 9223372036854775807)]
   ·rw [decide_eq_false hz, Bool.false_or] at p2
    have hi1 : i - 1 < en.length := by omega
    simp only [l2, r2, Lib.re_len, Lib.dlt, hi, decide_true, Lib.dle0, Bool.and_self, cond_true, Lib.toN, we0 hi, we1 hi, we2 hi, we3 hi, cvS, cvI, p1, Bool.not_true, cond_false, decide_eq_true (show (i : Int) > 0 by omega), Lib.pred_nat (show 0 < i by omega) (by omega), hi1, we0 hi1, p2, (h2 _).1, (h2 _).2, p3, Lib.w64_s hi (by omega : en.length <= 9223372036854775807)])
  (fun n i hi hp => by
   unfold eAt enOk at hp
   cases p1 : U141.v (el en i).k (el en i).st (el en i).li (el en i).bo with
   | false => simp only [l2, r2, Lib.re_len, Lib.dlt, hi, decide_true, Lib.dle0, Bool.and_self, cond_true, Lib.toN, we0 hi, we1 hi, we2 hi, we3 hi, cvS, cvI, p1, Bool.not_false]
   | true =>
    rw [p1, Bool.true_and] at hp
    by_cases hz : i = 0
    ·subst hz
     rw [decide_eq_true rfl, Bool.true_or, Bool.true_and] at hp
     simp only [l2, r2, Lib.re_len, Lib.dlt, hi, decide_true, Lib.dle0, Bool.and_self, cond_true, Lib.toN, we0 hi, we1 hi, we2 hi, we3 hi, cvS, cvI, p1, Bool.not_true, Bool.not_false, cond_false, decide_eq_false (show ¬ (((0 : Nat) : Int) > 0) by omega), (h2 _).1, (h2 _).2, hp]
    ·rw [decide_eq_false hz, Bool.false_or] at hp
     have hi1 : i - 1 < en.length := by omega
     cases p2 : Go.Op.bytesLess (ByteArray.toList (el en (i - 1)).k) (ByteArray.toList (el en i).k) with
     | false => simp only [l2, r2, Lib.re_len, Lib.dlt, hi, decide_true, Lib.dle0, Bool.and_self, cond_true, Lib.toN, we0 hi, we1 hi, we2 hi, we3 hi, cvS, cvI, p1, Bool.not_true, Bool.not_false, cond_false, decide_eq_true (show (i : Int) > 0 by omega), Lib.pred_nat (show 0 < i by omega) (by omega), hi1, we0 hi1, p2]
     | true =>
      rw [p2, Bool.true_and] at hp
      simp only [l2, r2, Lib.re_len, Lib.dlt, hi, decide_true, Lib.dle0, Bool.and_self, cond_true, Lib.toN, we0 hi, we1 hi, we2 hi, we3 hi, cvS, cvI, p1, Bool.not_true, Bool.not_false, cond_false, decide_eq_true (show (i : Int) > 0 by omega), Lib.pred_nat (show 0 < i by omega) (by omega), hi1, we0 hi1, p2, (h2 _).1, (h2 _).2, hp])
  (fun n => by
   simp only [l2, r2, Lib.re_len, Lib.dlt, Nat.lt_irrefl, decide_false, cond_false, h1.1, h1.2, cond_true, Lib.rs_len]
   rw [Lib.w64_ok (x := (w.length : Int) + (m.length : Int)) (by omega) (by omega), show decide ((en.length : Int) = (w.length : Int) + (m.length : Int)) = decide (w.length + m.length = en.length) by rw [decide_eq_decide]; omega]
   cases pOk w m s a <;> rfl) Lib.big (Lib.lt_big (by omega))
 refine key.trans ?_
 unfold eOk
 cases (List.range en.length).all (eAt en w m) <;> rfl
end Go.FG.U133

namespace Go.FG.U134
open Lib (rf el wf0 wf1 wf2 wf2' wf3 wf4 Fe)
open U142 (keyOk)
def fOk (now : Int) (f : Fe) : Bool := keyOk f.k && (decide ((f.t.size : Int) <= 400) && (decide (1 <= f.sta /\ f.sta <= 3) && (decide (0 <= f.li /\ f.li <= 999999) && decide (0 <= f.st /\ f.st <= now))))
def sameO (f g : Fe) : Bool := decide (f.sta = 1) && (decide (g.sta = 1) && decide (f.k = g.k))
def apart (fe : List Fe) (i : Nat) : Bool := (List.range i).all fun j => !sameO (el fe i) (el fe j)
theorem in_dec (n a b : Int) : U49.v n a b = decide (a <= n /\ n <= b) := U147.in_dec n a b
theorem ok (i0 : Int) (r1 r2 r3 r4 : Row) (i5 : Int) (fe : List Fe) (r7 : Row) (i8 : Int) (i : Nat) (hi : i < fe.length) (hf : fe.length <= 1048576) :
  c i0 r1 r2 r3 r4 i5 (rf fe) r7 i8 (i : Int) = true /\ v i0 r1 r2 r3 r4 i5 (rf fe) r7 i8 (i : Int) = (fOk i0 (el fe i) && apart fe i) := by
 refine out _ _ _ _ _ _ _ _ _ _ ?_
 unfold vo b
 have key := Lib.all_gen (fun j => !sameO (el fe i) (el fe j)) i (fun n (j : Nat) => l5 Lib.big (fun (_ : Int) (y18 : Bool) (_ _ : Int) (_ _ _ _ : Row) (_ : Int) (_ _ : Row) (_ : Int) (_ _ : ByteArray) (_ _ _ : Int) => some y18) (fun (_ : Int) (_ : Bool) (_ _ : Int) (_ _ _ _ : Row) (_ : Int) (_ _ : Row) (_ : Int) (_ _ : ByteArray) (_ _ _ : Int) => some true) n (i : Int) false (j : Int) i0 r1 r2 r3 r4 i5 (rf fe) r7 i8 (el fe i).k (el fe i).t (el fe i).sta (el fe i).li (el fe i).st) (some false) (some true)
  (fun n j hj hp => by
   have hjl : j < fe.length := by omega
   rw [Bool.not_eq_true'] at hp
   unfold sameO at hp
   have e : decide ((el fe j).k = (el fe i).k) = decide ((el fe i).k = (el fe j).k) := by rw [decide_eq_decide]; exact eq_comm
   simp only [l5, r5, Lib.dlt, hj, decide_true, Lib.dle0, Bool.and_self, cond_true, Lib.toN, Lib.rf_len, hjl, wf0 hjl, wf2' hjl, cvS, cvI, Lib.beq_ba, e, Lib.w64_s hj (by omega : i <= 9223372036854775807)]
   revert hp
   cases decide ((el fe i).k = (el fe j).k) <;> cases decide ((el fe j).sta = 1) <;> cases decide ((el fe i).sta = 1) <;> intro hp <;> first | rfl | cases hp)
  (fun n j hj hp => by
   have hjl : j < fe.length := by omega
   rw [Bool.not_eq_false'] at hp
   unfold sameO at hp
   rw [Bool.and_eq_true, Bool.and_eq_true] at hp
   have e : decide ((el fe j).k = (el fe i).k) = decide ((el fe i).k = (el fe j).k) := by rw [decide_eq_decide]; exact eq_comm
   simp only [l5, r5, Lib.dlt, hj, decide_true, Lib.dle0, Bool.and_self, cond_true, Lib.toN, Lib.rf_len, hjl, wf0 hjl, wf2' hjl, cvS, cvI, Lib.beq_ba, e, hp.1, hp.2.1, hp.2.2])
  (fun n => by simp only [l5, r5, Lib.dlt, Nat.lt_irrefl, decide_false, cond_false]) Lib.big (Lib.lt_big (by omega))
 simp only [Lib.rf_len, Lib.dlt, hi, decide_true, Lib.dle0, Bool.and_self, cond_true, Lib.toN, wf0 hi, wf1 hi, wf2 hi, wf3 hi, wf4 hi, cvS, cvI, in_dec, U142.key_dec]
 rw [show l5 Lib.big _ _ Lib.big (i : Int) false 0 i0 r1 r2 r3 r4 i5 (rf fe) r7 i8 (el fe i).k (el fe i).t (el fe i).sta (el fe i).li (el fe i).st = _ from key]
 unfold fOk apart
 rw [show decide (((el fe i).t.size : Int) > 400) = !decide (((el fe i).t.size : Int) <= 400) by rw [<- decide_not, decide_eq_decide]; omega]
 cases keyOk (el fe i).k <;> cases decide (((el fe i).t.size : Int) <= 400) <;> cases decide (1 <= (el fe i).sta /\ (el fe i).sta <= 3) <;> cases decide (0 <= (el fe i).li /\ (el fe i).li <= 999999) <;> cases decide (0 <= (el fe i).st /\ (el fe i).st <= i0) <;> cases (List.range i).all (fun j => !sameO (el fe i) (el fe j)) <;> rfl
end Go.FG.U134

namespace Go.FG.U43
open Lib (rr rs re rf rc el En Fe Cl Px wc0 wc1 wc2 wc3 wc4 wc5 wc6)
open U142 (keyOk)
open U133 (eOk)
open U134 (fOk apart in_dec)
def cAt (now : Int) (nf : Nat) (cl : List Cl) (i : Nat) : Bool :=
 decide (1 <= (el cl i).id /\ (el cl i).id <= 9) && ((decide (i = 0) || decide ((el cl (i - 1)).id < (el cl i).id)) && (keyOk (el cl i).k && (decide (1 <= (el cl i).sta /\ (el cl i).sta <= 3) && (decide (0 <= (el cl i).fe /\ (el cl i).fe <= (nf : Int)) && (decide (((el cl i).got.size : Int) <= 400) && (decide (0 <= (el cl i).fr /\ (el cl i).fr <= now) && decide (0 <= (el cl i).age)))))))
def pxOk (p : Px) : Bool :=
 decide (1 <= p.now /\ p.now <= 1000000000) && (eOk p.en p.w p.m p.s p.a && (decide (p.fe.length <= 20) && (decide (p.cl.length <= 6) && (decide (0 <= p.hits /\ p.hits <= 1000000000) && ((List.range p.fe.length).all (fun i => fOk p.now (el p.fe i) && apart p.fe i) && (List.range p.cl.length).all (cAt p.now p.fe.length p.cl))))))
theorem step {R : Type} (N : Nat) (g k0 k1 : Bool -> Int -> Int -> Row -> Row -> Row -> Row -> Int -> Row -> Row -> Int -> Option R) (i0 : Int) (q1 q2 q3 q4 : Row) (i5 : Int) (fe : List Fe) (cl : List Cl) (i8 : Int) (i : Nat) (hi : i < cl.length) (hl : cl.length <= 1048576) :
  r9 N g k0 k1 false (i : Int) i0 q1 q2 q3 q4 i5 (rf fe) (rc cl) i8 = bif cAt i0 fe.length cl i then g false ((i + 1 : Nat) : Int) i0 q1 q2 q3 q4 i5 (rf fe) (rc cl) i8 else k0 false (i : Int) i0 q1 q2 q3 q4 i5 (rf fe) (rc cl) i8 := by
 unfold cAt
 have e1 : decide (((el cl i).got.size : Int) > 400) = !decide (((el cl i).got.size : Int) <= 400) := by rw [<- decide_not, decide_eq_decide]; omega
 have e2 : decide ((el cl i).age < 0) = !decide (0 <= (el cl i).age) := by rw [<- decide_not, decide_eq_decide]; omega
 by_cases hz : i = 0
 ·subst hz
  simp only [r9, Lib.rc_len, Lib.rf_len, Lib.dlt, hi, decide_true, Lib.dle0, Bool.and_self, cond_true, Lib.toN, wc0 hi, wc1 hi, wc2 hi, wc3 hi, wc4 hi, wc5 hi, wc6 hi, cvS, cvI, in_dec, U142.key_dec, decide_eq_false (show ¬ (((0 : Nat) : Int) > 0) by omega), cond_false, e1, e2, Lib.w64_s hi (by omega : cl.length <= 9223372036854775807), Bool.true_or, Bool.true_and]
  cases decide (1 <= (el cl 0).id /\ (el cl 0).id <= 9) <;> cases keyOk (el cl 0).k <;> cases decide (1 <= (el cl 0).sta /\ (el cl 0).sta <= 3) <;> cases decide (0 <= (el cl 0).fe /\ (el cl 0).fe <= (fe.length : Int)) <;> cases decide (((el cl 0).got.size : Int) <= 400) <;> cases decide (0 <= (el cl 0).fr /\ (el cl 0).fr <= i0) <;> cases decide (0 <= (el cl 0).age) <;> rfl
 ·have hi1 : i - 1 < cl.length := by omega
  have e3 : decide ((el cl (i - 1)).id ≥ (el cl i).id) = !decide ((el cl (i - 1)).id < (el cl i).id) := by rw [<- decide_not, decide_eq_decide]; omega
  simp only [r9, Lib.rc_len, Lib.rf_len, Lib.dlt, hi, decide_true, Lib.dle0, Bool.and_self, cond_true, Lib.toN, wc0 hi, wc1 hi, wc2 hi, wc3 hi, wc4 hi, wc5 hi, wc6 hi, cvS, cvI, in_dec, U142.key_dec, decide_eq_true (show (i : Int) > 0 by omega), Lib.pred_nat (show 0 < i by omega) (by omega), hi1, wc0 hi1, cond_false, e1, e2, e3, Lib.w64_s hi (by omega : cl.length <= 9223372036854775807), decide_eq_false hz, Bool.false_or]
  cases decide (1 <= (el cl i).id /\ (el cl i).id <= 9) <;> cases decide ((el cl (i - 1)).id < (el cl i).id) <;> cases keyOk (el cl i).k <;> cases decide (1 <= (el cl i).sta /\ (el cl i).sta <= 3) <;> cases decide (0 <= (el cl i).fe /\ (el cl i).fe <= (fe.length : Int)) <;> cases decide (((el cl i).got.size : Int) <= 400) <;> cases decide (0 <= (el cl i).fr /\ (el cl i).fr <= i0) <;> cases decide (0 <= (el cl i).age) <;> rfl
theorem ok (p : Px) (hp : p.Fit 1048576) : c p.now (re p.en) (rs p.w) (rs p.m) (rr p.s) p.a (rf p.fe) (rc p.cl) p.hits = true /\ v p.now (re p.en) (rs p.w) (rs p.m) (rr p.s) p.a (rf p.fe) (rc p.cl) p.hits = pxOk p := by
 refine out _ _ _ _ _ _ _ _ _ ?_
 have h1 := U133.ok p.now p.en p.w p.m p.s p.a (rf p.fe) (rc p.cl) p.hits hp.en hp.w hp.m ⟨hp.s.1, hp.s.2.1⟩
 have hfe := hp.fe
 have hcl := hp.cl
 unfold vo b
 have h2 := fun i hi => U134.ok p.now (re p.en) (rs p.w) (rs p.m) (rr p.s) p.a p.fe (rc p.cl) p.hits i hi hfe
 have kc := fun (n : Nat) (hn : p.cl.length < n) => Lib.all_gen (cAt p.now p.fe.length p.cl) p.cl.length (fun n (i : Nat) => l9 Lib.big (fun (y44 : Bool) (_ _ : Int) (_ _ _ _ : Row) (_ : Int) (_ _ : Row) (_ : Int) => some y44) (fun (_ : Bool) (_ _ : Int) (_ _ _ _ : Row) (_ : Int) (_ _ : Row) (_ : Int) => some true) n false (i : Int) p.now (re p.en) (rs p.w) (rs p.m) (rr p.s) p.a (rf p.fe) (rc p.cl) p.hits) (some false) (some true)
  (fun n i hi hq => by
   simp only [l9]
   rw [step _ _ _ _ _ _ _ _ _ _ _ _ _ i hi hcl, hq]; rfl)
  (fun n i hi hq => by
   simp only [l9]
   rw [step _ _ _ _ _ _ _ _ _ _ _ _ _ i hi hcl, hq]; rfl)
  (fun n => by simp only [l9, r9, Lib.rc_len, Lib.dlt, Nat.lt_irrefl, decide_false, cond_false]) n hn
 have kf := Lib.all_gen (fun i => fOk p.now (el p.fe i) && apart p.fe i) p.fe.length (fun n (i : Nat) => l4 Lib.big (fun (y11 : Bool) (_ _ : Int) (_ _ _ _ : Row) (_ : Int) (_ _ : Row) (_ : Int) => some y11) (fun (y22 : Bool) (_ y24 : Int) (y25 y26 y27 y28 : Row) (y29 : Int) (y30 y31 : Row) (y32 : Int) => l9 Lib.big (fun (y44 : Bool) (_ _ : Int) (_ _ _ _ : Row) (_ : Int) (_ _ : Row) (_ : Int) => some y44) (fun (_ : Bool) (_ _ : Int) (_ _ _ _ : Row) (_ : Int) (_ _ : Row) (_ : Int) => some true) Lib.big y22 0 y24 y25 y26 y27 y28 y29 y30 y31 y32) n false (i : Int) p.now (re p.en) (rs p.w) (rs p.m) (rr p.s) p.a (rf p.fe) (rc p.cl) p.hits) (some false) (some ((List.range p.cl.length).all (cAt p.now p.fe.length p.cl)))
  (fun n i hi hq => by
   simp only [l4, r4, Lib.rf_len, Lib.dlt, hi, decide_true, cond_true, (h2 i hi).1, (h2 i hi).2, hq, Bool.not_true, cond_false, Lib.w64_s hi (by omega : p.fe.length <= 9223372036854775807)])
  (fun n i hi hq => by
   simp only [l4, r4, Lib.rf_len, Lib.dlt, hi, decide_true, cond_true, (h2 i hi).1, (h2 i hi).2, hq, Bool.not_false])
  (fun n => by
   simp only [l4, r4, Lib.rf_len, Lib.dlt, Nat.lt_irrefl, decide_false, cond_false]
   refine (kc Lib.big (Lib.lt_big (by omega))).trans ?_
   cases (List.range p.cl.length).all (cAt p.now p.fe.length p.cl) <;> rfl) Lib.big (Lib.lt_big (by omega))
 rw [in_dec, in_dec, h1.1, h1.2, cond_true, Lib.rf_len, Lib.rc_len]
 rw [show l4 Lib.big _ _ Lib.big false 0 p.now (re p.en) (rs p.w) (rs p.m) (rr p.s) p.a (rf p.fe) (rc p.cl) p.hits = _ from kf]
 unfold pxOk
 rw [show decide ((p.fe.length : Int) > 20) = !decide (p.fe.length <= 20) by rw [<- decide_not, decide_eq_decide]; omega, show decide ((p.cl.length : Int) > 6) = !decide (p.cl.length <= 6) by rw [<- decide_not, decide_eq_decide]; omega]
 cases decide (1 <= p.now /\ p.now <= 1000000000) <;> cases eOk p.en p.w p.m p.s p.a <;> cases decide (p.fe.length <= 20) <;> cases decide (p.cl.length <= 6) <;> cases decide (0 <= p.hits /\ p.hits <= 1000000000) <;> cases (List.range p.fe.length).all (fun i => fOk p.now (el p.fe i) && apart p.fe i) <;> cases (List.range p.cl.length).all (cAt p.now p.fe.length p.cl) <;> rfl
end Go.FG.U43

namespace Go.FG.U198
theorem bl_trans : ∀ x y z : List UInt8, Go.Op.bytesLess x y = true -> Go.Op.bytesLess y z = true -> Go.Op.bytesLess x z = true
 | _, [], _, h, _ => by cases ‹List UInt8› <;> simp [Go.Op.bytesLess] at h
 | _, _ :: _, [], _, h => by simp [Go.Op.bytesLess] at h
 | [], _ :: _, _ :: _, _, _ => by simp [Go.Op.bytesLess]
 | a :: x, b :: y, c :: z, h1, h2 => by
  simp only [Go.Op.bytesLess, Bool.or_eq_true, Bool.and_eq_true, decide_eq_true_eq, beq_iff_eq] at h1 h2 ⊢
  simp only [UInt8.lt_iff_toNat_lt] at h1 h2 ⊢
  rcases h1 with h1 | ⟨rfl, h1⟩
  ·rcases h2 with h2 | ⟨rfl, h2⟩
   ·left; omega
   ·left; exact h1
  ·rcases h2 with h2 | ⟨rfl, h2⟩
   ·left; exact h2
   ·right; exact ⟨rfl, bl_trans x y z h1 h2⟩
theorem bl_tri : ∀ x y : List UInt8, Go.Op.bytesLess x y = false -> x ≠ y -> Go.Op.bytesLess y x = true
 | [], [], _, h => absurd rfl h
 | [], _ :: _, h, _ => by simp [Go.Op.bytesLess] at h
 | _ :: _, [], _, _ => by simp [Go.Op.bytesLess]
 | a :: x, b :: y, h, hn => by
  simp only [Go.Op.bytesLess, Bool.or_eq_false_iff, Bool.and_eq_false_iff, decide_eq_false_iff_not, beq_eq_false_iff_ne] at h
  simp only [Go.Op.bytesLess, Bool.or_eq_true, Bool.and_eq_true, decide_eq_true_eq, beq_iff_eq]
  obtain ⟨h1, h2⟩ := h
  by_cases he : a = b
  ·subst he
   right
   refine ⟨rfl, bl_tri x y ?_ (fun e => hn (by rw [e]))⟩
   rcases h2 with h2 | h2
   ·exact absurd rfl h2
   ·exact h2
  ·left
   rw [UInt8.lt_iff_toNat_lt] at h1 ⊢
   have : a.toNat ≠ b.toNat := fun e => he (UInt8.toNat_inj.1 e)
   omega
def key (y : List CV) : List UInt8 := ByteArray.toList (cvS (y.getD 0 (.b false)))
def lt (y z : List CV) : Prop := Go.Op.bytesLess (key y) (key z) = true
def cr (y : List CV) : List CV := [CV.s (cvS (y.getD 0 (.b false))), CV.i IntKind.i64 (cvI (y.getD 1 (.b false))), CV.i IntKind.i64 (cvI (y.getD 2 (.b false))), CV.s (cvS (y.getD 3 (.b false)))]
def nw (k : ByteArray) (s l : Int) (b : ByteArray) : List CV := [CV.s k, CV.i IntKind.i64 s, CV.i IntKind.i64 l, CV.s b]
def pl (k : ByteArray) (y : List CV) : Bool := Go.Op.bytesLess (key y) (ByteArray.toList k)
def pg (k : ByteArray) (y : List CV) : Bool := !(Go.Op.bytesLess (key y) (ByteArray.toList k) || List.beq (key y) (ByteArray.toList k))
def val (r : Row) (k : ByteArray) (s l : Int) (b : ByteArray) : Row := (r.filter (pl k)).map cr ++ [nw k s l b] ++ (r.filter (pg k)).map cr
def Or (r : Row) : Prop := r.Pairwise lt /\ ∀ y ∈ r, cr y = y
theorem map_cr {r : Row} (h : ∀ y ∈ r, cr y = y) (q : List CV -> Bool) : (r.filter q).map cr = r.filter q := by
 have := List.map_congr_left (l := r.filter q) (f := cr) (g := fun z => z) (fun y hy => h y (List.mem_filter.1 hy).1)
 rw [this]; exact List.map_id _
theorem keep_or {r : Row} (h : Or r) (k : ByteArray) (s l : Int) (b : ByteArray) : Or (val r k s l b) /\ (val r k s l b).length <= r.length + 1 := by
 unfold val
 rw [map_cr h.2, map_cr h.2]
 have hg : ∀ y, pg k y = true -> Go.Op.bytesLess (ByteArray.toList k) (key y) = true := by
  intro y hy
  unfold pg at hy
  simp only [Bool.not_eq_true', Bool.or_eq_false_iff] at hy
  refine bl_tri _ _ hy.1 (fun e => ?_)
  have := hy.2
  rw [e, Lib.beq_self] at this; cases this
 refine ⟨⟨?_, ?_⟩, ?_⟩
 ·rw [List.append_assoc, List.pairwise_append]
  refine ⟨h.1.sublist List.filter_sublist, ?_, ?_⟩
  ·rw [List.singleton_append, List.pairwise_cons]
   exact ⟨fun y hy => hg y (List.mem_filter.1 hy).2, h.1.sublist List.filter_sublist⟩
  ·intro y hy z hz
   have h1 : Go.Op.bytesLess (key y) (ByteArray.toList k) = true := (List.mem_filter.1 hy).2
   rcases List.mem_append.1 hz with q | q
   ·rw [List.mem_singleton.1 q]; exact h1
   ·exact bl_trans _ _ _ h1 (hg z (List.mem_filter.1 q).2)
 ·intro y hy
  rcases List.mem_append.1 hy with q | q
  ·rcases List.mem_append.1 q with q | q
   ·exact h.2 y (List.mem_filter.1 q).1
   ·rw [List.mem_singleton.1 q]; rfl
  ·exact h.2 y (List.mem_filter.1 q).1
 ·have hlen : ∀ r : Row, (r.filter (pl k)).length + (r.filter (pg k)).length <= r.length := by
   intro r
   induction r with
   | nil => exact Nat.le_refl _
   | cons y r ih =>
    have hx : pl k y = true -> pg k y = false := by
     intro h; unfold pl at h; unfold pg; rw [h]; rfl
    cases h1 : pl k y with
    | true =>
     rw [List.filter_cons_of_pos h1, List.filter_cons_of_neg (by rw [hx h1]; simp)]
     simp only [List.length_cons]; omega
    | false =>
     rw [List.filter_cons_of_neg (by simp [h1])]
     cases h2 : pg k y with
     | true => rw [List.filter_cons_of_pos h2]; simp only [List.length_cons]; omega
     | false => rw [List.filter_cons_of_neg (by simp [h2])]; simp only [List.length_cons]; omega
  have := hlen r
  simp only [List.length_append, List.length_singleton]; omega
end Go.FG.U198

namespace Go.FG.U66b
def p (s : Row) (k : ByteArray) (i : Nat) : Bool := List.beq (ByteArray.toList (cvS (cellAt s i 0))) (ByteArray.toList k)
theorem ok (d : Row) (n : ByteArray) (hl : d.length <= 4294967296) : c d n = true /\ v d n = Lib.fi (p d n) d.length 0 := by
 refine out d n ?_
 unfold vo b
 refine Lib.fi_gen (p d n) d.length (fun m (i : Nat) => l2 Lib.big (fun (_ : Row) (_ : ByteArray) (y7 _ _ : Int) => some y7) (fun (_ : Row) (_ : ByteArray) (_ _ _ : Int) => some (-1)) m d n 0 (d.length : Int) (i : Int)) some (fun m i hi hp => ?_) (fun m i hi hp => ?_) (fun m => ?_) Lib.big (Lib.lt_big (by omega))
 ·unfold p at hp
  simp only [l2, r2, Lib.dlt, Lib.dle0, Lib.toN, hi, decide_true, Bool.and_self, cond_true, U167.v, hp]
 ·unfold p at hp
  simp only [l2, r2, Lib.dlt, Lib.dle0, Lib.toN, hi, decide_true, Bool.and_self, cond_true, U167.v, hp, cond_false, Lib.w64_s hi (by omega : d.length <= 9223372036854775807)]
 ·simp only [l2, r2, Lib.dlt, Nat.lt_irrefl, decide_false, cond_false]
end Go.FG.U66b

namespace Go.FG.U166
def cn (y : List CV) : Bool := match y with | [.s _, .i .i64 _, .i .i64 _, .s _] => true | _ => false
def cr (y : List CV) : List CV := [CV.s (cvS (y.getD 0 (.b false))), CV.i IntKind.i64 (cvI (y.getD 1 (.b false))), CV.i IntKind.i64 (cvI (y.getD 2 (.b false))), CV.s (cvS (y.getD 3 (.b false)))]
theorem cr_of {y : List CV} (h : cn y = true) : cr y = y := by
 unfold cn at h
 split at h
 ·rfl
 ·cases h
theorem len_of {y : List CV} (h : cn y = true) : y.length = 4 := by rw [<- cr_of h]; rfl
def keep (d : ByteArray) (y : List CV) : Bool := !List.beq (ByteArray.toList (cvS (y.getD 0 (.b false)))) (ByteArray.toList d)
theorem filter_succ (d : ByteArray) {s : Row} {i : Nat} (h : i < s.length) : (s.take (i + 1)).filter (keep d) = (s.take i).filter (keep d) ++ (bif keep d s[i] then [s[i]] else []) := by
 rw [List.take_succ_eq_append_getElem h, List.filter_append]
 cases hk : keep d s[i] <;> simp [hk]
theorem run {R : Type} (N : Nat) (s0 : Row) (d : ByteArray) (hc : s0.all cn = true) (hn : s0.length <= 9223372036854775807) (K : ByteArray -> Int -> Int -> Row -> Option R) (kr : Row -> Option R)
  (hK : ∀ (j : Nat) x, x.length = s0.length -> j <= s0.length -> K d j s0.length x = kr (x.take j)) (m j i : Nat) (x : Row)
  (hi : j < i /\ i <= s0.length /\ x.length = s0.length /\ (∀ y ∈ x, y.length = 4) /\ x.take j = (s0.take i).filter (keep d) /\ x.drop i = s0.drop i) (hm : s0.length - i < m) :
  l5 N K m d j i x = kr (s0.filter (keep d)) := by
 have hca : ∀ y ∈ s0, cn y = true := List.all_eq_true.1 hc
 refine Lib.loop_gen (fun m (s : Nat × Nat × Row) => l5 N K m d s.1 s.2.1 s.2.2) (fun s => s0.length - s.2.1)
  (fun s => s.1 < s.2.1 /\ s.2.1 <= s0.length /\ s.2.2.length = s0.length /\ (∀ y ∈ s.2.2, y.length = 4) /\ s.2.2.take s.1 = (s0.take s.2.1).filter (keep d) /\ s.2.2.drop s.2.1 = s0.drop s.2.1)
  (fun _ => kr (s0.filter (keep d))) (fun m s hs => ?_) m (j, i, x) hi hm
 obtain ⟨j, i, x⟩ := s
 obtain ⟨h1, h2, h3, h4, h5, h6⟩ := hs
 simp only at h1 h2 h3 h4 h5 h6 ⊢
 by_cases hin : i < s0.length
 ·right
  have hix : i < x.length := by omega
  have hjx : j < x.length := by omega
  have hx : x[i] = s0[i] := by
   have e1 := Lib.drop_cons_of hix
   have e2 := Lib.drop_cons_of hin
   rw [h6, e2] at e1
   exact (List.cons.inj e1).1.symm
  have hd : x.drop (i + 1) = s0.drop (i + 1) := by
   have e1 := Lib.drop_cons_of hix
   have e2 := Lib.drop_cons_of hin
   rw [h6, e2] at e1
   exact (List.cons.inj e1).2.symm
  have hcn := hca _ (List.getElem_mem hin)
  have hf := filter_succ d hin
  cases hk : keep d s0[i] with
  | true =>
   refine ⟨(j + 1, i + 1, x.set j s0[i]), ?_, by simp only; omega, trivial, ?_⟩
   ·rw [hk, cond_true, <- h5] at hf
    refine ⟨by simp only; omega, by simp only; omega, by simpa using h3, ?_, ?_, ?_⟩
    ·intro y hy
     rcases List.mem_or_eq_of_mem_set hy with h | h
     ·exact h4 y h
     ·rw [h]; exact len_of hcn
    ·rw [hf]
     rw [List.take_succ_eq_append_getElem (by simpa using hjx)]
     simp [List.take_set_of_le]
    ·simp only
     rw [List.drop_set_of_lt (by omega)]; exact hd
   ·have e : U167.v (cvS (cellAt x i 0)) (cvI (cellAt x i 1)) (cvI (cellAt x i (1 + 1))) (cvS (cellAt x i (1 + 1 + 1))) d = false := by
     have : (!U167.v (cvS (cellAt x i 0)) (cvI (cellAt x i 1)) (cvI (cellAt x i (1 + 1))) (cvS (cellAt x i (1 + 1 + 1))) d) = true := by
      rw [Lib.cellAt_of hix, hx]; exact hk
     simpa using this
    have es : setC x j 0 [CV.s (cvS (cellAt x i 0)), CV.i IntKind.i64 (cvI (cellAt x i 1)), CV.i IntKind.i64 (cvI (cellAt x i (1 + 1))), CV.s (cvS (cellAt x i (1 + 1 + 1)))] = x.set j s0[i] := by
     have hl := h4 _ (List.getElem_mem hjx)
     rw [Lib.setC_eq hjx, Lib.cellAt_of hix, Lib.cellAt_of hix, Lib.cellAt_of hix, Lib.cellAt_of hix, hx]
     have : splice x[j] 0 (cr s0[i]) = s0[i] := by
      rw [cr_of hcn]
      unfold splice
      have := len_of hcn
      simp [hl, this, List.drop_eq_nil_of_le]
     unfold cr at this
     rw [this]
    have b1 : (j : Int) < (x.length : Int) := by omega
    simp only [l5, r5, Lib.dlt, Lib.dle0, Lib.toN, hix, hjx, decide_true, Bool.true_and, cond_true, e, Bool.not_false, es, Lib.w64_s hin hn, Lib.w64_s (show j < s0.length by omega) hn]
  | false =>
   refine ⟨(j, i + 1, x), ?_, by simp only; omega, trivial, ?_⟩
   ·rw [hk, cond_false, List.append_nil, <- h5] at hf
    exact ⟨by simp only; omega, by simp only; omega, h3, h4, hf.symm, hd⟩
   ·have e : U167.v (cvS (cellAt x i 0)) (cvI (cellAt x i 1)) (cvI (cellAt x i (1 + 1))) (cvS (cellAt x i (1 + 1 + 1))) d = true := by
     have : (!U167.v (cvS (cellAt x i 0)) (cvI (cellAt x i 1)) (cvI (cellAt x i (1 + 1))) (cvS (cellAt x i (1 + 1 + 1))) d) = false := by
      rw [Lib.cellAt_of hix, hx]; exact hk
     simpa using this
    simp only [l5, r5, Lib.dlt, Lib.dle0, Lib.toN, hix, decide_true, Bool.true_and, cond_true, e, Bool.not_true, cond_false, Lib.w64_s hin hn]
 ·left
  have : i = s0.length := by omega
  subst this
  rw [List.take_length] at h5
  have e := hK j x h3 (by omega)
  rw [h5] at e
  have hix : ¬ s0.length < x.length := by omega
  simp only [l5, r5, Lib.dlt, hix, decide_false, cond_false, e]
theorem ok (s0 : Row) (del1 : ByteArray) (hc : s0.all cn = true) (hn : s0.length <= 4294967296) : c s0 del1 = true /\ v s0 del1 = s0.filter (keep del1) := by
 refine out s0 del1 ?_
 have hv := U66b.ok s0 del1 hn
 unfold vo b
 rw [hv.1, hv.2, cond_true]
 rcases Lib.fi_rng (U66b.p s0 del1) s0.length 0 with ⟨h, hall⟩ | ⟨k, _, hk2, hk, hkp, hbef⟩
 ·rw [h]
  have : s0.filter (keep del1) = s0 := by
   rw [List.filter_eq_self]
   intro y hy
   obtain ⟨i, hi, rfl⟩ := List.getElem_of_mem hy
   have := hall i (Nat.zero_le _) (by omega)
   unfold U66b.p at this
   rw [Lib.cellAt_of hi] at this
   unfold keep; rw [this]; rfl
  rw [this]; rfl
 ·rw [hk]
  have hkl : k < s0.length := by omega
  have hne : decide ((k : Int) = Int.neg 1) = false := decide_eq_false (by show ¬ (k : Int) = -1; omega)
  rw [hne, cond_false, Lib.w64_s hkl (by omega)]
  have hca : ∀ y ∈ s0, cn y = true := List.all_eq_true.1 hc
  refine run _ s0 del1 hc (by omega) _ some (fun j x hx hj => ?_) _ k (k + 1) s0 ⟨by omega, by omega, rfl, fun y hy => len_of (hca y hy), ?_, rfl⟩ (Lib.lt_big (by omega))
  ·have b1 : inB (j : Int) (s0.length : Int) (s0.length : Int) = true := by simp [inB]; omega
   have e : List.take j x ++ zeros [Ck.s, Ck.i IntKind.i64, Ck.i IntKind.i64, Ck.s] (s0.length - j) ++ List.drop s0.length x = List.take j x ++ zeros [Ck.s, Ck.i IntKind.i64, Ck.i IntKind.i64, Ck.s] (s0.length - j) := by
    rw [List.drop_eq_nil_of_le (by omega), List.append_nil]
   have hl : (List.take j x).length = j := by simp; omega
   simp only [hx, Lib.toN, b1, cond_true, e]
   rw [Lib.bif_t (by simp [inB]; omega)]
   unfold view
   rw [show Int.toNat 0 = 0 from rfl, List.drop_zero, Nat.sub_zero, List.take_append_of_le_length (by omega), List.take_of_length_le (by omega)]
  ·rw [filter_succ del1 hkl]
   have e1 : keep del1 s0[k] = false := by
    unfold U66b.p at hkp
    rw [Lib.cellAt_of hkl] at hkp
    unfold keep; rw [hkp]; rfl
   have e2 : (s0.take k).filter (keep del1) = s0.take k := by
    rw [List.filter_eq_self]
    intro y hy
    obtain ⟨i, hi, rfl⟩ := List.getElem_of_mem hy
    have hik : i < k := by simp at hi; omega
    have := hbef i (Nat.zero_le _) hik
    unfold U66b.p at this
    rw [Lib.cellAt_of (by omega)] at this
    rw [List.getElem_take]
    unfold keep; rw [this]; rfl
   rw [e1, e2, cond_false, List.append_nil]
end Go.FG.U166

namespace Go.FG.A_En
open Lib (re En)
def lessK (x y : ByteArray) : Bool := Go.Op.bytesLess (ByteArray.toList x) (ByteArray.toList y)
def So (en : List En) : Prop := en.Pairwise fun x y => lessK x.k y.k = true
def dropE (en : List En) (k : ByteArray) : List En := en.filter fun x => !decide (x.k = k)
def putE (en : List En) (e : En) : List En := en.filter (fun x => lessK x.k e.k) ++ [e] ++ en.filter (fun x => !(lessK x.k e.k || decide (x.k = e.k)))
theorem So.drop {en : List En} (h : So en) (k : ByteArray) : So (dropE en k) := List.Pairwise.filter _ h
theorem drop_len (en : List En) (k : ByteArray) : (dropE en k).length <= en.length := List.length_filter_le ..
theorem drop_nil {en : List En} (h : ∀ e ∈ en, 1 <= e.k.size) : dropE en ⟨#[]⟩ = en := by
 unfold dropE
 rw [List.filter_eq_self]
 intro e he
 have := h e he
 simp only [Bool.not_eq_true', decide_eq_false_iff_not]
 intro e2
 rw [e2] at this
 exact absurd this (by decide)
theorem or_re {en : List En} (h : So en) : U198.Or (re en) := by
 constructor
 ·unfold Lib.re
  rw [List.pairwise_map]
  exact h
 ·intro y hy
  unfold Lib.re at hy
  obtain ⟨z, _, rfl⟩ := List.mem_map.1 hy; rfl
theorem put_re (en : List En) (e : En) : U198.val (re en) e.k e.st e.li e.bo = re (putE en e) := by
 unfold U198.val putE Lib.re
 rw [List.filter_map, List.filter_map, List.map_map, List.map_map, List.map_append, List.map_append]
 have e1 : (U198.pl e.k ∘ En.row) = fun x : En => lessK x.k e.k := rfl
 have e2 : (U198.pg e.k ∘ En.row) = fun x : En => !(lessK x.k e.k || decide (x.k = e.k)) := by
  funext x
  show (!(Go.Op.bytesLess (ByteArray.toList x.k) (ByteArray.toList e.k) || List.beq (ByteArray.toList x.k) (ByteArray.toList e.k))) = _
  rw [Lib.beq_ba]; rfl
 rw [e1, e2]
 rfl
theorem drop_re (en : List En) (k : ByteArray) : (re en).filter (U166.keep k) = re (dropE en k) := by
 unfold Lib.re dropE
 rw [List.filter_map]
 congr 1
 apply List.filter_congr
 intro x _
 show (!List.beq (ByteArray.toList x.k) (ByteArray.toList k)) = _
 rw [Lib.beq_ba]
theorem cn_re (en : List En) : (re en).all U166.cn = true := by
 rw [List.all_eq_true]; intro y hy
 unfold Lib.re at hy; obtain ⟨z, _, rfl⟩ := List.mem_map.1 hy; rfl
theorem put_len (en : List En) (e : En) (h : So en) : (putE en e).length <= en.length + 1 := by
 have := (U198.keep_or (or_re h) e.k e.st e.li e.bo).2
 rw [put_re, Lib.re_len, Lib.re_len] at this
 exact this
end Go.FG.A_En

namespace Go.FG.U250
def rd (x : Int) : Int := bif decide (Int.tmod x 2 = 1) then (IntKind.wrap IntKind.u32 (↑(BitVec.toNat (BitVec.xor (BitVec.ofInt 32 (IntKind.wrap IntKind.u32 (Int.tdiv x 2))) (BitVec.ofInt 32 3558460437))) : Int)) else (IntKind.wrap IntKind.u32 (Int.tdiv x 2))
def rds : Nat -> Int -> Int | 0, x => x | n + 1, x => rds n (rd x)
theorem in6 {R : Type} (N : Nat) (K : Int -> ByteArray -> Int -> Int -> Option R) (a : ByteArray) (b : Int) : ∀ (d n i : Nat) (x : Int), d + i = 8 -> d < n -> l6 N K n x a b (i : Int) = K (rds d x) a b 8 := by
 intro d
 induction d with
 | zero =>
  intro n i x h1 h2
  obtain ⟨n, rfl⟩ : ∃ m, n = m + 1 := ⟨n - 1, by omega⟩
  have : i = 8 := by omega
  subst this
  rfl
 | succ d ih =>
  intro n i x h1 h2
  obtain ⟨n, rfl⟩ : ∃ m, n = m + 1 := ⟨n - 1, by omega⟩
  have hi1 : w64 ((i : Int) + 1) = ((i + 1 : Nat) : Int) := Lib.w64_ok (by omega) (by omega)
  rw [rds, <- ih n (i + 1) (rd x) (by omega) (by omega)]
  simp only [l6, r6, decide_eq_true (show (i : Int) < 8 by omega), cond_true, hi1, rd]
  cases decide (Int.tmod x 2 = 1) <;> rfl
def su (t : ByteArray) : Nat -> Nat -> Int -> Int
 | 0, _, s => s
 | d + 1, i, s => su t d (i + 1) (rds 8 (IntKind.wrap IntKind.u32 (↑(BitVec.toNat (BitVec.xor (BitVec.ofInt 32 s) (BitVec.ofInt 32 (IntKind.wrap IntKind.u32 (↑(btN t i) : Int))))) : Int)))
theorem run (s : Int) (t : ByteArray) (ht : t.size <= 4611686018427387904) : vo s t = some (su t t.size 0 s) := by
 unfold vo b
 have key : ∀ (d n i : Nat) (s : Int), d + i = t.size -> d < n -> l2 Lib.big (fun (y11 : Int) (_ : ByteArray) (_ : Int) => some y11) n s t (i : Int) = some (su t d i s) := by
  intro d
  induction d with
  | zero =>
   intro n i s h1 h2
   obtain ⟨n, rfl⟩ : ∃ m, n = m + 1 := ⟨n - 1, by omega⟩
   simp only [l2, r2, Lib.dlt, decide_eq_false (show ¬ i < t.size by omega), cond_false]; rfl
  | succ d ih =>
   intro n i s h1 h2
   obtain ⟨n, rfl⟩ : ∃ m, n = m + 1 := ⟨n - 1, by omega⟩
   have hi1 : w64 ((i : Int) + 1) = ((i + 1 : Nat) : Int) := Lib.w64_ok (by omega) (by omega)
   simp only [l2, r2, Lib.dlt, decide_eq_true (show i < t.size by omega), Lib.dle0, Bool.and_self, cond_true, Lib.toN]
   have e := in6 (R := Int) Lib.big (fun y7 y8 y9 _ => l2 Lib.big (fun y11 _ _ => some y11) n y7 y8 (w64 (y9 + 1))) t (i : Int) 8 Lib.big 0 (IntKind.wrap IntKind.u32 (↑(BitVec.toNat (BitVec.xor (BitVec.ofInt 32 s) (BitVec.ofInt 32 (IntKind.wrap IntKind.u32 (↑(btN t i) : Int))))) : Int)) rfl (by unfold Lib.big; omega)
   refine e.trans ?_
   rw [hi1, ih n (i + 1) _ (by omega) (by omega)]; rfl
 exact key t.size Lib.big 0 s (by omega) (Lib.lt_big (by omega))
theorem ok (s : Int) (t : ByteArray) (ht : t.size <= 4611686018427387904) : c s t = true /\ v s t = su t t.size 0 s := out s t (run s t ht)
end Go.FG.U250

namespace Go.FG.U215
theorem ok (t : ByteArray) (ht : t.size <= 4611686018427387904) : c t = true /\ v t = U250.su t t.size 0 4294967295 := by
 have h := U250.ok 4294967295 t ht
 refine out t ?_
 unfold vo b
 rw [h.1, h.2]; rfl
end Go.FG.U215

namespace Go.FG.U148
theorem wr32 (x : Int) : 0 <= IntKind.wrap IntKind.u32 x /\ IntKind.wrap IntKind.u32 x < 4294967296 := by
 have e : IntKind.wrap IntKind.u32 x = x % 4294967296 := rfl
 rw [e]; omega
theorem rd_rng (x : Int) : 0 <= U250.rd x /\ U250.rd x < 4294967296 := by
 unfold U250.rd
 cases decide (Int.tmod x 2 = 1) <;> exact wr32 _
theorem rds_rng : ∀ (n : Nat) (x : Int), 0 <= x /\ x < 4294967296 -> 0 <= U250.rds n x /\ U250.rds n x < 4294967296
 | 0, _, h => h
 | n + 1, x, _ => rds_rng n _ (rd_rng x)
theorem su_rng (t : ByteArray) : ∀ (d i : Nat) (s : Int), 0 <= s /\ s < 4294967296 -> 0 <= U250.su t d i s /\ U250.su t d i s < 4294967296
 | 0, _, _, h => h
 | d + 1, i, s, h => su_rng t d (i + 1) _ (rds_rng 8 _ (wr32 _))
def keyed (i : Nat) (key : ByteArray) : ByteArray := key ++ bytesOf [[CV.i IntKind.u8 (i : Int)]]
def sm (i : Nat) (key : ByteArray) : Int := U250.su (keyed i key) (keyed i key).size 0 4294967295
def pl (i : Nat) (key : ByteArray) : Nat := (Int.tmod (sm i key) 16).toNat
theorem sm_rng (i : Nat) (key : ByteArray) : 0 <= sm i key /\ sm i key < 4294967296 := su_rng _ _ _ _ (by omega)
theorem pl_int (i : Nat) (key : ByteArray) : Int.tmod (sm i key) 16 = (pl i key : Int) := by
 have := sm_rng i key
 have h : 0 <= Int.tmod (sm i key) 16 := Int.tmod_nonneg _ this.1
 unfold pl; omega
theorem pl_lt (i : Nat) (key : ByteArray) : pl i key < 16 := by
 have := sm_rng i key
 have h := Int.tmod_lt_of_pos (sm i key) (show (0 : Int) < 16 by omega)
 have h2 : 0 <= Int.tmod (sm i key) 16 := Int.tmod_nonneg _ this.1
 unfold pl; omega
theorem size_keyed (i : Nat) (key : ByteArray) : (keyed i key).size = key.size + 1 := by unfold keyed; rw [ByteArray.size_append, Lib.size_1]
theorem ok (i : Nat) (key : ByteArray) (hi : i < 3) (hk : key.size <= 140737488355328) : c (i : Int) key = true /\ v (i : Int) key = (pl i key : Int) := by
 refine out _ _ ?_
 unfold vo b
 have e : (key ++ bytesOf (List.set (zeros [Ck.i IntKind.u8] 1) 0 [CV.i IntKind.u8 (IntKind.wrap IntKind.u8 (i : Int))])) = keyed i key := by
  unfold keyed
  match i, hi with
  | 0, _ => rfl
  | 1, _ => rfl
  | 2, _ => rfl
 have hs := size_keyed i key
 have h := U215.ok (keyed i key) (by omega)
 have e2 : ByteArray.size key + ByteArray.size (bytesOf (List.set (zeros [Ck.i IntKind.u8] 1) 0 [CV.i IntKind.u8 (IntKind.wrap IntKind.u8 (i : Int))])) = key.size + 1 := by rw [Lib.set1, Lib.size_1]
 rw [e2, e, decide_eq_true (by omega), cond_true, h.1, h.2, cond_true]
 have hp := pl_int i key
 have hl := pl_lt i key
 unfold sm at hp
 rw [hp, Lib.w64_ok (by omega) (by omega)]
end Go.FG.U148

namespace Go.FG.U146
open Lib (rr)
theorem run {R : Type} (N : Nat) (K0 : Int -> Row -> Int -> Int -> Int -> Option R) (K1 : Int -> Row -> Int -> Int -> Int -> Row -> Option R) (s : List (List Int)) (z y a : Int) (hf : U168.fitS s) (m : Nat) (hm : s.length + 1 < m) (kr : Row -> Option R)
  (h0 : s = [] -> K0 0 (rr s) z y a = kr []) (h1 : K1 s.length (rr s) z y a (rr s) = kr (rr s)) : l3 N K0 K1 m 0 (rr s) z y a = kr (rr s) := by
 obtain ⟨m, rfl⟩ : ∃ m', m = m' + 1 := ⟨m - 1, by omega⟩
 have hz : ∀ q : Row, zeros [Ck.i IntKind.i64] 0 ++ q = q := fun q => rfl
 have hci : ∀ i (h : i < s.length), roomy (List.length (zeros [Ck.i IntKind.i64] 0) + List.length (Lib.ri s[i])) 8 = true := fun i h => by
  have := hf.2 _ (List.getElem_mem h)
  exact Lib.roomy_of (by rw [Lib.ri_len]; simp [zeros]; omega) (by rw [Lib.ri_len]; simp [zeros]; omega)
 by_cases hs : s = []
 ·subst hs
  simp only [l3, r3, Lib.rr_len, List.length_nil, Int.natCast_zero, Int.lt_irrefl, decide_false, cond_false]
  exact h0 rfl
 ·have hp : 0 < s.length := List.length_pos_iff.2 hs
  have key := Lib.for_run (R := R) s.length (fun m i (x : Row) => l3a N K0 K1 m (i : Int) (rr s) z y a x) (fun i => rr (s.take i)) (kr (rr s)) (fun m i h => by
   have hl := hf.1
   simp only [l3a, r3a, Lib.rr_len, Lib.dlt, h, decide_true, cond_true, Lib.dle0, Bool.true_and, Lib.toN, Lib.rr0 h, cvL, hci i h, hz, Lib.set1, List.length_singleton]
   rw [Lib.roomy_of (by rw [List.length_take]; omega) (by rw [List.length_take]; omega), cond_true, Lib.w64_s h (by omega)]
   have := Lib.take_snoc (fun q => [CV.l 3 (Lib.ri q)]) s i h
   unfold rr; rw [<- this]) (fun m => by
   simp only [l3a, r3a, Lib.rr_len, Lib.dlt, Nat.lt_irrefl, decide_false, cond_false, List.take_length]; exact h1) m 1 hp (by omega)
  have e := hci 0 hp
  have e0 := Lib.rr0 (l := s) hp
  simp only [l3, r3, decide_eq_true (show (0 : Int) < (s.length : Int) by omega), cond_true, Bool.and_self, Lib.rr_len, show decide ((0 : Int) <= 0) = true from rfl, show Int.toNat 0 = 0 from rfl, e0, cvL, e, hz, cond_true, Lib.set1, List.nil_append]
  rw [show w64 (0 + 1) = ((1 : Nat) : Int) from rfl]
  refine Eq.trans ?_ key
  have := Lib.take_snoc (fun q => [CV.l 3 (Lib.ri q)]) s 0 hp
  unfold rr; rw [show (0 + 1) = 1 from rfl] at this; rw [<- this]; rfl
theorem ok (s : List (List Int)) (a : Int) (hf : U168.fitS s) : c (rr s) a = true /\ v (rr s) a = (rr s, a) := by
 refine out _ _ ?_
 unfold vo b
 exact run Lib.big (fun _ _ _ _ y => some ([], y)) (fun _ _ _ _ y20 y21 => some (y21, y20)) s a 0 a hf Lib.big (Lib.lt_big (by have := hf.1; omega)) (fun x => some (x, a)) (fun _ => rfl) rfl
end Go.FG.U146

namespace Go.FG.U57
open Lib (rr ri)
def bq (p : Nat) (q : List Int) : List Int := q.set p (bif decide (q.getD p 0 < 15) then q.getD p 0 + 1 else q.getD p 0)
def bump (s : List (List Int)) (key : ByteArray) : List (List Int) := s.mapIdx fun i q => bq (U148.pl i key) q
def half (s : List (List Int)) : List (List Int) := s.map fun q => q.map fun n => Int.tdiv n 2
def val (s : List (List Int)) (a : Int) (key : ByteArray) : List (List Int) × Int :=
 bif U147.skOk s a then (bif decide (a + 1 = 64) then (half (bump s key), 0) else (bump s key, a + 1)) else (s, a)
def fR (q : List Int) : List CV := [CV.l 3 (ri q)]
theorem setI (q : List Int) (p : Nat) (x : Int) (h : p < q.length) : setC (ri q) p 0 [CV.i IntKind.i64 x] = ri (q.set p x) := Lib.setC_map (fun n => [CV.i IntKind.i64 n]) q p 0 _ x h rfl
theorem setR (L : List (List Int)) (i : Nat) (q : List Int) (h : i < L.length) : setC (L.map fR) i 0 [CV.l 3 (ri q)] = (L.set i q).map fR := Lib.setC_map fR L i 0 _ q h rfl
theorem cellR (L : List (List Int)) (i : Nat) (h : i < L.length) : cellAt (L.map fR) i 0 = CV.l 3 (ri L[i]) := Lib.cell_map fR L i 0 h
theorem ok_open {s : List (List Int)} {a : Int} (h : U147.skOk s a = true) : s.length = 3 /\ (0 <= a /\ a <= 63) /\ ∀ q ∈ s, q.length = 16 /\ ∀ n ∈ q, 0 <= n /\ n <= 15 := by
 unfold U147.skOk at h
 rw [Bool.and_eq_true, Bool.and_eq_true] at h
 refine ⟨of_decide_eq_true h.1, of_decide_eq_true h.2.1, fun q hq => ?_⟩
 have := List.all_eq_true.1 h.2.2 q hq
 unfold U147.rowOk at this
 rw [Bool.and_eq_true] at this
 refine ⟨of_decide_eq_true this.1, fun n hn => ?_⟩
 have := List.all_eq_true.1 this.2 n hn
 unfold U147.nOk at this
 exact of_decide_eq_true this
theorem getD_of {q : List Int} {p : Nat} (h : p < q.length) : q.getD p 0 = q[p] := by simp [List.getD, h]
theorem run5 {R : Type} (K : ByteArray -> Int -> Int -> Int -> Row -> Option R) (s : List (List Int)) (key : ByteArray) (y a : Int) (hs : s.length = 3) (hq : ∀ q ∈ s, q.length = 16 /\ ∀ n ∈ q, 0 <= n /\ n <= 15) (hk : key.size <= 140737488355328) :
  l5 Lib.big K Lib.big key 0 y a (rr s) = K key 3 y a (rr (bump s key)) := by
 refine (Lib.upd_run fR s (fun i q => bq (U148.pl i key) q) (fun m (i : Nat) x => l5 Lib.big K m key (i : Int) y a x) (fun x => K key 3 y a x) (fun m i L h h2 hL hLi => ?_) (fun m L hL => ?_) Lib.big (Lib.lt_big (by omega)))
 ·have hp := U148.ok i key (by omega) hk
  have hpl := U148.pl_lt i key
  obtain ⟨h16, hn⟩ := hq _ (List.getElem_mem h)
  have e0 : cellAt (L.map fR) i 0 = CV.l 3 (ri s[i]) := by rw [cellR L i h2, hLi]
  have hb : U148.pl i key < s[i].length := by omega
  have hx := hn _ (List.getElem_mem hb)
  simp only [l5, r5, List.length_map, Lib.dlt, h2, decide_true, cond_true, hp.1, hp.2, Lib.dle0, Bool.and_self, Lib.toN, e0, cvL, Lib.ri_len, h16, hpl, Lib.ri0 hb, cvI]
  unfold bq
  rw [getD_of hb]
  cases hd : decide (s[i][U148.pl i key] < 15) with
  | true =>
   have := of_decide_eq_true hd
   rw [cond_true, cond_true, Lib.w64_ok (x := s[i][U148.pl i key] + 1) (by omega) (by omega), setI _ _ _ hb, setR _ _ _ h2, Lib.w64_s h2 (by omega)]
  | false =>
   rw [cond_false, cond_false, Lib.w64_s h2 (by omega), List.set_getElem_self, <- hLi, List.set_getElem_self]
 ·simp only [l5, r5, List.length_map, Lib.dlt, hL, Nat.lt_irrefl, decide_false, cond_false, hs]; rfl
theorem bump_fit {s : List (List Int)} {key : ByteArray} (hs : s.length = 3) (hq : ∀ q ∈ s, q.length = 16 /\ ∀ n ∈ q, 0 <= n /\ n <= 15) : (bump s key).length = 3 /\ ∀ q ∈ bump s key, q.length = 16 /\ ∀ n ∈ q, 0 <= n /\ n <= 15 := by
 unfold bump
 refine ⟨by simp [hs], fun q hm => ?_⟩
 obtain ⟨i, hi, rfl⟩ := List.mem_mapIdx.1 hm
 obtain ⟨h16, hn⟩ := hq _ (List.getElem_mem hi)
 unfold bq
 have hb : U148.pl i key < s[i].length := by have := U148.pl_lt i key; omega
 refine ⟨by rw [List.length_set]; exact h16, fun n h => ?_⟩
 rcases List.mem_or_eq_of_mem_set h with h | h
 ·exact hn n h
 ·rw [getD_of hb] at h
  have hx := hn _ (List.getElem_mem hb)
  rw [h]
  cases hd : decide (s[i][U148.pl i key] < 15) with
  | true => have := of_decide_eq_true hd; rw [cond_true]; omega
  | false => rw [cond_false]; exact hx
theorem run17 {R : Type} (K : Int -> Int -> Int -> Int -> Row -> Option R) (L : List (List Int)) (i : Nat) (h : i < L.length) (y a : Int) (hl : L.length <= 1048576) (hq : L[i].length = 16) (hn : ∀ n ∈ L[i], 0 <= n /\ n <= 15) :
  l17 Lib.big K Lib.big (i : Int) 0 y a (L.map fR) = K i 16 y a ((L.set i (L[i].map fun n => Int.tdiv n 2)).map fR) := by
 have hmi : L[i].mapIdx (fun _ n => Int.tdiv n 2) = L[i].map fun n => Int.tdiv n 2 := by
  apply List.ext_getElem <;> simp
 have key := Lib.for_run (L[i].length) (fun m (k : Nat) x => l17 Lib.big K m (i : Int) (k : Int) y a x) (fun k => (L.set i (Lib.updL L[i] (fun _ n => Int.tdiv n 2) k)).map fR) (K i 16 y a ((L.set i (L[i].map fun n => Int.tdiv n 2)).map fR)) (fun m k hk => ?_) (fun m => ?_) Lib.big 0 (Nat.zero_le _) (Lib.lt_big (by omega))
 ·rw [Lib.updL_0, List.set_getElem_self] at key; exact key
 ·have hu := Lib.updL_len L[i] (fun _ n => Int.tdiv n 2) k (by omega)
  generalize hU : Lib.updL L[i] (fun _ n => Int.tdiv n 2) k = U at hu
  have hku : k < U.length := by omega
  have hat : U[k] = L[i][k] := by subst hU; exact Lib.updL_at _ _ _ hk _
  have hset : U.set k (Int.tdiv L[i][k] 2) = Lib.updL L[i] (fun _ n => Int.tdiv n 2) (k + 1) := by subst hU; exact Lib.updL_set L[i] (fun _ n => Int.tdiv n 2) k hk
  have h2 : i < (L.set i U).length := by simpa using h
  have e0 : cellAt ((L.set i U).map fR) i 0 = CV.l 3 (ri U) := by rw [cellR _ _ h2, List.getElem_set_self]
  have hx := hn _ (List.getElem_mem hk)
  have ht : 0 <= Int.tdiv L[i][k] 2 := Int.tdiv_nonneg hx.1 (by omega)
  have ht2 : Int.tdiv L[i][k] 2 <= 15 := Int.le_trans (Int.tdiv_le_self _ hx.1) hx.2
  simp only [l17, r17, List.length_map, List.length_set, Lib.dlt, h, hku, decide_true, cond_true, Lib.dle0, Bool.and_self, Lib.toN, e0, cvL, Lib.ri_len, Lib.ri0 hku, cvI, hat]
  rw [Lib.w64_ok (x := Int.tdiv L[i][k] 2) (by omega) (by omega), setI _ _ _ hku, setR _ _ _ h2, hset, List.set_set, Lib.w64_s hk (by omega)]
 ·have e0 : cellAt ((L.set i (Lib.updL L[i] (fun _ n => Int.tdiv n 2) L[i].length)).map fR) i 0 = CV.l 3 (ri (L[i].map fun n => Int.tdiv n 2)) := by rw [cellR _ _ (by simpa using h), List.getElem_set_self, Lib.updL_end, hmi]
  simp only [l17, r17, List.length_map, List.length_set, Lib.dlt, h, decide_true, cond_true, Lib.dle0, Bool.and_self, Lib.toN, e0, cvL, Lib.ri_len, Nat.lt_irrefl, decide_false, cond_false]
  rw [Lib.updL_end, hmi, hq]; rfl
theorem run14 {R : Type} (K : Int -> Int -> Int -> Row -> Option R) (s : List (List Int)) (y a : Int) (hs : s.length = 3) (hq : ∀ q ∈ s, q.length = 16 /\ ∀ n ∈ q, 0 <= n /\ n <= 15) :
  l14 Lib.big K Lib.big 0 y a (rr s) = K 3 y a (rr (half s)) := by
 have hmi : s.mapIdx (fun _ q => q.map fun n => Int.tdiv n 2) = half s := by
  unfold half; apply List.ext_getElem <;> simp
 rw [<- hmi]
 refine (Lib.upd_run fR s (fun _ q => q.map fun n => Int.tdiv n 2) (fun m (i : Nat) x => l14 Lib.big K m (i : Int) y a x) (fun x => K 3 y a x) (fun m i L h h2 hL hLi => ?_) (fun m L hL => ?_) Lib.big (Lib.lt_big (by omega)))
 ·obtain ⟨h16, hn⟩ := hq _ (List.getElem_mem h)
  simp only [l14, r14, List.length_map, Lib.dlt, h2, decide_true, cond_true]
  rw [run17 _ L i h2 y a (by omega) (by rw [hLi]; exact h16) (by rw [hLi]; exact hn), Lib.w64_s h2 (by omega), hLi]
 ·simp only [l14, r14, List.length_map, Lib.dlt, hL, Nat.lt_irrefl, decide_false, cond_false, hs]; rfl
theorem ok (s : List (List Int)) (a : Int) (key : ByteArray) (hf : U168.fitS s) (hk : key.size <= 140737488355328) : c (rr s) a key = true /\ v (rr s) a key = (rr (val s a key).1, (val s a key).2) := by
 refine out _ _ _ ?_
 have h1 := U146.ok s a hf
 have h2 := U147.ok s a hf
 unfold vo b val
 rw [h1.1, h1.2, h2.1, h2.2, cond_true, cond_true]
 cases hok : U147.skOk s a with
 | false => rfl
 | true =>
  obtain ⟨hs, ha, hq⟩ := ok_open hok
  obtain ⟨b1, b2⟩ := bump_fit (key := key) hs hq
  rw [Bool.not_true, cond_false, cond_true, run5 _ s key _ _ hs hq hk, Lib.w64_ok (x := a + 1) (by omega) (by omega)]
  cases hd : decide (a + 1 = 64) with
  | false => rfl
  | true => rw [cond_true, cond_true, run14 _ _ _ _ b1 b2]
end Go.FG.U57

namespace Go.FG.U145
open Lib (rr ri)
def gs (key : ByteArray) : Nat -> List (List Int) -> Int -> Int
 | _, [], x => x
 | i, q :: r, x => gs key (i + 1) r (bif decide (q.getD (U148.pl i key) 0 < x) then q.getD (U148.pl i key) 0 else x)
def val (s : List (List Int)) (a : Int) (key : ByteArray) : Int := bif U147.skOk s a then gs key 0 s 15 else 0
theorem gs_step (key : ByteArray) (s : List (List Int)) (i : Nat) (h : i < s.length) (x : Int) : gs key i (s.drop i) x = gs key (i + 1) (s.drop (i + 1)) (bif decide (s[i].getD (U148.pl i key) 0 < x) then s[i].getD (U148.pl i key) 0 else x) := by
 rw [List.drop_eq_getElem_cons h]; rfl
theorem ok (s : List (List Int)) (a : Int) (key : ByteArray) (hf : U168.fitS s) (hk : key.size <= 140737488355328) : c (rr s) a key = true /\ v (rr s) a key = val s a key := by
 refine out _ _ _ ?_
 have h2 := U147.ok s a hf
 unfold vo b val
 rw [h2.1, h2.2, cond_true]
 cases hok : U147.skOk s a with
 | false => rfl
 | true =>
  obtain ⟨hs, ha, hq⟩ := U57.ok_open hok
  rw [Bool.not_true, cond_false, cond_true]
  have := Lib.loop_gen (fun m (t : Nat × Int) => l5 Lib.big (fun (_ : ByteArray) (y6 _ : Int) (_ : Row) (_ : Int) => some y6) m key t.2 (t.1 : Int) (rr s) a) (fun t => s.length - t.1) (fun t => t.1 <= s.length) (fun t => some (gs key t.1 (s.drop t.1) t.2)) (fun m t ht => by
   obtain ⟨i, x⟩ := t
   dsimp only at ht ⊢
   by_cases h : i < s.length
   ·right
    have hp := U148.ok i key (by omega) hk
    have hpl := U148.pl_lt i key
    obtain ⟨h16, hn⟩ := hq _ (List.getElem_mem h)
    have hb : U148.pl i key < s[i].length := by omega
    refine ⟨(i + 1, bif decide (s[i].getD (U148.pl i key) 0 < x) then s[i].getD (U148.pl i key) 0 else x), by dsimp only; omega, by dsimp only; omega, by rw [<- gs_step key s i h x], ?_⟩
    simp only [l5, r5, Lib.rr_len, Lib.dlt, h, decide_true, cond_true, hp.1, hp.2, Lib.dle0, Bool.and_self, Lib.toN, Lib.rr0 h, cvL, Lib.ri_len, h16, hpl, Lib.ri0 hb, cvI, Lib.w64_s h (by omega : s.length <= 9223372036854775807)]
    rw [U57.getD_of hb]
    cases decide (s[i][U148.pl i key] < x) <;> rfl
   ·left
    have : i = s.length := by omega
    subst this
    simp only [l5, r5, Lib.rr_len, Lib.dlt, Nat.lt_irrefl, decide_false, cond_false, List.drop_length, gs]) Lib.big (0, 15) (Nat.zero_le _) (Lib.lt_big (by dsimp only; omega))
  simpa using this
end Go.FG.U145

namespace Go.FG.U140
open Lib (rr rs)
theorem ok (w m : List ByteArray) (s : List (List Int)) (a : Int) (hw : w.length <= 1048576) (hm : m.length <= 1048576) (hf : U168.fitS s) : c (rs w) (rs m) (rr s) a = true /\ v (rs w) (rs m) (rr s) a = (rs w, rs m, rr s, a) := by
 have h3 := U146.ok s a hf
 have r1 : roomy (List.length (zeros [Ck.s] 0) + List.length (rs w)) 16 = true := Lib.roomy_of (by simp [zeros, Lib.rs_len]; omega) (by simp [zeros, Lib.rs_len]; omega)
 have r2 : roomy (List.length (zeros [Ck.s] 0) + List.length (rs m)) 16 = true := Lib.roomy_of (by simp [zeros, Lib.rs_len]; omega) (by simp [zeros, Lib.rs_len]; omega)
 exact out _ _ _ _ (by unfold vo b; rw [r1, r2, h3.1, h3.2, cond_true, cond_true, cond_true]; rfl)
end Go.FG.U140

namespace Go.FG.U144
theorem ok (l : List ByteArray) (k : ByteArray) (hl : l.length <= 1048576) : c (Lib.rs l) k = true /\ v (Lib.rs l) k = Lib.rs (U143.without l k) := by
 refine out _ _ ?_
 unfold vo b
 have key := Lib.for_run l.length (fun m (i : Nat) (x : Row) => l3 Lib.big (fun (_ : Row) (_ : ByteArray) (_ : Int) (y7 : Row) => some y7) m (Lib.rs l) k (i : Int) x) (fun i => Lib.rs (U143.without (l.take i) k)) (some (Lib.rs (U143.without l k))) (fun m i h => by
  have hlen := U143.without_len (l := l.take i) (k := k)
  rw [List.length_take] at hlen
  simp only [l3, r3, Lib.rs_len, Lib.dlt, h, decide_true, Lib.dle0, Bool.and_self, cond_true, Lib.toN, Lib.rs0 h, cvS, Lib.beq_ba, Lib.set1, List.length_singleton, Lib.w64_s h (by omega : l.length <= 9223372036854775807)]
  rw [Lib.roomy_of (by omega) (by omega), cond_true]
  have e : U143.without (l.take (i + 1)) k = U143.without (l.take i) k ++ (bif !decide (l[i] = k) then [l[i]] else []) := by
   unfold U143.without
   rw [List.take_succ_eq_append_getElem h, List.filter_append]
   cases hd : decide (l[i] = k) <;> simp [hd]
  rw [e]
  cases hd : decide (l[i] = k) with
  | true => rw [Bool.not_true, cond_false, cond_false, List.append_nil]
  | false =>
   rw [Bool.not_false, cond_true, cond_true]
   unfold Lib.rs; rw [List.map_append]; rfl) (fun m => by
  simp only [l3, r3, Lib.rs_len, Lib.dlt, Nat.lt_irrefl, decide_false, cond_false, List.take_length]) Lib.big 0 (Nat.zero_le _) (Lib.lt_big (by omega))
 exact key
end Go.FG.U144

namespace Go.FG.U53
open Lib (rr rs)
open U143 (has without has_iff has_no without_no without_len without_lt)
open U142 (keyOk kOk keysOk pOk key_dec)
def val (w m : List ByteArray) (s : List (List Int)) (a : Int) (key : ByteArray) : List ByteArray × List ByteArray × List (List Int) × Int × ByteArray :=
 bif pOk w m s a && keyOk key then
  bif has w key then (without w key ++ [key], m, (U57.val s a key).1, (U57.val s a key).2, ⟨#[]⟩)
  else bif has m key then (w, without m key ++ [key], (U57.val s a key).1, (U57.val s a key).2, ⟨#[]⟩)
  else bif decide ((w ++ [key]).length <= 2) then (w ++ [key], m, (U57.val s a key).1, (U57.val s a key).2, ⟨#[]⟩)
  else bif decide (m.length < 4) then ((w ++ [key]).tail, m ++ [(w ++ [key]).getD 0 ⟨#[]⟩], (U57.val s a key).1, (U57.val s a key).2, ⟨#[]⟩)
  else bif decide (U145.val (U57.val s a key).1 (U57.val s a key).2 ((w ++ [key]).getD 0 ⟨#[]⟩) > U145.val (U57.val s a key).1 (U57.val s a key).2 (m.getD 0 ⟨#[]⟩)) then
   ((w ++ [key]).tail, m.tail ++ [(w ++ [key]).getD 0 ⟨#[]⟩], (U57.val s a key).1, (U57.val s a key).2, m.getD 0 ⟨#[]⟩)
  else ((w ++ [key]).tail, m, (U57.val s a key).1, (U57.val s a key).2, (w ++ [key]).getD 0 ⟨#[]⟩)
 else (w, m, s, a, ⟨#[]⟩)
theorem snoc1 (l : List ByteArray) (k : ByteArray) : rs l ++ [[CV.s k]] = rs (l ++ [k]) := by unfold Lib.rs; rw [List.map_append]; rfl
theorem zer (l : List ByteArray) : zeros [Ck.s] 0 ++ rs l = rs l := rfl
theorem head0 (l : List ByteArray) : cvS (cellAt (rs l) (Int.toNat 0) 0) = l.getD 0 ⟨#[]⟩ := by cases l <;> rfl
theorem tail1 (l : List ByteArray) : view (rs l) (Int.toNat 1) (Int.toNat (l.length : Int)) = rs l.tail := by
 unfold view Lib.rs
 rw [show Int.toNat 1 = 1 from rfl, Lib.toN, List.drop_one, <- List.map_tail, List.take_of_length_le (by simp)]
theorem keysOk_mem {l : List ByteArray} (h : keysOk l = true) {k : ByteArray} (hk : k ∈ l) : keyOk k = true := by
 unfold keysOk at h
 rw [List.all_eq_true] at h
 obtain ⟨i, hi, rfl⟩ := List.getElem_of_mem hk
 have := h i (by simpa using hi)
 unfold kOk at this
 rw [Bool.and_eq_true] at this
 have e : l.getD i ⟨#[]⟩ = l[i] := by simp [List.getD, hi]
 rw [e] at this; exact this.1
theorem keysOk_iff {l : List ByteArray} : keysOk l = true ↔ (∀ k ∈ l, keyOk k = true) /\ l.Nodup := by
 constructor
 ·intro h
  refine ⟨fun k hk => keysOk_mem h hk, ?_⟩
  rw [List.nodup_iff_pairwise_ne, List.pairwise_iff_getElem]
  intro i j hi hj hij he
  unfold keysOk at h
  rw [List.all_eq_true] at h
  have h2 := h j (by simpa using hj)
  unfold kOk at h2
  have e : l.getD j ⟨#[]⟩ = l[j] := by simp [List.getD, hj]
  rw [e, Bool.and_eq_true, Bool.not_eq_true', has_no] at h2
  refine h2.2 ?_
  rw [<- he]
  have : (l.take j)[i]'(by rw [List.length_take]; omega) = l[i] := List.getElem_take ..
  rw [<- this]; exact List.getElem_mem _
 ·intro h
  unfold keysOk
  rw [List.all_eq_true]
  intro j hj
  have hj : j < l.length := by simpa using hj
  unfold kOk
  have e : l.getD j ⟨#[]⟩ = l[j] := by simp [List.getD, hj]
  rw [e, Bool.and_eq_true, Bool.not_eq_true', has_no]
  refine ⟨h.1 _ (List.getElem_mem hj), fun hm => ?_⟩
  obtain ⟨i, hi, he⟩ := List.getElem_of_mem hm
  rw [List.length_take] at hi
  rw [List.getElem_take] at he
  have h2 := h.2
  rw [List.nodup_iff_pairwise_ne, List.pairwise_iff_getElem] at h2
  exact h2 i j (by omega) hj (by omega) he
theorem key_size {k : ByteArray} (h : keyOk k = true) : 1 <= k.size /\ k.size <= 30 := by
 unfold keyOk at h; have := of_decide_eq_true h; omega
theorem sk_fit {s : List (List Int)} {a : Int} {key : ByteArray} (h : U168.fitS s) : U168.fitS (U57.val s a key).1 := by
 unfold U57.val
 cases hok : U147.skOk s a with
 | false => exact h
 | true =>
  obtain ⟨hs, _, hq⟩ := U57.ok_open hok
  obtain ⟨b1, b2⟩ := U57.bump_fit (key := key) hs hq
  rw [cond_true]
  cases decide (a + 1 = 64) with
  | false => exact ⟨by rw [cond_false]; dsimp only; omega, fun q h => by have := (b2 q h).1; omega⟩
  | true =>
   rw [cond_true]; dsimp only; unfold U57.half
   refine ⟨by rw [List.length_map]; omega, fun q h => ?_⟩
   obtain ⟨q', hq', rfl⟩ := List.mem_map.1 h
   rw [List.length_map]; have := (b2 q' hq').1; omega
theorem getD_mem {l : List ByteArray} (h : 0 < l.length) : l.getD 0 ⟨#[]⟩ ∈ l := by
 cases l with
 | nil => simp at h
 | cons x r => exact List.mem_cons_self ..
theorem p_open {w m : List ByteArray} {s : List (List Int)} {a : Int} (h : pOk w m s a = true) : keysOk (w ++ m) = true /\ w.length <= 2 /\ m.length <= 4 /\ U147.skOk s a = true := by
 unfold pOk at h
 simp only [Bool.and_eq_true, decide_eq_true_eq] at h
 exact ⟨h.1, h.2.1, h.2.2.1, h.2.2.2⟩
theorem ok (w m : List ByteArray) (s : List (List Int)) (a : Int) (key : ByteArray) (hw : w.length <= 1048576) (hm : m.length <= 1048576) (hf : U168.fitS s) (hk : key.size <= 140737488355328) :
  c (rs w) (rs m) (rr s) a key = true /\ v (rs w) (rs m) (rr s) a key = (rs (val w m s a key).1, rs (val w m s a key).2.1, rr (val w m s a key).2.2.1, (val w m s a key).2.2.2.1, (val w m s a key).2.2.2.2) := by
 refine out _ _ _ _ _ ?_
 have h1 := U140.ok w m s a hw hm hf
 have h2 := U142.ok w m s a hw hm hf
 have h3 := U57.ok s a key hf hk
 have h4 := U143.ok w key (by omega)
 have h5 := U143.ok m key (by omega)
 have h6 := U144.ok w key hw
 have h7 := U144.ok m key hm
 have sf := sk_fit (a := a) (key := key) hf
 unfold vo b
 simp only [Lib.lt, h1.1, h1.2, h2.1, h2.2, cond_true]
 unfold val
 cases hp : pOk w m s a with
 | false => rfl
 | true =>
  obtain ⟨p1, p2, p3, p4⟩ := p_open hp
  rw [key_dec, Bool.true_and]
  cases hk2 : keyOk key with
  | false => rfl
  | true =>
   have hks := key_size hk2
   have l6 := without_len (l := w) (k := key)
   have l7 := without_len (l := m) (k := key)
   simp only [Bool.not_true, cond_false, cond_true, h3.1, h3.2, h4.1, h4.2, h5.1, h5.2, h6.1, h6.2, h7.1, h7.2, snoc1, zer, Lib.rs_len, Lib.set1, List.length_singleton]
   rw [Lib.roomy_of (n := (without w key).length + 1) (by omega) (by omega), Lib.roomy_of (n := (without m key).length + 1) (by omega) (by omega), Lib.roomy_of (n := w.length + 1) (by omega) (by omega)]
   simp only [cond_true]
   cases hA : has w key with
   | true => rfl
   | false =>
    cases hB : has m key with
    | true => rfl
    | false =>
     simp only [cond_false]
     rw [show decide (((w ++ [key]).length : Int) <= 2) = decide ((w ++ [key]).length <= 2) by rw [decide_eq_decide]; omega]
     cases hC : decide ((w ++ [key]).length <= 2) with
     | true => rfl
     | false =>
      have hlw : (w ++ [key]).length = 3 := by
       have := of_decide_eq_false hC
       rw [List.length_append, List.length_singleton] at this ⊢; omega
      have hfm : (w ++ [key]).getD 0 ⟨#[]⟩ ∈ w ++ [key] := getD_mem (by omega)
      have hfs : ((w ++ [key]).getD 0 ⟨#[]⟩).size <= 30 := by
       rcases List.mem_append.1 hfm with h | h
       ·exact (key_size (keysOk_mem p1 (List.mem_append_left _ h))).2
       ·rw [List.mem_singleton] at h; rw [h]; exact hks.2
      have g1 := U145.ok (U57.val s a key).1 (U57.val s a key).2 ((w ++ [key]).getD 0 ⟨#[]⟩) sf (by omega)
      have i1 : inB 1 ((w ++ [key]).length : Int) ((w ++ [key]).length : Int) = true := by rw [hlw]; rfl
      have ht : (w ++ [key]).tail.length = 2 := by rw [List.length_tail]; omega
      have rz : roomy (List.length (zeros [Ck.s] 0) + (w ++ [key]).tail.length) 16 = true := Lib.roomy_of (by rw [ht]; decide) (by rw [ht]; decide)
      simp only [cond_false, decide_eq_true (show (0 : Int) < ((w ++ [key]).length : Int) by omega), i1, cond_true, head0, tail1, rz, zer, snoc1, Lib.rs_len, Lib.roomy_of (n := m.length + 1) (b := 16) (by omega) (by omega), g1.1, g1.2]
      rw [show decide ((m.length : Int) < 4) = decide (m.length < 4) by rw [decide_eq_decide]; omega]
      cases hD : decide (m.length < 4) with
      | true => rfl
      | false =>
       have hm4 : m.length = 4 := by have := of_decide_eq_false hD; omega
       have hmm : m.getD 0 ⟨#[]⟩ ∈ m := getD_mem (by omega)
       have hms := (key_size (keysOk_mem p1 (List.mem_append_right _ hmm))).2
       have g2 := U145.ok (U57.val s a key).1 (U57.val s a key).2 (m.getD 0 ⟨#[]⟩) sf (by omega)
       have i2 : inB 1 (m.length : Int) (m.length : Int) = true := by simp [inB]; omega
       have ht2 : m.tail.length = 3 := by rw [List.length_tail]; omega
       have rz2 : roomy (List.length (zeros [Ck.s] 0) + m.tail.length) 16 = true := Lib.roomy_of (by rw [ht2]; decide) (by rw [ht2]; decide)
       simp only [cond_false, decide_eq_true (show (0 : Int) < (m.length : Int) by omega), i2, cond_true, rz2, snoc1, Lib.roomy_of (n := m.tail.length + 1) (b := 16) (by omega) (by omega), g2.1, g2.2]
       cases decide (U145.val (U57.val s a key).1 (U57.val s a key).2 ((w ++ [key]).getD 0 ⟨#[]⟩) > U145.val (U57.val s a key).1 (U57.val s a key).2 (m.getD 0 ⟨#[]⟩)) <;> rfl
def lens (s : List (List Int)) : List Nat := s.map List.length
theorem lens_bump (s : List (List Int)) (key : ByteArray) : lens (U57.bump s key) = lens s := by
 unfold lens U57.bump
 apply List.ext_getElem
 ·simp
 ·intro i h1 h2
  simp [U57.bq]
theorem lens_half (s : List (List Int)) : lens (U57.half s) = lens s := by
 unfold lens U57.half
 rw [List.map_map]; apply List.map_congr_left; intro q _; simp
theorem lens_sk (s : List (List Int)) (a : Int) (key : ByteArray) : lens (U57.val s a key).1 = lens s := by
 unfold U57.val
 cases U147.skOk s a with
 | false => rfl
 | true =>
  cases decide (a + 1 = 64) with
  | false => exact lens_bump s key
  | true => exact (lens_half _).trans (lens_bump s key)
theorem val_bd (w m : List ByteArray) (s : List (List Int)) (a : Int) (key : ByteArray) : (val w m s a key).1.length <= w.length + 1 /\ (val w m s a key).2.1.length <= m.length + 1 /\ lens (val w m s a key).2.2.1 = lens s := by
 have hw := without_len (l := w) (k := key)
 have hm := without_len (l := m) (k := key)
 have hs := lens_sk s a key
 unfold val
 cases pOk w m s a && keyOk key with
 | false => exact ⟨by rw [cond_false]; exact Nat.le_succ _, by rw [cond_false]; exact Nat.le_succ _, rfl⟩
 | true =>
  rw [cond_true]
  cases has w key with
  | true => refine ⟨?_, ?_, hs⟩ <;> (simp only [cond_true]; simp; try omega)
  | false =>
   cases has m key with
   | true => refine ⟨?_, ?_, hs⟩ <;> (simp only [cond_true, cond_false]; simp; try omega)
   | false =>
    cases decide ((w ++ [key]).length <= 2) with
    | true => refine ⟨?_, ?_, hs⟩ <;> (simp only [cond_true, cond_false]; simp; try omega)
    | false =>
     cases decide (m.length < 4) with
     | true => refine ⟨?_, ?_, hs⟩ <;> (simp only [cond_true, cond_false]; simp; try omega)
     | false =>
      cases decide (U145.val (U57.val s a key).1 (U57.val s a key).2 ((w ++ [key]).getD 0 ⟨#[]⟩) > U145.val (U57.val s a key).1 (U57.val s a key).2 (m.getD 0 ⟨#[]⟩)) with
      | true => refine ⟨?_, ?_, hs⟩ <;> (simp only [cond_true, cond_false]; simp; try omega)
      | false => refine ⟨?_, ?_, hs⟩ <;> (simp only [cond_true, cond_false]; simp; try omega)
end Go.FG.U53

namespace Go.FG.A_Ask
open Lib (Px Cl Fe En el rc rf re)
open U143 (has without)
open U142 (keyOk)
open U43 (pxOk)
open A_En (So dropE)
def frs (e : En) (now : Int) : Bool := U68.v e.k e.st e.li e.bo now
def jn (l : List Cl) (c : Cl) : List Cl := l.filter (fun x => decide (x.id < c.id)) ++ [c] ++ l.filter (fun x => decide (x.id > c.id))
def hasId (l : List Cl) (id : Int) : Bool := l.any fun x => decide (x.id = id)
def ent (l : List En) (key : ByteArray) : Option En := l.find? fun e => decide (e.k = key)
def opq (key : ByteArray) (f : Fe) : Bool := decide (f.k = key) && decide (f.sta = 1)
def opi (l : List Fe) (key : ByteArray) : Option Nat := l.findIdx? (opq key)
def newF (key : ByteArray) : Fe := ⟨key, ⟨#[]⟩, 1, 0, 0⟩
def put (p : Px) (id : Int) (key : ByteArray) (h : Bool) (fe : List Fe) (i : Nat) : Px :=
 { p with en := bif h then dropE p.en key else p.en, w := bif h then without p.w key else p.w, m := bif h then without p.m key else p.m, s := (U57.val p.s p.a key).1, a := (U57.val p.s p.a key).2, fe := fe, cl := jn p.cl ⟨id, key, (i : Int) + 1, 0, 1, (el fe i).t, 0⟩ }
def miss (p : Px) (id : Int) (key : ByteArray) (h : Bool) : Px × Int :=
 match opi p.fe key with
 | some i => (put p id key h p.fe i, 0)
 | none => bif decide (p.fe.length < 20) then (put p id key h (p.fe ++ [newF key]) p.fe.length, 0) else (p, 2)
def hit (p : Px) (id : Int) (key : ByteArray) (e : En) : Px :=
 { p with w := (U53.val p.w p.m p.s p.a key).1, m := (U53.val p.w p.m p.s p.a key).2.1, s := (U53.val p.w p.m p.s p.a key).2.2.1, a := (U53.val p.w p.m p.s p.a key).2.2.2.1, cl := jn p.cl ⟨id, key, 0, e.st, 2, e.bo, p.now - e.st⟩, hits := bif decide (p.hits < 1000000000) then p.hits + 1 else p.hits }
def ask (p : Px) (id : Int) (key : ByteArray) : Px × Int :=
 bif pxOk p && (decide (1 <= id /\ id <= 9) && (keyOk key && (!hasId p.cl id && decide (p.cl.length < 6)))) then
  match ent p.en key with
  | some e => bif frs e p.now then (hit p id key e, 0) else miss p id key true
  | none => miss p id key false
 else (p, 1)
theorem fi_any {α : Type} (l : List α) (q : α -> Bool) (p : Nat -> Bool) (h : ∀ i (hi : i < l.length), p i = q l[i]) : decide (Lib.fi p l.length 0 ≥ 0) = l.any q := by
 rcases Lib.fi_rng p l.length 0 with ⟨e, ha⟩ | ⟨k, _, hk, e, hp, _⟩
 ·rw [e, decide_eq_false (by omega)]
  symm
  rw [List.any_eq_false]
  intro x hx
  obtain ⟨i, hi, rfl⟩ := List.getElem_of_mem hx
  rw [<- h i hi, ha i (by omega) (by omega)]; simp
 ·rw [e, decide_eq_true (by omega)]
  symm
  rw [List.any_eq_true]
  exact ⟨_, List.getElem_mem (by omega : k < l.length), by rw [<- h k (by omega)]; exact hp⟩
theorem fi_find {α : Type} [Inhabited α] (l : List α) (q : α -> Bool) (p : Nat -> Bool) (h : ∀ i (hi : i < l.length), p i = q l[i]) :
  (Lib.fi p l.length 0 = -1 /\ l.find? q = none /\ l.findIdx? q = none) \/ ∃ i, i < l.length /\ Lib.fi p l.length 0 = (i : Int) /\ l.find? q = some (el l i) /\ l.findIdx? q = some i := by
 rcases Lib.fi_rng p l.length 0 with ⟨e, ha⟩ | ⟨k, _, hk, e, hp, hb⟩
 ·have hn : ∀ x ∈ l, q x = false := fun x hx => by
   obtain ⟨i, hi, rfl⟩ := List.getElem_of_mem hx
   rw [<- h i hi, ha i (by omega) (by omega)]
  refine .inl ⟨e, List.find?_eq_none.2 fun x hx => by rw [hn x hx]; simp, List.findIdx?_eq_none_iff.2 hn⟩
 ·have hk' : k < l.length := by omega
  have f : l.findIdx? q = some k := List.findIdx?_eq_some_iff_getElem.2 ⟨hk', by rw [<- h k hk']; exact hp, fun j hj => by rw [<- h j (by omega), hb j (by omega) hj]; simp⟩
  refine .inr ⟨k, hk', e, ?_, f⟩
  rw [List.find?_eq_some_iff_getElem]
  exact ⟨by rw [Lib.el_eq hk', <- h k hk']; exact hp, k, hk', (Lib.el_eq hk').symm, fun j hj => by rw [<- h j (by omega), hb j (by omega) hj]; rfl⟩
def lid (id : Int) (y : List CV) : Bool := decide (cvI (y.getD 0 (.b false)) < id)
theorem jn_ins {l : List Cl} {c : Cl} (cs : l.Pairwise fun a b => a.id < b.id) (hn : hasId l c.id = false) :
  (rc l).take ((rc l).takeWhile (lid c.id)).length ++ [Cl.row c] ++ (rc l).drop ((rc l).takeWhile (lid c.id)).length = rc (jn l c) := by
 rw [Lib.take_tw, Lib.drop_tw]
 have hne : ∀ y ∈ l, y.id ≠ c.id := fun y hy e => by
  unfold hasId at hn
  rw [List.any_eq_false] at hn
  exact hn y hy (decide_eq_true e)
 obtain ⟨t1, t2⟩ := Lib.tw_gen (fun x : Cl => decide (x.id < c.id)) (fun x => decide (x.id > c.id)) l (fun y hy => by
  have := hne y hy
  by_cases h : y.id < c.id
  ·rw [decide_eq_true h, decide_eq_false (by omega)]; rfl
  ·rw [decide_eq_false h, decide_eq_true (by omega)]; rfl) (cs.imp fun {a b} hab h => decide_eq_true (by have := of_decide_eq_true h; omega))
 unfold Lib.rc
 rw [List.takeWhile_map, List.dropWhile_map]
 have e : lid c.id ∘ Cl.row = fun x : Cl => decide (x.id < c.id) := rfl
 rw [e, t1, t2]
 unfold jn
 rw [List.map_append, List.map_append]; rfl
end Go.FG.A_Ask

namespace Go.FG.A_Ok
open Lib (Px Cl Fe En el)
open U143 (has has_iff)
open U142 (keyOk pOk)
open U133 (enOk eAt eOk)
open U134 (fOk sameO apart)
open U43 (cAt pxOk)
open A_En (So lessK)
def cOk (now : Int) (nf : Nat) (c : Cl) : Bool :=
 decide (1 <= c.id /\ c.id <= 9) && (keyOk c.k && (decide (1 <= c.sta /\ c.sta <= 3) && (decide (0 <= c.fe /\ c.fe <= (nf : Int)) && (decide ((c.got.size : Int) <= 400) && (decide (0 <= c.fr /\ c.fr <= now) && decide (0 <= c.age))))))
structure PxOk (p : Px) : Prop where
 now : 1 <= p.now /\ p.now <= 1000000000
 en : ∀ e ∈ p.en, enOk e = true
 so : So p.en
 ek : ∀ e ∈ p.en, e.k ∈ p.w \/ e.k ∈ p.m
 pol : pOk p.w p.m p.s p.a = true
 len : p.w.length + p.m.length = p.en.length
 fl : p.fe.length <= 20
 fe : ∀ f ∈ p.fe, fOk p.now f = true
 ap : p.fe.Pairwise fun f g => sameO g f = false
 cll : p.cl.length <= 6
 cl : ∀ c ∈ p.cl, cOk p.now p.fe.length c = true
 cs : p.cl.Pairwise fun c d => c.id < d.id
 hits : 0 <= p.hits /\ p.hits <= 1000000000
theorem pw_adj {α : Type} (R : α -> α -> Prop) (tr : ∀ x y z, R x y -> R y z -> R x z) (l : List α) (h : ∀ i (hi : i + 1 < l.length), R (l[i]) (l[i + 1])) : l.Pairwise R := by
 rw [List.pairwise_iff_getElem]
 have adj : ∀ d i (hi : i + d + 1 < l.length), R (l[i]) (l[i + d + 1]) := by
  intro d
  induction d with
  | zero => intro i hi; exact h i hi
  | succ d ih => intro i hi; exact tr _ _ _ (ih i (by omega)) (h (i + d + 1) (by omega))
 intro i j hi hj hij
 have := adj (j - i - 1) i (by omega)
 simp only [show i + (j - i - 1) + 1 = j by omega] at this
 exact this
theorem less_trans (x y z : ByteArray) (a : lessK x y = true) (b : lessK y z = true) : lessK x z = true := U198.bl_trans _ _ _ a b
theorem ok_of {p : Px} (h : pxOk p = true) : PxOk p := by
 obtain ⟨h1, h2, h3, h4, h5, h6, h7⟩ : _ /\ _ /\ _ /\ _ /\ _ /\ _ /\ _ := by
  unfold pxOk at h; simpa only [Bool.and_eq_true, decide_eq_true_eq, List.all_eq_true, List.mem_range] using h
 obtain ⟨g1, g2, g3⟩ : _ /\ _ /\ _ := by
  unfold eOk at h2; simpa only [Bool.and_eq_true, decide_eq_true_eq, List.all_eq_true, List.mem_range] using h2
 have e1 : ∀ i (hi : i < p.en.length), enOk p.en[i] = true /\ (0 < i -> lessK (el p.en (i - 1)).k p.en[i].k = true) /\ (p.en[i].k ∈ p.w \/ p.en[i].k ∈ p.m) := fun i hi => by
  have := g1 i hi
  unfold eAt at this
  simp only [Bool.and_eq_true, Bool.or_eq_true, decide_eq_true_eq, Lib.el_eq hi, has_iff] at this
  exact ⟨this.1, fun h0 => this.2.1.resolve_left (by omega), this.2.2⟩
 have c1 : ∀ i (hi : i < p.cl.length), cOk p.now p.fe.length p.cl[i] = true /\ (0 < i -> (el p.cl (i - 1)).id < p.cl[i].id) := fun i hi => by
  have := h7 i hi
  unfold cAt at this
  unfold cOk
  simp only [Bool.and_eq_true, Bool.or_eq_true, decide_eq_true_eq, Lib.el_eq hi] at this ⊢
  exact ⟨⟨this.1, this.2.2⟩, fun h0 => this.2.1.resolve_left (by omega)⟩
 have f1 : ∀ i (hi : i < p.fe.length), fOk p.now p.fe[i] = true /\ ∀ j (hj : j < i), sameO p.fe[i] (p.fe[j]'(by omega)) = false := fun i hi => by
  have := h6 i hi
  unfold apart at this
  simp only [List.all_eq_true, List.mem_range, Lib.el_eq hi] at this
  refine ⟨this.1, fun j hj => ?_⟩
  have h := this.2 j hj
  rw [Lib.el_eq (show j < p.fe.length by omega)] at h
  simpa using h
 refine ⟨h1, fun e he => ?_, ?_, fun e he => ?_, g2, g3, h3, fun f hf => ?_, ?_, h4, fun c hc => ?_, ?_, h5⟩
 ·obtain ⟨i, hi, rfl⟩ := List.getElem_of_mem he; exact (e1 i hi).1
 ·refine pw_adj (fun x y : En => lessK x.k y.k = true) (fun x y z a b => less_trans _ _ _ a b) p.en fun i hi => ?_
  have := (e1 (i + 1) hi).2.1 (by omega)
  rw [Nat.add_sub_cancel, Lib.el_eq (show i < p.en.length by omega)] at this
  exact this
 ·obtain ⟨i, hi, rfl⟩ := List.getElem_of_mem he; exact (e1 i hi).2.2
 ·obtain ⟨i, hi, rfl⟩ := List.getElem_of_mem hf; exact (f1 i hi).1
 ·rw [List.pairwise_iff_getElem]
  intro i j hi hj hij
  exact (f1 j hj).2 i hij
 ·obtain ⟨i, hi, rfl⟩ := List.getElem_of_mem hc; exact (c1 i hi).1
 ·refine pw_adj (fun c d : Cl => c.id < d.id) (fun x y z a b => Int.lt_trans a b) p.cl fun i hi => ?_
  have := (c1 (i + 1) hi).2 (by omega)
  rw [Nat.add_sub_cancel, Lib.el_eq (show i < p.cl.length by omega)] at this
  exact this
theorem of_ok {p : Px} (h : PxOk p) : pxOk p = true := by
 unfold pxOk eOk
 simp only [Bool.and_eq_true, decide_eq_true_eq, List.all_eq_true, List.mem_range]
 refine ⟨h.now, ⟨fun i hi => ?_, h.pol, h.len⟩, h.fl, h.cll, h.hits, fun i hi => ⟨?_, ?_⟩, fun i hi => ?_⟩
 ·unfold eAt
  simp only [Bool.and_eq_true, Bool.or_eq_true, decide_eq_true_eq, Lib.el_eq hi, has_iff]
  refine ⟨h.en _ (List.getElem_mem hi), ?_, h.ek _ (List.getElem_mem hi)⟩
  by_cases h0 : i = 0
  ·exact .inl h0
  ·right
   rw [Lib.el_eq (show i - 1 < p.en.length by omega)]
   exact List.pairwise_iff_getElem.1 h.so (i - 1) i (by omega) hi (by omega)
 ·rw [Lib.el_eq hi]; exact h.fe _ (List.getElem_mem hi)
 ·unfold apart
  simp only [List.all_eq_true, List.mem_range]
  intro j hj
  rw [Lib.el_eq hi, Lib.el_eq (show j < p.fe.length by omega), List.pairwise_iff_getElem.1 h.ap j i (by omega) hi hj]; rfl
 ·have hc := h.cl _ (List.getElem_mem hi)
  unfold cOk at hc
  unfold cAt
  simp only [Bool.and_eq_true, Bool.or_eq_true, decide_eq_true_eq, Lib.el_eq hi] at hc ⊢
  refine ⟨hc.1, ?_, hc.2⟩
  by_cases h0 : i = 0
  ·exact .inl h0
  ·right
   rw [Lib.el_eq (show i - 1 < p.cl.length by omega)]
   exact List.pairwise_iff_getElem.1 h.cs (i - 1) i (by omega) hi (by omega)
theorem ok_iff {p : Px} : pxOk p = true ↔ PxOk p := ⟨ok_of, of_ok⟩
end Go.FG.A_Ok

namespace Go.FG.U154
theorem ok (l : Row) (hl : l.length <= 4294967296) : c l = true /\ v l = l := by
 refine out l ?_
 unfold vo b
 rw [show List.length (zeros [Ck.s, Ck.i IntKind.i64, Ck.i IntKind.i64, Ck.s] 0) + l.length = l.length by simp [zeros], Lib.roomy_of (by omega) (by omega)]
 rfl
end Go.FG.U154

namespace Go.FG.U217
theorem ok (l : Row) (hl : l.length <= 4294967296) : c l = true /\ v l = l := by
 refine out l ?_
 unfold vo b
 rw [show List.length (zeros [Ck.s] 0) + l.length = l.length by simp [zeros], Lib.roomy_of (by omega) (by omega)]
 rfl
end Go.FG.U217

namespace Go.FG.U155
open Lib (rr rs)
theorem ok (w m : List ByteArray) (s : List (List Int)) (a : Int) (hw : w.length <= 1048576) (hm : m.length <= 1048576) (hf : U168.fitS s) : c (rs w) (rs m) (rr s) a = true /\ v (rs w) (rs m) (rr s) a = (rs w, rs m, rr s, a) := by
 have h1 := U217.ok (rs w) (by rw [Lib.rs_len]; omega)
 have h2 := U217.ok (rs m) (by rw [Lib.rs_len]; omega)
 have h3 := U168.ok s a hf
 exact out _ _ _ _ (by unfold vo b; rw [h1.1, h1.2, h2.1, h2.2, h3.1, h3.2, cond_true, cond_true, cond_true])
end Go.FG.U155

namespace Go.FG.U62
open Lib (rr rs re rf rc Px)
theorem ok (p : Px) (hp : p.Fit 1048576) : c p.now (re p.en) (rs p.w) (rs p.m) (rr p.s) p.a (rf p.fe) (rc p.cl) p.hits = true /\ v p.now (re p.en) (rs p.w) (rs p.m) (rr p.s) p.a (rf p.fe) (rc p.cl) p.hits = (p.now, re p.en, rs p.w, rs p.m, rr p.s, p.a, rf p.fe, rc p.cl, p.hits) := by
 have he := hp.en
 have hf := hp.fe
 have hc := hp.cl
 have h1 := U154.ok (re p.en) (by rw [Lib.re_len]; omega)
 have h2 := U155.ok p.w p.m p.s p.a hp.w hp.m ⟨hp.s.1, hp.s.2.1⟩
 exact out _ _ _ _ _ _ _ _ _ (by
  unfold vo b
  rw [h1.1, h1.2, h2.1, h2.2, cond_true, cond_true, Lib.roomy_of (by simp [zeros, Lib.rf_len]; omega) (by simp [zeros, Lib.rf_len]; omega), Lib.roomy_of (by simp [zeros, Lib.rc_len]; omega) (by simp [zeros, Lib.rc_len]; omega)]
  rfl)
end Go.FG.U62

namespace Go.FG.U169
open Lib (rr)
theorem in_dec (n a b : Int) : U63.v n a b = decide (a <= n /\ n <= b) := U147.in_dec n a b
theorem ok (s : List (List Int)) (a : Int) (hf : U168.fitS s) : c (rr s) a = true /\ v (rr s) a = U147.skOk s a := by
 refine out _ _ ?_
 unfold vo b
 have hl := hf.1
 rw [Lib.rr_len]
 have inner : ∀ i (h : i < s.length) (K0 K1 : Bool -> Row -> Row -> Int -> Int -> Row -> Int -> Int -> Row -> Int -> Option Bool) (kf kt : Option Bool) (x : Int)
   (h0 : ∀ j : Int, K0 false (Lib.ri s[i]) (rr s) s.length i (Lib.ri s[i]) x j (rr s) a = kf) (h1 : ∀ j : Int, K1 false (Lib.ri s[i]) (rr s) s.length i (Lib.ri s[i]) x j (rr s) a = kt), x = (s[i].length : Int) -> l5 Lib.big K0 K1 Lib.big false (Lib.ri s[i]) (rr s) s.length (i : Int) (Lib.ri s[i]) x 0 (rr s) a = bif (s[i]).all U147.nOk then kt else kf := fun i h K0 K1 kf kt x h0 h1 hx => by
  subst hx
  exact Lib.all_list (s[i]) U147.nOk (fun m (j : Nat) => l5 Lib.big K0 K1 m false (Lib.ri s[i]) (rr s) s.length (i : Int) (Lib.ri s[i]) s[i].length (j : Int) (rr s) a) kf kt
   (fun m j hj hp => by
    have hl := hf.2 _ (List.getElem_mem h)
    unfold U147.nOk at hp
    simp only [l5, r5, Lib.dlt, hj, decide_true, Lib.dle0, Bool.and_self, cond_true, Lib.toN, Lib.ri_len, Lib.ri0 hj, cvI, in_dec, hp, Bool.not_true, cond_false, Lib.w64_s hj (by omega : s[i].length <= 9223372036854775807)])
   (fun m j hj hp => by
    unfold U147.nOk at hp
    simp only [l5, r5, Lib.dlt, hj, decide_true, Lib.dle0, Bool.and_self, cond_true, Lib.toN, Lib.ri_len, Lib.ri0 hj, cvI, in_dec, hp, Bool.not_false, h0])
   (fun m => by simp only [l5, r5, Lib.dlt, Nat.lt_irrefl, decide_false, cond_false, h1]) Lib.big (Lib.lt_big (by have := hf.2 _ (List.getElem_mem h); omega))
 have ro : ∀ q : List Int, U147.rowOk q = (q.all U147.nOk && decide (q.length = 16)) := fun q => Bool.and_comm ..
 have key := Lib.all_list s U147.rowOk (fun m (i : Nat) => l2 Lib.big (fun (y36 : Bool) (_ : Row) (_ _ : Int) (_ : Row) (_ : Int) => some y36) (fun (_ : Bool) (_ : Row) (_ _ : Int) (y46 : Row) (y47 : Int) => bif (decide ((↑(List.length y46) : Int) = 3)) then (some (U63.v y47 0 63)) else (some false)) m false (rr s) s.length (i : Int) (rr s) a) (some false) (some (decide (s.length = 3) && decide (0 <= a /\ a <= 63)))
  (fun m i h hp => by
   rw [ro, Bool.and_eq_true] at hp
   have h16 := of_decide_eq_true hp.2
   simp only [l2, r2, Lib.rr_len, Lib.dlt, h, decide_true, Lib.dle0, Bool.and_self, cond_true, Lib.toN, Lib.rr0 h, cvL, Lib.ri_len]
   rw [inner i h _ _ (some false) _ _ (fun _ => rfl) (fun _ => rfl) rfl, hp.1, cond_true, Lib.ri_len, h16, show (((16 : Nat) : Int) != 16) = false from rfl, cond_false, Lib.w64_s h (by omega)])
  (fun m i h hp => by
   rw [ro] at hp
   simp only [l2, r2, Lib.rr_len, Lib.dlt, h, decide_true, Lib.dle0, Bool.and_self, cond_true, Lib.toN, Lib.rr0 h, cvL, Lib.ri_len]
   rw [inner i h _ _ (some false) _ _ (fun _ => rfl) (fun _ => rfl) rfl]
   cases ha : (s[i]).all U147.nOk with
   | false => rfl
   | true =>
    rw [ha, Bool.true_and] at hp
    have := of_decide_eq_false hp
    rw [cond_true, Lib.ri_len, show ((s[i].length : Int) != 16) = true by simp; omega, cond_true])
  (fun m => by
   simp only [l2, r2, Lib.rr_len, Lib.dlt, Nat.lt_irrefl, decide_false, cond_false, in_dec]
   rw [show decide ((s.length : Int) = 3) = decide (s.length = 3) by rw [decide_eq_decide]; omega]
   cases decide (s.length = 3) <;> rfl) Lib.big (Lib.lt_big (by omega))
 refine key.trans ?_
 unfold U147.skOk
 cases s.all U147.rowOk <;> cases decide (s.length = 3) <;> cases decide (0 <= a /\ a <= 63) <;> rfl
end Go.FG.U169

namespace Go.FG.U261
theorem ok (n : Int) (h0 : 0 <= n) (h1 : n <= 4294967296) : c n = true /\ v n = [] := by
 refine out n ?_
 unfold vo b
 have e : w64 (n - w64 (0 - 0)) = n := by
  rw [show w64 (0 - 0) = 0 from rfl, Int.sub_zero, Lib.w64_ok (by omega) (by omega)]
 rw [e, decide_eq_false (show ¬ n < 0 by omega), cond_false]
 by_cases hn : n > 0
 ·rw [decide_eq_true hn, cond_true, decide_eq_true h0, decide_eq_true (show n <= 9223372036854775807 by omega), Lib.roomy_of (by simp; omega) (by simp; omega)]
  simp [view]
 ·rw [decide_eq_false hn, cond_false]
end Go.FG.U261

namespace Go.FG.U233
theorem ok (p q : Row) (hp : p.length <= 1048576) (hq : q.length <= 1048576) : c [[CV.l 9 p], [CV.l 9 q]] = true /\ v [[CV.l 9 p], [CV.l 9 q]] = p ++ q := by
 refine out _ ?_
 have w1 : w64 (0 + (p.length : Int)) = (p.length : Int) := by rw [Int.zero_add]; exact Lib.w64_ok (by omega) (by omega)
 have w2 : w64 ((p.length : Int) + (q.length : Int)) = (p.length : Int) + (q.length : Int) := Lib.w64_ok (by omega) (by omega)
 have hg := U261.ok ((p.length : Int) + (q.length : Int)) (by omega) (by omega)
 have d1 : decide ((p.length : Int) < 0) = false := decide_eq_false (by omega)
 have d2 : decide ((p.length : Int) + (q.length : Int) < 0) = false := decide_eq_false (by omega)
 have g1 : roomy (0 + p.length) 16 = true := Lib.roomy_of (by omega) (by omega)
 have g2 : roomy (p.length + q.length) 16 = true := Lib.roomy_of (by omega) (by omega)
 have c0 : cvL (cellAt [[CV.l 9 p], [CV.l 9 q]] 0 0) = p := rfl
 have c1 : cvL (cellAt [[CV.l 9 p], [CV.l 9 q]] 1 0) = q := rfl
 unfold vo b
 obtain ⟨n, hn⟩ : ∃ n, Lib.big = n + 3 := ⟨18446744073709551613, rfl⟩
 generalize Lib.big = B at hn ⊢
 subst hn
 have k3 : ∀ (R : Type) (K : Row -> Int -> Row -> Int -> Int -> Option R) (S : Row), S = [[CV.l 9 p], [CV.l 9 q]] -> l3 (n + 3) K (n + 3) S 0 S 2 0 = K S ((p.length : Int) + (q.length : Int)) S 2 2 := by
  intro R K S hS
  subst hS
  simp only [l3, r3, List.length_cons, List.length_nil, show Int.toNat 0 = 0 from rfl, c0, w1, d1, show w64 (0 + 1) = 1 from rfl, show Int.toNat 1 = 1 from rfl, c1, w2, d2, show w64 (1 + 1) = 2 from rfl, cond_false, show decide ((0 : Int) < 2) = true from rfl, show decide ((1 : Int) < 2) = true from rfl, show decide ((2 : Int) < 2) = false from rfl, show decide ((0 : Int) <= 0) = true from rfl, show decide ((0 : Int) <= 1) = true from rfl, show ((0 + 1 + 1 : Nat) : Int) = 2 from rfl, Bool.and_self, cond_true]
 have k11 : ∀ (R : Type) (K : Row -> Int -> Int -> Row -> Option R) (S : Row), S = [[CV.l 9 p], [CV.l 9 q]] -> l11 (n + 3) K (n + 3) S 2 0 [] = K S 2 2 (p ++ q) := by
  intro R K S hS
  subst hS
  simp only [l11, r11, List.length_cons, List.length_nil, show Int.toNat 0 = 0 from rfl, c0, g1, show w64 (0 + 1) = 1 from rfl, show Int.toNat 1 = 1 from rfl, c1, List.nil_append, g2, show w64 (1 + 1) = 2 from rfl, cond_false, show decide ((0 : Int) < 2) = true from rfl, show decide ((1 : Int) < 2) = true from rfl, show decide ((2 : Int) < 2) = false from rfl, show decide ((0 : Int) <= 0) = true from rfl, show decide ((0 : Int) <= 1) = true from rfl, show ((0 + 1 + 1 : Nat) : Int) = 2 from rfl, Bool.and_self, cond_true]
 show l3 (n + 3) _ (n + 3) _ 0 _ 2 0 = _
 rw [k3 _ _ _ rfl, hg.1, hg.2, cond_true]
 exact k11 _ _ _ rfl
end Go.FG.U233

namespace Go.FG.U188
theorem ok (w m : List ByteArray) (s : Row) (a : Int) (hw : w.length <= 1048576) (hm : m.length <= 1048576) : c (Lib.rs w) (Lib.rs m) s a = true /\ v (Lib.rs w) (Lib.rs m) s a = Lib.rs (w ++ m) := by
 have h := U233.ok (Lib.rs w) (Lib.rs m) (by rw [Lib.rs_len]; exact hw) (by rw [Lib.rs_len]; exact hm)
 have e : List.set (List.set (zeros [Ck.l 9] 2) 0 [CV.l 9 (Lib.rs w)]) 1 [CV.l 9 (Lib.rs m)] = [[CV.l 9 (Lib.rs w)], [CV.l 9 (Lib.rs m)]] := rfl
 have e2 : Lib.rs w ++ Lib.rs m = Lib.rs (w ++ m) := by unfold Lib.rs; rw [List.map_append]
 exact out _ _ _ _ (by unfold vo b; rw [e, h.1, h.2, cond_true, e2])
end Go.FG.U188

namespace Go.FG.U218
theorem ok (l : List ByteArray) (k : ByteArray) (hl : l.length <= 4294967296) : c (Lib.rs l) k = true /\ decide (v (Lib.rs l) k ≥ 0) = U143.has l k := by
 have h := out (Lib.rs l) k (x := Lib.fi (fun i => decide ((l.getD i ⟨#[]⟩) = k)) l.length 0) (by
  unfold vo b
  rw [Lib.rs_len]
  refine Lib.fi_gen (fun i => decide ((l.getD i ⟨#[]⟩) = k)) l.length (fun m (i : Nat) => l2 Lib.big (fun (_ : Row) (_ : ByteArray) (y7 _ _ : Int) => some y7) (fun (_ : Row) (_ : ByteArray) (_ _ _ : Int) => some (-1)) m (Lib.rs l) k 0 (l.length : Int) (i : Int)) some (fun m i hi hp => ?_) (fun m i hi hp => ?_) (fun m => ?_) Lib.big (Lib.lt_big (by omega))
  ·have hg : l.getD i ⟨#[]⟩ = l[i] := by simp [List.getD, hi]
   rw [hg] at hp
   have hp' : decide (k = l[i]) = true := by rw [<- hp, decide_eq_decide]; exact eq_comm
   simp only [l2, r2, Lib.rs_len, Lib.dlt, hi, decide_true, Lib.dle0, Bool.and_self, cond_true, Lib.toN, Lib.rs0 hi, cvS, Lib.beq_ba, hp']
  ·have hg : l.getD i ⟨#[]⟩ = l[i] := by simp [List.getD, hi]
   rw [hg] at hp
   have hp' : decide (k = l[i]) = false := by rw [<- hp, decide_eq_decide]; exact eq_comm
   simp only [l2, r2, Lib.rs_len, Lib.dlt, hi, decide_true, Lib.dle0, Bool.and_self, cond_true, Lib.toN, Lib.rs0 hi, cvS, Lib.beq_ba, hp', cond_false, Lib.w64_s hi (by omega : l.length <= 9223372036854775807)]
  ·simp only [l2, r2, Lib.dlt, Nat.lt_irrefl, decide_false, cond_false])
 refine ⟨h.1, ?_⟩
 rw [h.2]
 exact Lib.fi_any l (fun x => decide (x = k)) _ (fun i hi => by simp [List.getD, hi])
end Go.FG.U218

namespace Go.FG.U160
theorem ok (l : List ByteArray) (k : ByteArray) (hl : l.length <= 4294967296) : c (Lib.rs l) k = true /\ v (Lib.rs l) k = U143.has l k := by
 have h := U218.ok l k hl
 exact out _ _ (by unfold vo b; rw [h.1, h.2, cond_true])
end Go.FG.U160

namespace Go.FG.U159
open Lib (rr rs)
open U143 (has without has_iff has_no)
open U142 (keyOk kOk keysOk pOk view_rs)
theorem key_dec (k : ByteArray) : U64.v k = keyOk k := U147.in_dec _ _ _
theorem ok (w m : List ByteArray) (s : List (List Int)) (a : Int) (hw : w.length <= 1048576) (hm : m.length <= 1048576) (hf : U168.fitS s) : c (rs w) (rs m) (rr s) a = true /\ v (rs w) (rs m) (rr s) a = pOk w m s a := by
 refine out _ _ _ _ ?_
 have h2 := U169.ok s a hf
 have h3 := U188.ok w m (rr s) a hw hm
 unfold vo b
 rw [h3.1, h3.2, cond_true, Lib.rs_len]
 have hl : (w ++ m).length <= 2097152 := by rw [List.length_append]; omega
 have hin : ∀ i, i < (w ++ m).length -> U160.c (rs ((w ++ m).take i)) ((w ++ m).getD i ⟨#[]⟩) = true /\ U160.v (rs ((w ++ m).take i)) ((w ++ m).getD i ⟨#[]⟩) = has ((w ++ m).take i) ((w ++ m).getD i ⟨#[]⟩) := fun i hi => U160.ok _ _ (by rw [List.length_take]; omega)
 have hk : ∀ i (hi : i < (w ++ m).length), cvS (cellAt (rs (w ++ m)) i 0) = (w ++ m).getD i ⟨#[]⟩ := fun i hi => by rw [Lib.rs0 hi, show (w ++ m).getD i ⟨#[]⟩ = (w ++ m)[i] by rw [List.getD_eq_getElem?_getD, List.getElem?_eq_getElem hi]; rfl]; rfl
 generalize hL : w ++ m = L at hl hin hk
 have key := Lib.all_gen (kOk L) L.length (fun n (i : Nat) => l3 Lib.big (fun (y8 : Bool) (_ _ : Int) (_ _ _ : Row) (_ : Int) (_ : Row) => some y8) (fun (_ : Bool) (_ _ : Int) (y19 y20 y21 : Row) (y22 : Int) (_ : Row) => bif (decide ((↑(List.length y19) : Int) <= 2)) then (bif (decide ((↑(List.length y20) : Int) <= 4)) then (bif (U169.c y21 y22) then (some (U169.v y21 y22)) else (none)) else (some false)) else (some false)) n false (L.length : Int) (i : Int) (rs w) (rs m) (rr s) a (rs L)) (some false) (some (decide (w.length <= 2) && (decide (m.length <= 4) && U147.skOk s a)))
  (fun n i hi hp => by
   unfold kOk at hp
   rw [Bool.and_eq_true, Bool.not_eq_true'] at hp
   have b1 : inB 0 (i : Int) (L.length : Int) = true := by simp [inB]; omega
   simp only [l3, r3, Lib.rs_len, Lib.dlt, hi, decide_true, Lib.dle0, Bool.and_self, cond_true, Lib.toN, hk i hi, key_dec, hp.1, Bool.not_true, cond_false, b1, view_rs, (hin i hi).1, (hin i hi).2, hp.2, Lib.w64_s hi (by omega : L.length <= 9223372036854775807)])
  (fun n i hi hp => by
   have b1 : inB 0 (i : Int) (L.length : Int) = true := by simp [inB]; omega
   unfold kOk at hp
   cases h1 : keyOk (L.getD i ⟨#[]⟩) with
   | false => simp only [l3, r3, Lib.rs_len, Lib.dlt, hi, decide_true, Lib.dle0, Bool.and_self, cond_true, Lib.toN, hk i hi, key_dec, h1, Bool.not_false]
   | true =>
    rw [h1, Bool.true_and, Bool.not_eq_false'] at hp
    simp only [l3, r3, Lib.rs_len, Lib.dlt, hi, decide_true, Lib.dle0, Bool.and_self, cond_true, Lib.toN, hk i hi, key_dec, h1, Bool.not_true, cond_false, b1, view_rs, (hin i hi).1, (hin i hi).2, hp])
  (fun n => by
   simp only [l3, r3, Lib.rs_len, Lib.dlt, Nat.lt_irrefl, decide_false, cond_false, h2.1, h2.2, cond_true]
   rw [show decide ((w.length : Int) <= 2) = decide (w.length <= 2) by rw [decide_eq_decide]; omega, show decide ((m.length : Int) <= 4) = decide (m.length <= 4) by rw [decide_eq_decide]; omega]
   cases decide (w.length <= 2) <;> cases decide (m.length <= 4) <;> rfl) Lib.big (Lib.lt_big (by omega))
 refine key.trans ?_
 unfold pOk keysOk
 rw [hL]
 cases (List.range L.length).all (kOk L) <;> rfl
end Go.FG.U159

namespace Go.FG.U187
open Lib (rr rs)
open U143 (has)
theorem has_app (w m : List ByteArray) (k : ByteArray) : has (w ++ m) k = (has w k || has m k) := by unfold has; rw [List.any_append]
theorem ok (w m : List ByteArray) (s : Row) (a : Int) (k : ByteArray) (hw : w.length <= 1048576) (hm : m.length <= 1048576) : c (rs w) (rs m) s a k = true /\ v (rs w) (rs m) s a k = (has w k || has m k) := by
 have h1 := U188.ok w m s a hw hm
 have h2 := U160.ok (w ++ m) k (by rw [List.length_append]; omega)
 exact out _ _ _ _ _ (by unfold vo b; rw [h1.1, h1.2, h2.1, h2.2, cond_true, cond_true, has_app])
end Go.FG.U187

namespace Go.FG.U97
open Lib (rr rs re el we0 we1 we2 we3 En)
open U143 (has)
open U142 (pOk)
open U133 (eAt eOk enOk)
theorem en_eq (k : ByteArray) (s l : Int) (b : ByteArray) : U158.v k s l b = U141.v k s l b := rfl
theorem ok (i0 : Int) (en : List En) (w m : List ByteArray) (s : List (List Int)) (a : Int) (r6 r7 : Row) (i8 : Int) (he : en.length <= 1048576) (hw : w.length <= 1048576) (hm : m.length <= 1048576) (hf : U168.fitS s) :
  c i0 (re en) (rs w) (rs m) (rr s) a r6 r7 i8 = true /\ v i0 (re en) (rs w) (rs m) (rr s) a r6 r7 i8 = eOk en w m s a := by
 refine out _ _ _ _ _ _ _ _ _ ?_
 have h1 := U159.ok w m s a hw hm hf
 have h2 := fun k => U187.ok w m (rr s) a k hw hm
 have h3 := U188.ok w m (rr s) a hw hm
 unfold vo b
 rw [Lib.re_len]
 have key := Lib.all_gen (eAt en w m) en.length (fun n (i : Nat) => l2 Lib.big (fun (y13 : Bool) (_ : Row) (_ _ _ : Int) (_ _ _ _ : Row) (_ : Int) (_ _ : Row) (_ : Int) => some y13) (fun (_ : Bool) (_ : Row) (_ _ _ : Int) (y31 y32 y33 y34 : Row) (y35 : Int) (_ _ : Row) (_ : Int) => bif (U159.c y32 y33 y34 y35) then (bif (U159.v y32 y33 y34 y35) then (bif (U188.c y32 y33 y34 y35) then (some (decide ((↑(List.length (U188.v y32 y33 y34 y35)) : Int) = (↑(List.length y31) : Int)))) else (none)) else (some false)) else (none)) n false (re en) (en.length : Int) (i : Int) i0 (re en) (rs w) (rs m) (rr s) a r6 r7 i8) (some false) (some (pOk w m s a && decide (w.length + m.length = en.length)))
  (fun n i hi hp => by
   unfold eAt enOk at hp
   rw [Bool.and_eq_true, Bool.and_eq_true] at hp
   obtain ⟨p1, p2, p3⟩ := hp
   by_cases hz : i = 0
   ·subst hz
    simp only [l2, r2, Lib.re_len, Lib.dlt, hi, decide_true, Lib.dle0, Bool.and_self, cond_true, Lib.toN, we0 hi, we1 hi, we2 hi, we3 hi, cvS, cvI, en_eq, p1, Bool.not_true, cond_false, decide_eq_false (show ¬ (((0 : Nat) : Int) > 0) by omega), (h2 _).1, (h2 _).2, p3, Lib.w64_s hi (by omega : en.length <= 9223372036854775807)]
   ·rw [decide_eq_false hz, Bool.false_or] at p2
    have hi1 : i - 1 < en.length := by omega
    simp only [l2, r2, Lib.re_len, Lib.dlt, hi, decide_true, Lib.dle0, Bool.and_self, cond_true, Lib.toN, we0 hi, we1 hi, we2 hi, we3 hi, cvS, cvI, en_eq, p1, Bool.not_true, cond_false, decide_eq_true (show (i : Int) > 0 by omega), Lib.pred_nat (show 0 < i by omega) (by omega), hi1, we0 hi1, p2, (h2 _).1, (h2 _).2, p3, Lib.w64_s hi (by omega : en.length <= 9223372036854775807)])
  (fun n i hi hp => by
   unfold eAt enOk at hp
   cases p1 : U141.v (el en i).k (el en i).st (el en i).li (el en i).bo with
   | false => simp only [l2, r2, Lib.re_len, Lib.dlt, hi, decide_true, Lib.dle0, Bool.and_self, cond_true, Lib.toN, we0 hi, we1 hi, we2 hi, we3 hi, cvS, cvI, en_eq, p1, Bool.not_false]
   | true =>
    rw [p1, Bool.true_and] at hp
    by_cases hz : i = 0
    ·subst hz
     rw [decide_eq_true rfl, Bool.true_or, Bool.true_and] at hp
     simp only [l2, r2, Lib.re_len, Lib.dlt, hi, decide_true, Lib.dle0, Bool.and_self, cond_true, Lib.toN, we0 hi, we1 hi, we2 hi, we3 hi, cvS, cvI, en_eq, p1, Bool.not_true, Bool.not_false, cond_false, decide_eq_false (show ¬ (((0 : Nat) : Int) > 0) by omega), (h2 _).1, (h2 _).2, hp]
    ·rw [decide_eq_false hz, Bool.false_or] at hp
     have hi1 : i - 1 < en.length := by omega
     cases p2 : Go.Op.bytesLess (ByteArray.toList (el en (i - 1)).k) (ByteArray.toList (el en i).k) with
     | false => simp only [l2, r2, Lib.re_len, Lib.dlt, hi, decide_true, Lib.dle0, Bool.and_self, cond_true, Lib.toN, we0 hi, we1 hi, we2 hi, we3 hi, cvS, cvI, en_eq, p1, Bool.not_true, Bool.not_false, cond_false, decide_eq_true (show (i : Int) > 0 by omega), Lib.pred_nat (show 0 < i by omega) (by omega), hi1, we0 hi1, p2]
     | true =>
      rw [p2, Bool.true_and] at hp
      simp only [l2, r2, Lib.re_len, Lib.dlt, hi, decide_true, Lib.dle0, Bool.and_self, cond_true, Lib.toN, we0 hi, we1 hi, we2 hi, we3 hi, cvS, cvI, en_eq, p1, Bool.not_true, Bool.not_false, cond_false, decide_eq_true (show (i : Int) > 0 by omega), Lib.pred_nat (show 0 < i by omega) (by omega), hi1, we0 hi1, p2, (h2 _).1, (h2 _).2, hp])
  (fun n => by
   simp only [l2, r2, Lib.dlt, Nat.lt_irrefl, decide_false, cond_false, h1.1, h1.2, h3.1, h3.2, cond_true, Lib.rs_len, Lib.re_len, List.length_append]
   rw [show decide (((w.length + m.length : Nat) : Int) = (en.length : Int)) = decide (w.length + m.length = en.length) by rw [decide_eq_decide]; omega]
   cases pOk w m s a <;> rfl) Lib.big (Lib.lt_big (by omega))
 refine key.trans ?_
 unfold eOk
 cases (List.range en.length).all (eAt en w m) <;> rfl
end Go.FG.U97

namespace Go.FG.A_OneEach
def op (r : Row) (i : Nat) : Bool := decide (cvI (cellAt r i 2) = 1)
def g (r : Row) (i j : Nat) : Bool := !(op r i && (op r j && List.beq (ByteArray.toList (cvS (cellAt r i 0))) (ByteArray.toList (cvS (cellAt r j 0)))))
def val (r : Row) : Bool := (List.range r.length).all fun i => (List.range i).all (g r i)
end Go.FG.A_OneEach

namespace Go.FG.U164
def p (s0 : Row) (key1 : ByteArray) (i : Nat) : Bool := U165.v (cvS (cellAt s0 i 0)) (cvS (cellAt s0 i 1)) (cvI (cellAt s0 i (1 + 1))) (cvI (cellAt s0 i (1 + 1 + 1))) (cvI (cellAt s0 i (1 + 1 + 1 + 1))) key1
theorem ok (s0 : Row) (key1 : ByteArray) (hl : s0.length <= 4294967296) : c s0 key1 = true /\ v s0 key1 = Lib.fi (p s0 key1) s0.length 0 := by
 refine out s0 key1 ?_
 unfold vo b
 refine Lib.fi_gen (p s0 key1) s0.length (fun m (i : Nat) => l2 Lib.big (fun (_ : Row) (_ : ByteArray) (y7 _ _ : Int) => some y7) (fun (_ : Row) (_ : ByteArray) (_ _ _ : Int) => some (-1)) m s0 key1 0 (s0.length : Int) (i : Int)) some (fun m i hi hp => ?_) (fun m i hi hp => ?_) (fun m => ?_) Lib.big (Lib.lt_big (by omega))
 ·unfold p at hp
  simp only [l2, r2, Lib.dlt, Lib.dle0, Lib.toN, hi, decide_true, Bool.and_self, cond_true, hp]
 ·unfold p at hp
  simp only [l2, r2, Lib.dlt, Lib.dle0, Lib.toN, hi, decide_true, Bool.and_self, cond_true, hp, cond_false, Lib.w64_s hi (by omega : s0.length <= 9223372036854775807)]
 ·simp only [l2, r2, Lib.dlt, Nat.lt_irrefl, decide_false, cond_false]
end Go.FG.U164

namespace Go.FG.U71
theorem ok (i0 : Int) (r1 r2 r3 r4 : Row) (i5 : Int) (r6 r7 : Row) (i8 : Int) (key : ByteArray) (hl : r6.length <= 4294967296) : c i0 r1 r2 r3 r4 i5 r6 r7 i8 key = true /\ v i0 r1 r2 r3 r4 i5 r6 r7 i8 key = Lib.fi (U164.p r6 key) r6.length 0 := by
 have h := U164.ok r6 key hl
 exact out _ _ _ _ _ _ _ _ _ _ (by unfold vo b; rw [h.1, h.2, cond_true])
end Go.FG.U71

namespace Go.FG.U120
def q (r : Row) (i : Nat) : Bool := !(A_OneEach.op r i && (Lib.fi (U164.p r (cvS (cellAt r i 0))) r.length 0 != (i : Int)))
theorem same (r : Row) (i : Nat) (hi : i < r.length) : q r i = (List.range i).all (A_OneEach.g r i) := by
 unfold q
 cases ho : A_OneEach.op r i with
 | false =>
  symm
  rw [Bool.false_and, Bool.not_false, List.all_eq_true]
  intro j _
  unfold A_OneEach.g
  rw [ho]; rfl
 | true =>
  rw [Bool.true_and]
  have hp : ∀ j, U164.p r (cvS (cellAt r i 0)) j = !A_OneEach.g r i j := by
   intro j
   unfold U164.p U165.v A_OneEach.g
   rw [ho, Bool.true_and, Bool.not_not, Lib.beq_ba, Lib.beq_ba]
   unfold A_OneEach.op
   rw [show decide (cvS (cellAt r j 0) = cvS (cellAt r i 0)) = decide (cvS (cellAt r i 0) = cvS (cellAt r j 0)) from by rw [decide_eq_decide]; exact eq_comm]
   cases decide (cvS (cellAt r i 0) = cvS (cellAt r j 0)) <;> simp
  have hpi : U164.p r (cvS (cellAt r i 0)) i = true := by
   rw [hp]
   unfold A_OneEach.g
   rw [ho, Lib.beq_ba]; simp
  rcases Lib.fi_rng (U164.p r (cvS (cellAt r i 0))) r.length 0 with ⟨_, h2⟩ | ⟨k, h1, h2, h3, h4, h5⟩
  ·have := h2 i (Nat.zero_le _) (by omega)
   rw [hpi] at this; cases this
  ·rw [h3]
   by_cases hk : k = i
   ·subst hk
    rw [bne_self_eq_false, Bool.not_false]
    symm
    rw [List.all_eq_true]
    intro j hj
    have := h5 j (Nat.zero_le _) (by simpa using hj)
    rw [hp] at this; simpa using this
   ·have hlt : k < i := by
     rcases Nat.lt_or_ge k i with h | h
     ·exact h
     ·have := h5 i (Nat.zero_le _) (by omega)
      rw [hpi] at this; cases this
    rw [show ((k : Int) != (i : Int)) = true from by simp; omega, Bool.not_true]
    symm
    rw [List.all_eq_false]
    refine ⟨k, by simpa using hlt, ?_⟩
    rw [hp] at h4
    simpa using h4
theorem ok (i0 : Int) (p1 p2 p3 p4 : Row) (i5 : Int) (p6 p7 : Row) (i8 : Int) (hl : p6.length <= 4294967296) : c i0 p1 p2 p3 p4 i5 p6 p7 i8 = true /\ v i0 p1 p2 p3 p4 i5 p6 p7 i8 = A_OneEach.val p6 := by
 refine out _ _ _ _ _ _ _ _ _ ?_
 unfold vo b
 have hw : ∀ i, i < p6.length -> w64 ((i : Int) + 1) = ((i + 1 : Nat) : Int) := fun i h => Lib.w64_s h (by omega)
 have ho := fun key => U71.ok i0 p1 p2 p3 p4 i5 p6 p7 i8 key hl
 have key := Lib.all_gen (q p6) p6.length (fun m (i : Nat) => l2 Lib.big (fun (y13 : Bool) (_ : Row) (_ _ _ : Int) (_ _ _ _ : Row) (_ : Int) (_ _ : Row) (_ : Int) => some y13) (fun (_ : Bool) (_ : Row) (_ _ _ : Int) (_ _ _ _ : Row) (_ : Int) (_ _ : Row) (_ : Int) => some true) m false p6 (p6.length : Int) (i : Int) i0 p1 p2 p3 p4 i5 p6 p7 i8) (some false) (some true)
  (fun m i hi hp => by
   unfold q A_OneEach.op at hp
   cases e1 : decide (cvI (cellAt p6 i (1 + 1)) = 1) with
   | false => simp only [l2, r2, Lib.dlt, hi, decide_true, Lib.dle0, Bool.and_self, cond_true, Lib.toN, e1, cond_false, hw i hi]
   | true =>
    rw [show decide (cvI (cellAt p6 i 2) = 1) = true from e1, Bool.true_and, Bool.not_eq_true'] at hp
    simp only [l2, r2, Lib.dlt, hi, decide_true, Lib.dle0, Bool.and_self, cond_true, Lib.toN, e1, (ho _).1, (ho _).2, hp, cond_false, hw i hi])
  (fun m i hi hp => by
   unfold q A_OneEach.op at hp
   rw [Bool.not_eq_false', Bool.and_eq_true] at hp
   obtain ⟨e1, e2⟩ := hp
   have e1 : decide (cvI (cellAt p6 i (1 + 1)) = 1) = true := e1
   simp only [l2, r2, Lib.dlt, hi, decide_true, Lib.dle0, Bool.and_self, cond_true, Lib.toN, e1, (ho _).1, (ho _).2, e2])
  (fun m => by simp only [l2, r2, Lib.dlt, Nat.lt_irrefl, decide_false, cond_false]) Lib.big (Lib.lt_big (by omega))
 refine key.trans ?_
 rw [Lib.all_congr (fun i hi => same p6 i hi)]
 unfold A_OneEach.val
 cases (List.range p6.length).all fun i => (List.range i).all (A_OneEach.g p6 i) <;> rfl
end Go.FG.U120

namespace Go.FG.U98
open Lib (rf el Fe wf0 wf1 wf2 wf2' wf3 wf4)
open U134 (fOk apart sameO)
theorem in_dec (n a b : Int) : U63.v n a b = decide (a <= n /\ n <= b) := U147.in_dec n a b
theorem one (fe : List Fe) : A_OneEach.val (rf fe) = (List.range fe.length).all (apart fe) := by
 unfold A_OneEach.val
 rw [Lib.rf_len]
 refine Lib.all_congr (fun i hi => ?_)
 unfold apart
 refine Lib.all_congr (fun j hj => ?_)
 have hjl : j < fe.length := by omega
 unfold A_OneEach.g A_OneEach.op sameO
 rw [wf0 hi, wf0 hjl, wf2' hi, wf2' hjl]
 simp only [cvS, cvI, Lib.beq_ba]
 rfl
theorem ok (i0 : Int) (u1 u2 u3 u4 : Row) (i5 : Int) (fe : List Fe) (u7 : Row) (i8 : Int) (hf : fe.length <= 1048576) :
  c i0 u1 u2 u3 u4 i5 (rf fe) u7 i8 = true /\ v i0 u1 u2 u3 u4 i5 (rf fe) u7 i8 = ((List.range fe.length).all (fun i => fOk i0 (el fe i)) && (decide (fe.length <= 20) && (List.range fe.length).all (apart fe))) := by
 refine out _ _ _ _ _ _ _ _ _ ?_
 have h1 := U120.ok i0 u1 u2 u3 u4 i5 (rf fe) u7 i8 (by rw [Lib.rf_len]; omega)
 rw [one] at h1
 unfold vo b
 rw [Lib.rf_len]
 have key := Lib.all_gen (fun i => fOk i0 (el fe i)) fe.length (fun n (i : Nat) => l2 Lib.big (fun (y13 : Bool) (_ : Row) (_ _ _ : Int) (_ _ _ _ : Row) (_ : Int) (_ _ : Row) (_ : Int) => some y13) (fun (_ : Bool) (_ : Row) (_ _ y30 : Int) (y31 y32 y33 y34 : Row) (y35 : Int) (y36 y37 : Row) (y38 : Int) => bif (decide ((↑(List.length y36) : Int) <= 20)) then (bif (U120.c y30 y31 y32 y33 y34 y35 y36 y37 y38) then (some (U120.v y30 y31 y32 y33 y34 y35 y36 y37 y38)) else (none)) else (some false)) n false (rf fe) (fe.length : Int) (i : Int) i0 u1 u2 u3 u4 i5 (rf fe) u7 i8) (some false) (some (decide (fe.length <= 20) && (List.range fe.length).all (apart fe)))
  (fun n i hi hq => by
   unfold fOk at hq
   simp only [Bool.and_eq_true] at hq
   obtain ⟨q1, q2, q3, q4, q5⟩ := hq
   have e1 : decide (((el fe i).t.size : Int) > 400) = !decide (((el fe i).t.size : Int) <= 400) := by rw [<- decide_not, decide_eq_decide]; omega
   simp only [l2, r2, Lib.rf_len, Lib.dlt, hi, decide_true, Lib.dle0, Bool.and_self, cond_true, Lib.toN, wf0 hi, wf1 hi, wf2 hi, wf3 hi, wf4 hi, cvS, cvI, in_dec, U159.key_dec, e1, q1, q2, q3, q4, q5, Bool.not_true, cond_false, Lib.w64_s hi (by omega : fe.length <= 9223372036854775807)])
  (fun n i hi hq => by
   unfold fOk at hq
   have e1 : decide (((el fe i).t.size : Int) > 400) = !decide (((el fe i).t.size : Int) <= 400) := by rw [<- decide_not, decide_eq_decide]; omega
   simp only [l2, r2, Lib.rf_len, Lib.dlt, hi, decide_true, Lib.dle0, Bool.and_self, cond_true, Lib.toN, wf0 hi, wf1 hi, wf2 hi, wf3 hi, wf4 hi, cvS, cvI, in_dec, U159.key_dec, e1]
   revert hq
   cases U142.keyOk (el fe i).k <;> cases decide (((el fe i).t.size : Int) <= 400) <;> cases decide (1 <= (el fe i).sta /\ (el fe i).sta <= 3) <;> cases decide (0 <= (el fe i).li /\ (el fe i).li <= 999999) <;> cases decide (0 <= (el fe i).st /\ (el fe i).st <= i0) <;> intro hq <;> first | rfl | cases hq)
  (fun n => by
   simp only [l2, r2, Lib.dlt, Nat.lt_irrefl, decide_false, cond_false, Lib.rf_len, h1.1, h1.2, cond_true]
   rw [show decide ((fe.length : Int) <= 20) = decide (fe.length <= 20) by rw [decide_eq_decide]; omega]
   cases decide (fe.length <= 20) <;> rfl) Lib.big (Lib.lt_big (by omega))
 refine key.trans ?_
 cases (List.range fe.length).all (fun i => fOk i0 (el fe i)) <;> rfl
end Go.FG.U98

namespace Go.FG.U99
open Lib (rf rc el Fe Cl wc0 wc1 wc2 wc3 wc4 wc5 wc6)
open U142 (keyOk)
open U43 (cAt)
open U98 (in_dec)
theorem step {R : Type} (N : Nat) (g k0 k1 : Bool -> Row -> Int -> Int -> Int -> Row -> Row -> Row -> Row -> Int -> Row -> Row -> Int -> Option R) (i0 : Int) (q1 q2 q3 q4 : Row) (i5 : Int) (fe : List Fe) (cl : List Cl) (i8 : Int) (i : Nat) (hi : i < cl.length) (hl : cl.length <= 1048576) :
  r2 N g k0 k1 false (rc cl) cl.length (i : Int) i0 q1 q2 q3 q4 i5 (rf fe) (rc cl) i8 = bif cAt i0 fe.length cl i then g false (rc cl) cl.length ((i + 1 : Nat) : Int) i0 q1 q2 q3 q4 i5 (rf fe) (rc cl) i8 else k0 false (rc cl) cl.length (i : Int) i0 q1 q2 q3 q4 i5 (rf fe) (rc cl) i8 := by
 unfold cAt
 have e1 : decide (((el cl i).got.size : Int) > 400) = !decide (((el cl i).got.size : Int) <= 400) := by rw [<- decide_not, decide_eq_decide]; omega
 have e2 : decide ((el cl i).age < 0) = !decide (0 <= (el cl i).age) := by rw [<- decide_not, decide_eq_decide]; omega
 by_cases hz : i = 0
 ·subst hz
  simp only [r2, Lib.rc_len, Lib.rf_len, Lib.dlt, hi, decide_true, Lib.dle0, Bool.and_self, cond_true, Lib.toN, wc0 hi, wc1 hi, wc2 hi, wc3 hi, wc4 hi, wc5 hi, wc6 hi, cvS, cvI, in_dec, U159.key_dec, decide_eq_false (show ¬ (((0 : Nat) : Int) > 0) by omega), cond_false, e1, e2, Lib.w64_s hi (by omega : cl.length <= 9223372036854775807), Bool.true_or, Bool.true_and]
  cases decide (1 <= (el cl 0).id /\ (el cl 0).id <= 9) <;> cases keyOk (el cl 0).k <;> cases decide (1 <= (el cl 0).sta /\ (el cl 0).sta <= 3) <;> cases decide (0 <= (el cl 0).fe /\ (el cl 0).fe <= (fe.length : Int)) <;> cases decide (((el cl 0).got.size : Int) <= 400) <;> cases decide (0 <= (el cl 0).fr /\ (el cl 0).fr <= i0) <;> cases decide (0 <= (el cl 0).age) <;> rfl
 ·have hi1 : i - 1 < cl.length := by omega
  have e3 : decide ((el cl (i - 1)).id ≥ (el cl i).id) = !decide ((el cl (i - 1)).id < (el cl i).id) := by rw [<- decide_not, decide_eq_decide]; omega
  simp only [r2, Lib.rc_len, Lib.rf_len, Lib.dlt, hi, decide_true, Lib.dle0, Bool.and_self, cond_true, Lib.toN, wc0 hi, wc1 hi, wc2 hi, wc3 hi, wc4 hi, wc5 hi, wc6 hi, cvS, cvI, in_dec, U159.key_dec, decide_eq_true (show (i : Int) > 0 by omega), Lib.pred_nat (show 0 < i by omega) (by omega), hi1, wc0 hi1, cond_false, e1, e2, e3, Lib.w64_s hi (by omega : cl.length <= 9223372036854775807), decide_eq_false hz, Bool.false_or]
  cases decide (1 <= (el cl i).id /\ (el cl i).id <= 9) <;> cases decide ((el cl (i - 1)).id < (el cl i).id) <;> cases keyOk (el cl i).k <;> cases decide (1 <= (el cl i).sta /\ (el cl i).sta <= 3) <;> cases decide (0 <= (el cl i).fe /\ (el cl i).fe <= (fe.length : Int)) <;> cases decide (((el cl i).got.size : Int) <= 400) <;> cases decide (0 <= (el cl i).fr /\ (el cl i).fr <= i0) <;> cases decide (0 <= (el cl i).age) <;> rfl
theorem ok (i0 : Int) (q1 q2 q3 q4 : Row) (i5 : Int) (fe : List Fe) (cl : List Cl) (i8 : Int) (hl : cl.length <= 1048576) :
  c i0 q1 q2 q3 q4 i5 (rf fe) (rc cl) i8 = true /\ v i0 q1 q2 q3 q4 i5 (rf fe) (rc cl) i8 = ((List.range cl.length).all (cAt i0 fe.length cl) && decide (cl.length <= 6)) := by
 refine out _ _ _ _ _ _ _ _ _ ?_
 unfold vo b
 rw [Lib.rc_len]
 have key := Lib.all_gen (cAt i0 fe.length cl) cl.length (fun n (i : Nat) => l2 Lib.big (fun (y13 : Bool) (_ : Row) (_ _ _ : Int) (_ _ _ _ : Row) (_ : Int) (_ _ : Row) (_ : Int) => some y13) (fun (_ : Bool) (_ : Row) (_ _ _ : Int) (_ _ _ _ : Row) (_ : Int) (_ y37 : Row) (_ : Int) => some (decide ((↑(List.length y37) : Int) <= 6))) n false (rc cl) (cl.length : Int) (i : Int) i0 q1 q2 q3 q4 i5 (rf fe) (rc cl) i8) (some false) (some (decide (cl.length <= 6)))
  (fun n i hi hq => by
   simp only [l2]
   rw [step _ _ _ _ _ _ _ _ _ _ _ _ _ i hi hl, hq]; rfl)
  (fun n i hi hq => by
   simp only [l2]
   rw [step _ _ _ _ _ _ _ _ _ _ _ _ _ i hi hl, hq]; rfl)
  (fun n => by
   simp only [l2, r2, Lib.dlt, Nat.lt_irrefl, decide_false, cond_false, Lib.rc_len]
   rw [show decide ((cl.length : Int) <= 6) = decide (cl.length <= 6) by rw [decide_eq_decide]; omega]) Lib.big (Lib.lt_big (by omega))
 refine key.trans ?_
 cases (List.range cl.length).all (cAt i0 fe.length cl) <;> rfl
end Go.FG.U99

namespace Go.FG.U25
open Lib (rr rs re rf rc el En Fe Cl Px)
open U133 (eOk)
open U134 (fOk apart)
open U43 (cAt pxOk)
theorem ok (p : Px) (hp : p.Fit 1048576) : c p.now (re p.en) (rs p.w) (rs p.m) (rr p.s) p.a (rf p.fe) (rc p.cl) p.hits = true /\ v p.now (re p.en) (rs p.w) (rs p.m) (rr p.s) p.a (rf p.fe) (rc p.cl) p.hits = pxOk p := by
 refine out _ _ _ _ _ _ _ _ _ ?_
 have h1 := U97.ok p.now p.en p.w p.m p.s p.a (rf p.fe) (rc p.cl) p.hits hp.en hp.w hp.m ⟨hp.s.1, hp.s.2.1⟩
 have h2 := U98.ok p.now (re p.en) (rs p.w) (rs p.m) (rr p.s) p.a p.fe (rc p.cl) p.hits hp.fe
 have h3 := U99.ok p.now (re p.en) (rs p.w) (rs p.m) (rr p.s) p.a p.fe p.cl p.hits hp.cl
 unfold vo b pxOk
 have e1 : ∀ n a b, U63.v n a b = decide (a <= n /\ n <= b) := fun n a b => U147.in_dec n a b
 have e2 : U100.v p.hits = decide (0 <= p.hits /\ p.hits <= 1000000000) := e1 p.hits 0 1000000000
 rw [e1, e2, h1.1, h1.2, h2.1, h2.2, h3.1, h3.2, Lib.all_and]
 cases decide (1 <= p.now /\ p.now <= 1000000000) <;> cases eOk p.en p.w p.m p.s p.a <;> cases decide (p.fe.length <= 20) <;> cases decide (p.cl.length <= 6) <;> cases decide (0 <= p.hits /\ p.hits <= 1000000000) <;> cases (List.range p.fe.length).all (fun i => fOk p.now (el p.fe i)) <;> cases (List.range p.fe.length).all (apart p.fe) <;> cases (List.range p.cl.length).all (cAt p.now p.fe.length p.cl) <;> rfl
end Go.FG.U25

namespace Go.FG.U156a
def p (s : Row) (k : Int) (i : Nat) : Bool := decide (cvI (cellAt s i 0) = k)
theorem ok (d : Row) (n : Int) (hl : d.length <= 4294967296) : c d n = true /\ v d n = Lib.fi (p d n) d.length 0 := by
 refine out d n ?_
 unfold vo b
 refine Lib.fi_gen (p d n) d.length (fun m (i : Nat) => l2 Lib.big (fun (_ : Row) (_ : Int) (y7 _ _ : Int) => some y7) (fun (_ : Row) (_ : Int) (_ _ _ : Int) => some (-1)) m d n 0 (d.length : Int) (i : Int)) some (fun m i hi hp => ?_) (fun m i hi hp => ?_) (fun m => ?_) Lib.big (Lib.lt_big (by omega))
 ·unfold p at hp
  simp only [l2, r2, Lib.dlt, Lib.dle0, Lib.toN, hi, decide_true, Bool.and_self, cond_true, U157.v, hp]
 ·unfold p at hp
  simp only [l2, r2, Lib.dlt, Lib.dle0, Lib.toN, hi, decide_true, Bool.and_self, cond_true, U157.v, hp, cond_false, Lib.w64_s hi (by omega : d.length <= 9223372036854775807)]
 ·simp only [l2, r2, Lib.dlt, Nat.lt_irrefl, decide_false, cond_false]
end Go.FG.U156a

namespace Go.FG.U65
open Lib (rc el Cl)
open A_Ask (hasId)
theorem ok (i0 : Int) (r1 r2 r3 r4 : Row) (i5 : Int) (r6 : Row) (cl : List Cl) (i8 id : Int) (hl : cl.length <= 1048576) : c i0 r1 r2 r3 r4 i5 r6 (rc cl) i8 id = true /\ decide (v i0 r1 r2 r3 r4 i5 r6 (rc cl) i8 id ≥ 0) = hasId cl id := by
 have h := U156a.ok (rc cl) id (by rw [Lib.rc_len]; omega)
 have o := out i0 r1 r2 r3 r4 i5 r6 (rc cl) i8 id (by unfold vo b; rw [h.1, h.2, cond_true])
 refine ⟨o.1, ?_⟩
 rw [o.2, Lib.rc_len]
 exact A_Ask.fi_any cl (fun x => decide (x.id = id)) _ fun i hi => by
  unfold U156a.p
  rw [Lib.wc0 hi, Lib.el_eq hi]; rfl
end Go.FG.U65

namespace Go.FG.U66a
def p (s : Row) (k : ByteArray) (i : Nat) : Bool := List.beq (ByteArray.toList (cvS (cellAt s i 0))) (ByteArray.toList k)
theorem ok (d : Row) (n : ByteArray) (hl : d.length <= 4294967296) : c d n = true /\ v d n = Lib.fi (p d n) d.length 0 := by
 refine out d n ?_
 unfold vo b
 refine Lib.fi_gen (p d n) d.length (fun m (i : Nat) => l2 Lib.big (fun (_ : Row) (_ : ByteArray) (y7 _ _ : Int) => some y7) (fun (_ : Row) (_ : ByteArray) (_ _ _ : Int) => some (-1)) m d n 0 (d.length : Int) (i : Int)) some (fun m i hi hp => ?_) (fun m i hi hp => ?_) (fun m => ?_) Lib.big (Lib.lt_big (by omega))
 ·unfold p at hp
  simp only [l2, r2, Lib.dlt, Lib.dle0, Lib.toN, hi, decide_true, Bool.and_self, cond_true, U67.v, hp]
 ·unfold p at hp
  simp only [l2, r2, Lib.dlt, Lib.dle0, Lib.toN, hi, decide_true, Bool.and_self, cond_true, U67.v, hp, cond_false, Lib.w64_s hi (by omega : d.length <= 9223372036854775807)]
 ·simp only [l2, r2, Lib.dlt, Nat.lt_irrefl, decide_false, cond_false]
end Go.FG.U66a

namespace Go.FG.U253
theorem in6 {R : Type} (N : Nat) (K : Int -> ByteArray -> Int -> Int -> Option R) (a : ByteArray) (b : Int) : ∀ (d n i : Nat) (x : Int), d + i = 8 -> d < n -> l6 N K n x a b (i : Int) = K (U250.rds d x) a b 8 := by
 intro d
 induction d with
 | zero =>
  intro n i x h1 h2
  obtain ⟨n, rfl⟩ : ∃ m, n = m + 1 := ⟨n - 1, by omega⟩
  have : i = 8 := by omega
  subst this
  rfl
 | succ d ih =>
  intro n i x h1 h2
  obtain ⟨n, rfl⟩ : ∃ m, n = m + 1 := ⟨n - 1, by omega⟩
  have hi1 : w64 ((i : Int) + 1) = ((i + 1 : Nat) : Int) := Lib.w64_ok (by omega) (by omega)
  rw [U250.rds, <- ih n (i + 1) (U250.rd x) (by omega) (by omega)]
  simp only [l6, r6, decide_eq_true (show (i : Int) < 8 by omega), cond_true, hi1, U250.rd]
  cases decide (Int.tmod x 2 = 1) <;> rfl
theorem run (s : Int) (t : ByteArray) (ht : t.size <= 4611686018427387904) : vo s t = some (U250.su t t.size 0 s) := by
 unfold vo b
 have key : ∀ (d n i : Nat) (s : Int), d + i = t.size -> d < n -> l2 Lib.big (fun (y11 : Int) (_ : ByteArray) (_ : Int) => some y11) n s t (i : Int) = some (U250.su t d i s) := by
  intro d
  induction d with
  | zero =>
   intro n i s h1 h2
   obtain ⟨n, rfl⟩ : ∃ m, n = m + 1 := ⟨n - 1, by omega⟩
   simp only [l2, r2, Lib.dlt, decide_eq_false (show ¬ i < t.size by omega), cond_false]; rfl
  | succ d ih =>
   intro n i s h1 h2
   obtain ⟨n, rfl⟩ : ∃ m, n = m + 1 := ⟨n - 1, by omega⟩
   have hi1 : w64 ((i : Int) + 1) = ((i + 1 : Nat) : Int) := Lib.w64_ok (by omega) (by omega)
   simp only [l2, r2, Lib.dlt, decide_eq_true (show i < t.size by omega), Lib.dle0, Bool.and_self, cond_true, Lib.toN]
   have e := in6 (R := Int) Lib.big (fun y7 y8 y9 _ => l2 Lib.big (fun y11 _ _ => some y11) n y7 y8 (w64 (y9 + 1))) t (i : Int) 8 Lib.big 0 (IntKind.wrap IntKind.u32 (↑(BitVec.toNat (BitVec.xor (BitVec.ofInt 32 s) (BitVec.ofInt 32 (IntKind.wrap IntKind.u32 (↑(btN t i) : Int))))) : Int)) rfl (by unfold Lib.big; omega)
   refine e.trans ?_
   rw [hi1, ih n (i + 1) _ (by omega) (by omega)]; rfl
 exact key t.size Lib.big 0 s (by omega) (Lib.lt_big (by omega))
theorem ok (s : Int) (t : ByteArray) (ht : t.size <= 4611686018427387904) : c s t = true /\ v s t = U250.su t t.size 0 s := out s t (run s t ht)
end Go.FG.U253

namespace Go.FG.U224
theorem ok (t : ByteArray) (ht : t.size <= 4611686018427387904) : c t = true /\ v t = U250.su t t.size 0 4294967295 := by
 have h := U253.ok 4294967295 t ht
 refine out t ?_
 unfold vo b
 rw [h.1, h.2]; rfl
end Go.FG.U224

namespace Go.FG.U170
theorem ok (i : Nat) (key : ByteArray) (hi : i < 3) (hk : key.size <= 140737488355328) : c (i : Int) key = true /\ v (i : Int) key = (U148.pl i key : Int) := by
 refine out _ _ ?_
 unfold vo b
 have e : (key ++ bytesOf (List.set (zeros [Ck.i IntKind.u8] 1) 0 [CV.i IntKind.u8 (IntKind.wrap IntKind.u8 (w64 (↑(BitVec.toNat (BitVec.and (BitVec.ofInt 64 (i : Int)) (BitVec.ofInt 64 255))) : Int)))])) = U148.keyed i key := by
  unfold U148.keyed
  match i, hi with
  | 0, _ => rfl
  | 1, _ => rfl
  | 2, _ => rfl
 have hs := U148.size_keyed i key
 have h := U224.ok (U148.keyed i key) (by omega)
 have e2 : ByteArray.size key + ByteArray.size (bytesOf (List.set (zeros [Ck.i IntKind.u8] 1) 0 [CV.i IntKind.u8 (IntKind.wrap IntKind.u8 (w64 (↑(BitVec.toNat (BitVec.and (BitVec.ofInt 64 (i : Int)) (BitVec.ofInt 64 255))) : Int)))])) = key.size + 1 := by rw [Lib.set1, Lib.size_1]
 rw [e2, e, decide_eq_true (by omega), cond_true, h.1, h.2, cond_true]
 have hp := U148.pl_int i key
 have hl := U148.pl_lt i key
 have hr := U148.sm_rng i key
 unfold U148.sm at hp hr
 rw [Lib.w64_ok (by omega) (by omega), hp]
end Go.FG.U170

namespace Go.FG.U74
open Lib (rr ri)
open U57 (fR bq bump half cellR setI setR getD_of ok_open bump_fit)
theorem run5 {R : Type} (K : ByteArray -> Int -> Int -> Int -> Int -> Row -> Option R) (s : List (List Int)) (key : ByteArray) (y a : Int) (hs : s.length = 3) (hq : ∀ q ∈ s, q.length = 16 /\ ∀ n ∈ q, 0 <= n /\ n <= 15) (hk : key.size <= 140737488355328) :
  l5 Lib.big K Lib.big key 3 0 y a (rr s) = K key 3 3 y a (rr (bump s key)) := by
 refine (Lib.upd_run fR s (fun i q => bq (U148.pl i key) q) (fun m (i : Nat) x => l5 Lib.big K m key 3 (i : Int) y a x) (fun x => K key 3 3 y a x) (fun m i L h h2 hL hLi => ?_) (fun m L hL => ?_) Lib.big (Lib.lt_big (by omega)))
 ·have hp := U170.ok i key (by omega) hk
  have hpl := U148.pl_lt i key
  obtain ⟨h16, hn⟩ := hq _ (List.getElem_mem h)
  have e0 : cellAt (L.map fR) i 0 = CV.l 3 (ri s[i]) := by rw [cellR L i h2, hLi]
  have hb : U148.pl i key < s[i].length := by omega
  have hx := hn _ (List.getElem_mem hb)
  have e3 : decide ((i : Int) < 3) = true := decide_eq_true (by omega)
  simp only [l5, r5, List.length_map, Lib.dlt, h2, e3, decide_true, cond_true, hp.1, hp.2, Lib.dle0, Bool.and_self, Lib.toN, e0, cvL, Lib.ri_len, h16, hpl, Lib.ri0 hb, cvI]
  unfold bq minmax
  rw [getD_of hb, cond_false, Lib.w64_ok (x := s[i][U148.pl i key] + 1) (by omega) (by omega)]
  by_cases hd : s[i][U148.pl i key] < 15
  ·rw [if_neg (by omega), decide_eq_true hd, cond_true, setI _ _ _ hb, setR _ _ _ h2, Lib.w64_s h2 (by omega)]
  ·have e15 : s[i][U148.pl i key] = 15 := by omega
   rw [if_pos (by omega), decide_eq_false hd, cond_false, e15, setI _ _ _ hb, setR _ _ _ h2, Lib.w64_s h2 (by omega)]
 ·have e3 : decide ((s.length : Int) < 3) = false := decide_eq_false (by omega)
  simp only [l5, r5, e3, cond_false, hs]; rfl
theorem run18 {R : Type} (K : Nat -> Int -> Int -> Int -> Int -> Int -> Int -> Row -> Option R) (L : List (List Int)) (i : Nat) (h : i < L.length) (u w y a : Int) (hl : L.length <= 1048576) (hq : L[i].length = 16) (hn : ∀ n ∈ L[i], 0 <= n /\ n <= 15) :
  l18 Lib.big K Lib.big i u w 16 0 y a (L.map fR) = K i u w 16 16 y a ((L.set i (L[i].map fun n => Int.tdiv n 2)).map fR) := by
 have hmi : L[i].mapIdx (fun _ n => Int.tdiv n 2) = L[i].map fun n => Int.tdiv n 2 := by
  apply List.ext_getElem <;> simp
 have key := Lib.for_run (L[i].length) (fun m (k : Nat) x => l18 Lib.big K m i u w 16 (k : Int) y a x) (fun k => (L.set i (Lib.updL L[i] (fun _ n => Int.tdiv n 2) k)).map fR) (K i u w 16 16 y a ((L.set i (L[i].map fun n => Int.tdiv n 2)).map fR)) (fun m k hk => ?_) (fun m => ?_) Lib.big 0 (Nat.zero_le _) (Lib.lt_big (by omega))
 ·rw [Lib.updL_0, List.set_getElem_self] at key; exact key
 ·have hu := Lib.updL_len L[i] (fun _ n => Int.tdiv n 2) k (by omega)
  generalize hU : Lib.updL L[i] (fun _ n => Int.tdiv n 2) k = U at hu
  have hku : k < U.length := by omega
  have hat : U[k] = L[i][k] := by subst hU; exact Lib.updL_at _ _ _ hk _
  have hset : U.set k (Int.tdiv L[i][k] 2) = Lib.updL L[i] (fun _ n => Int.tdiv n 2) (k + 1) := by subst hU; exact Lib.updL_set L[i] (fun _ n => Int.tdiv n 2) k hk
  have h2 : i < (L.set i U).length := by simpa using h
  have e0 : cellAt ((L.set i U).map fR) i 0 = CV.l 3 (ri U) := by rw [cellR _ _ h2, List.getElem_set_self]
  have hx := hn _ (List.getElem_mem hk)
  have ht : 0 <= Int.tdiv L[i][k] 2 := Int.tdiv_nonneg hx.1 (by omega)
  have ht2 : Int.tdiv L[i][k] 2 <= 15 := Int.le_trans (Int.tdiv_le_self _ hx.1) hx.2
  have e3 : decide ((k : Int) < 16) = true := decide_eq_true (by omega)
  simp only [l18, r18, List.length_map, List.length_set, Lib.dlt, h, hku, e3, decide_true, cond_true, Lib.dle0, Bool.and_self, Lib.toN, e0, cvL, Lib.ri_len, Lib.ri0 hku, cvI, hat]
  rw [Lib.w64_ok (x := Int.tdiv L[i][k] 2) (by omega) (by omega), setI _ _ _ hku, setR _ _ _ h2, hset, List.set_set, Lib.w64_s hk (by omega)]
 ·have e3 : decide ((L[i].length : Int) < 16) = false := decide_eq_false (by omega)
  simp only [l18, r18, e3, cond_false]
  rw [Lib.updL_end, hmi, hq]; rfl
theorem run15 {R : Type} (K : Int -> Int -> Int -> Int -> Row -> Option R) (s : List (List Int)) (y a : Int) (hs : s.length = 3) (hq : ∀ q ∈ s, q.length = 16 /\ ∀ n ∈ q, 0 <= n /\ n <= 15) :
  l15 Lib.big K Lib.big 3 0 y a (rr s) = K 3 3 y a (rr (half s)) := by
 have hmi : s.mapIdx (fun _ q => q.map fun n => Int.tdiv n 2) = half s := by
  unfold half; apply List.ext_getElem <;> simp
 rw [<- hmi]
 refine (Lib.upd_run fR s (fun _ q => q.map fun n => Int.tdiv n 2) (fun m (i : Nat) x => l15 Lib.big K m 3 (i : Int) y a x) (fun x => K 3 3 y a x) (fun m i L h h2 hL hLi => ?_) (fun m L hL => ?_) Lib.big (Lib.lt_big (by omega)))
 ·obtain ⟨h16, hn⟩ := hq _ (List.getElem_mem h)
  have e3 : decide ((i : Int) < 3) = true := decide_eq_true (by omega)
  have e0 : cellAt (L.map fR) i 0 = CV.l 3 (ri s[i]) := by rw [cellR L i h2, hLi]
  simp only [l15, r15, List.length_map, Lib.dlt, h2, e3, decide_true, cond_true, Lib.dle0, Bool.and_self, Lib.toN, e0, cvL, Lib.ri_len, h16]
  rw [show ((16 : Nat) : Int) = 16 from rfl, run18 _ L i h2 3 i y a (by omega) (by rw [hLi]; exact h16) (by rw [hLi]; exact hn), Lib.w64_s h2 (by omega), hLi]
 ·have e3 : decide ((s.length : Int) < 3) = false := decide_eq_false (by omega)
  simp only [l15, r15, e3, cond_false, hs]; rfl
theorem ok (s : List (List Int)) (a : Int) (key : ByteArray) (hf : U168.fitS s) (hk : key.size <= 140737488355328) : c (rr s) a key = true /\ v (rr s) a key = (rr (U57.val s a key).1, (U57.val s a key).2) := by
 refine out _ _ _ ?_
 have h1 := U168.ok s a hf
 have h2 := U169.ok s a hf
 unfold vo b U57.val
 rw [h1.1, h1.2, h2.1, h2.2, cond_true, cond_true]
 cases hok : U147.skOk s a with
 | false => rfl
 | true =>
  obtain ⟨hs, ha, hq⟩ := ok_open hok
  obtain ⟨b1, b2⟩ := bump_fit (key := key) hs hq
  rw [Bool.not_true, cond_false, cond_true, Lib.rr_len, hs, show ((3 : Nat) : Int) = 3 from rfl, run5 _ s key _ _ hs hq hk, Lib.w64_ok (x := a + 1) (by omega) (by omega)]
  by_cases hd : a + 1 = 64
  ·rw [decide_eq_false (show ¬ a + 1 < 64 by omega), decide_eq_true hd, cond_true, cond_false, Lib.rr_len, b1, show ((3 : Nat) : Int) = 3 from rfl, run15 _ _ _ _ b1 b2]
  ·rw [decide_eq_true (show a + 1 < 64 by omega), decide_eq_false hd]; rfl
end Go.FG.U74

namespace Go.FG.U251
def p (s : Row) (k : ByteArray) (i : Nat) : Bool := List.beq (ByteArray.toList (cvS (cellAt s i 0))) (ByteArray.toList k)
theorem ok (d : Row) (n : ByteArray) (hl : d.length <= 4294967296) : c d n = true /\ v d n = Lib.fi (p d n) d.length 0 := by
 refine out d n ?_
 unfold vo b
 refine Lib.fi_gen (p d n) d.length (fun m (i : Nat) => l2 Lib.big (fun (_ : Row) (_ : ByteArray) (y7 _ _ : Int) => some y7) (fun (_ : Row) (_ : ByteArray) (_ _ _ : Int) => some (-1)) m d n 0 (d.length : Int) (i : Int)) some (fun m i hi hp => ?_) (fun m i hi hp => ?_) (fun m => ?_) Lib.big (Lib.lt_big (by omega))
 ·unfold p at hp
  simp only [l2, r2, Lib.dlt, Lib.dle0, Lib.toN, hi, decide_true, Bool.and_self, cond_true, U220.v, hp]
 ·unfold p at hp
  simp only [l2, r2, Lib.dlt, Lib.dle0, Lib.toN, hi, decide_true, Bool.and_self, cond_true, U220.v, hp, cond_false, Lib.w64_s hi (by omega : d.length <= 9223372036854775807)]
 ·simp only [l2, r2, Lib.dlt, Nat.lt_irrefl, decide_false, cond_false]
end Go.FG.U251

namespace Go.FG.U219
def cn (y : List CV) : Bool := match y with | [.s _] => true | _ => false
def cr (y : List CV) : List CV := [CV.s (cvS (y.getD 0 (.b false)))]
theorem cr_of {y : List CV} (h : cn y = true) : cr y = y := by
 unfold cn at h
 split at h
 ·rfl
 ·cases h
theorem len_of {y : List CV} (h : cn y = true) : y.length = 1 := by rw [<- cr_of h]; rfl
def keep (d : ByteArray) (y : List CV) : Bool := !List.beq (ByteArray.toList (cvS (y.getD 0 (.b false)))) (ByteArray.toList d)
theorem filter_succ (d : ByteArray) {s : Row} {i : Nat} (h : i < s.length) : (s.take (i + 1)).filter (keep d) = (s.take i).filter (keep d) ++ (bif keep d s[i] then [s[i]] else []) := by
 rw [List.take_succ_eq_append_getElem h, List.filter_append]
 cases hk : keep d s[i] <;> simp [hk]
theorem run {R : Type} (N : Nat) (s0 : Row) (d : ByteArray) (hc : s0.all cn = true) (hn : s0.length <= 9223372036854775807) (K : ByteArray -> Int -> Int -> Row -> Option R) (kr : Row -> Option R)
  (hK : ∀ (j : Nat) x, x.length = s0.length -> j <= s0.length -> K d j s0.length x = kr (x.take j)) (m j i : Nat) (x : Row)
  (hi : j < i /\ i <= s0.length /\ x.length = s0.length /\ (∀ y ∈ x, y.length = 1) /\ x.take j = (s0.take i).filter (keep d) /\ x.drop i = s0.drop i) (hm : s0.length - i < m) :
  l5 N K m d j i x = kr (s0.filter (keep d)) := by
 have hca : ∀ y ∈ s0, cn y = true := List.all_eq_true.1 hc
 refine Lib.loop_gen (fun m (s : Nat × Nat × Row) => l5 N K m d s.1 s.2.1 s.2.2) (fun s => s0.length - s.2.1)
  (fun s => s.1 < s.2.1 /\ s.2.1 <= s0.length /\ s.2.2.length = s0.length /\ (∀ y ∈ s.2.2, y.length = 1) /\ s.2.2.take s.1 = (s0.take s.2.1).filter (keep d) /\ s.2.2.drop s.2.1 = s0.drop s.2.1)
  (fun _ => kr (s0.filter (keep d))) (fun m s hs => ?_) m (j, i, x) hi hm
 obtain ⟨j, i, x⟩ := s
 obtain ⟨h1, h2, h3, h4, h5, h6⟩ := hs
 simp only at h1 h2 h3 h4 h5 h6 ⊢
 by_cases hin : i < s0.length
 ·right
  have hix : i < x.length := by omega
  have hjx : j < x.length := by omega
  have hx : x[i] = s0[i] := by
   have e1 := Lib.drop_cons_of hix
   have e2 := Lib.drop_cons_of hin
   rw [h6, e2] at e1
   exact (List.cons.inj e1).1.symm
  have hd : x.drop (i + 1) = s0.drop (i + 1) := by
   have e1 := Lib.drop_cons_of hix
   have e2 := Lib.drop_cons_of hin
   rw [h6, e2] at e1
   exact (List.cons.inj e1).2.symm
  have hcn := hca _ (List.getElem_mem hin)
  have hf := filter_succ d hin
  cases hk : keep d s0[i] with
  | true =>
   refine ⟨(j + 1, i + 1, x.set j s0[i]), ?_, by simp only; omega, trivial, ?_⟩
   ·rw [hk, cond_true, <- h5] at hf
    refine ⟨by simp only; omega, by simp only; omega, by simpa using h3, ?_, ?_, ?_⟩
    ·intro y hy
     rcases List.mem_or_eq_of_mem_set hy with h | h
     ·exact h4 y h
     ·rw [h]; exact len_of hcn
    ·rw [hf]
     rw [List.take_succ_eq_append_getElem (by simpa using hjx)]
     simp [List.take_set_of_le]
    ·simp only
     rw [List.drop_set_of_lt (by omega)]; exact hd
   ·have e : U220.v (cvS (cellAt x i 0)) d = false := by
     have : (!U220.v (cvS (cellAt x i 0)) d) = true := by
      rw [Lib.cellAt_of hix, hx]; exact hk
     simpa using this
    have es : setC x j 0 [CV.s (cvS (cellAt x i 0))] = x.set j s0[i] := by
     have hl := h4 _ (List.getElem_mem hjx)
     rw [Lib.setC_eq hjx, Lib.cellAt_of hix, hx]
     have : splice x[j] 0 (cr s0[i]) = s0[i] := by
      rw [cr_of hcn]
      unfold splice
      have := len_of hcn
      simp [hl, this, List.drop_eq_nil_of_le]
     unfold cr at this
     rw [this]
    have b1 : (j : Int) < (x.length : Int) := by omega
    simp only [l5, r5, Lib.dlt, Lib.dle0, Lib.toN, hix, hjx, decide_true, Bool.true_and, cond_true, e, Bool.not_false, es, Lib.w64_s hin hn, Lib.w64_s (show j < s0.length by omega) hn]
  | false =>
   refine ⟨(j, i + 1, x), ?_, by simp only; omega, trivial, ?_⟩
   ·rw [hk, cond_false, List.append_nil, <- h5] at hf
    exact ⟨by simp only; omega, by simp only; omega, h3, h4, hf.symm, hd⟩
   ·have e : U220.v (cvS (cellAt x i 0)) d = true := by
     have : (!U220.v (cvS (cellAt x i 0)) d) = false := by
      rw [Lib.cellAt_of hix, hx]; exact hk
     simpa using this
    simp only [l5, r5, Lib.dlt, Lib.dle0, Lib.toN, hix, decide_true, Bool.true_and, cond_true, e, Bool.not_true, cond_false, Lib.w64_s hin hn]
 ·left
  have : i = s0.length := by omega
  subst this
  rw [List.take_length] at h5
  have e := hK j x h3 (by omega)
  rw [h5] at e
  have hix : ¬ s0.length < x.length := by omega
  simp only [l5, r5, Lib.dlt, hix, decide_false, cond_false, e]
theorem ok (s0 : Row) (del1 : ByteArray) (hc : s0.all cn = true) (hn : s0.length <= 4294967296) : c s0 del1 = true /\ v s0 del1 = s0.filter (keep del1) := by
 refine out s0 del1 ?_
 have hv := U251.ok s0 del1 hn
 unfold vo b
 rw [hv.1, hv.2, cond_true]
 rcases Lib.fi_rng (U251.p s0 del1) s0.length 0 with ⟨h, hall⟩ | ⟨k, _, hk2, hk, hkp, hbef⟩
 ·rw [h]
  have : s0.filter (keep del1) = s0 := by
   rw [List.filter_eq_self]
   intro y hy
   obtain ⟨i, hi, rfl⟩ := List.getElem_of_mem hy
   have := hall i (Nat.zero_le _) (by omega)
   unfold U251.p at this
   rw [Lib.cellAt_of hi] at this
   unfold keep; rw [this]; rfl
  rw [this]; rfl
 ·rw [hk]
  have hkl : k < s0.length := by omega
  have hne : decide ((k : Int) = Int.neg 1) = false := decide_eq_false (by show ¬ (k : Int) = -1; omega)
  rw [hne, cond_false, Lib.w64_s hkl (by omega)]
  have hca : ∀ y ∈ s0, cn y = true := List.all_eq_true.1 hc
  refine run _ s0 del1 hc (by omega) _ some (fun j x hx hj => ?_) _ k (k + 1) s0 ⟨by omega, by omega, rfl, fun y hy => len_of (hca y hy), ?_, rfl⟩ (Lib.lt_big (by omega))
  ·have b1 : inB (j : Int) (s0.length : Int) (s0.length : Int) = true := by simp [inB]; omega
   have e : List.take j x ++ zeros [Ck.s] (s0.length - j) ++ List.drop s0.length x = List.take j x ++ zeros [Ck.s] (s0.length - j) := by
    rw [List.drop_eq_nil_of_le (by omega), List.append_nil]
   have hl : (List.take j x).length = j := by simp; omega
   simp only [hx, Lib.toN, b1, cond_true, e]
   rw [Lib.bif_t (by simp [inB]; omega)]
   unfold view
   rw [show Int.toNat 0 = 0 from rfl, List.drop_zero, Nat.sub_zero, List.take_append_of_le_length (by omega), List.take_of_length_le (by omega)]
  ·rw [filter_succ del1 hkl]
   have e1 : keep del1 s0[k] = false := by
    unfold U251.p at hkp
    rw [Lib.cellAt_of hkl] at hkp
    unfold keep; rw [hkp]; rfl
   have e2 : (s0.take k).filter (keep del1) = s0.take k := by
    rw [List.filter_eq_self]
    intro y hy
    obtain ⟨i, hi, rfl⟩ := List.getElem_of_mem hy
    have hik : i < k := by simp at hi; omega
    have := hbef i (Nat.zero_le _) hik
    unfold U251.p at this
    rw [Lib.cellAt_of (by omega)] at this
    rw [List.getElem_take]
    unfold keep; rw [this]; rfl
   rw [e1, e2, cond_false, List.append_nil]
end Go.FG.U219

namespace Go.FG.U161
theorem cn_rs (l : List ByteArray) : (Lib.rs l).all U219.cn = true := by
 rw [List.all_eq_true]; intro y hy
 unfold Lib.rs at hy; obtain ⟨z, _, rfl⟩ := List.mem_map.1 hy; rfl
theorem filt (l : List ByteArray) (k : ByteArray) : (Lib.rs l).filter (U219.keep k) = Lib.rs (U143.without l k) := by
 unfold Lib.rs U143.without
 rw [List.filter_map]
 congr 1
 apply List.filter_congr
 intro x _
 show (!List.beq (ByteArray.toList x) (ByteArray.toList k)) = _
 rw [Lib.beq_ba]
theorem ok (l : List ByteArray) (k : ByteArray) (hl : l.length <= 1048576) : c (Lib.rs l) k = true /\ v (Lib.rs l) k = Lib.rs (U143.without l k) := by
 have h1 := U217.ok (Lib.rs l) (by rw [Lib.rs_len]; omega)
 have h2 := U219.ok (Lib.rs l) k (cn_rs l) (by rw [Lib.rs_len]; omega)
 rw [filt] at h2
 exact out _ _ (by unfold vo b; rw [h1.1, h1.2, h2.1, h2.2, cond_true, cond_true])
end Go.FG.U161

namespace Go.FG.U162
open Lib (rr ri)
open U145 (gs gs_step)
theorem ok (s : List (List Int)) (a : Int) (key : ByteArray) (hf : U168.fitS s) (hk : key.size <= 140737488355328) : c (rr s) a key = true /\ v (rr s) a key = U145.val s a key := by
 refine out _ _ _ ?_
 have h2 := U169.ok s a hf
 unfold vo b U145.val
 rw [h2.1, h2.2, cond_true]
 cases hok : U147.skOk s a with
 | false => rfl
 | true =>
  obtain ⟨hs, ha, hq⟩ := U57.ok_open hok
  rw [Bool.not_true, cond_false, cond_true, Lib.rr_len]
  have := Lib.loop_gen (fun m (t : Nat × Int) => l5 Lib.big (fun (_ : ByteArray) (y6 : Int) (_ : Row) (_ _ : Int) => some y6) m key t.2 (rr s) s.length (t.1 : Int)) (fun t => s.length - t.1) (fun t => t.1 <= s.length) (fun t => some (gs key t.1 (s.drop t.1) t.2)) (fun m t ht => by
   obtain ⟨i, x⟩ := t
   dsimp only at ht ⊢
   by_cases h : i < s.length
   ·right
    have hp := U170.ok i key (by omega) hk
    have hpl := U148.pl_lt i key
    obtain ⟨h16, hn⟩ := hq _ (List.getElem_mem h)
    have hb : U148.pl i key < s[i].length := by omega
    refine ⟨(i + 1, bif decide (s[i].getD (U148.pl i key) 0 < x) then s[i].getD (U148.pl i key) 0 else x), by dsimp only; omega, by dsimp only; omega, by rw [<- gs_step key s i h x], ?_⟩
    simp only [l5, r5, Lib.rr_len, Lib.dlt, h, decide_true, cond_true, hp.1, hp.2, Lib.dle0, Bool.and_self, Lib.toN, Lib.rr0 h, cvL, Lib.ri_len, h16, hpl, Lib.ri0 hb, cvI, Lib.w64_s h (by omega : s.length <= 9223372036854775807)]
    rw [U57.getD_of hb]
    unfold minmax
    rw [cond_false]
    by_cases hd : s[i][U148.pl i key] < x
    ·rw [if_pos hd, decide_eq_true hd, cond_true]
    ·rw [if_neg hd, decide_eq_false hd, cond_false]
   ·left
    have : i = s.length := by omega
    subst this
    simp only [l5, r5, Lib.rr_len, Lib.dlt, Nat.lt_irrefl, decide_false, cond_false, List.drop_length, gs]) Lib.big (0, 15) (Nat.zero_le _) (Lib.lt_big (by dsimp only; omega))
  simpa using this
end Go.FG.U162

namespace Go.FG.U69
open Lib (rr rs)
open U143 (has without has_iff has_no without_no without_len without_lt)
open U142 (keyOk kOk keysOk pOk)
open U53 (snoc1 zer head0 tail1 keysOk_mem keysOk_iff key_size sk_fit getD_mem p_open)
theorem ok (w m : List ByteArray) (s : List (List Int)) (a : Int) (key : ByteArray) (hw : w.length <= 1048576) (hm : m.length <= 1048576) (hf : U168.fitS s) (hk : key.size <= 140737488355328) :
  c (rs w) (rs m) (rr s) a key = true /\ v (rs w) (rs m) (rr s) a key = (rs (U53.val w m s a key).1, rs (U53.val w m s a key).2.1, rr (U53.val w m s a key).2.2.1, (U53.val w m s a key).2.2.2.1, (U53.val w m s a key).2.2.2.2) := by
 refine out _ _ _ _ _ ?_
 have h1 := U155.ok w m s a hw hm hf
 have h2 := U159.ok w m s a hw hm hf
 have h3 := U74.ok s a key hf hk
 have h5 := U160.ok m key (by omega)
 have h6 := U161.ok w key hw
 have h7 := U161.ok m key hm
 have sf := sk_fit (a := a) (key := key) hf
 unfold vo b
 simp only [Lib.lt, h1.1, h1.2, h2.1, h2.2, cond_true]
 unfold U53.val
 cases hp : pOk w m s a with
 | false => rfl
 | true =>
  obtain ⟨p1, p2, p3, p4⟩ := p_open hp
  rw [U159.key_dec, Bool.true_and]
  cases hk2 : keyOk key with
  | false => rfl
  | true =>
   have hks := key_size hk2
   have l6 := without_len (l := w) (k := key)
   have l7 := without_len (l := m) (k := key)
   simp only [Bool.not_true, cond_false, cond_true, h3.1, h3.2, h5.1, h5.2, h6.1, h6.2, h7.1, h7.2, snoc1, zer, Lib.rs_len, Lib.set1, List.length_singleton]
   rw [Lib.roomy_of (n := (without w key).length + 1) (by omega) (by omega), Lib.roomy_of (n := (without m key).length + 1) (by omega) (by omega)]
   simp only [cond_true]
   cases hA : has w key with
   | true =>
    have hB : has m key = false := by
     rw [has_no]
     intro hm2
     have := (keysOk_iff.1 p1).2
     rw [List.nodup_append] at this
     exact this.2.2 key (has_iff.1 hA) key hm2 rfl
    have hlt := without_lt hA
    rw [hB, cond_false, cond_true, decide_eq_true (show ((without w key ++ [key]).length : Int) <= 2 by rw [List.length_append, List.length_singleton]; omega)]
    rfl
   | false =>
    rw [without_no hA]
    cases hB : has m key with
    | true => rfl
    | false =>
     simp only [cond_false]
     rw [show decide (((w ++ [key]).length : Int) <= 2) = decide ((w ++ [key]).length <= 2) by rw [decide_eq_decide]; omega]
     cases hC : decide ((w ++ [key]).length <= 2) with
     | true => rfl
     | false =>
      have hlw : (w ++ [key]).length = 3 := by
       have := of_decide_eq_false hC
       rw [List.length_append, List.length_singleton] at this ⊢; omega
      have hfm : (w ++ [key]).getD 0 ⟨#[]⟩ ∈ w ++ [key] := getD_mem (by omega)
      have hfs : ((w ++ [key]).getD 0 ⟨#[]⟩).size <= 30 := by
       rcases List.mem_append.1 hfm with h | h
       ·exact (key_size (keysOk_mem p1 (List.mem_append_left _ h))).2
       ·rw [List.mem_singleton] at h; rw [h]; exact hks.2
      have g1 := U162.ok (U57.val s a key).1 (U57.val s a key).2 ((w ++ [key]).getD 0 ⟨#[]⟩) sf (by omega)
      have i1 : inB 1 ((w ++ [key]).length : Int) ((w ++ [key]).length : Int) = true := by rw [hlw]; rfl
      simp only [cond_false, decide_eq_true (show (0 : Int) < ((w ++ [key]).length : Int) by omega), i1, cond_true, head0, tail1, zer, snoc1, Lib.rs_len, Lib.roomy_of (n := m.length + 1) (b := 16) (by omega) (by omega), g1.1, g1.2]
      rw [show decide ((m.length : Int) < 4) = decide (m.length < 4) by rw [decide_eq_decide]; omega]
      cases hD : decide (m.length < 4) with
      | true => rfl
      | false =>
       have hm4 : m.length = 4 := by have := of_decide_eq_false hD; omega
       have hmm : m.getD 0 ⟨#[]⟩ ∈ m := getD_mem (by omega)
       have hms := (key_size (keysOk_mem p1 (List.mem_append_right _ hmm))).2
       have g2 := U162.ok (U57.val s a key).1 (U57.val s a key).2 (m.getD 0 ⟨#[]⟩) sf (by omega)
       have i2 : inB 1 (m.length : Int) (m.length : Int) = true := by simp [inB]; omega
       have ht2 : m.tail.length = 3 := by rw [List.length_tail]; omega
       simp only [cond_false, decide_eq_true (show (0 : Int) < (m.length : Int) by omega), i2, cond_true, snoc1, Lib.roomy_of (n := m.tail.length + 1) (b := 16) (by omega) (by omega), g2.1, g2.2]
       cases decide (U145.val (U57.val s a key).1 (U57.val s a key).2 ((w ++ [key]).getD 0 ⟨#[]⟩) > U145.val (U57.val s a key).1 (U57.val s a key).2 (m.getD 0 ⟨#[]⟩)) <;> rfl
end Go.FG.U69

namespace Go.FG.U73
open Lib (rr rs)
open U143 (without)
theorem ok (w m : List ByteArray) (s : List (List Int)) (a : Int) (key : ByteArray) (hw : w.length <= 1048576) (hm : m.length <= 1048576) (hf : U168.fitS s) : c (rs w) (rs m) (rr s) a key = true /\ v (rs w) (rs m) (rr s) a key = (rs (without w key), rs (without m key), rr s, a) := by
 have h1 := U155.ok w m s a hw hm hf
 have h2 := U161.ok w key hw
 have h3 := U161.ok m key hm
 exact out _ _ _ _ _ (by unfold vo b; rw [h1.1, h1.2, h2.1, h2.2, h3.1, h3.2]; rfl)
end Go.FG.U73

namespace Go.FG.U72
theorem ok (l : Row) (k : ByteArray) (hc : l.all U166.cn = true) (hl : l.length <= 4294967296) : c l k = true /\ v l k = l.filter (U166.keep k) := by
 have h1 := U154.ok l hl
 have h2 := U166.ok l k hc hl
 exact out l k (by unfold vo b; rw [h1.1, h1.2, h2.1, h2.2, cond_true, cond_true])
end Go.FG.U72

namespace Go.FG.U70
open Lib (rc Cl)
open A_Ask (hasId jn lid jn_ins)
theorem ok (i0 : Int) (q1 q2 q3 q4 : Row) (i5 : Int) (q6 : Row) (cl : List Cl) (i8 : Int) (x : Cl) (cs : cl.Pairwise fun a b => a.id < b.id) (hn : hasId cl x.id = false) (hl : cl.length <= 1048576) :
  c i0 q1 q2 q3 q4 i5 q6 (rc cl) i8 x.id x.k x.fe x.fr x.sta x.got x.age = true /\ v i0 q1 q2 q3 q4 i5 q6 (rc cl) i8 x.id x.k x.fe x.fr x.sta x.got x.age = (i0, q1, q2, q3, q4, i5, q6, rc (jn cl x), i8) := by
 refine out _ _ _ _ _ _ _ _ _ _ _ _ _ _ _ _ ?_
 unfold vo b
 have hrl := Lib.rc_len cl
 have := Lib.stop_run (lid x.id) (rc cl) (fun m (i : Nat) => l2 Lib.big (fun y17 y18 y19 y20 y21 y22 y23 y24 y25 y26 y27 y28 y29 y30 y31 y32 y33 => bif (decide (0 <= y17) && decide (y17 <= (↑(List.length y33) : Int)) && roomy (List.length y33 + List.length (List.set (zeros [Ck.i IntKind.i64, Ck.s, Ck.i IntKind.i64, Ck.i IntKind.i64, Ck.i IntKind.i64, Ck.s, Ck.i IntKind.i64] 1) 0 [CV.i IntKind.i64 y21, CV.s y22, CV.i IntKind.i64 y23, CV.i IntKind.i64 y24, CV.i IntKind.i64 y25, CV.s y26, CV.i IntKind.i64 y27])) 72) then (some (y18, y28, y29, y30, y31, y19, y32, (Pu.insR y33 (Int.toNat y17) (List.set (zeros [Ck.i IntKind.i64, Ck.s, Ck.i IntKind.i64, Ck.i IntKind.i64, Ck.i IntKind.i64, Ck.s, Ck.i IntKind.i64] 1) 0 [CV.i IntKind.i64 y21, CV.s y22, CV.i IntKind.i64 y23, CV.i IntKind.i64 y24, CV.i IntKind.i64 y25, CV.s y26, CV.i IntKind.i64 y27])), y20)) else (none)) m (i : Int) i0 i5 i8 x.id x.k x.fe x.fr x.sta x.got x.age q1 q2 q3 q4 q6 (rc cl))
  (fun a => bif decide ((a : Int) <= ((rc cl).length : Int)) then some (i0, q1, q2, q3, q4, i5, q6, Pu.insR (rc cl) a [Cl.row x], i8) else none)
  (fun m i h hp => by
   have hp' : decide (cvI (cellAt (rc cl) i 0) < x.id) = true := by rw [Lib.cellAt_of h]; exact hp
   simp only [l2, r2, Lib.dlt, h, decide_true, Lib.dle0, Bool.and_self, cond_true, Lib.toN, hp', Lib.w64_s h (by omega : (rc cl).length <= 9223372036854775807)])
  (fun m i h hp => by
   have hp' : decide (cvI (cellAt (rc cl) i 0) < x.id) = false := by rw [Lib.cellAt_of h]; exact hp
   simp only [l2, r2, Lib.dlt, h, decide_true, Lib.dle0, Bool.and_self, Bool.true_and, Bool.and_true, cond_true, cond_false, Lib.toN, hp', Lib.len_set1, List.length_singleton, Lib.roomy_of (n := (rc cl).length + 1) (b := 72) (by omega) (by omega)]
   rfl)
  (fun m => by
   simp only [l2, r2, Lib.dlt, Nat.lt_irrefl, decide_false, decide_true, Lib.dle0, Bool.and_self, Bool.true_and, Bool.and_true, cond_true, cond_false, Lib.toN, Lib.len_set1, List.length_singleton, Lib.roomy_of (n := (rc cl).length + 1) (b := 72) (by omega) (by omega)]
   rfl) Lib.big (Lib.lt_big (by omega))
 refine this.trans ?_
 have hle := Lib.tw_le (lid x.id) (rc cl)
 rw [decide_eq_true (by omega), cond_true]
 unfold Pu.insR
 rw [jn_ins cs hn]
end Go.FG.U70

namespace Go.FG.U11
open Lib (rr rs re rf rc Px Cl Fe En el)
open U143 (without)
open U142 (keyOk)
open U43 (pxOk)
open A_Ask (hit miss put ent opi opq hasId jn newF frs fi_find)
open A_En (dropE)
open A_Ok (PxOk ok_iff)
def res (q : Px × Int) : Int × Row × Row × Row × Row × Int × Row × Row × Int × Int := (q.1.now, re q.1.en, rs q.1.w, rs q.1.m, rr q.1.s, q.1.a, rf q.1.fe, rc q.1.cl, q.1.hits, q.2)
theorem snocF (fe : List Fe) (key : ByteArray) : rf fe ++ List.set (zeros [Ck.s, Ck.s, Ck.i IntKind.i64, Ck.i IntKind.i64, Ck.i IntKind.i64] 1) 0 [CV.s key, CV.s { data := #[] }, CV.i IntKind.i64 1, CV.i IntKind.i64 0, CV.i IntKind.i64 0] = rf (fe ++ [newF key]) := by
 unfold Lib.rf; rw [List.map_append]; rfl
theorem fresh_w {p : Px} {i : Nat} (hi : i < p.en.length) (ho : PxOk p) : w64 (p.now - (el p.en i).st) = p.now - (el p.en i).st := by
 have h1 := ho.now
 have h2 := (U141.rng (ho.en _ (Lib.el_mem hi))).2.1
 exact Lib.w64_ok (by omega) (by omega)
theorem ok (p : Px) (id : Int) (key : ByteArray) (hp : p.Fit 1048576) (hkz : key.size <= 140737488355328) : c p.now (re p.en) (rs p.w) (rs p.m) (rr p.s) p.a (rf p.fe) (rc p.cl) p.hits id key = true /\ v p.now (re p.en) (rs p.w) (rs p.m) (rr p.s) p.a (rf p.fe) (rc p.cl) p.hits id key = res (A_Ask.ask p id key) := by
 have h1 := U62.ok p hp
 have h2 := U25.ok p hp
 have hcl := hp.cl
 have hfe := hp.fe
 have hen := hp.en
 have hfs : U168.fitS p.s := ⟨hp.s.1, hp.s.2.1⟩
 have h3 := U65.ok p.now (re p.en) (rs p.w) (rs p.m) (rr p.s) p.a (rf p.fe) p.cl p.hits id hcl
 refine out _ _ _ _ _ _ _ _ _ _ _ ?_
 unfold vo b A_Ask.ask
 simp only [Lib.lt, h1.1, h1.2, h2.1, h2.2, cond_true]
 cases hok : pxOk p with
 | false => rfl
 | true =>
 have ho : PxOk p := ok_iff.1 hok
 rw [Bool.not_true, cond_false, Bool.true_and, show U63.v id 1 9 = decide (1 <= id /\ id <= 9) from U147.in_dec _ _ _]
 cases hid : decide (1 <= id /\ id <= 9) with
 | false => rfl
 | true =>
 rw [Bool.not_true, cond_false, Bool.true_and, U159.key_dec]
 cases hko : keyOk key with
 | false => rfl
 | true =>
 have hks := U53.key_size hko
 rw [Bool.not_true, cond_false, Bool.true_and, h3.1, cond_true, h3.2]
 cases hhi : hasId p.cl id with
 | true => rfl
 | false =>
 rw [cond_false, Bool.not_false, Bool.true_and, Lib.rc_len]
 by_cases h6 : p.cl.length = 6
 ·rw [decide_eq_true (show (p.cl.length : Int) = 6 by omega), cond_true, decide_eq_false (show ¬ p.cl.length < 6 by omega)]; rfl
 have hc6 := ho.cll
 rw [decide_eq_false (show ¬ (p.cl.length : Int) = 6 by omega), cond_false, decide_eq_true (show p.cl.length < 6 by omega), cond_true]
 have h4 := U66a.ok (re p.en) key (by rw [Lib.re_len]; omega)
 have h5 := U71.ok p.now (re p.en) (rs p.w) (rs p.m) (rr p.s) p.a (rf p.fe) (rc p.cl) p.hits key (by rw [Lib.rf_len]; omega)
 have h7 := U69.ok p.w p.m p.s p.a key hp.w hp.m hfs (by omega)
 have h8 := U74.ok p.s p.a key hfs (by omega)
 have h9 := U73.ok p.w p.m p.s p.a key hp.w hp.m hfs
 have h10 := U72.ok (re p.en) key (A_En.cn_re _) (by rw [Lib.re_len]; omega)
 rw [A_En.drop_re] at h10
 have put_ := fun (i0 : Int) (q1 q2 q3 q4 : Row) (i5 : Int) (q6 : Row) (i8 : Int) (x : Cl) (hx : x.id = id) => U70.ok i0 q1 q2 q3 q4 i5 q6 p.cl i8 x ho.cs (by rw [hx]; exact hhi) hcl
 rw [h4.1, cond_true, h4.2, Lib.re_len]
 have hit_ : p.hits <= 1000000000 := ho.hits.2
 have hit0 : 0 <= p.hits := ho.hits.1
 have hpl := ho.fl
 have hmin : minmax false (w64 (p.hits + 1)) 1000000000 = bif decide (p.hits < 1000000000) then p.hits + 1 else p.hits := by
  rw [Lib.w64_ok (by omega) (by omega)]
  unfold minmax
  rw [cond_false]
  by_cases h : p.hits < 1000000000
  ·rw [decide_eq_true h, cond_true, if_neg (by omega)]
  ·rw [decide_eq_false h, cond_false, if_pos (by omega)]; omega
 have hfp : ∀ i (hi : i < p.fe.length), U164.p (rf p.fe) key i = opq key p.fe[i] := fun i hi => by
  unfold U164.p opq U165.v
  rw [Lib.wf0 hi, Lib.wf2 hi, Lib.el_eq hi]
  simp only [cvS, cvI, Lib.beq_ba]
  cases decide (p.fe[i].k = key) <;> rfl
 have hep : ∀ i (hi : i < p.en.length), U66a.p (re p.en) key i = decide (p.en[i].k = key) := fun i hi => by
  unfold U66a.p
  rw [Lib.we0 hi, Lib.el_eq hi]
  exact Lib.beq_ba
 have wn : ∀ n : Nat, n <= 1048576 -> w64 ((n : Int) + 1) = (n : Int) + 1 := fun n hn => Lib.w64_ok (by omega) (by omega)
 have cN : ∀ (n : Nat) (fe : List Fe), n < fe.length -> cvS (cellAt (rf fe) n 1) = (el fe n).t := fun n fe hn => by rw [Lib.wf1 hn]; rfl
 have hro : roomy (p.fe.length + 1) 56 = true := Lib.roomy_of (by omega) (by omega)
 have hsl : ∀ key : ByteArray, List.length (List.set (zeros [Ck.s, Ck.s, Ck.i IntKind.i64, Ck.i IntKind.i64, Ck.i IntKind.i64] 1) 0 [CV.s key, CV.s { data := #[] }, CV.i IntKind.i64 1, CV.i IntKind.i64 0, CV.i IntKind.i64 0]) = 1 := fun _ => rfl
 rcases fi_find p.fe (opq key) _ hfp with ⟨f1, _, f2⟩ | ⟨j, hj, f1, _, f2⟩
 ·have f2 : opi p.fe key = none := f2
  rw [Lib.rf_len, f1] at h5
  rcases fi_find p.en (fun e => decide (e.k = key)) _ hep with ⟨e1, e2, _⟩ | ⟨i, hi, e1, e2, _⟩
  ·have e2 : ent p.en key = none := e2
   rw [e1, e2]
   unfold miss
   rw [f2]
   dsimp only
   by_cases h20 : p.fe.length = 20
   ·rw [decide_eq_false (show ¬ p.fe.length < 20 by omega)]
    simp only [show decide ((-1 : Int) ≥ 0) = false from rfl, cond_false, h5.1, h5.2, cond_true, show decide ((-1 : Int) < 0) = true from rfl, Lib.rf_len, decide_eq_true (show (p.fe.length : Int) = 20 by omega)]; rfl
   ·have hput := put_ p.now (re p.en) (rs p.w) (rs p.m) (rr (U57.val p.s p.a key).1) (U57.val p.s p.a key).2 (rf (p.fe ++ [newF key])) p.hits ⟨id, key, (p.fe.length : Int) + 1, 0, 1, (el (p.fe ++ [newF key]) p.fe.length).t, 0⟩ rfl
    dsimp only at hput
    rw [decide_eq_true (show p.fe.length < 20 by omega)]
    simp only [show decide ((-1 : Int) ≥ 0) = false from rfl, cond_false, h5.1, h5.2, cond_true, show decide ((-1 : Int) < 0) = true from rfl, Lib.rf_len, decide_eq_false (show ¬ (p.fe.length : Int) = 20 by omega), h8.1, h8.2, hsl, hro, snocF, List.length_append, List.length_singleton, Lib.toN, Lib.dlt, decide_eq_true (show p.fe.length < p.fe.length + 1 by omega), cN p.fe.length (p.fe ++ [newF key]) (by simp), wn _ hfe, hput.1, hput.2]
    rfl
  ·have e2 : ent p.en key = some (el p.en i) := e2
   rw [e1, e2]
   have hfr : U68.v (cvS (cellAt (re p.en) i 0)) (cvI (cellAt (re p.en) i 1)) (cvI (cellAt (re p.en) i (1 + 1))) (cvS (cellAt (re p.en) i (1 + 1 + 1))) p.now = frs (el p.en i) p.now := by rw [Lib.we0 hi, Lib.we1 hi, Lib.we2 hi, Lib.we3 hi]; rfl
   have g1 : cvI (cellAt (re p.en) i 1) = (el p.en i).st := by rw [Lib.we1 hi]; rfl
   have g3 : cvS (cellAt (re p.en) i (1 + 1 + 1)) = (el p.en i).bo := by rw [Lib.we3 hi]; rfl
   dsimp only
   cases hfv : frs (el p.en i) p.now with
   | true =>
    have g0 : cvS (cellAt (re p.en) i 0) = (el p.en i).k := by rw [Lib.we0 hi]; rfl
    have g2 : cvI (cellAt (re p.en) i (1 + 1)) = (el p.en i).li := by rw [Lib.we2 hi]; rfl
    have hfr : U68.v (el p.en i).k (el p.en i).st (el p.en i).li (el p.en i).bo p.now = true := hfv
    have hw := fresh_w (p := p) hi ho
    have hput := put_ p.now (re p.en) (rs (U53.val p.w p.m p.s p.a key).1) (rs (U53.val p.w p.m p.s p.a key).2.1) (rr (U53.val p.w p.m p.s p.a key).2.2.1) (U53.val p.w p.m p.s p.a key).2.2.2.1 (rf p.fe) p.hits ⟨id, key, 0, (el p.en i).st, 2, (el p.en i).bo, p.now - (el p.en i).st⟩ rfl
    dsimp only at hput
    simp only [decide_eq_true (show ((i : Nat) : Int) ≥ 0 by omega), Lib.dle0, Lib.dlt, hi, decide_true, Bool.and_self, cond_true, Lib.toN, g0, g1, g2, g3, hfr, h7.1, h7.2, hw, hput.1, hput.2, hmin, Lib.re_len]
    rfl
   | false =>
    rw [hfv] at hfr
    unfold miss
    rw [f2]
    dsimp only
    by_cases h20 : p.fe.length = 20
    ·rw [decide_eq_false (show ¬ p.fe.length < 20 by omega)]
     simp only [decide_eq_true (show ((i : Nat) : Int) ≥ 0 by omega), Lib.dle0, Lib.dlt, hi, decide_true, Bool.and_self, cond_true, cond_false, Lib.toN, Lib.re_len, hfr, h5.1, h5.2, show decide ((-1 : Int) < 0) = true from rfl, Lib.rf_len, decide_eq_true (show (p.fe.length : Int) = 20 by omega)]; rfl
    ·have hput := put_ p.now (re (dropE p.en key)) (rs (without p.w key)) (rs (without p.m key)) (rr (U57.val p.s p.a key).1) (U57.val p.s p.a key).2 (rf (p.fe ++ [newF key])) p.hits ⟨id, key, (p.fe.length : Int) + 1, 0, 1, (el (p.fe ++ [newF key]) p.fe.length).t, 0⟩ rfl
     dsimp only at hput
     rw [decide_eq_true (show p.fe.length < 20 by omega)]
     simp only [decide_eq_true (show ((i : Nat) : Int) ≥ 0 by omega), Lib.dle0, Lib.re_len, hi, decide_true, Bool.and_self, hfr, h9.1, h9.2, h10.1, h10.2, cond_false, h5.1, h5.2, cond_true, show decide ((-1 : Int) < 0) = true from rfl, Lib.rf_len, decide_eq_false (show ¬ (p.fe.length : Int) = 20 by omega), h8.1, h8.2, hsl, hro, snocF, List.length_append, List.length_singleton, Lib.toN, Lib.dlt, decide_eq_true (show p.fe.length < p.fe.length + 1 by omega), cN p.fe.length (p.fe ++ [newF key]) (by simp), wn _ hfe, hput.1, hput.2]
     rfl
 ·have f2 : opi p.fe key = some j := f2
  rw [Lib.rf_len, f1] at h5
  have nj : decide (((j : Nat) : Int) < 0) = false := decide_eq_false (by omega)
  rcases fi_find p.en (fun e => decide (e.k = key)) _ hep with ⟨e1, e2, _⟩ | ⟨i, hi, e1, e2, _⟩
  ·have e2 : ent p.en key = none := e2
   rw [e1, e2]
   unfold miss
   rw [f2]
   dsimp only
   have hput := put_ p.now (re p.en) (rs p.w) (rs p.m) (rr (U57.val p.s p.a key).1) (U57.val p.s p.a key).2 (rf p.fe) p.hits ⟨id, key, (j : Int) + 1, 0, 1, (el p.fe j).t, 0⟩ rfl
   dsimp only at hput
   simp only [show decide ((-1 : Int) ≥ 0) = false from rfl, cond_false, h5.1, h5.2, cond_true, nj, Lib.rf_len, h8.1, h8.2, Lib.toN, Lib.dle0, Lib.dlt, hj, decide_true, Bool.and_self, cN j p.fe hj, wn j (by omega), hput.1, hput.2]
   rfl
  ·have e2 : ent p.en key = some (el p.en i) := e2
   rw [e1, e2]
   have hfr : U68.v (cvS (cellAt (re p.en) i 0)) (cvI (cellAt (re p.en) i 1)) (cvI (cellAt (re p.en) i (1 + 1))) (cvS (cellAt (re p.en) i (1 + 1 + 1))) p.now = frs (el p.en i) p.now := by rw [Lib.we0 hi, Lib.we1 hi, Lib.we2 hi, Lib.we3 hi]; rfl
   have g1 : cvI (cellAt (re p.en) i 1) = (el p.en i).st := by rw [Lib.we1 hi]; rfl
   have g3 : cvS (cellAt (re p.en) i (1 + 1 + 1)) = (el p.en i).bo := by rw [Lib.we3 hi]; rfl
   dsimp only
   cases hfv : frs (el p.en i) p.now with
   | true =>
    have g0 : cvS (cellAt (re p.en) i 0) = (el p.en i).k := by rw [Lib.we0 hi]; rfl
    have g2 : cvI (cellAt (re p.en) i (1 + 1)) = (el p.en i).li := by rw [Lib.we2 hi]; rfl
    have hfr : U68.v (el p.en i).k (el p.en i).st (el p.en i).li (el p.en i).bo p.now = true := hfv
    have hw := fresh_w (p := p) hi ho
    have hput := put_ p.now (re p.en) (rs (U53.val p.w p.m p.s p.a key).1) (rs (U53.val p.w p.m p.s p.a key).2.1) (rr (U53.val p.w p.m p.s p.a key).2.2.1) (U53.val p.w p.m p.s p.a key).2.2.2.1 (rf p.fe) p.hits ⟨id, key, 0, (el p.en i).st, 2, (el p.en i).bo, p.now - (el p.en i).st⟩ rfl
    dsimp only at hput
    simp only [decide_eq_true (show ((i : Nat) : Int) ≥ 0 by omega), Lib.dle0, Lib.dlt, hi, decide_true, Bool.and_self, cond_true, Lib.toN, g0, g1, g2, g3, hfr, h7.1, h7.2, hw, hput.1, hput.2, hmin, Lib.re_len]
    rfl
   | false =>
    rw [hfv] at hfr
    unfold miss
    rw [f2]
    dsimp only
    have hput := put_ p.now (re (dropE p.en key)) (rs (without p.w key)) (rs (without p.m key)) (rr (U57.val p.s p.a key).1) (U57.val p.s p.a key).2 (rf p.fe) p.hits ⟨id, key, (j : Int) + 1, 0, 1, (el p.fe j).t, 0⟩ rfl
    dsimp only at hput
    simp only [decide_eq_true (show ((i : Nat) : Int) ≥ 0 by omega), Lib.dle0, Lib.re_len, hi, decide_true, Bool.and_self, hfr, h9.1, h9.2, h10.1, h10.2, cond_false, h5.1, h5.2, cond_true, nj, Lib.rf_len, h8.1, h8.2, Lib.toN, Lib.dlt, hj, cN j p.fe hj, wn j (by omega), hput.1, hput.2]
    rfl
end Go.FG.U11

namespace Go.FG.U48
open Lib (rr rs re rf rc Px)
theorem ok (p : Px) (hp : p.Fit 1048576) : c p.now (re p.en) (rs p.w) (rs p.m) (rr p.s) p.a (rf p.fe) (rc p.cl) p.hits = true /\ v p.now (re p.en) (rs p.w) (rs p.m) (rr p.s) p.a (rf p.fe) (rc p.cl) p.hits = (p.now, re p.en, rs p.w, rs p.m, rr p.s, p.a, rf p.fe, rc p.cl, p.hits) := by
 have he := hp.en
 have hf := hp.fe
 have hc := hp.cl
 have h2 := U140.ok p.w p.m p.s p.a hp.w hp.m ⟨hp.s.1, hp.s.2.1⟩
 exact out _ _ _ _ _ _ _ _ _ (by
  unfold vo b
  rw [h2.1, h2.2, cond_true, Lib.roomy_of (b := 48) (by simp [zeros, Lib.re_len]; omega) (by simp [zeros, Lib.re_len]; omega), Lib.roomy_of (b := 56) (by simp [zeros, Lib.rf_len]; omega) (by simp [zeros, Lib.rf_len]; omega), Lib.roomy_of (b := 72) (by simp [zeros, Lib.rc_len]; omega) (by simp [zeros, Lib.rc_len]; omega)]
  rfl)
end Go.FG.U48

namespace Go.FG.U51
open Lib (re el En)
open A_Ask (ent)
def res (o : Option En) : ByteArray × Int × Int × ByteArray × Bool := match o with | some e => (e.k, e.st, e.li, e.bo, true) | none => (⟨#[]⟩, 0, 0, ⟨#[]⟩, false)
theorem ok (now : Int) (en : List En) (q2 q3 q4 : Row) (q5 : Int) (q6 q7 : Row) (q8 : Int) (key : ByteArray) (hl : en.length <= 1048576) : c now (re en) q2 q3 q4 q5 q6 q7 q8 key = true /\ v now (re en) q2 q3 q4 q5 q6 q7 q8 key = res (ent en key) := by
 refine out _ _ _ _ _ _ _ _ _ _ ?_
 unfold vo b ent
 have go : ∀ (d i n : Nat), en.length - i <= d -> i <= en.length -> d < n ->
   l2 Lib.big (fun (_ : ByteArray) (y17 : Bool) (_ _ : Int) (_ _ _ _ : Row) (_ : Int) (_ _ : Row) (_ : Int) (y28 : ByteArray) (y29 y30 : Int) (y31 : ByteArray) => some (y28, y29, y30, y31, y17)) (fun (_ : ByteArray) (_ : Bool) (_ _ : Int) (_ _ _ _ : Row) (_ : Int) (_ _ : Row) (_ : Int) (_ : ByteArray) (_ _ : Int) (_ : ByteArray) => some (({ data := #[] } : ByteArray), 0, 0, ({ data := #[] } : ByteArray), false)) n key false (i : Int) now (re en) q2 q3 q4 q5 q6 q7 q8 ({ data := #[] }) 0 0 ({ data := #[] }) = some (res ((en.drop i).find? fun e => decide (e.k = key))) := by
  intro d
  induction d with
  | zero =>
   intro i n h1 h2 h3
   obtain ⟨n, rfl⟩ : ∃ n', n = n' + 1 := ⟨n - 1, by omega⟩
   have : i = en.length := by omega
   subst this
   simp only [l2, r2, Lib.re_len, Lib.dlt, Nat.lt_irrefl, decide_false, cond_false, List.drop_length]; rfl
  | succ d ih =>
   intro i n h1 h2 h3
   obtain ⟨n, rfl⟩ : ∃ n', n = n' + 1 := ⟨n - 1, by omega⟩
   by_cases hi : i < en.length
   ·rw [List.drop_eq_getElem_cons hi]
    have g := ih (i + 1) n (by omega) hi (by omega)
    simp only [l2, r2, Lib.re_len, Lib.dlt, hi, decide_true, Lib.dle0, Bool.and_self, cond_true, Lib.toN, Lib.we0 hi, Lib.we1 hi, Lib.we2 hi, Lib.we3 hi, cvS, cvI, Lib.beq_ba, Lib.el_eq hi, Lib.w64_s hi (by omega : en.length <= 9223372036854775807)]
    cases hk : decide (en[i].k = key) with
    | true => rw [cond_true, List.find?_cons_of_pos (p := fun e : En => decide (e.k = key)) hk]; rfl
    | false => rw [cond_false, List.find?_cons_of_neg (p := fun e : En => decide (e.k = key)) (by simp [hk])]; exact g
   ·have : i = en.length := by omega
    subst this
    simp only [l2, r2, Lib.re_len, Lib.dlt, Nat.lt_irrefl, decide_false, cond_false, List.drop_length]; rfl
 have := go en.length 0 Lib.big (by omega) (Nat.zero_le _) (Lib.lt_big (by omega))
 rw [List.drop_zero] at this
 exact this
end Go.FG.U51

namespace Go.FG.U56
open Lib (rr rs)
open U143 (without)
theorem ok (w m : List ByteArray) (s : List (List Int)) (a : Int) (key : ByteArray) (hw : w.length <= 1048576) (hm : m.length <= 1048576) (hf : U168.fitS s) : c (rs w) (rs m) (rr s) a key = true /\ v (rs w) (rs m) (rr s) a key = (rs (without w key), rs (without m key), rr s, a) := by
 have h1 := U146.ok s a hf
 have h2 := U144.ok w key hw
 have h3 := U144.ok m key hm
 exact out _ _ _ _ _ (by unfold vo b; rw [h1.1, h1.2, h2.1, h2.2, h3.1, h3.2]; rfl)
end Go.FG.U56

namespace Go.FG.U55
open Lib (re el we0 we1 we2 we3 En)
open A_En (dropE)
theorem ok (l : List En) (k : ByteArray) (hl : l.length <= 2097152) : c (re l) k = true /\ v (re l) k = re (dropE l k) := by
 refine out _ _ ?_
 unfold vo b
 have key := Lib.for_run l.length (fun n (i : Nat) (x : Row) => l3 Lib.big (fun (_ : Row) (_ : ByteArray) (_ : Int) (y7 : Row) => some y7) n (re l) k (i : Int) x) (fun i => re (dropE (l.take i) k)) (some (re (dropE l k))) (fun n i hi => by
  have hlen : (dropE (l.take i) k).length <= i := by
   refine Nat.le_trans (List.length_filter_le ..) ?_
   rw [List.length_take]; omega
  have e : dropE (l.take (i + 1)) k = dropE (l.take i) k ++ (bif !decide ((el l i).k = k) then [el l i] else []) := by
   unfold dropE
   rw [List.take_succ_eq_append_getElem hi, List.filter_append, Lib.el_eq hi]
   cases hd : decide (l[i].k = k) <;> simp [hd]
  rw [e]
  simp only [l3, r3, Lib.re_len, Lib.dlt, hi, decide_true, Lib.dle0, Bool.and_self, cond_true, Lib.toN, we0 hi, we1 hi, we2 hi, we3 hi, cvS, cvI, Lib.beq_ba, Lib.set1, List.length_singleton, Lib.w64_s hi (by omega : l.length <= 9223372036854775807)]
  rw [Lib.roomy_of (by omega) (by omega), cond_true]
  cases decide ((el l i).k = k) with
  | true => rw [Bool.not_true, cond_false, cond_false, List.append_nil]
  | false =>
   rw [Bool.not_false, cond_true, cond_true]
   unfold Lib.re; rw [List.map_append]; rfl) (fun n => by
  simp only [l3, r3, Lib.re_len, Lib.dlt, Nat.lt_irrefl, decide_false, cond_false, List.take_length]) Lib.big 0 (Nat.zero_le _) (Lib.lt_big (by omega))
 exact key
end Go.FG.U55

namespace Go.FG.U54
open Lib (rc el Cl)
open A_Ask (jn)
theorem tail (l : List Cl) (x : Cl) (hl : l.length <= 1048576) (c0 : List Cl) (hc : c0.length <= 1048577) :
  l9 Lib.big (fun (_ : Row) (_ _ : Int) (_ : ByteArray) (_ _ _ : Int) (_ : ByteArray) (_ : Int) (y : Row) => some y) Lib.big (rc l) 0 x.id x.k x.fe x.fr x.sta x.got x.age (rc c0) = some (rc (c0 ++ l.filter fun y => decide (y.id > x.id))) := by
 refine Lib.filt1 l (fun y => decide (y.id > x.id)) (fun m (i : Nat) acc => l9 Lib.big (fun (_ : Row) (_ _ : Int) (_ : ByteArray) (_ _ _ : Int) (_ : ByteArray) (_ : Int) (y : Row) => some y) m (rc l) (i : Int) x.id x.k x.fe x.fr x.sta x.got x.age (rc acc)) (fun acc => some (rc acc)) c0
  (fun m i acc h ha hp => ?_) (fun m i acc h hp => ?_) (fun m acc => ?_) Lib.big (Lib.lt_big (by omega))
 ·have hp' : decide (l[i].id > x.id) = true := hp
  simp only [l9, r9, Lib.rc_len, Lib.dlt, h, decide_true, Lib.dle0, Bool.and_self, cond_true, Lib.toN, Lib.rc0 h, Lib.rc1 h, Lib.rc2 h, Lib.rc3 h, Lib.rc4 h, Lib.rc5 h, Lib.rc6 h, cvS, cvI, hp', Lib.set1, List.length_singleton, Lib.w64_s h (by omega : l.length <= 9223372036854775807), Lib.roomy_of (n := acc.length + 1) (b := 72) (by omega) (by omega)]
  unfold Lib.rc; rw [List.map_append]; rfl
 ·have hp' : decide (l[i].id > x.id) = false := hp
  simp only [l9, r9, Lib.rc_len, Lib.dlt, h, decide_true, Lib.dle0, Bool.and_self, cond_true, cond_false, Lib.toN, Lib.rc0 h, cvI, hp', Lib.w64_s h (by omega : l.length <= 9223372036854775807)]
 ·simp only [l9, r9, Lib.rc_len, Lib.dlt, Nat.lt_irrefl, decide_false, cond_false]
theorem ok (l : List Cl) (x : Cl) (hl : l.length <= 1048576) : c (rc l) x.id x.k x.fe x.fr x.sta x.got x.age = true /\ v (rc l) x.id x.k x.fe x.fr x.sta x.got x.age = rc (jn l x) := by
 refine out _ _ _ _ _ _ _ _ ?_
 unfold vo b
 have key := Lib.filt1 l (fun y => decide (y.id < x.id))
  (fun m (i : Nat) acc => l3 Lib.big (fun (y10 : Row) (_ y12 : Int) (y13 : ByteArray) (y14 y15 y16 : Int) (y17 : ByteArray) (y18 : Int) (y19 : Row) => bif (roomy (List.length y19 + List.length (List.set (zeros [Ck.i IntKind.i64, Ck.s, Ck.i IntKind.i64, Ck.i IntKind.i64, Ck.i IntKind.i64, Ck.s, Ck.i IntKind.i64] 1) 0 [CV.i IntKind.i64 y12, CV.s y13, CV.i IntKind.i64 y14, CV.i IntKind.i64 y15, CV.i IntKind.i64 y16, CV.s y17, CV.i IntKind.i64 y18])) 72) then (l9 Lib.big (fun (_ : Row) (_ _ : Int) (_ : ByteArray) (_ _ _ : Int) (_ : ByteArray) (_ : Int) (y39 : Row) => some y39) Lib.big y10 0 y12 y13 y14 y15 y16 y17 y18 (y19 ++ List.set (zeros [Ck.i IntKind.i64, Ck.s, Ck.i IntKind.i64, Ck.i IntKind.i64, Ck.i IntKind.i64, Ck.s, Ck.i IntKind.i64] 1) 0 [CV.i IntKind.i64 y12, CV.s y13, CV.i IntKind.i64 y14, CV.i IntKind.i64 y15, CV.i IntKind.i64 y16, CV.s y17, CV.i IntKind.i64 y18])) else (none)) m (rc l) (i : Int) x.id x.k x.fe x.fr x.sta x.got x.age (rc acc))
  (fun acc => bif roomy (acc.length + 1) 72 then l9 Lib.big (fun (_ : Row) (_ _ : Int) (_ : ByteArray) (_ _ _ : Int) (_ : ByteArray) (_ : Int) (y : Row) => some y) Lib.big (rc l) 0 x.id x.k x.fe x.fr x.sta x.got x.age (rc (acc ++ [x])) else none) []
  (fun m i acc h ha hp => by
   have hp' : decide (l[i].id < x.id) = true := hp
   have ha : acc.length <= i := by simpa using ha
   simp only [l3, r3, Lib.rc_len, Lib.dlt, h, decide_true, Lib.dle0, Bool.and_self, cond_true, Lib.toN, Lib.rc0 h, Lib.rc1 h, Lib.rc2 h, Lib.rc3 h, Lib.rc4 h, Lib.rc5 h, Lib.rc6 h, cvS, cvI, hp', Lib.set1, List.length_singleton, Lib.w64_s h (by omega : l.length <= 9223372036854775807), Lib.roomy_of (n := acc.length + 1) (b := 72) (by omega) (by omega)]
   unfold Lib.rc; rw [List.map_append]; rfl)
  (fun m i acc h hp => by
   have hp' : decide (l[i].id < x.id) = false := hp
   simp only [l3, r3, Lib.rc_len, Lib.dlt, h, decide_true, Lib.dle0, Bool.and_self, cond_true, cond_false, Lib.toN, Lib.rc0 h, cvI, hp', Lib.w64_s h (by omega : l.length <= 9223372036854775807)])
  (fun m acc => by
   simp only [l3, r3, Lib.rc_len, Lib.dlt, Nat.lt_irrefl, decide_false, cond_false, Lib.set1, List.length_singleton]
   unfold Lib.rc; rw [List.map_append]; rfl) Lib.big (Lib.lt_big (by omega))
 refine key.trans ?_
 have hf := List.length_filter_le (fun y : Cl => decide (y.id < x.id)) l
 rw [List.nil_append, Lib.roomy_of (by omega) (by omega), cond_true, tail l x hl _ (by simp; omega)]
 unfold jn; rw [List.append_assoc]
end Go.FG.U54

namespace Go.FG.U52
theorem eq (k : ByteArray) (s l : Int) (b : ByteArray) (n : Int) : U68.v k s l b n = U52.v k s l b n := by
 have e : U158.v k s l b = U141.v k s l b := rfl
 unfold U68.v U52.v
 rw [e]
 cases h : U141.v k s l b with
 | false => rfl
 | true =>
  have hs : (0 <= s /\ s <= 1000000000) /\ 1 <= l /\ l <= 999999 := by
   unfold U141.v at h
   cases h1 : U50.v k <;> rw [h1] at h <;> simp only [cond_true, cond_false, Bool.false_eq_true] at h
   cases h2 : U49.v s 0 1000000000 <;> rw [h2] at h <;> simp only [cond_true, cond_false, Bool.false_eq_true] at h
   cases h3 : U49.v l 1 999999 <;> rw [h3] at h <;> simp only [cond_true, cond_false, Bool.false_eq_true] at h
   simp [U49.v] at h2 h3
   omega
  simp only [cond_true, U100.v, U63.v, U49.v, Bool.cond_eq_ite, decide_eq_true_eq]
  by_cases h1 : 0 <= n /\ n <= 1000000000
  ·rw [w64_eq (x := n - s) (by omega) (by omega), w64_eq (x := s + l) (by omega) (by omega), w64_eq (x := s + l - 1) (by omega) (by omega)]
   by_cases h2 : s <= n <;> by_cases h3 : n - s < l <;> simp [h1, h2, h3] <;> omega
  ·by_cases h2 : s <= n <;> by_cases h3 : 0 <= n <;> by_cases h4 : n <= 1000000000 <;> simp [h2, h3, h4] <;> omega
end Go.FG.U52

namespace Go.FG.U9
open Lib (rr rs re rf rc Px Cl Fe En el)
open U143 (without)
open U142 (keyOk)
open U43 (pxOk)
open U134 (sameO)
open A_Ask (hit miss put ent opi opq hasId jn newF frs)
open A_En (dropE)
open A_Ok (PxOk ok_iff)
open U11 (res fresh_w snocF)
theorem find {R : Type} (k0 k1 : Int -> ByteArray -> Int -> Int -> Int -> Row -> Row -> Row -> Row -> Int -> Row -> Row -> Int -> Int -> Int -> Int -> Int -> Int -> Int -> Row -> Row -> Row -> Row -> Row -> Row -> Option R) (cl : List Cl) (hl : cl.length <= 1048576) (id : Int) (key : ByteArray) (z4 z6 : Int) (q7 q8 q9 q10 : Row) (z11 : Int) (q12 : Row) (z14 z15 z16 z17 z18 z19 z20 : Int) (q21 q22 q23 q24 q25 q26 : Row) :
  (hasId cl id = false -> l5 Lib.big k0 k1 Lib.big id key z4 0 z6 q7 q8 q9 q10 z11 q12 (rc cl) z14 z15 z16 z17 z18 z19 z20 q21 q22 q23 q24 q25 q26 = k1 id key z4 (cl.length : Int) z6 q7 q8 q9 q10 z11 q12 (rc cl) z14 z15 z16 z17 z18 z19 z20 q21 q22 q23 q24 q25 q26) /\
  (hasId cl id = true -> ∃ j : Int, l5 Lib.big k0 k1 Lib.big id key z4 0 z6 q7 q8 q9 q10 z11 q12 (rc cl) z14 z15 z16 z17 z18 z19 z20 q21 q22 q23 q24 q25 q26 = k0 id key 1 j z6 q7 q8 q9 q10 z11 q12 (rc cl) z14 z18 z19 z20 z18 z19 z20 q21 q22 q23 q24 q25 q26) := by
 have go : ∀ (d i n : Nat), cl.length - i <= d -> i <= cl.length -> d < n ->
   (((cl.drop i).any fun x => decide (x.id = id)) = false -> l5 Lib.big k0 k1 n id key z4 (i : Int) z6 q7 q8 q9 q10 z11 q12 (rc cl) z14 z15 z16 z17 z18 z19 z20 q21 q22 q23 q24 q25 q26 = k1 id key z4 (cl.length : Int) z6 q7 q8 q9 q10 z11 q12 (rc cl) z14 z15 z16 z17 z18 z19 z20 q21 q22 q23 q24 q25 q26) /\
   (((cl.drop i).any fun x => decide (x.id = id)) = true -> ∃ j : Int, l5 Lib.big k0 k1 n id key z4 (i : Int) z6 q7 q8 q9 q10 z11 q12 (rc cl) z14 z15 z16 z17 z18 z19 z20 q21 q22 q23 q24 q25 q26 = k0 id key 1 j z6 q7 q8 q9 q10 z11 q12 (rc cl) z14 z18 z19 z20 z18 z19 z20 q21 q22 q23 q24 q25 q26) := by
  intro d
  induction d with
  | zero =>
   intro i n h1 h2 h3
   obtain ⟨n, rfl⟩ : ∃ n', n = n' + 1 := ⟨n - 1, by omega⟩
   have : i = cl.length := by omega
   subst this
   rw [List.drop_length]
   exact ⟨fun _ => by simp only [l5, r5, Lib.rc_len, Lib.dlt, Nat.lt_irrefl, decide_false, cond_false], fun h => by cases h⟩
  | succ d ih =>
   intro i n h1 h2 h3
   obtain ⟨n, rfl⟩ : ∃ n', n = n' + 1 := ⟨n - 1, by omega⟩
   by_cases hi : i < cl.length
   ·rw [List.drop_eq_getElem_cons hi, List.any_cons]
    obtain ⟨g1, g2⟩ := ih (i + 1) n (by omega) hi (by omega)
    have e : l5 Lib.big k0 k1 (n + 1) id key z4 (i : Int) z6 q7 q8 q9 q10 z11 q12 (rc cl) z14 z15 z16 z17 z18 z19 z20 q21 q22 q23 q24 q25 q26 = bif decide (cl[i].id = id) then k0 id key 1 (i : Int) z6 q7 q8 q9 q10 z11 q12 (rc cl) z14 z18 z19 z20 z18 z19 z20 q21 q22 q23 q24 q25 q26 else l5 Lib.big k0 k1 n id key z4 ((i + 1 : Nat) : Int) z6 q7 q8 q9 q10 z11 q12 (rc cl) z14 z15 z16 z17 z18 z19 z20 q21 q22 q23 q24 q25 q26 := by
     simp only [l5, r5, Lib.rc_len, Lib.dlt, hi, decide_true, Lib.dle0, Bool.and_self, cond_true, Lib.toN, Lib.rc0 hi, cvI, Lib.w64_s hi (by omega : cl.length <= 9223372036854775807)]
    rw [e]
    cases hc : decide (cl[i].id = id) with
    | true => exact ⟨fun h => by simp at h, fun _ => ⟨i, rfl⟩⟩
    | false => rw [Bool.false_or, cond_false]; exact ⟨g1, g2⟩
   ·have : i = cl.length := by omega
    subst this
    rw [List.drop_length]
    exact ⟨fun _ => by simp only [l5, r5, Lib.rc_len, Lib.dlt, Nat.lt_irrefl, decide_false, cond_false], fun h => by cases h⟩
 have := go cl.length 0 Lib.big (by omega) (Nat.zero_le _) (Lib.lt_big (by omega))
 rw [List.drop_zero] at this
 exact this
def sc (key : ByteArray) : List Fe -> Nat -> Int × ByteArray -> Int × ByteArray
 | [], _, s => s | x :: r, i, s => sc key r (i + 1) (bif opq key x then ((i : Int) + 1, x.t) else s)
theorem scan {R : Type} (k0 : ByteArray -> Bool -> Int -> Int -> Row -> Row -> Row -> Row -> Int -> Row -> Row -> Int -> Int -> Int -> Int -> Int -> Int -> Int -> Int -> ByteArray -> Int -> Int -> Int -> ByteArray -> Int -> Row -> Row -> Row -> Row -> Row -> Row -> Option R) (fe : List Fe) (hl : fe.length <= 1048576) (key : ByteArray) (h0 : Bool) (z84 : Int) (q85 q86 q87 q88 : Row) (z89 : Int) (q91 : Row) (z92 z93 z94 z95 z96 z97 z98 z99 : Int) (s100 : ByteArray) (z102 z103 z105 : Int) (q106 q107 q108 q109 q110 q111 : Row) :
  l22 Lib.big k0 Lib.big key h0 0 z84 q85 q86 q87 q88 z89 (rf fe) q91 z92 z93 z94 z95 z96 z97 z98 z99 s100 0 z102 z103 ({ data := #[] }) z105 q106 q107 q108 q109 q110 q111 = k0 key h0 (fe.length : Int) z84 q85 q86 q87 q88 z89 (rf fe) q91 z92 z93 z94 z95 z96 z97 z98 z99 s100 (sc key fe 0 (0, ⟨#[]⟩)).1 z102 z103 (sc key fe 0 (0, ⟨#[]⟩)).2 z105 q106 q107 q108 q109 q110 q111 := by
 have go : ∀ (d i n : Nat) (s : Int × ByteArray), fe.length - i <= d -> i <= fe.length -> d < n ->
   l22 Lib.big k0 n key h0 (i : Int) z84 q85 q86 q87 q88 z89 (rf fe) q91 z92 z93 z94 z95 z96 z97 z98 z99 s100 s.1 z102 z103 s.2 z105 q106 q107 q108 q109 q110 q111 = k0 key h0 (fe.length : Int) z84 q85 q86 q87 q88 z89 (rf fe) q91 z92 z93 z94 z95 z96 z97 z98 z99 s100 (sc key (fe.drop i) i s).1 z102 z103 (sc key (fe.drop i) i s).2 z105 q106 q107 q108 q109 q110 q111 := by
  intro d
  induction d with
  | zero =>
   intro i n s h1 h2 h3
   obtain ⟨n, rfl⟩ : ∃ n', n = n' + 1 := ⟨n - 1, by omega⟩
   have : i = fe.length := by omega
   subst this
   simp only [l22, r22, Lib.rf_len, Lib.dlt, Nat.lt_irrefl, decide_false, cond_false, List.drop_length, sc]
  | succ d ih =>
   intro i n s h1 h2 h3
   obtain ⟨n, rfl⟩ : ∃ n', n = n' + 1 := ⟨n - 1, by omega⟩
   by_cases hi : i < fe.length
   ·rw [List.drop_eq_getElem_cons hi]
    unfold sc
    rw [<- ih (i + 1) n _ (by omega) hi (by omega)]
    have w := Lib.w64_s hi (by omega : fe.length <= 9223372036854775807)
    have w2 : ((i + 1 : Nat) : Int) = (i : Int) + 1 := by omega
    simp only [l22, r22, Lib.rf_len, Lib.dlt, hi, decide_true, Lib.dle0, Bool.and_self, cond_true, Lib.toN, Lib.wf0 hi, Lib.wf1 hi, Lib.wf2' hi, cvS, cvI, Lib.beq_ba, w, Lib.el_eq hi]
    unfold opq
    cases decide (fe[i].k = key) <;> cases decide (fe[i].sta = 1) <;> simp only [Bool.and_true, Bool.and_false, Bool.and_self, Bool.false_and, cond_true, cond_false, w2]
   ·have : i = fe.length := by omega
    subst this
    simp only [l22, r22, Lib.rf_len, Lib.dlt, Nat.lt_irrefl, decide_false, cond_false, List.drop_length, sc]
 have := go fe.length 0 Lib.big (0, ⟨#[]⟩) (by omega) (Nat.zero_le _) (Lib.lt_big (by omega))
 rw [List.drop_zero] at this
 exact this
theorem sc_none (key : ByteArray) : ∀ (l : List Fe) (i : Nat) (s : Int × ByteArray), (∀ x ∈ l, opq key x = false) -> sc key l i s = s := by
 intro l
 induction l with
 | nil => intro i s _; rfl
 | cons x l ih =>
  intro i s h
  unfold sc
  rw [h x (by simp), cond_false]
  exact ih _ _ fun y hy => h y (by simp [hy])
theorem sc_val {fe : List Fe} (hp : fe.Pairwise fun f g => sameO g f = false) (key : ByteArray) : sc key fe 0 (0, ⟨#[]⟩) = match opi fe key with | some j => ((j : Int) + 1, (el fe j).t) | none => (0, ⟨#[]⟩) := by
 have go : ∀ (l : List Fe) (i : Nat), l.Pairwise (fun f g => sameO g f = false) -> sc key l i (0, ⟨#[]⟩) = match l.findIdx? (opq key) with | some j => (((i + j : Nat) : Int) + 1, (el l j).t) | none => (0, ⟨#[]⟩) := by
  intro l
  induction l with
  | nil => intro i _; rfl
  | cons x l ih =>
   intro i h
   rw [List.pairwise_cons] at h
   unfold sc
   rw [List.findIdx?_cons]
   cases hq : opq key x with
   | true =>
    have hn : ∀ y ∈ l, opq key y = false := fun y hy => by
     have h2 := h.1 y hy
     unfold opq at hq ⊢
     unfold sameO at h2
     simp only [Bool.and_eq_true, decide_eq_true_eq] at hq
     rw [hq.1, hq.2] at h2
     simp only [Bool.and_eq_false_iff, decide_eq_false_iff_not] at h2 ⊢
     rcases h2 with h2 | h2
     ·exact .inr h2
     ·rcases h2 with h2 | h2
      ·exact absurd trivial h2
      ·exact .inl h2
    rw [cond_true, sc_none key l _ _ hn]; rfl
   | false =>
    rw [cond_false, ih (i + 1) h.2]
    cases l.findIdx? (opq key) with
    | none => rfl
    | some j => simp only [Bool.false_eq_true, if_false, Option.map_some, show i + 1 + j = i + (j + 1) by omega]; rfl
 have := go fe 0 hp
 unfold opi
 rw [this]
 cases fe.findIdx? (opq key) with
 | none => rfl
 | some j => dsimp only; rw [Nat.zero_add]
theorem ok (p : Px) (id : Int) (key : ByteArray) (hp : p.Fit 1048576) (hkz : key.size <= 140737488355328) : c p.now (re p.en) (rs p.w) (rs p.m) (rr p.s) p.a (rf p.fe) (rc p.cl) p.hits id key = true /\ v p.now (re p.en) (rs p.w) (rs p.m) (rr p.s) p.a (rf p.fe) (rc p.cl) p.hits id key = res (A_Ask.ask p id key) := by
 have h1 := U48.ok p hp
 have h2 := U43.ok p hp
 have hcl := hp.cl
 have hfe := hp.fe
 have hen := hp.en
 have hfs : U168.fitS p.s := ⟨hp.s.1, hp.s.2.1⟩
 refine out _ _ _ _ _ _ _ _ _ _ _ ?_
 unfold vo b A_Ask.ask
 simp only [Lib.lt, h1.1, h1.2, h2.1, h2.2, cond_true]
 cases hok : pxOk p with
 | false => rfl
 | true =>
 have ho : PxOk p := ok_iff.1 hok
 rw [Bool.not_true, cond_false, Bool.true_and, show U49.v id 1 9 = decide (1 <= id /\ id <= 9) from U147.in_dec _ _ _]
 cases hid : decide (1 <= id /\ id <= 9) with
 | false => rfl
 | true =>
 rw [Bool.not_true, cond_false, Bool.true_and, show U50.v key = keyOk key from U147.in_dec _ _ _]
 cases hko : keyOk key with
 | false => rfl
 | true =>
 have hks := U53.key_size hko
 rw [Bool.not_true, cond_false, Bool.true_and, Lib.rc_len]
 have hc6 := ho.cll
 by_cases h6 : p.cl.length = 6
 ·rw [decide_eq_true (show (p.cl.length : Int) ≥ 6 by omega), cond_true, decide_eq_false (show ¬ p.cl.length < 6 by omega), Bool.and_false]; rfl
 rw [decide_eq_false (show ¬ (p.cl.length : Int) ≥ 6 by omega), cond_false, decide_eq_true (show p.cl.length < 6 by omega), Bool.and_true]
 cases hhi : hasId p.cl id with
 | true =>
  obtain ⟨j, hj⟩ := (find _ _ p.cl hcl id key 0 p.now (re p.en) (rs p.w) (rs p.m) (rr p.s) p.a (rf p.fe) p.hits 0 0 0 p.now p.a p.hits (re p.en) (rs p.w) (rs p.m) (rr p.s) (rf p.fe) (rc p.cl)).2 hhi
  refine hj.trans ?_
  rfl
 | false =>
 refine ((find _ _ p.cl hcl id key 0 p.now (re p.en) (rs p.w) (rs p.m) (rr p.s) p.a (rf p.fe) p.hits 0 0 0 p.now p.a p.hits (re p.en) (rs p.w) (rs p.m) (rr p.s) (rf p.fe) (rc p.cl)).1 hhi).trans ?_
 rw [Bool.not_false, cond_true]
 have h4 := U51.ok p.now p.en (rs p.w) (rs p.m) (rr p.s) p.a (rf p.fe) (rc p.cl) p.hits key hen
 have h7 := U53.ok p.w p.m p.s p.a key hp.w hp.m hfs (by omega)
 have h8 := U57.ok p.s p.a key hfs (by omega)
 have h9 := U56.ok p.w p.m p.s p.a key hp.w hp.m hfs
 have h10 := U55.ok p.en key (by omega)
 have join_ := fun x : Cl => U54.ok p.cl x hcl
 have hit0 := ho.hits
 have hpl := ho.fl
 have hsv := sc_val ho.ap key
 have hro : roomy (p.fe.length + 1) 56 = true := Lib.roomy_of (by omega) (by omega)
 have hsl : ∀ key : ByteArray, List.length (List.set (zeros [Ck.s, Ck.s, Ck.i IntKind.i64, Ck.i IntKind.i64, Ck.i IntKind.i64] 1) 0 [CV.s key, CV.s { data := #[] }, CV.i IntKind.i64 1, CV.i IntKind.i64 0, CV.i IntKind.i64 0]) = 1 := fun _ => rfl
 have hel : (el (p.fe ++ [newF key]) p.fe.length).t = ⟨#[]⟩ := by
  rw [Lib.el_eq (by simp), List.getElem_append_right (by omega)]; simp [newF]
 rw [h4.1, h4.2, cond_true]
 cases he : ent p.en key with
 | some e =>
  have hmem : e ∈ p.en := List.mem_of_find?_eq_some he
  obtain ⟨i, hi, hie⟩ := List.getElem_of_mem hmem
  dsimp only [U51.res]
  rw [cond_true, <- U52.eq, show U68.v e.k e.st e.li e.bo p.now = frs e p.now from rfl]
  cases hfr : frs e p.now with
  | true =>
   have hw : w64 (p.now - e.st) = p.now - e.st := by
    have := fresh_w (p := p) hi ho
    rwa [Lib.el_eq hi, hie] at this
   have hj := join_ ⟨id, key, 0, e.st, 2, e.bo, p.now - e.st⟩
   dsimp only at hj
   rw [cond_true, h7.1, h7.2, cond_true, cond_true, hw, hj.1, hj.2, cond_true, cond_true]
   unfold res hit
   cases hh : decide (p.hits < 1000000000) with
   | true =>
    rw [decide_eq_true_eq] at hh
    rw [cond_true, Lib.w64_ok (by omega) (by omega)]; rfl
   | false => rfl
  | false =>
   rw [cond_false, cond_false]
   refine (scan _ p.fe hfe key true p.now (re p.en) (rs p.w) (rs p.m) (rr p.s) p.a (rc p.cl) p.hits 0 0 0 p.now p.a p.hits id key 0 1 0 (re p.en) (rs p.w) (rs p.m) (rr p.s) (rf p.fe) (rc p.cl)).trans ?_
   rw [hsv]
   unfold miss
   cases hoi : opi p.fe key with
   | none =>
    dsimp only
    by_cases h20 : p.fe.length = 20
    ·rw [decide_eq_false (show ¬ p.fe.length < 20 by omega)]
     simp only [decide_true, cond_true, Lib.rf_len, decide_eq_true (show (p.fe.length : Int) ≥ 20 by omega)]; rfl
    ·rw [decide_eq_true (show p.fe.length < 20 by omega)]
     have hj := join_ ⟨id, key, (p.fe.length : Int) + 1, 0, 1, ⟨#[]⟩, 0⟩
     dsimp only at hj
     have hlen : ((p.fe.length + 1 : Nat) : Int) = (p.fe.length : Int) + 1 := by omega
     simp only [decide_true, cond_true, cond_false, Lib.rf_len, decide_eq_false (show ¬ (p.fe.length : Int) ≥ 20 by omega), hsl, hro, h10.1, h10.2, h9.1, h9.2, h8.1, h8.2, snocF, List.length_append, List.length_singleton, hlen, hj.1, hj.2]
     unfold res put
     rw [hel]; rfl
   | some j =>
    dsimp only
    have hj := join_ ⟨id, key, (j : Int) + 1, 0, 1, (el p.fe j).t, 0⟩
    dsimp only at hj
    simp only [decide_eq_false (show ¬ (j : Int) + 1 = 0 by omega), cond_true, cond_false, h10.1, h10.2, h9.1, h9.2, h8.1, h8.2, hj.1, hj.2]; rfl
 | none =>
  dsimp only [U51.res]
  rw [cond_false]
  refine (scan _ p.fe hfe key false p.now (re p.en) (rs p.w) (rs p.m) (rr p.s) p.a (rc p.cl) p.hits 0 0 0 p.now p.a p.hits id key 0 1 0 (re p.en) (rs p.w) (rs p.m) (rr p.s) (rf p.fe) (rc p.cl)).trans ?_
  rw [hsv]
  unfold miss
  cases hoi : opi p.fe key with
  | none =>
   dsimp only
   by_cases h20 : p.fe.length = 20
   ·rw [decide_eq_false (show ¬ p.fe.length < 20 by omega)]
    simp only [decide_true, cond_true, Lib.rf_len, decide_eq_true (show (p.fe.length : Int) ≥ 20 by omega)]; rfl
   ·rw [decide_eq_true (show p.fe.length < 20 by omega)]
    have hj := join_ ⟨id, key, (p.fe.length : Int) + 1, 0, 1, ⟨#[]⟩, 0⟩
    dsimp only at hj
    have hlen : ((p.fe.length + 1 : Nat) : Int) = (p.fe.length : Int) + 1 := by omega
    simp only [decide_true, cond_true, cond_false, Lib.rf_len, decide_eq_false (show ¬ (p.fe.length : Int) ≥ 20 by omega), hsl, hro, h8.1, h8.2, snocF, List.length_append, List.length_singleton, hlen, hj.1, hj.2]
    unfold res put
    rw [hel]; rfl
  | some j =>
   dsimp only
   have hj := join_ ⟨id, key, (j : Int) + 1, 0, 1, (el p.fe j).t, 0⟩
   dsimp only at hj
   simp only [decide_eq_false (show ¬ (j : Int) + 1 = 0 by omega), cond_true, cond_false, h8.1, h8.2, hj.1, hj.2]; rfl
end Go.FG.U9

namespace Go.FG.A_Store
open Lib (rr rs re rf rc Px En el)
open U143 (has)
open A_En (lessK So dropE putE drop_len drop_nil or_re put_re drop_re cn_re put_len)
def sto (p : Px) (e : En) : Px :=
 { p with
  w := (U53.val p.w p.m p.s p.a e.k).1
  m := (U53.val p.w p.m p.s p.a e.k).2.1
  s := (U53.val p.w p.m p.s p.a e.k).2.2.1
  a := (U53.val p.w p.m p.s p.a e.k).2.2.2.1
  en := bif has (U53.val p.w p.m p.s p.a e.k).1 e.k || has (U53.val p.w p.m p.s p.a e.k).2.1 e.k then putE (dropE p.en (U53.val p.w p.m p.s p.a e.k).2.2.2.2) e else dropE p.en (U53.val p.w p.m p.s p.a e.k).2.2.2.2 }
theorem so_of {en : List En} {w m : List ByteArray} (h : (List.range en.length).all (U133.eAt en w m) = true) : So en /\ ∀ e ∈ en, 1 <= e.k.size := by
 rw [List.all_eq_true] at h
 have h1 : ∀ i (hi : i < en.length), U133.eAt en w m i = true := fun i hi => h i (by simpa using hi)
 constructor
 ·have adj : ∀ d i (hi : i + d + 1 < en.length), lessK (el en i).k (el en (i + d + 1)).k = true := by
   intro d
   induction d with
   | zero =>
    intro i hi
    have := h1 (i + 1) (by omega)
    unfold U133.eAt at this
    rw [Bool.and_eq_true, Bool.and_eq_true, Bool.or_eq_true] at this
    rcases this.2.1 with h | h
    ·have := of_decide_eq_true h; omega
    ·exact h
   | succ d ih =>
    intro i hi
    have a := ih i (by omega)
    have := h1 (i + d + 1 + 1) (by omega)
    unfold U133.eAt at this
    rw [Bool.and_eq_true, Bool.and_eq_true, Bool.or_eq_true] at this
    rcases this.2.1 with h | h
    ·have := of_decide_eq_true h; omega
    ·exact U198.bl_trans _ _ _ a h
  unfold So
  rw [List.pairwise_iff_getElem]
  intro i j hi hj hij
  have := adj (j - i - 1) i (by omega)
  rw [show i + (j - i - 1) + 1 = j by omega, Lib.el_eq hi, Lib.el_eq hj] at this
  exact this
 ·intro e he
  obtain ⟨i, hi, rfl⟩ := List.getElem_of_mem he
  have := h1 i hi
  unfold U133.eAt U133.enOk at this
  rw [Bool.and_eq_true, Lib.el_eq hi] at this
  exact (U141.rng this.1).1.1
theorem px_open {p : Px} (h : U43.pxOk p = true) : So p.en /\ (∀ e ∈ p.en, 1 <= e.k.size) /\ p.en.length <= 6 /\ p.w.length <= 2 /\ p.m.length <= 4 /\ p.fe.length <= 20 /\ p.cl.length <= 6 /\ (1 <= p.now /\ p.now <= 1000000000) /\ (0 <= p.hits /\ p.hits <= 1000000000) /\ U142.pOk p.w p.m p.s p.a = true /\ (∀ i, i < p.fe.length -> U134.fOk p.now (el p.fe i) = true) := by
 unfold U43.pxOk at h
 simp only [Bool.and_eq_true, decide_eq_true_eq] at h
 obtain ⟨h1, h2, h3, h4, h5, h6, h7⟩ := h
 unfold U133.eOk at h2
 simp only [Bool.and_eq_true, decide_eq_true_eq] at h2
 obtain ⟨g1, g2, g3⟩ := h2
 obtain ⟨s1, s2⟩ := so_of g1
 obtain ⟨_, q2, q3, _⟩ := U53.p_open g2
 refine ⟨s1, s2, by omega, q2, q3, h3, h4, h1, h5, g2, fun i hi => ?_⟩
 rw [List.all_eq_true] at h6
 have := h6 i (by simpa using hi)
 rw [Bool.and_eq_true] at this
 exact this.1
theorem px_fit {p : Px} (h : U43.pxOk p = true) : p.Fit 48 := by
 obtain ⟨_, _, a1, a2, a3, a4, a5, _, _, hp, _⟩ := px_open h
 obtain ⟨_, _, _, hs⟩ := U53.p_open hp
 unfold U147.skOk at hs
 simp only [Bool.and_eq_true, decide_eq_true_eq, List.all_eq_true] at hs
 obtain ⟨s1, _, s3⟩ := hs
 have s4 : ∀ q ∈ p.s, q.length = 16 := fun q hq => by
  have := s3 q hq
  unfold U147.rowOk at this
  rw [Bool.and_eq_true, decide_eq_true_eq] at this
  exact this.1
 refine ⟨by omega, by omega, by omega, ⟨by omega, fun q hq => by rw [s4 q hq]; omega, ?_⟩, by omega, by omega⟩
 have : p.s.map List.length = List.replicate 3 16 := by
  rw [List.eq_replicate_iff]
  refine ⟨by rw [List.length_map, s1], fun x hx => ?_⟩
  obtain ⟨q, hq, rfl⟩ := List.mem_map.1 hx
  exact s4 q hq
 rw [this]; decide
end Go.FG.A_Store

namespace Go.FG.A_AskF
open Lib (Px Cl Fe En el)
open A_Ask (hit miss put jn opi ent frs newF)
open U143 (without without_len)
theorem jn_len (l : List Cl) (x : Cl) : (jn l x).length <= l.length + 1 := by
 unfold jn
 have : ∀ r : List Cl, (r.filter fun y => decide (y.id < x.id)).length + (r.filter fun y => decide (y.id > x.id)).length <= r.length := by
  intro r
  induction r with
  | nil => exact Nat.le_refl _
  | cons y r ih =>
   by_cases h1 : y.id < x.id
   ·rw [List.filter_cons_of_pos (by simpa using h1), List.filter_cons_of_neg (by simp; omega)]; simp only [List.length_cons]; omega
   ·rw [List.filter_cons_of_neg (by simpa using h1)]
    by_cases h2 : y.id > x.id
    ·rw [List.filter_cons_of_pos (by simpa using h2)]; simp only [List.length_cons]; omega
    ·rw [List.filter_cons_of_neg (by simpa using h2)]; simp only [List.length_cons]; omega
 have := this l
 simp only [List.length_append, List.length_singleton]; omega
theorem s_fit {s : List (List Int)} {s' : List (List Int)} {n : Nat} (h : s.length <= n /\ (∀ q ∈ s, q.length <= n) /\ (s.map List.length).sum <= n) (e : U53.lens s' = U53.lens s) : s'.length <= n /\ (∀ q ∈ s', q.length <= n) /\ (s'.map List.length).sum <= n := by
 unfold U53.lens at e
 have hl := congrArg List.length e
 rw [List.length_map, List.length_map] at hl
 refine ⟨by omega, fun q hq => ?_, by rw [e]; exact h.2.2⟩
 have hq' : q.length ∈ s'.map List.length := List.mem_map.2 ⟨q, hq, rfl⟩
 rw [e] at hq'
 obtain ⟨q2, h2, h3⟩ := List.mem_map.1 hq'
 have := h.2.1 q2 h2; omega
theorem put_fit {p : Px} (h : p.Fit 48) (id : Int) (key : ByteArray) (b : Bool) (fe : List Fe) (i : Nat) (hf : fe.length <= 49) : (put p id key b fe i).Fit 1000 := by
 have hj := jn_len p.cl ⟨id, key, (i : Int) + 1, 0, 1, (el fe i).t, 0⟩
 have hc := h.cl
 have he := h.en
 have hw := h.w
 have hm := h.m
 have w1 : (without p.w key).length <= p.w.length := List.length_filter_le ..
 have w2 : (without p.m key).length <= p.m.length := List.length_filter_le ..
 have d1 := A_En.drop_len p.en key
 have s1 := s_fit h.s (U53.lens_sk p.s p.a key)
 refine ⟨?_, ?_, ?_, ⟨Nat.le_trans s1.1 (by omega), fun q hq => Nat.le_trans (s1.2.1 q hq) (by omega), Nat.le_trans s1.2.2 (by omega)⟩, by show fe.length <= 1000; omega, by show (jn p.cl _).length <= 1000; omega⟩
 ·show (bif b then _ else _ : List En).length <= 1000
  cases b <;> simp only [cond_true, cond_false] <;> omega
 ·show (bif b then _ else _ : List ByteArray).length <= 1000
  cases b <;> simp only [cond_true, cond_false] <;> omega
 ·show (bif b then _ else _ : List ByteArray).length <= 1000
  cases b <;> simp only [cond_true, cond_false] <;> omega
theorem hit_fit {p : Px} (h : p.Fit 48) (id : Int) (key : ByteArray) (e : En) : (hit p id key e).Fit 1000 := by
 obtain ⟨b1, b2, b3⟩ := U53.val_bd p.w p.m p.s p.a key
 have hj := jn_len p.cl ⟨id, key, 0, e.st, 2, e.bo, p.now - e.st⟩
 have hc := h.cl
 have he := h.en
 have hw := h.w
 have hm := h.m
 have hf := h.fe
 have s1 := s_fit h.s b3
 exact ⟨by show p.en.length <= 1000; omega, by show (U53.val p.w p.m p.s p.a key).1.length <= 1000; omega, by show (U53.val p.w p.m p.s p.a key).2.1.length <= 1000; omega, ⟨Nat.le_trans s1.1 (by omega), fun q hq => Nat.le_trans (s1.2.1 q hq) (by omega), Nat.le_trans s1.2.2 (by omega)⟩, by show p.fe.length <= 1000; omega, by show (jn p.cl _).length <= 1000; omega⟩
theorem miss_fit {p : Px} (h : p.Fit 48) (id : Int) (key : ByteArray) (b : Bool) : (miss p id key b).1.Fit 1000 := by
 unfold miss
 have hf := h.fe
 cases opi p.fe key with
 | some i => exact put_fit h id key b p.fe i (by omega)
 | none =>
  dsimp only
  cases decide (p.fe.length < 20) with
  | true => exact put_fit h id key b _ _ (by simp; omega)
  | false => exact h.le (by omega)
theorem ask_fit {p : Px} (h : p.Fit 1048576) (id : Int) (key : ByteArray) : (A_Ask.ask p id key).1.Fit 1048576 := by
 unfold A_Ask.ask
 cases hb : U43.pxOk p && (decide (1 <= id /\ id <= 9) && (U142.keyOk key && (!A_Ask.hasId p.cl id && decide (p.cl.length < 6)))) with
 | false => exact h
 | true =>
  rw [Bool.and_eq_true] at hb
  have h48 := A_Store.px_fit hb.1
  rw [cond_true]
  cases ent p.en key with
  | none => exact (miss_fit h48 id key false).le (by omega)
  | some e =>
   dsimp only
   cases frs e p.now with
   | true => exact (hit_fit h48 id key e).le (by omega)
   | false => exact (miss_fit h48 id key true).le (by omega)
end Go.FG.A_AskF

namespace Go.FG.U75
theorem run (a : Row) (hl : a.length <= 9223372036854775807) : vo a a = some true := by
 unfold vo b
 rw [show ((a.length : Int) != (a.length : Int)) = false from bne_self_eq_false _, cond_false]
 have := Lib.loop_gen (fun n (i : Nat) => l4 Lib.big (fun (_ _ : Row) (y : Bool) (_ : Int) => some y) (fun (_ _ : Row) (_ : Bool) (_ : Int) => some true) n a a false (i : Int)) (fun i => a.length - i) (fun i => i <= a.length) (fun _ => some true) (fun n i hi => by
  by_cases h : i < a.length
  ·right
   refine ⟨i + 1, h, by omega, rfl, ?_⟩
   have hi1 : w64 ((i : Int) + 1) = ((i + 1 : Nat) : Int) := Lib.w64_ok (by omega) (by omega)
   have hel : ∀ (x0 : ByteArray) (x1 : Int) (x2 : Int) (x3 : ByteArray), U171.v x0 x1 x2 x3 x0 x1 x2 x3 = true := fun _ _ _ _ => by
    simp only [U171.v, bne_self_eq_false, Lib.beq_refl_ba, Bool.not_true, cond_false]
   simp only [l4, r4, Lib.dlt, h, decide_true, Lib.dle0, Bool.and_self, cond_true, Lib.toN, hi1, hel, Bool.not_true, cond_false]
  ·left
   simp only [l4, r4, Lib.dlt, h, decide_false, cond_false]) Lib.big 0 (Nat.zero_le _) (Lib.lt_big (by omega))
 exact this
theorem ok (a : Row) (hl : a.length <= 9223372036854775807) : c a a = true /\ v a a = true := out a a (run a hl)
end Go.FG.U75

namespace Go.FG.U172
theorem run (a : Row) (hl : a.length <= 9223372036854775807) : vo a a = some true := by
 unfold vo b
 rw [show ((a.length : Int) != (a.length : Int)) = false from bne_self_eq_false _, cond_false]
 have := Lib.loop_gen (fun n (i : Nat) => l4 Lib.big (fun (_ _ : Row) (y : Bool) (_ : Int) => some y) (fun (_ _ : Row) (_ : Bool) (_ : Int) => some true) n a a false (i : Int)) (fun i => a.length - i) (fun i => i <= a.length) (fun _ => some true) (fun n i hi => by
  by_cases h : i < a.length
  ·right
   refine ⟨i + 1, h, by omega, rfl, ?_⟩
   have hi1 : w64 ((i : Int) + 1) = ((i + 1 : Nat) : Int) := Lib.w64_ok (by omega) (by omega)
   simp only [l4, r4, Lib.dlt, h, decide_true, Lib.dle0, Bool.and_self, cond_true, Lib.toN, hi1, bne_self_eq_false, Lib.beq_refl_ba, Bool.not_true, cond_false]
  ·left
   simp only [l4, r4, Lib.dlt, h, decide_false, cond_false]) Lib.big 0 (Nat.zero_le _) (Lib.lt_big (by omega))
 exact this
theorem ok (a : Row) (hl : a.length <= 9223372036854775807) : c a a = true /\ v a a = true := out a a (run a hl)
end Go.FG.U172

namespace Go.FG.U225
theorem run (a : Row) (hl : a.length <= 9223372036854775807) : vo a a = some true := by
 unfold vo b
 rw [show ((a.length : Int) != (a.length : Int)) = false from bne_self_eq_false _, cond_false]
 have := Lib.loop_gen (fun n (i : Nat) => l4 Lib.big (fun (_ _ : Row) (y : Bool) (_ : Int) => some y) (fun (_ _ : Row) (_ : Bool) (_ : Int) => some true) n a a false (i : Int)) (fun i => a.length - i) (fun i => i <= a.length) (fun _ => some true) (fun n i hi => by
  by_cases h : i < a.length
  ·right
   refine ⟨i + 1, h, by omega, rfl, ?_⟩
   have hi1 : w64 ((i : Int) + 1) = ((i + 1 : Nat) : Int) := Lib.w64_ok (by omega) (by omega)
   simp only [l4, r4, Lib.dlt, h, decide_true, Lib.dle0, Bool.and_self, cond_true, Lib.toN, hi1, U124.refl, Bool.not_true, cond_false]
  ·left
   simp only [l4, r4, Lib.dlt, h, decide_false, cond_false]) Lib.big 0 (Nat.zero_le _) (Lib.lt_big (by omega))
 exact this
theorem ok (a : Row) (hl : a.length <= 9223372036854775807) : c a a = true /\ v a a = true := out a a (run a hl)
end Go.FG.U225

namespace Go.FG.U173
theorem ok (r : Row) (k : Int) (hl : r.length <= 9223372036854775807) : c r k r k = true /\ v r k r k = true := by
 have h := U225.ok r hl
 exact out r k r k (by unfold vo b; rw [h.1, h.2, bne_self_eq_false]; rfl)
end Go.FG.U173

namespace Go.FG.U76
theorem ok (r0 r1 r2 : Row) (k : Int) (h0 : r0.length <= 9223372036854775807) (h1 : r1.length <= 9223372036854775807) (h2 : r2.length <= 9223372036854775807) : c r0 r1 r2 k r0 r1 r2 k = true /\ v r0 r1 r2 k r0 r1 r2 k = true := by
 have a0 := U172.ok r0 h0
 have a1 := U172.ok r1 h1
 have a2 := U173.ok r2 k h2
 exact out r0 r1 r2 k r0 r1 r2 k (by unfold vo b; rw [a0.1, a0.2, a1.1, a1.2, a2.1, a2.2]; rfl)
end Go.FG.U76

namespace Go.FG.U77
theorem run (a : Row) (hl : a.length <= 9223372036854775807) : vo a a = some true := by
 unfold vo b
 rw [show ((a.length : Int) != (a.length : Int)) = false from bne_self_eq_false _, cond_false]
 have := Lib.loop_gen (fun n (i : Nat) => l4 Lib.big (fun (_ _ : Row) (y : Bool) (_ : Int) => some y) (fun (_ _ : Row) (_ : Bool) (_ : Int) => some true) n a a false (i : Int)) (fun i => a.length - i) (fun i => i <= a.length) (fun _ => some true) (fun n i hi => by
  by_cases h : i < a.length
  ·right
   refine ⟨i + 1, h, by omega, rfl, ?_⟩
   have hi1 : w64 ((i : Int) + 1) = ((i + 1 : Nat) : Int) := Lib.w64_ok (by omega) (by omega)
   have hel : ∀ (x0 : ByteArray) (x1 : ByteArray) (x2 : Int) (x3 : Int) (x4 : Int), U174.v x0 x1 x2 x3 x4 x0 x1 x2 x3 x4 = true := fun _ _ _ _ _ => by
    simp only [U174.v, bne_self_eq_false, Lib.beq_refl_ba, Bool.not_true, cond_false]
   simp only [l4, r4, Lib.dlt, h, decide_true, Lib.dle0, Bool.and_self, cond_true, Lib.toN, hi1, hel, Bool.not_true, cond_false]
  ·left
   simp only [l4, r4, Lib.dlt, h, decide_false, cond_false]) Lib.big 0 (Nat.zero_le _) (Lib.lt_big (by omega))
 exact this
theorem ok (a : Row) (hl : a.length <= 9223372036854775807) : c a a = true /\ v a a = true := out a a (run a hl)
end Go.FG.U77

namespace Go.FG.U78
theorem run (a : Row) (hl : a.length <= 9223372036854775807) : vo a a = some true := by
 unfold vo b
 rw [show ((a.length : Int) != (a.length : Int)) = false from bne_self_eq_false _, cond_false]
 have := Lib.loop_gen (fun n (i : Nat) => l4 Lib.big (fun (_ _ : Row) (y : Bool) (_ : Int) => some y) (fun (_ _ : Row) (_ : Bool) (_ : Int) => some true) n a a false (i : Int)) (fun i => a.length - i) (fun i => i <= a.length) (fun _ => some true) (fun n i hi => by
  by_cases h : i < a.length
  ·right
   refine ⟨i + 1, h, by omega, rfl, ?_⟩
   have hi1 : w64 ((i : Int) + 1) = ((i + 1 : Nat) : Int) := Lib.w64_ok (by omega) (by omega)
   have hel : ∀ (x0 : Int) (x1 : ByteArray) (x2 : Int) (x3 : Int) (x4 : Int) (x5 : ByteArray) (x6 : Int), U175.v x0 x1 x2 x3 x4 x5 x6 x0 x1 x2 x3 x4 x5 x6 = true := fun _ _ _ _ _ _ _ => by
    simp only [U175.v, bne_self_eq_false, Lib.beq_refl_ba, Bool.not_true, cond_false]
   simp only [l4, r4, Lib.dlt, h, decide_true, Lib.dle0, Bool.and_self, cond_true, Lib.toN, hi1, hel, Bool.not_true, cond_false]
  ·left
   simp only [l4, r4, Lib.dlt, h, decide_false, cond_false]) Lib.big 0 (Nat.zero_le _) (Lib.lt_big (by omega))
 exact this
theorem ok (a : Row) (hl : a.length <= 9223372036854775807) : c a a = true /\ v a a = true := out a a (run a hl)
end Go.FG.U78

namespace Go.FG.U12
theorem ok (i0 : Int) (r1 r2 r3 r4 : Row) (i5 : Int) (r6 r7 : Row) (i8 : Int) (h1 : r1.length <= 9223372036854775807) (h2 : r2.length <= 9223372036854775807) (h3 : r3.length <= 9223372036854775807) (h4 : r4.length <= 9223372036854775807) (h6 : r6.length <= 9223372036854775807) (h7 : r7.length <= 9223372036854775807) :
  c i0 r1 r2 r3 r4 i5 r6 r7 i8 i0 r1 r2 r3 r4 i5 r6 r7 i8 = true /\ v i0 r1 r2 r3 r4 i5 r6 r7 i8 i0 r1 r2 r3 r4 i5 r6 r7 i8 = true := by
 have a1 := U75.ok r1 h1
 have a2 := U76.ok r2 r3 r4 i5 h2 h3 h4
 have a3 := U77.ok r6 h6
 have a4 := U78.ok r7 h7
 exact out _ _ _ _ _ _ _ _ _ _ _ _ _ _ _ _ _ _ (by unfold vo b; rw [a1.1, a1.2, a2.1, a2.2, a3.1, a3.2, a4.1, a4.2, bne_self_eq_false, bne_self_eq_false]; rfl)
theorem refl (p : Lib.Px) (hp : p.Fit 1048576) : c p.now (Lib.re p.en) (Lib.rs p.w) (Lib.rs p.m) (Lib.rr p.s) p.a (Lib.rf p.fe) (Lib.rc p.cl) p.hits p.now (Lib.re p.en) (Lib.rs p.w) (Lib.rs p.m) (Lib.rr p.s) p.a (Lib.rf p.fe) (Lib.rc p.cl) p.hits = true /\ v p.now (Lib.re p.en) (Lib.rs p.w) (Lib.rs p.m) (Lib.rr p.s) p.a (Lib.rf p.fe) (Lib.rc p.cl) p.hits p.now (Lib.re p.en) (Lib.rs p.w) (Lib.rs p.m) (Lib.rr p.s) p.a (Lib.rf p.fe) (Lib.rc p.cl) p.hits = true :=
 ok p.now (Lib.re p.en) (Lib.rs p.w) (Lib.rs p.m) (Lib.rr p.s) p.a (Lib.rf p.fe) (Lib.rc p.cl) p.hits (by rw [Lib.re_len]; have := hp.en; omega) (by rw [Lib.rs_len]; have := hp.w; omega) (by rw [Lib.rs_len]; have := hp.m; omega) (by rw [Lib.rr_len]; have := hp.s.1; omega) (by rw [Lib.rf_len]; have := hp.fe; omega) (by rw [Lib.rc_len]; have := hp.cl; omega)
end Go.FG.U12

namespace Go.FG.U254
def row (k : Int) : List CV := [CV.i IntKind.i64 (k)]
def mkl (k : Int) (n : Nat) : Row := (List.range n).map fun (j : Nat) => row (k + 1 * (j : Int))
theorem mkl_len (k : Int) (n : Nat) : (mkl k n).length = n := by unfold mkl; simp
theorem sp0 (y0 x : CV) : splice [y0] 0 [x] = [x] := rfl
theorem run (a0 : Row) (k1 : Int) (hs : ∀ y ∈ a0, y.length = 1) (hl : a0.length <= 4194304) (h0 : 0 <= k1) (h1 : k1 <= 1000000000000) : vo a0 k1 = some (k1 + 1 * (a0.length : Int), mkl k1 a0.length) := by
 unfold vo b
 have := Lib.loop_gen (fun n (i : Nat) => l2 Lib.big (fun (y3 y4 : Int) (y5 : Row) => some (y3, y5)) n (k1 + 1 * (i : Int)) (i : Int) (mkl k1 i ++ a0.drop i)) (fun i => a0.length - i) (fun i => i <= a0.length) (fun _ => some (k1 + 1 * (a0.length : Int), mkl k1 a0.length)) (fun n i hi => by
  have hml := mkl_len k1 i
  by_cases h : i < a0.length
  ·right
   refine ⟨i + 1, h, by omega, rfl, ?_⟩
   have e3 : mkl k1 (i + 1) ++ a0.drop (i + 1) = mkl k1 i ++ row (k1 + 1 * (i : Int)) :: a0.drop (i + 1) := by
    unfold mkl; rw [Lib.range_map_succ, List.append_assoc]; rfl
   have eA : k1 + 1 * ((i + 1 : Nat) : Int) = (k1 + 1 * (i : Int)) + 1 := by omega
   show l2 Lib.big _ (n + 1) (k1 + 1 * (i : Int)) (i : Int) (mkl k1 i ++ a0.drop i) = l2 Lib.big _ n (k1 + 1 * ((i + 1 : Nat) : Int)) ((i + 1 : Nat) : Int) (mkl k1 (i + 1) ++ a0.drop (i + 1))
   rw [eA, e3, Lib.drop_cons_of h]
   have hy := hs _ (List.getElem_mem h)
   have hk0 : 0 <= k1 + 1 * (i : Int) := by omega
   have hk1 : k1 + 1 * (i : Int) <= 2000000000000 := by omega
   generalize k1 + 1 * (i : Int) = k at hk0 hk1
   generalize a0[i] = y at hy
   obtain ⟨y0, rfl⟩ : ∃ y0, y = [y0] := by
    match y, hy with
    | [y0], _ => exact ⟨y0, rfl⟩
   have hd : ∀ z : List CV, decide ((i : Int) < ((mkl k1 i ++ z :: a0.drop (i + 1)).length : Int)) = true := fun z => by
    rw [Lib.len_mid, hml]; exact decide_eq_true (by omega)
   have hi1 : w64 ((i : Int) + 1) = ((i + 1 : Nat) : Int) := Lib.w64_ok (by omega) (by omega)
   simp only [l2, r2, Lib.length_setC, hd, Lib.dle0, Bool.and_self, cond_true, Lib.toN, Lib.setC_mid _ _ _ _ _ _ hml, sp0, Lib.w64_ok (x := k + 1) (by omega) (by omega), hi1]
   rfl
  ·left
   have : i = a0.length := by omega
   subst this
   show l2 Lib.big _ (n + 1) (k1 + 1 * (a0.length : Int)) (a0.length : Int) (mkl k1 a0.length ++ a0.drop a0.length) = _
   rw [List.drop_length, List.append_nil]
   simp only [l2, r2, hml, Lib.dlt, Nat.lt_irrefl, decide_false, cond_false]) Lib.big 0 (Nat.zero_le _) (Lib.lt_big (by omega))
 have e0 : mkl k1 0 ++ a0.drop 0 = a0 := rfl
 rw [e0] at this
 simpa using this
theorem ok (a0 : Row) (k1 : Int) (hs : ∀ y ∈ a0, y.length = 1) (hl : a0.length <= 4194304) (h0 : 0 <= k1) (h1 : k1 <= 1000000000000) : c a0 k1 = true /\ v a0 k1 = (k1 + 1 * (a0.length : Int), mkl k1 a0.length) := out a0 k1 (run a0 k1 hs hl h0 h1)
end Go.FG.U254

namespace Go.FG.U226
open Lib (rr ri)
def sm (l : List Nat) : Int := (l.sum : Nat)
def lens (s : List (List Int)) : List Nat := s.map List.length
def mkk : Int -> List Nat -> Row
 | _, [] => []
 | k, n :: r => [CV.l 3 (U254.mkl k n)] :: mkk (k + n) r
theorem mkk_snoc : ∀ (l : List Nat) (k : Int) (n : Nat), mkk k (l ++ [n]) = mkk k l ++ [[CV.l 3 (U254.mkl (k + sm l) n)]]
 | [], k, n => by simp [mkk, sm]
 | m :: l, k, n => by
  have e : k + (m : Int) + sm l = k + sm (m :: l) := by unfold sm; rw [List.sum_cons]; omega
  simp only [List.cons_append, mkk]
  rw [mkk_snoc l (k + m) n, e]
theorem mkk_len : ∀ (l : List Nat) (k : Int), (mkk k l).length = l.length
 | [], _ => rfl
 | n :: l, k => by simp [mkk, mkk_len l]
theorem sm_succ (s : List (List Int)) (i : Nat) (h : i < s.length) : sm (lens (s.take (i + 1))) = sm (lens (s.take i)) + (s[i].length : Int) := by
 unfold sm lens
 rw [List.take_succ_eq_append_getElem h, List.map_append, List.sum_append]; simp
theorem lens_snoc (s : List (List Int)) (i : Nat) (h : i < s.length) : lens (s.take (i + 1)) = lens (s.take i) ++ [s[i].length] := by
 unfold lens
 rw [List.take_succ_eq_append_getElem h, List.map_append]; rfl
theorem sm_take (s : List (List Int)) (i : Nat) : 0 <= sm (lens (s.take i)) /\ sm (lens (s.take i)) <= sm (lens s) := by
 unfold sm lens
 refine ⟨by omega, ?_⟩
 have e : (s.map List.length).sum = ((s.take i).map List.length).sum + ((s.drop i).map List.length).sum := by
  rw [<- List.sum_append, <- List.map_append, List.take_append_drop]
 rw [e]; omega
theorem at_le (s : List (List Int)) (i : Nat) (h : i < s.length) : (s[i].length : Int) <= sm (lens s) := by
 have h1 := sm_succ s i h
 have h2 := sm_take s (i + 1)
 have h3 := sm_take s i
 omega
theorem ri_sh (q : List Int) : ∀ y ∈ ri q, y.length = 1 := by
 intro y hy; unfold Lib.ri at hy; obtain ⟨z, _, rfl⟩ := List.mem_map.1 hy; rfl
theorem ok (s : List (List Int)) (k : Int) (hl : s.length <= 4194304) (ht : sm (lens s) <= 4194304) (h0 : 0 <= k) (h1 : k <= 500000000000) : c (rr s) k = true /\ v (rr s) k = (k + sm (lens s), mkk k (lens s)) := by
 refine out _ _ ?_
 unfold vo b
 have key := Lib.for_run s.length (fun m (i : Nat) (t : Int × Row) => l2 Lib.big (fun (y3 _ : Int) (y5 : Row) => some (y3, y5)) m t.1 (i : Int) t.2) (fun i => (k + sm (lens (s.take i)), mkk k (lens (s.take i)) ++ rr (s.drop i))) (some (k + sm (lens s), mkk k (lens s))) (fun m i h => by
  dsimp only
  have hA : (mkk k (lens (s.take i))).length = i := by rw [mkk_len]; unfold lens; simp; omega
  have hd : rr (s.drop i) = [CV.l 3 (ri s[i])] :: rr (s.drop (i + 1)) := by
   unfold Lib.rr; rw [List.drop_eq_getElem_cons h, List.map_cons]
  have hb := sm_take s i
  have ha := at_le s i h
  have hm := U254.ok (ri s[i]) (k + sm (lens (s.take i))) (ri_sh _) (by rw [Lib.ri_len]; omega) (by omega) (by omega)
  rw [Lib.ri_len] at hm
  rw [hd]
  have hdl : ∀ z : List CV, decide ((i : Int) < ((mkk k (lens (s.take i)) ++ z :: rr (s.drop (i + 1))).length : Int)) = true := fun z => by
   rw [Lib.len_mid, hA]; exact decide_eq_true (by omega)
  simp only [l2, r2, hdl, Lib.dle0, Bool.and_self, cond_true, Lib.toN, Lib.cellAt_mid _ _ _ _ _ hA, List.getD_cons_zero, cvL, hm.1, hm.2, Lib.setC_mid _ _ _ _ _ _ hA, Lib.w64_s h (by omega : s.length <= 9223372036854775807)]
  rw [sm_succ s i h, lens_snoc s i h, mkk_snoc, List.append_assoc, show k + sm (lens (s.take i)) + 1 * (s[i].length : Int) = k + (sm (lens (s.take i)) + (s[i].length : Int)) by omega]
  rfl) (fun m => by
  have hA : (mkk k (lens s)).length = s.length := by rw [mkk_len]; unfold lens; simp
  simp only [List.take_length, List.drop_length, show rr [] = [] from rfl, List.append_nil, l2, r2, hA, Lib.dlt, Nat.lt_irrefl, decide_false, cond_false]) Lib.big 0 (Nat.zero_le _) (Lib.lt_big (by omega))
 dsimp only [List.take_zero, List.drop_zero] at key
 rw [show sm (lens []) = 0 from rfl, Int.add_zero] at key
 exact key
end Go.FG.U226

namespace Go.FG.U176
theorem post (k : Int) (h1 : k <= 1152921504606846976) : ∃ x, vo k = some x := by
 unfold vo b
 cases h : decide (k <= 0) with
 | true => exact ⟨_, rfl⟩
 | false =>
  rw [cond_false]
  have h0 : ¬ k <= 0 := of_decide_eq_false h
  obtain ⟨x, hx, _⟩ := Lib.loop_post (fun n (s : Int × ByteArray) => l4 Lib.big (fun (y2 : Int) (y3 : ByteArray) => bif (decide (ByteArray.size { data := #[UInt8.ofNat 109] } + ByteArray.size y3 <= 4611686018427387904)) then some ({ data := #[UInt8.ofNat 109] } ++ y3) else none) n s.1 s.2)
   (fun s => s.1.toNat) (fun s => 0 <= s.1 /\ (s.2.size : Int) + s.1 <= 1152921504606846976) (fun _ => True) (fun n s hs => by
    obtain ⟨x, t⟩ := s
    obtain ⟨a1, a2⟩ := hs
    dsimp only at a1 a2 ⊢
    have hsz : ByteArray.size (bytesOf (List.set (zeros [Ck.i IntKind.u8] 1) 0 [CV.i IntKind.u8 (IntKind.wrap IntKind.u8 (w64 (48 + Int.tmod x 10)))])) = 1 := by rw [Lib.size_bytesOf, List.length_set]; rfl
    by_cases hx : x > 0
    ·right
     have e1 : Int.tdiv x 10 = x / 10 := Int.tdiv_eq_ediv_of_nonneg (by omega)
     refine ⟨(w64 (Int.tdiv x 10), bytesOf (List.set (zeros [Ck.i IntKind.u8] 1) 0 [CV.i IntKind.u8 (IntKind.wrap IntKind.u8 (w64 (48 + Int.tmod x 10)))]) ++ t), ?_, ?_, ?_⟩
     ·dsimp only
      rw [e1, Lib.w64_ok (by omega) (by omega), Lib.size_app, hsz]; omega
     ·dsimp only; rw [e1, Lib.w64_ok (by omega) (by omega)]; omega
     ·simp only [l4, r4, decide_eq_true hx, cond_true, hsz]
      rw [Lib.bif_t (Lib.dnat (by omega))]
    ·left
     refine ⟨{ data := #[UInt8.ofNat 109] } ++ t, ?_, trivial⟩
     simp only [l4, r4, decide_eq_false hx, cond_false]
     exact Lib.bif_t (Lib.dnat (show ByteArray.size { data := #[UInt8.ofNat 109] } + t.size <= _ by rw [show ByteArray.size { data := #[UInt8.ofNat 109] } = 1 from rfl]; omega))) Lib.big (k, ⟨#[]⟩) ⟨by dsimp only; omega, by dsimp only; rw [show ByteArray.size ⟨#[]⟩ = 0 from rfl]; omega⟩ (Lib.lt_big (by dsimp only; omega))
  exact ⟨x, hx⟩
theorem ok (k : Int) (h1 : k <= 1152921504606846976) : c k = true := by
 obtain ⟨x, h⟩ := post k h1
 exact (out k h).1
end Go.FG.U176

namespace Go.FG.U177
def row (k : Int) : List CV := [CV.s (U176.v (k))]
def mkl (k : Int) (n : Nat) : Row := (List.range n).map fun (j : Nat) => row (k + 1 * (j : Int))
theorem mkl_len (k : Int) (n : Nat) : (mkl k n).length = n := by unfold mkl; simp
theorem sp0 (y0 x : CV) : splice [y0] 0 [x] = [x] := rfl
theorem run (a0 : Row) (k1 : Int) (hs : ∀ y ∈ a0, y.length = 1) (hl : a0.length <= 4194304) (h0 : 0 <= k1) (h1 : k1 <= 1000000000000) : vo a0 k1 = some (k1 + 1 * (a0.length : Int), mkl k1 a0.length) := by
 unfold vo b
 have := Lib.loop_gen (fun n (i : Nat) => l2 Lib.big (fun (y3 y4 : Int) (y5 : Row) => some (y3, y5)) n (k1 + 1 * (i : Int)) (i : Int) (mkl k1 i ++ a0.drop i)) (fun i => a0.length - i) (fun i => i <= a0.length) (fun _ => some (k1 + 1 * (a0.length : Int), mkl k1 a0.length)) (fun n i hi => by
  have hml := mkl_len k1 i
  by_cases h : i < a0.length
  ·right
   refine ⟨i + 1, h, by omega, rfl, ?_⟩
   have e3 : mkl k1 (i + 1) ++ a0.drop (i + 1) = mkl k1 i ++ row (k1 + 1 * (i : Int)) :: a0.drop (i + 1) := by
    unfold mkl; rw [Lib.range_map_succ, List.append_assoc]; rfl
   have eA : k1 + 1 * ((i + 1 : Nat) : Int) = (k1 + 1 * (i : Int)) + 1 := by omega
   show l2 Lib.big _ (n + 1) (k1 + 1 * (i : Int)) (i : Int) (mkl k1 i ++ a0.drop i) = l2 Lib.big _ n (k1 + 1 * ((i + 1 : Nat) : Int)) ((i + 1 : Nat) : Int) (mkl k1 (i + 1) ++ a0.drop (i + 1))
   rw [eA, e3, Lib.drop_cons_of h]
   have hy := hs _ (List.getElem_mem h)
   have hk0 : 0 <= k1 + 1 * (i : Int) := by omega
   have hk1 : k1 + 1 * (i : Int) <= 2000000000000 := by omega
   generalize k1 + 1 * (i : Int) = k at hk0 hk1
   generalize a0[i] = y at hy
   obtain ⟨y0, rfl⟩ : ∃ y0, y = [y0] := by
    match y, hy with
    | [y0], _ => exact ⟨y0, rfl⟩
   have hd : ∀ z : List CV, decide ((i : Int) < ((mkl k1 i ++ z :: a0.drop (i + 1)).length : Int)) = true := fun z => by
    rw [Lib.len_mid, hml]; exact decide_eq_true (by omega)
   have hi1 : w64 ((i : Int) + 1) = ((i + 1 : Nat) : Int) := Lib.w64_ok (by omega) (by omega)
   simp only [l2, r2, Lib.length_setC, hd, Lib.dle0, Bool.and_self, cond_true, Lib.toN, Lib.setC_mid _ _ _ _ _ _ hml, sp0, Lib.w64_ok (x := k + 1) (by omega) (by omega), U176.ok (k) (by omega), hi1]
   rfl
  ·left
   have : i = a0.length := by omega
   subst this
   show l2 Lib.big _ (n + 1) (k1 + 1 * (a0.length : Int)) (a0.length : Int) (mkl k1 a0.length ++ a0.drop a0.length) = _
   rw [List.drop_length, List.append_nil]
   simp only [l2, r2, hml, Lib.dlt, Nat.lt_irrefl, decide_false, cond_false]) Lib.big 0 (Nat.zero_le _) (Lib.lt_big (by omega))
 have e0 : mkl k1 0 ++ a0.drop 0 = a0 := rfl
 rw [e0] at this
 simpa using this
theorem ok (a0 : Row) (k1 : Int) (hs : ∀ y ∈ a0, y.length = 1) (hl : a0.length <= 4194304) (h0 : 0 <= k1) (h1 : k1 <= 1000000000000) : c a0 k1 = true /\ v a0 k1 = (k1 + 1 * (a0.length : Int), mkl k1 a0.length) := out a0 k1 (run a0 k1 hs hl h0 h1)
end Go.FG.U177

namespace Go.FG.U178
open Lib (rr)
open U226 (mkk sm lens)
theorem ok (s : List (List Int)) (a k : Int) (hl : s.length <= 4194304) (ht : sm (lens s) <= 4194304) (h0 : 0 <= k) (h1 : k <= 500000000000) : c (rr s) a k = true /\ v (rr s) a k = (k + sm (lens s), mkk k (lens s)) := by
 have h := U226.ok s k hl ht h0 h1
 exact out _ _ _ (by unfold vo b; rw [h.1, h.2, cond_true])
end Go.FG.U178

namespace Go.FG.U80
open Lib (rr rs)
open U226 (mkk sm lens)
theorem rs_sh (q : List ByteArray) : ∀ y ∈ rs q, y.length = 1 := by
 intro y hy; unfold Lib.rs at hy; obtain ⟨z, _, rfl⟩ := List.mem_map.1 hy; rfl
def n1 (k : Int) (w : Nat) : Int := k + 1 * (w : Int)
theorem ok (w m : List ByteArray) (s : List (List Int)) (a k : Int) (hw : w.length <= 2097152) (hm : m.length <= 2097152) (hl : s.length <= 4194304) (ht : sm (lens s) <= 4194304) (h0 : 0 <= k) (h1 : k <= 400000000000) : c (rs w) (rs m) (rr s) a k = true /\
  v (rs w) (rs m) (rr s) a k = (n1 (n1 k w.length) m.length + sm (lens s), U177.mkl k w.length, U177.mkl (n1 k w.length) m.length, mkk (n1 (n1 k w.length) m.length) (lens s)) := by
 have a1 := U177.ok (rs w) k (rs_sh w) (by rw [Lib.rs_len]; omega) h0 (by omega)
 have a2 := U177.ok (rs m) (n1 k w.length) (rs_sh m) (by rw [Lib.rs_len]; omega) (by unfold n1; omega) (by unfold n1; omega)
 have a3 := U178.ok s a (n1 (n1 k w.length) m.length) hl ht (by unfold n1; omega) (by unfold n1; omega)
 rw [Lib.rs_len] at a1 a2
 unfold n1 at a2 a3 ⊢
 exact out _ _ _ _ _ (by unfold vo b; simp only [a1.1, a1.2, a2.1, a2.2, a3.1, a3.2, cond_true])
end Go.FG.U80

namespace Go.FG.U255
theorem run (k1 : Int) (a : Nat) (hl : a <= 4194304) (h0 : 0 <= k1) (h1 : k1 <= 1000000000000) : vo (U254.mkl k1 a) k1 = some (k1 + 1 * (a : Int)) := by
 have hml := U254.mkl_len k1 a
 unfold vo b
 have := Lib.loop_gen (fun n (i : Nat) => l2 Lib.big (fun (_ : Row) (_ y6 _ : Int) => some y6) (fun (_ : Row) (y9 _ _ : Int) => some y9) n (U254.mkl k1 a) (k1 + 1 * (i : Int)) 0 (i : Int)) (fun i => a - i) (fun i => i <= a) (fun _ => some (k1 + 1 * (a : Int))) (fun n i hi => by
  by_cases h : i < a
  ·right
   refine ⟨i + 1, h, by omega, rfl, ?_⟩
   have eA : k1 + 1 * ((i + 1 : Nat) : Int) = (k1 + 1 * (i : Int)) + 1 := by omega
   show l2 Lib.big _ _ (n + 1) (U254.mkl k1 a) (k1 + 1 * (i : Int)) 0 (i : Int) = l2 Lib.big _ _ n (U254.mkl k1 a) (k1 + 1 * ((i + 1 : Nat) : Int)) 0 ((i + 1 : Nat) : Int)
   rw [eA]
   have ce0 : cvI (cellAt (U254.mkl k1 a) i 0) = k1 + 1 * (i : Int) := by
    unfold U254.mkl; rw [Lib.cellAt_rm _ _ _ _ h]; rfl
   have hk0 : 0 <= k1 + 1 * (i : Int) := by omega
   have hk1 : k1 + 1 * (i : Int) <= 2000000000000 := by omega
   generalize k1 + 1 * (i : Int) = k at *
   have hi1 : w64 ((i : Int) + 1) = ((i + 1 : Nat) : Int) := Lib.w64_ok (by omega) (by omega)
   simp only [l2, r2, hml, Lib.dlt, h, decide_true, Lib.dle0, Bool.and_self, cond_true, Lib.toN, ce0, Lib.w64_ok (x := k + 1) (by omega) (by omega), hi1, bne_self_eq_false, cond_false, Lib.beq_refl_ba, Bool.not_true]
  ·left
   have : i = a := by omega
   subst this
   simp only [l2, r2, hml, Lib.dlt, Nat.lt_irrefl, decide_false, cond_false]) Lib.big 0 (Nat.zero_le _) (Lib.lt_big (by omega))
 simpa using this
theorem ok (k1 : Int) (a : Nat) (hl : a <= 4194304) (h0 : 0 <= k1) (h1 : k1 <= 1000000000000) : c (U254.mkl k1 a) k1 = true /\ v (U254.mkl k1 a) k1 = k1 + 1 * (a : Int) := out _ _ (run k1 a hl h0 h1)
end Go.FG.U255

namespace Go.FG.U227
open U226 (mkk mkk_len sm)
theorem sm_cons (n : Nat) (l : List Nat) : sm (n :: l) = (n : Int) + sm l := by unfold sm; rw [List.sum_cons]; omega
theorem sm_nn (l : List Nat) : 0 <= sm l := by unfold sm; omega
theorem cells : ∀ (l : List Nat) (k : Int) (i : Nat) (h : i < l.length), cellAt (mkk k l) i 0 = CV.l 3 (U254.mkl (k + sm (l.take i)) l[i])
 | n :: l, k, 0, h => by simp [mkk, cellAt, sm]
 | n :: l, k, i + 1, h => by
  have := cells l (k + n) i (by simpa using h)
  rw [List.take_succ_cons, sm_cons, List.getElem_cons_succ]
  rw [show k + ((n : Int) + sm (l.take i)) = k + n + sm (l.take i) by omega, <- this]
  rfl
theorem sm_split (l : List Nat) (i : Nat) (h : i < l.length) : sm (l.take (i + 1)) = sm (l.take i) + (l[i] : Int) := by
 unfold sm; rw [List.take_succ_eq_append_getElem h, List.sum_append]; simp
theorem sm_le (l : List Nat) (i : Nat) : sm (l.take i) <= sm l := by
 unfold sm
 have e : l.sum = (l.take i).sum + (l.drop i).sum := by rw [<- List.sum_append, List.take_append_drop]
 rw [e]; omega
theorem ok (k : Int) (l : List Nat) (hl : l.length <= 4194304) (ht : sm l <= 4194304) (h0 : 0 <= k) (h1 : k <= 500000000000) : c (mkk k l) k = true /\ v (mkk k l) k = k + sm l := by
 refine out _ _ ?_
 unfold vo b
 have key := Lib.for_run l.length (fun m (i : Nat) (t : Int) => l2 Lib.big (fun (_ : Row) (_ y6 _ : Int) => some y6) (fun (_ : Row) (y9 _ _ : Int) => some y9) m (mkk k l) t 0 (i : Int)) (fun i => k + sm (l.take i)) (some (k + sm l)) (fun m i h => by
  have hb := sm_nn (l.take i)
  have hc := sm_split l i h
  have hd := sm_le l (i + 1)
  have hm := U255.ok (k + sm (l.take i)) l[i] (by omega) (by omega) (by omega)
  simp only [l2, r2, mkk_len, Lib.dlt, h, decide_true, Lib.dle0, Bool.and_self, cond_true, Lib.toN, cells l k i h, cvL, hm.1, hm.2, Lib.w64_s h (by omega : l.length <= 9223372036854775807)]
  rw [decide_eq_false (show ¬ k + sm (l.take i) + 1 * (l[i] : Int) < 0 by omega), cond_false, hc, show k + sm (l.take i) + 1 * (l[i] : Int) = k + (sm (l.take i) + (l[i] : Int)) by omega]) (fun m => by
  simp only [List.take_length, l2, r2, mkk_len, Lib.dlt, Nat.lt_irrefl, decide_false, cond_false]) Lib.big 0 (Nat.zero_le _) (Lib.lt_big (by omega))
 dsimp only [List.take_zero] at key
 rw [show sm [] = 0 from rfl, Int.add_zero] at key
 exact key
end Go.FG.U227

namespace Go.FG.U79
def row (k : Int) : List CV := [CV.s (U176.v (k)), CV.i IntKind.i64 (k + 1), CV.i IntKind.i64 (k + 1 + 1), CV.s (U176.v (k + 1 + 1 + 1))]
def mkl (k : Int) (n : Nat) : Row := (List.range n).map fun (j : Nat) => row (k + 4 * (j : Int))
theorem mkl_len (k : Int) (n : Nat) : (mkl k n).length = n := by unfold mkl; simp
theorem sp0 (y0 y1 y2 y3 x : CV) : splice [y0, y1, y2, y3] 0 [x] = [x, y1, y2, y3] := rfl
theorem sp1 (y0 y1 y2 y3 x : CV) : splice [y0, y1, y2, y3] 1 [x] = [y0, x, y2, y3] := rfl
theorem sp2 (y0 y1 y2 y3 x : CV) : splice [y0, y1, y2, y3] 2 [x] = [y0, y1, x, y3] := rfl
theorem sp3 (y0 y1 y2 y3 x : CV) : splice [y0, y1, y2, y3] 3 [x] = [y0, y1, y2, x] := rfl
theorem run (a0 : Row) (k1 : Int) (hs : ∀ y ∈ a0, y.length = 4) (hl : a0.length <= 4194304) (h0 : 0 <= k1) (h1 : k1 <= 1000000000000) : vo a0 k1 = some (k1 + 4 * (a0.length : Int), mkl k1 a0.length) := by
 unfold vo b
 have := Lib.loop_gen (fun n (i : Nat) => l2 Lib.big (fun (y3 y4 : Int) (y5 : Row) => some (y3, y5)) n (k1 + 4 * (i : Int)) (i : Int) (mkl k1 i ++ a0.drop i)) (fun i => a0.length - i) (fun i => i <= a0.length) (fun _ => some (k1 + 4 * (a0.length : Int), mkl k1 a0.length)) (fun n i hi => by
  have hml := mkl_len k1 i
  by_cases h : i < a0.length
  ·right
   refine ⟨i + 1, h, by omega, rfl, ?_⟩
   have e3 : mkl k1 (i + 1) ++ a0.drop (i + 1) = mkl k1 i ++ row (k1 + 4 * (i : Int)) :: a0.drop (i + 1) := by
    unfold mkl; rw [Lib.range_map_succ, List.append_assoc]; rfl
   have eA : k1 + 4 * ((i + 1 : Nat) : Int) = (k1 + 4 * (i : Int)) + 1 + 1 + 1 + 1 := by omega
   show l2 Lib.big _ (n + 1) (k1 + 4 * (i : Int)) (i : Int) (mkl k1 i ++ a0.drop i) = l2 Lib.big _ n (k1 + 4 * ((i + 1 : Nat) : Int)) ((i + 1 : Nat) : Int) (mkl k1 (i + 1) ++ a0.drop (i + 1))
   rw [eA, e3, Lib.drop_cons_of h]
   have hy := hs _ (List.getElem_mem h)
   have hk0 : 0 <= k1 + 4 * (i : Int) := by omega
   have hk1 : k1 + 4 * (i : Int) <= 2000000000000 := by omega
   generalize k1 + 4 * (i : Int) = k at hk0 hk1
   generalize a0[i] = y at hy
   obtain ⟨y0, y1, y2, y3, rfl⟩ : ∃ y0 y1 y2 y3, y = [y0, y1, y2, y3] := by
    match y, hy with
    | [y0, y1, y2, y3], _ => exact ⟨y0, y1, y2, y3, rfl⟩
   have hd : ∀ z : List CV, decide ((i : Int) < ((mkl k1 i ++ z :: a0.drop (i + 1)).length : Int)) = true := fun z => by
    rw [Lib.len_mid, hml]; exact decide_eq_true (by omega)
   have hi1 : w64 ((i : Int) + 1) = ((i + 1 : Nat) : Int) := Lib.w64_ok (by omega) (by omega)
   simp only [l2, r2, Lib.length_setC, hd, Lib.dle0, Bool.and_self, cond_true, Lib.toN, Lib.setC_mid _ _ _ _ _ _ hml, sp0, sp1, sp2, sp3, Lib.w64_ok (x := k + 1) (by omega) (by omega), Lib.w64_ok (x := k + 1 + 1) (by omega) (by omega), Lib.w64_ok (x := k + 1 + 1 + 1) (by omega) (by omega), Lib.w64_ok (x := k + 1 + 1 + 1 + 1) (by omega) (by omega), U176.ok (k) (by omega), U176.ok (k + 1 + 1 + 1) (by omega), hi1]
   rfl
  ·left
   have : i = a0.length := by omega
   subst this
   show l2 Lib.big _ (n + 1) (k1 + 4 * (a0.length : Int)) (a0.length : Int) (mkl k1 a0.length ++ a0.drop a0.length) = _
   rw [List.drop_length, List.append_nil]
   simp only [l2, r2, hml, Lib.dlt, Nat.lt_irrefl, decide_false, cond_false]) Lib.big 0 (Nat.zero_le _) (Lib.lt_big (by omega))
 have e0 : mkl k1 0 ++ a0.drop 0 = a0 := rfl
 rw [e0] at this
 simpa using this
theorem ok (a0 : Row) (k1 : Int) (hs : ∀ y ∈ a0, y.length = 4) (hl : a0.length <= 4194304) (h0 : 0 <= k1) (h1 : k1 <= 1000000000000) : c a0 k1 = true /\ v a0 k1 = (k1 + 4 * (a0.length : Int), mkl k1 a0.length) := out a0 k1 (run a0 k1 hs hl h0 h1)
end Go.FG.U79

namespace Go.FG.U83
theorem run (k1 : Int) (a : Nat) (hl : a <= 4194304) (h0 : 0 <= k1) (h1 : k1 <= 1000000000000) : vo (U79.mkl k1 a) k1 = some (k1 + 4 * (a : Int)) := by
 have hml := U79.mkl_len k1 a
 unfold vo b
 have := Lib.loop_gen (fun n (i : Nat) => l2 Lib.big (fun (_ : Row) (_ y6 _ : Int) => some y6) (fun (_ : Row) (y9 _ _ : Int) => some y9) n (U79.mkl k1 a) (k1 + 4 * (i : Int)) 0 (i : Int)) (fun i => a - i) (fun i => i <= a) (fun _ => some (k1 + 4 * (a : Int))) (fun n i hi => by
  by_cases h : i < a
  ·right
   refine ⟨i + 1, h, by omega, rfl, ?_⟩
   have eA : k1 + 4 * ((i + 1 : Nat) : Int) = (k1 + 4 * (i : Int)) + 1 + 1 + 1 + 1 := by omega
   show l2 Lib.big _ _ (n + 1) (U79.mkl k1 a) (k1 + 4 * (i : Int)) 0 (i : Int) = l2 Lib.big _ _ n (U79.mkl k1 a) (k1 + 4 * ((i + 1 : Nat) : Int)) 0 ((i + 1 : Nat) : Int)
   rw [eA]
   have ce0 : cvS (cellAt (U79.mkl k1 a) i 0) = U176.v (k1 + 4 * (i : Int)) := by
    unfold U79.mkl; rw [Lib.cellAt_rm _ _ _ _ h]; rfl
   have ce1 : cvI (cellAt (U79.mkl k1 a) i 1) = k1 + 4 * (i : Int) + 1 := by
    unfold U79.mkl; rw [Lib.cellAt_rm _ _ _ _ h]; rfl
   have ce2 : cvI (cellAt (U79.mkl k1 a) i 2) = k1 + 4 * (i : Int) + 1 + 1 := by
    unfold U79.mkl; rw [Lib.cellAt_rm _ _ _ _ h]; rfl
   have ce3 : cvS (cellAt (U79.mkl k1 a) i 3) = U176.v (k1 + 4 * (i : Int) + 1 + 1 + 1) := by
    unfold U79.mkl; rw [Lib.cellAt_rm _ _ _ _ h]; rfl
   have hk0 : 0 <= k1 + 4 * (i : Int) := by omega
   have hk1 : k1 + 4 * (i : Int) <= 2000000000000 := by omega
   generalize k1 + 4 * (i : Int) = k at *
   have hi1 : w64 ((i : Int) + 1) = ((i + 1 : Nat) : Int) := Lib.w64_ok (by omega) (by omega)
   simp only [l2, r2, hml, Lib.dlt, h, decide_true, Lib.dle0, Bool.and_self, cond_true, Lib.toN, ce0, ce1, ce2, ce3, Lib.w64_ok (x := k + 1) (by omega) (by omega), Lib.w64_ok (x := k + 1 + 1) (by omega) (by omega), Lib.w64_ok (x := k + 1 + 1 + 1) (by omega) (by omega), Lib.w64_ok (x := k + 1 + 1 + 1 + 1) (by omega) (by omega), U176.ok (k) (by omega), U176.ok (k + 1 + 1 + 1) (by omega), hi1, bne_self_eq_false, cond_false, Lib.beq_refl_ba, Bool.not_true]
  ·left
   have : i = a := by omega
   subst this
   simp only [l2, r2, hml, Lib.dlt, Nat.lt_irrefl, decide_false, cond_false]) Lib.big 0 (Nat.zero_le _) (Lib.lt_big (by omega))
 simpa using this
theorem ok (k1 : Int) (a : Nat) (hl : a <= 4194304) (h0 : 0 <= k1) (h1 : k1 <= 1000000000000) : c (U79.mkl k1 a) k1 = true /\ v (U79.mkl k1 a) k1 = k1 + 4 * (a : Int) := out _ _ (run k1 a hl h0 h1)
end Go.FG.U83

namespace Go.FG.U179
theorem run (k1 : Int) (a : Nat) (hl : a <= 4194304) (h0 : 0 <= k1) (h1 : k1 <= 1000000000000) : vo (U177.mkl k1 a) k1 = some (k1 + 1 * (a : Int)) := by
 have hml := U177.mkl_len k1 a
 unfold vo b
 have := Lib.loop_gen (fun n (i : Nat) => l2 Lib.big (fun (_ : Row) (_ y6 _ : Int) => some y6) (fun (_ : Row) (y9 _ _ : Int) => some y9) n (U177.mkl k1 a) (k1 + 1 * (i : Int)) 0 (i : Int)) (fun i => a - i) (fun i => i <= a) (fun _ => some (k1 + 1 * (a : Int))) (fun n i hi => by
  by_cases h : i < a
  ·right
   refine ⟨i + 1, h, by omega, rfl, ?_⟩
   have eA : k1 + 1 * ((i + 1 : Nat) : Int) = (k1 + 1 * (i : Int)) + 1 := by omega
   show l2 Lib.big _ _ (n + 1) (U177.mkl k1 a) (k1 + 1 * (i : Int)) 0 (i : Int) = l2 Lib.big _ _ n (U177.mkl k1 a) (k1 + 1 * ((i + 1 : Nat) : Int)) 0 ((i + 1 : Nat) : Int)
   rw [eA]
   have ce0 : cvS (cellAt (U177.mkl k1 a) i 0) = U176.v (k1 + 1 * (i : Int)) := by
    unfold U177.mkl; rw [Lib.cellAt_rm _ _ _ _ h]; rfl
   have hk0 : 0 <= k1 + 1 * (i : Int) := by omega
   have hk1 : k1 + 1 * (i : Int) <= 2000000000000 := by omega
   generalize k1 + 1 * (i : Int) = k at *
   have hi1 : w64 ((i : Int) + 1) = ((i + 1 : Nat) : Int) := Lib.w64_ok (by omega) (by omega)
   simp only [l2, r2, hml, Lib.dlt, h, decide_true, Lib.dle0, Bool.and_self, cond_true, Lib.toN, ce0, Lib.w64_ok (x := k + 1) (by omega) (by omega), U176.ok (k) (by omega), hi1, bne_self_eq_false, cond_false, Lib.beq_refl_ba, Bool.not_true]
  ·left
   have : i = a := by omega
   subst this
   simp only [l2, r2, hml, Lib.dlt, Nat.lt_irrefl, decide_false, cond_false]) Lib.big 0 (Nat.zero_le _) (Lib.lt_big (by omega))
 simpa using this
theorem ok (k1 : Int) (a : Nat) (hl : a <= 4194304) (h0 : 0 <= k1) (h1 : k1 <= 1000000000000) : c (U177.mkl k1 a) k1 = true /\ v (U177.mkl k1 a) k1 = k1 + 1 * (a : Int) := out _ _ (run k1 a hl h0 h1)
end Go.FG.U179

namespace Go.FG.U180
open U226 (mkk sm)
theorem ok (a k : Int) (l : List Nat) (hl : l.length <= 4194304) (ht : sm l <= 4194304) (h0 : 0 <= k) (h1 : k <= 500000000000) : c (mkk k l) a k = true /\ v (mkk k l) a k = k + sm l := by
 have h := U227.ok k l hl ht h0 h1
 have hn := U227.sm_nn l
 exact out _ _ _ (by unfold vo b; rw [h.1, h.2, cond_true, decide_eq_false (show ¬ k + sm l < 0 by omega), cond_false])
end Go.FG.U180

namespace Go.FG.U84
open U226 (mkk sm)
open U80 (n1)
theorem ok (a k : Int) (w m : Nat) (l : List Nat) (hw : w <= 2097152) (hm : m <= 2097152) (hl : l.length <= 4194304) (ht : sm l <= 4194304) (h0 : 0 <= k) (h1 : k <= 400000000000) :
  c (U177.mkl k w) (U177.mkl (n1 k w) m) (mkk (n1 (n1 k w) m) l) a k = true /\ v (U177.mkl k w) (U177.mkl (n1 k w) m) (mkk (n1 (n1 k w) m) l) a k = n1 (n1 k w) m + sm l := by
 have a1 := U179.ok k w (by omega) h0 (by omega)
 have a2 := U179.ok (n1 k w) m (by omega) (by unfold n1; omega) (by unfold n1; omega)
 have a3 := U180.ok a (n1 (n1 k w) m) l hl ht (by unfold n1; omega) (by unfold n1; omega)
 have hn := U227.sm_nn l
 unfold n1 at a2 a3 ⊢
 exact out _ _ _ _ _ (by unfold vo b; simp only [a1.1, a1.2, a2.1, a2.2, a3.1, a3.2, cond_true, cond_false, decide_eq_false (show ¬ k + 1 * (w : Int) < 0 by omega), decide_eq_false (show ¬ k + 1 * (w : Int) + 1 * (m : Int) < 0 by omega), decide_eq_false (show ¬ k + 1 * (w : Int) + 1 * (m : Int) + sm l < 0 by omega)])
end Go.FG.U84

namespace Go.FG.U81
def row (k : Int) : List CV := [CV.s (U176.v (k)), CV.s (U176.v (k + 1)), CV.i IntKind.i64 (k + 1 + 1), CV.i IntKind.i64 (k + 1 + 1 + 1), CV.i IntKind.i64 (k + 1 + 1 + 1 + 1)]
def mkl (k : Int) (n : Nat) : Row := (List.range n).map fun (j : Nat) => row (k + 5 * (j : Int))
theorem mkl_len (k : Int) (n : Nat) : (mkl k n).length = n := by unfold mkl; simp
theorem sp0 (y0 y1 y2 y3 y4 x : CV) : splice [y0, y1, y2, y3, y4] 0 [x] = [x, y1, y2, y3, y4] := rfl
theorem sp1 (y0 y1 y2 y3 y4 x : CV) : splice [y0, y1, y2, y3, y4] 1 [x] = [y0, x, y2, y3, y4] := rfl
theorem sp2 (y0 y1 y2 y3 y4 x : CV) : splice [y0, y1, y2, y3, y4] 2 [x] = [y0, y1, x, y3, y4] := rfl
theorem sp3 (y0 y1 y2 y3 y4 x : CV) : splice [y0, y1, y2, y3, y4] 3 [x] = [y0, y1, y2, x, y4] := rfl
theorem sp4 (y0 y1 y2 y3 y4 x : CV) : splice [y0, y1, y2, y3, y4] 4 [x] = [y0, y1, y2, y3, x] := rfl
theorem run (a0 : Row) (k1 : Int) (hs : ∀ y ∈ a0, y.length = 5) (hl : a0.length <= 4194304) (h0 : 0 <= k1) (h1 : k1 <= 1000000000000) : vo a0 k1 = some (k1 + 5 * (a0.length : Int), mkl k1 a0.length) := by
 unfold vo b
 have := Lib.loop_gen (fun n (i : Nat) => l2 Lib.big (fun (y3 y4 : Int) (y5 : Row) => some (y3, y5)) n (k1 + 5 * (i : Int)) (i : Int) (mkl k1 i ++ a0.drop i)) (fun i => a0.length - i) (fun i => i <= a0.length) (fun _ => some (k1 + 5 * (a0.length : Int), mkl k1 a0.length)) (fun n i hi => by
  have hml := mkl_len k1 i
  by_cases h : i < a0.length
  ·right
   refine ⟨i + 1, h, by omega, rfl, ?_⟩
   have e3 : mkl k1 (i + 1) ++ a0.drop (i + 1) = mkl k1 i ++ row (k1 + 5 * (i : Int)) :: a0.drop (i + 1) := by
    unfold mkl; rw [Lib.range_map_succ, List.append_assoc]; rfl
   have eA : k1 + 5 * ((i + 1 : Nat) : Int) = (k1 + 5 * (i : Int)) + 1 + 1 + 1 + 1 + 1 := by omega
   show l2 Lib.big _ (n + 1) (k1 + 5 * (i : Int)) (i : Int) (mkl k1 i ++ a0.drop i) = l2 Lib.big _ n (k1 + 5 * ((i + 1 : Nat) : Int)) ((i + 1 : Nat) : Int) (mkl k1 (i + 1) ++ a0.drop (i + 1))
   rw [eA, e3, Lib.drop_cons_of h]
   have hy := hs _ (List.getElem_mem h)
   have hk0 : 0 <= k1 + 5 * (i : Int) := by omega
   have hk1 : k1 + 5 * (i : Int) <= 2000000000000 := by omega
   generalize k1 + 5 * (i : Int) = k at hk0 hk1
   generalize a0[i] = y at hy
   obtain ⟨y0, y1, y2, y3, y4, rfl⟩ : ∃ y0 y1 y2 y3 y4, y = [y0, y1, y2, y3, y4] := by
    match y, hy with
    | [y0, y1, y2, y3, y4], _ => exact ⟨y0, y1, y2, y3, y4, rfl⟩
   have hd : ∀ z : List CV, decide ((i : Int) < ((mkl k1 i ++ z :: a0.drop (i + 1)).length : Int)) = true := fun z => by
    rw [Lib.len_mid, hml]; exact decide_eq_true (by omega)
   have hi1 : w64 ((i : Int) + 1) = ((i + 1 : Nat) : Int) := Lib.w64_ok (by omega) (by omega)
   simp only [l2, r2, Lib.length_setC, hd, Lib.dle0, Bool.and_self, cond_true, Lib.toN, Lib.setC_mid _ _ _ _ _ _ hml, sp0, sp1, sp2, sp3, sp4, Lib.w64_ok (x := k + 1) (by omega) (by omega), Lib.w64_ok (x := k + 1 + 1) (by omega) (by omega), Lib.w64_ok (x := k + 1 + 1 + 1) (by omega) (by omega), Lib.w64_ok (x := k + 1 + 1 + 1 + 1) (by omega) (by omega), Lib.w64_ok (x := k + 1 + 1 + 1 + 1 + 1) (by omega) (by omega), U176.ok (k) (by omega), U176.ok (k + 1) (by omega), hi1]
   rfl
  ·left
   have : i = a0.length := by omega
   subst this
   show l2 Lib.big _ (n + 1) (k1 + 5 * (a0.length : Int)) (a0.length : Int) (mkl k1 a0.length ++ a0.drop a0.length) = _
   rw [List.drop_length, List.append_nil]
   simp only [l2, r2, hml, Lib.dlt, Nat.lt_irrefl, decide_false, cond_false]) Lib.big 0 (Nat.zero_le _) (Lib.lt_big (by omega))
 have e0 : mkl k1 0 ++ a0.drop 0 = a0 := rfl
 rw [e0] at this
 simpa using this
theorem ok (a0 : Row) (k1 : Int) (hs : ∀ y ∈ a0, y.length = 5) (hl : a0.length <= 4194304) (h0 : 0 <= k1) (h1 : k1 <= 1000000000000) : c a0 k1 = true /\ v a0 k1 = (k1 + 5 * (a0.length : Int), mkl k1 a0.length) := out a0 k1 (run a0 k1 hs hl h0 h1)
end Go.FG.U81

namespace Go.FG.U85
theorem run (k1 : Int) (a : Nat) (hl : a <= 4194304) (h0 : 0 <= k1) (h1 : k1 <= 1000000000000) : vo (U81.mkl k1 a) k1 = some (k1 + 5 * (a : Int)) := by
 have hml := U81.mkl_len k1 a
 unfold vo b
 have := Lib.loop_gen (fun n (i : Nat) => l2 Lib.big (fun (_ : Row) (_ y6 _ : Int) => some y6) (fun (_ : Row) (y9 _ _ : Int) => some y9) n (U81.mkl k1 a) (k1 + 5 * (i : Int)) 0 (i : Int)) (fun i => a - i) (fun i => i <= a) (fun _ => some (k1 + 5 * (a : Int))) (fun n i hi => by
  by_cases h : i < a
  ·right
   refine ⟨i + 1, h, by omega, rfl, ?_⟩
   have eA : k1 + 5 * ((i + 1 : Nat) : Int) = (k1 + 5 * (i : Int)) + 1 + 1 + 1 + 1 + 1 := by omega
   show l2 Lib.big _ _ (n + 1) (U81.mkl k1 a) (k1 + 5 * (i : Int)) 0 (i : Int) = l2 Lib.big _ _ n (U81.mkl k1 a) (k1 + 5 * ((i + 1 : Nat) : Int)) 0 ((i + 1 : Nat) : Int)
   rw [eA]
   have ce0 : cvS (cellAt (U81.mkl k1 a) i 0) = U176.v (k1 + 5 * (i : Int)) := by
    unfold U81.mkl; rw [Lib.cellAt_rm _ _ _ _ h]; rfl
   have ce1 : cvS (cellAt (U81.mkl k1 a) i 1) = U176.v (k1 + 5 * (i : Int) + 1) := by
    unfold U81.mkl; rw [Lib.cellAt_rm _ _ _ _ h]; rfl
   have ce2 : cvI (cellAt (U81.mkl k1 a) i 2) = k1 + 5 * (i : Int) + 1 + 1 := by
    unfold U81.mkl; rw [Lib.cellAt_rm _ _ _ _ h]; rfl
   have ce3 : cvI (cellAt (U81.mkl k1 a) i 3) = k1 + 5 * (i : Int) + 1 + 1 + 1 := by
    unfold U81.mkl; rw [Lib.cellAt_rm _ _ _ _ h]; rfl
   have ce4 : cvI (cellAt (U81.mkl k1 a) i 4) = k1 + 5 * (i : Int) + 1 + 1 + 1 + 1 := by
    unfold U81.mkl; rw [Lib.cellAt_rm _ _ _ _ h]; rfl
   have hk0 : 0 <= k1 + 5 * (i : Int) := by omega
   have hk1 : k1 + 5 * (i : Int) <= 2000000000000 := by omega
   generalize k1 + 5 * (i : Int) = k at *
   have hi1 : w64 ((i : Int) + 1) = ((i + 1 : Nat) : Int) := Lib.w64_ok (by omega) (by omega)
   simp only [l2, r2, hml, Lib.dlt, h, decide_true, Lib.dle0, Bool.and_self, cond_true, Lib.toN, ce0, ce1, ce2, ce3, ce4, Lib.w64_ok (x := k + 1) (by omega) (by omega), Lib.w64_ok (x := k + 1 + 1) (by omega) (by omega), Lib.w64_ok (x := k + 1 + 1 + 1) (by omega) (by omega), Lib.w64_ok (x := k + 1 + 1 + 1 + 1) (by omega) (by omega), Lib.w64_ok (x := k + 1 + 1 + 1 + 1 + 1) (by omega) (by omega), U176.ok (k) (by omega), U176.ok (k + 1) (by omega), hi1, bne_self_eq_false, cond_false, Lib.beq_refl_ba, Bool.not_true]
  ·left
   have : i = a := by omega
   subst this
   simp only [l2, r2, hml, Lib.dlt, Nat.lt_irrefl, decide_false, cond_false]) Lib.big 0 (Nat.zero_le _) (Lib.lt_big (by omega))
 simpa using this
theorem ok (k1 : Int) (a : Nat) (hl : a <= 4194304) (h0 : 0 <= k1) (h1 : k1 <= 1000000000000) : c (U81.mkl k1 a) k1 = true /\ v (U81.mkl k1 a) k1 = k1 + 5 * (a : Int) := out _ _ (run k1 a hl h0 h1)
end Go.FG.U85

namespace Go.FG.U82
def row (k : Int) : List CV := [CV.i IntKind.i64 (k), CV.s (U176.v (k + 1)), CV.i IntKind.i64 (k + 1 + 1), CV.i IntKind.i64 (k + 1 + 1 + 1), CV.i IntKind.i64 (k + 1 + 1 + 1 + 1), CV.s (U176.v (k + 1 + 1 + 1 + 1 + 1)), CV.i IntKind.i64 (k + 1 + 1 + 1 + 1 + 1 + 1)]
def mkl (k : Int) (n : Nat) : Row := (List.range n).map fun (j : Nat) => row (k + 7 * (j : Int))
theorem mkl_len (k : Int) (n : Nat) : (mkl k n).length = n := by unfold mkl; simp
theorem sp0 (y0 y1 y2 y3 y4 y5 y6 x : CV) : splice [y0, y1, y2, y3, y4, y5, y6] 0 [x] = [x, y1, y2, y3, y4, y5, y6] := rfl
theorem sp1 (y0 y1 y2 y3 y4 y5 y6 x : CV) : splice [y0, y1, y2, y3, y4, y5, y6] 1 [x] = [y0, x, y2, y3, y4, y5, y6] := rfl
theorem sp2 (y0 y1 y2 y3 y4 y5 y6 x : CV) : splice [y0, y1, y2, y3, y4, y5, y6] 2 [x] = [y0, y1, x, y3, y4, y5, y6] := rfl
theorem sp3 (y0 y1 y2 y3 y4 y5 y6 x : CV) : splice [y0, y1, y2, y3, y4, y5, y6] 3 [x] = [y0, y1, y2, x, y4, y5, y6] := rfl
theorem sp4 (y0 y1 y2 y3 y4 y5 y6 x : CV) : splice [y0, y1, y2, y3, y4, y5, y6] 4 [x] = [y0, y1, y2, y3, x, y5, y6] := rfl
theorem sp5 (y0 y1 y2 y3 y4 y5 y6 x : CV) : splice [y0, y1, y2, y3, y4, y5, y6] 5 [x] = [y0, y1, y2, y3, y4, x, y6] := rfl
theorem sp6 (y0 y1 y2 y3 y4 y5 y6 x : CV) : splice [y0, y1, y2, y3, y4, y5, y6] 6 [x] = [y0, y1, y2, y3, y4, y5, x] := rfl
theorem run (a0 : Row) (k1 : Int) (hs : ∀ y ∈ a0, y.length = 7) (hl : a0.length <= 4194304) (h0 : 0 <= k1) (h1 : k1 <= 1000000000000) : vo a0 k1 = some (k1 + 7 * (a0.length : Int), mkl k1 a0.length) := by
 unfold vo b
 have := Lib.loop_gen (fun n (i : Nat) => l2 Lib.big (fun (y3 y4 : Int) (y5 : Row) => some (y3, y5)) n (k1 + 7 * (i : Int)) (i : Int) (mkl k1 i ++ a0.drop i)) (fun i => a0.length - i) (fun i => i <= a0.length) (fun _ => some (k1 + 7 * (a0.length : Int), mkl k1 a0.length)) (fun n i hi => by
  have hml := mkl_len k1 i
  by_cases h : i < a0.length
  ·right
   refine ⟨i + 1, h, by omega, rfl, ?_⟩
   have e3 : mkl k1 (i + 1) ++ a0.drop (i + 1) = mkl k1 i ++ row (k1 + 7 * (i : Int)) :: a0.drop (i + 1) := by
    unfold mkl; rw [Lib.range_map_succ, List.append_assoc]; rfl
   have eA : k1 + 7 * ((i + 1 : Nat) : Int) = (k1 + 7 * (i : Int)) + 1 + 1 + 1 + 1 + 1 + 1 + 1 := by omega
   show l2 Lib.big _ (n + 1) (k1 + 7 * (i : Int)) (i : Int) (mkl k1 i ++ a0.drop i) = l2 Lib.big _ n (k1 + 7 * ((i + 1 : Nat) : Int)) ((i + 1 : Nat) : Int) (mkl k1 (i + 1) ++ a0.drop (i + 1))
   rw [eA, e3, Lib.drop_cons_of h]
   have hy := hs _ (List.getElem_mem h)
   have hk0 : 0 <= k1 + 7 * (i : Int) := by omega
   have hk1 : k1 + 7 * (i : Int) <= 2000000000000 := by omega
   generalize k1 + 7 * (i : Int) = k at hk0 hk1
   generalize a0[i] = y at hy
   obtain ⟨y0, y1, y2, y3, y4, y5, y6, rfl⟩ : ∃ y0 y1 y2 y3 y4 y5 y6, y = [y0, y1, y2, y3, y4, y5, y6] := by
    match y, hy with
    | [y0, y1, y2, y3, y4, y5, y6], _ => exact ⟨y0, y1, y2, y3, y4, y5, y6, rfl⟩
   have hd : ∀ z : List CV, decide ((i : Int) < ((mkl k1 i ++ z :: a0.drop (i + 1)).length : Int)) = true := fun z => by
    rw [Lib.len_mid, hml]; exact decide_eq_true (by omega)
   have hi1 : w64 ((i : Int) + 1) = ((i + 1 : Nat) : Int) := Lib.w64_ok (by omega) (by omega)
   simp only [l2, r2, Lib.length_setC, hd, Lib.dle0, Bool.and_self, cond_true, Lib.toN, Lib.setC_mid _ _ _ _ _ _ hml, sp0, sp1, sp2, sp3, sp4, sp5, sp6, Lib.w64_ok (x := k + 1) (by omega) (by omega), Lib.w64_ok (x := k + 1 + 1) (by omega) (by omega), Lib.w64_ok (x := k + 1 + 1 + 1) (by omega) (by omega), Lib.w64_ok (x := k + 1 + 1 + 1 + 1) (by omega) (by omega), Lib.w64_ok (x := k + 1 + 1 + 1 + 1 + 1) (by omega) (by omega), Lib.w64_ok (x := k + 1 + 1 + 1 + 1 + 1 + 1) (by omega) (by omega), Lib.w64_ok (x := k + 1 + 1 + 1 + 1 + 1 + 1 + 1) (by omega) (by omega), U176.ok (k + 1) (by omega), U176.ok (k + 1 + 1 + 1 + 1 + 1) (by omega), hi1]
   rfl
  ·left
   have : i = a0.length := by omega
   subst this
   show l2 Lib.big _ (n + 1) (k1 + 7 * (a0.length : Int)) (a0.length : Int) (mkl k1 a0.length ++ a0.drop a0.length) = _
   rw [List.drop_length, List.append_nil]
   simp only [l2, r2, hml, Lib.dlt, Nat.lt_irrefl, decide_false, cond_false]) Lib.big 0 (Nat.zero_le _) (Lib.lt_big (by omega))
 have e0 : mkl k1 0 ++ a0.drop 0 = a0 := rfl
 rw [e0] at this
 simpa using this
theorem ok (a0 : Row) (k1 : Int) (hs : ∀ y ∈ a0, y.length = 7) (hl : a0.length <= 4194304) (h0 : 0 <= k1) (h1 : k1 <= 1000000000000) : c a0 k1 = true /\ v a0 k1 = (k1 + 7 * (a0.length : Int), mkl k1 a0.length) := out a0 k1 (run a0 k1 hs hl h0 h1)
end Go.FG.U82

