/- What the functions come to, in plain numbers, texts and lists; last the law itself. No condition but those that each states. -/
import Derived.Test.YtjejmgffiilmlaaGreatPExactSoundWorld
set_option linter.unusedVariables false
set_option linter.unusedSimpArgs false
set_option maxRecDepth 100000
namespace Go.FG.U214
theorem bd {q : Row} {L : Int} (z : q.length <= 9223372036854775807) (h0 : 0 <= L) (h1 : L <= 1048576) : U110.v q L <= 1048576 /\ (¬ U110.v q L < 0 -> q.length <= 1048576 /\ U110.v q L = L - (q.length : Int)) := by
 unfold U110.v
 rw [Lib.w64_ok (by omega) (by omega)]
 by_cases c0 : L - (q.length : Int) < 0
 ·rw [decide_eq_true c0, cond_true]; exact ⟨by omega, fun h => absurd (by omega) h⟩
 ·rw [decide_eq_false c0, cond_false]; exact ⟨by omega, fun h => ⟨by omega, rfl⟩⟩
def tot (a : Row) : Nat := (a.map fun y => (cvL (y.getD 0 (.b false))).length).sum
def inn (a : Row) : Prop := (∀ j, j < a.length -> (cvL (cellAt a j 0)).length <= 1048576) /\ tot a <= 1048576
theorem tot_succ (a : Row) (i : Nat) (h : i < a.length) : tot (a.take (i + 1)) = tot (a.take i) + (cvL (cellAt a i 0)).length := by
 unfold tot
 rw [List.take_succ_eq_append_getElem h, List.map_append, List.sum_append, Lib.cellAt_of h]
 simp
theorem run (a : Row) (L : Int) (h0 : 0 <= L) (h1 : L <= 1048576) (ha : FitR a) : ∃ x, vo a L = some x /\ x <= 1048576 /\ (0 <= x -> a.length <= 1048576 /\ inn a) := by
 have hl := ha.1
 unfold vo b
 rw [Lib.w64_ok (x := L - (a.length : Int)) (by omega) (by omega)]
 by_cases hc : L - (a.length : Int) < 0
 ·rw [decide_eq_true hc]; exact ⟨-1, rfl, by omega, fun h => by omega⟩
 ·rw [decide_eq_false hc, cond_false]
  have key := Lib.loop_post (fun n (s : Nat × Int) => l5 Lib.big (fun (_ : Row) (_ y6 _ : Int) => some y6) (fun (_ : Row) (y9 _ _ : Int) => some y9) n a s.2 0 (s.1 : Int)) (fun s => a.length - s.1) (fun s => s.1 <= a.length /\ 0 <= s.2 /\ s.2 <= 1048576 /\ (∀ j, j < s.1 -> (cvL (cellAt a j 0)).length <= 1048576) /\ s.2 + (tot (a.take s.1) : Int) <= 1048576) (fun x => x <= 1048576 /\ (0 <= x -> inn a)) (fun n s hs => by
   obtain ⟨i, L⟩ := s
   obtain ⟨hi, hL0, hL1, hin, hto⟩ := hs
   dsimp only at hi hL0 hL1 hin hto ⊢
   by_cases h : i < a.length
   ·have hi1 : w64 ((i : Int) + 1) = ((i + 1 : Nat) : Int) := Lib.w64_ok (by omega) (by omega)
    have hw := bd (Lib.FitR_cell ha i 0).1 hL0 hL1
    by_cases hn : U110.v (cvL (cellAt a i 0)) L < 0
    ·exact .inl ⟨-1, by simp only [l5, r5, Lib.dlt, h, decide_true, Lib.dle0, Bool.and_self, cond_true, Lib.toN, hn], by omega, fun h => by omega⟩
    ·exact .inr ⟨(i + 1, U110.v (cvL (cellAt a i 0)) L), ⟨h, by omega, hw.1, fun j hj => by
      by_cases hji : j = i
      ·subst hji; exact (hw.2 hn).1
      ·exact hin j (by dsimp only at hj; omega), by
      have e := (hw.2 hn).2
      have e2 := tot_succ a i h
      dsimp only
      rw [e, e2]; omega⟩, by dsimp only; omega, by simp only [l5, r5, Lib.dlt, h, decide_true, decide_false, Lib.dle0, Bool.and_self, cond_true, cond_false, Lib.toN, hn, hi1]⟩
   ·exact .inl ⟨L, by simp only [l5, r5, Lib.dlt, h, decide_false, cond_false], hL1, fun _ => ⟨fun j hj => hin j (by omega), by
     have e : i = a.length := by omega
     rw [e, List.take_length] at hto; omega⟩⟩) Lib.big (0, L - (a.length : Int)) ⟨Nat.zero_le _, by dsimp only; omega, by dsimp only; omega, fun j hj => absurd hj (Nat.not_lt_zero j), by dsimp only; rw [List.take_zero]; show L - (a.length : Int) + ((0 : Nat) : Int) <= _; omega⟩ (Lib.lt_big (by omega))
  obtain ⟨x, hx, hb, hb2⟩ := key
  exact ⟨x, hx, hb, fun h => ⟨by omega, hb2 h⟩⟩
theorem ok (a : Row) (L : Int) (h0 : 0 <= L) (h1 : L <= 1048576) (ha : FitR a) : c a L = true /\ v a L <= 1048576 /\ (0 <= v a L -> a.length <= 1048576 /\ inn a) := by
 obtain ⟨x, h, h2, h3⟩ := run a L h0 h1 ha
 obtain ⟨e1, e2⟩ := out a L h
 rw [e2]; exact ⟨e1, h2, h3⟩
end Go.FG.U214

namespace Go.FG.U135
theorem bd (x0 : ByteArray) (x1 : Int) (x2 : Int) (x3 : ByteArray) (L : Int) (h0 : okS x0) (h3 : okS x3) (hL0 : 0 <= L) (hL1 : L <= 1048576) : v x0 x1 x2 x3 L <= 1048576 := by
 have hz : ∀ x, okS x -> x.size <= 4611686018427387904 := fun _ h => h
 have z0 := hz _ h0
 have z3 := hz _ h3
 unfold v
 rw [Lib.w64_ok (x := L - (x0.size : Int)) (by omega) (by omega)]
 by_cases c0 : L - (x0.size : Int) < 0
 ·rw [decide_eq_true c0, cond_true]; omega
 ·rw [decide_eq_false c0, cond_false]
  rw [Lib.w64_ok (x := (L - (x0.size : Int)) - (x3.size : Int)) (by omega) (by omega)]
  by_cases c3 : (L - (x0.size : Int)) - (x3.size : Int) < 0
  ·rw [decide_eq_true c3, cond_true]; omega
  ·rw [decide_eq_false c3, cond_false]
   omega
end Go.FG.U135

namespace Go.FG.U44
theorem run (a : Row) (L : Int) (h0 : 0 <= L) (h1 : L <= 1048576) (ha : FitR a) : ∃ x, vo a L = some x /\ x <= 1048576 /\ (0 <= x -> a.length <= 1048576) := by
 have hl := ha.1
 unfold vo b
 rw [Lib.w64_ok (x := L - (a.length : Int)) (by omega) (by omega)]
 by_cases hc : L - (a.length : Int) < 0
 ·rw [decide_eq_true hc]; exact ⟨-1, rfl, by omega, fun h => by omega⟩
 ·rw [decide_eq_false hc, cond_false]
  have key := Lib.loop_post (fun n (s : Nat × Int) => l5 Lib.big (fun (_ : Row) (_ y6 _ : Int) => some y6) (fun (_ : Row) (y9 _ _ : Int) => some y9) n a s.2 0 (s.1 : Int)) (fun s => a.length - s.1) (fun s => s.1 <= a.length /\ 0 <= s.2 /\ s.2 <= 1048576) (fun x => x <= 1048576) (fun n s hs => by
   obtain ⟨i, L⟩ := s
   obtain ⟨hi, hL0, hL1⟩ := hs
   dsimp only at hi hL0 hL1 ⊢
   by_cases h : i < a.length
   ·have hi1 : w64 ((i : Int) + 1) = ((i + 1 : Nat) : Int) := Lib.w64_ok (by omega) (by omega)
    have hw : U135.v (cvS (cellAt a i 0)) (cvI (cellAt a i 1)) (cvI (cellAt a i (1 + 1))) (cvS (cellAt a i (1 + 1 + 1))) L <= 1048576 := U135.bd _ _ _ _ L (Lib.okS_cell ha i _) (Lib.okS_cell ha i _) hL0 hL1
    by_cases hn : U135.v (cvS (cellAt a i 0)) (cvI (cellAt a i 1)) (cvI (cellAt a i (1 + 1))) (cvS (cellAt a i (1 + 1 + 1))) L < 0
    ·exact .inl ⟨-1, by simp only [l5, r5, Lib.dlt, h, decide_true, Lib.dle0, Bool.and_self, cond_true, Lib.toN, hn], by omega⟩
    ·exact .inr ⟨(i + 1, U135.v (cvS (cellAt a i 0)) (cvI (cellAt a i 1)) (cvI (cellAt a i (1 + 1))) (cvS (cellAt a i (1 + 1 + 1))) L), ⟨h, by omega, hw⟩, by dsimp only; omega, by simp only [l5, r5, Lib.dlt, h, decide_true, decide_false, Lib.dle0, Bool.and_self, cond_true, cond_false, Lib.toN, hn, hi1]⟩
   ·exact .inl ⟨L, by simp only [l5, r5, Lib.dlt, h, decide_false, cond_false], hL1⟩) Lib.big (0, L - (a.length : Int)) ⟨Nat.zero_le _, by dsimp only; omega, by dsimp only; omega⟩ (Lib.lt_big (by omega))
  obtain ⟨x, hx, hb⟩ := key
  exact ⟨x, hx, hb, fun _ => by omega⟩
theorem ok (a : Row) (L : Int) (h0 : 0 <= L) (h1 : L <= 1048576) (ha : FitR a) : c a L = true /\ v a L <= 1048576 /\ (0 <= v a L -> a.length <= 1048576) := by
 obtain ⟨x, h, h2, h3⟩ := run a L h0 h1 ha
 obtain ⟨e1, e2⟩ := out a L h
 rw [e2]; exact ⟨e1, h2, h3⟩
end Go.FG.U44

namespace Go.FG.U136
theorem run (a : Row) (L : Int) (h0 : 0 <= L) (h1 : L <= 1048576) (ha : FitR a) : ∃ x, vo a L = some x /\ x <= 1048576 /\ (0 <= x -> a.length <= 1048576) := by
 have hl := ha.1
 unfold vo b
 rw [Lib.w64_ok (x := L - (a.length : Int)) (by omega) (by omega)]
 by_cases hc : L - (a.length : Int) < 0
 ·rw [decide_eq_true hc]; exact ⟨-1, rfl, by omega, fun h => by omega⟩
 ·rw [decide_eq_false hc, cond_false]
  have key := Lib.loop_post (fun n (s : Nat × Int) => l5 Lib.big (fun (_ : Row) (_ y6 _ : Int) => some y6) (fun (_ : Row) (y9 _ _ : Int) => some y9) n a s.2 0 (s.1 : Int)) (fun s => a.length - s.1) (fun s => s.1 <= a.length /\ 0 <= s.2 /\ s.2 <= 1048576) (fun x => x <= 1048576) (fun n s hs => by
   obtain ⟨i, L⟩ := s
   obtain ⟨hi, hL0, hL1⟩ := hs
   dsimp only at hi hL0 hL1 ⊢
   by_cases h : i < a.length
   ·have hi1 : w64 ((i : Int) + 1) = ((i + 1 : Nat) : Int) := Lib.w64_ok (by omega) (by omega)
    have z : (cvS (cellAt a i 0)).size <= 4611686018427387904 := Lib.okS_cell ha i 0
    have hw : w64 (L - (↑(ByteArray.size (cvS (cellAt a i 0))) : Int)) <= 1048576 := by rw [Lib.w64_ok (by omega) (by omega)]; omega
    by_cases hn : w64 (L - (↑(ByteArray.size (cvS (cellAt a i 0))) : Int)) < 0
    ·exact .inl ⟨-1, by simp only [l5, r5, Lib.dlt, h, decide_true, Lib.dle0, Bool.and_self, cond_true, Lib.toN, hn], by omega⟩
    ·exact .inr ⟨(i + 1, w64 (L - (↑(ByteArray.size (cvS (cellAt a i 0))) : Int))), ⟨h, by omega, hw⟩, by dsimp only; omega, by simp only [l5, r5, Lib.dlt, h, decide_true, decide_false, Lib.dle0, Bool.and_self, cond_true, cond_false, Lib.toN, hn, hi1]⟩
   ·exact .inl ⟨L, by simp only [l5, r5, Lib.dlt, h, decide_false, cond_false], hL1⟩) Lib.big (0, L - (a.length : Int)) ⟨Nat.zero_le _, by dsimp only; omega, by dsimp only; omega⟩ (Lib.lt_big (by omega))
  obtain ⟨x, hx, hb⟩ := key
  exact ⟨x, hx, hb, fun _ => by omega⟩
theorem ok (a : Row) (L : Int) (h0 : 0 <= L) (h1 : L <= 1048576) (ha : FitR a) : c a L = true /\ v a L <= 1048576 /\ (0 <= v a L -> a.length <= 1048576) := by
 obtain ⟨x, h, h2, h3⟩ := run a L h0 h1 ha
 obtain ⟨e1, e2⟩ := out a L h
 rw [e2]; exact ⟨e1, h2, h3⟩
end Go.FG.U136

namespace Go.FG.U137
theorem ok (r : Row) (k : Int) (L : Int) (h0 : 0 <= L) (h1 : L <= 1048576) (ha : FitR r) : c r k L = true /\ v r k L <= 1048576 /\ (0 <= v r k L -> r.length <= 1048576 /\ U214.inn r) := by
 obtain ⟨e1, e2, e3⟩ := U214.ok r L h0 h1 ha
 by_cases h : U214.v r L < 0
 ·obtain ⟨q1, q2⟩ := out r k L (x := -1) (by unfold vo b; rw [e1, cond_true, decide_eq_true h, cond_true])
  rw [q2]; exact ⟨q1, by omega, fun h => by omega⟩
 ·obtain ⟨q1, q2⟩ := out r k L (x := U214.v r L) (by unfold vo b; rw [e1, cond_true, decide_eq_false h, cond_false])
  rw [q2]; exact ⟨q1, e2, e3⟩
end Go.FG.U137

namespace Go.FG.U45
theorem ok (r0 r1 r2 : Row) (k : Int) (L : Int) (h0 : 0 <= L) (h1 : L <= 1048576) (f0 : FitR r0) (f1 : FitR r1) (f2 : FitR r2) : c r0 r1 r2 k L = true /\ v r0 r1 r2 k L <= 1048576 /\ (0 <= v r0 r1 r2 k L -> r0.length <= 1048576 /\ r1.length <= 1048576 /\ r2.length <= 1048576 /\ U214.inn r2) := by
 have a1 := U136.ok r0 L h0 h1 f0
 by_cases hA : U136.v r0 L < 0
 ·obtain ⟨q1, q2⟩ := out r0 r1 r2 k L (x := -1) (by unfold vo b; rw [a1.1, cond_true, decide_eq_true hA, cond_true])
  rw [q2]; exact ⟨q1, by omega, fun h => by omega⟩
 have a2 := U136.ok r1 (U136.v r0 L) (by omega) a1.2.1 f1
 by_cases hB : U136.v r1 (U136.v r0 L) < 0
 ·obtain ⟨q1, q2⟩ := out r0 r1 r2 k L (x := -1) (by unfold vo b; rw [a1.1, cond_true, decide_eq_false hA, cond_false, a2.1, cond_true, decide_eq_true hB, cond_true])
  rw [q2]; exact ⟨q1, by omega, fun h => by omega⟩
 have a3 := U137.ok r2 k (U136.v r1 (U136.v r0 L)) (by omega) a2.2.1 f2
 by_cases hC : U137.v r2 k (U136.v r1 (U136.v r0 L)) < 0
 ·obtain ⟨q1, q2⟩ := out r0 r1 r2 k L (x := -1) (by unfold vo b; rw [a1.1, cond_true, decide_eq_false hA, cond_false, a2.1, cond_true, decide_eq_false hB, cond_false, a3.1, cond_true, decide_eq_true hC, cond_true])
  rw [q2]; exact ⟨q1, by omega, fun h => by omega⟩
 obtain ⟨q1, q2⟩ := out r0 r1 r2 k L (x := U137.v r2 k (U136.v r1 (U136.v r0 L))) (by unfold vo b; rw [a1.1, cond_true, decide_eq_false hA, cond_false, a2.1, cond_true, decide_eq_false hB, cond_false, a3.1, cond_true, decide_eq_false hC, cond_false])
 rw [q2]; exact ⟨q1, a3.2.1, fun h => ⟨a1.2.2 (by omega), a2.2.2 (by omega), a3.2.2 h⟩⟩
end Go.FG.U45

namespace Go.FG.U138
theorem bd (x0 : ByteArray) (x1 : ByteArray) (x2 : Int) (x3 : Int) (x4 : Int) (L : Int) (h0 : okS x0) (h1 : okS x1) (hL0 : 0 <= L) (hL1 : L <= 1048576) : v x0 x1 x2 x3 x4 L <= 1048576 := by
 have hz : ∀ x, okS x -> x.size <= 4611686018427387904 := fun _ h => h
 have z0 := hz _ h0
 have z1 := hz _ h1
 unfold v
 rw [Lib.w64_ok (x := L - (x0.size : Int)) (by omega) (by omega)]
 by_cases c0 : L - (x0.size : Int) < 0
 ·rw [decide_eq_true c0, cond_true]; omega
 ·rw [decide_eq_false c0, cond_false]
  rw [Lib.w64_ok (x := (L - (x0.size : Int)) - (x1.size : Int)) (by omega) (by omega)]
  by_cases c1 : (L - (x0.size : Int)) - (x1.size : Int) < 0
  ·rw [decide_eq_true c1, cond_true]; omega
  ·rw [decide_eq_false c1, cond_false]
   omega
end Go.FG.U138

namespace Go.FG.U46
theorem run (a : Row) (L : Int) (h0 : 0 <= L) (h1 : L <= 1048576) (ha : FitR a) : ∃ x, vo a L = some x /\ x <= 1048576 /\ (0 <= x -> a.length <= 1048576) := by
 have hl := ha.1
 unfold vo b
 rw [Lib.w64_ok (x := L - (a.length : Int)) (by omega) (by omega)]
 by_cases hc : L - (a.length : Int) < 0
 ·rw [decide_eq_true hc]; exact ⟨-1, rfl, by omega, fun h => by omega⟩
 ·rw [decide_eq_false hc, cond_false]
  have key := Lib.loop_post (fun n (s : Nat × Int) => l5 Lib.big (fun (_ : Row) (_ y6 _ : Int) => some y6) (fun (_ : Row) (y9 _ _ : Int) => some y9) n a s.2 0 (s.1 : Int)) (fun s => a.length - s.1) (fun s => s.1 <= a.length /\ 0 <= s.2 /\ s.2 <= 1048576) (fun x => x <= 1048576) (fun n s hs => by
   obtain ⟨i, L⟩ := s
   obtain ⟨hi, hL0, hL1⟩ := hs
   dsimp only at hi hL0 hL1 ⊢
   by_cases h : i < a.length
   ·have hi1 : w64 ((i : Int) + 1) = ((i + 1 : Nat) : Int) := Lib.w64_ok (by omega) (by omega)
    have hw : U138.v (cvS (cellAt a i 0)) (cvS (cellAt a i 1)) (cvI (cellAt a i (1 + 1))) (cvI (cellAt a i (1 + 1 + 1))) (cvI (cellAt a i (1 + 1 + 1 + 1))) L <= 1048576 := U138.bd _ _ _ _ _ L (Lib.okS_cell ha i _) (Lib.okS_cell ha i _) hL0 hL1
    by_cases hn : U138.v (cvS (cellAt a i 0)) (cvS (cellAt a i 1)) (cvI (cellAt a i (1 + 1))) (cvI (cellAt a i (1 + 1 + 1))) (cvI (cellAt a i (1 + 1 + 1 + 1))) L < 0
    ·exact .inl ⟨-1, by simp only [l5, r5, Lib.dlt, h, decide_true, Lib.dle0, Bool.and_self, cond_true, Lib.toN, hn], by omega⟩
    ·exact .inr ⟨(i + 1, U138.v (cvS (cellAt a i 0)) (cvS (cellAt a i 1)) (cvI (cellAt a i (1 + 1))) (cvI (cellAt a i (1 + 1 + 1))) (cvI (cellAt a i (1 + 1 + 1 + 1))) L), ⟨h, by omega, hw⟩, by dsimp only; omega, by simp only [l5, r5, Lib.dlt, h, decide_true, decide_false, Lib.dle0, Bool.and_self, cond_true, cond_false, Lib.toN, hn, hi1]⟩
   ·exact .inl ⟨L, by simp only [l5, r5, Lib.dlt, h, decide_false, cond_false], hL1⟩) Lib.big (0, L - (a.length : Int)) ⟨Nat.zero_le _, by dsimp only; omega, by dsimp only; omega⟩ (Lib.lt_big (by omega))
  obtain ⟨x, hx, hb⟩ := key
  exact ⟨x, hx, hb, fun _ => by omega⟩
theorem ok (a : Row) (L : Int) (h0 : 0 <= L) (h1 : L <= 1048576) (ha : FitR a) : c a L = true /\ v a L <= 1048576 /\ (0 <= v a L -> a.length <= 1048576) := by
 obtain ⟨x, h, h2, h3⟩ := run a L h0 h1 ha
 obtain ⟨e1, e2⟩ := out a L h
 rw [e2]; exact ⟨e1, h2, h3⟩
end Go.FG.U46

namespace Go.FG.U139
theorem bd (x0 : Int) (x1 : ByteArray) (x2 : Int) (x3 : Int) (x4 : Int) (x5 : ByteArray) (x6 : Int) (L : Int) (h1 : okS x1) (h5 : okS x5) (hL0 : 0 <= L) (hL1 : L <= 1048576) : v x0 x1 x2 x3 x4 x5 x6 L <= 1048576 := by
 have hz : ∀ x, okS x -> x.size <= 4611686018427387904 := fun _ h => h
 have z1 := hz _ h1
 have z5 := hz _ h5
 unfold v
 rw [Lib.w64_ok (x := L - (x1.size : Int)) (by omega) (by omega)]
 by_cases c1 : L - (x1.size : Int) < 0
 ·rw [decide_eq_true c1, cond_true]; omega
 ·rw [decide_eq_false c1, cond_false]
  rw [Lib.w64_ok (x := (L - (x1.size : Int)) - (x5.size : Int)) (by omega) (by omega)]
  by_cases c5 : (L - (x1.size : Int)) - (x5.size : Int) < 0
  ·rw [decide_eq_true c5, cond_true]; omega
  ·rw [decide_eq_false c5, cond_false]
   omega
end Go.FG.U139

namespace Go.FG.U47
theorem run (a : Row) (L : Int) (h0 : 0 <= L) (h1 : L <= 1048576) (ha : FitR a) : ∃ x, vo a L = some x /\ x <= 1048576 /\ (0 <= x -> a.length <= 1048576) := by
 have hl := ha.1
 unfold vo b
 rw [Lib.w64_ok (x := L - (a.length : Int)) (by omega) (by omega)]
 by_cases hc : L - (a.length : Int) < 0
 ·rw [decide_eq_true hc]; exact ⟨-1, rfl, by omega, fun h => by omega⟩
 ·rw [decide_eq_false hc, cond_false]
  have key := Lib.loop_post (fun n (s : Nat × Int) => l5 Lib.big (fun (_ : Row) (_ y6 _ : Int) => some y6) (fun (_ : Row) (y9 _ _ : Int) => some y9) n a s.2 0 (s.1 : Int)) (fun s => a.length - s.1) (fun s => s.1 <= a.length /\ 0 <= s.2 /\ s.2 <= 1048576) (fun x => x <= 1048576) (fun n s hs => by
   obtain ⟨i, L⟩ := s
   obtain ⟨hi, hL0, hL1⟩ := hs
   dsimp only at hi hL0 hL1 ⊢
   by_cases h : i < a.length
   ·have hi1 : w64 ((i : Int) + 1) = ((i + 1 : Nat) : Int) := Lib.w64_ok (by omega) (by omega)
    have hw : U139.v (cvI (cellAt a i 0)) (cvS (cellAt a i 1)) (cvI (cellAt a i (1 + 1))) (cvI (cellAt a i (1 + 1 + 1))) (cvI (cellAt a i (1 + 1 + 1 + 1))) (cvS (cellAt a i (1 + 1 + 1 + 1 + 1))) (cvI (cellAt a i (1 + 1 + 1 + 1 + 1 + 1))) L <= 1048576 := U139.bd _ _ _ _ _ _ _ L (Lib.okS_cell ha i _) (Lib.okS_cell ha i _) hL0 hL1
    by_cases hn : U139.v (cvI (cellAt a i 0)) (cvS (cellAt a i 1)) (cvI (cellAt a i (1 + 1))) (cvI (cellAt a i (1 + 1 + 1))) (cvI (cellAt a i (1 + 1 + 1 + 1))) (cvS (cellAt a i (1 + 1 + 1 + 1 + 1))) (cvI (cellAt a i (1 + 1 + 1 + 1 + 1 + 1))) L < 0
    ·exact .inl ⟨-1, by simp only [l5, r5, Lib.dlt, h, decide_true, Lib.dle0, Bool.and_self, cond_true, Lib.toN, hn], by omega⟩
    ·exact .inr ⟨(i + 1, U139.v (cvI (cellAt a i 0)) (cvS (cellAt a i 1)) (cvI (cellAt a i (1 + 1))) (cvI (cellAt a i (1 + 1 + 1))) (cvI (cellAt a i (1 + 1 + 1 + 1))) (cvS (cellAt a i (1 + 1 + 1 + 1 + 1))) (cvI (cellAt a i (1 + 1 + 1 + 1 + 1 + 1))) L), ⟨h, by omega, hw⟩, by dsimp only; omega, by simp only [l5, r5, Lib.dlt, h, decide_true, decide_false, Lib.dle0, Bool.and_self, cond_true, cond_false, Lib.toN, hn, hi1]⟩
   ·exact .inl ⟨L, by simp only [l5, r5, Lib.dlt, h, decide_false, cond_false], hL1⟩) Lib.big (0, L - (a.length : Int)) ⟨Nat.zero_le _, by dsimp only; omega, by dsimp only; omega⟩ (Lib.lt_big (by omega))
  obtain ⟨x, hx, hb⟩ := key
  exact ⟨x, hx, hb, fun _ => by omega⟩
theorem ok (a : Row) (L : Int) (h0 : 0 <= L) (h1 : L <= 1048576) (ha : FitR a) : c a L = true /\ v a L <= 1048576 /\ (0 <= v a L -> a.length <= 1048576) := by
 obtain ⟨x, h, h2, h3⟩ := run a L h0 h1 ha
 obtain ⟨e1, e2⟩ := out a L h
 rw [e2]; exact ⟨e1, h2, h3⟩
end Go.FG.U47

namespace Go.FG.U8
theorem ok (i0 : Int) (r1 r2 r3 r4 : Row) (i5 : Int) (r6 r7 : Row) (i8 : Int) (L : Int) (h0 : 0 <= L) (h1 : L <= 1048576) (f1 : FitR r1) (f2 : FitR r2) (f3 : FitR r3) (f4 : FitR r4) (f6 : FitR r6) (f7 : FitR r7) :
  c i0 r1 r2 r3 r4 i5 r6 r7 i8 L = true /\ v i0 r1 r2 r3 r4 i5 r6 r7 i8 L <= 1048576 /\ (0 <= v i0 r1 r2 r3 r4 i5 r6 r7 i8 L -> r1.length <= 1048576 /\ (r2.length <= 1048576 /\ r3.length <= 1048576 /\ r4.length <= 1048576 /\ U214.inn r4) /\ r6.length <= 1048576 /\ r7.length <= 1048576) := by
 have a1 := U44.ok r1 L h0 h1 f1
 by_cases hA : U44.v r1 L < 0
 ·obtain ⟨q1, q2⟩ := out i0 r1 r2 r3 r4 i5 r6 r7 i8 L (x := -1) (by unfold vo b; rw [a1.1, cond_true, decide_eq_true hA, cond_true])
  rw [q2]; exact ⟨q1, by omega, fun h => by omega⟩
 have a2 := U45.ok r2 r3 r4 i5 (U44.v r1 L) (by omega) a1.2.1 f2 f3 f4
 by_cases hB : U45.v r2 r3 r4 i5 (U44.v r1 L) < 0
 ·obtain ⟨q1, q2⟩ := out i0 r1 r2 r3 r4 i5 r6 r7 i8 L (x := -1) (by unfold vo b; rw [a1.1, cond_true, decide_eq_false hA, cond_false, a2.1, cond_true, decide_eq_true hB, cond_true])
  rw [q2]; exact ⟨q1, by omega, fun h => by omega⟩
 have a3 := U46.ok r6 (U45.v r2 r3 r4 i5 (U44.v r1 L)) (by omega) a2.2.1 f6
 by_cases hC : U46.v r6 (U45.v r2 r3 r4 i5 (U44.v r1 L)) < 0
 ·obtain ⟨q1, q2⟩ := out i0 r1 r2 r3 r4 i5 r6 r7 i8 L (x := -1) (by unfold vo b; rw [a1.1, cond_true, decide_eq_false hA, cond_false, a2.1, cond_true, decide_eq_false hB, cond_false, a3.1, cond_true, decide_eq_true hC, cond_true])
  rw [q2]; exact ⟨q1, by omega, fun h => by omega⟩
 have a4 := U47.ok r7 (U46.v r6 (U45.v r2 r3 r4 i5 (U44.v r1 L))) (by omega) a3.2.1 f7
 by_cases hD : U47.v r7 (U46.v r6 (U45.v r2 r3 r4 i5 (U44.v r1 L))) < 0
 ·obtain ⟨q1, q2⟩ := out i0 r1 r2 r3 r4 i5 r6 r7 i8 L (x := -1) (by unfold vo b; rw [a1.1, cond_true, decide_eq_false hA, cond_false, a2.1, cond_true, decide_eq_false hB, cond_false, a3.1, cond_true, decide_eq_false hC, cond_false, a4.1, cond_true, decide_eq_true hD, cond_true])
  rw [q2]; exact ⟨q1, by omega, fun h => by omega⟩
 obtain ⟨q1, q2⟩ := out i0 r1 r2 r3 r4 i5 r6 r7 i8 L (x := U47.v r7 (U46.v r6 (U45.v r2 r3 r4 i5 (U44.v r1 L)))) (by unfold vo b; rw [a1.1, cond_true, decide_eq_false hA, cond_false, a2.1, cond_true, decide_eq_false hB, cond_false, a3.1, cond_true, decide_eq_false hC, cond_false, a4.1, cond_true, decide_eq_false hD, cond_false])
 rw [q2]; exact ⟨q1, a4.2.1, fun h => ⟨a1.2.2 (by omega), a2.2.2 (by omega), a3.2.2 (by omega), a4.2.2 h⟩⟩
end Go.FG.U8

namespace Go.FG.U235
theorem bd (x0 : ByteArray) (x1 : ByteArray) (x2 : Int) (L : Int) (h0 : okS x0) (h1 : okS x1) (hL0 : 0 <= L) (hL1 : L <= 1048576) : v x0 x1 x2 L <= 1048576 := by
 have hz : ∀ x, okS x -> x.size <= 4611686018427387904 := fun _ h => h
 have z0 := hz _ h0
 have z1 := hz _ h1
 unfold v
 rw [Lib.w64_ok (x := L - (x0.size : Int)) (by omega) (by omega)]
 by_cases c0 : L - (x0.size : Int) < 0
 ·rw [decide_eq_true c0, cond_true]; omega
 ·rw [decide_eq_false c0, cond_false]
  rw [Lib.w64_ok (x := (L - (x0.size : Int)) - (x1.size : Int)) (by omega) (by omega)]
  by_cases c1 : (L - (x0.size : Int)) - (x1.size : Int) < 0
  ·rw [decide_eq_true c1, cond_true]; omega
  ·rw [decide_eq_false c1, cond_false]
   omega
end Go.FG.U235

namespace Go.FG.U193
theorem run (a : Row) (L : Int) (h0 : 0 <= L) (h1 : L <= 1048576) (ha : FitR a) : ∃ x, vo a L = some x /\ x <= 1048576 /\ (0 <= x -> a.length <= 1048576) := by
 have hl := ha.1
 unfold vo b
 rw [Lib.w64_ok (x := L - (a.length : Int)) (by omega) (by omega)]
 by_cases hc : L - (a.length : Int) < 0
 ·rw [decide_eq_true hc]; exact ⟨-1, rfl, by omega, fun h => by omega⟩
 ·rw [decide_eq_false hc, cond_false]
  have key := Lib.loop_post (fun n (s : Nat × Int) => l5 Lib.big (fun (_ : Row) (_ y6 _ : Int) => some y6) (fun (_ : Row) (y9 _ _ : Int) => some y9) n a s.2 0 (s.1 : Int)) (fun s => a.length - s.1) (fun s => s.1 <= a.length /\ 0 <= s.2 /\ s.2 <= 1048576) (fun x => x <= 1048576) (fun n s hs => by
   obtain ⟨i, L⟩ := s
   obtain ⟨hi, hL0, hL1⟩ := hs
   dsimp only at hi hL0 hL1 ⊢
   by_cases h : i < a.length
   ·have hi1 : w64 ((i : Int) + 1) = ((i + 1 : Nat) : Int) := Lib.w64_ok (by omega) (by omega)
    have hw : U235.v (cvS (cellAt a i 0)) (cvS (cellAt a i 1)) (cvI (cellAt a i (1 + 1))) L <= 1048576 := U235.bd _ _ _ L (Lib.okS_cell ha i _) (Lib.okS_cell ha i _) hL0 hL1
    by_cases hn : U235.v (cvS (cellAt a i 0)) (cvS (cellAt a i 1)) (cvI (cellAt a i (1 + 1))) L < 0
    ·exact .inl ⟨-1, by simp only [l5, r5, Lib.dlt, h, decide_true, Lib.dle0, Bool.and_self, cond_true, Lib.toN, hn], by omega⟩
    ·exact .inr ⟨(i + 1, U235.v (cvS (cellAt a i 0)) (cvS (cellAt a i 1)) (cvI (cellAt a i (1 + 1))) L), ⟨h, by omega, hw⟩, by dsimp only; omega, by simp only [l5, r5, Lib.dlt, h, decide_true, decide_false, Lib.dle0, Bool.and_self, cond_true, cond_false, Lib.toN, hn, hi1]⟩
   ·exact .inl ⟨L, by simp only [l5, r5, Lib.dlt, h, decide_false, cond_false], hL1⟩) Lib.big (0, L - (a.length : Int)) ⟨Nat.zero_le _, by dsimp only; omega, by dsimp only; omega⟩ (Lib.lt_big (by omega))
  obtain ⟨x, hx, hb⟩ := key
  exact ⟨x, hx, hb, fun _ => by omega⟩
theorem ok (a : Row) (L : Int) (h0 : 0 <= L) (h1 : L <= 1048576) (ha : FitR a) : c a L = true /\ v a L <= 1048576 /\ (0 <= v a L -> a.length <= 1048576) := by
 obtain ⟨x, h, h2, h3⟩ := run a L h0 h1 ha
 obtain ⟨e1, e2⟩ := out a L h
 rw [e2]; exact ⟨e1, h2, h3⟩
end Go.FG.U193

namespace Go.FG.U109
theorem ok (r : Row) (L : Int) (h0 : 0 <= L) (h1 : L <= 1048576) (ha : FitR r) : c r L = true /\ v r L <= 1048576 /\ (0 <= v r L -> r.length <= 1048576) := by
 obtain ⟨e1, e2, e3⟩ := U193.ok r L h0 h1 ha
 by_cases h : U193.v r L < 0
 ·obtain ⟨q1, q2⟩ := out r L (x := -1) (by unfold vo b; rw [e1, cond_true, decide_eq_true h, cond_true])
  rw [q2]; exact ⟨q1, by omega, fun h => by omega⟩
 ·obtain ⟨q1, q2⟩ := out r L (x := U193.v r L) (by unfold vo b; rw [e1, cond_true, decide_eq_false h, cond_false])
  rw [q2]; exact ⟨q1, e2, e3⟩
end Go.FG.U109

namespace Go.FG.U31
theorem ok (i0 : Int) (r1 r2 r3 r4 : Row) (i5 : Int) (r6 r7 : Row) (i8 : Int) (r9 r10 r11 : Row) (L : Int) (h0 : 0 <= L) (h1 : L <= 1048576) (f1 : FitR r1) (f2 : FitR r2) (f3 : FitR r3) (f4 : FitR r4) (f6 : FitR r6) (f7 : FitR r7) (f9 : FitR r9) (f10 : FitR r10) (f11 : FitR r11) :
  c i0 r1 r2 r3 r4 i5 r6 r7 i8 r9 r10 r11 L = true /\ v i0 r1 r2 r3 r4 i5 r6 r7 i8 r9 r10 r11 L <= 1048576 /\ (0 <= v i0 r1 r2 r3 r4 i5 r6 r7 i8 r9 r10 r11 L -> (r1.length <= 1048576 /\ (r2.length <= 1048576 /\ r3.length <= 1048576 /\ r4.length <= 1048576 /\ U214.inn r4) /\ r6.length <= 1048576 /\ r7.length <= 1048576) /\ r9.length <= 1048576 /\ r10.length <= 1048576 /\ r11.length <= 1048576) := by
 have a1 := U8.ok i0 r1 r2 r3 r4 i5 r6 r7 i8 L h0 h1 f1 f2 f3 f4 f6 f7
 generalize ex1 : U8.v i0 r1 r2 r3 r4 i5 r6 r7 i8 L = x1 at a1
 by_cases hA : x1 < 0
 ·obtain ⟨q1, q2⟩ := out i0 r1 r2 r3 r4 i5 r6 r7 i8 r9 r10 r11 L (x := -1) (by unfold vo b; rw [ex1, a1.1, cond_true, decide_eq_true hA, cond_true])
  rw [q2]; exact ⟨q1, by omega, fun h => by omega⟩
 have a2 := U109.ok r9 x1 (by omega) a1.2.1 f9
 generalize ex2 : U109.v r9 x1 = x2 at a2
 by_cases hB : x2 < 0
 ·obtain ⟨q1, q2⟩ := out i0 r1 r2 r3 r4 i5 r6 r7 i8 r9 r10 r11 L (x := -1) (by unfold vo b; rw [ex1, ex2, a1.1, cond_true, decide_eq_false hA, cond_false, a2.1, cond_true, decide_eq_true hB, cond_true])
  rw [q2]; exact ⟨q1, by omega, fun h => by omega⟩
 have a3 := U214.bd (q := r10) (L := x2) f10.1 (by omega) a2.2.1
 generalize ex3 : U110.v r10 x2 = x3 at a3
 by_cases hC : x3 < 0
 ·obtain ⟨q1, q2⟩ := out i0 r1 r2 r3 r4 i5 r6 r7 i8 r9 r10 r11 L (x := -1) (by unfold vo b; rw [ex1, ex2, ex3, a1.1, cond_true, decide_eq_false hA, cond_false, a2.1, cond_true, decide_eq_false hB, cond_false, decide_eq_true hC, cond_true])
  rw [q2]; exact ⟨q1, by omega, fun h => by omega⟩
 have a4 := U44.ok r11 x3 (by omega) a3.1 f11
 generalize ex4 : U44.v r11 x3 = x4 at a4
 by_cases hD : x4 < 0
 ·obtain ⟨q1, q2⟩ := out i0 r1 r2 r3 r4 i5 r6 r7 i8 r9 r10 r11 L (x := -1) (by unfold vo b; rw [ex1, ex2, ex3, ex4, a1.1, cond_true, decide_eq_false hA, cond_false, a2.1, cond_true, decide_eq_false hB, cond_false, decide_eq_false hC, cond_false, a4.1, cond_true, decide_eq_true hD, cond_true])
  rw [q2]; exact ⟨q1, by omega, fun h => by omega⟩
 obtain ⟨q1, q2⟩ := out i0 r1 r2 r3 r4 i5 r6 r7 i8 r9 r10 r11 L (x := x4) (by unfold vo b; rw [ex1, ex2, ex3, ex4, a1.1, cond_true, decide_eq_false hA, cond_false, a2.1, cond_true, decide_eq_false hB, cond_false, decide_eq_false hC, cond_false, a4.1, cond_true, decide_eq_false hD, cond_false])
 rw [q2]; exact ⟨q1, a4.2.1, fun h => ⟨a1.2.2 (by omega), a2.2.2 (by omega), (a3.2 hC).1, a4.2.2 h⟩⟩
end Go.FG.U31

namespace Go.FG.U58
def tl (a0 : Row) : Row := a0.map fun y => [CV.s (cvS (y.getD 0 (.b false))), CV.i IntKind.i64 (cvI (y.getD 1 (.b false))), CV.i IntKind.i64 (cvI (y.getD 2 (.b false))), CV.s (cvS (y.getD 3 (.b false)))]
theorem tl_len (a0 : Row) : (tl a0).length = a0.length := by unfold tl; simp
theorem tl_sh (a0 : Row) : ∀ y ∈ tl a0, y.length = 4 := by
 intro y hy; unfold tl at hy; obtain ⟨z, _, rfl⟩ := List.mem_map.1 hy; rfl
theorem run (a0 : Row) (hl : a0.length <= 1048576) : vo a0 = some (tl a0) := by
 unfold vo b
 rw [show decide ((a0.length : Int) = (a0.length : Int)) = true by simp, Lib.toN, Lib.roomy_of (by omega) (by omega), Bool.and_self, cond_true]
 have mono := Lib.loop_gen (fun m (s : Nat) => l3 Lib.big (fun (_ : Row) (_ : Int) (y : Row) => some y) m a0 (s : Int) ((tl a0).take s ++ zeros [Ck.s, Ck.i IntKind.i64, Ck.i IntKind.i64, Ck.s] (a0.length - s))) (fun i => a0.length - i) (fun i => i <= a0.length) (fun _ => some (tl a0)) (fun m i hi => by
  by_cases h : i < a0.length
  ·right
   refine ⟨i + 1, h, by omega, rfl, ?_⟩
   have hlt : i < (tl a0).length := by rw [tl_len]; exact h
   have e := Lib.setC_step (ks := [Ck.s, Ck.i IntKind.i64, Ck.i IntKind.i64, Ck.s]) (tl_len a0) h (List.getElem?_eq_getElem hlt) (tl_sh a0 _ (List.getElem_mem hlt))
   have eg : (tl a0)[i] = [CV.s (cvS (cellAt a0 i 0)), CV.i IntKind.i64 (cvI (cellAt a0 i 1)), CV.i IntKind.i64 (cvI (cellAt a0 i 2)), CV.s (cvS (cellAt a0 i 3))] := by simp [tl, cellAt, List.getD, h]
   rw [eg] at e
   have hx : ((tl a0).take i ++ zeros [Ck.s, Ck.i IntKind.i64, Ck.i IntKind.i64, Ck.s] (a0.length - i)).length = a0.length := by rw [List.length_append, List.length_take, tl_len, Lib.length_zeros]; omega
   have hi1 : w64 ((i : Int) + 1) = ((i + 1 : Nat) : Int) := Lib.w64_ok (by omega) (by omega)
   show l3 Lib.big _ (m + 1) a0 (i : Int) _ = l3 Lib.big _ m a0 ((i + 1 : Nat) : Int) _
   rw [<- e]
   simp only [l3, r3, hx, Lib.dlt, Lib.dle0, Lib.toN, h, decide_true, Bool.and_self, cond_true, hi1]
  ·left
   have : i = a0.length := by omega
   subst this
   rw [Nat.sub_self, List.take_of_length_le (by rw [tl_len]; exact Nat.le_refl _), show zeros [Ck.s, Ck.i IntKind.i64, Ck.i IntKind.i64, Ck.s] 0 = [] from rfl, List.append_nil]
   simp only [l3, r3, Lib.dlt, Nat.lt_irrefl, decide_false, cond_false]) Lib.big 0 (Nat.zero_le _) (Lib.lt_big (by omega))
 simpa using mono
theorem ok (a0 : Row) (hl : a0.length <= 1048576) : c a0 = true /\ v a0 = tl a0 := out a0 (run a0 hl)
end Go.FG.U58

namespace Go.FG.U150
def tl (a0 : Row) : Row := a0.map fun y => [CV.s (cvS (y.getD 0 (.b false)))]
theorem tl_len (a0 : Row) : (tl a0).length = a0.length := by unfold tl; simp
theorem tl_sh (a0 : Row) : ∀ y ∈ tl a0, y.length = 1 := by
 intro y hy; unfold tl at hy; obtain ⟨z, _, rfl⟩ := List.mem_map.1 hy; rfl
theorem run (a0 : Row) (hl : a0.length <= 1048576) : vo a0 = some (tl a0) := by
 unfold vo b
 rw [show decide ((a0.length : Int) = (a0.length : Int)) = true by simp, Lib.toN, Lib.roomy_of (by omega) (by omega), Bool.and_self, cond_true]
 have mono := Lib.loop_gen (fun m (s : Nat) => l3 Lib.big (fun (_ : Row) (_ : Int) (y : Row) => some y) m a0 (s : Int) ((tl a0).take s ++ zeros [Ck.s] (a0.length - s))) (fun i => a0.length - i) (fun i => i <= a0.length) (fun _ => some (tl a0)) (fun m i hi => by
  by_cases h : i < a0.length
  ·right
   refine ⟨i + 1, h, by omega, rfl, ?_⟩
   have hlt : i < (tl a0).length := by rw [tl_len]; exact h
   have e := Lib.setC_step (ks := [Ck.s]) (tl_len a0) h (List.getElem?_eq_getElem hlt) (tl_sh a0 _ (List.getElem_mem hlt))
   have eg : (tl a0)[i] = [CV.s (cvS (cellAt a0 i 0))] := by simp [tl, cellAt, List.getD, h]
   rw [eg] at e
   have hx : ((tl a0).take i ++ zeros [Ck.s] (a0.length - i)).length = a0.length := by rw [List.length_append, List.length_take, tl_len, Lib.length_zeros]; omega
   have hi1 : w64 ((i : Int) + 1) = ((i + 1 : Nat) : Int) := Lib.w64_ok (by omega) (by omega)
   show l3 Lib.big _ (m + 1) a0 (i : Int) _ = l3 Lib.big _ m a0 ((i + 1 : Nat) : Int) _
   rw [<- e]
   simp only [l3, r3, hx, Lib.dlt, Lib.dle0, Lib.toN, h, decide_true, Bool.and_self, cond_true, hi1]
  ·left
   have : i = a0.length := by omega
   subst this
   rw [Nat.sub_self, List.take_of_length_le (by rw [tl_len]; exact Nat.le_refl _), show zeros [Ck.s] 0 = [] from rfl, List.append_nil]
   simp only [l3, r3, Lib.dlt, Nat.lt_irrefl, decide_false, cond_false]) Lib.big 0 (Nat.zero_le _) (Lib.lt_big (by omega))
 simpa using mono
theorem ok (a0 : Row) (hl : a0.length <= 1048576) : c a0 = true /\ v a0 = tl a0 := out a0 (run a0 hl)
end Go.FG.U150

namespace Go.FG.U216
def tl (a0 : Row) : Row := a0.map fun y => [CV.l 3 (U117.v (cvL (y.getD 0 (.b false))))]
theorem tl_len (a0 : Row) : (tl a0).length = a0.length := by unfold tl; simp
theorem tl_sh (a0 : Row) : ∀ y ∈ tl a0, y.length = 1 := by
 intro y hy; unfold tl at hy; obtain ⟨z, _, rfl⟩ := List.mem_map.1 hy; rfl
theorem run (a0 : Row) (hl : a0.length <= 1048576) (hin : U214.inn a0) : vo a0 = some (tl a0) := by
 unfold vo b
 rw [show decide ((a0.length : Int) = (a0.length : Int)) = true by simp, Lib.toN, Lib.roomy_of (by omega) (by omega), Bool.and_self, cond_true]
 have mono := Lib.loop_gen (fun m (s : Nat) => l3 Lib.big (fun (_ : Row) (_ : Int) (y : Row) => some y) m a0 (s : Int) ((tl a0).take s ++ zeros [Ck.l 3] (a0.length - s))) (fun i => a0.length - i) (fun i => i <= a0.length) (fun _ => some (tl a0)) (fun m i hi => by
  by_cases h : i < a0.length
  ·right
   refine ⟨i + 1, h, by omega, rfl, ?_⟩
   have hlt : i < (tl a0).length := by rw [tl_len]; exact h
   have e := Lib.setC_step (ks := [Ck.l 3]) (tl_len a0) h (List.getElem?_eq_getElem hlt) (tl_sh a0 _ (List.getElem_mem hlt))
   have eg : (tl a0)[i] = [CV.l 3 (U117.v (cvL (cellAt a0 i 0)))] := by simp [tl, cellAt, List.getD, h]
   rw [eg] at e
   have hx : ((tl a0).take i ++ zeros [Ck.l 3] (a0.length - i)).length = a0.length := by rw [List.length_append, List.length_take, tl_len, Lib.length_zeros]; omega
   have hi1 : w64 ((i : Int) + 1) = ((i + 1 : Nat) : Int) := Lib.w64_ok (by omega) (by omega)
   have hc : U117.c (cvL (cellAt a0 i 0)) = true := decide_eq_true (hin.1 i h)
   show l3 Lib.big _ (m + 1) a0 (i : Int) _ = l3 Lib.big _ m a0 ((i + 1 : Nat) : Int) _
   rw [<- e]
   simp only [l3, r3, hx, hc, Lib.dlt, Lib.dle0, Lib.toN, h, decide_true, Bool.and_self, cond_true, hi1]
  ·left
   have : i = a0.length := by omega
   subst this
   rw [Nat.sub_self, List.take_of_length_le (by rw [tl_len]; exact Nat.le_refl _), show zeros [Ck.l 3] 0 = [] from rfl, List.append_nil]
   simp only [l3, r3, Lib.dlt, Nat.lt_irrefl, decide_false, cond_false]) Lib.big 0 (Nat.zero_le _) (Lib.lt_big (by omega))
 simpa using mono
theorem ok (a0 : Row) (hl : a0.length <= 1048576) (hin : U214.inn a0) : c a0 = true /\ v a0 = tl a0 := out a0 (run a0 hl hin)
end Go.FG.U216

namespace Go.FG.U60
def tl (a0 : Row) : Row := a0.map fun y => [CV.s (cvS (y.getD 0 (.b false))), CV.s (cvS (y.getD 1 (.b false))), CV.i IntKind.i64 (cvI (y.getD 2 (.b false))), CV.i IntKind.i64 (cvI (y.getD 3 (.b false))), CV.i IntKind.i64 (cvI (y.getD 4 (.b false)))]
theorem tl_len (a0 : Row) : (tl a0).length = a0.length := by unfold tl; simp
theorem tl_sh (a0 : Row) : ∀ y ∈ tl a0, y.length = 5 := by
 intro y hy; unfold tl at hy; obtain ⟨z, _, rfl⟩ := List.mem_map.1 hy; rfl
theorem run (a0 : Row) (hl : a0.length <= 1048576) : vo a0 = some (tl a0) := by
 unfold vo b
 rw [show decide ((a0.length : Int) = (a0.length : Int)) = true by simp, Lib.toN, Lib.roomy_of (by omega) (by omega), Bool.and_self, cond_true]
 have mono := Lib.loop_gen (fun m (s : Nat) => l3 Lib.big (fun (_ : Row) (_ : Int) (y : Row) => some y) m a0 (s : Int) ((tl a0).take s ++ zeros [Ck.s, Ck.s, Ck.i IntKind.i64, Ck.i IntKind.i64, Ck.i IntKind.i64] (a0.length - s))) (fun i => a0.length - i) (fun i => i <= a0.length) (fun _ => some (tl a0)) (fun m i hi => by
  by_cases h : i < a0.length
  ·right
   refine ⟨i + 1, h, by omega, rfl, ?_⟩
   have hlt : i < (tl a0).length := by rw [tl_len]; exact h
   have e := Lib.setC_step (ks := [Ck.s, Ck.s, Ck.i IntKind.i64, Ck.i IntKind.i64, Ck.i IntKind.i64]) (tl_len a0) h (List.getElem?_eq_getElem hlt) (tl_sh a0 _ (List.getElem_mem hlt))
   have eg : (tl a0)[i] = [CV.s (cvS (cellAt a0 i 0)), CV.s (cvS (cellAt a0 i 1)), CV.i IntKind.i64 (cvI (cellAt a0 i 2)), CV.i IntKind.i64 (cvI (cellAt a0 i 3)), CV.i IntKind.i64 (cvI (cellAt a0 i 4))] := by simp [tl, cellAt, List.getD, h]
   rw [eg] at e
   have hx : ((tl a0).take i ++ zeros [Ck.s, Ck.s, Ck.i IntKind.i64, Ck.i IntKind.i64, Ck.i IntKind.i64] (a0.length - i)).length = a0.length := by rw [List.length_append, List.length_take, tl_len, Lib.length_zeros]; omega
   have hi1 : w64 ((i : Int) + 1) = ((i + 1 : Nat) : Int) := Lib.w64_ok (by omega) (by omega)
   show l3 Lib.big _ (m + 1) a0 (i : Int) _ = l3 Lib.big _ m a0 ((i + 1 : Nat) : Int) _
   rw [<- e]
   simp only [l3, r3, hx, Lib.dlt, Lib.dle0, Lib.toN, h, decide_true, Bool.and_self, cond_true, hi1]
  ·left
   have : i = a0.length := by omega
   subst this
   rw [Nat.sub_self, List.take_of_length_le (by rw [tl_len]; exact Nat.le_refl _), show zeros [Ck.s, Ck.s, Ck.i IntKind.i64, Ck.i IntKind.i64, Ck.i IntKind.i64] 0 = [] from rfl, List.append_nil]
   simp only [l3, r3, Lib.dlt, Nat.lt_irrefl, decide_false, cond_false]) Lib.big 0 (Nat.zero_le _) (Lib.lt_big (by omega))
 simpa using mono
theorem ok (a0 : Row) (hl : a0.length <= 1048576) : c a0 = true /\ v a0 = tl a0 := out a0 (run a0 hl)
end Go.FG.U60

namespace Go.FG.U61
def tl (a0 : Row) : Row := a0.map fun y => [CV.i IntKind.i64 (cvI (y.getD 0 (.b false))), CV.s (cvS (y.getD 1 (.b false))), CV.i IntKind.i64 (cvI (y.getD 2 (.b false))), CV.i IntKind.i64 (cvI (y.getD 3 (.b false))), CV.i IntKind.i64 (cvI (y.getD 4 (.b false))), CV.s (cvS (y.getD 5 (.b false))), CV.i IntKind.i64 (cvI (y.getD 6 (.b false)))]
theorem tl_len (a0 : Row) : (tl a0).length = a0.length := by unfold tl; simp
theorem tl_sh (a0 : Row) : ∀ y ∈ tl a0, y.length = 7 := by
 intro y hy; unfold tl at hy; obtain ⟨z, _, rfl⟩ := List.mem_map.1 hy; rfl
theorem run (a0 : Row) (hl : a0.length <= 1048576) : vo a0 = some (tl a0) := by
 unfold vo b
 rw [show decide ((a0.length : Int) = (a0.length : Int)) = true by simp, Lib.toN, Lib.roomy_of (by omega) (by omega), Bool.and_self, cond_true]
 have mono := Lib.loop_gen (fun m (s : Nat) => l3 Lib.big (fun (_ : Row) (_ : Int) (y : Row) => some y) m a0 (s : Int) ((tl a0).take s ++ zeros [Ck.i IntKind.i64, Ck.s, Ck.i IntKind.i64, Ck.i IntKind.i64, Ck.i IntKind.i64, Ck.s, Ck.i IntKind.i64] (a0.length - s))) (fun i => a0.length - i) (fun i => i <= a0.length) (fun _ => some (tl a0)) (fun m i hi => by
  by_cases h : i < a0.length
  ·right
   refine ⟨i + 1, h, by omega, rfl, ?_⟩
   have hlt : i < (tl a0).length := by rw [tl_len]; exact h
   have e := Lib.setC_step (ks := [Ck.i IntKind.i64, Ck.s, Ck.i IntKind.i64, Ck.i IntKind.i64, Ck.i IntKind.i64, Ck.s, Ck.i IntKind.i64]) (tl_len a0) h (List.getElem?_eq_getElem hlt) (tl_sh a0 _ (List.getElem_mem hlt))
   have eg : (tl a0)[i] = [CV.i IntKind.i64 (cvI (cellAt a0 i 0)), CV.s (cvS (cellAt a0 i 1)), CV.i IntKind.i64 (cvI (cellAt a0 i 2)), CV.i IntKind.i64 (cvI (cellAt a0 i 3)), CV.i IntKind.i64 (cvI (cellAt a0 i 4)), CV.s (cvS (cellAt a0 i 5)), CV.i IntKind.i64 (cvI (cellAt a0 i 6))] := by simp [tl, cellAt, List.getD, h]
   rw [eg] at e
   have hx : ((tl a0).take i ++ zeros [Ck.i IntKind.i64, Ck.s, Ck.i IntKind.i64, Ck.i IntKind.i64, Ck.i IntKind.i64, Ck.s, Ck.i IntKind.i64] (a0.length - i)).length = a0.length := by rw [List.length_append, List.length_take, tl_len, Lib.length_zeros]; omega
   have hi1 : w64 ((i : Int) + 1) = ((i + 1 : Nat) : Int) := Lib.w64_ok (by omega) (by omega)
   show l3 Lib.big _ (m + 1) a0 (i : Int) _ = l3 Lib.big _ m a0 ((i + 1 : Nat) : Int) _
   rw [<- e]
   simp only [l3, r3, hx, Lib.dlt, Lib.dle0, Lib.toN, h, decide_true, Bool.and_self, cond_true, hi1]
  ·left
   have : i = a0.length := by omega
   subst this
   rw [Nat.sub_self, List.take_of_length_le (by rw [tl_len]; exact Nat.le_refl _), show zeros [Ck.i IntKind.i64, Ck.s, Ck.i IntKind.i64, Ck.i IntKind.i64, Ck.i IntKind.i64, Ck.s, Ck.i IntKind.i64] 0 = [] from rfl, List.append_nil]
   simp only [l3, r3, Lib.dlt, Nat.lt_irrefl, decide_false, cond_false]) Lib.big 0 (Nat.zero_le _) (Lib.lt_big (by omega))
 simpa using mono
theorem ok (a0 : Row) (hl : a0.length <= 1048576) : c a0 = true /\ v a0 = tl a0 := out a0 (run a0 hl)
end Go.FG.U61

namespace Go.FG.U200
def tl (a0 : Row) : Row := a0.map fun y => [CV.s (cvS (y.getD 0 (.b false))), CV.s (cvS (y.getD 1 (.b false))), CV.i IntKind.i64 (cvI (y.getD 2 (.b false)))]
theorem tl_len (a0 : Row) : (tl a0).length = a0.length := by unfold tl; simp
theorem tl_sh (a0 : Row) : ∀ y ∈ tl a0, y.length = 3 := by
 intro y hy; unfold tl at hy; obtain ⟨z, _, rfl⟩ := List.mem_map.1 hy; rfl
theorem run (a0 : Row) (hl : a0.length <= 1048576) : vo a0 = some (tl a0) := by
 unfold vo b
 rw [show decide ((a0.length : Int) = (a0.length : Int)) = true by simp, Lib.toN, Lib.roomy_of (by omega) (by omega), Bool.and_self, cond_true]
 have mono := Lib.loop_gen (fun m (s : Nat) => l3 Lib.big (fun (_ : Row) (_ : Int) (y : Row) => some y) m a0 (s : Int) ((tl a0).take s ++ zeros [Ck.s, Ck.s, Ck.i IntKind.i64] (a0.length - s))) (fun i => a0.length - i) (fun i => i <= a0.length) (fun _ => some (tl a0)) (fun m i hi => by
  by_cases h : i < a0.length
  ·right
   refine ⟨i + 1, h, by omega, rfl, ?_⟩
   have hlt : i < (tl a0).length := by rw [tl_len]; exact h
   have e := Lib.setC_step (ks := [Ck.s, Ck.s, Ck.i IntKind.i64]) (tl_len a0) h (List.getElem?_eq_getElem hlt) (tl_sh a0 _ (List.getElem_mem hlt))
   have eg : (tl a0)[i] = [CV.s (cvS (cellAt a0 i 0)), CV.s (cvS (cellAt a0 i 1)), CV.i IntKind.i64 (cvI (cellAt a0 i 2))] := by simp [tl, cellAt, List.getD, h]
   rw [eg] at e
   have hx : ((tl a0).take i ++ zeros [Ck.s, Ck.s, Ck.i IntKind.i64] (a0.length - i)).length = a0.length := by rw [List.length_append, List.length_take, tl_len, Lib.length_zeros]; omega
   have hi1 : w64 ((i : Int) + 1) = ((i + 1 : Nat) : Int) := Lib.w64_ok (by omega) (by omega)
   show l3 Lib.big _ (m + 1) a0 (i : Int) _ = l3 Lib.big _ m a0 ((i + 1 : Nat) : Int) _
   rw [<- e]
   simp only [l3, r3, hx, Lib.dlt, Lib.dle0, Lib.toN, h, decide_true, Bool.and_self, cond_true, hi1]
  ·left
   have : i = a0.length := by omega
   subst this
   rw [Nat.sub_self, List.take_of_length_le (by rw [tl_len]; exact Nat.le_refl _), show zeros [Ck.s, Ck.s, Ck.i IntKind.i64] 0 = [] from rfl, List.append_nil]
   simp only [l3, r3, Lib.dlt, Nat.lt_irrefl, decide_false, cond_false]) Lib.big 0 (Nat.zero_le _) (Lib.lt_big (by omega))
 simpa using mono
theorem ok (a0 : Row) (hl : a0.length <= 1048576) : c a0 = true /\ v a0 = tl a0 := out a0 (run a0 hl)
end Go.FG.U200

namespace Go.FG.U151
theorem ok (r : Row) (k : Int) (hl : r.length <= 1048576) (hin : U214.inn r) : c r k = true /\ v r k = (U216.tl r, k) := by
 have h := U216.ok r hl hin
 exact out r k (by unfold vo b; rw [h.1, h.2, cond_true])
end Go.FG.U151

namespace Go.FG.U59
theorem ok (r0 r1 r2 : Row) (k : Int) (h0 : r0.length <= 1048576) (h1 : r1.length <= 1048576) (hl : r2.length <= 1048576) (hin : U214.inn r2) : c r0 r1 r2 k = true /\ v r0 r1 r2 k = (U150.tl r0, U150.tl r1, U216.tl r2, k) := by
 have a0 := U150.ok r0 h0
 have a1 := U150.ok r1 h1
 have a2 := U151.ok r2 k hl hin
 exact out r0 r1 r2 k (by unfold vo b; rw [a0.1, a0.2, a1.1, a1.2, a2.1, a2.2, cond_true, cond_true, cond_true])
def bs (r : Row) : List ByteArray := r.map fun y => cvS (y.getD 0 (.b false))
def is (r : Row) : List (List Int) := r.map fun y => (cvL (y.getD 0 (.b false))).map fun z => cvI (z.getD 0 (.b false))
theorem tl_rs (r : Row) : U150.tl r = Lib.rs (bs r) := by
 unfold U150.tl Lib.rs bs; rw [List.map_map]; rfl
theorem tl_rr (r : Row) : U216.tl r = Lib.rr (is r) := by
 unfold U216.tl Lib.rr is
 rw [List.map_map]
 apply List.map_congr_left
 intro y _
 show [CV.l 3 (U117.v (cvL (y.getD 0 (.b false))))] = [CV.l 3 (Lib.ri ((cvL (y.getD 0 (.b false))).map fun z => cvI (z.getD 0 (.b false))))]
 unfold U117.v Lib.ri; rw [List.map_map]; rfl
theorem bs_len (r : Row) : (bs r).length = r.length := by unfold bs; simp
theorem is_len (r : Row) : (is r).length = r.length := by unfold is; simp
theorem is_fit {r : Row} (hl : r.length <= 1048576) (h : U214.inn r) : (is r).length <= 1048576 /\ (∀ q ∈ is r, q.length <= 1048576) /\ ((is r).map List.length).sum <= 1048576 := by
 refine ⟨by rw [is_len]; exact hl, fun q hq => ?_, ?_⟩
 ·unfold is at hq
  obtain ⟨y, hy, rfl⟩ := List.mem_map.1 hq
  obtain ⟨i, hi, rfl⟩ := List.getElem_of_mem hy
  have := h.1 i hi
  rw [Lib.cellAt_of hi] at this
  rw [List.length_map]; exact this
 ·have := h.2
  unfold U214.tot at this
  unfold is
  rw [List.map_map]
  rw [show (List.length ∘ fun y : List CV => (cvL (y.getD 0 (.b false))).map fun z => cvI (z.getD 0 (.b false))) = fun y : List CV => (cvL (y.getD 0 (.b false))).length from by funext y; simp]
  exact this
end Go.FG.U59

namespace Go.FG.U10
theorem ok (i0 : Int) (r1 r2 r3 r4 : Row) (i5 : Int) (r6 r7 : Row) (i8 : Int) (h1 : r1.length <= 1048576) (h2 : r2.length <= 1048576) (h3 : r3.length <= 1048576) (h4 : r4.length <= 1048576) (hin : U214.inn r4) (h6 : r6.length <= 1048576) (h7 : r7.length <= 1048576) :
  c i0 r1 r2 r3 r4 i5 r6 r7 i8 = true /\ v i0 r1 r2 r3 r4 i5 r6 r7 i8 = (i0, U58.tl r1, U150.tl r2, U150.tl r3, U216.tl r4, i5, U60.tl r6, U61.tl r7, i8) := by
 have a1 := U58.ok r1 h1
 have a2 := U59.ok r2 r3 r4 i5 h2 h3 h4 hin
 have a3 := U60.ok r6 h6
 have a4 := U61.ok r7 h7
 exact out i0 r1 r2 r3 r4 i5 r6 r7 i8 (by unfold vo b; rw [a1.1, a1.2, a2.1, a2.2, a3.1, a3.2, a4.1, a4.2, cond_true, cond_true, cond_true, cond_true])
def eo (y : List CV) : Lib.En := ⟨cvS (y.getD 0 (.b false)), cvI (y.getD 1 (.b false)), cvI (y.getD 2 (.b false)), cvS (y.getD 3 (.b false))⟩
def fo (y : List CV) : Lib.Fe := ⟨cvS (y.getD 0 (.b false)), cvS (y.getD 1 (.b false)), cvI (y.getD 2 (.b false)), cvI (y.getD 3 (.b false)), cvI (y.getD 4 (.b false))⟩
def co (y : List CV) : Lib.Cl := ⟨cvI (y.getD 0 (.b false)), cvS (y.getD 1 (.b false)), cvI (y.getD 2 (.b false)), cvI (y.getD 3 (.b false)), cvI (y.getD 4 (.b false)), cvS (y.getD 5 (.b false)), cvI (y.getD 6 (.b false))⟩
theorem tl_re (r : Row) : U58.tl r = Lib.re (r.map eo) := by
 unfold U58.tl Lib.re; rw [List.map_map]; rfl
theorem tl_rf (r : Row) : U60.tl r = Lib.rf (r.map fo) := by
 unfold U60.tl Lib.rf; rw [List.map_map]; rfl
theorem tl_rc (r : Row) : U61.tl r = Lib.rc (r.map co) := by
 unfold U61.tl Lib.rc; rw [List.map_map]; rfl
theorem abs (i0 : Int) (r1 r2 r3 r4 : Row) (i5 : Int) (r6 r7 : Row) (i8 : Int) (h : r1.length <= 1048576 /\ (r2.length <= 1048576 /\ r3.length <= 1048576 /\ r4.length <= 1048576 /\ U214.inn r4) /\ r6.length <= 1048576 /\ r7.length <= 1048576) :
  ∃ p : Lib.Px, p.Fit 1048576 /\ c i0 r1 r2 r3 r4 i5 r6 r7 i8 = true /\ v i0 r1 r2 r3 r4 i5 r6 r7 i8 = (p.now, Lib.re p.en, Lib.rs p.w, Lib.rs p.m, Lib.rr p.s, p.a, Lib.rf p.fe, Lib.rc p.cl, p.hits) := by
 obtain ⟨h1, ⟨h2, h3, h4, hin⟩, h6, h7⟩ := h
 have t := ok i0 r1 r2 r3 r4 i5 r6 r7 i8 h1 h2 h3 h4 hin h6 h7
 rw [tl_re, U59.tl_rs, U59.tl_rs, U59.tl_rr, tl_rf, tl_rc] at t
 refine ⟨⟨i0, r1.map eo, U59.bs r2, U59.bs r3, U59.is r4, i5, r6.map fo, r7.map co, i8⟩, ⟨by simpa using h1, by dsimp only; rw [U59.bs_len]; exact h2, by dsimp only; rw [U59.bs_len]; exact h3, U59.is_fit h4 hin, by simpa using h6, by simpa using h7⟩, t⟩
end Go.FG.U10

namespace Go.FG.U116
theorem ok (a0 : Row) (hl : a0.length <= 1048576) : c a0 = true /\ v a0 = U200.tl a0 := by
 have h := U200.ok a0 hl
 exact out a0 (by unfold vo b; rw [h.1, h.2, cond_true])
end Go.FG.U116

namespace Go.FG.U33
theorem ok (i0 : Int) (r1 r2 r3 r4 : Row) (i5 : Int) (r6 r7 : Row) (i8 : Int) (r9 r10 r11 : Row) (h1 : r1.length <= 1048576) (h2 : r2.length <= 1048576) (h3 : r3.length <= 1048576) (h4 : r4.length <= 1048576) (hin : U214.inn r4) (h6 : r6.length <= 1048576) (h7 : r7.length <= 1048576) (h9 : r9.length <= 1048576) (h10 : r10.length <= 1048576) (h11 : r11.length <= 1048576) :
  c i0 r1 r2 r3 r4 i5 r6 r7 i8 r9 r10 r11 = true /\ v i0 r1 r2 r3 r4 i5 r6 r7 i8 r9 r10 r11 = (i0, U58.tl r1, U150.tl r2, U150.tl r3, U216.tl r4, i5, U60.tl r6, U61.tl r7, i8, U200.tl r9, U117.v r10, U58.tl r11) := by
 have a1 := U10.ok i0 r1 r2 r3 r4 i5 r6 r7 i8 h1 h2 h3 h4 hin h6 h7
 have a2 := U116.ok r9 h9
 have a3 : U117.c r10 = true := decide_eq_true h10
 have a4 := U58.ok r11 h11
 exact out i0 r1 r2 r3 r4 i5 r6 r7 i8 r9 r10 r11 (by unfold vo b; rw [a1.1, a1.2, a2.1, a2.2, a3, a4.1, a4.2, cond_true, cond_true, cond_true, cond_true])
end Go.FG.U33

namespace Go.FG.U198
theorem bl_irrefl : ∀ x : List UInt8, Go.Op.bytesLess x x = false
 | [] => rfl
 | a :: x => by
  have h : ¬ a < a := by rw [UInt8.lt_iff_toNat_lt]; omega
  simp [Go.Op.bytesLess, bl_irrefl x, h]
theorem bl_trans : ∀ x y z : List UInt8, Go.Op.bytesLess x y = true -> Go.Op.bytesLess y z = true -> Go.Op.bytesLess x z = true
 | _, [], _, h, _ => by cases ‹List UInt8› <;> simp [Go.Op.bytesLess] at h
 | _, _ :: _, [], _, h => by simp [Go.Op.bytesLess] at h
 | [], _ :: _, _ :: _, _, _ => by simp [Go.Op.bytesLess]
 | a :: x, b :: y, c :: z, h1, h2 => by
  simp only [Go.Op.bytesLess, Bool.or_eq_true, Bool.and_eq_true, decide_eq_true_eq, beq_iff_eq] at h1 h2 ⊢
  simp only [UInt8.lt_iff_toNat_lt] at h1 h2 ⊢
  rcases h1 with h1 | ⟨rfl, h1⟩
  ·rcases h2 with h2 | ⟨rfl, h2⟩
   ·left; omega
   ·left; exact h1
  ·rcases h2 with h2 | ⟨rfl, h2⟩
   ·left; exact h2
   ·right; exact ⟨rfl, bl_trans x y z h1 h2⟩
theorem bl_tri : ∀ x y : List UInt8, Go.Op.bytesLess x y = false -> x ≠ y -> Go.Op.bytesLess y x = true
 | [], [], _, h => absurd rfl h
 | [], _ :: _, h, _ => by simp [Go.Op.bytesLess] at h
 | _ :: _, [], _, _ => by simp [Go.Op.bytesLess]
 | a :: x, b :: y, h, hn => by
  simp only [Go.Op.bytesLess, Bool.or_eq_false_iff, Bool.and_eq_false_iff, decide_eq_false_iff_not, beq_eq_false_iff_ne] at h
  simp only [Go.Op.bytesLess, Bool.or_eq_true, Bool.and_eq_true, decide_eq_true_eq, beq_iff_eq]
  obtain ⟨h1, h2⟩ := h
  by_cases he : a = b
  ·subst he
   right
   refine ⟨rfl, bl_tri x y ?_ (fun e => hn (by rw [e]))⟩
   rcases h2 with h2 | h2
   ·exact absurd rfl h2
   ·exact h2
  ·left
   rw [UInt8.lt_iff_toNat_lt] at h1 ⊢
   have : a.toNat ≠ b.toNat := fun e => he (UInt8.toNat_inj.1 e)
   omega
def key (y : List CV) : List UInt8 := ByteArray.toList (cvS (y.getD 0 (.b false)))
def lt (y z : List CV) : Prop := Go.Op.bytesLess (key y) (key z) = true
def cr (y : List CV) : List CV := [CV.s (cvS (y.getD 0 (.b false))), CV.i IntKind.i64 (cvI (y.getD 1 (.b false))), CV.i IntKind.i64 (cvI (y.getD 2 (.b false))), CV.s (cvS (y.getD 3 (.b false)))]
def nw (k : ByteArray) (s l : Int) (b : ByteArray) : List CV := [CV.s k, CV.i IntKind.i64 s, CV.i IntKind.i64 l, CV.s b]
def pl (k : ByteArray) (y : List CV) : Bool := Go.Op.bytesLess (key y) (ByteArray.toList k)
def pg (k : ByteArray) (y : List CV) : Bool := !(Go.Op.bytesLess (key y) (ByteArray.toList k) || List.beq (key y) (ByteArray.toList k))
def val (r : Row) (k : ByteArray) (s l : Int) (b : ByteArray) : Row := (r.filter (pl k)).map cr ++ [nw k s l b] ++ (r.filter (pg k)).map cr
theorem ok (r : Row) (k : ByteArray) (s l : Int) (b0 : ByteArray) (hl : r.length <= 1048576) : c r k s l b0 = true /\ v r k s l b0 = val r k s l b0 := by
 refine out r k s l b0 ?_
 unfold vo
 have hw : ∀ i, i < r.length -> w64 ((i : Int) + 1) = ((i + 1 : Nat) : Int) := fun i h => Lib.w64_s h (by omega)
 have key2 := fun (acc0 : Row) (ha : acc0.length <= 2000000) => Lib.filt_run (pg k) cr r 2000000
  (fun m (i : Nat) (acc : Row) => l9 Lib.big (fun (_ : Row) (_ : Int) (_ : ByteArray) (_ _ : Int) (_ : ByteArray) (y27 : Row) => some y27) m r (i : Int) k s l b0 acc) (fun acc => some acc)
  (fun m i acc h h2 hp => by
   have hp' : (!(Go.Op.bytesLess (ByteArray.toList (cvS (cellAt r i 0))) (ByteArray.toList k) || List.beq (ByteArray.toList (cvS (cellAt r i 0))) (ByteArray.toList k))) = true := by rw [Lib.cellAt_of h]; exact hp
   simp only [l9, r9, Lib.dlt, h, decide_true, Lib.dle0, Bool.and_self, cond_true, Lib.toN, hp', hw i h, Lib.len_set1, List.length_singleton, Lib.roomy_of (n := acc.length + 1) (b := 48) (by omega) (by omega)]
   have e : [CV.s (cvS (cellAt r i 0)), CV.i IntKind.i64 (cvI (cellAt r i 1)), CV.i IntKind.i64 (cvI (cellAt r i (1 + 1))), CV.s (cvS (cellAt r i (1 + 1 + 1)))] = cr r[i] := by
    rw [Lib.cellAt_of h, Lib.cellAt_of h, Lib.cellAt_of h, Lib.cellAt_of h]; rfl
   rw [e])
  (fun m i acc h h2 hp => by
   have hp' : (!(Go.Op.bytesLess (ByteArray.toList (cvS (cellAt r i 0))) (ByteArray.toList k) || List.beq (ByteArray.toList (cvS (cellAt r i 0))) (ByteArray.toList k))) = false := by rw [Lib.cellAt_of h]; exact hp
   simp only [l9, r9, Lib.dlt, h, decide_true, Lib.dle0, Bool.and_self, cond_true, Lib.toN, hp', cond_false, hw i h])
  (fun m acc => by simp only [l9, r9, Lib.dlt, Nat.lt_irrefl, decide_false, cond_false]) Lib.big acc0 ha (Lib.lt_big (by omega))
 have key1 := Lib.filt_run (pl k) cr r 0
  (fun m (i : Nat) (acc : Row) => l3 Lib.big (fun (y7 : Row) (_ : Int) (y9 : ByteArray) (y10 y11 : Int) (y12 : ByteArray) (y13 : Row) => bif (roomy (List.length y13 + List.length (List.set (zeros [Ck.s, Ck.i IntKind.i64, Ck.i IntKind.i64, Ck.s] 1) 0 [CV.s y9, CV.i IntKind.i64 y10, CV.i IntKind.i64 y11, CV.s y12])) 48) then (l9 Lib.big (fun (_ : Row) (_ : Int) (_ : ByteArray) (_ _ : Int) (_ : ByteArray) (y27 : Row) => some y27) Lib.big y7 0 y9 y10 y11 y12 (y13 ++ List.set (zeros [Ck.s, Ck.i IntKind.i64, Ck.i IntKind.i64, Ck.s] 1) 0 [CV.s y9, CV.i IntKind.i64 y10, CV.i IntKind.i64 y11, CV.s y12])) else (none)) m r (i : Int) k s l b0 acc)
  (fun acc => bif (roomy (List.length acc + 1) 48) then (l9 Lib.big (fun (_ : Row) (_ : Int) (_ : ByteArray) (_ _ : Int) (_ : ByteArray) (y27 : Row) => some y27) Lib.big r 0 k s l b0 (acc ++ [nw k s l b0])) else none)
  (fun m i acc h h2 hp => by
   have hp' : Go.Op.bytesLess (ByteArray.toList (cvS (cellAt r i 0))) (ByteArray.toList k) = true := by rw [Lib.cellAt_of h]; exact hp
   simp only [l3, r3, Lib.dlt, h, decide_true, Lib.dle0, Bool.and_self, cond_true, Lib.toN, hp', hw i h, Lib.len_set1, List.length_singleton, Lib.roomy_of (n := acc.length + 1) (b := 48) (by omega) (by omega)]
   have e : [CV.s (cvS (cellAt r i 0)), CV.i IntKind.i64 (cvI (cellAt r i 1)), CV.i IntKind.i64 (cvI (cellAt r i (1 + 1))), CV.s (cvS (cellAt r i (1 + 1 + 1)))] = cr r[i] := by
    rw [Lib.cellAt_of h, Lib.cellAt_of h, Lib.cellAt_of h, Lib.cellAt_of h]; rfl
   rw [e])
  (fun m i acc h h2 hp => by
   have hp' : Go.Op.bytesLess (ByteArray.toList (cvS (cellAt r i 0))) (ByteArray.toList k) = false := by rw [Lib.cellAt_of h]; exact hp
   simp only [l3, r3, Lib.dlt, h, decide_true, Lib.dle0, Bool.and_self, cond_true, Lib.toN, hp', cond_false, hw i h])
  (fun m acc => by simp only [l3, r3, Lib.dlt, Nat.lt_irrefl, decide_false, cond_false]; rfl) Lib.big [] (Nat.le_refl _) (Lib.lt_big (by omega))
 unfold b
 refine key1.trans ?_
 have hf : ((r.filter (pl k)).map cr).length <= r.length := by rw [List.length_map]; exact List.length_filter_le _ _
 rw [List.nil_append, Lib.roomy_of (by omega) (by omega), cond_true]
 exact key2 _ (by rw [List.length_append, List.length_singleton]; omega)
def Or (r : Row) : Prop := r.Pairwise lt /\ ∀ y ∈ r, cr y = y
theorem map_cr {r : Row} (h : ∀ y ∈ r, cr y = y) (q : List CV -> Bool) : (r.filter q).map cr = r.filter q := by
 have := List.map_congr_left (l := r.filter q) (f := cr) (g := fun z => z) (fun y hy => h y (List.mem_filter.1 hy).1)
 rw [this]; exact List.map_id _
theorem keep_or {r : Row} (h : Or r) (k : ByteArray) (s l : Int) (b : ByteArray) : Or (val r k s l b) /\ (val r k s l b).length <= r.length + 1 := by
 unfold val
 rw [map_cr h.2, map_cr h.2]
 have hg : ∀ y, pg k y = true -> Go.Op.bytesLess (ByteArray.toList k) (key y) = true := by
  intro y hy
  unfold pg at hy
  simp only [Bool.not_eq_true', Bool.or_eq_false_iff] at hy
  refine bl_tri _ _ hy.1 (fun e => ?_)
  have := hy.2
  rw [e, Lib.beq_self] at this; cases this
 refine ⟨⟨?_, ?_⟩, ?_⟩
 ·rw [List.append_assoc, List.pairwise_append]
  refine ⟨h.1.sublist List.filter_sublist, ?_, ?_⟩
  ·rw [List.singleton_append, List.pairwise_cons]
   exact ⟨fun y hy => hg y (List.mem_filter.1 hy).2, h.1.sublist List.filter_sublist⟩
  ·intro y hy z hz
   have h1 : Go.Op.bytesLess (key y) (ByteArray.toList k) = true := (List.mem_filter.1 hy).2
   rcases List.mem_append.1 hz with q | q
   ·rw [List.mem_singleton.1 q]; exact h1
   ·exact bl_trans _ _ _ h1 (hg z (List.mem_filter.1 q).2)
 ·intro y hy
  rcases List.mem_append.1 hy with q | q
  ·rcases List.mem_append.1 q with q | q
   ·exact h.2 y (List.mem_filter.1 q).1
   ·rw [List.mem_singleton.1 q]; rfl
  ·exact h.2 y (List.mem_filter.1 q).1
 ·have hlen : ∀ r : Row, (r.filter (pl k)).length + (r.filter (pg k)).length <= r.length := by
   intro r
   induction r with
   | nil => exact Nat.le_refl _
   | cons y r ih =>
    have hx : pl k y = true -> pg k y = false := by
     intro h; unfold pl at h; unfold pg; rw [h]; rfl
    cases h1 : pl k y with
    | true =>
     rw [List.filter_cons_of_pos h1, List.filter_cons_of_neg (by rw [hx h1]; simp)]
     simp only [List.length_cons]; omega
    | false =>
     rw [List.filter_cons_of_neg (by simp [h1])]
     cases h2 : pg k y with
     | true => rw [List.filter_cons_of_pos h2]; simp only [List.length_cons]; omega
     | false => rw [List.filter_cons_of_neg (by simp [h2])]; simp only [List.length_cons]; omega
  have := hlen r
  simp only [List.length_append, List.length_singleton]; omega
end Go.FG.U198

namespace Go.FG.U197
end Go.FG.U197

namespace Go.FG.U66b
def p (s : Row) (k : ByteArray) (i : Nat) : Bool := List.beq (ByteArray.toList (cvS (cellAt s i 0))) (ByteArray.toList k)
theorem ok (d : Row) (n : ByteArray) (hl : d.length <= 4294967296) : c d n = true /\ v d n = Lib.fi (p d n) d.length 0 := by
 refine out d n ?_
 unfold vo b
 refine Lib.fi_gen (p d n) d.length (fun m (i : Nat) => l2 Lib.big (fun (_ : Row) (_ : ByteArray) (y7 _ _ : Int) => some y7) (fun (_ : Row) (_ : ByteArray) (_ _ _ : Int) => some (-1)) m d n 0 (d.length : Int) (i : Int)) some (fun m i hi hp => ?_) (fun m i hi hp => ?_) (fun m => ?_) Lib.big (Lib.lt_big (by omega))
 ·unfold p at hp
  simp only [l2, r2, Lib.dlt, Lib.dle0, Lib.toN, hi, decide_true, Bool.and_self, cond_true, U167.v, hp]
 ·unfold p at hp
  simp only [l2, r2, Lib.dlt, Lib.dle0, Lib.toN, hi, decide_true, Bool.and_self, cond_true, U167.v, hp, cond_false, Lib.w64_s hi (by omega : d.length <= 9223372036854775807)]
 ·simp only [l2, r2, Lib.dlt, Nat.lt_irrefl, decide_false, cond_false]
end Go.FG.U66b

namespace Go.FG.U166
def cn (y : List CV) : Bool := match y with | [.s _, .i .i64 _, .i .i64 _, .s _] => true | _ => false
def cr (y : List CV) : List CV := [CV.s (cvS (y.getD 0 (.b false))), CV.i IntKind.i64 (cvI (y.getD 1 (.b false))), CV.i IntKind.i64 (cvI (y.getD 2 (.b false))), CV.s (cvS (y.getD 3 (.b false)))]
theorem cr_of {y : List CV} (h : cn y = true) : cr y = y := by
 unfold cn at h
 split at h
 ·rfl
 ·cases h
theorem len_of {y : List CV} (h : cn y = true) : y.length = 4 := by rw [<- cr_of h]; rfl
def keep (d : ByteArray) (y : List CV) : Bool := !List.beq (ByteArray.toList (cvS (y.getD 0 (.b false)))) (ByteArray.toList d)
theorem filter_succ (d : ByteArray) {s : Row} {i : Nat} (h : i < s.length) : (s.take (i + 1)).filter (keep d) = (s.take i).filter (keep d) ++ (bif keep d s[i] then [s[i]] else []) := by
 rw [List.take_succ_eq_append_getElem h, List.filter_append]
 cases hk : keep d s[i] <;> simp [hk]
theorem run {R : Type} (N : Nat) (s0 : Row) (d : ByteArray) (hc : s0.all cn = true) (hn : s0.length <= 9223372036854775807) (K : ByteArray -> Int -> Int -> Row -> Option R) (kr : Row -> Option R)
  (hK : ∀ (j : Nat) x, x.length = s0.length -> j <= s0.length -> K d j s0.length x = kr (x.take j)) (m j i : Nat) (x : Row)
  (hi : j < i /\ i <= s0.length /\ x.length = s0.length /\ (∀ y ∈ x, y.length = 4) /\ x.take j = (s0.take i).filter (keep d) /\ x.drop i = s0.drop i) (hm : s0.length - i < m) :
  l5 N K m d j i x = kr (s0.filter (keep d)) := by
 have hca : ∀ y ∈ s0, cn y = true := List.all_eq_true.1 hc
 refine Lib.loop_gen (fun m (s : Nat × Nat × Row) => l5 N K m d s.1 s.2.1 s.2.2) (fun s => s0.length - s.2.1)
  (fun s => s.1 < s.2.1 /\ s.2.1 <= s0.length /\ s.2.2.length = s0.length /\ (∀ y ∈ s.2.2, y.length = 4) /\ s.2.2.take s.1 = (s0.take s.2.1).filter (keep d) /\ s.2.2.drop s.2.1 = s0.drop s.2.1)
  (fun _ => kr (s0.filter (keep d))) (fun m s hs => ?_) m (j, i, x) hi hm
 obtain ⟨j, i, x⟩ := s
 obtain ⟨h1, h2, h3, h4, h5, h6⟩ := hs
 simp only at h1 h2 h3 h4 h5 h6 ⊢
 by_cases hin : i < s0.length
 ·right
  have hix : i < x.length := by omega
  have hjx : j < x.length := by omega
  have hx : x[i] = s0[i] := by
   have e1 := Lib.drop_cons_of hix
   have e2 := Lib.drop_cons_of hin
   rw [h6, e2] at e1
   exact (List.cons.inj e1).1.symm
  have hd : x.drop (i + 1) = s0.drop (i + 1) := by
   have e1 := Lib.drop_cons_of hix
   have e2 := Lib.drop_cons_of hin
   rw [h6, e2] at e1
   exact (List.cons.inj e1).2.symm
  have hcn := hca _ (List.getElem_mem hin)
  have hf := filter_succ d hin
  cases hk : keep d s0[i] with
  | true =>
   refine ⟨(j + 1, i + 1, x.set j s0[i]), ?_, by simp only; omega, trivial, ?_⟩
   ·rw [hk, cond_true, <- h5] at hf
    refine ⟨by simp only; omega, by simp only; omega, by simpa using h3, ?_, ?_, ?_⟩
    ·intro y hy
     rcases List.mem_or_eq_of_mem_set hy with h | h
     ·exact h4 y h
     ·rw [h]; exact len_of hcn
    ·rw [hf]
     rw [List.take_succ_eq_append_getElem (by simpa using hjx)]
     simp [List.take_set_of_le]
    ·simp only
     rw [List.drop_set_of_lt (by omega)]; exact hd
   ·have e : U167.v (cvS (cellAt x i 0)) (cvI (cellAt x i 1)) (cvI (cellAt x i (1 + 1))) (cvS (cellAt x i (1 + 1 + 1))) d = false := by
     have : (!U167.v (cvS (cellAt x i 0)) (cvI (cellAt x i 1)) (cvI (cellAt x i (1 + 1))) (cvS (cellAt x i (1 + 1 + 1))) d) = true := by
      rw [Lib.cellAt_of hix, hx]; exact hk
     simpa using this
    have es : setC x j 0 [CV.s (cvS (cellAt x i 0)), CV.i IntKind.i64 (cvI (cellAt x i 1)), CV.i IntKind.i64 (cvI (cellAt x i (1 + 1))), CV.s (cvS (cellAt x i (1 + 1 + 1)))] = x.set j s0[i] := by
     have hl := h4 _ (List.getElem_mem hjx)
     rw [Lib.setC_eq hjx, Lib.cellAt_of hix, Lib.cellAt_of hix, Lib.cellAt_of hix, Lib.cellAt_of hix, hx]
     have : splice x[j] 0 (cr s0[i]) = s0[i] := by
      rw [cr_of hcn]
      unfold splice
      have := len_of hcn
      simp [hl, this, List.drop_eq_nil_of_le]
     unfold cr at this
     rw [this]
    have b1 : (j : Int) < (x.length : Int) := by omega
    simp only [l5, r5, Lib.dlt, Lib.dle0, Lib.toN, hix, hjx, decide_true, Bool.true_and, cond_true, e, Bool.not_false, es, Lib.w64_s hin hn, Lib.w64_s (show j < s0.length by omega) hn]
  | false =>
   refine ⟨(j, i + 1, x), ?_, by simp only; omega, trivial, ?_⟩
   ·rw [hk, cond_false, List.append_nil, <- h5] at hf
    exact ⟨by simp only; omega, by simp only; omega, h3, h4, hf.symm, hd⟩
   ·have e : U167.v (cvS (cellAt x i 0)) (cvI (cellAt x i 1)) (cvI (cellAt x i (1 + 1))) (cvS (cellAt x i (1 + 1 + 1))) d = true := by
     have : (!U167.v (cvS (cellAt x i 0)) (cvI (cellAt x i 1)) (cvI (cellAt x i (1 + 1))) (cvS (cellAt x i (1 + 1 + 1))) d) = false := by
      rw [Lib.cellAt_of hix, hx]; exact hk
     simpa using this
    simp only [l5, r5, Lib.dlt, Lib.dle0, Lib.toN, hix, decide_true, Bool.true_and, cond_true, e, Bool.not_true, cond_false, Lib.w64_s hin hn]
 ·left
  have : i = s0.length := by omega
  subst this
  rw [List.take_length] at h5
  have e := hK j x h3 (by omega)
  rw [h5] at e
  have hix : ¬ s0.length < x.length := by omega
  simp only [l5, r5, Lib.dlt, hix, decide_false, cond_false, e]
theorem ok (s0 : Row) (del1 : ByteArray) (hc : s0.all cn = true) (hn : s0.length <= 4294967296) : c s0 del1 = true /\ v s0 del1 = s0.filter (keep del1) := by
 refine out s0 del1 ?_
 have hv := U66b.ok s0 del1 hn
 unfold vo b
 rw [hv.1, hv.2, cond_true]
 rcases Lib.fi_rng (U66b.p s0 del1) s0.length 0 with ⟨h, hall⟩ | ⟨k, _, hk2, hk, hkp, hbef⟩
 ·rw [h]
  have : s0.filter (keep del1) = s0 := by
   rw [List.filter_eq_self]
   intro y hy
   obtain ⟨i, hi, rfl⟩ := List.getElem_of_mem hy
   have := hall i (Nat.zero_le _) (by omega)
   unfold U66b.p at this
   rw [Lib.cellAt_of hi] at this
   unfold keep; rw [this]; rfl
  rw [this]; rfl
 ·rw [hk]
  have hkl : k < s0.length := by omega
  have hne : decide ((k : Int) = Int.neg 1) = false := decide_eq_false (by show ¬ (k : Int) = -1; omega)
  rw [hne, cond_false, Lib.w64_s hkl (by omega)]
  have hca : ∀ y ∈ s0, cn y = true := List.all_eq_true.1 hc
  refine run _ s0 del1 hc (by omega) _ some (fun j x hx hj => ?_) _ k (k + 1) s0 ⟨by omega, by omega, rfl, fun y hy => len_of (hca y hy), ?_, rfl⟩ (Lib.lt_big (by omega))
  ·have b1 : inB (j : Int) (s0.length : Int) (s0.length : Int) = true := by simp [inB]; omega
   have e : List.take j x ++ zeros [Ck.s, Ck.i IntKind.i64, Ck.i IntKind.i64, Ck.s] (s0.length - j) ++ List.drop s0.length x = List.take j x ++ zeros [Ck.s, Ck.i IntKind.i64, Ck.i IntKind.i64, Ck.s] (s0.length - j) := by
    rw [List.drop_eq_nil_of_le (by omega), List.append_nil]
   have hl : (List.take j x).length = j := by simp; omega
   simp only [hx, Lib.toN, b1, cond_true, e]
   rw [Lib.bif_t (by simp [inB]; omega)]
   unfold view
   rw [show Int.toNat 0 = 0 from rfl, List.drop_zero, Nat.sub_zero, List.take_append_of_le_length (by omega), List.take_of_length_le (by omega)]
  ·rw [filter_succ del1 hkl]
   have e1 : keep del1 s0[k] = false := by
    unfold U66b.p at hkp
    rw [Lib.cellAt_of hkl] at hkp
    unfold keep; rw [hkp]; rfl
   have e2 : (s0.take k).filter (keep del1) = s0.take k := by
    rw [List.filter_eq_self]
    intro y hy
    obtain ⟨i, hi, rfl⟩ := List.getElem_of_mem hy
    have hik : i < k := by simp at hi; omega
    have := hbef i (Nat.zero_le _) hik
    unfold U66b.p at this
    rw [Lib.cellAt_of (by omega)] at this
    rw [List.getElem_take]
    unfold keep; rw [this]; rfl
   rw [e1, e2, cond_false, List.append_nil]
end Go.FG.U166

namespace Go.FG.U154
theorem ok (l : Row) (hl : l.length <= 4294967296) : c l = true /\ v l = l := by
 refine out l ?_
 unfold vo b
 rw [show List.length (zeros [Ck.s, Ck.i IntKind.i64, Ck.i IntKind.i64, Ck.s] 0) + l.length = l.length by simp [zeros], Lib.roomy_of (by omega) (by omega)]
 rfl
end Go.FG.U154

namespace Go.FG.U72
theorem ok (l : Row) (k : ByteArray) (hc : l.all U166.cn = true) (hl : l.length <= 4294967296) : c l k = true /\ v l k = l.filter (U166.keep k) := by
 have h1 := U154.ok l hl
 have h2 := U166.ok l k hc hl
 exact out l k (by unfold vo b; rw [h1.1, h1.2, h2.1, h2.2, cond_true, cond_true])
end Go.FG.U72

namespace Go.FG.U192
theorem tw_gen (p q : List CV -> Bool) : ∀ r : Row, (∀ y ∈ r, q y = !p y) -> r.Pairwise (fun y z => p z = true -> p y = true) -> r.takeWhile p = r.filter p /\ r.dropWhile p = r.filter q
 | [], _, _ => ⟨rfl, rfl⟩
 | y :: r, hq, h => by
  rw [List.pairwise_cons] at h
  have hy := hq y (by simp)
  cases hp : p y with
  | true =>
   rw [hp] at hy
   obtain ⟨i1, i2⟩ := tw_gen p q r (fun z hz => hq z (by simp [hz])) h.2
   rw [List.takeWhile_cons_of_pos hp, List.filter_cons_of_pos hp, List.dropWhile_cons_of_pos hp, List.filter_cons_of_neg (by rw [hy]; simp), i1, i2]; exact ⟨rfl, rfl⟩
  | false =>
   rw [hp] at hy
   have hn : ¬ p y = true := by rw [hp]; simp
   have ha : ∀ z ∈ r, p z = false := fun z hz => by
    cases hz2 : p z with
    | false => rfl
    | true => exact absurd (h.1 z hz hz2) hn
   rw [List.takeWhile_cons_of_neg hn, List.filter_cons_of_neg hn, List.dropWhile_cons_of_neg hn, List.filter_cons_of_pos (by rw [hy]; rfl)]
   refine ⟨?_, ?_⟩
   ·symm; rw [List.filter_eq_nil_iff]; intro z hz; rw [ha z hz]; simp
   ·congr 1; symm; rw [List.filter_eq_self]; intro z hz; rw [hq z (by simp [hz]), ha z hz]; rfl
theorem cn_all {r : Row} (h : ∀ y ∈ r, U198.cr y = y) : r.all U166.cn = true := by
 rw [List.all_eq_true]
 intro y hy
 rw [<- h y hy]; rfl
theorem ok (r : Row) (k : ByteArray) (s l : Int) (b0 : ByteArray) (hO : U198.Or r) (hl : r.length <= 1048576) : c r k s l b0 = true /\ v r k s l b0 = U198.val r k s l b0 := by
 refine out r k s l b0 ?_
 have hd := U72.ok r k (cn_all hO.2) (by omega)
 unfold vo b
 rw [hd.1, cond_true, hd.2]
 have hfl : (r.filter (U166.keep k)).length <= r.length := List.length_filter_le _ _
 have hke : ∀ y, U166.keep k y = !List.beq (U198.key y) (ByteArray.toList k) := fun _ => rfl
 have htw := tw_gen (U198.pl k) (U198.pg k) (r.filter (U166.keep k)) (fun y hy => by
  have h2 := (List.mem_filter.1 hy).2
  rw [hke] at h2
  have h3 : List.beq (U198.key y) (ByteArray.toList k) = false := by simpa using h2
  unfold U198.pg U198.pl
  rw [h3, Bool.or_false]) ((hO.1.sublist List.filter_sublist).imp (fun {y z} hyz hz => U198.bl_trans _ _ _ hyz hz))
 have e1 : (r.filter (U166.keep k)).filter (U198.pl k) = r.filter (U198.pl k) := by
  rw [List.filter_filter]
  apply List.filter_congr
  intro y _
  cases h : U198.pl k y with
  | false => rfl
  | true =>
   rw [hke, Bool.true_and]
   cases h2 : List.beq (U198.key y) (ByteArray.toList k) with
   | false => rfl
   | true =>
    exfalso
    have h3 := Lib.beq_iff.1 h2
    unfold U198.pl at h
    rw [h3, U198.bl_irrefl] at h; cases h
 have e2 : (r.filter (U166.keep k)).filter (U198.pg k) = r.filter (U198.pg k) := by
  rw [List.filter_filter]
  apply List.filter_congr
  intro y _
  rw [hke]
  unfold U198.pg
  cases List.beq (U198.key y) (ByteArray.toList k) <;> cases Go.Op.bytesLess (U198.key y) (ByteArray.toList k) <;> rfl
 generalize r.filter (U166.keep k) = o at hfl htw e1 e2
 have := Lib.stop_run (U198.pl k) o (fun m (i : Nat) => l3 Lib.big (fun (y6 : Int) (y7 : ByteArray) (y8 y9 : Int) (y10 : ByteArray) (y11 : Row) => bif (decide (0 <= y6) && decide (y6 <= (↑(List.length y11) : Int)) && roomy (List.length y11 + List.length (List.set (zeros [Ck.s, Ck.i IntKind.i64, Ck.i IntKind.i64, Ck.s] 1) 0 [CV.s y7, CV.i IntKind.i64 y8, CV.i IntKind.i64 y9, CV.s y10])) 48) then (some (Pu.insR y11 (Int.toNat y6) (List.set (zeros [Ck.s, Ck.i IntKind.i64, Ck.i IntKind.i64, Ck.s] 1) 0 [CV.s y7, CV.i IntKind.i64 y8, CV.i IntKind.i64 y9, CV.s y10]))) else (none)) m (i : Int) k s l b0 o)
  (fun a => bif decide ((a : Int) <= (o.length : Int)) then some (Pu.insR o a [U198.nw k s l b0]) else none)
  (fun m i h hp => by
   have hp' : Go.Op.bytesLess (ByteArray.toList (cvS (cellAt o i 0))) (ByteArray.toList k) = true := by rw [Lib.cellAt_of h]; exact hp
   simp only [l3, r3, Lib.dlt, h, decide_true, Lib.dle0, Bool.and_self, cond_true, Lib.toN, hp', Lib.w64_s h (by omega : o.length <= 9223372036854775807)])
  (fun m i h hp => by
   have hp' : Go.Op.bytesLess (ByteArray.toList (cvS (cellAt o i 0))) (ByteArray.toList k) = false := by rw [Lib.cellAt_of h]; exact hp
   simp only [l3, r3, Lib.dlt, h, decide_true, Lib.dle0, Bool.and_self, Bool.true_and, Bool.and_true, cond_true, cond_false, Lib.toN, hp', Lib.len_set1, List.length_singleton, Lib.roomy_of (n := o.length + 1) (b := 48) (by omega) (by omega)]
   rfl)
  (fun m => by
   simp only [l3, r3, Lib.dlt, Nat.lt_irrefl, decide_false, decide_true, Lib.dle0, Bool.and_self, Bool.true_and, Bool.and_true, cond_true, cond_false, Lib.toN, Lib.len_set1, List.length_singleton, Lib.roomy_of (n := o.length + 1) (b := 48) (by omega) (by omega)]
   rfl) Lib.big (Lib.lt_big (by omega))
 refine this.trans ?_
 have hle := Lib.tw_le (U198.pl k) o
 rw [decide_eq_true (by omega), cond_true]
 unfold Pu.insR U198.val
 rw [Lib.take_tw, Lib.drop_tw, htw.1, htw.2, e1, e2, U198.map_cr hO.2, U198.map_cr hO.2]
end Go.FG.U192

namespace Go.FG.U194
def el (r : Row) (i : Nat) : Bool := decide (1 <= ((cvS (cellAt r i 0)).size : Int) /\ ((cvS (cellAt r i 0)).size : Int) <= 8) && (!decide (((cvS (cellAt r i 1)).size : Int) > 20000) && (decide (0 <= cvI (cellAt r i 2) /\ cvI (cellAt r i 2) <= ((cvS (cellAt r i 1)).size : Int)) && (i == 0 || Go.Op.bytesLess (ByteArray.toList (cvS (cellAt r (i - 1) 0))) (ByteArray.toList (cvS (cellAt r i 0))))))
def val (r : Row) : Bool := decide (r.length <= 30) && (List.range r.length).all (el r)
theorem in_eq (n a b : Int) : U49.v n a b = decide (a <= n /\ n <= b) := by
 unfold U49.v
 by_cases h : a <= n <;> by_cases h2 : n <= b <;> simp [h, h2]
theorem w64_p {i : Nat} (h : 0 < i) (hn : i <= 9223372036854775807) : w64 ((i : Int) - 1) = ((i - 1 : Nat) : Int) := by
 rw [Lib.w64_ok (by omega) (by omega)]; omega
theorem ok (r : Row) (hl : r.length <= 4294967296) : c r = true /\ v r = val r := by
 refine out r ?_
 unfold vo b val
 by_cases h30 : (r.length : Int) > 30
 ·rw [decide_eq_true h30, cond_true, decide_eq_false (show ¬ r.length <= 30 by omega)]; rfl
 rw [decide_eq_false h30, cond_false, decide_eq_true (show r.length <= 30 by omega), Bool.true_and]
 have key := Lib.all_gen (el r) r.length (fun m (i : Nat) => l4 Lib.big (fun (y3 : Bool) (_ : Int) (_ : Row) => some y3) (fun (_ : Bool) (_ : Int) (_ : Row) => some true) m false (i : Int) r) (some false) (some true)
  (fun m i hi hp => by
   unfold el at hp
   simp only [Bool.and_eq_true] at hp
   obtain ⟨h1, h2, h3, h4⟩ := hp
   have h3 : decide (0 <= cvI (cellAt r i (1 + 1)) /\ cvI (cellAt r i (1 + 1)) <= ((cvS (cellAt r i 1)).size : Int)) = true := h3
   have h2 : decide (((cvS (cellAt r i 1)).size : Int) > 20000) = false := by simpa using h2
   by_cases hz : 0 < i
   ·have e0 : decide ((i : Int) > 0) = true := decide_eq_true (by omega)
    have hp' : i - 1 < r.length := by omega
    have h5 : Go.Op.bytesLess (ByteArray.toList (cvS (cellAt r (i - 1) 0))) (ByteArray.toList (cvS (cellAt r i 0))) = true := by
     rcases Bool.or_eq_true _ _ ▸ h4 with q | q
     ·have : i = 0 := by simpa using q
      omega
     ·exact q
    simp only [l4, r4, Lib.dlt, hi, hp', decide_true, Lib.dle0, Bool.and_self, cond_true, cond_false, Lib.toN, U236.v, in_eq, h1, h2, h3, h5, e0, w64_p hz (by omega), Bool.not_true, Lib.w64_s hi (by omega : r.length <= 9223372036854775807)]
   ·have e0 : decide ((i : Int) > 0) = false := decide_eq_false (by omega)
    simp only [l4, r4, Lib.dlt, hi, decide_true, Lib.dle0, Bool.and_self, cond_true, cond_false, Lib.toN, U236.v, in_eq, h1, h2, h3, e0, Bool.not_true, Lib.w64_s hi (by omega : r.length <= 9223372036854775807)])
  (fun m i hi hp => by
   unfold el at hp
   cases h1 : decide (1 <= ((cvS (cellAt r i 0)).size : Int) /\ ((cvS (cellAt r i 0)).size : Int) <= 8) with
   | false => simp only [l4, r4, Lib.dlt, hi, decide_true, Lib.dle0, Bool.and_self, cond_true, cond_false, Lib.toN, U236.v, in_eq, h1, Bool.not_false]
   | true =>
   cases h2 : decide (((cvS (cellAt r i 1)).size : Int) > 20000) with
   | true => simp only [l4, r4, Lib.dlt, hi, decide_true, Lib.dle0, Bool.and_self, cond_true, cond_false, Lib.toN, U236.v, in_eq, h1, h2, Bool.not_true]
   | false =>
   cases h3 : decide (0 <= cvI (cellAt r i (1 + 1)) /\ cvI (cellAt r i (1 + 1)) <= ((cvS (cellAt r i 1)).size : Int)) with
   | false => simp only [l4, r4, Lib.dlt, hi, decide_true, Lib.dle0, Bool.and_self, cond_true, cond_false, Lib.toN, U236.v, in_eq, h1, h2, h3, Bool.not_true, Bool.not_false]
   | true =>
   rw [h1, h2, show decide (0 <= cvI (cellAt r i 2) /\ cvI (cellAt r i 2) <= ((cvS (cellAt r i 1)).size : Int)) = true from h3, Bool.not_false, Bool.true_and, Bool.true_and, Bool.true_and] at hp
   rw [Bool.or_eq_false_iff] at hp
   obtain ⟨h4, h5⟩ := hp
   have hz : 0 < i := by
    have : ¬ i = 0 := by simpa using h4
    omega
   have e0 : decide ((i : Int) > 0) = true := decide_eq_true (by omega)
   have hp' : i - 1 < r.length := by omega
   simp only [l4, r4, Lib.dlt, hi, hp', decide_true, Lib.dle0, Bool.and_self, cond_true, cond_false, Lib.toN, U236.v, in_eq, h1, h2, h3, h5, e0, w64_p hz (by omega), Bool.not_true, Bool.not_false])
  (fun m => by simp only [l4, r4, Lib.dlt, Nat.lt_irrefl, decide_false, cond_false]) Lib.big (Lib.lt_big (by omega))
 refine key.trans ?_
 cases (List.range r.length).all (el r) <;> rfl
end Go.FG.U194

namespace Go.FG.U201
theorem ok (r : Row) (hl : r.length <= 4294967296) : c r = true /\ v r = U194.val r := by
 refine out r ?_
 unfold vo b U194.val
 have hin : ∀ a b c, U63.v a b c = U49.v a b c := fun _ _ _ => rfl
 have key := Lib.all_gen (U194.el r) r.length (fun m (i : Nat) => l2 Lib.big (fun (y5 : Bool) (_ : Row) (_ _ : Int) (_ : Row) => some y5) (fun (_ : Bool) (_ : Row) (_ _ : Int) (y14 : Row) => some (decide ((y14.length : Int) <= 30))) m false r (r.length : Int) (i : Int) r) (some false) (some (decide ((r.length : Int) <= 30)))
  (fun m i hi hp => by
   unfold U194.el at hp
   simp only [Bool.and_eq_true] at hp
   obtain ⟨h1, h2, h3, h4⟩ := hp
   have h3 : decide (0 <= cvI (cellAt r i (1 + 1)) /\ cvI (cellAt r i (1 + 1)) <= ((cvS (cellAt r i 1)).size : Int)) = true := h3
   have h2 : decide (((cvS (cellAt r i 1)).size : Int) > 20000) = false := by simpa using h2
   by_cases hz : 0 < i
   ·have e0 : decide ((i : Int) > 0) = true := decide_eq_true (by omega)
    have hp' : i - 1 < r.length := by omega
    have h5 : Go.Op.bytesLess (ByteArray.toList (cvS (cellAt r (i - 1) 0))) (ByteArray.toList (cvS (cellAt r i 0))) = true := by
     rcases Bool.or_eq_true _ _ ▸ h4 with q | q
     ·have : i = 0 := by simpa using q
      omega
     ·exact q
    simp only [l2, r2, Lib.dlt, hi, hp', decide_true, Lib.dle0, Bool.and_self, cond_true, cond_false, Lib.toN, hin, U194.in_eq, h1, h2, h3, h5, e0, U194.w64_p hz (by omega), Bool.not_true, Lib.w64_s hi (by omega : r.length <= 9223372036854775807)]
   ·have e0 : decide ((i : Int) > 0) = false := decide_eq_false (by omega)
    simp only [l2, r2, Lib.dlt, hi, decide_true, Lib.dle0, Bool.and_self, cond_true, cond_false, Lib.toN, hin, U194.in_eq, h1, h2, h3, e0, Bool.not_true, Lib.w64_s hi (by omega : r.length <= 9223372036854775807)])
  (fun m i hi hp => by
   unfold U194.el at hp
   cases h1 : decide (1 <= ((cvS (cellAt r i 0)).size : Int) /\ ((cvS (cellAt r i 0)).size : Int) <= 8) with
   | false => simp only [l2, r2, Lib.dlt, hi, decide_true, Lib.dle0, Bool.and_self, cond_true, cond_false, Lib.toN, hin, U194.in_eq, h1, Bool.not_false]
   | true =>
   cases h2 : decide (((cvS (cellAt r i 1)).size : Int) > 20000) with
   | true => simp only [l2, r2, Lib.dlt, hi, decide_true, Lib.dle0, Bool.and_self, cond_true, cond_false, Lib.toN, hin, U194.in_eq, h1, h2, Bool.not_true]
   | false =>
   cases h3 : decide (0 <= cvI (cellAt r i (1 + 1)) /\ cvI (cellAt r i (1 + 1)) <= ((cvS (cellAt r i 1)).size : Int)) with
   | false => simp only [l2, r2, Lib.dlt, hi, decide_true, Lib.dle0, Bool.and_self, cond_true, cond_false, Lib.toN, hin, U194.in_eq, h1, h2, h3, Bool.not_true, Bool.not_false]
   | true =>
   rw [h1, h2, show decide (0 <= cvI (cellAt r i 2) /\ cvI (cellAt r i 2) <= ((cvS (cellAt r i 1)).size : Int)) = true from h3, Bool.not_false, Bool.true_and, Bool.true_and, Bool.true_and] at hp
   rw [Bool.or_eq_false_iff] at hp
   obtain ⟨h4, h5⟩ := hp
   have hz : 0 < i := by
    have : ¬ i = 0 := by simpa using h4
    omega
   have e0 : decide ((i : Int) > 0) = true := decide_eq_true (by omega)
   have hp' : i - 1 < r.length := by omega
   simp only [l2, r2, Lib.dlt, hi, hp', decide_true, Lib.dle0, Bool.and_self, cond_true, cond_false, Lib.toN, hin, U194.in_eq, h1, h2, h3, h5, e0, U194.w64_p hz (by omega), Bool.not_true, Bool.not_false])
  (fun m => by simp only [l2, r2, Lib.dlt, Nat.lt_irrefl, decide_false, cond_false]) Lib.big (Lib.lt_big (by omega))
 refine key.trans ?_
 rw [show decide ((r.length : Int) <= 30) = decide (r.length <= 30) from by rw [decide_eq_decide]; omega]
 cases (List.range r.length).all (U194.el r) <;> cases decide (r.length <= 30) <;> rfl
end Go.FG.U201

namespace Go.FG.U237
def p (d : Row) (n : ByteArray) (i : Nat) : Bool := List.beq (ByteArray.toList (cvS (cellAt d i 0))) (ByteArray.toList n)
theorem ok (d : Row) (n : ByteArray) (hl : d.length <= 4294967296) : c d n = true /\ v d n = Lib.fi (p d n) d.length 0 := by
 refine out d n ?_
 unfold vo b
 refine Lib.fi_gen (p d n) d.length (fun m (i : Nat) => l2 Lib.big (fun (_ : ByteArray) (y5 _ : Int) (_ : Row) => some y5) (fun (_ : ByteArray) (_ _ : Int) (_ : Row) => some (-1)) m n 0 (i : Int) d) some (fun m i hi hp => ?_) (fun m i hi hp => ?_) (fun m => ?_) Lib.big (Lib.lt_big (by omega))
 ·unfold p at hp
  simp only [l2, r2, Lib.dlt, Lib.dle0, Lib.toN, hi, decide_true, Bool.and_self, cond_true, hp]
 ·unfold p at hp
  simp only [l2, r2, Lib.dlt, Lib.dle0, Lib.toN, hi, decide_true, Bool.and_self, cond_true, hp, cond_false, Lib.w64_s hi (by omega : d.length <= 9223372036854775807)]
 ·simp only [l2, r2, Lib.dlt, Nat.lt_irrefl, decide_false, cond_false]
end Go.FG.U237

namespace Go.FG.U195
def val (d : Row) (n : ByteArray) : ByteArray × Bool := if Lib.fi (U237.p d n) d.length 0 < 0 then (⟨#[]⟩, false) else (cvS (cellAt d (Lib.fi (U237.p d n) d.length 0).toNat 1), true)
theorem rng (d : Row) (n : ByteArray) (h : ¬ Lib.fi (U237.p d n) d.length 0 < 0) : 0 <= Lib.fi (U237.p d n) d.length 0 /\ Lib.fi (U237.p d n) d.length 0 < (d.length : Int) := by
 rcases Lib.fi_rng (U237.p d n) d.length 0 with ⟨h1, _⟩ | ⟨k, h1, h2, h3, _, _⟩
 ·rw [h1] at h; omega
 ·rw [h3]; omega
theorem ok (d : Row) (n : ByteArray) (hl : d.length <= 4294967296) : c d n = true /\ v d n = val d n := by
 refine out d n ?_
 have h := U237.ok d n hl
 unfold vo b val
 rw [h.1, h.2, cond_true]
 by_cases hn : Lib.fi (U237.p d n) d.length 0 < 0
 ·rw [decide_eq_true hn, if_pos hn]; rfl
 ·have hr := rng d n hn
  rw [decide_eq_false hn, if_neg hn, cond_false, decide_eq_true hr.1, decide_eq_true hr.2]; rfl
end Go.FG.U195

namespace Go.FG.U266a
theorem ok (d : Row) (n : ByteArray) (hl : d.length <= 4294967296) : c d n = true /\ v d n = Lib.fi (U237.p d n) d.length 0 := by
 refine out d n ?_
 unfold vo b
 refine Lib.fi_gen (U237.p d n) d.length (fun m (i : Nat) => l2 Lib.big (fun (_ : Row) (_ : ByteArray) (y7 _ _ : Int) => some y7) (fun (_ : Row) (_ : ByteArray) (_ _ _ : Int) => some (-1)) m d n 0 (d.length : Int) (i : Int)) some (fun m i hi hp => ?_) (fun m i hi hp => ?_) (fun m => ?_) Lib.big (Lib.lt_big (by omega))
 ·unfold U237.p at hp
  simp only [l2, r2, Lib.dlt, Lib.dle0, Lib.toN, hi, decide_true, Bool.and_self, cond_true, U267.v, hp]
 ·unfold U237.p at hp
  simp only [l2, r2, Lib.dlt, Lib.dle0, Lib.toN, hi, decide_true, Bool.and_self, cond_true, U267.v, hp, cond_false, Lib.w64_s hi (by omega : d.length <= 9223372036854775807)]
 ·simp only [l2, r2, Lib.dlt, Nat.lt_irrefl, decide_false, cond_false]
end Go.FG.U266a

namespace Go.FG.U244
theorem ok (d : Row) (n : ByteArray) (hl : d.length <= 4294967296) : c d n = true /\ v d n = Lib.fi (U237.p d n) d.length 0 := by
 have h := U266a.ok d n hl
 exact out d n (by unfold vo b; rw [h.1, h.2, cond_true])
end Go.FG.U244

namespace Go.FG.U202
theorem ok (d : Row) (n : ByteArray) (hl : d.length <= 4294967296) : c d n = true /\ v d n = U195.val d n := by
 refine out d n ?_
 have h := U244.ok d n hl
 unfold vo b U195.val
 rw [h.1, h.2, cond_true]
 by_cases hn : Lib.fi (U237.p d n) d.length 0 < 0
 ·rw [decide_eq_true hn, if_pos hn]; rfl
 ·have hr := U195.rng d n hn
  rw [decide_eq_false hn, if_neg hn, cond_false, decide_eq_true hr.1, decide_eq_true hr.2]; rfl
end Go.FG.U202

namespace Go.FG.U265
theorem size (x : Int) : (v x).size = 4 := by
 unfold v; rw [Lib.size_bytesOf]; simp only [List.length_set, Lib.length_zeros]
end Go.FG.U265

namespace Go.FG.U250
def rd (x : Int) : Int := bif decide (Int.tmod x 2 = 1) then (IntKind.wrap IntKind.u32 (↑(BitVec.toNat (BitVec.xor (BitVec.ofInt 32 (IntKind.wrap IntKind.u32 (Int.tdiv x 2))) (BitVec.ofInt 32 3558460437))) : Int)) else (IntKind.wrap IntKind.u32 (Int.tdiv x 2))
def rds : Nat -> Int -> Int | 0, x => x | n + 1, x => rds n (rd x)
theorem in6 {R : Type} (N : Nat) (K : Int -> ByteArray -> Int -> Int -> Option R) (a : ByteArray) (b : Int) : ∀ (d n i : Nat) (x : Int), d + i = 8 -> d < n -> l6 N K n x a b (i : Int) = K (rds d x) a b 8 := by
 intro d
 induction d with
 | zero =>
  intro n i x h1 h2
  obtain ⟨n, rfl⟩ : ∃ m, n = m + 1 := ⟨n - 1, by omega⟩
  have : i = 8 := by omega
  subst this
  rfl
 | succ d ih =>
  intro n i x h1 h2
  obtain ⟨n, rfl⟩ : ∃ m, n = m + 1 := ⟨n - 1, by omega⟩
  have hi1 : w64 ((i : Int) + 1) = ((i + 1 : Nat) : Int) := Lib.w64_ok (by omega) (by omega)
  rw [rds, <- ih n (i + 1) (rd x) (by omega) (by omega)]
  simp only [l6, r6, decide_eq_true (show (i : Int) < 8 by omega), cond_true, hi1, rd]
  cases decide (Int.tmod x 2 = 1) <;> rfl
def su (t : ByteArray) : Nat -> Nat -> Int -> Int
 | 0, _, s => s
 | d + 1, i, s => su t d (i + 1) (rds 8 (IntKind.wrap IntKind.u32 (↑(BitVec.toNat (BitVec.xor (BitVec.ofInt 32 s) (BitVec.ofInt 32 (IntKind.wrap IntKind.u32 (↑(btN t i) : Int))))) : Int)))
theorem run (s : Int) (t : ByteArray) (ht : t.size <= 4611686018427387904) : vo s t = some (su t t.size 0 s) := by
 unfold vo b
 have key : ∀ (d n i : Nat) (s : Int), d + i = t.size -> d < n -> l2 Lib.big (fun (y11 : Int) (_ : ByteArray) (_ : Int) => some y11) n s t (i : Int) = some (su t d i s) := by
  intro d
  induction d with
  | zero =>
   intro n i s h1 h2
   obtain ⟨n, rfl⟩ : ∃ m, n = m + 1 := ⟨n - 1, by omega⟩
   simp only [l2, r2, Lib.dlt, decide_eq_false (show ¬ i < t.size by omega), cond_false]; rfl
  | succ d ih =>
   intro n i s h1 h2
   obtain ⟨n, rfl⟩ : ∃ m, n = m + 1 := ⟨n - 1, by omega⟩
   have hi1 : w64 ((i : Int) + 1) = ((i + 1 : Nat) : Int) := Lib.w64_ok (by omega) (by omega)
   simp only [l2, r2, Lib.dlt, decide_eq_true (show i < t.size by omega), Lib.dle0, Bool.and_self, cond_true, Lib.toN]
   have e := in6 (R := Int) Lib.big (fun y7 y8 y9 _ => l2 Lib.big (fun y11 _ _ => some y11) n y7 y8 (w64 (y9 + 1))) t (i : Int) 8 Lib.big 0 (IntKind.wrap IntKind.u32 (↑(BitVec.toNat (BitVec.xor (BitVec.ofInt 32 s) (BitVec.ofInt 32 (IntKind.wrap IntKind.u32 (↑(btN t i) : Int))))) : Int)) rfl (by unfold Lib.big; omega)
   refine e.trans ?_
   rw [hi1, ih n (i + 1) _ (by omega) (by omega)]; rfl
 exact key t.size Lib.big 0 s (by omega) (Lib.lt_big (by omega))
theorem ok (s : Int) (t : ByteArray) (ht : t.size <= 4611686018427387904) : c s t = true /\ v s t = su t t.size 0 s := out s t (run s t ht)
end Go.FG.U250

namespace Go.FG.U215
theorem ok (t : ByteArray) (ht : t.size <= 4611686018427387904) : c t = true /\ v t = U250.su t t.size 0 4294967295 := by
 have h := U250.ok 4294967295 t ht
 refine out t ?_
 unfold vo b
 rw [h.1, h.2]; rfl
end Go.FG.U215

namespace Go.FG.U239
def fr (t : ByteArray) : ByteArray := bytesOf (Lib.vb t.size) ++ U265.v (U250.su t t.size 0 4294967295) ++ t
def val (t : ByteArray) : ByteArray × Bool := if 1 <= t.size /\ t.size <= 9000 then (fr t, true) else (⟨#[]⟩, false)
theorem in_dec (n a b : Int) : U49.v n a b = decide (a <= n /\ n <= b) := by
 unfold U49.v
 by_cases h : a <= n <;> by_cases h2 : n <= b <;> simp [h, h2]
theorem ok (t : ByteArray) : c t = true /\ v t = val t := by
 refine out t ?_
 unfold vo b val
 rw [in_dec]
 by_cases h : 1 <= t.size /\ t.size <= 9000
 ·have hs := U215.ok t (by omega)
  have hc : U264.c (t.size : Int) = true := decide_eq_true (show (t.size : Int) <= 9223372036854775807 by omega)
  have z1 : (U264.v (t.size : Int)).size <= 64 := Lib.var_size (x := (t.size : Int)) (by omega)
  rw [decide_eq_true (show (1 : Int) <= (t.size : Int) /\ (t.size : Int) <= 9000 by omega), if_pos h, hs.1, hs.2]
  simp (disch := omega) only [Bool.not_true, cond_false, cond_true, hc, Lib.size_app, U265.size, Lib.dnat]
  rfl
 ·rw [decide_eq_false (show ¬ ((1 : Int) <= (t.size : Int) /\ (t.size : Int) <= 9000) by omega), if_neg h]; rfl
end Go.FG.U239

namespace Go.FG.U253
theorem in6 {R : Type} (N : Nat) (K : Int -> ByteArray -> Int -> Int -> Option R) (a : ByteArray) (b : Int) : ∀ (d n i : Nat) (x : Int), d + i = 8 -> d < n -> l6 N K n x a b (i : Int) = K (U250.rds d x) a b 8 := by
 intro d
 induction d with
 | zero =>
  intro n i x h1 h2
  obtain ⟨n, rfl⟩ : ∃ m, n = m + 1 := ⟨n - 1, by omega⟩
  have : i = 8 := by omega
  subst this
  rfl
 | succ d ih =>
  intro n i x h1 h2
  obtain ⟨n, rfl⟩ : ∃ m, n = m + 1 := ⟨n - 1, by omega⟩
  have hi1 : w64 ((i : Int) + 1) = ((i + 1 : Nat) : Int) := Lib.w64_ok (by omega) (by omega)
  rw [U250.rds, <- ih n (i + 1) (U250.rd x) (by omega) (by omega)]
  simp only [l6, r6, decide_eq_true (show (i : Int) < 8 by omega), cond_true, hi1, U250.rd]
  cases decide (Int.tmod x 2 = 1) <;> rfl
theorem run (s : Int) (t : ByteArray) (ht : t.size <= 4611686018427387904) : vo s t = some (U250.su t t.size 0 s) := by
 unfold vo b
 have key : ∀ (d n i : Nat) (s : Int), d + i = t.size -> d < n -> l2 Lib.big (fun (y11 : Int) (_ : ByteArray) (_ : Int) => some y11) n s t (i : Int) = some (U250.su t d i s) := by
  intro d
  induction d with
  | zero =>
   intro n i s h1 h2
   obtain ⟨n, rfl⟩ : ∃ m, n = m + 1 := ⟨n - 1, by omega⟩
   simp only [l2, r2, Lib.dlt, decide_eq_false (show ¬ i < t.size by omega), cond_false]; rfl
  | succ d ih =>
   intro n i s h1 h2
   obtain ⟨n, rfl⟩ : ∃ m, n = m + 1 := ⟨n - 1, by omega⟩
   have hi1 : w64 ((i : Int) + 1) = ((i + 1 : Nat) : Int) := Lib.w64_ok (by omega) (by omega)
   simp only [l2, r2, Lib.dlt, decide_eq_true (show i < t.size by omega), Lib.dle0, Bool.and_self, cond_true, Lib.toN]
   have e := in6 (R := Int) Lib.big (fun y7 y8 y9 _ => l2 Lib.big (fun y11 _ _ => some y11) n y7 y8 (w64 (y9 + 1))) t (i : Int) 8 Lib.big 0 (IntKind.wrap IntKind.u32 (↑(BitVec.toNat (BitVec.xor (BitVec.ofInt 32 s) (BitVec.ofInt 32 (IntKind.wrap IntKind.u32 (↑(btN t i) : Int))))) : Int)) rfl (by unfold Lib.big; omega)
   refine e.trans ?_
   rw [hi1, ih n (i + 1) _ (by omega) (by omega)]; rfl
 exact key t.size Lib.big 0 s (by omega) (Lib.lt_big (by omega))
theorem ok (s : Int) (t : ByteArray) (ht : t.size <= 4611686018427387904) : c s t = true /\ v s t = U250.su t t.size 0 s := out s t (run s t ht)
end Go.FG.U253

namespace Go.FG.U224
theorem ok (t : ByteArray) (ht : t.size <= 4611686018427387904) : c t = true /\ v t = U250.su t t.size 0 4294967295 := by
 have h := U253.ok 4294967295 t ht
 refine out t ?_
 unfold vo b
 rw [h.1, h.2]; rfl
end Go.FG.U224

namespace Go.FG.U246
theorem ok (t : ByteArray) (ht : t.size <= 4611686018427387904) : c t = true /\ v t = U265.v (U250.su t t.size 0 4294967295) := by
 have h := U224.ok t ht
 refine out t ?_
 unfold vo b
 rw [h.1, h.2]; rfl
end Go.FG.U246

namespace Go.FG.U196
theorem cut (a s s' b : ByteArray) : List.beq (ByteArray.toList (a ++ s ++ b)) (ByteArray.toList (a ++ s' ++ b)) = List.beq (ByteArray.toList s) (ByteArray.toList s') := by
 rw [Lib.beq_ba, Lib.beq_ba, decide_eq_decide]
 constructor
 ·intro h
  have h2 := congrArg (fun x : ByteArray => x.data.toList) h
  simp only [ByteArray.data_append, Array.toList_append, List.append_assoc] at h2
  have h3 := List.append_cancel_right (List.append_cancel_left h2)
  exact Lib.ba_ext h3
 ·intro h; rw [h]
theorem within_eq (n a b : Int) : U63.v n a b = decide (a <= n /\ n <= b) := U239.in_dec n a b
theorem both (t : ByteArray) (ht : t.size <= 20000) : ∀ (d : Nat) (at1 : Nat) (acc : Row) (n m : Nat) (z : Int), t.size - at1 <= d -> at1 <= t.size -> acc.length <= at1 -> d < n -> d < m ->
  ∃ R : Row × Int, U203.l3 Lib.big (fun (_ : ByteArray) (y4 : Int) (y5 : Row) => some (y5, y4)) n t (at1 : Int) acc = some R /\ l5 Lib.big (fun (_ : ByteArray) (y5 _ : Int) (y7 : Row) => some (y7, y5)) (fun (_ : ByteArray) (_ y10 : Int) (y11 : Row) => some (y11, y10)) m t z (at1 : Int) acc = some R /\ R.1.length <= 20000 := by
 intro d
 induction d with
 | zero =>
  intro at1 acc n m z h1 h2 h3 h4 h5
  obtain ⟨n, rfl⟩ : ∃ n', n = n' + 1 := ⟨n - 1, by omega⟩
  obtain ⟨m, rfl⟩ : ∃ m', m = m' + 1 := ⟨m - 1, by omega⟩
  have hlt : decide ((at1 : Int) < (t.size : Int)) = false := decide_eq_false (by omega)
  have hr : (Lib.readVar t (at1 : Int)).2.2 = false := by
   cases h : Lib.readVar t (at1 : Int) with
   | mk a r =>
    obtain ⟨x, o⟩ := r
    cases o with
    | false => rfl
    | true => have := Lib.readVar_ok h; omega
  have e1 : ∀ a b, U245.v a b = Lib.readVar a b := fun _ _ => rfl
  refine ⟨(acc, (at1 : Int)), ?_, ?_, by dsimp only; omega⟩
  ·simp only [U203.l3, U203.r3, e1, hr, decide_eq_true (show (t.size : Int) <= 20000 by omega), cond_true, Bool.not_false]
  ·simp only [l5, r5, hlt, cond_false]
 | succ d ih =>
  intro at1 acc n m z h1 h2 h3 h4 h5
  obtain ⟨n, rfl⟩ : ∃ n', n = n' + 1 := ⟨n - 1, by omega⟩
  obtain ⟨m, rfl⟩ : ∃ m', m = m' + 1 := ⟨m - 1, by omega⟩
  have e1 : ∀ a b, U245.v a b = Lib.readVar a b := fun _ _ => rfl
  have e2 : ∀ a b, U238.v a b = Lib.readVar a b := fun _ _ => rfl
  have hsz : decide ((t.size : Int) <= 20000) = true := decide_eq_true (by omega)
  cases hr : Lib.readVar t (at1 : Int) with
  | mk N r =>
   obtain ⟨nx, o⟩ := r
   cases o with
   | false =>
    refine ⟨(acc, (at1 : Int)), ?_, ?_, by dsimp only; omega⟩
    ·simp only [U203.l3, U203.r3, e1, hr, hsz, cond_true, Bool.not_false]
    ·by_cases hlt : (at1 : Int) < (t.size : Int)
     ·simp only [l5, r5, e2, hr, decide_eq_true hlt, cond_true, Bool.not_false]
     ·simp only [l5, r5, decide_eq_false hlt, cond_false]
   | true =>
    obtain ⟨q1, q2, q3, q4, q5, q6⟩ := Lib.readVar_ok hr
    have hlt : decide ((at1 : Int) < (t.size : Int)) = true := decide_eq_true (by omega)
    have w1 : w64 (N + 4) = N + 4 := Lib.w64_ok (by omega) (by omega)
    have w2 : w64 ((t.size : Int) - nx) = (t.size : Int) - nx := Lib.w64_ok (by omega) (by omega)
    have w3 : w64 ((t.size : Int) - nx - 4) = (t.size : Int) - nx - 4 := Lib.w64_ok (by omega) (by omega)
    have w4 : w64 (nx + 4) = nx + 4 := Lib.w64_ok (by omega) (by omega)
    have w5 : w64 (nx + 4 + N) = nx + 4 + N := Lib.w64_ok (by omega) (by omega)
    by_cases hbig : N + 4 > (t.size : Int) - nx
    ·have hb2 : N > (t.size : Int) - nx - 4 := by omega
     refine ⟨(acc, (at1 : Int)), ?_, ?_, by dsimp only; omega⟩
     ·cases hwi : decide (1 <= N /\ N <= 9000) with
      | false => simp only [U203.l3, U203.r3, e1, hr, hsz, within_eq, hwi, cond_true, cond_false, Bool.not_true, Bool.not_false]
      | true => simp only [U203.l3, U203.r3, e1, hr, hsz, within_eq, hwi, w1, w2, decide_eq_true hbig, cond_true, cond_false, Bool.not_true]
     ·simp only [l5, r5, e2, hr, hlt, w2, w3, decide_eq_true hb2, cond_true, cond_false, Bool.not_true]
    ·have hb2 : ¬ N > (t.size : Int) - nx - 4 := by omega
     have i1 : inB (nx + 4) (nx + 4 + N) (t.size : Int) = true := by simp [inB]; omega
     have i2 : inB nx (nx + 4) (t.size : Int) = true := by simp [inB]; omega
     have i3 : inB (at1 : Int) (nx + 4 + N) (t.size : Int) = true := by simp [inB]; omega
     have hts : (t.extract (nx + 4).toNat (nx + 4 + N).toNat).size = N.toNat := by rw [ByteArray.size_extract]; omega
     generalize htx : t.extract (nx + 4).toNat (nx + 4 + N).toNat = tx at hts
     have f1 := U239.ok tx
     have f2 := U246.ok tx (by omega)
     by_cases hwi : 1 <= N /\ N <= 9000
     ·have hfv : U239.val tx = (U239.fr tx, true) := by
       unfold U239.val; rw [if_pos (by omega)]
      have hnat : ((tx.size : Nat) : Int) = N := by omega
      have hfr : U239.fr tx = t.extract at1 nx.toNat ++ U265.v (U250.su tx tx.size 0 4294967295) ++ tx := by
       unfold U239.fr
       rw [hnat, q6]; rfl
      have hwh : t.extract at1 (nx + 4 + N).toNat = t.extract at1 nx.toNat ++ t.extract nx.toNat (nx + 4).toNat ++ tx := by
       rw [<- htx, Lib.ext_app t (by omega) (by omega), Lib.ext_app t (by omega) (by omega)]
      have hcmp : List.beq (ByteArray.toList (U239.fr tx)) (ByteArray.toList (t.extract at1 (nx + 4 + N).toNat)) = List.beq (ByteArray.toList (U265.v (U250.su tx tx.size 0 4294967295))) (ByteArray.toList (t.extract nx.toNat (nx + 4).toNat)) := by
       rw [hfr, hwh]; exact cut _ _ _ _
      have hro : roomy (acc.length + 1) 16 = true := Lib.roomy_of (by omega) (by omega)
      cases hs : List.beq (ByteArray.toList (U265.v (U250.su tx tx.size 0 4294967295))) (ByteArray.toList (t.extract nx.toNat (nx + 4).toNat)) with
      | false =>
       rw [hs] at hcmp
       refine ⟨(acc, (at1 : Int)), ?_, ?_, by dsimp only; omega⟩
       ·simp only [U203.l3, U203.r3, e1, hr, hsz, within_eq, decide_eq_true hwi, w1, w2, w4, w5, decide_eq_false hbig, i1, i2, htx, f2.1, f2.2, hs, cond_true, cond_false, Bool.not_true, Bool.not_false]
       ·simp only [l5, r5, e2, hr, hlt, w2, w3, w4, w5, decide_eq_false hb2, i1, i3, htx, f1.1, f1.2, hfv, Int.toNat_natCast, hcmp, cond_true, cond_false, Bool.not_true, Bool.not_false]
      | true =>
       rw [hs] at hcmp
       obtain ⟨a2, ha2⟩ : ∃ a2 : Nat, nx + 4 + N = (a2 : Int) := ⟨(nx + 4 + N).toNat, by omega⟩
       obtain ⟨R, g1, g2, g3⟩ := ih a2 (acc ++ [[CV.s tx]]) n m z (by omega) (by omega) (by rw [List.length_append, List.length_singleton]; omega) (by omega) (by omega)
       refine ⟨R, ?_, ?_, g3⟩
       ·simp only [U203.l3, U203.r3, e1, hr, hsz, within_eq, decide_eq_true hwi, w1, w2, w4, w5, decide_eq_false hbig, i1, i2, htx, f2.1, f2.2, hs, Lib.len_set1, List.length_singleton, hro, cond_true, cond_false, Bool.not_true]
        rw [ha2]; exact g1
       ·simp only [l5, r5, e2, hr, hlt, w2, w3, w4, w5, decide_eq_false hb2, i1, i3, htx, f1.1, f1.2, hfv, Int.toNat_natCast, hcmp, Lib.len_set1, List.length_singleton, hro, cond_true, cond_false, Bool.not_true]
        rw [ha2]; exact g2
     ·have hfv : U239.val tx = (⟨#[]⟩, false) := by
       unfold U239.val; rw [if_neg (by omega)]
      refine ⟨(acc, (at1 : Int)), ?_, ?_, by dsimp only; omega⟩
      ·simp only [U203.l3, U203.r3, e1, hr, hsz, within_eq, decide_eq_false hwi, cond_true, cond_false, Bool.not_true, Bool.not_false]
      ·simp only [l5, r5, e2, hr, hlt, w2, w3, w4, w5, decide_eq_false hb2, i1, htx, f1.1, f1.2, hfv, cond_true, cond_false, Bool.not_true, Bool.not_false]
theorem same (t : ByteArray) : ∃ R : Row × Int, (c t = true /\ v t = R) /\ (U203.c t = true /\ U203.v t = R) /\ R.1.length <= 20000 := by
 by_cases ht : t.size <= 20000
 ·obtain ⟨R, g1, g2, g3⟩ := both t ht t.size 0 [] Lib.big Lib.big 0 (by omega) (Nat.zero_le _) (Nat.le_refl _) (Lib.lt_big (by omega)) (Lib.lt_big (by omega))
  refine ⟨R, out t ?_, U203.out t ?_, g3⟩
  ·unfold vo b
   rw [decide_eq_false (show ¬ (t.size : Int) > 20000 by omega), cond_false]; exact g2
  ·unfold U203.vo U203.b; exact g1
 ·refine ⟨([], 0), out t ?_, U203.out t ?_, Nat.zero_le _⟩
  ·unfold vo b
   rw [decide_eq_true (show (t.size : Int) > 20000 by omega)]; rfl
  ·unfold U203.vo U203.b
   have hb : Lib.big = 18446744073709551615 + 1 := rfl
   have : ∀ n, U203.l3 Lib.big (fun (_ : ByteArray) (y4 : Int) (y5 : Row) => some (y5, y4)) (n + 1) t 0 (zeros [Ck.s] 0) = some ([], 0) := by
    intro n
    simp only [U203.l3, U203.r3, decide_eq_false (show ¬ (t.size : Int) <= 20000 by omega), cond_false]; rfl
   exact this 18446744073709551615
end Go.FG.U196

namespace Go.FG.U111
def nm : ByteArray := { data := #[UInt8.ofNat 107, UInt8.ofNat 101, UInt8.ofNat 112, UInt8.ofNat 116] }
theorem both (rec : Row) (hr : rec.length <= 20000) : ∀ (d i : Nat) (o : Row) (n m : Nat), rec.length - i <= d -> i <= rec.length -> U198.Or o -> o.length <= i -> d < n -> d < m ->
  ∃ L : Row, U118.l7 Lib.big (fun (_ _ : Int) (y6 : Row) (_ : Row) => some y6) n (rec.length : Int) (i : Int) o rec = some L /\ l7 Lib.big (fun (_ : Int) (y4 _ : Row) => some y4) m (i : Int) o rec = some L /\ U198.Or L /\ L.length <= 20000 := by
 have e1 : ∀ t, U204.v t = U197.v t := fun _ => rfl
 intro d
 induction d with
 | zero =>
  intro i o n m h1 h2 hO h3 h4 h5
  obtain ⟨n, rfl⟩ : ∃ n', n = n' + 1 := ⟨n - 1, by omega⟩
  obtain ⟨m, rfl⟩ : ∃ m', m = m' + 1 := ⟨m - 1, by omega⟩
  have hlt : decide ((i : Int) < (rec.length : Int)) = false := decide_eq_false (by omega)
  exact ⟨o, by simp only [U118.l7, U118.r7, hlt, cond_false], by simp only [l7, r7, hlt, cond_false], hO, by omega⟩
 | succ d ih =>
  intro i o n m h1 h2 hO h3 h4 h5
  obtain ⟨n, rfl⟩ : ∃ n', n = n' + 1 := ⟨n - 1, by omega⟩
  obtain ⟨m, rfl⟩ : ∃ m', m = m' + 1 := ⟨m - 1, by omega⟩
  by_cases hi : i < rec.length
  ·have hw : w64 ((i : Int) + 1) = ((i + 1 : Nat) : Int) := Lib.w64_ok (by omega) (by omega)
   cases hok : (U197.v (cvS (cellAt rec i 0))).2.2.2.2 with
   | false =>
    obtain ⟨L, g1, g2, g3, g4⟩ := ih (i + 1) o n m (by omega) hi hO (by omega) (by omega) (by omega)
    refine ⟨L, ?_, ?_, g3, g4⟩
    ·simp only [U118.l7, U118.r7, Lib.dlt, hi, decide_true, Lib.dle0, Bool.and_self, cond_true, Lib.toN, e1, hok, cond_false, hw]; exact g1
    ·simp only [l7, r7, Lib.dlt, hi, decide_true, Lib.dle0, Bool.and_self, cond_true, Lib.toN, hok, cond_false, hw]; exact g2
   | true =>
    have p1 := U198.ok o (U197.v (cvS (cellAt rec i 0))).1 (U197.v (cvS (cellAt rec i 0))).2.1 (U197.v (cvS (cellAt rec i 0))).2.2.1 (U197.v (cvS (cellAt rec i 0))).2.2.2.1 (by omega)
    have p2 := U192.ok o (U197.v (cvS (cellAt rec i 0))).1 (U197.v (cvS (cellAt rec i 0))).2.1 (U197.v (cvS (cellAt rec i 0))).2.2.1 (U197.v (cvS (cellAt rec i 0))).2.2.2.1 hO (by omega)
    have p3 := U198.keep_or hO (U197.v (cvS (cellAt rec i 0))).1 (U197.v (cvS (cellAt rec i 0))).2.1 (U197.v (cvS (cellAt rec i 0))).2.2.1 (U197.v (cvS (cellAt rec i 0))).2.2.2.1
    obtain ⟨L, g1, g2, g3, g4⟩ := ih (i + 1) _ n m (by omega) hi p3.1 (by omega) (by omega) (by omega)
    refine ⟨L, ?_, ?_, g3, g4⟩
    ·simp only [U118.l7, U118.r7, Lib.dlt, hi, decide_true, Lib.dle0, Bool.and_self, cond_true, Lib.toN, e1, hok, p2.1, p2.2, hw]; exact g1
    ·simp only [l7, r7, Lib.dlt, hi, decide_true, Lib.dle0, Bool.and_self, cond_true, Lib.toN, hok, p1.1, p1.2, hw]; exact g2
  ·have hlt : decide ((i : Int) < (rec.length : Int)) = false := decide_eq_false (by omega)
   exact ⟨o, by simp only [U118.l7, U118.r7, hlt, cond_false], by simp only [l7, r7, hlt, cond_false], hO, by omega⟩
theorem same (d : Row) (hd : d.length <= 1048576) : ∃ L : Row, (c d = true /\ v d = L) /\ (U118.c d = true /\ U118.v d = L) /\ (∀ y ∈ L, y.length = 4) /\ L.length <= 20000 := by
 have k1 := U194.ok d (by omega)
 have k2 := U201.ok d (by omega)
 cases hv : U194.val d with
 | false =>
  refine ⟨[], out d ?_, U118.out d ?_, fun y hy => (by cases hy), Nat.zero_le _⟩
  ·unfold vo b; rw [k1.1, k1.2, hv]; rfl
  ·unfold U118.vo U118.b; rw [k2.1, k2.2, hv]; rfl
 | true =>
  have k3 := U195.ok d nm (by omega)
  have k4 := U202.ok d nm (by omega)
  obtain ⟨R, u1, u2, u3⟩ := U196.same (U195.val d nm).1
  obtain ⟨L, g1, g2, g3, g4⟩ := both R.1 u3 R.1.length 0 [] Lib.big Lib.big (by omega) (Nat.zero_le _) ⟨List.Pairwise.nil, fun y hy => (by cases hy)⟩ (Nat.zero_le _) (Lib.lt_big (by omega)) (Lib.lt_big (by omega))
  refine ⟨L, out d ?_, U118.out d ?_, fun y hy => (by rw [<- g3.2 y hy]; rfl), g4⟩
  ·unfold nm at k3 u1
   unfold vo b
   rw [k1.1, k1.2, hv, cond_true, Bool.not_true, cond_false, k3.1, cond_true, k3.2, u1.1, cond_true, u1.2]; exact g2
  ·unfold nm at k4 u2
   unfold U118.vo U118.b
   rw [k2.1, k2.2, hv, cond_true, Bool.not_true, cond_false, k4.1, cond_true, k4.2, u2.1, cond_true, u2.2]; exact g1
end Go.FG.U111

namespace Go.FG.U52
theorem eq (k : ByteArray) (s l : Int) (b : ByteArray) (n : Int) : U68.v k s l b n = U52.v k s l b n := by
 have e : U158.v k s l b = U141.v k s l b := rfl
 unfold U68.v U52.v
 rw [e]
 cases h : U141.v k s l b with
 | false => rfl
 | true =>
  have hs : (0 <= s /\ s <= 1000000000) /\ 1 <= l /\ l <= 999999 := by
   unfold U141.v at h
   cases h1 : U50.v k <;> rw [h1] at h <;> simp only [cond_true, cond_false, Bool.false_eq_true] at h
   cases h2 : U49.v s 0 1000000000 <;> rw [h2] at h <;> simp only [cond_true, cond_false, Bool.false_eq_true] at h
   cases h3 : U49.v l 1 999999 <;> rw [h3] at h <;> simp only [cond_true, cond_false, Bool.false_eq_true] at h
   simp [U49.v] at h2 h3
   omega
  simp only [cond_true, U100.v, U63.v, U49.v, Bool.cond_eq_ite, decide_eq_true_eq]
  by_cases h1 : 0 <= n /\ n <= 1000000000
  ·rw [w64_eq (x := n - s) (by omega) (by omega), w64_eq (x := s + l) (by omega) (by omega), w64_eq (x := s + l - 1) (by omega) (by omega)]
   by_cases h2 : s <= n <;> by_cases h3 : n - s < l <;> simp [h1, h2, h3] <;> omega
  ·by_cases h2 : s <= n <;> by_cases h3 : 0 <= n <;> by_cases h4 : n <= 1000000000 <;> simp [h2, h3, h4] <;> omega
end Go.FG.U52

namespace Go.FG.U112
def p (s : Row) (k : ByteArray) (a l : Int) (t : ByteArray) (i : Nat) : Bool := List.beq (ByteArray.toList (cvS (cellAt s i 0))) (ByteArray.toList k) && (decide (cvI (cellAt s i 1) = a) && (decide (cvI (cellAt s i (1 + 1)) = l) && (List.beq (ByteArray.toList (cvS (cellAt s i (1 + 1 + 1)))) (ByteArray.toList t) && true)))
def val (s : Row) (k : ByteArray) (a l : Int) (t : ByteArray) : Bool := decide (Lib.fi (p s k a l t) s.length 0 ≥ 0)
theorem ok (s : Row) (k : ByteArray) (a l : Int) (t : ByteArray) (hl : s.length <= 4294967296) : c s k a l t = true /\ v s k a l t = val s k a l t := by
 refine out s k a l t ?_
 unfold vo b
 refine Lib.fi_gen (p s k a l t) s.length (fun m (i : Nat) => l2 Lib.big (fun (_ : Row) (y8 : Bool) (_ : Int) (_ : ByteArray) (_ _ : Int) (_ : ByteArray) => some y8) (fun (_ : Row) (_ : Bool) (_ : Int) (_ : ByteArray) (_ _ : Int) (_ : ByteArray) => some false) m s false (i : Int) k a l t) (fun x => some (decide (x ≥ 0))) (fun m i hi hp => ?_) (fun m i hi hp => ?_) (fun m => ?_) Lib.big (Lib.lt_big (by omega))
 ·unfold p at hp
  rw [show decide ((i : Int) ≥ 0) = true from decide_eq_true (by omega)]
  simp only [l2, r2, Lib.dlt, Lib.dle0, Lib.toN, hi, decide_true, Bool.and_self, cond_true]
  rw [hp, cond_true]
 ·unfold p at hp
  simp only [l2, r2, Lib.dlt, Lib.dle0, Lib.toN, hi, decide_true, Bool.and_self, cond_true]
  rw [hp, cond_false, Lib.w64_s hi (by omega : s.length <= 9223372036854775807)]
 ·simp only [l2, r2, Lib.dlt, Nat.lt_irrefl, decide_false, cond_false]; rfl
end Go.FG.U112

namespace Go.FG.U143
def has (l : List ByteArray) (k : ByteArray) : Bool := l.any fun x => decide (x = k)
def without (l : List ByteArray) (k : ByteArray) : List ByteArray := l.filter fun x => !decide (x = k)
theorem has_iff {l : List ByteArray} {k : ByteArray} : has l k = true ↔ k ∈ l := by unfold has; simp
theorem has_no {l : List ByteArray} {k : ByteArray} : has l k = false ↔ k ∉ l := by rw [<- has_iff]; cases has l k <;> simp
theorem ok (l : List ByteArray) (k : ByteArray) (hl : l.length <= 4294967296) : c (Lib.rs l) k = true /\ v (Lib.rs l) k = has l k := by
 refine out _ _ ?_
 unfold vo b
 have := Lib.any_list l (fun x => decide (x = k)) (fun m (i : Nat) => l2 Lib.big (fun (_ : Row) (_ : ByteArray) (y6 : Bool) (_ : Int) => some y6) (fun (_ : Row) (_ : ByteArray) (_ : Bool) (_ : Int) => some false) m (Lib.rs l) k false (i : Int)) (some true) (some false)
  (fun m i h hp => by simp only [l2, r2, Lib.rs_len, Lib.dlt, h, decide_true, Lib.dle0, Bool.and_self, cond_true, Lib.toN, Lib.rs0 h, cvS, Lib.beq_ba, hp])
  (fun m i h hp => by simp only [l2, r2, Lib.rs_len, Lib.dlt, h, decide_true, Lib.dle0, Bool.and_self, cond_true, Lib.toN, Lib.rs0 h, cvS, Lib.beq_ba, hp, cond_false, Lib.w64_s h (by omega : l.length <= 9223372036854775807)])
  (fun m => by simp only [l2, r2, Lib.rs_len, Lib.dlt, Nat.lt_irrefl, decide_false, cond_false]) Lib.big (Lib.lt_big (by omega))
 refine this.trans ?_
 unfold has; cases l.any fun x => decide (x = k) <;> rfl
end Go.FG.U143

namespace Go.FG.U223
theorem ok (l : Row) (hl : l.length <= 4294967296) : c l = true /\ v l = l := by
 refine out l ?_
 unfold vo b
 rw [show List.length (zeros [Ck.i IntKind.i64] 0) + l.length = l.length by simp [zeros], Lib.roomy_of (by omega) (by omega)]
 rfl
end Go.FG.U223

namespace Go.FG.U168
open Lib (rr)
def fitS (s : List (List Int)) : Prop := s.length <= 1048576 /\ ∀ q ∈ s, q.length <= 1048576
theorem run {R : Type} (N : Nat) (K0 : Row -> Int -> Int -> Int -> Int -> Option R) (K1 : Row -> Int -> Int -> Int -> Int -> Row -> Option R) (s : List (List Int)) (z a : Int) (hf : fitS s) (m : Nat) (hm : s.length + 1 < m) (kr : Row -> Option R)
  (h0 : s = [] -> K0 (rr s) 0 0 z a = kr []) (h1 : K1 (rr s) s.length s.length z a (rr s) = kr (rr s)) : l3 N K0 K1 m (rr s) (s.length : Int) 0 z a = kr (rr s) := by
 obtain ⟨m, rfl⟩ : ∃ m', m = m' + 1 := ⟨m - 1, by omega⟩
 have hci : ∀ i (h : i < s.length), U223.c (Lib.ri s[i]) = true /\ U223.v (Lib.ri s[i]) = Lib.ri s[i] := fun i h => U223.ok _ (by rw [Lib.ri_len]; have := hf.2 _ (List.getElem_mem h); omega)
 by_cases hs : s = []
 ·subst hs
  simp only [l3, r3, List.length_nil, Int.natCast_zero, Int.lt_irrefl, decide_false, cond_false]
  exact h0 rfl
 ·have hp : 0 < s.length := List.length_pos_iff.2 hs
  have key := Lib.for_run (R := R) s.length (fun m i (x : Row) => l3a N K0 K1 m (rr s) (s.length : Int) (i : Int) z a x) (fun i => rr (s.take i)) (kr (rr s)) (fun m i h => by
   have hl := hf.1
   simp only [l3a, r3a, Lib.dlt, h, decide_true, cond_true, Lib.dle0, Bool.true_and, Lib.rr_len, Lib.toN, Lib.rr0 h, cvL, (hci i h).1, (hci i h).2, Lib.set1, List.length_singleton]
   rw [Lib.roomy_of (by rw [List.length_take]; omega) (by rw [List.length_take]; omega), cond_true, Lib.w64_s h (by omega)]
   have := Lib.take_snoc (fun q => [CV.l 3 (Lib.ri q)]) s i h
   unfold rr; rw [<- this]) (fun m => by
   simp only [l3a, r3a, Lib.dlt, Nat.lt_irrefl, decide_false, cond_false, List.take_length]; exact h1) m 1 hp (by omega)
  simp only [l3, r3, decide_eq_true (show (0 : Int) < (s.length : Int) by omega), cond_true, Bool.and_self, Lib.rr_len, show decide ((0 : Int) <= 0) = true from rfl]
  have e := hci 0 hp
  have e0 := Lib.rr0 (l := s) hp
  simp only [show Int.toNat 0 = 0 from rfl, e0, cvL, e.1, e.2, cond_true, Lib.set1, List.nil_append]
  rw [show w64 (0 + 1) = ((1 : Nat) : Int) from rfl]
  refine Eq.trans ?_ key
  have := Lib.take_snoc (fun q => [CV.l 3 (Lib.ri q)]) s 0 hp
  unfold rr; rw [show (0 + 1) = 1 from rfl] at this; rw [<- this]; rfl
theorem ok (s : List (List Int)) (a : Int) (hf : fitS s) : c (rr s) a = true /\ v (rr s) a = (rr s, a) := by
 refine out _ _ ?_
 unfold vo b
 rw [Lib.rr_len]
 exact run Lib.big (fun _ _ _ _ y => some ([], y)) (fun _ _ _ _ y20 y21 => some (y21, y20)) s 0 a hf Lib.big (Lib.lt_big (by have := hf.1; omega)) (fun x => some (x, a)) (fun _ => rfl) rfl
end Go.FG.U168

namespace Go.FG.U147
open Lib (rr)
def nOk (n : Int) : Bool := decide (0 <= n /\ n <= 15)
def rowOk (q : List Int) : Bool := decide (q.length = 16) && q.all nOk
def skOk (s : List (List Int)) (a : Int) : Bool := decide (s.length = 3) && (decide (0 <= a /\ a <= 63) && s.all rowOk)
theorem in_dec (n a b : Int) : U49.v n a b = decide (a <= n /\ n <= b) := by
 unfold U49.v
 by_cases h1 : a <= n
 ·rw [decide_eq_true (show n ≥ a from h1), cond_true]
  by_cases h2 : n <= b <;> simp [h1, h2]
 ·rw [decide_eq_false (show ¬ n ≥ a from h1), cond_false]; simp [h1]
theorem ok (s : List (List Int)) (a : Int) (hf : U168.fitS s) : c (rr s) a = true /\ v (rr s) a = skOk s a := by
 refine out _ _ ?_
 unfold vo b skOk
 rw [Lib.rr_len]
 by_cases h3 : ¬ s.length = 3
 ·rw [show ((s.length : Int) != 3) = true by simp; omega, decide_eq_false h3]; rfl
 have h3 : s.length = 3 := Decidable.not_not.1 h3
 rw [show ((s.length : Int) != 3) = false by simp; omega, decide_eq_true h3, cond_false, in_dec]
 cases h4 : decide (0 <= a /\ a <= 63) with
 | false => rfl
 | true =>
  rw [Bool.not_true, cond_false, Bool.true_and, Bool.true_and]
  have inner : ∀ i (h : i < s.length) (K0 K1 : Bool -> Int -> Int -> Row -> Int -> Option Bool) (kf kt : Option Bool) (h0 : ∀ j : Int, K0 false i j (rr s) a = kf) (h1 : ∀ j : Int, K1 false i j (rr s) a = kt), l9 Lib.big K0 K1 Lib.big false (i : Int) 0 (rr s) a = bif (s[i]).all nOk then kt else kf := fun i h K0 K1 kf kt h0 h1 =>
   Lib.all_list (s[i]) nOk (fun m (j : Nat) => l9 Lib.big K0 K1 m false (i : Int) (j : Int) (rr s) a) kf kt
    (fun m j hj hp => by
     have hl := hf.2 _ (List.getElem_mem h)
     unfold nOk at hp
     simp only [l9, r9, Lib.rr_len, Lib.dlt, h, decide_true, Lib.dle0, Bool.and_self, cond_true, Lib.toN, Lib.rr0 h, cvL, Lib.ri_len, hj, Lib.ri0 hj, cvI, in_dec, hp, Bool.not_true, cond_false, Lib.w64_s hj (by omega : s[i].length <= 9223372036854775807)])
    (fun m j hj hp => by
     unfold nOk at hp
     simp only [l9, r9, Lib.rr_len, Lib.dlt, h, decide_true, Lib.dle0, Bool.and_self, cond_true, Lib.toN, Lib.rr0 h, cvL, Lib.ri_len, hj, Lib.ri0 hj, cvI, in_dec, hp, Bool.not_false, h0])
    (fun m => by simp only [l9, r9, Lib.rr_len, Lib.dlt, h, decide_true, Lib.dle0, Bool.and_self, cond_true, Lib.toN, Lib.rr0 h, cvL, Lib.ri_len, Nat.lt_irrefl, decide_false, cond_false, h1]) Lib.big (Lib.lt_big (by have := hf.2 _ (List.getElem_mem h); omega))
  have key := Lib.all_list s rowOk (fun m (i : Nat) => l4 Lib.big (fun (y19 : Bool) (_ : Int) (_ : Row) (_ : Int) => some y19) (fun (_ : Bool) (_ : Int) (_ : Row) (_ : Int) => some true) m false (i : Int) (rr s) a) (some false) (some true)
   (fun m i h hp => by
    unfold rowOk at hp
    rw [Bool.and_eq_true] at hp
    have hl := of_decide_eq_true hp.1
    simp only [l4, r4, Lib.rr_len, Lib.dlt, h, decide_true, Lib.dle0, Bool.and_self, cond_true, Lib.toN, Lib.rr0 h, cvL, Lib.ri_len, hl, show (((16 : Nat) : Int) != 16) = false from rfl, cond_false]
    rw [inner i h _ _ _ _ (fun _ => rfl) (fun _ => rfl), hp.2, cond_true, Lib.w64_s h (by omega)])
   (fun m i h hp => by
    unfold rowOk at hp
    by_cases hl : s[i].length = 16
    ·rw [decide_eq_true hl, Bool.true_and] at hp
     simp only [l4, r4, Lib.rr_len, Lib.dlt, h, decide_true, Lib.dle0, Bool.and_self, cond_true, Lib.toN, Lib.rr0 h, cvL, Lib.ri_len, hl, show (((16 : Nat) : Int) != 16) = false from rfl, cond_false]
     rw [inner i h _ _ _ _ (fun _ => rfl) (fun _ => rfl), hp, cond_false]
    ·simp only [l4, r4, Lib.rr_len, Lib.dlt, h, decide_true, Lib.dle0, Bool.and_self, cond_true, Lib.toN, Lib.rr0 h, cvL, Lib.ri_len, show ((s[i].length : Int) != 16) = true by simp; omega])
   (fun m => by simp only [l4, r4, Lib.rr_len, Lib.dlt, Nat.lt_irrefl, decide_false, cond_false]) Lib.big (Lib.lt_big (by omega))
  refine key.trans ?_
  cases s.all rowOk <;> rfl
end Go.FG.U147

namespace Go.FG.U142
open Lib (rr rs)
open U143 (has without has_iff has_no)
def keyOk (k : ByteArray) : Bool := decide (1 <= (k.size : Int) /\ (k.size : Int) <= 30)
def kOk (l : List ByteArray) (i : Nat) : Bool := keyOk (l.getD i ⟨#[]⟩) && !has (l.take i) (l.getD i ⟨#[]⟩)
def keysOk (l : List ByteArray) : Bool := (List.range l.length).all (kOk l)
def pOk (w m : List ByteArray) (s : List (List Int)) (a : Int) : Bool := keysOk (w ++ m) && (decide (w.length <= 2) && (decide (m.length <= 4) && U147.skOk s a))
theorem key_dec (k : ByteArray) : U50.v k = keyOk k := U147.in_dec _ _ _
theorem view_rs (l : List ByteArray) (i : Nat) : view (Lib.rs l) (Int.toNat 0) i = Lib.rs (l.take i) := by
 unfold view Lib.rs; rw [show Int.toNat 0 = 0 from rfl, List.drop_zero, Nat.sub_zero, List.map_take]
theorem ok (w m : List ByteArray) (s : List (List Int)) (a : Int) (hw : w.length <= 1048576) (hm : m.length <= 1048576) (hf : U168.fitS s) : c (rs w) (rs m) (rr s) a = true /\ v (rs w) (rs m) (rr s) a = pOk w m s a := by
 refine out _ _ _ _ ?_
 have h2 := U147.ok s a hf
 unfold vo b
 have r1 : roomy (List.length (zeros [Ck.s] 0) + List.length (rs w)) 16 = true := Lib.roomy_of (by simp [zeros, Lib.rs_len]; omega) (by simp [zeros, Lib.rs_len]; omega)
 have r2 : roomy (List.length (zeros [Ck.s] 0 ++ rs w) + List.length (rs m)) 16 = true := Lib.roomy_of (by simp [zeros, Lib.rs_len]; omega) (by simp [zeros, Lib.rs_len]; omega)
 have e : zeros [Ck.s] 0 ++ rs w ++ rs m = rs (w ++ m) := by
  rw [show zeros [Ck.s] 0 ++ rs w = rs w from rfl]; unfold Lib.rs; rw [List.map_append]
 rw [r1, r2, cond_true, cond_true, e]
 have hl : (w ++ m).length <= 2097152 := by rw [List.length_append]; omega
 have hin : ∀ i, i < (w ++ m).length -> U143.c (rs ((w ++ m).take i)) ((w ++ m).getD i ⟨#[]⟩) = true /\ U143.v (rs ((w ++ m).take i)) ((w ++ m).getD i ⟨#[]⟩) = has ((w ++ m).take i) ((w ++ m).getD i ⟨#[]⟩) := fun i hi => U143.ok _ _ (by rw [List.length_take]; omega)
 have hk : ∀ i (hi : i < (w ++ m).length), cvS (cellAt (rs (w ++ m)) i 0) = (w ++ m).getD i ⟨#[]⟩ := fun i hi => by rw [Lib.rs0 hi, show (w ++ m).getD i ⟨#[]⟩ = (w ++ m)[i] by rw [List.getD_eq_getElem?_getD, List.getElem?_eq_getElem hi]; rfl]; rfl
 generalize hL : w ++ m = L at hl hin hk
 have key := Lib.all_gen (kOk L) L.length (fun n (i : Nat) => l3 Lib.big (fun (y7 : Bool) (_ : Int) (_ _ _ : Row) (_ : Int) (_ : Row) => some y7) (fun (_ : Bool) (_ : Int) (y16 y17 y18 : Row) (y19 : Int) (_ : Row) => bif (decide ((↑(List.length y16) : Int) <= 2)) then (bif (decide ((↑(List.length y17) : Int) <= 4)) then (bif (U147.c y18 y19) then (some (U147.v y18 y19)) else (none)) else (some false)) else (some false)) n false (i : Int) (rs w) (rs m) (rr s) a (rs L)) (some false) (some (decide (w.length <= 2) && (decide (m.length <= 4) && U147.skOk s a)))
  (fun n i hi hp => by
   unfold kOk at hp
   rw [Bool.and_eq_true, Bool.not_eq_true'] at hp
   have b1 : inB 0 (i : Int) (L.length : Int) = true := by simp [inB]; omega
   simp only [l3, r3, Lib.rs_len, Lib.dlt, hi, decide_true, Lib.dle0, Bool.and_self, cond_true, Lib.toN, hk i hi, key_dec, hp.1, Bool.not_true, cond_false, b1, view_rs, (hin i hi).1, (hin i hi).2, hp.2, Lib.w64_s hi (by omega : L.length <= 9223372036854775807)])
  (fun n i hi hp => by
   have b1 : inB 0 (i : Int) (L.length : Int) = true := by simp [inB]; omega
   unfold kOk at hp
   cases h1 : keyOk (L.getD i ⟨#[]⟩) with
   | false => simp only [l3, r3, Lib.rs_len, Lib.dlt, hi, decide_true, Lib.dle0, Bool.and_self, cond_true, Lib.toN, hk i hi, key_dec, h1, Bool.not_false]
   | true =>
    rw [h1, Bool.true_and, Bool.not_eq_false'] at hp
    simp only [l3, r3, Lib.rs_len, Lib.dlt, hi, decide_true, Lib.dle0, Bool.and_self, cond_true, Lib.toN, hk i hi, key_dec, h1, Bool.not_true, cond_false, b1, view_rs, (hin i hi).1, (hin i hi).2, hp])
  (fun n => by
   simp only [l3, r3, Lib.rs_len, Lib.dlt, Nat.lt_irrefl, decide_false, cond_false, h2.1, h2.2, cond_true]
   rw [show decide ((w.length : Int) <= 2) = decide (w.length <= 2) by rw [decide_eq_decide]; omega, show decide ((m.length : Int) <= 4) = decide (m.length <= 4) by rw [decide_eq_decide]; omega]
   cases decide (w.length <= 2) <;> cases decide (m.length <= 4) <;> rfl) Lib.big (Lib.lt_big (by omega))
 refine key.trans ?_
 unfold pOk keysOk
 rw [hL]
 cases (List.range L.length).all (kOk L) <;> rfl
end Go.FG.U142

namespace Go.FG.U213
open Lib (rr rs)
open U143 (has)
theorem ok (w m : List ByteArray) (s : Row) (a : Int) (k : ByteArray) (hw : w.length <= 1048576) (hm : m.length <= 1048576) : c (rs w) (rs m) s a k = true /\ v (rs w) (rs m) s a k = (has w k || has m k) := by
 have h1 := U143.ok w k (by omega)
 have h2 := U143.ok m k (by omega)
 exact out _ _ _ _ _ (by
  unfold vo b
  rw [h1.1, h1.2, h2.1, h2.2, cond_true, cond_true]
  cases has w k <;> rfl)
end Go.FG.U213

namespace Go.FG.U133
open Lib (rr rs re el we0 we1 we2 we3 En)
open U143 (has)
open U142 (pOk)
def enOk (e : En) : Bool := U141.v e.k e.st e.li e.bo
def eAt (en : List En) (w m : List ByteArray) (i : Nat) : Bool :=
 enOk (el en i) && ((decide (i = 0) || Go.Op.bytesLess (ByteArray.toList (el en (i - 1)).k) (ByteArray.toList (el en i).k)) && (has w (el en i).k || has m (el en i).k))
def eOk (en : List En) (w m : List ByteArray) (s : List (List Int)) (a : Int) : Bool := (List.range en.length).all (eAt en w m) && (pOk w m s a && decide (w.length + m.length = en.length))
theorem ok (i0 : Int) (en : List En) (w m : List ByteArray) (s : List (List Int)) (a : Int) (r6 r7 : Row) (i8 : Int) (he : en.length <= 1048576) (hw : w.length <= 1048576) (hm : m.length <= 1048576) (hf : U168.fitS s) :
  c i0 (re en) (rs w) (rs m) (rr s) a r6 r7 i8 = true /\ v i0 (re en) (rs w) (rs m) (rr s) a r6 r7 i8 = eOk en w m s a := by
 refine out _ _ _ _ _ _ _ _ _ ?_
 have h1 := U142.ok w m s a hw hm hf
 have h2 := fun k => U213.ok w m (rr s) a k hw hm
 unfold vo b
 have key := Lib.all_gen (eAt en w m) en.length (fun n (i : Nat) => l2 Lib.big (fun (y11 : Bool) (_ _ : Int) (_ _ _ _ : Row) (_ : Int) (_ _ : Row) (_ : Int) => some y11) (fun (_ : Bool) (_ _ : Int) (y25 y26 y27 y28 : Row) (y29 : Int) (_ _ : Row) (_ : Int) => bif (U142.c y26 y27 y28 y29) then (bif (U142.v y26 y27 y28 y29) then (some (decide ((↑(List.length y25) : Int) = w64 ((↑(List.length y26) : Int) + (↑(List.length y27) : Int))))) else (some false)) else (none)) n false (i : Int) i0 (re en) (rs w) (rs m) (rr s) a r6 r7 i8) (some false) (some (pOk w m s a && decide (w.length + m.length = en.length)))
  (fun n i hi hp => by
   unfold eAt enOk at hp
   rw [Bool.and_eq_true, Bool.and_eq_true] at hp
   obtain ⟨p1, p2, p3⟩ := hp
   by_cases hz : i = 0
   ·subst hz
    simp only [l2, r2, Lib.re_len, Lib.dlt, hi, decide_true, Lib.dle0, Bool.and_self, cond_true, Lib.toN, we0 hi, we1 hi, we2 hi, we3 hi, cvS, cvI, p1, Bool.not_true, cond_false, decide_eq_false (show ¬ (((0 : Nat) : Int) > 0) by omega), (h2 _).1, (h2 _).2, p3, Lib.w64_s hi (by omega : en.length <= 9223372036854775807)]
   ·rw [decide_eq_false hz, Bool.false_or] at p2
    have hi1 : i - 1 < en.length := by omega
    simp only [l2, r2, Lib.re_len, Lib.dlt, hi, decide_true, Lib.dle0, Bool.and_self, cond_true, Lib.toN, we0 hi, we1 hi, we2 hi, we3 hi, cvS, cvI, p1, Bool.not_true, cond_false, decide_eq_true (show (i : Int) > 0 by omega), Lib.pred_nat (show 0 < i by omega) (by omega), hi1, we0 hi1, p2, (h2 _).1, (h2 _).2, p3, Lib.w64_s hi (by omega : en.length <= 9223372036854775807)])
  (fun n i hi hp => by
   unfold eAt enOk at hp
   cases p1 : U141.v (el en i).k (el en i).st (el en i).li (el en i).bo with
   | false => simp only [l2, r2, Lib.re_len, Lib.dlt, hi, decide_true, Lib.dle0, Bool.and_self, cond_true, Lib.toN, we0 hi, we1 hi, we2 hi, we3 hi, cvS, cvI, p1, Bool.not_false]
   | true =>
    rw [p1, Bool.true_and] at hp
    by_cases hz : i = 0
    ·subst hz
     rw [decide_eq_true rfl, Bool.true_or, Bool.true_and] at hp
     simp only [l2, r2, Lib.re_len, Lib.dlt, hi, decide_true, Lib.dle0, Bool.and_self, cond_true, Lib.toN, we0 hi, we1 hi, we2 hi, we3 hi, cvS, cvI, p1, Bool.not_true, Bool.not_false, cond_false, decide_eq_false (show ¬ (((0 : Nat) : Int) > 0) by omega), (h2 _).1, (h2 _).2, hp]
    ·rw [decide_eq_false hz, Bool.false_or] at hp
     have hi1 : i - 1 < en.length := by omega
     cases p2 : Go.Op.bytesLess (ByteArray.toList (el en (i - 1)).k) (ByteArray.toList (el en i).k) with
     | false => simp only [l2, r2, Lib.re_len, Lib.dlt, hi, decide_true, Lib.dle0, Bool.and_self, cond_true, Lib.toN, we0 hi, we1 hi, we2 hi, we3 hi, cvS, cvI, p1, Bool.not_true, Bool.not_false, cond_false, decide_eq_true (show (i : Int) > 0 by omega), Lib.pred_nat (show 0 < i by omega) (by omega), hi1, we0 hi1, p2]
     | true =>
      rw [p2, Bool.true_and] at hp
      simp only [l2, r2, Lib.re_len, Lib.dlt, hi, decide_true, Lib.dle0, Bool.and_self, cond_true, Lib.toN, we0 hi, we1 hi, we2 hi, we3 hi, cvS, cvI, p1, Bool.not_true, Bool.not_false, cond_false, decide_eq_true (show (i : Int) > 0 by omega), Lib.pred_nat (show 0 < i by omega) (by omega), hi1, we0 hi1, p2, (h2 _).1, (h2 _).2, hp])
  (fun n => by
   simp only [l2, r2, Lib.re_len, Lib.dlt, Nat.lt_irrefl, decide_false, cond_false, h1.1, h1.2, cond_true, Lib.rs_len]
   rw [Lib.w64_ok (x := (w.length : Int) + (m.length : Int)) (by omega) (by omega), show decide ((en.length : Int) = (w.length : Int) + (m.length : Int)) = decide (w.length + m.length = en.length) by rw [decide_eq_decide]; omega]
   cases pOk w m s a <;> rfl) Lib.big (Lib.lt_big (by omega))
 refine key.trans ?_
 unfold eOk
 cases (List.range en.length).all (eAt en w m) <;> rfl
end Go.FG.U133

namespace Go.FG.U134
open Lib (rf el wf0 wf1 wf2 wf2' wf3 wf4 Fe)
open U142 (keyOk)
def fOk (now : Int) (f : Fe) : Bool := keyOk f.k && (decide ((f.t.size : Int) <= 400) && (decide (1 <= f.sta /\ f.sta <= 3) && (decide (0 <= f.li /\ f.li <= 999999) && decide (0 <= f.st /\ f.st <= now))))
def sameO (f g : Fe) : Bool := decide (f.sta = 1) && (decide (g.sta = 1) && decide (f.k = g.k))
def apart (fe : List Fe) (i : Nat) : Bool := (List.range i).all fun j => !sameO (el fe i) (el fe j)
theorem in_dec (n a b : Int) : U49.v n a b = decide (a <= n /\ n <= b) := U147.in_dec n a b
theorem ok (i0 : Int) (r1 r2 r3 r4 : Row) (i5 : Int) (fe : List Fe) (r7 : Row) (i8 : Int) (i : Nat) (hi : i < fe.length) (hf : fe.length <= 1048576) :
  c i0 r1 r2 r3 r4 i5 (rf fe) r7 i8 (i : Int) = true /\ v i0 r1 r2 r3 r4 i5 (rf fe) r7 i8 (i : Int) = (fOk i0 (el fe i) && apart fe i) := by
 refine out _ _ _ _ _ _ _ _ _ _ ?_
 unfold vo b
 have key := Lib.all_gen (fun j => !sameO (el fe i) (el fe j)) i (fun n (j : Nat) => l5 Lib.big (fun (_ : Int) (y18 : Bool) (_ _ : Int) (_ _ _ _ : Row) (_ : Int) (_ _ : Row) (_ : Int) (_ _ : ByteArray) (_ _ _ : Int) => some y18) (fun (_ : Int) (_ : Bool) (_ _ : Int) (_ _ _ _ : Row) (_ : Int) (_ _ : Row) (_ : Int) (_ _ : ByteArray) (_ _ _ : Int) => some true) n (i : Int) false (j : Int) i0 r1 r2 r3 r4 i5 (rf fe) r7 i8 (el fe i).k (el fe i).t (el fe i).sta (el fe i).li (el fe i).st) (some false) (some true)
  (fun n j hj hp => by
   have hjl : j < fe.length := by omega
   rw [Bool.not_eq_true'] at hp
   unfold sameO at hp
   have e : decide ((el fe j).k = (el fe i).k) = decide ((el fe i).k = (el fe j).k) := by rw [decide_eq_decide]; exact eq_comm
   simp only [l5, r5, Lib.dlt, hj, decide_true, Lib.dle0, Bool.and_self, cond_true, Lib.toN, Lib.rf_len, hjl, wf0 hjl, wf2' hjl, cvS, cvI, Lib.beq_ba, e, Lib.w64_s hj (by omega : i <= 9223372036854775807)]
   revert hp
   cases decide ((el fe i).k = (el fe j).k) <;> cases decide ((el fe j).sta = 1) <;> cases decide ((el fe i).sta = 1) <;> intro hp <;> first | rfl | cases hp)
  (fun n j hj hp => by
   have hjl : j < fe.length := by omega
   rw [Bool.not_eq_false'] at hp
   unfold sameO at hp
   rw [Bool.and_eq_true, Bool.and_eq_true] at hp
   have e : decide ((el fe j).k = (el fe i).k) = decide ((el fe i).k = (el fe j).k) := by rw [decide_eq_decide]; exact eq_comm
   simp only [l5, r5, Lib.dlt, hj, decide_true, Lib.dle0, Bool.and_self, cond_true, Lib.toN, Lib.rf_len, hjl, wf0 hjl, wf2' hjl, cvS, cvI, Lib.beq_ba, e, hp.1, hp.2.1, hp.2.2])
  (fun n => by simp only [l5, r5, Lib.dlt, Nat.lt_irrefl, decide_false, cond_false]) Lib.big (Lib.lt_big (by omega))
 simp only [Lib.rf_len, Lib.dlt, hi, decide_true, Lib.dle0, Bool.and_self, cond_true, Lib.toN, wf0 hi, wf1 hi, wf2 hi, wf3 hi, wf4 hi, cvS, cvI, in_dec, U142.key_dec]
 rw [show l5 Lib.big _ _ Lib.big (i : Int) false 0 i0 r1 r2 r3 r4 i5 (rf fe) r7 i8 (el fe i).k (el fe i).t (el fe i).sta (el fe i).li (el fe i).st = _ from key]
 unfold fOk apart
 rw [show decide (((el fe i).t.size : Int) > 400) = !decide (((el fe i).t.size : Int) <= 400) by rw [<- decide_not, decide_eq_decide]; omega]
 cases keyOk (el fe i).k <;> cases decide (((el fe i).t.size : Int) <= 400) <;> cases decide (1 <= (el fe i).sta /\ (el fe i).sta <= 3) <;> cases decide (0 <= (el fe i).li /\ (el fe i).li <= 999999) <;> cases decide (0 <= (el fe i).st /\ (el fe i).st <= i0) <;> cases (List.range i).all (fun j => !sameO (el fe i) (el fe j)) <;> rfl
end Go.FG.U134

namespace Go.FG.U43
open Lib (rr rs re rf rc el En Fe Cl Px wc0 wc1 wc2 wc3 wc4 wc5 wc6)
open U142 (keyOk)
open U133 (eOk)
open U134 (fOk apart in_dec)
def cAt (now : Int) (nf : Nat) (cl : List Cl) (i : Nat) : Bool :=
 decide (1 <= (el cl i).id /\ (el cl i).id <= 9) && ((decide (i = 0) || decide ((el cl (i - 1)).id < (el cl i).id)) && (keyOk (el cl i).k && (decide (1 <= (el cl i).sta /\ (el cl i).sta <= 3) && (decide (0 <= (el cl i).fe /\ (el cl i).fe <= (nf : Int)) && (decide (((el cl i).got.size : Int) <= 400) && (decide (0 <= (el cl i).fr /\ (el cl i).fr <= now) && decide (0 <= (el cl i).age)))))))
def pxOk (p : Px) : Bool :=
 decide (1 <= p.now /\ p.now <= 1000000000) && (eOk p.en p.w p.m p.s p.a && (decide (p.fe.length <= 20) && (decide (p.cl.length <= 6) && (decide (0 <= p.hits /\ p.hits <= 1000000000) && ((List.range p.fe.length).all (fun i => fOk p.now (el p.fe i) && apart p.fe i) && (List.range p.cl.length).all (cAt p.now p.fe.length p.cl))))))
theorem step {R : Type} (N : Nat) (g k0 k1 : Bool -> Int -> Int -> Row -> Row -> Row -> Row -> Int -> Row -> Row -> Int -> Option R) (i0 : Int) (q1 q2 q3 q4 : Row) (i5 : Int) (fe : List Fe) (cl : List Cl) (i8 : Int) (i : Nat) (hi : i < cl.length) (hl : cl.length <= 1048576) :
  r9 N g k0 k1 false (i : Int) i0 q1 q2 q3 q4 i5 (rf fe) (rc cl) i8 = bif cAt i0 fe.length cl i then g false ((i + 1 : Nat) : Int) i0 q1 q2 q3 q4 i5 (rf fe) (rc cl) i8 else k0 false (i : Int) i0 q1 q2 q3 q4 i5 (rf fe) (rc cl) i8 := by
 unfold cAt
 have e1 : decide (((el cl i).got.size : Int) > 400) = !decide (((el cl i).got.size : Int) <= 400) := by rw [<- decide_not, decide_eq_decide]; omega
 have e2 : decide ((el cl i).age < 0) = !decide (0 <= (el cl i).age) := by rw [<- decide_not, decide_eq_decide]; omega
 by_cases hz : i = 0
 ·subst hz
  simp only [r9, Lib.rc_len, Lib.rf_len, Lib.dlt, hi, decide_true, Lib.dle0, Bool.and_self, cond_true, Lib.toN, wc0 hi, wc1 hi, wc2 hi, wc3 hi, wc4 hi, wc5 hi, wc6 hi, cvS, cvI, in_dec, U142.key_dec, decide_eq_false (show ¬ (((0 : Nat) : Int) > 0) by omega), cond_false, e1, e2, Lib.w64_s hi (by omega : cl.length <= 9223372036854775807), Bool.true_or, Bool.true_and]
  cases decide (1 <= (el cl 0).id /\ (el cl 0).id <= 9) <;> cases keyOk (el cl 0).k <;> cases decide (1 <= (el cl 0).sta /\ (el cl 0).sta <= 3) <;> cases decide (0 <= (el cl 0).fe /\ (el cl 0).fe <= (fe.length : Int)) <;> cases decide (((el cl 0).got.size : Int) <= 400) <;> cases decide (0 <= (el cl 0).fr /\ (el cl 0).fr <= i0) <;> cases decide (0 <= (el cl 0).age) <;> rfl
 ·have hi1 : i - 1 < cl.length := by omega
  have e3 : decide ((el cl (i - 1)).id ≥ (el cl i).id) = !decide ((el cl (i - 1)).id < (el cl i).id) := by rw [<- decide_not, decide_eq_decide]; omega
  simp only [r9, Lib.rc_len, Lib.rf_len, Lib.dlt, hi, decide_true, Lib.dle0, Bool.and_self, cond_true, Lib.toN, wc0 hi, wc1 hi, wc2 hi, wc3 hi, wc4 hi, wc5 hi, wc6 hi, cvS, cvI, in_dec, U142.key_dec, decide_eq_true (show (i : Int) > 0 by omega), Lib.pred_nat (show 0 < i by omega) (by omega), hi1, wc0 hi1, cond_false, e1, e2, e3, Lib.w64_s hi (by omega : cl.length <= 9223372036854775807), decide_eq_false hz, Bool.false_or]
  cases decide (1 <= (el cl i).id /\ (el cl i).id <= 9) <;> cases decide ((el cl (i - 1)).id < (el cl i).id) <;> cases keyOk (el cl i).k <;> cases decide (1 <= (el cl i).sta /\ (el cl i).sta <= 3) <;> cases decide (0 <= (el cl i).fe /\ (el cl i).fe <= (fe.length : Int)) <;> cases decide (((el cl i).got.size : Int) <= 400) <;> cases decide (0 <= (el cl i).fr /\ (el cl i).fr <= i0) <;> cases decide (0 <= (el cl i).age) <;> rfl
theorem ok (p : Px) (hp : p.Fit 1048576) : c p.now (re p.en) (rs p.w) (rs p.m) (rr p.s) p.a (rf p.fe) (rc p.cl) p.hits = true /\ v p.now (re p.en) (rs p.w) (rs p.m) (rr p.s) p.a (rf p.fe) (rc p.cl) p.hits = pxOk p := by
 refine out _ _ _ _ _ _ _ _ _ ?_
 have h1 := U133.ok p.now p.en p.w p.m p.s p.a (rf p.fe) (rc p.cl) p.hits hp.en hp.w hp.m ⟨hp.s.1, hp.s.2.1⟩
 have hfe := hp.fe
 have hcl := hp.cl
 unfold vo b
 have h2 := fun i hi => U134.ok p.now (re p.en) (rs p.w) (rs p.m) (rr p.s) p.a p.fe (rc p.cl) p.hits i hi hfe
 have kc := fun (n : Nat) (hn : p.cl.length < n) => Lib.all_gen (cAt p.now p.fe.length p.cl) p.cl.length (fun n (i : Nat) => l9 Lib.big (fun (y44 : Bool) (_ _ : Int) (_ _ _ _ : Row) (_ : Int) (_ _ : Row) (_ : Int) => some y44) (fun (_ : Bool) (_ _ : Int) (_ _ _ _ : Row) (_ : Int) (_ _ : Row) (_ : Int) => some true) n false (i : Int) p.now (re p.en) (rs p.w) (rs p.m) (rr p.s) p.a (rf p.fe) (rc p.cl) p.hits) (some false) (some true)
  (fun n i hi hq => by
   simp only [l9]
   rw [step _ _ _ _ _ _ _ _ _ _ _ _ _ i hi hcl, hq]; rfl)
  (fun n i hi hq => by
   simp only [l9]
   rw [step _ _ _ _ _ _ _ _ _ _ _ _ _ i hi hcl, hq]; rfl)
  (fun n => by simp only [l9, r9, Lib.rc_len, Lib.dlt, Nat.lt_irrefl, decide_false, cond_false]) n hn
 have kf := Lib.all_gen (fun i => fOk p.now (el p.fe i) && apart p.fe i) p.fe.length (fun n (i : Nat) => l4 Lib.big (fun (y11 : Bool) (_ _ : Int) (_ _ _ _ : Row) (_ : Int) (_ _ : Row) (_ : Int) => some y11) (fun (y22 : Bool) (_ y24 : Int) (y25 y26 y27 y28 : Row) (y29 : Int) (y30 y31 : Row) (y32 : Int) => l9 Lib.big (fun (y44 : Bool) (_ _ : Int) (_ _ _ _ : Row) (_ : Int) (_ _ : Row) (_ : Int) => some y44) (fun (_ : Bool) (_ _ : Int) (_ _ _ _ : Row) (_ : Int) (_ _ : Row) (_ : Int) => some true) Lib.big y22 0 y24 y25 y26 y27 y28 y29 y30 y31 y32) n false (i : Int) p.now (re p.en) (rs p.w) (rs p.m) (rr p.s) p.a (rf p.fe) (rc p.cl) p.hits) (some false) (some ((List.range p.cl.length).all (cAt p.now p.fe.length p.cl)))
  (fun n i hi hq => by
   simp only [l4, r4, Lib.rf_len, Lib.dlt, hi, decide_true, cond_true, (h2 i hi).1, (h2 i hi).2, hq, Bool.not_true, cond_false, Lib.w64_s hi (by omega : p.fe.length <= 9223372036854775807)])
  (fun n i hi hq => by
   simp only [l4, r4, Lib.rf_len, Lib.dlt, hi, decide_true, cond_true, (h2 i hi).1, (h2 i hi).2, hq, Bool.not_false])
  (fun n => by
   simp only [l4, r4, Lib.rf_len, Lib.dlt, Nat.lt_irrefl, decide_false, cond_false]
   refine (kc Lib.big (Lib.lt_big (by omega))).trans ?_
   cases (List.range p.cl.length).all (cAt p.now p.fe.length p.cl) <;> rfl) Lib.big (Lib.lt_big (by omega))
 rw [in_dec, in_dec, h1.1, h1.2, cond_true, Lib.rf_len, Lib.rc_len]
 rw [show l4 Lib.big _ _ Lib.big false 0 p.now (re p.en) (rs p.w) (rs p.m) (rr p.s) p.a (rf p.fe) (rc p.cl) p.hits = _ from kf]
 unfold pxOk
 rw [show decide ((p.fe.length : Int) > 20) = !decide (p.fe.length <= 20) by rw [<- decide_not, decide_eq_decide]; omega, show decide ((p.cl.length : Int) > 6) = !decide (p.cl.length <= 6) by rw [<- decide_not, decide_eq_decide]; omega]
 cases decide (1 <= p.now /\ p.now <= 1000000000) <;> cases eOk p.en p.w p.m p.s p.a <;> cases decide (p.fe.length <= 20) <;> cases decide (p.cl.length <= 6) <;> cases decide (0 <= p.hits /\ p.hits <= 1000000000) <;> cases (List.range p.fe.length).all (fun i => fOk p.now (el p.fe i) && apart p.fe i) <;> cases (List.range p.cl.length).all (cAt p.now p.fe.length p.cl) <;> rfl
end Go.FG.U43

namespace Go.FG.A_OneEach
def op (r : Row) (i : Nat) : Bool := decide (cvI (cellAt r i 2) = 1)
def g (r : Row) (i j : Nat) : Bool := !(op r i && (op r j && List.beq (ByteArray.toList (cvS (cellAt r i 0))) (ByteArray.toList (cvS (cellAt r j 0)))))
def val (r : Row) : Bool := (List.range r.length).all fun i => (List.range i).all (g r i)
end Go.FG.A_OneEach

namespace Go.FG.A_Got
open Lib (Cl Fe el)
def hb (bd : Row) (k : ByteArray) (fr : Int) (got : ByteArray) (age : Int) (i : Nat) : Bool := List.beq (ByteArray.toList (cvS (cellAt bd i 0))) (ByteArray.toList k) && (decide (cvI (cellAt bd i 1) = fr) && (List.beq (ByteArray.toList (cvS (cellAt bd i (1 + 1 + 1)))) (ByteArray.toList got) && decide (cvI (cellAt bd i (1 + 1)) > age)))
def has (bd : Row) (k : ByteArray) (fr : Int) (got : ByteArray) (age : Int) : Bool := decide (Lib.fi (hb bd k fr got age) bd.length 0 ≥ 0)
def bg (t got : ByteArray) : Bool := decide (((t.size : Nat) : Int) ≥ ((got.size : Nat) : Int)) && List.beq (ByteArray.toList (ByteArray.extract t (Int.toNat 0) (Int.toNat (↑(ByteArray.size got) : Int)))) (ByteArray.toList got)
def wt (f : Fe) (c : Cl) : Bool := List.beq (ByteArray.toList f.k) (ByteArray.toList c.k) && (bif decide (c.sta = 1) then List.beq (ByteArray.toList c.got) (ByteArray.toList f.t) && decide (f.sta = 1) else bif decide (c.sta = 2) then List.beq (ByteArray.toList c.got) (ByteArray.toList f.t) && decide (f.sta = 2) else decide (c.sta = 3) && (bg f.t c.got && decide (f.sta = 3)))
def gOk (fe : List Fe) (bd : Row) (c : Cl) : Bool := bif decide (c.fe = 0) then has bd c.k c.fr c.got c.age && decide (c.sta = 2) else wt (el fe (c.fe - 1).toNat) c
def gotR (fe : List Fe) (cl : List Cl) (bd : Row) : Bool := (List.range cl.length).all fun i => gOk fe bd (el cl i)
end Go.FG.A_Got

namespace Go.FG.U115
def q (a s : Row) (i : Nat) : Bool := U112.val s (cvS (cellAt a i 0)) (cvI (cellAt a i 1)) (cvI (cellAt a i (1 + 1))) (cvS (cellAt a i (1 + 1 + 1)))
def val (a s : Row) : Bool := bif (List.range a.length).all (q a s) then true else false
theorem ok (i0 : Int) (p1 p2 p3 p4 : Row) (i5 : Int) (p6 p7 : Row) (i8 : Int) (p9 p10 p11 : Row) (hl : p1.length <= 4294967296) (hl2 : p11.length <= 4294967296) : c i0 p1 p2 p3 p4 i5 p6 p7 i8 p9 p10 p11 = true /\ v i0 p1 p2 p3 p4 i5 p6 p7 i8 p9 p10 p11 = val p1 p11 := by
 refine out _ _ _ _ _ _ _ _ _ _ _ _ ?_
 unfold vo b
 have hw : ∀ i, i < p1.length -> w64 ((i : Int) + 1) = ((i + 1 : Nat) : Int) := fun i h => Lib.w64_s h (by omega)
 have ho := fun k a l t => U112.ok p11 k a l t hl2
 have key := Lib.all_gen (q p1 p11) p1.length (fun m (i : Nat) => l2 Lib.big (fun (y14 : Bool) (_ _ : Int) (_ _ _ _ : Row) (_ : Int) (_ _ : Row) (_ : Int) (_ _ _ : Row) => some y14) (fun (_ : Bool) (_ _ : Int) (_ _ _ _ : Row) (_ : Int) (_ _ : Row) (_ : Int) (_ _ _ : Row) => some true) m false (i : Int) i0 p1 p2 p3 p4 i5 p6 p7 i8 p9 p10 p11) (some false) (some true)
  (fun m i hi hp => by
   unfold q at hp
   simp only [l2, r2, Lib.dlt, hi, decide_true, Lib.dle0, Bool.and_self, cond_true, Lib.toN, (ho _ _ _ _).1, (ho _ _ _ _).2, hp, Bool.not_true, cond_false, hw i hi])
  (fun m i hi hp => by
   unfold q at hp
   simp only [l2, r2, Lib.dlt, hi, decide_true, Lib.dle0, Bool.and_self, cond_true, Lib.toN, (ho _ _ _ _).1, (ho _ _ _ _).2, hp, Bool.not_false])
  (fun m => by simp only [l2, r2, Lib.dlt, Nat.lt_irrefl, decide_false, cond_false]) Lib.big (Lib.lt_big (by omega))
 refine key.trans ?_
 unfold val
 cases (List.range p1.length).all (q p1 p11) <;> rfl
end Go.FG.U115

namespace Go.FG.A_En
open Lib (re En)
def lessK (x y : ByteArray) : Bool := Go.Op.bytesLess (ByteArray.toList x) (ByteArray.toList y)
def So (en : List En) : Prop := en.Pairwise fun x y => lessK x.k y.k = true
def dropE (en : List En) (k : ByteArray) : List En := en.filter fun x => !decide (x.k = k)
def putE (en : List En) (e : En) : List En := en.filter (fun x => lessK x.k e.k) ++ [e] ++ en.filter (fun x => !(lessK x.k e.k || decide (x.k = e.k)))
theorem So.drop {en : List En} (h : So en) (k : ByteArray) : So (dropE en k) := List.Pairwise.filter _ h
end Go.FG.A_En

namespace Go.FG.A_Ok
open Lib (Px Cl Fe En el)
open U143 (has has_iff)
open U142 (keyOk pOk)
open U133 (enOk eAt eOk)
open U134 (fOk sameO apart)
open U43 (cAt pxOk)
open A_En (So lessK)
def cOk (now : Int) (nf : Nat) (c : Cl) : Bool :=
 decide (1 <= c.id /\ c.id <= 9) && (keyOk c.k && (decide (1 <= c.sta /\ c.sta <= 3) && (decide (0 <= c.fe /\ c.fe <= (nf : Int)) && (decide ((c.got.size : Int) <= 400) && (decide (0 <= c.fr /\ c.fr <= now) && decide (0 <= c.age))))))
structure PxOk (p : Px) : Prop where
 now : 1 <= p.now /\ p.now <= 1000000000
 en : ∀ e ∈ p.en, enOk e = true
 so : So p.en
 ek : ∀ e ∈ p.en, e.k ∈ p.w \/ e.k ∈ p.m
 pol : pOk p.w p.m p.s p.a = true
 len : p.w.length + p.m.length = p.en.length
 fl : p.fe.length <= 20
 fe : ∀ f ∈ p.fe, fOk p.now f = true
 ap : p.fe.Pairwise fun f g => sameO g f = false
 cll : p.cl.length <= 6
 cl : ∀ c ∈ p.cl, cOk p.now p.fe.length c = true
 cs : p.cl.Pairwise fun c d => c.id < d.id
 hits : 0 <= p.hits /\ p.hits <= 1000000000
theorem pw_adj {α : Type} (R : α -> α -> Prop) (tr : ∀ x y z, R x y -> R y z -> R x z) (l : List α) (h : ∀ i (hi : i + 1 < l.length), R (l[i]) (l[i + 1])) : l.Pairwise R := by
 rw [List.pairwise_iff_getElem]
 have adj : ∀ d i (hi : i + d + 1 < l.length), R (l[i]) (l[i + d + 1]) := by
  intro d
  induction d with
  | zero => intro i hi; exact h i hi
  | succ d ih => intro i hi; exact tr _ _ _ (ih i (by omega)) (h (i + d + 1) (by omega))
 intro i j hi hj hij
 have := adj (j - i - 1) i (by omega)
 simp only [show i + (j - i - 1) + 1 = j by omega] at this
 exact this
theorem less_trans (x y z : ByteArray) (a : lessK x y = true) (b : lessK y z = true) : lessK x z = true := U198.bl_trans _ _ _ a b
theorem ok_of {p : Px} (h : pxOk p = true) : PxOk p := by
 obtain ⟨h1, h2, h3, h4, h5, h6, h7⟩ : _ /\ _ /\ _ /\ _ /\ _ /\ _ /\ _ := by
  unfold pxOk at h; simpa only [Bool.and_eq_true, decide_eq_true_eq, List.all_eq_true, List.mem_range] using h
 obtain ⟨g1, g2, g3⟩ : _ /\ _ /\ _ := by
  unfold eOk at h2; simpa only [Bool.and_eq_true, decide_eq_true_eq, List.all_eq_true, List.mem_range] using h2
 have e1 : ∀ i (hi : i < p.en.length), enOk p.en[i] = true /\ (0 < i -> lessK (el p.en (i - 1)).k p.en[i].k = true) /\ (p.en[i].k ∈ p.w \/ p.en[i].k ∈ p.m) := fun i hi => by
  have := g1 i hi
  unfold eAt at this
  simp only [Bool.and_eq_true, Bool.or_eq_true, decide_eq_true_eq, Lib.el_eq hi, has_iff] at this
  exact ⟨this.1, fun h0 => this.2.1.resolve_left (by omega), this.2.2⟩
 have c1 : ∀ i (hi : i < p.cl.length), cOk p.now p.fe.length p.cl[i] = true /\ (0 < i -> (el p.cl (i - 1)).id < p.cl[i].id) := fun i hi => by
  have := h7 i hi
  unfold cAt at this
  unfold cOk
  simp only [Bool.and_eq_true, Bool.or_eq_true, decide_eq_true_eq, Lib.el_eq hi] at this ⊢
  exact ⟨⟨this.1, this.2.2⟩, fun h0 => this.2.1.resolve_left (by omega)⟩
 have f1 : ∀ i (hi : i < p.fe.length), fOk p.now p.fe[i] = true /\ ∀ j (hj : j < i), sameO p.fe[i] (p.fe[j]'(by omega)) = false := fun i hi => by
  have := h6 i hi
  unfold apart at this
  simp only [List.all_eq_true, List.mem_range, Lib.el_eq hi] at this
  refine ⟨this.1, fun j hj => ?_⟩
  have h := this.2 j hj
  rw [Lib.el_eq (show j < p.fe.length by omega)] at h
  simpa using h
 refine ⟨h1, fun e he => ?_, ?_, fun e he => ?_, g2, g3, h3, fun f hf => ?_, ?_, h4, fun c hc => ?_, ?_, h5⟩
 ·obtain ⟨i, hi, rfl⟩ := List.getElem_of_mem he; exact (e1 i hi).1
 ·refine pw_adj (fun x y : En => lessK x.k y.k = true) (fun x y z a b => less_trans _ _ _ a b) p.en fun i hi => ?_
  have := (e1 (i + 1) hi).2.1 (by omega)
  rw [Nat.add_sub_cancel, Lib.el_eq (show i < p.en.length by omega)] at this
  exact this
 ·obtain ⟨i, hi, rfl⟩ := List.getElem_of_mem he; exact (e1 i hi).2.2
 ·obtain ⟨i, hi, rfl⟩ := List.getElem_of_mem hf; exact (f1 i hi).1
 ·rw [List.pairwise_iff_getElem]
  intro i j hi hj hij
  exact (f1 j hj).2 i hij
 ·obtain ⟨i, hi, rfl⟩ := List.getElem_of_mem hc; exact (c1 i hi).1
 ·refine pw_adj (fun c d : Cl => c.id < d.id) (fun x y z a b => Int.lt_trans a b) p.cl fun i hi => ?_
  have := (c1 (i + 1) hi).2 (by omega)
  rw [Nat.add_sub_cancel, Lib.el_eq (show i < p.cl.length by omega)] at this
  exact this
theorem of_ok {p : Px} (h : PxOk p) : pxOk p = true := by
 unfold pxOk eOk
 simp only [Bool.and_eq_true, decide_eq_true_eq, List.all_eq_true, List.mem_range]
 refine ⟨h.now, ⟨fun i hi => ?_, h.pol, h.len⟩, h.fl, h.cll, h.hits, fun i hi => ⟨?_, ?_⟩, fun i hi => ?_⟩
 ·unfold eAt
  simp only [Bool.and_eq_true, Bool.or_eq_true, decide_eq_true_eq, Lib.el_eq hi, has_iff]
  refine ⟨h.en _ (List.getElem_mem hi), ?_, h.ek _ (List.getElem_mem hi)⟩
  by_cases h0 : i = 0
  ·exact .inl h0
  ·right
   rw [Lib.el_eq (show i - 1 < p.en.length by omega)]
   exact List.pairwise_iff_getElem.1 h.so (i - 1) i (by omega) hi (by omega)
 ·rw [Lib.el_eq hi]; exact h.fe _ (List.getElem_mem hi)
 ·unfold apart
  simp only [List.all_eq_true, List.mem_range]
  intro j hj
  rw [Lib.el_eq hi, Lib.el_eq (show j < p.fe.length by omega), List.pairwise_iff_getElem.1 h.ap j i (by omega) hi hj]; rfl
 ·have hc := h.cl _ (List.getElem_mem hi)
  unfold cOk at hc
  unfold cAt
  simp only [Bool.and_eq_true, Bool.or_eq_true, decide_eq_true_eq, Lib.el_eq hi] at hc ⊢
  refine ⟨hc.1, ?_, hc.2⟩
  by_cases h0 : i = 0
  ·exact .inl h0
  ·right
   rw [Lib.el_eq (show i - 1 < p.cl.length by omega)]
   exact List.pairwise_iff_getElem.1 h.cs (i - 1) i (by omega) hi (by omega)
theorem ok_iff {p : Px} : pxOk p = true ↔ PxOk p := ⟨ok_of, of_ok⟩
end Go.FG.A_Ok

namespace Go.FG.A_Sound
open Lib (rr rs re rf rc Px)
def qe (a : Row) (now : Int) (kp : Row) (i : Nat) : Bool := bif U52.v (cvS (cellAt a i 0)) (cvI (cellAt a i 1)) (cvI (cellAt a i (1 + 1))) (cvS (cellAt a i (1 + 1 + 1))) now then U112.val kp (cvS (cellAt a i 0)) (cvI (cellAt a i 1)) (cvI (cellAt a i (1 + 1))) (cvS (cellAt a i (1 + 1 + 1))) else true
def sw (p : Px) (kp bd : Row) : Bool := (List.range p.en.length).all (qe (re p.en) p.now kp) && (U43.pxOk p && (A_OneEach.val (rf p.fe) && (A_Got.gotR p.fe p.cl bd && U115.val (re p.en) bd)))
theorem cls {p : Px} (h : U43.pxOk p = true) : ∀ i, i < p.cl.length -> 0 <= (Lib.el p.cl i).fe /\ (Lib.el p.cl i).fe <= p.fe.length := by
 intro i hi
 have := (A_Ok.ok_iff.1 h).cl _ (Lib.el_mem hi)
 unfold A_Ok.cOk at this
 simp only [Bool.and_eq_true, decide_eq_true_eq] at this
 exact this.2.2.2.1
end Go.FG.A_Sound

namespace Go.FG.U113
open A_OneEach (op g val)
theorem ok (i0 : Int) (p1 p2 p3 p4 : Row) (i5 : Int) (p6 p7 : Row) (i8 : Int) (hl : p6.length <= 4294967296) : c i0 p1 p2 p3 p4 i5 p6 p7 i8 = true /\ v i0 p1 p2 p3 p4 i5 p6 p7 i8 = A_OneEach.val p6 := by
 refine out _ _ _ _ _ _ _ _ _ ?_
 unfold vo b
 have hw : ∀ i, i < p6.length -> w64 ((i : Int) + 1) = ((i + 1 : Nat) : Int) := fun i h => Lib.w64_s h (by omega)
 have inner : ∀ (i : Nat) (hi : i < p6.length) (K0 K1 : Bool -> Int -> Int -> Int -> Row -> Row -> Row -> Row -> Int -> Row -> Row -> Int -> Option Bool) (kf kt : Option Bool) (h0 : ∀ j : Int, K0 false i j i0 p1 p2 p3 p4 i5 p6 p7 i8 = kf) (h1 : ∀ j : Int, K1 false i j i0 p1 p2 p3 p4 i5 p6 p7 i8 = kt), l5 Lib.big K0 K1 Lib.big false i 0 i0 p1 p2 p3 p4 i5 p6 p7 i8 = bif (List.range i).all (g p6 i) then kt else kf := fun i hi K0 K1 kf kt h0 h1 =>
  Lib.all_gen (g p6 i) i (fun m (j : Nat) => l5 Lib.big K0 K1 m false i j i0 p1 p2 p3 p4 i5 p6 p7 i8) kf kt
  (fun m j hj hp => by
   have hj2 : j < p6.length := by omega
   unfold g op at hp
   cases e1 : decide (cvI (cellAt p6 i 2) = 1) with
   | false => simp only [l5, r5, Lib.dlt, hj, hj2, hi, decide_true, Lib.dle0, Bool.and_self, cond_true, Lib.toN, e1, cond_false, hw j hj2]
   | true =>
    cases e2 : decide (cvI (cellAt p6 j 2) = 1) with
    | false => simp only [l5, r5, Lib.dlt, hj, hj2, hi, decide_true, Lib.dle0, Bool.and_self, cond_true, Lib.toN, e1, e2, cond_false, hw j hj2]
    | true =>
     rw [e1, e2, Bool.true_and, Bool.true_and, Bool.not_eq_true'] at hp
     simp only [l5, r5, Lib.dlt, hj, hj2, hi, decide_true, Lib.dle0, Bool.and_self, cond_true, Lib.toN, e1, e2, hp, cond_false, hw j hj2])
  (fun m j hj hp => by
   have hj2 : j < p6.length := by omega
   unfold g op at hp
   rw [Bool.not_eq_false'] at hp
   simp only [Bool.and_eq_true] at hp
   obtain ⟨e1, e2, e3⟩ := hp
   simp only [l5, r5, Lib.dlt, hj, hj2, hi, decide_true, Lib.dle0, Bool.and_self, cond_true, Lib.toN, e1, e2, e3, h0])
  (fun m => by simp only [l5, r5, Lib.dlt, Nat.lt_irrefl, decide_false, cond_false, h1]) Lib.big (Lib.lt_big (by omega))
 have st : ∀ (m i : Nat) (hi : i < p6.length), l2 Lib.big (fun (y47 : Bool) (_ _ : Int) (_ _ _ _ : Row) (_ : Int) (_ _ : Row) (_ : Int) => some y47) (fun (_ : Bool) (_ _ : Int) (_ _ _ _ : Row) (_ : Int) (_ _ : Row) (_ : Int) => some true) (m + 1) false (i : Int) i0 p1 p2 p3 p4 i5 p6 p7 i8 = bif (List.range i).all (g p6 i) then l2 Lib.big (fun (y47 : Bool) (_ _ : Int) (_ _ _ _ : Row) (_ : Int) (_ _ : Row) (_ : Int) => some y47) (fun (_ : Bool) (_ _ : Int) (_ _ _ _ : Row) (_ : Int) (_ _ : Row) (_ : Int) => some true) m false ((i + 1 : Nat) : Int) i0 p1 p2 p3 p4 i5 p6 p7 i8 else some false := by
  intro m i hi
  simp only [l2, r2, Lib.dlt, hi, decide_true, cond_true]
  refine inner i hi _ _ _ _ ?_ ?_
  ·intro _; rfl
  ·intro _; rw [hw i hi]
 have key := Lib.all_gen (fun i => (List.range i).all (g p6 i)) p6.length (fun m (i : Nat) => l2 Lib.big (fun (y47 : Bool) (_ _ : Int) (_ _ _ _ : Row) (_ : Int) (_ _ : Row) (_ : Int) => some y47) (fun (_ : Bool) (_ _ : Int) (_ _ _ _ : Row) (_ : Int) (_ _ : Row) (_ : Int) => some true) m false (i : Int) i0 p1 p2 p3 p4 i5 p6 p7 i8) (some false) (some true)
  (fun m i hi hp => by rw [st m i hi, hp, cond_true])
  (fun m i hi hp => by rw [st m i hi, hp, cond_false])
  (fun m => by simp only [l2, r2, Lib.dlt, Nat.lt_irrefl, decide_false, cond_false]) Lib.big (Lib.lt_big (by omega))
 refine key.trans ?_
 unfold A_OneEach.val
 cases (List.range p6.length).all fun i => (List.range i).all (g p6 i) <;> rfl
end Go.FG.U113

namespace Go.FG.U242
theorem ok (a0 a1 : ByteArray) : c a0 a1 = true /\ v a0 a1 = A_Got.bg a0 a1 := by
 refine out _ _ ?_
 unfold vo b A_Got.bg
 by_cases h : ((a0.size : Nat) : Int) ≥ ((a1.size : Nat) : Int)
 ·rw [decide_eq_true h, cond_true, show inB 0 (a1.size : Int) (a0.size : Int) = true by simp [inB]; omega, cond_true, Bool.true_and]
 ·rw [decide_eq_false h, cond_false, Bool.false_and]
end Go.FG.U242

namespace Go.FG.U199
open Lib (rf wf0 wf1 wf2)
theorem ok (a0 : Int) (a1 a2 a3 a4 : Row) (a5 : Int) (fe : List Lib.Fe) (a7 : Row) (a8 : Int) (a9 a10 bd : Row) (x : Lib.Cl) (h1 : 0 <= x.fe) (h2 : x.fe <= fe.length) (hl : fe.length <= 1048576) (hb : bd.length <= 1048576) : c a0 a1 a2 a3 a4 a5 (rf fe) a7 a8 a9 a10 bd x.id x.k x.fe x.fr x.sta x.got x.age = true /\ v a0 a1 a2 a3 a4 a5 (rf fe) a7 a8 a9 a10 bd x.id x.k x.fe x.fr x.sta x.got x.age = A_Got.gOk fe bd x := by
 refine out _ _ _ _ _ _ _ _ _ _ _ _ _ _ _ _ _ _ _ ?_
 unfold vo b A_Got.gOk
 cases h0 : decide (x.fe = 0) with
 | true =>
  rw [cond_true, cond_true]
  refine (Lib.fi_gen (A_Got.hb bd x.k x.fr x.got x.age) bd.length (fun m (i : Nat) => l3 Lib.big (fun (y : Bool) (_ _ : Int) (_ _ _ _ : Row) (_ : Int) (_ _ : Row) (_ : Int) (_ _ _ : Row) (_ : Int) (_ : ByteArray) (_ _ _ : Int) (_ : ByteArray) (_ : Int) => some y) (fun (_ : Bool) (_ _ : Int) (_ _ _ _ : Row) (_ : Int) (_ _ : Row) (_ : Int) (_ _ _ : Row) (_ : Int) (_ : ByteArray) (_ _ _ : Int) (_ : ByteArray) (_ : Int) => some false) m false (i : Int) a0 a1 a2 a3 a4 a5 (rf fe) a7 a8 a9 a10 bd x.id x.k x.fe x.fr x.sta x.got x.age) (fun j => some (decide (j ≥ 0) && decide (x.sta = 2))) (fun m i hi hp => ?_) (fun m i hi hp => ?_) (fun m => ?_) Lib.big (Lib.lt_big (by omega))).trans rfl
  ·unfold A_Got.hb at hp
   simp only [Bool.and_eq_true] at hp
   obtain ⟨e1, e2, e3, e4⟩ := hp
   simp only [l3, r3, Lib.dlt, Lib.dle0, Lib.toN, hi, decide_true, Bool.and_self, cond_true, e1, e2, e3, e4, decide_eq_true (show (i : Int) ≥ 0 by omega), Bool.true_and]
  ·unfold A_Got.hb at hp
   have hw := Lib.w64_s hi (by omega : bd.length <= 9223372036854775807)
   simp only [l3, r3, Lib.dlt, Lib.dle0, Lib.toN, hi, decide_true, Bool.and_self, cond_true, hw]
   revert hp
   cases List.beq (ByteArray.toList (cvS (cellAt bd i 0))) (ByteArray.toList x.k) <;> cases decide (cvI (cellAt bd i 1) = x.fr) <;> cases List.beq (ByteArray.toList (cvS (cellAt bd i (1 + 1 + 1)))) (ByteArray.toList x.got) <;> cases decide (cvI (cellAt bd i (1 + 1)) > x.age) <;> intro hp <;> first | rfl | cases hp
  ·simp only [l3, r3, Lib.dlt, Nat.lt_irrefl, decide_false, cond_false]; rfl
 | false =>
  have h0 := of_decide_eq_false h0
  have hw : w64 (x.fe - 1) = (((x.fe - 1).toNat : Nat) : Int) := by rw [Lib.w64_ok (by omega) (by omega)]; omega
  have hi : (x.fe - 1).toNat < fe.length := by omega
  have hp := U242.ok
  rw [cond_false, cond_false]
  unfold A_Got.wt
  simp only [Lib.lt, U49.v, Lib.rf_len, decide_eq_true (show x.fe ≥ 1 by omega), decide_eq_true h2, Bool.not_true, cond_false, hw, Lib.dlt, hi, decide_true, Lib.dle0, Bool.and_self, cond_true, Lib.toN, wf0 hi, wf1 hi, wf2 hi, cvS, cvI, (hp _ _).1, (hp _ _).2]
  generalize List.beq (ByteArray.toList (Lib.el fe (x.fe - 1).toNat).k) (ByteArray.toList x.k) = u
  generalize List.beq (ByteArray.toList x.got) (ByteArray.toList (Lib.el fe (x.fe - 1).toNat).t) = u2
  generalize A_Got.bg _ _ = u3
  cases u <;> cases decide (x.sta = 1) <;> cases decide (x.sta = 2) <;> cases decide (x.sta = 3) <;> cases u2 <;> cases u3 <;> cases decide ((Lib.el fe (x.fe - 1).toNat).sta = 3) <;> rfl
end Go.FG.U199

namespace Go.FG.U114
open Lib (rf rc el wc0 wc1 wc2 wc3 wc4 wc5 wc6)
theorem ok (i0 : Int) (p1 p2 p3 p4 : Row) (i5 : Int) (fe : List Lib.Fe) (cl : List Lib.Cl) (i8 : Int) (p9 p10 bd : Row) (hc : ∀ i, i < cl.length -> 0 <= (el cl i).fe /\ (el cl i).fe <= fe.length) (hl : fe.length <= 1048576) (hcl : cl.length <= 1048576) (hbd : bd.length <= 1048576) : c i0 p1 p2 p3 p4 i5 (rf fe) (rc cl) i8 p9 p10 bd = true /\ v i0 p1 p2 p3 p4 i5 (rf fe) (rc cl) i8 p9 p10 bd = A_Got.gotR fe cl bd := by
 refine out _ _ _ _ _ _ _ _ _ _ _ _ ?_
 unfold vo b
 have hw : ∀ i, i < cl.length -> w64 ((i : Int) + 1) = ((i + 1 : Nat) : Int) := fun i h => Lib.w64_s h (by omega)
 have hk := fun i hi => U199.ok i0 p1 p2 p3 p4 i5 fe (rc cl) i8 p9 p10 bd (el cl i) (hc i hi).1 (hc i hi).2 hl hbd
 have key := Lib.all_gen (fun i => A_Got.gOk fe bd (el cl i)) cl.length (fun m (i : Nat) => l2 Lib.big (fun (y14 : Bool) (_ _ : Int) (_ _ _ _ : Row) (_ : Int) (_ _ : Row) (_ : Int) (_ _ _ : Row) => some y14) (fun (_ : Bool) (_ _ : Int) (_ _ _ _ : Row) (_ : Int) (_ _ : Row) (_ : Int) (_ _ _ : Row) => some true) m false (i : Int) i0 p1 p2 p3 p4 i5 (rf fe) (rc cl) i8 p9 p10 bd) (some false) (some true)
  (fun m i hi hp => by
   simp only [l2, r2, Lib.rc_len, Lib.dlt, hi, decide_true, Lib.dle0, Bool.and_self, cond_true, Lib.toN, wc0 hi, wc1 hi, wc2 hi, wc3 hi, wc4 hi, wc5 hi, wc6 hi, cvS, cvI, hw i hi, (hk i hi).1, (hk i hi).2, hp, Bool.not_true, cond_false])
  (fun m i hi hp => by
   simp only [l2, r2, Lib.rc_len, Lib.dlt, hi, decide_true, Lib.dle0, Bool.and_self, cond_true, Lib.toN, wc0 hi, wc1 hi, wc2 hi, wc3 hi, wc4 hi, wc5 hi, wc6 hi, cvS, cvI, hw i hi, (hk i hi).1, (hk i hi).2, hp, Bool.not_false])
  (fun m => by simp only [l2, r2, Lib.rc_len, Lib.dlt, Nat.lt_irrefl, decide_false, cond_false]) Lib.big (Lib.lt_big (by omega))
 refine key.trans ?_
 unfold A_Got.gotR
 cases (List.range cl.length).all fun i => A_Got.gOk fe bd (el cl i) <;> rfl
end Go.FG.U114

namespace Go.FG.U32
open Lib (rr rs re rf rc Px)
open A_Sound (qe sw cls)
theorem walk (K1 : Bool -> Int -> Int -> Row -> Row -> Row -> Row -> Int -> Row -> Row -> Int -> Row -> Row -> Row -> Row -> Option Bool) (p : Px) (d i10 bd L : Row) (hen : p.en.length <= 1048576) (hL : L.length <= 1048576) : l3 Lib.big (fun (y : Bool) (_ _ : Int) (_ _ _ _ : Row) (_ : Int) (_ _ : Row) (_ : Int) (_ _ _ _ : Row) => some y) K1 Lib.big false 0 p.now (re p.en) (rs p.w) (rs p.m) (rr p.s) p.a (rf p.fe) (rc p.cl) p.hits d i10 bd L = bif (List.range p.en.length).all (qe (re p.en) p.now L) then K1 false (p.en.length : Int) p.now (re p.en) (rs p.w) (rs p.m) (rr p.s) p.a (rf p.fe) (rc p.cl) p.hits d i10 bd L else some false := by
 have hw : ∀ i, i < p.en.length -> w64 ((i : Int) + 1) = ((i + 1 : Nat) : Int) := fun i h => Lib.w64_s h (by omega)
 have ho := fun k a l t => U112.ok L k a l t (by omega)
 exact Lib.all_gen (qe (re p.en) p.now L) p.en.length (fun m (i : Nat) => l3 Lib.big (fun (y : Bool) (_ _ : Int) (_ _ _ _ : Row) (_ : Int) (_ _ : Row) (_ : Int) (_ _ _ _ : Row) => some y) K1 m false (i : Int) p.now (re p.en) (rs p.w) (rs p.m) (rr p.s) p.a (rf p.fe) (rc p.cl) p.hits d i10 bd L) (some false) (K1 false (p.en.length : Int) p.now (re p.en) (rs p.w) (rs p.m) (rr p.s) p.a (rf p.fe) (rc p.cl) p.hits d i10 bd L)
  (fun m i hi hq => by
   unfold qe at hq
   simp only [l3, r3, Lib.re_len, Lib.dlt, hi, decide_true, Lib.dle0, Bool.and_self, cond_true, Lib.toN, (ho _ _ _ _).1, (ho _ _ _ _).2, hw i hi]
   revert hq
   generalize U52.v _ _ _ _ _ = u1
   generalize U112.val _ _ _ _ _ = u2
   cases u1 <;> cases u2 <;> intro hq <;> first | rfl | cases hq)
  (fun m i hi hq => by
   unfold qe at hq
   simp only [l3, r3, Lib.re_len, Lib.dlt, hi, decide_true, Lib.dle0, Bool.and_self, cond_true, Lib.toN, (ho _ _ _ _).1, (ho _ _ _ _).2, hw i hi]
   revert hq
   generalize U52.v _ _ _ _ _ = u1
   generalize U112.val _ _ _ _ _ = u2
   cases u1 <;> cases u2 <;> intro hq <;> first | rfl | cases hq)
  (fun m => by simp only [l3, r3, Lib.re_len, Lib.dlt, Nat.lt_irrefl, decide_false, cond_false]) Lib.big (Lib.lt_big (by omega))
theorem ok (p : Px) (d i10 bd L : Row) (hp : p.Fit 1048576) (hbd : bd.length <= 1048576) (hL : L.length <= 1048576) (hk : U111.c d = true /\ U111.v d = L) : c p.now (re p.en) (rs p.w) (rs p.m) (rr p.s) p.a (rf p.fe) (rc p.cl) p.hits d i10 bd = true /\ v p.now (re p.en) (rs p.w) (rs p.m) (rr p.s) p.a (rf p.fe) (rc p.cl) p.hits d i10 bd = sw p L bd := by
 refine out _ _ _ _ _ _ _ _ _ _ _ _ ?_
 have hen := hp.en
 have hfe := hp.fe
 have hcl := hp.cl
 unfold vo b
 rw [hk.1, hk.2, cond_true]
 refine (walk _ p d i10 bd L hen hL).trans ?_
 unfold sw
 cases (List.range p.en.length).all (qe (re p.en) p.now L) with
 | false => rfl
 | true =>
 rw [cond_true, Bool.true_and]
 have I1 := U43.ok p hp
 have I2 := U113.ok p.now (re p.en) (rs p.w) (rs p.m) (rr p.s) p.a (rf p.fe) (rc p.cl) p.hits (by rw [Lib.rf_len]; omega)
 dsimp only
 rw [I1.1, cond_true, I1.2]
 cases hok : U43.pxOk p with
 | false => rfl
 | true =>
 rw [cond_true, Bool.true_and, I2.1, cond_true, I2.2]
 cases A_OneEach.val (rf p.fe) with
 | false => rfl
 | true =>
 have I3 := U114.ok p.now (re p.en) (rs p.w) (rs p.m) (rr p.s) p.a p.fe p.cl p.hits d i10 bd (cls hok) hfe hcl hbd
 rw [cond_true, Bool.true_and, I3.1, cond_true, I3.2]
 cases A_Got.gotR p.fe p.cl bd with
 | false => rfl
 | true =>
 have I4 := U115.ok p.now (re p.en) (rs p.w) (rs p.m) (rr p.s) p.a (rf p.fe) (rc p.cl) p.hits d i10 bd (by rw [Lib.re_len]; omega) (by omega)
 rw [cond_true, Bool.true_and, I4.1, cond_true, I4.2]
end Go.FG.U32

namespace Go.FG.U205
theorem sym (s : Row) (k : ByteArray) (a l : Int) (t : ByteArray) (i : Nat) : (List.beq (ByteArray.toList k) (ByteArray.toList (cvS (cellAt s i 0))) && (decide (a = cvI (cellAt s i 1)) && (decide (l = cvI (cellAt s i (1 + 1))) && (List.beq (ByteArray.toList t) (ByteArray.toList (cvS (cellAt s i (1 + 1 + 1)))) && true)))) = U112.p s k a l t i := by
 have e : ∀ {α : Type} [DecidableEq α] (x y : α), decide (x = y) = decide (y = x) := fun x y => by rw [decide_eq_decide]; exact eq_comm
 unfold U112.p
 rw [Lib.beq_ba, Lib.beq_ba, Lib.beq_ba, Lib.beq_ba, e k, e t, e a, e l]
theorem ok (s : Row) (k : ByteArray) (a l : Int) (t : ByteArray) (hl : s.length <= 4294967296) : c s k a l t = true /\ v s k a l t = Lib.fi (U112.p s k a l t) s.length 0 := by
 refine out s k a l t ?_
 unfold vo b
 refine Lib.fi_gen (U112.p s k a l t) s.length (fun m (i : Nat) => l2 Lib.big (fun (_ : Row) (y9 _ _ : Int) (_ : ByteArray) (_ _ : Int) (_ : ByteArray) => some y9) (fun (_ : Row) (_ _ _ : Int) (_ : ByteArray) (_ _ : Int) (_ : ByteArray) => some (-1)) m s 0 (s.length : Int) (i : Int) k a l t) some (fun m i hi hp => ?_) (fun m i hi hp => ?_) (fun m => ?_) Lib.big (Lib.lt_big (by omega))
 ·rw [<- sym] at hp
  simp only [l2, r2, Lib.dlt, Lib.dle0, Lib.toN, hi, decide_true, Bool.and_self, cond_true]
  rw [hp, cond_true]
 ·rw [<- sym] at hp
  simp only [l2, r2, Lib.dlt, Lib.dle0, Lib.toN, hi, decide_true, Bool.and_self, cond_true]
  rw [hp, cond_false, Lib.w64_s hi (by omega : s.length <= 9223372036854775807)]
 ·simp only [l2, r2, Lib.dlt, Nat.lt_irrefl, decide_false, cond_false]
end Go.FG.U205

namespace Go.FG.U119
theorem ok (s : Row) (k : ByteArray) (a l : Int) (t : ByteArray) (hl : s.length <= 4294967296) : c s k a l t = true /\ v s k a l t = U112.val s k a l t := by
 have h := U205.ok s k a l t hl
 exact out s k a l t (by unfold vo b; rw [h.1, h.2, cond_true]; rfl)
end Go.FG.U119

namespace Go.FG.U169
open Lib (rr)
theorem in_dec (n a b : Int) : U63.v n a b = decide (a <= n /\ n <= b) := U147.in_dec n a b
theorem ok (s : List (List Int)) (a : Int) (hf : U168.fitS s) : c (rr s) a = true /\ v (rr s) a = U147.skOk s a := by
 refine out _ _ ?_
 unfold vo b
 have hl := hf.1
 rw [Lib.rr_len]
 have inner : ∀ i (h : i < s.length) (K0 K1 : Bool -> Row -> Row -> Int -> Int -> Row -> Int -> Int -> Row -> Int -> Option Bool) (kf kt : Option Bool) (x : Int)
   (h0 : ∀ j : Int, K0 false (Lib.ri s[i]) (rr s) s.length i (Lib.ri s[i]) x j (rr s) a = kf) (h1 : ∀ j : Int, K1 false (Lib.ri s[i]) (rr s) s.length i (Lib.ri s[i]) x j (rr s) a = kt), x = (s[i].length : Int) -> l5 Lib.big K0 K1 Lib.big false (Lib.ri s[i]) (rr s) s.length (i : Int) (Lib.ri s[i]) x 0 (rr s) a = bif (s[i]).all U147.nOk then kt else kf := fun i h K0 K1 kf kt x h0 h1 hx => by
  subst hx
  exact Lib.all_list (s[i]) U147.nOk (fun m (j : Nat) => l5 Lib.big K0 K1 m false (Lib.ri s[i]) (rr s) s.length (i : Int) (Lib.ri s[i]) s[i].length (j : Int) (rr s) a) kf kt
   (fun m j hj hp => by
    have hl := hf.2 _ (List.getElem_mem h)
    unfold U147.nOk at hp
    simp only [l5, r5, Lib.dlt, hj, decide_true, Lib.dle0, Bool.and_self, cond_true, Lib.toN, Lib.ri_len, Lib.ri0 hj, cvI, in_dec, hp, Bool.not_true, cond_false, Lib.w64_s hj (by omega : s[i].length <= 9223372036854775807)])
   (fun m j hj hp => by
    unfold U147.nOk at hp
    simp only [l5, r5, Lib.dlt, hj, decide_true, Lib.dle0, Bool.and_self, cond_true, Lib.toN, Lib.ri_len, Lib.ri0 hj, cvI, in_dec, hp, Bool.not_false, h0])
   (fun m => by simp only [l5, r5, Lib.dlt, Nat.lt_irrefl, decide_false, cond_false, h1]) Lib.big (Lib.lt_big (by have := hf.2 _ (List.getElem_mem h); omega))
 have ro : ∀ q : List Int, U147.rowOk q = (q.all U147.nOk && decide (q.length = 16)) := fun q => Bool.and_comm ..
 have key := Lib.all_list s U147.rowOk (fun m (i : Nat) => l2 Lib.big (fun (y36 : Bool) (_ : Row) (_ _ : Int) (_ : Row) (_ : Int) => some y36) (fun (_ : Bool) (_ : Row) (_ _ : Int) (y46 : Row) (y47 : Int) => bif (decide ((↑(List.length y46) : Int) = 3)) then (some (U63.v y47 0 63)) else (some false)) m false (rr s) s.length (i : Int) (rr s) a) (some false) (some (decide (s.length = 3) && decide (0 <= a /\ a <= 63)))
  (fun m i h hp => by
   rw [ro, Bool.and_eq_true] at hp
   have h16 := of_decide_eq_true hp.2
   simp only [l2, r2, Lib.rr_len, Lib.dlt, h, decide_true, Lib.dle0, Bool.and_self, cond_true, Lib.toN, Lib.rr0 h, cvL, Lib.ri_len]
   rw [inner i h _ _ (some false) _ _ (fun _ => rfl) (fun _ => rfl) rfl, hp.1, cond_true, Lib.ri_len, h16, show (((16 : Nat) : Int) != 16) = false from rfl, cond_false, Lib.w64_s h (by omega)])
  (fun m i h hp => by
   rw [ro] at hp
   simp only [l2, r2, Lib.rr_len, Lib.dlt, h, decide_true, Lib.dle0, Bool.and_self, cond_true, Lib.toN, Lib.rr0 h, cvL, Lib.ri_len]
   rw [inner i h _ _ (some false) _ _ (fun _ => rfl) (fun _ => rfl) rfl]
   cases ha : (s[i]).all U147.nOk with
   | false => rfl
   | true =>
    rw [ha, Bool.true_and] at hp
    have := of_decide_eq_false hp
    rw [cond_true, Lib.ri_len, show ((s[i].length : Int) != 16) = true by simp; omega, cond_true])
  (fun m => by
   simp only [l2, r2, Lib.rr_len, Lib.dlt, Nat.lt_irrefl, decide_false, cond_false, in_dec]
   rw [show decide ((s.length : Int) = 3) = decide (s.length = 3) by rw [decide_eq_decide]; omega]
   cases decide (s.length = 3) <;> rfl) Lib.big (Lib.lt_big (by omega))
 refine key.trans ?_
 unfold U147.skOk
 cases s.all U147.rowOk <;> cases decide (s.length = 3) <;> cases decide (0 <= a /\ a <= 63) <;> rfl
end Go.FG.U169

namespace Go.FG.U261
theorem ok (n : Int) (h0 : 0 <= n) (h1 : n <= 4294967296) : c n = true /\ v n = [] := by
 refine out n ?_
 unfold vo b
 have e : w64 (n - w64 (0 - 0)) = n := by
  rw [show w64 (0 - 0) = 0 from rfl, Int.sub_zero, Lib.w64_ok (by omega) (by omega)]
 rw [e, decide_eq_false (show ¬ n < 0 by omega), cond_false]
 by_cases hn : n > 0
 ·rw [decide_eq_true hn, cond_true, decide_eq_true h0, decide_eq_true (show n <= 9223372036854775807 by omega), Lib.roomy_of (by simp; omega) (by simp; omega)]
  simp [view]
 ·rw [decide_eq_false hn, cond_false]
end Go.FG.U261

namespace Go.FG.U233
theorem ok (p q : Row) (hp : p.length <= 1048576) (hq : q.length <= 1048576) : c [[CV.l 9 p], [CV.l 9 q]] = true /\ v [[CV.l 9 p], [CV.l 9 q]] = p ++ q := by
 refine out _ ?_
 have w1 : w64 (0 + (p.length : Int)) = (p.length : Int) := by rw [Int.zero_add]; exact Lib.w64_ok (by omega) (by omega)
 have w2 : w64 ((p.length : Int) + (q.length : Int)) = (p.length : Int) + (q.length : Int) := Lib.w64_ok (by omega) (by omega)
 have hg := U261.ok ((p.length : Int) + (q.length : Int)) (by omega) (by omega)
 have d1 : decide ((p.length : Int) < 0) = false := decide_eq_false (by omega)
 have d2 : decide ((p.length : Int) + (q.length : Int) < 0) = false := decide_eq_false (by omega)
 have g1 : roomy (0 + p.length) 16 = true := Lib.roomy_of (by omega) (by omega)
 have g2 : roomy (p.length + q.length) 16 = true := Lib.roomy_of (by omega) (by omega)
 have c0 : cvL (cellAt [[CV.l 9 p], [CV.l 9 q]] 0 0) = p := rfl
 have c1 : cvL (cellAt [[CV.l 9 p], [CV.l 9 q]] 1 0) = q := rfl
 unfold vo b
 obtain ⟨n, hn⟩ : ∃ n, Lib.big = n + 3 := ⟨18446744073709551613, rfl⟩
 generalize Lib.big = B at hn ⊢
 subst hn
 have k3 : ∀ (R : Type) (K : Row -> Int -> Row -> Int -> Int -> Option R) (S : Row), S = [[CV.l 9 p], [CV.l 9 q]] -> l3 (n + 3) K (n + 3) S 0 S 2 0 = K S ((p.length : Int) + (q.length : Int)) S 2 2 := by
  intro R K S hS
  subst hS
  simp only [l3, r3, List.length_cons, List.length_nil, show Int.toNat 0 = 0 from rfl, c0, w1, d1, show w64 (0 + 1) = 1 from rfl, show Int.toNat 1 = 1 from rfl, c1, w2, d2, show w64 (1 + 1) = 2 from rfl, cond_false, show decide ((0 : Int) < 2) = true from rfl, show decide ((1 : Int) < 2) = true from rfl, show decide ((2 : Int) < 2) = false from rfl, show decide ((0 : Int) <= 0) = true from rfl, show decide ((0 : Int) <= 1) = true from rfl, show ((0 + 1 + 1 : Nat) : Int) = 2 from rfl, Bool.and_self, cond_true]
 have k11 : ∀ (R : Type) (K : Row -> Int -> Int -> Row -> Option R) (S : Row), S = [[CV.l 9 p], [CV.l 9 q]] -> l11 (n + 3) K (n + 3) S 2 0 [] = K S 2 2 (p ++ q) := by
  intro R K S hS
  subst hS
  simp only [l11, r11, List.length_cons, List.length_nil, show Int.toNat 0 = 0 from rfl, c0, g1, show w64 (0 + 1) = 1 from rfl, show Int.toNat 1 = 1 from rfl, c1, List.nil_append, g2, show w64 (1 + 1) = 2 from rfl, cond_false, show decide ((0 : Int) < 2) = true from rfl, show decide ((1 : Int) < 2) = true from rfl, show decide ((2 : Int) < 2) = false from rfl, show decide ((0 : Int) <= 0) = true from rfl, show decide ((0 : Int) <= 1) = true from rfl, show ((0 + 1 + 1 : Nat) : Int) = 2 from rfl, Bool.and_self, cond_true]
 show l3 (n + 3) _ (n + 3) _ 0 _ 2 0 = _
 rw [k3 _ _ _ rfl, hg.1, hg.2, cond_true]
 exact k11 _ _ _ rfl
end Go.FG.U233

namespace Go.FG.U188
theorem ok (w m : List ByteArray) (s : Row) (a : Int) (hw : w.length <= 1048576) (hm : m.length <= 1048576) : c (Lib.rs w) (Lib.rs m) s a = true /\ v (Lib.rs w) (Lib.rs m) s a = Lib.rs (w ++ m) := by
 have h := U233.ok (Lib.rs w) (Lib.rs m) (by rw [Lib.rs_len]; exact hw) (by rw [Lib.rs_len]; exact hm)
 have e : List.set (List.set (zeros [Ck.l 9] 2) 0 [CV.l 9 (Lib.rs w)]) 1 [CV.l 9 (Lib.rs m)] = [[CV.l 9 (Lib.rs w)], [CV.l 9 (Lib.rs m)]] := rfl
 have e2 : Lib.rs w ++ Lib.rs m = Lib.rs (w ++ m) := by unfold Lib.rs; rw [List.map_append]
 exact out _ _ _ _ (by unfold vo b; rw [e, h.1, h.2, cond_true, e2])
end Go.FG.U188

namespace Go.FG.U218
theorem ok (l : List ByteArray) (k : ByteArray) (hl : l.length <= 4294967296) : c (Lib.rs l) k = true /\ decide (v (Lib.rs l) k ≥ 0) = U143.has l k := by
 have h := out (Lib.rs l) k (x := Lib.fi (fun i => decide ((l.getD i ⟨#[]⟩) = k)) l.length 0) (by
  unfold vo b
  rw [Lib.rs_len]
  refine Lib.fi_gen (fun i => decide ((l.getD i ⟨#[]⟩) = k)) l.length (fun m (i : Nat) => l2 Lib.big (fun (_ : Row) (_ : ByteArray) (y7 _ _ : Int) => some y7) (fun (_ : Row) (_ : ByteArray) (_ _ _ : Int) => some (-1)) m (Lib.rs l) k 0 (l.length : Int) (i : Int)) some (fun m i hi hp => ?_) (fun m i hi hp => ?_) (fun m => ?_) Lib.big (Lib.lt_big (by omega))
  ·have hg : l.getD i ⟨#[]⟩ = l[i] := by simp [List.getD, hi]
   rw [hg] at hp
   have hp' : decide (k = l[i]) = true := by rw [<- hp, decide_eq_decide]; exact eq_comm
   simp only [l2, r2, Lib.rs_len, Lib.dlt, hi, decide_true, Lib.dle0, Bool.and_self, cond_true, Lib.toN, Lib.rs0 hi, cvS, Lib.beq_ba, hp']
  ·have hg : l.getD i ⟨#[]⟩ = l[i] := by simp [List.getD, hi]
   rw [hg] at hp
   have hp' : decide (k = l[i]) = false := by rw [<- hp, decide_eq_decide]; exact eq_comm
   simp only [l2, r2, Lib.rs_len, Lib.dlt, hi, decide_true, Lib.dle0, Bool.and_self, cond_true, Lib.toN, Lib.rs0 hi, cvS, Lib.beq_ba, hp', cond_false, Lib.w64_s hi (by omega : l.length <= 9223372036854775807)]
  ·simp only [l2, r2, Lib.dlt, Nat.lt_irrefl, decide_false, cond_false])
 refine ⟨h.1, ?_⟩
 rw [h.2]
 exact Lib.fi_any l (fun x => decide (x = k)) _ (fun i hi => by simp [List.getD, hi])
end Go.FG.U218

namespace Go.FG.U160
theorem ok (l : List ByteArray) (k : ByteArray) (hl : l.length <= 4294967296) : c (Lib.rs l) k = true /\ v (Lib.rs l) k = U143.has l k := by
 have h := U218.ok l k hl
 exact out _ _ (by unfold vo b; rw [h.1, h.2, cond_true])
end Go.FG.U160

namespace Go.FG.U159
open Lib (rr rs)
open U143 (has without has_iff has_no)
open U142 (keyOk kOk keysOk pOk view_rs)
theorem key_dec (k : ByteArray) : U64.v k = keyOk k := U147.in_dec _ _ _
theorem ok (w m : List ByteArray) (s : List (List Int)) (a : Int) (hw : w.length <= 1048576) (hm : m.length <= 1048576) (hf : U168.fitS s) : c (rs w) (rs m) (rr s) a = true /\ v (rs w) (rs m) (rr s) a = pOk w m s a := by
 refine out _ _ _ _ ?_
 have h2 := U169.ok s a hf
 have h3 := U188.ok w m (rr s) a hw hm
 unfold vo b
 rw [h3.1, h3.2, cond_true, Lib.rs_len]
 have hl : (w ++ m).length <= 2097152 := by rw [List.length_append]; omega
 have hin : ∀ i, i < (w ++ m).length -> U160.c (rs ((w ++ m).take i)) ((w ++ m).getD i ⟨#[]⟩) = true /\ U160.v (rs ((w ++ m).take i)) ((w ++ m).getD i ⟨#[]⟩) = has ((w ++ m).take i) ((w ++ m).getD i ⟨#[]⟩) := fun i hi => U160.ok _ _ (by rw [List.length_take]; omega)
 have hk : ∀ i (hi : i < (w ++ m).length), cvS (cellAt (rs (w ++ m)) i 0) = (w ++ m).getD i ⟨#[]⟩ := fun i hi => by rw [Lib.rs0 hi, show (w ++ m).getD i ⟨#[]⟩ = (w ++ m)[i] by rw [List.getD_eq_getElem?_getD, List.getElem?_eq_getElem hi]; rfl]; rfl
 generalize hL : w ++ m = L at hl hin hk
 have key := Lib.all_gen (kOk L) L.length (fun n (i : Nat) => l3 Lib.big (fun (y8 : Bool) (_ _ : Int) (_ _ _ : Row) (_ : Int) (_ : Row) => some y8) (fun (_ : Bool) (_ _ : Int) (y19 y20 y21 : Row) (y22 : Int) (_ : Row) => bif (decide ((↑(List.length y19) : Int) <= 2)) then (bif (decide ((↑(List.length y20) : Int) <= 4)) then (bif (U169.c y21 y22) then (some (U169.v y21 y22)) else (none)) else (some false)) else (some false)) n false (L.length : Int) (i : Int) (rs w) (rs m) (rr s) a (rs L)) (some false) (some (decide (w.length <= 2) && (decide (m.length <= 4) && U147.skOk s a)))
  (fun n i hi hp => by
   unfold kOk at hp
   rw [Bool.and_eq_true, Bool.not_eq_true'] at hp
   have b1 : inB 0 (i : Int) (L.length : Int) = true := by simp [inB]; omega
   simp only [l3, r3, Lib.rs_len, Lib.dlt, hi, decide_true, Lib.dle0, Bool.and_self, cond_true, Lib.toN, hk i hi, key_dec, hp.1, Bool.not_true, cond_false, b1, view_rs, (hin i hi).1, (hin i hi).2, hp.2, Lib.w64_s hi (by omega : L.length <= 9223372036854775807)])
  (fun n i hi hp => by
   have b1 : inB 0 (i : Int) (L.length : Int) = true := by simp [inB]; omega
   unfold kOk at hp
   cases h1 : keyOk (L.getD i ⟨#[]⟩) with
   | false => simp only [l3, r3, Lib.rs_len, Lib.dlt, hi, decide_true, Lib.dle0, Bool.and_self, cond_true, Lib.toN, hk i hi, key_dec, h1, Bool.not_false]
   | true =>
    rw [h1, Bool.true_and, Bool.not_eq_false'] at hp
    simp only [l3, r3, Lib.rs_len, Lib.dlt, hi, decide_true, Lib.dle0, Bool.and_self, cond_true, Lib.toN, hk i hi, key_dec, h1, Bool.not_true, cond_false, b1, view_rs, (hin i hi).1, (hin i hi).2, hp])
  (fun n => by
   simp only [l3, r3, Lib.rs_len, Lib.dlt, Nat.lt_irrefl, decide_false, cond_false, h2.1, h2.2, cond_true]
   rw [show decide ((w.length : Int) <= 2) = decide (w.length <= 2) by rw [decide_eq_decide]; omega, show decide ((m.length : Int) <= 4) = decide (m.length <= 4) by rw [decide_eq_decide]; omega]
   cases decide (w.length <= 2) <;> cases decide (m.length <= 4) <;> rfl) Lib.big (Lib.lt_big (by omega))
 refine key.trans ?_
 unfold pOk keysOk
 rw [hL]
 cases (List.range L.length).all (kOk L) <;> rfl
end Go.FG.U159

namespace Go.FG.U187
open Lib (rr rs)
open U143 (has)
theorem has_app (w m : List ByteArray) (k : ByteArray) : has (w ++ m) k = (has w k || has m k) := by unfold has; rw [List.any_append]
theorem ok (w m : List ByteArray) (s : Row) (a : Int) (k : ByteArray) (hw : w.length <= 1048576) (hm : m.length <= 1048576) : c (rs w) (rs m) s a k = true /\ v (rs w) (rs m) s a k = (has w k || has m k) := by
 have h1 := U188.ok w m s a hw hm
 have h2 := U160.ok (w ++ m) k (by rw [List.length_append]; omega)
 exact out _ _ _ _ _ (by unfold vo b; rw [h1.1, h1.2, h2.1, h2.2, cond_true, cond_true, has_app])
end Go.FG.U187

namespace Go.FG.U97
open Lib (rr rs re el we0 we1 we2 we3 En)
open U143 (has)
open U142 (pOk)
open U133 (eAt eOk enOk)
theorem en_eq (k : ByteArray) (s l : Int) (b : ByteArray) : U158.v k s l b = U141.v k s l b := rfl
theorem ok (i0 : Int) (en : List En) (w m : List ByteArray) (s : List (List Int)) (a : Int) (r6 r7 : Row) (i8 : Int) (he : en.length <= 1048576) (hw : w.length <= 1048576) (hm : m.length <= 1048576) (hf : U168.fitS s) :
  c i0 (re en) (rs w) (rs m) (rr s) a r6 r7 i8 = true /\ v i0 (re en) (rs w) (rs m) (rr s) a r6 r7 i8 = eOk en w m s a := by
 refine out _ _ _ _ _ _ _ _ _ ?_
 have h1 := U159.ok w m s a hw hm hf
 have h2 := fun k => U187.ok w m (rr s) a k hw hm
 have h3 := U188.ok w m (rr s) a hw hm
 unfold vo b
 rw [Lib.re_len]
 have key := Lib.all_gen (eAt en w m) en.length (fun n (i : Nat) => l2 Lib.big (fun (y13 : Bool) (_ : Row) (_ _ _ : Int) (_ _ _ _ : Row) (_ : Int) (_ _ : Row) (_ : Int) => some y13) (fun (_ : Bool) (_ : Row) (_ _ _ : Int) (y31 y32 y33 y34 : Row) (y35 : Int) (_ _ : Row) (_ : Int) => bif (U159.c y32 y33 y34 y35) then (bif (U159.v y32 y33 y34 y35) then (bif (U188.c y32 y33 y34 y35) then (some (decide ((↑(List.length (U188.v y32 y33 y34 y35)) : Int) = (↑(List.length y31) : Int)))) else (none)) else (some false)) else (none)) n false (re en) (en.length : Int) (i : Int) i0 (re en) (rs w) (rs m) (rr s) a r6 r7 i8) (some false) (some (pOk w m s a && decide (w.length + m.length = en.length)))
  (fun n i hi hp => by
   unfold eAt enOk at hp
   rw [Bool.and_eq_true, Bool.and_eq_true] at hp
   obtain ⟨p1, p2, p3⟩ := hp
   by_cases hz : i = 0
   ·subst hz
    simp only [l2, r2, Lib.re_len, Lib.dlt, hi, decide_true, Lib.dle0, Bool.and_self, cond_true, Lib.toN, we0 hi, we1 hi, we2 hi, we3 hi, cvS, cvI, en_eq, p1, Bool.not_true, cond_false, decide_eq_false (show ¬ (((0 : Nat) : Int) > 0) by omega), (h2 _).1, (h2 _).2, p3, Lib.w64_s hi (by omega : en.length <= 9223372036854775807)]
   ·rw [decide_eq_false hz, Bool.false_or] at p2
    have hi1 : i - 1 < en.length := by omega
    simp only [l2, r2, Lib.re_len, Lib.dlt, hi, decide_true, Lib.dle0, Bool.and_self, cond_true, Lib.toN, we0 hi, we1 hi, we2 hi, we3 hi, cvS, cvI, en_eq, p1, Bool.not_true, cond_false, decide_eq_true (show (i : Int) > 0 by omega), Lib.pred_nat (show 0 < i by omega) (by omega), hi1, we0 hi1, p2, (h2 _).1, (h2 _).2, p3, Lib.w64_s hi (by omega : en.length <= 9223372036854775807)])
  (fun n i hi hp => by
   unfold eAt enOk at hp
   cases p1 : U141.v (el en i).k (el en i).st (el en i).li (el en i).bo with
   | false => simp only [l2, r2, Lib.re_len, Lib.dlt, hi, decide_true, Lib.dle0, Bool.and_self, cond_true, Lib.toN, we0 hi, we1 hi, we2 hi, we3 hi, cvS, cvI, en_eq, p1, Bool.not_false]
   | true =>
    rw [p1, Bool.true_and] at hp
    by_cases hz : i = 0
    ·subst hz
     rw [decide_eq_true rfl, Bool.true_or, Bool.true_and] at hp
     simp only [l2, r2, Lib.re_len, Lib.dlt, hi, decide_true, Lib.dle0, Bool.and_self, cond_true, Lib.toN, we0 hi, we1 hi, we2 hi, we3 hi, cvS, cvI, en_eq, p1, Bool.not_true, Bool.not_false, cond_false, decide_eq_false (show ¬ (((0 : Nat) : Int) > 0) by omega), (h2 _).1, (h2 _).2, hp]
    ·rw [decide_eq_false hz, Bool.false_or] at hp
     have hi1 : i - 1 < en.length := by omega
     cases p2 : Go.Op.bytesLess (ByteArray.toList (el en (i - 1)).k) (ByteArray.toList (el en i).k) with
     | false => simp only [l2, r2, Lib.re_len, Lib.dlt, hi, decide_true, Lib.dle0, Bool.and_self, cond_true, Lib.toN, we0 hi, we1 hi, we2 hi, we3 hi, cvS, cvI, en_eq, p1, Bool.not_true, Bool.not_false, cond_false, decide_eq_true (show (i : Int) > 0 by omega), Lib.pred_nat (show 0 < i by omega) (by omega), hi1, we0 hi1, p2]
     | true =>
      rw [p2, Bool.true_and] at hp
      simp only [l2, r2, Lib.re_len, Lib.dlt, hi, decide_true, Lib.dle0, Bool.and_self, cond_true, Lib.toN, we0 hi, we1 hi, we2 hi, we3 hi, cvS, cvI, en_eq, p1, Bool.not_true, Bool.not_false, cond_false, decide_eq_true (show (i : Int) > 0 by omega), Lib.pred_nat (show 0 < i by omega) (by omega), hi1, we0 hi1, p2, (h2 _).1, (h2 _).2, hp])
  (fun n => by
   simp only [l2, r2, Lib.dlt, Nat.lt_irrefl, decide_false, cond_false, h1.1, h1.2, h3.1, h3.2, cond_true, Lib.rs_len, Lib.re_len, List.length_append]
   rw [show decide (((w.length + m.length : Nat) : Int) = (en.length : Int)) = decide (w.length + m.length = en.length) by rw [decide_eq_decide]; omega]
   cases pOk w m s a <;> rfl) Lib.big (Lib.lt_big (by omega))
 refine key.trans ?_
 unfold eOk
 cases (List.range en.length).all (eAt en w m) <;> rfl
end Go.FG.U97

namespace Go.FG.U164
def p (s0 : Row) (key1 : ByteArray) (i : Nat) : Bool := U165.v (cvS (cellAt s0 i 0)) (cvS (cellAt s0 i 1)) (cvI (cellAt s0 i (1 + 1))) (cvI (cellAt s0 i (1 + 1 + 1))) (cvI (cellAt s0 i (1 + 1 + 1 + 1))) key1
theorem ok (s0 : Row) (key1 : ByteArray) (hl : s0.length <= 4294967296) : c s0 key1 = true /\ v s0 key1 = Lib.fi (p s0 key1) s0.length 0 := by
 refine out s0 key1 ?_
 unfold vo b
 refine Lib.fi_gen (p s0 key1) s0.length (fun m (i : Nat) => l2 Lib.big (fun (_ : Row) (_ : ByteArray) (y7 _ _ : Int) => some y7) (fun (_ : Row) (_ : ByteArray) (_ _ _ : Int) => some (-1)) m s0 key1 0 (s0.length : Int) (i : Int)) some (fun m i hi hp => ?_) (fun m i hi hp => ?_) (fun m => ?_) Lib.big (Lib.lt_big (by omega))
 ·unfold p at hp
  simp only [l2, r2, Lib.dlt, Lib.dle0, Lib.toN, hi, decide_true, Bool.and_self, cond_true, hp]
 ·unfold p at hp
  simp only [l2, r2, Lib.dlt, Lib.dle0, Lib.toN, hi, decide_true, Bool.and_self, cond_true, hp, cond_false, Lib.w64_s hi (by omega : s0.length <= 9223372036854775807)]
 ·simp only [l2, r2, Lib.dlt, Nat.lt_irrefl, decide_false, cond_false]
end Go.FG.U164

namespace Go.FG.U71
theorem ok (i0 : Int) (r1 r2 r3 r4 : Row) (i5 : Int) (r6 r7 : Row) (i8 : Int) (key : ByteArray) (hl : r6.length <= 4294967296) : c i0 r1 r2 r3 r4 i5 r6 r7 i8 key = true /\ v i0 r1 r2 r3 r4 i5 r6 r7 i8 key = Lib.fi (U164.p r6 key) r6.length 0 := by
 have h := U164.ok r6 key hl
 exact out _ _ _ _ _ _ _ _ _ _ (by unfold vo b; rw [h.1, h.2, cond_true])
end Go.FG.U71

namespace Go.FG.U120
def q (r : Row) (i : Nat) : Bool := !(A_OneEach.op r i && (Lib.fi (U164.p r (cvS (cellAt r i 0))) r.length 0 != (i : Int)))
theorem same (r : Row) (i : Nat) (hi : i < r.length) : q r i = (List.range i).all (A_OneEach.g r i) := by
 unfold q
 cases ho : A_OneEach.op r i with
 | false =>
  symm
  rw [Bool.false_and, Bool.not_false, List.all_eq_true]
  intro j _
  unfold A_OneEach.g
  rw [ho]; rfl
 | true =>
  rw [Bool.true_and]
  have hp : ∀ j, U164.p r (cvS (cellAt r i 0)) j = !A_OneEach.g r i j := by
   intro j
   unfold U164.p U165.v A_OneEach.g
   rw [ho, Bool.true_and, Bool.not_not, Lib.beq_ba, Lib.beq_ba]
   unfold A_OneEach.op
   rw [show decide (cvS (cellAt r j 0) = cvS (cellAt r i 0)) = decide (cvS (cellAt r i 0) = cvS (cellAt r j 0)) from by rw [decide_eq_decide]; exact eq_comm]
   cases decide (cvS (cellAt r i 0) = cvS (cellAt r j 0)) <;> simp
  have hpi : U164.p r (cvS (cellAt r i 0)) i = true := by
   rw [hp]
   unfold A_OneEach.g
   rw [ho, Lib.beq_ba]; simp
  rcases Lib.fi_rng (U164.p r (cvS (cellAt r i 0))) r.length 0 with ⟨_, h2⟩ | ⟨k, h1, h2, h3, h4, h5⟩
  ·have := h2 i (Nat.zero_le _) (by omega)
   rw [hpi] at this; cases this
  ·rw [h3]
   by_cases hk : k = i
   ·subst hk
    rw [bne_self_eq_false, Bool.not_false]
    symm
    rw [List.all_eq_true]
    intro j hj
    have := h5 j (Nat.zero_le _) (by simpa using hj)
    rw [hp] at this; simpa using this
   ·have hlt : k < i := by
     rcases Nat.lt_or_ge k i with h | h
     ·exact h
     ·have := h5 i (Nat.zero_le _) (by omega)
      rw [hpi] at this; cases this
    rw [show ((k : Int) != (i : Int)) = true from by simp; omega, Bool.not_true]
    symm
    rw [List.all_eq_false]
    refine ⟨k, by simpa using hlt, ?_⟩
    rw [hp] at h4
    simpa using h4
theorem ok (i0 : Int) (p1 p2 p3 p4 : Row) (i5 : Int) (p6 p7 : Row) (i8 : Int) (hl : p6.length <= 4294967296) : c i0 p1 p2 p3 p4 i5 p6 p7 i8 = true /\ v i0 p1 p2 p3 p4 i5 p6 p7 i8 = A_OneEach.val p6 := by
 refine out _ _ _ _ _ _ _ _ _ ?_
 unfold vo b
 have hw : ∀ i, i < p6.length -> w64 ((i : Int) + 1) = ((i + 1 : Nat) : Int) := fun i h => Lib.w64_s h (by omega)
 have ho := fun key => U71.ok i0 p1 p2 p3 p4 i5 p6 p7 i8 key hl
 have key := Lib.all_gen (q p6) p6.length (fun m (i : Nat) => l2 Lib.big (fun (y13 : Bool) (_ : Row) (_ _ _ : Int) (_ _ _ _ : Row) (_ : Int) (_ _ : Row) (_ : Int) => some y13) (fun (_ : Bool) (_ : Row) (_ _ _ : Int) (_ _ _ _ : Row) (_ : Int) (_ _ : Row) (_ : Int) => some true) m false p6 (p6.length : Int) (i : Int) i0 p1 p2 p3 p4 i5 p6 p7 i8) (some false) (some true)
  (fun m i hi hp => by
   unfold q A_OneEach.op at hp
   cases e1 : decide (cvI (cellAt p6 i (1 + 1)) = 1) with
   | false => simp only [l2, r2, Lib.dlt, hi, decide_true, Lib.dle0, Bool.and_self, cond_true, Lib.toN, e1, cond_false, hw i hi]
   | true =>
    rw [show decide (cvI (cellAt p6 i 2) = 1) = true from e1, Bool.true_and, Bool.not_eq_true'] at hp
    simp only [l2, r2, Lib.dlt, hi, decide_true, Lib.dle0, Bool.and_self, cond_true, Lib.toN, e1, (ho _).1, (ho _).2, hp, cond_false, hw i hi])
  (fun m i hi hp => by
   unfold q A_OneEach.op at hp
   rw [Bool.not_eq_false', Bool.and_eq_true] at hp
   obtain ⟨e1, e2⟩ := hp
   have e1 : decide (cvI (cellAt p6 i (1 + 1)) = 1) = true := e1
   simp only [l2, r2, Lib.dlt, hi, decide_true, Lib.dle0, Bool.and_self, cond_true, Lib.toN, e1, (ho _).1, (ho _).2, e2])
  (fun m => by simp only [l2, r2, Lib.dlt, Nat.lt_irrefl, decide_false, cond_false]) Lib.big (Lib.lt_big (by omega))
 refine key.trans ?_
 rw [Lib.all_congr (fun i hi => same p6 i hi)]
 unfold A_OneEach.val
 cases (List.range p6.length).all fun i => (List.range i).all (A_OneEach.g p6 i) <;> rfl
end Go.FG.U120

namespace Go.FG.U98
open Lib (rf el Fe wf0 wf1 wf2 wf2' wf3 wf4)
open U134 (fOk apart sameO)
theorem in_dec (n a b : Int) : U63.v n a b = decide (a <= n /\ n <= b) := U147.in_dec n a b
theorem one (fe : List Fe) : A_OneEach.val (rf fe) = (List.range fe.length).all (apart fe) := by
 unfold A_OneEach.val
 rw [Lib.rf_len]
 refine Lib.all_congr (fun i hi => ?_)
 unfold apart
 refine Lib.all_congr (fun j hj => ?_)
 have hjl : j < fe.length := by omega
 unfold A_OneEach.g A_OneEach.op sameO
 rw [wf0 hi, wf0 hjl, wf2' hi, wf2' hjl]
 simp only [cvS, cvI, Lib.beq_ba]
 rfl
theorem ok (i0 : Int) (u1 u2 u3 u4 : Row) (i5 : Int) (fe : List Fe) (u7 : Row) (i8 : Int) (hf : fe.length <= 1048576) :
  c i0 u1 u2 u3 u4 i5 (rf fe) u7 i8 = true /\ v i0 u1 u2 u3 u4 i5 (rf fe) u7 i8 = ((List.range fe.length).all (fun i => fOk i0 (el fe i)) && (decide (fe.length <= 20) && (List.range fe.length).all (apart fe))) := by
 refine out _ _ _ _ _ _ _ _ _ ?_
 have h1 := U120.ok i0 u1 u2 u3 u4 i5 (rf fe) u7 i8 (by rw [Lib.rf_len]; omega)
 rw [one] at h1
 unfold vo b
 rw [Lib.rf_len]
 have key := Lib.all_gen (fun i => fOk i0 (el fe i)) fe.length (fun n (i : Nat) => l2 Lib.big (fun (y13 : Bool) (_ : Row) (_ _ _ : Int) (_ _ _ _ : Row) (_ : Int) (_ _ : Row) (_ : Int) => some y13) (fun (_ : Bool) (_ : Row) (_ _ y30 : Int) (y31 y32 y33 y34 : Row) (y35 : Int) (y36 y37 : Row) (y38 : Int) => bif (decide ((↑(List.length y36) : Int) <= 20)) then (bif (U120.c y30 y31 y32 y33 y34 y35 y36 y37 y38) then (some (U120.v y30 y31 y32 y33 y34 y35 y36 y37 y38)) else (none)) else (some false)) n false (rf fe) (fe.length : Int) (i : Int) i0 u1 u2 u3 u4 i5 (rf fe) u7 i8) (some false) (some (decide (fe.length <= 20) && (List.range fe.length).all (apart fe)))
  (fun n i hi hq => by
   unfold fOk at hq
   simp only [Bool.and_eq_true] at hq
   obtain ⟨q1, q2, q3, q4, q5⟩ := hq
   have e1 : decide (((el fe i).t.size : Int) > 400) = !decide (((el fe i).t.size : Int) <= 400) := by rw [<- decide_not, decide_eq_decide]; omega
   simp only [l2, r2, Lib.rf_len, Lib.dlt, hi, decide_true, Lib.dle0, Bool.and_self, cond_true, Lib.toN, wf0 hi, wf1 hi, wf2 hi, wf3 hi, wf4 hi, cvS, cvI, in_dec, U159.key_dec, e1, q1, q2, q3, q4, q5, Bool.not_true, cond_false, Lib.w64_s hi (by omega : fe.length <= 9223372036854775807)])
  (fun n i hi hq => by
   unfold fOk at hq
   have e1 : decide (((el fe i).t.size : Int) > 400) = !decide (((el fe i).t.size : Int) <= 400) := by rw [<- decide_not, decide_eq_decide]; omega
   simp only [l2, r2, Lib.rf_len, Lib.dlt, hi, decide_true, Lib.dle0, Bool.and_self, cond_true, Lib.toN, wf0 hi, wf1 hi, wf2 hi, wf3 hi, wf4 hi, cvS, cvI, in_dec, U159.key_dec, e1]
   revert hq
   cases U142.keyOk (el fe i).k <;> cases decide (((el fe i).t.size : Int) <= 400) <;> cases decide (1 <= (el fe i).sta /\ (el fe i).sta <= 3) <;> cases decide (0 <= (el fe i).li /\ (el fe i).li <= 999999) <;> cases decide (0 <= (el fe i).st /\ (el fe i).st <= i0) <;> intro hq <;> first | rfl | cases hq)
  (fun n => by
   simp only [l2, r2, Lib.dlt, Nat.lt_irrefl, decide_false, cond_false, Lib.rf_len, h1.1, h1.2, cond_true]
   rw [show decide ((fe.length : Int) <= 20) = decide (fe.length <= 20) by rw [decide_eq_decide]; omega]
   cases decide (fe.length <= 20) <;> rfl) Lib.big (Lib.lt_big (by omega))
 refine key.trans ?_
 cases (List.range fe.length).all (fun i => fOk i0 (el fe i)) <;> rfl
end Go.FG.U98

namespace Go.FG.U99
open Lib (rf rc el Fe Cl wc0 wc1 wc2 wc3 wc4 wc5 wc6)
open U142 (keyOk)
open U43 (cAt)
open U98 (in_dec)
theorem step {R : Type} (N : Nat) (g k0 k1 : Bool -> Row -> Int -> Int -> Int -> Row -> Row -> Row -> Row -> Int -> Row -> Row -> Int -> Option R) (i0 : Int) (q1 q2 q3 q4 : Row) (i5 : Int) (fe : List Fe) (cl : List Cl) (i8 : Int) (i : Nat) (hi : i < cl.length) (hl : cl.length <= 1048576) :
  r2 N g k0 k1 false (rc cl) cl.length (i : Int) i0 q1 q2 q3 q4 i5 (rf fe) (rc cl) i8 = bif cAt i0 fe.length cl i then g false (rc cl) cl.length ((i + 1 : Nat) : Int) i0 q1 q2 q3 q4 i5 (rf fe) (rc cl) i8 else k0 false (rc cl) cl.length (i : Int) i0 q1 q2 q3 q4 i5 (rf fe) (rc cl) i8 := by
 unfold cAt
 have e1 : decide (((el cl i).got.size : Int) > 400) = !decide (((el cl i).got.size : Int) <= 400) := by rw [<- decide_not, decide_eq_decide]; omega
 have e2 : decide ((el cl i).age < 0) = !decide (0 <= (el cl i).age) := by rw [<- decide_not, decide_eq_decide]; omega
 by_cases hz : i = 0
 ·subst hz
  simp only [r2, Lib.rc_len, Lib.rf_len, Lib.dlt, hi, decide_true, Lib.dle0, Bool.and_self, cond_true, Lib.toN, wc0 hi, wc1 hi, wc2 hi, wc3 hi, wc4 hi, wc5 hi, wc6 hi, cvS, cvI, in_dec, U159.key_dec, decide_eq_false (show ¬ (((0 : Nat) : Int) > 0) by omega), cond_false, e1, e2, Lib.w64_s hi (by omega : cl.length <= 9223372036854775807), Bool.true_or, Bool.true_and]
  cases decide (1 <= (el cl 0).id /\ (el cl 0).id <= 9) <;> cases keyOk (el cl 0).k <;> cases decide (1 <= (el cl 0).sta /\ (el cl 0).sta <= 3) <;> cases decide (0 <= (el cl 0).fe /\ (el cl 0).fe <= (fe.length : Int)) <;> cases decide (((el cl 0).got.size : Int) <= 400) <;> cases decide (0 <= (el cl 0).fr /\ (el cl 0).fr <= i0) <;> cases decide (0 <= (el cl 0).age) <;> rfl
 ·have hi1 : i - 1 < cl.length := by omega
  have e3 : decide ((el cl (i - 1)).id ≥ (el cl i).id) = !decide ((el cl (i - 1)).id < (el cl i).id) := by rw [<- decide_not, decide_eq_decide]; omega
  simp only [r2, Lib.rc_len, Lib.rf_len, Lib.dlt, hi, decide_true, Lib.dle0, Bool.and_self, cond_true, Lib.toN, wc0 hi, wc1 hi, wc2 hi, wc3 hi, wc4 hi, wc5 hi, wc6 hi, cvS, cvI, in_dec, U159.key_dec, decide_eq_true (show (i : Int) > 0 by omega), Lib.pred_nat (show 0 < i by omega) (by omega), hi1, wc0 hi1, cond_false, e1, e2, e3, Lib.w64_s hi (by omega : cl.length <= 9223372036854775807), decide_eq_false hz, Bool.false_or]
  cases decide (1 <= (el cl i).id /\ (el cl i).id <= 9) <;> cases decide ((el cl (i - 1)).id < (el cl i).id) <;> cases keyOk (el cl i).k <;> cases decide (1 <= (el cl i).sta /\ (el cl i).sta <= 3) <;> cases decide (0 <= (el cl i).fe /\ (el cl i).fe <= (fe.length : Int)) <;> cases decide (((el cl i).got.size : Int) <= 400) <;> cases decide (0 <= (el cl i).fr /\ (el cl i).fr <= i0) <;> cases decide (0 <= (el cl i).age) <;> rfl
theorem ok (i0 : Int) (q1 q2 q3 q4 : Row) (i5 : Int) (fe : List Fe) (cl : List Cl) (i8 : Int) (hl : cl.length <= 1048576) :
  c i0 q1 q2 q3 q4 i5 (rf fe) (rc cl) i8 = true /\ v i0 q1 q2 q3 q4 i5 (rf fe) (rc cl) i8 = ((List.range cl.length).all (cAt i0 fe.length cl) && decide (cl.length <= 6)) := by
 refine out _ _ _ _ _ _ _ _ _ ?_
 unfold vo b
 rw [Lib.rc_len]
 have key := Lib.all_gen (cAt i0 fe.length cl) cl.length (fun n (i : Nat) => l2 Lib.big (fun (y13 : Bool) (_ : Row) (_ _ _ : Int) (_ _ _ _ : Row) (_ : Int) (_ _ : Row) (_ : Int) => some y13) (fun (_ : Bool) (_ : Row) (_ _ _ : Int) (_ _ _ _ : Row) (_ : Int) (_ y37 : Row) (_ : Int) => some (decide ((↑(List.length y37) : Int) <= 6))) n false (rc cl) (cl.length : Int) (i : Int) i0 q1 q2 q3 q4 i5 (rf fe) (rc cl) i8) (some false) (some (decide (cl.length <= 6)))
  (fun n i hi hq => by
   simp only [l2]
   rw [step _ _ _ _ _ _ _ _ _ _ _ _ _ i hi hl, hq]; rfl)
  (fun n i hi hq => by
   simp only [l2]
   rw [step _ _ _ _ _ _ _ _ _ _ _ _ _ i hi hl, hq]; rfl)
  (fun n => by
   simp only [l2, r2, Lib.dlt, Nat.lt_irrefl, decide_false, cond_false, Lib.rc_len]
   rw [show decide ((cl.length : Int) <= 6) = decide (cl.length <= 6) by rw [decide_eq_decide]; omega]) Lib.big (Lib.lt_big (by omega))
 refine key.trans ?_
 cases (List.range cl.length).all (cAt i0 fe.length cl) <;> rfl
end Go.FG.U99

namespace Go.FG.U25
open Lib (rr rs re rf rc el En Fe Cl Px)
open U133 (eOk)
open U134 (fOk apart)
open U43 (cAt pxOk)
theorem ok (p : Px) (hp : p.Fit 1048576) : c p.now (re p.en) (rs p.w) (rs p.m) (rr p.s) p.a (rf p.fe) (rc p.cl) p.hits = true /\ v p.now (re p.en) (rs p.w) (rs p.m) (rr p.s) p.a (rf p.fe) (rc p.cl) p.hits = pxOk p := by
 refine out _ _ _ _ _ _ _ _ _ ?_
 have h1 := U97.ok p.now p.en p.w p.m p.s p.a (rf p.fe) (rc p.cl) p.hits hp.en hp.w hp.m ⟨hp.s.1, hp.s.2.1⟩
 have h2 := U98.ok p.now (re p.en) (rs p.w) (rs p.m) (rr p.s) p.a p.fe (rc p.cl) p.hits hp.fe
 have h3 := U99.ok p.now (re p.en) (rs p.w) (rs p.m) (rr p.s) p.a p.fe p.cl p.hits hp.cl
 unfold vo b pxOk
 have e1 : ∀ n a b, U63.v n a b = decide (a <= n /\ n <= b) := fun n a b => U147.in_dec n a b
 have e2 : U100.v p.hits = decide (0 <= p.hits /\ p.hits <= 1000000000) := e1 p.hits 0 1000000000
 rw [e1, e2, h1.1, h1.2, h2.1, h2.2, h3.1, h3.2, Lib.all_and]
 cases decide (1 <= p.now /\ p.now <= 1000000000) <;> cases eOk p.en p.w p.m p.s p.a <;> cases decide (p.fe.length <= 20) <;> cases decide (p.cl.length <= 6) <;> cases decide (0 <= p.hits /\ p.hits <= 1000000000) <;> cases (List.range p.fe.length).all (fun i => fOk p.now (el p.fe i)) <;> cases (List.range p.fe.length).all (apart p.fe) <;> cases (List.range p.cl.length).all (cAt p.now p.fe.length p.cl) <;> rfl
end Go.FG.U25

namespace Go.FG.U268
theorem ok (a0 a1 : ByteArray) : c a0 a1 = true /\ v a0 a1 = A_Got.bg a0 a1 := by
 refine out _ _ ?_
 unfold vo b A_Got.bg
 by_cases h : ((a0.size : Nat) : Int) ≥ ((a1.size : Nat) : Int)
 ·rw [decide_eq_true h, cond_true, show inB 0 (a1.size : Int) (a0.size : Int) = true by simp [inB]; omega, cond_true, Bool.true_and]
 ·rw [decide_eq_false h, cond_false, Bool.false_and]
end Go.FG.U268

namespace Go.FG.U248
theorem ok (a0 a1 : ByteArray) : c a0 a1 = true /\ v a0 a1 = A_Got.bg a0 a1 := by
 have h := U268.ok a0 a1
 exact out _ _ (by unfold vo b; rw [h.1, h.2, cond_true])
end Go.FG.U248

namespace Go.FG.U207
open Lib (rf wf0 wf1 wf2)
theorem ok (a0 : Int) (a1 a2 a3 a4 : Row) (a5 : Int) (fe : List Lib.Fe) (a7 : Row) (a8 : Int) (x : Lib.Cl) (h1 : 1 <= x.fe) (h2 : x.fe <= fe.length) (hl : fe.length <= 1048576) : c a0 a1 a2 a3 a4 a5 (rf fe) a7 a8 x.id x.k x.fe x.fr x.sta x.got x.age = true /\ v a0 a1 a2 a3 a4 a5 (rf fe) a7 a8 x.id x.k x.fe x.fr x.sta x.got x.age = A_Got.wt (Lib.el fe (x.fe - 1).toNat) x := by
 refine out _ _ _ _ _ _ _ _ _ _ _ _ _ _ _ _ ?_
 unfold vo b A_Got.wt
 have hw : w64 (x.fe - 1) = (((x.fe - 1).toNat : Nat) : Int) := by rw [Lib.w64_ok (by omega) (by omega)]; omega
 have hi : (x.fe - 1).toNat < fe.length := by omega
 have hp := U248.ok
 simp only [Lib.rf_len, decide_eq_false (show ¬ x.fe > (fe.length : Int) by omega), cond_false, hw, Lib.dlt, hi, decide_true, Lib.dle0, Bool.and_self, cond_true, Lib.toN, wf0 hi, wf1 hi, wf2 hi, cvS, cvI, (hp _ _).1, (hp _ _).2]
 generalize List.beq (ByteArray.toList (Lib.el fe (x.fe - 1).toNat).k) (ByteArray.toList x.k) = u
 generalize List.beq (ByteArray.toList x.got) (ByteArray.toList (Lib.el fe (x.fe - 1).toNat).t) = u2
 generalize A_Got.bg _ _ = u3
 cases u <;> cases decide (x.sta = 1) <;> cases decide (x.sta = 2) <;> cases decide (x.sta = 3) <;> cases u2 <;> cases u3 <;> rfl
end Go.FG.U207

namespace Go.FG.U206
theorem eq (bd : Row) (i : Nat) (id : Int) (k : ByteArray) (f fr st : Int) (got : ByteArray) (age : Int) : v (cvS (cellAt bd i 0)) (cvI (cellAt bd i 1)) (cvI (cellAt bd i (1 + 1))) (cvS (cellAt bd i (1 + 1 + 1))) id k f fr st got age = A_Got.hb bd k fr got age i := by
 unfold v A_Got.hb
 cases List.beq (ByteArray.toList (cvS (cellAt bd i 0))) (ByteArray.toList k) <;> cases decide (cvI (cellAt bd i 1) = fr) <;> cases List.beq (ByteArray.toList (cvS (cellAt bd i (1 + 1 + 1)))) (ByteArray.toList got) <;> rfl
end Go.FG.U206

namespace Go.FG.U66c
theorem ok (d : Row) (id : Int) (k : ByteArray) (f fr st : Int) (got : ByteArray) (age : Int) (hl : d.length <= 4294967296) : c d id k f fr st got age = true /\ v d id k f fr st got age = Lib.fi (A_Got.hb d k fr got age) d.length 0 := by
 refine out _ _ _ _ _ _ _ _ ?_
 unfold vo b
 refine Lib.fi_gen (A_Got.hb d k fr got age) d.length (fun m (i : Nat) => l2 Lib.big (fun (_ : Row) (_ : Int) (_ : ByteArray) (_ _ _ : Int) (_ : ByteArray) (_ y _ _ : Int) => some y) (fun (_ : Row) (_ : Int) (_ : ByteArray) (_ _ _ : Int) (_ : ByteArray) (_ _ _ _ : Int) => some (-1)) m d id k f fr st got age 0 (d.length : Int) (i : Int)) some (fun m i hi hp => ?_) (fun m i hi hp => ?_) (fun m => ?_) Lib.big (Lib.lt_big (by omega))
 ·simp only [l2, r2, Lib.dlt, Lib.dle0, Lib.toN, hi, decide_true, Bool.and_self, cond_true, U206.eq, hp]
 ·simp only [l2, r2, Lib.dlt, Lib.dle0, Lib.toN, hi, decide_true, Bool.and_self, cond_true, U206.eq, hp, cond_false, Lib.w64_s hi (by omega : d.length <= 9223372036854775807)]
 ·simp only [l2, r2, Lib.dlt, Nat.lt_irrefl, decide_false, cond_false]
end Go.FG.U66c

namespace Go.FG.U208
theorem ok (d : Row) (id : Int) (k : ByteArray) (f fr st : Int) (got : ByteArray) (age : Int) (hl : d.length <= 4294967296) : c d id k f fr st got age = true /\ v d id k f fr st got age = A_Got.has d k fr got age := by
 have h := U66c.ok d id k f fr st got age hl
 exact out _ _ _ _ _ _ _ _ (by unfold vo b; rw [h.1, h.2, cond_true]; rfl)
end Go.FG.U208

namespace Go.FG.U121
open Lib (rf rc el wc0 wc1 wc2 wc3 wc4 wc5 wc6)
theorem ok (i0 : Int) (p1 p2 p3 p4 : Row) (i5 : Int) (fe : List Lib.Fe) (cl : List Lib.Cl) (i8 : Int) (p9 p10 bd : Row) (hc : ∀ i, i < cl.length -> 0 <= (el cl i).fe /\ (el cl i).fe <= fe.length) (hl : fe.length <= 1048576) (hcl : cl.length <= 1048576) (hbd : bd.length <= 1048576) : c i0 p1 p2 p3 p4 i5 (rf fe) (rc cl) i8 p9 p10 bd = true /\ v i0 p1 p2 p3 p4 i5 (rf fe) (rc cl) i8 p9 p10 bd = A_Got.gotR fe cl bd := by
 refine out _ _ _ _ _ _ _ _ _ _ _ _ ?_
 unfold vo b
 have hw : ∀ i, i < cl.length -> w64 ((i : Int) + 1) = ((i + 1 : Nat) : Int) := fun i h => Lib.w64_s h (by omega)
 have hk := fun i hi h1 => U207.ok i0 p1 p2 p3 p4 i5 fe (rc cl) i8 (el cl i) h1 (hc i hi).2 hl
 have hs := fun i => U208.ok bd (el cl i).id (el cl i).k (el cl i).fe (el cl i).fr (el cl i).sta (el cl i).got (el cl i).age (by omega)
 have st : ∀ (m i : Nat) (hi : i < cl.length), l2 Lib.big (fun (y14 : Bool) (_ : Row) (_ _ _ : Int) (_ _ _ _ : Row) (_ : Int) (_ _ : Row) (_ : Int) (_ _ _ : Row) => some y14) (fun (_ : Bool) (_ : Row) (_ _ _ : Int) (_ _ _ _ : Row) (_ : Int) (_ _ : Row) (_ : Int) (_ _ _ : Row) => some true) (m + 1) false (rc cl) (cl.length : Int) (i : Int) i0 p1 p2 p3 p4 i5 (rf fe) (rc cl) i8 p9 p10 bd = bif A_Got.gOk fe bd (el cl i) then l2 Lib.big (fun (y14 : Bool) (_ : Row) (_ _ _ : Int) (_ _ _ _ : Row) (_ : Int) (_ _ : Row) (_ : Int) (_ _ _ : Row) => some y14) (fun (_ : Bool) (_ : Row) (_ _ _ : Int) (_ _ _ _ : Row) (_ : Int) (_ _ : Row) (_ : Int) (_ _ _ : Row) => some true) m false (rc cl) (cl.length : Int) ((i + 1 : Nat) : Int) i0 p1 p2 p3 p4 i5 (rf fe) (rc cl) i8 p9 p10 bd else some false := by
  intro m i hi
  unfold A_Got.gOk
  simp only [l2, r2, Lib.rc_len, Lib.dlt, hi, decide_true, Lib.dle0, Bool.and_self, cond_true, Lib.toN, wc0 hi, wc1 hi, wc2 hi, wc3 hi, wc4 hi, wc5 hi, wc6 hi, cvS, cvI, hw i hi]
  by_cases h : (el cl i).fe = 0
  ·rw [decide_eq_true h, cond_true, decide_eq_false (show ¬ (el cl i).fe > 0 by omega), cond_false, (hs i).1, (hs i).2, cond_true]
   cases decide ((el cl i).sta = 2) <;> cases A_Got.has bd (el cl i).k (el cl i).fr (el cl i).got (el cl i).age <;> rfl
  ·have h1 := (hc i hi).1
   rw [decide_eq_false h, cond_false, decide_eq_true (show (el cl i).fe > 0 by omega), cond_true, (hk i hi (by omega)).1, (hk i hi (by omega)).2, cond_true]
   cases A_Got.wt (el fe ((el cl i).fe - 1).toNat) (el cl i) <;> rfl
 rw [Lib.rc_len]
 have key := Lib.all_gen (fun i => A_Got.gOk fe bd (el cl i)) cl.length (fun m (i : Nat) => l2 Lib.big (fun (y14 : Bool) (_ : Row) (_ _ _ : Int) (_ _ _ _ : Row) (_ : Int) (_ _ : Row) (_ : Int) (_ _ _ : Row) => some y14) (fun (_ : Bool) (_ : Row) (_ _ _ : Int) (_ _ _ _ : Row) (_ : Int) (_ _ : Row) (_ : Int) (_ _ _ : Row) => some true) m false (rc cl) (cl.length : Int) (i : Int) i0 p1 p2 p3 p4 i5 (rf fe) (rc cl) i8 p9 p10 bd) (some false) (some true)
  (fun m i hi hp => by rw [st m i hi, hp, cond_true])
  (fun m i hi hp => by rw [st m i hi, hp, cond_false])
  (fun m => by simp only [l2, r2, Lib.dlt, Nat.lt_irrefl, decide_false, cond_false]) Lib.big (Lib.lt_big (by omega))
 refine key.trans ?_
 unfold A_Got.gotR
 cases (List.range cl.length).all fun i => A_Got.gOk fe bd (el cl i) <;> rfl
end Go.FG.U121

namespace Go.FG.U122
theorem ok (i0 : Int) (p1 p2 p3 p4 : Row) (i5 : Int) (p6 p7 : Row) (i8 : Int) (p9 p10 p11 : Row) (hl : p1.length <= 4294967296) (hl2 : p11.length <= 4294967296) : c i0 p1 p2 p3 p4 i5 p6 p7 i8 p9 p10 p11 = true /\ v i0 p1 p2 p3 p4 i5 p6 p7 i8 p9 p10 p11 = U115.val p1 p11 := by
 refine out _ _ _ _ _ _ _ _ _ _ _ _ ?_
 unfold vo b
 have hw : ∀ i, i < p1.length -> w64 ((i : Int) + 1) = ((i + 1 : Nat) : Int) := fun i h => Lib.w64_s h (by omega)
 have ho := fun k a l t => U119.ok p11 k a l t hl2
 have key := Lib.all_gen (U115.q p1 p11) p1.length (fun m (i : Nat) => l2 Lib.big (fun (y14 : Bool) (_ : Row) (_ _ _ : Int) (_ _ _ _ : Row) (_ : Int) (_ _ : Row) (_ : Int) (_ _ _ : Row) => some y14) (fun (_ : Bool) (_ : Row) (_ _ _ : Int) (_ _ _ _ : Row) (_ : Int) (_ _ : Row) (_ : Int) (_ _ _ : Row) => some true) m false p1 (p1.length : Int) (i : Int) i0 p1 p2 p3 p4 i5 p6 p7 i8 p9 p10 p11) (some false) (some true)
  (fun m i hi hp => by
   unfold U115.q at hp
   simp only [l2, r2, Lib.dlt, hi, decide_true, Lib.dle0, Bool.and_self, cond_true, Lib.toN, (ho _ _ _ _).1, (ho _ _ _ _).2, hp, Bool.not_true, cond_false, hw i hi])
  (fun m i hi hp => by
   unfold U115.q at hp
   simp only [l2, r2, Lib.dlt, hi, decide_true, Lib.dle0, Bool.and_self, cond_true, Lib.toN, (ho _ _ _ _).1, (ho _ _ _ _).2, hp, Bool.not_false])
  (fun m => by simp only [l2, r2, Lib.dlt, Nat.lt_irrefl, decide_false, cond_false]) Lib.big (Lib.lt_big (by omega))
 refine key.trans ?_
 unfold U115.val
 cases (List.range p1.length).all (U115.q p1 p11) <;> rfl
end Go.FG.U122

namespace Go.FG.U34
open Lib (rr rs re rf rc Px)
open A_Sound (qe sw cls)
theorem walk (K1 : Bool -> Row -> Int -> Int -> Int -> Row -> Row -> Row -> Row -> Int -> Row -> Row -> Int -> Row -> Row -> Row -> Row -> Option Bool) (p : Px) (d i10 bd L : Row) (hen : p.en.length <= 1048576) (hL : L.length <= 1048576) : l3 Lib.big (fun (y : Bool) (_ : Row) (_ _ _ : Int) (_ _ _ _ : Row) (_ : Int) (_ _ : Row) (_ : Int) (_ _ _ _ : Row) => some y) K1 Lib.big false (re p.en) (p.en.length : Int) 0 p.now (re p.en) (rs p.w) (rs p.m) (rr p.s) p.a (rf p.fe) (rc p.cl) p.hits d i10 bd L = bif (List.range p.en.length).all (qe (re p.en) p.now L) then K1 false (re p.en) (p.en.length : Int) (p.en.length : Int) p.now (re p.en) (rs p.w) (rs p.m) (rr p.s) p.a (rf p.fe) (rc p.cl) p.hits d i10 bd L else some false := by
 have hw : ∀ i, i < p.en.length -> w64 ((i : Int) + 1) = ((i + 1 : Nat) : Int) := fun i h => Lib.w64_s h (by omega)
 have ho := fun k a l t => U119.ok L k a l t (by omega)
 exact Lib.all_gen (qe (re p.en) p.now L) p.en.length (fun m (i : Nat) => l3 Lib.big (fun (y : Bool) (_ : Row) (_ _ _ : Int) (_ _ _ _ : Row) (_ : Int) (_ _ : Row) (_ : Int) (_ _ _ _ : Row) => some y) K1 m false (re p.en) (p.en.length : Int) (i : Int) p.now (re p.en) (rs p.w) (rs p.m) (rr p.s) p.a (rf p.fe) (rc p.cl) p.hits d i10 bd L) (some false) (K1 false (re p.en) (p.en.length : Int) (p.en.length : Int) p.now (re p.en) (rs p.w) (rs p.m) (rr p.s) p.a (rf p.fe) (rc p.cl) p.hits d i10 bd L)
  (fun m i hi hq => by
   unfold qe at hq
   simp only [l3, r3, Lib.re_len, Lib.dlt, hi, decide_true, Lib.dle0, Bool.and_self, cond_true, Lib.toN, (ho _ _ _ _).1, (ho _ _ _ _).2, hw i hi, U52.eq]
   revert hq
   generalize U52.v _ _ _ _ _ = u1
   generalize U112.val _ _ _ _ _ = u2
   cases u1 <;> cases u2 <;> intro hq <;> first | rfl | cases hq)
  (fun m i hi hq => by
   unfold qe at hq
   simp only [l3, r3, Lib.re_len, Lib.dlt, hi, decide_true, Lib.dle0, Bool.and_self, cond_true, Lib.toN, (ho _ _ _ _).1, (ho _ _ _ _).2, hw i hi, U52.eq]
   revert hq
   generalize U52.v _ _ _ _ _ = u1
   generalize U112.val _ _ _ _ _ = u2
   cases u1 <;> cases u2 <;> intro hq <;> first | rfl | cases hq)
  (fun m => by simp only [l3, r3, Lib.dlt, Nat.lt_irrefl, decide_false, cond_false]) Lib.big (Lib.lt_big (by omega))
theorem ok (p : Px) (d i10 bd L : Row) (hp : p.Fit 1048576) (hbd : bd.length <= 1048576) (hL : L.length <= 1048576) (hk : U118.c d = true /\ U118.v d = L) : c p.now (re p.en) (rs p.w) (rs p.m) (rr p.s) p.a (rf p.fe) (rc p.cl) p.hits d i10 bd = true /\ v p.now (re p.en) (rs p.w) (rs p.m) (rr p.s) p.a (rf p.fe) (rc p.cl) p.hits d i10 bd = sw p L bd := by
 refine out _ _ _ _ _ _ _ _ _ _ _ _ ?_
 have hen := hp.en
 have hfe := hp.fe
 have hcl := hp.cl
 unfold vo b
 rw [hk.1, hk.2, cond_true, Lib.re_len]
 refine (walk _ p d i10 bd L hen hL).trans ?_
 unfold sw
 cases (List.range p.en.length).all (qe (re p.en) p.now L) with
 | false => rfl
 | true =>
 rw [cond_true, Bool.true_and]
 have I1 := U25.ok p hp
 have I2 := U120.ok p.now (re p.en) (rs p.w) (rs p.m) (rr p.s) p.a (rf p.fe) (rc p.cl) p.hits (by rw [Lib.rf_len]; omega)
 dsimp only
 rw [I1.1, cond_true, I1.2]
 cases hok : U43.pxOk p with
 | false => rfl
 | true =>
 rw [cond_true, Bool.true_and, I2.1, cond_true, I2.2]
 cases A_OneEach.val (rf p.fe) with
 | false => rfl
 | true =>
 have I3 := U121.ok p.now (re p.en) (rs p.w) (rs p.m) (rr p.s) p.a p.fe p.cl p.hits d i10 bd (cls hok) hfe hcl hbd
 rw [cond_true, Bool.true_and, I3.1, cond_true, I3.2]
 cases A_Got.gotR p.fe p.cl bd with
 | false => rfl
 | true =>
 have I4 := U122.ok p.now (re p.en) (rs p.w) (rs p.m) (rr p.s) p.a (rf p.fe) (rc p.cl) p.hits d i10 bd (by rw [Lib.re_len]; omega) (by omega)
 rw [cond_true, Bool.true_and, I4.1, cond_true, I4.2]
end Go.FG.U34

namespace Go.FG.U75
theorem run (a : Row) (hl : a.length <= 9223372036854775807) : vo a a = some true := by
 unfold vo b
 rw [show ((a.length : Int) != (a.length : Int)) = false from bne_self_eq_false _, cond_false]
 have := Lib.loop_gen (fun n (i : Nat) => l4 Lib.big (fun (_ _ : Row) (y : Bool) (_ : Int) => some y) (fun (_ _ : Row) (_ : Bool) (_ : Int) => some true) n a a false (i : Int)) (fun i => a.length - i) (fun i => i <= a.length) (fun _ => some true) (fun n i hi => by
  by_cases h : i < a.length
  ·right
   refine ⟨i + 1, h, by omega, rfl, ?_⟩
   have hi1 : w64 ((i : Int) + 1) = ((i + 1 : Nat) : Int) := Lib.w64_ok (by omega) (by omega)
   have hel : ∀ (x0 : ByteArray) (x1 : Int) (x2 : Int) (x3 : ByteArray), U171.v x0 x1 x2 x3 x0 x1 x2 x3 = true := fun _ _ _ _ => by
    simp only [U171.v, bne_self_eq_false, Lib.beq_refl_ba, Bool.not_true, cond_false]
   simp only [l4, r4, Lib.dlt, h, decide_true, Lib.dle0, Bool.and_self, cond_true, Lib.toN, hi1, hel, Bool.not_true, cond_false]
  ·left
   simp only [l4, r4, Lib.dlt, h, decide_false, cond_false]) Lib.big 0 (Nat.zero_le _) (Lib.lt_big (by omega))
 exact this
theorem ok (a : Row) (hl : a.length <= 9223372036854775807) : c a a = true /\ v a a = true := out a a (run a hl)
end Go.FG.U75

namespace Go.FG.U172
theorem run (a : Row) (hl : a.length <= 9223372036854775807) : vo a a = some true := by
 unfold vo b
 rw [show ((a.length : Int) != (a.length : Int)) = false from bne_self_eq_false _, cond_false]
 have := Lib.loop_gen (fun n (i : Nat) => l4 Lib.big (fun (_ _ : Row) (y : Bool) (_ : Int) => some y) (fun (_ _ : Row) (_ : Bool) (_ : Int) => some true) n a a false (i : Int)) (fun i => a.length - i) (fun i => i <= a.length) (fun _ => some true) (fun n i hi => by
  by_cases h : i < a.length
  ·right
   refine ⟨i + 1, h, by omega, rfl, ?_⟩
   have hi1 : w64 ((i : Int) + 1) = ((i + 1 : Nat) : Int) := Lib.w64_ok (by omega) (by omega)
   simp only [l4, r4, Lib.dlt, h, decide_true, Lib.dle0, Bool.and_self, cond_true, Lib.toN, hi1, bne_self_eq_false, Lib.beq_refl_ba, Bool.not_true, cond_false]
  ·left
   simp only [l4, r4, Lib.dlt, h, decide_false, cond_false]) Lib.big 0 (Nat.zero_le _) (Lib.lt_big (by omega))
 exact this
theorem ok (a : Row) (hl : a.length <= 9223372036854775807) : c a a = true /\ v a a = true := out a a (run a hl)
end Go.FG.U172

namespace Go.FG.U225
theorem run (a : Row) (hl : a.length <= 9223372036854775807) : vo a a = some true := by
 unfold vo b
 rw [show ((a.length : Int) != (a.length : Int)) = false from bne_self_eq_false _, cond_false]
 have := Lib.loop_gen (fun n (i : Nat) => l4 Lib.big (fun (_ _ : Row) (y : Bool) (_ : Int) => some y) (fun (_ _ : Row) (_ : Bool) (_ : Int) => some true) n a a false (i : Int)) (fun i => a.length - i) (fun i => i <= a.length) (fun _ => some true) (fun n i hi => by
  by_cases h : i < a.length
  ·right
   refine ⟨i + 1, h, by omega, rfl, ?_⟩
   have hi1 : w64 ((i : Int) + 1) = ((i + 1 : Nat) : Int) := Lib.w64_ok (by omega) (by omega)
   simp only [l4, r4, Lib.dlt, h, decide_true, Lib.dle0, Bool.and_self, cond_true, Lib.toN, hi1, U124.refl, Bool.not_true, cond_false]
  ·left
   simp only [l4, r4, Lib.dlt, h, decide_false, cond_false]) Lib.big 0 (Nat.zero_le _) (Lib.lt_big (by omega))
 exact this
theorem ok (a : Row) (hl : a.length <= 9223372036854775807) : c a a = true /\ v a a = true := out a a (run a hl)
end Go.FG.U225

namespace Go.FG.U173
theorem ok (r : Row) (k : Int) (hl : r.length <= 9223372036854775807) : c r k r k = true /\ v r k r k = true := by
 have h := U225.ok r hl
 exact out r k r k (by unfold vo b; rw [h.1, h.2, bne_self_eq_false]; rfl)
end Go.FG.U173

namespace Go.FG.U76
theorem ok (r0 r1 r2 : Row) (k : Int) (h0 : r0.length <= 9223372036854775807) (h1 : r1.length <= 9223372036854775807) (h2 : r2.length <= 9223372036854775807) : c r0 r1 r2 k r0 r1 r2 k = true /\ v r0 r1 r2 k r0 r1 r2 k = true := by
 have a0 := U172.ok r0 h0
 have a1 := U172.ok r1 h1
 have a2 := U173.ok r2 k h2
 exact out r0 r1 r2 k r0 r1 r2 k (by unfold vo b; rw [a0.1, a0.2, a1.1, a1.2, a2.1, a2.2]; rfl)
end Go.FG.U76

namespace Go.FG.U77
theorem run (a : Row) (hl : a.length <= 9223372036854775807) : vo a a = some true := by
 unfold vo b
 rw [show ((a.length : Int) != (a.length : Int)) = false from bne_self_eq_false _, cond_false]
 have := Lib.loop_gen (fun n (i : Nat) => l4 Lib.big (fun (_ _ : Row) (y : Bool) (_ : Int) => some y) (fun (_ _ : Row) (_ : Bool) (_ : Int) => some true) n a a false (i : Int)) (fun i => a.length - i) (fun i => i <= a.length) (fun _ => some true) (fun n i hi => by
  by_cases h : i < a.length
  ·right
   refine ⟨i + 1, h, by omega, rfl, ?_⟩
   have hi1 : w64 ((i : Int) + 1) = ((i + 1 : Nat) : Int) := Lib.w64_ok (by omega) (by omega)
   have hel : ∀ (x0 : ByteArray) (x1 : ByteArray) (x2 : Int) (x3 : Int) (x4 : Int), U174.v x0 x1 x2 x3 x4 x0 x1 x2 x3 x4 = true := fun _ _ _ _ _ => by
    simp only [U174.v, bne_self_eq_false, Lib.beq_refl_ba, Bool.not_true, cond_false]
   simp only [l4, r4, Lib.dlt, h, decide_true, Lib.dle0, Bool.and_self, cond_true, Lib.toN, hi1, hel, Bool.not_true, cond_false]
  ·left
   simp only [l4, r4, Lib.dlt, h, decide_false, cond_false]) Lib.big 0 (Nat.zero_le _) (Lib.lt_big (by omega))
 exact this
theorem ok (a : Row) (hl : a.length <= 9223372036854775807) : c a a = true /\ v a a = true := out a a (run a hl)
end Go.FG.U77

namespace Go.FG.U78
theorem run (a : Row) (hl : a.length <= 9223372036854775807) : vo a a = some true := by
 unfold vo b
 rw [show ((a.length : Int) != (a.length : Int)) = false from bne_self_eq_false _, cond_false]
 have := Lib.loop_gen (fun n (i : Nat) => l4 Lib.big (fun (_ _ : Row) (y : Bool) (_ : Int) => some y) (fun (_ _ : Row) (_ : Bool) (_ : Int) => some true) n a a false (i : Int)) (fun i => a.length - i) (fun i => i <= a.length) (fun _ => some true) (fun n i hi => by
  by_cases h : i < a.length
  ·right
   refine ⟨i + 1, h, by omega, rfl, ?_⟩
   have hi1 : w64 ((i : Int) + 1) = ((i + 1 : Nat) : Int) := Lib.w64_ok (by omega) (by omega)
   have hel : ∀ (x0 : Int) (x1 : ByteArray) (x2 : Int) (x3 : Int) (x4 : Int) (x5 : ByteArray) (x6 : Int), U175.v x0 x1 x2 x3 x4 x5 x6 x0 x1 x2 x3 x4 x5 x6 = true := fun _ _ _ _ _ _ _ => by
    simp only [U175.v, bne_self_eq_false, Lib.beq_refl_ba, Bool.not_true, cond_false]
   simp only [l4, r4, Lib.dlt, h, decide_true, Lib.dle0, Bool.and_self, cond_true, Lib.toN, hi1, hel, Bool.not_true, cond_false]
  ·left
   simp only [l4, r4, Lib.dlt, h, decide_false, cond_false]) Lib.big 0 (Nat.zero_le _) (Lib.lt_big (by omega))
 exact this
theorem ok (a : Row) (hl : a.length <= 9223372036854775807) : c a a = true /\ v a a = true := out a a (run a hl)
end Go.FG.U78

namespace Go.FG.U12
theorem ok (i0 : Int) (r1 r2 r3 r4 : Row) (i5 : Int) (r6 r7 : Row) (i8 : Int) (h1 : r1.length <= 9223372036854775807) (h2 : r2.length <= 9223372036854775807) (h3 : r3.length <= 9223372036854775807) (h4 : r4.length <= 9223372036854775807) (h6 : r6.length <= 9223372036854775807) (h7 : r7.length <= 9223372036854775807) :
  c i0 r1 r2 r3 r4 i5 r6 r7 i8 i0 r1 r2 r3 r4 i5 r6 r7 i8 = true /\ v i0 r1 r2 r3 r4 i5 r6 r7 i8 i0 r1 r2 r3 r4 i5 r6 r7 i8 = true := by
 have a1 := U75.ok r1 h1
 have a2 := U76.ok r2 r3 r4 i5 h2 h3 h4
 have a3 := U77.ok r6 h6
 have a4 := U78.ok r7 h7
 exact out _ _ _ _ _ _ _ _ _ _ _ _ _ _ _ _ _ _ (by unfold vo b; rw [a1.1, a1.2, a2.1, a2.2, a3.1, a3.2, a4.1, a4.2, bne_self_eq_false, bne_self_eq_false]; rfl)
end Go.FG.U12

namespace Go.FG.U209
theorem run (a : Row) (hl : a.length <= 9223372036854775807) : vo a a = some true := by
 unfold vo b
 rw [show ((a.length : Int) != (a.length : Int)) = false from bne_self_eq_false _, cond_false]
 have := Lib.loop_gen (fun n (i : Nat) => l4 Lib.big (fun (_ _ : Row) (y : Bool) (_ : Int) => some y) (fun (_ _ : Row) (_ : Bool) (_ : Int) => some true) n a a false (i : Int)) (fun i => a.length - i) (fun i => i <= a.length) (fun _ => some true) (fun n i hi => by
  by_cases h : i < a.length
  ·right
   refine ⟨i + 1, h, by omega, rfl, ?_⟩
   have hi1 : w64 ((i : Int) + 1) = ((i + 1 : Nat) : Int) := Lib.w64_ok (by omega) (by omega)
   have hel : ∀ (x0 : ByteArray) (x1 : ByteArray) (x2 : Int), U249.v x0 x1 x2 x0 x1 x2 = true := fun _ _ _ => by
    simp only [U249.v, bne_self_eq_false, Lib.beq_refl_ba, Bool.not_true, cond_false]
   simp only [l4, r4, Lib.dlt, h, decide_true, Lib.dle0, Bool.and_self, cond_true, Lib.toN, hi1, hel, Bool.not_true, cond_false]
  ·left
   simp only [l4, r4, Lib.dlt, h, decide_false, cond_false]) Lib.big 0 (Nat.zero_le _) (Lib.lt_big (by omega))
 exact this
theorem ok (a : Row) (hl : a.length <= 9223372036854775807) : c a a = true /\ v a a = true := out a a (run a hl)
end Go.FG.U209

namespace Go.FG.U123
theorem ok (a : Row) (hl : a.length <= 9223372036854775807) : c a a = true /\ v a a = true := by
 have h := U209.ok a hl
 exact out a a (by unfold vo b; rw [h.1, h.2, cond_true]; rfl)
end Go.FG.U123

namespace Go.FG.U35
theorem ok (i0 : Int) (r1 r2 r3 r4 : Row) (i5 : Int) (r6 r7 : Row) (i8 : Int) (r9 r10 r11 : Row) (h1 : r1.length <= 9223372036854775807) (h2 : r2.length <= 9223372036854775807) (h3 : r3.length <= 9223372036854775807) (h4 : r4.length <= 9223372036854775807) (h6 : r6.length <= 9223372036854775807) (h7 : r7.length <= 9223372036854775807) (h9 : r9.length <= 9223372036854775807) (h11 : r11.length <= 9223372036854775807) :
  c i0 r1 r2 r3 r4 i5 r6 r7 i8 r9 r10 r11 i0 r1 r2 r3 r4 i5 r6 r7 i8 r9 r10 r11 = true /\ v i0 r1 r2 r3 r4 i5 r6 r7 i8 r9 r10 r11 i0 r1 r2 r3 r4 i5 r6 r7 i8 r9 r10 r11 = true := by
 have a1 := U12.ok i0 r1 r2 r3 r4 i5 r6 r7 i8 h1 h2 h3 h4 h6 h7
 have a2 := U123.ok r9 h9
 have a4 := U75.ok r11 h11
 exact out _ _ _ _ _ _ _ _ _ _ _ _ _ _ _ _ _ _ _ _ _ _ _ _ (by unfold vo b; rw [a1.1, a1.2, a2.1, a2.2, U124.refl, a4.1, a4.2]; rfl)
end Go.FG.U35

namespace Go.FG.U6
open Lib (rr rs re rf rc Px)
theorem run (i0 : Int) (r1 r2 r3 r4 : Row) (i5 : Int) (r6 r7 : Row) (i8 : Int) (r9 r10 r11 : Row) (f1 : FitR r1) (f2 : FitR r2) (f3 : FitR r3) (f4 : FitR r4) (f6 : FitR r6) (f7 : FitR r7) (f9 : FitR r9) (f10 : FitR r10) (f11 : FitR r11) : vo i0 r1 r2 r3 r4 i5 r6 r7 i8 r9 r10 r11 = some true := by
 unfold vo b
 obtain ⟨z1, z2, z3⟩ := U31.ok i0 r1 r2 r3 r4 i5 r6 r7 i8 r9 r10 r11 1048576 (by omega) (by omega) f1 f2 f3 f4 f6 f7 f9 f10 f11
 by_cases h : U31.v i0 r1 r2 r3 r4 i5 r6 r7 i8 r9 r10 r11 1048576 < 0
 ·simp only [Lib.lt, z1, cond_true, decide_eq_true h]
 obtain ⟨l1, l9, l10, l11⟩ := z3 (by omega)
 obtain ⟨t1, t2⟩ := U33.ok i0 r1 r2 r3 r4 i5 r6 r7 i8 r9 r10 r11 l1.1 l1.2.1.1 l1.2.1.2.1 l1.2.1.2.2.1 l1.2.1.2.2.2 l1.2.2.1 l1.2.2.2 l9 l10 l11
 obtain ⟨p, hp, u1, u2⟩ := U10.abs i0 r1 r2 r3 r4 i5 r6 r7 i8 l1
 have u3 := (U10.ok i0 r1 r2 r3 r4 i5 r6 r7 i8 l1.1 l1.2.1.1 l1.2.1.2.1 l1.2.1.2.2.1 l1.2.1.2.2.2 l1.2.2.1 l1.2.2.2).2
 rw [u2] at u3
 simp only [Prod.mk.injEq] at u3
 obtain ⟨e0, e1, e2, e3, e4, e5, e6, e7, e8⟩ := u3
 rw [<- e1, <- e2, <- e3, <- e4, <- e6, <- e7] at t2
 clear u1 u2 e1 e2 e3 e4 e6 e7
 have m9 := U200.tl_len r9
 have m11 := U58.tl_len r11
 generalize U200.tl r9 = d at t2 m9
 generalize U58.tl r11 = bd at t2 m11
 generalize U117.v r10 = n10 at t2
 obtain ⟨L, a1, a2, _, hl⟩ := U111.same d (by omega)
 have S := U32.ok p d n10 bd L hp (by omega) (by omega) a1
 have I := U34.ok p d n10 bd L hp (by omega) (by omega) a2
 have a3 := U35.ok p.now (re p.en) (rs p.w) (rs p.m) (rr p.s) p.a (rf p.fe) (rc p.cl) p.hits d n10 bd (by rw [Lib.re_len]; have := hp.en; omega) (by rw [Lib.rs_len]; have := hp.w; omega) (by rw [Lib.rs_len]; have := hp.m; omega) (by rw [Lib.rr_len]; have := hp.s.1; omega) (by rw [Lib.rf_len]; have := hp.fe; omega) (by rw [Lib.rc_len]; have := hp.cl; omega) (by omega) (by omega)
 rw [e0, e5, e8] at S I a3
 simp only [Lib.lt, z1, decide_eq_false h, t1, t2, S.1, S.2, I.1, I.2, a3.1, a3.2, cond_true, cond_false, decide_true, Bool.not_true]
theorem law (i0 : Int) (r1 r2 r3 r4 : Row) (i5 : Int) (r6 r7 : Row) (i8 : Int) (r9 r10 r11 : Row) {A B C : Prop} (_ : A) (f1 : FitR r1) (f2 : FitR r2) (f3 : FitR r3) (f4 : FitR r4) (_ : B) (f6 : FitR r6) (f7 : FitR r7) (_ : C) (f9 : FitR r9) (f10 : FitR r10) (f11 : FitR r11) : v i0 r1 r2 r3 r4 i5 r6 r7 i8 r9 r10 r11 = true := (out _ _ _ _ _ _ _ _ _ _ _ _ (run i0 r1 r2 r3 r4 i5 r6 r7 i8 r9 r10 r11 f1 f2 f3 f4 f6 f7 f9 f10 f11)).2
theorem lawc (i0 : Int) (r1 r2 r3 r4 : Row) (i5 : Int) (r6 r7 : Row) (i8 : Int) (r9 r10 r11 : Row) {A B C : Prop} (_ : A) (f1 : FitR r1) (f2 : FitR r2) (f3 : FitR r3) (f4 : FitR r4) (_ : B) (f6 : FitR r6) (f7 : FitR r7) (_ : C) (f9 : FitR r9) (f10 : FitR r10) (f11 : FitR r11) : c i0 r1 r2 r3 r4 i5 r6 r7 i8 r9 r10 r11 = true := (out _ _ _ _ _ _ _ _ _ _ _ _ (run i0 r1 r2 r3 r4 i5 r6 r7 i8 r9 r10 r11 f1 f2 f3 f4 f6 f7 f9 f10 f11)).1
end Go.FG.U6

