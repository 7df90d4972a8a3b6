/- What the functions come to, in plain numbers, texts and lists; last the law itself. No condition but those that each states. -/
import Derived.Test.YticmocblmmahkaaPExactAnewActs
set_option linter.unusedVariables false
set_option linter.unusedSimpArgs false
set_option maxRecDepth 100000
namespace Go.FG.Pu.laws_szFile
theorem bd (x0 : ByteArray) (x1 : ByteArray) (x2 : Int) (L : Int) (h0 : okS x0) (h1 : okS x1) (hL0 : 0 ≤ L) (hL1 : L ≤ 1048576) : v x0 x1 x2 L ≤ 1048576 := by
  have hz : ∀ x, okS x → x.size ≤ 4611686018427387904 := fun _ h => h
  have z0 := hz _ h0
  have z1 := hz _ h1
  unfold v
  rw [Lib.w64_ok (x := L - (x0.size : Int)) (by omega) (by omega)]
  by_cases c0 : L - (x0.size : Int) < 0
  · rw [decide_eq_true c0, cond_true]; omega
  · rw [decide_eq_false c0, cond_false]
    rw [Lib.w64_ok (x := (L - (x0.size : Int)) - (x1.size : Int)) (by omega) (by omega)]
    by_cases c1 : (L - (x0.size : Int)) - (x1.size : Int) < 0
    · rw [decide_eq_true c1, cond_true]; omega
    · rw [decide_eq_false c1, cond_false]
      omega
end Go.FG.Pu.laws_szFile

namespace Go.FG.Pu.laws_szFileS
theorem run (a : Row) (L : Int) (h0 : 0 ≤ L) (h1 : L ≤ 1048576) (ha : FitR a) : ∃ x, vo a L = some x ∧ x ≤ 1048576 ∧ (0 ≤ x → a.length ≤ 1048576) := by
  have hl := ha.1
  unfold vo b
  rw [Lib.w64_ok (x := L - (a.length : Int)) (by omega) (by omega)]
  by_cases hc : L - (a.length : Int) < 0
  · rw [decide_eq_true hc]; exact ⟨-1, rfl, by omega, fun h => by omega⟩
  · rw [decide_eq_false hc, cond_false]
    have key := Lib.loop_post (fun n (s : Nat × Int) => l5 Lib.big (fun (_ : Row) (_ y6 _ : Int) => some y6) (fun (_ : Row) (y9 _ _ : Int) => some y9) n a s.2 0 (s.1 : Int)) (fun s => a.length - s.1) (fun s => s.1 ≤ a.length ∧ 0 ≤ s.2 ∧ s.2 ≤ 1048576) (fun x => x ≤ 1048576) (fun n s hs => by
      obtain ⟨i, L⟩ := s
      obtain ⟨hi, hL0, hL1⟩ := hs
      dsimp only at hi hL0 hL1 ⊢
      by_cases h : i < a.length
      · have hi1 : w64 ((i : Int) + 1) = ((i + 1 : Nat) : Int) := Lib.w64_ok (by omega) (by omega)
        have hw : Pu.laws_szFile.v (cvS (cellAt a i 0)) (cvS (cellAt a i 1)) (cvI (cellAt a i (1 + 1))) L ≤ 1048576 := Pu.laws_szFile.bd _ _ _ L (Lib.okS_cell ha i _) (Lib.okS_cell ha i _) hL0 hL1
        by_cases hn : Pu.laws_szFile.v (cvS (cellAt a i 0)) (cvS (cellAt a i 1)) (cvI (cellAt a i (1 + 1))) L < 0
        · exact .inl ⟨-1, by simp only [l5, r5, Lib.dlt, h, decide_true, Lib.dle0, Bool.and_self, cond_true, Lib.toN, hn], by omega⟩
        · exact .inr ⟨(i + 1, Pu.laws_szFile.v (cvS (cellAt a i 0)) (cvS (cellAt a i 1)) (cvI (cellAt a i (1 + 1))) L), ⟨h, by omega, hw⟩, by dsimp only; omega, by simp only [l5, r5, Lib.dlt, h, decide_true, decide_false, Lib.dle0, Bool.and_self, cond_true, cond_false, Lib.toN, hn, hi1]⟩
      · exact .inl ⟨L, by simp only [l5, r5, Lib.dlt, h, decide_false, cond_false], hL1⟩) Lib.big (0, L - (a.length : Int)) ⟨Nat.zero_le _, by dsimp only; omega, by dsimp only; omega⟩ (Lib.lt_big (by omega))
    obtain ⟨x, hx, hb⟩ := key
    exact ⟨x, hx, hb, fun _ => by omega⟩
theorem ok (a : Row) (L : Int) (h0 : 0 ≤ L) (h1 : L ≤ 1048576) (ha : FitR a) : c a L = true ∧ v a L ≤ 1048576 ∧ (0 ≤ v a L → a.length ≤ 1048576) := by
  obtain ⟨x, h, h2, h3⟩ := run a L h0 h1 ha
  obtain ⟨e1, e2⟩ := out a L h
  rw [e2]; exact ⟨e1, h2, h3⟩
end Go.FG.Pu.laws_szFileS

namespace Go.FG.Pu.laws_szDisk
theorem ok (r : Row) (L : Int) (h0 : 0 ≤ L) (h1 : L ≤ 1048576) (ha : FitR r) : c r L = true ∧ v r L ≤ 1048576 ∧ (0 ≤ v r L → r.length ≤ 1048576) := by
  obtain ⟨e1, e2, e3⟩ := Pu.laws_szFileS.ok r L h0 h1 ha
  by_cases h : Pu.laws_szFileS.v r L < 0
  · obtain ⟨q1, q2⟩ := out r L (x := -1) (by unfold vo b; rw [e1, cond_true, decide_eq_true h, cond_true])
    rw [q2]; exact ⟨q1, by omega, fun h => by omega⟩
  · obtain ⟨q1, q2⟩ := out r L (x := Pu.laws_szFileS.v r L) (by unfold vo b; rw [e1, cond_true, decide_eq_false h, cond_false])
    rw [q2]; exact ⟨q1, e2, e3⟩
end Go.FG.Pu.laws_szDisk

namespace Go.FG.Pu.laws_szEntry
theorem bd (x0 : ByteArray) (x1 : Int) (x2 : Int) (x3 : ByteArray) (L : Int) (h0 : okS x0) (h3 : okS x3) (hL0 : 0 ≤ L) (hL1 : L ≤ 1048576) : v x0 x1 x2 x3 L ≤ 1048576 := by
  have hz : ∀ x, okS x → x.size ≤ 4611686018427387904 := fun _ h => h
  have z0 := hz _ h0
  have z3 := hz _ h3
  unfold v
  rw [Lib.w64_ok (x := L - (x0.size : Int)) (by omega) (by omega)]
  by_cases c0 : L - (x0.size : Int) < 0
  · rw [decide_eq_true c0, cond_true]; omega
  · rw [decide_eq_false c0, cond_false]
    rw [Lib.w64_ok (x := (L - (x0.size : Int)) - (x3.size : Int)) (by omega) (by omega)]
    by_cases c3 : (L - (x0.size : Int)) - (x3.size : Int) < 0
    · rw [decide_eq_true c3, cond_true]; omega
    · rw [decide_eq_false c3, cond_false]
      omega
end Go.FG.Pu.laws_szEntry

namespace Go.FG.Pu.laws_szEntryS
theorem run (a : Row) (L : Int) (h0 : 0 ≤ L) (h1 : L ≤ 1048576) (ha : FitR a) : ∃ x, vo a L = some x ∧ x ≤ 1048576 ∧ (0 ≤ x → a.length ≤ 1048576) := by
  have hl := ha.1
  unfold vo b
  rw [Lib.w64_ok (x := L - (a.length : Int)) (by omega) (by omega)]
  by_cases hc : L - (a.length : Int) < 0
  · rw [decide_eq_true hc]; exact ⟨-1, rfl, by omega, fun h => by omega⟩
  · rw [decide_eq_false hc, cond_false]
    have key := Lib.loop_post (fun n (s : Nat × Int) => l5 Lib.big (fun (_ : Row) (_ y6 _ : Int) => some y6) (fun (_ : Row) (y9 _ _ : Int) => some y9) n a s.2 0 (s.1 : Int)) (fun s => a.length - s.1) (fun s => s.1 ≤ a.length ∧ 0 ≤ s.2 ∧ s.2 ≤ 1048576) (fun x => x ≤ 1048576) (fun n s hs => by
      obtain ⟨i, L⟩ := s
      obtain ⟨hi, hL0, hL1⟩ := hs
      dsimp only at hi hL0 hL1 ⊢
      by_cases h : i < a.length
      · have hi1 : w64 ((i : Int) + 1) = ((i + 1 : Nat) : Int) := Lib.w64_ok (by omega) (by omega)
        have hw : Pu.laws_szEntry.v (cvS (cellAt a i 0)) (cvI (cellAt a i 1)) (cvI (cellAt a i (1 + 1))) (cvS (cellAt a i (1 + 1 + 1))) L ≤ 1048576 := Pu.laws_szEntry.bd _ _ _ _ L (Lib.okS_cell ha i _) (Lib.okS_cell ha i _) hL0 hL1
        by_cases hn : Pu.laws_szEntry.v (cvS (cellAt a i 0)) (cvI (cellAt a i 1)) (cvI (cellAt a i (1 + 1))) (cvS (cellAt a i (1 + 1 + 1))) L < 0
        · exact .inl ⟨-1, by simp only [l5, r5, Lib.dlt, h, decide_true, Lib.dle0, Bool.and_self, cond_true, Lib.toN, hn], by omega⟩
        · exact .inr ⟨(i + 1, Pu.laws_szEntry.v (cvS (cellAt a i 0)) (cvI (cellAt a i 1)) (cvI (cellAt a i (1 + 1))) (cvS (cellAt a i (1 + 1 + 1))) L), ⟨h, by omega, hw⟩, by dsimp only; omega, by simp only [l5, r5, Lib.dlt, h, decide_true, decide_false, Lib.dle0, Bool.and_self, cond_true, cond_false, Lib.toN, hn, hi1]⟩
      · exact .inl ⟨L, by simp only [l5, r5, Lib.dlt, h, decide_false, cond_false], hL1⟩) Lib.big (0, L - (a.length : Int)) ⟨Nat.zero_le _, by dsimp only; omega, by dsimp only; omega⟩ (Lib.lt_big (by omega))
    obtain ⟨x, hx, hb⟩ := key
    exact ⟨x, hx, hb, fun _ => by omega⟩
theorem ok (a : Row) (L : Int) (h0 : 0 ≤ L) (h1 : L ≤ 1048576) (ha : FitR a) : c a L = true ∧ v a L ≤ 1048576 ∧ (0 ≤ v a L → a.length ≤ 1048576) := by
  obtain ⟨x, h, h2, h3⟩ := run a L h0 h1 ha
  obtain ⟨e1, e2⟩ := out a L h
  rw [e2]; exact ⟨e1, h2, h3⟩
end Go.FG.Pu.laws_szEntryS

namespace Go.FG.Pu.laws_toFileS
/-- The rows' cells, one for one. -/
def tl (a0 : Row) : Row := a0.map fun y => [CV.s (cvS (y.getD 0 (.b false))), CV.s (cvS (y.getD 1 (.b false))), CV.i IntKind.i64 (cvI (y.getD 2 (.b false)))]
theorem tl_len (a0 : Row) : (tl a0).length = a0.length := by unfold tl; simp
theorem tl_sh (a0 : Row) : ∀ y ∈ tl a0, y.length = 3 := by
  intro y hy; unfold tl at hy; obtain ⟨z, _, rfl⟩ := List.mem_map.1 hy; rfl
theorem tl_idem (a0 : Row) : tl (tl a0) = tl a0 := by
  unfold tl; rw [List.map_map]; apply List.map_congr_left; intro y _; rfl
theorem run (a0 : Row) (hl : a0.length ≤ 1048576) : vo a0 = some (tl a0) := by
  unfold vo b
  rw [show decide ((a0.length : Int) = (a0.length : Int)) = true by simp, Lib.toN, Lib.roomy_of (by omega) (by omega), Bool.and_self, cond_true]
  have mono := Lib.loop_gen (fun m (s : Nat) => l3 Lib.big (fun (_ : Row) (_ : Int) (y : Row) => some y) m a0 (s : Int) ((tl a0).take s ++ zeros [Ck.s, Ck.s, Ck.i IntKind.i64] (a0.length - s))) (fun i => a0.length - i) (fun i => i ≤ a0.length) (fun _ => some (tl a0)) (fun m i hi => by
    by_cases h : i < a0.length
    · right
      refine ⟨i + 1, h, by omega, rfl, ?_⟩
      have hlt : i < (tl a0).length := by rw [tl_len]; exact h
      have e := Lib.setC_step (ks := [Ck.s, Ck.s, Ck.i IntKind.i64]) (tl_len a0) h (List.getElem?_eq_getElem hlt) (tl_sh a0 _ (List.getElem_mem hlt))
      have eg : (tl a0)[i] = [CV.s (cvS (cellAt a0 i 0)), CV.s (cvS (cellAt a0 i 1)), CV.i IntKind.i64 (cvI (cellAt a0 i 2))] := by simp [tl, cellAt, List.getD, h]
      rw [eg] at e
      have hx : ((tl a0).take i ++ zeros [Ck.s, Ck.s, Ck.i IntKind.i64] (a0.length - i)).length = a0.length := by rw [List.length_append, List.length_take, tl_len, Lib.length_zeros]; omega
      have hi1 : w64 ((i : Int) + 1) = ((i + 1 : Nat) : Int) := Lib.w64_ok (by omega) (by omega)
      show l3 Lib.big _ (m + 1) a0 (i : Int) _ = l3 Lib.big _ m a0 ((i + 1 : Nat) : Int) _
      rw [← e]
      simp only [l3, r3, hx, Lib.dlt, Lib.dle0, Lib.toN, h, decide_true, Bool.and_self, cond_true, hi1]
    · left
      have : i = a0.length := by omega
      subst this
      rw [Nat.sub_self, List.take_of_length_le (by rw [tl_len]; exact Nat.le_refl _), show zeros [Ck.s, Ck.s, Ck.i IntKind.i64] 0 = [] from rfl, List.append_nil]
      simp only [l3, r3, Lib.dlt, Nat.lt_irrefl, decide_false, cond_false]) Lib.big 0 (Nat.zero_le _) (Lib.lt_big (by omega))
  simpa using mono
theorem ok (a0 : Row) (hl : a0.length ≤ 1048576) : c a0 = true ∧ v a0 = tl a0 := out a0 (run a0 hl)
end Go.FG.Pu.laws_toFileS

namespace Go.FG.Pu.laws_toDisk
theorem ok (a0 : Row) (hl : a0.length ≤ 1048576) : c a0 = true ∧ v a0 = Pu.laws_toFileS.tl a0 := by
  have h := Pu.laws_toFileS.ok a0 hl
  exact out a0 (by unfold vo b; rw [h.1, h.2, cond_true])
end Go.FG.Pu.laws_toDisk

namespace Go.FG.Pu.laws_toEntryS
/-- The rows' cells, one for one. -/
def tl (a0 : Row) : Row := a0.map fun y => [CV.s (cvS (y.getD 0 (.b false))), CV.i IntKind.i64 (cvI (y.getD 1 (.b false))), CV.i IntKind.i64 (cvI (y.getD 2 (.b false))), CV.s (cvS (y.getD 3 (.b false)))]
theorem tl_len (a0 : Row) : (tl a0).length = a0.length := by unfold tl; simp
theorem tl_sh (a0 : Row) : ∀ y ∈ tl a0, y.length = 4 := by
  intro y hy; unfold tl at hy; obtain ⟨z, _, rfl⟩ := List.mem_map.1 hy; rfl
theorem tl_idem (a0 : Row) : tl (tl a0) = tl a0 := by
  unfold tl; rw [List.map_map]; apply List.map_congr_left; intro y _; rfl
theorem run (a0 : Row) (hl : a0.length ≤ 1048576) : vo a0 = some (tl a0) := by
  unfold vo b
  rw [show decide ((a0.length : Int) = (a0.length : Int)) = true by simp, Lib.toN, Lib.roomy_of (by omega) (by omega), Bool.and_self, cond_true]
  have mono := Lib.loop_gen (fun m (s : Nat) => l3 Lib.big (fun (_ : Row) (_ : Int) (y : Row) => some y) m a0 (s : Int) ((tl a0).take s ++ zeros [Ck.s, Ck.i IntKind.i64, Ck.i IntKind.i64, Ck.s] (a0.length - s))) (fun i => a0.length - i) (fun i => i ≤ a0.length) (fun _ => some (tl a0)) (fun m i hi => by
    by_cases h : i < a0.length
    · right
      refine ⟨i + 1, h, by omega, rfl, ?_⟩
      have hlt : i < (tl a0).length := by rw [tl_len]; exact h
      have e := Lib.setC_step (ks := [Ck.s, Ck.i IntKind.i64, Ck.i IntKind.i64, Ck.s]) (tl_len a0) h (List.getElem?_eq_getElem hlt) (tl_sh a0 _ (List.getElem_mem hlt))
      have eg : (tl a0)[i] = [CV.s (cvS (cellAt a0 i 0)), CV.i IntKind.i64 (cvI (cellAt a0 i 1)), CV.i IntKind.i64 (cvI (cellAt a0 i 2)), CV.s (cvS (cellAt a0 i 3))] := by simp [tl, cellAt, List.getD, h]
      rw [eg] at e
      have hx : ((tl a0).take i ++ zeros [Ck.s, Ck.i IntKind.i64, Ck.i IntKind.i64, Ck.s] (a0.length - i)).length = a0.length := by rw [List.length_append, List.length_take, tl_len, Lib.length_zeros]; omega
      have hi1 : w64 ((i : Int) + 1) = ((i + 1 : Nat) : Int) := Lib.w64_ok (by omega) (by omega)
      show l3 Lib.big _ (m + 1) a0 (i : Int) _ = l3 Lib.big _ m a0 ((i + 1 : Nat) : Int) _
      rw [← e]
      simp only [l3, r3, hx, Lib.dlt, Lib.dle0, Lib.toN, h, decide_true, Bool.and_self, cond_true, hi1]
    · left
      have : i = a0.length := by omega
      subst this
      rw [Nat.sub_self, List.take_of_length_le (by rw [tl_len]; exact Nat.le_refl _), show zeros [Ck.s, Ck.i IntKind.i64, Ck.i IntKind.i64, Ck.s] 0 = [] from rfl, List.append_nil]
      simp only [l3, r3, Lib.dlt, Nat.lt_irrefl, decide_false, cond_false]) Lib.big 0 (Nat.zero_le _) (Lib.lt_big (by omega))
  simpa using mono
theorem ok (a0 : Row) (hl : a0.length ≤ 1048576) : c a0 = true ∧ v a0 = tl a0 := out a0 (run a0 hl)
end Go.FG.Pu.laws_toEntryS

namespace Go.FG.Pu.spec_l02Four
theorem size (x : Int) : (v x).size = 4 := by
  unfold v; rw [Lib.size_bytesOf]; simp only [List.length_set, Lib.length_zeros]
end Go.FG.Pu.spec_l02Four

namespace Go.FG.Pu.spec_SumMore
/-- One bit. -/
def rd (x : Int) : Int := bif decide (Int.tmod x 2 = 1) then (IntKind.wrap IntKind.u32 (↑(BitVec.toNat (BitVec.xor (BitVec.ofInt 32 (IntKind.wrap IntKind.u32 (Int.tdiv x 2))) (BitVec.ofInt 32 3558460437))) : Int)) else (IntKind.wrap IntKind.u32 (Int.tdiv x 2))
def rds : Nat → Int → Int | 0, x => x | n + 1, x => rds n (rd x)
theorem in6 {R : Type} (N : Nat) (K : Int → ByteArray → Int → Int → Option R) (a : ByteArray) (b : Int) : ∀ (d n i : Nat) (x : Int), d + i = 8 → d < n → l6 N K n x a b (i : Int) = K (rds d x) a b 8 := by
  intro d
  induction d with
  | zero =>
    intro n i x h1 h2
    obtain ⟨n, rfl⟩ : ∃ m, n = m + 1 := ⟨n - 1, by omega⟩
    have : i = 8 := by omega
    subst this
    rfl
  | succ d ih =>
    intro n i x h1 h2
    obtain ⟨n, rfl⟩ : ∃ m, n = m + 1 := ⟨n - 1, by omega⟩
    have hi1 : w64 ((i : Int) + 1) = ((i + 1 : Nat) : Int) := Lib.w64_ok (by omega) (by omega)
    rw [rds, ← ih n (i + 1) (rd x) (by omega) (by omega)]
    simp only [l6, r6, decide_eq_true (show (i : Int) < 8 by omega), cond_true, hi1, rd]
    cases decide (Int.tmod x 2 = 1) <;> rfl
def su (t : ByteArray) : Nat → Nat → Int → Int
  | 0, _, s => s
  | d + 1, i, s => su t d (i + 1) (rds 8 (IntKind.wrap IntKind.u32 (↑(BitVec.toNat (BitVec.xor (BitVec.ofInt 32 s) (BitVec.ofInt 32 (IntKind.wrap IntKind.u32 (↑(btN t i) : Int))))) : Int)))
theorem run (s : Int) (t : ByteArray) (ht : t.size ≤ 4611686018427387904) : vo s t = some (su t t.size 0 s) := by
  unfold vo b
  have key : ∀ (d n i : Nat) (s : Int), d + i = t.size → d < n → l2 Lib.big (fun (y11 : Int) (_ : ByteArray) (_ : Int) => some y11) n s t (i : Int) = some (su t d i s) := by
    intro d
    induction d with
    | zero =>
      intro n i s h1 h2
      obtain ⟨n, rfl⟩ : ∃ m, n = m + 1 := ⟨n - 1, by omega⟩
      simp only [l2, r2, Lib.dlt, decide_eq_false (show ¬ i < t.size by omega), cond_false]; rfl
    | succ d ih =>
      intro n i s h1 h2
      obtain ⟨n, rfl⟩ : ∃ m, n = m + 1 := ⟨n - 1, by omega⟩
      have hi1 : w64 ((i : Int) + 1) = ((i + 1 : Nat) : Int) := Lib.w64_ok (by omega) (by omega)
      simp only [l2, r2, Lib.dlt, decide_eq_true (show i < t.size by omega), Lib.dle0, Bool.and_self, cond_true, Lib.toN]
      have e := in6 (R := Int) Lib.big (fun y7 y8 y9 _ => l2 Lib.big (fun y11 _ _ => some y11) n y7 y8 (w64 (y9 + 1))) t (i : Int) 8 Lib.big 0 (IntKind.wrap IntKind.u32 (↑(BitVec.toNat (BitVec.xor (BitVec.ofInt 32 s) (BitVec.ofInt 32 (IntKind.wrap IntKind.u32 (↑(btN t i) : Int))))) : Int)) rfl (by unfold Lib.big; omega)
      refine e.trans ?_
      rw [hi1, ih n (i + 1) _ (by omega) (by omega)]; rfl
  exact key t.size Lib.big 0 s (by omega) (Lib.lt_big (by omega))
theorem ok (s : Int) (t : ByteArray) (ht : t.size ≤ 4611686018427387904) : c s t = true ∧ v s t = su t t.size 0 s := out s t (run s t ht)
end Go.FG.Pu.spec_SumMore

namespace Go.FG.Pu.spec_SumOf
theorem ok (t : ByteArray) (ht : t.size ≤ 4611686018427387904) : c t = true ∧ v t = Pu.spec_SumMore.su t t.size 0 4294967295 := by
  have h := Pu.spec_SumMore.ok 4294967295 t ht
  refine out t ?_
  unfold vo b
  rw [h.1, h.2]; rfl
end Go.FG.Pu.spec_SumOf

namespace Go.FG.Pu.spec_Frame
/-- A record as it lies in a file. -/
def fr (t : ByteArray) : ByteArray := bytesOf (Lib.vb t.size) ++ Pu.spec_l02Four.v (Pu.spec_SumMore.su t t.size 0 4294967295) ++ t
def val (t : ByteArray) : ByteArray × Bool := if 1 ≤ t.size ∧ t.size ≤ 9000 then (fr t, true) else (⟨#[]⟩, false)
theorem in_dec (n a b : Int) : Pu.spec_l01In.v n a b = decide (a ≤ n ∧ n ≤ b) := by
  unfold Pu.spec_l01In.v
  by_cases h : a ≤ n <;> by_cases h2 : n ≤ b <;> simp [h, h2]
theorem fr_size {t : ByteArray} (h : t.size ≤ 9000) : (fr t).size ≤ t.size + 68 := by
  unfold fr
  have := Lib.var_size (x := (t.size : Int)) (by omega)
  rw [Lib.size_app, Lib.size_app, Pu.spec_l02Four.size]; omega
theorem ok (t : ByteArray) : c t = true ∧ v t = val t := by
  refine out t ?_
  unfold vo b val
  rw [in_dec]
  by_cases h : 1 ≤ t.size ∧ t.size ≤ 9000
  · have hs := Pu.spec_SumOf.ok t (by omega)
    have hc : Pu.spec_l01Var.c (t.size : Int) = true := decide_eq_true (show (t.size : Int) ≤ 9223372036854775807 by omega)
    have z1 : (Pu.spec_l01Var.v (t.size : Int)).size ≤ 64 := Lib.var_size (x := (t.size : Int)) (by omega)
    rw [decide_eq_true (show (1 : Int) ≤ (t.size : Int) ∧ (t.size : Int) ≤ 9000 by omega), if_pos h, hs.1, hs.2]
    simp (disch := omega) only [Bool.not_true, cond_false, cond_true, hc, Lib.size_app, Pu.spec_l02Four.size, Lib.dnat]
    rfl
  · rw [decide_eq_false (show ¬ ((1 : Int) ≤ (t.size : Int) ∧ (t.size : Int) ≤ 9000) by omega), if_neg h]; rfl
end Go.FG.Pu.spec_Frame

namespace Go.FG.Pu.impl_SumMore
theorem in6 {R : Type} (N : Nat) (K : Int → ByteArray → Int → Int → Option R) (a : ByteArray) (b : Int) : ∀ (d n i : Nat) (x : Int), d + i = 8 → d < n → l6 N K n x a b (i : Int) = K (Pu.spec_SumMore.rds d x) a b 8 := by
  intro d
  induction d with
  | zero =>
    intro n i x h1 h2
    obtain ⟨n, rfl⟩ : ∃ m, n = m + 1 := ⟨n - 1, by omega⟩
    have : i = 8 := by omega
    subst this
    rfl
  | succ d ih =>
    intro n i x h1 h2
    obtain ⟨n, rfl⟩ : ∃ m, n = m + 1 := ⟨n - 1, by omega⟩
    have hi1 : w64 ((i : Int) + 1) = ((i + 1 : Nat) : Int) := Lib.w64_ok (by omega) (by omega)
    rw [Pu.spec_SumMore.rds, ← ih n (i + 1) (Pu.spec_SumMore.rd x) (by omega) (by omega)]
    simp only [l6, r6, decide_eq_true (show (i : Int) < 8 by omega), cond_true, hi1, Pu.spec_SumMore.rd]
    cases decide (Int.tmod x 2 = 1) <;> rfl
theorem run (s : Int) (t : ByteArray) (ht : t.size ≤ 4611686018427387904) : vo s t = some (Pu.spec_SumMore.su t t.size 0 s) := by
  unfold vo b
  have key : ∀ (d n i : Nat) (s : Int), d + i = t.size → d < n → l2 Lib.big (fun (y11 : Int) (_ : ByteArray) (_ : Int) => some y11) n s t (i : Int) = some (Pu.spec_SumMore.su t d i s) := by
    intro d
    induction d with
    | zero =>
      intro n i s h1 h2
      obtain ⟨n, rfl⟩ : ∃ m, n = m + 1 := ⟨n - 1, by omega⟩
      simp only [l2, r2, Lib.dlt, decide_eq_false (show ¬ i < t.size by omega), cond_false]; rfl
    | succ d ih =>
      intro n i s h1 h2
      obtain ⟨n, rfl⟩ : ∃ m, n = m + 1 := ⟨n - 1, by omega⟩
      have hi1 : w64 ((i : Int) + 1) = ((i + 1 : Nat) : Int) := Lib.w64_ok (by omega) (by omega)
      simp only [l2, r2, Lib.dlt, decide_eq_true (show i < t.size by omega), Lib.dle0, Bool.and_self, cond_true, Lib.toN]
      have e := in6 (R := Int) Lib.big (fun y7 y8 y9 _ => l2 Lib.big (fun y11 _ _ => some y11) n y7 y8 (w64 (y9 + 1))) t (i : Int) 8 Lib.big 0 (IntKind.wrap IntKind.u32 (↑(BitVec.toNat (BitVec.xor (BitVec.ofInt 32 s) (BitVec.ofInt 32 (IntKind.wrap IntKind.u32 (↑(btN t i) : Int))))) : Int)) rfl (by unfold Lib.big; omega)
      refine e.trans ?_
      rw [hi1, ih n (i + 1) _ (by omega) (by omega)]; rfl
  exact key t.size Lib.big 0 s (by omega) (Lib.lt_big (by omega))
theorem ok (s : Int) (t : ByteArray) (ht : t.size ≤ 4611686018427387904) : c s t = true ∧ v s t = Pu.spec_SumMore.su t t.size 0 s := out s t (run s t ht)
end Go.FG.Pu.impl_SumMore

namespace Go.FG.Pu.impl_SumOf
theorem ok (t : ByteArray) (ht : t.size ≤ 4611686018427387904) : c t = true ∧ v t = Pu.spec_SumMore.su t t.size 0 4294967295 := by
  have h := Pu.impl_SumMore.ok 4294967295 t ht
  refine out t ?_
  unfold vo b
  rw [h.1, h.2]; rfl
end Go.FG.Pu.impl_SumOf

namespace Go.FG.Pu.impl_sumText
theorem ok (t : ByteArray) (ht : t.size ≤ 4611686018427387904) : c t = true ∧ v t = Pu.spec_l02Four.v (Pu.spec_SumMore.su t t.size 0 4294967295) := by
  have h := Pu.impl_SumOf.ok t ht
  refine out t ?_
  unfold vo b
  rw [h.1, h.2]; rfl
end Go.FG.Pu.impl_sumText

namespace Go.FG.Pu.impl_Frame
theorem wi (n a b : Int) : Pu.impl_within.v n a b = decide (a ≤ n ∧ n ≤ b) := Pu.spec_Frame.in_dec n a b
theorem ok (t : ByteArray) : c t = true ∧ v t = Pu.spec_Frame.val t := by
  refine out t ?_
  unfold vo b Pu.spec_Frame.val
  rw [wi]
  by_cases h : 1 ≤ t.size ∧ t.size ≤ 9000
  · have hs := Pu.impl_sumText.ok t (by omega)
    have z1 : (bytesOf (Lib.vb (t.size : Int))).size ≤ 64 := Lib.var_size (x := (t.size : Int)) (by omega)
    have e2 : Pu.impl_VarText.v (t.size : Int) = (bytesOf (Lib.vb t.size), true) := by unfold Pu.impl_VarText.v; rw [if_pos (by omega)]
    rw [decide_eq_true (show (1 : Int) ≤ (t.size : Int) ∧ (t.size : Int) ≤ 9000 by omega), if_pos h, hs.1, hs.2, e2]
    simp (disch := omega) only [Bool.not_true, cond_false, cond_true, Lib.size_app, Pu.spec_l02Four.size, Lib.dnat]
    rfl
  · rw [decide_eq_false (show ¬ ((1 : Int) ≤ (t.size : Int) ∧ (t.size : Int) ≤ 9000) by omega), if_neg h]; rfl
end Go.FG.Pu.impl_Frame

namespace Go.FG.Pu.impl_framed
theorem txt_size {k b : ByteArray} {s l : Int} (h : Pu.spec_EntryOk.v k s l b = true) : (Pu.spec_EntryText.txt k s l b).size ≤ 1000 := by
  have hr := Pu.spec_EntryOk.rng h
  have z1 : (bytesOf (Lib.vb (k.size : Int))).size ≤ 64 := Lib.var_size (x := (k.size : Int)) (by omega)
  have z2 : (bytesOf (Lib.vb s)).size ≤ 64 := Lib.var_size (x := s) (by omega)
  have z3 : (bytesOf (Lib.vb l)).size ≤ 64 := Lib.var_size (x := l) (by omega)
  unfold Pu.spec_EntryText.txt
  simp only [Lib.size_app]
  omega
theorem txt_pos {k b : ByteArray} {s l : Int} (h : Pu.spec_EntryOk.v k s l b = true) : 1 ≤ (Pu.spec_EntryText.txt k s l b).size := by
  have hr := Pu.spec_EntryOk.rng h
  unfold Pu.spec_EntryText.txt
  simp only [Lib.size_app]
  omega
def val (k : ByteArray) (s l : Int) (b : ByteArray) : ByteArray × Bool := if Pu.spec_EntryOk.v k s l b = true then (Pu.spec_Frame.fr (Pu.spec_EntryText.txt k s l b), true) else (⟨#[]⟩, false)
theorem ok (k : ByteArray) (s l : Int) (b0 : ByteArray) : c k s l b0 = true ∧ v k s l b0 = val k s l b0 := by
  refine out k s l b0 ?_
  have hf := Pu.impl_Frame.ok (Pu.impl_EntryText.v k s l b0).1
  unfold vo b val
  rw [hf.1, hf.2]
  unfold Pu.impl_EntryText.v Pu.spec_EntryText.v Pu.spec_Frame.val
  by_cases h : Pu.spec_EntryOk.v k s l b0 = true
  · have h1 := txt_size h
    have h2 := txt_pos h
    rw [if_pos h, if_pos h, if_pos (by dsimp only; omega)]; rfl
  · rw [if_neg h, if_neg h]; rfl
end Go.FG.Pu.impl_framed

namespace Go.FG.Pu.spec_DiskOk
def el (r : Row) (i : Nat) : Bool := decide (1 ≤ ((cvS (cellAt r i 0)).size : Int) ∧ ((cvS (cellAt r i 0)).size : Int) ≤ 8) && (!decide (((cvS (cellAt r i 1)).size : Int) > 20000) && (decide (0 ≤ cvI (cellAt r i 2) ∧ cvI (cellAt r i 2) ≤ ((cvS (cellAt r i 1)).size : Int)) && (i == 0 || Go.Op.bytesLess (ByteArray.toList (cvS (cellAt r (i - 1) 0))) (ByteArray.toList (cvS (cellAt r i 0))))))
def val (r : Row) : Bool := decide (r.length ≤ 30) && (List.range r.length).all (el r)
theorem in_eq (n a b : Int) : Pu.spec_l01In.v n a b = decide (a ≤ n ∧ n ≤ b) := by
  unfold Pu.spec_l01In.v
  by_cases h : a ≤ n <;> by_cases h2 : n ≤ b <;> simp [h, h2]
theorem w64_p {i : Nat} (h : 0 < i) (hn : i ≤ 9223372036854775807) : w64 ((i : Int) - 1) = ((i - 1 : Nat) : Int) := by
  rw [Lib.w64_ok (by omega) (by omega)]; omega
theorem ok (r : Row) (hl : r.length ≤ 4294967296) : c r = true ∧ v r = val r := by
  refine out r ?_
  unfold vo b val
  by_cases h30 : (r.length : Int) > 30
  · rw [decide_eq_true h30, cond_true, decide_eq_false (show ¬ r.length ≤ 30 by omega)]; rfl
  rw [decide_eq_false h30, cond_false, decide_eq_true (show r.length ≤ 30 by omega), Bool.true_and]
  have key := Lib.all_gen (el r) r.length (fun m (i : Nat) => l4 Lib.big (fun (y3 : Bool) (_ : Int) (_ : Row) => some y3) (fun (_ : Bool) (_ : Int) (_ : Row) => some true) m false (i : Int) r) (some false) (some true)
    (fun m i hi hp => by
      unfold el at hp
      simp only [Bool.and_eq_true] at hp
      obtain ⟨h1, h2, h3, h4⟩ := hp
      have h3 : decide (0 ≤ cvI (cellAt r i (1 + 1)) ∧ cvI (cellAt r i (1 + 1)) ≤ ((cvS (cellAt r i 1)).size : Int)) = true := h3
      have h2 : decide (((cvS (cellAt r i 1)).size : Int) > 20000) = false := by simpa using h2
      by_cases hz : 0 < i
      · have e0 : decide ((i : Int) > 0) = true := decide_eq_true (by omega)
        have hp' : i - 1 < r.length := by omega
        have h5 : Go.Op.bytesLess (ByteArray.toList (cvS (cellAt r (i - 1) 0))) (ByteArray.toList (cvS (cellAt r i 0))) = true := by
          rcases Bool.or_eq_true _ _ ▸ h4 with q | q
          · have : i = 0 := by simpa using q
            omega
          · exact q
        simp only [l4, r4, Lib.dlt, hi, hp', decide_true, Lib.dle0, Bool.and_self, cond_true, cond_false, Lib.toN, Pu.spec_l03Name.v, in_eq, h1, h2, h3, h5, e0, w64_p hz (by omega), Bool.not_true, Lib.w64_s hi (by omega : r.length ≤ 9223372036854775807)]
      · have e0 : decide ((i : Int) > 0) = false := decide_eq_false (by omega)
        simp only [l4, r4, Lib.dlt, hi, decide_true, Lib.dle0, Bool.and_self, cond_true, cond_false, Lib.toN, Pu.spec_l03Name.v, in_eq, h1, h2, h3, e0, Bool.not_true, Lib.w64_s hi (by omega : r.length ≤ 9223372036854775807)])
    (fun m i hi hp => by
      unfold el at hp
      cases h1 : decide (1 ≤ ((cvS (cellAt r i 0)).size : Int) ∧ ((cvS (cellAt r i 0)).size : Int) ≤ 8) with
      | false => simp only [l4, r4, Lib.dlt, hi, decide_true, Lib.dle0, Bool.and_self, cond_true, cond_false, Lib.toN, Pu.spec_l03Name.v, in_eq, h1, Bool.not_false]
      | true =>
      cases h2 : decide (((cvS (cellAt r i 1)).size : Int) > 20000) with
      | true => simp only [l4, r4, Lib.dlt, hi, decide_true, Lib.dle0, Bool.and_self, cond_true, cond_false, Lib.toN, Pu.spec_l03Name.v, in_eq, h1, h2, Bool.not_true]
      | false =>
      cases h3 : decide (0 ≤ cvI (cellAt r i (1 + 1)) ∧ cvI (cellAt r i (1 + 1)) ≤ ((cvS (cellAt r i 1)).size : Int)) with
      | false => simp only [l4, r4, Lib.dlt, hi, decide_true, Lib.dle0, Bool.and_self, cond_true, cond_false, Lib.toN, Pu.spec_l03Name.v, in_eq, h1, h2, h3, Bool.not_true, Bool.not_false]
      | true =>
      rw [h1, h2, show decide (0 ≤ cvI (cellAt r i 2) ∧ cvI (cellAt r i 2) ≤ ((cvS (cellAt r i 1)).size : Int)) = true from h3, Bool.not_false, Bool.true_and, Bool.true_and, Bool.true_and] at hp
      rw [Bool.or_eq_false_iff] at hp
      obtain ⟨h4, h5⟩ := hp
      have hz : 0 < i := by
        have : ¬ i = 0 := by simpa using h4
        omega
      have e0 : decide ((i : Int) > 0) = true := decide_eq_true (by omega)
      have hp' : i - 1 < r.length := by omega
      simp only [l4, r4, Lib.dlt, hi, hp', decide_true, Lib.dle0, Bool.and_self, cond_true, cond_false, Lib.toN, Pu.spec_l03Name.v, in_eq, h1, h2, h3, h5, e0, w64_p hz (by omega), Bool.not_true, Bool.not_false])
    (fun m => by simp only [l4, r4, Lib.dlt, Nat.lt_irrefl, decide_false, cond_false]) Lib.big (Lib.lt_big (by omega))
  refine key.trans ?_
  cases (List.range r.length).all (el r) <;> rfl
end Go.FG.Pu.spec_DiskOk

namespace Go.FG.Pu.spec_l03At
def p (d : Row) (n : ByteArray) (i : Nat) : Bool := List.beq (ByteArray.toList (cvS (cellAt d i 0))) (ByteArray.toList n)
theorem ok (d : Row) (n : ByteArray) (hl : d.length ≤ 4294967296) : c d n = true ∧ v d n = Lib.fi (p d n) d.length 0 := by
  refine out d n ?_
  unfold vo b
  refine Lib.fi_gen (p d n) d.length (fun m (i : Nat) => l2 Lib.big (fun (_ : ByteArray) (y5 _ : Int) (_ : Row) => some y5) (fun (_ : ByteArray) (_ _ : Int) (_ : Row) => some (-1)) m n 0 (i : Int) d) some (fun m i hi hp => ?_) (fun m i hi hp => ?_) (fun m => ?_) Lib.big (Lib.lt_big (by omega))
  · unfold p at hp
    simp only [l2, r2, Lib.dlt, Lib.dle0, Lib.toN, hi, decide_true, Bool.and_self, cond_true, hp]
  · unfold p at hp
    simp only [l2, r2, Lib.dlt, Lib.dle0, Lib.toN, hi, decide_true, Bool.and_self, cond_true, hp, cond_false, Lib.w64_s hi (by omega : d.length ≤ 9223372036854775807)]
  · simp only [l2, r2, Lib.dlt, Nat.lt_irrefl, decide_false, cond_false]
end Go.FG.Pu.spec_l03At

namespace Go.FG.Pu.spec_FileAt
def val (d : Row) (n : ByteArray) : ByteArray × Bool := if Lib.fi (Pu.spec_l03At.p d n) d.length 0 < 0 then (⟨#[]⟩, false) else (cvS (cellAt d (Lib.fi (Pu.spec_l03At.p d n) d.length 0).toNat 1), true)
theorem rng (d : Row) (n : ByteArray) (h : ¬ Lib.fi (Pu.spec_l03At.p d n) d.length 0 < 0) : 0 ≤ Lib.fi (Pu.spec_l03At.p d n) d.length 0 ∧ Lib.fi (Pu.spec_l03At.p d n) d.length 0 < (d.length : Int) := by
  rcases Lib.fi_rng (Pu.spec_l03At.p d n) d.length 0 with ⟨h1, _⟩ | ⟨k, h1, h2, h3, _, _⟩
  · rw [h1] at h; omega
  · rw [h3]; omega
theorem ok (d : Row) (n : ByteArray) (hl : d.length ≤ 4294967296) : c d n = true ∧ v d n = val d n := by
  refine out d n ?_
  have h := Pu.spec_l03At.ok d n hl
  unfold vo b val
  rw [h.1, h.2, cond_true]
  by_cases hn : Lib.fi (Pu.spec_l03At.p d n) d.length 0 < 0
  · rw [decide_eq_true hn, if_pos hn]; rfl
  · have hr := rng d n hn
    rw [decide_eq_false hn, if_neg hn, cond_false, decide_eq_true hr.1, decide_eq_true hr.2]; rfl
end Go.FG.Pu.spec_FileAt

namespace Go.FG.Pu.spec_AnewActs
def eo (l : Row) (i : Nat) : Bool := Pu.spec_EntryOk.v (cvS (cellAt l i 0)) (cvI (cellAt l i 1)) (cvI (cellAt l i 2)) (cvS (cellAt l i 3))
def tx (l : Row) (i : Nat) : ByteArray := Pu.spec_EntryText.txt (cvS (cellAt l i 0)) (cvI (cellAt l i 1)) (cvI (cellAt l i 2)) (cvS (cellAt l i 3))
/-- The frames one behind the other. -/
def fs (l : Row) : Nat → Nat → ByteArray → Option ByteArray
  | 0, _, acc => some acc
  | d + 1, i, acc => if eo l i = true then fs l d (i + 1) (acc ++ Pu.spec_Frame.fr (tx l i)) else none
theorem fs_succ (l : Row) (d i : Nat) (acc : ByteArray) : fs l (d + 1) i acc = if eo l i = true then fs l d (i + 1) (acc ++ Pu.spec_Frame.fr (tx l i)) else none := rfl
def fin {R : Type} (o : Option ByteArray) (kf : Option R) (kt : ByteArray → Option R) : Option R := match o with | some x => kt x | none => kf
theorem cat_run {R : Type} (l : Row) (hl : l.length ≤ 1048576) (F : Nat → Nat → ByteArray → Option R) (kf : Option R) (kt : ByteArray → Option R)
    (hT : ∀ m i acc, i < l.length → acc.size ≤ 2000 * i → (Pu.spec_Frame.fr (tx l i)).size ≤ 2000 → eo l i = true → F (m + 1) i acc = F m (i + 1) (acc ++ Pu.spec_Frame.fr (tx l i)))
    (hF : ∀ m i acc, i < l.length → eo l i = false → F (m + 1) i acc = kf) (hE : ∀ m acc, F (m + 1) l.length acc = kt acc) : F Lib.big 0 ⟨#[]⟩ = fin (fs l l.length 0 ⟨#[]⟩) kf kt := by
  have := Lib.loop_gen (fun n (z : Nat × ByteArray) => F n z.1 z.2) (fun z => l.length - z.1) (fun z => z.1 ≤ l.length ∧ z.2.size ≤ 2000 * z.1) (fun z => fin (fs l (l.length - z.1) z.1 z.2) kf kt) (fun m z hz => by
    obtain ⟨i, acc⟩ := z
    obtain ⟨h1, h2⟩ := hz
    dsimp only at h1 h2 ⊢
    by_cases h : i < l.length
    · have e : l.length - i = (l.length - (i + 1)) + 1 := by omega
      cases ho : eo l i with
      | true =>
        right
        have hs := Pu.impl_framed.txt_size ho
        have hf : (Pu.spec_Frame.fr (tx l i)).size ≤ 2000 := by
          have := Pu.spec_Frame.fr_size (t := tx l i) (by unfold tx; omega)
          unfold tx at this ⊢; omega
        exact ⟨(i + 1, acc ++ Pu.spec_Frame.fr (tx l i)), ⟨h, by dsimp only; rw [Lib.size_app]; omega⟩, by dsimp only; omega, by dsimp only; rw [e, fs_succ, if_pos ho], hT m i acc h h2 hf ho⟩
      | false => left; rw [hF m i acc h ho, e, fs_succ, if_neg (by simp [ho])]; rfl
    · left
      have : i = l.length := by omega
      subst this
      rw [hE, Nat.sub_self]; rfl) Lib.big (0, ⟨#[]⟩) ⟨Nat.zero_le _, Nat.zero_le _⟩ (Lib.lt_big (by dsimp only; omega))
  simpa using this
def nm : ByteArray := { data := #[UInt8.ofNat 110, UInt8.ofNat 101, UInt8.ofNat 119] }
def acts (has : Bool) (x : ByteArray) : Row := (if has = true then [[CV.i IntKind.i64 4, CV.s nm, CV.s { data := #[] }, CV.s { data := #[] }]] else []) ++ [[CV.i IntKind.i64 1, CV.s nm, CV.s x, CV.s { data := #[] }], [CV.i IntKind.i64 2, CV.s nm, CV.s { data := #[] }, CV.s { data := #[] }], [CV.i IntKind.i64 3, CV.s nm, CV.s { data := #[] }, CV.s { data := #[UInt8.ofNat 107, UInt8.ofNat 101, UInt8.ofNat 112, UInt8.ofNat 116] }]]
theorem acts_sh (has : Bool) (x : ByteArray) : (∀ y ∈ acts has x, y.length = 4) ∧ (acts has x).length ≤ 4 := by
  cases has
  · refine ⟨fun y hy => ?_, by show 3 ≤ 4; omega⟩
    simp [acts] at hy
    rcases hy with rfl | rfl | rfl <;> rfl
  · refine ⟨fun y hy => ?_, by show 4 ≤ 4; omega⟩
    simp [acts] at hy
    rcases hy with rfl | rfl | rfl | rfl <;> rfl
def val (d l : Row) : Row × Bool := bif Pu.spec_DiskOk.val d then (match fs l l.length 0 ⟨#[]⟩ with | some x => (acts (Pu.spec_FileAt.val d nm).2 x, true) | none => ([], false)) else ([], false)
theorem val_sh (d l : Row) : (∀ y ∈ (val d l).1, y.length = 4) ∧ (val d l).1.length ≤ 4 := by
  unfold val
  cases Pu.spec_DiskOk.val d
  · exact ⟨fun y hy => (by cases hy), Nat.zero_le _⟩
  · cases fs l l.length 0 ⟨#[]⟩ with
    | none => exact ⟨fun y hy => (by cases hy), Nat.zero_le _⟩
    | some x => exact acts_sh _ _
theorem ok (d l : Row) (hd : d.length ≤ 1048576) (hl : l.length ≤ 1048576) : c d l = true ∧ v d l = val d l := by
  refine out d l ?_
  have k1 := Pu.spec_DiskOk.ok d (by omega)
  have k2 := Pu.spec_FileAt.ok d { data := #[UInt8.ofNat 110, UInt8.ofNat 101, UInt8.ofNat 119] } (by omega)
  have e2 : Pu.spec_FileAt.val d { data := #[UInt8.ofNat 110, UInt8.ofNat 101, UInt8.ofNat 119] } = Pu.spec_FileAt.val d nm := rfl
  unfold vo b val
  rw [k1.1, k1.2, cond_true]
  cases Pu.spec_DiskOk.val d with
  | false => rfl
  | true =>
    rw [Bool.not_true, cond_false, cond_true, k2.1, cond_true, k2.2, e2]
    have tr : ∀ (K0 : Row → Bool → ByteArray → Int → Row → Row → Option (Row × Bool)) (K1 : Row → Bool → ByteArray → Int → Row → Option (Row × Bool)) (base : Row) (kt : ByteArray → Option (Row × Bool)) (h0 : ∀ x i, K0 l false x i [] base = some ([], false)) (h1 : ∀ x i, K1 l false x i base = kt x), l9 Lib.big K0 K1 Lib.big l false ⟨#[]⟩ 0 base = fin (fs l l.length 0 ⟨#[]⟩) (some ([], false)) kt := by
      intro K0 K1 base kt h0 h1
      refine cat_run l hl (fun m i acc => l9 Lib.big K0 K1 m l false acc (i : Int) base) _ kt (fun m i acc hi ha hf ho => ?_) (fun m i acc hi ho => ?_) (fun m acc => ?_)
      · have hi1 : w64 ((i : Int) + 1) = ((i + 1 : Nat) : Int) := Lib.w64_ok (by omega) (by omega)
        have t1 : Pu.spec_EntryText.v (cvS (cellAt l i 0)) (cvI (cellAt l i 1)) (cvI (cellAt l i (1 + 1))) (cvS (cellAt l i (1 + 1 + 1))) = (tx l i, true) := by
          unfold Pu.spec_EntryText.v; exact if_pos ho
        have f1 := Pu.spec_Frame.ok (tx l i)
        have f2 : Pu.spec_Frame.val (tx l i) = (Pu.spec_Frame.fr (tx l i), true) := by
          unfold Pu.spec_Frame.val
          have q1 := Pu.impl_framed.txt_pos ho
          have q2 := Pu.impl_framed.txt_size ho
          rw [if_pos ⟨q1, Nat.le_trans q2 (by omega)⟩]
        simp only [l9, r9, Lib.dlt, Lib.dle0, Lib.toN, hi, decide_true, Bool.and_self, cond_true, cond_false, t1, f1.1, f1.2, f2, Bool.not_true, decide_eq_true (show acc.size + (Pu.spec_Frame.fr (tx l i)).size ≤ 4611686018427387904 by omega), hi1]
      · have t1 : Pu.spec_EntryText.v (cvS (cellAt l i 0)) (cvI (cellAt l i 1)) (cvI (cellAt l i (1 + 1))) (cvS (cellAt l i (1 + 1 + 1))) = (⟨#[]⟩, false) := by
          unfold Pu.spec_EntryText.v
          rw [if_neg (by
            intro h
            have h' : eo l i = true := h
            rw [ho] at h'; cases h')]
        have f1 := Pu.spec_Frame.ok ⟨#[]⟩
        simp only [l9, r9, Lib.dlt, Lib.dle0, Lib.toN, hi, decide_true, Bool.and_self, cond_true, t1, f1.1, Bool.not_false]
        exact h0 acc i
      · simp only [l9, r9, Lib.dlt, Nat.lt_irrefl, decide_false, cond_false]
        exact h1 acc _
    cases hh : (Pu.spec_FileAt.val d nm).2 with
    | true =>
      rw [cond_true]
      refine (tr _ _ _ (fun x => some (acts true x, true)) (fun _ _ => rfl) (fun _ _ => rfl)).trans ?_
      cases fs l l.length 0 ⟨#[]⟩ <;> rfl
    | false =>
      rw [cond_false]
      refine (tr _ _ _ (fun x => some (acts false x, true)) (fun _ _ => rfl) (fun _ _ => rfl)).trans ?_
      cases fs l l.length 0 ⟨#[]⟩ <;> rfl
end Go.FG.Pu.spec_AnewActs

namespace Go.FG.Pu.impl_DiskOk
theorem ok (r : Row) (hl : r.length ≤ 4294967296) : c r = true ∧ v r = Pu.spec_DiskOk.val r := by
  refine out r ?_
  unfold vo b Pu.spec_DiskOk.val
  have hin : ∀ a b c, Pu.impl_within.v a b c = Pu.spec_l01In.v a b c := fun _ _ _ => rfl
  have key := Lib.all_gen (Pu.spec_DiskOk.el r) r.length (fun m (i : Nat) => l2 Lib.big (fun (y5 : Bool) (_ : Row) (_ _ : Int) (_ : Row) => some y5) (fun (_ : Bool) (_ : Row) (_ _ : Int) (y14 : Row) => some (decide ((y14.length : Int) ≤ 30))) m false r (r.length : Int) (i : Int) r) (some false) (some (decide ((r.length : Int) ≤ 30)))
    (fun m i hi hp => by
      unfold Pu.spec_DiskOk.el at hp
      simp only [Bool.and_eq_true] at hp
      obtain ⟨h1, h2, h3, h4⟩ := hp
      have h3 : decide (0 ≤ cvI (cellAt r i (1 + 1)) ∧ cvI (cellAt r i (1 + 1)) ≤ ((cvS (cellAt r i 1)).size : Int)) = true := h3
      have h2 : decide (((cvS (cellAt r i 1)).size : Int) > 20000) = false := by simpa using h2
      by_cases hz : 0 < i
      · have e0 : decide ((i : Int) > 0) = true := decide_eq_true (by omega)
        have hp' : i - 1 < r.length := by omega
        have h5 : Go.Op.bytesLess (ByteArray.toList (cvS (cellAt r (i - 1) 0))) (ByteArray.toList (cvS (cellAt r i 0))) = true := by
          rcases Bool.or_eq_true _ _ ▸ h4 with q | q
          · have : i = 0 := by simpa using q
            omega
          · exact q
        simp only [l2, r2, Lib.dlt, hi, hp', decide_true, Lib.dle0, Bool.and_self, cond_true, cond_false, Lib.toN, hin, Pu.spec_DiskOk.in_eq, h1, h2, h3, h5, e0, Pu.spec_DiskOk.w64_p hz (by omega), Bool.not_true, Lib.w64_s hi (by omega : r.length ≤ 9223372036854775807)]
      · have e0 : decide ((i : Int) > 0) = false := decide_eq_false (by omega)
        simp only [l2, r2, Lib.dlt, hi, decide_true, Lib.dle0, Bool.and_self, cond_true, cond_false, Lib.toN, hin, Pu.spec_DiskOk.in_eq, h1, h2, h3, e0, Bool.not_true, Lib.w64_s hi (by omega : r.length ≤ 9223372036854775807)])
    (fun m i hi hp => by
      unfold Pu.spec_DiskOk.el at hp
      cases h1 : decide (1 ≤ ((cvS (cellAt r i 0)).size : Int) ∧ ((cvS (cellAt r i 0)).size : Int) ≤ 8) with
      | false => simp only [l2, r2, Lib.dlt, hi, decide_true, Lib.dle0, Bool.and_self, cond_true, cond_false, Lib.toN, hin, Pu.spec_DiskOk.in_eq, h1, Bool.not_false]
      | true =>
      cases h2 : decide (((cvS (cellAt r i 1)).size : Int) > 20000) with
      | true => simp only [l2, r2, Lib.dlt, hi, decide_true, Lib.dle0, Bool.and_self, cond_true, cond_false, Lib.toN, hin, Pu.spec_DiskOk.in_eq, h1, h2, Bool.not_true]
      | false =>
      cases h3 : decide (0 ≤ cvI (cellAt r i (1 + 1)) ∧ cvI (cellAt r i (1 + 1)) ≤ ((cvS (cellAt r i 1)).size : Int)) with
      | false => simp only [l2, r2, Lib.dlt, hi, decide_true, Lib.dle0, Bool.and_self, cond_true, cond_false, Lib.toN, hin, Pu.spec_DiskOk.in_eq, h1, h2, h3, Bool.not_true, Bool.not_false]
      | true =>
      rw [h1, h2, show decide (0 ≤ cvI (cellAt r i 2) ∧ cvI (cellAt r i 2) ≤ ((cvS (cellAt r i 1)).size : Int)) = true from h3, Bool.not_false, Bool.true_and, Bool.true_and, Bool.true_and] at hp
      rw [Bool.or_eq_false_iff] at hp
      obtain ⟨h4, h5⟩ := hp
      have hz : 0 < i := by
        have : ¬ i = 0 := by simpa using h4
        omega
      have e0 : decide ((i : Int) > 0) = true := decide_eq_true (by omega)
      have hp' : i - 1 < r.length := by omega
      simp only [l2, r2, Lib.dlt, hi, hp', decide_true, Lib.dle0, Bool.and_self, cond_true, cond_false, Lib.toN, hin, Pu.spec_DiskOk.in_eq, h1, h2, h3, h5, e0, Pu.spec_DiskOk.w64_p hz (by omega), Bool.not_true, Bool.not_false])
    (fun m => by simp only [l2, r2, Lib.dlt, Nat.lt_irrefl, decide_false, cond_false]) Lib.big (Lib.lt_big (by omega))
  refine key.trans ?_
  rw [show decide ((r.length : Int) ≤ 30) = decide (r.length ≤ 30) from by rw [decide_eq_decide]; omega]
  cases (List.range r.length).all (Pu.spec_DiskOk.el r) <;> cases decide (r.length ≤ 30) <;> rfl
end Go.FG.Pu.impl_DiskOk

namespace Go.FG.Pu.slices_IndexFunc_Filea
theorem ok (d : Row) (n : ByteArray) (hl : d.length ≤ 4294967296) : c d n = true ∧ v d n = Lib.fi (Pu.spec_l03At.p d n) d.length 0 := by
  refine out d n ?_
  unfold vo b
  refine Lib.fi_gen (Pu.spec_l03At.p d n) d.length (fun m (i : Nat) => l2 Lib.big (fun (_ : Row) (_ : ByteArray) (y7 _ _ : Int) => some y7) (fun (_ : Row) (_ : ByteArray) (_ _ _ : Int) => some (-1)) m d n 0 (d.length : Int) (i : Int)) some (fun m i hi hp => ?_) (fun m i hi hp => ?_) (fun m => ?_) Lib.big (Lib.lt_big (by omega))
  · unfold Pu.spec_l03At.p at hp
    simp only [l2, r2, Lib.dlt, Lib.dle0, Lib.toN, hi, decide_true, Bool.and_self, cond_true, Pu.impl_placeOf_1.v, hp]
  · unfold Pu.spec_l03At.p at hp
    simp only [l2, r2, Lib.dlt, Lib.dle0, Lib.toN, hi, decide_true, Bool.and_self, cond_true, Pu.impl_placeOf_1.v, hp, cond_false, Lib.w64_s hi (by omega : d.length ≤ 9223372036854775807)]
  · simp only [l2, r2, Lib.dlt, Nat.lt_irrefl, decide_false, cond_false]
end Go.FG.Pu.slices_IndexFunc_Filea

namespace Go.FG.Pu.impl_placeOf
theorem ok (d : Row) (n : ByteArray) (hl : d.length ≤ 4294967296) : c d n = true ∧ v d n = Lib.fi (Pu.spec_l03At.p d n) d.length 0 := by
  have h := Pu.slices_IndexFunc_Filea.ok d n hl
  exact out d n (by unfold vo b; rw [h.1, h.2, cond_true])
end Go.FG.Pu.impl_placeOf

namespace Go.FG.Pu.impl_FileAt
theorem ok (d : Row) (n : ByteArray) (hl : d.length ≤ 4294967296) : c d n = true ∧ v d n = Pu.spec_FileAt.val d n := by
  refine out d n ?_
  have h := Pu.impl_placeOf.ok d n hl
  unfold vo b Pu.spec_FileAt.val
  rw [h.1, h.2, cond_true]
  by_cases hn : Lib.fi (Pu.spec_l03At.p d n) d.length 0 < 0
  · rw [decide_eq_true hn, if_pos hn]; rfl
  · have hr := Pu.spec_FileAt.rng d n hn
    rw [decide_eq_false hn, if_neg hn, cond_false, decide_eq_true hr.1, decide_eq_true hr.2]; rfl
end Go.FG.Pu.impl_FileAt

namespace Go.FG.Pu.impl_AnewActs
theorem ok (d l : Row) (hd : d.length ≤ 1048576) (hl : l.length ≤ 1048576) : c d l = true ∧ v d l = Pu.spec_AnewActs.val d l := by
  refine out d l ?_
  have k1 := Pu.impl_DiskOk.ok d (by omega)
  have k2 := Pu.impl_FileAt.ok d { data := #[UInt8.ofNat 110, UInt8.ofNat 101, UInt8.ofNat 119] } (by omega)
  have e2 : Pu.spec_FileAt.val d { data := #[UInt8.ofNat 110, UInt8.ofNat 101, UInt8.ofNat 119] } = Pu.spec_FileAt.val d Pu.spec_AnewActs.nm := rfl
  unfold vo b Pu.spec_AnewActs.val
  rw [k1.1, k1.2, cond_true]
  cases Pu.spec_DiskOk.val d with
  | false => rfl
  | true =>
    rw [Bool.not_true, cond_false, cond_true]
    have tr : ∀ (K0 K1 : Bool → ByteArray → Row → Int → Int → Row → Option (Row × Bool)) (kt : ByteArray → Option (Row × Bool)) (h0 : ∀ x i, K0 false x l l.length i d = some ([], false)) (h1 : ∀ x i, K1 false x l l.length i d = kt x), l5 Lib.big K0 K1 Lib.big false ⟨#[]⟩ l l.length 0 d = Pu.spec_AnewActs.fin (Pu.spec_AnewActs.fs l l.length 0 ⟨#[]⟩) (some ([], false)) kt := by
      intro K0 K1 kt h0 h1
      refine Pu.spec_AnewActs.cat_run l hl (fun m i acc => l5 Lib.big K0 K1 m false acc l l.length (i : Int) d) _ kt (fun m i acc hi ha hf ho => ?_) (fun m i acc hi ho => ?_) (fun m acc => ?_)
      · have hi1 : w64 ((i : Int) + 1) = ((i + 1 : Nat) : Int) := Lib.w64_ok (by omega) (by omega)
        have f1 := Pu.impl_framed.ok (cvS (cellAt l i 0)) (cvI (cellAt l i 1)) (cvI (cellAt l i (1 + 1))) (cvS (cellAt l i (1 + 1 + 1)))
        have f2 : Pu.impl_framed.val (cvS (cellAt l i 0)) (cvI (cellAt l i 1)) (cvI (cellAt l i (1 + 1))) (cvS (cellAt l i (1 + 1 + 1))) = (Pu.spec_Frame.fr (Pu.spec_AnewActs.tx l i), true) := by
          unfold Pu.impl_framed.val; exact if_pos ho
        simp only [l5, r5, Lib.dlt, Lib.dle0, Lib.toN, hi, decide_true, Bool.and_self, cond_true, cond_false, f1.1, f1.2, f2, Bool.not_true, decide_eq_true (show acc.size + (Pu.spec_Frame.fr (Pu.spec_AnewActs.tx l i)).size ≤ 4611686018427387904 by omega), hi1]
      · have f1 := Pu.impl_framed.ok (cvS (cellAt l i 0)) (cvI (cellAt l i 1)) (cvI (cellAt l i (1 + 1))) (cvS (cellAt l i (1 + 1 + 1)))
        have f2 : Pu.impl_framed.val (cvS (cellAt l i 0)) (cvI (cellAt l i 1)) (cvI (cellAt l i (1 + 1))) (cvS (cellAt l i (1 + 1 + 1))) = (⟨#[]⟩, false) := by
          unfold Pu.impl_framed.val
          rw [if_neg (by
            intro h
            have h' : Pu.spec_AnewActs.eo l i = true := h
            rw [ho] at h'; cases h')]
        simp only [l5, r5, Lib.dlt, Lib.dle0, Lib.toN, hi, decide_true, Bool.and_self, cond_true, f1.1, f1.2, f2, Bool.not_false]
        exact h0 acc i
      · simp only [l5, r5, Lib.dlt, Nat.lt_irrefl, decide_false, cond_false]
        exact h1 acc _
    refine (tr _ _ (fun x => some (Pu.spec_AnewActs.acts (Pu.spec_FileAt.val d Pu.spec_AnewActs.nm).2 x, true)) (fun _ _ => rfl) (fun x _ => ?_)).trans ?_
    · rw [k2.1, cond_true, k2.2, e2]
      cases (Pu.spec_FileAt.val d Pu.spec_AnewActs.nm).2 <;> rfl
    · cases Pu.spec_AnewActs.fs l l.length 0 ⟨#[]⟩ <;> rfl
end Go.FG.Pu.impl_AnewActs

namespace Go.FG.Pu.laws_eqActS
theorem run (a : Row) (hl : a.length ≤ 9223372036854775807) : vo a a = some true := by
  unfold vo b
  rw [show ((a.length : Int) != (a.length : Int)) = false from bne_self_eq_false _, cond_false]
  have := Lib.loop_gen (fun n (i : Nat) => l4 Lib.big (fun (_ _ : Row) (y : Bool) (_ : Int) => some y) (fun (_ _ : Row) (_ : Bool) (_ : Int) => some true) n a a false (i : Int)) (fun i => a.length - i) (fun i => i ≤ a.length) (fun _ => some true) (fun n i hi => by
    by_cases h : i < a.length
    · right
      refine ⟨i + 1, h, by omega, rfl, ?_⟩
      have hi1 : w64 ((i : Int) + 1) = ((i + 1 : Nat) : Int) := Lib.w64_ok (by omega) (by omega)
      have hel : ∀ (x0 : Int) (x1 : ByteArray) (x2 : ByteArray) (x3 : ByteArray), Pu.laws_eqAct.v x0 x1 x2 x3 x0 x1 x2 x3 = true := fun _ _ _ _ => by
        simp only [Pu.laws_eqAct.v, bne_self_eq_false, Lib.beq_refl_ba, Bool.not_true, cond_false]
      simp only [l4, r4, Lib.dlt, h, decide_true, Lib.dle0, Bool.and_self, cond_true, Lib.toN, hi1, hel, Bool.not_true, cond_false]
    · left
      simp only [l4, r4, Lib.dlt, h, decide_false, cond_false]) Lib.big 0 (Nat.zero_le _) (Lib.lt_big (by omega))
  exact this
theorem ok (a : Row) (hl : a.length ≤ 9223372036854775807) : c a a = true ∧ v a a = true := out a a (run a hl)
end Go.FG.Pu.laws_eqActS

namespace Go.FG.Pu.laws_markText
theorem post (k : Int) (h1 : k ≤ 1152921504606846976) : ∃ x, vo k = some x := by
  unfold vo b
  cases h : decide (k ≤ 0) with
  | true => exact ⟨_, rfl⟩
  | false =>
    rw [cond_false]
    have h0 : ¬ k ≤ 0 := of_decide_eq_false h
    obtain ⟨x, hx, _⟩ := Lib.loop_post (fun n (s : Int × ByteArray) => l4 Lib.big (fun (y2 : Int) (y3 : ByteArray) => bif (decide (ByteArray.size { data := #[UInt8.ofNat 109] } + ByteArray.size y3 ≤ 4611686018427387904)) then some ({ data := #[UInt8.ofNat 109] } ++ y3) else none) n s.1 s.2)
      (fun s => s.1.toNat) (fun s => 0 ≤ s.1 ∧ (s.2.size : Int) + s.1 ≤ 1152921504606846976) (fun _ => True) (fun n s hs => by
        obtain ⟨x, t⟩ := s
        obtain ⟨a1, a2⟩ := hs
        dsimp only at a1 a2 ⊢
        have hsz : ByteArray.size (bytesOf (List.set (zeros [Ck.i IntKind.u8] 1) 0 [CV.i IntKind.u8 (IntKind.wrap IntKind.u8 (w64 (48 + Int.tmod x 10)))])) = 1 := by rw [Lib.size_bytesOf, List.length_set]; rfl
        by_cases hx : x > 0
        · right
          have e1 : Int.tdiv x 10 = x / 10 := Int.tdiv_eq_ediv_of_nonneg (by omega)
          refine ⟨(w64 (Int.tdiv x 10), bytesOf (List.set (zeros [Ck.i IntKind.u8] 1) 0 [CV.i IntKind.u8 (IntKind.wrap IntKind.u8 (w64 (48 + Int.tmod x 10)))]) ++ t), ?_, ?_, ?_⟩
          · dsimp only
            rw [e1, Lib.w64_ok (by omega) (by omega), Lib.size_app, hsz]; omega
          · dsimp only; rw [e1, Lib.w64_ok (by omega) (by omega)]; omega
          · simp only [l4, r4, decide_eq_true hx, cond_true, hsz]
            rw [Lib.bif_t (Lib.dnat (by omega))]
        · left
          refine ⟨{ data := #[UInt8.ofNat 109] } ++ t, ?_, trivial⟩
          simp only [l4, r4, decide_eq_false hx, cond_false]
          exact Lib.bif_t (Lib.dnat (show ByteArray.size { data := #[UInt8.ofNat 109] } + t.size ≤ _ by rw [show ByteArray.size { data := #[UInt8.ofNat 109] } = 1 from rfl]; omega))) Lib.big (k, ⟨#[]⟩) ⟨by dsimp only; omega, by dsimp only; rw [show ByteArray.size ⟨#[]⟩ = 0 from rfl]; omega⟩ (Lib.lt_big (by dsimp only; omega))
    exact ⟨x, hx⟩
theorem ok (k : Int) (h1 : k ≤ 1152921504606846976) : c k = true := by
  obtain ⟨x, h⟩ := post k h1
  exact (out k h).1
end Go.FG.Pu.laws_markText

namespace Go.FG.Pu.laws_markActS
def row (k : Int) : List CV := [CV.i IntKind.i64 (k), CV.s (Pu.laws_markText.v (k + 1)), CV.s (Pu.laws_markText.v (k + 1 + 1)), CV.s (Pu.laws_markText.v (k + 1 + 1 + 1))]
def mkl (k : Int) (n : Nat) : Row := (List.range n).map fun (j : Nat) => row (k + 4 * (j : Int))
theorem mkl_len (k : Int) (n : Nat) : (mkl k n).length = n := by unfold mkl; simp
theorem mkl_sh (k : Int) (n : Nat) : ∀ y ∈ mkl k n, y.length = 4 := by
  intro y hy; unfold mkl at hy; obtain ⟨j, _, rfl⟩ := List.mem_map.1 hy; rfl
theorem sp0 (y0 y1 y2 y3 x : CV) : splice [y0, y1, y2, y3] 0 [x] = [x, y1, y2, y3] := rfl
theorem sp1 (y0 y1 y2 y3 x : CV) : splice [y0, y1, y2, y3] 1 [x] = [y0, x, y2, y3] := rfl
theorem sp2 (y0 y1 y2 y3 x : CV) : splice [y0, y1, y2, y3] 2 [x] = [y0, y1, x, y3] := rfl
theorem sp3 (y0 y1 y2 y3 x : CV) : splice [y0, y1, y2, y3] 3 [x] = [y0, y1, y2, x] := rfl
theorem run (a0 : Row) (k1 : Int) (hs : ∀ y ∈ a0, y.length = 4) (hl : a0.length ≤ 4194304) (h0 : 0 ≤ k1) (h1 : k1 ≤ 1000000000000) : vo a0 k1 = some (k1 + 4 * (a0.length : Int), mkl k1 a0.length) := by
  unfold vo b
  have := Lib.loop_gen (fun n (i : Nat) => l2 Lib.big (fun (y3 y4 : Int) (y5 : Row) => some (y3, y5)) n (k1 + 4 * (i : Int)) (i : Int) (mkl k1 i ++ a0.drop i)) (fun i => a0.length - i) (fun i => i ≤ a0.length) (fun _ => some (k1 + 4 * (a0.length : Int), mkl k1 a0.length)) (fun n i hi => by
    have hml := mkl_len k1 i
    by_cases h : i < a0.length
    · right
      refine ⟨i + 1, h, by omega, rfl, ?_⟩
      have e3 : mkl k1 (i + 1) ++ a0.drop (i + 1) = mkl k1 i ++ row (k1 + 4 * (i : Int)) :: a0.drop (i + 1) := by
        unfold mkl; rw [Lib.range_map_succ, List.append_assoc]; rfl
      have eA : k1 + 4 * ((i + 1 : Nat) : Int) = (k1 + 4 * (i : Int)) + 1 + 1 + 1 + 1 := by omega
      show l2 Lib.big _ (n + 1) (k1 + 4 * (i : Int)) (i : Int) (mkl k1 i ++ a0.drop i) = l2 Lib.big _ n (k1 + 4 * ((i + 1 : Nat) : Int)) ((i + 1 : Nat) : Int) (mkl k1 (i + 1) ++ a0.drop (i + 1))
      rw [eA, e3, Lib.drop_cons_of h]
      have hy := hs _ (List.getElem_mem h)
      have hk0 : 0 ≤ k1 + 4 * (i : Int) := by omega
      have hk1 : k1 + 4 * (i : Int) ≤ 2000000000000 := by omega
      generalize k1 + 4 * (i : Int) = k at hk0 hk1
      generalize a0[i] = y at hy
      obtain ⟨y0, y1, y2, y3, rfl⟩ : ∃ y0 y1 y2 y3, y = [y0, y1, y2, y3] := by
        match y, hy with
        | [y0, y1, y2, y3], _ => exact ⟨y0, y1, y2, y3, rfl⟩
      have hd : ∀ z : List CV, decide ((i : Int) < ((mkl k1 i ++ z :: a0.drop (i + 1)).length : Int)) = true := fun z => by
        rw [Lib.len_mid, hml]; exact decide_eq_true (by omega)
      have hi1 : w64 ((i : Int) + 1) = ((i + 1 : Nat) : Int) := Lib.w64_ok (by omega) (by omega)
      simp only [l2, r2, Lib.length_setC, hd, Lib.dle0, Bool.and_self, cond_true, Lib.toN, Lib.setC_mid _ _ _ _ _ _ hml, sp0, sp1, sp2, sp3, Lib.w64_ok (x := k + 1) (by omega) (by omega), Lib.w64_ok (x := k + 1 + 1) (by omega) (by omega), Lib.w64_ok (x := k + 1 + 1 + 1) (by omega) (by omega), Lib.w64_ok (x := k + 1 + 1 + 1 + 1) (by omega) (by omega), Pu.laws_markText.ok (k + 1) (by omega), Pu.laws_markText.ok (k + 1 + 1) (by omega), Pu.laws_markText.ok (k + 1 + 1 + 1) (by omega), hi1]
      rfl
    · left
      have : i = a0.length := by omega
      subst this
      show l2 Lib.big _ (n + 1) (k1 + 4 * (a0.length : Int)) (a0.length : Int) (mkl k1 a0.length ++ a0.drop a0.length) = _
      rw [List.drop_length, List.append_nil]
      simp only [l2, r2, hml, Lib.dlt, Nat.lt_irrefl, decide_false, cond_false]) Lib.big 0 (Nat.zero_le _) (Lib.lt_big (by omega))
  have e0 : mkl k1 0 ++ a0.drop 0 = a0 := rfl
  rw [e0] at this
  simpa using this
theorem ok (a0 : Row) (k1 : Int) (hs : ∀ y ∈ a0, y.length = 4) (hl : a0.length ≤ 4194304) (h0 : 0 ≤ k1) (h1 : k1 ≤ 1000000000000) : c a0 k1 = true ∧ v a0 k1 = (k1 + 4 * (a0.length : Int), mkl k1 a0.length) := out a0 k1 (run a0 k1 hs hl h0 h1)
end Go.FG.Pu.laws_markActS

namespace Go.FG.Pu.laws_heldActS
theorem run (k1 : Int) (a : Nat) (hl : a ≤ 4194304) (h0 : 0 ≤ k1) (h1 : k1 ≤ 1000000000000) : vo (Pu.laws_markActS.mkl k1 a) k1 = some (k1 + 4 * (a : Int)) := by
  have hml := Pu.laws_markActS.mkl_len k1 a
  unfold vo b
  have := Lib.loop_gen (fun n (i : Nat) => l2 Lib.big (fun (_ : Row) (_ y6 _ : Int) => some y6) (fun (_ : Row) (y9 _ _ : Int) => some y9) n (Pu.laws_markActS.mkl k1 a) (k1 + 4 * (i : Int)) 0 (i : Int)) (fun i => a - i) (fun i => i ≤ a) (fun _ => some (k1 + 4 * (a : Int))) (fun n i hi => by
    by_cases h : i < a
    · right
      refine ⟨i + 1, h, by omega, rfl, ?_⟩
      have eA : k1 + 4 * ((i + 1 : Nat) : Int) = (k1 + 4 * (i : Int)) + 1 + 1 + 1 + 1 := by omega
      show l2 Lib.big _ _ (n + 1) (Pu.laws_markActS.mkl k1 a) (k1 + 4 * (i : Int)) 0 (i : Int) = l2 Lib.big _ _ n (Pu.laws_markActS.mkl k1 a) (k1 + 4 * ((i + 1 : Nat) : Int)) 0 ((i + 1 : Nat) : Int)
      rw [eA]
      have ce0 : cvI (cellAt (Pu.laws_markActS.mkl k1 a) i 0) = k1 + 4 * (i : Int) := by
        unfold Pu.laws_markActS.mkl; rw [Lib.cellAt_rm _ _ _ _ h]; rfl
      have ce1 : cvS (cellAt (Pu.laws_markActS.mkl k1 a) i 1) = Pu.laws_markText.v (k1 + 4 * (i : Int) + 1) := by
        unfold Pu.laws_markActS.mkl; rw [Lib.cellAt_rm _ _ _ _ h]; rfl
      have ce2 : cvS (cellAt (Pu.laws_markActS.mkl k1 a) i 2) = Pu.laws_markText.v (k1 + 4 * (i : Int) + 1 + 1) := by
        unfold Pu.laws_markActS.mkl; rw [Lib.cellAt_rm _ _ _ _ h]; rfl
      have ce3 : cvS (cellAt (Pu.laws_markActS.mkl k1 a) i 3) = Pu.laws_markText.v (k1 + 4 * (i : Int) + 1 + 1 + 1) := by
        unfold Pu.laws_markActS.mkl; rw [Lib.cellAt_rm _ _ _ _ h]; rfl
      have hk0 : 0 ≤ k1 + 4 * (i : Int) := by omega
      have hk1 : k1 + 4 * (i : Int) ≤ 2000000000000 := by omega
      generalize k1 + 4 * (i : Int) = k at *
      have hi1 : w64 ((i : Int) + 1) = ((i + 1 : Nat) : Int) := Lib.w64_ok (by omega) (by omega)
      simp only [l2, r2, hml, Lib.dlt, h, decide_true, Lib.dle0, Bool.and_self, cond_true, Lib.toN, ce0, ce1, ce2, ce3, Lib.w64_ok (x := k + 1) (by omega) (by omega), Lib.w64_ok (x := k + 1 + 1) (by omega) (by omega), Lib.w64_ok (x := k + 1 + 1 + 1) (by omega) (by omega), Lib.w64_ok (x := k + 1 + 1 + 1 + 1) (by omega) (by omega), Pu.laws_markText.ok (k + 1) (by omega), Pu.laws_markText.ok (k + 1 + 1) (by omega), Pu.laws_markText.ok (k + 1 + 1 + 1) (by omega), hi1, bne_self_eq_false, cond_false, Lib.beq_refl_ba, Bool.not_true]
    · left
      have : i = a := by omega
      subst this
      simp only [l2, r2, hml, Lib.dlt, Nat.lt_irrefl, decide_false, cond_false]) Lib.big 0 (Nat.zero_le _) (Lib.lt_big (by omega))
  simpa using this
theorem ok (k1 : Int) (a : Nat) (hl : a ≤ 4194304) (h0 : 0 ≤ k1) (h1 : k1 ≤ 1000000000000) : c (Pu.laws_markActS.mkl k1 a) k1 = true ∧ v (Pu.laws_markActS.mkl k1 a) k1 = k1 + 4 * (a : Int) := out _ _ (run k1 a hl h0 h1)
end Go.FG.Pu.laws_heldActS

namespace Go.FG.Pu.laws_eqFileS
theorem run (a : Row) (hl : a.length ≤ 9223372036854775807) : vo a a = some true := by
  unfold vo b
  rw [show ((a.length : Int) != (a.length : Int)) = false from bne_self_eq_false _, cond_false]
  have := Lib.loop_gen (fun n (i : Nat) => l4 Lib.big (fun (_ _ : Row) (y : Bool) (_ : Int) => some y) (fun (_ _ : Row) (_ : Bool) (_ : Int) => some true) n a a false (i : Int)) (fun i => a.length - i) (fun i => i ≤ a.length) (fun _ => some true) (fun n i hi => by
    by_cases h : i < a.length
    · right
      refine ⟨i + 1, h, by omega, rfl, ?_⟩
      have hi1 : w64 ((i : Int) + 1) = ((i + 1 : Nat) : Int) := Lib.w64_ok (by omega) (by omega)
      have hel : ∀ (x0 : ByteArray) (x1 : ByteArray) (x2 : Int), Pu.laws_eqFile.v x0 x1 x2 x0 x1 x2 = true := fun _ _ _ => by
        simp only [Pu.laws_eqFile.v, bne_self_eq_false, Lib.beq_refl_ba, Bool.not_true, cond_false]
      simp only [l4, r4, Lib.dlt, h, decide_true, Lib.dle0, Bool.and_self, cond_true, Lib.toN, hi1, hel, Bool.not_true, cond_false]
    · left
      simp only [l4, r4, Lib.dlt, h, decide_false, cond_false]) Lib.big 0 (Nat.zero_le _) (Lib.lt_big (by omega))
  exact this
theorem ok (a : Row) (hl : a.length ≤ 9223372036854775807) : c a a = true ∧ v a a = true := out a a (run a hl)
end Go.FG.Pu.laws_eqFileS

namespace Go.FG.Pu.laws_eqDisk
theorem ok (a : Row) (hl : a.length ≤ 9223372036854775807) : c a a = true ∧ v a a = true := by
  have h := Pu.laws_eqFileS.ok a hl
  exact out a a (by unfold vo b; rw [h.1, h.2, cond_true]; rfl)
end Go.FG.Pu.laws_eqDisk

namespace Go.FG.Pu.laws_eqEntryS
theorem run (a : Row) (hl : a.length ≤ 9223372036854775807) : vo a a = some true := by
  unfold vo b
  rw [show ((a.length : Int) != (a.length : Int)) = false from bne_self_eq_false _, cond_false]
  have := Lib.loop_gen (fun n (i : Nat) => l4 Lib.big (fun (_ _ : Row) (y : Bool) (_ : Int) => some y) (fun (_ _ : Row) (_ : Bool) (_ : Int) => some true) n a a false (i : Int)) (fun i => a.length - i) (fun i => i ≤ a.length) (fun _ => some true) (fun n i hi => by
    by_cases h : i < a.length
    · right
      refine ⟨i + 1, h, by omega, rfl, ?_⟩
      have hi1 : w64 ((i : Int) + 1) = ((i + 1 : Nat) : Int) := Lib.w64_ok (by omega) (by omega)
      have hel : ∀ (x0 : ByteArray) (x1 : Int) (x2 : Int) (x3 : ByteArray), Pu.laws_eqEntry.v x0 x1 x2 x3 x0 x1 x2 x3 = true := fun _ _ _ _ => by
        simp only [Pu.laws_eqEntry.v, bne_self_eq_false, Lib.beq_refl_ba, Bool.not_true, cond_false]
      simp only [l4, r4, Lib.dlt, h, decide_true, Lib.dle0, Bool.and_self, cond_true, Lib.toN, hi1, hel, Bool.not_true, cond_false]
    · left
      simp only [l4, r4, Lib.dlt, h, decide_false, cond_false]) Lib.big 0 (Nat.zero_le _) (Lib.lt_big (by omega))
  exact this
theorem ok (a : Row) (hl : a.length ≤ 9223372036854775807) : c a a = true ∧ v a a = true := out a a (run a hl)
end Go.FG.Pu.laws_eqEntryS

namespace Go.FG.Pu.laws_markFileS
def row (k : Int) : List CV := [CV.s (Pu.laws_markText.v (k)), CV.s (Pu.laws_markText.v (k + 1)), CV.i IntKind.i64 (k + 1 + 1)]
def mkl (k : Int) (n : Nat) : Row := (List.range n).map fun (j : Nat) => row (k + 3 * (j : Int))
theorem mkl_len (k : Int) (n : Nat) : (mkl k n).length = n := by unfold mkl; simp
theorem mkl_sh (k : Int) (n : Nat) : ∀ y ∈ mkl k n, y.length = 3 := by
  intro y hy; unfold mkl at hy; obtain ⟨j, _, rfl⟩ := List.mem_map.1 hy; rfl
theorem sp0 (y0 y1 y2 x : CV) : splice [y0, y1, y2] 0 [x] = [x, y1, y2] := rfl
theorem sp1 (y0 y1 y2 x : CV) : splice [y0, y1, y2] 1 [x] = [y0, x, y2] := rfl
theorem sp2 (y0 y1 y2 x : CV) : splice [y0, y1, y2] 2 [x] = [y0, y1, x] := rfl
theorem run (a0 : Row) (k1 : Int) (hs : ∀ y ∈ a0, y.length = 3) (hl : a0.length ≤ 4194304) (h0 : 0 ≤ k1) (h1 : k1 ≤ 1000000000000) : vo a0 k1 = some (k1 + 3 * (a0.length : Int), mkl k1 a0.length) := by
  unfold vo b
  have := Lib.loop_gen (fun n (i : Nat) => l2 Lib.big (fun (y3 y4 : Int) (y5 : Row) => some (y3, y5)) n (k1 + 3 * (i : Int)) (i : Int) (mkl k1 i ++ a0.drop i)) (fun i => a0.length - i) (fun i => i ≤ a0.length) (fun _ => some (k1 + 3 * (a0.length : Int), mkl k1 a0.length)) (fun n i hi => by
    have hml := mkl_len k1 i
    by_cases h : i < a0.length
    · right
      refine ⟨i + 1, h, by omega, rfl, ?_⟩
      have e3 : mkl k1 (i + 1) ++ a0.drop (i + 1) = mkl k1 i ++ row (k1 + 3 * (i : Int)) :: a0.drop (i + 1) := by
        unfold mkl; rw [Lib.range_map_succ, List.append_assoc]; rfl
      have eA : k1 + 3 * ((i + 1 : Nat) : Int) = (k1 + 3 * (i : Int)) + 1 + 1 + 1 := by omega
      show l2 Lib.big _ (n + 1) (k1 + 3 * (i : Int)) (i : Int) (mkl k1 i ++ a0.drop i) = l2 Lib.big _ n (k1 + 3 * ((i + 1 : Nat) : Int)) ((i + 1 : Nat) : Int) (mkl k1 (i + 1) ++ a0.drop (i + 1))
      rw [eA, e3, Lib.drop_cons_of h]
      have hy := hs _ (List.getElem_mem h)
      have hk0 : 0 ≤ k1 + 3 * (i : Int) := by omega
      have hk1 : k1 + 3 * (i : Int) ≤ 2000000000000 := by omega
      generalize k1 + 3 * (i : Int) = k at hk0 hk1
      generalize a0[i] = y at hy
      obtain ⟨y0, y1, y2, rfl⟩ : ∃ y0 y1 y2, y = [y0, y1, y2] := by
        match y, hy with
        | [y0, y1, y2], _ => exact ⟨y0, y1, y2, rfl⟩
      have hd : ∀ z : List CV, decide ((i : Int) < ((mkl k1 i ++ z :: a0.drop (i + 1)).length : Int)) = true := fun z => by
        rw [Lib.len_mid, hml]; exact decide_eq_true (by omega)
      have hi1 : w64 ((i : Int) + 1) = ((i + 1 : Nat) : Int) := Lib.w64_ok (by omega) (by omega)
      simp only [l2, r2, Lib.length_setC, hd, Lib.dle0, Bool.and_self, cond_true, Lib.toN, Lib.setC_mid _ _ _ _ _ _ hml, sp0, sp1, sp2, Lib.w64_ok (x := k + 1) (by omega) (by omega), Lib.w64_ok (x := k + 1 + 1) (by omega) (by omega), Lib.w64_ok (x := k + 1 + 1 + 1) (by omega) (by omega), Pu.laws_markText.ok (k) (by omega), Pu.laws_markText.ok (k + 1) (by omega), hi1]
      rfl
    · left
      have : i = a0.length := by omega
      subst this
      show l2 Lib.big _ (n + 1) (k1 + 3 * (a0.length : Int)) (a0.length : Int) (mkl k1 a0.length ++ a0.drop a0.length) = _
      rw [List.drop_length, List.append_nil]
      simp only [l2, r2, hml, Lib.dlt, Nat.lt_irrefl, decide_false, cond_false]) Lib.big 0 (Nat.zero_le _) (Lib.lt_big (by omega))
  have e0 : mkl k1 0 ++ a0.drop 0 = a0 := rfl
  rw [e0] at this
  simpa using this
theorem ok (a0 : Row) (k1 : Int) (hs : ∀ y ∈ a0, y.length = 3) (hl : a0.length ≤ 4194304) (h0 : 0 ≤ k1) (h1 : k1 ≤ 1000000000000) : c a0 k1 = true ∧ v a0 k1 = (k1 + 3 * (a0.length : Int), mkl k1 a0.length) := out a0 k1 (run a0 k1 hs hl h0 h1)
end Go.FG.Pu.laws_markFileS

namespace Go.FG.Pu.laws_markDisk
theorem ok (a0 : Row) (k1 : Int) (hs : ∀ y ∈ a0, y.length = 3) (hl : a0.length ≤ 4194304) (h0 : 0 ≤ k1) (h1 : k1 ≤ 1000000000000) : c a0 k1 = true ∧ v a0 k1 = (k1 + 3 * (a0.length : Int), Pu.laws_markFileS.mkl k1 a0.length) := by
  have h := Pu.laws_markFileS.ok a0 k1 hs hl h0 h1
  exact out a0 k1 (by unfold vo b; rw [h.1, h.2, cond_true])
end Go.FG.Pu.laws_markDisk

namespace Go.FG.Pu.laws_markEntryS
def row (k : Int) : List CV := [CV.s (Pu.laws_markText.v (k)), CV.i IntKind.i64 (k + 1), CV.i IntKind.i64 (k + 1 + 1), CV.s (Pu.laws_markText.v (k + 1 + 1 + 1))]
def mkl (k : Int) (n : Nat) : Row := (List.range n).map fun (j : Nat) => row (k + 4 * (j : Int))
theorem mkl_len (k : Int) (n : Nat) : (mkl k n).length = n := by unfold mkl; simp
theorem mkl_sh (k : Int) (n : Nat) : ∀ y ∈ mkl k n, y.length = 4 := by
  intro y hy; unfold mkl at hy; obtain ⟨j, _, rfl⟩ := List.mem_map.1 hy; rfl
theorem sp0 (y0 y1 y2 y3 x : CV) : splice [y0, y1, y2, y3] 0 [x] = [x, y1, y2, y3] := rfl
theorem sp1 (y0 y1 y2 y3 x : CV) : splice [y0, y1, y2, y3] 1 [x] = [y0, x, y2, y3] := rfl
theorem sp2 (y0 y1 y2 y3 x : CV) : splice [y0, y1, y2, y3] 2 [x] = [y0, y1, x, y3] := rfl
theorem sp3 (y0 y1 y2 y3 x : CV) : splice [y0, y1, y2, y3] 3 [x] = [y0, y1, y2, x] := rfl
theorem run (a0 : Row) (k1 : Int) (hs : ∀ y ∈ a0, y.length = 4) (hl : a0.length ≤ 4194304) (h0 : 0 ≤ k1) (h1 : k1 ≤ 1000000000000) : vo a0 k1 = some (k1 + 4 * (a0.length : Int), mkl k1 a0.length) := by
  unfold vo b
  have := Lib.loop_gen (fun n (i : Nat) => l2 Lib.big (fun (y3 y4 : Int) (y5 : Row) => some (y3, y5)) n (k1 + 4 * (i : Int)) (i : Int) (mkl k1 i ++ a0.drop i)) (fun i => a0.length - i) (fun i => i ≤ a0.length) (fun _ => some (k1 + 4 * (a0.length : Int), mkl k1 a0.length)) (fun n i hi => by
    have hml := mkl_len k1 i
    by_cases h : i < a0.length
    · right
      refine ⟨i + 1, h, by omega, rfl, ?_⟩
      have e3 : mkl k1 (i + 1) ++ a0.drop (i + 1) = mkl k1 i ++ row (k1 + 4 * (i : Int)) :: a0.drop (i + 1) := by
        unfold mkl; rw [Lib.range_map_succ, List.append_assoc]; rfl
      have eA : k1 + 4 * ((i + 1 : Nat) : Int) = (k1 + 4 * (i : Int)) + 1 + 1 + 1 + 1 := by omega
      show l2 Lib.big _ (n + 1) (k1 + 4 * (i : Int)) (i : Int) (mkl k1 i ++ a0.drop i) = l2 Lib.big _ n (k1 + 4 * ((i + 1 : Nat) : Int)) ((i + 1 : Nat) : Int) (mkl k1 (i + 1) ++ a0.drop (i + 1))
      rw [eA, e3, Lib.drop_cons_of h]
      have hy := hs _ (List.getElem_mem h)
      have hk0 : 0 ≤ k1 + 4 * (i : Int) := by omega
      have hk1 : k1 + 4 * (i : Int) ≤ 2000000000000 := by omega
      generalize k1 + 4 * (i : Int) = k at hk0 hk1
      generalize a0[i] = y at hy
      obtain ⟨y0, y1, y2, y3, rfl⟩ : ∃ y0 y1 y2 y3, y = [y0, y1, y2, y3] := by
        match y, hy with
        | [y0, y1, y2, y3], _ => exact ⟨y0, y1, y2, y3, rfl⟩
      have hd : ∀ z : List CV, decide ((i : Int) < ((mkl k1 i ++ z :: a0.drop (i + 1)).length : Int)) = true := fun z => by
        rw [Lib.len_mid, hml]; exact decide_eq_true (by omega)
      have hi1 : w64 ((i : Int) + 1) = ((i + 1 : Nat) : Int) := Lib.w64_ok (by omega) (by omega)
      simp only [l2, r2, Lib.length_setC, hd, Lib.dle0, Bool.and_self, cond_true, Lib.toN, Lib.setC_mid _ _ _ _ _ _ hml, sp0, sp1, sp2, sp3, Lib.w64_ok (x := k + 1) (by omega) (by omega), Lib.w64_ok (x := k + 1 + 1) (by omega) (by omega), Lib.w64_ok (x := k + 1 + 1 + 1) (by omega) (by omega), Lib.w64_ok (x := k + 1 + 1 + 1 + 1) (by omega) (by omega), Pu.laws_markText.ok (k) (by omega), Pu.laws_markText.ok (k + 1 + 1 + 1) (by omega), hi1]
      rfl
    · left
      have : i = a0.length := by omega
      subst this
      show l2 Lib.big _ (n + 1) (k1 + 4 * (a0.length : Int)) (a0.length : Int) (mkl k1 a0.length ++ a0.drop a0.length) = _
      rw [List.drop_length, List.append_nil]
      simp only [l2, r2, hml, Lib.dlt, Nat.lt_irrefl, decide_false, cond_false]) Lib.big 0 (Nat.zero_le _) (Lib.lt_big (by omega))
  have e0 : mkl k1 0 ++ a0.drop 0 = a0 := rfl
  rw [e0] at this
  simpa using this
theorem ok (a0 : Row) (k1 : Int) (hs : ∀ y ∈ a0, y.length = 4) (hl : a0.length ≤ 4194304) (h0 : 0 ≤ k1) (h1 : k1 ≤ 1000000000000) : c a0 k1 = true ∧ v a0 k1 = (k1 + 4 * (a0.length : Int), mkl k1 a0.length) := out a0 k1 (run a0 k1 hs hl h0 h1)
end Go.FG.Pu.laws_markEntryS

namespace Go.FG.Pu.laws_FnExactAnewActs
theorem run (d0 l0 : Row) (f0 : FitR d0) (f1 : FitR l0) : vo d0 l0 = some true := by
  unfold vo b
  obtain ⟨z1, z2, z3⟩ := Pu.laws_szDisk.ok d0 1048576 (by omega) (by omega) f0
  rw [z1, cond_true]
  by_cases h : Pu.laws_szDisk.v d0 1048576 < 0
  · rw [decide_eq_true h]; rfl
  rw [decide_eq_false h, cond_false]
  obtain ⟨y1, y2, y3⟩ := Pu.laws_szEntryS.ok l0 (Pu.laws_szDisk.v d0 1048576) (by omega) z2 f1
  rw [y1, cond_true]
  by_cases h2 : Pu.laws_szEntryS.v l0 (Pu.laws_szDisk.v d0 1048576) < 0
  · rw [decide_eq_true h2]; rfl
  rw [decide_eq_false h2, cond_false]
  have hd := z3 (by omega)
  have hl := y3 (by omega)
  have t1 := Pu.laws_toDisk.ok d0 hd
  have t2 := Pu.laws_toEntryS.ok l0 hl
  have m1 := Pu.laws_toFileS.tl_len d0
  have m2 := Pu.laws_toEntryS.tl_len l0
  have s1 := Pu.laws_toFileS.tl_sh d0
  have s2 := Pu.laws_toEntryS.tl_sh l0
  generalize Pu.laws_toFileS.tl d0 = d at t1 m1 s1
  generalize Pu.laws_toEntryS.tl l0 = l at t2 m2 s2
  have a1 := Pu.spec_AnewActs.ok d l (by omega) (by omega)
  have a2 := Pu.impl_AnewActs.ok d l (by omega) (by omega)
  have hs := Pu.spec_AnewActs.val_sh d l
  have h3 := Pu.laws_eqActS.ok (Pu.spec_AnewActs.val d l).1 (by omega)
  have h4 := Pu.laws_markActS.ok (Pu.spec_AnewActs.val d l).1 1 hs.1 (by omega) (by omega) (by omega)
  have h5 := Pu.laws_heldActS.ok 1 (Pu.spec_AnewActs.val d l).1.length (by omega) (by omega) (by omega)
  have h6 : decide (1 + 4 * ((Pu.spec_AnewActs.val d l).1.length : Int) < 0) = false := decide_eq_false (by omega)
  have h7 := Pu.laws_eqDisk.ok d (by omega)
  have h8 := Pu.laws_eqEntryS.ok l (by omega)
  have h9 := Pu.laws_markDisk.ok d 1 s1 (by omega) (by omega) (by omega)
  have h10 := Pu.laws_markEntryS.ok l (1 + 3 * (d.length : Int)) s2 (by omega) (by omega) (by omega)
  have h11 : decide (1 + 3 * (d.length : Int) + 4 * (l.length : Int) < 0) = false := decide_eq_false (by omega)
  simp only [t1.1, t1.2, t2.1, t2.2, a1.1, a1.2, a2.1, a2.2, h3.1, h3.2, h4.1, h4.2, h5.1, h5.2, h6, h7.1, h7.2, h8.1, h8.2, h9.1, h9.2, h10.1, h10.2, h11, cond_true, cond_false, Bool.not_true, decide_true, bne_self_eq_false]
theorem law (d0 l0 : Row) (f0 : FitR d0) (f1 : FitR l0) : v d0 l0 = true := (out d0 l0 (run d0 l0 f0 f1)).2
theorem lawc (d0 l0 : Row) (f0 : FitR d0) (f1 : FitR l0) : c d0 l0 = true := (out d0 l0 (run d0 l0 f0 f1)).1
end Go.FG.Pu.laws_FnExactAnewActs

