/- What the functions come to, in plain numbers, texts and lists; last the law itself. No condition but those that each states. -/
import Derived.Test.YticmocblmmahkaaPExactFindKept
set_option linter.unusedVariables false
set_option linter.unusedSimpArgs false
set_option maxRecDepth 100000
namespace Go.FG.Pu.laws_szFile
theorem bd (x0 : ByteArray) (x1 : ByteArray) (x2 : Int) (L : Int) (h0 : okS x0) (h1 : okS x1) (hL0 : 0 ≤ L) (hL1 : L ≤ 1048576) : v x0 x1 x2 L ≤ 1048576 := by
  have hz : ∀ x, okS x → x.size ≤ 4611686018427387904 := fun _ h => h
  have z0 := hz _ h0
  have z1 := hz _ h1
  unfold v
  rw [Lib.w64_ok (x := L - (x0.size : Int)) (by omega) (by omega)]
  by_cases c0 : L - (x0.size : Int) < 0
  · rw [decide_eq_true c0, cond_true]; omega
  · rw [decide_eq_false c0, cond_false]
    rw [Lib.w64_ok (x := (L - (x0.size : Int)) - (x1.size : Int)) (by omega) (by omega)]
    by_cases c1 : (L - (x0.size : Int)) - (x1.size : Int) < 0
    · rw [decide_eq_true c1, cond_true]; omega
    · rw [decide_eq_false c1, cond_false]
      omega
end Go.FG.Pu.laws_szFile

namespace Go.FG.Pu.laws_szFileS
theorem run (a : Row) (L : Int) (h0 : 0 ≤ L) (h1 : L ≤ 1048576) (ha : FitR a) : ∃ x, vo a L = some x ∧ x ≤ 1048576 ∧ (0 ≤ x → a.length ≤ 1048576) := by
  have hl := ha.1
  unfold vo b
  rw [Lib.w64_ok (x := L - (a.length : Int)) (by omega) (by omega)]
  by_cases hc : L - (a.length : Int) < 0
  · rw [decide_eq_true hc]; exact ⟨-1, rfl, by omega, fun h => by omega⟩
  · rw [decide_eq_false hc, cond_false]
    have key := Lib.loop_post (fun n (s : Nat × Int) => l5 Lib.big (fun (_ : Row) (_ y6 _ : Int) => some y6) (fun (_ : Row) (y9 _ _ : Int) => some y9) n a s.2 0 (s.1 : Int)) (fun s => a.length - s.1) (fun s => s.1 ≤ a.length ∧ 0 ≤ s.2 ∧ s.2 ≤ 1048576) (fun x => x ≤ 1048576) (fun n s hs => by
      obtain ⟨i, L⟩ := s
      obtain ⟨hi, hL0, hL1⟩ := hs
      dsimp only at hi hL0 hL1 ⊢
      by_cases h : i < a.length
      · have hi1 : w64 ((i : Int) + 1) = ((i + 1 : Nat) : Int) := Lib.w64_ok (by omega) (by omega)
        have hw : Pu.laws_szFile.v (cvS (cellAt a i 0)) (cvS (cellAt a i 1)) (cvI (cellAt a i (1 + 1))) L ≤ 1048576 := Pu.laws_szFile.bd _ _ _ L (Lib.okS_cell ha i _) (Lib.okS_cell ha i _) hL0 hL1
        by_cases hn : Pu.laws_szFile.v (cvS (cellAt a i 0)) (cvS (cellAt a i 1)) (cvI (cellAt a i (1 + 1))) L < 0
        · exact .inl ⟨-1, by simp only [l5, r5, Lib.dlt, h, decide_true, Lib.dle0, Bool.and_self, cond_true, Lib.toN, hn], by omega⟩
        · exact .inr ⟨(i + 1, Pu.laws_szFile.v (cvS (cellAt a i 0)) (cvS (cellAt a i 1)) (cvI (cellAt a i (1 + 1))) L), ⟨h, by omega, hw⟩, by dsimp only; omega, by simp only [l5, r5, Lib.dlt, h, decide_true, decide_false, Lib.dle0, Bool.and_self, cond_true, cond_false, Lib.toN, hn, hi1]⟩
      · exact .inl ⟨L, by simp only [l5, r5, Lib.dlt, h, decide_false, cond_false], hL1⟩) Lib.big (0, L - (a.length : Int)) ⟨Nat.zero_le _, by dsimp only; omega, by dsimp only; omega⟩ (Lib.lt_big (by omega))
    obtain ⟨x, hx, hb⟩ := key
    exact ⟨x, hx, hb, fun _ => by omega⟩
theorem ok (a : Row) (L : Int) (h0 : 0 ≤ L) (h1 : L ≤ 1048576) (ha : FitR a) : c a L = true ∧ v a L ≤ 1048576 ∧ (0 ≤ v a L → a.length ≤ 1048576) := by
  obtain ⟨x, h, h2, h3⟩ := run a L h0 h1 ha
  obtain ⟨e1, e2⟩ := out a L h
  rw [e2]; exact ⟨e1, h2, h3⟩
end Go.FG.Pu.laws_szFileS

namespace Go.FG.Pu.laws_szDisk
theorem ok (r : Row) (L : Int) (h0 : 0 ≤ L) (h1 : L ≤ 1048576) (ha : FitR r) : c r L = true ∧ v r L ≤ 1048576 ∧ (0 ≤ v r L → r.length ≤ 1048576) := by
  obtain ⟨e1, e2, e3⟩ := Pu.laws_szFileS.ok r L h0 h1 ha
  by_cases h : Pu.laws_szFileS.v r L < 0
  · obtain ⟨q1, q2⟩ := out r L (x := -1) (by unfold vo b; rw [e1, cond_true, decide_eq_true h, cond_true])
    rw [q2]; exact ⟨q1, by omega, fun h => by omega⟩
  · obtain ⟨q1, q2⟩ := out r L (x := Pu.laws_szFileS.v r L) (by unfold vo b; rw [e1, cond_true, decide_eq_false h, cond_false])
    rw [q2]; exact ⟨q1, e2, e3⟩
end Go.FG.Pu.laws_szDisk

namespace Go.FG.Pu.laws_toFileS
/-- The rows' cells, one for one. -/
def tl (a0 : Row) : Row := a0.map fun y => [CV.s (cvS (y.getD 0 (.b false))), CV.s (cvS (y.getD 1 (.b false))), CV.i IntKind.i64 (cvI (y.getD 2 (.b false)))]
theorem tl_len (a0 : Row) : (tl a0).length = a0.length := by unfold tl; simp
theorem tl_sh (a0 : Row) : ∀ y ∈ tl a0, y.length = 3 := by
  intro y hy; unfold tl at hy; obtain ⟨z, _, rfl⟩ := List.mem_map.1 hy; rfl
theorem tl_idem (a0 : Row) : tl (tl a0) = tl a0 := by
  unfold tl; rw [List.map_map]; apply List.map_congr_left; intro y _; rfl
theorem run (a0 : Row) (hl : a0.length ≤ 1048576) : vo a0 = some (tl a0) := by
  unfold vo b
  rw [show decide ((a0.length : Int) = (a0.length : Int)) = true by simp, Lib.toN, Lib.roomy_of (by omega) (by omega), Bool.and_self, cond_true]
  have mono := Lib.loop_gen (fun m (s : Nat) => l3 Lib.big (fun (_ : Row) (_ : Int) (y : Row) => some y) m a0 (s : Int) ((tl a0).take s ++ zeros [Ck.s, Ck.s, Ck.i IntKind.i64] (a0.length - s))) (fun i => a0.length - i) (fun i => i ≤ a0.length) (fun _ => some (tl a0)) (fun m i hi => by
    by_cases h : i < a0.length
    · right
      refine ⟨i + 1, h, by omega, rfl, ?_⟩
      have hlt : i < (tl a0).length := by rw [tl_len]; exact h
      have e := Lib.setC_step (ks := [Ck.s, Ck.s, Ck.i IntKind.i64]) (tl_len a0) h (List.getElem?_eq_getElem hlt) (tl_sh a0 _ (List.getElem_mem hlt))
      have eg : (tl a0)[i] = [CV.s (cvS (cellAt a0 i 0)), CV.s (cvS (cellAt a0 i 1)), CV.i IntKind.i64 (cvI (cellAt a0 i 2))] := by simp [tl, cellAt, List.getD, h]
      rw [eg] at e
      have hx : ((tl a0).take i ++ zeros [Ck.s, Ck.s, Ck.i IntKind.i64] (a0.length - i)).length = a0.length := by rw [List.length_append, List.length_take, tl_len, Lib.length_zeros]; omega
      have hi1 : w64 ((i : Int) + 1) = ((i + 1 : Nat) : Int) := Lib.w64_ok (by omega) (by omega)
      show l3 Lib.big _ (m + 1) a0 (i : Int) _ = l3 Lib.big _ m a0 ((i + 1 : Nat) : Int) _
      rw [← e]
      simp only [l3, r3, hx, Lib.dlt, Lib.dle0, Lib.toN, h, decide_true, Bool.and_self, cond_true, hi1]
    · left
      have : i = a0.length := by omega
      subst this
      rw [Nat.sub_self, List.take_of_length_le (by rw [tl_len]; exact Nat.le_refl _), show zeros [Ck.s, Ck.s, Ck.i IntKind.i64] 0 = [] from rfl, List.append_nil]
      simp only [l3, r3, Lib.dlt, Nat.lt_irrefl, decide_false, cond_false]) Lib.big 0 (Nat.zero_le _) (Lib.lt_big (by omega))
  simpa using mono
theorem ok (a0 : Row) (hl : a0.length ≤ 1048576) : c a0 = true ∧ v a0 = tl a0 := out a0 (run a0 hl)
end Go.FG.Pu.laws_toFileS

namespace Go.FG.Pu.laws_toDisk
theorem ok (a0 : Row) (hl : a0.length ≤ 1048576) : c a0 = true ∧ v a0 = Pu.laws_toFileS.tl a0 := by
  have h := Pu.laws_toFileS.ok a0 hl
  exact out a0 (by unfold vo b; rw [h.1, h.2, cond_true])
end Go.FG.Pu.laws_toDisk

namespace Go.FG.Pu.spec_l15Put
theorem bl_irrefl : ∀ x : List UInt8, Go.Op.bytesLess x x = false
  | [] => rfl
  | a :: x => by
    have h : ¬ a < a := by rw [UInt8.lt_iff_toNat_lt]; omega
    simp [Go.Op.bytesLess, bl_irrefl x, h]
theorem bl_trans : ∀ x y z : List UInt8, Go.Op.bytesLess x y = true → Go.Op.bytesLess y z = true → Go.Op.bytesLess x z = true
  | _, [], _, h, _ => by cases ‹List UInt8› <;> simp [Go.Op.bytesLess] at h
  | _, _ :: _, [], _, h => by simp [Go.Op.bytesLess] at h
  | [], _ :: _, _ :: _, _, _ => by simp [Go.Op.bytesLess]
  | a :: x, b :: y, c :: z, h1, h2 => by
    simp only [Go.Op.bytesLess, Bool.or_eq_true, Bool.and_eq_true, decide_eq_true_eq, beq_iff_eq] at h1 h2 ⊢
    simp only [UInt8.lt_iff_toNat_lt] at h1 h2 ⊢
    rcases h1 with h1 | ⟨rfl, h1⟩
    · rcases h2 with h2 | ⟨rfl, h2⟩
      · left; omega
      · left; exact h1
    · rcases h2 with h2 | ⟨rfl, h2⟩
      · left; exact h2
      · right; exact ⟨rfl, bl_trans x y z h1 h2⟩
theorem bl_tri : ∀ x y : List UInt8, Go.Op.bytesLess x y = false → x ≠ y → Go.Op.bytesLess y x = true
  | [], [], _, h => absurd rfl h
  | [], _ :: _, h, _ => by simp [Go.Op.bytesLess] at h
  | _ :: _, [], _, _ => by simp [Go.Op.bytesLess]
  | a :: x, b :: y, h, hn => by
    simp only [Go.Op.bytesLess, Bool.or_eq_false_iff, Bool.and_eq_false_iff, decide_eq_false_iff_not, beq_eq_false_iff_ne] at h
    simp only [Go.Op.bytesLess, Bool.or_eq_true, Bool.and_eq_true, decide_eq_true_eq, beq_iff_eq]
    obtain ⟨h1, h2⟩ := h
    by_cases he : a = b
    · subst he
      right
      refine ⟨rfl, bl_tri x y ?_ (fun e => hn (by rw [e]))⟩
      rcases h2 with h2 | h2
      · exact absurd rfl h2
      · exact h2
    · left
      rw [UInt8.lt_iff_toNat_lt] at h1 ⊢
      have : a.toNat ≠ b.toNat := fun e => he (UInt8.toNat_inj.1 e)
      omega
def key (y : List CV) : List UInt8 := ByteArray.toList (cvS (y.getD 0 (.b false)))
def lt (y z : List CV) : Prop := Go.Op.bytesLess (key y) (key z) = true
def cr (y : List CV) : List CV := [CV.s (cvS (y.getD 0 (.b false))), CV.i IntKind.i64 (cvI (y.getD 1 (.b false))), CV.i IntKind.i64 (cvI (y.getD 2 (.b false))), CV.s (cvS (y.getD 3 (.b false)))]
def nw (k : ByteArray) (s l : Int) (b : ByteArray) : List CV := [CV.s k, CV.i IntKind.i64 s, CV.i IntKind.i64 l, CV.s b]
def pl (k : ByteArray) (y : List CV) : Bool := Go.Op.bytesLess (key y) (ByteArray.toList k)
def pg (k : ByteArray) (y : List CV) : Bool := !(Go.Op.bytesLess (key y) (ByteArray.toList k) || List.beq (key y) (ByteArray.toList k))
def val (r : Row) (k : ByteArray) (s l : Int) (b : ByteArray) : Row := (r.filter (pl k)).map cr ++ [nw k s l b] ++ (r.filter (pg k)).map cr
theorem ok (r : Row) (k : ByteArray) (s l : Int) (b0 : ByteArray) (hl : r.length ≤ 1048576) : c r k s l b0 = true ∧ v r k s l b0 = val r k s l b0 := by
  refine out r k s l b0 ?_
  unfold vo
  have hw : ∀ i, i < r.length → w64 ((i : Int) + 1) = ((i + 1 : Nat) : Int) := fun i h => Lib.w64_s h (by omega)
  have key2 := fun (acc0 : Row) (ha : acc0.length ≤ 2000000) => Lib.filt_run (pg k) cr r 2000000
    (fun m (i : Nat) (acc : Row) => l9 Lib.big (fun (_ : Row) (_ : Int) (_ : ByteArray) (_ _ : Int) (_ : ByteArray) (y27 : Row) => some y27) m r (i : Int) k s l b0 acc) (fun acc => some acc)
    (fun m i acc h h2 hp => by
      have hp' : (!(Go.Op.bytesLess (ByteArray.toList (cvS (cellAt r i 0))) (ByteArray.toList k) || List.beq (ByteArray.toList (cvS (cellAt r i 0))) (ByteArray.toList k))) = true := by rw [Lib.cellAt_of h]; exact hp
      simp only [l9, r9, Lib.dlt, h, decide_true, Lib.dle0, Bool.and_self, cond_true, Lib.toN, hp', hw i h, Lib.len_set1, List.length_singleton, Lib.roomy_of (n := acc.length + 1) (b := 48) (by omega) (by omega)]
      have e : [CV.s (cvS (cellAt r i 0)), CV.i IntKind.i64 (cvI (cellAt r i 1)), CV.i IntKind.i64 (cvI (cellAt r i (1 + 1))), CV.s (cvS (cellAt r i (1 + 1 + 1)))] = cr r[i] := by
        rw [Lib.cellAt_of h, Lib.cellAt_of h, Lib.cellAt_of h, Lib.cellAt_of h]; rfl
      rw [e])
    (fun m i acc h h2 hp => by
      have hp' : (!(Go.Op.bytesLess (ByteArray.toList (cvS (cellAt r i 0))) (ByteArray.toList k) || List.beq (ByteArray.toList (cvS (cellAt r i 0))) (ByteArray.toList k))) = false := by rw [Lib.cellAt_of h]; exact hp
      simp only [l9, r9, Lib.dlt, h, decide_true, Lib.dle0, Bool.and_self, cond_true, Lib.toN, hp', cond_false, hw i h])
    (fun m acc => by simp only [l9, r9, Lib.dlt, Nat.lt_irrefl, decide_false, cond_false]) Lib.big acc0 ha (Lib.lt_big (by omega))
  have key1 := Lib.filt_run (pl k) cr r 0
    (fun m (i : Nat) (acc : Row) => l3 Lib.big (fun (y7 : Row) (_ : Int) (y9 : ByteArray) (y10 y11 : Int) (y12 : ByteArray) (y13 : Row) => bif (roomy (List.length y13 + List.length (List.set (zeros [Ck.s, Ck.i IntKind.i64, Ck.i IntKind.i64, Ck.s] 1) 0 [CV.s y9, CV.i IntKind.i64 y10, CV.i IntKind.i64 y11, CV.s y12])) 48) then (l9 Lib.big (fun (_ : Row) (_ : Int) (_ : ByteArray) (_ _ : Int) (_ : ByteArray) (y27 : Row) => some y27) Lib.big y7 0 y9 y10 y11 y12 (y13 ++ List.set (zeros [Ck.s, Ck.i IntKind.i64, Ck.i IntKind.i64, Ck.s] 1) 0 [CV.s y9, CV.i IntKind.i64 y10, CV.i IntKind.i64 y11, CV.s y12])) else (none)) m r (i : Int) k s l b0 acc)
    (fun acc => bif (roomy (List.length acc + 1) 48) then (l9 Lib.big (fun (_ : Row) (_ : Int) (_ : ByteArray) (_ _ : Int) (_ : ByteArray) (y27 : Row) => some y27) Lib.big r 0 k s l b0 (acc ++ [nw k s l b0])) else none)
    (fun m i acc h h2 hp => by
      have hp' : Go.Op.bytesLess (ByteArray.toList (cvS (cellAt r i 0))) (ByteArray.toList k) = true := by rw [Lib.cellAt_of h]; exact hp
      simp only [l3, r3, Lib.dlt, h, decide_true, Lib.dle0, Bool.and_self, cond_true, Lib.toN, hp', hw i h, Lib.len_set1, List.length_singleton, Lib.roomy_of (n := acc.length + 1) (b := 48) (by omega) (by omega)]
      have e : [CV.s (cvS (cellAt r i 0)), CV.i IntKind.i64 (cvI (cellAt r i 1)), CV.i IntKind.i64 (cvI (cellAt r i (1 + 1))), CV.s (cvS (cellAt r i (1 + 1 + 1)))] = cr r[i] := by
        rw [Lib.cellAt_of h, Lib.cellAt_of h, Lib.cellAt_of h, Lib.cellAt_of h]; rfl
      rw [e])
    (fun m i acc h h2 hp => by
      have hp' : Go.Op.bytesLess (ByteArray.toList (cvS (cellAt r i 0))) (ByteArray.toList k) = false := by rw [Lib.cellAt_of h]; exact hp
      simp only [l3, r3, Lib.dlt, h, decide_true, Lib.dle0, Bool.and_self, cond_true, Lib.toN, hp', cond_false, hw i h])
    (fun m acc => by simp only [l3, r3, Lib.dlt, Nat.lt_irrefl, decide_false, cond_false]; rfl) Lib.big [] (Nat.le_refl _) (Lib.lt_big (by omega))
  unfold b
  refine key1.trans ?_
  have hf : ((r.filter (pl k)).map cr).length ≤ r.length := by rw [List.length_map]; exact List.length_filter_le _ _
  rw [List.nil_append, Lib.roomy_of (by omega) (by omega), cond_true]
  exact key2 _ (by rw [List.length_append, List.length_singleton]; omega)
/-- Rows in the order of their keys, each told by its cells. -/
def Or (r : Row) : Prop := r.Pairwise lt ∧ ∀ y ∈ r, cr y = y
theorem map_cr {r : Row} (h : ∀ y ∈ r, cr y = y) (q : List CV → Bool) : (r.filter q).map cr = r.filter q := by
  have := List.map_congr_left (l := r.filter q) (f := cr) (g := fun z => z) (fun y hy => h y (List.mem_filter.1 hy).1)
  rw [this]; exact List.map_id _
theorem keep_or {r : Row} (h : Or r) (k : ByteArray) (s l : Int) (b : ByteArray) : Or (val r k s l b) ∧ (val r k s l b).length ≤ r.length + 1 := by
  unfold val
  rw [map_cr h.2, map_cr h.2]
  have hg : ∀ y, pg k y = true → Go.Op.bytesLess (ByteArray.toList k) (key y) = true := by
    intro y hy
    unfold pg at hy
    simp only [Bool.not_eq_true', Bool.or_eq_false_iff] at hy
    refine bl_tri _ _ hy.1 (fun e => ?_)
    have := hy.2
    rw [e, Lib.beq_self] at this; cases this
  refine ⟨⟨?_, ?_⟩, ?_⟩
  · rw [List.append_assoc, List.pairwise_append]
    refine ⟨h.1.sublist List.filter_sublist, ?_, ?_⟩
    · rw [List.singleton_append, List.pairwise_cons]
      exact ⟨fun y hy => hg y (List.mem_filter.1 hy).2, h.1.sublist List.filter_sublist⟩
    · intro y hy z hz
      have h1 : Go.Op.bytesLess (key y) (ByteArray.toList k) = true := (List.mem_filter.1 hy).2
      rcases List.mem_append.1 hz with q | q
      · rw [List.mem_singleton.1 q]; exact h1
      · exact bl_trans _ _ _ h1 (hg z (List.mem_filter.1 q).2)
  · intro y hy
    rcases List.mem_append.1 hy with q | q
    · rcases List.mem_append.1 q with q | q
      · exact h.2 y (List.mem_filter.1 q).1
      · rw [List.mem_singleton.1 q]; rfl
    · exact h.2 y (List.mem_filter.1 q).1
  · have hlen : ∀ r : Row, (r.filter (pl k)).length + (r.filter (pg k)).length ≤ r.length := by
      intro r
      induction r with
      | nil => exact Nat.le_refl _
      | cons y r ih =>
        have hx : pl k y = true → pg k y = false := by
          intro h; unfold pl at h; unfold pg; rw [h]; rfl
        cases h1 : pl k y with
        | true =>
          rw [List.filter_cons_of_pos h1, List.filter_cons_of_neg (by rw [hx h1]; simp)]
          simp only [List.length_cons]; omega
        | false =>
          rw [List.filter_cons_of_neg (by simp [h1])]
          cases h2 : pg k y with
          | true => rw [List.filter_cons_of_pos h2]; simp only [List.length_cons]; omega
          | false => rw [List.filter_cons_of_neg (by simp [h2])]; simp only [List.length_cons]; omega
    have := hlen r
    simp only [List.length_append, List.length_singleton]; omega
end Go.FG.Pu.spec_l15Put

namespace Go.FG.Pu.spec_ReadEntry
theorem head {t : ByteArray} {p : Nat} {b : UInt8} {r : List UInt8} (h : t.data.toList.drop p = b :: r) : p < t.size ∧ btN t p = b.toNat ∧ t.data.toList.drop (p + 1) = r := by
  have hl := congrArg List.length h
  rw [List.length_drop, List.length_cons] at hl
  have hs : t.data.toList.length = t.size := rfl
  have hp : p < t.data.toList.length := by omega
  have hd := List.drop_eq_getElem_cons hp
  rw [hd] at h
  injection h with h1 h2
  refine ⟨by omega, ?_, h2⟩
  unfold btN
  have hp' : p < t.data.size := hp
  rw [show t.data.getD p 0 = t.data[p] by unfold Array.getD; rw [dif_pos hp']; rfl]
  rw [← h1]; rfl
theorem bytes_cons (x : Int) (r : Row) : (bytesOf ([CV.i IntKind.u8 x] :: r)).data.toList = UInt8.ofNat x.toNat :: (bytesOf r).data.toList := rfl
theorem rv_enc (t : ByteArray) (a : Nat) (rest : List UInt8) : ∀ (f j : Nat) (n y : Int), 0 ≤ y → 0 ≤ n → n + y * 128 ^ j ≤ 1000000000 → y ≤ 1000000000 → (j > 0 → 0 < y) → t.data.toList.drop (a + j) = (bytesOf (Lib.vb y)).data.toList ++ rest → (Lib.vb y).length ≤ f →
    Lib.rv t a f j n = (n + y * 128 ^ j, ((a + j + (Lib.vb y).length : Nat) : Int), true) ∧ t.data.toList.drop (a + j + (Lib.vb y).length) = rest
  | 0, j, n, y, h0, hn, hb, hy, hj, hd, hf => by
    by_cases hc : y > 127
    · rw [Lib.vb_big hc] at hf; simp at hf
    · rw [Lib.vb_small hc] at hf; simp at hf
  | f + 1, j, n, y, h0, hn, hb, hy, hj, hd, hf => by
    by_cases hc : y > 127
    · have e1 : Int.tmod y 128 = y % 128 := Int.tmod_eq_emod_of_nonneg (by omega)
      have e2 : Int.tdiv y 128 = y / 128 := Int.tdiv_eq_ediv_of_nonneg (by omega)
      have e3 : w64 (y % 128 + 128) = y % 128 + 128 := Lib.w64_ok (by omega) (by omega)
      have e4 : IntKind.wrap IntKind.u8 (y % 128 + 128) = y % 128 + 128 := by show (y % 128 + 128) % 256 = _; omega
      have e5 : w64 (y / 128) = y / 128 := Lib.w64_ok (by omega) (by omega)
      have ev : Lib.vb y = [CV.i IntKind.u8 (y % 128 + 128)] :: Lib.vb (y / 128) := by rw [Lib.vb_big hc, e1, e2, e3, e4, e5]
      rw [ev, bytes_cons, List.cons_append] at hd
      obtain ⟨q1, q2, q3⟩ := head hd
      have q4 : (btN t (a + j) : Int) = y % 128 + 128 := by
        rw [q2, UInt8.toNat_ofNat']; omega
      rw [ev, List.length_cons] at hf
      have hP : y * 128 ^ j = y % 128 * 128 ^ j + y / 128 * 128 ^ (j + 1) := by
        have hyd : y = y % 128 + 128 * (y / 128) := by omega
        rw [Int.pow_succ]
        generalize (128 : Int) ^ j = P
        conv => lhs; rw [hyd]
        rw [Int.add_mul, Int.mul_comm P 128, ← Int.mul_assoc, Int.mul_comm (y / 128) 128]
      have hpp : (0 : Int) ≤ y % 128 * 128 ^ j := Int.mul_nonneg (by omega) (Int.le_of_lt (Int.pow_pos (by omega)))
      obtain ⟨i1, i2⟩ := rv_enc t a rest f (j + 1) (n + y % 128 * 128 ^ j) (y / 128) (by omega) (by omega) (by omega) (by omega) (by omega) (by rw [show a + (j + 1) = a + j + 1 by omega]; exact q3) (by omega)
      refine ⟨?_, ?_⟩
      · unfold Lib.rv
        rw [if_pos q1, q4, if_pos (by omega), show (y % 128 + 128) % 128 = y % 128 by omega, i1, hP, ev, List.length_cons]
        refine Prod.ext ?_ (Prod.ext ?_ rfl)
        · dsimp only; omega
        · dsimp only; omega
      · rw [ev, List.length_cons, show a + j + ((Lib.vb (y / 128)).length + 1) = a + (j + 1) + (Lib.vb (y / 128)).length by omega]; exact i2
    · have e4 : IntKind.wrap IntKind.u8 y = y := by show y % 256 = _; omega
      have ev : Lib.vb y = [[CV.i IntKind.u8 y]] := by rw [Lib.vb_small hc, e4]
      rw [ev, bytes_cons, List.cons_append] at hd
      obtain ⟨q1, q2, q3⟩ := head hd
      have q4 : (btN t (a + j) : Int) = y := by
        rw [q2, UInt8.toNat_ofNat']; omega
      refine ⟨?_, by rw [ev]; exact q3⟩
      unfold Lib.rv
      rw [if_pos q1, q4, if_neg hc, show y % 128 = y by omega, if_neg (by omega), ev]
      rfl
theorem vb5 {y : Int} (h : y ≤ 1000000000) : (Lib.vb y).length ≤ 5 := by
  have e : (128 : Int) ^ (4 + 1) = 34359738368 := by decide
  exact Lib.vb_len2 4 y (by rw [e]; omega)
theorem readVar_enc (t : ByteArray) (p : Nat) (y : Int) (rest : List UInt8) (h0 : 0 ≤ y) (h1 : y ≤ 1000000000) (hd : t.data.toList.drop p = (bytesOf (Lib.vb y)).data.toList ++ rest) : Lib.readVar t p = (y, ((p + (Lib.vb y).length : Nat) : Int), true) ∧ t.data.toList.drop (p + (Lib.vb y).length) = rest := by
  have hl := congrArg List.length hd
  have hne : 0 < (Lib.vb y).length := by
    by_cases hc : y > 127
    · rw [Lib.vb_big hc]; simp
    · rw [Lib.vb_small hc]; simp
  have hb : (bytesOf (Lib.vb y)).data.toList.length = (Lib.vb y).length := Lib.size_bytesOf _
  rw [List.length_drop, List.length_append, hb] at hl
  have hs : t.data.toList.length = t.size := rfl
  obtain ⟨i1, i2⟩ := rv_enc t p rest 5 0 0 y h0 (by omega) (by simp; omega) h1 (by omega) (by simpa using hd) (vb5 h1)
  refine ⟨?_, by simpa using i2⟩
  unfold Lib.readVar
  rw [if_pos (by omega), show ((p : Nat) : Int).toNat = p from rfl, i1]
  simp
theorem ext_of (t k : ByteArray) (p : Nat) (rest : List UInt8) (hd : t.data.toList.drop p = k.data.toList ++ rest) : t.extract p (p + k.size) = k := by
  apply Lib.ba_ext
  simp only [ByteArray.data_extract, Array.toList_extract, List.extract_eq_take_drop]
  rw [hd, show p + k.size - p = k.data.toList.length by show p + k.size - p = k.size; omega, List.take_left]
theorem enc (k : ByteArray) (s l : Int) (b : ByteArray) (h : Pu.spec_EntryOk.v k s l b = true) : v (Pu.spec_EntryText.txt k s l b) = (k, s, l, b, true) := by
  obtain ⟨⟨k1, k2⟩, ⟨s1, s2⟩, ⟨l1, l2⟩, b1⟩ := Pu.spec_EntryOk.rng h
  generalize ht : Pu.spec_EntryText.txt k s l b = t
  have hT : t.data.toList = (bytesOf (Lib.vb k.size)).data.toList ++ (k.data.toList ++ ((bytesOf (Lib.vb s)).data.toList ++ ((bytesOf (Lib.vb l)).data.toList ++ b.data.toList))) := by
    rw [← ht]; unfold Pu.spec_EntryText.txt
    simp only [ByteArray.data_append, Array.toList_append, List.append_assoc]
  have hs : t.data.toList.length = t.size := rfl
  have hk : k.data.toList.length = k.size := rfl
  obtain ⟨a1, a2⟩ := readVar_enc t 0 (k.size : Int) _ (by omega) (by omega) (by rw [List.drop_zero]; exact hT)
  rw [Nat.zero_add] at a1 a2
  generalize (Lib.vb (k.size : Int)).length = n1 at a1 a2
  have len1 := congrArg List.length a2
  simp only [List.length_drop, List.length_append, hk, hs] at len1
  have ek := ext_of t k n1 _ a2
  have a3 : t.data.toList.drop (n1 + k.size) = (bytesOf (Lib.vb s)).data.toList ++ ((bytesOf (Lib.vb l)).data.toList ++ b.data.toList) := by
    rw [← List.drop_drop, a2]
    exact List.drop_left' (by rw [hk])
  obtain ⟨b1', b2⟩ := readVar_enc t (n1 + k.size) s _ (by omega) (by omega) a3
  obtain ⟨c1, c2⟩ := readVar_enc t (n1 + k.size + (Lib.vb s).length) l _ (by omega) (by omega) b2
  have hr : Lib.readShort t 0 = (k, ((n1 + k.size : Nat) : Int), true) := by
    unfold Lib.readShort
    rw [show (0 : Int) = ((0 : Nat) : Int) from rfl, a1]
    dsimp only
    rw [if_pos (by omega)]
    rw [show ((n1 : Nat) : Int).toNat = n1 from rfl, show ((n1 : Int) + (k.size : Int)).toNat = n1 + k.size by omega, ek]
    rfl
  have eb : t.extract (n1 + k.size + (Lib.vb s).length + (Lib.vb l).length) t.size = b := by
    have hl2 := congrArg List.length c2
    rw [List.length_drop, hs] at hl2
    have hbs : b.data.toList.length = b.size := rfl
    by_cases hz : b.size = 0
    · apply Lib.ba_ext
      simp only [ByteArray.data_extract, Array.toList_extract, List.extract_eq_take_drop]
      rw [c2]
      exact List.take_of_length_le (by omega)
    · apply Lib.ba_ext
      simp only [ByteArray.data_extract, Array.toList_extract, List.extract_eq_take_drop]
      rw [c2]
      exact List.take_of_length_le (by omega)
  unfold v
  rw [hr]; dsimp only
  rw [b1']; dsimp only
  rw [c1]; dsimp only
  rw [show ((n1 + k.size + (Lib.vb s).length + (Lib.vb l).length : Nat) : Int).toNat = n1 + k.size + (Lib.vb s).length + (Lib.vb l).length from rfl, eb, if_pos h]
/-- What was read is right, and its text is what was read. -/
theorem dec {t : ByteArray} (h : (v t).2.2.2.2 = true) : Pu.spec_EntryText.v (v t).1 (v t).2.1 (v t).2.2.1 (v t).2.2.2.1 = (t, true) := by
  unfold v at h ⊢
  cases h1 : Lib.readShort t 0 with
  | mk k r1 =>
    obtain ⟨a, ok1⟩ := r1
    rw [h1] at h
    cases ok1 with
    | false => cases h
    | true =>
      dsimp only at h ⊢
      cases h2 : Lib.readVar t a with
      | mk s r2 =>
        obtain ⟨x, ok2⟩ := r2
        rw [h2] at h
        cases ok2 with
        | false => cases h
        | true =>
          dsimp only at h ⊢
          cases h3 : Lib.readVar t x with
          | mk l r3 =>
            obtain ⟨y, ok3⟩ := r3
            rw [h3] at h
            cases ok3 with
            | false => cases h
            | true =>
              obtain ⟨p1, p2, p3, p4, p5⟩ := Lib.readShort_ok h1
              obtain ⟨q1, q2, q3, q4, q5, q6⟩ := Lib.readVar_ok h2
              obtain ⟨r1, r2, r3, r4, r5, r6⟩ := Lib.readVar_ok h3
              dsimp only at h ⊢
              by_cases hE : Pu.spec_EntryOk.v k s l (t.extract y.toNat t.size) = true
              · rw [if_pos hE]
                have ht : Pu.spec_EntryText.txt k s l (t.extract y.toNat t.size) = t := by
                  unfold Pu.spec_EntryText.txt
                  rw [p5, q6, Lib.ext_app t (by omega) (by omega), r6, Lib.ext_app t (by omega) (by omega), Lib.ext_app t (by omega) (by omega)]
                  exact Lib.ext_all t
                unfold Pu.spec_EntryText.v
                rw [if_pos hE, ht]
              · rw [if_neg hE] at h; cases h
end Go.FG.Pu.spec_ReadEntry

namespace Go.FG.Pu.slices_IndexFunc_Entryb
def p (s : Row) (k : ByteArray) (i : Nat) : Bool := List.beq (ByteArray.toList (cvS (cellAt s i 0))) (ByteArray.toList k)
theorem ok (d : Row) (n : ByteArray) (hl : d.length ≤ 4294967296) : c d n = true ∧ v d n = Lib.fi (p d n) d.length 0 := by
  refine out d n ?_
  unfold vo b
  refine Lib.fi_gen (p d n) d.length (fun m (i : Nat) => l2 Lib.big (fun (_ : Row) (_ : ByteArray) (y7 _ _ : Int) => some y7) (fun (_ : Row) (_ : ByteArray) (_ _ _ : Int) => some (-1)) m d n 0 (d.length : Int) (i : Int)) some (fun m i hi hp => ?_) (fun m i hi hp => ?_) (fun m => ?_) Lib.big (Lib.lt_big (by omega))
  · unfold p at hp
    simp only [l2, r2, Lib.dlt, Lib.dle0, Lib.toN, hi, decide_true, Bool.and_self, cond_true, Pu.impl_dropEntry_1.v, hp]
  · unfold p at hp
    simp only [l2, r2, Lib.dlt, Lib.dle0, Lib.toN, hi, decide_true, Bool.and_self, cond_true, Pu.impl_dropEntry_1.v, hp, cond_false, Lib.w64_s hi (by omega : d.length ≤ 9223372036854775807)]
  · simp only [l2, r2, Lib.dlt, Nat.lt_irrefl, decide_false, cond_false]
end Go.FG.Pu.slices_IndexFunc_Entryb

namespace Go.FG.Pu.slices_DeleteFunc_Entry
def cn (y : List CV) : Bool := match y with | [.s _, .i .i64 _, .i .i64 _, .s _] => true | _ => false
def cr (y : List CV) : List CV := [CV.s (cvS (y.getD 0 (.b false))), CV.i IntKind.i64 (cvI (y.getD 1 (.b false))), CV.i IntKind.i64 (cvI (y.getD 2 (.b false))), CV.s (cvS (y.getD 3 (.b false)))]
theorem cr_of {y : List CV} (h : cn y = true) : cr y = y := by
  unfold cn at h
  split at h
  · rfl
  · cases h
theorem len_of {y : List CV} (h : cn y = true) : y.length = 4 := by rw [← cr_of h]; rfl
def keep (d : ByteArray) (y : List CV) : Bool := !List.beq (ByteArray.toList (cvS (y.getD 0 (.b false)))) (ByteArray.toList d)
theorem filter_succ (d : ByteArray) {s : Row} {i : Nat} (h : i < s.length) : (s.take (i + 1)).filter (keep d) = (s.take i).filter (keep d) ++ (bif keep d s[i] then [s[i]] else []) := by
  rw [List.take_succ_eq_append_getElem h, List.filter_append]
  cases hk : keep d s[i] <;> simp [hk]
theorem run {R : Type} (N : Nat) (s0 : Row) (d : ByteArray) (hc : s0.all cn = true) (hn : s0.length ≤ 9223372036854775807) (K : ByteArray → Int → Int → Row → Option R) (kr : Row → Option R)
    (hK : ∀ (j : Nat) x, x.length = s0.length → j ≤ s0.length → K d j s0.length x = kr (x.take j)) (m j i : Nat) (x : Row)
    (hi : j < i ∧ i ≤ s0.length ∧ x.length = s0.length ∧ (∀ y ∈ x, y.length = 4) ∧ x.take j = (s0.take i).filter (keep d) ∧ x.drop i = s0.drop i) (hm : s0.length - i < m) :
    l5 N K m d j i x = kr (s0.filter (keep d)) := by
  have hca : ∀ y ∈ s0, cn y = true := List.all_eq_true.1 hc
  refine Lib.loop_gen (fun m (s : Nat × Nat × Row) => l5 N K m d s.1 s.2.1 s.2.2) (fun s => s0.length - s.2.1)
    (fun s => s.1 < s.2.1 ∧ s.2.1 ≤ s0.length ∧ s.2.2.length = s0.length ∧ (∀ y ∈ s.2.2, y.length = 4) ∧ s.2.2.take s.1 = (s0.take s.2.1).filter (keep d) ∧ s.2.2.drop s.2.1 = s0.drop s.2.1)
    (fun _ => kr (s0.filter (keep d))) (fun m s hs => ?_) m (j, i, x) hi hm
  obtain ⟨j, i, x⟩ := s
  obtain ⟨h1, h2, h3, h4, h5, h6⟩ := hs
  simp only at h1 h2 h3 h4 h5 h6 ⊢
  by_cases hin : i < s0.length
  · right
    have hix : i < x.length := by omega
    have hjx : j < x.length := by omega
    have hx : x[i] = s0[i] := by
      have e1 := Lib.drop_cons_of hix
      have e2 := Lib.drop_cons_of hin
      rw [h6, e2] at e1
      exact (List.cons.inj e1).1.symm
    have hd : x.drop (i + 1) = s0.drop (i + 1) := by
      have e1 := Lib.drop_cons_of hix
      have e2 := Lib.drop_cons_of hin
      rw [h6, e2] at e1
      exact (List.cons.inj e1).2.symm
    have hcn := hca _ (List.getElem_mem hin)
    have hf := filter_succ d hin
    cases hk : keep d s0[i] with
    | true =>
      refine ⟨(j + 1, i + 1, x.set j s0[i]), ?_, by simp only; omega, trivial, ?_⟩
      · rw [hk, cond_true, ← h5] at hf
        refine ⟨by simp only; omega, by simp only; omega, by simpa using h3, ?_, ?_, ?_⟩
        · intro y hy
          rcases List.mem_or_eq_of_mem_set hy with h | h
          · exact h4 y h
          · rw [h]; exact len_of hcn
        · rw [hf]
          rw [List.take_succ_eq_append_getElem (by simpa using hjx)]
          simp [List.take_set_of_le]
        · simp only
          rw [List.drop_set_of_lt (by omega)]; exact hd
      · have e : Pu.impl_dropEntry_1.v (cvS (cellAt x i 0)) (cvI (cellAt x i 1)) (cvI (cellAt x i (1 + 1))) (cvS (cellAt x i (1 + 1 + 1))) d = false := by
          have : (!Pu.impl_dropEntry_1.v (cvS (cellAt x i 0)) (cvI (cellAt x i 1)) (cvI (cellAt x i (1 + 1))) (cvS (cellAt x i (1 + 1 + 1))) d) = true := by
            rw [Lib.cellAt_of hix, hx]; exact hk
          simpa using this
        have es : setC x j 0 [CV.s (cvS (cellAt x i 0)), CV.i IntKind.i64 (cvI (cellAt x i 1)), CV.i IntKind.i64 (cvI (cellAt x i (1 + 1))), CV.s (cvS (cellAt x i (1 + 1 + 1)))] = x.set j s0[i] := by
          have hl := h4 _ (List.getElem_mem hjx)
          rw [Lib.setC_eq hjx, Lib.cellAt_of hix, Lib.cellAt_of hix, Lib.cellAt_of hix, Lib.cellAt_of hix, hx]
          have : splice x[j] 0 (cr s0[i]) = s0[i] := by
            rw [cr_of hcn]
            unfold splice
            have := len_of hcn
            simp [hl, this, List.drop_eq_nil_of_le]
          unfold cr at this
          rw [this]
        have b1 : (j : Int) < (x.length : Int) := by omega
        simp only [l5, r5, Lib.dlt, Lib.dle0, Lib.toN, hix, hjx, decide_true, Bool.true_and, cond_true, e, Bool.not_false, es, Lib.w64_s hin hn, Lib.w64_s (show j < s0.length by omega) hn]
    | false =>
      refine ⟨(j, i + 1, x), ?_, by simp only; omega, trivial, ?_⟩
      · rw [hk, cond_false, List.append_nil, ← h5] at hf
        exact ⟨by simp only; omega, by simp only; omega, h3, h4, hf.symm, hd⟩
      · have e : Pu.impl_dropEntry_1.v (cvS (cellAt x i 0)) (cvI (cellAt x i 1)) (cvI (cellAt x i (1 + 1))) (cvS (cellAt x i (1 + 1 + 1))) d = true := by
          have : (!Pu.impl_dropEntry_1.v (cvS (cellAt x i 0)) (cvI (cellAt x i 1)) (cvI (cellAt x i (1 + 1))) (cvS (cellAt x i (1 + 1 + 1))) d) = false := by
            rw [Lib.cellAt_of hix, hx]; exact hk
          simpa using this
        simp only [l5, r5, Lib.dlt, Lib.dle0, Lib.toN, hix, decide_true, Bool.true_and, cond_true, e, Bool.not_true, cond_false, Lib.w64_s hin hn]
  · left
    have : i = s0.length := by omega
    subst this
    rw [List.take_length] at h5
    have e := hK j x h3 (by omega)
    rw [h5] at e
    have hix : ¬ s0.length < x.length := by omega
    simp only [l5, r5, Lib.dlt, hix, decide_false, cond_false, e]
theorem ok (s0 : Row) (del1 : ByteArray) (hc : s0.all cn = true) (hn : s0.length ≤ 4294967296) : c s0 del1 = true ∧ v s0 del1 = s0.filter (keep del1) := by
  refine out s0 del1 ?_
  have hv := Pu.slices_IndexFunc_Entryb.ok s0 del1 hn
  unfold vo b
  rw [hv.1, hv.2, cond_true]
  rcases Lib.fi_rng (Pu.slices_IndexFunc_Entryb.p s0 del1) s0.length 0 with ⟨h, hall⟩ | ⟨k, _, hk2, hk, hkp, hbef⟩
  · rw [h]
    have : s0.filter (keep del1) = s0 := by
      rw [List.filter_eq_self]
      intro y hy
      obtain ⟨i, hi, rfl⟩ := List.getElem_of_mem hy
      have := hall i (Nat.zero_le _) (by omega)
      unfold Pu.slices_IndexFunc_Entryb.p at this
      rw [Lib.cellAt_of hi] at this
      unfold keep; rw [this]; rfl
    rw [this]; rfl
  · rw [hk]
    have hkl : k < s0.length := by omega
    have hne : decide ((k : Int) = Int.neg 1) = false := decide_eq_false (by show ¬ (k : Int) = -1; omega)
    rw [hne, cond_false, Lib.w64_s hkl (by omega)]
    have hca : ∀ y ∈ s0, cn y = true := List.all_eq_true.1 hc
    refine run _ s0 del1 hc (by omega) _ some (fun j x hx hj => ?_) _ k (k + 1) s0 ⟨by omega, by omega, rfl, fun y hy => len_of (hca y hy), ?_, rfl⟩ (Lib.lt_big (by omega))
    · have b1 : inB (j : Int) (s0.length : Int) (s0.length : Int) = true := by simp [inB]; omega
      have e : List.take j x ++ zeros [Ck.s, Ck.i IntKind.i64, Ck.i IntKind.i64, Ck.s] (s0.length - j) ++ List.drop s0.length x = List.take j x ++ zeros [Ck.s, Ck.i IntKind.i64, Ck.i IntKind.i64, Ck.s] (s0.length - j) := by
        rw [List.drop_eq_nil_of_le (by omega), List.append_nil]
      have hl : (List.take j x).length = j := by simp; omega
      simp only [hx, Lib.toN, b1, cond_true, e]
      rw [Lib.bif_t (by simp [inB]; omega)]
      unfold view
      rw [show Int.toNat 0 = 0 from rfl, List.drop_zero, Nat.sub_zero, List.take_append_of_le_length (by omega), List.take_of_length_le (by omega)]
    · rw [filter_succ del1 hkl]
      have e1 : keep del1 s0[k] = false := by
        unfold Pu.slices_IndexFunc_Entryb.p at hkp
        rw [Lib.cellAt_of hkl] at hkp
        unfold keep; rw [hkp]; rfl
      have e2 : (s0.take k).filter (keep del1) = s0.take k := by
        rw [List.filter_eq_self]
        intro y hy
        obtain ⟨i, hi, rfl⟩ := List.getElem_of_mem hy
        have hik : i < k := by simp at hi; omega
        have := hbef i (Nat.zero_le _) hik
        unfold Pu.slices_IndexFunc_Entryb.p at this
        rw [Lib.cellAt_of (by omega)] at this
        rw [List.getElem_take]
        unfold keep; rw [this]; rfl
      rw [e1, e2, cond_false, List.append_nil]
end Go.FG.Pu.slices_DeleteFunc_Entry

namespace Go.FG.Pu.impl_copyEntries
theorem ok (l : Row) (hl : l.length ≤ 4294967296) : c l = true ∧ v l = l := by
  refine out l ?_
  unfold vo b
  rw [show List.length (zeros [Ck.s, Ck.i IntKind.i64, Ck.i IntKind.i64, Ck.s] 0) + l.length = l.length by simp [zeros], Lib.roomy_of (by omega) (by omega)]
  rfl
end Go.FG.Pu.impl_copyEntries

namespace Go.FG.Pu.impl_dropEntry
theorem ok (l : Row) (k : ByteArray) (hc : l.all Pu.slices_DeleteFunc_Entry.cn = true) (hl : l.length ≤ 4294967296) : c l k = true ∧ v l k = l.filter (Pu.slices_DeleteFunc_Entry.keep k) := by
  have h1 := Pu.impl_copyEntries.ok l hl
  have h2 := Pu.slices_DeleteFunc_Entry.ok l k hc hl
  exact out l k (by unfold vo b; rw [h1.1, h1.2, h2.1, h2.2, cond_true, cond_true])
end Go.FG.Pu.impl_dropEntry

namespace Go.FG.Pu.impl_putEntry
theorem tw_gen (p q : List CV → Bool) : ∀ r : Row, (∀ y ∈ r, q y = !p y) → r.Pairwise (fun y z => p z = true → p y = true) → r.takeWhile p = r.filter p ∧ r.dropWhile p = r.filter q
  | [], _, _ => ⟨rfl, rfl⟩
  | y :: r, hq, h => by
    rw [List.pairwise_cons] at h
    have hy := hq y (by simp)
    cases hp : p y with
    | true =>
      rw [hp] at hy
      obtain ⟨i1, i2⟩ := tw_gen p q r (fun z hz => hq z (by simp [hz])) h.2
      rw [List.takeWhile_cons_of_pos hp, List.filter_cons_of_pos hp, List.dropWhile_cons_of_pos hp, List.filter_cons_of_neg (by rw [hy]; simp), i1, i2]; exact ⟨rfl, rfl⟩
    | false =>
      rw [hp] at hy
      have hn : ¬ p y = true := by rw [hp]; simp
      have ha : ∀ z ∈ r, p z = false := fun z hz => by
        cases hz2 : p z with
        | false => rfl
        | true => exact absurd (h.1 z hz hz2) hn
      rw [List.takeWhile_cons_of_neg hn, List.filter_cons_of_neg hn, List.dropWhile_cons_of_neg hn, List.filter_cons_of_pos (by rw [hy]; rfl)]
      refine ⟨?_, ?_⟩
      · symm; rw [List.filter_eq_nil_iff]; intro z hz; rw [ha z hz]; simp
      · congr 1; symm; rw [List.filter_eq_self]; intro z hz; rw [hq z (by simp [hz]), ha z hz]; rfl
theorem cn_all {r : Row} (h : ∀ y ∈ r, Pu.spec_l15Put.cr y = y) : r.all Pu.slices_DeleteFunc_Entry.cn = true := by
  rw [List.all_eq_true]
  intro y hy
  rw [← h y hy]; rfl
theorem ok (r : Row) (k : ByteArray) (s l : Int) (b0 : ByteArray) (hO : Pu.spec_l15Put.Or r) (hl : r.length ≤ 1048576) : c r k s l b0 = true ∧ v r k s l b0 = Pu.spec_l15Put.val r k s l b0 := by
  refine out r k s l b0 ?_
  have hd := Pu.impl_dropEntry.ok r k (cn_all hO.2) (by omega)
  unfold vo b
  rw [hd.1, cond_true, hd.2]
  have hfl : (r.filter (Pu.slices_DeleteFunc_Entry.keep k)).length ≤ r.length := List.length_filter_le _ _
  have hke : ∀ y, Pu.slices_DeleteFunc_Entry.keep k y = !List.beq (Pu.spec_l15Put.key y) (ByteArray.toList k) := fun _ => rfl
  -- what is left in order
  have htw := tw_gen (Pu.spec_l15Put.pl k) (Pu.spec_l15Put.pg k) (r.filter (Pu.slices_DeleteFunc_Entry.keep k)) (fun y hy => by
    have h2 := (List.mem_filter.1 hy).2
    rw [hke] at h2
    have h3 : List.beq (Pu.spec_l15Put.key y) (ByteArray.toList k) = false := by simpa using h2
    unfold Pu.spec_l15Put.pg Pu.spec_l15Put.pl
    rw [h3, Bool.or_false]) ((hO.1.sublist List.filter_sublist).imp (fun {y z} hyz hz => Pu.spec_l15Put.bl_trans _ _ _ hyz hz))
  have e1 : (r.filter (Pu.slices_DeleteFunc_Entry.keep k)).filter (Pu.spec_l15Put.pl k) = r.filter (Pu.spec_l15Put.pl k) := by
    rw [List.filter_filter]
    apply List.filter_congr
    intro y _
    cases h : Pu.spec_l15Put.pl k y with
    | false => rfl
    | true =>
      rw [hke, Bool.true_and]
      cases h2 : List.beq (Pu.spec_l15Put.key y) (ByteArray.toList k) with
      | false => rfl
      | true =>
        exfalso
        have h3 := Lib.beq_iff.1 h2
        unfold Pu.spec_l15Put.pl at h
        rw [h3, Pu.spec_l15Put.bl_irrefl] at h; cases h
  have e2 : (r.filter (Pu.slices_DeleteFunc_Entry.keep k)).filter (Pu.spec_l15Put.pg k) = r.filter (Pu.spec_l15Put.pg k) := by
    rw [List.filter_filter]
    apply List.filter_congr
    intro y _
    rw [hke]
    unfold Pu.spec_l15Put.pg
    cases List.beq (Pu.spec_l15Put.key y) (ByteArray.toList k) <;> cases Go.Op.bytesLess (Pu.spec_l15Put.key y) (ByteArray.toList k) <;> rfl
  generalize r.filter (Pu.slices_DeleteFunc_Entry.keep k) = o at hfl htw e1 e2
  have := Lib.stop_run (Pu.spec_l15Put.pl k) o (fun m (i : Nat) => l3 Lib.big (fun (y6 : Int) (y7 : ByteArray) (y8 y9 : Int) (y10 : ByteArray) (y11 : Row) => bif (decide (0 ≤ y6) && decide (y6 ≤ (↑(List.length y11) : Int)) && roomy (List.length y11 + List.length (List.set (zeros [Ck.s, Ck.i IntKind.i64, Ck.i IntKind.i64, Ck.s] 1) 0 [CV.s y7, CV.i IntKind.i64 y8, CV.i IntKind.i64 y9, CV.s y10])) 48) then (some (Pu.insR y11 (Int.toNat y6) (List.set (zeros [Ck.s, Ck.i IntKind.i64, Ck.i IntKind.i64, Ck.s] 1) 0 [CV.s y7, CV.i IntKind.i64 y8, CV.i IntKind.i64 y9, CV.s y10]))) else (none)) m (i : Int) k s l b0 o)
    (fun a => bif decide ((a : Int) ≤ (o.length : Int)) then some (Pu.insR o a [Pu.spec_l15Put.nw k s l b0]) else none)
    (fun m i h hp => by
      have hp' : Go.Op.bytesLess (ByteArray.toList (cvS (cellAt o i 0))) (ByteArray.toList k) = true := by rw [Lib.cellAt_of h]; exact hp
      simp only [l3, r3, Lib.dlt, h, decide_true, Lib.dle0, Bool.and_self, cond_true, Lib.toN, hp', Lib.w64_s h (by omega : o.length ≤ 9223372036854775807)])
    (fun m i h hp => by
      have hp' : Go.Op.bytesLess (ByteArray.toList (cvS (cellAt o i 0))) (ByteArray.toList k) = false := by rw [Lib.cellAt_of h]; exact hp
      simp only [l3, r3, Lib.dlt, h, decide_true, Lib.dle0, Bool.and_self, Bool.true_and, Bool.and_true, cond_true, cond_false, Lib.toN, hp', Lib.len_set1, List.length_singleton, Lib.roomy_of (n := o.length + 1) (b := 48) (by omega) (by omega)]
      rfl)
    (fun m => by
      simp only [l3, r3, Lib.dlt, Nat.lt_irrefl, decide_false, decide_true, Lib.dle0, Bool.and_self, Bool.true_and, Bool.and_true, cond_true, cond_false, Lib.toN, Lib.len_set1, List.length_singleton, Lib.roomy_of (n := o.length + 1) (b := 48) (by omega) (by omega)]
      rfl) Lib.big (Lib.lt_big (by omega))
  refine this.trans ?_
  have hle := Lib.tw_le (Pu.spec_l15Put.pl k) o
  rw [decide_eq_true (by omega), cond_true]
  unfold Pu.insR Pu.spec_l15Put.val
  rw [Lib.take_tw, Lib.drop_tw, htw.1, htw.2, e1, e2, Pu.spec_l15Put.map_cr hO.2, Pu.spec_l15Put.map_cr hO.2]
end Go.FG.Pu.impl_putEntry

namespace Go.FG.Pu.spec_DiskOk
def el (r : Row) (i : Nat) : Bool := decide (1 ≤ ((cvS (cellAt r i 0)).size : Int) ∧ ((cvS (cellAt r i 0)).size : Int) ≤ 8) && (!decide (((cvS (cellAt r i 1)).size : Int) > 20000) && (decide (0 ≤ cvI (cellAt r i 2) ∧ cvI (cellAt r i 2) ≤ ((cvS (cellAt r i 1)).size : Int)) && (i == 0 || Go.Op.bytesLess (ByteArray.toList (cvS (cellAt r (i - 1) 0))) (ByteArray.toList (cvS (cellAt r i 0))))))
def val (r : Row) : Bool := decide (r.length ≤ 30) && (List.range r.length).all (el r)
theorem in_eq (n a b : Int) : Pu.spec_l01In.v n a b = decide (a ≤ n ∧ n ≤ b) := by
  unfold Pu.spec_l01In.v
  by_cases h : a ≤ n <;> by_cases h2 : n ≤ b <;> simp [h, h2]
theorem w64_p {i : Nat} (h : 0 < i) (hn : i ≤ 9223372036854775807) : w64 ((i : Int) - 1) = ((i - 1 : Nat) : Int) := by
  rw [Lib.w64_ok (by omega) (by omega)]; omega
theorem ok (r : Row) (hl : r.length ≤ 4294967296) : c r = true ∧ v r = val r := by
  refine out r ?_
  unfold vo b val
  by_cases h30 : (r.length : Int) > 30
  · rw [decide_eq_true h30, cond_true, decide_eq_false (show ¬ r.length ≤ 30 by omega)]; rfl
  rw [decide_eq_false h30, cond_false, decide_eq_true (show r.length ≤ 30 by omega), Bool.true_and]
  have key := Lib.all_gen (el r) r.length (fun m (i : Nat) => l4 Lib.big (fun (y3 : Bool) (_ : Int) (_ : Row) => some y3) (fun (_ : Bool) (_ : Int) (_ : Row) => some true) m false (i : Int) r) (some false) (some true)
    (fun m i hi hp => by
      unfold el at hp
      simp only [Bool.and_eq_true] at hp
      obtain ⟨h1, h2, h3, h4⟩ := hp
      have h3 : decide (0 ≤ cvI (cellAt r i (1 + 1)) ∧ cvI (cellAt r i (1 + 1)) ≤ ((cvS (cellAt r i 1)).size : Int)) = true := h3
      have h2 : decide (((cvS (cellAt r i 1)).size : Int) > 20000) = false := by simpa using h2
      by_cases hz : 0 < i
      · have e0 : decide ((i : Int) > 0) = true := decide_eq_true (by omega)
        have hp' : i - 1 < r.length := by omega
        have h5 : Go.Op.bytesLess (ByteArray.toList (cvS (cellAt r (i - 1) 0))) (ByteArray.toList (cvS (cellAt r i 0))) = true := by
          rcases Bool.or_eq_true _ _ ▸ h4 with q | q
          · have : i = 0 := by simpa using q
            omega
          · exact q
        simp only [l4, r4, Lib.dlt, hi, hp', decide_true, Lib.dle0, Bool.and_self, cond_true, cond_false, Lib.toN, Pu.spec_l03Name.v, in_eq, h1, h2, h3, h5, e0, w64_p hz (by omega), Bool.not_true, Lib.w64_s hi (by omega : r.length ≤ 9223372036854775807)]
      · have e0 : decide ((i : Int) > 0) = false := decide_eq_false (by omega)
        simp only [l4, r4, Lib.dlt, hi, decide_true, Lib.dle0, Bool.and_self, cond_true, cond_false, Lib.toN, Pu.spec_l03Name.v, in_eq, h1, h2, h3, e0, Bool.not_true, Lib.w64_s hi (by omega : r.length ≤ 9223372036854775807)])
    (fun m i hi hp => by
      unfold el at hp
      cases h1 : decide (1 ≤ ((cvS (cellAt r i 0)).size : Int) ∧ ((cvS (cellAt r i 0)).size : Int) ≤ 8) with
      | false => simp only [l4, r4, Lib.dlt, hi, decide_true, Lib.dle0, Bool.and_self, cond_true, cond_false, Lib.toN, Pu.spec_l03Name.v, in_eq, h1, Bool.not_false]
      | true =>
      cases h2 : decide (((cvS (cellAt r i 1)).size : Int) > 20000) with
      | true => simp only [l4, r4, Lib.dlt, hi, decide_true, Lib.dle0, Bool.and_self, cond_true, cond_false, Lib.toN, Pu.spec_l03Name.v, in_eq, h1, h2, Bool.not_true]
      | false =>
      cases h3 : decide (0 ≤ cvI (cellAt r i (1 + 1)) ∧ cvI (cellAt r i (1 + 1)) ≤ ((cvS (cellAt r i 1)).size : Int)) with
      | false => simp only [l4, r4, Lib.dlt, hi, decide_true, Lib.dle0, Bool.and_self, cond_true, cond_false, Lib.toN, Pu.spec_l03Name.v, in_eq, h1, h2, h3, Bool.not_true, Bool.not_false]
      | true =>
      rw [h1, h2, show decide (0 ≤ cvI (cellAt r i 2) ∧ cvI (cellAt r i 2) ≤ ((cvS (cellAt r i 1)).size : Int)) = true from h3, Bool.not_false, Bool.true_and, Bool.true_and, Bool.true_and] at hp
      rw [Bool.or_eq_false_iff] at hp
      obtain ⟨h4, h5⟩ := hp
      have hz : 0 < i := by
        have : ¬ i = 0 := by simpa using h4
        omega
      have e0 : decide ((i : Int) > 0) = true := decide_eq_true (by omega)
      have hp' : i - 1 < r.length := by omega
      simp only [l4, r4, Lib.dlt, hi, hp', decide_true, Lib.dle0, Bool.and_self, cond_true, cond_false, Lib.toN, Pu.spec_l03Name.v, in_eq, h1, h2, h3, h5, e0, w64_p hz (by omega), Bool.not_true, Bool.not_false])
    (fun m => by simp only [l4, r4, Lib.dlt, Nat.lt_irrefl, decide_false, cond_false]) Lib.big (Lib.lt_big (by omega))
  refine key.trans ?_
  cases (List.range r.length).all (el r) <;> rfl
end Go.FG.Pu.spec_DiskOk

namespace Go.FG.Pu.impl_DiskOk
theorem ok (r : Row) (hl : r.length ≤ 4294967296) : c r = true ∧ v r = Pu.spec_DiskOk.val r := by
  refine out r ?_
  unfold vo b Pu.spec_DiskOk.val
  have hin : ∀ a b c, Pu.impl_within.v a b c = Pu.spec_l01In.v a b c := fun _ _ _ => rfl
  have key := Lib.all_gen (Pu.spec_DiskOk.el r) r.length (fun m (i : Nat) => l2 Lib.big (fun (y5 : Bool) (_ : Row) (_ _ : Int) (_ : Row) => some y5) (fun (_ : Bool) (_ : Row) (_ _ : Int) (y14 : Row) => some (decide ((y14.length : Int) ≤ 30))) m false r (r.length : Int) (i : Int) r) (some false) (some (decide ((r.length : Int) ≤ 30)))
    (fun m i hi hp => by
      unfold Pu.spec_DiskOk.el at hp
      simp only [Bool.and_eq_true] at hp
      obtain ⟨h1, h2, h3, h4⟩ := hp
      have h3 : decide (0 ≤ cvI (cellAt r i (1 + 1)) ∧ cvI (cellAt r i (1 + 1)) ≤ ((cvS (cellAt r i 1)).size : Int)) = true := h3
      have h2 : decide (((cvS (cellAt r i 1)).size : Int) > 20000) = false := by simpa using h2
      by_cases hz : 0 < i
      · have e0 : decide ((i : Int) > 0) = true := decide_eq_true (by omega)
        have hp' : i - 1 < r.length := by omega
        have h5 : Go.Op.bytesLess (ByteArray.toList (cvS (cellAt r (i - 1) 0))) (ByteArray.toList (cvS (cellAt r i 0))) = true := by
          rcases Bool.or_eq_true _ _ ▸ h4 with q | q
          · have : i = 0 := by simpa using q
            omega
          · exact q
        simp only [l2, r2, Lib.dlt, hi, hp', decide_true, Lib.dle0, Bool.and_self, cond_true, cond_false, Lib.toN, hin, Pu.spec_DiskOk.in_eq, h1, h2, h3, h5, e0, Pu.spec_DiskOk.w64_p hz (by omega), Bool.not_true, Lib.w64_s hi (by omega : r.length ≤ 9223372036854775807)]
      · have e0 : decide ((i : Int) > 0) = false := decide_eq_false (by omega)
        simp only [l2, r2, Lib.dlt, hi, decide_true, Lib.dle0, Bool.and_self, cond_true, cond_false, Lib.toN, hin, Pu.spec_DiskOk.in_eq, h1, h2, h3, e0, Bool.not_true, Lib.w64_s hi (by omega : r.length ≤ 9223372036854775807)])
    (fun m i hi hp => by
      unfold Pu.spec_DiskOk.el at hp
      cases h1 : decide (1 ≤ ((cvS (cellAt r i 0)).size : Int) ∧ ((cvS (cellAt r i 0)).size : Int) ≤ 8) with
      | false => simp only [l2, r2, Lib.dlt, hi, decide_true, Lib.dle0, Bool.and_self, cond_true, cond_false, Lib.toN, hin, Pu.spec_DiskOk.in_eq, h1, Bool.not_false]
      | true =>
      cases h2 : decide (((cvS (cellAt r i 1)).size : Int) > 20000) with
      | true => simp only [l2, r2, Lib.dlt, hi, decide_true, Lib.dle0, Bool.and_self, cond_true, cond_false, Lib.toN, hin, Pu.spec_DiskOk.in_eq, h1, h2, Bool.not_true]
      | false =>
      cases h3 : decide (0 ≤ cvI (cellAt r i (1 + 1)) ∧ cvI (cellAt r i (1 + 1)) ≤ ((cvS (cellAt r i 1)).size : Int)) with
      | false => simp only [l2, r2, Lib.dlt, hi, decide_true, Lib.dle0, Bool.and_self, cond_true, cond_false, Lib.toN, hin, Pu.spec_DiskOk.in_eq, h1, h2, h3, Bool.not_true, Bool.not_false]
      | true =>
      rw [h1, h2, show decide (0 ≤ cvI (cellAt r i 2) ∧ cvI (cellAt r i 2) ≤ ((cvS (cellAt r i 1)).size : Int)) = true from h3, Bool.not_false, Bool.true_and, Bool.true_and, Bool.true_and] at hp
      rw [Bool.or_eq_false_iff] at hp
      obtain ⟨h4, h5⟩ := hp
      have hz : 0 < i := by
        have : ¬ i = 0 := by simpa using h4
        omega
      have e0 : decide ((i : Int) > 0) = true := decide_eq_true (by omega)
      have hp' : i - 1 < r.length := by omega
      simp only [l2, r2, Lib.dlt, hi, hp', decide_true, Lib.dle0, Bool.and_self, cond_true, cond_false, Lib.toN, hin, Pu.spec_DiskOk.in_eq, h1, h2, h3, h5, e0, Pu.spec_DiskOk.w64_p hz (by omega), Bool.not_true, Bool.not_false])
    (fun m => by simp only [l2, r2, Lib.dlt, Nat.lt_irrefl, decide_false, cond_false]) Lib.big (Lib.lt_big (by omega))
  refine key.trans ?_
  rw [show decide ((r.length : Int) ≤ 30) = decide (r.length ≤ 30) from by rw [decide_eq_decide]; omega]
  cases (List.range r.length).all (Pu.spec_DiskOk.el r) <;> cases decide (r.length ≤ 30) <;> rfl
end Go.FG.Pu.impl_DiskOk

namespace Go.FG.Pu.spec_l03At
def p (d : Row) (n : ByteArray) (i : Nat) : Bool := List.beq (ByteArray.toList (cvS (cellAt d i 0))) (ByteArray.toList n)
theorem ok (d : Row) (n : ByteArray) (hl : d.length ≤ 4294967296) : c d n = true ∧ v d n = Lib.fi (p d n) d.length 0 := by
  refine out d n ?_
  unfold vo b
  refine Lib.fi_gen (p d n) d.length (fun m (i : Nat) => l2 Lib.big (fun (_ : ByteArray) (y5 _ : Int) (_ : Row) => some y5) (fun (_ : ByteArray) (_ _ : Int) (_ : Row) => some (-1)) m n 0 (i : Int) d) some (fun m i hi hp => ?_) (fun m i hi hp => ?_) (fun m => ?_) Lib.big (Lib.lt_big (by omega))
  · unfold p at hp
    simp only [l2, r2, Lib.dlt, Lib.dle0, Lib.toN, hi, decide_true, Bool.and_self, cond_true, hp]
  · unfold p at hp
    simp only [l2, r2, Lib.dlt, Lib.dle0, Lib.toN, hi, decide_true, Bool.and_self, cond_true, hp, cond_false, Lib.w64_s hi (by omega : d.length ≤ 9223372036854775807)]
  · simp only [l2, r2, Lib.dlt, Nat.lt_irrefl, decide_false, cond_false]
end Go.FG.Pu.spec_l03At

namespace Go.FG.Pu.spec_FileAt
def val (d : Row) (n : ByteArray) : ByteArray × Bool := if Lib.fi (Pu.spec_l03At.p d n) d.length 0 < 0 then (⟨#[]⟩, false) else (cvS (cellAt d (Lib.fi (Pu.spec_l03At.p d n) d.length 0).toNat 1), true)
theorem rng (d : Row) (n : ByteArray) (h : ¬ Lib.fi (Pu.spec_l03At.p d n) d.length 0 < 0) : 0 ≤ Lib.fi (Pu.spec_l03At.p d n) d.length 0 ∧ Lib.fi (Pu.spec_l03At.p d n) d.length 0 < (d.length : Int) := by
  rcases Lib.fi_rng (Pu.spec_l03At.p d n) d.length 0 with ⟨h1, _⟩ | ⟨k, h1, h2, h3, _, _⟩
  · rw [h1] at h; omega
  · rw [h3]; omega
theorem ok (d : Row) (n : ByteArray) (hl : d.length ≤ 4294967296) : c d n = true ∧ v d n = val d n := by
  refine out d n ?_
  have h := Pu.spec_l03At.ok d n hl
  unfold vo b val
  rw [h.1, h.2, cond_true]
  by_cases hn : Lib.fi (Pu.spec_l03At.p d n) d.length 0 < 0
  · rw [decide_eq_true hn, if_pos hn]; rfl
  · have hr := rng d n hn
    rw [decide_eq_false hn, if_neg hn, cond_false, decide_eq_true hr.1, decide_eq_true hr.2]; rfl
end Go.FG.Pu.spec_FileAt

namespace Go.FG.Pu.slices_IndexFunc_Filea
theorem ok (d : Row) (n : ByteArray) (hl : d.length ≤ 4294967296) : c d n = true ∧ v d n = Lib.fi (Pu.spec_l03At.p d n) d.length 0 := by
  refine out d n ?_
  unfold vo b
  refine Lib.fi_gen (Pu.spec_l03At.p d n) d.length (fun m (i : Nat) => l2 Lib.big (fun (_ : Row) (_ : ByteArray) (y7 _ _ : Int) => some y7) (fun (_ : Row) (_ : ByteArray) (_ _ _ : Int) => some (-1)) m d n 0 (d.length : Int) (i : Int)) some (fun m i hi hp => ?_) (fun m i hi hp => ?_) (fun m => ?_) Lib.big (Lib.lt_big (by omega))
  · unfold Pu.spec_l03At.p at hp
    simp only [l2, r2, Lib.dlt, Lib.dle0, Lib.toN, hi, decide_true, Bool.and_self, cond_true, Pu.impl_placeOf_1.v, hp]
  · unfold Pu.spec_l03At.p at hp
    simp only [l2, r2, Lib.dlt, Lib.dle0, Lib.toN, hi, decide_true, Bool.and_self, cond_true, Pu.impl_placeOf_1.v, hp, cond_false, Lib.w64_s hi (by omega : d.length ≤ 9223372036854775807)]
  · simp only [l2, r2, Lib.dlt, Nat.lt_irrefl, decide_false, cond_false]
end Go.FG.Pu.slices_IndexFunc_Filea

namespace Go.FG.Pu.impl_placeOf
theorem ok (d : Row) (n : ByteArray) (hl : d.length ≤ 4294967296) : c d n = true ∧ v d n = Lib.fi (Pu.spec_l03At.p d n) d.length 0 := by
  have h := Pu.slices_IndexFunc_Filea.ok d n hl
  exact out d n (by unfold vo b; rw [h.1, h.2, cond_true])
end Go.FG.Pu.impl_placeOf

namespace Go.FG.Pu.impl_FileAt
theorem ok (d : Row) (n : ByteArray) (hl : d.length ≤ 4294967296) : c d n = true ∧ v d n = Pu.spec_FileAt.val d n := by
  refine out d n ?_
  have h := Pu.impl_placeOf.ok d n hl
  unfold vo b Pu.spec_FileAt.val
  rw [h.1, h.2, cond_true]
  by_cases hn : Lib.fi (Pu.spec_l03At.p d n) d.length 0 < 0
  · rw [decide_eq_true hn, if_pos hn]; rfl
  · have hr := Pu.spec_FileAt.rng d n hn
    rw [decide_eq_false hn, if_neg hn, cond_false, decide_eq_true hr.1, decide_eq_true hr.2]; rfl
end Go.FG.Pu.impl_FileAt

namespace Go.FG.Pu.spec_l02Four
theorem size (x : Int) : (v x).size = 4 := by
  unfold v; rw [Lib.size_bytesOf]; simp only [List.length_set, Lib.length_zeros]
end Go.FG.Pu.spec_l02Four

namespace Go.FG.Pu.spec_SumMore
/-- One bit. -/
def rd (x : Int) : Int := bif decide (Int.tmod x 2 = 1) then (IntKind.wrap IntKind.u32 (↑(BitVec.toNat (BitVec.xor (BitVec.ofInt 32 (IntKind.wrap IntKind.u32 (Int.tdiv x 2))) (BitVec.ofInt 32 3558460437))) : Int)) else (IntKind.wrap IntKind.u32 (Int.tdiv x 2))
def rds : Nat → Int → Int | 0, x => x | n + 1, x => rds n (rd x)
theorem in6 {R : Type} (N : Nat) (K : Int → ByteArray → Int → Int → Option R) (a : ByteArray) (b : Int) : ∀ (d n i : Nat) (x : Int), d + i = 8 → d < n → l6 N K n x a b (i : Int) = K (rds d x) a b 8 := by
  intro d
  induction d with
  | zero =>
    intro n i x h1 h2
    obtain ⟨n, rfl⟩ : ∃ m, n = m + 1 := ⟨n - 1, by omega⟩
    have : i = 8 := by omega
    subst this
    rfl
  | succ d ih =>
    intro n i x h1 h2
    obtain ⟨n, rfl⟩ : ∃ m, n = m + 1 := ⟨n - 1, by omega⟩
    have hi1 : w64 ((i : Int) + 1) = ((i + 1 : Nat) : Int) := Lib.w64_ok (by omega) (by omega)
    rw [rds, ← ih n (i + 1) (rd x) (by omega) (by omega)]
    simp only [l6, r6, decide_eq_true (show (i : Int) < 8 by omega), cond_true, hi1, rd]
    cases decide (Int.tmod x 2 = 1) <;> rfl
def su (t : ByteArray) : Nat → Nat → Int → Int
  | 0, _, s => s
  | d + 1, i, s => su t d (i + 1) (rds 8 (IntKind.wrap IntKind.u32 (↑(BitVec.toNat (BitVec.xor (BitVec.ofInt 32 s) (BitVec.ofInt 32 (IntKind.wrap IntKind.u32 (↑(btN t i) : Int))))) : Int)))
theorem run (s : Int) (t : ByteArray) (ht : t.size ≤ 4611686018427387904) : vo s t = some (su t t.size 0 s) := by
  unfold vo b
  have key : ∀ (d n i : Nat) (s : Int), d + i = t.size → d < n → l2 Lib.big (fun (y11 : Int) (_ : ByteArray) (_ : Int) => some y11) n s t (i : Int) = some (su t d i s) := by
    intro d
    induction d with
    | zero =>
      intro n i s h1 h2
      obtain ⟨n, rfl⟩ : ∃ m, n = m + 1 := ⟨n - 1, by omega⟩
      simp only [l2, r2, Lib.dlt, decide_eq_false (show ¬ i < t.size by omega), cond_false]; rfl
    | succ d ih =>
      intro n i s h1 h2
      obtain ⟨n, rfl⟩ : ∃ m, n = m + 1 := ⟨n - 1, by omega⟩
      have hi1 : w64 ((i : Int) + 1) = ((i + 1 : Nat) : Int) := Lib.w64_ok (by omega) (by omega)
      simp only [l2, r2, Lib.dlt, decide_eq_true (show i < t.size by omega), Lib.dle0, Bool.and_self, cond_true, Lib.toN]
      have e := in6 (R := Int) Lib.big (fun y7 y8 y9 _ => l2 Lib.big (fun y11 _ _ => some y11) n y7 y8 (w64 (y9 + 1))) t (i : Int) 8 Lib.big 0 (IntKind.wrap IntKind.u32 (↑(BitVec.toNat (BitVec.xor (BitVec.ofInt 32 s) (BitVec.ofInt 32 (IntKind.wrap IntKind.u32 (↑(btN t i) : Int))))) : Int)) rfl (by unfold Lib.big; omega)
      refine e.trans ?_
      rw [hi1, ih n (i + 1) _ (by omega) (by omega)]; rfl
  exact key t.size Lib.big 0 s (by omega) (Lib.lt_big (by omega))
theorem ok (s : Int) (t : ByteArray) (ht : t.size ≤ 4611686018427387904) : c s t = true ∧ v s t = su t t.size 0 s := out s t (run s t ht)
end Go.FG.Pu.spec_SumMore

namespace Go.FG.Pu.spec_SumOf
theorem ok (t : ByteArray) (ht : t.size ≤ 4611686018427387904) : c t = true ∧ v t = Pu.spec_SumMore.su t t.size 0 4294967295 := by
  have h := Pu.spec_SumMore.ok 4294967295 t ht
  refine out t ?_
  unfold vo b
  rw [h.1, h.2]; rfl
end Go.FG.Pu.spec_SumOf

namespace Go.FG.Pu.spec_Frame
/-- A record as it lies in a file. -/
def fr (t : ByteArray) : ByteArray := bytesOf (Lib.vb t.size) ++ Pu.spec_l02Four.v (Pu.spec_SumMore.su t t.size 0 4294967295) ++ t
def val (t : ByteArray) : ByteArray × Bool := if 1 ≤ t.size ∧ t.size ≤ 9000 then (fr t, true) else (⟨#[]⟩, false)
theorem in_dec (n a b : Int) : Pu.spec_l01In.v n a b = decide (a ≤ n ∧ n ≤ b) := by
  unfold Pu.spec_l01In.v
  by_cases h : a ≤ n <;> by_cases h2 : n ≤ b <;> simp [h, h2]
theorem fr_size {t : ByteArray} (h : t.size ≤ 9000) : (fr t).size ≤ t.size + 68 := by
  unfold fr
  have := Lib.var_size (x := (t.size : Int)) (by omega)
  rw [Lib.size_app, Lib.size_app, Pu.spec_l02Four.size]; omega
theorem ok (t : ByteArray) : c t = true ∧ v t = val t := by
  refine out t ?_
  unfold vo b val
  rw [in_dec]
  by_cases h : 1 ≤ t.size ∧ t.size ≤ 9000
  · have hs := Pu.spec_SumOf.ok t (by omega)
    have hc : Pu.spec_l01Var.c (t.size : Int) = true := decide_eq_true (show (t.size : Int) ≤ 9223372036854775807 by omega)
    have z1 : (Pu.spec_l01Var.v (t.size : Int)).size ≤ 64 := Lib.var_size (x := (t.size : Int)) (by omega)
    rw [decide_eq_true (show (1 : Int) ≤ (t.size : Int) ∧ (t.size : Int) ≤ 9000 by omega), if_pos h, hs.1, hs.2]
    simp (disch := omega) only [Bool.not_true, cond_false, cond_true, hc, Lib.size_app, Pu.spec_l02Four.size, Lib.dnat]
    rfl
  · rw [decide_eq_false (show ¬ ((1 : Int) ≤ (t.size : Int) ∧ (t.size : Int) ≤ 9000) by omega), if_neg h]; rfl
end Go.FG.Pu.spec_Frame

namespace Go.FG.Pu.impl_SumMore
theorem in6 {R : Type} (N : Nat) (K : Int → ByteArray → Int → Int → Option R) (a : ByteArray) (b : Int) : ∀ (d n i : Nat) (x : Int), d + i = 8 → d < n → l6 N K n x a b (i : Int) = K (Pu.spec_SumMore.rds d x) a b 8 := by
  intro d
  induction d with
  | zero =>
    intro n i x h1 h2
    obtain ⟨n, rfl⟩ : ∃ m, n = m + 1 := ⟨n - 1, by omega⟩
    have : i = 8 := by omega
    subst this
    rfl
  | succ d ih =>
    intro n i x h1 h2
    obtain ⟨n, rfl⟩ : ∃ m, n = m + 1 := ⟨n - 1, by omega⟩
    have hi1 : w64 ((i : Int) + 1) = ((i + 1 : Nat) : Int) := Lib.w64_ok (by omega) (by omega)
    rw [Pu.spec_SumMore.rds, ← ih n (i + 1) (Pu.spec_SumMore.rd x) (by omega) (by omega)]
    simp only [l6, r6, decide_eq_true (show (i : Int) < 8 by omega), cond_true, hi1, Pu.spec_SumMore.rd]
    cases decide (Int.tmod x 2 = 1) <;> rfl
theorem run (s : Int) (t : ByteArray) (ht : t.size ≤ 4611686018427387904) : vo s t = some (Pu.spec_SumMore.su t t.size 0 s) := by
  unfold vo b
  have key : ∀ (d n i : Nat) (s : Int), d + i = t.size → d < n → l2 Lib.big (fun (y11 : Int) (_ : ByteArray) (_ : Int) => some y11) n s t (i : Int) = some (Pu.spec_SumMore.su t d i s) := by
    intro d
    induction d with
    | zero =>
      intro n i s h1 h2
      obtain ⟨n, rfl⟩ : ∃ m, n = m + 1 := ⟨n - 1, by omega⟩
      simp only [l2, r2, Lib.dlt, decide_eq_false (show ¬ i < t.size by omega), cond_false]; rfl
    | succ d ih =>
      intro n i s h1 h2
      obtain ⟨n, rfl⟩ : ∃ m, n = m + 1 := ⟨n - 1, by omega⟩
      have hi1 : w64 ((i : Int) + 1) = ((i + 1 : Nat) : Int) := Lib.w64_ok (by omega) (by omega)
      simp only [l2, r2, Lib.dlt, decide_eq_true (show i < t.size by omega), Lib.dle0, Bool.and_self, cond_true, Lib.toN]
      have e := in6 (R := Int) Lib.big (fun y7 y8 y9 _ => l2 Lib.big (fun y11 _ _ => some y11) n y7 y8 (w64 (y9 + 1))) t (i : Int) 8 Lib.big 0 (IntKind.wrap IntKind.u32 (↑(BitVec.toNat (BitVec.xor (BitVec.ofInt 32 s) (BitVec.ofInt 32 (IntKind.wrap IntKind.u32 (↑(btN t i) : Int))))) : Int)) rfl (by unfold Lib.big; omega)
      refine e.trans ?_
      rw [hi1, ih n (i + 1) _ (by omega) (by omega)]; rfl
  exact key t.size Lib.big 0 s (by omega) (Lib.lt_big (by omega))
theorem ok (s : Int) (t : ByteArray) (ht : t.size ≤ 4611686018427387904) : c s t = true ∧ v s t = Pu.spec_SumMore.su t t.size 0 s := out s t (run s t ht)
end Go.FG.Pu.impl_SumMore

namespace Go.FG.Pu.impl_SumOf
theorem ok (t : ByteArray) (ht : t.size ≤ 4611686018427387904) : c t = true ∧ v t = Pu.spec_SumMore.su t t.size 0 4294967295 := by
  have h := Pu.impl_SumMore.ok 4294967295 t ht
  refine out t ?_
  unfold vo b
  rw [h.1, h.2]; rfl
end Go.FG.Pu.impl_SumOf

namespace Go.FG.Pu.impl_sumText
theorem ok (t : ByteArray) (ht : t.size ≤ 4611686018427387904) : c t = true ∧ v t = Pu.spec_l02Four.v (Pu.spec_SumMore.su t t.size 0 4294967295) := by
  have h := Pu.impl_SumOf.ok t ht
  refine out t ?_
  unfold vo b
  rw [h.1, h.2]; rfl
end Go.FG.Pu.impl_sumText

namespace Go.FG.Pu.spec_Unframe
/-- A frame is what stands there just where the sums are the same. -/
theorem cut (a s s' b : ByteArray) : List.beq (ByteArray.toList (a ++ s ++ b)) (ByteArray.toList (a ++ s' ++ b)) = List.beq (ByteArray.toList s) (ByteArray.toList s') := by
  rw [Lib.beq_ba, Lib.beq_ba, decide_eq_decide]
  constructor
  · intro h
    have h2 := congrArg (fun x : ByteArray => x.data.toList) h
    simp only [ByteArray.data_append, Array.toList_append, List.append_assoc] at h2
    have h3 := List.append_cancel_right (List.append_cancel_left h2)
    exact Lib.ba_ext h3
  · intro h; rw [h]
theorem within_eq (n a b : Int) : Pu.impl_within.v n a b = decide (a ≤ n ∧ n ≤ b) := Pu.spec_Frame.in_dec n a b
theorem both (t : ByteArray) (ht : t.size ≤ 20000) : ∀ (d : Nat) (at1 : Nat) (acc : Row) (n m : Nat) (z : Int), t.size - at1 ≤ d → at1 ≤ t.size → acc.length ≤ at1 → d < n → d < m →
    ∃ R : Row × Int, Pu.impl_Unframe.l3 Lib.big (fun (_ : ByteArray) (y4 : Int) (y5 : Row) => some (y5, y4)) n t (at1 : Int) acc = some R ∧ l5 Lib.big (fun (_ : ByteArray) (y5 _ : Int) (y7 : Row) => some (y7, y5)) (fun (_ : ByteArray) (_ y10 : Int) (y11 : Row) => some (y11, y10)) m t z (at1 : Int) acc = some R ∧ R.1.length ≤ 20000 := by
  intro d
  induction d with
  | zero =>
    intro at1 acc n m z h1 h2 h3 h4 h5
    obtain ⟨n, rfl⟩ : ∃ n', n = n' + 1 := ⟨n - 1, by omega⟩
    obtain ⟨m, rfl⟩ : ∃ m', m = m' + 1 := ⟨m - 1, by omega⟩
    have hlt : decide ((at1 : Int) < (t.size : Int)) = false := decide_eq_false (by omega)
    have hr : (Lib.readVar t (at1 : Int)).2.2 = false := by
      cases h : Lib.readVar t (at1 : Int) with
      | mk a r =>
        obtain ⟨x, o⟩ := r
        cases o with
        | false => rfl
        | true => have := Lib.readVar_ok h; omega
    have e1 : ∀ a b, Pu.impl_ReadVar.v a b = Lib.readVar a b := fun _ _ => rfl
    refine ⟨(acc, (at1 : Int)), ?_, ?_, by dsimp only; omega⟩
    · simp only [Pu.impl_Unframe.l3, Pu.impl_Unframe.r3, e1, hr, decide_eq_true (show (t.size : Int) ≤ 20000 by omega), cond_true, Bool.not_false]
    · simp only [l5, r5, hlt, cond_false]
  | succ d ih =>
    intro at1 acc n m z h1 h2 h3 h4 h5
    obtain ⟨n, rfl⟩ : ∃ n', n = n' + 1 := ⟨n - 1, by omega⟩
    obtain ⟨m, rfl⟩ : ∃ m', m = m' + 1 := ⟨m - 1, by omega⟩
    have e1 : ∀ a b, Pu.impl_ReadVar.v a b = Lib.readVar a b := fun _ _ => rfl
    have e2 : ∀ a b, Pu.spec_ReadVar.v a b = Lib.readVar a b := fun _ _ => rfl
    have hsz : decide ((t.size : Int) ≤ 20000) = true := decide_eq_true (by omega)
    cases hr : Lib.readVar t (at1 : Int) with
    | mk N r =>
      obtain ⟨nx, o⟩ := r
      cases o with
      | false =>
        refine ⟨(acc, (at1 : Int)), ?_, ?_, by dsimp only; omega⟩
        · simp only [Pu.impl_Unframe.l3, Pu.impl_Unframe.r3, e1, hr, hsz, cond_true, Bool.not_false]
        · by_cases hlt : (at1 : Int) < (t.size : Int)
          · simp only [l5, r5, e2, hr, decide_eq_true hlt, cond_true, Bool.not_false]
          · simp only [l5, r5, decide_eq_false hlt, cond_false]
      | true =>
        obtain ⟨q1, q2, q3, q4, q5, q6⟩ := Lib.readVar_ok hr
        have hlt : decide ((at1 : Int) < (t.size : Int)) = true := decide_eq_true (by omega)
        have w1 : w64 (N + 4) = N + 4 := Lib.w64_ok (by omega) (by omega)
        have w2 : w64 ((t.size : Int) - nx) = (t.size : Int) - nx := Lib.w64_ok (by omega) (by omega)
        have w3 : w64 ((t.size : Int) - nx - 4) = (t.size : Int) - nx - 4 := Lib.w64_ok (by omega) (by omega)
        have w4 : w64 (nx + 4) = nx + 4 := Lib.w64_ok (by omega) (by omega)
        have w5 : w64 (nx + 4 + N) = nx + 4 + N := Lib.w64_ok (by omega) (by omega)
        by_cases hbig : N + 4 > (t.size : Int) - nx
        · have hb2 : N > (t.size : Int) - nx - 4 := by omega
          refine ⟨(acc, (at1 : Int)), ?_, ?_, by dsimp only; omega⟩
          · cases hwi : decide (1 ≤ N ∧ N ≤ 9000) with
            | false => simp only [Pu.impl_Unframe.l3, Pu.impl_Unframe.r3, e1, hr, hsz, within_eq, hwi, cond_true, cond_false, Bool.not_true, Bool.not_false]
            | true => simp only [Pu.impl_Unframe.l3, Pu.impl_Unframe.r3, e1, hr, hsz, within_eq, hwi, w1, w2, decide_eq_true hbig, cond_true, cond_false, Bool.not_true]
          · simp only [l5, r5, e2, hr, hlt, w2, w3, decide_eq_true hb2, cond_true, cond_false, Bool.not_true]
        · have hb2 : ¬ N > (t.size : Int) - nx - 4 := by omega
          have i1 : inB (nx + 4) (nx + 4 + N) (t.size : Int) = true := by simp [inB]; omega
          have i2 : inB nx (nx + 4) (t.size : Int) = true := by simp [inB]; omega
          have i3 : inB (at1 : Int) (nx + 4 + N) (t.size : Int) = true := by simp [inB]; omega
          have hts : (t.extract (nx + 4).toNat (nx + 4 + N).toNat).size = N.toNat := by rw [ByteArray.size_extract]; omega
          generalize htx : t.extract (nx + 4).toNat (nx + 4 + N).toNat = tx at hts
          have f1 := Pu.spec_Frame.ok tx
          have f2 := Pu.impl_sumText.ok tx (by omega)
          by_cases hwi : 1 ≤ N ∧ N ≤ 9000
          · have hfv : Pu.spec_Frame.val tx = (Pu.spec_Frame.fr tx, true) := by
              unfold Pu.spec_Frame.val; rw [if_pos (by omega)]
            have hnat : ((tx.size : Nat) : Int) = N := by omega
            have hfr : Pu.spec_Frame.fr tx = t.extract at1 nx.toNat ++ Pu.spec_l02Four.v (Pu.spec_SumMore.su tx tx.size 0 4294967295) ++ tx := by
              unfold Pu.spec_Frame.fr
              rw [hnat, q6]; rfl
            have hwh : t.extract at1 (nx + 4 + N).toNat = t.extract at1 nx.toNat ++ t.extract nx.toNat (nx + 4).toNat ++ tx := by
              rw [← htx, Lib.ext_app t (by omega) (by omega), Lib.ext_app t (by omega) (by omega)]
            have hcmp : List.beq (ByteArray.toList (Pu.spec_Frame.fr tx)) (ByteArray.toList (t.extract at1 (nx + 4 + N).toNat)) = List.beq (ByteArray.toList (Pu.spec_l02Four.v (Pu.spec_SumMore.su tx tx.size 0 4294967295))) (ByteArray.toList (t.extract nx.toNat (nx + 4).toNat)) := by
              rw [hfr, hwh]; exact cut _ _ _ _
            have hro : roomy (acc.length + 1) 16 = true := Lib.roomy_of (by omega) (by omega)
            cases hs : List.beq (ByteArray.toList (Pu.spec_l02Four.v (Pu.spec_SumMore.su tx tx.size 0 4294967295))) (ByteArray.toList (t.extract nx.toNat (nx + 4).toNat)) with
            | false =>
              rw [hs] at hcmp
              refine ⟨(acc, (at1 : Int)), ?_, ?_, by dsimp only; omega⟩
              · simp only [Pu.impl_Unframe.l3, Pu.impl_Unframe.r3, e1, hr, hsz, within_eq, decide_eq_true hwi, w1, w2, w4, w5, decide_eq_false hbig, i1, i2, htx, f2.1, f2.2, hs, cond_true, cond_false, Bool.not_true, Bool.not_false]
              · simp only [l5, r5, e2, hr, hlt, w2, w3, w4, w5, decide_eq_false hb2, i1, i3, htx, f1.1, f1.2, hfv, Int.toNat_natCast, hcmp, cond_true, cond_false, Bool.not_true, Bool.not_false]
            | true =>
              rw [hs] at hcmp
              obtain ⟨a2, ha2⟩ : ∃ a2 : Nat, nx + 4 + N = (a2 : Int) := ⟨(nx + 4 + N).toNat, by omega⟩
              obtain ⟨R, g1, g2, g3⟩ := ih a2 (acc ++ [[CV.s tx]]) n m z (by omega) (by omega) (by rw [List.length_append, List.length_singleton]; omega) (by omega) (by omega)
              refine ⟨R, ?_, ?_, g3⟩
              · simp only [Pu.impl_Unframe.l3, Pu.impl_Unframe.r3, e1, hr, hsz, within_eq, decide_eq_true hwi, w1, w2, w4, w5, decide_eq_false hbig, i1, i2, htx, f2.1, f2.2, hs, Lib.len_set1, List.length_singleton, hro, cond_true, cond_false, Bool.not_true]
                rw [ha2]; exact g1
              · simp only [l5, r5, e2, hr, hlt, w2, w3, w4, w5, decide_eq_false hb2, i1, i3, htx, f1.1, f1.2, hfv, Int.toNat_natCast, hcmp, Lib.len_set1, List.length_singleton, hro, cond_true, cond_false, Bool.not_true]
                rw [ha2]; exact g2
          · have hfv : Pu.spec_Frame.val tx = (⟨#[]⟩, false) := by
              unfold Pu.spec_Frame.val; rw [if_neg (by omega)]
            refine ⟨(acc, (at1 : Int)), ?_, ?_, by dsimp only; omega⟩
            · simp only [Pu.impl_Unframe.l3, Pu.impl_Unframe.r3, e1, hr, hsz, within_eq, decide_eq_false hwi, cond_true, cond_false, Bool.not_true, Bool.not_false]
            · simp only [l5, r5, e2, hr, hlt, w2, w3, w4, w5, decide_eq_false hb2, i1, htx, f1.1, f1.2, hfv, cond_true, cond_false, Bool.not_true, Bool.not_false]
/-- Both read the same records off a file. -/
theorem same (t : ByteArray) : ∃ R : Row × Int, (c t = true ∧ v t = R) ∧ (Pu.impl_Unframe.c t = true ∧ Pu.impl_Unframe.v t = R) ∧ R.1.length ≤ 20000 := by
  by_cases ht : t.size ≤ 20000
  · obtain ⟨R, g1, g2, g3⟩ := both t ht t.size 0 [] Lib.big Lib.big 0 (by omega) (Nat.zero_le _) (Nat.le_refl _) (Lib.lt_big (by omega)) (Lib.lt_big (by omega))
    refine ⟨R, out t ?_, Pu.impl_Unframe.out t ?_, g3⟩
    · unfold vo b
      rw [decide_eq_false (show ¬ (t.size : Int) > 20000 by omega), cond_false]; exact g2
    · unfold Pu.impl_Unframe.vo Pu.impl_Unframe.b; exact g1
  · refine ⟨([], 0), out t ?_, Pu.impl_Unframe.out t ?_, Nat.zero_le _⟩
    · unfold vo b
      rw [decide_eq_true (show (t.size : Int) > 20000 by omega)]; rfl
    · unfold Pu.impl_Unframe.vo Pu.impl_Unframe.b
      have hb : Lib.big = 18446744073709551615 + 1 := rfl
      have : ∀ n, Pu.impl_Unframe.l3 Lib.big (fun (_ : ByteArray) (y4 : Int) (y5 : Row) => some (y5, y4)) (n + 1) t 0 (zeros [Ck.s] 0) = some ([], 0) := by
        intro n
        simp only [Pu.impl_Unframe.l3, Pu.impl_Unframe.r3, decide_eq_false (show ¬ (t.size : Int) ≤ 20000 by omega), cond_false]; rfl
      exact this 18446744073709551615
end Go.FG.Pu.spec_Unframe

namespace Go.FG.Pu.spec_FindKept
def nm : ByteArray := { data := #[UInt8.ofNat 107, UInt8.ofNat 101, UInt8.ofNat 112, UInt8.ofNat 116] }
theorem both (rec : Row) (hr : rec.length ≤ 20000) : ∀ (d i : Nat) (o : Row) (n m : Nat), rec.length - i ≤ d → i ≤ rec.length → Pu.spec_l15Put.Or o → o.length ≤ i → d < n → d < m →
    ∃ L : Row, Pu.impl_FindKept.l7 Lib.big (fun (_ _ : Int) (y6 : Row) (_ : Row) => some y6) n (rec.length : Int) (i : Int) o rec = some L ∧ l7 Lib.big (fun (_ : Int) (y4 _ : Row) => some y4) m (i : Int) o rec = some L ∧ Pu.spec_l15Put.Or L ∧ L.length ≤ 20000 := by
  have e1 : ∀ t, Pu.impl_ReadEntry.v t = Pu.spec_ReadEntry.v t := fun _ => rfl
  intro d
  induction d with
  | zero =>
    intro i o n m h1 h2 hO h3 h4 h5
    obtain ⟨n, rfl⟩ : ∃ n', n = n' + 1 := ⟨n - 1, by omega⟩
    obtain ⟨m, rfl⟩ : ∃ m', m = m' + 1 := ⟨m - 1, by omega⟩
    have hlt : decide ((i : Int) < (rec.length : Int)) = false := decide_eq_false (by omega)
    exact ⟨o, by simp only [Pu.impl_FindKept.l7, Pu.impl_FindKept.r7, hlt, cond_false], by simp only [l7, r7, hlt, cond_false], hO, by omega⟩
  | succ d ih =>
    intro i o n m h1 h2 hO h3 h4 h5
    obtain ⟨n, rfl⟩ : ∃ n', n = n' + 1 := ⟨n - 1, by omega⟩
    obtain ⟨m, rfl⟩ : ∃ m', m = m' + 1 := ⟨m - 1, by omega⟩
    by_cases hi : i < rec.length
    · have hw : w64 ((i : Int) + 1) = ((i + 1 : Nat) : Int) := Lib.w64_ok (by omega) (by omega)
      cases hok : (Pu.spec_ReadEntry.v (cvS (cellAt rec i 0))).2.2.2.2 with
      | false =>
        obtain ⟨L, g1, g2, g3, g4⟩ := ih (i + 1) o n m (by omega) hi hO (by omega) (by omega) (by omega)
        refine ⟨L, ?_, ?_, g3, g4⟩
        · simp only [Pu.impl_FindKept.l7, Pu.impl_FindKept.r7, Lib.dlt, hi, decide_true, Lib.dle0, Bool.and_self, cond_true, Lib.toN, e1, hok, cond_false, hw]; exact g1
        · simp only [l7, r7, Lib.dlt, hi, decide_true, Lib.dle0, Bool.and_self, cond_true, Lib.toN, hok, cond_false, hw]; exact g2
      | true =>
        have p1 := Pu.spec_l15Put.ok o (Pu.spec_ReadEntry.v (cvS (cellAt rec i 0))).1 (Pu.spec_ReadEntry.v (cvS (cellAt rec i 0))).2.1 (Pu.spec_ReadEntry.v (cvS (cellAt rec i 0))).2.2.1 (Pu.spec_ReadEntry.v (cvS (cellAt rec i 0))).2.2.2.1 (by omega)
        have p2 := Pu.impl_putEntry.ok o (Pu.spec_ReadEntry.v (cvS (cellAt rec i 0))).1 (Pu.spec_ReadEntry.v (cvS (cellAt rec i 0))).2.1 (Pu.spec_ReadEntry.v (cvS (cellAt rec i 0))).2.2.1 (Pu.spec_ReadEntry.v (cvS (cellAt rec i 0))).2.2.2.1 hO (by omega)
        have p3 := Pu.spec_l15Put.keep_or hO (Pu.spec_ReadEntry.v (cvS (cellAt rec i 0))).1 (Pu.spec_ReadEntry.v (cvS (cellAt rec i 0))).2.1 (Pu.spec_ReadEntry.v (cvS (cellAt rec i 0))).2.2.1 (Pu.spec_ReadEntry.v (cvS (cellAt rec i 0))).2.2.2.1
        obtain ⟨L, g1, g2, g3, g4⟩ := ih (i + 1) _ n m (by omega) hi p3.1 (by omega) (by omega) (by omega)
        refine ⟨L, ?_, ?_, g3, g4⟩
        · simp only [Pu.impl_FindKept.l7, Pu.impl_FindKept.r7, Lib.dlt, hi, decide_true, Lib.dle0, Bool.and_self, cond_true, Lib.toN, e1, hok, p2.1, p2.2, hw]; exact g1
        · simp only [l7, r7, Lib.dlt, hi, decide_true, Lib.dle0, Bool.and_self, cond_true, Lib.toN, hok, p1.1, p1.2, hw]; exact g2
    · have hlt : decide ((i : Int) < (rec.length : Int)) = false := decide_eq_false (by omega)
      exact ⟨o, by simp only [Pu.impl_FindKept.l7, Pu.impl_FindKept.r7, hlt, cond_false], by simp only [l7, r7, hlt, cond_false], hO, by omega⟩
theorem same (d : Row) (hd : d.length ≤ 1048576) : ∃ L : Row, (c d = true ∧ v d = L) ∧ (Pu.impl_FindKept.c d = true ∧ Pu.impl_FindKept.v d = L) ∧ (∀ y ∈ L, y.length = 4) ∧ L.length ≤ 20000 := by
  have k1 := Pu.spec_DiskOk.ok d (by omega)
  have k2 := Pu.impl_DiskOk.ok d (by omega)
  cases hv : Pu.spec_DiskOk.val d with
  | false =>
    refine ⟨[], out d ?_, Pu.impl_FindKept.out d ?_, fun y hy => (by cases hy), Nat.zero_le _⟩
    · unfold vo b; rw [k1.1, k1.2, hv]; rfl
    · unfold Pu.impl_FindKept.vo Pu.impl_FindKept.b; rw [k2.1, k2.2, hv]; rfl
  | true =>
    have k3 := Pu.spec_FileAt.ok d nm (by omega)
    have k4 := Pu.impl_FileAt.ok d nm (by omega)
    obtain ⟨R, u1, u2, u3⟩ := Pu.spec_Unframe.same (Pu.spec_FileAt.val d nm).1
    obtain ⟨L, g1, g2, g3, g4⟩ := both R.1 u3 R.1.length 0 [] Lib.big Lib.big (by omega) (Nat.zero_le _) ⟨List.Pairwise.nil, fun y hy => (by cases hy)⟩ (Nat.zero_le _) (Lib.lt_big (by omega)) (Lib.lt_big (by omega))
    refine ⟨L, out d ?_, Pu.impl_FindKept.out d ?_, fun y hy => (by rw [← g3.2 y hy]; rfl), g4⟩
    · unfold nm at k3 u1
      unfold vo b
      rw [k1.1, k1.2, hv, cond_true, Bool.not_true, cond_false, k3.1, cond_true, k3.2, u1.1, cond_true, u1.2]; exact g2
    · unfold nm at k4 u2
      unfold Pu.impl_FindKept.vo Pu.impl_FindKept.b
      rw [k2.1, k2.2, hv, cond_true, Bool.not_true, cond_false, k4.1, cond_true, k4.2, u2.1, cond_true, u2.2]; exact g1
end Go.FG.Pu.spec_FindKept

namespace Go.FG.Pu.laws_eqEntryS
theorem run (a : Row) (hl : a.length ≤ 9223372036854775807) : vo a a = some true := by
  unfold vo b
  rw [show ((a.length : Int) != (a.length : Int)) = false from bne_self_eq_false _, cond_false]
  have := Lib.loop_gen (fun n (i : Nat) => l4 Lib.big (fun (_ _ : Row) (y : Bool) (_ : Int) => some y) (fun (_ _ : Row) (_ : Bool) (_ : Int) => some true) n a a false (i : Int)) (fun i => a.length - i) (fun i => i ≤ a.length) (fun _ => some true) (fun n i hi => by
    by_cases h : i < a.length
    · right
      refine ⟨i + 1, h, by omega, rfl, ?_⟩
      have hi1 : w64 ((i : Int) + 1) = ((i + 1 : Nat) : Int) := Lib.w64_ok (by omega) (by omega)
      have hel : ∀ (x0 : ByteArray) (x1 : Int) (x2 : Int) (x3 : ByteArray), Pu.laws_eqEntry.v x0 x1 x2 x3 x0 x1 x2 x3 = true := fun _ _ _ _ => by
        simp only [Pu.laws_eqEntry.v, bne_self_eq_false, Lib.beq_refl_ba, Bool.not_true, cond_false]
      simp only [l4, r4, Lib.dlt, h, decide_true, Lib.dle0, Bool.and_self, cond_true, Lib.toN, hi1, hel, Bool.not_true, cond_false]
    · left
      simp only [l4, r4, Lib.dlt, h, decide_false, cond_false]) Lib.big 0 (Nat.zero_le _) (Lib.lt_big (by omega))
  exact this
theorem ok (a : Row) (hl : a.length ≤ 9223372036854775807) : c a a = true ∧ v a a = true := out a a (run a hl)
end Go.FG.Pu.laws_eqEntryS

namespace Go.FG.Pu.laws_markText
theorem post (k : Int) (h1 : k ≤ 1152921504606846976) : ∃ x, vo k = some x := by
  unfold vo b
  cases h : decide (k ≤ 0) with
  | true => exact ⟨_, rfl⟩
  | false =>
    rw [cond_false]
    have h0 : ¬ k ≤ 0 := of_decide_eq_false h
    obtain ⟨x, hx, _⟩ := Lib.loop_post (fun n (s : Int × ByteArray) => l4 Lib.big (fun (y2 : Int) (y3 : ByteArray) => bif (decide (ByteArray.size { data := #[UInt8.ofNat 109] } + ByteArray.size y3 ≤ 4611686018427387904)) then some ({ data := #[UInt8.ofNat 109] } ++ y3) else none) n s.1 s.2)
      (fun s => s.1.toNat) (fun s => 0 ≤ s.1 ∧ (s.2.size : Int) + s.1 ≤ 1152921504606846976) (fun _ => True) (fun n s hs => by
        obtain ⟨x, t⟩ := s
        obtain ⟨a1, a2⟩ := hs
        dsimp only at a1 a2 ⊢
        have hsz : ByteArray.size (bytesOf (List.set (zeros [Ck.i IntKind.u8] 1) 0 [CV.i IntKind.u8 (IntKind.wrap IntKind.u8 (w64 (48 + Int.tmod x 10)))])) = 1 := by rw [Lib.size_bytesOf, List.length_set]; rfl
        by_cases hx : x > 0
        · right
          have e1 : Int.tdiv x 10 = x / 10 := Int.tdiv_eq_ediv_of_nonneg (by omega)
          refine ⟨(w64 (Int.tdiv x 10), bytesOf (List.set (zeros [Ck.i IntKind.u8] 1) 0 [CV.i IntKind.u8 (IntKind.wrap IntKind.u8 (w64 (48 + Int.tmod x 10)))]) ++ t), ?_, ?_, ?_⟩
          · dsimp only
            rw [e1, Lib.w64_ok (by omega) (by omega), Lib.size_app, hsz]; omega
          · dsimp only; rw [e1, Lib.w64_ok (by omega) (by omega)]; omega
          · simp only [l4, r4, decide_eq_true hx, cond_true, hsz]
            rw [Lib.bif_t (Lib.dnat (by omega))]
        · left
          refine ⟨{ data := #[UInt8.ofNat 109] } ++ t, ?_, trivial⟩
          simp only [l4, r4, decide_eq_false hx, cond_false]
          exact Lib.bif_t (Lib.dnat (show ByteArray.size { data := #[UInt8.ofNat 109] } + t.size ≤ _ by rw [show ByteArray.size { data := #[UInt8.ofNat 109] } = 1 from rfl]; omega))) Lib.big (k, ⟨#[]⟩) ⟨by dsimp only; omega, by dsimp only; rw [show ByteArray.size ⟨#[]⟩ = 0 from rfl]; omega⟩ (Lib.lt_big (by dsimp only; omega))
    exact ⟨x, hx⟩
theorem ok (k : Int) (h1 : k ≤ 1152921504606846976) : c k = true := by
  obtain ⟨x, h⟩ := post k h1
  exact (out k h).1
end Go.FG.Pu.laws_markText

namespace Go.FG.Pu.laws_markEntryS
def row (k : Int) : List CV := [CV.s (Pu.laws_markText.v (k)), CV.i IntKind.i64 (k + 1), CV.i IntKind.i64 (k + 1 + 1), CV.s (Pu.laws_markText.v (k + 1 + 1 + 1))]
def mkl (k : Int) (n : Nat) : Row := (List.range n).map fun (j : Nat) => row (k + 4 * (j : Int))
theorem mkl_len (k : Int) (n : Nat) : (mkl k n).length = n := by unfold mkl; simp
theorem mkl_sh (k : Int) (n : Nat) : ∀ y ∈ mkl k n, y.length = 4 := by
  intro y hy; unfold mkl at hy; obtain ⟨j, _, rfl⟩ := List.mem_map.1 hy; rfl
theorem sp0 (y0 y1 y2 y3 x : CV) : splice [y0, y1, y2, y3] 0 [x] = [x, y1, y2, y3] := rfl
theorem sp1 (y0 y1 y2 y3 x : CV) : splice [y0, y1, y2, y3] 1 [x] = [y0, x, y2, y3] := rfl
theorem sp2 (y0 y1 y2 y3 x : CV) : splice [y0, y1, y2, y3] 2 [x] = [y0, y1, x, y3] := rfl
theorem sp3 (y0 y1 y2 y3 x : CV) : splice [y0, y1, y2, y3] 3 [x] = [y0, y1, y2, x] := rfl
theorem run (a0 : Row) (k1 : Int) (hs : ∀ y ∈ a0, y.length = 4) (hl : a0.length ≤ 4194304) (h0 : 0 ≤ k1) (h1 : k1 ≤ 1000000000000) : vo a0 k1 = some (k1 + 4 * (a0.length : Int), mkl k1 a0.length) := by
  unfold vo b
  have := Lib.loop_gen (fun n (i : Nat) => l2 Lib.big (fun (y3 y4 : Int) (y5 : Row) => some (y3, y5)) n (k1 + 4 * (i : Int)) (i : Int) (mkl k1 i ++ a0.drop i)) (fun i => a0.length - i) (fun i => i ≤ a0.length) (fun _ => some (k1 + 4 * (a0.length : Int), mkl k1 a0.length)) (fun n i hi => by
    have hml := mkl_len k1 i
    by_cases h : i < a0.length
    · right
      refine ⟨i + 1, h, by omega, rfl, ?_⟩
      have e3 : mkl k1 (i + 1) ++ a0.drop (i + 1) = mkl k1 i ++ row (k1 + 4 * (i : Int)) :: a0.drop (i + 1) := by
        unfold mkl; rw [Lib.range_map_succ, List.append_assoc]; rfl
      have eA : k1 + 4 * ((i + 1 : Nat) : Int) = (k1 + 4 * (i : Int)) + 1 + 1 + 1 + 1 := by omega
      show l2 Lib.big _ (n + 1) (k1 + 4 * (i : Int)) (i : Int) (mkl k1 i ++ a0.drop i) = l2 Lib.big _ n (k1 + 4 * ((i + 1 : Nat) : Int)) ((i + 1 : Nat) : Int) (mkl k1 (i + 1) ++ a0.drop (i + 1))
      rw [eA, e3, Lib.drop_cons_of h]
      have hy := hs _ (List.getElem_mem h)
      have hk0 : 0 ≤ k1 + 4 * (i : Int) := by omega
      have hk1 : k1 + 4 * (i : Int) ≤ 2000000000000 := by omega
      generalize k1 + 4 * (i : Int) = k at hk0 hk1
      generalize a0[i] = y at hy
      obtain ⟨y0, y1, y2, y3, rfl⟩ : ∃ y0 y1 y2 y3, y = [y0, y1, y2, y3] := by
        match y, hy with
        | [y0, y1, y2, y3], _ => exact ⟨y0, y1, y2, y3, rfl⟩
      have hd : ∀ z : List CV, decide ((i : Int) < ((mkl k1 i ++ z :: a0.drop (i + 1)).length : Int)) = true := fun z => by
        rw [Lib.len_mid, hml]; exact decide_eq_true (by omega)
      have hi1 : w64 ((i : Int) + 1) = ((i + 1 : Nat) : Int) := Lib.w64_ok (by omega) (by omega)
      simp only [l2, r2, Lib.length_setC, hd, Lib.dle0, Bool.and_self, cond_true, Lib.toN, Lib.setC_mid _ _ _ _ _ _ hml, sp0, sp1, sp2, sp3, Lib.w64_ok (x := k + 1) (by omega) (by omega), Lib.w64_ok (x := k + 1 + 1) (by omega) (by omega), Lib.w64_ok (x := k + 1 + 1 + 1) (by omega) (by omega), Lib.w64_ok (x := k + 1 + 1 + 1 + 1) (by omega) (by omega), Pu.laws_markText.ok (k) (by omega), Pu.laws_markText.ok (k + 1 + 1 + 1) (by omega), hi1]
      rfl
    · left
      have : i = a0.length := by omega
      subst this
      show l2 Lib.big _ (n + 1) (k1 + 4 * (a0.length : Int)) (a0.length : Int) (mkl k1 a0.length ++ a0.drop a0.length) = _
      rw [List.drop_length, List.append_nil]
      simp only [l2, r2, hml, Lib.dlt, Nat.lt_irrefl, decide_false, cond_false]) Lib.big 0 (Nat.zero_le _) (Lib.lt_big (by omega))
  have e0 : mkl k1 0 ++ a0.drop 0 = a0 := rfl
  rw [e0] at this
  simpa using this
theorem ok (a0 : Row) (k1 : Int) (hs : ∀ y ∈ a0, y.length = 4) (hl : a0.length ≤ 4194304) (h0 : 0 ≤ k1) (h1 : k1 ≤ 1000000000000) : c a0 k1 = true ∧ v a0 k1 = (k1 + 4 * (a0.length : Int), mkl k1 a0.length) := out a0 k1 (run a0 k1 hs hl h0 h1)
end Go.FG.Pu.laws_markEntryS

namespace Go.FG.Pu.laws_heldEntryS
theorem run (k1 : Int) (a : Nat) (hl : a ≤ 4194304) (h0 : 0 ≤ k1) (h1 : k1 ≤ 1000000000000) : vo (Pu.laws_markEntryS.mkl k1 a) k1 = some (k1 + 4 * (a : Int)) := by
  have hml := Pu.laws_markEntryS.mkl_len k1 a
  unfold vo b
  have := Lib.loop_gen (fun n (i : Nat) => l2 Lib.big (fun (_ : Row) (_ y6 _ : Int) => some y6) (fun (_ : Row) (y9 _ _ : Int) => some y9) n (Pu.laws_markEntryS.mkl k1 a) (k1 + 4 * (i : Int)) 0 (i : Int)) (fun i => a - i) (fun i => i ≤ a) (fun _ => some (k1 + 4 * (a : Int))) (fun n i hi => by
    by_cases h : i < a
    · right
      refine ⟨i + 1, h, by omega, rfl, ?_⟩
      have eA : k1 + 4 * ((i + 1 : Nat) : Int) = (k1 + 4 * (i : Int)) + 1 + 1 + 1 + 1 := by omega
      show l2 Lib.big _ _ (n + 1) (Pu.laws_markEntryS.mkl k1 a) (k1 + 4 * (i : Int)) 0 (i : Int) = l2 Lib.big _ _ n (Pu.laws_markEntryS.mkl k1 a) (k1 + 4 * ((i + 1 : Nat) : Int)) 0 ((i + 1 : Nat) : Int)
      rw [eA]
      have ce0 : cvS (cellAt (Pu.laws_markEntryS.mkl k1 a) i 0) = Pu.laws_markText.v (k1 + 4 * (i : Int)) := by
        unfold Pu.laws_markEntryS.mkl; rw [Lib.cellAt_rm _ _ _ _ h]; rfl
      have ce1 : cvI (cellAt (Pu.laws_markEntryS.mkl k1 a) i 1) = k1 + 4 * (i : Int) + 1 := by
        unfold Pu.laws_markEntryS.mkl; rw [Lib.cellAt_rm _ _ _ _ h]; rfl
      have ce2 : cvI (cellAt (Pu.laws_markEntryS.mkl k1 a) i 2) = k1 + 4 * (i : Int) + 1 + 1 := by
        unfold Pu.laws_markEntryS.mkl; rw [Lib.cellAt_rm _ _ _ _ h]; rfl
      have ce3 : cvS (cellAt (Pu.laws_markEntryS.mkl k1 a) i 3) = Pu.laws_markText.v (k1 + 4 * (i : Int) + 1 + 1 + 1) := by
        unfold Pu.laws_markEntryS.mkl; rw [Lib.cellAt_rm _ _ _ _ h]; rfl
      have hk0 : 0 ≤ k1 + 4 * (i : Int) := by omega
      have hk1 : k1 + 4 * (i : Int) ≤ 2000000000000 := by omega
      generalize k1 + 4 * (i : Int) = k at *
      have hi1 : w64 ((i : Int) + 1) = ((i + 1 : Nat) : Int) := Lib.w64_ok (by omega) (by omega)
      simp only [l2, r2, hml, Lib.dlt, h, decide_true, Lib.dle0, Bool.and_self, cond_true, Lib.toN, ce0, ce1, ce2, ce3, Lib.w64_ok (x := k + 1) (by omega) (by omega), Lib.w64_ok (x := k + 1 + 1) (by omega) (by omega), Lib.w64_ok (x := k + 1 + 1 + 1) (by omega) (by omega), Lib.w64_ok (x := k + 1 + 1 + 1 + 1) (by omega) (by omega), Pu.laws_markText.ok (k) (by omega), Pu.laws_markText.ok (k + 1 + 1 + 1) (by omega), hi1, bne_self_eq_false, cond_false, Lib.beq_refl_ba, Bool.not_true]
    · left
      have : i = a := by omega
      subst this
      simp only [l2, r2, hml, Lib.dlt, Nat.lt_irrefl, decide_false, cond_false]) Lib.big 0 (Nat.zero_le _) (Lib.lt_big (by omega))
  simpa using this
theorem ok (k1 : Int) (a : Nat) (hl : a ≤ 4194304) (h0 : 0 ≤ k1) (h1 : k1 ≤ 1000000000000) : c (Pu.laws_markEntryS.mkl k1 a) k1 = true ∧ v (Pu.laws_markEntryS.mkl k1 a) k1 = k1 + 4 * (a : Int) := out _ _ (run k1 a hl h0 h1)
end Go.FG.Pu.laws_heldEntryS

namespace Go.FG.Pu.laws_eqFileS
theorem run (a : Row) (hl : a.length ≤ 9223372036854775807) : vo a a = some true := by
  unfold vo b
  rw [show ((a.length : Int) != (a.length : Int)) = false from bne_self_eq_false _, cond_false]
  have := Lib.loop_gen (fun n (i : Nat) => l4 Lib.big (fun (_ _ : Row) (y : Bool) (_ : Int) => some y) (fun (_ _ : Row) (_ : Bool) (_ : Int) => some true) n a a false (i : Int)) (fun i => a.length - i) (fun i => i ≤ a.length) (fun _ => some true) (fun n i hi => by
    by_cases h : i < a.length
    · right
      refine ⟨i + 1, h, by omega, rfl, ?_⟩
      have hi1 : w64 ((i : Int) + 1) = ((i + 1 : Nat) : Int) := Lib.w64_ok (by omega) (by omega)
      have hel : ∀ (x0 : ByteArray) (x1 : ByteArray) (x2 : Int), Pu.laws_eqFile.v x0 x1 x2 x0 x1 x2 = true := fun _ _ _ => by
        simp only [Pu.laws_eqFile.v, bne_self_eq_false, Lib.beq_refl_ba, Bool.not_true, cond_false]
      simp only [l4, r4, Lib.dlt, h, decide_true, Lib.dle0, Bool.and_self, cond_true, Lib.toN, hi1, hel, Bool.not_true, cond_false]
    · left
      simp only [l4, r4, Lib.dlt, h, decide_false, cond_false]) Lib.big 0 (Nat.zero_le _) (Lib.lt_big (by omega))
  exact this
theorem ok (a : Row) (hl : a.length ≤ 9223372036854775807) : c a a = true ∧ v a a = true := out a a (run a hl)
end Go.FG.Pu.laws_eqFileS

namespace Go.FG.Pu.laws_eqDisk
theorem ok (a : Row) (hl : a.length ≤ 9223372036854775807) : c a a = true ∧ v a a = true := by
  have h := Pu.laws_eqFileS.ok a hl
  exact out a a (by unfold vo b; rw [h.1, h.2, cond_true]; rfl)
end Go.FG.Pu.laws_eqDisk

namespace Go.FG.Pu.laws_markFileS
def row (k : Int) : List CV := [CV.s (Pu.laws_markText.v (k)), CV.s (Pu.laws_markText.v (k + 1)), CV.i IntKind.i64 (k + 1 + 1)]
def mkl (k : Int) (n : Nat) : Row := (List.range n).map fun (j : Nat) => row (k + 3 * (j : Int))
theorem mkl_len (k : Int) (n : Nat) : (mkl k n).length = n := by unfold mkl; simp
theorem mkl_sh (k : Int) (n : Nat) : ∀ y ∈ mkl k n, y.length = 3 := by
  intro y hy; unfold mkl at hy; obtain ⟨j, _, rfl⟩ := List.mem_map.1 hy; rfl
theorem sp0 (y0 y1 y2 x : CV) : splice [y0, y1, y2] 0 [x] = [x, y1, y2] := rfl
theorem sp1 (y0 y1 y2 x : CV) : splice [y0, y1, y2] 1 [x] = [y0, x, y2] := rfl
theorem sp2 (y0 y1 y2 x : CV) : splice [y0, y1, y2] 2 [x] = [y0, y1, x] := rfl
theorem run (a0 : Row) (k1 : Int) (hs : ∀ y ∈ a0, y.length = 3) (hl : a0.length ≤ 4194304) (h0 : 0 ≤ k1) (h1 : k1 ≤ 1000000000000) : vo a0 k1 = some (k1 + 3 * (a0.length : Int), mkl k1 a0.length) := by
  unfold vo b
  have := Lib.loop_gen (fun n (i : Nat) => l2 Lib.big (fun (y3 y4 : Int) (y5 : Row) => some (y3, y5)) n (k1 + 3 * (i : Int)) (i : Int) (mkl k1 i ++ a0.drop i)) (fun i => a0.length - i) (fun i => i ≤ a0.length) (fun _ => some (k1 + 3 * (a0.length : Int), mkl k1 a0.length)) (fun n i hi => by
    have hml := mkl_len k1 i
    by_cases h : i < a0.length
    · right
      refine ⟨i + 1, h, by omega, rfl, ?_⟩
      have e3 : mkl k1 (i + 1) ++ a0.drop (i + 1) = mkl k1 i ++ row (k1 + 3 * (i : Int)) :: a0.drop (i + 1) := by
        unfold mkl; rw [Lib.range_map_succ, List.append_assoc]; rfl
      have eA : k1 + 3 * ((i + 1 : Nat) : Int) = (k1 + 3 * (i : Int)) + 1 + 1 + 1 := by omega
      show l2 Lib.big _ (n + 1) (k1 + 3 * (i : Int)) (i : Int) (mkl k1 i ++ a0.drop i) = l2 Lib.big _ n (k1 + 3 * ((i + 1 : Nat) : Int)) ((i + 1 : Nat) : Int) (mkl k1 (i + 1) ++ a0.drop (i + 1))
      rw [eA, e3, Lib.drop_cons_of h]
      have hy := hs _ (List.getElem_mem h)
      have hk0 : 0 ≤ k1 + 3 * (i : Int) := by omega
      have hk1 : k1 + 3 * (i : Int) ≤ 2000000000000 := by omega
      generalize k1 + 3 * (i : Int) = k at hk0 hk1
      generalize a0[i] = y at hy
      obtain ⟨y0, y1, y2, rfl⟩ : ∃ y0 y1 y2, y = [y0, y1, y2] := by
        match y, hy with
        | [y0, y1, y2], _ => exact ⟨y0, y1, y2, rfl⟩
      have hd : ∀ z : List CV, decide ((i : Int) < ((mkl k1 i ++ z :: a0.drop (i + 1)).length : Int)) = true := fun z => by
        rw [Lib.len_mid, hml]; exact decide_eq_true (by omega)
      have hi1 : w64 ((i : Int) + 1) = ((i + 1 : Nat) : Int) := Lib.w64_ok (by omega) (by omega)
      simp only [l2, r2, Lib.length_setC, hd, Lib.dle0, Bool.and_self, cond_true, Lib.toN, Lib.setC_mid _ _ _ _ _ _ hml, sp0, sp1, sp2, Lib.w64_ok (x := k + 1) (by omega) (by omega), Lib.w64_ok (x := k + 1 + 1) (by omega) (by omega), Lib.w64_ok (x := k + 1 + 1 + 1) (by omega) (by omega), Pu.laws_markText.ok (k) (by omega), Pu.laws_markText.ok (k + 1) (by omega), hi1]
      rfl
    · left
      have : i = a0.length := by omega
      subst this
      show l2 Lib.big _ (n + 1) (k1 + 3 * (a0.length : Int)) (a0.length : Int) (mkl k1 a0.length ++ a0.drop a0.length) = _
      rw [List.drop_length, List.append_nil]
      simp only [l2, r2, hml, Lib.dlt, Nat.lt_irrefl, decide_false, cond_false]) Lib.big 0 (Nat.zero_le _) (Lib.lt_big (by omega))
  have e0 : mkl k1 0 ++ a0.drop 0 = a0 := rfl
  rw [e0] at this
  simpa using this
theorem ok (a0 : Row) (k1 : Int) (hs : ∀ y ∈ a0, y.length = 3) (hl : a0.length ≤ 4194304) (h0 : 0 ≤ k1) (h1 : k1 ≤ 1000000000000) : c a0 k1 = true ∧ v a0 k1 = (k1 + 3 * (a0.length : Int), mkl k1 a0.length) := out a0 k1 (run a0 k1 hs hl h0 h1)
end Go.FG.Pu.laws_markFileS

namespace Go.FG.Pu.laws_markDisk
theorem ok (a0 : Row) (k1 : Int) (hs : ∀ y ∈ a0, y.length = 3) (hl : a0.length ≤ 4194304) (h0 : 0 ≤ k1) (h1 : k1 ≤ 1000000000000) : c a0 k1 = true ∧ v a0 k1 = (k1 + 3 * (a0.length : Int), Pu.laws_markFileS.mkl k1 a0.length) := by
  have h := Pu.laws_markFileS.ok a0 k1 hs hl h0 h1
  exact out a0 k1 (by unfold vo b; rw [h.1, h.2, cond_true])
end Go.FG.Pu.laws_markDisk

namespace Go.FG.Pu.laws_FnExactFindKept
theorem run (d0 : Row) (f0 : FitR d0) : vo d0 = some true := by
  unfold vo b
  obtain ⟨z1, z2, z3⟩ := Pu.laws_szDisk.ok d0 1048576 (by omega) (by omega) f0
  rw [z1, cond_true]
  by_cases h : Pu.laws_szDisk.v d0 1048576 < 0
  · rw [decide_eq_true h]; rfl
  rw [decide_eq_false h, cond_false]
  have hd := z3 (by omega)
  have t1 := Pu.laws_toDisk.ok d0 hd
  have m1 := Pu.laws_toFileS.tl_len d0
  have s1 := Pu.laws_toFileS.tl_sh d0
  generalize Pu.laws_toFileS.tl d0 = d at t1 m1 s1
  obtain ⟨L, a1, a2, hs, hl⟩ := Pu.spec_FindKept.same d (by omega)
  have h3 := Pu.laws_eqEntryS.ok L (by omega)
  have h4 := Pu.laws_markEntryS.ok L 1 hs (by omega) (by omega) (by omega)
  have h5 := Pu.laws_heldEntryS.ok 1 L.length (by omega) (by omega) (by omega)
  have h6 : decide (1 + 4 * (L.length : Int) < 0) = false := decide_eq_false (by omega)
  have h7 := Pu.laws_eqDisk.ok d (by omega)
  have h9 := Pu.laws_markDisk.ok d 1 s1 (by omega) (by omega) (by omega)
  have h11 : decide (1 + 3 * (d.length : Int) < 0) = false := decide_eq_false (by omega)
  simp only [t1.1, t1.2, a1.1, a1.2, a2.1, a2.2, h3.1, h3.2, h4.1, h4.2, h5.1, h5.2, h6, h7.1, h7.2, h9.1, h9.2, h11, cond_true, cond_false, Bool.not_true, bne_self_eq_false]
theorem law (d0 : Row) (f0 : FitR d0) : v d0 = true := (out d0 (run d0 f0)).2
theorem lawc (d0 : Row) (f0 : FitR d0) : c d0 = true := (out d0 (run d0 f0)).1
end Go.FG.Pu.laws_FnExactFindKept

