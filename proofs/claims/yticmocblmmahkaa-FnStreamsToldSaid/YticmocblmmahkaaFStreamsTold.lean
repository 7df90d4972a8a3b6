/- What the functions come to, in plain numbers, texts and lists; last the law itself. No condition but those that each states. -/
import Derived.Test.YticmocblmmahkaaPStreamsToldb
set_option linter.unusedVariables false
set_option linter.unusedSimpArgs false
set_option maxRecDepth 100000
namespace Go.FG.Pu.spec_StreamJoin
def ide (y : List CV) : Int := cvI (y.getD 0 (.b false))
def cr (y : List CV) : List CV := [CV.i IntKind.i64 (cvI (y.getD 0 (.b false))), CV.i IntKind.i64 (cvI (y.getD 1 (.b false)))]
def nw (id : Int) : List CV := [CV.i IntKind.i64 id, CV.i IntKind.i64 0]
def joined (r : Row) (id : Int) : Row := (r.filter (fun y => decide (ide y < id))).map cr ++ [nw id] ++ (r.filter (fun y => decide (ide y > id))).map cr
def val (st : Int) (t : ByteArray) (r : Row) (id : Int) : Int × ByteArray × Row × Bool :=
  bif !Pu.spec_StreamOk.v st t r then (st, t, r, false) else bif decide (Pu.spec_l14At.v st t r id ≥ 0) then (st, t, r, false) else bif !Pu.spec_StreamOk.v st t (joined r id) then (st, t, r, false) else (st, t, joined r id, true)
theorem ok (st : Int) (t : ByteArray) (r : Row) (id : Int) (hl : r.length ≤ 1048576) : c st t r id = true ∧ v st t r id = val st t r id := by
  refine out st t r id ?_
  unfold vo b
  rw [show Pu.spec_l14Copy.c st t r = true from decide_eq_true (by omega), cond_true]
  have hn : (List.set (zeros [Ck.i IntKind.i64, Ck.i IntKind.i64] 1) 0 [CV.i IntKind.i64 id, CV.i IntKind.i64 0]) = [nw id] := rfl
  rw [show zeros [Ck.i IntKind.i64, Ck.i IntKind.i64] 0 = [] from rfl]
  have hw : ∀ i, i < r.length → w64 ((i : Int) + 1) = ((i + 1 : Nat) : Int) := fun i h => Lib.w64_s h (by omega)
  have key := fun (acc0 : Row) (ha : acc0.length ≤ 2000000) => Lib.filt_run (fun y => decide (ide y > id)) cr r 2000000
    (fun m (i : Nat) (acc : Row) => l10 Lib.big (fun y33 y34 y35 y36 y37 y38 y39 y40 y41 y42 y43 => bif (!Pu.spec_StreamOk.v y35 y36 y37) then (some (y40, y41, y43, false)) else (bif (decide (Pu.spec_l14At.v y35 y36 y37 y33 ≥ 0)) then (some (y40, y41, y43, false)) else (bif (!Pu.spec_StreamOk.v y35 y36 y42) then (some (y40, y41, y43, false)) else (some (y35, y36, y42, true))))) m id i st t r 0 ({ data := #[] }) st t acc r)
    (fun acc => bif (!Pu.spec_StreamOk.v st t r) then (some (st, t, r, false)) else (bif (decide (Pu.spec_l14At.v st t r id ≥ 0)) then (some (st, t, r, false)) else (bif (!Pu.spec_StreamOk.v st t acc) then (some (st, t, r, false)) else (some (st, t, acc, true)))))
    (fun m i acc h h2 hp => by
      have hp' : decide (cvI (r[i].getD 0 (.b false)) > id) = true := hp
      simp only [l10, r10, Lib.dlt, h, decide_true, Lib.dle0, Bool.and_self, cond_true, Lib.toN, hp', Lib.cellAt_of h, hw i h, Lib.len_set1, List.length_singleton, Lib.roomy_of (n := acc.length + 1) (b := 16) (by omega) (by omega)]
      rfl)
    (fun m i acc h h2 hp => by
      have hp' : decide (cvI (cellAt r i 0) > id) = false := by rw [Lib.cellAt_of h]; exact hp
      simp only [l10, r10, Lib.dlt, h, decide_true, Lib.dle0, Bool.and_self, cond_true, Lib.toN, hp', cond_false, hw i h])
    (fun m acc => by simp only [l10, r10, Lib.dlt, Nat.lt_irrefl, decide_false, cond_false]) Lib.big acc0 ha (Lib.lt_big (by omega))
  have key2 := Lib.filt_run (fun y => decide (ide y < id)) cr r 0
    (fun m (i : Nat) (acc : Row) => l4 Lib.big (fun y11 y12 y13 y14 y15 y16 y17 y18 y19 y20 y21 => bif (roomy (List.length y20 + List.length (List.set (zeros [Ck.i IntKind.i64, Ck.i IntKind.i64] 1) 0 [CV.i IntKind.i64 y11, CV.i IntKind.i64 0])) 16) then (l10 Lib.big (fun y33 y34 y35 y36 y37 y38 y39 y40 y41 y42 y43 => bif (!Pu.spec_StreamOk.v y35 y36 y37) then (some (y40, y41, y43, false)) else (bif (decide (Pu.spec_l14At.v y35 y36 y37 y33 ≥ 0)) then (some (y40, y41, y43, false)) else (bif (!Pu.spec_StreamOk.v y35 y36 y42) then (some (y40, y41, y43, false)) else (some (y35, y36, y42, true))))) Lib.big y11 0 y13 y14 y15 y16 y17 y18 y19 (y20 ++ List.set (zeros [Ck.i IntKind.i64, Ck.i IntKind.i64] 1) 0 [CV.i IntKind.i64 y11, CV.i IntKind.i64 0]) y21) else (none)) m id i st t r 0 ({ data := #[] }) st t acc r)
    (fun acc => bif (roomy (List.length acc + 1) 16) then (l10 Lib.big (fun y33 y34 y35 y36 y37 y38 y39 y40 y41 y42 y43 => bif (!Pu.spec_StreamOk.v y35 y36 y37) then (some (y40, y41, y43, false)) else (bif (decide (Pu.spec_l14At.v y35 y36 y37 y33 ≥ 0)) then (some (y40, y41, y43, false)) else (bif (!Pu.spec_StreamOk.v y35 y36 y42) then (some (y40, y41, y43, false)) else (some (y35, y36, y42, true))))) Lib.big id 0 st t r 0 ({ data := #[] }) st t (acc ++ [nw id]) r) else none)
    (fun m i acc h h2 hp => by
      have hp' : decide (cvI (r[i].getD 0 (.b false)) < id) = true := hp
      simp only [l4, r4, Lib.dlt, h, decide_true, Lib.dle0, Bool.and_self, cond_true, Lib.toN, hp', Lib.cellAt_of h, hw i h, Lib.len_set1, List.length_singleton, Lib.roomy_of (n := acc.length + 1) (b := 16) (by omega) (by omega)]
      rfl)
    (fun m i acc h h2 hp => by
      have hp' : decide (cvI (cellAt r i 0) < id) = false := by rw [Lib.cellAt_of h]; exact hp
      simp only [l4, r4, Lib.dlt, h, decide_true, Lib.dle0, Bool.and_self, cond_true, Lib.toN, hp', cond_false, hw i h])
    (fun m acc => by simp only [l4, r4, Lib.dlt, Nat.lt_irrefl, decide_false, cond_false]; rfl) Lib.big [] (Nat.le_refl _) (Lib.lt_big (by omega))
  refine key2.trans ?_
  have hf : ((r.filter (fun y => decide (ide y < id))).map cr).length ≤ r.length := by rw [List.length_map]; exact List.length_filter_le _ _
  rw [List.nil_append, Lib.roomy_of (by omega) (by omega), cond_true]
  refine (key _ (by rw [List.length_append, List.length_singleton]; omega)).trans ?_
  unfold val joined
  cases Pu.spec_StreamOk.v st t r
  · rfl
  · cases decide (Pu.spec_l14At.v st t r id ≥ 0)
    · simp only [Bool.not_true, cond_false]
      cases Pu.spec_StreamOk.v st t _ <;> rfl
    · rfl
theorem ok_iff (st : Int) (t : ByteArray) (r : Row) : Pu.spec_StreamOk.v st t r = true ↔ (∀ y ∈ r, (1 ≤ cvI (y.getD 0 (.b false)) ∧ cvI (y.getD 0 (.b false)) ≤ 9) ∧ (0 ≤ cvI (y.getD 1 (.b false)) ∧ cvI (y.getD 1 (.b false)) ≤ t.size)) ∧ r.Pairwise (fun y z => ide y < ide z) ∧ Pu.spec_StreamOk.rest st t r = true := by
  unfold Pu.spec_StreamOk.v
  rw [Bool.and_eq_true, List.all_eq_true]
  have hel : ∀ i (h : i < r.length), Pu.spec_StreamOk.el t r i = true ↔ ((1 ≤ cvI (r[i].getD 0 (.b false)) ∧ cvI (r[i].getD 0 (.b false)) ≤ 9) ∧ (0 ≤ cvI (r[i].getD 1 (.b false)) ∧ cvI (r[i].getD 1 (.b false)) ≤ t.size)) ∧ (i = 0 ∨ cvI (cellAt r (i - 1) 0) < cvI (cellAt r i 0)) := by
    intro i h
    unfold Pu.spec_StreamOk.el
    rw [Lib.cellAt_of h, Lib.cellAt_of h]
    simp [and_assoc]
  constructor
  · intro ⟨h1, h2⟩
    have h1' : ∀ i (h : i < r.length), _ := fun i h => (hel i h).1 (h1 i (by simpa using h))
    refine ⟨fun y hy => ?_, ?_, h2⟩
    · obtain ⟨i, hi, rfl⟩ := List.mem_iff_getElem.1 hy
      exact (h1' i hi).1
    · rw [List.pairwise_iff_getElem]
      have key : ∀ d i (hi : i < r.length) (hj : i + d + 1 < r.length), cvI (cellAt r i 0) < cvI (cellAt r (i + d + 1) 0) := by
        intro d
        induction d with
        | zero =>
          intro i hi hj
          rcases (h1' (i + 1) hj).2 with h | h
          · omega
          · exact h
        | succ d ih =>
          intro i hi hj
          have := ih i hi (by omega)
          rcases (h1' (i + d + 1 + 1) (by omega)).2 with h | h
          · omega
          · have e : i + d + 1 + 1 - 1 = i + d + 1 := by omega
            rw [e] at h
            rw [show i + (d + 1) + 1 = i + d + 1 + 1 by omega]; omega
      intro i j hi hj hij
      have := key (j - i - 1) i hi (by omega)
      have e : i + (j - i - 1) + 1 = j := by omega
      rw [e, Lib.cellAt_of hi, Lib.cellAt_of hj] at this
      exact this
  · intro ⟨h1, h2, h3⟩
    refine ⟨fun i hi => ?_, h3⟩
    have hi' : i < r.length := by simpa using hi
    rw [hel i hi']
    refine ⟨h1 _ (List.getElem_mem hi'), ?_⟩
    by_cases h0 : i = 0
    · exact .inl h0
    · right
      rw [List.pairwise_iff_getElem] at h2
      have := h2 (i - 1) i (by omega) hi' (by omega)
      rw [Lib.cellAt_of hi', Lib.cellAt_of (show i - 1 < r.length by omega)]
      exact this
end Go.FG.Pu.spec_StreamJoin

namespace Go.FG.Pu.impl_StreamJoin
def ins (r : Row) (id : Int) : Row := r.takeWhile (fun y => decide (Pu.spec_StreamJoin.ide y < id)) ++ [Pu.spec_StreamJoin.nw id] ++ r.dropWhile (fun y => decide (Pu.spec_StreamJoin.ide y < id))
def val (st : Int) (t : ByteArray) (r : Row) (id : Int) : Int × ByteArray × Row × Bool :=
  bif !Pu.spec_StreamOk.v st t (ins r id) then (st, t, r, false) else bif decide (Pu.spec_l14At.v st t r id ≥ 0) then (st, t, r, false) else (st, t, ins r id, true)
theorem ok (st : Int) (t : ByteArray) (r : Row) (id : Int) (hl : r.length ≤ 1048576) : c st t r id = true ∧ v st t r id = val st t r id := by
  refine out st t r id ?_
  unfold vo b
  have hw : ∀ i, i < r.length → w64 ((i : Int) + 1) = ((i + 1 : Nat) : Int) := fun i h => Lib.w64_s h (by omega)
  have hcc : Pu.impl_copyStream.c st t r = true := decide_eq_true (by omega)
  have e1 : ∀ a b c, Pu.impl_StreamOk.v a b c = Pu.spec_StreamOk.v a b c := fun _ _ _ => rfl
  have e2 : ∀ a b c d, Pu.impl_readerAt.v a b c d = Pu.spec_l14At.v a b c d := fun _ _ _ _ => rfl
  have := Lib.stop_run (fun y => decide (Pu.spec_StreamJoin.ide y < id)) r (fun m (i : Nat) => l2 Lib.big (fun y7 y8 y9 y10 y11 y12 y13 => bif (Pu.impl_copyStream.c y9 y10 y11) then (bif (decide (0 ≤ y8) && decide (y8 ≤ (↑(List.length y11) : Int)) && roomy (List.length y11 + List.length (List.set (zeros [Ck.i IntKind.i64, Ck.i IntKind.i64] 1) 0 [CV.i IntKind.i64 y7, CV.i IntKind.i64 0])) 16) then (bif (!Pu.impl_StreamOk.v y9 y10 (Pu.insR y11 (Int.toNat y8) (List.set (zeros [Ck.i IntKind.i64, Ck.i IntKind.i64] 1) 0 [CV.i IntKind.i64 y7, CV.i IntKind.i64 0]))) then (bif (Pu.impl_copyStream.c y9 y10 y11) then (some (y9, y10, y11, false)) else (none)) else (bif (decide (Pu.impl_readerAt.v y9 y10 y11 y7 ≥ 0)) then (bif (Pu.impl_copyStream.c y9 y10 y11) then (some (y9, y10, y11, false)) else (none)) else (some (y9, y10, (Pu.insR y11 (Int.toNat y8) (List.set (zeros [Ck.i IntKind.i64, Ck.i IntKind.i64] 1) 0 [CV.i IntKind.i64 y7, CV.i IntKind.i64 0])), true)))) else (none)) else (none)) m id i st t r 0 ({ data := #[] }))
    (fun a => bif (decide ((a : Int) ≤ (↑(List.length r) : Int))) then (bif (!Pu.spec_StreamOk.v st t (Pu.insR r a [Pu.spec_StreamJoin.nw id])) then (some (st, t, r, false)) else (bif (decide (Pu.spec_l14At.v st t r id ≥ 0)) then (some (st, t, r, false)) else (some (st, t, Pu.insR r a [Pu.spec_StreamJoin.nw id], true)))) else none)
    (fun m i h hp => by
      have hp' : decide (cvI (cellAt r i 0) < id) = true := by rw [Lib.cellAt_of h]; exact hp
      simp only [l2, r2, Lib.dlt, h, decide_true, Lib.dle0, Bool.and_self, cond_true, Lib.toN, hp', hw i h])
    (fun m i h hp => by
      have hp' : decide (cvI (cellAt r i 0) < id) = false := by rw [Lib.cellAt_of h]; exact hp
      simp only [l2, r2, Lib.dlt, h, decide_true, Lib.dle0, Bool.and_self, Bool.true_and, Bool.and_true, cond_true, cond_false, Lib.toN, hp', hcc, e1, e2, Lib.len_set1, List.length_singleton, Lib.roomy_of (n := r.length + 1) (b := 16) (by omega) (by omega)]
      rfl)
    (fun m => by
      simp only [l2, r2, Lib.dlt, Nat.lt_irrefl, decide_false, decide_true, Lib.dle0, Bool.and_self, Bool.true_and, Bool.and_true, cond_true, cond_false, Lib.toN, hcc, e1, e2, Lib.len_set1, List.length_singleton, Lib.roomy_of (n := r.length + 1) (b := 16) (by omega) (by omega)]
      rfl) Lib.big (Lib.lt_big (by omega))
  refine this.trans ?_
  have hle := Lib.tw_le (fun y => decide (Pu.spec_StreamJoin.ide y < id)) r
  rw [decide_eq_true (by omega), cond_true]
  unfold Pu.insR val ins
  rw [Lib.take_tw, Lib.drop_tw]
  cases Pu.spec_StreamOk.v st t _
  · rfl
  · simp only [Bool.not_true, cond_false]
    cases decide (Pu.spec_l14At.v st t r id ≥ 0) <;> rfl
theorem at_no {st : Int} {t : ByteArray} {r : Row} {id : Int} (h : ¬ Pu.spec_l14At.v st t r id ≥ 0) : ∀ y ∈ r, Pu.spec_StreamJoin.ide y ≠ id := by
  intro y hy
  obtain ⟨i, hi, rfl⟩ := List.mem_iff_getElem.1 hy
  unfold Pu.spec_l14At.v at h
  rcases Lib.fi_rng (fun i => decide (cvI (cellAt r i 0) = id)) r.length 0 with ⟨h1, h2⟩ | ⟨k, h1, h2, h3, h4, h5⟩
  · have := h2 i (Nat.zero_le _) (by omega)
    rw [Lib.cellAt_of hi] at this
    exact of_decide_eq_false this
  · rw [h3] at h; omega
theorem same (st : Int) (t : ByteArray) (r : Row) (id : Int) (hr : ∀ y ∈ r, Pu.spec_StreamJoin.cr y = y) : val st t r id = Pu.spec_StreamJoin.val st t r id := by
  unfold val Pu.spec_StreamJoin.val
  by_cases ha : Pu.spec_l14At.v st t r id ≥ 0
  · rw [decide_eq_true ha]
    cases Pu.spec_StreamOk.v st t r <;> cases Pu.spec_StreamOk.v st t (ins r id) <;> rfl
  · rw [decide_eq_false ha]
    have hn := at_no ha
    by_cases ho : Pu.spec_StreamOk.v st t r = true
    · have hs := Lib.tw_sorted Pu.spec_StreamJoin.ide id r ((Pu.spec_StreamJoin.ok_iff st t r).1 ho).2.1 hn
      have ec : ∀ q : List CV → Bool, (r.filter q).map Pu.spec_StreamJoin.cr = r.filter q := fun q => by
        have := List.map_congr_left (l := r.filter q) (f := Pu.spec_StreamJoin.cr) (g := fun z => z) (fun y hy => hr y (List.mem_filter.1 hy).1)
        rw [this]
        exact List.map_id _
      have e : ins r id = Pu.spec_StreamJoin.joined r id := by
        unfold ins Pu.spec_StreamJoin.joined
        rw [hs.1, hs.2, ec, ec]
      rw [ho, e]; rfl
    · have ho' : Pu.spec_StreamOk.v st t r = false := by simpa using ho
      have hb : Pu.spec_StreamOk.v st t (ins r id) = false := by
        cases hi : Pu.spec_StreamOk.v st t (ins r id) with
        | false => rfl
        | true =>
          exfalso
          apply ho
          rw [Pu.spec_StreamJoin.ok_iff] at hi ⊢
          obtain ⟨i1, i2, i3⟩ := hi
          have er : r = r.takeWhile (fun y => decide (Pu.spec_StreamJoin.ide y < id)) ++ r.dropWhile (fun y => decide (Pu.spec_StreamJoin.ide y < id)) := (List.takeWhile_append_dropWhile).symm
          have hsub : r.Sublist (ins r id) := by
            conv => lhs; rw [er]
            unfold ins
            rw [List.append_assoc]
            exact List.Sublist.append (List.Sublist.refl _) (List.sublist_append_right _ _)
          refine ⟨fun y hy => i1 y (hsub.subset hy), i2.sublist hsub, ?_⟩
          have hlen := hsub.length_le
          unfold Pu.spec_StreamOk.rest at i3 ⊢
          simp only [Bool.and_eq_true, decide_eq_true_eq] at i3 ⊢
          exact ⟨i3.1, i3.2.1, by omega⟩
      rw [ho', hb]; rfl
theorem val_sh (st : Int) (t : ByteArray) (r : Row) (id : Int) (hr : ∀ y ∈ r, y.length = 2) : (∀ y ∈ (val st t r id).2.2.1, y.length = 2) ∧ (val st t r id).2.2.1.length ≤ r.length + 1 := by
  have hi : (∀ y ∈ ins r id, y.length = 2) ∧ (ins r id).length = r.length + 1 := by
    have er := List.takeWhile_append_dropWhile (p := fun y => decide (Pu.spec_StreamJoin.ide y < id)) (l := r)
    constructor
    · intro y hy
      unfold ins at hy
      simp only [List.mem_append, List.mem_singleton] at hy
      rcases hy with (h | h) | h
      · exact hr y (by rw [← er]; exact List.mem_append_left _ h)
      · rw [h]; rfl
      · exact hr y (by rw [← er]; exact List.mem_append_right _ h)
    · have := congrArg List.length er
      unfold ins
      simp only [List.length_append, List.length_singleton] at this ⊢
      omega
  unfold val
  cases Pu.spec_StreamOk.v st t (ins r id)
  · exact ⟨hr, by simp⟩
  · cases decide (Pu.spec_l14At.v st t r id ≥ 0)
    · exact ⟨hi.1, by simp [hi.2]⟩
    · exact ⟨hr, by simp⟩
end Go.FG.Pu.impl_StreamJoin

namespace Go.FG.Pu.spec_l01Byte
/-- Where a draw stands in its bytes. -/
def I (q : Row) (a : Int) : Prop := 0 ≤ a ∧ a ≤ (q.length : Int) ∧ q.length ≤ 1048576
theorem rng (x : BitVec 64) : 0 ≤ w64 ((BitVec.toNat (BitVec.and x (BitVec.ofInt 64 255)) : Nat) : Int) ∧ w64 ((BitVec.toNat (BitVec.and x (BitVec.ofInt 64 255)) : Nat) : Int) ≤ 255 := by
  have h : BitVec.toNat (BitVec.and x (BitVec.ofInt 64 255)) ≤ 255 := by
    have e : BitVec.toNat (BitVec.and x (BitVec.ofInt 64 255)) = x.toNat &&& 255 := BitVec.toNat_and x (BitVec.ofInt 64 255)
    rw [e]; exact Nat.and_le_right
  rw [Lib.w64_ok (by omega) (by omega)]; omega
theorem ok (q : Row) (a s : Int) (hI : I q a) : ∃ n a' s', c q a s = true ∧ v q a s = (n, q, a', s') ∧ I q a' ∧ 0 ≤ n ∧ n ≤ 255 := by
  obtain ⟨h0, h1, h2⟩ := hI
  by_cases h : a < (q.length : Int)
  · have hw : w64 (a + 1) = a + 1 := Lib.w64_ok (by omega) (by omega)
    have hvo : ∃ n s', vo q a s = some (n, q, a + 1, s') ∧ 0 ≤ n ∧ n ≤ 255 := by
      unfold vo b
      rw [decide_eq_true h, decide_eq_true h0, cond_true, Bool.and_self, cond_true, hw]
      exact ⟨_, _, rfl, rng _⟩
    obtain ⟨n, s', hv, hr⟩ := hvo
    obtain ⟨e1, e2⟩ := out q a s hv
    exact ⟨n, a + 1, s', e1, e2, ⟨by omega, by omega, h2⟩, hr⟩
  · have hvo : ∃ n s', vo q a s = some (n, q, a, s') ∧ 0 ≤ n ∧ n ≤ 255 := by
      unfold vo b
      rw [decide_eq_false h, cond_false]
      exact ⟨_, _, rfl, rng _⟩
    obtain ⟨n, s', hv, hr⟩ := hvo
    obtain ⟨e1, e2⟩ := out q a s hv
    exact ⟨n, a, s', e1, e2, ⟨h0, h1, h2⟩, hr⟩
end Go.FG.Pu.spec_l01Byte

namespace Go.FG.Pu.spec_l01Below
theorem ok (q : Row) (a s k : Int) (hI : Pu.spec_l01Byte.I q a) : ∃ n a' s', c q a s k = true ∧ v q a s k = (n, q, a', s') ∧ Pu.spec_l01Byte.I q a' ∧ 0 ≤ n ∧ (0 < k → n < k) := by
  by_cases hk : k ≤ 0
  · obtain ⟨e1, e2⟩ := out q a s k (x := (0, q, a, s)) (by unfold vo b; rw [decide_eq_true hk, cond_true])
    exact ⟨0, a, s, e1, e2, hI, by omega, fun h => by omega⟩
  · have hm : ∀ x : Int, 0 ≤ x → 0 ≤ Int.tmod x k ∧ Int.tmod x k < k := fun x hx => by
      rw [Int.tmod_eq_emod_of_nonneg hx]
      exact ⟨Int.emod_nonneg _ (by omega), Int.emod_lt_of_pos _ (by omega)⟩
    have hk0 : ¬ k = 0 := by omega
    obtain ⟨n1, a1, s1, c1, v1, I1, g1, u1⟩ := Pu.spec_l01Byte.ok q a s hI
    by_cases h2 : k ≤ 256
    · obtain ⟨e1, e2⟩ := out q a s k (x := (Int.tmod n1 k, q, a1, s1)) (by
        unfold vo b
        simp only [hk, h2, hk0, c1, v1, decide_true, decide_false, cond_true, cond_false, Bool.not_false])
      exact ⟨_, a1, s1, e1, e2, I1, (hm n1 g1).1, fun _ => (hm n1 g1).2⟩
    · obtain ⟨n2, a2, s2, c2, v2, I2, g2, u2⟩ := Pu.spec_l01Byte.ok q a1 s1 I1
      obtain ⟨n3, a3, s3, c3, v3, I3, g3, u3⟩ := Pu.spec_l01Byte.ok q a2 s2 I2
      obtain ⟨n4, a4, s4, c4, v4, I4, g4, u4⟩ := Pu.spec_l01Byte.ok q a3 s3 I3
      have w1 : w64 (n1 * 16777216) = n1 * 16777216 := Lib.w64_ok (by omega) (by omega)
      have w2 : w64 (n2 * 65536) = n2 * 65536 := Lib.w64_ok (by omega) (by omega)
      have w3 : w64 (n3 * 256) = n3 * 256 := Lib.w64_ok (by omega) (by omega)
      have w4 : w64 (n1 * 16777216 + n2 * 65536) = n1 * 16777216 + n2 * 65536 := Lib.w64_ok (by omega) (by omega)
      have w5 : w64 (n1 * 16777216 + n2 * 65536 + n3 * 256) = n1 * 16777216 + n2 * 65536 + n3 * 256 := Lib.w64_ok (by omega) (by omega)
      have w6 : w64 (n1 * 16777216 + n2 * 65536 + n3 * 256 + n4) = n1 * 16777216 + n2 * 65536 + n3 * 256 + n4 := Lib.w64_ok (by omega) (by omega)
      obtain ⟨e1, e2⟩ := out q a s k (x := (Int.tmod (n1 * 16777216 + n2 * 65536 + n3 * 256 + n4) k, q, a4, s4)) (by
        unfold vo b
        simp only [hk, h2, hk0, c1, v1, c2, v2, c3, v3, c4, v4, w1, w2, w3, w4, w5, w6, decide_true, decide_false, cond_true, cond_false, Bool.not_false])
      have := hm (n1 * 16777216 + n2 * 65536 + n3 * 256 + n4) (by omega)
      exact ⟨_, a4, s4, e1, e2, I4, this.1, fun _ => this.2⟩
end Go.FG.Pu.spec_l01Below

namespace Go.FG.Pu.spec_l01Text
theorem ok (q : Row) (a s k : Int) (hI : Pu.spec_l01Byte.I q a) : ∃ t a' s', c q a s k = true ∧ v q a s k = (t, q, a', s') ∧ Pu.spec_l01Byte.I q a' ∧ (t.size : Int) ≤ 5000 ∧ ((t.size : Int) = 0 ∨ (t.size : Int) ≤ k) := by
  have key := fun (m : Int) (hm : m ≤ 5000) => Lib.loop_post (fun n (z : Nat × Int × Int × Row) => l5 Lib.big (fun (_ _ : Int) (y8 : Row) (y9 y10 : Int) (y11 : Row) => bif (decide (List.length y11 ≤ 4611686018427387904)) then (some (bytesOf y11, y8, y9, y10)) else (none)) n m (z.1 : Int) q z.2.1 z.2.2.1 z.2.2.2) (fun z => 5000 - z.1) (fun z => (z.1 = 0 ∨ (z.1 : Int) ≤ m) ∧ Pu.spec_l01Byte.I q z.2.1 ∧ z.2.2.2.length = z.1) (fun r => ∃ t a' s', r = (t, q, a', s') ∧ Pu.spec_l01Byte.I q a' ∧ ((t.size : Int) = 0 ∨ (t.size : Int) ≤ m)) (fun n z hz => by
    obtain ⟨i, a, s, acc⟩ := z
    obtain ⟨h1, h2, h3⟩ := hz
    dsimp only at h1 h2 h3 ⊢
    by_cases h : (i : Int) < m
    · right
      obtain ⟨n1, a1, s1, c1, v1, I1, g1, u1⟩ := Pu.spec_l01Byte.ok q a s h2
      have hi1 : w64 ((i : Int) + 1) = ((i + 1 : Nat) : Int) := Lib.w64_ok (by omega) (by omega)
      refine ⟨(i + 1, a1, s1, acc ++ [[CV.i IntKind.u8 (IntKind.wrap IntKind.u8 n1)]]), ⟨by right; dsimp only; omega, I1, by simp [h3]⟩, by dsimp only; omega, ?_⟩
      simp only [l5, r5, h, decide_true, cond_true, c1, v1, hi1, Lib.len_set1, List.length_singleton, Lib.roomy1 (n := acc.length + 1) (by omega)]
    · left
      refine ⟨_, by simp only [l5, r5, h, decide_false, cond_false, decide_eq_true (show acc.length ≤ 4611686018427387904 by omega), cond_true], bytesOf acc, a, s, rfl, h2, ?_⟩
      rw [size_bytesOf, h3]; omega) Lib.big (0, a, s, []) ⟨.inl rfl, hI, rfl⟩ (Lib.lt_big (by omega))
  by_cases hk : k > 5000
  · obtain ⟨b', hb, t, a', s', rfl, hI', hs⟩ := key 5000 (by omega)
    obtain ⟨e1, e2⟩ := out q a s k (x := (t, q, a', s')) (by
      unfold vo b
      rw [decide_eq_true hk, cond_true]; exact hb)
    exact ⟨t, a', s', e1, e2, hI', by omega, by omega⟩
  · obtain ⟨b', hb, t, a', s', rfl, hI', hs⟩ := key k (by omega)
    obtain ⟨e1, e2⟩ := out q a s k (x := (t, q, a', s')) (by
      unfold vo b
      rw [decide_eq_false hk, cond_false]; exact hb)
    exact ⟨t, a', s', e1, e2, hI', by omega, by omega⟩
end Go.FG.Pu.spec_l01Text

namespace Go.FG.Pu.spec_l01Once
theorem ok (q : Row) (a s k : Int) (hI : Pu.spec_l01Byte.I q a) : ∃ x a' s', c q a s k = true ∧ v q a s k = (x, q, a', s') ∧ Pu.spec_l01Byte.I q a' := by
  obtain ⟨n1, a1, s1, c1, v1, I1, g1, u1⟩ := Pu.spec_l01Below.ok q a s k hI
  obtain ⟨e1, e2⟩ := out q a s k (x := (decide (n1 = 0), q, a1, s1)) (by
    unfold vo b
    simp only [c1, v1, cond_true])
  exact ⟨_, a1, s1, e1, e2, I1⟩
end Go.FG.Pu.spec_l01Once

namespace Go.FG.Pu.spec_l14Stream
/-- A stream that is right, its readers told by two numbers each. -/
def J (st : Int) (t : ByteArray) (r : Row) : Prop := Pu.spec_StreamOk.v st t r = true ∧ ∀ y ∈ r, Pu.spec_StreamJoin.cr y = y
theorem J.len {st : Int} {t : ByteArray} {r : Row} (h : J st t r) : r.length ≤ 6 ∧ t.size ≤ 400 ∧ (1 ≤ st ∧ st ≤ 3) := by
  have h2 := ((Pu.spec_StreamJoin.ok_iff st t r).1 h.1).2.2
  unfold Pu.spec_StreamOk.rest at h2
  simp only [Bool.and_eq_true, decide_eq_true_eq] at h2
  exact ⟨h2.2.2, h2.2.1, h2.1⟩
theorem J.of {st st' : Int} {t t' : ByteArray} {r r' : Row} (h : J st t r) (h1 : 1 ≤ st' ∧ st' ≤ 3) (h2 : t'.size ≤ 400) (h3 : t.size ≤ t'.size) (h4 : r'.Sublist r) : J st' t' r' := by
  obtain ⟨a1, a2⟩ := h
  obtain ⟨b1, b2, b3⟩ := (Pu.spec_StreamJoin.ok_iff st t r).1 a1
  have hl := h4.length_le
  refine ⟨(Pu.spec_StreamJoin.ok_iff st' t' r').2 ⟨fun y hy => ?_, b2.sublist h4, ?_⟩, fun y hy => a2 y (h4.subset hy)⟩
  · have := b1 y (h4.subset hy); omega
  · unfold Pu.spec_StreamOk.rest at b3 ⊢
    simp only [Bool.and_eq_true, decide_eq_true_eq] at b3 ⊢
    exact ⟨h1, h2, by omega⟩
theorem put {st : Int} {t : ByteArray} {r : Row} (h : J st t r) (p : ByteArray) : J (Pu.spec_StreamPut.v st t r p).1 (Pu.spec_StreamPut.v st t r p).2.1 (Pu.spec_StreamPut.v st t r p).2.2.1 := by
  unfold Pu.spec_StreamPut.v
  split
  · rename_i hc
    exact h.of h.len.2.2 (by dsimp only; rw [Lib.size_app]; omega) (by dsimp only; rw [Lib.size_app]; omega) (List.Sublist.refl _)
  · exact h
theorem fin {st : Int} {t : ByteArray} {r : Row} (h : J st t r) (b : Bool) : J (Pu.spec_StreamEnd.v st t r b).1 (Pu.spec_StreamEnd.v st t r b).2.1 (Pu.spec_StreamEnd.v st t r b).2.2.1 := by
  unfold Pu.spec_StreamEnd.v
  split
  · exact h.of (by cases b <;> simp) h.len.2.1 (Nat.le_refl _) (List.Sublist.refl _)
  · exact h
theorem leave {st : Int} {t : ByteArray} {r : Row} (h : J st t r) (id : Int) : J (Pu.spec_StreamLeave.v st t r id).1 (Pu.spec_StreamLeave.v st t r id).2.1 (Pu.spec_StreamLeave.v st t r id).2.2 := by
  unfold Pu.spec_StreamLeave.v Pu.spec_StreamLeave.f
  have e : (r.filter (Pu.slices_DeleteFunc_Reader.keep id)).map Pu.slices_DeleteFunc_Reader.cr = r.filter (Pu.slices_DeleteFunc_Reader.keep id) := by
    have := List.map_congr_left (l := r.filter (Pu.slices_DeleteFunc_Reader.keep id)) (f := Pu.slices_DeleteFunc_Reader.cr) (g := fun z => z) (fun y hy => h.2 y (List.mem_filter.1 hy).1)
    rw [this]; exact List.map_id _
  rw [e]
  exact h.of h.len.2.2 h.len.2.1 (Nat.le_refl _) List.filter_sublist
theorem join {st : Int} {t : ByteArray} {r : Row} (h : J st t r) (id : Int) : J (Pu.spec_StreamJoin.val st t r id).1 (Pu.spec_StreamJoin.val st t r id).2.1 (Pu.spec_StreamJoin.val st t r id).2.2.1 := by
  have hc : ∀ y ∈ Pu.spec_StreamJoin.joined r id, Pu.spec_StreamJoin.cr y = y := by
    intro y hy
    unfold Pu.spec_StreamJoin.joined at hy
    simp only [List.mem_append, List.mem_singleton, List.mem_map] at hy
    rcases hy with (⟨z, _, rfl⟩ | rfl) | ⟨z, _, rfl⟩ <;> rfl
  unfold Pu.spec_StreamJoin.val
  cases Pu.spec_StreamOk.v st t r
  · exact h
  · cases decide (Pu.spec_l14At.v st t r id ≥ 0)
    · cases hj : Pu.spec_StreamOk.v st t (Pu.spec_StreamJoin.joined r id)
      · exact h
      · exact ⟨hj, hc⟩
    · exact h
theorem read {st : Int} {t : ByteArray} {r : Row} (h : J st t r) (id most : Int) : J (Pu.spec_StreamRead.v st t r id most).1 (Pu.spec_StreamRead.v st t r id most).2.1 (Pu.spec_StreamRead.v st t r id most).2.2.1 := by
  unfold Pu.spec_StreamRead.v
  split
  · rename_i hc
    obtain ⟨_, hk⟩ := hc
    obtain ⟨k, hkl, hke⟩ : ∃ k, k < r.length ∧ Pu.spec_l14At.v st t r id = (k : Int) := by
      unfold Pu.spec_l14At.v at hk ⊢
      rcases Lib.fi_rng (fun i => decide (cvI (cellAt r i 0) = id)) r.length 0 with ⟨h1, _⟩ | ⟨k, h1, h2, h3, _, _⟩
      · rw [h1] at hk; omega
      · exact ⟨k, by omega, h3⟩
    rw [hke]
    obtain ⟨a1, a2⟩ := h
    obtain ⟨b1, b2, b3⟩ := (Pu.spec_StreamJoin.ok_iff st t r).1 a1
    have hm := List.getElem_mem hkl
    have hy := a2 _ hm
    have hb := b1 _ hm
    have he : 0 ≤ Pu.spec_StreamRead.e t r k most ∧ Pu.spec_StreamRead.e t r k most ≤ t.size := by
      unfold Pu.spec_StreamRead.e
      rw [Int.toNat_natCast, Lib.cellAt_of hkl]
      simp only [minmax, cond_true, cond_false]
      (repeat' split) <;> omega
    generalize Pu.spec_StreamRead.e t r k most = e at he
    rw [Int.toNat_natCast]
    dsimp only
    have hs : setC r k 1 [CV.i IntKind.i64 e] = r.set k [CV.i IntKind.i64 (cvI (r[k].getD 0 (.b false))), CV.i IntKind.i64 e] := by
      rw [Lib.setC_eq hkl]
      congr 1
      rw [← hy]; rfl
    rw [hs]
    refine ⟨(Pu.spec_StreamJoin.ok_iff _ _ _).2 ⟨fun y hy => ?_, ?_, ?_⟩, fun y hy => ?_⟩
    · rcases List.mem_or_eq_of_mem_set hy with h1 | h1
      · exact b1 y h1
      · rw [h1]; exact ⟨hb.1, he⟩
    · rw [← List.pairwise_map] at b2 ⊢
      have : (r.set k [CV.i IntKind.i64 (cvI (r[k].getD 0 (.b false))), CV.i IntKind.i64 e]).map Pu.spec_StreamJoin.ide = r.map Pu.spec_StreamJoin.ide := by
        rw [List.map_set]
        have hkm : k < (r.map Pu.spec_StreamJoin.ide).length := by simpa using hkl
        have e2 : Pu.spec_StreamJoin.ide [CV.i IntKind.i64 (cvI (r[k].getD 0 (.b false))), CV.i IntKind.i64 e] = (r.map Pu.spec_StreamJoin.ide)[k] := by
          rw [List.getElem_map]; rfl
        rw [e2, List.set_getElem_self]
      rw [this]; exact b2
    · unfold Pu.spec_StreamOk.rest at b3 ⊢
      rw [List.length_set]; exact b3
    · rcases List.mem_or_eq_of_mem_set hy with h1 | h1
      · exact a2 y h1
      · rw [h1]; rfl
  · exact h
theorem ok (q : Row) (a s : Int) (hI : Pu.spec_l01Byte.I q a) : ∃ st t r a' s', c q a s = true ∧ v q a s = (st, t, r, q, a', s') ∧ Pu.spec_l01Byte.I q a' ∧ J st t r := by
  have key := Lib.loop_post (fun n (z : Nat × Int × Int × Int × ByteArray × Row) => l3 Lib.big (fun (_ : Int) (y10 : Row) (y11 y12 _ : Int) (_ : ByteArray) (y15 : Int) (y16 : ByteArray) (y17 : Row) => some (y15, y16, y17, y10, y11, y12)) n (z.1 : Int) q z.2.1 z.2.2.1 0 ({ data := #[] }) z.2.2.2.1 z.2.2.2.2.1 z.2.2.2.2.2) (fun z => 14 - z.1) (fun z => z.1 ≤ 14 ∧ Pu.spec_l01Byte.I q z.2.1 ∧ J z.2.2.2.1 z.2.2.2.2.1 z.2.2.2.2.2) (fun x => ∃ st t r a' s', x = (st, t, r, q, a', s') ∧ Pu.spec_l01Byte.I q a' ∧ J st t r) (fun n z hz => by
    obtain ⟨i, a, s, st, t, r⟩ := z
    obtain ⟨h1, h2, h3⟩ := hz
    dsimp only at h1 h2 h3 ⊢
    obtain ⟨n1, a1, s1, c1, v1, I1, g1, u1⟩ := Pu.spec_l01Below.ok q a s 14 h2
    have u1' := u1 (by omega)
    by_cases hi : (i : Int) < n1
    · right
      have hi1 : w64 ((i : Int) + 1) = ((i + 1 : Nat) : Int) := Lib.w64_ok (by omega) (by omega)
      have hl := h3.len
      have hcp : ∀ p, Pu.spec_StreamPut.c st t r p = true := fun p => decide_eq_true (by omega)
      have hcr : ∀ p m, Pu.spec_StreamRead.c st t r p m = true := fun p m => decide_eq_true (by omega)
      have hcl : ∀ p, Pu.spec_StreamLeave.c st t r p = true := fun p => decide_eq_true (by omega)
      have hce : ∀ p, Pu.spec_StreamEnd.c st t r p = true := fun p => decide_eq_true (by omega)
      have hcj := fun id => Pu.spec_StreamJoin.ok st t r id (by omega)
      obtain ⟨n2, a2, s2, c2, v2, I2, g2, u2⟩ := Pu.spec_l01Below.ok q a1 s1 6 I1
      have hw : ∀ x : Int, 0 ≤ x → x < 100 → w64 (1 + x) = 1 + x := fun x h1 h2 => Lib.w64_ok (by omega) (by omega)
      by_cases q0 : n2 = 0
      · obtain ⟨n3, a3, s3, c3, v3, I3, g3, u3⟩ := Pu.spec_l01Below.ok q a2 s2 6 I2
        obtain ⟨x, a4, s4, c4, v4, I4, _⟩ := Pu.spec_l01Text.ok q a3 s3 (1 + n3) I3
        refine ⟨(i + 1, a4, s4, _, _, _), ⟨by dsimp only; omega, I4, put h3 x⟩, by dsimp only; omega, ?_⟩
        simp only [l3, r3, c1, v1, c2, v2, c3, v3, hw n3 g3 (by have := u3 (by omega); omega), c4, v4, hcp, hi1, decide_eq_true hi, decide_eq_true q0, cond_true]
      by_cases q1 : n2 = 1
      · obtain ⟨n3, a3, s3, c3, v3, I3, g3, u3⟩ := Pu.spec_l01Below.ok q a2 s2 6 I2
        obtain ⟨x, a4, s4, c4, v4, I4, _⟩ := Pu.spec_l01Text.ok q a3 s3 (1 + n3) I3
        refine ⟨(i + 1, a4, s4, _, _, _), ⟨by dsimp only; omega, I4, put h3 x⟩, by dsimp only; omega, ?_⟩
        simp only [l3, r3, c1, v1, c2, v2, c3, v3, hw n3 g3 (by have := u3 (by omega); omega), c4, v4, hcp, hi1, decide_eq_true hi, decide_eq_false q0, decide_eq_true q1, cond_true, cond_false]
      by_cases q2 : n2 = 2
      · obtain ⟨n3, a3, s3, c3, v3, I3, g3, u3⟩ := Pu.spec_l01Below.ok q a2 s2 5 I2
        refine ⟨(i + 1, a3, s3, _, _, _), ⟨by dsimp only; omega, I3, join h3 (1 + n3)⟩, by dsimp only; omega, ?_⟩
        simp only [l3, r3, c1, v1, c2, v2, c3, v3, hw n3 g3 (by have := u3 (by omega); omega), (hcj _).1, (hcj _).2, hi1, decide_eq_true hi, decide_eq_false q0, decide_eq_false q1, decide_eq_true q2, cond_true, cond_false]
      by_cases q3 : n2 = 3
      · obtain ⟨n3, a3, s3, c3, v3, I3, g3, u3⟩ := Pu.spec_l01Below.ok q a2 s2 5 I2
        obtain ⟨n4, a4, s4, c4, v4, I4, g4, u4⟩ := Pu.spec_l01Below.ok q a3 s3 6 I3
        refine ⟨(i + 1, a4, s4, _, _, _), ⟨by dsimp only; omega, I4, read h3 (1 + n3) n4⟩, by dsimp only; omega, ?_⟩
        simp only [l3, r3, c1, v1, c2, v2, c3, v3, c4, v4, hw n3 g3 (by have := u3 (by omega); omega), hcr, hi1, decide_eq_true hi, decide_eq_false q0, decide_eq_false q1, decide_eq_false q2, decide_eq_true q3, cond_true, cond_false]
      by_cases q4 : n2 = 4
      · obtain ⟨n3, a3, s3, c3, v3, I3, g3, u3⟩ := Pu.spec_l01Below.ok q a2 s2 5 I2
        refine ⟨(i + 1, a3, s3, _, _, _), ⟨by dsimp only; omega, I3, leave h3 (1 + n3)⟩, by dsimp only; omega, ?_⟩
        simp only [l3, r3, c1, v1, c2, v2, c3, v3, hw n3 g3 (by have := u3 (by omega); omega), hcl, hi1, decide_eq_true hi, decide_eq_false q0, decide_eq_false q1, decide_eq_false q2, decide_eq_false q3, decide_eq_true q4, cond_true, cond_false]
      obtain ⟨x, a3, s3, c3, v3, I3⟩ := Pu.spec_l01Once.ok q a2 s2 6 I2
      cases x with
      | true =>
        obtain ⟨y, a4, s4, c4, v4, I4⟩ := Pu.spec_l01Once.ok q a3 s3 2 I3
        refine ⟨(i + 1, a4, s4, _, _, _), ⟨by dsimp only; omega, I4, fin h3 y⟩, by dsimp only; omega, ?_⟩
        simp only [l3, r3, c1, v1, c2, v2, c3, v3, c4, v4, hce, hi1, decide_eq_true hi, decide_eq_false q0, decide_eq_false q1, decide_eq_false q2, decide_eq_false q3, decide_eq_false q4, cond_true, cond_false]
      | false =>
        refine ⟨(i + 1, a3, s3, _, _, _), ⟨by dsimp only; omega, I3, h3⟩, by dsimp only; omega, ?_⟩
        simp only [l3, r3, c1, v1, c2, v2, c3, v3, hi1, decide_eq_true hi, decide_eq_false q0, decide_eq_false q1, decide_eq_false q2, decide_eq_false q3, decide_eq_false q4, cond_true, cond_false]
    · left
      exact ⟨_, by simp only [l3, r3, c1, v1, decide_eq_false hi, cond_true, cond_false], st, t, r, a1, s1, rfl, I1, h3⟩) Lib.big (0, a, s, 1, ⟨#[]⟩, []) ⟨by omega, hI, by dsimp only; exact ⟨rfl, fun y hy => by cases hy⟩⟩ (Lib.lt_big (by dsimp only; omega))
  obtain ⟨b', hb, st, t, r, a', s', rfl, hI', hJ⟩ := key
  obtain ⟨e1, e2⟩ := out q a s (x := (st, t, r, q, a', s')) hb
  exact ⟨st, t, r, a', s', e1, e2, hI', hJ⟩
end Go.FG.Pu.spec_l14Stream

namespace Go.FG.Pu.spec_l01Long
theorem ok (n x : Int) (h0 : 0 ≤ n) (h1 : n ≤ 1048576) : ∃ t, c n x = true ∧ v n x = t ∧ (t.size : Int) = n := by
  have key := Lib.loop_post (fun m (z : Nat × Row) => l3 Lib.big (fun (_ _ _ : Int) (y7 : Row) => bif (decide (List.length y7 ≤ 4611686018427387904)) then (some (bytesOf y7)) else (none)) m n x (z.1 : Int) z.2) (fun z => n.toNat - z.1) (fun z => z.1 ≤ n.toNat ∧ z.2.length = n.toNat) (fun t => (t.size : Int) = n) (fun m z hz => by
    obtain ⟨i, acc⟩ := z
    obtain ⟨h2, h3⟩ := hz
    dsimp only at h2 h3 ⊢
    by_cases h : (i : Int) < n
    · right
      have hi1 : w64 ((i : Int) + 1) = ((i + 1 : Nat) : Int) := Lib.w64_ok (by omega) (by omega)
      have hi : i < acc.length := by omega
      refine ⟨(i + 1, setC acc i 0 [CV.i IntKind.u8 x]), ⟨by dsimp only; omega, by dsimp only; rw [Lib.length_setC]; exact h3⟩, by dsimp only; omega, ?_⟩
      simp only [l3, r3, h, hi, Lib.dlt, Lib.dle0, Lib.toN, Bool.and_self, decide_true, cond_true, hi1]
    · left
      refine ⟨_, by simp only [l3, r3, h, decide_false, cond_false, decide_eq_true (show acc.length ≤ 4611686018427387904 by omega), cond_true]; rfl, ?_⟩
      rw [size_bytesOf, h3]; omega) Lib.big (0, zeros [Ck.i IntKind.u8] n.toNat) ⟨Nat.zero_le _, Lib.length_zeros _ _⟩ (Lib.lt_big (by dsimp only; omega))
  obtain ⟨t, hb, ht⟩ := key
  obtain ⟨e1, e2⟩ := out n x (x := t) (by
    unfold vo b
    rw [decide_eq_true h0, decide_eq_true rfl, Lib.roomy1 (by omega), Bool.and_self, Bool.and_self, cond_true]; exact hb)
  exact ⟨t, e1, e2, ht⟩
end Go.FG.Pu.spec_l01Long

namespace Go.FG.Pu.spec_l14Any
/-- A drawn stream, right or not. -/
def K (t : ByteArray) (r : Row) : Prop := (∀ y ∈ r, Pu.spec_StreamJoin.cr y = y) ∧ r.length ≤ 7 ∧ t.size ≤ 401
theorem ok (q : Row) (a s : Int) (hI : Pu.spec_l01Byte.I q a) : ∃ st t r a' s', c q a s = true ∧ v q a s = (st, t, r, q, a', s') ∧ Pu.spec_l01Byte.I q a' ∧ K t r := by
  obtain ⟨n1, a1, s1, c1, v1, I1, g1, u1⟩ := Pu.spec_l01Below.ok q a s 12 hI
  obtain ⟨x, a2, s2, c2, v2, I2, g2, u2⟩ := Pu.spec_l01Below.ok q a1 s1 60 I1
  obtain ⟨st, t, r, a3, s3, c3, v3, I3, hJ⟩ := Pu.spec_l14Stream.ok q a2 s2 I2
  have hl := hJ.len
  have c4 : Pu.spec_l14Copy.c st t r = true := decide_eq_true (by omega)
  have hK : K t r := ⟨hJ.2, by omega, by omega⟩
  by_cases q0 : n1 = 0
  · obtain ⟨e1, e2⟩ := out q a s (x := (Int.tmod x 5, t, r, q, a3, s3)) (by
      unfold vo b
      simp only [c1, v1, c2, v2, c3, v3, c4, decide_eq_true q0, cond_true])
    exact ⟨_, t, r, a3, s3, e1, e2, I3, hK⟩
  by_cases q1 : n1 = 1
  · obtain ⟨e1, e2⟩ := out q a s (x := (st, t, r ++ [[CV.i IntKind.i64 (Int.tmod x 11), CV.i IntKind.i64 (Int.tmod x 7)]], q, a3, s3)) (by
      unfold vo b
      simp only [c1, v1, c2, v2, c3, v3, c4, decide_eq_false q0, decide_eq_true q1, cond_true, cond_false, Lib.len_set1, List.length_singleton, Lib.roomy_of (n := r.length + 1) (b := 16) (by omega) (by omega)])
    refine ⟨st, t, _, a3, s3, e1, e2, I3, ?_, by simp; omega, by omega⟩
    intro y hy
    rcases List.mem_append.1 hy with h | h
    · exact hJ.2 y h
    · rw [List.mem_singleton.1 h]; rfl
  by_cases q2 : n1 = 2
  · have u2' := u2 (by omega)
    have ht : Int.tmod x 12 = x % 12 := Int.tmod_eq_emod_of_nonneg (by omega)
    have hw : w64 (390 + x % 12) = 390 + x % 12 := Lib.w64_ok (by omega) (by omega)
    obtain ⟨t2, c5, v5, g5⟩ := Pu.spec_l01Long.ok (390 + x % 12) 97 (by omega) (by omega)
    obtain ⟨e1, e2⟩ := out q a s (x := (st, t2, r, q, a3, s3)) (by
      unfold vo b
      simp only [c1, v1, c2, v2, c3, v3, c4, ht, hw, c5, v5, decide_eq_false q0, decide_eq_false q1, decide_eq_true q2, cond_true, cond_false])
    exact ⟨st, t2, r, a3, s3, e1, e2, I3, hJ.2, by omega, by omega⟩
  obtain ⟨e1, e2⟩ := out q a s (x := (st, t, r, q, a3, s3)) (by
    unfold vo b
    simp only [c1, v1, c2, v2, c3, v3, c4, decide_eq_false q0, decide_eq_false q1, decide_eq_false q2, cond_true, cond_false])
  exact ⟨st, t, r, a3, s3, e1, e2, I3, hK⟩
end Go.FG.Pu.spec_l14Any

namespace Go.FG.Pu.spec_l01New
theorem ok (q : Row) (hl : q.length ≤ 1048576) : ∃ h, c q = true ∧ v q = (q, 0, h) := by
  have key := Lib.loop_post (fun n (s : Nat × Int) => l3 Lib.big (fun (y3 : Row) (y4 _ : Int) => some (y3, (0 : Int), y4)) n q s.2 (s.1 : Int)) (fun s => q.length - s.1) (fun s => s.1 ≤ q.length) (fun r => ∃ h, r = (q, 0, h)) (fun n s hs => by
    obtain ⟨i, h⟩ := s
    dsimp only at hs ⊢
    by_cases hi : i < q.length
    · by_cases h4 : (i : Int) < 4000
      · right
        have hi1 : w64 ((i : Int) + 1) = ((i + 1 : Nat) : Int) := Lib.w64_ok (by omega) (by omega)
        have e : ∃ h', l3 Lib.big (fun (y3 : Row) (y4 _ : Int) => some (y3, (0 : Int), y4)) (n + 1) q h (i : Int) = l3 Lib.big (fun (y3 : Row) (y4 _ : Int) => some (y3, (0 : Int), y4)) n q h' ((i + 1 : Nat) : Int) :=
          ⟨_, by simp only [l3, r3, Lib.dlt, hi, h4, decide_true, Lib.dle0, Bool.and_self, cond_true, Lib.toN, hi1]; rfl⟩
        obtain ⟨h', e⟩ := e
        exact ⟨(i + 1, h'), hi, by dsimp only; omega, e⟩
      · left
        exact ⟨_, by simp only [l3, r3, Lib.dlt, hi, h4, decide_true, decide_false, cond_true, cond_false]; rfl, _, rfl⟩
    · left
      exact ⟨_, by simp only [l3, r3, Lib.dlt, hi, decide_false, cond_false]; rfl, _, rfl⟩) Lib.big (0, w64 (34901 + (q.length : Int))) (Nat.zero_le _) (Lib.lt_big (by omega))
  obtain ⟨b', hb, h, rfl⟩ := key
  obtain ⟨e1, e2⟩ := out q (x := (q, 0, h)) hb
  exact ⟨h, e1, e2⟩
end Go.FG.Pu.spec_l01New

namespace Go.FG.Pu.spec_l01PickInt
theorem ok (q : Row) (a s : Int) (l : Row) (hI : Pu.spec_l01Byte.I q a) (hl : 0 < l.length) : ∃ i a' s', c q a s l = true ∧ v q a s l = (cvI (cellAt l i 0), q, a', s', l) ∧ Pu.spec_l01Byte.I q a' ∧ i < l.length := by
  obtain ⟨n1, a1, s1, c1, v1, I1, g1, u1⟩ := Pu.spec_l01Below.ok q a s (l.length : Int) hI
  have hu := u1 (by omega)
  obtain ⟨e1, e2⟩ := out q a s l (x := (cvI (cellAt l n1.toNat 0), q, a1, s1, l)) (by
    unfold vo b
    simp only [c1, v1, g1, hu, decide_true, Bool.and_self, cond_true])
  exact ⟨n1.toNat, a1, s1, e1, e2, I1, by omega⟩
end Go.FG.Pu.spec_l01PickInt

namespace Go.FG.Pu.spec_DrawStreamPut
theorem ok (q : Row) (hl : q.length ≤ 1048576) : ∃ st t r p, c q = true ∧ v q = (st, t, r, p) ∧ Pu.spec_l14Any.K t r := by
  obtain ⟨h, c1, v1⟩ := Pu.spec_l01New.ok q hl
  obtain ⟨i, a2, s2, c2, v2, I2, g2⟩ := Pu.spec_l01PickInt.ok q 0 h (List.set (List.set (List.set (List.set (List.set (zeros [Ck.i IntKind.i64] 5) 0 [CV.i IntKind.i64 0]) 1 [CV.i IntKind.i64 1]) 2 [CV.i IntKind.i64 5]) 3 [CV.i IntKind.i64 40]) 4 [CV.i IntKind.i64 41]) ⟨by omega, by omega, hl⟩ (by simp [zeros])
  have hn : 0 ≤ cvI (cellAt (List.set (List.set (List.set (List.set (List.set (zeros [Ck.i IntKind.i64] 5) 0 [CV.i IntKind.i64 0]) 1 [CV.i IntKind.i64 1]) 2 [CV.i IntKind.i64 5]) 3 [CV.i IntKind.i64 40]) 4 [CV.i IntKind.i64 41]) i 0) ∧ cvI (cellAt (List.set (List.set (List.set (List.set (List.set (zeros [Ck.i IntKind.i64] 5) 0 [CV.i IntKind.i64 0]) 1 [CV.i IntKind.i64 1]) 2 [CV.i IntKind.i64 5]) 3 [CV.i IntKind.i64 40]) 4 [CV.i IntKind.i64 41]) i 0) ≤ 41 := by
    have g3 : i < 5 := by simpa [zeros] using g2
    match i, g3 with
    | 0, _ => exact ⟨by decide, by decide⟩
    | 1, _ => exact ⟨by decide, by decide⟩
    | 2, _ => exact ⟨by decide, by decide⟩
    | 3, _ => exact ⟨by decide, by decide⟩
    | 4, _ => exact ⟨by decide, by decide⟩
  obtain ⟨st, t, r, a3, s3, c3, v3, I3, hK⟩ := Pu.spec_l14Any.ok q a2 s2 I2
  obtain ⟨p, c4, v4, _⟩ := Pu.spec_l01Long.ok _ 98 hn.1 (by omega)
  obtain ⟨e1, e2⟩ := out q (x := (st, t, r, p)) (by
    unfold vo b
    simp only [c1, v1, c2, v2, c3, v3, c4, v4, cond_true])
  exact ⟨st, t, r, p, e1, e2, hK⟩
end Go.FG.Pu.spec_DrawStreamPut

namespace Go.FG.Pu.spec_DrawStreamEnd
theorem ok (q : Row) (hl : q.length ≤ 1048576) : ∃ st t r x, c q = true ∧ v q = (st, t, r, x) ∧ Pu.spec_l14Any.K t r := by
  obtain ⟨h, c1, v1⟩ := Pu.spec_l01New.ok q hl
  obtain ⟨x, a2, s2, c2, v2, I2⟩ := Pu.spec_l01Once.ok q 0 h 2 ⟨by omega, by omega, hl⟩
  obtain ⟨st, t, r, a3, s3, c3, v3, I3, hK⟩ := Pu.spec_l14Any.ok q a2 s2 I2
  obtain ⟨e1, e2⟩ := out q (x := (st, t, r, x)) (by
    unfold vo b
    simp only [c1, v1, c2, v2, c3, v3, cond_true])
  exact ⟨st, t, r, x, e1, e2, hK⟩
end Go.FG.Pu.spec_DrawStreamEnd

namespace Go.FG.Pu.spec_l01Place
theorem ok (q : Row) (a s k : Int) (hI : Pu.spec_l01Byte.I q a) : ∃ n a' s', c q a s k = true ∧ v q a s k = (n, q, a', s') ∧ Pu.spec_l01Byte.I q a' := by
  obtain ⟨x, a1, s1, c1, v1, I1⟩ := Pu.spec_l01Once.ok q a s 15 hI
  cases x with
  | true =>
    obtain ⟨i, a3, s3, c3, v3, I3, g3⟩ := Pu.spec_l01PickInt.ok q a1 s1 (List.set (List.set (List.set (List.set (List.set (zeros [Ck.i IntKind.i64] 5) 0 [CV.i IntKind.i64 (Int.neg 1)]) 1 [CV.i IntKind.i64 k]) 2 [CV.i IntKind.i64 (w64 (k + 1))]) 3 [CV.i IntKind.i64 9223372036854775807]) 4 [CV.i IntKind.i64 (Int.neg 9223372036854775808)]) I1 (by simp [zeros])
    obtain ⟨e1, e2⟩ := out q a s k (x := (_, q, a3, s3)) (by
      unfold vo b
      simp only [c1, v1, c3, v3, cond_true]; rfl)
    exact ⟨_, a3, s3, e1, e2, I3⟩
  | false =>
    obtain ⟨n, a3, s3, c3, v3, I3, _⟩ := Pu.spec_l01Below.ok q a1 s1 k I1
    obtain ⟨e1, e2⟩ := out q a s k (x := (n, q, a3, s3)) (by
      unfold vo b
      simp only [c1, v1, c3, v3, cond_true, cond_false])
    exact ⟨_, a3, s3, e1, e2, I3⟩
end Go.FG.Pu.spec_l01Place

namespace Go.FG.Pu.spec_DrawStreamJoin
theorem ok (q : Row) (hl : q.length ≤ 1048576) : ∃ st t r x, c q = true ∧ v q = (st, t, r, x) ∧ Pu.spec_l14Any.K t r := by
  obtain ⟨h, c1, v1⟩ := Pu.spec_l01New.ok q hl
  obtain ⟨x, a2, s2, c2, v2, I2⟩ := Pu.spec_l01Place.ok q 0 h 9 ⟨by omega, by omega, hl⟩
  obtain ⟨st, t, r, a3, s3, c3, v3, I3, hK⟩ := Pu.spec_l14Any.ok q a2 s2 I2
  obtain ⟨e1, e2⟩ := out q (x := (st, t, r, x)) (by
    unfold vo b
    simp only [c1, v1, c2, v2, c3, v3, cond_true])
  exact ⟨st, t, r, x, e1, e2, hK⟩
end Go.FG.Pu.spec_DrawStreamJoin

namespace Go.FG.Pu.spec_DrawStreamRead
theorem ok (q : Row) (hl : q.length ≤ 1048576) : ∃ st t r x m, c q = true ∧ v q = (st, t, r, x, m) ∧ Pu.spec_l14Any.K t r := by
  obtain ⟨h, c1, v1⟩ := Pu.spec_l01New.ok q hl
  obtain ⟨x, a2, s2, c2, v2, I2⟩ := Pu.spec_l01Place.ok q 0 h 5 ⟨by omega, by omega, hl⟩
  obtain ⟨i, a3, s3, c3, v3, I3, g3⟩ := Pu.spec_l01PickInt.ok q a2 s2 (List.set (List.set (List.set (List.set (List.set (List.set (zeros [Ck.i IntKind.i64] 6) 0 [CV.i IntKind.i64 0]) 1 [CV.i IntKind.i64 1]) 2 [CV.i IntKind.i64 3]) 3 [CV.i IntKind.i64 100]) 4 [CV.i IntKind.i64 (Int.neg 1)]) 5 [CV.i IntKind.i64 9223372036854775807]) I2 (by simp [zeros])
  obtain ⟨k, a4, s4, c4, v4, I4, g4, u4⟩ := Pu.spec_l01Below.ok q a3 s3 4 I3
  obtain ⟨st, t, r, a5, s5, c5, v5, I5, hK⟩ := Pu.spec_l14Any.ok q a4 s4 I4
  by_cases hk : k > 0
  · by_cases hr : (r.length : Int) > 0
    · have hm : Int.tmod k (r.length : Int) = k % (r.length : Int) := Int.tmod_eq_emod_of_nonneg (by omega)
      have h0 : 0 ≤ k % (r.length : Int) := Int.emod_nonneg _ (by omega)
      have h1 : k % (r.length : Int) < (r.length : Int) := Int.emod_lt_of_pos _ (by omega)
      have hne : decide ((r.length : Int) = 0) = false := decide_eq_false (by omega)
      obtain ⟨e1, e2⟩ := out q (x := (st, t, r, _, _)) (by
        unfold vo b
        simp only [c1, v1, c2, v2, c3, v3, c4, v4, c5, v5, hm, hne, decide_eq_true hk, decide_eq_true hr, decide_eq_true h0, decide_eq_true h1, Bool.and_self, Bool.not_false, cond_true]; rfl)
      exact ⟨st, t, r, _, _, e1, e2, hK⟩
    · obtain ⟨e1, e2⟩ := out q (x := (st, t, r, x, _)) (by
        unfold vo b
        simp only [c1, v1, c2, v2, c3, v3, c4, v4, c5, v5, decide_eq_true hk, decide_eq_false hr, cond_true, cond_false]; rfl)
      exact ⟨st, t, r, _, _, e1, e2, hK⟩
  · obtain ⟨e1, e2⟩ := out q (x := (st, t, r, x, _)) (by
      unfold vo b
      simp only [c1, v1, c2, v2, c3, v3, c4, v4, c5, v5, decide_eq_false hk, cond_true, cond_false]; rfl)
    exact ⟨st, t, r, _, _, e1, e2, hK⟩
end Go.FG.Pu.spec_DrawStreamRead

namespace Go.FG.Pu.laws_sameStream
theorem ok (s : Int) (t : ByteArray) (r : Row) (hl : r.length ≤ 4294967296) : c s t r s t r = true ∧ v s t r s t r = true := by
  refine out _ _ _ _ _ _ ?_
  unfold vo b
  rw [bne_self_eq_false, cond_false, Lib.beq_self, Bool.not_true, cond_false, bne_self_eq_false, cond_false]
  exact Lib.loop_gen (fun n (i : Nat) => l4 Lib.big (fun (y8 : Bool) (_ _ : Int) (_ : ByteArray) (_ : Row) (_ : Int) (_ : ByteArray) (_ : Row) => some y8) (fun (_ : Bool) (_ _ : Int) (_ : ByteArray) (_ : Row) (_ : Int) (_ : ByteArray) (_ : Row) => some true) n false (i : Int) s t r s t r) (fun i => r.length - i) (fun i => i ≤ r.length) (fun _ => some true) (fun n i hi => by
    by_cases h : i < r.length
    · right
      refine ⟨i + 1, h, by omega, rfl, ?_⟩
      simp only [l4, r4, Lib.dlt, h, decide_true, Lib.dle0, Bool.and_self, cond_true, Lib.toN, Lib.w64_s h (by omega : r.length ≤ 9223372036854775807), Bool.not_true, cond_false]
    · left
      simp only [l4, r4, Lib.dlt, h, decide_false, cond_false]) Lib.big 0 (Nat.zero_le _) (Lib.lt_big (by omega))
end Go.FG.Pu.laws_sameStream

namespace Go.FG.Pu.laws_FnStreamsTold
theorem putv (st : Int) (t : ByteArray) (r : Row) (p : ByteArray) (hl : r.length ≤ 7) : ∃ s' t' r' o, Pu.spec_StreamPut.v st t r p = (s', t', r', o) ∧ Pu.impl_StreamPut.v st t r p = (s', t', r', o) ∧ r'.length ≤ 8 ∧ (o = false → s' = st ∧ t' = t ∧ r' = r) := by
  have e : Pu.impl_StreamPut.v st t r p = Pu.spec_StreamPut.v st t r p := rfl
  rw [e]
  unfold Pu.spec_StreamPut.v
  split
  · exact ⟨_, _, _, _, rfl, rfl, by omega, fun h => by cases h⟩
  · exact ⟨_, _, _, _, rfl, rfl, by omega, fun _ => ⟨rfl, rfl, rfl⟩⟩
theorem endv (st : Int) (t : ByteArray) (r : Row) (b : Bool) (hl : r.length ≤ 7) : ∃ s' t' r' o, Pu.spec_StreamEnd.v st t r b = (s', t', r', o) ∧ Pu.impl_StreamEnd.v st t r b = (s', t', r', o) ∧ r'.length ≤ 8 := by
  have e : Pu.impl_StreamEnd.v st t r b = Pu.spec_StreamEnd.v st t r b := rfl
  rw [e]
  unfold Pu.spec_StreamEnd.v
  split
  · exact ⟨_, _, _, _, rfl, rfl, by omega⟩
  · exact ⟨_, _, _, _, rfl, rfl, by omega⟩
theorem readv (st : Int) (t : ByteArray) (r : Row) (id m : Int) (hl : r.length ≤ 7) : ∃ s' t' r' x o, Pu.spec_StreamRead.v st t r id m = (s', t', r', x, o) ∧ Pu.impl_StreamRead.v st t r id m = (s', t', r', x, o) ∧ r'.length ≤ 8 := by
  have e : Pu.impl_StreamRead.v st t r id m = Pu.spec_StreamRead.v st t r id m := rfl
  rw [e]
  unfold Pu.spec_StreamRead.v
  split
  · exact ⟨_, _, _, _, _, rfl, rfl, by rw [Lib.length_setC]; omega⟩
  · exact ⟨_, _, _, _, _, rfl, rfl, by omega⟩
theorem joinv (st : Int) (t : ByteArray) (r : Row) (id : Int) (hl : r.length ≤ 7) (hc : ∀ y ∈ r, Pu.spec_StreamJoin.cr y = y) : ∃ s' t' r' o, Pu.spec_StreamJoin.v st t r id = (s', t', r', o) ∧ Pu.impl_StreamJoin.v st t r id = (s', t', r', o) ∧ r'.length ≤ 8 := by
  rw [(Pu.spec_StreamJoin.ok st t r id (by omega)).2, (Pu.impl_StreamJoin.ok st t r id (by omega)).2, Pu.impl_StreamJoin.same st t r id hc]
  have := (Pu.impl_StreamJoin.val_sh st t r id (fun y hy => by rw [← hc y hy]; rfl)).2
  rw [Pu.impl_StreamJoin.same st t r id hc] at this
  generalize Pu.spec_StreamJoin.val st t r id = w at this
  obtain ⟨w1, w2, w3, w4⟩ := w
  exact ⟨w1, w2, w3, w4, rfl, rfl, by dsimp only at this; omega⟩
theorem leavev (r : Row) (id : Int) (hl : r.length ≤ 7) (hc : ∀ y ∈ r, Pu.spec_StreamJoin.cr y = y) : ∃ r', Pu.spec_StreamLeave.f id r = r' ∧ Pu.slices_DeleteFunc_Reader.v r id = r' ∧ r'.length ≤ 8 := by
  have hf := List.length_filter_le (Pu.slices_DeleteFunc_Reader.keep id) r
  refine ⟨r.filter (Pu.slices_DeleteFunc_Reader.keep id), ?_, rfl, by omega⟩
  unfold Pu.spec_StreamLeave.f
  have := List.map_congr_left (l := r.filter (Pu.slices_DeleteFunc_Reader.keep id)) (f := Pu.slices_DeleteFunc_Reader.cr) (g := fun z => z) (fun y hy => hc y (List.mem_filter.1 hy).1)
  rw [this]; exact List.map_id _
theorem run (q : Row) : vo q = some true := by
  unfold vo b
  by_cases hb : (q.length : Int) > 1048576
  · rw [show Pu.laws_big.v q = true from decide_eq_true hb]; rfl
  · rw [show Pu.laws_big.v q = false from decide_eq_false hb, cond_false]
    obtain ⟨st1, t1, r1, p, c1, v1, k1, l1, _⟩ := Pu.spec_DrawStreamPut.ok q (by omega)
    obtain ⟨st2, t2, r2, x2, c2, v2, k2, l2, _⟩ := Pu.spec_DrawStreamEnd.ok q (by omega)
    obtain ⟨st3, t3, r3, x3, c3, v3, k3, l3, _⟩ := Pu.spec_DrawStreamJoin.ok q (by omega)
    obtain ⟨st4, t4, r4, x4, m4, c4, v4, k4, l4, _⟩ := Pu.spec_DrawStreamRead.ok q (by omega)
    obtain ⟨a1, b1, d1, o1, e1, f1, g1, h1⟩ := putv st1 t1 r1 p l1
    obtain ⟨a2, b2, d2, o2, e2, f2, g2⟩ := endv st2 t2 r2 x2 l2
    obtain ⟨a3, b3, d3, o3, e3, f3, g3⟩ := joinv st3 t3 r3 x3 l3 k3
    obtain ⟨a4, b4, d4, y4, o4, e4, f4, g4⟩ := readv st4 t4 r4 x4 m4 l4
    obtain ⟨d5, e5, f5, g5⟩ := leavev r3 x3 l3 k3
    have i1 : Pu.impl_StreamPut.c st1 t1 r1 p = true := decide_eq_true (by omega)
    have j1 : Pu.spec_StreamPut.c st1 t1 r1 p = true := decide_eq_true (by omega)
    have i2 : Pu.impl_StreamEnd.c st2 t2 r2 x2 = true := decide_eq_true (by omega)
    have j2 : Pu.spec_StreamEnd.c st2 t2 r2 x2 = true := decide_eq_true (by omega)
    have i3 := (Pu.impl_StreamJoin.ok st3 t3 r3 x3 (by omega)).1
    have j3 := (Pu.spec_StreamJoin.ok st3 t3 r3 x3 (by omega)).1
    have i4 : Pu.impl_StreamRead.c st4 t4 r4 x4 m4 = true := decide_eq_true (by omega)
    have j4 : Pu.spec_StreamRead.c st4 t4 r4 x4 m4 = true := decide_eq_true (by omega)
    have i5 : Pu.impl_StreamLeave.c st3 t3 r3 x3 = true := by
      unfold Pu.impl_StreamLeave.c Pu.slices_DeleteFunc_Reader.c
      rw [show Pu.impl_copyStream.c st3 t3 r3 = true from decide_eq_true (by omega), Bool.true_and, List.all_eq_true]
      intro y hy
      rw [← k3 y hy]; rfl
    have j5 : Pu.spec_StreamLeave.c st3 t3 r3 x3 = true := decide_eq_true (by omega)
    have w1 := Pu.laws_sameStream.ok a1 b1 d1 (by omega)
    have w2 := Pu.laws_sameStream.ok a2 b2 d2 (by omega)
    have w3 := Pu.laws_sameStream.ok a3 b3 d3 (by omega)
    have w4 := Pu.laws_sameStream.ok a4 b4 d4 (by omega)
    have w5 := Pu.laws_sameStream.ok st3 t3 d5 (by omega)
    have u1 : ∀ a b c, Pu.impl_StreamOk.v a b c = Pu.spec_StreamOk.v a b c := fun _ _ _ => rfl
    have u2 : Pu.spec_StreamOk.v 1 { data := #[] } [] = true := rfl
    have u3 : Pu.spec_StreamLeave.v st3 t3 r3 x3 = (st3, t3, d5) := by unfold Pu.spec_StreamLeave.v; rw [e5]
    have u4 : Pu.impl_StreamLeave.v st3 t3 r3 x3 = (st3, t3, d5) := by unfold Pu.impl_StreamLeave.v; rw [f5]
    cases o1 with
    | true =>
      simp only [c1, v1, c2, v2, c3, v3, c4, v4, e1, f1, e2, f2, e3, f3, e4, f4, e5, f5, i1, j1, i2, j2, i3, j3, i4, j4, i5, j5, w1.1, w1.2, w2.1, w2.2, w3.1, w3.2, w4.1, w4.2, w5.1, w5.2, u1, u2, u3, u4, Lib.beq_self, cond_true, cond_false, Bool.not_true, Bool.not_false, decide_true]
    | false =>
      obtain ⟨rfl, rfl, rfl⟩ := h1 rfl
      simp only [c1, v1, c2, v2, c3, v3, c4, v4, e1, f1, e2, f2, e3, f3, e4, f4, e5, f5, i1, j1, i2, j2, i3, j3, i4, j4, i5, j5, w1.1, w1.2, w2.1, w2.2, w3.1, w3.2, w4.1, w4.2, w5.1, w5.2, u1, u2, u3, u4, Lib.beq_self, cond_true, cond_false, Bool.not_true, Bool.not_false, decide_true]
theorem law (q : Row) {A : Prop} (_ : A) : v q = true := (out q (run q)).2
theorem lawc (q : Row) {A : Prop} (_ : A) : c q = true := (out q (run q)).1
end Go.FG.Pu.laws_FnStreamsTold

