/- What the functions come to, in plain numbers, texts and lists; last the law itself. No condition but those that each states. -/
import Derived.Test.YticmocblmmahkaaPExactStreamJoin
set_option linter.unusedVariables false
set_option linter.unusedSimpArgs false
set_option maxRecDepth 100000
namespace Go.FG.Pu.spec_StreamJoin
def ide (y : List CV) : Int := cvI (y.getD 0 (.b false))
def cr (y : List CV) : List CV := [CV.i IntKind.i64 (cvI (y.getD 0 (.b false))), CV.i IntKind.i64 (cvI (y.getD 1 (.b false)))]
def nw (id : Int) : List CV := [CV.i IntKind.i64 id, CV.i IntKind.i64 0]
def joined (r : Row) (id : Int) : Row := (r.filter (fun y => decide (ide y < id))).map cr ++ [nw id] ++ (r.filter (fun y => decide (ide y > id))).map cr
def val (st : Int) (t : ByteArray) (r : Row) (id : Int) : Int × ByteArray × Row × Bool :=
  bif !Pu.spec_StreamOk.v st t r then (st, t, r, false) else bif decide (Pu.spec_l14At.v st t r id ≥ 0) then (st, t, r, false) else bif !Pu.spec_StreamOk.v st t (joined r id) then (st, t, r, false) else (st, t, joined r id, true)
theorem ok (st : Int) (t : ByteArray) (r : Row) (id : Int) (hl : r.length ≤ 1048576) : c st t r id = true ∧ v st t r id = val st t r id := by
  refine out st t r id ?_
  unfold vo b
  rw [show Pu.spec_l14Copy.c st t r = true from decide_eq_true (by omega), cond_true]
  have hn : (List.set (zeros [Ck.i IntKind.i64, Ck.i IntKind.i64] 1) 0 [CV.i IntKind.i64 id, CV.i IntKind.i64 0]) = [nw id] := rfl
  rw [show zeros [Ck.i IntKind.i64, Ck.i IntKind.i64] 0 = [] from rfl]
  have hw : ∀ i, i < r.length → w64 ((i : Int) + 1) = ((i + 1 : Nat) : Int) := fun i h => Lib.w64_s h (by omega)
  have key := fun (acc0 : Row) (ha : acc0.length ≤ 2000000) => Lib.filt_run (fun y => decide (ide y > id)) cr r 2000000
    (fun m (i : Nat) (acc : Row) => l10 Lib.big (fun y33 y34 y35 y36 y37 y38 y39 y40 y41 y42 y43 => bif (!Pu.spec_StreamOk.v y35 y36 y37) then (some (y40, y41, y43, false)) else (bif (decide (Pu.spec_l14At.v y35 y36 y37 y33 ≥ 0)) then (some (y40, y41, y43, false)) else (bif (!Pu.spec_StreamOk.v y35 y36 y42) then (some (y40, y41, y43, false)) else (some (y35, y36, y42, true))))) m id i st t r 0 ({ data := #[] }) st t acc r)
    (fun acc => bif (!Pu.spec_StreamOk.v st t r) then (some (st, t, r, false)) else (bif (decide (Pu.spec_l14At.v st t r id ≥ 0)) then (some (st, t, r, false)) else (bif (!Pu.spec_StreamOk.v st t acc) then (some (st, t, r, false)) else (some (st, t, acc, true)))))
    (fun m i acc h h2 hp => by
      have hp' : decide (cvI (r[i].getD 0 (.b false)) > id) = true := hp
      simp only [l10, r10, Lib.dlt, h, decide_true, Lib.dle0, Bool.and_self, cond_true, Lib.toN, hp', Lib.cellAt_of h, hw i h, Lib.len_set1, List.length_singleton, Lib.roomy_of (n := acc.length + 1) (b := 16) (by omega) (by omega)]
      rfl)
    (fun m i acc h h2 hp => by
      have hp' : decide (cvI (cellAt r i 0) > id) = false := by rw [Lib.cellAt_of h]; exact hp
      simp only [l10, r10, Lib.dlt, h, decide_true, Lib.dle0, Bool.and_self, cond_true, Lib.toN, hp', cond_false, hw i h])
    (fun m acc => by simp only [l10, r10, Lib.dlt, Nat.lt_irrefl, decide_false, cond_false]) Lib.big acc0 ha (Lib.lt_big (by omega))
  have key2 := Lib.filt_run (fun y => decide (ide y < id)) cr r 0
    (fun m (i : Nat) (acc : Row) => l4 Lib.big (fun y11 y12 y13 y14 y15 y16 y17 y18 y19 y20 y21 => bif (roomy (List.length y20 + List.length (List.set (zeros [Ck.i IntKind.i64, Ck.i IntKind.i64] 1) 0 [CV.i IntKind.i64 y11, CV.i IntKind.i64 0])) 16) then (l10 Lib.big (fun y33 y34 y35 y36 y37 y38 y39 y40 y41 y42 y43 => bif (!Pu.spec_StreamOk.v y35 y36 y37) then (some (y40, y41, y43, false)) else (bif (decide (Pu.spec_l14At.v y35 y36 y37 y33 ≥ 0)) then (some (y40, y41, y43, false)) else (bif (!Pu.spec_StreamOk.v y35 y36 y42) then (some (y40, y41, y43, false)) else (some (y35, y36, y42, true))))) Lib.big y11 0 y13 y14 y15 y16 y17 y18 y19 (y20 ++ List.set (zeros [Ck.i IntKind.i64, Ck.i IntKind.i64] 1) 0 [CV.i IntKind.i64 y11, CV.i IntKind.i64 0]) y21) else (none)) m id i st t r 0 ({ data := #[] }) st t acc r)
    (fun acc => bif (roomy (List.length acc + 1) 16) then (l10 Lib.big (fun y33 y34 y35 y36 y37 y38 y39 y40 y41 y42 y43 => bif (!Pu.spec_StreamOk.v y35 y36 y37) then (some (y40, y41, y43, false)) else (bif (decide (Pu.spec_l14At.v y35 y36 y37 y33 ≥ 0)) then (some (y40, y41, y43, false)) else (bif (!Pu.spec_StreamOk.v y35 y36 y42) then (some (y40, y41, y43, false)) else (some (y35, y36, y42, true))))) Lib.big id 0 st t r 0 ({ data := #[] }) st t (acc ++ [nw id]) r) else none)
    (fun m i acc h h2 hp => by
      have hp' : decide (cvI (r[i].getD 0 (.b false)) < id) = true := hp
      simp only [l4, r4, Lib.dlt, h, decide_true, Lib.dle0, Bool.and_self, cond_true, Lib.toN, hp', Lib.cellAt_of h, hw i h, Lib.len_set1, List.length_singleton, Lib.roomy_of (n := acc.length + 1) (b := 16) (by omega) (by omega)]
      rfl)
    (fun m i acc h h2 hp => by
      have hp' : decide (cvI (cellAt r i 0) < id) = false := by rw [Lib.cellAt_of h]; exact hp
      simp only [l4, r4, Lib.dlt, h, decide_true, Lib.dle0, Bool.and_self, cond_true, Lib.toN, hp', cond_false, hw i h])
    (fun m acc => by simp only [l4, r4, Lib.dlt, Nat.lt_irrefl, decide_false, cond_false]; rfl) Lib.big [] (Nat.le_refl _) (Lib.lt_big (by omega))
  refine key2.trans ?_
  have hf : ((r.filter (fun y => decide (ide y < id))).map cr).length ≤ r.length := by rw [List.length_map]; exact List.length_filter_le _ _
  rw [List.nil_append, Lib.roomy_of (by omega) (by omega), cond_true]
  refine (key _ (by rw [List.length_append, List.length_singleton]; omega)).trans ?_
  unfold val joined
  cases Pu.spec_StreamOk.v st t r
  · rfl
  · cases decide (Pu.spec_l14At.v st t r id ≥ 0)
    · simp only [Bool.not_true, cond_false]
      cases Pu.spec_StreamOk.v st t _ <;> rfl
    · rfl
end Go.FG.Pu.spec_StreamJoin

namespace Go.FG.Pu.impl_StreamJoin
def ins (r : Row) (id : Int) : Row := r.takeWhile (fun y => decide (Pu.spec_StreamJoin.ide y < id)) ++ [Pu.spec_StreamJoin.nw id] ++ r.dropWhile (fun y => decide (Pu.spec_StreamJoin.ide y < id))
def val (st : Int) (t : ByteArray) (r : Row) (id : Int) : Int × ByteArray × Row × Bool :=
  bif !Pu.spec_StreamOk.v st t (ins r id) then (st, t, r, false) else bif decide (Pu.spec_l14At.v st t r id ≥ 0) then (st, t, r, false) else (st, t, ins r id, true)
theorem ok (st : Int) (t : ByteArray) (r : Row) (id : Int) (hl : r.length ≤ 1048576) : c st t r id = true ∧ v st t r id = val st t r id := by
  refine out st t r id ?_
  unfold vo b
  have hw : ∀ i, i < r.length → w64 ((i : Int) + 1) = ((i + 1 : Nat) : Int) := fun i h => Lib.w64_s h (by omega)
  have hcc : Pu.impl_copyStream.c st t r = true := decide_eq_true (by omega)
  have e1 : ∀ a b c, Pu.impl_StreamOk.v a b c = Pu.spec_StreamOk.v a b c := fun _ _ _ => rfl
  have e2 : ∀ a b c d, Pu.impl_readerAt.v a b c d = Pu.spec_l14At.v a b c d := fun _ _ _ _ => rfl
  have := Lib.stop_run (fun y => decide (Pu.spec_StreamJoin.ide y < id)) r (fun m (i : Nat) => l2 Lib.big (fun y7 y8 y9 y10 y11 y12 y13 => bif (Pu.impl_copyStream.c y9 y10 y11) then (bif (decide (0 ≤ y8) && decide (y8 ≤ (↑(List.length y11) : Int)) && roomy (List.length y11 + List.length (List.set (zeros [Ck.i IntKind.i64, Ck.i IntKind.i64] 1) 0 [CV.i IntKind.i64 y7, CV.i IntKind.i64 0])) 16) then (bif (!Pu.impl_StreamOk.v y9 y10 (Pu.insR y11 (Int.toNat y8) (List.set (zeros [Ck.i IntKind.i64, Ck.i IntKind.i64] 1) 0 [CV.i IntKind.i64 y7, CV.i IntKind.i64 0]))) then (bif (Pu.impl_copyStream.c y9 y10 y11) then (some (y9, y10, y11, false)) else (none)) else (bif (decide (Pu.impl_readerAt.v y9 y10 y11 y7 ≥ 0)) then (bif (Pu.impl_copyStream.c y9 y10 y11) then (some (y9, y10, y11, false)) else (none)) else (some (y9, y10, (Pu.insR y11 (Int.toNat y8) (List.set (zeros [Ck.i IntKind.i64, Ck.i IntKind.i64] 1) 0 [CV.i IntKind.i64 y7, CV.i IntKind.i64 0])), true)))) else (none)) else (none)) m id i st t r 0 ({ data := #[] }))
    (fun a => bif (decide ((a : Int) ≤ (↑(List.length r) : Int))) then (bif (!Pu.spec_StreamOk.v st t (Pu.insR r a [Pu.spec_StreamJoin.nw id])) then (some (st, t, r, false)) else (bif (decide (Pu.spec_l14At.v st t r id ≥ 0)) then (some (st, t, r, false)) else (some (st, t, Pu.insR r a [Pu.spec_StreamJoin.nw id], true)))) else none)
    (fun m i h hp => by
      have hp' : decide (cvI (cellAt r i 0) < id) = true := by rw [Lib.cellAt_of h]; exact hp
      simp only [l2, r2, Lib.dlt, h, decide_true, Lib.dle0, Bool.and_self, cond_true, Lib.toN, hp', hw i h])
    (fun m i h hp => by
      have hp' : decide (cvI (cellAt r i 0) < id) = false := by rw [Lib.cellAt_of h]; exact hp
      simp only [l2, r2, Lib.dlt, h, decide_true, Lib.dle0, Bool.and_self, Bool.true_and, Bool.and_true, cond_true, cond_false, Lib.toN, hp', hcc, e1, e2, Lib.len_set1, List.length_singleton, Lib.roomy_of (n := r.length + 1) (b := 16) (by omega) (by omega)]
      rfl)
    (fun m => by
      simp only [l2, r2, Lib.dlt, Nat.lt_irrefl, decide_false, decide_true, Lib.dle0, Bool.and_self, Bool.true_and, Bool.and_true, cond_true, cond_false, Lib.toN, hcc, e1, e2, Lib.len_set1, List.length_singleton, Lib.roomy_of (n := r.length + 1) (b := 16) (by omega) (by omega)]
      rfl) Lib.big (Lib.lt_big (by omega))
  refine this.trans ?_
  have hle := Lib.tw_le (fun y => decide (Pu.spec_StreamJoin.ide y < id)) r
  rw [decide_eq_true (by omega), cond_true]
  unfold Pu.insR val ins
  rw [Lib.take_tw, Lib.drop_tw]
  cases Pu.spec_StreamOk.v st t _
  · rfl
  · simp only [Bool.not_true, cond_false]
    cases decide (Pu.spec_l14At.v st t r id ≥ 0) <;> rfl
theorem ok_iff (st : Int) (t : ByteArray) (r : Row) : Pu.spec_StreamOk.v st t r = true ↔ (∀ y ∈ r, (1 ≤ cvI (y.getD 0 (.b false)) ∧ cvI (y.getD 0 (.b false)) ≤ 9) ∧ (0 ≤ cvI (y.getD 1 (.b false)) ∧ cvI (y.getD 1 (.b false)) ≤ t.size)) ∧ r.Pairwise (fun y z => Pu.spec_StreamJoin.ide y < Pu.spec_StreamJoin.ide z) ∧ Pu.spec_StreamOk.rest st t r = true := by
  unfold Pu.spec_StreamOk.v
  rw [Bool.and_eq_true, List.all_eq_true]
  have hel : ∀ i (h : i < r.length), Pu.spec_StreamOk.el t r i = true ↔ ((1 ≤ cvI (r[i].getD 0 (.b false)) ∧ cvI (r[i].getD 0 (.b false)) ≤ 9) ∧ (0 ≤ cvI (r[i].getD 1 (.b false)) ∧ cvI (r[i].getD 1 (.b false)) ≤ t.size)) ∧ (i = 0 ∨ cvI (cellAt r (i - 1) 0) < cvI (cellAt r i 0)) := by
    intro i h
    unfold Pu.spec_StreamOk.el
    rw [Lib.cellAt_of h, Lib.cellAt_of h]
    simp [and_assoc]
  constructor
  · intro ⟨h1, h2⟩
    have h1' : ∀ i (h : i < r.length), _ := fun i h => (hel i h).1 (h1 i (by simpa using h))
    refine ⟨fun y hy => ?_, ?_, h2⟩
    · obtain ⟨i, hi, rfl⟩ := List.mem_iff_getElem.1 hy
      exact (h1' i hi).1
    · rw [List.pairwise_iff_getElem]
      have key : ∀ d i (hi : i < r.length) (hj : i + d + 1 < r.length), cvI (cellAt r i 0) < cvI (cellAt r (i + d + 1) 0) := by
        intro d
        induction d with
        | zero =>
          intro i hi hj
          rcases (h1' (i + 1) hj).2 with h | h
          · omega
          · exact h
        | succ d ih =>
          intro i hi hj
          have := ih i hi (by omega)
          rcases (h1' (i + d + 1 + 1) (by omega)).2 with h | h
          · omega
          · have e : i + d + 1 + 1 - 1 = i + d + 1 := by omega
            rw [e] at h
            rw [show i + (d + 1) + 1 = i + d + 1 + 1 by omega]; omega
      intro i j hi hj hij
      have := key (j - i - 1) i hi (by omega)
      have e : i + (j - i - 1) + 1 = j := by omega
      rw [e, Lib.cellAt_of hi, Lib.cellAt_of hj] at this
      exact this
  · intro ⟨h1, h2, h3⟩
    refine ⟨fun i hi => ?_, h3⟩
    have hi' : i < r.length := by simpa using hi
    rw [hel i hi']
    refine ⟨h1 _ (List.getElem_mem hi'), ?_⟩
    by_cases h0 : i = 0
    · exact .inl h0
    · right
      rw [List.pairwise_iff_getElem] at h2
      have := h2 (i - 1) i (by omega) hi' (by omega)
      rw [Lib.cellAt_of hi', Lib.cellAt_of (show i - 1 < r.length by omega)]
      exact this
theorem at_no {st : Int} {t : ByteArray} {r : Row} {id : Int} (h : ¬ Pu.spec_l14At.v st t r id ≥ 0) : ∀ y ∈ r, Pu.spec_StreamJoin.ide y ≠ id := by
  intro y hy
  obtain ⟨i, hi, rfl⟩ := List.mem_iff_getElem.1 hy
  unfold Pu.spec_l14At.v at h
  rcases Lib.fi_rng (fun i => decide (cvI (cellAt r i 0) = id)) r.length 0 with ⟨h1, h2⟩ | ⟨k, h1, h2, h3, h4, h5⟩
  · have := h2 i (Nat.zero_le _) (by omega)
    rw [Lib.cellAt_of hi] at this
    exact of_decide_eq_false this
  · rw [h3] at h; omega
theorem same (st : Int) (t : ByteArray) (r : Row) (id : Int) (hr : ∀ y ∈ r, Pu.spec_StreamJoin.cr y = y) : val st t r id = Pu.spec_StreamJoin.val st t r id := by
  unfold val Pu.spec_StreamJoin.val
  by_cases ha : Pu.spec_l14At.v st t r id ≥ 0
  · rw [decide_eq_true ha]
    cases Pu.spec_StreamOk.v st t r <;> cases Pu.spec_StreamOk.v st t (ins r id) <;> rfl
  · rw [decide_eq_false ha]
    have hn := at_no ha
    by_cases ho : Pu.spec_StreamOk.v st t r = true
    · have hs := Lib.tw_sorted Pu.spec_StreamJoin.ide id r ((ok_iff st t r).1 ho).2.1 hn
      have ec : ∀ q : List CV → Bool, (r.filter q).map Pu.spec_StreamJoin.cr = r.filter q := fun q => by
        have := List.map_congr_left (l := r.filter q) (f := Pu.spec_StreamJoin.cr) (g := fun z => z) (fun y hy => hr y (List.mem_filter.1 hy).1)
        rw [this]
        exact List.map_id _
      have e : ins r id = Pu.spec_StreamJoin.joined r id := by
        unfold ins Pu.spec_StreamJoin.joined
        rw [hs.1, hs.2, ec, ec]
      rw [ho, e]; rfl
    · have ho' : Pu.spec_StreamOk.v st t r = false := by simpa using ho
      have hb : Pu.spec_StreamOk.v st t (ins r id) = false := by
        cases hi : Pu.spec_StreamOk.v st t (ins r id) with
        | false => rfl
        | true =>
          exfalso
          apply ho
          rw [ok_iff] at hi ⊢
          obtain ⟨i1, i2, i3⟩ := hi
          have er : r = r.takeWhile (fun y => decide (Pu.spec_StreamJoin.ide y < id)) ++ r.dropWhile (fun y => decide (Pu.spec_StreamJoin.ide y < id)) := (List.takeWhile_append_dropWhile).symm
          have hsub : r.Sublist (ins r id) := by
            conv => lhs; rw [er]
            unfold ins
            rw [List.append_assoc]
            exact List.Sublist.append (List.Sublist.refl _) (List.sublist_append_right _ _)
          refine ⟨fun y hy => i1 y (hsub.subset hy), i2.sublist hsub, ?_⟩
          have hlen := hsub.length_le
          unfold Pu.spec_StreamOk.rest at i3 ⊢
          simp only [Bool.and_eq_true, decide_eq_true_eq] at i3 ⊢
          exact ⟨i3.1, i3.2.1, by omega⟩
      rw [ho', hb]; rfl
theorem val_sh (st : Int) (t : ByteArray) (r : Row) (id : Int) (hr : ∀ y ∈ r, y.length = 2) : (∀ y ∈ (val st t r id).2.2.1, y.length = 2) ∧ (val st t r id).2.2.1.length ≤ r.length + 1 := by
  have hi : (∀ y ∈ ins r id, y.length = 2) ∧ (ins r id).length = r.length + 1 := by
    have er := List.takeWhile_append_dropWhile (p := fun y => decide (Pu.spec_StreamJoin.ide y < id)) (l := r)
    constructor
    · intro y hy
      unfold ins at hy
      simp only [List.mem_append, List.mem_singleton] at hy
      rcases hy with (h | h) | h
      · exact hr y (by rw [← er]; exact List.mem_append_left _ h)
      · rw [h]; rfl
      · exact hr y (by rw [← er]; exact List.mem_append_right _ h)
    · have := congrArg List.length er
      unfold ins
      simp only [List.length_append, List.length_singleton] at this ⊢
      omega
  unfold val
  cases Pu.spec_StreamOk.v st t (ins r id)
  · exact ⟨hr, by simp⟩
  · cases decide (Pu.spec_l14At.v st t r id ≥ 0)
    · exact ⟨hi.1, by simp [hi.2]⟩
    · exact ⟨hr, by simp⟩
end Go.FG.Pu.impl_StreamJoin

namespace Go.FG.Pu.laws_FnExactStreamJoin
theorem run (a : Int) (t : ByteArray) (r0 : Row) (id : Int) (f0 : okS t) (f1 : FitR r0) : vo a t r0 id = some true := by
  unfold vo b
  cases h : decide (Pu.laws_szStream.v a t r0 1048576 < 0) with
  | true => rfl
  | false =>
    have hs := Pu.laws_szStream.fits (by omega) (by omega) f0 f1 h
    have hc : Pu.laws_toStream.c a t r0 = true := decide_eq_true hs.2
    have hl := Pu.laws_heldStream.toLen r0
    have hcr : ∀ y ∈ Pu.laws_toReaderS.v r0, Pu.spec_StreamJoin.cr y = y := by
      intro y hy
      unfold Pu.laws_toReaderS.v at hy
      obtain ⟨z, _, rfl⟩ := List.mem_map.1 hy; rfl
    have h2 := Pu.laws_heldStream.to2 r0
    generalize Pu.laws_toReaderS.v r0 = r at hl hcr h2 ⊢
    have k1 := Pu.spec_StreamJoin.ok a t r id (by omega)
    have k2 := Pu.impl_StreamJoin.ok a t r id (by omega)
    rw [← Pu.impl_StreamJoin.same a t r id hcr] at k1
    obtain ⟨r1, r2⟩ := Pu.impl_StreamJoin.val_sh a t r id h2
    have hm := fun a t => Pu.laws_heldStream.marked (a := a) (t := t) r1 (by omega)
    have hu := Pu.laws_heldStream.up1 (r := (Pu.impl_StreamJoin.val a t r id).2.2.1) (by omega)
    have hu2 := Pu.laws_heldStream.up1 (r := r) (by omega)
    have hn : decide (1 + 2 * ((Pu.impl_StreamJoin.val a t r id).2.2.1.length : Int) < 0) = false := decide_eq_false (by omega)
    have hn2 : decide (1 + 2 * (r.length : Int) < 0) = false := decide_eq_false (by omega)
    simp only [hc, k1.1, k1.2, k2.1, k2.2, hm, hu, hu2, hn, hn2, bne_self_eq_false, cond_true, cond_false, Pu.laws_eqStream.refl, decide_true, Bool.not_true]
theorem law (a : Int) (t : ByteArray) (r0 : Row) (id : Int) {A B : Prop} (_ : A) (f0 : t.size ≤ 140737488351232) (f1 : FitR r0) (_ : B) : v a t r0 id = true := (out a t r0 id (run a t r0 id (Nat.le_trans f0 (by omega)) f1)).2
theorem lawc (a : Int) (t : ByteArray) (r0 : Row) (id : Int) {A B : Prop} (_ : A) (f0 : t.size ≤ 140737488351232) (f1 : FitR r0) (_ : B) : c a t r0 id = true := (out a t r0 id (run a t r0 id (Nat.le_trans f0 (by omega)) f1)).1
end Go.FG.Pu.laws_FnExactStreamJoin

