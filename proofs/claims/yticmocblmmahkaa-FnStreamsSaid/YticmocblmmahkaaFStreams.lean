/- What the functions come to, in plain numbers, texts and lists; last the law itself. No condition but those that each states. -/
import Derived.Test.YticmocblmmahkaaPStreams
set_option linter.unusedVariables false
set_option linter.unusedSimpArgs false
set_option maxRecDepth 100000
namespace Go.FG.Pu.spec_StreamJoin
def ide (y : List CV) : Int := cvI (y.getD 0 (.b false))
def cr (y : List CV) : List CV := [CV.i IntKind.i64 (cvI (y.getD 0 (.b false))), CV.i IntKind.i64 (cvI (y.getD 1 (.b false)))]
def nw (id : Int) : List CV := [CV.i IntKind.i64 id, CV.i IntKind.i64 0]
def joined (r : Row) (id : Int) : Row := (r.filter (fun y => decide (ide y < id))).map cr ++ [nw id] ++ (r.filter (fun y => decide (ide y > id))).map cr
def val (st : Int) (t : ByteArray) (r : Row) (id : Int) : Int × ByteArray × Row × Bool :=
  bif !Pu.spec_StreamOk.v st t r then (st, t, r, false) else bif decide (Pu.spec_l14At.v st t r id ≥ 0) then (st, t, r, false) else bif !Pu.spec_StreamOk.v st t (joined r id) then (st, t, r, false) else (st, t, joined r id, true)
theorem ok (st : Int) (t : ByteArray) (r : Row) (id : Int) (hl : r.length ≤ 1048576) : c st t r id = true ∧ v st t r id = val st t r id := by
  refine out st t r id ?_
  unfold vo b
  rw [show Pu.spec_l14Copy.c st t r = true from decide_eq_true (by omega), cond_true]
  have hn : (List.set (zeros [Ck.i IntKind.i64, Ck.i IntKind.i64] 1) 0 [CV.i IntKind.i64 id, CV.i IntKind.i64 0]) = [nw id] := rfl
  rw [show zeros [Ck.i IntKind.i64, Ck.i IntKind.i64] 0 = [] from rfl]
  have hw : ∀ i, i < r.length → w64 ((i : Int) + 1) = ((i + 1 : Nat) : Int) := fun i h => Lib.w64_s h (by omega)
  have key := fun (acc0 : Row) (ha : acc0.length ≤ 2000000) => Lib.filt_run (fun y => decide (ide y > id)) cr r 2000000
    (fun m (i : Nat) (acc : Row) => l10 Lib.big (fun y33 y34 y35 y36 y37 y38 y39 y40 y41 y42 y43 => bif (!Pu.spec_StreamOk.v y35 y36 y37) then (some (y40, y41, y43, false)) else (bif (decide (Pu.spec_l14At.v y35 y36 y37 y33 ≥ 0)) then (some (y40, y41, y43, false)) else (bif (!Pu.spec_StreamOk.v y35 y36 y42) then (some (y40, y41, y43, false)) else (some (y35, y36, y42, true))))) m id i st t r 0 ({ data := #[] }) st t acc r)
    (fun acc => bif (!Pu.spec_StreamOk.v st t r) then (some (st, t, r, false)) else (bif (decide (Pu.spec_l14At.v st t r id ≥ 0)) then (some (st, t, r, false)) else (bif (!Pu.spec_StreamOk.v st t acc) then (some (st, t, r, false)) else (some (st, t, acc, true)))))
    (fun m i acc h h2 hp => by
      have hp' : decide (cvI (r[i].getD 0 (.b false)) > id) = true := hp
      simp only [l10, r10, Lib.dlt, h, decide_true, Lib.dle0, Bool.and_self, cond_true, Lib.toN, hp', Lib.cellAt_of h, hw i h, Lib.len_set1, List.length_singleton, Lib.roomy_of (n := acc.length + 1) (b := 16) (by omega) (by omega)]
      rfl)
    (fun m i acc h h2 hp => by
      have hp' : decide (cvI (cellAt r i 0) > id) = false := by rw [Lib.cellAt_of h]; exact hp
      simp only [l10, r10, Lib.dlt, h, decide_true, Lib.dle0, Bool.and_self, cond_true, Lib.toN, hp', cond_false, hw i h])
    (fun m acc => by simp only [l10, r10, Lib.dlt, Nat.lt_irrefl, decide_false, cond_false]) Lib.big acc0 ha (Lib.lt_big (by omega))
  have key2 := Lib.filt_run (fun y => decide (ide y < id)) cr r 0
    (fun m (i : Nat) (acc : Row) => l4 Lib.big (fun y11 y12 y13 y14 y15 y16 y17 y18 y19 y20 y21 => bif (roomy (List.length y20 + List.length (List.set (zeros [Ck.i IntKind.i64, Ck.i IntKind.i64] 1) 0 [CV.i IntKind.i64 y11, CV.i IntKind.i64 0])) 16) then (l10 Lib.big (fun y33 y34 y35 y36 y37 y38 y39 y40 y41 y42 y43 => bif (!Pu.spec_StreamOk.v y35 y36 y37) then (some (y40, y41, y43, false)) else (bif (decide (Pu.spec_l14At.v y35 y36 y37 y33 ≥ 0)) then (some (y40, y41, y43, false)) else (bif (!Pu.spec_StreamOk.v y35 y36 y42) then (some (y40, y41, y43, false)) else (some (y35, y36, y42, true))))) Lib.big y11 0 y13 y14 y15 y16 y17 y18 y19 (y20 ++ List.set (zeros [Ck.i IntKind.i64, Ck.i IntKind.i64] 1) 0 [CV.i IntKind.i64 y11, CV.i IntKind.i64 0]) y21) else (none)) m id i st t r 0 ({ data := #[] }) st t acc r)
    (fun acc => bif (roomy (List.length acc + 1) 16) then (l10 Lib.big (fun y33 y34 y35 y36 y37 y38 y39 y40 y41 y42 y43 => bif (!Pu.spec_StreamOk.v y35 y36 y37) then (some (y40, y41, y43, false)) else (bif (decide (Pu.spec_l14At.v y35 y36 y37 y33 ≥ 0)) then (some (y40, y41, y43, false)) else (bif (!Pu.spec_StreamOk.v y35 y36 y42) then (some (y40, y41, y43, false)) else (some (y35, y36, y42, true))))) Lib.big id 0 st t r 0 ({ data := #[] }) st t (acc ++ [nw id]) r) else none)
    (fun m i acc h h2 hp => by
      have hp' : decide (cvI (r[i].getD 0 (.b false)) < id) = true := hp
      simp only [l4, r4, Lib.dlt, h, decide_true, Lib.dle0, Bool.and_self, cond_true, Lib.toN, hp', Lib.cellAt_of h, hw i h, Lib.len_set1, List.length_singleton, Lib.roomy_of (n := acc.length + 1) (b := 16) (by omega) (by omega)]
      rfl)
    (fun m i acc h h2 hp => by
      have hp' : decide (cvI (cellAt r i 0) < id) = false := by rw [Lib.cellAt_of h]; exact hp
      simp only [l4, r4, Lib.dlt, h, decide_true, Lib.dle0, Bool.and_self, cond_true, Lib.toN, hp', cond_false, hw i h])
    (fun m acc => by simp only [l4, r4, Lib.dlt, Nat.lt_irrefl, decide_false, cond_false]; rfl) Lib.big [] (Nat.le_refl _) (Lib.lt_big (by omega))
  refine key2.trans ?_
  have hf : ((r.filter (fun y => decide (ide y < id))).map cr).length ≤ r.length := by rw [List.length_map]; exact List.length_filter_le _ _
  rw [List.nil_append, Lib.roomy_of (by omega) (by omega), cond_true]
  refine (key _ (by rw [List.length_append, List.length_singleton]; omega)).trans ?_
  unfold val joined
  cases Pu.spec_StreamOk.v st t r
  · rfl
  · cases decide (Pu.spec_l14At.v st t r id ≥ 0)
    · simp only [Bool.not_true, cond_false]
      cases Pu.spec_StreamOk.v st t _ <;> rfl
    · rfl
theorem ok_iff (st : Int) (t : ByteArray) (r : Row) : Pu.spec_StreamOk.v st t r = true ↔ (∀ y ∈ r, (1 ≤ cvI (y.getD 0 (.b false)) ∧ cvI (y.getD 0 (.b false)) ≤ 9) ∧ (0 ≤ cvI (y.getD 1 (.b false)) ∧ cvI (y.getD 1 (.b false)) ≤ t.size)) ∧ r.Pairwise (fun y z => ide y < ide z) ∧ Pu.spec_StreamOk.rest st t r = true := by
  unfold Pu.spec_StreamOk.v
  rw [Bool.and_eq_true, List.all_eq_true]
  have hel : ∀ i (h : i < r.length), Pu.spec_StreamOk.el t r i = true ↔ ((1 ≤ cvI (r[i].getD 0 (.b false)) ∧ cvI (r[i].getD 0 (.b false)) ≤ 9) ∧ (0 ≤ cvI (r[i].getD 1 (.b false)) ∧ cvI (r[i].getD 1 (.b false)) ≤ t.size)) ∧ (i = 0 ∨ cvI (cellAt r (i - 1) 0) < cvI (cellAt r i 0)) := by
    intro i h
    unfold Pu.spec_StreamOk.el
    rw [Lib.cellAt_of h, Lib.cellAt_of h]
    simp [and_assoc]
  constructor
  · intro ⟨h1, h2⟩
    have h1' : ∀ i (h : i < r.length), _ := fun i h => (hel i h).1 (h1 i (by simpa using h))
    refine ⟨fun y hy => ?_, ?_, h2⟩
    · obtain ⟨i, hi, rfl⟩ := List.mem_iff_getElem.1 hy
      exact (h1' i hi).1
    · rw [List.pairwise_iff_getElem]
      have key : ∀ d i (hi : i < r.length) (hj : i + d + 1 < r.length), cvI (cellAt r i 0) < cvI (cellAt r (i + d + 1) 0) := by
        intro d
        induction d with
        | zero =>
          intro i hi hj
          rcases (h1' (i + 1) hj).2 with h | h
          · omega
          · exact h
        | succ d ih =>
          intro i hi hj
          have := ih i hi (by omega)
          rcases (h1' (i + d + 1 + 1) (by omega)).2 with h | h
          · omega
          · have e : i + d + 1 + 1 - 1 = i + d + 1 := by omega
            rw [e] at h
            rw [show i + (d + 1) + 1 = i + d + 1 + 1 by omega]; omega
      intro i j hi hj hij
      have := key (j - i - 1) i hi (by omega)
      have e : i + (j - i - 1) + 1 = j := by omega
      rw [e, Lib.cellAt_of hi, Lib.cellAt_of hj] at this
      exact this
  · intro ⟨h1, h2, h3⟩
    refine ⟨fun i hi => ?_, h3⟩
    have hi' : i < r.length := by simpa using hi
    rw [hel i hi']
    refine ⟨h1 _ (List.getElem_mem hi'), ?_⟩
    by_cases h0 : i = 0
    · exact .inl h0
    · right
      rw [List.pairwise_iff_getElem] at h2
      have := h2 (i - 1) i (by omega) hi' (by omega)
      rw [Lib.cellAt_of hi', Lib.cellAt_of (show i - 1 < r.length by omega)]
      exact this
end Go.FG.Pu.spec_StreamJoin

namespace Go.FG.Pu.spec_l01Byte
/-- Where a draw stands in its bytes. -/
def I (q : Row) (a : Int) : Prop := 0 ≤ a ∧ a ≤ (q.length : Int) ∧ q.length ≤ 1048576
theorem rng (x : BitVec 64) : 0 ≤ w64 ((BitVec.toNat (BitVec.and x (BitVec.ofInt 64 255)) : Nat) : Int) ∧ w64 ((BitVec.toNat (BitVec.and x (BitVec.ofInt 64 255)) : Nat) : Int) ≤ 255 := by
  have h : BitVec.toNat (BitVec.and x (BitVec.ofInt 64 255)) ≤ 255 := by
    have e : BitVec.toNat (BitVec.and x (BitVec.ofInt 64 255)) = x.toNat &&& 255 := BitVec.toNat_and x (BitVec.ofInt 64 255)
    rw [e]; exact Nat.and_le_right
  rw [Lib.w64_ok (by omega) (by omega)]; omega
theorem ok (q : Row) (a s : Int) (hI : I q a) : ∃ n a' s', c q a s = true ∧ v q a s = (n, q, a', s') ∧ I q a' ∧ 0 ≤ n ∧ n ≤ 255 := by
  obtain ⟨h0, h1, h2⟩ := hI
  by_cases h : a < (q.length : Int)
  · have hw : w64 (a + 1) = a + 1 := Lib.w64_ok (by omega) (by omega)
    have hvo : ∃ n s', vo q a s = some (n, q, a + 1, s') ∧ 0 ≤ n ∧ n ≤ 255 := by
      unfold vo b
      rw [decide_eq_true h, decide_eq_true h0, cond_true, Bool.and_self, cond_true, hw]
      exact ⟨_, _, rfl, rng _⟩
    obtain ⟨n, s', hv, hr⟩ := hvo
    obtain ⟨e1, e2⟩ := out q a s hv
    exact ⟨n, a + 1, s', e1, e2, ⟨by omega, by omega, h2⟩, hr⟩
  · have hvo : ∃ n s', vo q a s = some (n, q, a, s') ∧ 0 ≤ n ∧ n ≤ 255 := by
      unfold vo b
      rw [decide_eq_false h, cond_false]
      exact ⟨_, _, rfl, rng _⟩
    obtain ⟨n, s', hv, hr⟩ := hvo
    obtain ⟨e1, e2⟩ := out q a s hv
    exact ⟨n, a, s', e1, e2, ⟨h0, h1, h2⟩, hr⟩
end Go.FG.Pu.spec_l01Byte

namespace Go.FG.Pu.spec_l01Below
theorem ok (q : Row) (a s k : Int) (hI : Pu.spec_l01Byte.I q a) : ∃ n a' s', c q a s k = true ∧ v q a s k = (n, q, a', s') ∧ Pu.spec_l01Byte.I q a' ∧ 0 ≤ n ∧ (0 < k → n < k) := by
  by_cases hk : k ≤ 0
  · obtain ⟨e1, e2⟩ := out q a s k (x := (0, q, a, s)) (by unfold vo b; rw [decide_eq_true hk, cond_true])
    exact ⟨0, a, s, e1, e2, hI, by omega, fun h => by omega⟩
  · have hm : ∀ x : Int, 0 ≤ x → 0 ≤ Int.tmod x k ∧ Int.tmod x k < k := fun x hx => by
      rw [Int.tmod_eq_emod_of_nonneg hx]
      exact ⟨Int.emod_nonneg _ (by omega), Int.emod_lt_of_pos _ (by omega)⟩
    have hk0 : ¬ k = 0 := by omega
    obtain ⟨n1, a1, s1, c1, v1, I1, g1, u1⟩ := Pu.spec_l01Byte.ok q a s hI
    by_cases h2 : k ≤ 256
    · obtain ⟨e1, e2⟩ := out q a s k (x := (Int.tmod n1 k, q, a1, s1)) (by
        unfold vo b
        simp only [hk, h2, hk0, c1, v1, decide_true, decide_false, cond_true, cond_false, Bool.not_false])
      exact ⟨_, a1, s1, e1, e2, I1, (hm n1 g1).1, fun _ => (hm n1 g1).2⟩
    · obtain ⟨n2, a2, s2, c2, v2, I2, g2, u2⟩ := Pu.spec_l01Byte.ok q a1 s1 I1
      obtain ⟨n3, a3, s3, c3, v3, I3, g3, u3⟩ := Pu.spec_l01Byte.ok q a2 s2 I2
      obtain ⟨n4, a4, s4, c4, v4, I4, g4, u4⟩ := Pu.spec_l01Byte.ok q a3 s3 I3
      have w1 : w64 (n1 * 16777216) = n1 * 16777216 := Lib.w64_ok (by omega) (by omega)
      have w2 : w64 (n2 * 65536) = n2 * 65536 := Lib.w64_ok (by omega) (by omega)
      have w3 : w64 (n3 * 256) = n3 * 256 := Lib.w64_ok (by omega) (by omega)
      have w4 : w64 (n1 * 16777216 + n2 * 65536) = n1 * 16777216 + n2 * 65536 := Lib.w64_ok (by omega) (by omega)
      have w5 : w64 (n1 * 16777216 + n2 * 65536 + n3 * 256) = n1 * 16777216 + n2 * 65536 + n3 * 256 := Lib.w64_ok (by omega) (by omega)
      have w6 : w64 (n1 * 16777216 + n2 * 65536 + n3 * 256 + n4) = n1 * 16777216 + n2 * 65536 + n3 * 256 + n4 := Lib.w64_ok (by omega) (by omega)
      obtain ⟨e1, e2⟩ := out q a s k (x := (Int.tmod (n1 * 16777216 + n2 * 65536 + n3 * 256 + n4) k, q, a4, s4)) (by
        unfold vo b
        simp only [hk, h2, hk0, c1, v1, c2, v2, c3, v3, c4, v4, w1, w2, w3, w4, w5, w6, decide_true, decide_false, cond_true, cond_false, Bool.not_false])
      have := hm (n1 * 16777216 + n2 * 65536 + n3 * 256 + n4) (by omega)
      exact ⟨_, a4, s4, e1, e2, I4, this.1, fun _ => this.2⟩
end Go.FG.Pu.spec_l01Below

namespace Go.FG.Pu.spec_l01Text
theorem ok (q : Row) (a s k : Int) (hI : Pu.spec_l01Byte.I q a) : ∃ t a' s', c q a s k = true ∧ v q a s k = (t, q, a', s') ∧ Pu.spec_l01Byte.I q a' ∧ (t.size : Int) ≤ 5000 ∧ ((t.size : Int) = 0 ∨ (t.size : Int) ≤ k) := by
  have key := fun (m : Int) (hm : m ≤ 5000) => Lib.loop_post (fun n (z : Nat × Int × Int × Row) => l5 Lib.big (fun (_ _ : Int) (y8 : Row) (y9 y10 : Int) (y11 : Row) => bif (decide (List.length y11 ≤ 4611686018427387904)) then (some (bytesOf y11, y8, y9, y10)) else (none)) n m (z.1 : Int) q z.2.1 z.2.2.1 z.2.2.2) (fun z => 5000 - z.1) (fun z => (z.1 = 0 ∨ (z.1 : Int) ≤ m) ∧ Pu.spec_l01Byte.I q z.2.1 ∧ z.2.2.2.length = z.1) (fun r => ∃ t a' s', r = (t, q, a', s') ∧ Pu.spec_l01Byte.I q a' ∧ ((t.size : Int) = 0 ∨ (t.size : Int) ≤ m)) (fun n z hz => by
    obtain ⟨i, a, s, acc⟩ := z
    obtain ⟨h1, h2, h3⟩ := hz
    dsimp only at h1 h2 h3 ⊢
    by_cases h : (i : Int) < m
    · right
      obtain ⟨n1, a1, s1, c1, v1, I1, g1, u1⟩ := Pu.spec_l01Byte.ok q a s h2
      have hi1 : w64 ((i : Int) + 1) = ((i + 1 : Nat) : Int) := Lib.w64_ok (by omega) (by omega)
      refine ⟨(i + 1, a1, s1, acc ++ [[CV.i IntKind.u8 (IntKind.wrap IntKind.u8 n1)]]), ⟨by right; dsimp only; omega, I1, by simp [h3]⟩, by dsimp only; omega, ?_⟩
      simp only [l5, r5, h, decide_true, cond_true, c1, v1, hi1, Lib.len_set1, List.length_singleton, Lib.roomy1 (n := acc.length + 1) (by omega)]
    · left
      refine ⟨_, by simp only [l5, r5, h, decide_false, cond_false, decide_eq_true (show acc.length ≤ 4611686018427387904 by omega), cond_true], bytesOf acc, a, s, rfl, h2, ?_⟩
      rw [size_bytesOf, h3]; omega) Lib.big (0, a, s, []) ⟨.inl rfl, hI, rfl⟩ (Lib.lt_big (by omega))
  by_cases hk : k > 5000
  · obtain ⟨b', hb, t, a', s', rfl, hI', hs⟩ := key 5000 (by omega)
    obtain ⟨e1, e2⟩ := out q a s k (x := (t, q, a', s')) (by
      unfold vo b
      rw [decide_eq_true hk, cond_true]; exact hb)
    exact ⟨t, a', s', e1, e2, hI', by omega, by omega⟩
  · obtain ⟨b', hb, t, a', s', rfl, hI', hs⟩ := key k (by omega)
    obtain ⟨e1, e2⟩ := out q a s k (x := (t, q, a', s')) (by
      unfold vo b
      rw [decide_eq_false hk, cond_false]; exact hb)
    exact ⟨t, a', s', e1, e2, hI', by omega, by omega⟩
end Go.FG.Pu.spec_l01Text

namespace Go.FG.Pu.spec_l01Once
theorem ok (q : Row) (a s k : Int) (hI : Pu.spec_l01Byte.I q a) : ∃ x a' s', c q a s k = true ∧ v q a s k = (x, q, a', s') ∧ Pu.spec_l01Byte.I q a' := by
  obtain ⟨n1, a1, s1, c1, v1, I1, g1, u1⟩ := Pu.spec_l01Below.ok q a s k hI
  obtain ⟨e1, e2⟩ := out q a s k (x := (decide (n1 = 0), q, a1, s1)) (by
    unfold vo b
    simp only [c1, v1, cond_true])
  exact ⟨_, a1, s1, e1, e2, I1⟩
end Go.FG.Pu.spec_l01Once

namespace Go.FG.Pu.spec_l14Stream
/-- A stream that is right, its readers told by two numbers each. -/
def J (st : Int) (t : ByteArray) (r : Row) : Prop := Pu.spec_StreamOk.v st t r = true ∧ ∀ y ∈ r, Pu.spec_StreamJoin.cr y = y
theorem J.len {st : Int} {t : ByteArray} {r : Row} (h : J st t r) : r.length ≤ 6 ∧ t.size ≤ 400 ∧ (1 ≤ st ∧ st ≤ 3) := by
  have h2 := ((Pu.spec_StreamJoin.ok_iff st t r).1 h.1).2.2
  unfold Pu.spec_StreamOk.rest at h2
  simp only [Bool.and_eq_true, decide_eq_true_eq] at h2
  exact ⟨h2.2.2, h2.2.1, h2.1⟩
theorem J.of {st st' : Int} {t t' : ByteArray} {r r' : Row} (h : J st t r) (h1 : 1 ≤ st' ∧ st' ≤ 3) (h2 : t'.size ≤ 400) (h3 : t.size ≤ t'.size) (h4 : r'.Sublist r) : J st' t' r' := by
  obtain ⟨a1, a2⟩ := h
  obtain ⟨b1, b2, b3⟩ := (Pu.spec_StreamJoin.ok_iff st t r).1 a1
  have hl := h4.length_le
  refine ⟨(Pu.spec_StreamJoin.ok_iff st' t' r').2 ⟨fun y hy => ?_, b2.sublist h4, ?_⟩, fun y hy => a2 y (h4.subset hy)⟩
  · have := b1 y (h4.subset hy); omega
  · unfold Pu.spec_StreamOk.rest at b3 ⊢
    simp only [Bool.and_eq_true, decide_eq_true_eq] at b3 ⊢
    exact ⟨h1, h2, by omega⟩
theorem put {st : Int} {t : ByteArray} {r : Row} (h : J st t r) (p : ByteArray) : J (Pu.spec_StreamPut.v st t r p).1 (Pu.spec_StreamPut.v st t r p).2.1 (Pu.spec_StreamPut.v st t r p).2.2.1 := by
  unfold Pu.spec_StreamPut.v
  split
  · rename_i hc
    exact h.of h.len.2.2 (by dsimp only; rw [Lib.size_app]; omega) (by dsimp only; rw [Lib.size_app]; omega) (List.Sublist.refl _)
  · exact h
theorem fin {st : Int} {t : ByteArray} {r : Row} (h : J st t r) (b : Bool) : J (Pu.spec_StreamEnd.v st t r b).1 (Pu.spec_StreamEnd.v st t r b).2.1 (Pu.spec_StreamEnd.v st t r b).2.2.1 := by
  unfold Pu.spec_StreamEnd.v
  split
  · exact h.of (by cases b <;> simp) h.len.2.1 (Nat.le_refl _) (List.Sublist.refl _)
  · exact h
theorem leave {st : Int} {t : ByteArray} {r : Row} (h : J st t r) (id : Int) : J (Pu.spec_StreamLeave.v st t r id).1 (Pu.spec_StreamLeave.v st t r id).2.1 (Pu.spec_StreamLeave.v st t r id).2.2 := by
  unfold Pu.spec_StreamLeave.v Pu.spec_StreamLeave.f
  have e : (r.filter (Pu.slices_DeleteFunc_Reader.keep id)).map Pu.slices_DeleteFunc_Reader.cr = r.filter (Pu.slices_DeleteFunc_Reader.keep id) := by
    have := List.map_congr_left (l := r.filter (Pu.slices_DeleteFunc_Reader.keep id)) (f := Pu.slices_DeleteFunc_Reader.cr) (g := fun z => z) (fun y hy => h.2 y (List.mem_filter.1 hy).1)
    rw [this]; exact List.map_id _
  rw [e]
  exact h.of h.len.2.2 h.len.2.1 (Nat.le_refl _) List.filter_sublist
theorem join {st : Int} {t : ByteArray} {r : Row} (h : J st t r) (id : Int) : J (Pu.spec_StreamJoin.val st t r id).1 (Pu.spec_StreamJoin.val st t r id).2.1 (Pu.spec_StreamJoin.val st t r id).2.2.1 := by
  have hc : ∀ y ∈ Pu.spec_StreamJoin.joined r id, Pu.spec_StreamJoin.cr y = y := by
    intro y hy
    unfold Pu.spec_StreamJoin.joined at hy
    simp only [List.mem_append, List.mem_singleton, List.mem_map] at hy
    rcases hy with (⟨z, _, rfl⟩ | rfl) | ⟨z, _, rfl⟩ <;> rfl
  unfold Pu.spec_StreamJoin.val
  cases Pu.spec_StreamOk.v st t r
  · exact h
  · cases decide (Pu.spec_l14At.v st t r id ≥ 0)
    · cases hj : Pu.spec_StreamOk.v st t (Pu.spec_StreamJoin.joined r id)
      · exact h
      · exact ⟨hj, hc⟩
    · exact h
theorem read {st : Int} {t : ByteArray} {r : Row} (h : J st t r) (id most : Int) : J (Pu.spec_StreamRead.v st t r id most).1 (Pu.spec_StreamRead.v st t r id most).2.1 (Pu.spec_StreamRead.v st t r id most).2.2.1 := by
  unfold Pu.spec_StreamRead.v
  split
  · rename_i hc
    obtain ⟨_, hk⟩ := hc
    obtain ⟨k, hkl, hke⟩ : ∃ k, k < r.length ∧ Pu.spec_l14At.v st t r id = (k : Int) := by
      unfold Pu.spec_l14At.v at hk ⊢
      rcases Lib.fi_rng (fun i => decide (cvI (cellAt r i 0) = id)) r.length 0 with ⟨h1, _⟩ | ⟨k, h1, h2, h3, _, _⟩
      · rw [h1] at hk; omega
      · exact ⟨k, by omega, h3⟩
    rw [hke]
    obtain ⟨a1, a2⟩ := h
    obtain ⟨b1, b2, b3⟩ := (Pu.spec_StreamJoin.ok_iff st t r).1 a1
    have hm := List.getElem_mem hkl
    have hy := a2 _ hm
    have hb := b1 _ hm
    have he : 0 ≤ Pu.spec_StreamRead.e t r k most ∧ Pu.spec_StreamRead.e t r k most ≤ t.size := by
      unfold Pu.spec_StreamRead.e
      rw [Int.toNat_natCast, Lib.cellAt_of hkl]
      simp only [minmax, cond_true, cond_false]
      (repeat' split) <;> omega
    generalize Pu.spec_StreamRead.e t r k most = e at he
    rw [Int.toNat_natCast]
    dsimp only
    have hs : setC r k 1 [CV.i IntKind.i64 e] = r.set k [CV.i IntKind.i64 (cvI (r[k].getD 0 (.b false))), CV.i IntKind.i64 e] := by
      rw [Lib.setC_eq hkl]
      congr 1
      rw [← hy]; rfl
    rw [hs]
    refine ⟨(Pu.spec_StreamJoin.ok_iff _ _ _).2 ⟨fun y hy => ?_, ?_, ?_⟩, fun y hy => ?_⟩
    · rcases List.mem_or_eq_of_mem_set hy with h1 | h1
      · exact b1 y h1
      · rw [h1]; exact ⟨hb.1, he⟩
    · rw [← List.pairwise_map] at b2 ⊢
      have : (r.set k [CV.i IntKind.i64 (cvI (r[k].getD 0 (.b false))), CV.i IntKind.i64 e]).map Pu.spec_StreamJoin.ide = r.map Pu.spec_StreamJoin.ide := by
        rw [List.map_set]
        have hkm : k < (r.map Pu.spec_StreamJoin.ide).length := by simpa using hkl
        have e2 : Pu.spec_StreamJoin.ide [CV.i IntKind.i64 (cvI (r[k].getD 0 (.b false))), CV.i IntKind.i64 e] = (r.map Pu.spec_StreamJoin.ide)[k] := by
          rw [List.getElem_map]; rfl
        rw [e2, List.set_getElem_self]
      rw [this]; exact b2
    · unfold Pu.spec_StreamOk.rest at b3 ⊢
      rw [List.length_set]; exact b3
    · rcases List.mem_or_eq_of_mem_set hy with h1 | h1
      · exact a2 y h1
      · rw [h1]; rfl
  · exact h
theorem ok (q : Row) (a s : Int) (hI : Pu.spec_l01Byte.I q a) : ∃ st t r a' s', c q a s = true ∧ v q a s = (st, t, r, q, a', s') ∧ Pu.spec_l01Byte.I q a' ∧ J st t r := by
  have key := Lib.loop_post (fun n (z : Nat × Int × Int × Int × ByteArray × Row) => l3 Lib.big (fun (_ : Int) (y10 : Row) (y11 y12 _ : Int) (_ : ByteArray) (y15 : Int) (y16 : ByteArray) (y17 : Row) => some (y15, y16, y17, y10, y11, y12)) n (z.1 : Int) q z.2.1 z.2.2.1 0 ({ data := #[] }) z.2.2.2.1 z.2.2.2.2.1 z.2.2.2.2.2) (fun z => 14 - z.1) (fun z => z.1 ≤ 14 ∧ Pu.spec_l01Byte.I q z.2.1 ∧ J z.2.2.2.1 z.2.2.2.2.1 z.2.2.2.2.2) (fun x => ∃ st t r a' s', x = (st, t, r, q, a', s') ∧ Pu.spec_l01Byte.I q a' ∧ J st t r) (fun n z hz => by
    obtain ⟨i, a, s, st, t, r⟩ := z
    obtain ⟨h1, h2, h3⟩ := hz
    dsimp only at h1 h2 h3 ⊢
    obtain ⟨n1, a1, s1, c1, v1, I1, g1, u1⟩ := Pu.spec_l01Below.ok q a s 14 h2
    have u1' := u1 (by omega)
    by_cases hi : (i : Int) < n1
    · right
      have hi1 : w64 ((i : Int) + 1) = ((i + 1 : Nat) : Int) := Lib.w64_ok (by omega) (by omega)
      have hl := h3.len
      have hcp : ∀ p, Pu.spec_StreamPut.c st t r p = true := fun p => decide_eq_true (by omega)
      have hcr : ∀ p m, Pu.spec_StreamRead.c st t r p m = true := fun p m => decide_eq_true (by omega)
      have hcl : ∀ p, Pu.spec_StreamLeave.c st t r p = true := fun p => decide_eq_true (by omega)
      have hce : ∀ p, Pu.spec_StreamEnd.c st t r p = true := fun p => decide_eq_true (by omega)
      have hcj := fun id => Pu.spec_StreamJoin.ok st t r id (by omega)
      obtain ⟨n2, a2, s2, c2, v2, I2, g2, u2⟩ := Pu.spec_l01Below.ok q a1 s1 6 I1
      have hw : ∀ x : Int, 0 ≤ x → x < 100 → w64 (1 + x) = 1 + x := fun x h1 h2 => Lib.w64_ok (by omega) (by omega)
      by_cases q0 : n2 = 0
      · obtain ⟨n3, a3, s3, c3, v3, I3, g3, u3⟩ := Pu.spec_l01Below.ok q a2 s2 6 I2
        obtain ⟨x, a4, s4, c4, v4, I4, _⟩ := Pu.spec_l01Text.ok q a3 s3 (1 + n3) I3
        refine ⟨(i + 1, a4, s4, _, _, _), ⟨by dsimp only; omega, I4, put h3 x⟩, by dsimp only; omega, ?_⟩
        simp only [l3, r3, c1, v1, c2, v2, c3, v3, hw n3 g3 (by have := u3 (by omega); omega), c4, v4, hcp, hi1, decide_eq_true hi, decide_eq_true q0, cond_true]
      by_cases q1 : n2 = 1
      · obtain ⟨n3, a3, s3, c3, v3, I3, g3, u3⟩ := Pu.spec_l01Below.ok q a2 s2 6 I2
        obtain ⟨x, a4, s4, c4, v4, I4, _⟩ := Pu.spec_l01Text.ok q a3 s3 (1 + n3) I3
        refine ⟨(i + 1, a4, s4, _, _, _), ⟨by dsimp only; omega, I4, put h3 x⟩, by dsimp only; omega, ?_⟩
        simp only [l3, r3, c1, v1, c2, v2, c3, v3, hw n3 g3 (by have := u3 (by omega); omega), c4, v4, hcp, hi1, decide_eq_true hi, decide_eq_false q0, decide_eq_true q1, cond_true, cond_false]
      by_cases q2 : n2 = 2
      · obtain ⟨n3, a3, s3, c3, v3, I3, g3, u3⟩ := Pu.spec_l01Below.ok q a2 s2 5 I2
        refine ⟨(i + 1, a3, s3, _, _, _), ⟨by dsimp only; omega, I3, join h3 (1 + n3)⟩, by dsimp only; omega, ?_⟩
        simp only [l3, r3, c1, v1, c2, v2, c3, v3, hw n3 g3 (by have := u3 (by omega); omega), (hcj _).1, (hcj _).2, hi1, decide_eq_true hi, decide_eq_false q0, decide_eq_false q1, decide_eq_true q2, cond_true, cond_false]
      by_cases q3 : n2 = 3
      · obtain ⟨n3, a3, s3, c3, v3, I3, g3, u3⟩ := Pu.spec_l01Below.ok q a2 s2 5 I2
        obtain ⟨n4, a4, s4, c4, v4, I4, g4, u4⟩ := Pu.spec_l01Below.ok q a3 s3 6 I3
        refine ⟨(i + 1, a4, s4, _, _, _), ⟨by dsimp only; omega, I4, read h3 (1 + n3) n4⟩, by dsimp only; omega, ?_⟩
        simp only [l3, r3, c1, v1, c2, v2, c3, v3, c4, v4, hw n3 g3 (by have := u3 (by omega); omega), hcr, hi1, decide_eq_true hi, decide_eq_false q0, decide_eq_false q1, decide_eq_false q2, decide_eq_true q3, cond_true, cond_false]
      by_cases q4 : n2 = 4
      · obtain ⟨n3, a3, s3, c3, v3, I3, g3, u3⟩ := Pu.spec_l01Below.ok q a2 s2 5 I2
        refine ⟨(i + 1, a3, s3, _, _, _), ⟨by dsimp only; omega, I3, leave h3 (1 + n3)⟩, by dsimp only; omega, ?_⟩
        simp only [l3, r3, c1, v1, c2, v2, c3, v3, hw n3 g3 (by have := u3 (by omega); omega), hcl, hi1, decide_eq_true hi, decide_eq_false q0, decide_eq_false q1, decide_eq_false q2, decide_eq_false q3, decide_eq_true q4, cond_true, cond_false]
      obtain ⟨x, a3, s3, c3, v3, I3⟩ := Pu.spec_l01Once.ok q a2 s2 6 I2
      cases x with
      | true =>
        obtain ⟨y, a4, s4, c4, v4, I4⟩ := Pu.spec_l01Once.ok q a3 s3 2 I3
        refine ⟨(i + 1, a4, s4, _, _, _), ⟨by dsimp only; omega, I4, fin h3 y⟩, by dsimp only; omega, ?_⟩
        simp only [l3, r3, c1, v1, c2, v2, c3, v3, c4, v4, hce, hi1, decide_eq_true hi, decide_eq_false q0, decide_eq_false q1, decide_eq_false q2, decide_eq_false q3, decide_eq_false q4, cond_true, cond_false]
      | false =>
        refine ⟨(i + 1, a3, s3, _, _, _), ⟨by dsimp only; omega, I3, h3⟩, by dsimp only; omega, ?_⟩
        simp only [l3, r3, c1, v1, c2, v2, c3, v3, hi1, decide_eq_true hi, decide_eq_false q0, decide_eq_false q1, decide_eq_false q2, decide_eq_false q3, decide_eq_false q4, cond_true, cond_false]
    · left
      exact ⟨_, by simp only [l3, r3, c1, v1, decide_eq_false hi, cond_true, cond_false], st, t, r, a1, s1, rfl, I1, h3⟩) Lib.big (0, a, s, 1, ⟨#[]⟩, []) ⟨by omega, hI, by dsimp only; exact ⟨rfl, fun y hy => by cases hy⟩⟩ (Lib.lt_big (by dsimp only; omega))
  obtain ⟨b', hb, st, t, r, a', s', rfl, hI', hJ⟩ := key
  obtain ⟨e1, e2⟩ := out q a s (x := (st, t, r, q, a', s')) hb
  exact ⟨st, t, r, a', s', e1, e2, hI', hJ⟩
end Go.FG.Pu.spec_l14Stream

namespace Go.FG.Pu.impl_StreamJoin
def ins (r : Row) (id : Int) : Row := r.takeWhile (fun y => decide (Pu.spec_StreamJoin.ide y < id)) ++ [Pu.spec_StreamJoin.nw id] ++ r.dropWhile (fun y => decide (Pu.spec_StreamJoin.ide y < id))
def val (st : Int) (t : ByteArray) (r : Row) (id : Int) : Int × ByteArray × Row × Bool :=
  bif !Pu.spec_StreamOk.v st t (ins r id) then (st, t, r, false) else bif decide (Pu.spec_l14At.v st t r id ≥ 0) then (st, t, r, false) else (st, t, ins r id, true)
theorem ok (st : Int) (t : ByteArray) (r : Row) (id : Int) (hl : r.length ≤ 1048576) : c st t r id = true ∧ v st t r id = val st t r id := by
  refine out st t r id ?_
  unfold vo b
  have hw : ∀ i, i < r.length → w64 ((i : Int) + 1) = ((i + 1 : Nat) : Int) := fun i h => Lib.w64_s h (by omega)
  have hcc : Pu.impl_copyStream.c st t r = true := decide_eq_true (by omega)
  have e1 : ∀ a b c, Pu.impl_StreamOk.v a b c = Pu.spec_StreamOk.v a b c := fun _ _ _ => rfl
  have e2 : ∀ a b c d, Pu.impl_readerAt.v a b c d = Pu.spec_l14At.v a b c d := fun _ _ _ _ => rfl
  have := Lib.stop_run (fun y => decide (Pu.spec_StreamJoin.ide y < id)) r (fun m (i : Nat) => l2 Lib.big (fun y7 y8 y9 y10 y11 y12 y13 => bif (Pu.impl_copyStream.c y9 y10 y11) then (bif (decide (0 ≤ y8) && decide (y8 ≤ (↑(List.length y11) : Int)) && roomy (List.length y11 + List.length (List.set (zeros [Ck.i IntKind.i64, Ck.i IntKind.i64] 1) 0 [CV.i IntKind.i64 y7, CV.i IntKind.i64 0])) 16) then (bif (!Pu.impl_StreamOk.v y9 y10 (Pu.insR y11 (Int.toNat y8) (List.set (zeros [Ck.i IntKind.i64, Ck.i IntKind.i64] 1) 0 [CV.i IntKind.i64 y7, CV.i IntKind.i64 0]))) then (bif (Pu.impl_copyStream.c y9 y10 y11) then (some (y9, y10, y11, false)) else (none)) else (bif (decide (Pu.impl_readerAt.v y9 y10 y11 y7 ≥ 0)) then (bif (Pu.impl_copyStream.c y9 y10 y11) then (some (y9, y10, y11, false)) else (none)) else (some (y9, y10, (Pu.insR y11 (Int.toNat y8) (List.set (zeros [Ck.i IntKind.i64, Ck.i IntKind.i64] 1) 0 [CV.i IntKind.i64 y7, CV.i IntKind.i64 0])), true)))) else (none)) else (none)) m id i st t r 0 ({ data := #[] }))
    (fun a => bif (decide ((a : Int) ≤ (↑(List.length r) : Int))) then (bif (!Pu.spec_StreamOk.v st t (Pu.insR r a [Pu.spec_StreamJoin.nw id])) then (some (st, t, r, false)) else (bif (decide (Pu.spec_l14At.v st t r id ≥ 0)) then (some (st, t, r, false)) else (some (st, t, Pu.insR r a [Pu.spec_StreamJoin.nw id], true)))) else none)
    (fun m i h hp => by
      have hp' : decide (cvI (cellAt r i 0) < id) = true := by rw [Lib.cellAt_of h]; exact hp
      simp only [l2, r2, Lib.dlt, h, decide_true, Lib.dle0, Bool.and_self, cond_true, Lib.toN, hp', hw i h])
    (fun m i h hp => by
      have hp' : decide (cvI (cellAt r i 0) < id) = false := by rw [Lib.cellAt_of h]; exact hp
      simp only [l2, r2, Lib.dlt, h, decide_true, Lib.dle0, Bool.and_self, Bool.true_and, Bool.and_true, cond_true, cond_false, Lib.toN, hp', hcc, e1, e2, Lib.len_set1, List.length_singleton, Lib.roomy_of (n := r.length + 1) (b := 16) (by omega) (by omega)]
      rfl)
    (fun m => by
      simp only [l2, r2, Lib.dlt, Nat.lt_irrefl, decide_false, decide_true, Lib.dle0, Bool.and_self, Bool.true_and, Bool.and_true, cond_true, cond_false, Lib.toN, hcc, e1, e2, Lib.len_set1, List.length_singleton, Lib.roomy_of (n := r.length + 1) (b := 16) (by omega) (by omega)]
      rfl) Lib.big (Lib.lt_big (by omega))
  refine this.trans ?_
  have hle := Lib.tw_le (fun y => decide (Pu.spec_StreamJoin.ide y < id)) r
  rw [decide_eq_true (by omega), cond_true]
  unfold Pu.insR val ins
  rw [Lib.take_tw, Lib.drop_tw]
  cases Pu.spec_StreamOk.v st t _
  · rfl
  · simp only [Bool.not_true, cond_false]
    cases decide (Pu.spec_l14At.v st t r id ≥ 0) <;> rfl
theorem at_no {st : Int} {t : ByteArray} {r : Row} {id : Int} (h : ¬ Pu.spec_l14At.v st t r id ≥ 0) : ∀ y ∈ r, Pu.spec_StreamJoin.ide y ≠ id := by
  intro y hy
  obtain ⟨i, hi, rfl⟩ := List.mem_iff_getElem.1 hy
  unfold Pu.spec_l14At.v at h
  rcases Lib.fi_rng (fun i => decide (cvI (cellAt r i 0) = id)) r.length 0 with ⟨h1, h2⟩ | ⟨k, h1, h2, h3, h4, h5⟩
  · have := h2 i (Nat.zero_le _) (by omega)
    rw [Lib.cellAt_of hi] at this
    exact of_decide_eq_false this
  · rw [h3] at h; omega
theorem same (st : Int) (t : ByteArray) (r : Row) (id : Int) (hr : ∀ y ∈ r, Pu.spec_StreamJoin.cr y = y) : val st t r id = Pu.spec_StreamJoin.val st t r id := by
  unfold val Pu.spec_StreamJoin.val
  by_cases ha : Pu.spec_l14At.v st t r id ≥ 0
  · rw [decide_eq_true ha]
    cases Pu.spec_StreamOk.v st t r <;> cases Pu.spec_StreamOk.v st t (ins r id) <;> rfl
  · rw [decide_eq_false ha]
    have hn := at_no ha
    by_cases ho : Pu.spec_StreamOk.v st t r = true
    · have hs := Lib.tw_sorted Pu.spec_StreamJoin.ide id r ((Pu.spec_StreamJoin.ok_iff st t r).1 ho).2.1 hn
      have ec : ∀ q : List CV → Bool, (r.filter q).map Pu.spec_StreamJoin.cr = r.filter q := fun q => by
        have := List.map_congr_left (l := r.filter q) (f := Pu.spec_StreamJoin.cr) (g := fun z => z) (fun y hy => hr y (List.mem_filter.1 hy).1)
        rw [this]
        exact List.map_id _
      have e : ins r id = Pu.spec_StreamJoin.joined r id := by
        unfold ins Pu.spec_StreamJoin.joined
        rw [hs.1, hs.2, ec, ec]
      rw [ho, e]; rfl
    · have ho' : Pu.spec_StreamOk.v st t r = false := by simpa using ho
      have hb : Pu.spec_StreamOk.v st t (ins r id) = false := by
        cases hi : Pu.spec_StreamOk.v st t (ins r id) with
        | false => rfl
        | true =>
          exfalso
          apply ho
          rw [Pu.spec_StreamJoin.ok_iff] at hi ⊢
          obtain ⟨i1, i2, i3⟩ := hi
          have er : r = r.takeWhile (fun y => decide (Pu.spec_StreamJoin.ide y < id)) ++ r.dropWhile (fun y => decide (Pu.spec_StreamJoin.ide y < id)) := (List.takeWhile_append_dropWhile).symm
          have hsub : r.Sublist (ins r id) := by
            conv => lhs; rw [er]
            unfold ins
            rw [List.append_assoc]
            exact List.Sublist.append (List.Sublist.refl _) (List.sublist_append_right _ _)
          refine ⟨fun y hy => i1 y (hsub.subset hy), i2.sublist hsub, ?_⟩
          have hlen := hsub.length_le
          unfold Pu.spec_StreamOk.rest at i3 ⊢
          simp only [Bool.and_eq_true, decide_eq_true_eq] at i3 ⊢
          exact ⟨i3.1, i3.2.1, by omega⟩
      rw [ho', hb]; rfl
theorem val_sh (st : Int) (t : ByteArray) (r : Row) (id : Int) (hr : ∀ y ∈ r, y.length = 2) : (∀ y ∈ (val st t r id).2.2.1, y.length = 2) ∧ (val st t r id).2.2.1.length ≤ r.length + 1 := by
  have hi : (∀ y ∈ ins r id, y.length = 2) ∧ (ins r id).length = r.length + 1 := by
    have er := List.takeWhile_append_dropWhile (p := fun y => decide (Pu.spec_StreamJoin.ide y < id)) (l := r)
    constructor
    · intro y hy
      unfold ins at hy
      simp only [List.mem_append, List.mem_singleton] at hy
      rcases hy with (h | h) | h
      · exact hr y (by rw [← er]; exact List.mem_append_left _ h)
      · rw [h]; rfl
      · exact hr y (by rw [← er]; exact List.mem_append_right _ h)
    · have := congrArg List.length er
      unfold ins
      simp only [List.length_append, List.length_singleton] at this ⊢
      omega
  unfold val
  cases Pu.spec_StreamOk.v st t (ins r id)
  · exact ⟨hr, by simp⟩
  · cases decide (Pu.spec_l14At.v st t r id ≥ 0)
    · exact ⟨hi.1, by simp [hi.2]⟩
    · exact ⟨hr, by simp⟩
end Go.FG.Pu.impl_StreamJoin

namespace Go.FG.Pu.spec_Decimal
theorem ok (n : Int) (h0 : 0 ≤ n) (h1 : n < 10000) : ∃ d, c n = true ∧ v n = d ∧ d.size ≤ 10001 := by
  by_cases hz : n = 0
  · obtain ⟨e1, e2⟩ := out n (x := { data := #[UInt8.ofNat 48] }) (by unfold vo b; rw [decide_eq_true hz, cond_true])
    exact ⟨_, e1, e2, by decide⟩
  · have key := Lib.loop_post (fun m (z : Int × ByteArray) => l5 Lib.big (fun (_ : Int) (y4 : Bool) (y5 : ByteArray) => bif y4 then (bif (decide (ByteArray.size { data := #[UInt8.ofNat 45] } + ByteArray.size y5 ≤ 4611686018427387904)) then (some ({ data := #[UInt8.ofNat 45] } ++ y5)) else (none)) else (some y5)) m z.1 false z.2) (fun z => z.1.toNat) (fun z => 0 ≤ z.1 ∧ z.1 < 10000 ∧ (z.2.size : Int) ≤ 10000 - z.1) (fun d => d.size ≤ 10001) (fun m z hz => by
      obtain ⟨x, t⟩ := z
      obtain ⟨g0, g1, g2⟩ := hz
      dsimp only at g0 g1 g2 ⊢
      by_cases hx : x = 0
      · left
        subst hx
        exact ⟨t, by simp only [l5, r5, bne_self_eq_false, cond_false], by omega⟩
      · right
        have e1 : Int.tmod x 10 = x % 10 := Int.tmod_eq_emod_of_nonneg g0
        have e2 : Int.tdiv x 10 = x / 10 := Int.tdiv_eq_ediv_of_nonneg g0
        have e3 : w64 (x / 10) = x / 10 := Lib.w64_ok (by omega) (by omega)
        have e4 : decide (x % 10 < 0) = false := decide_eq_false (by omega)
        have e5 : (x != 0) = true := by simp [hx]
        have e6 : ∀ y, (bytesOf (List.set (zeros [Ck.i IntKind.u8] 1) 0 [CV.i IntKind.u8 y])).size = 1 := fun y => by rw [Lib.size_bytesOf]; rfl
        refine ⟨(x / 10, bytesOf (List.set (zeros [Ck.i IntKind.u8] 1) 0 [CV.i IntKind.u8 (Pu.spec_l01Figure.v (x % 10))]) ++ t), ⟨by dsimp only; omega, by dsimp only; omega, by dsimp only; rw [Lib.size_app, e6]; omega⟩, by dsimp only; omega, ?_⟩
        simp only [l5, r5, e1, e2, e3, e4, e5, e6, cond_true, cond_false, decide_eq_true (show 1 + t.size ≤ 4611686018427387904 by omega)]) Lib.big (n, ⟨#[]⟩) ⟨h0, h1, by show ((0 : Nat) : Int) ≤ _; omega⟩ (Lib.lt_big (by dsimp only; omega))
    obtain ⟨d, hd, hs⟩ := key
    obtain ⟨e1, e2⟩ := out n (x := d) (by
      unfold vo b
      rw [decide_eq_false hz, cond_false, decide_eq_false (show ¬ n < 0 by omega)]; exact hd)
    exact ⟨d, e1, e2, hs⟩
end Go.FG.Pu.spec_Decimal

namespace Go.FG.Pu.laws_begins
theorem ok (a t : ByteArray) (h : a.size ≤ t.size) (h2 : t.extract 0 a.size = a) : c a t = true ∧ v a t = true := by
  refine out a t ?_
  unfold vo b
  rw [decide_eq_true (show (a.size : Int) ≤ (t.size : Int) by omega), cond_true, show inB 0 (a.size : Int) (t.size : Int) = true by simp [inB]; omega, cond_true]
  rw [show Int.toNat 0 = 0 from rfl, Int.toNat_natCast, h2, Lib.beq_self]
end Go.FG.Pu.laws_begins

namespace Go.FG.Pu.spec_l01New
theorem ok (q : Row) (hl : q.length ≤ 1048576) : ∃ h, c q = true ∧ v q = (q, 0, h) := by
  have key := Lib.loop_post (fun n (s : Nat × Int) => l3 Lib.big (fun (y3 : Row) (y4 _ : Int) => some (y3, (0 : Int), y4)) n q s.2 (s.1 : Int)) (fun s => q.length - s.1) (fun s => s.1 ≤ q.length) (fun r => ∃ h, r = (q, 0, h)) (fun n s hs => by
    obtain ⟨i, h⟩ := s
    dsimp only at hs ⊢
    by_cases hi : i < q.length
    · by_cases h4 : (i : Int) < 4000
      · right
        have hi1 : w64 ((i : Int) + 1) = ((i + 1 : Nat) : Int) := Lib.w64_ok (by omega) (by omega)
        have e : ∃ h', l3 Lib.big (fun (y3 : Row) (y4 _ : Int) => some (y3, (0 : Int), y4)) (n + 1) q h (i : Int) = l3 Lib.big (fun (y3 : Row) (y4 _ : Int) => some (y3, (0 : Int), y4)) n q h' ((i + 1 : Nat) : Int) :=
          ⟨_, by simp only [l3, r3, Lib.dlt, hi, h4, decide_true, Lib.dle0, Bool.and_self, cond_true, Lib.toN, hi1]; rfl⟩
        obtain ⟨h', e⟩ := e
        exact ⟨(i + 1, h'), hi, by dsimp only; omega, e⟩
      · left
        exact ⟨_, by simp only [l3, r3, Lib.dlt, hi, h4, decide_true, decide_false, cond_true, cond_false]; rfl, _, rfl⟩
    · left
      exact ⟨_, by simp only [l3, r3, Lib.dlt, hi, decide_false, cond_false]; rfl, _, rfl⟩) Lib.big (0, w64 (34901 + (q.length : Int))) (Nat.zero_le _) (Lib.lt_big (by omega))
  obtain ⟨b', hb, h, rfl⟩ := key
  obtain ⟨e1, e2⟩ := out q (x := (q, 0, h)) hb
  exact ⟨h, e1, e2⟩
end Go.FG.Pu.spec_l01New

namespace Go.FG.Pu.spec_DrawStream
theorem ok (q : Row) (hl : q.length ≤ 1048576) : ∃ st t r, c q = true ∧ v q = (st, t, r) ∧ Pu.spec_l14Stream.J st t r := by
  obtain ⟨h, c1, v1⟩ := Pu.spec_l01New.ok q hl
  obtain ⟨st, t, r, a', s', c2, v2, I2, g⟩ := Pu.spec_l14Stream.ok q 0 h ⟨by omega, by omega, hl⟩
  obtain ⟨e1, e2⟩ := out q (x := (st, t, r)) (by
    unfold vo b
    simp only [c1, v1, c2, v2, cond_true])
  exact ⟨st, t, r, e1, e2, g⟩
end Go.FG.Pu.spec_DrawStream

namespace Go.FG.Pu.spec_DrawPlaces
/-- Twelve numbers. -/
theorem ok (q : Row) (hl : q.length ≤ 1048576) : ∃ p, c q = true ∧ v q = p ∧ p.length = 12 ∧ ∀ i, i < 12 → 0 ≤ cvI (cellAt p i 0) ∧ cvI (cellAt p i 0) < 10000 := by
  obtain ⟨h, c1, v1⟩ := Pu.spec_l01New.ok q hl
  obtain ⟨n0, a0, s0, c0, v0, I0, g0, u0⟩ := Pu.spec_l01Byte.ok q 0 h ⟨by omega, by omega, hl⟩
  have key := Lib.loop_post (fun n (z : Nat × Int × Int × Row) => l5 Lib.big (fun (_ : Int) (_ : Row) (_ _ : Int) (y9 : Row) => some y9) n (z.1 : Int) q z.2.1 z.2.2.1 z.2.2.2) (fun z => 12 - z.1) (fun z => z.1 ≤ 12 ∧ Pu.spec_l01Byte.I q z.2.1 ∧ z.2.2.2.length = z.1 ∧ ∀ i, i < z.1 → 0 ≤ cvI (cellAt z.2.2.2 i 0) ∧ cvI (cellAt z.2.2.2 i 0) < 10000) (fun p => p.length = 12 ∧ ∀ i, i < 12 → 0 ≤ cvI (cellAt p i 0) ∧ cvI (cellAt p i 0) < 10000) (fun n z hz => by
    obtain ⟨i, a, s, p⟩ := z
    obtain ⟨h1, h2, h3, h4⟩ := hz
    dsimp only at h1 h2 h3 h4 ⊢
    by_cases hi : (i : Int) < 12
    · right
      have hi1 : w64 ((i : Int) + 1) = ((i + 1 : Nat) : Int) := Lib.w64_ok (by omega) (by omega)
      obtain ⟨n1, a1, s1, c1, v1, I1, g1, u1⟩ := Pu.spec_l01Below.ok q a s 10000 h2
      have u1' := u1 (by omega)
      refine ⟨(i + 1, a1, s1, p ++ [[CV.i IntKind.i64 n1]]), ⟨by dsimp only; omega, I1, by simp [h3], fun j hj => ?_⟩, by dsimp only; omega, ?_⟩
      · dsimp only at hj ⊢
        by_cases hji : j < i
        · have := h4 j hji
          rw [show cellAt (p ++ [[CV.i IntKind.i64 n1]]) j 0 = cellAt p j 0 from by
            unfold cellAt; congr 1; rw [List.getD_eq_getElem?_getD, List.getD_eq_getElem?_getD, List.getElem?_append_left (by omega)]]
          exact this
        · have hj2 : j = p.length := by omega
          rw [show cellAt (p ++ [[CV.i IntKind.i64 n1]]) j 0 = CV.i IntKind.i64 n1 from by
            rw [Lib.cellAt_mid p [CV.i IntKind.i64 n1] [] j 0 hj2.symm]; rfl]
          exact ⟨g1, u1'⟩
      · simp only [l5, r5, c1, v1, hi1, decide_eq_true hi, cond_true, Lib.len_set1, List.length_singleton, Lib.roomy_of (n := p.length + 1) (b := 8) (by omega) (by omega)]
    · left
      have : i = 12 := by omega
      subst this
      exact ⟨p, by simp only [l5, r5, decide_eq_false hi, cond_false], h3, h4⟩) Lib.big (0, a0, s0, []) ⟨by omega, I0, rfl, fun i hi => absurd hi (Nat.not_lt_zero i)⟩ (Lib.lt_big (by dsimp only; omega))
  obtain ⟨p, hb, h1, h2⟩ := key
  obtain ⟨e1, e2⟩ := out q (x := p) (by
    unfold vo b
    rw [c1, cond_true, v1]; dsimp only
    rw [c0, cond_true, v0]; exact hb)
  exact ⟨p, e1, e2, h1, h2⟩
end Go.FG.Pu.spec_DrawPlaces

namespace Go.FG.Pu.laws_FnStreams
def S (t : ByteArray) (r : Row) (got : ByteArray) : Prop := (∃ k, k < r.length ∧ Pu.spec_l14At.v 0 t r 9 = (k : Int) ∧ cvI (cellAt r k 1) = got.size ∧ got.size ≤ t.size ∧ t.extract 0 got.size = got) ∨ (¬ Pu.spec_l14At.v 0 t r 9 ≥ 0 ∧ got = ⟨#[]⟩)
theorem cellAt_set {r : Row} {k : Nat} (hk : k < r.length) (y : List CV) (i j : Nat) : cellAt (r.set k y) i j = if i = k then y.getD j (.b false) else cellAt r i j := by
  unfold cellAt
  by_cases h : i = k
  · subst h
    rw [if_pos rfl]
    congr 1
    rw [List.getD_eq_getElem?_getD, List.getElem?_set_self hk]; rfl
  · rw [if_neg h]
    congr 1
    rw [List.getD_eq_getElem?_getD, List.getD_eq_getElem?_getD, List.getElem?_set_ne (fun e => h e.symm)]
theorem readA {st : Int} {t : ByteArray} {r : Row} {got : ByteArray} (h : Pu.spec_l14Stream.J st t r) (m : Int) (hm : 0 ≤ m) (k : Nat) (hk : k < r.length) (hat : Pu.spec_l14At.v 0 t r 9 = (k : Int)) (hc : cvI (cellAt r k 1) = got.size) (hg : got.size ≤ t.size) (he : t.extract 0 got.size = got) :
    ∃ r2 part, Pu.impl_StreamRead.v st t r 9 m = (st, t, r2, part, true) ∧ (part.size : Int) ≤ m ∧ Pu.spec_l14Stream.J st t r2 ∧ (∃ k, k < r2.length ∧ Pu.spec_l14At.v 0 t r2 9 = (k : Int) ∧ cvI (cellAt r2 k 1) = (got ++ part).size ∧ (got ++ part).size ≤ t.size ∧ t.extract 0 (got ++ part).size = got ++ part) ∧ ((t.size : Int) ≤ m → got ++ part = t) := by
  have hJ := Pu.spec_l14Stream.read h 9 m
  have hev : Pu.impl_StreamRead.v st t r 9 m = Pu.spec_StreamRead.v st t r 9 m := rfl
  rw [hev]
  have hat' : Pu.spec_l14At.v st t r 9 = (k : Int) := hat
  have ev : Pu.spec_StreamRead.v st t r 9 m = (st, t, setC r k 1 [CV.i IntKind.i64 (Pu.spec_StreamRead.e t r k m)], t.extract got.size (Pu.spec_StreamRead.e t r k m).toNat, true) := by
    unfold Pu.spec_StreamRead.v
    rw [if_pos ⟨h.1, by rw [hat']; omega⟩, hat', Int.toNat_natCast, hc]; rfl
  rw [ev] at hJ ⊢
  have eb : (got.size : Int) ≤ Pu.spec_StreamRead.e t r k m ∧ Pu.spec_StreamRead.e t r k m ≤ t.size ∧ Pu.spec_StreamRead.e t r k m - got.size ≤ m ∧ ((t.size : Int) ≤ m → Pu.spec_StreamRead.e t r k m = t.size) := by
    unfold Pu.spec_StreamRead.e
    rw [Int.toNat_natCast, hc]
    simp only [minmax, cond_true, cond_false]
    (repeat' split) <;> omega
  generalize Pu.spec_StreamRead.e t r k m = e at eb hJ
  obtain ⟨e0, rfl⟩ : ∃ e0 : Nat, e = (e0 : Int) := ⟨e.toNat, by omega⟩
  rw [Int.toNat_natCast]
  have hjoin : got ++ t.extract got.size e0 = t.extract 0 e0 := by
    conv => lhs; lhs; rw [← he]
    exact Lib.ext_app t (Nat.zero_le _) (by omega)
  have hsz : (got ++ t.extract got.size e0).size = e0 := by
    rw [hjoin, ByteArray.size_extract]; omega
  have hs : setC r k 1 [CV.i IntKind.i64 (e0 : Int)] = r.set k [CV.i IntKind.i64 (cvI (r[k].getD 0 (.b false))), CV.i IntKind.i64 (e0 : Int)] := by
    rw [Lib.setC_eq hk]
    congr 1
    rw [← h.2 _ (List.getElem_mem hk)]; rfl
  refine ⟨_, _, rfl, ?_, hJ, ⟨k, ?_, ?_, ?_, ?_, ?_⟩, ?_⟩
  · rw [ByteArray.size_extract]; omega
  · rw [Lib.length_setC]; exact hk
  · rw [← hat]
    unfold Pu.spec_l14At.v
    rw [Lib.length_setC]
    congr 1
    funext i
    rw [hs, cellAt_set hk]
    by_cases hi : i = k
    · rw [if_pos hi, hi, Lib.cellAt_of hk]; rfl
    · rw [if_neg hi]
  · rw [hs, cellAt_set hk, if_pos rfl, hsz]; rfl
  · rw [hsz]; omega
  · rw [hsz]; exact hjoin.symm
  · intro hm2
    have := eb.2.2.2 hm2
    rw [hjoin, show e0 = t.size by omega]; exact Lib.ext_all t
theorem readB {st : Int} {t : ByteArray} {r : Row} (m : Int) (h : ¬ Pu.spec_l14At.v 0 t r 9 ≥ 0) : Pu.impl_StreamRead.v st t r 9 m = (st, t, r, ⟨#[]⟩, false) := by
  have hev : Pu.impl_StreamRead.v st t r 9 m = Pu.spec_StreamRead.v st t r 9 m := rfl
  rw [hev]
  unfold Pu.spec_StreamRead.v
  rw [if_neg (fun q => h q.2)]
theorem putS {st : Int} {t : ByteArray} {r : Row} {got : ByteArray} (h : Pu.spec_l14Stream.J st t r) (hS : S t r got) (p : ByteArray) : ∃ t2 o, Pu.impl_StreamPut.v st t r p = (st, t2, r, o) ∧ Pu.spec_l14Stream.J st t2 r ∧ S t2 r got := by
  have hJ := Pu.spec_l14Stream.put h p
  have hev : Pu.impl_StreamPut.v st t r p = Pu.spec_StreamPut.v st t r p := rfl
  rw [hev]
  unfold Pu.spec_StreamPut.v at hJ ⊢
  split
  · rename_i hc
    rw [if_pos hc] at hJ
    refine ⟨_, _, rfl, hJ, ?_⟩
    rcases hS with ⟨k, k1, k2, k3, k4, k5⟩ | ⟨k1, k2⟩
    · refine .inl ⟨k, k1, k2, k3, by rw [Lib.size_app]; omega, ?_⟩
      conv => rhs; rw [← k5]
      apply Lib.ba_ext
      simp only [ByteArray.data_extract, ByteArray.data_append, Array.toList_extract, Array.toList_append, List.extract_eq_take_drop, List.drop_zero, Nat.sub_zero]
      exact List.take_append_of_le_length k4
    · exact .inr ⟨k1, k2⟩
  · exact ⟨_, _, rfl, h, hS⟩
/-- Where the rounds begin. -/
theorem init {st : Int} {t : ByteArray} {r : Row} (h : Pu.spec_l14Stream.J st t r) : ∃ r2 o, Pu.impl_StreamJoin.val st t (Pu.slices_DeleteFunc_Reader.v r 9) 9 = (st, t, r2, o) ∧ Pu.spec_l14Stream.J st t r2 ∧ S t r2 ⟨#[]⟩ := by
  have hl : Pu.spec_l14Stream.J st t (Pu.slices_DeleteFunc_Reader.v r 9) := h.of h.len.2.2 h.len.2.1 (Nat.le_refl _) List.filter_sublist
  have hno : ¬ Pu.spec_l14At.v 0 t (Pu.slices_DeleteFunc_Reader.v r 9) 9 ≥ 0 := by
    intro hge
    unfold Pu.spec_l14At.v at hge
    rcases Lib.fi_rng (fun i => decide (cvI (cellAt (Pu.slices_DeleteFunc_Reader.v r 9) i 0) = 9)) (Pu.slices_DeleteFunc_Reader.v r 9).length 0 with ⟨h1, _⟩ | ⟨k, h1, h2, h3, h4, _⟩
    · rw [h1] at hge; omega
    · have hk : k < (Pu.slices_DeleteFunc_Reader.v r 9).length := by omega
      have hm : (Pu.slices_DeleteFunc_Reader.v r 9)[k] ∈ r.filter (Pu.slices_DeleteFunc_Reader.keep 9) := List.getElem_mem hk
      have h5 := (List.mem_filter.1 hm).2
      unfold Pu.slices_DeleteFunc_Reader.keep at h5
      rw [Lib.cellAt_of hk] at h4
      rw [h4] at h5; cases h5
  generalize Pu.slices_DeleteFunc_Reader.v r 9 = rl at hl hno
  have hJ := Pu.spec_l14Stream.join hl 9
  rw [← Pu.impl_StreamJoin.same st t rl 9 hl.2] at hJ
  have hB : S t rl ⟨#[]⟩ := .inr ⟨hno, rfl⟩
  have hno2 : ∀ y ∈ rl, Pu.spec_StreamJoin.ide y ≠ 9 := Pu.impl_StreamJoin.at_no (st := 0) hno
  unfold Pu.impl_StreamJoin.val at hJ ⊢
  cases ho : Pu.spec_StreamOk.v st t (Pu.impl_StreamJoin.ins rl 9) with
  | false => exact ⟨_, _, rfl, hl, hB⟩
  | true =>
    have hd : decide (Pu.spec_l14At.v st t rl 9 ≥ 0) = false := decide_eq_false hno
    rw [ho, hd] at hJ
    rw [hd]
    refine ⟨Pu.impl_StreamJoin.ins rl 9, true, rfl, hJ, ?_⟩
    have er := List.takeWhile_append_dropWhile (p := fun y => decide (Pu.spec_StreamJoin.ide y < 9)) (l := rl)
    have hmem : ∀ y ∈ Pu.impl_StreamJoin.ins rl 9, Pu.spec_StreamJoin.ide y = 9 → y = Pu.spec_StreamJoin.nw 9 := by
      intro y hy h8
      unfold Pu.impl_StreamJoin.ins at hy
      simp only [List.mem_append, List.mem_singleton] at hy
      rcases hy with (q | q) | q
      · exact absurd h8 (hno2 y (by rw [← er]; exact List.mem_append_left _ q))
      · exact q
      · exact absurd h8 (hno2 y (by rw [← er]; exact List.mem_append_right _ q))
    have hin : Pu.spec_StreamJoin.nw 9 ∈ Pu.impl_StreamJoin.ins rl 9 := by
      unfold Pu.impl_StreamJoin.ins; simp
    generalize Pu.impl_StreamJoin.ins rl 9 = r2 at hmem hin
    left
    unfold Pu.spec_l14At.v
    rcases Lib.fi_rng (fun i => decide (cvI (cellAt r2 i 0) = 9)) r2.length 0 with ⟨_, h2⟩ | ⟨k, h1, h2, h3, h4, _⟩
    · exfalso
      obtain ⟨i, hi, he⟩ := List.mem_iff_getElem.1 hin
      have := h2 i (Nat.zero_le _) (by omega)
      rw [Lib.cellAt_of hi, he] at this
      exact absurd rfl (of_decide_eq_false this)
    · have hk : k < r2.length := by omega
      refine ⟨k, hk, h3, ?_, Nat.zero_le _, ?_⟩
      · have h5 := of_decide_eq_true h4
        rw [Lib.cellAt_of hk] at h5 ⊢
        rw [hmem _ (List.getElem_mem hk) h5]; rfl
      · apply Lib.ba_ext
        simp only [ByteArray.data_extract, Array.toList_extract, List.extract_eq_take_drop, List.drop_zero]
        rfl
theorem last_no {r : Row} (h : ∀ y ∈ r, Pu.spec_StreamJoin.ide y ≠ 9) (hp : (r.length : Int) > 0) (hl : r.length ≤ 6) : w64 ((r.length : Int) - 1) = ((r.length - 1 : Nat) : Int) ∧ r.length - 1 < r.length ∧ decide (cvI (cellAt r (r.length - 1) 0) = 9) = false := by
  have hlt : r.length - 1 < r.length := by omega
  refine ⟨by rw [Lib.w64_ok (by omega) (by omega)]; omega, hlt, ?_⟩
  rw [Lib.cellAt_of hlt]
  exact decide_eq_false (h _ (List.getElem_mem hlt))
/-- One round. -/
theorem step (p : Row) (hp : p.length = 12) (hpr : ∀ i, i < 12 → 0 ≤ cvI (cellAt p i 0) ∧ cvI (cellAt p i 0) < 10000) (K0 K1 : Bool → ByteArray → Int → Int → ByteArray → Row → Row → Option Bool) (n i : Nat) (hi : i < 12) {st : Int} {t : ByteArray} {r : Row} {got : ByteArray} (hJ : Pu.spec_l14Stream.J st t r) (hS : S t r got) :
    ∃ t2 r2 got2, Pu.spec_l14Stream.J st t2 r2 ∧ S t2 r2 got2 ∧ l8 Lib.big K0 K1 (n + 1) false got (i : Int) st t p r = l8 Lib.big K0 K1 n false got2 ((i + 1 : Nat) : Int) st t2 p r2 := by
  have hi1 : w64 ((i : Int) + 1) = ((i + 1 : Nat) : Int) := Lib.w64_ok (by omega) (by omega)
  have hi12 : decide ((i : Int) < 12) = true := decide_eq_true (by omega)
  have hip : decide ((i : Int) < (p.length : Int)) = true := decide_eq_true (by omega)
  have hq := hpr i hi
  have hm : Int.tmod (cvI (cellAt p i 0)) 7 = cvI (cellAt p i 0) % 7 := Int.tmod_eq_emod_of_nonneg hq.1
  have hso : ∀ {a : Int} {b : ByteArray} {c : Row}, Pu.spec_l14Stream.J a b c → Pu.impl_StreamOk.v a b c = true := fun h => h.1
  obtain ⟨d, dc, dv, ds⟩ := Pu.spec_Decimal.ok _ hq.1 hq.2
  -- what is read of a stream that is right
  have rd : ∀ (t2 : ByteArray), Pu.spec_l14Stream.J st t2 r → S t2 r got → Pu.impl_StreamRead.c st t2 r 9 (cvI (cellAt p i 0) % 7) = true ∧
      ((∃ r2 part, Pu.impl_StreamRead.v st t2 r 9 (cvI (cellAt p i 0) % 7) = (st, t2, r2, part, true) ∧ decide ((part.size : Int) > cvI (cellAt p i 0) % 7) = false ∧ decide (got.size + part.size ≤ 4611686018427387904) = true ∧ Pu.spec_l14Stream.J st t2 r2 ∧ S t2 r2 (got ++ part) ∧ (Pu.laws_begins.c (got ++ part) t2 = true ∧ Pu.laws_begins.v (got ++ part) t2 = true)) ∨
       (Pu.impl_StreamRead.v st t2 r 9 (cvI (cellAt p i 0) % 7) = (st, t2, r, ⟨#[]⟩, false) ∧ (∀ y ∈ r, Pu.spec_StreamJoin.ide y ≠ 9) ∧ (Pu.laws_begins.c got t2 = true ∧ Pu.laws_begins.v got t2 = true))) := by
    intro t2 h hS2
    have hl := h.len
    refine ⟨decide_eq_true (by omega), ?_⟩
    rcases hS2 with ⟨k, k1, k2, k3, k4, k5⟩ | ⟨k1, k2⟩
    · obtain ⟨r2, part, e1, e2, e3, ⟨k', e4⟩, _⟩ := readA h (cvI (cellAt p i 0) % 7) (by omega) k k1 k2 k3 k4 k5
      refine .inl ⟨r2, part, e1, decide_eq_false (by omega), decide_eq_true ?_, e3, .inl ⟨k', e4⟩, Pu.laws_begins.ok _ _ e4.2.2.2.1 e4.2.2.2.2⟩
      have := e4.2.2.2.1
      rw [Lib.size_app] at this; omega
    · refine .inr ⟨readB _ k1, Pu.impl_StreamJoin.at_no (st := 0) k1, ?_⟩
      subst k2
      refine Pu.laws_begins.ok _ _ (Nat.zero_le _) ?_
      apply Lib.ba_ext
      simp only [ByteArray.data_extract, Array.toList_extract, List.extract_eq_take_drop, List.drop_zero]
      rfl
  have h0 : decide (((⟨#[]⟩ : ByteArray).size : Int) > cvI (cellAt p i 0) % 7) = false := decide_eq_false (by show ¬ ((0 : Nat) : Int) > _; omega)
  have hl := hJ.len
  cases h3 : decide (Int.tmod (cvI (cellAt p i 0)) 3 = 0) with
  | true =>
    obtain ⟨t2, o, pv, hJ2, hS2⟩ := putS hJ hS ({ data := #[UInt8.ofNat 112, UInt8.ofNat 97, UInt8.ofNat 114, UInt8.ofNat 116] } ++ d)
    have pc : ∀ x, Pu.impl_StreamPut.c st t r x = true := fun x => decide_eq_true (by omega)
    have dz : decide (ByteArray.size { data := #[UInt8.ofNat 112, UInt8.ofNat 97, UInt8.ofNat 114, UInt8.ofNat 116] } + d.size ≤ 4611686018427387904) = true := decide_eq_true (by show 4 + d.size ≤ _; omega)
    obtain ⟨rc, hr⟩ := rd t2 hJ2 hS2
    rcases hr with ⟨r2, part, e1, e2, e3, e4, e5, e6, e7⟩ | ⟨e1, e2, e6, e7⟩
    · refine ⟨t2, r2, got ++ part, e4, e5, ?_⟩
      simp only [l8, r8, hi12, hip, Lib.dle0, Bool.and_self, Lib.toN, h3, dc, dv, dz, pc, pv, hm, rc, e1, e2, e3, e6, e7, hso e4, hi1, cond_true, cond_false, Bool.not_true]
    · refine ⟨t2, r, got, hJ2, hS2, ?_⟩
      by_cases hz : (r.length : Int) > 0
      · obtain ⟨q1, q2, q3⟩ := last_no e2 hz hl.1
        simp only [l8, r8, hi12, hip, Lib.dle0, Lib.dlt, q1, q2, q3, decide_eq_true hz, Bool.and_self, Lib.toN, h3, dc, dv, dz, pc, pv, hm, rc, e1, h0, e6, e7, hso hJ2, hi1, cond_true, cond_false, Bool.not_true, Bool.not_false, decide_true]
      · simp only [l8, r8, hi12, hip, Lib.dle0, decide_eq_false hz, Bool.and_self, Lib.toN, h3, dc, dv, dz, pc, pv, hm, rc, e1, h0, e6, e7, hso hJ2, hi1, cond_true, cond_false, Bool.not_true, Bool.not_false]
  | false =>
    obtain ⟨rc, hr⟩ := rd t hJ hS
    rcases hr with ⟨r2, part, e1, e2, e3, e4, e5, e6, e7⟩ | ⟨e1, e2, e6, e7⟩
    · refine ⟨t, r2, got ++ part, e4, e5, ?_⟩
      simp only [l8, r8, hi12, hip, Lib.dle0, Bool.and_self, Lib.toN, h3, hm, rc, e1, e2, e3, e6, e7, hso e4, hi1, cond_true, cond_false, Bool.not_true]
    · refine ⟨t, r, got, hJ, hS, ?_⟩
      by_cases hz : (r.length : Int) > 0
      · obtain ⟨q1, q2, q3⟩ := last_no e2 hz hl.1
        simp only [l8, r8, hi12, hip, Lib.dle0, Lib.dlt, q1, q2, q3, decide_eq_true hz, Bool.and_self, Lib.toN, h3, hm, rc, e1, h0, e6, e7, hso hJ, hi1, cond_true, cond_false, Bool.not_true, Bool.not_false, decide_true]
      · simp only [l8, r8, hi12, hip, Lib.dle0, decide_eq_false hz, Bool.and_self, Lib.toN, h3, hm, rc, e1, h0, e6, e7, hso hJ, hi1, cond_true, cond_false, Bool.not_true, Bool.not_false]
theorem run (q : Row) : vo q = some true := by
  unfold vo b
  by_cases hb : (q.length : Int) > 1048576
  · rw [show Pu.laws_big.v q = true from decide_eq_true hb]; rfl
  · rw [show Pu.laws_big.v q = false from decide_eq_false hb, cond_false]
    obtain ⟨st, t, r, c1, v1, hJ⟩ := Pu.spec_DrawStream.ok q (by omega)
    obtain ⟨p, c2, v2, hp, hpr⟩ := Pu.spec_DrawPlaces.ok q (by omega)
    have hl := hJ.len
    have k6 : Pu.impl_StreamLeave.c st t r 9 = true := by
      unfold Pu.impl_StreamLeave.c Pu.slices_DeleteFunc_Reader.c
      rw [show Pu.impl_copyStream.c st t r = true from decide_eq_true (by omega), Bool.true_and, List.all_eq_true]
      intro y hy
      rw [← hJ.2 y hy]; rfl
    have k7 := Pu.impl_StreamJoin.ok st t (Pu.slices_DeleteFunc_Reader.v r 9) 9 (by
      have : (Pu.slices_DeleteFunc_Reader.v r 9).length ≤ r.length := List.length_filter_le _ _
      omega)
    obtain ⟨r2, o, jv, hJ2, hS2⟩ := init hJ
    rw [c1, c2, v1, v2, cond_true, cond_true]; dsimp only
    rw [k6, cond_true, k7.1, cond_true, k7.2, jv]; dsimp only
    have key := Lib.loop_gen (fun n (z : Nat × ByteArray × Int × ByteArray × Row) => l8 Lib.big (fun (y7 : Bool) (_ : ByteArray) (_ _ : Int) (_ : ByteArray) (_ _ : Row) => some y7) (fun (_ : Bool) (y15 : ByteArray) (_ y17 : Int) (y18 : ByteArray) (_ y20 : Row) => bif (Pu.impl_StreamRead.c y17 y18 y20 9 1000) then (bif (Pu.impl_StreamRead.c (Pu.impl_StreamRead.v y17 y18 y20 9 1000).1 (Pu.impl_StreamRead.v y17 y18 y20 9 1000).2.1 (Pu.impl_StreamRead.v y17 y18 y20 9 1000).2.2.1 9 5) then (bif (!(Pu.impl_StreamRead.v y17 y18 y20 9 1000).2.2.2.2) then (some true) else (bif (decide (ByteArray.size y15 + ByteArray.size (Pu.impl_StreamRead.v y17 y18 y20 9 1000).2.2.2.1 ≤ 4611686018427387904)) then (bif (List.beq (ByteArray.toList (y15 ++ (Pu.impl_StreamRead.v y17 y18 y20 9 1000).2.2.2.1)) (ByteArray.toList y18)) then (some (List.beq (ByteArray.toList (Pu.impl_StreamRead.v (Pu.impl_StreamRead.v y17 y18 y20 9 1000).1 (Pu.impl_StreamRead.v y17 y18 y20 9 1000).2.1 (Pu.impl_StreamRead.v y17 y18 y20 9 1000).2.2.1 9 5).2.2.2.1) (ByteArray.toList { data := #[] }))) else (some false)) else (none))) else (none)) else (none)) n false z.2.1 (z.1 : Int) z.2.2.1 z.2.2.2.1 p z.2.2.2.2) (fun z => 12 - z.1) (fun z => z.1 ≤ 12 ∧ Pu.spec_l14Stream.J z.2.2.1 z.2.2.2.1 z.2.2.2.2 ∧ S z.2.2.2.1 z.2.2.2.2 z.2.1) (fun _ => some true) (fun n z hz => by
      obtain ⟨i, got, st, t, r⟩ := z
      obtain ⟨h1, h2, h3⟩ := hz
      dsimp only at h1 h2 h3 ⊢
      by_cases hi : i < 12
      · right
        obtain ⟨t2, r2, got2, j1, j2, j3⟩ := step p hp hpr _ _ n i hi h2 h3
        exact ⟨(i + 1, got2, st, t2, r2), ⟨hi, j1, j2⟩, by dsimp only; omega, rfl, j3⟩
      · left
        have hi12 : decide ((i : Int) < 12) = false := decide_eq_false (by omega)
        have hl := h2.len
        have rc : Pu.impl_StreamRead.c st t r 9 1000 = true := decide_eq_true (by omega)
        rcases h3 with ⟨k, k1, k2, k3, k4, k5⟩ | ⟨k1, k2⟩
        · obtain ⟨r2, part, e1, e2, e3, ⟨k', e4⟩, e5⟩ := readA h2 1000 (by omega) k k1 k2 k3 k4 k5
          have e6 := e5 (by omega)
          obtain ⟨g1, g2, g3, g4, g5⟩ := e4
          have hl2 := e3.len
          have rc2 : Pu.impl_StreamRead.c st t r2 9 5 = true := decide_eq_true (by omega)
          obtain ⟨r3, part2, f1, f2, f3, ⟨k'', f4⟩, _⟩ := readA e3 5 (by omega) k' g1 g2 g3 g4 g5
          have hz : part2.size = 0 := by
            have := f4.2.2.2.1
            rw [Lib.size_app, e6] at this; omega
          have hp2 : part2 = { data := #[] } := by
            apply Lib.ba_ext
            have : part2.data.toList.length = 0 := hz
            rw [List.length_eq_zero_iff.1 this]
          have hsz : decide (got.size + part.size ≤ 4611686018427387904) = true := decide_eq_true (by
            have := congrArg ByteArray.size e6
            rw [Lib.size_app] at this; omega)
          simp only [l8, r8, hi12, rc, e1, rc2, f1, hsz, e6, hp2, Lib.beq_self, cond_true, cond_false, Bool.not_true]
        · have e1 := readB (st := st) (t := t) 1000 k1
          have rc2 : Pu.impl_StreamRead.c st t r 9 5 = true := decide_eq_true (by omega)
          simp only [l8, r8, hi12, rc, e1, rc2, cond_true, cond_false, Bool.not_false]) Lib.big (0, ⟨#[]⟩, st, t, r2) ⟨by omega, hJ2, hS2⟩ (Lib.lt_big (by dsimp only; omega))
    exact key
theorem law (q : Row) {A : Prop} (_ : A) : v q = true := (out q (run q)).2
theorem lawc (q : Row) {A : Prop} (_ : A) : c q = true := (out q (run q)).1
end Go.FG.Pu.laws_FnStreams

