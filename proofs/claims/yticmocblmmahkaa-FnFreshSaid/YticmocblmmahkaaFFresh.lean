/- What the functions come to, in plain numbers, texts and lists; last the law itself. No condition but those that each states. -/
import Derived.Test.YticmocblmmahkaaPFresh
set_option linter.unusedVariables false
set_option linter.unusedSimpArgs false
set_option maxRecDepth 100000
namespace Go.FG.Pu.spec_l01Byte
/-- Where a draw stands in its bytes. -/
def I (q : Row) (a : Int) : Prop := 0 ≤ a ∧ a ≤ (q.length : Int) ∧ q.length ≤ 1048576
theorem rng (x : BitVec 64) : 0 ≤ w64 ((BitVec.toNat (BitVec.and x (BitVec.ofInt 64 255)) : Nat) : Int) ∧ w64 ((BitVec.toNat (BitVec.and x (BitVec.ofInt 64 255)) : Nat) : Int) ≤ 255 := by
  have h : BitVec.toNat (BitVec.and x (BitVec.ofInt 64 255)) ≤ 255 := by
    have e : BitVec.toNat (BitVec.and x (BitVec.ofInt 64 255)) = x.toNat &&& 255 := BitVec.toNat_and x (BitVec.ofInt 64 255)
    rw [e]; exact Nat.and_le_right
  rw [Lib.w64_ok (by omega) (by omega)]; omega
theorem ok (q : Row) (a s : Int) (hI : I q a) : ∃ n a' s', c q a s = true ∧ v q a s = (n, q, a', s') ∧ I q a' ∧ 0 ≤ n ∧ n ≤ 255 := by
  obtain ⟨h0, h1, h2⟩ := hI
  by_cases h : a < (q.length : Int)
  · have hw : w64 (a + 1) = a + 1 := Lib.w64_ok (by omega) (by omega)
    have hvo : ∃ n s', vo q a s = some (n, q, a + 1, s') ∧ 0 ≤ n ∧ n ≤ 255 := by
      unfold vo b
      rw [decide_eq_true h, decide_eq_true h0, cond_true, Bool.and_self, cond_true, hw]
      exact ⟨_, _, rfl, rng _⟩
    obtain ⟨n, s', hv, hr⟩ := hvo
    obtain ⟨e1, e2⟩ := out q a s hv
    exact ⟨n, a + 1, s', e1, e2, ⟨by omega, by omega, h2⟩, hr⟩
  · have hvo : ∃ n s', vo q a s = some (n, q, a, s') ∧ 0 ≤ n ∧ n ≤ 255 := by
      unfold vo b
      rw [decide_eq_false h, cond_false]
      exact ⟨_, _, rfl, rng _⟩
    obtain ⟨n, s', hv, hr⟩ := hvo
    obtain ⟨e1, e2⟩ := out q a s hv
    exact ⟨n, a, s', e1, e2, ⟨h0, h1, h2⟩, hr⟩
end Go.FG.Pu.spec_l01Byte

namespace Go.FG.Pu.spec_l01Below
theorem ok (q : Row) (a s k : Int) (hI : Pu.spec_l01Byte.I q a) : ∃ n a' s', c q a s k = true ∧ v q a s k = (n, q, a', s') ∧ Pu.spec_l01Byte.I q a' ∧ 0 ≤ n ∧ (0 < k → n < k) := by
  by_cases hk : k ≤ 0
  · obtain ⟨e1, e2⟩ := out q a s k (x := (0, q, a, s)) (by unfold vo b; rw [decide_eq_true hk, cond_true])
    exact ⟨0, a, s, e1, e2, hI, by omega, fun h => by omega⟩
  · have hm : ∀ x : Int, 0 ≤ x → 0 ≤ Int.tmod x k ∧ Int.tmod x k < k := fun x hx => by
      rw [Int.tmod_eq_emod_of_nonneg hx]
      exact ⟨Int.emod_nonneg _ (by omega), Int.emod_lt_of_pos _ (by omega)⟩
    have hk0 : ¬ k = 0 := by omega
    obtain ⟨n1, a1, s1, c1, v1, I1, g1, u1⟩ := Pu.spec_l01Byte.ok q a s hI
    by_cases h2 : k ≤ 256
    · obtain ⟨e1, e2⟩ := out q a s k (x := (Int.tmod n1 k, q, a1, s1)) (by
        unfold vo b
        simp only [hk, h2, hk0, c1, v1, decide_true, decide_false, cond_true, cond_false, Bool.not_false])
      exact ⟨_, a1, s1, e1, e2, I1, (hm n1 g1).1, fun _ => (hm n1 g1).2⟩
    · obtain ⟨n2, a2, s2, c2, v2, I2, g2, u2⟩ := Pu.spec_l01Byte.ok q a1 s1 I1
      obtain ⟨n3, a3, s3, c3, v3, I3, g3, u3⟩ := Pu.spec_l01Byte.ok q a2 s2 I2
      obtain ⟨n4, a4, s4, c4, v4, I4, g4, u4⟩ := Pu.spec_l01Byte.ok q a3 s3 I3
      have w1 : w64 (n1 * 16777216) = n1 * 16777216 := Lib.w64_ok (by omega) (by omega)
      have w2 : w64 (n2 * 65536) = n2 * 65536 := Lib.w64_ok (by omega) (by omega)
      have w3 : w64 (n3 * 256) = n3 * 256 := Lib.w64_ok (by omega) (by omega)
      have w4 : w64 (n1 * 16777216 + n2 * 65536) = n1 * 16777216 + n2 * 65536 := Lib.w64_ok (by omega) (by omega)
      have w5 : w64 (n1 * 16777216 + n2 * 65536 + n3 * 256) = n1 * 16777216 + n2 * 65536 + n3 * 256 := Lib.w64_ok (by omega) (by omega)
      have w6 : w64 (n1 * 16777216 + n2 * 65536 + n3 * 256 + n4) = n1 * 16777216 + n2 * 65536 + n3 * 256 + n4 := Lib.w64_ok (by omega) (by omega)
      obtain ⟨e1, e2⟩ := out q a s k (x := (Int.tmod (n1 * 16777216 + n2 * 65536 + n3 * 256 + n4) k, q, a4, s4)) (by
        unfold vo b
        simp only [hk, h2, hk0, c1, v1, c2, v2, c3, v3, c4, v4, w1, w2, w3, w4, w5, w6, decide_true, decide_false, cond_true, cond_false, Bool.not_false])
      have := hm (n1 * 16777216 + n2 * 65536 + n3 * 256 + n4) (by omega)
      exact ⟨_, a4, s4, e1, e2, I4, this.1, fun _ => this.2⟩
end Go.FG.Pu.spec_l01Below

namespace Go.FG.Pu.spec_l01Pick
theorem ok (q : Row) (a s : Int) (l : Row) (hI : Pu.spec_l01Byte.I q a) (hl : 0 < l.length) : ∃ i a' s', c q a s l = true ∧ v q a s l = (cvS (cellAt l i 0), q, a', s', l) ∧ Pu.spec_l01Byte.I q a' ∧ i < l.length := by
  obtain ⟨n1, a1, s1, c1, v1, I1, g1, u1⟩ := Pu.spec_l01Below.ok q a s (l.length : Int) hI
  have hu := u1 (by omega)
  obtain ⟨e1, e2⟩ := out q a s l (x := (cvS (cellAt l n1.toNat 0), q, a1, s1, l)) (by
    unfold vo b
    simp only [c1, v1, g1, hu, decide_true, Bool.and_self, cond_true])
  exact ⟨n1.toNat, a1, s1, e1, e2, I1, by omega⟩
end Go.FG.Pu.spec_l01Pick

namespace Go.FG.Pu.spec_l12Key
theorem ok (q : Row) (a s : Int) (hI : Pu.spec_l01Byte.I q a) : ∃ k a' s', c q a s = true ∧ v q a s = (k, q, a', s') ∧ Pu.spec_l01Byte.I q a' ∧ k.size = 2 := by
  obtain ⟨i, a1, s1, c1, v1, I1, g1⟩ := Pu.spec_l01Pick.ok q a s (List.set (List.set (List.set (List.set (List.set (List.set (List.set (List.set (zeros [Ck.s] 8) 0 [CV.s { data := #[UInt8.ofNat 47, UInt8.ofNat 97] }]) 1 [CV.s { data := #[UInt8.ofNat 47, UInt8.ofNat 98] }]) 2 [CV.s { data := #[UInt8.ofNat 47, UInt8.ofNat 99] }]) 3 [CV.s { data := #[UInt8.ofNat 47, UInt8.ofNat 100] }]) 4 [CV.s { data := #[UInt8.ofNat 47, UInt8.ofNat 101] }]) 5 [CV.s { data := #[UInt8.ofNat 47, UInt8.ofNat 102] }]) 6 [CV.s { data := #[UInt8.ofNat 47, UInt8.ofNat 103] }]) 7 [CV.s { data := #[UInt8.ofNat 47, UInt8.ofNat 104] }]) hI (by simp [zeros])
  obtain ⟨e1, e2⟩ := out q a s (x := (_, q, a1, s1)) (by
    unfold vo b
    simp only [c1, v1, cond_true]; rfl)
  refine ⟨_, a1, s1, e1, e2, I1, ?_⟩
  have g2 : i < 8 := by simpa [zeros] using g1
  match i, g2 with
  | 0, _ => rfl
  | 1, _ => rfl
  | 2, _ => rfl
  | 3, _ => rfl
  | 4, _ => rfl
  | 5, _ => rfl
  | 6, _ => rfl
  | 7, _ => rfl
end Go.FG.Pu.spec_l12Key

namespace Go.FG.Pu.spec_l01PickInt
theorem ok (q : Row) (a s : Int) (l : Row) (hI : Pu.spec_l01Byte.I q a) (hl : 0 < l.length) : ∃ i a' s', c q a s l = true ∧ v q a s l = (cvI (cellAt l i 0), q, a', s', l) ∧ Pu.spec_l01Byte.I q a' ∧ i < l.length := by
  obtain ⟨n1, a1, s1, c1, v1, I1, g1, u1⟩ := Pu.spec_l01Below.ok q a s (l.length : Int) hI
  have hu := u1 (by omega)
  obtain ⟨e1, e2⟩ := out q a s l (x := (cvI (cellAt l n1.toNat 0), q, a1, s1, l)) (by
    unfold vo b
    simp only [c1, v1, g1, hu, decide_true, Bool.and_self, cond_true])
  exact ⟨n1.toNat, a1, s1, e1, e2, I1, by omega⟩
end Go.FG.Pu.spec_l01PickInt

namespace Go.FG.Pu.spec_l01Text
theorem ok (q : Row) (a s k : Int) (hI : Pu.spec_l01Byte.I q a) : ∃ t a' s', c q a s k = true ∧ v q a s k = (t, q, a', s') ∧ Pu.spec_l01Byte.I q a' ∧ (t.size : Int) ≤ 5000 ∧ ((t.size : Int) = 0 ∨ (t.size : Int) ≤ k) := by
  have key := fun (m : Int) (hm : m ≤ 5000) => Lib.loop_post (fun n (z : Nat × Int × Int × Row) => l5 Lib.big (fun (_ _ : Int) (y8 : Row) (y9 y10 : Int) (y11 : Row) => bif (decide (List.length y11 ≤ 4611686018427387904)) then (some (bytesOf y11, y8, y9, y10)) else (none)) n m (z.1 : Int) q z.2.1 z.2.2.1 z.2.2.2) (fun z => 5000 - z.1) (fun z => (z.1 = 0 ∨ (z.1 : Int) ≤ m) ∧ Pu.spec_l01Byte.I q z.2.1 ∧ z.2.2.2.length = z.1) (fun r => ∃ t a' s', r = (t, q, a', s') ∧ Pu.spec_l01Byte.I q a' ∧ ((t.size : Int) = 0 ∨ (t.size : Int) ≤ m)) (fun n z hz => by
    obtain ⟨i, a, s, acc⟩ := z
    obtain ⟨h1, h2, h3⟩ := hz
    dsimp only at h1 h2 h3 ⊢
    by_cases h : (i : Int) < m
    · right
      obtain ⟨n1, a1, s1, c1, v1, I1, g1, u1⟩ := Pu.spec_l01Byte.ok q a s h2
      have hi1 : w64 ((i : Int) + 1) = ((i + 1 : Nat) : Int) := Lib.w64_ok (by omega) (by omega)
      refine ⟨(i + 1, a1, s1, acc ++ [[CV.i IntKind.u8 (IntKind.wrap IntKind.u8 n1)]]), ⟨by right; dsimp only; omega, I1, by simp [h3]⟩, by dsimp only; omega, ?_⟩
      simp only [l5, r5, h, decide_true, cond_true, c1, v1, hi1, Lib.len_set1, List.length_singleton, Lib.roomy1 (n := acc.length + 1) (by omega)]
    · left
      refine ⟨_, by simp only [l5, r5, h, decide_false, cond_false, decide_eq_true (show acc.length ≤ 4611686018427387904 by omega), cond_true], bytesOf acc, a, s, rfl, h2, ?_⟩
      rw [size_bytesOf, h3]; omega) Lib.big (0, a, s, []) ⟨.inl rfl, hI, rfl⟩ (Lib.lt_big (by omega))
  by_cases hk : k > 5000
  · obtain ⟨b', hb, t, a', s', rfl, hI', hs⟩ := key 5000 (by omega)
    obtain ⟨e1, e2⟩ := out q a s k (x := (t, q, a', s')) (by
      unfold vo b
      rw [decide_eq_true hk, cond_true]; exact hb)
    exact ⟨t, a', s', e1, e2, hI', by omega, by omega⟩
  · obtain ⟨b', hb, t, a', s', rfl, hI', hs⟩ := key k (by omega)
    obtain ⟨e1, e2⟩ := out q a s k (x := (t, q, a', s')) (by
      unfold vo b
      rw [decide_eq_false hk, cond_false]; exact hb)
    exact ⟨t, a', s', e1, e2, hI', by omega, by omega⟩
end Go.FG.Pu.spec_l01Text

namespace Go.FG.Pu.spec_l15Entry
/-- What a drawn entry is. -/
def dr (k : ByteArray) (s l : Int) (t : ByteArray) : Prop := k.size = 2 ∧ 1 ≤ s ∧ s ≤ 20 ∧ (l = 1 ∨ l = 5 ∨ l = 60 ∨ l = 999999) ∧ t.size ≤ 8
theorem ok (q : Row) (a s : Int) (hI : Pu.spec_l01Byte.I q a) : ∃ k st l t a' s', c q a s = true ∧ v q a s = (k, st, l, t, q, a', s') ∧ Pu.spec_l01Byte.I q a' ∧ dr k st l t := by
  obtain ⟨k, a1, s1, c1, v1, I1, g1⟩ := Pu.spec_l12Key.ok q a s hI
  obtain ⟨n2, a2, s2, c2, v2, I2, g2, u2⟩ := Pu.spec_l01Below.ok q a1 s1 20 I1
  obtain ⟨i, a3, s3, c3, v3, I3, g3⟩ := Pu.spec_l01PickInt.ok q a2 s2 (List.set (List.set (List.set (List.set (zeros [Ck.i IntKind.i64] 4) 0 [CV.i IntKind.i64 1]) 1 [CV.i IntKind.i64 5]) 2 [CV.i IntKind.i64 60]) 3 [CV.i IntKind.i64 999999]) I2 (by simp [zeros])
  obtain ⟨n4, a4, s4, c4, v4, I4, g4, u4⟩ := Pu.spec_l01Below.ok q a3 s3 9 I3
  obtain ⟨t, a5, s5, c5, v5, I5, g5, u5⟩ := Pu.spec_l01Text.ok q a4 s4 n4 I4
  have u2' := u2 (by omega)
  have u4' := u4 (by omega)
  have hw : w64 (1 + n2) = 1 + n2 := Lib.w64_ok (by omega) (by omega)
  obtain ⟨e1, e2⟩ := out q a s (x := (k, 1 + n2, _, t, q, a5, s5)) (by
    unfold vo b
    simp only [c1, v1, c2, v2, c3, v3, c4, v4, c5, v5, hw, cond_true]; rfl)
  refine ⟨k, 1 + n2, _, t, a5, s5, e1, e2, I5, g1, by omega, by omega, ?_, by omega⟩
  have g2 : i < 4 := by simpa [zeros] using g3
  match i, g2 with
  | 0, _ => exact .inl rfl
  | 1, _ => exact .inr (.inl rfl)
  | 2, _ => exact .inr (.inr (.inl rfl))
  | 3, _ => exact .inr (.inr (.inr rfl))
end Go.FG.Pu.spec_l15Entry

namespace Go.FG.Pu.spec_l01New
theorem ok (q : Row) (hl : q.length ≤ 1048576) : ∃ h, c q = true ∧ v q = (q, 0, h) := by
  have key := Lib.loop_post (fun n (s : Nat × Int) => l3 Lib.big (fun (y3 : Row) (y4 _ : Int) => some (y3, (0 : Int), y4)) n q s.2 (s.1 : Int)) (fun s => q.length - s.1) (fun s => s.1 ≤ q.length) (fun r => ∃ h, r = (q, 0, h)) (fun n s hs => by
    obtain ⟨i, h⟩ := s
    dsimp only at hs ⊢
    by_cases hi : i < q.length
    · by_cases h4 : (i : Int) < 4000
      · right
        have hi1 : w64 ((i : Int) + 1) = ((i + 1 : Nat) : Int) := Lib.w64_ok (by omega) (by omega)
        have e : ∃ h', l3 Lib.big (fun (y3 : Row) (y4 _ : Int) => some (y3, (0 : Int), y4)) (n + 1) q h (i : Int) = l3 Lib.big (fun (y3 : Row) (y4 _ : Int) => some (y3, (0 : Int), y4)) n q h' ((i + 1 : Nat) : Int) :=
          ⟨_, by simp only [l3, r3, Lib.dlt, hi, h4, decide_true, Lib.dle0, Bool.and_self, cond_true, Lib.toN, hi1]; rfl⟩
        obtain ⟨h', e⟩ := e
        exact ⟨(i + 1, h'), hi, by dsimp only; omega, e⟩
      · left
        exact ⟨_, by simp only [l3, r3, Lib.dlt, hi, h4, decide_true, decide_false, cond_true, cond_false]; rfl, _, rfl⟩
    · left
      exact ⟨_, by simp only [l3, r3, Lib.dlt, hi, decide_false, cond_false]; rfl, _, rfl⟩) Lib.big (0, w64 (34901 + (q.length : Int))) (Nat.zero_le _) (Lib.lt_big (by omega))
  obtain ⟨b', hb, h, rfl⟩ := key
  obtain ⟨e1, e2⟩ := out q (x := (q, 0, h)) hb
  exact ⟨h, e1, e2⟩
end Go.FG.Pu.spec_l01New

namespace Go.FG.Pu.spec_DrawEntry
theorem ok (q : Row) (hl : q.length ≤ 1048576) : ∃ k st l t, c q = true ∧ v q = (k, st, l, t) ∧ Pu.spec_l15Entry.dr k st l t := by
  obtain ⟨h, c1, v1⟩ := Pu.spec_l01New.ok q hl
  obtain ⟨k, st, l, t, a', s', c2, v2, I2, g⟩ := Pu.spec_l15Entry.ok q 0 h ⟨by omega, by omega, hl⟩
  obtain ⟨e1, e2⟩ := out q (x := (k, st, l, t)) (by
    unfold vo b
    simp only [c1, v1, c2, v2, cond_true])
  exact ⟨k, st, l, t, e1, e2, g⟩
end Go.FG.Pu.spec_DrawEntry

namespace Go.FG.Pu.spec_l01Long
theorem ok (n x : Int) (h0 : 0 ≤ n) (h1 : n ≤ 1048576) : ∃ t, c n x = true ∧ v n x = t ∧ (t.size : Int) = n := by
  have key := Lib.loop_post (fun m (z : Nat × Row) => l3 Lib.big (fun (_ _ _ : Int) (y7 : Row) => bif (decide (List.length y7 ≤ 4611686018427387904)) then (some (bytesOf y7)) else (none)) m n x (z.1 : Int) z.2) (fun z => n.toNat - z.1) (fun z => z.1 ≤ n.toNat ∧ z.2.length = n.toNat) (fun t => (t.size : Int) = n) (fun m z hz => by
    obtain ⟨i, acc⟩ := z
    obtain ⟨h2, h3⟩ := hz
    dsimp only at h2 h3 ⊢
    by_cases h : (i : Int) < n
    · right
      have hi1 : w64 ((i : Int) + 1) = ((i + 1 : Nat) : Int) := Lib.w64_ok (by omega) (by omega)
      have hi : i < acc.length := by omega
      refine ⟨(i + 1, setC acc i 0 [CV.i IntKind.u8 x]), ⟨by dsimp only; omega, by dsimp only; rw [Lib.length_setC]; exact h3⟩, by dsimp only; omega, ?_⟩
      simp only [l3, r3, h, hi, Lib.dlt, Lib.dle0, Lib.toN, Bool.and_self, decide_true, cond_true, hi1]
    · left
      refine ⟨_, by simp only [l3, r3, h, decide_false, cond_false, decide_eq_true (show acc.length ≤ 4611686018427387904 by omega), cond_true]; rfl, ?_⟩
      rw [size_bytesOf, h3]; omega) Lib.big (0, zeros [Ck.i IntKind.u8] n.toNat) ⟨Nat.zero_le _, Lib.length_zeros _ _⟩ (Lib.lt_big (by dsimp only; omega))
  obtain ⟨t, hb, ht⟩ := key
  obtain ⟨e1, e2⟩ := out n x (x := t) (by
    unfold vo b
    rw [decide_eq_true h0, decide_eq_true rfl, Lib.roomy1 (by omega), Bool.and_self, Bool.and_self, cond_true]; exact hb)
  exact ⟨t, e1, e2, ht⟩
end Go.FG.Pu.spec_l01Long

namespace Go.FG.Pu.spec_l15Any
theorem ok (q : Row) (a s : Int) (hI : Pu.spec_l01Byte.I q a) : ∃ k st l t a' s', c q a s = true ∧ v q a s = (k, st, l, t, q, a', s') ∧ Pu.spec_l01Byte.I q a' ∧ k.size ≤ 31 ∧ (-1 ≤ st ∧ st ≤ 1000000001) ∧ (l = -9223372036854775808 ∨ 0 ≤ l ∧ l ≤ 1000000) ∧ t.size ≤ 401 := by
  obtain ⟨k, st, l, t, a1, s1, c1, v1, I1, d1, d2, d3, d4, d5⟩ := Pu.spec_l15Entry.ok q a s hI
  obtain ⟨n2, a2, s2, c2, v2, I2, g2, u2⟩ := Pu.spec_l01Below.ok q a1 s1 12 I1
  by_cases h0 : n2 = 0
  · have d0 : decide (n2 = 0) = true := decide_eq_true h0
    obtain ⟨i, a3, s3, c3, v3, I3, g3⟩ := Pu.spec_l01Pick.ok q a2 s2 (List.set (List.set (zeros [Ck.s] 2) 0 [CV.s { data := #[] }]) 1 [CV.s { data := #[UInt8.ofNat 48, UInt8.ofNat 49, UInt8.ofNat 50, UInt8.ofNat 51, UInt8.ofNat 52, UInt8.ofNat 53, UInt8.ofNat 54, UInt8.ofNat 55, UInt8.ofNat 56, UInt8.ofNat 57, UInt8.ofNat 48, UInt8.ofNat 49, UInt8.ofNat 50, UInt8.ofNat 51, UInt8.ofNat 52, UInt8.ofNat 53, UInt8.ofNat 54, UInt8.ofNat 55, UInt8.ofNat 56, UInt8.ofNat 57, UInt8.ofNat 48, UInt8.ofNat 49, UInt8.ofNat 50, UInt8.ofNat 51, UInt8.ofNat 52, UInt8.ofNat 53, UInt8.ofNat 54, UInt8.ofNat 55, UInt8.ofNat 56, UInt8.ofNat 57, UInt8.ofNat 48] }]) I2 (by simp [zeros])
    obtain ⟨e1, e2⟩ := out q a s (x := (_, st, l, t, q, a3, s3)) (by
      unfold vo b
      simp only [c1, v1, c2, v2, d0, cond_true, c3, v3]; rfl)
    refine ⟨_, st, l, t, a3, s3, e1, e2, I3, ?_, by omega, by omega, by omega⟩
    have g2 : i < 2 := by simpa [zeros] using g3
    match i, g2 with
    | 0, _ => exact Nat.zero_le _
    | 1, _ => exact Nat.le_refl 31
  have d0 : decide (n2 = 0) = false := decide_eq_false h0
  by_cases h1 : n2 = 1
  · have d1 : decide (n2 = 1) = true := decide_eq_true h1
    obtain ⟨i, a3, s3, c3, v3, I3, g3⟩ := Pu.spec_l01PickInt.ok q a2 s2 (List.set (List.set (List.set (List.set (zeros [Ck.i IntKind.i64] 4) 0 [CV.i IntKind.i64 (Int.neg 1)]) 1 [CV.i IntKind.i64 0]) 2 [CV.i IntKind.i64 1000000000]) 3 [CV.i IntKind.i64 1000000001]) I2 (by simp [zeros])
    obtain ⟨e1, e2⟩ := out q a s (x := (k, _, l, t, q, a3, s3)) (by
      unfold vo b
      simp only [c1, v1, c2, v2, d0, d1, cond_true, cond_false, c3, v3]; rfl)
    refine ⟨k, _, l, t, a3, s3, e1, e2, I3, by omega, ?_, by omega, by omega⟩
    have g2 : i < 4 := by simpa [zeros] using g3
    match i, g2 with
    | 0, _ => exact ⟨by decide, by decide⟩
    | 1, _ => exact ⟨by decide, by decide⟩
    | 2, _ => exact ⟨by decide, by decide⟩
    | 3, _ => exact ⟨by decide, by decide⟩
  have d1 : decide (n2 = 1) = false := decide_eq_false h1
  by_cases h2 : n2 = 2
  · have d2' : decide (n2 = 2) = true := decide_eq_true h2
    obtain ⟨i, a3, s3, c3, v3, I3, g3⟩ := Pu.spec_l01PickInt.ok q a2 s2 (List.set (List.set (List.set (zeros [Ck.i IntKind.i64] 3) 0 [CV.i IntKind.i64 0]) 1 [CV.i IntKind.i64 1000000]) 2 [CV.i IntKind.i64 (Int.neg 9223372036854775808)]) I2 (by simp [zeros])
    obtain ⟨e1, e2⟩ := out q a s (x := (k, st, _, t, q, a3, s3)) (by
      unfold vo b
      simp only [c1, v1, c2, v2, d0, d1, d2', cond_true, cond_false, c3, v3]; rfl)
    refine ⟨k, st, _, t, a3, s3, e1, e2, I3, by omega, by omega, ?_, by omega⟩
    have g2 : i < 3 := by simpa [zeros] using g3
    match i, g2 with
    | 0, _ => exact .inr ⟨by decide, by decide⟩
    | 1, _ => exact .inr ⟨by decide, by decide⟩
    | 2, _ => exact .inl rfl
  have d2' : decide (n2 = 2) = false := decide_eq_false h2
  by_cases h3 : n2 = 3
  · have d3' : decide (n2 = 3) = true := decide_eq_true h3
    obtain ⟨n4, a4, s4, c4, v4, I4, g4, u4⟩ := Pu.spec_l01Below.ok q a2 s2 2 I2
    have u4' := u4 (by omega)
    have hw : w64 (400 + n4) = 400 + n4 := Lib.w64_ok (by omega) (by omega)
    obtain ⟨t2, c5, v5, g5⟩ := Pu.spec_l01Long.ok (400 + n4) 97 (by omega) (by omega)
    obtain ⟨e1, e2⟩ := out q a s (x := (k, st, l, t2, q, a4, s4)) (by
      unfold vo b
      simp only [c1, v1, c2, v2, d0, d1, d2', d3', cond_true, cond_false, c4, v4, hw, c5, v5])
    exact ⟨k, st, l, t2, a4, s4, e1, e2, I4, by omega, by omega, by omega, by omega⟩
  have d3' : decide (n2 = 3) = false := decide_eq_false h3
  obtain ⟨e1, e2⟩ := out q a s (x := (k, st, l, t, q, a2, s2)) (by
    unfold vo b
    simp only [c1, v1, c2, v2, d0, d1, d2', d3', cond_true, cond_false])
  exact ⟨k, st, l, t, a2, s2, e1, e2, I2, by omega, by omega, by omega, by omega⟩
end Go.FG.Pu.spec_l15Any

namespace Go.FG.Pu.spec_l01Once
theorem ok (q : Row) (a s k : Int) (hI : Pu.spec_l01Byte.I q a) : ∃ x a' s', c q a s k = true ∧ v q a s k = (x, q, a', s') ∧ Pu.spec_l01Byte.I q a' := by
  obtain ⟨n1, a1, s1, c1, v1, I1, g1, u1⟩ := Pu.spec_l01Below.ok q a s k hI
  obtain ⟨e1, e2⟩ := out q a s k (x := (decide (n1 = 0), q, a1, s1)) (by
    unfold vo b
    simp only [c1, v1, cond_true])
  exact ⟨_, a1, s1, e1, e2, I1⟩
end Go.FG.Pu.spec_l01Once

namespace Go.FG.Pu.spec_DrawFreshAt
theorem ok (q : Row) (hl : q.length ≤ 1048576) : ∃ k st l t now, c q = true ∧ v q = (k, st, l, t, now) ∧ k.size ≤ 31 ∧ (-1 ≤ st ∧ st ≤ 1000000001) ∧ (l = -9223372036854775808 ∨ 0 ≤ l ∧ l ≤ 1000000) ∧ t.size ≤ 401 ∧ (-9223372036854775808 ≤ now ∧ now ≤ 9223372036854775807) := by
  obtain ⟨h, c1, v1⟩ := Pu.spec_l01New.ok q hl
  obtain ⟨i, a2, s2, c2, v2, I2, g2⟩ := Pu.spec_l01PickInt.ok q 0 h (List.set (List.set (List.set (List.set (List.set (List.set (List.set (zeros [Ck.i IntKind.i64] 7) 0 [CV.i IntKind.i64 0]) 1 [CV.i IntKind.i64 1]) 2 [CV.i IntKind.i64 5]) 3 [CV.i IntKind.i64 12]) 4 [CV.i IntKind.i64 30]) 5 [CV.i IntKind.i64 9223372036854775807]) 6 [CV.i IntKind.i64 (Int.neg 9223372036854775808)]) ⟨by omega, by omega, hl⟩ (by simp [zeros])
  obtain ⟨k, st, l, t, a3, s3, c3, v3, I3, b1, b2, b3, b4⟩ := Pu.spec_l15Any.ok q a2 s2 I2
  obtain ⟨x, a4, s4, c4, v4, I4⟩ := Pu.spec_l01Once.ok q a3 s3 2 I3
  have hr : ∀ x : Int, -9223372036854775808 ≤ w64 x ∧ w64 x ≤ 9223372036854775807 := fun x => Lib.w64_rng x
  cases x with
  | true =>
    obtain ⟨j, a5, s5, c5, v5, I5, g5⟩ := Pu.spec_l01PickInt.ok q a4 s4 (List.set (List.set (List.set (List.set (List.set (zeros [Ck.i IntKind.i64] 5) 0 [CV.i IntKind.i64 0]) 1 [CV.i IntKind.i64 4]) 2 [CV.i IntKind.i64 5]) 3 [CV.i IntKind.i64 6]) 4 [CV.i IntKind.i64 (Int.neg 1)]) I4 (by simp [zeros])
    obtain ⟨e1, e2⟩ := out q (x := (k, st, l, t, w64 (st + _))) (by
      unfold vo b
      simp only [c1, v1, c2, v2, c3, v3, c4, v4, c5, v5, cond_true]; rfl)
    exact ⟨k, st, l, t, _, e1, e2, b1, b2, b3, b4, hr _⟩
  | false =>
    obtain ⟨e1, e2⟩ := out q (x := (k, st, l, t, _)) (by
      unfold vo b
      simp only [c1, v1, c2, v2, c3, v3, c4, v4, cond_true, cond_false]; rfl)
    refine ⟨k, st, l, t, _, e1, e2, b1, b2, b3, b4, ?_⟩
    have g3 : i < 7 := by simpa [zeros] using g2
    match i, g3 with
    | 0, _ => exact ⟨by decide, by decide⟩
    | 1, _ => exact ⟨by decide, by decide⟩
    | 2, _ => exact ⟨by decide, by decide⟩
    | 3, _ => exact ⟨by decide, by decide⟩
    | 4, _ => exact ⟨by decide, by decide⟩
    | 5, _ => exact ⟨by decide, by decide⟩
    | 6, _ => exact ⟨by decide, by decide⟩
end Go.FG.Pu.spec_DrawFreshAt

namespace Go.FG.Pu.impl_FreshAt
theorem eq (k : ByteArray) (s l : Int) (b : ByteArray) (n : Int) : Pu.impl_FreshAt.v k s l b n = Pu.spec_FreshAt.v k s l b n := by
  have e : Pu.impl_EntryOk.v k s l b = Pu.spec_EntryOk.v k s l b := rfl
  unfold Pu.impl_FreshAt.v Pu.spec_FreshAt.v
  rw [e]
  cases h : Pu.spec_EntryOk.v k s l b with
  | false => rfl
  | true =>
    have hs : (0 ≤ s ∧ s ≤ 1000000000) ∧ 1 ≤ l ∧ l ≤ 999999 := by
      unfold Pu.spec_EntryOk.v at h
      cases h1 : Pu.spec_l13Key.v k <;> rw [h1] at h <;> simp only [cond_true, cond_false, Bool.false_eq_true] at h
      cases h2 : Pu.spec_l01In.v s 0 1000000000 <;> rw [h2] at h <;> simp only [cond_true, cond_false, Bool.false_eq_true] at h
      cases h3 : Pu.spec_l01In.v l 1 999999 <;> rw [h3] at h <;> simp only [cond_true, cond_false, Bool.false_eq_true] at h
      simp [Pu.spec_l01In.v] at h2 h3
      omega
    simp only [cond_true, Pu.impl_isNumber.v, Pu.impl_within.v, Pu.spec_l01In.v, Bool.cond_eq_ite, decide_eq_true_eq]
    by_cases h1 : 0 ≤ n ∧ n ≤ 1000000000
    · rw [w64_eq (x := n - s) (by omega) (by omega), w64_eq (x := s + l) (by omega) (by omega), w64_eq (x := s + l - 1) (by omega) (by omega)]
      by_cases h2 : s ≤ n <;> by_cases h3 : n - s < l <;> simp [h1, h2, h3] <;> omega
    · by_cases h2 : s ≤ n <;> by_cases h3 : 0 ≤ n <;> by_cases h4 : n ≤ 1000000000 <;> simp [h2, h3, h4] <;> omega
end Go.FG.Pu.impl_FreshAt

namespace Go.FG.Pu.laws_FnFresh
theorem in_eq (n a b : Int) : Pu.spec_l01In.v n a b = decide (a ≤ n ∧ n ≤ b) := by
  unfold Pu.spec_l01In.v
  by_cases h : a ≤ n <;> by_cases h2 : n ≤ b <;> simp [h, h2]
theorem eo {k : ByteArray} {s l : Int} {b : ByteArray} (h : Pu.spec_l15Entry.dr k s l b) : Pu.spec_EntryOk.v k s l b = true := by
  obtain ⟨h1, h2, h3, h4, h5⟩ := h
  have hk : Pu.spec_l13Key.v k = true := by
    simp [Pu.spec_l13Key.v, Pu.spec_l01In.v]; omega
  have hs : Pu.spec_l01In.v s 0 1000000000 = true := by simp [Pu.spec_l01In.v]; omega
  have hl : Pu.spec_l01In.v l 1 999999 = true := by simp [Pu.spec_l01In.v]; omega
  unfold Pu.spec_EntryOk.v
  rw [hk, hs, hl, cond_true, cond_true, cond_true]
  exact decide_eq_true (by omega)
theorem run (q : Row) : vo q = some true := by
  unfold vo b
  by_cases hb : (q.length : Int) > 1048576
  · rw [show Pu.laws_big.v q = true from decide_eq_true hb]; rfl
  · rw [show Pu.laws_big.v q = false from decide_eq_false hb, cond_false]
    obtain ⟨k, st, l, t, c1, v1, g⟩ := Pu.spec_DrawEntry.ok q (by omega)
    obtain ⟨k2, st2, l2, t2, now, c2, v2, b1, b2, b3, b4, b5⟩ := Pu.spec_DrawFreshAt.ok q (by omega)
    have hs := Pu.impl_FreshAt.eq
    have he := eo g
    obtain ⟨g1, g2, g3, g4, g5⟩ := g
    have w1 : w64 (st + l) = st + l := Lib.w64_ok (by omega) (by omega)
    have w2 : w64 (st + l - 1) = st + l - 1 := Lib.w64_ok (by omega) (by omega)
    have w3 : w64 (st - 1) = st - 1 := Lib.w64_ok (by omega) (by omega)
    have hf : ∀ n, -100 ≤ n → n ≤ 1000000000 → Pu.spec_FreshAt.v k st l t n = decide (st ≤ n ∧ n < st + l) := by
      intro n hn1 hn2
      unfold Pu.spec_FreshAt.v
      rw [he, cond_true, in_eq, Lib.w64_ok (x := n - st) (by omega) (by omega)]
      by_cases h1 : st ≤ n
      · rw [decide_eq_true (show st ≤ n ∧ n ≤ 1000000000 from ⟨h1, hn2⟩), cond_true, decide_eq_decide]; omega
      · rw [decide_eq_false (fun h => h1 h.1), cond_false]; symm; exact decide_eq_false (fun h => h1 h.1)
    have q1 : Pu.spec_FreshAt.v k st l t st = true := by rw [hf st (by omega) (by omega)]; exact decide_eq_true (by omega)
    have q2 : Pu.spec_FreshAt.v k st l t (st + l - 1) = true := by rw [hf _ (by omega) (by omega)]; exact decide_eq_true (by omega)
    have q3 : Pu.spec_FreshAt.v k st l t (st + l) = false := by rw [hf _ (by omega) (by omega)]; exact decide_eq_false (by omega)
    have q4 : Pu.spec_FreshAt.v k st l t (st - 1) = false := by rw [hf _ (by omega) (by omega)]; exact decide_eq_false (by omega)
    simp only [c1, v1, c2, v2, hs, w1, w2, w3, q1, q2, q3, q4, cond_true, Bool.not_false, decide_true]
theorem law (q : Row) {A : Prop} (_ : A) : v q = true := (out q (run q)).2
theorem lawc (q : Row) {A : Prop} (_ : A) : c q = true := (out q (run q)).1
end Go.FG.Pu.laws_FnFresh

