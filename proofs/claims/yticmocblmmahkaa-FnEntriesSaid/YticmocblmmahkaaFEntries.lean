/- What the functions come to, in plain numbers, texts and lists; last the law itself. No condition but those that each states. -/
import Derived.Test.YticmocblmmahkaaPEntries
set_option linter.unusedVariables false
set_option linter.unusedSimpArgs false
set_option maxRecDepth 100000
namespace Go.FG.Pu.spec_l01New
theorem ok (q : Row) (hl : q.length ≤ 1048576) : ∃ h, c q = true ∧ v q = (q, 0, h) := by
  have key := Lib.loop_post (fun n (s : Nat × Int) => l3 Lib.big (fun (y3 : Row) (y4 _ : Int) => some (y3, (0 : Int), y4)) n q s.2 (s.1 : Int)) (fun s => q.length - s.1) (fun s => s.1 ≤ q.length) (fun r => ∃ h, r = (q, 0, h)) (fun n s hs => by
    obtain ⟨i, h⟩ := s
    dsimp only at hs ⊢
    by_cases hi : i < q.length
    · by_cases h4 : (i : Int) < 4000
      · right
        have hi1 : w64 ((i : Int) + 1) = ((i + 1 : Nat) : Int) := Lib.w64_ok (by omega) (by omega)
        have e : ∃ h', l3 Lib.big (fun (y3 : Row) (y4 _ : Int) => some (y3, (0 : Int), y4)) (n + 1) q h (i : Int) = l3 Lib.big (fun (y3 : Row) (y4 _ : Int) => some (y3, (0 : Int), y4)) n q h' ((i + 1 : Nat) : Int) :=
          ⟨_, by simp only [l3, r3, Lib.dlt, hi, h4, decide_true, Lib.dle0, Bool.and_self, cond_true, Lib.toN, hi1]; rfl⟩
        obtain ⟨h', e⟩ := e
        exact ⟨(i + 1, h'), hi, by dsimp only; omega, e⟩
      · left
        exact ⟨_, by simp only [l3, r3, Lib.dlt, hi, h4, decide_true, decide_false, cond_true, cond_false]; rfl, _, rfl⟩
    · left
      exact ⟨_, by simp only [l3, r3, Lib.dlt, hi, decide_false, cond_false]; rfl, _, rfl⟩) Lib.big (0, w64 (34901 + (q.length : Int))) (Nat.zero_le _) (Lib.lt_big (by omega))
  obtain ⟨b', hb, h, rfl⟩ := key
  obtain ⟨e1, e2⟩ := out q (x := (q, 0, h)) hb
  exact ⟨h, e1, e2⟩
end Go.FG.Pu.spec_l01New

namespace Go.FG.Pu.spec_l01Byte
/-- Where a draw stands in its bytes. -/
def I (q : Row) (a : Int) : Prop := 0 ≤ a ∧ a ≤ (q.length : Int) ∧ q.length ≤ 1048576
theorem rng (x : BitVec 64) : 0 ≤ w64 ((BitVec.toNat (BitVec.and x (BitVec.ofInt 64 255)) : Nat) : Int) ∧ w64 ((BitVec.toNat (BitVec.and x (BitVec.ofInt 64 255)) : Nat) : Int) ≤ 255 := by
  have h : BitVec.toNat (BitVec.and x (BitVec.ofInt 64 255)) ≤ 255 := by
    have e : BitVec.toNat (BitVec.and x (BitVec.ofInt 64 255)) = x.toNat &&& 255 := BitVec.toNat_and x (BitVec.ofInt 64 255)
    rw [e]; exact Nat.and_le_right
  rw [Lib.w64_ok (by omega) (by omega)]; omega
theorem ok (q : Row) (a s : Int) (hI : I q a) : ∃ n a' s', c q a s = true ∧ v q a s = (n, q, a', s') ∧ I q a' ∧ 0 ≤ n ∧ n ≤ 255 := by
  obtain ⟨h0, h1, h2⟩ := hI
  by_cases h : a < (q.length : Int)
  · have hw : w64 (a + 1) = a + 1 := Lib.w64_ok (by omega) (by omega)
    have hvo : ∃ n s', vo q a s = some (n, q, a + 1, s') ∧ 0 ≤ n ∧ n ≤ 255 := by
      unfold vo b
      rw [decide_eq_true h, decide_eq_true h0, cond_true, Bool.and_self, cond_true, hw]
      exact ⟨_, _, rfl, rng _⟩
    obtain ⟨n, s', hv, hr⟩ := hvo
    obtain ⟨e1, e2⟩ := out q a s hv
    exact ⟨n, a + 1, s', e1, e2, ⟨by omega, by omega, h2⟩, hr⟩
  · have hvo : ∃ n s', vo q a s = some (n, q, a, s') ∧ 0 ≤ n ∧ n ≤ 255 := by
      unfold vo b
      rw [decide_eq_false h, cond_false]
      exact ⟨_, _, rfl, rng _⟩
    obtain ⟨n, s', hv, hr⟩ := hvo
    obtain ⟨e1, e2⟩ := out q a s hv
    exact ⟨n, a, s', e1, e2, ⟨h0, h1, h2⟩, hr⟩
end Go.FG.Pu.spec_l01Byte

namespace Go.FG.Pu.spec_l01Below
theorem ok (q : Row) (a s k : Int) (hI : Pu.spec_l01Byte.I q a) : ∃ n a' s', c q a s k = true ∧ v q a s k = (n, q, a', s') ∧ Pu.spec_l01Byte.I q a' ∧ 0 ≤ n ∧ (0 < k → n < k) := by
  by_cases hk : k ≤ 0
  · obtain ⟨e1, e2⟩ := out q a s k (x := (0, q, a, s)) (by unfold vo b; rw [decide_eq_true hk, cond_true])
    exact ⟨0, a, s, e1, e2, hI, by omega, fun h => by omega⟩
  · have hm : ∀ x : Int, 0 ≤ x → 0 ≤ Int.tmod x k ∧ Int.tmod x k < k := fun x hx => by
      rw [Int.tmod_eq_emod_of_nonneg hx]
      exact ⟨Int.emod_nonneg _ (by omega), Int.emod_lt_of_pos _ (by omega)⟩
    have hk0 : ¬ k = 0 := by omega
    obtain ⟨n1, a1, s1, c1, v1, I1, g1, u1⟩ := Pu.spec_l01Byte.ok q a s hI
    by_cases h2 : k ≤ 256
    · obtain ⟨e1, e2⟩ := out q a s k (x := (Int.tmod n1 k, q, a1, s1)) (by
        unfold vo b
        simp only [hk, h2, hk0, c1, v1, decide_true, decide_false, cond_true, cond_false, Bool.not_false])
      exact ⟨_, a1, s1, e1, e2, I1, (hm n1 g1).1, fun _ => (hm n1 g1).2⟩
    · obtain ⟨n2, a2, s2, c2, v2, I2, g2, u2⟩ := Pu.spec_l01Byte.ok q a1 s1 I1
      obtain ⟨n3, a3, s3, c3, v3, I3, g3, u3⟩ := Pu.spec_l01Byte.ok q a2 s2 I2
      obtain ⟨n4, a4, s4, c4, v4, I4, g4, u4⟩ := Pu.spec_l01Byte.ok q a3 s3 I3
      have w1 : w64 (n1 * 16777216) = n1 * 16777216 := Lib.w64_ok (by omega) (by omega)
      have w2 : w64 (n2 * 65536) = n2 * 65536 := Lib.w64_ok (by omega) (by omega)
      have w3 : w64 (n3 * 256) = n3 * 256 := Lib.w64_ok (by omega) (by omega)
      have w4 : w64 (n1 * 16777216 + n2 * 65536) = n1 * 16777216 + n2 * 65536 := Lib.w64_ok (by omega) (by omega)
      have w5 : w64 (n1 * 16777216 + n2 * 65536 + n3 * 256) = n1 * 16777216 + n2 * 65536 + n3 * 256 := Lib.w64_ok (by omega) (by omega)
      have w6 : w64 (n1 * 16777216 + n2 * 65536 + n3 * 256 + n4) = n1 * 16777216 + n2 * 65536 + n3 * 256 + n4 := Lib.w64_ok (by omega) (by omega)
      obtain ⟨e1, e2⟩ := out q a s k (x := (Int.tmod (n1 * 16777216 + n2 * 65536 + n3 * 256 + n4) k, q, a4, s4)) (by
        unfold vo b
        simp only [hk, h2, hk0, c1, v1, c2, v2, c3, v3, c4, v4, w1, w2, w3, w4, w5, w6, decide_true, decide_false, cond_true, cond_false, Bool.not_false])
      have := hm (n1 * 16777216 + n2 * 65536 + n3 * 256 + n4) (by omega)
      exact ⟨_, a4, s4, e1, e2, I4, this.1, fun _ => this.2⟩
end Go.FG.Pu.spec_l01Below

namespace Go.FG.Pu.spec_l01Pick
theorem ok (q : Row) (a s : Int) (l : Row) (hI : Pu.spec_l01Byte.I q a) (hl : 0 < l.length) : ∃ i a' s', c q a s l = true ∧ v q a s l = (cvS (cellAt l i 0), q, a', s', l) ∧ Pu.spec_l01Byte.I q a' ∧ i < l.length := by
  obtain ⟨n1, a1, s1, c1, v1, I1, g1, u1⟩ := Pu.spec_l01Below.ok q a s (l.length : Int) hI
  have hu := u1 (by omega)
  obtain ⟨e1, e2⟩ := out q a s l (x := (cvS (cellAt l n1.toNat 0), q, a1, s1, l)) (by
    unfold vo b
    simp only [c1, v1, g1, hu, decide_true, Bool.and_self, cond_true])
  exact ⟨n1.toNat, a1, s1, e1, e2, I1, by omega⟩
end Go.FG.Pu.spec_l01Pick

namespace Go.FG.Pu.spec_l12Key
theorem ok (q : Row) (a s : Int) (hI : Pu.spec_l01Byte.I q a) : ∃ k a' s', c q a s = true ∧ v q a s = (k, q, a', s') ∧ Pu.spec_l01Byte.I q a' ∧ k.size = 2 := by
  obtain ⟨i, a1, s1, c1, v1, I1, g1⟩ := Pu.spec_l01Pick.ok q a s (List.set (List.set (List.set (List.set (List.set (List.set (List.set (List.set (zeros [Ck.s] 8) 0 [CV.s { data := #[UInt8.ofNat 47, UInt8.ofNat 97] }]) 1 [CV.s { data := #[UInt8.ofNat 47, UInt8.ofNat 98] }]) 2 [CV.s { data := #[UInt8.ofNat 47, UInt8.ofNat 99] }]) 3 [CV.s { data := #[UInt8.ofNat 47, UInt8.ofNat 100] }]) 4 [CV.s { data := #[UInt8.ofNat 47, UInt8.ofNat 101] }]) 5 [CV.s { data := #[UInt8.ofNat 47, UInt8.ofNat 102] }]) 6 [CV.s { data := #[UInt8.ofNat 47, UInt8.ofNat 103] }]) 7 [CV.s { data := #[UInt8.ofNat 47, UInt8.ofNat 104] }]) hI (by simp [zeros])
  obtain ⟨e1, e2⟩ := out q a s (x := (_, q, a1, s1)) (by
    unfold vo b
    simp only [c1, v1, cond_true]; rfl)
  refine ⟨_, a1, s1, e1, e2, I1, ?_⟩
  have g2 : i < 8 := by simpa [zeros] using g1
  match i, g2 with
  | 0, _ => rfl
  | 1, _ => rfl
  | 2, _ => rfl
  | 3, _ => rfl
  | 4, _ => rfl
  | 5, _ => rfl
  | 6, _ => rfl
  | 7, _ => rfl
end Go.FG.Pu.spec_l12Key

namespace Go.FG.Pu.spec_l01PickInt
theorem ok (q : Row) (a s : Int) (l : Row) (hI : Pu.spec_l01Byte.I q a) (hl : 0 < l.length) : ∃ i a' s', c q a s l = true ∧ v q a s l = (cvI (cellAt l i 0), q, a', s', l) ∧ Pu.spec_l01Byte.I q a' ∧ i < l.length := by
  obtain ⟨n1, a1, s1, c1, v1, I1, g1, u1⟩ := Pu.spec_l01Below.ok q a s (l.length : Int) hI
  have hu := u1 (by omega)
  obtain ⟨e1, e2⟩ := out q a s l (x := (cvI (cellAt l n1.toNat 0), q, a1, s1, l)) (by
    unfold vo b
    simp only [c1, v1, g1, hu, decide_true, Bool.and_self, cond_true])
  exact ⟨n1.toNat, a1, s1, e1, e2, I1, by omega⟩
end Go.FG.Pu.spec_l01PickInt

namespace Go.FG.Pu.spec_l01Text
theorem ok (q : Row) (a s k : Int) (hI : Pu.spec_l01Byte.I q a) : ∃ t a' s', c q a s k = true ∧ v q a s k = (t, q, a', s') ∧ Pu.spec_l01Byte.I q a' ∧ (t.size : Int) ≤ 5000 ∧ ((t.size : Int) = 0 ∨ (t.size : Int) ≤ k) := by
  have key := fun (m : Int) (hm : m ≤ 5000) => Lib.loop_post (fun n (z : Nat × Int × Int × Row) => l5 Lib.big (fun (_ _ : Int) (y8 : Row) (y9 y10 : Int) (y11 : Row) => bif (decide (List.length y11 ≤ 4611686018427387904)) then (some (bytesOf y11, y8, y9, y10)) else (none)) n m (z.1 : Int) q z.2.1 z.2.2.1 z.2.2.2) (fun z => 5000 - z.1) (fun z => (z.1 = 0 ∨ (z.1 : Int) ≤ m) ∧ Pu.spec_l01Byte.I q z.2.1 ∧ z.2.2.2.length = z.1) (fun r => ∃ t a' s', r = (t, q, a', s') ∧ Pu.spec_l01Byte.I q a' ∧ ((t.size : Int) = 0 ∨ (t.size : Int) ≤ m)) (fun n z hz => by
    obtain ⟨i, a, s, acc⟩ := z
    obtain ⟨h1, h2, h3⟩ := hz
    dsimp only at h1 h2 h3 ⊢
    by_cases h : (i : Int) < m
    · right
      obtain ⟨n1, a1, s1, c1, v1, I1, g1, u1⟩ := Pu.spec_l01Byte.ok q a s h2
      have hi1 : w64 ((i : Int) + 1) = ((i + 1 : Nat) : Int) := Lib.w64_ok (by omega) (by omega)
      refine ⟨(i + 1, a1, s1, acc ++ [[CV.i IntKind.u8 (IntKind.wrap IntKind.u8 n1)]]), ⟨by right; dsimp only; omega, I1, by simp [h3]⟩, by dsimp only; omega, ?_⟩
      simp only [l5, r5, h, decide_true, cond_true, c1, v1, hi1, Lib.len_set1, List.length_singleton, Lib.roomy1 (n := acc.length + 1) (by omega)]
    · left
      refine ⟨_, by simp only [l5, r5, h, decide_false, cond_false, decide_eq_true (show acc.length ≤ 4611686018427387904 by omega), cond_true], bytesOf acc, a, s, rfl, h2, ?_⟩
      rw [size_bytesOf, h3]; omega) Lib.big (0, a, s, []) ⟨.inl rfl, hI, rfl⟩ (Lib.lt_big (by omega))
  by_cases hk : k > 5000
  · obtain ⟨b', hb, t, a', s', rfl, hI', hs⟩ := key 5000 (by omega)
    obtain ⟨e1, e2⟩ := out q a s k (x := (t, q, a', s')) (by
      unfold vo b
      rw [decide_eq_true hk, cond_true]; exact hb)
    exact ⟨t, a', s', e1, e2, hI', by omega, by omega⟩
  · obtain ⟨b', hb, t, a', s', rfl, hI', hs⟩ := key k (by omega)
    obtain ⟨e1, e2⟩ := out q a s k (x := (t, q, a', s')) (by
      unfold vo b
      rw [decide_eq_false hk, cond_false]; exact hb)
    exact ⟨t, a', s', e1, e2, hI', by omega, by omega⟩
end Go.FG.Pu.spec_l01Text

namespace Go.FG.Pu.spec_l15Entry
/-- What a drawn entry is. -/
def dr (k : ByteArray) (s l : Int) (t : ByteArray) : Prop := k.size = 2 ∧ 1 ≤ s ∧ s ≤ 20 ∧ (l = 1 ∨ l = 5 ∨ l = 60 ∨ l = 999999) ∧ t.size ≤ 8
theorem ok (q : Row) (a s : Int) (hI : Pu.spec_l01Byte.I q a) : ∃ k st l t a' s', c q a s = true ∧ v q a s = (k, st, l, t, q, a', s') ∧ Pu.spec_l01Byte.I q a' ∧ dr k st l t := by
  obtain ⟨k, a1, s1, c1, v1, I1, g1⟩ := Pu.spec_l12Key.ok q a s hI
  obtain ⟨n2, a2, s2, c2, v2, I2, g2, u2⟩ := Pu.spec_l01Below.ok q a1 s1 20 I1
  obtain ⟨i, a3, s3, c3, v3, I3, g3⟩ := Pu.spec_l01PickInt.ok q a2 s2 (List.set (List.set (List.set (List.set (zeros [Ck.i IntKind.i64] 4) 0 [CV.i IntKind.i64 1]) 1 [CV.i IntKind.i64 5]) 2 [CV.i IntKind.i64 60]) 3 [CV.i IntKind.i64 999999]) I2 (by simp [zeros])
  obtain ⟨n4, a4, s4, c4, v4, I4, g4, u4⟩ := Pu.spec_l01Below.ok q a3 s3 9 I3
  obtain ⟨t, a5, s5, c5, v5, I5, g5, u5⟩ := Pu.spec_l01Text.ok q a4 s4 n4 I4
  have u2' := u2 (by omega)
  have u4' := u4 (by omega)
  have hw : w64 (1 + n2) = 1 + n2 := Lib.w64_ok (by omega) (by omega)
  obtain ⟨e1, e2⟩ := out q a s (x := (k, 1 + n2, _, t, q, a5, s5)) (by
    unfold vo b
    simp only [c1, v1, c2, v2, c3, v3, c4, v4, c5, v5, hw, cond_true]; rfl)
  refine ⟨k, 1 + n2, _, t, a5, s5, e1, e2, I5, g1, by omega, by omega, ?_, by omega⟩
  have g2 : i < 4 := by simpa [zeros] using g3
  match i, g2 with
  | 0, _ => exact .inl rfl
  | 1, _ => exact .inr (.inl rfl)
  | 2, _ => exact .inr (.inr (.inl rfl))
  | 3, _ => exact .inr (.inr (.inr rfl))
end Go.FG.Pu.spec_l15Entry

namespace Go.FG.Pu.spec_l01Long
theorem ok (n x : Int) (h0 : 0 ≤ n) (h1 : n ≤ 1048576) : ∃ t, c n x = true ∧ v n x = t ∧ (t.size : Int) = n := by
  have key := Lib.loop_post (fun m (z : Nat × Row) => l3 Lib.big (fun (_ _ _ : Int) (y7 : Row) => bif (decide (List.length y7 ≤ 4611686018427387904)) then (some (bytesOf y7)) else (none)) m n x (z.1 : Int) z.2) (fun z => n.toNat - z.1) (fun z => z.1 ≤ n.toNat ∧ z.2.length = n.toNat) (fun t => (t.size : Int) = n) (fun m z hz => by
    obtain ⟨i, acc⟩ := z
    obtain ⟨h2, h3⟩ := hz
    dsimp only at h2 h3 ⊢
    by_cases h : (i : Int) < n
    · right
      have hi1 : w64 ((i : Int) + 1) = ((i + 1 : Nat) : Int) := Lib.w64_ok (by omega) (by omega)
      have hi : i < acc.length := by omega
      refine ⟨(i + 1, setC acc i 0 [CV.i IntKind.u8 x]), ⟨by dsimp only; omega, by dsimp only; rw [Lib.length_setC]; exact h3⟩, by dsimp only; omega, ?_⟩
      simp only [l3, r3, h, hi, Lib.dlt, Lib.dle0, Lib.toN, Bool.and_self, decide_true, cond_true, hi1]
    · left
      refine ⟨_, by simp only [l3, r3, h, decide_false, cond_false, decide_eq_true (show acc.length ≤ 4611686018427387904 by omega), cond_true]; rfl, ?_⟩
      rw [size_bytesOf, h3]; omega) Lib.big (0, zeros [Ck.i IntKind.u8] n.toNat) ⟨Nat.zero_le _, Lib.length_zeros _ _⟩ (Lib.lt_big (by dsimp only; omega))
  obtain ⟨t, hb, ht⟩ := key
  obtain ⟨e1, e2⟩ := out n x (x := t) (by
    unfold vo b
    rw [decide_eq_true h0, decide_eq_true rfl, Lib.roomy1 (by omega), Bool.and_self, Bool.and_self, cond_true]; exact hb)
  exact ⟨t, e1, e2, ht⟩
end Go.FG.Pu.spec_l01Long

namespace Go.FG.Pu.spec_l15Any
theorem ok (q : Row) (a s : Int) (hI : Pu.spec_l01Byte.I q a) : ∃ k st l t a' s', c q a s = true ∧ v q a s = (k, st, l, t, q, a', s') ∧ Pu.spec_l01Byte.I q a' ∧ k.size ≤ 31 ∧ (-1 ≤ st ∧ st ≤ 1000000001) ∧ (l = -9223372036854775808 ∨ 0 ≤ l ∧ l ≤ 1000000) ∧ t.size ≤ 401 := by
  obtain ⟨k, st, l, t, a1, s1, c1, v1, I1, d1, d2, d3, d4, d5⟩ := Pu.spec_l15Entry.ok q a s hI
  obtain ⟨n2, a2, s2, c2, v2, I2, g2, u2⟩ := Pu.spec_l01Below.ok q a1 s1 12 I1
  by_cases h0 : n2 = 0
  · have d0 : decide (n2 = 0) = true := decide_eq_true h0
    obtain ⟨i, a3, s3, c3, v3, I3, g3⟩ := Pu.spec_l01Pick.ok q a2 s2 (List.set (List.set (zeros [Ck.s] 2) 0 [CV.s { data := #[] }]) 1 [CV.s { data := #[UInt8.ofNat 48, UInt8.ofNat 49, UInt8.ofNat 50, UInt8.ofNat 51, UInt8.ofNat 52, UInt8.ofNat 53, UInt8.ofNat 54, UInt8.ofNat 55, UInt8.ofNat 56, UInt8.ofNat 57, UInt8.ofNat 48, UInt8.ofNat 49, UInt8.ofNat 50, UInt8.ofNat 51, UInt8.ofNat 52, UInt8.ofNat 53, UInt8.ofNat 54, UInt8.ofNat 55, UInt8.ofNat 56, UInt8.ofNat 57, UInt8.ofNat 48, UInt8.ofNat 49, UInt8.ofNat 50, UInt8.ofNat 51, UInt8.ofNat 52, UInt8.ofNat 53, UInt8.ofNat 54, UInt8.ofNat 55, UInt8.ofNat 56, UInt8.ofNat 57, UInt8.ofNat 48] }]) I2 (by simp [zeros])
    obtain ⟨e1, e2⟩ := out q a s (x := (_, st, l, t, q, a3, s3)) (by
      unfold vo b
      simp only [c1, v1, c2, v2, d0, cond_true, c3, v3]; rfl)
    refine ⟨_, st, l, t, a3, s3, e1, e2, I3, ?_, by omega, by omega, by omega⟩
    have g2 : i < 2 := by simpa [zeros] using g3
    match i, g2 with
    | 0, _ => exact Nat.zero_le _
    | 1, _ => exact Nat.le_refl 31
  have d0 : decide (n2 = 0) = false := decide_eq_false h0
  by_cases h1 : n2 = 1
  · have d1 : decide (n2 = 1) = true := decide_eq_true h1
    obtain ⟨i, a3, s3, c3, v3, I3, g3⟩ := Pu.spec_l01PickInt.ok q a2 s2 (List.set (List.set (List.set (List.set (zeros [Ck.i IntKind.i64] 4) 0 [CV.i IntKind.i64 (Int.neg 1)]) 1 [CV.i IntKind.i64 0]) 2 [CV.i IntKind.i64 1000000000]) 3 [CV.i IntKind.i64 1000000001]) I2 (by simp [zeros])
    obtain ⟨e1, e2⟩ := out q a s (x := (k, _, l, t, q, a3, s3)) (by
      unfold vo b
      simp only [c1, v1, c2, v2, d0, d1, cond_true, cond_false, c3, v3]; rfl)
    refine ⟨k, _, l, t, a3, s3, e1, e2, I3, by omega, ?_, by omega, by omega⟩
    have g2 : i < 4 := by simpa [zeros] using g3
    match i, g2 with
    | 0, _ => exact ⟨by decide, by decide⟩
    | 1, _ => exact ⟨by decide, by decide⟩
    | 2, _ => exact ⟨by decide, by decide⟩
    | 3, _ => exact ⟨by decide, by decide⟩
  have d1 : decide (n2 = 1) = false := decide_eq_false h1
  by_cases h2 : n2 = 2
  · have d2' : decide (n2 = 2) = true := decide_eq_true h2
    obtain ⟨i, a3, s3, c3, v3, I3, g3⟩ := Pu.spec_l01PickInt.ok q a2 s2 (List.set (List.set (List.set (zeros [Ck.i IntKind.i64] 3) 0 [CV.i IntKind.i64 0]) 1 [CV.i IntKind.i64 1000000]) 2 [CV.i IntKind.i64 (Int.neg 9223372036854775808)]) I2 (by simp [zeros])
    obtain ⟨e1, e2⟩ := out q a s (x := (k, st, _, t, q, a3, s3)) (by
      unfold vo b
      simp only [c1, v1, c2, v2, d0, d1, d2', cond_true, cond_false, c3, v3]; rfl)
    refine ⟨k, st, _, t, a3, s3, e1, e2, I3, by omega, by omega, ?_, by omega⟩
    have g2 : i < 3 := by simpa [zeros] using g3
    match i, g2 with
    | 0, _ => exact .inr ⟨by decide, by decide⟩
    | 1, _ => exact .inr ⟨by decide, by decide⟩
    | 2, _ => exact .inl rfl
  have d2' : decide (n2 = 2) = false := decide_eq_false h2
  by_cases h3 : n2 = 3
  · have d3' : decide (n2 = 3) = true := decide_eq_true h3
    obtain ⟨n4, a4, s4, c4, v4, I4, g4, u4⟩ := Pu.spec_l01Below.ok q a2 s2 2 I2
    have u4' := u4 (by omega)
    have hw : w64 (400 + n4) = 400 + n4 := Lib.w64_ok (by omega) (by omega)
    obtain ⟨t2, c5, v5, g5⟩ := Pu.spec_l01Long.ok (400 + n4) 97 (by omega) (by omega)
    obtain ⟨e1, e2⟩ := out q a s (x := (k, st, l, t2, q, a4, s4)) (by
      unfold vo b
      simp only [c1, v1, c2, v2, d0, d1, d2', d3', cond_true, cond_false, c4, v4, hw, c5, v5])
    exact ⟨k, st, l, t2, a4, s4, e1, e2, I4, by omega, by omega, by omega, by omega⟩
  have d3' : decide (n2 = 3) = false := decide_eq_false h3
  obtain ⟨e1, e2⟩ := out q a s (x := (k, st, l, t, q, a2, s2)) (by
    unfold vo b
    simp only [c1, v1, c2, v2, d0, d1, d2', d3', cond_true, cond_false])
  exact ⟨k, st, l, t, a2, s2, e1, e2, I2, by omega, by omega, by omega, by omega⟩
end Go.FG.Pu.spec_l15Any

namespace Go.FG.Pu.spec_DrawEntryText
theorem ok (q : Row) (hl : q.length ≤ 1048576) : ∃ k st l t, c q = true ∧ v q = (k, st, l, t) := by
  obtain ⟨h, c1, v1⟩ := Pu.spec_l01New.ok q hl
  obtain ⟨k, st, l, t, a', s', c2, v2, I2, g⟩ := Pu.spec_l15Any.ok q 0 h ⟨by omega, by omega, hl⟩
  obtain ⟨e1, e2⟩ := out q (x := (k, st, l, t)) (by
    unfold vo b
    simp only [c1, v1, c2, v2, cond_true])
  exact ⟨k, st, l, t, e1, e2⟩
end Go.FG.Pu.spec_DrawEntryText

namespace Go.FG.Pu.spec_l02Spoilt
theorem ok (q : Row) (a s : Int) (z : ByteArray) (hI : Pu.spec_l01Byte.I q a) (hz : z.size ≤ 1048576) : ∃ t a' s', c q a s z = true ∧ v q a s z = (t, q, a', s') ∧ Pu.spec_l01Byte.I q a' := by
  obtain ⟨n1, a1, s1, c1, v1, I1, g1, u1⟩ := Pu.spec_l01Below.ok q a s 12 hI
  have at2 : ∀ (_ : n1 = 2 ∨ n1 = 3), ∃ t a' s', c q a s z = true ∧ v q a s z = (t, q, a', s') ∧ Pu.spec_l01Byte.I q a' := by
    intro hn
    by_cases hp : (z.size : Int) > 0
    · obtain ⟨n2, a2, s2, c2, v2, I2, g2, u2⟩ := Pu.spec_l01Below.ok q a1 s1 (z.size : Int) I1
      have u2' := u2 (by omega)
      obtain ⟨t, a3, s3, c3, v3, I3, g3, u3⟩ := Pu.spec_l01Text.ok q a2 s2 1 I2
      have hw : w64 (n2 + 1) = n2 + 1 := Lib.w64_ok (by omega) (by omega)
      have b1 : inB 0 n2 (z.size : Int) = true := by simp [inB]; omega
      have b2 : inB (n2 + 1) (z.size : Int) (z.size : Int) = true := by simp [inB]; omega
      rcases hn with rfl | rfl
      · obtain ⟨e1, e2⟩ := out q a s z (x := (_, q, a3, s3)) (by
          unfold vo b
          simp only [c1, v1, c2, v2, c3, v3, hw, b1, b2, show decide ((2 : Int) = 0) = false from rfl, show decide ((2 : Int) = 1) = false from rfl, show decide ((2 : Int) = 2) = true from rfl, decide_eq_true hp, cond_true, cond_false]
          simp (disch := omega) only [ByteArray.size_extract, Lib.size_app, Lib.dnat, cond_true]
          rfl)
        exact ⟨_, a3, s3, e1, e2, I3⟩
      · obtain ⟨e1, e2⟩ := out q a s z (x := (_, q, a3, s3)) (by
          unfold vo b
          simp only [c1, v1, c2, v2, c3, v3, hw, b1, b2, show decide ((3 : Int) = 0) = false from rfl, show decide ((3 : Int) = 1) = false from rfl, show decide ((3 : Int) = 2) = false from rfl, show decide ((3 : Int) = 3) = true from rfl, decide_eq_true hp, cond_true, cond_false]
          simp (disch := omega) only [ByteArray.size_extract, Lib.size_app, Lib.dnat, cond_true]
          rfl)
        exact ⟨_, a3, s3, e1, e2, I3⟩
    · rcases hn with rfl | rfl
      · obtain ⟨e1, e2⟩ := out q a s z (x := (z, q, a1, s1)) (by
          unfold vo b
          simp only [c1, v1, show decide ((2 : Int) = 0) = false from rfl, show decide ((2 : Int) = 1) = false from rfl, show decide ((2 : Int) = 2) = true from rfl, decide_eq_false hp, cond_true, cond_false]; rfl)
        exact ⟨_, a1, s1, e1, e2, I1⟩
      · obtain ⟨e1, e2⟩ := out q a s z (x := (z, q, a1, s1)) (by
          unfold vo b
          simp only [c1, v1, show decide ((3 : Int) = 0) = false from rfl, show decide ((3 : Int) = 1) = false from rfl, show decide ((3 : Int) = 2) = false from rfl, show decide ((3 : Int) = 3) = true from rfl, decide_eq_false hp, cond_true, cond_false]; rfl)
        exact ⟨_, a1, s1, e1, e2, I1⟩
  by_cases h0 : n1 = 0
  · subst h0
    obtain ⟨t, a3, s3, c3, v3, I3, g3, u3⟩ := Pu.spec_l01Text.ok q a1 s1 1 I1
    obtain ⟨e1, e2⟩ := out q a s z (x := (_, q, a3, s3)) (by
      unfold vo b
      simp only [c1, v1, c3, v3, show decide ((0 : Int) = 0) = true from rfl, cond_true, cond_false]
      simp (disch := omega) only [Lib.size_app, Lib.dnat, cond_true]
      rfl)
    exact ⟨_, a3, s3, e1, e2, I3⟩
  by_cases h1 : n1 = 1
  · subst h1
    have hw : w64 ((z.size : Int) + 1) = (z.size : Int) + 1 := Lib.w64_ok (by omega) (by omega)
    obtain ⟨n2, a2, s2, c2, v2, I2, g2, u2⟩ := Pu.spec_l01Below.ok q a1 s1 ((z.size : Int) + 1) I1
    have u2' := u2 (by omega)
    have b1 : inB 0 n2 (z.size : Int) = true := by simp [inB]; omega
    obtain ⟨e1, e2⟩ := out q a s z (x := (_, q, a2, s2)) (by
      unfold vo b
      simp only [c1, v1, hw, c2, v2, b1, show decide ((1 : Int) = 0) = false from rfl, show decide ((1 : Int) = 1) = true from rfl, cond_true, cond_false]
      rfl)
    exact ⟨_, a2, s2, e1, e2, I2⟩
  by_cases h2 : n1 = 2
  · exact at2 (.inl h2)
  by_cases h3 : n1 = 3
  · exact at2 (.inr h3)
  obtain ⟨e1, e2⟩ := out q a s z (x := (z, q, a1, s1)) (by
    unfold vo b
    simp only [c1, v1, decide_eq_false h0, decide_eq_false h1, decide_eq_false h2, decide_eq_false h3, cond_true, cond_false])
  exact ⟨_, a1, s1, e1, e2, I1⟩
end Go.FG.Pu.spec_l02Spoilt

namespace Go.FG.Pu.spec_DrawReadEntry
theorem ok (q : Row) (hl : q.length ≤ 1048576) : c q = true := by
  obtain ⟨h, c1, v1⟩ := Pu.spec_l01New.ok q hl
  obtain ⟨n, a1, s1, c2, v2, I2, g2, u2⟩ := Pu.spec_l01Below.ok q 0 h 3 ⟨by omega, by omega, hl⟩
  obtain ⟨k, st, l, t, a', s', c3, v3, I3, g⟩ := Pu.spec_l15Any.ok q a1 s1 I2
  have hz : (Pu.spec_EntryText.v k st l t).1.size ≤ 1048576 := by
    unfold Pu.spec_EntryText.v
    by_cases he : Pu.spec_EntryOk.v k st l t = true
    · rw [if_pos he]
      have hr := Pu.spec_EntryOk.rng he
      have z1 : (bytesOf (Lib.vb (k.size : Int))).size ≤ 64 := Lib.var_size (x := (k.size : Int)) (by omega)
      have z2 : (bytesOf (Lib.vb st)).size ≤ 64 := Lib.var_size (x := st) (by omega)
      have z3 : (bytesOf (Lib.vb l)).size ≤ 64 := Lib.var_size (x := l) (by omega)
      unfold Pu.spec_EntryText.txt
      simp only [Lib.size_app]; omega
    · rw [if_neg he]; exact Nat.zero_le _
  obtain ⟨t2, a4, s4, c4, v4, I4⟩ := Pu.spec_l02Spoilt.ok q a' s' (Pu.spec_EntryText.v k st l t).1 I3 hz
  by_cases h0 : n = 0
  · exact (out q (x := t2) (by
      unfold vo b
      simp only [c1, v1, c2, v2, c3, v3, c4, v4, decide_eq_true h0, cond_true])).1
  · exact (out q (x := (Pu.spec_EntryText.v k st l t).1) (by
      unfold vo b
      simp only [c1, v1, c2, v2, c3, v3, decide_eq_false h0, cond_true, cond_false])).1
end Go.FG.Pu.spec_DrawReadEntry

namespace Go.FG.Pu.spec_ReadEntry
theorem head {t : ByteArray} {p : Nat} {b : UInt8} {r : List UInt8} (h : t.data.toList.drop p = b :: r) : p < t.size ∧ btN t p = b.toNat ∧ t.data.toList.drop (p + 1) = r := by
  have hl := congrArg List.length h
  rw [List.length_drop, List.length_cons] at hl
  have hs : t.data.toList.length = t.size := rfl
  have hp : p < t.data.toList.length := by omega
  have hd := List.drop_eq_getElem_cons hp
  rw [hd] at h
  injection h with h1 h2
  refine ⟨by omega, ?_, h2⟩
  unfold btN
  have hp' : p < t.data.size := hp
  rw [show t.data.getD p 0 = t.data[p] by unfold Array.getD; rw [dif_pos hp']; rfl]
  rw [← h1]; rfl
theorem bytes_cons (x : Int) (r : Row) : (bytesOf ([CV.i IntKind.u8 x] :: r)).data.toList = UInt8.ofNat x.toNat :: (bytesOf r).data.toList := rfl
theorem rv_enc (t : ByteArray) (a : Nat) (rest : List UInt8) : ∀ (f j : Nat) (n y : Int), 0 ≤ y → 0 ≤ n → n + y * 128 ^ j ≤ 1000000000 → y ≤ 1000000000 → (j > 0 → 0 < y) → t.data.toList.drop (a + j) = (bytesOf (Lib.vb y)).data.toList ++ rest → (Lib.vb y).length ≤ f →
    Lib.rv t a f j n = (n + y * 128 ^ j, ((a + j + (Lib.vb y).length : Nat) : Int), true) ∧ t.data.toList.drop (a + j + (Lib.vb y).length) = rest
  | 0, j, n, y, h0, hn, hb, hy, hj, hd, hf => by
    by_cases hc : y > 127
    · rw [Lib.vb_big hc] at hf; simp at hf
    · rw [Lib.vb_small hc] at hf; simp at hf
  | f + 1, j, n, y, h0, hn, hb, hy, hj, hd, hf => by
    by_cases hc : y > 127
    · have e1 : Int.tmod y 128 = y % 128 := Int.tmod_eq_emod_of_nonneg (by omega)
      have e2 : Int.tdiv y 128 = y / 128 := Int.tdiv_eq_ediv_of_nonneg (by omega)
      have e3 : w64 (y % 128 + 128) = y % 128 + 128 := Lib.w64_ok (by omega) (by omega)
      have e4 : IntKind.wrap IntKind.u8 (y % 128 + 128) = y % 128 + 128 := by show (y % 128 + 128) % 256 = _; omega
      have e5 : w64 (y / 128) = y / 128 := Lib.w64_ok (by omega) (by omega)
      have ev : Lib.vb y = [CV.i IntKind.u8 (y % 128 + 128)] :: Lib.vb (y / 128) := by rw [Lib.vb_big hc, e1, e2, e3, e4, e5]
      rw [ev, bytes_cons, List.cons_append] at hd
      obtain ⟨q1, q2, q3⟩ := head hd
      have q4 : (btN t (a + j) : Int) = y % 128 + 128 := by
        rw [q2, UInt8.toNat_ofNat']; omega
      rw [ev, List.length_cons] at hf
      have hP : y * 128 ^ j = y % 128 * 128 ^ j + y / 128 * 128 ^ (j + 1) := by
        have hyd : y = y % 128 + 128 * (y / 128) := by omega
        rw [Int.pow_succ]
        generalize (128 : Int) ^ j = P
        conv => lhs; rw [hyd]
        rw [Int.add_mul, Int.mul_comm P 128, ← Int.mul_assoc, Int.mul_comm (y / 128) 128]
      have hpp : (0 : Int) ≤ y % 128 * 128 ^ j := Int.mul_nonneg (by omega) (Int.le_of_lt (Int.pow_pos (by omega)))
      obtain ⟨i1, i2⟩ := rv_enc t a rest f (j + 1) (n + y % 128 * 128 ^ j) (y / 128) (by omega) (by omega) (by omega) (by omega) (by omega) (by rw [show a + (j + 1) = a + j + 1 by omega]; exact q3) (by omega)
      refine ⟨?_, ?_⟩
      · unfold Lib.rv
        rw [if_pos q1, q4, if_pos (by omega), show (y % 128 + 128) % 128 = y % 128 by omega, i1, hP, ev, List.length_cons]
        refine Prod.ext ?_ (Prod.ext ?_ rfl)
        · dsimp only; omega
        · dsimp only; omega
      · rw [ev, List.length_cons, show a + j + ((Lib.vb (y / 128)).length + 1) = a + (j + 1) + (Lib.vb (y / 128)).length by omega]; exact i2
    · have e4 : IntKind.wrap IntKind.u8 y = y := by show y % 256 = _; omega
      have ev : Lib.vb y = [[CV.i IntKind.u8 y]] := by rw [Lib.vb_small hc, e4]
      rw [ev, bytes_cons, List.cons_append] at hd
      obtain ⟨q1, q2, q3⟩ := head hd
      have q4 : (btN t (a + j) : Int) = y := by
        rw [q2, UInt8.toNat_ofNat']; omega
      refine ⟨?_, by rw [ev]; exact q3⟩
      unfold Lib.rv
      rw [if_pos q1, q4, if_neg hc, show y % 128 = y by omega, if_neg (by omega), ev]
      rfl
theorem vb5 {y : Int} (h : y ≤ 1000000000) : (Lib.vb y).length ≤ 5 := by
  have e : (128 : Int) ^ (4 + 1) = 34359738368 := by decide
  exact Lib.vb_len2 4 y (by rw [e]; omega)
theorem readVar_enc (t : ByteArray) (p : Nat) (y : Int) (rest : List UInt8) (h0 : 0 ≤ y) (h1 : y ≤ 1000000000) (hd : t.data.toList.drop p = (bytesOf (Lib.vb y)).data.toList ++ rest) : Lib.readVar t p = (y, ((p + (Lib.vb y).length : Nat) : Int), true) ∧ t.data.toList.drop (p + (Lib.vb y).length) = rest := by
  have hl := congrArg List.length hd
  have hne : 0 < (Lib.vb y).length := by
    by_cases hc : y > 127
    · rw [Lib.vb_big hc]; simp
    · rw [Lib.vb_small hc]; simp
  have hb : (bytesOf (Lib.vb y)).data.toList.length = (Lib.vb y).length := Lib.size_bytesOf _
  rw [List.length_drop, List.length_append, hb] at hl
  have hs : t.data.toList.length = t.size := rfl
  obtain ⟨i1, i2⟩ := rv_enc t p rest 5 0 0 y h0 (by omega) (by simp; omega) h1 (by omega) (by simpa using hd) (vb5 h1)
  refine ⟨?_, by simpa using i2⟩
  unfold Lib.readVar
  rw [if_pos (by omega), show ((p : Nat) : Int).toNat = p from rfl, i1]
  simp
theorem ext_of (t k : ByteArray) (p : Nat) (rest : List UInt8) (hd : t.data.toList.drop p = k.data.toList ++ rest) : t.extract p (p + k.size) = k := by
  apply Lib.ba_ext
  simp only [ByteArray.data_extract, Array.toList_extract, List.extract_eq_take_drop]
  rw [hd, show p + k.size - p = k.data.toList.length by show p + k.size - p = k.size; omega, List.take_left]
theorem enc (k : ByteArray) (s l : Int) (b : ByteArray) (h : Pu.spec_EntryOk.v k s l b = true) : v (Pu.spec_EntryText.txt k s l b) = (k, s, l, b, true) := by
  obtain ⟨⟨k1, k2⟩, ⟨s1, s2⟩, ⟨l1, l2⟩, b1⟩ := Pu.spec_EntryOk.rng h
  generalize ht : Pu.spec_EntryText.txt k s l b = t
  have hT : t.data.toList = (bytesOf (Lib.vb k.size)).data.toList ++ (k.data.toList ++ ((bytesOf (Lib.vb s)).data.toList ++ ((bytesOf (Lib.vb l)).data.toList ++ b.data.toList))) := by
    rw [← ht]; unfold Pu.spec_EntryText.txt
    simp only [ByteArray.data_append, Array.toList_append, List.append_assoc]
  have hs : t.data.toList.length = t.size := rfl
  have hk : k.data.toList.length = k.size := rfl
  obtain ⟨a1, a2⟩ := readVar_enc t 0 (k.size : Int) _ (by omega) (by omega) (by rw [List.drop_zero]; exact hT)
  rw [Nat.zero_add] at a1 a2
  generalize (Lib.vb (k.size : Int)).length = n1 at a1 a2
  have len1 := congrArg List.length a2
  simp only [List.length_drop, List.length_append, hk, hs] at len1
  have ek := ext_of t k n1 _ a2
  have a3 : t.data.toList.drop (n1 + k.size) = (bytesOf (Lib.vb s)).data.toList ++ ((bytesOf (Lib.vb l)).data.toList ++ b.data.toList) := by
    rw [← List.drop_drop, a2]
    exact List.drop_left' (by rw [hk])
  obtain ⟨b1', b2⟩ := readVar_enc t (n1 + k.size) s _ (by omega) (by omega) a3
  obtain ⟨c1, c2⟩ := readVar_enc t (n1 + k.size + (Lib.vb s).length) l _ (by omega) (by omega) b2
  have hr : Lib.readShort t 0 = (k, ((n1 + k.size : Nat) : Int), true) := by
    unfold Lib.readShort
    rw [show (0 : Int) = ((0 : Nat) : Int) from rfl, a1]
    dsimp only
    rw [if_pos (by omega)]
    rw [show ((n1 : Nat) : Int).toNat = n1 from rfl, show ((n1 : Int) + (k.size : Int)).toNat = n1 + k.size by omega, ek]
    rfl
  have eb : t.extract (n1 + k.size + (Lib.vb s).length + (Lib.vb l).length) t.size = b := by
    have hl2 := congrArg List.length c2
    rw [List.length_drop, hs] at hl2
    have hbs : b.data.toList.length = b.size := rfl
    by_cases hz : b.size = 0
    · apply Lib.ba_ext
      simp only [ByteArray.data_extract, Array.toList_extract, List.extract_eq_take_drop]
      rw [c2]
      exact List.take_of_length_le (by omega)
    · apply Lib.ba_ext
      simp only [ByteArray.data_extract, Array.toList_extract, List.extract_eq_take_drop]
      rw [c2]
      exact List.take_of_length_le (by omega)
  unfold v
  rw [hr]; dsimp only
  rw [b1']; dsimp only
  rw [c1]; dsimp only
  rw [show ((n1 + k.size + (Lib.vb s).length + (Lib.vb l).length : Nat) : Int).toNat = n1 + k.size + (Lib.vb s).length + (Lib.vb l).length from rfl, eb, if_pos h]
/-- What was read is right, and its text is what was read. -/
theorem dec {t : ByteArray} (h : (v t).2.2.2.2 = true) : Pu.spec_EntryText.v (v t).1 (v t).2.1 (v t).2.2.1 (v t).2.2.2.1 = (t, true) := by
  unfold v at h ⊢
  cases h1 : Lib.readShort t 0 with
  | mk k r1 =>
    obtain ⟨a, ok1⟩ := r1
    rw [h1] at h
    cases ok1 with
    | false => cases h
    | true =>
      dsimp only at h ⊢
      cases h2 : Lib.readVar t a with
      | mk s r2 =>
        obtain ⟨x, ok2⟩ := r2
        rw [h2] at h
        cases ok2 with
        | false => cases h
        | true =>
          dsimp only at h ⊢
          cases h3 : Lib.readVar t x with
          | mk l r3 =>
            obtain ⟨y, ok3⟩ := r3
            rw [h3] at h
            cases ok3 with
            | false => cases h
            | true =>
              obtain ⟨p1, p2, p3, p4, p5⟩ := Lib.readShort_ok h1
              obtain ⟨q1, q2, q3, q4, q5, q6⟩ := Lib.readVar_ok h2
              obtain ⟨r1, r2, r3, r4, r5, r6⟩ := Lib.readVar_ok h3
              dsimp only at h ⊢
              by_cases hE : Pu.spec_EntryOk.v k s l (t.extract y.toNat t.size) = true
              · rw [if_pos hE]
                have ht : Pu.spec_EntryText.txt k s l (t.extract y.toNat t.size) = t := by
                  unfold Pu.spec_EntryText.txt
                  rw [p5, q6, Lib.ext_app t (by omega) (by omega), r6, Lib.ext_app t (by omega) (by omega), Lib.ext_app t (by omega) (by omega)]
                  exact Lib.ext_all t
                unfold Pu.spec_EntryText.v
                rw [if_pos hE, ht]
              · rw [if_neg hE] at h; cases h
end Go.FG.Pu.spec_ReadEntry

namespace Go.FG.Pu.laws_FnEntries
theorem run (q : Row) : vo q = some true := by
  unfold vo b
  by_cases hb : (q.length : Int) > 1048576
  · rw [show Pu.laws_big.v q = true from decide_eq_true hb]; rfl
  · rw [show Pu.laws_big.v q = false from decide_eq_false hb, cond_false]
    obtain ⟨k, st, l, t, c1, v1⟩ := Pu.spec_DrawEntryText.ok q (by omega)
    have c2 := Pu.spec_DrawReadEntry.ok q (by omega)
    generalize Pu.spec_DrawReadEntry.v q = z
    have e1 : ∀ k s l b, Pu.impl_EntryText.v k s l b = Pu.spec_EntryText.v k s l b := fun _ _ _ _ => rfl
    have e2 : ∀ t, Pu.impl_ReadEntry.v t = Pu.spec_ReadEntry.v t := fun _ => rfl
    have e3 : ∀ k s l b, Pu.impl_EntryOk.v k s l b = Pu.spec_EntryOk.v k s l b := fun _ _ _ _ => rfl
    have ht : (Pu.spec_EntryText.v k st l t).2 = Pu.spec_EntryOk.v k st l t := by
      unfold Pu.spec_EntryText.v
      by_cases h : Pu.spec_EntryOk.v k st l t = true
      · rw [if_pos h, h]
      · rw [if_neg h]; simpa using h
    have last : (bif (!(Pu.spec_ReadEntry.v z).2.2.2.2) then (some true) else (some (List.beq (ByteArray.toList (Pu.spec_EntryText.v (Pu.spec_ReadEntry.v z).1 (Pu.spec_ReadEntry.v z).2.1 (Pu.spec_ReadEntry.v z).2.2.1 (Pu.spec_ReadEntry.v z).2.2.2.1).1) (ByteArray.toList z)))) = some true := by
      cases h : (Pu.spec_ReadEntry.v z).2.2.2.2 with
      | false => rfl
      | true => rw [Pu.spec_ReadEntry.dec h, Bool.not_true, cond_false, Lib.beq_self]
    simp only [c1, v1, c2, e1, e2, e3, ht, decide_true, cond_true]
    rw [last]
    cases h : Pu.spec_EntryOk.v k st l t with
    | false => rfl
    | true =>
      have hx : (Pu.spec_EntryText.v k st l t).1 = Pu.spec_EntryText.txt k st l t := by
        unfold Pu.spec_EntryText.v; rw [if_pos h]
      rw [hx, Pu.spec_ReadEntry.enc k st l t h]
      simp only [Lib.beq_self, decide_true, Bool.and_self, Bool.not_true, cond_true, cond_false]
theorem law (q : Row) {A : Prop} (_ : A) : v q = true := (out q (run q)).2
theorem lawc (q : Row) {A : Prop} (_ : A) : c q = true := (out q (run q)).1
end Go.FG.Pu.laws_FnEntries

