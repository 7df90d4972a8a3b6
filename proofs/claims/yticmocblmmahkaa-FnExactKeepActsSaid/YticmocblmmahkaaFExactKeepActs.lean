/- What the functions come to, in plain numbers, texts and lists; last the law itself. No condition but those that each states. -/
import Derived.Test.YticmocblmmahkaaPExactKeepActs
set_option linter.unusedVariables false
set_option linter.unusedSimpArgs false
set_option maxRecDepth 100000
namespace Go.FG.Pu.spec_l02Four
theorem size (x : Int) : (v x).size = 4 := by
  unfold v; rw [Lib.size_bytesOf]; simp only [List.length_set, Lib.length_zeros]
end Go.FG.Pu.spec_l02Four

namespace Go.FG.Pu.spec_SumMore
/-- One bit. -/
def rd (x : Int) : Int := bif decide (Int.tmod x 2 = 1) then (IntKind.wrap IntKind.u32 (↑(BitVec.toNat (BitVec.xor (BitVec.ofInt 32 (IntKind.wrap IntKind.u32 (Int.tdiv x 2))) (BitVec.ofInt 32 3558460437))) : Int)) else (IntKind.wrap IntKind.u32 (Int.tdiv x 2))
def rds : Nat → Int → Int | 0, x => x | n + 1, x => rds n (rd x)
theorem in6 {R : Type} (N : Nat) (K : Int → ByteArray → Int → Int → Option R) (a : ByteArray) (b : Int) : ∀ (d n i : Nat) (x : Int), d + i = 8 → d < n → l6 N K n x a b (i : Int) = K (rds d x) a b 8 := by
  intro d
  induction d with
  | zero =>
    intro n i x h1 h2
    obtain ⟨n, rfl⟩ : ∃ m, n = m + 1 := ⟨n - 1, by omega⟩
    have : i = 8 := by omega
    subst this
    rfl
  | succ d ih =>
    intro n i x h1 h2
    obtain ⟨n, rfl⟩ : ∃ m, n = m + 1 := ⟨n - 1, by omega⟩
    have hi1 : w64 ((i : Int) + 1) = ((i + 1 : Nat) : Int) := Lib.w64_ok (by omega) (by omega)
    rw [rds, ← ih n (i + 1) (rd x) (by omega) (by omega)]
    simp only [l6, r6, decide_eq_true (show (i : Int) < 8 by omega), cond_true, hi1, rd]
    cases decide (Int.tmod x 2 = 1) <;> rfl
def su (t : ByteArray) : Nat → Nat → Int → Int
  | 0, _, s => s
  | d + 1, i, s => su t d (i + 1) (rds 8 (IntKind.wrap IntKind.u32 (↑(BitVec.toNat (BitVec.xor (BitVec.ofInt 32 s) (BitVec.ofInt 32 (IntKind.wrap IntKind.u32 (↑(btN t i) : Int))))) : Int)))
theorem run (s : Int) (t : ByteArray) (ht : t.size ≤ 4611686018427387904) : vo s t = some (su t t.size 0 s) := by
  unfold vo b
  have key : ∀ (d n i : Nat) (s : Int), d + i = t.size → d < n → l2 Lib.big (fun (y11 : Int) (_ : ByteArray) (_ : Int) => some y11) n s t (i : Int) = some (su t d i s) := by
    intro d
    induction d with
    | zero =>
      intro n i s h1 h2
      obtain ⟨n, rfl⟩ : ∃ m, n = m + 1 := ⟨n - 1, by omega⟩
      simp only [l2, r2, Lib.dlt, decide_eq_false (show ¬ i < t.size by omega), cond_false]; rfl
    | succ d ih =>
      intro n i s h1 h2
      obtain ⟨n, rfl⟩ : ∃ m, n = m + 1 := ⟨n - 1, by omega⟩
      have hi1 : w64 ((i : Int) + 1) = ((i + 1 : Nat) : Int) := Lib.w64_ok (by omega) (by omega)
      simp only [l2, r2, Lib.dlt, decide_eq_true (show i < t.size by omega), Lib.dle0, Bool.and_self, cond_true, Lib.toN]
      have e := in6 (R := Int) Lib.big (fun y7 y8 y9 _ => l2 Lib.big (fun y11 _ _ => some y11) n y7 y8 (w64 (y9 + 1))) t (i : Int) 8 Lib.big 0 (IntKind.wrap IntKind.u32 (↑(BitVec.toNat (BitVec.xor (BitVec.ofInt 32 s) (BitVec.ofInt 32 (IntKind.wrap IntKind.u32 (↑(btN t i) : Int))))) : Int)) rfl (by unfold Lib.big; omega)
      refine e.trans ?_
      rw [hi1, ih n (i + 1) _ (by omega) (by omega)]; rfl
  exact key t.size Lib.big 0 s (by omega) (Lib.lt_big (by omega))
theorem ok (s : Int) (t : ByteArray) (ht : t.size ≤ 4611686018427387904) : c s t = true ∧ v s t = su t t.size 0 s := out s t (run s t ht)
end Go.FG.Pu.spec_SumMore

namespace Go.FG.Pu.spec_SumOf
theorem ok (t : ByteArray) (ht : t.size ≤ 4611686018427387904) : c t = true ∧ v t = Pu.spec_SumMore.su t t.size 0 4294967295 := by
  have h := Pu.spec_SumMore.ok 4294967295 t ht
  refine out t ?_
  unfold vo b
  rw [h.1, h.2]; rfl
end Go.FG.Pu.spec_SumOf

namespace Go.FG.Pu.spec_Frame
/-- A record as it lies in a file. -/
def fr (t : ByteArray) : ByteArray := bytesOf (Lib.vb t.size) ++ Pu.spec_l02Four.v (Pu.spec_SumMore.su t t.size 0 4294967295) ++ t
def val (t : ByteArray) : ByteArray × Bool := if 1 ≤ t.size ∧ t.size ≤ 9000 then (fr t, true) else (⟨#[]⟩, false)
theorem in_dec (n a b : Int) : Pu.spec_l01In.v n a b = decide (a ≤ n ∧ n ≤ b) := by
  unfold Pu.spec_l01In.v
  by_cases h : a ≤ n <;> by_cases h2 : n ≤ b <;> simp [h, h2]
theorem fr_size {t : ByteArray} (h : t.size ≤ 9000) : (fr t).size ≤ t.size + 68 := by
  unfold fr
  have := Lib.var_size (x := (t.size : Int)) (by omega)
  rw [Lib.size_app, Lib.size_app, Pu.spec_l02Four.size]; omega
theorem ok (t : ByteArray) : c t = true ∧ v t = val t := by
  refine out t ?_
  unfold vo b val
  rw [in_dec]
  by_cases h : 1 ≤ t.size ∧ t.size ≤ 9000
  · have hs := Pu.spec_SumOf.ok t (by omega)
    have hc : Pu.spec_l01Var.c (t.size : Int) = true := decide_eq_true (show (t.size : Int) ≤ 9223372036854775807 by omega)
    have z1 : (Pu.spec_l01Var.v (t.size : Int)).size ≤ 64 := Lib.var_size (x := (t.size : Int)) (by omega)
    rw [decide_eq_true (show (1 : Int) ≤ (t.size : Int) ∧ (t.size : Int) ≤ 9000 by omega), if_pos h, hs.1, hs.2]
    simp (disch := omega) only [Bool.not_true, cond_false, cond_true, hc, Lib.size_app, Pu.spec_l02Four.size, Lib.dnat]
    rfl
  · rw [decide_eq_false (show ¬ ((1 : Int) ≤ (t.size : Int) ∧ (t.size : Int) ≤ 9000) by omega), if_neg h]; rfl
end Go.FG.Pu.spec_Frame

namespace Go.FG.Pu.impl_SumMore
theorem in6 {R : Type} (N : Nat) (K : Int → ByteArray → Int → Int → Option R) (a : ByteArray) (b : Int) : ∀ (d n i : Nat) (x : Int), d + i = 8 → d < n → l6 N K n x a b (i : Int) = K (Pu.spec_SumMore.rds d x) a b 8 := by
  intro d
  induction d with
  | zero =>
    intro n i x h1 h2
    obtain ⟨n, rfl⟩ : ∃ m, n = m + 1 := ⟨n - 1, by omega⟩
    have : i = 8 := by omega
    subst this
    rfl
  | succ d ih =>
    intro n i x h1 h2
    obtain ⟨n, rfl⟩ : ∃ m, n = m + 1 := ⟨n - 1, by omega⟩
    have hi1 : w64 ((i : Int) + 1) = ((i + 1 : Nat) : Int) := Lib.w64_ok (by omega) (by omega)
    rw [Pu.spec_SumMore.rds, ← ih n (i + 1) (Pu.spec_SumMore.rd x) (by omega) (by omega)]
    simp only [l6, r6, decide_eq_true (show (i : Int) < 8 by omega), cond_true, hi1, Pu.spec_SumMore.rd]
    cases decide (Int.tmod x 2 = 1) <;> rfl
theorem run (s : Int) (t : ByteArray) (ht : t.size ≤ 4611686018427387904) : vo s t = some (Pu.spec_SumMore.su t t.size 0 s) := by
  unfold vo b
  have key : ∀ (d n i : Nat) (s : Int), d + i = t.size → d < n → l2 Lib.big (fun (y11 : Int) (_ : ByteArray) (_ : Int) => some y11) n s t (i : Int) = some (Pu.spec_SumMore.su t d i s) := by
    intro d
    induction d with
    | zero =>
      intro n i s h1 h2
      obtain ⟨n, rfl⟩ : ∃ m, n = m + 1 := ⟨n - 1, by omega⟩
      simp only [l2, r2, Lib.dlt, decide_eq_false (show ¬ i < t.size by omega), cond_false]; rfl
    | succ d ih =>
      intro n i s h1 h2
      obtain ⟨n, rfl⟩ : ∃ m, n = m + 1 := ⟨n - 1, by omega⟩
      have hi1 : w64 ((i : Int) + 1) = ((i + 1 : Nat) : Int) := Lib.w64_ok (by omega) (by omega)
      simp only [l2, r2, Lib.dlt, decide_eq_true (show i < t.size by omega), Lib.dle0, Bool.and_self, cond_true, Lib.toN]
      have e := in6 (R := Int) Lib.big (fun y7 y8 y9 _ => l2 Lib.big (fun y11 _ _ => some y11) n y7 y8 (w64 (y9 + 1))) t (i : Int) 8 Lib.big 0 (IntKind.wrap IntKind.u32 (↑(BitVec.toNat (BitVec.xor (BitVec.ofInt 32 s) (BitVec.ofInt 32 (IntKind.wrap IntKind.u32 (↑(btN t i) : Int))))) : Int)) rfl (by unfold Lib.big; omega)
      refine e.trans ?_
      rw [hi1, ih n (i + 1) _ (by omega) (by omega)]; rfl
  exact key t.size Lib.big 0 s (by omega) (Lib.lt_big (by omega))
theorem ok (s : Int) (t : ByteArray) (ht : t.size ≤ 4611686018427387904) : c s t = true ∧ v s t = Pu.spec_SumMore.su t t.size 0 s := out s t (run s t ht)
end Go.FG.Pu.impl_SumMore

namespace Go.FG.Pu.impl_SumOf
theorem ok (t : ByteArray) (ht : t.size ≤ 4611686018427387904) : c t = true ∧ v t = Pu.spec_SumMore.su t t.size 0 4294967295 := by
  have h := Pu.impl_SumMore.ok 4294967295 t ht
  refine out t ?_
  unfold vo b
  rw [h.1, h.2]; rfl
end Go.FG.Pu.impl_SumOf

namespace Go.FG.Pu.impl_sumText
theorem ok (t : ByteArray) (ht : t.size ≤ 4611686018427387904) : c t = true ∧ v t = Pu.spec_l02Four.v (Pu.spec_SumMore.su t t.size 0 4294967295) := by
  have h := Pu.impl_SumOf.ok t ht
  refine out t ?_
  unfold vo b
  rw [h.1, h.2]; rfl
end Go.FG.Pu.impl_sumText

namespace Go.FG.Pu.impl_Frame
theorem wi (n a b : Int) : Pu.impl_within.v n a b = decide (a ≤ n ∧ n ≤ b) := Pu.spec_Frame.in_dec n a b
theorem ok (t : ByteArray) : c t = true ∧ v t = Pu.spec_Frame.val t := by
  refine out t ?_
  unfold vo b Pu.spec_Frame.val
  rw [wi]
  by_cases h : 1 ≤ t.size ∧ t.size ≤ 9000
  · have hs := Pu.impl_sumText.ok t (by omega)
    have z1 : (bytesOf (Lib.vb (t.size : Int))).size ≤ 64 := Lib.var_size (x := (t.size : Int)) (by omega)
    have e2 : Pu.impl_VarText.v (t.size : Int) = (bytesOf (Lib.vb t.size), true) := by unfold Pu.impl_VarText.v; rw [if_pos (by omega)]
    rw [decide_eq_true (show (1 : Int) ≤ (t.size : Int) ∧ (t.size : Int) ≤ 9000 by omega), if_pos h, hs.1, hs.2, e2]
    simp (disch := omega) only [Bool.not_true, cond_false, cond_true, Lib.size_app, Pu.spec_l02Four.size, Lib.dnat]
    rfl
  · rw [decide_eq_false (show ¬ ((1 : Int) ≤ (t.size : Int) ∧ (t.size : Int) ≤ 9000) by omega), if_neg h]; rfl
end Go.FG.Pu.impl_Frame

namespace Go.FG.Pu.impl_framed
theorem txt_size {k b : ByteArray} {s l : Int} (h : Pu.spec_EntryOk.v k s l b = true) : (Pu.spec_EntryText.txt k s l b).size ≤ 1000 := by
  have hr := Pu.spec_EntryOk.rng h
  have z1 : (bytesOf (Lib.vb (k.size : Int))).size ≤ 64 := Lib.var_size (x := (k.size : Int)) (by omega)
  have z2 : (bytesOf (Lib.vb s)).size ≤ 64 := Lib.var_size (x := s) (by omega)
  have z3 : (bytesOf (Lib.vb l)).size ≤ 64 := Lib.var_size (x := l) (by omega)
  unfold Pu.spec_EntryText.txt
  simp only [Lib.size_app]
  omega
theorem txt_pos {k b : ByteArray} {s l : Int} (h : Pu.spec_EntryOk.v k s l b = true) : 1 ≤ (Pu.spec_EntryText.txt k s l b).size := by
  have hr := Pu.spec_EntryOk.rng h
  unfold Pu.spec_EntryText.txt
  simp only [Lib.size_app]
  omega
def val (k : ByteArray) (s l : Int) (b : ByteArray) : ByteArray × Bool := if Pu.spec_EntryOk.v k s l b = true then (Pu.spec_Frame.fr (Pu.spec_EntryText.txt k s l b), true) else (⟨#[]⟩, false)
theorem ok (k : ByteArray) (s l : Int) (b0 : ByteArray) : c k s l b0 = true ∧ v k s l b0 = val k s l b0 := by
  refine out k s l b0 ?_
  have hf := Pu.impl_Frame.ok (Pu.impl_EntryText.v k s l b0).1
  unfold vo b val
  rw [hf.1, hf.2]
  unfold Pu.impl_EntryText.v Pu.spec_EntryText.v Pu.spec_Frame.val
  by_cases h : Pu.spec_EntryOk.v k s l b0 = true
  · have h1 := txt_size h
    have h2 := txt_pos h
    rw [if_pos h, if_pos h, if_pos (by dsimp only; omega)]; rfl
  · rw [if_neg h, if_neg h]; rfl
end Go.FG.Pu.impl_framed

namespace Go.FG.Pu.impl_KeepActs
def kept : ByteArray := { data := #[UInt8.ofNat 107, UInt8.ofNat 101, UInt8.ofNat 112, UInt8.ofNat 116] }
def acts (f : ByteArray) : Row := [[CV.i IntKind.i64 1, CV.s kept, CV.s f, CV.s { data := #[] }], [CV.i IntKind.i64 2, CV.s kept, CV.s { data := #[] }, CV.s { data := #[] }]]
def val (k : ByteArray) (s l : Int) (b : ByteArray) : Row × Bool := if Pu.spec_EntryOk.v k s l b = true then (acts (Pu.spec_Frame.fr (Pu.spec_EntryText.txt k s l b)), true) else ([], false)
theorem val_sh (k : ByteArray) (s l : Int) (b : ByteArray) : (∀ y ∈ (val k s l b).1, y.length = 4) ∧ (val k s l b).1.length ≤ 2 := by
  unfold val
  split
  · refine ⟨fun y hy => ?_, Nat.le_refl _⟩
    simp [acts] at hy
    rcases hy with rfl | rfl <;> rfl
  · exact ⟨fun y hy => (by cases hy), Nat.zero_le _⟩
theorem ok (k : ByteArray) (s l : Int) (b0 : ByteArray) : c k s l b0 = true ∧ v k s l b0 = val k s l b0 := by
  refine out k s l b0 ?_
  have hf := Pu.impl_framed.ok k s l b0
  unfold vo b val
  rw [hf.1, hf.2]
  unfold Pu.impl_framed.val
  by_cases h : Pu.spec_EntryOk.v k s l b0 = true
  · rw [if_pos h, if_pos h]; rfl
  · rw [if_neg h, if_neg h]; rfl
end Go.FG.Pu.impl_KeepActs

namespace Go.FG.Pu.spec_KeepActs
theorem ok (k : ByteArray) (s l : Int) (b0 : ByteArray) : c k s l b0 = true ∧ v k s l b0 = Pu.impl_KeepActs.val k s l b0 := by
  refine out k s l b0 ?_
  have hf := Pu.spec_Frame.ok (Pu.spec_EntryText.v k s l b0).1
  unfold vo b Pu.impl_KeepActs.val
  rw [hf.1, hf.2]
  unfold Pu.spec_EntryText.v Pu.spec_Frame.val
  by_cases h : Pu.spec_EntryOk.v k s l b0 = true
  · have h1 := Pu.impl_framed.txt_size h
    have h2 := Pu.impl_framed.txt_pos h
    rw [if_pos h, if_pos h, if_pos (by dsimp only; omega)]; rfl
  · rw [if_neg h, if_neg h]; rfl
end Go.FG.Pu.spec_KeepActs

namespace Go.FG.Pu.laws_eqActS
theorem run (a : Row) (hl : a.length ≤ 9223372036854775807) : vo a a = some true := by
  unfold vo b
  rw [show ((a.length : Int) != (a.length : Int)) = false from bne_self_eq_false _, cond_false]
  have := Lib.loop_gen (fun n (i : Nat) => l4 Lib.big (fun (_ _ : Row) (y : Bool) (_ : Int) => some y) (fun (_ _ : Row) (_ : Bool) (_ : Int) => some true) n a a false (i : Int)) (fun i => a.length - i) (fun i => i ≤ a.length) (fun _ => some true) (fun n i hi => by
    by_cases h : i < a.length
    · right
      refine ⟨i + 1, h, by omega, rfl, ?_⟩
      have hi1 : w64 ((i : Int) + 1) = ((i + 1 : Nat) : Int) := Lib.w64_ok (by omega) (by omega)
      have hel : ∀ (x0 : Int) (x1 : ByteArray) (x2 : ByteArray) (x3 : ByteArray), Pu.laws_eqAct.v x0 x1 x2 x3 x0 x1 x2 x3 = true := fun _ _ _ _ => by
        simp only [Pu.laws_eqAct.v, bne_self_eq_false, Lib.beq_refl_ba, Bool.not_true, cond_false]
      simp only [l4, r4, Lib.dlt, h, decide_true, Lib.dle0, Bool.and_self, cond_true, Lib.toN, hi1, hel, Bool.not_true, cond_false]
    · left
      simp only [l4, r4, Lib.dlt, h, decide_false, cond_false]) Lib.big 0 (Nat.zero_le _) (Lib.lt_big (by omega))
  exact this
theorem ok (a : Row) (hl : a.length ≤ 9223372036854775807) : c a a = true ∧ v a a = true := out a a (run a hl)
end Go.FG.Pu.laws_eqActS

namespace Go.FG.Pu.laws_markText
theorem post (k : Int) (h1 : k ≤ 1152921504606846976) : ∃ x, vo k = some x := by
  unfold vo b
  cases h : decide (k ≤ 0) with
  | true => exact ⟨_, rfl⟩
  | false =>
    rw [cond_false]
    have h0 : ¬ k ≤ 0 := of_decide_eq_false h
    obtain ⟨x, hx, _⟩ := Lib.loop_post (fun n (s : Int × ByteArray) => l4 Lib.big (fun (y2 : Int) (y3 : ByteArray) => bif (decide (ByteArray.size { data := #[UInt8.ofNat 109] } + ByteArray.size y3 ≤ 4611686018427387904)) then some ({ data := #[UInt8.ofNat 109] } ++ y3) else none) n s.1 s.2)
      (fun s => s.1.toNat) (fun s => 0 ≤ s.1 ∧ (s.2.size : Int) + s.1 ≤ 1152921504606846976) (fun _ => True) (fun n s hs => by
        obtain ⟨x, t⟩ := s
        obtain ⟨a1, a2⟩ := hs
        dsimp only at a1 a2 ⊢
        have hsz : ByteArray.size (bytesOf (List.set (zeros [Ck.i IntKind.u8] 1) 0 [CV.i IntKind.u8 (IntKind.wrap IntKind.u8 (w64 (48 + Int.tmod x 10)))])) = 1 := by rw [Lib.size_bytesOf, List.length_set]; rfl
        by_cases hx : x > 0
        · right
          have e1 : Int.tdiv x 10 = x / 10 := Int.tdiv_eq_ediv_of_nonneg (by omega)
          refine ⟨(w64 (Int.tdiv x 10), bytesOf (List.set (zeros [Ck.i IntKind.u8] 1) 0 [CV.i IntKind.u8 (IntKind.wrap IntKind.u8 (w64 (48 + Int.tmod x 10)))]) ++ t), ?_, ?_, ?_⟩
          · dsimp only
            rw [e1, Lib.w64_ok (by omega) (by omega), Lib.size_app, hsz]; omega
          · dsimp only; rw [e1, Lib.w64_ok (by omega) (by omega)]; omega
          · simp only [l4, r4, decide_eq_true hx, cond_true, hsz]
            rw [Lib.bif_t (Lib.dnat (by omega))]
        · left
          refine ⟨{ data := #[UInt8.ofNat 109] } ++ t, ?_, trivial⟩
          simp only [l4, r4, decide_eq_false hx, cond_false]
          exact Lib.bif_t (Lib.dnat (show ByteArray.size { data := #[UInt8.ofNat 109] } + t.size ≤ _ by rw [show ByteArray.size { data := #[UInt8.ofNat 109] } = 1 from rfl]; omega))) Lib.big (k, ⟨#[]⟩) ⟨by dsimp only; omega, by dsimp only; rw [show ByteArray.size ⟨#[]⟩ = 0 from rfl]; omega⟩ (Lib.lt_big (by dsimp only; omega))
    exact ⟨x, hx⟩
theorem ok (k : Int) (h1 : k ≤ 1152921504606846976) : c k = true := by
  obtain ⟨x, h⟩ := post k h1
  exact (out k h).1
end Go.FG.Pu.laws_markText

namespace Go.FG.Pu.laws_markActS
def row (k : Int) : List CV := [CV.i IntKind.i64 (k), CV.s (Pu.laws_markText.v (k + 1)), CV.s (Pu.laws_markText.v (k + 1 + 1)), CV.s (Pu.laws_markText.v (k + 1 + 1 + 1))]
def mkl (k : Int) (n : Nat) : Row := (List.range n).map fun (j : Nat) => row (k + 4 * (j : Int))
theorem mkl_len (k : Int) (n : Nat) : (mkl k n).length = n := by unfold mkl; simp
theorem mkl_sh (k : Int) (n : Nat) : ∀ y ∈ mkl k n, y.length = 4 := by
  intro y hy; unfold mkl at hy; obtain ⟨j, _, rfl⟩ := List.mem_map.1 hy; rfl
theorem sp0 (y0 y1 y2 y3 x : CV) : splice [y0, y1, y2, y3] 0 [x] = [x, y1, y2, y3] := rfl
theorem sp1 (y0 y1 y2 y3 x : CV) : splice [y0, y1, y2, y3] 1 [x] = [y0, x, y2, y3] := rfl
theorem sp2 (y0 y1 y2 y3 x : CV) : splice [y0, y1, y2, y3] 2 [x] = [y0, y1, x, y3] := rfl
theorem sp3 (y0 y1 y2 y3 x : CV) : splice [y0, y1, y2, y3] 3 [x] = [y0, y1, y2, x] := rfl
theorem run (a0 : Row) (k1 : Int) (hs : ∀ y ∈ a0, y.length = 4) (hl : a0.length ≤ 4194304) (h0 : 0 ≤ k1) (h1 : k1 ≤ 1000000000000) : vo a0 k1 = some (k1 + 4 * (a0.length : Int), mkl k1 a0.length) := by
  unfold vo b
  have := Lib.loop_gen (fun n (i : Nat) => l2 Lib.big (fun (y3 y4 : Int) (y5 : Row) => some (y3, y5)) n (k1 + 4 * (i : Int)) (i : Int) (mkl k1 i ++ a0.drop i)) (fun i => a0.length - i) (fun i => i ≤ a0.length) (fun _ => some (k1 + 4 * (a0.length : Int), mkl k1 a0.length)) (fun n i hi => by
    have hml := mkl_len k1 i
    by_cases h : i < a0.length
    · right
      refine ⟨i + 1, h, by omega, rfl, ?_⟩
      have e3 : mkl k1 (i + 1) ++ a0.drop (i + 1) = mkl k1 i ++ row (k1 + 4 * (i : Int)) :: a0.drop (i + 1) := by
        unfold mkl; rw [Lib.range_map_succ, List.append_assoc]; rfl
      have eA : k1 + 4 * ((i + 1 : Nat) : Int) = (k1 + 4 * (i : Int)) + 1 + 1 + 1 + 1 := by omega
      show l2 Lib.big _ (n + 1) (k1 + 4 * (i : Int)) (i : Int) (mkl k1 i ++ a0.drop i) = l2 Lib.big _ n (k1 + 4 * ((i + 1 : Nat) : Int)) ((i + 1 : Nat) : Int) (mkl k1 (i + 1) ++ a0.drop (i + 1))
      rw [eA, e3, Lib.drop_cons_of h]
      have hy := hs _ (List.getElem_mem h)
      have hk0 : 0 ≤ k1 + 4 * (i : Int) := by omega
      have hk1 : k1 + 4 * (i : Int) ≤ 2000000000000 := by omega
      generalize k1 + 4 * (i : Int) = k at hk0 hk1
      generalize a0[i] = y at hy
      obtain ⟨y0, y1, y2, y3, rfl⟩ : ∃ y0 y1 y2 y3, y = [y0, y1, y2, y3] := by
        match y, hy with
        | [y0, y1, y2, y3], _ => exact ⟨y0, y1, y2, y3, rfl⟩
      have hd : ∀ z : List CV, decide ((i : Int) < ((mkl k1 i ++ z :: a0.drop (i + 1)).length : Int)) = true := fun z => by
        rw [Lib.len_mid, hml]; exact decide_eq_true (by omega)
      have hi1 : w64 ((i : Int) + 1) = ((i + 1 : Nat) : Int) := Lib.w64_ok (by omega) (by omega)
      simp only [l2, r2, Lib.length_setC, hd, Lib.dle0, Bool.and_self, cond_true, Lib.toN, Lib.setC_mid _ _ _ _ _ _ hml, sp0, sp1, sp2, sp3, Lib.w64_ok (x := k + 1) (by omega) (by omega), Lib.w64_ok (x := k + 1 + 1) (by omega) (by omega), Lib.w64_ok (x := k + 1 + 1 + 1) (by omega) (by omega), Lib.w64_ok (x := k + 1 + 1 + 1 + 1) (by omega) (by omega), Pu.laws_markText.ok (k + 1) (by omega), Pu.laws_markText.ok (k + 1 + 1) (by omega), Pu.laws_markText.ok (k + 1 + 1 + 1) (by omega), hi1]
      rfl
    · left
      have : i = a0.length := by omega
      subst this
      show l2 Lib.big _ (n + 1) (k1 + 4 * (a0.length : Int)) (a0.length : Int) (mkl k1 a0.length ++ a0.drop a0.length) = _
      rw [List.drop_length, List.append_nil]
      simp only [l2, r2, hml, Lib.dlt, Nat.lt_irrefl, decide_false, cond_false]) Lib.big 0 (Nat.zero_le _) (Lib.lt_big (by omega))
  have e0 : mkl k1 0 ++ a0.drop 0 = a0 := rfl
  rw [e0] at this
  simpa using this
theorem ok (a0 : Row) (k1 : Int) (hs : ∀ y ∈ a0, y.length = 4) (hl : a0.length ≤ 4194304) (h0 : 0 ≤ k1) (h1 : k1 ≤ 1000000000000) : c a0 k1 = true ∧ v a0 k1 = (k1 + 4 * (a0.length : Int), mkl k1 a0.length) := out a0 k1 (run a0 k1 hs hl h0 h1)
end Go.FG.Pu.laws_markActS

namespace Go.FG.Pu.laws_heldActS
theorem run (k1 : Int) (a : Nat) (hl : a ≤ 4194304) (h0 : 0 ≤ k1) (h1 : k1 ≤ 1000000000000) : vo (Pu.laws_markActS.mkl k1 a) k1 = some (k1 + 4 * (a : Int)) := by
  have hml := Pu.laws_markActS.mkl_len k1 a
  unfold vo b
  have := Lib.loop_gen (fun n (i : Nat) => l2 Lib.big (fun (_ : Row) (_ y6 _ : Int) => some y6) (fun (_ : Row) (y9 _ _ : Int) => some y9) n (Pu.laws_markActS.mkl k1 a) (k1 + 4 * (i : Int)) 0 (i : Int)) (fun i => a - i) (fun i => i ≤ a) (fun _ => some (k1 + 4 * (a : Int))) (fun n i hi => by
    by_cases h : i < a
    · right
      refine ⟨i + 1, h, by omega, rfl, ?_⟩
      have eA : k1 + 4 * ((i + 1 : Nat) : Int) = (k1 + 4 * (i : Int)) + 1 + 1 + 1 + 1 := by omega
      show l2 Lib.big _ _ (n + 1) (Pu.laws_markActS.mkl k1 a) (k1 + 4 * (i : Int)) 0 (i : Int) = l2 Lib.big _ _ n (Pu.laws_markActS.mkl k1 a) (k1 + 4 * ((i + 1 : Nat) : Int)) 0 ((i + 1 : Nat) : Int)
      rw [eA]
      have ce0 : cvI (cellAt (Pu.laws_markActS.mkl k1 a) i 0) = k1 + 4 * (i : Int) := by
        unfold Pu.laws_markActS.mkl; rw [Lib.cellAt_rm _ _ _ _ h]; rfl
      have ce1 : cvS (cellAt (Pu.laws_markActS.mkl k1 a) i 1) = Pu.laws_markText.v (k1 + 4 * (i : Int) + 1) := by
        unfold Pu.laws_markActS.mkl; rw [Lib.cellAt_rm _ _ _ _ h]; rfl
      have ce2 : cvS (cellAt (Pu.laws_markActS.mkl k1 a) i 2) = Pu.laws_markText.v (k1 + 4 * (i : Int) + 1 + 1) := by
        unfold Pu.laws_markActS.mkl; rw [Lib.cellAt_rm _ _ _ _ h]; rfl
      have ce3 : cvS (cellAt (Pu.laws_markActS.mkl k1 a) i 3) = Pu.laws_markText.v (k1 + 4 * (i : Int) + 1 + 1 + 1) := by
        unfold Pu.laws_markActS.mkl; rw [Lib.cellAt_rm _ _ _ _ h]; rfl
      have hk0 : 0 ≤ k1 + 4 * (i : Int) := by omega
      have hk1 : k1 + 4 * (i : Int) ≤ 2000000000000 := by omega
      generalize k1 + 4 * (i : Int) = k at *
      have hi1 : w64 ((i : Int) + 1) = ((i + 1 : Nat) : Int) := Lib.w64_ok (by omega) (by omega)
      simp only [l2, r2, hml, Lib.dlt, h, decide_true, Lib.dle0, Bool.and_self, cond_true, Lib.toN, ce0, ce1, ce2, ce3, Lib.w64_ok (x := k + 1) (by omega) (by omega), Lib.w64_ok (x := k + 1 + 1) (by omega) (by omega), Lib.w64_ok (x := k + 1 + 1 + 1) (by omega) (by omega), Lib.w64_ok (x := k + 1 + 1 + 1 + 1) (by omega) (by omega), Pu.laws_markText.ok (k + 1) (by omega), Pu.laws_markText.ok (k + 1 + 1) (by omega), Pu.laws_markText.ok (k + 1 + 1 + 1) (by omega), hi1, bne_self_eq_false, cond_false, Lib.beq_refl_ba, Bool.not_true]
    · left
      have : i = a := by omega
      subst this
      simp only [l2, r2, hml, Lib.dlt, Nat.lt_irrefl, decide_false, cond_false]) Lib.big 0 (Nat.zero_le _) (Lib.lt_big (by omega))
  simpa using this
theorem ok (k1 : Int) (a : Nat) (hl : a ≤ 4194304) (h0 : 0 ≤ k1) (h1 : k1 ≤ 1000000000000) : c (Pu.laws_markActS.mkl k1 a) k1 = true ∧ v (Pu.laws_markActS.mkl k1 a) k1 = k1 + 4 * (a : Int) := out _ _ (run k1 a hl h0 h1)
end Go.FG.Pu.laws_heldActS

namespace Go.FG.Pu.laws_FnExactKeepActs
theorem run (k : ByteArray) (s l : Int) (b0 : ByteArray) : vo k s l b0 = some true := by
  unfold vo b
  have h1 := Pu.spec_KeepActs.ok k s l b0
  have h2 := Pu.impl_KeepActs.ok k s l b0
  have hs := Pu.impl_KeepActs.val_sh k s l b0
  have h3 := Pu.laws_eqActS.ok (Pu.impl_KeepActs.val k s l b0).1 (by omega)
  have h4 := Pu.laws_markActS.ok (Pu.impl_KeepActs.val k s l b0).1 1 hs.1 (by omega) (by omega) (by omega)
  have h5 := Pu.laws_heldActS.ok 1 (Pu.impl_KeepActs.val k s l b0).1.length (by omega) (by omega) (by omega)
  have h6 : decide (1 + 4 * ((Pu.impl_KeepActs.val k s l b0).1.length : Int) < 0) = false := decide_eq_false (by omega)
  simp only [h1, h2, h3, h4, h5, h6, cond_true, cond_false, Bool.not_true, decide_true, bne_self_eq_false, Bool.cond_self]
theorem law (k : ByteArray) (s l : Int) (b0 : ByteArray) {A B C D : Prop} (_ : A) (_ : B) (_ : C) (_ : D) : v k s l b0 = true := (out k s l b0 (run k s l b0)).2
theorem lawc (k : ByteArray) (s l : Int) (b0 : ByteArray) {A B C D : Prop} (_ : A) (_ : B) (_ : C) (_ : D) : c k s l b0 = true := (out k s l b0 (run k s l b0)).1
end Go.FG.Pu.laws_FnExactKeepActs

