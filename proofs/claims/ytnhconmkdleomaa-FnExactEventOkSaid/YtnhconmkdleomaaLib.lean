/- Plain facts on numbers, texts and lists. No condition. -/
import Derived.Test.YtnhconmkdleomaaCorec
set_option linter.unusedVariables false
set_option linter.unusedSimpArgs false
set_option maxRecDepth 100000
namespace Go.FG.Lib
/-- Rounds: each either comes to the answer, or goes on with less left and the same answer. -/
theorem loop_gen {σ β : Type} (F : Nat → σ → β) (mu : σ → Nat) (inv : σ → Prop) (res : σ → β)
    (step : ∀ n s, inv s → F (n + 1) s = res s ∨ ∃ s', inv s' ∧ mu s' < mu s ∧ res s' = res s ∧ F (n + 1) s = F n s') : ∀ n s, inv s → mu s < n → F n s = res s := by
  intro n
  induction n with
  | zero => intro s _ h; omega
  | succ n ih =>
    intro s hi hm
    rcases step n s hi with h | ⟨s', h1, h2, h3, h4⟩
    · exact h
    · rw [h4, ← h3]; exact ih s' h1 (by omega)
theorem dlt (i n : Nat) : decide ((i : Int) < (n : Int)) = decide (i < n) := by
  rw [decide_eq_decide]; omega
theorem dle0 (i : Nat) : decide (0 ≤ (i : Int)) = true := by simp
theorem dlt_t {i n : Nat} (h : i < n) : decide ((i : Int) < (n : Int)) = true := by simp; omega
theorem dlt_f {i n : Nat} (h : ¬ i < n) : decide ((i : Int) < (n : Int)) = false := by simp; omega
theorem toN (i : Nat) : Int.toNat (i : Int) = i := rfl
theorem w64_s {i n : Nat} (h : i < n) (hn : n ≤ 9223372036854775807) : w64 ((i : Int) + 1) = ((i + 1 : Nat) : Int) := by
  rw [w64_eq (by omega) (by omega)]; omega
theorem w64_len {n : Nat} (hn : n ≤ 9223372036854775807) : w64 (n : Int) = (n : Int) := w64_eq (by omega) (by omega)
theorem getD_of {xs : Row} {i : Nat} (h : i < xs.length) : xs.getD i [] = xs[i] := by simp [List.getD, h]
theorem cellAt_of {xs : Row} {i j : Nat} (h : i < xs.length) : cellAt xs i j = xs[i].getD j (.b false) := by unfold cellAt; rw [getD_of h]
theorem length_setC (xs : Row) (i j : Nat) (ys : List CV) : (setC xs i j ys).length = xs.length := by unfold setC; simp
theorem length_zeros (ks : List Ck) (n : Nat) : (zeros ks n).length = n := by unfold zeros; simp
theorem setC_step {ks : List Ck} {w : Row} {i n : Nat} (hw : w.length = n) (hi : i < n) {y : List CV} (hy : w[i]? = some y) (hk : y.length = ks.length) : setC (w.take i ++ zeros ks (n - i)) i 0 y = w.take (i + 1) ++ zeros ks (n - (i + 1)) := by
  have hl : (w.take i).length = i := by simp; omega
  have hz : zeros ks (n - i) = ks.map zeroCV :: zeros ks (n - (i + 1)) := by
    unfold zeros; rw [show n - i = (n - (i + 1)) + 1 by omega, List.replicate_succ]
  have hg : (w.take i ++ zeros ks (n - i)).getD i [] = ks.map zeroCV := by
    rw [List.getD_eq_getElem?_getD, List.getElem?_append_right (by omega), hl, Nat.sub_self, hz]; rfl
  have hs : splice (ks.map zeroCV) 0 y = y := by
    unfold splice; rw [List.take_zero, List.nil_append, Nat.zero_add, List.drop_eq_nil_of_le (by simp [hk]), List.append_nil]
  unfold setC
  rw [hg, hs, List.set_append_right _ _ (by omega), hl, Nat.sub_self, hz, List.set_cons_zero, List.take_succ_eq_append_getElem (by omega), List.append_assoc]
  have : w[i] = y := by rw [List.getElem?_eq_getElem (by omega)] at hy; injection hy
  rw [this]; rfl
theorem roomy_of {n b : Nat} (h : n * b ≤ 140737488355328) (h2 : n ≤ 9223372036854775807) : roomy n b = true := by unfold roomy; simp; omega
/-- The zero row that is filled one for one. -/
theorem fill_run {R : Type} {ks : List Ck} (w : Row) (n : Nat) (hw : w.length = n) (hk : ∀ y ∈ w, y.length = ks.length) (F : Nat → Nat → Row → Option R) (K : Row → Option R)
    (h1 : ∀ m, F (m + 1) n w = K w) (h2 : ∀ m i, i < n → ∀ x, x.length = n → F (m + 1) i x = F m (i + 1) (setC x i 0 (w.getD i []))) : F (n + 1) 0 (zeros ks n) = K w := by
  have := loop_gen (fun m (i : Nat) => F m i (w.take i ++ zeros ks (n - i))) (fun i => n - i) (fun i => i ≤ n) (fun _ => K w) (fun m i hi => by
    by_cases h : i < n
    · right
      refine ⟨i + 1, h, by omega, rfl, ?_⟩
      have hy : w[i]? = some w[i] := List.getElem?_eq_getElem (by omega)
      have e := setC_step hw h hy (hk _ (List.getElem_mem (by omega)))
      rw [h2 m i h _ (by simp [zeros]; omega), show w.getD i [] = w[i] from by simp [List.getD, hy], e]
    · left
      have : i = n := by omega
      subst this
      have e1 : w.take i = w := List.take_of_length_le (by omega)
      have e2 : zeros ks (i - i) = [] := by unfold zeros; simp
      rw [e1, e2, List.append_nil]; exact h1 m) (n + 1) 0 (Nat.zero_le _) (by omega)
  simpa using this
theorem setC_eq {xs : Row} {i j : Nat} {ys : List CV} (h : i < xs.length) : setC xs i j ys = xs.set i (splice xs[i] j ys) := by unfold setC; rw [getD_of h]
theorem set_take_drop {x : Row} {i : Nat} (h : i < x.length) (y : List CV) (f : Row → Row) : (x.set i y).take (i + 1) ++ f ((x.set i y).drop (i + 1)) = x.take i ++ (y :: f (x.drop (i + 1))) := by
  have h1 : (x.set i y).take (i + 1) = x.take i ++ [y] := by
    rw [List.take_succ_eq_append_getElem (by simpa using h)]
    simp [List.take_set_of_le]
  have h2 : (x.set i y).drop (i + 1) = x.drop (i + 1) := by simp [List.drop_set_of_lt]
  rw [h1, h2, List.append_assoc]; rfl
theorem drop_cons_of {x : Row} {i : Nat} (h : i < x.length) : x.drop i = x[i] :: x.drop (i + 1) := List.drop_eq_getElem_cons h
/-- A number that goes on by one, n times. -/
def up : Int → Nat → Int | k, 0 => k | k, n + 1 => up (w64 (k + 1)) n
theorem up_eq : ∀ (n : Nat) (k : Int), -9223372036854775808 ≤ k → k + n ≤ 9223372036854775807 → up k n = k + n
  | 0, k, _, _ => by simp [up]
  | n + 1, k, h1, h2 => by
    unfold up
    rw [w64_eq (by omega) (by omega), up_eq n (k + 1) (by omega) (by omega)]; omega
theorem w64_le {x : Int} (h : 0 ≤ x) : w64 x ≤ x := by
  have e : w64 x = if (decide (x % 18446744073709551616 ≥ 9223372036854775808)) = true then x % 18446744073709551616 - 18446744073709551616 else x % 18446744073709551616 := rfl
  rw [e]
  split <;> omega
/-- A number's bytes, seven bits each, the low ones first. -/
def vb (x : Int) : Row :=
  if x > 127 then [CV.i IntKind.u8 (IntKind.wrap IntKind.u8 (w64 (Int.tmod x 128 + 128)))] :: vb (w64 (Int.tdiv x 128)) else [[CV.i IntKind.u8 (IntKind.wrap IntKind.u8 x)]]
termination_by x.toNat
decreasing_by
  rename_i h
  have h1 : Int.tdiv x 128 = x / 128 := Int.tdiv_eq_ediv_of_nonneg (by omega)
  have h2 := w64_le (x := Int.tdiv x 128) (by omega)
  omega
theorem vb_big {x : Int} (h : x > 127) : vb x = [CV.i IntKind.u8 (IntKind.wrap IntKind.u8 (w64 (Int.tmod x 128 + 128)))] :: vb (w64 (Int.tdiv x 128)) := by rw [vb, if_pos h]
theorem vb_small {x : Int} (h : ¬ x > 127) : vb x = [[CV.i IntKind.u8 (IntKind.wrap IntKind.u8 x)]] := by rw [vb, if_neg h]
theorem roomy1 {n : Nat} (h : n ≤ 140737488355328) : roomy n 1 = true := roomy_of (by omega) (by omega)
theorem len_set1 (y : List CV) (ks : List Ck) : (List.set (zeros ks 1) 0 y) = [y] := rfl
theorem var_run {R : Type} (F : Nat → Int → Row → Option R) (k : ByteArray → Option R)
    (h1 : ∀ n x acc, x > 127 → acc.length ≤ 100 → F (n + 1) x acc = F n (w64 (Int.tdiv x 128)) (acc ++ [[CV.i IntKind.u8 (IntKind.wrap IntKind.u8 (w64 (Int.tmod x 128 + 128)))]]))
    (h2 : ∀ n x acc, ¬ x > 127 → acc.length ≤ 100 → F (n + 1) x acc = k (bytesOf (acc ++ [[CV.i IntKind.u8 (IntKind.wrap IntKind.u8 x)]]))) (x : Int) (hx : x ≤ 9223372036854775807) : F (x.toNat + 1) x [] = k (bytesOf (vb x)) := by
  have := loop_gen (fun n (s : Int × Row) => F n s.1 s.2) (fun s => s.1.toNat) (fun s => s.2.length ≤ 100 ∧ (1 ≤ s.1 → 2 ^ s.2.length * s.1 ≤ 9223372036854775808)) (fun s => k (bytesOf (s.2 ++ vb s.1))) (fun n s hs => by
    obtain ⟨x, acc⟩ := s
    obtain ⟨hl, hb⟩ := hs
    dsimp only at hl hb ⊢
    by_cases h : x > 127
    · right
      have e1 : Int.tdiv x 128 = x / 128 := Int.tdiv_eq_ediv_of_nonneg (by omega)
      have hp : (1 : Int) ≤ 2 ^ acc.length := by
        have : (0 : Int) < 2 ^ acc.length := by exact Int.pow_pos (by omega)
        omega
      have hxb : x ≤ 9223372036854775808 := by
        have h3 := hb (by omega)
        have : 1 * x ≤ 2 ^ acc.length * x := Int.mul_le_mul_of_nonneg_right hp (by omega)
        omega
      have e2 : w64 (Int.tdiv x 128) = x / 128 := by rw [e1, w64_eq (by omega) (by omega)]
      have h64 : acc.length < 64 := by
        rcases Nat.lt_or_ge acc.length 64 with h5 | h5
        · exact h5
        · exfalso
          have h6 : (2 : Int) ^ 64 ≤ 2 ^ acc.length := by
            have := Nat.pow_le_pow_right (n := 2) (by omega) h5
            exact_mod_cast this
          have h7 := hb (by omega)
          have h8 : (2 : Int) ^ acc.length * 1 ≤ 2 ^ acc.length * x := Int.mul_le_mul_of_nonneg_left (by omega) (by omega)
          have : (2 : Int) ^ 64 = 18446744073709551616 := by decide
          omega
      refine ⟨(w64 (Int.tdiv x 128), acc ++ [[CV.i IntKind.u8 (IntKind.wrap IntKind.u8 (w64 (Int.tmod x 128 + 128)))]]), ⟨by simp; omega, fun _ => ?_⟩, by dsimp only; omega, ?_, h1 n x acc h hl⟩
      · dsimp only
        rw [e2, List.length_append, List.length_singleton, Int.pow_succ]
        have h7 := hb (by omega)
        have h9 : 2 * (x / 128) ≤ x := by omega
        have h8 : (2 : Int) ^ acc.length * (2 * (x / 128)) ≤ 2 ^ acc.length * x := Int.mul_le_mul_of_nonneg_left h9 (by omega)
        rw [Int.mul_assoc]; omega
      · dsimp only
        rw [vb_big h, List.append_assoc]; rfl
    · left
      rw [vb_small h]; exact h2 n x acc h hl) (x.toNat + 1) (x, []) ⟨by simp, fun h => by simp; omega⟩ (by dsimp only; omega)
  simpa using this
theorem dnat {a b c : Nat} {inst : Decidable (a + b ≤ c)} (h : a + b ≤ c) : @decide (a + b ≤ c) inst = true := decide_eq_true h
theorem vb_len : ∀ (n : Nat) (x : Int), x < 2 ^ n → (vb x).length ≤ n + 1 := by
  intro n
  induction n with
  | zero => intro x hx; rw [vb_small (by omega)]; simp
  | succ n ih =>
    intro x hx
    by_cases h : x > 127
    · have e1 : Int.tdiv x 128 = x / 128 := Int.tdiv_eq_ediv_of_nonneg (by omega)
      have h2 := w64_le (x := Int.tdiv x 128) (by omega)
      rw [vb_big h]
      have h3 : w64 (Int.tdiv x 128) < 2 ^ n := by
        rw [Int.pow_succ] at hx; omega
      have := ih _ h3
      simp; omega
    · rw [vb_small h]; simp
theorem size_bytesOf (xs : Row) : (bytesOf xs).size = xs.length := by unfold bytesOf; simp [ByteArray.size]
theorem var_size {x : Int} (h : x ≤ 9223372036854775807) : (bytesOf (vb x)).size ≤ 64 := by
  rw [size_bytesOf]; exact vb_len 63 x (by have : (2 : Int) ^ 63 = 9223372036854775808 := by decide
                                           omega)
theorem size_app (a b : ByteArray) : (a ++ b).size = a.size + b.size := ByteArray.size_append
theorem beq_self (l : List UInt8) : List.beq l l = true := by
  induction l with
  | nil => rfl
  | cons a l ih => simp only [List.beq, ih, Bool.and_true]; exact beq_self_eq_true a
theorem sub_len {L : Int} {n : Nat} (h0 : 0 ≤ L) (h1 : L ≤ 1048576) (hn : n ≤ 9223372036854775807) : w64 (L - (n : Int)) = L - n := w64_eq (by omega) (by omega)
end Go.FG.Lib

