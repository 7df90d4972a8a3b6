/- What the functions come to, in plain numbers, texts and lists; last the law itself. No condition but those that each states. -/
import Derived.Test.YtijidheebmbkcaaPAnew
set_option linter.unusedVariables false
set_option linter.unusedSimpArgs false
set_option maxRecDepth 100000
namespace Go.FG.U57
theorem bl_irrefl : ∀ x : List UInt8, Go.Op.bytesLess x x = false
 | [] => rfl
 | a :: x => by
  have h : ¬ a < a := by rw [UInt8.lt_iff_toNat_lt]; omega
  simp [Go.Op.bytesLess, bl_irrefl x, h]
theorem bl_trans : ∀ x y z : List UInt8, Go.Op.bytesLess x y = true -> Go.Op.bytesLess y z = true -> Go.Op.bytesLess x z = true
 | _, [], _, h, _ => by cases ‹List UInt8› <;> simp [Go.Op.bytesLess] at h
 | _, _ :: _, [], _, h => by simp [Go.Op.bytesLess] at h
 | [], _ :: _, _ :: _, _, _ => by simp [Go.Op.bytesLess]
 | a :: x, b :: y, c :: z, h1, h2 => by
  simp only [Go.Op.bytesLess, Bool.or_eq_true, Bool.and_eq_true, decide_eq_true_eq, beq_iff_eq] at h1 h2 ⊢
  simp only [UInt8.lt_iff_toNat_lt] at h1 h2 ⊢
  rcases h1 with h1 | ⟨rfl, h1⟩
  ·rcases h2 with h2 | ⟨rfl, h2⟩
   ·left; omega
   ·left; exact h1
  ·rcases h2 with h2 | ⟨rfl, h2⟩
   ·left; exact h2
   ·right; exact ⟨rfl, bl_trans x y z h1 h2⟩
theorem bl_tri : ∀ x y : List UInt8, Go.Op.bytesLess x y = false -> x ≠ y -> Go.Op.bytesLess y x = true
 | [], [], _, h => absurd rfl h
 | [], _ :: _, h, _ => by simp [Go.Op.bytesLess] at h
 | _ :: _, [], _, _ => by simp [Go.Op.bytesLess]
 | a :: x, b :: y, h, hn => by
  simp only [Go.Op.bytesLess, Bool.or_eq_false_iff, Bool.and_eq_false_iff, decide_eq_false_iff_not, beq_eq_false_iff_ne] at h
  simp only [Go.Op.bytesLess, Bool.or_eq_true, Bool.and_eq_true, decide_eq_true_eq, beq_iff_eq]
  obtain ⟨h1, h2⟩ := h
  by_cases he : a = b
  ·subst he
   right
   refine ⟨rfl, bl_tri x y ?_ (fun e => hn (by rw [e]))⟩
   rcases h2 with h2 | h2
   ·exact absurd rfl h2
   ·exact h2
  ·left
   rw [UInt8.lt_iff_toNat_lt] at h1 ⊢
   have : a.toNat ≠ b.toNat := fun e => he (UInt8.toNat_inj.1 e)
   omega
def key (y : List CV) : List UInt8 := ByteArray.toList (cvS (y.getD 0 (.b false)))
def lt (y z : List CV) : Prop := Go.Op.bytesLess (key y) (key z) = true
def cr (y : List CV) : List CV := [CV.s (cvS (y.getD 0 (.b false))), CV.i IntKind.i64 (cvI (y.getD 1 (.b false))), CV.i IntKind.i64 (cvI (y.getD 2 (.b false))), CV.s (cvS (y.getD 3 (.b false)))]
def nw (k : ByteArray) (s l : Int) (b : ByteArray) : List CV := [CV.s k, CV.i IntKind.i64 s, CV.i IntKind.i64 l, CV.s b]
def pl (k : ByteArray) (y : List CV) : Bool := Go.Op.bytesLess (key y) (ByteArray.toList k)
def pg (k : ByteArray) (y : List CV) : Bool := !(Go.Op.bytesLess (key y) (ByteArray.toList k) || List.beq (key y) (ByteArray.toList k))
def val (r : Row) (k : ByteArray) (s l : Int) (b : ByteArray) : Row := (r.filter (pl k)).map cr ++ [nw k s l b] ++ (r.filter (pg k)).map cr
theorem ok (r : Row) (k : ByteArray) (s l : Int) (b0 : ByteArray) (hl : r.length <= 1048576) : c r k s l b0 = true /\ v r k s l b0 = val r k s l b0 := by
 refine out r k s l b0 ?_
 unfold vo
 have hw : ∀ i, i < r.length -> w64 ((i : Int) + 1) = ((i + 1 : Nat) : Int) := fun i h => Lib.w64_s h (by omega)
 have key2 := fun (acc0 : Row) (ha : acc0.length <= 2000000) => Lib.filt_run (pg k) cr r 2000000
  (fun m (i : Nat) (acc : Row) => l9 Lib.big (fun (_ : Row) (_ : Int) (_ : ByteArray) (_ _ : Int) (_ : ByteArray) (y27 : Row) => some y27) m r (i : Int) k s l b0 acc) (fun acc => some acc)
  (fun m i acc h h2 hp => by
   have hp' : (!(Go.Op.bytesLess (ByteArray.toList (cvS (cellAt r i 0))) (ByteArray.toList k) || List.beq (ByteArray.toList (cvS (cellAt r i 0))) (ByteArray.toList k))) = true := by rw [Lib.cellAt_of h]; exact hp
   simp only [l9, r9, Lib.dlt, h, decide_true, Lib.dle0, Bool.and_self, cond_true, Lib.toN, hp', hw i h, Lib.len_set1, List.length_singleton, Lib.roomy_of (n := acc.length + 1) (b := 48) (by omega) (by omega)]
   have e : [CV.s (cvS (cellAt r i 0)), CV.i IntKind.i64 (cvI (cellAt r i 1)), CV.i IntKind.i64 (cvI (cellAt r i (1 + 1))), CV.s (cvS (cellAt r i (1 + 1 + 1)))] = cr r[i] := by
    rw [Lib.cellAt_of h, Lib.cellAt_of h, Lib.cellAt_of h, Lib.cellAt_of h]; rfl
   rw [e])
  (fun m i acc h h2 hp => by
   have hp' : (!(Go.Op.bytesLess (ByteArray.toList (cvS (cellAt r i 0))) (ByteArray.toList k) || List.beq (ByteArray.toList (cvS (cellAt r i 0))) (ByteArray.toList k))) = false := by rw [Lib.cellAt_of h]; exact hp
   simp only [l9, r9, Lib.dlt, h, decide_true, Lib.dle0, Bool.and_self, cond_true, Lib.toN, hp', cond_false, hw i h])
  (fun m acc => by simp only [l9, r9, Lib.dlt, Nat.lt_irrefl, decide_false, cond_false]) Lib.big acc0 ha (Lib.lt_big (by omega))
 have key1 := Lib.filt_run (pl k) cr r 0
  (fun m (i : Nat) (acc : Row) => l3 Lib.big (fun (y7 : Row) (_ : Int) (y9 : ByteArray) (y10 y11 : Int) (y12 : ByteArray) (y13 : Row) => bif (roomy (List.length y13 + List.length (List.set (zeros [Ck.s, Ck.i IntKind.i64, Ck.i IntKind.i64, Ck.s] 1) 0 [CV.s y9, CV.i IntKind.i64 y10, CV.i IntKind.i64 y11, CV.s y12])) 48) then (l9 Lib.big (fun (_ : Row) (_ : Int) (_ : ByteArray) (_ _ : Int) (_ : ByteArray) (y27 : Row) => some y27) Lib.big y7 0 y9 y10 y11 y12 (y13 ++ List.set (zeros [Ck.s, Ck.i IntKind.i64, Ck.i IntKind.i64, Ck.s] 1) 0 [CV.s y9, CV.i IntKind.i64 y10, CV.i IntKind.i64 y11, CV.s y12])) else (none)) m r (i : Int) k s l b0 acc)
  (fun acc => bif (roomy (List.length acc + 1) 48) then (l9 Lib.big (fun (_ : Row) (_ : Int) (_ : ByteArray) (_ _ : Int) (_ : ByteArray) (y27 : Row) => some y27) Lib.big r 0 k s l b0 (acc ++ [nw k s l b0])) else none)
  (fun m i acc h h2 hp => by
   have hp' : Go.Op.bytesLess (ByteArray.toList (cvS (cellAt r i 0))) (ByteArray.toList k) = true := by rw [Lib.cellAt_of h]; exact hp
   simp only [l3, r3, Lib.dlt, h, decide_true, Lib.dle0, Bool.and_self, cond_true, Lib.toN, hp', hw i h, Lib.len_set1, List.length_singleton, Lib.roomy_of (n := acc.length + 1) (b := 48) (by omega) (by omega)]
   have e : [CV.s (cvS (cellAt r i 0)), CV.i IntKind.i64 (cvI (cellAt r i 1)), CV.i IntKind.i64 (cvI (cellAt r i (1 + 1))), CV.s (cvS (cellAt r i (1 + 1 + 1)))] = cr r[i] := by
    rw [Lib.cellAt_of h, Lib.cellAt_of h, Lib.cellAt_of h, Lib.cellAt_of h]; rfl
   rw [e])
  (fun m i acc h h2 hp => by
   have hp' : Go.Op.bytesLess (ByteArray.toList (cvS (cellAt r i 0))) (ByteArray.toList k) = false := by rw [Lib.cellAt_of h]; exact hp
   simp only [l3, r3, Lib.dlt, h, decide_true, Lib.dle0, Bool.and_self, cond_true, Lib.toN, hp', cond_false, hw i h])
  (fun m acc => by simp only [l3, r3, Lib.dlt, Nat.lt_irrefl, decide_false, cond_false]; rfl) Lib.big [] (Nat.le_refl _) (Lib.lt_big (by omega))
 unfold b
 refine key1.trans ?_
 have hf : ((r.filter (pl k)).map cr).length <= r.length := by rw [List.length_map]; exact List.length_filter_le _ _
 rw [List.nil_append, Lib.roomy_of (by omega) (by omega), cond_true]
 exact key2 _ (by rw [List.length_append, List.length_singleton]; omega)
def Or (r : Row) : Prop := r.Pairwise lt /\ ∀ y ∈ r, cr y = y
theorem map_cr {r : Row} (h : ∀ y ∈ r, cr y = y) (q : List CV -> Bool) : (r.filter q).map cr = r.filter q := by
 have := List.map_congr_left (l := r.filter q) (f := cr) (g := fun z => z) (fun y hy => h y (List.mem_filter.1 hy).1)
 rw [this]; exact List.map_id _
theorem keep_or {r : Row} (h : Or r) (k : ByteArray) (s l : Int) (b : ByteArray) : Or (val r k s l b) /\ (val r k s l b).length <= r.length + 1 := by
 unfold val
 rw [map_cr h.2, map_cr h.2]
 have hg : ∀ y, pg k y = true -> Go.Op.bytesLess (ByteArray.toList k) (key y) = true := by
  intro y hy
  unfold pg at hy
  simp only [Bool.not_eq_true', Bool.or_eq_false_iff] at hy
  refine bl_tri _ _ hy.1 (fun e => ?_)
  have := hy.2
  rw [e, Lib.beq_self] at this; cases this
 refine ⟨⟨?_, ?_⟩, ?_⟩
 ·rw [List.append_assoc, List.pairwise_append]
  refine ⟨h.1.sublist List.filter_sublist, ?_, ?_⟩
  ·rw [List.singleton_append, List.pairwise_cons]
   exact ⟨fun y hy => hg y (List.mem_filter.1 hy).2, h.1.sublist List.filter_sublist⟩
  ·intro y hy z hz
   have h1 : Go.Op.bytesLess (key y) (ByteArray.toList k) = true := (List.mem_filter.1 hy).2
   rcases List.mem_append.1 hz with q | q
   ·rw [List.mem_singleton.1 q]; exact h1
   ·exact bl_trans _ _ _ h1 (hg z (List.mem_filter.1 q).2)
 ·intro y hy
  rcases List.mem_append.1 hy with q | q
  ·rcases List.mem_append.1 q with q | q
   ·exact h.2 y (List.mem_filter.1 q).1
   ·rw [List.mem_singleton.1 q]; rfl
  ·exact h.2 y (List.mem_filter.1 q).1
 ·have hlen : ∀ r : Row, (r.filter (pl k)).length + (r.filter (pg k)).length <= r.length := by
   intro r
   induction r with
   | nil => exact Nat.le_refl _
   | cons y r ih =>
    have hx : pl k y = true -> pg k y = false := by
     intro h; unfold pl at h; unfold pg; rw [h]; rfl
    cases h1 : pl k y with
    | true =>
     rw [List.filter_cons_of_pos h1, List.filter_cons_of_neg (by rw [hx h1]; simp)]
     simp only [List.length_cons]; omega
    | false =>
     rw [List.filter_cons_of_neg (by simp [h1])]
     cases h2 : pg k y with
     | true => rw [List.filter_cons_of_pos h2]; simp only [List.length_cons]; omega
     | false => rw [List.filter_cons_of_neg (by simp [h2])]; simp only [List.length_cons]; omega
  have := hlen r
  simp only [List.length_append, List.length_singleton]; omega
end Go.FG.U57

namespace Go.FG.U80b
def p (s : Row) (k : ByteArray) (i : Nat) : Bool := List.beq (ByteArray.toList (cvS (cellAt s i 0))) (ByteArray.toList k)
theorem ok (d : Row) (n : ByteArray) (hl : d.length <= 4294967296) : c d n = true /\ v d n = Lib.fi (p d n) d.length 0 := by
 refine out d n ?_
 unfold vo b
 refine Lib.fi_gen (p d n) d.length (fun m (i : Nat) => l2 Lib.big (fun (_ : Row) (_ : ByteArray) (y7 _ _ : Int) => some y7) (fun (_ : Row) (_ : ByteArray) (_ _ _ : Int) => some (-1)) m d n 0 (d.length : Int) (i : Int)) some (fun m i hi hp => ?_) (fun m i hi hp => ?_) (fun m => ?_) Lib.big (Lib.lt_big (by omega))
 ·unfold p at hp
  simp only [l2, r2, Lib.dlt, Lib.dle0, Lib.toN, hi, decide_true, Bool.and_self, cond_true, U176.v, hp]
 ·unfold p at hp
  simp only [l2, r2, Lib.dlt, Lib.dle0, Lib.toN, hi, decide_true, Bool.and_self, cond_true, U176.v, hp, cond_false, Lib.w64_s hi (by omega : d.length <= 9223372036854775807)]
 ·simp only [l2, r2, Lib.dlt, Nat.lt_irrefl, decide_false, cond_false]
end Go.FG.U80b

namespace Go.FG.U175
def cn (y : List CV) : Bool := match y with | [.s _, .i .i64 _, .i .i64 _, .s _] => true | _ => false
def cr (y : List CV) : List CV := [CV.s (cvS (y.getD 0 (.b false))), CV.i IntKind.i64 (cvI (y.getD 1 (.b false))), CV.i IntKind.i64 (cvI (y.getD 2 (.b false))), CV.s (cvS (y.getD 3 (.b false)))]
theorem cr_of {y : List CV} (h : cn y = true) : cr y = y := by
 unfold cn at h
 split at h
 ·rfl
 ·cases h
theorem len_of {y : List CV} (h : cn y = true) : y.length = 4 := by rw [<- cr_of h]; rfl
def keep (d : ByteArray) (y : List CV) : Bool := !List.beq (ByteArray.toList (cvS (y.getD 0 (.b false)))) (ByteArray.toList d)
theorem filter_succ (d : ByteArray) {s : Row} {i : Nat} (h : i < s.length) : (s.take (i + 1)).filter (keep d) = (s.take i).filter (keep d) ++ (bif keep d s[i] then [s[i]] else []) := by
 rw [List.take_succ_eq_append_getElem h, List.filter_append]
 cases hk : keep d s[i] <;> simp [hk]
theorem run {R : Type} (N : Nat) (s0 : Row) (d : ByteArray) (hc : s0.all cn = true) (hn : s0.length <= 9223372036854775807) (K : ByteArray -> Int -> Int -> Row -> Option R) (kr : Row -> Option R)
  (hK : ∀ (j : Nat) x, x.length = s0.length -> j <= s0.length -> K d j s0.length x = kr (x.take j)) (m j i : Nat) (x : Row)
  (hi : j < i /\ i <= s0.length /\ x.length = s0.length /\ (∀ y ∈ x, y.length = 4) /\ x.take j = (s0.take i).filter (keep d) /\ x.drop i = s0.drop i) (hm : s0.length - i < m) :
  l5 N K m d j i x = kr (s0.filter (keep d)) := by
 have hca : ∀ y ∈ s0, cn y = true := List.all_eq_true.1 hc
 refine Lib.loop_gen (fun m (s : Nat × Nat × Row) => l5 N K m d s.1 s.2.1 s.2.2) (fun s => s0.length - s.2.1)
  (fun s => s.1 < s.2.1 /\ s.2.1 <= s0.length /\ s.2.2.length = s0.length /\ (∀ y ∈ s.2.2, y.length = 4) /\ s.2.2.take s.1 = (s0.take s.2.1).filter (keep d) /\ s.2.2.drop s.2.1 = s0.drop s.2.1)
  (fun _ => kr (s0.filter (keep d))) (fun m s hs => ?_) m (j, i, x) hi hm
 obtain ⟨j, i, x⟩ := s
 obtain ⟨h1, h2, h3, h4, h5, h6⟩ := hs
 simp only at h1 h2 h3 h4 h5 h6 ⊢
 by_cases hin : i < s0.length
 ·right
  have hix : i < x.length := by omega
  have hjx : j < x.length := by omega
  have hx : x[i] = s0[i] := by
   have e1 := Lib.drop_cons_of hix
   have e2 := Lib.drop_cons_of hin
   rw [h6, e2] at e1
   exact (List.cons.inj e1).1.symm
  have hd : x.drop (i + 1) = s0.drop (i + 1) := by
   have e1 := Lib.drop_cons_of hix
   have e2 := Lib.drop_cons_of hin
   rw [h6, e2] at e1
   exact (List.cons.inj e1).2.symm
  have hcn := hca _ (List.getElem_mem hin)
  have hf := filter_succ d hin
  cases hk : keep d s0[i] with
  | true =>
   refine ⟨(j + 1, i + 1, x.set j s0[i]), ?_, by simp only; omega, trivial, ?_⟩
   ·rw [hk, cond_true, <- h5] at hf
    refine ⟨by simp only; omega, by simp only; omega, by simpa using h3, ?_, ?_, ?_⟩
    ·intro y hy
     rcases List.mem_or_eq_of_mem_set hy with h | h
     ·exact h4 y h
     ·rw [h]; exact len_of hcn
    ·rw [hf]
     rw [List.take_succ_eq_append_getElem (by simpa using hjx)]
     simp [List.take_set_of_le]
    ·simp only
     rw [List.drop_set_of_lt (by omega)]; exact hd
   ·have e : U176.v (cvS (cellAt x i 0)) (cvI (cellAt x i 1)) (cvI (cellAt x i (1 + 1))) (cvS (cellAt x i (1 + 1 + 1))) d = false := by
     have : (!U176.v (cvS (cellAt x i 0)) (cvI (cellAt x i 1)) (cvI (cellAt x i (1 + 1))) (cvS (cellAt x i (1 + 1 + 1))) d) = true := by
      rw [Lib.cellAt_of hix, hx]; exact hk
     simpa using this
    have es : setC x j 0 [CV.s (cvS (cellAt x i 0)), CV.i IntKind.i64 (cvI (cellAt x i 1)), CV.i IntKind.i64 (cvI (cellAt x i (1 + 1))), CV.s (cvS (cellAt x i (1 + 1 + 1)))] = x.set j s0[i] := by
     have hl := h4 _ (List.getElem_mem hjx)
     rw [Lib.setC_eq hjx, Lib.cellAt_of hix, Lib.cellAt_of hix, Lib.cellAt_of hix, Lib.cellAt_of hix, hx]
     have : splice x[j] 0 (cr s0[i]) = s0[i] := by
      rw [cr_of hcn]
      unfold splice
      have := len_of hcn
      simp [hl, this, List.drop_eq_nil_of_le]
     unfold cr at this
     rw [this]
    have b1 : (j : Int) < (x.length : Int) := by omega
    simp only [l5, r5, Lib.dlt, Lib.dle0, Lib.toN, hix, hjx, decide_true, Bool.true_and, cond_true, e, Bool.not_false, es, Lib.w64_s hin hn, Lib.w64_s (show j < s0.length by omega) hn]
  | false =>
   refine ⟨(j, i + 1, x), ?_, by simp only; omega, trivial, ?_⟩
   ·rw [hk, cond_false, List.append_nil, <- h5] at hf
    exact ⟨by simp only; omega, by simp only; omega, h3, h4, hf.symm, hd⟩
   ·have e : U176.v (cvS (cellAt x i 0)) (cvI (cellAt x i 1)) (cvI (cellAt x i (1 + 1))) (cvS (cellAt x i (1 + 1 + 1))) d = true := by
     have : (!U176.v (cvS (cellAt x i 0)) (cvI (cellAt x i 1)) (cvI (cellAt x i (1 + 1))) (cvS (cellAt x i (1 + 1 + 1))) d) = false := by
      rw [Lib.cellAt_of hix, hx]; exact hk
     simpa using this
    simp only [l5, r5, Lib.dlt, Lib.dle0, Lib.toN, hix, decide_true, Bool.true_and, cond_true, e, Bool.not_true, cond_false, Lib.w64_s hin hn]
 ·left
  have : i = s0.length := by omega
  subst this
  rw [List.take_length] at h5
  have e := hK j x h3 (by omega)
  rw [h5] at e
  have hix : ¬ s0.length < x.length := by omega
  simp only [l5, r5, Lib.dlt, hix, decide_false, cond_false, e]
theorem ok (s0 : Row) (del1 : ByteArray) (hc : s0.all cn = true) (hn : s0.length <= 4294967296) : c s0 del1 = true /\ v s0 del1 = s0.filter (keep del1) := by
 refine out s0 del1 ?_
 have hv := U80b.ok s0 del1 hn
 unfold vo b
 rw [hv.1, hv.2, cond_true]
 rcases Lib.fi_rng (U80b.p s0 del1) s0.length 0 with ⟨h, hall⟩ | ⟨k, _, hk2, hk, hkp, hbef⟩
 ·rw [h]
  have : s0.filter (keep del1) = s0 := by
   rw [List.filter_eq_self]
   intro y hy
   obtain ⟨i, hi, rfl⟩ := List.getElem_of_mem hy
   have := hall i (Nat.zero_le _) (by omega)
   unfold U80b.p at this
   rw [Lib.cellAt_of hi] at this
   unfold keep; rw [this]; rfl
  rw [this]; rfl
 ·rw [hk]
  have hkl : k < s0.length := by omega
  have hne : decide ((k : Int) = Int.neg 1) = false := decide_eq_false (by show ¬ (k : Int) = -1; omega)
  rw [hne, cond_false, Lib.w64_s hkl (by omega)]
  have hca : ∀ y ∈ s0, cn y = true := List.all_eq_true.1 hc
  refine run _ s0 del1 hc (by omega) _ some (fun j x hx hj => ?_) _ k (k + 1) s0 ⟨by omega, by omega, rfl, fun y hy => len_of (hca y hy), ?_, rfl⟩ (Lib.lt_big (by omega))
  ·have b1 : inB (j : Int) (s0.length : Int) (s0.length : Int) = true := by simp [inB]; omega
   have e : List.take j x ++ zeros [Ck.s, Ck.i IntKind.i64, Ck.i IntKind.i64, Ck.s] (s0.length - j) ++ List.drop s0.length x = List.take j x ++ zeros [Ck.s, Ck.i IntKind.i64, Ck.i IntKind.i64, Ck.s] (s0.length - j) := by
    rw [List.drop_eq_nil_of_le (by omega), List.append_nil]
   have hl : (List.take j x).length = j := by simp; omega
   simp only [hx, Lib.toN, b1, cond_true, e]
   rw [Lib.bif_t (by simp [inB]; omega)]
   unfold view
   rw [show Int.toNat 0 = 0 from rfl, List.drop_zero, Nat.sub_zero, List.take_append_of_le_length (by omega), List.take_of_length_le (by omega)]
  ·rw [filter_succ del1 hkl]
   have e1 : keep del1 s0[k] = false := by
    unfold U80b.p at hkp
    rw [Lib.cellAt_of hkl] at hkp
    unfold keep; rw [hkp]; rfl
   have e2 : (s0.take k).filter (keep del1) = s0.take k := by
    rw [List.filter_eq_self]
    intro y hy
    obtain ⟨i, hi, rfl⟩ := List.getElem_of_mem hy
    have hik : i < k := by simp at hi; omega
    have := hbef i (Nat.zero_le _) hik
    unfold U80b.p at this
    rw [Lib.cellAt_of (by omega)] at this
    rw [List.getElem_take]
    unfold keep; rw [this]; rfl
   rw [e1, e2, cond_false, List.append_nil]
end Go.FG.U175

namespace Go.FG.A_En
open Lib (re En)
def lessK (x y : ByteArray) : Bool := Go.Op.bytesLess (ByteArray.toList x) (ByteArray.toList y)
def So (en : List En) : Prop := en.Pairwise fun x y => lessK x.k y.k = true
def dropE (en : List En) (k : ByteArray) : List En := en.filter fun x => !decide (x.k = k)
def putE (en : List En) (e : En) : List En := en.filter (fun x => lessK x.k e.k) ++ [e] ++ en.filter (fun x => !(lessK x.k e.k || decide (x.k = e.k)))
theorem So.drop {en : List En} (h : So en) (k : ByteArray) : So (dropE en k) := List.Pairwise.filter _ h
theorem or_re {en : List En} (h : So en) : U57.Or (re en) := by
 constructor
 ·unfold Lib.re
  rw [List.pairwise_map]
  exact h
 ·intro y hy
  unfold Lib.re at hy
  obtain ⟨z, _, rfl⟩ := List.mem_map.1 hy; rfl
theorem put_re (en : List En) (e : En) : U57.val (re en) e.k e.st e.li e.bo = re (putE en e) := by
 unfold U57.val putE Lib.re
 rw [List.filter_map, List.filter_map, List.map_map, List.map_map, List.map_append, List.map_append]
 have e1 : (U57.pl e.k ∘ En.row) = fun x : En => lessK x.k e.k := rfl
 have e2 : (U57.pg e.k ∘ En.row) = fun x : En => !(lessK x.k e.k || decide (x.k = e.k)) := by
  funext x
  show (!(Go.Op.bytesLess (ByteArray.toList x.k) (ByteArray.toList e.k) || List.beq (ByteArray.toList x.k) (ByteArray.toList e.k))) = _
  rw [Lib.beq_ba]; rfl
 rw [e1, e2]
 rfl
theorem put_len (en : List En) (e : En) (h : So en) : (putE en e).length <= en.length + 1 := by
 have := (U57.keep_or (or_re h) e.k e.st e.li e.bo).2
 rw [put_re, Lib.re_len, Lib.re_len] at this
 exact this
end Go.FG.A_En

namespace Go.FG.U53
def el (r : Row) (i : Nat) : Bool := decide (1 <= ((cvS (cellAt r i 0)).size : Int) /\ ((cvS (cellAt r i 0)).size : Int) <= 8) && (!decide (((cvS (cellAt r i 1)).size : Int) > 20000) && (decide (0 <= cvI (cellAt r i 2) /\ cvI (cellAt r i 2) <= ((cvS (cellAt r i 1)).size : Int)) && (i == 0 || Go.Op.bytesLess (ByteArray.toList (cvS (cellAt r (i - 1) 0))) (ByteArray.toList (cvS (cellAt r i 0))))))
def val (r : Row) : Bool := decide (r.length <= 30) && (List.range r.length).all (el r)
theorem in_eq (n a b : Int) : U122.v n a b = decide (a <= n /\ n <= b) := by
 unfold U122.v
 by_cases h : a <= n <;> by_cases h2 : n <= b <;> simp [h, h2]
theorem w64_p {i : Nat} (h : 0 < i) (hn : i <= 9223372036854775807) : w64 ((i : Int) - 1) = ((i - 1 : Nat) : Int) := by
 rw [Lib.w64_ok (by omega) (by omega)]; omega
theorem ok (r : Row) (hl : r.length <= 4294967296) : c r = true /\ v r = val r := by
 refine out r ?_
 unfold vo b val
 by_cases h30 : (r.length : Int) > 30
 ·rw [decide_eq_true h30, cond_true, decide_eq_false (show ¬ r.length <= 30 by omega)]; rfl
 rw [decide_eq_false h30, cond_false, decide_eq_true (show r.length <= 30 by omega), Bool.true_and]
 have key := Lib.all_gen (el r) r.length (fun m (i : Nat) => l4 Lib.big (fun (y3 : Bool) (_ : Int) (_ : Row) => some y3) (fun (_ : Bool) (_ : Int) (_ : Row) => some true) m false (i : Int) r) (some false) (some true)
  (fun m i hi hp => by
   unfold el at hp
   simp only [Bool.and_eq_true] at hp
   obtain ⟨h1, h2, h3, h4⟩ := hp
   have h3 : decide (0 <= cvI (cellAt r i (1 + 1)) /\ cvI (cellAt r i (1 + 1)) <= ((cvS (cellAt r i 1)).size : Int)) = true := h3
   have h2 : decide (((cvS (cellAt r i 1)).size : Int) > 20000) = false := by simpa using h2
   by_cases hz : 0 < i
   ·have e0 : decide ((i : Int) > 0) = true := decide_eq_true (by omega)
    have hp' : i - 1 < r.length := by omega
    have h5 : Go.Op.bytesLess (ByteArray.toList (cvS (cellAt r (i - 1) 0))) (ByteArray.toList (cvS (cellAt r i 0))) = true := by
     rcases Bool.or_eq_true _ _ ▸ h4 with q | q
     ·have : i = 0 := by simpa using q
      omega
     ·exact q
    simp only [l4, r4, Lib.dlt, hi, hp', decide_true, Lib.dle0, Bool.and_self, cond_true, cond_false, Lib.toN, U142.v, in_eq, h1, h2, h3, h5, e0, w64_p hz (by omega), Bool.not_true, Lib.w64_s hi (by omega : r.length <= 9223372036854775807)]
   ·have e0 : decide ((i : Int) > 0) = false := decide_eq_false (by omega)
    simp only [l4, r4, Lib.dlt, hi, decide_true, Lib.dle0, Bool.and_self, cond_true, cond_false, Lib.toN, U142.v, in_eq, h1, h2, h3, e0, Bool.not_true, Lib.w64_s hi (by omega : r.length <= 9223372036854775807)])
  (fun m i hi hp => by
   unfold el at hp
   cases h1 : decide (1 <= ((cvS (cellAt r i 0)).size : Int) /\ ((cvS (cellAt r i 0)).size : Int) <= 8) with
   | false => simp only [l4, r4, Lib.dlt, hi, decide_true, Lib.dle0, Bool.and_self, cond_true, cond_false, Lib.toN, U142.v, in_eq, h1, Bool.not_false]
   | true =>
   cases h2 : decide (((cvS (cellAt r i 1)).size : Int) > 20000) with
   | true => simp only [l4, r4, Lib.dlt, hi, decide_true, Lib.dle0, Bool.and_self, cond_true, cond_false, Lib.toN, U142.v, in_eq, h1, h2, Bool.not_true]
   | false =>
   cases h3 : decide (0 <= cvI (cellAt r i (1 + 1)) /\ cvI (cellAt r i (1 + 1)) <= ((cvS (cellAt r i 1)).size : Int)) with
   | false => simp only [l4, r4, Lib.dlt, hi, decide_true, Lib.dle0, Bool.and_self, cond_true, cond_false, Lib.toN, U142.v, in_eq, h1, h2, h3, Bool.not_true, Bool.not_false]
   | true =>
   rw [h1, h2, show decide (0 <= cvI (cellAt r i 2) /\ cvI (cellAt r i 2) <= ((cvS (cellAt r i 1)).size : Int)) = true from h3, Bool.not_false, Bool.true_and, Bool.true_and, Bool.true_and] at hp
   rw [Bool.or_eq_false_iff] at hp
   obtain ⟨h4, h5⟩ := hp
   have hz : 0 < i := by
    have : ¬ i = 0 := by simpa using h4
    omega
   have e0 : decide ((i : Int) > 0) = true := decide_eq_true (by omega)
   have hp' : i - 1 < r.length := by omega
   simp only [l4, r4, Lib.dlt, hi, hp', decide_true, Lib.dle0, Bool.and_self, cond_true, cond_false, Lib.toN, U142.v, in_eq, h1, h2, h3, h5, e0, w64_p hz (by omega), Bool.not_true, Bool.not_false])
  (fun m => by simp only [l4, r4, Lib.dlt, Nat.lt_irrefl, decide_false, cond_false]) Lib.big (Lib.lt_big (by omega))
 refine key.trans ?_
 cases (List.range r.length).all (el r) <;> rfl
end Go.FG.U53

namespace Go.FG.U210b
def p (s : Row) (k : ByteArray) (i : Nat) : Bool := List.beq (ByteArray.toList (cvS (cellAt s i 0))) (ByteArray.toList k)
theorem ok (d : Row) (n : ByteArray) (hl : d.length <= 4294967296) : c d n = true /\ v d n = Lib.fi (p d n) d.length 0 := by
 refine out d n ?_
 unfold vo b
 refine Lib.fi_gen (p d n) d.length (fun m (i : Nat) => l2 Lib.big (fun (_ : Row) (_ : ByteArray) (y7 _ _ : Int) => some y7) (fun (_ : Row) (_ : ByteArray) (_ _ _ : Int) => some (-1)) m d n 0 (d.length : Int) (i : Int)) some (fun m i hi hp => ?_) (fun m i hi hp => ?_) (fun m => ?_) Lib.big (Lib.lt_big (by omega))
 ·unfold p at hp
  simp only [l2, r2, Lib.dlt, Lib.dle0, Lib.toN, hi, decide_true, Bool.and_self, cond_true, U215.v, hp]
 ·unfold p at hp
  simp only [l2, r2, Lib.dlt, Lib.dle0, Lib.toN, hi, decide_true, Bool.and_self, cond_true, U215.v, hp, cond_false, Lib.w64_s hi (by omega : d.length <= 9223372036854775807)]
 ·simp only [l2, r2, Lib.dlt, Nat.lt_irrefl, decide_false, cond_false]
end Go.FG.U210b

namespace Go.FG.U214
def cn (y : List CV) : Bool := match y with | [.s _, .s _, .i .i64 _] => true | _ => false
def cr (y : List CV) : List CV := [CV.s (cvS (y.getD 0 (.b false))), CV.s (cvS (y.getD 1 (.b false))), CV.i IntKind.i64 (cvI (y.getD 2 (.b false)))]
theorem cr_of {y : List CV} (h : cn y = true) : cr y = y := by
 unfold cn at h
 split at h
 ·rfl
 ·cases h
theorem len_of {y : List CV} (h : cn y = true) : y.length = 3 := by rw [<- cr_of h]; rfl
def keep (d : ByteArray) (y : List CV) : Bool := !List.beq (ByteArray.toList (cvS (y.getD 0 (.b false)))) (ByteArray.toList d)
theorem filter_succ (d : ByteArray) {s : Row} {i : Nat} (h : i < s.length) : (s.take (i + 1)).filter (keep d) = (s.take i).filter (keep d) ++ (bif keep d s[i] then [s[i]] else []) := by
 rw [List.take_succ_eq_append_getElem h, List.filter_append]
 cases hk : keep d s[i] <;> simp [hk]
theorem run {R : Type} (N : Nat) (s0 : Row) (d : ByteArray) (hc : s0.all cn = true) (hn : s0.length <= 9223372036854775807) (K : ByteArray -> Int -> Int -> Row -> Option R) (kr : Row -> Option R)
  (hK : ∀ (j : Nat) x, x.length = s0.length -> j <= s0.length -> K d j s0.length x = kr (x.take j)) (m j i : Nat) (x : Row)
  (hi : j < i /\ i <= s0.length /\ x.length = s0.length /\ (∀ y ∈ x, y.length = 3) /\ x.take j = (s0.take i).filter (keep d) /\ x.drop i = s0.drop i) (hm : s0.length - i < m) :
  l5 N K m d j i x = kr (s0.filter (keep d)) := by
 have hca : ∀ y ∈ s0, cn y = true := List.all_eq_true.1 hc
 refine Lib.loop_gen (fun m (s : Nat × Nat × Row) => l5 N K m d s.1 s.2.1 s.2.2) (fun s => s0.length - s.2.1)
  (fun s => s.1 < s.2.1 /\ s.2.1 <= s0.length /\ s.2.2.length = s0.length /\ (∀ y ∈ s.2.2, y.length = 3) /\ s.2.2.take s.1 = (s0.take s.2.1).filter (keep d) /\ s.2.2.drop s.2.1 = s0.drop s.2.1)
  (fun _ => kr (s0.filter (keep d))) (fun m s hs => ?_) m (j, i, x) hi hm
 obtain ⟨j, i, x⟩ := s
 obtain ⟨h1, h2, h3, h4, h5, h6⟩ := hs
 simp only at h1 h2 h3 h4 h5 h6 ⊢
 by_cases hin : i < s0.length
 ·right
  have hix : i < x.length := by omega
  have hjx : j < x.length := by omega
  have hx : x[i] = s0[i] := by
   have e1 := Lib.drop_cons_of hix
   have e2 := Lib.drop_cons_of hin
   rw [h6, e2] at e1
   exact (List.cons.inj e1).1.symm
  have hd : x.drop (i + 1) = s0.drop (i + 1) := by
   have e1 := Lib.drop_cons_of hix
   have e2 := Lib.drop_cons_of hin
   rw [h6, e2] at e1
   exact (List.cons.inj e1).2.symm
  have hcn := hca _ (List.getElem_mem hin)
  have hf := filter_succ d hin
  cases hk : keep d s0[i] with
  | true =>
   refine ⟨(j + 1, i + 1, x.set j s0[i]), ?_, by simp only; omega, trivial, ?_⟩
   ·rw [hk, cond_true, <- h5] at hf
    refine ⟨by simp only; omega, by simp only; omega, by simpa using h3, ?_, ?_, ?_⟩
    ·intro y hy
     rcases List.mem_or_eq_of_mem_set hy with h | h
     ·exact h4 y h
     ·rw [h]; exact len_of hcn
    ·rw [hf]
     rw [List.take_succ_eq_append_getElem (by simpa using hjx)]
     simp [List.take_set_of_le]
    ·simp only
     rw [List.drop_set_of_lt (by omega)]; exact hd
   ·have e : U215.v (cvS (cellAt x i 0)) (cvS (cellAt x i 1)) (cvI (cellAt x i (1 + 1))) d = false := by
     have : (!U215.v (cvS (cellAt x i 0)) (cvS (cellAt x i 1)) (cvI (cellAt x i (1 + 1))) d) = true := by
      rw [Lib.cellAt_of hix, hx]; exact hk
     simpa using this
    have es : setC x j 0 [CV.s (cvS (cellAt x i 0)), CV.s (cvS (cellAt x i 1)), CV.i IntKind.i64 (cvI (cellAt x i (1 + 1)))] = x.set j s0[i] := by
     have hl := h4 _ (List.getElem_mem hjx)
     rw [Lib.setC_eq hjx, Lib.cellAt_of hix, Lib.cellAt_of hix, Lib.cellAt_of hix, hx]
     have : splice x[j] 0 (cr s0[i]) = s0[i] := by
      rw [cr_of hcn]
      unfold splice
      have := len_of hcn
      simp [hl, this, List.drop_eq_nil_of_le]
     unfold cr at this
     rw [this]
    have b1 : (j : Int) < (x.length : Int) := by omega
    simp only [l5, r5, Lib.dlt, Lib.dle0, Lib.toN, hix, hjx, decide_true, Bool.true_and, cond_true, e, Bool.not_false, es, Lib.w64_s hin hn, Lib.w64_s (show j < s0.length by omega) hn]
  | false =>
   refine ⟨(j, i + 1, x), ?_, by simp only; omega, trivial, ?_⟩
   ·rw [hk, cond_false, List.append_nil, <- h5] at hf
    exact ⟨by simp only; omega, by simp only; omega, h3, h4, hf.symm, hd⟩
   ·have e : U215.v (cvS (cellAt x i 0)) (cvS (cellAt x i 1)) (cvI (cellAt x i (1 + 1))) d = true := by
     have : (!U215.v (cvS (cellAt x i 0)) (cvS (cellAt x i 1)) (cvI (cellAt x i (1 + 1))) d) = false := by
      rw [Lib.cellAt_of hix, hx]; exact hk
     simpa using this
    simp only [l5, r5, Lib.dlt, Lib.dle0, Lib.toN, hix, decide_true, Bool.true_and, cond_true, e, Bool.not_true, cond_false, Lib.w64_s hin hn]
 ·left
  have : i = s0.length := by omega
  subst this
  rw [List.take_length] at h5
  have e := hK j x h3 (by omega)
  rw [h5] at e
  have hix : ¬ s0.length < x.length := by omega
  simp only [l5, r5, Lib.dlt, hix, decide_false, cond_false, e]
theorem ok (s0 : Row) (del1 : ByteArray) (hc : s0.all cn = true) (hn : s0.length <= 4294967296) : c s0 del1 = true /\ v s0 del1 = s0.filter (keep del1) := by
 refine out s0 del1 ?_
 have hv := U210b.ok s0 del1 hn
 unfold vo b
 rw [hv.1, hv.2, cond_true]
 rcases Lib.fi_rng (U210b.p s0 del1) s0.length 0 with ⟨h, hall⟩ | ⟨k, _, hk2, hk, hkp, hbef⟩
 ·rw [h]
  have : s0.filter (keep del1) = s0 := by
   rw [List.filter_eq_self]
   intro y hy
   obtain ⟨i, hi, rfl⟩ := List.getElem_of_mem hy
   have := hall i (Nat.zero_le _) (by omega)
   unfold U210b.p at this
   rw [Lib.cellAt_of hi] at this
   unfold keep; rw [this]; rfl
  rw [this]; rfl
 ·rw [hk]
  have hkl : k < s0.length := by omega
  have hne : decide ((k : Int) = Int.neg 1) = false := decide_eq_false (by show ¬ (k : Int) = -1; omega)
  rw [hne, cond_false, Lib.w64_s hkl (by omega)]
  have hca : ∀ y ∈ s0, cn y = true := List.all_eq_true.1 hc
  refine run _ s0 del1 hc (by omega) _ some (fun j x hx hj => ?_) _ k (k + 1) s0 ⟨by omega, by omega, rfl, fun y hy => len_of (hca y hy), ?_, rfl⟩ (Lib.lt_big (by omega))
  ·have b1 : inB (j : Int) (s0.length : Int) (s0.length : Int) = true := by simp [inB]; omega
   have e : List.take j x ++ zeros [Ck.s, Ck.s, Ck.i IntKind.i64] (s0.length - j) ++ List.drop s0.length x = List.take j x ++ zeros [Ck.s, Ck.s, Ck.i IntKind.i64] (s0.length - j) := by
    rw [List.drop_eq_nil_of_le (by omega), List.append_nil]
   have hl : (List.take j x).length = j := by simp; omega
   simp only [hx, Lib.toN, b1, cond_true, e]
   rw [Lib.bif_t (by simp [inB]; omega)]
   unfold view
   rw [show Int.toNat 0 = 0 from rfl, List.drop_zero, Nat.sub_zero, List.take_append_of_le_length (by omega), List.take_of_length_le (by omega)]
  ·rw [filter_succ del1 hkl]
   have e1 : keep del1 s0[k] = false := by
    unfold U210b.p at hkp
    rw [Lib.cellAt_of hkl] at hkp
    unfold keep; rw [hkp]; rfl
   have e2 : (s0.take k).filter (keep del1) = s0.take k := by
    rw [List.filter_eq_self]
    intro y hy
    obtain ⟨i, hi, rfl⟩ := List.getElem_of_mem hy
    have hik : i < k := by simp at hi; omega
    have := hbef i (Nat.zero_le _) hik
    unfold U210b.p at this
    rw [Lib.cellAt_of (by omega)] at this
    rw [List.getElem_take]
    unfold keep; rw [this]; rfl
   rw [e1, e2, cond_false, List.append_nil]
end Go.FG.U214

namespace Go.FG.A_Disk
open Lib (rd el Fi)
def SoD (l : List Fi) : Prop := l.Pairwise fun x y => A_En.lessK x.n y.n = true
def without (l : List Fi) (n : ByteArray) : List Fi := l.filter fun x => !decide (x.n = n)
def put (l : List Fi) (f : Fi) : List Fi := l.filter (fun x => A_En.lessK x.n f.n) ++ [f] ++ l.filter (fun x => !(A_En.lessK x.n f.n || decide (x.n = f.n)))
def fOk (f : Fi) : Bool := decide (1 <= (f.n.size : Int) /\ (f.n.size : Int) <= 8) && (!decide ((f.t.size : Int) > 20000) && decide (0 <= f.kp /\ f.kp <= (f.t.size : Int)))
def okD (l : List Fi) : Bool := U53.val (rd l)
theorem irrefl (x : ByteArray) : A_En.lessK x x = false := U57.bl_irrefl _
theorem okD_iff {l : List Fi} : okD l = true ↔ l.length <= 30 /\ (∀ f ∈ l, fOk f = true) /\ SoD l := by
 unfold okD U53.val
 rw [Bool.and_eq_true, decide_eq_true_eq, List.all_eq_true, Lib.rd_len]
 have e : ∀ i (h : i < l.length), U53.el (rd l) i = (fOk l[i] && (i == 0 || A_En.lessK (l.getD (i - 1) default).n l[i].n)) := fun i h => by
  unfold U53.el fOk A_En.lessK
  rw [Lib.rd0 h, Lib.rd1 h, show cellAt (rd l) i 2 = CV.i IntKind.i64 l[i].kp from Lib.rd2 h, Lib.rd0 (show i - 1 < l.length by omega)]
  have h5 : l.getD (i - 1) default = l[i - 1] := by simp [List.getD, show i - 1 < l.length by omega]
  rw [h5]
  simp only [cvS, cvI, Bool.and_assoc]
  rfl
 constructor
 ·rintro ⟨h1, h2⟩
  have h3 : ∀ i (h : i < l.length), fOk l[i] = true /\ (i = 0 \/ A_En.lessK (l.getD (i - 1) default).n l[i].n = true) := fun i h => by
   have := h2 i (by simpa using h)
   rw [e i h, Bool.and_eq_true, Bool.or_eq_true] at this
   exact ⟨this.1, this.2.imp (fun q => by simpa using q) id⟩
  refine ⟨h1, fun f hf => ?_, ?_⟩
  ·obtain ⟨i, hi, rfl⟩ := List.getElem_of_mem hf
   exact (h3 i hi).1
  ·have adj : ∀ d i (hi : i + d + 1 < l.length), A_En.lessK l[i].n l[i + d + 1].n = true := by
    intro d
    induction d with
    | zero =>
     intro i hi
     rcases (h3 (i + 1) (by omega)).2 with q | q
     ·omega
     ·simpa [List.getD, show i < l.length by omega] using q
    | succ d ih =>
     intro i hi
     have a := ih i (by omega)
     rcases (h3 (i + d + 1 + 1) (by omega)).2 with q | q
     ·omega
     ·have q : A_En.lessK l[i + d + 1].n l[i + d + 1 + 1].n = true := by simpa [List.getD, show i + d + 1 < l.length by omega] using q
      exact U57.bl_trans _ _ _ a q
   unfold SoD
   rw [List.pairwise_iff_getElem]
   intro i j hi hj hij
   have := adj (j - i - 1) i (by omega)
   simpa only [show i + (j - i - 1) + 1 = j by omega] using this
 ·rintro ⟨h1, h2, h3⟩
  refine ⟨h1, fun i hi => ?_⟩
  have hi : i < l.length := by simpa using hi
  rw [e i hi, h2 _ (List.getElem_mem hi), Bool.true_and, Bool.or_eq_true]
  by_cases hz : i = 0
  ·left; simpa using hz
  ·right
   have := List.pairwise_iff_getElem.1 h3 (i - 1) i (by omega) hi (by omega)
   simpa [List.getD, show i - 1 < l.length by omega] using this
theorem cn_rd (l : List Fi) : (rd l).all U214.cn = true := by
 rw [List.all_eq_true]; intro y hy
 unfold Lib.rd at hy; obtain ⟨z, _, rfl⟩ := List.mem_map.1 hy; rfl
theorem wo_rd (l : List Fi) (n : ByteArray) : (rd l).filter (U214.keep n) = rd (without l n) := by
 unfold Lib.rd without
 rw [List.filter_map]
 congr 1
 apply List.filter_congr
 intro x _
 show (!List.beq (ByteArray.toList x.n) (ByteArray.toList n)) = _
 rw [Lib.beq_ba]
theorem wo_len (l : List Fi) (n : ByteArray) : (without l n).length <= l.length := List.length_filter_le ..
theorem wo_so {l : List Fi} (h : SoD l) (n : ByteArray) : SoD (without l n) := List.Pairwise.filter _ h
theorem put_len {l : List Fi} (f : Fi) : (put l f).length <= l.length + 1 := by
 unfold put
 have : ∀ r : List Fi, (r.filter fun x => A_En.lessK x.n f.n).length + (r.filter fun x => !(A_En.lessK x.n f.n || decide (x.n = f.n))).length <= r.length := by
  intro r
  induction r with
  | nil => exact Nat.le_refl _
  | cons y r ih =>
   cases h1 : A_En.lessK y.n f.n with
   | true =>
    rw [List.filter_cons_of_pos (by simpa using h1), List.filter_cons_of_neg (by simp [h1])]
    simp only [List.length_cons]; omega
   | false =>
    rw [List.filter_cons_of_neg (by simp [h1])]
    by_cases h2 : y.n = f.n
    ·rw [List.filter_cons_of_neg (by simp [h2])]; simp only [List.length_cons]; omega
    ·rw [List.filter_cons_of_pos (by simp [h1, h2])]; simp only [List.length_cons]; omega
 have := this l
 simp only [List.length_append, List.length_singleton]; omega
theorem put_mem {l : List Fi} {x f : Fi} : x ∈ put l f ↔ x = f \/ (x ∈ l /\ x.n ≠ f.n) := by
 unfold put
 simp only [List.mem_append, List.mem_filter, List.mem_singleton, Bool.not_eq_true', Bool.or_eq_false_iff, decide_eq_false_iff_not]
 constructor
 ·rintro ((⟨h1, h2⟩ | rfl) | ⟨h1, h2⟩)
  ·refine .inr ⟨h1, fun e2 => ?_⟩
   rw [e2, irrefl] at h2; cases h2
  ·exact .inl rfl
  ·exact .inr ⟨h1, h2.2⟩
 ·rintro (rfl | ⟨h1, h2⟩)
  ·exact .inl (.inr rfl)
  ·cases hl : A_En.lessK x.n f.n with
   | true => exact .inl (.inl ⟨h1, rfl⟩)
   | false => exact .inr ⟨h1, rfl, h2⟩
def nxt (l : List Fi) (k : Int) (n t o : ByteArray) : Option (List Fi) :=
 match l.find? fun x => decide (x.n = n) with
 | some f =>
  if k = 1 then some (put l ⟨f.n, f.t ++ t, f.kp⟩)
  else if k = 2 then some (put l ⟨f.n, f.t, f.t.size⟩)
  else if k = 3 then (if f.kp ≠ f.t.size \/ o = n then none else some (put (without l n) ⟨o, f.t, f.kp⟩))
  else some (without l n)
 | none => if k = 1 then some (put l ⟨n, t, 0⟩) else none
def actOk (k : Int) (t o : ByteArray) : Bool := decide (1 <= k /\ k <= 4) && ((decide (t = ⟨#[]⟩) || decide (k = 1)) && (decide (o = ⟨#[]⟩) || decide (k = 3)))
def act (l : List Fi) (k : Int) (n t o : ByteArray) : Option (List Fi) :=
 bif okD l && actOk k t o then (match nxt l k n t o with | some d => bif okD d then some d else none | none => none) else none
structure Ac where
 k : Int
 n : ByteArray
 t : ByteArray
 o : ByteArray
 deriving DecidableEq
instance : Inhabited Ac := ⟨⟨0, ⟨#[]⟩, ⟨#[]⟩, ⟨#[]⟩⟩⟩
def Ac.row (e : Ac) : List CV := [CV.i IntKind.i64 e.k, CV.s e.n, CV.s e.t, CV.s e.o]
def ra (l : List Ac) : Row := l.map Ac.row
theorem ra_len (l) : (ra l).length = l.length := by unfold ra; simp
theorem wa0 {l : List Ac} {i : Nat} (h : i < l.length) : cellAt (ra l) i 0 = CV.i IntKind.i64 (el l i).k := Lib.el_map _ l i 0 h
theorem wa1 {l : List Ac} {i : Nat} (h : i < l.length) : cellAt (ra l) i 1 = CV.s (el l i).n := Lib.el_map _ l i 1 h
theorem wa2 {l : List Ac} {i : Nat} (h : i < l.length) : cellAt (ra l) i (1 + 1) = CV.s (el l i).t := Lib.el_map _ l i 2 h
theorem wa3 {l : List Ac} {i : Nat} (h : i < l.length) : cellAt (ra l) i (1 + 1 + 1) = CV.s (el l i).o := Lib.el_map _ l i 3 h
def acts : List Fi -> Nat -> List Ac -> List Fi × Nat
 | l, i, [] => (l, i)
 | l, i, a :: r => match act l a.k a.n a.t a.o with | some d => acts d (i + 1) r | none => (l, i)
theorem act_len {l d : List Fi} {k : Int} {n t o : ByteArray} (h : act l k n t o = some d) : okD d = true /\ d.length <= 30 := by
 unfold act at h
 cases hb : okD l && actOk k t o with
 | false => rw [hb] at h; cases h
 | true =>
  rw [hb, cond_true] at h
  split at h
  ·rename_i e _
   cases ho : okD e with
   | false => rw [ho] at h; cases h
   | true =>
    rw [ho] at h
    obtain rfl := Option.some.inj h
    exact ⟨ho, (okD_iff.1 ho).1⟩
  ·cases h
end Go.FG.A_Disk

namespace Go.FG.U151
theorem size (x : Int) : (v x).size = 4 := by
 unfold v; rw [Lib.size_bytesOf]; simp only [List.length_set, Lib.length_zeros]
end Go.FG.U151

namespace Go.FG.U212
def rd (x : Int) : Int := bif decide (Int.tmod x 2 = 1) then (IntKind.wrap IntKind.u32 (↑(BitVec.toNat (BitVec.xor (BitVec.ofInt 32 (IntKind.wrap IntKind.u32 (Int.tdiv x 2))) (BitVec.ofInt 32 3558460437))) : Int)) else (IntKind.wrap IntKind.u32 (Int.tdiv x 2))
def rds : Nat -> Int -> Int | 0, x => x | n + 1, x => rds n (rd x)
theorem in6 {R : Type} (N : Nat) (K : Int -> ByteArray -> Int -> Int -> Option R) (a : ByteArray) (b : Int) : ∀ (d n i : Nat) (x : Int), d + i = 8 -> d < n -> l6 N K n x a b (i : Int) = K (rds d x) a b 8 := by
 intro d
 induction d with
 | zero =>
  intro n i x h1 h2
  obtain ⟨n, rfl⟩ : ∃ m, n = m + 1 := ⟨n - 1, by omega⟩
  have : i = 8 := by omega
  subst this
  rfl
 | succ d ih =>
  intro n i x h1 h2
  obtain ⟨n, rfl⟩ : ∃ m, n = m + 1 := ⟨n - 1, by omega⟩
  have hi1 : w64 ((i : Int) + 1) = ((i + 1 : Nat) : Int) := Lib.w64_ok (by omega) (by omega)
  rw [rds, <- ih n (i + 1) (rd x) (by omega) (by omega)]
  simp only [l6, r6, decide_eq_true (show (i : Int) < 8 by omega), cond_true, hi1, rd]
  cases decide (Int.tmod x 2 = 1) <;> rfl
def su (t : ByteArray) : Nat -> Nat -> Int -> Int
 | 0, _, s => s
 | d + 1, i, s => su t d (i + 1) (rds 8 (IntKind.wrap IntKind.u32 (↑(BitVec.toNat (BitVec.xor (BitVec.ofInt 32 s) (BitVec.ofInt 32 (IntKind.wrap IntKind.u32 (↑(btN t i) : Int))))) : Int)))
theorem run (s : Int) (t : ByteArray) (ht : t.size <= 4611686018427387904) : vo s t = some (su t t.size 0 s) := by
 unfold vo b
 have key : ∀ (d n i : Nat) (s : Int), d + i = t.size -> d < n -> l2 Lib.big (fun (y11 : Int) (_ : ByteArray) (_ : Int) => some y11) n s t (i : Int) = some (su t d i s) := by
  intro d
  induction d with
  | zero =>
   intro n i s h1 h2
   obtain ⟨n, rfl⟩ : ∃ m, n = m + 1 := ⟨n - 1, by omega⟩
   simp only [l2, r2, Lib.dlt, decide_eq_false (show ¬ i < t.size by omega), cond_false]; rfl
  | succ d ih =>
   intro n i s h1 h2
   obtain ⟨n, rfl⟩ : ∃ m, n = m + 1 := ⟨n - 1, by omega⟩
   have hi1 : w64 ((i : Int) + 1) = ((i + 1 : Nat) : Int) := Lib.w64_ok (by omega) (by omega)
   simp only [l2, r2, Lib.dlt, decide_eq_true (show i < t.size by omega), Lib.dle0, Bool.and_self, cond_true, Lib.toN]
   have e := in6 (R := Int) Lib.big (fun y7 y8 y9 _ => l2 Lib.big (fun y11 _ _ => some y11) n y7 y8 (w64 (y9 + 1))) t (i : Int) 8 Lib.big 0 (IntKind.wrap IntKind.u32 (↑(BitVec.toNat (BitVec.xor (BitVec.ofInt 32 s) (BitVec.ofInt 32 (IntKind.wrap IntKind.u32 (↑(btN t i) : Int))))) : Int)) rfl (by unfold Lib.big; omega)
   refine e.trans ?_
   rw [hi1, ih n (i + 1) _ (by omega) (by omega)]; rfl
 exact key t.size Lib.big 0 s (by omega) (Lib.lt_big (by omega))
theorem ok (s : Int) (t : ByteArray) (ht : t.size <= 4611686018427387904) : c s t = true /\ v s t = su t t.size 0 s := out s t (run s t ht)
end Go.FG.U212

namespace Go.FG.U152
theorem ok (t : ByteArray) (ht : t.size <= 4611686018427387904) : c t = true /\ v t = U212.su t t.size 0 4294967295 := by
 have h := U212.ok 4294967295 t ht
 refine out t ?_
 unfold vo b
 rw [h.1, h.2]; rfl
end Go.FG.U152

namespace Go.FG.U64
def fr (t : ByteArray) : ByteArray := bytesOf (Lib.vb t.size) ++ U151.v (U212.su t t.size 0 4294967295) ++ t
def val (t : ByteArray) : ByteArray × Bool := if 1 <= t.size /\ t.size <= 9000 then (fr t, true) else (⟨#[]⟩, false)
theorem in_dec (n a b : Int) : U122.v n a b = decide (a <= n /\ n <= b) := by
 unfold U122.v
 by_cases h : a <= n <;> by_cases h2 : n <= b <;> simp [h, h2]
theorem fr_size {t : ByteArray} (h : t.size <= 9000) : (fr t).size <= t.size + 68 := by
 unfold fr
 have := Lib.var_size (x := (t.size : Int)) (by omega)
 rw [Lib.size_app, Lib.size_app, U151.size]; omega
theorem ok (t : ByteArray) : c t = true /\ v t = val t := by
 refine out t ?_
 unfold vo b val
 rw [in_dec]
 by_cases h : 1 <= t.size /\ t.size <= 9000
 ·have hs := U152.ok t (by omega)
  have hc : U150.c (t.size : Int) = true := decide_eq_true (show (t.size : Int) <= 9223372036854775807 by omega)
  have z1 : (U150.v (t.size : Int)).size <= 64 := Lib.var_size (x := (t.size : Int)) (by omega)
  rw [decide_eq_true (show (1 : Int) <= (t.size : Int) /\ (t.size : Int) <= 9000 by omega), if_pos h, hs.1, hs.2]
  simp (disch := omega) only [Bool.not_true, cond_false, cond_true, hc, Lib.size_app, U151.size, Lib.dnat]
  rfl
 ·rw [decide_eq_false (show ¬ ((1 : Int) <= (t.size : Int) /\ (t.size : Int) <= 9000) by omega), if_neg h]; rfl
end Go.FG.U64

namespace Go.FG.U56
theorem head {t : ByteArray} {p : Nat} {b : UInt8} {r : List UInt8} (h : t.data.toList.drop p = b :: r) : p < t.size /\ btN t p = b.toNat /\ t.data.toList.drop (p + 1) = r := by
 have hl := congrArg List.length h
 rw [List.length_drop, List.length_cons] at hl
 have hs : t.data.toList.length = t.size := rfl
 have hp : p < t.data.toList.length := by omega
 have hd := List.drop_eq_getElem_cons hp
 rw [hd] at h
 injection h with h1 h2
 refine ⟨by omega, ?_, h2⟩
 unfold btN
 have hp' : p < t.data.size := hp
 rw [show t.data.getD p 0 = t.data[p] by unfold Array.getD; rw [dif_pos hp']; rfl]
 rw [<- h1]; rfl
theorem bytes_cons (x : Int) (r : Row) : (bytesOf ([CV.i IntKind.u8 x] :: r)).data.toList = UInt8.ofNat x.toNat :: (bytesOf r).data.toList := rfl
theorem rv_enc (t : ByteArray) (a : Nat) (rest : List UInt8) : ∀ (f j : Nat) (n y : Int), 0 <= y -> 0 <= n -> n + y * 128 ^ j <= 1000000000 -> y <= 1000000000 -> (j > 0 -> 0 < y) -> t.data.toList.drop (a + j) = (bytesOf (Lib.vb y)).data.toList ++ rest -> (Lib.vb y).length <= f ->
  Lib.rv t a f j n = (n + y * 128 ^ j, ((a + j + (Lib.vb y).length : Nat) : Int), true) /\ t.data.toList.drop (a + j + (Lib.vb y).length) = rest
 | 0, j, n, y, h0, hn, hb, hy, hj, hd, hf => by
  by_cases hc : y > 127
  ·rw [Lib.vb_big hc] at hf; simp at hf
  ·rw [Lib.vb_small hc] at hf; simp at hf
 | f + 1, j, n, y, h0, hn, hb, hy, hj, hd, hf => by
  by_cases hc : y > 127
  ·have e1 : Int.tmod y 128 = y % 128 := Int.tmod_eq_emod_of_nonneg (by omega)
   have e2 : Int.tdiv y 128 = y / 128 := Int.tdiv_eq_ediv_of_nonneg (by omega)
   have e3 : w64 (y % 128 + 128) = y % 128 + 128 := Lib.w64_ok (by omega) (by omega)
   have e4 : IntKind.wrap IntKind.u8 (y % 128 + 128) = y % 128 + 128 := by show (y % 128 + 128) % 256 = _; omega
   have e5 : w64 (y / 128) = y / 128 := Lib.w64_ok (by omega) (by omega)
   have ev : Lib.vb y = [CV.i IntKind.u8 (y % 128 + 128)] :: Lib.vb (y / 128) := by rw [Lib.vb_big hc, e1, e2, e3, e4, e5]
   rw [ev, bytes_cons, List.cons_append] at hd
   obtain ⟨q1, q2, q3⟩ := head hd
   have q4 : (btN t (a + j) : Int) = y % 128 + 128 := by
    rw [q2, UInt8.toNat_ofNat']; omega
   rw [ev, List.length_cons] at hf
   have hP : y * 128 ^ j = y % 128 * 128 ^ j + y / 128 * 128 ^ (j + 1) := by
    have hyd : y = y % 128 + 128 * (y / 128) := by omega
    rw [Int.pow_succ]
    generalize (128 : Int) ^ j = P
    conv => lhs; rw [hyd]
    rw [Int.add_mul, Int.mul_comm P 128, <- Int.mul_assoc, Int.mul_comm (y / 128) 128]
   have hpp : (0 : Int) <= y % 128 * 128 ^ j := Int.mul_nonneg (by omega) (Int.le_of_lt (Int.pow_pos (by omega)))
   obtain ⟨i1, i2⟩ := rv_enc t a rest f (j + 1) (n + y % 128 * 128 ^ j) (y / 128) (by omega) (by omega) (by omega) (by omega) (by omega) (by rw [show a + (j + 1) = a + j + 1 by omega]; exact q3) (by omega)
   refine ⟨?_, ?_⟩
   ·unfold Lib.rv
    rw [if_pos q1, q4, if_pos (by omega), show (y % 128 + 128) % 128 = y % 128 by omega, i1, hP, ev, List.length_cons]
    refine Prod.ext ?_ (Prod.ext ?_ rfl)
    ·dsimp only; omega
    ·dsimp only; omega
   ·rw [ev, List.length_cons, show a + j + ((Lib.vb (y / 128)).length + 1) = a + (j + 1) + (Lib.vb (y / 128)).length by omega]; exact i2
  ·have e4 : IntKind.wrap IntKind.u8 y = y := by show y % 256 = _; omega
   have ev : Lib.vb y = [[CV.i IntKind.u8 y]] := by rw [Lib.vb_small hc, e4]
   rw [ev, bytes_cons, List.cons_append] at hd
   obtain ⟨q1, q2, q3⟩ := head hd
   have q4 : (btN t (a + j) : Int) = y := by
    rw [q2, UInt8.toNat_ofNat']; omega
   refine ⟨?_, by rw [ev]; exact q3⟩
   unfold Lib.rv
   rw [if_pos q1, q4, if_neg hc, show y % 128 = y by omega, if_neg (by omega), ev]
   rfl
theorem vb5 {y : Int} (h : y <= 1000000000) : (Lib.vb y).length <= 5 := by
 have e : (128 : Int) ^ (4 + 1) = 34359738368 := by decide
 exact Lib.vb_len2 4 y (by rw [e]; omega)
theorem readVar_enc (t : ByteArray) (p : Nat) (y : Int) (rest : List UInt8) (h0 : 0 <= y) (h1 : y <= 1000000000) (hd : t.data.toList.drop p = (bytesOf (Lib.vb y)).data.toList ++ rest) : Lib.readVar t p = (y, ((p + (Lib.vb y).length : Nat) : Int), true) /\ t.data.toList.drop (p + (Lib.vb y).length) = rest := by
 have hl := congrArg List.length hd
 have hne : 0 < (Lib.vb y).length := by
  by_cases hc : y > 127
  ·rw [Lib.vb_big hc]; simp
  ·rw [Lib.vb_small hc]; simp
 have hb : (bytesOf (Lib.vb y)).data.toList.length = (Lib.vb y).length := Lib.size_bytesOf _
 rw [List.length_drop, List.length_append, hb] at hl
 have hs : t.data.toList.length = t.size := rfl
 obtain ⟨i1, i2⟩ := rv_enc t p rest 5 0 0 y h0 (by omega) (by simp; omega) h1 (by omega) (by simpa using hd) (vb5 h1)
 refine ⟨?_, by simpa using i2⟩
 unfold Lib.readVar
 rw [if_pos (by omega), show ((p : Nat) : Int).toNat = p from rfl, i1]
 simp
theorem ext_of (t k : ByteArray) (p : Nat) (rest : List UInt8) (hd : t.data.toList.drop p = k.data.toList ++ rest) : t.extract p (p + k.size) = k := by
 apply Lib.ba_ext
 simp only [ByteArray.data_extract, Array.toList_extract, List.extract_eq_take_drop]
 rw [hd, show p + k.size - p = k.data.toList.length by show p + k.size - p = k.size; omega, List.take_left]
theorem enc (k : ByteArray) (s l : Int) (b : ByteArray) (h : U149.v k s l b = true) : v (U63.txt k s l b) = (k, s, l, b, true) := by
 obtain ⟨⟨k1, k2⟩, ⟨s1, s2⟩, ⟨l1, l2⟩, b1⟩ := U149.rng h
 generalize ht : U63.txt k s l b = t
 have hT : t.data.toList = (bytesOf (Lib.vb k.size)).data.toList ++ (k.data.toList ++ ((bytesOf (Lib.vb s)).data.toList ++ ((bytesOf (Lib.vb l)).data.toList ++ b.data.toList))) := by
  rw [<- ht]; unfold U63.txt
  simp only [ByteArray.data_append, Array.toList_append, List.append_assoc]
 have hs : t.data.toList.length = t.size := rfl
 have hk : k.data.toList.length = k.size := rfl
 obtain ⟨a1, a2⟩ := readVar_enc t 0 (k.size : Int) _ (by omega) (by omega) (by rw [List.drop_zero]; exact hT)
 rw [Nat.zero_add] at a1 a2
 generalize (Lib.vb (k.size : Int)).length = n1 at a1 a2
 have len1 := congrArg List.length a2
 simp only [List.length_drop, List.length_append, hk, hs] at len1
 have ek := ext_of t k n1 _ a2
 have a3 : t.data.toList.drop (n1 + k.size) = (bytesOf (Lib.vb s)).data.toList ++ ((bytesOf (Lib.vb l)).data.toList ++ b.data.toList) := by
  rw [<- List.drop_drop, a2]
  exact List.drop_left' (by rw [hk])
 obtain ⟨b1', b2⟩ := readVar_enc t (n1 + k.size) s _ (by omega) (by omega) a3
 obtain ⟨c1, c2⟩ := readVar_enc t (n1 + k.size + (Lib.vb s).length) l _ (by omega) (by omega) b2
 have hr : Lib.readShort t 0 = (k, ((n1 + k.size : Nat) : Int), true) := by
  unfold Lib.readShort
  rw [show (0 : Int) = ((0 : Nat) : Int) from rfl, a1]
  dsimp only
  rw [if_pos (by omega)]
  rw [show ((n1 : Nat) : Int).toNat = n1 from rfl, show ((n1 : Int) + (k.size : Int)).toNat = n1 + k.size by omega, ek]
  rfl
 have eb : t.extract (n1 + k.size + (Lib.vb s).length + (Lib.vb l).length) t.size = b := by
  have hl2 := congrArg List.length c2
  rw [List.length_drop, hs] at hl2
  have hbs : b.data.toList.length = b.size := rfl
  by_cases hz : b.size = 0
  ·apply Lib.ba_ext
   simp only [ByteArray.data_extract, Array.toList_extract, List.extract_eq_take_drop]
   rw [c2]
   exact List.take_of_length_le (by omega)
  ·apply Lib.ba_ext
   simp only [ByteArray.data_extract, Array.toList_extract, List.extract_eq_take_drop]
   rw [c2]
   exact List.take_of_length_le (by omega)
 unfold v
 rw [hr]; dsimp only
 rw [b1']; dsimp only
 rw [c1]; dsimp only
 rw [show ((n1 + k.size + (Lib.vb s).length + (Lib.vb l).length : Nat) : Int).toNat = n1 + k.size + (Lib.vb s).length + (Lib.vb l).length from rfl, eb, if_pos h]
end Go.FG.U56

namespace Go.FG.U231
theorem in6 {R : Type} (N : Nat) (K : Int -> ByteArray -> Int -> Int -> Option R) (a : ByteArray) (b : Int) : ∀ (d n i : Nat) (x : Int), d + i = 8 -> d < n -> l6 N K n x a b (i : Int) = K (U212.rds d x) a b 8 := by
 intro d
 induction d with
 | zero =>
  intro n i x h1 h2
  obtain ⟨n, rfl⟩ : ∃ m, n = m + 1 := ⟨n - 1, by omega⟩
  have : i = 8 := by omega
  subst this
  rfl
 | succ d ih =>
  intro n i x h1 h2
  obtain ⟨n, rfl⟩ : ∃ m, n = m + 1 := ⟨n - 1, by omega⟩
  have hi1 : w64 ((i : Int) + 1) = ((i + 1 : Nat) : Int) := Lib.w64_ok (by omega) (by omega)
  rw [U212.rds, <- ih n (i + 1) (U212.rd x) (by omega) (by omega)]
  simp only [l6, r6, decide_eq_true (show (i : Int) < 8 by omega), cond_true, hi1, U212.rd]
  cases decide (Int.tmod x 2 = 1) <;> rfl
theorem run (s : Int) (t : ByteArray) (ht : t.size <= 4611686018427387904) : vo s t = some (U212.su t t.size 0 s) := by
 unfold vo b
 have key : ∀ (d n i : Nat) (s : Int), d + i = t.size -> d < n -> l2 Lib.big (fun (y11 : Int) (_ : ByteArray) (_ : Int) => some y11) n s t (i : Int) = some (U212.su t d i s) := by
  intro d
  induction d with
  | zero =>
   intro n i s h1 h2
   obtain ⟨n, rfl⟩ : ∃ m, n = m + 1 := ⟨n - 1, by omega⟩
   simp only [l2, r2, Lib.dlt, decide_eq_false (show ¬ i < t.size by omega), cond_false]; rfl
  | succ d ih =>
   intro n i s h1 h2
   obtain ⟨n, rfl⟩ : ∃ m, n = m + 1 := ⟨n - 1, by omega⟩
   have hi1 : w64 ((i : Int) + 1) = ((i + 1 : Nat) : Int) := Lib.w64_ok (by omega) (by omega)
   simp only [l2, r2, Lib.dlt, decide_eq_true (show i < t.size by omega), Lib.dle0, Bool.and_self, cond_true, Lib.toN]
   have e := in6 (R := Int) Lib.big (fun y7 y8 y9 _ => l2 Lib.big (fun y11 _ _ => some y11) n y7 y8 (w64 (y9 + 1))) t (i : Int) 8 Lib.big 0 (IntKind.wrap IntKind.u32 (↑(BitVec.toNat (BitVec.xor (BitVec.ofInt 32 s) (BitVec.ofInt 32 (IntKind.wrap IntKind.u32 (↑(btN t i) : Int))))) : Int)) rfl (by unfold Lib.big; omega)
   refine e.trans ?_
   rw [hi1, ih n (i + 1) _ (by omega) (by omega)]; rfl
 exact key t.size Lib.big 0 s (by omega) (Lib.lt_big (by omega))
theorem ok (s : Int) (t : ByteArray) (ht : t.size <= 4611686018427387904) : c s t = true /\ v s t = U212.su t t.size 0 s := out s t (run s t ht)
end Go.FG.U231

namespace Go.FG.U216
theorem ok (t : ByteArray) (ht : t.size <= 4611686018427387904) : c t = true /\ v t = U212.su t t.size 0 4294967295 := by
 have h := U231.ok 4294967295 t ht
 refine out t ?_
 unfold vo b
 rw [h.1, h.2]; rfl
end Go.FG.U216

namespace Go.FG.U157
theorem ok (t : ByteArray) (ht : t.size <= 4611686018427387904) : c t = true /\ v t = U151.v (U212.su t t.size 0 4294967295) := by
 have h := U216.ok t ht
 refine out t ?_
 unfold vo b
 rw [h.1, h.2]; rfl
end Go.FG.U157

namespace Go.FG.U55
theorem cut (a s s' b : ByteArray) : List.beq (ByteArray.toList (a ++ s ++ b)) (ByteArray.toList (a ++ s' ++ b)) = List.beq (ByteArray.toList s) (ByteArray.toList s') := by
 rw [Lib.beq_ba, Lib.beq_ba, decide_eq_decide]
 constructor
 ·intro h
  have h2 := congrArg (fun x : ByteArray => x.data.toList) h
  simp only [ByteArray.data_append, Array.toList_append, List.append_assoc] at h2
  have h3 := List.append_cancel_right (List.append_cancel_left h2)
  exact Lib.ba_ext h3
 ·intro h; rw [h]
theorem within_eq (n a b : Int) : U70.v n a b = decide (a <= n /\ n <= b) := U64.in_dec n a b
theorem both (t : ByteArray) (ht : t.size <= 20000) : ∀ (d : Nat) (at1 : Nat) (acc : Row) (n m : Nat) (z : Int), t.size - at1 <= d -> at1 <= t.size -> acc.length <= at1 -> d < n -> d < m ->
  ∃ R : Row × Int, U67.l3 Lib.big (fun (_ : ByteArray) (y4 : Int) (y5 : Row) => some (y5, y4)) n t (at1 : Int) acc = some R /\ l5 Lib.big (fun (_ : ByteArray) (y5 _ : Int) (y7 : Row) => some (y7, y5)) (fun (_ : ByteArray) (_ y10 : Int) (y11 : Row) => some (y11, y10)) m t z (at1 : Int) acc = some R /\ R.1.length <= 20000 := by
 intro d
 induction d with
 | zero =>
  intro at1 acc n m z h1 h2 h3 h4 h5
  obtain ⟨n, rfl⟩ : ∃ n', n = n' + 1 := ⟨n - 1, by omega⟩
  obtain ⟨m, rfl⟩ : ∃ m', m = m' + 1 := ⟨m - 1, by omega⟩
  have hlt : decide ((at1 : Int) < (t.size : Int)) = false := decide_eq_false (by omega)
  have hr : (Lib.readVar t (at1 : Int)).2.2 = false := by
   cases h : Lib.readVar t (at1 : Int) with
   | mk a r =>
    obtain ⟨x, o⟩ := r
    cases o with
    | false => rfl
    | true => have := Lib.readVar_ok h; omega
  have e1 : ∀ a b, U156.v a b = Lib.readVar a b := fun _ _ => rfl
  refine ⟨(acc, (at1 : Int)), ?_, ?_, by dsimp only; omega⟩
  ·simp only [U67.l3, U67.r3, e1, hr, decide_eq_true (show (t.size : Int) <= 20000 by omega), cond_true, Bool.not_false]
  ·simp only [l5, r5, hlt, cond_false]
 | succ d ih =>
  intro at1 acc n m z h1 h2 h3 h4 h5
  obtain ⟨n, rfl⟩ : ∃ n', n = n' + 1 := ⟨n - 1, by omega⟩
  obtain ⟨m, rfl⟩ : ∃ m', m = m' + 1 := ⟨m - 1, by omega⟩
  have e1 : ∀ a b, U156.v a b = Lib.readVar a b := fun _ _ => rfl
  have e2 : ∀ a b, U144.v a b = Lib.readVar a b := fun _ _ => rfl
  have hsz : decide ((t.size : Int) <= 20000) = true := decide_eq_true (by omega)
  cases hr : Lib.readVar t (at1 : Int) with
  | mk N r =>
   obtain ⟨nx, o⟩ := r
   cases o with
   | false =>
    refine ⟨(acc, (at1 : Int)), ?_, ?_, by dsimp only; omega⟩
    ·simp only [U67.l3, U67.r3, e1, hr, hsz, cond_true, Bool.not_false]
    ·by_cases hlt : (at1 : Int) < (t.size : Int)
     ·simp only [l5, r5, e2, hr, decide_eq_true hlt, cond_true, Bool.not_false]
     ·simp only [l5, r5, decide_eq_false hlt, cond_false]
   | true =>
    obtain ⟨q1, q2, q3, q4, q5, q6⟩ := Lib.readVar_ok hr
    have hlt : decide ((at1 : Int) < (t.size : Int)) = true := decide_eq_true (by omega)
    have w1 : w64 (N + 4) = N + 4 := Lib.w64_ok (by omega) (by omega)
    have w2 : w64 ((t.size : Int) - nx) = (t.size : Int) - nx := Lib.w64_ok (by omega) (by omega)
    have w3 : w64 ((t.size : Int) - nx - 4) = (t.size : Int) - nx - 4 := Lib.w64_ok (by omega) (by omega)
    have w4 : w64 (nx + 4) = nx + 4 := Lib.w64_ok (by omega) (by omega)
    have w5 : w64 (nx + 4 + N) = nx + 4 + N := Lib.w64_ok (by omega) (by omega)
    by_cases hbig : N + 4 > (t.size : Int) - nx
    ·have hb2 : N > (t.size : Int) - nx - 4 := by omega
     refine ⟨(acc, (at1 : Int)), ?_, ?_, by dsimp only; omega⟩
     ·cases hwi : decide (1 <= N /\ N <= 9000) with
      | false => simp only [U67.l3, U67.r3, e1, hr, hsz, within_eq, hwi, cond_true, cond_false, Bool.not_true, Bool.not_false]
      | true => simp only [U67.l3, U67.r3, e1, hr, hsz, within_eq, hwi, w1, w2, decide_eq_true hbig, cond_true, cond_false, Bool.not_true]
     ·simp only [l5, r5, e2, hr, hlt, w2, w3, decide_eq_true hb2, cond_true, cond_false, Bool.not_true]
    ·have hb2 : ¬ N > (t.size : Int) - nx - 4 := by omega
     have i1 : inB (nx + 4) (nx + 4 + N) (t.size : Int) = true := by simp [inB]; omega
     have i2 : inB nx (nx + 4) (t.size : Int) = true := by simp [inB]; omega
     have i3 : inB (at1 : Int) (nx + 4 + N) (t.size : Int) = true := by simp [inB]; omega
     have hts : (t.extract (nx + 4).toNat (nx + 4 + N).toNat).size = N.toNat := by rw [ByteArray.size_extract]; omega
     generalize htx : t.extract (nx + 4).toNat (nx + 4 + N).toNat = tx at hts
     have f1 := U64.ok tx
     have f2 := U157.ok tx (by omega)
     by_cases hwi : 1 <= N /\ N <= 9000
     ·have hfv : U64.val tx = (U64.fr tx, true) := by
       unfold U64.val; rw [if_pos (by omega)]
      have hnat : ((tx.size : Nat) : Int) = N := by omega
      have hfr : U64.fr tx = t.extract at1 nx.toNat ++ U151.v (U212.su tx tx.size 0 4294967295) ++ tx := by
       unfold U64.fr
       rw [hnat, q6]; rfl
      have hwh : t.extract at1 (nx + 4 + N).toNat = t.extract at1 nx.toNat ++ t.extract nx.toNat (nx + 4).toNat ++ tx := by
       rw [<- htx, Lib.ext_app t (by omega) (by omega), Lib.ext_app t (by omega) (by omega)]
      have hcmp : List.beq (ByteArray.toList (U64.fr tx)) (ByteArray.toList (t.extract at1 (nx + 4 + N).toNat)) = List.beq (ByteArray.toList (U151.v (U212.su tx tx.size 0 4294967295))) (ByteArray.toList (t.extract nx.toNat (nx + 4).toNat)) := by
       rw [hfr, hwh]; exact cut _ _ _ _
      have hro : roomy (acc.length + 1) 16 = true := Lib.roomy_of (by omega) (by omega)
      cases hs : List.beq (ByteArray.toList (U151.v (U212.su tx tx.size 0 4294967295))) (ByteArray.toList (t.extract nx.toNat (nx + 4).toNat)) with
      | false =>
       rw [hs] at hcmp
       refine ⟨(acc, (at1 : Int)), ?_, ?_, by dsimp only; omega⟩
       ·simp only [U67.l3, U67.r3, e1, hr, hsz, within_eq, decide_eq_true hwi, w1, w2, w4, w5, decide_eq_false hbig, i1, i2, htx, f2.1, f2.2, hs, cond_true, cond_false, Bool.not_true, Bool.not_false]
       ·simp only [l5, r5, e2, hr, hlt, w2, w3, w4, w5, decide_eq_false hb2, i1, i3, htx, f1.1, f1.2, hfv, Int.toNat_natCast, hcmp, cond_true, cond_false, Bool.not_true, Bool.not_false]
      | true =>
       rw [hs] at hcmp
       obtain ⟨a2, ha2⟩ : ∃ a2 : Nat, nx + 4 + N = (a2 : Int) := ⟨(nx + 4 + N).toNat, by omega⟩
       obtain ⟨R, g1, g2, g3⟩ := ih a2 (acc ++ [[CV.s tx]]) n m z (by omega) (by omega) (by rw [List.length_append, List.length_singleton]; omega) (by omega) (by omega)
       refine ⟨R, ?_, ?_, g3⟩
       ·simp only [U67.l3, U67.r3, e1, hr, hsz, within_eq, decide_eq_true hwi, w1, w2, w4, w5, decide_eq_false hbig, i1, i2, htx, f2.1, f2.2, hs, Lib.len_set1, List.length_singleton, hro, cond_true, cond_false, Bool.not_true]
        rw [ha2]; exact g1
       ·simp only [l5, r5, e2, hr, hlt, w2, w3, w4, w5, decide_eq_false hb2, i1, i3, htx, f1.1, f1.2, hfv, Int.toNat_natCast, hcmp, Lib.len_set1, List.length_singleton, hro, cond_true, cond_false, Bool.not_true]
        rw [ha2]; exact g2
     ·have hfv : U64.val tx = (⟨#[]⟩, false) := by
       unfold U64.val; rw [if_neg (by omega)]
      refine ⟨(acc, (at1 : Int)), ?_, ?_, by dsimp only; omega⟩
      ·simp only [U67.l3, U67.r3, e1, hr, hsz, within_eq, decide_eq_false hwi, cond_true, cond_false, Bool.not_true, Bool.not_false]
      ·simp only [l5, r5, e2, hr, hlt, w2, w3, w4, w5, decide_eq_false hb2, i1, htx, f1.1, f1.2, hfv, cond_true, cond_false, Bool.not_true, Bool.not_false]
theorem same (t : ByteArray) : ∃ R : Row × Int, (c t = true /\ v t = R) /\ (U67.c t = true /\ U67.v t = R) /\ R.1.length <= 20000 := by
 by_cases ht : t.size <= 20000
 ·obtain ⟨R, g1, g2, g3⟩ := both t ht t.size 0 [] Lib.big Lib.big 0 (by omega) (Nat.zero_le _) (Nat.le_refl _) (Lib.lt_big (by omega)) (Lib.lt_big (by omega))
  refine ⟨R, out t ?_, U67.out t ?_, g3⟩
  ·unfold vo b
   rw [decide_eq_false (show ¬ (t.size : Int) > 20000 by omega), cond_false]; exact g2
  ·unfold U67.vo U67.b; exact g1
 ·refine ⟨([], 0), out t ?_, U67.out t ?_, Nat.zero_le _⟩
  ·unfold vo b
   rw [decide_eq_true (show (t.size : Int) > 20000 by omega)]; rfl
  ·unfold U67.vo U67.b
   have hb : Lib.big = 18446744073709551615 + 1 := rfl
   have : ∀ n, U67.l3 Lib.big (fun (_ : ByteArray) (y4 : Int) (y5 : Row) => some (y5, y4)) (n + 1) t 0 (zeros [Ck.s] 0) = some ([], 0) := by
    intro n
    simp only [U67.l3, U67.r3, decide_eq_false (show ¬ (t.size : Int) <= 20000 by omega), cond_false]; rfl
   exact this 18446744073709551615
end Go.FG.U55

namespace Go.FG.A_Un
def fs : List ByteArray -> ByteArray
 | [] => ⟨#[]⟩ | x :: r => U64.fr x ++ fs r
theorem toL (a b : ByteArray) : (a ++ b).data.toList = a.data.toList ++ b.data.toList := by simp [ByteArray.data_append]
theorem fr_toL (x : ByteArray) : (U64.fr x).data.toList = (bytesOf (Lib.vb x.size)).data.toList ++ ((U151.v (U212.su x x.size 0 4294967295)).data.toList ++ x.data.toList) := by
 unfold U64.fr
 rw [toL, toL, List.append_assoc]
theorem szL (x : ByteArray) : x.data.toList.length = x.size := Array.length_toList
def Stop (z : ByteArray) : Prop := z = ⟨#[]⟩ \/ ∃ (x : ByteArray) (w : List UInt8), x.size <= 9000 /\ (U64.fr x).data.toList = z.data.toList ++ w /\ w ≠ []
theorem four_size (n : Int) : (U151.v n).size = 4 := rfl
theorem vbl (n : Int) : (bytesOf (Lib.vb n)).data.toList.length = (Lib.vb n).length := by rw [szL, Lib.size_bytesOf]
theorem stop {t z : ByteArray} {p : Nat} (hz : Stop z) (hp : p <= t.size) (hd : t.data.toList.drop p = z.data.toList) {N nx : Int} (h : Lib.readVar t p = (N, nx, true)) : N + 4 > (t.size : Int) - nx := by
 obtain ⟨q1, q2, q3, q4, q5, q6⟩ := Lib.readVar_ok h
 have hl : t.size - p = z.size := by
  have := congrArg List.length hd
  rw [List.length_drop, szL, szL] at this; exact this
 rcases hz with rfl | ⟨x, w, hx, hF, hw⟩
 ·have : (⟨#[]⟩ : ByteArray).size = 0 := rfl
  omega
 ·-- the file's next bytes are the number's
  have e1 : (t.extract p nx.toNat).data.toList = z.data.toList.take (nx.toNat - p) := by
   rw [<- hd]
   simp [ByteArray.data_extract, Array.toList_extract, List.extract]
  rw [Int.toNat_natCast] at q6
  have hzl : nx.toNat - p <= z.data.toList.length := by rw [szL]; omega
  have e2 : (U64.fr x).data.toList.drop 0 = (bytesOf (Lib.vb N)).data.toList ++ (z.data.toList.drop (nx.toNat - p) ++ w) := by
   rw [List.drop_zero, hF, q6, e1, <- List.append_assoc, List.take_append_drop]
  have e3 : (U64.fr x).data.toList.drop 0 = (bytesOf (Lib.vb x.size)).data.toList ++ ((U151.v (U212.su x x.size 0 4294967295)).data.toList ++ x.data.toList) := by rw [List.drop_zero, fr_toL]
  have r1 := (U56.readVar_enc _ 0 N _ q4 q5 e2).1
  have r2 := (U56.readVar_enc _ 0 (x.size : Int) _ (by omega) (by omega) e3).1
  rw [r1] at r2
  obtain ⟨hN, hq⟩ := Prod.mk.inj r2
  have hlen : (Lib.vb N).length = nx.toNat - p := by
   have := congrArg List.length (congrArg (fun y : ByteArray => y.data.toList) q6)
   simp only [vbl, e1, List.length_take] at this
   omega
  have hFl := congrArg List.length hF
  rw [fr_toL, List.length_append, List.length_append, List.length_append, vbl, szL, szL, szL, four_size] at hFl
  have hw1 : 1 <= w.length := by cases w with | nil => exact absurd rfl hw | cons => simp
  subst hN
  omega
theorem go (t : ByteArray) (ht : t.size <= 20000) (z : ByteArray) (hz : Stop z) : ∀ (es : List ByteArray), (∀ x ∈ es, 1 <= x.size /\ x.size <= 9000) -> ∀ (p n : Nat) (acc : Row), p <= t.size -> acc.length <= p -> t.data.toList.drop p = (fs es ++ z).data.toList -> t.size - p < n ->
  U67.l3 Lib.big (fun (_ : ByteArray) (y4 : Int) (y5 : Row) => some (y5, y4)) n t (p : Int) acc = some (acc ++ Lib.rs es, ((p + (fs es).size : Nat) : Int)) := by
 have e0 : ∀ a b, U156.v a b = Lib.readVar a b := fun _ _ => rfl
 have hsz : decide ((t.size : Int) <= 20000) = true := decide_eq_true (by omega)
 intro es
 induction es with
 | nil =>
  intro hes p n acc hp ha hd hn
  obtain ⟨n, rfl⟩ : ∃ n', n = n' + 1 := ⟨n - 1, by omega⟩
  have hd : t.data.toList.drop p = z.data.toList := by rw [hd]; unfold fs; rw [toL]; rfl
  have e1 : acc ++ Lib.rs [] = acc := List.append_nil _
  have e2 : ((p + (fs []).size : Nat) : Int) = (p : Int) := rfl
  rw [e1, e2]
  cases hr : Lib.readVar t (p : Int) with
  | mk N r =>
   obtain ⟨nx, o⟩ := r
   cases o with
   | false => simp only [U67.l3, U67.r3, e0, hr, hsz, cond_true, Bool.not_false]
   | true =>
    have hs := stop hz hp hd hr
    obtain ⟨q1, q2, q3, q4, q5, q6⟩ := Lib.readVar_ok hr
    have w1 : w64 (N + 4) = N + 4 := Lib.w64_ok (by omega) (by omega)
    have w2 : w64 ((t.size : Int) - nx) = (t.size : Int) - nx := Lib.w64_ok (by omega) (by omega)
    cases hwi : decide (1 <= N /\ N <= 9000) with
    | false => simp only [U67.l3, U67.r3, e0, hr, hsz, U55.within_eq, hwi, cond_true, cond_false, Bool.not_true, Bool.not_false]
    | true => simp only [U67.l3, U67.r3, e0, hr, hsz, U55.within_eq, hwi, w1, w2, decide_eq_true hs, cond_true, cond_false, Bool.not_true]
 | cons x es ih =>
  intro hes p n acc hp ha hd hn
  obtain ⟨n, rfl⟩ : ∃ n', n = n' + 1 := ⟨n - 1, by omega⟩
  have hx := hes x (by simp)
  have hd1 : t.data.toList.drop p = (bytesOf (Lib.vb x.size)).data.toList ++ ((U151.v (U212.su x x.size 0 4294967295)).data.toList ++ (x.data.toList ++ (fs es ++ z).data.toList)) := by
   rw [hd, show fs (x :: es) = U64.fr x ++ fs es from rfl, toL, toL, fr_toL, toL]
   simp only [List.append_assoc]
  obtain ⟨hr, hd2⟩ := U56.readVar_enc t p (x.size : Int) _ (by omega) (by omega) hd1
  have hfl : (U64.fr x).size = (Lib.vb x.size).length + 4 + x.size := by
   rw [<- szL, fr_toL, List.length_append, List.length_append, vbl, szL, szL, four_size]; omega
  have hlen := congrArg List.length hd
  rw [List.length_drop, szL, szL] at hlen
  have hall : (fs (x :: es) ++ z).size = (U64.fr x).size + (fs es).size + z.size := by rw [show fs (x :: es) = U64.fr x ++ fs es from rfl, ByteArray.size_append, ByteArray.size_append]
  rw [hall, hfl] at hlen
  generalize hm : (Lib.vb (x.size : Int)).length = m at *
  have x4 : t.extract (p + m) (p + m + 4) = U151.v (U212.su x x.size 0 4294967295) := by
   have := U56.ext_of t _ (p + m) _ hd2
   rwa [four_size] at this
  have hd3 : t.data.toList.drop (p + m + 4) = x.data.toList ++ (fs es ++ z).data.toList := by
   rw [<- List.drop_drop, hd2, List.drop_append_of_le_length (by rw [szL, four_size]; omega), List.drop_of_length_le (by rw [szL, four_size]; omega), List.nil_append]
  have x5 : t.extract (p + m + 4) (p + m + 4 + x.size) = x := U56.ext_of t x (p + m + 4) _ hd3
  have hd4 : t.data.toList.drop (p + m + 4 + x.size) = (fs es ++ z).data.toList := by
   rw [<- List.drop_drop, hd3, List.drop_append_of_le_length (by rw [szL]; omega), List.drop_of_length_le (by rw [szL]; omega), List.nil_append]
  have i := ih (fun y hy => hes y (by simp [hy])) (p + m + 4 + x.size) n (acc ++ [[CV.s x]]) (by omega) (by simp; omega) hd4 (by omega)
  have w1 : w64 ((x.size : Int) + 4) = (x.size : Int) + 4 := Lib.w64_ok (by omega) (by omega)
  have w2 : w64 ((t.size : Int) - ((p + m : Nat) : Int)) = (t.size : Int) - ((p + m : Nat) : Int) := Lib.w64_ok (by omega) (by omega)
  have w4 : w64 (((p + m : Nat) : Int) + 4) = ((p + m + 4 : Nat) : Int) := by rw [Lib.w64_ok (by omega) (by omega)]; omega
  have w5 : w64 (((p + m + 4 : Nat) : Int) + (x.size : Int)) = ((p + m + 4 + x.size : Nat) : Int) := by rw [Lib.w64_ok (by omega) (by omega)]; omega
  have b1 : ¬ (x.size : Int) + 4 > (t.size : Int) - ((p + m : Nat) : Int) := by omega
  have i1 : inB ((p + m + 4 : Nat) : Int) ((p + m + 4 + x.size : Nat) : Int) (t.size : Int) = true := by simp [inB]; omega
  have i2 : inB ((p + m : Nat) : Int) ((p + m + 4 : Nat) : Int) (t.size : Int) = true := by simp [inB]; omega
  have f2 := U157.ok x (by omega)
  have hro : roomy (acc.length + 1) 16 = true := Lib.roomy_of (by omega) (by omega)
  simp only [U67.l3, U67.r3, e0, hr, hsz, U55.within_eq, decide_eq_true (show 1 <= (x.size : Int) /\ (x.size : Int) <= 9000 by omega), w1, w2, w4, w5, decide_eq_false b1, i1, i2, Int.toNat_natCast, x4, x5, f2.1, f2.2, Lib.beq_self, Lib.len_set1, List.length_singleton, hro, cond_true, cond_false, Bool.not_true]
  rw [i]
  have e3 : acc ++ [[CV.s x]] ++ Lib.rs es = acc ++ Lib.rs (x :: es) := by unfold Lib.rs; simp
  have e4 : p + m + 4 + x.size + (fs es).size = p + (fs (x :: es)).size := by
   have : (fs (x :: es)).size = (U64.fr x).size + (fs es).size := by rw [show fs (x :: es) = U64.fr x ++ fs es from rfl, ByteArray.size_append]
   omega
  rw [e3, e4]
theorem ok (es : List ByteArray) (hes : ∀ x ∈ es, 1 <= x.size /\ x.size <= 9000) (z : ByteArray) (hz : Stop z) (ht : (fs es ++ z).size <= 20000) :
  (U67.c (fs es ++ z) = true /\ U67.v (fs es ++ z) = (Lib.rs es, ((fs es).size : Int))) /\ (U55.c (fs es ++ z) = true /\ U55.v (fs es ++ z) = (Lib.rs es, ((fs es).size : Int))) := by
 have h1 := U67.out (fs es ++ z) (x := (Lib.rs es, ((fs es).size : Int))) (by
  unfold U67.vo U67.b
  have := go (fs es ++ z) ht z hz es hes 0 Lib.big [] (Nat.zero_le _) (Nat.zero_le _) (by rw [List.drop_zero]) (Lib.lt_big (by omega))
  rw [Nat.zero_add, List.nil_append] at this
  exact this)
 obtain ⟨R, s1, s2, _⟩ := U55.same (fs es ++ z)
 refine ⟨h1, s1.1, ?_⟩
 rw [s1.2, <- s2.2, h1.2]
end Go.FG.A_Un

namespace Go.FG.U147
theorem wi (n a b : Int) : U70.v n a b = decide (a <= n /\ n <= b) := U64.in_dec n a b
theorem ok (t : ByteArray) : c t = true /\ v t = U64.val t := by
 refine out t ?_
 unfold vo b U64.val
 rw [wi]
 by_cases h : 1 <= t.size /\ t.size <= 9000
 ·have hs := U157.ok t (by omega)
  have z1 : (bytesOf (Lib.vb (t.size : Int))).size <= 64 := Lib.var_size (x := (t.size : Int)) (by omega)
  have e2 : U209.v (t.size : Int) = (bytesOf (Lib.vb t.size), true) := by unfold U209.v; rw [if_pos (by omega)]
  rw [decide_eq_true (show (1 : Int) <= (t.size : Int) /\ (t.size : Int) <= 9000 by omega), if_pos h, hs.1, hs.2, e2]
  simp (disch := omega) only [Bool.not_true, cond_false, cond_true, Lib.size_app, U151.size, Lib.dnat]
  rfl
 ·rw [decide_eq_false (show ¬ ((1 : Int) <= (t.size : Int) /\ (t.size : Int) <= 9000) by omega), if_neg h]; rfl
end Go.FG.U147

namespace Go.FG.U61
theorem txt_size {k b : ByteArray} {s l : Int} (h : U149.v k s l b = true) : (U63.txt k s l b).size <= 1000 := by
 have hr := U149.rng h
 have z1 : (bytesOf (Lib.vb (k.size : Int))).size <= 64 := Lib.var_size (x := (k.size : Int)) (by omega)
 have z2 : (bytesOf (Lib.vb s)).size <= 64 := Lib.var_size (x := s) (by omega)
 have z3 : (bytesOf (Lib.vb l)).size <= 64 := Lib.var_size (x := l) (by omega)
 unfold U63.txt
 simp only [Lib.size_app]
 omega
theorem txt_pos {k b : ByteArray} {s l : Int} (h : U149.v k s l b = true) : 1 <= (U63.txt k s l b).size := by
 have hr := U149.rng h
 unfold U63.txt
 simp only [Lib.size_app]
 omega
def val (k : ByteArray) (s l : Int) (b : ByteArray) : ByteArray × Bool := if U149.v k s l b = true then (U64.fr (U63.txt k s l b), true) else (⟨#[]⟩, false)
theorem ok (k : ByteArray) (s l : Int) (b0 : ByteArray) : c k s l b0 = true /\ v k s l b0 = val k s l b0 := by
 refine out k s l b0 ?_
 have hf := U147.ok (U146.v k s l b0).1
 unfold vo b val
 rw [hf.1, hf.2]
 unfold U146.v U63.v U64.val
 by_cases h : U149.v k s l b0 = true
 ·have h1 := txt_size h
  have h2 := txt_pos h
  rw [if_pos h, if_pos h, if_pos (by dsimp only; omega)]; rfl
 ·rw [if_neg h, if_neg h]; rfl
end Go.FG.U61

namespace Go.FG.U143
def p (d : Row) (n : ByteArray) (i : Nat) : Bool := List.beq (ByteArray.toList (cvS (cellAt d i 0))) (ByteArray.toList n)
theorem ok (d : Row) (n : ByteArray) (hl : d.length <= 4294967296) : c d n = true /\ v d n = Lib.fi (p d n) d.length 0 := by
 refine out d n ?_
 unfold vo b
 refine Lib.fi_gen (p d n) d.length (fun m (i : Nat) => l2 Lib.big (fun (_ : ByteArray) (y5 _ : Int) (_ : Row) => some y5) (fun (_ : ByteArray) (_ _ : Int) (_ : Row) => some (-1)) m n 0 (i : Int) d) some (fun m i hi hp => ?_) (fun m i hi hp => ?_) (fun m => ?_) Lib.big (Lib.lt_big (by omega))
 ·unfold p at hp
  simp only [l2, r2, Lib.dlt, Lib.dle0, Lib.toN, hi, decide_true, Bool.and_self, cond_true, hp]
 ·unfold p at hp
  simp only [l2, r2, Lib.dlt, Lib.dle0, Lib.toN, hi, decide_true, Bool.and_self, cond_true, hp, cond_false, Lib.w64_s hi (by omega : d.length <= 9223372036854775807)]
 ·simp only [l2, r2, Lib.dlt, Nat.lt_irrefl, decide_false, cond_false]
end Go.FG.U143

namespace Go.FG.U54
def val (d : Row) (n : ByteArray) : ByteArray × Bool := if Lib.fi (U143.p d n) d.length 0 < 0 then (⟨#[]⟩, false) else (cvS (cellAt d (Lib.fi (U143.p d n) d.length 0).toNat 1), true)
theorem rng (d : Row) (n : ByteArray) (h : ¬ Lib.fi (U143.p d n) d.length 0 < 0) : 0 <= Lib.fi (U143.p d n) d.length 0 /\ Lib.fi (U143.p d n) d.length 0 < (d.length : Int) := by
 rcases Lib.fi_rng (U143.p d n) d.length 0 with ⟨h1, _⟩ | ⟨k, h1, h2, h3, _, _⟩
 ·rw [h1] at h; omega
 ·rw [h3]; omega
theorem ok (d : Row) (n : ByteArray) (hl : d.length <= 4294967296) : c d n = true /\ v d n = val d n := by
 refine out d n ?_
 have h := U143.ok d n hl
 unfold vo b val
 rw [h.1, h.2, cond_true]
 by_cases hn : Lib.fi (U143.p d n) d.length 0 < 0
 ·rw [decide_eq_true hn, if_pos hn]; rfl
 ·have hr := rng d n hn
  rw [decide_eq_false hn, if_neg hn, cond_false, decide_eq_true hr.1, decide_eq_true hr.2]; rfl
end Go.FG.U54

namespace Go.FG.U60
theorem ok (r : Row) (hl : r.length <= 4294967296) : c r = true /\ v r = U53.val r := by
 refine out r ?_
 unfold vo b U53.val
 have hin : ∀ a b c, U70.v a b c = U122.v a b c := fun _ _ _ => rfl
 have key := Lib.all_gen (U53.el r) r.length (fun m (i : Nat) => l2 Lib.big (fun (y5 : Bool) (_ : Row) (_ _ : Int) (_ : Row) => some y5) (fun (_ : Bool) (_ : Row) (_ _ : Int) (y14 : Row) => some (decide ((y14.length : Int) <= 30))) m false r (r.length : Int) (i : Int) r) (some false) (some (decide ((r.length : Int) <= 30)))
  (fun m i hi hp => by
   unfold U53.el at hp
   simp only [Bool.and_eq_true] at hp
   obtain ⟨h1, h2, h3, h4⟩ := hp
   have h3 : decide (0 <= cvI (cellAt r i (1 + 1)) /\ cvI (cellAt r i (1 + 1)) <= ((cvS (cellAt r i 1)).size : Int)) = true := h3
   have h2 : decide (((cvS (cellAt r i 1)).size : Int) > 20000) = false := by simpa using h2
   by_cases hz : 0 < i
   ·have e0 : decide ((i : Int) > 0) = true := decide_eq_true (by omega)
    have hp' : i - 1 < r.length := by omega
    have h5 : Go.Op.bytesLess (ByteArray.toList (cvS (cellAt r (i - 1) 0))) (ByteArray.toList (cvS (cellAt r i 0))) = true := by
     rcases Bool.or_eq_true _ _ ▸ h4 with q | q
     ·have : i = 0 := by simpa using q
      omega
     ·exact q
    simp only [l2, r2, Lib.dlt, hi, hp', decide_true, Lib.dle0, Bool.and_self, cond_true, cond_false, Lib.toN, hin, U53.in_eq, h1, h2, h3, h5, e0, U53.w64_p hz (by omega), Bool.not_true, Lib.w64_s hi (by omega : r.length <= 9223372036854775807)]
   ·have e0 : decide ((i : Int) > 0) = false := decide_eq_false (by omega)
    simp only [l2, r2, Lib.dlt, hi, decide_true, Lib.dle0, Bool.and_self, cond_true, cond_false, Lib.toN, hin, U53.in_eq, h1, h2, h3, e0, Bool.not_true, Lib.w64_s hi (by omega : r.length <= 9223372036854775807)])
  (fun m i hi hp => by
   unfold U53.el at hp
   cases h1 : decide (1 <= ((cvS (cellAt r i 0)).size : Int) /\ ((cvS (cellAt r i 0)).size : Int) <= 8) with
   | false => simp only [l2, r2, Lib.dlt, hi, decide_true, Lib.dle0, Bool.and_self, cond_true, cond_false, Lib.toN, hin, U53.in_eq, h1, Bool.not_false]
   | true =>
   cases h2 : decide (((cvS (cellAt r i 1)).size : Int) > 20000) with
   | true => simp only [l2, r2, Lib.dlt, hi, decide_true, Lib.dle0, Bool.and_self, cond_true, cond_false, Lib.toN, hin, U53.in_eq, h1, h2, Bool.not_true]
   | false =>
   cases h3 : decide (0 <= cvI (cellAt r i (1 + 1)) /\ cvI (cellAt r i (1 + 1)) <= ((cvS (cellAt r i 1)).size : Int)) with
   | false => simp only [l2, r2, Lib.dlt, hi, decide_true, Lib.dle0, Bool.and_self, cond_true, cond_false, Lib.toN, hin, U53.in_eq, h1, h2, h3, Bool.not_true, Bool.not_false]
   | true =>
   rw [h1, h2, show decide (0 <= cvI (cellAt r i 2) /\ cvI (cellAt r i 2) <= ((cvS (cellAt r i 1)).size : Int)) = true from h3, Bool.not_false, Bool.true_and, Bool.true_and, Bool.true_and] at hp
   rw [Bool.or_eq_false_iff] at hp
   obtain ⟨h4, h5⟩ := hp
   have hz : 0 < i := by
    have : ¬ i = 0 := by simpa using h4
    omega
   have e0 : decide ((i : Int) > 0) = true := decide_eq_true (by omega)
   have hp' : i - 1 < r.length := by omega
   simp only [l2, r2, Lib.dlt, hi, hp', decide_true, Lib.dle0, Bool.and_self, cond_true, cond_false, Lib.toN, hin, U53.in_eq, h1, h2, h3, h5, e0, U53.w64_p hz (by omega), Bool.not_true, Bool.not_false])
  (fun m => by simp only [l2, r2, Lib.dlt, Nat.lt_irrefl, decide_false, cond_false]) Lib.big (Lib.lt_big (by omega))
 refine key.trans ?_
 rw [show decide ((r.length : Int) <= 30) = decide (r.length <= 30) from by rw [decide_eq_decide]; omega]
 cases (List.range r.length).all (U53.el r) <;> cases decide (r.length <= 30) <;> rfl
end Go.FG.U60

namespace Go.FG.U210a
theorem ok (d : Row) (n : ByteArray) (hl : d.length <= 4294967296) : c d n = true /\ v d n = Lib.fi (U143.p d n) d.length 0 := by
 refine out d n ?_
 unfold vo b
 refine Lib.fi_gen (U143.p d n) d.length (fun m (i : Nat) => l2 Lib.big (fun (_ : Row) (_ : ByteArray) (y7 _ _ : Int) => some y7) (fun (_ : Row) (_ : ByteArray) (_ _ _ : Int) => some (-1)) m d n 0 (d.length : Int) (i : Int)) some (fun m i hi hp => ?_) (fun m i hi hp => ?_) (fun m => ?_) Lib.big (Lib.lt_big (by omega))
 ·unfold U143.p at hp
  simp only [l2, r2, Lib.dlt, Lib.dle0, Lib.toN, hi, decide_true, Bool.and_self, cond_true, U211.v, hp]
 ·unfold U143.p at hp
  simp only [l2, r2, Lib.dlt, Lib.dle0, Lib.toN, hi, decide_true, Bool.and_self, cond_true, U211.v, hp, cond_false, Lib.w64_s hi (by omega : d.length <= 9223372036854775807)]
 ·simp only [l2, r2, Lib.dlt, Nat.lt_irrefl, decide_false, cond_false]
end Go.FG.U210a

namespace Go.FG.U148
theorem ok (d : Row) (n : ByteArray) (hl : d.length <= 4294967296) : c d n = true /\ v d n = Lib.fi (U143.p d n) d.length 0 := by
 have h := U210a.ok d n hl
 exact out d n (by unfold vo b; rw [h.1, h.2, cond_true])
end Go.FG.U148

namespace Go.FG.U65
theorem ok (d : Row) (h : d.length <= 1000000000) : c d = true /\ v d = d := by
 refine out d ?_
 unfold vo b
 rw [Lib.length_zeros, Lib.roomy_of (by omega) (by omega)]; rfl
end Go.FG.U65

namespace Go.FG.U155
open Lib (rd Fi)
open A_Disk (without)
theorem ok (l : List Fi) (n : ByteArray) (hl : l.length <= 1000000) : c (rd l) n = true /\ v (rd l) n = rd (without l n) := by
 have h1 := U65.ok (rd l) (by rw [Lib.rd_len]; omega)
 have h2 := U214.ok (rd l) n (A_Disk.cn_rd l) (by rw [Lib.rd_len]; omega)
 exact out _ _ (by unfold vo b; rw [h1.1, h1.2, h2.1, h2.2, A_Disk.wo_rd]; rfl)
end Go.FG.U155

namespace Go.FG.U154
open Lib (rd Fi)
open A_Disk (without put SoD)
def nw (n t : ByteArray) (k : Int) : List CV := [CV.s n, CV.s t, CV.i IntKind.i64 k]
def pn (n : ByteArray) (y : List CV) : Bool := Go.Op.bytesLess (ByteArray.toList (cvS (y.getD 0 (.b false)))) (ByteArray.toList n)
theorem ok (l : List Fi) (n t : ByteArray) (k : Int) (hs : SoD l) (hl : l.length <= 1000000) : c (rd l) n t k = true /\ v (rd l) n t k = rd (put l ⟨n, t, k⟩) := by
 refine out _ _ _ _ ?_
 have hd := U155.ok l n hl
 unfold vo b
 rw [hd.1, hd.2, cond_true]
 have hol := A_Disk.wo_len l n
 have e1 : (without l n).filter (fun x => A_En.lessK x.n n) = l.filter fun x => A_En.lessK x.n n := by
  unfold without
  rw [List.filter_filter]
  apply List.filter_congr
  intro y _
  by_cases h : y.n = n
  ·rw [h, A_Disk.irrefl]; rfl
  ·rw [decide_eq_false h]; simp
 have e2 : (without l n).filter (fun x => !A_En.lessK x.n n) = l.filter fun x => !(A_En.lessK x.n n || decide (x.n = n)) := by
  unfold without
  rw [List.filter_filter]
  apply List.filter_congr
  intro y _
  cases A_En.lessK y.n n <;> cases decide (y.n = n) <;> rfl
 have htw := Lib.tw_gen (fun x : Fi => A_En.lessK x.n n) (fun x => !A_En.lessK x.n n) (without l n) (fun _ _ => rfl) ((A_Disk.wo_so hs n).imp fun {y z} hyz hz => U57.bl_trans _ _ _ hyz hz)
 rw [e1, e2] at htw
 generalize without l n = o at hol htw
 have := Lib.stop_run (pn n) (rd o) (fun m (i : Nat) => l3 Lib.big (fun (y5 : Int) (y6 y7 : ByteArray) (y8 : Int) (y9 : Row) => bif (decide (0 <= y5) && decide (y5 <= (↑(List.length y9) : Int)) && roomy (List.length y9 + List.length (List.set (zeros [Ck.s, Ck.s, Ck.i IntKind.i64] 1) 0 [CV.s y6, CV.s y7, CV.i IntKind.i64 y8])) 40) then (some (Pu.insR y9 (Int.toNat y5) (List.set (zeros [Ck.s, Ck.s, Ck.i IntKind.i64] 1) 0 [CV.s y6, CV.s y7, CV.i IntKind.i64 y8]))) else (none)) m (i : Int) n t k (rd o))
  (fun a => bif decide ((a : Int) <= ((rd o).length : Int)) then some (Pu.insR (rd o) a [nw n t k]) else none)
  (fun m i h hp => by
   have hp' : Go.Op.bytesLess (ByteArray.toList (cvS (cellAt (rd o) i 0))) (ByteArray.toList n) = true := by rw [Lib.cellAt_of h]; exact hp
   simp only [l3, r3, Lib.dlt, h, decide_true, Lib.dle0, Bool.and_self, cond_true, Lib.toN, hp', Lib.w64_s h (by rw [Lib.rd_len]; omega : (rd o).length <= 9223372036854775807)])
  (fun m i h hp => by
   have hp' : Go.Op.bytesLess (ByteArray.toList (cvS (cellAt (rd o) i 0))) (ByteArray.toList n) = false := by rw [Lib.cellAt_of h]; exact hp
   simp only [l3, r3, Lib.dlt, h, decide_true, Lib.dle0, Bool.and_self, Bool.true_and, Bool.and_true, cond_true, cond_false, Lib.toN, hp', Lib.len_set1, List.length_singleton, Lib.roomy_of (n := (rd o).length + 1) (b := 40) (by rw [Lib.rd_len]; omega) (by rw [Lib.rd_len]; omega)]
   rfl)
  (fun m => by
   simp only [l3, r3, Lib.dlt, Nat.lt_irrefl, decide_false, decide_true, Lib.dle0, Bool.and_self, Bool.true_and, Bool.and_true, cond_true, cond_false, Lib.toN, Lib.len_set1, List.length_singleton, Lib.roomy_of (n := (rd o).length + 1) (b := 40) (by rw [Lib.rd_len]; omega) (by rw [Lib.rd_len]; omega)]
   rfl) Lib.big (Lib.lt_big (by rw [Lib.rd_len]; omega))
 refine this.trans ?_
 have hle := Lib.tw_le (pn n) (rd o)
 rw [decide_eq_true (by omega), cond_true]
 unfold Pu.insR
 rw [Lib.take_tw, Lib.drop_tw]
 have e3 : pn n ∘ Fi.row = fun x : Fi => A_En.lessK x.n n := rfl
 unfold Lib.rd
 rw [List.takeWhile_map, List.dropWhile_map, e3, htw.1, htw.2]
 unfold put
 rw [List.map_append, List.map_append]; rfl
end Go.FG.U154

namespace Go.FG.U66
open Lib (rd el Fi)
open A_Disk (without put SoD okD act nxt okD_iff)
def res (o : Option (List Fi)) : Row × Bool := match o with | some d => (rd d, true) | none => ([], false)
theorem find (l : List Fi) (n : ByteArray) : (Lib.fi (U143.p (rd l) n) l.length 0 = -1 /\ l.find? (fun x => decide (x.n = n)) = none) \/ ∃ i, i < l.length /\ Lib.fi (U143.p (rd l) n) l.length 0 = (i : Int) /\ l.find? (fun x => decide (x.n = n)) = some (el l i) := by
 have hq : ∀ i (hi : i < l.length), U143.p (rd l) n i = decide (l[i].n = n) := fun i hi => by
  unfold U143.p
  rw [Lib.rd0 hi]
  exact Lib.beq_ba
 rcases Lib.fi_rng (U143.p (rd l) n) l.length 0 with ⟨e, ha⟩ | ⟨k, _, hk, e, hp, hb⟩
 ·refine .inl ⟨e, List.find?_eq_none.2 fun x hx => ?_⟩
  obtain ⟨i, hi, rfl⟩ := List.getElem_of_mem hx
  rw [<- hq i hi, ha i (by omega) (by omega)]; simp
 ·have hk' : k < l.length := by omega
  refine .inr ⟨k, hk', e, ?_⟩
  rw [List.find?_eq_some_iff_getElem]
  exact ⟨by rw [Lib.el_eq hk', <- hq k hk']; exact hp, k, hk', (Lib.el_eq hk').symm, fun j hj => by rw [<- hq j (by omega), hb j (by omega) hj]; rfl⟩
theorem okc (d : List Fi) (h : d.length <= 1000000) : U60.c (rd d) = true /\ U60.v (rd d) = okD d := U60.ok (rd d) (by rw [Lib.rd_len]; omega)
theorem actOk_eq (k : Int) (n t o : ByteArray) : U153.v k n t o = A_Disk.actOk k t o := by
 unfold U153.v A_Disk.actOk U70.v
 rw [Lib.beq_ba, Lib.beq_ba]
 by_cases h1 : 1 <= k
 ·by_cases h2 : k <= 4
  ·rw [decide_eq_true h1, decide_eq_true h2, decide_eq_true (⟨h1, h2⟩ : 1 <= k /\ k <= 4)]
   cases decide (t = ⟨#[]⟩) <;> cases decide (o = ⟨#[]⟩) <;> cases decide (k = 1) <;> cases decide (k = 3) <;> rfl
  ·rw [decide_eq_true h1, decide_eq_false h2, decide_eq_false (show ¬ (1 <= k /\ k <= 4) by omega)]; rfl
 ·rw [decide_eq_false h1, decide_eq_false (show ¬ (1 <= k /\ k <= 4) by omega)]; rfl
theorem ok (l : List Fi) (k : Int) (n t o : ByteArray) (hl : l.length <= 1000) (ht : t.size <= 2305843009213693952) : c (rd l) k n t o = true /\ v (rd l) k n t o = res (act l k n t o) := by
 refine out _ _ _ _ _ ?_
 unfold vo b
 have h1 := U148.ok (rd l) n (by rw [Lib.rd_len]; omega)
 have h2 := okc l (by omega)
 rw [h1.1, h1.2, h2.1, h2.2, actOk_eq, cond_true, cond_true, Lib.rd_len]
 unfold act
 cases hk : okD l with
 | false => rfl
 | true =>
 rw [Bool.not_true, cond_false, Bool.true_and]
 obtain ⟨q1, q2, q3⟩ := okD_iff.1 hk
 cases ha : A_Disk.actOk k t o with
 | false => rfl
 | true =>
 rw [Bool.not_true, cond_false, cond_true]
 have hk4 : 1 <= k /\ k <= 4 := by
  unfold A_Disk.actOk at ha
  rw [Bool.and_eq_true] at ha
  exact of_decide_eq_true ha.1
 have wp := fun (m : List Fi) (hm : SoD m) (hml : m.length <= 1000) (n t : ByteArray) (k : Int) => U154.ok m n t k hm (by omega)
 have wo := U155.ok l n (by omega)
 have wol := A_Disk.wo_len l n
 have pl := fun (m : List Fi) (f : Fi) (hm : m.length <= 1000) => okc (put m f) (Nat.le_trans (A_Disk.put_len f) (by omega))
 have fin : ∀ d : List Fi, (bif !okD d then some (([] : Row), false) else some (rd d, true)) = some (res (bif okD d then some d else none)) := fun d => by cases okD d <;> rfl
 unfold nxt
 rcases find l n with ⟨e1, e2⟩ | ⟨i, hi, e1, e2⟩
 ·rw [e1, e2]
  by_cases k1 : k = 1
  ·subst k1
   have p := wp l q3 hl n (⟨#[]⟩ ++ t) 0
   have d := pl l ⟨n, ⟨#[]⟩ ++ t, 0⟩ hl
   have et : (⟨#[]⟩ : ByteArray) ++ t = t := ByteArray.empty_append
   rw [show decide ((-1 : Int) < 0) = true from rfl, show decide ((-1 : Int) ≥ 0) = false from rfl, show ((1 : Int) != 1) = false from rfl, cond_true, cond_false, cond_false, decide_eq_true (show (1 : Int) = 1 from rfl), cond_true, decide_eq_true (show (⟨#[]⟩ : ByteArray).size + t.size <= 4611686018427387904 from by rw [show (⟨#[]⟩ : ByteArray).size = 0 from rfl]; omega), cond_true, p.1, p.2, cond_true, d.1, d.2, cond_true, fin, et]
   rfl
  ·rw [show decide ((-1 : Int) < 0) = true from rfl, cond_true, show (k != 1) = true from bne_iff_ne.2 k1, cond_true, if_neg k1]; rfl
 ·have hf : (el l i).n = n := by
   have := List.find?_some e2
   exact of_decide_eq_true this
  have hfo : ((el l i).t.size : Int) <= 20000 := by
   have := q2 _ (Lib.el_mem hi)
   unfold A_Disk.fOk at this
   simp only [Bool.and_eq_true, decide_eq_true_eq, Bool.not_eq_true', decide_eq_false_iff_not] at this
   omega
  rw [e1, e2, decide_eq_false (show ¬ ((i : Nat) : Int) < 0 by omega), decide_eq_true (show ((i : Nat) : Int) ≥ 0 by omega), cond_false, cond_true]
  simp only [Lib.dlt, hi, decide_true, Lib.toN, Lib.wd0 hi, Lib.wd1 hi, Lib.wd2 hi, cvS, cvI, Bool.and_self, Bool.true_and, cond_true]
  by_cases k1 : k = 1
  ·subst k1
   have p := wp l q3 hl (el l i).n ((el l i).t ++ t) (el l i).kp
   have d := pl l ⟨(el l i).n, (el l i).t ++ t, (el l i).kp⟩ hl
   rw [decide_eq_true (show (1 : Int) = 1 from rfl), cond_true, decide_eq_true (show (el l i).t.size + t.size <= 4611686018427387904 by omega), cond_true, p.1, p.2, cond_true, d.1, d.2, cond_true, fin]
   rfl
  rw [decide_eq_false k1, cond_false, if_neg k1]
  by_cases k2 : k = 2
  ·subst k2
   have p := wp l q3 hl (el l i).n (el l i).t ((el l i).t.size : Int)
   have d := pl l ⟨(el l i).n, (el l i).t, ((el l i).t.size : Int)⟩ hl
   rw [decide_eq_true (show (2 : Int) = 2 from rfl), cond_true, p.1, p.2, cond_true, d.1, d.2, cond_true, fin]
   rfl
  rw [decide_eq_false k2, cond_false, if_neg k2]
  by_cases k3 : k = 3
  ·subst k3
   rw [decide_eq_true (show (3 : Int) = 3 from rfl), cond_true, if_pos rfl]
   by_cases b1 : (el l i).kp = ((el l i).t.size : Int)
   ·rw [show ((el l i).kp != ((el l i).t.size : Int)) = false from by simp [b1], cond_false, Lib.beq_ba]
    by_cases b2 : o = n
    ·rw [decide_eq_true b2, cond_true, if_pos (.inr b2)]; rfl
    ·have p := wp (without l n) (A_Disk.wo_so q3 n) (by omega) o (el l i).t (el l i).kp
     have d := pl (without l n) ⟨o, (el l i).t, (el l i).kp⟩ (by omega)
     rw [decide_eq_false b2, cond_false, wo.1, wo.2, cond_true, p.1, p.2, cond_true, d.1, d.2, cond_true, fin, if_neg (by rintro (h | h); exact h b1; exact b2 h)]
   ·rw [show ((el l i).kp != ((el l i).t.size : Int)) = true from bne_iff_ne.2 b1, cond_true, if_pos (.inl b1)]; rfl
  rw [decide_eq_false k3, cond_false, if_neg k3]
  have d := okc (without l n) (by omega)
  rw [wo.1, wo.2, cond_true, d.1, d.2, cond_true, fin]
end Go.FG.U66

namespace Go.FG.U168
theorem ok (l : Row) (hl : l.length <= 4294967296) : c l = true /\ v l = l := by
 refine out l ?_
 unfold vo b
 rw [show List.length (zeros [Ck.s, Ck.i IntKind.i64, Ck.i IntKind.i64, Ck.s] 0) + l.length = l.length by simp [zeros], Lib.roomy_of (by omega) (by omega)]
 rfl
end Go.FG.U168

namespace Go.FG.U85
theorem ok (l : Row) (k : ByteArray) (hc : l.all U175.cn = true) (hl : l.length <= 4294967296) : c l k = true /\ v l k = l.filter (U175.keep k) := by
 have h1 := U168.ok l hl
 have h2 := U175.ok l k hc hl
 exact out l k (by unfold vo b; rw [h1.1, h1.2, h2.1, h2.2, cond_true, cond_true])
end Go.FG.U85

namespace Go.FG.U69
theorem tw_gen (p q : List CV -> Bool) : ∀ r : Row, (∀ y ∈ r, q y = !p y) -> r.Pairwise (fun y z => p z = true -> p y = true) -> r.takeWhile p = r.filter p /\ r.dropWhile p = r.filter q
 | [], _, _ => ⟨rfl, rfl⟩
 | y :: r, hq, h => by
  rw [List.pairwise_cons] at h
  have hy := hq y (by simp)
  cases hp : p y with
  | true =>
   rw [hp] at hy
   obtain ⟨i1, i2⟩ := tw_gen p q r (fun z hz => hq z (by simp [hz])) h.2
   rw [List.takeWhile_cons_of_pos hp, List.filter_cons_of_pos hp, List.dropWhile_cons_of_pos hp, List.filter_cons_of_neg (by rw [hy]; simp), i1, i2]; exact ⟨rfl, rfl⟩
  | false =>
   rw [hp] at hy
   have hn : ¬ p y = true := by rw [hp]; simp
   have ha : ∀ z ∈ r, p z = false := fun z hz => by
    cases hz2 : p z with
    | false => rfl
    | true => exact absurd (h.1 z hz hz2) hn
   rw [List.takeWhile_cons_of_neg hn, List.filter_cons_of_neg hn, List.dropWhile_cons_of_neg hn, List.filter_cons_of_pos (by rw [hy]; rfl)]
   refine ⟨?_, ?_⟩
   ·symm; rw [List.filter_eq_nil_iff]; intro z hz; rw [ha z hz]; simp
   ·congr 1; symm; rw [List.filter_eq_self]; intro z hz; rw [hq z (by simp [hz]), ha z hz]; rfl
theorem cn_all {r : Row} (h : ∀ y ∈ r, U57.cr y = y) : r.all U175.cn = true := by
 rw [List.all_eq_true]
 intro y hy
 rw [<- h y hy]; rfl
theorem ok (r : Row) (k : ByteArray) (s l : Int) (b0 : ByteArray) (hO : U57.Or r) (hl : r.length <= 1048576) : c r k s l b0 = true /\ v r k s l b0 = U57.val r k s l b0 := by
 refine out r k s l b0 ?_
 have hd := U85.ok r k (cn_all hO.2) (by omega)
 unfold vo b
 rw [hd.1, cond_true, hd.2]
 have hfl : (r.filter (U175.keep k)).length <= r.length := List.length_filter_le _ _
 have hke : ∀ y, U175.keep k y = !List.beq (U57.key y) (ByteArray.toList k) := fun _ => rfl
 have htw := tw_gen (U57.pl k) (U57.pg k) (r.filter (U175.keep k)) (fun y hy => by
  have h2 := (List.mem_filter.1 hy).2
  rw [hke] at h2
  have h3 : List.beq (U57.key y) (ByteArray.toList k) = false := by simpa using h2
  unfold U57.pg U57.pl
  rw [h3, Bool.or_false]) ((hO.1.sublist List.filter_sublist).imp (fun {y z} hyz hz => U57.bl_trans _ _ _ hyz hz))
 have e1 : (r.filter (U175.keep k)).filter (U57.pl k) = r.filter (U57.pl k) := by
  rw [List.filter_filter]
  apply List.filter_congr
  intro y _
  cases h : U57.pl k y with
  | false => rfl
  | true =>
   rw [hke, Bool.true_and]
   cases h2 : List.beq (U57.key y) (ByteArray.toList k) with
   | false => rfl
   | true =>
    exfalso
    have h3 := Lib.beq_iff.1 h2
    unfold U57.pl at h
    rw [h3, U57.bl_irrefl] at h; cases h
 have e2 : (r.filter (U175.keep k)).filter (U57.pg k) = r.filter (U57.pg k) := by
  rw [List.filter_filter]
  apply List.filter_congr
  intro y _
  rw [hke]
  unfold U57.pg
  cases List.beq (U57.key y) (ByteArray.toList k) <;> cases Go.Op.bytesLess (U57.key y) (ByteArray.toList k) <;> rfl
 generalize r.filter (U175.keep k) = o at hfl htw e1 e2
 have := Lib.stop_run (U57.pl k) o (fun m (i : Nat) => l3 Lib.big (fun (y6 : Int) (y7 : ByteArray) (y8 y9 : Int) (y10 : ByteArray) (y11 : Row) => bif (decide (0 <= y6) && decide (y6 <= (↑(List.length y11) : Int)) && roomy (List.length y11 + List.length (List.set (zeros [Ck.s, Ck.i IntKind.i64, Ck.i IntKind.i64, Ck.s] 1) 0 [CV.s y7, CV.i IntKind.i64 y8, CV.i IntKind.i64 y9, CV.s y10])) 48) then (some (Pu.insR y11 (Int.toNat y6) (List.set (zeros [Ck.s, Ck.i IntKind.i64, Ck.i IntKind.i64, Ck.s] 1) 0 [CV.s y7, CV.i IntKind.i64 y8, CV.i IntKind.i64 y9, CV.s y10]))) else (none)) m (i : Int) k s l b0 o)
  (fun a => bif decide ((a : Int) <= (o.length : Int)) then some (Pu.insR o a [U57.nw k s l b0]) else none)
  (fun m i h hp => by
   have hp' : Go.Op.bytesLess (ByteArray.toList (cvS (cellAt o i 0))) (ByteArray.toList k) = true := by rw [Lib.cellAt_of h]; exact hp
   simp only [l3, r3, Lib.dlt, h, decide_true, Lib.dle0, Bool.and_self, cond_true, Lib.toN, hp', Lib.w64_s h (by omega : o.length <= 9223372036854775807)])
  (fun m i h hp => by
   have hp' : Go.Op.bytesLess (ByteArray.toList (cvS (cellAt o i 0))) (ByteArray.toList k) = false := by rw [Lib.cellAt_of h]; exact hp
   simp only [l3, r3, Lib.dlt, h, decide_true, Lib.dle0, Bool.and_self, Bool.true_and, Bool.and_true, cond_true, cond_false, Lib.toN, hp', Lib.len_set1, List.length_singleton, Lib.roomy_of (n := o.length + 1) (b := 48) (by omega) (by omega)]
   rfl)
  (fun m => by
   simp only [l3, r3, Lib.dlt, Nat.lt_irrefl, decide_false, decide_true, Lib.dle0, Bool.and_self, Bool.true_and, Bool.and_true, cond_true, cond_false, Lib.toN, Lib.len_set1, List.length_singleton, Lib.roomy_of (n := o.length + 1) (b := 48) (by omega) (by omega)]
   rfl) Lib.big (Lib.lt_big (by omega))
 refine this.trans ?_
 have hle := Lib.tw_le (U57.pl k) o
 rw [decide_eq_true (by omega), cond_true]
 unfold Pu.insR U57.val
 rw [Lib.take_tw, Lib.drop_tw, htw.1, htw.2, e1, e2, U57.map_cr hO.2, U57.map_cr hO.2]
end Go.FG.U69

namespace Go.FG.U62
theorem ok (d : Row) (n : ByteArray) (hl : d.length <= 4294967296) : c d n = true /\ v d n = U54.val d n := by
 refine out d n ?_
 have h := U148.ok d n hl
 unfold vo b U54.val
 rw [h.1, h.2, cond_true]
 by_cases hn : Lib.fi (U143.p d n) d.length 0 < 0
 ·rw [decide_eq_true hn, if_pos hn]; rfl
 ·have hr := U54.rng d n hn
  rw [decide_eq_false hn, if_neg hn, cond_false, decide_eq_true hr.1, decide_eq_true hr.2]; rfl
end Go.FG.U62

namespace Go.FG.U13
def nm : ByteArray := { data := #[UInt8.ofNat 107, UInt8.ofNat 101, UInt8.ofNat 112, UInt8.ofNat 116] }
theorem both (rec : Row) (hr : rec.length <= 20000) : ∀ (d i : Nat) (o : Row) (n m : Nat), rec.length - i <= d -> i <= rec.length -> U57.Or o -> o.length <= i -> d < n -> d < m ->
  ∃ L : Row, U20.l7 Lib.big (fun (_ _ : Int) (y6 : Row) (_ : Row) => some y6) n (rec.length : Int) (i : Int) o rec = some L /\ l7 Lib.big (fun (_ : Int) (y4 _ : Row) => some y4) m (i : Int) o rec = some L /\ U57.Or L /\ L.length <= 20000 := by
 have e1 : ∀ t, U68.v t = U56.v t := fun _ => rfl
 intro d
 induction d with
 | zero =>
  intro i o n m h1 h2 hO h3 h4 h5
  obtain ⟨n, rfl⟩ : ∃ n', n = n' + 1 := ⟨n - 1, by omega⟩
  obtain ⟨m, rfl⟩ : ∃ m', m = m' + 1 := ⟨m - 1, by omega⟩
  have hlt : decide ((i : Int) < (rec.length : Int)) = false := decide_eq_false (by omega)
  exact ⟨o, by simp only [U20.l7, U20.r7, hlt, cond_false], by simp only [l7, r7, hlt, cond_false], hO, by omega⟩
 | succ d ih =>
  intro i o n m h1 h2 hO h3 h4 h5
  obtain ⟨n, rfl⟩ : ∃ n', n = n' + 1 := ⟨n - 1, by omega⟩
  obtain ⟨m, rfl⟩ : ∃ m', m = m' + 1 := ⟨m - 1, by omega⟩
  by_cases hi : i < rec.length
  ·have hw : w64 ((i : Int) + 1) = ((i + 1 : Nat) : Int) := Lib.w64_ok (by omega) (by omega)
   cases hok : (U56.v (cvS (cellAt rec i 0))).2.2.2.2 with
   | false =>
    obtain ⟨L, g1, g2, g3, g4⟩ := ih (i + 1) o n m (by omega) hi hO (by omega) (by omega) (by omega)
    refine ⟨L, ?_, ?_, g3, g4⟩
    ·simp only [U20.l7, U20.r7, Lib.dlt, hi, decide_true, Lib.dle0, Bool.and_self, cond_true, Lib.toN, e1, hok, cond_false, hw]; exact g1
    ·simp only [l7, r7, Lib.dlt, hi, decide_true, Lib.dle0, Bool.and_self, cond_true, Lib.toN, hok, cond_false, hw]; exact g2
   | true =>
    have p1 := U57.ok o (U56.v (cvS (cellAt rec i 0))).1 (U56.v (cvS (cellAt rec i 0))).2.1 (U56.v (cvS (cellAt rec i 0))).2.2.1 (U56.v (cvS (cellAt rec i 0))).2.2.2.1 (by omega)
    have p2 := U69.ok o (U56.v (cvS (cellAt rec i 0))).1 (U56.v (cvS (cellAt rec i 0))).2.1 (U56.v (cvS (cellAt rec i 0))).2.2.1 (U56.v (cvS (cellAt rec i 0))).2.2.2.1 hO (by omega)
    have p3 := U57.keep_or hO (U56.v (cvS (cellAt rec i 0))).1 (U56.v (cvS (cellAt rec i 0))).2.1 (U56.v (cvS (cellAt rec i 0))).2.2.1 (U56.v (cvS (cellAt rec i 0))).2.2.2.1
    obtain ⟨L, g1, g2, g3, g4⟩ := ih (i + 1) _ n m (by omega) hi p3.1 (by omega) (by omega) (by omega)
    refine ⟨L, ?_, ?_, g3, g4⟩
    ·simp only [U20.l7, U20.r7, Lib.dlt, hi, decide_true, Lib.dle0, Bool.and_self, cond_true, Lib.toN, e1, hok, p2.1, p2.2, hw]; exact g1
    ·simp only [l7, r7, Lib.dlt, hi, decide_true, Lib.dle0, Bool.and_self, cond_true, Lib.toN, hok, p1.1, p1.2, hw]; exact g2
  ·have hlt : decide ((i : Int) < (rec.length : Int)) = false := decide_eq_false (by omega)
   exact ⟨o, by simp only [U20.l7, U20.r7, hlt, cond_false], by simp only [l7, r7, hlt, cond_false], hO, by omega⟩
theorem same (d : Row) (hd : d.length <= 1048576) : ∃ L : Row, (c d = true /\ v d = L) /\ (U20.c d = true /\ U20.v d = L) /\ (∀ y ∈ L, y.length = 4) /\ L.length <= 20000 := by
 have k1 := U53.ok d (by omega)
 have k2 := U60.ok d (by omega)
 cases hv : U53.val d with
 | false =>
  refine ⟨[], out d ?_, U20.out d ?_, fun y hy => (by cases hy), Nat.zero_le _⟩
  ·unfold vo b; rw [k1.1, k1.2, hv]; rfl
  ·unfold U20.vo U20.b; rw [k2.1, k2.2, hv]; rfl
 | true =>
  have k3 := U54.ok d nm (by omega)
  have k4 := U62.ok d nm (by omega)
  obtain ⟨R, u1, u2, u3⟩ := U55.same (U54.val d nm).1
  obtain ⟨L, g1, g2, g3, g4⟩ := both R.1 u3 R.1.length 0 [] Lib.big Lib.big (by omega) (Nat.zero_le _) ⟨List.Pairwise.nil, fun y hy => (by cases hy)⟩ (Nat.zero_le _) (Lib.lt_big (by omega)) (Lib.lt_big (by omega))
  refine ⟨L, out d ?_, U20.out d ?_, fun y hy => (by rw [<- g3.2 y hy]; rfl), g4⟩
  ·unfold nm at k3 u1
   unfold vo b
   rw [k1.1, k1.2, hv, cond_true, Bool.not_true, cond_false, k3.1, cond_true, k3.2, u1.1, cond_true, u1.2]; exact g2
  ·unfold nm at k4 u2
   unfold U20.vo U20.b
   rw [k2.1, k2.2, hv, cond_true, Bool.not_true, cond_false, k4.1, cond_true, k4.2, u2.1, cond_true, u2.2]; exact g1
end Go.FG.U13

namespace Go.FG.U43
def kept : ByteArray := { data := #[UInt8.ofNat 107, UInt8.ofNat 101, UInt8.ofNat 112, UInt8.ofNat 116] }
def acts (f : ByteArray) : Row := [[CV.i IntKind.i64 1, CV.s kept, CV.s f, CV.s { data := #[] }], [CV.i IntKind.i64 2, CV.s kept, CV.s { data := #[] }, CV.s { data := #[] }]]
def val (k : ByteArray) (s l : Int) (b : ByteArray) : Row × Bool := if U149.v k s l b = true then (acts (U64.fr (U63.txt k s l b)), true) else ([], false)
end Go.FG.U43

namespace Go.FG.A_Kd
open Lib (rd re rs el Fi En)
open A_Disk (okD okD_iff act acts nxt put without ra Ac fOk)
open A_En (So putE lessK)
open A_Un (fs Stop)
abbrev nmK : ByteArray := { data := #[UInt8.ofNat 107, UInt8.ofNat 101, UInt8.ofNat 112, UInt8.ofNat 116] }
def txt (e : En) : ByteArray := U63.txt e.k e.st e.li e.bo
def eok (e : En) : Bool := U149.v e.k e.st e.li e.bo
def frm (e : En) : ByteArray := U64.fr (txt e)
def tx (es : List En) : ByteArray := fs (es.map txt)
def kp (es : List En) : List En := es.foldl putE []
theorem fs_app (a b : List ByteArray) : fs (a ++ b) = fs a ++ fs b := by
 induction a with
 | nil => exact ByteArray.empty_append.symm
 | cons x a ih =>
  rw [List.cons_append]
  show U64.fr x ++ fs (a ++ b) = U64.fr x ++ fs a ++ fs b
  rw [ih, ByteArray.append_assoc]
theorem tx_snoc (es : List En) (e : En) : tx (es ++ [e]) = tx es ++ frm e := by
 unfold tx
 rw [List.map_append, fs_app]
 show fs (es.map txt) ++ (U64.fr (txt e) ++ ⟨#[]⟩) = _
 rw [show (⟨#[]⟩ : ByteArray) = ByteArray.empty from rfl, ByteArray.append_empty]; rfl
theorem txt_rng {e : En} (h : eok e = true) : 1 <= (txt e).size /\ (txt e).size <= 1000 := ⟨U61.txt_pos h, U61.txt_size h⟩
theorem frm_rng {e : En} (h : eok e = true) : (frm e).size <= 1068 := by
 have := txt_rng h
 have := U64.fr_size (t := txt e) (by omega)
 unfold frm; omega
theorem tx_len (es : List En) (h : ∀ e ∈ es, eok e = true) : (tx es).size <= 1068 * es.length := by
 induction es with
 | nil => exact Nat.le_refl _
 | cons e es ih =>
  have h1 := frm_rng (h e (by simp))
  have h2 := ih fun x hx => h x (by simp [hx])
  have : (tx (e :: es)).size = (frm e).size + (tx es).size := ByteArray.size_append
  rw [this, List.length_cons]; omega
theorem so_put {en : List En} (h : So en) (e : En) : So (putE en e) := by
 have := (U57.keep_or (A_En.or_re h) e.k e.st e.li e.bo).1.1
 rw [A_En.put_re] at this
 unfold Lib.re at this
 rw [List.pairwise_map] at this
 exact this
theorem so_fold (es : List En) : ∀ o, So o -> So (es.foldl putE o) := by
 induction es with
 | nil => intro o h; exact h
 | cons e es ih => intro o h; exact ih _ (so_put h e)
theorem kp_so (es : List En) : So (kp es) := so_fold es [] List.Pairwise.nil
theorem put_mem {en : List En} {x e : En} : x ∈ putE en e ↔ x = e \/ (x ∈ en /\ x.k ≠ e.k) := by
 unfold putE
 simp only [List.mem_append, List.mem_filter, List.mem_singleton, Bool.not_eq_true', Bool.or_eq_false_iff, decide_eq_false_iff_not]
 constructor
 ·rintro ((⟨h1, h2⟩ | rfl) | ⟨h1, h2⟩)
  ·refine .inr ⟨h1, fun e2 => ?_⟩
   rw [e2] at h2; unfold lessK at h2; rw [U57.bl_irrefl] at h2; cases h2
  ·exact .inl rfl
  ·exact .inr ⟨h1, h2.2⟩
 ·rintro (rfl | ⟨h1, h2⟩)
  ·exact .inl (.inr rfl)
  ·cases hl : lessK x.k e.k with
   | true => exact .inl (.inl ⟨h1, rfl⟩)
   | false => exact .inr ⟨h1, rfl, h2⟩
theorem kp_mem {es : List En} {x : En} (h : x ∈ kp es) : x ∈ es := by
 have : ∀ (es o : List En), x ∈ es.foldl putE o -> x ∈ o \/ x ∈ es := by
  intro es
  induction es with
  | nil => intro o h; exact .inl h
  | cons e es ih =>
   intro o h
   rcases ih _ h with h | h
   ·rcases put_mem.1 h with rfl | h
    ·exact .inr (by simp)
    ·exact .inl h.1
   ·exact .inr (by simp [h])
 rcases this es [] h with h | h
 ·cases h
 ·exact h
theorem kp_len (es : List En) : (kp es).length <= es.length := by
 have : ∀ (es o : List En), So o -> (es.foldl putE o).length <= o.length + es.length := by
  intro es
  induction es with
  | nil => intro o h; exact Nat.le_refl _
  | cons e es ih =>
   intro o h
   have := ih _ (so_put h e)
   have := A_En.put_len o e h
   simp only [List.foldl_cons, List.length_cons]; omega
 have := this es [] List.Pairwise.nil
 rw [List.length_nil, Nat.zero_add] at this
 exact this
theorem fileAt (d : List Fi) (n : ByteArray) : U54.val (rd d) n = match d.find? (fun x => decide (x.n = n)) with | some f => (f.t, true) | none => (⟨#[]⟩, false) := by
 unfold U54.val
 rw [Lib.rd_len]
 rcases U66.find d n with ⟨e1, e2⟩ | ⟨i, hi, e1, e2⟩
 ·rw [e1, e2]; rfl
 ·rw [e1, e2, if_neg (by omega), Int.toNat_natCast, Lib.wd1 hi]; rfl
theorem recs (es : List En) (he : ∀ e ∈ es, eok e = true) (hl : es.length <= 20000) : ∀ (d i n : Nat) (o : List En), es.length - i <= d -> i <= es.length -> So o -> o.length <= i -> d < n ->
  U20.l7 Lib.big (fun (_ _ : Int) (y6 : Row) (_ : Row) => some y6) n (es.length : Int) (i : Int) (re o) (rs (es.map txt)) = some (re ((es.drop i).foldl putE o)) := by
 have e1 : ∀ t, U68.v t = U56.v t := fun _ => rfl
 intro d
 induction d with
 | zero =>
  intro i n o h1 h2 hO h3 h5
  obtain ⟨n, rfl⟩ : ∃ n', n = n' + 1 := ⟨n - 1, by omega⟩
  have : i = es.length := by omega
  subst this
  simp only [U20.l7, U20.r7, Lib.dlt, Nat.lt_irrefl, decide_false, cond_false, List.drop_length, List.foldl_nil]
 | succ d ih =>
  intro i n o h1 h2 hO h3 h5
  obtain ⟨n, rfl⟩ : ∃ n', n = n' + 1 := ⟨n - 1, by omega⟩
  by_cases hi : i < es.length
  ·have hi2 : i < (es.map txt).length := by simpa using hi
   have hk := he _ (List.getElem_mem hi)
   have hr : U56.v (txt es[i]) = (es[i].k, es[i].st, es[i].li, es[i].bo, true) := U56.enc _ _ _ _ hk
   have hp := U69.ok (re o) es[i].k es[i].st es[i].li es[i].bo (A_En.or_re hO) (by rw [Lib.re_len]; omega)
   rw [A_En.put_re o es[i]] at hp
   have hg : (es.map txt)[i] = txt es[i] := by simp
   simp only [U20.l7, U20.r7, Lib.dlt, hi, Lib.rs_len, List.length_map, decide_true, Lib.dle0, Bool.and_self, cond_true, Lib.toN, Lib.rs0 hi2, hg, cvS, e1, hr, hp.1, hp.2, Lib.w64_s hi (by omega : es.length <= 9223372036854775807)]
   rw [List.drop_eq_getElem_cons hi, List.foldl_cons]
   exact ih (i + 1) n _ (by omega) hi (so_put hO _) (by have := A_En.put_len o es[i] hO; omega) (by omega)
  ·have : i = es.length := by omega
   subst this
   simp only [U20.l7, U20.r7, Lib.dlt, Nat.lt_irrefl, decide_false, cond_false, List.drop_length, List.foldl_nil]
theorem fk (d : List Fi) (es : List En) (z : ByteArray) (hd : okD d = true) (hf : (U54.val (rd d) nmK).1 = tx es ++ z) (he : ∀ e ∈ es, eok e = true) (hz : Stop z) :
  (U20.c (rd d) = true /\ U20.v (rd d) = re (kp es)) /\ (U13.c (rd d) = true /\ U13.v (rd d) = re (kp es)) := by
 obtain ⟨q1, q2, q3⟩ := okD_iff.1 hd
 have hs : (tx es ++ z).size <= 20000 := by
  rw [<- hf, fileAt]
  cases h : d.find? (fun x => decide (x.n = nmK)) with
  | none => exact Nat.zero_le _
  | some f =>
   have := q2 f (List.mem_of_find?_eq_some h)
   unfold fOk at this
   simp only [Bool.and_eq_true, decide_eq_true_eq, Bool.not_eq_true', decide_eq_false_iff_not] at this
   show f.t.size <= 20000
   omega
 have hl : es.length <= 20000 := by
  have : ∀ es : List En, es.length <= (tx es).size := by
   intro es
   induction es with
   | nil => exact Nat.le_refl _
   | cons e es ih =>
    have : (tx (e :: es)).size = (frm e).size + (tx es).size := ByteArray.size_append
    have h2 : 4 <= (frm e).size := by
     unfold frm U64.fr
     rw [ByteArray.size_append, ByteArray.size_append, A_Un.four_size]; omega
    rw [this, List.length_cons]; omega
  have h2 := this es
  rw [ByteArray.size_append] at hs
  omega
 have u := A_Un.ok (es.map txt) (fun x hx => by
  obtain ⟨e, h, rfl⟩ := List.mem_map.1 hx
  have := txt_rng (he e h)
  omega) z hz hs
 have k2 := U66.okc d (by omega)
 have k4 := U62.ok (rd d) nmK (by rw [Lib.rd_len]; omega)
 have h1 := U20.out (rd d) (x := re (kp es)) (by
  unfold U20.vo U20.b
  rw [k2.1, k2.2, hd, cond_true, Bool.not_true, cond_false, k4.1, cond_true, k4.2, hf]
  have hu := u.1
  rw [show fs (es.map txt) = tx es from rfl] at hu
  rw [hu.1, cond_true, hu.2]
  dsimp only
  rw [Lib.rs_len, List.length_map]
  have := recs es he hl es.length 0 Lib.big [] (by omega) (Nat.zero_le _) List.Pairwise.nil (Nat.zero_le _) (Lib.lt_big (by omega))
  rw [List.drop_zero] at this
  exact this)
 obtain ⟨L, s1, s2, _⟩ := U13.same (rd d) (by rw [Lib.rd_len]; omega)
 refine ⟨h1, s1.1, ?_⟩
 rw [s1.2, <- s2.2, h1.2]
def base : Option ByteArray -> List Fi
 | none => [] | some t => [⟨nmK, t, t.size⟩]
def bt : Option ByteArray -> ByteArray | none => ⟨#[]⟩ | some t => t
def keepA (f : ByteArray) : List Ac := [⟨1, nmK, f, ⟨#[]⟩⟩, ⟨2, nmK, ⟨#[]⟩, ⟨#[]⟩⟩]
theorem ok1 (f : Fi) : okD [f] = fOk f := by
 cases h : fOk f with
 | true => exact okD_iff.2 ⟨by simp, fun g hg => by rw [List.mem_singleton.1 hg]; exact h, by unfold A_Disk.SoD; simp⟩
 | false =>
  cases h2 : okD [f] with
  | false => rfl
  | true => have := (okD_iff.1 h2).2.1 f (by simp); rw [h] at this; cases this
theorem fokK (t : ByteArray) (k : Int) (h1 : t.size <= 20000) (h2 : 0 <= k /\ k <= (t.size : Int)) : fOk ⟨nmK, t, k⟩ = true := by
 unfold fOk
 have : ((nmK.size : Nat) : Int) = 4 := rfl
 rw [this, decide_eq_true (by omega), decide_eq_true h2, decide_eq_false (by dsimp only; omega)]; rfl
theorem base_ok {o : Option ByteArray} (h : (bt o).size <= 20000) : okD (base o) = true := by
 cases o with
 | none => exact okD_iff.2 ⟨Nat.zero_le _, ⟨fun f hf => (by cases hf), List.Pairwise.nil⟩⟩
 | some t => exact (ok1 _).trans (fokK t _ h ⟨by omega, by omega⟩)
theorem put_same {g f : Fi} (h : g.n = f.n) : put [g] f = [f] := by
 unfold put
 rw [List.filter_cons_of_neg (by rw [h, A_Disk.irrefl]; simp), List.filter_cons_of_neg (by simp [h])]; rfl
theorem add_ok {o : Option ByteArray} {f : ByteArray} (h : (bt o).size + f.size <= 20000) : act (base o) 1 nmK f ⟨#[]⟩ = some [⟨nmK, bt o ++ f, (bt o).size⟩] := by
 unfold act
 rw [base_ok (by omega), show A_Disk.actOk 1 f ⟨#[]⟩ = true from by unfold A_Disk.actOk; simp, Bool.and_self, cond_true]
 have hs : (bt o ++ f).size <= 20000 := by rw [ByteArray.size_append]; omega
 have hn : nxt (base o) 1 nmK f ⟨#[]⟩ = some [⟨nmK, bt o ++ f, (bt o).size⟩] := by
  cases o with
  | none =>
   unfold nxt
   show (if (1 : Int) = 1 then some (put [] ⟨nmK, f, 0⟩) else none) = _
   rw [if_pos rfl]
   show some [(⟨nmK, f, 0⟩ : Fi)] = some [⟨nmK, (⟨#[]⟩ : ByteArray) ++ f, ((⟨#[]⟩ : ByteArray).size : Int)⟩]
   rw [show (⟨#[]⟩ : ByteArray) ++ f = f from ByteArray.empty_append]; rfl
  | some t =>
   unfold nxt
   rw [show (base (some t)).find? (fun x => decide (x.n = nmK)) = some ⟨nmK, t, t.size⟩ from by unfold base; simp]
   dsimp only
   rw [if_pos rfl]
   exact congrArg some (put_same rfl)
 rw [hn]
 dsimp only
 rw [ok1, fokK _ _ hs ⟨by omega, by rw [ByteArray.size_append]; omega⟩]; rfl
theorem keep_ok {t : ByteArray} {k : Int} (h : t.size <= 20000) (hk : 0 <= k /\ k <= (t.size : Int)) : act [⟨nmK, t, k⟩] 2 nmK ⟨#[]⟩ ⟨#[]⟩ = some (base (some t)) := by
 unfold act
 rw [ok1, fokK _ _ h hk, show A_Disk.actOk 2 ⟨#[]⟩ ⟨#[]⟩ = true from by unfold A_Disk.actOk; simp, Bool.and_self, cond_true]
 have hn : nxt [⟨nmK, t, k⟩] 2 nmK ⟨#[]⟩ ⟨#[]⟩ = some (base (some t)) := by
  unfold nxt
  rw [show ([⟨nmK, t, k⟩] : List Fi).find? (fun x => decide (x.n = nmK)) = some ⟨nmK, t, k⟩ from by simp]
  dsimp only
  rw [if_neg (by omega), if_pos rfl]
  exact congrArg some (put_same rfl)
 rw [hn]
 dsimp only
 rw [base_ok (o := some t) h]; rfl
theorem keepA_ok {o : Option ByteArray} {f : ByteArray} (h : (bt o).size + f.size <= 20000) : acts (base o) 0 (keepA f) = (base (some (bt o ++ f)), 2) := by
 have hs : (bt o ++ f).size = (bt o).size + f.size := ByteArray.size_append
 unfold keepA acts
 dsimp only
 rw [add_ok h]
 dsimp only
 unfold acts
 dsimp only
 rw [keep_ok (by omega) ⟨by omega, by omega⟩]; rfl
theorem base_file (o : Option ByteArray) : (U54.val (rd (base o)) nmK).1 = bt o := by
 rw [fileAt]
 cases o with
 | none => rfl
 | some t => rw [show (base (some t)).find? (fun x => decide (x.n = nmK)) = some ⟨nmK, t, t.size⟩ from by unfold base; simp]; rfl
def kd (es : List En) : List Fi := base (match es with | [] => none | _ => some (tx es))
theorem kd_o (es : List En) : ∃ o, kd es = base o /\ bt o = tx es := by
 cases es with
 | nil => exact ⟨none, rfl, rfl⟩
 | cons e es => exact ⟨some (tx (e :: es)), rfl, rfl⟩
theorem kd_snoc (es : List En) (e : En) : base (some (tx es ++ frm e)) = kd (es ++ [e]) := by
 rw [<- tx_snoc]
 unfold kd
 cases es <;> rfl
theorem kd_keep {es : List En} {e : En} (h : (tx es).size + (frm e).size <= 20000) : acts (kd es) 0 (keepA (frm e)) = (kd (es ++ [e]), 2) := by
 obtain ⟨o, h1, h2⟩ := kd_o es
 rw [h1, keepA_ok (by rw [h2]; exact h), h2, kd_snoc]
theorem kd_ok {es : List En} (h : (tx es).size <= 20000) : okD (kd es) = true := by
 obtain ⟨o, h1, h2⟩ := kd_o es
 rw [h1]; exact base_ok (by rw [h2]; exact h)
theorem kd_len (es : List En) : (kd es).length <= 1 := by cases es <;> simp [kd, base]
theorem kd_fk {es : List En} (h : (tx es).size <= 20000) (he : ∀ e ∈ es, eok e = true) : (U20.c (rd (kd es)) = true /\ U20.v (rd (kd es)) = re (kp es)) /\ (U13.c (rd (kd es)) = true /\ U13.v (rd (kd es)) = re (kp es)) := by
 obtain ⟨o, h1, h2⟩ := kd_o es
 refine fk (kd es) es ⟨#[]⟩ (kd_ok h) ?_ he (.inl rfl)
 rw [h1, base_file, h2]
 exact (ByteArray.append_empty).symm
theorem keepA_row (f : ByteArray) : ra (keepA f) = U43.acts f := rfl
end Go.FG.A_Kd

namespace Go.FG.U71
open Lib (rd el Fi)
open A_Disk (okD okD_iff)
def kN (left : Row) (i : Nat) (f : Fi) : Int := bif decide (i < left.length) then minmax true f.kp (minmax false (cvI (cellAt left i 0)) (f.t.size : Int)) else f.kp
def cutF (left : Row) (i : Nat) (f : Fi) : Fi := ⟨f.n, f.t.extract 0 (kN left i f).toNat, kN left i f⟩
def lose (d : List Fi) (left : Row) : Option (List Fi) := bif okD d then some (d.mapIdx (cutF left)) else none
theorem kN_rng (left : Row) (i : Nat) {f : Fi} (h : 0 <= f.kp /\ f.kp <= (f.t.size : Int)) : f.kp <= kN left i f /\ kN left i f <= (f.t.size : Int) := by
 unfold kN minmax
 cases decide (i < left.length) with
 | false => rw [cond_false]; omega
 | true =>
  simp only [cond_true, cond_false]
  split <;> split <;> omega
theorem ok (d : List Fi) (left : Row) (hd : d.length <= 1000) : c (rd d) left = true /\ v (rd d) left = U66.res (lose d left) := by
 refine out _ _ ?_
 unfold vo b lose
 have h1 := U66.okc d (by omega)
 have h2 := U65.ok (rd d) (by rw [Lib.rd_len]; omega)
 rw [h1.1, h1.2, cond_true]
 cases hk : okD d with
 | false => rfl
 | true =>
 rw [Bool.not_true, cond_false, h2.1, h2.2, cond_true, cond_true, Lib.rd_len]
 obtain ⟨q1, q2, q3⟩ := okD_iff.1 hk
 have rn : ∀ f ∈ d, 0 <= f.kp /\ f.kp <= (f.t.size : Int) := fun f hf => by
  have := q2 f hf
  unfold A_Disk.fOk at this
  simp only [Bool.and_eq_true, decide_eq_true_eq, Bool.not_eq_true', decide_eq_false_iff_not] at this
  exact this.2.2
 refine Lib.upd_run Fi.row d (cutF left) (fun m (i : Nat) (x : Row) => l5 Lib.big (fun (_ _ : Row) (_ _ : Int) (y9 : Row) => some (y9, true)) m left (rd d) (d.length : Int) (i : Int) x) (fun x => some (x, true)) (fun m i L h h2 hl he => ?_) (fun m L hl => ?_) Lib.big (Lib.lt_big (by omega))
 ·have hr := kN_rng left i (rn _ (List.getElem_mem h))
  have h0 := (rn _ (List.getElem_mem h)).1
  have hLl : (L.map Fi.row).length = L.length := List.length_map ..
  have hs : ∀ n : Int, n = kN left i d[i] -> setC (L.map Fi.row) i 0 [CV.s d[i].n, CV.s (d[i].t.extract (Int.toNat 0) n.toNat), CV.i IntKind.i64 n] = (L.set i (cutF left i d[i])).map Fi.row := fun n hn => by
   subst hn
   exact Lib.setC_map Fi.row L i 0 _ (cutF left i d[i]) h2 (by rw [he]; rfl)
  have ci : ∀ k n, cvI (CV.i k n) = n := fun _ _ => rfl
  have cs : ∀ x, cvS (CV.s x) = x := fun _ => rfl
  by_cases hi : i < left.length
  ·have e : kN left i d[i] = minmax true d[i].kp (minmax false (cvI (cellAt left i 0)) (d[i].t.size : Int)) := by unfold kN; rw [decide_eq_true hi]; rfl
   have ib : inB 0 (minmax true d[i].kp (minmax false (cvI (cellAt left i 0)) (d[i].t.size : Int))) (d[i].t.size : Int) = true := by rw [<- e]; simp [inB]; omega
   simp only [l5, r5, Lib.dlt, h, hi, h2, hLl, Lib.rd_len, decide_true, Lib.dle0, Bool.and_self, cond_true, Lib.toN, Lib.rd0 h, Lib.rd1 h, Lib.rd2 h, cs, ci, ib, hs _ e.symm, Lib.w64_s h (by omega : d.length <= 9223372036854775807)]
  ·have e : kN left i d[i] = d[i].kp := by unfold kN; rw [decide_eq_false hi]; rfl
   have ib : inB 0 d[i].kp (d[i].t.size : Int) = true := by have := rn _ (List.getElem_mem h); simp [inB]; omega
   simp only [l5, r5, Lib.dlt, h, hi, h2, hLl, Lib.rd_len, decide_true, decide_false, Lib.dle0, Bool.and_self, cond_true, cond_false, Lib.toN, Lib.rd0 h, Lib.rd1 h, Lib.rd2 h, cs, ci, ib, hs _ e.symm, Lib.w64_s h (by omega : d.length <= 9223372036854775807)]
 ·simp only [l5, r5, Lib.dlt, Nat.lt_irrefl, decide_false, cond_false]
end Go.FG.U71

namespace Go.FG.U17
open Lib (rd el Fi)
open A_Disk (acts act ra Ac wa0 wa1 wa2 wa3 ra_len act_len)
theorem ok (l : List Fi) (a : List Ac) (hl : l.length <= 1000) (ha : a.length <= 1000000) (ht : ∀ x ∈ a, x.t.size <= 2305843009213693952) : c (rd l) (ra a) = true /\ v (rd l) (ra a) = (rd (acts l 0 a).1, ((acts l 0 a).2 : Int)) := by
 refine out _ _ ?_
 unfold vo b
 have h1 := U65.ok (rd l) (by rw [Lib.rd_len]; omega)
 rw [h1.1, h1.2, cond_true, ra_len]
 have key : ∀ (d i n : Nat) (l : List Fi), a.length - i <= d -> i <= a.length -> l.length <= 1000 -> d < n ->
   l3 Lib.big (fun (_ : Row) (y7 : Int) (_ : Row) (_ _ : Int) (y11 : Row) => some (y11, y7)) (fun (y12 : Row) (_ : Int) (_ : Row) (_ _ : Int) (y17 : Row) => some (y17, (↑(List.length y12) : Int))) n (ra a) 0 (ra a) (a.length : Int) (i : Int) (rd l) = some (rd (acts l i (a.drop i)).1, ((acts l i (a.drop i)).2 : Int)) := by
  intro d
  induction d with
  | zero =>
   intro i n l e1 e2 e3 e4
   obtain ⟨n, rfl⟩ : ∃ n', n = n' + 1 := ⟨n - 1, by omega⟩
   have : i = a.length := by omega
   subst this
   simp only [l3, r3, Lib.dlt, Nat.lt_irrefl, decide_false, cond_false, ra_len, List.drop_length, acts]
  | succ d ih =>
   intro i n l e1 e2 e3 e4
   obtain ⟨n, rfl⟩ : ∃ n', n = n' + 1 := ⟨n - 1, by omega⟩
   by_cases hi : i < a.length
   ·have hd := U66.ok l (el a i).k (el a i).n (el a i).t (el a i).o e3 (ht _ (Lib.el_mem hi))
    simp only [l3, r3, Lib.dlt, ra_len, hi, decide_true, Lib.dle0, Bool.and_self, cond_true, Lib.toN, wa0 hi, wa1 hi, wa2 hi, wa3 hi, cvS, cvI, hd.1, hd.2, Lib.w64_s hi (by omega : a.length <= 9223372036854775807)]
    rw [List.drop_eq_getElem_cons hi, <- Lib.el_eq hi]
    unfold acts
    cases hac : act l (el a i).k (el a i).n (el a i).t (el a i).o with
    | none => rfl
    | some e =>
     have := (act_len hac).2
     exact ih (i + 1) n e (by omega) hi (by omega) (by omega)
   ·have : i = a.length := by omega
    subst this
    simp only [l3, r3, Lib.dlt, Nat.lt_irrefl, decide_false, cond_false, ra_len, List.drop_length, acts]
 exact key a.length 0 Lib.big l (by omega) (Nat.zero_le _) hl (Lib.lt_big (by omega))
end Go.FG.U17

namespace Go.FG.U21
open Lib (rd el Fi)
open A_Disk (acts ra Ac)
open U71 (lose)
open U66 (res)
def cutA (l : List Fi) (a : List Ac) (w : Nat) (left : Row) : Option (List Fi) := if (acts l 0 (a.take w)).2 < w then none else lose (acts l 0 (a.take w)).1 left
theorem acts_len (a : List Ac) : ∀ (l : List Fi) (i : Nat), l.length <= 1000 -> (acts l i a).1.length <= 1000 := by
 induction a with
 | nil => intro l i h; exact h
 | cons a r ih =>
  intro l i h
  unfold acts
  cases he : A_Disk.act l a.k a.n a.t a.o with
  | none => exact h
  | some d => exact ih d _ (by have := (A_Disk.act_len he).2; omega)
theorem ok (l : List Fi) (a : List Ac) (w : Nat) (left : Row) (hl : l.length <= 1000) (ha : a.length <= 1000000) (ht : ∀ x ∈ a, x.t.size <= 2305843009213693952) (hw : w <= a.length) : c (rd l) (ra a) (w : Int) left = true /\ v (rd l) (ra a) (w : Int) left = res (cutA l a w left) := by
 refine out _ _ _ _ ?_
 unfold vo b cutA
 have e : U70.v (w : Int) 0 (List.length (ra a) : Int) = true := by
  rw [show U70.v (w : Int) 0 (List.length (ra a) : Int) = decide (0 <= (w : Int) /\ (w : Int) <= (List.length (ra a) : Int)) from U53.in_eq _ _ _, A_Disk.ra_len]
  exact decide_eq_true (by omega)
 have ev : view (ra a) (Int.toNat 0) (Int.toNat (w : Int)) = ra (a.take w) := by
  unfold view ra
  rw [show Int.toNat 0 = 0 from rfl, List.drop_zero, Nat.sub_zero, Int.toNat_natCast, List.map_take]
 have h1 := U17.ok l (a.take w) hl (by rw [List.length_take]; omega) (fun x hx => ht x (List.mem_of_mem_take hx))
 have h2 := U71.ok (acts l 0 (a.take w)).1 left (acts_len _ l 0 hl)
 rw [e, Bool.not_true, cond_false, ev, h1.1, h1.2, cond_true, A_Disk.ra_len, show inB 0 (w : Int) (a.length : Int) = true from by simp [inB]; omega, cond_true]
 by_cases hc : (acts l 0 (a.take w)).2 < w
 ·rw [if_pos hc, decide_eq_true (by dsimp only; omega), cond_true]; rfl
 ·rw [if_neg hc, decide_eq_false (by dsimp only; omega), cond_false, h2.1, h2.2, cond_true]
end Go.FG.U21

namespace Go.FG.A_Cut
open Lib (re rd el En Fi)
open A_Kd (kd kp eok tx frm keepA base bt nmK kd_o)
open A_Disk (acts act okD fOk)
open U71 (lose cutF kN kN_rng)
open U21 (cutA)
theorem ext_full (T : ByteArray) : T.extract 0 T.size = T := Lib.ext_all T
theorem lose_kept {d : List Fi} (h : okD d = true) (hk : ∀ f ∈ d, f.kp = (f.t.size : Int)) (left : Row) : lose d left = some d := by
 unfold lose
 rw [h, cond_true]
 congr 1
 apply List.ext_getElem (by simp)
 intro i h1 h2
 rw [List.getElem_mapIdx]
 have hf := hk _ (List.getElem_mem h2)
 have hr := kN_rng left i (f := d[i]) ⟨by omega, by omega⟩
 have e : kN left i d[i] = (d[i].t.size : Int) := by omega
 unfold cutF
 rw [e, Int.toNat_natCast, ext_full]
 cases hd : d[i]
 rw [hd] at hf
 dsimp only at hf ⊢
 rw [hf]
theorem base_kept (o : Option ByteArray) : ∀ f ∈ base o, f.kp = (f.t.size : Int) := fun f hf => by
 cases o with
 | none => cases hf
 | some t => rw [List.mem_singleton.1 hf]
theorem kd_kept (es : List En) : ∀ f ∈ kd es, f.kp = (f.t.size : Int) := by
 obtain ⟨o, h, _⟩ := kd_o es
 rw [h]; exact base_kept o
end Go.FG.A_Cut

namespace Go.FG.U16
def eo (l : Row) (i : Nat) : Bool := U149.v (cvS (cellAt l i 0)) (cvI (cellAt l i 1)) (cvI (cellAt l i 2)) (cvS (cellAt l i 3))
def tx (l : Row) (i : Nat) : ByteArray := U63.txt (cvS (cellAt l i 0)) (cvI (cellAt l i 1)) (cvI (cellAt l i 2)) (cvS (cellAt l i 3))
def fs (l : Row) : Nat -> Nat -> ByteArray -> Option ByteArray
 | 0, _, acc => some acc
 | d + 1, i, acc => if eo l i = true then fs l d (i + 1) (acc ++ U64.fr (tx l i)) else none
theorem fs_succ (l : Row) (d i : Nat) (acc : ByteArray) : fs l (d + 1) i acc = if eo l i = true then fs l d (i + 1) (acc ++ U64.fr (tx l i)) else none := rfl
def fin {R : Type} (o : Option ByteArray) (kf : Option R) (kt : ByteArray -> Option R) : Option R := match o with | some x => kt x | none => kf
theorem cat_run {R : Type} (l : Row) (hl : l.length <= 1048576) (F : Nat -> Nat -> ByteArray -> Option R) (kf : Option R) (kt : ByteArray -> Option R)
  (hT : ∀ m i acc, i < l.length -> acc.size <= 2000 * i -> (U64.fr (tx l i)).size <= 2000 -> eo l i = true -> F (m + 1) i acc = F m (i + 1) (acc ++ U64.fr (tx l i)))
  (hF : ∀ m i acc, i < l.length -> eo l i = false -> F (m + 1) i acc = kf) (hE : ∀ m acc, F (m + 1) l.length acc = kt acc) : F Lib.big 0 ⟨#[]⟩ = fin (fs l l.length 0 ⟨#[]⟩) kf kt := by
 have := Lib.loop_gen (fun n (z : Nat × ByteArray) => F n z.1 z.2) (fun z => l.length - z.1) (fun z => z.1 <= l.length /\ z.2.size <= 2000 * z.1) (fun z => fin (fs l (l.length - z.1) z.1 z.2) kf kt) (fun m z hz => by
  obtain ⟨i, acc⟩ := z
  obtain ⟨h1, h2⟩ := hz
  dsimp only at h1 h2 ⊢
  by_cases h : i < l.length
  ·have e : l.length - i = (l.length - (i + 1)) + 1 := by omega
   cases ho : eo l i with
   | true =>
    right
    have hs := U61.txt_size ho
    have hf : (U64.fr (tx l i)).size <= 2000 := by
     have := U64.fr_size (t := tx l i) (by unfold tx; omega)
     unfold tx at this ⊢; omega
    exact ⟨(i + 1, acc ++ U64.fr (tx l i)), ⟨h, by dsimp only; rw [Lib.size_app]; omega⟩, by dsimp only; omega, by dsimp only; rw [e, fs_succ, if_pos ho], hT m i acc h h2 hf ho⟩
   | false => left; rw [hF m i acc h ho, e, fs_succ, if_neg (by simp [ho])]; rfl
  ·left
   have : i = l.length := by omega
   subst this
   rw [hE, Nat.sub_self]; rfl) Lib.big (0, ⟨#[]⟩) ⟨Nat.zero_le _, Nat.zero_le _⟩ (Lib.lt_big (by dsimp only; omega))
 simpa using this
def nm : ByteArray := { data := #[UInt8.ofNat 110, UInt8.ofNat 101, UInt8.ofNat 119] }
def acts (has : Bool) (x : ByteArray) : Row := (if has = true then [[CV.i IntKind.i64 4, CV.s nm, CV.s { data := #[] }, CV.s { data := #[] }]] else []) ++ [[CV.i IntKind.i64 1, CV.s nm, CV.s x, CV.s { data := #[] }], [CV.i IntKind.i64 2, CV.s nm, CV.s { data := #[] }, CV.s { data := #[] }], [CV.i IntKind.i64 3, CV.s nm, CV.s { data := #[] }, CV.s { data := #[UInt8.ofNat 107, UInt8.ofNat 101, UInt8.ofNat 112, UInt8.ofNat 116] }]]
theorem acts_sh (has : Bool) (x : ByteArray) : (∀ y ∈ acts has x, y.length = 4) /\ (acts has x).length <= 4 := by
 cases has
 ·refine ⟨fun y hy => ?_, by show 3 <= 4; omega⟩
  simp [acts] at hy
  rcases hy with rfl | rfl | rfl <;> rfl
 ·refine ⟨fun y hy => ?_, by show 4 <= 4; omega⟩
  simp [acts] at hy
  rcases hy with rfl | rfl | rfl | rfl <;> rfl
def val (d l : Row) : Row × Bool := bif U53.val d then (match fs l l.length 0 ⟨#[]⟩ with | some x => (acts (U54.val d nm).2 x, true) | none => ([], false)) else ([], false)
theorem val_sh (d l : Row) : (∀ y ∈ (val d l).1, y.length = 4) /\ (val d l).1.length <= 4 := by
 unfold val
 cases U53.val d
 ·exact ⟨fun y hy => (by cases hy), Nat.zero_le _⟩
 ·cases fs l l.length 0 ⟨#[]⟩ with
  | none => exact ⟨fun y hy => (by cases hy), Nat.zero_le _⟩
  | some x => exact acts_sh _ _
theorem ok (d l : Row) (hd : d.length <= 1048576) (hl : l.length <= 1048576) : c d l = true /\ v d l = val d l := by
 refine out d l ?_
 have k1 := U53.ok d (by omega)
 have k2 := U54.ok d { data := #[UInt8.ofNat 110, UInt8.ofNat 101, UInt8.ofNat 119] } (by omega)
 have e2 : U54.val d { data := #[UInt8.ofNat 110, UInt8.ofNat 101, UInt8.ofNat 119] } = U54.val d nm := rfl
 unfold vo b val
 rw [k1.1, k1.2, cond_true]
 cases U53.val d with
 | false => rfl
 | true =>
  rw [Bool.not_true, cond_false, cond_true, k2.1, cond_true, k2.2, e2]
  have tr : ∀ (K0 : Row -> Bool -> ByteArray -> Int -> Row -> Row -> Option (Row × Bool)) (K1 : Row -> Bool -> ByteArray -> Int -> Row -> Option (Row × Bool)) (base : Row) (kt : ByteArray -> Option (Row × Bool)) (h0 : ∀ x i, K0 l false x i [] base = some ([], false)) (h1 : ∀ x i, K1 l false x i base = kt x), l9 Lib.big K0 K1 Lib.big l false ⟨#[]⟩ 0 base = fin (fs l l.length 0 ⟨#[]⟩) (some ([], false)) kt := by
   intro K0 K1 base kt h0 h1
   refine cat_run l hl (fun m i acc => l9 Lib.big K0 K1 m l false acc (i : Int) base) _ kt (fun m i acc hi ha hf ho => ?_) (fun m i acc hi ho => ?_) (fun m acc => ?_)
   ·have hi1 : w64 ((i : Int) + 1) = ((i + 1 : Nat) : Int) := Lib.w64_ok (by omega) (by omega)
    have t1 : U63.v (cvS (cellAt l i 0)) (cvI (cellAt l i 1)) (cvI (cellAt l i (1 + 1))) (cvS (cellAt l i (1 + 1 + 1))) = (tx l i, true) := by
     unfold U63.v; exact if_pos ho
    have f1 := U64.ok (tx l i)
    have f2 : U64.val (tx l i) = (U64.fr (tx l i), true) := by
     unfold U64.val
     have q1 := U61.txt_pos ho
     have q2 := U61.txt_size ho
     rw [if_pos ⟨q1, Nat.le_trans q2 (by omega)⟩]
    simp only [l9, r9, Lib.dlt, Lib.dle0, Lib.toN, hi, decide_true, Bool.and_self, cond_true, cond_false, t1, f1.1, f1.2, f2, Bool.not_true, decide_eq_true (show acc.size + (U64.fr (tx l i)).size <= 4611686018427387904 by omega), hi1]
   ·have t1 : U63.v (cvS (cellAt l i 0)) (cvI (cellAt l i 1)) (cvI (cellAt l i (1 + 1))) (cvS (cellAt l i (1 + 1 + 1))) = (⟨#[]⟩, false) := by
     unfold U63.v
     rw [if_neg (by
      intro h
      have h' : eo l i = true := h
      rw [ho] at h'; cases h')]
    have f1 := U64.ok ⟨#[]⟩
    simp only [l9, r9, Lib.dlt, Lib.dle0, Lib.toN, hi, decide_true, Bool.and_self, cond_true, t1, f1.1, Bool.not_false]
    exact h0 acc i
   ·simp only [l9, r9, Lib.dlt, Nat.lt_irrefl, decide_false, cond_false]
    exact h1 acc _
  cases hh : (U54.val d nm).2 with
  | true =>
   rw [cond_true]
   refine (tr _ _ _ (fun x => some (acts true x, true)) (fun _ _ => rfl) (fun _ _ => rfl)).trans ?_
   cases fs l l.length 0 ⟨#[]⟩ <;> rfl
  | false =>
   rw [cond_false]
   refine (tr _ _ _ (fun x => some (acts false x, true)) (fun _ _ => rfl) (fun _ _ => rfl)).trans ?_
   cases fs l l.length 0 ⟨#[]⟩ <;> rfl
end Go.FG.U16

namespace Go.FG.A_Anew
open Lib (re rd el En Fi)
open A_Kd (kd kp eok tx frm base bt nmK kd_o)
open A_Disk (acts act okD fOk put without nxt ra Ac)
open A_En (So putE lessK)
open U71 (lose cutF kN kN_rng)
open U21 (cutA)
abbrev nmN : ByteArray := { data := #[UInt8.ofNat 110, UInt8.ofNat 101, UInt8.ofNat 119] }
def anewA (x : ByteArray) : List Ac := [⟨1, nmN, x, ⟨#[]⟩⟩, ⟨2, nmN, ⟨#[]⟩, ⟨#[]⟩⟩, ⟨3, nmN, ⟨#[]⟩, nmK⟩]
theorem less : lessK nmK nmN = true := by unfold lessK; rw [ByteArray.toList_eq, ByteArray.toList_eq]; rfl
theorem fokN (t : ByteArray) (k : Int) (h1 : t.size <= 20000) (h2 : 0 <= k /\ k <= (t.size : Int)) : fOk ⟨nmN, t, k⟩ = true := by
 unfold fOk
 have : ((nmN.size : Nat) : Int) = 3 := rfl
 rw [this, decide_eq_true (by omega), decide_eq_true h2, decide_eq_false (by dsimp only; omega)]; rfl
theorem two_ok {o : Option ByteArray} {x : ByteArray} {k : Int} (h : (bt o).size <= 20000) (hx : x.size <= 20000) (hk : 0 <= k /\ k <= (x.size : Int)) : okD (base o ++ [⟨nmN, x, k⟩]) = true := by
 refine A_Disk.okD_iff.2 ⟨?_, fun f hf => ?_, ?_⟩
 ·cases o <;> simp [base]
 ·rcases List.mem_append.1 hf with hf | hf
  ·exact (A_Disk.okD_iff.1 (A_Kd.base_ok h)).2.1 f hf
  ·rw [List.mem_singleton.1 hf]; exact fokN x k hx hk
 ·cases o with
  | none => exact List.pairwise_singleton ..
  | some t => exact List.pairwise_cons.2 ⟨fun y hy => by rw [List.mem_singleton.1 hy]; exact less, List.pairwise_singleton ..⟩
theorem nKN : nmK ≠ nmN := by decide
theorem nNK : nmN ≠ nmK := by decide
theorem find_n (o : Option ByteArray) (x : ByteArray) (k : Int) : (base o ++ [(⟨nmN, x, k⟩ : Fi)]).find? (fun y => decide (y.n = nmN)) = some ⟨nmN, x, k⟩ := by
 cases o with
 | none => rfl
 | some t => rw [show base (some t) ++ [(⟨nmN, x, k⟩ : Fi)] = [⟨nmK, t, t.size⟩, ⟨nmN, x, k⟩] from rfl, List.find?_cons_of_neg (by simp [nKN]), List.find?_cons_of_pos (by simp)]
theorem no_n (o : Option ByteArray) : (base o).find? (fun y => decide (y.n = nmN)) = none := by
 cases o with
 | none => rfl
 | some t => rw [show base (some t) = [⟨nmK, t, t.size⟩] from rfl, List.find?_cons_of_neg (by simp [nKN]), List.find?_nil]
theorem put_n (o : Option ByteArray) (x : ByteArray) (k : Int) : put (base o) ⟨nmN, x, k⟩ = base o ++ [⟨nmN, x, k⟩] := by
 cases o with
 | none => rfl
 | some t =>
  unfold put
  rw [show base (some t) = [⟨nmK, t, t.size⟩] from rfl, List.filter_cons_of_pos (by simpa using less), List.filter_cons_of_neg (by simp [less])]; rfl
theorem put_n2 (o : Option ByteArray) (x y : ByteArray) (k m : Int) : put (base o ++ [⟨nmN, y, m⟩]) ⟨nmN, x, k⟩ = base o ++ [⟨nmN, x, k⟩] := by
 cases o with
 | none => exact A_Kd.put_same rfl
 | some t =>
  unfold put
  rw [show base (some t) ++ [(⟨nmN, y, m⟩ : Fi)] = [⟨nmK, t, t.size⟩, ⟨nmN, y, m⟩] from rfl, List.filter_cons_of_pos (by simpa using less), List.filter_cons_of_neg (by rw [A_Disk.irrefl]; simp), List.filter_cons_of_neg (by simp [less]), List.filter_cons_of_neg (by simp)]; rfl
theorem mov (o : Option ByteArray) (x : ByteArray) (k : Int) : put (without (base o ++ [⟨nmN, x, k⟩]) nmN) ⟨nmK, x, k⟩ = [⟨nmK, x, k⟩] := by
 have : without (base o ++ [⟨nmN, x, k⟩]) nmN = base o := by
  unfold without
  rw [List.filter_append, List.filter_cons_of_neg (by simp), List.filter_nil, List.append_nil, List.filter_eq_self]
  intro f hf
  cases o with
  | none => cases hf
  | some t => rw [List.mem_singleton.1 hf]; simp [nKN]
 rw [this]
 cases o with
 | none => rfl
 | some t => exact A_Kd.put_same rfl
theorem a1 {o : Option ByteArray} {x : ByteArray} (h : (bt o).size <= 20000) (hx : x.size <= 20000) : act (base o) 1 nmN x ⟨#[]⟩ = some (base o ++ [⟨nmN, x, 0⟩]) := by
 unfold act
 rw [A_Kd.base_ok h, show A_Disk.actOk 1 x ⟨#[]⟩ = true from by unfold A_Disk.actOk; simp, Bool.and_self, cond_true]
 have hn : nxt (base o) 1 nmN x ⟨#[]⟩ = some (base o ++ [⟨nmN, x, 0⟩]) := by
  unfold nxt
  rw [no_n]
  dsimp only
  rw [if_pos rfl, put_n]
 rw [hn]
 dsimp only
 rw [two_ok h hx ⟨by omega, by omega⟩]; rfl
theorem a2 {o : Option ByteArray} {x : ByteArray} (h : (bt o).size <= 20000) (hx : x.size <= 20000) : act (base o ++ [⟨nmN, x, 0⟩]) 2 nmN ⟨#[]⟩ ⟨#[]⟩ = some (base o ++ [⟨nmN, x, x.size⟩]) := by
 unfold act
 rw [two_ok h hx ⟨by omega, by omega⟩, show A_Disk.actOk 2 ⟨#[]⟩ ⟨#[]⟩ = true from by unfold A_Disk.actOk; simp, Bool.and_self, cond_true]
 have hn : nxt (base o ++ [⟨nmN, x, 0⟩]) 2 nmN ⟨#[]⟩ ⟨#[]⟩ = some (base o ++ [⟨nmN, x, x.size⟩]) := by
  unfold nxt
  rw [find_n]
  dsimp only
  rw [if_neg (by omega), if_pos rfl, put_n2]
 rw [hn]
 dsimp only
 rw [two_ok h hx ⟨by omega, by omega⟩]; rfl
theorem a3 {o : Option ByteArray} {x : ByteArray} (h : (bt o).size <= 20000) (hx : x.size <= 20000) : act (base o ++ [⟨nmN, x, x.size⟩]) 3 nmN ⟨#[]⟩ nmK = some (base (some x)) := by
 unfold act
 rw [two_ok h hx ⟨by omega, by omega⟩, show A_Disk.actOk 3 ⟨#[]⟩ nmK = true from by unfold A_Disk.actOk; simp, Bool.and_self, cond_true]
 have hn : nxt (base o ++ [⟨nmN, x, x.size⟩]) 3 nmN ⟨#[]⟩ nmK = some (base (some x)) := by
  unfold nxt
  rw [find_n]
  dsimp only
  rw [if_neg (by omega), if_neg (by omega), if_pos rfl, if_neg (by rintro (h | h); exact h rfl; exact nKN h), mov]; rfl
 rw [hn]
 dsimp only
 rw [A_Kd.base_ok (o := some x) hx]; rfl
theorem anew {o : Option ByteArray} {x : ByteArray} (h : (bt o).size <= 20000) (hx : x.size <= 20000) : acts (base o) 0 (anewA x) = (base (some x), 3) := by
 unfold anewA acts
 dsimp only
 rw [a1 h hx]
 dsimp only
 unfold acts
 dsimp only
 rw [a2 h hx]
 dsimp only
 unfold acts
 dsimp only
 rw [a3 h hx]; rfl
theorem file_kn (o : Option ByteArray) (x : ByteArray) (k : Int) : (U54.val (rd (base o ++ [⟨nmN, x, k⟩])) nmK).1 = bt o := by
 rw [A_Kd.fileAt]
 cases o with
 | none => rw [show base none ++ [(⟨nmN, x, k⟩ : Fi)] = [⟨nmN, x, k⟩] from rfl, List.find?_cons_of_neg (by simp [nNK]), List.find?_nil]; rfl
 | some t => rw [show base (some t) ++ [(⟨nmN, x, k⟩ : Fi)] = [⟨nmK, t, t.size⟩, ⟨nmN, x, k⟩] from rfl, List.find?_cons_of_pos (by simp)]; rfl
theorem kp_so_self {l : List En} (h : So l) : kp l = l := by
 have : ∀ (r a : List En), So (a ++ r) -> r.foldl putE a = a ++ r := by
  intro r
  induction r with
  | nil => intro a _; simp
  | cons e r ih =>
   intro a h
   have h2 : So (a ++ [e] ++ r) := by rw [List.append_assoc]; exact h
   have hp : putE a e = a ++ [e] := by
    have hl : ∀ x ∈ a, lessK x.k e.k = true := fun x hx => (List.pairwise_append.1 h).2.2 x hx e (by simp)
    unfold putE
    rw [List.filter_eq_self.2 hl, List.filter_eq_nil_iff.2 (fun x hx => by rw [hl x hx]; simp), List.append_nil]
   rw [List.foldl_cons, hp, ih _ h2]; simp
 exact this l [] h
theorem cuts {es l : List En} (hs : (tx es).size <= 20000) (hes : ∀ x ∈ es, eok x = true) (hl : (tx l).size <= 20000) (hel : ∀ x ∈ l, eok x = true) (hso : So l) (left : Row) (w : Nat) (hw : w <= 3) :
  ∃ D, cutA (kd es) (anewA (tx l)) w left = some D /\ D.length <= 2 /\ ∃ A, (U20.c (rd D) = true /\ U20.v (rd D) = re A) /\ (A = kp es \/ A = l) := by
 obtain ⟨o, h1, h2⟩ := kd_o es
 have ho : (bt o).size <= 20000 := by rw [h2]; exact hs
 have fkK : ∀ (x : ByteArray) (k : Int), x.size <= 20000 -> 0 <= k /\ k <= (x.size : Int) -> U20.c (rd (base o ++ [⟨nmN, x, k⟩])) = true /\ U20.v (rd (base o ++ [⟨nmN, x, k⟩])) = re (kp es) := fun x k hx hk =>
  (A_Kd.fk _ es ⟨#[]⟩ (two_ok ho hx hk) (by rw [file_kn, h2]; exact (ByteArray.append_empty).symm) hes (.inl rfl)).1
 have bl : (base o).length <= 1 := by cases o <;> simp [base]
 match w, hw with
 | 0, _ =>
  refine ⟨kd es, ?_, by have := A_Kd.kd_len es; omega, kp es, (A_Kd.kd_fk hs hes).1, .inl rfl⟩
  show (if (0 : Nat) < 0 then none else lose (kd es) left) = _
  rw [if_neg (by omega)]
  exact A_Cut.lose_kept (A_Kd.kd_ok hs) (A_Cut.kd_kept es) left
 | 1, _ =>
  have hacts : acts (kd es) 0 ((anewA (tx l)).take 1) = (base o ++ [⟨nmN, tx l, 0⟩], 1) := by
   unfold anewA
   rw [List.take_succ_cons, List.take_zero]
   unfold acts
   dsimp only
   rw [h1, a1 ho hl]; rfl
  have hlo : ∃ n : Nat, n <= (tx l).size /\ lose (base o ++ [⟨nmN, tx l, 0⟩]) left = some (base o ++ [⟨nmN, (tx l).extract 0 n, (n : Int)⟩]) := by
   have hr := kN_rng left (base o).length (f := (⟨nmN, tx l, 0⟩ : Fi)) ⟨by dsimp only; omega, by dsimp only; omega⟩
   dsimp only at hr
   refine ⟨(kN left (base o).length ⟨nmN, tx l, 0⟩).toNat, by omega, ?_⟩
   have hb := A_Cut.lose_kept (A_Kd.base_ok ho) (A_Cut.base_kept o) left
   unfold lose at hb ⊢
   rw [A_Kd.base_ok ho, cond_true] at hb
   rw [two_ok ho hl ⟨by omega, by omega⟩, cond_true, List.mapIdx_append, Option.some.inj hb]
   congr 2
   show [cutF left (0 + (base o).length) _] = _
   unfold cutF
   rw [Nat.zero_add]
   dsimp only
   rw [show ((((kN left (base o).length ⟨nmN, tx l, 0⟩).toNat : Nat)) : Int) = kN left (base o).length ⟨nmN, tx l, 0⟩ by omega]
  obtain ⟨n, hn, hlo⟩ := hlo
  have es_ : ((tx l).extract 0 n).size = n := by rw [ByteArray.size_extract]; omega
  refine ⟨_, ?_, ?_, kp es, fkK ((tx l).extract 0 n) n (by omega) ⟨by omega, by omega⟩, .inl rfl⟩
  ·unfold cutA
   rw [hacts]
   dsimp only
   rw [if_neg (by omega)]; exact hlo
  ·simp; omega
 | 2, _ =>
  have hacts : acts (kd es) 0 ((anewA (tx l)).take 2) = (base o ++ [(⟨nmN, tx l, ((tx l).size : Int)⟩ : Fi)], 2) := by
   unfold anewA
   rw [List.take_succ_cons, List.take_succ_cons, List.take_zero]
   unfold acts
   dsimp only
   rw [h1, a1 ho hl]
   dsimp only
   unfold acts
   dsimp only
   rw [a2 ho hl]; rfl
  have hk2 := fkK (tx l) ((tx l).size : Int) hl ⟨by omega, by omega⟩
  have hl2 : (base o ++ [(⟨nmN, tx l, ((tx l).size : Int)⟩ : Fi)]).length <= 2 := by rw [List.length_append, List.length_singleton]; omega
  refine ⟨_, ?_, hl2, kp es, hk2, .inl rfl⟩
  unfold cutA
  rw [hacts]
  dsimp only
  rw [if_neg (by omega)]
  refine A_Cut.lose_kept (two_ok ho hl ⟨by omega, by omega⟩) (fun f hf => ?_) left
  rcases List.mem_append.1 hf with hf | hf
  ·exact A_Cut.base_kept o f hf
  ·rw [List.mem_singleton.1 hf]
 | 3, _ =>
  have hacts : acts (kd es) 0 ((anewA (tx l)).take 3) = (base (some (tx l)), 3) := by
   rw [h1, show (anewA (tx l)).take 3 = anewA (tx l) from rfl, anew ho hl]
  have hfk := (A_Kd.fk (base (some (tx l))) l ⟨#[]⟩ (A_Kd.base_ok (o := some (tx l)) hl) (by rw [A_Kd.base_file]; exact (ByteArray.append_empty).symm) hel (.inl rfl)).1
  rw [kp_so_self hso] at hfk
  refine ⟨base (some (tx l)), ?_, by simp [base], l, hfk, .inr rfl⟩
  unfold cutA
  rw [hacts]
  dsimp only
  rw [if_neg (by omega)]
  exact A_Cut.lose_kept (A_Kd.base_ok (o := some (tx l)) hl) (A_Cut.base_kept _) left
theorem fs_val (l : List En) (hel : ∀ x ∈ l, eok x = true) : ∀ (d i : Nat) (acc : ByteArray), d + i = l.length -> U16.fs (re l) d i acc = some (acc ++ tx (l.drop i)) := by
 intro d
 induction d with
 | zero =>
  intro i acc h
  have : i = l.length := by omega
  subst this
  rw [List.drop_length]
  exact congrArg some (ByteArray.append_empty).symm
 | succ d ih =>
  intro i acc h
  have hi : i < l.length := by omega
  have h0 : U16.eo (re l) i = true := by
   unfold U16.eo
   rw [Lib.we0 hi, Lib.we1 hi, show cellAt (re l) i 2 = CV.i IntKind.i64 (el l i).li from Lib.we2 hi, show cellAt (re l) i 3 = CV.s (el l i).bo from Lib.we3 hi]
   exact hel _ (Lib.el_mem hi)
  have h1 : U16.tx (re l) i = A_Kd.txt l[i] := by
   unfold U16.tx
   rw [Lib.we0 hi, Lib.we1 hi, show cellAt (re l) i 2 = CV.i IntKind.i64 (el l i).li from Lib.we2 hi, show cellAt (re l) i 3 = CV.s (el l i).bo from Lib.we3 hi, Lib.el_eq hi]; rfl
  rw [U16.fs_succ, if_pos h0, h1, ih (i + 1) _ (by omega), List.drop_eq_getElem_cons hi, ByteArray.append_assoc]; rfl
theorem acts_val {es l : List En} (hs : (tx es).size <= 20000) (hel : ∀ x ∈ l, eok x = true) : U16.val (rd (kd es)) (re l) = (ra (anewA (tx l)), true) := by
 unfold U16.val
 rw [show U53.val (rd (kd es)) = true from A_Kd.kd_ok hs, cond_true, Lib.re_len, fs_val l hel l.length 0 ⟨#[]⟩ (by omega), List.drop_zero]
 have hno : (U54.val (rd (kd es)) U16.nm).2 = false := by
  obtain ⟨o, h1, h2⟩ := kd_o es
  rw [h1, A_Kd.fileAt, show U16.nm = nmN from rfl, no_n]
 dsimp only
 rw [hno, show (⟨#[]⟩ : ByteArray) ++ tx l = tx l from ByteArray.empty_append]; rfl
end Go.FG.A_Anew

namespace Go.FG.U58
def I (q : Row) (a : Int) : Prop := 0 <= a /\ a <= (q.length : Int) /\ q.length <= 1048576
theorem rng (x : BitVec 64) : 0 <= w64 ((BitVec.toNat (BitVec.and x (BitVec.ofInt 64 255)) : Nat) : Int) /\ w64 ((BitVec.toNat (BitVec.and x (BitVec.ofInt 64 255)) : Nat) : Int) <= 255 := by
 have h : BitVec.toNat (BitVec.and x (BitVec.ofInt 64 255)) <= 255 := by
  have e : BitVec.toNat (BitVec.and x (BitVec.ofInt 64 255)) = x.toNat &&& 255 := BitVec.toNat_and x (BitVec.ofInt 64 255)
  rw [e]; exact Nat.and_le_right
 rw [Lib.w64_ok (by omega) (by omega)]; omega
theorem ok (q : Row) (a s : Int) (hI : I q a) : ∃ n a' s', c q a s = true /\ v q a s = (n, q, a', s') /\ I q a' /\ 0 <= n /\ n <= 255 := by
 obtain ⟨h0, h1, h2⟩ := hI
 by_cases h : a < (q.length : Int)
 ·have hw : w64 (a + 1) = a + 1 := Lib.w64_ok (by omega) (by omega)
  have hvo : ∃ n s', vo q a s = some (n, q, a + 1, s') /\ 0 <= n /\ n <= 255 := by
   unfold vo b
   rw [decide_eq_true h, decide_eq_true h0, cond_true, Bool.and_self, cond_true, hw]
   exact ⟨_, _, rfl, rng _⟩
  obtain ⟨n, s', hv, hr⟩ := hvo
  obtain ⟨e1, e2⟩ := out q a s hv
  exact ⟨n, a + 1, s', e1, e2, ⟨by omega, by omega, h2⟩, hr⟩
 ·have hvo : ∃ n s', vo q a s = some (n, q, a, s') /\ 0 <= n /\ n <= 255 := by
   unfold vo b
   rw [decide_eq_false h, cond_false]
   exact ⟨_, _, rfl, rng _⟩
  obtain ⟨n, s', hv, hr⟩ := hvo
  obtain ⟨e1, e2⟩ := out q a s hv
  exact ⟨n, a, s', e1, e2, ⟨h0, h1, h2⟩, hr⟩
end Go.FG.U58

namespace Go.FG.U59
theorem ok (q : Row) (a s k : Int) (hI : U58.I q a) : ∃ n a' s', c q a s k = true /\ v q a s k = (n, q, a', s') /\ U58.I q a' /\ 0 <= n /\ (0 < k -> n < k) := by
 by_cases hk : k <= 0
 ·obtain ⟨e1, e2⟩ := out q a s k (x := (0, q, a, s)) (by unfold vo b; rw [decide_eq_true hk, cond_true])
  exact ⟨0, a, s, e1, e2, hI, by omega, fun h => by omega⟩
 ·have hm : ∀ x : Int, 0 <= x -> 0 <= Int.tmod x k /\ Int.tmod x k < k := fun x hx => by
   rw [Int.tmod_eq_emod_of_nonneg hx]
   exact ⟨Int.emod_nonneg _ (by omega), Int.emod_lt_of_pos _ (by omega)⟩
  have hk0 : ¬ k = 0 := by omega
  obtain ⟨n1, a1, s1, c1, v1, I1, g1, u1⟩ := U58.ok q a s hI
  by_cases h2 : k <= 256
  ·obtain ⟨e1, e2⟩ := out q a s k (x := (Int.tmod n1 k, q, a1, s1)) (by
    unfold vo b
    simp only [hk, h2, hk0, c1, v1, decide_true, decide_false, cond_true, cond_false, Bool.not_false])
   exact ⟨_, a1, s1, e1, e2, I1, (hm n1 g1).1, fun _ => (hm n1 g1).2⟩
  ·obtain ⟨n2, a2, s2, c2, v2, I2, g2, u2⟩ := U58.ok q a1 s1 I1
   obtain ⟨n3, a3, s3, c3, v3, I3, g3, u3⟩ := U58.ok q a2 s2 I2
   obtain ⟨n4, a4, s4, c4, v4, I4, g4, u4⟩ := U58.ok q a3 s3 I3
   have w1 : w64 (n1 * 16777216) = n1 * 16777216 := Lib.w64_ok (by omega) (by omega)
   have w2 : w64 (n2 * 65536) = n2 * 65536 := Lib.w64_ok (by omega) (by omega)
   have w3 : w64 (n3 * 256) = n3 * 256 := Lib.w64_ok (by omega) (by omega)
   have w4 : w64 (n1 * 16777216 + n2 * 65536) = n1 * 16777216 + n2 * 65536 := Lib.w64_ok (by omega) (by omega)
   have w5 : w64 (n1 * 16777216 + n2 * 65536 + n3 * 256) = n1 * 16777216 + n2 * 65536 + n3 * 256 := Lib.w64_ok (by omega) (by omega)
   have w6 : w64 (n1 * 16777216 + n2 * 65536 + n3 * 256 + n4) = n1 * 16777216 + n2 * 65536 + n3 * 256 + n4 := Lib.w64_ok (by omega) (by omega)
   obtain ⟨e1, e2⟩ := out q a s k (x := (Int.tmod (n1 * 16777216 + n2 * 65536 + n3 * 256 + n4) k, q, a4, s4)) (by
    unfold vo b
    simp only [hk, h2, hk0, c1, v1, c2, v2, c3, v3, c4, v4, w1, w2, w3, w4, w5, w6, decide_true, decide_false, cond_true, cond_false, Bool.not_false])
   have := hm (n1 * 16777216 + n2 * 65536 + n3 * 256 + n4) (by omega)
   exact ⟨_, a4, s4, e1, e2, I4, this.1, fun _ => this.2⟩
end Go.FG.U59

namespace Go.FG.U164
theorem ok (q : Row) (a s : Int) (l : Row) (hI : U58.I q a) (hl : 0 < l.length) : ∃ i a' s', c q a s l = true /\ v q a s l = (cvS (cellAt l i 0), q, a', s', l) /\ U58.I q a' /\ i < l.length := by
 obtain ⟨n1, a1, s1, c1, v1, I1, g1, u1⟩ := U59.ok q a s (l.length : Int) hI
 have hu := u1 (by omega)
 obtain ⟨e1, e2⟩ := out q a s l (x := (cvS (cellAt l n1.toNat 0), q, a1, s1, l)) (by
  unfold vo b
  simp only [c1, v1, g1, hu, decide_true, Bool.and_self, cond_true])
 exact ⟨n1.toNat, a1, s1, e1, e2, I1, by omega⟩
end Go.FG.U164

namespace Go.FG.U161
theorem ok (q : Row) (a s : Int) (hI : U58.I q a) : ∃ k a' s', c q a s = true /\ v q a s = (k, q, a', s') /\ U58.I q a' /\ k.size = 2 := by
 obtain ⟨i, a1, s1, c1, v1, I1, g1⟩ := U164.ok q a s (List.set (List.set (List.set (List.set (List.set (List.set (List.set (List.set (zeros [Ck.s] 8) 0 [CV.s { data := #[UInt8.ofNat 47, UInt8.ofNat 97] }]) 1 [CV.s { data := #[UInt8.ofNat 47, UInt8.ofNat 98] }]) 2 [CV.s { data := #[UInt8.ofNat 47, UInt8.ofNat 99] }]) 3 [CV.s { data := #[UInt8.ofNat 47, UInt8.ofNat 100] }]) 4 [CV.s { data := #[UInt8.ofNat 47, UInt8.ofNat 101] }]) 5 [CV.s { data := #[UInt8.ofNat 47, UInt8.ofNat 102] }]) 6 [CV.s { data := #[UInt8.ofNat 47, UInt8.ofNat 103] }]) 7 [CV.s { data := #[UInt8.ofNat 47, UInt8.ofNat 104] }]) hI (by simp [zeros])
 obtain ⟨e1, e2⟩ := out q a s (x := (_, q, a1, s1)) (by
  unfold vo b
  simp only [c1, v1, cond_true]; rfl)
 refine ⟨_, a1, s1, e1, e2, I1, ?_⟩
 have g2 : i < 8 := by simpa [zeros] using g1
 match i, g2 with
 | 0, _ => rfl
 | 1, _ => rfl
 | 2, _ => rfl
 | 3, _ => rfl
 | 4, _ => rfl
 | 5, _ => rfl
 | 6, _ => rfl
 | 7, _ => rfl
end Go.FG.U161

namespace Go.FG.U162
theorem ok (q : Row) (a s : Int) (l : Row) (hI : U58.I q a) (hl : 0 < l.length) : ∃ i a' s', c q a s l = true /\ v q a s l = (cvI (cellAt l i 0), q, a', s', l) /\ U58.I q a' /\ i < l.length := by
 obtain ⟨n1, a1, s1, c1, v1, I1, g1, u1⟩ := U59.ok q a s (l.length : Int) hI
 have hu := u1 (by omega)
 obtain ⟨e1, e2⟩ := out q a s l (x := (cvI (cellAt l n1.toNat 0), q, a1, s1, l)) (by
  unfold vo b
  simp only [c1, v1, g1, hu, decide_true, Bool.and_self, cond_true])
 exact ⟨n1.toNat, a1, s1, e1, e2, I1, by omega⟩
end Go.FG.U162

namespace Go.FG.U163
theorem ok (q : Row) (a s k : Int) (hI : U58.I q a) : ∃ t a' s', c q a s k = true /\ v q a s k = (t, q, a', s') /\ U58.I q a' /\ (t.size : Int) <= 5000 /\ ((t.size : Int) = 0 \/ (t.size : Int) <= k) := by
 have key := fun (m : Int) (hm : m <= 5000) => Lib.loop_post (fun n (z : Nat × Int × Int × Row) => l5 Lib.big (fun (_ _ : Int) (y8 : Row) (y9 y10 : Int) (y11 : Row) => bif (decide (List.length y11 <= 4611686018427387904)) then (some (bytesOf y11, y8, y9, y10)) else (none)) n m (z.1 : Int) q z.2.1 z.2.2.1 z.2.2.2) (fun z => 5000 - z.1) (fun z => (z.1 = 0 \/ (z.1 : Int) <= m) /\ U58.I q z.2.1 /\ z.2.2.2.length = z.1) (fun r => ∃ t a' s', r = (t, q, a', s') /\ U58.I q a' /\ ((t.size : Int) = 0 \/ (t.size : Int) <= m)) (fun n z hz => by
  obtain ⟨i, a, s, acc⟩ := z
  obtain ⟨h1, h2, h3⟩ := hz
  dsimp only at h1 h2 h3 ⊢
  by_cases h : (i : Int) < m
  ·right
   obtain ⟨n1, a1, s1, c1, v1, I1, g1, u1⟩ := U58.ok q a s h2
   have hi1 : w64 ((i : Int) + 1) = ((i + 1 : Nat) : Int) := Lib.w64_ok (by omega) (by omega)
   refine ⟨(i + 1, a1, s1, acc ++ [[CV.i IntKind.u8 (IntKind.wrap IntKind.u8 n1)]]), ⟨by right; dsimp only; omega, I1, by simp [h3]⟩, by dsimp only; omega, ?_⟩
   simp only [l5, r5, h, decide_true, cond_true, c1, v1, hi1, Lib.len_set1, List.length_singleton, Lib.roomy1 (n := acc.length + 1) (by omega)]
  ·left
   refine ⟨_, by simp only [l5, r5, h, decide_false, cond_false, decide_eq_true (show acc.length <= 4611686018427387904 by omega), cond_true], bytesOf acc, a, s, rfl, h2, ?_⟩
   rw [size_bytesOf, h3]; omega) Lib.big (0, a, s, []) ⟨.inl rfl, hI, rfl⟩ (Lib.lt_big (by omega))
 by_cases hk : k > 5000
 ·obtain ⟨b', hb, t, a', s', rfl, hI', hs⟩ := key 5000 (by omega)
  obtain ⟨e1, e2⟩ := out q a s k (x := (t, q, a', s')) (by
   unfold vo b
   rw [decide_eq_true hk, cond_true]; exact hb)
  exact ⟨t, a', s', e1, e2, hI', by omega, by omega⟩
 ·obtain ⟨b', hb, t, a', s', rfl, hI', hs⟩ := key k (by omega)
  obtain ⟨e1, e2⟩ := out q a s k (x := (t, q, a', s')) (by
   unfold vo b
   rw [decide_eq_false hk, cond_false]; exact hb)
  exact ⟨t, a', s', e1, e2, hI', by omega, by omega⟩
end Go.FG.U163

namespace Go.FG.U72
def dr (k : ByteArray) (s l : Int) (t : ByteArray) : Prop := k.size = 2 /\ 1 <= s /\ s <= 20 /\ (l = 1 \/ l = 5 \/ l = 60 \/ l = 999999) /\ t.size <= 8
theorem ok (q : Row) (a s : Int) (hI : U58.I q a) : ∃ k st l t a' s', c q a s = true /\ v q a s = (k, st, l, t, q, a', s') /\ U58.I q a' /\ dr k st l t := by
 obtain ⟨k, a1, s1, c1, v1, I1, g1⟩ := U161.ok q a s hI
 obtain ⟨n2, a2, s2, c2, v2, I2, g2, u2⟩ := U59.ok q a1 s1 20 I1
 obtain ⟨i, a3, s3, c3, v3, I3, g3⟩ := U162.ok q a2 s2 (List.set (List.set (List.set (List.set (zeros [Ck.i IntKind.i64] 4) 0 [CV.i IntKind.i64 1]) 1 [CV.i IntKind.i64 5]) 2 [CV.i IntKind.i64 60]) 3 [CV.i IntKind.i64 999999]) I2 (by simp [zeros])
 obtain ⟨n4, a4, s4, c4, v4, I4, g4, u4⟩ := U59.ok q a3 s3 9 I3
 obtain ⟨t, a5, s5, c5, v5, I5, g5, u5⟩ := U163.ok q a4 s4 n4 I4
 have u2' := u2 (by omega)
 have u4' := u4 (by omega)
 have hw : w64 (1 + n2) = 1 + n2 := Lib.w64_ok (by omega) (by omega)
 obtain ⟨e1, e2⟩ := out q a s (x := (k, 1 + n2, _, t, q, a5, s5)) (by
  unfold vo b
  simp only [Lib.lt, c1, v1, c2, v2, c3, v3, c4, v4, c5, v5, hw, cond_true]; rfl)
 refine ⟨k, 1 + n2, _, t, a5, s5, e1, e2, I5, g1, by omega, by omega, ?_, by omega⟩
 have g2 : i < 4 := by simpa [zeros] using g3
 match i, g2 with
 | 0, _ => exact .inl rfl
 | 1, _ => exact .inr (.inl rfl)
 | 2, _ => exact .inr (.inr (.inl rfl))
 | 3, _ => exact .inr (.inr (.inr rfl))
end Go.FG.U72

namespace Go.FG.U165
theorem ok (n x : Int) (h0 : 0 <= n) (h1 : n <= 1048576) : ∃ t, c n x = true /\ v n x = t /\ (t.size : Int) = n := by
 have key := Lib.loop_post (fun m (z : Nat × Row) => l3 Lib.big (fun (_ _ _ : Int) (y7 : Row) => bif (decide (List.length y7 <= 4611686018427387904)) then (some (bytesOf y7)) else (none)) m n x (z.1 : Int) z.2) (fun z => n.toNat - z.1) (fun z => z.1 <= n.toNat /\ z.2.length = n.toNat) (fun t => (t.size : Int) = n) (fun m z hz => by
  obtain ⟨i, acc⟩ := z
  obtain ⟨h2, h3⟩ := hz
  dsimp only at h2 h3 ⊢
  by_cases h : (i : Int) < n
  ·right
   have hi1 : w64 ((i : Int) + 1) = ((i + 1 : Nat) : Int) := Lib.w64_ok (by omega) (by omega)
   have hi : i < acc.length := by omega
   refine ⟨(i + 1, setC acc i 0 [CV.i IntKind.u8 x]), ⟨by dsimp only; omega, by dsimp only; rw [Lib.length_setC]; exact h3⟩, by dsimp only; omega, ?_⟩
   simp only [l3, r3, h, hi, Lib.dlt, Lib.dle0, Lib.toN, Bool.and_self, decide_true, cond_true, hi1]
  ·left
   refine ⟨_, by simp only [l3, r3, h, decide_false, cond_false, decide_eq_true (show acc.length <= 4611686018427387904 by omega), cond_true]; rfl, ?_⟩
   rw [size_bytesOf, h3]; omega) Lib.big (0, zeros [Ck.i IntKind.u8] n.toNat) ⟨Nat.zero_le _, Lib.length_zeros _ _⟩ (Lib.lt_big (by dsimp only; omega))
 obtain ⟨t, hb, ht⟩ := key
 obtain ⟨e1, e2⟩ := out n x (x := t) (by
  unfold vo b
  rw [decide_eq_true h0, decide_eq_true rfl, Lib.roomy1 (by omega), Bool.and_self, Bool.and_self, cond_true]; exact hb)
 exact ⟨t, e1, e2, ht⟩
end Go.FG.U165

namespace Go.FG.U73
theorem ok (q : Row) (a s : Int) (hI : U58.I q a) : ∃ k st l t a' s', c q a s = true /\ v q a s = (k, st, l, t, q, a', s') /\ U58.I q a' /\ k.size <= 31 /\ (-1 <= st /\ st <= 1000000001) /\ (l = -9223372036854775808 \/ 0 <= l /\ l <= 1000000) /\ t.size <= 401 := by
 obtain ⟨k, st, l, t, a1, s1, c1, v1, I1, d1, d2, d3, d4, d5⟩ := U72.ok q a s hI
 obtain ⟨n2, a2, s2, c2, v2, I2, g2, u2⟩ := U59.ok q a1 s1 12 I1
 by_cases h0 : n2 = 0
 ·have d0 : decide (n2 = 0) = true := decide_eq_true h0
  obtain ⟨i, a3, s3, c3, v3, I3, g3⟩ := U164.ok q a2 s2 (List.set (List.set (zeros [Ck.s] 2) 0 [CV.s { data := #[] }]) 1 [CV.s { data := #[UInt8.ofNat 48, UInt8.ofNat 49, UInt8.ofNat 50, UInt8.ofNat 51, UInt8.ofNat 52, UInt8.ofNat 53, UInt8.ofNat 54, UInt8.ofNat 55, UInt8.ofNat 56, UInt8.ofNat 57, UInt8.ofNat 48, UInt8.ofNat 49, UInt8.ofNat 50, UInt8.ofNat 51, UInt8.ofNat 52, UInt8.ofNat 53, UInt8.ofNat 54, UInt8.ofNat 55, UInt8.ofNat 56, UInt8.ofNat 57, UInt8.ofNat 48, UInt8.ofNat 49, UInt8.ofNat 50, UInt8.ofNat 51, UInt8.ofNat 52, UInt8.ofNat 53, UInt8.ofNat 54, UInt8.ofNat 55, UInt8.ofNat 56, UInt8.ofNat 57, UInt8.ofNat 48] }]) I2 (by simp [zeros])
  obtain ⟨e1, e2⟩ := out q a s (x := (_, st, l, t, q, a3, s3)) (by
   unfold vo b
   simp only [Lib.lt, c1, v1, c2, v2, d0, cond_true, c3, v3]; rfl)
  refine ⟨_, st, l, t, a3, s3, e1, e2, I3, ?_, by omega, by omega, by omega⟩
  have g2 : i < 2 := by simpa [zeros] using g3
  match i, g2 with
  | 0, _ => exact Nat.zero_le _
  | 1, _ => exact Nat.le_refl 31
 have d0 : decide (n2 = 0) = false := decide_eq_false h0
 by_cases h1 : n2 = 1
 ·have d1 : decide (n2 = 1) = true := decide_eq_true h1
  obtain ⟨i, a3, s3, c3, v3, I3, g3⟩ := U162.ok q a2 s2 (List.set (List.set (List.set (List.set (zeros [Ck.i IntKind.i64] 4) 0 [CV.i IntKind.i64 (Int.neg 1)]) 1 [CV.i IntKind.i64 0]) 2 [CV.i IntKind.i64 1000000000]) 3 [CV.i IntKind.i64 1000000001]) I2 (by simp [zeros])
  obtain ⟨e1, e2⟩ := out q a s (x := (k, _, l, t, q, a3, s3)) (by
   unfold vo b
   simp only [Lib.lt, c1, v1, c2, v2, d0, d1, cond_true, cond_false, c3, v3]; rfl)
  refine ⟨k, _, l, t, a3, s3, e1, e2, I3, by omega, ?_, by omega, by omega⟩
  have g2 : i < 4 := by simpa [zeros] using g3
  match i, g2 with
  | 0, _ => exact ⟨by decide, by decide⟩
  | 1, _ => exact ⟨by decide, by decide⟩
  | 2, _ => exact ⟨by decide, by decide⟩
  | 3, _ => exact ⟨by decide, by decide⟩
 have d1 : decide (n2 = 1) = false := decide_eq_false h1
 by_cases h2 : n2 = 2
 ·have d2' : decide (n2 = 2) = true := decide_eq_true h2
  obtain ⟨i, a3, s3, c3, v3, I3, g3⟩ := U162.ok q a2 s2 (List.set (List.set (List.set (zeros [Ck.i IntKind.i64] 3) 0 [CV.i IntKind.i64 0]) 1 [CV.i IntKind.i64 1000000]) 2 [CV.i IntKind.i64 (Int.neg 9223372036854775808)]) I2 (by simp [zeros])
  obtain ⟨e1, e2⟩ := out q a s (x := (k, st, _, t, q, a3, s3)) (by
   unfold vo b
   simp only [Lib.lt, c1, v1, c2, v2, d0, d1, d2', cond_true, cond_false, c3, v3]; rfl)
  refine ⟨k, st, _, t, a3, s3, e1, e2, I3, by omega, by omega, ?_, by omega⟩
  have g2 : i < 3 := by simpa [zeros] using g3
  match i, g2 with
  | 0, _ => exact .inr ⟨by decide, by decide⟩
  | 1, _ => exact .inr ⟨by decide, by decide⟩
  | 2, _ => exact .inl rfl
 have d2' : decide (n2 = 2) = false := decide_eq_false h2
 by_cases h3 : n2 = 3
 ·have d3' : decide (n2 = 3) = true := decide_eq_true h3
  obtain ⟨n4, a4, s4, c4, v4, I4, g4, u4⟩ := U59.ok q a2 s2 2 I2
  have u4' := u4 (by omega)
  have hw : w64 (400 + n4) = 400 + n4 := Lib.w64_ok (by omega) (by omega)
  obtain ⟨t2, c5, v5, g5⟩ := U165.ok (400 + n4) 97 (by omega) (by omega)
  obtain ⟨e1, e2⟩ := out q a s (x := (k, st, l, t2, q, a4, s4)) (by
   unfold vo b
   simp only [Lib.lt, c1, v1, c2, v2, d0, d1, d2', d3', cond_true, cond_false, c4, v4, hw, c5, v5])
  exact ⟨k, st, l, t2, a4, s4, e1, e2, I4, by omega, by omega, by omega, by omega⟩
 have d3' : decide (n2 = 3) = false := decide_eq_false h3
 obtain ⟨e1, e2⟩ := out q a s (x := (k, st, l, t, q, a2, s2)) (by
  unfold vo b
  simp only [Lib.lt, c1, v1, c2, v2, d0, d1, d2', d3', cond_true, cond_false])
 exact ⟨k, st, l, t, a2, s2, e1, e2, I2, by omega, by omega, by omega, by omega⟩
end Go.FG.U73

namespace Go.FG.U140
theorem ok (k : ByteArray) (s l : Int) (b0 : ByteArray) : c k s l b0 = true /\ v k s l b0 = U43.val k s l b0 := by
 refine out k s l b0 ?_
 have hf := U64.ok (U63.v k s l b0).1
 unfold vo b U43.val
 rw [hf.1, hf.2]
 unfold U63.v U64.val
 by_cases h : U149.v k s l b0 = true
 ·have h1 := U61.txt_size h
  have h2 := U61.txt_pos h
  rw [if_pos h, if_pos h, if_pos (by dsimp only; omega)]; rfl
 ·rw [if_neg h, if_neg h]; rfl
end Go.FG.U140

namespace Go.FG.U166
open Lib (rd el Fi)
open A_Disk (put)
theorem tail (l : List Fi) (n t : ByteArray) (k : Int) (hl : l.length <= 1000000) (c0 : List Fi) (hc : c0.length <= 1000001) :
  l9 Lib.big (fun (_ : Int) (_ : Row) (_ _ : ByteArray) (_ : Int) (y : Row) => some y) Lib.big 0 (rd l) n t k (rd c0) = some (rd (c0 ++ l.filter fun x => !(A_En.lessK x.n n || decide (x.n = n)))) := by
 refine Lib.filt1 l (fun x => !(A_En.lessK x.n n || decide (x.n = n))) (fun m (i : Nat) acc => l9 Lib.big (fun (_ : Int) (_ : Row) (_ _ : ByteArray) (_ : Int) (y : Row) => some y) m (i : Int) (rd l) n t k (rd acc)) (fun acc => some (rd acc)) c0
  (fun m i acc h ha hp => ?_) (fun m i acc h hp => ?_) (fun m acc => ?_) Lib.big (Lib.lt_big (by omega))
 ·have hp' : (!(Go.Op.bytesLess (ByteArray.toList l[i].n) (ByteArray.toList n) || decide (l[i].n = n))) = true := hp
  simp only [l9, r9, Lib.rd_len, Lib.dlt, h, decide_true, Lib.dle0, Bool.and_self, cond_true, Lib.toN, Lib.rd0 h, Lib.rd1 h, Lib.rd2 h, cvS, cvI, Lib.beq_ba, hp', Lib.set1, List.length_singleton, Lib.w64_s h (by omega : l.length <= 9223372036854775807), Lib.roomy_of (n := acc.length + 1) (b := 40) (by omega) (by omega)]
  unfold Lib.rd; rw [List.map_append]; rfl
 ·have hp' : (!(Go.Op.bytesLess (ByteArray.toList l[i].n) (ByteArray.toList n) || decide (l[i].n = n))) = false := hp
  simp only [l9, r9, Lib.rd_len, Lib.dlt, h, decide_true, Lib.dle0, Bool.and_self, cond_true, cond_false, Lib.toN, Lib.rd0 h, cvS, Lib.beq_ba, hp', Lib.w64_s h (by omega : l.length <= 9223372036854775807)]
 ·simp only [l9, r9, Lib.rd_len, Lib.dlt, Nat.lt_irrefl, decide_false, cond_false]
theorem ok (l : List Fi) (n t : ByteArray) (k : Int) (hl : l.length <= 1000000) : c (rd l) n t k = true /\ v (rd l) n t k = rd (put l ⟨n, t, k⟩) := by
 refine out _ _ _ _ ?_
 unfold vo b
 have key := Lib.filt2 l (fun x => A_En.lessK x.n n)
  (fun m (i : Nat) => l3 Lib.big (fun (_ : Int) (y41 : Row) (y42 y43 : ByteArray) (y44 : Int) => l9 Lib.big (fun (_ : Int) (_ : Row) (_ _ : ByteArray) (_ : Int) (y50 : Row) => some y50) Lib.big 0 y41 y42 y43 y44 ([] ++ List.set (zeros [Ck.s, Ck.s, Ck.i IntKind.i64] 1) 0 [CV.s y42, CV.s y43, CV.i IntKind.i64 y44])) (fun (_ : Int) (y52 : Row) (y53 y54 : ByteArray) (y55 : Int) (y56 : Row) => bif (roomy (List.length y56 + List.length (List.set (zeros [Ck.s, Ck.s, Ck.i IntKind.i64] 1) 0 [CV.s y53, CV.s y54, CV.i IntKind.i64 y55])) 40) then (l9 Lib.big (fun (_ : Int) (_ : Row) (_ _ : ByteArray) (_ : Int) (y62 : Row) => some y62) Lib.big 0 y52 y53 y54 y55 (y56 ++ List.set (zeros [Ck.s, Ck.s, Ck.i IntKind.i64] 1) 0 [CV.s y53, CV.s y54, CV.i IntKind.i64 y55])) else (none)) m (i : Int) (rd l) n t k)
  (fun m (i : Nat) acc => l3a Lib.big (fun (_ : Int) (y41 : Row) (y42 y43 : ByteArray) (y44 : Int) => l9 Lib.big (fun (_ : Int) (_ : Row) (_ _ : ByteArray) (_ : Int) (y50 : Row) => some y50) Lib.big 0 y41 y42 y43 y44 ([] ++ List.set (zeros [Ck.s, Ck.s, Ck.i IntKind.i64] 1) 0 [CV.s y42, CV.s y43, CV.i IntKind.i64 y44])) (fun (_ : Int) (y52 : Row) (y53 y54 : ByteArray) (y55 : Int) (y56 : Row) => bif (roomy (List.length y56 + List.length (List.set (zeros [Ck.s, Ck.s, Ck.i IntKind.i64] 1) 0 [CV.s y53, CV.s y54, CV.i IntKind.i64 y55])) 40) then (l9 Lib.big (fun (_ : Int) (_ : Row) (_ _ : ByteArray) (_ : Int) (y62 : Row) => some y62) Lib.big 0 y52 y53 y54 y55 (y56 ++ List.set (zeros [Ck.s, Ck.s, Ck.i IntKind.i64] 1) 0 [CV.s y53, CV.s y54, CV.i IntKind.i64 y55])) else (none)) m (i : Int) (rd l) n t k (rd acc))
  (fun acc => bif roomy (acc.length + 1) 40 then l9 Lib.big (fun (_ : Int) (_ : Row) (_ _ : ByteArray) (_ : Int) (y : Row) => some y) Lib.big 0 (rd l) n t k (rd (acc ++ [⟨n, t, k⟩])) else none)
  (fun m i h hp => by
   have hp' : Go.Op.bytesLess (ByteArray.toList l[i].n) (ByteArray.toList n) = true := hp
   simp only [l3, r3, Lib.rd_len, Lib.dlt, h, decide_true, Lib.dle0, Bool.and_self, cond_true, Lib.toN, Lib.rd0 h, Lib.rd1 h, Lib.rd2 h, cvS, cvI, hp', Lib.set1, Lib.w64_s h (by omega : l.length <= 9223372036854775807)]; rfl)
  (fun m i h hp => by
   have hp' : Go.Op.bytesLess (ByteArray.toList l[i].n) (ByteArray.toList n) = false := hp
   simp only [l3, r3, Lib.rd_len, Lib.dlt, h, decide_true, Lib.dle0, Bool.and_self, cond_true, cond_false, Lib.toN, Lib.rd0 h, cvS, hp', Lib.w64_s h (by omega : l.length <= 9223372036854775807)])
  (fun m => by
   simp only [l3, r3, Lib.rd_len, Lib.dlt, Nat.lt_irrefl, decide_false, cond_false]
   rw [Lib.roomy_of (by simp) (by simp), cond_true]; rfl)
  (fun m i acc h ha hp => by
   have hp' : Go.Op.bytesLess (ByteArray.toList l[i].n) (ByteArray.toList n) = true := hp
   simp only [l3a, r3a, Lib.rd_len, Lib.dlt, h, decide_true, Lib.dle0, Bool.and_self, cond_true, Lib.toN, Lib.rd0 h, Lib.rd1 h, Lib.rd2 h, cvS, cvI, hp', Lib.set1, List.length_singleton, Lib.w64_s h (by omega : l.length <= 9223372036854775807), Lib.roomy_of (n := acc.length + 1) (b := 40) (by omega) (by omega)]
   unfold Lib.rd; rw [List.map_append]; rfl)
  (fun m i acc h hp => by
   have hp' : Go.Op.bytesLess (ByteArray.toList l[i].n) (ByteArray.toList n) = false := hp
   simp only [l3a, r3a, Lib.rd_len, Lib.dlt, h, decide_true, Lib.dle0, Bool.and_self, cond_true, cond_false, Lib.toN, Lib.rd0 h, cvS, hp', Lib.w64_s h (by omega : l.length <= 9223372036854775807)])
  (fun m acc => by
   simp only [l3a, r3a, Lib.rd_len, Lib.dlt, Nat.lt_irrefl, decide_false, cond_false, Lib.set1, List.length_singleton]
   unfold Lib.rd; rw [List.map_append]; rfl) Lib.big (Lib.lt_big (by omega))
 refine key.trans ?_
 have hf := List.length_filter_le (fun x : Fi => A_En.lessK x.n n) l
 rw [Lib.roomy_of (by omega) (by omega), cond_true, tail l n t k hl _ (by simp; omega)]
 unfold put; rw [List.append_assoc]
end Go.FG.U166

namespace Go.FG.U167
open Lib (rd el Fi)
open A_Disk (without)
theorem ok (l : List Fi) (n : ByteArray) (hl : l.length <= 1000000) : c (rd l) n = true /\ v (rd l) n = rd (without l n) := by
 refine out _ _ ?_
 unfold vo b
 have key := Lib.filt2 l (fun x => !decide (x.n = n))
  (fun m (i : Nat) => l3 Lib.big (fun (_ : ByteArray) (_ : Int) (_ : Row) => some ([] : Row)) (fun (_ : ByteArray) (_ : Int) (_ : Row) (y20 : Row) => some y20) m n (i : Int) (rd l))
  (fun m (i : Nat) acc => l3a Lib.big (fun (_ : ByteArray) (_ : Int) (_ : Row) => some ([] : Row)) (fun (_ : ByteArray) (_ : Int) (_ : Row) (y20 : Row) => some y20) m n (i : Int) (rd l) (rd acc)) (fun acc => some (rd acc))
  (fun m i h hp => by
   simp only [l3, r3, Lib.rd_len, Lib.dlt, h, decide_true, Lib.dle0, Bool.and_self, cond_true, Lib.toN, Lib.rd0 h, Lib.rd1 h, Lib.rd2 h, cvS, cvI, Lib.beq_ba, hp, Lib.set1, Lib.w64_s h (by omega : l.length <= 9223372036854775807)]; rfl)
  (fun m i h hp => by
   simp only [l3, r3, Lib.rd_len, Lib.dlt, h, decide_true, Lib.dle0, Bool.and_self, cond_true, cond_false, Lib.toN, Lib.rd0 h, cvS, Lib.beq_ba, hp, Lib.w64_s h (by omega : l.length <= 9223372036854775807)])
  (fun m => by simp only [l3, r3, Lib.rd_len, Lib.dlt, Nat.lt_irrefl, decide_false, cond_false]; rfl)
  (fun m i acc h ha hp => by
   simp only [l3a, r3a, Lib.rd_len, Lib.dlt, h, decide_true, Lib.dle0, Bool.and_self, cond_true, Lib.toN, Lib.rd0 h, Lib.rd1 h, Lib.rd2 h, cvS, cvI, Lib.beq_ba, hp, Lib.set1, List.length_singleton, Lib.w64_s h (by omega : l.length <= 9223372036854775807), Lib.roomy_of (n := acc.length + 1) (b := 40) (by omega) (by omega)]
   unfold Lib.rd; rw [List.map_append]; rfl)
  (fun m i acc h hp => by
   simp only [l3a, r3a, Lib.rd_len, Lib.dlt, h, decide_true, Lib.dle0, Bool.and_self, cond_true, cond_false, Lib.toN, Lib.rd0 h, cvS, Lib.beq_ba, hp, Lib.w64_s h (by omega : l.length <= 9223372036854775807)])
  (fun m acc => by simp only [l3a, r3a, Lib.rd_len, Lib.dlt, Nat.lt_irrefl, decide_false, cond_false]) Lib.big (Lib.lt_big (by omega))
 exact key
end Go.FG.U167

namespace Go.FG.U74
open Lib (rd el Fi)
open A_Disk (without put SoD okD act nxt okD_iff)
open U66 (res)
theorem okc (d : List Fi) (h : d.length <= 1000000) : U53.c (rd d) = true /\ U53.v (rd d) = okD d := U53.ok (rd d) (by rw [Lib.rd_len]; omega)
theorem nm (n : ByteArray) : U142.v n = decide (1 <= (n.size : Int) /\ (n.size : Int) <= 8) := U53.in_eq _ _ _
theorem no_put {l : List Fi} {n t : ByteArray} {k : Int} (h : ¬ (1 <= (n.size : Int) /\ (n.size : Int) <= 8)) : okD (put l ⟨n, t, k⟩) = false := by
 cases hk : okD (put l ⟨n, t, k⟩) with
 | false => rfl
 | true =>
  have := (okD_iff.1 hk).2.1 ⟨n, t, k⟩ (A_Disk.put_mem.2 (.inl rfl))
  unfold A_Disk.fOk at this
  simp only [Bool.and_eq_true, decide_eq_true_eq] at this
  exact absurd this.1 h
theorem ok (l : List Fi) (k : Int) (n t o : ByteArray) (hl : l.length <= 1000) (ht : t.size <= 2305843009213693952) : c (rd l) k n t o = true /\ v (rd l) k n t o = res (act l k n t o) := by
 refine out _ _ _ _ _ ?_
 unfold vo b
 have h1 := U143.ok (rd l) n (by rw [Lib.rd_len]; omega)
 have h2 := okc l (by omega)
 rw [h2.1, h2.2, cond_true]
 unfold act
 cases hk : okD l with
 | false => rfl
 | true =>
 rw [Bool.not_true, cond_false, Bool.true_and, nm]
 obtain ⟨q1, q2, q3⟩ := okD_iff.1 hk
 have rn : ∀ f ∈ l, (1 <= (f.n.size : Int) /\ (f.n.size : Int) <= 8) /\ (f.t.size : Int) <= 20000 /\ f.kp <= (f.t.size : Int) := fun f hf => by
  have := q2 f hf
  unfold A_Disk.fOk at this
  simp only [Bool.and_eq_true, decide_eq_true_eq, Bool.not_eq_true', decide_eq_false_iff_not] at this
  omega
 by_cases hn : 1 <= (n.size : Int) /\ (n.size : Int) <= 8
 case neg =>
  rw [decide_eq_false hn, Bool.not_false, cond_true]
  have hno : l.find? (fun x => decide (x.n = n)) = none := by
   rw [List.find?_eq_none]
   intro x hx
   have := (rn x hx).1
   simp only [decide_eq_true_eq]
   intro e; rw [e] at this; exact hn this
  cases A_Disk.actOk k t o with
  | false => rfl
  | true =>
   rw [cond_true]
   unfold nxt
   rw [hno]
   by_cases k1 : k = 1
   ·rw [if_pos k1]; dsimp only; rw [no_put hn]; rfl
   ·rw [if_neg k1]; rfl
 rw [decide_eq_true hn, Bool.not_true, cond_false, Lib.beq_ba, Lib.beq_ba, h1.1, h1.2, cond_true, Lib.rd_len]
 unfold Lib.lt
 by_cases ko : k = 3 \/ o = ⟨#[]⟩
 case neg =>
  rw [not_or] at ko
  have : A_Disk.actOk k t o = false := by
   unfold A_Disk.actOk
   rw [decide_eq_false ko.1, decide_eq_false ko.2]; simp
  rw [this, show (k != 3) = true from bne_iff_ne.2 ko.1, cond_true, decide_eq_false ko.2]; rfl
 by_cases kt : k = 1 \/ t = ⟨#[]⟩
 case neg =>
  rw [not_or] at kt
  have : A_Disk.actOk k t o = false := by
   unfold A_Disk.actOk
   rw [decide_eq_false kt.1, decide_eq_false kt.2]; simp
  rw [this, show (k != 1) = true from bne_iff_ne.2 kt.1, cond_true, decide_eq_false kt.2]
  rcases ko with ko | ko
  ·subst ko; rfl
  ·rw [decide_eq_true ko]; cases (k != 3) <;> rfl
 have hpass : ∀ x : Option (Row × Bool), (bif k != 3 then (bif !decide (o = ⟨#[]⟩) then some (([] : Row), false) else (bif k != 1 then (bif !decide (t = ⟨#[]⟩) then some ([], false) else x) else x)) else (bif k != 1 then (bif !decide (t = ⟨#[]⟩) then some ([], false) else x) else x)) = x := fun x => by
  rcases ko with ko | ko <;> rcases kt with kt | kt
  ·omega
  ·subst ko; rw [decide_eq_true kt]; rfl
  ·subst kt; rw [decide_eq_true ko]; rfl
  ·rw [decide_eq_true ko, decide_eq_true kt]; cases (k != 3) <;> cases (k != 1) <;> rfl
 have wp := fun (m : List Fi) (hml : m.length <= 1000) (n t : ByteArray) (k : Int) => U166.ok m n t k (by omega)
 have wo := U167.ok l n (by omega)
 have wol := A_Disk.wo_len l n
 have pl := fun (m : List Fi) (f : Fi) (hm : m.length <= 1000) => okc (put m f) (Nat.le_trans (A_Disk.put_len f) (by omega))
 have fin : ∀ d : List Fi, (bif !okD d then some (([] : Row), false) else some (rd d, true)) = some (res (bif okD d then some d else none)) := fun d => by cases okD d <;> rfl
 by_cases hk4 : 1 <= k /\ k <= 4
 case neg =>
  have ha : A_Disk.actOk k t o = false := by
   unfold A_Disk.actOk
   rw [decide_eq_false hk4]; rfl
  rw [ha]
  refine (hpass _).trans ?_
  rcases U66.find l n with ⟨e1, e2⟩ | ⟨i, hi, e1, e2⟩
  ·rw [e1, decide_eq_false (show ¬ k = 1 by omega)]; rfl
  ·rw [e1]
   dsimp only
   rw [decide_eq_false (show ¬ k = 1 by omega), decide_eq_false (show ¬ k = 2 by omega), decide_eq_false (show ¬ k = 3 by omega), decide_eq_false (show ¬ k = 4 by omega), decide_eq_false (show ¬ ((i : Nat) : Int) < 0 by omega), decide_eq_true (show ((i : Nat) : Int) ≥ 0 by omega)]
   simp only [Lib.dlt, hi, decide_true, Bool.and_self, Bool.true_and, cond_true, cond_false]; rfl
 have ha : A_Disk.actOk k t o = true := by
  unfold A_Disk.actOk
  rw [decide_eq_true hk4, Bool.true_and, Bool.and_eq_true, Bool.or_eq_true, Bool.or_eq_true, decide_eq_true_eq, decide_eq_true_eq, decide_eq_true_eq, decide_eq_true_eq]
  exact ⟨kt.symm, ko.symm⟩
 rw [ha, cond_true]
 refine (hpass _).trans ?_
 unfold nxt
 rcases U66.find l n with ⟨e1, e2⟩ | ⟨i, hi, e1, e2⟩
 ·rw [e1, e2]
  dsimp only
  by_cases k1 : k = 1
  ·subst k1
   have p := wp l hl n (⟨#[]⟩ ++ t) 0
   have d := pl l ⟨n, ⟨#[]⟩ ++ t, 0⟩ hl
   have et : (⟨#[]⟩ : ByteArray) ++ t = t := ByteArray.empty_append
   rw [show decide ((-1 : Int) ≥ 0) = false from rfl, cond_false, decide_eq_true (show (1 : Int) = 1 from rfl), cond_true, decide_eq_true (show (⟨#[]⟩ : ByteArray).size + t.size <= 4611686018427387904 from by rw [show (⟨#[]⟩ : ByteArray).size = 0 from rfl]; omega), cond_true, p.1, p.2, cond_true, d.1, d.2, cond_true, fin, et]
   rfl
  ·rw [show decide ((-1 : Int) ≥ 0) = false from rfl, cond_false, decide_eq_false k1, cond_false, if_neg k1]; rfl
 ·have hf : (el l i).n = n := by
   have := List.find?_some e2
   exact of_decide_eq_true this
  have hfo := rn _ (Lib.el_mem hi)
  rw [e1, e2]
  dsimp only
  rw [decide_eq_false (show ¬ ((i : Nat) : Int) < 0 by omega), decide_eq_true (show ((i : Nat) : Int) ≥ 0 by omega), cond_true]
  simp only [Lib.dlt, hi, decide_true, Lib.toN, Lib.wd0 hi, Lib.wd1 hi, Lib.wd2 hi, cvS, cvI, Bool.and_self, Bool.true_and, cond_true, cond_false]
  by_cases k1 : k = 1
  ·subst k1
   have p := wp l hl (el l i).n ((el l i).t ++ t) (el l i).kp
   have d := pl l ⟨(el l i).n, (el l i).t ++ t, (el l i).kp⟩ hl
   rw [decide_eq_true (show (1 : Int) = 1 from rfl), cond_true, decide_eq_true (show (el l i).t.size + t.size <= 4611686018427387904 by omega), cond_true, p.1, p.2, cond_true, d.1, d.2, cond_true, fin]
   rfl
  rw [decide_eq_false k1, cond_false, if_neg k1]
  by_cases k2 : k = 2
  ·subst k2
   have p := wp l hl (el l i).n (el l i).t ((el l i).t.size : Int)
   have d := pl l ⟨(el l i).n, (el l i).t, ((el l i).t.size : Int)⟩ hl
   rw [decide_eq_true (show (2 : Int) = 2 from rfl), cond_true, p.1, p.2, cond_true, d.1, d.2, cond_true, fin]
   rfl
  rw [decide_eq_false k2, cond_false, if_neg k2]
  by_cases k3 : k = 3
  ·subst k3
   rw [decide_eq_true (show (3 : Int) = 3 from rfl), cond_true, if_pos rfl]
   by_cases b1 : (el l i).kp = ((el l i).t.size : Int)
   ·rw [decide_eq_false (show ¬ (el l i).kp < ((el l i).t.size : Int) by omega), cond_false, Lib.beq_ba, nm]
    by_cases b2 : o = n
    ·rw [decide_eq_true b2, cond_true, if_pos (.inr b2)]; rfl
    ·rw [decide_eq_false b2, cond_false, if_neg (by rintro (h | h); exact h b1; exact b2 h)]
     by_cases b3 : 1 <= (o.size : Int) /\ (o.size : Int) <= 8
     ·have p := wp (without l n) (by omega) o (el l i).t (el l i).kp
      have d := pl (without l n) ⟨o, (el l i).t, (el l i).kp⟩ (by omega)
      rw [decide_eq_true b3, Bool.not_true, cond_false, wo.1, wo.2, cond_true, p.1, p.2, cond_true, d.1, d.2, cond_true, fin]
     ·rw [decide_eq_false b3]; dsimp only; rw [no_put b3]; rfl
   ·rw [decide_eq_true (show (el l i).kp < ((el l i).t.size : Int) by omega), cond_true, if_pos (.inl b1)]; rfl
  rw [decide_eq_false k3, cond_false, if_neg k3]
  have k4 : k = 4 := by omega
  subst k4
  have d := okc (without l n) (by omega)
  rw [decide_eq_true (show (4 : Int) = 4 from rfl), cond_true, wo.1, wo.2, cond_true, d.1, d.2, cond_true, fin]
end Go.FG.U74

namespace Go.FG.U141
open Lib (rd el Fi)
open A_Disk (acts act ra Ac wa0 wa1 wa2 wa3 ra_len act_len)
theorem ok (l : List Fi) (a : List Ac) (hl : l.length <= 1000) (ha : a.length <= 1000000) (ht : ∀ x ∈ a, x.t.size <= 2305843009213693952) : c (rd l) (ra a) = true /\ v (rd l) (ra a) = (rd (acts l 0 a).1, ((acts l 0 a).2 : Int)) := by
 refine out _ _ ?_
 unfold vo b
 rw [Lib.length_zeros, Lib.rd_len, Lib.roomy_of (by omega) (by omega), cond_true, show zeros [Ck.s, Ck.s, Ck.i IntKind.i64] 0 ++ rd l = rd l from rfl]
 have key : ∀ (d i n : Nat) (z : Int) (l : List Fi), a.length - i <= d -> i <= a.length -> l.length <= 1000 -> d < n ->
   l3 Lib.big (fun (_ : Row) (y5 _ : Int) (y7 : Row) => some (y7, y5)) (fun (y8 : Row) (_ _ : Int) (y11 : Row) => some (y11, (↑(List.length y8) : Int))) n (ra a) z (i : Int) (rd l) = some (rd (acts l i (a.drop i)).1, ((acts l i (a.drop i)).2 : Int)) := by
  intro d
  induction d with
  | zero =>
   intro i n z l e1 e2 e3 e4
   obtain ⟨n, rfl⟩ : ∃ n', n = n' + 1 := ⟨n - 1, by omega⟩
   have : i = a.length := by omega
   subst this
   simp only [l3, r3, Lib.dlt, Nat.lt_irrefl, decide_false, cond_false, ra_len, List.drop_length, acts]
  | succ d ih =>
   intro i n z l e1 e2 e3 e4
   obtain ⟨n, rfl⟩ : ∃ n', n = n' + 1 := ⟨n - 1, by omega⟩
   by_cases hi : i < a.length
   ·have hd := U74.ok l (el a i).k (el a i).n (el a i).t (el a i).o e3 (ht _ (Lib.el_mem hi))
    simp only [l3, r3, Lib.dlt, ra_len, hi, decide_true, Lib.dle0, Bool.and_self, cond_true, Lib.toN, wa0 hi, wa1 hi, wa2 hi, wa3 hi, cvS, cvI, hd.1, hd.2, Lib.w64_s hi (by omega : a.length <= 9223372036854775807)]
    rw [List.drop_eq_getElem_cons hi, <- Lib.el_eq hi]
    unfold acts
    cases hac : act l (el a i).k (el a i).n (el a i).t (el a i).o with
    | none => rfl
    | some e =>
     have := (act_len hac).2
     exact ih (i + 1) n z e (by omega) hi (by omega) (by omega)
   ·have : i = a.length := by omega
    subst this
    simp only [l3, r3, Lib.dlt, Nat.lt_irrefl, decide_false, cond_false, ra_len, List.drop_length, acts]
 exact key a.length 0 Lib.big 0 l (by omega) (Nat.zero_le _) hl (Lib.lt_big (by omega))
end Go.FG.U141

namespace Go.FG.U51
open Lib (rd En)
open A_Kd (kd eok tx frm keepA keepA_row kd_keep tx_len frm_rng kd_len)
theorem eok_dr {k : ByteArray} {s l : Int} {t : ByteArray} (h : U72.dr k s l t) : eok ⟨k, s, l, t⟩ = true := by
 obtain ⟨h1, h2, h3, h4, h5⟩ := h
 have e : ∀ n a b, U122.v n a b = decide (a <= n /\ n <= b) := U53.in_eq
 show U149.v k s l t = true
 unfold U149.v U101.v
 rw [e, e, e, decide_eq_true (show 1 <= (k.size : Int) /\ (k.size : Int) <= 30 by omega), decide_eq_true (show 0 <= s /\ s <= 1000000000 by omega), decide_eq_true (show 1 <= l /\ l <= 999999 by omega), decide_eq_true (show (t.size : Int) <= 400 by omega)]; rfl
theorem keep_v {e : En} (h : eok e = true) : U140.c e.k e.st e.li e.bo = true /\ U140.v e.k e.st e.li e.bo = (A_Disk.ra (keepA (frm e)), true) := by
 have := U140.ok e.k e.st e.li e.bo
 refine ⟨this.1, this.2.trans ?_⟩
 unfold U43.val
 rw [if_pos (show U149.v e.k e.st e.li e.bo = true from h)]; rfl
theorem step (es : List En) (hl : es.length <= 6) (he : ∀ e ∈ es, eok e = true) {k : ByteArray} {s l : Int} {t : ByteArray} (h : U72.dr k s l t) :
  U140.c k s l t = true /\ (U140.v k s l t).2 = true /\ U141.c (rd (kd es)) (U140.v k s l t).1 = true /\ (U141.v (rd (kd es)) (U140.v k s l t).1).1 = rd (kd (es ++ [⟨k, s, l, t⟩])) /\ ∀ e ∈ es ++ [⟨k, s, l, t⟩], eok e = true := by
 have hk := eok_dr h
 have k1 := keep_v hk
 have h1 := tx_len es he
 have h2 := frm_rng hk
 have d1 := U141.ok (kd es) (keepA (frm ⟨k, s, l, t⟩)) (by have := kd_len es; omega) (by show 2 <= 1000000; omega) (fun x hx => by
  rcases List.mem_cons.1 hx with rfl | hx
  ·dsimp only; omega
  ·rw [List.mem_singleton.1 hx]; exact Nat.zero_le _)
 rw [kd_keep (by omega)] at d1
 refine ⟨k1.1, by rw [k1.2], by rw [k1.2]; exact d1.1, by rw [k1.2, d1.2], fun e h => ?_⟩
 rcases List.mem_append.1 h with h | h
 ·exact he e h
 ·rw [List.mem_singleton.1 h]; exact hk
theorem ok (q : Row) (a s : Int) (hI : U58.I q a) : ∃ (es : List En) (a' s' : Int), c q a s = true /\ v q a s = (rd (kd es), q, a', s') /\ U58.I q a' /\ es.length <= 6 /\ ∀ e ∈ es, eok e = true := by
 have more : ∀ (d i n : Nat) (es : List En) (a s : Int), 7 - i <= d -> i <= 6 -> es.length = i -> es ≠ [] -> (∀ e ∈ es, eok e = true) -> U58.I q a -> d < n -> ∃ x : List En × Int × Int,
   l3a Lib.big (fun (_ : Int) (y19 : Row) (y20 y21 : Int) => some ([], y19, y20, y21)) (fun (_ : Int) (y23 : Row) (y24 y25 : Int) (y26 : Row) => some (y26, y23, y24, y25)) n (i : Int) q a s (rd (kd es)) = some (rd (kd x.1), q, x.2.1, x.2.2) /\ U58.I q x.2.1 /\ x.1.length <= 6 /\ x.1 ≠ [] /\ ∀ e ∈ x.1, eok e = true := by
  intro d
  induction d with
  | zero =>
   intro i n es a s h1 h2 h3 hne he hI hn
   obtain ⟨n, rfl⟩ : ∃ n', n = n' + 1 := ⟨n - 1, by omega⟩
   obtain ⟨m, a1, s1, c1, v1, I1, g1, u1⟩ := U59.ok q a s 7 hI
   have := u1 (by omega)
   exact ⟨(es, a1, s1), by simp only [l3a, r3a, c1, v1, cond_true, decide_eq_false (show ¬ (i : Int) < m by omega), cond_false], I1, by dsimp only; omega, hne, he⟩
  | succ d ih =>
   intro i n es a s h1 h2 h3 hne he hI hn
   obtain ⟨n, rfl⟩ : ∃ n', n = n' + 1 := ⟨n - 1, by omega⟩
   obtain ⟨m, a1, s1, c1, v1, I1, g1, u1⟩ := U59.ok q a s 7 hI
   have hm := u1 (by omega)
   by_cases hi : (i : Int) < m
   ·obtain ⟨k, st, l, t, a2, s2, c2, v2, I2, g2⟩ := U72.ok q a1 s1 I1
    obtain ⟨k1, k2, k3, k4, k5⟩ := step es (by omega) he g2
    obtain ⟨x, x1, x2, x3, x4, x5⟩ := ih (i + 1) n (es ++ [⟨k, st, l, t⟩]) a2 s2 (by omega) (by omega) (by simp; omega) (by simp) k5 I2 (by omega)
    refine ⟨x, ?_, x2, x3, x4, x5⟩
    simp only [l3a, r3a, c1, v1, cond_true, decide_eq_true hi, c2, v2, k1, k2, k3, k4, Lib.w64_s (show i < 7 by omega) (by omega)]
    exact x1
   ·exact ⟨(es, a1, s1), by simp only [l3a, r3a, c1, v1, cond_true, decide_eq_false hi, cond_false], I1, by dsimp only; omega, hne, he⟩
 have key : ∀ n : Nat, 7 <= n -> ∃ x : List En × Int × Int, l3 Lib.big (fun (_ : Int) (y19 : Row) (y20 y21 : Int) => some ([], y19, y20, y21)) (fun (_ : Int) (y23 : Row) (y24 y25 : Int) (y26 : Row) => some (y26, y23, y24, y25)) (n + 1) 0 q a s = some (rd (kd x.1), q, x.2.1, x.2.2) /\ U58.I q x.2.1 /\ x.1.length <= 6 /\ ∀ e ∈ x.1, eok e = true := by
  intro n hn
  obtain ⟨m, a1, s1, c1, v1, I1, g1, u1⟩ := U59.ok q a s 7 hI
  by_cases hi : (0 : Int) < m
  ·obtain ⟨k, st, l, t, a2, s2, c2, v2, I2, g2⟩ := U72.ok q a1 s1 I1
   obtain ⟨k1, k2, k3, k4, k5⟩ := step [] (by simp) (fun e h => by cases h) g2
   obtain ⟨x, x1, x2, x3, _, x5⟩ := more 6 1 n [⟨k, st, l, t⟩] a2 s2 (by omega) (by omega) rfl (by simp) k5 I2 (by omega)
   have k3' : U141.c [] (U140.v k st l t).1 = true := k3
   have k4' : (U141.v [] (U140.v k st l t).1).1 = rd (kd [⟨k, st, l, t⟩]) := k4
   have w : w64 ((0 : Int) + 1) = ((1 : Nat) : Int) := rfl
   refine ⟨x, ?_, x2, x3, x5⟩
   simp only [l3, r3, c1, v1, cond_true, decide_eq_true hi, c2, v2, k1, k2, k3', k4', w]
   exact x1
  ·exact ⟨([], a1, s1), by simp only [l3, r3, c1, v1, cond_true, decide_eq_false hi, cond_false]; rfl, I1, Nat.zero_le _, fun e h => by cases h⟩
 obtain ⟨x, x1, x2, x3, x5⟩ := key 18446744073709551615 (by omega)
 obtain ⟨e1, e2⟩ := out q a s (x := (rd (kd x.1), q, x.2.1, x.2.2)) (by unfold vo b; exact x1)
 exact ⟨x.1, x.2.1, x.2.2, e1, e2, x2, x3, x5⟩
end Go.FG.U51

namespace Go.FG.U52
theorem ok (q : Row) (hl : q.length <= 1048576) : ∃ h, c q = true /\ v q = (q, 0, h) := by
 have key := Lib.loop_post (fun n (s : Nat × Int) => l3 Lib.big (fun (y3 : Row) (y4 _ : Int) => some (y3, (0 : Int), y4)) n q s.2 (s.1 : Int)) (fun s => q.length - s.1) (fun s => s.1 <= q.length) (fun r => ∃ h, r = (q, 0, h)) (fun n s hs => by
  obtain ⟨i, h⟩ := s
  dsimp only at hs ⊢
  by_cases hi : i < q.length
  ·by_cases h4 : (i : Int) < 4000
   ·right
    have hi1 : w64 ((i : Int) + 1) = ((i + 1 : Nat) : Int) := Lib.w64_ok (by omega) (by omega)
    have e : ∃ h', l3 Lib.big (fun (y3 : Row) (y4 _ : Int) => some (y3, (0 : Int), y4)) (n + 1) q h (i : Int) = l3 Lib.big (fun (y3 : Row) (y4 _ : Int) => some (y3, (0 : Int), y4)) n q h' ((i + 1 : Nat) : Int) :=
     ⟨_, by simp only [l3, r3, Lib.dlt, hi, h4, decide_true, Lib.dle0, Bool.and_self, cond_true, Lib.toN, hi1]; rfl⟩
    obtain ⟨h', e⟩ := e
    exact ⟨(i + 1, h'), hi, by dsimp only; omega, e⟩
   ·left
    exact ⟨_, by simp only [l3, r3, Lib.dlt, hi, h4, decide_true, decide_false, cond_true, cond_false]; rfl, _, rfl⟩
  ·left
   exact ⟨_, by simp only [l3, r3, Lib.dlt, hi, decide_false, cond_false]; rfl, _, rfl⟩) Lib.big (0, w64 (34901 + (q.length : Int))) (Nat.zero_le _) (Lib.lt_big (by omega))
 obtain ⟨b', hb, h, rfl⟩ := key
 obtain ⟨e1, e2⟩ := out q (x := (q, 0, h)) hb
 exact ⟨h, e1, e2⟩
end Go.FG.U52

namespace Go.FG.U23
open Lib (rd En)
open A_Kd (kd eok)
def fF (k _i : Int) (q : Row) (a s : Int) (acc : Row) : Option (Row × Row) := (bif (decide (k = 0)) then (bif (U73.c q a s) then (Lib.lt (U73.v q a s) (fun t16 => bif (roomy (List.length acc + List.length (List.set (zeros [Ck.s, Ck.i IntKind.i64, Ck.i IntKind.i64, Ck.s] 1) 0 [CV.s t16.1, CV.i IntKind.i64 t16.2.1, CV.i IntKind.i64 t16.2.2.1, CV.s t16.2.2.2.1])) 48) then (bif (U51.c t16.2.2.2.2.1 t16.2.2.2.2.2.1 t16.2.2.2.2.2.2) then (Lib.lt (U51.v t16.2.2.2.2.1 t16.2.2.2.2.2.1 t16.2.2.2.2.2.2) (fun t17 => bif (decide (k = 1)) then (bif (U74.c t17.1 1 { data := #[UInt8.ofNat 110, UInt8.ofNat 101, UInt8.ofNat 119] } { data := #[UInt8.ofNat 120] } { data := #[] }) then (Lib.lt (U74.v t17.1 1 { data := #[UInt8.ofNat 110, UInt8.ofNat 101, UInt8.ofNat 119] } { data := #[UInt8.ofNat 120] } { data := #[] }) (fun t18 => some (t18.1, acc ++ List.set (zeros [Ck.s, Ck.i IntKind.i64, Ck.i IntKind.i64, Ck.s] 1) 0 [CV.s t16.1, CV.i IntKind.i64 t16.2.1, CV.i IntKind.i64 t16.2.2.1, CV.s t16.2.2.2.1]))) else (none)) else (some (t17.1, acc ++ List.set (zeros [Ck.s, Ck.i IntKind.i64, Ck.i IntKind.i64, Ck.s] 1) 0 [CV.s t16.1, CV.i IntKind.i64 t16.2.1, CV.i IntKind.i64 t16.2.2.1, CV.s t16.2.2.2.1])))) else (none)) else (none))) else (none)) else (bif (U51.c q a s) then (Lib.lt (U51.v q a s) (fun t19 => bif (decide (k = 1)) then (bif (U74.c t19.1 1 { data := #[UInt8.ofNat 110, UInt8.ofNat 101, UInt8.ofNat 119] } { data := #[UInt8.ofNat 120] } { data := #[] }) then (Lib.lt (U74.v t19.1 1 { data := #[UInt8.ofNat 110, UInt8.ofNat 101, UInt8.ofNat 119] } { data := #[UInt8.ofNat 120] } { data := #[] }) (fun t20 => some (t20.1, acc))) else (none)) else (some (t19.1, acc)))) else (none)))
theorem fin (q : Row) (k i a s : Int) (acc : Row) (hI : U58.I q a) (ha : acc.length <= 5) : ∃ x : Row × Row, fF k i q a s acc = some x /\ x.1.length <= 30 /\ x.2.length <= 6 := by
 have rl : ∀ o : Option (List Lib.Fi), (∀ d, o = some d -> d.length <= 30) -> (U66.res o).1.length <= 30 := fun o h => by
  cases o with
  | none => exact Nat.zero_le _
  | some d => show (rd d).length <= 30; rw [Lib.rd_len]; exact h d rfl
 by_cases k0 : k = 0
 ·obtain ⟨ky, st, l, t, a1, s1, c1, v1, I1, _⟩ := U73.ok q a s hI
  obtain ⟨es, a2, s2, c2, v2, I2, g1, g2⟩ := U51.ok q a1 s1 I1
  have hk := A_Kd.kd_len es
  refine ⟨(rd (kd es), acc ++ [[CV.s ky, CV.i IntKind.i64 st, CV.i IntKind.i64 l, CV.s t]]), ?_, by rw [Lib.rd_len]; omega, by simp; omega⟩
  simp only [fF, Lib.lt, decide_eq_true k0, cond_true, c1, v1, Lib.set1, List.length_singleton, Lib.roomy_of (n := acc.length + 1) (b := 48) (by omega) (by omega), c2, v2, decide_eq_false (show ¬ k = 1 by omega), cond_false]
 ·obtain ⟨es, a2, s2, c2, v2, I2, g1, g2⟩ := U51.ok q a s hI
  have hk := A_Kd.kd_len es
  by_cases k1 : k = 1
  ·have h := U74.ok (kd es) 1 { data := #[UInt8.ofNat 110, UInt8.ofNat 101, UInt8.ofNat 119] } { data := #[UInt8.ofNat 120] } { data := #[] } (by omega) (by show 1 <= 2305843009213693952; omega)
   refine ⟨((U66.res (A_Disk.act (kd es) 1 { data := #[UInt8.ofNat 110, UInt8.ofNat 101, UInt8.ofNat 119] } { data := #[UInt8.ofNat 120] } { data := #[] })).1, acc), ?_, rl _ fun d hd => (A_Disk.act_len hd).2, by dsimp only; omega⟩
   simp only [fF, Lib.lt, decide_eq_false k0, cond_false, cond_true, c2, v2, decide_eq_true k1, h.1, h.2]
  ·refine ⟨(rd (kd es), acc), ?_, by rw [Lib.rd_len]; omega, by dsimp only; omega⟩
   simp only [fF, Lib.lt, decide_eq_false k0, cond_false, cond_true, c2, v2, decide_eq_false k1]
theorem ok (q : Row) (hl : q.length <= 1048576) : ∃ d l : Row, c q = true /\ v q = (d, l) /\ d.length <= 30 /\ l.length <= 6 := by
 obtain ⟨h, c1, v1⟩ := U52.ok q hl
 obtain ⟨k, a1, s1, c2, v2, I2, g2, u2⟩ := U59.ok q 0 h 8 ⟨by omega, by omega, hl⟩
 have go : ∀ (F : Int -> Int -> Row -> Int -> Int -> Row -> Option (Row × Row)), (∀ i a s acc, U58.I q a -> acc.length <= 5 -> ∃ x, F k i q a s acc = some x /\ x.1.length <= 30 /\ x.2.length <= 6) ->
   ∀ (d i n : Nat) (a s : Int) (acc : Row), 4 - i <= d -> i <= 4 -> acc.length = i -> U58.I q a -> d < n -> ∃ x, l5 Lib.big F n k (i : Int) q a s acc = some x /\ x.1.length <= 30 /\ x.2.length <= 6 := by
  intro F hF d
  induction d with
  | zero =>
   intro i n a s acc h1 h2 h3 hI hn
   obtain ⟨n, rfl⟩ : ∃ n', n = n' + 1 := ⟨n - 1, by omega⟩
   obtain ⟨m, a1, s1, c1, v1, I1, g1, u1⟩ := U59.ok q a s 4 hI
   have := u1 (by omega)
   obtain ⟨x, x1, x2⟩ := hF i a1 s1 acc I1 (by omega)
   exact ⟨x, by simp only [l5, r5, Lib.lt, c1, v1, cond_true, decide_eq_false (show ¬ (i : Int) < m by omega), cond_false]; exact x1, x2⟩
  | succ d ih =>
   intro i n a s acc h1 h2 h3 hI hn
   obtain ⟨n, rfl⟩ : ∃ n', n = n' + 1 := ⟨n - 1, by omega⟩
   obtain ⟨m, a1, s1, c1, v1, I1, g1, u1⟩ := U59.ok q a s 4 hI
   have hm := u1 (by omega)
   by_cases hi : (i : Int) < m
   ·obtain ⟨k2, st, l, t, a2, s2, c2, v2, I2, g2⟩ := U72.ok q a1 s1 I1
    obtain ⟨x, x1, x2⟩ := ih (i + 1) n a2 s2 (acc ++ [[CV.s k2, CV.i IntKind.i64 st, CV.i IntKind.i64 l, CV.s t]]) (by omega) (by omega) (by simp; omega) I2 (by omega)
    refine ⟨x, ?_, x2⟩
    simp only [l5, r5, Lib.lt, c1, v1, cond_true, decide_eq_true hi, c2, v2, Lib.set1, List.length_singleton, Lib.roomy_of (n := acc.length + 1) (b := 48) (by omega) (by omega), Lib.w64_s (show i < 4 by omega) (by omega)]
    exact x1
   ·obtain ⟨x, x1, x2⟩ := hF i a1 s1 acc I1 (by omega)
    exact ⟨x, by simp only [l5, r5, Lib.lt, c1, v1, cond_true, decide_eq_false hi, cond_false]; exact x1, x2⟩
 obtain ⟨x, x1, x2, x3⟩ := go fF (fun i a s acc hI ha => fin q k i a s acc hI ha) 4 0 Lib.big a1 s1 [] (by omega) (Nat.zero_le _) rfl I2 (Lib.lt_big (by omega))
 obtain ⟨e1, e2⟩ := out q (x := x) (by
  unfold vo b
  simp only [Lib.lt, c1, v1, c2, v2, cond_true]
  exact x1)
 exact ⟨x.1, x.2, e1, e2, x2, x3⟩
end Go.FG.U23

namespace Go.FG.U15
theorem ok (d l : Row) (hd : d.length <= 1048576) (hl : l.length <= 1048576) : c d l = true /\ v d l = U16.val d l := by
 refine out d l ?_
 have k1 := U60.ok d (by omega)
 have k2 := U62.ok d { data := #[UInt8.ofNat 110, UInt8.ofNat 101, UInt8.ofNat 119] } (by omega)
 have e2 : U54.val d { data := #[UInt8.ofNat 110, UInt8.ofNat 101, UInt8.ofNat 119] } = U54.val d U16.nm := rfl
 unfold vo b U16.val
 rw [k1.1, k1.2, cond_true]
 cases U53.val d with
 | false => rfl
 | true =>
  rw [Bool.not_true, cond_false, cond_true]
  have tr : ∀ (K0 K1 : Bool -> ByteArray -> Row -> Int -> Int -> Row -> Option (Row × Bool)) (kt : ByteArray -> Option (Row × Bool)) (h0 : ∀ x i, K0 false x l l.length i d = some ([], false)) (h1 : ∀ x i, K1 false x l l.length i d = kt x), l5 Lib.big K0 K1 Lib.big false ⟨#[]⟩ l l.length 0 d = U16.fin (U16.fs l l.length 0 ⟨#[]⟩) (some ([], false)) kt := by
   intro K0 K1 kt h0 h1
   refine U16.cat_run l hl (fun m i acc => l5 Lib.big K0 K1 m false acc l l.length (i : Int) d) _ kt (fun m i acc hi ha hf ho => ?_) (fun m i acc hi ho => ?_) (fun m acc => ?_)
   ·have hi1 : w64 ((i : Int) + 1) = ((i + 1 : Nat) : Int) := Lib.w64_ok (by omega) (by omega)
    have f1 := U61.ok (cvS (cellAt l i 0)) (cvI (cellAt l i 1)) (cvI (cellAt l i (1 + 1))) (cvS (cellAt l i (1 + 1 + 1)))
    have f2 : U61.val (cvS (cellAt l i 0)) (cvI (cellAt l i 1)) (cvI (cellAt l i (1 + 1))) (cvS (cellAt l i (1 + 1 + 1))) = (U64.fr (U16.tx l i), true) := by
     unfold U61.val; exact if_pos ho
    simp only [l5, r5, Lib.dlt, Lib.dle0, Lib.toN, hi, decide_true, Bool.and_self, cond_true, cond_false, f1.1, f1.2, f2, Bool.not_true, decide_eq_true (show acc.size + (U64.fr (U16.tx l i)).size <= 4611686018427387904 by omega), hi1]
   ·have f1 := U61.ok (cvS (cellAt l i 0)) (cvI (cellAt l i 1)) (cvI (cellAt l i (1 + 1))) (cvS (cellAt l i (1 + 1 + 1)))
    have f2 : U61.val (cvS (cellAt l i 0)) (cvI (cellAt l i 1)) (cvI (cellAt l i (1 + 1))) (cvS (cellAt l i (1 + 1 + 1))) = (⟨#[]⟩, false) := by
     unfold U61.val
     rw [if_neg (by
      intro h
      have h' : U16.eo l i = true := h
      rw [ho] at h'; cases h')]
    simp only [l5, r5, Lib.dlt, Lib.dle0, Lib.toN, hi, decide_true, Bool.and_self, cond_true, f1.1, f1.2, f2, Bool.not_false]
    exact h0 acc i
   ·simp only [l5, r5, Lib.dlt, Nat.lt_irrefl, decide_false, cond_false]
    exact h1 acc _
  refine (tr _ _ (fun x => some (U16.acts (U54.val d U16.nm).2 x, true)) (fun _ _ => rfl) (fun x _ => ?_)).trans ?_
  ·rw [k2.1, cond_true, k2.2, e2]
   cases (U54.val d U16.nm).2 <;> rfl
  ·cases U16.fs l l.length 0 ⟨#[]⟩ <;> rfl
end Go.FG.U15

namespace Go.FG.U18
theorem run (a : Row) (hl : a.length <= 9223372036854775807) : vo a a = some true := by
 unfold vo b
 rw [show ((a.length : Int) != (a.length : Int)) = false from bne_self_eq_false _, cond_false]
 have := Lib.loop_gen (fun n (i : Nat) => l4 Lib.big (fun (_ _ : Row) (y : Bool) (_ : Int) => some y) (fun (_ _ : Row) (_ : Bool) (_ : Int) => some true) n a a false (i : Int)) (fun i => a.length - i) (fun i => i <= a.length) (fun _ => some true) (fun n i hi => by
  by_cases h : i < a.length
  ·right
   refine ⟨i + 1, h, by omega, rfl, ?_⟩
   have hi1 : w64 ((i : Int) + 1) = ((i + 1 : Nat) : Int) := Lib.w64_ok (by omega) (by omega)
   simp only [l4, r4, Lib.dlt, h, decide_true, Lib.dle0, Bool.and_self, cond_true, Lib.toN, hi1, Lib.beq_refl_ba, Bool.not_true, cond_false]
  ·left
   simp only [l4, r4, Lib.dlt, h, decide_false, cond_false]) Lib.big 0 (Nat.zero_le _) (Lib.lt_big (by omega))
 exact this
theorem ok (a : Row) (hl : a.length <= 9223372036854775807) : c a a = true /\ v a a = true := out a a (run a hl)
end Go.FG.U18

namespace Go.FG.U12
open Lib (rd En)
open A_Kd (kd eok)
theorem ok (q : Row) (hl : q.length <= 1048576) : ∃ es : List En, c q = true /\ v q = rd (kd es) /\ es.length <= 6 /\ ∀ e ∈ es, eok e = true := by
 obtain ⟨h, c1, v1⟩ := U52.ok q hl
 obtain ⟨es, a', s', c2, v2, I2, g1, g2⟩ := U51.ok q 0 h ⟨by omega, by omega, hl⟩
 obtain ⟨e1, e2⟩ := out q (x := rd (kd es)) (by unfold vo b; simp only [Lib.lt, c1, v1, c2, v2, cond_true])
 exact ⟨es, e1, e2, g1, g2⟩
end Go.FG.U12

namespace Go.FG.U14
theorem ok (q : Row) (hl : q.length <= 1048576) : ∃ p, c q = true /\ v q = p /\ p.length = 12 /\ ∀ i, i < 12 -> 0 <= cvI (cellAt p i 0) /\ cvI (cellAt p i 0) < 10000 := by
 obtain ⟨h, c1, v1⟩ := U52.ok q hl
 obtain ⟨n0, a0, s0, c0, v0, I0, g0, u0⟩ := U58.ok q 0 h ⟨by omega, by omega, hl⟩
 have key := Lib.loop_post (fun n (z : Nat × Int × Int × Row) => l5 Lib.big (fun (_ : Int) (_ : Row) (_ _ : Int) (y9 : Row) => some y9) n (z.1 : Int) q z.2.1 z.2.2.1 z.2.2.2) (fun z => 12 - z.1) (fun z => z.1 <= 12 /\ U58.I q z.2.1 /\ z.2.2.2.length = z.1 /\ ∀ i, i < z.1 -> 0 <= cvI (cellAt z.2.2.2 i 0) /\ cvI (cellAt z.2.2.2 i 0) < 10000) (fun p => p.length = 12 /\ ∀ i, i < 12 -> 0 <= cvI (cellAt p i 0) /\ cvI (cellAt p i 0) < 10000) (fun n z hz => by
  obtain ⟨i, a, s, p⟩ := z
  obtain ⟨h1, h2, h3, h4⟩ := hz
  dsimp only at h1 h2 h3 h4 ⊢
  by_cases hi : (i : Int) < 12
  ·right
   have hi1 : w64 ((i : Int) + 1) = ((i + 1 : Nat) : Int) := Lib.w64_ok (by omega) (by omega)
   obtain ⟨n1, a1, s1, c1, v1, I1, g1, u1⟩ := U59.ok q a s 10000 h2
   have u1' := u1 (by omega)
   refine ⟨(i + 1, a1, s1, p ++ [[CV.i IntKind.i64 n1]]), ⟨by dsimp only; omega, I1, by simp [h3], fun j hj => ?_⟩, by dsimp only; omega, ?_⟩
   ·dsimp only at hj ⊢
    by_cases hji : j < i
    ·have := h4 j hji
     rw [show cellAt (p ++ [[CV.i IntKind.i64 n1]]) j 0 = cellAt p j 0 from by
      unfold cellAt; congr 1; rw [List.getD_eq_getElem?_getD, List.getD_eq_getElem?_getD, List.getElem?_append_left (by omega)]]
     exact this
    ·have hj2 : j = p.length := by omega
     rw [show cellAt (p ++ [[CV.i IntKind.i64 n1]]) j 0 = CV.i IntKind.i64 n1 from by
      rw [Lib.cellAt_mid p [CV.i IntKind.i64 n1] [] j 0 hj2.symm]; rfl]
     exact ⟨g1, u1'⟩
   ·simp only [Lib.lt, l5, r5, c1, v1, hi1, decide_eq_true hi, cond_true, Lib.len_set1, List.length_singleton, Lib.roomy_of (n := p.length + 1) (b := 8) (by omega) (by omega)]
  ·left
   have : i = 12 := by omega
   subst this
   exact ⟨p, by simp only [l5, r5, decide_eq_false hi, cond_false], h3, h4⟩) Lib.big (0, a0, s0, []) ⟨by omega, I0, rfl, fun i hi => absurd hi (Nat.not_lt_zero i)⟩ (Lib.lt_big (by dsimp only; omega))
 obtain ⟨p, hb, h1, h2⟩ := key
 obtain ⟨e1, e2⟩ := out q (x := p) (by
  unfold vo b
  simp only [Lib.lt, c1, v1, c0, v0, cond_true]; exact hb)
 exact ⟨p, e1, e2, h1, h2⟩
end Go.FG.U14

namespace Go.FG.U22
theorem ok (p : Row) (hp : 6 <= p.length) : c p = true /\ (v p).length = 6 := by
 have key : ∀ (d i n : Nat) (acc : Row), 6 - i <= d -> i <= 6 -> acc.length = i -> d < n -> ∃ q : Row, l3 Lib.big (fun (_ : Row) (_ : Int) (y5 : Row) => some y5) n p (i : Int) acc = some q /\ q.length = 6 := by
  intro d
  induction d with
  | zero =>
   intro i n acc h1 h2 h3 h4
   obtain ⟨n, rfl⟩ : ∃ n', n = n' + 1 := ⟨n - 1, by omega⟩
   have : i = 6 := by omega
   subst this
   exact ⟨acc, by simp only [l3, r3, show decide (((6 : Nat) : Int) < 6) = false from rfl, cond_false], h3⟩
  | succ d ih =>
   intro i n acc h1 h2 h3 h4
   obtain ⟨n, rfl⟩ : ∃ n', n = n' + 1 := ⟨n - 1, by omega⟩
   by_cases hi : i < 6
   ·obtain ⟨q, g1, g2⟩ := ih (i + 1) n (acc ++ [[CV.i IntKind.i64 (Int.tmod (cvI (cellAt p i 0)) 300)]]) (by omega) (by omega) (by simp; omega) (by omega)
    refine ⟨q, ?_, g2⟩
    simp only [l3, r3, decide_eq_true (show (i : Int) < 6 by omega), cond_true, Lib.dlt, show i < p.length by omega, decide_true, Lib.dle0, Bool.and_self, Lib.toN, Lib.len_set1, List.length_singleton, Lib.roomy_of (n := acc.length + 1) (b := 8) (by omega) (by omega), Lib.w64_s hi (by omega)]
    exact g1
   ·have : i = 6 := by omega
    subst this
    exact ⟨acc, by simp only [l3, r3, show decide (((6 : Nat) : Int) < 6) = false from rfl, cond_false], h3⟩
 obtain ⟨q, g1, g2⟩ := key 6 0 Lib.big [] (by omega) (by omega) rfl (Lib.lt_big (by omega))
 have := out p (x := q) (by unfold vo b; exact g1)
 exact ⟨this.1, by rw [this.2]; exact g2⟩
end Go.FG.U22

namespace Go.FG.U19
theorem run (a : Row) (hl : a.length <= 9223372036854775807) : vo a a = some true := by
 unfold vo b
 rw [show ((a.length : Int) != (a.length : Int)) = false from bne_self_eq_false _, cond_false]
 have := Lib.loop_gen (fun n (i : Nat) => l4 Lib.big (fun (_ _ : Row) (y : Bool) (_ : Int) => some y) (fun (_ _ : Row) (_ : Bool) (_ : Int) => some true) n a a false (i : Int)) (fun i => a.length - i) (fun i => i <= a.length) (fun _ => some true) (fun n i hi => by
  by_cases h : i < a.length
  ·right
   refine ⟨i + 1, h, by omega, rfl, ?_⟩
   have hi1 : w64 ((i : Int) + 1) = ((i + 1 : Nat) : Int) := Lib.w64_ok (by omega) (by omega)
   simp only [l4, r4, Lib.dlt, h, decide_true, Lib.dle0, Bool.and_self, cond_true, Lib.toN, hi1, Lib.beq_refl_ba, Bool.not_true, cond_false]
  ·left
   simp only [l4, r4, Lib.dlt, h, decide_false, cond_false]) Lib.big 0 (Nat.zero_le _) (Lib.lt_big (by omega))
 exact this
theorem ok (a : Row) (hl : a.length <= 9223372036854775807) : c a a = true /\ v a a = true := out a a (run a hl)
theorem tot (a d : Row) (hl : a.length <= 1048576) : c a d = true := by
 have : ∃ r : Bool, vo a d = some r := by
  unfold vo b
  by_cases hn : (a.length : Int) = (d.length : Int)
  ·rw [show ((a.length : Int) != (d.length : Int)) = false from by simp [hn], cond_false]
   have key := Lib.loop_post (fun n (i : Nat) => l4 Lib.big (fun (_ _ : Row) (y : Bool) (_ : Int) => some y) (fun (_ _ : Row) (_ : Bool) (_ : Int) => some true) n a d false (i : Int)) (fun i => a.length - i) (fun i => i <= a.length) (fun _ => True) (fun n i hi => by
    by_cases h : i < a.length
    ·have h2 : i < d.length := by omega
     generalize hq : (!(List.beq (ByteArray.toList (cvS (cellAt a i 0))) (ByteArray.toList (cvS (cellAt d i 0))) && (decide (cvI (cellAt a i 1) = cvI (cellAt d i 1)) && (decide (cvI (cellAt a i (1 + 1)) = cvI (cellAt d i (1 + 1))) && (List.beq (ByteArray.toList (cvS (cellAt a i (1 + 1 + 1)))) (ByteArray.toList (cvS (cellAt d i (1 + 1 + 1)))) && true))))) = q
     cases q with
     | true => left; exact ⟨false, by simp only [l4, r4, Lib.dlt, h, h2, decide_true, Lib.dle0, Bool.and_self, cond_true, Lib.toN, hq], trivial⟩
     | false =>
      right
      have hi1 : w64 ((i : Int) + 1) = ((i + 1 : Nat) : Int) := Lib.w64_ok (by omega) (by omega)
      exact ⟨i + 1, h, by omega, by simp only [l4, r4, Lib.dlt, h, h2, decide_true, Lib.dle0, Bool.and_self, cond_true, cond_false, Lib.toN, hq, hi1]⟩
    ·left
     exact ⟨true, by simp only [l4, r4, Lib.dlt, h, decide_false, cond_false], trivial⟩) Lib.big 0 (Nat.zero_le _) (Lib.lt_big (by omega))
   exact key.imp fun _ h => h.1
  ·rw [show ((a.length : Int) != (d.length : Int)) = true from bne_iff_ne.2 hn, cond_true]; exact ⟨false, rfl⟩
 obtain ⟨r, h⟩ := this
 exact (out a d h).1
end Go.FG.U19

namespace Go.FG.U3
open Lib (re rd el En)
open A_Kd (kd kp eok tx)
open A_Anew (anewA)
open A_En (So)
theorem end_ (q : Row) (hl : q.length <= 1048576) : (bif (U23.c q) then (Lib.lt (U23.v q) (fun t144 => bif (U15.c t144.1 t144.2) then (Lib.lt (U15.v t144.1 t144.2) (fun t145 => bif (U16.c t144.1 t144.2) then (Lib.lt (U16.v t144.1 t144.2) (fun t146 => bif (decide (t145.2 = t146.2)) then (bif (U18.c t145.1 t146.1) then (Lib.lt (U18.v t145.1 t146.1) (fun t147 => some t147)) else (none)) else (some false))) else (none))) else (none))) else (none)) = some true := by
 obtain ⟨d, l, c1, v1, g1, g2⟩ := U23.ok q hl
 have a1 := U15.ok d l (by omega) (by omega)
 have a2 := U16.ok d l (by omega) (by omega)
 have h3 := U18.ok (U16.val d l).1 (by have := (U16.val_sh d l).2; omega)
 simp only [Lib.lt, c1, v1, a1.1, a1.2, a2.1, a2.2, h3.1, h3.2, decide_true, cond_true]
theorem step {es l : List En} (hs : (tx es).size <= 20000) (hes : ∀ x ∈ es, eok x = true) (hl : (tx l).size <= 20000) (hel : ∀ x ∈ l, eok x = true) (hso : So l) (hle : l.length <= 1000) (hees : es.length <= 1000) :
  (U15.c (rd (kd es)) (re l) = true /\ U15.v (rd (kd es)) (re l) = (A_Disk.ra (anewA (tx l)), true)) /\ (U16.c (rd (kd es)) (re l) = true /\ U16.v (rd (kd es)) (re l) = (A_Disk.ra (anewA (tx l)), true)) /\
  (∃ D, (U17.c (rd (kd es)) (A_Disk.ra (anewA (tx l))) = true /\ U17.v (rd (kd es)) (A_Disk.ra (anewA (tx l))) = (D, 3)) /\ U20.c D = true /\ U20.v D = re l) /\
  (∀ (left : Row) (w : Nat), w <= 3 -> ∃ D A, (U21.c (rd (kd es)) (A_Disk.ra (anewA (tx l))) (w : Int) left = true /\ U21.v (rd (kd es)) (A_Disk.ra (anewA (tx l))) (w : Int) left = (D, true)) /\ (U20.c D = true /\ U20.v D = re A) /\ (A = kp es \/ A = l)) := by
 have hk := A_Kd.kd_len es
 have ht : ∀ x ∈ anewA (tx l), x.t.size <= 2305843009213693952 := fun x hx => by
  unfold anewA at hx
  simp only [List.mem_cons, List.not_mem_nil, or_false] at hx
  rcases hx with rfl | rfl | rfl
  ·dsimp only; omega
  ·exact Nat.zero_le _
  ·exact Nat.zero_le _
 have a1 := U15.ok (rd (kd es)) (re l) (by rw [Lib.rd_len]; omega) (by rw [Lib.re_len]; omega)
 have a2 := U16.ok (rd (kd es)) (re l) (by rw [Lib.rd_len]; omega) (by rw [Lib.re_len]; omega)
 rw [A_Anew.acts_val hs hel] at a1 a2
 obtain ⟨o, h1, h2⟩ := A_Kd.kd_o es
 have d1 := U17.ok (kd es) (anewA (tx l)) (by omega) (by show 3 <= 1000000; omega) ht
 have d2 : A_Disk.acts (kd es) 0 (anewA (tx l)) = (A_Kd.base (some (tx l)), 3) := by rw [h1]; exact A_Anew.anew (by rw [h2]; exact hs) hl
 rw [d2] at d1
 have hfk := (A_Kd.fk (A_Kd.base (some (tx l))) l ⟨#[]⟩ (A_Kd.base_ok (o := some (tx l)) hl) (by rw [A_Kd.base_file]; exact (ByteArray.append_empty).symm) hel (.inl rfl)).1
 rw [A_Anew.kp_so_self hso] at hfk
 refine ⟨a1, a2, ⟨_, d1, hfk.1, hfk.2⟩, fun left w hw => ?_⟩
 obtain ⟨D, e1, e2, A, e3, e4⟩ := A_Anew.cuts hs hes hl hel hso left w hw
 have cu := U21.ok (kd es) (anewA (tx l)) w left (by omega) (by show 3 <= 1000000; omega) ht (by show w <= 3; omega)
 rw [e1] at cu
 exact ⟨rd D, A, cu, e3, e4⟩
theorem run (q : Row) : vo q = some true := by
 unfold vo b
 by_cases hbig : (q.length : Int) > 1048576
 ·rw [show U11.v q = true from decide_eq_true hbig]; rfl
 rw [show U11.v q = false from decide_eq_false hbig, cond_false]
 obtain ⟨es, c1, v1, g1, g2⟩ := U12.ok q (by omega)
 obtain ⟨p, c3, v3, g4, g5⟩ := U14.ok q (by omega)
 have hx := A_Kd.tx_len es g2
 have fS := (A_Kd.kd_fk (es := es) (by omega) g2).2
 have lf := U22.ok p (by omega)
 have lk := A_Kd.kp_len es
 have hEnd := end_ q (by omega)
 have hkp : ∀ x ∈ kp es, eok x = true := fun x hx => g2 x (A_Kd.kp_mem hx)
 have sE := fun (l : List En) (hl : l.length <= 1000) => U19.ok (re l) (by rw [Lib.re_len]; omega)
 have hra : ∀ x, (List.length (A_Disk.ra (anewA x))) = 3 := fun _ => rfl
 have sA := fun x => U18.ok (A_Disk.ra (anewA x)) (by rw [hra]; omega)
 have p0 := (g5 0 (by omega)).1
 simp only [Lib.lt, c1, v1, c3, v3, fS.1, fS.2, cond_true, Lib.re_len]
 by_cases h1 : ((kp es).length : Int) > 1
 ·have hm0 := Int.emod_nonneg (cvI (cellAt p 0 0)) (show ((kp es).length : Int) ≠ 0 by omega)
  have hm1 := Int.emod_lt_of_pos (cvI (cellAt p 0 0)) (show (0 : Int) < ((kp es).length : Int) by omega)
  have hmt : Int.tmod (cvI (cellAt p 0 0)) ((kp es).length : Int) = (cvI (cellAt p 0 0)) % ((kp es).length : Int) := Int.tmod_eq_emod_of_nonneg p0
  obtain ⟨n, hn⟩ : ∃ n : Nat, 1 + Int.tmod (cvI (cellAt p 0 0)) ((kp es).length : Int) = (n : Int) := ⟨(1 + Int.tmod (cvI (cellAt p 0 0)) ((kp es).length : Int)).toNat, by omega⟩
  have hw : w64 (1 + Int.tmod (cvI (cellAt p (Int.toNat 0) 0)) ((kp es).length : Int)) = (n : Int) := by
   rw [show Int.toNat 0 = 0 from rfl, hn]; exact Lib.w64_ok (by omega) (by omega)
  have hv : view (re (kp es)) (Int.toNat 0) n = re ((kp es).take n) := by
   unfold view Lib.re
   rw [show Int.toNat 0 = 0 from rfl, List.drop_zero, Nat.sub_zero, List.map_take]
  have hln : ((kp es).take n).length <= es.length := by rw [List.length_take]; omega
  have hel : ∀ x ∈ (kp es).take n, eok x = true := fun x hx => hkp x (List.mem_of_mem_take hx)
  have htl := A_Kd.tx_len _ hel
  obtain ⟨s1, s2, ⟨D, s3, s4⟩, s5⟩ := step (es := es) (l := (kp es).take n) (by omega) g2 (by omega) hel ((A_Kd.kp_so es).sublist (List.take_sublist ..)) (by omega) (by omega)
  have sl := sE ((kp es).take n) (by omega)
  simp only [decide_eq_true h1, cond_true, g4, show decide ((0 : Int) < ((12 : Nat) : Int)) = true from rfl, decide_eq_false (show ¬ ((kp es).length : Int) = 0 by omega), Bool.not_false, hw, show inB 0 (n : Int) ((kp es).length : Int) = true from by simp [inB]; omega, Lib.toN, hv, s1.1, s1.2, s2.1, s2.2, s3.1, s3.2, (sA _).1, (sA _).2, hra, show ((3 : Int) != ((3 : Nat) : Int)) = false from rfl, decide_true, Bool.not_true, cond_false, s4.1, s4.2, sl.1, sl.2]
  have key := Lib.for_run 4 (fun m (i : Nat) (_ : Unit) => l14 Lib.big (fun (_ : Row) (y127 : Bool) (_ _ : Nat) (_ : Int) (_ _ _ _ : Row) => some y127) (fun (y135 : Row) (_ : Bool) (_ _ : Nat) (_ : Int) (_ _ _ _ : Row) => bif (U23.c y135) then (Lib.lt (U23.v y135) (fun t144 => bif (U15.c t144.1 t144.2) then (Lib.lt (U15.v t144.1 t144.2) (fun t145 => bif (U16.c t144.1 t144.2) then (Lib.lt (U16.v t144.1 t144.2) (fun t146 => bif (decide (t145.2 = t146.2)) then (bif (U18.c t145.1 t146.1) then (Lib.lt (U18.v t145.1 t146.1) (fun t147 => some t147)) else (none)) else (some false))) else (none))) else (none))) else (none)) (fun (_ : Row) (y149 : Bool) (_ : Int) (_ _ _ _ : Row) => some y149) (fun (y155 : Row) (_ : Bool) (_ : Int) (_ _ _ _ : Row) => bif (U23.c y155) then (Lib.lt (U23.v y155) (fun t144 => bif (U15.c t144.1 t144.2) then (Lib.lt (U15.v t144.1 t144.2) (fun t145 => bif (U16.c t144.1 t144.2) then (Lib.lt (U16.v t144.1 t144.2) (fun t146 => bif (decide (t145.2 = t146.2)) then (bif (U18.c t145.1 t146.1) then (Lib.lt (U18.v t145.1 t146.1) (fun t147 => some t147)) else (none)) else (some false))) else (none))) else (none))) else (none)) m q false (Int.toNat 0) n (i : Int) (re (kp es)) p (A_Disk.ra (anewA (tx ((kp es).take n)))) (rd (kd es))) (fun _ => ()) (some true) (fun m i hi => by
   obtain ⟨D2, A, t1, t2, t3⟩ := s5 (U22.v p) i (by omega)
   have w := Lib.w64_s hi (by omega : 4 <= 9223372036854775807)
   have hle : decide ((i : Int) <= (((3 : Nat)) : Int)) = true := decide_eq_true (by omega)
   have hA : A.length <= 1000 := by rcases t3 with rfl | rfl <;> omega
   have tt := U19.tot (re A) (re ((kp es).take n)) (by rw [Lib.re_len]; omega)
   simp only [l14, r14, Lib.lt, hra, hle, lf.1, t1.1, t1.2, t2.1, t2.2, hv, tt, cond_true, Bool.not_true, cond_false, w]
   rcases t3 with rfl | rfl
   ·have s6 := sE (kp es) (by omega)
    cases U19.v (re (kp es)) (re ((kp es).take n)) with
    | true => rfl
    | false => simp only [Bool.not_false, cond_true, fS.1, fS.2, s6.1, s6.2, Bool.not_true, cond_false]
   ·rw [sl.2]; rfl) (fun m => by
   simp only [l14, r14, Lib.lt, hra, show decide (((4 : Nat) : Int) <= ((3 : Nat) : Int)) = false from rfl, cond_false]
   exact hEnd) Lib.big 0 (Nat.zero_le _) (Lib.lt_big (by omega))
  exact key
 ·have htl := A_Kd.tx_len _ hkp
  obtain ⟨s1, s2, ⟨D, s3, s4⟩, s5⟩ := step (es := es) (l := kp es) (by omega) g2 (by omega) hkp (A_Kd.kp_so es) (by omega) (by omega)
  have sl := sE (kp es) (by omega)
  simp only [decide_eq_false h1, cond_true, s1.1, s1.2, s2.1, s2.2, s3.1, s3.2, (sA _).1, (sA _).2, hra, show ((3 : Int) != ((3 : Nat) : Int)) = false from rfl, decide_true, Bool.not_true, cond_false, s4.1, s4.2, sl.1, sl.2]
  have key := Lib.for_run 4 (fun m (i : Nat) (_ : Unit) => l14a Lib.big (fun (_ : Row) (y127 : Bool) (_ _ : Nat) (_ : Int) (_ _ _ _ : Row) => some y127) (fun (y135 : Row) (_ : Bool) (_ _ : Nat) (_ : Int) (_ _ _ _ : Row) => bif (U23.c y135) then (Lib.lt (U23.v y135) (fun t144 => bif (U15.c t144.1 t144.2) then (Lib.lt (U15.v t144.1 t144.2) (fun t145 => bif (U16.c t144.1 t144.2) then (Lib.lt (U16.v t144.1 t144.2) (fun t146 => bif (decide (t145.2 = t146.2)) then (bif (U18.c t145.1 t146.1) then (Lib.lt (U18.v t145.1 t146.1) (fun t147 => some t147)) else (none)) else (some false))) else (none))) else (none))) else (none)) (fun (_ : Row) (y149 : Bool) (_ : Int) (_ _ _ _ : Row) => some y149) (fun (y155 : Row) (_ : Bool) (_ : Int) (_ _ _ _ : Row) => bif (U23.c y155) then (Lib.lt (U23.v y155) (fun t144 => bif (U15.c t144.1 t144.2) then (Lib.lt (U15.v t144.1 t144.2) (fun t145 => bif (U16.c t144.1 t144.2) then (Lib.lt (U16.v t144.1 t144.2) (fun t146 => bif (decide (t145.2 = t146.2)) then (bif (U18.c t145.1 t146.1) then (Lib.lt (U18.v t145.1 t146.1) (fun t147 => some t147)) else (none)) else (some false))) else (none))) else (none))) else (none)) m q false (i : Int) (re (kp es)) p (A_Disk.ra (anewA (tx (kp es)))) (rd (kd es))) (fun _ => ()) (some true) (fun m i hi => by
   obtain ⟨D2, A, t1, t2, t3⟩ := s5 (U22.v p) i (by omega)
   have hAe : A = kp es := by rcases t3 with rfl | rfl <;> rfl
   subst hAe
   have w := Lib.w64_s hi (by omega : 4 <= 9223372036854775807)
   have hle : decide ((i : Int) <= (((3 : Nat)) : Int)) = true := decide_eq_true (by omega)
   simp only [l14a, r14a, Lib.lt, hra, hle, lf.1, t1.1, t1.2, t2.1, t2.2, sl.1, sl.2, cond_true, Bool.not_true, cond_false, w]) (fun m => by
   simp only [l14a, r14a, Lib.lt, hra, show decide (((4 : Nat) : Int) <= ((3 : Nat) : Int)) = false from rfl, cond_false]
   exact hEnd) Lib.big 0 (Nat.zero_le _) (Lib.lt_big (by omega))
  exact key
theorem law (q : Row) {A : Prop} (_ : A) : v q = true := (out _ (run q)).2
theorem lawc (q : Row) {A : Prop} (_ : A) : c q = true := (out _ (run q)).1
end Go.FG.U3

