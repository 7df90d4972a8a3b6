/- What the functions come to, in plain numbers, texts and lists; last the law itself. No condition but those that each states. -/
import Derived.Test.YtijidheebmbkcaaGreatPExactPartOf
set_option linter.unusedVariables false
set_option linter.unusedSimpArgs false
set_option maxRecDepth 100000
namespace Go.FG.U116
def has (l : List ByteArray) (k : ByteArray) : Bool := l.any fun x => decide (x = k)
def without (l : List ByteArray) (k : ByteArray) : List ByteArray := l.filter fun x => !decide (x = k)
theorem has_iff {l : List ByteArray} {k : ByteArray} : has l k = true ↔ k ∈ l := by unfold has; simp
theorem has_no {l : List ByteArray} {k : ByteArray} : has l k = false ↔ k ∉ l := by rw [<- has_iff]; cases has l k <;> simp
theorem ok (l : List ByteArray) (k : ByteArray) (hl : l.length <= 4294967296) : c (Lib.rs l) k = true /\ v (Lib.rs l) k = has l k := by
 refine out _ _ ?_
 unfold vo b
 have := Lib.any_list l (fun x => decide (x = k)) (fun m (i : Nat) => l2 Lib.big (fun (_ : Row) (_ : ByteArray) (y6 : Bool) (_ : Int) => some y6) (fun (_ : Row) (_ : ByteArray) (_ : Bool) (_ : Int) => some false) m (Lib.rs l) k false (i : Int)) (some true) (some false)
  (fun m i h hp => by simp only [l2, r2, Lib.rs_len, Lib.dlt, h, decide_true, Lib.dle0, Bool.and_self, cond_true, Lib.toN, Lib.rs0 h, cvS, Lib.beq_ba, hp])
  (fun m i h hp => by simp only [l2, r2, Lib.rs_len, Lib.dlt, h, decide_true, Lib.dle0, Bool.and_self, cond_true, Lib.toN, Lib.rs0 h, cvS, Lib.beq_ba, hp, cond_false, Lib.w64_s h (by omega : l.length <= 9223372036854775807)])
  (fun m => by simp only [l2, r2, Lib.rs_len, Lib.dlt, Nat.lt_irrefl, decide_false, cond_false]) Lib.big (Lib.lt_big (by omega))
 refine this.trans ?_
 unfold has; cases l.any fun x => decide (x = k) <;> rfl
end Go.FG.U116

namespace Go.FG.U132
theorem ok (l : Row) (hl : l.length <= 4294967296) : c l = true /\ v l = l := by
 refine out l ?_
 unfold vo b
 rw [show List.length (zeros [Ck.i IntKind.i64] 0) + l.length = l.length by simp [zeros], Lib.roomy_of (by omega) (by omega)]
 rfl
end Go.FG.U132

namespace Go.FG.U106
open Lib (rr)
def fitS (s : List (List Int)) : Prop := s.length <= 1048576 /\ ∀ q ∈ s, q.length <= 1048576
theorem run {R : Type} (N : Nat) (K0 : Row -> Int -> Int -> Int -> Int -> Option R) (K1 : Row -> Int -> Int -> Int -> Int -> Row -> Option R) (s : List (List Int)) (z a : Int) (hf : fitS s) (m : Nat) (hm : s.length + 1 < m) (kr : Row -> Option R)
  (h0 : s = [] -> K0 (rr s) 0 0 z a = kr []) (h1 : K1 (rr s) s.length s.length z a (rr s) = kr (rr s)) : l3 N K0 K1 m (rr s) (s.length : Int) 0 z a = kr (rr s) := by
 obtain ⟨m, rfl⟩ : ∃ m', m = m' + 1 := ⟨m - 1, by omega⟩
 have hci : ∀ i (h : i < s.length), U132.c (Lib.ri s[i]) = true /\ U132.v (Lib.ri s[i]) = Lib.ri s[i] := fun i h => U132.ok _ (by rw [Lib.ri_len]; have := hf.2 _ (List.getElem_mem h); omega)
 by_cases hs : s = []
 ·subst hs
  simp only [l3, r3, List.length_nil, Int.natCast_zero, Int.lt_irrefl, decide_false, cond_false]
  exact h0 rfl
 ·have hp : 0 < s.length := List.length_pos_iff.2 hs
  have key := Lib.for_run (R := R) s.length (fun m i (x : Row) => l3a N K0 K1 m (rr s) (s.length : Int) (i : Int) z a x) (fun i => rr (s.take i)) (kr (rr s)) (fun m i h => by
   have hl := hf.1
   simp only [l3a, r3a, Lib.dlt, h, decide_true, cond_true, Lib.dle0, Bool.true_and, Lib.rr_len, Lib.toN, Lib.rr0 h, cvL, (hci i h).1, (hci i h).2, Lib.set1, List.length_singleton]
   rw [Lib.roomy_of (by rw [List.length_take]; omega) (by rw [List.length_take]; omega), cond_true, Lib.w64_s h (by omega)]
   have := Lib.take_snoc (fun q => [CV.l 3 (Lib.ri q)]) s i h
   unfold rr; rw [<- this]) (fun m => by
   simp only [l3a, r3a, Lib.dlt, Nat.lt_irrefl, decide_false, cond_false, List.take_length]; exact h1) m 1 hp (by omega)
  simp only [l3, r3, decide_eq_true (show (0 : Int) < (s.length : Int) by omega), cond_true, Bool.and_self, Lib.rr_len, show decide ((0 : Int) <= 0) = true from rfl]
  have e := hci 0 hp
  have e0 := Lib.rr0 (l := s) hp
  simp only [show Int.toNat 0 = 0 from rfl, e0, cvL, e.1, e.2, cond_true, Lib.set1, List.nil_append]
  rw [show w64 (0 + 1) = ((1 : Nat) : Int) from rfl]
  refine Eq.trans ?_ key
  have := Lib.take_snoc (fun q => [CV.l 3 (Lib.ri q)]) s 0 hp
  unfold rr; rw [show (0 + 1) = 1 from rfl] at this; rw [<- this]; rfl
theorem ok (s : List (List Int)) (a : Int) (hf : fitS s) : c (rr s) a = true /\ v (rr s) a = (rr s, a) := by
 refine out _ _ ?_
 unfold vo b
 rw [Lib.rr_len]
 exact run Lib.big (fun _ _ _ _ y => some ([], y)) (fun _ _ _ _ y20 y21 => some (y21, y20)) s 0 a hf Lib.big (Lib.lt_big (by have := hf.1; omega)) (fun x => some (x, a)) (fun _ => rfl) rfl
end Go.FG.U106

namespace Go.FG.U137
open Lib (rr)
def nOk (n : Int) : Bool := decide (0 <= n /\ n <= 15)
def rowOk (q : List Int) : Bool := decide (q.length = 16) && q.all nOk
def skOk (s : List (List Int)) (a : Int) : Bool := decide (s.length = 3) && (decide (0 <= a /\ a <= 63) && s.all rowOk)
theorem in_dec (n a b : Int) : U60.v n a b = decide (a <= n /\ n <= b) := by
 unfold U60.v
 by_cases h1 : a <= n
 ·rw [decide_eq_true (show n ≥ a from h1), cond_true]
  by_cases h2 : n <= b <;> simp [h1, h2]
 ·rw [decide_eq_false (show ¬ n ≥ a from h1), cond_false]; simp [h1]
theorem ok (s : List (List Int)) (a : Int) (hf : U106.fitS s) : c (rr s) a = true /\ v (rr s) a = skOk s a := by
 refine out _ _ ?_
 unfold vo b skOk
 rw [Lib.rr_len]
 by_cases h3 : ¬ s.length = 3
 ·rw [show ((s.length : Int) != 3) = true by simp; omega, decide_eq_false h3]; rfl
 have h3 : s.length = 3 := Decidable.not_not.1 h3
 rw [show ((s.length : Int) != 3) = false by simp; omega, decide_eq_true h3, cond_false, in_dec]
 cases h4 : decide (0 <= a /\ a <= 63) with
 | false => rfl
 | true =>
  rw [Bool.not_true, cond_false, Bool.true_and, Bool.true_and]
  have inner : ∀ i (h : i < s.length) (K0 K1 : Bool -> Int -> Int -> Row -> Int -> Option Bool) (kf kt : Option Bool) (h0 : ∀ j : Int, K0 false i j (rr s) a = kf) (h1 : ∀ j : Int, K1 false i j (rr s) a = kt), l9 Lib.big K0 K1 Lib.big false (i : Int) 0 (rr s) a = bif (s[i]).all nOk then kt else kf := fun i h K0 K1 kf kt h0 h1 =>
   Lib.all_list (s[i]) nOk (fun m (j : Nat) => l9 Lib.big K0 K1 m false (i : Int) (j : Int) (rr s) a) kf kt
    (fun m j hj hp => by
     have hl := hf.2 _ (List.getElem_mem h)
     unfold nOk at hp
     simp only [l9, r9, Lib.rr_len, Lib.dlt, h, decide_true, Lib.dle0, Bool.and_self, cond_true, Lib.toN, Lib.rr0 h, cvL, Lib.ri_len, hj, Lib.ri0 hj, cvI, in_dec, hp, Bool.not_true, cond_false, Lib.w64_s hj (by omega : s[i].length <= 9223372036854775807)])
    (fun m j hj hp => by
     unfold nOk at hp
     simp only [l9, r9, Lib.rr_len, Lib.dlt, h, decide_true, Lib.dle0, Bool.and_self, cond_true, Lib.toN, Lib.rr0 h, cvL, Lib.ri_len, hj, Lib.ri0 hj, cvI, in_dec, hp, Bool.not_false, h0])
    (fun m => by simp only [l9, r9, Lib.rr_len, Lib.dlt, h, decide_true, Lib.dle0, Bool.and_self, cond_true, Lib.toN, Lib.rr0 h, cvL, Lib.ri_len, Nat.lt_irrefl, decide_false, cond_false, h1]) Lib.big (Lib.lt_big (by have := hf.2 _ (List.getElem_mem h); omega))
  have key := Lib.all_list s rowOk (fun m (i : Nat) => l4 Lib.big (fun (y19 : Bool) (_ : Int) (_ : Row) (_ : Int) => some y19) (fun (_ : Bool) (_ : Int) (_ : Row) (_ : Int) => some true) m false (i : Int) (rr s) a) (some false) (some true)
   (fun m i h hp => by
    unfold rowOk at hp
    rw [Bool.and_eq_true] at hp
    have hl := of_decide_eq_true hp.1
    simp only [l4, r4, Lib.rr_len, Lib.dlt, h, decide_true, Lib.dle0, Bool.and_self, cond_true, Lib.toN, Lib.rr0 h, cvL, Lib.ri_len, hl, show (((16 : Nat) : Int) != 16) = false from rfl, cond_false]
    rw [inner i h _ _ _ _ (fun _ => rfl) (fun _ => rfl), hp.2, cond_true, Lib.w64_s h (by omega)])
   (fun m i h hp => by
    unfold rowOk at hp
    by_cases hl : s[i].length = 16
    ·rw [decide_eq_true hl, Bool.true_and] at hp
     simp only [l4, r4, Lib.rr_len, Lib.dlt, h, decide_true, Lib.dle0, Bool.and_self, cond_true, Lib.toN, Lib.rr0 h, cvL, Lib.ri_len, hl, show (((16 : Nat) : Int) != 16) = false from rfl, cond_false]
     rw [inner i h _ _ _ _ (fun _ => rfl) (fun _ => rfl), hp, cond_false]
    ·simp only [l4, r4, Lib.rr_len, Lib.dlt, h, decide_true, Lib.dle0, Bool.and_self, cond_true, Lib.toN, Lib.rr0 h, cvL, Lib.ri_len, show ((s[i].length : Int) != 16) = true by simp; omega])
   (fun m => by simp only [l4, r4, Lib.rr_len, Lib.dlt, Nat.lt_irrefl, decide_false, cond_false]) Lib.big (Lib.lt_big (by omega))
  refine key.trans ?_
  cases s.all rowOk <;> rfl
end Go.FG.U137

namespace Go.FG.U114
open Lib (rr rs)
open U116 (has without has_iff has_no)
def keyOk (k : ByteArray) : Bool := decide (1 <= (k.size : Int) /\ (k.size : Int) <= 30)
def kOk (l : List ByteArray) (i : Nat) : Bool := keyOk (l.getD i ⟨#[]⟩) && !has (l.take i) (l.getD i ⟨#[]⟩)
def keysOk (l : List ByteArray) : Bool := (List.range l.length).all (kOk l)
def pOk (w m : List ByteArray) (s : List (List Int)) (a : Int) : Bool := keysOk (w ++ m) && (decide (w.length <= 2) && (decide (m.length <= 4) && U137.skOk s a))
theorem key_dec (k : ByteArray) : U88.v k = keyOk k := U137.in_dec _ _ _
theorem view_rs (l : List ByteArray) (i : Nat) : view (Lib.rs l) (Int.toNat 0) i = Lib.rs (l.take i) := by
 unfold view Lib.rs; rw [show Int.toNat 0 = 0 from rfl, List.drop_zero, Nat.sub_zero, List.map_take]
theorem ok (w m : List ByteArray) (s : List (List Int)) (a : Int) (hw : w.length <= 1048576) (hm : m.length <= 1048576) (hf : U106.fitS s) : c (rs w) (rs m) (rr s) a = true /\ v (rs w) (rs m) (rr s) a = pOk w m s a := by
 refine out _ _ _ _ ?_
 have h2 := U137.ok s a hf
 unfold vo b
 have r1 : roomy (List.length (zeros [Ck.s] 0) + List.length (rs w)) 16 = true := Lib.roomy_of (by simp [zeros, Lib.rs_len]; omega) (by simp [zeros, Lib.rs_len]; omega)
 have r2 : roomy (List.length (zeros [Ck.s] 0 ++ rs w) + List.length (rs m)) 16 = true := Lib.roomy_of (by simp [zeros, Lib.rs_len]; omega) (by simp [zeros, Lib.rs_len]; omega)
 have e : zeros [Ck.s] 0 ++ rs w ++ rs m = rs (w ++ m) := by
  rw [show zeros [Ck.s] 0 ++ rs w = rs w from rfl]; unfold Lib.rs; rw [List.map_append]
 rw [r1, r2, cond_true, cond_true, e]
 have hl : (w ++ m).length <= 2097152 := by rw [List.length_append]; omega
 have hin : ∀ i, i < (w ++ m).length -> U116.c (rs ((w ++ m).take i)) ((w ++ m).getD i ⟨#[]⟩) = true /\ U116.v (rs ((w ++ m).take i)) ((w ++ m).getD i ⟨#[]⟩) = has ((w ++ m).take i) ((w ++ m).getD i ⟨#[]⟩) := fun i hi => U116.ok _ _ (by rw [List.length_take]; omega)
 have hk : ∀ i (hi : i < (w ++ m).length), cvS (cellAt (rs (w ++ m)) i 0) = (w ++ m).getD i ⟨#[]⟩ := fun i hi => by rw [Lib.rs0 hi, show (w ++ m).getD i ⟨#[]⟩ = (w ++ m)[i] by rw [List.getD_eq_getElem?_getD, List.getElem?_eq_getElem hi]; rfl]; rfl
 generalize hL : w ++ m = L at hl hin hk
 have key := Lib.all_gen (kOk L) L.length (fun n (i : Nat) => l3 Lib.big (fun (y7 : Bool) (_ : Int) (_ _ _ : Row) (_ : Int) (_ : Row) => some y7) (fun (_ : Bool) (_ : Int) (y16 y17 y18 : Row) (y19 : Int) (_ : Row) => bif (decide ((↑(List.length y16) : Int) <= 2)) then (bif (decide ((↑(List.length y17) : Int) <= 4)) then (bif (U137.c y18 y19) then (some (U137.v y18 y19)) else (none)) else (some false)) else (some false)) n false (i : Int) (rs w) (rs m) (rr s) a (rs L)) (some false) (some (decide (w.length <= 2) && (decide (m.length <= 4) && U137.skOk s a)))
  (fun n i hi hp => by
   unfold kOk at hp
   rw [Bool.and_eq_true, Bool.not_eq_true'] at hp
   have b1 : inB 0 (i : Int) (L.length : Int) = true := by simp [inB]; omega
   simp only [l3, r3, Lib.rs_len, Lib.dlt, hi, decide_true, Lib.dle0, Bool.and_self, cond_true, Lib.toN, hk i hi, key_dec, hp.1, Bool.not_true, cond_false, b1, view_rs, (hin i hi).1, (hin i hi).2, hp.2, Lib.w64_s hi (by omega : L.length <= 9223372036854775807)])
  (fun n i hi hp => by
   have b1 : inB 0 (i : Int) (L.length : Int) = true := by simp [inB]; omega
   unfold kOk at hp
   cases h1 : keyOk (L.getD i ⟨#[]⟩) with
   | false => simp only [l3, r3, Lib.rs_len, Lib.dlt, hi, decide_true, Lib.dle0, Bool.and_self, cond_true, Lib.toN, hk i hi, key_dec, h1, Bool.not_false]
   | true =>
    rw [h1, Bool.true_and, Bool.not_eq_false'] at hp
    simp only [l3, r3, Lib.rs_len, Lib.dlt, hi, decide_true, Lib.dle0, Bool.and_self, cond_true, Lib.toN, hk i hi, key_dec, h1, Bool.not_true, cond_false, b1, view_rs, (hin i hi).1, (hin i hi).2, hp])
  (fun n => by
   simp only [l3, r3, Lib.rs_len, Lib.dlt, Nat.lt_irrefl, decide_false, cond_false, h2.1, h2.2, cond_true]
   rw [show decide ((w.length : Int) <= 2) = decide (w.length <= 2) by rw [decide_eq_decide]; omega, show decide ((m.length : Int) <= 4) = decide (m.length <= 4) by rw [decide_eq_decide]; omega]
   cases decide (w.length <= 2) <;> cases decide (m.length <= 4) <;> rfl) Lib.big (Lib.lt_big (by omega))
 refine key.trans ?_
 unfold pOk keysOk
 rw [hL]
 cases (List.range L.length).all (kOk L) <;> rfl
end Go.FG.U114

namespace Go.FG.U91
open Lib (rr rs)
open U116 (has)
theorem ok (w m : List ByteArray) (s : Row) (a : Int) (k : ByteArray) (hw : w.length <= 1048576) (hm : m.length <= 1048576) : c (rs w) (rs m) s a k = true /\ v (rs w) (rs m) s a k = (has w k || has m k) := by
 have h1 := U116.ok w k (by omega)
 have h2 := U116.ok m k (by omega)
 exact out _ _ _ _ _ (by
  unfold vo b
  rw [h1.1, h1.2, h2.1, h2.2, cond_true, cond_true]
  cases has w k <;> rfl)
end Go.FG.U91

namespace Go.FG.U102
open Lib (rr rs re el we0 we1 we2 we3 En)
open U116 (has)
open U114 (pOk)
def enOk (e : En) : Bool := U51.v e.k e.st e.li e.bo
def eAt (en : List En) (w m : List ByteArray) (i : Nat) : Bool :=
 enOk (el en i) && ((decide (i = 0) || Go.Op.bytesLess (ByteArray.toList (el en (i - 1)).k) (ByteArray.toList (el en i).k)) && (has w (el en i).k || has m (el en i).k))
def eOk (en : List En) (w m : List ByteArray) (s : List (List Int)) (a : Int) : Bool := (List.range en.length).all (eAt en w m) && (pOk w m s a && decide (w.length + m.length = en.length))
theorem ok (i0 : Int) (en : List En) (w m : List ByteArray) (s : List (List Int)) (a : Int) (r6 r7 : Row) (i8 : Int) (he : en.length <= 1048576) (hw : w.length <= 1048576) (hm : m.length <= 1048576) (hf : U106.fitS s) :
  c i0 (re en) (rs w) (rs m) (rr s) a r6 r7 i8 = true /\ v i0 (re en) (rs w) (rs m) (rr s) a r6 r7 i8 = eOk en w m s a := by
 refine out _ _ _ _ _ _ _ _ _ ?_
 have h1 := U114.ok w m s a hw hm hf
 have h2 := fun k => U91.ok w m (rr s) a k hw hm
 unfold vo b
 have key := Lib.all_gen (eAt en w m) en.length (fun n (i : Nat) => l2 Lib.big (fun (y11 : Bool) (_ _ : Int) (_ _ _ _ : Row) (_ : Int) (_ _ : Row) (_ : Int) => some y11) (fun (_ : Bool) (_ _ : Int) (y25 y26 y27 y28 : Row) (y29 : Int) (_ _ : Row) (_ : Int) => bif (U114.c y26 y27 y28 y29) then (bif (U114.v y26 y27 y28 y29) then (some (decide ((↑(List.length y25) : Int) = w64 ((↑(List.length y26) : Int) + (↑(List.length y27) : Int))))) else (some false)) else (none)) n false (i : Int) i0 (re en) (rs w) (rs m) (rr s) a r6 r7 i8) (some false) (some (pOk w m s a && decide (w.length + m.length = en.length)))
  (fun n i hi hp => by
   unfold eAt enOk at hp
   rw [Bool.and_eq_true, Bool.and_eq_true] at hp
   obtain ⟨p1, p2, p3⟩ := hp
   by_cases hz : i = 0
   ·subst hz
    simp only [l2, r2, Lib.re_len, Lib.dlt, hi, decide_true, Lib.dle0, Bool.and_self, cond_true, Lib.toN, we0 hi, we1 hi, we2 hi, we3 hi, cvS, cvI, p1, Bool.not_true, cond_false, decide_eq_false (show ¬ (((0 : Nat) : Int) > 0) by omega), (h2 _).1, (h2 _).2, p3, Lib.w64_s hi (by omega : en.length <= 9223372036854775807)]
   ·rw [decide_eq_false hz, Bool.false_or] at p2
    have hi1 : i - 1 < en.length := by omega
    simp only [l2, r2, Lib.re_len, Lib.dlt, hi, decide_true, Lib.dle0, Bool.and_self, cond_true, Lib.toN, we0 hi, we1 hi, we2 hi, we3 hi, cvS, cvI, p1, Bool.not_true, cond_false, decide_eq_true (show (i : Int) > 0 by omega), Lib.pred_nat (show 0 < i by omega) (by omega), hi1, we0 hi1, p2, (h2 _).1, (h2 _).2, p3, Lib.w64_s hi (by omega : en.length <= 9223372036854775807)])
  (fun n i hi hp => by
   unfold eAt enOk at hp
   cases p1 : U51.v (el en i).k (el en i).st (el en i).li (el en i).bo with
   | false => simp only [l2, r2, Lib.re_len, Lib.dlt, hi, decide_true, Lib.dle0, Bool.and_self, cond_true, Lib.toN, we0 hi, we1 hi, we2 hi, we3 hi, cvS, cvI, p1, Bool.not_false]
   | true =>
    rw [p1, Bool.true_and] at hp
    by_cases hz : i = 0
    ·subst hz
     rw [decide_eq_true rfl, Bool.true_or, Bool.true_and] at hp
     simp only [l2, r2, Lib.re_len, Lib.dlt, hi, decide_true, Lib.dle0, Bool.and_self, cond_true, Lib.toN, we0 hi, we1 hi, we2 hi, we3 hi, cvS, cvI, p1, Bool.not_true, Bool.not_false, cond_false, decide_eq_false (show ¬ (((0 : Nat) : Int) > 0) by omega), (h2 _).1, (h2 _).2, hp]
    ·rw [decide_eq_false hz, Bool.false_or] at hp
     have hi1 : i - 1 < en.length := by omega
     cases p2 : Go.Op.bytesLess (ByteArray.toList (el en (i - 1)).k) (ByteArray.toList (el en i).k) with
     | false => simp only [l2, r2, Lib.re_len, Lib.dlt, hi, decide_true, Lib.dle0, Bool.and_self, cond_true, Lib.toN, we0 hi, we1 hi, we2 hi, we3 hi, cvS, cvI, p1, Bool.not_true, Bool.not_false, cond_false, decide_eq_true (show (i : Int) > 0 by omega), Lib.pred_nat (show 0 < i by omega) (by omega), hi1, we0 hi1, p2]
     | true =>
      rw [p2, Bool.true_and] at hp
      simp only [l2, r2, Lib.re_len, Lib.dlt, hi, decide_true, Lib.dle0, Bool.and_self, cond_true, Lib.toN, we0 hi, we1 hi, we2 hi, we3 hi, cvS, cvI, p1, Bool.not_true, Bool.not_false, cond_false, decide_eq_true (show (i : Int) > 0 by omega), Lib.pred_nat (show 0 < i by omega) (by omega), hi1, we0 hi1, p2, (h2 _).1, (h2 _).2, hp])
  (fun n => by
   simp only [l2, r2, Lib.re_len, Lib.dlt, Nat.lt_irrefl, decide_false, cond_false, h1.1, h1.2, cond_true, Lib.rs_len]
   rw [Lib.w64_ok (x := (w.length : Int) + (m.length : Int)) (by omega) (by omega), show decide ((en.length : Int) = (w.length : Int) + (m.length : Int)) = decide (w.length + m.length = en.length) by rw [decide_eq_decide]; omega]
   cases pOk w m s a <;> rfl) Lib.big (Lib.lt_big (by omega))
 refine key.trans ?_
 unfold eOk
 cases (List.range en.length).all (eAt en w m) <;> rfl
end Go.FG.U102

namespace Go.FG.U103
open Lib (rf el wf0 wf1 wf2 wf2' wf3 wf4 Fe)
open U114 (keyOk)
def fOk (now : Int) (f : Fe) : Bool := keyOk f.k && (decide ((f.t.size : Int) <= 400) && (decide (1 <= f.sta /\ f.sta <= 3) && (decide (0 <= f.li /\ f.li <= 999999) && decide (0 <= f.st /\ f.st <= now))))
def sameO (f g : Fe) : Bool := decide (f.sta = 1) && (decide (g.sta = 1) && decide (f.k = g.k))
def apart (fe : List Fe) (i : Nat) : Bool := (List.range i).all fun j => !sameO (el fe i) (el fe j)
theorem in_dec (n a b : Int) : U60.v n a b = decide (a <= n /\ n <= b) := U137.in_dec n a b
theorem ok (i0 : Int) (r1 r2 r3 r4 : Row) (i5 : Int) (fe : List Fe) (r7 : Row) (i8 : Int) (i : Nat) (hi : i < fe.length) (hf : fe.length <= 1048576) :
  c i0 r1 r2 r3 r4 i5 (rf fe) r7 i8 (i : Int) = true /\ v i0 r1 r2 r3 r4 i5 (rf fe) r7 i8 (i : Int) = (fOk i0 (el fe i) && apart fe i) := by
 refine out _ _ _ _ _ _ _ _ _ _ ?_
 unfold vo b
 have key := Lib.all_gen (fun j => !sameO (el fe i) (el fe j)) i (fun n (j : Nat) => l5 Lib.big (fun (_ : Int) (y18 : Bool) (_ _ : Int) (_ _ _ _ : Row) (_ : Int) (_ _ : Row) (_ : Int) (_ _ : ByteArray) (_ _ _ : Int) => some y18) (fun (_ : Int) (_ : Bool) (_ _ : Int) (_ _ _ _ : Row) (_ : Int) (_ _ : Row) (_ : Int) (_ _ : ByteArray) (_ _ _ : Int) => some true) n (i : Int) false (j : Int) i0 r1 r2 r3 r4 i5 (rf fe) r7 i8 (el fe i).k (el fe i).t (el fe i).sta (el fe i).li (el fe i).st) (some false) (some true)
  (fun n j hj hp => by
   have hjl : j < fe.length := by omega
   rw [Bool.not_eq_true'] at hp
   unfold sameO at hp
   have e : decide ((el fe j).k = (el fe i).k) = decide ((el fe i).k = (el fe j).k) := by rw [decide_eq_decide]; exact eq_comm
   simp only [l5, r5, Lib.dlt, hj, decide_true, Lib.dle0, Bool.and_self, cond_true, Lib.toN, Lib.rf_len, hjl, wf0 hjl, wf2' hjl, cvS, cvI, Lib.beq_ba, e, Lib.w64_s hj (by omega : i <= 9223372036854775807)]
   revert hp
   cases decide ((el fe i).k = (el fe j).k) <;> cases decide ((el fe j).sta = 1) <;> cases decide ((el fe i).sta = 1) <;> intro hp <;> first | rfl | cases hp)
  (fun n j hj hp => by
   have hjl : j < fe.length := by omega
   rw [Bool.not_eq_false'] at hp
   unfold sameO at hp
   rw [Bool.and_eq_true, Bool.and_eq_true] at hp
   have e : decide ((el fe j).k = (el fe i).k) = decide ((el fe i).k = (el fe j).k) := by rw [decide_eq_decide]; exact eq_comm
   simp only [l5, r5, Lib.dlt, hj, decide_true, Lib.dle0, Bool.and_self, cond_true, Lib.toN, Lib.rf_len, hjl, wf0 hjl, wf2' hjl, cvS, cvI, Lib.beq_ba, e, hp.1, hp.2.1, hp.2.2])
  (fun n => by simp only [l5, r5, Lib.dlt, Nat.lt_irrefl, decide_false, cond_false]) Lib.big (Lib.lt_big (by omega))
 simp only [Lib.rf_len, Lib.dlt, hi, decide_true, Lib.dle0, Bool.and_self, cond_true, Lib.toN, wf0 hi, wf1 hi, wf2 hi, wf3 hi, wf4 hi, cvS, cvI, in_dec, U114.key_dec]
 rw [show l5 Lib.big _ _ Lib.big (i : Int) false 0 i0 r1 r2 r3 r4 i5 (rf fe) r7 i8 (el fe i).k (el fe i).t (el fe i).sta (el fe i).li (el fe i).st = _ from key]
 unfold fOk apart
 rw [show decide (((el fe i).t.size : Int) > 400) = !decide (((el fe i).t.size : Int) <= 400) by rw [<- decide_not, decide_eq_decide]; omega]
 cases keyOk (el fe i).k <;> cases decide (((el fe i).t.size : Int) <= 400) <;> cases decide (1 <= (el fe i).sta /\ (el fe i).sta <= 3) <;> cases decide (0 <= (el fe i).li /\ (el fe i).li <= 999999) <;> cases decide (0 <= (el fe i).st /\ (el fe i).st <= i0) <;> cases (List.range i).all (fun j => !sameO (el fe i) (el fe j)) <;> rfl
end Go.FG.U103

namespace Go.FG.U67
open Lib (rr rs re rf rc el En Fe Cl Px wc0 wc1 wc2 wc3 wc4 wc5 wc6)
open U114 (keyOk)
open U102 (eOk)
open U103 (fOk apart in_dec)
def cAt (now : Int) (nf : Nat) (cl : List Cl) (i : Nat) : Bool :=
 decide (1 <= (el cl i).id /\ (el cl i).id <= 9) && ((decide (i = 0) || decide ((el cl (i - 1)).id < (el cl i).id)) && (keyOk (el cl i).k && (decide (1 <= (el cl i).sta /\ (el cl i).sta <= 3) && (decide (0 <= (el cl i).fe /\ (el cl i).fe <= (nf : Int)) && (decide (((el cl i).got.size : Int) <= 400) && (decide (0 <= (el cl i).fr /\ (el cl i).fr <= now) && decide (0 <= (el cl i).age)))))))
def pxOk (p : Px) : Bool :=
 decide (1 <= p.now /\ p.now <= 1000000000) && (eOk p.en p.w p.m p.s p.a && (decide (p.fe.length <= 20) && (decide (p.cl.length <= 6) && (decide (0 <= p.hits /\ p.hits <= 1000000000) && ((List.range p.fe.length).all (fun i => fOk p.now (el p.fe i) && apart p.fe i) && (List.range p.cl.length).all (cAt p.now p.fe.length p.cl))))))
theorem step {R : Type} (N : Nat) (g k0 k1 : Bool -> Int -> Int -> Row -> Row -> Row -> Row -> Int -> Row -> Row -> Int -> Option R) (i0 : Int) (q1 q2 q3 q4 : Row) (i5 : Int) (fe : List Fe) (cl : List Cl) (i8 : Int) (i : Nat) (hi : i < cl.length) (hl : cl.length <= 1048576) :
  r9 N g k0 k1 false (i : Int) i0 q1 q2 q3 q4 i5 (rf fe) (rc cl) i8 = bif cAt i0 fe.length cl i then g false ((i + 1 : Nat) : Int) i0 q1 q2 q3 q4 i5 (rf fe) (rc cl) i8 else k0 false (i : Int) i0 q1 q2 q3 q4 i5 (rf fe) (rc cl) i8 := by
 unfold cAt
 have e1 : decide (((el cl i).got.size : Int) > 400) = !decide (((el cl i).got.size : Int) <= 400) := by rw [<- decide_not, decide_eq_decide]; omega
 have e2 : decide ((el cl i).age < 0) = !decide (0 <= (el cl i).age) := by rw [<- decide_not, decide_eq_decide]; omega
 by_cases hz : i = 0
 ·subst hz
  simp only [r9, Lib.rc_len, Lib.rf_len, Lib.dlt, hi, decide_true, Lib.dle0, Bool.and_self, cond_true, Lib.toN, wc0 hi, wc1 hi, wc2 hi, wc3 hi, wc4 hi, wc5 hi, wc6 hi, cvS, cvI, in_dec, U114.key_dec, decide_eq_false (show ¬ (((0 : Nat) : Int) > 0) by omega), cond_false, e1, e2, Lib.w64_s hi (by omega : cl.length <= 9223372036854775807), Bool.true_or, Bool.true_and]
  cases decide (1 <= (el cl 0).id /\ (el cl 0).id <= 9) <;> cases keyOk (el cl 0).k <;> cases decide (1 <= (el cl 0).sta /\ (el cl 0).sta <= 3) <;> cases decide (0 <= (el cl 0).fe /\ (el cl 0).fe <= (fe.length : Int)) <;> cases decide (((el cl 0).got.size : Int) <= 400) <;> cases decide (0 <= (el cl 0).fr /\ (el cl 0).fr <= i0) <;> cases decide (0 <= (el cl 0).age) <;> rfl
 ·have hi1 : i - 1 < cl.length := by omega
  have e3 : decide ((el cl (i - 1)).id ≥ (el cl i).id) = !decide ((el cl (i - 1)).id < (el cl i).id) := by rw [<- decide_not, decide_eq_decide]; omega
  simp only [r9, Lib.rc_len, Lib.rf_len, Lib.dlt, hi, decide_true, Lib.dle0, Bool.and_self, cond_true, Lib.toN, wc0 hi, wc1 hi, wc2 hi, wc3 hi, wc4 hi, wc5 hi, wc6 hi, cvS, cvI, in_dec, U114.key_dec, decide_eq_true (show (i : Int) > 0 by omega), Lib.pred_nat (show 0 < i by omega) (by omega), hi1, wc0 hi1, cond_false, e1, e2, e3, Lib.w64_s hi (by omega : cl.length <= 9223372036854775807), decide_eq_false hz, Bool.false_or]
  cases decide (1 <= (el cl i).id /\ (el cl i).id <= 9) <;> cases decide ((el cl (i - 1)).id < (el cl i).id) <;> cases keyOk (el cl i).k <;> cases decide (1 <= (el cl i).sta /\ (el cl i).sta <= 3) <;> cases decide (0 <= (el cl i).fe /\ (el cl i).fe <= (fe.length : Int)) <;> cases decide (((el cl i).got.size : Int) <= 400) <;> cases decide (0 <= (el cl i).fr /\ (el cl i).fr <= i0) <;> cases decide (0 <= (el cl i).age) <;> rfl
theorem ok (p : Px) (hp : p.Fit 1048576) : c p.now (re p.en) (rs p.w) (rs p.m) (rr p.s) p.a (rf p.fe) (rc p.cl) p.hits = true /\ v p.now (re p.en) (rs p.w) (rs p.m) (rr p.s) p.a (rf p.fe) (rc p.cl) p.hits = pxOk p := by
 refine out _ _ _ _ _ _ _ _ _ ?_
 have h1 := U102.ok p.now p.en p.w p.m p.s p.a (rf p.fe) (rc p.cl) p.hits hp.en hp.w hp.m ⟨hp.s.1, hp.s.2.1⟩
 have hfe := hp.fe
 have hcl := hp.cl
 unfold vo b
 have h2 := fun i hi => U103.ok p.now (re p.en) (rs p.w) (rs p.m) (rr p.s) p.a p.fe (rc p.cl) p.hits i hi hfe
 have kc := fun (n : Nat) (hn : p.cl.length < n) => Lib.all_gen (cAt p.now p.fe.length p.cl) p.cl.length (fun n (i : Nat) => l9 Lib.big (fun (y44 : Bool) (_ _ : Int) (_ _ _ _ : Row) (_ : Int) (_ _ : Row) (_ : Int) => some y44) (fun (_ : Bool) (_ _ : Int) (_ _ _ _ : Row) (_ : Int) (_ _ : Row) (_ : Int) => some true) n false (i : Int) p.now (re p.en) (rs p.w) (rs p.m) (rr p.s) p.a (rf p.fe) (rc p.cl) p.hits) (some false) (some true)
  (fun n i hi hq => by
   simp only [l9]
   rw [step _ _ _ _ _ _ _ _ _ _ _ _ _ i hi hcl, hq]; rfl)
  (fun n i hi hq => by
   simp only [l9]
   rw [step _ _ _ _ _ _ _ _ _ _ _ _ _ i hi hcl, hq]; rfl)
  (fun n => by simp only [l9, r9, Lib.rc_len, Lib.dlt, Nat.lt_irrefl, decide_false, cond_false]) n hn
 have kf := Lib.all_gen (fun i => fOk p.now (el p.fe i) && apart p.fe i) p.fe.length (fun n (i : Nat) => l4 Lib.big (fun (y11 : Bool) (_ _ : Int) (_ _ _ _ : Row) (_ : Int) (_ _ : Row) (_ : Int) => some y11) (fun (y22 : Bool) (_ y24 : Int) (y25 y26 y27 y28 : Row) (y29 : Int) (y30 y31 : Row) (y32 : Int) => l9 Lib.big (fun (y44 : Bool) (_ _ : Int) (_ _ _ _ : Row) (_ : Int) (_ _ : Row) (_ : Int) => some y44) (fun (_ : Bool) (_ _ : Int) (_ _ _ _ : Row) (_ : Int) (_ _ : Row) (_ : Int) => some true) Lib.big y22 0 y24 y25 y26 y27 y28 y29 y30 y31 y32) n false (i : Int) p.now (re p.en) (rs p.w) (rs p.m) (rr p.s) p.a (rf p.fe) (rc p.cl) p.hits) (some false) (some ((List.range p.cl.length).all (cAt p.now p.fe.length p.cl)))
  (fun n i hi hq => by
   simp only [l4, r4, Lib.rf_len, Lib.dlt, hi, decide_true, cond_true, (h2 i hi).1, (h2 i hi).2, hq, Bool.not_true, cond_false, Lib.w64_s hi (by omega : p.fe.length <= 9223372036854775807)])
  (fun n i hi hq => by
   simp only [l4, r4, Lib.rf_len, Lib.dlt, hi, decide_true, cond_true, (h2 i hi).1, (h2 i hi).2, hq, Bool.not_false])
  (fun n => by
   simp only [l4, r4, Lib.rf_len, Lib.dlt, Nat.lt_irrefl, decide_false, cond_false]
   refine (kc Lib.big (Lib.lt_big (by omega))).trans ?_
   cases (List.range p.cl.length).all (cAt p.now p.fe.length p.cl) <;> rfl) Lib.big (Lib.lt_big (by omega))
 rw [in_dec, in_dec, h1.1, h1.2, cond_true, Lib.rf_len, Lib.rc_len]
 rw [show l4 Lib.big _ _ Lib.big false 0 p.now (re p.en) (rs p.w) (rs p.m) (rr p.s) p.a (rf p.fe) (rc p.cl) p.hits = _ from kf]
 unfold pxOk
 rw [show decide ((p.fe.length : Int) > 20) = !decide (p.fe.length <= 20) by rw [<- decide_not, decide_eq_decide]; omega, show decide ((p.cl.length : Int) > 6) = !decide (p.cl.length <= 6) by rw [<- decide_not, decide_eq_decide]; omega]
 cases decide (1 <= p.now /\ p.now <= 1000000000) <;> cases eOk p.en p.w p.m p.s p.a <;> cases decide (p.fe.length <= 20) <;> cases decide (p.cl.length <= 6) <;> cases decide (0 <= p.hits /\ p.hits <= 1000000000) <;> cases (List.range p.fe.length).all (fun i => fOk p.now (el p.fe i) && apart p.fe i) <;> cases (List.range p.cl.length).all (cAt p.now p.fe.length p.cl) <;> rfl
end Go.FG.U67

namespace Go.FG.A_Px
open Lib (Px Cl Fe En el)
def ec (f : Nat) (st : Int) (t : ByteArray) (c : Cl) : Cl := bif decide (c.fe = (f : Int) + 1) && decide (c.sta = 1) then { c with sta := st, got := t } else c
def endCl (cl : List Cl) (f : Nat) (st : Int) (t : ByteArray) : List Cl := cl.map (ec f st t)
theorem mapIdx_const {α : Type} (l : List α) (g : α -> α) : l.mapIdx (fun _ c => g c) = l.map g := by apply List.ext_getElem <;> simp
end Go.FG.A_Px

namespace Go.FG.A_Open
open Lib (Px Cl Fe En el)
open U67 (pxOk)
open A_Px (endCl)
def opn (p : Px) (f : Int) : Bool := pxOk p && (decide (0 <= f /\ f <= (p.fe.length : Int) - 1) && decide ((el p.fe f.toNat).sta = 1))
def told (p : Px) (f : Nat) (g : Fe) (st : Int) : Px := { p with fe := p.fe.set f g, cl := endCl p.cl f st g.t }
theorem opn_nat {p : Px} {f : Int} (h : opn p f = true) : ∃ n : Nat, f = (n : Int) /\ n < p.fe.length /\ pxOk p = true /\ (el p.fe n).sta = 1 := by
 unfold opn at h
 simp only [Bool.and_eq_true, decide_eq_true_eq] at h
 obtain ⟨h1, h2, h3⟩ := h
 exact ⟨f.toNat, by omega, by omega, h1, h3⟩
theorem told_fit {p : Px} {n f : Nat} {g : Fe} {st : Int} (h : p.Fit n) : (told p f g st).Fit n := by
 refine ⟨h.en, h.w, h.m, h.s, ?_, ?_⟩
 ·show (p.fe.set f g).length <= n
  rw [List.length_set]; exact h.fe
 ·show (endCl p.cl f st g.t).length <= n
  unfold A_Px.endCl
  rw [List.length_map]; exact h.cl
def brk (p : Px) (f : Int) : Px × Bool := bif opn p f then (told p f.toNat { el p.fe f.toNat with sta := 3 } 3, true) else (p, false)
def prt (p : Px) (f : Int) (t : ByteArray) : Px × Bool :=
 bif opn p f && (decide (1 <= t.size /\ t.size <= 40) && decide ((el p.fe f.toNat).t.size + t.size <= 400)) then (told p f.toNat { el p.fe f.toNat with t := (el p.fe f.toNat).t ++ t } 1, true) else (p, false)
theorem el_set {l : List Fe} {n : Nat} {g : Fe} (h : n < l.length) : el (l.set n g) n = g := by
 rw [Lib.el_eq (by rw [List.length_set]; exact h), List.getElem_set_self]
theorem setF (l : List Fe) (n j : Nat) (ys : List CV) (g : Fe) (h : n < l.length) (hs : splice (Fe.row (el l n)) j ys = Fe.row g) : setC (Lib.rf l) n j ys = Lib.rf (l.set n g) := by
 rw [Lib.el_eq h] at hs
 exact Lib.setC_map Fe.row l n j ys g h hs
theorem fe_ok {p : Px} (h : pxOk p = true) (i : Nat) (hi : i < p.fe.length) : U103.fOk p.now (el p.fe i) = true := by
 unfold U67.pxOk at h
 simp only [Bool.and_eq_true, decide_eq_true_eq] at h
 obtain ⟨_, _, _, _, _, h6, _⟩ := h
 rw [List.all_eq_true] at h6
 have := h6 i (by simpa using hi)
 rw [Bool.and_eq_true] at this
 exact this.1
end Go.FG.A_Open

namespace Go.FG.U100
theorem bd {q : Row} {L : Int} (z : q.length <= 9223372036854775807) (h0 : 0 <= L) (h1 : L <= 1048576) : U130.v q L <= 1048576 /\ (¬ U130.v q L < 0 -> q.length <= 1048576 /\ U130.v q L = L - (q.length : Int)) := by
 unfold U130.v
 rw [Lib.w64_ok (by omega) (by omega)]
 by_cases c0 : L - (q.length : Int) < 0
 ·rw [decide_eq_true c0, cond_true]; exact ⟨by omega, fun h => absurd (by omega) h⟩
 ·rw [decide_eq_false c0, cond_false]; exact ⟨by omega, fun h => ⟨by omega, rfl⟩⟩
def tot (a : Row) : Nat := (a.map fun y => (cvL (y.getD 0 (.b false))).length).sum
def inn (a : Row) : Prop := (∀ j, j < a.length -> (cvL (cellAt a j 0)).length <= 1048576) /\ tot a <= 1048576
theorem tot_succ (a : Row) (i : Nat) (h : i < a.length) : tot (a.take (i + 1)) = tot (a.take i) + (cvL (cellAt a i 0)).length := by
 unfold tot
 rw [List.take_succ_eq_append_getElem h, List.map_append, List.sum_append, Lib.cellAt_of h]
 simp
theorem run (a : Row) (L : Int) (h0 : 0 <= L) (h1 : L <= 1048576) (ha : FitR a) : ∃ x, vo a L = some x /\ x <= 1048576 /\ (0 <= x -> a.length <= 1048576 /\ inn a) := by
 have hl := ha.1
 unfold vo b
 rw [Lib.w64_ok (x := L - (a.length : Int)) (by omega) (by omega)]
 by_cases hc : L - (a.length : Int) < 0
 ·rw [decide_eq_true hc]; exact ⟨-1, rfl, by omega, fun h => by omega⟩
 ·rw [decide_eq_false hc, cond_false]
  have key := Lib.loop_post (fun n (s : Nat × Int) => l5 Lib.big (fun (_ : Row) (_ y6 _ : Int) => some y6) (fun (_ : Row) (y9 _ _ : Int) => some y9) n a s.2 0 (s.1 : Int)) (fun s => a.length - s.1) (fun s => s.1 <= a.length /\ 0 <= s.2 /\ s.2 <= 1048576 /\ (∀ j, j < s.1 -> (cvL (cellAt a j 0)).length <= 1048576) /\ s.2 + (tot (a.take s.1) : Int) <= 1048576) (fun x => x <= 1048576 /\ (0 <= x -> inn a)) (fun n s hs => by
   obtain ⟨i, L⟩ := s
   obtain ⟨hi, hL0, hL1, hin, hto⟩ := hs
   dsimp only at hi hL0 hL1 hin hto ⊢
   by_cases h : i < a.length
   ·have hi1 : w64 ((i : Int) + 1) = ((i + 1 : Nat) : Int) := Lib.w64_ok (by omega) (by omega)
    have hw := bd (Lib.FitR_cell ha i 0).1 hL0 hL1
    by_cases hn : U130.v (cvL (cellAt a i 0)) L < 0
    ·exact .inl ⟨-1, by simp only [l5, r5, Lib.dlt, h, decide_true, Lib.dle0, Bool.and_self, cond_true, Lib.toN, hn], by omega, fun h => by omega⟩
    ·exact .inr ⟨(i + 1, U130.v (cvL (cellAt a i 0)) L), ⟨h, by omega, hw.1, fun j hj => by
      by_cases hji : j = i
      ·subst hji; exact (hw.2 hn).1
      ·exact hin j (by dsimp only at hj; omega), by
      have e := (hw.2 hn).2
      have e2 := tot_succ a i h
      dsimp only
      rw [e, e2]; omega⟩, by dsimp only; omega, by simp only [l5, r5, Lib.dlt, h, decide_true, decide_false, Lib.dle0, Bool.and_self, cond_true, cond_false, Lib.toN, hn, hi1]⟩
   ·exact .inl ⟨L, by simp only [l5, r5, Lib.dlt, h, decide_false, cond_false], hL1, fun _ => ⟨fun j hj => hin j (by omega), by
     have e : i = a.length := by omega
     rw [e, List.take_length] at hto; omega⟩⟩) Lib.big (0, L - (a.length : Int)) ⟨Nat.zero_le _, by dsimp only; omega, by dsimp only; omega, fun j hj => absurd hj (Nat.not_lt_zero j), by dsimp only; rw [List.take_zero]; show L - (a.length : Int) + ((0 : Nat) : Int) <= _; omega⟩ (Lib.lt_big (by omega))
  obtain ⟨x, hx, hb, hb2⟩ := key
  exact ⟨x, hx, hb, fun h => ⟨by omega, hb2 h⟩⟩
theorem ok (a : Row) (L : Int) (h0 : 0 <= L) (h1 : L <= 1048576) (ha : FitR a) : c a L = true /\ v a L <= 1048576 /\ (0 <= v a L -> a.length <= 1048576 /\ inn a) := by
 obtain ⟨x, h, h2, h3⟩ := run a L h0 h1 ha
 obtain ⟨e1, e2⟩ := out a L h
 rw [e2]; exact ⟨e1, h2, h3⟩
end Go.FG.U100

namespace Go.FG.U49
theorem bd (x0 : ByteArray) (x1 : Int) (x2 : Int) (x3 : ByteArray) (L : Int) (h0 : okS x0) (h3 : okS x3) (hL0 : 0 <= L) (hL1 : L <= 1048576) : v x0 x1 x2 x3 L <= 1048576 := by
 have hz : ∀ x, okS x -> x.size <= 4611686018427387904 := fun _ h => h
 have z0 := hz _ h0
 have z3 := hz _ h3
 unfold v
 rw [Lib.w64_ok (x := L - (x0.size : Int)) (by omega) (by omega)]
 by_cases c0 : L - (x0.size : Int) < 0
 ·rw [decide_eq_true c0, cond_true]; omega
 ·rw [decide_eq_false c0, cond_false]
  rw [Lib.w64_ok (x := (L - (x0.size : Int)) - (x3.size : Int)) (by omega) (by omega)]
  by_cases c3 : (L - (x0.size : Int)) - (x3.size : Int) < 0
  ·rw [decide_eq_true c3, cond_true]; omega
  ·rw [decide_eq_false c3, cond_false]
   omega
end Go.FG.U49

namespace Go.FG.U16
theorem run (a : Row) (L : Int) (h0 : 0 <= L) (h1 : L <= 1048576) (ha : FitR a) : ∃ x, vo a L = some x /\ x <= 1048576 /\ (0 <= x -> a.length <= 1048576) := by
 have hl := ha.1
 unfold vo b
 rw [Lib.w64_ok (x := L - (a.length : Int)) (by omega) (by omega)]
 by_cases hc : L - (a.length : Int) < 0
 ·rw [decide_eq_true hc]; exact ⟨-1, rfl, by omega, fun h => by omega⟩
 ·rw [decide_eq_false hc, cond_false]
  have key := Lib.loop_post (fun n (s : Nat × Int) => l5 Lib.big (fun (_ : Row) (_ y6 _ : Int) => some y6) (fun (_ : Row) (y9 _ _ : Int) => some y9) n a s.2 0 (s.1 : Int)) (fun s => a.length - s.1) (fun s => s.1 <= a.length /\ 0 <= s.2 /\ s.2 <= 1048576) (fun x => x <= 1048576) (fun n s hs => by
   obtain ⟨i, L⟩ := s
   obtain ⟨hi, hL0, hL1⟩ := hs
   dsimp only at hi hL0 hL1 ⊢
   by_cases h : i < a.length
   ·have hi1 : w64 ((i : Int) + 1) = ((i + 1 : Nat) : Int) := Lib.w64_ok (by omega) (by omega)
    have hw : U49.v (cvS (cellAt a i 0)) (cvI (cellAt a i 1)) (cvI (cellAt a i (1 + 1))) (cvS (cellAt a i (1 + 1 + 1))) L <= 1048576 := U49.bd _ _ _ _ L (Lib.okS_cell ha i _) (Lib.okS_cell ha i _) hL0 hL1
    by_cases hn : U49.v (cvS (cellAt a i 0)) (cvI (cellAt a i 1)) (cvI (cellAt a i (1 + 1))) (cvS (cellAt a i (1 + 1 + 1))) L < 0
    ·exact .inl ⟨-1, by simp only [l5, r5, Lib.dlt, h, decide_true, Lib.dle0, Bool.and_self, cond_true, Lib.toN, hn], by omega⟩
    ·exact .inr ⟨(i + 1, U49.v (cvS (cellAt a i 0)) (cvI (cellAt a i 1)) (cvI (cellAt a i (1 + 1))) (cvS (cellAt a i (1 + 1 + 1))) L), ⟨h, by omega, hw⟩, by dsimp only; omega, by simp only [l5, r5, Lib.dlt, h, decide_true, decide_false, Lib.dle0, Bool.and_self, cond_true, cond_false, Lib.toN, hn, hi1]⟩
   ·exact .inl ⟨L, by simp only [l5, r5, Lib.dlt, h, decide_false, cond_false], hL1⟩) Lib.big (0, L - (a.length : Int)) ⟨Nat.zero_le _, by dsimp only; omega, by dsimp only; omega⟩ (Lib.lt_big (by omega))
  obtain ⟨x, hx, hb⟩ := key
  exact ⟨x, hx, hb, fun _ => by omega⟩
theorem ok (a : Row) (L : Int) (h0 : 0 <= L) (h1 : L <= 1048576) (ha : FitR a) : c a L = true /\ v a L <= 1048576 /\ (0 <= v a L -> a.length <= 1048576) := by
 obtain ⟨x, h, h2, h3⟩ := run a L h0 h1 ha
 obtain ⟨e1, e2⟩ := out a L h
 rw [e2]; exact ⟨e1, h2, h3⟩
end Go.FG.U16

namespace Go.FG.U62
theorem run (a : Row) (L : Int) (h0 : 0 <= L) (h1 : L <= 1048576) (ha : FitR a) : ∃ x, vo a L = some x /\ x <= 1048576 /\ (0 <= x -> a.length <= 1048576) := by
 have hl := ha.1
 unfold vo b
 rw [Lib.w64_ok (x := L - (a.length : Int)) (by omega) (by omega)]
 by_cases hc : L - (a.length : Int) < 0
 ·rw [decide_eq_true hc]; exact ⟨-1, rfl, by omega, fun h => by omega⟩
 ·rw [decide_eq_false hc, cond_false]
  have key := Lib.loop_post (fun n (s : Nat × Int) => l5 Lib.big (fun (_ : Row) (_ y6 _ : Int) => some y6) (fun (_ : Row) (y9 _ _ : Int) => some y9) n a s.2 0 (s.1 : Int)) (fun s => a.length - s.1) (fun s => s.1 <= a.length /\ 0 <= s.2 /\ s.2 <= 1048576) (fun x => x <= 1048576) (fun n s hs => by
   obtain ⟨i, L⟩ := s
   obtain ⟨hi, hL0, hL1⟩ := hs
   dsimp only at hi hL0 hL1 ⊢
   by_cases h : i < a.length
   ·have hi1 : w64 ((i : Int) + 1) = ((i + 1 : Nat) : Int) := Lib.w64_ok (by omega) (by omega)
    have z : (cvS (cellAt a i 0)).size <= 4611686018427387904 := Lib.okS_cell ha i 0
    have hw : w64 (L - (↑(ByteArray.size (cvS (cellAt a i 0))) : Int)) <= 1048576 := by rw [Lib.w64_ok (by omega) (by omega)]; omega
    by_cases hn : w64 (L - (↑(ByteArray.size (cvS (cellAt a i 0))) : Int)) < 0
    ·exact .inl ⟨-1, by simp only [l5, r5, Lib.dlt, h, decide_true, Lib.dle0, Bool.and_self, cond_true, Lib.toN, hn], by omega⟩
    ·exact .inr ⟨(i + 1, w64 (L - (↑(ByteArray.size (cvS (cellAt a i 0))) : Int))), ⟨h, by omega, hw⟩, by dsimp only; omega, by simp only [l5, r5, Lib.dlt, h, decide_true, decide_false, Lib.dle0, Bool.and_self, cond_true, cond_false, Lib.toN, hn, hi1]⟩
   ·exact .inl ⟨L, by simp only [l5, r5, Lib.dlt, h, decide_false, cond_false], hL1⟩) Lib.big (0, L - (a.length : Int)) ⟨Nat.zero_le _, by dsimp only; omega, by dsimp only; omega⟩ (Lib.lt_big (by omega))
  obtain ⟨x, hx, hb⟩ := key
  exact ⟨x, hx, hb, fun _ => by omega⟩
theorem ok (a : Row) (L : Int) (h0 : 0 <= L) (h1 : L <= 1048576) (ha : FitR a) : c a L = true /\ v a L <= 1048576 /\ (0 <= v a L -> a.length <= 1048576) := by
 obtain ⟨x, h, h2, h3⟩ := run a L h0 h1 ha
 obtain ⟨e1, e2⟩ := out a L h
 rw [e2]; exact ⟨e1, h2, h3⟩
end Go.FG.U62

namespace Go.FG.U63
theorem ok (r : Row) (k : Int) (L : Int) (h0 : 0 <= L) (h1 : L <= 1048576) (ha : FitR r) : c r k L = true /\ v r k L <= 1048576 /\ (0 <= v r k L -> r.length <= 1048576 /\ U100.inn r) := by
 obtain ⟨e1, e2, e3⟩ := U100.ok r L h0 h1 ha
 by_cases h : U100.v r L < 0
 ·obtain ⟨q1, q2⟩ := out r k L (x := -1) (by unfold vo b; rw [e1, cond_true, decide_eq_true h, cond_true])
  rw [q2]; exact ⟨q1, by omega, fun h => by omega⟩
 ·obtain ⟨q1, q2⟩ := out r k L (x := U100.v r L) (by unfold vo b; rw [e1, cond_true, decide_eq_false h, cond_false])
  rw [q2]; exact ⟨q1, e2, e3⟩
end Go.FG.U63

namespace Go.FG.U24
theorem ok (r0 r1 r2 : Row) (k : Int) (L : Int) (h0 : 0 <= L) (h1 : L <= 1048576) (f0 : FitR r0) (f1 : FitR r1) (f2 : FitR r2) : c r0 r1 r2 k L = true /\ v r0 r1 r2 k L <= 1048576 /\ (0 <= v r0 r1 r2 k L -> r0.length <= 1048576 /\ r1.length <= 1048576 /\ r2.length <= 1048576 /\ U100.inn r2) := by
 have a1 := U62.ok r0 L h0 h1 f0
 by_cases hA : U62.v r0 L < 0
 ·obtain ⟨q1, q2⟩ := out r0 r1 r2 k L (x := -1) (by unfold vo b; rw [a1.1, cond_true, decide_eq_true hA, cond_true])
  rw [q2]; exact ⟨q1, by omega, fun h => by omega⟩
 have a2 := U62.ok r1 (U62.v r0 L) (by omega) a1.2.1 f1
 by_cases hB : U62.v r1 (U62.v r0 L) < 0
 ·obtain ⟨q1, q2⟩ := out r0 r1 r2 k L (x := -1) (by unfold vo b; rw [a1.1, cond_true, decide_eq_false hA, cond_false, a2.1, cond_true, decide_eq_true hB, cond_true])
  rw [q2]; exact ⟨q1, by omega, fun h => by omega⟩
 have a3 := U63.ok r2 k (U62.v r1 (U62.v r0 L)) (by omega) a2.2.1 f2
 by_cases hC : U63.v r2 k (U62.v r1 (U62.v r0 L)) < 0
 ·obtain ⟨q1, q2⟩ := out r0 r1 r2 k L (x := -1) (by unfold vo b; rw [a1.1, cond_true, decide_eq_false hA, cond_false, a2.1, cond_true, decide_eq_false hB, cond_false, a3.1, cond_true, decide_eq_true hC, cond_true])
  rw [q2]; exact ⟨q1, by omega, fun h => by omega⟩
 obtain ⟨q1, q2⟩ := out r0 r1 r2 k L (x := U63.v r2 k (U62.v r1 (U62.v r0 L))) (by unfold vo b; rw [a1.1, cond_true, decide_eq_false hA, cond_false, a2.1, cond_true, decide_eq_false hB, cond_false, a3.1, cond_true, decide_eq_false hC, cond_false])
 rw [q2]; exact ⟨q1, a3.2.1, fun h => ⟨a1.2.2 (by omega), a2.2.2 (by omega), a3.2.2 h⟩⟩
end Go.FG.U24

namespace Go.FG.U64
theorem bd (x0 : ByteArray) (x1 : ByteArray) (x2 : Int) (x3 : Int) (x4 : Int) (L : Int) (h0 : okS x0) (h1 : okS x1) (hL0 : 0 <= L) (hL1 : L <= 1048576) : v x0 x1 x2 x3 x4 L <= 1048576 := by
 have hz : ∀ x, okS x -> x.size <= 4611686018427387904 := fun _ h => h
 have z0 := hz _ h0
 have z1 := hz _ h1
 unfold v
 rw [Lib.w64_ok (x := L - (x0.size : Int)) (by omega) (by omega)]
 by_cases c0 : L - (x0.size : Int) < 0
 ·rw [decide_eq_true c0, cond_true]; omega
 ·rw [decide_eq_false c0, cond_false]
  rw [Lib.w64_ok (x := (L - (x0.size : Int)) - (x1.size : Int)) (by omega) (by omega)]
  by_cases c1 : (L - (x0.size : Int)) - (x1.size : Int) < 0
  ·rw [decide_eq_true c1, cond_true]; omega
  ·rw [decide_eq_false c1, cond_false]
   omega
end Go.FG.U64

namespace Go.FG.U25
theorem run (a : Row) (L : Int) (h0 : 0 <= L) (h1 : L <= 1048576) (ha : FitR a) : ∃ x, vo a L = some x /\ x <= 1048576 /\ (0 <= x -> a.length <= 1048576) := by
 have hl := ha.1
 unfold vo b
 rw [Lib.w64_ok (x := L - (a.length : Int)) (by omega) (by omega)]
 by_cases hc : L - (a.length : Int) < 0
 ·rw [decide_eq_true hc]; exact ⟨-1, rfl, by omega, fun h => by omega⟩
 ·rw [decide_eq_false hc, cond_false]
  have key := Lib.loop_post (fun n (s : Nat × Int) => l5 Lib.big (fun (_ : Row) (_ y6 _ : Int) => some y6) (fun (_ : Row) (y9 _ _ : Int) => some y9) n a s.2 0 (s.1 : Int)) (fun s => a.length - s.1) (fun s => s.1 <= a.length /\ 0 <= s.2 /\ s.2 <= 1048576) (fun x => x <= 1048576) (fun n s hs => by
   obtain ⟨i, L⟩ := s
   obtain ⟨hi, hL0, hL1⟩ := hs
   dsimp only at hi hL0 hL1 ⊢
   by_cases h : i < a.length
   ·have hi1 : w64 ((i : Int) + 1) = ((i + 1 : Nat) : Int) := Lib.w64_ok (by omega) (by omega)
    have hw : U64.v (cvS (cellAt a i 0)) (cvS (cellAt a i 1)) (cvI (cellAt a i (1 + 1))) (cvI (cellAt a i (1 + 1 + 1))) (cvI (cellAt a i (1 + 1 + 1 + 1))) L <= 1048576 := U64.bd _ _ _ _ _ L (Lib.okS_cell ha i _) (Lib.okS_cell ha i _) hL0 hL1
    by_cases hn : U64.v (cvS (cellAt a i 0)) (cvS (cellAt a i 1)) (cvI (cellAt a i (1 + 1))) (cvI (cellAt a i (1 + 1 + 1))) (cvI (cellAt a i (1 + 1 + 1 + 1))) L < 0
    ·exact .inl ⟨-1, by simp only [l5, r5, Lib.dlt, h, decide_true, Lib.dle0, Bool.and_self, cond_true, Lib.toN, hn], by omega⟩
    ·exact .inr ⟨(i + 1, U64.v (cvS (cellAt a i 0)) (cvS (cellAt a i 1)) (cvI (cellAt a i (1 + 1))) (cvI (cellAt a i (1 + 1 + 1))) (cvI (cellAt a i (1 + 1 + 1 + 1))) L), ⟨h, by omega, hw⟩, by dsimp only; omega, by simp only [l5, r5, Lib.dlt, h, decide_true, decide_false, Lib.dle0, Bool.and_self, cond_true, cond_false, Lib.toN, hn, hi1]⟩
   ·exact .inl ⟨L, by simp only [l5, r5, Lib.dlt, h, decide_false, cond_false], hL1⟩) Lib.big (0, L - (a.length : Int)) ⟨Nat.zero_le _, by dsimp only; omega, by dsimp only; omega⟩ (Lib.lt_big (by omega))
  obtain ⟨x, hx, hb⟩ := key
  exact ⟨x, hx, hb, fun _ => by omega⟩
theorem ok (a : Row) (L : Int) (h0 : 0 <= L) (h1 : L <= 1048576) (ha : FitR a) : c a L = true /\ v a L <= 1048576 /\ (0 <= v a L -> a.length <= 1048576) := by
 obtain ⟨x, h, h2, h3⟩ := run a L h0 h1 ha
 obtain ⟨e1, e2⟩ := out a L h
 rw [e2]; exact ⟨e1, h2, h3⟩
end Go.FG.U25

namespace Go.FG.U65
theorem bd (x0 : Int) (x1 : ByteArray) (x2 : Int) (x3 : Int) (x4 : Int) (x5 : ByteArray) (x6 : Int) (L : Int) (h1 : okS x1) (h5 : okS x5) (hL0 : 0 <= L) (hL1 : L <= 1048576) : v x0 x1 x2 x3 x4 x5 x6 L <= 1048576 := by
 have hz : ∀ x, okS x -> x.size <= 4611686018427387904 := fun _ h => h
 have z1 := hz _ h1
 have z5 := hz _ h5
 unfold v
 rw [Lib.w64_ok (x := L - (x1.size : Int)) (by omega) (by omega)]
 by_cases c1 : L - (x1.size : Int) < 0
 ·rw [decide_eq_true c1, cond_true]; omega
 ·rw [decide_eq_false c1, cond_false]
  rw [Lib.w64_ok (x := (L - (x1.size : Int)) - (x5.size : Int)) (by omega) (by omega)]
  by_cases c5 : (L - (x1.size : Int)) - (x5.size : Int) < 0
  ·rw [decide_eq_true c5, cond_true]; omega
  ·rw [decide_eq_false c5, cond_false]
   omega
end Go.FG.U65

namespace Go.FG.U26
theorem run (a : Row) (L : Int) (h0 : 0 <= L) (h1 : L <= 1048576) (ha : FitR a) : ∃ x, vo a L = some x /\ x <= 1048576 /\ (0 <= x -> a.length <= 1048576) := by
 have hl := ha.1
 unfold vo b
 rw [Lib.w64_ok (x := L - (a.length : Int)) (by omega) (by omega)]
 by_cases hc : L - (a.length : Int) < 0
 ·rw [decide_eq_true hc]; exact ⟨-1, rfl, by omega, fun h => by omega⟩
 ·rw [decide_eq_false hc, cond_false]
  have key := Lib.loop_post (fun n (s : Nat × Int) => l5 Lib.big (fun (_ : Row) (_ y6 _ : Int) => some y6) (fun (_ : Row) (y9 _ _ : Int) => some y9) n a s.2 0 (s.1 : Int)) (fun s => a.length - s.1) (fun s => s.1 <= a.length /\ 0 <= s.2 /\ s.2 <= 1048576) (fun x => x <= 1048576) (fun n s hs => by
   obtain ⟨i, L⟩ := s
   obtain ⟨hi, hL0, hL1⟩ := hs
   dsimp only at hi hL0 hL1 ⊢
   by_cases h : i < a.length
   ·have hi1 : w64 ((i : Int) + 1) = ((i + 1 : Nat) : Int) := Lib.w64_ok (by omega) (by omega)
    have hw : U65.v (cvI (cellAt a i 0)) (cvS (cellAt a i 1)) (cvI (cellAt a i (1 + 1))) (cvI (cellAt a i (1 + 1 + 1))) (cvI (cellAt a i (1 + 1 + 1 + 1))) (cvS (cellAt a i (1 + 1 + 1 + 1 + 1))) (cvI (cellAt a i (1 + 1 + 1 + 1 + 1 + 1))) L <= 1048576 := U65.bd _ _ _ _ _ _ _ L (Lib.okS_cell ha i _) (Lib.okS_cell ha i _) hL0 hL1
    by_cases hn : U65.v (cvI (cellAt a i 0)) (cvS (cellAt a i 1)) (cvI (cellAt a i (1 + 1))) (cvI (cellAt a i (1 + 1 + 1))) (cvI (cellAt a i (1 + 1 + 1 + 1))) (cvS (cellAt a i (1 + 1 + 1 + 1 + 1))) (cvI (cellAt a i (1 + 1 + 1 + 1 + 1 + 1))) L < 0
    ·exact .inl ⟨-1, by simp only [l5, r5, Lib.dlt, h, decide_true, Lib.dle0, Bool.and_self, cond_true, Lib.toN, hn], by omega⟩
    ·exact .inr ⟨(i + 1, U65.v (cvI (cellAt a i 0)) (cvS (cellAt a i 1)) (cvI (cellAt a i (1 + 1))) (cvI (cellAt a i (1 + 1 + 1))) (cvI (cellAt a i (1 + 1 + 1 + 1))) (cvS (cellAt a i (1 + 1 + 1 + 1 + 1))) (cvI (cellAt a i (1 + 1 + 1 + 1 + 1 + 1))) L), ⟨h, by omega, hw⟩, by dsimp only; omega, by simp only [l5, r5, Lib.dlt, h, decide_true, decide_false, Lib.dle0, Bool.and_self, cond_true, cond_false, Lib.toN, hn, hi1]⟩
   ·exact .inl ⟨L, by simp only [l5, r5, Lib.dlt, h, decide_false, cond_false], hL1⟩) Lib.big (0, L - (a.length : Int)) ⟨Nat.zero_le _, by dsimp only; omega, by dsimp only; omega⟩ (Lib.lt_big (by omega))
  obtain ⟨x, hx, hb⟩ := key
  exact ⟨x, hx, hb, fun _ => by omega⟩
theorem ok (a : Row) (L : Int) (h0 : 0 <= L) (h1 : L <= 1048576) (ha : FitR a) : c a L = true /\ v a L <= 1048576 /\ (0 <= v a L -> a.length <= 1048576) := by
 obtain ⟨x, h, h2, h3⟩ := run a L h0 h1 ha
 obtain ⟨e1, e2⟩ := out a L h
 rw [e2]; exact ⟨e1, h2, h3⟩
end Go.FG.U26

namespace Go.FG.U7
theorem ok (i0 : Int) (r1 r2 r3 r4 : Row) (i5 : Int) (r6 r7 : Row) (i8 : Int) (L : Int) (h0 : 0 <= L) (h1 : L <= 1048576) (f1 : FitR r1) (f2 : FitR r2) (f3 : FitR r3) (f4 : FitR r4) (f6 : FitR r6) (f7 : FitR r7) :
  c i0 r1 r2 r3 r4 i5 r6 r7 i8 L = true /\ v i0 r1 r2 r3 r4 i5 r6 r7 i8 L <= 1048576 /\ (0 <= v i0 r1 r2 r3 r4 i5 r6 r7 i8 L -> r1.length <= 1048576 /\ (r2.length <= 1048576 /\ r3.length <= 1048576 /\ r4.length <= 1048576 /\ U100.inn r4) /\ r6.length <= 1048576 /\ r7.length <= 1048576) := by
 have a1 := U16.ok r1 L h0 h1 f1
 by_cases hA : U16.v r1 L < 0
 ·obtain ⟨q1, q2⟩ := out i0 r1 r2 r3 r4 i5 r6 r7 i8 L (x := -1) (by unfold vo b; rw [a1.1, cond_true, decide_eq_true hA, cond_true])
  rw [q2]; exact ⟨q1, by omega, fun h => by omega⟩
 have a2 := U24.ok r2 r3 r4 i5 (U16.v r1 L) (by omega) a1.2.1 f2 f3 f4
 by_cases hB : U24.v r2 r3 r4 i5 (U16.v r1 L) < 0
 ·obtain ⟨q1, q2⟩ := out i0 r1 r2 r3 r4 i5 r6 r7 i8 L (x := -1) (by unfold vo b; rw [a1.1, cond_true, decide_eq_false hA, cond_false, a2.1, cond_true, decide_eq_true hB, cond_true])
  rw [q2]; exact ⟨q1, by omega, fun h => by omega⟩
 have a3 := U25.ok r6 (U24.v r2 r3 r4 i5 (U16.v r1 L)) (by omega) a2.2.1 f6
 by_cases hC : U25.v r6 (U24.v r2 r3 r4 i5 (U16.v r1 L)) < 0
 ·obtain ⟨q1, q2⟩ := out i0 r1 r2 r3 r4 i5 r6 r7 i8 L (x := -1) (by unfold vo b; rw [a1.1, cond_true, decide_eq_false hA, cond_false, a2.1, cond_true, decide_eq_false hB, cond_false, a3.1, cond_true, decide_eq_true hC, cond_true])
  rw [q2]; exact ⟨q1, by omega, fun h => by omega⟩
 have a4 := U26.ok r7 (U25.v r6 (U24.v r2 r3 r4 i5 (U16.v r1 L))) (by omega) a3.2.1 f7
 by_cases hD : U26.v r7 (U25.v r6 (U24.v r2 r3 r4 i5 (U16.v r1 L))) < 0
 ·obtain ⟨q1, q2⟩ := out i0 r1 r2 r3 r4 i5 r6 r7 i8 L (x := -1) (by unfold vo b; rw [a1.1, cond_true, decide_eq_false hA, cond_false, a2.1, cond_true, decide_eq_false hB, cond_false, a3.1, cond_true, decide_eq_false hC, cond_false, a4.1, cond_true, decide_eq_true hD, cond_true])
  rw [q2]; exact ⟨q1, by omega, fun h => by omega⟩
 obtain ⟨q1, q2⟩ := out i0 r1 r2 r3 r4 i5 r6 r7 i8 L (x := U26.v r7 (U25.v r6 (U24.v r2 r3 r4 i5 (U16.v r1 L)))) (by unfold vo b; rw [a1.1, cond_true, decide_eq_false hA, cond_false, a2.1, cond_true, decide_eq_false hB, cond_false, a3.1, cond_true, decide_eq_false hC, cond_false, a4.1, cond_true, decide_eq_false hD, cond_false])
 rw [q2]; exact ⟨q1, a4.2.1, fun h => ⟨a1.2.2 (by omega), a2.2.2 (by omega), a3.2.2 (by omega), a4.2.2 h⟩⟩
end Go.FG.U7

namespace Go.FG.U18
def tl (a0 : Row) : Row := a0.map fun y => [CV.s (cvS (y.getD 0 (.b false))), CV.i IntKind.i64 (cvI (y.getD 1 (.b false))), CV.i IntKind.i64 (cvI (y.getD 2 (.b false))), CV.s (cvS (y.getD 3 (.b false)))]
theorem tl_len (a0 : Row) : (tl a0).length = a0.length := by unfold tl; simp
theorem tl_sh (a0 : Row) : ∀ y ∈ tl a0, y.length = 4 := by
 intro y hy; unfold tl at hy; obtain ⟨z, _, rfl⟩ := List.mem_map.1 hy; rfl
theorem run (a0 : Row) (hl : a0.length <= 1048576) : vo a0 = some (tl a0) := by
 unfold vo b
 rw [show decide ((a0.length : Int) = (a0.length : Int)) = true by simp, Lib.toN, Lib.roomy_of (by omega) (by omega), Bool.and_self, cond_true]
 have mono := Lib.loop_gen (fun m (s : Nat) => l3 Lib.big (fun (_ : Row) (_ : Int) (y : Row) => some y) m a0 (s : Int) ((tl a0).take s ++ zeros [Ck.s, Ck.i IntKind.i64, Ck.i IntKind.i64, Ck.s] (a0.length - s))) (fun i => a0.length - i) (fun i => i <= a0.length) (fun _ => some (tl a0)) (fun m i hi => by
  by_cases h : i < a0.length
  ·right
   refine ⟨i + 1, h, by omega, rfl, ?_⟩
   have hlt : i < (tl a0).length := by rw [tl_len]; exact h
   have e := Lib.setC_step (ks := [Ck.s, Ck.i IntKind.i64, Ck.i IntKind.i64, Ck.s]) (tl_len a0) h (List.getElem?_eq_getElem hlt) (tl_sh a0 _ (List.getElem_mem hlt))
   have eg : (tl a0)[i] = [CV.s (cvS (cellAt a0 i 0)), CV.i IntKind.i64 (cvI (cellAt a0 i 1)), CV.i IntKind.i64 (cvI (cellAt a0 i 2)), CV.s (cvS (cellAt a0 i 3))] := by simp [tl, cellAt, List.getD, h]
   rw [eg] at e
   have hx : ((tl a0).take i ++ zeros [Ck.s, Ck.i IntKind.i64, Ck.i IntKind.i64, Ck.s] (a0.length - i)).length = a0.length := by rw [List.length_append, List.length_take, tl_len, Lib.length_zeros]; omega
   have hi1 : w64 ((i : Int) + 1) = ((i + 1 : Nat) : Int) := Lib.w64_ok (by omega) (by omega)
   show l3 Lib.big _ (m + 1) a0 (i : Int) _ = l3 Lib.big _ m a0 ((i + 1 : Nat) : Int) _
   rw [<- e]
   simp only [l3, r3, hx, Lib.dlt, Lib.dle0, Lib.toN, h, decide_true, Bool.and_self, cond_true, hi1]
  ·left
   have : i = a0.length := by omega
   subst this
   rw [Nat.sub_self, List.take_of_length_le (by rw [tl_len]; exact Nat.le_refl _), show zeros [Ck.s, Ck.i IntKind.i64, Ck.i IntKind.i64, Ck.s] 0 = [] from rfl, List.append_nil]
   simp only [l3, r3, Lib.dlt, Nat.lt_irrefl, decide_false, cond_false]) Lib.big 0 (Nat.zero_le _) (Lib.lt_big (by omega))
 simpa using mono
theorem ok (a0 : Row) (hl : a0.length <= 1048576) : c a0 = true /\ v a0 = tl a0 := out a0 (run a0 hl)
end Go.FG.U18

namespace Go.FG.U68
def tl (a0 : Row) : Row := a0.map fun y => [CV.s (cvS (y.getD 0 (.b false)))]
theorem tl_len (a0 : Row) : (tl a0).length = a0.length := by unfold tl; simp
theorem tl_sh (a0 : Row) : ∀ y ∈ tl a0, y.length = 1 := by
 intro y hy; unfold tl at hy; obtain ⟨z, _, rfl⟩ := List.mem_map.1 hy; rfl
theorem run (a0 : Row) (hl : a0.length <= 1048576) : vo a0 = some (tl a0) := by
 unfold vo b
 rw [show decide ((a0.length : Int) = (a0.length : Int)) = true by simp, Lib.toN, Lib.roomy_of (by omega) (by omega), Bool.and_self, cond_true]
 have mono := Lib.loop_gen (fun m (s : Nat) => l3 Lib.big (fun (_ : Row) (_ : Int) (y : Row) => some y) m a0 (s : Int) ((tl a0).take s ++ zeros [Ck.s] (a0.length - s))) (fun i => a0.length - i) (fun i => i <= a0.length) (fun _ => some (tl a0)) (fun m i hi => by
  by_cases h : i < a0.length
  ·right
   refine ⟨i + 1, h, by omega, rfl, ?_⟩
   have hlt : i < (tl a0).length := by rw [tl_len]; exact h
   have e := Lib.setC_step (ks := [Ck.s]) (tl_len a0) h (List.getElem?_eq_getElem hlt) (tl_sh a0 _ (List.getElem_mem hlt))
   have eg : (tl a0)[i] = [CV.s (cvS (cellAt a0 i 0))] := by simp [tl, cellAt, List.getD, h]
   rw [eg] at e
   have hx : ((tl a0).take i ++ zeros [Ck.s] (a0.length - i)).length = a0.length := by rw [List.length_append, List.length_take, tl_len, Lib.length_zeros]; omega
   have hi1 : w64 ((i : Int) + 1) = ((i + 1 : Nat) : Int) := Lib.w64_ok (by omega) (by omega)
   show l3 Lib.big _ (m + 1) a0 (i : Int) _ = l3 Lib.big _ m a0 ((i + 1 : Nat) : Int) _
   rw [<- e]
   simp only [l3, r3, hx, Lib.dlt, Lib.dle0, Lib.toN, h, decide_true, Bool.and_self, cond_true, hi1]
  ·left
   have : i = a0.length := by omega
   subst this
   rw [Nat.sub_self, List.take_of_length_le (by rw [tl_len]; exact Nat.le_refl _), show zeros [Ck.s] 0 = [] from rfl, List.append_nil]
   simp only [l3, r3, Lib.dlt, Nat.lt_irrefl, decide_false, cond_false]) Lib.big 0 (Nat.zero_le _) (Lib.lt_big (by omega))
 simpa using mono
theorem ok (a0 : Row) (hl : a0.length <= 1048576) : c a0 = true /\ v a0 = tl a0 := out a0 (run a0 hl)
end Go.FG.U68

namespace Go.FG.U104
def tl (a0 : Row) : Row := a0.map fun y => [CV.l 3 (U131.v (cvL (y.getD 0 (.b false))))]
theorem tl_len (a0 : Row) : (tl a0).length = a0.length := by unfold tl; simp
theorem tl_sh (a0 : Row) : ∀ y ∈ tl a0, y.length = 1 := by
 intro y hy; unfold tl at hy; obtain ⟨z, _, rfl⟩ := List.mem_map.1 hy; rfl
theorem run (a0 : Row) (hl : a0.length <= 1048576) (hin : U100.inn a0) : vo a0 = some (tl a0) := by
 unfold vo b
 rw [show decide ((a0.length : Int) = (a0.length : Int)) = true by simp, Lib.toN, Lib.roomy_of (by omega) (by omega), Bool.and_self, cond_true]
 have mono := Lib.loop_gen (fun m (s : Nat) => l3 Lib.big (fun (_ : Row) (_ : Int) (y : Row) => some y) m a0 (s : Int) ((tl a0).take s ++ zeros [Ck.l 3] (a0.length - s))) (fun i => a0.length - i) (fun i => i <= a0.length) (fun _ => some (tl a0)) (fun m i hi => by
  by_cases h : i < a0.length
  ·right
   refine ⟨i + 1, h, by omega, rfl, ?_⟩
   have hlt : i < (tl a0).length := by rw [tl_len]; exact h
   have e := Lib.setC_step (ks := [Ck.l 3]) (tl_len a0) h (List.getElem?_eq_getElem hlt) (tl_sh a0 _ (List.getElem_mem hlt))
   have eg : (tl a0)[i] = [CV.l 3 (U131.v (cvL (cellAt a0 i 0)))] := by simp [tl, cellAt, List.getD, h]
   rw [eg] at e
   have hx : ((tl a0).take i ++ zeros [Ck.l 3] (a0.length - i)).length = a0.length := by rw [List.length_append, List.length_take, tl_len, Lib.length_zeros]; omega
   have hi1 : w64 ((i : Int) + 1) = ((i + 1 : Nat) : Int) := Lib.w64_ok (by omega) (by omega)
   have hc : U131.c (cvL (cellAt a0 i 0)) = true := decide_eq_true (hin.1 i h)
   show l3 Lib.big _ (m + 1) a0 (i : Int) _ = l3 Lib.big _ m a0 ((i + 1 : Nat) : Int) _
   rw [<- e]
   simp only [l3, r3, hx, hc, Lib.dlt, Lib.dle0, Lib.toN, h, decide_true, Bool.and_self, cond_true, hi1]
  ·left
   have : i = a0.length := by omega
   subst this
   rw [Nat.sub_self, List.take_of_length_le (by rw [tl_len]; exact Nat.le_refl _), show zeros [Ck.l 3] 0 = [] from rfl, List.append_nil]
   simp only [l3, r3, Lib.dlt, Nat.lt_irrefl, decide_false, cond_false]) Lib.big 0 (Nat.zero_le _) (Lib.lt_big (by omega))
 simpa using mono
theorem ok (a0 : Row) (hl : a0.length <= 1048576) (hin : U100.inn a0) : c a0 = true /\ v a0 = tl a0 := out a0 (run a0 hl hin)
end Go.FG.U104

namespace Go.FG.U31
def tl (a0 : Row) : Row := a0.map fun y => [CV.s (cvS (y.getD 0 (.b false))), CV.s (cvS (y.getD 1 (.b false))), CV.i IntKind.i64 (cvI (y.getD 2 (.b false))), CV.i IntKind.i64 (cvI (y.getD 3 (.b false))), CV.i IntKind.i64 (cvI (y.getD 4 (.b false)))]
theorem tl_len (a0 : Row) : (tl a0).length = a0.length := by unfold tl; simp
theorem tl_sh (a0 : Row) : ∀ y ∈ tl a0, y.length = 5 := by
 intro y hy; unfold tl at hy; obtain ⟨z, _, rfl⟩ := List.mem_map.1 hy; rfl
theorem run (a0 : Row) (hl : a0.length <= 1048576) : vo a0 = some (tl a0) := by
 unfold vo b
 rw [show decide ((a0.length : Int) = (a0.length : Int)) = true by simp, Lib.toN, Lib.roomy_of (by omega) (by omega), Bool.and_self, cond_true]
 have mono := Lib.loop_gen (fun m (s : Nat) => l3 Lib.big (fun (_ : Row) (_ : Int) (y : Row) => some y) m a0 (s : Int) ((tl a0).take s ++ zeros [Ck.s, Ck.s, Ck.i IntKind.i64, Ck.i IntKind.i64, Ck.i IntKind.i64] (a0.length - s))) (fun i => a0.length - i) (fun i => i <= a0.length) (fun _ => some (tl a0)) (fun m i hi => by
  by_cases h : i < a0.length
  ·right
   refine ⟨i + 1, h, by omega, rfl, ?_⟩
   have hlt : i < (tl a0).length := by rw [tl_len]; exact h
   have e := Lib.setC_step (ks := [Ck.s, Ck.s, Ck.i IntKind.i64, Ck.i IntKind.i64, Ck.i IntKind.i64]) (tl_len a0) h (List.getElem?_eq_getElem hlt) (tl_sh a0 _ (List.getElem_mem hlt))
   have eg : (tl a0)[i] = [CV.s (cvS (cellAt a0 i 0)), CV.s (cvS (cellAt a0 i 1)), CV.i IntKind.i64 (cvI (cellAt a0 i 2)), CV.i IntKind.i64 (cvI (cellAt a0 i 3)), CV.i IntKind.i64 (cvI (cellAt a0 i 4))] := by simp [tl, cellAt, List.getD, h]
   rw [eg] at e
   have hx : ((tl a0).take i ++ zeros [Ck.s, Ck.s, Ck.i IntKind.i64, Ck.i IntKind.i64, Ck.i IntKind.i64] (a0.length - i)).length = a0.length := by rw [List.length_append, List.length_take, tl_len, Lib.length_zeros]; omega
   have hi1 : w64 ((i : Int) + 1) = ((i + 1 : Nat) : Int) := Lib.w64_ok (by omega) (by omega)
   show l3 Lib.big _ (m + 1) a0 (i : Int) _ = l3 Lib.big _ m a0 ((i + 1 : Nat) : Int) _
   rw [<- e]
   simp only [l3, r3, hx, Lib.dlt, Lib.dle0, Lib.toN, h, decide_true, Bool.and_self, cond_true, hi1]
  ·left
   have : i = a0.length := by omega
   subst this
   rw [Nat.sub_self, List.take_of_length_le (by rw [tl_len]; exact Nat.le_refl _), show zeros [Ck.s, Ck.s, Ck.i IntKind.i64, Ck.i IntKind.i64, Ck.i IntKind.i64] 0 = [] from rfl, List.append_nil]
   simp only [l3, r3, Lib.dlt, Nat.lt_irrefl, decide_false, cond_false]) Lib.big 0 (Nat.zero_le _) (Lib.lt_big (by omega))
 simpa using mono
theorem ok (a0 : Row) (hl : a0.length <= 1048576) : c a0 = true /\ v a0 = tl a0 := out a0 (run a0 hl)
end Go.FG.U31

namespace Go.FG.U32
def tl (a0 : Row) : Row := a0.map fun y => [CV.i IntKind.i64 (cvI (y.getD 0 (.b false))), CV.s (cvS (y.getD 1 (.b false))), CV.i IntKind.i64 (cvI (y.getD 2 (.b false))), CV.i IntKind.i64 (cvI (y.getD 3 (.b false))), CV.i IntKind.i64 (cvI (y.getD 4 (.b false))), CV.s (cvS (y.getD 5 (.b false))), CV.i IntKind.i64 (cvI (y.getD 6 (.b false)))]
theorem tl_len (a0 : Row) : (tl a0).length = a0.length := by unfold tl; simp
theorem tl_sh (a0 : Row) : ∀ y ∈ tl a0, y.length = 7 := by
 intro y hy; unfold tl at hy; obtain ⟨z, _, rfl⟩ := List.mem_map.1 hy; rfl
theorem run (a0 : Row) (hl : a0.length <= 1048576) : vo a0 = some (tl a0) := by
 unfold vo b
 rw [show decide ((a0.length : Int) = (a0.length : Int)) = true by simp, Lib.toN, Lib.roomy_of (by omega) (by omega), Bool.and_self, cond_true]
 have mono := Lib.loop_gen (fun m (s : Nat) => l3 Lib.big (fun (_ : Row) (_ : Int) (y : Row) => some y) m a0 (s : Int) ((tl a0).take s ++ zeros [Ck.i IntKind.i64, Ck.s, Ck.i IntKind.i64, Ck.i IntKind.i64, Ck.i IntKind.i64, Ck.s, Ck.i IntKind.i64] (a0.length - s))) (fun i => a0.length - i) (fun i => i <= a0.length) (fun _ => some (tl a0)) (fun m i hi => by
  by_cases h : i < a0.length
  ·right
   refine ⟨i + 1, h, by omega, rfl, ?_⟩
   have hlt : i < (tl a0).length := by rw [tl_len]; exact h
   have e := Lib.setC_step (ks := [Ck.i IntKind.i64, Ck.s, Ck.i IntKind.i64, Ck.i IntKind.i64, Ck.i IntKind.i64, Ck.s, Ck.i IntKind.i64]) (tl_len a0) h (List.getElem?_eq_getElem hlt) (tl_sh a0 _ (List.getElem_mem hlt))
   have eg : (tl a0)[i] = [CV.i IntKind.i64 (cvI (cellAt a0 i 0)), CV.s (cvS (cellAt a0 i 1)), CV.i IntKind.i64 (cvI (cellAt a0 i 2)), CV.i IntKind.i64 (cvI (cellAt a0 i 3)), CV.i IntKind.i64 (cvI (cellAt a0 i 4)), CV.s (cvS (cellAt a0 i 5)), CV.i IntKind.i64 (cvI (cellAt a0 i 6))] := by simp [tl, cellAt, List.getD, h]
   rw [eg] at e
   have hx : ((tl a0).take i ++ zeros [Ck.i IntKind.i64, Ck.s, Ck.i IntKind.i64, Ck.i IntKind.i64, Ck.i IntKind.i64, Ck.s, Ck.i IntKind.i64] (a0.length - i)).length = a0.length := by rw [List.length_append, List.length_take, tl_len, Lib.length_zeros]; omega
   have hi1 : w64 ((i : Int) + 1) = ((i + 1 : Nat) : Int) := Lib.w64_ok (by omega) (by omega)
   show l3 Lib.big _ (m + 1) a0 (i : Int) _ = l3 Lib.big _ m a0 ((i + 1 : Nat) : Int) _
   rw [<- e]
   simp only [l3, r3, hx, Lib.dlt, Lib.dle0, Lib.toN, h, decide_true, Bool.and_self, cond_true, hi1]
  ·left
   have : i = a0.length := by omega
   subst this
   rw [Nat.sub_self, List.take_of_length_le (by rw [tl_len]; exact Nat.le_refl _), show zeros [Ck.i IntKind.i64, Ck.s, Ck.i IntKind.i64, Ck.i IntKind.i64, Ck.i IntKind.i64, Ck.s, Ck.i IntKind.i64] 0 = [] from rfl, List.append_nil]
   simp only [l3, r3, Lib.dlt, Nat.lt_irrefl, decide_false, cond_false]) Lib.big 0 (Nat.zero_le _) (Lib.lt_big (by omega))
 simpa using mono
theorem ok (a0 : Row) (hl : a0.length <= 1048576) : c a0 = true /\ v a0 = tl a0 := out a0 (run a0 hl)
end Go.FG.U32

namespace Go.FG.U69
theorem ok (r : Row) (k : Int) (hl : r.length <= 1048576) (hin : U100.inn r) : c r k = true /\ v r k = (U104.tl r, k) := by
 have h := U104.ok r hl hin
 exact out r k (by unfold vo b; rw [h.1, h.2, cond_true])
end Go.FG.U69

namespace Go.FG.U30
theorem ok (r0 r1 r2 : Row) (k : Int) (h0 : r0.length <= 1048576) (h1 : r1.length <= 1048576) (hl : r2.length <= 1048576) (hin : U100.inn r2) : c r0 r1 r2 k = true /\ v r0 r1 r2 k = (U68.tl r0, U68.tl r1, U104.tl r2, k) := by
 have a0 := U68.ok r0 h0
 have a1 := U68.ok r1 h1
 have a2 := U69.ok r2 k hl hin
 exact out r0 r1 r2 k (by unfold vo b; rw [a0.1, a0.2, a1.1, a1.2, a2.1, a2.2, cond_true, cond_true, cond_true])
def bs (r : Row) : List ByteArray := r.map fun y => cvS (y.getD 0 (.b false))
def is (r : Row) : List (List Int) := r.map fun y => (cvL (y.getD 0 (.b false))).map fun z => cvI (z.getD 0 (.b false))
theorem tl_rs (r : Row) : U68.tl r = Lib.rs (bs r) := by
 unfold U68.tl Lib.rs bs; rw [List.map_map]; rfl
theorem tl_rr (r : Row) : U104.tl r = Lib.rr (is r) := by
 unfold U104.tl Lib.rr is
 rw [List.map_map]
 apply List.map_congr_left
 intro y _
 show [CV.l 3 (U131.v (cvL (y.getD 0 (.b false))))] = [CV.l 3 (Lib.ri ((cvL (y.getD 0 (.b false))).map fun z => cvI (z.getD 0 (.b false))))]
 unfold U131.v Lib.ri; rw [List.map_map]; rfl
theorem bs_len (r : Row) : (bs r).length = r.length := by unfold bs; simp
theorem is_len (r : Row) : (is r).length = r.length := by unfold is; simp
theorem is_fit {r : Row} (hl : r.length <= 1048576) (h : U100.inn r) : (is r).length <= 1048576 /\ (∀ q ∈ is r, q.length <= 1048576) /\ ((is r).map List.length).sum <= 1048576 := by
 refine ⟨by rw [is_len]; exact hl, fun q hq => ?_, ?_⟩
 ·unfold is at hq
  obtain ⟨y, hy, rfl⟩ := List.mem_map.1 hq
  obtain ⟨i, hi, rfl⟩ := List.getElem_of_mem hy
  have := h.1 i hi
  rw [Lib.cellAt_of hi] at this
  rw [List.length_map]; exact this
 ·have := h.2
  unfold U100.tot at this
  unfold is
  rw [List.map_map]
  rw [show (List.length ∘ fun y : List CV => (cvL (y.getD 0 (.b false))).map fun z => cvI (z.getD 0 (.b false))) = fun y : List CV => (cvL (y.getD 0 (.b false))).length from by funext y; simp]
  exact this
end Go.FG.U30

namespace Go.FG.U9
theorem ok (i0 : Int) (r1 r2 r3 r4 : Row) (i5 : Int) (r6 r7 : Row) (i8 : Int) (h1 : r1.length <= 1048576) (h2 : r2.length <= 1048576) (h3 : r3.length <= 1048576) (h4 : r4.length <= 1048576) (hin : U100.inn r4) (h6 : r6.length <= 1048576) (h7 : r7.length <= 1048576) :
  c i0 r1 r2 r3 r4 i5 r6 r7 i8 = true /\ v i0 r1 r2 r3 r4 i5 r6 r7 i8 = (i0, U18.tl r1, U68.tl r2, U68.tl r3, U104.tl r4, i5, U31.tl r6, U32.tl r7, i8) := by
 have a1 := U18.ok r1 h1
 have a2 := U30.ok r2 r3 r4 i5 h2 h3 h4 hin
 have a3 := U31.ok r6 h6
 have a4 := U32.ok r7 h7
 exact out i0 r1 r2 r3 r4 i5 r6 r7 i8 (by unfold vo b; rw [a1.1, a1.2, a2.1, a2.2, a3.1, a3.2, a4.1, a4.2, cond_true, cond_true, cond_true, cond_true])
def eo (y : List CV) : Lib.En := ⟨cvS (y.getD 0 (.b false)), cvI (y.getD 1 (.b false)), cvI (y.getD 2 (.b false)), cvS (y.getD 3 (.b false))⟩
def fo (y : List CV) : Lib.Fe := ⟨cvS (y.getD 0 (.b false)), cvS (y.getD 1 (.b false)), cvI (y.getD 2 (.b false)), cvI (y.getD 3 (.b false)), cvI (y.getD 4 (.b false))⟩
def co (y : List CV) : Lib.Cl := ⟨cvI (y.getD 0 (.b false)), cvS (y.getD 1 (.b false)), cvI (y.getD 2 (.b false)), cvI (y.getD 3 (.b false)), cvI (y.getD 4 (.b false)), cvS (y.getD 5 (.b false)), cvI (y.getD 6 (.b false))⟩
theorem tl_re (r : Row) : U18.tl r = Lib.re (r.map eo) := by
 unfold U18.tl Lib.re; rw [List.map_map]; rfl
theorem tl_rf (r : Row) : U31.tl r = Lib.rf (r.map fo) := by
 unfold U31.tl Lib.rf; rw [List.map_map]; rfl
theorem tl_rc (r : Row) : U32.tl r = Lib.rc (r.map co) := by
 unfold U32.tl Lib.rc; rw [List.map_map]; rfl
theorem abs (i0 : Int) (r1 r2 r3 r4 : Row) (i5 : Int) (r6 r7 : Row) (i8 : Int) (h : r1.length <= 1048576 /\ (r2.length <= 1048576 /\ r3.length <= 1048576 /\ r4.length <= 1048576 /\ U100.inn r4) /\ r6.length <= 1048576 /\ r7.length <= 1048576) :
  ∃ p : Lib.Px, p.Fit 1048576 /\ c i0 r1 r2 r3 r4 i5 r6 r7 i8 = true /\ v i0 r1 r2 r3 r4 i5 r6 r7 i8 = (p.now, Lib.re p.en, Lib.rs p.w, Lib.rs p.m, Lib.rr p.s, p.a, Lib.rf p.fe, Lib.rc p.cl, p.hits) := by
 obtain ⟨h1, ⟨h2, h3, h4, hin⟩, h6, h7⟩ := h
 have t := ok i0 r1 r2 r3 r4 i5 r6 r7 i8 h1 h2 h3 h4 hin h6 h7
 rw [tl_re, U30.tl_rs, U30.tl_rs, U30.tl_rr, tl_rf, tl_rc] at t
 refine ⟨⟨i0, r1.map eo, U30.bs r2, U30.bs r3, U30.is r4, i5, r6.map fo, r7.map co, i8⟩, ⟨by simpa using h1, by dsimp only; rw [U30.bs_len]; exact h2, by dsimp only; rw [U30.bs_len]; exact h3, U30.is_fit h4 hin, by simpa using h6, by simpa using h7⟩, t⟩
end Go.FG.U9

namespace Go.FG.U101
open Lib (rr)
theorem run {R : Type} (N : Nat) (K0 : Int -> Row -> Int -> Int -> Int -> Option R) (K1 : Int -> Row -> Int -> Int -> Int -> Row -> Option R) (s : List (List Int)) (z y a : Int) (hf : U106.fitS s) (m : Nat) (hm : s.length + 1 < m) (kr : Row -> Option R)
  (h0 : s = [] -> K0 0 (rr s) z y a = kr []) (h1 : K1 s.length (rr s) z y a (rr s) = kr (rr s)) : l3 N K0 K1 m 0 (rr s) z y a = kr (rr s) := by
 obtain ⟨m, rfl⟩ : ∃ m', m = m' + 1 := ⟨m - 1, by omega⟩
 have hz : ∀ q : Row, zeros [Ck.i IntKind.i64] 0 ++ q = q := fun q => rfl
 have hci : ∀ i (h : i < s.length), roomy (List.length (zeros [Ck.i IntKind.i64] 0) + List.length (Lib.ri s[i])) 8 = true := fun i h => by
  have := hf.2 _ (List.getElem_mem h)
  exact Lib.roomy_of (by rw [Lib.ri_len]; simp [zeros]; omega) (by rw [Lib.ri_len]; simp [zeros]; omega)
 by_cases hs : s = []
 ·subst hs
  simp only [l3, r3, Lib.rr_len, List.length_nil, Int.natCast_zero, Int.lt_irrefl, decide_false, cond_false]
  exact h0 rfl
 ·have hp : 0 < s.length := List.length_pos_iff.2 hs
  have key := Lib.for_run (R := R) s.length (fun m i (x : Row) => l3a N K0 K1 m (i : Int) (rr s) z y a x) (fun i => rr (s.take i)) (kr (rr s)) (fun m i h => by
   have hl := hf.1
   simp only [l3a, r3a, Lib.rr_len, Lib.dlt, h, decide_true, cond_true, Lib.dle0, Bool.true_and, Lib.toN, Lib.rr0 h, cvL, hci i h, hz, Lib.set1, List.length_singleton]
   rw [Lib.roomy_of (by rw [List.length_take]; omega) (by rw [List.length_take]; omega), cond_true, Lib.w64_s h (by omega)]
   have := Lib.take_snoc (fun q => [CV.l 3 (Lib.ri q)]) s i h
   unfold rr; rw [<- this]) (fun m => by
   simp only [l3a, r3a, Lib.rr_len, Lib.dlt, Nat.lt_irrefl, decide_false, cond_false, List.take_length]; exact h1) m 1 hp (by omega)
  have e := hci 0 hp
  have e0 := Lib.rr0 (l := s) hp
  simp only [l3, r3, decide_eq_true (show (0 : Int) < (s.length : Int) by omega), cond_true, Bool.and_self, Lib.rr_len, show decide ((0 : Int) <= 0) = true from rfl, show Int.toNat 0 = 0 from rfl, e0, cvL, e, hz, cond_true, Lib.set1, List.nil_append]
  rw [show w64 (0 + 1) = ((1 : Nat) : Int) from rfl]
  refine Eq.trans ?_ key
  have := Lib.take_snoc (fun q => [CV.l 3 (Lib.ri q)]) s 0 hp
  unfold rr; rw [show (0 + 1) = 1 from rfl] at this; rw [<- this]; rfl
theorem ok (s : List (List Int)) (a : Int) (hf : U106.fitS s) : c (rr s) a = true /\ v (rr s) a = (rr s, a) := by
 refine out _ _ ?_
 unfold vo b
 exact run Lib.big (fun _ _ _ _ y => some ([], y)) (fun _ _ _ _ y20 y21 => some (y21, y20)) s a 0 a hf Lib.big (Lib.lt_big (by have := hf.1; omega)) (fun x => some (x, a)) (fun _ => rfl) rfl
end Go.FG.U101

namespace Go.FG.U66
open Lib (rr rs)
theorem ok (w m : List ByteArray) (s : List (List Int)) (a : Int) (hw : w.length <= 1048576) (hm : m.length <= 1048576) (hf : U106.fitS s) : c (rs w) (rs m) (rr s) a = true /\ v (rs w) (rs m) (rr s) a = (rs w, rs m, rr s, a) := by
 have h3 := U101.ok s a hf
 have r1 : roomy (List.length (zeros [Ck.s] 0) + List.length (rs w)) 16 = true := Lib.roomy_of (by simp [zeros, Lib.rs_len]; omega) (by simp [zeros, Lib.rs_len]; omega)
 have r2 : roomy (List.length (zeros [Ck.s] 0) + List.length (rs m)) 16 = true := Lib.roomy_of (by simp [zeros, Lib.rs_len]; omega) (by simp [zeros, Lib.rs_len]; omega)
 exact out _ _ _ _ (by unfold vo b; rw [r1, r2, h3.1, h3.2, cond_true, cond_true, cond_true]; rfl)
end Go.FG.U66

namespace Go.FG.U27
open Lib (rr rs re rf rc Px)
theorem ok (p : Px) (hp : p.Fit 1048576) : c p.now (re p.en) (rs p.w) (rs p.m) (rr p.s) p.a (rf p.fe) (rc p.cl) p.hits = true /\ v p.now (re p.en) (rs p.w) (rs p.m) (rr p.s) p.a (rf p.fe) (rc p.cl) p.hits = (p.now, re p.en, rs p.w, rs p.m, rr p.s, p.a, rf p.fe, rc p.cl, p.hits) := by
 have he := hp.en
 have hf := hp.fe
 have hc := hp.cl
 have h2 := U66.ok p.w p.m p.s p.a hp.w hp.m ⟨hp.s.1, hp.s.2.1⟩
 exact out _ _ _ _ _ _ _ _ _ (by
  unfold vo b
  rw [h2.1, h2.2, cond_true, Lib.roomy_of (b := 48) (by simp [zeros, Lib.re_len]; omega) (by simp [zeros, Lib.re_len]; omega), Lib.roomy_of (b := 56) (by simp [zeros, Lib.rf_len]; omega) (by simp [zeros, Lib.rf_len]; omega), Lib.roomy_of (b := 72) (by simp [zeros, Lib.rc_len]; omega) (by simp [zeros, Lib.rc_len]; omega)]
  rfl)
end Go.FG.U27

namespace Go.FG.U28
open Lib (rr rs re rf rc Px el)
open U67 (pxOk)
theorem ok (p : Px) (f : Int) (hp : p.Fit 1048576) : c p.now (re p.en) (rs p.w) (rs p.m) (rr p.s) p.a (rf p.fe) (rc p.cl) p.hits f = true /\ v p.now (re p.en) (rs p.w) (rs p.m) (rr p.s) p.a (rf p.fe) (rc p.cl) p.hits f = A_Open.opn p f := by
 have h := U67.ok p hp
 have hf := hp.fe
 refine out _ _ _ _ _ _ _ _ _ _ ?_
 unfold vo b A_Open.opn
 rw [h.1, h.2, cond_true, Lib.rf_len, Lib.w64_ok (x := (p.fe.length : Int) - 1) (by omega) (by omega), show U60.v f 0 ((p.fe.length : Int) - 1) = decide (0 <= f /\ f <= (p.fe.length : Int) - 1) from U137.in_dec _ _ _]
 cases pxOk p with
 | false => rfl
 | true =>
  cases hd : decide (0 <= f /\ f <= (p.fe.length : Int) - 1) with
  | false => rfl
  | true =>
   have := of_decide_eq_true hd
   obtain ⟨n, rfl⟩ : ∃ n : Nat, f = (n : Int) := ⟨f.toNat, by omega⟩
   have hn : n < p.fe.length := by omega
   simp only [cond_true, Bool.true_and, Lib.dle0, Lib.dlt, hn, decide_true, Bool.and_self, Lib.toN, Lib.wf2' hn, cvI]
end Go.FG.U28

namespace Go.FG.A_Put
theorem put (s : Int) (t q : ByteArray) (ht : (t.size : Int) <= 400) (hs : 1 <= s /\ s <= 3) : U47.v s t [] q = bif decide (s = 1) && (decide (1 <= q.size /\ q.size <= 40) && decide (t.size + q.size <= 400)) then (s, t ++ q, [], true) else (s, t, [], false) := by
 unfold U47.v
 have hok : U84.v s t [] = true := by
  unfold U84.v U84.rest
  rw [decide_eq_true hs, decide_eq_true (show t.size <= 400 by omega)]; rfl
 by_cases h1 : s = 1
 ·by_cases h2 : 1 <= q.size /\ q.size <= 40
  ·by_cases h3 : t.size + q.size <= 400
   ·rw [if_pos ⟨hok, h1, h2.1, h2.2, h3⟩, decide_eq_true h1, decide_eq_true h2, decide_eq_true h3]; rfl
   ·rw [if_neg (by omega), decide_eq_false h3]; simp
  ·rw [if_neg (by omega), decide_eq_false h2]; simp
 ·rw [if_neg (by simp [h1]), decide_eq_false h1]; rfl
end Go.FG.A_Put

namespace Go.FG.U29
open Lib (rr rs re rf rc Px Cl el)
open A_Px (ec endCl mapIdx_const)
theorem ok (p : Px) (f : Nat) (st : Int) (hf : f < p.fe.length) (hl : p.fe.length <= 2097152) (hc : p.cl.length <= 2097152) :
  c p.now (re p.en) (rs p.w) (rs p.m) (rr p.s) p.a (rf p.fe) (rc p.cl) p.hits (f : Int) st = true /\ v p.now (re p.en) (rs p.w) (rs p.m) (rr p.s) p.a (rf p.fe) (rc p.cl) p.hits (f : Int) st = (p.now, re p.en, rs p.w, rs p.m, rr p.s, p.a, rf p.fe, rc (endCl p.cl f st (el p.fe f).t), p.hits) := by
 refine out _ _ _ _ _ _ _ _ _ _ _ ?_
 unfold vo b
 have key := Lib.upd_run Cl.row p.cl (fun _ c => ec f st (el p.fe f).t c) (fun n (i : Nat) x => l1 Lib.big (fun (_ _ _ y15 y16 y17 : Int) (y18 y19 y20 y21 y22 y23 : Row) => some (y15, y18, y19, y20, y21, y16, y22, y23, y17)) n (f : Int) st (i : Int) p.now p.a p.hits (re p.en) (rs p.w) (rs p.m) (rr p.s) (rf p.fe) x) (fun x => some (p.now, re p.en, rs p.w, rs p.m, rr p.s, p.a, rf p.fe, x, p.hits)) (fun n i L h h2 hL hLi => ?_) (fun n L hL => ?_) Lib.big (Lib.lt_big (by omega))
 ·rw [mapIdx_const] at key; exact key
 ·have e2 : cellAt (L.map Cl.row) i 2 = CV.i IntKind.i64 p.cl[i].fe := by rw [Lib.cell_map _ L i _ h2, hLi]; rfl
  have e4 : cellAt (L.map Cl.row) i 4 = CV.i IntKind.i64 p.cl[i].sta := by rw [Lib.cell_map _ L i _ h2, hLi]; rfl
  have s1 : setC (L.map Cl.row) i 5 [CV.s (el p.fe f).t] = (L.set i { p.cl[i] with got := (el p.fe f).t }).map Cl.row := Lib.setC_map Cl.row L i 5 _ _ h2 (by rw [hLi]; rfl)
  have h3 : i < (L.set i { p.cl[i] with got := (el p.fe f).t }).length := by simpa using h2
  have s2 : setC ((L.set i { p.cl[i] with got := (el p.fe f).t }).map Cl.row) i 4 [CV.i IntKind.i64 st] = ((L.set i { p.cl[i] with got := (el p.fe f).t }).set i { p.cl[i] with sta := st, got := (el p.fe f).t }).map Cl.row := Lib.setC_map Cl.row _ i 4 _ _ h3 (by rw [List.getElem_set_self]; rfl)
  simp only [l1, r1, Lib.dlt, h2, hf, List.length_map, List.length_set, decide_true, Lib.dle0, Bool.and_self, cond_true, Lib.toN, e2, e4, cvI, s1, s2, List.set_set, Lib.rf_len, Lib.wf1 hf, cvS, Lib.w64_s h (by omega : p.cl.length <= 9223372036854775807), Lib.w64_ok (x := (f : Int) + 1) (by omega) (by omega)]
  unfold ec
  cases decide (p.cl[i].fe = (f : Int) + 1) with
  | false =>
   rw [Bool.false_and, cond_false, cond_false, <- hLi, List.set_getElem_self]
  | true =>
   cases decide (p.cl[i].sta = 1) with
   | false => rw [Bool.true_and, cond_true, cond_false, cond_false, <- hLi, List.set_getElem_self]
   | true => rw [Bool.true_and, cond_true, cond_true, cond_true]
 ·simp only [l1, r1, List.length_map, hL, Lib.dlt, Nat.lt_irrefl, decide_false, cond_false]
end Go.FG.U29

namespace Go.FG.U14
open Lib (rr rs re rf rc Px el)
open A_Open (opn prt told opn_nat told_fit el_set setF)
theorem ok (p : Px) (f : Int) (q : ByteArray) (hp : p.Fit 1048576) : c p.now (re p.en) (rs p.w) (rs p.m) (rr p.s) p.a (rf p.fe) (rc p.cl) p.hits f q = true /\ v p.now (re p.en) (rs p.w) (rs p.m) (rr p.s) p.a (rf p.fe) (rc p.cl) p.hits f q = (p.now, re p.en, rs p.w, rs p.m, rr p.s, p.a, rf (prt p f q).1.fe, rc (prt p f q).1.cl, p.hits, (prt p f q).2) := by
 have h1 := U27.ok p hp
 have h2 := U28.ok p f hp
 have hf := hp.fe
 have hc := hp.cl
 refine out _ _ _ _ _ _ _ _ _ _ _ ?_
 unfold vo b prt
 simp only [Lib.lt, h1.1, h1.2, h2.1, h2.2, cond_true]
 cases ho : opn p f with
 | false => rfl
 | true =>
  obtain ⟨n, rfl, hn, hok, hs1⟩ := opn_nat ho
  have hfo := A_Open.fe_ok hok n hn
  unfold U103.fOk at hfo
  simp only [Bool.and_eq_true, decide_eq_true_eq] at hfo
  have hput : U46.v 1 (el p.fe n).t [] q = _ := A_Put.put 1 (el p.fe n).t q hfo.2.1 (by omega)
  rw [decide_eq_true (show (1 : Int) = 1 from rfl), Bool.true_and] at hput
  simp only [Bool.not_true, cond_false, cond_true, Lib.dle0, Lib.dlt, Lib.rf_len, hn, decide_true, Bool.and_self, Lib.toN, Lib.wf1 hn, cvS, hput, Bool.true_and]
  cases hs : decide (1 <= q.size /\ q.size <= 40) && decide ((el p.fe n).t.size + q.size <= 400) with
  | false => rfl
  | true =>
   have e1 := setF p.fe n 1 [CV.s ((el p.fe n).t ++ q)] { el p.fe n with t := (el p.fe n).t ++ q } hn rfl
   have hn2 : n < (p.fe.set n { el p.fe n with t := (el p.fe n).t ++ q }).length := by rw [List.length_set]; exact hn
   have h3 := U29.ok { p with fe := p.fe.set n { el p.fe n with t := (el p.fe n).t ++ q } } n 1 hn2 (by rw [List.length_set]; omega) (by dsimp only; omega)
   dsimp only at h3
   rw [el_set hn] at h3
   simp only [Bool.not_true, cond_false, cond_true, e1, h3.1, h3.2]
   rfl
end Go.FG.U14

namespace Go.FG.U72
theorem ok (l : Row) (hl : l.length <= 4294967296) : c l = true /\ v l = l := by
 refine out l ?_
 unfold vo b
 rw [show List.length (zeros [Ck.s, Ck.i IntKind.i64, Ck.i IntKind.i64, Ck.s] 0) + l.length = l.length by simp [zeros], Lib.roomy_of (by omega) (by omega)]
 rfl
end Go.FG.U72

namespace Go.FG.U105
theorem ok (l : Row) (hl : l.length <= 4294967296) : c l = true /\ v l = l := by
 refine out l ?_
 unfold vo b
 rw [show List.length (zeros [Ck.s] 0) + l.length = l.length by simp [zeros], Lib.roomy_of (by omega) (by omega)]
 rfl
end Go.FG.U105

namespace Go.FG.U73
open Lib (rr rs)
theorem ok (w m : List ByteArray) (s : List (List Int)) (a : Int) (hw : w.length <= 1048576) (hm : m.length <= 1048576) (hf : U106.fitS s) : c (rs w) (rs m) (rr s) a = true /\ v (rs w) (rs m) (rr s) a = (rs w, rs m, rr s, a) := by
 have h1 := U105.ok (rs w) (by rw [Lib.rs_len]; omega)
 have h2 := U105.ok (rs m) (by rw [Lib.rs_len]; omega)
 have h3 := U106.ok s a hf
 exact out _ _ _ _ (by unfold vo b; rw [h1.1, h1.2, h2.1, h2.2, h3.1, h3.2, cond_true, cond_true, cond_true])
end Go.FG.U73

namespace Go.FG.U33
open Lib (rr rs re rf rc Px)
theorem ok (p : Px) (hp : p.Fit 1048576) : c p.now (re p.en) (rs p.w) (rs p.m) (rr p.s) p.a (rf p.fe) (rc p.cl) p.hits = true /\ v p.now (re p.en) (rs p.w) (rs p.m) (rr p.s) p.a (rf p.fe) (rc p.cl) p.hits = (p.now, re p.en, rs p.w, rs p.m, rr p.s, p.a, rf p.fe, rc p.cl, p.hits) := by
 have he := hp.en
 have hf := hp.fe
 have hc := hp.cl
 have h1 := U72.ok (re p.en) (by rw [Lib.re_len]; omega)
 have h2 := U73.ok p.w p.m p.s p.a hp.w hp.m ⟨hp.s.1, hp.s.2.1⟩
 exact out _ _ _ _ _ _ _ _ _ (by
  unfold vo b
  rw [h1.1, h1.2, h2.1, h2.2, cond_true, cond_true, Lib.roomy_of (by simp [zeros, Lib.rf_len]; omega) (by simp [zeros, Lib.rf_len]; omega), Lib.roomy_of (by simp [zeros, Lib.rc_len]; omega) (by simp [zeros, Lib.rc_len]; omega)]
  rfl)
end Go.FG.U33

namespace Go.FG.U139
open Lib (rr)
theorem in_dec (n a b : Int) : U61.v n a b = decide (a <= n /\ n <= b) := U137.in_dec n a b
theorem ok (s : List (List Int)) (a : Int) (hf : U106.fitS s) : c (rr s) a = true /\ v (rr s) a = U137.skOk s a := by
 refine out _ _ ?_
 unfold vo b
 have hl := hf.1
 rw [Lib.rr_len]
 have inner : ∀ i (h : i < s.length) (K0 K1 : Bool -> Row -> Row -> Int -> Int -> Row -> Int -> Int -> Row -> Int -> Option Bool) (kf kt : Option Bool) (x : Int)
   (h0 : ∀ j : Int, K0 false (Lib.ri s[i]) (rr s) s.length i (Lib.ri s[i]) x j (rr s) a = kf) (h1 : ∀ j : Int, K1 false (Lib.ri s[i]) (rr s) s.length i (Lib.ri s[i]) x j (rr s) a = kt), x = (s[i].length : Int) -> l5 Lib.big K0 K1 Lib.big false (Lib.ri s[i]) (rr s) s.length (i : Int) (Lib.ri s[i]) x 0 (rr s) a = bif (s[i]).all U137.nOk then kt else kf := fun i h K0 K1 kf kt x h0 h1 hx => by
  subst hx
  exact Lib.all_list (s[i]) U137.nOk (fun m (j : Nat) => l5 Lib.big K0 K1 m false (Lib.ri s[i]) (rr s) s.length (i : Int) (Lib.ri s[i]) s[i].length (j : Int) (rr s) a) kf kt
   (fun m j hj hp => by
    have hl := hf.2 _ (List.getElem_mem h)
    unfold U137.nOk at hp
    simp only [l5, r5, Lib.dlt, hj, decide_true, Lib.dle0, Bool.and_self, cond_true, Lib.toN, Lib.ri_len, Lib.ri0 hj, cvI, in_dec, hp, Bool.not_true, cond_false, Lib.w64_s hj (by omega : s[i].length <= 9223372036854775807)])
   (fun m j hj hp => by
    unfold U137.nOk at hp
    simp only [l5, r5, Lib.dlt, hj, decide_true, Lib.dle0, Bool.and_self, cond_true, Lib.toN, Lib.ri_len, Lib.ri0 hj, cvI, in_dec, hp, Bool.not_false, h0])
   (fun m => by simp only [l5, r5, Lib.dlt, Nat.lt_irrefl, decide_false, cond_false, h1]) Lib.big (Lib.lt_big (by have := hf.2 _ (List.getElem_mem h); omega))
 have ro : ∀ q : List Int, U137.rowOk q = (q.all U137.nOk && decide (q.length = 16)) := fun q => Bool.and_comm ..
 have key := Lib.all_list s U137.rowOk (fun m (i : Nat) => l2 Lib.big (fun (y36 : Bool) (_ : Row) (_ _ : Int) (_ : Row) (_ : Int) => some y36) (fun (_ : Bool) (_ : Row) (_ _ : Int) (y46 : Row) (y47 : Int) => bif (decide ((↑(List.length y46) : Int) = 3)) then (some (U61.v y47 0 63)) else (some false)) m false (rr s) s.length (i : Int) (rr s) a) (some false) (some (decide (s.length = 3) && decide (0 <= a /\ a <= 63)))
  (fun m i h hp => by
   rw [ro, Bool.and_eq_true] at hp
   have h16 := of_decide_eq_true hp.2
   simp only [l2, r2, Lib.rr_len, Lib.dlt, h, decide_true, Lib.dle0, Bool.and_self, cond_true, Lib.toN, Lib.rr0 h, cvL, Lib.ri_len]
   rw [inner i h _ _ (some false) _ _ (fun _ => rfl) (fun _ => rfl) rfl, hp.1, cond_true, Lib.ri_len, h16, show (((16 : Nat) : Int) != 16) = false from rfl, cond_false, Lib.w64_s h (by omega)])
  (fun m i h hp => by
   rw [ro] at hp
   simp only [l2, r2, Lib.rr_len, Lib.dlt, h, decide_true, Lib.dle0, Bool.and_self, cond_true, Lib.toN, Lib.rr0 h, cvL, Lib.ri_len]
   rw [inner i h _ _ (some false) _ _ (fun _ => rfl) (fun _ => rfl) rfl]
   cases ha : (s[i]).all U137.nOk with
   | false => rfl
   | true =>
    rw [ha, Bool.true_and] at hp
    have := of_decide_eq_false hp
    rw [cond_true, Lib.ri_len, show ((s[i].length : Int) != 16) = true by simp; omega, cond_true])
  (fun m => by
   simp only [l2, r2, Lib.rr_len, Lib.dlt, Nat.lt_irrefl, decide_false, cond_false, in_dec]
   rw [show decide ((s.length : Int) = 3) = decide (s.length = 3) by rw [decide_eq_decide]; omega]
   cases decide (s.length = 3) <;> rfl) Lib.big (Lib.lt_big (by omega))
 refine key.trans ?_
 unfold U137.skOk
 cases s.all U137.rowOk <;> cases decide (s.length = 3) <;> cases decide (0 <= a /\ a <= 63) <;> rfl
end Go.FG.U139

namespace Go.FG.U152
theorem ok (n : Int) (h0 : 0 <= n) (h1 : n <= 4294967296) : c n = true /\ v n = [] := by
 refine out n ?_
 unfold vo b
 have e : w64 (n - w64 (0 - 0)) = n := by
  rw [show w64 (0 - 0) = 0 from rfl, Int.sub_zero, Lib.w64_ok (by omega) (by omega)]
 rw [e, decide_eq_false (show ¬ n < 0 by omega), cond_false]
 by_cases hn : n > 0
 ·rw [decide_eq_true hn, cond_true, decide_eq_true h0, decide_eq_true (show n <= 9223372036854775807 by omega), Lib.roomy_of (by simp; omega) (by simp; omega)]
  simp [view]
 ·rw [decide_eq_false hn, cond_false]
end Go.FG.U152

namespace Go.FG.U145
theorem ok (p q : Row) (hp : p.length <= 1048576) (hq : q.length <= 1048576) : c [[CV.l 9 p], [CV.l 9 q]] = true /\ v [[CV.l 9 p], [CV.l 9 q]] = p ++ q := by
 refine out _ ?_
 have w1 : w64 (0 + (p.length : Int)) = (p.length : Int) := by rw [Int.zero_add]; exact Lib.w64_ok (by omega) (by omega)
 have w2 : w64 ((p.length : Int) + (q.length : Int)) = (p.length : Int) + (q.length : Int) := Lib.w64_ok (by omega) (by omega)
 have hg := U152.ok ((p.length : Int) + (q.length : Int)) (by omega) (by omega)
 have d1 : decide ((p.length : Int) < 0) = false := decide_eq_false (by omega)
 have d2 : decide ((p.length : Int) + (q.length : Int) < 0) = false := decide_eq_false (by omega)
 have g1 : roomy (0 + p.length) 16 = true := Lib.roomy_of (by omega) (by omega)
 have g2 : roomy (p.length + q.length) 16 = true := Lib.roomy_of (by omega) (by omega)
 have c0 : cvL (cellAt [[CV.l 9 p], [CV.l 9 q]] 0 0) = p := rfl
 have c1 : cvL (cellAt [[CV.l 9 p], [CV.l 9 q]] 1 0) = q := rfl
 unfold vo b
 obtain ⟨n, hn⟩ : ∃ n, Lib.big = n + 3 := ⟨18446744073709551613, rfl⟩
 generalize Lib.big = B at hn ⊢
 subst hn
 have k3 : ∀ (R : Type) (K : Row -> Int -> Row -> Int -> Int -> Option R) (S : Row), S = [[CV.l 9 p], [CV.l 9 q]] -> l3 (n + 3) K (n + 3) S 0 S 2 0 = K S ((p.length : Int) + (q.length : Int)) S 2 2 := by
  intro R K S hS
  subst hS
  simp only [l3, r3, List.length_cons, List.length_nil, show Int.toNat 0 = 0 from rfl, c0, w1, d1, show w64 (0 + 1) = 1 from rfl, show Int.toNat 1 = 1 from rfl, c1, w2, d2, show w64 (1 + 1) = 2 from rfl, cond_false, show decide ((0 : Int) < 2) = true from rfl, show decide ((1 : Int) < 2) = true from rfl, show decide ((2 : Int) < 2) = false from rfl, show decide ((0 : Int) <= 0) = true from rfl, show decide ((0 : Int) <= 1) = true from rfl, show ((0 + 1 + 1 : Nat) : Int) = 2 from rfl, Bool.and_self, cond_true]
 have k11 : ∀ (R : Type) (K : Row -> Int -> Int -> Row -> Option R) (S : Row), S = [[CV.l 9 p], [CV.l 9 q]] -> l11 (n + 3) K (n + 3) S 2 0 [] = K S 2 2 (p ++ q) := by
  intro R K S hS
  subst hS
  simp only [l11, r11, List.length_cons, List.length_nil, show Int.toNat 0 = 0 from rfl, c0, g1, show w64 (0 + 1) = 1 from rfl, show Int.toNat 1 = 1 from rfl, c1, List.nil_append, g2, show w64 (1 + 1) = 2 from rfl, cond_false, show decide ((0 : Int) < 2) = true from rfl, show decide ((1 : Int) < 2) = true from rfl, show decide ((2 : Int) < 2) = false from rfl, show decide ((0 : Int) <= 0) = true from rfl, show decide ((0 : Int) <= 1) = true from rfl, show ((0 + 1 + 1 : Nat) : Int) = 2 from rfl, Bool.and_self, cond_true]
 show l3 (n + 3) _ (n + 3) _ 0 _ 2 0 = _
 rw [k3 _ _ _ rfl, hg.1, hg.2, cond_true]
 exact k11 _ _ _ rfl
end Go.FG.U145

namespace Go.FG.U128
theorem ok (w m : List ByteArray) (s : Row) (a : Int) (hw : w.length <= 1048576) (hm : m.length <= 1048576) : c (Lib.rs w) (Lib.rs m) s a = true /\ v (Lib.rs w) (Lib.rs m) s a = Lib.rs (w ++ m) := by
 have h := U145.ok (Lib.rs w) (Lib.rs m) (by rw [Lib.rs_len]; exact hw) (by rw [Lib.rs_len]; exact hm)
 have e : List.set (List.set (zeros [Ck.l 9] 2) 0 [CV.l 9 (Lib.rs w)]) 1 [CV.l 9 (Lib.rs m)] = [[CV.l 9 (Lib.rs w)], [CV.l 9 (Lib.rs m)]] := rfl
 have e2 : Lib.rs w ++ Lib.rs m = Lib.rs (w ++ m) := by unfold Lib.rs; rw [List.map_append]
 exact out _ _ _ _ (by unfold vo b; rw [e, h.1, h.2, cond_true, e2])
end Go.FG.U128

namespace Go.FG.U141
theorem ok (l : List ByteArray) (k : ByteArray) (hl : l.length <= 4294967296) : c (Lib.rs l) k = true /\ decide (v (Lib.rs l) k ≥ 0) = U116.has l k := by
 have h := out (Lib.rs l) k (x := Lib.fi (fun i => decide ((l.getD i ⟨#[]⟩) = k)) l.length 0) (by
  unfold vo b
  rw [Lib.rs_len]
  refine Lib.fi_gen (fun i => decide ((l.getD i ⟨#[]⟩) = k)) l.length (fun m (i : Nat) => l2 Lib.big (fun (_ : Row) (_ : ByteArray) (y7 _ _ : Int) => some y7) (fun (_ : Row) (_ : ByteArray) (_ _ _ : Int) => some (-1)) m (Lib.rs l) k 0 (l.length : Int) (i : Int)) some (fun m i hi hp => ?_) (fun m i hi hp => ?_) (fun m => ?_) Lib.big (Lib.lt_big (by omega))
  ·have hg : l.getD i ⟨#[]⟩ = l[i] := by simp [List.getD, hi]
   rw [hg] at hp
   have hp' : decide (k = l[i]) = true := by rw [<- hp, decide_eq_decide]; exact eq_comm
   simp only [l2, r2, Lib.rs_len, Lib.dlt, hi, decide_true, Lib.dle0, Bool.and_self, cond_true, Lib.toN, Lib.rs0 hi, cvS, Lib.beq_ba, hp']
  ·have hg : l.getD i ⟨#[]⟩ = l[i] := by simp [List.getD, hi]
   rw [hg] at hp
   have hp' : decide (k = l[i]) = false := by rw [<- hp, decide_eq_decide]; exact eq_comm
   simp only [l2, r2, Lib.rs_len, Lib.dlt, hi, decide_true, Lib.dle0, Bool.and_self, cond_true, Lib.toN, Lib.rs0 hi, cvS, Lib.beq_ba, hp', cond_false, Lib.w64_s hi (by omega : l.length <= 9223372036854775807)]
  ·simp only [l2, r2, Lib.dlt, Nat.lt_irrefl, decide_false, cond_false])
 refine ⟨h.1, ?_⟩
 rw [h.2]
 exact Lib.fi_any l (fun x => decide (x = k)) _ (fun i hi => by simp [List.getD, hi])
end Go.FG.U141

namespace Go.FG.U123
theorem ok (l : List ByteArray) (k : ByteArray) (hl : l.length <= 4294967296) : c (Lib.rs l) k = true /\ v (Lib.rs l) k = U116.has l k := by
 have h := U141.ok l k hl
 exact out _ _ (by unfold vo b; rw [h.1, h.2, cond_true])
end Go.FG.U123

namespace Go.FG.U121
open Lib (rr rs)
open U116 (has without has_iff has_no)
open U114 (keyOk kOk keysOk pOk view_rs)
theorem key_dec (k : ByteArray) : U120.v k = keyOk k := U137.in_dec _ _ _
theorem ok (w m : List ByteArray) (s : List (List Int)) (a : Int) (hw : w.length <= 1048576) (hm : m.length <= 1048576) (hf : U106.fitS s) : c (rs w) (rs m) (rr s) a = true /\ v (rs w) (rs m) (rr s) a = pOk w m s a := by
 refine out _ _ _ _ ?_
 have h2 := U139.ok s a hf
 have h3 := U128.ok w m (rr s) a hw hm
 unfold vo b
 rw [h3.1, h3.2, cond_true, Lib.rs_len]
 have hl : (w ++ m).length <= 2097152 := by rw [List.length_append]; omega
 have hin : ∀ i, i < (w ++ m).length -> U123.c (rs ((w ++ m).take i)) ((w ++ m).getD i ⟨#[]⟩) = true /\ U123.v (rs ((w ++ m).take i)) ((w ++ m).getD i ⟨#[]⟩) = has ((w ++ m).take i) ((w ++ m).getD i ⟨#[]⟩) := fun i hi => U123.ok _ _ (by rw [List.length_take]; omega)
 have hk : ∀ i (hi : i < (w ++ m).length), cvS (cellAt (rs (w ++ m)) i 0) = (w ++ m).getD i ⟨#[]⟩ := fun i hi => by rw [Lib.rs0 hi, show (w ++ m).getD i ⟨#[]⟩ = (w ++ m)[i] by rw [List.getD_eq_getElem?_getD, List.getElem?_eq_getElem hi]; rfl]; rfl
 generalize hL : w ++ m = L at hl hin hk
 have key := Lib.all_gen (kOk L) L.length (fun n (i : Nat) => l3 Lib.big (fun (y8 : Bool) (_ _ : Int) (_ _ _ : Row) (_ : Int) (_ : Row) => some y8) (fun (_ : Bool) (_ _ : Int) (y19 y20 y21 : Row) (y22 : Int) (_ : Row) => bif (decide ((↑(List.length y19) : Int) <= 2)) then (bif (decide ((↑(List.length y20) : Int) <= 4)) then (bif (U139.c y21 y22) then (some (U139.v y21 y22)) else (none)) else (some false)) else (some false)) n false (L.length : Int) (i : Int) (rs w) (rs m) (rr s) a (rs L)) (some false) (some (decide (w.length <= 2) && (decide (m.length <= 4) && U137.skOk s a)))
  (fun n i hi hp => by
   unfold kOk at hp
   rw [Bool.and_eq_true, Bool.not_eq_true'] at hp
   have b1 : inB 0 (i : Int) (L.length : Int) = true := by simp [inB]; omega
   simp only [l3, r3, Lib.rs_len, Lib.dlt, hi, decide_true, Lib.dle0, Bool.and_self, cond_true, Lib.toN, hk i hi, key_dec, hp.1, Bool.not_true, cond_false, b1, view_rs, (hin i hi).1, (hin i hi).2, hp.2, Lib.w64_s hi (by omega : L.length <= 9223372036854775807)])
  (fun n i hi hp => by
   have b1 : inB 0 (i : Int) (L.length : Int) = true := by simp [inB]; omega
   unfold kOk at hp
   cases h1 : keyOk (L.getD i ⟨#[]⟩) with
   | false => simp only [l3, r3, Lib.rs_len, Lib.dlt, hi, decide_true, Lib.dle0, Bool.and_self, cond_true, Lib.toN, hk i hi, key_dec, h1, Bool.not_false]
   | true =>
    rw [h1, Bool.true_and, Bool.not_eq_false'] at hp
    simp only [l3, r3, Lib.rs_len, Lib.dlt, hi, decide_true, Lib.dle0, Bool.and_self, cond_true, Lib.toN, hk i hi, key_dec, h1, Bool.not_true, cond_false, b1, view_rs, (hin i hi).1, (hin i hi).2, hp])
  (fun n => by
   simp only [l3, r3, Lib.rs_len, Lib.dlt, Nat.lt_irrefl, decide_false, cond_false, h2.1, h2.2, cond_true]
   rw [show decide ((w.length : Int) <= 2) = decide (w.length <= 2) by rw [decide_eq_decide]; omega, show decide ((m.length : Int) <= 4) = decide (m.length <= 4) by rw [decide_eq_decide]; omega]
   cases decide (w.length <= 2) <;> cases decide (m.length <= 4) <;> rfl) Lib.big (Lib.lt_big (by omega))
 refine key.trans ?_
 unfold pOk keysOk
 rw [hL]
 cases (List.range L.length).all (kOk L) <;> rfl
end Go.FG.U121

namespace Go.FG.U98
open Lib (rr rs)
open U116 (has)
theorem has_app (w m : List ByteArray) (k : ByteArray) : has (w ++ m) k = (has w k || has m k) := by unfold has; rw [List.any_append]
theorem ok (w m : List ByteArray) (s : Row) (a : Int) (k : ByteArray) (hw : w.length <= 1048576) (hm : m.length <= 1048576) : c (rs w) (rs m) s a k = true /\ v (rs w) (rs m) s a k = (has w k || has m k) := by
 have h1 := U128.ok w m s a hw hm
 have h2 := U123.ok (w ++ m) k (by rw [List.length_append]; omega)
 exact out _ _ _ _ _ (by unfold vo b; rw [h1.1, h1.2, h2.1, h2.2, cond_true, cond_true, has_app])
end Go.FG.U98

namespace Go.FG.U107
open Lib (rr rs re el we0 we1 we2 we3 En)
open U116 (has)
open U114 (pOk)
open U102 (eAt eOk enOk)
theorem en_eq (k : ByteArray) (s l : Int) (b : ByteArray) : U94.v k s l b = U51.v k s l b := rfl
theorem ok (i0 : Int) (en : List En) (w m : List ByteArray) (s : List (List Int)) (a : Int) (r6 r7 : Row) (i8 : Int) (he : en.length <= 1048576) (hw : w.length <= 1048576) (hm : m.length <= 1048576) (hf : U106.fitS s) :
  c i0 (re en) (rs w) (rs m) (rr s) a r6 r7 i8 = true /\ v i0 (re en) (rs w) (rs m) (rr s) a r6 r7 i8 = eOk en w m s a := by
 refine out _ _ _ _ _ _ _ _ _ ?_
 have h1 := U121.ok w m s a hw hm hf
 have h2 := fun k => U98.ok w m (rr s) a k hw hm
 have h3 := U128.ok w m (rr s) a hw hm
 unfold vo b
 rw [Lib.re_len]
 have key := Lib.all_gen (eAt en w m) en.length (fun n (i : Nat) => l2 Lib.big (fun (y13 : Bool) (_ : Row) (_ _ _ : Int) (_ _ _ _ : Row) (_ : Int) (_ _ : Row) (_ : Int) => some y13) (fun (_ : Bool) (_ : Row) (_ _ _ : Int) (y31 y32 y33 y34 : Row) (y35 : Int) (_ _ : Row) (_ : Int) => bif (U121.c y32 y33 y34 y35) then (bif (U121.v y32 y33 y34 y35) then (bif (U128.c y32 y33 y34 y35) then (some (decide ((↑(List.length (U128.v y32 y33 y34 y35)) : Int) = (↑(List.length y31) : Int)))) else (none)) else (some false)) else (none)) n false (re en) (en.length : Int) (i : Int) i0 (re en) (rs w) (rs m) (rr s) a r6 r7 i8) (some false) (some (pOk w m s a && decide (w.length + m.length = en.length)))
  (fun n i hi hp => by
   unfold eAt enOk at hp
   rw [Bool.and_eq_true, Bool.and_eq_true] at hp
   obtain ⟨p1, p2, p3⟩ := hp
   by_cases hz : i = 0
   ·subst hz
    simp only [l2, r2, Lib.re_len, Lib.dlt, hi, decide_true, Lib.dle0, Bool.and_self, cond_true, Lib.toN, we0 hi, we1 hi, we2 hi, we3 hi, cvS, cvI, en_eq, p1, Bool.not_true, cond_false, decide_eq_false (show ¬ (((0 : Nat) : Int) > 0) by omega), (h2 _).1, (h2 _).2, p3, Lib.w64_s hi (by omega : en.length <= 9223372036854775807)]
   ·rw [decide_eq_false hz, Bool.false_or] at p2
    have hi1 : i - 1 < en.length := by omega
    simp only [l2, r2, Lib.re_len, Lib.dlt, hi, decide_true, Lib.dle0, Bool.and_self, cond_true, Lib.toN, we0 hi, we1 hi, we2 hi, we3 hi, cvS, cvI, en_eq, p1, Bool.not_true, cond_false, decide_eq_true (show (i : Int) > 0 by omega), Lib.pred_nat (show 0 < i by omega) (by omega), hi1, we0 hi1, p2, (h2 _).1, (h2 _).2, p3, Lib.w64_s hi (by omega : en.length <= 9223372036854775807)])
  (fun n i hi hp => by
   unfold eAt enOk at hp
   cases p1 : U51.v (el en i).k (el en i).st (el en i).li (el en i).bo with
   | false => simp only [l2, r2, Lib.re_len, Lib.dlt, hi, decide_true, Lib.dle0, Bool.and_self, cond_true, Lib.toN, we0 hi, we1 hi, we2 hi, we3 hi, cvS, cvI, en_eq, p1, Bool.not_false]
   | true =>
    rw [p1, Bool.true_and] at hp
    by_cases hz : i = 0
    ·subst hz
     rw [decide_eq_true rfl, Bool.true_or, Bool.true_and] at hp
     simp only [l2, r2, Lib.re_len, Lib.dlt, hi, decide_true, Lib.dle0, Bool.and_self, cond_true, Lib.toN, we0 hi, we1 hi, we2 hi, we3 hi, cvS, cvI, en_eq, p1, Bool.not_true, Bool.not_false, cond_false, decide_eq_false (show ¬ (((0 : Nat) : Int) > 0) by omega), (h2 _).1, (h2 _).2, hp]
    ·rw [decide_eq_false hz, Bool.false_or] at hp
     have hi1 : i - 1 < en.length := by omega
     cases p2 : Go.Op.bytesLess (ByteArray.toList (el en (i - 1)).k) (ByteArray.toList (el en i).k) with
     | false => simp only [l2, r2, Lib.re_len, Lib.dlt, hi, decide_true, Lib.dle0, Bool.and_self, cond_true, Lib.toN, we0 hi, we1 hi, we2 hi, we3 hi, cvS, cvI, en_eq, p1, Bool.not_true, Bool.not_false, cond_false, decide_eq_true (show (i : Int) > 0 by omega), Lib.pred_nat (show 0 < i by omega) (by omega), hi1, we0 hi1, p2]
     | true =>
      rw [p2, Bool.true_and] at hp
      simp only [l2, r2, Lib.re_len, Lib.dlt, hi, decide_true, Lib.dle0, Bool.and_self, cond_true, Lib.toN, we0 hi, we1 hi, we2 hi, we3 hi, cvS, cvI, en_eq, p1, Bool.not_true, Bool.not_false, cond_false, decide_eq_true (show (i : Int) > 0 by omega), Lib.pred_nat (show 0 < i by omega) (by omega), hi1, we0 hi1, p2, (h2 _).1, (h2 _).2, hp])
  (fun n => by
   simp only [l2, r2, Lib.dlt, Nat.lt_irrefl, decide_false, cond_false, h1.1, h1.2, h3.1, h3.2, cond_true, Lib.rs_len, Lib.re_len, List.length_append]
   rw [show decide (((w.length + m.length : Nat) : Int) = (en.length : Int)) = decide (w.length + m.length = en.length) by rw [decide_eq_decide]; omega]
   cases pOk w m s a <;> rfl) Lib.big (Lib.lt_big (by omega))
 refine key.trans ?_
 unfold eOk
 cases (List.range en.length).all (eAt en w m) <;> rfl
end Go.FG.U107

namespace Go.FG.A_OneEach
def op (r : Row) (i : Nat) : Bool := decide (cvI (cellAt r i 2) = 1)
def g (r : Row) (i j : Nat) : Bool := !(op r i && (op r j && List.beq (ByteArray.toList (cvS (cellAt r i 0))) (ByteArray.toList (cvS (cellAt r j 0)))))
def val (r : Row) : Bool := (List.range r.length).all fun i => (List.range i).all (g r i)
end Go.FG.A_OneEach

namespace Go.FG.U154
def p (s0 : Row) (key1 : ByteArray) (i : Nat) : Bool := U155.v (cvS (cellAt s0 i 0)) (cvS (cellAt s0 i 1)) (cvI (cellAt s0 i (1 + 1))) (cvI (cellAt s0 i (1 + 1 + 1))) (cvI (cellAt s0 i (1 + 1 + 1 + 1))) key1
theorem ok (s0 : Row) (key1 : ByteArray) (hl : s0.length <= 4294967296) : c s0 key1 = true /\ v s0 key1 = Lib.fi (p s0 key1) s0.length 0 := by
 refine out s0 key1 ?_
 unfold vo b
 refine Lib.fi_gen (p s0 key1) s0.length (fun m (i : Nat) => l2 Lib.big (fun (_ : Row) (_ : ByteArray) (y7 _ _ : Int) => some y7) (fun (_ : Row) (_ : ByteArray) (_ _ _ : Int) => some (-1)) m s0 key1 0 (s0.length : Int) (i : Int)) some (fun m i hi hp => ?_) (fun m i hi hp => ?_) (fun m => ?_) Lib.big (Lib.lt_big (by omega))
 ·unfold p at hp
  simp only [l2, r2, Lib.dlt, Lib.dle0, Lib.toN, hi, decide_true, Bool.and_self, cond_true, hp]
 ·unfold p at hp
  simp only [l2, r2, Lib.dlt, Lib.dle0, Lib.toN, hi, decide_true, Bool.and_self, cond_true, hp, cond_false, Lib.w64_s hi (by omega : s0.length <= 9223372036854775807)]
 ·simp only [l2, r2, Lib.dlt, Nat.lt_irrefl, decide_false, cond_false]
end Go.FG.U154

namespace Go.FG.U148
theorem ok (i0 : Int) (r1 r2 r3 r4 : Row) (i5 : Int) (r6 r7 : Row) (i8 : Int) (key : ByteArray) (hl : r6.length <= 4294967296) : c i0 r1 r2 r3 r4 i5 r6 r7 i8 key = true /\ v i0 r1 r2 r3 r4 i5 r6 r7 i8 key = Lib.fi (U154.p r6 key) r6.length 0 := by
 have h := U154.ok r6 key hl
 exact out _ _ _ _ _ _ _ _ _ _ (by unfold vo b; rw [h.1, h.2, cond_true])
end Go.FG.U148

namespace Go.FG.U133
def q (r : Row) (i : Nat) : Bool := !(A_OneEach.op r i && (Lib.fi (U154.p r (cvS (cellAt r i 0))) r.length 0 != (i : Int)))
theorem same (r : Row) (i : Nat) (hi : i < r.length) : q r i = (List.range i).all (A_OneEach.g r i) := by
 unfold q
 cases ho : A_OneEach.op r i with
 | false =>
  symm
  rw [Bool.false_and, Bool.not_false, List.all_eq_true]
  intro j _
  unfold A_OneEach.g
  rw [ho]; rfl
 | true =>
  rw [Bool.true_and]
  have hp : ∀ j, U154.p r (cvS (cellAt r i 0)) j = !A_OneEach.g r i j := by
   intro j
   unfold U154.p U155.v A_OneEach.g
   rw [ho, Bool.true_and, Bool.not_not, Lib.beq_ba, Lib.beq_ba]
   unfold A_OneEach.op
   rw [show decide (cvS (cellAt r j 0) = cvS (cellAt r i 0)) = decide (cvS (cellAt r i 0) = cvS (cellAt r j 0)) from by rw [decide_eq_decide]; exact eq_comm]
   cases decide (cvS (cellAt r i 0) = cvS (cellAt r j 0)) <;> simp
  have hpi : U154.p r (cvS (cellAt r i 0)) i = true := by
   rw [hp]
   unfold A_OneEach.g
   rw [ho, Lib.beq_ba]; simp
  rcases Lib.fi_rng (U154.p r (cvS (cellAt r i 0))) r.length 0 with ⟨_, h2⟩ | ⟨k, h1, h2, h3, h4, h5⟩
  ·have := h2 i (Nat.zero_le _) (by omega)
   rw [hpi] at this; cases this
  ·rw [h3]
   by_cases hk : k = i
   ·subst hk
    rw [bne_self_eq_false, Bool.not_false]
    symm
    rw [List.all_eq_true]
    intro j hj
    have := h5 j (Nat.zero_le _) (by simpa using hj)
    rw [hp] at this; simpa using this
   ·have hlt : k < i := by
     rcases Nat.lt_or_ge k i with h | h
     ·exact h
     ·have := h5 i (Nat.zero_le _) (by omega)
      rw [hpi] at this; cases this
    rw [show ((k : Int) != (i : Int)) = true from by simp; omega, Bool.not_true]
    symm
    rw [List.all_eq_false]
    refine ⟨k, by simpa using hlt, ?_⟩
    rw [hp] at h4
    simpa using h4
theorem ok (i0 : Int) (p1 p2 p3 p4 : Row) (i5 : Int) (p6 p7 : Row) (i8 : Int) (hl : p6.length <= 4294967296) : c i0 p1 p2 p3 p4 i5 p6 p7 i8 = true /\ v i0 p1 p2 p3 p4 i5 p6 p7 i8 = A_OneEach.val p6 := by
 refine out _ _ _ _ _ _ _ _ _ ?_
 unfold vo b
 have hw : ∀ i, i < p6.length -> w64 ((i : Int) + 1) = ((i + 1 : Nat) : Int) := fun i h => Lib.w64_s h (by omega)
 have ho := fun key => U148.ok i0 p1 p2 p3 p4 i5 p6 p7 i8 key hl
 have key := Lib.all_gen (q p6) p6.length (fun m (i : Nat) => l2 Lib.big (fun (y13 : Bool) (_ : Row) (_ _ _ : Int) (_ _ _ _ : Row) (_ : Int) (_ _ : Row) (_ : Int) => some y13) (fun (_ : Bool) (_ : Row) (_ _ _ : Int) (_ _ _ _ : Row) (_ : Int) (_ _ : Row) (_ : Int) => some true) m false p6 (p6.length : Int) (i : Int) i0 p1 p2 p3 p4 i5 p6 p7 i8) (some false) (some true)
  (fun m i hi hp => by
   unfold q A_OneEach.op at hp
   cases e1 : decide (cvI (cellAt p6 i (1 + 1)) = 1) with
   | false => simp only [l2, r2, Lib.dlt, hi, decide_true, Lib.dle0, Bool.and_self, cond_true, Lib.toN, e1, cond_false, hw i hi]
   | true =>
    rw [show decide (cvI (cellAt p6 i 2) = 1) = true from e1, Bool.true_and, Bool.not_eq_true'] at hp
    simp only [l2, r2, Lib.dlt, hi, decide_true, Lib.dle0, Bool.and_self, cond_true, Lib.toN, e1, (ho _).1, (ho _).2, hp, cond_false, hw i hi])
  (fun m i hi hp => by
   unfold q A_OneEach.op at hp
   rw [Bool.not_eq_false', Bool.and_eq_true] at hp
   obtain ⟨e1, e2⟩ := hp
   have e1 : decide (cvI (cellAt p6 i (1 + 1)) = 1) = true := e1
   simp only [l2, r2, Lib.dlt, hi, decide_true, Lib.dle0, Bool.and_self, cond_true, Lib.toN, e1, (ho _).1, (ho _).2, e2])
  (fun m => by simp only [l2, r2, Lib.dlt, Nat.lt_irrefl, decide_false, cond_false]) Lib.big (Lib.lt_big (by omega))
 refine key.trans ?_
 rw [Lib.all_congr (fun i hi => same p6 i hi)]
 unfold A_OneEach.val
 cases (List.range p6.length).all fun i => (List.range i).all (A_OneEach.g p6 i) <;> rfl
end Go.FG.U133

namespace Go.FG.U108
open Lib (rf el Fe wf0 wf1 wf2 wf2' wf3 wf4)
open U103 (fOk apart sameO)
theorem in_dec (n a b : Int) : U61.v n a b = decide (a <= n /\ n <= b) := U137.in_dec n a b
theorem one (fe : List Fe) : A_OneEach.val (rf fe) = (List.range fe.length).all (apart fe) := by
 unfold A_OneEach.val
 rw [Lib.rf_len]
 refine Lib.all_congr (fun i hi => ?_)
 unfold apart
 refine Lib.all_congr (fun j hj => ?_)
 have hjl : j < fe.length := by omega
 unfold A_OneEach.g A_OneEach.op sameO
 rw [wf0 hi, wf0 hjl, wf2' hi, wf2' hjl]
 simp only [cvS, cvI, Lib.beq_ba]
 rfl
theorem ok (i0 : Int) (u1 u2 u3 u4 : Row) (i5 : Int) (fe : List Fe) (u7 : Row) (i8 : Int) (hf : fe.length <= 1048576) :
  c i0 u1 u2 u3 u4 i5 (rf fe) u7 i8 = true /\ v i0 u1 u2 u3 u4 i5 (rf fe) u7 i8 = ((List.range fe.length).all (fun i => fOk i0 (el fe i)) && (decide (fe.length <= 20) && (List.range fe.length).all (apart fe))) := by
 refine out _ _ _ _ _ _ _ _ _ ?_
 have h1 := U133.ok i0 u1 u2 u3 u4 i5 (rf fe) u7 i8 (by rw [Lib.rf_len]; omega)
 rw [one] at h1
 unfold vo b
 rw [Lib.rf_len]
 have key := Lib.all_gen (fun i => fOk i0 (el fe i)) fe.length (fun n (i : Nat) => l2 Lib.big (fun (y13 : Bool) (_ : Row) (_ _ _ : Int) (_ _ _ _ : Row) (_ : Int) (_ _ : Row) (_ : Int) => some y13) (fun (_ : Bool) (_ : Row) (_ _ y30 : Int) (y31 y32 y33 y34 : Row) (y35 : Int) (y36 y37 : Row) (y38 : Int) => bif (decide ((↑(List.length y36) : Int) <= 20)) then (bif (U133.c y30 y31 y32 y33 y34 y35 y36 y37 y38) then (some (U133.v y30 y31 y32 y33 y34 y35 y36 y37 y38)) else (none)) else (some false)) n false (rf fe) (fe.length : Int) (i : Int) i0 u1 u2 u3 u4 i5 (rf fe) u7 i8) (some false) (some (decide (fe.length <= 20) && (List.range fe.length).all (apart fe)))
  (fun n i hi hq => by
   unfold fOk at hq
   simp only [Bool.and_eq_true] at hq
   obtain ⟨q1, q2, q3, q4, q5⟩ := hq
   have e1 : decide (((el fe i).t.size : Int) > 400) = !decide (((el fe i).t.size : Int) <= 400) := by rw [<- decide_not, decide_eq_decide]; omega
   simp only [l2, r2, Lib.rf_len, Lib.dlt, hi, decide_true, Lib.dle0, Bool.and_self, cond_true, Lib.toN, wf0 hi, wf1 hi, wf2 hi, wf3 hi, wf4 hi, cvS, cvI, in_dec, U121.key_dec, e1, q1, q2, q3, q4, q5, Bool.not_true, cond_false, Lib.w64_s hi (by omega : fe.length <= 9223372036854775807)])
  (fun n i hi hq => by
   unfold fOk at hq
   have e1 : decide (((el fe i).t.size : Int) > 400) = !decide (((el fe i).t.size : Int) <= 400) := by rw [<- decide_not, decide_eq_decide]; omega
   simp only [l2, r2, Lib.rf_len, Lib.dlt, hi, decide_true, Lib.dle0, Bool.and_self, cond_true, Lib.toN, wf0 hi, wf1 hi, wf2 hi, wf3 hi, wf4 hi, cvS, cvI, in_dec, U121.key_dec, e1]
   revert hq
   cases U114.keyOk (el fe i).k <;> cases decide (((el fe i).t.size : Int) <= 400) <;> cases decide (1 <= (el fe i).sta /\ (el fe i).sta <= 3) <;> cases decide (0 <= (el fe i).li /\ (el fe i).li <= 999999) <;> cases decide (0 <= (el fe i).st /\ (el fe i).st <= i0) <;> intro hq <;> first | rfl | cases hq)
  (fun n => by
   simp only [l2, r2, Lib.dlt, Nat.lt_irrefl, decide_false, cond_false, Lib.rf_len, h1.1, h1.2, cond_true]
   rw [show decide ((fe.length : Int) <= 20) = decide (fe.length <= 20) by rw [decide_eq_decide]; omega]
   cases decide (fe.length <= 20) <;> rfl) Lib.big (Lib.lt_big (by omega))
 refine key.trans ?_
 cases (List.range fe.length).all (fun i => fOk i0 (el fe i)) <;> rfl
end Go.FG.U108

namespace Go.FG.U109
open Lib (rf rc el Fe Cl wc0 wc1 wc2 wc3 wc4 wc5 wc6)
open U114 (keyOk)
open U67 (cAt)
open U108 (in_dec)
theorem step {R : Type} (N : Nat) (g k0 k1 : Bool -> Row -> Int -> Int -> Int -> Row -> Row -> Row -> Row -> Int -> Row -> Row -> Int -> Option R) (i0 : Int) (q1 q2 q3 q4 : Row) (i5 : Int) (fe : List Fe) (cl : List Cl) (i8 : Int) (i : Nat) (hi : i < cl.length) (hl : cl.length <= 1048576) :
  r2 N g k0 k1 false (rc cl) cl.length (i : Int) i0 q1 q2 q3 q4 i5 (rf fe) (rc cl) i8 = bif cAt i0 fe.length cl i then g false (rc cl) cl.length ((i + 1 : Nat) : Int) i0 q1 q2 q3 q4 i5 (rf fe) (rc cl) i8 else k0 false (rc cl) cl.length (i : Int) i0 q1 q2 q3 q4 i5 (rf fe) (rc cl) i8 := by
 unfold cAt
 have e1 : decide (((el cl i).got.size : Int) > 400) = !decide (((el cl i).got.size : Int) <= 400) := by rw [<- decide_not, decide_eq_decide]; omega
 have e2 : decide ((el cl i).age < 0) = !decide (0 <= (el cl i).age) := by rw [<- decide_not, decide_eq_decide]; omega
 by_cases hz : i = 0
 ·subst hz
  simp only [r2, Lib.rc_len, Lib.rf_len, Lib.dlt, hi, decide_true, Lib.dle0, Bool.and_self, cond_true, Lib.toN, wc0 hi, wc1 hi, wc2 hi, wc3 hi, wc4 hi, wc5 hi, wc6 hi, cvS, cvI, in_dec, U121.key_dec, decide_eq_false (show ¬ (((0 : Nat) : Int) > 0) by omega), cond_false, e1, e2, Lib.w64_s hi (by omega : cl.length <= 9223372036854775807), Bool.true_or, Bool.true_and]
  cases decide (1 <= (el cl 0).id /\ (el cl 0).id <= 9) <;> cases keyOk (el cl 0).k <;> cases decide (1 <= (el cl 0).sta /\ (el cl 0).sta <= 3) <;> cases decide (0 <= (el cl 0).fe /\ (el cl 0).fe <= (fe.length : Int)) <;> cases decide (((el cl 0).got.size : Int) <= 400) <;> cases decide (0 <= (el cl 0).fr /\ (el cl 0).fr <= i0) <;> cases decide (0 <= (el cl 0).age) <;> rfl
 ·have hi1 : i - 1 < cl.length := by omega
  have e3 : decide ((el cl (i - 1)).id ≥ (el cl i).id) = !decide ((el cl (i - 1)).id < (el cl i).id) := by rw [<- decide_not, decide_eq_decide]; omega
  simp only [r2, Lib.rc_len, Lib.rf_len, Lib.dlt, hi, decide_true, Lib.dle0, Bool.and_self, cond_true, Lib.toN, wc0 hi, wc1 hi, wc2 hi, wc3 hi, wc4 hi, wc5 hi, wc6 hi, cvS, cvI, in_dec, U121.key_dec, decide_eq_true (show (i : Int) > 0 by omega), Lib.pred_nat (show 0 < i by omega) (by omega), hi1, wc0 hi1, cond_false, e1, e2, e3, Lib.w64_s hi (by omega : cl.length <= 9223372036854775807), decide_eq_false hz, Bool.false_or]
  cases decide (1 <= (el cl i).id /\ (el cl i).id <= 9) <;> cases decide ((el cl (i - 1)).id < (el cl i).id) <;> cases keyOk (el cl i).k <;> cases decide (1 <= (el cl i).sta /\ (el cl i).sta <= 3) <;> cases decide (0 <= (el cl i).fe /\ (el cl i).fe <= (fe.length : Int)) <;> cases decide (((el cl i).got.size : Int) <= 400) <;> cases decide (0 <= (el cl i).fr /\ (el cl i).fr <= i0) <;> cases decide (0 <= (el cl i).age) <;> rfl
theorem ok (i0 : Int) (q1 q2 q3 q4 : Row) (i5 : Int) (fe : List Fe) (cl : List Cl) (i8 : Int) (hl : cl.length <= 1048576) :
  c i0 q1 q2 q3 q4 i5 (rf fe) (rc cl) i8 = true /\ v i0 q1 q2 q3 q4 i5 (rf fe) (rc cl) i8 = ((List.range cl.length).all (cAt i0 fe.length cl) && decide (cl.length <= 6)) := by
 refine out _ _ _ _ _ _ _ _ _ ?_
 unfold vo b
 rw [Lib.rc_len]
 have key := Lib.all_gen (cAt i0 fe.length cl) cl.length (fun n (i : Nat) => l2 Lib.big (fun (y13 : Bool) (_ : Row) (_ _ _ : Int) (_ _ _ _ : Row) (_ : Int) (_ _ : Row) (_ : Int) => some y13) (fun (_ : Bool) (_ : Row) (_ _ _ : Int) (_ _ _ _ : Row) (_ : Int) (_ y37 : Row) (_ : Int) => some (decide ((↑(List.length y37) : Int) <= 6))) n false (rc cl) (cl.length : Int) (i : Int) i0 q1 q2 q3 q4 i5 (rf fe) (rc cl) i8) (some false) (some (decide (cl.length <= 6)))
  (fun n i hi hq => by
   simp only [l2]
   rw [step _ _ _ _ _ _ _ _ _ _ _ _ _ i hi hl, hq]; rfl)
  (fun n i hi hq => by
   simp only [l2]
   rw [step _ _ _ _ _ _ _ _ _ _ _ _ _ i hi hl, hq]; rfl)
  (fun n => by
   simp only [l2, r2, Lib.dlt, Nat.lt_irrefl, decide_false, cond_false, Lib.rc_len]
   rw [show decide ((cl.length : Int) <= 6) = decide (cl.length <= 6) by rw [decide_eq_decide]; omega]) Lib.big (Lib.lt_big (by omega))
 refine key.trans ?_
 cases (List.range cl.length).all (cAt i0 fe.length cl) <;> rfl
end Go.FG.U109

namespace Go.FG.U74
open Lib (rr rs re rf rc el En Fe Cl Px)
open U102 (eOk)
open U103 (fOk apart)
open U67 (cAt pxOk)
theorem ok (p : Px) (hp : p.Fit 1048576) : c p.now (re p.en) (rs p.w) (rs p.m) (rr p.s) p.a (rf p.fe) (rc p.cl) p.hits = true /\ v p.now (re p.en) (rs p.w) (rs p.m) (rr p.s) p.a (rf p.fe) (rc p.cl) p.hits = pxOk p := by
 refine out _ _ _ _ _ _ _ _ _ ?_
 have h1 := U107.ok p.now p.en p.w p.m p.s p.a (rf p.fe) (rc p.cl) p.hits hp.en hp.w hp.m ⟨hp.s.1, hp.s.2.1⟩
 have h2 := U108.ok p.now (re p.en) (rs p.w) (rs p.m) (rr p.s) p.a p.fe (rc p.cl) p.hits hp.fe
 have h3 := U109.ok p.now (re p.en) (rs p.w) (rs p.m) (rr p.s) p.a p.fe p.cl p.hits hp.cl
 unfold vo b pxOk
 have e1 : ∀ n a b, U61.v n a b = decide (a <= n /\ n <= b) := fun n a b => U137.in_dec n a b
 have e2 : U95.v p.hits = decide (0 <= p.hits /\ p.hits <= 1000000000) := e1 p.hits 0 1000000000
 rw [e1, e2, h1.1, h1.2, h2.1, h2.2, h3.1, h3.2, Lib.all_and]
 cases decide (1 <= p.now /\ p.now <= 1000000000) <;> cases eOk p.en p.w p.m p.s p.a <;> cases decide (p.fe.length <= 20) <;> cases decide (p.cl.length <= 6) <;> cases decide (0 <= p.hits /\ p.hits <= 1000000000) <;> cases (List.range p.fe.length).all (fun i => fOk p.now (el p.fe i)) <;> cases (List.range p.fe.length).all (apart p.fe) <;> cases (List.range p.cl.length).all (cAt p.now p.fe.length p.cl) <;> rfl
end Go.FG.U74

namespace Go.FG.U34
open Lib (rr rs re rf rc Px)
open U67 (pxOk)
theorem ok (p : Px) (f : Int) (hp : p.Fit 1048576) : c p.now (re p.en) (rs p.w) (rs p.m) (rr p.s) p.a (rf p.fe) (rc p.cl) p.hits f = true /\ v p.now (re p.en) (rs p.w) (rs p.m) (rr p.s) p.a (rf p.fe) (rc p.cl) p.hits f = (pxOk p && decide (0 <= f /\ f <= (p.fe.length : Int) - 1)) := by
 have h := U74.ok p hp
 have hf := hp.fe
 refine out _ _ _ _ _ _ _ _ _ _ ?_
 unfold vo b
 rw [h.1, h.2, cond_true, Lib.rf_len, Lib.w64_ok (x := (p.fe.length : Int) - 1) (by omega) (by omega), show U61.v f 0 ((p.fe.length : Int) - 1) = decide (0 <= f /\ f <= (p.fe.length : Int) - 1) from U137.in_dec _ _ _]
 cases pxOk p <;> rfl
end Go.FG.U34

namespace Go.FG.U48
open Lib (rr rs re rf rc Px Cl el)
open A_Px (ec endCl mapIdx_const)
theorem ok (p : Px) (f : Nat) (hf : f < p.fe.length) (hl : p.fe.length <= 2097152) (hc : p.cl.length <= 2097152) :
  c p.now (re p.en) (rs p.w) (rs p.m) (rr p.s) p.a (rf p.fe) (rc p.cl) p.hits (f : Int) = true /\ v p.now (re p.en) (rs p.w) (rs p.m) (rr p.s) p.a (rf p.fe) (rc p.cl) p.hits (f : Int) = (p.now, re p.en, rs p.w, rs p.m, rr p.s, p.a, rf p.fe, rc (endCl p.cl f 1 (el p.fe f).t), p.hits) := by
 refine out _ _ _ _ _ _ _ _ _ _ ?_
 unfold vo b
 rw [Lib.rc_len]
 have key := Lib.upd_run Cl.row p.cl (fun _ c => ec f 1 (el p.fe f).t c) (fun n (i : Nat) x => l1 Lib.big (fun (_ _ _ y15 y16 y17 : Int) (y18 y19 y20 y21 y22 y23 : Row) => some (y15, y19, y20, y21, y22, y16, y23, y18, y17)) n (f : Int) (p.cl.length : Int) (i : Int) p.now p.a p.hits x (re p.en) (rs p.w) (rs p.m) (rr p.s) (rf p.fe)) (fun x => some (p.now, re p.en, rs p.w, rs p.m, rr p.s, p.a, rf p.fe, x, p.hits)) (fun n i L h h2 hL hLi => ?_) (fun n L hL => ?_) Lib.big (Lib.lt_big (by omega))
 ·rw [mapIdx_const] at key; exact key
 ·have e2 : cellAt (L.map Cl.row) i (1 + 1) = CV.i IntKind.i64 p.cl[i].fe := by rw [Lib.cell_map _ L i _ h2, hLi]; rfl
  have e4 : cellAt (L.map Cl.row) i (1 + 1 + 1 + 1) = CV.i IntKind.i64 p.cl[i].sta := by rw [Lib.cell_map _ L i _ h2, hLi]; rfl
  have s1 : setC (L.map Cl.row) i 5 [CV.s (el p.fe f).t] = (L.set i { p.cl[i] with got := (el p.fe f).t }).map Cl.row := Lib.setC_map Cl.row L i 5 _ _ h2 (by rw [hLi]; rfl)
  simp only [l1, r1, Lib.dlt, h, h2, hf, List.length_map, List.length_set, decide_true, Lib.dle0, Bool.and_self, cond_true, Lib.toN, e2, e4, cvI, s1, List.set_set, Lib.rf_len, Lib.wf1 hf, cvS, Lib.w64_s h (by omega : p.cl.length <= 9223372036854775807), Lib.w64_ok (x := (f : Int) + 1) (by omega) (by omega)]
  unfold ec
  cases decide (p.cl[i].fe = (f : Int) + 1) with
  | false =>
   rw [Bool.false_and, cond_false, cond_false, <- hLi, List.set_getElem_self]
  | true =>
   cases hd : decide (p.cl[i].sta = 1) with
   | false => rw [Bool.true_and, cond_true, cond_false, cond_false, <- hLi, List.set_getElem_self]
   | true =>
    have e := of_decide_eq_true hd
    rw [Bool.true_and, cond_true, cond_true, cond_true]
    rw [show ({ p.cl[i] with sta := 1, got := (el p.fe f).t } : Cl) = { p.cl[i] with got := (el p.fe f).t } by rw [<- e]]
 ·simp only [l1, r1, Lib.dlt, Nat.lt_irrefl, decide_false, cond_false]
end Go.FG.U48

namespace Go.FG.U15
open Lib (rr rs re rf rc Px el)
open A_Open (opn prt told opn_nat told_fit el_set setF)
theorem ok (p : Px) (f : Int) (q : ByteArray) (hp : p.Fit 1048576) : c p.now (re p.en) (rs p.w) (rs p.m) (rr p.s) p.a (rf p.fe) (rc p.cl) p.hits f q = true /\ v p.now (re p.en) (rs p.w) (rs p.m) (rr p.s) p.a (rf p.fe) (rc p.cl) p.hits f q = (p.now, re p.en, rs p.w, rs p.m, rr p.s, p.a, rf (prt p f q).1.fe, rc (prt p f q).1.cl, p.hits, (prt p f q).2) := by
 have h1 := U33.ok p hp
 have h2 := U34.ok p f hp
 have hf := hp.fe
 have hc := hp.cl
 refine out _ _ _ _ _ _ _ _ _ _ _ ?_
 unfold vo b prt
 simp only [Lib.lt, h1.1, h1.2, h2.1, h2.2, cond_true]
 unfold opn
 cases hok : U67.pxOk p && decide (0 <= f /\ f <= (p.fe.length : Int) - 1) with
 | false => rw [<- Bool.and_assoc (U67.pxOk p), hok]; rfl
 | true =>
  rw [<- Bool.and_assoc (U67.pxOk p), hok, Bool.true_and]
  rw [Bool.and_eq_true, decide_eq_true_eq] at hok
  obtain ⟨n, rfl⟩ : ∃ n : Nat, f = (n : Int) := ⟨f.toNat, by omega⟩
  have hn : n < p.fe.length := by omega
  have hfo := A_Open.fe_ok hok.1 n hn
  unfold U103.fOk at hfo
  simp only [Bool.and_eq_true, decide_eq_true_eq] at hfo
  have hput := A_Put.put (el p.fe n).sta (el p.fe n).t q hfo.2.1 hfo.2.2.1
  simp only [Bool.not_true, cond_false, cond_true, Lib.dle0, Lib.dlt, Lib.rf_len, hn, decide_true, Bool.and_self, Lib.toN, Lib.wf2' hn, Lib.wf1 hn, cvI, cvS, hput]
  cases hs : decide ((el p.fe n).sta = 1) && (decide (1 <= q.size /\ q.size <= 40) && decide ((el p.fe n).t.size + q.size <= 400)) with
  | false => rfl
  | true =>
   have e1 := setF p.fe n 1 [CV.s ((el p.fe n).t ++ q)] { el p.fe n with t := (el p.fe n).t ++ q } hn rfl
   have hn2 : n < (p.fe.set n { el p.fe n with t := (el p.fe n).t ++ q }).length := by rw [List.length_set]; exact hn
   have h3 := U48.ok { p with fe := p.fe.set n { el p.fe n with t := (el p.fe n).t ++ q } } n hn2 (by rw [List.length_set]; omega) (by dsimp only; omega)
   dsimp only at h3
   rw [el_set hn] at h3
   simp only [Bool.not_true, cond_false, cond_true, e1, h3.1, h3.2]
   rfl
end Go.FG.U15

namespace Go.FG.U20
theorem run (a : Row) (hl : a.length <= 9223372036854775807) : vo a a = some true := by
 unfold vo b
 rw [show ((a.length : Int) != (a.length : Int)) = false from bne_self_eq_false _, cond_false]
 have := Lib.loop_gen (fun n (i : Nat) => l4 Lib.big (fun (_ _ : Row) (y : Bool) (_ : Int) => some y) (fun (_ _ : Row) (_ : Bool) (_ : Int) => some true) n a a false (i : Int)) (fun i => a.length - i) (fun i => i <= a.length) (fun _ => some true) (fun n i hi => by
  by_cases h : i < a.length
  ·right
   refine ⟨i + 1, h, by omega, rfl, ?_⟩
   have hi1 : w64 ((i : Int) + 1) = ((i + 1 : Nat) : Int) := Lib.w64_ok (by omega) (by omega)
   have hel : ∀ (x0 : ByteArray) (x1 : Int) (x2 : Int) (x3 : ByteArray), U58.v x0 x1 x2 x3 x0 x1 x2 x3 = true := fun _ _ _ _ => by
    simp only [U58.v, bne_self_eq_false, Lib.beq_refl_ba, Bool.not_true, cond_false]
   simp only [l4, r4, Lib.dlt, h, decide_true, Lib.dle0, Bool.and_self, cond_true, Lib.toN, hi1, hel, Bool.not_true, cond_false]
  ·left
   simp only [l4, r4, Lib.dlt, h, decide_false, cond_false]) Lib.big 0 (Nat.zero_le _) (Lib.lt_big (by omega))
 exact this
theorem ok (a : Row) (hl : a.length <= 9223372036854775807) : c a a = true /\ v a a = true := out a a (run a hl)
end Go.FG.U20

namespace Go.FG.U75
theorem run (a : Row) (hl : a.length <= 9223372036854775807) : vo a a = some true := by
 unfold vo b
 rw [show ((a.length : Int) != (a.length : Int)) = false from bne_self_eq_false _, cond_false]
 have := Lib.loop_gen (fun n (i : Nat) => l4 Lib.big (fun (_ _ : Row) (y : Bool) (_ : Int) => some y) (fun (_ _ : Row) (_ : Bool) (_ : Int) => some true) n a a false (i : Int)) (fun i => a.length - i) (fun i => i <= a.length) (fun _ => some true) (fun n i hi => by
  by_cases h : i < a.length
  ·right
   refine ⟨i + 1, h, by omega, rfl, ?_⟩
   have hi1 : w64 ((i : Int) + 1) = ((i + 1 : Nat) : Int) := Lib.w64_ok (by omega) (by omega)
   simp only [l4, r4, Lib.dlt, h, decide_true, Lib.dle0, Bool.and_self, cond_true, Lib.toN, hi1, bne_self_eq_false, Lib.beq_refl_ba, Bool.not_true, cond_false]
  ·left
   simp only [l4, r4, Lib.dlt, h, decide_false, cond_false]) Lib.big 0 (Nat.zero_le _) (Lib.lt_big (by omega))
 exact this
theorem ok (a : Row) (hl : a.length <= 9223372036854775807) : c a a = true /\ v a a = true := out a a (run a hl)
end Go.FG.U75

namespace Go.FG.U110
theorem run (a : Row) (hl : a.length <= 9223372036854775807) : vo a a = some true := by
 unfold vo b
 rw [show ((a.length : Int) != (a.length : Int)) = false from bne_self_eq_false _, cond_false]
 have := Lib.loop_gen (fun n (i : Nat) => l4 Lib.big (fun (_ _ : Row) (y : Bool) (_ : Int) => some y) (fun (_ _ : Row) (_ : Bool) (_ : Int) => some true) n a a false (i : Int)) (fun i => a.length - i) (fun i => i <= a.length) (fun _ => some true) (fun n i hi => by
  by_cases h : i < a.length
  ·right
   refine ⟨i + 1, h, by omega, rfl, ?_⟩
   have hi1 : w64 ((i : Int) + 1) = ((i + 1 : Nat) : Int) := Lib.w64_ok (by omega) (by omega)
   simp only [l4, r4, Lib.dlt, h, decide_true, Lib.dle0, Bool.and_self, cond_true, Lib.toN, hi1, U134.refl, Bool.not_true, cond_false]
  ·left
   simp only [l4, r4, Lib.dlt, h, decide_false, cond_false]) Lib.big 0 (Nat.zero_le _) (Lib.lt_big (by omega))
 exact this
theorem ok (a : Row) (hl : a.length <= 9223372036854775807) : c a a = true /\ v a a = true := out a a (run a hl)
end Go.FG.U110

namespace Go.FG.U76
theorem ok (r : Row) (k : Int) (hl : r.length <= 9223372036854775807) : c r k r k = true /\ v r k r k = true := by
 have h := U110.ok r hl
 exact out r k r k (by unfold vo b; rw [h.1, h.2, bne_self_eq_false]; rfl)
end Go.FG.U76

namespace Go.FG.U36
theorem ok (r0 r1 r2 : Row) (k : Int) (h0 : r0.length <= 9223372036854775807) (h1 : r1.length <= 9223372036854775807) (h2 : r2.length <= 9223372036854775807) : c r0 r1 r2 k r0 r1 r2 k = true /\ v r0 r1 r2 k r0 r1 r2 k = true := by
 have a0 := U75.ok r0 h0
 have a1 := U75.ok r1 h1
 have a2 := U76.ok r2 k h2
 exact out r0 r1 r2 k r0 r1 r2 k (by unfold vo b; rw [a0.1, a0.2, a1.1, a1.2, a2.1, a2.2]; rfl)
end Go.FG.U36

namespace Go.FG.U37
theorem run (a : Row) (hl : a.length <= 9223372036854775807) : vo a a = some true := by
 unfold vo b
 rw [show ((a.length : Int) != (a.length : Int)) = false from bne_self_eq_false _, cond_false]
 have := Lib.loop_gen (fun n (i : Nat) => l4 Lib.big (fun (_ _ : Row) (y : Bool) (_ : Int) => some y) (fun (_ _ : Row) (_ : Bool) (_ : Int) => some true) n a a false (i : Int)) (fun i => a.length - i) (fun i => i <= a.length) (fun _ => some true) (fun n i hi => by
  by_cases h : i < a.length
  ·right
   refine ⟨i + 1, h, by omega, rfl, ?_⟩
   have hi1 : w64 ((i : Int) + 1) = ((i + 1 : Nat) : Int) := Lib.w64_ok (by omega) (by omega)
   have hel : ∀ (x0 : ByteArray) (x1 : ByteArray) (x2 : Int) (x3 : Int) (x4 : Int), U77.v x0 x1 x2 x3 x4 x0 x1 x2 x3 x4 = true := fun _ _ _ _ _ => by
    simp only [U77.v, bne_self_eq_false, Lib.beq_refl_ba, Bool.not_true, cond_false]
   simp only [l4, r4, Lib.dlt, h, decide_true, Lib.dle0, Bool.and_self, cond_true, Lib.toN, hi1, hel, Bool.not_true, cond_false]
  ·left
   simp only [l4, r4, Lib.dlt, h, decide_false, cond_false]) Lib.big 0 (Nat.zero_le _) (Lib.lt_big (by omega))
 exact this
theorem ok (a : Row) (hl : a.length <= 9223372036854775807) : c a a = true /\ v a a = true := out a a (run a hl)
end Go.FG.U37

namespace Go.FG.U38
theorem run (a : Row) (hl : a.length <= 9223372036854775807) : vo a a = some true := by
 unfold vo b
 rw [show ((a.length : Int) != (a.length : Int)) = false from bne_self_eq_false _, cond_false]
 have := Lib.loop_gen (fun n (i : Nat) => l4 Lib.big (fun (_ _ : Row) (y : Bool) (_ : Int) => some y) (fun (_ _ : Row) (_ : Bool) (_ : Int) => some true) n a a false (i : Int)) (fun i => a.length - i) (fun i => i <= a.length) (fun _ => some true) (fun n i hi => by
  by_cases h : i < a.length
  ·right
   refine ⟨i + 1, h, by omega, rfl, ?_⟩
   have hi1 : w64 ((i : Int) + 1) = ((i + 1 : Nat) : Int) := Lib.w64_ok (by omega) (by omega)
   have hel : ∀ (x0 : Int) (x1 : ByteArray) (x2 : Int) (x3 : Int) (x4 : Int) (x5 : ByteArray) (x6 : Int), U78.v x0 x1 x2 x3 x4 x5 x6 x0 x1 x2 x3 x4 x5 x6 = true := fun _ _ _ _ _ _ _ => by
    simp only [U78.v, bne_self_eq_false, Lib.beq_refl_ba, Bool.not_true, cond_false]
   simp only [l4, r4, Lib.dlt, h, decide_true, Lib.dle0, Bool.and_self, cond_true, Lib.toN, hi1, hel, Bool.not_true, cond_false]
  ·left
   simp only [l4, r4, Lib.dlt, h, decide_false, cond_false]) Lib.big 0 (Nat.zero_le _) (Lib.lt_big (by omega))
 exact this
theorem ok (a : Row) (hl : a.length <= 9223372036854775807) : c a a = true /\ v a a = true := out a a (run a hl)
end Go.FG.U38

namespace Go.FG.U11
theorem ok (i0 : Int) (r1 r2 r3 r4 : Row) (i5 : Int) (r6 r7 : Row) (i8 : Int) (h1 : r1.length <= 9223372036854775807) (h2 : r2.length <= 9223372036854775807) (h3 : r3.length <= 9223372036854775807) (h4 : r4.length <= 9223372036854775807) (h6 : r6.length <= 9223372036854775807) (h7 : r7.length <= 9223372036854775807) :
  c i0 r1 r2 r3 r4 i5 r6 r7 i8 i0 r1 r2 r3 r4 i5 r6 r7 i8 = true /\ v i0 r1 r2 r3 r4 i5 r6 r7 i8 i0 r1 r2 r3 r4 i5 r6 r7 i8 = true := by
 have a1 := U20.ok r1 h1
 have a2 := U36.ok r2 r3 r4 i5 h2 h3 h4
 have a3 := U37.ok r6 h6
 have a4 := U38.ok r7 h7
 exact out _ _ _ _ _ _ _ _ _ _ _ _ _ _ _ _ _ _ (by unfold vo b; rw [a1.1, a1.2, a2.1, a2.2, a3.1, a3.2, a4.1, a4.2, bne_self_eq_false, bne_self_eq_false]; rfl)
theorem refl (p : Lib.Px) (hp : p.Fit 1048576) : c p.now (Lib.re p.en) (Lib.rs p.w) (Lib.rs p.m) (Lib.rr p.s) p.a (Lib.rf p.fe) (Lib.rc p.cl) p.hits p.now (Lib.re p.en) (Lib.rs p.w) (Lib.rs p.m) (Lib.rr p.s) p.a (Lib.rf p.fe) (Lib.rc p.cl) p.hits = true /\ v p.now (Lib.re p.en) (Lib.rs p.w) (Lib.rs p.m) (Lib.rr p.s) p.a (Lib.rf p.fe) (Lib.rc p.cl) p.hits p.now (Lib.re p.en) (Lib.rs p.w) (Lib.rs p.m) (Lib.rr p.s) p.a (Lib.rf p.fe) (Lib.rc p.cl) p.hits = true :=
 ok p.now (Lib.re p.en) (Lib.rs p.w) (Lib.rs p.m) (Lib.rr p.s) p.a (Lib.rf p.fe) (Lib.rc p.cl) p.hits (by rw [Lib.re_len]; have := hp.en; omega) (by rw [Lib.rs_len]; have := hp.w; omega) (by rw [Lib.rs_len]; have := hp.m; omega) (by rw [Lib.rr_len]; have := hp.s.1; omega) (by rw [Lib.rf_len]; have := hp.fe; omega) (by rw [Lib.rc_len]; have := hp.cl; omega)
end Go.FG.U11

namespace Go.FG.U135
def row (k : Int) : List CV := [CV.i IntKind.i64 (k)]
def mkl (k : Int) (n : Nat) : Row := (List.range n).map fun (j : Nat) => row (k + 1 * (j : Int))
theorem mkl_len (k : Int) (n : Nat) : (mkl k n).length = n := by unfold mkl; simp
theorem sp0 (y0 x : CV) : splice [y0] 0 [x] = [x] := rfl
theorem run (a0 : Row) (k1 : Int) (hs : ∀ y ∈ a0, y.length = 1) (hl : a0.length <= 4194304) (h0 : 0 <= k1) (h1 : k1 <= 1000000000000) : vo a0 k1 = some (k1 + 1 * (a0.length : Int), mkl k1 a0.length) := by
 unfold vo b
 have := Lib.loop_gen (fun n (i : Nat) => l2 Lib.big (fun (y3 y4 : Int) (y5 : Row) => some (y3, y5)) n (k1 + 1 * (i : Int)) (i : Int) (mkl k1 i ++ a0.drop i)) (fun i => a0.length - i) (fun i => i <= a0.length) (fun _ => some (k1 + 1 * (a0.length : Int), mkl k1 a0.length)) (fun n i hi => by
  have hml := mkl_len k1 i
  by_cases h : i < a0.length
  ·right
   refine ⟨i + 1, h, by omega, rfl, ?_⟩
   have e3 : mkl k1 (i + 1) ++ a0.drop (i + 1) = mkl k1 i ++ row (k1 + 1 * (i : Int)) :: a0.drop (i + 1) := by
    unfold mkl; rw [Lib.range_map_succ, List.append_assoc]; rfl
   have eA : k1 + 1 * ((i + 1 : Nat) : Int) = (k1 + 1 * (i : Int)) + 1 := by omega
   show l2 Lib.big _ (n + 1) (k1 + 1 * (i : Int)) (i : Int) (mkl k1 i ++ a0.drop i) = l2 Lib.big _ n (k1 + 1 * ((i + 1 : Nat) : Int)) ((i + 1 : Nat) : Int) (mkl k1 (i + 1) ++ a0.drop (i + 1))
   rw [eA, e3, Lib.drop_cons_of h]
   have hy := hs _ (List.getElem_mem h)
   have hk0 : 0 <= k1 + 1 * (i : Int) := by omega
   have hk1 : k1 + 1 * (i : Int) <= 2000000000000 := by omega
   generalize k1 + 1 * (i : Int) = k at hk0 hk1
   generalize a0[i] = y at hy
   obtain ⟨y0, rfl⟩ : ∃ y0, y = [y0] := by
    match y, hy with
    | [y0], _ => exact ⟨y0, rfl⟩
   have hd : ∀ z : List CV, decide ((i : Int) < ((mkl k1 i ++ z :: a0.drop (i + 1)).length : Int)) = true := fun z => by
    rw [Lib.len_mid, hml]; exact decide_eq_true (by omega)
   have hi1 : w64 ((i : Int) + 1) = ((i + 1 : Nat) : Int) := Lib.w64_ok (by omega) (by omega)
   simp only [l2, r2, Lib.length_setC, hd, Lib.dle0, Bool.and_self, cond_true, Lib.toN, Lib.setC_mid _ _ _ _ _ _ hml, sp0, Lib.w64_ok (x := k + 1) (by omega) (by omega), hi1]
   rfl
  ·left
   have : i = a0.length := by omega
   subst this
   show l2 Lib.big _ (n + 1) (k1 + 1 * (a0.length : Int)) (a0.length : Int) (mkl k1 a0.length ++ a0.drop a0.length) = _
   rw [List.drop_length, List.append_nil]
   simp only [l2, r2, hml, Lib.dlt, Nat.lt_irrefl, decide_false, cond_false]) Lib.big 0 (Nat.zero_le _) (Lib.lt_big (by omega))
 have e0 : mkl k1 0 ++ a0.drop 0 = a0 := rfl
 rw [e0] at this
 simpa using this
theorem ok (a0 : Row) (k1 : Int) (hs : ∀ y ∈ a0, y.length = 1) (hl : a0.length <= 4194304) (h0 : 0 <= k1) (h1 : k1 <= 1000000000000) : c a0 k1 = true /\ v a0 k1 = (k1 + 1 * (a0.length : Int), mkl k1 a0.length) := out a0 k1 (run a0 k1 hs hl h0 h1)
end Go.FG.U135

namespace Go.FG.U111
open Lib (rr ri)
def sm (l : List Nat) : Int := (l.sum : Nat)
def lens (s : List (List Int)) : List Nat := s.map List.length
def mkk : Int -> List Nat -> Row
 | _, [] => []
 | k, n :: r => [CV.l 3 (U135.mkl k n)] :: mkk (k + n) r
theorem mkk_snoc : ∀ (l : List Nat) (k : Int) (n : Nat), mkk k (l ++ [n]) = mkk k l ++ [[CV.l 3 (U135.mkl (k + sm l) n)]]
 | [], k, n => by simp [mkk, sm]
 | m :: l, k, n => by
  have e : k + (m : Int) + sm l = k + sm (m :: l) := by unfold sm; rw [List.sum_cons]; omega
  simp only [List.cons_append, mkk]
  rw [mkk_snoc l (k + m) n, e]
theorem mkk_len : ∀ (l : List Nat) (k : Int), (mkk k l).length = l.length
 | [], _ => rfl
 | n :: l, k => by simp [mkk, mkk_len l]
theorem sm_succ (s : List (List Int)) (i : Nat) (h : i < s.length) : sm (lens (s.take (i + 1))) = sm (lens (s.take i)) + (s[i].length : Int) := by
 unfold sm lens
 rw [List.take_succ_eq_append_getElem h, List.map_append, List.sum_append]; simp
theorem lens_snoc (s : List (List Int)) (i : Nat) (h : i < s.length) : lens (s.take (i + 1)) = lens (s.take i) ++ [s[i].length] := by
 unfold lens
 rw [List.take_succ_eq_append_getElem h, List.map_append]; rfl
theorem sm_take (s : List (List Int)) (i : Nat) : 0 <= sm (lens (s.take i)) /\ sm (lens (s.take i)) <= sm (lens s) := by
 unfold sm lens
 refine ⟨by omega, ?_⟩
 have e : (s.map List.length).sum = ((s.take i).map List.length).sum + ((s.drop i).map List.length).sum := by
  rw [<- List.sum_append, <- List.map_append, List.take_append_drop]
 rw [e]; omega
theorem at_le (s : List (List Int)) (i : Nat) (h : i < s.length) : (s[i].length : Int) <= sm (lens s) := by
 have h1 := sm_succ s i h
 have h2 := sm_take s (i + 1)
 have h3 := sm_take s i
 omega
theorem ri_sh (q : List Int) : ∀ y ∈ ri q, y.length = 1 := by
 intro y hy; unfold Lib.ri at hy; obtain ⟨z, _, rfl⟩ := List.mem_map.1 hy; rfl
theorem ok (s : List (List Int)) (k : Int) (hl : s.length <= 4194304) (ht : sm (lens s) <= 4194304) (h0 : 0 <= k) (h1 : k <= 500000000000) : c (rr s) k = true /\ v (rr s) k = (k + sm (lens s), mkk k (lens s)) := by
 refine out _ _ ?_
 unfold vo b
 have key := Lib.for_run s.length (fun m (i : Nat) (t : Int × Row) => l2 Lib.big (fun (y3 _ : Int) (y5 : Row) => some (y3, y5)) m t.1 (i : Int) t.2) (fun i => (k + sm (lens (s.take i)), mkk k (lens (s.take i)) ++ rr (s.drop i))) (some (k + sm (lens s), mkk k (lens s))) (fun m i h => by
  dsimp only
  have hA : (mkk k (lens (s.take i))).length = i := by rw [mkk_len]; unfold lens; simp; omega
  have hd : rr (s.drop i) = [CV.l 3 (ri s[i])] :: rr (s.drop (i + 1)) := by
   unfold Lib.rr; rw [List.drop_eq_getElem_cons h, List.map_cons]
  have hb := sm_take s i
  have ha := at_le s i h
  have hm := U135.ok (ri s[i]) (k + sm (lens (s.take i))) (ri_sh _) (by rw [Lib.ri_len]; omega) (by omega) (by omega)
  rw [Lib.ri_len] at hm
  rw [hd]
  have hdl : ∀ z : List CV, decide ((i : Int) < ((mkk k (lens (s.take i)) ++ z :: rr (s.drop (i + 1))).length : Int)) = true := fun z => by
   rw [Lib.len_mid, hA]; exact decide_eq_true (by omega)
  simp only [l2, r2, hdl, Lib.dle0, Bool.and_self, cond_true, Lib.toN, Lib.cellAt_mid _ _ _ _ _ hA, List.getD_cons_zero, cvL, hm.1, hm.2, Lib.setC_mid _ _ _ _ _ _ hA, Lib.w64_s h (by omega : s.length <= 9223372036854775807)]
  rw [sm_succ s i h, lens_snoc s i h, mkk_snoc, List.append_assoc, show k + sm (lens (s.take i)) + 1 * (s[i].length : Int) = k + (sm (lens (s.take i)) + (s[i].length : Int)) by omega]
  rfl) (fun m => by
  have hA : (mkk k (lens s)).length = s.length := by rw [mkk_len]; unfold lens; simp
  simp only [List.take_length, List.drop_length, show rr [] = [] from rfl, List.append_nil, l2, r2, hA, Lib.dlt, Nat.lt_irrefl, decide_false, cond_false]) Lib.big 0 (Nat.zero_le _) (Lib.lt_big (by omega))
 dsimp only [List.take_zero, List.drop_zero] at key
 rw [show sm (lens []) = 0 from rfl, Int.add_zero] at key
 exact key
end Go.FG.U111

namespace Go.FG.U59
theorem post (k : Int) (h1 : k <= 1152921504606846976) : ∃ x, vo k = some x := by
 unfold vo b
 cases h : decide (k <= 0) with
 | true => exact ⟨_, rfl⟩
 | false =>
  rw [cond_false]
  have h0 : ¬ k <= 0 := of_decide_eq_false h
  obtain ⟨x, hx, _⟩ := Lib.loop_post (fun n (s : Int × ByteArray) => l4 Lib.big (fun (y2 : Int) (y3 : ByteArray) => bif (decide (ByteArray.size { data := #[UInt8.ofNat 109] } + ByteArray.size y3 <= 4611686018427387904)) then some ({ data := #[UInt8.ofNat 109] } ++ y3) else none) n s.1 s.2)
   (fun s => s.1.toNat) (fun s => 0 <= s.1 /\ (s.2.size : Int) + s.1 <= 1152921504606846976) (fun _ => True) (fun n s hs => by
    obtain ⟨x, t⟩ := s
    obtain ⟨a1, a2⟩ := hs
    dsimp only at a1 a2 ⊢
    have hsz : ByteArray.size (bytesOf (List.set (zeros [Ck.i IntKind.u8] 1) 0 [CV.i IntKind.u8 (IntKind.wrap IntKind.u8 (w64 (48 + Int.tmod x 10)))])) = 1 := by rw [Lib.size_bytesOf, List.length_set]; rfl
    by_cases hx : x > 0
    ·right
     have e1 : Int.tdiv x 10 = x / 10 := Int.tdiv_eq_ediv_of_nonneg (by omega)
     refine ⟨(w64 (Int.tdiv x 10), bytesOf (List.set (zeros [Ck.i IntKind.u8] 1) 0 [CV.i IntKind.u8 (IntKind.wrap IntKind.u8 (w64 (48 + Int.tmod x 10)))]) ++ t), ?_, ?_, ?_⟩
     ·dsimp only
      rw [e1, Lib.w64_ok (by omega) (by omega), Lib.size_app, hsz]; omega
     ·dsimp only; rw [e1, Lib.w64_ok (by omega) (by omega)]; omega
     ·simp only [l4, r4, decide_eq_true hx, cond_true, hsz]
      rw [Lib.bif_t (Lib.dnat (by omega))]
    ·left
     refine ⟨{ data := #[UInt8.ofNat 109] } ++ t, ?_, trivial⟩
     simp only [l4, r4, decide_eq_false hx, cond_false]
     exact Lib.bif_t (Lib.dnat (show ByteArray.size { data := #[UInt8.ofNat 109] } + t.size <= _ by rw [show ByteArray.size { data := #[UInt8.ofNat 109] } = 1 from rfl]; omega))) Lib.big (k, ⟨#[]⟩) ⟨by dsimp only; omega, by dsimp only; rw [show ByteArray.size ⟨#[]⟩ = 0 from rfl]; omega⟩ (Lib.lt_big (by dsimp only; omega))
  exact ⟨x, hx⟩
theorem ok (k : Int) (h1 : k <= 1152921504606846976) : c k = true := by
 obtain ⟨x, h⟩ := post k h1
 exact (out k h).1
end Go.FG.U59

namespace Go.FG.U79
def row (k : Int) : List CV := [CV.s (U59.v (k))]
def mkl (k : Int) (n : Nat) : Row := (List.range n).map fun (j : Nat) => row (k + 1 * (j : Int))
theorem mkl_len (k : Int) (n : Nat) : (mkl k n).length = n := by unfold mkl; simp
theorem sp0 (y0 x : CV) : splice [y0] 0 [x] = [x] := rfl
theorem run (a0 : Row) (k1 : Int) (hs : ∀ y ∈ a0, y.length = 1) (hl : a0.length <= 4194304) (h0 : 0 <= k1) (h1 : k1 <= 1000000000000) : vo a0 k1 = some (k1 + 1 * (a0.length : Int), mkl k1 a0.length) := by
 unfold vo b
 have := Lib.loop_gen (fun n (i : Nat) => l2 Lib.big (fun (y3 y4 : Int) (y5 : Row) => some (y3, y5)) n (k1 + 1 * (i : Int)) (i : Int) (mkl k1 i ++ a0.drop i)) (fun i => a0.length - i) (fun i => i <= a0.length) (fun _ => some (k1 + 1 * (a0.length : Int), mkl k1 a0.length)) (fun n i hi => by
  have hml := mkl_len k1 i
  by_cases h : i < a0.length
  ·right
   refine ⟨i + 1, h, by omega, rfl, ?_⟩
   have e3 : mkl k1 (i + 1) ++ a0.drop (i + 1) = mkl k1 i ++ row (k1 + 1 * (i : Int)) :: a0.drop (i + 1) := by
    unfold mkl; rw [Lib.range_map_succ, List.append_assoc]; rfl
   have eA : k1 + 1 * ((i + 1 : Nat) : Int) = (k1 + 1 * (i : Int)) + 1 := by omega
   show l2 Lib.big _ (n + 1) (k1 + 1 * (i : Int)) (i : Int) (mkl k1 i ++ a0.drop i) = l2 Lib.big _ n (k1 + 1 * ((i + 1 : Nat) : Int)) ((i + 1 : Nat) : Int) (mkl k1 (i + 1) ++ a0.drop (i + 1))
   rw [eA, e3, Lib.drop_cons_of h]
   have hy := hs _ (List.getElem_mem h)
   have hk0 : 0 <= k1 + 1 * (i : Int) := by omega
   have hk1 : k1 + 1 * (i : Int) <= 2000000000000 := by omega
   generalize k1 + 1 * (i : Int) = k at hk0 hk1
   generalize a0[i] = y at hy
   obtain ⟨y0, rfl⟩ : ∃ y0, y = [y0] := by
    match y, hy with
    | [y0], _ => exact ⟨y0, rfl⟩
   have hd : ∀ z : List CV, decide ((i : Int) < ((mkl k1 i ++ z :: a0.drop (i + 1)).length : Int)) = true := fun z => by
    rw [Lib.len_mid, hml]; exact decide_eq_true (by omega)
   have hi1 : w64 ((i : Int) + 1) = ((i + 1 : Nat) : Int) := Lib.w64_ok (by omega) (by omega)
   simp only [l2, r2, Lib.length_setC, hd, Lib.dle0, Bool.and_self, cond_true, Lib.toN, Lib.setC_mid _ _ _ _ _ _ hml, sp0, Lib.w64_ok (x := k + 1) (by omega) (by omega), U59.ok (k) (by omega), hi1]
   rfl
  ·left
   have : i = a0.length := by omega
   subst this
   show l2 Lib.big _ (n + 1) (k1 + 1 * (a0.length : Int)) (a0.length : Int) (mkl k1 a0.length ++ a0.drop a0.length) = _
   rw [List.drop_length, List.append_nil]
   simp only [l2, r2, hml, Lib.dlt, Nat.lt_irrefl, decide_false, cond_false]) Lib.big 0 (Nat.zero_le _) (Lib.lt_big (by omega))
 have e0 : mkl k1 0 ++ a0.drop 0 = a0 := rfl
 rw [e0] at this
 simpa using this
theorem ok (a0 : Row) (k1 : Int) (hs : ∀ y ∈ a0, y.length = 1) (hl : a0.length <= 4194304) (h0 : 0 <= k1) (h1 : k1 <= 1000000000000) : c a0 k1 = true /\ v a0 k1 = (k1 + 1 * (a0.length : Int), mkl k1 a0.length) := out a0 k1 (run a0 k1 hs hl h0 h1)
end Go.FG.U79

namespace Go.FG.U80
open Lib (rr)
open U111 (mkk sm lens)
theorem ok (s : List (List Int)) (a k : Int) (hl : s.length <= 4194304) (ht : sm (lens s) <= 4194304) (h0 : 0 <= k) (h1 : k <= 500000000000) : c (rr s) a k = true /\ v (rr s) a k = (k + sm (lens s), mkk k (lens s)) := by
 have h := U111.ok s k hl ht h0 h1
 exact out _ _ _ (by unfold vo b; rw [h.1, h.2, cond_true])
end Go.FG.U80

namespace Go.FG.U39
open Lib (rr rs)
open U111 (mkk sm lens)
theorem rs_sh (q : List ByteArray) : ∀ y ∈ rs q, y.length = 1 := by
 intro y hy; unfold Lib.rs at hy; obtain ⟨z, _, rfl⟩ := List.mem_map.1 hy; rfl
def n1 (k : Int) (w : Nat) : Int := k + 1 * (w : Int)
theorem ok (w m : List ByteArray) (s : List (List Int)) (a k : Int) (hw : w.length <= 2097152) (hm : m.length <= 2097152) (hl : s.length <= 4194304) (ht : sm (lens s) <= 4194304) (h0 : 0 <= k) (h1 : k <= 400000000000) : c (rs w) (rs m) (rr s) a k = true /\
  v (rs w) (rs m) (rr s) a k = (n1 (n1 k w.length) m.length + sm (lens s), U79.mkl k w.length, U79.mkl (n1 k w.length) m.length, mkk (n1 (n1 k w.length) m.length) (lens s)) := by
 have a1 := U79.ok (rs w) k (rs_sh w) (by rw [Lib.rs_len]; omega) h0 (by omega)
 have a2 := U79.ok (rs m) (n1 k w.length) (rs_sh m) (by rw [Lib.rs_len]; omega) (by unfold n1; omega) (by unfold n1; omega)
 have a3 := U80.ok s a (n1 (n1 k w.length) m.length) hl ht (by unfold n1; omega) (by unfold n1; omega)
 rw [Lib.rs_len] at a1 a2
 unfold n1 at a2 a3 ⊢
 exact out _ _ _ _ _ (by unfold vo b; simp only [a1.1, a1.2, a2.1, a2.2, a3.1, a3.2, cond_true])
end Go.FG.U39

namespace Go.FG.U136
theorem run (k1 : Int) (a : Nat) (hl : a <= 4194304) (h0 : 0 <= k1) (h1 : k1 <= 1000000000000) : vo (U135.mkl k1 a) k1 = some (k1 + 1 * (a : Int)) := by
 have hml := U135.mkl_len k1 a
 unfold vo b
 have := Lib.loop_gen (fun n (i : Nat) => l2 Lib.big (fun (_ : Row) (_ y6 _ : Int) => some y6) (fun (_ : Row) (y9 _ _ : Int) => some y9) n (U135.mkl k1 a) (k1 + 1 * (i : Int)) 0 (i : Int)) (fun i => a - i) (fun i => i <= a) (fun _ => some (k1 + 1 * (a : Int))) (fun n i hi => by
  by_cases h : i < a
  ·right
   refine ⟨i + 1, h, by omega, rfl, ?_⟩
   have eA : k1 + 1 * ((i + 1 : Nat) : Int) = (k1 + 1 * (i : Int)) + 1 := by omega
   show l2 Lib.big _ _ (n + 1) (U135.mkl k1 a) (k1 + 1 * (i : Int)) 0 (i : Int) = l2 Lib.big _ _ n (U135.mkl k1 a) (k1 + 1 * ((i + 1 : Nat) : Int)) 0 ((i + 1 : Nat) : Int)
   rw [eA]
   have ce0 : cvI (cellAt (U135.mkl k1 a) i 0) = k1 + 1 * (i : Int) := by
    unfold U135.mkl; rw [Lib.cellAt_rm _ _ _ _ h]; rfl
   have hk0 : 0 <= k1 + 1 * (i : Int) := by omega
   have hk1 : k1 + 1 * (i : Int) <= 2000000000000 := by omega
   generalize k1 + 1 * (i : Int) = k at *
   have hi1 : w64 ((i : Int) + 1) = ((i + 1 : Nat) : Int) := Lib.w64_ok (by omega) (by omega)
   simp only [l2, r2, hml, Lib.dlt, h, decide_true, Lib.dle0, Bool.and_self, cond_true, Lib.toN, ce0, Lib.w64_ok (x := k + 1) (by omega) (by omega), hi1, bne_self_eq_false, cond_false, Lib.beq_refl_ba, Bool.not_true]
  ·left
   have : i = a := by omega
   subst this
   simp only [l2, r2, hml, Lib.dlt, Nat.lt_irrefl, decide_false, cond_false]) Lib.big 0 (Nat.zero_le _) (Lib.lt_big (by omega))
 simpa using this
theorem ok (k1 : Int) (a : Nat) (hl : a <= 4194304) (h0 : 0 <= k1) (h1 : k1 <= 1000000000000) : c (U135.mkl k1 a) k1 = true /\ v (U135.mkl k1 a) k1 = k1 + 1 * (a : Int) := out _ _ (run k1 a hl h0 h1)
end Go.FG.U136

namespace Go.FG.U112
open U111 (mkk mkk_len sm)
theorem sm_cons (n : Nat) (l : List Nat) : sm (n :: l) = (n : Int) + sm l := by unfold sm; rw [List.sum_cons]; omega
theorem sm_nn (l : List Nat) : 0 <= sm l := by unfold sm; omega
theorem cells : ∀ (l : List Nat) (k : Int) (i : Nat) (h : i < l.length), cellAt (mkk k l) i 0 = CV.l 3 (U135.mkl (k + sm (l.take i)) l[i])
 | n :: l, k, 0, h => by simp [mkk, cellAt, sm]
 | n :: l, k, i + 1, h => by
  have := cells l (k + n) i (by simpa using h)
  rw [List.take_succ_cons, sm_cons, List.getElem_cons_succ]
  rw [show k + ((n : Int) + sm (l.take i)) = k + n + sm (l.take i) by omega, <- this]
  rfl
theorem sm_split (l : List Nat) (i : Nat) (h : i < l.length) : sm (l.take (i + 1)) = sm (l.take i) + (l[i] : Int) := by
 unfold sm; rw [List.take_succ_eq_append_getElem h, List.sum_append]; simp
theorem sm_le (l : List Nat) (i : Nat) : sm (l.take i) <= sm l := by
 unfold sm
 have e : l.sum = (l.take i).sum + (l.drop i).sum := by rw [<- List.sum_append, List.take_append_drop]
 rw [e]; omega
theorem ok (k : Int) (l : List Nat) (hl : l.length <= 4194304) (ht : sm l <= 4194304) (h0 : 0 <= k) (h1 : k <= 500000000000) : c (mkk k l) k = true /\ v (mkk k l) k = k + sm l := by
 refine out _ _ ?_
 unfold vo b
 have key := Lib.for_run l.length (fun m (i : Nat) (t : Int) => l2 Lib.big (fun (_ : Row) (_ y6 _ : Int) => some y6) (fun (_ : Row) (y9 _ _ : Int) => some y9) m (mkk k l) t 0 (i : Int)) (fun i => k + sm (l.take i)) (some (k + sm l)) (fun m i h => by
  have hb := sm_nn (l.take i)
  have hc := sm_split l i h
  have hd := sm_le l (i + 1)
  have hm := U136.ok (k + sm (l.take i)) l[i] (by omega) (by omega) (by omega)
  simp only [l2, r2, mkk_len, Lib.dlt, h, decide_true, Lib.dle0, Bool.and_self, cond_true, Lib.toN, cells l k i h, cvL, hm.1, hm.2, Lib.w64_s h (by omega : l.length <= 9223372036854775807)]
  rw [decide_eq_false (show ¬ k + sm (l.take i) + 1 * (l[i] : Int) < 0 by omega), cond_false, hc, show k + sm (l.take i) + 1 * (l[i] : Int) = k + (sm (l.take i) + (l[i] : Int)) by omega]) (fun m => by
  simp only [List.take_length, l2, r2, mkk_len, Lib.dlt, Nat.lt_irrefl, decide_false, cond_false]) Lib.big 0 (Nat.zero_le _) (Lib.lt_big (by omega))
 dsimp only [List.take_zero] at key
 rw [show sm [] = 0 from rfl, Int.add_zero] at key
 exact key
end Go.FG.U112

namespace Go.FG.U21
def row (k : Int) : List CV := [CV.s (U59.v (k)), CV.i IntKind.i64 (k + 1), CV.i IntKind.i64 (k + 1 + 1), CV.s (U59.v (k + 1 + 1 + 1))]
def mkl (k : Int) (n : Nat) : Row := (List.range n).map fun (j : Nat) => row (k + 4 * (j : Int))
theorem mkl_len (k : Int) (n : Nat) : (mkl k n).length = n := by unfold mkl; simp
theorem sp0 (y0 y1 y2 y3 x : CV) : splice [y0, y1, y2, y3] 0 [x] = [x, y1, y2, y3] := rfl
theorem sp1 (y0 y1 y2 y3 x : CV) : splice [y0, y1, y2, y3] 1 [x] = [y0, x, y2, y3] := rfl
theorem sp2 (y0 y1 y2 y3 x : CV) : splice [y0, y1, y2, y3] 2 [x] = [y0, y1, x, y3] := rfl
theorem sp3 (y0 y1 y2 y3 x : CV) : splice [y0, y1, y2, y3] 3 [x] = [y0, y1, y2, x] := rfl
theorem run (a0 : Row) (k1 : Int) (hs : ∀ y ∈ a0, y.length = 4) (hl : a0.length <= 4194304) (h0 : 0 <= k1) (h1 : k1 <= 1000000000000) : vo a0 k1 = some (k1 + 4 * (a0.length : Int), mkl k1 a0.length) := by
 unfold vo b
 have := Lib.loop_gen (fun n (i : Nat) => l2 Lib.big (fun (y3 y4 : Int) (y5 : Row) => some (y3, y5)) n (k1 + 4 * (i : Int)) (i : Int) (mkl k1 i ++ a0.drop i)) (fun i => a0.length - i) (fun i => i <= a0.length) (fun _ => some (k1 + 4 * (a0.length : Int), mkl k1 a0.length)) (fun n i hi => by
  have hml := mkl_len k1 i
  by_cases h : i < a0.length
  ·right
   refine ⟨i + 1, h, by omega, rfl, ?_⟩
   have e3 : mkl k1 (i + 1) ++ a0.drop (i + 1) = mkl k1 i ++ row (k1 + 4 * (i : Int)) :: a0.drop (i + 1) := by
    unfold mkl; rw [Lib.range_map_succ, List.append_assoc]; rfl
   have eA : k1 + 4 * ((i + 1 : Nat) : Int) = (k1 + 4 * (i : Int)) + 1 + 1 + 1 + 1 := by omega
   show l2 Lib.big _ (n + 1) (k1 + 4 * (i : Int)) (i : Int) (mkl k1 i ++ a0.drop i) = l2 Lib.big _ n (k1 + 4 * ((i + 1 : Nat) : Int)) ((i + 1 : Nat) : Int) (mkl k1 (i + 1) ++ a0.drop (i + 1))
   rw [eA, e3, Lib.drop_cons_of h]
   have hy := hs _ (List.getElem_mem h)
   have hk0 : 0 <= k1 + 4 * (i : Int) := by omega
   have hk1 : k1 + 4 * (i : Int) <= 2000000000000 := by omega
   generalize k1 + 4 * (i : Int) = k at hk0 hk1
   generalize a0[i] = y at hy
   obtain ⟨y0, y1, y2, y3, rfl⟩ : ∃ y0 y1 y2 y3, y = [y0, y1, y2, y3] := by
    match y, hy with
    | [y0, y1, y2, y3], _ => exact ⟨y0, y1, y2, y3, rfl⟩
   have hd : ∀ z : List CV, decide ((i : Int) < ((mkl k1 i ++ z :: a0.drop (i + 1)).length : Int)) = true := fun z => by
    rw [Lib.len_mid, hml]; exact decide_eq_true (by omega)
   have hi1 : w64 ((i : Int) + 1) = ((i + 1 : Nat) : Int) := Lib.w64_ok (by omega) (by omega)
   simp only [l2, r2, Lib.length_setC, hd, Lib.dle0, Bool.and_self, cond_true, Lib.toN, Lib.setC_mid _ _ _ _ _ _ hml, sp0, sp1, sp2, sp3, Lib.w64_ok (x := k + 1) (by omega) (by omega), Lib.w64_ok (x := k + 1 + 1) (by omega) (by omega), Lib.w64_ok (x := k + 1 + 1 + 1) (by omega) (by omega), Lib.w64_ok (x := k + 1 + 1 + 1 + 1) (by omega) (by omega), U59.ok (k) (by omega), U59.ok (k + 1 + 1 + 1) (by omega), hi1]
   rfl
  ·left
   have : i = a0.length := by omega
   subst this
   show l2 Lib.big _ (n + 1) (k1 + 4 * (a0.length : Int)) (a0.length : Int) (mkl k1 a0.length ++ a0.drop a0.length) = _
   rw [List.drop_length, List.append_nil]
   simp only [l2, r2, hml, Lib.dlt, Nat.lt_irrefl, decide_false, cond_false]) Lib.big 0 (Nat.zero_le _) (Lib.lt_big (by omega))
 have e0 : mkl k1 0 ++ a0.drop 0 = a0 := rfl
 rw [e0] at this
 simpa using this
theorem ok (a0 : Row) (k1 : Int) (hs : ∀ y ∈ a0, y.length = 4) (hl : a0.length <= 4194304) (h0 : 0 <= k1) (h1 : k1 <= 1000000000000) : c a0 k1 = true /\ v a0 k1 = (k1 + 4 * (a0.length : Int), mkl k1 a0.length) := out a0 k1 (run a0 k1 hs hl h0 h1)
end Go.FG.U21

namespace Go.FG.U42
theorem run (k1 : Int) (a : Nat) (hl : a <= 4194304) (h0 : 0 <= k1) (h1 : k1 <= 1000000000000) : vo (U21.mkl k1 a) k1 = some (k1 + 4 * (a : Int)) := by
 have hml := U21.mkl_len k1 a
 unfold vo b
 have := Lib.loop_gen (fun n (i : Nat) => l2 Lib.big (fun (_ : Row) (_ y6 _ : Int) => some y6) (fun (_ : Row) (y9 _ _ : Int) => some y9) n (U21.mkl k1 a) (k1 + 4 * (i : Int)) 0 (i : Int)) (fun i => a - i) (fun i => i <= a) (fun _ => some (k1 + 4 * (a : Int))) (fun n i hi => by
  by_cases h : i < a
  ·right
   refine ⟨i + 1, h, by omega, rfl, ?_⟩
   have eA : k1 + 4 * ((i + 1 : Nat) : Int) = (k1 + 4 * (i : Int)) + 1 + 1 + 1 + 1 := by omega
   show l2 Lib.big _ _ (n + 1) (U21.mkl k1 a) (k1 + 4 * (i : Int)) 0 (i : Int) = l2 Lib.big _ _ n (U21.mkl k1 a) (k1 + 4 * ((i + 1 : Nat) : Int)) 0 ((i + 1 : Nat) : Int)
   rw [eA]
   have ce0 : cvS (cellAt (U21.mkl k1 a) i 0) = U59.v (k1 + 4 * (i : Int)) := by
    unfold U21.mkl; rw [Lib.cellAt_rm _ _ _ _ h]; rfl
   have ce1 : cvI (cellAt (U21.mkl k1 a) i 1) = k1 + 4 * (i : Int) + 1 := by
    unfold U21.mkl; rw [Lib.cellAt_rm _ _ _ _ h]; rfl
   have ce2 : cvI (cellAt (U21.mkl k1 a) i 2) = k1 + 4 * (i : Int) + 1 + 1 := by
    unfold U21.mkl; rw [Lib.cellAt_rm _ _ _ _ h]; rfl
   have ce3 : cvS (cellAt (U21.mkl k1 a) i 3) = U59.v (k1 + 4 * (i : Int) + 1 + 1 + 1) := by
    unfold U21.mkl; rw [Lib.cellAt_rm _ _ _ _ h]; rfl
   have hk0 : 0 <= k1 + 4 * (i : Int) := by omega
   have hk1 : k1 + 4 * (i : Int) <= 2000000000000 := by omega
   generalize k1 + 4 * (i : Int) = k at *
   have hi1 : w64 ((i : Int) + 1) = ((i + 1 : Nat) : Int) := Lib.w64_ok (by omega) (by omega)
   simp only [l2, r2, hml, Lib.dlt, h, decide_true, Lib.dle0, Bool.and_self, cond_true, Lib.toN, ce0, ce1, ce2, ce3, Lib.w64_ok (x := k + 1) (by omega) (by omega), Lib.w64_ok (x := k + 1 + 1) (by omega) (by omega), Lib.w64_ok (x := k + 1 + 1 + 1) (by omega) (by omega), Lib.w64_ok (x := k + 1 + 1 + 1 + 1) (by omega) (by omega), U59.ok (k) (by omega), U59.ok (k + 1 + 1 + 1) (by omega), hi1, bne_self_eq_false, cond_false, Lib.beq_refl_ba, Bool.not_true]
  ·left
   have : i = a := by omega
   subst this
   simp only [l2, r2, hml, Lib.dlt, Nat.lt_irrefl, decide_false, cond_false]) Lib.big 0 (Nat.zero_le _) (Lib.lt_big (by omega))
 simpa using this
theorem ok (k1 : Int) (a : Nat) (hl : a <= 4194304) (h0 : 0 <= k1) (h1 : k1 <= 1000000000000) : c (U21.mkl k1 a) k1 = true /\ v (U21.mkl k1 a) k1 = k1 + 4 * (a : Int) := out _ _ (run k1 a hl h0 h1)
end Go.FG.U42

namespace Go.FG.U81
theorem run (k1 : Int) (a : Nat) (hl : a <= 4194304) (h0 : 0 <= k1) (h1 : k1 <= 1000000000000) : vo (U79.mkl k1 a) k1 = some (k1 + 1 * (a : Int)) := by
 have hml := U79.mkl_len k1 a
 unfold vo b
 have := Lib.loop_gen (fun n (i : Nat) => l2 Lib.big (fun (_ : Row) (_ y6 _ : Int) => some y6) (fun (_ : Row) (y9 _ _ : Int) => some y9) n (U79.mkl k1 a) (k1 + 1 * (i : Int)) 0 (i : Int)) (fun i => a - i) (fun i => i <= a) (fun _ => some (k1 + 1 * (a : Int))) (fun n i hi => by
  by_cases h : i < a
  ·right
   refine ⟨i + 1, h, by omega, rfl, ?_⟩
   have eA : k1 + 1 * ((i + 1 : Nat) : Int) = (k1 + 1 * (i : Int)) + 1 := by omega
   show l2 Lib.big _ _ (n + 1) (U79.mkl k1 a) (k1 + 1 * (i : Int)) 0 (i : Int) = l2 Lib.big _ _ n (U79.mkl k1 a) (k1 + 1 * ((i + 1 : Nat) : Int)) 0 ((i + 1 : Nat) : Int)
   rw [eA]
   have ce0 : cvS (cellAt (U79.mkl k1 a) i 0) = U59.v (k1 + 1 * (i : Int)) := by
    unfold U79.mkl; rw [Lib.cellAt_rm _ _ _ _ h]; rfl
   have hk0 : 0 <= k1 + 1 * (i : Int) := by omega
   have hk1 : k1 + 1 * (i : Int) <= 2000000000000 := by omega
   generalize k1 + 1 * (i : Int) = k at *
   have hi1 : w64 ((i : Int) + 1) = ((i + 1 : Nat) : Int) := Lib.w64_ok (by omega) (by omega)
   simp only [l2, r2, hml, Lib.dlt, h, decide_true, Lib.dle0, Bool.and_self, cond_true, Lib.toN, ce0, Lib.w64_ok (x := k + 1) (by omega) (by omega), U59.ok (k) (by omega), hi1, bne_self_eq_false, cond_false, Lib.beq_refl_ba, Bool.not_true]
  ·left
   have : i = a := by omega
   subst this
   simp only [l2, r2, hml, Lib.dlt, Nat.lt_irrefl, decide_false, cond_false]) Lib.big 0 (Nat.zero_le _) (Lib.lt_big (by omega))
 simpa using this
theorem ok (k1 : Int) (a : Nat) (hl : a <= 4194304) (h0 : 0 <= k1) (h1 : k1 <= 1000000000000) : c (U79.mkl k1 a) k1 = true /\ v (U79.mkl k1 a) k1 = k1 + 1 * (a : Int) := out _ _ (run k1 a hl h0 h1)
end Go.FG.U81

namespace Go.FG.U82
open U111 (mkk sm)
theorem ok (a k : Int) (l : List Nat) (hl : l.length <= 4194304) (ht : sm l <= 4194304) (h0 : 0 <= k) (h1 : k <= 500000000000) : c (mkk k l) a k = true /\ v (mkk k l) a k = k + sm l := by
 have h := U112.ok k l hl ht h0 h1
 have hn := U112.sm_nn l
 exact out _ _ _ (by unfold vo b; rw [h.1, h.2, cond_true, decide_eq_false (show ¬ k + sm l < 0 by omega), cond_false])
end Go.FG.U82

namespace Go.FG.U43
open U111 (mkk sm)
open U39 (n1)
theorem ok (a k : Int) (w m : Nat) (l : List Nat) (hw : w <= 2097152) (hm : m <= 2097152) (hl : l.length <= 4194304) (ht : sm l <= 4194304) (h0 : 0 <= k) (h1 : k <= 400000000000) :
  c (U79.mkl k w) (U79.mkl (n1 k w) m) (mkk (n1 (n1 k w) m) l) a k = true /\ v (U79.mkl k w) (U79.mkl (n1 k w) m) (mkk (n1 (n1 k w) m) l) a k = n1 (n1 k w) m + sm l := by
 have a1 := U81.ok k w (by omega) h0 (by omega)
 have a2 := U81.ok (n1 k w) m (by omega) (by unfold n1; omega) (by unfold n1; omega)
 have a3 := U82.ok a (n1 (n1 k w) m) l hl ht (by unfold n1; omega) (by unfold n1; omega)
 have hn := U112.sm_nn l
 unfold n1 at a2 a3 ⊢
 exact out _ _ _ _ _ (by unfold vo b; simp only [a1.1, a1.2, a2.1, a2.2, a3.1, a3.2, cond_true, cond_false, decide_eq_false (show ¬ k + 1 * (w : Int) < 0 by omega), decide_eq_false (show ¬ k + 1 * (w : Int) + 1 * (m : Int) < 0 by omega), decide_eq_false (show ¬ k + 1 * (w : Int) + 1 * (m : Int) + sm l < 0 by omega)])
end Go.FG.U43

namespace Go.FG.U40
def row (k : Int) : List CV := [CV.s (U59.v (k)), CV.s (U59.v (k + 1)), CV.i IntKind.i64 (k + 1 + 1), CV.i IntKind.i64 (k + 1 + 1 + 1), CV.i IntKind.i64 (k + 1 + 1 + 1 + 1)]
def mkl (k : Int) (n : Nat) : Row := (List.range n).map fun (j : Nat) => row (k + 5 * (j : Int))
theorem mkl_len (k : Int) (n : Nat) : (mkl k n).length = n := by unfold mkl; simp
theorem sp0 (y0 y1 y2 y3 y4 x : CV) : splice [y0, y1, y2, y3, y4] 0 [x] = [x, y1, y2, y3, y4] := rfl
theorem sp1 (y0 y1 y2 y3 y4 x : CV) : splice [y0, y1, y2, y3, y4] 1 [x] = [y0, x, y2, y3, y4] := rfl
theorem sp2 (y0 y1 y2 y3 y4 x : CV) : splice [y0, y1, y2, y3, y4] 2 [x] = [y0, y1, x, y3, y4] := rfl
theorem sp3 (y0 y1 y2 y3 y4 x : CV) : splice [y0, y1, y2, y3, y4] 3 [x] = [y0, y1, y2, x, y4] := rfl
theorem sp4 (y0 y1 y2 y3 y4 x : CV) : splice [y0, y1, y2, y3, y4] 4 [x] = [y0, y1, y2, y3, x] := rfl
theorem run (a0 : Row) (k1 : Int) (hs : ∀ y ∈ a0, y.length = 5) (hl : a0.length <= 4194304) (h0 : 0 <= k1) (h1 : k1 <= 1000000000000) : vo a0 k1 = some (k1 + 5 * (a0.length : Int), mkl k1 a0.length) := by
 unfold vo b
 have := Lib.loop_gen (fun n (i : Nat) => l2 Lib.big (fun (y3 y4 : Int) (y5 : Row) => some (y3, y5)) n (k1 + 5 * (i : Int)) (i : Int) (mkl k1 i ++ a0.drop i)) (fun i => a0.length - i) (fun i => i <= a0.length) (fun _ => some (k1 + 5 * (a0.length : Int), mkl k1 a0.length)) (fun n i hi => by
  have hml := mkl_len k1 i
  by_cases h : i < a0.length
  ·right
   refine ⟨i + 1, h, by omega, rfl, ?_⟩
   have e3 : mkl k1 (i + 1) ++ a0.drop (i + 1) = mkl k1 i ++ row (k1 + 5 * (i : Int)) :: a0.drop (i + 1) := by
    unfold mkl; rw [Lib.range_map_succ, List.append_assoc]; rfl
   have eA : k1 + 5 * ((i + 1 : Nat) : Int) = (k1 + 5 * (i : Int)) + 1 + 1 + 1 + 1 + 1 := by omega
   show l2 Lib.big _ (n + 1) (k1 + 5 * (i : Int)) (i : Int) (mkl k1 i ++ a0.drop i) = l2 Lib.big _ n (k1 + 5 * ((i + 1 : Nat) : Int)) ((i + 1 : Nat) : Int) (mkl k1 (i + 1) ++ a0.drop (i + 1))
   rw [eA, e3, Lib.drop_cons_of h]
   have hy := hs _ (List.getElem_mem h)
   have hk0 : 0 <= k1 + 5 * (i : Int) := by omega
   have hk1 : k1 + 5 * (i : Int) <= 2000000000000 := by omega
   generalize k1 + 5 * (i : Int) = k at hk0 hk1
   generalize a0[i] = y at hy
   obtain ⟨y0, y1, y2, y3, y4, rfl⟩ : ∃ y0 y1 y2 y3 y4, y = [y0, y1, y2, y3, y4] := by
    match y, hy with
    | [y0, y1, y2, y3, y4], _ => exact ⟨y0, y1, y2, y3, y4, rfl⟩
   have hd : ∀ z : List CV, decide ((i : Int) < ((mkl k1 i ++ z :: a0.drop (i + 1)).length : Int)) = true := fun z => by
    rw [Lib.len_mid, hml]; exact decide_eq_true (by omega)
   have hi1 : w64 ((i : Int) + 1) = ((i + 1 : Nat) : Int) := Lib.w64_ok (by omega) (by omega)
   simp only [l2, r2, Lib.length_setC, hd, Lib.dle0, Bool.and_self, cond_true, Lib.toN, Lib.setC_mid _ _ _ _ _ _ hml, sp0, sp1, sp2, sp3, sp4, Lib.w64_ok (x := k + 1) (by omega) (by omega), Lib.w64_ok (x := k + 1 + 1) (by omega) (by omega), Lib.w64_ok (x := k + 1 + 1 + 1) (by omega) (by omega), Lib.w64_ok (x := k + 1 + 1 + 1 + 1) (by omega) (by omega), Lib.w64_ok (x := k + 1 + 1 + 1 + 1 + 1) (by omega) (by omega), U59.ok (k) (by omega), U59.ok (k + 1) (by omega), hi1]
   rfl
  ·left
   have : i = a0.length := by omega
   subst this
   show l2 Lib.big _ (n + 1) (k1 + 5 * (a0.length : Int)) (a0.length : Int) (mkl k1 a0.length ++ a0.drop a0.length) = _
   rw [List.drop_length, List.append_nil]
   simp only [l2, r2, hml, Lib.dlt, Nat.lt_irrefl, decide_false, cond_false]) Lib.big 0 (Nat.zero_le _) (Lib.lt_big (by omega))
 have e0 : mkl k1 0 ++ a0.drop 0 = a0 := rfl
 rw [e0] at this
 simpa using this
theorem ok (a0 : Row) (k1 : Int) (hs : ∀ y ∈ a0, y.length = 5) (hl : a0.length <= 4194304) (h0 : 0 <= k1) (h1 : k1 <= 1000000000000) : c a0 k1 = true /\ v a0 k1 = (k1 + 5 * (a0.length : Int), mkl k1 a0.length) := out a0 k1 (run a0 k1 hs hl h0 h1)
end Go.FG.U40

namespace Go.FG.U44
theorem run (k1 : Int) (a : Nat) (hl : a <= 4194304) (h0 : 0 <= k1) (h1 : k1 <= 1000000000000) : vo (U40.mkl k1 a) k1 = some (k1 + 5 * (a : Int)) := by
 have hml := U40.mkl_len k1 a
 unfold vo b
 have := Lib.loop_gen (fun n (i : Nat) => l2 Lib.big (fun (_ : Row) (_ y6 _ : Int) => some y6) (fun (_ : Row) (y9 _ _ : Int) => some y9) n (U40.mkl k1 a) (k1 + 5 * (i : Int)) 0 (i : Int)) (fun i => a - i) (fun i => i <= a) (fun _ => some (k1 + 5 * (a : Int))) (fun n i hi => by
  by_cases h : i < a
  ·right
   refine ⟨i + 1, h, by omega, rfl, ?_⟩
   have eA : k1 + 5 * ((i + 1 : Nat) : Int) = (k1 + 5 * (i : Int)) + 1 + 1 + 1 + 1 + 1 := by omega
   show l2 Lib.big _ _ (n + 1) (U40.mkl k1 a) (k1 + 5 * (i : Int)) 0 (i : Int) = l2 Lib.big _ _ n (U40.mkl k1 a) (k1 + 5 * ((i + 1 : Nat) : Int)) 0 ((i + 1 : Nat) : Int)
   rw [eA]
   have ce0 : cvS (cellAt (U40.mkl k1 a) i 0) = U59.v (k1 + 5 * (i : Int)) := by
    unfold U40.mkl; rw [Lib.cellAt_rm _ _ _ _ h]; rfl
   have ce1 : cvS (cellAt (U40.mkl k1 a) i 1) = U59.v (k1 + 5 * (i : Int) + 1) := by
    unfold U40.mkl; rw [Lib.cellAt_rm _ _ _ _ h]; rfl
   have ce2 : cvI (cellAt (U40.mkl k1 a) i 2) = k1 + 5 * (i : Int) + 1 + 1 := by
    unfold U40.mkl; rw [Lib.cellAt_rm _ _ _ _ h]; rfl
   have ce3 : cvI (cellAt (U40.mkl k1 a) i 3) = k1 + 5 * (i : Int) + 1 + 1 + 1 := by
    unfold U40.mkl; rw [Lib.cellAt_rm _ _ _ _ h]; rfl
   have ce4 : cvI (cellAt (U40.mkl k1 a) i 4) = k1 + 5 * (i : Int) + 1 + 1 + 1 + 1 := by
    unfold U40.mkl; rw [Lib.cellAt_rm _ _ _ _ h]; rfl
   have hk0 : 0 <= k1 + 5 * (i : Int) := by omega
   have hk1 : k1 + 5 * (i : Int) <= 2000000000000 := by omega
   generalize k1 + 5 * (i : Int) = k at *
   have hi1 : w64 ((i : Int) + 1) = ((i + 1 : Nat) : Int) := Lib.w64_ok (by omega) (by omega)
   simp only [l2, r2, hml, Lib.dlt, h, decide_true, Lib.dle0, Bool.and_self, cond_true, Lib.toN, ce0, ce1, ce2, ce3, ce4, Lib.w64_ok (x := k + 1) (by omega) (by omega), Lib.w64_ok (x := k + 1 + 1) (by omega) (by omega), Lib.w64_ok (x := k + 1 + 1 + 1) (by omega) (by omega), Lib.w64_ok (x := k + 1 + 1 + 1 + 1) (by omega) (by omega), Lib.w64_ok (x := k + 1 + 1 + 1 + 1 + 1) (by omega) (by omega), U59.ok (k) (by omega), U59.ok (k + 1) (by omega), hi1, bne_self_eq_false, cond_false, Lib.beq_refl_ba, Bool.not_true]
  ·left
   have : i = a := by omega
   subst this
   simp only [l2, r2, hml, Lib.dlt, Nat.lt_irrefl, decide_false, cond_false]) Lib.big 0 (Nat.zero_le _) (Lib.lt_big (by omega))
 simpa using this
theorem ok (k1 : Int) (a : Nat) (hl : a <= 4194304) (h0 : 0 <= k1) (h1 : k1 <= 1000000000000) : c (U40.mkl k1 a) k1 = true /\ v (U40.mkl k1 a) k1 = k1 + 5 * (a : Int) := out _ _ (run k1 a hl h0 h1)
end Go.FG.U44

namespace Go.FG.U41
def row (k : Int) : List CV := [CV.i IntKind.i64 (k), CV.s (U59.v (k + 1)), CV.i IntKind.i64 (k + 1 + 1), CV.i IntKind.i64 (k + 1 + 1 + 1), CV.i IntKind.i64 (k + 1 + 1 + 1 + 1), CV.s (U59.v (k + 1 + 1 + 1 + 1 + 1)), CV.i IntKind.i64 (k + 1 + 1 + 1 + 1 + 1 + 1)]
def mkl (k : Int) (n : Nat) : Row := (List.range n).map fun (j : Nat) => row (k + 7 * (j : Int))
theorem mkl_len (k : Int) (n : Nat) : (mkl k n).length = n := by unfold mkl; simp
theorem sp0 (y0 y1 y2 y3 y4 y5 y6 x : CV) : splice [y0, y1, y2, y3, y4, y5, y6] 0 [x] = [x, y1, y2, y3, y4, y5, y6] := rfl
theorem sp1 (y0 y1 y2 y3 y4 y5 y6 x : CV) : splice [y0, y1, y2, y3, y4, y5, y6] 1 [x] = [y0, x, y2, y3, y4, y5, y6] := rfl
theorem sp2 (y0 y1 y2 y3 y4 y5 y6 x : CV) : splice [y0, y1, y2, y3, y4, y5, y6] 2 [x] = [y0, y1, x, y3, y4, y5, y6] := rfl
theorem sp3 (y0 y1 y2 y3 y4 y5 y6 x : CV) : splice [y0, y1, y2, y3, y4, y5, y6] 3 [x] = [y0, y1, y2, x, y4, y5, y6] := rfl
theorem sp4 (y0 y1 y2 y3 y4 y5 y6 x : CV) : splice [y0, y1, y2, y3, y4, y5, y6] 4 [x] = [y0, y1, y2, y3, x, y5, y6] := rfl
theorem sp5 (y0 y1 y2 y3 y4 y5 y6 x : CV) : splice [y0, y1, y2, y3, y4, y5, y6] 5 [x] = [y0, y1, y2, y3, y4, x, y6] := rfl
theorem sp6 (y0 y1 y2 y3 y4 y5 y6 x : CV) : splice [y0, y1, y2, y3, y4, y5, y6] 6 [x] = [y0, y1, y2, y3, y4, y5, x] := rfl
theorem run (a0 : Row) (k1 : Int) (hs : ∀ y ∈ a0, y.length = 7) (hl : a0.length <= 4194304) (h0 : 0 <= k1) (h1 : k1 <= 1000000000000) : vo a0 k1 = some (k1 + 7 * (a0.length : Int), mkl k1 a0.length) := by
 unfold vo b
 have := Lib.loop_gen (fun n (i : Nat) => l2 Lib.big (fun (y3 y4 : Int) (y5 : Row) => some (y3, y5)) n (k1 + 7 * (i : Int)) (i : Int) (mkl k1 i ++ a0.drop i)) (fun i => a0.length - i) (fun i => i <= a0.length) (fun _ => some (k1 + 7 * (a0.length : Int), mkl k1 a0.length)) (fun n i hi => by
  have hml := mkl_len k1 i
  by_cases h : i < a0.length
  ·right
   refine ⟨i + 1, h, by omega, rfl, ?_⟩
   have e3 : mkl k1 (i + 1) ++ a0.drop (i + 1) = mkl k1 i ++ row (k1 + 7 * (i : Int)) :: a0.drop (i + 1) := by
    unfold mkl; rw [Lib.range_map_succ, List.append_assoc]; rfl
   have eA : k1 + 7 * ((i + 1 : Nat) : Int) = (k1 + 7 * (i : Int)) + 1 + 1 + 1 + 1 + 1 + 1 + 1 := by omega
   show l2 Lib.big _ (n + 1) (k1 + 7 * (i : Int)) (i : Int) (mkl k1 i ++ a0.drop i) = l2 Lib.big _ n (k1 + 7 * ((i + 1 : Nat) : Int)) ((i + 1 : Nat) : Int) (mkl k1 (i + 1) ++ a0.drop (i + 1))
   rw [eA, e3, Lib.drop_cons_of h]
   have hy := hs _ (List.getElem_mem h)
   have hk0 : 0 <= k1 + 7 * (i : Int) := by omega
   have hk1 : k1 + 7 * (i : Int) <= 2000000000000 := by omega
   generalize k1 + 7 * (i : Int) = k at hk0 hk1
   generalize a0[i] = y at hy
   obtain ⟨y0, y1, y2, y3, y4, y5, y6, rfl⟩ : ∃ y0 y1 y2 y3 y4 y5 y6, y = [y0, y1, y2, y3, y4, y5, y6] := by
    match y, hy with
    | [y0, y1, y2, y3, y4, y5, y6], _ => exact ⟨y0, y1, y2, y3, y4, y5, y6, rfl⟩
   have hd : ∀ z : List CV, decide ((i : Int) < ((mkl k1 i ++ z :: a0.drop (i + 1)).length : Int)) = true := fun z => by
    rw [Lib.len_mid, hml]; exact decide_eq_true (by omega)
   have hi1 : w64 ((i : Int) + 1) = ((i + 1 : Nat) : Int) := Lib.w64_ok (by omega) (by omega)
   simp only [l2, r2, Lib.length_setC, hd, Lib.dle0, Bool.and_self, cond_true, Lib.toN, Lib.setC_mid _ _ _ _ _ _ hml, sp0, sp1, sp2, sp3, sp4, sp5, sp6, Lib.w64_ok (x := k + 1) (by omega) (by omega), Lib.w64_ok (x := k + 1 + 1) (by omega) (by omega), Lib.w64_ok (x := k + 1 + 1 + 1) (by omega) (by omega), Lib.w64_ok (x := k + 1 + 1 + 1 + 1) (by omega) (by omega), Lib.w64_ok (x := k + 1 + 1 + 1 + 1 + 1) (by omega) (by omega), Lib.w64_ok (x := k + 1 + 1 + 1 + 1 + 1 + 1) (by omega) (by omega), Lib.w64_ok (x := k + 1 + 1 + 1 + 1 + 1 + 1 + 1) (by omega) (by omega), U59.ok (k + 1) (by omega), U59.ok (k + 1 + 1 + 1 + 1 + 1) (by omega), hi1]
   rfl
  ·left
   have : i = a0.length := by omega
   subst this
   show l2 Lib.big _ (n + 1) (k1 + 7 * (a0.length : Int)) (a0.length : Int) (mkl k1 a0.length ++ a0.drop a0.length) = _
   rw [List.drop_length, List.append_nil]
   simp only [l2, r2, hml, Lib.dlt, Nat.lt_irrefl, decide_false, cond_false]) Lib.big 0 (Nat.zero_le _) (Lib.lt_big (by omega))
 have e0 : mkl k1 0 ++ a0.drop 0 = a0 := rfl
 rw [e0] at this
 simpa using this
theorem ok (a0 : Row) (k1 : Int) (hs : ∀ y ∈ a0, y.length = 7) (hl : a0.length <= 4194304) (h0 : 0 <= k1) (h1 : k1 <= 1000000000000) : c a0 k1 = true /\ v a0 k1 = (k1 + 7 * (a0.length : Int), mkl k1 a0.length) := out a0 k1 (run a0 k1 hs hl h0 h1)
end Go.FG.U41

namespace Go.FG.U45
theorem run (k1 : Int) (a : Nat) (hl : a <= 4194304) (h0 : 0 <= k1) (h1 : k1 <= 1000000000000) : vo (U41.mkl k1 a) k1 = some (k1 + 7 * (a : Int)) := by
 have hml := U41.mkl_len k1 a
 unfold vo b
 have := Lib.loop_gen (fun n (i : Nat) => l2 Lib.big (fun (_ : Row) (_ y6 _ : Int) => some y6) (fun (_ : Row) (y9 _ _ : Int) => some y9) n (U41.mkl k1 a) (k1 + 7 * (i : Int)) 0 (i : Int)) (fun i => a - i) (fun i => i <= a) (fun _ => some (k1 + 7 * (a : Int))) (fun n i hi => by
  by_cases h : i < a
  ·right
   refine ⟨i + 1, h, by omega, rfl, ?_⟩
   have eA : k1 + 7 * ((i + 1 : Nat) : Int) = (k1 + 7 * (i : Int)) + 1 + 1 + 1 + 1 + 1 + 1 + 1 := by omega
   show l2 Lib.big _ _ (n + 1) (U41.mkl k1 a) (k1 + 7 * (i : Int)) 0 (i : Int) = l2 Lib.big _ _ n (U41.mkl k1 a) (k1 + 7 * ((i + 1 : Nat) : Int)) 0 ((i + 1 : Nat) : Int)
   rw [eA]
   have ce0 : cvI (cellAt (U41.mkl k1 a) i 0) = k1 + 7 * (i : Int) := by
    unfold U41.mkl; rw [Lib.cellAt_rm _ _ _ _ h]; rfl
   have ce1 : cvS (cellAt (U41.mkl k1 a) i 1) = U59.v (k1 + 7 * (i : Int) + 1) := by
    unfold U41.mkl; rw [Lib.cellAt_rm _ _ _ _ h]; rfl
   have ce2 : cvI (cellAt (U41.mkl k1 a) i 2) = k1 + 7 * (i : Int) + 1 + 1 := by
    unfold U41.mkl; rw [Lib.cellAt_rm _ _ _ _ h]; rfl
   have ce3 : cvI (cellAt (U41.mkl k1 a) i 3) = k1 + 7 * (i : Int) + 1 + 1 + 1 := by
    unfold U41.mkl; rw [Lib.cellAt_rm _ _ _ _ h]; rfl
   have ce4 : cvI (cellAt (U41.mkl k1 a) i 4) = k1 + 7 * (i : Int) + 1 + 1 + 1 + 1 := by
    unfold U41.mkl; rw [Lib.cellAt_rm _ _ _ _ h]; rfl
   have ce5 : cvS (cellAt (U41.mkl k1 a) i 5) = U59.v (k1 + 7 * (i : Int) + 1 + 1 + 1 + 1 + 1) := by
    unfold U41.mkl; rw [Lib.cellAt_rm _ _ _ _ h]; rfl
   have ce6 : cvI (cellAt (U41.mkl k1 a) i 6) = k1 + 7 * (i : Int) + 1 + 1 + 1 + 1 + 1 + 1 := by
    unfold U41.mkl; rw [Lib.cellAt_rm _ _ _ _ h]; rfl
   have hk0 : 0 <= k1 + 7 * (i : Int) := by omega
   have hk1 : k1 + 7 * (i : Int) <= 2000000000000 := by omega
   generalize k1 + 7 * (i : Int) = k at *
   have hi1 : w64 ((i : Int) + 1) = ((i + 1 : Nat) : Int) := Lib.w64_ok (by omega) (by omega)
   simp only [l2, r2, hml, Lib.dlt, h, decide_true, Lib.dle0, Bool.and_self, cond_true, Lib.toN, ce0, ce1, ce2, ce3, ce4, ce5, ce6, Lib.w64_ok (x := k + 1) (by omega) (by omega), Lib.w64_ok (x := k + 1 + 1) (by omega) (by omega), Lib.w64_ok (x := k + 1 + 1 + 1) (by omega) (by omega), Lib.w64_ok (x := k + 1 + 1 + 1 + 1) (by omega) (by omega), Lib.w64_ok (x := k + 1 + 1 + 1 + 1 + 1) (by omega) (by omega), Lib.w64_ok (x := k + 1 + 1 + 1 + 1 + 1 + 1) (by omega) (by omega), Lib.w64_ok (x := k + 1 + 1 + 1 + 1 + 1 + 1 + 1) (by omega) (by omega), U59.ok (k + 1) (by omega), U59.ok (k + 1 + 1 + 1 + 1 + 1) (by omega), hi1, bne_self_eq_false, cond_false, Lib.beq_refl_ba, Bool.not_true]
  ·left
   have : i = a := by omega
   subst this
   simp only [l2, r2, hml, Lib.dlt, Nat.lt_irrefl, decide_false, cond_false]) Lib.big 0 (Nat.zero_le _) (Lib.lt_big (by omega))
 simpa using this
theorem ok (k1 : Int) (a : Nat) (hl : a <= 4194304) (h0 : 0 <= k1) (h1 : k1 <= 1000000000000) : c (U41.mkl k1 a) k1 = true /\ v (U41.mkl k1 a) k1 = k1 + 7 * (a : Int) := out _ _ (run k1 a hl h0 h1)
end Go.FG.U45

namespace Go.FG.U13
open Lib (rr rs re rf rc Px)
open U111 (mkk sm lens)
open U39 (n1)
theorem re_sh (l : List Lib.En) : ∀ y ∈ re l, y.length = 4 := by
 intro y hy; unfold Lib.re at hy; obtain ⟨z, _, rfl⟩ := List.mem_map.1 hy; rfl
theorem rf_sh (l : List Lib.Fe) : ∀ y ∈ rf l, y.length = 5 := by
 intro y hy; unfold Lib.rf at hy; obtain ⟨z, _, rfl⟩ := List.mem_map.1 hy; rfl
theorem rc_sh (l : List Lib.Cl) : ∀ y ∈ rc l, y.length = 7 := by
 intro y hy; unfold Lib.rc at hy; obtain ⟨z, _, rfl⟩ := List.mem_map.1 hy; rfl
theorem both (p : Px) (hp : p.Fit 2000000) : ∃ (K : Int) (A1 A2 A3 A4 A5 A6 : Row), 0 <= K /\
  (U12.c p.now (re p.en) (rs p.w) (rs p.m) (rr p.s) p.a (rf p.fe) (rc p.cl) p.hits 1 = true /\ U12.v p.now (re p.en) (rs p.w) (rs p.m) (rr p.s) p.a (rf p.fe) (rc p.cl) p.hits 1 = (K, A1, A2, A3, A4, A5, A6)) /\
  ∀ (x y z : Int), c x A1 A2 A3 A4 y A5 A6 z 1 = true /\ v x A1 A2 A3 A4 y A5 A6 z 1 = K := by
 have he := hp.en
 have hw := hp.w
 have hm := hp.m
 have hs := hp.s.1
 have ht : sm (lens p.s) <= 2000000 := by
  have := hp.s.2.2
  unfold sm lens; omega
 have hf := hp.fe
 have hc := hp.cl
 have nn := U112.sm_nn (lens p.s)
 have hll : (lens p.s).length <= 4194304 := by unfold lens; rw [List.length_map]; omega
 have a1 := U21.ok (re p.en) 1 (re_sh _) (by rw [Lib.re_len]; omega) (by omega) (by omega)
 have b1 := U42.ok 1 p.en.length (by omega) (by omega) (by omega)
 rw [Lib.re_len] at a1
 generalize hk1 : 1 + 4 * (p.en.length : Int) = k1 at a1 b1
 have a2 := U39.ok p.w p.m p.s p.a k1 (by omega) (by omega) (by omega) (by omega) (by omega) (by omega)
 have b2 := fun y => U43.ok y k1 p.w.length p.m.length (lens p.s) (by omega) (by omega) hll (by omega) (by omega) (by omega)
 have hk2' : 0 <= n1 (n1 k1 p.w.length) p.m.length + sm (lens p.s) /\ n1 (n1 k1 p.w.length) p.m.length + sm (lens p.s) <= 100000000 := by unfold n1; omega
 generalize hk2 : n1 (n1 k1 p.w.length) p.m.length + sm (lens p.s) = k2 at a2 b2 hk2'
 have a3 := U40.ok (rf p.fe) k2 (rf_sh _) (by rw [Lib.rf_len]; omega) (by omega) (by omega)
 have b3 := U44.ok k2 p.fe.length (by omega) (by omega) (by omega)
 rw [Lib.rf_len] at a3
 generalize hk3 : k2 + 5 * (p.fe.length : Int) = k3 at a3 b3
 have a4 := U41.ok (rc p.cl) k3 (rc_sh _) (by rw [Lib.rc_len]; omega) (by omega) (by omega)
 have b4 := U45.ok k3 p.cl.length (by omega) (by omega) (by omega)
 rw [Lib.rc_len] at a4
 generalize hk4 : k3 + 7 * (p.cl.length : Int) = k4 at a4 b4
 refine ⟨k4, _, _, _, _, _, _, by omega, U12.out _ _ _ _ _ _ _ _ _ _ (by
  unfold U12.vo U12.b
  simp only [a1.1, a1.2, a2.1, a2.2, a3.1, a3.2, a4.1, a4.2, cond_true]; rfl), fun x y z => out _ _ _ _ _ _ _ _ _ _ (by
  unfold vo b
  have q1 : decide (k1 < 0) = false := decide_eq_false (by omega)
  have q2 : decide (k2 < 0) = false := decide_eq_false (by omega)
  have q3 : decide (k3 < 0) = false := decide_eq_false (by omega)
  have q4 : decide (k4 < 0) = false := decide_eq_false (by omega)
  simp only [b1.1, b1.2, (b2 y).1, (b2 y).2, b3.1, b3.2, b4.1, b4.2, q1, q2, q3, q4, cond_true, cond_false])⟩
end Go.FG.U13

namespace Go.FG.U4
open Lib (rr rs re rf rc Px)
open A_Open (prt)
theorem fit {p : Px} {f : Int} {q : ByteArray} (hp : p.Fit 1048576) : (prt p f q).1.Fit 1048576 := by
 unfold prt
 cases A_Open.opn p f && (decide (1 <= q.size /\ q.size <= 40) && decide ((Lib.el p.fe f.toNat).t.size + q.size <= 400)) with
 | false => exact hp
 | true => exact A_Open.told_fit hp
theorem same {p : Px} {f : Int} {q : ByteArray} : (prt p f q).1 = { p with fe := (prt p f q).1.fe, cl := (prt p f q).1.cl } := by
 unfold prt; cases A_Open.opn p f && (decide (1 <= q.size /\ q.size <= 40) && decide ((Lib.el p.fe f.toNat).t.size + q.size <= 400)) <;> rfl
theorem run (i0 : Int) (r1 r2 r3 r4 : Row) (i5 : Int) (r6 r7 : Row) (i8 n : Int) (q : ByteArray) (f1 : FitR r1) (f2 : FitR r2) (f3 : FitR r3) (f4 : FitR r4) (f6 : FitR r6) (f7 : FitR r7) : vo i0 r1 r2 r3 r4 i5 r6 r7 i8 n q = some true := by
 unfold vo b
 by_cases hk : (q.size : Int) > 1048576
 ·rw [decide_eq_true hk]; rfl
 rw [decide_eq_false hk, cond_false]
 obtain ⟨z1, z2, z3⟩ := U7.ok i0 r1 r2 r3 r4 i5 r6 r7 i8 1048576 (by omega) (by omega) f1 f2 f3 f4 f6 f7
 rw [z1, cond_true]
 by_cases h : U7.v i0 r1 r2 r3 r4 i5 r6 r7 i8 1048576 < 0
 ·simp only [Lib.lt, decide_eq_true h, cond_true]
 obtain ⟨p, hp, t1, t2⟩ := U9.abs i0 r1 r2 r3 r4 i5 r6 r7 i8 (z3 (by omega))
 have S := U14.ok p n q hp
 have I := U15.ok p n q hp
 have hq := fit (f := n) (q := q) hp
 have hs := same (p := p) (f := n) (q := q)
 generalize prt p n q = B at S I hq hs
 obtain ⟨⟨_, _, _, _, _, _, F, C, _⟩, o⟩ := B
 dsimp only at S I hq hs
 cases hs
 have a1 := U11.refl p hp
 have a2 := U11.refl { p with fe := F, cl := C } hq
 obtain ⟨K, A1, A2, A3, A4, A5, A6, k0, ⟨m1, m2⟩, _⟩ := U13.both p (hp.le (by omega))
 obtain ⟨L, B1, B2, B3, B4, B5, B6, l0, ⟨n1, n2⟩, n3⟩ := U13.both { p with fe := F, cl := C } (hq.le (by omega))
 have d1 : decide (K < 0) = false := decide_eq_false (by omega)
 have d2 : decide (L < 0) = false := decide_eq_false (by omega)
 dsimp only at a2 n1 n2
 have bb : (o != o) = false := bne_self_eq_false _
 simp only [Lib.lt, decide_eq_false h, t1, t2, S.1, S.2, I.1, I.2, a1.1, a1.2, a2.1, a2.2, m1, m2, n1, n2, (n3 _ _ _).1, (n3 _ _ _).2, d1, d2, bb, eq_self, bne_self_eq_false, decide_true, cond_true, cond_false, Bool.not_true]
theorem law (i0 : Int) (r1 r2 r3 r4 : Row) (i5 : Int) (r6 r7 : Row) (i8 n : Int) (q : ByteArray) {A B C D E : Prop} (_ : A) (f1 : FitR r1) (f2 : FitR r2) (f3 : FitR r3) (f4 : FitR r4) (_ : B) (f6 : FitR r6) (f7 : FitR r7) (_ : C) (_ : D) (_ : E) : v i0 r1 r2 r3 r4 i5 r6 r7 i8 n q = true := (out _ _ _ _ _ _ _ _ _ _ _ (run i0 r1 r2 r3 r4 i5 r6 r7 i8 n q f1 f2 f3 f4 f6 f7)).2
theorem lawc (i0 : Int) (r1 r2 r3 r4 : Row) (i5 : Int) (r6 r7 : Row) (i8 n : Int) (q : ByteArray) {A B C D E : Prop} (_ : A) (f1 : FitR r1) (f2 : FitR r2) (f3 : FitR r3) (f4 : FitR r4) (_ : B) (f6 : FitR r6) (f7 : FitR r7) (_ : C) (_ : D) (_ : E) : c i0 r1 r2 r3 r4 i5 r6 r7 i8 n q = true := (out _ _ _ _ _ _ _ _ _ _ _ (run i0 r1 r2 r3 r4 i5 r6 r7 i8 n q f1 f2 f3 f4 f6 f7)).1
end Go.FG.U4

