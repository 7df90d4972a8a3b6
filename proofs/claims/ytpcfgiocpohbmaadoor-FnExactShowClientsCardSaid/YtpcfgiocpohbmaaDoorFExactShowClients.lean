/- What the functions come to, in plain numbers, texts and lists; last the law itself. No condition but those that each states. -/
import Derived.Test.YtpcfgiocpohbmaaDoorPExactShowClients
set_option linter.unusedVariables false
set_option linter.unusedSimpArgs false
set_option maxRecDepth 100000
namespace Go.FG
open _root_.Go.FG.Lib (En Fe FitR_cell beq_refl_ba el_eq el_mem for_run loop_post lt_big okS_cell rc_len re_len rf_len ri rr_len rs_len w64_ok wc0 wc4 wc5 wc6)
variable {R : Type}
namespace U46
end U46

namespace A_Dec
open U46 (l5 r5 c v vo b out)
abbrev dd : Nat -> List UInt8 := _root_.Go.Lib.decDigits
def D (n : Nat) : ByteArray := ⟨(dd n).toArray⟩
def it (n : Int) : ByteArray := ⟨(_root_.Go.Lib.itoa n).toArray⟩
theorem dd1 {u : Nat} (h : u < 10) : dd u = [UInt8.ofNat (48 + u)] := _root_.Go.Lib.decDigits_one h
theorem dd2 {u : Nat} (h : ¬ u < 10) : dd u = dd (u / 10) ++ [UInt8.ofNat (48 + u % 10)] := by
 show _root_.Go.Lib.decDigits u = _
 rw [_root_.Go.Lib.decDigits, dif_neg h]
def fg (x : Nat) : ByteArray := ⟨#[UInt8.ofNat (48 + x)]⟩
theorem fig {x : Nat} (h : x < 10) : bytesOf (List.set (zeros [Ck.i IntKind.u8] 1) 0 [CV.i IntKind.u8 (U68.v (x : Int))]) = fg x := by
 have key : ∀ y : Fin 10, bytesOf (List.set (zeros [Ck.i IntKind.u8] 1) 0 [CV.i IntKind.u8 (U68.v ((y.val : Nat) : Int))]) = fg y.val := by decide +kernel
 exact key ⟨x, h⟩
theorem D1 {u : Nat} (h : u < 10) : D u = fg u := by unfold D fg; rw [dd1 h]
theorem D2 {u : Nat} (h : ¬ u < 10) : D u = D (u / 10) ++ fg (u % 10) := by
 unfold D fg
 rw [dd2 h]
 apply ByteArray.ext
 simp
theorem fg_size (x : Nat) : (fg x).size = 1 := rfl
theorem stp (K : Int -> Bool -> ByteArray -> Option R) (bl : Bool) (m : Nat) (n : Int) (t : ByteArray) (h0 : n ≠ 0) (h1 : -9223372036854775808 <= n) (h2 : n <= 9223372036854775807) (ht : t.size <= 1000) :
  l5 Lib.big K (m + 1) n bl t = l5 Lib.big K m (Int.tdiv n 10) bl (fg (n.natAbs % 10) ++ t) := by
 have a1 : (n != 0) = true := by simp [h0]
 have hd : -9223372036854775808 <= Int.tdiv n 10 /\ Int.tdiv n 10 <= 9223372036854775807 := by
  rcases Int.le_total 0 n with hn | hn
  ·rw [Int.tdiv_eq_ediv_of_nonneg hn]; omega
  ·have : Int.tdiv n 10 = -((-n) / 10) := by
    rw [<- Int.tdiv_eq_ediv_of_nonneg (show 0 <= -n by omega), Int.neg_tdiv]; omega
   rw [this]; omega
 rw [show l5 Lib.big K (m + 1) n bl t = r5 Lib.big (l5 Lib.big K m) K n bl t from rfl]
 unfold r5
 rw [a1, cond_true, w64_ok hd.1 hd.2]
 have hm : n.natAbs % 10 < 10 := Nat.mod_lt _ (by omega)
 by_cases hneg : Int.tmod n 10 < 0
 ·have e : w64 (0 - Int.tmod n 10) = ((n.natAbs % 10 : Nat) : Int) := by
   have hn : n < 0 := by
    rcases Int.lt_or_le n 0 with h | h
    ·exact h
    ·have := Int.tmod_nonneg (a := n) 10 h; omega
   have : Int.tmod n 10 = -((-n) % 10) := by
    rw [<- Int.tmod_eq_emod_of_nonneg (show 0 <= -n by omega), Int.neg_tmod]; omega
   rw [this, w64_ok (by omega) (by omega)]; omega
  rw [decide_eq_true hneg, cond_true, e, fig hm, fg_size, decide_eq_true (by omega), cond_true]
 ·have e : Int.tmod n 10 = ((n.natAbs % 10 : Nat) : Int) := by
   rcases Int.le_total 0 n with hn | hn
   ·rw [Int.tmod_eq_emod_of_nonneg hn]; omega
   ·have : Int.tmod n 10 = -((-n) % 10) := by
     rw [<- Int.tmod_eq_emod_of_nonneg (show 0 <= -n by omega), Int.neg_tmod]; omega
    omega
  rw [decide_eq_false hneg, cond_false, e, fig hm, fg_size, decide_eq_true (by omega), cond_true]
theorem abs_div (n : Int) : (Int.tdiv n 10).natAbs = n.natAbs / 10 := by
 rcases Int.le_total 0 n with hn | hn
 ·rw [Int.tdiv_eq_ediv_of_nonneg hn]; omega
 ·have : Int.tdiv n 10 = -((-n) / 10) := by
   rw [<- Int.tdiv_eq_ediv_of_nonneg (show 0 <= -n by omega), Int.neg_tdiv]; omega
  rw [this]; omega
theorem run (K : Int -> Bool -> ByteArray -> Option R) (bl : Bool) : ∀ (d : Nat) (n : Int) (t : ByteArray) (m : Nat), n.natAbs < 10 ^ d -> n ≠ 0 -> -9223372036854775808 <= n -> n <= 9223372036854775807 -> t.size + d <= 1000 -> d < m -> l5 Lib.big K m n bl t = K 0 bl (D n.natAbs ++ t) := by
 intro d
 induction d with
 | zero => intro n t m h1 h2; omega
 | succ d ih =>
  intro n t m h1 h2 h3 h4 h5 h6
  obtain ⟨m, rfl⟩ : ∃ k, m = k + 1 := ⟨m - 1, by omega⟩
  rw [stp K bl m n t h2 h3 h4 (by omega)]
  have ha := abs_div n
  by_cases hs : n.natAbs < 10
  ·have hz : Int.tdiv n 10 = 0 := by omega
   obtain ⟨m, rfl⟩ : ∃ k, m = k + 1 := ⟨m - 1, by omega⟩
   rw [hz, D1 hs, Nat.mod_eq_of_lt hs]
   rfl
  ·rw [ih (Int.tdiv n 10) _ m (by rw [ha]; rw [Nat.pow_succ] at h1; omega) (by omega) (by omega) (by omega) (by rw [Lib.size_app, fg_size]; omega) (by omega), ha, D2 hs]
   rw [ByteArray.append_assoc]
theorem eq (n : Int) (h0 : -9223372036854775808 <= n) (h1 : n <= 9223372036854775807) : c n = true /\ v n = it n := by
 refine out _ ?_
 unfold vo b it
 by_cases hz : n = 0
 ·subst hz
  rw [decide_eq_true rfl, cond_true]
  unfold _root_.Go.Lib.itoa
  rw [if_neg (by omega), show Int.toNat 0 = 0 from rfl, _root_.Go.Lib.decDigits_one (show 0 < 10 by omega)]
 ·rw [decide_eq_false hz, cond_false, run _ _ 19 n _ _ (by omega) hz h0 h1 (by decide) (lt_big (by omega))]
  have e0 : ∀ x : ByteArray, x ++ (⟨#[]⟩ : ByteArray) = x := fun x => by apply ByteArray.ext; simp
  rw [e0]
  by_cases hn : n < 0
  ·have hl : (D n.natAbs).size <= 21 := by
    have := _root_.Go.Lib.itoa_length_le n h0 h1
    unfold _root_.Go.Lib.itoa at this
    rw [if_pos hn, List.length_cons] at this
    show (dd n.natAbs).toArray.size <= 21
    rw [List.size_toArray]; exact Nat.le_trans (Nat.le_succ _) this
   rw [decide_eq_true hn, cond_true, show ({ data := #[UInt8.ofNat 45] } : ByteArray).size = 1 from rfl, decide_eq_true (by omega), cond_true]
   unfold _root_.Go.Lib.itoa
   rw [if_pos hn]
   unfold D
   congr 1
  ·rw [decide_eq_false hn, cond_false]
   unfold _root_.Go.Lib.itoa D
   rw [if_neg hn, show n.natAbs = n.toNat by omega]
theorem it_size (n : Int) (h0 : -9223372036854775808 <= n) (h1 : n <= 9223372036854775807) : (it n).size <= 21 := by
 have := _root_.Go.Lib.itoa_length_le n h0 h1
 show (_root_.Go.Lib.itoa n).toArray.size <= 21
 rw [List.size_toArray]; exact this
end A_Dec

namespace A_Show
open _root_.Go.FG.Lib (Cl rc el)
open A_Dec (it)
def st (n : Int) : ByteArray := U25.v n
def pos (n : Int) : Int := if n < 0 then 0 else n
abbrev sp : ByteArray := { data := #[UInt8.ofNat 32] }
abbrev nlc : ByteArray := { data := #[UInt8.ofNat 10] }
def ln (c : Cl) : ByteArray := it (pos c.id) ++ sp ++ st c.sta ++ sp ++ it (pos c.age) ++ sp ++ c.got ++ nlc
def shown : List Cl -> ByteArray
 | [] => ⟨#[]⟩ | c :: r => ln c ++ shown r
def okI (n : Int) : Prop := -9223372036854775808 <= n /\ n <= 9223372036854775807
def clOk (c : Cl) : Prop := okI c.id /\ okI c.age
theorem pos_ok {n : Int} (h : okI n) : okI (pos n) := by unfold pos okI at *; split <;> omega
theorem ms (n : Int) : minmax true n 0 = pos n := by
 unfold minmax pos
 rw [cond_true]
theorem dec (n : Int) (h : okI n) : U24.c n = true /\ U24.v n = it n := by
 refine U24.out _ ?_
 unfold U24.vo U24.b
 rw [show U52.c n = true from by unfold U52.c; rw [decide_eq_true h.1, decide_eq_true h.2]; rfl, cond_true]; rfl
theorem num (n : Int) (h : okI n) : U19.c n = true /\ U19.v n = it (pos n) := by
 refine U19.out _ ?_
 unfold U19.vo U19.b pos
 have e := A_Dec.eq n h.1 h.2
 by_cases hn : n < 0
 ·rw [decide_eq_true hn, cond_true, if_pos hn]
  have : it 0 = { data := #[UInt8.ofNat 48] } := by
   unfold it _root_.Go.Lib.itoa
   rw [if_neg (by omega), show Int.toNat 0 = 0 from rfl, _root_.Go.Lib.decDigits_one (show 0 < 10 by omega)]
  rw [this]
 ·rw [decide_eq_false hn, cond_false, e.1, cond_true, e.2, if_neg hn]
theorem st_size (n : Int) : (st n).size <= 6 := by
 unfold st U25.v
 cases decide (n = 1) <;> cases decide (n = 2) <;> decide
theorem ln_size (c : Cl) (h : clOk c) : (ln c).size <= c.got.size + 60 := by
 have a1 := A_Dec.it_size _ (pos_ok h.1).1 (pos_ok h.1).2
 have a2 := A_Dec.it_size _ (pos_ok h.2).1 (pos_ok h.2).2
 have a3 := st_size c.sta
 unfold ln
 simp only [Lib.size_app, show sp.size = 1 from rfl, show nlc.size = 1 from rfl]
 omega
def room : List Cl -> Nat
 | [] => 0 | c :: r => c.got.size + 60 + room r
theorem room_get : ∀ (l : List Cl) (i : Nat), i < l.length -> (el l i).got.size <= room l
 | c :: r, 0, _ => by show c.got.size <= _; unfold room; omega
 | c :: r, i + 1, h => by
  have := room_get r i (by simpa using h)
  show (el r i).got.size <= _
  unfold room; omega
theorem shown_size : ∀ (l : List Cl), (∀ c ∈ l, clOk c) -> (shown l).size <= room l
 | [], _ => Nat.le_refl _
 | c :: r, h => by
  have a1 := ln_size c (h c List.mem_cons_self)
  have a2 := shown_size r (fun x hx => h x (List.mem_cons_of_mem _ hx))
  unfold shown room
  rw [Lib.size_app]; omega
theorem app_nil (x : ByteArray) : x ++ (⟨#[]⟩ : ByteArray) = x := by apply ByteArray.ext; simp
theorem nil_app (x : ByteArray) : (⟨#[]⟩ : ByteArray) ++ x = x := by apply ByteArray.ext; simp
theorem shown_snoc : ∀ (l : List Cl) (c : Cl), shown (l ++ [c]) = shown l ++ ln c
 | [], c => by show ln c ++ (⟨#[]⟩ : ByteArray) = ⟨#[]⟩ ++ ln c; rw [app_nil, nil_app]
 | d :: r, c => by
  show ln d ++ shown (r ++ [c]) = ln d ++ shown r ++ ln c
  rw [shown_snoc r c, ByteArray.append_assoc]
theorem take_succ (l : List Cl) (i : Nat) (h : i < l.length) : shown (l.take (i + 1)) = shown (l.take i) ++ ln (el l i) := by
 rw [el_eq h, List.take_succ_eq_append_getElem h, shown_snoc]
theorem room_take : ∀ (l : List Cl) (i : Nat), room (l.take i) <= room l
 | [], _ => by simp [room]
 | c :: r, 0 => Nat.zero_le _
 | c :: r, i + 1 => by
  have := room_take r i
  show c.got.size + 60 + room (r.take i) <= c.got.size + 60 + room r
  omega
end A_Show

namespace U67
theorem bd {q : Row} {L : Int} (z : q.length <= 9223372036854775807) (h0 : 0 <= L) (h1 : L <= 1048576) : U76.v q L <= 1048576 /\ (¬ U76.v q L < 0 -> q.length <= 1048576 /\ U76.v q L = L - (q.length : Int)) := by
 unfold U76.v
 rw [w64_ok (by omega) (by omega)]
 by_cases c0 : L - (q.length : Int) < 0
 ·rw [decide_eq_true c0, cond_true]; exact ⟨by omega, fun h => absurd (by omega) h⟩
 ·rw [decide_eq_false c0, cond_false]; exact ⟨by omega, fun h => ⟨by omega, rfl⟩⟩
def tot (a : Row) : Nat := (a.map fun y => (cvL (y.getD 0 (.b false))).length).sum
def inn (a : Row) : Prop := (∀ j, j < a.length -> (cvL (cellAt a j 0)).length <= 1048576) /\ tot a <= 1048576
theorem tot_succ (a : Row) (i : Nat) (h : i < a.length) : tot (a.take (i + 1)) = tot (a.take i) + (cvL (cellAt a i 0)).length := by
 unfold tot
 rw [List.take_succ_eq_append_getElem h, List.map_append, List.sum_append, Lib.cellAt_of h]
 simp
theorem run (a : Row) (L : Int) (h0 : 0 <= L) (h1 : L <= 1048576) (ha : FitR a) : ∃ x, vo a L = some x /\ x <= 1048576 /\ (0 <= x -> a.length <= 1048576 /\ inn a) := by
 have hl := ha.1
 unfold vo b
 rw [w64_ok (x := L - (a.length : Int)) (by omega) (by omega)]
 by_cases hc : L - (a.length : Int) < 0
 ·rw [decide_eq_true hc]; exact ⟨-1, rfl, by omega, fun h => by omega⟩
 ·rw [decide_eq_false hc, cond_false]
  have key := loop_post (fun n (s : Nat × Int) => l5 Lib.big (fun (_ : Row) (_ y6 _ : Int) => some y6) (fun (_ : Row) (y9 _ _ : Int) => some y9) n a s.2 0 (s.1 : Int)) (fun s => a.length - s.1) (fun s => s.1 <= a.length /\ 0 <= s.2 /\ s.2 <= 1048576 /\ (∀ j, j < s.1 -> (cvL (cellAt a j 0)).length <= 1048576) /\ s.2 + (tot (a.take s.1) : Int) <= 1048576) (fun x => x <= 1048576 /\ (0 <= x -> inn a)) (fun n s hs => by
   obtain ⟨i, L⟩ := s
   obtain ⟨hi, hL0, hL1, hin, hto⟩ := hs
   dsimp only at hi hL0 hL1 hin hto ⊢
   by_cases h : i < a.length
   ·have hi1 : w64 ((i : Int) + 1) = ((i + 1 : Nat) : Int) := w64_ok (by omega) (by omega)
    have hw := bd (FitR_cell ha i 0).1 hL0 hL1
    by_cases hn : U76.v (cvL (cellAt a i 0)) L < 0
    ·exact .inl ⟨-1, by simp only [l5, r5, Lib.dlt, h, decide_true, Lib.dle0, Bool.and_self, cond_true, Lib.toN, hn], by omega, fun h => by omega⟩
    ·exact .inr ⟨(i + 1, U76.v (cvL (cellAt a i 0)) L), ⟨h, by omega, hw.1, fun j hj => by
      by_cases hji : j = i
      ·subst hji; exact (hw.2 hn).1
      ·exact hin j (by dsimp only at hj; omega), by
      have e := (hw.2 hn).2
      have e2 := tot_succ a i h
      dsimp only
      rw [e, e2]; omega⟩, by dsimp only; omega, by simp only [l5, r5, Lib.dlt, h, decide_true, decide_false, Lib.dle0, Bool.and_self, cond_true, cond_false, Lib.toN, hn, hi1]⟩
   ·exact .inl ⟨L, by simp only [l5, r5, Lib.dlt, h, decide_false, cond_false], hL1, fun _ => ⟨fun j hj => hin j (by omega), by
     have e : i = a.length := by omega
     rw [e, List.take_length] at hto; omega⟩⟩) Lib.big (0, L - (a.length : Int)) ⟨Nat.zero_le _, by dsimp only; omega, by dsimp only; omega, fun j hj => absurd hj (Nat.not_lt_zero j), by dsimp only; rw [List.take_zero]; show L - (a.length : Int) + ((0 : Nat) : Int) <= _; omega⟩ (lt_big (by omega))
  obtain ⟨x, hx, hb, hb2⟩ := key
  exact ⟨x, hx, hb, fun h => ⟨by omega, hb2 h⟩⟩
theorem ok (a : Row) (L : Int) (h0 : 0 <= L) (h1 : L <= 1048576) (ha : FitR a) : c a L = true /\ v a L <= 1048576 /\ (0 <= v a L -> a.length <= 1048576 /\ inn a) := by
 obtain ⟨x, h, h2, h3⟩ := run a L h0 h1 ha
 obtain ⟨e1, e2⟩ := out a L h
 rw [e2]; exact ⟨e1, h2, h3⟩
end U67

namespace U20
def tl (a0 : Row) : Row := a0.map fun y => [CV.s (cvS (y.getD 0 (.b false))), CV.i IntKind.i64 (cvI (y.getD 1 (.b false))), CV.i IntKind.i64 (cvI (y.getD 2 (.b false))), CV.s (cvS (y.getD 3 (.b false)))]
theorem tl_len (a0 : Row) : (tl a0).length = a0.length := by unfold tl; simp
theorem tl_sh (a0 : Row) : ∀ y ∈ tl a0, y.length = 4 := by
 intro y hy; unfold tl at hy; obtain ⟨z, _, rfl⟩ := List.mem_map.1 hy; rfl
theorem run (a0 : Row) (hl : a0.length <= 1048576) : vo a0 = some (tl a0) := by
 unfold vo b
 rw [show decide ((a0.length : Int) = (a0.length : Int)) = true by simp, Lib.toN, Lib.roomy_of (by omega) (by omega), Bool.and_self, cond_true]
 have mono := Lib.loop_gen (fun m (s : Nat) => l3 Lib.big (fun (_ : Row) (_ : Int) (y : Row) => some y) m a0 (s : Int) ((tl a0).take s ++ zeros [Ck.s, Ck.i IntKind.i64, Ck.i IntKind.i64, Ck.s] (a0.length - s))) (fun i => a0.length - i) (fun i => i <= a0.length) (fun _ => some (tl a0)) (fun m i hi => by
  by_cases h : i < a0.length
  ·right
   refine ⟨i + 1, h, by omega, rfl, ?_⟩
   have hlt : i < (tl a0).length := by rw [tl_len]; exact h
   have e := Lib.setC_step (ks := [Ck.s, Ck.i IntKind.i64, Ck.i IntKind.i64, Ck.s]) (tl_len a0) h (List.getElem?_eq_getElem hlt) (tl_sh a0 _ (List.getElem_mem hlt))
   have eg : (tl a0)[i] = [CV.s (cvS (cellAt a0 i 0)), CV.i IntKind.i64 (cvI (cellAt a0 i 1)), CV.i IntKind.i64 (cvI (cellAt a0 i 2)), CV.s (cvS (cellAt a0 i 3))] := by simp [tl, cellAt, List.getD, h]
   rw [eg] at e
   have hx : ((tl a0).take i ++ zeros [Ck.s, Ck.i IntKind.i64, Ck.i IntKind.i64, Ck.s] (a0.length - i)).length = a0.length := by rw [List.length_append, List.length_take, tl_len, Lib.length_zeros]; omega
   have hi1 : w64 ((i : Int) + 1) = ((i + 1 : Nat) : Int) := w64_ok (by omega) (by omega)
   show l3 Lib.big _ (m + 1) a0 (i : Int) _ = l3 Lib.big _ m a0 ((i + 1 : Nat) : Int) _
   rw [<- e]
   simp only [l3, r3, hx, Lib.dlt, Lib.dle0, Lib.toN, h, decide_true, Bool.and_self, cond_true, hi1]
  ·left
   have : i = a0.length := by omega
   subst this
   rw [Nat.sub_self, List.take_of_length_le (by rw [tl_len]; exact Nat.le_refl _), show zeros [Ck.s, Ck.i IntKind.i64, Ck.i IntKind.i64, Ck.s] 0 = [] from rfl, List.append_nil]
   simp only [l3, r3, Lib.dlt, Nat.lt_irrefl, decide_false, cond_false]) Lib.big 0 (Nat.zero_le _) (lt_big (by omega))
 simpa using mono
theorem ok (a0 : Row) (hl : a0.length <= 1048576) : c a0 = true /\ v a0 = tl a0 := out a0 (run a0 hl)
end U20

namespace U48
def tl (a0 : Row) : Row := a0.map fun y => [CV.s (cvS (y.getD 0 (.b false)))]
theorem tl_len (a0 : Row) : (tl a0).length = a0.length := by unfold tl; simp
theorem tl_sh (a0 : Row) : ∀ y ∈ tl a0, y.length = 1 := by
 intro y hy; unfold tl at hy; obtain ⟨z, _, rfl⟩ := List.mem_map.1 hy; rfl
theorem run (a0 : Row) (hl : a0.length <= 1048576) : vo a0 = some (tl a0) := by
 unfold vo b
 rw [show decide ((a0.length : Int) = (a0.length : Int)) = true by simp, Lib.toN, Lib.roomy_of (by omega) (by omega), Bool.and_self, cond_true]
 have mono := Lib.loop_gen (fun m (s : Nat) => l3 Lib.big (fun (_ : Row) (_ : Int) (y : Row) => some y) m a0 (s : Int) ((tl a0).take s ++ zeros [Ck.s] (a0.length - s))) (fun i => a0.length - i) (fun i => i <= a0.length) (fun _ => some (tl a0)) (fun m i hi => by
  by_cases h : i < a0.length
  ·right
   refine ⟨i + 1, h, by omega, rfl, ?_⟩
   have hlt : i < (tl a0).length := by rw [tl_len]; exact h
   have e := Lib.setC_step (ks := [Ck.s]) (tl_len a0) h (List.getElem?_eq_getElem hlt) (tl_sh a0 _ (List.getElem_mem hlt))
   have eg : (tl a0)[i] = [CV.s (cvS (cellAt a0 i 0))] := by simp [tl, cellAt, List.getD, h]
   rw [eg] at e
   have hx : ((tl a0).take i ++ zeros [Ck.s] (a0.length - i)).length = a0.length := by rw [List.length_append, List.length_take, tl_len, Lib.length_zeros]; omega
   have hi1 : w64 ((i : Int) + 1) = ((i + 1 : Nat) : Int) := w64_ok (by omega) (by omega)
   show l3 Lib.big _ (m + 1) a0 (i : Int) _ = l3 Lib.big _ m a0 ((i + 1 : Nat) : Int) _
   rw [<- e]
   simp only [l3, r3, hx, Lib.dlt, Lib.dle0, Lib.toN, h, decide_true, Bool.and_self, cond_true, hi1]
  ·left
   have : i = a0.length := by omega
   subst this
   rw [Nat.sub_self, List.take_of_length_le (by rw [tl_len]; exact Nat.le_refl _), show zeros [Ck.s] 0 = [] from rfl, List.append_nil]
   simp only [l3, r3, Lib.dlt, Nat.lt_irrefl, decide_false, cond_false]) Lib.big 0 (Nat.zero_le _) (lt_big (by omega))
 simpa using mono
theorem ok (a0 : Row) (hl : a0.length <= 1048576) : c a0 = true /\ v a0 = tl a0 := out a0 (run a0 hl)
end U48

namespace U69
def tl (a0 : Row) : Row := a0.map fun y => [CV.l 3 (U77.v (cvL (y.getD 0 (.b false))))]
theorem tl_len (a0 : Row) : (tl a0).length = a0.length := by unfold tl; simp
theorem tl_sh (a0 : Row) : ∀ y ∈ tl a0, y.length = 1 := by
 intro y hy; unfold tl at hy; obtain ⟨z, _, rfl⟩ := List.mem_map.1 hy; rfl
theorem run (a0 : Row) (hl : a0.length <= 1048576) (hin : U67.inn a0) : vo a0 = some (tl a0) := by
 unfold vo b
 rw [show decide ((a0.length : Int) = (a0.length : Int)) = true by simp, Lib.toN, Lib.roomy_of (by omega) (by omega), Bool.and_self, cond_true]
 have mono := Lib.loop_gen (fun m (s : Nat) => l3 Lib.big (fun (_ : Row) (_ : Int) (y : Row) => some y) m a0 (s : Int) ((tl a0).take s ++ zeros [Ck.l 3] (a0.length - s))) (fun i => a0.length - i) (fun i => i <= a0.length) (fun _ => some (tl a0)) (fun m i hi => by
  by_cases h : i < a0.length
  ·right
   refine ⟨i + 1, h, by omega, rfl, ?_⟩
   have hlt : i < (tl a0).length := by rw [tl_len]; exact h
   have e := Lib.setC_step (ks := [Ck.l 3]) (tl_len a0) h (List.getElem?_eq_getElem hlt) (tl_sh a0 _ (List.getElem_mem hlt))
   have eg : (tl a0)[i] = [CV.l 3 (U77.v (cvL (cellAt a0 i 0)))] := by simp [tl, cellAt, List.getD, h]
   rw [eg] at e
   have hx : ((tl a0).take i ++ zeros [Ck.l 3] (a0.length - i)).length = a0.length := by rw [List.length_append, List.length_take, tl_len, Lib.length_zeros]; omega
   have hi1 : w64 ((i : Int) + 1) = ((i + 1 : Nat) : Int) := w64_ok (by omega) (by omega)
   have hc : U77.c (cvL (cellAt a0 i 0)) = true := decide_eq_true (hin.1 i h)
   show l3 Lib.big _ (m + 1) a0 (i : Int) _ = l3 Lib.big _ m a0 ((i + 1 : Nat) : Int) _
   rw [<- e]
   simp only [l3, r3, hx, hc, Lib.dlt, Lib.dle0, Lib.toN, h, decide_true, Bool.and_self, cond_true, hi1]
  ·left
   have : i = a0.length := by omega
   subst this
   rw [Nat.sub_self, List.take_of_length_le (by rw [tl_len]; exact Nat.le_refl _), show zeros [Ck.l 3] 0 = [] from rfl, List.append_nil]
   simp only [l3, r3, Lib.dlt, Nat.lt_irrefl, decide_false, cond_false]) Lib.big 0 (Nat.zero_le _) (lt_big (by omega))
 simpa using mono
theorem ok (a0 : Row) (hl : a0.length <= 1048576) (hin : U67.inn a0) : c a0 = true /\ v a0 = tl a0 := out a0 (run a0 hl hin)
end U69

namespace U22
def tl (a0 : Row) : Row := a0.map fun y => [CV.s (cvS (y.getD 0 (.b false))), CV.s (cvS (y.getD 1 (.b false))), CV.i IntKind.i64 (cvI (y.getD 2 (.b false))), CV.i IntKind.i64 (cvI (y.getD 3 (.b false))), CV.i IntKind.i64 (cvI (y.getD 4 (.b false)))]
theorem tl_len (a0 : Row) : (tl a0).length = a0.length := by unfold tl; simp
theorem tl_sh (a0 : Row) : ∀ y ∈ tl a0, y.length = 5 := by
 intro y hy; unfold tl at hy; obtain ⟨z, _, rfl⟩ := List.mem_map.1 hy; rfl
theorem run (a0 : Row) (hl : a0.length <= 1048576) : vo a0 = some (tl a0) := by
 unfold vo b
 rw [show decide ((a0.length : Int) = (a0.length : Int)) = true by simp, Lib.toN, Lib.roomy_of (by omega) (by omega), Bool.and_self, cond_true]
 have mono := Lib.loop_gen (fun m (s : Nat) => l3 Lib.big (fun (_ : Row) (_ : Int) (y : Row) => some y) m a0 (s : Int) ((tl a0).take s ++ zeros [Ck.s, Ck.s, Ck.i IntKind.i64, Ck.i IntKind.i64, Ck.i IntKind.i64] (a0.length - s))) (fun i => a0.length - i) (fun i => i <= a0.length) (fun _ => some (tl a0)) (fun m i hi => by
  by_cases h : i < a0.length
  ·right
   refine ⟨i + 1, h, by omega, rfl, ?_⟩
   have hlt : i < (tl a0).length := by rw [tl_len]; exact h
   have e := Lib.setC_step (ks := [Ck.s, Ck.s, Ck.i IntKind.i64, Ck.i IntKind.i64, Ck.i IntKind.i64]) (tl_len a0) h (List.getElem?_eq_getElem hlt) (tl_sh a0 _ (List.getElem_mem hlt))
   have eg : (tl a0)[i] = [CV.s (cvS (cellAt a0 i 0)), CV.s (cvS (cellAt a0 i 1)), CV.i IntKind.i64 (cvI (cellAt a0 i 2)), CV.i IntKind.i64 (cvI (cellAt a0 i 3)), CV.i IntKind.i64 (cvI (cellAt a0 i 4))] := by simp [tl, cellAt, List.getD, h]
   rw [eg] at e
   have hx : ((tl a0).take i ++ zeros [Ck.s, Ck.s, Ck.i IntKind.i64, Ck.i IntKind.i64, Ck.i IntKind.i64] (a0.length - i)).length = a0.length := by rw [List.length_append, List.length_take, tl_len, Lib.length_zeros]; omega
   have hi1 : w64 ((i : Int) + 1) = ((i + 1 : Nat) : Int) := w64_ok (by omega) (by omega)
   show l3 Lib.big _ (m + 1) a0 (i : Int) _ = l3 Lib.big _ m a0 ((i + 1 : Nat) : Int) _
   rw [<- e]
   simp only [l3, r3, hx, Lib.dlt, Lib.dle0, Lib.toN, h, decide_true, Bool.and_self, cond_true, hi1]
  ·left
   have : i = a0.length := by omega
   subst this
   rw [Nat.sub_self, List.take_of_length_le (by rw [tl_len]; exact Nat.le_refl _), show zeros [Ck.s, Ck.s, Ck.i IntKind.i64, Ck.i IntKind.i64, Ck.i IntKind.i64] 0 = [] from rfl, List.append_nil]
   simp only [l3, r3, Lib.dlt, Nat.lt_irrefl, decide_false, cond_false]) Lib.big 0 (Nat.zero_le _) (lt_big (by omega))
 simpa using mono
theorem ok (a0 : Row) (hl : a0.length <= 1048576) : c a0 = true /\ v a0 = tl a0 := out a0 (run a0 hl)
end U22

namespace U23
def tl (a0 : Row) : Row := a0.map fun y => [CV.i IntKind.i64 (cvI (y.getD 0 (.b false))), CV.s (cvS (y.getD 1 (.b false))), CV.i IntKind.i64 (cvI (y.getD 2 (.b false))), CV.i IntKind.i64 (cvI (y.getD 3 (.b false))), CV.i IntKind.i64 (cvI (y.getD 4 (.b false))), CV.s (cvS (y.getD 5 (.b false))), CV.i IntKind.i64 (cvI (y.getD 6 (.b false)))]
theorem tl_len (a0 : Row) : (tl a0).length = a0.length := by unfold tl; simp
theorem tl_sh (a0 : Row) : ∀ y ∈ tl a0, y.length = 7 := by
 intro y hy; unfold tl at hy; obtain ⟨z, _, rfl⟩ := List.mem_map.1 hy; rfl
theorem run (a0 : Row) (hl : a0.length <= 1048576) : vo a0 = some (tl a0) := by
 unfold vo b
 rw [show decide ((a0.length : Int) = (a0.length : Int)) = true by simp, Lib.toN, Lib.roomy_of (by omega) (by omega), Bool.and_self, cond_true]
 have mono := Lib.loop_gen (fun m (s : Nat) => l3 Lib.big (fun (_ : Row) (_ : Int) (y : Row) => some y) m a0 (s : Int) ((tl a0).take s ++ zeros [Ck.i IntKind.i64, Ck.s, Ck.i IntKind.i64, Ck.i IntKind.i64, Ck.i IntKind.i64, Ck.s, Ck.i IntKind.i64] (a0.length - s))) (fun i => a0.length - i) (fun i => i <= a0.length) (fun _ => some (tl a0)) (fun m i hi => by
  by_cases h : i < a0.length
  ·right
   refine ⟨i + 1, h, by omega, rfl, ?_⟩
   have hlt : i < (tl a0).length := by rw [tl_len]; exact h
   have e := Lib.setC_step (ks := [Ck.i IntKind.i64, Ck.s, Ck.i IntKind.i64, Ck.i IntKind.i64, Ck.i IntKind.i64, Ck.s, Ck.i IntKind.i64]) (tl_len a0) h (List.getElem?_eq_getElem hlt) (tl_sh a0 _ (List.getElem_mem hlt))
   have eg : (tl a0)[i] = [CV.i IntKind.i64 (cvI (cellAt a0 i 0)), CV.s (cvS (cellAt a0 i 1)), CV.i IntKind.i64 (cvI (cellAt a0 i 2)), CV.i IntKind.i64 (cvI (cellAt a0 i 3)), CV.i IntKind.i64 (cvI (cellAt a0 i 4)), CV.s (cvS (cellAt a0 i 5)), CV.i IntKind.i64 (cvI (cellAt a0 i 6))] := by simp [tl, cellAt, List.getD, h]
   rw [eg] at e
   have hx : ((tl a0).take i ++ zeros [Ck.i IntKind.i64, Ck.s, Ck.i IntKind.i64, Ck.i IntKind.i64, Ck.i IntKind.i64, Ck.s, Ck.i IntKind.i64] (a0.length - i)).length = a0.length := by rw [List.length_append, List.length_take, tl_len, Lib.length_zeros]; omega
   have hi1 : w64 ((i : Int) + 1) = ((i + 1 : Nat) : Int) := w64_ok (by omega) (by omega)
   show l3 Lib.big _ (m + 1) a0 (i : Int) _ = l3 Lib.big _ m a0 ((i + 1 : Nat) : Int) _
   rw [<- e]
   simp only [l3, r3, hx, Lib.dlt, Lib.dle0, Lib.toN, h, decide_true, Bool.and_self, cond_true, hi1]
  ·left
   have : i = a0.length := by omega
   subst this
   rw [Nat.sub_self, List.take_of_length_le (by rw [tl_len]; exact Nat.le_refl _), show zeros [Ck.i IntKind.i64, Ck.s, Ck.i IntKind.i64, Ck.i IntKind.i64, Ck.i IntKind.i64, Ck.s, Ck.i IntKind.i64] 0 = [] from rfl, List.append_nil]
   simp only [l3, r3, Lib.dlt, Nat.lt_irrefl, decide_false, cond_false]) Lib.big 0 (Nat.zero_le _) (lt_big (by omega))
 simpa using mono
theorem ok (a0 : Row) (hl : a0.length <= 1048576) : c a0 = true /\ v a0 = tl a0 := out a0 (run a0 hl)
end U23

namespace U49
theorem ok (r : Row) (k : Int) (hl : r.length <= 1048576) (hin : U67.inn r) : c r k = true /\ v r k = (U69.tl r, k) := by
 have h := U69.ok r hl hin
 exact out r k (by unfold vo b; rw [h.1, h.2, cond_true])
end U49

namespace U21
theorem ok (r0 r1 r2 : Row) (k : Int) (h0 : r0.length <= 1048576) (h1 : r1.length <= 1048576) (hl : r2.length <= 1048576) (hin : U67.inn r2) : c r0 r1 r2 k = true /\ v r0 r1 r2 k = (U48.tl r0, U48.tl r1, U69.tl r2, k) := by
 have a0 := U48.ok r0 h0
 have a1 := U48.ok r1 h1
 have a2 := U49.ok r2 k hl hin
 exact out r0 r1 r2 k (by unfold vo b; rw [a0.1, a0.2, a1.1, a1.2, a2.1, a2.2, cond_true, cond_true, cond_true])
def bs (r : Row) : List ByteArray := r.map fun y => cvS (y.getD 0 (.b false))
def is (r : Row) : List (List Int) := r.map fun y => (cvL (y.getD 0 (.b false))).map fun z => cvI (z.getD 0 (.b false))
theorem tl_rs (r : Row) : U48.tl r = Lib.rs (bs r) := by
 unfold U48.tl Lib.rs bs; rw [List.map_map]; rfl
theorem tl_rr (r : Row) : U69.tl r = Lib.rr (is r) := by
 unfold U69.tl Lib.rr is
 rw [List.map_map]
 apply List.map_congr_left
 intro y _
 show [CV.l 3 (U77.v (cvL (y.getD 0 (.b false))))] = [CV.l 3 (ri ((cvL (y.getD 0 (.b false))).map fun z => cvI (z.getD 0 (.b false))))]
 unfold U77.v ri; rw [List.map_map]; rfl
theorem bs_len (r : Row) : (bs r).length = r.length := by unfold bs; simp
theorem is_len (r : Row) : (is r).length = r.length := by unfold is; simp
theorem is_fit {r : Row} (hl : r.length <= 1048576) (h : U67.inn r) : (is r).length <= 1048576 /\ (∀ q ∈ is r, q.length <= 1048576) /\ ((is r).map List.length).sum <= 1048576 := by
 refine ⟨by rw [is_len]; exact hl, fun q hq => ?_, ?_⟩
 ·unfold is at hq
  obtain ⟨y, hy, rfl⟩ := List.mem_map.1 hq
  obtain ⟨i, hi, rfl⟩ := List.getElem_of_mem hy
  have := h.1 i hi
  rw [Lib.cellAt_of hi] at this
  rw [List.length_map]; exact this
 ·have := h.2
  unfold U67.tot at this
  unfold is
  rw [List.map_map]
  rw [show (List.length ∘ fun y : List CV => (cvL (y.getD 0 (.b false))).map fun z => cvI (z.getD 0 (.b false))) = fun y : List CV => (cvL (y.getD 0 (.b false))).length from by funext y; simp]
  exact this
end U21

namespace U7
theorem ok (i0 : Int) (r1 r2 r3 r4 : Row) (i5 : Int) (r6 r7 : Row) (i8 : Int) (h1 : r1.length <= 1048576) (h2 : r2.length <= 1048576) (h3 : r3.length <= 1048576) (h4 : r4.length <= 1048576) (hin : U67.inn r4) (h6 : r6.length <= 1048576) (h7 : r7.length <= 1048576) :
  c i0 r1 r2 r3 r4 i5 r6 r7 i8 = true /\ v i0 r1 r2 r3 r4 i5 r6 r7 i8 = (i0, U20.tl r1, U48.tl r2, U48.tl r3, U69.tl r4, i5, U22.tl r6, U23.tl r7, i8) := by
 have a1 := U20.ok r1 h1
 have a2 := U21.ok r2 r3 r4 i5 h2 h3 h4 hin
 have a3 := U22.ok r6 h6
 have a4 := U23.ok r7 h7
 exact out i0 r1 r2 r3 r4 i5 r6 r7 i8 (by unfold vo b; rw [a1.1, a1.2, a2.1, a2.2, a3.1, a3.2, a4.1, a4.2, cond_true, cond_true, cond_true, cond_true])
def eo (y : List CV) : En := ⟨cvS (y.getD 0 (.b false)), cvI (y.getD 1 (.b false)), cvI (y.getD 2 (.b false)), cvS (y.getD 3 (.b false))⟩
def fo (y : List CV) : Fe := ⟨cvS (y.getD 0 (.b false)), cvS (y.getD 1 (.b false)), cvI (y.getD 2 (.b false)), cvI (y.getD 3 (.b false)), cvI (y.getD 4 (.b false))⟩
def co (y : List CV) : Lib.Cl := ⟨cvI (y.getD 0 (.b false)), cvS (y.getD 1 (.b false)), cvI (y.getD 2 (.b false)), cvI (y.getD 3 (.b false)), cvI (y.getD 4 (.b false)), cvS (y.getD 5 (.b false)), cvI (y.getD 6 (.b false))⟩
theorem tl_re (r : Row) : U20.tl r = Lib.re (r.map eo) := by
 unfold U20.tl Lib.re; rw [List.map_map]; rfl
theorem tl_rf (r : Row) : U22.tl r = Lib.rf (r.map fo) := by
 unfold U22.tl Lib.rf; rw [List.map_map]; rfl
theorem tl_rc (r : Row) : U23.tl r = Lib.rc (r.map co) := by
 unfold U23.tl Lib.rc; rw [List.map_map]; rfl
end U7

namespace U45
theorem bd (x0 : Int) (x1 : ByteArray) (x2 : Int) (x3 : Int) (x4 : Int) (x5 : ByteArray) (x6 : Int) (L : Int) (h1 : okS x1) (h5 : okS x5) (hL0 : 0 <= L) (hL1 : L <= 1048576) : v x0 x1 x2 x3 x4 x5 x6 L <= 1048576 := by
 have hz : ∀ x, okS x -> x.size <= 4611686018427387904 := fun _ h => h
 have z1 := hz _ h1
 have z5 := hz _ h5
 unfold v
 rw [w64_ok (x := L - (x1.size : Int)) (by omega) (by omega)]
 by_cases c1 : L - (x1.size : Int) < 0
 ·rw [decide_eq_true c1, cond_true]; omega
 ·rw [decide_eq_false c1, cond_false]
  rw [w64_ok (x := (L - (x1.size : Int)) - (x5.size : Int)) (by omega) (by omega)]
  by_cases c5 : (L - (x1.size : Int)) - (x5.size : Int) < 0
  ·rw [decide_eq_true c5, cond_true]; omega
  ·rw [decide_eq_false c5, cond_false]
   omega
end U45

namespace U18
theorem run (a : Row) (L : Int) (h0 : 0 <= L) (h1 : L <= 1048576) (ha : FitR a) : ∃ x, vo a L = some x /\ x <= 1048576 /\ (0 <= x -> a.length <= 1048576) := by
 have hl := ha.1
 unfold vo b
 rw [w64_ok (x := L - (a.length : Int)) (by omega) (by omega)]
 by_cases hc : L - (a.length : Int) < 0
 ·rw [decide_eq_true hc]; exact ⟨-1, rfl, by omega, fun h => by omega⟩
 ·rw [decide_eq_false hc, cond_false]
  have key := loop_post (fun n (s : Nat × Int) => l5 Lib.big (fun (_ : Row) (_ y6 _ : Int) => some y6) (fun (_ : Row) (y9 _ _ : Int) => some y9) n a s.2 0 (s.1 : Int)) (fun s => a.length - s.1) (fun s => s.1 <= a.length /\ 0 <= s.2 /\ s.2 <= 1048576) (fun x => x <= 1048576) (fun n s hs => by
   obtain ⟨i, L⟩ := s
   obtain ⟨hi, hL0, hL1⟩ := hs
   dsimp only at hi hL0 hL1 ⊢
   by_cases h : i < a.length
   ·have hi1 : w64 ((i : Int) + 1) = ((i + 1 : Nat) : Int) := w64_ok (by omega) (by omega)
    have hw : U45.v (cvI (cellAt a i 0)) (cvS (cellAt a i 1)) (cvI (cellAt a i (1 + 1))) (cvI (cellAt a i (1 + 1 + 1))) (cvI (cellAt a i (1 + 1 + 1 + 1))) (cvS (cellAt a i (1 + 1 + 1 + 1 + 1))) (cvI (cellAt a i (1 + 1 + 1 + 1 + 1 + 1))) L <= 1048576 := U45.bd _ _ _ _ _ _ _ L (okS_cell ha i _) (okS_cell ha i _) hL0 hL1
    by_cases hn : U45.v (cvI (cellAt a i 0)) (cvS (cellAt a i 1)) (cvI (cellAt a i (1 + 1))) (cvI (cellAt a i (1 + 1 + 1))) (cvI (cellAt a i (1 + 1 + 1 + 1))) (cvS (cellAt a i (1 + 1 + 1 + 1 + 1))) (cvI (cellAt a i (1 + 1 + 1 + 1 + 1 + 1))) L < 0
    ·exact .inl ⟨-1, by simp only [l5, r5, Lib.dlt, h, decide_true, Lib.dle0, Bool.and_self, cond_true, Lib.toN, hn], by omega⟩
    ·exact .inr ⟨(i + 1, U45.v (cvI (cellAt a i 0)) (cvS (cellAt a i 1)) (cvI (cellAt a i (1 + 1))) (cvI (cellAt a i (1 + 1 + 1))) (cvI (cellAt a i (1 + 1 + 1 + 1))) (cvS (cellAt a i (1 + 1 + 1 + 1 + 1))) (cvI (cellAt a i (1 + 1 + 1 + 1 + 1 + 1))) L), ⟨h, by omega, hw⟩, by dsimp only; omega, by simp only [l5, r5, Lib.dlt, h, decide_true, decide_false, Lib.dle0, Bool.and_self, cond_true, cond_false, Lib.toN, hn, hi1]⟩
   ·exact .inl ⟨L, by simp only [l5, r5, Lib.dlt, h, decide_false, cond_false], hL1⟩) Lib.big (0, L - (a.length : Int)) ⟨Nat.zero_le _, by dsimp only; omega, by dsimp only; omega⟩ (lt_big (by omega))
  obtain ⟨x, hx, hb⟩ := key
  exact ⟨x, hx, hb, fun _ => by omega⟩
theorem ok (a : Row) (L : Int) (h0 : 0 <= L) (h1 : L <= 1048576) (ha : FitR a) : c a L = true /\ v a L <= 1048576 /\ (0 <= v a L -> a.length <= 1048576) := by
 obtain ⟨x, h, h2, h3⟩ := run a L h0 h1 ha
 obtain ⟨e1, e2⟩ := out a L h
 rw [e2]; exact ⟨e1, h2, h3⟩
end U18

namespace A_SzC
open U18 (l5 r5 v vo b out)
def rm (a : Row) : Nat := (a.map fun y => (cvS (y.getD 5 (.b false))).size).sum
theorem rm_succ (a : Row) (i : Nat) (h : i < a.length) : rm (a.take (i + 1)) = rm (a.take i) + (cvS (cellAt a i (1 + 1 + 1 + 1 + 1))).size := by
 unfold rm cellAt
 rw [List.take_succ_eq_append_getElem h, List.map_append, List.sum_append]
 simp [List.getD, h]
theorem bd2 (x0 : Int) (x1 : ByteArray) (x2 : Int) (x3 : Int) (x4 : Int) (x5 : ByteArray) (x6 : Int) (L : Int) (h1 : okS x1) (h5 : okS x5) (hL0 : 0 <= L) (hL1 : L <= 1048576) (hn : ¬ U45.v x0 x1 x2 x3 x4 x5 x6 L < 0) : U45.v x0 x1 x2 x3 x4 x5 x6 L + (x5.size : Int) <= L := by
 have hz : ∀ x, okS x -> x.size <= 4611686018427387904 := fun _ h => h
 have z1 := hz _ h1
 have z5 := hz _ h5
 unfold U45.v at hn ⊢
 rw [w64_ok (x := L - (x1.size : Int)) (by omega) (by omega)] at hn ⊢
 by_cases c1 : L - (x1.size : Int) < 0
 ·rw [decide_eq_true c1, cond_true] at hn; omega
 ·rw [decide_eq_false c1, cond_false] at hn ⊢
  rw [w64_ok (x := (L - (x1.size : Int)) - (x5.size : Int)) (by omega) (by omega)] at hn ⊢
  by_cases c5 : (L - (x1.size : Int)) - (x5.size : Int) < 0
  ·rw [decide_eq_true c5, cond_true] at hn; omega
  ·rw [decide_eq_false c5, cond_false]
   omega
theorem run (a : Row) (L : Int) (h0 : 0 <= L) (h1 : L <= 1048576) (ha : FitR a) : ∃ x, vo a L = some x /\ (0 <= x -> rm a <= 1048576) := by
 have hl := ha.1
 unfold vo b
 rw [w64_ok (x := L - (a.length : Int)) (by omega) (by omega)]
 by_cases hc : L - (a.length : Int) < 0
 ·rw [decide_eq_true hc]; exact ⟨-1, rfl, fun h => by omega⟩
 ·rw [decide_eq_false hc, cond_false]
  have key := loop_post (fun n (s : Nat × Int) => l5 Lib.big (fun (_ : Row) (_ y6 _ : Int) => some y6) (fun (_ : Row) (y9 _ _ : Int) => some y9) n a s.2 0 (s.1 : Int)) (fun s => a.length - s.1) (fun s => s.1 <= a.length /\ 0 <= s.2 /\ (rm (a.take s.1) : Int) + s.2 <= 1048576) (fun x => 0 <= x -> rm a <= 1048576) (fun n s hs => by
   obtain ⟨i, L⟩ := s
   obtain ⟨hi, hL0, hL1⟩ := hs
   dsimp only at hi hL0 hL1 ⊢
   by_cases h : i < a.length
   ·have hi1 : w64 ((i : Int) + 1) = ((i + 1 : Nat) : Int) := w64_ok (by omega) (by omega)
    by_cases hn : U45.v (cvI (cellAt a i 0)) (cvS (cellAt a i 1)) (cvI (cellAt a i (1 + 1))) (cvI (cellAt a i (1 + 1 + 1))) (cvI (cellAt a i (1 + 1 + 1 + 1))) (cvS (cellAt a i (1 + 1 + 1 + 1 + 1))) (cvI (cellAt a i (1 + 1 + 1 + 1 + 1 + 1))) L < 0
    ·exact .inl ⟨-1, by simp only [l5, r5, Lib.dlt, h, decide_true, Lib.dle0, Bool.and_self, cond_true, Lib.toN, hn], fun h => by omega⟩
    ·have hw := bd2 _ _ _ _ _ _ _ L (okS_cell ha i _) (okS_cell ha i _) hL0 (by omega) hn
     have hr := rm_succ a i h
     exact .inr ⟨(i + 1, U45.v (cvI (cellAt a i 0)) (cvS (cellAt a i 1)) (cvI (cellAt a i (1 + 1))) (cvI (cellAt a i (1 + 1 + 1))) (cvI (cellAt a i (1 + 1 + 1 + 1))) (cvS (cellAt a i (1 + 1 + 1 + 1 + 1))) (cvI (cellAt a i (1 + 1 + 1 + 1 + 1 + 1))) L), ⟨h, by dsimp only; omega, by dsimp only; omega⟩, by dsimp only; omega, by simp only [l5, r5, Lib.dlt, h, decide_true, decide_false, Lib.dle0, Bool.and_self, cond_true, cond_false, Lib.toN, hn, hi1]⟩
   ·refine .inl ⟨L, by simp only [l5, r5, Lib.dlt, h, decide_false, cond_false], fun _ => ?_⟩
    rw [List.take_of_length_le (by omega)] at hL1
    omega) Lib.big (0, L - (a.length : Int)) ⟨Nat.zero_le _, by dsimp only; omega, by show ((0 : Nat) : Int) + (L - (a.length : Int)) <= 1048576; omega⟩ (lt_big (by omega))
  obtain ⟨x, hx, hb⟩ := key
  exact ⟨x, hx, hb⟩
theorem ok (a : Row) (L : Int) (h0 : 0 <= L) (h1 : L <= 1048576) (ha : FitR a) (h : 0 <= v a L) : rm a <= 1048576 := by
 obtain ⟨x, hx, h2⟩ := run a L h0 h1 ha
 obtain ⟨e1, e2⟩ := out a L hx
 rw [e2] at h; exact h2 h
end A_SzC

namespace U41
theorem bd (x0 : ByteArray) (x1 : Int) (x2 : Int) (x3 : ByteArray) (L : Int) (h0 : okS x0) (h3 : okS x3) (hL0 : 0 <= L) (hL1 : L <= 1048576) : v x0 x1 x2 x3 L <= 1048576 := by
 have hz : ∀ x, okS x -> x.size <= 4611686018427387904 := fun _ h => h
 have z0 := hz _ h0
 have z3 := hz _ h3
 unfold v
 rw [w64_ok (x := L - (x0.size : Int)) (by omega) (by omega)]
 by_cases c0 : L - (x0.size : Int) < 0
 ·rw [decide_eq_true c0, cond_true]; omega
 ·rw [decide_eq_false c0, cond_false]
  rw [w64_ok (x := (L - (x0.size : Int)) - (x3.size : Int)) (by omega) (by omega)]
  by_cases c3 : (L - (x0.size : Int)) - (x3.size : Int) < 0
  ·rw [decide_eq_true c3, cond_true]; omega
  ·rw [decide_eq_false c3, cond_false]
   omega
end U41

namespace U15
theorem run (a : Row) (L : Int) (h0 : 0 <= L) (h1 : L <= 1048576) (ha : FitR a) : ∃ x, vo a L = some x /\ x <= 1048576 /\ (0 <= x -> a.length <= 1048576) := by
 have hl := ha.1
 unfold vo b
 rw [w64_ok (x := L - (a.length : Int)) (by omega) (by omega)]
 by_cases hc : L - (a.length : Int) < 0
 ·rw [decide_eq_true hc]; exact ⟨-1, rfl, by omega, fun h => by omega⟩
 ·rw [decide_eq_false hc, cond_false]
  have key := loop_post (fun n (s : Nat × Int) => l5 Lib.big (fun (_ : Row) (_ y6 _ : Int) => some y6) (fun (_ : Row) (y9 _ _ : Int) => some y9) n a s.2 0 (s.1 : Int)) (fun s => a.length - s.1) (fun s => s.1 <= a.length /\ 0 <= s.2 /\ s.2 <= 1048576) (fun x => x <= 1048576) (fun n s hs => by
   obtain ⟨i, L⟩ := s
   obtain ⟨hi, hL0, hL1⟩ := hs
   dsimp only at hi hL0 hL1 ⊢
   by_cases h : i < a.length
   ·have hi1 : w64 ((i : Int) + 1) = ((i + 1 : Nat) : Int) := w64_ok (by omega) (by omega)
    have hw : U41.v (cvS (cellAt a i 0)) (cvI (cellAt a i 1)) (cvI (cellAt a i (1 + 1))) (cvS (cellAt a i (1 + 1 + 1))) L <= 1048576 := U41.bd _ _ _ _ L (okS_cell ha i _) (okS_cell ha i _) hL0 hL1
    by_cases hn : U41.v (cvS (cellAt a i 0)) (cvI (cellAt a i 1)) (cvI (cellAt a i (1 + 1))) (cvS (cellAt a i (1 + 1 + 1))) L < 0
    ·exact .inl ⟨-1, by simp only [l5, r5, Lib.dlt, h, decide_true, Lib.dle0, Bool.and_self, cond_true, Lib.toN, hn], by omega⟩
    ·exact .inr ⟨(i + 1, U41.v (cvS (cellAt a i 0)) (cvI (cellAt a i 1)) (cvI (cellAt a i (1 + 1))) (cvS (cellAt a i (1 + 1 + 1))) L), ⟨h, by omega, hw⟩, by dsimp only; omega, by simp only [l5, r5, Lib.dlt, h, decide_true, decide_false, Lib.dle0, Bool.and_self, cond_true, cond_false, Lib.toN, hn, hi1]⟩
   ·exact .inl ⟨L, by simp only [l5, r5, Lib.dlt, h, decide_false, cond_false], hL1⟩) Lib.big (0, L - (a.length : Int)) ⟨Nat.zero_le _, by dsimp only; omega, by dsimp only; omega⟩ (lt_big (by omega))
  obtain ⟨x, hx, hb⟩ := key
  exact ⟨x, hx, hb, fun _ => by omega⟩
theorem ok (a : Row) (L : Int) (h0 : 0 <= L) (h1 : L <= 1048576) (ha : FitR a) : c a L = true /\ v a L <= 1048576 /\ (0 <= v a L -> a.length <= 1048576) := by
 obtain ⟨x, h, h2, h3⟩ := run a L h0 h1 ha
 obtain ⟨e1, e2⟩ := out a L h
 rw [e2]; exact ⟨e1, h2, h3⟩
end U15

namespace U42
theorem run (a : Row) (L : Int) (h0 : 0 <= L) (h1 : L <= 1048576) (ha : FitR a) : ∃ x, vo a L = some x /\ x <= 1048576 /\ (0 <= x -> a.length <= 1048576) := by
 have hl := ha.1
 unfold vo b
 rw [w64_ok (x := L - (a.length : Int)) (by omega) (by omega)]
 by_cases hc : L - (a.length : Int) < 0
 ·rw [decide_eq_true hc]; exact ⟨-1, rfl, by omega, fun h => by omega⟩
 ·rw [decide_eq_false hc, cond_false]
  have key := loop_post (fun n (s : Nat × Int) => l5 Lib.big (fun (_ : Row) (_ y6 _ : Int) => some y6) (fun (_ : Row) (y9 _ _ : Int) => some y9) n a s.2 0 (s.1 : Int)) (fun s => a.length - s.1) (fun s => s.1 <= a.length /\ 0 <= s.2 /\ s.2 <= 1048576) (fun x => x <= 1048576) (fun n s hs => by
   obtain ⟨i, L⟩ := s
   obtain ⟨hi, hL0, hL1⟩ := hs
   dsimp only at hi hL0 hL1 ⊢
   by_cases h : i < a.length
   ·have hi1 : w64 ((i : Int) + 1) = ((i + 1 : Nat) : Int) := w64_ok (by omega) (by omega)
    have z : (cvS (cellAt a i 0)).size <= 4611686018427387904 := okS_cell ha i 0
    have hw : w64 (L - (↑(ByteArray.size (cvS (cellAt a i 0))) : Int)) <= 1048576 := by rw [w64_ok (by omega) (by omega)]; omega
    by_cases hn : w64 (L - (↑(ByteArray.size (cvS (cellAt a i 0))) : Int)) < 0
    ·exact .inl ⟨-1, by simp only [l5, r5, Lib.dlt, h, decide_true, Lib.dle0, Bool.and_self, cond_true, Lib.toN, hn], by omega⟩
    ·exact .inr ⟨(i + 1, w64 (L - (↑(ByteArray.size (cvS (cellAt a i 0))) : Int))), ⟨h, by omega, hw⟩, by dsimp only; omega, by simp only [l5, r5, Lib.dlt, h, decide_true, decide_false, Lib.dle0, Bool.and_self, cond_true, cond_false, Lib.toN, hn, hi1]⟩
   ·exact .inl ⟨L, by simp only [l5, r5, Lib.dlt, h, decide_false, cond_false], hL1⟩) Lib.big (0, L - (a.length : Int)) ⟨Nat.zero_le _, by dsimp only; omega, by dsimp only; omega⟩ (lt_big (by omega))
  obtain ⟨x, hx, hb⟩ := key
  exact ⟨x, hx, hb, fun _ => by omega⟩
theorem ok (a : Row) (L : Int) (h0 : 0 <= L) (h1 : L <= 1048576) (ha : FitR a) : c a L = true /\ v a L <= 1048576 /\ (0 <= v a L -> a.length <= 1048576) := by
 obtain ⟨x, h, h2, h3⟩ := run a L h0 h1 ha
 obtain ⟨e1, e2⟩ := out a L h
 rw [e2]; exact ⟨e1, h2, h3⟩
end U42

namespace U43
theorem ok (r : Row) (k : Int) (L : Int) (h0 : 0 <= L) (h1 : L <= 1048576) (ha : FitR r) : c r k L = true /\ v r k L <= 1048576 /\ (0 <= v r k L -> r.length <= 1048576 /\ U67.inn r) := by
 obtain ⟨e1, e2, e3⟩ := U67.ok r L h0 h1 ha
 by_cases h : U67.v r L < 0
 ·obtain ⟨q1, q2⟩ := out r k L (x := -1) (by unfold vo b; rw [e1, cond_true, decide_eq_true h, cond_true])
  rw [q2]; exact ⟨q1, by omega, fun h => by omega⟩
 ·obtain ⟨q1, q2⟩ := out r k L (x := U67.v r L) (by unfold vo b; rw [e1, cond_true, decide_eq_false h, cond_false])
  rw [q2]; exact ⟨q1, e2, e3⟩
end U43

namespace U16
theorem ok (r0 r1 r2 : Row) (k : Int) (L : Int) (h0 : 0 <= L) (h1 : L <= 1048576) (f0 : FitR r0) (f1 : FitR r1) (f2 : FitR r2) : c r0 r1 r2 k L = true /\ v r0 r1 r2 k L <= 1048576 /\ (0 <= v r0 r1 r2 k L -> r0.length <= 1048576 /\ r1.length <= 1048576 /\ r2.length <= 1048576 /\ U67.inn r2) := by
 have a1 := U42.ok r0 L h0 h1 f0
 by_cases hA : U42.v r0 L < 0
 ·obtain ⟨q1, q2⟩ := out r0 r1 r2 k L (x := -1) (by unfold vo b; rw [a1.1, cond_true, decide_eq_true hA, cond_true])
  rw [q2]; exact ⟨q1, by omega, fun h => by omega⟩
 have a2 := U42.ok r1 (U42.v r0 L) (by omega) a1.2.1 f1
 by_cases hB : U42.v r1 (U42.v r0 L) < 0
 ·obtain ⟨q1, q2⟩ := out r0 r1 r2 k L (x := -1) (by unfold vo b; rw [a1.1, cond_true, decide_eq_false hA, cond_false, a2.1, cond_true, decide_eq_true hB, cond_true])
  rw [q2]; exact ⟨q1, by omega, fun h => by omega⟩
 have a3 := U43.ok r2 k (U42.v r1 (U42.v r0 L)) (by omega) a2.2.1 f2
 by_cases hC : U43.v r2 k (U42.v r1 (U42.v r0 L)) < 0
 ·obtain ⟨q1, q2⟩ := out r0 r1 r2 k L (x := -1) (by unfold vo b; rw [a1.1, cond_true, decide_eq_false hA, cond_false, a2.1, cond_true, decide_eq_false hB, cond_false, a3.1, cond_true, decide_eq_true hC, cond_true])
  rw [q2]; exact ⟨q1, by omega, fun h => by omega⟩
 obtain ⟨q1, q2⟩ := out r0 r1 r2 k L (x := U43.v r2 k (U42.v r1 (U42.v r0 L))) (by unfold vo b; rw [a1.1, cond_true, decide_eq_false hA, cond_false, a2.1, cond_true, decide_eq_false hB, cond_false, a3.1, cond_true, decide_eq_false hC, cond_false])
 rw [q2]; exact ⟨q1, a3.2.1, fun h => ⟨a1.2.2 (by omega), a2.2.2 (by omega), a3.2.2 h⟩⟩
end U16

namespace U44
theorem bd (x0 : ByteArray) (x1 : ByteArray) (x2 : Int) (x3 : Int) (x4 : Int) (L : Int) (h0 : okS x0) (h1 : okS x1) (hL0 : 0 <= L) (hL1 : L <= 1048576) : v x0 x1 x2 x3 x4 L <= 1048576 := by
 have hz : ∀ x, okS x -> x.size <= 4611686018427387904 := fun _ h => h
 have z0 := hz _ h0
 have z1 := hz _ h1
 unfold v
 rw [w64_ok (x := L - (x0.size : Int)) (by omega) (by omega)]
 by_cases c0 : L - (x0.size : Int) < 0
 ·rw [decide_eq_true c0, cond_true]; omega
 ·rw [decide_eq_false c0, cond_false]
  rw [w64_ok (x := (L - (x0.size : Int)) - (x1.size : Int)) (by omega) (by omega)]
  by_cases c1 : (L - (x0.size : Int)) - (x1.size : Int) < 0
  ·rw [decide_eq_true c1, cond_true]; omega
  ·rw [decide_eq_false c1, cond_false]
   omega
end U44

namespace U17
theorem run (a : Row) (L : Int) (h0 : 0 <= L) (h1 : L <= 1048576) (ha : FitR a) : ∃ x, vo a L = some x /\ x <= 1048576 /\ (0 <= x -> a.length <= 1048576) := by
 have hl := ha.1
 unfold vo b
 rw [w64_ok (x := L - (a.length : Int)) (by omega) (by omega)]
 by_cases hc : L - (a.length : Int) < 0
 ·rw [decide_eq_true hc]; exact ⟨-1, rfl, by omega, fun h => by omega⟩
 ·rw [decide_eq_false hc, cond_false]
  have key := loop_post (fun n (s : Nat × Int) => l5 Lib.big (fun (_ : Row) (_ y6 _ : Int) => some y6) (fun (_ : Row) (y9 _ _ : Int) => some y9) n a s.2 0 (s.1 : Int)) (fun s => a.length - s.1) (fun s => s.1 <= a.length /\ 0 <= s.2 /\ s.2 <= 1048576) (fun x => x <= 1048576) (fun n s hs => by
   obtain ⟨i, L⟩ := s
   obtain ⟨hi, hL0, hL1⟩ := hs
   dsimp only at hi hL0 hL1 ⊢
   by_cases h : i < a.length
   ·have hi1 : w64 ((i : Int) + 1) = ((i + 1 : Nat) : Int) := w64_ok (by omega) (by omega)
    have hw : U44.v (cvS (cellAt a i 0)) (cvS (cellAt a i 1)) (cvI (cellAt a i (1 + 1))) (cvI (cellAt a i (1 + 1 + 1))) (cvI (cellAt a i (1 + 1 + 1 + 1))) L <= 1048576 := U44.bd _ _ _ _ _ L (okS_cell ha i _) (okS_cell ha i _) hL0 hL1
    by_cases hn : U44.v (cvS (cellAt a i 0)) (cvS (cellAt a i 1)) (cvI (cellAt a i (1 + 1))) (cvI (cellAt a i (1 + 1 + 1))) (cvI (cellAt a i (1 + 1 + 1 + 1))) L < 0
    ·exact .inl ⟨-1, by simp only [l5, r5, Lib.dlt, h, decide_true, Lib.dle0, Bool.and_self, cond_true, Lib.toN, hn], by omega⟩
    ·exact .inr ⟨(i + 1, U44.v (cvS (cellAt a i 0)) (cvS (cellAt a i 1)) (cvI (cellAt a i (1 + 1))) (cvI (cellAt a i (1 + 1 + 1))) (cvI (cellAt a i (1 + 1 + 1 + 1))) L), ⟨h, by omega, hw⟩, by dsimp only; omega, by simp only [l5, r5, Lib.dlt, h, decide_true, decide_false, Lib.dle0, Bool.and_self, cond_true, cond_false, Lib.toN, hn, hi1]⟩
   ·exact .inl ⟨L, by simp only [l5, r5, Lib.dlt, h, decide_false, cond_false], hL1⟩) Lib.big (0, L - (a.length : Int)) ⟨Nat.zero_le _, by dsimp only; omega, by dsimp only; omega⟩ (lt_big (by omega))
  obtain ⟨x, hx, hb⟩ := key
  exact ⟨x, hx, hb, fun _ => by omega⟩
theorem ok (a : Row) (L : Int) (h0 : 0 <= L) (h1 : L <= 1048576) (ha : FitR a) : c a L = true /\ v a L <= 1048576 /\ (0 <= v a L -> a.length <= 1048576) := by
 obtain ⟨x, h, h2, h3⟩ := run a L h0 h1 ha
 obtain ⟨e1, e2⟩ := out a L h
 rw [e2]; exact ⟨e1, h2, h3⟩
end U17

namespace U5
theorem ok (i0 : Int) (r1 r2 r3 r4 : Row) (i5 : Int) (r6 r7 : Row) (i8 : Int) (L : Int) (h0 : 0 <= L) (h1 : L <= 1048576) (f1 : FitR r1) (f2 : FitR r2) (f3 : FitR r3) (f4 : FitR r4) (f6 : FitR r6) (f7 : FitR r7) :
  c i0 r1 r2 r3 r4 i5 r6 r7 i8 L = true /\ v i0 r1 r2 r3 r4 i5 r6 r7 i8 L <= 1048576 /\ (0 <= v i0 r1 r2 r3 r4 i5 r6 r7 i8 L -> r1.length <= 1048576 /\ (r2.length <= 1048576 /\ r3.length <= 1048576 /\ r4.length <= 1048576 /\ U67.inn r4) /\ r6.length <= 1048576 /\ r7.length <= 1048576) := by
 have a1 := U15.ok r1 L h0 h1 f1
 by_cases hA : U15.v r1 L < 0
 ·obtain ⟨q1, q2⟩ := out i0 r1 r2 r3 r4 i5 r6 r7 i8 L (x := -1) (by unfold vo b; rw [a1.1, cond_true, decide_eq_true hA, cond_true])
  rw [q2]; exact ⟨q1, by omega, fun h => by omega⟩
 have a2 := U16.ok r2 r3 r4 i5 (U15.v r1 L) (by omega) a1.2.1 f2 f3 f4
 by_cases hB : U16.v r2 r3 r4 i5 (U15.v r1 L) < 0
 ·obtain ⟨q1, q2⟩ := out i0 r1 r2 r3 r4 i5 r6 r7 i8 L (x := -1) (by unfold vo b; rw [a1.1, cond_true, decide_eq_false hA, cond_false, a2.1, cond_true, decide_eq_true hB, cond_true])
  rw [q2]; exact ⟨q1, by omega, fun h => by omega⟩
 have a3 := U17.ok r6 (U16.v r2 r3 r4 i5 (U15.v r1 L)) (by omega) a2.2.1 f6
 by_cases hC : U17.v r6 (U16.v r2 r3 r4 i5 (U15.v r1 L)) < 0
 ·obtain ⟨q1, q2⟩ := out i0 r1 r2 r3 r4 i5 r6 r7 i8 L (x := -1) (by unfold vo b; rw [a1.1, cond_true, decide_eq_false hA, cond_false, a2.1, cond_true, decide_eq_false hB, cond_false, a3.1, cond_true, decide_eq_true hC, cond_true])
  rw [q2]; exact ⟨q1, by omega, fun h => by omega⟩
 have a4 := U18.ok r7 (U17.v r6 (U16.v r2 r3 r4 i5 (U15.v r1 L))) (by omega) a3.2.1 f7
 by_cases hD : U18.v r7 (U17.v r6 (U16.v r2 r3 r4 i5 (U15.v r1 L))) < 0
 ·obtain ⟨q1, q2⟩ := out i0 r1 r2 r3 r4 i5 r6 r7 i8 L (x := -1) (by unfold vo b; rw [a1.1, cond_true, decide_eq_false hA, cond_false, a2.1, cond_true, decide_eq_false hB, cond_false, a3.1, cond_true, decide_eq_false hC, cond_false, a4.1, cond_true, decide_eq_true hD, cond_true])
  rw [q2]; exact ⟨q1, by omega, fun h => by omega⟩
 obtain ⟨q1, q2⟩ := out i0 r1 r2 r3 r4 i5 r6 r7 i8 L (x := U18.v r7 (U17.v r6 (U16.v r2 r3 r4 i5 (U15.v r1 L)))) (by unfold vo b; rw [a1.1, cond_true, decide_eq_false hA, cond_false, a2.1, cond_true, decide_eq_false hB, cond_false, a3.1, cond_true, decide_eq_false hC, cond_false, a4.1, cond_true, decide_eq_false hD, cond_false])
 rw [q2]; exact ⟨q1, a4.2.1, fun h => ⟨a1.2.2 (by omega), a2.2.2 (by omega), a3.2.2 (by omega), a4.2.2 h⟩⟩
end U5

namespace U6
open _root_.Go.FG.Lib (Cl rc el)
open A_Show (shown ln room clOk sp nlc)
theorem step (K : ByteArray -> Int -> Int -> Row -> Row -> Row -> Row -> Int -> Row -> Row -> Int -> Option R) (i0 : Int) (q1 q2 q3 q4 : Row) (i5 : Int) (q6 : Row) (i8 : Int) (l : List Cl) (hr : room l <= 1000000000) (ho : ∀ c ∈ l, clOk c) (m i : Nat) (h : i < l.length) :
  l3 Lib.big K (m + 1) (shown (l.take i)) (i : Int) i0 q1 q2 q3 q4 i5 q6 (rc l) i8 = l3 Lib.big K m (shown (l.take (i + 1))) ((i + 1 : Nat) : Int) i0 q1 q2 q3 q4 i5 q6 (rc l) i8 := by
 have hc := ho _ (el_mem h)
 have d1 := A_Show.num _ hc.1
 have d2 := A_Show.num _ hc.2
 have s1 := A_Dec.it_size _ (A_Show.pos_ok hc.1).1 (A_Show.pos_ok hc.1).2
 have s2 := A_Dec.it_size _ (A_Show.pos_ok hc.2).1 (A_Show.pos_ok hc.2).2
 have s4 := A_Show.room_get l i h
 have s5 : (shown (l.take i)).size <= room l := Nat.le_trans (A_Show.shown_size _ (fun c hc => ho c (List.mem_of_mem_take hc))) (A_Show.room_take l i)
 rw [show l3 Lib.big K (m + 1) = r3 Lib.big (l3 Lib.big K m) K from rfl]
 unfold r3
 have hl : l.length <= 1000000000 := by
  have : ∀ l : List Cl, l.length <= room l := by
   intro l
   induction l with
   | nil => exact Nat.le_refl _
   | cons c r ih => unfold room; simp only [List.length_cons]; omega
  exact Nat.le_trans (this l) hr
 rw [A_Show.take_succ l i h, show w64 ((i : Int) + 1) = ((i + 1 : Nat) : Int) from w64_ok (by omega) (by omega), rc_len]
 have q4 : ({ data := #[UInt8.ofNat 100, UInt8.ofNat 111, UInt8.ofNat 110, UInt8.ofNat 101] } : ByteArray).size = 4 := rfl
 have q5 : ({ data := #[UInt8.ofNat 119, UInt8.ofNat 97, UInt8.ofNat 105, UInt8.ofNat 116, UInt8.ofNat 115] } : ByteArray).size = 5 := rfl
 have q6 : ({ data := #[UInt8.ofNat 102, UInt8.ofNat 97, UInt8.ofNat 105, UInt8.ofNat 108, UInt8.ofNat 101, UInt8.ofNat 100] } : ByteArray).size = 6 := rfl
 simp only [Int.toNat_natCast, wc0 h, wc4 h, wc5 h, wc6 h, cvI, cvS, d1.1, d1.2, d2.1, d2.2, cond_true, decide_eq_true (show (i : Int) < (l.length : Int) by omega), decide_eq_true (show 0 <= (i : Int) by omega), Bool.and_self, Lib.size_app, show sp.size = 1 from rfl, show nlc.size = 1 from rfl, q4, q5, q6]
 have w1 : ∀ {n : Nat}, n <= 4000000000 -> decide (n <= 4611686018427387904) = true := fun h => decide_eq_true (by omega)
 unfold A_Show.ln A_Show.st U25.v
 by_cases e1 : (el l i).sta = 1
 ·have e2 : ¬ (el l i).sta = 2 := by omega
  simp only [decide_eq_true e1, decide_eq_false e2, cond_true, cond_false]
  repeat rw [w1 (by omega)]
  simp only [cond_true, ByteArray.append_assoc]
 ·simp only [decide_eq_false e1, cond_false]
  by_cases e2 : (el l i).sta = 2
  ·simp only [decide_eq_true e2, cond_true]
   repeat rw [w1 (by omega)]
   simp only [cond_true, ByteArray.append_assoc]
  ·simp only [decide_eq_false e2, cond_false]
   repeat rw [w1 (by omega)]
   simp only [cond_true, ByteArray.append_assoc]
theorem ok (i0 : Int) (q1 q2 q3 q4 : Row) (i5 : Int) (q6 : Row) (l : List Cl) (i8 : Int) (hr : room l <= 1000000000) (ho : ∀ c ∈ l, clOk c) : c i0 q1 q2 q3 q4 i5 q6 (rc l) i8 = true /\ v i0 q1 q2 q3 q4 i5 q6 (rc l) i8 = shown l := by
 refine out _ _ _ _ _ _ _ _ _ ?_
 unfold vo b
 have hl : l.length <= 1000000000 := by
  have : ∀ l : List Cl, l.length <= room l := by
   intro l
   induction l with
   | nil => exact Nat.le_refl _
   | cons c r ih => unfold room; simp only [List.length_cons]; omega
  exact Nat.le_trans (this l) hr
 have key := for_run l.length (fun m (i : Nat) (x : ByteArray) => l3 Lib.big (fun y11 (_ _ : Int) (_ _ _ _ : Row) (_ : Int) (_ _ : Row) (_ : Int) => some y11) m x (i : Int) i0 q1 q2 q3 q4 i5 q6 (rc l) i8) (fun i => shown (l.take i)) (some (shown l)) (fun m i h => step _ i0 q1 q2 q3 q4 i5 q6 i8 l hr ho m i h) (fun m => by
  rw [show l3 Lib.big (fun y11 (_ _ : Int) (_ _ _ _ : Row) (_ : Int) (_ _ : Row) (_ : Int) => some y11) (m + 1) = r3 Lib.big (l3 Lib.big (fun y11 (_ _ : Int) (_ _ _ _ : Row) (_ : Int) (_ _ : Row) (_ : Int) => some y11) m) (fun y11 (_ _ : Int) (_ _ _ _ : Row) (_ : Int) (_ _ : Row) (_ : Int) => some y11) from rfl]
  unfold U6.r3
  rw [rc_len, decide_eq_false (by omega), cond_false, List.take_length]) Lib.big 0 (Nat.zero_le _) (lt_big (by omega))
 exact key
end U6

namespace U8
open _root_.Go.FG.Lib (Cl rc el)
open A_Show (shown ln room clOk sp nlc)
theorem step (K : ByteArray -> Row -> Int -> Int -> Option R) (l : List Cl) (hr : room l <= 1000000000) (ho : ∀ c ∈ l, clOk c) (m i : Nat) (h : i < l.length) :
  l3 Lib.big K (m + 1) (shown (l.take i)) (rc l) (l.length : Int) (i : Int) = l3 Lib.big K m (shown (l.take (i + 1))) (rc l) (l.length : Int) ((i + 1 : Nat) : Int) := by
 have hc := ho _ (el_mem h)
 have d1 := A_Show.dec _ (A_Show.pos_ok hc.1)
 have d2 := A_Show.dec _ (A_Show.pos_ok hc.2)
 have s1 := A_Dec.it_size _ (A_Show.pos_ok hc.1).1 (A_Show.pos_ok hc.1).2
 have s2 := A_Dec.it_size _ (A_Show.pos_ok hc.2).1 (A_Show.pos_ok hc.2).2
 have s3 := A_Show.st_size (el l i).sta
 have s4 := A_Show.room_get l i h
 have s5 : (shown (l.take i)).size <= room l := Nat.le_trans (A_Show.shown_size _ (fun c hc => ho c (List.mem_of_mem_take hc))) (A_Show.room_take l i)
 rw [show l3 Lib.big K (m + 1) = r3 Lib.big (l3 Lib.big K m) K from rfl]
 unfold r3
 have hl : l.length <= 1000000000 := by
  have : ∀ l : List Cl, l.length <= room l := by
   intro l
   induction l with
   | nil => exact Nat.le_refl _
   | cons c r ih => unfold room; simp only [List.length_cons]; omega
  exact Nat.le_trans (this l) hr
 rw [A_Show.take_succ l i h, show w64 ((i : Int) + 1) = ((i + 1 : Nat) : Int) from w64_ok (by omega) (by omega), rc_len]
 unfold A_Show.ln
 simp only [Int.toNat_natCast, wc0 h, wc4 h, wc5 h, wc6 h, cvI, cvS, A_Show.ms, d1.1, d1.2, d2.1, d2.2, cond_true, decide_eq_true (show (i : Int) < (l.length : Int) by omega), decide_eq_true (show 0 <= (i : Int) by omega), Bool.and_self, Lib.size_app, show sp.size = 1 from rfl, show nlc.size = 1 from rfl, show U25.v (el l i).sta = A_Show.st (el l i).sta from rfl]
 rw [decide_eq_true (by omega), decide_eq_true (by omega), decide_eq_true (by omega), decide_eq_true (by omega), decide_eq_true (by omega), decide_eq_true (by omega), decide_eq_true (by omega), decide_eq_true (by omega)]
 rfl
theorem ok (i0 : Int) (q1 q2 q3 q4 : Row) (i5 : Int) (q6 : Row) (l : List Cl) (i8 : Int) (hr : room l <= 1000000000) (ho : ∀ c ∈ l, clOk c) : c i0 q1 q2 q3 q4 i5 q6 (rc l) i8 = true /\ v i0 q1 q2 q3 q4 i5 q6 (rc l) i8 = shown l := by
 refine out _ _ _ _ _ _ _ _ _ ?_
 unfold vo b
 rw [rc_len]
 have hl : l.length <= 1000000000 := by
  have : ∀ l : List Cl, l.length <= room l := by
   intro l
   induction l with
   | nil => exact Nat.le_refl _
   | cons c r ih => unfold room; simp only [List.length_cons]; omega
  exact Nat.le_trans (this l) hr
 have key := for_run l.length (fun m (i : Nat) (x : ByteArray) => l3 Lib.big (fun y4 (_ : Row) (_ _ : Int) => some y4) m x (rc l) (l.length : Int) (i : Int)) (fun i => shown (l.take i)) (some (shown l)) (fun m i h => step _ l hr ho m i h) (fun m => by
  rw [show l3 Lib.big (fun y4 (_ : Row) (_ _ : Int) => some y4) (m + 1) = r3 Lib.big (l3 Lib.big (fun y4 (_ : Row) (_ _ : Int) => some y4) m) (fun y4 (_ : Row) (_ _ : Int) => some y4) from rfl]
  unfold U8.r3
  rw [decide_eq_false (by omega), cond_false, List.take_length]) Lib.big 0 (Nat.zero_le _) (lt_big (by omega))
 exact key
end U8

namespace U26
theorem run (a : Row) (hl : a.length <= 9223372036854775807) : vo a a = some true := by
 unfold vo b
 rw [show ((a.length : Int) != (a.length : Int)) = false from bne_self_eq_false _, cond_false]
 have := Lib.loop_gen (fun n (i : Nat) => l4 Lib.big (fun (_ _ : Row) (y : Bool) (_ : Int) => some y) (fun (_ _ : Row) (_ : Bool) (_ : Int) => some true) n a a false (i : Int)) (fun i => a.length - i) (fun i => i <= a.length) (fun _ => some true) (fun n i hi => by
  by_cases h : i < a.length
  ·right
   refine ⟨i + 1, h, by omega, rfl, ?_⟩
   have hi1 : w64 ((i : Int) + 1) = ((i + 1 : Nat) : Int) := w64_ok (by omega) (by omega)
   have hel : ∀ (x0 : ByteArray) (x1 : Int) (x2 : Int) (x3 : ByteArray), U53.v x0 x1 x2 x3 x0 x1 x2 x3 = true := fun _ _ _ _ => by
    simp only [U53.v, bne_self_eq_false, beq_refl_ba, Bool.not_true, cond_false]
   simp only [l4, r4, Lib.dlt, h, decide_true, Lib.dle0, Bool.and_self, cond_true, Lib.toN, hi1, hel, Bool.not_true, cond_false]
  ·left
   simp only [l4, r4, Lib.dlt, h, decide_false, cond_false]) Lib.big 0 (Nat.zero_le _) (lt_big (by omega))
 exact this
theorem ok (a : Row) (hl : a.length <= 9223372036854775807) : c a a = true /\ v a a = true := out a a (run a hl)
end U26

namespace U54
theorem run (a : Row) (hl : a.length <= 9223372036854775807) : vo a a = some true := by
 unfold vo b
 rw [show ((a.length : Int) != (a.length : Int)) = false from bne_self_eq_false _, cond_false]
 have := Lib.loop_gen (fun n (i : Nat) => l4 Lib.big (fun (_ _ : Row) (y : Bool) (_ : Int) => some y) (fun (_ _ : Row) (_ : Bool) (_ : Int) => some true) n a a false (i : Int)) (fun i => a.length - i) (fun i => i <= a.length) (fun _ => some true) (fun n i hi => by
  by_cases h : i < a.length
  ·right
   refine ⟨i + 1, h, by omega, rfl, ?_⟩
   have hi1 : w64 ((i : Int) + 1) = ((i + 1 : Nat) : Int) := w64_ok (by omega) (by omega)
   simp only [l4, r4, Lib.dlt, h, decide_true, Lib.dle0, Bool.and_self, cond_true, Lib.toN, hi1, bne_self_eq_false, beq_refl_ba, Bool.not_true, cond_false]
  ·left
   simp only [l4, r4, Lib.dlt, h, decide_false, cond_false]) Lib.big 0 (Nat.zero_le _) (lt_big (by omega))
 exact this
theorem ok (a : Row) (hl : a.length <= 9223372036854775807) : c a a = true /\ v a a = true := out a a (run a hl)
end U54

namespace U71
theorem run (a : Row) (hl : a.length <= 9223372036854775807) : vo a a = some true := by
 unfold vo b
 rw [show ((a.length : Int) != (a.length : Int)) = false from bne_self_eq_false _, cond_false]
 have := Lib.loop_gen (fun n (i : Nat) => l4 Lib.big (fun (_ _ : Row) (y : Bool) (_ : Int) => some y) (fun (_ _ : Row) (_ : Bool) (_ : Int) => some true) n a a false (i : Int)) (fun i => a.length - i) (fun i => i <= a.length) (fun _ => some true) (fun n i hi => by
  by_cases h : i < a.length
  ·right
   refine ⟨i + 1, h, by omega, rfl, ?_⟩
   have hi1 : w64 ((i : Int) + 1) = ((i + 1 : Nat) : Int) := w64_ok (by omega) (by omega)
   simp only [l4, r4, Lib.dlt, h, decide_true, Lib.dle0, Bool.and_self, cond_true, Lib.toN, hi1, U66.refl, Bool.not_true, cond_false]
  ·left
   simp only [l4, r4, Lib.dlt, h, decide_false, cond_false]) Lib.big 0 (Nat.zero_le _) (lt_big (by omega))
 exact this
theorem ok (a : Row) (hl : a.length <= 9223372036854775807) : c a a = true /\ v a a = true := out a a (run a hl)
end U71

namespace U55
theorem ok (r : Row) (k : Int) (hl : r.length <= 9223372036854775807) : c r k r k = true /\ v r k r k = true := by
 have h := U71.ok r hl
 exact out r k r k (by unfold vo b; rw [h.1, h.2, bne_self_eq_false]; rfl)
end U55

namespace U27
theorem ok (r0 r1 r2 : Row) (k : Int) (h0 : r0.length <= 9223372036854775807) (h1 : r1.length <= 9223372036854775807) (h2 : r2.length <= 9223372036854775807) : c r0 r1 r2 k r0 r1 r2 k = true /\ v r0 r1 r2 k r0 r1 r2 k = true := by
 have a0 := U54.ok r0 h0
 have a1 := U54.ok r1 h1
 have a2 := U55.ok r2 k h2
 exact out r0 r1 r2 k r0 r1 r2 k (by unfold vo b; rw [a0.1, a0.2, a1.1, a1.2, a2.1, a2.2]; rfl)
end U27

namespace U28
theorem run (a : Row) (hl : a.length <= 9223372036854775807) : vo a a = some true := by
 unfold vo b
 rw [show ((a.length : Int) != (a.length : Int)) = false from bne_self_eq_false _, cond_false]
 have := Lib.loop_gen (fun n (i : Nat) => l4 Lib.big (fun (_ _ : Row) (y : Bool) (_ : Int) => some y) (fun (_ _ : Row) (_ : Bool) (_ : Int) => some true) n a a false (i : Int)) (fun i => a.length - i) (fun i => i <= a.length) (fun _ => some true) (fun n i hi => by
  by_cases h : i < a.length
  ·right
   refine ⟨i + 1, h, by omega, rfl, ?_⟩
   have hi1 : w64 ((i : Int) + 1) = ((i + 1 : Nat) : Int) := w64_ok (by omega) (by omega)
   have hel : ∀ (x0 : ByteArray) (x1 : ByteArray) (x2 : Int) (x3 : Int) (x4 : Int), U56.v x0 x1 x2 x3 x4 x0 x1 x2 x3 x4 = true := fun _ _ _ _ _ => by
    simp only [U56.v, bne_self_eq_false, beq_refl_ba, Bool.not_true, cond_false]
   simp only [l4, r4, Lib.dlt, h, decide_true, Lib.dle0, Bool.and_self, cond_true, Lib.toN, hi1, hel, Bool.not_true, cond_false]
  ·left
   simp only [l4, r4, Lib.dlt, h, decide_false, cond_false]) Lib.big 0 (Nat.zero_le _) (lt_big (by omega))
 exact this
theorem ok (a : Row) (hl : a.length <= 9223372036854775807) : c a a = true /\ v a a = true := out a a (run a hl)
end U28

namespace U29
theorem run (a : Row) (hl : a.length <= 9223372036854775807) : vo a a = some true := by
 unfold vo b
 rw [show ((a.length : Int) != (a.length : Int)) = false from bne_self_eq_false _, cond_false]
 have := Lib.loop_gen (fun n (i : Nat) => l4 Lib.big (fun (_ _ : Row) (y : Bool) (_ : Int) => some y) (fun (_ _ : Row) (_ : Bool) (_ : Int) => some true) n a a false (i : Int)) (fun i => a.length - i) (fun i => i <= a.length) (fun _ => some true) (fun n i hi => by
  by_cases h : i < a.length
  ·right
   refine ⟨i + 1, h, by omega, rfl, ?_⟩
   have hi1 : w64 ((i : Int) + 1) = ((i + 1 : Nat) : Int) := w64_ok (by omega) (by omega)
   have hel : ∀ (x0 : Int) (x1 : ByteArray) (x2 : Int) (x3 : Int) (x4 : Int) (x5 : ByteArray) (x6 : Int), U57.v x0 x1 x2 x3 x4 x5 x6 x0 x1 x2 x3 x4 x5 x6 = true := fun _ _ _ _ _ _ _ => by
    simp only [U57.v, bne_self_eq_false, beq_refl_ba, Bool.not_true, cond_false]
   simp only [l4, r4, Lib.dlt, h, decide_true, Lib.dle0, Bool.and_self, cond_true, Lib.toN, hi1, hel, Bool.not_true, cond_false]
  ·left
   simp only [l4, r4, Lib.dlt, h, decide_false, cond_false]) Lib.big 0 (Nat.zero_le _) (lt_big (by omega))
 exact this
theorem ok (a : Row) (hl : a.length <= 9223372036854775807) : c a a = true /\ v a a = true := out a a (run a hl)
end U29

namespace U9
theorem ok (i0 : Int) (r1 r2 r3 r4 : Row) (i5 : Int) (r6 r7 : Row) (i8 : Int) (h1 : r1.length <= 9223372036854775807) (h2 : r2.length <= 9223372036854775807) (h3 : r3.length <= 9223372036854775807) (h4 : r4.length <= 9223372036854775807) (h6 : r6.length <= 9223372036854775807) (h7 : r7.length <= 9223372036854775807) :
  c i0 r1 r2 r3 r4 i5 r6 r7 i8 i0 r1 r2 r3 r4 i5 r6 r7 i8 = true /\ v i0 r1 r2 r3 r4 i5 r6 r7 i8 i0 r1 r2 r3 r4 i5 r6 r7 i8 = true := by
 have a1 := U26.ok r1 h1
 have a2 := U27.ok r2 r3 r4 i5 h2 h3 h4
 have a3 := U28.ok r6 h6
 have a4 := U29.ok r7 h7
 exact out _ _ _ _ _ _ _ _ _ _ _ _ _ _ _ _ _ _ (by unfold vo b; rw [a1.1, a1.2, a2.1, a2.2, a3.1, a3.2, a4.1, a4.2, bne_self_eq_false, bne_self_eq_false]; rfl)
end U9

namespace A_Lt
theorem lt_eq {α β : Type} (x : α) (f : α -> β) : Lib.lt x f = f x := by
 have h : ∀ y, y = Lib.lt x f -> y = f x := fun y hy => hy.trans (Eq.refl _)
 exact h _ (Eq.refl _)
end A_Lt

namespace U3
open _root_.Go.FG.Lib (rr rs re rf rc Px Cl)
open A_Show (okI clOk room)
open U7 (eo fo co)
def IR (r : Row) : Prop := ∀ i, okI (cvI (cellAt r i 0)) /\ okI (cvI (cellAt r i 6))
theorem room_eq : ∀ r : Row, room (r.map co) = A_SzC.rm r + 60 * r.length
 | [] => rfl
 | y :: r => by
  show (co y).got.size + 60 + room (r.map co) = (cvS (y.getD 5 (.b false))).size + A_SzC.rm r + 60 * (r.length + 1)
  rw [room_eq r]
  show (cvS (y.getD 5 (.b false))).size + 60 + _ = _
  omega
theorem cl_ok {r : Row} (h : IR r) : ∀ c ∈ r.map co, clOk c := by
 intro c hc
 obtain ⟨y, hy, rfl⟩ := List.mem_map.1 hc
 obtain ⟨i, hi, rfl⟩ := List.getElem_of_mem hy
 have e := h i
 unfold cellAt at e
 rw [show r.getD i [] = r[i] by simp [List.getD, hi]] at e
 exact e
theorem abs (i0 : Int) (r1 r2 r3 r4 : Row) (i5 : Int) (r6 r7 : Row) (i8 : Int) (h : r1.length <= 1048576 /\ (r2.length <= 1048576 /\ r3.length <= 1048576 /\ r4.length <= 1048576 /\ U67.inn r4) /\ r6.length <= 1048576 /\ r7.length <= 1048576) :
  ∃ p : Lib.Px, p.Fit 1048576 /\ p.cl = r7.map co /\ U7.c i0 r1 r2 r3 r4 i5 r6 r7 i8 = true /\ U7.v i0 r1 r2 r3 r4 i5 r6 r7 i8 = (p.now, Lib.re p.en, Lib.rs p.w, Lib.rs p.m, Lib.rr p.s, p.a, Lib.rf p.fe, Lib.rc p.cl, p.hits) := by
 obtain ⟨h1, ⟨h2, h3, h4, hin⟩, h6, h7⟩ := h
 have t := U7.ok i0 r1 r2 r3 r4 i5 r6 r7 i8 h1 h2 h3 h4 hin h6 h7
 rw [U7.tl_re, U21.tl_rs, U21.tl_rs, U21.tl_rr, U7.tl_rf, U7.tl_rc] at t
 refine ⟨⟨i0, r1.map eo, U21.bs r2, U21.bs r3, U21.is r4, i5, r6.map fo, r7.map co, i8⟩, ⟨by simpa using h1, by dsimp only; rw [U21.bs_len]; exact h2, by dsimp only; rw [U21.bs_len]; exact h3, U21.is_fit h4 hin, by simpa using h6, by simpa using h7⟩, rfl, t⟩
theorem rmB (i0 : Int) (r1 r2 r3 r4 : Row) (i5 : Int) (r6 r7 : Row) (i8 : Int) (f1 : FitR r1) (f2 : FitR r2) (f3 : FitR r3) (f4 : FitR r4) (f6 : FitR r6) (f7 : FitR r7) (h : 0 <= U5.v i0 r1 r2 r3 r4 i5 r6 r7 i8 1048576) : A_SzC.rm r7 <= 1048576 := by
 have a1 := U15.ok r1 1048576 (by omega) (by omega) f1
 by_cases hA : U15.v r1 1048576 < 0
 ·obtain ⟨q1, q2⟩ := U5.out i0 r1 r2 r3 r4 i5 r6 r7 i8 1048576 (x := -1) (by unfold U5.vo U5.b; rw [a1.1, cond_true, decide_eq_true hA, cond_true])
  rw [q2] at h; omega
 have a2 := U16.ok r2 r3 r4 i5 (U15.v r1 1048576) (by omega) a1.2.1 f2 f3 f4
 by_cases hB : U16.v r2 r3 r4 i5 (U15.v r1 1048576) < 0
 ·obtain ⟨q1, q2⟩ := U5.out i0 r1 r2 r3 r4 i5 r6 r7 i8 1048576 (x := -1) (by unfold U5.vo U5.b; rw [a1.1, cond_true, decide_eq_false hA, cond_false, a2.1, cond_true, decide_eq_true hB, cond_true])
  rw [q2] at h; omega
 have a3 := U17.ok r6 (U16.v r2 r3 r4 i5 (U15.v r1 1048576)) (by omega) a2.2.1 f6
 by_cases hC : U17.v r6 (U16.v r2 r3 r4 i5 (U15.v r1 1048576)) < 0
 ·obtain ⟨q1, q2⟩ := U5.out i0 r1 r2 r3 r4 i5 r6 r7 i8 1048576 (x := -1) (by unfold U5.vo U5.b; rw [a1.1, cond_true, decide_eq_false hA, cond_false, a2.1, cond_true, decide_eq_false hB, cond_false, a3.1, cond_true, decide_eq_true hC, cond_true])
  rw [q2] at h; omega
 have a4 := U18.ok r7 (U17.v r6 (U16.v r2 r3 r4 i5 (U15.v r1 1048576))) (by omega) a3.2.1 f7
 by_cases hD : U18.v r7 (U17.v r6 (U16.v r2 r3 r4 i5 (U15.v r1 1048576))) < 0
 ·obtain ⟨q1, q2⟩ := U5.out i0 r1 r2 r3 r4 i5 r6 r7 i8 1048576 (x := -1) (by unfold U5.vo U5.b; rw [a1.1, cond_true, decide_eq_false hA, cond_false, a2.1, cond_true, decide_eq_false hB, cond_false, a3.1, cond_true, decide_eq_false hC, cond_false, a4.1, cond_true, decide_eq_true hD, cond_true])
  rw [q2] at h; omega
 exact A_SzC.ok r7 _ (by omega) a3.2.1 f7 (by omega)
theorem run (i0 : Int) (r1 r2 r3 r4 : Row) (i5 : Int) (r6 r7 : Row) (i8 : Int) (f1 : FitR r1) (f2 : FitR r2) (f3 : FitR r3) (f4 : FitR r4) (f6 : FitR r6) (f7 : FitR r7) (hI : IR r7) : vo i0 r1 r2 r3 r4 i5 r6 r7 i8 = some true := by
 unfold vo b
 obtain ⟨z1, z2, z3⟩ := U5.ok i0 r1 r2 r3 r4 i5 r6 r7 i8 1048576 (by omega) (by omega) f1 f2 f3 f4 f6 f7
 rw [z1, cond_true]
 show (bif (decide (U5.v i0 r1 r2 r3 r4 i5 r6 r7 i8 1048576 < 0)) then _ else _) = _
 by_cases h : U5.v i0 r1 r2 r3 r4 i5 r6 r7 i8 1048576 < 0
 ·rw [decide_eq_true h]; rfl
 ·rw [decide_eq_false h, cond_false]
  have hl := z3 (by omega)
  obtain ⟨p, hp, hc, t1, t2⟩ := abs i0 r1 r2 r3 r4 i5 r6 r7 i8 hl
  have hrm := rmB i0 r1 r2 r3 r4 i5 r6 r7 i8 f1 f2 f3 f4 f6 f7 (by omega)
  have hroom : room p.cl <= 1000000000 := by rw [hc, room_eq]; have := hl.2.2.2; omega
  have hok : ∀ c ∈ p.cl, clOk c := by rw [hc]; exact cl_ok hI
  have S := U6.ok p.now (re p.en) (rs p.w) (rs p.m) (rr p.s) p.a (rf p.fe) p.cl p.hits hroom hok
  have I := U8.ok p.now (re p.en) (rs p.w) (rs p.m) (rr p.s) p.a (rf p.fe) p.cl p.hits hroom hok
  have a3 := U9.ok p.now (re p.en) (rs p.w) (rs p.m) (rr p.s) p.a (rf p.fe) (rc p.cl) p.hits (by rw [re_len]; have := hp.en; omega) (by rw [rs_len]; have := hp.w; omega) (by rw [rs_len]; have := hp.m; omega) (by rw [rr_len]; have := hp.s.1; omega) (by rw [rf_len]; have := hp.fe; omega) (by rw [rc_len]; have := hp.cl; omega)
  have bq : ∀ x : ByteArray, (!List.beq (ByteArray.toList x) (ByteArray.toList x)) = false := fun x => by rw [beq_refl_ba]; rfl
  rw [t1, cond_true, A_Lt.lt_eq, t2]
  dsimp only
  rw [S.1, cond_true, A_Lt.lt_eq, S.2, cond_true, I.1, cond_true, A_Lt.lt_eq, I.2, bq, cond_false, cond_true, a3.1, cond_true, A_Lt.lt_eq, a3.2]; rfl
theorem law (i0 : Int) (r1 r2 r3 r4 : Row) (i5 : Int) (r6 r7 : Row) (i8 : Int) {A B C : Prop} (_ : A) (f1 : FitR r1) (f2 : FitR r2) (f3 : FitR r3) (f4 : FitR r4) (_ : B) (f6 : FitR r6) (f7 : FitR r7 /\ IR r7) (_ : C) : v i0 r1 r2 r3 r4 i5 r6 r7 i8 = true := (out _ _ _ _ _ _ _ _ _ (run i0 r1 r2 r3 r4 i5 r6 r7 i8 f1 f2 f3 f4 f6 f7.1 f7.2)).2
theorem lawc (i0 : Int) (r1 r2 r3 r4 : Row) (i5 : Int) (r6 r7 : Row) (i8 : Int) {A B C : Prop} (_ : A) (f1 : FitR r1) (f2 : FitR r2) (f3 : FitR r3) (f4 : FitR r4) (_ : B) (f6 : FitR r6) (f7 : FitR r7 /\ IR r7) (_ : C) : c i0 r1 r2 r3 r4 i5 r6 r7 i8 = true := (out _ _ _ _ _ _ _ _ _ (run i0 r1 r2 r3 r4 i5 r6 r7 i8 f1 f2 f3 f4 f6 f7.1 f7.2)).1
end U3

end Go.FG
