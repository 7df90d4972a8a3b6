/- What the functions come to, in plain numbers, texts and lists; last the law itself. No condition but those that each states. -/
import Derived.Test.YtpcfgiocpohbmaaDoorPExactReadScript
set_option linter.unusedVariables false
set_option linter.unusedSimpArgs false
set_option maxRecDepth 100000
namespace Go.FG
open _root_.Go.FG.Lib (beq_refl_ba cellAt_mid cellAt_rm for_run len_mid loop_post lt_big range_map_succ ri setC_mid w64_ok)
variable {R : Type}
namespace A_Wo
structure Ev where
 k : Int
 id : Int
 t : ByteArray
 n : Int
 l : Row
def evOk (e : Ev) : Bool := decide (1 <= e.k /\ e.k <= 7) && (decide (0 <= e.id /\ e.id <= 30) && (decide (e.t.size <= 60) && (decide (0 <= e.n) && decide (e.l.length <= 4))))
end A_Wo

namespace A_Ev
open _root_.Go.FG.Lib (rr rs re rf rc rd Px En el)
open A_Wo (Ev evOk)
instance : Inhabited Ev := ⟨⟨0, 0, ⟨#[]⟩, 0, []⟩⟩
def Evr (e : Ev) : List CV := [CV.i IntKind.i64 e.k, CV.i IntKind.i64 e.id, CV.s e.t, CV.i IntKind.i64 e.n, CV.l 3 e.l]
def rv (l : List Ev) : Row := l.map Evr
theorem rv_len (l) : (rv l).length = l.length := by unfold rv; simp
theorem in_dec (n a b : Int) : U59.v n a b = decide (a <= n /\ n <= b) := by
 unfold U59.v
 by_cases h1 : a <= n
 ·rw [decide_eq_true (show n ≥ a from h1), cond_true]
  by_cases h2 : n <= b <;> simp [h1, h2]
 ·rw [decide_eq_false (show ¬ n ≥ a from h1), cond_false]; simp [h1]
theorem ok_impl (e : Ev) : U65.v e.k e.id e.t e.n e.l = evOk e := by
 unfold U65.v evOk
 rw [show U61.v e.k 1 7 = decide (1 <= e.k /\ e.k <= 7) from in_dec _ _ _, show U61.v e.id 0 30 = decide (0 <= e.id /\ e.id <= 30) from in_dec _ _ _, show decide (((e.t.size : Nat) : Int) <= 60) = decide (e.t.size <= 60) from by rw [decide_eq_decide]; omega, show decide (e.n ≥ 0) = decide (0 <= e.n) from rfl, show decide (((e.l.length : Nat) : Int) <= 4) = decide (e.l.length <= 4) from by rw [decide_eq_decide]; omega]
 cases decide (1 <= e.k /\ e.k <= 7) <;> cases decide (0 <= e.id /\ e.id <= 30) <;> cases decide (e.t.size <= 60) <;> cases decide (0 <= e.n) <;> rfl
theorem ok_spec (e : Ev) : U33.v e.k e.id e.t e.n e.l = evOk e := ok_impl e
end A_Ev

namespace A_Sp
open _root_.Go.FG.Lib (rs)
def sp (c : UInt8) : List UInt8 -> List UInt8 -> List (List UInt8)
 | cur, [] => [cur]
 | cur, b :: r => if b = c then cur :: sp c [] r else sp c (cur ++ [b]) r
theorem sp_no {c : UInt8} : ∀ (l cur : List UInt8), c ∉ l -> sp c cur l = [cur ++ l]
 | [], cur, _ => by simp [sp]
 | b :: r, cur, h => by
  have h1 : b ≠ c := fun e => h (e ▸ List.mem_cons_self)
  have h2 : c ∉ r := fun e => h (List.mem_cons_of_mem _ e)
  rw [sp, if_neg h1, sp_no r _ h2]; simp
theorem sp_hit {c : UInt8} : ∀ (a cur r : List UInt8), c ∉ a -> sp c cur (a ++ c :: r) = (cur ++ a) :: sp c [] r
 | [], cur, r, _ => by simp [sp]
 | b :: a, cur, r, h => by
  have h1 : b ≠ c := fun e => h (e ▸ List.mem_cons_self)
  have h2 : c ∉ a := fun e => h (List.mem_cons_of_mem _ e)
  rw [List.cons_append, sp, if_neg h1, sp_hit a _ r h2]; simp
theorem pre1 (c b : UInt8) (l : List UInt8) : [c].isPrefixOf (b :: l) = (c == b) := by
 simp [List.isPrefixOf]
theorem ix (c : UInt8) : ∀ l : List UInt8, (_root_.Go.Lib.index l [c] = -1 /\ c ∉ l) \/ ∃ i : Nat, _root_.Go.Lib.index l [c] = i /\ i < l.length /\ l = l.take i ++ c :: l.drop (i + 1) /\ c ∉ l.take i
 | [] => .inl ⟨rfl, by simp⟩
 | b :: l => by
  unfold _root_.Go.Lib.index
  rw [pre1]
  by_cases hb : c = b
  ·subst hb
   right
   exact ⟨0, by simp, by simp, by simp, by simp⟩
  ·have : (c == b) = false := by simp [hb]
   rw [this]
   rcases ix c l with ⟨h1, h2⟩ | ⟨i, h1, h2, h3, h4⟩
   ·left
    rw [h1]
    exact ⟨rfl, by simp [hb, h2]⟩
   ·right
    have e : (_root_.Go.Lib.index l [c] == -1) = false := by rw [h1]; simp
    refine ⟨i + 1, by rw [e]; simp [h1], by simp [h2], ?_, by simp [hb, h4]⟩
    rw [List.take_succ_cons, List.drop_succ_cons, List.cons_append, <- h3]
theorem split_sp (c : UInt8) : ∀ (k : Nat) (l : List UInt8), _root_.Go.Lib.count l [c] = k -> _root_.Go.Lib.splitK [c] 0 k l = sp c [] l
 | 0, l, hk => by
  rcases ix c l with ⟨h1, h2⟩ | ⟨i, h1, _⟩
  ·rw [sp_no l [] h2]; rfl
  ·have := _root_.Go.Lib.count_hit (s := l) (sub := [c]) (i := i) (by simp) h1
   omega
 | k + 1, l, hk => by
  rcases ix c l with ⟨h1, h2⟩ | ⟨i, h1, h2, h3, h4⟩
  ·rw [_root_.Go.Lib.count_miss h1] at hk; omega
  ·have hc := _root_.Go.Lib.count_hit (s := l) (sub := [c]) (i := i) (by simp) h1
   have e : (_root_.Go.Lib.index l [c] == -1) = false := by rw [h1]; simp
   rw [_root_.Go.Lib.splitK, e, h1]
   have ih := split_sp c k (l.drop (i + 1)) (by rw [show ([c] : List UInt8).length = 1 from rfl] at hc; omega)
   have hs := sp_hit (l.take i) [] (l.drop (i + 1)) h4
   rw [<- h3] at hs
   rw [hs]
   simp only [Bool.false_eq_true, if_false, Int.toNat_natCast, Nat.add_zero, List.nil_append, show ([c] : List UInt8).length = 1 from rfl, ih]
def mk (l : List UInt8) : ByteArray := ⟨l.toArray⟩
theorem mk_size (l : List UInt8) : (mk l).size = l.length := rfl
def pcs (c : UInt8) (s : ByteArray) : List ByteArray := (sp c [] s.data.toList).map mk
theorem cuts (c : UInt8) (s : ByteArray) : _root_.Go.Lib.splitB ⟨#[c]⟩ 0 (_root_.Go.Lib.countB s ⟨#[c]⟩) s = pcs c s := by
 have h := _root_.Go.Lib.splitB_data ⟨#[c]⟩ 0 (_root_.Go.Lib.countB s ⟨#[c]⟩) s
 have e : _root_.Go.Lib.countB s ⟨#[c]⟩ = _root_.Go.Lib.count s.data.toList [c] := rfl
 unfold pcs
 rw [<- split_sp c _ s.data.toList rfl, <- e]
 rw [show ([c] : List UInt8) = (⟨#[c]⟩ : ByteArray).data.toList from rfl, <- h, List.map_map]
 exact (List.map_id _).symm
theorem split_v (c : UInt8) (s : ByteArray) : U34.v s ⟨#[c]⟩ = rs (pcs c s) := by
 unfold U34.v
 rw [cuts]; rfl
theorem split_c (c : UInt8) (s : ByteArray) (h : s.size <= 4000000000) : U34.c s ⟨#[c]⟩ = true := by
 unfold U34.c
 rw [Bool.and_eq_true, Nat.ble_eq]
 exact ⟨h, rfl⟩
theorem ext_data (s : ByteArray) (b i : Nat) : s.extract b i = mk ((s.data.toList.drop b).take (i - b)) := by
 apply ByteArray.ext
 unfold mk
 apply Array.ext'
 simp [List.extract_eq_take_drop]
theorem sz (s : ByteArray) : s.data.toList.length = s.size := rfl
theorem cur_succ {l : List UInt8} {b i : Nat} (hb : b <= i) (hi : i < l.length) : (l.drop b).take (i + 1 - b) = (l.drop b).take (i - b) ++ [l[i]] := by
 rw [show i + 1 - b = (i - b) + 1 by omega, List.take_succ_eq_append_getElem (by simp; omega)]
 simp [show b + (i - b) = i by omega]
theorem bt {s : ByteArray} {i : Nat} (h : i < s.size) : btN s i = (s.data.toList[i]'(by rw [sz]; exact h)).toNat := by
 unfold btN
 rw [Array.getD_eq_getD_getElem?, Array.getElem?_eq_getElem (show i < s.data.size from h)]; rfl
end A_Sp

namespace A_Wp
open _root_.Go.FG.Lib (rs)
open A_Sp (sp mk pcs bt sz ext_data cur_succ mk_size)
def ne (x : ByteArray) : Bool := x.size != 0
def vis (c : UInt8) : Bool := decide (32 <= c.toNat) && decide (c.toNat <= 126)
def F (cur r : List UInt8) : List ByteArray := ((sp 32 cur r).map mk).filter ne
def W (s : ByteArray) : List ByteArray := (pcs 32 s).filter ne
theorem W_eq (s : ByteArray) : W s = F [] s.data.toList := rfl
def parts (s : ByteArray) : List ByteArray × Bool :=
 bif decide (s.size <= 600) && s.data.toList.all vis && decide ((W s).length <= 10) then (W s, true) else ([], false)
theorem F_nil (cur : List UInt8) : F cur [] = if cur = [] then [] else [mk cur] := by
 unfold F sp ne
 cases cur with
 | nil => rfl
 | cons a r => simp [mk_size]
theorem F_cut (cur r : List UInt8) : F cur (32 :: r) = (if cur = [] then [] else [mk cur]) ++ F [] r := by
 have e : F cur (32 :: r) = (([cur] ++ sp 32 [] r).map mk).filter ne := by
  unfold F; rw [show sp 32 cur (32 :: r) = [cur] ++ sp 32 [] r from by rw [sp, if_pos rfl]; rfl]
 rw [e, List.map_append, List.filter_append, <- F_nil]
 rfl
theorem F_on {c : UInt8} (h : c ≠ 32) (cur r : List UInt8) : F cur (c :: r) = F (cur ++ [c]) r := by
 unfold F
 rw [sp, if_neg h]
theorem sp_len (c : UInt8) : ∀ (r cur : List UInt8), (sp c cur r).length <= r.length + 1
 | [], _ => by simp [sp]
 | b :: r, cur => by
  rw [sp]
  split
  ·have := sp_len c r []
   simp; omega
  ·have := sp_len c r (cur ++ [b])
   simp; omega
theorem pcs_len (c : UInt8) (s : ByteArray) : (pcs c s).length <= s.size + 1 := by
 unfold A_Sp.pcs
 rw [List.length_map]
 exact sp_len c _ _
theorem sp_size (c : UInt8) : ∀ (r cur : List UInt8), ∀ x ∈ sp c cur r, x.length <= cur.length + r.length
 | [], cur, x, h => by
  simp [sp] at h; subst h; simp
 | b :: r, cur, x, h => by
  rw [sp] at h
  split at h
  ·rcases List.mem_cons.1 h with rfl | h
   ·simp
   ·have := sp_size c r [] x h
    simp at this ⊢; omega
  ·have := sp_size c r (cur ++ [b]) x h
   simp at this ⊢; omega
theorem pcs_size (c : UInt8) (s : ByteArray) : ∀ x ∈ pcs c s, x.size <= s.size := by
 intro x h
 unfold A_Sp.pcs at h
 obtain ⟨l, hl, rfl⟩ := List.mem_map.1 h
 have := sp_size c _ _ l hl
 simp at this
 exact this
theorem W_size (s : ByteArray) : ∀ x ∈ W s, 0 < x.size /\ x.size <= s.size := by
 intro x h
 obtain ⟨h1, h2⟩ := List.mem_filter.1 h
 have : x.size ≠ 0 := by simpa [ne] using h2
 exact ⟨by omega, pcs_size 32 s x h1⟩
theorem within (a b c : Int) : U61.v a b c = (decide (b <= a) && decide (a <= c)) := by
 unfold U61.v
 cases h : decide (a ≥ b) <;> rfl
theorem bad {s : ByteArray} {c : UInt8} (h : c ∈ s.data.toList) (hc : vis c = false) : parts s = ([], false) := by
 unfold parts
 have : s.data.toList.all vis = false := by
  rw [List.all_eq_false]
  exact ⟨c, h, by rw [hc]; simp⟩
 rw [this]; simp
theorem all_snoc {l : List UInt8} {i : Nat} (h : i < l.length) (ha : (l.take i).all vis = true) (hv : vis l[i] = true) : (l.take (i + 1)).all vis = true := by
 rw [List.take_succ_eq_append_getElem h, List.all_append, ha, List.all_cons, hv]; rfl
end A_Wp

namespace U46
end U46

namespace A_Dec
open U46 (l5 r5 c v vo b out)
abbrev dd : Nat -> List UInt8 := _root_.Go.Lib.decDigits
def D (n : Nat) : ByteArray := ⟨(dd n).toArray⟩
def it (n : Int) : ByteArray := ⟨(_root_.Go.Lib.itoa n).toArray⟩
theorem dd1 {u : Nat} (h : u < 10) : dd u = [UInt8.ofNat (48 + u)] := _root_.Go.Lib.decDigits_one h
theorem dd2 {u : Nat} (h : ¬ u < 10) : dd u = dd (u / 10) ++ [UInt8.ofNat (48 + u % 10)] := by
 show _root_.Go.Lib.decDigits u = _
 rw [_root_.Go.Lib.decDigits, dif_neg h]
def fg (x : Nat) : ByteArray := ⟨#[UInt8.ofNat (48 + x)]⟩
theorem fig {x : Nat} (h : x < 10) : bytesOf (List.set (zeros [Ck.i IntKind.u8] 1) 0 [CV.i IntKind.u8 (U68.v (x : Int))]) = fg x := by
 have key : ∀ y : Fin 10, bytesOf (List.set (zeros [Ck.i IntKind.u8] 1) 0 [CV.i IntKind.u8 (U68.v ((y.val : Nat) : Int))]) = fg y.val := by decide +kernel
 exact key ⟨x, h⟩
theorem D1 {u : Nat} (h : u < 10) : D u = fg u := by unfold D fg; rw [dd1 h]
theorem D2 {u : Nat} (h : ¬ u < 10) : D u = D (u / 10) ++ fg (u % 10) := by
 unfold D fg
 rw [dd2 h]
 apply ByteArray.ext
 simp
theorem fg_size (x : Nat) : (fg x).size = 1 := rfl
theorem stp (K : Int -> Bool -> ByteArray -> Option R) (bl : Bool) (m : Nat) (n : Int) (t : ByteArray) (h0 : n ≠ 0) (h1 : -9223372036854775808 <= n) (h2 : n <= 9223372036854775807) (ht : t.size <= 1000) :
  l5 Lib.big K (m + 1) n bl t = l5 Lib.big K m (Int.tdiv n 10) bl (fg (n.natAbs % 10) ++ t) := by
 have a1 : (n != 0) = true := by simp [h0]
 have hd : -9223372036854775808 <= Int.tdiv n 10 /\ Int.tdiv n 10 <= 9223372036854775807 := by
  rcases Int.le_total 0 n with hn | hn
  ·rw [Int.tdiv_eq_ediv_of_nonneg hn]; omega
  ·have : Int.tdiv n 10 = -((-n) / 10) := by
    rw [<- Int.tdiv_eq_ediv_of_nonneg (show 0 <= -n by omega), Int.neg_tdiv]; omega
   rw [this]; omega
 rw [show l5 Lib.big K (m + 1) n bl t = r5 Lib.big (l5 Lib.big K m) K n bl t from rfl]
 unfold r5
 rw [a1, cond_true, w64_ok hd.1 hd.2]
 have hm : n.natAbs % 10 < 10 := Nat.mod_lt _ (by omega)
 by_cases hneg : Int.tmod n 10 < 0
 ·have e : w64 (0 - Int.tmod n 10) = ((n.natAbs % 10 : Nat) : Int) := by
   have hn : n < 0 := by
    rcases Int.lt_or_le n 0 with h | h
    ·exact h
    ·have := Int.tmod_nonneg (a := n) 10 h; omega
   have : Int.tmod n 10 = -((-n) % 10) := by
    rw [<- Int.tmod_eq_emod_of_nonneg (show 0 <= -n by omega), Int.neg_tmod]; omega
   rw [this, w64_ok (by omega) (by omega)]; omega
  rw [decide_eq_true hneg, cond_true, e, fig hm, fg_size, decide_eq_true (by omega), cond_true]
 ·have e : Int.tmod n 10 = ((n.natAbs % 10 : Nat) : Int) := by
   rcases Int.le_total 0 n with hn | hn
   ·rw [Int.tmod_eq_emod_of_nonneg hn]; omega
   ·have : Int.tmod n 10 = -((-n) % 10) := by
     rw [<- Int.tmod_eq_emod_of_nonneg (show 0 <= -n by omega), Int.neg_tmod]; omega
    omega
  rw [decide_eq_false hneg, cond_false, e, fig hm, fg_size, decide_eq_true (by omega), cond_true]
theorem abs_div (n : Int) : (Int.tdiv n 10).natAbs = n.natAbs / 10 := by
 rcases Int.le_total 0 n with hn | hn
 ·rw [Int.tdiv_eq_ediv_of_nonneg hn]; omega
 ·have : Int.tdiv n 10 = -((-n) / 10) := by
   rw [<- Int.tdiv_eq_ediv_of_nonneg (show 0 <= -n by omega), Int.neg_tdiv]; omega
  rw [this]; omega
theorem run (K : Int -> Bool -> ByteArray -> Option R) (bl : Bool) : ∀ (d : Nat) (n : Int) (t : ByteArray) (m : Nat), n.natAbs < 10 ^ d -> n ≠ 0 -> -9223372036854775808 <= n -> n <= 9223372036854775807 -> t.size + d <= 1000 -> d < m -> l5 Lib.big K m n bl t = K 0 bl (D n.natAbs ++ t) := by
 intro d
 induction d with
 | zero => intro n t m h1 h2; omega
 | succ d ih =>
  intro n t m h1 h2 h3 h4 h5 h6
  obtain ⟨m, rfl⟩ : ∃ k, m = k + 1 := ⟨m - 1, by omega⟩
  rw [stp K bl m n t h2 h3 h4 (by omega)]
  have ha := abs_div n
  by_cases hs : n.natAbs < 10
  ·have hz : Int.tdiv n 10 = 0 := by omega
   obtain ⟨m, rfl⟩ : ∃ k, m = k + 1 := ⟨m - 1, by omega⟩
   rw [hz, D1 hs, Nat.mod_eq_of_lt hs]
   rfl
  ·rw [ih (Int.tdiv n 10) _ m (by rw [ha]; rw [Nat.pow_succ] at h1; omega) (by omega) (by omega) (by omega) (by rw [Lib.size_app, fg_size]; omega) (by omega), ha, D2 hs]
   rw [ByteArray.append_assoc]
theorem eq (n : Int) (h0 : -9223372036854775808 <= n) (h1 : n <= 9223372036854775807) : c n = true /\ v n = it n := by
 refine out _ ?_
 unfold vo b it
 by_cases hz : n = 0
 ·subst hz
  rw [decide_eq_true rfl, cond_true]
  unfold _root_.Go.Lib.itoa
  rw [if_neg (by omega), show Int.toNat 0 = 0 from rfl, _root_.Go.Lib.decDigits_one (show 0 < 10 by omega)]
 ·rw [decide_eq_false hz, cond_false, run _ _ 19 n _ _ (by omega) hz h0 h1 (by decide) (lt_big (by omega))]
  have e0 : ∀ x : ByteArray, x ++ (⟨#[]⟩ : ByteArray) = x := fun x => by apply ByteArray.ext; simp
  rw [e0]
  by_cases hn : n < 0
  ·have hl : (D n.natAbs).size <= 21 := by
    have := _root_.Go.Lib.itoa_length_le n h0 h1
    unfold _root_.Go.Lib.itoa at this
    rw [if_pos hn, List.length_cons] at this
    show (dd n.natAbs).toArray.size <= 21
    rw [List.size_toArray]; exact Nat.le_trans (Nat.le_succ _) this
   rw [decide_eq_true hn, cond_true, show ({ data := #[UInt8.ofNat 45] } : ByteArray).size = 1 from rfl, decide_eq_true (by omega), cond_true]
   unfold _root_.Go.Lib.itoa
   rw [if_pos hn]
   unfold D
   congr 1
  ·rw [decide_eq_false hn, cond_false]
   unfold _root_.Go.Lib.itoa D
   rw [if_neg hn, show n.natAbs = n.toNat by omega]
end A_Dec

namespace A_Rd
open A_Dec (dd dd1 dd2 it)
def vl (a : Nat) (l : List UInt8) : Nat := l.foldl (fun a c => a * 10 + (c.toNat - 48)) a
def dig (c : UInt8) : Bool := decide (48 <= c.toNat) && decide (c.toNat <= 57)
theorem dig_iff {c : UInt8} : dig c = true ↔ 48 <= c.toNat /\ c.toNat <= 57 := by unfold dig; simp
theorem ofNat_dig {x : Nat} (h : x < 10) : (UInt8.ofNat (48 + x)).toNat = 48 + x := by
 rw [UInt8.toNat_ofNat']; omega
theorem dd_val : ∀ (m u : Nat), u <= m -> vl 0 (dd u) = u /\ (dd u).all dig = true
 | m, u, h => by
  by_cases hu : u < 10
  ·rw [dd1 hu]
   have e := ofNat_dig hu
   refine ⟨?_, ?_⟩
   ·simp only [vl, List.foldl_cons, List.foldl_nil, e]; omega
   ·simp only [List.all_cons, List.all_nil, Bool.and_true, dig_iff, e]; omega
  ·match m with
   | 0 => omega
   | m + 1 =>
    obtain ⟨h1, h2⟩ := dd_val m (u / 10) (by omega)
    rw [dd2 hu]
    have e := ofNat_dig (x := u % 10) (by omega)
    refine ⟨?_, ?_⟩
    ·unfold vl at h1 ⊢
     rw [List.foldl_append, h1]
     simp only [List.foldl_cons, List.foldl_nil, e]; omega
    ·rw [List.all_append, h2]
     simp only [List.all_cons, List.all_nil, Bool.and_true, Bool.true_and, dig_iff, e]; omega
theorem dd_len : ∀ (k u : Nat), u < 10 ^ (k + 1) -> (dd u).length <= k + 1
 | 0, u, h => by rw [dd1 (by omega)]; simp
 | k + 1, u, h => by
  by_cases hu : u < 10
  ·rw [dd1 hu]; simp
  ·rw [dd2 hu, List.length_append, List.length_singleton]
   have := dd_len k (u / 10) (by rw [Nat.pow_succ] at h; omega)
   omega
theorem vl_ge : ∀ (l : List UInt8) (a : Nat), a <= vl a l
 | [], a => Nat.le_refl _
 | c :: l, a => by
  have := vl_ge l (a * 10 + (c.toNat - 48))
  show a <= vl (a * 10 + (c.toNat - 48)) l
  omega
theorem prs : ∀ (l : List UInt8) (a : Nat), l.all dig = true -> vl a l < 9223372036854775808 -> _root_.Go.Lib.parseUint10 a l = .ok (vl a l)
 | [], a, _, _ => rfl
 | c :: l, a, h, hb => by
  rw [List.all_cons, Bool.and_eq_true, dig_iff] at h
  have hg := vl_ge l (a * 10 + (c.toNat - 48))
  have hb : vl (a * 10 + (c.toNat - 48)) l < 9223372036854775808 := hb
  rw [_root_.Go.Lib.parseUint10, if_pos h.1, if_neg (by omega), if_neg (by omega)]
  exact prs l _ h.2 hb
def rdd (s : ByteArray) : Int × Bool :=
 bif s.data.toList.all dig && decide (s.size <= 10) && decide (vl 0 s.data.toList <= 1000000000) && (dd (vl 0 s.data.toList) == s.data.toList) then ((vl 0 s.data.toList : Nat), true) else (0, false)
theorem atoi_R (l : List UInt8) (h1 : l ≠ []) (h2 : l.all dig = true) (h3 : vl 0 l <= 1000000000) : _root_.Go.Lib.atoiAll l = .ok ((vl 0 l : Nat) : Int) := by
 have hp := prs l 0 h2 (by omega)
 match l, h1 with
 | c :: r, _ =>
  have hc := (Bool.and_eq_true _ _ ▸ (List.all_cons ▸ h2)).1
  rw [dig_iff] at hc
  unfold _root_.Go.Lib.atoiAll
  have e3 : ¬ c.toNat = 43 := by omega
  have e5 : ¬ c.toNat = 45 := by omega
  simp only [e3, e5, or_self, if_false, false_and, not_false_eq_true, true_and]
  unfold _root_.Go.Lib.parseMag
  rw [if_neg (by simp), hp]
  dsimp only
  rw [if_neg (by omega)]
theorem impl_R (s : ByteArray) : U64.v s = rdd s := by
 unfold rdd
 cases hc : (s.data.toList.all dig && decide (s.size <= 10) && decide (vl 0 s.data.toList <= 1000000000) && (dd (vl 0 s.data.toList) == s.data.toList)) with
 | true =>
  simp only [Bool.and_eq_true, decide_eq_true_eq, beq_iff_eq] at hc
  obtain ⟨⟨⟨h1, h2⟩, h3⟩, h4⟩ := hc
  have hne : s.data.toList ≠ [] := by
   intro e
   rw [e] at h4
   rw [show vl 0 [] = 0 from rfl, dd1 (by omega)] at h4
   cases h4
  unfold U64.v
  rw [atoi_R _ hne h1 h3]
  have e : (_root_.Go.Lib.itoa ((vl 0 s.data.toList : Nat) : Int) == s.data.toList) = true := by
   rw [_root_.Go.Lib.itoa_nonneg]; exact beq_iff_eq.2 h4
  simp only [e, Bool.and_true, decide_eq_true (show (0 : Int) <= ((vl 0 s.data.toList : Nat) : Int) by omega), decide_eq_true (show ((vl 0 s.data.toList : Nat) : Int) <= 1000000000 by omega), cond_true]
 | false =>
  unfold U64.v
  cases ha : _root_.Go.Lib.atoiAll s.data.toList with
  | range => rfl
  | ok n =>
   dsimp only
   cases hd : (decide (0 <= n) && decide (n <= 1000000000) && (_root_.Go.Lib.itoa n == s.data.toList)) with
   | false => rfl
   | true =>
    exfalso
    simp only [Bool.and_eq_true, decide_eq_true_eq, beq_iff_eq] at hd
    obtain ⟨⟨h1, h2⟩, h3⟩ := hd
    obtain ⟨u, rfl⟩ := Int.eq_ofNat_of_zero_le h1
    rw [_root_.Go.Lib.itoa_nonneg] at h3
    have h3 : dd u = s.data.toList := h3
    obtain ⟨k1, k2⟩ := dd_val u u (Nat.le_refl _)
    have k3 := dd_len 9 u (by omega)
    rw [h3] at k1 k2 k3
    have k3 : s.size <= 10 := k3
    rw [k1, k2, h3, decide_eq_true k3, decide_eq_true (show u <= 1000000000 by omega)] at hc
    simp at hc
  | _ => rfl
end A_Rd

namespace A_Et
open _root_.Go.FG.Lib (rs)
open A_Rd (rdd)
open A_Wo (Ev evOk)
def WL : List ByteArray := [⟨#[97, 115, 107]⟩, ⟨#[112, 97, 114, 116]⟩, ⟨#[99, 108, 111, 115, 101]⟩, ⟨#[98, 114, 101, 97, 107]⟩, ⟨#[112, 97, 115, 115]⟩, ⟨#[108, 101, 97, 118, 101]⟩, ⟨#[102, 97, 108, 108]⟩]
def wd (i : Nat) : ByteArray := WL.getD i ⟨#[]⟩
def SL : List Int := [3, 3, 3, 2, 2, 2, 0]
def res (e : Ev) (b : Bool) : Option Ev := bif b && evOk e then some e else none
def fz : List ByteArray -> Row -> Row × Bool
 | [], acc => (acc, true)
 | x :: r, acc => bif (rdd x).2 then fz r (acc ++ [[CV.i IntKind.i64 (rdd x).1]]) else (acc ++ [[CV.i IntKind.i64 (rdd x).1]], false)
def E (p : List ByteArray) : Option Ev :=
 let w := p.getD 0 ⟨#[]⟩
 let a := rdd (p.getD 1 ⟨#[]⟩)
 let t := p.getD 2 ⟨#[]⟩
 if w = wd 0 then (if p.length = 3 then res ⟨1, a.1, t, 0, []⟩ a.2 else none)
 else if w = wd 1 then (if p.length = 3 then res ⟨2, a.1, t, 0, []⟩ a.2 else none)
 else if w = wd 2 then (if p.length = 3 then res ⟨3, a.1, ⟨#[]⟩, (rdd t).1, []⟩ (a.2 && (rdd t).2) else none)
 else if w = wd 3 then (if p.length = 2 then res ⟨4, a.1, ⟨#[]⟩, 0, []⟩ a.2 else none)
 else if w = wd 4 then (if p.length = 2 then res ⟨5, 0, ⟨#[]⟩, a.1, []⟩ a.2 else none)
 else if w = wd 5 then (if p.length = 2 then res ⟨6, a.1, ⟨#[]⟩, 0, []⟩ a.2 else none)
 else if w = wd 6 then res ⟨7, 0, ⟨#[]⟩, 0, (fz (p.drop 1) []).1⟩ (fz (p.drop 1) []).2
 else none
theorem beqB (a b : ByteArray) : List.beq a.toList b.toList = decide (a = b) := by
 rw [_root_.Go.Lib.toList_data, _root_.Go.Lib.toList_data]
 show (a.data.toList == b.data.toList) = _
 by_cases h : a = b
 ·subst h; simp
 ·rw [decide_eq_false h]
  refine beq_eq_false_iff_ne.2 fun e => h ?_
  have := congrArg List.toArray e
  exact ByteArray.ext (by simpa using this)
theorem dist : ∀ j k : Fin 7, wd j.val = wd k.val -> j = k := by decide +kernel
theorem wd_ne {j k : Nat} (hj : j < 7) (hk : k < 7) (h : j ≠ k) : wd j ≠ wd k := fun e => h (congrArg Fin.val (dist ⟨j, hj⟩ ⟨k, hk⟩ e))
theorem cS (p : List ByteArray) (i : Nat) : cvS (cellAt (rs p) i 0) = p.getD i ⟨#[]⟩ := by
 unfold cellAt Lib.rs
 simp only [List.getD_eq_getElem?_getD, List.getElem?_map]
 cases p[i]? <;> rfl
theorem rs_len (p : List ByteArray) : (rs p).length = p.length := by simp [Lib.rs]
theorem ri1 (n : Int) : List.set (zeros [Ck.i IntKind.i64] 1) 0 [CV.i IntKind.i64 n] = [[CV.i IntKind.i64 n]] := rfl
theorem fz_one : ∀ (l : List ByteArray) (acc : Row), (∀ y ∈ acc, y.length = 1) -> ∀ y ∈ (fz l acc).1, y.length = 1
 | [], acc, h => h
 | x :: r, acc, h => by
  have h2 : ∀ y ∈ acc ++ [[CV.i IntKind.i64 (rdd x).1]], y.length = 1 := by
   intro y hy
   rcases List.mem_append.1 hy with hy | hy
   ·exact h y hy
   ·rw [List.mem_singleton.1 hy]; rfl
  rw [fz]
  cases (rdd x).2 with
  | false => exact h2
  | true => exact fz_one r _ h2
theorem res_ok {e x : Ev} {b : Bool} (h : res e b = some x) : x = e /\ evOk e = true := by
 unfold res at h
 cases hb : (b && evOk e) with
 | false => rw [hb] at h; cases h
 | true =>
  rw [hb] at h
  rw [Bool.and_eq_true] at hb
  exact ⟨(Option.some.inj h).symm, hb.2⟩
theorem E_ok {p : List ByteArray} {x : Ev} (h : E p = some x) : evOk x = true /\ ∀ y ∈ x.l, y.length = 1 := by
 have nil : ∀ (y : List CV), y ∈ ([] : Row) -> y.length = 1 := fun y h => by cases h
 have one : ∀ {e : Ev} {b : Bool}, res e b = some x -> (∀ y ∈ e.l, y.length = 1) -> evOk x = true /\ ∀ y ∈ x.l, y.length = 1 := fun h hl => by
  obtain ⟨rfl, h2⟩ := res_ok h
  exact ⟨h2, hl⟩
 unfold E at h
 dsimp only at h
 repeat' split at h
 all_goals first | (cases h; done) | exact one h nil | exact one h (fz_one _ _ nil)
theorem E0 {p : List ByteArray} (h : p.getD 0 ⟨#[]⟩ = wd 0) : E p = (if p.length = 3 then res ⟨1, (rdd (p.getD 1 ⟨#[]⟩)).1, p.getD 2 ⟨#[]⟩, 0, []⟩ (rdd (p.getD 1 ⟨#[]⟩)).2 else none) := by
 unfold E; dsimp only
 rw [h, if_pos rfl]
theorem E1 {p : List ByteArray} (h : p.getD 0 ⟨#[]⟩ = wd 1) : E p = (if p.length = 3 then res ⟨2, (rdd (p.getD 1 ⟨#[]⟩)).1, p.getD 2 ⟨#[]⟩, 0, []⟩ (rdd (p.getD 1 ⟨#[]⟩)).2 else none) := by
 unfold E; dsimp only
 rw [h, if_neg (wd_ne (by omega) (by omega) (by omega)), if_pos rfl]
theorem E2 {p : List ByteArray} (h : p.getD 0 ⟨#[]⟩ = wd 2) : E p = (if p.length = 3 then res ⟨3, (rdd (p.getD 1 ⟨#[]⟩)).1, ⟨#[]⟩, (rdd (p.getD 2 ⟨#[]⟩)).1, []⟩ ((rdd (p.getD 1 ⟨#[]⟩)).2 && (rdd (p.getD 2 ⟨#[]⟩)).2) else none) := by
 unfold E; dsimp only
 rw [h, if_neg (wd_ne (by omega) (by omega) (by omega)), if_neg (wd_ne (by omega) (by omega) (by omega)), if_pos rfl]
theorem E3 {p : List ByteArray} (h : p.getD 0 ⟨#[]⟩ = wd 3) : E p = (if p.length = 2 then res ⟨4, (rdd (p.getD 1 ⟨#[]⟩)).1, ⟨#[]⟩, 0, []⟩ (rdd (p.getD 1 ⟨#[]⟩)).2 else none) := by
 unfold E; dsimp only
 rw [h, if_neg (wd_ne (by omega) (by omega) (by omega)), if_neg (wd_ne (by omega) (by omega) (by omega)), if_neg (wd_ne (by omega) (by omega) (by omega)), if_pos rfl]
theorem E4 {p : List ByteArray} (h : p.getD 0 ⟨#[]⟩ = wd 4) : E p = (if p.length = 2 then res ⟨5, 0, ⟨#[]⟩, (rdd (p.getD 1 ⟨#[]⟩)).1, []⟩ (rdd (p.getD 1 ⟨#[]⟩)).2 else none) := by
 unfold E; dsimp only
 rw [h, if_neg (wd_ne (by omega) (by omega) (by omega)), if_neg (wd_ne (by omega) (by omega) (by omega)), if_neg (wd_ne (by omega) (by omega) (by omega)), if_neg (wd_ne (by omega) (by omega) (by omega)), if_pos rfl]
theorem E5 {p : List ByteArray} (h : p.getD 0 ⟨#[]⟩ = wd 5) : E p = (if p.length = 2 then res ⟨6, (rdd (p.getD 1 ⟨#[]⟩)).1, ⟨#[]⟩, 0, []⟩ (rdd (p.getD 1 ⟨#[]⟩)).2 else none) := by
 unfold E; dsimp only
 rw [h, if_neg (wd_ne (by omega) (by omega) (by omega)), if_neg (wd_ne (by omega) (by omega) (by omega)), if_neg (wd_ne (by omega) (by omega) (by omega)), if_neg (wd_ne (by omega) (by omega) (by omega)), if_neg (wd_ne (by omega) (by omega) (by omega)), if_pos rfl]
theorem E6 {p : List ByteArray} (h : p.getD 0 ⟨#[]⟩ = wd 6) : E p = res ⟨7, 0, ⟨#[]⟩, 0, (fz (p.drop 1) []).1⟩ (fz (p.drop 1) []).2 := by
 unfold E; dsimp only
 rw [h, if_neg (wd_ne (by omega) (by omega) (by omega)), if_neg (wd_ne (by omega) (by omega) (by omega)), if_neg (wd_ne (by omega) (by omega) (by omega)), if_neg (wd_ne (by omega) (by omega) (by omega)), if_neg (wd_ne (by omega) (by omega) (by omega)), if_neg (wd_ne (by omega) (by omega) (by omega)), if_pos rfl]
theorem En {p : List ByteArray} (h : ∀ j, j < 7 -> p.getD 0 ⟨#[]⟩ ≠ wd j) : E p = none := by
 unfold E; dsimp only
 rw [if_neg (h 0 (by omega)), if_neg (h 1 (by omega)), if_neg (h 2 (by omega)), if_neg (h 3 (by omega)), if_neg (h 4 (by omega)), if_neg (h 5 (by omega)), if_neg (h 6 (by omega))]
end A_Et

namespace A_Ln
open _root_.Go.FG.Lib (rs)
open A_Sp (sp mk pcs mk_size)
def lnn : List UInt8 -> List UInt8 -> List (List UInt8)
 | cur, [] => if cur = [] then [] else [cur]
 | cur, b :: r => if b = 10 then cur :: lnn [] r else lnn (cur ++ [b]) r
def lines (s : ByteArray) : List ByteArray := (lnn [] s.data.toList).map mk
theorem two : ∀ (r cur : List UInt8), ∃ a z, sp 10 cur r = a ++ [z] /\ lnn cur r = (if z = [] then a else a ++ [z])
 | [], cur => ⟨[], cur, rfl, by rw [lnn]; rfl⟩
 | b :: r, cur => by
  rw [sp, lnn]
  by_cases h : b = 10
  ·rw [if_pos h, if_pos h]
   obtain ⟨a, z, h1, h2⟩ := two r []
   refine ⟨cur :: a, z, by rw [h1]; rfl, ?_⟩
   rw [h2]
   split <;> rfl
  ·rw [if_neg h, if_neg h]
   exact two r _
theorem lines_two (s : ByteArray) : ∃ (A : List ByteArray) (Z : ByteArray), pcs 10 s = A ++ [Z] /\ lines s = (if Z.size = 0 then A else A ++ [Z]) := by
 obtain ⟨a, z, h1, h2⟩ := two s.data.toList []
 refine ⟨a.map mk, mk z, by unfold A_Sp.pcs; rw [h1]; simp, ?_⟩
 unfold lines
 rw [h2]
 cases z with
 | nil => rfl
 | cons x t => simp [mk_size]
theorem lines_len (s : ByteArray) : (lines s).length <= s.size + 1 := by
 obtain ⟨A, Z, h1, h2⟩ := lines_two s
 have := A_Wp.pcs_len 10 s
 rw [h1, List.length_append, List.length_singleton] at this
 rw [h2]
 split
 ·omega
 ·rw [List.length_append, List.length_singleton]; omega
end A_Ln

namespace A_Rs
open _root_.Go.FG.Lib (rs)
open A_Wo (Ev evOk)
open A_Ev (rv Evr)
open A_Wp (parts W)
open A_Et (E)
open A_Ln (lines)
def hsh (w : ByteArray) : Bool := decide (btN w 0 = 35)
def idle : List ByteArray -> Bool
 | [] => true
 | w :: _ => hsh w
def scr : Nat -> List ByteArray -> List Ev -> List Ev × Int
 | _, [], acc => (acc, 0)
 | i, x :: r, acc =>
  bif (parts x).2 then (bif idle (parts x).1 then scr (i + 1) r acc else
   match E (parts x).1 with
   | none => ([], ((i + 1 : Nat) : Int))
   | some e => bif decide (acc.length = 70) then ([], ((i + 1 : Nat) : Int)) else scr (i + 1) r (acc ++ [e]))
  else ([], ((i + 1 : Nat) : Int))
def script (s : ByteArray) : List Ev × Int :=
 bif decide (s.size <= 3000) && decide ((lines s).length <= 90) then scr 0 (lines s) [] else ([], -1)
theorem parts_ok {s : ByteArray} (h : (parts s).2 = true) : (parts s).1.length <= 10 /\ ∀ x ∈ (parts s).1, 0 < x.size /\ x.size <= 600 := by
 unfold A_Wp.parts at h ⊢
 cases hc : (decide (s.size <= 600) && s.data.toList.all A_Wp.vis && decide ((W s).length <= 10)) with
 | false => rw [hc] at h; cases h
 | true =>
  rw [cond_true]
  simp only [Bool.and_eq_true, decide_eq_true_eq] at hc
  exact ⟨hc.2, fun x hx => ⟨(A_Wp.W_size s x hx).1, Nat.le_trans (A_Wp.W_size s x hx).2 hc.1.1⟩⟩
theorem scr_ok : ∀ (l : List ByteArray) (i : Nat) (acc : List Ev), acc.length <= 70 -> (∀ e ∈ acc, evOk e = true /\ ∀ y ∈ e.l, y.length = 1) -> (scr i l acc).1.length <= 70 /\ ∀ e ∈ (scr i l acc).1, evOk e = true /\ ∀ y ∈ e.l, y.length = 1
 | [], i, acc, h1, h2 => ⟨h1, h2⟩
 | x :: r, i, acc, h1, h2 => by
  have nil : ([] : List Ev).length <= 70 /\ ∀ e ∈ ([] : List Ev), evOk e = true /\ ∀ y ∈ e.l, y.length = 1 := ⟨by simp, fun e h => by cases h⟩
  rw [scr]
  cases (parts x).2 with
  | false => exact nil
  | true =>
   rw [cond_true]
   cases idle (parts x).1 with
   | true => exact scr_ok r _ acc h1 h2
   | false =>
    rw [cond_false]
    cases hE : E (parts x).1 with
    | none => exact nil
    | some e =>
     dsimp only
     by_cases h70 : acc.length = 70
     ·rw [decide_eq_true h70]; exact nil
     ·rw [decide_eq_false h70, cond_false]
      refine scr_ok r _ _ (by simp; omega) (fun y hy => ?_)
      rcases List.mem_append.1 hy with hy | hy
      ·exact h2 y hy
      ·rw [List.mem_singleton.1 hy]; exact A_Et.E_ok hE
theorem script_ok (s : ByteArray) : (script s).1.length <= 70 /\ ∀ e ∈ (script s).1, evOk e = true /\ ∀ y ∈ e.l, y.length = 1 := by
 unfold script
 cases (decide (s.size <= 3000) && decide ((lines s).length <= 90)) with
 | false => exact ⟨by simp, fun e h => by cases h⟩
 | true => exact scr_ok _ _ _ (by simp) (fun e h => by cases h)
theorem rv_snoc (acc : List Ev) (e : Ev) : rv acc ++ List.set (zeros [Ck.i IntKind.i64, Ck.i IntKind.i64, Ck.s, Ck.i IntKind.i64, Ck.l 3] 1) 0 [CV.i IntKind.i64 e.k, CV.i IntKind.i64 e.id, CV.s e.t, CV.i IntKind.i64 e.n, CV.l 3 e.l] = rv (acc ++ [e]) := by
 unfold A_Ev.rv
 rw [List.map_append]; rfl
theorem hash_int (w : ByteArray) : decide (((btN w 0 : Nat) : Int) = 35) = hsh w := by
 unfold hsh
 rw [decide_eq_decide]; omega
end A_Rs

namespace U38
theorem post (k : Int) (h1 : k <= 1152921504606846976) : ∃ x, vo k = some x := by
 unfold vo b
 cases h : decide (k <= 0) with
 | true => exact ⟨_, rfl⟩
 | false =>
  rw [cond_false]
  have h0 : ¬ k <= 0 := of_decide_eq_false h
  obtain ⟨x, hx, _⟩ := loop_post (fun n (s : Int × ByteArray) => l4 Lib.big (fun (y2 : Int) (y3 : ByteArray) => bif (decide (ByteArray.size { data := #[UInt8.ofNat 109] } + ByteArray.size y3 <= 4611686018427387904)) then some ({ data := #[UInt8.ofNat 109] } ++ y3) else none) n s.1 s.2)
   (fun s => s.1.toNat) (fun s => 0 <= s.1 /\ (s.2.size : Int) + s.1 <= 1152921504606846976) (fun _ => True) (fun n s hs => by
    obtain ⟨x, t⟩ := s
    obtain ⟨a1, a2⟩ := hs
    dsimp only at a1 a2 ⊢
    have hsz : ByteArray.size (bytesOf (List.set (zeros [Ck.i IntKind.u8] 1) 0 [CV.i IntKind.u8 (IntKind.wrap IntKind.u8 (w64 (48 + Int.tmod x 10)))])) = 1 := by rw [Lib.size_bytesOf, List.length_set]; rfl
    by_cases hx : x > 0
    ·right
     have e1 : Int.tdiv x 10 = x / 10 := Int.tdiv_eq_ediv_of_nonneg (by omega)
     refine ⟨(w64 (Int.tdiv x 10), bytesOf (List.set (zeros [Ck.i IntKind.u8] 1) 0 [CV.i IntKind.u8 (IntKind.wrap IntKind.u8 (w64 (48 + Int.tmod x 10)))]) ++ t), ?_, ?_, ?_⟩
     ·dsimp only
      rw [e1, w64_ok (by omega) (by omega), Lib.size_app, hsz]; omega
     ·dsimp only; rw [e1, w64_ok (by omega) (by omega)]; omega
     ·simp only [l4, r4, decide_eq_true hx, cond_true, hsz]
      rw [Lib.bif_t (Lib.dnat (by omega))]
    ·left
     refine ⟨{ data := #[UInt8.ofNat 109] } ++ t, ?_, trivial⟩
     simp only [l4, r4, decide_eq_false hx, cond_false]
     exact Lib.bif_t (Lib.dnat (show ByteArray.size { data := #[UInt8.ofNat 109] } + t.size <= _ by rw [show ByteArray.size { data := #[UInt8.ofNat 109] } = 1 from rfl]; omega))) Lib.big (k, ⟨#[]⟩) ⟨by dsimp only; omega, by dsimp only; rw [show ByteArray.size ⟨#[]⟩ = 0 from rfl]; omega⟩ (lt_big (by dsimp only; omega))
  exact ⟨x, hx⟩
theorem ok (k : Int) (h1 : k <= 1152921504606846976) : c k = true := by
 obtain ⟨x, h⟩ := post k h1
 exact (out k h).1
end U38

namespace U39
def row (k : Int) : List CV := [CV.i IntKind.i64 (k)]
def mkl (k : Int) (n : Nat) : Row := (List.range n).map fun (j : Nat) => row (k + 1 * (j : Int))
theorem mkl_len (k : Int) (n : Nat) : (mkl k n).length = n := by unfold mkl; simp
theorem sp0 (y0 x : CV) : splice [y0] 0 [x] = [x] := rfl
theorem run (a0 : Row) (k1 : Int) (hs : ∀ y ∈ a0, y.length = 1) (hl : a0.length <= 4194304) (h0 : 0 <= k1) (h1 : k1 <= 1000000000000) : vo a0 k1 = some (k1 + 1 * (a0.length : Int), mkl k1 a0.length) := by
 unfold vo b
 have := Lib.loop_gen (fun n (i : Nat) => l2 Lib.big (fun (y3 y4 : Int) (y5 : Row) => some (y3, y5)) n (k1 + 1 * (i : Int)) (i : Int) (mkl k1 i ++ a0.drop i)) (fun i => a0.length - i) (fun i => i <= a0.length) (fun _ => some (k1 + 1 * (a0.length : Int), mkl k1 a0.length)) (fun n i hi => by
  have hml := mkl_len k1 i
  by_cases h : i < a0.length
  ·right
   refine ⟨i + 1, h, by omega, rfl, ?_⟩
   have e3 : mkl k1 (i + 1) ++ a0.drop (i + 1) = mkl k1 i ++ row (k1 + 1 * (i : Int)) :: a0.drop (i + 1) := by
    unfold mkl; rw [range_map_succ, List.append_assoc]; rfl
   have eA : k1 + 1 * ((i + 1 : Nat) : Int) = (k1 + 1 * (i : Int)) + 1 := by omega
   show l2 Lib.big _ (n + 1) (k1 + 1 * (i : Int)) (i : Int) (mkl k1 i ++ a0.drop i) = l2 Lib.big _ n (k1 + 1 * ((i + 1 : Nat) : Int)) ((i + 1 : Nat) : Int) (mkl k1 (i + 1) ++ a0.drop (i + 1))
   rw [eA, e3, Lib.drop_cons_of h]
   have hy := hs _ (List.getElem_mem h)
   have hk0 : 0 <= k1 + 1 * (i : Int) := by omega
   have hk1 : k1 + 1 * (i : Int) <= 2000000000000 := by omega
   generalize k1 + 1 * (i : Int) = k at hk0 hk1
   generalize a0[i] = y at hy
   obtain ⟨y0, rfl⟩ : ∃ y0, y = [y0] := by
    match y, hy with
    | [y0], _ => exact ⟨y0, rfl⟩
   have hd : ∀ z : List CV, decide ((i : Int) < ((mkl k1 i ++ z :: a0.drop (i + 1)).length : Int)) = true := fun z => by
    rw [len_mid, hml]; exact decide_eq_true (by omega)
   have hi1 : w64 ((i : Int) + 1) = ((i + 1 : Nat) : Int) := w64_ok (by omega) (by omega)
   simp only [l2, r2, Lib.length_setC, hd, Lib.dle0, Bool.and_self, cond_true, Lib.toN, setC_mid _ _ _ _ _ _ hml, sp0, w64_ok (x := k + 1) (by omega) (by omega), hi1]
   rfl
  ·left
   have : i = a0.length := by omega
   subst this
   show l2 Lib.big _ (n + 1) (k1 + 1 * (a0.length : Int)) (a0.length : Int) (mkl k1 a0.length ++ a0.drop a0.length) = _
   rw [List.drop_length, List.append_nil]
   simp only [l2, r2, hml, Lib.dlt, Nat.lt_irrefl, decide_false, cond_false]) Lib.big 0 (Nat.zero_le _) (lt_big (by omega))
 have e0 : mkl k1 0 ++ a0.drop 0 = a0 := rfl
 rw [e0] at this
 simpa using this
theorem ok (a0 : Row) (k1 : Int) (hs : ∀ y ∈ a0, y.length = 1) (hl : a0.length <= 4194304) (h0 : 0 <= k1) (h1 : k1 <= 1000000000000) : c a0 k1 = true /\ v a0 k1 = (k1 + 1 * (a0.length : Int), mkl k1 a0.length) := out a0 k1 (run a0 k1 hs hl h0 h1)
end U39

namespace U13
open A_Wo (Ev)
open A_Ev (rv rv_len Evr)
def wd (e : Ev) : Nat := 4 + e.l.length
def sz (l : List Ev) : Nat := (l.map wd).sum
def mkk : Int -> List Ev -> Row
 | _, [] => []
 | k, e :: r => [CV.i IntKind.i64 k, CV.i IntKind.i64 (k + 1), CV.s (U38.v (k + 1 + 1)), CV.i IntKind.i64 (k + 1 + 1 + 1), CV.l 3 (U39.mkl (k + 1 + 1 + 1 + 1) e.l.length)] :: mkk (k + (wd e : Nat)) r
theorem mkk_snoc : ∀ (l : List Ev) (k : Int) (e : Ev), mkk k (l ++ [e]) = mkk k l ++ mkk (k + (sz l : Nat)) [e]
 | [], k, e => by simp [mkk, sz]
 | m :: l, k, e => by
  have h : k + ((wd m : Nat) : Int) + ((sz l : Nat) : Int) = k + ((sz (m :: l) : Nat) : Int) := by unfold sz; rw [List.map_cons, List.sum_cons]; omega
  simp only [List.cons_append, mkk]
  rw [mkk_snoc l _ e, h]
  simp only [mkk]
theorem mkk_len : ∀ (l : List Ev) (k : Int), (mkk k l).length = l.length
 | [], _ => rfl
 | e :: l, k => by simp [mkk, mkk_len l]
theorem sz_succ (s : List Ev) (i : Nat) (h : i < s.length) : sz (s.take (i + 1)) = sz (s.take i) + wd s[i] := by
 unfold sz
 rw [List.take_succ_eq_append_getElem h, List.map_append, List.sum_append]; simp
theorem sz_take (s : List Ev) (i : Nat) : sz (s.take i) <= sz s := by
 unfold sz
 have e : (s.map wd).sum = ((s.take i).map wd).sum + ((s.drop i).map wd).sum := by
  rw [<- List.sum_append, <- List.map_append, List.take_append_drop]
 rw [e]; omega
theorem sp0 (y0 y1 y2 y3 y4 x : CV) : splice [y0, y1, y2, y3, y4] 0 [x] = [x, y1, y2, y3, y4] := rfl
theorem sp1 (y0 y1 y2 y3 y4 x : CV) : splice [y0, y1, y2, y3, y4] 1 [x] = [y0, x, y2, y3, y4] := rfl
theorem sp2 (y0 y1 y2 y3 y4 x : CV) : splice [y0, y1, y2, y3, y4] 2 [x] = [y0, y1, x, y3, y4] := rfl
theorem sp3 (y0 y1 y2 y3 y4 x : CV) : splice [y0, y1, y2, y3, y4] 3 [x] = [y0, y1, y2, x, y4] := rfl
theorem sp4 (y0 y1 y2 y3 y4 x : CV) : splice [y0, y1, y2, y3, y4] 4 [x] = [y0, y1, y2, y3, x] := rfl
theorem ok (s : List Ev) (k : Int) (hs : ∀ e ∈ s, ∀ y ∈ e.l, y.length = 1) (hl : s.length <= 4194304) (ht : sz s <= 40000000) (hq : ∀ e ∈ s, e.l.length <= 4194304) (h0 : 0 <= k) (h1 : k <= 500000000000) : c (rv s) k = true /\ v (rv s) k = (k + (sz s : Nat), mkk k s) := by
 refine out _ _ ?_
 unfold vo b
 have key := for_run s.length (fun m (i : Nat) (t : Int × Row) => l2 Lib.big (fun (y3 _ : Int) (y5 : Row) => some (y3, y5)) m t.1 (i : Int) t.2) (fun i => (k + ((sz (s.take i) : Nat) : Int), mkk k (s.take i) ++ rv (s.drop i))) (some (k + ((sz s : Nat) : Int), mkk k s)) (fun m i h => by
  dsimp only
  have hA : (mkk k (s.take i)).length = i := by rw [mkk_len]; simp; omega
  have hd : rv (s.drop i) = [CV.i IntKind.i64 s[i].k, CV.i IntKind.i64 s[i].id, CV.s s[i].t, CV.i IntKind.i64 s[i].n, CV.l 3 s[i].l] :: rv (s.drop (i + 1)) := by
   unfold A_Ev.rv; rw [List.drop_eq_getElem_cons h, List.map_cons]; rfl
  have hb := sz_take s i
  have hq2 := hq _ (List.getElem_mem h)
  have nx : mkk k (s.take (i + 1)) = mkk k (s.take i) ++ mkk (k + ((sz (s.take i) : Nat) : Int)) [s[i]] := by rw [List.take_succ_eq_append_getElem h, mkk_snoc]
  rw [nx, sz_succ s i h, List.append_assoc]
  have hk0 : 0 <= k + ((sz (s.take i) : Nat) : Int) := by omega
  have hk1 : k + ((sz (s.take i) : Nat) : Int) <= 600000000000 := by omega
  rw [show k + ((sz (s.take i) + wd s[i] : Nat) : Int) = (k + ((sz (s.take i) : Nat) : Int)) + 1 + 1 + 1 + 1 + 1 * (s[i].l.length : Int) by unfold wd; omega]
  generalize k + ((sz (s.take i) : Nat) : Int) = kk at hk0 hk1
  have hm := U39.ok s[i].l (kk + 1 + 1 + 1 + 1) (hs _ (List.getElem_mem h)) hq2 (by omega) (by omega)
  rw [hd]
  have hdl : ∀ z : List CV, decide ((i : Int) < ((mkk k (s.take i) ++ z :: rv (s.drop (i + 1))).length : Int)) = true := fun z => by
   rw [len_mid, hA]; exact decide_eq_true (by omega)
  simp only [l2, r2, Lib.length_setC, hdl, Lib.dle0, Bool.and_self, cond_true, Lib.toN, setC_mid _ _ _ _ _ _ hA, sp0, sp1, sp2, sp3, sp4, cellAt_mid _ _ _ _ _ hA, List.getD_cons_zero, List.getD_cons_succ, cvL, w64_ok (x := kk + 1) (by omega) (by omega), w64_ok (x := kk + 1 + 1) (by omega) (by omega), w64_ok (x := kk + 1 + 1 + 1) (by omega) (by omega), w64_ok (x := kk + 1 + 1 + 1 + 1) (by omega) (by omega), U38.ok (kk + 1 + 1) (by omega), hm.1, hm.2, Lib.w64_s h (by omega : s.length <= 9223372036854775807)]
  rfl) (fun m => by
  have hA : (mkk k s).length = s.length := mkk_len s k
  simp only [List.take_length, List.drop_length, show rv [] = [] from rfl, List.append_nil, l2, r2, hA, Lib.dlt, Nat.lt_irrefl, decide_false, cond_false]) Lib.big 0 (Nat.zero_le _) (lt_big (by omega))
 dsimp only [List.take_zero, List.drop_zero] at key
 rw [show ((sz [] : Nat) : Int) = 0 from rfl, Int.add_zero] at key
 exact key
end U13

namespace U31
open _root_.Go.FG.Lib (rs)
open A_Sp (sp mk bt sz ext_data cur_succ)
open A_Wp (parts W ne vis F F_nil F_cut F_on W_eq)
theorem app1 (acc : List ByteArray) (x : ByteArray) : rs acc ++ List.set (zeros [Ck.s] 1) 0 [CV.s x] = rs (acc ++ [x]) := by
 simp [Lib.rs]; rfl
theorem run (s : ByteArray) (hs : s.size <= 600) (K0 : ByteArray -> Bool -> Int -> Int -> Row -> Row -> Option (Row × Bool)) (K1 : ByteArray -> Bool -> Int -> Int -> Row -> Option (Row × Bool)) (hK0 : ∀ a b c d e f, K0 a b c d e f = some (e, b))
  (hK1 : s.data.toList.all vis = true -> ∀ a b, K1 s false a b (rs (W s)) = some (rs (parts s).1, (parts s).2)) :
  ∀ (m i b : Nat) (acc : List ByteArray), i <= s.size -> s.size + 1 - i < m -> b <= i -> (s.data.toList.take i).all vis = true -> acc.length <= i -> acc ++ F ((s.data.toList.drop b).take (i - b)) (s.data.toList.drop i) = W s ->
   l6 Lib.big K0 K1 m s false (b : Int) (i : Int) (rs acc) = some (rs (parts s).1, (parts s).2) := by
 intro m
 induction m with
 | zero => intro i b acc _ h; omega
 | succ m ih =>
  intro i b acc hi hm hb hd ha hw
  have hra : (rs acc).length = acc.length := by simp [Lib.rs]
  have room : ∀ x : ByteArray, roomy (List.length (rs acc) + List.length (List.set (zeros [Ck.s] 1) 0 [CV.s x])) 16 = true := fun x =>
   Lib.roomy_of (by rw [List.length_set, Lib.length_zeros, hra]; omega) (by rw [List.length_set, Lib.length_zeros, hra]; omega)
  have inb : inB (b : Int) (i : Int) (s.size : Int) = true := by unfold inB; simp; omega
  have hx : ByteArray.extract s b i = mk ((s.data.toList.drop b).take (i - b)) := ext_data s b i
  have le1 : decide ((i : Int) <= (s.size : Int)) = true := decide_eq_true (by omega)
  by_cases h : i < s.size
  ·have hbt := bt h
   have hl : i < s.data.toList.length := by rw [sz]; exact h
   have hu : (s.data.toList[i]).toNat < 256 := UInt8.toNat_lt _
   have bd : vis s.data.toList[i] = (decide (32 <= (s.data.toList[i]).toNat) && decide ((s.data.toList[i]).toNat <= 126)) := rfl
   have hdr : s.data.toList.drop i = s.data.toList[i] :: s.data.toList.drop (i + 1) := List.drop_eq_getElem_cons hl
   have bad : vis s.data.toList[i] = false -> some (zeros [Ck.s] 0, false) = some (rs (parts s).1, (parts s).2) := fun hb => by
    rw [A_Wp.bad (List.getElem_mem hl) hb]; rfl
   by_cases h1 : (s.data.toList[i]).toNat < 32
   ·simp only [l6, r6, le1, Lib.dlt, h, decide_true, Lib.dle0, Bool.and_self, cond_true, Lib.toN, hbt]
    rw [decide_eq_true (by omega), cond_true, hK0]
    exact bad (by rw [bd, decide_eq_false (by omega)]; rfl)
   ·by_cases h2 : (s.data.toList[i]).toNat > 126
    ·simp only [l6, r6, le1, Lib.dlt, h, decide_true, Lib.dle0, Bool.and_self, cond_true, Lib.toN, hbt]
     rw [decide_eq_false (by omega), cond_false, decide_eq_true (by omega), cond_true, hK0]
     exact bad (by rw [bd, decide_eq_false (show ¬ _ <= 126 by omega)]; simp)
    ·have hv : vis s.data.toList[i] = true := by rw [bd, decide_eq_true (by omega), decide_eq_true (by omega)]; rfl
     have d1 : decide ((((s.data.toList[i]).toNat : Nat) : Int) < 32) = false := decide_eq_false (by omega)
     have d2 : decide ((((s.data.toList[i]).toNat : Nat) : Int) > 126) = false := decide_eq_false (by omega)
     have hall := A_Wp.all_snoc hl hd hv
     have wi := Lib.w64_s h (show s.size <= 9223372036854775807 by omega)
     by_cases h3 : s.data.toList[i] = 32
     ·have d3 : ((((s.data.toList[i]).toNat : Nat) : Int) != 32) = false := by rw [h3]; rfl
      rw [hdr, h3, F_cut] at hw
      by_cases h4 : b < i
      ·have hne : ¬ (s.data.toList.drop b).take (i - b) = [] := by
        intro e
        have := congrArg List.length e
        simp at this
        omega
       simp only [l6, r6, le1, Lib.dlt, h, h4, decide_true, Lib.dle0, Bool.and_self, cond_true, cond_false, Lib.toN, hbt, d1, d2, d3, inb, room, wi, app1, hx]
       refine ih (i + 1) (i + 1) _ h (by omega) (Nat.le_refl _) hall (by simp; omega) ?_
       rw [if_neg hne] at hw
       rw [Nat.sub_self, List.take_zero, List.append_assoc]; exact hw
      ·have e0 : i = b := by omega
       have hz : (s.data.toList.drop b).take (i - b) = [] := by rw [e0, Nat.sub_self, List.take_zero]
       simp only [l6, r6, le1, Lib.dlt, h, h4, decide_true, decide_false, Lib.dle0, Bool.and_self, cond_true, cond_false, Lib.toN, hbt, d1, d2, d3, inb, room, wi, app1, hx]
       refine ih (i + 1) (i + 1) _ h (by omega) (Nat.le_refl _) hall (by omega) ?_
       rw [if_pos hz, List.nil_append] at hw
       rw [Nat.sub_self, List.take_zero]; exact hw
     ·have d3 : ((((s.data.toList[i]).toNat : Nat) : Int) != 32) = true := by
       simp only [bne_iff_ne, ne_eq]
       intro e
       exact h3 (UInt8.toNat_inj.1 (by show _ = 32; omega))
      simp only [l6, r6, le1, Lib.dlt, h, decide_true, Lib.dle0, Bool.and_self, cond_true, cond_false, Lib.toN, hbt, d1, d2, d3, wi]
      refine ih (i + 1) b acc h (by omega) (by omega) hall (by omega) ?_
      rw [hdr, F_on h3, <- cur_succ hb hl] at hw
      exact hw
  ·have e0 : i = s.size := by omega
   subst e0
   rw [List.take_of_length_le (by rw [sz]; omega)] at hd
   rw [List.drop_of_length_le (show s.data.toList.length <= s.size by rw [sz]; omega), F_nil] at hw
   obtain ⟨m, rfl⟩ : ∃ m', m = m' + 1 := ⟨m - 1, by omega⟩
   have wi : w64 ((s.size : Int) + 1) = ((s.size + 1 : Nat) : Int) := w64_ok (by omega) (by omega)
   have le2 : decide (((s.size + 1 : Nat) : Int) <= (s.size : Int)) = false := decide_eq_false (by omega)
   by_cases h4 : b < s.size
   ·have hne : ¬ (s.data.toList.drop b).take (s.size - b) = [] := by
     intro e
     have := congrArg List.length e
     simp at this
     omega
    rw [if_neg hne, <- hx] at hw
    simp only [l6, r6, le1, le2, Lib.dlt, Nat.lt_irrefl, h4, decide_true, decide_false, Lib.dle0, Bool.and_self, cond_true, cond_false, Lib.toN, inb, room, wi, app1, hw]
    exact hK1 hd _ _
   ·have hz : (s.data.toList.drop b).take (s.size - b) = [] := by rw [show s.size - b = 0 by omega, List.take_zero]
    rw [if_pos hz, List.append_nil] at hw
    simp only [l6, r6, le1, le2, Lib.dlt, Nat.lt_irrefl, h4, decide_true, decide_false, Lib.dle0, Bool.and_self, cond_true, cond_false, Lib.toN, inb, room, wi, app1, hw]
    exact hK1 hd _ _
theorem ok (s : ByteArray) : c s = true /\ v s = (rs (parts s).1, (parts s).2) := by
 refine out _ ?_
 unfold vo b
 by_cases hs : (s.size : Int) > 600
 ·rw [decide_eq_true hs, cond_true]
  unfold A_Wp.parts
  rw [decide_eq_false (show ¬ s.size <= 600 by omega)]
  rfl
 ·rw [decide_eq_false hs, cond_false]
  have hs : s.size <= 600 := by omega
  refine run s hs _ _ (fun _ _ _ _ _ _ => rfl) (fun hd a b => ?_) Lib.big 0 0 [] (Nat.zero_le _) (lt_big (by omega)) (Nat.le_refl _) rfl (Nat.le_refl _) rfl
  dsimp only
  unfold A_Wp.parts
  rw [decide_eq_true hs, hd, show (rs (W s)).length = (W s).length from by simp [Lib.rs]]
  by_cases hx : (W s).length <= 10
  ·rw [decide_eq_false (by omega), decide_eq_true hx]; rfl
  ·rw [decide_eq_true (by omega), decide_eq_false hx]; rfl
end U31

namespace U58
open A_Rd (vl dig dig_iff dd_val dd_len rdd)
open A_Sp (bt sz)
theorem vl_snoc (l : List UInt8) (c : UInt8) : vl 0 (l ++ [c]) = vl 0 l * 10 + (c.toNat - 48) := by
 unfold A_Rd.vl; rw [List.foldl_append]; rfl
theorem vl_lt1 : ∀ (l : List UInt8) (a : Nat), l.all dig = true -> vl a l < (a + 1) * 10 ^ l.length
 | [], a, _ => by simp [A_Rd.vl]
 | c :: l, a, h => by
  rw [List.all_cons, Bool.and_eq_true, dig_iff] at h
  have h1 := vl_lt1 l (a * 10 + (c.toNat - 48)) h.2
  rw [List.length_cons, Nat.pow_succ, Nat.mul_comm (10 ^ l.length) 10, <- Nat.mul_assoc]
  exact Nat.lt_of_lt_of_le h1 (Nat.mul_le_mul_right _ (by omega))
theorem vl_lt (l : List UInt8) (k : Nat) (h : l.all dig = true) (hk : l.length <= k) : vl 0 l < 10 ^ k := by
 have h1 := vl_lt1 l 0 h
 have h2 := Nat.pow_le_pow_right (n := 10) (by omega) hk
 omega
theorem ok (s : ByteArray) : c s = true /\ v s = rdd s := by
 refine out _ ?_
 unfold vo b
 by_cases hs : (s.size : Int) > 10
 ·rw [decide_eq_true hs, cond_true]
  unfold A_Rd.rdd
  rw [decide_eq_false (show ¬ s.size <= 10 by omega)]
  simp
 ·rw [decide_eq_false hs, cond_false]
  have hs : s.size <= 10 := by omega
  have key : ∀ (m i : Nat), i <= s.size -> s.size - i < m -> (s.data.toList.take i).all dig = true -> ∀ K0 K1 : ByteArray -> Int -> Bool -> Int -> Int -> Option (Int × Bool), (∀ a b c d e, K0 a b c d e = some (b, c)) ->
    (s.data.toList.all dig = true -> K1 s 0 false ((vl 0 s.data.toList : Nat) : Int) (s.size : Int) = some (rdd s)) ->
    l5 Lib.big K0 K1 m s 0 false ((vl 0 (s.data.toList.take i) : Nat) : Int) (i : Int) = some (rdd s) := by
   intro m
   induction m with
   | zero => intro i _ h; omega
   | succ m ih =>
    intro i hi hm hd K0 K1 hK0 hK1
    by_cases h : i < s.size
    ·have hb := bt h
     have hl : i < s.data.toList.length := by rw [sz]; exact h
     have hv := vl_lt _ 10 hd (by rw [List.length_take]; omega)
     rw [show ((10 : Nat) ^ 10 : Nat) = 10000000000 by decide] at hv
     have ht : s.data.toList.take (i + 1) = s.data.toList.take i ++ [s.data.toList[i]] := List.take_succ_eq_append_getElem hl
     have hu : (s.data.toList[i]).toNat < 256 := UInt8.toNat_lt _
     have bad : dig s.data.toList[i] = false -> some ((0 : Int), false) = some (rdd s) := by
      intro hb
      unfold A_Rd.rdd
      have : s.data.toList.all dig = false := by
       rw [List.all_eq_false]
       exact ⟨_, List.getElem_mem hl, by rw [hb]; simp⟩
      rw [this]; simp
     have bd : dig s.data.toList[i] = (decide (48 <= (s.data.toList[i]).toNat) && decide ((s.data.toList[i]).toNat <= 57)) := rfl
     simp only [l5, r5, Lib.dlt, h, decide_true, Lib.dle0, Bool.and_self, cond_true, Lib.toN, hb]
     by_cases h1 : (s.data.toList[i]).toNat < 48
     ·rw [decide_eq_true (by omega), cond_true, hK0]
      exact bad (by rw [bd, decide_eq_false (by omega)]; rfl)
     ·rw [decide_eq_false (by omega), cond_false]
      by_cases h2 : (s.data.toList[i]).toNat > 57
      ·rw [decide_eq_true (by omega), cond_true, hK0]
       exact bad (by rw [bd, decide_eq_false (show ¬ _ <= 57 by omega)]; simp)
      ·rw [decide_eq_false (by omega), cond_false, Lib.w64_s h (by omega)]
       have e : w64 (w64 (w64 (10 * ((vl 0 (s.data.toList.take i) : Nat) : Int)) + w64 (((s.data.toList[i]).toNat : Nat) : Int)) - 48) = ((vl 0 (s.data.toList.take (i + 1)) : Nat) : Int) := by
        rw [ht, vl_snoc, w64_ok (x := 10 * _) (by omega) (by omega), w64_ok (x := (((s.data.toList[i]).toNat : Nat) : Int)) (by omega) (by omega), w64_ok (x := _ + _) (by omega) (by omega), w64_ok (by omega) (by omega)]
        omega
       rw [e]
       exact ih (i + 1) h (by omega) (by rw [ht, List.all_append, hd]; simp only [List.all_cons, List.all_nil, Bool.and_true, Bool.true_and, dig_iff]; omega) K0 K1 hK0 hK1
    ·have : i = s.size := by omega
     subst this
     rw [List.take_of_length_le (by rw [sz]; omega)] at hd ⊢
     simp only [l5, r5, Lib.dlt, Nat.lt_irrefl, decide_false, cond_false]
     exact hK1 hd
  refine key Lib.big 0 (Nat.zero_le _) (lt_big (by omega)) rfl _ _ (fun _ _ _ _ _ => rfl) (fun hd => ?_)
  dsimp only
  have hv := vl_lt _ 10 hd (by rw [sz]; exact hs)
  rw [show ((10 : Nat) ^ 10 : Nat) = 10000000000 by decide] at hv
  unfold A_Rd.rdd
  rw [hd, decide_eq_true hs]
  by_cases hx : ((vl 0 s.data.toList : Nat) : Int) > 1000000000
  ·rw [decide_eq_true hx, cond_true, decide_eq_false (show ¬ vl 0 s.data.toList <= 1000000000 by omega)]; simp
  ·rw [decide_eq_false hx, cond_false, decide_eq_true (show vl 0 s.data.toList <= 1000000000 by omega)]
   obtain ⟨e1, e2⟩ := A_Dec.eq ((vl 0 s.data.toList : Nat) : Int) (by omega) (by omega)
   rw [e1, e2, cond_true]
   unfold A_Dec.it
   rw [_root_.Go.Lib.toList_data, _root_.Go.Lib.toList_data, _root_.Go.Lib.itoa_nonneg]
   show (bif !(A_Dec.dd (vl 0 s.data.toList) == s.data.toList) then _ else _) = _
   cases (A_Dec.dd (vl 0 s.data.toList) == s.data.toList) <;> rfl
end U58

namespace U32
open _root_.Go.FG.Lib (rs)
open A_Rd (rdd)
open A_Wo (Ev evOk)
open A_Et (WL wd SL res fz E beqB cS rs_len ri1 wd_ne)
abbrev WS : Row := rs WL
abbrev SS : Row := ri SL
abbrev Z : ByteArray := { data := #[] }
theorem cW {i : Nat} : cvS (cellAt WS i 0) = wd i := cS WL i
theorem rd (s : ByteArray) : U58.c s = true /\ U58.v s = rdd s := U58.ok s
theorem rc (s : ByteArray) : U58.c s = true := (rd s).1
theorem rw_ (s : ByteArray) : U58.v s = rdd s := (rd s).2
theorem cSS {i : Nat} (h : i < 7) : cvI (cellAt SS i 0) = SL.getD i 0 := by
 have key : ∀ j : Fin 7, cvI (cellAt SS j.val 0) = SL.getD j.val 0 := by decide +kernel
 exact key ⟨i, h⟩
section
variable {Q : Type} (K0 K3 : Row -> Bool -> Int -> Int -> Int -> ByteArray -> Int -> Row -> Row -> Option Q) (K1 : Row -> Bool -> Int -> Int -> ByteArray -> Int -> Option Q) (K2 : Row -> Bool -> Int -> Int -> ByteArray -> Int -> Row -> Option Q)
abbrev g4 (m : Nat) (p : List ByteArray) (i : Nat) : Option Q := l4 Lib.big K0 K1 K2 K3 m (rs p) false (i : Int) 0 0 Z 0 WS SS
variable {p : List ByteArray} (hp : 0 < p.length)
include hp
theorem no (m i : Nat) (hi : i < 7) (h : p.getD 0 ⟨#[]⟩ ≠ wd i) : g4 K0 K3 K1 K2 (m + 1) p i = g4 K0 K3 K1 K2 m p (i + 1) := by
 show r4 Lib.big (l4 Lib.big K0 K1 K2 K3 m) K0 K1 K2 K3 (rs p) false (i : Int) 0 0 Z 0 WS SS = _
 unfold r4
 rw [Lib.dlt, show WS.length = 7 from rfl, decide_eq_true hi, cond_true, decide_eq_true (show (0 : Int) < ((rs p).length : Int) by rw [rs_len]; omega), cond_true, Lib.dle0, Bool.and_self, cond_true]
 rw [Lib.toN, cW, show Int.toNat 0 = 0 from rfl, cS p 0, beqB, decide_eq_false h, Bool.not_false, cond_true, Lib.w64_s hi (by omega)]
theorem sz (m i : Nat) (hi : i < 6) (h : p.getD 0 ⟨#[]⟩ = wd i) (hs : (p.length : Int) ≠ SL.getD i 0) : g4 K0 K3 K1 K2 (m + 1) p i = g4 K0 K3 K1 K2 m p (i + 1) := by
 have hi7 : i < 7 := by omega
 have hpos : decide (SL.getD i 0 > 0) = true := by
  have key : ∀ j : Fin 6, decide (SL.getD j.val 0 > 0) = true := by decide +kernel
  exact key ⟨i, hi⟩
 show r4 Lib.big (l4 Lib.big K0 K1 K2 K3 m) K0 K1 K2 K3 (rs p) false (i : Int) 0 0 Z 0 WS SS = _
 unfold r4
 rw [Lib.dlt, show WS.length = 7 from rfl, decide_eq_true hi7, cond_true, decide_eq_true (show (0 : Int) < ((rs p).length : Int) by rw [rs_len]; omega), cond_true, Lib.dle0, Bool.and_self, cond_true]
 rw [Lib.toN, cW, show Int.toNat 0 = 0 from rfl, cS p 0, beqB, decide_eq_true h, Bool.not_true, cond_false, Lib.dlt, show SS.length = 7 from rfl, decide_eq_true hi7, Bool.and_self, cond_true, cSS hi7, hpos, cond_true, cond_true]
 rw [rs_len, show (((p.length : Nat) : Int) != SL.getD i 0) = true from bne_iff_ne.2 hs, cond_true, Lib.w64_s hi7 (by omega)]
theorem skip : ∀ (k m : Nat), k <= 7 -> (∀ j, j < k -> p.getD 0 ⟨#[]⟩ ≠ wd j) -> g4 K0 K3 K1 K2 (m + k) p 0 = g4 K0 K3 K1 K2 m p k
 | 0, m, _, _ => rfl
 | k + 1, m, hk, h => by
  rw [show m + (k + 1) = (m + 1) + k by omega, skip k (m + 1) (by omega) (fun j hj => h j (by omega))]
  exact no K0 K3 K1 K2 hp m k (by omega) (h k (by omega))
theorem endd (m : Nat) : g4 K0 K3 K1 K2 (m + 1) p 7 = K3 (rs p) false 7 0 0 Z 0 WS SS := by
 have _ := hp
 show r4 Lib.big (l4 Lib.big K0 K1 K2 K3 m) K0 K1 K2 K3 (rs p) false ((7 : Nat) : Int) 0 0 Z 0 WS SS = _
 unfold r4
 rw [Lib.dlt, show WS.length = 7 from rfl, decide_eq_false (by omega), cond_false]; rfl
theorem rest : ∀ (k m : Nat), k <= 7 -> (∀ j, 7 - k <= j -> j < 7 -> p.getD 0 ⟨#[]⟩ ≠ wd j) -> g4 K0 K3 K1 K2 (m + 1 + k) p (7 - k) = K3 (rs p) false 7 0 0 Z 0 WS SS
 | 0, m, _, _ => endd K0 K3 K1 K2 hp m
 | k + 1, m, hk, h => by
  rw [show m + 1 + (k + 1) = (m + 1 + k) + 1 by omega, no K0 K3 K1 K2 hp _ (7 - (k + 1)) (by omega) (h _ (Nat.le_refl _) (by omega)), show 7 - (k + 1) + 1 = 7 - k by omega]
  exact rest k m (by omega) (fun j h1 h2 => h j (by omega) h2)
theorem none_ (M : Nat) (h : ∀ j, j < 7 -> p.getD 0 ⟨#[]⟩ ≠ wd j) : g4 K0 K3 K1 K2 (M + 8) p 0 = K3 (rs p) false 7 0 0 Z 0 WS SS := by
 rw [show M + 8 = (M + 1) + 7 by omega, skip K0 K3 K1 K2 hp 7 (M + 1) (by omega) h]
 exact endd K0 K3 K1 K2 hp M
theorem off (M i : Nat) (hi : i < 6) (h : p.getD 0 ⟨#[]⟩ = wd i) (hs : (p.length : Int) ≠ SL.getD i 0) : g4 K0 K3 K1 K2 (M + 8) p 0 = K3 (rs p) false 7 0 0 Z 0 WS SS := by
 rw [show M + 8 = (M + (8 - i)) + i by omega, skip K0 K3 K1 K2 hp i _ (by omega) (fun j hj e => wd_ne (by omega) (by omega) (by omega) (e.symm.trans h)), show M + (8 - i) = (M + (7 - i)) + 1 by omega, sz K0 K3 K1 K2 hp _ i hi h hs]
 have := rest K0 K3 K1 K2 hp (7 - (i + 1)) M (by omega) (fun j h1 h2 e => wd_ne h2 (by omega) (by omega) (e.symm.trans h))
 rw [show 7 - (7 - (i + 1)) = i + 1 by omega] at this
 rw [show M + (7 - i) = M + 1 + (7 - (i + 1)) by omega]
 exact this
theorem on (M i : Nat) (hi : i < 7) (h : p.getD 0 ⟨#[]⟩ = wd i) : g4 K0 K3 K1 K2 (M + 8) p 0 = g4 K0 K3 K1 K2 (M + (7 - i) + 1) p i := by
 rw [show M + 8 = (M + (7 - i) + 1) + i by omega]
 exact skip K0 K3 K1 K2 hp i _ (by omega) (fun j hj e => wd_ne (by omega) (by omega) (by omega) (e.symm.trans h))
theorem hit0 (m : Nat) (h : p.getD 0 ⟨#[]⟩ = wd 0) (hl : p.length = 3) : g4 K0 K3 K1 K2 (m + 1) p 0 = K0 (rs p) (rdd (p.getD 1 ⟨#[]⟩)).2 0 1 (rdd (p.getD 1 ⟨#[]⟩)).1 (p.getD 2 ⟨#[]⟩) 0 WS SS := by
 have _ := hp
 show r4 Lib.big (l4 Lib.big K0 K1 K2 K3 m) K0 K1 K2 K3 (rs p) false (0 : Int) 0 0 Z 0 WS SS = _
 unfold r4
 rw [show decide ((0 : Int) < (WS.length : Int)) = true from rfl, cond_true, decide_eq_true (show (0 : Int) < ((rs p).length : Int) by rw [rs_len]; omega), cond_true, show decide ((0 : Int) <= (0 : Int)) = true from rfl, Bool.and_self, cond_true]
 rw [show Int.toNat (0 : Int) = 0 from rfl, cW, cS p 0, beqB, decide_eq_true h, Bool.not_true, cond_false, show decide ((0 : Int) < (SS.length : Int)) = true from rfl, Bool.and_self, cond_true, cSS (show 0 < 7 by omega), show SL.getD 0 0 = 3 from rfl, show decide ((3 : Int) > 0) = true from rfl, cond_true, cond_true]
 rw [rs_len, hl, show (((3 : Nat) : Int) != 3) = false from rfl, cond_false]
 simp only [show decide (w64 ((0 : Int) + 1) = 1) = true from by decide, cond_true, cond_false, show decide ((1 : Int) < ((3 : Nat) : Int)) = true from rfl, show decide ((2 : Int) < ((3 : Nat) : Int)) = true from rfl, show Int.toNat (1 : Int) = 1 from rfl, show Int.toNat (2 : Int) = 2 from rfl, cS, rc, rw_, show w64 ((0 : Int) + 1) = 1 from by decide]
 cases (rdd (p.getD 1 ⟨#[]⟩)).2 <;> rfl
theorem hit1 (m : Nat) (h : p.getD 0 ⟨#[]⟩ = wd 1) (hl : p.length = 3) : g4 K0 K3 K1 K2 (m + 1) p 1 = K0 (rs p) (rdd (p.getD 1 ⟨#[]⟩)).2 1 2 (rdd (p.getD 1 ⟨#[]⟩)).1 (p.getD 2 ⟨#[]⟩) 0 WS SS := by
 have _ := hp
 show r4 Lib.big (l4 Lib.big K0 K1 K2 K3 m) K0 K1 K2 K3 (rs p) false (1 : Int) 0 0 Z 0 WS SS = _
 unfold r4
 rw [show decide ((1 : Int) < (WS.length : Int)) = true from rfl, cond_true, decide_eq_true (show (0 : Int) < ((rs p).length : Int) by rw [rs_len]; omega), cond_true, show decide ((0 : Int) <= (1 : Int)) = true from rfl, Bool.and_self, cond_true]
 rw [show Int.toNat (1 : Int) = 1 from rfl, cW, show Int.toNat (0 : Int) = 0 from rfl, cS p 0, beqB, decide_eq_true h, Bool.not_true, cond_false, show decide ((1 : Int) < (SS.length : Int)) = true from rfl, Bool.and_self, cond_true, cSS (show 1 < 7 by omega), show SL.getD 1 0 = 3 from rfl, show decide ((3 : Int) > 0) = true from rfl, cond_true, cond_true]
 rw [rs_len, hl, show (((3 : Nat) : Int) != 3) = false from rfl, cond_false]
 simp only [show decide (w64 ((1 : Int) + 1) = 1) = false from by decide, show decide (w64 ((1 : Int) + 1) = 2) = true from by decide, cond_true, cond_false, show decide ((1 : Int) < ((3 : Nat) : Int)) = true from rfl, show decide ((2 : Int) < ((3 : Nat) : Int)) = true from rfl, show Int.toNat (1 : Int) = 1 from rfl, show Int.toNat (2 : Int) = 2 from rfl, cS, rc, rw_, show w64 ((1 : Int) + 1) = 2 from by decide]
 cases (rdd (p.getD 1 ⟨#[]⟩)).2 <;> rfl
theorem hit2 (m : Nat) (h : p.getD 0 ⟨#[]⟩ = wd 2) (hl : p.length = 3) : g4 K0 K3 K1 K2 (m + 1) p 2 = K0 (rs p) ((rdd (p.getD 1 ⟨#[]⟩)).2 && (rdd (p.getD 2 ⟨#[]⟩)).2) 2 3 (rdd (p.getD 1 ⟨#[]⟩)).1 Z (rdd (p.getD 2 ⟨#[]⟩)).1 WS SS := by
 have _ := hp
 show r4 Lib.big (l4 Lib.big K0 K1 K2 K3 m) K0 K1 K2 K3 (rs p) false (2 : Int) 0 0 Z 0 WS SS = _
 unfold r4
 rw [show decide ((2 : Int) < (WS.length : Int)) = true from rfl, cond_true, decide_eq_true (show (0 : Int) < ((rs p).length : Int) by rw [rs_len]; omega), cond_true, show decide ((0 : Int) <= (2 : Int)) = true from rfl, Bool.and_self, cond_true]
 rw [show Int.toNat (2 : Int) = 2 from rfl, cW, show Int.toNat (0 : Int) = 0 from rfl, cS p 0, beqB, decide_eq_true h, Bool.not_true, cond_false, show decide ((2 : Int) < (SS.length : Int)) = true from rfl, Bool.and_self, cond_true, cSS (show 2 < 7 by omega), show SL.getD 2 0 = 3 from rfl, show decide ((3 : Int) > 0) = true from rfl, cond_true, cond_true]
 rw [rs_len, hl, show (((3 : Nat) : Int) != 3) = false from rfl, cond_false]
 simp only [show decide (w64 ((2 : Int) + 1) = 1) = false from by decide, show decide (w64 ((2 : Int) + 1) = 2) = false from by decide, show decide (w64 ((2 : Int) + 1) = 3) = true from by decide, cond_true, cond_false, show decide ((1 : Int) < ((3 : Nat) : Int)) = true from rfl, show decide ((2 : Int) < ((3 : Nat) : Int)) = true from rfl, show Int.toNat (1 : Int) = 1 from rfl, show Int.toNat (2 : Int) = 2 from rfl, cS, rc, rw_, show w64 ((2 : Int) + 1) = 3 from by decide]
 cases (rdd (p.getD 1 ⟨#[]⟩)).2 <;> rfl
theorem hit3 (m : Nat) (h : p.getD 0 ⟨#[]⟩ = wd 3) (hl : p.length = 2) : g4 K0 K3 K1 K2 (m + 1) p 3 = K0 (rs p) (rdd (p.getD 1 ⟨#[]⟩)).2 3 4 (rdd (p.getD 1 ⟨#[]⟩)).1 Z 0 WS SS := by
 have _ := hp
 show r4 Lib.big (l4 Lib.big K0 K1 K2 K3 m) K0 K1 K2 K3 (rs p) false (3 : Int) 0 0 Z 0 WS SS = _
 unfold r4
 rw [show decide ((3 : Int) < (WS.length : Int)) = true from rfl, cond_true, decide_eq_true (show (0 : Int) < ((rs p).length : Int) by rw [rs_len]; omega), cond_true, show decide ((0 : Int) <= (3 : Int)) = true from rfl, Bool.and_self, cond_true]
 rw [show Int.toNat (3 : Int) = 3 from rfl, cW, show Int.toNat (0 : Int) = 0 from rfl, cS p 0, beqB, decide_eq_true h, Bool.not_true, cond_false, show decide ((3 : Int) < (SS.length : Int)) = true from rfl, Bool.and_self, cond_true, cSS (show 3 < 7 by omega), show SL.getD 3 0 = 2 from rfl, show decide ((2 : Int) > 0) = true from rfl, cond_true, cond_true]
 rw [rs_len, hl, show (((2 : Nat) : Int) != 2) = false from rfl, cond_false]
 simp only [show decide (w64 ((3 : Int) + 1) = 1) = false from by decide, show decide (w64 ((3 : Int) + 1) = 2) = false from by decide, show decide (w64 ((3 : Int) + 1) = 3) = false from by decide, show decide (w64 ((3 : Int) + 1) = 4) = true from by decide, cond_true, cond_false, show decide ((1 : Int) < ((2 : Nat) : Int)) = true from rfl, show Int.toNat (1 : Int) = 1 from rfl, show Int.toNat (2 : Int) = 2 from rfl, cS, rc, rw_, show w64 ((3 : Int) + 1) = 4 from by decide]
 cases (rdd (p.getD 1 ⟨#[]⟩)).2 <;> rfl
theorem hit4 (m : Nat) (h : p.getD 0 ⟨#[]⟩ = wd 4) (hl : p.length = 2) : g4 K0 K3 K1 K2 (m + 1) p 4 = K0 (rs p) (rdd (p.getD 1 ⟨#[]⟩)).2 4 5 0 Z (rdd (p.getD 1 ⟨#[]⟩)).1 WS SS := by
 have _ := hp
 show r4 Lib.big (l4 Lib.big K0 K1 K2 K3 m) K0 K1 K2 K3 (rs p) false (4 : Int) 0 0 Z 0 WS SS = _
 unfold r4
 rw [show decide ((4 : Int) < (WS.length : Int)) = true from rfl, cond_true, decide_eq_true (show (0 : Int) < ((rs p).length : Int) by rw [rs_len]; omega), cond_true, show decide ((0 : Int) <= (4 : Int)) = true from rfl, Bool.and_self, cond_true]
 rw [show Int.toNat (4 : Int) = 4 from rfl, cW, show Int.toNat (0 : Int) = 0 from rfl, cS p 0, beqB, decide_eq_true h, Bool.not_true, cond_false, show decide ((4 : Int) < (SS.length : Int)) = true from rfl, Bool.and_self, cond_true, cSS (show 4 < 7 by omega), show SL.getD 4 0 = 2 from rfl, show decide ((2 : Int) > 0) = true from rfl, cond_true, cond_true]
 rw [rs_len, hl, show (((2 : Nat) : Int) != 2) = false from rfl, cond_false]
 simp only [show decide (w64 ((4 : Int) + 1) = 1) = false from by decide, show decide (w64 ((4 : Int) + 1) = 2) = false from by decide, show decide (w64 ((4 : Int) + 1) = 3) = false from by decide, show decide (w64 ((4 : Int) + 1) = 4) = false from by decide, show decide (w64 ((4 : Int) + 1) = 6) = false from by decide, show decide (w64 ((4 : Int) + 1) = 5) = true from by decide, cond_true, cond_false, show decide ((1 : Int) < ((2 : Nat) : Int)) = true from rfl, show Int.toNat (1 : Int) = 1 from rfl, show Int.toNat (2 : Int) = 2 from rfl, cS, rc, rw_, show w64 ((4 : Int) + 1) = 5 from by decide]
 cases (rdd (p.getD 1 ⟨#[]⟩)).2 <;> rfl
theorem hit5 (m : Nat) (h : p.getD 0 ⟨#[]⟩ = wd 5) (hl : p.length = 2) : g4 K0 K3 K1 K2 (m + 1) p 5 = K0 (rs p) (rdd (p.getD 1 ⟨#[]⟩)).2 5 6 (rdd (p.getD 1 ⟨#[]⟩)).1 Z 0 WS SS := by
 have _ := hp
 show r4 Lib.big (l4 Lib.big K0 K1 K2 K3 m) K0 K1 K2 K3 (rs p) false (5 : Int) 0 0 Z 0 WS SS = _
 unfold r4
 rw [show decide ((5 : Int) < (WS.length : Int)) = true from rfl, cond_true, decide_eq_true (show (0 : Int) < ((rs p).length : Int) by rw [rs_len]; omega), cond_true, show decide ((0 : Int) <= (5 : Int)) = true from rfl, Bool.and_self, cond_true]
 rw [show Int.toNat (5 : Int) = 5 from rfl, cW, show Int.toNat (0 : Int) = 0 from rfl, cS p 0, beqB, decide_eq_true h, Bool.not_true, cond_false, show decide ((5 : Int) < (SS.length : Int)) = true from rfl, Bool.and_self, cond_true, cSS (show 5 < 7 by omega), show SL.getD 5 0 = 2 from rfl, show decide ((2 : Int) > 0) = true from rfl, cond_true, cond_true]
 rw [rs_len, hl, show (((2 : Nat) : Int) != 2) = false from rfl, cond_false]
 simp only [show decide (w64 ((5 : Int) + 1) = 1) = false from by decide, show decide (w64 ((5 : Int) + 1) = 2) = false from by decide, show decide (w64 ((5 : Int) + 1) = 3) = false from by decide, show decide (w64 ((5 : Int) + 1) = 4) = false from by decide, show decide (w64 ((5 : Int) + 1) = 6) = true from by decide, cond_true, cond_false, show decide ((1 : Int) < ((2 : Nat) : Int)) = true from rfl, show Int.toNat (1 : Int) = 1 from rfl, show Int.toNat (2 : Int) = 2 from rfl, cS, rc, rw_, show w64 ((5 : Int) + 1) = 6 from by decide]
 cases (rdd (p.getD 1 ⟨#[]⟩)).2 <;> rfl
end
theorem sh13 {Q : Type} (K0 : Row -> Bool -> Bool -> Int -> Int -> Int -> ByteArray -> Int -> Int -> Int -> ByteArray -> Int -> Option Q) (K1 : Row -> Bool -> Bool -> Int -> Int -> Int -> ByteArray -> Int -> Int -> Int -> ByteArray -> Int -> Row -> Option Q) (p : List ByteArray) (hl : p.length <= 600) (a b : Int) (c : ByteArray) (d k id : Int) (t : ByteArray) (n : Int) (Y : Bool -> Row -> Option Q) (hY : ∀ f i r, K1 (rs p) f true i a b c d k id t n r = Y f r) :
  ∀ (m i : Nat) (acc : Row), i <= p.length -> p.length - i < m -> acc.length <= i -> l13a Lib.big K0 K1 m (rs p) true true (i : Int) a b c d k id t n acc = Y (fz (p.drop i) acc).2 (fz (p.drop i) acc).1 := by
 intro m
 induction m with
 | zero => intro i acc _ h; omega
 | succ m ih =>
  intro i acc hi hm ha
  by_cases h : i < p.length
  ·have e1 : p.drop i = p[i] :: p.drop (i + 1) := List.drop_eq_getElem_cons h
   have e2 : p.getD i ⟨#[]⟩ = p[i] := by simp [List.getD, h]
   have rm : roomy (List.length acc + List.length [[CV.i IntKind.i64 (rdd p[i]).1]]) 8 = true := Lib.roomy_of (by simp; omega) (by simp; omega)
   rw [e1, fz]
   have st : l13a Lib.big K0 K1 (m + 1) (rs p) true true (i : Int) a b c d k id t n acc = l13a Lib.big K0 K1 m (rs p) (rdd p[i]).2 true ((i + 1 : Nat) : Int) a b c d k id t n (acc ++ [[CV.i IntKind.i64 (rdd p[i]).1]]) := by
    simp only [l13a, r13a, rs_len, Lib.dlt, h, decide_true, Lib.dle0, Bool.and_self, cond_true, Lib.toN, cS, rc, rw_, ri1, e2, rm, Lib.w64_s h (show p.length <= 9223372036854775807 by omega)]
   rw [st]
   cases hf : (rdd p[i]).2 with
   | true =>
    rw [cond_true]
    exact ih (i + 1) _ h (by omega) (by simp; omega)
   | false =>
    rw [cond_false]
    obtain ⟨m, rfl⟩ : ∃ m', m = m' + 1 := ⟨m - 1, by omega⟩
    rw [<- hY false ((i + 1 : Nat) : Int)]
    by_cases h2 : i + 1 < p.length
    ·simp only [l13a, r13a, rs_len, Lib.dlt, h2, decide_true, cond_true, cond_false]
    ·simp only [l13a, r13a, rs_len, Lib.dlt, h2, decide_false, cond_false]
  ·have : i = p.length := by omega
   subst this
   rw [List.drop_length, fz, <- hY true ((p.length : Nat) : Int)]
   simp only [l13a, r13a, rs_len, Lib.dlt, Nat.lt_irrefl, decide_false, cond_false]
theorem st13 {Q : Type} (K0 : Row -> Bool -> Bool -> Int -> Int -> Int -> ByteArray -> Int -> Int -> Int -> ByteArray -> Int -> Option Q) (K1 : Row -> Bool -> Bool -> Int -> Int -> Int -> ByteArray -> Int -> Int -> Int -> ByteArray -> Int -> Row -> Option Q) (p : List ByteArray) (hp : 0 < p.length) (hl : p.length <= 600) (a b : Int) (c : ByteArray) (d k id : Int) (t : ByteArray) (n : Int) (Y : Bool -> Row -> Option Q) (hY : ∀ f i r, K1 (rs p) f true i a b c d k id t n r = Y f r) (hX : K0 (rs p) true true 1 a b c d k id t n = Y true []) (m : Nat) (hm : p.length < m) :
  l13 Lib.big K0 K1 (m + 1) (rs p) true true 1 a b c d k id t n = Y (fz (p.drop 1) []).2 (fz (p.drop 1) []).1 := by
 by_cases h : 1 < p.length
 ·have e1 : p.drop 1 = p[1] :: p.drop 2 := List.drop_eq_getElem_cons h
  have e2 : p.getD 1 ⟨#[]⟩ = p[1] := by simp [List.getD, h]
  rw [e1, fz]
  have st : l13 Lib.big K0 K1 (m + 1) (rs p) true true 1 a b c d k id t n = l13a Lib.big K0 K1 m (rs p) (rdd p[1]).2 true ((2 : Nat) : Int) a b c d k id t n ([] ++ [[CV.i IntKind.i64 (rdd p[1]).1]]) := by
   have d1 : decide ((1 : Int) < ((p.length : Nat) : Int)) = true := decide_eq_true (by omega)
   simp only [l13, r13, rs_len, d1, show decide ((0 : Int) <= 1) = true from rfl, Bool.and_self, cond_true, show Int.toNat (1 : Int) = 1 from rfl, cS, rc, rw_, ri1, e2, show w64 ((1 : Int) + 1) = ((2 : Nat) : Int) from by decide]
  rw [st]
  cases hf : (rdd p[1]).2 with
  | true =>
   rw [cond_true]
   exact sh13 K0 K1 p hl a b c d k id t n Y hY m 2 _ h (by omega) (by simp)
  | false =>
   rw [cond_false]
   obtain ⟨m, rfl⟩ : ∃ m', m = m' + 1 := ⟨m - 1, by omega⟩
   rw [<- hY false ((2 : Nat) : Int)]
   by_cases h2 : 2 < p.length
   ·simp only [l13a, r13a, rs_len, Lib.dlt, h2, decide_true, cond_true, cond_false]
   ·simp only [l13a, r13a, rs_len, Lib.dlt, h2, decide_false, cond_false]
 ·have e0 : p.length = 1 := by omega
  have d1 : decide ((1 : Int) < ((p.length : Nat) : Int)) = false := decide_eq_false (by omega)
  rw [show p.drop 1 = [] from List.drop_of_length_le (by omega), fz, <- hX]
  simp only [l13, r13, rs_len, d1, cond_false]
theorem hit6 {Q : Type} (K0 K3 : Row -> Bool -> Int -> Int -> Int -> ByteArray -> Int -> Row -> Row -> Option Q) (K1 : Row -> Bool -> Int -> Int -> ByteArray -> Int -> Option Q) (K2 : Row -> Bool -> Int -> Int -> ByteArray -> Int -> Row -> Option Q) (p : List ByteArray) (hp : 0 < p.length) (hl : p.length <= 600) (h : p.getD 0 ⟨#[]⟩ = wd 6) (Y : Bool -> Row -> Option Q) (hY : ∀ f r, K2 (rs p) f 7 0 Z 0 r = Y f r) (hX : K1 (rs p) true 7 0 Z 0 = Y true []) (m : Nat) :
  g4 K0 K3 K1 K2 (m + 1) p 6 = Y (fz (p.drop 1) []).2 (fz (p.drop 1) []).1 := by
 show r4 Lib.big (l4 Lib.big K0 K1 K2 K3 m) K0 K1 K2 K3 (rs p) false (6 : Int) 0 0 Z 0 WS SS = _
 unfold r4
 rw [show decide ((6 : Int) < (WS.length : Int)) = true from rfl, cond_true, decide_eq_true (show (0 : Int) < ((rs p).length : Int) by rw [rs_len]; omega), cond_true, show decide ((0 : Int) <= (6 : Int)) = true from rfl, Bool.and_self, cond_true]
 rw [show Int.toNat (6 : Int) = 6 from rfl, cW, show Int.toNat (0 : Int) = 0 from rfl, cS p 0, beqB, decide_eq_true h, Bool.not_true, cond_false, show decide ((6 : Int) < (SS.length : Int)) = true from rfl, Bool.and_self, cond_true, cSS (show 6 < 7 by omega), show SL.getD 6 0 = 0 from rfl, show decide ((0 : Int) > 0) = false from rfl, cond_false]
 simp only [show decide (w64 ((6 : Int) + 1) = 1) = false from by decide, show decide (w64 ((6 : Int) + 1) = 2) = false from by decide, show decide (w64 ((6 : Int) + 1) = 3) = false from by decide, show decide (w64 ((6 : Int) + 1) = 4) = false from by decide, show decide (w64 ((6 : Int) + 1) = 6) = false from by decide, show decide (w64 ((6 : Int) + 1) = 5) = false from by decide, cond_false, show w64 ((6 : Int) + 1) = 7 from by decide]
 refine st13 _ _ p hp hl 0 0 Z 0 7 0 Z 0 Y (fun f i r => ?_) ?_ 18446744073709551615 (by omega)
 ·rw [<- hY]
  cases f <;> rfl
 ·rw [<- hX]; rfl
theorem post (p : List ByteArray) (hp : 0 < p.length) (hl : p.length <= 600) : ∃ (e : Ev) (b : Bool), vo (rs p) = some (e.k, e.id, e.t, e.n, e.l, b) /\ res e b = E p := by
 have hb : vo (rs p) = g4 (fun y165 y166 y167 y168 y169 y170 y171 y172 y173 => some (y168, y169, y170, y171, ([] : Row), y166)) (fun y187 y188 y189 y190 y191 y192 y193 y194 y195 => some (0, 0, Z, 0, [], false)) (fun y174 y175 y176 y177 y178 y179 => some (y176, y177, y178, y179, [], y175)) (fun y180 y181 y182 y183 y184 y185 y186 => some (y182, y183, y184, y185, y186, y181)) (18446744073709551608 + 8) p 0 := rfl
 rw [hb]
 have miss : ∀ {x : Option Ev}, x = none -> ∃ (e : Ev) (b : Bool), (some ((0 : Int), (0 : Int), Z, (0 : Int), ([] : Row), false) : Option (Int × Int × ByteArray × Int × Row × Bool)) = some (e.k, e.id, e.t, e.n, e.l, b) /\ res e b = x := fun h => ⟨⟨0, 0, Z, 0, []⟩, false, rfl, h.symm⟩
 by_cases h0 : p.getD 0 ⟨#[]⟩ = wd 0
 ·rw [A_Et.E0 h0]
  by_cases hn : p.length = 3
  ·rw [on _ _ _ _ hp _ 0 (by omega) h0, hit0 _ _ _ _ hp _ h0 hn, if_pos hn]
   exact ⟨⟨_, _, _, _, _⟩, _, rfl, rfl⟩
  ·rw [off _ _ _ _ hp _ 0 (by omega) h0 (by show ((p.length : Nat) : Int) ≠ 3; omega), if_neg hn]
   exact miss rfl
 by_cases h1 : p.getD 0 ⟨#[]⟩ = wd 1
 ·rw [A_Et.E1 h1]
  by_cases hn : p.length = 3
  ·rw [on _ _ _ _ hp _ 1 (by omega) h1, hit1 _ _ _ _ hp _ h1 hn, if_pos hn]
   exact ⟨⟨_, _, _, _, _⟩, _, rfl, rfl⟩
  ·rw [off _ _ _ _ hp _ 1 (by omega) h1 (by show ((p.length : Nat) : Int) ≠ 3; omega), if_neg hn]
   exact miss rfl
 by_cases h2 : p.getD 0 ⟨#[]⟩ = wd 2
 ·rw [A_Et.E2 h2]
  by_cases hn : p.length = 3
  ·rw [on _ _ _ _ hp _ 2 (by omega) h2, hit2 _ _ _ _ hp _ h2 hn, if_pos hn]
   exact ⟨⟨_, _, _, _, _⟩, _, rfl, rfl⟩
  ·rw [off _ _ _ _ hp _ 2 (by omega) h2 (by show ((p.length : Nat) : Int) ≠ 3; omega), if_neg hn]
   exact miss rfl
 by_cases h3 : p.getD 0 ⟨#[]⟩ = wd 3
 ·rw [A_Et.E3 h3]
  by_cases hn : p.length = 2
  ·rw [on _ _ _ _ hp _ 3 (by omega) h3, hit3 _ _ _ _ hp _ h3 hn, if_pos hn]
   exact ⟨⟨_, _, _, _, _⟩, _, rfl, rfl⟩
  ·rw [off _ _ _ _ hp _ 3 (by omega) h3 (by show ((p.length : Nat) : Int) ≠ 2; omega), if_neg hn]
   exact miss rfl
 by_cases h4 : p.getD 0 ⟨#[]⟩ = wd 4
 ·rw [A_Et.E4 h4]
  by_cases hn : p.length = 2
  ·rw [on _ _ _ _ hp _ 4 (by omega) h4, hit4 _ _ _ _ hp _ h4 hn, if_pos hn]
   exact ⟨⟨_, _, _, _, _⟩, _, rfl, rfl⟩
  ·rw [off _ _ _ _ hp _ 4 (by omega) h4 (by show ((p.length : Nat) : Int) ≠ 2; omega), if_neg hn]
   exact miss rfl
 by_cases h5 : p.getD 0 ⟨#[]⟩ = wd 5
 ·rw [A_Et.E5 h5]
  by_cases hn : p.length = 2
  ·rw [on _ _ _ _ hp _ 5 (by omega) h5, hit5 _ _ _ _ hp _ h5 hn, if_pos hn]
   exact ⟨⟨_, _, _, _, _⟩, _, rfl, rfl⟩
  ·rw [off _ _ _ _ hp _ 5 (by omega) h5 (by show ((p.length : Nat) : Int) ≠ 2; omega), if_neg hn]
   exact miss rfl
 by_cases h6 : p.getD 0 ⟨#[]⟩ = wd 6
 ·rw [A_Et.E6 h6, on _ _ _ _ hp _ 6 (by omega) h6, hit6 _ _ _ _ p hp hl h6 (fun f r => some (7, 0, Z, 0, r, f)) (fun _ _ => rfl) rfl]
  exact ⟨⟨_, _, _, _, _⟩, _, rfl, rfl⟩
 ·have hall : ∀ j, j < 7 -> p.getD 0 ⟨#[]⟩ ≠ wd j := fun j hj => by
   match j, hj with
   | 0, _ => exact h0
   | 1, _ => exact h1
   | 2, _ => exact h2
   | 3, _ => exact h3
   | 4, _ => exact h4
   | 5, _ => exact h5
   | 6, _ => exact h6
  rw [none_ _ _ _ _ hp _ hall, A_Et.En hall]
  exact miss rfl
theorem ok (p : List ByteArray) (hp : 0 < p.length) (hl : p.length <= 600) : ∃ (e : Ev) (b : Bool), c (rs p) = true /\ v (rs p) = (e.k, e.id, e.t, e.n, e.l, b) /\ res e b = E p := by
 obtain ⟨e, b, h1, h2⟩ := post p hp hl
 obtain ⟨k1, k2⟩ := out _ h1
 exact ⟨e, b, k1, k2, h2⟩
end U32

namespace U30
open _root_.Go.FG.Lib (rs)
open A_Sp (mk bt sz ext_data cur_succ)
open A_Ln (lnn lines lines_len)
theorem app1 (acc : List ByteArray) (x : ByteArray) : rs acc ++ List.set (zeros [Ck.s] 1) 0 [CV.s x] = rs (acc ++ [x]) := by
 simp [Lib.rs]; rfl
theorem run (s : ByteArray) (hs : s.size <= 3000) (K0 : ByteArray -> Int -> Int -> Row -> Option Row) (hK0 : ∀ (b : Nat) (acc : List ByteArray) a, b <= s.size -> acc.length <= s.size -> acc ++ (lnn (s.data.toList.drop b) []).map mk = lines s -> K0 s (b : Int) a (rs acc) = some (rs (lines s))) :
  ∀ (m i b : Nat) (acc : List ByteArray), i <= s.size -> s.size - i < m -> b <= i -> acc.length <= i -> acc ++ (lnn ((s.data.toList.drop b).take (i - b)) (s.data.toList.drop i)).map mk = lines s ->
   l4 Lib.big K0 m s (b : Int) (i : Int) (rs acc) = some (rs (lines s)) := by
 intro m
 induction m with
 | zero => intro i b acc _ h; omega
 | succ m ih =>
  intro i b acc hi hm hb ha hw
  have hra : (rs acc).length = acc.length := by simp [Lib.rs]
  have room : ∀ x : ByteArray, roomy (List.length (rs acc) + List.length (List.set (zeros [Ck.s] 1) 0 [CV.s x])) 16 = true := fun x =>
   Lib.roomy_of (by rw [List.length_set, Lib.length_zeros, hra]; omega) (by rw [List.length_set, Lib.length_zeros, hra]; omega)
  have inb : inB (b : Int) (i : Int) (s.size : Int) = true := by unfold inB; simp; omega
  have hx : ByteArray.extract s b i = mk ((s.data.toList.drop b).take (i - b)) := ext_data s b i
  by_cases h : i < s.size
  ·have hbt := bt h
   have hl : i < s.data.toList.length := by rw [sz]; exact h
   have hu : (s.data.toList[i]).toNat < 256 := UInt8.toNat_lt _
   have hdr : s.data.toList.drop i = s.data.toList[i] :: s.data.toList.drop (i + 1) := List.drop_eq_getElem_cons hl
   have wi := Lib.w64_s h (show s.size <= 9223372036854775807 by omega)
   by_cases h3 : s.data.toList[i] = 10
   ·have d3 : decide ((((s.data.toList[i]).toNat : Nat) : Int) = 10) = true := by rw [h3]; rfl
    rw [hdr, h3, lnn, if_pos rfl] at hw
    simp only [l4, r4, Lib.dlt, h, decide_true, Lib.dle0, Bool.and_self, cond_true, Lib.toN, hbt, d3, inb, room, wi, app1, hx]
    refine ih (i + 1) (i + 1) _ h (by omega) (Nat.le_refl _) (by simp; omega) ?_
    rw [Nat.sub_self, List.take_zero, List.append_assoc]; exact hw
   ·have d3 : decide ((((s.data.toList[i]).toNat : Nat) : Int) = 10) = false := by
     refine decide_eq_false fun e => h3 (UInt8.toNat_inj.1 (by show _ = 10; omega))
    simp only [l4, r4, Lib.dlt, h, decide_true, Lib.dle0, Bool.and_self, cond_true, cond_false, Lib.toN, hbt, d3, wi]
    refine ih (i + 1) b acc h (by omega) (by omega) (by omega) ?_
    rw [hdr, lnn, if_neg h3, <- cur_succ hb hl] at hw
    exact hw
  ·have e0 : i = s.size := by omega
   subst e0
   simp only [l4, r4, Lib.dlt, Nat.lt_irrefl, decide_false, cond_false]
   refine hK0 b acc _ hb ha ?_
   rw [List.drop_of_length_le (show s.data.toList.length <= s.size by rw [sz]; omega), List.take_of_length_le (by rw [List.length_drop, sz]; omega)] at hw
   exact hw
theorem ok (s : ByteArray) (hs : s.size <= 3000) : c s = true /\ v s = rs (lines s) := by
 refine out _ ?_
 unfold vo b
 refine run s hs _ (fun b acc a hb ha hw => ?_) Lib.big 0 0 [] (Nat.zero_le _) (lt_big (by omega)) (Nat.le_refl _) (Nat.le_refl _) rfl
 dsimp only
 have hra : (rs acc).length = acc.length := by simp [Lib.rs]
 have room : ∀ x : ByteArray, roomy (List.length (rs acc) + List.length (List.set (zeros [Ck.s] 1) 0 [CV.s x])) 16 = true := fun x =>
  Lib.roomy_of (by rw [List.length_set, Lib.length_zeros, hra]; omega) (by rw [List.length_set, Lib.length_zeros, hra]; omega)
 have inb : inB (b : Int) (s.size : Int) (s.size : Int) = true := by unfold inB; simp; omega
 have hx : ByteArray.extract s b s.size = mk (s.data.toList.drop b) := by
  rw [ext_data, List.take_of_length_le (by rw [List.length_drop, sz]; omega)]
 by_cases h4 : b < s.size
 ·have hne : ¬ s.data.toList.drop b = [] := by
   intro e
   have := congrArg List.length e
   simp at this
   omega
  rw [lnn, if_neg hne] at hw
  simp only [Lib.dlt, h4, decide_true, cond_true, inb, Lib.toN, room, app1, hx]
  rw [<- hw]; rfl
 ·have hz : s.data.toList.drop b = [] := List.drop_of_length_le (by rw [sz]; omega)
  rw [lnn, if_pos hz, List.map_nil, List.append_nil] at hw
  simp only [Lib.dlt, h4, decide_false, cond_false, hw]
end U30

namespace U10
open _root_.Go.FG.Lib (rs)
open A_Wo (Ev evOk)
open A_Ev (rv Evr rv_len)
open A_Wp (parts W)
open A_Et (E cS rs_len res)
open A_Ln (lines)
open A_Rs (scr script idle hsh hash_int rv_snoc parts_ok)
abbrev T2 := Row × Int
abbrev J0 : Int -> Int -> Row -> Row -> Row -> Option T2 := fun y5 y6 y7 y8 y9 => some (y7, y5)
abbrev J1 : Int -> Int -> Row -> Row -> Row -> Option T2 := fun y10 y11 y12 y13 y14 => some (y14, 0)
abbrev g7 (m : Nat) (ls : List ByteArray) (i : Nat) (acc : List Ev) : Option T2 := l7 Lib.big J0 J1 m 0 (i : Int) [] (rs ls) (rv acc)
theorem stop (m : Nat) (ls : List ByteArray) (acc : List Ev) : g7 (m + 1) ls ls.length acc = some (rv acc, 0) := by
 simp only [g7, l7, r7, rs_len, Lib.dlt, Nat.lt_irrefl, decide_false, cond_false]
section
variable {ls : List ByteArray} {i : Nat} (h : i < ls.length) (hl : ls.length <= 90) (acc : List Ev) (m : Nat)
include h hl
theorem st0 (hq : (parts ls[i]).2 = false) : g7 (m + 1) ls i acc = some ([], ((i + 1 : Nat) : Int)) := by
 have e2 : ls.getD i ⟨#[]⟩ = ls[i] := by simp [List.getD, h]
 obtain ⟨hpc, hpv⟩ := U31.ok ls[i]
 rw [hq] at hpv
 simp only [g7, l7, r7, rs_len, Lib.dlt, h, decide_true, Lib.dle0, Bool.and_self, cond_true, Lib.toN, cS, e2, hpc, hpv, cond_false, Bool.not_false, Lib.w64_s h (show ls.length <= 9223372036854775807 by omega)]
theorem st1 (hq : (parts ls[i]).2 = true) (hi : idle (parts ls[i]).1 = true) : g7 (m + 1) ls i acc = g7 m ls (i + 1) acc := by
 have e2 : ls.getD i ⟨#[]⟩ = ls[i] := by simp [List.getD, h]
 obtain ⟨hpc, hpv⟩ := U31.ok ls[i]
 have ho := (parts_ok hq).2
 rw [hq] at hpv
 cases hp : (parts ls[i]).1 with
 | nil =>
  rw [hp] at hpv
  simp only [g7, l7, r7, rs_len, Lib.dlt, h, decide_true, Lib.dle0, Bool.and_self, cond_true, Lib.toN, cS, e2, hpc, hpv, show (([] : List ByteArray)).length = 0 from rfl, show decide (((0 : Nat) : Int) = 0) = true from rfl, show decide (((([] : List ByteArray).length : Nat) : Int) = 0) = true from rfl, Lib.w64_s h (show ls.length <= 9223372036854775807 by omega)]
 | cons w t =>
  rw [hp] at hpv hi ho
  have hi : hsh w = true := hi
  have hw := (ho w List.mem_cons_self).1
  have z1 : decide ((((w :: t).length : Nat) : Int) = 0) = false := decide_eq_false (by rw [List.length_cons]; omega)
  have z2 : decide ((0 : Int) < (((w :: t).length : Nat) : Int)) = true := decide_eq_true (by rw [List.length_cons]; omega)
  have z3 : decide ((0 : Int) < ((w.size : Nat) : Int)) = true := decide_eq_true (by omega)
  simp only [g7, l7, r7, rs_len, Lib.dlt, h, decide_true, Lib.dle0, Bool.and_self, cond_true, Lib.toN, cS, e2, hpc, hpv, cond_false, z1, z2, show Int.toNat (0 : Int) = 0 from rfl, show (w :: t).getD 0 ⟨#[]⟩ = w from rfl, z3, hash_int, hi, Lib.w64_s h (show ls.length <= 9223372036854775807 by omega)]
theorem st2 (hq : (parts ls[i]).2 = true) (hi : idle (parts ls[i]).1 = false) (ha : acc.length <= 70) : g7 (m + 1) ls i acc = (match E (parts ls[i]).1 with | none => some ([], ((i + 1 : Nat) : Int)) | some e => bif decide (acc.length = 70) then some ([], ((i + 1 : Nat) : Int)) else g7 m ls (i + 1) (acc ++ [e])) := by
 have e2 : ls.getD i ⟨#[]⟩ = ls[i] := by simp [List.getD, h]
 obtain ⟨hpc, hpv⟩ := U31.ok ls[i]
 obtain ⟨hn, ho⟩ := parts_ok hq
 rw [hq] at hpv
 cases hp : (parts ls[i]).1 with
 | nil => rw [hp] at hi; cases hi
 | cons w t =>
  rw [hp] at hpv hi ho hn
  have hi : hsh w = false := hi
  have hw := (ho w List.mem_cons_self).1
  have z1 : decide ((((w :: t).length : Nat) : Int) = 0) = false := decide_eq_false (by rw [List.length_cons]; omega)
  have z2 : decide ((0 : Int) < (((w :: t).length : Nat) : Int)) = true := decide_eq_true (by rw [List.length_cons]; omega)
  have z3 : decide ((0 : Int) < ((w.size : Nat) : Int)) = true := decide_eq_true (by omega)
  obtain ⟨e, b, hec, hev, hE⟩ := U32.ok (w :: t) (by simp) (by omega)
  rw [<- hE]
  have st : g7 (m + 1) ls i acc = bif !b then some ([], ((i + 1 : Nat) : Int)) else bif !evOk e then some ([], ((i + 1 : Nat) : Int)) else bif decide (((acc.length : Nat) : Int) = 70) then some ([], ((i + 1 : Nat) : Int)) else bif roomy (acc.length + 1) 64 then g7 m ls (i + 1) (acc ++ [e]) else none := by
   simp only [g7, l7, r7, rs_len, Lib.dlt, h, decide_true, Lib.dle0, Bool.and_self, cond_true, Lib.toN, cS, e2, hpc, hpv, cond_false, z1, z2, show Int.toNat (0 : Int) = 0 from rfl, show (w :: t).getD 0 ⟨#[]⟩ = w from rfl, z3, hash_int, hi, hec, hev, A_Ev.ok_spec, Bool.not_true, cond_false, rv_len, rv_snoc, Lib.w64_s h (show ls.length <= 9223372036854775807 by omega)]
   rfl
  have rm : roomy (acc.length + 1) 64 = true := Lib.roomy_of (by omega) (by omega)
  have d7 : decide (((acc.length : Nat) : Int) = 70) = decide (acc.length = 70) := by rw [decide_eq_decide]; omega
  rw [st, rm, d7]
  unfold A_Et.res
  cases b <;> cases evOk e <;> rfl
end
theorem run (ls : List ByteArray) (hl : ls.length <= 90) : ∀ (m i : Nat) (acc : List Ev), i <= ls.length -> ls.length - i < m -> acc.length <= 70 -> g7 m ls i acc = some (rv (scr i (ls.drop i) acc).1, (scr i (ls.drop i) acc).2) := by
 intro m
 induction m with
 | zero => intro i acc _ h; omega
 | succ m ih =>
  intro i acc hi hm ha
  by_cases h : i < ls.length
  ·rw [List.drop_eq_getElem_cons h, scr]
   cases hq : (parts ls[i]).2 with
   | false => rw [st0 h hl acc m hq]; rfl
   | true =>
    rw [cond_true]
    cases hd : idle (parts ls[i]).1 with
    | true => rw [st1 h hl acc m hq hd, cond_true]; exact ih (i + 1) acc h (by omega) ha
    | false =>
     rw [st2 h hl acc m hq hd ha, cond_false]
     cases hE : E (parts ls[i]).1 with
     | none => rfl
     | some e =>
      dsimp only
      by_cases h70 : acc.length = 70
      ·rw [decide_eq_true h70]; rfl
      ·rw [decide_eq_false h70, cond_false, cond_false]
       exact ih (i + 1) _ h (by omega) (by simp; omega)
  ·have : i = ls.length := by omega
   subst this
   rw [stop, List.drop_length, scr]
theorem ok (s : ByteArray) : c s = true /\ v s = (rv (script s).1, (script s).2) := by
 refine out _ ?_
 unfold vo b
 by_cases hs : (s.size : Int) > 3000
 ·rw [decide_eq_true hs, cond_true]
  unfold A_Rs.script
  rw [decide_eq_false (show ¬ s.size <= 3000 by omega)]; rfl
 ·have hs3 : s.size <= 3000 := by omega
  obtain ⟨c1, c2⟩ := U30.ok s hs3
  rw [decide_eq_false hs, cond_false, c1, c2, cond_true, rs_len]
  unfold A_Rs.script
  rw [decide_eq_true hs3]
  by_cases hl : (((lines s).length : Nat) : Int) > 90
  ·rw [decide_eq_true hl, cond_true, decide_eq_false (show ¬ (lines s).length <= 90 by omega)]; rfl
  ·rw [decide_eq_false hl, cond_false, cond_true, decide_eq_true (show (lines s).length <= 90 by omega)]
   exact run (lines s) (by omega) Lib.big 0 [] (Nat.zero_le _) (lt_big (by omega)) (by simp)
end U10

namespace U35
open _root_.Go.FG.Lib (rs)
open A_Sp (sp mk pcs bt sz)
open A_Wp (parts W ne vis within)
theorem wds (L : List ByteArray) (K : Row -> Int -> Int -> Row -> Option (Row × Bool)) (hl : L.length <= 601) : l10 Lib.big K Lib.big (rs L) (L.length : Int) 0 [] = K (rs L) (L.length : Int) (L.length : Int) (rs (L.filter ne)) := by
 have key := for_run L.length (fun m (i : Nat) (t : Row) => l10 Lib.big K m (rs L) (L.length : Int) (i : Int) t) (fun i => rs ((L.take i).filter ne)) (K (rs L) (L.length : Int) (L.length : Int) (rs (L.filter ne))) (fun m i h => by
  have hc : cellAt (rs L) i 0 = CV.s L[i] := by
   rw [Lib.cellAt_of (by simp [Lib.rs]; exact h)]; simp [Lib.rs]
  have hL : (rs L).length = L.length := by simp [Lib.rs]
  have hf : (rs ((L.take i).filter ne)).length <= 601 := by
   have := List.length_filter_le ne (L.take i)
   rw [List.length_take] at this
   simp only [Lib.rs, List.length_map]; omega
  have ht : (L.take (i + 1)).filter ne = (L.take i).filter ne ++ (if ne L[i] then [L[i]] else []) := by
   rw [List.take_succ_eq_append_getElem h, List.filter_append]
   cases hx : ne L[i] <;> simp [hx]
  have hq : (!List.beq (ByteArray.toList L[i]) (ByteArray.toList { data := #[] })) = ne L[i] := by
   rw [_root_.Go.Lib.toList_data, _root_.Go.Lib.toList_data]
   unfold A_Wp.ne
   show (!(L[i].data.toList == [])) = _
   cases hz : L[i].data.toList with
   | nil => rw [show L[i].size = L[i].data.toList.length from rfl, hz]; rfl
   | cons a t => rw [show L[i].size = L[i].data.toList.length from rfl, hz]; rfl
  simp only [l10, r10, Lib.dlt, h, decide_true, hL, Lib.dle0, Bool.and_self, cond_true, Lib.toN, hc, cvS, hq, Lib.w64_s h (show L.length <= 9223372036854775807 by omega)]
  rw [ht]
  cases hx : ne L[i] with
  | false => simp only [cond_false, Bool.false_eq_true, if_false, List.append_nil]
  | true =>
   rw [cond_true, show roomy (List.length (rs ((L.take i).filter ne)) + List.length (List.set (zeros [Ck.s] 1) 0 [CV.s L[i]])) 16 = true from Lib.roomy_of (by rw [List.length_set]; simp only [Lib.length_zeros]; omega) (by rw [List.length_set]; simp only [Lib.length_zeros]; omega), cond_true]
   congr 1
   simp [Lib.rs]; rfl) (fun m => by
  simp only [l10, r10, Lib.dlt, Nat.lt_irrefl, decide_false, cond_false, List.take_length]) Lib.big 0 (Nat.zero_le _) (lt_big (by omega))
 exact key
theorem ok (s : ByteArray) : c s = true /\ v s = (rs (parts s).1, (parts s).2) := by
 refine out _ ?_
 unfold vo b
 by_cases hs : (s.size : Int) > 600
 ·rw [decide_eq_true hs, cond_true]
  unfold A_Wp.parts
  rw [decide_eq_false (show ¬ s.size <= 600 by omega)]
  rfl
 ·rw [decide_eq_false hs, cond_false]
  have hs : s.size <= 600 := by omega
  have key : ∀ (m i : Nat), i <= s.size -> s.size - i < m -> (s.data.toList.take i).all vis = true -> ∀ K0 K1 : ByteArray -> Bool -> Int -> Row -> Option (Row × Bool), (∀ a b c d, K0 a b c d = some ([], b)) ->
    (s.data.toList.all vis = true -> K1 s false (s.size : Int) [] = some (rs (parts s).1, (parts s).2)) ->
    l5 Lib.big K0 K1 m s false (i : Int) [] = some (rs (parts s).1, (parts s).2) := by
   intro m
   induction m with
   | zero => intro i _ h; omega
   | succ m ih =>
    intro i hi hm hd K0 K1 hK0 hK1
    by_cases h : i < s.size
    ·have hb := bt h
     have hl : i < s.data.toList.length := by rw [sz]; exact h
     have hu : (s.data.toList[i]).toNat < 256 := UInt8.toNat_lt _
     have e : U61.v (w64 (((s.data.toList[i]).toNat : Nat) : Int)) 32 126 = vis s.data.toList[i] := by
      rw [within, w64_ok (by omega) (by omega)]
      unfold A_Wp.vis
      congr 1 <;> (rw [decide_eq_decide]; omega)
     simp only [l5, r5, Lib.dlt, h, decide_true, Lib.dle0, Bool.and_self, cond_true, Lib.toN, hb, e, Lib.w64_s h (show s.size <= 9223372036854775807 by omega)]
     cases hv : vis s.data.toList[i] with
     | false =>
      rw [Bool.not_false, cond_true, hK0, A_Wp.bad (List.getElem_mem hl) hv]; rfl
     | true =>
      rw [Bool.not_true, cond_false]
      exact ih (i + 1) h (by omega) (A_Wp.all_snoc hl hd hv) K0 K1 hK0 hK1
    ·have : i = s.size := by omega
     subst this
     rw [List.take_of_length_le (by rw [sz]; omega)] at hd
     simp only [l5, r5, Lib.dlt, Nat.lt_irrefl, decide_false, cond_false]
     exact hK1 hd
  refine key Lib.big 0 (Nat.zero_le _) (lt_big (by omega)) rfl _ _ (fun _ _ _ _ => rfl) (fun hd => ?_)
  have e1 := A_Sp.split_c 32 s (by omega)
  have e2 := A_Sp.split_v 32 s
  have e3 := A_Wp.pcs_len 32 s
  rw [show ({ data := #[UInt8.ofNat 32] } : ByteArray) = ⟨#[32]⟩ from rfl, e1, cond_true, e2]
  rw [show (rs (pcs 32 s)).length = (pcs 32 s).length from by simp [Lib.rs], wds (pcs 32 s) _ (by omega)]
  dsimp only
  unfold A_Wp.parts
  rw [decide_eq_true hs, hd]
  show (bif decide ((((rs (W s)).length : Nat) : Int) > 10) then _ else some (rs (W s), true)) = _
  rw [show (rs (W s)).length = (W s).length from by simp [Lib.rs]]
  by_cases hx : (W s).length <= 10
  ·rw [decide_eq_false (by omega), decide_eq_true hx]; rfl
  ·rw [decide_eq_true (by omega), decide_eq_false hx]; rfl
end U35

namespace U63
open _root_.Go.FG.Lib (rs)
open A_Rd (rdd)
open A_Wo (Ev evOk)
open A_Et (res fz cS rs_len ri1)
abbrev Z : ByteArray := { data := #[] }
def told (e : Ev) (b : Bool) : Option Ev := bif b then some e else none
theorem told_ok (e : Ev) : told e (U65.v e.k e.id e.t e.n e.l) = res e true := by
 unfold told A_Et.res
 rw [A_Ev.ok_impl]; rfl
theorem rc {s : ByteArray} (h : s.size <= 600) : U64.c s = true := by
 unfold U64.c
 rw [Nat.ble_eq]; omega
theorem rw_ (s : ByteArray) : U64.v s = rdd s := A_Rd.impl_R s
abbrev T6 := Int × Int × ByteArray × Int × Row × Bool
abbrev J0 : Bool -> Row -> Int -> Int -> Int -> Int -> ByteArray -> Int -> Int -> Int -> ByteArray -> Int -> Option T6 := fun y75 y76 y77 y78 y79 y80 y81 y82 y83 y84 y85 y86 => some (y79, y80, y81, y82, [], y75)
abbrev J1 : Bool -> Row -> Int -> Int -> Int -> Int -> ByteArray -> Int -> Int -> Int -> ByteArray -> Int -> Option T6 := fun y87 y88 y89 y90 y91 y92 y93 y94 y95 y96 y97 y98 => some (y95, y96, y97, y98, [], U65.v y95 y96 y97 y98 [])
abbrev J2 : Bool -> Row -> Int -> Int -> Int -> Int -> ByteArray -> Int -> Int -> Int -> ByteArray -> Int -> Row -> Option T6 := fun y99 y100 y101 y102 y103 y104 y105 y106 y107 y108 y109 y110 y111 => some (y103, y104, y105, y106, y111, y99)
abbrev J3 : Bool -> Row -> Int -> Int -> Int -> Int -> ByteArray -> Int -> Int -> Int -> ByteArray -> Int -> Row -> Option T6 := fun y112 y113 y114 y115 y116 y117 y118 y119 y120 y121 y122 y123 y124 => some (y120, y121, y122, y123, y124, U65.v y120 y121 y122 y123 y124)
def G (o : Option T6) (x : Option Ev) : Prop := ∃ (e : Ev) (b : Bool), o = some (e.k, e.id, e.t, e.n, e.l, b) /\ told e b = x
theorem sh (p : List ByteArray) (hl : p.length <= 600) (hs : ∀ x ∈ p, x.size <= 600) : ∀ (m i : Nat) (acc : Row), i <= p.length -> p.length - i < m -> acc.length <= i ->
  G (l3a Lib.big J0 J1 J2 J3 m false (rs p) (p.length : Int) (i : Int) 0 0 Z 0 7 0 Z 0 acc) (res ⟨7, 0, Z, 0, (fz (p.drop i) acc).1⟩ (fz (p.drop i) acc).2) := by
 intro m
 induction m with
 | zero => intro i acc _ h; omega
 | succ m ih =>
  intro i acc hi hm ha
  by_cases h : i < p.length
  ·have e1 : p.drop i = p[i] :: p.drop (i + 1) := List.drop_eq_getElem_cons h
   have e2 : p.getD i ⟨#[]⟩ = p[i] := by simp [List.getD, h]
   have hc := rc (hs _ (List.getElem_mem h))
   have rm : roomy (List.length acc + List.length [[CV.i IntKind.i64 (rdd p[i]).1]]) 8 = true := Lib.roomy_of (by simp; omega) (by simp; omega)
   rw [e1, fz]
   cases hf : (rdd p[i]).2 with
   | true =>
    have st : l3a Lib.big J0 J1 J2 J3 (m + 1) false (rs p) (p.length : Int) (i : Int) 0 0 Z 0 7 0 Z 0 acc = l3a Lib.big J0 J1 J2 J3 m false (rs p) (p.length : Int) ((i + 1 : Nat) : Int) 0 0 Z 0 7 0 Z 0 (acc ++ [[CV.i IntKind.i64 (rdd p[i]).1]]) := by
     simp only [l3a, r3a, rs_len, Lib.dlt, h, decide_true, Lib.dle0, Bool.and_self, cond_true, cond_false, Lib.toN, cS, hc, rw_, ri1, e2, hf, Bool.not_true, rm, Lib.w64_s h (show p.length <= 9223372036854775807 by omega)]
    rw [st, cond_true]
    exact ih (i + 1) _ h (by omega) (by simp; omega)
   | false =>
    rw [cond_false]
    refine ⟨⟨7, 0, Z, 0, acc⟩, false, ?_, rfl⟩
    simp only [l3a, r3a, rs_len, Lib.dlt, h, decide_true, Lib.dle0, Bool.and_self, cond_true, cond_false, Lib.toN, cS, hc, rw_, ri1, e2, hf, Bool.not_false]
  ·have : i = p.length := by omega
   subst this
   rw [List.drop_length, fz]
   refine ⟨⟨7, 0, Z, 0, acc⟩, _, ?_, told_ok _⟩
   simp only [l3a, r3a, rs_len, Lib.dlt, Nat.lt_irrefl, decide_false, cond_false]
theorem ok (p : List ByteArray) (hl : p.length <= 600) (hs : ∀ x ∈ p, x.size <= 600) : ∃ (e : Ev) (b : Bool), c (rs p) = true /\ v (rs p) = (e.k, e.id, e.t, e.n, e.l, b) /\ told e b = res ⟨7, 0, Z, 0, (fz p []).1⟩ (fz p []).2 := by
 have key : G (vo (rs p)) (res ⟨7, 0, Z, 0, (fz p []).1⟩ (fz p []).2) := by
  have hb : vo (rs p) = l3 Lib.big J0 J1 J2 J3 (18446744073709551615 + 1) false (rs p) ((rs p).length : Int) 0 0 0 Z 0 7 0 Z 0 := rfl
  rw [hb, rs_len]
  match p, hl, hs with
  | [], _, _ =>
   refine ⟨⟨7, 0, Z, 0, []⟩, _, rfl, told_ok _⟩
  | x :: p, hl, hs =>
   have hl : p.length + 1 <= 600 := hl
   have hc := rc (hs x List.mem_cons_self)
   have h0 : decide ((0 : Int) < (((x :: p).length : Nat) : Int)) = true := decide_eq_true (by rw [List.length_cons]; omega)
   have e2 : (x :: p).getD 0 ⟨#[]⟩ = x := rfl
   rw [fz]
   cases hf : (rdd x).2 with
   | true =>
    have st : l3 Lib.big J0 J1 J2 J3 (18446744073709551615 + 1) false (rs (x :: p)) (((x :: p).length : Nat) : Int) 0 0 0 Z 0 7 0 Z 0 = l3a Lib.big J0 J1 J2 J3 18446744073709551615 false (rs (x :: p)) (((x :: p).length : Nat) : Int) ((1 : Nat) : Int) 0 0 Z 0 7 0 Z 0 ([] ++ [[CV.i IntKind.i64 (rdd x).1]]) := by
     show r3 Lib.big (l3 Lib.big J0 J1 J2 J3 18446744073709551615) (l3a Lib.big J0 J1 J2 J3 18446744073709551615) J0 J1 J2 J3 false (rs (x :: p)) (((x :: p).length : Nat) : Int) 0 0 0 Z 0 7 0 Z 0 = _
     unfold r3
     rw [h0, cond_true, rs_len, h0, show decide ((0 : Int) <= 0) = true from rfl, Bool.and_self, cond_true, show Int.toNat 0 = 0 from rfl, cS, e2, hc, cond_true, rw_, hf, Bool.not_true, cond_false, ri1]
     rfl
    rw [st, cond_true]
    exact sh (x :: p) hl hs 18446744073709551615 1 _ (by simp) (by rw [List.length_cons]; omega) (by simp)
   | false =>
    rw [cond_false]
    refine ⟨⟨7, 0, Z, 0, []⟩, false, ?_, rfl⟩
    show r3 Lib.big (l3 Lib.big J0 J1 J2 J3 18446744073709551615) (l3a Lib.big J0 J1 J2 J3 18446744073709551615) J0 J1 J2 J3 false (rs (x :: p)) (((x :: p).length : Nat) : Int) 0 0 0 Z 0 7 0 Z 0 = _
    unfold r3
    rw [h0, cond_true, rs_len, h0, show decide ((0 : Int) <= 0) = true from rfl, Bool.and_self, cond_true, show Int.toNat 0 = 0 from rfl, cS, e2, hc, cond_true, rw_, hf, Bool.not_false, cond_true]
 obtain ⟨e, b, h1, h2⟩ := key
 obtain ⟨k1, k2⟩ := out _ h1
 exact ⟨e, b, k1, k2, h2⟩
end U63

namespace U36
open _root_.Go.FG.Lib (rs)
open A_Rd (rdd)
open A_Wo (Ev evOk)
open A_Et (WL wd res fz E beqB cS rs_len wd_ne)
open U63 (told told_ok rc rw_ Z T6 G)
abbrev K9 : Type := Bool -> ByteArray -> Row -> Int -> Int -> Int -> Int -> ByteArray -> Int -> Int -> Int -> ByteArray -> Int -> Option T6
abbrev J0 : K9 := fun y13 y14 y15 y16 y17 y18 y19 y20 y21 y22 y23 y24 y25 => some (y18, y19, y20, y21, [], y13)
abbrev J1 : K9 := fun y26 y27 y28 y29 y30 y31 y32 y33 y34 y35 y36 y37 y38 => some (y35, y36, y37, y38, [], U65.v y35 y36 y37 y38 [])
abbrev g8 (m : Nat) (ks : ByteArray) (q : List ByteArray) (i : Nat) (k id : Int) (t : ByteArray) (n : Int) : Option T6 := l8 Lib.big J0 J1 m false ks (rs q) (q.length : Int) (i : Int) 0 0 Z 0 k id t n
theorem Gx {o : Option T6} {x y : Option Ev} (h : G o x) (e : x = y) : G o y := e ▸ h
theorem fin (m : Nat) (ks : ByteArray) (q : List ByteArray) (k id : Int) (t : ByteArray) (n : Int) : G (g8 (m + 1) ks q q.length k id t n) (res ⟨k, id, t, n, []⟩ true) := by
 refine ⟨⟨k, id, t, n, []⟩, _, ?_, told_ok _⟩
 simp only [g8, l8, r8, Lib.dlt, Nat.lt_irrefl, decide_false, cond_false]
section
variable {ks : ByteArray} {q : List ByteArray} (hq : q.length <= 600) (hs : ∀ x ∈ q, x.size <= 600) {i : Nat} (h : i < q.length) (hk : i < ks.size)
include hq hs h hk
theorem sti (m : Nat) (hb : btN ks i = 105) (k id : Int) (t : ByteArray) (n : Int) (x : Option Ev) (hx : G (g8 m ks q (i + 1) k (rdd (q.getD i ⟨#[]⟩)).1 t n) x) : G (g8 (m + 1) ks q i k id t n) (bif (rdd (q.getD i ⟨#[]⟩)).2 then x else none) := by
 have e2 : q.getD i ⟨#[]⟩ = q[i] := by simp [List.getD, h]
 have hc := rc (hs _ (List.getElem_mem h))
 rw [e2] at hx ⊢
 cases hf : (rdd q[i]).2 with
 | true =>
  have st : g8 (m + 1) ks q i k id t n = g8 m ks q (i + 1) k (rdd q[i]).1 t n := by
   simp only [g8, l8, r8, rs_len, Lib.dlt, h, hk, decide_true, Lib.dle0, Bool.and_self, cond_true, cond_false, Lib.toN, cS, e2, hc, rw_, hf, hb, Bool.not_true, show decide (((105 : Nat) : Int) = 105) = true from rfl, Lib.w64_s h (show q.length <= 9223372036854775807 by omega)]
  rw [st, cond_true]
  exact hx
 | false =>
  rw [cond_false]
  refine ⟨⟨k, (rdd q[i]).1, t, n, []⟩, false, ?_, rfl⟩
  simp only [g8, l8, r8, rs_len, Lib.dlt, h, hk, decide_true, Lib.dle0, Bool.and_self, cond_true, cond_false, Lib.toN, cS, e2, hc, rw_, hf, hb, Bool.not_false, show decide (((105 : Nat) : Int) = 105) = true from rfl]
theorem stn (m : Nat) (hb : btN ks i = 110) (k id : Int) (t : ByteArray) (n : Int) (x : Option Ev) (hx : G (g8 m ks q (i + 1) k id t (rdd (q.getD i ⟨#[]⟩)).1) x) : G (g8 (m + 1) ks q i k id t n) (bif (rdd (q.getD i ⟨#[]⟩)).2 then x else none) := by
 have e2 : q.getD i ⟨#[]⟩ = q[i] := by simp [List.getD, h]
 have hc := rc (hs _ (List.getElem_mem h))
 rw [e2] at hx ⊢
 cases hf : (rdd q[i]).2 with
 | true =>
  have st : g8 (m + 1) ks q i k id t n = g8 m ks q (i + 1) k id t (rdd q[i]).1 := by
   simp only [g8, l8, r8, rs_len, Lib.dlt, h, hk, decide_true, Lib.dle0, Bool.and_self, cond_true, cond_false, Lib.toN, cS, e2, hc, rw_, hf, hb, Bool.not_true, show decide (((110 : Nat) : Int) = 105) = false from rfl, show decide (((110 : Nat) : Int) = 110) = true from rfl, Lib.w64_s h (show q.length <= 9223372036854775807 by omega)]
  rw [st, cond_true]
  exact hx
 | false =>
  rw [cond_false]
  refine ⟨⟨k, id, t, (rdd q[i]).1, []⟩, false, ?_, rfl⟩
  simp only [g8, l8, r8, rs_len, Lib.dlt, h, hk, decide_true, Lib.dle0, Bool.and_self, cond_true, cond_false, Lib.toN, cS, e2, hc, rw_, hf, hb, Bool.not_false, show decide (((110 : Nat) : Int) = 105) = false from rfl, show decide (((110 : Nat) : Int) = 110) = true from rfl]
theorem stt (m : Nat) (hb : btN ks i = 116) (k id : Int) (t : ByteArray) (n : Int) (x : Option Ev) (hx : G (g8 m ks q (i + 1) k id (q.getD i ⟨#[]⟩) n) x) : G (g8 (m + 1) ks q i k id t n) x := by
 have e2 : q.getD i ⟨#[]⟩ = q[i] := by simp [List.getD, h]
 have hc := rc (hs _ (List.getElem_mem h))
 rw [e2] at hx
 have st : g8 (m + 1) ks q i k id t n = g8 m ks q (i + 1) k id q[i] n := by
  simp only [g8, l8, r8, rs_len, Lib.dlt, h, hk, decide_true, Lib.dle0, Bool.and_self, cond_true, cond_false, Lib.toN, cS, e2, hc, rw_, hb, show decide (((116 : Nat) : Int) = 105) = false from rfl, show decide (((116 : Nat) : Int) = 110) = false from rfl, Lib.w64_s h (show q.length <= 9223372036854775807 by omega)]
 rw [st]
 exact hx
end
abbrev it : ByteArray := ⟨#[105, 116]⟩
abbrev inn : ByteArray := ⟨#[105, 110]⟩
abbrev ii : ByteArray := ⟨#[105]⟩
abbrev nn : ByteArray := ⟨#[110]⟩
def fm (w : ByteArray) : Int × ByteArray := bif decide (w = wd 0) then (1, it) else bif decide (w = wd 1) then (2, it) else bif decide (w = wd 2) then (3, inn) else bif decide (w = wd 3) then (4, ii) else bif decide (w = wd 4) then (5, nn) else bif decide (w = wd 5) then (6, ii) else bif decide (w = wd 6) then (7, Z) else (0, Z)
theorem form_eq (w : ByteArray) : U62.v w = fm w := by
 unfold U62.v fm
 simp only [beqB]
 rfl
theorem fm_none {w : ByteArray} (h : ∀ j, j < 7 -> w ≠ wd j) : fm w = (0, Z) := by
 unfold fm
 simp only [decide_eq_false (h 0 (by omega)), decide_eq_false (h 1 (by omega)), decide_eq_false (h 2 (by omega)), decide_eq_false (h 3 (by omega)), decide_eq_false (h 4 (by omega)), decide_eq_false (h 5 (by omega)), decide_eq_false (h 6 (by omega)), cond_false]
theorem view1 (p : List ByteArray) : view (rs p) (Int.toNat 1) (Int.toNat ((p.length : Nat) : Int)) = rs (p.drop 1) := by
 unfold view Lib.rs
 rw [show Int.toNat 1 = 1 from rfl, Lib.toN, List.take_of_length_le (by simp), List.map_drop]
theorem bodyE (p : List ByteArray) (hp : 0 < p.length) (kk : Int) (ks : ByteArray) (hf : U62.v (p.getD 0 ⟨#[]⟩) = (kk, ks)) (h7 : kk ≠ 7) (h0 : kk ≠ 0) (hks : ks.size <= 2) :
  vo (rs p) = bif (((p.length : Nat) : Int) != ((ks.size + 1 : Nat) : Int)) then some (kk, 0, Z, 0, [], false) else g8 Lib.big ks (p.drop 1) 0 kk 0 Z 0 := by
 unfold vo b
 rw [rs_len, decide_eq_true (show (0 : Int) < ((p.length : Nat) : Int) by omega), cond_true, show Int.toNat 0 = 0 from rfl, cS, hf]
 dsimp only
 rw [decide_eq_false h7, cond_false, decide_eq_false h0, cond_false, w64_ok (by omega) (by omega), view1, rs_len, show inB 1 ((p.length : Nat) : Int) ((p.length : Nat) : Int) = true from by unfold inB; simp; omega, cond_true]
 rfl
theorem post (p : List ByteArray) (hp : 0 < p.length) (hl : p.length <= 600) (hs : ∀ x ∈ p, x.size <= 600) : G (vo (rs p)) (E p) := by
 have hq : (p.drop 1).length <= 600 := by simp; omega
 have hsq : ∀ x ∈ p.drop 1, x.size <= 600 := fun x hx => hs x (List.mem_of_mem_drop hx)
 have d0 : (p.drop 1).getD 0 ⟨#[]⟩ = p.getD 1 ⟨#[]⟩ := by simp [List.getD]
 have d1 : (p.drop 1).getD 1 ⟨#[]⟩ = p.getD 2 ⟨#[]⟩ := by simp [List.getD]
 have miss : ∀ (kk : Int) {x : Option Ev}, x = none -> G (some (kk, 0, Z, 0, [], false)) x := fun kk x h => ⟨⟨kk, 0, Z, 0, []⟩, false, rfl, h.symm⟩
 have e0 : (Lib.big) = 18446744073709551613 + 1 + 1 + 1 := rfl
 by_cases h0 : p.getD 0 ⟨#[]⟩ = wd 0
 ·rw [A_Et.E0 h0, bodyE p hp 1 it (by rw [form_eq, h0]; decide +kernel) (by omega) (by omega) (by decide)]
  by_cases hn : p.length = 3
  ·have hn2 : (p.drop 1).length = 2 := by simp; omega
   rw [hn, if_pos rfl, show ((((3 : Nat)) : Int) != ((it.size + 1 : Nat) : Int)) = false from rfl, cond_false, e0]
   have k3 := fin 18446744073709551613 it (p.drop 1) 1 (rdd (p.getD 1 ⟨#[]⟩)).1 (p.getD 2 ⟨#[]⟩) 0
   rw [hn2] at k3
   have k2 := stt hq hsq (i := 1) (by omega) (show 1 < it.size by decide) (18446744073709551613 + 1) rfl 1 (rdd (p.getD 1 ⟨#[]⟩)).1 Z 0 _ (by rw [d1]; exact k3)
   have k1 := sti hq hsq (i := 0) (by omega) (show 0 < it.size by decide) (18446744073709551613 + 1 + 1) rfl 1 0 Z 0 _ (by rw [d0]; exact k2)
   rw [d0] at k1
   refine Gx k1 ?_
   unfold A_Et.res
   cases (rdd (p.getD 1 ⟨#[]⟩)).2 <;> rfl
  ·rw [if_neg hn, show (((p.length : Nat) : Int) != ((it.size + 1 : Nat) : Int)) = true from bne_iff_ne.2 (by show ((p.length : Nat) : Int) ≠ 3; omega), cond_true]
   exact miss _ rfl
 by_cases h1 : p.getD 0 ⟨#[]⟩ = wd 1
 ·rw [A_Et.E1 h1, bodyE p hp 2 it (by rw [form_eq, h1]; decide +kernel) (by omega) (by omega) (by decide)]
  by_cases hn : p.length = 3
  ·have hn2 : (p.drop 1).length = 2 := by simp; omega
   rw [hn, if_pos rfl, show ((((3 : Nat)) : Int) != ((it.size + 1 : Nat) : Int)) = false from rfl, cond_false, e0]
   have k3 := fin 18446744073709551613 it (p.drop 1) 2 (rdd (p.getD 1 ⟨#[]⟩)).1 (p.getD 2 ⟨#[]⟩) 0
   rw [hn2] at k3
   have k2 := stt hq hsq (i := 1) (by omega) (show 1 < it.size by decide) (18446744073709551613 + 1) rfl 2 (rdd (p.getD 1 ⟨#[]⟩)).1 Z 0 _ (by rw [d1]; exact k3)
   have k1 := sti hq hsq (i := 0) (by omega) (show 0 < it.size by decide) (18446744073709551613 + 1 + 1) rfl 2 0 Z 0 _ (by rw [d0]; exact k2)
   rw [d0] at k1
   refine Gx k1 ?_
   unfold A_Et.res
   cases (rdd (p.getD 1 ⟨#[]⟩)).2 <;> rfl
  ·rw [if_neg hn, show (((p.length : Nat) : Int) != ((it.size + 1 : Nat) : Int)) = true from bne_iff_ne.2 (by show ((p.length : Nat) : Int) ≠ 3; omega), cond_true]
   exact miss _ rfl
 by_cases h2 : p.getD 0 ⟨#[]⟩ = wd 2
 ·rw [A_Et.E2 h2, bodyE p hp 3 inn (by rw [form_eq, h2]; decide +kernel) (by omega) (by omega) (by decide)]
  by_cases hn : p.length = 3
  ·have hn2 : (p.drop 1).length = 2 := by simp; omega
   rw [hn, if_pos rfl, show ((((3 : Nat)) : Int) != ((inn.size + 1 : Nat) : Int)) = false from rfl, cond_false, e0]
   have k3 := fin 18446744073709551613 inn (p.drop 1) 3 (rdd (p.getD 1 ⟨#[]⟩)).1 Z (rdd (p.getD 2 ⟨#[]⟩)).1
   rw [hn2] at k3
   have k2 := stn hq hsq (i := 1) (by omega) (show 1 < inn.size by decide) (18446744073709551613 + 1) rfl 3 (rdd (p.getD 1 ⟨#[]⟩)).1 Z 0 _ (by rw [d1]; exact k3)
   have k1 := sti hq hsq (i := 0) (by omega) (show 0 < inn.size by decide) (18446744073709551613 + 1 + 1) rfl 3 0 Z 0 _ (by rw [d0]; exact k2)
   rw [d0, d1] at k1
   refine Gx k1 ?_
   unfold A_Et.res
   cases (rdd (p.getD 1 ⟨#[]⟩)).2 <;> cases (rdd (p.getD 2 ⟨#[]⟩)).2 <;> rfl
  ·rw [if_neg hn, show (((p.length : Nat) : Int) != ((inn.size + 1 : Nat) : Int)) = true from bne_iff_ne.2 (by show ((p.length : Nat) : Int) ≠ 3; omega), cond_true]
   exact miss _ rfl
 by_cases h3 : p.getD 0 ⟨#[]⟩ = wd 3
 ·rw [A_Et.E3 h3, bodyE p hp 4 ii (by rw [form_eq, h3]; decide +kernel) (by omega) (by omega) (by decide)]
  by_cases hn : p.length = 2
  ·have hn2 : (p.drop 1).length = 1 := by simp; omega
   rw [hn, if_pos rfl, show ((((2 : Nat)) : Int) != ((ii.size + 1 : Nat) : Int)) = false from rfl, cond_false, e0]
   have k3 := fin (18446744073709551613 + 1) ii (p.drop 1) 4 (rdd (p.getD 1 ⟨#[]⟩)).1 Z 0
   rw [hn2] at k3
   have k1 := sti hq hsq (i := 0) (by omega) (show 0 < ii.size by decide) (18446744073709551613 + 1 + 1) rfl 4 0 Z 0 _ (by rw [d0]; exact k3)
   rw [d0] at k1
   refine Gx k1 ?_
   unfold A_Et.res
   cases (rdd (p.getD 1 ⟨#[]⟩)).2 <;> rfl
  ·rw [if_neg hn, show (((p.length : Nat) : Int) != ((ii.size + 1 : Nat) : Int)) = true from bne_iff_ne.2 (by show ((p.length : Nat) : Int) ≠ 2; omega), cond_true]
   exact miss _ rfl
 by_cases h4 : p.getD 0 ⟨#[]⟩ = wd 4
 ·rw [A_Et.E4 h4, bodyE p hp 5 nn (by rw [form_eq, h4]; decide +kernel) (by omega) (by omega) (by decide)]
  by_cases hn : p.length = 2
  ·have hn2 : (p.drop 1).length = 1 := by simp; omega
   rw [hn, if_pos rfl, show ((((2 : Nat)) : Int) != ((nn.size + 1 : Nat) : Int)) = false from rfl, cond_false, e0]
   have k3 := fin (18446744073709551613 + 1) nn (p.drop 1) 5 0 Z (rdd (p.getD 1 ⟨#[]⟩)).1
   rw [hn2] at k3
   have k1 := stn hq hsq (i := 0) (by omega) (show 0 < nn.size by decide) (18446744073709551613 + 1 + 1) rfl 5 0 Z 0 _ (by rw [d0]; exact k3)
   rw [d0] at k1
   refine Gx k1 ?_
   unfold A_Et.res
   cases (rdd (p.getD 1 ⟨#[]⟩)).2 <;> rfl
  ·rw [if_neg hn, show (((p.length : Nat) : Int) != ((nn.size + 1 : Nat) : Int)) = true from bne_iff_ne.2 (by show ((p.length : Nat) : Int) ≠ 2; omega), cond_true]
   exact miss _ rfl
 by_cases h5 : p.getD 0 ⟨#[]⟩ = wd 5
 ·rw [A_Et.E5 h5, bodyE p hp 6 ii (by rw [form_eq, h5]; decide +kernel) (by omega) (by omega) (by decide)]
  by_cases hn : p.length = 2
  ·have hn2 : (p.drop 1).length = 1 := by simp; omega
   rw [hn, if_pos rfl, show ((((2 : Nat)) : Int) != ((ii.size + 1 : Nat) : Int)) = false from rfl, cond_false, e0]
   have k3 := fin (18446744073709551613 + 1) ii (p.drop 1) 6 (rdd (p.getD 1 ⟨#[]⟩)).1 Z 0
   rw [hn2] at k3
   have k1 := sti hq hsq (i := 0) (by omega) (show 0 < ii.size by decide) (18446744073709551613 + 1 + 1) rfl 6 0 Z 0 _ (by rw [d0]; exact k3)
   rw [d0] at k1
   refine Gx k1 ?_
   unfold A_Et.res
   cases (rdd (p.getD 1 ⟨#[]⟩)).2 <;> rfl
  ·rw [if_neg hn, show (((p.length : Nat) : Int) != ((ii.size + 1 : Nat) : Int)) = true from bne_iff_ne.2 (by show ((p.length : Nat) : Int) ≠ 2; omega), cond_true]
   exact miss _ rfl
 by_cases h6 : p.getD 0 ⟨#[]⟩ = wd 6
 ·rw [A_Et.E6 h6]
  obtain ⟨e, b, c1, c2, c3⟩ := U63.ok (p.drop 1) hq hsq
  refine ⟨e, b, ?_, c3⟩
  have hf : U62.v (p.getD 0 ⟨#[]⟩) = (7, Z) := by rw [form_eq, h6]; decide +kernel
  unfold vo U36.b
  rw [rs_len, decide_eq_true (show (0 : Int) < ((p.length : Nat) : Int) by omega), cond_true, show Int.toNat 0 = 0 from rfl, cS, hf, show decide ((7 : Int) = 7) = true from rfl, cond_true, view1, show inB 1 ((p.length : Nat) : Int) ((p.length : Nat) : Int) = true from by unfold inB; simp; omega, cond_true, c1, c2, cond_true]
 ·have hall : ∀ j, j < 7 -> p.getD 0 ⟨#[]⟩ ≠ wd j := fun j hj => by
   match j, hj with
   | 0, _ => exact h0
   | 1, _ => exact h1
   | 2, _ => exact h2
   | 3, _ => exact h3
   | 4, _ => exact h4
   | 5, _ => exact h5
   | 6, _ => exact h6
  have hf : U62.v (p.getD 0 ⟨#[]⟩) = (0, Z) := by rw [form_eq, fm_none hall]
  rw [A_Et.En hall]
  refine ⟨⟨0, 0, Z, 0, []⟩, false, ?_, rfl⟩
  unfold vo b
  rw [rs_len, decide_eq_true (show (0 : Int) < ((p.length : Nat) : Int) by omega), cond_true, show Int.toNat 0 = 0 from rfl, cS, hf, show decide ((0 : Int) = 7) = false from rfl, cond_false, show decide ((0 : Int) = 0) = true from rfl, cond_true]
theorem ok (p : List ByteArray) (hp : 0 < p.length) (hl : p.length <= 600) (hs : ∀ x ∈ p, x.size <= 600) : ∃ (e : Ev) (b : Bool), c (rs p) = true /\ v (rs p) = (e.k, e.id, e.t, e.n, e.l, b) /\ told e b = E p := by
 obtain ⟨e, b, h1, h2⟩ := post p hp hl hs
 obtain ⟨k1, k2⟩ := out _ h1
 exact ⟨e, b, k1, k2, h2⟩
end U36

namespace U11
open _root_.Go.FG.Lib (rs)
open A_Wo (Ev evOk)
open A_Ev (rv Evr rv_len)
open A_Wp (parts W)
open A_Et (E cS rs_len res)
open A_Ln (lines)
open A_Rs (scr script idle hsh hash_int rv_snoc parts_ok)
abbrev T2 := Row × Int
abbrev J0 : Int -> Row -> Int -> Int -> Row -> Option T2 := fun y5 y6 y7 y8 y9 => some ([], y5)
abbrev J1 : Int -> Row -> Int -> Int -> Row -> Option T2 := fun y10 y11 y12 y13 y14 => some (y14, 0)
abbrev g7 (m : Nat) (ls : List ByteArray) (i : Nat) (acc : List Ev) : Option T2 := l8 Lib.big J0 J1 m 0 (rs ls) (ls.length : Int) (i : Int) (rv acc)
theorem stop (m : Nat) (ls : List ByteArray) (acc : List Ev) : g7 (m + 1) ls ls.length acc = some (rv acc, 0) := by
 simp only [g7, l8, r8, rs_len, Lib.dlt, Nat.lt_irrefl, decide_false, cond_false]
section
variable {ls : List ByteArray} {i : Nat} (h : i < ls.length) (hl : ls.length <= 90) (acc : List Ev) (m : Nat)
include h hl
theorem st0 (hq : (parts ls[i]).2 = false) : g7 (m + 1) ls i acc = some ([], ((i + 1 : Nat) : Int)) := by
 have e2 : ls.getD i ⟨#[]⟩ = ls[i] := by simp [List.getD, h]
 obtain ⟨hpc, hpv⟩ := U35.ok ls[i]
 rw [hq] at hpv
 simp only [g7, l8, r8, rs_len, Lib.dlt, h, decide_true, Lib.dle0, Bool.and_self, cond_true, Lib.toN, cS, e2, hpc, hpv, cond_false, Bool.not_false, Lib.w64_s h (show ls.length <= 9223372036854775807 by omega)]
theorem st1 (hq : (parts ls[i]).2 = true) (hi : idle (parts ls[i]).1 = true) : g7 (m + 1) ls i acc = g7 m ls (i + 1) acc := by
 have e2 : ls.getD i ⟨#[]⟩ = ls[i] := by simp [List.getD, h]
 obtain ⟨hpc, hpv⟩ := U35.ok ls[i]
 have ho := (parts_ok hq).2
 rw [hq] at hpv
 cases hp : (parts ls[i]).1 with
 | nil =>
  rw [hp] at hpv
  simp only [g7, l8, r8, rs_len, Lib.dlt, h, decide_true, Lib.dle0, Bool.and_self, cond_true, Lib.toN, cS, e2, hpc, hpv, show (([] : List ByteArray)).length = 0 from rfl, show decide (((0 : Nat) : Int) = 0) = true from rfl, show decide (((([] : List ByteArray).length : Nat) : Int) = 0) = true from rfl, Lib.w64_s h (show ls.length <= 9223372036854775807 by omega)]
 | cons w t =>
  rw [hp] at hpv hi ho
  have hi : hsh w = true := hi
  have hw := (ho w List.mem_cons_self).1
  have z1 : decide ((((w :: t).length : Nat) : Int) = 0) = false := decide_eq_false (by rw [List.length_cons]; omega)
  have z2 : decide ((0 : Int) < (((w :: t).length : Nat) : Int)) = true := decide_eq_true (by rw [List.length_cons]; omega)
  have z3 : decide ((0 : Int) < ((w.size : Nat) : Int)) = true := decide_eq_true (by omega)
  simp only [g7, l8, r8, rs_len, Lib.dlt, h, decide_true, Lib.dle0, Bool.and_self, cond_true, Lib.toN, cS, e2, hpc, hpv, cond_false, z1, z2, show Int.toNat (0 : Int) = 0 from rfl, show (w :: t).getD 0 ⟨#[]⟩ = w from rfl, z3, hash_int, hi, Lib.w64_s h (show ls.length <= 9223372036854775807 by omega)]
theorem st2 (hq : (parts ls[i]).2 = true) (hi : idle (parts ls[i]).1 = false) (ha : acc.length <= 70) : g7 (m + 1) ls i acc = (match E (parts ls[i]).1 with | none => some ([], ((i + 1 : Nat) : Int)) | some e => bif decide (acc.length = 70) then some ([], ((i + 1 : Nat) : Int)) else g7 m ls (i + 1) (acc ++ [e])) := by
 have e2 : ls.getD i ⟨#[]⟩ = ls[i] := by simp [List.getD, h]
 obtain ⟨hpc, hpv⟩ := U35.ok ls[i]
 obtain ⟨hn, ho⟩ := parts_ok hq
 rw [hq] at hpv
 cases hp : (parts ls[i]).1 with
 | nil => rw [hp] at hi; cases hi
 | cons w t =>
  rw [hp] at hpv hi ho hn
  have hi : hsh w = false := hi
  have hw := (ho w List.mem_cons_self).1
  have z1 : decide ((((w :: t).length : Nat) : Int) = 0) = false := decide_eq_false (by rw [List.length_cons]; omega)
  have z2 : decide ((0 : Int) < (((w :: t).length : Nat) : Int)) = true := decide_eq_true (by rw [List.length_cons]; omega)
  have z3 : decide ((0 : Int) < ((w.size : Nat) : Int)) = true := decide_eq_true (by omega)
  obtain ⟨e, b, hec, hev, hE⟩ := U36.ok (w :: t) (by simp) (by omega) (fun x hx => (ho x hx).2)
  rw [<- hE]
  have st : g7 (m + 1) ls i acc = bif !b then some ([], ((i + 1 : Nat) : Int)) else bif decide (((acc.length : Nat) : Int) = 70) then some ([], ((i + 1 : Nat) : Int)) else bif roomy (acc.length + 1) 64 then g7 m ls (i + 1) (acc ++ [e]) else none := by
   simp only [g7, l8, r8, rs_len, Lib.dlt, h, decide_true, Lib.dle0, Bool.and_self, cond_true, Lib.toN, cS, e2, hpc, hpv, cond_false, z1, z2, show Int.toNat (0 : Int) = 0 from rfl, show (w :: t).getD 0 ⟨#[]⟩ = w from rfl, z3, hash_int, hi, hec, hev, Bool.not_true, cond_false, rv_len, rv_snoc, Lib.w64_s h (show ls.length <= 9223372036854775807 by omega)]
   rfl
  have rm : roomy (acc.length + 1) 64 = true := Lib.roomy_of (by omega) (by omega)
  have d7 : decide (((acc.length : Nat) : Int) = 70) = decide (acc.length = 70) := by rw [decide_eq_decide]; omega
  rw [st, rm, d7]
  cases b <;> rfl
end
theorem run (ls : List ByteArray) (hl : ls.length <= 90) : ∀ (m i : Nat) (acc : List Ev), i <= ls.length -> ls.length - i < m -> acc.length <= 70 -> g7 m ls i acc = some (rv (scr i (ls.drop i) acc).1, (scr i (ls.drop i) acc).2) := by
 intro m
 induction m with
 | zero => intro i acc _ h; omega
 | succ m ih =>
  intro i acc hi hm ha
  by_cases h : i < ls.length
  ·rw [List.drop_eq_getElem_cons h, scr]
   cases hq : (parts ls[i]).2 with
   | false => rw [st0 h hl acc m hq]; rfl
   | true =>
    rw [cond_true]
    cases hd : idle (parts ls[i]).1 with
    | true => rw [st1 h hl acc m hq hd, cond_true]; exact ih (i + 1) acc h (by omega) ha
    | false =>
     rw [st2 h hl acc m hq hd ha, cond_false]
     cases hE : E (parts ls[i]).1 with
     | none => rfl
     | some e =>
      dsimp only
      by_cases h70 : acc.length = 70
      ·rw [decide_eq_true h70]; rfl
      ·rw [decide_eq_false h70, cond_false, cond_false]
       exact ih (i + 1) _ h (by omega) (by simp; omega)
  ·have : i = ls.length := by omega
   subst this
   rw [stop, List.drop_length, scr]
theorem ok (s : ByteArray) (h : s.size <= 4000000000) : c s = true /\ v s = (rv (script s).1, (script s).2) := by
 refine out _ ?_
 unfold vo b
 have c1 := A_Sp.split_c 10 s h
 have c2 := A_Sp.split_v 10 s
 obtain ⟨A, Z, h1, h2⟩ := A_Ln.lines_two s
 have hA := A_Wp.pcs_len 10 s
 rw [h1, List.length_append, List.length_singleton] at hA
 rw [show ({ data := #[UInt8.ofNat 10] } : ByteArray) = ⟨#[10]⟩ from rfl, c1, cond_true, c2, h1, rs_len, List.length_append, List.length_singleton]
 have e1 : w64 (((A.length + 1 : Nat) : Int) - 1) = ((A.length : Nat) : Int) := by rw [w64_ok (by omega) (by omega)]; omega
 have e3 : (A ++ [Z]).getD A.length ⟨#[]⟩ = Z := by simp [List.getD]
 have hb : inB 0 ((A.length : Nat) : Int) ((A.length + 1 : Nat) : Int) = true := by unfold inB; simp; omega
 have hv : view (rs (A ++ [Z])) (Int.toNat 0) A.length = rs A := by
  unfold view Lib.rs
  rw [show Int.toNat 0 = 0 from rfl, List.drop_zero, Nat.sub_zero, List.map_append, List.take_left' (by simp)]
 rw [e1, Lib.dle0, decide_eq_true (show ((A.length : Nat) : Int) < ((A.length + 1 : Nat) : Int) by omega), Bool.and_self, cond_true, Lib.toN, cS, e3, A_Et.beqB, hb, cond_true, hv, rs_len]
 have fin : ∀ ls : List ByteArray, lines s = ls -> (bif decide (((s.size : Nat) : Int) > 3000) then some (([] : Row), (-1 : Int)) else bif decide (((ls.length : Nat) : Int) > 90) then some ([], -1) else g7 Lib.big ls 0 []) = some (rv (script s).1, (script s).2) := by
  intro ls e
  unfold A_Rs.script
  rw [e]
  by_cases hs : (s.size : Int) > 3000
  ·rw [decide_eq_true hs, cond_true, decide_eq_false (show ¬ s.size <= 3000 by omega)]; rfl
  ·rw [decide_eq_false hs, cond_false, decide_eq_true (show s.size <= 3000 by omega)]
   by_cases hl : ((ls.length : Nat) : Int) > 90
   ·rw [decide_eq_true hl, cond_true, decide_eq_false (show ¬ ls.length <= 90 by omega)]; rfl
   ·rw [decide_eq_false hl, cond_false, decide_eq_true (show ls.length <= 90 by omega)]
    exact run ls (by omega) Lib.big 0 [] (Nat.zero_le _) (lt_big (by omega)) (by simp)
 by_cases hZ : Z.size = 0
 ·rw [if_pos hZ] at h2
  have hz : Z = ⟨#[]⟩ := ByteArray.ext (Array.size_eq_zero_iff.1 hZ)
  rw [decide_eq_true hz, cond_true]
  exact fin A h2
 ·rw [if_neg hZ] at h2
  have hz : ¬ Z = ⟨#[]⟩ := fun e => hZ (by rw [e]; rfl)
  rw [decide_eq_false hz, cond_false]
  rw [show A.length + 1 = (A ++ [Z]).length by simp]
  exact fin (A ++ [Z]) h2
end U11

namespace U12
theorem run (a : Row) (hl : a.length <= 9223372036854775807) : vo a a = some true := by
 unfold vo b
 rw [show ((a.length : Int) != (a.length : Int)) = false from bne_self_eq_false _, cond_false]
 have := Lib.loop_gen (fun n (i : Nat) => l4 Lib.big (fun (_ _ : Row) (y : Bool) (_ : Int) => some y) (fun (_ _ : Row) (_ : Bool) (_ : Int) => some true) n a a false (i : Int)) (fun i => a.length - i) (fun i => i <= a.length) (fun _ => some true) (fun n i hi => by
  by_cases h : i < a.length
  ·right
   refine ⟨i + 1, h, by omega, rfl, ?_⟩
   have hi1 : w64 ((i : Int) + 1) = ((i + 1 : Nat) : Int) := w64_ok (by omega) (by omega)
   have hel : ∀ (x0 x1 : Int) (x2 : ByteArray) (x3 : Int) (x4 : Row), U37.v x0 x1 x2 x3 x4 x0 x1 x2 x3 x4 = true := fun _ _ _ _ _ => by
    simp only [U37.v, bne_self_eq_false, beq_refl_ba, U66.refl, Bool.not_true, cond_false]
   simp only [l4, r4, Lib.dlt, h, decide_true, Lib.dle0, Bool.and_self, cond_true, Lib.toN, hi1, hel, Bool.not_true, cond_false]
  ·left
   simp only [l4, r4, Lib.dlt, h, decide_false, cond_false]) Lib.big 0 (Nat.zero_le _) (lt_big (by omega))
 exact this
theorem ok (a : Row) (hl : a.length <= 9223372036854775807) : c a a = true /\ v a a = true := out a a (run a hl)
end U12

namespace U40
theorem run (k1 : Int) (a : Nat) (hl : a <= 4194304) (h0 : 0 <= k1) (h1 : k1 <= 1000000000000) : vo (U39.mkl k1 a) k1 = some (k1 + 1 * (a : Int)) := by
 have hml := U39.mkl_len k1 a
 unfold vo b
 have := Lib.loop_gen (fun n (i : Nat) => l2 Lib.big (fun (_ : Row) (_ y6 _ : Int) => some y6) (fun (_ : Row) (y9 _ _ : Int) => some y9) n (U39.mkl k1 a) (k1 + 1 * (i : Int)) 0 (i : Int)) (fun i => a - i) (fun i => i <= a) (fun _ => some (k1 + 1 * (a : Int))) (fun n i hi => by
  by_cases h : i < a
  ·right
   refine ⟨i + 1, h, by omega, rfl, ?_⟩
   have eA : k1 + 1 * ((i + 1 : Nat) : Int) = (k1 + 1 * (i : Int)) + 1 := by omega
   show l2 Lib.big _ _ (n + 1) (U39.mkl k1 a) (k1 + 1 * (i : Int)) 0 (i : Int) = l2 Lib.big _ _ n (U39.mkl k1 a) (k1 + 1 * ((i + 1 : Nat) : Int)) 0 ((i + 1 : Nat) : Int)
   rw [eA]
   have ce0 : cvI (cellAt (U39.mkl k1 a) i 0) = k1 + 1 * (i : Int) := by
    unfold U39.mkl; rw [cellAt_rm _ _ _ _ h]; rfl
   have hk0 : 0 <= k1 + 1 * (i : Int) := by omega
   have hk1 : k1 + 1 * (i : Int) <= 2000000000000 := by omega
   generalize k1 + 1 * (i : Int) = k at *
   have hi1 : w64 ((i : Int) + 1) = ((i + 1 : Nat) : Int) := w64_ok (by omega) (by omega)
   simp only [l2, r2, hml, Lib.dlt, h, decide_true, Lib.dle0, Bool.and_self, cond_true, Lib.toN, ce0, w64_ok (x := k + 1) (by omega) (by omega), hi1, bne_self_eq_false, cond_false, beq_refl_ba, Bool.not_true]
  ·left
   have : i = a := by omega
   subst this
   simp only [l2, r2, hml, Lib.dlt, Nat.lt_irrefl, decide_false, cond_false]) Lib.big 0 (Nat.zero_le _) (lt_big (by omega))
 simpa using this
theorem ok (k1 : Int) (a : Nat) (hl : a <= 4194304) (h0 : 0 <= k1) (h1 : k1 <= 1000000000000) : c (U39.mkl k1 a) k1 = true /\ v (U39.mkl k1 a) k1 = k1 + 1 * (a : Int) := out _ _ (run k1 a hl h0 h1)
end U40

namespace U14
open A_Wo (Ev)
open U13 (wd sz mkk mkk_len sz_succ sz_take)
theorem mkk_app : ∀ (a : List Ev) (k : Int) (b : List Ev), mkk k (a ++ b) = mkk k a ++ mkk (k + (sz a : Nat)) b
 | [], k, b => by simp [U13.mkk, U13.sz]
 | m :: a, k, b => by
  have h : k + ((wd m : Nat) : Int) + ((sz a : Nat) : Int) = k + ((sz (m :: a) : Nat) : Int) := by unfold U13.sz; rw [List.map_cons, List.sum_cons]; omega
  simp only [List.cons_append, U13.mkk]
  rw [mkk_app a _ b, h]
theorem ok (s : List Ev) (k : Int) (hl : s.length <= 4194304) (ht : sz s <= 40000000) (hq : ∀ e ∈ s, e.l.length <= 4194304) (h0 : 0 <= k) (h1 : k <= 500000000000) : c (mkk k s) k = true /\ v (mkk k s) k = k + (sz s : Nat) := by
 refine out _ _ ?_
 unfold vo b
 have key := for_run s.length (fun m (i : Nat) (t : Int) => l2 Lib.big (fun (_ : Row) (_ y6 _ : Int) => some y6) (fun (_ : Row) (y9 _ _ : Int) => some y9) m (mkk k s) t 0 (i : Int)) (fun i => k + ((sz (s.take i) : Nat) : Int)) (some (k + ((sz s : Nat) : Int))) (fun m i h => by
  have hA : (mkk k (s.take i)).length = i := by rw [mkk_len]; simp; omega
  have hb := sz_take s i
  have hq2 := hq _ (List.getElem_mem h)
  have es : mkk k s = mkk k (s.take i) ++ mkk (k + ((sz (s.take i) : Nat) : Int)) (s[i] :: s.drop (i + 1)) := by
   rw [<- List.drop_eq_getElem_cons h, <- mkk_app, List.take_append_drop]
  have hk0 : 0 <= k + ((sz (s.take i) : Nat) : Int) := by omega
  have hk1 : k + ((sz (s.take i) : Nat) : Int) <= 600000000000 := by omega
  have hL : (mkk k s).length = s.length := mkk_len s k
  rw [sz_succ s i h, show k + ((sz (s.take i) + wd s[i] : Nat) : Int) = (k + ((sz (s.take i) : Nat) : Int)) + 1 + 1 + 1 + 1 + 1 * (s[i].l.length : Int) by unfold U13.wd; omega]
  generalize k + ((sz (s.take i) : Nat) : Int) = kk at hk0 hk1 es
  rw [U13.mkk] at es
  have hm := U40.ok (kk + 1 + 1 + 1 + 1) s[i].l.length hq2 (by omega) (by omega)
  have c0 : cellAt (mkk k s) i 0 = CV.i IntKind.i64 kk := by rw [es, cellAt_mid _ _ _ _ _ hA]; rfl
  have c1 : cellAt (mkk k s) i 1 = CV.i IntKind.i64 (kk + 1) := by rw [es, cellAt_mid _ _ _ _ _ hA]; rfl
  have c2 : cellAt (mkk k s) i 2 = CV.s (U38.v (kk + 1 + 1)) := by rw [es, cellAt_mid _ _ _ _ _ hA]; rfl
  have c3 : cellAt (mkk k s) i 3 = CV.i IntKind.i64 (kk + 1 + 1 + 1) := by rw [es, cellAt_mid _ _ _ _ _ hA]; rfl
  have c4 : cellAt (mkk k s) i 4 = CV.l 3 (U39.mkl (kk + 1 + 1 + 1 + 1) s[i].l.length) := by rw [es, cellAt_mid _ _ _ _ _ hA]; rfl
  have hneg : decide ((kk + 1 + 1 + 1 + 1) + 1 * (s[i].l.length : Int) < 0) = false := decide_eq_false (by omega)
  simp only [l2, r2, hL, Lib.dlt, h, decide_true, Lib.dle0, Bool.and_self, cond_true, cond_false, Lib.toN, c0, c1, c2, c3, c4, cvI, cvS, cvL, bne_self_eq_false, beq_refl_ba, Bool.not_true, w64_ok (x := kk + 1) (by omega) (by omega), w64_ok (x := kk + 1 + 1) (by omega) (by omega), w64_ok (x := kk + 1 + 1 + 1) (by omega) (by omega), w64_ok (x := kk + 1 + 1 + 1 + 1) (by omega) (by omega), U38.ok (kk + 1 + 1) (by omega), hm.1, hm.2, hneg, Lib.w64_s h (by omega : s.length <= 9223372036854775807)]) (fun m => by
  have hL : (mkk k s).length = s.length := mkk_len s k
  simp only [List.take_length, l2, r2, hL, Lib.dlt, Nat.lt_irrefl, decide_false, cond_false]) Lib.big 0 (Nat.zero_le _) (lt_big (by omega))
 dsimp only [List.take_zero] at key
 rw [show ((sz [] : Nat) : Int) = 0 from rfl, Int.add_zero] at key
 exact key
end U14

namespace U4
open A_Wo (Ev evOk)
open A_Ev (rv rv_len)
open A_Rs (script script_ok)
theorem szb : ∀ (l : List Ev), (∀ e ∈ l, evOk e = true) -> U13.sz l <= 8 * l.length
 | [], _ => Nat.le_refl _
 | e :: l, h => by
  have h1 := szb l (fun x hx => h x (List.mem_cons_of_mem _ hx))
  have h2 := h e List.mem_cons_self
  have h3 : e.l.length <= 4 := by
   unfold A_Wo.evOk at h2
   simp only [Bool.and_eq_true, decide_eq_true_eq] at h2
   exact h2.2.2.2.2
  unfold U13.sz at h1 ⊢
  rw [List.map_cons, List.sum_cons, List.length_cons]
  unfold U13.wd at h1 ⊢
  omega
theorem run (s : ByteArray) : vo s = some true := by
 unfold vo b
 by_cases hbig : (s.size : Int) > 1048576
 ·rw [decide_eq_true hbig]; rfl
 rw [decide_eq_false hbig, cond_false]
 have S := U10.ok s
 have I := U11.ok s (by omega)
 obtain ⟨hn, hev⟩ := script_ok s
 have hz := szb (script s).1 (fun e he => (hev e he).1)
 have hq : ∀ e ∈ (script s).1, e.l.length <= 4194304 := fun e he => by
  have h2 := (hev e he).1
  unfold A_Wo.evOk at h2
  simp only [Bool.and_eq_true, decide_eq_true_eq] at h2
  have := h2.2.2.2.2
  omega
 have E := U12.ok (rv (script s).1) (by rw [rv_len]; omega)
 have M := U13.ok (script s).1 1 (fun e he => (hev e he).2) (by omega) (by omega) hq (by omega) (by omega)
 have H := U14.ok (script s).1 1 (by omega) (by omega) hq (by omega) (by omega)
 have d1 : decide ((1 : Int) + ((U13.sz (script s).1 : Nat) : Int) < 0) = false := decide_eq_false (by omega)
 simp only [Lib.lt, S.1, S.2, I.1, I.2, E.1, E.2, M.1, M.2, H.1, H.2, d1, bne_self_eq_false, cond_true, cond_false, Bool.not_true]
theorem law (s : ByteArray) {A : Prop} (_ : A) : v s = true := (out _ (run s)).2
theorem lawc (s : ByteArray) {A : Prop} (_ : A) : c s = true := (out _ (run s)).1
end U4

end Go.FG
