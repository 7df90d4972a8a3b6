/- Plain facts on numbers, texts and lists. No condition. -/
import Derived.Test.YtjejmgffiilmlaaGreatCorec
set_option linter.unusedVariables false
set_option linter.unusedSimpArgs false
set_option maxRecDepth 100000
namespace Go.FG.Lib
theorem loop_post {σ β : Type} (F : Nat -> σ -> Option β) (mu : σ -> Nat) (inv : σ -> Prop) (post : β -> Prop)
  (step : ∀ n s, inv s -> (∃ b, F (n + 1) s = some b /\ post b) \/ ∃ s', inv s' /\ mu s' < mu s /\ F (n + 1) s = F n s') : ∀ n s, inv s -> mu s < n -> ∃ b, F n s = some b /\ post b := by
 intro n
 induction n with
 | zero => intro s _ h; omega
 | succ n ih =>
  intro s hi hm
  rcases step n s hi with h | ⟨s', h1, h2, h4⟩
  ·exact h
  ·rw [h4]; exact ih s' h1 (by omega)
theorem lt_big {n : Nat} (h : n <= 9223372036854775807) : n < big := by unfold big; omega
theorem w64_ok {x : Int} (h1 : -9223372036854775808 <= x) (h2 : x <= 9223372036854775807) : w64 x = x := w64_eq h1 h2
theorem beq_refl_ba (a : ByteArray) : List.beq a.toList a.toList = true := beq_self _
theorem tw_lt (p : List CV -> Bool) : ∀ (r : Row) (i : Nat), i < (r.takeWhile p).length -> ∃ h : i < r.length, p r[i] = true
 | [], i, h => by simp at h
 | y :: r, i, h => by
  by_cases hp : p y = true
  ·rw [List.takeWhile_cons_of_pos hp] at h
   cases i with
   | zero => exact ⟨by simp, hp⟩
   | succ i =>
    obtain ⟨h1, h2⟩ := tw_lt p r i (by simpa using h)
    exact ⟨by simpa using h1, by simpa using h2⟩
  ·rw [List.takeWhile_cons_of_neg hp] at h; simp at h
theorem tw_at (p : List CV -> Bool) : ∀ (r : Row) (h : (r.takeWhile p).length < r.length), p r[(r.takeWhile p).length] = false
 | [], h => by simp at h
 | y :: r, h => by
  by_cases hp : p y = true
  ·have e := List.takeWhile_cons_of_pos (l := r) hp
   have h' : (r.takeWhile p).length < r.length := by rw [e] at h; simpa using h
   have := tw_at p r h'
   simp only [e, List.length_cons, List.getElem_cons_succ]
   exact this
  ·have e := List.takeWhile_cons_of_neg (l := r) hp
   simp only [e, List.length_nil, List.getElem_cons_zero]
   simpa using hp
theorem tw_le (p : List CV -> Bool) (r : Row) : (r.takeWhile p).length <= r.length := by
 have := congrArg List.length (List.takeWhile_append_dropWhile (p := p) (l := r))
 rw [List.length_append] at this; omega
theorem take_tw (p : List CV -> Bool) (r : Row) : r.take (r.takeWhile p).length = r.takeWhile p := by
 have e := List.takeWhile_append_dropWhile (p := p) (l := r)
 have := List.take_left (l₁ := r.takeWhile p) (l₂ := r.dropWhile p)
 rw [e] at this; exact this
theorem drop_tw (p : List CV -> Bool) (r : Row) : r.drop (r.takeWhile p).length = r.dropWhile p := by
 have e := List.takeWhile_append_dropWhile (p := p) (l := r)
 have := List.drop_left (l₁ := r.takeWhile p) (l₂ := r.dropWhile p)
 rw [e] at this; exact this
theorem stop_run {R : Type} (p : List CV -> Bool) (r : Row) (F : Nat -> Nat -> Option R) (K : Nat -> Option R)
  (hT : ∀ m i (h : i < r.length), p r[i] = true -> F (m + 1) i = F m (i + 1)) (hF : ∀ m i (h : i < r.length), p r[i] = false -> F (m + 1) i = K i) (hE : ∀ m, F (m + 1) r.length = K r.length)
  (n : Nat) (hn : r.length < n) : F n 0 = K (r.takeWhile p).length := by
 refine loop_gen F (fun i => r.length - i) (fun i => i <= (r.takeWhile p).length) (fun _ => K (r.takeWhile p).length) (fun m i hi => ?_) n 0 (Nat.zero_le _) (by omega)
 have hl := tw_le p r
 by_cases h : i < (r.takeWhile p).length
 ·obtain ⟨h1, h2⟩ := tw_lt p r i h
  exact .inr ⟨i + 1, h, by omega, rfl, hT m i h1 h2⟩
 ·left
  have hi' : i = (r.takeWhile p).length := by omega
  subst hi'
  by_cases h2 : (r.takeWhile p).length < r.length
  ·exact hF m _ h2 (tw_at p r h2)
  ·have h3 : (r.takeWhile p).length = r.length := by omega
   rw [h3]; exact hE m
theorem filt_run {R : Type} (p : List CV -> Bool) (f : List CV -> List CV) (r : Row) (m0 : Nat) (F : Nat -> Nat -> Row -> Option R) (K : Row -> Option R)
  (hT : ∀ m i acc (h : i < r.length), acc.length <= m0 + i -> p r[i] = true -> F (m + 1) i acc = F m (i + 1) (acc ++ [f r[i]])) (hF : ∀ m i acc (h : i < r.length), acc.length <= m0 + i -> p r[i] = false -> F (m + 1) i acc = F m (i + 1) acc)
  (hE : ∀ m acc, F (m + 1) r.length acc = K acc) (n : Nat) (acc : Row) (ha : acc.length <= m0) (hn : r.length < n) : F n 0 acc = K (acc ++ (r.filter p).map f) := by
 have := loop_gen (fun n (s : Nat × Row) => F n s.1 s.2) (fun s => r.length - s.1) (fun s => s.1 <= r.length /\ s.2.length <= m0 + s.1) (fun s => K (s.2 ++ ((r.drop s.1).filter p).map f)) (fun m s hs => by
  obtain ⟨i, acc⟩ := s
  obtain ⟨h1, h2⟩ := hs
  dsimp only at h1 h2 ⊢
  by_cases h : i < r.length
  ·right
   rw [drop_cons_of h]
   cases hp : p r[i] with
   | true => exact ⟨(i + 1, acc ++ [f r[i]]), ⟨h, by simp; omega⟩, by dsimp only; omega, by rw [List.filter_cons_of_pos hp]; simp, hT m i acc h h2 hp⟩
   | false => exact ⟨(i + 1, acc), ⟨h, by dsimp only; omega⟩, by dsimp only; omega, by rw [List.filter_cons_of_neg (by simp [hp])], hF m i acc h h2 hp⟩
  ·left
   have hi : i = r.length := by omega
   subst hi
   rw [List.drop_length]; simpa using hE m acc) n (0, acc) ⟨Nat.zero_le _, by dsimp only; omega⟩ (by dsimp only; omega)
 simpa using this
theorem fit_mem {xs : Row} (ha : FitR xs) (i j : Nat) : Fit (cellAt xs i j) := by
 unfold cellAt
 by_cases hi : i < xs.length
 ·rw [getD_of hi]
  by_cases hj : j < xs[i].length
  ·rw [show xs[i].getD j (.b false) = xs[i][j] by simp [List.getD, hj]]
   exact ha.2 _ (List.getElem_mem hi) _ (List.getElem_mem hj)
  ·rw [show xs[i].getD j (.b false) = .b false by simp [List.getD, Nat.not_lt.1 hj]]; exact Fit.b _
 ·rw [show xs.getD i [] = [] by simp [List.getD, Nat.not_lt.1 hi]]; exact Fit.b _
theorem okS_cell {xs : Row} (ha : FitR xs) (i j : Nat) : okS (cvS (cellAt xs i j)) := by
 have h := fit_mem ha i j
 generalize cellAt xs i j = y at h
 cases h with
 | s x h => exact h
 | _ => exact Nat.zero_le _
theorem FitR_cell {xs : Row} (ha : FitR xs) (i j : Nat) : FitR (cvL (cellAt xs i j)) := by
 have h := fit_mem ha i j
 generalize cellAt xs i j = y at h
 cases h with
 | l e xs h hc => exact ⟨h, hc⟩
 | _ => exact ⟨Nat.zero_le _, fun y hy => by cases hy⟩
theorem all_gen {R : Type} (g : Nat -> Bool) (len : Nat) (F : Nat -> Nat -> Option R) (kf kt : Option R) (hT : ∀ m i, i < len -> g i = true -> F (m + 1) i = F m (i + 1)) (hF : ∀ m i, i < len -> g i = false -> F (m + 1) i = kf) (hE : ∀ m, F (m + 1) len = kt) (n : Nat) (hn : len < n) : F n 0 = bif (List.range len).all g then kt else kf := by
 have := loop_gen F (fun i => len - i) (fun i => i <= len) (fun i => bif (List.range' i (len - i)).all g then kt else kf) (fun m i hi => by
  by_cases h : i < len
  ·have e : (List.range' i (len - i)).all g = (g i && (List.range' (i + 1) (len - (i + 1))).all g) := by
    rw [show len - i = (len - (i + 1)) + 1 by omega, List.range'_succ, List.all_cons]
   cases hp : g i with
   | true => right; exact ⟨i + 1, h, by omega, by rw [e, hp, Bool.true_and], hT m i h hp⟩
   | false => left; rw [e, hp, hF m i h hp]; rfl
  ·left
   have : i = len := by omega
   subst this
   rw [hE, Nat.sub_self]; rfl) n 0 (Nat.zero_le _) (by omega)
 rw [this, Nat.sub_zero, <- List.range_eq_range']
theorem fi_gen {R : Type} (p : Nat -> Bool) (len : Nat) (F : Nat -> Nat -> Option R) (kr : Int -> Option R) (h1 : ∀ m i, i < len -> p i = true -> F (m + 1) i = kr i) (h2 : ∀ m i, i < len -> p i = false -> F (m + 1) i = F m (i + 1)) (h3 : ∀ m, F (m + 1) len = kr (-1)) (n : Nat) (hn : len < n) : F n 0 = kr (fi p len 0) := by
 have := loop_gen F (fun i => len - i) (fun i => i <= len) (fun i => kr (fi p (len - i) i)) (fun m i hi => by
  by_cases h : i < len
  ·have e : len - i = (len - (i + 1)) + 1 := by omega
   cases hp : p i with
   | true => left; rw [h1 m i h hp, e]; simp [fi, hp]
   | false => right; exact ⟨i + 1, h, by omega, by rw [e]; simp [fi, hp], h2 m i h hp⟩
  ·left
   have : i = len := by omega
   subst this
   rw [h3, Nat.sub_self]; rfl) n 0 (by omega) (by omega)
 simpa using this
theorem all_congr {g h : Nat -> Bool} {n : Nat} (e : ∀ i, i < n -> g i = h i) : (List.range n).all g = (List.range n).all h := by
 induction n with
 | zero => rfl
 | succ n ih => rw [List.range_succ, List.all_append, List.all_append, ih (fun i hi => e i (by omega))]; simp [e n (by omega)]
theorem fit_fine {T : Tab} (hT : ∀ e ti, T.ty e = some ti -> 0 < ti.bytes) : ∀ y, Fine T y -> Fit y
 | _, .i k n _ => Fit.i k n
 | _, .b x => Fit.b x
 | _, .s x h => Fit.s x (Nat.le_trans h (by omega))
 | _, .l e xs ti h h1 h2 h3 => by
  have hp := hT e ti h
  have hle : xs.length * 1 <= xs.length * ti.bytes := Nat.mul_le_mul_left _ hp
  exact Fit.l e xs (by omega) (fun y hy x hx => fit_fine hT x (h3 y hy x hx))
theorem pos_ty : ∀ {rows : List TyRow}, rows.all (fun r => Nat.blt 0 r.ti.bytes) = true -> ∀ e ti, tyIn rows e = some ti -> 0 < ti.bytes
 | [], _, _, _, h => by cases h
 | r :: rs, h, e, ti, h2 => by
  rw [List.all_cons, Bool.and_eq_true] at h
  unfold tyIn at h2
  cases hb : Nat.beq e r.t with
  | true =>
   rw [hb, cond_true] at h2
   obtain rfl := Option.some.inj h2
   have h1 := h.1
   simp [Nat.blt] at h1; omega
  | false => rw [hb, cond_false] at h2; exact pos_ty h.2 e ti h2
theorem fineR {rows : List TyRow} {T : Tab} (hT : T.ty = tyIn rows) (h : rows.all (fun r => Nat.blt 0 r.ti.bytes) = true) {e : Nat} {xs : Row} (hf : Fine T (.l e xs)) : FitR xs := by
 cases fit_fine (fun e ti he => pos_ty h e ti (by rw [<- hT]; exact he)) _ hf with
 | l _ _ h1 h2 => exact ⟨h1, h2⟩
end Go.FG.Lib

namespace Go.FG.Lib
theorem for_run {σ R : Type} (len : Nat) (F : Nat -> Nat -> σ -> Option R) (st : Nat -> σ) (res : Option R)
  (hS : ∀ m i, i < len -> F (m + 1) i (st i) = F m (i + 1) (st (i + 1))) (hE : ∀ m, F (m + 1) len (st len) = res) (n i0 : Nat) (h0 : i0 <= len) (hn : len - i0 < n) : F n i0 (st i0) = res := by
 refine loop_gen (fun n i => F n i (st i)) (fun i => len - i) (fun i => i <= len) (fun _ => res) (fun m i hi => ?_) n i0 h0 hn
 by_cases h : i < len
 ·exact .inr ⟨i + 1, h, by omega, rfl, hS m i h⟩
 ·left
  have : i = len := by omega
  subst this; exact hE m
theorem all_list {α R : Type} (l : List α) (p : α -> Bool) (F : Nat -> Nat -> Option R) (kf kt : Option R)
  (hT : ∀ m i (h : i < l.length), p l[i] = true -> F (m + 1) i = F m (i + 1)) (hF : ∀ m i (h : i < l.length), p l[i] = false -> F (m + 1) i = kf) (hE : ∀ m, F (m + 1) l.length = kt) (n : Nat) (hn : l.length < n) : F n 0 = bif l.all p then kt else kf := by
 have := loop_gen F (fun i => l.length - i) (fun i => i <= l.length) (fun i => bif (l.drop i).all p then kt else kf) (fun m i hi => by
  by_cases h : i < l.length
  ·have e : (l.drop i).all p = (p l[i] && (l.drop (i + 1)).all p) := by rw [List.drop_eq_getElem_cons h, List.all_cons]
   cases hp : p l[i] with
   | true => right; exact ⟨i + 1, h, by omega, by rw [e, hp, Bool.true_and], hT m i h hp⟩
   | false => left; rw [e, hp, hF m i h hp]; rfl
  ·left
   have : i = l.length := by omega
   subst this
   rw [hE, List.drop_length]; rfl) n 0 (Nat.zero_le _) (by omega)
 simpa using this
theorem any_list {α R : Type} (l : List α) (p : α -> Bool) (F : Nat -> Nat -> Option R) (kt kf : Option R)
  (hT : ∀ m i (h : i < l.length), p l[i] = true -> F (m + 1) i = kt) (hF : ∀ m i (h : i < l.length), p l[i] = false -> F (m + 1) i = F m (i + 1)) (hE : ∀ m, F (m + 1) l.length = kf) (n : Nat) (hn : l.length < n) : F n 0 = bif l.any p then kt else kf := by
 have h := all_list l (fun x => !p x) F kt kf (fun m i h hp => hF m i h (by simpa using hp)) (fun m i h hp => hT m i h (by simpa using hp)) hE n hn
 rw [h, List.any_eq_not_all_not]
 cases l.all fun x => !p x <;> rfl
theorem getD_map' {α : Type} (f : α -> List CV) (l : List α) (i : Nat) (h : i < l.length) : (l.map f).getD i [] = f l[i] := by simp [List.getD, h]
theorem cell_map {α : Type} (f : α -> List CV) (l : List α) (i j : Nat) (h : i < l.length) : cellAt (l.map f) i j = (f l[i]).getD j (.b false) := by unfold cellAt; rw [getD_map' f l i h]
theorem fi_any {α : Type} (l : List α) (p : α -> Bool) (q : Nat -> Bool) (h : ∀ i (hi : i < l.length), q i = p l[i]) : decide (fi q l.length 0 ≥ 0) = l.any p := by
 rcases fi_rng q l.length 0 with ⟨h1, h2⟩ | ⟨k, _, hk, h3, h4, _⟩
 ·rw [h1]
  symm
  rw [show decide ((-1 : Int) ≥ 0) = false by decide, List.any_eq_false]
  intro x hx
  obtain ⟨i, hi, rfl⟩ := List.getElem_of_mem hx
  have := h2 i (Nat.zero_le _) (by omega)
  rw [h i hi] at this; simp [this]
 ·rw [h3]
  symm
  rw [show decide ((k : Int) ≥ 0) = true by simp, List.any_eq_true]
  exact ⟨l[k]'(by omega), List.getElem_mem _, by rw [<- h k (by omega)]; exact h4⟩
theorem set1 (ks : List Ck) (y : List CV) : List.set (zeros ks 1) 0 y = [y] := rfl
theorem take_snoc {α β : Type} (f : α -> β) (l : List α) (i : Nat) (h : i < l.length) : (l.take i).map f ++ [f l[i]] = (l.take (i + 1)).map f := by
 rw [List.take_succ_eq_append_getElem h, List.map_append]; rfl
def rs (l : List ByteArray) : Row := l.map fun k => [CV.s k]
def ri (l : List Int) : Row := l.map fun n => [CV.i IntKind.i64 n]
def rr (l : List (List Int)) : Row := l.map fun q => [CV.l 3 (ri q)]
structure En where
 k : ByteArray
 st : Int
 li : Int
 bo : ByteArray
 deriving DecidableEq
def En.row (e : En) : List CV := [CV.s e.k, CV.i IntKind.i64 e.st, CV.i IntKind.i64 e.li, CV.s e.bo]
def re (l : List En) : Row := l.map En.row
structure Fe where
 k : ByteArray
 t : ByteArray
 sta : Int
 li : Int
 st : Int
 deriving DecidableEq
def Fe.row (e : Fe) : List CV := [CV.s e.k, CV.s e.t, CV.i IntKind.i64 e.sta, CV.i IntKind.i64 e.li, CV.i IntKind.i64 e.st]
def rf (l : List Fe) : Row := l.map Fe.row
structure Cl where
 id : Int
 k : ByteArray
 fe : Int
 fr : Int
 sta : Int
 got : ByteArray
 age : Int
 deriving DecidableEq
def Cl.row (e : Cl) : List CV := [CV.i IntKind.i64 e.id, CV.s e.k, CV.i IntKind.i64 e.fe, CV.i IntKind.i64 e.fr, CV.i IntKind.i64 e.sta, CV.s e.got, CV.i IntKind.i64 e.age]
def rc (l : List Cl) : Row := l.map Cl.row
structure Fi where
 n : ByteArray
 t : ByteArray
 kp : Int
 deriving DecidableEq
def Fi.row (e : Fi) : List CV := [CV.s e.n, CV.s e.t, CV.i IntKind.i64 e.kp]
def rd (l : List Fi) : Row := l.map Fi.row
theorem rs_len (l) : (rs l).length = l.length := by unfold rs; simp
theorem ri_len (l) : (ri l).length = l.length := by unfold ri; simp
theorem rr_len (l) : (rr l).length = l.length := by unfold rr; simp
theorem re_len (l) : (re l).length = l.length := by unfold re; simp
theorem rf_len (l) : (rf l).length = l.length := by unfold rf; simp
theorem rc_len (l) : (rc l).length = l.length := by unfold rc; simp
theorem rs0 {l : List ByteArray} {i : Nat} (h : i < l.length) : cellAt (rs l) i 0 = CV.s l[i] := cell_map _ l i 0 h
theorem ri0 {l : List Int} {i : Nat} (h : i < l.length) : cellAt (ri l) i 0 = CV.i IntKind.i64 l[i] := cell_map _ l i 0 h
theorem rr0 {l : List (List Int)} {i : Nat} (h : i < l.length) : cellAt (rr l) i 0 = CV.l 3 (ri l[i]) := cell_map _ l i 0 h
end Go.FG.Lib
namespace Go.FG.Lib
def updL {α : Type} (l : List α) (g : Nat -> α -> α) (i : Nat) : List α := (l.mapIdx g).take i ++ l.drop i
end Go.FG.Lib

namespace Go.FG.Lib
instance : Inhabited En := ⟨⟨⟨#[]⟩, 0, 0, ⟨#[]⟩⟩⟩
instance : Inhabited Fe := ⟨⟨⟨#[]⟩, ⟨#[]⟩, 0, 0, 0⟩⟩
instance : Inhabited Cl := ⟨⟨0, ⟨#[]⟩, 0, 0, 0, ⟨#[]⟩, 0⟩⟩
instance : Inhabited Fi := ⟨⟨⟨#[]⟩, ⟨#[]⟩, 0⟩⟩
def el {α : Type} [Inhabited α] (l : List α) (i : Nat) : α := l.getD i default
theorem el_eq {α : Type} [Inhabited α] {l : List α} {i : Nat} (h : i < l.length) : el l i = l[i] := by unfold el; simp [List.getD, h]
theorem el_mem {α : Type} [Inhabited α] {l : List α} {i : Nat} (h : i < l.length) : el l i ∈ l := by rw [el_eq h]; exact List.getElem_mem h
theorem el_map {α : Type} [Inhabited α] (f : α -> List CV) (l : List α) (i j : Nat) (h : i < l.length) : cellAt (l.map f) i j = (f (el l i)).getD j (.b false) := by rw [cell_map f l i j h, el_eq h]
theorem we0 {l : List En} {i : Nat} (h : i < l.length) : cellAt (re l) i 0 = CV.s (el l i).k := el_map _ l i 0 h
theorem we1 {l : List En} {i : Nat} (h : i < l.length) : cellAt (re l) i 1 = CV.i IntKind.i64 (el l i).st := el_map _ l i 1 h
theorem we2 {l : List En} {i : Nat} (h : i < l.length) : cellAt (re l) i (1 + 1) = CV.i IntKind.i64 (el l i).li := el_map _ l i 2 h
theorem we3 {l : List En} {i : Nat} (h : i < l.length) : cellAt (re l) i (1 + 1 + 1) = CV.s (el l i).bo := el_map _ l i 3 h
theorem wf0 {l : List Fe} {i : Nat} (h : i < l.length) : cellAt (rf l) i 0 = CV.s (el l i).k := el_map _ l i 0 h
theorem wf1 {l : List Fe} {i : Nat} (h : i < l.length) : cellAt (rf l) i 1 = CV.s (el l i).t := el_map _ l i 1 h
theorem wf2 {l : List Fe} {i : Nat} (h : i < l.length) : cellAt (rf l) i (1 + 1) = CV.i IntKind.i64 (el l i).sta := el_map _ l i 2 h
theorem wf2' {l : List Fe} {i : Nat} (h : i < l.length) : cellAt (rf l) i 2 = CV.i IntKind.i64 (el l i).sta := el_map _ l i 2 h
theorem wf3 {l : List Fe} {i : Nat} (h : i < l.length) : cellAt (rf l) i (1 + 1 + 1) = CV.i IntKind.i64 (el l i).li := el_map _ l i 3 h
theorem wf4 {l : List Fe} {i : Nat} (h : i < l.length) : cellAt (rf l) i (1 + 1 + 1 + 1) = CV.i IntKind.i64 (el l i).st := el_map _ l i 4 h
theorem wc0 {l : List Cl} {i : Nat} (h : i < l.length) : cellAt (rc l) i 0 = CV.i IntKind.i64 (el l i).id := el_map _ l i 0 h
theorem wc1 {l : List Cl} {i : Nat} (h : i < l.length) : cellAt (rc l) i 1 = CV.s (el l i).k := el_map _ l i 1 h
theorem wc2 {l : List Cl} {i : Nat} (h : i < l.length) : cellAt (rc l) i (1 + 1) = CV.i IntKind.i64 (el l i).fe := el_map _ l i 2 h
theorem wc3 {l : List Cl} {i : Nat} (h : i < l.length) : cellAt (rc l) i (1 + 1 + 1) = CV.i IntKind.i64 (el l i).fr := el_map _ l i 3 h
theorem wc4 {l : List Cl} {i : Nat} (h : i < l.length) : cellAt (rc l) i (1 + 1 + 1 + 1) = CV.i IntKind.i64 (el l i).sta := el_map _ l i 4 h
theorem wc5 {l : List Cl} {i : Nat} (h : i < l.length) : cellAt (rc l) i (1 + 1 + 1 + 1 + 1) = CV.s (el l i).got := el_map _ l i 5 h
theorem wc6 {l : List Cl} {i : Nat} (h : i < l.length) : cellAt (rc l) i (1 + 1 + 1 + 1 + 1 + 1) = CV.i IntKind.i64 (el l i).age := el_map _ l i 6 h
structure Px where
 now : Int
 en : List En
 w : List ByteArray
 m : List ByteArray
 s : List (List Int)
 a : Int
 fe : List Fe
 cl : List Cl
 hits : Int
structure Px.Fit (p : Px) (n : Nat) : Prop where
 en : p.en.length <= n
 w : p.w.length <= n
 m : p.m.length <= n
 s : p.s.length <= n /\ (∀ q ∈ p.s, q.length <= n) /\ (p.s.map List.length).sum <= n
 fe : p.fe.length <= n
 cl : p.cl.length <= n
theorem pred_nat {i : Nat} (h : 0 < i) (h2 : i <= 9223372036854775807) : w64 ((i : Int) - 1) = ((i - 1 : Nat) : Int) := by
 rw [w64_ok (by omega) (by omega)]; omega
theorem all_and {n : Nat} (f g : Nat -> Bool) : ((List.range n).all fun i => f i && g i) = ((List.range n).all f && (List.range n).all g) := by
 induction n with
 | zero => rfl
 | succ n ih =>
  simp only [List.range_succ, List.all_append, List.all_cons, List.all_nil, Bool.and_true, ih]
  cases (List.range n).all f <;> cases (List.range n).all g <;> cases f n <;> cases g n <;> rfl
end Go.FG.Lib

namespace Go.FG
namespace Lib
def ap {α β : Type} (f : α -> β) (x : α) : β := f x
end Lib
end Go.FG

namespace Go.FG.Lib
theorem tw_gen {α : Type} (p q : α -> Bool) : ∀ r : List α, (∀ y ∈ r, q y = !p y) -> r.Pairwise (fun y z => p z = true -> p y = true) -> r.takeWhile p = r.filter p /\ r.dropWhile p = r.filter q
 | [], _, _ => ⟨rfl, rfl⟩
 | y :: r, hq, h => by
  rw [List.pairwise_cons] at h
  have hy := hq y (by simp)
  cases hp : p y with
  | true =>
   rw [hp] at hy
   obtain ⟨i1, i2⟩ := tw_gen p q r (fun z hz => hq z (by simp [hz])) h.2
   rw [List.takeWhile_cons_of_pos hp, List.filter_cons_of_pos hp, List.dropWhile_cons_of_pos hp, List.filter_cons_of_neg (by rw [hy]; simp), i1, i2]; exact ⟨rfl, rfl⟩
  | false =>
   rw [hp] at hy
   have hn : ¬ p y = true := by rw [hp]; simp
   have ha : ∀ z ∈ r, p z = false := fun z hz => by
    cases hz2 : p z with
    | false => rfl
    | true => exact absurd (h.1 z hz hz2) hn
   rw [List.takeWhile_cons_of_neg hn, List.filter_cons_of_neg hn, List.dropWhile_cons_of_neg hn, List.filter_cons_of_pos (by rw [hy]; rfl)]
   refine ⟨?_, ?_⟩
   ·symm; rw [List.filter_eq_nil_iff]; intro z hz; rw [ha z hz]; simp
   ·congr 1; symm; rw [List.filter_eq_self]; intro z hz; rw [hq z (by simp [hz]), ha z hz]; rfl
end Go.FG.Lib

