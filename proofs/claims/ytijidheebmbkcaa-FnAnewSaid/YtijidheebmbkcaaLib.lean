/- Plain facts on numbers, texts and lists. No condition. -/
import Derived.Test.YtijidheebmbkcaaCorec
set_option linter.unusedVariables false
set_option linter.unusedSimpArgs false
set_option maxRecDepth 100000
namespace Go.FG.Lib
theorem loop_post {σ β : Type} (F : Nat -> σ -> Option β) (mu : σ -> Nat) (inv : σ -> Prop) (post : β -> Prop)
  (step : ∀ n s, inv s -> (∃ b, F (n + 1) s = some b /\ post b) \/ ∃ s', inv s' /\ mu s' < mu s /\ F (n + 1) s = F n s') : ∀ n s, inv s -> mu s < n -> ∃ b, F n s = some b /\ post b := by
 intro n
 induction n with
 | zero => intro s _ h; omega
 | succ n ih =>
  intro s hi hm
  rcases step n s hi with h | ⟨s', h1, h2, h4⟩
  ·exact h
  ·rw [h4]; exact ih s' h1 (by omega)
theorem lt_big {n : Nat} (h : n <= 9223372036854775807) : n < big := by unfold big; omega
theorem w64_ok {x : Int} (h1 : -9223372036854775808 <= x) (h2 : x <= 9223372036854775807) : w64 x = x := w64_eq h1 h2
theorem cellAt_mid (A : Row) (y : List CV) (B : Row) (i j : Nat) (h : A.length = i) : cellAt (A ++ y :: B) i j = y.getD j (.b false) := by
 subst h
 unfold cellAt
 have : (A ++ y :: B).getD A.length [] = y := by simp [List.getD]
 rw [this]
theorem beq_refl_ba (a : ByteArray) : List.beq a.toList a.toList = true := beq_self _
theorem tw_lt (p : List CV -> Bool) : ∀ (r : Row) (i : Nat), i < (r.takeWhile p).length -> ∃ h : i < r.length, p r[i] = true
 | [], i, h => by simp at h
 | y :: r, i, h => by
  by_cases hp : p y = true
  ·rw [List.takeWhile_cons_of_pos hp] at h
   cases i with
   | zero => exact ⟨by simp, hp⟩
   | succ i =>
    obtain ⟨h1, h2⟩ := tw_lt p r i (by simpa using h)
    exact ⟨by simpa using h1, by simpa using h2⟩
  ·rw [List.takeWhile_cons_of_neg hp] at h; simp at h
theorem tw_at (p : List CV -> Bool) : ∀ (r : Row) (h : (r.takeWhile p).length < r.length), p r[(r.takeWhile p).length] = false
 | [], h => by simp at h
 | y :: r, h => by
  by_cases hp : p y = true
  ·have e := List.takeWhile_cons_of_pos (l := r) hp
   have h' : (r.takeWhile p).length < r.length := by rw [e] at h; simpa using h
   have := tw_at p r h'
   simp only [e, List.length_cons, List.getElem_cons_succ]
   exact this
  ·have e := List.takeWhile_cons_of_neg (l := r) hp
   simp only [e, List.length_nil, List.getElem_cons_zero]
   simpa using hp
theorem tw_le (p : List CV -> Bool) (r : Row) : (r.takeWhile p).length <= r.length := by
 have := congrArg List.length (List.takeWhile_append_dropWhile (p := p) (l := r))
 rw [List.length_append] at this; omega
theorem take_tw (p : List CV -> Bool) (r : Row) : r.take (r.takeWhile p).length = r.takeWhile p := by
 have e := List.takeWhile_append_dropWhile (p := p) (l := r)
 have := List.take_left (l₁ := r.takeWhile p) (l₂ := r.dropWhile p)
 rw [e] at this; exact this
theorem drop_tw (p : List CV -> Bool) (r : Row) : r.drop (r.takeWhile p).length = r.dropWhile p := by
 have e := List.takeWhile_append_dropWhile (p := p) (l := r)
 have := List.drop_left (l₁ := r.takeWhile p) (l₂ := r.dropWhile p)
 rw [e] at this; exact this
theorem stop_run {R : Type} (p : List CV -> Bool) (r : Row) (F : Nat -> Nat -> Option R) (K : Nat -> Option R)
  (hT : ∀ m i (h : i < r.length), p r[i] = true -> F (m + 1) i = F m (i + 1)) (hF : ∀ m i (h : i < r.length), p r[i] = false -> F (m + 1) i = K i) (hE : ∀ m, F (m + 1) r.length = K r.length)
  (n : Nat) (hn : r.length < n) : F n 0 = K (r.takeWhile p).length := by
 refine loop_gen F (fun i => r.length - i) (fun i => i <= (r.takeWhile p).length) (fun _ => K (r.takeWhile p).length) (fun m i hi => ?_) n 0 (Nat.zero_le _) (by omega)
 have hl := tw_le p r
 by_cases h : i < (r.takeWhile p).length
 ·obtain ⟨h1, h2⟩ := tw_lt p r i h
  exact .inr ⟨i + 1, h, by omega, rfl, hT m i h1 h2⟩
 ·left
  have hi' : i = (r.takeWhile p).length := by omega
  subst hi'
  by_cases h2 : (r.takeWhile p).length < r.length
  ·exact hF m _ h2 (tw_at p r h2)
  ·have h3 : (r.takeWhile p).length = r.length := by omega
   rw [h3]; exact hE m
theorem filt_run {R : Type} (p : List CV -> Bool) (f : List CV -> List CV) (r : Row) (m0 : Nat) (F : Nat -> Nat -> Row -> Option R) (K : Row -> Option R)
  (hT : ∀ m i acc (h : i < r.length), acc.length <= m0 + i -> p r[i] = true -> F (m + 1) i acc = F m (i + 1) (acc ++ [f r[i]])) (hF : ∀ m i acc (h : i < r.length), acc.length <= m0 + i -> p r[i] = false -> F (m + 1) i acc = F m (i + 1) acc)
  (hE : ∀ m acc, F (m + 1) r.length acc = K acc) (n : Nat) (acc : Row) (ha : acc.length <= m0) (hn : r.length < n) : F n 0 acc = K (acc ++ (r.filter p).map f) := by
 have := loop_gen (fun n (s : Nat × Row) => F n s.1 s.2) (fun s => r.length - s.1) (fun s => s.1 <= r.length /\ s.2.length <= m0 + s.1) (fun s => K (s.2 ++ ((r.drop s.1).filter p).map f)) (fun m s hs => by
  obtain ⟨i, acc⟩ := s
  obtain ⟨h1, h2⟩ := hs
  dsimp only at h1 h2 ⊢
  by_cases h : i < r.length
  ·right
   rw [drop_cons_of h]
   cases hp : p r[i] with
   | true => exact ⟨(i + 1, acc ++ [f r[i]]), ⟨h, by simp; omega⟩, by dsimp only; omega, by rw [List.filter_cons_of_pos hp]; simp, hT m i acc h h2 hp⟩
   | false => exact ⟨(i + 1, acc), ⟨h, by dsimp only; omega⟩, by dsimp only; omega, by rw [List.filter_cons_of_neg (by simp [hp])], hF m i acc h h2 hp⟩
  ·left
   have hi : i = r.length := by omega
   subst hi
   rw [List.drop_length]; simpa using hE m acc) n (0, acc) ⟨Nat.zero_le _, by dsimp only; omega⟩ (by dsimp only; omega)
 simpa using this
theorem all_gen {R : Type} (g : Nat -> Bool) (len : Nat) (F : Nat -> Nat -> Option R) (kf kt : Option R) (hT : ∀ m i, i < len -> g i = true -> F (m + 1) i = F m (i + 1)) (hF : ∀ m i, i < len -> g i = false -> F (m + 1) i = kf) (hE : ∀ m, F (m + 1) len = kt) (n : Nat) (hn : len < n) : F n 0 = bif (List.range len).all g then kt else kf := by
 have := loop_gen F (fun i => len - i) (fun i => i <= len) (fun i => bif (List.range' i (len - i)).all g then kt else kf) (fun m i hi => by
  by_cases h : i < len
  ·have e : (List.range' i (len - i)).all g = (g i && (List.range' (i + 1) (len - (i + 1))).all g) := by
    rw [show len - i = (len - (i + 1)) + 1 by omega, List.range'_succ, List.all_cons]
   cases hp : g i with
   | true => right; exact ⟨i + 1, h, by omega, by rw [e, hp, Bool.true_and], hT m i h hp⟩
   | false => left; rw [e, hp, hF m i h hp]; rfl
  ·left
   have : i = len := by omega
   subst this
   rw [hE, Nat.sub_self]; rfl) n 0 (Nat.zero_le _) (by omega)
 rw [this, Nat.sub_zero, <- List.range_eq_range']
theorem fi_gen {R : Type} (p : Nat -> Bool) (len : Nat) (F : Nat -> Nat -> Option R) (kr : Int -> Option R) (h1 : ∀ m i, i < len -> p i = true -> F (m + 1) i = kr i) (h2 : ∀ m i, i < len -> p i = false -> F (m + 1) i = F m (i + 1)) (h3 : ∀ m, F (m + 1) len = kr (-1)) (n : Nat) (hn : len < n) : F n 0 = kr (fi p len 0) := by
 have := loop_gen F (fun i => len - i) (fun i => i <= len) (fun i => kr (fi p (len - i) i)) (fun m i hi => by
  by_cases h : i < len
  ·have e : len - i = (len - (i + 1)) + 1 := by omega
   cases hp : p i with
   | true => left; rw [h1 m i h hp, e]; simp [fi, hp]
   | false => right; exact ⟨i + 1, h, by omega, by rw [e]; simp [fi, hp], h2 m i h hp⟩
  ·left
   have : i = len := by omega
   subst this
   rw [h3, Nat.sub_self]; rfl) n 0 (by omega) (by omega)
 simpa using this
theorem fit_fine {T : Tab} (hT : ∀ e ti, T.ty e = some ti -> 0 < ti.bytes) : ∀ y, Fine T y -> Fit y
 | _, .i k n _ => Fit.i k n
 | _, .b x => Fit.b x
 | _, .s x h => Fit.s x (Nat.le_trans h (by omega))
 | _, .l e xs ti h h1 h2 h3 => by
  have hp := hT e ti h
  have hle : xs.length * 1 <= xs.length * ti.bytes := Nat.mul_le_mul_left _ hp
  exact Fit.l e xs (by omega) (fun y hy x hx => fit_fine hT x (h3 y hy x hx))
theorem pos_ty : ∀ {rows : List TyRow}, rows.all (fun r => Nat.blt 0 r.ti.bytes) = true -> ∀ e ti, tyIn rows e = some ti -> 0 < ti.bytes
 | [], _, _, _, h => by cases h
 | r :: rs, h, e, ti, h2 => by
  rw [List.all_cons, Bool.and_eq_true] at h
  unfold tyIn at h2
  cases hb : Nat.beq e r.t with
  | true =>
   rw [hb, cond_true] at h2
   obtain rfl := Option.some.inj h2
   have h1 := h.1
   simp [Nat.blt] at h1; omega
  | false => rw [hb, cond_false] at h2; exact pos_ty h.2 e ti h2
theorem fineR {rows : List TyRow} {T : Tab} (hT : T.ty = tyIn rows) (h : rows.all (fun r => Nat.blt 0 r.ti.bytes) = true) {e : Nat} {xs : Row} (hf : Fine T (.l e xs)) : FitR xs := by
 cases fit_fine (fun e ti he => pos_ty h e ti (by rw [<- hT]; exact he)) _ hf with
 | l _ _ h1 h2 => exact ⟨h1, h2⟩
end Go.FG.Lib

namespace Go.FG.Lib
theorem for_run {σ R : Type} (len : Nat) (F : Nat -> Nat -> σ -> Option R) (st : Nat -> σ) (res : Option R)
  (hS : ∀ m i, i < len -> F (m + 1) i (st i) = F m (i + 1) (st (i + 1))) (hE : ∀ m, F (m + 1) len (st len) = res) (n i0 : Nat) (h0 : i0 <= len) (hn : len - i0 < n) : F n i0 (st i0) = res := by
 refine loop_gen (fun n i => F n i (st i)) (fun i => len - i) (fun i => i <= len) (fun _ => res) (fun m i hi => ?_) n i0 h0 hn
 by_cases h : i < len
 ·exact .inr ⟨i + 1, h, by omega, rfl, hS m i h⟩
 ·left
  have : i = len := by omega
  subst this; exact hE m
theorem getD_map' {α : Type} (f : α -> List CV) (l : List α) (i : Nat) (h : i < l.length) : (l.map f).getD i [] = f l[i] := by simp [List.getD, h]
theorem cell_map {α : Type} (f : α -> List CV) (l : List α) (i j : Nat) (h : i < l.length) : cellAt (l.map f) i j = (f l[i]).getD j (.b false) := by unfold cellAt; rw [getD_map' f l i h]
theorem set1 (ks : List Ck) (y : List CV) : List.set (zeros ks 1) 0 y = [y] := rfl
def rs (l : List ByteArray) : Row := l.map fun k => [CV.s k]
def ri (l : List Int) : Row := l.map fun n => [CV.i IntKind.i64 n]
def rr (l : List (List Int)) : Row := l.map fun q => [CV.l 3 (ri q)]
structure En where
 k : ByteArray
 st : Int
 li : Int
 bo : ByteArray
 deriving DecidableEq
def En.row (e : En) : List CV := [CV.s e.k, CV.i IntKind.i64 e.st, CV.i IntKind.i64 e.li, CV.s e.bo]
def re (l : List En) : Row := l.map En.row
structure Fe where
 k : ByteArray
 t : ByteArray
 sta : Int
 li : Int
 st : Int
 deriving DecidableEq
def Fe.row (e : Fe) : List CV := [CV.s e.k, CV.s e.t, CV.i IntKind.i64 e.sta, CV.i IntKind.i64 e.li, CV.i IntKind.i64 e.st]
def rf (l : List Fe) : Row := l.map Fe.row
structure Cl where
 id : Int
 k : ByteArray
 fe : Int
 fr : Int
 sta : Int
 got : ByteArray
 age : Int
 deriving DecidableEq
def Cl.row (e : Cl) : List CV := [CV.i IntKind.i64 e.id, CV.s e.k, CV.i IntKind.i64 e.fe, CV.i IntKind.i64 e.fr, CV.i IntKind.i64 e.sta, CV.s e.got, CV.i IntKind.i64 e.age]
def rc (l : List Cl) : Row := l.map Cl.row
structure Fi where
 n : ByteArray
 t : ByteArray
 kp : Int
 deriving DecidableEq
def Fi.row (e : Fi) : List CV := [CV.s e.n, CV.s e.t, CV.i IntKind.i64 e.kp]
def rd (l : List Fi) : Row := l.map Fi.row
theorem rs_len (l) : (rs l).length = l.length := by unfold rs; simp
theorem re_len (l) : (re l).length = l.length := by unfold re; simp
theorem rd_len (l) : (rd l).length = l.length := by unfold rd; simp
theorem rs0 {l : List ByteArray} {i : Nat} (h : i < l.length) : cellAt (rs l) i 0 = CV.s l[i] := cell_map _ l i 0 h
theorem rd0 {l : List Fi} {i : Nat} (h : i < l.length) : cellAt (rd l) i 0 = CV.s l[i].n := cell_map _ l i 0 h
theorem rd1 {l : List Fi} {i : Nat} (h : i < l.length) : cellAt (rd l) i 1 = CV.s l[i].t := cell_map _ l i 1 h
theorem rd2 {l : List Fi} {i : Nat} (h : i < l.length) : cellAt (rd l) i (1 + 1) = CV.i IntKind.i64 l[i].kp := cell_map _ l i 2 h
end Go.FG.Lib
namespace Go.FG.Lib
theorem setC_map {α : Type} (f : α -> List CV) (l : List α) (i j : Nat) (ys : List CV) (y : α) (h : i < l.length) (hs : splice (f l[i]) j ys = f y) : setC (l.map f) i j ys = (l.set i y).map f := by
 unfold setC; rw [getD_map' f l i h, hs, List.map_set]
def updL {α : Type} (l : List α) (g : Nat -> α -> α) (i : Nat) : List α := (l.mapIdx g).take i ++ l.drop i
theorem updL_len {α : Type} (l : List α) (g : Nat -> α -> α) (i : Nat) (h : i <= l.length) : (updL l g i).length = l.length := by unfold updL; simp; omega
theorem updL_at {α : Type} (l : List α) (g : Nat -> α -> α) (i : Nat) (h : i < l.length) (h2 : i < (updL l g i).length) : (updL l g i)[i] = l[i] := by
 have e : (updL l g i)[i]? = some l[i] := by
  unfold updL
  rw [List.getElem?_append_right (by simp; omega)]
  simp [show min i l.length = i by omega]
 rw [List.getElem?_eq_getElem h2] at e
 exact Option.some.inj e
theorem updL_set {α : Type} (l : List α) (g : Nat -> α -> α) (i : Nat) (h : i < l.length) : (updL l g i).set i (g i l[i]) = updL l g (i + 1) := by
 unfold updL
 have hl : ((l.mapIdx g).take i).length = i := by simp; omega
 rw [List.set_append_right _ _ (by omega), hl, Nat.sub_self, List.drop_eq_getElem_cons h, List.set_cons_zero, List.take_succ_eq_append_getElem (by simpa using h), List.append_assoc]
 simp
theorem updL_0 {α : Type} (l : List α) (g : Nat -> α -> α) : updL l g 0 = l := by unfold updL; simp
theorem updL_end {α : Type} (l : List α) (g : Nat -> α -> α) : updL l g l.length = l.mapIdx g := by unfold updL; rw [List.drop_length, List.append_nil, List.take_of_length_le (by simp)]
theorem upd_run {α R : Type} (f : α -> List CV) (l : List α) (g : Nat -> α -> α) (F : Nat -> Nat -> Row -> Option R) (K : Row -> Option R)
  (hS : ∀ m i (L : List α) (h : i < l.length) (h2 : i < L.length), L.length = l.length -> L[i] = l[i] -> F (m + 1) i (L.map f) = F m (i + 1) ((L.set i (g i l[i])).map f))
  (hE : ∀ m (L : List α), L.length = l.length -> F (m + 1) l.length (L.map f) = K (L.map f)) (n : Nat) (hn : l.length < n) : F n 0 (l.map f) = K ((l.mapIdx g).map f) := by
 have := for_run l.length F (fun i => (updL l g i).map f) (K ((l.mapIdx g).map f)) (fun m i h => by
  have h1 := updL_len l g i (by omega)
  rw [hS m i (updL l g i) h (by omega) h1 (updL_at l g i h (by omega)), updL_set l g i h]) (fun m => by
  rw [hE m _ (updL_len l g _ (Nat.le_refl _)), updL_end]) n 0 (Nat.zero_le _) (by omega)
 rw [show l.map f = (updL l g 0).map f by rw [updL_0]]; exact this
end Go.FG.Lib

namespace Go.FG.Lib
instance : Inhabited En := ⟨⟨⟨#[]⟩, 0, 0, ⟨#[]⟩⟩⟩
instance : Inhabited Fe := ⟨⟨⟨#[]⟩, ⟨#[]⟩, 0, 0, 0⟩⟩
instance : Inhabited Cl := ⟨⟨0, ⟨#[]⟩, 0, 0, 0, ⟨#[]⟩, 0⟩⟩
instance : Inhabited Fi := ⟨⟨⟨#[]⟩, ⟨#[]⟩, 0⟩⟩
def el {α : Type} [Inhabited α] (l : List α) (i : Nat) : α := l.getD i default
theorem el_eq {α : Type} [Inhabited α] {l : List α} {i : Nat} (h : i < l.length) : el l i = l[i] := by unfold el; simp [List.getD, h]
theorem el_mem {α : Type} [Inhabited α] {l : List α} {i : Nat} (h : i < l.length) : el l i ∈ l := by rw [el_eq h]; exact List.getElem_mem h
theorem el_map {α : Type} [Inhabited α] (f : α -> List CV) (l : List α) (i j : Nat) (h : i < l.length) : cellAt (l.map f) i j = (f (el l i)).getD j (.b false) := by rw [cell_map f l i j h, el_eq h]
theorem we0 {l : List En} {i : Nat} (h : i < l.length) : cellAt (re l) i 0 = CV.s (el l i).k := el_map _ l i 0 h
theorem we1 {l : List En} {i : Nat} (h : i < l.length) : cellAt (re l) i 1 = CV.i IntKind.i64 (el l i).st := el_map _ l i 1 h
theorem we2 {l : List En} {i : Nat} (h : i < l.length) : cellAt (re l) i (1 + 1) = CV.i IntKind.i64 (el l i).li := el_map _ l i 2 h
theorem we3 {l : List En} {i : Nat} (h : i < l.length) : cellAt (re l) i (1 + 1 + 1) = CV.s (el l i).bo := el_map _ l i 3 h
theorem wd0 {l : List Fi} {i : Nat} (h : i < l.length) : cellAt (rd l) i 0 = CV.s (el l i).n := el_map _ l i 0 h
theorem wd1 {l : List Fi} {i : Nat} (h : i < l.length) : cellAt (rd l) i 1 = CV.s (el l i).t := el_map _ l i 1 h
theorem wd2 {l : List Fi} {i : Nat} (h : i < l.length) : cellAt (rd l) i (1 + 1) = CV.i IntKind.i64 (el l i).kp := el_map _ l i 2 h
structure Px where
 now : Int
 en : List En
 w : List ByteArray
 m : List ByteArray
 s : List (List Int)
 a : Int
 fe : List Fe
 cl : List Cl
 hits : Int
structure Px.Fit (p : Px) (n : Nat) : Prop where
 en : p.en.length <= n
 w : p.w.length <= n
 m : p.m.length <= n
 s : p.s.length <= n /\ (∀ q ∈ p.s, q.length <= n) /\ (p.s.map List.length).sum <= n
 fe : p.fe.length <= n
 cl : p.cl.length <= n
end Go.FG.Lib

namespace Go.FG
namespace Lib
def ap {α β : Type} (f : α -> β) (x : α) : β := f x
end Lib
end Go.FG

namespace Go.FG.Lib
theorem filt2 {α R : Type} (l : List α) (p : α -> Bool) (F0 : Nat -> Nat -> Option R) (F1 : Nat -> Nat -> List α -> Option R) (res : List α -> Option R)
  (a1 : ∀ m i (h : i < l.length), p l[i] = true -> F0 (m + 1) i = F1 m (i + 1) [l[i]]) (a2 : ∀ m i (h : i < l.length), p l[i] = false -> F0 (m + 1) i = F0 m (i + 1)) (a3 : ∀ m, F0 (m + 1) l.length = res [])
  (b1 : ∀ m i acc (h : i < l.length), acc.length <= i -> p l[i] = true -> F1 (m + 1) i acc = F1 m (i + 1) (acc ++ [l[i]])) (b2 : ∀ m i acc (h : i < l.length), p l[i] = false -> F1 (m + 1) i acc = F1 m (i + 1) acc) (b3 : ∀ m acc, F1 (m + 1) l.length acc = res acc)
  (n : Nat) (hn : l.length < n) : F0 n 0 = res (l.filter p) := by
 have k1 : ∀ d i acc m, l.length - i <= d -> i <= l.length -> acc.length <= i -> d < m -> F1 m i acc = res (acc ++ (l.drop i).filter p) := by
  intro d
  induction d with
  | zero =>
   intro i acc m h1 h2 h3 h4
   obtain ⟨m, rfl⟩ : ∃ m', m = m' + 1 := ⟨m - 1, by omega⟩
   have : i = l.length := by omega
   subst this
   rw [b3, List.drop_length]; simp
  | succ d ih =>
   intro i acc m h1 h2 h3 h4
   obtain ⟨m, rfl⟩ : ∃ m', m = m' + 1 := ⟨m - 1, by omega⟩
   by_cases hi : i < l.length
   ·rw [List.drop_eq_getElem_cons hi]
    cases hp : p l[i] with
    | true => rw [b1 m i acc hi h3 hp, ih (i + 1) _ m (by omega) hi (by simp; omega) (by omega), List.filter_cons_of_pos hp]; simp
    | false => rw [b2 m i acc hi hp, ih (i + 1) _ m (by omega) hi (by omega) (by omega), List.filter_cons_of_neg (by simp [hp])]
   ·have : i = l.length := by omega
    subst this
    rw [b3, List.drop_length]; simp
 have k0 : ∀ d i m, l.length - i <= d -> i <= l.length -> d < m -> F0 m i = res ((l.drop i).filter p) := by
  intro d
  induction d with
  | zero =>
   intro i m h1 h2 h4
   obtain ⟨m, rfl⟩ : ∃ m', m = m' + 1 := ⟨m - 1, by omega⟩
   have : i = l.length := by omega
   subst this
   rw [a3, List.drop_length]; rfl
  | succ d ih =>
   intro i m h1 h2 h4
   obtain ⟨m, rfl⟩ : ∃ m', m = m' + 1 := ⟨m - 1, by omega⟩
   by_cases hi : i < l.length
   ·rw [List.drop_eq_getElem_cons hi]
    cases hp : p l[i] with
    | true => rw [a1 m i hi hp, k1 d (i + 1) _ m (by omega) hi (by simp) (by omega), List.filter_cons_of_pos hp]; simp
    | false => rw [a2 m i hi hp, ih (i + 1) m (by omega) hi (by omega), List.filter_cons_of_neg (by simp [hp])]
   ·have : i = l.length := by omega
    subst this
    rw [a3, List.drop_length]; rfl
 have := k0 l.length 0 n (by omega) (Nat.zero_le _) hn
 rwa [List.drop_zero] at this
theorem filt1 {α R : Type} (l : List α) (p : α -> Bool) (F1 : Nat -> Nat -> List α -> Option R) (res : List α -> Option R) (c0 : List α)
  (b1 : ∀ m i acc (h : i < l.length), acc.length <= c0.length + i -> p l[i] = true -> F1 (m + 1) i acc = F1 m (i + 1) (acc ++ [l[i]])) (b2 : ∀ m i acc (h : i < l.length), p l[i] = false -> F1 (m + 1) i acc = F1 m (i + 1) acc) (b3 : ∀ m acc, F1 (m + 1) l.length acc = res acc)
  (n : Nat) (hn : l.length < n) : F1 n 0 c0 = res (c0 ++ l.filter p) := by
 have k1 : ∀ d i acc m, l.length - i <= d -> i <= l.length -> acc.length <= c0.length + i -> d < m -> F1 m i acc = res (acc ++ (l.drop i).filter p) := by
  intro d
  induction d with
  | zero =>
   intro i acc m h1 h2 h3 h4
   obtain ⟨m, rfl⟩ : ∃ m', m = m' + 1 := ⟨m - 1, by omega⟩
   have : i = l.length := by omega
   subst this
   rw [b3, List.drop_length]; simp
  | succ d ih =>
   intro i acc m h1 h2 h3 h4
   obtain ⟨m, rfl⟩ : ∃ m', m = m' + 1 := ⟨m - 1, by omega⟩
   by_cases hi : i < l.length
   ·rw [List.drop_eq_getElem_cons hi]
    cases hp : p l[i] with
    | true => rw [b1 m i acc hi h3 hp, ih (i + 1) _ m (by omega) hi (by simp; omega) (by omega), List.filter_cons_of_pos hp]; simp
    | false => rw [b2 m i acc hi hp, ih (i + 1) _ m (by omega) hi (by omega) (by omega), List.filter_cons_of_neg (by simp [hp])]
   ·have : i = l.length := by omega
    subst this
    rw [b3, List.drop_length]; simp
 have := k1 l.length 0 c0 n (by omega) (Nat.zero_le _) (by omega) hn
 rwa [List.drop_zero] at this
theorem tw_gen {α : Type} (p q : α -> Bool) : ∀ r : List α, (∀ y ∈ r, q y = !p y) -> r.Pairwise (fun y z => p z = true -> p y = true) -> r.takeWhile p = r.filter p /\ r.dropWhile p = r.filter q
 | [], _, _ => ⟨rfl, rfl⟩
 | y :: r, hq, h => by
  rw [List.pairwise_cons] at h
  have hy := hq y (by simp)
  cases hp : p y with
  | true =>
   rw [hp] at hy
   obtain ⟨i1, i2⟩ := tw_gen p q r (fun z hz => hq z (by simp [hz])) h.2
   rw [List.takeWhile_cons_of_pos hp, List.filter_cons_of_pos hp, List.dropWhile_cons_of_pos hp, List.filter_cons_of_neg (by rw [hy]; simp), i1, i2]; exact ⟨rfl, rfl⟩
  | false =>
   rw [hp] at hy
   have hn : ¬ p y = true := by rw [hp]; simp
   have ha : ∀ z ∈ r, p z = false := fun z hz => by
    cases hz2 : p z with
    | false => rfl
    | true => exact absurd (h.1 z hz hz2) hn
   rw [List.takeWhile_cons_of_neg hn, List.filter_cons_of_neg hn, List.dropWhile_cons_of_neg hn, List.filter_cons_of_pos (by rw [hy]; rfl)]
   refine ⟨?_, ?_⟩
   ·symm; rw [List.filter_eq_nil_iff]; intro z hz; rw [ha z hz]; simp
   ·congr 1; symm; rw [List.filter_eq_self]; intro z hz; rw [hq z (by simp [hz]), ha z hz]; rfl
end Go.FG.Lib

