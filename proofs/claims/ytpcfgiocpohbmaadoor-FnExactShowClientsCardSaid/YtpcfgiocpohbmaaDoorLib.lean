/- Plain facts on numbers, texts and lists. No condition. -/
import Derived.Test.YtpcfgiocpohbmaaDoorCorec
import Derived.Lib.ItoaNum
import Derived.Lib.ItoaLen
set_option linter.unusedVariables false
set_option linter.unusedSimpArgs false
set_option maxRecDepth 100000
namespace Go.FG.Lib
theorem loop_post {σ β : Type} (F : Nat -> σ -> Option β) (mu : σ -> Nat) (inv : σ -> Prop) (post : β -> Prop)
  (step : ∀ n s, inv s -> (∃ b, F (n + 1) s = some b /\ post b) \/ ∃ s', inv s' /\ mu s' < mu s /\ F (n + 1) s = F n s') : ∀ n s, inv s -> mu s < n -> ∃ b, F n s = some b /\ post b := by
 intro n
 induction n with
 | zero => intro s _ h; omega
 | succ n ih =>
  intro s hi hm
  rcases step n s hi with h | ⟨s', h1, h2, h4⟩
  ·exact h
  ·rw [h4]; exact ih s' h1 (by omega)
theorem lt_big {n : Nat} (h : n <= 9223372036854775807) : n < big := by unfold big; omega
theorem w64_ok {x : Int} (h1 : -9223372036854775808 <= x) (h2 : x <= 9223372036854775807) : w64 x = x := w64_eq h1 h2
theorem w64_a {x : Int} (h0 : -9223372036854775808 <= x := by omega) (h1 : x <= 9223372036854775807 := by omega) : w64 x = x := w64_ok h0 h1
theorem beq_refl_ba (a : ByteArray) : List.beq a.toList a.toList = true := beq_self _
theorem fit_mem {xs : Row} (ha : FitR xs) (i j : Nat) : Fit (cellAt xs i j) := by
 unfold cellAt
 by_cases hi : i < xs.length
 ·rw [getD_of hi]
  by_cases hj : j < xs[i].length
  ·rw [show xs[i].getD j (.b false) = xs[i][j] by simp [List.getD, hj]]
   exact ha.2 _ (List.getElem_mem hi) _ (List.getElem_mem hj)
  ·rw [show xs[i].getD j (.b false) = .b false by simp [List.getD, Nat.not_lt.1 hj]]; exact Fit.b _
 ·rw [show xs.getD i [] = [] by simp [List.getD, Nat.not_lt.1 hi]]; exact Fit.b _
theorem okS_cell {xs : Row} (ha : FitR xs) (i j : Nat) : okS (cvS (cellAt xs i j)) := by
 have h := fit_mem ha i j
 generalize cellAt xs i j = y at h
 cases h with
 | s x h => exact h
 | _ => exact Nat.zero_le _
theorem FitR_cell {xs : Row} (ha : FitR xs) (i j : Nat) : FitR (cvL (cellAt xs i j)) := by
 have h := fit_mem ha i j
 generalize cellAt xs i j = y at h
 cases h with
 | l e xs h hc => exact ⟨h, hc⟩
 | _ => exact ⟨Nat.zero_le _, fun y hy => by cases hy⟩
theorem fit_fine {T : Tab} (hT : ∀ e ti, T.ty e = some ti -> 0 < ti.bytes) : ∀ y, Fine T y -> Fit y
 | _, .i k n _ => Fit.i k n
 | _, .b x => Fit.b x
 | _, .s x h => Fit.s x (Nat.le_trans h (by omega))
 | _, .l e xs ti h h1 h2 h3 => by
  have hp := hT e ti h
  have hle : xs.length * 1 <= xs.length * ti.bytes := Nat.mul_le_mul_left _ hp
  exact Fit.l e xs (by omega) (fun y hy x hx => fit_fine hT x (h3 y hy x hx))
theorem pos_ty : ∀ {rows : List TyRow}, rows.all (fun r => Nat.blt 0 r.ti.bytes) = true -> ∀ e ti, tyIn rows e = some ti -> 0 < ti.bytes
 | [], _, _, _, h => by cases h
 | r :: rs, h, e, ti, h2 => by
  rw [List.all_cons, Bool.and_eq_true] at h
  unfold tyIn at h2
  cases hb : Nat.beq e r.t with
  | true =>
   rw [hb, cond_true] at h2
   obtain rfl := Option.some.inj h2
   have h1 := h.1
   simp [Nat.blt] at h1; omega
  | false => rw [hb, cond_false] at h2; exact pos_ty h.2 e ti h2
theorem fineR {rows : List TyRow} {T : Tab} (hT : T.ty = tyIn rows) (h : rows.all (fun r => Nat.blt 0 r.ti.bytes) = true) {e : Nat} {xs : Row} (hf : Fine T (.l e xs)) : FitR xs := by
 cases fit_fine (fun e ti he => pos_ty h e ti (by rw [<- hT]; exact he)) _ hf with
 | l _ _ h1 h2 => exact ⟨h1, h2⟩
end Go.FG.Lib

namespace Go.FG.Lib
theorem for_run {σ R : Type} (len : Nat) (F : Nat -> Nat -> σ -> Option R) (st : Nat -> σ) (res : Option R)
  (hS : ∀ m i, i < len -> F (m + 1) i (st i) = F m (i + 1) (st (i + 1))) (hE : ∀ m, F (m + 1) len (st len) = res) (n i0 : Nat) (h0 : i0 <= len) (hn : len - i0 < n) : F n i0 (st i0) = res := by
 refine loop_gen (fun n i => F n i (st i)) (fun i => len - i) (fun i => i <= len) (fun _ => res) (fun m i hi => ?_) n i0 h0 hn
 by_cases h : i < len
 ·exact .inr ⟨i + 1, h, by omega, rfl, hS m i h⟩
 ·left
  have : i = len := by omega
  subst this; exact hE m
theorem getD_map' {α : Type} (f : α -> List CV) (l : List α) (i : Nat) (h : i < l.length) : (l.map f).getD i [] = f l[i] := by simp [List.getD, h]
theorem cell_map {α : Type} (f : α -> List CV) (l : List α) (i j : Nat) (h : i < l.length) : cellAt (l.map f) i j = (f l[i]).getD j (.b false) := by unfold cellAt; rw [getD_map' f l i h]
def rs (l : List ByteArray) : Row := l.map fun k => [CV.s k]
def ri (l : List Int) : Row := l.map fun n => [CV.i IntKind.i64 n]
def rr (l : List (List Int)) : Row := l.map fun q => [CV.l 3 (ri q)]
structure En where
 k : ByteArray
 st : Int
 li : Int
 bo : ByteArray
 deriving DecidableEq
def En.row (e : En) : List CV := [CV.s e.k, CV.i IntKind.i64 e.st, CV.i IntKind.i64 e.li, CV.s e.bo]
def re (l : List En) : Row := l.map En.row
structure Fe where
 k : ByteArray
 t : ByteArray
 sta : Int
 li : Int
 st : Int
 deriving DecidableEq
def Fe.row (e : Fe) : List CV := [CV.s e.k, CV.s e.t, CV.i IntKind.i64 e.sta, CV.i IntKind.i64 e.li, CV.i IntKind.i64 e.st]
def rf (l : List Fe) : Row := l.map Fe.row
structure Cl where
 id : Int
 k : ByteArray
 fe : Int
 fr : Int
 sta : Int
 got : ByteArray
 age : Int
 deriving DecidableEq
def Cl.row (e : Cl) : List CV := [CV.i IntKind.i64 e.id, CV.s e.k, CV.i IntKind.i64 e.fe, CV.i IntKind.i64 e.fr, CV.i IntKind.i64 e.sta, CV.s e.got, CV.i IntKind.i64 e.age]
def rc (l : List Cl) : Row := l.map Cl.row
structure Fi where
 n : ByteArray
 t : ByteArray
 kp : Int
 deriving DecidableEq
def Fi.row (e : Fi) : List CV := [CV.s e.n, CV.s e.t, CV.i IntKind.i64 e.kp]
def rd (l : List Fi) : Row := l.map Fi.row
theorem rs_len (l) : (rs l).length = l.length := by unfold rs; simp
theorem rr_len (l) : (rr l).length = l.length := by unfold rr; simp
theorem re_len (l) : (re l).length = l.length := by unfold re; simp
theorem rf_len (l) : (rf l).length = l.length := by unfold rf; simp
theorem rc_len (l) : (rc l).length = l.length := by unfold rc; simp
end Go.FG.Lib
namespace Go.FG.Lib
def updL {α : Type} (l : List α) (g : Nat -> α -> α) (i : Nat) : List α := (l.mapIdx g).take i ++ l.drop i
end Go.FG.Lib

namespace Go.FG.Lib
instance : Inhabited En := ⟨⟨⟨#[]⟩, 0, 0, ⟨#[]⟩⟩⟩
instance : Inhabited Fe := ⟨⟨⟨#[]⟩, ⟨#[]⟩, 0, 0, 0⟩⟩
instance : Inhabited Cl := ⟨⟨0, ⟨#[]⟩, 0, 0, 0, ⟨#[]⟩, 0⟩⟩
instance : Inhabited Fi := ⟨⟨⟨#[]⟩, ⟨#[]⟩, 0⟩⟩
def el {α : Type} [Inhabited α] (l : List α) (i : Nat) : α := l.getD i default
theorem el_eq {α : Type} [Inhabited α] {l : List α} {i : Nat} (h : i < l.length) : el l i = l[i] := by unfold el; simp [List.getD, h]
theorem el_mem {α : Type} [Inhabited α] {l : List α} {i : Nat} (h : i < l.length) : el l i ∈ l := by rw [el_eq h]; exact List.getElem_mem h
theorem el_map {α : Type} [Inhabited α] (f : α -> List CV) (l : List α) (i j : Nat) (h : i < l.length) : cellAt (l.map f) i j = (f (el l i)).getD j (.b false) := by rw [cell_map f l i j h, el_eq h]
theorem wc0 {l : List Cl} {i : Nat} (h : i < l.length) : cellAt (rc l) i 0 = CV.i IntKind.i64 (el l i).id := el_map _ l i 0 h
theorem wc4 {l : List Cl} {i : Nat} (h : i < l.length) : cellAt (rc l) i (1 + 1 + 1 + 1) = CV.i IntKind.i64 (el l i).sta := el_map _ l i 4 h
theorem wc5 {l : List Cl} {i : Nat} (h : i < l.length) : cellAt (rc l) i (1 + 1 + 1 + 1 + 1) = CV.s (el l i).got := el_map _ l i 5 h
theorem wc6 {l : List Cl} {i : Nat} (h : i < l.length) : cellAt (rc l) i (1 + 1 + 1 + 1 + 1 + 1) = CV.i IntKind.i64 (el l i).age := el_map _ l i 6 h
structure Px where
 now : Int
 en : List En
 w : List ByteArray
 m : List ByteArray
 s : List (List Int)
 a : Int
 fe : List Fe
 cl : List Cl
 hits : Int
structure Px.Fit (p : Px) (n : Nat) : Prop where
 en : p.en.length <= n
 w : p.w.length <= n
 m : p.m.length <= n
 s : p.s.length <= n /\ (∀ q ∈ p.s, q.length <= n) /\ (p.s.map List.length).sum <= n
 fe : p.fe.length <= n
 cl : p.cl.length <= n
end Go.FG.Lib

namespace Go.FG
namespace Lib
def ap {α β : Type} (f : α -> β) (x : α) : β := f x
theorem bq {α R : Type} {o : Option α} {d : α} {g : Option R} {k : α -> Option R} (hc : Option.isSome o = true) (h : g = Option.bind o k) : g = ap k (Option.getD o d) := by
 rw [h, some_ hc (d := d)]; rfl
end Lib
end Go.FG

namespace Go.FG.Lib
end Go.FG.Lib

