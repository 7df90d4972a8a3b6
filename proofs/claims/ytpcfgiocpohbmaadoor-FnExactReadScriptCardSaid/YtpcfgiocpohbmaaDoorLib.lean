/- Plain facts on numbers, texts and lists. No condition. -/
import Derived.Test.YtpcfgiocpohbmaaDoorCorec
import Derived.Lib.ItoaNum
import Derived.Lib.SplitLaws
import Derived.Lib.AtoiTie
import Derived.Lib.ItoaLen
set_option linter.unusedVariables false
set_option linter.unusedSimpArgs false
set_option maxRecDepth 100000
namespace Go.FG.Lib
theorem loop_post {σ β : Type} (F : Nat -> σ -> Option β) (mu : σ -> Nat) (inv : σ -> Prop) (post : β -> Prop)
  (step : ∀ n s, inv s -> (∃ b, F (n + 1) s = some b /\ post b) \/ ∃ s', inv s' /\ mu s' < mu s /\ F (n + 1) s = F n s') : ∀ n s, inv s -> mu s < n -> ∃ b, F n s = some b /\ post b := by
 intro n
 induction n with
 | zero => intro s _ h; omega
 | succ n ih =>
  intro s hi hm
  rcases step n s hi with h | ⟨s', h1, h2, h4⟩
  ·exact h
  ·rw [h4]; exact ih s' h1 (by omega)
theorem lt_big {n : Nat} (h : n <= 9223372036854775807) : n < big := by unfold big; omega
theorem w64_ok {x : Int} (h1 : -9223372036854775808 <= x) (h2 : x <= 9223372036854775807) : w64 x = x := w64_eq h1 h2
theorem w64_a {x : Int} (h0 : -9223372036854775808 <= x := by omega) (h1 : x <= 9223372036854775807 := by omega) : w64 x = x := w64_ok h0 h1
theorem setC_mid (A : Row) (y : List CV) (B : Row) (i j : Nat) (cs : List CV) (h : A.length = i) : setC (A ++ y :: B) i j cs = A ++ splice y j cs :: B := by
 subst h
 unfold setC
 have : (A ++ y :: B).getD A.length [] = y := by simp [List.getD]
 rw [this, List.set_append_right _ _ (Nat.le_refl _), Nat.sub_self, List.set_cons_zero]
theorem len_mid (A : Row) (y : List CV) (B : Row) : (A ++ y :: B).length = A.length + 1 + B.length := by simp; omega
theorem cellAt_mid (A : Row) (y : List CV) (B : Row) (i j : Nat) (h : A.length = i) : cellAt (A ++ y :: B) i j = y.getD j (.b false) := by
 subst h
 unfold cellAt
 have : (A ++ y :: B).getD A.length [] = y := by simp [List.getD]
 rw [this]
theorem range_map_succ {α : Type} (f : Nat -> α) (n : Nat) : (List.range (n + 1)).map f = (List.range n).map f ++ [f n] := by rw [List.range_succ, List.map_append]; rfl
theorem beq_refl_ba (a : ByteArray) : List.beq a.toList a.toList = true := beq_self _
theorem getD_map {α : Type} (f : Nat -> List CV) (n i : Nat) (h : i < n) : ((List.range n).map f).getD i [] = f i := by simp [List.getD, h]
theorem cellAt_rm (f : Nat -> List CV) (n i j : Nat) (h : i < n) : cellAt ((List.range n).map f) i j = (f i).getD j (.b false) := by unfold cellAt; rw [getD_map (α := Unit) f n i h]
end Go.FG.Lib

namespace Go.FG.Lib
theorem for_run {σ R : Type} (len : Nat) (F : Nat -> Nat -> σ -> Option R) (st : Nat -> σ) (res : Option R)
  (hS : ∀ m i, i < len -> F (m + 1) i (st i) = F m (i + 1) (st (i + 1))) (hE : ∀ m, F (m + 1) len (st len) = res) (n i0 : Nat) (h0 : i0 <= len) (hn : len - i0 < n) : F n i0 (st i0) = res := by
 refine loop_gen (fun n i => F n i (st i)) (fun i => len - i) (fun i => i <= len) (fun _ => res) (fun m i hi => ?_) n i0 h0 hn
 by_cases h : i < len
 ·exact .inr ⟨i + 1, h, by omega, rfl, hS m i h⟩
 ·left
  have : i = len := by omega
  subst this; exact hE m
def rs (l : List ByteArray) : Row := l.map fun k => [CV.s k]
def ri (l : List Int) : Row := l.map fun n => [CV.i IntKind.i64 n]
def rr (l : List (List Int)) : Row := l.map fun q => [CV.l 3 (ri q)]
structure En where
 k : ByteArray
 st : Int
 li : Int
 bo : ByteArray
 deriving DecidableEq
def En.row (e : En) : List CV := [CV.s e.k, CV.i IntKind.i64 e.st, CV.i IntKind.i64 e.li, CV.s e.bo]
def re (l : List En) : Row := l.map En.row
structure Fe where
 k : ByteArray
 t : ByteArray
 sta : Int
 li : Int
 st : Int
 deriving DecidableEq
def Fe.row (e : Fe) : List CV := [CV.s e.k, CV.s e.t, CV.i IntKind.i64 e.sta, CV.i IntKind.i64 e.li, CV.i IntKind.i64 e.st]
def rf (l : List Fe) : Row := l.map Fe.row
structure Cl where
 id : Int
 k : ByteArray
 fe : Int
 fr : Int
 sta : Int
 got : ByteArray
 age : Int
 deriving DecidableEq
def Cl.row (e : Cl) : List CV := [CV.i IntKind.i64 e.id, CV.s e.k, CV.i IntKind.i64 e.fe, CV.i IntKind.i64 e.fr, CV.i IntKind.i64 e.sta, CV.s e.got, CV.i IntKind.i64 e.age]
def rc (l : List Cl) : Row := l.map Cl.row
structure Fi where
 n : ByteArray
 t : ByteArray
 kp : Int
 deriving DecidableEq
def Fi.row (e : Fi) : List CV := [CV.s e.n, CV.s e.t, CV.i IntKind.i64 e.kp]
def rd (l : List Fi) : Row := l.map Fi.row
theorem rs_len (l) : (rs l).length = l.length := by unfold rs; simp
end Go.FG.Lib
namespace Go.FG.Lib
def updL {α : Type} (l : List α) (g : Nat -> α -> α) (i : Nat) : List α := (l.mapIdx g).take i ++ l.drop i
end Go.FG.Lib

namespace Go.FG.Lib
instance : Inhabited En := ⟨⟨⟨#[]⟩, 0, 0, ⟨#[]⟩⟩⟩
instance : Inhabited Fe := ⟨⟨⟨#[]⟩, ⟨#[]⟩, 0, 0, 0⟩⟩
instance : Inhabited Cl := ⟨⟨0, ⟨#[]⟩, 0, 0, 0, ⟨#[]⟩, 0⟩⟩
instance : Inhabited Fi := ⟨⟨⟨#[]⟩, ⟨#[]⟩, 0⟩⟩
def el {α : Type} [Inhabited α] (l : List α) (i : Nat) : α := l.getD i default
structure Px where
 now : Int
 en : List En
 w : List ByteArray
 m : List ByteArray
 s : List (List Int)
 a : Int
 fe : List Fe
 cl : List Cl
 hits : Int
structure Px.Fit (p : Px) (n : Nat) : Prop where
 en : p.en.length <= n
 w : p.w.length <= n
 m : p.m.length <= n
 s : p.s.length <= n /\ (∀ q ∈ p.s, q.length <= n) /\ (p.s.map List.length).sum <= n
 fe : p.fe.length <= n
 cl : p.cl.length <= n
end Go.FG.Lib

namespace Go.FG
namespace Lib
def ap {α β : Type} (f : α -> β) (x : α) : β := f x
end Lib
end Go.FG

namespace Go.FG.Lib
end Go.FG.Lib

