/- Functions of the program, told as functions of numbers, texts and lists, and what each comes to. No condition but those that each states. -/
import Derived.Test.YticmocblmmahkaaLib
set_option linter.unusedVariables false
set_option linter.unusedSimpArgs false
set_option maxRecDepth 100000
namespace Go.FG.Pu.spec_SketchNew
def r3 {R : Type} (N : Nat) (g : Int → Int → Int → Option R) (g1 : Int → Int → Int → Row → Option R) (k0 : Int → Int → Int → Option R) (k1 : Int → Int → Int → Row → Option R) (x0 : Int) (x1 : Int) (x2 : Int) : Option R := bif (decide (x0 < 3)) then (g1 (w64 (x0 + 1)) x1 x2 ([] ++ List.set (zeros [Ck.l 3] 1) 0 [CV.l 3 (zeros [Ck.i IntKind.i64] (Int.toNat 16))])) else (k0 x0 x1 x2)
def r3a {R : Type} (N : Nat) (g : Int → Int → Int → Option R) (g1 : Int → Int → Int → Row → Option R) (k0 : Int → Int → Int → Option R) (k1 : Int → Int → Int → Row → Option R) (x3 : Int) (x4 : Int) (x5 : Int) (x6 : Row) : Option R := bif (decide (x3 < 3)) then (bif (roomy (List.length x6 + List.length (List.set (zeros [Ck.l 3] 1) 0 [CV.l 3 (zeros [Ck.i IntKind.i64] (Int.toNat 16))])) 24) then (g1 (w64 (x3 + 1)) x4 x5 (x6 ++ List.set (zeros [Ck.l 3] 1) 0 [CV.l 3 (zeros [Ck.i IntKind.i64] (Int.toNat 16))])) else (none)) else (k1 x3 x4 x5 x6)
def l3a {R : Type} (N : Nat) (k0 : Int → Int → Int → Option R) (k1 : Int → Int → Int → Row → Option R) : Nat → Int → Int → Int → Row → Option R
  | 0 => (fun _ _ _ _ => none)
  | n + 1 => (fun x3 x4 x5 x6 => r3a N (fun x0 x1 x2 => none) (l3a N k0 k1 n) k0 k1 x3 x4 x5 x6)
def l3 {R : Type} (N : Nat) (k0 : Int → Int → Int → Option R) (k1 : Int → Int → Int → Row → Option R) : Nat → Int → Int → Int → Option R
  | 0 => (fun _ _ _ => none)
  | n + 1 => (fun x0 x1 x2 => r3 N (l3 N k0 k1 n) (l3a N k0 k1 n) k0 k1 x0 x1 x2)
def b {R : Type} (N : Nat) (kr : Row → Int → Option R)  : Option R := l3 N (fun y7 y8 y9 => kr [] y9) (fun y10 y11 y12 y13 => kr y13 y12) N 0 0 0
theorem q3_bind {R S : Type} (f : R → Option S) (N : Nat) (k0 : Int → Int → Int → Option R) (k1 : Int → Int → Int → Row → Option R) : ∀ n : Nat, (∀ (x0 : Int) (x1 : Int) (x2 : Int), Option.bind (l3 N k0 k1 n x0 x1 x2) f = l3 N (fun y0 y1 y2 => (Option.bind (k0 y0 y1 y2) f)) (fun y0 y1 y2 y3 => (Option.bind (k1 y0 y1 y2 y3) f)) n x0 x1 x2) ∧ (∀ (x3 : Int) (x4 : Int) (x5 : Int) (x6 : Row), Option.bind (l3a N k0 k1 n x3 x4 x5 x6) f = l3a N (fun y0 y1 y2 => (Option.bind (k0 y0 y1 y2) f)) (fun y0 y1 y2 y3 => (Option.bind (k1 y0 y1 y2 y3) f)) n x3 x4 x5 x6) := by
  intro n
  induction n with
  | zero => exact ⟨(fun _ _ _ => rfl), (fun _ _ _ _ => rfl)⟩
  | succ n ih =>
    refine ⟨?_, ?_⟩
    · intro x0 x1 x2
      simp only [l3, r3, Lib.cond_bind, Lib.some_bind, Lib.none_bind, ih.1, ih.2]
    · intro x3 x4 x5 x6
      simp only [l3a, r3a, Lib.cond_bind, Lib.some_bind, Lib.none_bind, ih.1, ih.2]
theorem l3_bind {R S : Type} (f : R → Option S) (N : Nat) (k0 : Int → Int → Int → Option R) (k1 : Int → Int → Int → Row → Option R) (n : Nat) (x0 : Int) (x1 : Int) (x2 : Int) : Option.bind (l3 N k0 k1 n x0 x1 x2) f = l3 N (fun y0 y1 y2 => (Option.bind (k0 y0 y1 y2) f)) (fun y0 y1 y2 y3 => (Option.bind (k1 y0 y1 y2 y3) f)) n x0 x1 x2 := (q3_bind f N k0 k1 n).1 x0 x1 x2
theorem l3a_bind {R S : Type} (f : R → Option S) (N : Nat) (k0 : Int → Int → Int → Option R) (k1 : Int → Int → Int → Row → Option R) (n : Nat) (x3 : Int) (x4 : Int) (x5 : Int) (x6 : Row) : Option.bind (l3a N k0 k1 n x3 x4 x5 x6) f = l3a N (fun y0 y1 y2 => (Option.bind (k0 y0 y1 y2) f)) (fun y0 y1 y2 y3 => (Option.bind (k1 y0 y1 y2 y3) f)) n x3 x4 x5 x6 := (q3_bind f N k0 k1 n).2 x3 x4 x5 x6
theorem b_bind {R : Type} (N : Nat) (kr : Row → Int → Option R)  : b N kr  = Option.bind (b N (fun r0 r1 => some (r0, r1)) ) (fun p => kr p.1 p.2) := by
  unfold b; simp only [Lib.cond_bind, Lib.some_bind, Lib.none_bind, l3_bind, l3a_bind]
def vo  : Option (Row × Int) := b Lib.big (fun r0 r1 => some (r0, r1)) 
def c  : Bool := Option.isSome (vo )
def v  : Row × Int := Option.getD (vo ) ([], 0)
theorem out  {x : Row × Int} (h : vo  = some x) : c  = true ∧ v  = x := by
  unfold c v; rw [h]; exact ⟨rfl, rfl⟩
theorem b_eq {R : Type} (kr : Row → Int → Option R)  (hc : c  = true) : ∃ N, b N kr  = kr v.1 v.2 := by
  refine ⟨Lib.big, ?_⟩
  rw [b_bind]
  have e : vo  = some v := by
    unfold c at hc; unfold v
    cases h : vo  with
    | none => rw [h] at hc; cases hc
    | some x => rfl
  unfold vo at e
  rw [e]; rfl
end Go.FG.Pu.spec_SketchNew

namespace Go.FG.Pu.spec_PolicyNew
def b {R : Type} (kr : Row → Row → Row → Int → Option R)  : Option R := kr [] [] ([] ++ List.set (zeros [Ck.l 3] 1) 0 [CV.l 3 (zeros [Ck.i IntKind.i64] (Int.toNat 16))] ++ List.set (zeros [Ck.l 3] 1) 0 [CV.l 3 (zeros [Ck.i IntKind.i64] (Int.toNat 16))] ++ List.set (zeros [Ck.l 3] 1) 0 [CV.l 3 (zeros [Ck.i IntKind.i64] (Int.toNat 16))]) 0
def v  : Row × Row × Row × Int := ([], [], ([] ++ List.set (zeros [Ck.l 3] 1) 0 [CV.l 3 (zeros [Ck.i IntKind.i64] (Int.toNat 16))] ++ List.set (zeros [Ck.l 3] 1) 0 [CV.l 3 (zeros [Ck.i IntKind.i64] (Int.toNat 16))] ++ List.set (zeros [Ck.l 3] 1) 0 [CV.l 3 (zeros [Ck.i IntKind.i64] (Int.toNat 16))]), 0)
theorem b_eq {R : Type} (kr : Row → Row → Row → Int → Option R)  : b kr  = kr v.1 v.2.1 v.2.2.1 v.2.2.2 := by
  first | rfl | (unfold b v; simp only [Bool.cond_eq_ite]; (repeat' split) <;> rfl)
end Go.FG.Pu.spec_PolicyNew

namespace Go.FG.Pu.spec_ProxyNew
def b {R : Type} (kr : Int → Row → Row → Row → Row → Int → Row → Row → Int → Option R)  : Option R := kr 1 [] [] [] ([] ++ List.set (zeros [Ck.l 3] 1) 0 [CV.l 3 (zeros [Ck.i IntKind.i64] (Int.toNat 16))] ++ List.set (zeros [Ck.l 3] 1) 0 [CV.l 3 (zeros [Ck.i IntKind.i64] (Int.toNat 16))] ++ List.set (zeros [Ck.l 3] 1) 0 [CV.l 3 (zeros [Ck.i IntKind.i64] (Int.toNat 16))]) 0 [] [] 0
def v  : Int × Row × Row × Row × Row × Int × Row × Row × Int := (1, [], [], [], ([] ++ List.set (zeros [Ck.l 3] 1) 0 [CV.l 3 (zeros [Ck.i IntKind.i64] (Int.toNat 16))] ++ List.set (zeros [Ck.l 3] 1) 0 [CV.l 3 (zeros [Ck.i IntKind.i64] (Int.toNat 16))] ++ List.set (zeros [Ck.l 3] 1) 0 [CV.l 3 (zeros [Ck.i IntKind.i64] (Int.toNat 16))]), 0, [], [], 0)
theorem b_eq {R : Type} (kr : Int → Row → Row → Row → Row → Int → Row → Row → Int → Option R)  : b kr  = kr v.1 v.2.1 v.2.2.1 v.2.2.2.1 v.2.2.2.2.1 v.2.2.2.2.2.1 v.2.2.2.2.2.2.1 v.2.2.2.2.2.2.2.1 v.2.2.2.2.2.2.2.2 := by
  first | rfl | (unfold b v; simp only [Bool.cond_eq_ite]; (repeat' split) <;> rfl)
end Go.FG.Pu.spec_ProxyNew

namespace Go.FG.Pu.impl_SketchNew
def r3 {R : Type} (N : Nat) (g : Int → Int → Int → Option R) (g1 : Int → Int → Int → Row → Option R) (k0 : Int → Int → Int → Option R) (k1 : Int → Int → Int → Row → Option R) (x0 : Int) (x1 : Int) (x2 : Int) : Option R := bif (decide (x0 < 3)) then (g1 (w64 (x0 + 1)) x1 x2 ([] ++ List.set (zeros [Ck.l 3] 1) 0 [CV.l 3 (zeros [Ck.i IntKind.i64] (Int.toNat 16))])) else (k0 x0 x1 x2)
def r3a {R : Type} (N : Nat) (g : Int → Int → Int → Option R) (g1 : Int → Int → Int → Row → Option R) (k0 : Int → Int → Int → Option R) (k1 : Int → Int → Int → Row → Option R) (x3 : Int) (x4 : Int) (x5 : Int) (x6 : Row) : Option R := bif (decide (x3 < 3)) then (bif (roomy (List.length x6 + List.length (List.set (zeros [Ck.l 3] 1) 0 [CV.l 3 (zeros [Ck.i IntKind.i64] (Int.toNat 16))])) 24) then (g1 (w64 (x3 + 1)) x4 x5 (x6 ++ List.set (zeros [Ck.l 3] 1) 0 [CV.l 3 (zeros [Ck.i IntKind.i64] (Int.toNat 16))])) else (none)) else (k1 x3 x4 x5 x6)
def l3a {R : Type} (N : Nat) (k0 : Int → Int → Int → Option R) (k1 : Int → Int → Int → Row → Option R) : Nat → Int → Int → Int → Row → Option R
  | 0 => (fun _ _ _ _ => none)
  | n + 1 => (fun x3 x4 x5 x6 => r3a N (fun x0 x1 x2 => none) (l3a N k0 k1 n) k0 k1 x3 x4 x5 x6)
def l3 {R : Type} (N : Nat) (k0 : Int → Int → Int → Option R) (k1 : Int → Int → Int → Row → Option R) : Nat → Int → Int → Int → Option R
  | 0 => (fun _ _ _ => none)
  | n + 1 => (fun x0 x1 x2 => r3 N (l3 N k0 k1 n) (l3a N k0 k1 n) k0 k1 x0 x1 x2)
def b {R : Type} (N : Nat) (kr : Row → Int → Option R)  : Option R := l3 N (fun y7 y8 y9 => kr [] y9) (fun y10 y11 y12 y13 => kr y13 y12) N 0 0 0
theorem q3_bind {R S : Type} (f : R → Option S) (N : Nat) (k0 : Int → Int → Int → Option R) (k1 : Int → Int → Int → Row → Option R) : ∀ n : Nat, (∀ (x0 : Int) (x1 : Int) (x2 : Int), Option.bind (l3 N k0 k1 n x0 x1 x2) f = l3 N (fun y0 y1 y2 => (Option.bind (k0 y0 y1 y2) f)) (fun y0 y1 y2 y3 => (Option.bind (k1 y0 y1 y2 y3) f)) n x0 x1 x2) ∧ (∀ (x3 : Int) (x4 : Int) (x5 : Int) (x6 : Row), Option.bind (l3a N k0 k1 n x3 x4 x5 x6) f = l3a N (fun y0 y1 y2 => (Option.bind (k0 y0 y1 y2) f)) (fun y0 y1 y2 y3 => (Option.bind (k1 y0 y1 y2 y3) f)) n x3 x4 x5 x6) := by
  intro n
  induction n with
  | zero => exact ⟨(fun _ _ _ => rfl), (fun _ _ _ _ => rfl)⟩
  | succ n ih =>
    refine ⟨?_, ?_⟩
    · intro x0 x1 x2
      simp only [l3, r3, Lib.cond_bind, Lib.some_bind, Lib.none_bind, ih.1, ih.2]
    · intro x3 x4 x5 x6
      simp only [l3a, r3a, Lib.cond_bind, Lib.some_bind, Lib.none_bind, ih.1, ih.2]
theorem l3_bind {R S : Type} (f : R → Option S) (N : Nat) (k0 : Int → Int → Int → Option R) (k1 : Int → Int → Int → Row → Option R) (n : Nat) (x0 : Int) (x1 : Int) (x2 : Int) : Option.bind (l3 N k0 k1 n x0 x1 x2) f = l3 N (fun y0 y1 y2 => (Option.bind (k0 y0 y1 y2) f)) (fun y0 y1 y2 y3 => (Option.bind (k1 y0 y1 y2 y3) f)) n x0 x1 x2 := (q3_bind f N k0 k1 n).1 x0 x1 x2
theorem l3a_bind {R S : Type} (f : R → Option S) (N : Nat) (k0 : Int → Int → Int → Option R) (k1 : Int → Int → Int → Row → Option R) (n : Nat) (x3 : Int) (x4 : Int) (x5 : Int) (x6 : Row) : Option.bind (l3a N k0 k1 n x3 x4 x5 x6) f = l3a N (fun y0 y1 y2 => (Option.bind (k0 y0 y1 y2) f)) (fun y0 y1 y2 y3 => (Option.bind (k1 y0 y1 y2 y3) f)) n x3 x4 x5 x6 := (q3_bind f N k0 k1 n).2 x3 x4 x5 x6
theorem b_bind {R : Type} (N : Nat) (kr : Row → Int → Option R)  : b N kr  = Option.bind (b N (fun r0 r1 => some (r0, r1)) ) (fun p => kr p.1 p.2) := by
  unfold b; simp only [Lib.cond_bind, Lib.some_bind, Lib.none_bind, l3_bind, l3a_bind]
def vo  : Option (Row × Int) := b Lib.big (fun r0 r1 => some (r0, r1)) 
def c  : Bool := Option.isSome (vo )
def v  : Row × Int := Option.getD (vo ) ([], 0)
theorem out  {x : Row × Int} (h : vo  = some x) : c  = true ∧ v  = x := by
  unfold c v; rw [h]; exact ⟨rfl, rfl⟩
theorem b_eq {R : Type} (kr : Row → Int → Option R)  (hc : c  = true) : ∃ N, b N kr  = kr v.1 v.2 := by
  refine ⟨Lib.big, ?_⟩
  rw [b_bind]
  have e : vo  = some v := by
    unfold c at hc; unfold v
    cases h : vo  with
    | none => rw [h] at hc; cases hc
    | some x => rfl
  unfold vo at e
  rw [e]; rfl
end Go.FG.Pu.impl_SketchNew

namespace Go.FG.Pu.impl_PolicyNew
def b {R : Type} (kr : Row → Row → Row → Int → Option R)  : Option R := kr [] [] ([] ++ List.set (zeros [Ck.l 3] 1) 0 [CV.l 3 (zeros [Ck.i IntKind.i64] (Int.toNat 16))] ++ List.set (zeros [Ck.l 3] 1) 0 [CV.l 3 (zeros [Ck.i IntKind.i64] (Int.toNat 16))] ++ List.set (zeros [Ck.l 3] 1) 0 [CV.l 3 (zeros [Ck.i IntKind.i64] (Int.toNat 16))]) 0
def v  : Row × Row × Row × Int := ([], [], ([] ++ List.set (zeros [Ck.l 3] 1) 0 [CV.l 3 (zeros [Ck.i IntKind.i64] (Int.toNat 16))] ++ List.set (zeros [Ck.l 3] 1) 0 [CV.l 3 (zeros [Ck.i IntKind.i64] (Int.toNat 16))] ++ List.set (zeros [Ck.l 3] 1) 0 [CV.l 3 (zeros [Ck.i IntKind.i64] (Int.toNat 16))]), 0)
theorem b_eq {R : Type} (kr : Row → Row → Row → Int → Option R)  : b kr  = kr v.1 v.2.1 v.2.2.1 v.2.2.2 := by
  first | rfl | (unfold b v; simp only [Bool.cond_eq_ite]; (repeat' split) <;> rfl)
end Go.FG.Pu.impl_PolicyNew

namespace Go.FG.Pu.impl_ProxyNew
def b {R : Type} (kr : Int → Row → Row → Row → Row → Int → Row → Row → Int → Option R)  : Option R := kr 1 [] [] [] ([] ++ List.set (zeros [Ck.l 3] 1) 0 [CV.l 3 (zeros [Ck.i IntKind.i64] (Int.toNat 16))] ++ List.set (zeros [Ck.l 3] 1) 0 [CV.l 3 (zeros [Ck.i IntKind.i64] (Int.toNat 16))] ++ List.set (zeros [Ck.l 3] 1) 0 [CV.l 3 (zeros [Ck.i IntKind.i64] (Int.toNat 16))]) 0 [] [] 0
def v  : Int × Row × Row × Row × Row × Int × Row × Row × Int := (1, [], [], [], ([] ++ List.set (zeros [Ck.l 3] 1) 0 [CV.l 3 (zeros [Ck.i IntKind.i64] (Int.toNat 16))] ++ List.set (zeros [Ck.l 3] 1) 0 [CV.l 3 (zeros [Ck.i IntKind.i64] (Int.toNat 16))] ++ List.set (zeros [Ck.l 3] 1) 0 [CV.l 3 (zeros [Ck.i IntKind.i64] (Int.toNat 16))]), 0, [], [], 0)
theorem b_eq {R : Type} (kr : Int → Row → Row → Row → Row → Int → Row → Row → Int → Option R)  : b kr  = kr v.1 v.2.1 v.2.2.1 v.2.2.2.1 v.2.2.2.2.1 v.2.2.2.2.2.1 v.2.2.2.2.2.2.1 v.2.2.2.2.2.2.2.1 v.2.2.2.2.2.2.2.2 := by
  first | rfl | (unfold b v; simp only [Bool.cond_eq_ite]; (repeat' split) <;> rfl)
end Go.FG.Pu.impl_ProxyNew

namespace Go.FG.Pu.laws_eqEntry
def b {R : Type} (kr : Bool → Option R) (a0_0 : ByteArray) (a0_1 : Int) (a0_2 : Int) (a0_3 : ByteArray) (b1_0 : ByteArray) (b1_1 : Int) (b1_2 : Int) (b1_3 : ByteArray) : Option R := bif (!List.beq (ByteArray.toList a0_0) (ByteArray.toList b1_0)) then (kr false) else (bif (a0_1 != b1_1) then (kr false) else (bif (a0_2 != b1_2) then (kr false) else (bif (!List.beq (ByteArray.toList a0_3) (ByteArray.toList b1_3)) then (kr false) else (kr true))))
def v (a0_0 : ByteArray) (a0_1 : Int) (a0_2 : Int) (a0_3 : ByteArray) (b1_0 : ByteArray) (b1_1 : Int) (b1_2 : Int) (b1_3 : ByteArray) : Bool := bif (!List.beq (ByteArray.toList a0_0) (ByteArray.toList b1_0)) then ((false)) else (bif (a0_1 != b1_1) then ((false)) else (bif (a0_2 != b1_2) then ((false)) else (bif (!List.beq (ByteArray.toList a0_3) (ByteArray.toList b1_3)) then ((false)) else ((true)))))
theorem b_eq {R : Type} (kr : Bool → Option R) (a0_0 : ByteArray) (a0_1 : Int) (a0_2 : Int) (a0_3 : ByteArray) (b1_0 : ByteArray) (b1_1 : Int) (b1_2 : Int) (b1_3 : ByteArray) : b kr a0_0 a0_1 a0_2 a0_3 b1_0 b1_1 b1_2 b1_3 = kr (v a0_0 a0_1 a0_2 a0_3 b1_0 b1_1 b1_2 b1_3) := by
  first | rfl | (unfold b v; simp only [Bool.cond_eq_ite]; (repeat' split) <;> rfl)
end Go.FG.Pu.laws_eqEntry

namespace Go.FG.Pu.laws_eqEntryS
def r4 {R : Type} (N : Nat) (g : Row → Row → Bool → Int → Option R) (k0 : Row → Row → Bool → Int → Option R) (k1 : Row → Row → Bool → Int → Option R) (x0 : Row) (x1 : Row) (x2 : Bool) (x3 : Int) : Option R := bif (decide (x3 < (↑(List.length x0) : Int))) then (bif (decide (0 ≤ x3) && decide (x3 < (↑(List.length x0) : Int))) then (bif (decide (0 ≤ x3) && decide (x3 < (↑(List.length x1) : Int))) then (bif (!Pu.laws_eqEntry.v (cvS (cellAt x0 (Int.toNat x3) 0)) (cvI (cellAt x0 (Int.toNat x3) 1)) (cvI (cellAt x0 (Int.toNat x3) (1 + 1))) (cvS (cellAt x0 (Int.toNat x3) (1 + 1 + 1))) (cvS (cellAt x1 (Int.toNat x3) 0)) (cvI (cellAt x1 (Int.toNat x3) 1)) (cvI (cellAt x1 (Int.toNat x3) (1 + 1))) (cvS (cellAt x1 (Int.toNat x3) (1 + 1 + 1)))) then (k0 x0 x1 false x3) else (g x0 x1 x2 (w64 (x3 + 1)))) else (none)) else (none)) else (k1 x0 x1 x2 x3)
def l4 {R : Type} (N : Nat) (k0 : Row → Row → Bool → Int → Option R) (k1 : Row → Row → Bool → Int → Option R) : Nat → Row → Row → Bool → Int → Option R
  | 0 => (fun _ _ _ _ => none)
  | n + 1 => (fun x0 x1 x2 x3 => r4 N (l4 N k0 k1 n) k0 k1 x0 x1 x2 x3)
def b {R : Type} (N : Nat) (kr : Bool → Option R) (a0 : Row) (b1 : Row) : Option R := bif ((↑(List.length a0) : Int) != (↑(List.length b1) : Int)) then (kr false) else (l4 N (fun y4 y5 y6 y7 => kr y6) (fun y8 y9 y10 y11 => kr true) N a0 b1 false 0)
theorem q4_bind {R S : Type} (f : R → Option S) (N : Nat) (k0 : Row → Row → Bool → Int → Option R) (k1 : Row → Row → Bool → Int → Option R) : ∀ n : Nat, (∀ (x0 : Row) (x1 : Row) (x2 : Bool) (x3 : Int), Option.bind (l4 N k0 k1 n x0 x1 x2 x3) f = l4 N (fun y0 y1 y2 y3 => (Option.bind (k0 y0 y1 y2 y3) f)) (fun y0 y1 y2 y3 => (Option.bind (k1 y0 y1 y2 y3) f)) n x0 x1 x2 x3) := by
  intro n
  induction n with
  | zero => exact (fun _ _ _ _ => rfl)
  | succ n ih =>
    intro x0 x1 x2 x3
    simp only [l4, r4, Lib.cond_bind, Lib.some_bind, Lib.none_bind, ih]
theorem l4_bind {R S : Type} (f : R → Option S) (N : Nat) (k0 : Row → Row → Bool → Int → Option R) (k1 : Row → Row → Bool → Int → Option R) (n : Nat) (x0 : Row) (x1 : Row) (x2 : Bool) (x3 : Int) : Option.bind (l4 N k0 k1 n x0 x1 x2 x3) f = l4 N (fun y0 y1 y2 y3 => (Option.bind (k0 y0 y1 y2 y3) f)) (fun y0 y1 y2 y3 => (Option.bind (k1 y0 y1 y2 y3) f)) n x0 x1 x2 x3 := (q4_bind f N k0 k1 n) x0 x1 x2 x3
theorem b_bind {R : Type} (N : Nat) (kr : Bool → Option R) (a0 : Row) (b1 : Row) : b N kr a0 b1 = Option.bind (b N (fun r0 => some (r0)) a0 b1) (fun p => kr p) := by
  unfold b; simp only [Lib.cond_bind, Lib.some_bind, Lib.none_bind, l4_bind]
def vo (a0 : Row) (b1 : Row) : Option (Bool) := b Lib.big (fun r0 => some (r0)) a0 b1
def c (a0 : Row) (b1 : Row) : Bool := Option.isSome (vo a0 b1)
def v (a0 : Row) (b1 : Row) : Bool := Option.getD (vo a0 b1) (false)
theorem out (a0 : Row) (b1 : Row) {x : Bool} (h : vo a0 b1 = some x) : c a0 b1 = true ∧ v a0 b1 = x := by
  unfold c v; rw [h]; exact ⟨rfl, rfl⟩
theorem b_eq {R : Type} (kr : Bool → Option R) (a0 : Row) (b1 : Row) (hc : c a0 b1 = true) : ∃ N, b N kr a0 b1 = kr (v a0 b1) := by
  refine ⟨Lib.big, ?_⟩
  rw [b_bind]
  have e : vo a0 b1 = some (v a0 b1) := by
    unfold c at hc; unfold v
    cases h : vo a0 b1 with
    | none => rw [h] at hc; cases hc
    | some x => rfl
  unfold vo at e
  rw [e]; rfl
end Go.FG.Pu.laws_eqEntryS

namespace Go.FG.Pu.laws_eqStringS
def r4 {R : Type} (N : Nat) (g : Row → Row → Bool → Int → Option R) (k0 : Row → Row → Bool → Int → Option R) (k1 : Row → Row → Bool → Int → Option R) (x0 : Row) (x1 : Row) (x2 : Bool) (x3 : Int) : Option R := bif (decide (x3 < (↑(List.length x0) : Int))) then (bif (decide (0 ≤ x3) && decide (x3 < (↑(List.length x0) : Int))) then (bif (decide (0 ≤ x3) && decide (x3 < (↑(List.length x1) : Int))) then (bif (!List.beq (ByteArray.toList (cvS (cellAt x0 (Int.toNat x3) 0))) (ByteArray.toList (cvS (cellAt x1 (Int.toNat x3) 0)))) then (k0 x0 x1 false x3) else (g x0 x1 x2 (w64 (x3 + 1)))) else (none)) else (none)) else (k1 x0 x1 x2 x3)
def l4 {R : Type} (N : Nat) (k0 : Row → Row → Bool → Int → Option R) (k1 : Row → Row → Bool → Int → Option R) : Nat → Row → Row → Bool → Int → Option R
  | 0 => (fun _ _ _ _ => none)
  | n + 1 => (fun x0 x1 x2 x3 => r4 N (l4 N k0 k1 n) k0 k1 x0 x1 x2 x3)
def b {R : Type} (N : Nat) (kr : Bool → Option R) (a0 : Row) (b1 : Row) : Option R := bif ((↑(List.length a0) : Int) != (↑(List.length b1) : Int)) then (kr false) else (l4 N (fun y4 y5 y6 y7 => kr y6) (fun y8 y9 y10 y11 => kr true) N a0 b1 false 0)
theorem q4_bind {R S : Type} (f : R → Option S) (N : Nat) (k0 : Row → Row → Bool → Int → Option R) (k1 : Row → Row → Bool → Int → Option R) : ∀ n : Nat, (∀ (x0 : Row) (x1 : Row) (x2 : Bool) (x3 : Int), Option.bind (l4 N k0 k1 n x0 x1 x2 x3) f = l4 N (fun y0 y1 y2 y3 => (Option.bind (k0 y0 y1 y2 y3) f)) (fun y0 y1 y2 y3 => (Option.bind (k1 y0 y1 y2 y3) f)) n x0 x1 x2 x3) := by
  intro n
  induction n with
  | zero => exact (fun _ _ _ _ => rfl)
  | succ n ih =>
    intro x0 x1 x2 x3
    simp only [l4, r4, Lib.cond_bind, Lib.some_bind, Lib.none_bind, ih]
theorem l4_bind {R S : Type} (f : R → Option S) (N : Nat) (k0 : Row → Row → Bool → Int → Option R) (k1 : Row → Row → Bool → Int → Option R) (n : Nat) (x0 : Row) (x1 : Row) (x2 : Bool) (x3 : Int) : Option.bind (l4 N k0 k1 n x0 x1 x2 x3) f = l4 N (fun y0 y1 y2 y3 => (Option.bind (k0 y0 y1 y2 y3) f)) (fun y0 y1 y2 y3 => (Option.bind (k1 y0 y1 y2 y3) f)) n x0 x1 x2 x3 := (q4_bind f N k0 k1 n) x0 x1 x2 x3
theorem b_bind {R : Type} (N : Nat) (kr : Bool → Option R) (a0 : Row) (b1 : Row) : b N kr a0 b1 = Option.bind (b N (fun r0 => some (r0)) a0 b1) (fun p => kr p) := by
  unfold b; simp only [Lib.cond_bind, Lib.some_bind, Lib.none_bind, l4_bind]
def vo (a0 : Row) (b1 : Row) : Option (Bool) := b Lib.big (fun r0 => some (r0)) a0 b1
def c (a0 : Row) (b1 : Row) : Bool := Option.isSome (vo a0 b1)
def v (a0 : Row) (b1 : Row) : Bool := Option.getD (vo a0 b1) (false)
theorem out (a0 : Row) (b1 : Row) {x : Bool} (h : vo a0 b1 = some x) : c a0 b1 = true ∧ v a0 b1 = x := by
  unfold c v; rw [h]; exact ⟨rfl, rfl⟩
theorem b_eq {R : Type} (kr : Bool → Option R) (a0 : Row) (b1 : Row) (hc : c a0 b1 = true) : ∃ N, b N kr a0 b1 = kr (v a0 b1) := by
  refine ⟨Lib.big, ?_⟩
  rw [b_bind]
  have e : vo a0 b1 = some (v a0 b1) := by
    unfold c at hc; unfold v
    cases h : vo a0 b1 with
    | none => rw [h] at hc; cases hc
    | some x => rfl
  unfold vo at e
  rw [e]; rfl
end Go.FG.Pu.laws_eqStringS

namespace Go.FG.Pu.laws_eqIntS
def r4 {R : Type} (N : Nat) (g : Row → Row → Bool → Int → Option R) (k0 : Row → Row → Bool → Int → Option R) (k1 : Row → Row → Bool → Int → Option R) (x0 : Row) (x1 : Row) (x2 : Bool) (x3 : Int) : Option R := bif (decide (x3 < (↑(List.length x0) : Int))) then (bif (decide (0 ≤ x3) && decide (x3 < (↑(List.length x0) : Int))) then (bif (decide (0 ≤ x3) && decide (x3 < (↑(List.length x1) : Int))) then (bif (cvI (cellAt x0 (Int.toNat x3) 0) != cvI (cellAt x1 (Int.toNat x3) 0)) then (k0 x0 x1 false x3) else (g x0 x1 x2 (w64 (x3 + 1)))) else (none)) else (none)) else (k1 x0 x1 x2 x3)
def l4 {R : Type} (N : Nat) (k0 : Row → Row → Bool → Int → Option R) (k1 : Row → Row → Bool → Int → Option R) : Nat → Row → Row → Bool → Int → Option R
  | 0 => (fun _ _ _ _ => none)
  | n + 1 => (fun x0 x1 x2 x3 => r4 N (l4 N k0 k1 n) k0 k1 x0 x1 x2 x3)
def b {R : Type} (N : Nat) (kr : Bool → Option R) (a0 : Row) (b1 : Row) : Option R := bif ((↑(List.length a0) : Int) != (↑(List.length b1) : Int)) then (kr false) else (l4 N (fun y4 y5 y6 y7 => kr y6) (fun y8 y9 y10 y11 => kr true) N a0 b1 false 0)
def v (a0 : Row) (b1 : Row) : Bool := (a0.length == b1.length) && (List.range a0.length).all fun i => !(cvI (cellAt a0 i 0) != cvI (cellAt b1 i 0))
def fr (a b : Row) (i : Nat) : Bool := (List.range' i (a.length - i)).all fun i => !(cvI (cellAt a i 0) != cvI (cellAt b i 0))
theorem run {R : Type} (N : Nat) (kr : Bool → Option R) (a b : Row) (hl : a.length = b.length) (ha : FitR a) : ∀ n (i : Nat), i ≤ a.length → a.length - i < n → l4 N (fun _ _ y _ => kr y) (fun _ _ _ _ => kr true) n a b false i = kr (fr a b i) := by
  refine Lib.loop_gen (fun n (i : Nat) => l4 N (fun _ _ y _ => kr y) (fun _ _ _ _ => kr true) n a b false i) (fun i => a.length - i) (fun i => i ≤ a.length) (fun i => kr (fr a b i)) (fun n i hi => ?_)
  simp only [l4, r4, Lib.dlt, Lib.dle0, Lib.toN, Bool.true_and]
  by_cases h : i < a.length
  · have e : a.length - i = (a.length - (i + 1)) + 1 := by omega
    have hf : fr a b i = (!(cvI (cellAt a i 0) != cvI (cellAt b i 0)) && fr a b (i + 1)) := by
      unfold fr; rw [e, List.range'_succ, List.all_cons]
    have hb : i < b.length := by omega
    simp only [h, hb, decide_true, cond_true, Lib.w64_s h ha.1]
    cases hv : (cvI (cellAt a i 0) != cvI (cellAt b i 0)) with
    | false => exact .inr ⟨i + 1, h, by omega, by rw [hf, hv]; rfl, rfl⟩
    | true => left; rw [hf, hv]; rfl
  · left
    have : a.length - i = 0 := by omega
    simp only [h, decide_false, cond_false]
    unfold fr; rw [this]; rfl
theorem b_eq {R : Type} (kr : Bool → Option R) (a0 : Row) (b1 : Row) (f0 : FitR a0) (f1 : FitR b1) : ∃ N, b N kr a0 b1 = kr (v a0 b1) := by
  refine ⟨a0.length + 1, ?_⟩
  unfold b v
  by_cases hl : a0.length = b1.length
  · have e : ((a0.length : Int) != (b1.length : Int)) = false := by simp [hl]
    rw [e, cond_false]
    refine (run _ kr a0 b1 hl f0 (a0.length + 1) 0 (by omega) (by omega)).trans ?_
    unfold fr; rw [show (a0.length == b1.length) = true by simp [hl], Nat.sub_zero, ← List.range_eq_range']; rfl
  · have e : ((a0.length : Int) != (b1.length : Int)) = true := by simp; omega
    have e2 : (a0.length == b1.length) = false := by simp; omega
    rw [e, cond_true, e2]; rfl
theorem refl (a : Row) : v a a = true := by unfold v; simp
end Go.FG.Pu.laws_eqIntS

namespace Go.FG.Pu.laws_eqIntSS
def r4 {R : Type} (N : Nat) (g : Row → Row → Bool → Int → Option R) (k0 : Row → Row → Bool → Int → Option R) (k1 : Row → Row → Bool → Int → Option R) (x0 : Row) (x1 : Row) (x2 : Bool) (x3 : Int) : Option R := bif (decide (x3 < (↑(List.length x0) : Int))) then (bif (decide (0 ≤ x3) && decide (x3 < (↑(List.length x0) : Int))) then (bif (decide (0 ≤ x3) && decide (x3 < (↑(List.length x1) : Int))) then (bif (!Pu.laws_eqIntS.v (cvL (cellAt x0 (Int.toNat x3) 0)) (cvL (cellAt x1 (Int.toNat x3) 0))) then (k0 x0 x1 false x3) else (g x0 x1 x2 (w64 (x3 + 1)))) else (none)) else (none)) else (k1 x0 x1 x2 x3)
def l4 {R : Type} (N : Nat) (k0 : Row → Row → Bool → Int → Option R) (k1 : Row → Row → Bool → Int → Option R) : Nat → Row → Row → Bool → Int → Option R
  | 0 => (fun _ _ _ _ => none)
  | n + 1 => (fun x0 x1 x2 x3 => r4 N (l4 N k0 k1 n) k0 k1 x0 x1 x2 x3)
def b {R : Type} (N : Nat) (kr : Bool → Option R) (a0 : Row) (b1 : Row) : Option R := bif ((↑(List.length a0) : Int) != (↑(List.length b1) : Int)) then (kr false) else (l4 N (fun y4 y5 y6 y7 => kr y6) (fun y8 y9 y10 y11 => kr true) N a0 b1 false 0)
theorem q4_bind {R S : Type} (f : R → Option S) (N : Nat) (k0 : Row → Row → Bool → Int → Option R) (k1 : Row → Row → Bool → Int → Option R) : ∀ n : Nat, (∀ (x0 : Row) (x1 : Row) (x2 : Bool) (x3 : Int), Option.bind (l4 N k0 k1 n x0 x1 x2 x3) f = l4 N (fun y0 y1 y2 y3 => (Option.bind (k0 y0 y1 y2 y3) f)) (fun y0 y1 y2 y3 => (Option.bind (k1 y0 y1 y2 y3) f)) n x0 x1 x2 x3) := by
  intro n
  induction n with
  | zero => exact (fun _ _ _ _ => rfl)
  | succ n ih =>
    intro x0 x1 x2 x3
    simp only [l4, r4, Lib.cond_bind, Lib.some_bind, Lib.none_bind, ih]
theorem l4_bind {R S : Type} (f : R → Option S) (N : Nat) (k0 : Row → Row → Bool → Int → Option R) (k1 : Row → Row → Bool → Int → Option R) (n : Nat) (x0 : Row) (x1 : Row) (x2 : Bool) (x3 : Int) : Option.bind (l4 N k0 k1 n x0 x1 x2 x3) f = l4 N (fun y0 y1 y2 y3 => (Option.bind (k0 y0 y1 y2 y3) f)) (fun y0 y1 y2 y3 => (Option.bind (k1 y0 y1 y2 y3) f)) n x0 x1 x2 x3 := (q4_bind f N k0 k1 n) x0 x1 x2 x3
theorem b_bind {R : Type} (N : Nat) (kr : Bool → Option R) (a0 : Row) (b1 : Row) : b N kr a0 b1 = Option.bind (b N (fun r0 => some (r0)) a0 b1) (fun p => kr p) := by
  unfold b; simp only [Lib.cond_bind, Lib.some_bind, Lib.none_bind, l4_bind]
def vo (a0 : Row) (b1 : Row) : Option (Bool) := b Lib.big (fun r0 => some (r0)) a0 b1
def c (a0 : Row) (b1 : Row) : Bool := Option.isSome (vo a0 b1)
def v (a0 : Row) (b1 : Row) : Bool := Option.getD (vo a0 b1) (false)
theorem out (a0 : Row) (b1 : Row) {x : Bool} (h : vo a0 b1 = some x) : c a0 b1 = true ∧ v a0 b1 = x := by
  unfold c v; rw [h]; exact ⟨rfl, rfl⟩
theorem b_eq {R : Type} (kr : Bool → Option R) (a0 : Row) (b1 : Row) (hc : c a0 b1 = true) : ∃ N, b N kr a0 b1 = kr (v a0 b1) := by
  refine ⟨Lib.big, ?_⟩
  rw [b_bind]
  have e : vo a0 b1 = some (v a0 b1) := by
    unfold c at hc; unfold v
    cases h : vo a0 b1 with
    | none => rw [h] at hc; cases hc
    | some x => rfl
  unfold vo at e
  rw [e]; rfl
end Go.FG.Pu.laws_eqIntSS

namespace Go.FG.Pu.laws_eqSketch
def b {R : Type} (kr : Bool → Option R) (a0_0 : Row) (a0_1 : Int) (b1_0 : Row) (b1_1 : Int) : Option R := bif (Pu.laws_eqIntSS.c a0_0 b1_0) then (bif (!Pu.laws_eqIntSS.v a0_0 b1_0) then (kr false) else (bif (a0_1 != b1_1) then (kr false) else (kr true))) else (none)
theorem b_bind {R : Type} (kr : Bool → Option R) (a0_0 : Row) (a0_1 : Int) (b1_0 : Row) (b1_1 : Int) : b kr a0_0 a0_1 b1_0 b1_1 = Option.bind (b (fun r0 => some (r0)) a0_0 a0_1 b1_0 b1_1) (fun p => kr p) := by
  unfold b; simp only [Lib.cond_bind, Lib.some_bind, Lib.none_bind]
def vo (a0_0 : Row) (a0_1 : Int) (b1_0 : Row) (b1_1 : Int) : Option (Bool) := b (fun r0 => some (r0)) a0_0 a0_1 b1_0 b1_1
def c (a0_0 : Row) (a0_1 : Int) (b1_0 : Row) (b1_1 : Int) : Bool := Option.isSome (vo a0_0 a0_1 b1_0 b1_1)
def v (a0_0 : Row) (a0_1 : Int) (b1_0 : Row) (b1_1 : Int) : Bool := Option.getD (vo a0_0 a0_1 b1_0 b1_1) (false)
theorem out (a0_0 : Row) (a0_1 : Int) (b1_0 : Row) (b1_1 : Int) {x : Bool} (h : vo a0_0 a0_1 b1_0 b1_1 = some x) : c a0_0 a0_1 b1_0 b1_1 = true ∧ v a0_0 a0_1 b1_0 b1_1 = x := by
  unfold c v; rw [h]; exact ⟨rfl, rfl⟩
theorem b_eq {R : Type} (kr : Bool → Option R) (a0_0 : Row) (a0_1 : Int) (b1_0 : Row) (b1_1 : Int) (hc : c a0_0 a0_1 b1_0 b1_1 = true) : b kr a0_0 a0_1 b1_0 b1_1 = kr (v a0_0 a0_1 b1_0 b1_1) := by
  rw [b_bind]
  have e : vo a0_0 a0_1 b1_0 b1_1 = some (v a0_0 a0_1 b1_0 b1_1) := by
    unfold c at hc; unfold v
    cases h : vo a0_0 a0_1 b1_0 b1_1 with
    | none => rw [h] at hc; cases hc
    | some x => rfl
  unfold vo at e
  rw [e]; rfl
end Go.FG.Pu.laws_eqSketch

namespace Go.FG.Pu.laws_eqPolicy
def b {R : Type} (kr : Bool → Option R) (a0_0 : Row) (a0_1 : Row) (a0_2 : Row) (a0_3 : Int) (b1_0 : Row) (b1_1 : Row) (b1_2 : Row) (b1_3 : Int) : Option R := bif (Pu.laws_eqStringS.c a0_0 b1_0) then (bif (!Pu.laws_eqStringS.v a0_0 b1_0) then (kr false) else (bif (Pu.laws_eqStringS.c a0_1 b1_1) then (bif (!Pu.laws_eqStringS.v a0_1 b1_1) then (kr false) else (bif (Pu.laws_eqSketch.c a0_2 a0_3 b1_2 b1_3) then (bif (!Pu.laws_eqSketch.v a0_2 a0_3 b1_2 b1_3) then (kr false) else (kr true)) else (none))) else (none))) else (none)
theorem b_bind {R : Type} (kr : Bool → Option R) (a0_0 : Row) (a0_1 : Row) (a0_2 : Row) (a0_3 : Int) (b1_0 : Row) (b1_1 : Row) (b1_2 : Row) (b1_3 : Int) : b kr a0_0 a0_1 a0_2 a0_3 b1_0 b1_1 b1_2 b1_3 = Option.bind (b (fun r0 => some (r0)) a0_0 a0_1 a0_2 a0_3 b1_0 b1_1 b1_2 b1_3) (fun p => kr p) := by
  unfold b; simp only [Lib.cond_bind, Lib.some_bind, Lib.none_bind]
def vo (a0_0 : Row) (a0_1 : Row) (a0_2 : Row) (a0_3 : Int) (b1_0 : Row) (b1_1 : Row) (b1_2 : Row) (b1_3 : Int) : Option (Bool) := b (fun r0 => some (r0)) a0_0 a0_1 a0_2 a0_3 b1_0 b1_1 b1_2 b1_3
def c (a0_0 : Row) (a0_1 : Row) (a0_2 : Row) (a0_3 : Int) (b1_0 : Row) (b1_1 : Row) (b1_2 : Row) (b1_3 : Int) : Bool := Option.isSome (vo a0_0 a0_1 a0_2 a0_3 b1_0 b1_1 b1_2 b1_3)
def v (a0_0 : Row) (a0_1 : Row) (a0_2 : Row) (a0_3 : Int) (b1_0 : Row) (b1_1 : Row) (b1_2 : Row) (b1_3 : Int) : Bool := Option.getD (vo a0_0 a0_1 a0_2 a0_3 b1_0 b1_1 b1_2 b1_3) (false)
theorem out (a0_0 : Row) (a0_1 : Row) (a0_2 : Row) (a0_3 : Int) (b1_0 : Row) (b1_1 : Row) (b1_2 : Row) (b1_3 : Int) {x : Bool} (h : vo a0_0 a0_1 a0_2 a0_3 b1_0 b1_1 b1_2 b1_3 = some x) : c a0_0 a0_1 a0_2 a0_3 b1_0 b1_1 b1_2 b1_3 = true ∧ v a0_0 a0_1 a0_2 a0_3 b1_0 b1_1 b1_2 b1_3 = x := by
  unfold c v; rw [h]; exact ⟨rfl, rfl⟩
theorem b_eq {R : Type} (kr : Bool → Option R) (a0_0 : Row) (a0_1 : Row) (a0_2 : Row) (a0_3 : Int) (b1_0 : Row) (b1_1 : Row) (b1_2 : Row) (b1_3 : Int) (hc : c a0_0 a0_1 a0_2 a0_3 b1_0 b1_1 b1_2 b1_3 = true) : b kr a0_0 a0_1 a0_2 a0_3 b1_0 b1_1 b1_2 b1_3 = kr (v a0_0 a0_1 a0_2 a0_3 b1_0 b1_1 b1_2 b1_3) := by
  rw [b_bind]
  have e : vo a0_0 a0_1 a0_2 a0_3 b1_0 b1_1 b1_2 b1_3 = some (v a0_0 a0_1 a0_2 a0_3 b1_0 b1_1 b1_2 b1_3) := by
    unfold c at hc; unfold v
    cases h : vo a0_0 a0_1 a0_2 a0_3 b1_0 b1_1 b1_2 b1_3 with
    | none => rw [h] at hc; cases hc
    | some x => rfl
  unfold vo at e
  rw [e]; rfl
end Go.FG.Pu.laws_eqPolicy

namespace Go.FG.Pu.laws_eqFetch
def b {R : Type} (kr : Bool → Option R) (a0_0 : ByteArray) (a0_1 : ByteArray) (a0_2 : Int) (a0_3 : Int) (a0_4 : Int) (b1_0 : ByteArray) (b1_1 : ByteArray) (b1_2 : Int) (b1_3 : Int) (b1_4 : Int) : Option R := bif (!List.beq (ByteArray.toList a0_0) (ByteArray.toList b1_0)) then (kr false) else (bif (!List.beq (ByteArray.toList a0_1) (ByteArray.toList b1_1)) then (kr false) else (bif (a0_2 != b1_2) then (kr false) else (bif (a0_3 != b1_3) then (kr false) else (bif (a0_4 != b1_4) then (kr false) else (kr true)))))
def v (a0_0 : ByteArray) (a0_1 : ByteArray) (a0_2 : Int) (a0_3 : Int) (a0_4 : Int) (b1_0 : ByteArray) (b1_1 : ByteArray) (b1_2 : Int) (b1_3 : Int) (b1_4 : Int) : Bool := bif (!List.beq (ByteArray.toList a0_0) (ByteArray.toList b1_0)) then ((false)) else (bif (!List.beq (ByteArray.toList a0_1) (ByteArray.toList b1_1)) then ((false)) else (bif (a0_2 != b1_2) then ((false)) else (bif (a0_3 != b1_3) then ((false)) else (bif (a0_4 != b1_4) then ((false)) else ((true))))))
theorem b_eq {R : Type} (kr : Bool → Option R) (a0_0 : ByteArray) (a0_1 : ByteArray) (a0_2 : Int) (a0_3 : Int) (a0_4 : Int) (b1_0 : ByteArray) (b1_1 : ByteArray) (b1_2 : Int) (b1_3 : Int) (b1_4 : Int) : b kr a0_0 a0_1 a0_2 a0_3 a0_4 b1_0 b1_1 b1_2 b1_3 b1_4 = kr (v a0_0 a0_1 a0_2 a0_3 a0_4 b1_0 b1_1 b1_2 b1_3 b1_4) := by
  first | rfl | (unfold b v; simp only [Bool.cond_eq_ite]; (repeat' split) <;> rfl)
end Go.FG.Pu.laws_eqFetch

namespace Go.FG.Pu.laws_eqFetchS
def r4 {R : Type} (N : Nat) (g : Row → Row → Bool → Int → Option R) (k0 : Row → Row → Bool → Int → Option R) (k1 : Row → Row → Bool → Int → Option R) (x0 : Row) (x1 : Row) (x2 : Bool) (x3 : Int) : Option R := bif (decide (x3 < (↑(List.length x0) : Int))) then (bif (decide (0 ≤ x3) && decide (x3 < (↑(List.length x0) : Int))) then (bif (decide (0 ≤ x3) && decide (x3 < (↑(List.length x1) : Int))) then (bif (!Pu.laws_eqFetch.v (cvS (cellAt x0 (Int.toNat x3) 0)) (cvS (cellAt x0 (Int.toNat x3) 1)) (cvI (cellAt x0 (Int.toNat x3) (1 + 1))) (cvI (cellAt x0 (Int.toNat x3) (1 + 1 + 1))) (cvI (cellAt x0 (Int.toNat x3) (1 + 1 + 1 + 1))) (cvS (cellAt x1 (Int.toNat x3) 0)) (cvS (cellAt x1 (Int.toNat x3) 1)) (cvI (cellAt x1 (Int.toNat x3) (1 + 1))) (cvI (cellAt x1 (Int.toNat x3) (1 + 1 + 1))) (cvI (cellAt x1 (Int.toNat x3) (1 + 1 + 1 + 1)))) then (k0 x0 x1 false x3) else (g x0 x1 x2 (w64 (x3 + 1)))) else (none)) else (none)) else (k1 x0 x1 x2 x3)
def l4 {R : Type} (N : Nat) (k0 : Row → Row → Bool → Int → Option R) (k1 : Row → Row → Bool → Int → Option R) : Nat → Row → Row → Bool → Int → Option R
  | 0 => (fun _ _ _ _ => none)
  | n + 1 => (fun x0 x1 x2 x3 => r4 N (l4 N k0 k1 n) k0 k1 x0 x1 x2 x3)
def b {R : Type} (N : Nat) (kr : Bool → Option R) (a0 : Row) (b1 : Row) : Option R := bif ((↑(List.length a0) : Int) != (↑(List.length b1) : Int)) then (kr false) else (l4 N (fun y4 y5 y6 y7 => kr y6) (fun y8 y9 y10 y11 => kr true) N a0 b1 false 0)
theorem q4_bind {R S : Type} (f : R → Option S) (N : Nat) (k0 : Row → Row → Bool → Int → Option R) (k1 : Row → Row → Bool → Int → Option R) : ∀ n : Nat, (∀ (x0 : Row) (x1 : Row) (x2 : Bool) (x3 : Int), Option.bind (l4 N k0 k1 n x0 x1 x2 x3) f = l4 N (fun y0 y1 y2 y3 => (Option.bind (k0 y0 y1 y2 y3) f)) (fun y0 y1 y2 y3 => (Option.bind (k1 y0 y1 y2 y3) f)) n x0 x1 x2 x3) := by
  intro n
  induction n with
  | zero => exact (fun _ _ _ _ => rfl)
  | succ n ih =>
    intro x0 x1 x2 x3
    simp only [l4, r4, Lib.cond_bind, Lib.some_bind, Lib.none_bind, ih]
theorem l4_bind {R S : Type} (f : R → Option S) (N : Nat) (k0 : Row → Row → Bool → Int → Option R) (k1 : Row → Row → Bool → Int → Option R) (n : Nat) (x0 : Row) (x1 : Row) (x2 : Bool) (x3 : Int) : Option.bind (l4 N k0 k1 n x0 x1 x2 x3) f = l4 N (fun y0 y1 y2 y3 => (Option.bind (k0 y0 y1 y2 y3) f)) (fun y0 y1 y2 y3 => (Option.bind (k1 y0 y1 y2 y3) f)) n x0 x1 x2 x3 := (q4_bind f N k0 k1 n) x0 x1 x2 x3
theorem b_bind {R : Type} (N : Nat) (kr : Bool → Option R) (a0 : Row) (b1 : Row) : b N kr a0 b1 = Option.bind (b N (fun r0 => some (r0)) a0 b1) (fun p => kr p) := by
  unfold b; simp only [Lib.cond_bind, Lib.some_bind, Lib.none_bind, l4_bind]
def vo (a0 : Row) (b1 : Row) : Option (Bool) := b Lib.big (fun r0 => some (r0)) a0 b1
def c (a0 : Row) (b1 : Row) : Bool := Option.isSome (vo a0 b1)
def v (a0 : Row) (b1 : Row) : Bool := Option.getD (vo a0 b1) (false)
theorem out (a0 : Row) (b1 : Row) {x : Bool} (h : vo a0 b1 = some x) : c a0 b1 = true ∧ v a0 b1 = x := by
  unfold c v; rw [h]; exact ⟨rfl, rfl⟩
theorem b_eq {R : Type} (kr : Bool → Option R) (a0 : Row) (b1 : Row) (hc : c a0 b1 = true) : ∃ N, b N kr a0 b1 = kr (v a0 b1) := by
  refine ⟨Lib.big, ?_⟩
  rw [b_bind]
  have e : vo a0 b1 = some (v a0 b1) := by
    unfold c at hc; unfold v
    cases h : vo a0 b1 with
    | none => rw [h] at hc; cases hc
    | some x => rfl
  unfold vo at e
  rw [e]; rfl
end Go.FG.Pu.laws_eqFetchS

namespace Go.FG.Pu.laws_eqClient
def b {R : Type} (kr : Bool → Option R) (a0_0 : Int) (a0_1 : ByteArray) (a0_2 : Int) (a0_3 : Int) (a0_4 : Int) (a0_5 : ByteArray) (a0_6 : Int) (b1_0 : Int) (b1_1 : ByteArray) (b1_2 : Int) (b1_3 : Int) (b1_4 : Int) (b1_5 : ByteArray) (b1_6 : Int) : Option R := bif (a0_0 != b1_0) then (kr false) else (bif (!List.beq (ByteArray.toList a0_1) (ByteArray.toList b1_1)) then (kr false) else (bif (a0_2 != b1_2) then (kr false) else (bif (a0_3 != b1_3) then (kr false) else (bif (a0_4 != b1_4) then (kr false) else (bif (!List.beq (ByteArray.toList a0_5) (ByteArray.toList b1_5)) then (kr false) else (bif (a0_6 != b1_6) then (kr false) else (kr true)))))))
def v (a0_0 : Int) (a0_1 : ByteArray) (a0_2 : Int) (a0_3 : Int) (a0_4 : Int) (a0_5 : ByteArray) (a0_6 : Int) (b1_0 : Int) (b1_1 : ByteArray) (b1_2 : Int) (b1_3 : Int) (b1_4 : Int) (b1_5 : ByteArray) (b1_6 : Int) : Bool := bif (a0_0 != b1_0) then ((false)) else (bif (!List.beq (ByteArray.toList a0_1) (ByteArray.toList b1_1)) then ((false)) else (bif (a0_2 != b1_2) then ((false)) else (bif (a0_3 != b1_3) then ((false)) else (bif (a0_4 != b1_4) then ((false)) else (bif (!List.beq (ByteArray.toList a0_5) (ByteArray.toList b1_5)) then ((false)) else (bif (a0_6 != b1_6) then ((false)) else ((true))))))))
theorem b_eq {R : Type} (kr : Bool → Option R) (a0_0 : Int) (a0_1 : ByteArray) (a0_2 : Int) (a0_3 : Int) (a0_4 : Int) (a0_5 : ByteArray) (a0_6 : Int) (b1_0 : Int) (b1_1 : ByteArray) (b1_2 : Int) (b1_3 : Int) (b1_4 : Int) (b1_5 : ByteArray) (b1_6 : Int) : b kr a0_0 a0_1 a0_2 a0_3 a0_4 a0_5 a0_6 b1_0 b1_1 b1_2 b1_3 b1_4 b1_5 b1_6 = kr (v a0_0 a0_1 a0_2 a0_3 a0_4 a0_5 a0_6 b1_0 b1_1 b1_2 b1_3 b1_4 b1_5 b1_6) := by
  first | rfl | (unfold b v; simp only [Bool.cond_eq_ite]; (repeat' split) <;> rfl)
end Go.FG.Pu.laws_eqClient

namespace Go.FG.Pu.laws_eqClientS
def r4 {R : Type} (N : Nat) (g : Row → Row → Bool → Int → Option R) (k0 : Row → Row → Bool → Int → Option R) (k1 : Row → Row → Bool → Int → Option R) (x0 : Row) (x1 : Row) (x2 : Bool) (x3 : Int) : Option R := bif (decide (x3 < (↑(List.length x0) : Int))) then (bif (decide (0 ≤ x3) && decide (x3 < (↑(List.length x0) : Int))) then (bif (decide (0 ≤ x3) && decide (x3 < (↑(List.length x1) : Int))) then (bif (!Pu.laws_eqClient.v (cvI (cellAt x0 (Int.toNat x3) 0)) (cvS (cellAt x0 (Int.toNat x3) 1)) (cvI (cellAt x0 (Int.toNat x3) (1 + 1))) (cvI (cellAt x0 (Int.toNat x3) (1 + 1 + 1))) (cvI (cellAt x0 (Int.toNat x3) (1 + 1 + 1 + 1))) (cvS (cellAt x0 (Int.toNat x3) (1 + 1 + 1 + 1 + 1))) (cvI (cellAt x0 (Int.toNat x3) (1 + 1 + 1 + 1 + 1 + 1))) (cvI (cellAt x1 (Int.toNat x3) 0)) (cvS (cellAt x1 (Int.toNat x3) 1)) (cvI (cellAt x1 (Int.toNat x3) (1 + 1))) (cvI (cellAt x1 (Int.toNat x3) (1 + 1 + 1))) (cvI (cellAt x1 (Int.toNat x3) (1 + 1 + 1 + 1))) (cvS (cellAt x1 (Int.toNat x3) (1 + 1 + 1 + 1 + 1))) (cvI (cellAt x1 (Int.toNat x3) (1 + 1 + 1 + 1 + 1 + 1)))) then (k0 x0 x1 false x3) else (g x0 x1 x2 (w64 (x3 + 1)))) else (none)) else (none)) else (k1 x0 x1 x2 x3)
def l4 {R : Type} (N : Nat) (k0 : Row → Row → Bool → Int → Option R) (k1 : Row → Row → Bool → Int → Option R) : Nat → Row → Row → Bool → Int → Option R
  | 0 => (fun _ _ _ _ => none)
  | n + 1 => (fun x0 x1 x2 x3 => r4 N (l4 N k0 k1 n) k0 k1 x0 x1 x2 x3)
def b {R : Type} (N : Nat) (kr : Bool → Option R) (a0 : Row) (b1 : Row) : Option R := bif ((↑(List.length a0) : Int) != (↑(List.length b1) : Int)) then (kr false) else (l4 N (fun y4 y5 y6 y7 => kr y6) (fun y8 y9 y10 y11 => kr true) N a0 b1 false 0)
theorem q4_bind {R S : Type} (f : R → Option S) (N : Nat) (k0 : Row → Row → Bool → Int → Option R) (k1 : Row → Row → Bool → Int → Option R) : ∀ n : Nat, (∀ (x0 : Row) (x1 : Row) (x2 : Bool) (x3 : Int), Option.bind (l4 N k0 k1 n x0 x1 x2 x3) f = l4 N (fun y0 y1 y2 y3 => (Option.bind (k0 y0 y1 y2 y3) f)) (fun y0 y1 y2 y3 => (Option.bind (k1 y0 y1 y2 y3) f)) n x0 x1 x2 x3) := by
  intro n
  induction n with
  | zero => exact (fun _ _ _ _ => rfl)
  | succ n ih =>
    intro x0 x1 x2 x3
    simp only [l4, r4, Lib.cond_bind, Lib.some_bind, Lib.none_bind, ih]
theorem l4_bind {R S : Type} (f : R → Option S) (N : Nat) (k0 : Row → Row → Bool → Int → Option R) (k1 : Row → Row → Bool → Int → Option R) (n : Nat) (x0 : Row) (x1 : Row) (x2 : Bool) (x3 : Int) : Option.bind (l4 N k0 k1 n x0 x1 x2 x3) f = l4 N (fun y0 y1 y2 y3 => (Option.bind (k0 y0 y1 y2 y3) f)) (fun y0 y1 y2 y3 => (Option.bind (k1 y0 y1 y2 y3) f)) n x0 x1 x2 x3 := (q4_bind f N k0 k1 n) x0 x1 x2 x3
theorem b_bind {R : Type} (N : Nat) (kr : Bool → Option R) (a0 : Row) (b1 : Row) : b N kr a0 b1 = Option.bind (b N (fun r0 => some (r0)) a0 b1) (fun p => kr p) := by
  unfold b; simp only [Lib.cond_bind, Lib.some_bind, Lib.none_bind, l4_bind]
def vo (a0 : Row) (b1 : Row) : Option (Bool) := b Lib.big (fun r0 => some (r0)) a0 b1
def c (a0 : Row) (b1 : Row) : Bool := Option.isSome (vo a0 b1)
def v (a0 : Row) (b1 : Row) : Bool := Option.getD (vo a0 b1) (false)
theorem out (a0 : Row) (b1 : Row) {x : Bool} (h : vo a0 b1 = some x) : c a0 b1 = true ∧ v a0 b1 = x := by
  unfold c v; rw [h]; exact ⟨rfl, rfl⟩
theorem b_eq {R : Type} (kr : Bool → Option R) (a0 : Row) (b1 : Row) (hc : c a0 b1 = true) : ∃ N, b N kr a0 b1 = kr (v a0 b1) := by
  refine ⟨Lib.big, ?_⟩
  rw [b_bind]
  have e : vo a0 b1 = some (v a0 b1) := by
    unfold c at hc; unfold v
    cases h : vo a0 b1 with
    | none => rw [h] at hc; cases hc
    | some x => rfl
  unfold vo at e
  rw [e]; rfl
end Go.FG.Pu.laws_eqClientS

namespace Go.FG.Pu.laws_eqProxy
def b {R : Type} (kr : Bool → Option R) (a0_0 : Int) (a0_1 : Row) (a0_2 : Row) (a0_3 : Row) (a0_4 : Row) (a0_5 : Int) (a0_6 : Row) (a0_7 : Row) (a0_8 : Int) (b1_0 : Int) (b1_1 : Row) (b1_2 : Row) (b1_3 : Row) (b1_4 : Row) (b1_5 : Int) (b1_6 : Row) (b1_7 : Row) (b1_8 : Int) : Option R := bif (a0_0 != b1_0) then (kr false) else (bif (Pu.laws_eqEntryS.c a0_1 b1_1) then (bif (!Pu.laws_eqEntryS.v a0_1 b1_1) then (kr false) else (bif (Pu.laws_eqPolicy.c a0_2 a0_3 a0_4 a0_5 b1_2 b1_3 b1_4 b1_5) then (bif (!Pu.laws_eqPolicy.v a0_2 a0_3 a0_4 a0_5 b1_2 b1_3 b1_4 b1_5) then (kr false) else (bif (Pu.laws_eqFetchS.c a0_6 b1_6) then (bif (!Pu.laws_eqFetchS.v a0_6 b1_6) then (kr false) else (bif (Pu.laws_eqClientS.c a0_7 b1_7) then (bif (!Pu.laws_eqClientS.v a0_7 b1_7) then (kr false) else (bif (a0_8 != b1_8) then (kr false) else (kr true))) else (none))) else (none))) else (none))) else (none))
theorem b_bind {R : Type} (kr : Bool → Option R) (a0_0 : Int) (a0_1 : Row) (a0_2 : Row) (a0_3 : Row) (a0_4 : Row) (a0_5 : Int) (a0_6 : Row) (a0_7 : Row) (a0_8 : Int) (b1_0 : Int) (b1_1 : Row) (b1_2 : Row) (b1_3 : Row) (b1_4 : Row) (b1_5 : Int) (b1_6 : Row) (b1_7 : Row) (b1_8 : Int) : b kr a0_0 a0_1 a0_2 a0_3 a0_4 a0_5 a0_6 a0_7 a0_8 b1_0 b1_1 b1_2 b1_3 b1_4 b1_5 b1_6 b1_7 b1_8 = Option.bind (b (fun r0 => some (r0)) a0_0 a0_1 a0_2 a0_3 a0_4 a0_5 a0_6 a0_7 a0_8 b1_0 b1_1 b1_2 b1_3 b1_4 b1_5 b1_6 b1_7 b1_8) (fun p => kr p) := by
  unfold b; simp only [Lib.cond_bind, Lib.some_bind, Lib.none_bind]
def vo (a0_0 : Int) (a0_1 : Row) (a0_2 : Row) (a0_3 : Row) (a0_4 : Row) (a0_5 : Int) (a0_6 : Row) (a0_7 : Row) (a0_8 : Int) (b1_0 : Int) (b1_1 : Row) (b1_2 : Row) (b1_3 : Row) (b1_4 : Row) (b1_5 : Int) (b1_6 : Row) (b1_7 : Row) (b1_8 : Int) : Option (Bool) := b (fun r0 => some (r0)) a0_0 a0_1 a0_2 a0_3 a0_4 a0_5 a0_6 a0_7 a0_8 b1_0 b1_1 b1_2 b1_3 b1_4 b1_5 b1_6 b1_7 b1_8
def c (a0_0 : Int) (a0_1 : Row) (a0_2 : Row) (a0_3 : Row) (a0_4 : Row) (a0_5 : Int) (a0_6 : Row) (a0_7 : Row) (a0_8 : Int) (b1_0 : Int) (b1_1 : Row) (b1_2 : Row) (b1_3 : Row) (b1_4 : Row) (b1_5 : Int) (b1_6 : Row) (b1_7 : Row) (b1_8 : Int) : Bool := Option.isSome (vo a0_0 a0_1 a0_2 a0_3 a0_4 a0_5 a0_6 a0_7 a0_8 b1_0 b1_1 b1_2 b1_3 b1_4 b1_5 b1_6 b1_7 b1_8)
def v (a0_0 : Int) (a0_1 : Row) (a0_2 : Row) (a0_3 : Row) (a0_4 : Row) (a0_5 : Int) (a0_6 : Row) (a0_7 : Row) (a0_8 : Int) (b1_0 : Int) (b1_1 : Row) (b1_2 : Row) (b1_3 : Row) (b1_4 : Row) (b1_5 : Int) (b1_6 : Row) (b1_7 : Row) (b1_8 : Int) : Bool := Option.getD (vo a0_0 a0_1 a0_2 a0_3 a0_4 a0_5 a0_6 a0_7 a0_8 b1_0 b1_1 b1_2 b1_3 b1_4 b1_5 b1_6 b1_7 b1_8) (false)
theorem out (a0_0 : Int) (a0_1 : Row) (a0_2 : Row) (a0_3 : Row) (a0_4 : Row) (a0_5 : Int) (a0_6 : Row) (a0_7 : Row) (a0_8 : Int) (b1_0 : Int) (b1_1 : Row) (b1_2 : Row) (b1_3 : Row) (b1_4 : Row) (b1_5 : Int) (b1_6 : Row) (b1_7 : Row) (b1_8 : Int) {x : Bool} (h : vo a0_0 a0_1 a0_2 a0_3 a0_4 a0_5 a0_6 a0_7 a0_8 b1_0 b1_1 b1_2 b1_3 b1_4 b1_5 b1_6 b1_7 b1_8 = some x) : c a0_0 a0_1 a0_2 a0_3 a0_4 a0_5 a0_6 a0_7 a0_8 b1_0 b1_1 b1_2 b1_3 b1_4 b1_5 b1_6 b1_7 b1_8 = true ∧ v a0_0 a0_1 a0_2 a0_3 a0_4 a0_5 a0_6 a0_7 a0_8 b1_0 b1_1 b1_2 b1_3 b1_4 b1_5 b1_6 b1_7 b1_8 = x := by
  unfold c v; rw [h]; exact ⟨rfl, rfl⟩
theorem b_eq {R : Type} (kr : Bool → Option R) (a0_0 : Int) (a0_1 : Row) (a0_2 : Row) (a0_3 : Row) (a0_4 : Row) (a0_5 : Int) (a0_6 : Row) (a0_7 : Row) (a0_8 : Int) (b1_0 : Int) (b1_1 : Row) (b1_2 : Row) (b1_3 : Row) (b1_4 : Row) (b1_5 : Int) (b1_6 : Row) (b1_7 : Row) (b1_8 : Int) (hc : c a0_0 a0_1 a0_2 a0_3 a0_4 a0_5 a0_6 a0_7 a0_8 b1_0 b1_1 b1_2 b1_3 b1_4 b1_5 b1_6 b1_7 b1_8 = true) : b kr a0_0 a0_1 a0_2 a0_3 a0_4 a0_5 a0_6 a0_7 a0_8 b1_0 b1_1 b1_2 b1_3 b1_4 b1_5 b1_6 b1_7 b1_8 = kr (v a0_0 a0_1 a0_2 a0_3 a0_4 a0_5 a0_6 a0_7 a0_8 b1_0 b1_1 b1_2 b1_3 b1_4 b1_5 b1_6 b1_7 b1_8) := by
  rw [b_bind]
  have e : vo a0_0 a0_1 a0_2 a0_3 a0_4 a0_5 a0_6 a0_7 a0_8 b1_0 b1_1 b1_2 b1_3 b1_4 b1_5 b1_6 b1_7 b1_8 = some (v a0_0 a0_1 a0_2 a0_3 a0_4 a0_5 a0_6 a0_7 a0_8 b1_0 b1_1 b1_2 b1_3 b1_4 b1_5 b1_6 b1_7 b1_8) := by
    unfold c at hc; unfold v
    cases h : vo a0_0 a0_1 a0_2 a0_3 a0_4 a0_5 a0_6 a0_7 a0_8 b1_0 b1_1 b1_2 b1_3 b1_4 b1_5 b1_6 b1_7 b1_8 with
    | none => rw [h] at hc; cases hc
    | some x => rfl
  unfold vo at e
  rw [e]; rfl
end Go.FG.Pu.laws_eqProxy

namespace Go.FG.Pu.laws_markText
def r4 {R : Type} (N : Nat) (g : Int → ByteArray → Option R) (k0 : Int → ByteArray → Option R) (x0 : Int) (x1 : ByteArray) : Option R := bif (decide (x0 > 0)) then (bif (decide (ByteArray.size (bytesOf (List.set (zeros [Ck.i IntKind.u8] 1) 0 [CV.i IntKind.u8 (IntKind.wrap IntKind.u8 (w64 (48 + Int.tmod x0 10)))])) + ByteArray.size x1 ≤ 4611686018427387904)) then (g (w64 (Int.tdiv x0 10)) (bytesOf (List.set (zeros [Ck.i IntKind.u8] 1) 0 [CV.i IntKind.u8 (IntKind.wrap IntKind.u8 (w64 (48 + Int.tmod x0 10)))]) ++ x1)) else (none)) else (k0 x0 x1)
def l4 {R : Type} (N : Nat) (k0 : Int → ByteArray → Option R) : Nat → Int → ByteArray → Option R
  | 0 => (fun _ _ => none)
  | n + 1 => (fun x0 x1 => r4 N (l4 N k0 n) k0 x0 x1)
def b {R : Type} (N : Nat) (kr : ByteArray → Option R) (k0 : Int) : Option R := bif (decide (k0 ≤ 0)) then (kr ({ data := #[UInt8.ofNat 109, UInt8.ofNat 48] })) else (l4 N (fun y2 y3 => bif (decide (ByteArray.size { data := #[UInt8.ofNat 109] } + ByteArray.size y3 ≤ 4611686018427387904)) then (kr ({ data := #[UInt8.ofNat 109] } ++ y3)) else (none)) N k0 ({ data := #[] }))
theorem q4_bind {R S : Type} (f : R → Option S) (N : Nat) (k0 : Int → ByteArray → Option R) : ∀ n : Nat, (∀ (x0 : Int) (x1 : ByteArray), Option.bind (l4 N k0 n x0 x1) f = l4 N (fun y0 y1 => (Option.bind (k0 y0 y1) f)) n x0 x1) := by
  intro n
  induction n with
  | zero => exact (fun _ _ => rfl)
  | succ n ih =>
    intro x0 x1
    simp only [l4, r4, Lib.cond_bind, Lib.some_bind, Lib.none_bind, ih]
theorem l4_bind {R S : Type} (f : R → Option S) (N : Nat) (k0 : Int → ByteArray → Option R) (n : Nat) (x0 : Int) (x1 : ByteArray) : Option.bind (l4 N k0 n x0 x1) f = l4 N (fun y0 y1 => (Option.bind (k0 y0 y1) f)) n x0 x1 := (q4_bind f N k0 n) x0 x1
theorem b_bind {R : Type} (N : Nat) (kr : ByteArray → Option R) (k0 : Int) : b N kr k0 = Option.bind (b N (fun r0 => some (r0)) k0) (fun p => kr p) := by
  unfold b; simp only [Lib.cond_bind, Lib.some_bind, Lib.none_bind, l4_bind]
def vo (k0 : Int) : Option (ByteArray) := b Lib.big (fun r0 => some (r0)) k0
def c (k0 : Int) : Bool := Option.isSome (vo k0)
def v (k0 : Int) : ByteArray := Option.getD (vo k0) (⟨#[]⟩)
theorem out (k0 : Int) {x : ByteArray} (h : vo k0 = some x) : c k0 = true ∧ v k0 = x := by
  unfold c v; rw [h]; exact ⟨rfl, rfl⟩
theorem b_eq {R : Type} (kr : ByteArray → Option R) (k0 : Int) (hc : c k0 = true) : ∃ N, b N kr k0 = kr (v k0) := by
  refine ⟨Lib.big, ?_⟩
  rw [b_bind]
  have e : vo k0 = some (v k0) := by
    unfold c at hc; unfold v
    cases h : vo k0 with
    | none => rw [h] at hc; cases hc
    | some x => rfl
  unfold vo at e
  rw [e]; rfl
end Go.FG.Pu.laws_markText

namespace Go.FG.Pu.laws_markEntryS
def r2 {R : Type} (N : Nat) (g : Int → Int → Row → Option R) (k0 : Int → Int → Row → Option R) (x0 : Int) (x1 : Int) (x2 : Row) : Option R := bif (decide (x1 < (↑(List.length x2) : Int))) then (bif (Pu.laws_markText.c x0) then (bif (decide (0 ≤ x1) && decide (x1 < (↑(List.length x2) : Int))) then (bif (decide (0 ≤ x1) && decide (x1 < (↑(List.length (setC x2 (Int.toNat x1) 0 [CV.s (Pu.laws_markText.v x0)])) : Int))) then (bif (decide (0 ≤ x1) && decide (x1 < (↑(List.length (setC (setC x2 (Int.toNat x1) 0 [CV.s (Pu.laws_markText.v x0)]) (Int.toNat x1) 1 [CV.i IntKind.i64 (w64 (x0 + 1))])) : Int))) then (bif (Pu.laws_markText.c (w64 (w64 (w64 (x0 + 1) + 1) + 1))) then (bif (decide (0 ≤ x1) && decide (x1 < (↑(List.length (setC (setC (setC x2 (Int.toNat x1) 0 [CV.s (Pu.laws_markText.v x0)]) (Int.toNat x1) 1 [CV.i IntKind.i64 (w64 (x0 + 1))]) (Int.toNat x1) 2 [CV.i IntKind.i64 (w64 (w64 (x0 + 1) + 1))])) : Int))) then (g (w64 (w64 (w64 (w64 (x0 + 1) + 1) + 1) + 1)) (w64 (x1 + 1)) (setC (setC (setC (setC x2 (Int.toNat x1) 0 [CV.s (Pu.laws_markText.v x0)]) (Int.toNat x1) 1 [CV.i IntKind.i64 (w64 (x0 + 1))]) (Int.toNat x1) 2 [CV.i IntKind.i64 (w64 (w64 (x0 + 1) + 1))]) (Int.toNat x1) 3 [CV.s (Pu.laws_markText.v (w64 (w64 (w64 (x0 + 1) + 1) + 1)))])) else (none)) else (none)) else (none)) else (none)) else (none)) else (none)) else (k0 x0 x1 x2)
def l2 {R : Type} (N : Nat) (k0 : Int → Int → Row → Option R) : Nat → Int → Int → Row → Option R
  | 0 => (fun _ _ _ => none)
  | n + 1 => (fun x0 x1 x2 => r2 N (l2 N k0 n) k0 x0 x1 x2)
def b {R : Type} (N : Nat) (kr : Int → Row → Option R) (a0 : Row) (k1 : Int) : Option R := l2 N (fun y3 y4 y5 => kr y3 y5) N k1 0 a0
theorem q2_bind {R S : Type} (f : R → Option S) (N : Nat) (k0 : Int → Int → Row → Option R) : ∀ n : Nat, (∀ (x0 : Int) (x1 : Int) (x2 : Row), Option.bind (l2 N k0 n x0 x1 x2) f = l2 N (fun y0 y1 y2 => (Option.bind (k0 y0 y1 y2) f)) n x0 x1 x2) := by
  intro n
  induction n with
  | zero => exact (fun _ _ _ => rfl)
  | succ n ih =>
    intro x0 x1 x2
    simp only [l2, r2, Lib.cond_bind, Lib.some_bind, Lib.none_bind, ih]
theorem l2_bind {R S : Type} (f : R → Option S) (N : Nat) (k0 : Int → Int → Row → Option R) (n : Nat) (x0 : Int) (x1 : Int) (x2 : Row) : Option.bind (l2 N k0 n x0 x1 x2) f = l2 N (fun y0 y1 y2 => (Option.bind (k0 y0 y1 y2) f)) n x0 x1 x2 := (q2_bind f N k0 n) x0 x1 x2
theorem b_bind {R : Type} (N : Nat) (kr : Int → Row → Option R) (a0 : Row) (k1 : Int) : b N kr a0 k1 = Option.bind (b N (fun r0 r1 => some (r0, r1)) a0 k1) (fun p => kr p.1 p.2) := by
  unfold b; simp only [Lib.cond_bind, Lib.some_bind, Lib.none_bind, l2_bind]
def vo (a0 : Row) (k1 : Int) : Option (Int × Row) := b Lib.big (fun r0 r1 => some (r0, r1)) a0 k1
def c (a0 : Row) (k1 : Int) : Bool := Option.isSome (vo a0 k1)
def v (a0 : Row) (k1 : Int) : Int × Row := Option.getD (vo a0 k1) (0, [])
theorem out (a0 : Row) (k1 : Int) {x : Int × Row} (h : vo a0 k1 = some x) : c a0 k1 = true ∧ v a0 k1 = x := by
  unfold c v; rw [h]; exact ⟨rfl, rfl⟩
theorem b_eq {R : Type} (kr : Int → Row → Option R) (a0 : Row) (k1 : Int) (hc : c a0 k1 = true) : ∃ N, b N kr a0 k1 = kr ((v a0 k1).1) ((v a0 k1).2) := by
  refine ⟨Lib.big, ?_⟩
  rw [b_bind]
  have e : vo a0 k1 = some (v a0 k1) := by
    unfold c at hc; unfold v
    cases h : vo a0 k1 with
    | none => rw [h] at hc; cases hc
    | some x => rfl
  unfold vo at e
  rw [e]; rfl
end Go.FG.Pu.laws_markEntryS

namespace Go.FG.Pu.laws_markStringS
def r2 {R : Type} (N : Nat) (g : Int → Int → Row → Option R) (k0 : Int → Int → Row → Option R) (x0 : Int) (x1 : Int) (x2 : Row) : Option R := bif (decide (x1 < (↑(List.length x2) : Int))) then (bif (Pu.laws_markText.c x0) then (bif (decide (0 ≤ x1) && decide (x1 < (↑(List.length x2) : Int))) then (g (w64 (x0 + 1)) (w64 (x1 + 1)) (setC x2 (Int.toNat x1) 0 [CV.s (Pu.laws_markText.v x0)])) else (none)) else (none)) else (k0 x0 x1 x2)
def l2 {R : Type} (N : Nat) (k0 : Int → Int → Row → Option R) : Nat → Int → Int → Row → Option R
  | 0 => (fun _ _ _ => none)
  | n + 1 => (fun x0 x1 x2 => r2 N (l2 N k0 n) k0 x0 x1 x2)
def b {R : Type} (N : Nat) (kr : Int → Row → Option R) (a0 : Row) (k1 : Int) : Option R := l2 N (fun y3 y4 y5 => kr y3 y5) N k1 0 a0
theorem q2_bind {R S : Type} (f : R → Option S) (N : Nat) (k0 : Int → Int → Row → Option R) : ∀ n : Nat, (∀ (x0 : Int) (x1 : Int) (x2 : Row), Option.bind (l2 N k0 n x0 x1 x2) f = l2 N (fun y0 y1 y2 => (Option.bind (k0 y0 y1 y2) f)) n x0 x1 x2) := by
  intro n
  induction n with
  | zero => exact (fun _ _ _ => rfl)
  | succ n ih =>
    intro x0 x1 x2
    simp only [l2, r2, Lib.cond_bind, Lib.some_bind, Lib.none_bind, ih]
theorem l2_bind {R S : Type} (f : R → Option S) (N : Nat) (k0 : Int → Int → Row → Option R) (n : Nat) (x0 : Int) (x1 : Int) (x2 : Row) : Option.bind (l2 N k0 n x0 x1 x2) f = l2 N (fun y0 y1 y2 => (Option.bind (k0 y0 y1 y2) f)) n x0 x1 x2 := (q2_bind f N k0 n) x0 x1 x2
theorem b_bind {R : Type} (N : Nat) (kr : Int → Row → Option R) (a0 : Row) (k1 : Int) : b N kr a0 k1 = Option.bind (b N (fun r0 r1 => some (r0, r1)) a0 k1) (fun p => kr p.1 p.2) := by
  unfold b; simp only [Lib.cond_bind, Lib.some_bind, Lib.none_bind, l2_bind]
def vo (a0 : Row) (k1 : Int) : Option (Int × Row) := b Lib.big (fun r0 r1 => some (r0, r1)) a0 k1
def c (a0 : Row) (k1 : Int) : Bool := Option.isSome (vo a0 k1)
def v (a0 : Row) (k1 : Int) : Int × Row := Option.getD (vo a0 k1) (0, [])
theorem out (a0 : Row) (k1 : Int) {x : Int × Row} (h : vo a0 k1 = some x) : c a0 k1 = true ∧ v a0 k1 = x := by
  unfold c v; rw [h]; exact ⟨rfl, rfl⟩
theorem b_eq {R : Type} (kr : Int → Row → Option R) (a0 : Row) (k1 : Int) (hc : c a0 k1 = true) : ∃ N, b N kr a0 k1 = kr ((v a0 k1).1) ((v a0 k1).2) := by
  refine ⟨Lib.big, ?_⟩
  rw [b_bind]
  have e : vo a0 k1 = some (v a0 k1) := by
    unfold c at hc; unfold v
    cases h : vo a0 k1 with
    | none => rw [h] at hc; cases hc
    | some x => rfl
  unfold vo at e
  rw [e]; rfl
end Go.FG.Pu.laws_markStringS

namespace Go.FG.Pu.laws_markIntS
def r2 {R : Type} (N : Nat) (g : Int → Int → Row → Option R) (k0 : Int → Int → Row → Option R) (x0 : Int) (x1 : Int) (x2 : Row) : Option R := bif (decide (x1 < (↑(List.length x2) : Int))) then (bif (decide (0 ≤ x1) && decide (x1 < (↑(List.length x2) : Int))) then (g (w64 (x0 + 1)) (w64 (x1 + 1)) (setC x2 (Int.toNat x1) 0 [CV.i IntKind.i64 x0])) else (none)) else (k0 x0 x1 x2)
def l2 {R : Type} (N : Nat) (k0 : Int → Int → Row → Option R) : Nat → Int → Int → Row → Option R
  | 0 => (fun _ _ _ => none)
  | n + 1 => (fun x0 x1 x2 => r2 N (l2 N k0 n) k0 x0 x1 x2)
def b {R : Type} (N : Nat) (kr : Int → Row → Option R) (a0 : Row) (k1 : Int) : Option R := l2 N (fun y3 y4 y5 => kr y3 y5) N k1 0 a0
theorem q2_bind {R S : Type} (f : R → Option S) (N : Nat) (k0 : Int → Int → Row → Option R) : ∀ n : Nat, (∀ (x0 : Int) (x1 : Int) (x2 : Row), Option.bind (l2 N k0 n x0 x1 x2) f = l2 N (fun y0 y1 y2 => (Option.bind (k0 y0 y1 y2) f)) n x0 x1 x2) := by
  intro n
  induction n with
  | zero => exact (fun _ _ _ => rfl)
  | succ n ih =>
    intro x0 x1 x2
    simp only [l2, r2, Lib.cond_bind, Lib.some_bind, Lib.none_bind, ih]
theorem l2_bind {R S : Type} (f : R → Option S) (N : Nat) (k0 : Int → Int → Row → Option R) (n : Nat) (x0 : Int) (x1 : Int) (x2 : Row) : Option.bind (l2 N k0 n x0 x1 x2) f = l2 N (fun y0 y1 y2 => (Option.bind (k0 y0 y1 y2) f)) n x0 x1 x2 := (q2_bind f N k0 n) x0 x1 x2
theorem b_bind {R : Type} (N : Nat) (kr : Int → Row → Option R) (a0 : Row) (k1 : Int) : b N kr a0 k1 = Option.bind (b N (fun r0 r1 => some (r0, r1)) a0 k1) (fun p => kr p.1 p.2) := by
  unfold b; simp only [Lib.cond_bind, Lib.some_bind, Lib.none_bind, l2_bind]
def vo (a0 : Row) (k1 : Int) : Option (Int × Row) := b Lib.big (fun r0 r1 => some (r0, r1)) a0 k1
def c (a0 : Row) (k1 : Int) : Bool := Option.isSome (vo a0 k1)
def v (a0 : Row) (k1 : Int) : Int × Row := Option.getD (vo a0 k1) (0, [])
theorem out (a0 : Row) (k1 : Int) {x : Int × Row} (h : vo a0 k1 = some x) : c a0 k1 = true ∧ v a0 k1 = x := by
  unfold c v; rw [h]; exact ⟨rfl, rfl⟩
theorem b_eq {R : Type} (kr : Int → Row → Option R) (a0 : Row) (k1 : Int) (hc : c a0 k1 = true) : ∃ N, b N kr a0 k1 = kr ((v a0 k1).1) ((v a0 k1).2) := by
  refine ⟨Lib.big, ?_⟩
  rw [b_bind]
  have e : vo a0 k1 = some (v a0 k1) := by
    unfold c at hc; unfold v
    cases h : vo a0 k1 with
    | none => rw [h] at hc; cases hc
    | some x => rfl
  unfold vo at e
  rw [e]; rfl
end Go.FG.Pu.laws_markIntS

namespace Go.FG.Pu.laws_markIntSS
def r2 {R : Type} (N : Nat) (g : Int → Int → Row → Option R) (k0 : Int → Int → Row → Option R) (x0 : Int) (x1 : Int) (x2 : Row) : Option R := bif (decide (x1 < (↑(List.length x2) : Int))) then (bif (decide (0 ≤ x1) && decide (x1 < (↑(List.length x2) : Int))) then (bif (Pu.laws_markIntS.c (cvL (cellAt x2 (Int.toNat x1) 0)) x0) then (g ((Pu.laws_markIntS.v (cvL (cellAt x2 (Int.toNat x1) 0)) x0).1) (w64 (x1 + 1)) (setC x2 (Int.toNat x1) 0 [CV.l 3 (Pu.laws_markIntS.v (cvL (cellAt x2 (Int.toNat x1) 0)) x0).2])) else (none)) else (none)) else (k0 x0 x1 x2)
def l2 {R : Type} (N : Nat) (k0 : Int → Int → Row → Option R) : Nat → Int → Int → Row → Option R
  | 0 => (fun _ _ _ => none)
  | n + 1 => (fun x0 x1 x2 => r2 N (l2 N k0 n) k0 x0 x1 x2)
def b {R : Type} (N : Nat) (kr : Int → Row → Option R) (a0 : Row) (k1 : Int) : Option R := l2 N (fun y3 y4 y5 => kr y3 y5) N k1 0 a0
theorem q2_bind {R S : Type} (f : R → Option S) (N : Nat) (k0 : Int → Int → Row → Option R) : ∀ n : Nat, (∀ (x0 : Int) (x1 : Int) (x2 : Row), Option.bind (l2 N k0 n x0 x1 x2) f = l2 N (fun y0 y1 y2 => (Option.bind (k0 y0 y1 y2) f)) n x0 x1 x2) := by
  intro n
  induction n with
  | zero => exact (fun _ _ _ => rfl)
  | succ n ih =>
    intro x0 x1 x2
    simp only [l2, r2, Lib.cond_bind, Lib.some_bind, Lib.none_bind, ih]
theorem l2_bind {R S : Type} (f : R → Option S) (N : Nat) (k0 : Int → Int → Row → Option R) (n : Nat) (x0 : Int) (x1 : Int) (x2 : Row) : Option.bind (l2 N k0 n x0 x1 x2) f = l2 N (fun y0 y1 y2 => (Option.bind (k0 y0 y1 y2) f)) n x0 x1 x2 := (q2_bind f N k0 n) x0 x1 x2
theorem b_bind {R : Type} (N : Nat) (kr : Int → Row → Option R) (a0 : Row) (k1 : Int) : b N kr a0 k1 = Option.bind (b N (fun r0 r1 => some (r0, r1)) a0 k1) (fun p => kr p.1 p.2) := by
  unfold b; simp only [Lib.cond_bind, Lib.some_bind, Lib.none_bind, l2_bind]
def vo (a0 : Row) (k1 : Int) : Option (Int × Row) := b Lib.big (fun r0 r1 => some (r0, r1)) a0 k1
def c (a0 : Row) (k1 : Int) : Bool := Option.isSome (vo a0 k1)
def v (a0 : Row) (k1 : Int) : Int × Row := Option.getD (vo a0 k1) (0, [])
theorem out (a0 : Row) (k1 : Int) {x : Int × Row} (h : vo a0 k1 = some x) : c a0 k1 = true ∧ v a0 k1 = x := by
  unfold c v; rw [h]; exact ⟨rfl, rfl⟩
theorem b_eq {R : Type} (kr : Int → Row → Option R) (a0 : Row) (k1 : Int) (hc : c a0 k1 = true) : ∃ N, b N kr a0 k1 = kr ((v a0 k1).1) ((v a0 k1).2) := by
  refine ⟨Lib.big, ?_⟩
  rw [b_bind]
  have e : vo a0 k1 = some (v a0 k1) := by
    unfold c at hc; unfold v
    cases h : vo a0 k1 with
    | none => rw [h] at hc; cases hc
    | some x => rfl
  unfold vo at e
  rw [e]; rfl
end Go.FG.Pu.laws_markIntSS

namespace Go.FG.Pu.laws_markSketch
def b {R : Type} (kr : Int → Row → Option R) (a0_0 : Row) (a0_1 : Int) (k1 : Int) : Option R := bif (Pu.laws_markIntSS.c a0_0 k1) then (kr ((Pu.laws_markIntSS.v a0_0 k1).1) ((Pu.laws_markIntSS.v a0_0 k1).2)) else (none)
theorem b_bind {R : Type} (kr : Int → Row → Option R) (a0_0 : Row) (a0_1 : Int) (k1 : Int) : b kr a0_0 a0_1 k1 = Option.bind (b (fun r0 r1 => some (r0, r1)) a0_0 a0_1 k1) (fun p => kr p.1 p.2) := by
  unfold b; simp only [Lib.cond_bind, Lib.some_bind, Lib.none_bind]
def vo (a0_0 : Row) (a0_1 : Int) (k1 : Int) : Option (Int × Row) := b (fun r0 r1 => some (r0, r1)) a0_0 a0_1 k1
def c (a0_0 : Row) (a0_1 : Int) (k1 : Int) : Bool := Option.isSome (vo a0_0 a0_1 k1)
def v (a0_0 : Row) (a0_1 : Int) (k1 : Int) : Int × Row := Option.getD (vo a0_0 a0_1 k1) (0, [])
theorem out (a0_0 : Row) (a0_1 : Int) (k1 : Int) {x : Int × Row} (h : vo a0_0 a0_1 k1 = some x) : c a0_0 a0_1 k1 = true ∧ v a0_0 a0_1 k1 = x := by
  unfold c v; rw [h]; exact ⟨rfl, rfl⟩
theorem b_eq {R : Type} (kr : Int → Row → Option R) (a0_0 : Row) (a0_1 : Int) (k1 : Int) (hc : c a0_0 a0_1 k1 = true) : b kr a0_0 a0_1 k1 = kr ((v a0_0 a0_1 k1).1) ((v a0_0 a0_1 k1).2) := by
  rw [b_bind]
  have e : vo a0_0 a0_1 k1 = some (v a0_0 a0_1 k1) := by
    unfold c at hc; unfold v
    cases h : vo a0_0 a0_1 k1 with
    | none => rw [h] at hc; cases hc
    | some x => rfl
  unfold vo at e
  rw [e]; rfl
end Go.FG.Pu.laws_markSketch

namespace Go.FG.Pu.laws_markPolicy
def b {R : Type} (kr : Int → Row → Row → Row → Option R) (a0_0 : Row) (a0_1 : Row) (a0_2 : Row) (a0_3 : Int) (k1 : Int) : Option R := bif (Pu.laws_markStringS.c a0_0 k1) then (bif (Pu.laws_markStringS.c a0_1 (Pu.laws_markStringS.v a0_0 k1).1) then (bif (Pu.laws_markSketch.c a0_2 a0_3 (Pu.laws_markStringS.v a0_1 (Pu.laws_markStringS.v a0_0 k1).1).1) then (kr ((Pu.laws_markSketch.v a0_2 a0_3 (Pu.laws_markStringS.v a0_1 (Pu.laws_markStringS.v a0_0 k1).1).1).1) ((Pu.laws_markStringS.v a0_0 k1).2) ((Pu.laws_markStringS.v a0_1 (Pu.laws_markStringS.v a0_0 k1).1).2) ((Pu.laws_markSketch.v a0_2 a0_3 (Pu.laws_markStringS.v a0_1 (Pu.laws_markStringS.v a0_0 k1).1).1).2)) else (none)) else (none)) else (none)
theorem b_bind {R : Type} (kr : Int → Row → Row → Row → Option R) (a0_0 : Row) (a0_1 : Row) (a0_2 : Row) (a0_3 : Int) (k1 : Int) : b kr a0_0 a0_1 a0_2 a0_3 k1 = Option.bind (b (fun r0 r1 r2 r3 => some (r0, r1, r2, r3)) a0_0 a0_1 a0_2 a0_3 k1) (fun p => kr p.1 p.2.1 p.2.2.1 p.2.2.2) := by
  unfold b; simp only [Lib.cond_bind, Lib.some_bind, Lib.none_bind]
def vo (a0_0 : Row) (a0_1 : Row) (a0_2 : Row) (a0_3 : Int) (k1 : Int) : Option (Int × Row × Row × Row) := b (fun r0 r1 r2 r3 => some (r0, r1, r2, r3)) a0_0 a0_1 a0_2 a0_3 k1
def c (a0_0 : Row) (a0_1 : Row) (a0_2 : Row) (a0_3 : Int) (k1 : Int) : Bool := Option.isSome (vo a0_0 a0_1 a0_2 a0_3 k1)
def v (a0_0 : Row) (a0_1 : Row) (a0_2 : Row) (a0_3 : Int) (k1 : Int) : Int × Row × Row × Row := Option.getD (vo a0_0 a0_1 a0_2 a0_3 k1) (0, [], [], [])
theorem out (a0_0 : Row) (a0_1 : Row) (a0_2 : Row) (a0_3 : Int) (k1 : Int) {x : Int × Row × Row × Row} (h : vo a0_0 a0_1 a0_2 a0_3 k1 = some x) : c a0_0 a0_1 a0_2 a0_3 k1 = true ∧ v a0_0 a0_1 a0_2 a0_3 k1 = x := by
  unfold c v; rw [h]; exact ⟨rfl, rfl⟩
theorem b_eq {R : Type} (kr : Int → Row → Row → Row → Option R) (a0_0 : Row) (a0_1 : Row) (a0_2 : Row) (a0_3 : Int) (k1 : Int) (hc : c a0_0 a0_1 a0_2 a0_3 k1 = true) : b kr a0_0 a0_1 a0_2 a0_3 k1 = kr ((v a0_0 a0_1 a0_2 a0_3 k1).1) ((v a0_0 a0_1 a0_2 a0_3 k1).2.1) ((v a0_0 a0_1 a0_2 a0_3 k1).2.2.1) ((v a0_0 a0_1 a0_2 a0_3 k1).2.2.2) := by
  rw [b_bind]
  have e : vo a0_0 a0_1 a0_2 a0_3 k1 = some (v a0_0 a0_1 a0_2 a0_3 k1) := by
    unfold c at hc; unfold v
    cases h : vo a0_0 a0_1 a0_2 a0_3 k1 with
    | none => rw [h] at hc; cases hc
    | some x => rfl
  unfold vo at e
  rw [e]; rfl
end Go.FG.Pu.laws_markPolicy

namespace Go.FG.Pu.laws_markFetchS
def r2 {R : Type} (N : Nat) (g : Int → Int → Row → Option R) (k0 : Int → Int → Row → Option R) (x0 : Int) (x1 : Int) (x2 : Row) : Option R := bif (decide (x1 < (↑(List.length x2) : Int))) then (bif (Pu.laws_markText.c x0) then (bif (decide (0 ≤ x1) && decide (x1 < (↑(List.length x2) : Int))) then (bif (Pu.laws_markText.c (w64 (x0 + 1))) then (bif (decide (0 ≤ x1) && decide (x1 < (↑(List.length (setC x2 (Int.toNat x1) 0 [CV.s (Pu.laws_markText.v x0)])) : Int))) then (bif (decide (0 ≤ x1) && decide (x1 < (↑(List.length (setC (setC x2 (Int.toNat x1) 0 [CV.s (Pu.laws_markText.v x0)]) (Int.toNat x1) 1 [CV.s (Pu.laws_markText.v (w64 (x0 + 1)))])) : Int))) then (bif (decide (0 ≤ x1) && decide (x1 < (↑(List.length (setC (setC (setC x2 (Int.toNat x1) 0 [CV.s (Pu.laws_markText.v x0)]) (Int.toNat x1) 1 [CV.s (Pu.laws_markText.v (w64 (x0 + 1)))]) (Int.toNat x1) 2 [CV.i IntKind.i64 (w64 (w64 (x0 + 1) + 1))])) : Int))) then (bif (decide (0 ≤ x1) && decide (x1 < (↑(List.length (setC (setC (setC (setC x2 (Int.toNat x1) 0 [CV.s (Pu.laws_markText.v x0)]) (Int.toNat x1) 1 [CV.s (Pu.laws_markText.v (w64 (x0 + 1)))]) (Int.toNat x1) 2 [CV.i IntKind.i64 (w64 (w64 (x0 + 1) + 1))]) (Int.toNat x1) 3 [CV.i IntKind.i64 (w64 (w64 (w64 (x0 + 1) + 1) + 1))])) : Int))) then (g (w64 (w64 (w64 (w64 (w64 (x0 + 1) + 1) + 1) + 1) + 1)) (w64 (x1 + 1)) (setC (setC (setC (setC (setC x2 (Int.toNat x1) 0 [CV.s (Pu.laws_markText.v x0)]) (Int.toNat x1) 1 [CV.s (Pu.laws_markText.v (w64 (x0 + 1)))]) (Int.toNat x1) 2 [CV.i IntKind.i64 (w64 (w64 (x0 + 1) + 1))]) (Int.toNat x1) 3 [CV.i IntKind.i64 (w64 (w64 (w64 (x0 + 1) + 1) + 1))]) (Int.toNat x1) 4 [CV.i IntKind.i64 (w64 (w64 (w64 (w64 (x0 + 1) + 1) + 1) + 1))])) else (none)) else (none)) else (none)) else (none)) else (none)) else (none)) else (none)) else (k0 x0 x1 x2)
def l2 {R : Type} (N : Nat) (k0 : Int → Int → Row → Option R) : Nat → Int → Int → Row → Option R
  | 0 => (fun _ _ _ => none)
  | n + 1 => (fun x0 x1 x2 => r2 N (l2 N k0 n) k0 x0 x1 x2)
def b {R : Type} (N : Nat) (kr : Int → Row → Option R) (a0 : Row) (k1 : Int) : Option R := l2 N (fun y3 y4 y5 => kr y3 y5) N k1 0 a0
theorem q2_bind {R S : Type} (f : R → Option S) (N : Nat) (k0 : Int → Int → Row → Option R) : ∀ n : Nat, (∀ (x0 : Int) (x1 : Int) (x2 : Row), Option.bind (l2 N k0 n x0 x1 x2) f = l2 N (fun y0 y1 y2 => (Option.bind (k0 y0 y1 y2) f)) n x0 x1 x2) := by
  intro n
  induction n with
  | zero => exact (fun _ _ _ => rfl)
  | succ n ih =>
    intro x0 x1 x2
    simp only [l2, r2, Lib.cond_bind, Lib.some_bind, Lib.none_bind, ih]
theorem l2_bind {R S : Type} (f : R → Option S) (N : Nat) (k0 : Int → Int → Row → Option R) (n : Nat) (x0 : Int) (x1 : Int) (x2 : Row) : Option.bind (l2 N k0 n x0 x1 x2) f = l2 N (fun y0 y1 y2 => (Option.bind (k0 y0 y1 y2) f)) n x0 x1 x2 := (q2_bind f N k0 n) x0 x1 x2
theorem b_bind {R : Type} (N : Nat) (kr : Int → Row → Option R) (a0 : Row) (k1 : Int) : b N kr a0 k1 = Option.bind (b N (fun r0 r1 => some (r0, r1)) a0 k1) (fun p => kr p.1 p.2) := by
  unfold b; simp only [Lib.cond_bind, Lib.some_bind, Lib.none_bind, l2_bind]
def vo (a0 : Row) (k1 : Int) : Option (Int × Row) := b Lib.big (fun r0 r1 => some (r0, r1)) a0 k1
def c (a0 : Row) (k1 : Int) : Bool := Option.isSome (vo a0 k1)
def v (a0 : Row) (k1 : Int) : Int × Row := Option.getD (vo a0 k1) (0, [])
theorem out (a0 : Row) (k1 : Int) {x : Int × Row} (h : vo a0 k1 = some x) : c a0 k1 = true ∧ v a0 k1 = x := by
  unfold c v; rw [h]; exact ⟨rfl, rfl⟩
theorem b_eq {R : Type} (kr : Int → Row → Option R) (a0 : Row) (k1 : Int) (hc : c a0 k1 = true) : ∃ N, b N kr a0 k1 = kr ((v a0 k1).1) ((v a0 k1).2) := by
  refine ⟨Lib.big, ?_⟩
  rw [b_bind]
  have e : vo a0 k1 = some (v a0 k1) := by
    unfold c at hc; unfold v
    cases h : vo a0 k1 with
    | none => rw [h] at hc; cases hc
    | some x => rfl
  unfold vo at e
  rw [e]; rfl
end Go.FG.Pu.laws_markFetchS

namespace Go.FG.Pu.laws_markClientS
def r2 {R : Type} (N : Nat) (g : Int → Int → Row → Option R) (k0 : Int → Int → Row → Option R) (x0 : Int) (x1 : Int) (x2 : Row) : Option R := bif (decide (x1 < (↑(List.length x2) : Int))) then (bif (decide (0 ≤ x1) && decide (x1 < (↑(List.length x2) : Int))) then (bif (Pu.laws_markText.c (w64 (x0 + 1))) then (bif (decide (0 ≤ x1) && decide (x1 < (↑(List.length (setC x2 (Int.toNat x1) 0 [CV.i IntKind.i64 x0])) : Int))) then (bif (decide (0 ≤ x1) && decide (x1 < (↑(List.length (setC (setC x2 (Int.toNat x1) 0 [CV.i IntKind.i64 x0]) (Int.toNat x1) 1 [CV.s (Pu.laws_markText.v (w64 (x0 + 1)))])) : Int))) then (bif (decide (0 ≤ x1) && decide (x1 < (↑(List.length (setC (setC (setC x2 (Int.toNat x1) 0 [CV.i IntKind.i64 x0]) (Int.toNat x1) 1 [CV.s (Pu.laws_markText.v (w64 (x0 + 1)))]) (Int.toNat x1) 2 [CV.i IntKind.i64 (w64 (w64 (x0 + 1) + 1))])) : Int))) then (bif (decide (0 ≤ x1) && decide (x1 < (↑(List.length (setC (setC (setC (setC x2 (Int.toNat x1) 0 [CV.i IntKind.i64 x0]) (Int.toNat x1) 1 [CV.s (Pu.laws_markText.v (w64 (x0 + 1)))]) (Int.toNat x1) 2 [CV.i IntKind.i64 (w64 (w64 (x0 + 1) + 1))]) (Int.toNat x1) 3 [CV.i IntKind.i64 (w64 (w64 (w64 (x0 + 1) + 1) + 1))])) : Int))) then (bif (Pu.laws_markText.c (w64 (w64 (w64 (w64 (w64 (x0 + 1) + 1) + 1) + 1) + 1))) then (bif (decide (0 ≤ x1) && decide (x1 < (↑(List.length (setC (setC (setC (setC (setC x2 (Int.toNat x1) 0 [CV.i IntKind.i64 x0]) (Int.toNat x1) 1 [CV.s (Pu.laws_markText.v (w64 (x0 + 1)))]) (Int.toNat x1) 2 [CV.i IntKind.i64 (w64 (w64 (x0 + 1) + 1))]) (Int.toNat x1) 3 [CV.i IntKind.i64 (w64 (w64 (w64 (x0 + 1) + 1) + 1))]) (Int.toNat x1) 4 [CV.i IntKind.i64 (w64 (w64 (w64 (w64 (x0 + 1) + 1) + 1) + 1))])) : Int))) then (bif (decide (0 ≤ x1) && decide (x1 < (↑(List.length (setC (setC (setC (setC (setC (setC x2 (Int.toNat x1) 0 [CV.i IntKind.i64 x0]) (Int.toNat x1) 1 [CV.s (Pu.laws_markText.v (w64 (x0 + 1)))]) (Int.toNat x1) 2 [CV.i IntKind.i64 (w64 (w64 (x0 + 1) + 1))]) (Int.toNat x1) 3 [CV.i IntKind.i64 (w64 (w64 (w64 (x0 + 1) + 1) + 1))]) (Int.toNat x1) 4 [CV.i IntKind.i64 (w64 (w64 (w64 (w64 (x0 + 1) + 1) + 1) + 1))]) (Int.toNat x1) 5 [CV.s (Pu.laws_markText.v (w64 (w64 (w64 (w64 (w64 (x0 + 1) + 1) + 1) + 1) + 1)))])) : Int))) then (g (w64 (w64 (w64 (w64 (w64 (w64 (w64 (x0 + 1) + 1) + 1) + 1) + 1) + 1) + 1)) (w64 (x1 + 1)) (setC (setC (setC (setC (setC (setC (setC x2 (Int.toNat x1) 0 [CV.i IntKind.i64 x0]) (Int.toNat x1) 1 [CV.s (Pu.laws_markText.v (w64 (x0 + 1)))]) (Int.toNat x1) 2 [CV.i IntKind.i64 (w64 (w64 (x0 + 1) + 1))]) (Int.toNat x1) 3 [CV.i IntKind.i64 (w64 (w64 (w64 (x0 + 1) + 1) + 1))]) (Int.toNat x1) 4 [CV.i IntKind.i64 (w64 (w64 (w64 (w64 (x0 + 1) + 1) + 1) + 1))]) (Int.toNat x1) 5 [CV.s (Pu.laws_markText.v (w64 (w64 (w64 (w64 (w64 (x0 + 1) + 1) + 1) + 1) + 1)))]) (Int.toNat x1) 6 [CV.i IntKind.i64 (w64 (w64 (w64 (w64 (w64 (w64 (x0 + 1) + 1) + 1) + 1) + 1) + 1))])) else (none)) else (none)) else (none)) else (none)) else (none)) else (none)) else (none)) else (none)) else (none)) else (k0 x0 x1 x2)
def l2 {R : Type} (N : Nat) (k0 : Int → Int → Row → Option R) : Nat → Int → Int → Row → Option R
  | 0 => (fun _ _ _ => none)
  | n + 1 => (fun x0 x1 x2 => r2 N (l2 N k0 n) k0 x0 x1 x2)
def b {R : Type} (N : Nat) (kr : Int → Row → Option R) (a0 : Row) (k1 : Int) : Option R := l2 N (fun y3 y4 y5 => kr y3 y5) N k1 0 a0
theorem q2_bind {R S : Type} (f : R → Option S) (N : Nat) (k0 : Int → Int → Row → Option R) : ∀ n : Nat, (∀ (x0 : Int) (x1 : Int) (x2 : Row), Option.bind (l2 N k0 n x0 x1 x2) f = l2 N (fun y0 y1 y2 => (Option.bind (k0 y0 y1 y2) f)) n x0 x1 x2) := by
  intro n
  induction n with
  | zero => exact (fun _ _ _ => rfl)
  | succ n ih =>
    intro x0 x1 x2
    simp only [l2, r2, Lib.cond_bind, Lib.some_bind, Lib.none_bind, ih]
theorem l2_bind {R S : Type} (f : R → Option S) (N : Nat) (k0 : Int → Int → Row → Option R) (n : Nat) (x0 : Int) (x1 : Int) (x2 : Row) : Option.bind (l2 N k0 n x0 x1 x2) f = l2 N (fun y0 y1 y2 => (Option.bind (k0 y0 y1 y2) f)) n x0 x1 x2 := (q2_bind f N k0 n) x0 x1 x2
theorem b_bind {R : Type} (N : Nat) (kr : Int → Row → Option R) (a0 : Row) (k1 : Int) : b N kr a0 k1 = Option.bind (b N (fun r0 r1 => some (r0, r1)) a0 k1) (fun p => kr p.1 p.2) := by
  unfold b; simp only [Lib.cond_bind, Lib.some_bind, Lib.none_bind, l2_bind]
def vo (a0 : Row) (k1 : Int) : Option (Int × Row) := b Lib.big (fun r0 r1 => some (r0, r1)) a0 k1
def c (a0 : Row) (k1 : Int) : Bool := Option.isSome (vo a0 k1)
def v (a0 : Row) (k1 : Int) : Int × Row := Option.getD (vo a0 k1) (0, [])
theorem out (a0 : Row) (k1 : Int) {x : Int × Row} (h : vo a0 k1 = some x) : c a0 k1 = true ∧ v a0 k1 = x := by
  unfold c v; rw [h]; exact ⟨rfl, rfl⟩
theorem b_eq {R : Type} (kr : Int → Row → Option R) (a0 : Row) (k1 : Int) (hc : c a0 k1 = true) : ∃ N, b N kr a0 k1 = kr ((v a0 k1).1) ((v a0 k1).2) := by
  refine ⟨Lib.big, ?_⟩
  rw [b_bind]
  have e : vo a0 k1 = some (v a0 k1) := by
    unfold c at hc; unfold v
    cases h : vo a0 k1 with
    | none => rw [h] at hc; cases hc
    | some x => rfl
  unfold vo at e
  rw [e]; rfl
end Go.FG.Pu.laws_markClientS

namespace Go.FG.Pu.laws_markProxy
def b {R : Type} (kr : Int → Row → Row → Row → Row → Row → Row → Option R) (a0_0 : Int) (a0_1 : Row) (a0_2 : Row) (a0_3 : Row) (a0_4 : Row) (a0_5 : Int) (a0_6 : Row) (a0_7 : Row) (a0_8 : Int) (k1 : Int) : Option R := bif (Pu.laws_markEntryS.c a0_1 k1) then (bif (Pu.laws_markPolicy.c a0_2 a0_3 a0_4 a0_5 (Pu.laws_markEntryS.v a0_1 k1).1) then (bif (Pu.laws_markFetchS.c a0_6 (Pu.laws_markPolicy.v a0_2 a0_3 a0_4 a0_5 (Pu.laws_markEntryS.v a0_1 k1).1).1) then (bif (Pu.laws_markClientS.c a0_7 (Pu.laws_markFetchS.v a0_6 (Pu.laws_markPolicy.v a0_2 a0_3 a0_4 a0_5 (Pu.laws_markEntryS.v a0_1 k1).1).1).1) then (kr ((Pu.laws_markClientS.v a0_7 (Pu.laws_markFetchS.v a0_6 (Pu.laws_markPolicy.v a0_2 a0_3 a0_4 a0_5 (Pu.laws_markEntryS.v a0_1 k1).1).1).1).1) ((Pu.laws_markEntryS.v a0_1 k1).2) ((Pu.laws_markPolicy.v a0_2 a0_3 a0_4 a0_5 (Pu.laws_markEntryS.v a0_1 k1).1).2.1) ((Pu.laws_markPolicy.v a0_2 a0_3 a0_4 a0_5 (Pu.laws_markEntryS.v a0_1 k1).1).2.2.1) ((Pu.laws_markPolicy.v a0_2 a0_3 a0_4 a0_5 (Pu.laws_markEntryS.v a0_1 k1).1).2.2.2) ((Pu.laws_markFetchS.v a0_6 (Pu.laws_markPolicy.v a0_2 a0_3 a0_4 a0_5 (Pu.laws_markEntryS.v a0_1 k1).1).1).2) ((Pu.laws_markClientS.v a0_7 (Pu.laws_markFetchS.v a0_6 (Pu.laws_markPolicy.v a0_2 a0_3 a0_4 a0_5 (Pu.laws_markEntryS.v a0_1 k1).1).1).1).2)) else (none)) else (none)) else (none)) else (none)
theorem b_bind {R : Type} (kr : Int → Row → Row → Row → Row → Row → Row → Option R) (a0_0 : Int) (a0_1 : Row) (a0_2 : Row) (a0_3 : Row) (a0_4 : Row) (a0_5 : Int) (a0_6 : Row) (a0_7 : Row) (a0_8 : Int) (k1 : Int) : b kr a0_0 a0_1 a0_2 a0_3 a0_4 a0_5 a0_6 a0_7 a0_8 k1 = Option.bind (b (fun r0 r1 r2 r3 r4 r5 r6 => some (r0, r1, r2, r3, r4, r5, r6)) a0_0 a0_1 a0_2 a0_3 a0_4 a0_5 a0_6 a0_7 a0_8 k1) (fun p => kr p.1 p.2.1 p.2.2.1 p.2.2.2.1 p.2.2.2.2.1 p.2.2.2.2.2.1 p.2.2.2.2.2.2) := by
  unfold b; simp only [Lib.cond_bind, Lib.some_bind, Lib.none_bind]
def vo (a0_0 : Int) (a0_1 : Row) (a0_2 : Row) (a0_3 : Row) (a0_4 : Row) (a0_5 : Int) (a0_6 : Row) (a0_7 : Row) (a0_8 : Int) (k1 : Int) : Option (Int × Row × Row × Row × Row × Row × Row) := b (fun r0 r1 r2 r3 r4 r5 r6 => some (r0, r1, r2, r3, r4, r5, r6)) a0_0 a0_1 a0_2 a0_3 a0_4 a0_5 a0_6 a0_7 a0_8 k1
def c (a0_0 : Int) (a0_1 : Row) (a0_2 : Row) (a0_3 : Row) (a0_4 : Row) (a0_5 : Int) (a0_6 : Row) (a0_7 : Row) (a0_8 : Int) (k1 : Int) : Bool := Option.isSome (vo a0_0 a0_1 a0_2 a0_3 a0_4 a0_5 a0_6 a0_7 a0_8 k1)
def v (a0_0 : Int) (a0_1 : Row) (a0_2 : Row) (a0_3 : Row) (a0_4 : Row) (a0_5 : Int) (a0_6 : Row) (a0_7 : Row) (a0_8 : Int) (k1 : Int) : Int × Row × Row × Row × Row × Row × Row := Option.getD (vo a0_0 a0_1 a0_2 a0_3 a0_4 a0_5 a0_6 a0_7 a0_8 k1) (0, [], [], [], [], [], [])
theorem out (a0_0 : Int) (a0_1 : Row) (a0_2 : Row) (a0_3 : Row) (a0_4 : Row) (a0_5 : Int) (a0_6 : Row) (a0_7 : Row) (a0_8 : Int) (k1 : Int) {x : Int × Row × Row × Row × Row × Row × Row} (h : vo a0_0 a0_1 a0_2 a0_3 a0_4 a0_5 a0_6 a0_7 a0_8 k1 = some x) : c a0_0 a0_1 a0_2 a0_3 a0_4 a0_5 a0_6 a0_7 a0_8 k1 = true ∧ v a0_0 a0_1 a0_2 a0_3 a0_4 a0_5 a0_6 a0_7 a0_8 k1 = x := by
  unfold c v; rw [h]; exact ⟨rfl, rfl⟩
theorem b_eq {R : Type} (kr : Int → Row → Row → Row → Row → Row → Row → Option R) (a0_0 : Int) (a0_1 : Row) (a0_2 : Row) (a0_3 : Row) (a0_4 : Row) (a0_5 : Int) (a0_6 : Row) (a0_7 : Row) (a0_8 : Int) (k1 : Int) (hc : c a0_0 a0_1 a0_2 a0_3 a0_4 a0_5 a0_6 a0_7 a0_8 k1 = true) : b kr a0_0 a0_1 a0_2 a0_3 a0_4 a0_5 a0_6 a0_7 a0_8 k1 = kr ((v a0_0 a0_1 a0_2 a0_3 a0_4 a0_5 a0_6 a0_7 a0_8 k1).1) ((v a0_0 a0_1 a0_2 a0_3 a0_4 a0_5 a0_6 a0_7 a0_8 k1).2.1) ((v a0_0 a0_1 a0_2 a0_3 a0_4 a0_5 a0_6 a0_7 a0_8 k1).2.2.1) ((v a0_0 a0_1 a0_2 a0_3 a0_4 a0_5 a0_6 a0_7 a0_8 k1).2.2.2.1) ((v a0_0 a0_1 a0_2 a0_3 a0_4 a0_5 a0_6 a0_7 a0_8 k1).2.2.2.2.1) ((v a0_0 a0_1 a0_2 a0_3 a0_4 a0_5 a0_6 a0_7 a0_8 k1).2.2.2.2.2.1) ((v a0_0 a0_1 a0_2 a0_3 a0_4 a0_5 a0_6 a0_7 a0_8 k1).2.2.2.2.2.2) := by
  rw [b_bind]
  have e : vo a0_0 a0_1 a0_2 a0_3 a0_4 a0_5 a0_6 a0_7 a0_8 k1 = some (v a0_0 a0_1 a0_2 a0_3 a0_4 a0_5 a0_6 a0_7 a0_8 k1) := by
    unfold c at hc; unfold v
    cases h : vo a0_0 a0_1 a0_2 a0_3 a0_4 a0_5 a0_6 a0_7 a0_8 k1 with
    | none => rw [h] at hc; cases hc
    | some x => rfl
  unfold vo at e
  rw [e]; rfl
end Go.FG.Pu.laws_markProxy

namespace Go.FG.Pu.laws_heldEntryS
def r2 {R : Type} (N : Nat) (g : Row → Int → Int → Int → Option R) (k0 : Row → Int → Int → Int → Option R) (k1 : Row → Int → Int → Int → Option R) (x0 : Row) (x1 : Int) (x2 : Int) (x3 : Int) : Option R := bif (decide (x3 < (↑(List.length x0) : Int))) then (bif (decide (0 ≤ x3) && decide (x3 < (↑(List.length x0) : Int))) then (bif (Pu.laws_markText.c x1) then (bif (!List.beq (ByteArray.toList (cvS (cellAt x0 (Int.toNat x3) 0))) (ByteArray.toList (Pu.laws_markText.v x1))) then (k0 x0 x1 (-1) x3) else (bif (decide (0 ≤ x3) && decide (x3 < (↑(List.length x0) : Int))) then (bif (cvI (cellAt x0 (Int.toNat x3) 1) != w64 (x1 + 1)) then (k0 x0 (w64 (x1 + 1)) (-1) x3) else (bif (decide (0 ≤ x3) && decide (x3 < (↑(List.length x0) : Int))) then (bif (cvI (cellAt x0 (Int.toNat x3) 2) != w64 (w64 (x1 + 1) + 1)) then (k0 x0 (w64 (w64 (x1 + 1) + 1)) (-1) x3) else (bif (decide (0 ≤ x3) && decide (x3 < (↑(List.length x0) : Int))) then (bif (Pu.laws_markText.c (w64 (w64 (w64 (x1 + 1) + 1) + 1))) then (bif (!List.beq (ByteArray.toList (cvS (cellAt x0 (Int.toNat x3) 3))) (ByteArray.toList (Pu.laws_markText.v (w64 (w64 (w64 (x1 + 1) + 1) + 1))))) then (k0 x0 (w64 (w64 (w64 (x1 + 1) + 1) + 1)) (-1) x3) else (g x0 (w64 (w64 (w64 (w64 (x1 + 1) + 1) + 1) + 1)) x2 (w64 (x3 + 1)))) else (none)) else (none))) else (none))) else (none))) else (none)) else (none)) else (k1 x0 x1 x2 x3)
def l2 {R : Type} (N : Nat) (k0 : Row → Int → Int → Int → Option R) (k1 : Row → Int → Int → Int → Option R) : Nat → Row → Int → Int → Int → Option R
  | 0 => (fun _ _ _ _ => none)
  | n + 1 => (fun x0 x1 x2 x3 => r2 N (l2 N k0 k1 n) k0 k1 x0 x1 x2 x3)
def b {R : Type} (N : Nat) (kr : Int → Option R) (a0 : Row) (k1 : Int) : Option R := l2 N (fun y4 y5 y6 y7 => kr y6) (fun y8 y9 y10 y11 => kr y9) N a0 k1 0 0
theorem q2_bind {R S : Type} (f : R → Option S) (N : Nat) (k0 : Row → Int → Int → Int → Option R) (k1 : Row → Int → Int → Int → Option R) : ∀ n : Nat, (∀ (x0 : Row) (x1 : Int) (x2 : Int) (x3 : Int), Option.bind (l2 N k0 k1 n x0 x1 x2 x3) f = l2 N (fun y0 y1 y2 y3 => (Option.bind (k0 y0 y1 y2 y3) f)) (fun y0 y1 y2 y3 => (Option.bind (k1 y0 y1 y2 y3) f)) n x0 x1 x2 x3) := by
  intro n
  induction n with
  | zero => exact (fun _ _ _ _ => rfl)
  | succ n ih =>
    intro x0 x1 x2 x3
    simp only [l2, r2, Lib.cond_bind, Lib.some_bind, Lib.none_bind, ih]
theorem l2_bind {R S : Type} (f : R → Option S) (N : Nat) (k0 : Row → Int → Int → Int → Option R) (k1 : Row → Int → Int → Int → Option R) (n : Nat) (x0 : Row) (x1 : Int) (x2 : Int) (x3 : Int) : Option.bind (l2 N k0 k1 n x0 x1 x2 x3) f = l2 N (fun y0 y1 y2 y3 => (Option.bind (k0 y0 y1 y2 y3) f)) (fun y0 y1 y2 y3 => (Option.bind (k1 y0 y1 y2 y3) f)) n x0 x1 x2 x3 := (q2_bind f N k0 k1 n) x0 x1 x2 x3
theorem b_bind {R : Type} (N : Nat) (kr : Int → Option R) (a0 : Row) (k1 : Int) : b N kr a0 k1 = Option.bind (b N (fun r0 => some (r0)) a0 k1) (fun p => kr p) := by
  unfold b; simp only [Lib.cond_bind, Lib.some_bind, Lib.none_bind, l2_bind]
def vo (a0 : Row) (k1 : Int) : Option (Int) := b Lib.big (fun r0 => some (r0)) a0 k1
def c (a0 : Row) (k1 : Int) : Bool := Option.isSome (vo a0 k1)
def v (a0 : Row) (k1 : Int) : Int := Option.getD (vo a0 k1) (0)
theorem out (a0 : Row) (k1 : Int) {x : Int} (h : vo a0 k1 = some x) : c a0 k1 = true ∧ v a0 k1 = x := by
  unfold c v; rw [h]; exact ⟨rfl, rfl⟩
theorem b_eq {R : Type} (kr : Int → Option R) (a0 : Row) (k1 : Int) (hc : c a0 k1 = true) : ∃ N, b N kr a0 k1 = kr (v a0 k1) := by
  refine ⟨Lib.big, ?_⟩
  rw [b_bind]
  have e : vo a0 k1 = some (v a0 k1) := by
    unfold c at hc; unfold v
    cases h : vo a0 k1 with
    | none => rw [h] at hc; cases hc
    | some x => rfl
  unfold vo at e
  rw [e]; rfl
end Go.FG.Pu.laws_heldEntryS

namespace Go.FG.Pu.laws_heldStringS
def r2 {R : Type} (N : Nat) (g : Row → Int → Int → Int → Option R) (k0 : Row → Int → Int → Int → Option R) (k1 : Row → Int → Int → Int → Option R) (x0 : Row) (x1 : Int) (x2 : Int) (x3 : Int) : Option R := bif (decide (x3 < (↑(List.length x0) : Int))) then (bif (decide (0 ≤ x3) && decide (x3 < (↑(List.length x0) : Int))) then (bif (Pu.laws_markText.c x1) then (bif (!List.beq (ByteArray.toList (cvS (cellAt x0 (Int.toNat x3) 0))) (ByteArray.toList (Pu.laws_markText.v x1))) then (k0 x0 x1 (-1) x3) else (g x0 (w64 (x1 + 1)) x2 (w64 (x3 + 1)))) else (none)) else (none)) else (k1 x0 x1 x2 x3)
def l2 {R : Type} (N : Nat) (k0 : Row → Int → Int → Int → Option R) (k1 : Row → Int → Int → Int → Option R) : Nat → Row → Int → Int → Int → Option R
  | 0 => (fun _ _ _ _ => none)
  | n + 1 => (fun x0 x1 x2 x3 => r2 N (l2 N k0 k1 n) k0 k1 x0 x1 x2 x3)
def b {R : Type} (N : Nat) (kr : Int → Option R) (a0 : Row) (k1 : Int) : Option R := l2 N (fun y4 y5 y6 y7 => kr y6) (fun y8 y9 y10 y11 => kr y9) N a0 k1 0 0
theorem q2_bind {R S : Type} (f : R → Option S) (N : Nat) (k0 : Row → Int → Int → Int → Option R) (k1 : Row → Int → Int → Int → Option R) : ∀ n : Nat, (∀ (x0 : Row) (x1 : Int) (x2 : Int) (x3 : Int), Option.bind (l2 N k0 k1 n x0 x1 x2 x3) f = l2 N (fun y0 y1 y2 y3 => (Option.bind (k0 y0 y1 y2 y3) f)) (fun y0 y1 y2 y3 => (Option.bind (k1 y0 y1 y2 y3) f)) n x0 x1 x2 x3) := by
  intro n
  induction n with
  | zero => exact (fun _ _ _ _ => rfl)
  | succ n ih =>
    intro x0 x1 x2 x3
    simp only [l2, r2, Lib.cond_bind, Lib.some_bind, Lib.none_bind, ih]
theorem l2_bind {R S : Type} (f : R → Option S) (N : Nat) (k0 : Row → Int → Int → Int → Option R) (k1 : Row → Int → Int → Int → Option R) (n : Nat) (x0 : Row) (x1 : Int) (x2 : Int) (x3 : Int) : Option.bind (l2 N k0 k1 n x0 x1 x2 x3) f = l2 N (fun y0 y1 y2 y3 => (Option.bind (k0 y0 y1 y2 y3) f)) (fun y0 y1 y2 y3 => (Option.bind (k1 y0 y1 y2 y3) f)) n x0 x1 x2 x3 := (q2_bind f N k0 k1 n) x0 x1 x2 x3
theorem b_bind {R : Type} (N : Nat) (kr : Int → Option R) (a0 : Row) (k1 : Int) : b N kr a0 k1 = Option.bind (b N (fun r0 => some (r0)) a0 k1) (fun p => kr p) := by
  unfold b; simp only [Lib.cond_bind, Lib.some_bind, Lib.none_bind, l2_bind]
def vo (a0 : Row) (k1 : Int) : Option (Int) := b Lib.big (fun r0 => some (r0)) a0 k1
def c (a0 : Row) (k1 : Int) : Bool := Option.isSome (vo a0 k1)
def v (a0 : Row) (k1 : Int) : Int := Option.getD (vo a0 k1) (0)
theorem out (a0 : Row) (k1 : Int) {x : Int} (h : vo a0 k1 = some x) : c a0 k1 = true ∧ v a0 k1 = x := by
  unfold c v; rw [h]; exact ⟨rfl, rfl⟩
theorem b_eq {R : Type} (kr : Int → Option R) (a0 : Row) (k1 : Int) (hc : c a0 k1 = true) : ∃ N, b N kr a0 k1 = kr (v a0 k1) := by
  refine ⟨Lib.big, ?_⟩
  rw [b_bind]
  have e : vo a0 k1 = some (v a0 k1) := by
    unfold c at hc; unfold v
    cases h : vo a0 k1 with
    | none => rw [h] at hc; cases hc
    | some x => rfl
  unfold vo at e
  rw [e]; rfl
end Go.FG.Pu.laws_heldStringS

namespace Go.FG.Pu.laws_heldIntS
def r2 {R : Type} (N : Nat) (g : Row → Int → Int → Int → Option R) (k0 : Row → Int → Int → Int → Option R) (k1 : Row → Int → Int → Int → Option R) (x0 : Row) (x1 : Int) (x2 : Int) (x3 : Int) : Option R := bif (decide (x3 < (↑(List.length x0) : Int))) then (bif (decide (0 ≤ x3) && decide (x3 < (↑(List.length x0) : Int))) then (bif (cvI (cellAt x0 (Int.toNat x3) 0) != x1) then (k0 x0 x1 (-1) x3) else (g x0 (w64 (x1 + 1)) x2 (w64 (x3 + 1)))) else (none)) else (k1 x0 x1 x2 x3)
def l2 {R : Type} (N : Nat) (k0 : Row → Int → Int → Int → Option R) (k1 : Row → Int → Int → Int → Option R) : Nat → Row → Int → Int → Int → Option R
  | 0 => (fun _ _ _ _ => none)
  | n + 1 => (fun x0 x1 x2 x3 => r2 N (l2 N k0 k1 n) k0 k1 x0 x1 x2 x3)
def b {R : Type} (N : Nat) (kr : Int → Option R) (a0 : Row) (k1 : Int) : Option R := l2 N (fun y4 y5 y6 y7 => kr y6) (fun y8 y9 y10 y11 => kr y9) N a0 k1 0 0
theorem q2_bind {R S : Type} (f : R → Option S) (N : Nat) (k0 : Row → Int → Int → Int → Option R) (k1 : Row → Int → Int → Int → Option R) : ∀ n : Nat, (∀ (x0 : Row) (x1 : Int) (x2 : Int) (x3 : Int), Option.bind (l2 N k0 k1 n x0 x1 x2 x3) f = l2 N (fun y0 y1 y2 y3 => (Option.bind (k0 y0 y1 y2 y3) f)) (fun y0 y1 y2 y3 => (Option.bind (k1 y0 y1 y2 y3) f)) n x0 x1 x2 x3) := by
  intro n
  induction n with
  | zero => exact (fun _ _ _ _ => rfl)
  | succ n ih =>
    intro x0 x1 x2 x3
    simp only [l2, r2, Lib.cond_bind, Lib.some_bind, Lib.none_bind, ih]
theorem l2_bind {R S : Type} (f : R → Option S) (N : Nat) (k0 : Row → Int → Int → Int → Option R) (k1 : Row → Int → Int → Int → Option R) (n : Nat) (x0 : Row) (x1 : Int) (x2 : Int) (x3 : Int) : Option.bind (l2 N k0 k1 n x0 x1 x2 x3) f = l2 N (fun y0 y1 y2 y3 => (Option.bind (k0 y0 y1 y2 y3) f)) (fun y0 y1 y2 y3 => (Option.bind (k1 y0 y1 y2 y3) f)) n x0 x1 x2 x3 := (q2_bind f N k0 k1 n) x0 x1 x2 x3
theorem b_bind {R : Type} (N : Nat) (kr : Int → Option R) (a0 : Row) (k1 : Int) : b N kr a0 k1 = Option.bind (b N (fun r0 => some (r0)) a0 k1) (fun p => kr p) := by
  unfold b; simp only [Lib.cond_bind, Lib.some_bind, Lib.none_bind, l2_bind]
def vo (a0 : Row) (k1 : Int) : Option (Int) := b Lib.big (fun r0 => some (r0)) a0 k1
def c (a0 : Row) (k1 : Int) : Bool := Option.isSome (vo a0 k1)
def v (a0 : Row) (k1 : Int) : Int := Option.getD (vo a0 k1) (0)
theorem out (a0 : Row) (k1 : Int) {x : Int} (h : vo a0 k1 = some x) : c a0 k1 = true ∧ v a0 k1 = x := by
  unfold c v; rw [h]; exact ⟨rfl, rfl⟩
theorem b_eq {R : Type} (kr : Int → Option R) (a0 : Row) (k1 : Int) (hc : c a0 k1 = true) : ∃ N, b N kr a0 k1 = kr (v a0 k1) := by
  refine ⟨Lib.big, ?_⟩
  rw [b_bind]
  have e : vo a0 k1 = some (v a0 k1) := by
    unfold c at hc; unfold v
    cases h : vo a0 k1 with
    | none => rw [h] at hc; cases hc
    | some x => rfl
  unfold vo at e
  rw [e]; rfl
end Go.FG.Pu.laws_heldIntS

namespace Go.FG.Pu.laws_heldIntSS
def r2 {R : Type} (N : Nat) (g : Row → Int → Int → Int → Option R) (k0 : Row → Int → Int → Int → Option R) (k1 : Row → Int → Int → Int → Option R) (x0 : Row) (x1 : Int) (x2 : Int) (x3 : Int) : Option R := bif (decide (x3 < (↑(List.length x0) : Int))) then (bif (decide (0 ≤ x3) && decide (x3 < (↑(List.length x0) : Int))) then (bif (Pu.laws_heldIntS.c (cvL (cellAt x0 (Int.toNat x3) 0)) x1) then (bif (decide (Pu.laws_heldIntS.v (cvL (cellAt x0 (Int.toNat x3) 0)) x1 < 0)) then (k0 x0 (Pu.laws_heldIntS.v (cvL (cellAt x0 (Int.toNat x3) 0)) x1) (-1) x3) else (g x0 (Pu.laws_heldIntS.v (cvL (cellAt x0 (Int.toNat x3) 0)) x1) x2 (w64 (x3 + 1)))) else (none)) else (none)) else (k1 x0 x1 x2 x3)
def l2 {R : Type} (N : Nat) (k0 : Row → Int → Int → Int → Option R) (k1 : Row → Int → Int → Int → Option R) : Nat → Row → Int → Int → Int → Option R
  | 0 => (fun _ _ _ _ => none)
  | n + 1 => (fun x0 x1 x2 x3 => r2 N (l2 N k0 k1 n) k0 k1 x0 x1 x2 x3)
def b {R : Type} (N : Nat) (kr : Int → Option R) (a0 : Row) (k1 : Int) : Option R := l2 N (fun y4 y5 y6 y7 => kr y6) (fun y8 y9 y10 y11 => kr y9) N a0 k1 0 0
theorem q2_bind {R S : Type} (f : R → Option S) (N : Nat) (k0 : Row → Int → Int → Int → Option R) (k1 : Row → Int → Int → Int → Option R) : ∀ n : Nat, (∀ (x0 : Row) (x1 : Int) (x2 : Int) (x3 : Int), Option.bind (l2 N k0 k1 n x0 x1 x2 x3) f = l2 N (fun y0 y1 y2 y3 => (Option.bind (k0 y0 y1 y2 y3) f)) (fun y0 y1 y2 y3 => (Option.bind (k1 y0 y1 y2 y3) f)) n x0 x1 x2 x3) := by
  intro n
  induction n with
  | zero => exact (fun _ _ _ _ => rfl)
  | succ n ih =>
    intro x0 x1 x2 x3
    simp only [l2, r2, Lib.cond_bind, Lib.some_bind, Lib.none_bind, ih]
theorem l2_bind {R S : Type} (f : R → Option S) (N : Nat) (k0 : Row → Int → Int → Int → Option R) (k1 : Row → Int → Int → Int → Option R) (n : Nat) (x0 : Row) (x1 : Int) (x2 : Int) (x3 : Int) : Option.bind (l2 N k0 k1 n x0 x1 x2 x3) f = l2 N (fun y0 y1 y2 y3 => (Option.bind (k0 y0 y1 y2 y3) f)) (fun y0 y1 y2 y3 => (Option.bind (k1 y0 y1 y2 y3) f)) n x0 x1 x2 x3 := (q2_bind f N k0 k1 n) x0 x1 x2 x3
theorem b_bind {R : Type} (N : Nat) (kr : Int → Option R) (a0 : Row) (k1 : Int) : b N kr a0 k1 = Option.bind (b N (fun r0 => some (r0)) a0 k1) (fun p => kr p) := by
  unfold b; simp only [Lib.cond_bind, Lib.some_bind, Lib.none_bind, l2_bind]
def vo (a0 : Row) (k1 : Int) : Option (Int) := b Lib.big (fun r0 => some (r0)) a0 k1
def c (a0 : Row) (k1 : Int) : Bool := Option.isSome (vo a0 k1)
def v (a0 : Row) (k1 : Int) : Int := Option.getD (vo a0 k1) (0)
theorem out (a0 : Row) (k1 : Int) {x : Int} (h : vo a0 k1 = some x) : c a0 k1 = true ∧ v a0 k1 = x := by
  unfold c v; rw [h]; exact ⟨rfl, rfl⟩
theorem b_eq {R : Type} (kr : Int → Option R) (a0 : Row) (k1 : Int) (hc : c a0 k1 = true) : ∃ N, b N kr a0 k1 = kr (v a0 k1) := by
  refine ⟨Lib.big, ?_⟩
  rw [b_bind]
  have e : vo a0 k1 = some (v a0 k1) := by
    unfold c at hc; unfold v
    cases h : vo a0 k1 with
    | none => rw [h] at hc; cases hc
    | some x => rfl
  unfold vo at e
  rw [e]; rfl
end Go.FG.Pu.laws_heldIntSS

namespace Go.FG.Pu.laws_heldSketch
def b {R : Type} (kr : Int → Option R) (a0_0 : Row) (a0_1 : Int) (k1 : Int) : Option R := bif (Pu.laws_heldIntSS.c a0_0 k1) then (bif (decide (Pu.laws_heldIntSS.v a0_0 k1 < 0)) then (kr (-1)) else (kr (Pu.laws_heldIntSS.v a0_0 k1))) else (none)
theorem b_bind {R : Type} (kr : Int → Option R) (a0_0 : Row) (a0_1 : Int) (k1 : Int) : b kr a0_0 a0_1 k1 = Option.bind (b (fun r0 => some (r0)) a0_0 a0_1 k1) (fun p => kr p) := by
  unfold b; simp only [Lib.cond_bind, Lib.some_bind, Lib.none_bind]
def vo (a0_0 : Row) (a0_1 : Int) (k1 : Int) : Option (Int) := b (fun r0 => some (r0)) a0_0 a0_1 k1
def c (a0_0 : Row) (a0_1 : Int) (k1 : Int) : Bool := Option.isSome (vo a0_0 a0_1 k1)
def v (a0_0 : Row) (a0_1 : Int) (k1 : Int) : Int := Option.getD (vo a0_0 a0_1 k1) (0)
theorem out (a0_0 : Row) (a0_1 : Int) (k1 : Int) {x : Int} (h : vo a0_0 a0_1 k1 = some x) : c a0_0 a0_1 k1 = true ∧ v a0_0 a0_1 k1 = x := by
  unfold c v; rw [h]; exact ⟨rfl, rfl⟩
theorem b_eq {R : Type} (kr : Int → Option R) (a0_0 : Row) (a0_1 : Int) (k1 : Int) (hc : c a0_0 a0_1 k1 = true) : b kr a0_0 a0_1 k1 = kr (v a0_0 a0_1 k1) := by
  rw [b_bind]
  have e : vo a0_0 a0_1 k1 = some (v a0_0 a0_1 k1) := by
    unfold c at hc; unfold v
    cases h : vo a0_0 a0_1 k1 with
    | none => rw [h] at hc; cases hc
    | some x => rfl
  unfold vo at e
  rw [e]; rfl
end Go.FG.Pu.laws_heldSketch

namespace Go.FG.Pu.laws_heldPolicy
def b {R : Type} (kr : Int → Option R) (a0_0 : Row) (a0_1 : Row) (a0_2 : Row) (a0_3 : Int) (k1 : Int) : Option R := bif (Pu.laws_heldStringS.c a0_0 k1) then (bif (decide (Pu.laws_heldStringS.v a0_0 k1 < 0)) then (kr (-1)) else (bif (Pu.laws_heldStringS.c a0_1 (Pu.laws_heldStringS.v a0_0 k1)) then (bif (decide (Pu.laws_heldStringS.v a0_1 (Pu.laws_heldStringS.v a0_0 k1) < 0)) then (kr (-1)) else (bif (Pu.laws_heldSketch.c a0_2 a0_3 (Pu.laws_heldStringS.v a0_1 (Pu.laws_heldStringS.v a0_0 k1))) then (bif (decide (Pu.laws_heldSketch.v a0_2 a0_3 (Pu.laws_heldStringS.v a0_1 (Pu.laws_heldStringS.v a0_0 k1)) < 0)) then (kr (-1)) else (kr (Pu.laws_heldSketch.v a0_2 a0_3 (Pu.laws_heldStringS.v a0_1 (Pu.laws_heldStringS.v a0_0 k1))))) else (none))) else (none))) else (none)
theorem b_bind {R : Type} (kr : Int → Option R) (a0_0 : Row) (a0_1 : Row) (a0_2 : Row) (a0_3 : Int) (k1 : Int) : b kr a0_0 a0_1 a0_2 a0_3 k1 = Option.bind (b (fun r0 => some (r0)) a0_0 a0_1 a0_2 a0_3 k1) (fun p => kr p) := by
  unfold b; simp only [Lib.cond_bind, Lib.some_bind, Lib.none_bind]
def vo (a0_0 : Row) (a0_1 : Row) (a0_2 : Row) (a0_3 : Int) (k1 : Int) : Option (Int) := b (fun r0 => some (r0)) a0_0 a0_1 a0_2 a0_3 k1
def c (a0_0 : Row) (a0_1 : Row) (a0_2 : Row) (a0_3 : Int) (k1 : Int) : Bool := Option.isSome (vo a0_0 a0_1 a0_2 a0_3 k1)
def v (a0_0 : Row) (a0_1 : Row) (a0_2 : Row) (a0_3 : Int) (k1 : Int) : Int := Option.getD (vo a0_0 a0_1 a0_2 a0_3 k1) (0)
theorem out (a0_0 : Row) (a0_1 : Row) (a0_2 : Row) (a0_3 : Int) (k1 : Int) {x : Int} (h : vo a0_0 a0_1 a0_2 a0_3 k1 = some x) : c a0_0 a0_1 a0_2 a0_3 k1 = true ∧ v a0_0 a0_1 a0_2 a0_3 k1 = x := by
  unfold c v; rw [h]; exact ⟨rfl, rfl⟩
theorem b_eq {R : Type} (kr : Int → Option R) (a0_0 : Row) (a0_1 : Row) (a0_2 : Row) (a0_3 : Int) (k1 : Int) (hc : c a0_0 a0_1 a0_2 a0_3 k1 = true) : b kr a0_0 a0_1 a0_2 a0_3 k1 = kr (v a0_0 a0_1 a0_2 a0_3 k1) := by
  rw [b_bind]
  have e : vo a0_0 a0_1 a0_2 a0_3 k1 = some (v a0_0 a0_1 a0_2 a0_3 k1) := by
    unfold c at hc; unfold v
    cases h : vo a0_0 a0_1 a0_2 a0_3 k1 with
    | none => rw [h] at hc; cases hc
    | some x => rfl
  unfold vo at e
  rw [e]; rfl
end Go.FG.Pu.laws_heldPolicy

namespace Go.FG.Pu.laws_heldFetchS
def r2 {R : Type} (N : Nat) (g : Row → Int → Int → Int → Option R) (k0 : Row → Int → Int → Int → Option R) (k1 : Row → Int → Int → Int → Option R) (x0 : Row) (x1 : Int) (x2 : Int) (x3 : Int) : Option R := bif (decide (x3 < (↑(List.length x0) : Int))) then (bif (decide (0 ≤ x3) && decide (x3 < (↑(List.length x0) : Int))) then (bif (Pu.laws_markText.c x1) then (bif (!List.beq (ByteArray.toList (cvS (cellAt x0 (Int.toNat x3) 0))) (ByteArray.toList (Pu.laws_markText.v x1))) then (k0 x0 x1 (-1) x3) else (bif (decide (0 ≤ x3) && decide (x3 < (↑(List.length x0) : Int))) then (bif (Pu.laws_markText.c (w64 (x1 + 1))) then (bif (!List.beq (ByteArray.toList (cvS (cellAt x0 (Int.toNat x3) 1))) (ByteArray.toList (Pu.laws_markText.v (w64 (x1 + 1))))) then (k0 x0 (w64 (x1 + 1)) (-1) x3) else (bif (decide (0 ≤ x3) && decide (x3 < (↑(List.length x0) : Int))) then (bif (cvI (cellAt x0 (Int.toNat x3) 2) != w64 (w64 (x1 + 1) + 1)) then (k0 x0 (w64 (w64 (x1 + 1) + 1)) (-1) x3) else (bif (decide (0 ≤ x3) && decide (x3 < (↑(List.length x0) : Int))) then (bif (cvI (cellAt x0 (Int.toNat x3) 3) != w64 (w64 (w64 (x1 + 1) + 1) + 1)) then (k0 x0 (w64 (w64 (w64 (x1 + 1) + 1) + 1)) (-1) x3) else (bif (decide (0 ≤ x3) && decide (x3 < (↑(List.length x0) : Int))) then (bif (cvI (cellAt x0 (Int.toNat x3) 4) != w64 (w64 (w64 (w64 (x1 + 1) + 1) + 1) + 1)) then (k0 x0 (w64 (w64 (w64 (w64 (x1 + 1) + 1) + 1) + 1)) (-1) x3) else (g x0 (w64 (w64 (w64 (w64 (w64 (x1 + 1) + 1) + 1) + 1) + 1)) x2 (w64 (x3 + 1)))) else (none))) else (none))) else (none))) else (none)) else (none))) else (none)) else (none)) else (k1 x0 x1 x2 x3)
def l2 {R : Type} (N : Nat) (k0 : Row → Int → Int → Int → Option R) (k1 : Row → Int → Int → Int → Option R) : Nat → Row → Int → Int → Int → Option R
  | 0 => (fun _ _ _ _ => none)
  | n + 1 => (fun x0 x1 x2 x3 => r2 N (l2 N k0 k1 n) k0 k1 x0 x1 x2 x3)
def b {R : Type} (N : Nat) (kr : Int → Option R) (a0 : Row) (k1 : Int) : Option R := l2 N (fun y4 y5 y6 y7 => kr y6) (fun y8 y9 y10 y11 => kr y9) N a0 k1 0 0
theorem q2_bind {R S : Type} (f : R → Option S) (N : Nat) (k0 : Row → Int → Int → Int → Option R) (k1 : Row → Int → Int → Int → Option R) : ∀ n : Nat, (∀ (x0 : Row) (x1 : Int) (x2 : Int) (x3 : Int), Option.bind (l2 N k0 k1 n x0 x1 x2 x3) f = l2 N (fun y0 y1 y2 y3 => (Option.bind (k0 y0 y1 y2 y3) f)) (fun y0 y1 y2 y3 => (Option.bind (k1 y0 y1 y2 y3) f)) n x0 x1 x2 x3) := by
  intro n
  induction n with
  | zero => exact (fun _ _ _ _ => rfl)
  | succ n ih =>
    intro x0 x1 x2 x3
    simp only [l2, r2, Lib.cond_bind, Lib.some_bind, Lib.none_bind, ih]
theorem l2_bind {R S : Type} (f : R → Option S) (N : Nat) (k0 : Row → Int → Int → Int → Option R) (k1 : Row → Int → Int → Int → Option R) (n : Nat) (x0 : Row) (x1 : Int) (x2 : Int) (x3 : Int) : Option.bind (l2 N k0 k1 n x0 x1 x2 x3) f = l2 N (fun y0 y1 y2 y3 => (Option.bind (k0 y0 y1 y2 y3) f)) (fun y0 y1 y2 y3 => (Option.bind (k1 y0 y1 y2 y3) f)) n x0 x1 x2 x3 := (q2_bind f N k0 k1 n) x0 x1 x2 x3
theorem b_bind {R : Type} (N : Nat) (kr : Int → Option R) (a0 : Row) (k1 : Int) : b N kr a0 k1 = Option.bind (b N (fun r0 => some (r0)) a0 k1) (fun p => kr p) := by
  unfold b; simp only [Lib.cond_bind, Lib.some_bind, Lib.none_bind, l2_bind]
def vo (a0 : Row) (k1 : Int) : Option (Int) := b Lib.big (fun r0 => some (r0)) a0 k1
def c (a0 : Row) (k1 : Int) : Bool := Option.isSome (vo a0 k1)
def v (a0 : Row) (k1 : Int) : Int := Option.getD (vo a0 k1) (0)
theorem out (a0 : Row) (k1 : Int) {x : Int} (h : vo a0 k1 = some x) : c a0 k1 = true ∧ v a0 k1 = x := by
  unfold c v; rw [h]; exact ⟨rfl, rfl⟩
theorem b_eq {R : Type} (kr : Int → Option R) (a0 : Row) (k1 : Int) (hc : c a0 k1 = true) : ∃ N, b N kr a0 k1 = kr (v a0 k1) := by
  refine ⟨Lib.big, ?_⟩
  rw [b_bind]
  have e : vo a0 k1 = some (v a0 k1) := by
    unfold c at hc; unfold v
    cases h : vo a0 k1 with
    | none => rw [h] at hc; cases hc
    | some x => rfl
  unfold vo at e
  rw [e]; rfl
end Go.FG.Pu.laws_heldFetchS

namespace Go.FG.Pu.laws_heldClientS
def r2 {R : Type} (N : Nat) (g : Row → Int → Int → Int → Option R) (k0 : Row → Int → Int → Int → Option R) (k1 : Row → Int → Int → Int → Option R) (x0 : Row) (x1 : Int) (x2 : Int) (x3 : Int) : Option R := bif (decide (x3 < (↑(List.length x0) : Int))) then (bif (decide (0 ≤ x3) && decide (x3 < (↑(List.length x0) : Int))) then (bif (cvI (cellAt x0 (Int.toNat x3) 0) != x1) then (k0 x0 x1 (-1) x3) else (bif (decide (0 ≤ x3) && decide (x3 < (↑(List.length x0) : Int))) then (bif (Pu.laws_markText.c (w64 (x1 + 1))) then (bif (!List.beq (ByteArray.toList (cvS (cellAt x0 (Int.toNat x3) 1))) (ByteArray.toList (Pu.laws_markText.v (w64 (x1 + 1))))) then (k0 x0 (w64 (x1 + 1)) (-1) x3) else (bif (decide (0 ≤ x3) && decide (x3 < (↑(List.length x0) : Int))) then (bif (cvI (cellAt x0 (Int.toNat x3) 2) != w64 (w64 (x1 + 1) + 1)) then (k0 x0 (w64 (w64 (x1 + 1) + 1)) (-1) x3) else (bif (decide (0 ≤ x3) && decide (x3 < (↑(List.length x0) : Int))) then (bif (cvI (cellAt x0 (Int.toNat x3) 3) != w64 (w64 (w64 (x1 + 1) + 1) + 1)) then (k0 x0 (w64 (w64 (w64 (x1 + 1) + 1) + 1)) (-1) x3) else (bif (decide (0 ≤ x3) && decide (x3 < (↑(List.length x0) : Int))) then (bif (cvI (cellAt x0 (Int.toNat x3) 4) != w64 (w64 (w64 (w64 (x1 + 1) + 1) + 1) + 1)) then (k0 x0 (w64 (w64 (w64 (w64 (x1 + 1) + 1) + 1) + 1)) (-1) x3) else (bif (decide (0 ≤ x3) && decide (x3 < (↑(List.length x0) : Int))) then (bif (Pu.laws_markText.c (w64 (w64 (w64 (w64 (w64 (x1 + 1) + 1) + 1) + 1) + 1))) then (bif (!List.beq (ByteArray.toList (cvS (cellAt x0 (Int.toNat x3) 5))) (ByteArray.toList (Pu.laws_markText.v (w64 (w64 (w64 (w64 (w64 (x1 + 1) + 1) + 1) + 1) + 1))))) then (k0 x0 (w64 (w64 (w64 (w64 (w64 (x1 + 1) + 1) + 1) + 1) + 1)) (-1) x3) else (bif (decide (0 ≤ x3) && decide (x3 < (↑(List.length x0) : Int))) then (bif (cvI (cellAt x0 (Int.toNat x3) 6) != w64 (w64 (w64 (w64 (w64 (w64 (x1 + 1) + 1) + 1) + 1) + 1) + 1)) then (k0 x0 (w64 (w64 (w64 (w64 (w64 (w64 (x1 + 1) + 1) + 1) + 1) + 1) + 1)) (-1) x3) else (g x0 (w64 (w64 (w64 (w64 (w64 (w64 (w64 (x1 + 1) + 1) + 1) + 1) + 1) + 1) + 1)) x2 (w64 (x3 + 1)))) else (none))) else (none)) else (none))) else (none))) else (none))) else (none))) else (none)) else (none))) else (none)) else (k1 x0 x1 x2 x3)
def l2 {R : Type} (N : Nat) (k0 : Row → Int → Int → Int → Option R) (k1 : Row → Int → Int → Int → Option R) : Nat → Row → Int → Int → Int → Option R
  | 0 => (fun _ _ _ _ => none)
  | n + 1 => (fun x0 x1 x2 x3 => r2 N (l2 N k0 k1 n) k0 k1 x0 x1 x2 x3)
def b {R : Type} (N : Nat) (kr : Int → Option R) (a0 : Row) (k1 : Int) : Option R := l2 N (fun y4 y5 y6 y7 => kr y6) (fun y8 y9 y10 y11 => kr y9) N a0 k1 0 0
theorem q2_bind {R S : Type} (f : R → Option S) (N : Nat) (k0 : Row → Int → Int → Int → Option R) (k1 : Row → Int → Int → Int → Option R) : ∀ n : Nat, (∀ (x0 : Row) (x1 : Int) (x2 : Int) (x3 : Int), Option.bind (l2 N k0 k1 n x0 x1 x2 x3) f = l2 N (fun y0 y1 y2 y3 => (Option.bind (k0 y0 y1 y2 y3) f)) (fun y0 y1 y2 y3 => (Option.bind (k1 y0 y1 y2 y3) f)) n x0 x1 x2 x3) := by
  intro n
  induction n with
  | zero => exact (fun _ _ _ _ => rfl)
  | succ n ih =>
    intro x0 x1 x2 x3
    simp only [l2, r2, Lib.cond_bind, Lib.some_bind, Lib.none_bind, ih]
theorem l2_bind {R S : Type} (f : R → Option S) (N : Nat) (k0 : Row → Int → Int → Int → Option R) (k1 : Row → Int → Int → Int → Option R) (n : Nat) (x0 : Row) (x1 : Int) (x2 : Int) (x3 : Int) : Option.bind (l2 N k0 k1 n x0 x1 x2 x3) f = l2 N (fun y0 y1 y2 y3 => (Option.bind (k0 y0 y1 y2 y3) f)) (fun y0 y1 y2 y3 => (Option.bind (k1 y0 y1 y2 y3) f)) n x0 x1 x2 x3 := (q2_bind f N k0 k1 n) x0 x1 x2 x3
theorem b_bind {R : Type} (N : Nat) (kr : Int → Option R) (a0 : Row) (k1 : Int) : b N kr a0 k1 = Option.bind (b N (fun r0 => some (r0)) a0 k1) (fun p => kr p) := by
  unfold b; simp only [Lib.cond_bind, Lib.some_bind, Lib.none_bind, l2_bind]
def vo (a0 : Row) (k1 : Int) : Option (Int) := b Lib.big (fun r0 => some (r0)) a0 k1
def c (a0 : Row) (k1 : Int) : Bool := Option.isSome (vo a0 k1)
def v (a0 : Row) (k1 : Int) : Int := Option.getD (vo a0 k1) (0)
theorem out (a0 : Row) (k1 : Int) {x : Int} (h : vo a0 k1 = some x) : c a0 k1 = true ∧ v a0 k1 = x := by
  unfold c v; rw [h]; exact ⟨rfl, rfl⟩
theorem b_eq {R : Type} (kr : Int → Option R) (a0 : Row) (k1 : Int) (hc : c a0 k1 = true) : ∃ N, b N kr a0 k1 = kr (v a0 k1) := by
  refine ⟨Lib.big, ?_⟩
  rw [b_bind]
  have e : vo a0 k1 = some (v a0 k1) := by
    unfold c at hc; unfold v
    cases h : vo a0 k1 with
    | none => rw [h] at hc; cases hc
    | some x => rfl
  unfold vo at e
  rw [e]; rfl
end Go.FG.Pu.laws_heldClientS

namespace Go.FG.Pu.laws_heldProxy
def b {R : Type} (kr : Int → Option R) (a0_0 : Int) (a0_1 : Row) (a0_2 : Row) (a0_3 : Row) (a0_4 : Row) (a0_5 : Int) (a0_6 : Row) (a0_7 : Row) (a0_8 : Int) (k1 : Int) : Option R := bif (Pu.laws_heldEntryS.c a0_1 k1) then (bif (decide (Pu.laws_heldEntryS.v a0_1 k1 < 0)) then (kr (-1)) else (bif (Pu.laws_heldPolicy.c a0_2 a0_3 a0_4 a0_5 (Pu.laws_heldEntryS.v a0_1 k1)) then (bif (decide (Pu.laws_heldPolicy.v a0_2 a0_3 a0_4 a0_5 (Pu.laws_heldEntryS.v a0_1 k1) < 0)) then (kr (-1)) else (bif (Pu.laws_heldFetchS.c a0_6 (Pu.laws_heldPolicy.v a0_2 a0_3 a0_4 a0_5 (Pu.laws_heldEntryS.v a0_1 k1))) then (bif (decide (Pu.laws_heldFetchS.v a0_6 (Pu.laws_heldPolicy.v a0_2 a0_3 a0_4 a0_5 (Pu.laws_heldEntryS.v a0_1 k1)) < 0)) then (kr (-1)) else (bif (Pu.laws_heldClientS.c a0_7 (Pu.laws_heldFetchS.v a0_6 (Pu.laws_heldPolicy.v a0_2 a0_3 a0_4 a0_5 (Pu.laws_heldEntryS.v a0_1 k1)))) then (bif (decide (Pu.laws_heldClientS.v a0_7 (Pu.laws_heldFetchS.v a0_6 (Pu.laws_heldPolicy.v a0_2 a0_3 a0_4 a0_5 (Pu.laws_heldEntryS.v a0_1 k1))) < 0)) then (kr (-1)) else (kr (Pu.laws_heldClientS.v a0_7 (Pu.laws_heldFetchS.v a0_6 (Pu.laws_heldPolicy.v a0_2 a0_3 a0_4 a0_5 (Pu.laws_heldEntryS.v a0_1 k1)))))) else (none))) else (none))) else (none))) else (none)
theorem b_bind {R : Type} (kr : Int → Option R) (a0_0 : Int) (a0_1 : Row) (a0_2 : Row) (a0_3 : Row) (a0_4 : Row) (a0_5 : Int) (a0_6 : Row) (a0_7 : Row) (a0_8 : Int) (k1 : Int) : b kr a0_0 a0_1 a0_2 a0_3 a0_4 a0_5 a0_6 a0_7 a0_8 k1 = Option.bind (b (fun r0 => some (r0)) a0_0 a0_1 a0_2 a0_3 a0_4 a0_5 a0_6 a0_7 a0_8 k1) (fun p => kr p) := by
  unfold b; simp only [Lib.cond_bind, Lib.some_bind, Lib.none_bind]
def vo (a0_0 : Int) (a0_1 : Row) (a0_2 : Row) (a0_3 : Row) (a0_4 : Row) (a0_5 : Int) (a0_6 : Row) (a0_7 : Row) (a0_8 : Int) (k1 : Int) : Option (Int) := b (fun r0 => some (r0)) a0_0 a0_1 a0_2 a0_3 a0_4 a0_5 a0_6 a0_7 a0_8 k1
def c (a0_0 : Int) (a0_1 : Row) (a0_2 : Row) (a0_3 : Row) (a0_4 : Row) (a0_5 : Int) (a0_6 : Row) (a0_7 : Row) (a0_8 : Int) (k1 : Int) : Bool := Option.isSome (vo a0_0 a0_1 a0_2 a0_3 a0_4 a0_5 a0_6 a0_7 a0_8 k1)
def v (a0_0 : Int) (a0_1 : Row) (a0_2 : Row) (a0_3 : Row) (a0_4 : Row) (a0_5 : Int) (a0_6 : Row) (a0_7 : Row) (a0_8 : Int) (k1 : Int) : Int := Option.getD (vo a0_0 a0_1 a0_2 a0_3 a0_4 a0_5 a0_6 a0_7 a0_8 k1) (0)
theorem out (a0_0 : Int) (a0_1 : Row) (a0_2 : Row) (a0_3 : Row) (a0_4 : Row) (a0_5 : Int) (a0_6 : Row) (a0_7 : Row) (a0_8 : Int) (k1 : Int) {x : Int} (h : vo a0_0 a0_1 a0_2 a0_3 a0_4 a0_5 a0_6 a0_7 a0_8 k1 = some x) : c a0_0 a0_1 a0_2 a0_3 a0_4 a0_5 a0_6 a0_7 a0_8 k1 = true ∧ v a0_0 a0_1 a0_2 a0_3 a0_4 a0_5 a0_6 a0_7 a0_8 k1 = x := by
  unfold c v; rw [h]; exact ⟨rfl, rfl⟩
theorem b_eq {R : Type} (kr : Int → Option R) (a0_0 : Int) (a0_1 : Row) (a0_2 : Row) (a0_3 : Row) (a0_4 : Row) (a0_5 : Int) (a0_6 : Row) (a0_7 : Row) (a0_8 : Int) (k1 : Int) (hc : c a0_0 a0_1 a0_2 a0_3 a0_4 a0_5 a0_6 a0_7 a0_8 k1 = true) : b kr a0_0 a0_1 a0_2 a0_3 a0_4 a0_5 a0_6 a0_7 a0_8 k1 = kr (v a0_0 a0_1 a0_2 a0_3 a0_4 a0_5 a0_6 a0_7 a0_8 k1) := by
  rw [b_bind]
  have e : vo a0_0 a0_1 a0_2 a0_3 a0_4 a0_5 a0_6 a0_7 a0_8 k1 = some (v a0_0 a0_1 a0_2 a0_3 a0_4 a0_5 a0_6 a0_7 a0_8 k1) := by
    unfold c at hc; unfold v
    cases h : vo a0_0 a0_1 a0_2 a0_3 a0_4 a0_5 a0_6 a0_7 a0_8 k1 with
    | none => rw [h] at hc; cases hc
    | some x => rfl
  unfold vo at e
  rw [e]; rfl
end Go.FG.Pu.laws_heldProxy

namespace Go.FG.Pu.laws_FnExactProxyNew
def b {R : Type} (kr : Bool → Option R)  : Option R := kr true
def v  : Bool := (true)
theorem b_eq {R : Type} (kr : Bool → Option R)  : b kr  = kr v := by
  first | rfl | (unfold b v; simp only [Bool.cond_eq_ite]; (repeat' split) <;> rfl)
end Go.FG.Pu.laws_FnExactProxyNew

