/- Functions of the program, told as functions of numbers, texts and lists, and what each comes to. No condition but those that each states. -/
import Derived.Test.YtijidheebmbkcaaGreatLib
set_option linter.unusedVariables false
set_option linter.unusedSimpArgs false
set_option maxRecDepth 100000
namespace Go.FG
abbrev F_riii (R : Type) := Row -> Int -> Int -> Int -> Option R
abbrev F_siis (R : Type) := ByteArray -> Int -> Int -> ByteArray -> Option R
abbrev F_rir (R : Type) := Row -> Int -> Row -> Option R
abbrev F_iii (R : Type) := Int -> Int -> Int -> Option R
abbrev F_iiir (R : Type) := Int -> Int -> Int -> Row -> Option R
abbrev F_ri (R : Type) := Row -> Int -> Option R
abbrev F_rrri (R : Type) := Row -> Row -> Row -> Int -> Option R
abbrev F_irrrrirri (R : Type) := Int -> Row -> Row -> Row -> Row -> Int -> Row -> Row -> Int -> Option R
abbrev F_iriii (R : Type) := Int -> Row -> Int -> Int -> Int -> Option R
abbrev F_iriiir (R : Type) := Int -> Row -> Int -> Int -> Int -> Row -> Option R
abbrev F_rsbi (R : Type) := Row -> ByteArray -> Bool -> Int -> Option R
abbrev F_biiri (R : Type) := Bool -> Int -> Int -> Row -> Int -> Option R
abbrev F_biri (R : Type) := Bool -> Int -> Row -> Int -> Option R
abbrev F_birrrir (R : Type) := Bool -> Int -> Row -> Row -> Row -> Int -> Row -> Option R
abbrev F_isii (R : Type) := Int -> ByteArray -> Int -> Int -> Option R
abbrev F_isi (R : Type) := Int -> ByteArray -> Int -> Option R
abbrev F_iiiir (R : Type) := Int -> Int -> Int -> Int -> Row -> Option R
abbrev F_siiir (R : Type) := ByteArray -> Int -> Int -> Int -> Row -> Option R
abbrev F_rsir (R : Type) := Row -> ByteArray -> Int -> Row -> Option R
abbrev F_siiri (R : Type) := ByteArray -> Int -> Int -> Row -> Int -> Option R
abbrev F_rrris (R : Type) := Row -> Row -> Row -> Int -> ByteArray -> Option R
abbrev F_risiisr (R : Type) := Row -> Int -> ByteArray -> Int -> Int -> ByteArray -> Row -> Option R
abbrev F_iriiiiiiirrrrrr (R : Type) := Int -> Row -> Int -> Int -> Int -> Int -> Int -> Int -> Int -> Row -> Row -> Row -> Row -> Row -> Row -> Option R
abbrev F_riiii (R : Type) := Row -> Int -> Int -> Int -> Int -> Option R
abbrev F_riiiir (R : Type) := Row -> Int -> Int -> Int -> Int -> Row -> Option R
abbrev F_riir (R : Type) := Row -> Int -> Int -> Row -> Option R
abbrev F_ririi (R : Type) := Row -> Int -> Row -> Int -> Int -> Option R
abbrev F_rsiii (R : Type) := Row -> ByteArray -> Int -> Int -> Int -> Option R
abbrev F_brriiriiri (R : Type) := Bool -> Row -> Row -> Int -> Int -> Row -> Int -> Int -> Row -> Int -> Option R
abbrev F_briiri (R : Type) := Bool -> Row -> Int -> Int -> Row -> Int -> Option R
abbrev F_biirrrir (R : Type) := Bool -> Int -> Int -> Row -> Row -> Row -> Int -> Row -> Option R
abbrev F_niiiiiir (R : Type) := Nat -> Int -> Int -> Int -> Int -> Int -> Int -> Row -> Option R
abbrev F_siiiir (R : Type) := ByteArray -> Int -> Int -> Int -> Int -> Row -> Option R
abbrev F_siir (R : Type) := ByteArray -> Int -> Int -> Row -> Option R
abbrev F_sirii (R : Type) := ByteArray -> Int -> Row -> Int -> Int -> Option R
abbrev F_isiisr (R : Type) := Int -> ByteArray -> Int -> Int -> ByteArray -> Row -> Option R
abbrev F_iriiiiiiiirrrrrr (R : Type) := Int -> Row -> Int -> Int -> Int -> Int -> Int -> Int -> Int -> Int -> Row -> Row -> Row -> Row -> Row -> Row -> Option R
abbrev F_rrbi (R : Type) := Row -> Row -> Bool -> Int -> Option R
abbrev F_is (R : Type) := Int -> ByteArray -> Option R
abbrev F_iir (R : Type) := Int -> Int -> Row -> Option R
abbrev F_ir (R : Type) := Int -> Row -> Option R
abbrev F_irrr (R : Type) := Int -> Row -> Row -> Row -> Option R
abbrev F_irrrrrr (R : Type) := Int -> Row -> Row -> Row -> Row -> Row -> Row -> Option R
abbrev F_biirrrrirri (R : Type) := Bool -> Int -> Int -> Row -> Row -> Row -> Row -> Int -> Row -> Row -> Int -> Option R
abbrev F_ibiirrrrirrissiii (R : Type) := Int -> Bool -> Int -> Int -> Row -> Row -> Row -> Row -> Int -> Row -> Row -> Int -> ByteArray -> ByteArray -> Int -> Int -> Int -> Option R
abbrev F_ssiii (R : Type) := ByteArray -> ByteArray -> Int -> Int -> Int -> Option R
abbrev F_isiiisi (R : Type) := Int -> ByteArray -> Int -> Int -> Int -> ByteArray -> Int -> Option R
end Go.FG

namespace Go.FG.U49
def b {R : Type} (kr : Int -> Option R) (a0 : ByteArray) (a1 a2 : Int) (a3 : ByteArray) (a4 : Int) : Option R := bif decide (w64 (a4 - (a0.size : Int)) < 0) then kr (-1) else bif decide (w64 (w64 (a4 - (a0.size : Int)) - (a3.size : Int)) < 0) then kr (-1) else kr (w64 (w64 (a4 - (a0.size : Int)) - (a3.size : Int)))
def v (a0 : ByteArray) (a1 a2 : Int) (a3 : ByteArray) (a4 : Int) : Int := bif decide (w64 (a4 - (a0.size : Int)) < 0) then -1 else bif decide (w64 (w64 (a4 - (a0.size : Int)) - (a3.size : Int)) < 0) then -1 else w64 (w64 (a4 - (a0.size : Int)) - (a3.size : Int))
theorem b_eq {R : Type} (kr : Int -> Option R) (a0 : ByteArray) (a1 a2 : Int) (a3 : ByteArray) (a4 : Int) : b kr a0 a1 a2 a3 a4 = kr (v a0 a1 a2 a3 a4) := by
 first | rfl | (unfold b v; simp only [Bool.cond_eq_ite]; (repeat' split) <;> rfl)
end Go.FG.U49

namespace Go.FG.U16
def r5 {R : Type} (N : Nat) (g k0 k1 : F_riii R) (x0 : Row) (x1 x2 x3 : Int) : Option R := bif decide (x3 < (x0.length : Int)) then bif decide (0 <= x3) && decide (x3 < (x0.length : Int)) then bif decide (U49.v (cvS (cellAt x0 x3.toNat 0)) (cvI (cellAt x0 x3.toNat 1)) (cvI (cellAt x0 x3.toNat (1 + 1))) (cvS (cellAt x0 x3.toNat (1 + 1 + 1))) x1 < 0) then k0 x0 (U49.v (cvS (cellAt x0 x3.toNat 0)) (cvI (cellAt x0 x3.toNat 1)) (cvI (cellAt x0 x3.toNat (1 + 1))) (cvS (cellAt x0 x3.toNat (1 + 1 + 1))) x1) (-1) x3 else g x0 (U49.v (cvS (cellAt x0 x3.toNat 0)) (cvI (cellAt x0 x3.toNat 1)) (cvI (cellAt x0 x3.toNat (1 + 1))) (cvS (cellAt x0 x3.toNat (1 + 1 + 1))) x1) x2 (w64 (x3 + 1)) else none else k1 x0 x1 x2 x3
def l5 {R : Type} (N : Nat) (k0 k1 : F_riii R) : Nat -> F_riii R
 | 0 => fun _ _ _ _ => none
 | n + 1 => fun x0 x1 x2 x3 => r5 N (l5 N k0 k1 n) k0 k1 x0 x1 x2 x3
theorem q5_bind {R S : Type} (f : R -> Option S) (N : Nat) (k0 k1 : F_riii R) : ∀ n : Nat, (∀ (x0 : Row) (x1 x2 x3 : Int), Option.bind (l5 N k0 k1 n x0 x1 x2 x3) f = l5 N (fun y0 y1 y2 y3 => Option.bind (k0 y0 y1 y2 y3) f) (fun y0 y1 y2 y3 => Option.bind (k1 y0 y1 y2 y3) f) n x0 x1 x2 x3) := by
 intro n
 induction n with
 | zero => exact fun _ _ _ _ => rfl
 | succ n ih =>
  intro x0 x1 x2 x3
  simp only [l5, r5, Lib.B1, Lib.B2, Lib.B3, Lib.B4, ih]
variable {R : Type} (N : Nat) (kr : Int -> Option R) (a0 : Row) (a1 : Int)
def b : Option R := bif decide (w64 (a1 - (a0.length : Int)) < 0) then kr (-1) else l5 N (fun y4 y5 y6 y7 => kr y6) (fun y8 y9 y10 y11 => kr y9) N a0 (w64 (a1 - (a0.length : Int))) 0 0
theorem b_bind : b N kr a0 a1 = Option.bind (b N (fun r0 => some r0) a0 a1) (fun p => kr p) := by
 unfold b; simp only [Lib.B1, Lib.B2, Lib.B3, Lib.B4, q5_bind]
def vo := b Lib.big (fun r0 => some r0) a0 a1
def c : Bool := Option.isSome (vo a0 a1)
def v := Option.getD (vo a0 a1) (0)
theorem out {x} (h : vo a0 a1 = some x) : c a0 a1 = true /\ v a0 a1 = x := Lib.out_ h
theorem b_eq (hc : c a0 a1 = true) : ∃ N, b N kr a0 a1 = Lib.ap (fun p => kr p) (v a0 a1) := ⟨Lib.big, Lib.bq hc (by apply b_bind)⟩
end Go.FG.U16

namespace Go.FG.U54
def b {R : Type} (kr : F_siis R) (a0 : ByteArray) (a1 a2 : Int) (a3 : ByteArray) : Option R := kr a0 a1 a2 a3
def v (a0 : ByteArray) (a1 a2 : Int) (a3 : ByteArray) : ByteArray × Int × Int × ByteArray := (a0, a1, a2, a3)
theorem b_eq {R : Type} (kr : F_siis R) (a0 : ByteArray) (a1 a2 : Int) (a3 : ByteArray) : b kr a0 a1 a2 a3 = kr ((v a0 a1 a2 a3).1) ((v a0 a1 a2 a3).2.1) ((v a0 a1 a2 a3).2.2.1) ((v a0 a1 a2 a3).2.2.2) := by
 first | rfl | (unfold b v; simp only [Bool.cond_eq_ite]; (repeat' split) <;> rfl)
end Go.FG.U54

namespace Go.FG.U18
def r3 {R : Type} (N : Nat) (g k0 : F_rir R) (x0 : Row) (x1 : Int) (x2 : Row) : Option R := bif decide (x1 < (x0.length : Int)) then bif decide (0 <= x1) && decide (x1 < (x0.length : Int)) then bif decide (0 <= x1) && decide (x1 < (x2.length : Int)) then g x0 (w64 (x1 + 1)) (setC x2 x1.toNat 0 [CV.s (cvS (cellAt x0 x1.toNat 0)), CV.i IntKind.i64 (cvI (cellAt x0 x1.toNat 1)), CV.i IntKind.i64 (cvI (cellAt x0 x1.toNat (1 + 1))), CV.s (cvS (cellAt x0 x1.toNat (1 + 1 + 1)))]) else none else none else k0 x0 x1 x2
def l3 {R : Type} (N : Nat) (k0 : F_rir R) : Nat -> F_rir R
 | 0 => fun _ _ _ => none
 | n + 1 => fun x0 x1 x2 => r3 N (l3 N k0 n) k0 x0 x1 x2
theorem q3_bind {R S : Type} (f : R -> Option S) (N : Nat) (k0 : F_rir R) : ∀ n : Nat, (∀ (x0 : Row) (x1 : Int) (x2 : Row), Option.bind (l3 N k0 n x0 x1 x2) f = l3 N (fun y0 y1 y2 => Option.bind (k0 y0 y1 y2) f) n x0 x1 x2) := by
 intro n
 induction n with
 | zero => exact fun _ _ _ => rfl
 | succ n ih =>
  intro x0 x1 x2
  simp only [l3, r3, Lib.B1, Lib.B2, Lib.B3, Lib.B4, ih]
variable {R : Type} (N : Nat) (kr : Row -> Option R) (a0 : Row)
def b : Option R := bif decide ((a0.length : Int) = (a0.length : Int)) && roomy (Int.toNat (a0.length : Int)) 48 then l3 N (fun y3 y4 y5 => kr y5) N a0 0 (zeros [Ck.s, Ck.i IntKind.i64, Ck.i IntKind.i64, Ck.s] (Int.toNat (a0.length : Int))) else none
theorem b_bind : b N kr a0 = Option.bind (b N (fun r0 => some r0) a0) (fun p => kr p) := by
 unfold b; simp only [Lib.B1, Lib.B2, Lib.B3, Lib.B4, q3_bind]
def vo := b Lib.big (fun r0 => some r0) a0
def c : Bool := Option.isSome (vo a0)
def v := Option.getD (vo a0) ([])
theorem out {x} (h : vo a0 = some x) : c a0 = true /\ v a0 = x := Lib.out_ h
theorem b_eq (hc : c a0 = true) : ∃ N, b N kr a0 = Lib.ap (fun p => kr p) (v a0) := ⟨Lib.big, Lib.bq hc (by apply b_bind)⟩
end Go.FG.U18

namespace Go.FG.U113
def r3 {R : Type} (N : Nat) (g : F_iii R) (g1 : F_iiir R) (k0 : F_iii R) (k1 : F_iiir R) (x0 x1 x2 : Int) : Option R := bif decide (x0 < 3) then g1 (w64 (x0 + 1)) x1 x2 ([] ++ List.set (zeros [Ck.l 3] 1) 0 [CV.l 3 (zeros [Ck.i IntKind.i64] (Int.toNat 16))]) else k0 x0 x1 x2
def r3a {R : Type} (N : Nat) (g : F_iii R) (g1 : F_iiir R) (k0 : F_iii R) (k1 : F_iiir R) (x3 x4 x5 : Int) (x6 : Row) : Option R := bif decide (x3 < 3) then bif roomy (x6.length + List.length (List.set (zeros [Ck.l 3] 1) 0 [CV.l 3 (zeros [Ck.i IntKind.i64] (Int.toNat 16))])) 24 then g1 (w64 (x3 + 1)) x4 x5 (x6 ++ List.set (zeros [Ck.l 3] 1) 0 [CV.l 3 (zeros [Ck.i IntKind.i64] (Int.toNat 16))]) else none else k1 x3 x4 x5 x6
def l3a {R : Type} (N : Nat) (k0 : F_iii R) (k1 : F_iiir R) : Nat -> F_iiir R
 | 0 => fun _ _ _ _ => none
 | n + 1 => fun x3 x4 x5 x6 => r3a N (fun x0 x1 x2 => none) (l3a N k0 k1 n) k0 k1 x3 x4 x5 x6
def l3 {R : Type} (N : Nat) (k0 : F_iii R) (k1 : F_iiir R) : Nat -> F_iii R
 | 0 => fun _ _ _ => none
 | n + 1 => fun x0 x1 x2 => r3 N (l3 N k0 k1 n) (l3a N k0 k1 n) k0 k1 x0 x1 x2
theorem q3_bind {R S : Type} (f : R -> Option S) (N : Nat) (k0 : F_iii R) (k1 : F_iiir R) : ∀ n : Nat, (∀ (x0 x1 x2 : Int), Option.bind (l3 N k0 k1 n x0 x1 x2) f = l3 N (fun y0 y1 y2 => Option.bind (k0 y0 y1 y2) f) (fun y0 y1 y2 y3 => Option.bind (k1 y0 y1 y2 y3) f) n x0 x1 x2) /\ (∀ (x3 x4 x5 : Int) (x6 : Row), Option.bind (l3a N k0 k1 n x3 x4 x5 x6) f = l3a N (fun y0 y1 y2 => Option.bind (k0 y0 y1 y2) f) (fun y0 y1 y2 y3 => Option.bind (k1 y0 y1 y2 y3) f) n x3 x4 x5 x6) := by
 intro n
 induction n with
 | zero => exact ⟨(fun _ _ _ => rfl), (fun _ _ _ _ => rfl)⟩
 | succ n ih =>
  refine ⟨?_, ?_⟩
  ·intro x0 x1 x2
   simp only [l3, r3, Lib.B1, Lib.B2, Lib.B3, Lib.B4, ih.1, ih.2]
  ·intro x3 x4 x5 x6
   simp only [l3a, r3a, Lib.B1, Lib.B2, Lib.B3, Lib.B4, ih.1, ih.2]
theorem l3_bind {R S : Type} (f : R -> Option S) (N : Nat) (k0 : F_iii R) (k1 : F_iiir R) (n : Nat) (x0 x1 x2 : Int) : Option.bind (l3 N k0 k1 n x0 x1 x2) f = l3 N (fun y0 y1 y2 => Option.bind (k0 y0 y1 y2) f) (fun y0 y1 y2 y3 => Option.bind (k1 y0 y1 y2 y3) f) n x0 x1 x2 := (q3_bind f N k0 k1 n).1 x0 x1 x2
theorem l3a_bind {R S : Type} (f : R -> Option S) (N : Nat) (k0 : F_iii R) (k1 : F_iiir R) (n : Nat) (x3 x4 x5 : Int) (x6 : Row) : Option.bind (l3a N k0 k1 n x3 x4 x5 x6) f = l3a N (fun y0 y1 y2 => Option.bind (k0 y0 y1 y2) f) (fun y0 y1 y2 y3 => Option.bind (k1 y0 y1 y2 y3) f) n x3 x4 x5 x6 := (q3_bind f N k0 k1 n).2 x3 x4 x5 x6
variable {R : Type} (N : Nat) (kr : F_ri R)
def b : Option R := l3 N (fun y14 y15 y16 => kr [] y16) (fun y17 y18 y19 y20 => kr y20 y19) N 0 0 0
theorem b_bind : b N kr  = Option.bind (b N (fun r0 r1 => some (r0, r1)) ) (fun p => kr p.1 p.2) := by
 unfold b; simp only [Lib.B1, Lib.B2, Lib.B3, Lib.B4, l3_bind, l3a_bind]
def vo := b Lib.big (fun r0 r1 => some (r0, r1))
def c : Bool := Option.isSome (vo )
def v := Option.getD (vo ) ([], 0)
theorem b_eq (hc : c  = true) : ∃ N, b N kr  = Lib.ap (fun p => kr p.1 p.2) v := ⟨Lib.big, Lib.bq hc (by apply b_bind)⟩
end Go.FG.U113

namespace Go.FG.U87
def b {R : Type} (kr : F_rrri R)  : Option R := kr [] [] ([] ++ List.set (zeros [Ck.l 3] 1) 0 [CV.l 3 (zeros [Ck.i IntKind.i64] (Int.toNat 16))] ++ List.set (zeros [Ck.l 3] 1) 0 [CV.l 3 (zeros [Ck.i IntKind.i64] (Int.toNat 16))] ++ List.set (zeros [Ck.l 3] 1) 0 [CV.l 3 (zeros [Ck.i IntKind.i64] (Int.toNat 16))]) 0
def v  : Row × Row × Row × Int := ([], [], [] ++ List.set (zeros [Ck.l 3] 1) 0 [CV.l 3 (zeros [Ck.i IntKind.i64] (Int.toNat 16))] ++ List.set (zeros [Ck.l 3] 1) 0 [CV.l 3 (zeros [Ck.i IntKind.i64] (Int.toNat 16))] ++ List.set (zeros [Ck.l 3] 1) 0 [CV.l 3 (zeros [Ck.i IntKind.i64] (Int.toNat 16))], 0)
theorem b_eq {R : Type} (kr : F_rrri R)  : b kr  = kr v.1 v.2.1 v.2.2.1 v.2.2.2 := by
 first | rfl | (unfold b v; simp only [Bool.cond_eq_ite]; (repeat' split) <;> rfl)
end Go.FG.U87

namespace Go.FG.U50
def b {R : Type} (kr : F_irrrrirri R)  : Option R := kr 1 [] [] [] ([] ++ List.set (zeros [Ck.l 3] 1) 0 [CV.l 3 (zeros [Ck.i IntKind.i64] (Int.toNat 16))] ++ List.set (zeros [Ck.l 3] 1) 0 [CV.l 3 (zeros [Ck.i IntKind.i64] (Int.toNat 16))] ++ List.set (zeros [Ck.l 3] 1) 0 [CV.l 3 (zeros [Ck.i IntKind.i64] (Int.toNat 16))]) 0 [] [] 0
def v  : Int × Row × Row × Row × Row × Int × Row × Row × Int := (1, [], [], [], [] ++ List.set (zeros [Ck.l 3] 1) 0 [CV.l 3 (zeros [Ck.i IntKind.i64] (Int.toNat 16))] ++ List.set (zeros [Ck.l 3] 1) 0 [CV.l 3 (zeros [Ck.i IntKind.i64] (Int.toNat 16))] ++ List.set (zeros [Ck.l 3] 1) 0 [CV.l 3 (zeros [Ck.i IntKind.i64] (Int.toNat 16))], 0, [], [], 0)
theorem b_eq {R : Type} (kr : F_irrrrirri R)  : b kr  = kr v.1 v.2.1 v.2.2.1 v.2.2.2.1 v.2.2.2.2.1 v.2.2.2.2.2.1 v.2.2.2.2.2.2.1 v.2.2.2.2.2.2.2.1 v.2.2.2.2.2.2.2.2 := by
 first | rfl | (unfold b v; simp only [Bool.cond_eq_ite]; (repeat' split) <;> rfl)
end Go.FG.U50

namespace Go.FG.U60
def b {R : Type} (kr : Bool -> Option R) (a0 a1 a2 : Int) : Option R := bif decide (a0 ≥ a1) then kr (decide (a0 <= a2)) else kr false
def v (a0 a1 a2 : Int) : Bool := bif decide (a0 ≥ a1) then decide (a0 <= a2) else false
theorem b_eq {R : Type} (kr : Bool -> Option R) (a0 a1 a2 : Int) : b kr a0 a1 a2 = kr (v a0 a1 a2) := by
 first | rfl | (unfold b v; simp only [Bool.cond_eq_ite]; (repeat' split) <;> rfl)
end Go.FG.U60

namespace Go.FG.U88
def b {R : Type} (kr : Bool -> Option R) (a0 : ByteArray) : Option R := kr (U60.v (a0.size : Int) 1 30)
def v (a0 : ByteArray) : Bool := (U60.v (a0.size : Int) 1 30)
theorem b_eq {R : Type} (kr : Bool -> Option R) (a0 : ByteArray) : b kr a0 = kr (v a0) := by
 first | rfl | (unfold b v; simp only [Bool.cond_eq_ite]; (repeat' split) <;> rfl)
end Go.FG.U88

namespace Go.FG.U51
def b {R : Type} (kr : Bool -> Option R) (a0 : ByteArray) (a1 a2 : Int) (a3 : ByteArray) : Option R := bif U88.v a0 then bif U60.v a1 0 1000000000 then bif U60.v a2 1 999999 then kr (decide ((a3.size : Int) <= 400)) else kr false else kr false else kr false
def v (a0 : ByteArray) (a1 a2 : Int) (a3 : ByteArray) : Bool := bif U88.v a0 then bif U60.v a1 0 1000000000 then bif U60.v a2 1 999999 then decide ((a3.size : Int) <= 400) else false else false else false
theorem b_eq {R : Type} (kr : Bool -> Option R) (a0 : ByteArray) (a1 a2 : Int) (a3 : ByteArray) : b kr a0 a1 a2 a3 = kr (v a0 a1 a2 a3) := by
 first | rfl | (unfold b v; simp only [Bool.cond_eq_ite]; (repeat' split) <;> rfl)
theorem rng {k : ByteArray} {s l : Int} {b : ByteArray} (h : v k s l b = true) : (1 <= k.size /\ k.size <= 30) /\ (0 <= s /\ s <= 1000000000) /\ (1 <= l /\ l <= 999999) /\ b.size <= 400 := by
 unfold v at h
 cases h1 : U88.v k <;> rw [h1] at h <;> simp only [cond_true, cond_false, Bool.false_eq_true] at h
 cases h2 : U60.v s 0 1000000000 <;> rw [h2] at h <;> simp only [cond_true, cond_false, Bool.false_eq_true] at h
 cases h3 : U60.v l 1 999999 <;> rw [h3] at h <;> simp only [cond_true, cond_false, Bool.false_eq_true] at h
 simp [U88.v, U60.v] at h1 h2 h3
 have := of_decide_eq_true h
 omega
end Go.FG.U51

namespace Go.FG.U52
def b {R : Type} (kr : Bool -> Option R) (a0 : ByteArray) (a1 a2 : Int) (a3 : ByteArray) (a4 : Int) : Option R := bif U51.v a0 a1 a2 a3 then bif U60.v a4 a1 1000000000 then kr (decide (w64 (a4 - a1) < a2)) else kr false else kr false
def v (a0 : ByteArray) (a1 a2 : Int) (a3 : ByteArray) (a4 : Int) : Bool := bif U51.v a0 a1 a2 a3 then bif U60.v a4 a1 1000000000 then decide (w64 (a4 - a1) < a2) else false else false
theorem b_eq {R : Type} (kr : Bool -> Option R) (a0 : ByteArray) (a1 a2 : Int) (a3 : ByteArray) (a4 : Int) : b kr a0 a1 a2 a3 a4 = kr (v a0 a1 a2 a3 a4) := by
 first | rfl | (unfold b v; simp only [Bool.cond_eq_ite]; (repeat' split) <;> rfl)
end Go.FG.U52

namespace Go.FG.U101
def r3 {R : Type} (N : Nat) (g : F_iriii R) (g1 : F_iriiir R) (k0 : F_iriii R) (k1 : F_iriiir R) (x0 : Int) (x1 : Row) (x2 x3 x4 : Int) : Option R := bif decide (x0 < (x1.length : Int)) then bif decide (0 <= x0) && decide (x0 < (x1.length : Int)) then bif roomy (List.length (zeros [Ck.i IntKind.i64] 0) + List.length (cvL (cellAt x1 x0.toNat 0))) 8 then g1 (w64 (x0 + 1)) x1 x2 x3 x4 ([] ++ List.set (zeros [Ck.l 3] 1) 0 [CV.l 3 (zeros [Ck.i IntKind.i64] 0 ++ cvL (cellAt x1 x0.toNat 0))]) else none else none else k0 x0 x1 x2 x3 x4
def r3a {R : Type} (N : Nat) (g : F_iriii R) (g1 : F_iriiir R) (k0 : F_iriii R) (k1 : F_iriiir R) (x5 : Int) (x6 : Row) (x7 x8 x9 : Int) (x10 : Row) : Option R := bif decide (x5 < (x6.length : Int)) then bif decide (0 <= x5) && decide (x5 < (x6.length : Int)) then bif roomy (List.length (zeros [Ck.i IntKind.i64] 0) + List.length (cvL (cellAt x6 x5.toNat 0))) 8 then bif roomy (x10.length + List.length (List.set (zeros [Ck.l 3] 1) 0 [CV.l 3 (zeros [Ck.i IntKind.i64] 0 ++ cvL (cellAt x6 x5.toNat 0))])) 24 then g1 (w64 (x5 + 1)) x6 x7 x8 x9 (x10 ++ List.set (zeros [Ck.l 3] 1) 0 [CV.l 3 (zeros [Ck.i IntKind.i64] 0 ++ cvL (cellAt x6 x5.toNat 0))]) else none else none else none else k1 x5 x6 x7 x8 x9 x10
def l3a {R : Type} (N : Nat) (k0 : F_iriii R) (k1 : F_iriiir R) : Nat -> F_iriiir R
 | 0 => fun _ _ _ _ _ _ => none
 | n + 1 => fun x5 x6 x7 x8 x9 x10 => r3a N (fun x0 x1 x2 x3 x4 => none) (l3a N k0 k1 n) k0 k1 x5 x6 x7 x8 x9 x10
def l3 {R : Type} (N : Nat) (k0 : F_iriii R) (k1 : F_iriiir R) : Nat -> F_iriii R
 | 0 => fun _ _ _ _ _ => none
 | n + 1 => fun x0 x1 x2 x3 x4 => r3 N (l3 N k0 k1 n) (l3a N k0 k1 n) k0 k1 x0 x1 x2 x3 x4
theorem q3_bind {R S : Type} (f : R -> Option S) (N : Nat) (k0 : F_iriii R) (k1 : F_iriiir R) : ∀ n : Nat, (∀ (x0 : Int) (x1 : Row) (x2 x3 x4 : Int), Option.bind (l3 N k0 k1 n x0 x1 x2 x3 x4) f = l3 N (fun y0 y1 y2 y3 y4 => Option.bind (k0 y0 y1 y2 y3 y4) f) (fun y0 y1 y2 y3 y4 y5 => Option.bind (k1 y0 y1 y2 y3 y4 y5) f) n x0 x1 x2 x3 x4) /\ (∀ (x5 : Int) (x6 : Row) (x7 x8 x9 : Int) (x10 : Row), Option.bind (l3a N k0 k1 n x5 x6 x7 x8 x9 x10) f = l3a N (fun y0 y1 y2 y3 y4 => Option.bind (k0 y0 y1 y2 y3 y4) f) (fun y0 y1 y2 y3 y4 y5 => Option.bind (k1 y0 y1 y2 y3 y4 y5) f) n x5 x6 x7 x8 x9 x10) := by
 intro n
 induction n with
 | zero => exact ⟨(fun _ _ _ _ _ => rfl), (fun _ _ _ _ _ _ => rfl)⟩
 | succ n ih =>
  refine ⟨?_, ?_⟩
  ·intro x0 x1 x2 x3 x4
   simp only [l3, r3, Lib.B1, Lib.B2, Lib.B3, Lib.B4, ih.1, ih.2]
  ·intro x5 x6 x7 x8 x9 x10
   simp only [l3a, r3a, Lib.B1, Lib.B2, Lib.B3, Lib.B4, ih.1, ih.2]
theorem l3_bind {R S : Type} (f : R -> Option S) (N : Nat) (k0 : F_iriii R) (k1 : F_iriiir R) (n : Nat) (x0 : Int) (x1 : Row) (x2 x3 x4 : Int) : Option.bind (l3 N k0 k1 n x0 x1 x2 x3 x4) f = l3 N (fun y0 y1 y2 y3 y4 => Option.bind (k0 y0 y1 y2 y3 y4) f) (fun y0 y1 y2 y3 y4 y5 => Option.bind (k1 y0 y1 y2 y3 y4 y5) f) n x0 x1 x2 x3 x4 := (q3_bind f N k0 k1 n).1 x0 x1 x2 x3 x4
theorem l3a_bind {R S : Type} (f : R -> Option S) (N : Nat) (k0 : F_iriii R) (k1 : F_iriiir R) (n : Nat) (x5 : Int) (x6 : Row) (x7 x8 x9 : Int) (x10 : Row) : Option.bind (l3a N k0 k1 n x5 x6 x7 x8 x9 x10) f = l3a N (fun y0 y1 y2 y3 y4 => Option.bind (k0 y0 y1 y2 y3 y4) f) (fun y0 y1 y2 y3 y4 y5 => Option.bind (k1 y0 y1 y2 y3 y4 y5) f) n x5 x6 x7 x8 x9 x10 := (q3_bind f N k0 k1 n).2 x5 x6 x7 x8 x9 x10
variable {R : Type} (N : Nat) (kr : F_ri R) (a0 : Row) (a1 : Int)
def b : Option R := l3 N (fun y22 y23 y24 y25 y26 => kr [] y26) (fun y27 y28 y29 y30 y31 y32 => kr y32 y31) N 0 a0 a1 0 a1
theorem b_bind : b N kr a0 a1 = Option.bind (b N (fun r0 r1 => some (r0, r1)) a0 a1) (fun p => kr p.1 p.2) := by
 unfold b; simp only [Lib.B1, Lib.B2, Lib.B3, Lib.B4, l3_bind, l3a_bind]
def vo := b Lib.big (fun r0 r1 => some (r0, r1)) a0 a1
def c : Bool := Option.isSome (vo a0 a1)
def v := Option.getD (vo a0 a1) ([], 0)
theorem out {x} (h : vo a0 a1 = some x) : c a0 a1 = true /\ v a0 a1 = x := Lib.out_ h
theorem b_eq (hc : c a0 a1 = true) : ∃ N, b N kr a0 a1 = Lib.ap (fun p => kr p.1 p.2) (v a0 a1) := ⟨Lib.big, Lib.bq hc (by apply b_bind)⟩
end Go.FG.U101

namespace Go.FG.U66
variable {R : Type} (kr : F_rrri R) (a0 a1 a2 : Row) (a3 : Int)
def b : Option R := bif roomy (List.length (zeros [Ck.s] 0) + a0.length) 16 then bif roomy (List.length (zeros [Ck.s] 0) + a1.length) 16 then bif U101.c a2 a3 then kr (zeros [Ck.s] 0 ++ a0) (zeros [Ck.s] 0 ++ a1) ((U101.v a2 a3).1) ((U101.v a2 a3).2) else none else none else none
def vo := b (fun r0 r1 r2 r3 => some (r0, r1, r2, r3)) a0 a1 a2 a3
def c : Bool := Option.isSome (vo a0 a1 a2 a3)
def v := Option.getD (vo a0 a1 a2 a3) ([], [], [], 0)
theorem out {x} (h : vo a0 a1 a2 a3 = some x) : c a0 a1 a2 a3 = true /\ v a0 a1 a2 a3 = x := Lib.out_ h
theorem b_eq (hc : c a0 a1 a2 a3 = true) : b kr a0 a1 a2 a3 = Lib.ap (fun p => kr p.1 p.2.1 p.2.2.1 p.2.2.2) (v a0 a1 a2 a3) := Lib.bq hc (by unfold vo b; simp only [Lib.B1, Lib.B2, Lib.B3, Lib.B4])
end Go.FG.U66

namespace Go.FG.U116
def r2 {R : Type} (N : Nat) (g k0 k1 : F_rsbi R) (x0 : Row) (x1 : ByteArray) (x2 : Bool) (x3 : Int) : Option R := bif decide (x3 < (x0.length : Int)) then bif decide (0 <= x3) && decide (x3 < (x0.length : Int)) then bif List.beq (ByteArray.toList (cvS (cellAt x0 x3.toNat 0))) (ByteArray.toList x1) then k0 x0 x1 true x3 else g x0 x1 x2 (w64 (x3 + 1)) else none else k1 x0 x1 x2 x3
def l2 {R : Type} (N : Nat) (k0 k1 : F_rsbi R) : Nat -> F_rsbi R
 | 0 => fun _ _ _ _ => none
 | n + 1 => fun x0 x1 x2 x3 => r2 N (l2 N k0 k1 n) k0 k1 x0 x1 x2 x3
theorem q2_bind {R S : Type} (f : R -> Option S) (N : Nat) (k0 k1 : F_rsbi R) : ∀ n : Nat, (∀ (x0 : Row) (x1 : ByteArray) (x2 : Bool) (x3 : Int), Option.bind (l2 N k0 k1 n x0 x1 x2 x3) f = l2 N (fun y0 y1 y2 y3 => Option.bind (k0 y0 y1 y2 y3) f) (fun y0 y1 y2 y3 => Option.bind (k1 y0 y1 y2 y3) f) n x0 x1 x2 x3) := by
 intro n
 induction n with
 | zero => exact fun _ _ _ _ => rfl
 | succ n ih =>
  intro x0 x1 x2 x3
  simp only [l2, r2, Lib.B1, Lib.B2, Lib.B3, Lib.B4, ih]
variable {R : Type} (N : Nat) (kr : Bool -> Option R) (a0 : Row) (a1 : ByteArray)
def b : Option R := l2 N (fun y4 y5 y6 y7 => kr y6) (fun y8 y9 y10 y11 => kr false) N a0 a1 false 0
theorem b_bind : b N kr a0 a1 = Option.bind (b N (fun r0 => some r0) a0 a1) (fun p => kr p) := by
 unfold b; simp only [Lib.B1, Lib.B2, Lib.B3, Lib.B4, q2_bind]
def vo := b Lib.big (fun r0 => some r0) a0 a1
def c : Bool := Option.isSome (vo a0 a1)
def v := Option.getD (vo a0 a1) false
theorem out {x} (h : vo a0 a1 = some x) : c a0 a1 = true /\ v a0 a1 = x := Lib.out_ h
theorem b_eq (hc : c a0 a1 = true) : ∃ N, b N kr a0 a1 = Lib.ap (fun p => kr p) (v a0 a1) := ⟨Lib.big, Lib.bq hc (by apply b_bind)⟩
end Go.FG.U116

namespace Go.FG.U137
def r9 {R : Type} (N : Nat) (g k0 k1 : F_biiri R) (x4 : Bool) (x5 x6 : Int) (x7 : Row) (x8 : Int) : Option R := bif decide (0 <= x5) && decide (x5 < (x7.length : Int)) then bif decide (x6 < (↑(List.length (cvL (cellAt x7 x5.toNat 0))) : Int)) then bif decide (0 <= x5) && decide (x5 < (x7.length : Int)) then bif decide (0 <= x6) && decide (x6 < (↑(List.length (cvL (cellAt x7 x5.toNat 0))) : Int)) then bif !U60.v (cvI (cellAt (cvL (cellAt x7 x5.toNat 0)) x6.toNat 0)) 0 15 then k0 false x5 x6 x7 x8 else g x4 x5 (w64 (x6 + 1)) x7 x8 else none else none else k1 x4 x5 x6 x7 x8 else none
def l9 {R : Type} (N : Nat) (k0 k1 : F_biiri R) : Nat -> F_biiri R
 | 0 => fun _ _ _ _ _ => none
 | n + 1 => fun x4 x5 x6 x7 x8 => r9 N (l9 N k0 k1 n) k0 k1 x4 x5 x6 x7 x8
def r4 {R : Type} (N : Nat) (g k0 k1 : F_biri R) (x0 : Bool) (x1 : Int) (x2 : Row) (x3 : Int) : Option R := bif decide (x1 < (x2.length : Int)) then bif decide (0 <= x1) && decide (x1 < (x2.length : Int)) then bif (↑(List.length (cvL (cellAt x2 x1.toNat 0))) : Int) != 16 then k0 false x1 x2 x3 else l9 N (fun y9 y10 y11 y12 y13 => k0 y9 y10 y12 y13) (fun y14 y15 y16 y17 y18 => g y14 (w64 (y15 + 1)) y17 y18) N x0 x1 0 x2 x3 else none else k1 x0 x1 x2 x3
def l4 {R : Type} (N : Nat) (k0 k1 : F_biri R) : Nat -> F_biri R
 | 0 => fun _ _ _ _ => none
 | n + 1 => fun x0 x1 x2 x3 => r4 N (l4 N k0 k1 n) k0 k1 x0 x1 x2 x3
theorem q9_bind {R S : Type} (f : R -> Option S) (N : Nat) (k0 k1 : F_biiri R) : ∀ n : Nat, (∀ (x4 : Bool) (x5 x6 : Int) (x7 : Row) (x8 : Int), Option.bind (l9 N k0 k1 n x4 x5 x6 x7 x8) f = l9 N (fun y0 y1 y2 y3 y4 => Option.bind (k0 y0 y1 y2 y3 y4) f) (fun y0 y1 y2 y3 y4 => Option.bind (k1 y0 y1 y2 y3 y4) f) n x4 x5 x6 x7 x8) := by
 intro n
 induction n with
 | zero => exact fun _ _ _ _ _ => rfl
 | succ n ih =>
  intro x4 x5 x6 x7 x8
  simp only [l9, r9, Lib.B1, Lib.B2, Lib.B3, Lib.B4, ih]
theorem q4_bind {R S : Type} (f : R -> Option S) (N : Nat) (k0 k1 : F_biri R) : ∀ n : Nat, (∀ (x0 : Bool) (x1 : Int) (x2 : Row) (x3 : Int), Option.bind (l4 N k0 k1 n x0 x1 x2 x3) f = l4 N (fun y0 y1 y2 y3 => Option.bind (k0 y0 y1 y2 y3) f) (fun y0 y1 y2 y3 => Option.bind (k1 y0 y1 y2 y3) f) n x0 x1 x2 x3) := by
 intro n
 induction n with
 | zero => exact fun _ _ _ _ => rfl
 | succ n ih =>
  intro x0 x1 x2 x3
  simp only [l4, r4, Lib.B1, Lib.B2, Lib.B3, Lib.B4, ih, q9_bind]
variable {R : Type} (N : Nat) (kr : Bool -> Option R) (a0 : Row) (a1 : Int)
def b : Option R := bif (a0.length : Int) != 3 then kr false else bif !U60.v a1 0 63 then kr false else l4 N (fun y19 y20 y21 y22 => kr y19) (fun y23 y24 y25 y26 => kr true) N false 0 a0 a1
theorem b_bind : b N kr a0 a1 = Option.bind (b N (fun r0 => some r0) a0 a1) (fun p => kr p) := by
 unfold b; simp only [Lib.B1, Lib.B2, Lib.B3, Lib.B4, q9_bind, q4_bind]
def vo := b Lib.big (fun r0 => some r0) a0 a1
def c : Bool := Option.isSome (vo a0 a1)
def v := Option.getD (vo a0 a1) false
theorem out {x} (h : vo a0 a1 = some x) : c a0 a1 = true /\ v a0 a1 = x := Lib.out_ h
theorem b_eq (hc : c a0 a1 = true) : ∃ N, b N kr a0 a1 = Lib.ap (fun p => kr p) (v a0 a1) := ⟨Lib.big, Lib.bq hc (by apply b_bind)⟩
end Go.FG.U137

namespace Go.FG.U114
def r3 {R : Type} (N : Nat) (g k0 k1 : F_birrrir R) (x0 : Bool) (x1 : Int) (x2 x3 x4 : Row) (x5 : Int) (x6 : Row) : Option R := bif decide (x1 < (x6.length : Int)) then bif decide (0 <= x1) && decide (x1 < (x6.length : Int)) then bif !U88.v (cvS (cellAt x6 x1.toNat 0)) then k0 false x1 x2 x3 x4 x5 x6 else bif inB 0 x1 (x6.length : Int) then bif decide (0 <= x1) && decide (x1 < (x6.length : Int)) then bif U116.c (view x6 (Int.toNat 0) x1.toNat) (cvS (cellAt x6 x1.toNat 0)) then bif U116.v (view x6 (Int.toNat 0) x1.toNat) (cvS (cellAt x6 x1.toNat 0)) then k0 false x1 x2 x3 x4 x5 x6 else g x0 (w64 (x1 + 1)) x2 x3 x4 x5 x6 else none else none else none else none else k1 x0 x1 x2 x3 x4 x5 x6
def l3 {R : Type} (N : Nat) (k0 k1 : F_birrrir R) : Nat -> F_birrrir R
 | 0 => fun _ _ _ _ _ _ _ => none
 | n + 1 => fun x0 x1 x2 x3 x4 x5 x6 => r3 N (l3 N k0 k1 n) k0 k1 x0 x1 x2 x3 x4 x5 x6
theorem q3_bind {R S : Type} (f : R -> Option S) (N : Nat) (k0 k1 : F_birrrir R) : ∀ n : Nat, (∀ (x0 : Bool) (x1 : Int) (x2 x3 x4 : Row) (x5 : Int) (x6 : Row), Option.bind (l3 N k0 k1 n x0 x1 x2 x3 x4 x5 x6) f = l3 N (fun y0 y1 y2 y3 y4 y5 y6 => Option.bind (k0 y0 y1 y2 y3 y4 y5 y6) f) (fun y0 y1 y2 y3 y4 y5 y6 => Option.bind (k1 y0 y1 y2 y3 y4 y5 y6) f) n x0 x1 x2 x3 x4 x5 x6) := by
 intro n
 induction n with
 | zero => exact fun _ _ _ _ _ _ _ => rfl
 | succ n ih =>
  intro x0 x1 x2 x3 x4 x5 x6
  simp only [l3, r3, Lib.B1, Lib.B2, Lib.B3, Lib.B4, ih]
variable {R : Type} (N : Nat) (kr : Bool -> Option R) (a0 a1 a2 : Row) (a3 : Int)
def b : Option R := bif roomy (List.length (zeros [Ck.s] 0) + a0.length) 16 then bif roomy (List.length (zeros [Ck.s] 0 ++ a0) + a1.length) 16 then l3 N (fun y7 y8 y9 y10 y11 y12 y13 => kr y7) (fun y14 y15 y16 y17 y18 y19 y20 => bif decide ((y16.length : Int) <= 2) then bif decide ((y17.length : Int) <= 4) then bif U137.c y18 y19 then kr (U137.v y18 y19) else none else kr false else kr false) N false 0 a0 a1 a2 a3 (zeros [Ck.s] 0 ++ a0 ++ a1) else none else none
theorem b_bind : b N kr a0 a1 a2 a3 = Option.bind (b N (fun r0 => some r0) a0 a1 a2 a3) (fun p => kr p) := by
 unfold b; simp only [Lib.B1, Lib.B2, Lib.B3, Lib.B4, q3_bind]
def vo := b Lib.big (fun r0 => some r0) a0 a1 a2 a3
def c : Bool := Option.isSome (vo a0 a1 a2 a3)
def v := Option.getD (vo a0 a1 a2 a3) false
theorem out {x} (h : vo a0 a1 a2 a3 = some x) : c a0 a1 a2 a3 = true /\ v a0 a1 a2 a3 = x := Lib.out_ h
theorem b_eq (hc : c a0 a1 a2 a3 = true) : ∃ N, b N kr a0 a1 a2 a3 = Lib.ap (fun p => kr p) (v a0 a1 a2 a3) := ⟨Lib.big, Lib.bq hc (by apply b_bind)⟩
end Go.FG.U114

namespace Go.FG.U156
def r6 {R : Type} (N : Nat) (g k0 : F_isii R) (x3 : Int) (x4 : ByteArray) (x5 x6 : Int) : Option R := bif decide (x6 < 8) then bif decide (Int.tmod x3 2 = 1) then g (IntKind.wrap IntKind.u32 (↑(BitVec.toNat (BitVec.xor (BitVec.ofInt 32 (IntKind.wrap IntKind.u32 (Int.tdiv x3 2))) (BitVec.ofInt 32 3558460437))) : Int)) x4 x5 (w64 (x6 + 1)) else g (IntKind.wrap IntKind.u32 (Int.tdiv x3 2)) x4 x5 (w64 (x6 + 1)) else k0 x3 x4 x5 x6
def l6 {R : Type} (N : Nat) (k0 : F_isii R) : Nat -> F_isii R
 | 0 => fun _ _ _ _ => none
 | n + 1 => fun x3 x4 x5 x6 => r6 N (l6 N k0 n) k0 x3 x4 x5 x6
def r2 {R : Type} (N : Nat) (g k0 : F_isi R) (x0 : Int) (x1 : ByteArray) (x2 : Int) : Option R := bif decide (x2 < (x1.size : Int)) then bif decide (0 <= x2) && decide (x2 < (x1.size : Int)) then l6 N (fun y7 y8 y9 y10 => g y7 y8 (w64 (y9 + 1))) N (IntKind.wrap IntKind.u32 (↑(BitVec.toNat (BitVec.xor (BitVec.ofInt 32 x0) (BitVec.ofInt 32 (IntKind.wrap IntKind.u32 (↑(btN x1 x2.toNat) : Int))))) : Int)) x1 x2 0 else none else k0 x0 x1 x2
def l2 {R : Type} (N : Nat) (k0 : F_isi R) : Nat -> F_isi R
 | 0 => fun _ _ _ => none
 | n + 1 => fun x0 x1 x2 => r2 N (l2 N k0 n) k0 x0 x1 x2
theorem q6_bind {R S : Type} (f : R -> Option S) (N : Nat) (k0 : F_isii R) : ∀ n : Nat, (∀ (x3 : Int) (x4 : ByteArray) (x5 x6 : Int), Option.bind (l6 N k0 n x3 x4 x5 x6) f = l6 N (fun y0 y1 y2 y3 => Option.bind (k0 y0 y1 y2 y3) f) n x3 x4 x5 x6) := by
 intro n
 induction n with
 | zero => exact fun _ _ _ _ => rfl
 | succ n ih =>
  intro x3 x4 x5 x6
  simp only [l6, r6, Lib.B1, Lib.B2, Lib.B3, Lib.B4, ih]
theorem q2_bind {R S : Type} (f : R -> Option S) (N : Nat) (k0 : F_isi R) : ∀ n : Nat, (∀ (x0 : Int) (x1 : ByteArray) (x2 : Int), Option.bind (l2 N k0 n x0 x1 x2) f = l2 N (fun y0 y1 y2 => Option.bind (k0 y0 y1 y2) f) n x0 x1 x2) := by
 intro n
 induction n with
 | zero => exact fun _ _ _ => rfl
 | succ n ih =>
  intro x0 x1 x2
  simp only [l2, r2, Lib.B1, Lib.B2, Lib.B3, Lib.B4, ih, q6_bind]
variable {R : Type} (N : Nat) (kr : Int -> Option R) (a0 : Int) (a1 : ByteArray)
def b : Option R := l2 N (fun y11 y12 y13 => kr y11) N a0 a1 0
theorem b_bind : b N kr a0 a1 = Option.bind (b N (fun r0 => some r0) a0 a1) (fun p => kr p) := by
 unfold b; simp only [Lib.B1, Lib.B2, Lib.B3, Lib.B4, q6_bind, q2_bind]
def vo := b Lib.big (fun r0 => some r0) a0 a1
def c : Bool := Option.isSome (vo a0 a1)
def v := Option.getD (vo a0 a1) (0)
theorem out {x} (h : vo a0 a1 = some x) : c a0 a1 = true /\ v a0 a1 = x := Lib.out_ h
theorem b_eq (hc : c a0 a1 = true) : ∃ N, b N kr a0 a1 = Lib.ap (fun p => kr p) (v a0 a1) := ⟨Lib.big, Lib.bq hc (by apply b_bind)⟩
end Go.FG.U156

namespace Go.FG.U149
variable {R : Type} (kr : Int -> Option R) (a0 : ByteArray)
def b : Option R := bif U156.c 4294967295 a0 then kr (U156.v 4294967295 a0) else none
def vo := b (fun r0 => some r0) a0
def c : Bool := Option.isSome (vo a0)
def v := Option.getD (vo a0) (0)
theorem out {x} (h : vo a0 = some x) : c a0 = true /\ v a0 = x := Lib.out_ h
theorem b_eq (hc : c a0 = true) : b kr a0 = Lib.ap (fun p => kr p) (v a0) := Lib.bq hc (by unfold vo b; simp only [Lib.B1, Lib.B2, Lib.B3, Lib.B4])
end Go.FG.U149

namespace Go.FG.U138
variable {R : Type} (kr : Int -> Option R) (a0 : Int) (a1 : ByteArray)
def b : Option R := bif decide (a1.size + ByteArray.size (bytesOf (List.set (zeros [Ck.i IntKind.u8] 1) 0 [CV.i IntKind.u8 (IntKind.wrap IntKind.u8 a0)])) <= 4611686018427387904) then bif U149.c (a1 ++ bytesOf (List.set (zeros [Ck.i IntKind.u8] 1) 0 [CV.i IntKind.u8 (IntKind.wrap IntKind.u8 a0)])) then kr (w64 (Int.tmod (U149.v (a1 ++ bytesOf (List.set (zeros [Ck.i IntKind.u8] 1) 0 [CV.i IntKind.u8 (IntKind.wrap IntKind.u8 a0)]))) 16)) else none else none
def vo := b (fun r0 => some r0) a0 a1
def c : Bool := Option.isSome (vo a0 a1)
def v := Option.getD (vo a0 a1) (0)
theorem out {x} (h : vo a0 a1 = some x) : c a0 a1 = true /\ v a0 a1 = x := Lib.out_ h
theorem b_eq (hc : c a0 a1 = true) : b kr a0 a1 = Lib.ap (fun p => kr p) (v a0 a1) := Lib.bq hc (by unfold vo b; simp only [Lib.B1, Lib.B2, Lib.B3, Lib.B4])
end Go.FG.U138

namespace Go.FG.U115
def r17 {R : Type} (N : Nat) (g k0 : F_iiiir R) (x14 x15 x16 x17 : Int) (x18 : Row) : Option R := bif decide (0 <= x14) && decide (x14 < (x18.length : Int)) then bif decide (x15 < (↑(List.length (cvL (cellAt x18 x14.toNat 0))) : Int)) then bif decide (0 <= x14) && decide (x14 < (x18.length : Int)) then bif decide (0 <= x14) && decide (x14 < (x18.length : Int)) then bif decide (0 <= x15) && decide (x15 < (↑(List.length (cvL (cellAt x18 x14.toNat 0))) : Int)) then bif decide (0 <= x15) && decide (x15 < (↑(List.length (cvL (cellAt x18 x14.toNat 0))) : Int)) then g x14 (w64 (x15 + 1)) x16 x17 (setC x18 x14.toNat 0 [CV.l 3 (setC (cvL (cellAt x18 x14.toNat 0)) x15.toNat 0 [CV.i IntKind.i64 (w64 (Int.tdiv (cvI (cellAt (cvL (cellAt x18 x14.toNat 0)) x15.toNat 0)) 2))])]) else none else none else none else none else k0 x14 x15 x16 x17 x18 else none
def l17 {R : Type} (N : Nat) (k0 : F_iiiir R) : Nat -> F_iiiir R
 | 0 => fun _ _ _ _ _ => none
 | n + 1 => fun x14 x15 x16 x17 x18 => r17 N (l17 N k0 n) k0 x14 x15 x16 x17 x18
def r14 {R : Type} (N : Nat) (g k0 : F_iiir R) (x10 x11 x12 : Int) (x13 : Row) : Option R := bif decide (x10 < (x13.length : Int)) then l17 N (fun y19 y20 y21 y22 y23 => g (w64 (y19 + 1)) y21 y22 y23) N x10 0 x11 x12 x13 else k0 x10 x11 x12 x13
def l14 {R : Type} (N : Nat) (k0 : F_iiir R) : Nat -> F_iiir R
 | 0 => fun _ _ _ _ => none
 | n + 1 => fun x10 x11 x12 x13 => r14 N (l14 N k0 n) k0 x10 x11 x12 x13
def r5 {R : Type} (N : Nat) (g k0 : F_siiir R) (x0 : ByteArray) (x1 x2 x3 : Int) (x4 : Row) : Option R := bif decide (x1 < (x4.length : Int)) then bif U138.c x1 x0 then bif decide (0 <= x1) && decide (x1 < (x4.length : Int)) then bif decide (0 <= U138.v x1 x0) && decide (U138.v x1 x0 < (↑(List.length (cvL (cellAt x4 x1.toNat 0))) : Int)) then bif decide (cvI (cellAt (cvL (cellAt x4 x1.toNat 0)) (Int.toNat (U138.v x1 x0)) 0) < 15) then bif decide (0 <= x1) && decide (x1 < (x4.length : Int)) then bif decide (0 <= U138.v x1 x0) && decide (U138.v x1 x0 < (↑(List.length (cvL (cellAt x4 x1.toNat 0))) : Int)) then bif decide (0 <= U138.v x1 x0) && decide (U138.v x1 x0 < (↑(List.length (cvL (cellAt x4 x1.toNat 0))) : Int)) then g x0 (w64 (x1 + 1)) x2 x3 (setC x4 x1.toNat 0 [CV.l 3 (setC (cvL (cellAt x4 x1.toNat 0)) (Int.toNat (U138.v x1 x0)) 0 [CV.i IntKind.i64 (w64 (cvI (cellAt (cvL (cellAt x4 x1.toNat 0)) (Int.toNat (U138.v x1 x0)) 0) + 1))])]) else none else none else none else g x0 (w64 (x1 + 1)) x2 x3 x4 else none else none else none else k0 x0 x1 x2 x3 x4
def l5 {R : Type} (N : Nat) (k0 : F_siiir R) : Nat -> F_siiir R
 | 0 => fun _ _ _ _ _ => none
 | n + 1 => fun x0 x1 x2 x3 x4 => r5 N (l5 N k0 n) k0 x0 x1 x2 x3 x4
theorem q17_bind {R S : Type} (f : R -> Option S) (N : Nat) (k0 : F_iiiir R) : ∀ n : Nat, (∀ (x14 x15 x16 x17 : Int) (x18 : Row), Option.bind (l17 N k0 n x14 x15 x16 x17 x18) f = l17 N (fun y0 y1 y2 y3 y4 => Option.bind (k0 y0 y1 y2 y3 y4) f) n x14 x15 x16 x17 x18) := by
 intro n
 induction n with
 | zero => exact fun _ _ _ _ _ => rfl
 | succ n ih =>
  intro x14 x15 x16 x17 x18
  simp only [l17, r17, Lib.B1, Lib.B2, Lib.B3, Lib.B4, ih]
theorem q14_bind {R S : Type} (f : R -> Option S) (N : Nat) (k0 : F_iiir R) : ∀ n : Nat, (∀ (x10 x11 x12 : Int) (x13 : Row), Option.bind (l14 N k0 n x10 x11 x12 x13) f = l14 N (fun y0 y1 y2 y3 => Option.bind (k0 y0 y1 y2 y3) f) n x10 x11 x12 x13) := by
 intro n
 induction n with
 | zero => exact fun _ _ _ _ => rfl
 | succ n ih =>
  intro x10 x11 x12 x13
  simp only [l14, r14, Lib.B1, Lib.B2, Lib.B3, Lib.B4, ih, q17_bind]
theorem q5_bind {R S : Type} (f : R -> Option S) (N : Nat) (k0 : F_siiir R) : ∀ n : Nat, (∀ (x0 : ByteArray) (x1 x2 x3 : Int) (x4 : Row), Option.bind (l5 N k0 n x0 x1 x2 x3 x4) f = l5 N (fun y0 y1 y2 y3 y4 => Option.bind (k0 y0 y1 y2 y3 y4) f) n x0 x1 x2 x3 x4) := by
 intro n
 induction n with
 | zero => exact fun _ _ _ _ _ => rfl
 | succ n ih =>
  intro x0 x1 x2 x3 x4
  simp only [l5, r5, Lib.B1, Lib.B2, Lib.B3, Lib.B4, ih, q17_bind, q14_bind]
variable {R : Type} (N : Nat) (kr : F_ri R) (a0 : Row) (a1 : Int) (a2 : ByteArray)
def b : Option R := bif U101.c a0 a1 then bif U137.c a0 a1 then bif !U137.v a0 a1 then kr ((U101.v a0 a1).1) ((U101.v a0 a1).2) else l5 N (fun y5 y6 y7 y8 y9 => bif decide (w64 (y8 + 1) = 64) then l14 N (fun y24 y25 y26 y27 => kr y27 y26) N 0 y7 0 y9 else kr y9 (w64 (y8 + 1))) N a2 0 0 ((U101.v a0 a1).2) ((U101.v a0 a1).1) else none else none
theorem b_bind : b N kr a0 a1 a2 = Option.bind (b N (fun r0 r1 => some (r0, r1)) a0 a1 a2) (fun p => kr p.1 p.2) := by
 unfold b; simp only [Lib.B1, Lib.B2, Lib.B3, Lib.B4, q17_bind, q14_bind, q5_bind]
def vo := b Lib.big (fun r0 r1 => some (r0, r1)) a0 a1 a2
def c : Bool := Option.isSome (vo a0 a1 a2)
def v := Option.getD (vo a0 a1 a2) ([], 0)
theorem out {x} (h : vo a0 a1 a2 = some x) : c a0 a1 a2 = true /\ v a0 a1 a2 = x := Lib.out_ h
theorem b_eq (hc : c a0 a1 a2 = true) : ∃ N, b N kr a0 a1 a2 = Lib.ap (fun p => kr p.1 p.2) (v a0 a1 a2) := ⟨Lib.big, Lib.bq hc (by apply b_bind)⟩
end Go.FG.U115

namespace Go.FG.U117
def r3 {R : Type} (N : Nat) (g k0 : F_rsir R) (x0 : Row) (x1 : ByteArray) (x2 : Int) (x3 : Row) : Option R := bif decide (x2 < (x0.length : Int)) then bif decide (0 <= x2) && decide (x2 < (x0.length : Int)) then bif !List.beq (ByteArray.toList (cvS (cellAt x0 x2.toNat 0))) (ByteArray.toList x1) then bif decide (0 <= x2) && decide (x2 < (x0.length : Int)) then bif roomy (x3.length + List.length (List.set (zeros [Ck.s] 1) 0 [CV.s (cvS (cellAt x0 x2.toNat 0))])) 16 then g x0 x1 (w64 (x2 + 1)) (x3 ++ List.set (zeros [Ck.s] 1) 0 [CV.s (cvS (cellAt x0 x2.toNat 0))]) else none else none else g x0 x1 (w64 (x2 + 1)) x3 else none else k0 x0 x1 x2 x3
def l3 {R : Type} (N : Nat) (k0 : F_rsir R) : Nat -> F_rsir R
 | 0 => fun _ _ _ _ => none
 | n + 1 => fun x0 x1 x2 x3 => r3 N (l3 N k0 n) k0 x0 x1 x2 x3
theorem q3_bind {R S : Type} (f : R -> Option S) (N : Nat) (k0 : F_rsir R) : ∀ n : Nat, (∀ (x0 : Row) (x1 : ByteArray) (x2 : Int) (x3 : Row), Option.bind (l3 N k0 n x0 x1 x2 x3) f = l3 N (fun y0 y1 y2 y3 => Option.bind (k0 y0 y1 y2 y3) f) n x0 x1 x2 x3) := by
 intro n
 induction n with
 | zero => exact fun _ _ _ _ => rfl
 | succ n ih =>
  intro x0 x1 x2 x3
  simp only [l3, r3, Lib.B1, Lib.B2, Lib.B3, Lib.B4, ih]
variable {R : Type} (N : Nat) (kr : Row -> Option R) (a0 : Row) (a1 : ByteArray)
def b : Option R := l3 N (fun y4 y5 y6 y7 => kr y7) N a0 a1 0 (zeros [Ck.s] 0)
theorem b_bind : b N kr a0 a1 = Option.bind (b N (fun r0 => some r0) a0 a1) (fun p => kr p) := by
 unfold b; simp only [Lib.B1, Lib.B2, Lib.B3, Lib.B4, q3_bind]
def vo := b Lib.big (fun r0 => some r0) a0 a1
def c : Bool := Option.isSome (vo a0 a1)
def v := Option.getD (vo a0 a1) ([])
theorem out {x} (h : vo a0 a1 = some x) : c a0 a1 = true /\ v a0 a1 = x := Lib.out_ h
theorem b_eq (hc : c a0 a1 = true) : ∃ N, b N kr a0 a1 = Lib.ap (fun p => kr p) (v a0 a1) := ⟨Lib.big, Lib.bq hc (by apply b_bind)⟩
end Go.FG.U117

namespace Go.FG.U118
def r5 {R : Type} (N : Nat) (g k0 : F_siiri R) (x0 : ByteArray) (x1 x2 : Int) (x3 : Row) (x4 : Int) : Option R := bif decide (x2 < (x3.length : Int)) then bif decide (0 <= x2) && decide (x2 < (x3.length : Int)) then bif U138.c x2 x0 then bif decide (0 <= U138.v x2 x0) && decide (U138.v x2 x0 < (↑(List.length (cvL (cellAt x3 x2.toNat 0))) : Int)) then bif decide (cvI (cellAt (cvL (cellAt x3 x2.toNat 0)) (Int.toNat (U138.v x2 x0)) 0) < x1) then g x0 (cvI (cellAt (cvL (cellAt x3 x2.toNat 0)) (Int.toNat (U138.v x2 x0)) 0)) (w64 (x2 + 1)) x3 x4 else g x0 x1 (w64 (x2 + 1)) x3 x4 else none else none else none else k0 x0 x1 x2 x3 x4
def l5 {R : Type} (N : Nat) (k0 : F_siiri R) : Nat -> F_siiri R
 | 0 => fun _ _ _ _ _ => none
 | n + 1 => fun x0 x1 x2 x3 x4 => r5 N (l5 N k0 n) k0 x0 x1 x2 x3 x4
theorem q5_bind {R S : Type} (f : R -> Option S) (N : Nat) (k0 : F_siiri R) : ∀ n : Nat, (∀ (x0 : ByteArray) (x1 x2 : Int) (x3 : Row) (x4 : Int), Option.bind (l5 N k0 n x0 x1 x2 x3 x4) f = l5 N (fun y0 y1 y2 y3 y4 => Option.bind (k0 y0 y1 y2 y3 y4) f) n x0 x1 x2 x3 x4) := by
 intro n
 induction n with
 | zero => exact fun _ _ _ _ _ => rfl
 | succ n ih =>
  intro x0 x1 x2 x3 x4
  simp only [l5, r5, Lib.B1, Lib.B2, Lib.B3, Lib.B4, ih]
variable {R : Type} (N : Nat) (kr : Int -> Option R) (a0 : Row) (a1 : Int) (a2 : ByteArray)
def b : Option R := bif U137.c a0 a1 then bif !U137.v a0 a1 then kr 0 else l5 N (fun y5 y6 y7 y8 y9 => kr y6) N a2 15 0 a0 a1 else none
theorem b_bind : b N kr a0 a1 a2 = Option.bind (b N (fun r0 => some r0) a0 a1 a2) (fun p => kr p) := by
 unfold b; simp only [Lib.B1, Lib.B2, Lib.B3, Lib.B4, q5_bind]
def vo := b Lib.big (fun r0 => some r0) a0 a1 a2
def c : Bool := Option.isSome (vo a0 a1 a2)
def v := Option.getD (vo a0 a1 a2) (0)
theorem out {x} (h : vo a0 a1 a2 = some x) : c a0 a1 a2 = true /\ v a0 a1 a2 = x := Lib.out_ h
theorem b_eq (hc : c a0 a1 a2 = true) : ∃ N, b N kr a0 a1 a2 = Lib.ap (fun p => kr p) (v a0 a1 a2) := ⟨Lib.big, Lib.bq hc (by apply b_bind)⟩
end Go.FG.U118

namespace Go.FG.U89
variable {R : Type} (kr : F_rrris R) (a0 a1 a2 : Row) (a3 : Int) (a4 : ByteArray)
def b : Option R := bif U66.c a0 a1 a2 a3 then bif U114.c a0 a1 a2 a3 then bif !U114.v a0 a1 a2 a3 then kr ((U66.v a0 a1 a2 a3).1) ((U66.v a0 a1 a2 a3).2.1) ((U66.v a0 a1 a2 a3).2.2.1) ((U66.v a0 a1 a2 a3).2.2.2) ({ data := #[] }) else bif !U88.v a4 then kr ((U66.v a0 a1 a2 a3).1) ((U66.v a0 a1 a2 a3).2.1) ((U66.v a0 a1 a2 a3).2.2.1) ((U66.v a0 a1 a2 a3).2.2.2) ({ data := #[] }) else bif U115.c a2 a3 a4 then bif U116.c a0 a4 then bif U116.v a0 a4 then bif U117.c a0 a4 then bif roomy (List.length (U117.v a0 a4) + List.length (List.set (zeros [Ck.s] 1) 0 [CV.s a4])) 16 then kr (U117.v a0 a4 ++ List.set (zeros [Ck.s] 1) 0 [CV.s a4]) ((U66.v a0 a1 a2 a3).2.1) ((U115.v a2 a3 a4).1) ((U115.v a2 a3 a4).2) ({ data := #[] }) else none else none else bif U116.c a1 a4 then bif U116.v a1 a4 then bif U117.c a1 a4 then bif roomy (List.length (U117.v a1 a4) + List.length (List.set (zeros [Ck.s] 1) 0 [CV.s a4])) 16 then kr ((U66.v a0 a1 a2 a3).1) (U117.v a1 a4 ++ List.set (zeros [Ck.s] 1) 0 [CV.s a4]) ((U115.v a2 a3 a4).1) ((U115.v a2 a3 a4).2) ({ data := #[] }) else none else none else bif roomy (List.length (U66.v a0 a1 a2 a3).1 + List.length (List.set (zeros [Ck.s] 1) 0 [CV.s a4])) 16 then bif decide ((↑(List.length ((U66.v a0 a1 a2 a3).1 ++ List.set (zeros [Ck.s] 1) 0 [CV.s a4])) : Int) <= 2) then kr ((U66.v a0 a1 a2 a3).1 ++ List.set (zeros [Ck.s] 1) 0 [CV.s a4]) ((U66.v a0 a1 a2 a3).2.1) ((U115.v a2 a3 a4).1) ((U115.v a2 a3 a4).2) ({ data := #[] }) else bif decide (0 < (↑(List.length ((U66.v a0 a1 a2 a3).1 ++ List.set (zeros [Ck.s] 1) 0 [CV.s a4])) : Int)) then bif inB 1 (↑(List.length ((U66.v a0 a1 a2 a3).1 ++ List.set (zeros [Ck.s] 1) 0 [CV.s a4])) : Int) (↑(List.length ((U66.v a0 a1 a2 a3).1 ++ List.set (zeros [Ck.s] 1) 0 [CV.s a4])) : Int) then bif roomy (List.length (zeros [Ck.s] 0) + List.length (view ((U66.v a0 a1 a2 a3).1 ++ List.set (zeros [Ck.s] 1) 0 [CV.s a4]) (Int.toNat 1) (Int.toNat (↑(List.length ((U66.v a0 a1 a2 a3).1 ++ List.set (zeros [Ck.s] 1) 0 [CV.s a4])) : Int)))) 16 then bif decide ((↑(List.length (U66.v a0 a1 a2 a3).2.1) : Int) < 4) then bif roomy (List.length (U66.v a0 a1 a2 a3).2.1 + List.length (List.set (zeros [Ck.s] 1) 0 [CV.s (cvS (cellAt ((U66.v a0 a1 a2 a3).1 ++ List.set (zeros [Ck.s] 1) 0 [CV.s a4]) (Int.toNat 0) 0))])) 16 then kr (zeros [Ck.s] 0 ++ view ((U66.v a0 a1 a2 a3).1 ++ List.set (zeros [Ck.s] 1) 0 [CV.s a4]) (Int.toNat 1) (Int.toNat (↑(List.length ((U66.v a0 a1 a2 a3).1 ++ List.set (zeros [Ck.s] 1) 0 [CV.s a4])) : Int))) ((U66.v a0 a1 a2 a3).2.1 ++ List.set (zeros [Ck.s] 1) 0 [CV.s (cvS (cellAt ((U66.v a0 a1 a2 a3).1 ++ List.set (zeros [Ck.s] 1) 0 [CV.s a4]) (Int.toNat 0) 0))]) ((U115.v a2 a3 a4).1) ((U115.v a2 a3 a4).2) ({ data := #[] }) else none else bif U118.c (U115.v a2 a3 a4).1 (U115.v a2 a3 a4).2 (cvS (cellAt ((U66.v a0 a1 a2 a3).1 ++ List.set (zeros [Ck.s] 1) 0 [CV.s a4]) (Int.toNat 0) 0)) then bif decide (0 < (↑(List.length (U66.v a0 a1 a2 a3).2.1) : Int)) then bif U118.c (U115.v a2 a3 a4).1 (U115.v a2 a3 a4).2 (cvS (cellAt (U66.v a0 a1 a2 a3).2.1 (Int.toNat 0) 0)) then bif decide (U118.v (U115.v a2 a3 a4).1 (U115.v a2 a3 a4).2 (cvS (cellAt ((U66.v a0 a1 a2 a3).1 ++ List.set (zeros [Ck.s] 1) 0 [CV.s a4]) (Int.toNat 0) 0)) > U118.v (U115.v a2 a3 a4).1 (U115.v a2 a3 a4).2 (cvS (cellAt (U66.v a0 a1 a2 a3).2.1 (Int.toNat 0) 0))) then bif decide (0 < (↑(List.length (U66.v a0 a1 a2 a3).2.1) : Int)) then bif inB 1 (↑(List.length (U66.v a0 a1 a2 a3).2.1) : Int) (↑(List.length (U66.v a0 a1 a2 a3).2.1) : Int) then bif roomy (List.length (zeros [Ck.s] 0) + List.length (view (U66.v a0 a1 a2 a3).2.1 (Int.toNat 1) (Int.toNat (↑(List.length (U66.v a0 a1 a2 a3).2.1) : Int)))) 16 then bif roomy (List.length (zeros [Ck.s] 0 ++ view (U66.v a0 a1 a2 a3).2.1 (Int.toNat 1) (Int.toNat (↑(List.length (U66.v a0 a1 a2 a3).2.1) : Int))) + List.length (List.set (zeros [Ck.s] 1) 0 [CV.s (cvS (cellAt ((U66.v a0 a1 a2 a3).1 ++ List.set (zeros [Ck.s] 1) 0 [CV.s a4]) (Int.toNat 0) 0))])) 16 then kr (zeros [Ck.s] 0 ++ view ((U66.v a0 a1 a2 a3).1 ++ List.set (zeros [Ck.s] 1) 0 [CV.s a4]) (Int.toNat 1) (Int.toNat (↑(List.length ((U66.v a0 a1 a2 a3).1 ++ List.set (zeros [Ck.s] 1) 0 [CV.s a4])) : Int))) (zeros [Ck.s] 0 ++ view (U66.v a0 a1 a2 a3).2.1 (Int.toNat 1) (Int.toNat (↑(List.length (U66.v a0 a1 a2 a3).2.1) : Int)) ++ List.set (zeros [Ck.s] 1) 0 [CV.s (cvS (cellAt ((U66.v a0 a1 a2 a3).1 ++ List.set (zeros [Ck.s] 1) 0 [CV.s a4]) (Int.toNat 0) 0))]) ((U115.v a2 a3 a4).1) ((U115.v a2 a3 a4).2) (cvS (cellAt (U66.v a0 a1 a2 a3).2.1 (Int.toNat 0) 0)) else none else none else none else none else kr (zeros [Ck.s] 0 ++ view ((U66.v a0 a1 a2 a3).1 ++ List.set (zeros [Ck.s] 1) 0 [CV.s a4]) (Int.toNat 1) (Int.toNat (↑(List.length ((U66.v a0 a1 a2 a3).1 ++ List.set (zeros [Ck.s] 1) 0 [CV.s a4])) : Int))) ((U66.v a0 a1 a2 a3).2.1) ((U115.v a2 a3 a4).1) ((U115.v a2 a3 a4).2) (cvS (cellAt ((U66.v a0 a1 a2 a3).1 ++ List.set (zeros [Ck.s] 1) 0 [CV.s a4]) (Int.toNat 0) 0)) else none else none else none else none else none else none else none else none else none else none else none else none
def vo := b (fun r0 r1 r2 r3 r4 => some (r0, r1, r2, r3, r4)) a0 a1 a2 a3 a4
def c : Bool := Option.isSome (vo a0 a1 a2 a3 a4)
def v := Option.getD (vo a0 a1 a2 a3 a4) ([], [], [], 0, ⟨#[]⟩)
theorem out {x} (h : vo a0 a1 a2 a3 a4 = some x) : c a0 a1 a2 a3 a4 = true /\ v a0 a1 a2 a3 a4 = x := Lib.out_ h
theorem b_eq (hc : c a0 a1 a2 a3 a4 = true) : b kr a0 a1 a2 a3 a4 = Lib.ap (fun p => kr p.1 p.2.1 p.2.2.1 p.2.2.2.1 p.2.2.2.2) (v a0 a1 a2 a3 a4) := Lib.bq hc (by unfold vo b; simp only [Lib.B1, Lib.B2, Lib.B3, Lib.B4])
end Go.FG.U89

namespace Go.FG.U90
def r3 {R : Type} (N : Nat) (g k0 : F_rsir R) (x0 : Row) (x1 : ByteArray) (x2 : Int) (x3 : Row) : Option R := bif decide (x2 < (x0.length : Int)) then bif decide (0 <= x2) && decide (x2 < (x0.length : Int)) then bif !List.beq (ByteArray.toList (cvS (cellAt x0 x2.toNat 0))) (ByteArray.toList x1) then bif decide (0 <= x2) && decide (x2 < (x0.length : Int)) then bif roomy (x3.length + List.length (List.set (zeros [Ck.s, Ck.i IntKind.i64, Ck.i IntKind.i64, Ck.s] 1) 0 [CV.s (cvS (cellAt x0 x2.toNat 0)), CV.i IntKind.i64 (cvI (cellAt x0 x2.toNat 1)), CV.i IntKind.i64 (cvI (cellAt x0 x2.toNat (1 + 1))), CV.s (cvS (cellAt x0 x2.toNat (1 + 1 + 1)))])) 48 then g x0 x1 (w64 (x2 + 1)) (x3 ++ List.set (zeros [Ck.s, Ck.i IntKind.i64, Ck.i IntKind.i64, Ck.s] 1) 0 [CV.s (cvS (cellAt x0 x2.toNat 0)), CV.i IntKind.i64 (cvI (cellAt x0 x2.toNat 1)), CV.i IntKind.i64 (cvI (cellAt x0 x2.toNat (1 + 1))), CV.s (cvS (cellAt x0 x2.toNat (1 + 1 + 1)))]) else none else none else g x0 x1 (w64 (x2 + 1)) x3 else none else k0 x0 x1 x2 x3
def l3 {R : Type} (N : Nat) (k0 : F_rsir R) : Nat -> F_rsir R
 | 0 => fun _ _ _ _ => none
 | n + 1 => fun x0 x1 x2 x3 => r3 N (l3 N k0 n) k0 x0 x1 x2 x3
theorem q3_bind {R S : Type} (f : R -> Option S) (N : Nat) (k0 : F_rsir R) : ∀ n : Nat, (∀ (x0 : Row) (x1 : ByteArray) (x2 : Int) (x3 : Row), Option.bind (l3 N k0 n x0 x1 x2 x3) f = l3 N (fun y0 y1 y2 y3 => Option.bind (k0 y0 y1 y2 y3) f) n x0 x1 x2 x3) := by
 intro n
 induction n with
 | zero => exact fun _ _ _ _ => rfl
 | succ n ih =>
  intro x0 x1 x2 x3
  simp only [l3, r3, Lib.B1, Lib.B2, Lib.B3, Lib.B4, ih]
variable {R : Type} (N : Nat) (kr : Row -> Option R) (a0 : Row) (a1 : ByteArray)
def b : Option R := l3 N (fun y4 y5 y6 y7 => kr y7) N a0 a1 0 (zeros [Ck.s, Ck.i IntKind.i64, Ck.i IntKind.i64, Ck.s] 0)
theorem b_bind : b N kr a0 a1 = Option.bind (b N (fun r0 => some r0) a0 a1) (fun p => kr p) := by
 unfold b; simp only [Lib.B1, Lib.B2, Lib.B3, Lib.B4, q3_bind]
def vo := b Lib.big (fun r0 => some r0) a0 a1
def c : Bool := Option.isSome (vo a0 a1)
def v := Option.getD (vo a0 a1) ([])
theorem out {x} (h : vo a0 a1 = some x) : c a0 a1 = true /\ v a0 a1 = x := Lib.out_ h
theorem b_eq (hc : c a0 a1 = true) : ∃ N, b N kr a0 a1 = Lib.ap (fun p => kr p) (v a0 a1) := ⟨Lib.big, Lib.bq hc (by apply b_bind)⟩
end Go.FG.U90

namespace Go.FG.U91
def b {R : Type} (kr : Bool -> Option R) (a0 a1 a2 : Row) (a3 : Int) (a4 : ByteArray) : Option R := bif U116.c a0 a4 then bif U116.v a0 a4 then kr true else bif U116.c a1 a4 then kr (U116.v a1 a4) else none else none
variable {R : Type} (kr : Bool -> Option R) (a0 a1 a2 : Row) (a3 : Int) (a4 : ByteArray)
def vo := b (fun r0 => some r0) a0 a1 a2 a3 a4
def c : Bool := Option.isSome (vo a0 a1 a2 a3 a4)
def v := Option.getD (vo a0 a1 a2 a3 a4) false
theorem out {x} (h : vo a0 a1 a2 a3 a4 = some x) : c a0 a1 a2 a3 a4 = true /\ v a0 a1 a2 a3 a4 = x := Lib.out_ h
theorem b_eq (hc : c a0 a1 a2 a3 a4 = true) : b kr a0 a1 a2 a3 a4 = Lib.ap (fun p => kr p) (v a0 a1 a2 a3 a4) := Lib.bq hc (by unfold vo b; simp only [Lib.B1, Lib.B2, Lib.B3, Lib.B4])
end Go.FG.U91

namespace Go.FG.U92
def r9 {R : Type} (N : Nat) (g k0 : F_risiisr R) (x14 : Row) (x15 : Int) (x16 : ByteArray) (x17 x18 : Int) (x19 : ByteArray) (x20 : Row) : Option R := bif decide (x15 < (x14.length : Int)) then bif decide (0 <= x15) && decide (x15 < (x14.length : Int)) then bif !(Go.Op.bytesLess (ByteArray.toList (cvS (cellAt x14 x15.toNat 0))) (ByteArray.toList x16) || List.beq (ByteArray.toList (cvS (cellAt x14 x15.toNat 0))) (ByteArray.toList x16)) then bif decide (0 <= x15) && decide (x15 < (x14.length : Int)) then bif roomy (x20.length + List.length (List.set (zeros [Ck.s, Ck.i IntKind.i64, Ck.i IntKind.i64, Ck.s] 1) 0 [CV.s (cvS (cellAt x14 x15.toNat 0)), CV.i IntKind.i64 (cvI (cellAt x14 x15.toNat 1)), CV.i IntKind.i64 (cvI (cellAt x14 x15.toNat (1 + 1))), CV.s (cvS (cellAt x14 x15.toNat (1 + 1 + 1)))])) 48 then g x14 (w64 (x15 + 1)) x16 x17 x18 x19 (x20 ++ List.set (zeros [Ck.s, Ck.i IntKind.i64, Ck.i IntKind.i64, Ck.s] 1) 0 [CV.s (cvS (cellAt x14 x15.toNat 0)), CV.i IntKind.i64 (cvI (cellAt x14 x15.toNat 1)), CV.i IntKind.i64 (cvI (cellAt x14 x15.toNat (1 + 1))), CV.s (cvS (cellAt x14 x15.toNat (1 + 1 + 1)))]) else none else none else g x14 (w64 (x15 + 1)) x16 x17 x18 x19 x20 else none else k0 x14 x15 x16 x17 x18 x19 x20
def l9 {R : Type} (N : Nat) (k0 : F_risiisr R) : Nat -> F_risiisr R
 | 0 => fun _ _ _ _ _ _ _ => none
 | n + 1 => fun x14 x15 x16 x17 x18 x19 x20 => r9 N (l9 N k0 n) k0 x14 x15 x16 x17 x18 x19 x20
def r3 {R : Type} (N : Nat) (g k0 : F_risiisr R) (x0 : Row) (x1 : Int) (x2 : ByteArray) (x3 x4 : Int) (x5 : ByteArray) (x6 : Row) : Option R := bif decide (x1 < (x0.length : Int)) then bif decide (0 <= x1) && decide (x1 < (x0.length : Int)) then bif Go.Op.bytesLess (ByteArray.toList (cvS (cellAt x0 x1.toNat 0))) (ByteArray.toList x2) then bif decide (0 <= x1) && decide (x1 < (x0.length : Int)) then bif roomy (x6.length + List.length (List.set (zeros [Ck.s, Ck.i IntKind.i64, Ck.i IntKind.i64, Ck.s] 1) 0 [CV.s (cvS (cellAt x0 x1.toNat 0)), CV.i IntKind.i64 (cvI (cellAt x0 x1.toNat 1)), CV.i IntKind.i64 (cvI (cellAt x0 x1.toNat (1 + 1))), CV.s (cvS (cellAt x0 x1.toNat (1 + 1 + 1)))])) 48 then g x0 (w64 (x1 + 1)) x2 x3 x4 x5 (x6 ++ List.set (zeros [Ck.s, Ck.i IntKind.i64, Ck.i IntKind.i64, Ck.s] 1) 0 [CV.s (cvS (cellAt x0 x1.toNat 0)), CV.i IntKind.i64 (cvI (cellAt x0 x1.toNat 1)), CV.i IntKind.i64 (cvI (cellAt x0 x1.toNat (1 + 1))), CV.s (cvS (cellAt x0 x1.toNat (1 + 1 + 1)))]) else none else none else g x0 (w64 (x1 + 1)) x2 x3 x4 x5 x6 else none else k0 x0 x1 x2 x3 x4 x5 x6
def l3 {R : Type} (N : Nat) (k0 : F_risiisr R) : Nat -> F_risiisr R
 | 0 => fun _ _ _ _ _ _ _ => none
 | n + 1 => fun x0 x1 x2 x3 x4 x5 x6 => r3 N (l3 N k0 n) k0 x0 x1 x2 x3 x4 x5 x6
theorem q9_bind {R S : Type} (f : R -> Option S) (N : Nat) (k0 : F_risiisr R) : ∀ n : Nat, (∀ (x14 : Row) (x15 : Int) (x16 : ByteArray) (x17 x18 : Int) (x19 : ByteArray) (x20 : Row), Option.bind (l9 N k0 n x14 x15 x16 x17 x18 x19 x20) f = l9 N (fun y0 y1 y2 y3 y4 y5 y6 => Option.bind (k0 y0 y1 y2 y3 y4 y5 y6) f) n x14 x15 x16 x17 x18 x19 x20) := by
 intro n
 induction n with
 | zero => exact fun _ _ _ _ _ _ _ => rfl
 | succ n ih =>
  intro x14 x15 x16 x17 x18 x19 x20
  simp only [l9, r9, Lib.B1, Lib.B2, Lib.B3, Lib.B4, ih]
theorem q3_bind {R S : Type} (f : R -> Option S) (N : Nat) (k0 : F_risiisr R) : ∀ n : Nat, (∀ (x0 : Row) (x1 : Int) (x2 : ByteArray) (x3 x4 : Int) (x5 : ByteArray) (x6 : Row), Option.bind (l3 N k0 n x0 x1 x2 x3 x4 x5 x6) f = l3 N (fun y0 y1 y2 y3 y4 y5 y6 => Option.bind (k0 y0 y1 y2 y3 y4 y5 y6) f) n x0 x1 x2 x3 x4 x5 x6) := by
 intro n
 induction n with
 | zero => exact fun _ _ _ _ _ _ _ => rfl
 | succ n ih =>
  intro x0 x1 x2 x3 x4 x5 x6
  simp only [l3, r3, Lib.B1, Lib.B2, Lib.B3, Lib.B4, ih, q9_bind]
variable {R : Type} (N : Nat) (kr : Row -> Option R) (a0 : Row) (a1 : ByteArray) (a2 a3 : Int) (a4 : ByteArray)
def b : Option R := l3 N (fun y7 y8 y9 y10 y11 y12 y13 => bif roomy (y13.length + List.length (List.set (zeros [Ck.s, Ck.i IntKind.i64, Ck.i IntKind.i64, Ck.s] 1) 0 [CV.s y9, CV.i IntKind.i64 y10, CV.i IntKind.i64 y11, CV.s y12])) 48 then l9 N (fun y21 y22 y23 y24 y25 y26 y27 => kr y27) N y7 0 y9 y10 y11 y12 (y13 ++ List.set (zeros [Ck.s, Ck.i IntKind.i64, Ck.i IntKind.i64, Ck.s] 1) 0 [CV.s y9, CV.i IntKind.i64 y10, CV.i IntKind.i64 y11, CV.s y12]) else none) N a0 0 a1 a2 a3 a4 (zeros [Ck.s, Ck.i IntKind.i64, Ck.i IntKind.i64, Ck.s] 0)
theorem b_bind : b N kr a0 a1 a2 a3 a4 = Option.bind (b N (fun r0 => some r0) a0 a1 a2 a3 a4) (fun p => kr p) := by
 unfold b; simp only [Lib.B1, Lib.B2, Lib.B3, Lib.B4, q9_bind, q3_bind]
def vo := b Lib.big (fun r0 => some r0) a0 a1 a2 a3 a4
def c : Bool := Option.isSome (vo a0 a1 a2 a3 a4)
def v := Option.getD (vo a0 a1 a2 a3 a4) ([])
theorem out {x} (h : vo a0 a1 a2 a3 a4 = some x) : c a0 a1 a2 a3 a4 = true /\ v a0 a1 a2 a3 a4 = x := Lib.out_ h
theorem b_eq (hc : c a0 a1 a2 a3 a4 = true) : ∃ N, b N kr a0 a1 a2 a3 a4 = Lib.ap (fun p => kr p) (v a0 a1 a2 a3 a4) := ⟨Lib.big, Lib.bq hc (by apply b_bind)⟩
end Go.FG.U92

namespace Go.FG.U53
variable {R : Type} (kr : F_irrrrirri R) (a0 : Int) (a1 a2 a3 a4 : Row) (a5 : Int) (a6 a7 : Row) (a8 : Int) (a9 : ByteArray) (a10 a11 : Int) (a12 : ByteArray)
def b : Option R := bif U89.c a2 a3 a4 a5 a9 then Lib.lt (U89.v a2 a3 a4 a5 a9) fun t0 => bif !List.beq (ByteArray.toList t0.2.2.2.2) (ByteArray.toList { data := #[] }) then bif U90.c a1 t0.2.2.2.2 then Lib.lt (U90.v a1 t0.2.2.2.2) fun t1 => bif U91.c t0.1 t0.2.1 t0.2.2.1 t0.2.2.2.1 a9 then Lib.lt (U91.v t0.1 t0.2.1 t0.2.2.1 t0.2.2.2.1 a9) fun t2 => bif t2 then bif U92.c t1 a9 a10 a11 a12 then Lib.lt (U92.v t1 a9 a10 a11 a12) fun t3 => kr a0 t3 t0.1 t0.2.1 t0.2.2.1 t0.2.2.2.1 a6 a7 a8 else none else kr a0 t1 t0.1 t0.2.1 t0.2.2.1 t0.2.2.2.1 a6 a7 a8 else none else none else bif U91.c t0.1 t0.2.1 t0.2.2.1 t0.2.2.2.1 a9 then Lib.lt (U91.v t0.1 t0.2.1 t0.2.2.1 t0.2.2.2.1 a9) fun t4 => bif t4 then bif U92.c a1 a9 a10 a11 a12 then Lib.lt (U92.v a1 a9 a10 a11 a12) fun t5 => kr a0 t5 t0.1 t0.2.1 t0.2.2.1 t0.2.2.2.1 a6 a7 a8 else none else kr a0 a1 t0.1 t0.2.1 t0.2.2.1 t0.2.2.2.1 a6 a7 a8 else none else none
def vo := b (fun r0 r1 r2 r3 r4 r5 r6 r7 r8 => some (r0, r1, r2, r3, r4, r5, r6, r7, r8)) a0 a1 a2 a3 a4 a5 a6 a7 a8 a9 a10 a11 a12
def c : Bool := Option.isSome (vo a0 a1 a2 a3 a4 a5 a6 a7 a8 a9 a10 a11 a12)
def v := Option.getD (vo a0 a1 a2 a3 a4 a5 a6 a7 a8 a9 a10 a11 a12) (0, [], [], [], [], 0, [], [], 0)
theorem out {x} (h : vo a0 a1 a2 a3 a4 a5 a6 a7 a8 a9 a10 a11 a12 = some x) : c a0 a1 a2 a3 a4 a5 a6 a7 a8 a9 a10 a11 a12 = true /\ v a0 a1 a2 a3 a4 a5 a6 a7 a8 a9 a10 a11 a12 = x := Lib.out_ h
theorem b_eq (hc : c a0 a1 a2 a3 a4 a5 a6 a7 a8 a9 a10 a11 a12 = true) : b kr a0 a1 a2 a3 a4 a5 a6 a7 a8 a9 a10 a11 a12 = Lib.ap (fun p => kr p.1 p.2.1 p.2.2.1 p.2.2.2.1 p.2.2.2.2.1 p.2.2.2.2.2.1 p.2.2.2.2.2.2.1 p.2.2.2.2.2.2.2.1 p.2.2.2.2.2.2.2.2) (v a0 a1 a2 a3 a4 a5 a6 a7 a8 a9 a10 a11 a12) := Lib.bq hc (by unfold vo b; simp only [Lib.B1, Lib.B2, Lib.B3, Lib.B4])
end Go.FG.U53

namespace Go.FG.U17
def r4 {R : Type} (N : Nat) (g k0 : F_iriiiiiiirrrrrr R) (x0 : Int) (x1 : Row) (x2 x3 x4 x5 x6 x7 x8 : Int) (x9 x10 x11 x12 x13 x14 : Row) : Option R := bif decide (x2 < (x1.length : Int)) then bif decide (0 <= x2) && decide (x2 < (x1.length : Int)) then bif U51.v (cvS (cellAt x1 x2.toNat 0)) (cvI (cellAt x1 x2.toNat 1)) (cvI (cellAt x1 x2.toNat (1 + 1))) (cvS (cellAt x1 x2.toNat (1 + 1 + 1))) then bif decide (0 <= x2) && decide (x2 < (x1.length : Int)) then bif U52.v (cvS (cellAt x1 x2.toNat 0)) (cvI (cellAt x1 x2.toNat 1)) (cvI (cellAt x1 x2.toNat (1 + 1))) (cvS (cellAt x1 x2.toNat (1 + 1 + 1))) x0 then bif decide (0 <= x2) && decide (x2 < (x1.length : Int)) then bif U53.c x6 x9 x10 x11 x12 x7 x13 x14 x8 (cvS (cellAt x1 x2.toNat 0)) (cvI (cellAt x1 x2.toNat 1)) (cvI (cellAt x1 x2.toNat (1 + 1))) (cvS (cellAt x1 x2.toNat (1 + 1 + 1))) then Lib.lt (U53.v x6 x9 x10 x11 x12 x7 x13 x14 x8 (cvS (cellAt x1 x2.toNat 0)) (cvI (cellAt x1 x2.toNat 1)) (cvI (cellAt x1 x2.toNat (1 + 1))) (cvS (cellAt x1 x2.toNat (1 + 1 + 1)))) fun t15 => g x0 x1 (w64 (x2 + 1)) x3 x4 x5 t15.1 t15.2.2.2.2.2.1 t15.2.2.2.2.2.2.2.2 t15.2.1 t15.2.2.1 t15.2.2.2.1 t15.2.2.2.2.1 t15.2.2.2.2.2.2.1 t15.2.2.2.2.2.2.2.1 else none else none else g x0 x1 (w64 (x2 + 1)) x3 x4 x5 x6 x7 x8 x9 x10 x11 x12 x13 x14 else none else g x0 x1 (w64 (x2 + 1)) x3 x4 x5 x6 x7 x8 x9 x10 x11 x12 x13 x14 else none else k0 x0 x1 x2 x3 x4 x5 x6 x7 x8 x9 x10 x11 x12 x13 x14
def l4 {R : Type} (N : Nat) (k0 : F_iriiiiiiirrrrrr R) : Nat -> F_iriiiiiiirrrrrr R
 | 0 => fun _ _ _ _ _ _ _ _ _ _ _ _ _ _ _ => none
 | n + 1 => fun x0 x1 x2 x3 x4 x5 x6 x7 x8 x9 x10 x11 x12 x13 x14 => r4 N (l4 N k0 n) k0 x0 x1 x2 x3 x4 x5 x6 x7 x8 x9 x10 x11 x12 x13 x14
theorem q4_bind {R S : Type} (f : R -> Option S) (N : Nat) (k0 : F_iriiiiiiirrrrrr R) : ∀ n : Nat, (∀ (x0 : Int) (x1 : Row) (x2 x3 x4 x5 x6 x7 x8 : Int) (x9 x10 x11 x12 x13 x14 : Row), Option.bind (l4 N k0 n x0 x1 x2 x3 x4 x5 x6 x7 x8 x9 x10 x11 x12 x13 x14) f = l4 N (fun y0 y1 y2 y3 y4 y5 y6 y7 y8 y9 y10 y11 y12 y13 y14 => Option.bind (k0 y0 y1 y2 y3 y4 y5 y6 y7 y8 y9 y10 y11 y12 y13 y14) f) n x0 x1 x2 x3 x4 x5 x6 x7 x8 x9 x10 x11 x12 x13 x14) := by
 intro n
 induction n with
 | zero => exact fun _ _ _ _ _ _ _ _ _ _ _ _ _ _ _ => rfl
 | succ n ih =>
  intro x0 x1 x2 x3 x4 x5 x6 x7 x8 x9 x10 x11 x12 x13 x14
  simp only [l4, r4, Lib.B1, Lib.B2, Lib.B3, Lib.B4, ih]
variable {R : Type} (N : Nat) (kr : F_irrrrirri R) (a0 : Int) (a1 : Row)
def b : Option R := l4 N (fun y16 y17 y18 y19 y20 y21 y22 y23 y24 y25 y26 y27 y28 y29 y30 => kr y22 y25 y26 y27 y28 y23 y29 y30 y24) N a0 a1 0 0 0 0 a0 0 0 [] [] [] ([] ++ List.set (zeros [Ck.l 3] 1) 0 [CV.l 3 (zeros [Ck.i IntKind.i64] (Int.toNat 16))] ++ List.set (zeros [Ck.l 3] 1) 0 [CV.l 3 (zeros [Ck.i IntKind.i64] (Int.toNat 16))] ++ List.set (zeros [Ck.l 3] 1) 0 [CV.l 3 (zeros [Ck.i IntKind.i64] (Int.toNat 16))]) [] []
theorem b_bind : b N kr a0 a1 = Option.bind (b N (fun r0 r1 r2 r3 r4 r5 r6 r7 r8 => some (r0, r1, r2, r3, r4, r5, r6, r7, r8)) a0 a1) (fun p => kr p.1 p.2.1 p.2.2.1 p.2.2.2.1 p.2.2.2.2.1 p.2.2.2.2.2.1 p.2.2.2.2.2.2.1 p.2.2.2.2.2.2.2.1 p.2.2.2.2.2.2.2.2) := by
 unfold b; simp only [Lib.B1, Lib.B2, Lib.B3, Lib.B4, q4_bind]
def vo := b Lib.big (fun r0 r1 r2 r3 r4 r5 r6 r7 r8 => some (r0, r1, r2, r3, r4, r5, r6, r7, r8)) a0 a1
def c : Bool := Option.isSome (vo a0 a1)
def v := Option.getD (vo a0 a1) (0, [], [], [], [], 0, [], [], 0)
theorem out {x} (h : vo a0 a1 = some x) : c a0 a1 = true /\ v a0 a1 = x := Lib.out_ h
theorem b_eq (hc : c a0 a1 = true) : ∃ N, b N kr a0 a1 = Lib.ap (fun p => kr p.1 p.2.1 p.2.2.1 p.2.2.2.1 p.2.2.2.2.1 p.2.2.2.2.2.1 p.2.2.2.2.2.2.1 p.2.2.2.2.2.2.2.1 p.2.2.2.2.2.2.2.2) (v a0 a1) := ⟨Lib.big, Lib.bq hc (by apply b_bind)⟩
end Go.FG.U17

namespace Go.FG.U119
def r3 {R : Type} (N : Nat) (g : F_iii R) (g1 : F_iiir R) (k0 : F_iii R) (k1 : F_iiir R) (x0 x1 x2 : Int) : Option R := bif decide (x0 < 3) then g1 (w64 (x0 + 1)) x1 x2 ([] ++ List.set (zeros [Ck.l 3] 1) 0 [CV.l 3 (zeros [Ck.i IntKind.i64] (Int.toNat 16))]) else k0 x0 x1 x2
def r3a {R : Type} (N : Nat) (g : F_iii R) (g1 : F_iiir R) (k0 : F_iii R) (k1 : F_iiir R) (x3 x4 x5 : Int) (x6 : Row) : Option R := bif decide (x3 < 3) then bif roomy (x6.length + List.length (List.set (zeros [Ck.l 3] 1) 0 [CV.l 3 (zeros [Ck.i IntKind.i64] (Int.toNat 16))])) 24 then g1 (w64 (x3 + 1)) x4 x5 (x6 ++ List.set (zeros [Ck.l 3] 1) 0 [CV.l 3 (zeros [Ck.i IntKind.i64] (Int.toNat 16))]) else none else k1 x3 x4 x5 x6
def l3a {R : Type} (N : Nat) (k0 : F_iii R) (k1 : F_iiir R) : Nat -> F_iiir R
 | 0 => fun _ _ _ _ => none
 | n + 1 => fun x3 x4 x5 x6 => r3a N (fun x0 x1 x2 => none) (l3a N k0 k1 n) k0 k1 x3 x4 x5 x6
def l3 {R : Type} (N : Nat) (k0 : F_iii R) (k1 : F_iiir R) : Nat -> F_iii R
 | 0 => fun _ _ _ => none
 | n + 1 => fun x0 x1 x2 => r3 N (l3 N k0 k1 n) (l3a N k0 k1 n) k0 k1 x0 x1 x2
theorem q3_bind {R S : Type} (f : R -> Option S) (N : Nat) (k0 : F_iii R) (k1 : F_iiir R) : ∀ n : Nat, (∀ (x0 x1 x2 : Int), Option.bind (l3 N k0 k1 n x0 x1 x2) f = l3 N (fun y0 y1 y2 => Option.bind (k0 y0 y1 y2) f) (fun y0 y1 y2 y3 => Option.bind (k1 y0 y1 y2 y3) f) n x0 x1 x2) /\ (∀ (x3 x4 x5 : Int) (x6 : Row), Option.bind (l3a N k0 k1 n x3 x4 x5 x6) f = l3a N (fun y0 y1 y2 => Option.bind (k0 y0 y1 y2) f) (fun y0 y1 y2 y3 => Option.bind (k1 y0 y1 y2 y3) f) n x3 x4 x5 x6) := by
 intro n
 induction n with
 | zero => exact ⟨(fun _ _ _ => rfl), (fun _ _ _ _ => rfl)⟩
 | succ n ih =>
  refine ⟨?_, ?_⟩
  ·intro x0 x1 x2
   simp only [l3, r3, Lib.B1, Lib.B2, Lib.B3, Lib.B4, ih.1, ih.2]
  ·intro x3 x4 x5 x6
   simp only [l3a, r3a, Lib.B1, Lib.B2, Lib.B3, Lib.B4, ih.1, ih.2]
theorem l3_bind {R S : Type} (f : R -> Option S) (N : Nat) (k0 : F_iii R) (k1 : F_iiir R) (n : Nat) (x0 x1 x2 : Int) : Option.bind (l3 N k0 k1 n x0 x1 x2) f = l3 N (fun y0 y1 y2 => Option.bind (k0 y0 y1 y2) f) (fun y0 y1 y2 y3 => Option.bind (k1 y0 y1 y2 y3) f) n x0 x1 x2 := (q3_bind f N k0 k1 n).1 x0 x1 x2
theorem l3a_bind {R S : Type} (f : R -> Option S) (N : Nat) (k0 : F_iii R) (k1 : F_iiir R) (n : Nat) (x3 x4 x5 : Int) (x6 : Row) : Option.bind (l3a N k0 k1 n x3 x4 x5 x6) f = l3a N (fun y0 y1 y2 => Option.bind (k0 y0 y1 y2) f) (fun y0 y1 y2 y3 => Option.bind (k1 y0 y1 y2 y3) f) n x3 x4 x5 x6 := (q3_bind f N k0 k1 n).2 x3 x4 x5 x6
variable {R : Type} (N : Nat) (kr : F_ri R)
def b : Option R := l3 N (fun y14 y15 y16 => kr [] y16) (fun y17 y18 y19 y20 => kr y20 y19) N 0 0 0
theorem b_bind : b N kr  = Option.bind (b N (fun r0 r1 => some (r0, r1)) ) (fun p => kr p.1 p.2) := by
 unfold b; simp only [Lib.B1, Lib.B2, Lib.B3, Lib.B4, l3_bind, l3a_bind]
def vo := b Lib.big (fun r0 r1 => some (r0, r1))
def c : Bool := Option.isSome (vo )
def v := Option.getD (vo ) ([], 0)
theorem b_eq (hc : c  = true) : ∃ N, b N kr  = Lib.ap (fun p => kr p.1 p.2) v := ⟨Lib.big, Lib.bq hc (by apply b_bind)⟩
end Go.FG.U119

namespace Go.FG.U93
def b {R : Type} (kr : F_rrri R)  : Option R := kr [] [] ([] ++ List.set (zeros [Ck.l 3] 1) 0 [CV.l 3 (zeros [Ck.i IntKind.i64] (Int.toNat 16))] ++ List.set (zeros [Ck.l 3] 1) 0 [CV.l 3 (zeros [Ck.i IntKind.i64] (Int.toNat 16))] ++ List.set (zeros [Ck.l 3] 1) 0 [CV.l 3 (zeros [Ck.i IntKind.i64] (Int.toNat 16))]) 0
def v  : Row × Row × Row × Int := ([], [], [] ++ List.set (zeros [Ck.l 3] 1) 0 [CV.l 3 (zeros [Ck.i IntKind.i64] (Int.toNat 16))] ++ List.set (zeros [Ck.l 3] 1) 0 [CV.l 3 (zeros [Ck.i IntKind.i64] (Int.toNat 16))] ++ List.set (zeros [Ck.l 3] 1) 0 [CV.l 3 (zeros [Ck.i IntKind.i64] (Int.toNat 16))], 0)
theorem b_eq {R : Type} (kr : F_rrri R)  : b kr  = kr v.1 v.2.1 v.2.2.1 v.2.2.2 := by
 first | rfl | (unfold b v; simp only [Bool.cond_eq_ite]; (repeat' split) <;> rfl)
end Go.FG.U93

namespace Go.FG.U55
def b {R : Type} (kr : F_irrrrirri R)  : Option R := kr 1 [] [] [] ([] ++ List.set (zeros [Ck.l 3] 1) 0 [CV.l 3 (zeros [Ck.i IntKind.i64] (Int.toNat 16))] ++ List.set (zeros [Ck.l 3] 1) 0 [CV.l 3 (zeros [Ck.i IntKind.i64] (Int.toNat 16))] ++ List.set (zeros [Ck.l 3] 1) 0 [CV.l 3 (zeros [Ck.i IntKind.i64] (Int.toNat 16))]) 0 [] [] 0
def v  : Int × Row × Row × Row × Row × Int × Row × Row × Int := (1, [], [], [], [] ++ List.set (zeros [Ck.l 3] 1) 0 [CV.l 3 (zeros [Ck.i IntKind.i64] (Int.toNat 16))] ++ List.set (zeros [Ck.l 3] 1) 0 [CV.l 3 (zeros [Ck.i IntKind.i64] (Int.toNat 16))] ++ List.set (zeros [Ck.l 3] 1) 0 [CV.l 3 (zeros [Ck.i IntKind.i64] (Int.toNat 16))], 0, [], [], 0)
theorem b_eq {R : Type} (kr : F_irrrrirri R)  : b kr  = kr v.1 v.2.1 v.2.2.1 v.2.2.2.1 v.2.2.2.2.1 v.2.2.2.2.2.1 v.2.2.2.2.2.2.1 v.2.2.2.2.2.2.2.1 v.2.2.2.2.2.2.2.2 := by
 first | rfl | (unfold b v; simp only [Bool.cond_eq_ite]; (repeat' split) <;> rfl)
end Go.FG.U55

namespace Go.FG.U61
def b {R : Type} (kr : Bool -> Option R) (a0 a1 a2 : Int) : Option R := bif decide (a0 ≥ a1) then kr (decide (a0 <= a2)) else kr false
def v (a0 a1 a2 : Int) : Bool := bif decide (a0 ≥ a1) then decide (a0 <= a2) else false
theorem b_eq {R : Type} (kr : Bool -> Option R) (a0 a1 a2 : Int) : b kr a0 a1 a2 = kr (v a0 a1 a2) := by
 first | rfl | (unfold b v; simp only [Bool.cond_eq_ite]; (repeat' split) <;> rfl)
end Go.FG.U61

namespace Go.FG.U120
def b {R : Type} (kr : Bool -> Option R) (a0 : ByteArray) : Option R := kr (U61.v (a0.size : Int) 1 30)
def v (a0 : ByteArray) : Bool := (U61.v (a0.size : Int) 1 30)
theorem b_eq {R : Type} (kr : Bool -> Option R) (a0 : ByteArray) : b kr a0 = kr (v a0) := by
 first | rfl | (unfold b v; simp only [Bool.cond_eq_ite]; (repeat' split) <;> rfl)
end Go.FG.U120

namespace Go.FG.U95
def b {R : Type} (kr : Bool -> Option R) (a0 : Int) : Option R := kr (U61.v a0 0 1000000000)
def v (a0 : Int) : Bool := (U61.v a0 0 1000000000)
theorem b_eq {R : Type} (kr : Bool -> Option R) (a0 : Int) : b kr a0 = kr (v a0) := by
 first | rfl | (unfold b v; simp only [Bool.cond_eq_ite]; (repeat' split) <;> rfl)
end Go.FG.U95

namespace Go.FG.U94
def b {R : Type} (kr : Bool -> Option R) (a0 : ByteArray) (a1 a2 : Int) (a3 : ByteArray) : Option R := bif U120.v a0 then bif U95.v a1 then bif U61.v a2 1 999999 then kr (decide ((a3.size : Int) <= 400)) else kr false else kr false else kr false
def v (a0 : ByteArray) (a1 a2 : Int) (a3 : ByteArray) : Bool := bif U120.v a0 then bif U95.v a1 then bif U61.v a2 1 999999 then decide ((a3.size : Int) <= 400) else false else false else false
theorem b_eq {R : Type} (kr : Bool -> Option R) (a0 : ByteArray) (a1 a2 : Int) (a3 : ByteArray) : b kr a0 a1 a2 a3 = kr (v a0 a1 a2 a3) := by
 first | rfl | (unfold b v; simp only [Bool.cond_eq_ite]; (repeat' split) <;> rfl)
end Go.FG.U94

namespace Go.FG.U56
def b {R : Type} (kr : Bool -> Option R) (a0 : ByteArray) (a1 a2 : Int) (a3 : ByteArray) (a4 : Int) : Option R := bif U94.v a0 a1 a2 a3 then bif U95.v a4 then kr (U61.v a4 a1 (w64 (w64 (a1 + a2) - 1))) else kr false else kr false
def v (a0 : ByteArray) (a1 a2 : Int) (a3 : ByteArray) (a4 : Int) : Bool := bif U94.v a0 a1 a2 a3 then bif U95.v a4 then U61.v a4 a1 (w64 (w64 (a1 + a2) - 1)) else false else false
theorem b_eq {R : Type} (kr : Bool -> Option R) (a0 : ByteArray) (a1 a2 : Int) (a3 : ByteArray) (a4 : Int) : b kr a0 a1 a2 a3 a4 = kr (v a0 a1 a2 a3 a4) := by
 first | rfl | (unfold b v; simp only [Bool.cond_eq_ite]; (repeat' split) <;> rfl)
end Go.FG.U56

namespace Go.FG.U105
variable {R : Type} (kr : Row -> Option R) (a0 : Row)
def b : Option R := bif roomy (List.length (zeros [Ck.s] 0) + a0.length) 16 then kr (zeros [Ck.s] 0 ++ a0) else none
def vo := b (fun r0 => some r0) a0
def c : Bool := Option.isSome (vo a0)
def v := Option.getD (vo a0) ([])
theorem out {x} (h : vo a0 = some x) : c a0 = true /\ v a0 = x := Lib.out_ h
theorem b_eq (hc : c a0 = true) : b kr a0 = Lib.ap (fun p => kr p) (v a0) := Lib.bq hc (by unfold vo b; simp only [Lib.B1, Lib.B2, Lib.B3, Lib.B4])
end Go.FG.U105

namespace Go.FG.U132
variable {R : Type} (kr : Row -> Option R) (a0 : Row)
def b : Option R := bif roomy (List.length (zeros [Ck.i IntKind.i64] 0) + a0.length) 8 then kr (zeros [Ck.i IntKind.i64] 0 ++ a0) else none
def vo := b (fun r0 => some r0) a0
def c : Bool := Option.isSome (vo a0)
def v := Option.getD (vo a0) ([])
theorem out {x} (h : vo a0 = some x) : c a0 = true /\ v a0 = x := Lib.out_ h
theorem b_eq (hc : c a0 = true) : b kr a0 = Lib.ap (fun p => kr p) (v a0) := Lib.bq hc (by unfold vo b; simp only [Lib.B1, Lib.B2, Lib.B3, Lib.B4])
end Go.FG.U132

namespace Go.FG.U106
def r3 {R : Type} (N : Nat) (g : F_riiii R) (g1 : F_riiiir R) (k0 : F_riiii R) (k1 : F_riiiir R) (x0 : Row) (x1 x2 x3 x4 : Int) : Option R := bif decide (x2 < x1) then bif decide (0 <= x2) && decide (x2 < (x0.length : Int)) then bif U132.c (cvL (cellAt x0 x2.toNat 0)) then g1 x0 x1 (w64 (x2 + 1)) x3 x4 ([] ++ List.set (zeros [Ck.l 3] 1) 0 [CV.l 3 (U132.v (cvL (cellAt x0 x2.toNat 0)))]) else none else none else k0 x0 x1 x2 x3 x4
def r3a {R : Type} (N : Nat) (g : F_riiii R) (g1 : F_riiiir R) (k0 : F_riiii R) (k1 : F_riiiir R) (x5 : Row) (x6 x7 x8 x9 : Int) (x10 : Row) : Option R := bif decide (x7 < x6) then bif decide (0 <= x7) && decide (x7 < (x5.length : Int)) then bif U132.c (cvL (cellAt x5 x7.toNat 0)) then bif roomy (x10.length + List.length (List.set (zeros [Ck.l 3] 1) 0 [CV.l 3 (U132.v (cvL (cellAt x5 x7.toNat 0)))])) 24 then g1 x5 x6 (w64 (x7 + 1)) x8 x9 (x10 ++ List.set (zeros [Ck.l 3] 1) 0 [CV.l 3 (U132.v (cvL (cellAt x5 x7.toNat 0)))]) else none else none else none else k1 x5 x6 x7 x8 x9 x10
def l3a {R : Type} (N : Nat) (k0 : F_riiii R) (k1 : F_riiiir R) : Nat -> F_riiiir R
 | 0 => fun _ _ _ _ _ _ => none
 | n + 1 => fun x5 x6 x7 x8 x9 x10 => r3a N (fun x0 x1 x2 x3 x4 => none) (l3a N k0 k1 n) k0 k1 x5 x6 x7 x8 x9 x10
def l3 {R : Type} (N : Nat) (k0 : F_riiii R) (k1 : F_riiiir R) : Nat -> F_riiii R
 | 0 => fun _ _ _ _ _ => none
 | n + 1 => fun x0 x1 x2 x3 x4 => r3 N (l3 N k0 k1 n) (l3a N k0 k1 n) k0 k1 x0 x1 x2 x3 x4
theorem q3_bind {R S : Type} (f : R -> Option S) (N : Nat) (k0 : F_riiii R) (k1 : F_riiiir R) : ∀ n : Nat, (∀ (x0 : Row) (x1 x2 x3 x4 : Int), Option.bind (l3 N k0 k1 n x0 x1 x2 x3 x4) f = l3 N (fun y0 y1 y2 y3 y4 => Option.bind (k0 y0 y1 y2 y3 y4) f) (fun y0 y1 y2 y3 y4 y5 => Option.bind (k1 y0 y1 y2 y3 y4 y5) f) n x0 x1 x2 x3 x4) /\ (∀ (x5 : Row) (x6 x7 x8 x9 : Int) (x10 : Row), Option.bind (l3a N k0 k1 n x5 x6 x7 x8 x9 x10) f = l3a N (fun y0 y1 y2 y3 y4 => Option.bind (k0 y0 y1 y2 y3 y4) f) (fun y0 y1 y2 y3 y4 y5 => Option.bind (k1 y0 y1 y2 y3 y4 y5) f) n x5 x6 x7 x8 x9 x10) := by
 intro n
 induction n with
 | zero => exact ⟨(fun _ _ _ _ _ => rfl), (fun _ _ _ _ _ _ => rfl)⟩
 | succ n ih =>
  refine ⟨?_, ?_⟩
  ·intro x0 x1 x2 x3 x4
   simp only [l3, r3, Lib.B1, Lib.B2, Lib.B3, Lib.B4, ih.1, ih.2]
  ·intro x5 x6 x7 x8 x9 x10
   simp only [l3a, r3a, Lib.B1, Lib.B2, Lib.B3, Lib.B4, ih.1, ih.2]
theorem l3_bind {R S : Type} (f : R -> Option S) (N : Nat) (k0 : F_riiii R) (k1 : F_riiiir R) (n : Nat) (x0 : Row) (x1 x2 x3 x4 : Int) : Option.bind (l3 N k0 k1 n x0 x1 x2 x3 x4) f = l3 N (fun y0 y1 y2 y3 y4 => Option.bind (k0 y0 y1 y2 y3 y4) f) (fun y0 y1 y2 y3 y4 y5 => Option.bind (k1 y0 y1 y2 y3 y4 y5) f) n x0 x1 x2 x3 x4 := (q3_bind f N k0 k1 n).1 x0 x1 x2 x3 x4
theorem l3a_bind {R S : Type} (f : R -> Option S) (N : Nat) (k0 : F_riiii R) (k1 : F_riiiir R) (n : Nat) (x5 : Row) (x6 x7 x8 x9 : Int) (x10 : Row) : Option.bind (l3a N k0 k1 n x5 x6 x7 x8 x9 x10) f = l3a N (fun y0 y1 y2 y3 y4 => Option.bind (k0 y0 y1 y2 y3 y4) f) (fun y0 y1 y2 y3 y4 y5 => Option.bind (k1 y0 y1 y2 y3 y4 y5) f) n x5 x6 x7 x8 x9 x10 := (q3_bind f N k0 k1 n).2 x5 x6 x7 x8 x9 x10
variable {R : Type} (N : Nat) (kr : F_ri R) (a0 : Row) (a1 : Int)
def b : Option R := l3 N (fun y22 y23 y24 y25 y26 => kr [] y26) (fun y27 y28 y29 y30 y31 y32 => kr y32 y31) N a0 (a0.length : Int) 0 0 a1
theorem b_bind : b N kr a0 a1 = Option.bind (b N (fun r0 r1 => some (r0, r1)) a0 a1) (fun p => kr p.1 p.2) := by
 unfold b; simp only [Lib.B1, Lib.B2, Lib.B3, Lib.B4, l3_bind, l3a_bind]
def vo := b Lib.big (fun r0 r1 => some (r0, r1)) a0 a1
def c : Bool := Option.isSome (vo a0 a1)
def v := Option.getD (vo a0 a1) ([], 0)
theorem out {x} (h : vo a0 a1 = some x) : c a0 a1 = true /\ v a0 a1 = x := Lib.out_ h
theorem b_eq (hc : c a0 a1 = true) : ∃ N, b N kr a0 a1 = Lib.ap (fun p => kr p.1 p.2) (v a0 a1) := ⟨Lib.big, Lib.bq hc (by apply b_bind)⟩
end Go.FG.U106

namespace Go.FG.U73
variable {R : Type} (kr : F_rrri R) (a0 a1 a2 : Row) (a3 : Int)
def b : Option R := bif U105.c a0 then bif U105.c a1 then bif U106.c a2 a3 then kr (U105.v a0) (U105.v a1) ((U106.v a2 a3).1) ((U106.v a2 a3).2) else none else none else none
def vo := b (fun r0 r1 r2 r3 => some (r0, r1, r2, r3)) a0 a1 a2 a3
def c : Bool := Option.isSome (vo a0 a1 a2 a3)
def v := Option.getD (vo a0 a1 a2 a3) ([], [], [], 0)
theorem out {x} (h : vo a0 a1 a2 a3 = some x) : c a0 a1 a2 a3 = true /\ v a0 a1 a2 a3 = x := Lib.out_ h
theorem b_eq (hc : c a0 a1 a2 a3 = true) : b kr a0 a1 a2 a3 = Lib.ap (fun p => kr p.1 p.2.1 p.2.2.1 p.2.2.2) (v a0 a1 a2 a3) := Lib.bq hc (by unfold vo b; simp only [Lib.B1, Lib.B2, Lib.B3, Lib.B4])
end Go.FG.U73

namespace Go.FG.U152
variable {R : Type} (kr : Row -> Option R) (a0 : Int)
def b : Option R := bif decide (a0 < 0) then none else bif decide (w64 (a0 - w64 (0 - 0)) > 0) then bif decide (0 <= w64 (a0 - w64 (0 - 0))) && roomy (List.length ([] : Row) + Int.toNat (w64 (a0 - w64 (0 - 0)))) 16 && decide (w64 (a0 - w64 (0 - 0)) <= 9223372036854775807) then kr (view ([] ++ zeros [Ck.s] (Int.toNat (w64 (a0 - w64 (0 - 0))))) (Int.toNat 0) (Int.toNat 0)) else none else kr []
def vo := b (fun r0 => some r0) a0
def c : Bool := Option.isSome (vo a0)
def v := Option.getD (vo a0) ([])
theorem out {x} (h : vo a0 = some x) : c a0 = true /\ v a0 = x := Lib.out_ h
theorem b_eq (hc : c a0 = true) : b kr a0 = Lib.ap (fun p => kr p) (v a0) := Lib.bq hc (by unfold vo b; simp only [Lib.B1, Lib.B2, Lib.B3, Lib.B4])
end Go.FG.U152

namespace Go.FG.U145
def r11 {R : Type} (N : Nat) (g k0 : F_riir R) (x10 : Row) (x11 x12 : Int) (x13 : Row) : Option R := bif decide (x12 < x11) then bif decide (0 <= x12) && decide (x12 < (x10.length : Int)) then bif roomy (x13.length + List.length (cvL (cellAt x10 x12.toNat 0))) 16 then g x10 x11 (w64 (x12 + 1)) (x13 ++ cvL (cellAt x10 x12.toNat 0)) else none else none else k0 x10 x11 x12 x13
def l11 {R : Type} (N : Nat) (k0 : F_riir R) : Nat -> F_riir R
 | 0 => fun _ _ _ _ => none
 | n + 1 => fun x10 x11 x12 x13 => r11 N (l11 N k0 n) k0 x10 x11 x12 x13
def r3 {R : Type} (N : Nat) (g k0 : F_ririi R) (x0 : Row) (x1 : Int) (x2 : Row) (x3 x4 : Int) : Option R := bif decide (x4 < x3) then bif decide (0 <= x4) && decide (x4 < (x2.length : Int)) then bif decide (w64 (x1 + (↑(List.length (cvL (cellAt x2 x4.toNat 0))) : Int)) < 0) then none else g x0 (w64 (x1 + (↑(List.length (cvL (cellAt x2 x4.toNat 0))) : Int))) x2 x3 (w64 (x4 + 1)) else none else k0 x0 x1 x2 x3 x4
def l3 {R : Type} (N : Nat) (k0 : F_ririi R) : Nat -> F_ririi R
 | 0 => fun _ _ _ _ _ => none
 | n + 1 => fun x0 x1 x2 x3 x4 => r3 N (l3 N k0 n) k0 x0 x1 x2 x3 x4
theorem q11_bind {R S : Type} (f : R -> Option S) (N : Nat) (k0 : F_riir R) : ∀ n : Nat, (∀ (x10 : Row) (x11 x12 : Int) (x13 : Row), Option.bind (l11 N k0 n x10 x11 x12 x13) f = l11 N (fun y0 y1 y2 y3 => Option.bind (k0 y0 y1 y2 y3) f) n x10 x11 x12 x13) := by
 intro n
 induction n with
 | zero => exact fun _ _ _ _ => rfl
 | succ n ih =>
  intro x10 x11 x12 x13
  simp only [l11, r11, Lib.B1, Lib.B2, Lib.B3, Lib.B4, ih]
theorem q3_bind {R S : Type} (f : R -> Option S) (N : Nat) (k0 : F_ririi R) : ∀ n : Nat, (∀ (x0 : Row) (x1 : Int) (x2 : Row) (x3 x4 : Int), Option.bind (l3 N k0 n x0 x1 x2 x3 x4) f = l3 N (fun y0 y1 y2 y3 y4 => Option.bind (k0 y0 y1 y2 y3 y4) f) n x0 x1 x2 x3 x4) := by
 intro n
 induction n with
 | zero => exact fun _ _ _ _ _ => rfl
 | succ n ih =>
  intro x0 x1 x2 x3 x4
  simp only [l3, r3, Lib.B1, Lib.B2, Lib.B3, Lib.B4, ih, q11_bind]
variable {R : Type} (N : Nat) (kr : Row -> Option R) (a0 : Row)
def b : Option R := l3 N (fun y5 y6 y7 y8 y9 => bif U152.c y6 then l11 N (fun y14 y15 y16 y17 => kr y17) N y5 (y5.length : Int) 0 (U152.v y6) else none) N a0 0 a0 (a0.length : Int) 0
theorem b_bind : b N kr a0 = Option.bind (b N (fun r0 => some r0) a0) (fun p => kr p) := by
 unfold b; simp only [Lib.B1, Lib.B2, Lib.B3, Lib.B4, q11_bind, q3_bind]
def vo := b Lib.big (fun r0 => some r0) a0
def c : Bool := Option.isSome (vo a0)
def v := Option.getD (vo a0) ([])
theorem out {x} (h : vo a0 = some x) : c a0 = true /\ v a0 = x := Lib.out_ h
theorem b_eq (hc : c a0 = true) : ∃ N, b N kr a0 = Lib.ap (fun p => kr p) (v a0) := ⟨Lib.big, Lib.bq hc (by apply b_bind)⟩
end Go.FG.U145

namespace Go.FG.U128
def b {R : Type} (kr : Row -> Option R) (a0 a1 a2 : Row) (a3 : Int) : Option R := bif U145.c (List.set (List.set (zeros [Ck.l 9] 2) 0 [CV.l 9 a0]) 1 [CV.l 9 a1]) then kr (U145.v (List.set (List.set (zeros [Ck.l 9] 2) 0 [CV.l 9 a0]) 1 [CV.l 9 a1])) else none
variable {R : Type} (kr : Row -> Option R) (a0 a1 a2 : Row) (a3 : Int)
def vo := b (fun r0 => some r0) a0 a1 a2 a3
def c : Bool := Option.isSome (vo a0 a1 a2 a3)
def v := Option.getD (vo a0 a1 a2 a3) ([])
theorem out {x} (h : vo a0 a1 a2 a3 = some x) : c a0 a1 a2 a3 = true /\ v a0 a1 a2 a3 = x := Lib.out_ h
theorem b_eq (hc : c a0 a1 a2 a3 = true) : b kr a0 a1 a2 a3 = Lib.ap (fun p => kr p) (v a0 a1 a2 a3) := Lib.bq hc (by unfold vo b; simp only [Lib.B1, Lib.B2, Lib.B3, Lib.B4])
end Go.FG.U128

namespace Go.FG.U141
def r2 {R : Type} (N : Nat) (g k0 k1 : F_rsiii R) (x0 : Row) (x1 : ByteArray) (x2 x3 x4 : Int) : Option R := bif decide (x4 < x3) then bif decide (0 <= x4) && decide (x4 < (x0.length : Int)) then bif List.beq (ByteArray.toList x1) (ByteArray.toList (cvS (cellAt x0 x4.toNat 0))) then k0 x0 x1 x4 x3 x4 else g x0 x1 x2 x3 (w64 (x4 + 1)) else none else k1 x0 x1 x2 x3 x4
def l2 {R : Type} (N : Nat) (k0 k1 : F_rsiii R) : Nat -> F_rsiii R
 | 0 => fun _ _ _ _ _ => none
 | n + 1 => fun x0 x1 x2 x3 x4 => r2 N (l2 N k0 k1 n) k0 k1 x0 x1 x2 x3 x4
theorem q2_bind {R S : Type} (f : R -> Option S) (N : Nat) (k0 k1 : F_rsiii R) : ∀ n : Nat, (∀ (x0 : Row) (x1 : ByteArray) (x2 x3 x4 : Int), Option.bind (l2 N k0 k1 n x0 x1 x2 x3 x4) f = l2 N (fun y0 y1 y2 y3 y4 => Option.bind (k0 y0 y1 y2 y3 y4) f) (fun y0 y1 y2 y3 y4 => Option.bind (k1 y0 y1 y2 y3 y4) f) n x0 x1 x2 x3 x4) := by
 intro n
 induction n with
 | zero => exact fun _ _ _ _ _ => rfl
 | succ n ih =>
  intro x0 x1 x2 x3 x4
  simp only [l2, r2, Lib.B1, Lib.B2, Lib.B3, Lib.B4, ih]
variable {R : Type} (N : Nat) (kr : Int -> Option R) (a0 : Row) (a1 : ByteArray)
def b : Option R := l2 N (fun y5 y6 y7 y8 y9 => kr y7) (fun y10 y11 y12 y13 y14 => kr (-1)) N a0 a1 0 (a0.length : Int) 0
theorem b_bind : b N kr a0 a1 = Option.bind (b N (fun r0 => some r0) a0 a1) (fun p => kr p) := by
 unfold b; simp only [Lib.B1, Lib.B2, Lib.B3, Lib.B4, q2_bind]
def vo := b Lib.big (fun r0 => some r0) a0 a1
def c : Bool := Option.isSome (vo a0 a1)
def v := Option.getD (vo a0 a1) (0)
theorem out {x} (h : vo a0 a1 = some x) : c a0 a1 = true /\ v a0 a1 = x := Lib.out_ h
theorem b_eq (hc : c a0 a1 = true) : ∃ N, b N kr a0 a1 = Lib.ap (fun p => kr p) (v a0 a1) := ⟨Lib.big, Lib.bq hc (by apply b_bind)⟩
end Go.FG.U141

namespace Go.FG.U123
variable {R : Type} (kr : Bool -> Option R) (a0 : Row) (a1 : ByteArray)
def b : Option R := bif U141.c a0 a1 then kr (decide (U141.v a0 a1 ≥ 0)) else none
def vo := b (fun r0 => some r0) a0 a1
def c : Bool := Option.isSome (vo a0 a1)
def v := Option.getD (vo a0 a1) false
theorem out {x} (h : vo a0 a1 = some x) : c a0 a1 = true /\ v a0 a1 = x := Lib.out_ h
theorem b_eq (hc : c a0 a1 = true) : b kr a0 a1 = Lib.ap (fun p => kr p) (v a0 a1) := Lib.bq hc (by unfold vo b; simp only [Lib.B1, Lib.B2, Lib.B3, Lib.B4])
end Go.FG.U123

namespace Go.FG.U139
def r5 {R : Type} (N : Nat) (g k0 k1 : F_brriiriiri R) (x6 : Bool) (x7 x8 : Row) (x9 x10 : Int) (x11 : Row) (x12 x13 : Int) (x14 : Row) (x15 : Int) : Option R := bif decide (x13 < x12) then bif decide (0 <= x13) && decide (x13 < (x11.length : Int)) then bif !U61.v (cvI (cellAt x11 x13.toNat 0)) 0 15 then k0 false x7 x8 x9 x10 x11 x12 x13 x14 x15 else g x6 x7 x8 x9 x10 x11 x12 (w64 (x13 + 1)) x14 x15 else none else k1 x6 x7 x8 x9 x10 x11 x12 x13 x14 x15
def l5 {R : Type} (N : Nat) (k0 k1 : F_brriiriiri R) : Nat -> F_brriiriiri R
 | 0 => fun _ _ _ _ _ _ _ _ _ _ => none
 | n + 1 => fun x6 x7 x8 x9 x10 x11 x12 x13 x14 x15 => r5 N (l5 N k0 k1 n) k0 k1 x6 x7 x8 x9 x10 x11 x12 x13 x14 x15
def r2 {R : Type} (N : Nat) (g k0 k1 : F_briiri R) (x0 : Bool) (x1 : Row) (x2 x3 : Int) (x4 : Row) (x5 : Int) : Option R := bif decide (x3 < x2) then bif decide (0 <= x3) && decide (x3 < (x1.length : Int)) then l5 N (fun y16 y17 y18 y19 y20 y21 y22 y23 y24 y25 => k0 y16 y18 y19 y20 y24 y25) (fun y26 y27 y28 y29 y30 y31 y32 y33 y34 y35 => bif (y27.length : Int) != 16 then k0 false y28 y29 y30 y34 y35 else g y26 y28 y29 (w64 (y30 + 1)) y34 y35) N x0 (cvL (cellAt x1 x3.toNat 0)) x1 x2 x3 (cvL (cellAt x1 x3.toNat 0)) (↑(List.length (cvL (cellAt x1 x3.toNat 0))) : Int) 0 x4 x5 else none else k1 x0 x1 x2 x3 x4 x5
def l2 {R : Type} (N : Nat) (k0 k1 : F_briiri R) : Nat -> F_briiri R
 | 0 => fun _ _ _ _ _ _ => none
 | n + 1 => fun x0 x1 x2 x3 x4 x5 => r2 N (l2 N k0 k1 n) k0 k1 x0 x1 x2 x3 x4 x5
theorem q5_bind {R S : Type} (f : R -> Option S) (N : Nat) (k0 k1 : F_brriiriiri R) : ∀ n : Nat, (∀ (x6 : Bool) (x7 x8 : Row) (x9 x10 : Int) (x11 : Row) (x12 x13 : Int) (x14 : Row) (x15 : Int), Option.bind (l5 N k0 k1 n x6 x7 x8 x9 x10 x11 x12 x13 x14 x15) f = l5 N (fun y0 y1 y2 y3 y4 y5 y6 y7 y8 y9 => Option.bind (k0 y0 y1 y2 y3 y4 y5 y6 y7 y8 y9) f) (fun y0 y1 y2 y3 y4 y5 y6 y7 y8 y9 => Option.bind (k1 y0 y1 y2 y3 y4 y5 y6 y7 y8 y9) f) n x6 x7 x8 x9 x10 x11 x12 x13 x14 x15) := by
 intro n
 induction n with
 | zero => exact fun _ _ _ _ _ _ _ _ _ _ => rfl
 | succ n ih =>
  intro x6 x7 x8 x9 x10 x11 x12 x13 x14 x15
  simp only [l5, r5, Lib.B1, Lib.B2, Lib.B3, Lib.B4, ih]
theorem q2_bind {R S : Type} (f : R -> Option S) (N : Nat) (k0 k1 : F_briiri R) : ∀ n : Nat, (∀ (x0 : Bool) (x1 : Row) (x2 x3 : Int) (x4 : Row) (x5 : Int), Option.bind (l2 N k0 k1 n x0 x1 x2 x3 x4 x5) f = l2 N (fun y0 y1 y2 y3 y4 y5 => Option.bind (k0 y0 y1 y2 y3 y4 y5) f) (fun y0 y1 y2 y3 y4 y5 => Option.bind (k1 y0 y1 y2 y3 y4 y5) f) n x0 x1 x2 x3 x4 x5) := by
 intro n
 induction n with
 | zero => exact fun _ _ _ _ _ _ => rfl
 | succ n ih =>
  intro x0 x1 x2 x3 x4 x5
  simp only [l2, r2, Lib.B1, Lib.B2, Lib.B3, Lib.B4, ih, q5_bind]
variable {R : Type} (N : Nat) (kr : Bool -> Option R) (a0 : Row) (a1 : Int)
def b : Option R := l2 N (fun y36 y37 y38 y39 y40 y41 => kr y36) (fun y42 y43 y44 y45 y46 y47 => bif decide ((y46.length : Int) = 3) then kr (U61.v y47 0 63) else kr false) N false a0 (a0.length : Int) 0 a0 a1
theorem b_bind : b N kr a0 a1 = Option.bind (b N (fun r0 => some r0) a0 a1) (fun p => kr p) := by
 unfold b; simp only [Lib.B1, Lib.B2, Lib.B3, Lib.B4, q5_bind, q2_bind]
def vo := b Lib.big (fun r0 => some r0) a0 a1
def c : Bool := Option.isSome (vo a0 a1)
def v := Option.getD (vo a0 a1) false
theorem out {x} (h : vo a0 a1 = some x) : c a0 a1 = true /\ v a0 a1 = x := Lib.out_ h
theorem b_eq (hc : c a0 a1 = true) : ∃ N, b N kr a0 a1 = Lib.ap (fun p => kr p) (v a0 a1) := ⟨Lib.big, Lib.bq hc (by apply b_bind)⟩
end Go.FG.U139

namespace Go.FG.U121
def r3 {R : Type} (N : Nat) (g k0 k1 : F_biirrrir R) (x0 : Bool) (x1 x2 : Int) (x3 x4 x5 : Row) (x6 : Int) (x7 : Row) : Option R := bif decide (x2 < x1) then bif decide (0 <= x2) && decide (x2 < (x7.length : Int)) then bif !U120.v (cvS (cellAt x7 x2.toNat 0)) then k0 false x1 x2 x3 x4 x5 x6 x7 else bif inB 0 x2 (x7.length : Int) then bif U123.c (view x7 (Int.toNat 0) x2.toNat) (cvS (cellAt x7 x2.toNat 0)) then bif U123.v (view x7 (Int.toNat 0) x2.toNat) (cvS (cellAt x7 x2.toNat 0)) then k0 false x1 x2 x3 x4 x5 x6 x7 else g x0 x1 (w64 (x2 + 1)) x3 x4 x5 x6 x7 else none else none else none else k1 x0 x1 x2 x3 x4 x5 x6 x7
def l3 {R : Type} (N : Nat) (k0 k1 : F_biirrrir R) : Nat -> F_biirrrir R
 | 0 => fun _ _ _ _ _ _ _ _ => none
 | n + 1 => fun x0 x1 x2 x3 x4 x5 x6 x7 => r3 N (l3 N k0 k1 n) k0 k1 x0 x1 x2 x3 x4 x5 x6 x7
theorem q3_bind {R S : Type} (f : R -> Option S) (N : Nat) (k0 k1 : F_biirrrir R) : ∀ n : Nat, (∀ (x0 : Bool) (x1 x2 : Int) (x3 x4 x5 : Row) (x6 : Int) (x7 : Row), Option.bind (l3 N k0 k1 n x0 x1 x2 x3 x4 x5 x6 x7) f = l3 N (fun y0 y1 y2 y3 y4 y5 y6 y7 => Option.bind (k0 y0 y1 y2 y3 y4 y5 y6 y7) f) (fun y0 y1 y2 y3 y4 y5 y6 y7 => Option.bind (k1 y0 y1 y2 y3 y4 y5 y6 y7) f) n x0 x1 x2 x3 x4 x5 x6 x7) := by
 intro n
 induction n with
 | zero => exact fun _ _ _ _ _ _ _ _ => rfl
 | succ n ih =>
  intro x0 x1 x2 x3 x4 x5 x6 x7
  simp only [l3, r3, Lib.B1, Lib.B2, Lib.B3, Lib.B4, ih]
variable {R : Type} (N : Nat) (kr : Bool -> Option R) (a0 a1 a2 : Row) (a3 : Int)
def b : Option R := bif U128.c a0 a1 a2 a3 then l3 N (fun y8 y9 y10 y11 y12 y13 y14 y15 => kr y8) (fun y16 y17 y18 y19 y20 y21 y22 y23 => bif decide ((y19.length : Int) <= 2) then bif decide ((y20.length : Int) <= 4) then bif U139.c y21 y22 then kr (U139.v y21 y22) else none else kr false else kr false) N false (↑(List.length (U128.v a0 a1 a2 a3)) : Int) 0 a0 a1 a2 a3 (U128.v a0 a1 a2 a3) else none
theorem b_bind : b N kr a0 a1 a2 a3 = Option.bind (b N (fun r0 => some r0) a0 a1 a2 a3) (fun p => kr p) := by
 unfold b; simp only [Lib.B1, Lib.B2, Lib.B3, Lib.B4, q3_bind]
def vo := b Lib.big (fun r0 => some r0) a0 a1 a2 a3
def c : Bool := Option.isSome (vo a0 a1 a2 a3)
def v := Option.getD (vo a0 a1 a2 a3) false
theorem out {x} (h : vo a0 a1 a2 a3 = some x) : c a0 a1 a2 a3 = true /\ v a0 a1 a2 a3 = x := Lib.out_ h
theorem b_eq (hc : c a0 a1 a2 a3 = true) : ∃ N, b N kr a0 a1 a2 a3 = Lib.ap (fun p => kr p) (v a0 a1 a2 a3) := ⟨Lib.big, Lib.bq hc (by apply b_bind)⟩
end Go.FG.U121

namespace Go.FG.U157
def r6 {R : Type} (N : Nat) (g k0 : F_isii R) (x3 : Int) (x4 : ByteArray) (x5 x6 : Int) : Option R := bif decide (x6 < 8) then bif decide (Int.tmod x3 2 = 1) then g (IntKind.wrap IntKind.u32 (↑(BitVec.toNat (BitVec.xor (BitVec.ofInt 32 (IntKind.wrap IntKind.u32 (Int.tdiv x3 2))) (BitVec.ofInt 32 3558460437))) : Int)) x4 x5 (w64 (x6 + 1)) else g (IntKind.wrap IntKind.u32 (Int.tdiv x3 2)) x4 x5 (w64 (x6 + 1)) else k0 x3 x4 x5 x6
def l6 {R : Type} (N : Nat) (k0 : F_isii R) : Nat -> F_isii R
 | 0 => fun _ _ _ _ => none
 | n + 1 => fun x3 x4 x5 x6 => r6 N (l6 N k0 n) k0 x3 x4 x5 x6
def r2 {R : Type} (N : Nat) (g k0 : F_isi R) (x0 : Int) (x1 : ByteArray) (x2 : Int) : Option R := bif decide (x2 < (x1.size : Int)) then bif decide (0 <= x2) && decide (x2 < (x1.size : Int)) then l6 N (fun y7 y8 y9 y10 => g y7 y8 (w64 (y9 + 1))) N (IntKind.wrap IntKind.u32 (↑(BitVec.toNat (BitVec.xor (BitVec.ofInt 32 x0) (BitVec.ofInt 32 (IntKind.wrap IntKind.u32 (↑(btN x1 x2.toNat) : Int))))) : Int)) x1 x2 0 else none else k0 x0 x1 x2
def l2 {R : Type} (N : Nat) (k0 : F_isi R) : Nat -> F_isi R
 | 0 => fun _ _ _ => none
 | n + 1 => fun x0 x1 x2 => r2 N (l2 N k0 n) k0 x0 x1 x2
theorem q6_bind {R S : Type} (f : R -> Option S) (N : Nat) (k0 : F_isii R) : ∀ n : Nat, (∀ (x3 : Int) (x4 : ByteArray) (x5 x6 : Int), Option.bind (l6 N k0 n x3 x4 x5 x6) f = l6 N (fun y0 y1 y2 y3 => Option.bind (k0 y0 y1 y2 y3) f) n x3 x4 x5 x6) := by
 intro n
 induction n with
 | zero => exact fun _ _ _ _ => rfl
 | succ n ih =>
  intro x3 x4 x5 x6
  simp only [l6, r6, Lib.B1, Lib.B2, Lib.B3, Lib.B4, ih]
theorem q2_bind {R S : Type} (f : R -> Option S) (N : Nat) (k0 : F_isi R) : ∀ n : Nat, (∀ (x0 : Int) (x1 : ByteArray) (x2 : Int), Option.bind (l2 N k0 n x0 x1 x2) f = l2 N (fun y0 y1 y2 => Option.bind (k0 y0 y1 y2) f) n x0 x1 x2) := by
 intro n
 induction n with
 | zero => exact fun _ _ _ => rfl
 | succ n ih =>
  intro x0 x1 x2
  simp only [l2, r2, Lib.B1, Lib.B2, Lib.B3, Lib.B4, ih, q6_bind]
variable {R : Type} (N : Nat) (kr : Int -> Option R) (a0 : Int) (a1 : ByteArray)
def b : Option R := l2 N (fun y11 y12 y13 => kr y11) N a0 a1 0
theorem b_bind : b N kr a0 a1 = Option.bind (b N (fun r0 => some r0) a0 a1) (fun p => kr p) := by
 unfold b; simp only [Lib.B1, Lib.B2, Lib.B3, Lib.B4, q6_bind, q2_bind]
def vo := b Lib.big (fun r0 => some r0) a0 a1
def c : Bool := Option.isSome (vo a0 a1)
def v := Option.getD (vo a0 a1) (0)
theorem out {x} (h : vo a0 a1 = some x) : c a0 a1 = true /\ v a0 a1 = x := Lib.out_ h
theorem b_eq (hc : c a0 a1 = true) : ∃ N, b N kr a0 a1 = Lib.ap (fun p => kr p) (v a0 a1) := ⟨Lib.big, Lib.bq hc (by apply b_bind)⟩
end Go.FG.U157

namespace Go.FG.U150
variable {R : Type} (kr : Int -> Option R) (a0 : ByteArray)
def b : Option R := bif U157.c 4294967295 a0 then kr (U157.v 4294967295 a0) else none
def vo := b (fun r0 => some r0) a0
def c : Bool := Option.isSome (vo a0)
def v := Option.getD (vo a0) (0)
theorem out {x} (h : vo a0 = some x) : c a0 = true /\ v a0 = x := Lib.out_ h
theorem b_eq (hc : c a0 = true) : b kr a0 = Lib.ap (fun p => kr p) (v a0) := Lib.bq hc (by unfold vo b; simp only [Lib.B1, Lib.B2, Lib.B3, Lib.B4])
end Go.FG.U150

namespace Go.FG.U140
variable {R : Type} (kr : Int -> Option R) (a0 : Int) (a1 : ByteArray)
def b : Option R := bif decide (a1.size + ByteArray.size (bytesOf (List.set (zeros [Ck.i IntKind.u8] 1) 0 [CV.i IntKind.u8 (IntKind.wrap IntKind.u8 (w64 (↑(BitVec.toNat (BitVec.and (BitVec.ofInt 64 a0) (BitVec.ofInt 64 255))) : Int)))])) <= 4611686018427387904) then bif U150.c (a1 ++ bytesOf (List.set (zeros [Ck.i IntKind.u8] 1) 0 [CV.i IntKind.u8 (IntKind.wrap IntKind.u8 (w64 (↑(BitVec.toNat (BitVec.and (BitVec.ofInt 64 a0) (BitVec.ofInt 64 255))) : Int)))])) then kr (Int.tmod (w64 (U150.v (a1 ++ bytesOf (List.set (zeros [Ck.i IntKind.u8] 1) 0 [CV.i IntKind.u8 (IntKind.wrap IntKind.u8 (w64 (↑(BitVec.toNat (BitVec.and (BitVec.ofInt 64 a0) (BitVec.ofInt 64 255))) : Int)))])))) 16) else none else none
def vo := b (fun r0 => some r0) a0 a1
def c : Bool := Option.isSome (vo a0 a1)
def v := Option.getD (vo a0 a1) (0)
theorem out {x} (h : vo a0 a1 = some x) : c a0 a1 = true /\ v a0 a1 = x := Lib.out_ h
theorem b_eq (hc : c a0 a1 = true) : b kr a0 a1 = Lib.ap (fun p => kr p) (v a0 a1) := Lib.bq hc (by unfold vo b; simp only [Lib.B1, Lib.B2, Lib.B3, Lib.B4])
end Go.FG.U140

namespace Go.FG.U122
def r18 {R : Type} (N : Nat) (g k0 : F_niiiiiir R) (x17 : Nat) (x18 x19 x20 x21 x22 x23 : Int) (x24 : Row) : Option R := bif decide (x21 < x20) then bif decide (0 <= x21) && decide (x21 < (↑(List.length (cvL (cellAt x24 x17 0))) : Int)) then bif decide (0 <= x21) && decide (x21 < (↑(List.length (cvL (cellAt x24 x17 0))) : Int)) then g x17 x18 x19 x20 (w64 (x21 + 1)) x22 x23 (setC x24 x17 0 [CV.l 3 (setC (cvL (cellAt x24 x17 0)) x21.toNat 0 [CV.i IntKind.i64 (w64 (Int.tdiv (cvI (cellAt (cvL (cellAt x24 x17 0)) x21.toNat 0)) 2))])]) else none else none else k0 x17 x18 x19 x20 x21 x22 x23 x24
def l18 {R : Type} (N : Nat) (k0 : F_niiiiiir R) : Nat -> F_niiiiiir R
 | 0 => fun _ _ _ _ _ _ _ _ => none
 | n + 1 => fun x17 x18 x19 x20 x21 x22 x23 x24 => r18 N (l18 N k0 n) k0 x17 x18 x19 x20 x21 x22 x23 x24
def r15 {R : Type} (N : Nat) (g k0 : F_iiiir R) (x12 x13 x14 x15 : Int) (x16 : Row) : Option R := bif decide (x13 < x12) then bif decide (0 <= x13) && decide (x13 < (x16.length : Int)) then l18 N (fun y25 y26 y27 y28 y29 y30 y31 y32 => g y26 (w64 (y27 + 1)) y30 y31 y32) N x13.toNat x12 x13 (↑(List.length (cvL (cellAt x16 x13.toNat 0))) : Int) 0 x14 x15 x16 else none else k0 x12 x13 x14 x15 x16
def l15 {R : Type} (N : Nat) (k0 : F_iiiir R) : Nat -> F_iiiir R
 | 0 => fun _ _ _ _ _ => none
 | n + 1 => fun x12 x13 x14 x15 x16 => r15 N (l15 N k0 n) k0 x12 x13 x14 x15 x16
def r5 {R : Type} (N : Nat) (g k0 : F_siiiir R) (x0 : ByteArray) (x1 x2 x3 x4 : Int) (x5 : Row) : Option R := bif decide (x2 < x1) then bif decide (0 <= x2) && decide (x2 < (x5.length : Int)) then bif U140.c x2 x0 then bif decide (0 <= U140.v x2 x0) && decide (U140.v x2 x0 < (↑(List.length (cvL (cellAt x5 x2.toNat 0))) : Int)) then bif decide (0 <= U140.v x2 x0) && decide (U140.v x2 x0 < (↑(List.length (cvL (cellAt x5 x2.toNat 0))) : Int)) then g x0 x1 (w64 (x2 + 1)) x3 x4 (setC x5 x2.toNat 0 [CV.l 3 (setC (cvL (cellAt x5 x2.toNat 0)) (Int.toNat (U140.v x2 x0)) 0 [CV.i IntKind.i64 (minmax false (w64 (cvI (cellAt (cvL (cellAt x5 x2.toNat 0)) (Int.toNat (U140.v x2 x0)) 0) + 1)) 15)])]) else none else none else none else none else k0 x0 x1 x2 x3 x4 x5
def l5 {R : Type} (N : Nat) (k0 : F_siiiir R) : Nat -> F_siiiir R
 | 0 => fun _ _ _ _ _ _ => none
 | n + 1 => fun x0 x1 x2 x3 x4 x5 => r5 N (l5 N k0 n) k0 x0 x1 x2 x3 x4 x5
theorem q18_bind {R S : Type} (f : R -> Option S) (N : Nat) (k0 : F_niiiiiir R) : ∀ n : Nat, (∀ (x17 : Nat) (x18 x19 x20 x21 x22 x23 : Int) (x24 : Row), Option.bind (l18 N k0 n x17 x18 x19 x20 x21 x22 x23 x24) f = l18 N (fun y0 y1 y2 y3 y4 y5 y6 y7 => Option.bind (k0 y0 y1 y2 y3 y4 y5 y6 y7) f) n x17 x18 x19 x20 x21 x22 x23 x24) := by
 intro n
 induction n with
 | zero => exact fun _ _ _ _ _ _ _ _ => rfl
 | succ n ih =>
  intro x17 x18 x19 x20 x21 x22 x23 x24
  simp only [l18, r18, Lib.B1, Lib.B2, Lib.B3, Lib.B4, ih]
theorem q15_bind {R S : Type} (f : R -> Option S) (N : Nat) (k0 : F_iiiir R) : ∀ n : Nat, (∀ (x12 x13 x14 x15 : Int) (x16 : Row), Option.bind (l15 N k0 n x12 x13 x14 x15 x16) f = l15 N (fun y0 y1 y2 y3 y4 => Option.bind (k0 y0 y1 y2 y3 y4) f) n x12 x13 x14 x15 x16) := by
 intro n
 induction n with
 | zero => exact fun _ _ _ _ _ => rfl
 | succ n ih =>
  intro x12 x13 x14 x15 x16
  simp only [l15, r15, Lib.B1, Lib.B2, Lib.B3, Lib.B4, ih, q18_bind]
theorem q5_bind {R S : Type} (f : R -> Option S) (N : Nat) (k0 : F_siiiir R) : ∀ n : Nat, (∀ (x0 : ByteArray) (x1 x2 x3 x4 : Int) (x5 : Row), Option.bind (l5 N k0 n x0 x1 x2 x3 x4 x5) f = l5 N (fun y0 y1 y2 y3 y4 y5 => Option.bind (k0 y0 y1 y2 y3 y4 y5) f) n x0 x1 x2 x3 x4 x5) := by
 intro n
 induction n with
 | zero => exact fun _ _ _ _ _ _ => rfl
 | succ n ih =>
  intro x0 x1 x2 x3 x4 x5
  simp only [l5, r5, Lib.B1, Lib.B2, Lib.B3, Lib.B4, ih, q18_bind, q15_bind]
variable {R : Type} (N : Nat) (kr : F_ri R) (a0 : Row) (a1 : Int) (a2 : ByteArray)
def b : Option R := bif U106.c a0 a1 then bif U139.c a0 a1 then bif !U139.v a0 a1 then kr ((U106.v a0 a1).1) ((U106.v a0 a1).2) else l5 N (fun y6 y7 y8 y9 y10 y11 => bif decide (w64 (y10 + 1) < 64) then kr y11 (w64 (y10 + 1)) else l15 N (fun y33 y34 y35 y36 y37 => kr y37 y36) N (y11.length : Int) 0 y9 0 y11) N a2 (↑(List.length (U106.v a0 a1).1) : Int) 0 0 ((U106.v a0 a1).2) ((U106.v a0 a1).1) else none else none
theorem b_bind : b N kr a0 a1 a2 = Option.bind (b N (fun r0 r1 => some (r0, r1)) a0 a1 a2) (fun p => kr p.1 p.2) := by
 unfold b; simp only [Lib.B1, Lib.B2, Lib.B3, Lib.B4, q18_bind, q15_bind, q5_bind]
def vo := b Lib.big (fun r0 r1 => some (r0, r1)) a0 a1 a2
def c : Bool := Option.isSome (vo a0 a1 a2)
def v := Option.getD (vo a0 a1 a2) ([], 0)
theorem out {x} (h : vo a0 a1 a2 = some x) : c a0 a1 a2 = true /\ v a0 a1 a2 = x := Lib.out_ h
theorem b_eq (hc : c a0 a1 a2 = true) : ∃ N, b N kr a0 a1 a2 = Lib.ap (fun p => kr p.1 p.2) (v a0 a1 a2) := ⟨Lib.big, Lib.bq hc (by apply b_bind)⟩
end Go.FG.U122

namespace Go.FG.U143
def b {R : Type} (kr : Bool -> Option R) (a0 key1 : ByteArray) : Option R := kr (List.beq (ByteArray.toList a0) (ByteArray.toList key1))
def v (a0 key1 : ByteArray) : Bool := (List.beq (ByteArray.toList a0) (ByteArray.toList key1))
theorem b_eq {R : Type} (kr : Bool -> Option R) (a0 key1 : ByteArray) : b kr a0 key1 = kr (v a0 key1) := by
 first | rfl | (unfold b v; simp only [Bool.cond_eq_ite]; (repeat' split) <;> rfl)
end Go.FG.U143

namespace Go.FG.U151
def r2 {R : Type} (N : Nat) (g k0 k1 : F_rsiii R) (x0 : Row) (x1 : ByteArray) (x2 x3 x4 : Int) : Option R := bif decide (x4 < x3) then bif decide (0 <= x4) && decide (x4 < (x0.length : Int)) then bif U143.v (cvS (cellAt x0 x4.toNat 0)) x1 then k0 x0 x1 x4 x3 x4 else g x0 x1 x2 x3 (w64 (x4 + 1)) else none else k1 x0 x1 x2 x3 x4
def l2 {R : Type} (N : Nat) (k0 k1 : F_rsiii R) : Nat -> F_rsiii R
 | 0 => fun _ _ _ _ _ => none
 | n + 1 => fun x0 x1 x2 x3 x4 => r2 N (l2 N k0 k1 n) k0 k1 x0 x1 x2 x3 x4
theorem q2_bind {R S : Type} (f : R -> Option S) (N : Nat) (k0 k1 : F_rsiii R) : ∀ n : Nat, (∀ (x0 : Row) (x1 : ByteArray) (x2 x3 x4 : Int), Option.bind (l2 N k0 k1 n x0 x1 x2 x3 x4) f = l2 N (fun y0 y1 y2 y3 y4 => Option.bind (k0 y0 y1 y2 y3 y4) f) (fun y0 y1 y2 y3 y4 => Option.bind (k1 y0 y1 y2 y3 y4) f) n x0 x1 x2 x3 x4) := by
 intro n
 induction n with
 | zero => exact fun _ _ _ _ _ => rfl
 | succ n ih =>
  intro x0 x1 x2 x3 x4
  simp only [l2, r2, Lib.B1, Lib.B2, Lib.B3, Lib.B4, ih]
variable {R : Type} (N : Nat) (kr : Int -> Option R) (a0 : Row) (key1 : ByteArray)
def b : Option R := l2 N (fun y5 y6 y7 y8 y9 => kr y7) (fun y10 y11 y12 y13 y14 => kr (-1)) N a0 key1 0 (a0.length : Int) 0
theorem b_bind : b N kr a0 key1 = Option.bind (b N (fun r0 => some r0) a0 key1) (fun p => kr p) := by
 unfold b; simp only [Lib.B1, Lib.B2, Lib.B3, Lib.B4, q2_bind]
def vo := b Lib.big (fun r0 => some r0) a0 key1
def c : Bool := Option.isSome (vo a0 key1)
def v := Option.getD (vo a0 key1) (0)
theorem out {x} (h : vo a0 key1 = some x) : c a0 key1 = true /\ v a0 key1 = x := Lib.out_ h
theorem b_eq (hc : c a0 key1 = true) : ∃ N, b N kr a0 key1 = Lib.ap (fun p => kr p) (v a0 key1) := ⟨Lib.big, Lib.bq hc (by apply b_bind)⟩
end Go.FG.U151

namespace Go.FG.U142
def r5 {R : Type} (N : Nat) (g k0 : F_siir R) (x0 : ByteArray) (x1 x2 : Int) (x3 : Row) : Option R := bif decide (x2 < (x3.length : Int)) then bif decide (0 <= x2) && decide (x2 < (x3.length : Int)) then bif !U143.v (cvS (cellAt x3 x2.toNat 0)) x0 then bif decide (0 <= x1) && decide (x1 < (x3.length : Int)) then g x0 (w64 (x1 + 1)) (w64 (x2 + 1)) (setC x3 x1.toNat 0 [CV.s (cvS (cellAt x3 x2.toNat 0))]) else none else g x0 x1 (w64 (x2 + 1)) x3 else none else k0 x0 x1 x2 x3
def l5 {R : Type} (N : Nat) (k0 : F_siir R) : Nat -> F_siir R
 | 0 => fun _ _ _ _ => none
 | n + 1 => fun x0 x1 x2 x3 => r5 N (l5 N k0 n) k0 x0 x1 x2 x3
theorem q5_bind {R S : Type} (f : R -> Option S) (N : Nat) (k0 : F_siir R) : ∀ n : Nat, (∀ (x0 : ByteArray) (x1 x2 : Int) (x3 : Row), Option.bind (l5 N k0 n x0 x1 x2 x3) f = l5 N (fun y0 y1 y2 y3 => Option.bind (k0 y0 y1 y2 y3) f) n x0 x1 x2 x3) := by
 intro n
 induction n with
 | zero => exact fun _ _ _ _ => rfl
 | succ n ih =>
  intro x0 x1 x2 x3
  simp only [l5, r5, Lib.B1, Lib.B2, Lib.B3, Lib.B4, ih]
variable {R : Type} (N : Nat) (kr : Row -> Option R) (a0 : Row) (key1 : ByteArray)
def b : Option R := bif U151.c a0 key1 then bif decide (U151.v a0 key1 = Int.neg 1) then kr a0 else l5 N (fun y4 y5 y6 y7 => bif inB y5 (y7.length : Int) (y7.length : Int) then bif inB 0 y5 (↑(List.length (List.take y5.toNat y7 ++ zeros [Ck.s] (Int.toNat (y7.length : Int) - y5.toNat) ++ List.drop (Int.toNat (y7.length : Int)) y7)) : Int) then kr (view (List.take y5.toNat y7 ++ zeros [Ck.s] (Int.toNat (y7.length : Int) - y5.toNat) ++ List.drop (Int.toNat (y7.length : Int)) y7) (Int.toNat 0) y5.toNat) else none else none) N key1 (U151.v a0 key1) (w64 (U151.v a0 key1 + 1)) a0 else none
theorem b_bind : b N kr a0 key1 = Option.bind (b N (fun r0 => some r0) a0 key1) (fun p => kr p) := by
 unfold b; simp only [Lib.B1, Lib.B2, Lib.B3, Lib.B4, q5_bind]
def vo := b Lib.big (fun r0 => some r0) a0 key1
def c : Bool := Option.isSome (vo a0 key1)
def v := Option.getD (vo a0 key1) ([])
theorem out {x} (h : vo a0 key1 = some x) : c a0 key1 = true /\ v a0 key1 = x := Lib.out_ h
theorem b_eq (hc : c a0 key1 = true) : ∃ N, b N kr a0 key1 = Lib.ap (fun p => kr p) (v a0 key1) := ⟨Lib.big, Lib.bq hc (by apply b_bind)⟩
end Go.FG.U142

namespace Go.FG.U124
variable {R : Type} (kr : Row -> Option R) (a0 : Row) (a1 : ByteArray)
def b : Option R := bif U105.c a0 then bif U142.c (U105.v a0) a1 then kr (U142.v (U105.v a0) a1) else none else none
def vo := b (fun r0 => some r0) a0 a1
def c : Bool := Option.isSome (vo a0 a1)
def v := Option.getD (vo a0 a1) ([])
theorem out {x} (h : vo a0 a1 = some x) : c a0 a1 = true /\ v a0 a1 = x := Lib.out_ h
theorem b_eq (hc : c a0 a1 = true) : b kr a0 a1 = Lib.ap (fun p => kr p) (v a0 a1) := Lib.bq hc (by unfold vo b; simp only [Lib.B1, Lib.B2, Lib.B3, Lib.B4])
end Go.FG.U124

namespace Go.FG.U125
def r5 {R : Type} (N : Nat) (g k0 : F_sirii R) (x0 : ByteArray) (x1 : Int) (x2 : Row) (x3 x4 : Int) : Option R := bif decide (x4 < x3) then bif decide (0 <= x4) && decide (x4 < (x2.length : Int)) then bif U140.c x4 x0 then bif decide (0 <= U140.v x4 x0) && decide (U140.v x4 x0 < (↑(List.length (cvL (cellAt x2 x4.toNat 0))) : Int)) then g x0 (minmax false x1 (cvI (cellAt (cvL (cellAt x2 x4.toNat 0)) (Int.toNat (U140.v x4 x0)) 0))) x2 x3 (w64 (x4 + 1)) else none else none else none else k0 x0 x1 x2 x3 x4
def l5 {R : Type} (N : Nat) (k0 : F_sirii R) : Nat -> F_sirii R
 | 0 => fun _ _ _ _ _ => none
 | n + 1 => fun x0 x1 x2 x3 x4 => r5 N (l5 N k0 n) k0 x0 x1 x2 x3 x4
theorem q5_bind {R S : Type} (f : R -> Option S) (N : Nat) (k0 : F_sirii R) : ∀ n : Nat, (∀ (x0 : ByteArray) (x1 : Int) (x2 : Row) (x3 x4 : Int), Option.bind (l5 N k0 n x0 x1 x2 x3 x4) f = l5 N (fun y0 y1 y2 y3 y4 => Option.bind (k0 y0 y1 y2 y3 y4) f) n x0 x1 x2 x3 x4) := by
 intro n
 induction n with
 | zero => exact fun _ _ _ _ _ => rfl
 | succ n ih =>
  intro x0 x1 x2 x3 x4
  simp only [l5, r5, Lib.B1, Lib.B2, Lib.B3, Lib.B4, ih]
variable {R : Type} (N : Nat) (kr : Int -> Option R) (a0 : Row) (a1 : Int) (a2 : ByteArray)
def b : Option R := bif U139.c a0 a1 then bif !U139.v a0 a1 then kr 0 else l5 N (fun y5 y6 y7 y8 y9 => kr y6) N a2 15 a0 (a0.length : Int) 0 else none
theorem b_bind : b N kr a0 a1 a2 = Option.bind (b N (fun r0 => some r0) a0 a1 a2) (fun p => kr p) := by
 unfold b; simp only [Lib.B1, Lib.B2, Lib.B3, Lib.B4, q5_bind]
def vo := b Lib.big (fun r0 => some r0) a0 a1 a2
def c : Bool := Option.isSome (vo a0 a1 a2)
def v := Option.getD (vo a0 a1 a2) (0)
theorem out {x} (h : vo a0 a1 a2 = some x) : c a0 a1 a2 = true /\ v a0 a1 a2 = x := Lib.out_ h
theorem b_eq (hc : c a0 a1 a2 = true) : ∃ N, b N kr a0 a1 a2 = Lib.ap (fun p => kr p) (v a0 a1 a2) := ⟨Lib.big, Lib.bq hc (by apply b_bind)⟩
end Go.FG.U125

namespace Go.FG.U96
variable {R : Type} (kr : F_rrris R) (a0 a1 a2 : Row) (a3 : Int) (a4 : ByteArray)
def b : Option R := bif U73.c a0 a1 a2 a3 then bif U121.c a0 a1 a2 a3 then bif !U121.v a0 a1 a2 a3 then kr ((U73.v a0 a1 a2 a3).1) ((U73.v a0 a1 a2 a3).2.1) ((U73.v a0 a1 a2 a3).2.2.1) ((U73.v a0 a1 a2 a3).2.2.2) ({ data := #[] }) else bif !U120.v a4 then kr ((U73.v a0 a1 a2 a3).1) ((U73.v a0 a1 a2 a3).2.1) ((U73.v a0 a1 a2 a3).2.2.1) ((U73.v a0 a1 a2 a3).2.2.2) ({ data := #[] }) else bif U122.c a2 a3 a4 then bif U123.c a1 a4 then bif U123.v a1 a4 then bif U124.c a1 a4 then bif roomy (List.length (U124.v a1 a4) + List.length (List.set (zeros [Ck.s] 1) 0 [CV.s a4])) 16 then kr ((U73.v a0 a1 a2 a3).1) (U124.v a1 a4 ++ List.set (zeros [Ck.s] 1) 0 [CV.s a4]) ((U122.v a2 a3 a4).1) ((U122.v a2 a3 a4).2) ({ data := #[] }) else none else none else bif U124.c a0 a4 then bif roomy (List.length (U124.v a0 a4) + List.length (List.set (zeros [Ck.s] 1) 0 [CV.s a4])) 16 then bif decide ((↑(List.length (U124.v a0 a4 ++ List.set (zeros [Ck.s] 1) 0 [CV.s a4])) : Int) <= 2) then kr (U124.v a0 a4 ++ List.set (zeros [Ck.s] 1) 0 [CV.s a4]) ((U73.v a0 a1 a2 a3).2.1) ((U122.v a2 a3 a4).1) ((U122.v a2 a3 a4).2) ({ data := #[] }) else bif decide (0 < (↑(List.length (U124.v a0 a4 ++ List.set (zeros [Ck.s] 1) 0 [CV.s a4])) : Int)) then bif inB 1 (↑(List.length (U124.v a0 a4 ++ List.set (zeros [Ck.s] 1) 0 [CV.s a4])) : Int) (↑(List.length (U124.v a0 a4 ++ List.set (zeros [Ck.s] 1) 0 [CV.s a4])) : Int) then bif decide ((↑(List.length (U73.v a0 a1 a2 a3).2.1) : Int) < 4) then bif roomy (List.length (U73.v a0 a1 a2 a3).2.1 + List.length (List.set (zeros [Ck.s] 1) 0 [CV.s (cvS (cellAt (U124.v a0 a4 ++ List.set (zeros [Ck.s] 1) 0 [CV.s a4]) (Int.toNat 0) 0))])) 16 then kr (view (U124.v a0 a4 ++ List.set (zeros [Ck.s] 1) 0 [CV.s a4]) (Int.toNat 1) (Int.toNat (↑(List.length (U124.v a0 a4 ++ List.set (zeros [Ck.s] 1) 0 [CV.s a4])) : Int))) ((U73.v a0 a1 a2 a3).2.1 ++ List.set (zeros [Ck.s] 1) 0 [CV.s (cvS (cellAt (U124.v a0 a4 ++ List.set (zeros [Ck.s] 1) 0 [CV.s a4]) (Int.toNat 0) 0))]) ((U122.v a2 a3 a4).1) ((U122.v a2 a3 a4).2) ({ data := #[] }) else none else bif decide (0 < (↑(List.length (U73.v a0 a1 a2 a3).2.1) : Int)) then bif U125.c (U122.v a2 a3 a4).1 (U122.v a2 a3 a4).2 (cvS (cellAt (U124.v a0 a4 ++ List.set (zeros [Ck.s] 1) 0 [CV.s a4]) (Int.toNat 0) 0)) then bif U125.c (U122.v a2 a3 a4).1 (U122.v a2 a3 a4).2 (cvS (cellAt (U73.v a0 a1 a2 a3).2.1 (Int.toNat 0) 0)) then bif decide (U125.v (U122.v a2 a3 a4).1 (U122.v a2 a3 a4).2 (cvS (cellAt (U124.v a0 a4 ++ List.set (zeros [Ck.s] 1) 0 [CV.s a4]) (Int.toNat 0) 0)) > U125.v (U122.v a2 a3 a4).1 (U122.v a2 a3 a4).2 (cvS (cellAt (U73.v a0 a1 a2 a3).2.1 (Int.toNat 0) 0))) then bif inB 1 (↑(List.length (U73.v a0 a1 a2 a3).2.1) : Int) (↑(List.length (U73.v a0 a1 a2 a3).2.1) : Int) then bif roomy (List.length (view (U73.v a0 a1 a2 a3).2.1 (Int.toNat 1) (Int.toNat (↑(List.length (U73.v a0 a1 a2 a3).2.1) : Int))) + List.length (List.set (zeros [Ck.s] 1) 0 [CV.s (cvS (cellAt (U124.v a0 a4 ++ List.set (zeros [Ck.s] 1) 0 [CV.s a4]) (Int.toNat 0) 0))])) 16 then kr (view (U124.v a0 a4 ++ List.set (zeros [Ck.s] 1) 0 [CV.s a4]) (Int.toNat 1) (Int.toNat (↑(List.length (U124.v a0 a4 ++ List.set (zeros [Ck.s] 1) 0 [CV.s a4])) : Int))) (view (U73.v a0 a1 a2 a3).2.1 (Int.toNat 1) (Int.toNat (↑(List.length (U73.v a0 a1 a2 a3).2.1) : Int)) ++ List.set (zeros [Ck.s] 1) 0 [CV.s (cvS (cellAt (U124.v a0 a4 ++ List.set (zeros [Ck.s] 1) 0 [CV.s a4]) (Int.toNat 0) 0))]) ((U122.v a2 a3 a4).1) ((U122.v a2 a3 a4).2) (cvS (cellAt (U73.v a0 a1 a2 a3).2.1 (Int.toNat 0) 0)) else none else none else kr (view (U124.v a0 a4 ++ List.set (zeros [Ck.s] 1) 0 [CV.s a4]) (Int.toNat 1) (Int.toNat (↑(List.length (U124.v a0 a4 ++ List.set (zeros [Ck.s] 1) 0 [CV.s a4])) : Int))) ((U73.v a0 a1 a2 a3).2.1) ((U122.v a2 a3 a4).1) ((U122.v a2 a3 a4).2) (cvS (cellAt (U124.v a0 a4 ++ List.set (zeros [Ck.s] 1) 0 [CV.s a4]) (Int.toNat 0) 0)) else none else none else none else none else none else none else none else none else none else none else none
def vo := b (fun r0 r1 r2 r3 r4 => some (r0, r1, r2, r3, r4)) a0 a1 a2 a3 a4
def c : Bool := Option.isSome (vo a0 a1 a2 a3 a4)
def v := Option.getD (vo a0 a1 a2 a3 a4) ([], [], [], 0, ⟨#[]⟩)
theorem out {x} (h : vo a0 a1 a2 a3 a4 = some x) : c a0 a1 a2 a3 a4 = true /\ v a0 a1 a2 a3 a4 = x := Lib.out_ h
theorem b_eq (hc : c a0 a1 a2 a3 a4 = true) : b kr a0 a1 a2 a3 a4 = Lib.ap (fun p => kr p.1 p.2.1 p.2.2.1 p.2.2.2.1 p.2.2.2.2) (v a0 a1 a2 a3 a4) := Lib.bq hc (by unfold vo b; simp only [Lib.B1, Lib.B2, Lib.B3, Lib.B4])
end Go.FG.U96

namespace Go.FG.U72
variable {R : Type} (kr : Row -> Option R) (a0 : Row)
def b : Option R := bif roomy (List.length (zeros [Ck.s, Ck.i IntKind.i64, Ck.i IntKind.i64, Ck.s] 0) + a0.length) 48 then kr (zeros [Ck.s, Ck.i IntKind.i64, Ck.i IntKind.i64, Ck.s] 0 ++ a0) else none
def vo := b (fun r0 => some r0) a0
def c : Bool := Option.isSome (vo a0)
def v := Option.getD (vo a0) ([])
theorem out {x} (h : vo a0 = some x) : c a0 = true /\ v a0 = x := Lib.out_ h
theorem b_eq (hc : c a0 = true) : b kr a0 = Lib.ap (fun p => kr p) (v a0) := Lib.bq hc (by unfold vo b; simp only [Lib.B1, Lib.B2, Lib.B3, Lib.B4])
end Go.FG.U72

namespace Go.FG.U127
def b {R : Type} (kr : Bool -> Option R) (a0 : ByteArray) (a1 a2 : Int) (a3 key1 : ByteArray) : Option R := kr (List.beq (ByteArray.toList a0) (ByteArray.toList key1))
def v (a0 : ByteArray) (a1 a2 : Int) (a3 key1 : ByteArray) : Bool := (List.beq (ByteArray.toList a0) (ByteArray.toList key1))
theorem b_eq {R : Type} (kr : Bool -> Option R) (a0 : ByteArray) (a1 a2 : Int) (a3 key1 : ByteArray) : b kr a0 a1 a2 a3 key1 = kr (v a0 a1 a2 a3 key1) := by
 first | rfl | (unfold b v; simp only [Bool.cond_eq_ite]; (repeat' split) <;> rfl)
end Go.FG.U127

namespace Go.FG.U144b
def r2 {R : Type} (N : Nat) (g k0 k1 : F_rsiii R) (x0 : Row) (x1 : ByteArray) (x2 x3 x4 : Int) : Option R := bif decide (x4 < x3) then bif decide (0 <= x4) && decide (x4 < (x0.length : Int)) then bif U127.v (cvS (cellAt x0 x4.toNat 0)) (cvI (cellAt x0 x4.toNat 1)) (cvI (cellAt x0 x4.toNat (1 + 1))) (cvS (cellAt x0 x4.toNat (1 + 1 + 1))) x1 then k0 x0 x1 x4 x3 x4 else g x0 x1 x2 x3 (w64 (x4 + 1)) else none else k1 x0 x1 x2 x3 x4
def l2 {R : Type} (N : Nat) (k0 k1 : F_rsiii R) : Nat -> F_rsiii R
 | 0 => fun _ _ _ _ _ => none
 | n + 1 => fun x0 x1 x2 x3 x4 => r2 N (l2 N k0 k1 n) k0 k1 x0 x1 x2 x3 x4
theorem q2_bind {R S : Type} (f : R -> Option S) (N : Nat) (k0 k1 : F_rsiii R) : ∀ n : Nat, (∀ (x0 : Row) (x1 : ByteArray) (x2 x3 x4 : Int), Option.bind (l2 N k0 k1 n x0 x1 x2 x3 x4) f = l2 N (fun y0 y1 y2 y3 y4 => Option.bind (k0 y0 y1 y2 y3 y4) f) (fun y0 y1 y2 y3 y4 => Option.bind (k1 y0 y1 y2 y3 y4) f) n x0 x1 x2 x3 x4) := by
 intro n
 induction n with
 | zero => exact fun _ _ _ _ _ => rfl
 | succ n ih =>
  intro x0 x1 x2 x3 x4
  simp only [l2, r2, Lib.B1, Lib.B2, Lib.B3, Lib.B4, ih]
variable {R : Type} (N : Nat) (kr : Int -> Option R) (a0 : Row) (key1 : ByteArray)
def b : Option R := l2 N (fun y5 y6 y7 y8 y9 => kr y7) (fun y10 y11 y12 y13 y14 => kr (-1)) N a0 key1 0 (a0.length : Int) 0
theorem b_bind : b N kr a0 key1 = Option.bind (b N (fun r0 => some r0) a0 key1) (fun p => kr p) := by
 unfold b; simp only [Lib.B1, Lib.B2, Lib.B3, Lib.B4, q2_bind]
def vo := b Lib.big (fun r0 => some r0) a0 key1
def c : Bool := Option.isSome (vo a0 key1)
def v := Option.getD (vo a0 key1) (0)
theorem out {x} (h : vo a0 key1 = some x) : c a0 key1 = true /\ v a0 key1 = x := Lib.out_ h
theorem b_eq (hc : c a0 key1 = true) : ∃ N, b N kr a0 key1 = Lib.ap (fun p => kr p) (v a0 key1) := ⟨Lib.big, Lib.bq hc (by apply b_bind)⟩
end Go.FG.U144b

namespace Go.FG.U126
def r5 {R : Type} (N : Nat) (g k0 : F_siir R) (x0 : ByteArray) (x1 x2 : Int) (x3 : Row) : Option R := bif decide (x2 < (x3.length : Int)) then bif decide (0 <= x2) && decide (x2 < (x3.length : Int)) then bif !U127.v (cvS (cellAt x3 x2.toNat 0)) (cvI (cellAt x3 x2.toNat 1)) (cvI (cellAt x3 x2.toNat (1 + 1))) (cvS (cellAt x3 x2.toNat (1 + 1 + 1))) x0 then bif decide (0 <= x1) && decide (x1 < (x3.length : Int)) then g x0 (w64 (x1 + 1)) (w64 (x2 + 1)) (setC x3 x1.toNat 0 [CV.s (cvS (cellAt x3 x2.toNat 0)), CV.i IntKind.i64 (cvI (cellAt x3 x2.toNat 1)), CV.i IntKind.i64 (cvI (cellAt x3 x2.toNat (1 + 1))), CV.s (cvS (cellAt x3 x2.toNat (1 + 1 + 1)))]) else none else g x0 x1 (w64 (x2 + 1)) x3 else none else k0 x0 x1 x2 x3
def l5 {R : Type} (N : Nat) (k0 : F_siir R) : Nat -> F_siir R
 | 0 => fun _ _ _ _ => none
 | n + 1 => fun x0 x1 x2 x3 => r5 N (l5 N k0 n) k0 x0 x1 x2 x3
theorem q5_bind {R S : Type} (f : R -> Option S) (N : Nat) (k0 : F_siir R) : ∀ n : Nat, (∀ (x0 : ByteArray) (x1 x2 : Int) (x3 : Row), Option.bind (l5 N k0 n x0 x1 x2 x3) f = l5 N (fun y0 y1 y2 y3 => Option.bind (k0 y0 y1 y2 y3) f) n x0 x1 x2 x3) := by
 intro n
 induction n with
 | zero => exact fun _ _ _ _ => rfl
 | succ n ih =>
  intro x0 x1 x2 x3
  simp only [l5, r5, Lib.B1, Lib.B2, Lib.B3, Lib.B4, ih]
variable {R : Type} (N : Nat) (kr : Row -> Option R) (a0 : Row) (key1 : ByteArray)
def b : Option R := bif U144b.c a0 key1 then bif decide (U144b.v a0 key1 = Int.neg 1) then kr a0 else l5 N (fun y4 y5 y6 y7 => bif inB y5 (y7.length : Int) (y7.length : Int) then bif inB 0 y5 (↑(List.length (List.take y5.toNat y7 ++ zeros [Ck.s, Ck.i IntKind.i64, Ck.i IntKind.i64, Ck.s] (Int.toNat (y7.length : Int) - y5.toNat) ++ List.drop (Int.toNat (y7.length : Int)) y7)) : Int) then kr (view (List.take y5.toNat y7 ++ zeros [Ck.s, Ck.i IntKind.i64, Ck.i IntKind.i64, Ck.s] (Int.toNat (y7.length : Int) - y5.toNat) ++ List.drop (Int.toNat (y7.length : Int)) y7) (Int.toNat 0) y5.toNat) else none else none) N key1 (U144b.v a0 key1) (w64 (U144b.v a0 key1 + 1)) a0 else none
theorem b_bind : b N kr a0 key1 = Option.bind (b N (fun r0 => some r0) a0 key1) (fun p => kr p) := by
 unfold b; simp only [Lib.B1, Lib.B2, Lib.B3, Lib.B4, q5_bind]
def vo := b Lib.big (fun r0 => some r0) a0 key1
def c : Bool := Option.isSome (vo a0 key1)
def v := Option.getD (vo a0 key1) ([])
theorem out {x} (h : vo a0 key1 = some x) : c a0 key1 = true /\ v a0 key1 = x := Lib.out_ h
theorem b_eq (hc : c a0 key1 = true) : ∃ N, b N kr a0 key1 = Lib.ap (fun p => kr p) (v a0 key1) := ⟨Lib.big, Lib.bq hc (by apply b_bind)⟩
end Go.FG.U126

namespace Go.FG.U97
variable {R : Type} (kr : Row -> Option R) (a0 : Row) (a1 : ByteArray)
def b : Option R := bif U72.c a0 then bif U126.c (U72.v a0) a1 then kr (U126.v (U72.v a0) a1) else none else none
def vo := b (fun r0 => some r0) a0 a1
def c : Bool := Option.isSome (vo a0 a1)
def v := Option.getD (vo a0 a1) ([])
theorem out {x} (h : vo a0 a1 = some x) : c a0 a1 = true /\ v a0 a1 = x := Lib.out_ h
theorem b_eq (hc : c a0 a1 = true) : b kr a0 a1 = Lib.ap (fun p => kr p) (v a0 a1) := Lib.bq hc (by unfold vo b; simp only [Lib.B1, Lib.B2, Lib.B3, Lib.B4])
end Go.FG.U97

namespace Go.FG.U98
variable {R : Type} (kr : Bool -> Option R) (a0 a1 a2 : Row) (a3 : Int) (a4 : ByteArray)
def b : Option R := bif U128.c a0 a1 a2 a3 then bif U123.c (U128.v a0 a1 a2 a3) a4 then kr (U123.v (U128.v a0 a1 a2 a3) a4) else none else none
def vo := b (fun r0 => some r0) a0 a1 a2 a3 a4
def c : Bool := Option.isSome (vo a0 a1 a2 a3 a4)
def v := Option.getD (vo a0 a1 a2 a3 a4) false
theorem out {x} (h : vo a0 a1 a2 a3 a4 = some x) : c a0 a1 a2 a3 a4 = true /\ v a0 a1 a2 a3 a4 = x := Lib.out_ h
theorem b_eq (hc : c a0 a1 a2 a3 a4 = true) : b kr a0 a1 a2 a3 a4 = Lib.ap (fun p => kr p) (v a0 a1 a2 a3 a4) := Lib.bq hc (by unfold vo b; simp only [Lib.B1, Lib.B2, Lib.B3, Lib.B4])
end Go.FG.U98


namespace Go.FG.U99
def r3 {R : Type} (N : Nat) (g k0 : F_isiisr R) (x0 : Int) (x1 : ByteArray) (x2 x3 : Int) (x4 : ByteArray) (x5 : Row) : Option R := bif decide (x0 < (x5.length : Int)) then bif decide (0 <= x0) && decide (x0 < (x5.length : Int)) then bif Go.Op.bytesLess (ByteArray.toList (cvS (cellAt x5 x0.toNat 0))) (ByteArray.toList x1) then g (w64 (x0 + 1)) x1 x2 x3 x4 x5 else k0 x0 x1 x2 x3 x4 x5 else none else k0 x0 x1 x2 x3 x4 x5
def l3 {R : Type} (N : Nat) (k0 : F_isiisr R) : Nat -> F_isiisr R
 | 0 => fun _ _ _ _ _ _ => none
 | n + 1 => fun x0 x1 x2 x3 x4 x5 => r3 N (l3 N k0 n) k0 x0 x1 x2 x3 x4 x5
theorem q3_bind {R S : Type} (f : R -> Option S) (N : Nat) (k0 : F_isiisr R) : ∀ n : Nat, (∀ (x0 : Int) (x1 : ByteArray) (x2 x3 : Int) (x4 : ByteArray) (x5 : Row), Option.bind (l3 N k0 n x0 x1 x2 x3 x4 x5) f = l3 N (fun y0 y1 y2 y3 y4 y5 => Option.bind (k0 y0 y1 y2 y3 y4 y5) f) n x0 x1 x2 x3 x4 x5) := by
 intro n
 induction n with
 | zero => exact fun _ _ _ _ _ _ => rfl
 | succ n ih =>
  intro x0 x1 x2 x3 x4 x5
  simp only [l3, r3, Lib.B1, Lib.B2, Lib.B3, Lib.B4, ih]
variable {R : Type} (N : Nat) (kr : Row -> Option R) (a0 : Row) (a1 : ByteArray) (a2 a3 : Int) (a4 : ByteArray)
def b : Option R := bif U97.c a0 a1 then l3 N (fun y6 y7 y8 y9 y10 y11 => bif decide (0 <= y6) && decide (y6 <= (y11.length : Int)) && roomy (y11.length + List.length (List.set (zeros [Ck.s, Ck.i IntKind.i64, Ck.i IntKind.i64, Ck.s] 1) 0 [CV.s y7, CV.i IntKind.i64 y8, CV.i IntKind.i64 y9, CV.s y10])) 48 then kr (Pu.insR y11 y6.toNat (List.set (zeros [Ck.s, Ck.i IntKind.i64, Ck.i IntKind.i64, Ck.s] 1) 0 [CV.s y7, CV.i IntKind.i64 y8, CV.i IntKind.i64 y9, CV.s y10])) else none) N 0 a1 a2 a3 a4 (U97.v a0 a1) else none
theorem b_bind : b N kr a0 a1 a2 a3 a4 = Option.bind (b N (fun r0 => some r0) a0 a1 a2 a3 a4) (fun p => kr p) := by
 unfold b; simp only [Lib.B1, Lib.B2, Lib.B3, Lib.B4, q3_bind]
def vo := b Lib.big (fun r0 => some r0) a0 a1 a2 a3 a4
def c : Bool := Option.isSome (vo a0 a1 a2 a3 a4)
def v := Option.getD (vo a0 a1 a2 a3 a4) ([])
theorem out {x} (h : vo a0 a1 a2 a3 a4 = some x) : c a0 a1 a2 a3 a4 = true /\ v a0 a1 a2 a3 a4 = x := Lib.out_ h
theorem b_eq (hc : c a0 a1 a2 a3 a4 = true) : ∃ N, b N kr a0 a1 a2 a3 a4 = Lib.ap (fun p => kr p) (v a0 a1 a2 a3 a4) := ⟨Lib.big, Lib.bq hc (by apply b_bind)⟩
end Go.FG.U99

namespace Go.FG.U57
variable {R : Type} (kr : F_irrrrirri R) (a0 : Int) (a1 a2 a3 a4 : Row) (a5 : Int) (a6 a7 : Row) (a8 : Int) (a9 : ByteArray) (a10 a11 : Int) (a12 : ByteArray)
def b : Option R := bif U96.c a2 a3 a4 a5 a9 then Lib.lt (U96.v a2 a3 a4 a5 a9) fun t0 => bif U97.c a1 t0.2.2.2.2 then Lib.lt (U97.v a1 t0.2.2.2.2) fun t1 => bif U98.c t0.1 t0.2.1 t0.2.2.1 t0.2.2.2.1 a9 then Lib.lt (U98.v t0.1 t0.2.1 t0.2.2.1 t0.2.2.2.1 a9) fun t2 => bif t2 then bif U99.c t1 a9 a10 a11 a12 then Lib.lt (U99.v t1 a9 a10 a11 a12) fun t3 => kr a0 t3 t0.1 t0.2.1 t0.2.2.1 t0.2.2.2.1 a6 a7 a8 else none else kr a0 t1 t0.1 t0.2.1 t0.2.2.1 t0.2.2.2.1 a6 a7 a8 else none else none else none
def vo := b (fun r0 r1 r2 r3 r4 r5 r6 r7 r8 => some (r0, r1, r2, r3, r4, r5, r6, r7, r8)) a0 a1 a2 a3 a4 a5 a6 a7 a8 a9 a10 a11 a12
def c : Bool := Option.isSome (vo a0 a1 a2 a3 a4 a5 a6 a7 a8 a9 a10 a11 a12)
def v := Option.getD (vo a0 a1 a2 a3 a4 a5 a6 a7 a8 a9 a10 a11 a12) (0, [], [], [], [], 0, [], [], 0)
theorem out {x} (h : vo a0 a1 a2 a3 a4 a5 a6 a7 a8 a9 a10 a11 a12 = some x) : c a0 a1 a2 a3 a4 a5 a6 a7 a8 a9 a10 a11 a12 = true /\ v a0 a1 a2 a3 a4 a5 a6 a7 a8 a9 a10 a11 a12 = x := Lib.out_ h
theorem b_eq (hc : c a0 a1 a2 a3 a4 a5 a6 a7 a8 a9 a10 a11 a12 = true) : b kr a0 a1 a2 a3 a4 a5 a6 a7 a8 a9 a10 a11 a12 = Lib.ap (fun p => kr p.1 p.2.1 p.2.2.1 p.2.2.2.1 p.2.2.2.2.1 p.2.2.2.2.2.1 p.2.2.2.2.2.2.1 p.2.2.2.2.2.2.2.1 p.2.2.2.2.2.2.2.2) (v a0 a1 a2 a3 a4 a5 a6 a7 a8 a9 a10 a11 a12) := Lib.bq hc (by unfold vo b; simp only [Lib.B1, Lib.B2, Lib.B3, Lib.B4])
end Go.FG.U57

namespace Go.FG.U19
def r4 {R : Type} (N : Nat) (g k0 : F_iriiiiiiiirrrrrr R) (x0 : Int) (x1 : Row) (x2 x3 x4 x5 x6 x7 x8 x9 : Int) (x10 x11 x12 x13 x14 x15 : Row) : Option R := bif decide (x3 < x2) then bif decide (0 <= x3) && decide (x3 < (x1.length : Int)) then bif U56.v (cvS (cellAt x1 x3.toNat 0)) (cvI (cellAt x1 x3.toNat 1)) (cvI (cellAt x1 x3.toNat (1 + 1))) (cvS (cellAt x1 x3.toNat (1 + 1 + 1))) x0 then bif U57.c x7 x10 x11 x12 x13 x8 x14 x15 x9 (cvS (cellAt x1 x3.toNat 0)) (cvI (cellAt x1 x3.toNat 1)) (cvI (cellAt x1 x3.toNat (1 + 1))) (cvS (cellAt x1 x3.toNat (1 + 1 + 1))) then Lib.lt (U57.v x7 x10 x11 x12 x13 x8 x14 x15 x9 (cvS (cellAt x1 x3.toNat 0)) (cvI (cellAt x1 x3.toNat 1)) (cvI (cellAt x1 x3.toNat (1 + 1))) (cvS (cellAt x1 x3.toNat (1 + 1 + 1)))) fun t16 => g x0 x1 x2 (w64 (x3 + 1)) x4 x5 x6 t16.1 t16.2.2.2.2.2.1 t16.2.2.2.2.2.2.2.2 t16.2.1 t16.2.2.1 t16.2.2.2.1 t16.2.2.2.2.1 t16.2.2.2.2.2.2.1 t16.2.2.2.2.2.2.2.1 else none else g x0 x1 x2 (w64 (x3 + 1)) x4 x5 x6 x7 x8 x9 x10 x11 x12 x13 x14 x15 else none else k0 x0 x1 x2 x3 x4 x5 x6 x7 x8 x9 x10 x11 x12 x13 x14 x15
def l4 {R : Type} (N : Nat) (k0 : F_iriiiiiiiirrrrrr R) : Nat -> F_iriiiiiiiirrrrrr R
 | 0 => fun _ _ _ _ _ _ _ _ _ _ _ _ _ _ _ _ => none
 | n + 1 => fun x0 x1 x2 x3 x4 x5 x6 x7 x8 x9 x10 x11 x12 x13 x14 x15 => r4 N (l4 N k0 n) k0 x0 x1 x2 x3 x4 x5 x6 x7 x8 x9 x10 x11 x12 x13 x14 x15
theorem q4_bind {R S : Type} (f : R -> Option S) (N : Nat) (k0 : F_iriiiiiiiirrrrrr R) : ∀ n : Nat, (∀ (x0 : Int) (x1 : Row) (x2 x3 x4 x5 x6 x7 x8 x9 : Int) (x10 x11 x12 x13 x14 x15 : Row), Option.bind (l4 N k0 n x0 x1 x2 x3 x4 x5 x6 x7 x8 x9 x10 x11 x12 x13 x14 x15) f = l4 N (fun y0 y1 y2 y3 y4 y5 y6 y7 y8 y9 y10 y11 y12 y13 y14 y15 => Option.bind (k0 y0 y1 y2 y3 y4 y5 y6 y7 y8 y9 y10 y11 y12 y13 y14 y15) f) n x0 x1 x2 x3 x4 x5 x6 x7 x8 x9 x10 x11 x12 x13 x14 x15) := by
 intro n
 induction n with
 | zero => exact fun _ _ _ _ _ _ _ _ _ _ _ _ _ _ _ _ => rfl
 | succ n ih =>
  intro x0 x1 x2 x3 x4 x5 x6 x7 x8 x9 x10 x11 x12 x13 x14 x15
  simp only [l4, r4, Lib.B1, Lib.B2, Lib.B3, Lib.B4, ih]
variable {R : Type} (N : Nat) (kr : F_irrrrirri R) (a0 : Int) (a1 : Row)
def b : Option R := l4 N (fun y17 y18 y19 y20 y21 y22 y23 y24 y25 y26 y27 y28 y29 y30 y31 y32 => kr y24 y27 y28 y29 y30 y25 y31 y32 y26) N a0 a1 (a1.length : Int) 0 0 0 0 a0 0 0 [] [] [] ([] ++ List.set (zeros [Ck.l 3] 1) 0 [CV.l 3 (zeros [Ck.i IntKind.i64] (Int.toNat 16))] ++ List.set (zeros [Ck.l 3] 1) 0 [CV.l 3 (zeros [Ck.i IntKind.i64] (Int.toNat 16))] ++ List.set (zeros [Ck.l 3] 1) 0 [CV.l 3 (zeros [Ck.i IntKind.i64] (Int.toNat 16))]) [] []
theorem b_bind : b N kr a0 a1 = Option.bind (b N (fun r0 r1 r2 r3 r4 r5 r6 r7 r8 => some (r0, r1, r2, r3, r4, r5, r6, r7, r8)) a0 a1) (fun p => kr p.1 p.2.1 p.2.2.1 p.2.2.2.1 p.2.2.2.2.1 p.2.2.2.2.2.1 p.2.2.2.2.2.2.1 p.2.2.2.2.2.2.2.1 p.2.2.2.2.2.2.2.2) := by
 unfold b; simp only [Lib.B1, Lib.B2, Lib.B3, Lib.B4, q4_bind]
def vo := b Lib.big (fun r0 r1 r2 r3 r4 r5 r6 r7 r8 => some (r0, r1, r2, r3, r4, r5, r6, r7, r8)) a0 a1
def c : Bool := Option.isSome (vo a0 a1)
def v := Option.getD (vo a0 a1) (0, [], [], [], [], 0, [], [], 0)
theorem out {x} (h : vo a0 a1 = some x) : c a0 a1 = true /\ v a0 a1 = x := Lib.out_ h
theorem b_eq (hc : c a0 a1 = true) : ∃ N, b N kr a0 a1 = Lib.ap (fun p => kr p.1 p.2.1 p.2.2.1 p.2.2.2.1 p.2.2.2.2.1 p.2.2.2.2.2.1 p.2.2.2.2.2.2.1 p.2.2.2.2.2.2.2.1 p.2.2.2.2.2.2.2.2) (v a0 a1) := ⟨Lib.big, Lib.bq hc (by apply b_bind)⟩
end Go.FG.U19

namespace Go.FG.U58
def b {R : Type} (kr : Bool -> Option R) (a0 : ByteArray) (a1 a2 : Int) (a3 a4 : ByteArray) (a5 a6 : Int) (a7 : ByteArray) : Option R := bif !List.beq (ByteArray.toList a0) (ByteArray.toList a4) then kr false else bif a1 != a5 then kr false else bif a2 != a6 then kr false else bif !List.beq (ByteArray.toList a3) (ByteArray.toList a7) then kr false else kr true
def v (a0 : ByteArray) (a1 a2 : Int) (a3 a4 : ByteArray) (a5 a6 : Int) (a7 : ByteArray) : Bool := bif !List.beq (ByteArray.toList a0) (ByteArray.toList a4) then false else bif a1 != a5 then false else bif a2 != a6 then false else bif !List.beq (ByteArray.toList a3) (ByteArray.toList a7) then false else true
theorem b_eq {R : Type} (kr : Bool -> Option R) (a0 : ByteArray) (a1 a2 : Int) (a3 a4 : ByteArray) (a5 a6 : Int) (a7 : ByteArray) : b kr a0 a1 a2 a3 a4 a5 a6 a7 = kr (v a0 a1 a2 a3 a4 a5 a6 a7) := by
 first | rfl | (unfold b v; simp only [Bool.cond_eq_ite]; (repeat' split) <;> rfl)
end Go.FG.U58

namespace Go.FG.U20
def r4 {R : Type} (N : Nat) (g k0 k1 : F_rrbi R) (x0 x1 : Row) (x2 : Bool) (x3 : Int) : Option R := bif decide (x3 < (x0.length : Int)) then bif decide (0 <= x3) && decide (x3 < (x0.length : Int)) then bif decide (0 <= x3) && decide (x3 < (x1.length : Int)) then bif !U58.v (cvS (cellAt x0 x3.toNat 0)) (cvI (cellAt x0 x3.toNat 1)) (cvI (cellAt x0 x3.toNat (1 + 1))) (cvS (cellAt x0 x3.toNat (1 + 1 + 1))) (cvS (cellAt x1 x3.toNat 0)) (cvI (cellAt x1 x3.toNat 1)) (cvI (cellAt x1 x3.toNat (1 + 1))) (cvS (cellAt x1 x3.toNat (1 + 1 + 1))) then k0 x0 x1 false x3 else g x0 x1 x2 (w64 (x3 + 1)) else none else none else k1 x0 x1 x2 x3
def l4 {R : Type} (N : Nat) (k0 k1 : F_rrbi R) : Nat -> F_rrbi R
 | 0 => fun _ _ _ _ => none
 | n + 1 => fun x0 x1 x2 x3 => r4 N (l4 N k0 k1 n) k0 k1 x0 x1 x2 x3
theorem q4_bind {R S : Type} (f : R -> Option S) (N : Nat) (k0 k1 : F_rrbi R) : ∀ n : Nat, (∀ (x0 x1 : Row) (x2 : Bool) (x3 : Int), Option.bind (l4 N k0 k1 n x0 x1 x2 x3) f = l4 N (fun y0 y1 y2 y3 => Option.bind (k0 y0 y1 y2 y3) f) (fun y0 y1 y2 y3 => Option.bind (k1 y0 y1 y2 y3) f) n x0 x1 x2 x3) := by
 intro n
 induction n with
 | zero => exact fun _ _ _ _ => rfl
 | succ n ih =>
  intro x0 x1 x2 x3
  simp only [l4, r4, Lib.B1, Lib.B2, Lib.B3, Lib.B4, ih]
variable {R : Type} (N : Nat) (kr : Bool -> Option R) (a0 a1 : Row)
def b : Option R := bif (a0.length : Int) != (a1.length : Int) then kr false else l4 N (fun y4 y5 y6 y7 => kr y6) (fun y8 y9 y10 y11 => kr true) N a0 a1 false 0
theorem b_bind : b N kr a0 a1 = Option.bind (b N (fun r0 => some r0) a0 a1) (fun p => kr p) := by
 unfold b; simp only [Lib.B1, Lib.B2, Lib.B3, Lib.B4, q4_bind]
def vo := b Lib.big (fun r0 => some r0) a0 a1
def c : Bool := Option.isSome (vo a0 a1)
def v := Option.getD (vo a0 a1) false
theorem out {x} (h : vo a0 a1 = some x) : c a0 a1 = true /\ v a0 a1 = x := Lib.out_ h
theorem b_eq (hc : c a0 a1 = true) : ∃ N, b N kr a0 a1 = Lib.ap (fun p => kr p) (v a0 a1) := ⟨Lib.big, Lib.bq hc (by apply b_bind)⟩
end Go.FG.U20

namespace Go.FG.U75
def r4 {R : Type} (N : Nat) (g k0 k1 : F_rrbi R) (x0 x1 : Row) (x2 : Bool) (x3 : Int) : Option R := bif decide (x3 < (x0.length : Int)) then bif decide (0 <= x3) && decide (x3 < (x0.length : Int)) then bif decide (0 <= x3) && decide (x3 < (x1.length : Int)) then bif !List.beq (ByteArray.toList (cvS (cellAt x0 x3.toNat 0))) (ByteArray.toList (cvS (cellAt x1 x3.toNat 0))) then k0 x0 x1 false x3 else g x0 x1 x2 (w64 (x3 + 1)) else none else none else k1 x0 x1 x2 x3
def l4 {R : Type} (N : Nat) (k0 k1 : F_rrbi R) : Nat -> F_rrbi R
 | 0 => fun _ _ _ _ => none
 | n + 1 => fun x0 x1 x2 x3 => r4 N (l4 N k0 k1 n) k0 k1 x0 x1 x2 x3
theorem q4_bind {R S : Type} (f : R -> Option S) (N : Nat) (k0 k1 : F_rrbi R) : ∀ n : Nat, (∀ (x0 x1 : Row) (x2 : Bool) (x3 : Int), Option.bind (l4 N k0 k1 n x0 x1 x2 x3) f = l4 N (fun y0 y1 y2 y3 => Option.bind (k0 y0 y1 y2 y3) f) (fun y0 y1 y2 y3 => Option.bind (k1 y0 y1 y2 y3) f) n x0 x1 x2 x3) := by
 intro n
 induction n with
 | zero => exact fun _ _ _ _ => rfl
 | succ n ih =>
  intro x0 x1 x2 x3
  simp only [l4, r4, Lib.B1, Lib.B2, Lib.B3, Lib.B4, ih]
variable {R : Type} (N : Nat) (kr : Bool -> Option R) (a0 a1 : Row)
def b : Option R := bif (a0.length : Int) != (a1.length : Int) then kr false else l4 N (fun y4 y5 y6 y7 => kr y6) (fun y8 y9 y10 y11 => kr true) N a0 a1 false 0
theorem b_bind : b N kr a0 a1 = Option.bind (b N (fun r0 => some r0) a0 a1) (fun p => kr p) := by
 unfold b; simp only [Lib.B1, Lib.B2, Lib.B3, Lib.B4, q4_bind]
def vo := b Lib.big (fun r0 => some r0) a0 a1
def c : Bool := Option.isSome (vo a0 a1)
def v := Option.getD (vo a0 a1) false
theorem out {x} (h : vo a0 a1 = some x) : c a0 a1 = true /\ v a0 a1 = x := Lib.out_ h
theorem b_eq (hc : c a0 a1 = true) : ∃ N, b N kr a0 a1 = Lib.ap (fun p => kr p) (v a0 a1) := ⟨Lib.big, Lib.bq hc (by apply b_bind)⟩
end Go.FG.U75

namespace Go.FG.U134
def r4 {R : Type} (N : Nat) (g k0 k1 : F_rrbi R) (x0 x1 : Row) (x2 : Bool) (x3 : Int) : Option R := bif decide (x3 < (x0.length : Int)) then bif decide (0 <= x3) && decide (x3 < (x0.length : Int)) then bif decide (0 <= x3) && decide (x3 < (x1.length : Int)) then bif cvI (cellAt x0 x3.toNat 0) != cvI (cellAt x1 x3.toNat 0) then k0 x0 x1 false x3 else g x0 x1 x2 (w64 (x3 + 1)) else none else none else k1 x0 x1 x2 x3
def l4 {R : Type} (N : Nat) (k0 k1 : F_rrbi R) : Nat -> F_rrbi R
 | 0 => fun _ _ _ _ => none
 | n + 1 => fun x0 x1 x2 x3 => r4 N (l4 N k0 k1 n) k0 k1 x0 x1 x2 x3
def b {R : Type} (N : Nat) (kr : Bool -> Option R) (a0 a1 : Row) : Option R := bif (a0.length : Int) != (a1.length : Int) then kr false else l4 N (fun y4 y5 y6 y7 => kr y6) (fun y8 y9 y10 y11 => kr true) N a0 a1 false 0
def v (a0 : Row) (b1 : Row) : Bool := (a0.length == b1.length) && (List.range a0.length).all fun i => !(cvI (cellAt a0 i 0) != cvI (cellAt b1 i 0))
def fr (a b : Row) (i : Nat) : Bool := (List.range' i (a.length - i)).all fun i => !(cvI (cellAt a i 0) != cvI (cellAt b i 0))
theorem run {R : Type} (N : Nat) (kr : Bool -> Option R) (a b : Row) (hl : a.length = b.length) (ha : FitR a) : ∀ n (i : Nat), i <= a.length -> a.length - i < n -> l4 N (fun _ _ y _ => kr y) (fun _ _ _ _ => kr true) n a b false i = kr (fr a b i) := by
 refine Lib.loop_gen (fun n (i : Nat) => l4 N (fun _ _ y _ => kr y) (fun _ _ _ _ => kr true) n a b false i) (fun i => a.length - i) (fun i => i <= a.length) (fun i => kr (fr a b i)) (fun n i hi => ?_)
 simp only [l4, r4, Lib.dlt, Lib.dle0, Lib.toN, Bool.true_and]
 by_cases h : i < a.length
 ·have e : a.length - i = (a.length - (i + 1)) + 1 := by omega
  have hf : fr a b i = (!(cvI (cellAt a i 0) != cvI (cellAt b i 0)) && fr a b (i + 1)) := by
   unfold fr; rw [e, List.range'_succ, List.all_cons]
  have hb : i < b.length := by omega
  simp only [h, hb, decide_true, cond_true, Lib.w64_s h ha.1]
  cases hv : (cvI (cellAt a i 0) != cvI (cellAt b i 0)) with
  | false => exact .inr ⟨i + 1, h, by omega, by rw [hf, hv]; rfl, rfl⟩
  | true => left; rw [hf, hv]; rfl
 ·left
  have : a.length - i = 0 := by omega
  simp only [h, decide_false, cond_false]
  unfold fr; rw [this]; rfl
theorem b_eq {R : Type} (kr : Bool -> Option R) (a0 : Row) (b1 : Row) (f0 : FitR a0) (f1 : FitR b1) : ∃ N, b N kr a0 b1 = kr (v a0 b1) := by
 refine ⟨a0.length + 1, ?_⟩
 unfold b v
 by_cases hl : a0.length = b1.length
 ·have e : ((a0.length : Int) != (b1.length : Int)) = false := by simp [hl]
  rw [e, cond_false]
  refine (run _ kr a0 b1 hl f0 (a0.length + 1) 0 (by omega) (by omega)).trans ?_
  unfold fr; rw [show (a0.length == b1.length) = true by simp [hl], Nat.sub_zero, <- List.range_eq_range']; rfl
 ·have e : ((a0.length : Int) != (b1.length : Int)) = true := by simp; omega
  have e2 : (a0.length == b1.length) = false := by simp; omega
  rw [e, cond_true, e2]; rfl
theorem refl (a : Row) : v a a = true := by unfold v; simp
end Go.FG.U134

namespace Go.FG.U110
def r4 {R : Type} (N : Nat) (g k0 k1 : F_rrbi R) (x0 x1 : Row) (x2 : Bool) (x3 : Int) : Option R := bif decide (x3 < (x0.length : Int)) then bif decide (0 <= x3) && decide (x3 < (x0.length : Int)) then bif decide (0 <= x3) && decide (x3 < (x1.length : Int)) then bif !U134.v (cvL (cellAt x0 x3.toNat 0)) (cvL (cellAt x1 x3.toNat 0)) then k0 x0 x1 false x3 else g x0 x1 x2 (w64 (x3 + 1)) else none else none else k1 x0 x1 x2 x3
def l4 {R : Type} (N : Nat) (k0 k1 : F_rrbi R) : Nat -> F_rrbi R
 | 0 => fun _ _ _ _ => none
 | n + 1 => fun x0 x1 x2 x3 => r4 N (l4 N k0 k1 n) k0 k1 x0 x1 x2 x3
theorem q4_bind {R S : Type} (f : R -> Option S) (N : Nat) (k0 k1 : F_rrbi R) : ∀ n : Nat, (∀ (x0 x1 : Row) (x2 : Bool) (x3 : Int), Option.bind (l4 N k0 k1 n x0 x1 x2 x3) f = l4 N (fun y0 y1 y2 y3 => Option.bind (k0 y0 y1 y2 y3) f) (fun y0 y1 y2 y3 => Option.bind (k1 y0 y1 y2 y3) f) n x0 x1 x2 x3) := by
 intro n
 induction n with
 | zero => exact fun _ _ _ _ => rfl
 | succ n ih =>
  intro x0 x1 x2 x3
  simp only [l4, r4, Lib.B1, Lib.B2, Lib.B3, Lib.B4, ih]
variable {R : Type} (N : Nat) (kr : Bool -> Option R) (a0 a1 : Row)
def b : Option R := bif (a0.length : Int) != (a1.length : Int) then kr false else l4 N (fun y4 y5 y6 y7 => kr y6) (fun y8 y9 y10 y11 => kr true) N a0 a1 false 0
theorem b_bind : b N kr a0 a1 = Option.bind (b N (fun r0 => some r0) a0 a1) (fun p => kr p) := by
 unfold b; simp only [Lib.B1, Lib.B2, Lib.B3, Lib.B4, q4_bind]
def vo := b Lib.big (fun r0 => some r0) a0 a1
def c : Bool := Option.isSome (vo a0 a1)
def v := Option.getD (vo a0 a1) false
theorem out {x} (h : vo a0 a1 = some x) : c a0 a1 = true /\ v a0 a1 = x := Lib.out_ h
theorem b_eq (hc : c a0 a1 = true) : ∃ N, b N kr a0 a1 = Lib.ap (fun p => kr p) (v a0 a1) := ⟨Lib.big, Lib.bq hc (by apply b_bind)⟩
end Go.FG.U110

namespace Go.FG.U76
variable {R : Type} (kr : Bool -> Option R) (a0 : Row) (a1 : Int) (a2 : Row) (a3 : Int)
def b : Option R := bif U110.c a0 a2 then bif !U110.v a0 a2 then kr false else bif a1 != a3 then kr false else kr true else none
def vo := b (fun r0 => some r0) a0 a1 a2 a3
def c : Bool := Option.isSome (vo a0 a1 a2 a3)
def v := Option.getD (vo a0 a1 a2 a3) false
theorem out {x} (h : vo a0 a1 a2 a3 = some x) : c a0 a1 a2 a3 = true /\ v a0 a1 a2 a3 = x := Lib.out_ h
theorem b_eq (hc : c a0 a1 a2 a3 = true) : b kr a0 a1 a2 a3 = Lib.ap (fun p => kr p) (v a0 a1 a2 a3) := Lib.bq hc (by unfold vo b; simp only [Lib.B1, Lib.B2, Lib.B3, Lib.B4])
end Go.FG.U76

namespace Go.FG.U36
variable {R : Type} (kr : Bool -> Option R) (a0 a1 a2 : Row) (a3 : Int) (a4 a5 a6 : Row) (a7 : Int)
def b : Option R := bif U75.c a0 a4 then bif !U75.v a0 a4 then kr false else bif U75.c a1 a5 then bif !U75.v a1 a5 then kr false else bif U76.c a2 a3 a6 a7 then bif !U76.v a2 a3 a6 a7 then kr false else kr true else none else none else none
def vo := b (fun r0 => some r0) a0 a1 a2 a3 a4 a5 a6 a7
def c : Bool := Option.isSome (vo a0 a1 a2 a3 a4 a5 a6 a7)
def v := Option.getD (vo a0 a1 a2 a3 a4 a5 a6 a7) false
theorem out {x} (h : vo a0 a1 a2 a3 a4 a5 a6 a7 = some x) : c a0 a1 a2 a3 a4 a5 a6 a7 = true /\ v a0 a1 a2 a3 a4 a5 a6 a7 = x := Lib.out_ h
theorem b_eq (hc : c a0 a1 a2 a3 a4 a5 a6 a7 = true) : b kr a0 a1 a2 a3 a4 a5 a6 a7 = Lib.ap (fun p => kr p) (v a0 a1 a2 a3 a4 a5 a6 a7) := Lib.bq hc (by unfold vo b; simp only [Lib.B1, Lib.B2, Lib.B3, Lib.B4])
end Go.FG.U36

namespace Go.FG.U77
def b {R : Type} (kr : Bool -> Option R) (a0 a1 : ByteArray) (a2 a3 a4 : Int) (a5 a6 : ByteArray) (a7 a8 a9 : Int) : Option R := bif !List.beq (ByteArray.toList a0) (ByteArray.toList a5) then kr false else bif !List.beq (ByteArray.toList a1) (ByteArray.toList a6) then kr false else bif a2 != a7 then kr false else bif a3 != a8 then kr false else bif a4 != a9 then kr false else kr true
def v (a0 a1 : ByteArray) (a2 a3 a4 : Int) (a5 a6 : ByteArray) (a7 a8 a9 : Int) : Bool := bif !List.beq (ByteArray.toList a0) (ByteArray.toList a5) then false else bif !List.beq (ByteArray.toList a1) (ByteArray.toList a6) then false else bif a2 != a7 then false else bif a3 != a8 then false else bif a4 != a9 then false else true
theorem b_eq {R : Type} (kr : Bool -> Option R) (a0 a1 : ByteArray) (a2 a3 a4 : Int) (a5 a6 : ByteArray) (a7 a8 a9 : Int) : b kr a0 a1 a2 a3 a4 a5 a6 a7 a8 a9 = kr (v a0 a1 a2 a3 a4 a5 a6 a7 a8 a9) := by
 first | rfl | (unfold b v; simp only [Bool.cond_eq_ite]; (repeat' split) <;> rfl)
end Go.FG.U77

namespace Go.FG.U37
def r4 {R : Type} (N : Nat) (g k0 k1 : F_rrbi R) (x0 x1 : Row) (x2 : Bool) (x3 : Int) : Option R := bif decide (x3 < (x0.length : Int)) then bif decide (0 <= x3) && decide (x3 < (x0.length : Int)) then bif decide (0 <= x3) && decide (x3 < (x1.length : Int)) then bif !U77.v (cvS (cellAt x0 x3.toNat 0)) (cvS (cellAt x0 x3.toNat 1)) (cvI (cellAt x0 x3.toNat (1 + 1))) (cvI (cellAt x0 x3.toNat (1 + 1 + 1))) (cvI (cellAt x0 x3.toNat (1 + 1 + 1 + 1))) (cvS (cellAt x1 x3.toNat 0)) (cvS (cellAt x1 x3.toNat 1)) (cvI (cellAt x1 x3.toNat (1 + 1))) (cvI (cellAt x1 x3.toNat (1 + 1 + 1))) (cvI (cellAt x1 x3.toNat (1 + 1 + 1 + 1))) then k0 x0 x1 false x3 else g x0 x1 x2 (w64 (x3 + 1)) else none else none else k1 x0 x1 x2 x3
def l4 {R : Type} (N : Nat) (k0 k1 : F_rrbi R) : Nat -> F_rrbi R
 | 0 => fun _ _ _ _ => none
 | n + 1 => fun x0 x1 x2 x3 => r4 N (l4 N k0 k1 n) k0 k1 x0 x1 x2 x3
theorem q4_bind {R S : Type} (f : R -> Option S) (N : Nat) (k0 k1 : F_rrbi R) : ∀ n : Nat, (∀ (x0 x1 : Row) (x2 : Bool) (x3 : Int), Option.bind (l4 N k0 k1 n x0 x1 x2 x3) f = l4 N (fun y0 y1 y2 y3 => Option.bind (k0 y0 y1 y2 y3) f) (fun y0 y1 y2 y3 => Option.bind (k1 y0 y1 y2 y3) f) n x0 x1 x2 x3) := by
 intro n
 induction n with
 | zero => exact fun _ _ _ _ => rfl
 | succ n ih =>
  intro x0 x1 x2 x3
  simp only [l4, r4, Lib.B1, Lib.B2, Lib.B3, Lib.B4, ih]
variable {R : Type} (N : Nat) (kr : Bool -> Option R) (a0 a1 : Row)
def b : Option R := bif (a0.length : Int) != (a1.length : Int) then kr false else l4 N (fun y4 y5 y6 y7 => kr y6) (fun y8 y9 y10 y11 => kr true) N a0 a1 false 0
theorem b_bind : b N kr a0 a1 = Option.bind (b N (fun r0 => some r0) a0 a1) (fun p => kr p) := by
 unfold b; simp only [Lib.B1, Lib.B2, Lib.B3, Lib.B4, q4_bind]
def vo := b Lib.big (fun r0 => some r0) a0 a1
def c : Bool := Option.isSome (vo a0 a1)
def v := Option.getD (vo a0 a1) false
theorem out {x} (h : vo a0 a1 = some x) : c a0 a1 = true /\ v a0 a1 = x := Lib.out_ h
theorem b_eq (hc : c a0 a1 = true) : ∃ N, b N kr a0 a1 = Lib.ap (fun p => kr p) (v a0 a1) := ⟨Lib.big, Lib.bq hc (by apply b_bind)⟩
end Go.FG.U37

namespace Go.FG.U78
def b {R : Type} (kr : Bool -> Option R) (a0 : Int) (a1 : ByteArray) (a2 a3 a4 : Int) (a5 : ByteArray) (a6 a7 : Int) (a8 : ByteArray) (a9 a10 a11 : Int) (a12 : ByteArray) (a13 : Int) : Option R := bif a0 != a7 then kr false else bif !List.beq (ByteArray.toList a1) (ByteArray.toList a8) then kr false else bif a2 != a9 then kr false else bif a3 != a10 then kr false else bif a4 != a11 then kr false else bif !List.beq (ByteArray.toList a5) (ByteArray.toList a12) then kr false else bif a6 != a13 then kr false else kr true
def v (a0 : Int) (a1 : ByteArray) (a2 a3 a4 : Int) (a5 : ByteArray) (a6 a7 : Int) (a8 : ByteArray) (a9 a10 a11 : Int) (a12 : ByteArray) (a13 : Int) : Bool := bif a0 != a7 then false else bif !List.beq (ByteArray.toList a1) (ByteArray.toList a8) then false else bif a2 != a9 then false else bif a3 != a10 then false else bif a4 != a11 then false else bif !List.beq (ByteArray.toList a5) (ByteArray.toList a12) then false else bif a6 != a13 then false else true
theorem b_eq {R : Type} (kr : Bool -> Option R) (a0 : Int) (a1 : ByteArray) (a2 a3 a4 : Int) (a5 : ByteArray) (a6 a7 : Int) (a8 : ByteArray) (a9 a10 a11 : Int) (a12 : ByteArray) (a13 : Int) : b kr a0 a1 a2 a3 a4 a5 a6 a7 a8 a9 a10 a11 a12 a13 = kr (v a0 a1 a2 a3 a4 a5 a6 a7 a8 a9 a10 a11 a12 a13) := by
 first | rfl | (unfold b v; simp only [Bool.cond_eq_ite]; (repeat' split) <;> rfl)
end Go.FG.U78

namespace Go.FG.U38
def r4 {R : Type} (N : Nat) (g k0 k1 : F_rrbi R) (x0 x1 : Row) (x2 : Bool) (x3 : Int) : Option R := bif decide (x3 < (x0.length : Int)) then bif decide (0 <= x3) && decide (x3 < (x0.length : Int)) then bif decide (0 <= x3) && decide (x3 < (x1.length : Int)) then bif !U78.v (cvI (cellAt x0 x3.toNat 0)) (cvS (cellAt x0 x3.toNat 1)) (cvI (cellAt x0 x3.toNat (1 + 1))) (cvI (cellAt x0 x3.toNat (1 + 1 + 1))) (cvI (cellAt x0 x3.toNat (1 + 1 + 1 + 1))) (cvS (cellAt x0 x3.toNat (1 + 1 + 1 + 1 + 1))) (cvI (cellAt x0 x3.toNat (1 + 1 + 1 + 1 + 1 + 1))) (cvI (cellAt x1 x3.toNat 0)) (cvS (cellAt x1 x3.toNat 1)) (cvI (cellAt x1 x3.toNat (1 + 1))) (cvI (cellAt x1 x3.toNat (1 + 1 + 1))) (cvI (cellAt x1 x3.toNat (1 + 1 + 1 + 1))) (cvS (cellAt x1 x3.toNat (1 + 1 + 1 + 1 + 1))) (cvI (cellAt x1 x3.toNat (1 + 1 + 1 + 1 + 1 + 1))) then k0 x0 x1 false x3 else g x0 x1 x2 (w64 (x3 + 1)) else none else none else k1 x0 x1 x2 x3
def l4 {R : Type} (N : Nat) (k0 k1 : F_rrbi R) : Nat -> F_rrbi R
 | 0 => fun _ _ _ _ => none
 | n + 1 => fun x0 x1 x2 x3 => r4 N (l4 N k0 k1 n) k0 k1 x0 x1 x2 x3
theorem q4_bind {R S : Type} (f : R -> Option S) (N : Nat) (k0 k1 : F_rrbi R) : ∀ n : Nat, (∀ (x0 x1 : Row) (x2 : Bool) (x3 : Int), Option.bind (l4 N k0 k1 n x0 x1 x2 x3) f = l4 N (fun y0 y1 y2 y3 => Option.bind (k0 y0 y1 y2 y3) f) (fun y0 y1 y2 y3 => Option.bind (k1 y0 y1 y2 y3) f) n x0 x1 x2 x3) := by
 intro n
 induction n with
 | zero => exact fun _ _ _ _ => rfl
 | succ n ih =>
  intro x0 x1 x2 x3
  simp only [l4, r4, Lib.B1, Lib.B2, Lib.B3, Lib.B4, ih]
variable {R : Type} (N : Nat) (kr : Bool -> Option R) (a0 a1 : Row)
def b : Option R := bif (a0.length : Int) != (a1.length : Int) then kr false else l4 N (fun y4 y5 y6 y7 => kr y6) (fun y8 y9 y10 y11 => kr true) N a0 a1 false 0
theorem b_bind : b N kr a0 a1 = Option.bind (b N (fun r0 => some r0) a0 a1) (fun p => kr p) := by
 unfold b; simp only [Lib.B1, Lib.B2, Lib.B3, Lib.B4, q4_bind]
def vo := b Lib.big (fun r0 => some r0) a0 a1
def c : Bool := Option.isSome (vo a0 a1)
def v := Option.getD (vo a0 a1) false
theorem out {x} (h : vo a0 a1 = some x) : c a0 a1 = true /\ v a0 a1 = x := Lib.out_ h
theorem b_eq (hc : c a0 a1 = true) : ∃ N, b N kr a0 a1 = Lib.ap (fun p => kr p) (v a0 a1) := ⟨Lib.big, Lib.bq hc (by apply b_bind)⟩
end Go.FG.U38

namespace Go.FG.U11
variable {R : Type} (kr : Bool -> Option R) (a0 : Int) (a1 a2 a3 a4 : Row) (a5 : Int) (a6 a7 : Row) (a8 a9 : Int) (a10 a11 a12 a13 : Row) (a14 : Int) (a15 a16 : Row) (a17 : Int)
def b : Option R := bif a0 != a9 then kr false else bif U20.c a1 a10 then bif !U20.v a1 a10 then kr false else bif U36.c a2 a3 a4 a5 a11 a12 a13 a14 then bif !U36.v a2 a3 a4 a5 a11 a12 a13 a14 then kr false else bif U37.c a6 a15 then bif !U37.v a6 a15 then kr false else bif U38.c a7 a16 then bif !U38.v a7 a16 then kr false else bif a8 != a17 then kr false else kr true else none else none else none else none
def vo := b (fun r0 => some r0) a0 a1 a2 a3 a4 a5 a6 a7 a8 a9 a10 a11 a12 a13 a14 a15 a16 a17
def c : Bool := Option.isSome (vo a0 a1 a2 a3 a4 a5 a6 a7 a8 a9 a10 a11 a12 a13 a14 a15 a16 a17)
def v := Option.getD (vo a0 a1 a2 a3 a4 a5 a6 a7 a8 a9 a10 a11 a12 a13 a14 a15 a16 a17) false
theorem out {x} (h : vo a0 a1 a2 a3 a4 a5 a6 a7 a8 a9 a10 a11 a12 a13 a14 a15 a16 a17 = some x) : c a0 a1 a2 a3 a4 a5 a6 a7 a8 a9 a10 a11 a12 a13 a14 a15 a16 a17 = true /\ v a0 a1 a2 a3 a4 a5 a6 a7 a8 a9 a10 a11 a12 a13 a14 a15 a16 a17 = x := Lib.out_ h
theorem b_eq (hc : c a0 a1 a2 a3 a4 a5 a6 a7 a8 a9 a10 a11 a12 a13 a14 a15 a16 a17 = true) : b kr a0 a1 a2 a3 a4 a5 a6 a7 a8 a9 a10 a11 a12 a13 a14 a15 a16 a17 = Lib.ap (fun p => kr p) (v a0 a1 a2 a3 a4 a5 a6 a7 a8 a9 a10 a11 a12 a13 a14 a15 a16 a17) := Lib.bq hc (by unfold vo b; simp only [Lib.B1, Lib.B2, Lib.B3, Lib.B4])
end Go.FG.U11

namespace Go.FG.U59
def r4 {R : Type} (N : Nat) (g k0 : F_is R) (x0 : Int) (x1 : ByteArray) : Option R := bif decide (x0 > 0) then bif decide (ByteArray.size (bytesOf (List.set (zeros [Ck.i IntKind.u8] 1) 0 [CV.i IntKind.u8 (IntKind.wrap IntKind.u8 (w64 (48 + Int.tmod x0 10)))])) + x1.size <= 4611686018427387904) then g (w64 (Int.tdiv x0 10)) (bytesOf (List.set (zeros [Ck.i IntKind.u8] 1) 0 [CV.i IntKind.u8 (IntKind.wrap IntKind.u8 (w64 (48 + Int.tmod x0 10)))]) ++ x1) else none else k0 x0 x1
def l4 {R : Type} (N : Nat) (k0 : F_is R) : Nat -> F_is R
 | 0 => fun _ _ => none
 | n + 1 => fun x0 x1 => r4 N (l4 N k0 n) k0 x0 x1
theorem q4_bind {R S : Type} (f : R -> Option S) (N : Nat) (k0 : F_is R) : ∀ n : Nat, (∀ (x0 : Int) (x1 : ByteArray), Option.bind (l4 N k0 n x0 x1) f = l4 N (fun y0 y1 => Option.bind (k0 y0 y1) f) n x0 x1) := by
 intro n
 induction n with
 | zero => exact fun _ _ => rfl
 | succ n ih =>
  intro x0 x1
  simp only [l4, r4, Lib.B1, Lib.B2, Lib.B3, Lib.B4, ih]
variable {R : Type} (N : Nat) (kr : ByteArray -> Option R) (a0 : Int)
def b : Option R := bif decide (a0 <= 0) then kr ({ data := #[UInt8.ofNat 109, UInt8.ofNat 48] }) else l4 N (fun y2 y3 => bif decide (ByteArray.size { data := #[UInt8.ofNat 109] } + y3.size <= 4611686018427387904) then kr ({ data := #[UInt8.ofNat 109] } ++ y3) else none) N a0 ({ data := #[] })
theorem b_bind : b N kr a0 = Option.bind (b N (fun r0 => some r0) a0) (fun p => kr p) := by
 unfold b; simp only [Lib.B1, Lib.B2, Lib.B3, Lib.B4, q4_bind]
def vo := b Lib.big (fun r0 => some r0) a0
def c : Bool := Option.isSome (vo a0)
def v := Option.getD (vo a0) (⟨#[]⟩)
theorem out {x} (h : vo a0 = some x) : c a0 = true /\ v a0 = x := Lib.out_ h
theorem b_eq (hc : c a0 = true) : ∃ N, b N kr a0 = Lib.ap (fun p => kr p) (v a0) := ⟨Lib.big, Lib.bq hc (by apply b_bind)⟩
end Go.FG.U59

namespace Go.FG.U21
def r2 {R : Type} (N : Nat) (g k0 : F_iir R) (x0 x1 : Int) (x2 : Row) : Option R := bif decide (x1 < (x2.length : Int)) then bif U59.c x0 then bif decide (0 <= x1) && decide (x1 < (x2.length : Int)) then bif decide (0 <= x1) && decide (x1 < (↑(List.length (setC x2 x1.toNat 0 [CV.s (U59.v x0)])) : Int)) then bif decide (0 <= x1) && decide (x1 < (↑(List.length (setC (setC x2 x1.toNat 0 [CV.s (U59.v x0)]) x1.toNat 1 [CV.i IntKind.i64 (w64 (x0 + 1))])) : Int)) then bif U59.c (w64 (w64 (w64 (x0 + 1) + 1) + 1)) then bif decide (0 <= x1) && decide (x1 < (↑(List.length (setC (setC (setC x2 x1.toNat 0 [CV.s (U59.v x0)]) x1.toNat 1 [CV.i IntKind.i64 (w64 (x0 + 1))]) x1.toNat 2 [CV.i IntKind.i64 (w64 (w64 (x0 + 1) + 1))])) : Int)) then g (w64 (w64 (w64 (w64 (x0 + 1) + 1) + 1) + 1)) (w64 (x1 + 1)) (setC (setC (setC (setC x2 x1.toNat 0 [CV.s (U59.v x0)]) x1.toNat 1 [CV.i IntKind.i64 (w64 (x0 + 1))]) x1.toNat 2 [CV.i IntKind.i64 (w64 (w64 (x0 + 1) + 1))]) x1.toNat 3 [CV.s (U59.v (w64 (w64 (w64 (x0 + 1) + 1) + 1)))]) else none else none else none else none else none else none else k0 x0 x1 x2
def l2 {R : Type} (N : Nat) (k0 : F_iir R) : Nat -> F_iir R
 | 0 => fun _ _ _ => none
 | n + 1 => fun x0 x1 x2 => r2 N (l2 N k0 n) k0 x0 x1 x2
theorem q2_bind {R S : Type} (f : R -> Option S) (N : Nat) (k0 : F_iir R) : ∀ n : Nat, (∀ (x0 x1 : Int) (x2 : Row), Option.bind (l2 N k0 n x0 x1 x2) f = l2 N (fun y0 y1 y2 => Option.bind (k0 y0 y1 y2) f) n x0 x1 x2) := by
 intro n
 induction n with
 | zero => exact fun _ _ _ => rfl
 | succ n ih =>
  intro x0 x1 x2
  simp only [l2, r2, Lib.B1, Lib.B2, Lib.B3, Lib.B4, ih]
variable {R : Type} (N : Nat) (kr : F_ir R) (a0 : Row) (a1 : Int)
def b : Option R := l2 N (fun y3 y4 y5 => kr y3 y5) N a1 0 a0
theorem b_bind : b N kr a0 a1 = Option.bind (b N (fun r0 r1 => some (r0, r1)) a0 a1) (fun p => kr p.1 p.2) := by
 unfold b; simp only [Lib.B1, Lib.B2, Lib.B3, Lib.B4, q2_bind]
def vo := b Lib.big (fun r0 r1 => some (r0, r1)) a0 a1
def c : Bool := Option.isSome (vo a0 a1)
def v := Option.getD (vo a0 a1) (0, [])
theorem out {x} (h : vo a0 a1 = some x) : c a0 a1 = true /\ v a0 a1 = x := Lib.out_ h
theorem b_eq (hc : c a0 a1 = true) : ∃ N, b N kr a0 a1 = Lib.ap (fun p => kr p.1 p.2) (v a0 a1) := ⟨Lib.big, Lib.bq hc (by apply b_bind)⟩
end Go.FG.U21

namespace Go.FG.U79
def r2 {R : Type} (N : Nat) (g k0 : F_iir R) (x0 x1 : Int) (x2 : Row) : Option R := bif decide (x1 < (x2.length : Int)) then bif U59.c x0 then bif decide (0 <= x1) && decide (x1 < (x2.length : Int)) then g (w64 (x0 + 1)) (w64 (x1 + 1)) (setC x2 x1.toNat 0 [CV.s (U59.v x0)]) else none else none else k0 x0 x1 x2
def l2 {R : Type} (N : Nat) (k0 : F_iir R) : Nat -> F_iir R
 | 0 => fun _ _ _ => none
 | n + 1 => fun x0 x1 x2 => r2 N (l2 N k0 n) k0 x0 x1 x2
theorem q2_bind {R S : Type} (f : R -> Option S) (N : Nat) (k0 : F_iir R) : ∀ n : Nat, (∀ (x0 x1 : Int) (x2 : Row), Option.bind (l2 N k0 n x0 x1 x2) f = l2 N (fun y0 y1 y2 => Option.bind (k0 y0 y1 y2) f) n x0 x1 x2) := by
 intro n
 induction n with
 | zero => exact fun _ _ _ => rfl
 | succ n ih =>
  intro x0 x1 x2
  simp only [l2, r2, Lib.B1, Lib.B2, Lib.B3, Lib.B4, ih]
variable {R : Type} (N : Nat) (kr : F_ir R) (a0 : Row) (a1 : Int)
def b : Option R := l2 N (fun y3 y4 y5 => kr y3 y5) N a1 0 a0
theorem b_bind : b N kr a0 a1 = Option.bind (b N (fun r0 r1 => some (r0, r1)) a0 a1) (fun p => kr p.1 p.2) := by
 unfold b; simp only [Lib.B1, Lib.B2, Lib.B3, Lib.B4, q2_bind]
def vo := b Lib.big (fun r0 r1 => some (r0, r1)) a0 a1
def c : Bool := Option.isSome (vo a0 a1)
def v := Option.getD (vo a0 a1) (0, [])
theorem out {x} (h : vo a0 a1 = some x) : c a0 a1 = true /\ v a0 a1 = x := Lib.out_ h
theorem b_eq (hc : c a0 a1 = true) : ∃ N, b N kr a0 a1 = Lib.ap (fun p => kr p.1 p.2) (v a0 a1) := ⟨Lib.big, Lib.bq hc (by apply b_bind)⟩
end Go.FG.U79

namespace Go.FG.U135
def r2 {R : Type} (N : Nat) (g k0 : F_iir R) (x0 x1 : Int) (x2 : Row) : Option R := bif decide (x1 < (x2.length : Int)) then bif decide (0 <= x1) && decide (x1 < (x2.length : Int)) then g (w64 (x0 + 1)) (w64 (x1 + 1)) (setC x2 x1.toNat 0 [CV.i IntKind.i64 x0]) else none else k0 x0 x1 x2
def l2 {R : Type} (N : Nat) (k0 : F_iir R) : Nat -> F_iir R
 | 0 => fun _ _ _ => none
 | n + 1 => fun x0 x1 x2 => r2 N (l2 N k0 n) k0 x0 x1 x2
theorem q2_bind {R S : Type} (f : R -> Option S) (N : Nat) (k0 : F_iir R) : ∀ n : Nat, (∀ (x0 x1 : Int) (x2 : Row), Option.bind (l2 N k0 n x0 x1 x2) f = l2 N (fun y0 y1 y2 => Option.bind (k0 y0 y1 y2) f) n x0 x1 x2) := by
 intro n
 induction n with
 | zero => exact fun _ _ _ => rfl
 | succ n ih =>
  intro x0 x1 x2
  simp only [l2, r2, Lib.B1, Lib.B2, Lib.B3, Lib.B4, ih]
variable {R : Type} (N : Nat) (kr : F_ir R) (a0 : Row) (a1 : Int)
def b : Option R := l2 N (fun y3 y4 y5 => kr y3 y5) N a1 0 a0
theorem b_bind : b N kr a0 a1 = Option.bind (b N (fun r0 r1 => some (r0, r1)) a0 a1) (fun p => kr p.1 p.2) := by
 unfold b; simp only [Lib.B1, Lib.B2, Lib.B3, Lib.B4, q2_bind]
def vo := b Lib.big (fun r0 r1 => some (r0, r1)) a0 a1
def c : Bool := Option.isSome (vo a0 a1)
def v := Option.getD (vo a0 a1) (0, [])
theorem out {x} (h : vo a0 a1 = some x) : c a0 a1 = true /\ v a0 a1 = x := Lib.out_ h
theorem b_eq (hc : c a0 a1 = true) : ∃ N, b N kr a0 a1 = Lib.ap (fun p => kr p.1 p.2) (v a0 a1) := ⟨Lib.big, Lib.bq hc (by apply b_bind)⟩
end Go.FG.U135

namespace Go.FG.U111
def r2 {R : Type} (N : Nat) (g k0 : F_iir R) (x0 x1 : Int) (x2 : Row) : Option R := bif decide (x1 < (x2.length : Int)) then bif decide (0 <= x1) && decide (x1 < (x2.length : Int)) then bif U135.c (cvL (cellAt x2 x1.toNat 0)) x0 then g ((U135.v (cvL (cellAt x2 x1.toNat 0)) x0).1) (w64 (x1 + 1)) (setC x2 x1.toNat 0 [CV.l 3 (U135.v (cvL (cellAt x2 x1.toNat 0)) x0).2]) else none else none else k0 x0 x1 x2
def l2 {R : Type} (N : Nat) (k0 : F_iir R) : Nat -> F_iir R
 | 0 => fun _ _ _ => none
 | n + 1 => fun x0 x1 x2 => r2 N (l2 N k0 n) k0 x0 x1 x2
theorem q2_bind {R S : Type} (f : R -> Option S) (N : Nat) (k0 : F_iir R) : ∀ n : Nat, (∀ (x0 x1 : Int) (x2 : Row), Option.bind (l2 N k0 n x0 x1 x2) f = l2 N (fun y0 y1 y2 => Option.bind (k0 y0 y1 y2) f) n x0 x1 x2) := by
 intro n
 induction n with
 | zero => exact fun _ _ _ => rfl
 | succ n ih =>
  intro x0 x1 x2
  simp only [l2, r2, Lib.B1, Lib.B2, Lib.B3, Lib.B4, ih]
variable {R : Type} (N : Nat) (kr : F_ir R) (a0 : Row) (a1 : Int)
def b : Option R := l2 N (fun y3 y4 y5 => kr y3 y5) N a1 0 a0
theorem b_bind : b N kr a0 a1 = Option.bind (b N (fun r0 r1 => some (r0, r1)) a0 a1) (fun p => kr p.1 p.2) := by
 unfold b; simp only [Lib.B1, Lib.B2, Lib.B3, Lib.B4, q2_bind]
def vo := b Lib.big (fun r0 r1 => some (r0, r1)) a0 a1
def c : Bool := Option.isSome (vo a0 a1)
def v := Option.getD (vo a0 a1) (0, [])
theorem out {x} (h : vo a0 a1 = some x) : c a0 a1 = true /\ v a0 a1 = x := Lib.out_ h
theorem b_eq (hc : c a0 a1 = true) : ∃ N, b N kr a0 a1 = Lib.ap (fun p => kr p.1 p.2) (v a0 a1) := ⟨Lib.big, Lib.bq hc (by apply b_bind)⟩
end Go.FG.U111

namespace Go.FG.U80
def b {R : Type} (kr : F_ir R) (a0 : Row) (a1 a2 : Int) : Option R := bif U111.c a0 a2 then kr ((U111.v a0 a2).1) ((U111.v a0 a2).2) else none
variable {R : Type} (kr : F_ir R) (a0 : Row) (a1 a2 : Int)
def vo := b (fun r0 r1 => some (r0, r1)) a0 a1 a2
def c : Bool := Option.isSome (vo a0 a1 a2)
def v := Option.getD (vo a0 a1 a2) (0, [])
theorem out {x} (h : vo a0 a1 a2 = some x) : c a0 a1 a2 = true /\ v a0 a1 a2 = x := Lib.out_ h
theorem b_eq (hc : c a0 a1 a2 = true) : b kr a0 a1 a2 = Lib.ap (fun p => kr p.1 p.2) (v a0 a1 a2) := Lib.bq hc (by unfold vo b; simp only [Lib.B1, Lib.B2, Lib.B3, Lib.B4])
end Go.FG.U80

namespace Go.FG.U39
variable {R : Type} (kr : F_irrr R) (a0 a1 a2 : Row) (a3 a4 : Int)
def b : Option R := bif U79.c a0 a4 then bif U79.c a1 (U79.v a0 a4).1 then bif U80.c a2 a3 (U79.v a1 (U79.v a0 a4).1).1 then kr ((U80.v a2 a3 (U79.v a1 (U79.v a0 a4).1).1).1) ((U79.v a0 a4).2) ((U79.v a1 (U79.v a0 a4).1).2) ((U80.v a2 a3 (U79.v a1 (U79.v a0 a4).1).1).2) else none else none else none
def vo := b (fun r0 r1 r2 r3 => some (r0, r1, r2, r3)) a0 a1 a2 a3 a4
def c : Bool := Option.isSome (vo a0 a1 a2 a3 a4)
def v := Option.getD (vo a0 a1 a2 a3 a4) (0, [], [], [])
theorem out {x} (h : vo a0 a1 a2 a3 a4 = some x) : c a0 a1 a2 a3 a4 = true /\ v a0 a1 a2 a3 a4 = x := Lib.out_ h
theorem b_eq (hc : c a0 a1 a2 a3 a4 = true) : b kr a0 a1 a2 a3 a4 = Lib.ap (fun p => kr p.1 p.2.1 p.2.2.1 p.2.2.2) (v a0 a1 a2 a3 a4) := Lib.bq hc (by unfold vo b; simp only [Lib.B1, Lib.B2, Lib.B3, Lib.B4])
end Go.FG.U39

namespace Go.FG.U40
def r2 {R : Type} (N : Nat) (g k0 : F_iir R) (x0 x1 : Int) (x2 : Row) : Option R := bif decide (x1 < (x2.length : Int)) then bif U59.c x0 then bif decide (0 <= x1) && decide (x1 < (x2.length : Int)) then bif U59.c (w64 (x0 + 1)) then bif decide (0 <= x1) && decide (x1 < (↑(List.length (setC x2 x1.toNat 0 [CV.s (U59.v x0)])) : Int)) then bif decide (0 <= x1) && decide (x1 < (↑(List.length (setC (setC x2 x1.toNat 0 [CV.s (U59.v x0)]) x1.toNat 1 [CV.s (U59.v (w64 (x0 + 1)))])) : Int)) then bif decide (0 <= x1) && decide (x1 < (↑(List.length (setC (setC (setC x2 x1.toNat 0 [CV.s (U59.v x0)]) x1.toNat 1 [CV.s (U59.v (w64 (x0 + 1)))]) x1.toNat 2 [CV.i IntKind.i64 (w64 (w64 (x0 + 1) + 1))])) : Int)) then bif decide (0 <= x1) && decide (x1 < (↑(List.length (setC (setC (setC (setC x2 x1.toNat 0 [CV.s (U59.v x0)]) x1.toNat 1 [CV.s (U59.v (w64 (x0 + 1)))]) x1.toNat 2 [CV.i IntKind.i64 (w64 (w64 (x0 + 1) + 1))]) x1.toNat 3 [CV.i IntKind.i64 (w64 (w64 (w64 (x0 + 1) + 1) + 1))])) : Int)) then g (w64 (w64 (w64 (w64 (w64 (x0 + 1) + 1) + 1) + 1) + 1)) (w64 (x1 + 1)) (setC (setC (setC (setC (setC x2 x1.toNat 0 [CV.s (U59.v x0)]) x1.toNat 1 [CV.s (U59.v (w64 (x0 + 1)))]) x1.toNat 2 [CV.i IntKind.i64 (w64 (w64 (x0 + 1) + 1))]) x1.toNat 3 [CV.i IntKind.i64 (w64 (w64 (w64 (x0 + 1) + 1) + 1))]) x1.toNat 4 [CV.i IntKind.i64 (w64 (w64 (w64 (w64 (x0 + 1) + 1) + 1) + 1))]) else none else none else none else none else none else none else none else k0 x0 x1 x2
def l2 {R : Type} (N : Nat) (k0 : F_iir R) : Nat -> F_iir R
 | 0 => fun _ _ _ => none
 | n + 1 => fun x0 x1 x2 => r2 N (l2 N k0 n) k0 x0 x1 x2
theorem q2_bind {R S : Type} (f : R -> Option S) (N : Nat) (k0 : F_iir R) : ∀ n : Nat, (∀ (x0 x1 : Int) (x2 : Row), Option.bind (l2 N k0 n x0 x1 x2) f = l2 N (fun y0 y1 y2 => Option.bind (k0 y0 y1 y2) f) n x0 x1 x2) := by
 intro n
 induction n with
 | zero => exact fun _ _ _ => rfl
 | succ n ih =>
  intro x0 x1 x2
  simp only [l2, r2, Lib.B1, Lib.B2, Lib.B3, Lib.B4, ih]
variable {R : Type} (N : Nat) (kr : F_ir R) (a0 : Row) (a1 : Int)
def b : Option R := l2 N (fun y3 y4 y5 => kr y3 y5) N a1 0 a0
theorem b_bind : b N kr a0 a1 = Option.bind (b N (fun r0 r1 => some (r0, r1)) a0 a1) (fun p => kr p.1 p.2) := by
 unfold b; simp only [Lib.B1, Lib.B2, Lib.B3, Lib.B4, q2_bind]
def vo := b Lib.big (fun r0 r1 => some (r0, r1)) a0 a1
def c : Bool := Option.isSome (vo a0 a1)
def v := Option.getD (vo a0 a1) (0, [])
theorem out {x} (h : vo a0 a1 = some x) : c a0 a1 = true /\ v a0 a1 = x := Lib.out_ h
theorem b_eq (hc : c a0 a1 = true) : ∃ N, b N kr a0 a1 = Lib.ap (fun p => kr p.1 p.2) (v a0 a1) := ⟨Lib.big, Lib.bq hc (by apply b_bind)⟩
end Go.FG.U40

namespace Go.FG.U41
def r2 {R : Type} (N : Nat) (g k0 : F_iir R) (x0 x1 : Int) (x2 : Row) : Option R := bif decide (x1 < (x2.length : Int)) then bif decide (0 <= x1) && decide (x1 < (x2.length : Int)) then bif U59.c (w64 (x0 + 1)) then bif decide (0 <= x1) && decide (x1 < (↑(List.length (setC x2 x1.toNat 0 [CV.i IntKind.i64 x0])) : Int)) then bif decide (0 <= x1) && decide (x1 < (↑(List.length (setC (setC x2 x1.toNat 0 [CV.i IntKind.i64 x0]) x1.toNat 1 [CV.s (U59.v (w64 (x0 + 1)))])) : Int)) then bif decide (0 <= x1) && decide (x1 < (↑(List.length (setC (setC (setC x2 x1.toNat 0 [CV.i IntKind.i64 x0]) x1.toNat 1 [CV.s (U59.v (w64 (x0 + 1)))]) x1.toNat 2 [CV.i IntKind.i64 (w64 (w64 (x0 + 1) + 1))])) : Int)) then bif decide (0 <= x1) && decide (x1 < (↑(List.length (setC (setC (setC (setC x2 x1.toNat 0 [CV.i IntKind.i64 x0]) x1.toNat 1 [CV.s (U59.v (w64 (x0 + 1)))]) x1.toNat 2 [CV.i IntKind.i64 (w64 (w64 (x0 + 1) + 1))]) x1.toNat 3 [CV.i IntKind.i64 (w64 (w64 (w64 (x0 + 1) + 1) + 1))])) : Int)) then bif U59.c (w64 (w64 (w64 (w64 (w64 (x0 + 1) + 1) + 1) + 1) + 1)) then bif decide (0 <= x1) && decide (x1 < (↑(List.length (setC (setC (setC (setC (setC x2 x1.toNat 0 [CV.i IntKind.i64 x0]) x1.toNat 1 [CV.s (U59.v (w64 (x0 + 1)))]) x1.toNat 2 [CV.i IntKind.i64 (w64 (w64 (x0 + 1) + 1))]) x1.toNat 3 [CV.i IntKind.i64 (w64 (w64 (w64 (x0 + 1) + 1) + 1))]) x1.toNat 4 [CV.i IntKind.i64 (w64 (w64 (w64 (w64 (x0 + 1) + 1) + 1) + 1))])) : Int)) then bif decide (0 <= x1) && decide (x1 < (↑(List.length (setC (setC (setC (setC (setC (setC x2 x1.toNat 0 [CV.i IntKind.i64 x0]) x1.toNat 1 [CV.s (U59.v (w64 (x0 + 1)))]) x1.toNat 2 [CV.i IntKind.i64 (w64 (w64 (x0 + 1) + 1))]) x1.toNat 3 [CV.i IntKind.i64 (w64 (w64 (w64 (x0 + 1) + 1) + 1))]) x1.toNat 4 [CV.i IntKind.i64 (w64 (w64 (w64 (w64 (x0 + 1) + 1) + 1) + 1))]) x1.toNat 5 [CV.s (U59.v (w64 (w64 (w64 (w64 (w64 (x0 + 1) + 1) + 1) + 1) + 1)))])) : Int)) then g (w64 (w64 (w64 (w64 (w64 (w64 (w64 (x0 + 1) + 1) + 1) + 1) + 1) + 1) + 1)) (w64 (x1 + 1)) (setC (setC (setC (setC (setC (setC (setC x2 x1.toNat 0 [CV.i IntKind.i64 x0]) x1.toNat 1 [CV.s (U59.v (w64 (x0 + 1)))]) x1.toNat 2 [CV.i IntKind.i64 (w64 (w64 (x0 + 1) + 1))]) x1.toNat 3 [CV.i IntKind.i64 (w64 (w64 (w64 (x0 + 1) + 1) + 1))]) x1.toNat 4 [CV.i IntKind.i64 (w64 (w64 (w64 (w64 (x0 + 1) + 1) + 1) + 1))]) x1.toNat 5 [CV.s (U59.v (w64 (w64 (w64 (w64 (w64 (x0 + 1) + 1) + 1) + 1) + 1)))]) x1.toNat 6 [CV.i IntKind.i64 (w64 (w64 (w64 (w64 (w64 (w64 (x0 + 1) + 1) + 1) + 1) + 1) + 1))]) else none else none else none else none else none else none else none else none else none else k0 x0 x1 x2
def l2 {R : Type} (N : Nat) (k0 : F_iir R) : Nat -> F_iir R
 | 0 => fun _ _ _ => none
 | n + 1 => fun x0 x1 x2 => r2 N (l2 N k0 n) k0 x0 x1 x2
theorem q2_bind {R S : Type} (f : R -> Option S) (N : Nat) (k0 : F_iir R) : ∀ n : Nat, (∀ (x0 x1 : Int) (x2 : Row), Option.bind (l2 N k0 n x0 x1 x2) f = l2 N (fun y0 y1 y2 => Option.bind (k0 y0 y1 y2) f) n x0 x1 x2) := by
 intro n
 induction n with
 | zero => exact fun _ _ _ => rfl
 | succ n ih =>
  intro x0 x1 x2
  simp only [l2, r2, Lib.B1, Lib.B2, Lib.B3, Lib.B4, ih]
variable {R : Type} (N : Nat) (kr : F_ir R) (a0 : Row) (a1 : Int)
def b : Option R := l2 N (fun y3 y4 y5 => kr y3 y5) N a1 0 a0
theorem b_bind : b N kr a0 a1 = Option.bind (b N (fun r0 r1 => some (r0, r1)) a0 a1) (fun p => kr p.1 p.2) := by
 unfold b; simp only [Lib.B1, Lib.B2, Lib.B3, Lib.B4, q2_bind]
def vo := b Lib.big (fun r0 r1 => some (r0, r1)) a0 a1
def c : Bool := Option.isSome (vo a0 a1)
def v := Option.getD (vo a0 a1) (0, [])
theorem out {x} (h : vo a0 a1 = some x) : c a0 a1 = true /\ v a0 a1 = x := Lib.out_ h
theorem b_eq (hc : c a0 a1 = true) : ∃ N, b N kr a0 a1 = Lib.ap (fun p => kr p.1 p.2) (v a0 a1) := ⟨Lib.big, Lib.bq hc (by apply b_bind)⟩
end Go.FG.U41

namespace Go.FG.U12
def b {R : Type} (kr : F_irrrrrr R) (a0 : Int) (a1 a2 a3 a4 : Row) (a5 : Int) (a6 a7 : Row) (a8 a9 : Int) : Option R := bif U21.c a1 a9 then bif U39.c a2 a3 a4 a5 (U21.v a1 a9).1 then bif U40.c a6 (U39.v a2 a3 a4 a5 (U21.v a1 a9).1).1 then bif U41.c a7 (U40.v a6 (U39.v a2 a3 a4 a5 (U21.v a1 a9).1).1).1 then kr ((U41.v a7 (U40.v a6 (U39.v a2 a3 a4 a5 (U21.v a1 a9).1).1).1).1) ((U21.v a1 a9).2) ((U39.v a2 a3 a4 a5 (U21.v a1 a9).1).2.1) ((U39.v a2 a3 a4 a5 (U21.v a1 a9).1).2.2.1) ((U39.v a2 a3 a4 a5 (U21.v a1 a9).1).2.2.2) ((U40.v a6 (U39.v a2 a3 a4 a5 (U21.v a1 a9).1).1).2) ((U41.v a7 (U40.v a6 (U39.v a2 a3 a4 a5 (U21.v a1 a9).1).1).1).2) else none else none else none else none
variable {R : Type} (kr : F_irrrrrr R) (a0 : Int) (a1 a2 a3 a4 : Row) (a5 : Int) (a6 a7 : Row) (a8 a9 : Int)
def vo := b (fun r0 r1 r2 r3 r4 r5 r6 => some (r0, r1, r2, r3, r4, r5, r6)) a0 a1 a2 a3 a4 a5 a6 a7 a8 a9
def c : Bool := Option.isSome (vo a0 a1 a2 a3 a4 a5 a6 a7 a8 a9)
def v := Option.getD (vo a0 a1 a2 a3 a4 a5 a6 a7 a8 a9) (0, [], [], [], [], [], [])
theorem out {x} (h : vo a0 a1 a2 a3 a4 a5 a6 a7 a8 a9 = some x) : c a0 a1 a2 a3 a4 a5 a6 a7 a8 a9 = true /\ v a0 a1 a2 a3 a4 a5 a6 a7 a8 a9 = x := Lib.out_ h
theorem b_eq (hc : c a0 a1 a2 a3 a4 a5 a6 a7 a8 a9 = true) : b kr a0 a1 a2 a3 a4 a5 a6 a7 a8 a9 = Lib.ap (fun p => kr p.1 p.2.1 p.2.2.1 p.2.2.2.1 p.2.2.2.2.1 p.2.2.2.2.2.1 p.2.2.2.2.2.2) (v a0 a1 a2 a3 a4 a5 a6 a7 a8 a9) := Lib.bq hc (by unfold vo b; simp only [Lib.B1, Lib.B2, Lib.B3, Lib.B4])
end Go.FG.U12

namespace Go.FG.U42
def r2 {R : Type} (N : Nat) (g k0 k1 : F_riii R) (x0 : Row) (x1 x2 x3 : Int) : Option R := bif decide (x3 < (x0.length : Int)) then bif decide (0 <= x3) && decide (x3 < (x0.length : Int)) then bif U59.c x1 then bif !List.beq (ByteArray.toList (cvS (cellAt x0 x3.toNat 0))) (ByteArray.toList (U59.v x1)) then k0 x0 x1 (-1) x3 else bif decide (0 <= x3) && decide (x3 < (x0.length : Int)) then bif cvI (cellAt x0 x3.toNat 1) != w64 (x1 + 1) then k0 x0 (w64 (x1 + 1)) (-1) x3 else bif decide (0 <= x3) && decide (x3 < (x0.length : Int)) then bif cvI (cellAt x0 x3.toNat 2) != w64 (w64 (x1 + 1) + 1) then k0 x0 (w64 (w64 (x1 + 1) + 1)) (-1) x3 else bif decide (0 <= x3) && decide (x3 < (x0.length : Int)) then bif U59.c (w64 (w64 (w64 (x1 + 1) + 1) + 1)) then bif !List.beq (ByteArray.toList (cvS (cellAt x0 x3.toNat 3))) (ByteArray.toList (U59.v (w64 (w64 (w64 (x1 + 1) + 1) + 1)))) then k0 x0 (w64 (w64 (w64 (x1 + 1) + 1) + 1)) (-1) x3 else g x0 (w64 (w64 (w64 (w64 (x1 + 1) + 1) + 1) + 1)) x2 (w64 (x3 + 1)) else none else none else none else none else none else none else k1 x0 x1 x2 x3
def l2 {R : Type} (N : Nat) (k0 k1 : F_riii R) : Nat -> F_riii R
 | 0 => fun _ _ _ _ => none
 | n + 1 => fun x0 x1 x2 x3 => r2 N (l2 N k0 k1 n) k0 k1 x0 x1 x2 x3
theorem q2_bind {R S : Type} (f : R -> Option S) (N : Nat) (k0 k1 : F_riii R) : ∀ n : Nat, (∀ (x0 : Row) (x1 x2 x3 : Int), Option.bind (l2 N k0 k1 n x0 x1 x2 x3) f = l2 N (fun y0 y1 y2 y3 => Option.bind (k0 y0 y1 y2 y3) f) (fun y0 y1 y2 y3 => Option.bind (k1 y0 y1 y2 y3) f) n x0 x1 x2 x3) := by
 intro n
 induction n with
 | zero => exact fun _ _ _ _ => rfl
 | succ n ih =>
  intro x0 x1 x2 x3
  simp only [l2, r2, Lib.B1, Lib.B2, Lib.B3, Lib.B4, ih]
variable {R : Type} (N : Nat) (kr : Int -> Option R) (a0 : Row) (a1 : Int)
def b : Option R := l2 N (fun y4 y5 y6 y7 => kr y6) (fun y8 y9 y10 y11 => kr y9) N a0 a1 0 0
theorem b_bind : b N kr a0 a1 = Option.bind (b N (fun r0 => some r0) a0 a1) (fun p => kr p) := by
 unfold b; simp only [Lib.B1, Lib.B2, Lib.B3, Lib.B4, q2_bind]
def vo := b Lib.big (fun r0 => some r0) a0 a1
def c : Bool := Option.isSome (vo a0 a1)
def v := Option.getD (vo a0 a1) (0)
theorem out {x} (h : vo a0 a1 = some x) : c a0 a1 = true /\ v a0 a1 = x := Lib.out_ h
theorem b_eq (hc : c a0 a1 = true) : ∃ N, b N kr a0 a1 = Lib.ap (fun p => kr p) (v a0 a1) := ⟨Lib.big, Lib.bq hc (by apply b_bind)⟩
end Go.FG.U42

namespace Go.FG.U81
def r2 {R : Type} (N : Nat) (g k0 k1 : F_riii R) (x0 : Row) (x1 x2 x3 : Int) : Option R := bif decide (x3 < (x0.length : Int)) then bif decide (0 <= x3) && decide (x3 < (x0.length : Int)) then bif U59.c x1 then bif !List.beq (ByteArray.toList (cvS (cellAt x0 x3.toNat 0))) (ByteArray.toList (U59.v x1)) then k0 x0 x1 (-1) x3 else g x0 (w64 (x1 + 1)) x2 (w64 (x3 + 1)) else none else none else k1 x0 x1 x2 x3
def l2 {R : Type} (N : Nat) (k0 k1 : F_riii R) : Nat -> F_riii R
 | 0 => fun _ _ _ _ => none
 | n + 1 => fun x0 x1 x2 x3 => r2 N (l2 N k0 k1 n) k0 k1 x0 x1 x2 x3
theorem q2_bind {R S : Type} (f : R -> Option S) (N : Nat) (k0 k1 : F_riii R) : ∀ n : Nat, (∀ (x0 : Row) (x1 x2 x3 : Int), Option.bind (l2 N k0 k1 n x0 x1 x2 x3) f = l2 N (fun y0 y1 y2 y3 => Option.bind (k0 y0 y1 y2 y3) f) (fun y0 y1 y2 y3 => Option.bind (k1 y0 y1 y2 y3) f) n x0 x1 x2 x3) := by
 intro n
 induction n with
 | zero => exact fun _ _ _ _ => rfl
 | succ n ih =>
  intro x0 x1 x2 x3
  simp only [l2, r2, Lib.B1, Lib.B2, Lib.B3, Lib.B4, ih]
variable {R : Type} (N : Nat) (kr : Int -> Option R) (a0 : Row) (a1 : Int)
def b : Option R := l2 N (fun y4 y5 y6 y7 => kr y6) (fun y8 y9 y10 y11 => kr y9) N a0 a1 0 0
theorem b_bind : b N kr a0 a1 = Option.bind (b N (fun r0 => some r0) a0 a1) (fun p => kr p) := by
 unfold b; simp only [Lib.B1, Lib.B2, Lib.B3, Lib.B4, q2_bind]
def vo := b Lib.big (fun r0 => some r0) a0 a1
def c : Bool := Option.isSome (vo a0 a1)
def v := Option.getD (vo a0 a1) (0)
theorem out {x} (h : vo a0 a1 = some x) : c a0 a1 = true /\ v a0 a1 = x := Lib.out_ h
theorem b_eq (hc : c a0 a1 = true) : ∃ N, b N kr a0 a1 = Lib.ap (fun p => kr p) (v a0 a1) := ⟨Lib.big, Lib.bq hc (by apply b_bind)⟩
end Go.FG.U81

namespace Go.FG.U136
def r2 {R : Type} (N : Nat) (g k0 k1 : F_riii R) (x0 : Row) (x1 x2 x3 : Int) : Option R := bif decide (x3 < (x0.length : Int)) then bif decide (0 <= x3) && decide (x3 < (x0.length : Int)) then bif cvI (cellAt x0 x3.toNat 0) != x1 then k0 x0 x1 (-1) x3 else g x0 (w64 (x1 + 1)) x2 (w64 (x3 + 1)) else none else k1 x0 x1 x2 x3
def l2 {R : Type} (N : Nat) (k0 k1 : F_riii R) : Nat -> F_riii R
 | 0 => fun _ _ _ _ => none
 | n + 1 => fun x0 x1 x2 x3 => r2 N (l2 N k0 k1 n) k0 k1 x0 x1 x2 x3
theorem q2_bind {R S : Type} (f : R -> Option S) (N : Nat) (k0 k1 : F_riii R) : ∀ n : Nat, (∀ (x0 : Row) (x1 x2 x3 : Int), Option.bind (l2 N k0 k1 n x0 x1 x2 x3) f = l2 N (fun y0 y1 y2 y3 => Option.bind (k0 y0 y1 y2 y3) f) (fun y0 y1 y2 y3 => Option.bind (k1 y0 y1 y2 y3) f) n x0 x1 x2 x3) := by
 intro n
 induction n with
 | zero => exact fun _ _ _ _ => rfl
 | succ n ih =>
  intro x0 x1 x2 x3
  simp only [l2, r2, Lib.B1, Lib.B2, Lib.B3, Lib.B4, ih]
variable {R : Type} (N : Nat) (kr : Int -> Option R) (a0 : Row) (a1 : Int)
def b : Option R := l2 N (fun y4 y5 y6 y7 => kr y6) (fun y8 y9 y10 y11 => kr y9) N a0 a1 0 0
theorem b_bind : b N kr a0 a1 = Option.bind (b N (fun r0 => some r0) a0 a1) (fun p => kr p) := by
 unfold b; simp only [Lib.B1, Lib.B2, Lib.B3, Lib.B4, q2_bind]
def vo := b Lib.big (fun r0 => some r0) a0 a1
def c : Bool := Option.isSome (vo a0 a1)
def v := Option.getD (vo a0 a1) (0)
theorem out {x} (h : vo a0 a1 = some x) : c a0 a1 = true /\ v a0 a1 = x := Lib.out_ h
theorem b_eq (hc : c a0 a1 = true) : ∃ N, b N kr a0 a1 = Lib.ap (fun p => kr p) (v a0 a1) := ⟨Lib.big, Lib.bq hc (by apply b_bind)⟩
end Go.FG.U136

namespace Go.FG.U112
def r2 {R : Type} (N : Nat) (g k0 k1 : F_riii R) (x0 : Row) (x1 x2 x3 : Int) : Option R := bif decide (x3 < (x0.length : Int)) then bif decide (0 <= x3) && decide (x3 < (x0.length : Int)) then bif U136.c (cvL (cellAt x0 x3.toNat 0)) x1 then bif decide (U136.v (cvL (cellAt x0 x3.toNat 0)) x1 < 0) then k0 x0 (U136.v (cvL (cellAt x0 x3.toNat 0)) x1) (-1) x3 else g x0 (U136.v (cvL (cellAt x0 x3.toNat 0)) x1) x2 (w64 (x3 + 1)) else none else none else k1 x0 x1 x2 x3
def l2 {R : Type} (N : Nat) (k0 k1 : F_riii R) : Nat -> F_riii R
 | 0 => fun _ _ _ _ => none
 | n + 1 => fun x0 x1 x2 x3 => r2 N (l2 N k0 k1 n) k0 k1 x0 x1 x2 x3
theorem q2_bind {R S : Type} (f : R -> Option S) (N : Nat) (k0 k1 : F_riii R) : ∀ n : Nat, (∀ (x0 : Row) (x1 x2 x3 : Int), Option.bind (l2 N k0 k1 n x0 x1 x2 x3) f = l2 N (fun y0 y1 y2 y3 => Option.bind (k0 y0 y1 y2 y3) f) (fun y0 y1 y2 y3 => Option.bind (k1 y0 y1 y2 y3) f) n x0 x1 x2 x3) := by
 intro n
 induction n with
 | zero => exact fun _ _ _ _ => rfl
 | succ n ih =>
  intro x0 x1 x2 x3
  simp only [l2, r2, Lib.B1, Lib.B2, Lib.B3, Lib.B4, ih]
variable {R : Type} (N : Nat) (kr : Int -> Option R) (a0 : Row) (a1 : Int)
def b : Option R := l2 N (fun y4 y5 y6 y7 => kr y6) (fun y8 y9 y10 y11 => kr y9) N a0 a1 0 0
theorem b_bind : b N kr a0 a1 = Option.bind (b N (fun r0 => some r0) a0 a1) (fun p => kr p) := by
 unfold b; simp only [Lib.B1, Lib.B2, Lib.B3, Lib.B4, q2_bind]
def vo := b Lib.big (fun r0 => some r0) a0 a1
def c : Bool := Option.isSome (vo a0 a1)
def v := Option.getD (vo a0 a1) (0)
theorem out {x} (h : vo a0 a1 = some x) : c a0 a1 = true /\ v a0 a1 = x := Lib.out_ h
theorem b_eq (hc : c a0 a1 = true) : ∃ N, b N kr a0 a1 = Lib.ap (fun p => kr p) (v a0 a1) := ⟨Lib.big, Lib.bq hc (by apply b_bind)⟩
end Go.FG.U112

namespace Go.FG.U82
def b {R : Type} (kr : Int -> Option R) (a0 : Row) (a1 a2 : Int) : Option R := bif U112.c a0 a2 then bif decide (U112.v a0 a2 < 0) then kr (-1) else kr (U112.v a0 a2) else none
variable {R : Type} (kr : Int -> Option R) (a0 : Row) (a1 a2 : Int)
def vo := b (fun r0 => some r0) a0 a1 a2
def c : Bool := Option.isSome (vo a0 a1 a2)
def v := Option.getD (vo a0 a1 a2) (0)
theorem out {x} (h : vo a0 a1 a2 = some x) : c a0 a1 a2 = true /\ v a0 a1 a2 = x := Lib.out_ h
theorem b_eq (hc : c a0 a1 a2 = true) : b kr a0 a1 a2 = Lib.ap (fun p => kr p) (v a0 a1 a2) := Lib.bq hc (by unfold vo b; simp only [Lib.B1, Lib.B2, Lib.B3, Lib.B4])
end Go.FG.U82

namespace Go.FG.U43
variable {R : Type} (kr : Int -> Option R) (a0 a1 a2 : Row) (a3 a4 : Int)
def b : Option R := bif U81.c a0 a4 then bif decide (U81.v a0 a4 < 0) then kr (-1) else bif U81.c a1 (U81.v a0 a4) then bif decide (U81.v a1 (U81.v a0 a4) < 0) then kr (-1) else bif U82.c a2 a3 (U81.v a1 (U81.v a0 a4)) then bif decide (U82.v a2 a3 (U81.v a1 (U81.v a0 a4)) < 0) then kr (-1) else kr (U82.v a2 a3 (U81.v a1 (U81.v a0 a4))) else none else none else none
def vo := b (fun r0 => some r0) a0 a1 a2 a3 a4
def c : Bool := Option.isSome (vo a0 a1 a2 a3 a4)
def v := Option.getD (vo a0 a1 a2 a3 a4) (0)
theorem out {x} (h : vo a0 a1 a2 a3 a4 = some x) : c a0 a1 a2 a3 a4 = true /\ v a0 a1 a2 a3 a4 = x := Lib.out_ h
theorem b_eq (hc : c a0 a1 a2 a3 a4 = true) : b kr a0 a1 a2 a3 a4 = Lib.ap (fun p => kr p) (v a0 a1 a2 a3 a4) := Lib.bq hc (by unfold vo b; simp only [Lib.B1, Lib.B2, Lib.B3, Lib.B4])
end Go.FG.U43

namespace Go.FG.U44
def r2 {R : Type} (N : Nat) (g k0 k1 : F_riii R) (x0 : Row) (x1 x2 x3 : Int) : Option R := bif decide (x3 < (x0.length : Int)) then bif decide (0 <= x3) && decide (x3 < (x0.length : Int)) then bif U59.c x1 then bif !List.beq (ByteArray.toList (cvS (cellAt x0 x3.toNat 0))) (ByteArray.toList (U59.v x1)) then k0 x0 x1 (-1) x3 else bif decide (0 <= x3) && decide (x3 < (x0.length : Int)) then bif U59.c (w64 (x1 + 1)) then bif !List.beq (ByteArray.toList (cvS (cellAt x0 x3.toNat 1))) (ByteArray.toList (U59.v (w64 (x1 + 1)))) then k0 x0 (w64 (x1 + 1)) (-1) x3 else bif decide (0 <= x3) && decide (x3 < (x0.length : Int)) then bif cvI (cellAt x0 x3.toNat 2) != w64 (w64 (x1 + 1) + 1) then k0 x0 (w64 (w64 (x1 + 1) + 1)) (-1) x3 else bif decide (0 <= x3) && decide (x3 < (x0.length : Int)) then bif cvI (cellAt x0 x3.toNat 3) != w64 (w64 (w64 (x1 + 1) + 1) + 1) then k0 x0 (w64 (w64 (w64 (x1 + 1) + 1) + 1)) (-1) x3 else bif decide (0 <= x3) && decide (x3 < (x0.length : Int)) then bif cvI (cellAt x0 x3.toNat 4) != w64 (w64 (w64 (w64 (x1 + 1) + 1) + 1) + 1) then k0 x0 (w64 (w64 (w64 (w64 (x1 + 1) + 1) + 1) + 1)) (-1) x3 else g x0 (w64 (w64 (w64 (w64 (w64 (x1 + 1) + 1) + 1) + 1) + 1)) x2 (w64 (x3 + 1)) else none else none else none else none else none else none else none else k1 x0 x1 x2 x3
def l2 {R : Type} (N : Nat) (k0 k1 : F_riii R) : Nat -> F_riii R
 | 0 => fun _ _ _ _ => none
 | n + 1 => fun x0 x1 x2 x3 => r2 N (l2 N k0 k1 n) k0 k1 x0 x1 x2 x3
theorem q2_bind {R S : Type} (f : R -> Option S) (N : Nat) (k0 k1 : F_riii R) : ∀ n : Nat, (∀ (x0 : Row) (x1 x2 x3 : Int), Option.bind (l2 N k0 k1 n x0 x1 x2 x3) f = l2 N (fun y0 y1 y2 y3 => Option.bind (k0 y0 y1 y2 y3) f) (fun y0 y1 y2 y3 => Option.bind (k1 y0 y1 y2 y3) f) n x0 x1 x2 x3) := by
 intro n
 induction n with
 | zero => exact fun _ _ _ _ => rfl
 | succ n ih =>
  intro x0 x1 x2 x3
  simp only [l2, r2, Lib.B1, Lib.B2, Lib.B3, Lib.B4, ih]
variable {R : Type} (N : Nat) (kr : Int -> Option R) (a0 : Row) (a1 : Int)
def b : Option R := l2 N (fun y4 y5 y6 y7 => kr y6) (fun y8 y9 y10 y11 => kr y9) N a0 a1 0 0
theorem b_bind : b N kr a0 a1 = Option.bind (b N (fun r0 => some r0) a0 a1) (fun p => kr p) := by
 unfold b; simp only [Lib.B1, Lib.B2, Lib.B3, Lib.B4, q2_bind]
def vo := b Lib.big (fun r0 => some r0) a0 a1
def c : Bool := Option.isSome (vo a0 a1)
def v := Option.getD (vo a0 a1) (0)
theorem out {x} (h : vo a0 a1 = some x) : c a0 a1 = true /\ v a0 a1 = x := Lib.out_ h
theorem b_eq (hc : c a0 a1 = true) : ∃ N, b N kr a0 a1 = Lib.ap (fun p => kr p) (v a0 a1) := ⟨Lib.big, Lib.bq hc (by apply b_bind)⟩
end Go.FG.U44

namespace Go.FG.U45
def r2 {R : Type} (N : Nat) (g k0 k1 : F_riii R) (x0 : Row) (x1 x2 x3 : Int) : Option R := bif decide (x3 < (x0.length : Int)) then bif decide (0 <= x3) && decide (x3 < (x0.length : Int)) then bif cvI (cellAt x0 x3.toNat 0) != x1 then k0 x0 x1 (-1) x3 else bif decide (0 <= x3) && decide (x3 < (x0.length : Int)) then bif U59.c (w64 (x1 + 1)) then bif !List.beq (ByteArray.toList (cvS (cellAt x0 x3.toNat 1))) (ByteArray.toList (U59.v (w64 (x1 + 1)))) then k0 x0 (w64 (x1 + 1)) (-1) x3 else bif decide (0 <= x3) && decide (x3 < (x0.length : Int)) then bif cvI (cellAt x0 x3.toNat 2) != w64 (w64 (x1 + 1) + 1) then k0 x0 (w64 (w64 (x1 + 1) + 1)) (-1) x3 else bif decide (0 <= x3) && decide (x3 < (x0.length : Int)) then bif cvI (cellAt x0 x3.toNat 3) != w64 (w64 (w64 (x1 + 1) + 1) + 1) then k0 x0 (w64 (w64 (w64 (x1 + 1) + 1) + 1)) (-1) x3 else bif decide (0 <= x3) && decide (x3 < (x0.length : Int)) then bif cvI (cellAt x0 x3.toNat 4) != w64 (w64 (w64 (w64 (x1 + 1) + 1) + 1) + 1) then k0 x0 (w64 (w64 (w64 (w64 (x1 + 1) + 1) + 1) + 1)) (-1) x3 else bif decide (0 <= x3) && decide (x3 < (x0.length : Int)) then bif U59.c (w64 (w64 (w64 (w64 (w64 (x1 + 1) + 1) + 1) + 1) + 1)) then bif !List.beq (ByteArray.toList (cvS (cellAt x0 x3.toNat 5))) (ByteArray.toList (U59.v (w64 (w64 (w64 (w64 (w64 (x1 + 1) + 1) + 1) + 1) + 1)))) then k0 x0 (w64 (w64 (w64 (w64 (w64 (x1 + 1) + 1) + 1) + 1) + 1)) (-1) x3 else bif decide (0 <= x3) && decide (x3 < (x0.length : Int)) then bif cvI (cellAt x0 x3.toNat 6) != w64 (w64 (w64 (w64 (w64 (w64 (x1 + 1) + 1) + 1) + 1) + 1) + 1) then k0 x0 (w64 (w64 (w64 (w64 (w64 (w64 (x1 + 1) + 1) + 1) + 1) + 1) + 1)) (-1) x3 else g x0 (w64 (w64 (w64 (w64 (w64 (w64 (w64 (x1 + 1) + 1) + 1) + 1) + 1) + 1) + 1)) x2 (w64 (x3 + 1)) else none else none else none else none else none else none else none else none else none else k1 x0 x1 x2 x3
def l2 {R : Type} (N : Nat) (k0 k1 : F_riii R) : Nat -> F_riii R
 | 0 => fun _ _ _ _ => none
 | n + 1 => fun x0 x1 x2 x3 => r2 N (l2 N k0 k1 n) k0 k1 x0 x1 x2 x3
theorem q2_bind {R S : Type} (f : R -> Option S) (N : Nat) (k0 k1 : F_riii R) : ∀ n : Nat, (∀ (x0 : Row) (x1 x2 x3 : Int), Option.bind (l2 N k0 k1 n x0 x1 x2 x3) f = l2 N (fun y0 y1 y2 y3 => Option.bind (k0 y0 y1 y2 y3) f) (fun y0 y1 y2 y3 => Option.bind (k1 y0 y1 y2 y3) f) n x0 x1 x2 x3) := by
 intro n
 induction n with
 | zero => exact fun _ _ _ _ => rfl
 | succ n ih =>
  intro x0 x1 x2 x3
  simp only [l2, r2, Lib.B1, Lib.B2, Lib.B3, Lib.B4, ih]
variable {R : Type} (N : Nat) (kr : Int -> Option R) (a0 : Row) (a1 : Int)
def b : Option R := l2 N (fun y4 y5 y6 y7 => kr y6) (fun y8 y9 y10 y11 => kr y9) N a0 a1 0 0
theorem b_bind : b N kr a0 a1 = Option.bind (b N (fun r0 => some r0) a0 a1) (fun p => kr p) := by
 unfold b; simp only [Lib.B1, Lib.B2, Lib.B3, Lib.B4, q2_bind]
def vo := b Lib.big (fun r0 => some r0) a0 a1
def c : Bool := Option.isSome (vo a0 a1)
def v := Option.getD (vo a0 a1) (0)
theorem out {x} (h : vo a0 a1 = some x) : c a0 a1 = true /\ v a0 a1 = x := Lib.out_ h
theorem b_eq (hc : c a0 a1 = true) : ∃ N, b N kr a0 a1 = Lib.ap (fun p => kr p) (v a0 a1) := ⟨Lib.big, Lib.bq hc (by apply b_bind)⟩
end Go.FG.U45

namespace Go.FG.U13
def b {R : Type} (kr : Int -> Option R) (a0 : Int) (a1 a2 a3 a4 : Row) (a5 : Int) (a6 a7 : Row) (a8 a9 : Int) : Option R := bif U42.c a1 a9 then bif decide (U42.v a1 a9 < 0) then kr (-1) else bif U43.c a2 a3 a4 a5 (U42.v a1 a9) then bif decide (U43.v a2 a3 a4 a5 (U42.v a1 a9) < 0) then kr (-1) else bif U44.c a6 (U43.v a2 a3 a4 a5 (U42.v a1 a9)) then bif decide (U44.v a6 (U43.v a2 a3 a4 a5 (U42.v a1 a9)) < 0) then kr (-1) else bif U45.c a7 (U44.v a6 (U43.v a2 a3 a4 a5 (U42.v a1 a9))) then bif decide (U45.v a7 (U44.v a6 (U43.v a2 a3 a4 a5 (U42.v a1 a9))) < 0) then kr (-1) else kr (U45.v a7 (U44.v a6 (U43.v a2 a3 a4 a5 (U42.v a1 a9)))) else none else none else none else none
variable {R : Type} (kr : Int -> Option R) (a0 : Int) (a1 a2 a3 a4 : Row) (a5 : Int) (a6 a7 : Row) (a8 a9 : Int)
def vo := b (fun r0 => some r0) a0 a1 a2 a3 a4 a5 a6 a7 a8 a9
def c : Bool := Option.isSome (vo a0 a1 a2 a3 a4 a5 a6 a7 a8 a9)
def v := Option.getD (vo a0 a1 a2 a3 a4 a5 a6 a7 a8 a9) (0)
theorem out {x} (h : vo a0 a1 a2 a3 a4 a5 a6 a7 a8 a9 = some x) : c a0 a1 a2 a3 a4 a5 a6 a7 a8 a9 = true /\ v a0 a1 a2 a3 a4 a5 a6 a7 a8 a9 = x := Lib.out_ h
theorem b_eq (hc : c a0 a1 a2 a3 a4 a5 a6 a7 a8 a9 = true) : b kr a0 a1 a2 a3 a4 a5 a6 a7 a8 a9 = Lib.ap (fun p => kr p) (v a0 a1 a2 a3 a4 a5 a6 a7 a8 a9) := Lib.bq hc (by unfold vo b; simp only [Lib.B1, Lib.B2, Lib.B3, Lib.B4])
end Go.FG.U13

namespace Go.FG.U5
variable {R : Type} (kr : Bool -> Option R) (a0 : Int) (a1 : Row)
def b : Option R := bif U16.c a1 1048576 then Lib.lt (U16.v a1 1048576) fun t0 => bif decide (t0 < 0) then kr true else bif U18.c a1 then Lib.lt (U18.v a1) fun t1 => bif U17.c a0 t1 then Lib.lt (U17.v a0 t1) fun t2 => bif U18.c a1 then bif U19.c a0 t1 then Lib.lt (U19.v a0 t1) fun t4 => bif U11.c t4.1 t4.2.1 t4.2.2.1 t4.2.2.2.1 t4.2.2.2.2.1 t4.2.2.2.2.2.1 t4.2.2.2.2.2.2.1 t4.2.2.2.2.2.2.2.1 t4.2.2.2.2.2.2.2.2 t2.1 t2.2.1 t2.2.2.1 t2.2.2.2.1 t2.2.2.2.2.1 t2.2.2.2.2.2.1 t2.2.2.2.2.2.2.1 t2.2.2.2.2.2.2.2.1 t2.2.2.2.2.2.2.2.2 then Lib.lt (U11.v t4.1 t4.2.1 t4.2.2.1 t4.2.2.2.1 t4.2.2.2.2.1 t4.2.2.2.2.2.1 t4.2.2.2.2.2.2.1 t4.2.2.2.2.2.2.2.1 t4.2.2.2.2.2.2.2.2 t2.1 t2.2.1 t2.2.2.1 t2.2.2.2.1 t2.2.2.2.2.1 t2.2.2.2.2.2.1 t2.2.2.2.2.2.2.1 t2.2.2.2.2.2.2.2.1 t2.2.2.2.2.2.2.2.2) fun t5 => bif !t5 then kr false else bif U18.c a1 then bif U20.c t1 t1 then Lib.lt (U20.v t1 t1) fun t7 => bif !t7 then kr false else bif U21.c t1 1 then Lib.lt (U21.v t1 1) fun t8 => bif decide (t8.1 < 0) then kr false else bif U11.c t4.1 t4.2.1 t4.2.2.1 t4.2.2.2.1 t4.2.2.2.2.1 t4.2.2.2.2.2.1 t4.2.2.2.2.2.2.1 t4.2.2.2.2.2.2.2.1 t4.2.2.2.2.2.2.2.2 t2.1 t2.2.1 t2.2.2.1 t2.2.2.2.1 t2.2.2.2.2.1 t2.2.2.2.2.2.1 t2.2.2.2.2.2.2.1 t2.2.2.2.2.2.2.2.1 t2.2.2.2.2.2.2.2.2 then bif !t5 then kr false else bif U12.c t4.1 t4.2.1 t4.2.2.1 t4.2.2.2.1 t4.2.2.2.2.1 t4.2.2.2.2.2.1 t4.2.2.2.2.2.2.1 t4.2.2.2.2.2.2.2.1 t4.2.2.2.2.2.2.2.2 1 then Lib.lt (U12.v t4.1 t4.2.1 t4.2.2.1 t4.2.2.2.1 t4.2.2.2.2.1 t4.2.2.2.2.2.1 t4.2.2.2.2.2.2.1 t4.2.2.2.2.2.2.2.1 t4.2.2.2.2.2.2.2.2 1) fun t10 => bif U13.c t4.1 t10.2.1 t10.2.2.1 t10.2.2.2.1 t10.2.2.2.2.1 t4.2.2.2.2.2.1 t10.2.2.2.2.2.1 t10.2.2.2.2.2.2 t4.2.2.2.2.2.2.2.2 1 then Lib.lt (U13.v t4.1 t10.2.1 t10.2.2.1 t10.2.2.2.1 t10.2.2.2.2.1 t4.2.2.2.2.2.1 t10.2.2.2.2.2.1 t10.2.2.2.2.2.2 t4.2.2.2.2.2.2.2.2 1) fun t11 => bif decide (t11 < 0) then kr false else bif t11 != t10.1 then kr false else bif U18.c a1 then bif U19.c a0 t1 then bif U11.c t4.1 t4.2.1 t4.2.2.1 t4.2.2.2.1 t4.2.2.2.2.1 t4.2.2.2.2.2.1 t4.2.2.2.2.2.2.1 t4.2.2.2.2.2.2.2.1 t4.2.2.2.2.2.2.2.2 t2.1 t2.2.1 t2.2.2.1 t2.2.2.2.1 t2.2.2.2.2.1 t2.2.2.2.2.2.1 t2.2.2.2.2.2.2.1 t2.2.2.2.2.2.2.2.1 t2.2.2.2.2.2.2.2.2 then bif !t5 then kr false else bif U13.c t4.1 t10.2.1 t10.2.2.1 t10.2.2.2.1 t10.2.2.2.2.1 t4.2.2.2.2.2.1 t10.2.2.2.2.2.1 t10.2.2.2.2.2.2 t4.2.2.2.2.2.2.2.2 1 then bif decide (t11 < 0) then kr false else bif t11 != t10.1 then kr false else kr true else none else none else none else none else none else none else none else none else none else none else none else none else none else none else none else none
def vo := b (fun r0 => some r0) a0 a1
def c : Bool := Option.isSome (vo a0 a1)
def v := Option.getD (vo a0 a1) false
theorem out {x} (h : vo a0 a1 = some x) : c a0 a1 = true /\ v a0 a1 = x := Lib.out_ h
theorem b_eq (hc : c a0 a1 = true) : b kr a0 a1 = Lib.ap (fun p => kr p) (v a0 a1) := Lib.bq hc (by unfold vo b; simp only [Lib.B1, Lib.B2, Lib.B3, Lib.B4])
end Go.FG.U5

namespace Go.FG.U102
def r2 {R : Type} (N : Nat) (g k0 k1 : F_biirrrrirri R) (x0 : Bool) (x1 x2 : Int) (x3 x4 x5 x6 : Row) (x7 : Int) (x8 x9 : Row) (x10 : Int) : Option R := bif decide (x1 < (x3.length : Int)) then bif decide (0 <= x1) && decide (x1 < (x3.length : Int)) then bif !U51.v (cvS (cellAt x3 x1.toNat 0)) (cvI (cellAt x3 x1.toNat 1)) (cvI (cellAt x3 x1.toNat (1 + 1))) (cvS (cellAt x3 x1.toNat (1 + 1 + 1))) then k0 false x1 x2 x3 x4 x5 x6 x7 x8 x9 x10 else bif decide (x1 > 0) then bif decide (0 <= w64 (x1 - 1)) && decide (w64 (x1 - 1) < (x3.length : Int)) then bif decide (0 <= x1) && decide (x1 < (x3.length : Int)) then bif !Go.Op.bytesLess (ByteArray.toList (cvS (cellAt x3 (Int.toNat (w64 (x1 - 1))) 0))) (ByteArray.toList (cvS (cellAt x3 x1.toNat 0))) then k0 false x1 x2 x3 x4 x5 x6 x7 x8 x9 x10 else bif decide (0 <= x1) && decide (x1 < (x3.length : Int)) then bif U91.c x4 x5 x6 x7 (cvS (cellAt x3 x1.toNat 0)) then bif !U91.v x4 x5 x6 x7 (cvS (cellAt x3 x1.toNat 0)) then k0 false x1 x2 x3 x4 x5 x6 x7 x8 x9 x10 else g x0 (w64 (x1 + 1)) x2 x3 x4 x5 x6 x7 x8 x9 x10 else none else none else none else none else bif decide (0 <= x1) && decide (x1 < (x3.length : Int)) then bif U91.c x4 x5 x6 x7 (cvS (cellAt x3 x1.toNat 0)) then bif !U91.v x4 x5 x6 x7 (cvS (cellAt x3 x1.toNat 0)) then k0 false x1 x2 x3 x4 x5 x6 x7 x8 x9 x10 else g x0 (w64 (x1 + 1)) x2 x3 x4 x5 x6 x7 x8 x9 x10 else none else none else none else k1 x0 x1 x2 x3 x4 x5 x6 x7 x8 x9 x10
def l2 {R : Type} (N : Nat) (k0 k1 : F_biirrrrirri R) : Nat -> F_biirrrrirri R
 | 0 => fun _ _ _ _ _ _ _ _ _ _ _ => none
 | n + 1 => fun x0 x1 x2 x3 x4 x5 x6 x7 x8 x9 x10 => r2 N (l2 N k0 k1 n) k0 k1 x0 x1 x2 x3 x4 x5 x6 x7 x8 x9 x10
variable {R : Type} (N : Nat) (kr : Bool -> Option R) (a0 : Int) (a1 a2 a3 a4 : Row) (a5 : Int) (a6 a7 : Row) (a8 : Int)
def b : Option R := l2 N (fun y11 y12 y13 y14 y15 y16 y17 y18 y19 y20 y21 => kr y11) (fun y22 y23 y24 y25 y26 y27 y28 y29 y30 y31 y32 => bif U114.c y26 y27 y28 y29 then bif U114.v y26 y27 y28 y29 then kr (decide ((y25.length : Int) = w64 ((y26.length : Int) + (y27.length : Int)))) else kr false else none) N false 0 a0 a1 a2 a3 a4 a5 a6 a7 a8
def vo := b Lib.big (fun r0 => some r0) a0 a1 a2 a3 a4 a5 a6 a7 a8
def c : Bool := Option.isSome (vo a0 a1 a2 a3 a4 a5 a6 a7 a8)
def v := Option.getD (vo a0 a1 a2 a3 a4 a5 a6 a7 a8) false
end Go.FG.U102

namespace Go.FG.U103
def r5 {R : Type} (N : Nat) (g k0 k1 : F_ibiirrrrirrissiii R) (x0 : Int) (x1 : Bool) (x2 x3 : Int) (x4 x5 x6 x7 : Row) (x8 : Int) (x9 x10 : Row) (x11 : Int) (x12 x13 : ByteArray) (x14 x15 x16 : Int) : Option R := bif decide (x2 < x0) then bif decide (0 <= x2) && decide (x2 < (x9.length : Int)) then bif List.beq (ByteArray.toList (cvS (cellAt x9 x2.toNat 0))) (ByteArray.toList x12) then bif decide (0 <= x2) && decide (x2 < (x9.length : Int)) then bif decide (cvI (cellAt x9 x2.toNat 2) = 1) then bif decide (x14 = 1) then k0 x0 false x2 x3 x4 x5 x6 x7 x8 x9 x10 x11 x12 x13 x14 x15 x16 else g x0 x1 (w64 (x2 + 1)) x3 x4 x5 x6 x7 x8 x9 x10 x11 x12 x13 x14 x15 x16 else g x0 x1 (w64 (x2 + 1)) x3 x4 x5 x6 x7 x8 x9 x10 x11 x12 x13 x14 x15 x16 else none else g x0 x1 (w64 (x2 + 1)) x3 x4 x5 x6 x7 x8 x9 x10 x11 x12 x13 x14 x15 x16 else none else k1 x0 x1 x2 x3 x4 x5 x6 x7 x8 x9 x10 x11 x12 x13 x14 x15 x16
def l5 {R : Type} (N : Nat) (k0 k1 : F_ibiirrrrirrissiii R) : Nat -> F_ibiirrrrirrissiii R
 | 0 => fun _ _ _ _ _ _ _ _ _ _ _ _ _ _ _ _ _ => none
 | n + 1 => fun x0 x1 x2 x3 x4 x5 x6 x7 x8 x9 x10 x11 x12 x13 x14 x15 x16 => r5 N (l5 N k0 k1 n) k0 k1 x0 x1 x2 x3 x4 x5 x6 x7 x8 x9 x10 x11 x12 x13 x14 x15 x16
variable {R : Type} (N : Nat) (kr : Bool -> Option R) (a0 : Int) (a1 a2 a3 a4 : Row) (a5 : Int) (a6 a7 : Row) (a8 a9 : Int)
def b : Option R := bif decide (0 <= a9) && decide (a9 < (a6.length : Int)) then bif !U88.v (cvS (cellAt a6 a9.toNat 0)) then kr false else bif decide ((↑(ByteArray.size (cvS (cellAt a6 a9.toNat 1))) : Int) > 400) then kr false else bif !U60.v (cvI (cellAt a6 a9.toNat (1 + 1))) 1 3 then kr false else bif !U60.v (cvI (cellAt a6 a9.toNat (1 + 1 + 1))) 0 999999 then kr false else bif !U60.v (cvI (cellAt a6 a9.toNat (1 + 1 + 1 + 1))) 0 a0 then kr false else l5 N (fun y17 y18 y19 y20 y21 y22 y23 y24 y25 y26 y27 y28 y29 y30 y31 y32 y33 => kr y18) (fun y34 y35 y36 y37 y38 y39 y40 y41 y42 y43 y44 y45 y46 y47 y48 y49 y50 => kr true) N a9 false 0 a0 a1 a2 a3 a4 a5 a6 a7 a8 (cvS (cellAt a6 a9.toNat 0)) (cvS (cellAt a6 a9.toNat 1)) (cvI (cellAt a6 a9.toNat (1 + 1))) (cvI (cellAt a6 a9.toNat (1 + 1 + 1))) (cvI (cellAt a6 a9.toNat (1 + 1 + 1 + 1))) else none
def vo := b Lib.big (fun r0 => some r0) a0 a1 a2 a3 a4 a5 a6 a7 a8 a9
def c : Bool := Option.isSome (vo a0 a1 a2 a3 a4 a5 a6 a7 a8 a9)
def v := Option.getD (vo a0 a1 a2 a3 a4 a5 a6 a7 a8 a9) false
end Go.FG.U103

namespace Go.FG.U67
def r9 {R : Type} (N : Nat) (g k0 k1 : F_biirrrrirri R) (x33 : Bool) (x34 x35 : Int) (x36 x37 x38 x39 : Row) (x40 : Int) (x41 x42 : Row) (x43 : Int) : Option R := bif decide (x34 < (x42.length : Int)) then bif decide (0 <= x34) && decide (x34 < (x42.length : Int)) then bif !U60.v (cvI (cellAt x42 x34.toNat 0)) 1 9 then k0 false x34 x35 x36 x37 x38 x39 x40 x41 x42 x43 else bif decide (x34 > 0) then bif decide (0 <= w64 (x34 - 1)) && decide (w64 (x34 - 1) < (x42.length : Int)) then bif decide (cvI (cellAt x42 (Int.toNat (w64 (x34 - 1))) 0) ≥ cvI (cellAt x42 x34.toNat 0)) then k0 false x34 x35 x36 x37 x38 x39 x40 x41 x42 x43 else bif !U88.v (cvS (cellAt x42 x34.toNat 1)) then k0 false x34 x35 x36 x37 x38 x39 x40 x41 x42 x43 else bif !U60.v (cvI (cellAt x42 x34.toNat (1 + 1 + 1 + 1))) 1 3 then k0 false x34 x35 x36 x37 x38 x39 x40 x41 x42 x43 else bif !U60.v (cvI (cellAt x42 x34.toNat (1 + 1))) 0 (x41.length : Int) then k0 false x34 x35 x36 x37 x38 x39 x40 x41 x42 x43 else bif decide ((↑(ByteArray.size (cvS (cellAt x42 x34.toNat (1 + 1 + 1 + 1 + 1)))) : Int) > 400) then k0 false x34 x35 x36 x37 x38 x39 x40 x41 x42 x43 else bif !U60.v (cvI (cellAt x42 x34.toNat (1 + 1 + 1))) 0 x35 then k0 false x34 x35 x36 x37 x38 x39 x40 x41 x42 x43 else bif decide (cvI (cellAt x42 x34.toNat (1 + 1 + 1 + 1 + 1 + 1)) < 0) then k0 false x34 x35 x36 x37 x38 x39 x40 x41 x42 x43 else g x33 (w64 (x34 + 1)) x35 x36 x37 x38 x39 x40 x41 x42 x43 else none else bif !U88.v (cvS (cellAt x42 x34.toNat 1)) then k0 false x34 x35 x36 x37 x38 x39 x40 x41 x42 x43 else bif !U60.v (cvI (cellAt x42 x34.toNat (1 + 1 + 1 + 1))) 1 3 then k0 false x34 x35 x36 x37 x38 x39 x40 x41 x42 x43 else bif !U60.v (cvI (cellAt x42 x34.toNat (1 + 1))) 0 (x41.length : Int) then k0 false x34 x35 x36 x37 x38 x39 x40 x41 x42 x43 else bif decide ((↑(ByteArray.size (cvS (cellAt x42 x34.toNat (1 + 1 + 1 + 1 + 1)))) : Int) > 400) then k0 false x34 x35 x36 x37 x38 x39 x40 x41 x42 x43 else bif !U60.v (cvI (cellAt x42 x34.toNat (1 + 1 + 1))) 0 x35 then k0 false x34 x35 x36 x37 x38 x39 x40 x41 x42 x43 else bif decide (cvI (cellAt x42 x34.toNat (1 + 1 + 1 + 1 + 1 + 1)) < 0) then k0 false x34 x35 x36 x37 x38 x39 x40 x41 x42 x43 else g x33 (w64 (x34 + 1)) x35 x36 x37 x38 x39 x40 x41 x42 x43 else none else k1 x33 x34 x35 x36 x37 x38 x39 x40 x41 x42 x43
def l9 {R : Type} (N : Nat) (k0 k1 : F_biirrrrirri R) : Nat -> F_biirrrrirri R
 | 0 => fun _ _ _ _ _ _ _ _ _ _ _ => none
 | n + 1 => fun x33 x34 x35 x36 x37 x38 x39 x40 x41 x42 x43 => r9 N (l9 N k0 k1 n) k0 k1 x33 x34 x35 x36 x37 x38 x39 x40 x41 x42 x43
def r4 {R : Type} (N : Nat) (g k0 k1 : F_biirrrrirri R) (x0 : Bool) (x1 x2 : Int) (x3 x4 x5 x6 : Row) (x7 : Int) (x8 x9 : Row) (x10 : Int) : Option R := bif decide (x1 < (x8.length : Int)) then bif U103.c x2 x3 x4 x5 x6 x7 x8 x9 x10 x1 then bif !U103.v x2 x3 x4 x5 x6 x7 x8 x9 x10 x1 then k0 false x1 x2 x3 x4 x5 x6 x7 x8 x9 x10 else g x0 (w64 (x1 + 1)) x2 x3 x4 x5 x6 x7 x8 x9 x10 else none else k1 x0 x1 x2 x3 x4 x5 x6 x7 x8 x9 x10
def l4 {R : Type} (N : Nat) (k0 k1 : F_biirrrrirri R) : Nat -> F_biirrrrirri R
 | 0 => fun _ _ _ _ _ _ _ _ _ _ _ => none
 | n + 1 => fun x0 x1 x2 x3 x4 x5 x6 x7 x8 x9 x10 => r4 N (l4 N k0 k1 n) k0 k1 x0 x1 x2 x3 x4 x5 x6 x7 x8 x9 x10
variable {R : Type} (N : Nat) (kr : Bool -> Option R) (a0 : Int) (a1 a2 a3 a4 : Row) (a5 : Int) (a6 a7 : Row) (a8 : Int)
def b : Option R := bif !U60.v a0 1 1000000000 then kr false else bif U102.c a0 a1 a2 a3 a4 a5 a6 a7 a8 then bif !U102.v a0 a1 a2 a3 a4 a5 a6 a7 a8 then kr false else bif decide ((a6.length : Int) > 20) then kr false else bif decide ((a7.length : Int) > 6) then kr false else bif !U60.v a8 0 1000000000 then kr false else l4 N (fun y11 y12 y13 y14 y15 y16 y17 y18 y19 y20 y21 => kr y11) (fun y22 y23 y24 y25 y26 y27 y28 y29 y30 y31 y32 => l9 N (fun y44 y45 y46 y47 y48 y49 y50 y51 y52 y53 y54 => kr y44) (fun y55 y56 y57 y58 y59 y60 y61 y62 y63 y64 y65 => kr true) N y22 0 y24 y25 y26 y27 y28 y29 y30 y31 y32) N false 0 a0 a1 a2 a3 a4 a5 a6 a7 a8 else none
def vo := b Lib.big (fun r0 => some r0) a0 a1 a2 a3 a4 a5 a6 a7 a8
def c : Bool := Option.isSome (vo a0 a1 a2 a3 a4 a5 a6 a7 a8)
def v := Option.getD (vo a0 a1 a2 a3 a4 a5 a6 a7 a8) false
end Go.FG.U67

namespace Go.FG.U68
def r3 {R : Type} (N : Nat) (g k0 : F_rir R) (x0 : Row) (x1 : Int) (x2 : Row) : Option R := bif decide (x1 < (x0.length : Int)) then bif decide (0 <= x1) && decide (x1 < (x0.length : Int)) then bif decide (0 <= x1) && decide (x1 < (x2.length : Int)) then g x0 (w64 (x1 + 1)) (setC x2 x1.toNat 0 [CV.s (cvS (cellAt x0 x1.toNat 0))]) else none else none else k0 x0 x1 x2
def l3 {R : Type} (N : Nat) (k0 : F_rir R) : Nat -> F_rir R
 | 0 => fun _ _ _ => none
 | n + 1 => fun x0 x1 x2 => r3 N (l3 N k0 n) k0 x0 x1 x2
variable {R : Type} (N : Nat) (kr : Row -> Option R) (a0 : Row)
def b : Option R := bif decide ((a0.length : Int) = (a0.length : Int)) && roomy (Int.toNat (a0.length : Int)) 16 then l3 N (fun y3 y4 y5 => kr y5) N a0 0 (zeros [Ck.s] (Int.toNat (a0.length : Int))) else none
def vo := b Lib.big (fun r0 => some r0) a0
def c : Bool := Option.isSome (vo a0)
def v := Option.getD (vo a0) ([])
end Go.FG.U68

namespace Go.FG.U131
def r3 {R : Type} (N : Nat) (g k0 : F_rir R) (x0 : Row) (x1 : Int) (x2 : Row) : Option R := bif decide (x1 < (x0.length : Int)) then bif decide (0 <= x1) && decide (x1 < (x0.length : Int)) then bif decide (0 <= x1) && decide (x1 < (x2.length : Int)) then g x0 (w64 (x1 + 1)) (setC x2 x1.toNat 0 [CV.i IntKind.i64 (cvI (cellAt x0 x1.toNat 0))]) else none else none else k0 x0 x1 x2
def l3 {R : Type} (N : Nat) (k0 : F_rir R) : Nat -> F_rir R
 | 0 => fun _ _ _ => none
 | n + 1 => fun x0 x1 x2 => r3 N (l3 N k0 n) k0 x0 x1 x2
def b {R : Type} (N : Nat) (kr : Row -> Option R) (a0 : Row) : Option R := bif decide ((a0.length : Int) = (a0.length : Int)) && roomy (Int.toNat (a0.length : Int)) 8 then l3 N (fun y3 y4 y5 => kr y5) N a0 0 (zeros [Ck.i IntKind.i64] (Int.toNat (a0.length : Int))) else none
def v (a0 : Row) : Row := a0.map fun y => [CV.i IntKind.i64 (cvI (y.getD 0 (.b false)))]
def c (a0 : Row) : Bool := decide (a0.length <= 1048576)
end Go.FG.U131

namespace Go.FG.U104
def r3 {R : Type} (N : Nat) (g k0 : F_rir R) (x0 : Row) (x1 : Int) (x2 : Row) : Option R := bif decide (x1 < (x0.length : Int)) then bif decide (0 <= x1) && decide (x1 < (x0.length : Int)) then bif U131.c (cvL (cellAt x0 x1.toNat 0)) then bif decide (0 <= x1) && decide (x1 < (x2.length : Int)) then g x0 (w64 (x1 + 1)) (setC x2 x1.toNat 0 [CV.l 3 (U131.v (cvL (cellAt x0 x1.toNat 0)))]) else none else none else none else k0 x0 x1 x2
def l3 {R : Type} (N : Nat) (k0 : F_rir R) : Nat -> F_rir R
 | 0 => fun _ _ _ => none
 | n + 1 => fun x0 x1 x2 => r3 N (l3 N k0 n) k0 x0 x1 x2
variable {R : Type} (N : Nat) (kr : Row -> Option R) (a0 : Row)
def b : Option R := bif decide ((a0.length : Int) = (a0.length : Int)) && roomy (Int.toNat (a0.length : Int)) 24 then l3 N (fun y3 y4 y5 => kr y5) N a0 0 (zeros [Ck.l 3] (Int.toNat (a0.length : Int))) else none
def vo := b Lib.big (fun r0 => some r0) a0
def c : Bool := Option.isSome (vo a0)
def v := Option.getD (vo a0) ([])
end Go.FG.U104

namespace Go.FG.U69
variable {R : Type} (kr : F_ri R) (a0 : Row) (a1 : Int)
def b : Option R := bif U104.c a0 then kr (U104.v a0) a1 else none
def vo := b (fun r0 r1 => some (r0, r1)) a0 a1
def c : Bool := Option.isSome (vo a0 a1)
def v := Option.getD (vo a0 a1) ([], 0)
end Go.FG.U69

namespace Go.FG.U30
variable {R : Type} (kr : F_rrri R) (a0 a1 a2 : Row) (a3 : Int)
def b : Option R := bif U68.c a0 then bif U68.c a1 then bif U69.c a2 a3 then kr (U68.v a0) (U68.v a1) ((U69.v a2 a3).1) ((U69.v a2 a3).2) else none else none else none
def vo := b (fun r0 r1 r2 r3 => some (r0, r1, r2, r3)) a0 a1 a2 a3
def c : Bool := Option.isSome (vo a0 a1 a2 a3)
def v := Option.getD (vo a0 a1 a2 a3) ([], [], [], 0)
end Go.FG.U30

namespace Go.FG.U70
def b {R : Type} (kr : F_ssiii R) (a0 a1 : ByteArray) (a2 a3 a4 : Int) : Option R := kr a0 a1 a2 a3 a4
def v (a0 a1 : ByteArray) (a2 a3 a4 : Int) : ByteArray × ByteArray × Int × Int × Int := (a0, a1, a2, a3, a4)
end Go.FG.U70

namespace Go.FG.U31
def r3 {R : Type} (N : Nat) (g k0 : F_rir R) (x0 : Row) (x1 : Int) (x2 : Row) : Option R := bif decide (x1 < (x0.length : Int)) then bif decide (0 <= x1) && decide (x1 < (x0.length : Int)) then bif decide (0 <= x1) && decide (x1 < (x2.length : Int)) then g x0 (w64 (x1 + 1)) (setC x2 x1.toNat 0 [CV.s (cvS (cellAt x0 x1.toNat 0)), CV.s (cvS (cellAt x0 x1.toNat 1)), CV.i IntKind.i64 (cvI (cellAt x0 x1.toNat (1 + 1))), CV.i IntKind.i64 (cvI (cellAt x0 x1.toNat (1 + 1 + 1))), CV.i IntKind.i64 (cvI (cellAt x0 x1.toNat (1 + 1 + 1 + 1)))]) else none else none else k0 x0 x1 x2
def l3 {R : Type} (N : Nat) (k0 : F_rir R) : Nat -> F_rir R
 | 0 => fun _ _ _ => none
 | n + 1 => fun x0 x1 x2 => r3 N (l3 N k0 n) k0 x0 x1 x2
variable {R : Type} (N : Nat) (kr : Row -> Option R) (a0 : Row)
def b : Option R := bif decide ((a0.length : Int) = (a0.length : Int)) && roomy (Int.toNat (a0.length : Int)) 56 then l3 N (fun y3 y4 y5 => kr y5) N a0 0 (zeros [Ck.s, Ck.s, Ck.i IntKind.i64, Ck.i IntKind.i64, Ck.i IntKind.i64] (Int.toNat (a0.length : Int))) else none
def vo := b Lib.big (fun r0 => some r0) a0
def c : Bool := Option.isSome (vo a0)
def v := Option.getD (vo a0) ([])
end Go.FG.U31

namespace Go.FG.U71
def b {R : Type} (kr : F_isiiisi R) (a0 : Int) (a1 : ByteArray) (a2 a3 a4 : Int) (a5 : ByteArray) (a6 : Int) : Option R := kr a0 a1 a2 a3 a4 a5 a6
def v (a0 : Int) (a1 : ByteArray) (a2 a3 a4 : Int) (a5 : ByteArray) (a6 : Int) : Int × ByteArray × Int × Int × Int × ByteArray × Int := (a0, a1, a2, a3, a4, a5, a6)
end Go.FG.U71

namespace Go.FG.U32
def r3 {R : Type} (N : Nat) (g k0 : F_rir R) (x0 : Row) (x1 : Int) (x2 : Row) : Option R := bif decide (x1 < (x0.length : Int)) then bif decide (0 <= x1) && decide (x1 < (x0.length : Int)) then bif decide (0 <= x1) && decide (x1 < (x2.length : Int)) then g x0 (w64 (x1 + 1)) (setC x2 x1.toNat 0 [CV.i IntKind.i64 (cvI (cellAt x0 x1.toNat 0)), CV.s (cvS (cellAt x0 x1.toNat 1)), CV.i IntKind.i64 (cvI (cellAt x0 x1.toNat (1 + 1))), CV.i IntKind.i64 (cvI (cellAt x0 x1.toNat (1 + 1 + 1))), CV.i IntKind.i64 (cvI (cellAt x0 x1.toNat (1 + 1 + 1 + 1))), CV.s (cvS (cellAt x0 x1.toNat (1 + 1 + 1 + 1 + 1))), CV.i IntKind.i64 (cvI (cellAt x0 x1.toNat (1 + 1 + 1 + 1 + 1 + 1)))]) else none else none else k0 x0 x1 x2
def l3 {R : Type} (N : Nat) (k0 : F_rir R) : Nat -> F_rir R
 | 0 => fun _ _ _ => none
 | n + 1 => fun x0 x1 x2 => r3 N (l3 N k0 n) k0 x0 x1 x2
variable {R : Type} (N : Nat) (kr : Row -> Option R) (a0 : Row)
def b : Option R := bif decide ((a0.length : Int) = (a0.length : Int)) && roomy (Int.toNat (a0.length : Int)) 72 then l3 N (fun y3 y4 y5 => kr y5) N a0 0 (zeros [Ck.i IntKind.i64, Ck.s, Ck.i IntKind.i64, Ck.i IntKind.i64, Ck.i IntKind.i64, Ck.s, Ck.i IntKind.i64] (Int.toNat (a0.length : Int))) else none
def vo := b Lib.big (fun r0 => some r0) a0
def c : Bool := Option.isSome (vo a0)
def v := Option.getD (vo a0) ([])
end Go.FG.U32

namespace Go.FG.U9
variable {R : Type} (kr : F_irrrrirri R) (a0 : Int) (a1 a2 a3 a4 : Row) (a5 : Int) (a6 a7 : Row) (a8 : Int)
def b : Option R := bif U18.c a1 then bif U30.c a2 a3 a4 a5 then bif U31.c a6 then bif U32.c a7 then kr a0 (U18.v a1) ((U30.v a2 a3 a4 a5).1) ((U30.v a2 a3 a4 a5).2.1) ((U30.v a2 a3 a4 a5).2.2.1) ((U30.v a2 a3 a4 a5).2.2.2) (U31.v a6) (U32.v a7) a8 else none else none else none else none
def vo := b (fun r0 r1 r2 r3 r4 r5 r6 r7 r8 => some (r0, r1, r2, r3, r4, r5, r6, r7, r8)) a0 a1 a2 a3 a4 a5 a6 a7 a8
def c : Bool := Option.isSome (vo a0 a1 a2 a3 a4 a5 a6 a7 a8)
def v := Option.getD (vo a0 a1 a2 a3 a4 a5 a6 a7 a8) (0, [], [], [], [], 0, [], [], 0)
end Go.FG.U9

namespace Go.FG.U130
def b {R : Type} (kr : Int -> Option R) (a0 : Row) (a1 : Int) : Option R := bif decide (w64 (a1 - (a0.length : Int)) < 0) then kr (-1) else kr (w64 (a1 - (a0.length : Int)))
def v (a0 : Row) (a1 : Int) : Int := bif decide (w64 (a1 - (a0.length : Int)) < 0) then -1 else w64 (a1 - (a0.length : Int))
end Go.FG.U130

namespace Go.FG.U100
def r5 {R : Type} (N : Nat) (g k0 k1 : F_riii R) (x0 : Row) (x1 x2 x3 : Int) : Option R := bif decide (x3 < (x0.length : Int)) then bif decide (0 <= x3) && decide (x3 < (x0.length : Int)) then bif decide (U130.v (cvL (cellAt x0 x3.toNat 0)) x1 < 0) then k0 x0 (U130.v (cvL (cellAt x0 x3.toNat 0)) x1) (-1) x3 else g x0 (U130.v (cvL (cellAt x0 x3.toNat 0)) x1) x2 (w64 (x3 + 1)) else none else k1 x0 x1 x2 x3
def l5 {R : Type} (N : Nat) (k0 k1 : F_riii R) : Nat -> F_riii R
 | 0 => fun _ _ _ _ => none
 | n + 1 => fun x0 x1 x2 x3 => r5 N (l5 N k0 k1 n) k0 k1 x0 x1 x2 x3
variable {R : Type} (N : Nat) (kr : Int -> Option R) (a0 : Row) (a1 : Int)
def b : Option R := bif decide (w64 (a1 - (a0.length : Int)) < 0) then kr (-1) else l5 N (fun y4 y5 y6 y7 => kr y6) (fun y8 y9 y10 y11 => kr y9) N a0 (w64 (a1 - (a0.length : Int))) 0 0
def vo := b Lib.big (fun r0 => some r0) a0 a1
def c : Bool := Option.isSome (vo a0 a1)
def v := Option.getD (vo a0 a1) (0)
end Go.FG.U100

