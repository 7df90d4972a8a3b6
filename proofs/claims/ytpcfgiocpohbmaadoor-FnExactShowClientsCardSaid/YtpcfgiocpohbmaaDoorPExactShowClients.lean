/- Functions of the program, told as functions of numbers, texts and lists, and what each comes to. No condition but those that each states. -/
import Derived.Test.YtpcfgiocpohbmaaDoorLib
set_option linter.unusedVariables false
set_option linter.unusedSimpArgs false
set_option maxRecDepth 100000
namespace Go.FG
variable {R : Type}
abbrev F_ri (R : Type) := Row -> Int -> Option R
abbrev F_rir (R : Type) := Row -> Int -> Row -> Option R
abbrev F_ibs (R : Type) := Int -> Bool -> ByteArray -> Option R
abbrev F_riii (R : Type) := Row -> Int -> Int -> Int -> Option R
abbrev F_siis (R : Type) := ByteArray -> Int -> Int -> ByteArray -> Option R
abbrev F_rrri (R : Type) := Row -> Row -> F_ri R
abbrev F_srii (R : Type) := ByteArray -> Row -> Int -> Int -> Option R
abbrev F_rrbi (R : Type) := Row -> Row -> Bool -> Int -> Option R
abbrev F_ssiii (R : Type) := ByteArray -> ByteArray -> Int -> Int -> Int -> Option R
abbrev F_isiiisi (R : Type) := Int -> ByteArray -> Int -> Int -> Int -> ByteArray -> Int -> Option R
abbrev F_irrrrirri (R : Type) := Int -> Row -> Row -> Row -> Row -> Int -> Row -> F_ri R
abbrev F_siirrrrirri (R : Type) := ByteArray -> Int -> F_irrrrirri R

namespace U41
def b (kr : Int -> Option R) (a : ByteArray) (d e : Int) (f : ByteArray) (h : Int) : Option R := bif decide (w64 (h - (a.size : Int)) < 0) then kr (-1) else bif decide (w64 (w64 (h - (a.size : Int)) - (f.size : Int)) < 0) then kr (-1) else kr (w64 (w64 (h - (a.size : Int)) - (f.size : Int)))
def v (a0 : ByteArray) (a1 a2 : Int) (a3 : ByteArray) (a4 : Int) : Int := bif decide (w64 (a4 - (a0.size : Int)) < 0) then -1 else bif decide (w64 (w64 (a4 - (a0.size : Int)) - (a3.size : Int)) < 0) then -1 else w64 (w64 (a4 - (a0.size : Int)) - (a3.size : Int))
theorem b_eq (kr : Int -> Option R) (a0 : ByteArray) (a1 a2 : Int) (a3 : ByteArray) (a4 : Int) : b kr a0 a1 a2 a3 a4 = kr (v a0 a1 a2 a3 a4) := by
 first | rfl | (unfold b v; simp only [Bool.cond_eq_ite]; (repeat' split) <;> rfl)
end U41

namespace U15
def r5 (N : Nat) (g k0 k1 : F_riii R) (a : Row) (d e f : Int) : Option R := bif decide (f < (a.length : Int)) then bif decide (0 <= f) && decide (f < (a.length : Int)) then bif decide (U41.v (cvS (cellAt a f.toNat 0)) (cvI (cellAt a f.toNat 1)) (cvI (cellAt a f.toNat (1 + 1))) (cvS (cellAt a f.toNat (1 + 1 + 1))) d < 0) then k0 a (U41.v (cvS (cellAt a f.toNat 0)) (cvI (cellAt a f.toNat 1)) (cvI (cellAt a f.toNat (1 + 1))) (cvS (cellAt a f.toNat (1 + 1 + 1))) d) (-1) f else g a (U41.v (cvS (cellAt a f.toNat 0)) (cvI (cellAt a f.toNat 1)) (cvI (cellAt a f.toNat (1 + 1))) (cvS (cellAt a f.toNat (1 + 1 + 1))) d) e (w64 (f + 1)) else none else k1 a d e f
def l5 (N : Nat) (k0 k1 : F_riii R) : Nat -> F_riii R
 | 0 => fun _ _ _ _ => none
 | n + 1 => r5 N (l5 N k0 k1 n) k0 k1
def b (N : Nat) (kr : Int -> Option R) (a : Row) (d : Int) : Option R := bif decide (w64 (d - (a.length : Int)) < 0) then kr (-1) else l5 N (fun _ _ e _ => kr e) (fun _ e _ _ => kr e) N a (w64 (d - (a.length : Int))) 0 0
def vo := b Lib.big fun r0 => some r0
def c := fun a d => (vo a d).isSome
def v := fun a d => (vo a d).getD (0)
theorem out {x} : ∀ a d, vo a d = some x -> c a d = true /\ v a d = x := fun _ _ => Lib.out_
end U15

namespace U42
def r5 (N : Nat) (g k0 k1 : F_riii R) (a : Row) (d e f : Int) : Option R := bif decide (f < (a.length : Int)) then bif decide (0 <= f) && decide (f < (a.length : Int)) then bif decide (w64 (d - ((cvS (cellAt a f.toNat 0)).size : Int)) < 0) then k0 a (w64 (d - ((cvS (cellAt a f.toNat 0)).size : Int))) (-1) f else g a (w64 (d - ((cvS (cellAt a f.toNat 0)).size : Int))) e (w64 (f + 1)) else none else k1 a d e f
def l5 (N : Nat) (k0 k1 : F_riii R) : Nat -> F_riii R
 | 0 => fun _ _ _ _ => none
 | n + 1 => r5 N (l5 N k0 k1 n) k0 k1
def b (N : Nat) (kr : Int -> Option R) (a : Row) (d : Int) : Option R := bif decide (w64 (d - (a.length : Int)) < 0) then kr (-1) else l5 N (fun _ _ e _ => kr e) (fun _ e _ _ => kr e) N a (w64 (d - (a.length : Int))) 0 0
def vo := b Lib.big fun r0 => some r0
def c := fun a d => (vo a d).isSome
def v := fun a d => (vo a d).getD (0)
theorem out {x} : ∀ a d, vo a d = some x -> c a d = true /\ v a d = x := fun _ _ => Lib.out_
end U42

namespace U76
def b (kr : Int -> Option R) (a : Row) (d : Int) : Option R := bif decide (w64 (d - (a.length : Int)) < 0) then kr (-1) else kr (w64 (d - (a.length : Int)))
def v (a0 : Row) (a1 : Int) : Int := bif decide (w64 (a1 - (a0.length : Int)) < 0) then -1 else w64 (a1 - (a0.length : Int))
theorem b_eq (kr : Int -> Option R) (a0 : Row) (a1 : Int) : b kr a0 a1 = kr (v a0 a1) := by
 first | rfl | (unfold b v; simp only [Bool.cond_eq_ite]; (repeat' split) <;> rfl)
end U76

namespace U67
def r5 (N : Nat) (g k0 k1 : F_riii R) (a : Row) (d e f : Int) : Option R := bif decide (f < (a.length : Int)) then bif decide (0 <= f) && decide (f < (a.length : Int)) then bif decide (U76.v (cvL (cellAt a f.toNat 0)) d < 0) then k0 a (U76.v (cvL (cellAt a f.toNat 0)) d) (-1) f else g a (U76.v (cvL (cellAt a f.toNat 0)) d) e (w64 (f + 1)) else none else k1 a d e f
def l5 (N : Nat) (k0 k1 : F_riii R) : Nat -> F_riii R
 | 0 => fun _ _ _ _ => none
 | n + 1 => r5 N (l5 N k0 k1 n) k0 k1
def b (N : Nat) (kr : Int -> Option R) (a : Row) (d : Int) : Option R := bif decide (w64 (d - (a.length : Int)) < 0) then kr (-1) else l5 N (fun _ _ e _ => kr e) (fun _ e _ _ => kr e) N a (w64 (d - (a.length : Int))) 0 0
def vo := b Lib.big fun r0 => some r0
def c := fun a d => (vo a d).isSome
def v := fun a d => (vo a d).getD (0)
theorem out {x} : ∀ a d, vo a d = some x -> c a d = true /\ v a d = x := fun _ _ => Lib.out_
end U67

namespace U43
def b (kr : Int -> Option R) (a : Row) (d e : Int) : Option R := bif U67.c a e then bif decide (U67.v a e < 0) then kr (-1) else kr (U67.v a e) else none
def vo := b fun r0 => some r0
def c := fun a d e => (vo a d e).isSome
def v := fun a d e => (vo a d e).getD (0)
theorem out {x} : ∀ a d e, vo a d e = some x -> c a d e = true /\ v a d e = x := fun _ _ _ => Lib.out_
end U43

namespace U16
def b (kr : Int -> Option R) (a d e : Row) (f h : Int) : Option R := bif U42.c a h then bif decide (U42.v a h < 0) then kr (-1) else bif U42.c d (U42.v a h) then bif decide (U42.v d (U42.v a h) < 0) then kr (-1) else bif U43.c e f (U42.v d (U42.v a h)) then bif decide (U43.v e f (U42.v d (U42.v a h)) < 0) then kr (-1) else kr (U43.v e f (U42.v d (U42.v a h))) else none else none else none
def vo := b fun r0 => some r0
def c := fun a d e f h => (vo a d e f h).isSome
def v := fun a d e f h => (vo a d e f h).getD (0)
theorem out {x} : ∀ a d e f h, vo a d e f h = some x -> c a d e f h = true /\ v a d e f h = x := fun _ _ _ _ _ => Lib.out_
end U16

namespace U44
def b (kr : Int -> Option R) (a d : ByteArray) (e f h i : Int) : Option R := bif decide (w64 (i - (a.size : Int)) < 0) then kr (-1) else bif decide (w64 (w64 (i - (a.size : Int)) - (d.size : Int)) < 0) then kr (-1) else kr (w64 (w64 (i - (a.size : Int)) - (d.size : Int)))
def v (a0 a1 : ByteArray) (a2 a3 a4 a5 : Int) : Int := bif decide (w64 (a5 - (a0.size : Int)) < 0) then -1 else bif decide (w64 (w64 (a5 - (a0.size : Int)) - (a1.size : Int)) < 0) then -1 else w64 (w64 (a5 - (a0.size : Int)) - (a1.size : Int))
theorem b_eq (kr : Int -> Option R) (a0 a1 : ByteArray) (a2 a3 a4 a5 : Int) : b kr a0 a1 a2 a3 a4 a5 = kr (v a0 a1 a2 a3 a4 a5) := by
 first | rfl | (unfold b v; simp only [Bool.cond_eq_ite]; (repeat' split) <;> rfl)
end U44

namespace U17
def r5 (N : Nat) (g k0 k1 : F_riii R) (a : Row) (d e f : Int) : Option R := bif decide (f < (a.length : Int)) then bif decide (0 <= f) && decide (f < (a.length : Int)) then bif decide (U44.v (cvS (cellAt a f.toNat 0)) (cvS (cellAt a f.toNat 1)) (cvI (cellAt a f.toNat (1 + 1))) (cvI (cellAt a f.toNat (1 + 1 + 1))) (cvI (cellAt a f.toNat (1 + 1 + 1 + 1))) d < 0) then k0 a (U44.v (cvS (cellAt a f.toNat 0)) (cvS (cellAt a f.toNat 1)) (cvI (cellAt a f.toNat (1 + 1))) (cvI (cellAt a f.toNat (1 + 1 + 1))) (cvI (cellAt a f.toNat (1 + 1 + 1 + 1))) d) (-1) f else g a (U44.v (cvS (cellAt a f.toNat 0)) (cvS (cellAt a f.toNat 1)) (cvI (cellAt a f.toNat (1 + 1))) (cvI (cellAt a f.toNat (1 + 1 + 1))) (cvI (cellAt a f.toNat (1 + 1 + 1 + 1))) d) e (w64 (f + 1)) else none else k1 a d e f
def l5 (N : Nat) (k0 k1 : F_riii R) : Nat -> F_riii R
 | 0 => fun _ _ _ _ => none
 | n + 1 => r5 N (l5 N k0 k1 n) k0 k1
def b (N : Nat) (kr : Int -> Option R) (a : Row) (d : Int) : Option R := bif decide (w64 (d - (a.length : Int)) < 0) then kr (-1) else l5 N (fun _ _ e _ => kr e) (fun _ e _ _ => kr e) N a (w64 (d - (a.length : Int))) 0 0
def vo := b Lib.big fun r0 => some r0
def c := fun a d => (vo a d).isSome
def v := fun a d => (vo a d).getD (0)
theorem out {x} : ∀ a d, vo a d = some x -> c a d = true /\ v a d = x := fun _ _ => Lib.out_
end U17

namespace U45
def b (kr : Int -> Option R) (a : Int) (d : ByteArray) (e f h : Int) (i : ByteArray) (j l : Int) : Option R := bif decide (w64 (l - (d.size : Int)) < 0) then kr (-1) else bif decide (w64 (w64 (l - (d.size : Int)) - (i.size : Int)) < 0) then kr (-1) else kr (w64 (w64 (l - (d.size : Int)) - (i.size : Int)))
def v (a0 : Int) (a1 : ByteArray) (a2 a3 a4 : Int) (a5 : ByteArray) (a6 a7 : Int) : Int := bif decide (w64 (a7 - (a1.size : Int)) < 0) then -1 else bif decide (w64 (w64 (a7 - (a1.size : Int)) - (a5.size : Int)) < 0) then -1 else w64 (w64 (a7 - (a1.size : Int)) - (a5.size : Int))
theorem b_eq (kr : Int -> Option R) (a0 : Int) (a1 : ByteArray) (a2 a3 a4 : Int) (a5 : ByteArray) (a6 a7 : Int) : b kr a0 a1 a2 a3 a4 a5 a6 a7 = kr (v a0 a1 a2 a3 a4 a5 a6 a7) := by
 first | rfl | (unfold b v; simp only [Bool.cond_eq_ite]; (repeat' split) <;> rfl)
end U45

namespace U18
def r5 (N : Nat) (g k0 k1 : F_riii R) (a : Row) (d e f : Int) : Option R := bif decide (f < (a.length : Int)) then bif decide (0 <= f) && decide (f < (a.length : Int)) then bif decide (U45.v (cvI (cellAt a f.toNat 0)) (cvS (cellAt a f.toNat 1)) (cvI (cellAt a f.toNat (1 + 1))) (cvI (cellAt a f.toNat (1 + 1 + 1))) (cvI (cellAt a f.toNat (1 + 1 + 1 + 1))) (cvS (cellAt a f.toNat (1 + 1 + 1 + 1 + 1))) (cvI (cellAt a f.toNat (1 + 1 + 1 + 1 + 1 + 1))) d < 0) then k0 a (U45.v (cvI (cellAt a f.toNat 0)) (cvS (cellAt a f.toNat 1)) (cvI (cellAt a f.toNat (1 + 1))) (cvI (cellAt a f.toNat (1 + 1 + 1))) (cvI (cellAt a f.toNat (1 + 1 + 1 + 1))) (cvS (cellAt a f.toNat (1 + 1 + 1 + 1 + 1))) (cvI (cellAt a f.toNat (1 + 1 + 1 + 1 + 1 + 1))) d) (-1) f else g a (U45.v (cvI (cellAt a f.toNat 0)) (cvS (cellAt a f.toNat 1)) (cvI (cellAt a f.toNat (1 + 1))) (cvI (cellAt a f.toNat (1 + 1 + 1))) (cvI (cellAt a f.toNat (1 + 1 + 1 + 1))) (cvS (cellAt a f.toNat (1 + 1 + 1 + 1 + 1))) (cvI (cellAt a f.toNat (1 + 1 + 1 + 1 + 1 + 1))) d) e (w64 (f + 1)) else none else k1 a d e f
def l5 (N : Nat) (k0 k1 : F_riii R) : Nat -> F_riii R
 | 0 => fun _ _ _ _ => none
 | n + 1 => r5 N (l5 N k0 k1 n) k0 k1
def b (N : Nat) (kr : Int -> Option R) (a : Row) (d : Int) : Option R := bif decide (w64 (d - (a.length : Int)) < 0) then kr (-1) else l5 N (fun _ _ e _ => kr e) (fun _ e _ _ => kr e) N a (w64 (d - (a.length : Int))) 0 0
def vo := b Lib.big fun r0 => some r0
def c := fun a d => (vo a d).isSome
def v := fun a d => (vo a d).getD (0)
theorem out {x} : ∀ a d, vo a d = some x -> c a d = true /\ v a d = x := fun _ _ => Lib.out_
end U18

namespace U5
def b (kr : Int -> Option R) (a : Int) (d e f h : Row) (i : Int) (j l : Row) (m o : Int) : Option R := bif U15.c d o then bif decide (U15.v d o < 0) then kr (-1) else bif U16.c e f h i (U15.v d o) then bif decide (U16.v e f h i (U15.v d o) < 0) then kr (-1) else bif U17.c j (U16.v e f h i (U15.v d o)) then bif decide (U17.v j (U16.v e f h i (U15.v d o)) < 0) then kr (-1) else bif U18.c l (U17.v j (U16.v e f h i (U15.v d o))) then bif decide (U18.v l (U17.v j (U16.v e f h i (U15.v d o))) < 0) then kr (-1) else kr (U18.v l (U17.v j (U16.v e f h i (U15.v d o)))) else none else none else none else none
def vo := b fun r0 => some r0
def c := fun a d e f h i j l m o => (vo a d e f h i j l m o).isSome
def v := fun a d e f h i j l m o => (vo a d e f h i j l m o).getD (0)
theorem out {x} : ∀ a d e f h i j l m o, vo a d e f h i j l m o = some x -> c a d e f h i j l m o = true /\ v a d e f h i j l m o = x := fun _ _ _ _ _ _ _ _ _ _ => Lib.out_
end U5

namespace U47
def b (kr : F_siis R) (a : ByteArray) (d e : Int) (f : ByteArray) : Option R := kr a d e f
def v (a0 : ByteArray) (a1 a2 : Int) (a3 : ByteArray) : ByteArray × Int × Int × ByteArray := (a0, a1, a2, a3)
theorem b_eq (kr : F_siis R) (a0 : ByteArray) (a1 a2 : Int) (a3 : ByteArray) : b kr a0 a1 a2 a3 = kr ((v a0 a1 a2 a3).1) ((v a0 a1 a2 a3).2.1) ((v a0 a1 a2 a3).2.2.1) ((v a0 a1 a2 a3).2.2.2) := by
 first | rfl | (unfold b v; simp only [Bool.cond_eq_ite]; (repeat' split) <;> rfl)
end U47

namespace U20
def r3 (N : Nat) (g k0 : F_rir R) (a : Row) (d : Int) (e : Row) : Option R := bif decide (d < (a.length : Int)) then bif decide (0 <= d) && decide (d < (a.length : Int)) then bif decide (0 <= d) && decide (d < (e.length : Int)) then g a (w64 (d + 1)) (setC e d.toNat 0 [.s (cvS (cellAt a d.toNat 0)), .i .i64 (cvI (cellAt a d.toNat 1)), .i .i64 (cvI (cellAt a d.toNat (1 + 1))), .s (cvS (cellAt a d.toNat (1 + 1 + 1)))]) else none else none else k0 a d e
def l3 (N : Nat) (k0 : F_rir R) : Nat -> F_rir R
 | 0 => fun _ _ _ => none
 | n + 1 => r3 N (l3 N k0 n) k0
def b (N : Nat) (kr : Row -> Option R) (a : Row) : Option R := bif decide ((a.length : Int) = (a.length : Int)) && roomy (a.length : Int).toNat 48 then l3 N (fun _ _ d => kr d) N a 0 (zeros [Ck.s, Ck.i IntKind.i64, Ck.i IntKind.i64, Ck.s] (a.length : Int).toNat) else none
def vo := b Lib.big fun r0 => some r0
def c := fun a => (vo a).isSome
def v := fun a => (vo a).getD ([])
theorem out {x} : ∀ a, vo a = some x -> c a = true /\ v a = x := fun _ => Lib.out_
end U20

namespace U48
def r3 (N : Nat) (g k0 : F_rir R) (a : Row) (d : Int) (e : Row) : Option R := bif decide (d < (a.length : Int)) then bif decide (0 <= d) && decide (d < (a.length : Int)) then bif decide (0 <= d) && decide (d < (e.length : Int)) then g a (w64 (d + 1)) (setC e d.toNat 0 [.s (cvS (cellAt a d.toNat 0))]) else none else none else k0 a d e
def l3 (N : Nat) (k0 : F_rir R) : Nat -> F_rir R
 | 0 => fun _ _ _ => none
 | n + 1 => r3 N (l3 N k0 n) k0
def b (N : Nat) (kr : Row -> Option R) (a : Row) : Option R := bif decide ((a.length : Int) = (a.length : Int)) && roomy (a.length : Int).toNat 16 then l3 N (fun _ _ d => kr d) N a 0 (zeros [.s] (a.length : Int).toNat) else none
def vo := b Lib.big fun r0 => some r0
def c := fun a => (vo a).isSome
def v := fun a => (vo a).getD ([])
theorem out {x} : ∀ a, vo a = some x -> c a = true /\ v a = x := fun _ => Lib.out_
end U48

namespace U77
def r3 (N : Nat) (g k0 : F_rir R) (a : Row) (d : Int) (e : Row) : Option R := bif decide (d < (a.length : Int)) then bif decide (0 <= d) && decide (d < (a.length : Int)) then bif decide (0 <= d) && decide (d < (e.length : Int)) then g a (w64 (d + 1)) (setC e d.toNat 0 [.i .i64 (cvI (cellAt a d.toNat 0))]) else none else none else k0 a d e
def l3 (N : Nat) (k0 : F_rir R) : Nat -> F_rir R
 | 0 => fun _ _ _ => none
 | n + 1 => r3 N (l3 N k0 n) k0
def b (N : Nat) (kr : Row -> Option R) (a : Row) : Option R := bif decide ((a.length : Int) = (a.length : Int)) && roomy (a.length : Int).toNat 8 then l3 N (fun _ _ d => kr d) N a 0 (zeros [Ck.i IntKind.i64] (a.length : Int).toNat) else none
def v (a0 : Row) : Row := a0.map fun y => [CV.i IntKind.i64 (cvI (y.getD 0 (.b false)))]
def c (a0 : Row) : Bool := decide (a0.length <= 1048576)
theorem b_eq (kr : Row -> Option R) (a0 : Row) (hc : c a0 = true) : ∃ N, b N kr a0 = kr (v a0) := by
 have hl : a0.length <= 1048576 := of_decide_eq_true hc
 refine ⟨a0.length + 1, ?_⟩
 unfold b
 rw [show decide ((a0.length : Int) = (a0.length : Int)) = true by simp, Lib.toN, Lib.roomy_of (by omega) (by omega), Bool.and_self, cond_true]
 refine Lib.fill_run (ks := [Ck.i IntKind.i64]) (v a0) a0.length (by unfold v; simp) (fun y hy => ?_) (fun m (i : Nat) x => l3 (a0.length + 1) (fun _ _ y => kr y) m a0 i x) kr (fun m => ?_) (fun m i hi x hx => ?_)
 ·unfold v at hy; obtain ⟨z, _, rfl⟩ := List.mem_map.1 hy; rfl
 ·simp only [l3, r3, Lib.dlt, Nat.lt_irrefl, decide_false, cond_false]
 ·have hi2 : i < x.length := by omega
  have e : (v a0).getD i [] = [CV.i IntKind.i64 (cvI (cellAt a0 i 0))] := by
   unfold v; simp [List.getD, hi, cellAt]
  simp only [l3, r3, Lib.dlt, Lib.dle0, Lib.toN, hi, hi2, decide_true, Bool.true_and, cond_true, Lib.w64_s hi (by omega), e]
end U77

namespace U69
def r3 (N : Nat) (g k0 : F_rir R) (a : Row) (d : Int) (e : Row) : Option R := bif decide (d < (a.length : Int)) then bif decide (0 <= d) && decide (d < (a.length : Int)) then bif U77.c (cvL (cellAt a d.toNat 0)) then bif decide (0 <= d) && decide (d < (e.length : Int)) then g a (w64 (d + 1)) (setC e d.toNat 0 [CV.l 3 (U77.v (cvL (cellAt a d.toNat 0)))]) else none else none else none else k0 a d e
def l3 (N : Nat) (k0 : F_rir R) : Nat -> F_rir R
 | 0 => fun _ _ _ => none
 | n + 1 => r3 N (l3 N k0 n) k0
def b (N : Nat) (kr : Row -> Option R) (a : Row) : Option R := bif decide ((a.length : Int) = (a.length : Int)) && roomy (a.length : Int).toNat 24 then l3 N (fun _ _ d => kr d) N a 0 (zeros [Ck.l 3] (a.length : Int).toNat) else none
def vo := b Lib.big fun r0 => some r0
def c := fun a => (vo a).isSome
def v := fun a => (vo a).getD ([])
theorem out {x} : ∀ a, vo a = some x -> c a = true /\ v a = x := fun _ => Lib.out_
end U69

namespace U49
def b (kr : F_ri R) (a : Row) (d : Int) : Option R := bif U69.c a then kr (U69.v a) d else none
def vo := b fun r0 r1 => some (r0, r1)
def c := fun a d => (vo a d).isSome
def v := fun a d => (vo a d).getD ([], 0)
theorem out {x} : ∀ a d, vo a d = some x -> c a d = true /\ v a d = x := fun _ _ => Lib.out_
end U49

namespace U21
def b (kr : F_rrri R) (a d e : Row) (f : Int) : Option R := bif U48.c a then bif U48.c d then bif U49.c e f then kr (U48.v a) (U48.v d) (U49.v e f).1 (U49.v e f).2 else none else none else none
def vo := b fun r0 r1 r2 r3 => some (r0, r1, r2, r3)
def c := fun a d e f => (vo a d e f).isSome
def v := fun a d e f => (vo a d e f).getD ([], [], [], 0)
theorem out {x} : ∀ a d e f, vo a d e f = some x -> c a d e f = true /\ v a d e f = x := fun _ _ _ _ => Lib.out_
end U21

namespace U50
def b (kr : F_ssiii R) (a d : ByteArray) (e f h : Int) : Option R := kr a d e f h
def v (a0 a1 : ByteArray) (a2 a3 a4 : Int) : ByteArray × ByteArray × Int × Int × Int := (a0, a1, a2, a3, a4)
theorem b_eq (kr : F_ssiii R) (a0 a1 : ByteArray) (a2 a3 a4 : Int) : b kr a0 a1 a2 a3 a4 = kr ((v a0 a1 a2 a3 a4).1) ((v a0 a1 a2 a3 a4).2.1) ((v a0 a1 a2 a3 a4).2.2.1) ((v a0 a1 a2 a3 a4).2.2.2.1) ((v a0 a1 a2 a3 a4).2.2.2.2) := by
 first | rfl | (unfold b v; simp only [Bool.cond_eq_ite]; (repeat' split) <;> rfl)
end U50

namespace U22
def r3 (N : Nat) (g k0 : F_rir R) (a : Row) (d : Int) (e : Row) : Option R := bif decide (d < (a.length : Int)) then bif decide (0 <= d) && decide (d < (a.length : Int)) then bif decide (0 <= d) && decide (d < (e.length : Int)) then g a (w64 (d + 1)) (setC e d.toNat 0 [.s (cvS (cellAt a d.toNat 0)), .s (cvS (cellAt a d.toNat 1)), .i .i64 (cvI (cellAt a d.toNat (1 + 1))), .i .i64 (cvI (cellAt a d.toNat (1 + 1 + 1))), .i .i64 (cvI (cellAt a d.toNat (1 + 1 + 1 + 1)))]) else none else none else k0 a d e
def l3 (N : Nat) (k0 : F_rir R) : Nat -> F_rir R
 | 0 => fun _ _ _ => none
 | n + 1 => r3 N (l3 N k0 n) k0
def b (N : Nat) (kr : Row -> Option R) (a : Row) : Option R := bif decide ((a.length : Int) = (a.length : Int)) && roomy (a.length : Int).toNat 56 then l3 N (fun _ _ d => kr d) N a 0 (zeros [Ck.s, Ck.s, Ck.i IntKind.i64, Ck.i IntKind.i64, Ck.i IntKind.i64] (a.length : Int).toNat) else none
def vo := b Lib.big fun r0 => some r0
def c := fun a => (vo a).isSome
def v := fun a => (vo a).getD ([])
theorem out {x} : ∀ a, vo a = some x -> c a = true /\ v a = x := fun _ => Lib.out_
end U22

namespace U51
def b (kr : F_isiiisi R) (a : Int) (d : ByteArray) (e f h : Int) (i : ByteArray) (j : Int) : Option R := kr a d e f h i j
def v (a0 : Int) (a1 : ByteArray) (a2 a3 a4 : Int) (a5 : ByteArray) (a6 : Int) : Int × ByteArray × Int × Int × Int × ByteArray × Int := (a0, a1, a2, a3, a4, a5, a6)
theorem b_eq (kr : F_isiiisi R) (a0 : Int) (a1 : ByteArray) (a2 a3 a4 : Int) (a5 : ByteArray) (a6 : Int) : b kr a0 a1 a2 a3 a4 a5 a6 = kr ((v a0 a1 a2 a3 a4 a5 a6).1) ((v a0 a1 a2 a3 a4 a5 a6).2.1) ((v a0 a1 a2 a3 a4 a5 a6).2.2.1) ((v a0 a1 a2 a3 a4 a5 a6).2.2.2.1) ((v a0 a1 a2 a3 a4 a5 a6).2.2.2.2.1) ((v a0 a1 a2 a3 a4 a5 a6).2.2.2.2.2.1) ((v a0 a1 a2 a3 a4 a5 a6).2.2.2.2.2.2) := by
 first | rfl | (unfold b v; simp only [Bool.cond_eq_ite]; (repeat' split) <;> rfl)
end U51

namespace U23
def r3 (N : Nat) (g k0 : F_rir R) (a : Row) (d : Int) (e : Row) : Option R := bif decide (d < (a.length : Int)) then bif decide (0 <= d) && decide (d < (a.length : Int)) then bif decide (0 <= d) && decide (d < (e.length : Int)) then g a (w64 (d + 1)) (setC e d.toNat 0 [.i .i64 (cvI (cellAt a d.toNat 0)), .s (cvS (cellAt a d.toNat 1)), .i .i64 (cvI (cellAt a d.toNat (1 + 1))), .i .i64 (cvI (cellAt a d.toNat (1 + 1 + 1))), .i .i64 (cvI (cellAt a d.toNat (1 + 1 + 1 + 1))), .s (cvS (cellAt a d.toNat (1 + 1 + 1 + 1 + 1))), .i .i64 (cvI (cellAt a d.toNat (1 + 1 + 1 + 1 + 1 + 1)))]) else none else none else k0 a d e
def l3 (N : Nat) (k0 : F_rir R) : Nat -> F_rir R
 | 0 => fun _ _ _ => none
 | n + 1 => r3 N (l3 N k0 n) k0
def b (N : Nat) (kr : Row -> Option R) (a : Row) : Option R := bif decide ((a.length : Int) = (a.length : Int)) && roomy (a.length : Int).toNat 72 then l3 N (fun _ _ d => kr d) N a 0 (zeros [Ck.i IntKind.i64, Ck.s, Ck.i IntKind.i64, Ck.i IntKind.i64, Ck.i IntKind.i64, Ck.s, Ck.i IntKind.i64] (a.length : Int).toNat) else none
def vo := b Lib.big fun r0 => some r0
def c := fun a => (vo a).isSome
def v := fun a => (vo a).getD ([])
theorem out {x} : ∀ a, vo a = some x -> c a = true /\ v a = x := fun _ => Lib.out_
end U23

namespace U7
def b (kr : F_irrrrirri R) (a : Int) (d e f h : Row) (i : Int) (j l : Row) (m : Int) : Option R := bif U20.c d then bif U21.c e f h i then bif U22.c j then bif U23.c l then kr a (U20.v d) (U21.v e f h i).1 (U21.v e f h i).2.1 (U21.v e f h i).2.2.1 (U21.v e f h i).2.2.2 (U22.v j) (U23.v l) m else none else none else none else none
def vo := b fun r0 r1 r2 r3 r4 r5 r6 r7 r8 => some (r0, r1, r2, r3, r4, r5, r6, r7, r8)
def c := fun a d e f h i j l m => (vo a d e f h i j l m).isSome
def v := fun a d e f h i j l m => (vo a d e f h i j l m).getD (0, [], [], [], [], 0, [], [], 0)
theorem out {x} : ∀ a d e f h i j l m, vo a d e f h i j l m = some x -> c a d e f h i j l m = true /\ v a d e f h i j l m = x := fun _ _ _ _ _ _ _ _ _ => Lib.out_
end U7

namespace U68
def b (kr : Int -> Option R) (a : Int) : Option R := bif decide (a < 10) then kr (IntKind.wrap IntKind.u8 (w64 (48 + a))) else kr (IntKind.wrap IntKind.u8 (w64 (w64 (97 + a) - 10)))
def v (a0 : Int) : Int := bif decide (a0 < 10) then IntKind.wrap IntKind.u8 (w64 (48 + a0)) else IntKind.wrap IntKind.u8 (w64 (w64 (97 + a0) - 10))
theorem b_eq (kr : Int -> Option R) (a0 : Int) : b kr a0 = kr (v a0) := by
 first | rfl | (unfold b v; simp only [Bool.cond_eq_ite]; (repeat' split) <;> rfl)
end U68

namespace U46
def r5 (N : Nat) (g k0 : F_ibs R) (a : Int) (d : Bool) (e : ByteArray) : Option R := bif a != 0 then bif decide (Int.tmod a 10 < 0) then bif decide ((bytesOf (List.set (zeros [Ck.i IntKind.u8] 1) 0 [CV.i IntKind.u8 (U68.v (w64 (0 - Int.tmod a 10)))])).size + e.size <= 4611686018427387904) then g (w64 (Int.tdiv a 10)) d (bytesOf (List.set (zeros [Ck.i IntKind.u8] 1) 0 [CV.i IntKind.u8 (U68.v (w64 (0 - Int.tmod a 10)))]) ++ e) else none else bif decide ((bytesOf (List.set (zeros [Ck.i IntKind.u8] 1) 0 [CV.i IntKind.u8 (U68.v (Int.tmod a 10))])).size + e.size <= 4611686018427387904) then g (w64 (Int.tdiv a 10)) d (bytesOf (List.set (zeros [Ck.i IntKind.u8] 1) 0 [CV.i IntKind.u8 (U68.v (Int.tmod a 10))]) ++ e) else none else k0 a d e
def l5 (N : Nat) (k0 : F_ibs R) : Nat -> F_ibs R
 | 0 => fun _ _ _ => none
 | n + 1 => r5 N (l5 N k0 n) k0
def b (N : Nat) (kr : ByteArray -> Option R) (a : Int) : Option R := bif decide (a = 0) then kr ({ data := #[UInt8.ofNat 48] }) else l5 N (fun _ d e => bif d then bif decide (ByteArray.size { data := #[UInt8.ofNat 45] } + e.size <= 4611686018427387904) then kr ({ data := #[UInt8.ofNat 45] } ++ e) else none else kr e) N a (decide (a < 0)) ⟨#[]⟩
def vo := b Lib.big fun r0 => some r0
def c := fun a => (vo a).isSome
def v := fun a => (vo a).getD (⟨#[]⟩)
theorem out {x} : ∀ a, vo a = some x -> c a = true /\ v a = x := fun _ => Lib.out_
end U46

namespace U19
def b (kr : ByteArray -> Option R) (a : Int) : Option R := bif decide (a < 0) then kr ({ data := #[UInt8.ofNat 48] }) else bif U46.c a then kr (U46.v a) else none
def vo := b fun r0 => some r0
def c := fun a => (vo a).isSome
def v := fun a => (vo a).getD (⟨#[]⟩)
theorem out {x} : ∀ a, vo a = some x -> c a = true /\ v a = x := fun _ => Lib.out_
end U19

namespace U6
def r3 (N : Nat) (g k0 : F_siirrrrirri R) (a : ByteArray) (d e : Int) (f h i j : Row) (l : Int) (m o : Row) (p : Int) : Option R := bif decide (d < (o.length : Int)) then bif decide (0 <= d) && decide (d < (o.length : Int)) then bif decide (cvI (cellAt o d.toNat (1 + 1 + 1 + 1)) = 1) then bif decide (cvI (cellAt o d.toNat (1 + 1 + 1 + 1)) = 2) then bif U19.c (cvI (cellAt o d.toNat 0)) then bif decide (a.size + (U19.v (cvI (cellAt o d.toNat 0))).size <= 4611686018427387904) then bif decide ((a ++ U19.v (cvI (cellAt o d.toNat 0))).size + ByteArray.size { data := #[UInt8.ofNat 32] } <= 4611686018427387904) then bif decide ((a ++ U19.v (cvI (cellAt o d.toNat 0)) ++ { data := #[UInt8.ofNat 32] }).size + ByteArray.size { data := #[UInt8.ofNat 100, UInt8.ofNat 111, UInt8.ofNat 110, UInt8.ofNat 101] } <= 4611686018427387904) then bif decide ((a ++ U19.v (cvI (cellAt o d.toNat 0)) ++ { data := #[UInt8.ofNat 32] } ++ { data := #[UInt8.ofNat 100, UInt8.ofNat 111, UInt8.ofNat 110, UInt8.ofNat 101] }).size + ByteArray.size { data := #[UInt8.ofNat 32] } <= 4611686018427387904) then bif U19.c (cvI (cellAt o d.toNat (1 + 1 + 1 + 1 + 1 + 1))) then bif decide ((a ++ U19.v (cvI (cellAt o d.toNat 0)) ++ { data := #[UInt8.ofNat 32] } ++ { data := #[UInt8.ofNat 100, UInt8.ofNat 111, UInt8.ofNat 110, UInt8.ofNat 101] } ++ { data := #[UInt8.ofNat 32] }).size + (U19.v (cvI (cellAt o d.toNat (1 + 1 + 1 + 1 + 1 + 1)))).size <= 4611686018427387904) then bif decide ((a ++ U19.v (cvI (cellAt o d.toNat 0)) ++ { data := #[UInt8.ofNat 32] } ++ { data := #[UInt8.ofNat 100, UInt8.ofNat 111, UInt8.ofNat 110, UInt8.ofNat 101] } ++ { data := #[UInt8.ofNat 32] } ++ U19.v (cvI (cellAt o d.toNat (1 + 1 + 1 + 1 + 1 + 1)))).size + ByteArray.size { data := #[UInt8.ofNat 32] } <= 4611686018427387904) then bif decide ((a ++ U19.v (cvI (cellAt o d.toNat 0)) ++ { data := #[UInt8.ofNat 32] } ++ { data := #[UInt8.ofNat 100, UInt8.ofNat 111, UInt8.ofNat 110, UInt8.ofNat 101] } ++ { data := #[UInt8.ofNat 32] } ++ U19.v (cvI (cellAt o d.toNat (1 + 1 + 1 + 1 + 1 + 1))) ++ { data := #[UInt8.ofNat 32] }).size + (cvS (cellAt o d.toNat (1 + 1 + 1 + 1 + 1))).size <= 4611686018427387904) then bif decide ((a ++ U19.v (cvI (cellAt o d.toNat 0)) ++ { data := #[UInt8.ofNat 32] } ++ { data := #[UInt8.ofNat 100, UInt8.ofNat 111, UInt8.ofNat 110, UInt8.ofNat 101] } ++ { data := #[UInt8.ofNat 32] } ++ U19.v (cvI (cellAt o d.toNat (1 + 1 + 1 + 1 + 1 + 1))) ++ { data := #[UInt8.ofNat 32] } ++ cvS (cellAt o d.toNat (1 + 1 + 1 + 1 + 1))).size + ByteArray.size { data := #[UInt8.ofNat 10] } <= 4611686018427387904) then g (a ++ U19.v (cvI (cellAt o d.toNat 0)) ++ { data := #[UInt8.ofNat 32] } ++ { data := #[UInt8.ofNat 100, UInt8.ofNat 111, UInt8.ofNat 110, UInt8.ofNat 101] } ++ { data := #[UInt8.ofNat 32] } ++ U19.v (cvI (cellAt o d.toNat (1 + 1 + 1 + 1 + 1 + 1))) ++ { data := #[UInt8.ofNat 32] } ++ cvS (cellAt o d.toNat (1 + 1 + 1 + 1 + 1)) ++ { data := #[UInt8.ofNat 10] }) (w64 (d + 1)) e f h i j l m o p else none else none else none else none else none else none else none else none else none else none else bif U19.c (cvI (cellAt o d.toNat 0)) then bif decide (a.size + (U19.v (cvI (cellAt o d.toNat 0))).size <= 4611686018427387904) then bif decide ((a ++ U19.v (cvI (cellAt o d.toNat 0))).size + ByteArray.size { data := #[UInt8.ofNat 32] } <= 4611686018427387904) then bif decide ((a ++ U19.v (cvI (cellAt o d.toNat 0)) ++ { data := #[UInt8.ofNat 32] }).size + ByteArray.size { data := #[UInt8.ofNat 119, UInt8.ofNat 97, UInt8.ofNat 105, UInt8.ofNat 116, UInt8.ofNat 115] } <= 4611686018427387904) then bif decide ((a ++ U19.v (cvI (cellAt o d.toNat 0)) ++ { data := #[UInt8.ofNat 32] } ++ { data := #[UInt8.ofNat 119, UInt8.ofNat 97, UInt8.ofNat 105, UInt8.ofNat 116, UInt8.ofNat 115] }).size + ByteArray.size { data := #[UInt8.ofNat 32] } <= 4611686018427387904) then bif U19.c (cvI (cellAt o d.toNat (1 + 1 + 1 + 1 + 1 + 1))) then bif decide ((a ++ U19.v (cvI (cellAt o d.toNat 0)) ++ { data := #[UInt8.ofNat 32] } ++ { data := #[UInt8.ofNat 119, UInt8.ofNat 97, UInt8.ofNat 105, UInt8.ofNat 116, UInt8.ofNat 115] } ++ { data := #[UInt8.ofNat 32] }).size + (U19.v (cvI (cellAt o d.toNat (1 + 1 + 1 + 1 + 1 + 1)))).size <= 4611686018427387904) then bif decide ((a ++ U19.v (cvI (cellAt o d.toNat 0)) ++ { data := #[UInt8.ofNat 32] } ++ { data := #[UInt8.ofNat 119, UInt8.ofNat 97, UInt8.ofNat 105, UInt8.ofNat 116, UInt8.ofNat 115] } ++ { data := #[UInt8.ofNat 32] } ++ U19.v (cvI (cellAt o d.toNat (1 + 1 + 1 + 1 + 1 + 1)))).size + ByteArray.size { data := #[UInt8.ofNat 32] } <= 4611686018427387904) then bif decide ((a ++ U19.v (cvI (cellAt o d.toNat 0)) ++ { data := #[UInt8.ofNat 32] } ++ { data := #[UInt8.ofNat 119, UInt8.ofNat 97, UInt8.ofNat 105, UInt8.ofNat 116, UInt8.ofNat 115] } ++ { data := #[UInt8.ofNat 32] } ++ U19.v (cvI (cellAt o d.toNat (1 + 1 + 1 + 1 + 1 + 1))) ++ { data := #[UInt8.ofNat 32] }).size + (cvS (cellAt o d.toNat (1 + 1 + 1 + 1 + 1))).size <= 4611686018427387904) then bif decide ((a ++ U19.v (cvI (cellAt o d.toNat 0)) ++ { data := #[UInt8.ofNat 32] } ++ { data := #[UInt8.ofNat 119, UInt8.ofNat 97, UInt8.ofNat 105, UInt8.ofNat 116, UInt8.ofNat 115] } ++ { data := #[UInt8.ofNat 32] } ++ U19.v (cvI (cellAt o d.toNat (1 + 1 + 1 + 1 + 1 + 1))) ++ { data := #[UInt8.ofNat 32] } ++ cvS (cellAt o d.toNat (1 + 1 + 1 + 1 + 1))).size + ByteArray.size { data := #[UInt8.ofNat 10] } <= 4611686018427387904) then g (a ++ U19.v (cvI (cellAt o d.toNat 0)) ++ { data := #[UInt8.ofNat 32] } ++ { data := #[UInt8.ofNat 119, UInt8.ofNat 97, UInt8.ofNat 105, UInt8.ofNat 116, UInt8.ofNat 115] } ++ { data := #[UInt8.ofNat 32] } ++ U19.v (cvI (cellAt o d.toNat (1 + 1 + 1 + 1 + 1 + 1))) ++ { data := #[UInt8.ofNat 32] } ++ cvS (cellAt o d.toNat (1 + 1 + 1 + 1 + 1)) ++ { data := #[UInt8.ofNat 10] }) (w64 (d + 1)) e f h i j l m o p else none else none else none else none else none else none else none else none else none else none else bif decide (cvI (cellAt o d.toNat (1 + 1 + 1 + 1)) = 2) then bif U19.c (cvI (cellAt o d.toNat 0)) then bif decide (a.size + (U19.v (cvI (cellAt o d.toNat 0))).size <= 4611686018427387904) then bif decide ((a ++ U19.v (cvI (cellAt o d.toNat 0))).size + ByteArray.size { data := #[UInt8.ofNat 32] } <= 4611686018427387904) then bif decide ((a ++ U19.v (cvI (cellAt o d.toNat 0)) ++ { data := #[UInt8.ofNat 32] }).size + ByteArray.size { data := #[UInt8.ofNat 100, UInt8.ofNat 111, UInt8.ofNat 110, UInt8.ofNat 101] } <= 4611686018427387904) then bif decide ((a ++ U19.v (cvI (cellAt o d.toNat 0)) ++ { data := #[UInt8.ofNat 32] } ++ { data := #[UInt8.ofNat 100, UInt8.ofNat 111, UInt8.ofNat 110, UInt8.ofNat 101] }).size + ByteArray.size { data := #[UInt8.ofNat 32] } <= 4611686018427387904) then bif U19.c (cvI (cellAt o d.toNat (1 + 1 + 1 + 1 + 1 + 1))) then bif decide ((a ++ U19.v (cvI (cellAt o d.toNat 0)) ++ { data := #[UInt8.ofNat 32] } ++ { data := #[UInt8.ofNat 100, UInt8.ofNat 111, UInt8.ofNat 110, UInt8.ofNat 101] } ++ { data := #[UInt8.ofNat 32] }).size + (U19.v (cvI (cellAt o d.toNat (1 + 1 + 1 + 1 + 1 + 1)))).size <= 4611686018427387904) then bif decide ((a ++ U19.v (cvI (cellAt o d.toNat 0)) ++ { data := #[UInt8.ofNat 32] } ++ { data := #[UInt8.ofNat 100, UInt8.ofNat 111, UInt8.ofNat 110, UInt8.ofNat 101] } ++ { data := #[UInt8.ofNat 32] } ++ U19.v (cvI (cellAt o d.toNat (1 + 1 + 1 + 1 + 1 + 1)))).size + ByteArray.size { data := #[UInt8.ofNat 32] } <= 4611686018427387904) then bif decide ((a ++ U19.v (cvI (cellAt o d.toNat 0)) ++ { data := #[UInt8.ofNat 32] } ++ { data := #[UInt8.ofNat 100, UInt8.ofNat 111, UInt8.ofNat 110, UInt8.ofNat 101] } ++ { data := #[UInt8.ofNat 32] } ++ U19.v (cvI (cellAt o d.toNat (1 + 1 + 1 + 1 + 1 + 1))) ++ { data := #[UInt8.ofNat 32] }).size + (cvS (cellAt o d.toNat (1 + 1 + 1 + 1 + 1))).size <= 4611686018427387904) then bif decide ((a ++ U19.v (cvI (cellAt o d.toNat 0)) ++ { data := #[UInt8.ofNat 32] } ++ { data := #[UInt8.ofNat 100, UInt8.ofNat 111, UInt8.ofNat 110, UInt8.ofNat 101] } ++ { data := #[UInt8.ofNat 32] } ++ U19.v (cvI (cellAt o d.toNat (1 + 1 + 1 + 1 + 1 + 1))) ++ { data := #[UInt8.ofNat 32] } ++ cvS (cellAt o d.toNat (1 + 1 + 1 + 1 + 1))).size + ByteArray.size { data := #[UInt8.ofNat 10] } <= 4611686018427387904) then g (a ++ U19.v (cvI (cellAt o d.toNat 0)) ++ { data := #[UInt8.ofNat 32] } ++ { data := #[UInt8.ofNat 100, UInt8.ofNat 111, UInt8.ofNat 110, UInt8.ofNat 101] } ++ { data := #[UInt8.ofNat 32] } ++ U19.v (cvI (cellAt o d.toNat (1 + 1 + 1 + 1 + 1 + 1))) ++ { data := #[UInt8.ofNat 32] } ++ cvS (cellAt o d.toNat (1 + 1 + 1 + 1 + 1)) ++ { data := #[UInt8.ofNat 10] }) (w64 (d + 1)) e f h i j l m o p else none else none else none else none else none else none else none else none else none else none else bif U19.c (cvI (cellAt o d.toNat 0)) then bif decide (a.size + (U19.v (cvI (cellAt o d.toNat 0))).size <= 4611686018427387904) then bif decide ((a ++ U19.v (cvI (cellAt o d.toNat 0))).size + ByteArray.size { data := #[UInt8.ofNat 32] } <= 4611686018427387904) then bif decide ((a ++ U19.v (cvI (cellAt o d.toNat 0)) ++ { data := #[UInt8.ofNat 32] }).size + ByteArray.size { data := #[UInt8.ofNat 102, UInt8.ofNat 97, UInt8.ofNat 105, UInt8.ofNat 108, UInt8.ofNat 101, UInt8.ofNat 100] } <= 4611686018427387904) then bif decide ((a ++ U19.v (cvI (cellAt o d.toNat 0)) ++ { data := #[UInt8.ofNat 32] } ++ { data := #[UInt8.ofNat 102, UInt8.ofNat 97, UInt8.ofNat 105, UInt8.ofNat 108, UInt8.ofNat 101, UInt8.ofNat 100] }).size + ByteArray.size { data := #[UInt8.ofNat 32] } <= 4611686018427387904) then bif U19.c (cvI (cellAt o d.toNat (1 + 1 + 1 + 1 + 1 + 1))) then bif decide ((a ++ U19.v (cvI (cellAt o d.toNat 0)) ++ { data := #[UInt8.ofNat 32] } ++ { data := #[UInt8.ofNat 102, UInt8.ofNat 97, UInt8.ofNat 105, UInt8.ofNat 108, UInt8.ofNat 101, UInt8.ofNat 100] } ++ { data := #[UInt8.ofNat 32] }).size + (U19.v (cvI (cellAt o d.toNat (1 + 1 + 1 + 1 + 1 + 1)))).size <= 4611686018427387904) then bif decide ((a ++ U19.v (cvI (cellAt o d.toNat 0)) ++ { data := #[UInt8.ofNat 32] } ++ { data := #[UInt8.ofNat 102, UInt8.ofNat 97, UInt8.ofNat 105, UInt8.ofNat 108, UInt8.ofNat 101, UInt8.ofNat 100] } ++ { data := #[UInt8.ofNat 32] } ++ U19.v (cvI (cellAt o d.toNat (1 + 1 + 1 + 1 + 1 + 1)))).size + ByteArray.size { data := #[UInt8.ofNat 32] } <= 4611686018427387904) then bif decide ((a ++ U19.v (cvI (cellAt o d.toNat 0)) ++ { data := #[UInt8.ofNat 32] } ++ { data := #[UInt8.ofNat 102, UInt8.ofNat 97, UInt8.ofNat 105, UInt8.ofNat 108, UInt8.ofNat 101, UInt8.ofNat 100] } ++ { data := #[UInt8.ofNat 32] } ++ U19.v (cvI (cellAt o d.toNat (1 + 1 + 1 + 1 + 1 + 1))) ++ { data := #[UInt8.ofNat 32] }).size + (cvS (cellAt o d.toNat (1 + 1 + 1 + 1 + 1))).size <= 4611686018427387904) then bif decide ((a ++ U19.v (cvI (cellAt o d.toNat 0)) ++ { data := #[UInt8.ofNat 32] } ++ { data := #[UInt8.ofNat 102, UInt8.ofNat 97, UInt8.ofNat 105, UInt8.ofNat 108, UInt8.ofNat 101, UInt8.ofNat 100] } ++ { data := #[UInt8.ofNat 32] } ++ U19.v (cvI (cellAt o d.toNat (1 + 1 + 1 + 1 + 1 + 1))) ++ { data := #[UInt8.ofNat 32] } ++ cvS (cellAt o d.toNat (1 + 1 + 1 + 1 + 1))).size + ByteArray.size { data := #[UInt8.ofNat 10] } <= 4611686018427387904) then g (a ++ U19.v (cvI (cellAt o d.toNat 0)) ++ { data := #[UInt8.ofNat 32] } ++ { data := #[UInt8.ofNat 102, UInt8.ofNat 97, UInt8.ofNat 105, UInt8.ofNat 108, UInt8.ofNat 101, UInt8.ofNat 100] } ++ { data := #[UInt8.ofNat 32] } ++ U19.v (cvI (cellAt o d.toNat (1 + 1 + 1 + 1 + 1 + 1))) ++ { data := #[UInt8.ofNat 32] } ++ cvS (cellAt o d.toNat (1 + 1 + 1 + 1 + 1)) ++ { data := #[UInt8.ofNat 10] }) (w64 (d + 1)) e f h i j l m o p else none else none else none else none else none else none else none else none else none else none else none else k0 a d e f h i j l m o p
def l3 (N : Nat) (k0 : F_siirrrrirri R) : Nat -> F_siirrrrirri R
 | 0 => fun _ _ _ _ _ _ _ _ _ _ _ => none
 | n + 1 => r3 N (l3 N k0 n) k0
def b (N : Nat) (kr : ByteArray -> Option R) (a : Int) (d e f h : Row) (i : Int) (j l : Row) (m : Int) : Option R := l3 N (fun o _ _ _ _ _ _ _ _ _ _ => kr o) N ⟨#[]⟩ 0 a d e f h i j l m
def vo := b Lib.big fun r0 => some r0
def c := fun a d e f h i j l m => (vo a d e f h i j l m).isSome
def v := fun a d e f h i j l m => (vo a d e f h i j l m).getD (⟨#[]⟩)
theorem out {x} : ∀ a d e f h i j l m, vo a d e f h i j l m = some x -> c a d e f h i j l m = true /\ v a d e f h i j l m = x := fun _ _ _ _ _ _ _ _ _ => Lib.out_
end U6

namespace U52
def c (n : Int) : Bool := decide (-9223372036854775808 <= n) && decide (n <= 9223372036854775807)
def v (n : Int) : ByteArray := ⟨(_root_.Go.Lib.itoa n).toArray⟩
end U52

namespace U24
def b (kr : ByteArray -> Option R) (a : Int) : Option R := bif U52.c a then kr (U52.v a) else none
def vo := b fun r0 => some r0
def c := fun a => (vo a).isSome
def v := fun a => (vo a).getD (⟨#[]⟩)
theorem out {x} : ∀ a, vo a = some x -> c a = true /\ v a = x := fun _ => Lib.out_
end U24

namespace U25
def b (kr : ByteArray -> Option R) (a : Int) : Option R := bif decide (a = 1) then kr ({ data := #[UInt8.ofNat 119, UInt8.ofNat 97, UInt8.ofNat 105, UInt8.ofNat 116, UInt8.ofNat 115] }) else bif decide (a = 2) then kr ({ data := #[UInt8.ofNat 100, UInt8.ofNat 111, UInt8.ofNat 110, UInt8.ofNat 101] }) else kr ({ data := #[UInt8.ofNat 102, UInt8.ofNat 97, UInt8.ofNat 105, UInt8.ofNat 108, UInt8.ofNat 101, UInt8.ofNat 100] })
def v (a0 : Int) : ByteArray := bif decide (a0 = 1) then { data := #[UInt8.ofNat 119, UInt8.ofNat 97, UInt8.ofNat 105, UInt8.ofNat 116, UInt8.ofNat 115] } else bif decide (a0 = 2) then { data := #[UInt8.ofNat 100, UInt8.ofNat 111, UInt8.ofNat 110, UInt8.ofNat 101] } else { data := #[UInt8.ofNat 102, UInt8.ofNat 97, UInt8.ofNat 105, UInt8.ofNat 108, UInt8.ofNat 101, UInt8.ofNat 100] }
theorem b_eq (kr : ByteArray -> Option R) (a0 : Int) : b kr a0 = kr (v a0) := by
 first | rfl | (unfold b v; simp only [Bool.cond_eq_ite]; (repeat' split) <;> rfl)
end U25

namespace U8
def r3 (N : Nat) (g k0 : F_srii R) (a : ByteArray) (d : Row) (e f : Int) : Option R := bif decide (f < e) then bif decide (0 <= f) && decide (f < (d.length : Int)) then bif U24.c (minmax true (cvI (cellAt d f.toNat 0)) 0) then bif decide ((U24.v (minmax true (cvI (cellAt d f.toNat 0)) 0)).size + ByteArray.size { data := #[UInt8.ofNat 32] } <= 4611686018427387904) then bif decide ((U24.v (minmax true (cvI (cellAt d f.toNat 0)) 0) ++ { data := #[UInt8.ofNat 32] }).size + (U25.v (cvI (cellAt d f.toNat (1 + 1 + 1 + 1)))).size <= 4611686018427387904) then bif decide ((U24.v (minmax true (cvI (cellAt d f.toNat 0)) 0) ++ { data := #[UInt8.ofNat 32] } ++ U25.v (cvI (cellAt d f.toNat (1 + 1 + 1 + 1)))).size + ByteArray.size { data := #[UInt8.ofNat 32] } <= 4611686018427387904) then bif U24.c (minmax true (cvI (cellAt d f.toNat (1 + 1 + 1 + 1 + 1 + 1))) 0) then bif decide ((U24.v (minmax true (cvI (cellAt d f.toNat 0)) 0) ++ { data := #[UInt8.ofNat 32] } ++ U25.v (cvI (cellAt d f.toNat (1 + 1 + 1 + 1))) ++ { data := #[UInt8.ofNat 32] }).size + (U24.v (minmax true (cvI (cellAt d f.toNat (1 + 1 + 1 + 1 + 1 + 1))) 0)).size <= 4611686018427387904) then bif decide ((U24.v (minmax true (cvI (cellAt d f.toNat 0)) 0) ++ { data := #[UInt8.ofNat 32] } ++ U25.v (cvI (cellAt d f.toNat (1 + 1 + 1 + 1))) ++ { data := #[UInt8.ofNat 32] } ++ U24.v (minmax true (cvI (cellAt d f.toNat (1 + 1 + 1 + 1 + 1 + 1))) 0)).size + ByteArray.size { data := #[UInt8.ofNat 32] } <= 4611686018427387904) then bif decide ((U24.v (minmax true (cvI (cellAt d f.toNat 0)) 0) ++ { data := #[UInt8.ofNat 32] } ++ U25.v (cvI (cellAt d f.toNat (1 + 1 + 1 + 1))) ++ { data := #[UInt8.ofNat 32] } ++ U24.v (minmax true (cvI (cellAt d f.toNat (1 + 1 + 1 + 1 + 1 + 1))) 0) ++ { data := #[UInt8.ofNat 32] }).size + (cvS (cellAt d f.toNat (1 + 1 + 1 + 1 + 1))).size <= 4611686018427387904) then bif decide ((U24.v (minmax true (cvI (cellAt d f.toNat 0)) 0) ++ { data := #[UInt8.ofNat 32] } ++ U25.v (cvI (cellAt d f.toNat (1 + 1 + 1 + 1))) ++ { data := #[UInt8.ofNat 32] } ++ U24.v (minmax true (cvI (cellAt d f.toNat (1 + 1 + 1 + 1 + 1 + 1))) 0) ++ { data := #[UInt8.ofNat 32] } ++ cvS (cellAt d f.toNat (1 + 1 + 1 + 1 + 1))).size + ByteArray.size { data := #[UInt8.ofNat 10] } <= 4611686018427387904) then bif decide (a.size + (U24.v (minmax true (cvI (cellAt d f.toNat 0)) 0) ++ { data := #[UInt8.ofNat 32] } ++ U25.v (cvI (cellAt d f.toNat (1 + 1 + 1 + 1))) ++ { data := #[UInt8.ofNat 32] } ++ U24.v (minmax true (cvI (cellAt d f.toNat (1 + 1 + 1 + 1 + 1 + 1))) 0) ++ { data := #[UInt8.ofNat 32] } ++ cvS (cellAt d f.toNat (1 + 1 + 1 + 1 + 1)) ++ { data := #[UInt8.ofNat 10] }).size <= 4611686018427387904) then g (a ++ (U24.v (minmax true (cvI (cellAt d f.toNat 0)) 0) ++ { data := #[UInt8.ofNat 32] } ++ U25.v (cvI (cellAt d f.toNat (1 + 1 + 1 + 1))) ++ { data := #[UInt8.ofNat 32] } ++ U24.v (minmax true (cvI (cellAt d f.toNat (1 + 1 + 1 + 1 + 1 + 1))) 0) ++ { data := #[UInt8.ofNat 32] } ++ cvS (cellAt d f.toNat (1 + 1 + 1 + 1 + 1)) ++ { data := #[UInt8.ofNat 10] })) d e (w64 (f + 1)) else none else none else none else none else none else none else none else none else none else none else none else k0 a d e f
def l3 (N : Nat) (k0 : F_srii R) : Nat -> F_srii R
 | 0 => fun _ _ _ _ => none
 | n + 1 => r3 N (l3 N k0 n) k0
def b (N : Nat) (kr : ByteArray -> Option R) (a : Int) (d e f h : Row) (i : Int) (j l : Row) (m : Int) : Option R := l3 N (fun o _ _ _ => kr o) N ⟨#[]⟩ l (l.length : Int) 0
def vo := b Lib.big fun r0 => some r0
def c := fun a d e f h i j l m => (vo a d e f h i j l m).isSome
def v := fun a d e f h i j l m => (vo a d e f h i j l m).getD (⟨#[]⟩)
theorem out {x} : ∀ a d e f h i j l m, vo a d e f h i j l m = some x -> c a d e f h i j l m = true /\ v a d e f h i j l m = x := fun _ _ _ _ _ _ _ _ _ => Lib.out_
end U8

namespace U53
def b (kr : Bool -> Option R) (a : ByteArray) (d e : Int) (f h : ByteArray) (i j : Int) (l : ByteArray) : Option R := bif !List.beq (ByteArray.toList a) (ByteArray.toList h) then kr false else bif d != i then kr false else bif e != j then kr false else bif !List.beq (ByteArray.toList f) (ByteArray.toList l) then kr false else kr true
def v (a0 : ByteArray) (a1 a2 : Int) (a3 a4 : ByteArray) (a5 a6 : Int) (a7 : ByteArray) : Bool := bif !List.beq (ByteArray.toList a0) (ByteArray.toList a4) then false else bif a1 != a5 then false else bif a2 != a6 then false else bif !List.beq (ByteArray.toList a3) (ByteArray.toList a7) then false else true
theorem b_eq (kr : Bool -> Option R) (a0 : ByteArray) (a1 a2 : Int) (a3 a4 : ByteArray) (a5 a6 : Int) (a7 : ByteArray) : b kr a0 a1 a2 a3 a4 a5 a6 a7 = kr (v a0 a1 a2 a3 a4 a5 a6 a7) := by
 first | rfl | (unfold b v; simp only [Bool.cond_eq_ite]; (repeat' split) <;> rfl)
end U53

namespace U26
def r4 (N : Nat) (g k0 k1 : F_rrbi R) (a d : Row) (e : Bool) (f : Int) : Option R := bif decide (f < (a.length : Int)) then bif decide (0 <= f) && decide (f < (a.length : Int)) then bif decide (0 <= f) && decide (f < (d.length : Int)) then bif !U53.v (cvS (cellAt a f.toNat 0)) (cvI (cellAt a f.toNat 1)) (cvI (cellAt a f.toNat (1 + 1))) (cvS (cellAt a f.toNat (1 + 1 + 1))) (cvS (cellAt d f.toNat 0)) (cvI (cellAt d f.toNat 1)) (cvI (cellAt d f.toNat (1 + 1))) (cvS (cellAt d f.toNat (1 + 1 + 1))) then k0 a d false f else g a d e (w64 (f + 1)) else none else none else k1 a d e f
def l4 (N : Nat) (k0 k1 : F_rrbi R) : Nat -> F_rrbi R
 | 0 => fun _ _ _ _ => none
 | n + 1 => r4 N (l4 N k0 k1 n) k0 k1
def b (N : Nat) (kr : Bool -> Option R) (a d : Row) : Option R := bif (a.length : Int) != (d.length : Int) then kr false else l4 N (fun _ _ e _ => kr e) (fun _ _ _ _ => kr true) N a d false 0
def vo := b Lib.big fun r0 => some r0
def c := fun a d => (vo a d).isSome
def v := fun a d => (vo a d).getD false
theorem out {x} : ∀ a d, vo a d = some x -> c a d = true /\ v a d = x := fun _ _ => Lib.out_
end U26

namespace U54
def r4 (N : Nat) (g k0 k1 : F_rrbi R) (a d : Row) (e : Bool) (f : Int) : Option R := bif decide (f < (a.length : Int)) then bif decide (0 <= f) && decide (f < (a.length : Int)) then bif decide (0 <= f) && decide (f < (d.length : Int)) then bif !List.beq (cvS (cellAt a f.toNat 0)).toList (cvS (cellAt d f.toNat 0)).toList then k0 a d false f else g a d e (w64 (f + 1)) else none else none else k1 a d e f
def l4 (N : Nat) (k0 k1 : F_rrbi R) : Nat -> F_rrbi R
 | 0 => fun _ _ _ _ => none
 | n + 1 => r4 N (l4 N k0 k1 n) k0 k1
def b (N : Nat) (kr : Bool -> Option R) (a d : Row) : Option R := bif (a.length : Int) != (d.length : Int) then kr false else l4 N (fun _ _ e _ => kr e) (fun _ _ _ _ => kr true) N a d false 0
def vo := b Lib.big fun r0 => some r0
def c := fun a d => (vo a d).isSome
def v := fun a d => (vo a d).getD false
theorem out {x} : ∀ a d, vo a d = some x -> c a d = true /\ v a d = x := fun _ _ => Lib.out_
end U54

namespace U66
def r4 (N : Nat) (g k0 k1 : F_rrbi R) (a d : Row) (e : Bool) (f : Int) : Option R := bif decide (f < (a.length : Int)) then bif decide (0 <= f) && decide (f < (a.length : Int)) then bif decide (0 <= f) && decide (f < (d.length : Int)) then bif cvI (cellAt a f.toNat 0) != cvI (cellAt d f.toNat 0) then k0 a d false f else g a d e (w64 (f + 1)) else none else none else k1 a d e f
def l4 (N : Nat) (k0 k1 : F_rrbi R) : Nat -> F_rrbi R
 | 0 => fun _ _ _ _ => none
 | n + 1 => r4 N (l4 N k0 k1 n) k0 k1
def b (N : Nat) (kr : Bool -> Option R) (a d : Row) : Option R := bif (a.length : Int) != (d.length : Int) then kr false else l4 N (fun _ _ e _ => kr e) (fun _ _ _ _ => kr true) N a d false 0
def v (a0 : Row) (b1 : Row) : Bool := (a0.length == b1.length) && (List.range a0.length).all fun i => !(cvI (cellAt a0 i 0) != cvI (cellAt b1 i 0))
def fr (a b : Row) (i : Nat) : Bool := (List.range' i (a.length - i)).all fun i => !(cvI (cellAt a i 0) != cvI (cellAt b i 0))
theorem run (N : Nat) (kr : Bool -> Option R) (a b : Row) (hl : a.length = b.length) (ha : FitR a) : ∀ n (i : Nat), i <= a.length -> a.length - i < n -> l4 N (fun _ _ y _ => kr y) (fun _ _ _ _ => kr true) n a b false i = kr (fr a b i) := by
 refine Lib.loop_gen (fun n (i : Nat) => l4 N (fun _ _ y _ => kr y) (fun _ _ _ _ => kr true) n a b false i) (fun i => a.length - i) (fun i => i <= a.length) (fun i => kr (fr a b i)) (fun n i hi => ?_)
 simp only [l4, r4, Lib.dlt, Lib.dle0, Lib.toN, Bool.true_and]
 by_cases h : i < a.length
 ·have e : a.length - i = (a.length - (i + 1)) + 1 := by omega
  have hf : fr a b i = (!(cvI (cellAt a i 0) != cvI (cellAt b i 0)) && fr a b (i + 1)) := by
   unfold fr; rw [e, List.range'_succ, List.all_cons]
  have hb : i < b.length := by omega
  simp only [h, hb, decide_true, cond_true, Lib.w64_s h ha.1]
  cases hv : (cvI (cellAt a i 0) != cvI (cellAt b i 0)) with
  | false => exact .inr ⟨i + 1, h, by omega, by rw [hf, hv]; rfl, rfl⟩
  | true => left; rw [hf, hv]; rfl
 ·left
  have : a.length - i = 0 := by omega
  simp only [h, decide_false, cond_false]
  unfold fr; rw [this]; rfl
theorem b_eq (kr : Bool -> Option R) (a0 : Row) (b1 : Row) (f0 : FitR a0) (f1 : FitR b1) : ∃ N, b N kr a0 b1 = kr (v a0 b1) := by
 refine ⟨a0.length + 1, ?_⟩
 unfold b v
 by_cases hl : a0.length = b1.length
 ·have e : ((a0.length : Int) != (b1.length : Int)) = false := by simp [hl]
  rw [e, cond_false]
  refine (run _ kr a0 b1 hl f0 (a0.length + 1) 0 (by omega) (by omega)).trans ?_
  unfold fr; rw [show (a0.length == b1.length) = true by simp [hl], Nat.sub_zero, <- List.range_eq_range']; rfl
 ·have e : ((a0.length : Int) != (b1.length : Int)) = true := by simp; omega
  have e2 : (a0.length == b1.length) = false := by simp; omega
  rw [e, cond_true, e2]; rfl
theorem refl (a : Row) : v a a = true := by unfold v; simp
end U66

namespace U71
def r4 (N : Nat) (g k0 k1 : F_rrbi R) (a d : Row) (e : Bool) (f : Int) : Option R := bif decide (f < (a.length : Int)) then bif decide (0 <= f) && decide (f < (a.length : Int)) then bif decide (0 <= f) && decide (f < (d.length : Int)) then bif !U66.v (cvL (cellAt a f.toNat 0)) (cvL (cellAt d f.toNat 0)) then k0 a d false f else g a d e (w64 (f + 1)) else none else none else k1 a d e f
def l4 (N : Nat) (k0 k1 : F_rrbi R) : Nat -> F_rrbi R
 | 0 => fun _ _ _ _ => none
 | n + 1 => r4 N (l4 N k0 k1 n) k0 k1
def b (N : Nat) (kr : Bool -> Option R) (a d : Row) : Option R := bif (a.length : Int) != (d.length : Int) then kr false else l4 N (fun _ _ e _ => kr e) (fun _ _ _ _ => kr true) N a d false 0
def vo := b Lib.big fun r0 => some r0
def c := fun a d => (vo a d).isSome
def v := fun a d => (vo a d).getD false
theorem out {x} : ∀ a d, vo a d = some x -> c a d = true /\ v a d = x := fun _ _ => Lib.out_
end U71

namespace U55
def b (kr : Bool -> Option R) (a : Row) (d : Int) (e : Row) (f : Int) : Option R := bif U71.c a e then bif !U71.v a e then kr false else bif d != f then kr false else kr true else none
def vo := b fun r0 => some r0
def c := fun a d e f => (vo a d e f).isSome
def v := fun a d e f => (vo a d e f).getD false
theorem out {x} : ∀ a d e f, vo a d e f = some x -> c a d e f = true /\ v a d e f = x := fun _ _ _ _ => Lib.out_
end U55

namespace U27
def b (kr : Bool -> Option R) (a d e : Row) (f : Int) (h i j : Row) (l : Int) : Option R := bif U54.c a h then bif !U54.v a h then kr false else bif U54.c d i then bif !U54.v d i then kr false else bif U55.c e f j l then bif !U55.v e f j l then kr false else kr true else none else none else none
def vo := b fun r0 => some r0
def c := fun a d e f h i j l => (vo a d e f h i j l).isSome
def v := fun a d e f h i j l => (vo a d e f h i j l).getD false
theorem out {x} : ∀ a d e f h i j l, vo a d e f h i j l = some x -> c a d e f h i j l = true /\ v a d e f h i j l = x := fun _ _ _ _ _ _ _ _ => Lib.out_
end U27

namespace U56
def b (kr : Bool -> Option R) (a d : ByteArray) (e f h : Int) (i j : ByteArray) (l m o : Int) : Option R := bif !List.beq (ByteArray.toList a) (ByteArray.toList i) then kr false else bif !List.beq (ByteArray.toList d) (ByteArray.toList j) then kr false else bif e != l then kr false else bif f != m then kr false else bif h != o then kr false else kr true
def v (a0 a1 : ByteArray) (a2 a3 a4 : Int) (a5 a6 : ByteArray) (a7 a8 a9 : Int) : Bool := bif !List.beq (ByteArray.toList a0) (ByteArray.toList a5) then false else bif !List.beq (ByteArray.toList a1) (ByteArray.toList a6) then false else bif a2 != a7 then false else bif a3 != a8 then false else bif a4 != a9 then false else true
theorem b_eq (kr : Bool -> Option R) (a0 a1 : ByteArray) (a2 a3 a4 : Int) (a5 a6 : ByteArray) (a7 a8 a9 : Int) : b kr a0 a1 a2 a3 a4 a5 a6 a7 a8 a9 = kr (v a0 a1 a2 a3 a4 a5 a6 a7 a8 a9) := by
 first | rfl | (unfold b v; simp only [Bool.cond_eq_ite]; (repeat' split) <;> rfl)
end U56

namespace U28
def r4 (N : Nat) (g k0 k1 : F_rrbi R) (a d : Row) (e : Bool) (f : Int) : Option R := bif decide (f < (a.length : Int)) then bif decide (0 <= f) && decide (f < (a.length : Int)) then bif decide (0 <= f) && decide (f < (d.length : Int)) then bif !U56.v (cvS (cellAt a f.toNat 0)) (cvS (cellAt a f.toNat 1)) (cvI (cellAt a f.toNat (1 + 1))) (cvI (cellAt a f.toNat (1 + 1 + 1))) (cvI (cellAt a f.toNat (1 + 1 + 1 + 1))) (cvS (cellAt d f.toNat 0)) (cvS (cellAt d f.toNat 1)) (cvI (cellAt d f.toNat (1 + 1))) (cvI (cellAt d f.toNat (1 + 1 + 1))) (cvI (cellAt d f.toNat (1 + 1 + 1 + 1))) then k0 a d false f else g a d e (w64 (f + 1)) else none else none else k1 a d e f
def l4 (N : Nat) (k0 k1 : F_rrbi R) : Nat -> F_rrbi R
 | 0 => fun _ _ _ _ => none
 | n + 1 => r4 N (l4 N k0 k1 n) k0 k1
def b (N : Nat) (kr : Bool -> Option R) (a d : Row) : Option R := bif (a.length : Int) != (d.length : Int) then kr false else l4 N (fun _ _ e _ => kr e) (fun _ _ _ _ => kr true) N a d false 0
def vo := b Lib.big fun r0 => some r0
def c := fun a d => (vo a d).isSome
def v := fun a d => (vo a d).getD false
theorem out {x} : ∀ a d, vo a d = some x -> c a d = true /\ v a d = x := fun _ _ => Lib.out_
end U28

namespace U57
def b (kr : Bool -> Option R) (a : Int) (d : ByteArray) (e f h : Int) (i : ByteArray) (j l : Int) (m : ByteArray) (o p q : Int) (r : ByteArray) (s : Int) : Option R := bif a != l then kr false else bif !List.beq (ByteArray.toList d) (ByteArray.toList m) then kr false else bif e != o then kr false else bif f != p then kr false else bif h != q then kr false else bif !List.beq (ByteArray.toList i) (ByteArray.toList r) then kr false else bif j != s then kr false else kr true
def v (a0 : Int) (a1 : ByteArray) (a2 a3 a4 : Int) (a5 : ByteArray) (a6 a7 : Int) (a8 : ByteArray) (a9 a10 a11 : Int) (a12 : ByteArray) (a13 : Int) : Bool := bif a0 != a7 then false else bif !List.beq (ByteArray.toList a1) (ByteArray.toList a8) then false else bif a2 != a9 then false else bif a3 != a10 then false else bif a4 != a11 then false else bif !List.beq (ByteArray.toList a5) (ByteArray.toList a12) then false else bif a6 != a13 then false else true
theorem b_eq (kr : Bool -> Option R) (a0 : Int) (a1 : ByteArray) (a2 a3 a4 : Int) (a5 : ByteArray) (a6 a7 : Int) (a8 : ByteArray) (a9 a10 a11 : Int) (a12 : ByteArray) (a13 : Int) : b kr a0 a1 a2 a3 a4 a5 a6 a7 a8 a9 a10 a11 a12 a13 = kr (v a0 a1 a2 a3 a4 a5 a6 a7 a8 a9 a10 a11 a12 a13) := by
 first | rfl | (unfold b v; simp only [Bool.cond_eq_ite]; (repeat' split) <;> rfl)
end U57

namespace U29
def r4 (N : Nat) (g k0 k1 : F_rrbi R) (a d : Row) (e : Bool) (f : Int) : Option R := bif decide (f < (a.length : Int)) then bif decide (0 <= f) && decide (f < (a.length : Int)) then bif decide (0 <= f) && decide (f < (d.length : Int)) then bif !U57.v (cvI (cellAt a f.toNat 0)) (cvS (cellAt a f.toNat 1)) (cvI (cellAt a f.toNat (1 + 1))) (cvI (cellAt a f.toNat (1 + 1 + 1))) (cvI (cellAt a f.toNat (1 + 1 + 1 + 1))) (cvS (cellAt a f.toNat (1 + 1 + 1 + 1 + 1))) (cvI (cellAt a f.toNat (1 + 1 + 1 + 1 + 1 + 1))) (cvI (cellAt d f.toNat 0)) (cvS (cellAt d f.toNat 1)) (cvI (cellAt d f.toNat (1 + 1))) (cvI (cellAt d f.toNat (1 + 1 + 1))) (cvI (cellAt d f.toNat (1 + 1 + 1 + 1))) (cvS (cellAt d f.toNat (1 + 1 + 1 + 1 + 1))) (cvI (cellAt d f.toNat (1 + 1 + 1 + 1 + 1 + 1))) then k0 a d false f else g a d e (w64 (f + 1)) else none else none else k1 a d e f
def l4 (N : Nat) (k0 k1 : F_rrbi R) : Nat -> F_rrbi R
 | 0 => fun _ _ _ _ => none
 | n + 1 => r4 N (l4 N k0 k1 n) k0 k1
def b (N : Nat) (kr : Bool -> Option R) (a d : Row) : Option R := bif (a.length : Int) != (d.length : Int) then kr false else l4 N (fun _ _ e _ => kr e) (fun _ _ _ _ => kr true) N a d false 0
def vo := b Lib.big fun r0 => some r0
def c := fun a d => (vo a d).isSome
def v := fun a d => (vo a d).getD false
theorem out {x} : ∀ a d, vo a d = some x -> c a d = true /\ v a d = x := fun _ _ => Lib.out_
end U29

namespace U9
def b (kr : Bool -> Option R) (a : Int) (d e f h : Row) (i : Int) (j l : Row) (m o : Int) (p q r s : Row) (t : Int) (u w : Row) (y : Int) : Option R := bif a != o then kr false else bif U26.c d p then bif !U26.v d p then kr false else bif U27.c e f h i q r s t then bif !U27.v e f h i q r s t then kr false else bif U28.c j u then bif !U28.v j u then kr false else bif U29.c l w then bif !U29.v l w then kr false else bif m != y then kr false else kr true else none else none else none else none
def vo := b fun r0 => some r0
def c := fun a d e f h i j l m o p q r s t u w y => (vo a d e f h i j l m o p q r s t u w y).isSome
def v := fun a d e f h i j l m o p q r s t u w y => (vo a d e f h i j l m o p q r s t u w y).getD false
theorem out {x} : ∀ a d e f h i j l m o p q r s t u w y, vo a d e f h i j l m o p q r s t u w y = some x -> c a d e f h i j l m o p q r s t u w y = true /\ v a d e f h i j l m o p q r s t u w y = x := fun _ _ _ _ _ _ _ _ _ _ _ _ _ _ _ _ _ _ => Lib.out_
end U9

namespace U3
def b (kr : Bool -> Option R) (a : Int) (d e f h : Row) (i : Int) (j l : Row) (m : Int) : Option R := bif U5.c a d e f h i j l m 1048576 then Lib.lt (U5.v a d e f h i j l m 1048576) fun o => bif decide (o < 0) then kr true else bif U7.c a d e f h i j l m then Lib.lt (U7.v a d e f h i j l m) fun p => bif U6.c p.1 p.2.1 p.2.2.1 p.2.2.2.1 p.2.2.2.2.1 p.2.2.2.2.2.1 p.2.2.2.2.2.2.1 p.2.2.2.2.2.2.2.1 p.2.2.2.2.2.2.2.2 then Lib.lt (U6.v p.1 p.2.1 p.2.2.1 p.2.2.2.1 p.2.2.2.2.1 p.2.2.2.2.2.1 p.2.2.2.2.2.2.1 p.2.2.2.2.2.2.2.1 p.2.2.2.2.2.2.2.2) fun q => bif U7.c a d e f h i j l m then bif U8.c p.1 p.2.1 p.2.2.1 p.2.2.2.1 p.2.2.2.2.1 p.2.2.2.2.2.1 p.2.2.2.2.2.2.1 p.2.2.2.2.2.2.2.1 p.2.2.2.2.2.2.2.2 then Lib.lt (U8.v p.1 p.2.1 p.2.2.1 p.2.2.2.1 p.2.2.2.2.1 p.2.2.2.2.2.1 p.2.2.2.2.2.2.1 p.2.2.2.2.2.2.2.1 p.2.2.2.2.2.2.2.2) fun r => bif !List.beq (ByteArray.toList r) (ByteArray.toList q) then kr false else bif U7.c a d e f h i j l m then bif U9.c p.1 p.2.1 p.2.2.1 p.2.2.2.1 p.2.2.2.2.1 p.2.2.2.2.2.1 p.2.2.2.2.2.2.1 p.2.2.2.2.2.2.2.1 p.2.2.2.2.2.2.2.2 p.1 p.2.1 p.2.2.1 p.2.2.2.1 p.2.2.2.2.1 p.2.2.2.2.2.1 p.2.2.2.2.2.2.1 p.2.2.2.2.2.2.2.1 p.2.2.2.2.2.2.2.2 then Lib.lt (U9.v p.1 p.2.1 p.2.2.1 p.2.2.2.1 p.2.2.2.2.1 p.2.2.2.2.2.1 p.2.2.2.2.2.2.1 p.2.2.2.2.2.2.2.1 p.2.2.2.2.2.2.2.2 p.1 p.2.1 p.2.2.1 p.2.2.2.1 p.2.2.2.2.1 p.2.2.2.2.2.1 p.2.2.2.2.2.2.1 p.2.2.2.2.2.2.2.1 p.2.2.2.2.2.2.2.2) fun s => bif !s then kr false else kr true else none else none else none else none else none else none else none
def vo := b fun r0 => some r0
def c := fun a d e f h i j l m => (vo a d e f h i j l m).isSome
def v := fun a d e f h i j l m => (vo a d e f h i j l m).getD false
theorem out {x} : ∀ a d e f h i j l m, vo a d e f h i j l m = some x -> c a d e f h i j l m = true /\ v a d e f h i j l m = x := fun _ _ _ _ _ _ _ _ _ => Lib.out_
end U3

end Go.FG
