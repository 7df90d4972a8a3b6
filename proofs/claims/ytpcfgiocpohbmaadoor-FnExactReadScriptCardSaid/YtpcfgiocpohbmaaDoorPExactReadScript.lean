/- Functions of the program, told as functions of numbers, texts and lists, and what each comes to. No condition but those that each states. -/
import Derived.Test.YtpcfgiocpohbmaaDoorLib
set_option linter.unusedVariables false
set_option linter.unusedSimpArgs false
set_option maxRecDepth 100000
namespace Go.FG
variable {R : Type}
abbrev F_rb (R : Type) := Row -> Bool -> Option R
abbrev F_ib (R : Type) := Int -> Bool -> Option R
abbrev F_ri (R : Type) := Row -> Int -> Option R
abbrev F_is (R : Type) := Int -> ByteArray -> Option R
abbrev F_ir (R : Type) := Int -> Row -> Option R
abbrev F_ibs (R : Type) := Int -> Bool -> ByteArray -> Option R
abbrev F_iir (R : Type) := Int -> F_ir R
abbrev F_siir (R : Type) := ByteArray -> F_iir R
abbrev F_riir (R : Type) := Row -> F_iir R
abbrev F_sbir (R : Type) := ByteArray -> Bool -> F_ir R
abbrev F_rrbi (R : Type) := Row -> Row -> Bool -> Int -> Option R
abbrev F_riii (R : Type) := Row -> Int -> Int -> Int -> Option R
abbrev F_sbiir (R : Type) := ByteArray -> Bool -> F_iir R
abbrev F_sibii (R : Type) := ByteArray -> Int -> Bool -> Int -> Int -> Option R
abbrev F_iirrr (R : Type) := Int -> Int -> Row -> Row -> Row -> Option R
abbrev F_iriir (R : Type) := Int -> F_riir R
abbrev F_sbiirr (R : Type) := ByteArray -> Bool -> Int -> Int -> Row -> Row -> Option R
abbrev F_rbiisi (R : Type) := Row -> Bool -> Int -> Int -> ByteArray -> Int -> Option R
abbrev F_iisirb (R : Type) := Int -> Int -> ByteArray -> Int -> F_rb R
abbrev F_rbiisir (R : Type) := Row -> Bool -> Int -> Int -> ByteArray -> F_ir R
abbrev F_rbiiisirr (R : Type) := Row -> Bool -> Int -> Int -> Int -> ByteArray -> Int -> Row -> Row -> Option R
abbrev F_rbbiiisiiisi (R : Type) := Row -> Bool -> Bool -> Int -> Int -> Int -> ByteArray -> Int -> Int -> Int -> ByteArray -> Int -> Option R
abbrev F_briiiisiiisi (R : Type) := Bool -> Row -> Int -> Int -> Int -> Int -> ByteArray -> Int -> Int -> Int -> ByteArray -> Int -> Option R
abbrev F_rbbiiisiiisir (R : Type) := Row -> Bool -> Bool -> Int -> Int -> Int -> ByteArray -> Int -> Int -> Int -> ByteArray -> F_ir R
abbrev F_briiiisiiisir (R : Type) := Bool -> Row -> Int -> Int -> Int -> Int -> ByteArray -> Int -> Int -> Int -> ByteArray -> F_ir R
abbrev F_bsriiiisiiisi (R : Type) := Bool -> ByteArray -> Row -> Int -> Int -> Int -> Int -> ByteArray -> Int -> Int -> Int -> ByteArray -> Int -> Option R

namespace U30
def r4 (N : Nat) (g k0 : F_siir R) (a : ByteArray) (d e : Int) (f : Row) : Option R := bif decide (e < (a.size : Int)) then bif decide (0 <= e) && decide (e < (a.size : Int)) then bif decide ((↑(btN a e.toNat) : Int) = 10) then bif inB d e (a.size : Int) then bif roomy (f.length + (List.set (zeros [.s] 1) 0 [.s (ByteArray.extract a d.toNat e.toNat)]).length) 16 then g a (w64 (e + 1)) (w64 (e + 1)) (f ++ List.set (zeros [.s] 1) 0 [.s (ByteArray.extract a d.toNat e.toNat)]) else none else none else g a d (w64 (e + 1)) f else none else k0 a d e f
def l4 (N : Nat) (k0 : F_siir R) : Nat -> F_siir R
 | 0 => fun _ _ _ _ => none
 | n + 1 => r4 N (l4 N k0 n) k0
def b (N : Nat) (kr : Row -> Option R) (a : ByteArray) : Option R := l4 N (fun d e _ f => bif decide (e < (d.size : Int)) then bif inB e (d.size : Int) (d.size : Int) then bif roomy (f.length + (List.set (zeros [.s] 1) 0 [.s (ByteArray.extract d e.toNat (d.size : Int).toNat)]).length) 16 then kr (f ++ List.set (zeros [.s] 1) 0 [.s (ByteArray.extract d e.toNat (d.size : Int).toNat)]) else none else none else kr f) N a 0 0 (zeros [.s] 0)
def vo := b Lib.big fun r0 => some r0
def c := fun a => (vo a).isSome
def v := fun a => (vo a).getD ([])
theorem out {x} : ∀ a, vo a = some x -> c a = true /\ v a = x := fun _ => Lib.out_
end U30

namespace U31
def r6 (N : Nat) (g : F_sbiir R) (k0 : F_sbiirr R) (k1 : F_sbiir R) (a : ByteArray) (d : Bool) (e f : Int) (h : Row) : Option R := bif decide (f <= (a.size : Int)) then bif decide (f < (a.size : Int)) then bif decide (0 <= f) && decide (f < (a.size : Int)) then bif decide ((↑(btN a f.toNat) : Int) < 32) then k0 a false e f (zeros [.s] 0) h else bif decide (0 <= f) && decide (f < (a.size : Int)) then bif decide ((↑(btN a f.toNat) : Int) > 126) then k0 a false e f (zeros [.s] 0) h else bif decide (f < (a.size : Int)) then bif decide (0 <= f) && decide (f < (a.size : Int)) then bif (↑(btN a f.toNat) : Int) != 32 then g a d e (w64 (f + 1)) h else bif decide (e < f) then bif inB e f (a.size : Int) then bif roomy (h.length + (List.set (zeros [.s] 1) 0 [.s (ByteArray.extract a e.toNat f.toNat)]).length) 16 then g a d (w64 (f + 1)) (w64 (f + 1)) (h ++ List.set (zeros [.s] 1) 0 [.s (ByteArray.extract a e.toNat f.toNat)]) else none else none else g a d (w64 (f + 1)) (w64 (f + 1)) h else none else bif decide (e < f) then bif inB e f (a.size : Int) then bif roomy (h.length + (List.set (zeros [.s] 1) 0 [.s (ByteArray.extract a e.toNat f.toNat)]).length) 16 then g a d (w64 (f + 1)) (w64 (f + 1)) (h ++ List.set (zeros [.s] 1) 0 [.s (ByteArray.extract a e.toNat f.toNat)]) else none else none else g a d (w64 (f + 1)) (w64 (f + 1)) h else none else none else bif decide (f < (a.size : Int)) then bif decide (0 <= f) && decide (f < (a.size : Int)) then bif (↑(btN a f.toNat) : Int) != 32 then g a d e (w64 (f + 1)) h else bif decide (e < f) then bif inB e f (a.size : Int) then bif roomy (h.length + (List.set (zeros [.s] 1) 0 [.s (ByteArray.extract a e.toNat f.toNat)]).length) 16 then g a d (w64 (f + 1)) (w64 (f + 1)) (h ++ List.set (zeros [.s] 1) 0 [.s (ByteArray.extract a e.toNat f.toNat)]) else none else none else g a d (w64 (f + 1)) (w64 (f + 1)) h else none else bif decide (e < f) then bif inB e f (a.size : Int) then bif roomy (h.length + (List.set (zeros [.s] 1) 0 [.s (ByteArray.extract a e.toNat f.toNat)]).length) 16 then g a d (w64 (f + 1)) (w64 (f + 1)) (h ++ List.set (zeros [.s] 1) 0 [.s (ByteArray.extract a e.toNat f.toNat)]) else none else none else g a d (w64 (f + 1)) (w64 (f + 1)) h else k1 a d e f h
def l6 (N : Nat) (k0 : F_sbiirr R) (k1 : F_sbiir R) : Nat -> F_sbiir R
 | 0 => fun _ _ _ _ _ => none
 | n + 1 => r6 N (l6 N k0 k1 n) k0 k1
def b (N : Nat) (kr : F_rb R) (a : ByteArray) : Option R := bif decide ((a.size : Int) > 600) then kr (zeros [.s] 0) false else l6 N (fun _ d _ _ e _ => kr e d) (fun _ _ _ _ d => bif decide ((d.length : Int) > 10) then kr (zeros [.s] 0) false else kr d true) N a false 0 0 (zeros [.s] 0)
def vo := b Lib.big fun r0 r1 => some (r0, r1)
def c := fun a => (vo a).isSome
def v := fun a => (vo a).getD ([], false)
theorem out {x} : ∀ a, vo a = some x -> c a = true /\ v a = x := fun _ => Lib.out_
end U31

namespace U68
def b (kr : Int -> Option R) (a : Int) : Option R := bif decide (a < 10) then kr (IntKind.wrap IntKind.u8 (w64 (48 + a))) else kr (IntKind.wrap IntKind.u8 (w64 (w64 (97 + a) - 10)))
def v (a0 : Int) : Int := bif decide (a0 < 10) then IntKind.wrap IntKind.u8 (w64 (48 + a0)) else IntKind.wrap IntKind.u8 (w64 (w64 (97 + a0) - 10))
theorem b_eq (kr : Int -> Option R) (a0 : Int) : b kr a0 = kr (v a0) := by
 first | rfl | (unfold b v; simp only [Bool.cond_eq_ite]; (repeat' split) <;> rfl)
end U68

namespace U46
def r5 (N : Nat) (g k0 : F_ibs R) (a : Int) (d : Bool) (e : ByteArray) : Option R := bif a != 0 then bif decide (Int.tmod a 10 < 0) then bif decide ((bytesOf (List.set (zeros [Ck.i IntKind.u8] 1) 0 [CV.i IntKind.u8 (U68.v (w64 (0 - Int.tmod a 10)))])).size + e.size <= 4611686018427387904) then g (w64 (Int.tdiv a 10)) d (bytesOf (List.set (zeros [Ck.i IntKind.u8] 1) 0 [CV.i IntKind.u8 (U68.v (w64 (0 - Int.tmod a 10)))]) ++ e) else none else bif decide ((bytesOf (List.set (zeros [Ck.i IntKind.u8] 1) 0 [CV.i IntKind.u8 (U68.v (Int.tmod a 10))])).size + e.size <= 4611686018427387904) then g (w64 (Int.tdiv a 10)) d (bytesOf (List.set (zeros [Ck.i IntKind.u8] 1) 0 [CV.i IntKind.u8 (U68.v (Int.tmod a 10))]) ++ e) else none else k0 a d e
def l5 (N : Nat) (k0 : F_ibs R) : Nat -> F_ibs R
 | 0 => fun _ _ _ => none
 | n + 1 => r5 N (l5 N k0 n) k0
def b (N : Nat) (kr : ByteArray -> Option R) (a : Int) : Option R := bif decide (a = 0) then kr ({ data := #[UInt8.ofNat 48] }) else l5 N (fun _ d e => bif d then bif decide (ByteArray.size { data := #[UInt8.ofNat 45] } + e.size <= 4611686018427387904) then kr ({ data := #[UInt8.ofNat 45] } ++ e) else none else kr e) N a (decide (a < 0)) ⟨#[]⟩
def vo := b Lib.big fun r0 => some r0
def c := fun a => (vo a).isSome
def v := fun a => (vo a).getD (⟨#[]⟩)
theorem out {x} : ∀ a, vo a = some x -> c a = true /\ v a = x := fun _ => Lib.out_
end U46

namespace U58
def r5 (N : Nat) (g k0 k1 : F_sibii R) (a : ByteArray) (d : Int) (e : Bool) (f h : Int) : Option R := bif decide (h < (a.size : Int)) then bif decide (0 <= h) && decide (h < (a.size : Int)) then bif decide ((↑(btN a h.toNat) : Int) < 48) then k0 a 0 false f h else bif decide (0 <= h) && decide (h < (a.size : Int)) then bif decide ((↑(btN a h.toNat) : Int) > 57) then k0 a 0 false f h else bif decide (0 <= h) && decide (h < (a.size : Int)) then g a d e (w64 (w64 (w64 (10 * f) + w64 (↑(btN a h.toNat) : Int)) - 48)) (w64 (h + 1)) else none else none else none else k1 a d e f h
def l5 (N : Nat) (k0 k1 : F_sibii R) : Nat -> F_sibii R
 | 0 => fun _ _ _ _ _ => none
 | n + 1 => r5 N (l5 N k0 k1 n) k0 k1
def b (N : Nat) (kr : F_ib R) (a : ByteArray) : Option R := bif decide ((a.size : Int) > 10) then kr 0 false else l5 N (fun _ d e _ _ => kr d e) (fun d _ _ e _ => bif decide (e > 1000000000) then kr 0 false else bif U46.c e then bif !List.beq (U46.v e).toList (ByteArray.toList d) then kr 0 false else kr e true else none) N a 0 false 0 0
def vo := b Lib.big fun r0 r1 => some (r0, r1)
def c := fun a => (vo a).isSome
def v := fun a => (vo a).getD (0, false)
theorem out {x} : ∀ a, vo a = some x -> c a = true /\ v a = x := fun _ => Lib.out_
end U58

namespace U32
def r13 (N : Nat) (g : F_rbbiiisiiisi R) (g1 : F_rbbiiisiiisir R) (k0 : F_rbbiiisiiisi R) (k1 : F_rbbiiisiiisir R) (a : Row) (d e : Bool) (f h i : Int) (j : ByteArray) (l m o : Int) (p : ByteArray) (q : Int) : Option R := bif decide (f < (a.length : Int)) then bif d then bif decide (0 <= f) && decide (f < (a.length : Int)) then bif U58.c (cvS (cellAt a f.toNat 0)) then g1 a (U58.v (cvS (cellAt a f.toNat 0))).2 e (w64 (f + 1)) h i j l m o p q ([] ++ List.set (zeros [Ck.i IntKind.i64] 1) 0 [.i .i64 (U58.v (cvS (cellAt a f.toNat 0))).1]) else none else none else k0 a d e f h i j l m o p q else k0 a d e f h i j l m o p q
def r13a (N : Nat) (g : F_rbbiiisiiisi R) (g1 : F_rbbiiisiiisir R) (k0 : F_rbbiiisiiisi R) (k1 : F_rbbiiisiiisir R) (a : Row) (d e : Bool) (f h i : Int) (j : ByteArray) (l m o : Int) (p : ByteArray) (q : Int) (r : Row) : Option R := bif decide (f < (a.length : Int)) then bif d then bif decide (0 <= f) && decide (f < (a.length : Int)) then bif U58.c (cvS (cellAt a f.toNat 0)) then bif roomy (r.length + (List.set (zeros [Ck.i IntKind.i64] 1) 0 [.i .i64 (U58.v (cvS (cellAt a f.toNat 0))).1]).length) 8 then g1 a (U58.v (cvS (cellAt a f.toNat 0))).2 e (w64 (f + 1)) h i j l m o p q (r ++ List.set (zeros [Ck.i IntKind.i64] 1) 0 [.i .i64 (U58.v (cvS (cellAt a f.toNat 0))).1]) else none else none else none else k1 a d e f h i j l m o p q r else k1 a d e f h i j l m o p q r
def l13a (N : Nat) (k0 : F_rbbiiisiiisi R) (k1 : F_rbbiiisiiisir R) : Nat -> F_rbbiiisiiisir R
 | 0 => fun _ _ _ _ _ _ _ _ _ _ _ _ _ => none
 | n + 1 => r13a N (fun x9 x10 x11 x12 x13 x14 x15 x16 x17 x18 x19 x20 => none) (l13a N k0 k1 n) k0 k1
def l13 (N : Nat) (k0 : F_rbbiiisiiisi R) (k1 : F_rbbiiisiiisir R) : Nat -> F_rbbiiisiiisi R
 | 0 => fun _ _ _ _ _ _ _ _ _ _ _ _ => none
 | n + 1 => r13 N (l13 N k0 k1 n) (l13a N k0 k1 n) k0 k1
def r4 (N : Nat) (g k0 : F_rbiiisirr R) (k1 : F_rbiisi R) (k2 : F_rbiisir R) (k3 : F_rbiiisirr R) (a : Row) (d : Bool) (e f h : Int) (i : ByteArray) (j : Int) (l m : Row) : Option R := bif decide (e < (l.length : Int)) then bif decide (0 < (a.length : Int)) then bif decide (0 <= e) && decide (e < (l.length : Int)) then bif !List.beq (cvS (cellAt a (Int.toNat 0) 0)).toList (cvS (cellAt l e.toNat 0)).toList then g a d (w64 (e + 1)) f h i j l m else bif decide (0 <= e) && decide (e < (m.length : Int)) then bif decide (cvI (cellAt m e.toNat 0) > 0) then bif decide (0 <= e) && decide (e < (m.length : Int)) then bif (a.length : Int) != cvI (cellAt m e.toNat 0) then g a d (w64 (e + 1)) f h i j l m else bif decide (w64 (e + 1) = 1) then bif decide (1 < (a.length : Int)) then bif U58.c (cvS (cellAt a (Int.toNat 1) 0)) then bif decide (2 < (a.length : Int)) then bif (U58.v (cvS (cellAt a (Int.toNat 1) 0))).2 then k0 a true e (w64 (e + 1)) (U58.v (cvS (cellAt a (Int.toNat 1) 0))).1 (cvS (cellAt a (Int.toNat 2) 0)) 0 l m else k0 a false e (w64 (e + 1)) (U58.v (cvS (cellAt a (Int.toNat 1) 0))).1 (cvS (cellAt a (Int.toNat 2) 0)) 0 l m else none else none else none else bif decide (w64 (e + 1) = 2) then bif decide (1 < (a.length : Int)) then bif U58.c (cvS (cellAt a (Int.toNat 1) 0)) then bif decide (2 < (a.length : Int)) then bif (U58.v (cvS (cellAt a (Int.toNat 1) 0))).2 then k0 a true e (w64 (e + 1)) (U58.v (cvS (cellAt a (Int.toNat 1) 0))).1 (cvS (cellAt a (Int.toNat 2) 0)) 0 l m else k0 a false e (w64 (e + 1)) (U58.v (cvS (cellAt a (Int.toNat 1) 0))).1 (cvS (cellAt a (Int.toNat 2) 0)) 0 l m else none else none else none else bif decide (w64 (e + 1) = 3) then bif decide (1 < (a.length : Int)) then bif U58.c (cvS (cellAt a (Int.toNat 1) 0)) then bif decide (2 < (a.length : Int)) then bif U58.c (cvS (cellAt a (Int.toNat 2) 0)) then bif (U58.v (cvS (cellAt a (Int.toNat 1) 0))).2 then k0 a (U58.v (cvS (cellAt a (Int.toNat 2) 0))).2 e (w64 (e + 1)) (U58.v (cvS (cellAt a (Int.toNat 1) 0))).1 ⟨#[]⟩ (U58.v (cvS (cellAt a (Int.toNat 2) 0))).1 l m else k0 a false e (w64 (e + 1)) (U58.v (cvS (cellAt a (Int.toNat 1) 0))).1 ⟨#[]⟩ (U58.v (cvS (cellAt a (Int.toNat 2) 0))).1 l m else none else none else none else none else bif decide (w64 (e + 1) = 4) then bif decide (1 < (a.length : Int)) then bif U58.c (cvS (cellAt a (Int.toNat 1) 0)) then bif (U58.v (cvS (cellAt a (Int.toNat 1) 0))).2 then k0 a true e (w64 (e + 1)) (U58.v (cvS (cellAt a (Int.toNat 1) 0))).1 ⟨#[]⟩ 0 l m else k0 a false e (w64 (e + 1)) (U58.v (cvS (cellAt a (Int.toNat 1) 0))).1 ⟨#[]⟩ 0 l m else none else none else bif decide (w64 (e + 1) = 6) then bif decide (1 < (a.length : Int)) then bif U58.c (cvS (cellAt a (Int.toNat 1) 0)) then bif (U58.v (cvS (cellAt a (Int.toNat 1) 0))).2 then k0 a true e (w64 (e + 1)) (U58.v (cvS (cellAt a (Int.toNat 1) 0))).1 ⟨#[]⟩ 0 l m else k0 a false e (w64 (e + 1)) (U58.v (cvS (cellAt a (Int.toNat 1) 0))).1 ⟨#[]⟩ 0 l m else none else none else bif decide (w64 (e + 1) = 5) then bif decide (1 < (a.length : Int)) then bif U58.c (cvS (cellAt a (Int.toNat 1) 0)) then bif (U58.v (cvS (cellAt a (Int.toNat 1) 0))).2 then k0 a true e (w64 (e + 1)) 0 ⟨#[]⟩ (U58.v (cvS (cellAt a (Int.toNat 1) 0))).1 l m else k0 a false e (w64 (e + 1)) 0 ⟨#[]⟩ (U58.v (cvS (cellAt a (Int.toNat 1) 0))).1 l m else none else none else l13 N (fun o p q _ _ _ _ _ r s t u => bif p then k1 o q r s t u else k1 o false r s t u) (fun o p q _ _ _ _ _ r s t u w => bif p then k2 o q r s t u w else k2 o false r s t u w) N a true true 1 f h i j (w64 (e + 1)) 0 ⟨#[]⟩ 0 else none else bif decide (w64 (e + 1) = 1) then bif decide (1 < (a.length : Int)) then bif U58.c (cvS (cellAt a (Int.toNat 1) 0)) then bif decide (2 < (a.length : Int)) then bif (U58.v (cvS (cellAt a (Int.toNat 1) 0))).2 then k0 a true e (w64 (e + 1)) (U58.v (cvS (cellAt a (Int.toNat 1) 0))).1 (cvS (cellAt a (Int.toNat 2) 0)) 0 l m else k0 a false e (w64 (e + 1)) (U58.v (cvS (cellAt a (Int.toNat 1) 0))).1 (cvS (cellAt a (Int.toNat 2) 0)) 0 l m else none else none else none else bif decide (w64 (e + 1) = 2) then bif decide (1 < (a.length : Int)) then bif U58.c (cvS (cellAt a (Int.toNat 1) 0)) then bif decide (2 < (a.length : Int)) then bif (U58.v (cvS (cellAt a (Int.toNat 1) 0))).2 then k0 a true e (w64 (e + 1)) (U58.v (cvS (cellAt a (Int.toNat 1) 0))).1 (cvS (cellAt a (Int.toNat 2) 0)) 0 l m else k0 a false e (w64 (e + 1)) (U58.v (cvS (cellAt a (Int.toNat 1) 0))).1 (cvS (cellAt a (Int.toNat 2) 0)) 0 l m else none else none else none else bif decide (w64 (e + 1) = 3) then bif decide (1 < (a.length : Int)) then bif U58.c (cvS (cellAt a (Int.toNat 1) 0)) then bif decide (2 < (a.length : Int)) then bif U58.c (cvS (cellAt a (Int.toNat 2) 0)) then bif (U58.v (cvS (cellAt a (Int.toNat 1) 0))).2 then k0 a (U58.v (cvS (cellAt a (Int.toNat 2) 0))).2 e (w64 (e + 1)) (U58.v (cvS (cellAt a (Int.toNat 1) 0))).1 ⟨#[]⟩ (U58.v (cvS (cellAt a (Int.toNat 2) 0))).1 l m else k0 a false e (w64 (e + 1)) (U58.v (cvS (cellAt a (Int.toNat 1) 0))).1 ⟨#[]⟩ (U58.v (cvS (cellAt a (Int.toNat 2) 0))).1 l m else none else none else none else none else bif decide (w64 (e + 1) = 4) then bif decide (1 < (a.length : Int)) then bif U58.c (cvS (cellAt a (Int.toNat 1) 0)) then bif (U58.v (cvS (cellAt a (Int.toNat 1) 0))).2 then k0 a true e (w64 (e + 1)) (U58.v (cvS (cellAt a (Int.toNat 1) 0))).1 ⟨#[]⟩ 0 l m else k0 a false e (w64 (e + 1)) (U58.v (cvS (cellAt a (Int.toNat 1) 0))).1 ⟨#[]⟩ 0 l m else none else none else bif decide (w64 (e + 1) = 6) then bif decide (1 < (a.length : Int)) then bif U58.c (cvS (cellAt a (Int.toNat 1) 0)) then bif (U58.v (cvS (cellAt a (Int.toNat 1) 0))).2 then k0 a true e (w64 (e + 1)) (U58.v (cvS (cellAt a (Int.toNat 1) 0))).1 ⟨#[]⟩ 0 l m else k0 a false e (w64 (e + 1)) (U58.v (cvS (cellAt a (Int.toNat 1) 0))).1 ⟨#[]⟩ 0 l m else none else none else bif decide (w64 (e + 1) = 5) then bif decide (1 < (a.length : Int)) then bif U58.c (cvS (cellAt a (Int.toNat 1) 0)) then bif (U58.v (cvS (cellAt a (Int.toNat 1) 0))).2 then k0 a true e (w64 (e + 1)) 0 ⟨#[]⟩ (U58.v (cvS (cellAt a (Int.toNat 1) 0))).1 l m else k0 a false e (w64 (e + 1)) 0 ⟨#[]⟩ (U58.v (cvS (cellAt a (Int.toNat 1) 0))).1 l m else none else none else l13 N (fun o p q _ _ _ _ _ r s t u => bif p then k1 o q r s t u else k1 o false r s t u) (fun o p q _ _ _ _ _ r s t u w => bif p then k2 o q r s t u w else k2 o false r s t u w) N a true true 1 f h i j (w64 (e + 1)) 0 ⟨#[]⟩ 0 else none else none else none else k3 a d e f h i j l m
def l4 (N : Nat) (k0 : F_rbiiisirr R) (k1 : F_rbiisi R) (k2 : F_rbiisir R) (k3 : F_rbiiisirr R) : Nat -> F_rbiiisirr R
 | 0 => fun _ _ _ _ _ _ _ _ _ => none
 | n + 1 => r4 N (l4 N k0 k1 k2 k3 n) k0 k1 k2 k3
def b (N : Nat) (kr : F_iisirb R) (a : Row) : Option R := l4 N (fun _ d _ e f h i _ _ => kr e f h i [] d) (fun _ d e f h i => kr e f h i [] d) (fun _ d e f h i j => kr e f h i j d) (fun _ _ _ _ _ _ _ _ _ => kr 0 0 ⟨#[]⟩ 0 [] false) N a false 0 0 0 ⟨#[]⟩ 0 (List.set (List.set (List.set (List.set (List.set (List.set (List.set (zeros [.s] 7) 0 [.s { data := #[UInt8.ofNat 97, UInt8.ofNat 115, UInt8.ofNat 107] }]) 1 [.s { data := #[UInt8.ofNat 112, UInt8.ofNat 97, UInt8.ofNat 114, UInt8.ofNat 116] }]) 2 [.s { data := #[UInt8.ofNat 99, UInt8.ofNat 108, UInt8.ofNat 111, UInt8.ofNat 115, UInt8.ofNat 101] }]) 3 [.s { data := #[UInt8.ofNat 98, UInt8.ofNat 114, UInt8.ofNat 101, UInt8.ofNat 97, UInt8.ofNat 107] }]) 4 [.s { data := #[UInt8.ofNat 112, UInt8.ofNat 97, UInt8.ofNat 115, UInt8.ofNat 115] }]) 5 [.s { data := #[UInt8.ofNat 108, UInt8.ofNat 101, UInt8.ofNat 97, UInt8.ofNat 118, UInt8.ofNat 101] }]) 6 [.s { data := #[UInt8.ofNat 102, UInt8.ofNat 97, UInt8.ofNat 108, UInt8.ofNat 108] }]) (List.set (List.set (List.set (List.set (List.set (List.set (List.set (zeros [Ck.i IntKind.i64] 7) 0 [.i .i64 3]) 1 [.i .i64 3]) 2 [.i .i64 3]) 3 [.i .i64 2]) 4 [.i .i64 2]) 5 [.i .i64 2]) 6 [.i .i64 0])
def vo := b Lib.big fun r0 r1 r2 r3 r4 r5 => some (r0, r1, r2, r3, r4, r5)
def c := fun a => (vo a).isSome
def v := fun a => (vo a).getD (0, 0, ⟨#[]⟩, 0, [], false)
theorem out {x} : ∀ a, vo a = some x -> c a = true /\ v a = x := fun _ => Lib.out_
end U32

namespace U59
def b (kr : Bool -> Option R) (a d e : Int) : Option R := bif decide (a ≥ d) then kr (decide (a <= e)) else kr false
def v (a0 a1 a2 : Int) : Bool := bif decide (a0 ≥ a1) then decide (a0 <= a2) else false
theorem b_eq (kr : Bool -> Option R) (a0 a1 a2 : Int) : b kr a0 a1 a2 = kr (v a0 a1 a2) := by
 first | rfl | (unfold b v; simp only [Bool.cond_eq_ite]; (repeat' split) <;> rfl)
end U59

namespace U33
def b (kr : Bool -> Option R) (a d : Int) (e : ByteArray) (f : Int) (h : Row) : Option R := bif U59.v a 1 7 then bif U59.v d 0 30 then bif decide ((e.size : Int) <= 60) then bif decide (f ≥ 0) then kr (decide ((h.length : Int) <= 4)) else kr false else kr false else kr false else kr false
def v (a0 a1 : Int) (a2 : ByteArray) (a3 : Int) (a4 : Row) : Bool := bif U59.v a0 1 7 then bif U59.v a1 0 30 then bif decide ((a2.size : Int) <= 60) then bif decide (a3 ≥ 0) then decide ((a4.length : Int) <= 4) else false else false else false else false
theorem b_eq (kr : Bool -> Option R) (a0 a1 : Int) (a2 : ByteArray) (a3 : Int) (a4 : Row) : b kr a0 a1 a2 a3 a4 = kr (v a0 a1 a2 a3 a4) := by
 first | rfl | (unfold b v; simp only [Bool.cond_eq_ite]; (repeat' split) <;> rfl)
end U33

namespace U10
def r7 (N : Nat) (g k0 k1 : F_iirrr R) (a d : Int) (e f h : Row) : Option R := bif decide (d < (f.length : Int)) then bif decide (0 <= d) && decide (d < (f.length : Int)) then bif U31.c (cvS (cellAt f d.toNat 0)) then bif (U31.v (cvS (cellAt f d.toNat 0))).2 then bif decide (((U31.v (cvS (cellAt f d.toNat 0))).1.length : Int) = 0) then g a (w64 (d + 1)) e f h else bif decide (0 < ((U31.v (cvS (cellAt f d.toNat 0))).1.length : Int)) then bif decide (0 < ((cvS (cellAt (U31.v (cvS (cellAt f d.toNat 0))).1 (Int.toNat 0) 0)).size : Int)) then bif decide ((↑(btN (cvS (cellAt (U31.v (cvS (cellAt f d.toNat 0))).1 (Int.toNat 0) 0)) (Int.toNat 0)) : Int) = 35) then g a (w64 (d + 1)) e f h else bif !(U31.v (cvS (cellAt f d.toNat 0))).2 then k0 (w64 (d + 1)) d e f h else bif U32.c (U31.v (cvS (cellAt f d.toNat 0))).1 then bif !(U32.v (U31.v (cvS (cellAt f d.toNat 0))).1).2.2.2.2.2 then k0 (w64 (d + 1)) d e f h else bif !U33.v (U32.v (U31.v (cvS (cellAt f d.toNat 0))).1).1 (U32.v (U31.v (cvS (cellAt f d.toNat 0))).1).2.1 (U32.v (U31.v (cvS (cellAt f d.toNat 0))).1).2.2.1 (U32.v (U31.v (cvS (cellAt f d.toNat 0))).1).2.2.2.1 (U32.v (U31.v (cvS (cellAt f d.toNat 0))).1).2.2.2.2.1 then k0 (w64 (d + 1)) d e f h else bif decide ((h.length : Int) = 70) then k0 (w64 (d + 1)) d e f h else bif roomy (h.length + (List.set (zeros [Ck.i IntKind.i64, Ck.i IntKind.i64, Ck.s, Ck.i IntKind.i64, Ck.l 3] 1) 0 [.i .i64 (U32.v (U31.v (cvS (cellAt f d.toNat 0))).1).1, .i .i64 (U32.v (U31.v (cvS (cellAt f d.toNat 0))).1).2.1, .s (U32.v (U31.v (cvS (cellAt f d.toNat 0))).1).2.2.1, .i .i64 (U32.v (U31.v (cvS (cellAt f d.toNat 0))).1).2.2.2.1, CV.l 3 (U32.v (U31.v (cvS (cellAt f d.toNat 0))).1).2.2.2.2.1]).length) 64 then g a (w64 (d + 1)) e f (h ++ List.set (zeros [Ck.i IntKind.i64, Ck.i IntKind.i64, Ck.s, Ck.i IntKind.i64, Ck.l 3] 1) 0 [.i .i64 (U32.v (U31.v (cvS (cellAt f d.toNat 0))).1).1, .i .i64 (U32.v (U31.v (cvS (cellAt f d.toNat 0))).1).2.1, .s (U32.v (U31.v (cvS (cellAt f d.toNat 0))).1).2.2.1, .i .i64 (U32.v (U31.v (cvS (cellAt f d.toNat 0))).1).2.2.2.1, CV.l 3 (U32.v (U31.v (cvS (cellAt f d.toNat 0))).1).2.2.2.2.1]) else none else none else none else none else bif !(U31.v (cvS (cellAt f d.toNat 0))).2 then k0 (w64 (d + 1)) d e f h else bif U32.c (U31.v (cvS (cellAt f d.toNat 0))).1 then bif !(U32.v (U31.v (cvS (cellAt f d.toNat 0))).1).2.2.2.2.2 then k0 (w64 (d + 1)) d e f h else bif !U33.v (U32.v (U31.v (cvS (cellAt f d.toNat 0))).1).1 (U32.v (U31.v (cvS (cellAt f d.toNat 0))).1).2.1 (U32.v (U31.v (cvS (cellAt f d.toNat 0))).1).2.2.1 (U32.v (U31.v (cvS (cellAt f d.toNat 0))).1).2.2.2.1 (U32.v (U31.v (cvS (cellAt f d.toNat 0))).1).2.2.2.2.1 then k0 (w64 (d + 1)) d e f h else bif decide ((h.length : Int) = 70) then k0 (w64 (d + 1)) d e f h else bif roomy (h.length + (List.set (zeros [Ck.i IntKind.i64, Ck.i IntKind.i64, Ck.s, Ck.i IntKind.i64, Ck.l 3] 1) 0 [.i .i64 (U32.v (U31.v (cvS (cellAt f d.toNat 0))).1).1, .i .i64 (U32.v (U31.v (cvS (cellAt f d.toNat 0))).1).2.1, .s (U32.v (U31.v (cvS (cellAt f d.toNat 0))).1).2.2.1, .i .i64 (U32.v (U31.v (cvS (cellAt f d.toNat 0))).1).2.2.2.1, CV.l 3 (U32.v (U31.v (cvS (cellAt f d.toNat 0))).1).2.2.2.2.1]).length) 64 then g a (w64 (d + 1)) e f (h ++ List.set (zeros [Ck.i IntKind.i64, Ck.i IntKind.i64, Ck.s, Ck.i IntKind.i64, Ck.l 3] 1) 0 [.i .i64 (U32.v (U31.v (cvS (cellAt f d.toNat 0))).1).1, .i .i64 (U32.v (U31.v (cvS (cellAt f d.toNat 0))).1).2.1, .s (U32.v (U31.v (cvS (cellAt f d.toNat 0))).1).2.2.1, .i .i64 (U32.v (U31.v (cvS (cellAt f d.toNat 0))).1).2.2.2.1, CV.l 3 (U32.v (U31.v (cvS (cellAt f d.toNat 0))).1).2.2.2.2.1]) else none else none else none else none else k1 a d e f h
def l7 (N : Nat) (k0 k1 : F_iirrr R) : Nat -> F_iirrr R
 | 0 => fun _ _ _ _ _ => none
 | n + 1 => r7 N (l7 N k0 k1 n) k0 k1
def b (N : Nat) (kr : F_ri R) (a : ByteArray) : Option R := bif decide ((a.size : Int) > 3000) then kr (zeros [Ck.i IntKind.i64, Ck.i IntKind.i64, Ck.s, Ck.i IntKind.i64, Ck.l 3] 0) (-1) else bif U30.c a then bif decide (((U30.v a).length : Int) > 90) then kr (zeros [Ck.i IntKind.i64, Ck.i IntKind.i64, Ck.s, Ck.i IntKind.i64, Ck.l 3] 0) (-1) else bif U30.c a then l7 N (fun d _ e _ _ => kr e d) (fun _ _ _ _ d => kr d 0) N 0 0 (zeros [Ck.i IntKind.i64, Ck.i IntKind.i64, Ck.s, Ck.i IntKind.i64, Ck.l 3] 0) (U30.v a) (zeros [Ck.i IntKind.i64, Ck.i IntKind.i64, Ck.s, Ck.i IntKind.i64, Ck.l 3] 0) else none else none
def vo := b Lib.big fun r0 r1 => some (r0, r1)
def c := fun a => (vo a).isSome
def v := fun a => (vo a).getD ([], 0)
theorem out {x} : ∀ a, vo a = some x -> c a = true /\ v a = x := fun _ => Lib.out_
end U10

namespace U34
def c (s t : ByteArray) : Bool := Nat.ble s.size 4000000000 && Nat.beq t.size 1
def v (s t : ByteArray) : Row := (_root_.Go.Lib.splitB t 0 (_root_.Go.Lib.countB s t) s).map fun x => [CV.s x]
end U34

namespace U61
def b (kr : Bool -> Option R) (a d e : Int) : Option R := bif decide (a ≥ d) then kr (decide (a <= e)) else kr false
def v (a0 a1 a2 : Int) : Bool := bif decide (a0 ≥ a1) then decide (a0 <= a2) else false
theorem b_eq (kr : Bool -> Option R) (a0 a1 a2 : Int) : b kr a0 a1 a2 = kr (v a0 a1 a2) := by
 first | rfl | (unfold b v; simp only [Bool.cond_eq_ite]; (repeat' split) <;> rfl)
end U61

namespace U35
def r10 (N : Nat) (g k0 : F_riir R) (a : Row) (d e : Int) (f : Row) : Option R := bif decide (e < d) then bif decide (0 <= e) && decide (e < (a.length : Int)) then bif !List.beq (cvS (cellAt a e.toNat 0)).toList (ByteArray.toList ⟨#[]⟩) then bif roomy (f.length + (List.set (zeros [.s] 1) 0 [.s (cvS (cellAt a e.toNat 0))]).length) 16 then g a d (w64 (e + 1)) (f ++ List.set (zeros [.s] 1) 0 [.s (cvS (cellAt a e.toNat 0))]) else none else g a d (w64 (e + 1)) f else none else k0 a d e f
def l10 (N : Nat) (k0 : F_riir R) : Nat -> F_riir R
 | 0 => fun _ _ _ _ => none
 | n + 1 => r10 N (l10 N k0 n) k0
def r5 (N : Nat) (g k0 k1 : F_sbir R) (a : ByteArray) (d : Bool) (e : Int) (f : Row) : Option R := bif decide (e < (a.size : Int)) then bif decide (0 <= e) && decide (e < (a.size : Int)) then bif !U61.v (w64 (↑(btN a e.toNat) : Int)) 32 126 then k0 a false e f else g a d (w64 (e + 1)) f else none else k1 a d e f
def l5 (N : Nat) (k0 k1 : F_sbir R) : Nat -> F_sbir R
 | 0 => fun _ _ _ _ => none
 | n + 1 => r5 N (l5 N k0 k1 n) k0 k1
def b (N : Nat) (kr : F_rb R) (a : ByteArray) : Option R := bif decide ((a.size : Int) > 600) then kr [] false else l5 N (fun _ d _ _ => kr [] d) (fun d _ _ e => bif U34.c d { data := #[UInt8.ofNat 32] } then l10 N (fun _ _ _ f => bif decide ((f.length : Int) > 10) then kr [] false else kr f true) N (U34.v d { data := #[UInt8.ofNat 32] }) ((U34.v d { data := #[UInt8.ofNat 32] }).length : Int) 0 e else none) N a false 0 (zeros [.s] 0)
def vo := b Lib.big fun r0 r1 => some (r0, r1)
def c := fun a => (vo a).isSome
def v := fun a => (vo a).getD ([], false)
theorem out {x} : ∀ a, vo a = some x -> c a = true /\ v a = x := fun _ => Lib.out_
end U35

namespace U62
def b (kr : F_is R) (a : ByteArray) : Option R := bif List.beq (ByteArray.toList a) (ByteArray.toList { data := #[UInt8.ofNat 97, UInt8.ofNat 115, UInt8.ofNat 107] }) then kr 1 ({ data := #[UInt8.ofNat 105, UInt8.ofNat 116] }) else bif List.beq (ByteArray.toList a) (ByteArray.toList { data := #[UInt8.ofNat 112, UInt8.ofNat 97, UInt8.ofNat 114, UInt8.ofNat 116] }) then kr 2 ({ data := #[UInt8.ofNat 105, UInt8.ofNat 116] }) else bif List.beq (ByteArray.toList a) (ByteArray.toList { data := #[UInt8.ofNat 99, UInt8.ofNat 108, UInt8.ofNat 111, UInt8.ofNat 115, UInt8.ofNat 101] }) then kr 3 ({ data := #[UInt8.ofNat 105, UInt8.ofNat 110] }) else bif List.beq (ByteArray.toList a) (ByteArray.toList { data := #[UInt8.ofNat 98, UInt8.ofNat 114, UInt8.ofNat 101, UInt8.ofNat 97, UInt8.ofNat 107] }) then kr 4 ({ data := #[UInt8.ofNat 105] }) else bif List.beq (ByteArray.toList a) (ByteArray.toList { data := #[UInt8.ofNat 112, UInt8.ofNat 97, UInt8.ofNat 115, UInt8.ofNat 115] }) then kr 5 ({ data := #[UInt8.ofNat 110] }) else bif List.beq (ByteArray.toList a) (ByteArray.toList { data := #[UInt8.ofNat 108, UInt8.ofNat 101, UInt8.ofNat 97, UInt8.ofNat 118, UInt8.ofNat 101] }) then kr 6 ({ data := #[UInt8.ofNat 105] }) else bif List.beq (ByteArray.toList a) (ByteArray.toList { data := #[UInt8.ofNat 102, UInt8.ofNat 97, UInt8.ofNat 108, UInt8.ofNat 108] }) then kr 7 ⟨#[]⟩ else kr 0 ⟨#[]⟩
def v (a0 : ByteArray) : Int × ByteArray := bif List.beq (ByteArray.toList a0) (ByteArray.toList { data := #[UInt8.ofNat 97, UInt8.ofNat 115, UInt8.ofNat 107] }) then (1, { data := #[UInt8.ofNat 105, UInt8.ofNat 116] }) else bif List.beq (ByteArray.toList a0) (ByteArray.toList { data := #[UInt8.ofNat 112, UInt8.ofNat 97, UInt8.ofNat 114, UInt8.ofNat 116] }) then (2, { data := #[UInt8.ofNat 105, UInt8.ofNat 116] }) else bif List.beq (ByteArray.toList a0) (ByteArray.toList { data := #[UInt8.ofNat 99, UInt8.ofNat 108, UInt8.ofNat 111, UInt8.ofNat 115, UInt8.ofNat 101] }) then (3, { data := #[UInt8.ofNat 105, UInt8.ofNat 110] }) else bif List.beq (ByteArray.toList a0) (ByteArray.toList { data := #[UInt8.ofNat 98, UInt8.ofNat 114, UInt8.ofNat 101, UInt8.ofNat 97, UInt8.ofNat 107] }) then (4, { data := #[UInt8.ofNat 105] }) else bif List.beq (ByteArray.toList a0) (ByteArray.toList { data := #[UInt8.ofNat 112, UInt8.ofNat 97, UInt8.ofNat 115, UInt8.ofNat 115] }) then (5, { data := #[UInt8.ofNat 110] }) else bif List.beq (ByteArray.toList a0) (ByteArray.toList { data := #[UInt8.ofNat 108, UInt8.ofNat 101, UInt8.ofNat 97, UInt8.ofNat 118, UInt8.ofNat 101] }) then (6, { data := #[UInt8.ofNat 105] }) else bif List.beq (ByteArray.toList a0) (ByteArray.toList { data := #[UInt8.ofNat 102, UInt8.ofNat 97, UInt8.ofNat 108, UInt8.ofNat 108] }) then (7, { data := #[] }) else (0, { data := #[] })
theorem b_eq (kr : F_is R) (a0 : ByteArray) : b kr a0 = kr ((v a0).1) ((v a0).2) := by
 first | rfl | (unfold b v; simp only [Bool.cond_eq_ite]; (repeat' split) <;> rfl)
end U62

namespace U64
def c (s : ByteArray) : Bool := Nat.ble s.size 140737488355328
def v (s : ByteArray) : Int × Bool :=
 match _root_.Go.Lib.atoiAll s.data.toList with
 | .ok n => bif decide (0 <= n) && decide (n <= 1000000000) && (_root_.Go.Lib.itoa n == s.data.toList) then (n, true) else (0, false)
 | _ => (0, false)
end U64

namespace U65
def b (kr : Bool -> Option R) (a d : Int) (e : ByteArray) (f : Int) (h : Row) : Option R := bif U61.v a 1 7 then bif U61.v d 0 30 then bif decide ((e.size : Int) <= 60) then bif decide (f ≥ 0) then kr (decide ((h.length : Int) <= 4)) else kr false else kr false else kr false else kr false
def v (a0 a1 : Int) (a2 : ByteArray) (a3 : Int) (a4 : Row) : Bool := bif U61.v a0 1 7 then bif U61.v a1 0 30 then bif decide ((a2.size : Int) <= 60) then bif decide (a3 ≥ 0) then decide ((a4.length : Int) <= 4) else false else false else false else false
theorem b_eq (kr : Bool -> Option R) (a0 a1 : Int) (a2 : ByteArray) (a3 : Int) (a4 : Row) : b kr a0 a1 a2 a3 a4 = kr (v a0 a1 a2 a3 a4) := by
 first | rfl | (unfold b v; simp only [Bool.cond_eq_ite]; (repeat' split) <;> rfl)
end U65

namespace U63
def r3 (N : Nat) (g : F_briiiisiiisi R) (g1 : F_briiiisiiisir R) (k0 k1 : F_briiiisiiisi R) (k2 k3 : F_briiiisiiisir R) (a : Bool) (d : Row) (e f h i : Int) (j : ByteArray) (l m o : Int) (p : ByteArray) (q : Int) : Option R := bif decide (f < e) then bif decide (0 <= f) && decide (f < (d.length : Int)) then bif U64.c (cvS (cellAt d f.toNat 0)) then bif !(U64.v (cvS (cellAt d f.toNat 0))).2 then k0 false d e f m o p q m o p q else g1 a d e (w64 (f + 1)) h i j l m o p q ([] ++ List.set (zeros [Ck.i IntKind.i64] 1) 0 [.i .i64 (U64.v (cvS (cellAt d f.toNat 0))).1]) else none else none else k1 a d e f h i j l m o p q
def r3a (N : Nat) (g : F_briiiisiiisi R) (g1 : F_briiiisiiisir R) (k0 k1 : F_briiiisiiisi R) (k2 k3 : F_briiiisiiisir R) (a : Bool) (d : Row) (e f h i : Int) (j : ByteArray) (l m o : Int) (p : ByteArray) (q : Int) (r : Row) : Option R := bif decide (f < e) then bif decide (0 <= f) && decide (f < (d.length : Int)) then bif U64.c (cvS (cellAt d f.toNat 0)) then bif !(U64.v (cvS (cellAt d f.toNat 0))).2 then k2 false d e f m o p q m o p q r else bif roomy (r.length + (List.set (zeros [Ck.i IntKind.i64] 1) 0 [.i .i64 (U64.v (cvS (cellAt d f.toNat 0))).1]).length) 8 then g1 a d e (w64 (f + 1)) h i j l m o p q (r ++ List.set (zeros [Ck.i IntKind.i64] 1) 0 [.i .i64 (U64.v (cvS (cellAt d f.toNat 0))).1]) else none else none else none else k3 a d e f h i j l m o p q r
def l3a (N : Nat) (k0 k1 : F_briiiisiiisi R) (k2 k3 : F_briiiisiiisir R) : Nat -> F_briiiisiiisir R
 | 0 => fun _ _ _ _ _ _ _ _ _ _ _ _ _ => none
 | n + 1 => r3a N (fun x0 x1 x2 x3 x4 x5 x6 x7 x8 x9 x10 x11 => none) (l3a N k0 k1 k2 k3 n) k0 k1 k2 k3
def l3 (N : Nat) (k0 k1 : F_briiiisiiisi R) (k2 k3 : F_briiiisiiisir R) : Nat -> F_briiiisiiisi R
 | 0 => fun _ _ _ _ _ _ _ _ _ _ _ _ => none
 | n + 1 => r3 N (l3 N k0 k1 k2 k3 n) (l3a N k0 k1 k2 k3 n) k0 k1 k2 k3
def b (N : Nat) (kr : F_iisirb R) (a : Row) : Option R := l3 N (fun d _ _ _ e f h i _ _ _ _ => kr e f h i [] d) (fun _ _ _ _ _ _ _ _ d e f h => kr d e f h [] (U65.v d e f h [])) (fun d _ _ _ e f h i _ _ _ _ j => kr e f h i j d) (fun _ _ _ _ _ _ _ _ d e f h i => kr d e f h i (U65.v d e f h i)) N false a (a.length : Int) 0 0 0 ⟨#[]⟩ 0 7 0 ⟨#[]⟩ 0
def vo := b Lib.big fun r0 r1 r2 r3 r4 r5 => some (r0, r1, r2, r3, r4, r5)
def c := fun a => (vo a).isSome
def v := fun a => (vo a).getD (0, 0, ⟨#[]⟩, 0, [], false)
theorem out {x} : ∀ a, vo a = some x -> c a = true /\ v a = x := fun _ => Lib.out_
end U63

namespace U36
def r8 (N : Nat) (g k0 k1 : F_bsriiiisiiisi R) (a : Bool) (d : ByteArray) (e : Row) (f h i j : Int) (l : ByteArray) (m o p : Int) (q : ByteArray) (r : Int) : Option R := bif decide (h < f) then bif decide (0 <= h) && decide (h < (e.length : Int)) then bif U64.c (cvS (cellAt e h.toNat 0)) then bif decide (0 <= h) && decide (h < (d.size : Int)) then bif decide ((↑(btN d h.toNat) : Int) = 105) then bif !(U64.v (cvS (cellAt e h.toNat 0))).2 then k0 false d e f h o (U64.v (cvS (cellAt e h.toNat 0))).1 q r o (U64.v (cvS (cellAt e h.toNat 0))).1 q r else g a d e f (w64 (h + 1)) i j l m o (U64.v (cvS (cellAt e h.toNat 0))).1 q r else bif decide ((↑(btN d h.toNat) : Int) = 110) then bif !(U64.v (cvS (cellAt e h.toNat 0))).2 then k0 false d e f h o p q (U64.v (cvS (cellAt e h.toNat 0))).1 o p q (U64.v (cvS (cellAt e h.toNat 0))).1 else g a d e f (w64 (h + 1)) i j l m o p q (U64.v (cvS (cellAt e h.toNat 0))).1 else g a d e f (w64 (h + 1)) i j l m o p (cvS (cellAt e h.toNat 0)) r else none else none else none else k1 a d e f h i j l m o p q r
def l8 (N : Nat) (k0 k1 : F_bsriiiisiiisi R) : Nat -> F_bsriiiisiiisi R
 | 0 => fun _ _ _ _ _ _ _ _ _ _ _ _ _ => none
 | n + 1 => r8 N (l8 N k0 k1 n) k0 k1
def b (N : Nat) (kr : F_iisirb R) (a : Row) : Option R := bif decide (0 < (a.length : Int)) then bif decide ((U62.v (cvS (cellAt a (Int.toNat 0) 0))).1 = 7) then bif inB 1 (a.length : Int) (a.length : Int) then bif U63.c (view a (Int.toNat 1) (a.length : Int).toNat) then kr (U63.v (view a (Int.toNat 1) (a.length : Int).toNat)).1 (U63.v (view a (Int.toNat 1) (a.length : Int).toNat)).2.1 (U63.v (view a (Int.toNat 1) (a.length : Int).toNat)).2.2.1 (U63.v (view a (Int.toNat 1) (a.length : Int).toNat)).2.2.2.1 (U63.v (view a (Int.toNat 1) (a.length : Int).toNat)).2.2.2.2.1 (U63.v (view a (Int.toNat 1) (a.length : Int).toNat)).2.2.2.2.2 else none else none else bif decide ((U62.v (cvS (cellAt a (Int.toNat 0) 0))).1 = 0) then kr (U62.v (cvS (cellAt a (Int.toNat 0) 0))).1 0 ⟨#[]⟩ 0 [] false else bif (a.length : Int) != w64 (((U62.v (cvS (cellAt a (Int.toNat 0) 0))).2.size : Int) + 1) then kr (U62.v (cvS (cellAt a (Int.toNat 0) 0))).1 0 ⟨#[]⟩ 0 [] false else bif inB 1 (a.length : Int) (a.length : Int) then l8 N (fun d _ _ _ _ e f h i _ _ _ _ => kr e f h i [] d) (fun _ _ _ _ _ _ _ _ _ d e f h => kr d e f h [] (U65.v d e f h [])) N false (U62.v (cvS (cellAt a (Int.toNat 0) 0))).2 (view a (Int.toNat 1) (a.length : Int).toNat) ((view a (Int.toNat 1) (a.length : Int).toNat).length : Int) 0 0 0 ⟨#[]⟩ 0 (U62.v (cvS (cellAt a (Int.toNat 0) 0))).1 0 ⟨#[]⟩ 0 else none else none
def vo := b Lib.big fun r0 r1 r2 r3 r4 r5 => some (r0, r1, r2, r3, r4, r5)
def c := fun a => (vo a).isSome
def v := fun a => (vo a).getD (0, 0, ⟨#[]⟩, 0, [], false)
theorem out {x} : ∀ a, vo a = some x -> c a = true /\ v a = x := fun _ => Lib.out_
end U36

namespace U11
def r8 (N : Nat) (g k0 k1 : F_iriir R) (a : Int) (d : Row) (e f : Int) (h : Row) : Option R := bif decide (f < e) then bif decide (0 <= f) && decide (f < (d.length : Int)) then bif U35.c (cvS (cellAt d f.toNat 0)) then bif (U35.v (cvS (cellAt d f.toNat 0))).2 then bif decide (((U35.v (cvS (cellAt d f.toNat 0))).1.length : Int) = 0) then g a d e (w64 (f + 1)) h else bif decide (0 < ((U35.v (cvS (cellAt d f.toNat 0))).1.length : Int)) then bif decide (0 < ((cvS (cellAt (U35.v (cvS (cellAt d f.toNat 0))).1 (Int.toNat 0) 0)).size : Int)) then bif decide ((↑(btN (cvS (cellAt (U35.v (cvS (cellAt d f.toNat 0))).1 (Int.toNat 0) 0)) (Int.toNat 0)) : Int) = 35) then g a d e (w64 (f + 1)) h else bif !(U35.v (cvS (cellAt d f.toNat 0))).2 then k0 (w64 (f + 1)) d e f h else bif U36.c (U35.v (cvS (cellAt d f.toNat 0))).1 then bif !(U36.v (U35.v (cvS (cellAt d f.toNat 0))).1).2.2.2.2.2 then k0 (w64 (f + 1)) d e f h else bif decide ((h.length : Int) = 70) then k0 (w64 (f + 1)) d e f h else bif roomy (h.length + (List.set (zeros [Ck.i IntKind.i64, Ck.i IntKind.i64, Ck.s, Ck.i IntKind.i64, Ck.l 3] 1) 0 [.i .i64 (U36.v (U35.v (cvS (cellAt d f.toNat 0))).1).1, .i .i64 (U36.v (U35.v (cvS (cellAt d f.toNat 0))).1).2.1, .s (U36.v (U35.v (cvS (cellAt d f.toNat 0))).1).2.2.1, .i .i64 (U36.v (U35.v (cvS (cellAt d f.toNat 0))).1).2.2.2.1, CV.l 3 (U36.v (U35.v (cvS (cellAt d f.toNat 0))).1).2.2.2.2.1]).length) 64 then g a d e (w64 (f + 1)) (h ++ List.set (zeros [Ck.i IntKind.i64, Ck.i IntKind.i64, Ck.s, Ck.i IntKind.i64, Ck.l 3] 1) 0 [.i .i64 (U36.v (U35.v (cvS (cellAt d f.toNat 0))).1).1, .i .i64 (U36.v (U35.v (cvS (cellAt d f.toNat 0))).1).2.1, .s (U36.v (U35.v (cvS (cellAt d f.toNat 0))).1).2.2.1, .i .i64 (U36.v (U35.v (cvS (cellAt d f.toNat 0))).1).2.2.2.1, CV.l 3 (U36.v (U35.v (cvS (cellAt d f.toNat 0))).1).2.2.2.2.1]) else none else none else none else none else bif !(U35.v (cvS (cellAt d f.toNat 0))).2 then k0 (w64 (f + 1)) d e f h else bif U36.c (U35.v (cvS (cellAt d f.toNat 0))).1 then bif !(U36.v (U35.v (cvS (cellAt d f.toNat 0))).1).2.2.2.2.2 then k0 (w64 (f + 1)) d e f h else bif decide ((h.length : Int) = 70) then k0 (w64 (f + 1)) d e f h else bif roomy (h.length + (List.set (zeros [Ck.i IntKind.i64, Ck.i IntKind.i64, Ck.s, Ck.i IntKind.i64, Ck.l 3] 1) 0 [.i .i64 (U36.v (U35.v (cvS (cellAt d f.toNat 0))).1).1, .i .i64 (U36.v (U35.v (cvS (cellAt d f.toNat 0))).1).2.1, .s (U36.v (U35.v (cvS (cellAt d f.toNat 0))).1).2.2.1, .i .i64 (U36.v (U35.v (cvS (cellAt d f.toNat 0))).1).2.2.2.1, CV.l 3 (U36.v (U35.v (cvS (cellAt d f.toNat 0))).1).2.2.2.2.1]).length) 64 then g a d e (w64 (f + 1)) (h ++ List.set (zeros [Ck.i IntKind.i64, Ck.i IntKind.i64, Ck.s, Ck.i IntKind.i64, Ck.l 3] 1) 0 [.i .i64 (U36.v (U35.v (cvS (cellAt d f.toNat 0))).1).1, .i .i64 (U36.v (U35.v (cvS (cellAt d f.toNat 0))).1).2.1, .s (U36.v (U35.v (cvS (cellAt d f.toNat 0))).1).2.2.1, .i .i64 (U36.v (U35.v (cvS (cellAt d f.toNat 0))).1).2.2.2.1, CV.l 3 (U36.v (U35.v (cvS (cellAt d f.toNat 0))).1).2.2.2.2.1]) else none else none else none else none else k1 a d e f h
def l8 (N : Nat) (k0 k1 : F_iriir R) : Nat -> F_iriir R
 | 0 => fun _ _ _ _ _ => none
 | n + 1 => r8 N (l8 N k0 k1 n) k0 k1
def b (N : Nat) (kr : F_ri R) (a : ByteArray) : Option R := bif U34.c a { data := #[UInt8.ofNat 10] } then bif decide (0 <= w64 (((U34.v a { data := #[UInt8.ofNat 10] }).length : Int) - 1)) && decide (w64 (((U34.v a { data := #[UInt8.ofNat 10] }).length : Int) - 1) < ((U34.v a { data := #[UInt8.ofNat 10] }).length : Int)) then bif List.beq (cvS (cellAt (U34.v a { data := #[UInt8.ofNat 10] }) (w64 (((U34.v a { data := #[UInt8.ofNat 10] }).length : Int) - 1)).toNat 0)).toList (ByteArray.toList ⟨#[]⟩) then bif inB 0 (w64 (((U34.v a { data := #[UInt8.ofNat 10] }).length : Int) - 1)) ((U34.v a { data := #[UInt8.ofNat 10] }).length : Int) then bif decide ((a.size : Int) > 3000) then kr [] (-1) else bif decide (((view (U34.v a { data := #[UInt8.ofNat 10] }) (Int.toNat 0) (w64 (((U34.v a { data := #[UInt8.ofNat 10] }).length : Int) - 1)).toNat).length : Int) > 90) then kr [] (-1) else l8 N (fun d _ _ _ _ => kr [] d) (fun _ _ _ _ d => kr d 0) N 0 (view (U34.v a { data := #[UInt8.ofNat 10] }) (Int.toNat 0) (w64 (((U34.v a { data := #[UInt8.ofNat 10] }).length : Int) - 1)).toNat) ((view (U34.v a { data := #[UInt8.ofNat 10] }) (Int.toNat 0) (w64 (((U34.v a { data := #[UInt8.ofNat 10] }).length : Int) - 1)).toNat).length : Int) 0 (zeros [Ck.i IntKind.i64, Ck.i IntKind.i64, Ck.s, Ck.i IntKind.i64, Ck.l 3] 0) else none else bif decide ((a.size : Int) > 3000) then kr [] (-1) else bif decide (((U34.v a { data := #[UInt8.ofNat 10] }).length : Int) > 90) then kr [] (-1) else l8 N (fun d _ _ _ _ => kr [] d) (fun _ _ _ _ d => kr d 0) N 0 (U34.v a { data := #[UInt8.ofNat 10] }) ((U34.v a { data := #[UInt8.ofNat 10] }).length : Int) 0 (zeros [Ck.i IntKind.i64, Ck.i IntKind.i64, Ck.s, Ck.i IntKind.i64, Ck.l 3] 0) else none else none
def vo := b Lib.big fun r0 r1 => some (r0, r1)
def c := fun a => (vo a).isSome
def v := fun a => (vo a).getD ([], 0)
theorem out {x} : ∀ a, vo a = some x -> c a = true /\ v a = x := fun _ => Lib.out_
end U11

namespace U66
def r4 (N : Nat) (g k0 k1 : F_rrbi R) (a d : Row) (e : Bool) (f : Int) : Option R := bif decide (f < (a.length : Int)) then bif decide (0 <= f) && decide (f < (a.length : Int)) then bif decide (0 <= f) && decide (f < (d.length : Int)) then bif cvI (cellAt a f.toNat 0) != cvI (cellAt d f.toNat 0) then k0 a d false f else g a d e (w64 (f + 1)) else none else none else k1 a d e f
def l4 (N : Nat) (k0 k1 : F_rrbi R) : Nat -> F_rrbi R
 | 0 => fun _ _ _ _ => none
 | n + 1 => r4 N (l4 N k0 k1 n) k0 k1
def b (N : Nat) (kr : Bool -> Option R) (a d : Row) : Option R := bif (a.length : Int) != (d.length : Int) then kr false else l4 N (fun _ _ e _ => kr e) (fun _ _ _ _ => kr true) N a d false 0
def v (a0 : Row) (b1 : Row) : Bool := (a0.length == b1.length) && (List.range a0.length).all fun i => !(cvI (cellAt a0 i 0) != cvI (cellAt b1 i 0))
def fr (a b : Row) (i : Nat) : Bool := (List.range' i (a.length - i)).all fun i => !(cvI (cellAt a i 0) != cvI (cellAt b i 0))
theorem run (N : Nat) (kr : Bool -> Option R) (a b : Row) (hl : a.length = b.length) (ha : FitR a) : ∀ n (i : Nat), i <= a.length -> a.length - i < n -> l4 N (fun _ _ y _ => kr y) (fun _ _ _ _ => kr true) n a b false i = kr (fr a b i) := by
 refine Lib.loop_gen (fun n (i : Nat) => l4 N (fun _ _ y _ => kr y) (fun _ _ _ _ => kr true) n a b false i) (fun i => a.length - i) (fun i => i <= a.length) (fun i => kr (fr a b i)) (fun n i hi => ?_)
 simp only [l4, r4, Lib.dlt, Lib.dle0, Lib.toN, Bool.true_and]
 by_cases h : i < a.length
 ·have e : a.length - i = (a.length - (i + 1)) + 1 := by omega
  have hf : fr a b i = (!(cvI (cellAt a i 0) != cvI (cellAt b i 0)) && fr a b (i + 1)) := by
   unfold fr; rw [e, List.range'_succ, List.all_cons]
  have hb : i < b.length := by omega
  simp only [h, hb, decide_true, cond_true, Lib.w64_s h ha.1]
  cases hv : (cvI (cellAt a i 0) != cvI (cellAt b i 0)) with
  | false => exact .inr ⟨i + 1, h, by omega, by rw [hf, hv]; rfl, rfl⟩
  | true => left; rw [hf, hv]; rfl
 ·left
  have : a.length - i = 0 := by omega
  simp only [h, decide_false, cond_false]
  unfold fr; rw [this]; rfl
theorem b_eq (kr : Bool -> Option R) (a0 : Row) (b1 : Row) (f0 : FitR a0) (f1 : FitR b1) : ∃ N, b N kr a0 b1 = kr (v a0 b1) := by
 refine ⟨a0.length + 1, ?_⟩
 unfold b v
 by_cases hl : a0.length = b1.length
 ·have e : ((a0.length : Int) != (b1.length : Int)) = false := by simp [hl]
  rw [e, cond_false]
  refine (run _ kr a0 b1 hl f0 (a0.length + 1) 0 (by omega) (by omega)).trans ?_
  unfold fr; rw [show (a0.length == b1.length) = true by simp [hl], Nat.sub_zero, <- List.range_eq_range']; rfl
 ·have e : ((a0.length : Int) != (b1.length : Int)) = true := by simp; omega
  have e2 : (a0.length == b1.length) = false := by simp; omega
  rw [e, cond_true, e2]; rfl
theorem refl (a : Row) : v a a = true := by unfold v; simp
end U66

namespace U37
def b (kr : Bool -> Option R) (a d : Int) (e : ByteArray) (f : Int) (h : Row) (i j : Int) (l : ByteArray) (m : Int) (o : Row) : Option R := bif a != i then kr false else bif d != j then kr false else bif !List.beq (ByteArray.toList e) (ByteArray.toList l) then kr false else bif f != m then kr false else bif !U66.v h o then kr false else kr true
def v (a0 a1 : Int) (a2 : ByteArray) (a3 : Int) (a4 : Row) (a5 a6 : Int) (a7 : ByteArray) (a8 : Int) (a9 : Row) : Bool := bif a0 != a5 then false else bif a1 != a6 then false else bif !List.beq (ByteArray.toList a2) (ByteArray.toList a7) then false else bif a3 != a8 then false else bif !U66.v a4 a9 then false else true
theorem b_eq (kr : Bool -> Option R) (a0 a1 : Int) (a2 : ByteArray) (a3 : Int) (a4 : Row) (a5 a6 : Int) (a7 : ByteArray) (a8 : Int) (a9 : Row) : b kr a0 a1 a2 a3 a4 a5 a6 a7 a8 a9 = kr (v a0 a1 a2 a3 a4 a5 a6 a7 a8 a9) := by
 first | rfl | (unfold b v; simp only [Bool.cond_eq_ite]; (repeat' split) <;> rfl)
end U37

namespace U12
def r4 (N : Nat) (g k0 k1 : F_rrbi R) (a d : Row) (e : Bool) (f : Int) : Option R := bif decide (f < (a.length : Int)) then bif decide (0 <= f) && decide (f < (a.length : Int)) then bif decide (0 <= f) && decide (f < (d.length : Int)) then bif !U37.v (cvI (cellAt a f.toNat 0)) (cvI (cellAt a f.toNat 1)) (cvS (cellAt a f.toNat (1 + 1))) (cvI (cellAt a f.toNat (1 + 1 + 1))) (cvL (cellAt a f.toNat (1 + 1 + 1 + 1))) (cvI (cellAt d f.toNat 0)) (cvI (cellAt d f.toNat 1)) (cvS (cellAt d f.toNat (1 + 1))) (cvI (cellAt d f.toNat (1 + 1 + 1))) (cvL (cellAt d f.toNat (1 + 1 + 1 + 1))) then k0 a d false f else g a d e (w64 (f + 1)) else none else none else k1 a d e f
def l4 (N : Nat) (k0 k1 : F_rrbi R) : Nat -> F_rrbi R
 | 0 => fun _ _ _ _ => none
 | n + 1 => r4 N (l4 N k0 k1 n) k0 k1
def b (N : Nat) (kr : Bool -> Option R) (a d : Row) : Option R := bif (a.length : Int) != (d.length : Int) then kr false else l4 N (fun _ _ e _ => kr e) (fun _ _ _ _ => kr true) N a d false 0
def vo := b Lib.big fun r0 => some r0
def c := fun a d => (vo a d).isSome
def v := fun a d => (vo a d).getD false
theorem out {x} : ∀ a d, vo a d = some x -> c a d = true /\ v a d = x := fun _ _ => Lib.out_
end U12

namespace U38
def r4 (N : Nat) (g k0 : F_is R) (a : Int) (d : ByteArray) : Option R := bif decide (a > 0) then bif decide ((bytesOf (List.set (zeros [Ck.i IntKind.u8] 1) 0 [CV.i IntKind.u8 (IntKind.wrap IntKind.u8 (w64 (48 + Int.tmod a 10)))])).size + d.size <= 4611686018427387904) then g (w64 (Int.tdiv a 10)) (bytesOf (List.set (zeros [Ck.i IntKind.u8] 1) 0 [CV.i IntKind.u8 (IntKind.wrap IntKind.u8 (w64 (48 + Int.tmod a 10)))]) ++ d) else none else k0 a d
def l4 (N : Nat) (k0 : F_is R) : Nat -> F_is R
 | 0 => fun _ _ => none
 | n + 1 => r4 N (l4 N k0 n) k0
def b (N : Nat) (kr : ByteArray -> Option R) (a : Int) : Option R := bif decide (a <= 0) then kr ({ data := #[UInt8.ofNat 109, UInt8.ofNat 48] }) else l4 N (fun _ d => bif decide (ByteArray.size { data := #[UInt8.ofNat 109] } + d.size <= 4611686018427387904) then kr ({ data := #[UInt8.ofNat 109] } ++ d) else none) N a ⟨#[]⟩
def vo := b Lib.big fun r0 => some r0
def c := fun a => (vo a).isSome
def v := fun a => (vo a).getD (⟨#[]⟩)
theorem out {x} : ∀ a, vo a = some x -> c a = true /\ v a = x := fun _ => Lib.out_
end U38

namespace U39
def r2 (N : Nat) (g k0 : F_iir R) (a d : Int) (e : Row) : Option R := bif decide (d < (e.length : Int)) then bif decide (0 <= d) && decide (d < (e.length : Int)) then g (w64 (a + 1)) (w64 (d + 1)) (setC e d.toNat 0 [.i .i64 a]) else none else k0 a d e
def l2 (N : Nat) (k0 : F_iir R) : Nat -> F_iir R
 | 0 => fun _ _ _ => none
 | n + 1 => r2 N (l2 N k0 n) k0
def b (N : Nat) (kr : F_ir R) (a : Row) (d : Int) : Option R := l2 N (fun e _ f => kr e f) N d 0 a
def vo := b Lib.big fun r0 r1 => some (r0, r1)
def c := fun a d => (vo a d).isSome
def v := fun a d => (vo a d).getD (0, [])
theorem out {x} : ∀ a d, vo a d = some x -> c a d = true /\ v a d = x := fun _ _ => Lib.out_
end U39

namespace U13
def r2 (N : Nat) (g k0 : F_iir R) (a d : Int) (e : Row) : Option R := bif decide (d < (e.length : Int)) then bif decide (0 <= d) && decide (d < (e.length : Int)) then bif decide (0 <= d) && decide (d < ((setC e d.toNat 0 [.i .i64 a]).length : Int)) then bif U38.c (w64 (w64 (a + 1) + 1)) then bif decide (0 <= d) && decide (d < ((setC (setC e d.toNat 0 [.i .i64 a]) d.toNat 1 [.i .i64 (w64 (a + 1))]).length : Int)) then bif decide (0 <= d) && decide (d < ((setC (setC (setC e d.toNat 0 [.i .i64 a]) d.toNat 1 [.i .i64 (w64 (a + 1))]) d.toNat 2 [.s (U38.v (w64 (w64 (a + 1) + 1)))]).length : Int)) then bif decide (0 <= d) && decide (d < ((setC (setC (setC (setC e d.toNat 0 [.i .i64 a]) d.toNat 1 [.i .i64 (w64 (a + 1))]) d.toNat 2 [.s (U38.v (w64 (w64 (a + 1) + 1)))]) d.toNat 3 [.i .i64 (w64 (w64 (w64 (a + 1) + 1) + 1))]).length : Int)) then bif U39.c (cvL (cellAt (setC (setC (setC (setC e d.toNat 0 [.i .i64 a]) d.toNat 1 [.i .i64 (w64 (a + 1))]) d.toNat 2 [.s (U38.v (w64 (w64 (a + 1) + 1)))]) d.toNat 3 [.i .i64 (w64 (w64 (w64 (a + 1) + 1) + 1))]) d.toNat 4)) (w64 (w64 (w64 (w64 (a + 1) + 1) + 1) + 1)) then g (U39.v (cvL (cellAt (setC (setC (setC (setC e d.toNat 0 [.i .i64 a]) d.toNat 1 [.i .i64 (w64 (a + 1))]) d.toNat 2 [.s (U38.v (w64 (w64 (a + 1) + 1)))]) d.toNat 3 [.i .i64 (w64 (w64 (w64 (a + 1) + 1) + 1))]) d.toNat 4)) (w64 (w64 (w64 (w64 (a + 1) + 1) + 1) + 1))).1 (w64 (d + 1)) (setC (setC (setC (setC (setC e d.toNat 0 [.i .i64 a]) d.toNat 1 [.i .i64 (w64 (a + 1))]) d.toNat 2 [.s (U38.v (w64 (w64 (a + 1) + 1)))]) d.toNat 3 [.i .i64 (w64 (w64 (w64 (a + 1) + 1) + 1))]) d.toNat 4 [CV.l 3 (U39.v (cvL (cellAt (setC (setC (setC (setC e d.toNat 0 [.i .i64 a]) d.toNat 1 [.i .i64 (w64 (a + 1))]) d.toNat 2 [.s (U38.v (w64 (w64 (a + 1) + 1)))]) d.toNat 3 [.i .i64 (w64 (w64 (w64 (a + 1) + 1) + 1))]) d.toNat 4)) (w64 (w64 (w64 (w64 (a + 1) + 1) + 1) + 1))).2]) else none else none else none else none else none else none else none else k0 a d e
def l2 (N : Nat) (k0 : F_iir R) : Nat -> F_iir R
 | 0 => fun _ _ _ => none
 | n + 1 => r2 N (l2 N k0 n) k0
def b (N : Nat) (kr : F_ir R) (a : Row) (d : Int) : Option R := l2 N (fun e _ f => kr e f) N d 0 a
def vo := b Lib.big fun r0 r1 => some (r0, r1)
def c := fun a d => (vo a d).isSome
def v := fun a d => (vo a d).getD (0, [])
theorem out {x} : ∀ a d, vo a d = some x -> c a d = true /\ v a d = x := fun _ _ => Lib.out_
end U13

namespace U40
def r2 (N : Nat) (g k0 k1 : F_riii R) (a : Row) (d e f : Int) : Option R := bif decide (f < (a.length : Int)) then bif decide (0 <= f) && decide (f < (a.length : Int)) then bif cvI (cellAt a f.toNat 0) != d then k0 a d (-1) f else g a (w64 (d + 1)) e (w64 (f + 1)) else none else k1 a d e f
def l2 (N : Nat) (k0 k1 : F_riii R) : Nat -> F_riii R
 | 0 => fun _ _ _ _ => none
 | n + 1 => r2 N (l2 N k0 k1 n) k0 k1
def b (N : Nat) (kr : Int -> Option R) (a : Row) (d : Int) : Option R := l2 N (fun _ _ e _ => kr e) (fun _ e _ _ => kr e) N a d 0 0
def vo := b Lib.big fun r0 => some r0
def c := fun a d => (vo a d).isSome
def v := fun a d => (vo a d).getD (0)
theorem out {x} : ∀ a d, vo a d = some x -> c a d = true /\ v a d = x := fun _ _ => Lib.out_
end U40

namespace U14
def r2 (N : Nat) (g k0 k1 : F_riii R) (a : Row) (d e f : Int) : Option R := bif decide (f < (a.length : Int)) then bif decide (0 <= f) && decide (f < (a.length : Int)) then bif cvI (cellAt a f.toNat 0) != d then k0 a d (-1) f else bif decide (0 <= f) && decide (f < (a.length : Int)) then bif cvI (cellAt a f.toNat 1) != w64 (d + 1) then k0 a (w64 (d + 1)) (-1) f else bif decide (0 <= f) && decide (f < (a.length : Int)) then bif U38.c (w64 (w64 (d + 1) + 1)) then bif !List.beq (cvS (cellAt a f.toNat 2)).toList (U38.v (w64 (w64 (d + 1) + 1))).toList then k0 a (w64 (w64 (d + 1) + 1)) (-1) f else bif decide (0 <= f) && decide (f < (a.length : Int)) then bif cvI (cellAt a f.toNat 3) != w64 (w64 (w64 (d + 1) + 1) + 1) then k0 a (w64 (w64 (w64 (d + 1) + 1) + 1)) (-1) f else bif decide (0 <= f) && decide (f < (a.length : Int)) then bif U40.c (cvL (cellAt a f.toNat 4)) (w64 (w64 (w64 (w64 (d + 1) + 1) + 1) + 1)) then bif decide (U40.v (cvL (cellAt a f.toNat 4)) (w64 (w64 (w64 (w64 (d + 1) + 1) + 1) + 1)) < 0) then k0 a (U40.v (cvL (cellAt a f.toNat 4)) (w64 (w64 (w64 (w64 (d + 1) + 1) + 1) + 1))) (-1) f else g a (U40.v (cvL (cellAt a f.toNat 4)) (w64 (w64 (w64 (w64 (d + 1) + 1) + 1) + 1))) e (w64 (f + 1)) else none else none else none else none else none else none else none else k1 a d e f
def l2 (N : Nat) (k0 k1 : F_riii R) : Nat -> F_riii R
 | 0 => fun _ _ _ _ => none
 | n + 1 => r2 N (l2 N k0 k1 n) k0 k1
def b (N : Nat) (kr : Int -> Option R) (a : Row) (d : Int) : Option R := l2 N (fun _ _ e _ => kr e) (fun _ e _ _ => kr e) N a d 0 0
def vo := b Lib.big fun r0 => some r0
def c := fun a d => (vo a d).isSome
def v := fun a d => (vo a d).getD (0)
theorem out {x} : ∀ a d, vo a d = some x -> c a d = true /\ v a d = x := fun _ _ => Lib.out_
end U14

namespace U4
def b (kr : Bool -> Option R) (a : ByteArray) : Option R := bif decide ((a.size : Int) > 1048576) then kr true else bif U10.c a then Lib.lt (U10.v a) fun d => bif U11.c a then Lib.lt (U11.v a) fun e => bif U12.c e.1 d.1 then Lib.lt (U12.v e.1 d.1) fun f => bif !f then kr false else bif e.2 != d.2 then kr false else bif U13.c e.1 1 then Lib.lt (U13.v e.1 1) fun h => bif U14.c h.2 1 then Lib.lt (U14.v h.2 1) fun i => bif decide (i < 0) then kr false else bif i != h.1 then kr false else bif U11.c a then bif U12.c e.1 d.1 then bif !f then kr false else bif e.2 != d.2 then kr false else bif U14.c h.2 1 then bif decide (i < 0) then kr false else bif i != h.1 then kr false else kr true else none else none else none else none else none else none else none else none
def vo := b fun r0 => some r0
def c := fun a => (vo a).isSome
def v := fun a => (vo a).getD false
theorem out {x} : ∀ a, vo a = some x -> c a = true /\ v a = x := fun _ => Lib.out_
end U4

end Go.FG
