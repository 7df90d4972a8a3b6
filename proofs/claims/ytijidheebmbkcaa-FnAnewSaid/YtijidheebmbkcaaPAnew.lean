/- Functions of the program, told as functions of numbers, texts and lists, and what each comes to. No condition but those that each states. -/
import Derived.Test.YtijidheebmbkcaaLib
set_option linter.unusedVariables false
set_option linter.unusedSimpArgs false
set_option maxRecDepth 100000
namespace Go.FG
abbrev F_rii (R : Type) := Row -> Int -> Int -> Option R
abbrev F_irii (R : Type) := Int -> Row -> Int -> Int -> Option R
abbrev F_sriir (R : Type) := ByteArray -> Row -> Int -> Int -> Row -> Option R
abbrev F_srii (R : Type) := ByteArray -> Row -> Int -> Int -> Option R
abbrev F_iriir (R : Type) := Int -> Row -> Int -> Int -> Row -> Option R
abbrev F_iiriir (R : Type) := Int -> Int -> Row -> Int -> Int -> Row -> Option R
abbrev F_siisrii (R : Type) := ByteArray -> Int -> Int -> ByteArray -> Row -> Int -> Int -> Option R
abbrev F_ir (R : Type) := Int -> Row -> Option R
abbrev F_sb (R : Type) := ByteArray -> Bool -> Option R
abbrev F_isii (R : Type) := Int -> ByteArray -> Int -> Int -> Option R
abbrev F_isi (R : Type) := Int -> ByteArray -> Int -> Option R
abbrev F_rb (R : Type) := Row -> Bool -> Option R
abbrev F_bir (R : Type) := Bool -> Int -> Row -> Option R
abbrev F_siir (R : Type) := ByteArray -> Int -> Int -> Row -> Option R
abbrev F_irssir (R : Type) := Int -> Row -> ByteArray -> ByteArray -> Int -> Row -> Option R
abbrev F_irssi (R : Type) := Int -> Row -> ByteArray -> ByteArray -> Int -> Option R
abbrev F_sir (R : Type) := ByteArray -> Int -> Row -> Option R
abbrev F_sirr (R : Type) := ByteArray -> Int -> Row -> Row -> Option R
abbrev F_riir (R : Type) := Row -> Int -> Int -> Row -> Option R
abbrev F_ri (R : Type) := Row -> Int -> Option R
abbrev F_rrii (R : Type) := Row -> Row -> Int -> Int -> Option R
abbrev F_siiibiii (R : Type) := ByteArray -> Int -> Int -> Int -> Bool -> Int -> Int -> Int -> Option R
abbrev F_iib (R : Type) := Int -> Int -> Bool -> Option R
abbrev F_sib (R : Type) := ByteArray -> Int -> Bool -> Option R
abbrev F_siisb (R : Type) := ByteArray -> Int -> Int -> ByteArray -> Bool -> Option R
abbrev F_risiisr (R : Type) := Row -> Int -> ByteArray -> Int -> Int -> ByteArray -> Row -> Option R
abbrev F_irr (R : Type) := Int -> Row -> Row -> Option R
abbrev F_briir (R : Type) := Bool -> Row -> Int -> Int -> Row -> Option R
abbrev F_rsiii (R : Type) := Row -> ByteArray -> Int -> Int -> Int -> Option R
abbrev F_bsriir (R : Type) := Bool -> ByteArray -> Row -> Int -> Int -> Row -> Option R
abbrev F_rbsir (R : Type) := Row -> Bool -> ByteArray -> Int -> Row -> Option R
abbrev F_rbsirr (R : Type) := Row -> Bool -> ByteArray -> Int -> Row -> Row -> Option R
abbrev F_issir (R : Type) := Int -> ByteArray -> ByteArray -> Int -> Row -> Option R
abbrev F_ririir (R : Type) := Row -> Int -> Row -> Int -> Int -> Row -> Option R
abbrev F_rrbi (R : Type) := Row -> Row -> Bool -> Int -> Option R
abbrev F_siiibii (R : Type) := ByteArray -> Int -> Int -> Int -> Bool -> Int -> Int -> Option R
abbrev F_isiisr (R : Type) := Int -> ByteArray -> Int -> Int -> ByteArray -> Row -> Option R
abbrev F_iirr (R : Type) := Int -> Int -> Row -> Row -> Option R
abbrev F_rir (R : Type) := Row -> Int -> Row -> Option R
abbrev F_rriir (R : Type) := Row -> Row -> Int -> Int -> Row -> Option R
abbrev F_iiir (R : Type) := Int -> Int -> Int -> Row -> Option R
abbrev F_rr (R : Type) := Row -> Row -> Option R
abbrev F_rbnnirrrr (R : Type) := Row -> Bool -> Nat -> Nat -> Int -> Row -> Row -> Row -> Row -> Option R
abbrev F_rbirrrr (R : Type) := Row -> Bool -> Int -> Row -> Row -> Row -> Row -> Option R
end Go.FG

namespace Go.FG.U11
def b {R : Type} (kr : Bool -> Option R) (a : Row) : Option R := kr (decide ((a.length : Int) > 1048576))
def v (a0 : Row) : Bool := (decide ((a0.length : Int) > 1048576))
theorem b_eq {R : Type} (kr : Bool -> Option R) (a0 : Row) : b kr a0 = kr (v a0) := by
 first | rfl | (unfold b v; simp only [Bool.cond_eq_ite]; (repeat' split) <;> rfl)
end Go.FG.U11

namespace Go.FG.U52
def r3 {R : Type} (N : Nat) (g k0 : F_rii R) (a : Row) (d e : Int) : Option R := bif decide (e < (a.length : Int)) then bif decide (e < 4000) then bif decide (0 <= e) && decide (e < (a.length : Int)) then g a (w64 (↑(BitVec.toNat (BitVec.and (BitVec.ofInt 64 (w64 (w64 (w64 (d * 131) + w64 (cvI (cellAt a e.toNat 0))) + 7))) (BitVec.ofInt 64 1073741823))) : Int)) (w64 (e + 1)) else none else k0 a d e else k0 a d e
def l3 {R : Type} (N : Nat) (k0 : F_rii R) : Nat -> F_rii R
 | 0 => fun _ _ _ => none
 | n + 1 => r3 N (l3 N k0 n) k0
def b {R : Type} (N : Nat) (kr : F_rii R) (a : Row) : Option R := l3 N (fun d e _ => kr d 0 e) N a (w64 (34901 + (a.length : Int))) 0
def vo := b Lib.big fun r0 r1 r2 => some (r0, r1, r2)
def c := fun a => (vo a).isSome
def v := fun a => (vo a).getD ([], 0, 0)
theorem out {x} : ∀ a, vo a = some x -> c a = true /\ v a = x := fun _ => Lib.out_
end Go.FG.U52

namespace Go.FG.U58
def b {R : Type} (kr : F_irii R) (a : Row) (d e : Int) : Option R := bif decide (d < (a.length : Int)) then bif decide (0 <= d) && decide (d < (a.length : Int)) then kr (w64 (↑(BitVec.toNat (BitVec.and (BitVec.ofInt 64 (w64 (w64 (↑(BitVec.toNat (BitVec.and (BitVec.ofInt 64 (w64 (↑(BitVec.toNat (BitVec.xor (BitVec.ofInt 64 (Int.fdiv (w64 (w64 (e * 6364136223846793005) + 1442695040888963407)) (Int.pow 2 (if Int.toNat 33 <= 64 then Int.toNat 33 else 64)))) (BitVec.ofInt 64 (Int.fdiv (w64 (w64 (e * 6364136223846793005) + 1442695040888963407)) (Int.pow 2 (if Int.toNat 45 <= 64 then Int.toNat 45 else 64)))))) : Int))) (BitVec.ofInt 64 255))) : Int) + w64 (cvI (cellAt a d.toNat 0))))) (BitVec.ofInt 64 255))) : Int)) a (w64 (d + 1)) (w64 (w64 (e * 6364136223846793005) + 1442695040888963407)) else none else kr (w64 (↑(BitVec.toNat (BitVec.and (BitVec.ofInt 64 (w64 (↑(BitVec.toNat (BitVec.xor (BitVec.ofInt 64 (Int.fdiv (w64 (w64 (e * 6364136223846793005) + 1442695040888963407)) (Int.pow 2 (if Int.toNat 33 <= 64 then Int.toNat 33 else 64)))) (BitVec.ofInt 64 (Int.fdiv (w64 (w64 (e * 6364136223846793005) + 1442695040888963407)) (Int.pow 2 (if Int.toNat 45 <= 64 then Int.toNat 45 else 64)))))) : Int))) (BitVec.ofInt 64 255))) : Int)) a d (w64 (w64 (e * 6364136223846793005) + 1442695040888963407))
def vo := b fun r0 r1 r2 r3 => some (r0, r1, r2, r3)
def c := fun a d e => (vo a d e).isSome
def v := fun a d e => (vo a d e).getD (0, [], 0, 0)
theorem out {x} : ∀ a d e, vo a d e = some x -> c a d e = true /\ v a d e = x := fun _ _ _ => Lib.out_
end Go.FG.U58

namespace Go.FG.U59
def b {R : Type} (kr : F_irii R) (a : Row) (d e f : Int) : Option R := bif decide (f <= 0) then kr 0 a d e else bif decide (f <= 256) then bif U58.c a d e then bif !decide (f = 0) then kr (Int.tmod (U58.v a d e).1 f) (U58.v a d e).2.1 (U58.v a d e).2.2.1 (U58.v a d e).2.2.2 else none else none else bif U58.c a d e then bif U58.c (U58.v a d e).2.1 (U58.v a d e).2.2.1 (U58.v a d e).2.2.2 then bif U58.c (U58.v (U58.v a d e).2.1 (U58.v a d e).2.2.1 (U58.v a d e).2.2.2).2.1 (U58.v (U58.v a d e).2.1 (U58.v a d e).2.2.1 (U58.v a d e).2.2.2).2.2.1 (U58.v (U58.v a d e).2.1 (U58.v a d e).2.2.1 (U58.v a d e).2.2.2).2.2.2 then bif U58.c (U58.v (U58.v (U58.v a d e).2.1 (U58.v a d e).2.2.1 (U58.v a d e).2.2.2).2.1 (U58.v (U58.v a d e).2.1 (U58.v a d e).2.2.1 (U58.v a d e).2.2.2).2.2.1 (U58.v (U58.v a d e).2.1 (U58.v a d e).2.2.1 (U58.v a d e).2.2.2).2.2.2).2.1 (U58.v (U58.v (U58.v a d e).2.1 (U58.v a d e).2.2.1 (U58.v a d e).2.2.2).2.1 (U58.v (U58.v a d e).2.1 (U58.v a d e).2.2.1 (U58.v a d e).2.2.2).2.2.1 (U58.v (U58.v a d e).2.1 (U58.v a d e).2.2.1 (U58.v a d e).2.2.2).2.2.2).2.2.1 (U58.v (U58.v (U58.v a d e).2.1 (U58.v a d e).2.2.1 (U58.v a d e).2.2.2).2.1 (U58.v (U58.v a d e).2.1 (U58.v a d e).2.2.1 (U58.v a d e).2.2.2).2.2.1 (U58.v (U58.v a d e).2.1 (U58.v a d e).2.2.1 (U58.v a d e).2.2.2).2.2.2).2.2.2 then bif !decide (f = 0) then kr (Int.tmod (w64 (w64 (w64 (w64 ((U58.v a d e).1 * 16777216) + w64 ((U58.v (U58.v a d e).2.1 (U58.v a d e).2.2.1 (U58.v a d e).2.2.2).1 * 65536)) + w64 ((U58.v (U58.v (U58.v a d e).2.1 (U58.v a d e).2.2.1 (U58.v a d e).2.2.2).2.1 (U58.v (U58.v a d e).2.1 (U58.v a d e).2.2.1 (U58.v a d e).2.2.2).2.2.1 (U58.v (U58.v a d e).2.1 (U58.v a d e).2.2.1 (U58.v a d e).2.2.2).2.2.2).1 * 256)) + (U58.v (U58.v (U58.v (U58.v a d e).2.1 (U58.v a d e).2.2.1 (U58.v a d e).2.2.2).2.1 (U58.v (U58.v a d e).2.1 (U58.v a d e).2.2.1 (U58.v a d e).2.2.2).2.2.1 (U58.v (U58.v a d e).2.1 (U58.v a d e).2.2.1 (U58.v a d e).2.2.2).2.2.2).2.1 (U58.v (U58.v (U58.v a d e).2.1 (U58.v a d e).2.2.1 (U58.v a d e).2.2.2).2.1 (U58.v (U58.v a d e).2.1 (U58.v a d e).2.2.1 (U58.v a d e).2.2.2).2.2.1 (U58.v (U58.v a d e).2.1 (U58.v a d e).2.2.1 (U58.v a d e).2.2.2).2.2.2).2.2.1 (U58.v (U58.v (U58.v a d e).2.1 (U58.v a d e).2.2.1 (U58.v a d e).2.2.2).2.1 (U58.v (U58.v a d e).2.1 (U58.v a d e).2.2.1 (U58.v a d e).2.2.2).2.2.1 (U58.v (U58.v a d e).2.1 (U58.v a d e).2.2.1 (U58.v a d e).2.2.2).2.2.2).2.2.2).1)) f) (U58.v (U58.v (U58.v (U58.v a d e).2.1 (U58.v a d e).2.2.1 (U58.v a d e).2.2.2).2.1 (U58.v (U58.v a d e).2.1 (U58.v a d e).2.2.1 (U58.v a d e).2.2.2).2.2.1 (U58.v (U58.v a d e).2.1 (U58.v a d e).2.2.1 (U58.v a d e).2.2.2).2.2.2).2.1 (U58.v (U58.v (U58.v a d e).2.1 (U58.v a d e).2.2.1 (U58.v a d e).2.2.2).2.1 (U58.v (U58.v a d e).2.1 (U58.v a d e).2.2.1 (U58.v a d e).2.2.2).2.2.1 (U58.v (U58.v a d e).2.1 (U58.v a d e).2.2.1 (U58.v a d e).2.2.2).2.2.2).2.2.1 (U58.v (U58.v (U58.v a d e).2.1 (U58.v a d e).2.2.1 (U58.v a d e).2.2.2).2.1 (U58.v (U58.v a d e).2.1 (U58.v a d e).2.2.1 (U58.v a d e).2.2.2).2.2.1 (U58.v (U58.v a d e).2.1 (U58.v a d e).2.2.1 (U58.v a d e).2.2.2).2.2.2).2.2.2).2.1 (U58.v (U58.v (U58.v (U58.v a d e).2.1 (U58.v a d e).2.2.1 (U58.v a d e).2.2.2).2.1 (U58.v (U58.v a d e).2.1 (U58.v a d e).2.2.1 (U58.v a d e).2.2.2).2.2.1 (U58.v (U58.v a d e).2.1 (U58.v a d e).2.2.1 (U58.v a d e).2.2.2).2.2.2).2.1 (U58.v (U58.v (U58.v a d e).2.1 (U58.v a d e).2.2.1 (U58.v a d e).2.2.2).2.1 (U58.v (U58.v a d e).2.1 (U58.v a d e).2.2.1 (U58.v a d e).2.2.2).2.2.1 (U58.v (U58.v a d e).2.1 (U58.v a d e).2.2.1 (U58.v a d e).2.2.2).2.2.2).2.2.1 (U58.v (U58.v (U58.v a d e).2.1 (U58.v a d e).2.2.1 (U58.v a d e).2.2.2).2.1 (U58.v (U58.v a d e).2.1 (U58.v a d e).2.2.1 (U58.v a d e).2.2.2).2.2.1 (U58.v (U58.v a d e).2.1 (U58.v a d e).2.2.1 (U58.v a d e).2.2.2).2.2.2).2.2.2).2.2.1 (U58.v (U58.v (U58.v (U58.v a d e).2.1 (U58.v a d e).2.2.1 (U58.v a d e).2.2.2).2.1 (U58.v (U58.v a d e).2.1 (U58.v a d e).2.2.1 (U58.v a d e).2.2.2).2.2.1 (U58.v (U58.v a d e).2.1 (U58.v a d e).2.2.1 (U58.v a d e).2.2.2).2.2.2).2.1 (U58.v (U58.v (U58.v a d e).2.1 (U58.v a d e).2.2.1 (U58.v a d e).2.2.2).2.1 (U58.v (U58.v a d e).2.1 (U58.v a d e).2.2.1 (U58.v a d e).2.2.2).2.2.1 (U58.v (U58.v a d e).2.1 (U58.v a d e).2.2.1 (U58.v a d e).2.2.2).2.2.2).2.2.1 (U58.v (U58.v (U58.v a d e).2.1 (U58.v a d e).2.2.1 (U58.v a d e).2.2.2).2.1 (U58.v (U58.v a d e).2.1 (U58.v a d e).2.2.1 (U58.v a d e).2.2.2).2.2.1 (U58.v (U58.v a d e).2.1 (U58.v a d e).2.2.1 (U58.v a d e).2.2.2).2.2.2).2.2.2).2.2.2 else none else none else none else none else none
def vo := b fun r0 r1 r2 r3 => some (r0, r1, r2, r3)
def c := fun a d e f => (vo a d e f).isSome
def v := fun a d e f => (vo a d e f).getD (0, [], 0, 0)
theorem out {x} : ∀ a d e f, vo a d e f = some x -> c a d e f = true /\ v a d e f = x := fun _ _ _ _ => Lib.out_
end Go.FG.U59

namespace Go.FG.U164
def b {R : Type} (kr : F_sriir R) (a : Row) (d e : Int) (f : Row) : Option R := bif U59.c a d e (f.length : Int) then bif decide (0 <= (U59.v a d e (f.length : Int)).1) && decide ((U59.v a d e (f.length : Int)).1 < (f.length : Int)) then kr (cvS (cellAt f (U59.v a d e (f.length : Int)).1.toNat 0)) (U59.v a d e (f.length : Int)).2.1 (U59.v a d e (f.length : Int)).2.2.1 (U59.v a d e (f.length : Int)).2.2.2 f else none else none
def vo := b fun r0 r1 r2 r3 r4 => some (r0, r1, r2, r3, r4)
def c := fun a d e f => (vo a d e f).isSome
def v := fun a d e f => (vo a d e f).getD (⟨#[]⟩, [], 0, 0, [])
theorem out {x} : ∀ a d e f, vo a d e f = some x -> c a d e f = true /\ v a d e f = x := fun _ _ _ _ => Lib.out_
end Go.FG.U164

namespace Go.FG.U161
def b {R : Type} (kr : F_srii R) (a : Row) (d e : Int) : Option R := bif U164.c a d e (List.set (List.set (List.set (List.set (List.set (List.set (List.set (List.set (zeros [.s] 8) 0 [.s { data := #[UInt8.ofNat 47, UInt8.ofNat 97] }]) 1 [.s { data := #[UInt8.ofNat 47, UInt8.ofNat 98] }]) 2 [.s { data := #[UInt8.ofNat 47, UInt8.ofNat 99] }]) 3 [.s { data := #[UInt8.ofNat 47, UInt8.ofNat 100] }]) 4 [.s { data := #[UInt8.ofNat 47, UInt8.ofNat 101] }]) 5 [.s { data := #[UInt8.ofNat 47, UInt8.ofNat 102] }]) 6 [.s { data := #[UInt8.ofNat 47, UInt8.ofNat 103] }]) 7 [.s { data := #[UInt8.ofNat 47, UInt8.ofNat 104] }]) then kr (U164.v a d e (List.set (List.set (List.set (List.set (List.set (List.set (List.set (List.set (zeros [.s] 8) 0 [.s { data := #[UInt8.ofNat 47, UInt8.ofNat 97] }]) 1 [.s { data := #[UInt8.ofNat 47, UInt8.ofNat 98] }]) 2 [.s { data := #[UInt8.ofNat 47, UInt8.ofNat 99] }]) 3 [.s { data := #[UInt8.ofNat 47, UInt8.ofNat 100] }]) 4 [.s { data := #[UInt8.ofNat 47, UInt8.ofNat 101] }]) 5 [.s { data := #[UInt8.ofNat 47, UInt8.ofNat 102] }]) 6 [.s { data := #[UInt8.ofNat 47, UInt8.ofNat 103] }]) 7 [.s { data := #[UInt8.ofNat 47, UInt8.ofNat 104] }])).1 (U164.v a d e (List.set (List.set (List.set (List.set (List.set (List.set (List.set (List.set (zeros [.s] 8) 0 [.s { data := #[UInt8.ofNat 47, UInt8.ofNat 97] }]) 1 [.s { data := #[UInt8.ofNat 47, UInt8.ofNat 98] }]) 2 [.s { data := #[UInt8.ofNat 47, UInt8.ofNat 99] }]) 3 [.s { data := #[UInt8.ofNat 47, UInt8.ofNat 100] }]) 4 [.s { data := #[UInt8.ofNat 47, UInt8.ofNat 101] }]) 5 [.s { data := #[UInt8.ofNat 47, UInt8.ofNat 102] }]) 6 [.s { data := #[UInt8.ofNat 47, UInt8.ofNat 103] }]) 7 [.s { data := #[UInt8.ofNat 47, UInt8.ofNat 104] }])).2.1 (U164.v a d e (List.set (List.set (List.set (List.set (List.set (List.set (List.set (List.set (zeros [.s] 8) 0 [.s { data := #[UInt8.ofNat 47, UInt8.ofNat 97] }]) 1 [.s { data := #[UInt8.ofNat 47, UInt8.ofNat 98] }]) 2 [.s { data := #[UInt8.ofNat 47, UInt8.ofNat 99] }]) 3 [.s { data := #[UInt8.ofNat 47, UInt8.ofNat 100] }]) 4 [.s { data := #[UInt8.ofNat 47, UInt8.ofNat 101] }]) 5 [.s { data := #[UInt8.ofNat 47, UInt8.ofNat 102] }]) 6 [.s { data := #[UInt8.ofNat 47, UInt8.ofNat 103] }]) 7 [.s { data := #[UInt8.ofNat 47, UInt8.ofNat 104] }])).2.2.1 (U164.v a d e (List.set (List.set (List.set (List.set (List.set (List.set (List.set (List.set (zeros [.s] 8) 0 [.s { data := #[UInt8.ofNat 47, UInt8.ofNat 97] }]) 1 [.s { data := #[UInt8.ofNat 47, UInt8.ofNat 98] }]) 2 [.s { data := #[UInt8.ofNat 47, UInt8.ofNat 99] }]) 3 [.s { data := #[UInt8.ofNat 47, UInt8.ofNat 100] }]) 4 [.s { data := #[UInt8.ofNat 47, UInt8.ofNat 101] }]) 5 [.s { data := #[UInt8.ofNat 47, UInt8.ofNat 102] }]) 6 [.s { data := #[UInt8.ofNat 47, UInt8.ofNat 103] }]) 7 [.s { data := #[UInt8.ofNat 47, UInt8.ofNat 104] }])).2.2.2.1 else none
def vo := b fun r0 r1 r2 r3 => some (r0, r1, r2, r3)
def c := fun a d e => (vo a d e).isSome
def v := fun a d e => (vo a d e).getD (⟨#[]⟩, [], 0, 0)
theorem out {x} : ∀ a d e, vo a d e = some x -> c a d e = true /\ v a d e = x := fun _ _ _ => Lib.out_
end Go.FG.U161

namespace Go.FG.U162
def b {R : Type} (kr : F_iriir R) (a : Row) (d e : Int) (f : Row) : Option R := bif U59.c a d e (f.length : Int) then bif decide (0 <= (U59.v a d e (f.length : Int)).1) && decide ((U59.v a d e (f.length : Int)).1 < (f.length : Int)) then kr (cvI (cellAt f (U59.v a d e (f.length : Int)).1.toNat 0)) (U59.v a d e (f.length : Int)).2.1 (U59.v a d e (f.length : Int)).2.2.1 (U59.v a d e (f.length : Int)).2.2.2 f else none else none
def vo := b fun r0 r1 r2 r3 r4 => some (r0, r1, r2, r3, r4)
def c := fun a d e f => (vo a d e f).isSome
def v := fun a d e f => (vo a d e f).getD (0, [], 0, 0, [])
theorem out {x} : ∀ a d e f, vo a d e f = some x -> c a d e f = true /\ v a d e f = x := fun _ _ _ _ => Lib.out_
end Go.FG.U162

namespace Go.FG.U163
def r5 {R : Type} (N : Nat) (g k0 : F_iiriir R) (a d : Int) (e : Row) (f h : Int) (i : Row) : Option R := bif decide (d < a) then bif U58.c e f h then bif roomy (i.length + (List.set (zeros [Ck.i IntKind.u8] 1) 0 [CV.i IntKind.u8 (IntKind.wrap IntKind.u8 (U58.v e f h).1)]).length) 1 then g a (w64 (d + 1)) (U58.v e f h).2.1 (U58.v e f h).2.2.1 (U58.v e f h).2.2.2 (i ++ List.set (zeros [Ck.i IntKind.u8] 1) 0 [CV.i IntKind.u8 (IntKind.wrap IntKind.u8 (U58.v e f h).1)]) else none else none else k0 a d e f h i
def l5 {R : Type} (N : Nat) (k0 : F_iiriir R) : Nat -> F_iiriir R
 | 0 => fun _ _ _ _ _ _ => none
 | n + 1 => r5 N (l5 N k0 n) k0
def b {R : Type} (N : Nat) (kr : F_srii R) (a : Row) (d e f : Int) : Option R := bif decide (f > 5000) then l5 N (fun _ _ h i j l => bif decide (l.length <= 4611686018427387904) then kr (bytesOf l) h i j else none) N 5000 0 a d e (zeros [Ck.i IntKind.u8] 0) else l5 N (fun _ _ m o p q => bif decide (q.length <= 4611686018427387904) then kr (bytesOf q) m o p else none) N f 0 a d e (zeros [Ck.i IntKind.u8] 0)
def vo := b Lib.big fun r0 r1 r2 r3 => some (r0, r1, r2, r3)
def c := fun a d e f => (vo a d e f).isSome
def v := fun a d e f => (vo a d e f).getD (⟨#[]⟩, [], 0, 0)
theorem out {x} : ∀ a d e f, vo a d e f = some x -> c a d e f = true /\ v a d e f = x := fun _ _ _ _ => Lib.out_
end Go.FG.U163

namespace Go.FG.U72
def b {R : Type} (kr : F_siisrii R) (a : Row) (d e : Int) : Option R := bif U161.c a d e then Lib.lt (U161.v a d e) fun f => bif U59.c f.2.1 f.2.2.1 f.2.2.2 20 then Lib.lt (U59.v f.2.1 f.2.2.1 f.2.2.2 20) fun h => bif U162.c h.2.1 h.2.2.1 h.2.2.2 (List.set (List.set (List.set (List.set (zeros [Ck.i IntKind.i64] 4) 0 [.i .i64 1]) 1 [.i .i64 5]) 2 [.i .i64 60]) 3 [.i .i64 999999]) then Lib.lt (U162.v h.2.1 h.2.2.1 h.2.2.2 (List.set (List.set (List.set (List.set (zeros [Ck.i IntKind.i64] 4) 0 [.i .i64 1]) 1 [.i .i64 5]) 2 [.i .i64 60]) 3 [.i .i64 999999])) fun i => bif U59.c i.2.1 i.2.2.1 i.2.2.2.1 9 then Lib.lt (U59.v i.2.1 i.2.2.1 i.2.2.2.1 9) fun j => bif U163.c j.2.1 j.2.2.1 j.2.2.2 j.1 then kr f.1 (w64 (1 + h.1)) i.1 (U163.v j.2.1 j.2.2.1 j.2.2.2 j.1).1 (U163.v j.2.1 j.2.2.1 j.2.2.2 j.1).2.1 (U163.v j.2.1 j.2.2.1 j.2.2.2 j.1).2.2.1 (U163.v j.2.1 j.2.2.1 j.2.2.2 j.1).2.2.2 else none else none else none else none else none
def vo := b fun r0 r1 r2 r3 r4 r5 r6 => some (r0, r1, r2, r3, r4, r5, r6)
def c := fun a d e => (vo a d e).isSome
def v := fun a d e => (vo a d e).getD (⟨#[]⟩, 0, 0, ⟨#[]⟩, [], 0, 0)
theorem out {x} : ∀ a d e, vo a d e = some x -> c a d e = true /\ v a d e = x := fun _ _ _ => Lib.out_
end Go.FG.U72

namespace Go.FG.U122
def b {R : Type} (kr : Bool -> Option R) (a d e : Int) : Option R := bif decide (a ≥ d) then kr (decide (a <= e)) else kr false
def v (a0 a1 a2 : Int) : Bool := bif decide (a0 ≥ a1) then decide (a0 <= a2) else false
theorem b_eq {R : Type} (kr : Bool -> Option R) (a0 a1 a2 : Int) : b kr a0 a1 a2 = kr (v a0 a1 a2) := by
 first | rfl | (unfold b v; simp only [Bool.cond_eq_ite]; (repeat' split) <;> rfl)
end Go.FG.U122

namespace Go.FG.U101
def b {R : Type} (kr : Bool -> Option R) (a : ByteArray) : Option R := kr (U122.v (a.size : Int) 1 30)
def v (a0 : ByteArray) : Bool := (U122.v (a0.size : Int) 1 30)
theorem b_eq {R : Type} (kr : Bool -> Option R) (a0 : ByteArray) : b kr a0 = kr (v a0) := by
 first | rfl | (unfold b v; simp only [Bool.cond_eq_ite]; (repeat' split) <;> rfl)
end Go.FG.U101

namespace Go.FG.U149
def b {R : Type} (kr : Bool -> Option R) (a : ByteArray) (d e : Int) (f : ByteArray) : Option R := bif U101.v a then bif U122.v d 0 1000000000 then bif U122.v e 1 999999 then kr (decide ((f.size : Int) <= 400)) else kr false else kr false else kr false
def v (a0 : ByteArray) (a1 a2 : Int) (a3 : ByteArray) : Bool := bif U101.v a0 then bif U122.v a1 0 1000000000 then bif U122.v a2 1 999999 then decide ((a3.size : Int) <= 400) else false else false else false
theorem b_eq {R : Type} (kr : Bool -> Option R) (a0 : ByteArray) (a1 a2 : Int) (a3 : ByteArray) : b kr a0 a1 a2 a3 = kr (v a0 a1 a2 a3) := by
 first | rfl | (unfold b v; simp only [Bool.cond_eq_ite]; (repeat' split) <;> rfl)
theorem rng {k : ByteArray} {s l : Int} {b : ByteArray} (h : v k s l b = true) : (1 <= k.size /\ k.size <= 30) /\ (0 <= s /\ s <= 1000000000) /\ (1 <= l /\ l <= 999999) /\ b.size <= 400 := by
 unfold v at h
 cases h1 : U101.v k <;> rw [h1] at h <;> simp only [cond_true, cond_false, Bool.false_eq_true] at h
 cases h2 : U122.v s 0 1000000000 <;> rw [h2] at h <;> simp only [cond_true, cond_false, Bool.false_eq_true] at h
 cases h3 : U122.v l 1 999999 <;> rw [h3] at h <;> simp only [cond_true, cond_false, Bool.false_eq_true] at h
 simp [U101.v, U122.v] at h1 h2 h3
 have := of_decide_eq_true h
 omega
end Go.FG.U149

namespace Go.FG.U150
def r2 {R : Type} (N : Nat) (g k0 : F_ir R) (a : Int) (d : Row) : Option R := bif decide (a > 127) then bif roomy (d.length + (List.set (zeros [Ck.i IntKind.u8] 1) 0 [CV.i IntKind.u8 (IntKind.wrap IntKind.u8 (w64 (Int.tmod a 128 + 128)))]).length) 1 then g (w64 (Int.tdiv a 128)) (d ++ List.set (zeros [Ck.i IntKind.u8] 1) 0 [CV.i IntKind.u8 (IntKind.wrap IntKind.u8 (w64 (Int.tmod a 128 + 128)))]) else none else k0 a d
def l2 {R : Type} (N : Nat) (k0 : F_ir R) : Nat -> F_ir R
 | 0 => fun _ _ => none
 | n + 1 => r2 N (l2 N k0 n) k0
def b {R : Type} (N : Nat) (kr : ByteArray -> Option R) (a : Int) : Option R := l2 N (fun d e => bif roomy (e.length + (List.set (zeros [Ck.i IntKind.u8] 1) 0 [CV.i IntKind.u8 (IntKind.wrap IntKind.u8 d)]).length) 1 then bif decide ((e ++ List.set (zeros [Ck.i IntKind.u8] 1) 0 [CV.i IntKind.u8 (IntKind.wrap IntKind.u8 d)]).length <= 4611686018427387904) then kr (bytesOf (e ++ List.set (zeros [Ck.i IntKind.u8] 1) 0 [CV.i IntKind.u8 (IntKind.wrap IntKind.u8 d)])) else none else none) N a (zeros [Ck.i IntKind.u8] 0)
def v (n0 : Int) : ByteArray := bytesOf (Lib.vb n0)
def c (n0 : Int) : Bool := decide (n0 <= 9223372036854775807)
theorem b_eq {R : Type} (kr : ByteArray -> Option R) (n0 : Int) (hc : c n0 = true) : ∃ N, b N kr n0 = kr (v n0) := by
 refine ⟨n0.toNat + 1, ?_⟩
 refine Lib.var_run (fun n x acc => l2 (n0.toNat + 1) _ n x acc) kr (fun n x acc h hl => ?_) (fun n x acc h hl => ?_) n0 (of_decide_eq_true hc)
 ·simp only [l2, r2, h, decide_true, cond_true, Lib.len_set1, show acc.length + List.length [[CV.i IntKind.u8 (IntKind.wrap IntKind.u8 (w64 (Int.tmod x 128 + 128)))]] = acc.length + 1 from rfl, Lib.roomy1 (show acc.length + 1 <= 140737488355328 by omega), show decide ((128 : Int) = 0) = false from rfl, Bool.and_false, Bool.not_false]
 ·simp only [l2, r2, h, decide_false, cond_false, Lib.len_set1, show acc.length + List.length [[CV.i IntKind.u8 (IntKind.wrap IntKind.u8 x)]] = acc.length + 1 from rfl, Lib.roomy1 (show acc.length + 1 <= 140737488355328 by omega), cond_true]
  exact Lib.bif_t (Lib.dec_t (by rw [List.length_append, List.length_singleton]; omega))
end Go.FG.U150

namespace Go.FG.U63
def b {R : Type} (kr : F_sb R) (a : ByteArray) (d e : Int) (f : ByteArray) : Option R := bif !U149.v a d e f then kr ⟨#[]⟩ false else bif U150.c (a.size : Int) then bif decide ((U150.v (a.size : Int)).size + a.size <= 4611686018427387904) then bif U150.c d then bif decide ((U150.v (a.size : Int) ++ a).size + (U150.v d).size <= 4611686018427387904) then bif U150.c e then bif decide ((U150.v (a.size : Int) ++ a ++ U150.v d).size + (U150.v e).size <= 4611686018427387904) then bif decide ((U150.v (a.size : Int) ++ a ++ U150.v d ++ U150.v e).size + f.size <= 4611686018427387904) then kr (U150.v (a.size : Int) ++ a ++ U150.v d ++ U150.v e ++ f) true else none else none else none else none else none else none else none
def txt (k : ByteArray) (s l : Int) (b : ByteArray) : ByteArray := bytesOf (Lib.vb k.size) ++ k ++ bytesOf (Lib.vb s) ++ bytesOf (Lib.vb l) ++ b
def v (e0_0 : ByteArray) (e0_1 : Int) (e0_2 : Int) (e0_3 : ByteArray) : ByteArray × Bool := if U149.v e0_0 e0_1 e0_2 e0_3 = true then (txt e0_0 e0_1 e0_2 e0_3, true) else (⟨#[]⟩, false)
theorem b_eq {R : Type} (kr : F_sb R) (e0_0 : ByteArray) (e0_1 : Int) (e0_2 : Int) (e0_3 : ByteArray) : b kr e0_0 e0_1 e0_2 e0_3 = kr (v e0_0 e0_1 e0_2 e0_3).1 (v e0_0 e0_1 e0_2 e0_3).2 := by
 unfold b v
 cases h : U149.v e0_0 e0_1 e0_2 e0_3 with
 | false => rfl
 | true =>
  have hr := U149.rng h
  have cc : ∀ x : Int, x <= 9223372036854775807 -> U150.c x = true := fun x hx => decide_eq_true hx
  have z1 : (U150.v (e0_0.size : Int)).size <= 64 := Lib.var_size (x := (e0_0.size : Int)) (by omega)
  have z2 : (U150.v e0_1).size <= 64 := Lib.var_size (x := e0_1) (by omega)
  have z3 : (U150.v e0_2).size <= 64 := Lib.var_size (x := e0_2) (by omega)
  simp (disch := omega) only [Bool.not_true, cond_false, cc _ (show (e0_0.size : Int) <= 9223372036854775807 by omega), cc e0_1 (by omega), cc e0_2 (by omega), cond_true, if_true, Lib.size_app, Lib.dnat]
  rfl
end Go.FG.U63

namespace Go.FG.U212
def r6 {R : Type} (N : Nat) (g k0 : F_isii R) (a : Int) (d : ByteArray) (e f : Int) : Option R := bif decide (f < 8) then bif decide (Int.tmod a 2 = 1) then g (IntKind.wrap IntKind.u32 (↑(BitVec.toNat (BitVec.xor (BitVec.ofInt 32 (IntKind.wrap IntKind.u32 (Int.tdiv a 2))) (BitVec.ofInt 32 3558460437))) : Int)) d e (w64 (f + 1)) else g (IntKind.wrap IntKind.u32 (Int.tdiv a 2)) d e (w64 (f + 1)) else k0 a d e f
def l6 {R : Type} (N : Nat) (k0 : F_isii R) : Nat -> F_isii R
 | 0 => fun _ _ _ _ => none
 | n + 1 => r6 N (l6 N k0 n) k0
def r2 {R : Type} (N : Nat) (g k0 : F_isi R) (a : Int) (d : ByteArray) (e : Int) : Option R := bif decide (e < (d.size : Int)) then bif decide (0 <= e) && decide (e < (d.size : Int)) then l6 N (fun f h i _ => g f h (w64 (i + 1))) N (IntKind.wrap IntKind.u32 (↑(BitVec.toNat (BitVec.xor (BitVec.ofInt 32 a) (BitVec.ofInt 32 (IntKind.wrap IntKind.u32 (↑(btN d e.toNat) : Int))))) : Int)) d e 0 else none else k0 a d e
def l2 {R : Type} (N : Nat) (k0 : F_isi R) : Nat -> F_isi R
 | 0 => fun _ _ _ => none
 | n + 1 => r2 N (l2 N k0 n) k0
def b {R : Type} (N : Nat) (kr : Int -> Option R) (a : Int) (d : ByteArray) : Option R := l2 N (fun e _ _ => kr e) N a d 0
def vo := b Lib.big fun r0 => some r0
def c := fun a d => (vo a d).isSome
def v := fun a d => (vo a d).getD (0)
theorem out {x} : ∀ a d, vo a d = some x -> c a d = true /\ v a d = x := fun _ _ => Lib.out_
end Go.FG.U212

namespace Go.FG.U152
def b {R : Type} (kr : Int -> Option R) (a : ByteArray) : Option R := bif U212.c 4294967295 a then kr (U212.v 4294967295 a) else none
def vo := b fun r0 => some r0
def c := fun a => (vo a).isSome
def v := fun a => (vo a).getD (0)
theorem out {x} : ∀ a, vo a = some x -> c a = true /\ v a = x := fun _ => Lib.out_
end Go.FG.U152

namespace Go.FG.U151
def b {R : Type} (kr : ByteArray -> Option R) (a : Int) : Option R := kr (bytesOf (List.set (List.set (List.set (List.set (zeros [Ck.i IntKind.u8] 4) 0 [CV.i IntKind.u8 (IntKind.wrap IntKind.u8 (Int.fdiv a (Int.pow 2 (if Int.toNat 24 <= 32 then Int.toNat 24 else 32))))]) 1 [CV.i IntKind.u8 (IntKind.wrap IntKind.u8 (Int.fdiv a (Int.pow 2 (if Int.toNat 16 <= 32 then Int.toNat 16 else 32))))]) 2 [CV.i IntKind.u8 (IntKind.wrap IntKind.u8 (Int.fdiv a (Int.pow 2 (if Int.toNat 8 <= 32 then Int.toNat 8 else 32))))]) 3 [CV.i IntKind.u8 (IntKind.wrap IntKind.u8 a)]))
def v (a0 : Int) : ByteArray := (bytesOf (List.set (List.set (List.set (List.set (zeros [Ck.i IntKind.u8] 4) 0 [CV.i IntKind.u8 (IntKind.wrap IntKind.u8 (Int.fdiv a0 (Int.pow 2 (if Int.toNat 24 <= 32 then Int.toNat 24 else 32))))]) 1 [CV.i IntKind.u8 (IntKind.wrap IntKind.u8 (Int.fdiv a0 (Int.pow 2 (if Int.toNat 16 <= 32 then Int.toNat 16 else 32))))]) 2 [CV.i IntKind.u8 (IntKind.wrap IntKind.u8 (Int.fdiv a0 (Int.pow 2 (if Int.toNat 8 <= 32 then Int.toNat 8 else 32))))]) 3 [CV.i IntKind.u8 (IntKind.wrap IntKind.u8 a0)]))
theorem b_eq {R : Type} (kr : ByteArray -> Option R) (a0 : Int) : b kr a0 = kr (v a0) := by
 first | rfl | (unfold b v; simp only [Bool.cond_eq_ite]; (repeat' split) <;> rfl)
end Go.FG.U151

namespace Go.FG.U64
def b {R : Type} (kr : F_sb R) (a : ByteArray) : Option R := bif !U122.v (a.size : Int) 1 9000 then kr ⟨#[]⟩ false else bif U150.c (a.size : Int) then bif U152.c a then bif decide ((U150.v (a.size : Int)).size + (U151.v (U152.v a)).size <= 4611686018427387904) then bif decide ((U150.v (a.size : Int) ++ U151.v (U152.v a)).size + a.size <= 4611686018427387904) then kr (U150.v (a.size : Int) ++ U151.v (U152.v a) ++ a) true else none else none else none else none
def vo := b fun r0 r1 => some (r0, r1)
def c := fun a => (vo a).isSome
def v := fun a => (vo a).getD (⟨#[]⟩, false)
theorem out {x} : ∀ a, vo a = some x -> c a = true /\ v a = x := fun _ => Lib.out_
end Go.FG.U64

namespace Go.FG.U140
def b {R : Type} (kr : F_rb R) (a : ByteArray) (d e : Int) (f : ByteArray) : Option R := bif U64.c (U63.v a d e f).1 then bif !(U63.v a d e f).2 then kr (zeros [Ck.i IntKind.i64, Ck.s, Ck.s, Ck.s] 0) false else bif !(U64.v (U63.v a d e f).1).2 then kr (zeros [Ck.i IntKind.i64, Ck.s, Ck.s, Ck.s] 0) false else kr (List.set (List.set (zeros [Ck.i IntKind.i64, Ck.s, Ck.s, Ck.s] 2) 0 [.i .i64 1, .s { data := #[UInt8.ofNat 107, UInt8.ofNat 101, UInt8.ofNat 112, UInt8.ofNat 116] }, .s (U64.v (U63.v a d e f).1).1, .s ⟨#[]⟩]) 1 [.i .i64 2, .s { data := #[UInt8.ofNat 107, UInt8.ofNat 101, UInt8.ofNat 112, UInt8.ofNat 116] }, .s ⟨#[]⟩, .s ⟨#[]⟩]) true else none
def vo := b fun r0 r1 => some (r0, r1)
def c := fun a d e f => (vo a d e f).isSome
def v := fun a d e f => (vo a d e f).getD ([], false)
theorem out {x} : ∀ a d e f, vo a d e f = some x -> c a d e f = true /\ v a d e f = x := fun _ _ _ _ => Lib.out_
end Go.FG.U140

namespace Go.FG.U142
def b {R : Type} (kr : Bool -> Option R) (a : ByteArray) : Option R := kr (U122.v (a.size : Int) 1 8)
def v (a0 : ByteArray) : Bool := (U122.v (a0.size : Int) 1 8)
theorem b_eq {R : Type} (kr : Bool -> Option R) (a0 : ByteArray) : b kr a0 = kr (v a0) := by
 first | rfl | (unfold b v; simp only [Bool.cond_eq_ite]; (repeat' split) <;> rfl)
end Go.FG.U142

namespace Go.FG.U53
def r4 {R : Type} (N : Nat) (g k0 k1 : F_bir R) (a : Bool) (d : Int) (e : Row) : Option R := bif decide (d < (e.length : Int)) then bif decide (0 <= d) && decide (d < (e.length : Int)) then bif !U142.v (cvS (cellAt e d.toNat 0)) then k0 false d e else bif decide (((cvS (cellAt e d.toNat 1)).size : Int) > 20000) then k0 false d e else bif !U122.v (cvI (cellAt e d.toNat (1 + 1))) 0 ((cvS (cellAt e d.toNat 1)).size : Int) then k0 false d e else bif decide (d > 0) then bif decide (0 <= w64 (d - 1)) && decide (w64 (d - 1) < (e.length : Int)) then bif !Op.bytesLess (cvS (cellAt e (w64 (d - 1)).toNat 0)).toList (cvS (cellAt e d.toNat 0)).toList then k0 false d e else g a (w64 (d + 1)) e else none else g a (w64 (d + 1)) e else none else k1 a d e
def l4 {R : Type} (N : Nat) (k0 k1 : F_bir R) : Nat -> F_bir R
 | 0 => fun _ _ _ => none
 | n + 1 => r4 N (l4 N k0 k1 n) k0 k1
def b {R : Type} (N : Nat) (kr : Bool -> Option R) (a : Row) : Option R := bif decide ((a.length : Int) > 30) then kr false else l4 N (fun d _ _ => kr d) (fun _ _ _ => kr true) N false 0 a
def vo := b Lib.big fun r0 => some r0
def c := fun a => (vo a).isSome
def v := fun a => (vo a).getD false
theorem out {x} : ∀ a, vo a = some x -> c a = true /\ v a = x := fun _ => Lib.out_
end Go.FG.U53

namespace Go.FG.U143
def r2 {R : Type} (N : Nat) (g k0 k1 : F_siir R) (a : ByteArray) (d e : Int) (f : Row) : Option R := bif decide (e < (f.length : Int)) then bif decide (0 <= e) && decide (e < (f.length : Int)) then bif List.beq (cvS (cellAt f e.toNat 0)).toList (ByteArray.toList a) then k0 a e e f else g a d (w64 (e + 1)) f else none else k1 a d e f
def l2 {R : Type} (N : Nat) (k0 k1 : F_siir R) : Nat -> F_siir R
 | 0 => fun _ _ _ _ => none
 | n + 1 => r2 N (l2 N k0 k1 n) k0 k1
def b {R : Type} (N : Nat) (kr : Int -> Option R) (a : Row) (d : ByteArray) : Option R := l2 N (fun _ e _ _ => kr e) (fun _ _ _ _ => kr (-1)) N d 0 0 a
def vo := b Lib.big fun r0 => some r0
def c := fun a d => (vo a d).isSome
def v := fun a d => (vo a d).getD (0)
theorem out {x} : ∀ a d, vo a d = some x -> c a d = true /\ v a d = x := fun _ _ => Lib.out_
end Go.FG.U143

namespace Go.FG.U166
def r9 {R : Type} (N : Nat) (g k0 : F_irssir R) (a : Int) (d : Row) (e f : ByteArray) (h : Int) (i : Row) : Option R := bif decide (a < (d.length : Int)) then bif decide (0 <= a) && decide (a < (d.length : Int)) then bif !(Op.bytesLess (cvS (cellAt d a.toNat 0)).toList (ByteArray.toList e) || List.beq (cvS (cellAt d a.toNat 0)).toList (ByteArray.toList e)) then bif decide (0 <= a) && decide (a < (d.length : Int)) then bif roomy (i.length + (List.set (zeros [Ck.s, Ck.s, Ck.i IntKind.i64] 1) 0 [.s (cvS (cellAt d a.toNat 0)), .s (cvS (cellAt d a.toNat 1)), .i .i64 (cvI (cellAt d a.toNat (1 + 1)))]).length) 40 then g (w64 (a + 1)) d e f h (i ++ List.set (zeros [Ck.s, Ck.s, Ck.i IntKind.i64] 1) 0 [.s (cvS (cellAt d a.toNat 0)), .s (cvS (cellAt d a.toNat 1)), .i .i64 (cvI (cellAt d a.toNat (1 + 1)))]) else none else none else g (w64 (a + 1)) d e f h i else none else k0 a d e f h i
def l9 {R : Type} (N : Nat) (k0 : F_irssir R) : Nat -> F_irssir R
 | 0 => fun _ _ _ _ _ _ => none
 | n + 1 => r9 N (l9 N k0 n) k0
def r3 {R : Type} (N : Nat) (g : F_irssi R) (g1 : F_irssir R) (k0 : F_irssi R) (k1 : F_irssir R) (a : Int) (d : Row) (e f : ByteArray) (h : Int) : Option R := bif decide (a < (d.length : Int)) then bif decide (0 <= a) && decide (a < (d.length : Int)) then bif Op.bytesLess (cvS (cellAt d a.toNat 0)).toList (ByteArray.toList e) then bif decide (0 <= a) && decide (a < (d.length : Int)) then g1 (w64 (a + 1)) d e f h ([] ++ List.set (zeros [Ck.s, Ck.s, Ck.i IntKind.i64] 1) 0 [.s (cvS (cellAt d a.toNat 0)), .s (cvS (cellAt d a.toNat 1)), .i .i64 (cvI (cellAt d a.toNat (1 + 1)))]) else none else g (w64 (a + 1)) d e f h else none else k0 a d e f h
def r3a {R : Type} (N : Nat) (g : F_irssi R) (g1 : F_irssir R) (k0 : F_irssi R) (k1 : F_irssir R) (a : Int) (d : Row) (e f : ByteArray) (h : Int) (i : Row) : Option R := bif decide (a < (d.length : Int)) then bif decide (0 <= a) && decide (a < (d.length : Int)) then bif Op.bytesLess (cvS (cellAt d a.toNat 0)).toList (ByteArray.toList e) then bif decide (0 <= a) && decide (a < (d.length : Int)) then bif roomy (i.length + (List.set (zeros [Ck.s, Ck.s, Ck.i IntKind.i64] 1) 0 [.s (cvS (cellAt d a.toNat 0)), .s (cvS (cellAt d a.toNat 1)), .i .i64 (cvI (cellAt d a.toNat (1 + 1)))]).length) 40 then g1 (w64 (a + 1)) d e f h (i ++ List.set (zeros [Ck.s, Ck.s, Ck.i IntKind.i64] 1) 0 [.s (cvS (cellAt d a.toNat 0)), .s (cvS (cellAt d a.toNat 1)), .i .i64 (cvI (cellAt d a.toNat (1 + 1)))]) else none else none else g1 (w64 (a + 1)) d e f h i else none else k1 a d e f h i
def l3a {R : Type} (N : Nat) (k0 : F_irssi R) (k1 : F_irssir R) : Nat -> F_irssir R
 | 0 => fun _ _ _ _ _ _ => none
 | n + 1 => r3a N (fun x0 x1 x2 x3 x4 => none) (l3a N k0 k1 n) k0 k1
def l3 {R : Type} (N : Nat) (k0 : F_irssi R) (k1 : F_irssir R) : Nat -> F_irssi R
 | 0 => fun _ _ _ _ _ => none
 | n + 1 => r3 N (l3 N k0 k1 n) (l3a N k0 k1 n) k0 k1
def b {R : Type} (N : Nat) (kr : Row -> Option R) (a : Row) (d e : ByteArray) (f : Int) : Option R := l3 N (fun _ h i j l => l9 N (fun _ _ _ _ _ m => kr m) N 0 h i j l ([] ++ List.set (zeros [Ck.s, Ck.s, Ck.i IntKind.i64] 1) 0 [.s i, .s j, .i .i64 l])) (fun _ o p q r s => bif roomy (s.length + (List.set (zeros [Ck.s, Ck.s, Ck.i IntKind.i64] 1) 0 [.s p, .s q, .i .i64 r]).length) 40 then l9 N (fun _ _ _ _ _ t => kr t) N 0 o p q r (s ++ List.set (zeros [Ck.s, Ck.s, Ck.i IntKind.i64] 1) 0 [.s p, .s q, .i .i64 r]) else none) N 0 a d e f
def vo := b Lib.big fun r0 => some r0
def c := fun a d e f => (vo a d e f).isSome
def v := fun a d e f => (vo a d e f).getD ([])
theorem out {x} : ∀ a d e f, vo a d e f = some x -> c a d e f = true /\ v a d e f = x := fun _ _ _ _ => Lib.out_
end Go.FG.U166

namespace Go.FG.U167
def r3 {R : Type} (N : Nat) (g : F_sir R) (g1 : F_sirr R) (k0 : F_sir R) (k1 : F_sirr R) (a : ByteArray) (d : Int) (e : Row) : Option R := bif decide (d < (e.length : Int)) then bif decide (0 <= d) && decide (d < (e.length : Int)) then bif !List.beq (cvS (cellAt e d.toNat 0)).toList (ByteArray.toList a) then bif decide (0 <= d) && decide (d < (e.length : Int)) then g1 a (w64 (d + 1)) e ([] ++ List.set (zeros [Ck.s, Ck.s, Ck.i IntKind.i64] 1) 0 [.s (cvS (cellAt e d.toNat 0)), .s (cvS (cellAt e d.toNat 1)), .i .i64 (cvI (cellAt e d.toNat (1 + 1)))]) else none else g a (w64 (d + 1)) e else none else k0 a d e
def r3a {R : Type} (N : Nat) (g : F_sir R) (g1 : F_sirr R) (k0 : F_sir R) (k1 : F_sirr R) (a : ByteArray) (d : Int) (e f : Row) : Option R := bif decide (d < (e.length : Int)) then bif decide (0 <= d) && decide (d < (e.length : Int)) then bif !List.beq (cvS (cellAt e d.toNat 0)).toList (ByteArray.toList a) then bif decide (0 <= d) && decide (d < (e.length : Int)) then bif roomy (f.length + (List.set (zeros [Ck.s, Ck.s, Ck.i IntKind.i64] 1) 0 [.s (cvS (cellAt e d.toNat 0)), .s (cvS (cellAt e d.toNat 1)), .i .i64 (cvI (cellAt e d.toNat (1 + 1)))]).length) 40 then g1 a (w64 (d + 1)) e (f ++ List.set (zeros [Ck.s, Ck.s, Ck.i IntKind.i64] 1) 0 [.s (cvS (cellAt e d.toNat 0)), .s (cvS (cellAt e d.toNat 1)), .i .i64 (cvI (cellAt e d.toNat (1 + 1)))]) else none else none else g1 a (w64 (d + 1)) e f else none else k1 a d e f
def l3a {R : Type} (N : Nat) (k0 : F_sir R) (k1 : F_sirr R) : Nat -> F_sirr R
 | 0 => fun _ _ _ _ => none
 | n + 1 => r3a N (fun x0 x1 x2 => none) (l3a N k0 k1 n) k0 k1
def l3 {R : Type} (N : Nat) (k0 : F_sir R) (k1 : F_sirr R) : Nat -> F_sir R
 | 0 => fun _ _ _ => none
 | n + 1 => r3 N (l3 N k0 k1 n) (l3a N k0 k1 n) k0 k1
def b {R : Type} (N : Nat) (kr : Row -> Option R) (a : Row) (d : ByteArray) : Option R := l3 N (fun _ _ _ => kr []) (fun _ _ _ e => kr e) N d 0 a
def vo := b Lib.big fun r0 => some r0
def c := fun a d => (vo a d).isSome
def v := fun a d => (vo a d).getD ([])
theorem out {x} : ∀ a d, vo a d = some x -> c a d = true /\ v a d = x := fun _ _ => Lib.out_
end Go.FG.U167

namespace Go.FG.U74
def b {R : Type} (kr : F_rb R) (a : Row) (d : Int) (e f h : ByteArray) : Option R := bif U53.c a then bif !U53.v a then kr [] false else bif !U142.v e then kr [] false else bif d != 3 then bif !List.beq (ByteArray.toList h) (ByteArray.toList ⟨#[]⟩) then kr [] false else bif d != 1 then bif !List.beq (ByteArray.toList f) (ByteArray.toList ⟨#[]⟩) then kr [] false else bif U143.c a e then Lib.lt (U143.v a e) fun i => bif decide (i ≥ 0) then bif decide (0 <= i) && decide (i < (a.length : Int)) then bif decide (d = 1) then bif decide ((cvS (cellAt a i.toNat 1)).size + f.size <= 4611686018427387904) then bif U166.c a (cvS (cellAt a i.toNat 0)) (cvS (cellAt a i.toNat 1) ++ f) (cvI (cellAt a i.toNat (1 + 1))) then Lib.lt (U166.v a (cvS (cellAt a i.toNat 0)) (cvS (cellAt a i.toNat 1) ++ f) (cvI (cellAt a i.toNat (1 + 1)))) fun j => bif U53.c j then bif !U53.v j then kr [] false else kr j true else none else none else none else bif decide (i < 0) then kr [] false else bif decide (d = 2) then bif U166.c a (cvS (cellAt a i.toNat 0)) (cvS (cellAt a i.toNat 1)) ((cvS (cellAt a i.toNat 1)).size : Int) then Lib.lt (U166.v a (cvS (cellAt a i.toNat 0)) (cvS (cellAt a i.toNat 1)) ((cvS (cellAt a i.toNat 1)).size : Int)) fun l => bif U53.c l then bif !U53.v l then kr [] false else kr l true else none else none else bif decide (d = 3) then bif decide (cvI (cellAt a i.toNat (1 + 1)) < ((cvS (cellAt a i.toNat 1)).size : Int)) then kr [] false else bif List.beq (ByteArray.toList h) (ByteArray.toList e) then kr [] false else bif !U142.v h then kr [] false else bif U167.c a e then bif U166.c (U167.v a e) h (cvS (cellAt a i.toNat 1)) (cvI (cellAt a i.toNat (1 + 1))) then bif U53.c (U166.v (U167.v a e) h (cvS (cellAt a i.toNat 1)) (cvI (cellAt a i.toNat (1 + 1)))) then bif !U53.v (U166.v (U167.v a e) h (cvS (cellAt a i.toNat 1)) (cvI (cellAt a i.toNat (1 + 1)))) then kr [] false else kr (U166.v (U167.v a e) h (cvS (cellAt a i.toNat 1)) (cvI (cellAt a i.toNat (1 + 1)))) true else none else none else none else bif decide (d = 4) then bif U167.c a e then bif U53.c (U167.v a e) then bif !U53.v (U167.v a e) then kr [] false else kr (U167.v a e) true else none else none else kr [] false else none else bif decide (d = 1) then bif decide (ByteArray.size ⟨#[]⟩ + f.size <= 4611686018427387904) then bif U166.c a e ({ data := #[] } ++ f) 0 then bif U53.c (U166.v a e ({ data := #[] } ++ f) 0) then bif !U53.v (U166.v a e ({ data := #[] } ++ f) 0) then kr [] false else kr (U166.v a e ({ data := #[] } ++ f) 0) true else none else none else none else bif decide (i < 0) then kr [] false else bif decide (d = 2) then bif U166.c a e ⟨#[]⟩ (ByteArray.size ⟨#[]⟩ : Int) then bif U53.c (U166.v a e ⟨#[]⟩ (ByteArray.size ⟨#[]⟩ : Int)) then bif !U53.v (U166.v a e ⟨#[]⟩ (ByteArray.size ⟨#[]⟩ : Int)) then kr [] false else kr (U166.v a e ⟨#[]⟩ (ByteArray.size ⟨#[]⟩ : Int)) true else none else none else bif decide (d = 3) then bif List.beq (ByteArray.toList h) (ByteArray.toList e) then kr [] false else bif !U142.v h then kr [] false else bif U167.c a e then bif U166.c (U167.v a e) h ⟨#[]⟩ 0 then bif U53.c (U166.v (U167.v a e) h ⟨#[]⟩ 0) then bif !U53.v (U166.v (U167.v a e) h ⟨#[]⟩ 0) then kr [] false else kr (U166.v (U167.v a e) h ⟨#[]⟩ 0) true else none else none else none else bif decide (d = 4) then bif U167.c a e then bif U53.c (U167.v a e) then bif !U53.v (U167.v a e) then kr [] false else kr (U167.v a e) true else none else none else kr [] false else none else bif U143.c a e then Lib.lt (U143.v a e) fun m => bif decide (m ≥ 0) then bif decide (0 <= m) && decide (m < (a.length : Int)) then bif decide (d = 1) then bif decide ((cvS (cellAt a m.toNat 1)).size + f.size <= 4611686018427387904) then bif U166.c a (cvS (cellAt a m.toNat 0)) (cvS (cellAt a m.toNat 1) ++ f) (cvI (cellAt a m.toNat (1 + 1))) then Lib.lt (U166.v a (cvS (cellAt a m.toNat 0)) (cvS (cellAt a m.toNat 1) ++ f) (cvI (cellAt a m.toNat (1 + 1)))) fun o => bif U53.c o then bif !U53.v o then kr [] false else kr o true else none else none else none else bif decide (m < 0) then kr [] false else bif decide (d = 2) then bif U166.c a (cvS (cellAt a m.toNat 0)) (cvS (cellAt a m.toNat 1)) ((cvS (cellAt a m.toNat 1)).size : Int) then Lib.lt (U166.v a (cvS (cellAt a m.toNat 0)) (cvS (cellAt a m.toNat 1)) ((cvS (cellAt a m.toNat 1)).size : Int)) fun p => bif U53.c p then bif !U53.v p then kr [] false else kr p true else none else none else bif decide (d = 3) then bif decide (cvI (cellAt a m.toNat (1 + 1)) < ((cvS (cellAt a m.toNat 1)).size : Int)) then kr [] false else bif List.beq (ByteArray.toList h) (ByteArray.toList e) then kr [] false else bif !U142.v h then kr [] false else bif U167.c a e then bif U166.c (U167.v a e) h (cvS (cellAt a m.toNat 1)) (cvI (cellAt a m.toNat (1 + 1))) then bif U53.c (U166.v (U167.v a e) h (cvS (cellAt a m.toNat 1)) (cvI (cellAt a m.toNat (1 + 1)))) then bif !U53.v (U166.v (U167.v a e) h (cvS (cellAt a m.toNat 1)) (cvI (cellAt a m.toNat (1 + 1)))) then kr [] false else kr (U166.v (U167.v a e) h (cvS (cellAt a m.toNat 1)) (cvI (cellAt a m.toNat (1 + 1)))) true else none else none else none else bif decide (d = 4) then bif U167.c a e then bif U53.c (U167.v a e) then bif !U53.v (U167.v a e) then kr [] false else kr (U167.v a e) true else none else none else kr [] false else none else bif decide (d = 1) then bif decide (ByteArray.size ⟨#[]⟩ + f.size <= 4611686018427387904) then bif U166.c a e ({ data := #[] } ++ f) 0 then bif U53.c (U166.v a e ({ data := #[] } ++ f) 0) then bif !U53.v (U166.v a e ({ data := #[] } ++ f) 0) then kr [] false else kr (U166.v a e ({ data := #[] } ++ f) 0) true else none else none else none else bif decide (m < 0) then kr [] false else bif decide (d = 2) then bif U166.c a e ⟨#[]⟩ (ByteArray.size ⟨#[]⟩ : Int) then bif U53.c (U166.v a e ⟨#[]⟩ (ByteArray.size ⟨#[]⟩ : Int)) then bif !U53.v (U166.v a e ⟨#[]⟩ (ByteArray.size ⟨#[]⟩ : Int)) then kr [] false else kr (U166.v a e ⟨#[]⟩ (ByteArray.size ⟨#[]⟩ : Int)) true else none else none else bif decide (d = 3) then bif List.beq (ByteArray.toList h) (ByteArray.toList e) then kr [] false else bif !U142.v h then kr [] false else bif U167.c a e then bif U166.c (U167.v a e) h ⟨#[]⟩ 0 then bif U53.c (U166.v (U167.v a e) h ⟨#[]⟩ 0) then bif !U53.v (U166.v (U167.v a e) h ⟨#[]⟩ 0) then kr [] false else kr (U166.v (U167.v a e) h ⟨#[]⟩ 0) true else none else none else none else bif decide (d = 4) then bif U167.c a e then bif U53.c (U167.v a e) then bif !U53.v (U167.v a e) then kr [] false else kr (U167.v a e) true else none else none else kr [] false else none else bif d != 1 then bif !List.beq (ByteArray.toList f) (ByteArray.toList ⟨#[]⟩) then kr [] false else bif U143.c a e then Lib.lt (U143.v a e) fun q => bif decide (q ≥ 0) then bif decide (0 <= q) && decide (q < (a.length : Int)) then bif decide (d = 1) then bif decide ((cvS (cellAt a q.toNat 1)).size + f.size <= 4611686018427387904) then bif U166.c a (cvS (cellAt a q.toNat 0)) (cvS (cellAt a q.toNat 1) ++ f) (cvI (cellAt a q.toNat (1 + 1))) then Lib.lt (U166.v a (cvS (cellAt a q.toNat 0)) (cvS (cellAt a q.toNat 1) ++ f) (cvI (cellAt a q.toNat (1 + 1)))) fun r => bif U53.c r then bif !U53.v r then kr [] false else kr r true else none else none else none else bif decide (q < 0) then kr [] false else bif decide (d = 2) then bif U166.c a (cvS (cellAt a q.toNat 0)) (cvS (cellAt a q.toNat 1)) ((cvS (cellAt a q.toNat 1)).size : Int) then Lib.lt (U166.v a (cvS (cellAt a q.toNat 0)) (cvS (cellAt a q.toNat 1)) ((cvS (cellAt a q.toNat 1)).size : Int)) fun s => bif U53.c s then bif !U53.v s then kr [] false else kr s true else none else none else bif decide (d = 3) then bif decide (cvI (cellAt a q.toNat (1 + 1)) < ((cvS (cellAt a q.toNat 1)).size : Int)) then kr [] false else bif List.beq (ByteArray.toList h) (ByteArray.toList e) then kr [] false else bif !U142.v h then kr [] false else bif U167.c a e then bif U166.c (U167.v a e) h (cvS (cellAt a q.toNat 1)) (cvI (cellAt a q.toNat (1 + 1))) then bif U53.c (U166.v (U167.v a e) h (cvS (cellAt a q.toNat 1)) (cvI (cellAt a q.toNat (1 + 1)))) then bif !U53.v (U166.v (U167.v a e) h (cvS (cellAt a q.toNat 1)) (cvI (cellAt a q.toNat (1 + 1)))) then kr [] false else kr (U166.v (U167.v a e) h (cvS (cellAt a q.toNat 1)) (cvI (cellAt a q.toNat (1 + 1)))) true else none else none else none else bif decide (d = 4) then bif U167.c a e then bif U53.c (U167.v a e) then bif !U53.v (U167.v a e) then kr [] false else kr (U167.v a e) true else none else none else kr [] false else none else bif decide (d = 1) then bif decide (ByteArray.size ⟨#[]⟩ + f.size <= 4611686018427387904) then bif U166.c a e ({ data := #[] } ++ f) 0 then bif U53.c (U166.v a e ({ data := #[] } ++ f) 0) then bif !U53.v (U166.v a e ({ data := #[] } ++ f) 0) then kr [] false else kr (U166.v a e ({ data := #[] } ++ f) 0) true else none else none else none else bif decide (q < 0) then kr [] false else bif decide (d = 2) then bif U166.c a e ⟨#[]⟩ (ByteArray.size ⟨#[]⟩ : Int) then bif U53.c (U166.v a e ⟨#[]⟩ (ByteArray.size ⟨#[]⟩ : Int)) then bif !U53.v (U166.v a e ⟨#[]⟩ (ByteArray.size ⟨#[]⟩ : Int)) then kr [] false else kr (U166.v a e ⟨#[]⟩ (ByteArray.size ⟨#[]⟩ : Int)) true else none else none else bif decide (d = 3) then bif List.beq (ByteArray.toList h) (ByteArray.toList e) then kr [] false else bif !U142.v h then kr [] false else bif U167.c a e then bif U166.c (U167.v a e) h ⟨#[]⟩ 0 then bif U53.c (U166.v (U167.v a e) h ⟨#[]⟩ 0) then bif !U53.v (U166.v (U167.v a e) h ⟨#[]⟩ 0) then kr [] false else kr (U166.v (U167.v a e) h ⟨#[]⟩ 0) true else none else none else none else bif decide (d = 4) then bif U167.c a e then bif U53.c (U167.v a e) then bif !U53.v (U167.v a e) then kr [] false else kr (U167.v a e) true else none else none else kr [] false else none else bif U143.c a e then Lib.lt (U143.v a e) fun t => bif decide (t ≥ 0) then bif decide (0 <= t) && decide (t < (a.length : Int)) then bif decide (d = 1) then bif decide ((cvS (cellAt a t.toNat 1)).size + f.size <= 4611686018427387904) then bif U166.c a (cvS (cellAt a t.toNat 0)) (cvS (cellAt a t.toNat 1) ++ f) (cvI (cellAt a t.toNat (1 + 1))) then Lib.lt (U166.v a (cvS (cellAt a t.toNat 0)) (cvS (cellAt a t.toNat 1) ++ f) (cvI (cellAt a t.toNat (1 + 1)))) fun u => bif U53.c u then bif !U53.v u then kr [] false else kr u true else none else none else none else bif decide (t < 0) then kr [] false else bif decide (d = 2) then bif U166.c a (cvS (cellAt a t.toNat 0)) (cvS (cellAt a t.toNat 1)) ((cvS (cellAt a t.toNat 1)).size : Int) then Lib.lt (U166.v a (cvS (cellAt a t.toNat 0)) (cvS (cellAt a t.toNat 1)) ((cvS (cellAt a t.toNat 1)).size : Int)) fun w => bif U53.c w then bif !U53.v w then kr [] false else kr w true else none else none else bif decide (d = 3) then bif decide (cvI (cellAt a t.toNat (1 + 1)) < ((cvS (cellAt a t.toNat 1)).size : Int)) then kr [] false else bif List.beq (ByteArray.toList h) (ByteArray.toList e) then kr [] false else bif !U142.v h then kr [] false else bif U167.c a e then bif U166.c (U167.v a e) h (cvS (cellAt a t.toNat 1)) (cvI (cellAt a t.toNat (1 + 1))) then bif U53.c (U166.v (U167.v a e) h (cvS (cellAt a t.toNat 1)) (cvI (cellAt a t.toNat (1 + 1)))) then bif !U53.v (U166.v (U167.v a e) h (cvS (cellAt a t.toNat 1)) (cvI (cellAt a t.toNat (1 + 1)))) then kr [] false else kr (U166.v (U167.v a e) h (cvS (cellAt a t.toNat 1)) (cvI (cellAt a t.toNat (1 + 1)))) true else none else none else none else bif decide (d = 4) then bif U167.c a e then bif U53.c (U167.v a e) then bif !U53.v (U167.v a e) then kr [] false else kr (U167.v a e) true else none else none else kr [] false else none else bif decide (d = 1) then bif decide (ByteArray.size ⟨#[]⟩ + f.size <= 4611686018427387904) then bif U166.c a e ({ data := #[] } ++ f) 0 then bif U53.c (U166.v a e ({ data := #[] } ++ f) 0) then bif !U53.v (U166.v a e ({ data := #[] } ++ f) 0) then kr [] false else kr (U166.v a e ({ data := #[] } ++ f) 0) true else none else none else none else bif decide (t < 0) then kr [] false else bif decide (d = 2) then bif U166.c a e ⟨#[]⟩ (ByteArray.size ⟨#[]⟩ : Int) then bif U53.c (U166.v a e ⟨#[]⟩ (ByteArray.size ⟨#[]⟩ : Int)) then bif !U53.v (U166.v a e ⟨#[]⟩ (ByteArray.size ⟨#[]⟩ : Int)) then kr [] false else kr (U166.v a e ⟨#[]⟩ (ByteArray.size ⟨#[]⟩ : Int)) true else none else none else bif decide (d = 3) then bif List.beq (ByteArray.toList h) (ByteArray.toList e) then kr [] false else bif !U142.v h then kr [] false else bif U167.c a e then bif U166.c (U167.v a e) h ⟨#[]⟩ 0 then bif U53.c (U166.v (U167.v a e) h ⟨#[]⟩ 0) then bif !U53.v (U166.v (U167.v a e) h ⟨#[]⟩ 0) then kr [] false else kr (U166.v (U167.v a e) h ⟨#[]⟩ 0) true else none else none else none else bif decide (d = 4) then bif U167.c a e then bif U53.c (U167.v a e) then bif !U53.v (U167.v a e) then kr [] false else kr (U167.v a e) true else none else none else kr [] false else none else none
def vo := b fun r0 r1 => some (r0, r1)
def c := fun a d e f h => (vo a d e f h).isSome
def v := fun a d e f h => (vo a d e f h).getD ([], false)
theorem out {x} : ∀ a d e f h, vo a d e f h = some x -> c a d e f h = true /\ v a d e f h = x := fun _ _ _ _ _ => Lib.out_
end Go.FG.U74

namespace Go.FG.U141
def r3 {R : Type} (N : Nat) (g k0 k1 : F_riir R) (a : Row) (d e : Int) (f : Row) : Option R := bif decide (e < (a.length : Int)) then bif decide (0 <= e) && decide (e < (a.length : Int)) then bif U74.c f (cvI (cellAt a e.toNat 0)) (cvS (cellAt a e.toNat 1)) (cvS (cellAt a e.toNat (1 + 1))) (cvS (cellAt a e.toNat (1 + 1 + 1))) then bif !(U74.v f (cvI (cellAt a e.toNat 0)) (cvS (cellAt a e.toNat 1)) (cvS (cellAt a e.toNat (1 + 1))) (cvS (cellAt a e.toNat (1 + 1 + 1)))).2 then k0 a e e f else g a d (w64 (e + 1)) (U74.v f (cvI (cellAt a e.toNat 0)) (cvS (cellAt a e.toNat 1)) (cvS (cellAt a e.toNat (1 + 1))) (cvS (cellAt a e.toNat (1 + 1 + 1)))).1 else none else none else k1 a d e f
def l3 {R : Type} (N : Nat) (k0 k1 : F_riir R) : Nat -> F_riir R
 | 0 => fun _ _ _ _ => none
 | n + 1 => r3 N (l3 N k0 k1 n) k0 k1
def b {R : Type} (N : Nat) (kr : F_ri R) (a d : Row) : Option R := bif roomy ((zeros [Ck.s, Ck.s, Ck.i IntKind.i64] 0).length + a.length) 40 then l3 N (fun _ e _ f => kr f e) (fun h _ _ i => kr i (h.length : Int)) N d 0 0 (zeros [Ck.s, Ck.s, Ck.i IntKind.i64] 0 ++ a) else none
def vo := b Lib.big fun r0 r1 => some (r0, r1)
def c := fun a d => (vo a d).isSome
def v := fun a d => (vo a d).getD ([], 0)
theorem out {x} : ∀ a d, vo a d = some x -> c a d = true /\ v a d = x := fun _ _ => Lib.out_
end Go.FG.U141

namespace Go.FG.U51
def r3 {R : Type} (N : Nat) (g : F_irii R) (g1 : F_iriir R) (k0 : F_irii R) (k1 : F_iriir R) (a : Int) (d : Row) (e f : Int) : Option R := bif U59.c d e f 7 then bif decide (a < (U59.v d e f 7).1) then bif U72.c (U59.v d e f 7).2.1 (U59.v d e f 7).2.2.1 (U59.v d e f 7).2.2.2 then bif U140.c (U72.v (U59.v d e f 7).2.1 (U59.v d e f 7).2.2.1 (U59.v d e f 7).2.2.2).1 (U72.v (U59.v d e f 7).2.1 (U59.v d e f 7).2.2.1 (U59.v d e f 7).2.2.2).2.1 (U72.v (U59.v d e f 7).2.1 (U59.v d e f 7).2.2.1 (U59.v d e f 7).2.2.2).2.2.1 (U72.v (U59.v d e f 7).2.1 (U59.v d e f 7).2.2.1 (U59.v d e f 7).2.2.2).2.2.2.1 then bif (U140.v (U72.v (U59.v d e f 7).2.1 (U59.v d e f 7).2.2.1 (U59.v d e f 7).2.2.2).1 (U72.v (U59.v d e f 7).2.1 (U59.v d e f 7).2.2.1 (U59.v d e f 7).2.2.2).2.1 (U72.v (U59.v d e f 7).2.1 (U59.v d e f 7).2.2.1 (U59.v d e f 7).2.2.2).2.2.1 (U72.v (U59.v d e f 7).2.1 (U59.v d e f 7).2.2.1 (U59.v d e f 7).2.2.2).2.2.2.1).2 then bif U141.c [] (U140.v (U72.v (U59.v d e f 7).2.1 (U59.v d e f 7).2.2.1 (U59.v d e f 7).2.2.2).1 (U72.v (U59.v d e f 7).2.1 (U59.v d e f 7).2.2.1 (U59.v d e f 7).2.2.2).2.1 (U72.v (U59.v d e f 7).2.1 (U59.v d e f 7).2.2.1 (U59.v d e f 7).2.2.2).2.2.1 (U72.v (U59.v d e f 7).2.1 (U59.v d e f 7).2.2.1 (U59.v d e f 7).2.2.2).2.2.2.1).1 then g1 (w64 (a + 1)) (U72.v (U59.v d e f 7).2.1 (U59.v d e f 7).2.2.1 (U59.v d e f 7).2.2.2).2.2.2.2.1 (U72.v (U59.v d e f 7).2.1 (U59.v d e f 7).2.2.1 (U59.v d e f 7).2.2.2).2.2.2.2.2.1 (U72.v (U59.v d e f 7).2.1 (U59.v d e f 7).2.2.1 (U59.v d e f 7).2.2.2).2.2.2.2.2.2 (U141.v [] (U140.v (U72.v (U59.v d e f 7).2.1 (U59.v d e f 7).2.2.1 (U59.v d e f 7).2.2.2).1 (U72.v (U59.v d e f 7).2.1 (U59.v d e f 7).2.2.1 (U59.v d e f 7).2.2.2).2.1 (U72.v (U59.v d e f 7).2.1 (U59.v d e f 7).2.2.1 (U59.v d e f 7).2.2.2).2.2.1 (U72.v (U59.v d e f 7).2.1 (U59.v d e f 7).2.2.1 (U59.v d e f 7).2.2.2).2.2.2.1).1).1 else none else g (w64 (a + 1)) (U72.v (U59.v d e f 7).2.1 (U59.v d e f 7).2.2.1 (U59.v d e f 7).2.2.2).2.2.2.2.1 (U72.v (U59.v d e f 7).2.1 (U59.v d e f 7).2.2.1 (U59.v d e f 7).2.2.2).2.2.2.2.2.1 (U72.v (U59.v d e f 7).2.1 (U59.v d e f 7).2.2.1 (U59.v d e f 7).2.2.2).2.2.2.2.2.2 else none else none else k0 a (U59.v d e f 7).2.1 (U59.v d e f 7).2.2.1 (U59.v d e f 7).2.2.2 else none
def r3a {R : Type} (N : Nat) (g : F_irii R) (g1 : F_iriir R) (k0 : F_irii R) (k1 : F_iriir R) (a : Int) (d : Row) (e f : Int) (h : Row) : Option R := bif U59.c d e f 7 then bif decide (a < (U59.v d e f 7).1) then bif U72.c (U59.v d e f 7).2.1 (U59.v d e f 7).2.2.1 (U59.v d e f 7).2.2.2 then bif U140.c (U72.v (U59.v d e f 7).2.1 (U59.v d e f 7).2.2.1 (U59.v d e f 7).2.2.2).1 (U72.v (U59.v d e f 7).2.1 (U59.v d e f 7).2.2.1 (U59.v d e f 7).2.2.2).2.1 (U72.v (U59.v d e f 7).2.1 (U59.v d e f 7).2.2.1 (U59.v d e f 7).2.2.2).2.2.1 (U72.v (U59.v d e f 7).2.1 (U59.v d e f 7).2.2.1 (U59.v d e f 7).2.2.2).2.2.2.1 then bif (U140.v (U72.v (U59.v d e f 7).2.1 (U59.v d e f 7).2.2.1 (U59.v d e f 7).2.2.2).1 (U72.v (U59.v d e f 7).2.1 (U59.v d e f 7).2.2.1 (U59.v d e f 7).2.2.2).2.1 (U72.v (U59.v d e f 7).2.1 (U59.v d e f 7).2.2.1 (U59.v d e f 7).2.2.2).2.2.1 (U72.v (U59.v d e f 7).2.1 (U59.v d e f 7).2.2.1 (U59.v d e f 7).2.2.2).2.2.2.1).2 then bif U141.c h (U140.v (U72.v (U59.v d e f 7).2.1 (U59.v d e f 7).2.2.1 (U59.v d e f 7).2.2.2).1 (U72.v (U59.v d e f 7).2.1 (U59.v d e f 7).2.2.1 (U59.v d e f 7).2.2.2).2.1 (U72.v (U59.v d e f 7).2.1 (U59.v d e f 7).2.2.1 (U59.v d e f 7).2.2.2).2.2.1 (U72.v (U59.v d e f 7).2.1 (U59.v d e f 7).2.2.1 (U59.v d e f 7).2.2.2).2.2.2.1).1 then g1 (w64 (a + 1)) (U72.v (U59.v d e f 7).2.1 (U59.v d e f 7).2.2.1 (U59.v d e f 7).2.2.2).2.2.2.2.1 (U72.v (U59.v d e f 7).2.1 (U59.v d e f 7).2.2.1 (U59.v d e f 7).2.2.2).2.2.2.2.2.1 (U72.v (U59.v d e f 7).2.1 (U59.v d e f 7).2.2.1 (U59.v d e f 7).2.2.2).2.2.2.2.2.2 (U141.v h (U140.v (U72.v (U59.v d e f 7).2.1 (U59.v d e f 7).2.2.1 (U59.v d e f 7).2.2.2).1 (U72.v (U59.v d e f 7).2.1 (U59.v d e f 7).2.2.1 (U59.v d e f 7).2.2.2).2.1 (U72.v (U59.v d e f 7).2.1 (U59.v d e f 7).2.2.1 (U59.v d e f 7).2.2.2).2.2.1 (U72.v (U59.v d e f 7).2.1 (U59.v d e f 7).2.2.1 (U59.v d e f 7).2.2.2).2.2.2.1).1).1 else none else g1 (w64 (a + 1)) (U72.v (U59.v d e f 7).2.1 (U59.v d e f 7).2.2.1 (U59.v d e f 7).2.2.2).2.2.2.2.1 (U72.v (U59.v d e f 7).2.1 (U59.v d e f 7).2.2.1 (U59.v d e f 7).2.2.2).2.2.2.2.2.1 (U72.v (U59.v d e f 7).2.1 (U59.v d e f 7).2.2.1 (U59.v d e f 7).2.2.2).2.2.2.2.2.2 h else none else none else k1 a (U59.v d e f 7).2.1 (U59.v d e f 7).2.2.1 (U59.v d e f 7).2.2.2 h else none
def l3a {R : Type} (N : Nat) (k0 : F_irii R) (k1 : F_iriir R) : Nat -> F_iriir R
 | 0 => fun _ _ _ _ _ => none
 | n + 1 => r3a N (fun x0 x1 x2 x3 => none) (l3a N k0 k1 n) k0 k1
def l3 {R : Type} (N : Nat) (k0 : F_irii R) (k1 : F_iriir R) : Nat -> F_irii R
 | 0 => fun _ _ _ _ => none
 | n + 1 => r3 N (l3 N k0 k1 n) (l3a N k0 k1 n) k0 k1
def b {R : Type} (N : Nat) (kr : F_rrii R) (a : Row) (d e : Int) : Option R := l3 N (fun _ f h i => kr [] f h i) (fun _ j l m o => kr o j l m) N 0 a d e
def vo := b Lib.big fun r0 r1 r2 r3 => some (r0, r1, r2, r3)
def c := fun a d e => (vo a d e).isSome
def v := fun a d e => (vo a d e).getD ([], [], 0, 0)
theorem out {x} : ∀ a d e, vo a d e = some x -> c a d e = true /\ v a d e = x := fun _ _ _ => Lib.out_
end Go.FG.U51

namespace Go.FG.U12
def b {R : Type} (kr : Row -> Option R) (a : Row) : Option R := bif U52.c a then Lib.lt (U52.v a) fun d => bif U51.c d.1 d.2.1 d.2.2 then Lib.lt (U51.v d.1 d.2.1 d.2.2) fun e => kr e.1 else none else none
def vo := b fun r0 => some r0
def c := fun a => (vo a).isSome
def v := fun a => (vo a).getD ([])
theorem out {x} : ∀ a, vo a = some x -> c a = true /\ v a = x := fun _ => Lib.out_
end Go.FG.U12

namespace Go.FG.U54
def b {R : Type} (kr : F_sb R) (a : Row) (d : ByteArray) : Option R := bif U143.c a d then bif decide (U143.v a d < 0) then kr ⟨#[]⟩ false else bif decide (0 <= U143.v a d) && decide (U143.v a d < (a.length : Int)) then kr (cvS (cellAt a (U143.v a d).toNat 1)) true else none else none
def vo := b fun r0 r1 => some (r0, r1)
def c := fun a d => (vo a d).isSome
def v := fun a d => (vo a d).getD (⟨#[]⟩, false)
theorem out {x} : ∀ a d, vo a d = some x -> c a d = true /\ v a d = x := fun _ _ => Lib.out_
end Go.FG.U54

namespace Go.FG.U144
def r6 {R : Type} (N : Nat) (g k0 k1 : F_siiibiii R) (a : ByteArray) (d e f : Int) (h : Bool) (i j l : Int) : Option R := bif decide (l < (a.size : Int)) then bif decide (l < w64 (d + 5)) then bif decide (0 <= l) && decide (l < (a.size : Int)) then bif decide (0 <= l) && decide (l < (a.size : Int)) then bif decide ((↑(btN a l.toNat) : Int) < 128) then bif decide (w64 (i + w64 (Int.tmod (w64 (↑(btN a l.toNat) : Int)) 128 * j)) > 1000000000) then k0 a d 0 0 false (w64 (i + w64 (Int.tmod (w64 (↑(btN a l.toNat) : Int)) 128 * j))) (w64 (j * 128)) l else bif U150.c (w64 (i + w64 (Int.tmod (w64 (↑(btN a l.toNat) : Int)) 128 * j))) then bif inB d (w64 (l + 1)) (a.size : Int) then bif !List.beq (U150.v (w64 (i + w64 (Int.tmod (w64 (↑(btN a l.toNat) : Int)) 128 * j)))).toList (ByteArray.extract a d.toNat (w64 (l + 1)).toNat).toList then k0 a d 0 0 false (w64 (i + w64 (Int.tmod (w64 (↑(btN a l.toNat) : Int)) 128 * j))) (w64 (j * 128)) l else k0 a d (w64 (i + w64 (Int.tmod (w64 (↑(btN a l.toNat) : Int)) 128 * j))) (w64 (l + 1)) true (w64 (i + w64 (Int.tmod (w64 (↑(btN a l.toNat) : Int)) 128 * j))) (w64 (j * 128)) l else none else none else g a d e f h (w64 (i + w64 (Int.tmod (w64 (↑(btN a l.toNat) : Int)) 128 * j))) (w64 (j * 128)) (w64 (l + 1)) else none else none else k1 a d e f h i j l else k1 a d e f h i j l
def l6 {R : Type} (N : Nat) (k0 k1 : F_siiibiii R) : Nat -> F_siiibiii R
 | 0 => fun _ _ _ _ _ _ _ _ => none
 | n + 1 => r6 N (l6 N k0 k1 n) k0 k1
def b {R : Type} (N : Nat) (kr : F_iib R) (a : ByteArray) (d : Int) : Option R := bif !U122.v d 0 (a.size : Int) then kr 0 0 false else l6 N (fun _ _ e f h _ _ _ => kr e f h) (fun _ _ _ _ _ _ _ _ => kr 0 0 false) N a d 0 0 false 0 1 d
def v (text0 : ByteArray) (at1 : Int) : Int × Int × Bool := if 0 <= at1 /\ at1 <= text0.size then Lib.rv text0 at1.toNat 5 0 0 else (0, 0, false)
theorem b_eq {R : Type} (kr : F_iib R) (text0 : ByteArray) (at1 : Int) (f0 : okS text0) : ∃ N, b N kr text0 at1 = kr (v text0 at1).1 (v text0 at1).2.1 (v text0 at1).2.2 := by
 refine ⟨6, ?_⟩
 unfold b v
 by_cases hn : 0 <= at1 /\ at1 <= text0.size
 ·have e : U122.v at1 0 (text0.size : Int) = true := by simp [U122.v, hn]
  obtain ⟨a, rfl⟩ : ∃ a : Nat, at1 = (a : Int) := ⟨at1.toNat, by omega⟩
  have ha : a <= text0.size := by omega
  rw [e, if_pos hn, Lib.toN]
  have hs : text0.size <= 4611686018427387904 := f0
  simp only [Bool.not_true, cond_false]
  have := Lib.loop_gen (fun m (s : Nat × Int) => l6 6 (fun y8 y9 y10 y11 y12 y13 y14 y15 => kr y10 y11 y12) (fun y16 y17 y18 y19 y20 y21 y22 y23 => kr 0 0 false) m text0 a 0 0 false s.2 (128 ^ s.1) ((a + s.1 : Nat) : Int)) (fun s => 5 - s.1) (fun s => s.1 <= 5 /\ s.2 = Lib.num text0 a s.1 /\ ∀ i, i < s.1 -> 128 <= btN text0 (a + i))
   (fun s => kr (Lib.rv text0 a (5 - s.1) s.1 s.2).1 (Lib.rv text0 a (5 - s.1) s.1 s.2).2.1 (Lib.rv text0 a (5 - s.1) s.1 s.2).2.2) (fun m s hs5 => by
   obtain ⟨j, n⟩ := s
   obtain ⟨hj, hnum, hge⟩ := hs5
   dsimp only at hj hnum hge ⊢
   have hb := Lib.btN_lt text0 (a + j)
   have e5 : w64 ((a : Int) + 5) = ((a + 5 : Nat) : Int) := by rw [w64_eq (by omega) (by omega)]; omega
   by_cases hin : a + j < text0.size
   ·by_cases hj5 : j < 5
    ·have eb : w64 (btN text0 (a + j) : Int) = (btN text0 (a + j) : Int) := w64_eq (by omega) (by omega)
     have em : Int.tmod (btN text0 (a + j) : Int) 128 = (btN text0 (a + j) : Int) % 128 := Int.tmod_eq_emod_of_nonneg (by omega)
     have hp : (128 : Int) ^ j <= 268435456 /\ (1 : Int) <= 128 ^ j /\ (128 : Int) ^ (j + 1) = 128 ^ j * 128 := by
      obtain rfl | rfl | rfl | rfl | rfl : j = 0 \/ j = 1 \/ j = 2 \/ j = 3 \/ j = 4 := by omega
      all_goals decide
     have hrg := Lib.num_rng text0 j a
     rw [<- hnum] at hrg
     have hm0 : 0 <= (btN text0 (a + j) : Int) % 128 /\ (btN text0 (a + j) : Int) % 128 <= 127 := by omega
     have hq : 0 <= (btN text0 (a + j) : Int) % 128 * 128 ^ j /\ (btN text0 (a + j) : Int) % 128 * 128 ^ j <= 127 * 128 ^ j :=
      ⟨Int.mul_nonneg hm0.1 (by omega), Int.mul_le_mul_of_nonneg_right hm0.2 (by omega)⟩
     have eq1 : w64 ((btN text0 (a + j) : Int) % 128 * 128 ^ j) = (btN text0 (a + j) : Int) % 128 * 128 ^ j := w64_eq (by omega) (by omega)
     have eq2 : w64 (n + (btN text0 (a + j) : Int) % 128 * 128 ^ j) = n + (btN text0 (a + j) : Int) % 128 * 128 ^ j := w64_eq (by omega) (by omega)
     have eq3 : w64 ((128 : Int) ^ j * 128) = 128 ^ (j + 1) := by rw [hp.2.2]; exact w64_eq (by omega) (by omega)
     have ef : 5 - j = (5 - (j + 1)) + 1 := by omega
     have hsn : n + (btN text0 (a + j) : Int) % 128 * 128 ^ j = Lib.num text0 a (j + 1) := by rw [Lib.num_snoc, <- hnum]
     have en : w64 (((a + j : Nat) : Int) + 1) = ((a + (j + 1) : Nat) : Int) := Lib.w64_s hin (by omega)
     have c2 : decide (((a + j : Nat) : Int) < ((a + 5 : Nat) : Int)) = true := Lib.dlt_t (by omega)
     have hrv : Lib.rv text0 a (5 - j) j n = (if (btN text0 (a + j) : Int) > 127 then Lib.rv text0 a (5 - (j + 1)) (j + 1) (n + (btN text0 (a + j) : Int) % 128 * 128 ^ j)
       else if (j > 0 /\ btN text0 (a + j) = 0) \/ n + (btN text0 (a + j) : Int) % 128 * 128 ^ j > 1000000000 then (0, 0, false)
       else (n + (btN text0 (a + j) : Int) % 128 * 128 ^ j, ((a + j + 1 : Nat) : Int), true)) := by
      rw [ef]; simp only [Lib.rv]; rw [if_pos hin]
     simp only [l6, r6, Lib.dlt_t hin, e5, c2, Lib.dle0, Lib.toN, eb, em, eq1, eq2, eq3, en, cond_true, Bool.and_self]
     by_cases hc : (btN text0 (a + j) : Int) < 128
     ·left
      rw [decide_eq_true hc, cond_true, hrv, if_neg (by omega)]
      by_cases hbig : n + (btN text0 (a + j) : Int) % 128 * 128 ^ j > 1000000000
      ·rw [decide_eq_true hbig, if_pos (.inr hbig)]; rfl
      ·have ec : U150.c (n + (btN text0 (a + j) : Int) % 128 * 128 ^ j) = true := decide_eq_true (by omega)
       have ein : inB (a : Int) ((a + (j + 1) : Nat) : Int) (text0.size : Int) = true := by simp [inB]; omega
       rw [decide_eq_false hbig, cond_false, ec, cond_true, ein, cond_true, hsn]
       have hcan := Lib.canon text0 j a (by omega) hge (by omega) (by rw [<- hsn]; omega)
       unfold U150.v
       rw [hcan]
       by_cases hz : j > 0 /\ btN text0 (a + j) = 0
       ·rw [decide_eq_true hz, if_pos (.inl hz)]; rfl
       ·rw [decide_eq_false hz, if_neg (by rw [hsn] at hbig; omega)]; rfl
     ·right
      rw [decide_eq_false hc]
      refine ⟨(j + 1, n + (btN text0 (a + j) : Int) % 128 * 128 ^ j), ⟨by dsimp only; omega, hsn, fun i hi => ?_⟩, by dsimp only; omega, by dsimp only; rw [hrv, if_pos (by omega)], rfl⟩
      by_cases hij : i < j
      ·exact hge i hij
      ·have : i = j := by dsimp only at hi; omega
       subst this; omega
    ·left
     have hj' : j = 5 := by omega
     subst hj'
     simp only [l6, r6, Lib.dlt_t hin, e5, Lib.dlt_f (Nat.lt_irrefl (a + 5)), cond_true, cond_false]
     rfl
   ·left
    have hrv : Lib.rv text0 a (5 - j) j n = (0, 0, false) := by
     by_cases hj5 : j < 5
     ·have ef : 5 - j = (5 - (j + 1)) + 1 := by omega
      rw [ef]; simp only [Lib.rv]; rw [if_neg hin]
     ·rw [show 5 - j = 0 by omega]; rfl
    simp only [l6, r6, Lib.dlt_f hin, cond_false, hrv]) 6 (0, 0) ⟨by dsimp only; omega, rfl, fun i hi => by dsimp only at hi; omega⟩ (by dsimp only; omega)
  exact this
 ·have e : U122.v at1 0 (text0.size : Int) = false := by
   simp [U122.v]; omega
  rw [e, if_neg hn]; rfl
end Go.FG.U144

namespace Go.FG.U55
def r5 {R : Type} (N : Nat) (g k0 k1 : F_siir R) (a : ByteArray) (d e : Int) (f : Row) : Option R := bif decide (e < (a.size : Int)) then bif !(U144.v a e).2.2 then k0 a e e f else bif decide ((U144.v a e).1 > w64 (w64 ((a.size : Int) - (U144.v a e).2.1) - 4)) then k0 a e e f else bif inB (w64 ((U144.v a e).2.1 + 4)) (w64 (w64 ((U144.v a e).2.1 + 4) + (U144.v a e).1)) (a.size : Int) then bif U64.c (ByteArray.extract a (w64 ((U144.v a e).2.1 + 4)).toNat (w64 (w64 ((U144.v a e).2.1 + 4) + (U144.v a e).1)).toNat) then bif !(U64.v (ByteArray.extract a (w64 ((U144.v a e).2.1 + 4)).toNat (w64 (w64 ((U144.v a e).2.1 + 4) + (U144.v a e).1)).toNat)).2 then k0 a e e f else bif inB e (w64 (w64 ((U144.v a e).2.1 + 4) + (U144.v a e).1)) (a.size : Int) then bif !List.beq (U64.v (ByteArray.extract a (w64 ((U144.v a e).2.1 + 4)).toNat (w64 (w64 ((U144.v a e).2.1 + 4) + (U144.v a e).1)).toNat)).1.toList (ByteArray.extract a e.toNat (w64 (w64 ((U144.v a e).2.1 + 4) + (U144.v a e).1)).toNat).toList then k0 a e e f else bif roomy (f.length + (List.set (zeros [.s] 1) 0 [.s (ByteArray.extract a (w64 ((U144.v a e).2.1 + 4)).toNat (w64 (w64 ((U144.v a e).2.1 + 4) + (U144.v a e).1)).toNat)]).length) 16 then g a d (w64 (w64 ((U144.v a e).2.1 + 4) + (U144.v a e).1)) (f ++ List.set (zeros [.s] 1) 0 [.s (ByteArray.extract a (w64 ((U144.v a e).2.1 + 4)).toNat (w64 (w64 ((U144.v a e).2.1 + 4) + (U144.v a e).1)).toNat)]) else none else none else none else none else k1 a d e f
def l5 {R : Type} (N : Nat) (k0 k1 : F_siir R) : Nat -> F_siir R
 | 0 => fun _ _ _ _ => none
 | n + 1 => r5 N (l5 N k0 k1 n) k0 k1
def b {R : Type} (N : Nat) (kr : F_ri R) (a : ByteArray) : Option R := bif decide ((a.size : Int) > 20000) then kr (zeros [.s] 0) 0 else l5 N (fun _ d _ e => kr e d) (fun _ _ f h => kr h f) N a 0 0 (zeros [.s] 0)
def vo := b Lib.big fun r0 r1 => some (r0, r1)
def c := fun a => (vo a).isSome
def v := fun a => (vo a).getD ([], 0)
theorem out {x} : ∀ a, vo a = some x -> c a = true /\ v a = x := fun _ => Lib.out_
end Go.FG.U55

namespace Go.FG.U145
def b {R : Type} (kr : F_sib R) (a : ByteArray) (d : Int) : Option R := bif !(U144.v a d).2.2 then kr ⟨#[]⟩ 0 false else bif decide ((U144.v a d).1 > 20000) then kr ⟨#[]⟩ 0 false else bif decide ((U144.v a d).1 > w64 ((a.size : Int) - (U144.v a d).2.1)) then kr ⟨#[]⟩ 0 false else bif inB (U144.v a d).2.1 (w64 ((U144.v a d).2.1 + (U144.v a d).1)) (a.size : Int) then kr (ByteArray.extract a (U144.v a d).2.1.toNat (w64 ((U144.v a d).2.1 + (U144.v a d).1)).toNat) (w64 ((U144.v a d).2.1 + (U144.v a d).1)) true else none
def v (text0 : ByteArray) (at1 : Int) : ByteArray × Int × Bool := Lib.readShort text0 at1
theorem b_eq {R : Type} (kr : F_sib R) (text0 : ByteArray) (at1 : Int) (f0 : okS text0) : b kr text0 at1 = kr (v text0 at1).1 (v text0 at1).2.1 (v text0 at1).2.2 := Lib.readShort_run f0 at1 kr
end Go.FG.U145

namespace Go.FG.U56
def b {R : Type} (kr : F_siisb R) (a : ByteArray) : Option R := bif !(U145.v a 0).2.2 then kr ⟨#[]⟩ 0 0 ⟨#[]⟩ false else bif !(U144.v a (U145.v a 0).2.1).2.2 then kr ⟨#[]⟩ 0 0 ⟨#[]⟩ false else bif !(U144.v a (U144.v a (U145.v a 0).2.1).2.1).2.2 then kr ⟨#[]⟩ 0 0 ⟨#[]⟩ false else bif inB (U144.v a (U144.v a (U145.v a 0).2.1).2.1).2.1 (a.size : Int) (a.size : Int) then bif !(U63.v (U145.v a 0).1 (U144.v a (U145.v a 0).2.1).1 (U144.v a (U144.v a (U145.v a 0).2.1).2.1).1 (ByteArray.extract a (U144.v a (U144.v a (U145.v a 0).2.1).2.1).2.1.toNat (a.size : Int).toNat)).2 then kr ⟨#[]⟩ 0 0 ⟨#[]⟩ false else bif !List.beq (U63.v (U145.v a 0).1 (U144.v a (U145.v a 0).2.1).1 (U144.v a (U144.v a (U145.v a 0).2.1).2.1).1 (ByteArray.extract a (U144.v a (U144.v a (U145.v a 0).2.1).2.1).2.1.toNat (a.size : Int).toNat)).1.toList (ByteArray.toList a) then kr ⟨#[]⟩ 0 0 ⟨#[]⟩ false else kr (U145.v a 0).1 (U144.v a (U145.v a 0).2.1).1 (U144.v a (U144.v a (U145.v a 0).2.1).2.1).1 (ByteArray.extract a (U144.v a (U144.v a (U145.v a 0).2.1).2.1).2.1.toNat (a.size : Int).toNat) true else none
def no : ByteArray × Int × Int × ByteArray × Bool := (⟨#[]⟩, 0, 0, ⟨#[]⟩, false)
def v (t0 : ByteArray) : ByteArray × Int × Int × ByteArray × Bool :=
 match Lib.readShort t0 0 with
 | (k, a, true) => (match Lib.readVar t0 a with
  | (s, x, true) => (match Lib.readVar t0 x with
   | (l, y, true) => if U149.v k s l (t0.extract y.toNat t0.size) = true then (k, s, l, t0.extract y.toNat t0.size, true) else no
   | _ => no)
  | _ => no)
 | _ => no
theorem b_eq {R : Type} (kr : F_siisb R) (t0 : ByteArray) (f0 : okS t0) : b kr t0 = kr (v t0).1 (v t0).2.1 (v t0).2.2.1 (v t0).2.2.2.1 (v t0).2.2.2.2 := by
 have e1 : U145.v = Lib.readShort := rfl
 have e2 : U144.v = Lib.readVar := rfl
 unfold b v
 simp only [e1, e2, Lib.toN]
 cases h1 : Lib.readShort t0 0 with
 | mk k r1 =>
  obtain ⟨a, ok1⟩ := r1
  cases ok1 with
  | false => rfl
  | true =>
   dsimp only
   cases h2 : Lib.readVar t0 a with
   | mk s r2 =>
    obtain ⟨x, ok2⟩ := r2
    cases ok2 with
    | false => rfl
    | true =>
     dsimp only
     cases h3 : Lib.readVar t0 x with
     | mk l r3 =>
      obtain ⟨y, ok3⟩ := r3
      cases ok3 with
      | false => rfl
      | true =>
       obtain ⟨p1, p2, p3, p4, p5⟩ := Lib.readShort_ok h1
       obtain ⟨q1, q2, q3, q4, q5, q6⟩ := Lib.readVar_ok h2
       obtain ⟨r1, r2, r3, r4, r5, r6⟩ := Lib.readVar_ok h3
       dsimp only
       simp only [Bool.not_true, cond_false]
       rw [Lib.bif_t (show inB y (t0.size : Int) (t0.size : Int) = true by simp [inB]; omega)]
       unfold U63.v
       cases hE : U149.v k s l (t0.extract y.toNat t0.size) with
       | false => rfl
       | true =>
        have ht : U63.txt k s l (t0.extract y.toNat t0.size) = t0 := by
         unfold U63.txt
         rw [p5, q6, Lib.ext_app t0 (by omega) (by omega), r6, Lib.ext_app t0 (by omega) (by omega), Lib.ext_app t0 (by omega) (by omega)]
         exact Lib.ext_all t0
        simp only [if_true, Bool.not_true, cond_false, ht, Lib.beq_self]
end Go.FG.U56

namespace Go.FG.U57
def r9 {R : Type} (N : Nat) (g k0 : F_risiisr R) (a : Row) (d : Int) (e : ByteArray) (f h : Int) (i : ByteArray) (j : Row) : Option R := bif decide (d < (a.length : Int)) then bif decide (0 <= d) && decide (d < (a.length : Int)) then bif !(Op.bytesLess (cvS (cellAt a d.toNat 0)).toList (ByteArray.toList e) || List.beq (cvS (cellAt a d.toNat 0)).toList (ByteArray.toList e)) then bif decide (0 <= d) && decide (d < (a.length : Int)) then bif roomy (j.length + (List.set (zeros [Ck.s, Ck.i IntKind.i64, Ck.i IntKind.i64, Ck.s] 1) 0 [.s (cvS (cellAt a d.toNat 0)), .i .i64 (cvI (cellAt a d.toNat 1)), .i .i64 (cvI (cellAt a d.toNat (1 + 1))), .s (cvS (cellAt a d.toNat (1 + 1 + 1)))]).length) 48 then g a (w64 (d + 1)) e f h i (j ++ List.set (zeros [Ck.s, Ck.i IntKind.i64, Ck.i IntKind.i64, Ck.s] 1) 0 [.s (cvS (cellAt a d.toNat 0)), .i .i64 (cvI (cellAt a d.toNat 1)), .i .i64 (cvI (cellAt a d.toNat (1 + 1))), .s (cvS (cellAt a d.toNat (1 + 1 + 1)))]) else none else none else g a (w64 (d + 1)) e f h i j else none else k0 a d e f h i j
def l9 {R : Type} (N : Nat) (k0 : F_risiisr R) : Nat -> F_risiisr R
 | 0 => fun _ _ _ _ _ _ _ => none
 | n + 1 => r9 N (l9 N k0 n) k0
def r3 {R : Type} (N : Nat) (g k0 : F_risiisr R) (a : Row) (d : Int) (e : ByteArray) (f h : Int) (i : ByteArray) (j : Row) : Option R := bif decide (d < (a.length : Int)) then bif decide (0 <= d) && decide (d < (a.length : Int)) then bif Op.bytesLess (cvS (cellAt a d.toNat 0)).toList (ByteArray.toList e) then bif decide (0 <= d) && decide (d < (a.length : Int)) then bif roomy (j.length + (List.set (zeros [Ck.s, Ck.i IntKind.i64, Ck.i IntKind.i64, Ck.s] 1) 0 [.s (cvS (cellAt a d.toNat 0)), .i .i64 (cvI (cellAt a d.toNat 1)), .i .i64 (cvI (cellAt a d.toNat (1 + 1))), .s (cvS (cellAt a d.toNat (1 + 1 + 1)))]).length) 48 then g a (w64 (d + 1)) e f h i (j ++ List.set (zeros [Ck.s, Ck.i IntKind.i64, Ck.i IntKind.i64, Ck.s] 1) 0 [.s (cvS (cellAt a d.toNat 0)), .i .i64 (cvI (cellAt a d.toNat 1)), .i .i64 (cvI (cellAt a d.toNat (1 + 1))), .s (cvS (cellAt a d.toNat (1 + 1 + 1)))]) else none else none else g a (w64 (d + 1)) e f h i j else none else k0 a d e f h i j
def l3 {R : Type} (N : Nat) (k0 : F_risiisr R) : Nat -> F_risiisr R
 | 0 => fun _ _ _ _ _ _ _ => none
 | n + 1 => r3 N (l3 N k0 n) k0
def b {R : Type} (N : Nat) (kr : Row -> Option R) (a : Row) (d : ByteArray) (e f : Int) (h : ByteArray) : Option R := l3 N (fun i _ j l m o p => bif roomy (p.length + (List.set (zeros [Ck.s, Ck.i IntKind.i64, Ck.i IntKind.i64, Ck.s] 1) 0 [.s j, .i .i64 l, .i .i64 m, .s o]).length) 48 then l9 N (fun _ _ _ _ _ _ q => kr q) N i 0 j l m o (p ++ List.set (zeros [Ck.s, Ck.i IntKind.i64, Ck.i IntKind.i64, Ck.s] 1) 0 [.s j, .i .i64 l, .i .i64 m, .s o]) else none) N a 0 d e f h (zeros [Ck.s, Ck.i IntKind.i64, Ck.i IntKind.i64, Ck.s] 0)
def vo := b Lib.big fun r0 => some r0
def c := fun a d e f h => (vo a d e f h).isSome
def v := fun a d e f h => (vo a d e f h).getD ([])
theorem out {x} : ∀ a d e f h, vo a d e f h = some x -> c a d e f h = true /\ v a d e f h = x := fun _ _ _ _ _ => Lib.out_
end Go.FG.U57

namespace Go.FG.U13
def r7 {R : Type} (N : Nat) (g k0 : F_irr R) (a : Int) (d e : Row) : Option R := bif decide (a < (e.length : Int)) then bif decide (0 <= a) && decide (a < (e.length : Int)) then bif (U56.v (cvS (cellAt e a.toNat 0))).2.2.2.2 then bif U57.c d (U56.v (cvS (cellAt e a.toNat 0))).1 (U56.v (cvS (cellAt e a.toNat 0))).2.1 (U56.v (cvS (cellAt e a.toNat 0))).2.2.1 (U56.v (cvS (cellAt e a.toNat 0))).2.2.2.1 then g (w64 (a + 1)) (U57.v d (U56.v (cvS (cellAt e a.toNat 0))).1 (U56.v (cvS (cellAt e a.toNat 0))).2.1 (U56.v (cvS (cellAt e a.toNat 0))).2.2.1 (U56.v (cvS (cellAt e a.toNat 0))).2.2.2.1) e else none else g (w64 (a + 1)) d e else none else k0 a d e
def l7 {R : Type} (N : Nat) (k0 : F_irr R) : Nat -> F_irr R
 | 0 => fun _ _ _ => none
 | n + 1 => r7 N (l7 N k0 n) k0
def b {R : Type} (N : Nat) (kr : Row -> Option R) (a : Row) : Option R := bif U53.c a then bif !U53.v a then kr (zeros [Ck.s, Ck.i IntKind.i64, Ck.i IntKind.i64, Ck.s] 0) else bif U54.c a { data := #[UInt8.ofNat 107, UInt8.ofNat 101, UInt8.ofNat 112, UInt8.ofNat 116] } then bif U55.c (U54.v a { data := #[UInt8.ofNat 107, UInt8.ofNat 101, UInt8.ofNat 112, UInt8.ofNat 116] }).1 then l7 N (fun _ d _ => kr d) N 0 (zeros [Ck.s, Ck.i IntKind.i64, Ck.i IntKind.i64, Ck.s] 0) (U55.v (U54.v a { data := #[UInt8.ofNat 107, UInt8.ofNat 101, UInt8.ofNat 112, UInt8.ofNat 116] }).1).1 else none else none else none
def vo := b Lib.big fun r0 => some r0
def c := fun a => (vo a).isSome
def v := fun a => (vo a).getD ([])
theorem out {x} : ∀ a, vo a = some x -> c a = true /\ v a = x := fun _ => Lib.out_
end Go.FG.U13

namespace Go.FG.U14
def r5 {R : Type} (N : Nat) (g k0 : F_iriir R) (a : Int) (d : Row) (e f : Int) (h : Row) : Option R := bif decide (a < 12) then bif U59.c d e f 10000 then Lib.lt (U59.v d e f 10000) fun i => bif roomy (h.length + (List.set (zeros [Ck.i IntKind.i64] 1) 0 [.i .i64 i.1]).length) 8 then g (w64 (a + 1)) i.2.1 i.2.2.1 i.2.2.2 (h ++ List.set (zeros [Ck.i IntKind.i64] 1) 0 [.i .i64 i.1]) else none else none else k0 a d e f h
def l5 {R : Type} (N : Nat) (k0 : F_iriir R) : Nat -> F_iriir R
 | 0 => fun _ _ _ _ _ => none
 | n + 1 => r5 N (l5 N k0 n) k0
def b {R : Type} (N : Nat) (kr : Row -> Option R) (a : Row) : Option R := bif U52.c a then Lib.lt (U52.v a) fun d => bif U58.c d.1 d.2.1 d.2.2 then Lib.lt (U58.v d.1 d.2.1 d.2.2) fun e => l5 N (fun _ _ _ _ f => kr f) N 0 e.2.1 e.2.2.1 e.2.2.2 (zeros [Ck.i IntKind.i64] 0) else none else none
def vo := b Lib.big fun r0 => some r0
def c := fun a => (vo a).isSome
def v := fun a => (vo a).getD ([])
theorem out {x} : ∀ a, vo a = some x -> c a = true /\ v a = x := fun _ => Lib.out_
end Go.FG.U14

namespace Go.FG.U70
def b {R : Type} (kr : Bool -> Option R) (a d e : Int) : Option R := bif decide (a ≥ d) then kr (decide (a <= e)) else kr false
def v (a0 a1 a2 : Int) : Bool := bif decide (a0 ≥ a1) then decide (a0 <= a2) else false
theorem b_eq {R : Type} (kr : Bool -> Option R) (a0 a1 a2 : Int) : b kr a0 a1 a2 = kr (v a0 a1 a2) := by
 first | rfl | (unfold b v; simp only [Bool.cond_eq_ite]; (repeat' split) <;> rfl)
end Go.FG.U70

namespace Go.FG.U60
def r2 {R : Type} (N : Nat) (g k0 k1 : F_briir R) (a : Bool) (d : Row) (e f : Int) (h : Row) : Option R := bif decide (f < e) then bif decide (0 <= f) && decide (f < (d.length : Int)) then bif !U70.v ((cvS (cellAt d f.toNat 0)).size : Int) 1 8 then k0 false d e f h else bif decide (((cvS (cellAt d f.toNat 1)).size : Int) > 20000) then k0 false d e f h else bif !U70.v (cvI (cellAt d f.toNat (1 + 1))) 0 ((cvS (cellAt d f.toNat 1)).size : Int) then k0 false d e f h else bif decide (f > 0) then bif decide (0 <= w64 (f - 1)) && decide (w64 (f - 1) < (h.length : Int)) then bif !Op.bytesLess (cvS (cellAt h (w64 (f - 1)).toNat 0)).toList (cvS (cellAt d f.toNat 0)).toList then k0 false d e f h else g a d e (w64 (f + 1)) h else none else g a d e (w64 (f + 1)) h else none else k1 a d e f h
def l2 {R : Type} (N : Nat) (k0 k1 : F_briir R) : Nat -> F_briir R
 | 0 => fun _ _ _ _ _ => none
 | n + 1 => r2 N (l2 N k0 k1 n) k0 k1
def b {R : Type} (N : Nat) (kr : Bool -> Option R) (a : Row) : Option R := l2 N (fun d _ _ _ _ => kr d) (fun _ _ _ _ e => kr (decide ((e.length : Int) <= 30))) N false a (a.length : Int) 0 a
def vo := b Lib.big fun r0 => some r0
def c := fun a => (vo a).isSome
def v := fun a => (vo a).getD false
theorem out {x} : ∀ a, vo a = some x -> c a = true /\ v a = x := fun _ => Lib.out_
end Go.FG.U60

namespace Go.FG.U78
def b {R : Type} (kr : Bool -> Option R) (a : ByteArray) : Option R := kr (U70.v (a.size : Int) 1 30)
def v (a0 : ByteArray) : Bool := (U70.v (a0.size : Int) 1 30)
theorem b_eq {R : Type} (kr : Bool -> Option R) (a0 : ByteArray) : b kr a0 = kr (v a0) := by
 first | rfl | (unfold b v; simp only [Bool.cond_eq_ite]; (repeat' split) <;> rfl)
end Go.FG.U78

namespace Go.FG.U96
def b {R : Type} (kr : Bool -> Option R) (a : Int) : Option R := kr (U70.v a 0 1000000000)
def v (a0 : Int) : Bool := (U70.v a0 0 1000000000)
theorem b_eq {R : Type} (kr : Bool -> Option R) (a0 : Int) : b kr a0 = kr (v a0) := by
 first | rfl | (unfold b v; simp only [Bool.cond_eq_ite]; (repeat' split) <;> rfl)
end Go.FG.U96

namespace Go.FG.U159
def b {R : Type} (kr : Bool -> Option R) (a : ByteArray) (d e : Int) (f : ByteArray) : Option R := bif U78.v a then bif U96.v d then bif U70.v e 1 999999 then kr (decide ((f.size : Int) <= 400)) else kr false else kr false else kr false
def v (a0 : ByteArray) (a1 a2 : Int) (a3 : ByteArray) : Bool := bif U78.v a0 then bif U96.v a1 then bif U70.v a2 1 999999 then decide ((a3.size : Int) <= 400) else false else false else false
theorem b_eq {R : Type} (kr : Bool -> Option R) (a0 : ByteArray) (a1 a2 : Int) (a3 : ByteArray) : b kr a0 a1 a2 a3 = kr (v a0 a1 a2 a3) := by
 first | rfl | (unfold b v; simp only [Bool.cond_eq_ite]; (repeat' split) <;> rfl)
end Go.FG.U159

namespace Go.FG.U209
def r4 {R : Type} (N : Nat) (g k0 : F_ir R) (a : Int) (d : Row) : Option R := bif decide (a > 127) then bif roomy (d.length + (List.set (zeros [Ck.i IntKind.u8] 1) 0 [CV.i IntKind.u8 (IntKind.wrap IntKind.u8 (w64 (Int.tmod a 128 + 128)))]).length) 1 then g (w64 (Int.tdiv a 128)) (d ++ List.set (zeros [Ck.i IntKind.u8] 1) 0 [CV.i IntKind.u8 (IntKind.wrap IntKind.u8 (w64 (Int.tmod a 128 + 128)))]) else none else k0 a d
def l4 {R : Type} (N : Nat) (k0 : F_ir R) : Nat -> F_ir R
 | 0 => fun _ _ => none
 | n + 1 => r4 N (l4 N k0 n) k0
def b {R : Type} (N : Nat) (kr : F_sb R) (a : Int) : Option R := bif !U70.v a 0 1000000000 then kr ⟨#[]⟩ false else l4 N (fun d e => bif roomy (e.length + (List.set (zeros [Ck.i IntKind.u8] 1) 0 [CV.i IntKind.u8 (IntKind.wrap IntKind.u8 d)]).length) 1 then bif decide ((e ++ List.set (zeros [Ck.i IntKind.u8] 1) 0 [CV.i IntKind.u8 (IntKind.wrap IntKind.u8 d)]).length <= 4611686018427387904) then kr (bytesOf (e ++ List.set (zeros [Ck.i IntKind.u8] 1) 0 [CV.i IntKind.u8 (IntKind.wrap IntKind.u8 d)])) true else none else none) N a (zeros [Ck.i IntKind.u8] 0)
def v (n0 : Int) : ByteArray × Bool := if 0 <= n0 /\ n0 <= 1000000000 then (bytesOf (Lib.vb n0), true) else (⟨#[]⟩, false)
theorem b_eq {R : Type} (kr : F_sb R) (n0 : Int) : ∃ N, b N kr n0 = kr (v n0).1 (v n0).2 := by
 refine ⟨n0.toNat + 1, ?_⟩
 unfold b v
 by_cases hn : 0 <= n0 /\ n0 <= 1000000000
 ·have e : U70.v n0 0 1000000000 = true := by simp [U70.v, hn]
  rw [e, if_pos hn]
  refine Lib.var_run (fun n x acc => l4 (n0.toNat + 1) _ n x acc) (fun y => kr y true) (fun n x acc h hl => ?_) (fun n x acc h hl => ?_) n0 (by omega)
  ·simp only [l4, r4, h, decide_true, cond_true, Lib.len_set1, show acc.length + List.length [[CV.i IntKind.u8 (IntKind.wrap IntKind.u8 (w64 (Int.tmod x 128 + 128)))]] = acc.length + 1 from rfl, Lib.roomy1 (show acc.length + 1 <= 140737488355328 by omega), show decide ((128 : Int) = 0) = false from rfl, Bool.and_false, Bool.not_false]
  ·simp only [l4, r4, h, decide_false, cond_false, Lib.len_set1, show acc.length + List.length [[CV.i IntKind.u8 (IntKind.wrap IntKind.u8 x)]] = acc.length + 1 from rfl, Lib.roomy1 (show acc.length + 1 <= 140737488355328 by omega), cond_true]
   exact Lib.bif_t (Lib.dec_t (by rw [List.length_append, List.length_singleton]; omega))
 ·have e : U70.v n0 0 1000000000 = false := by
   simp [U70.v]; omega
  rw [e, if_neg hn]; rfl
end Go.FG.U209

namespace Go.FG.U208
def b {R : Type} (kr : F_sb R) (a : ByteArray) : Option R := bif decide ((a.size : Int) > 20000) then kr ⟨#[]⟩ false else bif decide ((U209.v (a.size : Int)).1.size + a.size <= 4611686018427387904) then kr ((U209.v (a.size : Int)).1 ++ a) true else none
def v (s0 : ByteArray) : ByteArray × Bool := if s0.size > 20000 then (⟨#[]⟩, false) else (bytesOf (Lib.vb s0.size) ++ s0, true)
theorem b_eq {R : Type} (kr : F_sb R) (s0 : ByteArray) : b kr s0 = kr (v s0).1 (v s0).2 := by
 unfold b v
 by_cases h : s0.size > 20000
 ·rw [if_pos h, show decide ((s0.size : Int) > 20000) = true by simp; omega]; rfl
 ·rw [if_neg h, show decide ((s0.size : Int) > 20000) = false by simp; omega]
  have e : U209.v (s0.size : Int) = (bytesOf (Lib.vb s0.size), true) := by unfold U209.v; rw [if_pos (by omega)]
  have := Lib.var_size (x := (s0.size : Int)) (by omega)
  rw [e, cond_false]
  simp (disch := omega) only [Lib.dnat, cond_true]
end Go.FG.U208

namespace Go.FG.U146
def b {R : Type} (kr : F_sb R) (a : ByteArray) (d e : Int) (f : ByteArray) : Option R := bif !U159.v a d e f then kr ⟨#[]⟩ false else bif decide ((U208.v a).1.size + (U209.v d).1.size <= 4611686018427387904) then bif decide (((U208.v a).1 ++ (U209.v d).1).size + (U209.v e).1.size <= 4611686018427387904) then bif decide (((U208.v a).1 ++ (U209.v d).1 ++ (U209.v e).1).size + f.size <= 4611686018427387904) then kr ((U208.v a).1 ++ (U209.v d).1 ++ (U209.v e).1 ++ f) true else none else none else none
def v (e0_0 : ByteArray) (e0_1 : Int) (e0_2 : Int) (e0_3 : ByteArray) : ByteArray × Bool := U63.v e0_0 e0_1 e0_2 e0_3
theorem b_eq {R : Type} (kr : F_sb R) (e0_0 : ByteArray) (e0_1 : Int) (e0_2 : Int) (e0_3 : ByteArray) : b kr e0_0 e0_1 e0_2 e0_3 = kr (v e0_0 e0_1 e0_2 e0_3).1 (v e0_0 e0_1 e0_2 e0_3).2 := by
 have ee : U159.v e0_0 e0_1 e0_2 e0_3 = U149.v e0_0 e0_1 e0_2 e0_3 := rfl
 unfold b v U63.v
 rw [ee]
 cases h : U149.v e0_0 e0_1 e0_2 e0_3 with
 | false => rfl
 | true =>
  have hr := U149.rng h
  have z1 : (bytesOf (Lib.vb (e0_0.size : Int))).size <= 64 := Lib.var_size (x := (e0_0.size : Int)) (by omega)
  have z2 : (bytesOf (Lib.vb e0_1)).size <= 64 := Lib.var_size (x := e0_1) (by omega)
  have z3 : (bytesOf (Lib.vb e0_2)).size <= 64 := Lib.var_size (x := e0_2) (by omega)
  have e1 : U208.v e0_0 = (bytesOf (Lib.vb e0_0.size) ++ e0_0, true) := by unfold U208.v; rw [if_neg (by omega)]
  have e2 : U209.v e0_1 = (bytesOf (Lib.vb e0_1), true) := by unfold U209.v; rw [if_pos (by omega)]
  have e3 : U209.v e0_2 = (bytesOf (Lib.vb e0_2), true) := by unfold U209.v; rw [if_pos (by omega)]
  rw [e1, e2, e3]
  simp (disch := omega) only [Bool.not_true, cond_false, cond_true, if_true, Lib.size_app, Lib.dnat]
  rfl
end Go.FG.U146

namespace Go.FG.U231
def r6 {R : Type} (N : Nat) (g k0 : F_isii R) (a : Int) (d : ByteArray) (e f : Int) : Option R := bif decide (f < 8) then bif decide (Int.tmod a 2 = 1) then g (IntKind.wrap IntKind.u32 (↑(BitVec.toNat (BitVec.xor (BitVec.ofInt 32 (IntKind.wrap IntKind.u32 (Int.tdiv a 2))) (BitVec.ofInt 32 3558460437))) : Int)) d e (w64 (f + 1)) else g (IntKind.wrap IntKind.u32 (Int.tdiv a 2)) d e (w64 (f + 1)) else k0 a d e f
def l6 {R : Type} (N : Nat) (k0 : F_isii R) : Nat -> F_isii R
 | 0 => fun _ _ _ _ => none
 | n + 1 => r6 N (l6 N k0 n) k0
def r2 {R : Type} (N : Nat) (g k0 : F_isi R) (a : Int) (d : ByteArray) (e : Int) : Option R := bif decide (e < (d.size : Int)) then bif decide (0 <= e) && decide (e < (d.size : Int)) then l6 N (fun f h i _ => g f h (w64 (i + 1))) N (IntKind.wrap IntKind.u32 (↑(BitVec.toNat (BitVec.xor (BitVec.ofInt 32 a) (BitVec.ofInt 32 (IntKind.wrap IntKind.u32 (↑(btN d e.toNat) : Int))))) : Int)) d e 0 else none else k0 a d e
def l2 {R : Type} (N : Nat) (k0 : F_isi R) : Nat -> F_isi R
 | 0 => fun _ _ _ => none
 | n + 1 => r2 N (l2 N k0 n) k0
def b {R : Type} (N : Nat) (kr : Int -> Option R) (a : Int) (d : ByteArray) : Option R := l2 N (fun e _ _ => kr e) N a d 0
def vo := b Lib.big fun r0 => some r0
def c := fun a d => (vo a d).isSome
def v := fun a d => (vo a d).getD (0)
theorem out {x} : ∀ a d, vo a d = some x -> c a d = true /\ v a d = x := fun _ _ => Lib.out_
end Go.FG.U231

namespace Go.FG.U216
def b {R : Type} (kr : Int -> Option R) (a : ByteArray) : Option R := bif U231.c 4294967295 a then kr (U231.v 4294967295 a) else none
def vo := b fun r0 => some r0
def c := fun a => (vo a).isSome
def v := fun a => (vo a).getD (0)
theorem out {x} : ∀ a, vo a = some x -> c a = true /\ v a = x := fun _ => Lib.out_
end Go.FG.U216

namespace Go.FG.U157
def b {R : Type} (kr : ByteArray -> Option R) (a : ByteArray) : Option R := bif U216.c a then kr (bytesOf (List.set (List.set (List.set (List.set (zeros [Ck.i IntKind.u8] 4) 0 [CV.i IntKind.u8 (IntKind.wrap IntKind.u8 (Int.fdiv (U216.v a) (Int.pow 2 (if Int.toNat 24 <= 32 then Int.toNat 24 else 32))))]) 1 [CV.i IntKind.u8 (IntKind.wrap IntKind.u8 (Int.fdiv (U216.v a) (Int.pow 2 (if Int.toNat 16 <= 32 then Int.toNat 16 else 32))))]) 2 [CV.i IntKind.u8 (IntKind.wrap IntKind.u8 (Int.fdiv (U216.v a) (Int.pow 2 (if Int.toNat 8 <= 32 then Int.toNat 8 else 32))))]) 3 [CV.i IntKind.u8 (IntKind.wrap IntKind.u8 (U216.v a))])) else none
def vo := b fun r0 => some r0
def c := fun a => (vo a).isSome
def v := fun a => (vo a).getD (⟨#[]⟩)
theorem out {x} : ∀ a, vo a = some x -> c a = true /\ v a = x := fun _ => Lib.out_
end Go.FG.U157

namespace Go.FG.U147
def b {R : Type} (kr : F_sb R) (a : ByteArray) : Option R := bif !U70.v (a.size : Int) 1 9000 then kr ⟨#[]⟩ false else bif U157.c a then bif decide ((U209.v (a.size : Int)).1.size + (U157.v a).size <= 4611686018427387904) then bif decide (((U209.v (a.size : Int)).1 ++ U157.v a).size + a.size <= 4611686018427387904) then kr ((U209.v (a.size : Int)).1 ++ U157.v a ++ a) true else none else none else none
def vo := b fun r0 r1 => some (r0, r1)
def c := fun a => (vo a).isSome
def v := fun a => (vo a).getD (⟨#[]⟩, false)
theorem out {x} : ∀ a, vo a = some x -> c a = true /\ v a = x := fun _ => Lib.out_
end Go.FG.U147

namespace Go.FG.U61
def b {R : Type} (kr : F_sb R) (a : ByteArray) (d e : Int) (f : ByteArray) : Option R := bif !(U146.v a d e f).2 then kr ⟨#[]⟩ false else bif U147.c (U146.v a d e f).1 then kr (U147.v (U146.v a d e f).1).1 (U147.v (U146.v a d e f).1).2 else none
def vo := b fun r0 r1 => some (r0, r1)
def c := fun a d e f => (vo a d e f).isSome
def v := fun a d e f => (vo a d e f).getD (⟨#[]⟩, false)
theorem out {x} : ∀ a d e f, vo a d e f = some x -> c a d e f = true /\ v a d e f = x := fun _ _ _ _ => Lib.out_
end Go.FG.U61

namespace Go.FG.U211
def b {R : Type} (kr : Bool -> Option R) (a d : ByteArray) (e : Int) (name1 : ByteArray) : Option R := kr (List.beq (ByteArray.toList a) (ByteArray.toList name1))
def v (a0 a1 : ByteArray) (a2 : Int) (name1 : ByteArray) : Bool := (List.beq (ByteArray.toList a0) (ByteArray.toList name1))
theorem b_eq {R : Type} (kr : Bool -> Option R) (a0 a1 : ByteArray) (a2 : Int) (name1 : ByteArray) : b kr a0 a1 a2 name1 = kr (v a0 a1 a2 name1) := by
 first | rfl | (unfold b v; simp only [Bool.cond_eq_ite]; (repeat' split) <;> rfl)
end Go.FG.U211

namespace Go.FG.U210a
def r2 {R : Type} (N : Nat) (g k0 k1 : F_rsiii R) (a : Row) (d : ByteArray) (e f h : Int) : Option R := bif decide (h < f) then bif decide (0 <= h) && decide (h < (a.length : Int)) then bif U211.v (cvS (cellAt a h.toNat 0)) (cvS (cellAt a h.toNat 1)) (cvI (cellAt a h.toNat (1 + 1))) d then k0 a d h f h else g a d e f (w64 (h + 1)) else none else k1 a d e f h
def l2 {R : Type} (N : Nat) (k0 k1 : F_rsiii R) : Nat -> F_rsiii R
 | 0 => fun _ _ _ _ _ => none
 | n + 1 => r2 N (l2 N k0 k1 n) k0 k1
def b {R : Type} (N : Nat) (kr : Int -> Option R) (a : Row) (name1 : ByteArray) : Option R := l2 N (fun _ _ d _ _ => kr d) (fun _ _ _ _ _ => kr (-1)) N a name1 0 (a.length : Int) 0
def vo := b Lib.big fun r0 => some r0
def c := fun a d => (vo a d).isSome
def v := fun a d => (vo a d).getD (0)
theorem out {x} : ∀ a d, vo a d = some x -> c a d = true /\ v a d = x := fun _ _ => Lib.out_
end Go.FG.U210a

namespace Go.FG.U215
def b {R : Type} (kr : Bool -> Option R) (a d : ByteArray) (e : Int) (name1 : ByteArray) : Option R := kr (List.beq (ByteArray.toList a) (ByteArray.toList name1))
def v (a0 a1 : ByteArray) (a2 : Int) (name1 : ByteArray) : Bool := (List.beq (ByteArray.toList a0) (ByteArray.toList name1))
theorem b_eq {R : Type} (kr : Bool -> Option R) (a0 a1 : ByteArray) (a2 : Int) (name1 : ByteArray) : b kr a0 a1 a2 name1 = kr (v a0 a1 a2 name1) := by
 first | rfl | (unfold b v; simp only [Bool.cond_eq_ite]; (repeat' split) <;> rfl)
end Go.FG.U215

namespace Go.FG.U210b
def r2 {R : Type} (N : Nat) (g k0 k1 : F_rsiii R) (a : Row) (d : ByteArray) (e f h : Int) : Option R := bif decide (h < f) then bif decide (0 <= h) && decide (h < (a.length : Int)) then bif U215.v (cvS (cellAt a h.toNat 0)) (cvS (cellAt a h.toNat 1)) (cvI (cellAt a h.toNat (1 + 1))) d then k0 a d h f h else g a d e f (w64 (h + 1)) else none else k1 a d e f h
def l2 {R : Type} (N : Nat) (k0 k1 : F_rsiii R) : Nat -> F_rsiii R
 | 0 => fun _ _ _ _ _ => none
 | n + 1 => r2 N (l2 N k0 k1 n) k0 k1
def b {R : Type} (N : Nat) (kr : Int -> Option R) (a : Row) (name1 : ByteArray) : Option R := l2 N (fun _ _ d _ _ => kr d) (fun _ _ _ _ _ => kr (-1)) N a name1 0 (a.length : Int) 0
def vo := b Lib.big fun r0 => some r0
def c := fun a d => (vo a d).isSome
def v := fun a d => (vo a d).getD (0)
theorem out {x} : ∀ a d, vo a d = some x -> c a d = true /\ v a d = x := fun _ _ => Lib.out_
end Go.FG.U210b

namespace Go.FG.U148
def b {R : Type} (kr : Int -> Option R) (a : Row) (d : ByteArray) : Option R := bif U210a.c a d then kr (U210a.v a d) else none
def vo := b fun r0 => some r0
def c := fun a d => (vo a d).isSome
def v := fun a d => (vo a d).getD (0)
theorem out {x} : ∀ a d, vo a d = some x -> c a d = true /\ v a d = x := fun _ _ => Lib.out_
end Go.FG.U148

namespace Go.FG.U62
def b {R : Type} (kr : F_sb R) (a : Row) (d : ByteArray) : Option R := bif U148.c a d then bif decide (U148.v a d < 0) then kr ⟨#[]⟩ false else bif decide (0 <= U148.v a d) && decide (U148.v a d < (a.length : Int)) then kr (cvS (cellAt a (U148.v a d).toNat 1)) true else none else none
def vo := b fun r0 r1 => some (r0, r1)
def c := fun a d => (vo a d).isSome
def v := fun a d => (vo a d).getD (⟨#[]⟩, false)
theorem out {x} : ∀ a d, vo a d = some x -> c a d = true /\ v a d = x := fun _ _ => Lib.out_
end Go.FG.U62

namespace Go.FG.U15
def r5 {R : Type} (N : Nat) (g k0 k1 : F_bsriir R) (a : Bool) (d : ByteArray) (e : Row) (f h : Int) (i : Row) : Option R := bif decide (h < f) then bif decide (0 <= h) && decide (h < (e.length : Int)) then bif U61.c (cvS (cellAt e h.toNat 0)) (cvI (cellAt e h.toNat 1)) (cvI (cellAt e h.toNat (1 + 1))) (cvS (cellAt e h.toNat (1 + 1 + 1))) then bif !(U61.v (cvS (cellAt e h.toNat 0)) (cvI (cellAt e h.toNat 1)) (cvI (cellAt e h.toNat (1 + 1))) (cvS (cellAt e h.toNat (1 + 1 + 1)))).2 then k0 false d e f h i else bif decide (d.size + (U61.v (cvS (cellAt e h.toNat 0)) (cvI (cellAt e h.toNat 1)) (cvI (cellAt e h.toNat (1 + 1))) (cvS (cellAt e h.toNat (1 + 1 + 1)))).1.size <= 4611686018427387904) then g a (d ++ (U61.v (cvS (cellAt e h.toNat 0)) (cvI (cellAt e h.toNat 1)) (cvI (cellAt e h.toNat (1 + 1))) (cvS (cellAt e h.toNat (1 + 1 + 1)))).1) e f (w64 (h + 1)) i else none else none else none else k1 a d e f h i
def l5 {R : Type} (N : Nat) (k0 k1 : F_bsriir R) : Nat -> F_bsriir R
 | 0 => fun _ _ _ _ _ _ => none
 | n + 1 => r5 N (l5 N k0 k1 n) k0 k1
def b {R : Type} (N : Nat) (kr : F_rb R) (a d : Row) : Option R := bif U60.c a then bif !U60.v a then kr [] false else l5 N (fun e _ _ _ _ _ => kr [] e) (fun _ f _ _ _ h => bif U62.c h { data := #[UInt8.ofNat 110, UInt8.ofNat 101, UInt8.ofNat 119] } then bif (U62.v h { data := #[UInt8.ofNat 110, UInt8.ofNat 101, UInt8.ofNat 119] }).2 then kr (zeros [Ck.i IntKind.i64, Ck.s, Ck.s, Ck.s] 0 ++ List.set (zeros [Ck.i IntKind.i64, Ck.s, Ck.s, Ck.s] 1) 0 [.i .i64 4, .s { data := #[UInt8.ofNat 110, UInt8.ofNat 101, UInt8.ofNat 119] }, .s ⟨#[]⟩, .s ⟨#[]⟩] ++ List.set (List.set (List.set (zeros [Ck.i IntKind.i64, Ck.s, Ck.s, Ck.s] 3) 0 [.i .i64 1, .s { data := #[UInt8.ofNat 110, UInt8.ofNat 101, UInt8.ofNat 119] }, .s f, .s ⟨#[]⟩]) 1 [.i .i64 2, .s { data := #[UInt8.ofNat 110, UInt8.ofNat 101, UInt8.ofNat 119] }, .s ⟨#[]⟩, .s ⟨#[]⟩]) 2 [.i .i64 3, .s { data := #[UInt8.ofNat 110, UInt8.ofNat 101, UInt8.ofNat 119] }, .s ⟨#[]⟩, .s { data := #[UInt8.ofNat 107, UInt8.ofNat 101, UInt8.ofNat 112, UInt8.ofNat 116] }]) true else kr (zeros [Ck.i IntKind.i64, Ck.s, Ck.s, Ck.s] 0 ++ List.set (List.set (List.set (zeros [Ck.i IntKind.i64, Ck.s, Ck.s, Ck.s] 3) 0 [.i .i64 1, .s { data := #[UInt8.ofNat 110, UInt8.ofNat 101, UInt8.ofNat 119] }, .s f, .s ⟨#[]⟩]) 1 [.i .i64 2, .s { data := #[UInt8.ofNat 110, UInt8.ofNat 101, UInt8.ofNat 119] }, .s ⟨#[]⟩, .s ⟨#[]⟩]) 2 [.i .i64 3, .s { data := #[UInt8.ofNat 110, UInt8.ofNat 101, UInt8.ofNat 119] }, .s ⟨#[]⟩, .s { data := #[UInt8.ofNat 107, UInt8.ofNat 101, UInt8.ofNat 112, UInt8.ofNat 116] }]) true else none) N false ⟨#[]⟩ d (d.length : Int) 0 a else none
def vo := b Lib.big fun r0 r1 => some (r0, r1)
def c := fun a d => (vo a d).isSome
def v := fun a d => (vo a d).getD ([], false)
theorem out {x} : ∀ a d, vo a d = some x -> c a d = true /\ v a d = x := fun _ _ => Lib.out_
end Go.FG.U15

namespace Go.FG.U16
def r9 {R : Type} (N : Nat) (g : F_rbsir R) (k0 : F_rbsirr R) (k1 : F_rbsir R) (a : Row) (d : Bool) (e : ByteArray) (f : Int) (h : Row) : Option R := bif decide (f < (a.length : Int)) then bif decide (0 <= f) && decide (f < (a.length : Int)) then bif U64.c (U63.v (cvS (cellAt a f.toNat 0)) (cvI (cellAt a f.toNat 1)) (cvI (cellAt a f.toNat (1 + 1))) (cvS (cellAt a f.toNat (1 + 1 + 1)))).1 then bif !(U63.v (cvS (cellAt a f.toNat 0)) (cvI (cellAt a f.toNat 1)) (cvI (cellAt a f.toNat (1 + 1))) (cvS (cellAt a f.toNat (1 + 1 + 1)))).2 then k0 a false e f (zeros [Ck.i IntKind.i64, Ck.s, Ck.s, Ck.s] 0) h else bif !(U64.v (U63.v (cvS (cellAt a f.toNat 0)) (cvI (cellAt a f.toNat 1)) (cvI (cellAt a f.toNat (1 + 1))) (cvS (cellAt a f.toNat (1 + 1 + 1)))).1).2 then k0 a false e f (zeros [Ck.i IntKind.i64, Ck.s, Ck.s, Ck.s] 0) h else bif decide (e.size + (U64.v (U63.v (cvS (cellAt a f.toNat 0)) (cvI (cellAt a f.toNat 1)) (cvI (cellAt a f.toNat (1 + 1))) (cvS (cellAt a f.toNat (1 + 1 + 1)))).1).1.size <= 4611686018427387904) then g a d (e ++ (U64.v (U63.v (cvS (cellAt a f.toNat 0)) (cvI (cellAt a f.toNat 1)) (cvI (cellAt a f.toNat (1 + 1))) (cvS (cellAt a f.toNat (1 + 1 + 1)))).1).1) (w64 (f + 1)) h else none else none else none else k1 a d e f h
def l9 {R : Type} (N : Nat) (k0 : F_rbsirr R) (k1 : F_rbsir R) : Nat -> F_rbsir R
 | 0 => fun _ _ _ _ _ => none
 | n + 1 => r9 N (l9 N k0 k1 n) k0 k1
def b {R : Type} (N : Nat) (kr : F_rb R) (a d : Row) : Option R := bif U53.c a then bif !U53.v a then kr (zeros [Ck.i IntKind.i64, Ck.s, Ck.s, Ck.s] 0) false else bif U54.c a { data := #[UInt8.ofNat 110, UInt8.ofNat 101, UInt8.ofNat 119] } then bif (U54.v a { data := #[UInt8.ofNat 110, UInt8.ofNat 101, UInt8.ofNat 119] }).2 then l9 N (fun _ e _ _ f _ => kr f e) (fun _ _ h _ i => bif roomy (i.length + (List.set (List.set (List.set (zeros [Ck.i IntKind.i64, Ck.s, Ck.s, Ck.s] 3) 0 [.i .i64 1, .s { data := #[UInt8.ofNat 110, UInt8.ofNat 101, UInt8.ofNat 119] }, .s h, .s ⟨#[]⟩]) 1 [.i .i64 2, .s { data := #[UInt8.ofNat 110, UInt8.ofNat 101, UInt8.ofNat 119] }, .s ⟨#[]⟩, .s ⟨#[]⟩]) 2 [.i .i64 3, .s { data := #[UInt8.ofNat 110, UInt8.ofNat 101, UInt8.ofNat 119] }, .s ⟨#[]⟩, .s { data := #[UInt8.ofNat 107, UInt8.ofNat 101, UInt8.ofNat 112, UInt8.ofNat 116] }]).length) 56 then kr (i ++ List.set (List.set (List.set (zeros [Ck.i IntKind.i64, Ck.s, Ck.s, Ck.s] 3) 0 [.i .i64 1, .s { data := #[UInt8.ofNat 110, UInt8.ofNat 101, UInt8.ofNat 119] }, .s h, .s ⟨#[]⟩]) 1 [.i .i64 2, .s { data := #[UInt8.ofNat 110, UInt8.ofNat 101, UInt8.ofNat 119] }, .s ⟨#[]⟩, .s ⟨#[]⟩]) 2 [.i .i64 3, .s { data := #[UInt8.ofNat 110, UInt8.ofNat 101, UInt8.ofNat 119] }, .s ⟨#[]⟩, .s { data := #[UInt8.ofNat 107, UInt8.ofNat 101, UInt8.ofNat 112, UInt8.ofNat 116] }]) true else none) N d false ⟨#[]⟩ 0 (zeros [Ck.i IntKind.i64, Ck.s, Ck.s, Ck.s] 0 ++ List.set (zeros [Ck.i IntKind.i64, Ck.s, Ck.s, Ck.s] 1) 0 [.i .i64 4, .s { data := #[UInt8.ofNat 110, UInt8.ofNat 101, UInt8.ofNat 119] }, .s ⟨#[]⟩, .s ⟨#[]⟩]) else l9 N (fun _ j _ _ l _ => kr l j) (fun _ _ m _ o => bif roomy (o.length + (List.set (List.set (List.set (zeros [Ck.i IntKind.i64, Ck.s, Ck.s, Ck.s] 3) 0 [.i .i64 1, .s { data := #[UInt8.ofNat 110, UInt8.ofNat 101, UInt8.ofNat 119] }, .s m, .s ⟨#[]⟩]) 1 [.i .i64 2, .s { data := #[UInt8.ofNat 110, UInt8.ofNat 101, UInt8.ofNat 119] }, .s ⟨#[]⟩, .s ⟨#[]⟩]) 2 [.i .i64 3, .s { data := #[UInt8.ofNat 110, UInt8.ofNat 101, UInt8.ofNat 119] }, .s ⟨#[]⟩, .s { data := #[UInt8.ofNat 107, UInt8.ofNat 101, UInt8.ofNat 112, UInt8.ofNat 116] }]).length) 56 then kr (o ++ List.set (List.set (List.set (zeros [Ck.i IntKind.i64, Ck.s, Ck.s, Ck.s] 3) 0 [.i .i64 1, .s { data := #[UInt8.ofNat 110, UInt8.ofNat 101, UInt8.ofNat 119] }, .s m, .s ⟨#[]⟩]) 1 [.i .i64 2, .s { data := #[UInt8.ofNat 110, UInt8.ofNat 101, UInt8.ofNat 119] }, .s ⟨#[]⟩, .s ⟨#[]⟩]) 2 [.i .i64 3, .s { data := #[UInt8.ofNat 110, UInt8.ofNat 101, UInt8.ofNat 119] }, .s ⟨#[]⟩, .s { data := #[UInt8.ofNat 107, UInt8.ofNat 101, UInt8.ofNat 112, UInt8.ofNat 116] }]) true else none) N d false ⟨#[]⟩ 0 (zeros [Ck.i IntKind.i64, Ck.s, Ck.s, Ck.s] 0) else none else none
def vo := b Lib.big fun r0 r1 => some (r0, r1)
def c := fun a d => (vo a d).isSome
def v := fun a d => (vo a d).getD ([], false)
theorem out {x} : ∀ a d, vo a d = some x -> c a d = true /\ v a d = x := fun _ _ => Lib.out_
end Go.FG.U16

namespace Go.FG.U65
def b {R : Type} (kr : Row -> Option R) (a : Row) : Option R := bif roomy ((zeros [Ck.s, Ck.s, Ck.i IntKind.i64] 0).length + a.length) 40 then kr (zeros [Ck.s, Ck.s, Ck.i IntKind.i64] 0 ++ a) else none
def vo := b fun r0 => some r0
def c := fun a => (vo a).isSome
def v := fun a => (vo a).getD ([])
theorem out {x} : ∀ a, vo a = some x -> c a = true /\ v a = x := fun _ => Lib.out_
end Go.FG.U65

namespace Go.FG.U153
def b {R : Type} (kr : Bool -> Option R) (a : Int) (d e f : ByteArray) : Option R := bif U70.v a 1 4 then bif List.beq (ByteArray.toList e) (ByteArray.toList ⟨#[]⟩) then bif List.beq (ByteArray.toList f) (ByteArray.toList ⟨#[]⟩) then kr true else kr (decide (a = 3)) else bif decide (a = 1) then bif List.beq (ByteArray.toList f) (ByteArray.toList ⟨#[]⟩) then kr true else kr (decide (a = 3)) else kr false else kr false
def v (a0 : Int) (a1 a2 a3 : ByteArray) : Bool := bif U70.v a0 1 4 then bif List.beq (ByteArray.toList a2) (ByteArray.toList { data := #[] }) then bif List.beq (ByteArray.toList a3) (ByteArray.toList { data := #[] }) then true else decide (a0 = 3) else bif decide (a0 = 1) then bif List.beq (ByteArray.toList a3) (ByteArray.toList { data := #[] }) then true else decide (a0 = 3) else false else false
theorem b_eq {R : Type} (kr : Bool -> Option R) (a0 : Int) (a1 a2 a3 : ByteArray) : b kr a0 a1 a2 a3 = kr (v a0 a1 a2 a3) := by
 first | rfl | (unfold b v; simp only [Bool.cond_eq_ite]; (repeat' split) <;> rfl)
end Go.FG.U153

namespace Go.FG.U214
def r5 {R : Type} (N : Nat) (g k0 : F_siir R) (a : ByteArray) (d e : Int) (f : Row) : Option R := bif decide (e < (f.length : Int)) then bif decide (0 <= e) && decide (e < (f.length : Int)) then bif !U215.v (cvS (cellAt f e.toNat 0)) (cvS (cellAt f e.toNat 1)) (cvI (cellAt f e.toNat (1 + 1))) a then bif decide (0 <= d) && decide (d < (f.length : Int)) then g a (w64 (d + 1)) (w64 (e + 1)) (setC f d.toNat 0 [.s (cvS (cellAt f e.toNat 0)), .s (cvS (cellAt f e.toNat 1)), .i .i64 (cvI (cellAt f e.toNat (1 + 1)))]) else none else g a d (w64 (e + 1)) f else none else k0 a d e f
def l5 {R : Type} (N : Nat) (k0 : F_siir R) : Nat -> F_siir R
 | 0 => fun _ _ _ _ => none
 | n + 1 => r5 N (l5 N k0 n) k0
def b {R : Type} (N : Nat) (kr : Row -> Option R) (a : Row) (name1 : ByteArray) : Option R := bif U210b.c a name1 then bif decide (U210b.v a name1 = Int.neg 1) then kr a else l5 N (fun _ d _ e => bif inB d (e.length : Int) (e.length : Int) then bif inB 0 d ((List.take d.toNat e ++ zeros [Ck.s, Ck.s, Ck.i IntKind.i64] ((e.length : Int).toNat - d.toNat) ++ List.drop (e.length : Int).toNat e).length : Int) then kr (view (List.take d.toNat e ++ zeros [Ck.s, Ck.s, Ck.i IntKind.i64] ((e.length : Int).toNat - d.toNat) ++ List.drop (e.length : Int).toNat e) (Int.toNat 0) d.toNat) else none else none) N name1 (U210b.v a name1) (w64 (U210b.v a name1 + 1)) a else none
def vo := b Lib.big fun r0 => some r0
def c := fun a d => (vo a d).isSome
def v := fun a d => (vo a d).getD ([])
theorem out {x} : ∀ a d, vo a d = some x -> c a d = true /\ v a d = x := fun _ _ => Lib.out_
end Go.FG.U214

namespace Go.FG.U155
def b {R : Type} (kr : Row -> Option R) (a : Row) (d : ByteArray) : Option R := bif U65.c a then bif U214.c (U65.v a) d then kr (U214.v (U65.v a) d) else none else none
def vo := b fun r0 => some r0
def c := fun a d => (vo a d).isSome
def v := fun a d => (vo a d).getD ([])
theorem out {x} : ∀ a d, vo a d = some x -> c a d = true /\ v a d = x := fun _ _ => Lib.out_
end Go.FG.U155


namespace Go.FG.U154
def r3 {R : Type} (N : Nat) (g k0 : F_issir R) (a : Int) (d e : ByteArray) (f : Int) (h : Row) : Option R := bif decide (a < (h.length : Int)) then bif decide (0 <= a) && decide (a < (h.length : Int)) then bif Op.bytesLess (cvS (cellAt h a.toNat 0)).toList (ByteArray.toList d) then g (w64 (a + 1)) d e f h else k0 a d e f h else none else k0 a d e f h
def l3 {R : Type} (N : Nat) (k0 : F_issir R) : Nat -> F_issir R
 | 0 => fun _ _ _ _ _ => none
 | n + 1 => r3 N (l3 N k0 n) k0
def b {R : Type} (N : Nat) (kr : Row -> Option R) (a : Row) (d e : ByteArray) (f : Int) : Option R := bif U155.c a d then l3 N (fun h i j l m => bif decide (0 <= h) && decide (h <= (m.length : Int)) && roomy (m.length + (List.set (zeros [Ck.s, Ck.s, Ck.i IntKind.i64] 1) 0 [.s i, .s j, .i .i64 l]).length) 40 then kr (Pu.insR m h.toNat (List.set (zeros [Ck.s, Ck.s, Ck.i IntKind.i64] 1) 0 [.s i, .s j, .i .i64 l])) else none) N 0 d e f (U155.v a d) else none
def vo := b Lib.big fun r0 => some r0
def c := fun a d e f => (vo a d e f).isSome
def v := fun a d e f => (vo a d e f).getD ([])
theorem out {x} : ∀ a d e f, vo a d e f = some x -> c a d e f = true /\ v a d e f = x := fun _ _ _ _ => Lib.out_
end Go.FG.U154

namespace Go.FG.U66
def b {R : Type} (kr : F_rb R) (a : Row) (d : Int) (e f h : ByteArray) : Option R := bif U148.c a e then bif U60.c a then bif !U60.v a then kr [] false else bif !U153.v d e f h then kr [] false else bif decide (U148.v a e < 0) then bif d != 1 then kr [] false else bif decide (U148.v a e ≥ 0) then bif decide (0 <= U148.v a e) && decide (U148.v a e < (a.length : Int)) then bif decide (d = 1) then bif decide ((cvS (cellAt a (U148.v a e).toNat 1)).size + f.size <= 4611686018427387904) then bif U154.c a (cvS (cellAt a (U148.v a e).toNat 0)) (cvS (cellAt a (U148.v a e).toNat 1) ++ f) (cvI (cellAt a (U148.v a e).toNat (1 + 1))) then bif U60.c (U154.v a (cvS (cellAt a (U148.v a e).toNat 0)) (cvS (cellAt a (U148.v a e).toNat 1) ++ f) (cvI (cellAt a (U148.v a e).toNat (1 + 1)))) then bif !U60.v (U154.v a (cvS (cellAt a (U148.v a e).toNat 0)) (cvS (cellAt a (U148.v a e).toNat 1) ++ f) (cvI (cellAt a (U148.v a e).toNat (1 + 1)))) then kr [] false else kr (U154.v a (cvS (cellAt a (U148.v a e).toNat 0)) (cvS (cellAt a (U148.v a e).toNat 1) ++ f) (cvI (cellAt a (U148.v a e).toNat (1 + 1)))) true else none else none else none else bif decide (d = 2) then bif U154.c a (cvS (cellAt a (U148.v a e).toNat 0)) (cvS (cellAt a (U148.v a e).toNat 1)) ((cvS (cellAt a (U148.v a e).toNat 1)).size : Int) then bif U60.c (U154.v a (cvS (cellAt a (U148.v a e).toNat 0)) (cvS (cellAt a (U148.v a e).toNat 1)) ((cvS (cellAt a (U148.v a e).toNat 1)).size : Int)) then bif !U60.v (U154.v a (cvS (cellAt a (U148.v a e).toNat 0)) (cvS (cellAt a (U148.v a e).toNat 1)) ((cvS (cellAt a (U148.v a e).toNat 1)).size : Int)) then kr [] false else kr (U154.v a (cvS (cellAt a (U148.v a e).toNat 0)) (cvS (cellAt a (U148.v a e).toNat 1)) ((cvS (cellAt a (U148.v a e).toNat 1)).size : Int)) true else none else none else bif decide (d = 3) then bif cvI (cellAt a (U148.v a e).toNat (1 + 1)) != ((cvS (cellAt a (U148.v a e).toNat 1)).size : Int) then kr [] false else bif List.beq (ByteArray.toList h) (ByteArray.toList e) then kr [] false else bif U155.c a e then bif U154.c (U155.v a e) h (cvS (cellAt a (U148.v a e).toNat 1)) (cvI (cellAt a (U148.v a e).toNat (1 + 1))) then bif U60.c (U154.v (U155.v a e) h (cvS (cellAt a (U148.v a e).toNat 1)) (cvI (cellAt a (U148.v a e).toNat (1 + 1)))) then bif !U60.v (U154.v (U155.v a e) h (cvS (cellAt a (U148.v a e).toNat 1)) (cvI (cellAt a (U148.v a e).toNat (1 + 1)))) then kr [] false else kr (U154.v (U155.v a e) h (cvS (cellAt a (U148.v a e).toNat 1)) (cvI (cellAt a (U148.v a e).toNat (1 + 1)))) true else none else none else none else bif U155.c a e then bif U60.c (U155.v a e) then bif !U60.v (U155.v a e) then kr [] false else kr (U155.v a e) true else none else none else none else bif decide (d = 1) then bif decide (ByteArray.size ⟨#[]⟩ + f.size <= 4611686018427387904) then bif U154.c a e ({ data := #[] } ++ f) 0 then bif U60.c (U154.v a e ({ data := #[] } ++ f) 0) then bif !U60.v (U154.v a e ({ data := #[] } ++ f) 0) then kr [] false else kr (U154.v a e ({ data := #[] } ++ f) 0) true else none else none else none else bif decide (d = 2) then bif U154.c a e ⟨#[]⟩ (ByteArray.size ⟨#[]⟩ : Int) then bif U60.c (U154.v a e ⟨#[]⟩ (ByteArray.size ⟨#[]⟩ : Int)) then bif !U60.v (U154.v a e ⟨#[]⟩ (ByteArray.size ⟨#[]⟩ : Int)) then kr [] false else kr (U154.v a e ⟨#[]⟩ (ByteArray.size ⟨#[]⟩ : Int)) true else none else none else bif decide (d = 3) then bif List.beq (ByteArray.toList h) (ByteArray.toList e) then kr [] false else bif U155.c a e then bif U154.c (U155.v a e) h ⟨#[]⟩ 0 then bif U60.c (U154.v (U155.v a e) h ⟨#[]⟩ 0) then bif !U60.v (U154.v (U155.v a e) h ⟨#[]⟩ 0) then kr [] false else kr (U154.v (U155.v a e) h ⟨#[]⟩ 0) true else none else none else none else bif U155.c a e then bif U60.c (U155.v a e) then bif !U60.v (U155.v a e) then kr [] false else kr (U155.v a e) true else none else none else bif decide (U148.v a e ≥ 0) then bif decide (0 <= U148.v a e) && decide (U148.v a e < (a.length : Int)) then bif decide (d = 1) then bif decide ((cvS (cellAt a (U148.v a e).toNat 1)).size + f.size <= 4611686018427387904) then bif U154.c a (cvS (cellAt a (U148.v a e).toNat 0)) (cvS (cellAt a (U148.v a e).toNat 1) ++ f) (cvI (cellAt a (U148.v a e).toNat (1 + 1))) then bif U60.c (U154.v a (cvS (cellAt a (U148.v a e).toNat 0)) (cvS (cellAt a (U148.v a e).toNat 1) ++ f) (cvI (cellAt a (U148.v a e).toNat (1 + 1)))) then bif !U60.v (U154.v a (cvS (cellAt a (U148.v a e).toNat 0)) (cvS (cellAt a (U148.v a e).toNat 1) ++ f) (cvI (cellAt a (U148.v a e).toNat (1 + 1)))) then kr [] false else kr (U154.v a (cvS (cellAt a (U148.v a e).toNat 0)) (cvS (cellAt a (U148.v a e).toNat 1) ++ f) (cvI (cellAt a (U148.v a e).toNat (1 + 1)))) true else none else none else none else bif decide (d = 2) then bif U154.c a (cvS (cellAt a (U148.v a e).toNat 0)) (cvS (cellAt a (U148.v a e).toNat 1)) ((cvS (cellAt a (U148.v a e).toNat 1)).size : Int) then bif U60.c (U154.v a (cvS (cellAt a (U148.v a e).toNat 0)) (cvS (cellAt a (U148.v a e).toNat 1)) ((cvS (cellAt a (U148.v a e).toNat 1)).size : Int)) then bif !U60.v (U154.v a (cvS (cellAt a (U148.v a e).toNat 0)) (cvS (cellAt a (U148.v a e).toNat 1)) ((cvS (cellAt a (U148.v a e).toNat 1)).size : Int)) then kr [] false else kr (U154.v a (cvS (cellAt a (U148.v a e).toNat 0)) (cvS (cellAt a (U148.v a e).toNat 1)) ((cvS (cellAt a (U148.v a e).toNat 1)).size : Int)) true else none else none else bif decide (d = 3) then bif cvI (cellAt a (U148.v a e).toNat (1 + 1)) != ((cvS (cellAt a (U148.v a e).toNat 1)).size : Int) then kr [] false else bif List.beq (ByteArray.toList h) (ByteArray.toList e) then kr [] false else bif U155.c a e then bif U154.c (U155.v a e) h (cvS (cellAt a (U148.v a e).toNat 1)) (cvI (cellAt a (U148.v a e).toNat (1 + 1))) then bif U60.c (U154.v (U155.v a e) h (cvS (cellAt a (U148.v a e).toNat 1)) (cvI (cellAt a (U148.v a e).toNat (1 + 1)))) then bif !U60.v (U154.v (U155.v a e) h (cvS (cellAt a (U148.v a e).toNat 1)) (cvI (cellAt a (U148.v a e).toNat (1 + 1)))) then kr [] false else kr (U154.v (U155.v a e) h (cvS (cellAt a (U148.v a e).toNat 1)) (cvI (cellAt a (U148.v a e).toNat (1 + 1)))) true else none else none else none else bif U155.c a e then bif U60.c (U155.v a e) then bif !U60.v (U155.v a e) then kr [] false else kr (U155.v a e) true else none else none else none else bif decide (d = 1) then bif decide (ByteArray.size ⟨#[]⟩ + f.size <= 4611686018427387904) then bif U154.c a e ({ data := #[] } ++ f) 0 then bif U60.c (U154.v a e ({ data := #[] } ++ f) 0) then bif !U60.v (U154.v a e ({ data := #[] } ++ f) 0) then kr [] false else kr (U154.v a e ({ data := #[] } ++ f) 0) true else none else none else none else bif decide (d = 2) then bif U154.c a e ⟨#[]⟩ (ByteArray.size ⟨#[]⟩ : Int) then bif U60.c (U154.v a e ⟨#[]⟩ (ByteArray.size ⟨#[]⟩ : Int)) then bif !U60.v (U154.v a e ⟨#[]⟩ (ByteArray.size ⟨#[]⟩ : Int)) then kr [] false else kr (U154.v a e ⟨#[]⟩ (ByteArray.size ⟨#[]⟩ : Int)) true else none else none else bif decide (d = 3) then bif List.beq (ByteArray.toList h) (ByteArray.toList e) then kr [] false else bif U155.c a e then bif U154.c (U155.v a e) h ⟨#[]⟩ 0 then bif U60.c (U154.v (U155.v a e) h ⟨#[]⟩ 0) then bif !U60.v (U154.v (U155.v a e) h ⟨#[]⟩ 0) then kr [] false else kr (U154.v (U155.v a e) h ⟨#[]⟩ 0) true else none else none else none else bif U155.c a e then bif U60.c (U155.v a e) then bif !U60.v (U155.v a e) then kr [] false else kr (U155.v a e) true else none else none else none else none
def vo := b fun r0 r1 => some (r0, r1)
def c := fun a d e f h => (vo a d e f h).isSome
def v := fun a d e f h => (vo a d e f h).getD ([], false)
theorem out {x} : ∀ a d e f h, vo a d e f h = some x -> c a d e f h = true /\ v a d e f h = x := fun _ _ _ _ _ => Lib.out_
end Go.FG.U66

namespace Go.FG.U17
def r3 {R : Type} (N : Nat) (g k0 k1 : F_ririir R) (a : Row) (d : Int) (e : Row) (f h : Int) (i : Row) : Option R := bif decide (h < f) then bif decide (0 <= h) && decide (h < (e.length : Int)) then bif U66.c i (cvI (cellAt e h.toNat 0)) (cvS (cellAt e h.toNat 1)) (cvS (cellAt e h.toNat (1 + 1))) (cvS (cellAt e h.toNat (1 + 1 + 1))) then bif !(U66.v i (cvI (cellAt e h.toNat 0)) (cvS (cellAt e h.toNat 1)) (cvS (cellAt e h.toNat (1 + 1))) (cvS (cellAt e h.toNat (1 + 1 + 1)))).2 then k0 a h e f h i else g a d e f (w64 (h + 1)) (U66.v i (cvI (cellAt e h.toNat 0)) (cvS (cellAt e h.toNat 1)) (cvS (cellAt e h.toNat (1 + 1))) (cvS (cellAt e h.toNat (1 + 1 + 1)))).1 else none else none else k1 a d e f h i
def l3 {R : Type} (N : Nat) (k0 k1 : F_ririir R) : Nat -> F_ririir R
 | 0 => fun _ _ _ _ _ _ => none
 | n + 1 => r3 N (l3 N k0 k1 n) k0 k1
def b {R : Type} (N : Nat) (kr : F_ri R) (a d : Row) : Option R := bif U65.c a then l3 N (fun _ e _ _ _ f => kr f e) (fun h _ _ _ _ i => kr i (h.length : Int)) N d 0 d (d.length : Int) 0 (U65.v a) else none
def vo := b Lib.big fun r0 r1 => some (r0, r1)
def c := fun a d => (vo a d).isSome
def v := fun a d => (vo a d).getD ([], 0)
theorem out {x} : ∀ a d, vo a d = some x -> c a d = true /\ v a d = x := fun _ _ => Lib.out_
end Go.FG.U17

namespace Go.FG.U18
def r4 {R : Type} (N : Nat) (g k0 k1 : F_rrbi R) (a d : Row) (e : Bool) (f : Int) : Option R := bif decide (f < (a.length : Int)) then bif decide (0 <= f) && decide (f < (a.length : Int)) then bif decide (0 <= f) && decide (f < (d.length : Int)) then bif !(decide (cvI (cellAt a f.toNat 0) = cvI (cellAt d f.toNat 0)) && (List.beq (cvS (cellAt a f.toNat 1)).toList (cvS (cellAt d f.toNat 1)).toList && (List.beq (cvS (cellAt a f.toNat (1 + 1))).toList (cvS (cellAt d f.toNat (1 + 1))).toList && (List.beq (cvS (cellAt a f.toNat (1 + 1 + 1))).toList (cvS (cellAt d f.toNat (1 + 1 + 1))).toList && true)))) then k0 a d false f else g a d e (w64 (f + 1)) else none else none else k1 a d e f
def l4 {R : Type} (N : Nat) (k0 k1 : F_rrbi R) : Nat -> F_rrbi R
 | 0 => fun _ _ _ _ => none
 | n + 1 => r4 N (l4 N k0 k1 n) k0 k1
def b {R : Type} (N : Nat) (kr : Bool -> Option R) (a d : Row) : Option R := bif (a.length : Int) != (d.length : Int) then kr false else l4 N (fun _ _ e _ => kr e) (fun _ _ _ _ => kr true) N a d false 0
def vo := b Lib.big fun r0 => some r0
def c := fun a d => (vo a d).isSome
def v := fun a d => (vo a d).getD false
theorem out {x} : ∀ a d, vo a d = some x -> c a d = true /\ v a d = x := fun _ _ => Lib.out_
end Go.FG.U18

namespace Go.FG.U156
def r5 {R : Type} (N : Nat) (g k0 k1 : F_siiibii R) (a : ByteArray) (d e f : Int) (h : Bool) (i j : Int) : Option R := bif decide (j < 5) then bif decide (w64 (d + j) < (a.size : Int)) then bif decide (0 <= w64 (d + j)) && decide (w64 (d + j) < (a.size : Int)) then bif decide (0 <= w64 (7 * j)) then bif decide (w64 (↑(btN a (w64 (d + j)).toNat) : Int) > 127) then g a d e f h (w64 (i + w64 (Int.tmod (w64 (↑(btN a (w64 (d + j)).toNat) : Int)) 128 * Int.pow 2 (if (w64 (7 * j)).toNat <= 64 then (w64 (7 * j)).toNat else 64)))) (w64 (j + 1)) else bif decide (j > 0) then bif decide (w64 (↑(btN a (w64 (d + j)).toNat) : Int) = 0) then k0 a d 0 0 false (w64 (i + w64 (Int.tmod (w64 (↑(btN a (w64 (d + j)).toNat) : Int)) 128 * Int.pow 2 (if (w64 (7 * j)).toNat <= 64 then (w64 (7 * j)).toNat else 64)))) j else bif decide (w64 (i + w64 (Int.tmod (w64 (↑(btN a (w64 (d + j)).toNat) : Int)) 128 * Int.pow 2 (if (w64 (7 * j)).toNat <= 64 then (w64 (7 * j)).toNat else 64))) > 1000000000) then k0 a d 0 0 false (w64 (i + w64 (Int.tmod (w64 (↑(btN a (w64 (d + j)).toNat) : Int)) 128 * Int.pow 2 (if (w64 (7 * j)).toNat <= 64 then (w64 (7 * j)).toNat else 64)))) j else k0 a d (w64 (i + w64 (Int.tmod (w64 (↑(btN a (w64 (d + j)).toNat) : Int)) 128 * Int.pow 2 (if (w64 (7 * j)).toNat <= 64 then (w64 (7 * j)).toNat else 64)))) (w64 (w64 (d + j) + 1)) true (w64 (i + w64 (Int.tmod (w64 (↑(btN a (w64 (d + j)).toNat) : Int)) 128 * Int.pow 2 (if (w64 (7 * j)).toNat <= 64 then (w64 (7 * j)).toNat else 64)))) j else bif decide (w64 (i + w64 (Int.tmod (w64 (↑(btN a (w64 (d + j)).toNat) : Int)) 128 * Int.pow 2 (if (w64 (7 * j)).toNat <= 64 then (w64 (7 * j)).toNat else 64))) > 1000000000) then k0 a d 0 0 false (w64 (i + w64 (Int.tmod (w64 (↑(btN a (w64 (d + j)).toNat) : Int)) 128 * Int.pow 2 (if (w64 (7 * j)).toNat <= 64 then (w64 (7 * j)).toNat else 64)))) j else k0 a d (w64 (i + w64 (Int.tmod (w64 (↑(btN a (w64 (d + j)).toNat) : Int)) 128 * Int.pow 2 (if (w64 (7 * j)).toNat <= 64 then (w64 (7 * j)).toNat else 64)))) (w64 (w64 (d + j) + 1)) true (w64 (i + w64 (Int.tmod (w64 (↑(btN a (w64 (d + j)).toNat) : Int)) 128 * Int.pow 2 (if (w64 (7 * j)).toNat <= 64 then (w64 (7 * j)).toNat else 64)))) j else none else none else k1 a d e f h i j else k1 a d e f h i j
def l5 {R : Type} (N : Nat) (k0 k1 : F_siiibii R) : Nat -> F_siiibii R
 | 0 => fun _ _ _ _ _ _ _ => none
 | n + 1 => r5 N (l5 N k0 k1 n) k0 k1
def b {R : Type} (N : Nat) (kr : F_iib R) (a : ByteArray) (d : Int) : Option R := bif !U70.v d 0 (a.size : Int) then kr 0 0 false else l5 N (fun _ _ e f h _ _ => kr e f h) (fun _ _ _ _ _ _ _ => kr 0 0 false) N a d 0 0 false 0 0
def v (text0 : ByteArray) (at1 : Int) : Int × Int × Bool := if 0 <= at1 /\ at1 <= text0.size then Lib.rv text0 at1.toNat 5 0 0 else (0, 0, false)
theorem b_eq {R : Type} (kr : F_iib R) (text0 : ByteArray) (at1 : Int) (f0 : okS text0) : ∃ N, b N kr text0 at1 = kr (v text0 at1).1 (v text0 at1).2.1 (v text0 at1).2.2 := by
 refine ⟨6, ?_⟩
 unfold b v
 by_cases hn : 0 <= at1 /\ at1 <= text0.size
 ·have e : U70.v at1 0 (text0.size : Int) = true := by simp [U70.v, hn]
  obtain ⟨a, rfl⟩ : ∃ a : Nat, at1 = (a : Int) := ⟨at1.toNat, by omega⟩
  have ha : a <= text0.size := by omega
  rw [e, if_pos hn, Lib.toN]
  have hs : text0.size <= 4611686018427387904 := f0
  simp only [Bool.not_true, cond_false]
  have := Lib.loop_gen (fun m (s : Nat × Int) => l5 6 (fun y7 y8 y9 y10 y11 y12 y13 => kr y9 y10 y11) (fun y14 y15 y16 y17 y18 y19 y20 => kr 0 0 false) m text0 a 0 0 false s.2 s.1) (fun s => 5 - s.1) (fun s => s.1 <= 5 /\ 0 <= s.2 /\ s.2 < 128 ^ s.1)
   (fun s => kr (Lib.rv text0 a (5 - s.1) s.1 s.2).1 (Lib.rv text0 a (5 - s.1) s.1 s.2).2.1 (Lib.rv text0 a (5 - s.1) s.1 s.2).2.2) (fun m s hs5 => by
   obtain ⟨j, n⟩ := s
   obtain ⟨hj, h0, hlt⟩ := hs5
   dsimp only at hj h0 hlt ⊢
   have hb := Lib.btN_lt text0 (a + j)
   by_cases hj5 : j < 5
   ·by_cases hin : a + j < text0.size
    ·have ew : w64 ((a : Int) + (j : Int)) = ((a + j : Nat) : Int) := by rw [w64_eq (by omega) (by omega)]; omega
     have ew2 : w64 ((a + j : Nat) : Int) = ((a + j : Nat) : Int) := w64_eq (by omega) (by omega)
     have eb : w64 (btN text0 (a + j) : Int) = (btN text0 (a + j) : Int) := w64_eq (by omega) (by omega)
     have em : Int.tmod (btN text0 (a + j) : Int) 128 = (btN text0 (a + j) : Int) % 128 := Int.tmod_eq_emod_of_nonneg (by omega)
     have e7 : w64 (7 * (j : Int)) = ((7 * j : Nat) : Int) := by rw [w64_eq (by omega) (by omega)]; omega
     have ep : Int.pow 2 (if 7 * j <= 64 then 7 * j else 64) = 128 ^ j := by
      rw [if_pos (by omega)]
      show (2 : Int) ^ (7 * j) = 128 ^ j
      rw [Int.pow_mul]; rfl
     have hp : (128 : Int) ^ j <= 268435456 /\ (1 : Int) <= 128 ^ j /\ (128 : Int) ^ (j + 1) = 128 * 128 ^ j := by
      obtain rfl | rfl | rfl | rfl | rfl : j = 0 \/ j = 1 \/ j = 2 \/ j = 3 \/ j = 4 := by omega
      all_goals decide
     have hm0 : 0 <= (btN text0 (a + j) : Int) % 128 /\ (btN text0 (a + j) : Int) % 128 <= 127 := by omega
     have hq : 0 <= (btN text0 (a + j) : Int) % 128 * 128 ^ j /\ (btN text0 (a + j) : Int) % 128 * 128 ^ j <= 127 * 128 ^ j :=
      ⟨Int.mul_nonneg hm0.1 (by omega), Int.mul_le_mul_of_nonneg_right hm0.2 (by omega)⟩
     have eq1 : w64 ((btN text0 (a + j) : Int) % 128 * 128 ^ j) = (btN text0 (a + j) : Int) % 128 * 128 ^ j := w64_eq (by omega) (by omega)
     have eq2 : w64 (n + (btN text0 (a + j) : Int) % 128 * 128 ^ j) = n + (btN text0 (a + j) : Int) % 128 * 128 ^ j := w64_eq (by omega) (by omega)
     have ej : w64 ((j : Int) + 1) = ((j + 1 : Nat) : Int) := Lib.w64_s hj5 (by omega)
     have ef : 5 - j = (5 - (j + 1)) + 1 := by omega
     have c1 : decide ((j : Int) < 5) = true := by simp; omega
     have c2 : decide (((a + j : Nat) : Int) < (text0.size : Int)) = true := Lib.dlt_t hin
     have hrv : Lib.rv text0 a (5 - j) j n = (if (btN text0 (a + j) : Int) > 127 then Lib.rv text0 a (5 - (j + 1)) (j + 1) (n + (btN text0 (a + j) : Int) % 128 * 128 ^ j)
       else if (j > 0 /\ btN text0 (a + j) = 0) \/ n + (btN text0 (a + j) : Int) % 128 * 128 ^ j > 1000000000 then (0, 0, false)
       else (n + (btN text0 (a + j) : Int) % 128 * 128 ^ j, ((a + j + 1 : Nat) : Int), true)) := by
      rw [ef]; simp only [Lib.rv]; rw [if_pos hin]
     have en : w64 (((a + j : Nat) : Int) + 1) = ((a + j + 1 : Nat) : Int) := Lib.w64_s hin (by omega)
     simp only [l5, r5, c1, ew, c2, Lib.dle0, Lib.toN, eb, em, e7, ep, eq1, eq2, ej, en, cond_true, Bool.and_self]
     by_cases hc : (btN text0 (a + j) : Int) > 127
     ·right
      rw [decide_eq_true hc]
      exact ⟨(j + 1, n + (btN text0 (a + j) : Int) % 128 * 128 ^ j), ⟨by dsimp only; omega, by dsimp only; omega, by dsimp only; omega⟩, by dsimp only; omega, by dsimp only; rw [hrv, if_pos hc], rfl⟩
     ·left
      rw [decide_eq_false hc, cond_false, hrv, if_neg hc]
      by_cases hj0 : (j : Int) > 0
      ·rw [decide_eq_true hj0, cond_true]
       by_cases hz : (btN text0 (a + j) : Int) = 0
       ·rw [decide_eq_true hz, if_pos (.inl ⟨by omega, by omega⟩)]; rfl
       ·rw [decide_eq_false hz, cond_false]
        by_cases hbig : n + (btN text0 (a + j) : Int) % 128 * 128 ^ j > 1000000000
        ·rw [decide_eq_true hbig, if_pos (.inr hbig)]; rfl
        ·rw [decide_eq_false hbig, if_neg (by omega)]; rfl
      ·rw [decide_eq_false hj0, cond_false]
       by_cases hbig : n + (btN text0 (a + j) : Int) % 128 * 128 ^ j > 1000000000
       ·rw [decide_eq_true hbig, if_pos (.inr hbig)]; rfl
       ·rw [decide_eq_false hbig, if_neg (by omega)]; rfl
    ·left
     have ew : w64 ((a : Int) + (j : Int)) = ((a + j : Nat) : Int) := by rw [w64_eq (by omega) (by omega)]; omega
     have ef : 5 - j = (5 - (j + 1)) + 1 := by omega
     have hrv : Lib.rv text0 a (5 - j) j n = (0, 0, false) := by rw [ef]; simp only [Lib.rv]; rw [if_neg hin]
     simp only [l5, r5, show decide ((j : Int) < 5) = true by simp; omega, ew, Lib.dlt_f hin, cond_true, cond_false, hrv]
   ·left
    have hj' : j = 5 := by omega
    subst hj'
    simp only [l5, r5, show decide (((5 : Nat) : Int) < 5) = false from rfl, cond_false]
    rfl) 6 (0, 0) ⟨by dsimp only; omega, by dsimp only; omega, by dsimp only; decide⟩ (by dsimp only; omega)
  exact this
 ·have e : U70.v at1 0 (text0.size : Int) = false := by
   simp [U70.v]; omega
  rw [e, if_neg hn]; rfl
end Go.FG.U156

namespace Go.FG.U67
def r3 {R : Type} (N : Nat) (g k0 : F_sir R) (a : ByteArray) (d : Int) (e : Row) : Option R := bif decide ((a.size : Int) <= 20000) then bif !(U156.v a d).2.2 then k0 a d e else bif !U70.v (U156.v a d).1 1 9000 then k0 a d e else bif decide (w64 ((U156.v a d).1 + 4) > w64 ((a.size : Int) - (U156.v a d).2.1)) then k0 a d e else bif inB (w64 ((U156.v a d).2.1 + 4)) (w64 (w64 ((U156.v a d).2.1 + 4) + (U156.v a d).1)) (a.size : Int) then bif U157.c (ByteArray.extract a (w64 ((U156.v a d).2.1 + 4)).toNat (w64 (w64 ((U156.v a d).2.1 + 4) + (U156.v a d).1)).toNat) then bif inB (U156.v a d).2.1 (w64 ((U156.v a d).2.1 + 4)) (a.size : Int) then bif !List.beq (U157.v (ByteArray.extract a (w64 ((U156.v a d).2.1 + 4)).toNat (w64 (w64 ((U156.v a d).2.1 + 4) + (U156.v a d).1)).toNat)).toList (ByteArray.extract a (U156.v a d).2.1.toNat (w64 ((U156.v a d).2.1 + 4)).toNat).toList then k0 a d e else bif roomy (e.length + (List.set (zeros [.s] 1) 0 [.s (ByteArray.extract a (w64 ((U156.v a d).2.1 + 4)).toNat (w64 (w64 ((U156.v a d).2.1 + 4) + (U156.v a d).1)).toNat)]).length) 16 then g a (w64 (w64 ((U156.v a d).2.1 + 4) + (U156.v a d).1)) (e ++ List.set (zeros [.s] 1) 0 [.s (ByteArray.extract a (w64 ((U156.v a d).2.1 + 4)).toNat (w64 (w64 ((U156.v a d).2.1 + 4) + (U156.v a d).1)).toNat)]) else none else none else none else none else k0 a d e
def l3 {R : Type} (N : Nat) (k0 : F_sir R) : Nat -> F_sir R
 | 0 => fun _ _ _ => none
 | n + 1 => r3 N (l3 N k0 n) k0
def b {R : Type} (N : Nat) (kr : F_ri R) (a : ByteArray) : Option R := l3 N (fun _ d e => kr e d) N a 0 (zeros [.s] 0)
def vo := b Lib.big fun r0 r1 => some (r0, r1)
def c := fun a => (vo a).isSome
def v := fun a => (vo a).getD ([], 0)
theorem out {x} : ∀ a, vo a = some x -> c a = true /\ v a = x := fun _ => Lib.out_
end Go.FG.U67

namespace Go.FG.U158
def b {R : Type} (kr : F_sib R) (a : ByteArray) (d : Int) : Option R := bif !(U156.v a d).2.2 then kr ⟨#[]⟩ 0 false else bif decide ((U156.v a d).1 > 20000) then kr ⟨#[]⟩ 0 false else bif decide ((U156.v a d).1 > w64 ((a.size : Int) - (U156.v a d).2.1)) then kr ⟨#[]⟩ 0 false else bif inB (U156.v a d).2.1 (w64 ((U156.v a d).2.1 + (U156.v a d).1)) (a.size : Int) then kr (ByteArray.extract a (U156.v a d).2.1.toNat (w64 ((U156.v a d).2.1 + (U156.v a d).1)).toNat) (w64 ((U156.v a d).2.1 + (U156.v a d).1)) true else none
def v (text0 : ByteArray) (at1 : Int) : ByteArray × Int × Bool := Lib.readShort text0 at1
theorem b_eq {R : Type} (kr : F_sib R) (text0 : ByteArray) (at1 : Int) (f0 : okS text0) : b kr text0 at1 = kr (v text0 at1).1 (v text0 at1).2.1 (v text0 at1).2.2 := Lib.readShort_run f0 at1 kr
end Go.FG.U158

namespace Go.FG.U68
def b {R : Type} (kr : F_siisb R) (a : ByteArray) : Option R := bif !(U158.v a 0).2.2 then kr ⟨#[]⟩ 0 0 ⟨#[]⟩ false else bif !(U156.v a (U158.v a 0).2.1).2.2 then kr ⟨#[]⟩ 0 0 ⟨#[]⟩ false else bif !(U156.v a (U156.v a (U158.v a 0).2.1).2.1).2.2 then kr ⟨#[]⟩ 0 0 ⟨#[]⟩ false else bif inB (U156.v a (U156.v a (U158.v a 0).2.1).2.1).2.1 (a.size : Int) (a.size : Int) then bif !U159.v (U158.v a 0).1 (U156.v a (U158.v a 0).2.1).1 (U156.v a (U156.v a (U158.v a 0).2.1).2.1).1 (ByteArray.extract a (U156.v a (U156.v a (U158.v a 0).2.1).2.1).2.1.toNat (a.size : Int).toNat) then kr ⟨#[]⟩ 0 0 ⟨#[]⟩ false else kr (U158.v a 0).1 (U156.v a (U158.v a 0).2.1).1 (U156.v a (U156.v a (U158.v a 0).2.1).2.1).1 (ByteArray.extract a (U156.v a (U156.v a (U158.v a 0).2.1).2.1).2.1.toNat (a.size : Int).toNat) true else none
def v (t0 : ByteArray) : ByteArray × Int × Int × ByteArray × Bool := U56.v t0
theorem b_eq {R : Type} (kr : F_siisb R) (t0 : ByteArray) (f0 : okS t0) : b kr t0 = kr (v t0).1 (v t0).2.1 (v t0).2.2.1 (v t0).2.2.2.1 (v t0).2.2.2.2 := by
 have e1 : U158.v = Lib.readShort := rfl
 have e2 : U156.v = Lib.readVar := rfl
 have e3 : ∀ a b c d, U159.v a b c d = U149.v a b c d := fun _ _ _ _ => rfl
 unfold b v U56.v
 simp only [e1, e2, e3, Lib.toN]
 cases h1 : Lib.readShort t0 0 with
 | mk k r1 =>
  obtain ⟨a, ok1⟩ := r1
  cases ok1 with
  | false => rfl
  | true =>
   dsimp only
   cases h2 : Lib.readVar t0 a with
   | mk s r2 =>
    obtain ⟨x, ok2⟩ := r2
    cases ok2 with
    | false => rfl
    | true =>
     dsimp only
     cases h3 : Lib.readVar t0 x with
     | mk l r3 =>
      obtain ⟨y, ok3⟩ := r3
      cases ok3 with
      | false => rfl
      | true =>
       obtain ⟨r1, r2, r3, r4, r5, r6⟩ := Lib.readVar_ok h3
       dsimp only
       simp only [Bool.not_true, cond_false]
       rw [Lib.bif_t (show inB y (t0.size : Int) (t0.size : Int) = true by simp [inB]; omega)]
       cases hE : U149.v k s l (t0.extract y.toNat t0.size) with
       | false => rfl
       | true => rfl
end Go.FG.U68

namespace Go.FG.U168
def b {R : Type} (kr : Row -> Option R) (a : Row) : Option R := bif roomy ((zeros [Ck.s, Ck.i IntKind.i64, Ck.i IntKind.i64, Ck.s] 0).length + a.length) 48 then kr (zeros [Ck.s, Ck.i IntKind.i64, Ck.i IntKind.i64, Ck.s] 0 ++ a) else none
def vo := b fun r0 => some r0
def c := fun a => (vo a).isSome
def v := fun a => (vo a).getD ([])
theorem out {x} : ∀ a, vo a = some x -> c a = true /\ v a = x := fun _ => Lib.out_
end Go.FG.U168

namespace Go.FG.U81
def b {R : Type} (kr : Bool -> Option R) (a : ByteArray) (d e : Int) (f key1 : ByteArray) : Option R := kr (List.beq (ByteArray.toList a) (ByteArray.toList key1))
def v (a0 : ByteArray) (a1 a2 : Int) (a3 key1 : ByteArray) : Bool := (List.beq (ByteArray.toList a0) (ByteArray.toList key1))
theorem b_eq {R : Type} (kr : Bool -> Option R) (a0 : ByteArray) (a1 a2 : Int) (a3 key1 : ByteArray) : b kr a0 a1 a2 a3 key1 = kr (v a0 a1 a2 a3 key1) := by
 first | rfl | (unfold b v; simp only [Bool.cond_eq_ite]; (repeat' split) <;> rfl)
end Go.FG.U81

namespace Go.FG.U80a
def r2 {R : Type} (N : Nat) (g k0 k1 : F_rsiii R) (a : Row) (d : ByteArray) (e f h : Int) : Option R := bif decide (h < f) then bif decide (0 <= h) && decide (h < (a.length : Int)) then bif U81.v (cvS (cellAt a h.toNat 0)) (cvI (cellAt a h.toNat 1)) (cvI (cellAt a h.toNat (1 + 1))) (cvS (cellAt a h.toNat (1 + 1 + 1))) d then k0 a d h f h else g a d e f (w64 (h + 1)) else none else k1 a d e f h
def l2 {R : Type} (N : Nat) (k0 k1 : F_rsiii R) : Nat -> F_rsiii R
 | 0 => fun _ _ _ _ _ => none
 | n + 1 => r2 N (l2 N k0 k1 n) k0 k1
def b {R : Type} (N : Nat) (kr : Int -> Option R) (a : Row) (key1 : ByteArray) : Option R := l2 N (fun _ _ d _ _ => kr d) (fun _ _ _ _ _ => kr (-1)) N a key1 0 (a.length : Int) 0
def vo := b Lib.big fun r0 => some r0
def c := fun a d => (vo a d).isSome
def v := fun a d => (vo a d).getD (0)
theorem out {x} : ∀ a d, vo a d = some x -> c a d = true /\ v a d = x := fun _ _ => Lib.out_
end Go.FG.U80a

namespace Go.FG.U176
def b {R : Type} (kr : Bool -> Option R) (a : ByteArray) (d e : Int) (f key1 : ByteArray) : Option R := kr (List.beq (ByteArray.toList a) (ByteArray.toList key1))
def v (a0 : ByteArray) (a1 a2 : Int) (a3 key1 : ByteArray) : Bool := (List.beq (ByteArray.toList a0) (ByteArray.toList key1))
theorem b_eq {R : Type} (kr : Bool -> Option R) (a0 : ByteArray) (a1 a2 : Int) (a3 key1 : ByteArray) : b kr a0 a1 a2 a3 key1 = kr (v a0 a1 a2 a3 key1) := by
 first | rfl | (unfold b v; simp only [Bool.cond_eq_ite]; (repeat' split) <;> rfl)
end Go.FG.U176

namespace Go.FG.U80b
def r2 {R : Type} (N : Nat) (g k0 k1 : F_rsiii R) (a : Row) (d : ByteArray) (e f h : Int) : Option R := bif decide (h < f) then bif decide (0 <= h) && decide (h < (a.length : Int)) then bif U176.v (cvS (cellAt a h.toNat 0)) (cvI (cellAt a h.toNat 1)) (cvI (cellAt a h.toNat (1 + 1))) (cvS (cellAt a h.toNat (1 + 1 + 1))) d then k0 a d h f h else g a d e f (w64 (h + 1)) else none else k1 a d e f h
def l2 {R : Type} (N : Nat) (k0 k1 : F_rsiii R) : Nat -> F_rsiii R
 | 0 => fun _ _ _ _ _ => none
 | n + 1 => r2 N (l2 N k0 k1 n) k0 k1
def b {R : Type} (N : Nat) (kr : Int -> Option R) (a : Row) (key1 : ByteArray) : Option R := l2 N (fun _ _ d _ _ => kr d) (fun _ _ _ _ _ => kr (-1)) N a key1 0 (a.length : Int) 0
def vo := b Lib.big fun r0 => some r0
def c := fun a d => (vo a d).isSome
def v := fun a d => (vo a d).getD (0)
theorem out {x} : ∀ a d, vo a d = some x -> c a d = true /\ v a d = x := fun _ _ => Lib.out_
end Go.FG.U80b

namespace Go.FG.U175
def r5 {R : Type} (N : Nat) (g k0 : F_siir R) (a : ByteArray) (d e : Int) (f : Row) : Option R := bif decide (e < (f.length : Int)) then bif decide (0 <= e) && decide (e < (f.length : Int)) then bif !U176.v (cvS (cellAt f e.toNat 0)) (cvI (cellAt f e.toNat 1)) (cvI (cellAt f e.toNat (1 + 1))) (cvS (cellAt f e.toNat (1 + 1 + 1))) a then bif decide (0 <= d) && decide (d < (f.length : Int)) then g a (w64 (d + 1)) (w64 (e + 1)) (setC f d.toNat 0 [.s (cvS (cellAt f e.toNat 0)), .i .i64 (cvI (cellAt f e.toNat 1)), .i .i64 (cvI (cellAt f e.toNat (1 + 1))), .s (cvS (cellAt f e.toNat (1 + 1 + 1)))]) else none else g a d (w64 (e + 1)) f else none else k0 a d e f
def l5 {R : Type} (N : Nat) (k0 : F_siir R) : Nat -> F_siir R
 | 0 => fun _ _ _ _ => none
 | n + 1 => r5 N (l5 N k0 n) k0
def b {R : Type} (N : Nat) (kr : Row -> Option R) (a : Row) (key1 : ByteArray) : Option R := bif U80b.c a key1 then bif decide (U80b.v a key1 = Int.neg 1) then kr a else l5 N (fun _ d _ e => bif inB d (e.length : Int) (e.length : Int) then bif inB 0 d ((List.take d.toNat e ++ zeros [Ck.s, Ck.i IntKind.i64, Ck.i IntKind.i64, Ck.s] ((e.length : Int).toNat - d.toNat) ++ List.drop (e.length : Int).toNat e).length : Int) then kr (view (List.take d.toNat e ++ zeros [Ck.s, Ck.i IntKind.i64, Ck.i IntKind.i64, Ck.s] ((e.length : Int).toNat - d.toNat) ++ List.drop (e.length : Int).toNat e) (Int.toNat 0) d.toNat) else none else none) N key1 (U80b.v a key1) (w64 (U80b.v a key1 + 1)) a else none
def vo := b Lib.big fun r0 => some r0
def c := fun a d => (vo a d).isSome
def v := fun a d => (vo a d).getD ([])
theorem out {x} : ∀ a d, vo a d = some x -> c a d = true /\ v a d = x := fun _ _ => Lib.out_
end Go.FG.U175

namespace Go.FG.U85
def b {R : Type} (kr : Row -> Option R) (a : Row) (d : ByteArray) : Option R := bif U168.c a then bif U175.c (U168.v a) d then kr (U175.v (U168.v a) d) else none else none
def vo := b fun r0 => some r0
def c := fun a d => (vo a d).isSome
def v := fun a d => (vo a d).getD ([])
theorem out {x} : ∀ a d, vo a d = some x -> c a d = true /\ v a d = x := fun _ _ => Lib.out_
end Go.FG.U85


namespace Go.FG.U69
def r3 {R : Type} (N : Nat) (g k0 : F_isiisr R) (a : Int) (d : ByteArray) (e f : Int) (h : ByteArray) (i : Row) : Option R := bif decide (a < (i.length : Int)) then bif decide (0 <= a) && decide (a < (i.length : Int)) then bif Op.bytesLess (cvS (cellAt i a.toNat 0)).toList (ByteArray.toList d) then g (w64 (a + 1)) d e f h i else k0 a d e f h i else none else k0 a d e f h i
def l3 {R : Type} (N : Nat) (k0 : F_isiisr R) : Nat -> F_isiisr R
 | 0 => fun _ _ _ _ _ _ => none
 | n + 1 => r3 N (l3 N k0 n) k0
def b {R : Type} (N : Nat) (kr : Row -> Option R) (a : Row) (d : ByteArray) (e f : Int) (h : ByteArray) : Option R := bif U85.c a d then l3 N (fun i j l m o p => bif decide (0 <= i) && decide (i <= (p.length : Int)) && roomy (p.length + (List.set (zeros [Ck.s, Ck.i IntKind.i64, Ck.i IntKind.i64, Ck.s] 1) 0 [.s j, .i .i64 l, .i .i64 m, .s o]).length) 48 then kr (Pu.insR p i.toNat (List.set (zeros [Ck.s, Ck.i IntKind.i64, Ck.i IntKind.i64, Ck.s] 1) 0 [.s j, .i .i64 l, .i .i64 m, .s o])) else none) N 0 d e f h (U85.v a d) else none
def vo := b Lib.big fun r0 => some r0
def c := fun a d e f h => (vo a d e f h).isSome
def v := fun a d e f h => (vo a d e f h).getD ([])
theorem out {x} : ∀ a d e f h, vo a d e f h = some x -> c a d e f h = true /\ v a d e f h = x := fun _ _ _ _ _ => Lib.out_
end Go.FG.U69

namespace Go.FG.U20
def r7 {R : Type} (N : Nat) (g k0 : F_iirr R) (a d : Int) (e f : Row) : Option R := bif decide (d < a) then bif decide (0 <= d) && decide (d < (f.length : Int)) then bif (U68.v (cvS (cellAt f d.toNat 0))).2.2.2.2 then bif U69.c e (U68.v (cvS (cellAt f d.toNat 0))).1 (U68.v (cvS (cellAt f d.toNat 0))).2.1 (U68.v (cvS (cellAt f d.toNat 0))).2.2.1 (U68.v (cvS (cellAt f d.toNat 0))).2.2.2.1 then g a (w64 (d + 1)) (U69.v e (U68.v (cvS (cellAt f d.toNat 0))).1 (U68.v (cvS (cellAt f d.toNat 0))).2.1 (U68.v (cvS (cellAt f d.toNat 0))).2.2.1 (U68.v (cvS (cellAt f d.toNat 0))).2.2.2.1) f else none else g a (w64 (d + 1)) e f else none else k0 a d e f
def l7 {R : Type} (N : Nat) (k0 : F_iirr R) : Nat -> F_iirr R
 | 0 => fun _ _ _ _ => none
 | n + 1 => r7 N (l7 N k0 n) k0
def b {R : Type} (N : Nat) (kr : Row -> Option R) (a : Row) : Option R := bif U60.c a then bif !U60.v a then kr (zeros [Ck.s, Ck.i IntKind.i64, Ck.i IntKind.i64, Ck.s] 0) else bif U62.c a { data := #[UInt8.ofNat 107, UInt8.ofNat 101, UInt8.ofNat 112, UInt8.ofNat 116] } then bif U67.c (U62.v a { data := #[UInt8.ofNat 107, UInt8.ofNat 101, UInt8.ofNat 112, UInt8.ofNat 116] }).1 then l7 N (fun _ _ d _ => kr d) N ((U67.v (U62.v a { data := #[UInt8.ofNat 107, UInt8.ofNat 101, UInt8.ofNat 112, UInt8.ofNat 116] }).1).1.length : Int) 0 (zeros [Ck.s, Ck.i IntKind.i64, Ck.i IntKind.i64, Ck.s] 0) (U67.v (U62.v a { data := #[UInt8.ofNat 107, UInt8.ofNat 101, UInt8.ofNat 112, UInt8.ofNat 116] }).1).1 else none else none else none
def vo := b Lib.big fun r0 => some r0
def c := fun a => (vo a).isSome
def v := fun a => (vo a).getD ([])
theorem out {x} : ∀ a, vo a = some x -> c a = true /\ v a = x := fun _ => Lib.out_
end Go.FG.U20

namespace Go.FG.U19
def r4 {R : Type} (N : Nat) (g k0 k1 : F_rrbi R) (a d : Row) (e : Bool) (f : Int) : Option R := bif decide (f < (a.length : Int)) then bif decide (0 <= f) && decide (f < (a.length : Int)) then bif decide (0 <= f) && decide (f < (d.length : Int)) then bif !(List.beq (cvS (cellAt a f.toNat 0)).toList (cvS (cellAt d f.toNat 0)).toList && (decide (cvI (cellAt a f.toNat 1) = cvI (cellAt d f.toNat 1)) && (decide (cvI (cellAt a f.toNat (1 + 1)) = cvI (cellAt d f.toNat (1 + 1))) && (List.beq (cvS (cellAt a f.toNat (1 + 1 + 1))).toList (cvS (cellAt d f.toNat (1 + 1 + 1))).toList && true)))) then k0 a d false f else g a d e (w64 (f + 1)) else none else none else k1 a d e f
def l4 {R : Type} (N : Nat) (k0 k1 : F_rrbi R) : Nat -> F_rrbi R
 | 0 => fun _ _ _ _ => none
 | n + 1 => r4 N (l4 N k0 k1 n) k0 k1
def b {R : Type} (N : Nat) (kr : Bool -> Option R) (a d : Row) : Option R := bif (a.length : Int) != (d.length : Int) then kr false else l4 N (fun _ _ e _ => kr e) (fun _ _ _ _ => kr true) N a d false 0
def vo := b Lib.big fun r0 => some r0
def c := fun a d => (vo a d).isSome
def v := fun a d => (vo a d).getD false
theorem out {x} : ∀ a d, vo a d = some x -> c a d = true /\ v a d = x := fun _ _ => Lib.out_
end Go.FG.U19

namespace Go.FG.U22
def r3 {R : Type} (N : Nat) (g k0 : F_rir R) (a : Row) (d : Int) (e : Row) : Option R := bif decide (d < 6) then bif decide (0 <= d) && decide (d < (a.length : Int)) then bif roomy (e.length + (List.set (zeros [Ck.i IntKind.i64] 1) 0 [.i .i64 (Int.tmod (cvI (cellAt a d.toNat 0)) 300)]).length) 8 then g a (w64 (d + 1)) (e ++ List.set (zeros [Ck.i IntKind.i64] 1) 0 [.i .i64 (Int.tmod (cvI (cellAt a d.toNat 0)) 300)]) else none else none else k0 a d e
def l3 {R : Type} (N : Nat) (k0 : F_rir R) : Nat -> F_rir R
 | 0 => fun _ _ _ => none
 | n + 1 => r3 N (l3 N k0 n) k0
def b {R : Type} (N : Nat) (kr : Row -> Option R) (a : Row) : Option R := l3 N (fun _ _ d => kr d) N a 0 (zeros [Ck.i IntKind.i64] 0)
def vo := b Lib.big fun r0 => some r0
def c := fun a => (vo a).isSome
def v := fun a => (vo a).getD ([])
theorem out {x} : ∀ a, vo a = some x -> c a = true /\ v a = x := fun _ => Lib.out_
end Go.FG.U22

namespace Go.FG.U71
def r5 {R : Type} (N : Nat) (g k0 : F_rriir R) (a d : Row) (e f : Int) (h : Row) : Option R := bif decide (f < e) then bif decide (0 <= f) && decide (f < (d.length : Int)) then bif decide (f < (a.length : Int)) then bif decide (0 <= f) && decide (f < (a.length : Int)) then bif inB 0 (minmax true (cvI (cellAt d f.toNat (1 + 1))) (minmax false (cvI (cellAt a f.toNat 0)) ((cvS (cellAt d f.toNat 1)).size : Int))) ((cvS (cellAt d f.toNat 1)).size : Int) then bif decide (0 <= f) && decide (f < (h.length : Int)) then g a d e (w64 (f + 1)) (setC h f.toNat 0 [.s (cvS (cellAt d f.toNat 0)), .s (ByteArray.extract (cvS (cellAt d f.toNat 1)) (Int.toNat 0) (minmax true (cvI (cellAt d f.toNat (1 + 1))) (minmax false (cvI (cellAt a f.toNat 0)) ((cvS (cellAt d f.toNat 1)).size : Int))).toNat), .i .i64 (minmax true (cvI (cellAt d f.toNat (1 + 1))) (minmax false (cvI (cellAt a f.toNat 0)) ((cvS (cellAt d f.toNat 1)).size : Int)))]) else none else none else none else bif inB 0 (cvI (cellAt d f.toNat (1 + 1))) ((cvS (cellAt d f.toNat 1)).size : Int) then bif decide (0 <= f) && decide (f < (h.length : Int)) then g a d e (w64 (f + 1)) (setC h f.toNat 0 [.s (cvS (cellAt d f.toNat 0)), .s (ByteArray.extract (cvS (cellAt d f.toNat 1)) (Int.toNat 0) (cvI (cellAt d f.toNat (1 + 1))).toNat), .i .i64 (cvI (cellAt d f.toNat (1 + 1)))]) else none else none else none else k0 a d e f h
def l5 {R : Type} (N : Nat) (k0 : F_rriir R) : Nat -> F_rriir R
 | 0 => fun _ _ _ _ _ => none
 | n + 1 => r5 N (l5 N k0 n) k0
def b {R : Type} (N : Nat) (kr : F_rb R) (a d : Row) : Option R := bif U60.c a then bif !U60.v a then kr [] false else bif U65.c a then l5 N (fun _ _ _ _ e => kr e true) N d a (a.length : Int) 0 (U65.v a) else none else none
def vo := b Lib.big fun r0 r1 => some (r0, r1)
def c := fun a d => (vo a d).isSome
def v := fun a d => (vo a d).getD ([], false)
theorem out {x} : ∀ a d, vo a d = some x -> c a d = true /\ v a d = x := fun _ _ => Lib.out_
end Go.FG.U71

namespace Go.FG.U21
def b {R : Type} (kr : F_rb R) (a d : Row) (e : Int) (f : Row) : Option R := bif !U70.v e 0 (d.length : Int) then kr [] false else bif inB 0 e (d.length : Int) then bif U17.c a (view d (Int.toNat 0) e.toNat) then bif decide ((U17.v a (view d (Int.toNat 0) e.toNat)).2 < e) then kr [] false else bif U71.c (U17.v a (view d (Int.toNat 0) e.toNat)).1 f then kr (U71.v (U17.v a (view d (Int.toNat 0) e.toNat)).1 f).1 (U71.v (U17.v a (view d (Int.toNat 0) e.toNat)).1 f).2 else none else none else none
def vo := b fun r0 r1 => some (r0, r1)
def c := fun a d e f => (vo a d e f).isSome
def v := fun a d e f => (vo a d e f).getD ([], false)
theorem out {x} : ∀ a d e f, vo a d e f = some x -> c a d e f = true /\ v a d e f = x := fun _ _ _ _ => Lib.out_
end Go.FG.U21

namespace Go.FG.U165
def r3 {R : Type} (N : Nat) (g k0 : F_iiir R) (a d e : Int) (f : Row) : Option R := bif decide (e < a) then bif decide (0 <= e) && decide (e < (f.length : Int)) then g a d (w64 (e + 1)) (setC f e.toNat 0 [CV.i IntKind.u8 d]) else none else k0 a d e f
def l3 {R : Type} (N : Nat) (k0 : F_iiir R) : Nat -> F_iiir R
 | 0 => fun _ _ _ _ => none
 | n + 1 => r3 N (l3 N k0 n) k0
def b {R : Type} (N : Nat) (kr : ByteArray -> Option R) (a d : Int) : Option R := bif decide (0 <= a) && decide (a = a) && roomy a.toNat 1 then l3 N (fun _ _ _ e => bif decide (e.length <= 4611686018427387904) then kr (bytesOf e) else none) N a d 0 (zeros [Ck.i IntKind.u8] a.toNat) else none
def vo := b Lib.big fun r0 => some r0
def c := fun a d => (vo a d).isSome
def v := fun a d => (vo a d).getD (⟨#[]⟩)
theorem out {x} : ∀ a d, vo a d = some x -> c a d = true /\ v a d = x := fun _ _ => Lib.out_
end Go.FG.U165

namespace Go.FG.U73
def b {R : Type} (kr : F_siisrii R) (a : Row) (d e : Int) : Option R := bif U72.c a d e then Lib.lt (U72.v a d e) fun f => bif U59.c f.2.2.2.2.1 f.2.2.2.2.2.1 f.2.2.2.2.2.2 12 then Lib.lt (U59.v f.2.2.2.2.1 f.2.2.2.2.2.1 f.2.2.2.2.2.2 12) fun h => bif decide (h.1 = 0) then bif U164.c h.2.1 h.2.2.1 h.2.2.2 (List.set (List.set (zeros [.s] 2) 0 [.s ⟨#[]⟩]) 1 [.s { data := #[UInt8.ofNat 48, UInt8.ofNat 49, UInt8.ofNat 50, UInt8.ofNat 51, UInt8.ofNat 52, UInt8.ofNat 53, UInt8.ofNat 54, UInt8.ofNat 55, UInt8.ofNat 56, UInt8.ofNat 57, UInt8.ofNat 48, UInt8.ofNat 49, UInt8.ofNat 50, UInt8.ofNat 51, UInt8.ofNat 52, UInt8.ofNat 53, UInt8.ofNat 54, UInt8.ofNat 55, UInt8.ofNat 56, UInt8.ofNat 57, UInt8.ofNat 48, UInt8.ofNat 49, UInt8.ofNat 50, UInt8.ofNat 51, UInt8.ofNat 52, UInt8.ofNat 53, UInt8.ofNat 54, UInt8.ofNat 55, UInt8.ofNat 56, UInt8.ofNat 57, UInt8.ofNat 48] }]) then Lib.lt (U164.v h.2.1 h.2.2.1 h.2.2.2 (List.set (List.set (zeros [.s] 2) 0 [.s ⟨#[]⟩]) 1 [.s { data := #[UInt8.ofNat 48, UInt8.ofNat 49, UInt8.ofNat 50, UInt8.ofNat 51, UInt8.ofNat 52, UInt8.ofNat 53, UInt8.ofNat 54, UInt8.ofNat 55, UInt8.ofNat 56, UInt8.ofNat 57, UInt8.ofNat 48, UInt8.ofNat 49, UInt8.ofNat 50, UInt8.ofNat 51, UInt8.ofNat 52, UInt8.ofNat 53, UInt8.ofNat 54, UInt8.ofNat 55, UInt8.ofNat 56, UInt8.ofNat 57, UInt8.ofNat 48, UInt8.ofNat 49, UInt8.ofNat 50, UInt8.ofNat 51, UInt8.ofNat 52, UInt8.ofNat 53, UInt8.ofNat 54, UInt8.ofNat 55, UInt8.ofNat 56, UInt8.ofNat 57, UInt8.ofNat 48] }])) fun i => kr i.1 f.2.1 f.2.2.1 f.2.2.2.1 i.2.1 i.2.2.1 i.2.2.2.1 else none else bif decide (h.1 = 1) then bif U162.c h.2.1 h.2.2.1 h.2.2.2 (List.set (List.set (List.set (List.set (zeros [Ck.i IntKind.i64] 4) 0 [.i .i64 (Int.neg 1)]) 1 [.i .i64 0]) 2 [.i .i64 1000000000]) 3 [.i .i64 1000000001]) then Lib.lt (U162.v h.2.1 h.2.2.1 h.2.2.2 (List.set (List.set (List.set (List.set (zeros [Ck.i IntKind.i64] 4) 0 [.i .i64 (Int.neg 1)]) 1 [.i .i64 0]) 2 [.i .i64 1000000000]) 3 [.i .i64 1000000001])) fun j => kr f.1 j.1 f.2.2.1 f.2.2.2.1 j.2.1 j.2.2.1 j.2.2.2.1 else none else bif decide (h.1 = 2) then bif U162.c h.2.1 h.2.2.1 h.2.2.2 (List.set (List.set (List.set (zeros [Ck.i IntKind.i64] 3) 0 [.i .i64 0]) 1 [.i .i64 1000000]) 2 [.i .i64 (Int.neg 9223372036854775808)]) then Lib.lt (U162.v h.2.1 h.2.2.1 h.2.2.2 (List.set (List.set (List.set (zeros [Ck.i IntKind.i64] 3) 0 [.i .i64 0]) 1 [.i .i64 1000000]) 2 [.i .i64 (Int.neg 9223372036854775808)])) fun l => kr f.1 f.2.1 l.1 f.2.2.2.1 l.2.1 l.2.2.1 l.2.2.2.1 else none else bif decide (h.1 = 3) then bif U59.c h.2.1 h.2.2.1 h.2.2.2 2 then bif U165.c (w64 (400 + (U59.v h.2.1 h.2.2.1 h.2.2.2 2).1)) 97 then kr f.1 f.2.1 f.2.2.1 (U165.v (w64 (400 + (U59.v h.2.1 h.2.2.1 h.2.2.2 2).1)) 97) (U59.v h.2.1 h.2.2.1 h.2.2.2 2).2.1 (U59.v h.2.1 h.2.2.1 h.2.2.2 2).2.2.1 (U59.v h.2.1 h.2.2.1 h.2.2.2 2).2.2.2 else none else none else kr f.1 f.2.1 f.2.2.1 f.2.2.2.1 h.2.1 h.2.2.1 h.2.2.2 else none else none
def vo := b fun r0 r1 r2 r3 r4 r5 r6 => some (r0, r1, r2, r3, r4, r5, r6)
def c := fun a d e => (vo a d e).isSome
def v := fun a d e => (vo a d e).getD (⟨#[]⟩, 0, 0, ⟨#[]⟩, [], 0, 0)
theorem out {x} : ∀ a d e, vo a d e = some x -> c a d e = true /\ v a d e = x := fun _ _ _ => Lib.out_
end Go.FG.U73

namespace Go.FG.U23
def r5 {R : Type} (N : Nat) (g k0 : F_iiriir R) (a d : Int) (e : Row) (f h : Int) (i : Row) : Option R := bif U59.c e f h 4 then Lib.lt (U59.v e f h 4) fun j => bif decide (d < j.1) then bif U72.c j.2.1 j.2.2.1 j.2.2.2 then Lib.lt (U72.v j.2.1 j.2.2.1 j.2.2.2) fun l => bif roomy (i.length + (List.set (zeros [Ck.s, Ck.i IntKind.i64, Ck.i IntKind.i64, Ck.s] 1) 0 [.s l.1, .i .i64 l.2.1, .i .i64 l.2.2.1, .s l.2.2.2.1]).length) 48 then g a (w64 (d + 1)) l.2.2.2.2.1 l.2.2.2.2.2.1 l.2.2.2.2.2.2 (i ++ List.set (zeros [Ck.s, Ck.i IntKind.i64, Ck.i IntKind.i64, Ck.s] 1) 0 [.s l.1, .i .i64 l.2.1, .i .i64 l.2.2.1, .s l.2.2.2.1]) else none else none else k0 a d j.2.1 j.2.2.1 j.2.2.2 i else none
def l5 {R : Type} (N : Nat) (k0 : F_iiriir R) : Nat -> F_iiriir R
 | 0 => fun _ _ _ _ _ _ => none
 | n + 1 => r5 N (l5 N k0 n) k0
def b {R : Type} (N : Nat) (kr : F_rr R) (a : Row) : Option R := bif U52.c a then Lib.lt (U52.v a) fun d => bif U59.c d.1 d.2.1 d.2.2 8 then Lib.lt (U59.v d.1 d.2.1 d.2.2 8) fun e => l5 N (fun f _ h i j l => bif decide (f = 0) then bif U73.c h i j then Lib.lt (U73.v h i j) fun m => bif roomy (l.length + (List.set (zeros [Ck.s, Ck.i IntKind.i64, Ck.i IntKind.i64, Ck.s] 1) 0 [.s m.1, .i .i64 m.2.1, .i .i64 m.2.2.1, .s m.2.2.2.1]).length) 48 then bif U51.c m.2.2.2.2.1 m.2.2.2.2.2.1 m.2.2.2.2.2.2 then Lib.lt (U51.v m.2.2.2.2.1 m.2.2.2.2.2.1 m.2.2.2.2.2.2) fun o => bif decide (f = 1) then bif U74.c o.1 1 { data := #[UInt8.ofNat 110, UInt8.ofNat 101, UInt8.ofNat 119] } { data := #[UInt8.ofNat 120] } ⟨#[]⟩ then Lib.lt (U74.v o.1 1 { data := #[UInt8.ofNat 110, UInt8.ofNat 101, UInt8.ofNat 119] } { data := #[UInt8.ofNat 120] } ⟨#[]⟩) fun p => kr p.1 (l ++ List.set (zeros [Ck.s, Ck.i IntKind.i64, Ck.i IntKind.i64, Ck.s] 1) 0 [.s m.1, .i .i64 m.2.1, .i .i64 m.2.2.1, .s m.2.2.2.1]) else none else kr o.1 (l ++ List.set (zeros [Ck.s, Ck.i IntKind.i64, Ck.i IntKind.i64, Ck.s] 1) 0 [.s m.1, .i .i64 m.2.1, .i .i64 m.2.2.1, .s m.2.2.2.1]) else none else none else none else bif U51.c h i j then Lib.lt (U51.v h i j) fun q => bif decide (f = 1) then bif U74.c q.1 1 { data := #[UInt8.ofNat 110, UInt8.ofNat 101, UInt8.ofNat 119] } { data := #[UInt8.ofNat 120] } ⟨#[]⟩ then Lib.lt (U74.v q.1 1 { data := #[UInt8.ofNat 110, UInt8.ofNat 101, UInt8.ofNat 119] } { data := #[UInt8.ofNat 120] } ⟨#[]⟩) fun r => kr r.1 l else none else kr q.1 l else none) N e.1 0 e.2.1 e.2.2.1 e.2.2.2 (zeros [Ck.s, Ck.i IntKind.i64, Ck.i IntKind.i64, Ck.s] 0) else none else none
def vo := b Lib.big fun r0 r1 => some (r0, r1)
def c := fun a => (vo a).isSome
def v := fun a => (vo a).getD ([], [])
theorem out {x} : ∀ a, vo a = some x -> c a = true /\ v a = x := fun _ => Lib.out_
end Go.FG.U23

namespace Go.FG.U3
def r14 {R : Type} (N : Nat) (g : F_rbnnirrrr R) (g1 : F_rbirrrr R) (k0 k1 : F_rbnnirrrr R) (k2 k3 : F_rbirrrr R) (a : Row) (d : Bool) (e f : Nat) (h : Int) (i j l m : Row) : Option R := bif decide (h <= (l.length : Int)) then bif U22.c j then Lib.lt (U22.v j) fun o => bif U21.c m l h o then Lib.lt (U21.v m l h o) fun p => bif U20.c p.1 then Lib.lt (U20.v p.1) fun q => bif !p.2 then k0 a false e f h i j l m else bif U19.c q (view i e f) then Lib.lt (U19.v q (view i e f)) fun r => bif !r then bif U13.c m then Lib.lt (U13.v m) fun s => bif U19.c q s then Lib.lt (U19.v q s) fun t => bif !t then k0 a false e f h i j l m else g a d e f (w64 (h + 1)) i j l m else none else none else g a d e f (w64 (h + 1)) i j l m else none else none else none else none else k1 a d e f h i j l m
def r14a {R : Type} (N : Nat) (g : F_rbnnirrrr R) (g1 : F_rbirrrr R) (k0 k1 : F_rbnnirrrr R) (k2 k3 : F_rbirrrr R) (a : Row) (d : Bool) (e : Int) (f h i j : Row) : Option R := bif decide (e <= (i.length : Int)) then bif U22.c h then Lib.lt (U22.v h) fun l => bif U21.c j i e l then Lib.lt (U21.v j i e l) fun m => bif U20.c m.1 then Lib.lt (U20.v m.1) fun o => bif !m.2 then k2 a false e f h i j else bif U19.c o f then Lib.lt (U19.v o f) fun p => bif !p then bif U13.c j then Lib.lt (U13.v j) fun q => bif U19.c o q then Lib.lt (U19.v o q) fun r => bif !r then k2 a false e f h i j else g1 a d (w64 (e + 1)) f h i j else none else none else g1 a d (w64 (e + 1)) f h i j else none else none else none else none else k3 a d e f h i j
def l14a {R : Type} (N : Nat) (k0 k1 : F_rbnnirrrr R) (k2 k3 : F_rbirrrr R) : Nat -> F_rbirrrr R
 | 0 => fun _ _ _ _ _ _ _ => none
 | n + 1 => r14a N (fun x9 x10 x11 x12 x13 x14 x15 x16 x17 => none) (l14a N k0 k1 k2 k3 n) k0 k1 k2 k3
def l14 {R : Type} (N : Nat) (k0 k1 : F_rbnnirrrr R) (k2 k3 : F_rbirrrr R) : Nat -> F_rbnnirrrr R
 | 0 => fun _ _ _ _ _ _ _ _ _ => none
 | n + 1 => r14 N (l14 N k0 k1 k2 k3 n) (l14a N k0 k1 k2 k3 n) k0 k1 k2 k3
def b {R : Type} (N : Nat) (kr : Bool -> Option R) (a : Row) : Option R := bif U11.v a then kr true else bif U12.c a then Lib.lt (U12.v a) fun d => bif U13.c d then Lib.lt (U13.v d) fun e => bif U14.c a then Lib.lt (U14.v a) fun f => bif decide ((e.length : Int) > 1) then bif decide (0 < (f.length : Int)) then bif !decide ((e.length : Int) = 0) then bif inB 0 (w64 (1 + Int.tmod (cvI (cellAt f (Int.toNat 0) 0)) (e.length : Int))) (e.length : Int) then bif U15.c d (view e (Int.toNat 0) (w64 (1 + Int.tmod (cvI (cellAt f (Int.toNat 0) 0)) (e.length : Int))).toNat) then Lib.lt (U15.v d (view e (Int.toNat 0) (w64 (1 + Int.tmod (cvI (cellAt f (Int.toNat 0) 0)) (e.length : Int))).toNat)) fun h => bif U16.c d (view e (Int.toNat 0) (w64 (1 + Int.tmod (cvI (cellAt f (Int.toNat 0) 0)) (e.length : Int))).toNat) then Lib.lt (U16.v d (view e (Int.toNat 0) (w64 (1 + Int.tmod (cvI (cellAt f (Int.toNat 0) 0)) (e.length : Int))).toNat)) fun i => bif U17.c d h.1 then Lib.lt (U17.v d h.1) fun j => bif !decide (h.2 = i.2) then kr false else bif U18.c h.1 i.1 then Lib.lt (U18.v h.1 i.1) fun l => bif !l then kr false else bif !h.2 then kr false else bif j.2 != (h.1.length : Int) then kr false else bif U20.c j.1 then Lib.lt (U20.v j.1) fun m => bif U19.c m (view e (Int.toNat 0) (w64 (1 + Int.tmod (cvI (cellAt f (Int.toNat 0) 0)) (e.length : Int))).toNat) then Lib.lt (U19.v m (view e (Int.toNat 0) (w64 (1 + Int.tmod (cvI (cellAt f (Int.toNat 0) 0)) (e.length : Int))).toNat)) fun o => bif !o then kr false else l14 N (fun _ p _ _ _ _ _ _ _ => kr p) (fun q _ _ _ _ _ _ _ _ => bif U23.c q then Lib.lt (U23.v q) fun r => bif U15.c r.1 r.2 then Lib.lt (U15.v r.1 r.2) fun s => bif U16.c r.1 r.2 then Lib.lt (U16.v r.1 r.2) fun t => bif decide (s.2 = t.2) then bif U18.c s.1 t.1 then Lib.lt (U18.v s.1 t.1) fun u => kr u else none else kr false else none else none else none) (fun _ w _ _ _ _ _ => kr w) (fun y _ _ _ _ _ _ => bif U23.c y then Lib.lt (U23.v y) fun z => bif U15.c z.1 z.2 then Lib.lt (U15.v z.1 z.2) fun α => bif U16.c z.1 z.2 then Lib.lt (U16.v z.1 z.2) fun xa => bif decide (α.2 = xa.2) then bif U18.c α.1 xa.1 then Lib.lt (U18.v α.1 xa.1) fun xb => kr xb else none else kr false else none else none else none) N a false 0 (w64 (1 + Int.tmod (cvI (cellAt f (Int.toNat 0) 0)) (e.length : Int))).toNat 0 e f h.1 d else none else none else none else none else none else none else none else none else none else bif U15.c d e then Lib.lt (U15.v d e) fun xc => bif U16.c d e then Lib.lt (U16.v d e) fun xd => bif U17.c d xc.1 then Lib.lt (U17.v d xc.1) fun xe => bif !decide (xc.2 = xd.2) then kr false else bif U18.c xc.1 xd.1 then Lib.lt (U18.v xc.1 xd.1) fun xf => bif !xf then kr false else bif !xc.2 then kr false else bif xe.2 != (xc.1.length : Int) then kr false else bif U20.c xe.1 then Lib.lt (U20.v xe.1) fun xg => bif U19.c xg e then Lib.lt (U19.v xg e) fun xh => bif !xh then kr false else l14a N (fun _ xi _ _ _ _ _ _ _ => kr xi) (fun xj _ _ _ _ _ _ _ _ => bif U23.c xj then Lib.lt (U23.v xj) fun xk => bif U15.c xk.1 xk.2 then Lib.lt (U15.v xk.1 xk.2) fun xl => bif U16.c xk.1 xk.2 then Lib.lt (U16.v xk.1 xk.2) fun xm => bif decide (xl.2 = xm.2) then bif U18.c xl.1 xm.1 then Lib.lt (U18.v xl.1 xm.1) fun xn => kr xn else none else kr false else none else none else none) (fun _ xo _ _ _ _ _ => kr xo) (fun xp _ _ _ _ _ _ => bif U23.c xp then Lib.lt (U23.v xp) fun xq => bif U15.c xq.1 xq.2 then Lib.lt (U15.v xq.1 xq.2) fun xr => bif U16.c xq.1 xq.2 then Lib.lt (U16.v xq.1 xq.2) fun xs => bif decide (xr.2 = xs.2) then bif U18.c xr.1 xs.1 then Lib.lt (U18.v xr.1 xs.1) fun xt => kr xt else none else kr false else none else none else none) N a false 0 e f xc.1 d else none else none else none else none else none else none else none else none else none
def vo := b Lib.big fun r0 => some r0
def c := fun a => (vo a).isSome
def v := fun a => (vo a).getD false
theorem out {x} : ∀ a, vo a = some x -> c a = true /\ v a = x := fun _ => Lib.out_
end Go.FG.U3

namespace Go.FG.U43
def b {R : Type} (kr : F_rb R) (a : ByteArray) (d e : Int) (f : ByteArray) : Option R := bif U61.c a d e f then bif !(U61.v a d e f).2 then kr [] false else kr (List.set (List.set (zeros [Ck.i IntKind.i64, Ck.s, Ck.s, Ck.s] 2) 0 [.i .i64 1, .s { data := #[UInt8.ofNat 107, UInt8.ofNat 101, UInt8.ofNat 112, UInt8.ofNat 116] }, .s (U61.v a d e f).1, .s ⟨#[]⟩]) 1 [.i .i64 2, .s { data := #[UInt8.ofNat 107, UInt8.ofNat 101, UInt8.ofNat 112, UInt8.ofNat 116] }, .s ⟨#[]⟩, .s ⟨#[]⟩]) true else none
def vo := b fun r0 r1 => some (r0, r1)
def c := fun a d e f => (vo a d e f).isSome
def v := fun a d e f => (vo a d e f).getD ([], false)
end Go.FG.U43

