/- What the functions come to, in plain numbers, texts and lists; last the law itself. No condition but those that each states. -/
import Derived.Test.YtjejmgffiilmlaaGreatPExactAskFor
import Derived.Test.YtjejmgffiilmlaaGreatFExactAskFora
set_option linter.unusedVariables false
set_option linter.unusedSimpArgs false
set_option maxRecDepth 100000
namespace Go.FG.U86
theorem run (k1 : Int) (a : Nat) (hl : a <= 4194304) (h0 : 0 <= k1) (h1 : k1 <= 1000000000000) : vo (U82.mkl k1 a) k1 = some (k1 + 7 * (a : Int)) := by
 have hml := U82.mkl_len k1 a
 unfold vo b
 have := Lib.loop_gen (fun n (i : Nat) => l2 Lib.big (fun (_ : Row) (_ y6 _ : Int) => some y6) (fun (_ : Row) (y9 _ _ : Int) => some y9) n (U82.mkl k1 a) (k1 + 7 * (i : Int)) 0 (i : Int)) (fun i => a - i) (fun i => i <= a) (fun _ => some (k1 + 7 * (a : Int))) (fun n i hi => by
  by_cases h : i < a
  ·right
   refine ⟨i + 1, h, by omega, rfl, ?_⟩
   have eA : k1 + 7 * ((i + 1 : Nat) : Int) = (k1 + 7 * (i : Int)) + 1 + 1 + 1 + 1 + 1 + 1 + 1 := by omega
   show l2 Lib.big _ _ (n + 1) (U82.mkl k1 a) (k1 + 7 * (i : Int)) 0 (i : Int) = l2 Lib.big _ _ n (U82.mkl k1 a) (k1 + 7 * ((i + 1 : Nat) : Int)) 0 ((i + 1 : Nat) : Int)
   rw [eA]
   have ce0 : cvI (cellAt (U82.mkl k1 a) i 0) = k1 + 7 * (i : Int) := by
    unfold U82.mkl; rw [Lib.cellAt_rm _ _ _ _ h]; rfl
   have ce1 : cvS (cellAt (U82.mkl k1 a) i 1) = U176.v (k1 + 7 * (i : Int) + 1) := by
    unfold U82.mkl; rw [Lib.cellAt_rm _ _ _ _ h]; rfl
   have ce2 : cvI (cellAt (U82.mkl k1 a) i 2) = k1 + 7 * (i : Int) + 1 + 1 := by
    unfold U82.mkl; rw [Lib.cellAt_rm _ _ _ _ h]; rfl
   have ce3 : cvI (cellAt (U82.mkl k1 a) i 3) = k1 + 7 * (i : Int) + 1 + 1 + 1 := by
    unfold U82.mkl; rw [Lib.cellAt_rm _ _ _ _ h]; rfl
   have ce4 : cvI (cellAt (U82.mkl k1 a) i 4) = k1 + 7 * (i : Int) + 1 + 1 + 1 + 1 := by
    unfold U82.mkl; rw [Lib.cellAt_rm _ _ _ _ h]; rfl
   have ce5 : cvS (cellAt (U82.mkl k1 a) i 5) = U176.v (k1 + 7 * (i : Int) + 1 + 1 + 1 + 1 + 1) := by
    unfold U82.mkl; rw [Lib.cellAt_rm _ _ _ _ h]; rfl
   have ce6 : cvI (cellAt (U82.mkl k1 a) i 6) = k1 + 7 * (i : Int) + 1 + 1 + 1 + 1 + 1 + 1 := by
    unfold U82.mkl; rw [Lib.cellAt_rm _ _ _ _ h]; rfl
   have hk0 : 0 <= k1 + 7 * (i : Int) := by omega
   have hk1 : k1 + 7 * (i : Int) <= 2000000000000 := by omega
   generalize k1 + 7 * (i : Int) = k at *
   have hi1 : w64 ((i : Int) + 1) = ((i + 1 : Nat) : Int) := Lib.w64_ok (by omega) (by omega)
   simp only [l2, r2, hml, Lib.dlt, h, decide_true, Lib.dle0, Bool.and_self, cond_true, Lib.toN, ce0, ce1, ce2, ce3, ce4, ce5, ce6, Lib.w64_ok (x := k + 1) (by omega) (by omega), Lib.w64_ok (x := k + 1 + 1) (by omega) (by omega), Lib.w64_ok (x := k + 1 + 1 + 1) (by omega) (by omega), Lib.w64_ok (x := k + 1 + 1 + 1 + 1) (by omega) (by omega), Lib.w64_ok (x := k + 1 + 1 + 1 + 1 + 1) (by omega) (by omega), Lib.w64_ok (x := k + 1 + 1 + 1 + 1 + 1 + 1) (by omega) (by omega), Lib.w64_ok (x := k + 1 + 1 + 1 + 1 + 1 + 1 + 1) (by omega) (by omega), U176.ok (k + 1) (by omega), U176.ok (k + 1 + 1 + 1 + 1 + 1) (by omega), hi1, bne_self_eq_false, cond_false, Lib.beq_refl_ba, Bool.not_true]
  ·left
   have : i = a := by omega
   subst this
   simp only [l2, r2, hml, Lib.dlt, Nat.lt_irrefl, decide_false, cond_false]) Lib.big 0 (Nat.zero_le _) (Lib.lt_big (by omega))
 simpa using this
theorem ok (k1 : Int) (a : Nat) (hl : a <= 4194304) (h0 : 0 <= k1) (h1 : k1 <= 1000000000000) : c (U82.mkl k1 a) k1 = true /\ v (U82.mkl k1 a) k1 = k1 + 7 * (a : Int) := out _ _ (run k1 a hl h0 h1)
end Go.FG.U86

namespace Go.FG.U14
open Lib (rr rs re rf rc Px)
open U226 (mkk sm lens)
open U80 (n1)
theorem re_sh (l : List Lib.En) : ∀ y ∈ re l, y.length = 4 := by
 intro y hy; unfold Lib.re at hy; obtain ⟨z, _, rfl⟩ := List.mem_map.1 hy; rfl
theorem rf_sh (l : List Lib.Fe) : ∀ y ∈ rf l, y.length = 5 := by
 intro y hy; unfold Lib.rf at hy; obtain ⟨z, _, rfl⟩ := List.mem_map.1 hy; rfl
theorem rc_sh (l : List Lib.Cl) : ∀ y ∈ rc l, y.length = 7 := by
 intro y hy; unfold Lib.rc at hy; obtain ⟨z, _, rfl⟩ := List.mem_map.1 hy; rfl
theorem both (p : Px) (hp : p.Fit 2000000) : ∃ (K : Int) (A1 A2 A3 A4 A5 A6 : Row), 0 <= K /\
  (U13.c p.now (re p.en) (rs p.w) (rs p.m) (rr p.s) p.a (rf p.fe) (rc p.cl) p.hits 1 = true /\ U13.v p.now (re p.en) (rs p.w) (rs p.m) (rr p.s) p.a (rf p.fe) (rc p.cl) p.hits 1 = (K, A1, A2, A3, A4, A5, A6)) /\
  ∀ (x y z : Int), c x A1 A2 A3 A4 y A5 A6 z 1 = true /\ v x A1 A2 A3 A4 y A5 A6 z 1 = K := by
 have he := hp.en
 have hw := hp.w
 have hm := hp.m
 have hs := hp.s.1
 have ht : sm (lens p.s) <= 2000000 := by
  have := hp.s.2.2
  unfold sm lens; omega
 have hf := hp.fe
 have hc := hp.cl
 have nn := U227.sm_nn (lens p.s)
 have hll : (lens p.s).length <= 4194304 := by unfold lens; rw [List.length_map]; omega
 have a1 := U79.ok (re p.en) 1 (re_sh _) (by rw [Lib.re_len]; omega) (by omega) (by omega)
 have b1 := U83.ok 1 p.en.length (by omega) (by omega) (by omega)
 rw [Lib.re_len] at a1
 generalize hk1 : 1 + 4 * (p.en.length : Int) = k1 at a1 b1
 have a2 := U80.ok p.w p.m p.s p.a k1 (by omega) (by omega) (by omega) (by omega) (by omega) (by omega)
 have b2 := fun y => U84.ok y k1 p.w.length p.m.length (lens p.s) (by omega) (by omega) hll (by omega) (by omega) (by omega)
 have hk2' : 0 <= n1 (n1 k1 p.w.length) p.m.length + sm (lens p.s) /\ n1 (n1 k1 p.w.length) p.m.length + sm (lens p.s) <= 100000000 := by unfold n1; omega
 generalize hk2 : n1 (n1 k1 p.w.length) p.m.length + sm (lens p.s) = k2 at a2 b2 hk2'
 have a3 := U81.ok (rf p.fe) k2 (rf_sh _) (by rw [Lib.rf_len]; omega) (by omega) (by omega)
 have b3 := U85.ok k2 p.fe.length (by omega) (by omega) (by omega)
 rw [Lib.rf_len] at a3
 generalize hk3 : k2 + 5 * (p.fe.length : Int) = k3 at a3 b3
 have a4 := U82.ok (rc p.cl) k3 (rc_sh _) (by rw [Lib.rc_len]; omega) (by omega) (by omega)
 have b4 := U86.ok k3 p.cl.length (by omega) (by omega) (by omega)
 rw [Lib.rc_len] at a4
 generalize hk4 : k3 + 7 * (p.cl.length : Int) = k4 at a4 b4
 refine ⟨k4, _, _, _, _, _, _, by omega, U13.out _ _ _ _ _ _ _ _ _ _ (by
  unfold U13.vo U13.b
  simp only [a1.1, a1.2, a2.1, a2.2, a3.1, a3.2, a4.1, a4.2, cond_true]; rfl), fun x y z => out _ _ _ _ _ _ _ _ _ _ (by
  unfold vo b
  have q1 : decide (k1 < 0) = false := decide_eq_false (by omega)
  have q2 : decide (k2 < 0) = false := decide_eq_false (by omega)
  have q3 : decide (k3 < 0) = false := decide_eq_false (by omega)
  have q4 : decide (k4 < 0) = false := decide_eq_false (by omega)
  simp only [b1.1, b1.2, (b2 y).1, (b2 y).2, b3.1, b3.2, b4.1, b4.2, q1, q2, q3, q4, cond_true, cond_false])⟩
end Go.FG.U14

namespace Go.FG.U3
open Lib (rr rs re rf rc Px)
theorem run (i0 : Int) (r1 r2 r3 r4 : Row) (i5 : Int) (r6 r7 : Row) (i8 n : Int) (key : ByteArray) (hk : key.size <= 140737488351232) (f1 : FitR r1) (f2 : FitR r2) (f3 : FitR r3) (f4 : FitR r4) (f6 : FitR r6) (f7 : FitR r7) : vo i0 r1 r2 r3 r4 i5 r6 r7 i8 n key = some true := by
 unfold vo b
 by_cases hbig : (key.size : Int) > 1048576
 ·rw [decide_eq_true hbig]; rfl
 rw [decide_eq_false hbig, cond_false]
 obtain ⟨z1, z2, z3⟩ := U8.ok i0 r1 r2 r3 r4 i5 r6 r7 i8 1048576 (by omega) (by omega) f1 f2 f3 f4 f6 f7
 rw [z1, cond_true]
 by_cases h : U8.v i0 r1 r2 r3 r4 i5 r6 r7 i8 1048576 < 0
 ·simp only [Lib.lt, decide_eq_true h, cond_true]
 obtain ⟨p, hp, t1, t2⟩ := U10.abs i0 r1 r2 r3 r4 i5 r6 r7 i8 (z3 (by omega))
 have S := U9.ok p n key hp (by omega)
 have I := U11.ok p n key hp (by omega)
 have hq := A_AskF.ask_fit hp n key
 unfold U11.res at S I
 generalize A_Ask.ask p n key = B at S I hq
 obtain ⟨⟨N, E, W, M, T, A, F, C, H⟩, o⟩ := B
 dsimp only at S I hq
 have a1 := U12.refl p hp
 have a2 := U12.refl ⟨N, E, W, M, T, A, F, C, H⟩ hq
 obtain ⟨K, A1, A2, A3, A4, A5, A6, k0, ⟨m1, m2⟩, _⟩ := U14.both p (hp.le (by omega))
 obtain ⟨L, B1, B2, B3, B4, B5, B6, l0, ⟨n1, n2⟩, n3⟩ := U14.both ⟨N, E, W, M, T, A, F, C, H⟩ (hq.le (by omega))
 have d1 : decide (K < 0) = false := decide_eq_false (by omega)
 have d2 : decide (L < 0) = false := decide_eq_false (by omega)
 dsimp only at a2 n1 n2
 simp only [Lib.lt, decide_eq_false h, t1, t2, S.1, S.2, I.1, I.2, a1.1, a1.2, a2.1, a2.2, m1, m2, n1, n2, (n3 _ _ _).1, (n3 _ _ _).2, d1, d2, eq_self, bne_self_eq_false, decide_true, cond_true, cond_false, Bool.not_true]
theorem law (i0 : Int) (r1 r2 r3 r4 : Row) (i5 : Int) (r6 r7 : Row) (i8 n : Int) (key : ByteArray) {A B C D : Prop} (_ : A) (f1 : FitR r1) (f2 : FitR r2) (f3 : FitR r3) (f4 : FitR r4) (_ : B) (f6 : FitR r6) (f7 : FitR r7) (_ : C) (_ : D) (hk : key.size <= 140737488351232) : v i0 r1 r2 r3 r4 i5 r6 r7 i8 n key = true := (out _ _ _ _ _ _ _ _ _ _ _ (run i0 r1 r2 r3 r4 i5 r6 r7 i8 n key hk f1 f2 f3 f4 f6 f7)).2
theorem lawc (i0 : Int) (r1 r2 r3 r4 : Row) (i5 : Int) (r6 r7 : Row) (i8 n : Int) (key : ByteArray) {A B C D : Prop} (_ : A) (f1 : FitR r1) (f2 : FitR r2) (f3 : FitR r3) (f4 : FitR r4) (_ : B) (f6 : FitR r6) (f7 : FitR r7) (_ : C) (_ : D) (hk : key.size <= 140737488351232) : c i0 r1 r2 r3 r4 i5 r6 r7 i8 n key = true := (out _ _ _ _ _ _ _ _ _ _ _ (run i0 r1 r2 r3 r4 i5 r6 r7 i8 n key hk f1 f2 f3 f4 f6 f7)).1
end Go.FG.U3

