/- Functions of the program, told as functions of numbers, texts and lists, and what each comes to. No condition but those that each states. -/
import Derived.Test.YtnhconmkdleomaaLib
set_option linter.unusedVariables false
set_option linter.unusedSimpArgs false
set_option maxRecDepth 100000
namespace Go.FG.Pu.laws_szReaderS
def b {R : Type} (kr : Int → Option R) (a0 : Row) (left1 : Int) : Option R := bif (decide (w64 (left1 - (↑(List.length a0) : Int)) < 0)) then (kr (-1)) else (kr (w64 (left1 - (↑(List.length a0) : Int))))
def v (a0 : Row) (left1 : Int) : Int := bif (decide (w64 (left1 - (↑(List.length a0) : Int)) < 0)) then (((-1))) else (((w64 (left1 - (↑(List.length a0) : Int)))))
theorem b_eq {R : Type} (kr : Int → Option R) (a0 : Row) (left1 : Int) : b kr a0 left1 = kr (v a0 left1) := by
  first | rfl | (unfold b v; simp only [Bool.cond_eq_ite]; (repeat' split) <;> rfl)
theorem fits {a : Row} {L : Int} (h0 : 0 ≤ L) (h1 : L ≤ 1048576) (ha : FitR a) (h : decide (v a L < 0) = false) : a.length ≤ 1048576 ∧ v a L = L - a.length := by
  have e := Lib.sub_len h0 h1 ha.1
  unfold v at h ⊢
  rw [e] at h ⊢
  by_cases hc : L - (a.length : Int) < 0
  · rw [decide_eq_true hc] at h; cases h
  · rw [decide_eq_false hc]; exact ⟨by omega, rfl⟩
end Go.FG.Pu.laws_szReaderS

namespace Go.FG.Pu.laws_szStream
def b {R : Type} (kr : Int → Option R) (a0_0 : Int) (a0_1 : ByteArray) (a0_2 : Row) (left1 : Int) : Option R := bif (decide (w64 (left1 - (↑(ByteArray.size a0_1) : Int)) < 0)) then (kr (-1)) else (bif (decide (Pu.laws_szReaderS.v a0_2 (w64 (left1 - (↑(ByteArray.size a0_1) : Int))) < 0)) then (kr (-1)) else (kr (Pu.laws_szReaderS.v a0_2 (w64 (left1 - (↑(ByteArray.size a0_1) : Int))))))
def v (a0_0 : Int) (a0_1 : ByteArray) (a0_2 : Row) (left1 : Int) : Int := bif (decide (w64 (left1 - (↑(ByteArray.size a0_1) : Int)) < 0)) then (((-1))) else (bif (decide (Pu.laws_szReaderS.v a0_2 (w64 (left1 - (↑(ByteArray.size a0_1) : Int))) < 0)) then (((-1))) else (((Pu.laws_szReaderS.v a0_2 (w64 (left1 - (↑(ByteArray.size a0_1) : Int)))))))
theorem b_eq {R : Type} (kr : Int → Option R) (a0_0 : Int) (a0_1 : ByteArray) (a0_2 : Row) (left1 : Int) : b kr a0_0 a0_1 a0_2 left1 = kr (v a0_0 a0_1 a0_2 left1) := by
  first | rfl | (unfold b v; simp only [Bool.cond_eq_ite]; (repeat' split) <;> rfl)
theorem fits {s : Int} {t : ByteArray} {a : Row} {L : Int} (h0 : 0 ≤ L) (h1 : L ≤ 1048576) (ht : okS t) (ha : FitR a) (h : decide (v s t a L < 0) = false) : t.size ≤ 1048576 ∧ a.length ≤ 1048576 := by
  have e := Lib.sub_len h0 h1 (Nat.le_trans ht (by omega))
  unfold v at h
  rw [e] at h
  by_cases hc : L - (t.size : Int) < 0
  · rw [decide_eq_true hc] at h; cases h
  · rw [decide_eq_false hc, cond_false] at h
    cases h2 : decide (Pu.laws_szReaderS.v a (L - t.size) < 0) with
    | true => rw [h2] at h; cases h
    | false => exact ⟨by omega, (Pu.laws_szReaderS.fits (by omega) (by omega) ha h2).1⟩
end Go.FG.Pu.laws_szStream

namespace Go.FG.Pu.laws_toReader
def b {R : Type} (kr : Int → Int → Option R) (a0_0 : Int) (a0_1 : Int) : Option R := kr a0_0 a0_1
def v (a0_0 : Int) (a0_1 : Int) : Int × Int := (a0_0, a0_1)
theorem b_eq {R : Type} (kr : Int → Int → Option R) (a0_0 : Int) (a0_1 : Int) : b kr a0_0 a0_1 = kr ((v a0_0 a0_1).1) ((v a0_0 a0_1).2) := by
  first | rfl | (unfold b v; simp only [Bool.cond_eq_ite]; (repeat' split) <;> rfl)
end Go.FG.Pu.laws_toReader

namespace Go.FG.Pu.laws_toReaderS
def r3 {R : Type} (N : Nat) (g : Row → Int → Row → Option R) (k0 : Row → Int → Row → Option R) (x0 : Row) (x1 : Int) (x2 : Row) : Option R := bif (decide (x1 < (↑(List.length x0) : Int))) then (bif (decide (0 ≤ x1) && decide (x1 < (↑(List.length x0) : Int))) then (bif (decide (0 ≤ x1) && decide (x1 < (↑(List.length x2) : Int))) then (g x0 (w64 (x1 + 1)) (setC x2 (Int.toNat x1) 0 [CV.i IntKind.i64 (cvI (cellAt x0 (Int.toNat x1) 0)), CV.i IntKind.i64 (cvI (cellAt x0 (Int.toNat x1) 1))])) else (none)) else (none)) else (k0 x0 x1 x2)
def l3 {R : Type} (N : Nat) (k0 : Row → Int → Row → Option R) : Nat → Row → Int → Row → Option R
  | 0 => (fun _ _ _ => none)
  | n + 1 => (fun x0 x1 x2 => r3 N (l3 N k0 n) k0 x0 x1 x2)
def b {R : Type} (N : Nat) (kr : Row → Option R) (a0 : Row) : Option R := bif (decide ((↑(List.length a0) : Int) = (↑(List.length a0) : Int)) && roomy (Int.toNat (↑(List.length a0) : Int)) 16) then (l3 N (fun y3 y4 y5 => kr y5) N a0 0 (zeros [Ck.i IntKind.i64, Ck.i IntKind.i64] (Int.toNat (↑(List.length a0) : Int)))) else (none)
/-- The rows' numbers, one for one. -/
def v (a0 : Row) : Row := a0.map fun y => [CV.i IntKind.i64 (cvI (y.getD 0 (.b false))), CV.i IntKind.i64 (cvI (y.getD 1 (.b false)))]
def c (a0 : Row) : Bool := decide (a0.length ≤ 1048576)
theorem b_eq {R : Type} (kr : Row → Option R) (a0 : Row) (hc : c a0 = true) : ∃ N, b N kr a0 = kr (v a0) := by
  have hl : a0.length ≤ 1048576 := of_decide_eq_true hc
  refine ⟨a0.length + 1, ?_⟩
  unfold b
  rw [show decide ((a0.length : Int) = (a0.length : Int)) = true by simp, Lib.toN, Lib.roomy_of (by omega) (by omega), Bool.and_self, cond_true]
  refine Lib.fill_run (ks := [Ck.i IntKind.i64, Ck.i IntKind.i64]) (v a0) a0.length (by unfold v; simp) (fun y hy => ?_) (fun m (i : Nat) x => l3 (a0.length + 1) (fun _ _ y => kr y) m a0 i x) kr (fun m => ?_) (fun m i hi x hx => ?_)
  · unfold v at hy; obtain ⟨z, _, rfl⟩ := List.mem_map.1 hy; rfl
  · simp only [l3, r3, Lib.dlt, Nat.lt_irrefl, decide_false, cond_false]
  · have hi2 : i < x.length := by omega
    have e : (v a0).getD i [] = [CV.i IntKind.i64 (cvI (cellAt a0 i 0)), CV.i IntKind.i64 (cvI (cellAt a0 i 1))] := by
      unfold v; simp [List.getD, hi, cellAt]
    simp only [l3, r3, Lib.dlt, Lib.dle0, Lib.toN, hi, hi2, decide_true, Bool.true_and, cond_true, Lib.w64_s hi (by omega), e]
end Go.FG.Pu.laws_toReaderS

namespace Go.FG.Pu.laws_toStream
def b {R : Type} (kr : Int → ByteArray → Row → Option R) (a0_0 : Int) (a0_1 : ByteArray) (a0_2 : Row) : Option R := bif (Pu.laws_toReaderS.c a0_2) then (kr a0_0 a0_1 (Pu.laws_toReaderS.v a0_2)) else (none)
def v (a0_0 : Int) (a0_1 : ByteArray) (a0_2 : Row) : Int × ByteArray × Row := (a0_0, a0_1, Pu.laws_toReaderS.v a0_2)
def c (a0_0 : Int) (a0_1 : ByteArray) (a0_2 : Row) : Bool := Pu.laws_toReaderS.c a0_2
theorem b_eq {R : Type} (kr : Int → ByteArray → Row → Option R) (a0_0 : Int) (a0_1 : ByteArray) (a0_2 : Row) (hc : c a0_0 a0_1 a0_2 = true) : b kr a0_0 a0_1 a0_2 = kr (v a0_0 a0_1 a0_2).1 (v a0_0 a0_1 a0_2).2.1 (v a0_0 a0_1 a0_2).2.2 := by
  unfold c at hc
  unfold b v; rw [hc]; rfl
end Go.FG.Pu.laws_toStream

namespace Go.FG.Pu.impl_readerAt_1
def b {R : Type} (kr : Bool → Option R) (r0_0 : Int) (r0_1 : Int) (id1 : Int) : Option R := kr (decide (r0_0 = id1))
def v (r0_0 : Int) (r0_1 : Int) (id1 : Int) : Bool := ((decide (r0_0 = id1)))
theorem b_eq {R : Type} (kr : Bool → Option R) (r0_0 : Int) (r0_1 : Int) (id1 : Int) : b kr r0_0 r0_1 id1 = kr (v r0_0 r0_1 id1) := by
  first | rfl | (unfold b v; simp only [Bool.cond_eq_ite]; (repeat' split) <;> rfl)
end Go.FG.Pu.impl_readerAt_1

namespace Go.FG.Pu.slices_IndexFunc_Readera
def r2 {R : Type} (N : Nat) (g : Row → Int → Int → Int → Int → Option R) (k0 : Row → Int → Int → Int → Int → Option R) (k1 : Row → Int → Int → Int → Int → Option R) (x0 : Row) (x1 : Int) (x2 : Int) (x3 : Int) (x4 : Int) : Option R := bif (decide (x4 < x3)) then (bif (decide (0 ≤ x4) && decide (x4 < (↑(List.length x0) : Int))) then (bif (Pu.impl_readerAt_1.v (cvI (cellAt x0 (Int.toNat x4) 0)) (cvI (cellAt x0 (Int.toNat x4) 1)) x1) then (k0 x0 x1 x4 x3 x4) else (g x0 x1 x2 x3 (w64 (x4 + 1)))) else (none)) else (k1 x0 x1 x2 x3 x4)
def l2 {R : Type} (N : Nat) (k0 : Row → Int → Int → Int → Int → Option R) (k1 : Row → Int → Int → Int → Int → Option R) : Nat → Row → Int → Int → Int → Int → Option R
  | 0 => (fun _ _ _ _ _ => none)
  | n + 1 => (fun x0 x1 x2 x3 x4 => r2 N (l2 N k0 k1 n) k0 k1 x0 x1 x2 x3 x4)
def b {R : Type} (N : Nat) (kr : Int → Option R) (s0 : Row) (id1 : Int) : Option R := l2 N (fun y5 y6 y7 y8 y9 => kr y7) (fun y10 y11 y12 y13 y14 => kr (-1)) N s0 id1 0 (↑(List.length s0) : Int) 0
def v (s0 : Row) (id1 : Int) : Int := Lib.fi (fun i => decide (cvI (cellAt s0 i 0) = id1)) s0.length 0
theorem b_eq {R : Type} (kr : Int → Option R) (s0 : Row) (id1 : Int) (f0 : FitR s0) : ∃ N, b N kr s0 id1 = kr (v s0 id1) := by
  refine ⟨s0.length + 1, ?_⟩
  refine Lib.fi_run (fun i => decide (cvI (cellAt s0 i 0) = id1)) s0.length (fun m i => l2 (s0.length + 1) (fun y5 y6 y7 y8 y9 => kr y7) (fun y10 y11 y12 y13 y14 => kr (-1)) m s0 id1 0 s0.length i) kr (fun m i hi hp => ?_) (fun m i hi hp => ?_) (fun m => ?_)
  · have e : Pu.impl_readerAt_1.v (cvI (cellAt s0 i 0)) (cvI (cellAt s0 i 1)) id1 = true := hp
    simp only [l2, r2, Lib.dlt, Lib.dle0, Lib.toN, hi, decide_true, Bool.true_and, cond_true, e]
  · have e : Pu.impl_readerAt_1.v (cvI (cellAt s0 i 0)) (cvI (cellAt s0 i 1)) id1 = false := hp
    simp only [l2, r2, Lib.dlt, Lib.dle0, Lib.toN, hi, decide_true, Bool.true_and, cond_true, e, cond_false, Lib.w64_s hi f0.1]
  · simp only [l2, r2, Lib.dlt, Nat.lt_irrefl, decide_false, cond_false]
end Go.FG.Pu.slices_IndexFunc_Readera

namespace Go.FG.Pu.impl_StreamLeave_1
def b {R : Type} (kr : Bool → Option R) (r0_0 : Int) (r0_1 : Int) (id1 : Int) : Option R := kr (decide (r0_0 = id1))
def v (r0_0 : Int) (r0_1 : Int) (id1 : Int) : Bool := ((decide (r0_0 = id1)))
theorem b_eq {R : Type} (kr : Bool → Option R) (r0_0 : Int) (r0_1 : Int) (id1 : Int) : b kr r0_0 r0_1 id1 = kr (v r0_0 r0_1 id1) := by
  first | rfl | (unfold b v; simp only [Bool.cond_eq_ite]; (repeat' split) <;> rfl)
end Go.FG.Pu.impl_StreamLeave_1

namespace Go.FG.Pu.slices_IndexFunc_Readerb
def r2 {R : Type} (N : Nat) (g : Row → Int → Int → Int → Int → Option R) (k0 : Row → Int → Int → Int → Int → Option R) (k1 : Row → Int → Int → Int → Int → Option R) (x0 : Row) (x1 : Int) (x2 : Int) (x3 : Int) (x4 : Int) : Option R := bif (decide (x4 < x3)) then (bif (decide (0 ≤ x4) && decide (x4 < (↑(List.length x0) : Int))) then (bif (Pu.impl_StreamLeave_1.v (cvI (cellAt x0 (Int.toNat x4) 0)) (cvI (cellAt x0 (Int.toNat x4) 1)) x1) then (k0 x0 x1 x4 x3 x4) else (g x0 x1 x2 x3 (w64 (x4 + 1)))) else (none)) else (k1 x0 x1 x2 x3 x4)
def l2 {R : Type} (N : Nat) (k0 : Row → Int → Int → Int → Int → Option R) (k1 : Row → Int → Int → Int → Int → Option R) : Nat → Row → Int → Int → Int → Int → Option R
  | 0 => (fun _ _ _ _ _ => none)
  | n + 1 => (fun x0 x1 x2 x3 x4 => r2 N (l2 N k0 k1 n) k0 k1 x0 x1 x2 x3 x4)
def b {R : Type} (N : Nat) (kr : Int → Option R) (s0 : Row) (id1 : Int) : Option R := l2 N (fun y5 y6 y7 y8 y9 => kr y7) (fun y10 y11 y12 y13 y14 => kr (-1)) N s0 id1 0 (↑(List.length s0) : Int) 0
def v (s0 : Row) (id1 : Int) : Int := Lib.fi (fun i => decide (cvI (cellAt s0 i 0) = id1)) s0.length 0
theorem b_eq {R : Type} (kr : Int → Option R) (s0 : Row) (id1 : Int) (f0 : FitR s0) : ∃ N, b N kr s0 id1 = kr (v s0 id1) := by
  refine ⟨s0.length + 1, ?_⟩
  refine Lib.fi_run (fun i => decide (cvI (cellAt s0 i 0) = id1)) s0.length (fun m i => l2 (s0.length + 1) (fun y5 y6 y7 y8 y9 => kr y7) (fun y10 y11 y12 y13 y14 => kr (-1)) m s0 id1 0 s0.length i) kr (fun m i hi hp => ?_) (fun m i hi hp => ?_) (fun m => ?_)
  · have e : Pu.impl_StreamLeave_1.v (cvI (cellAt s0 i 0)) (cvI (cellAt s0 i 1)) id1 = true := hp
    simp only [l2, r2, Lib.dlt, Lib.dle0, Lib.toN, hi, decide_true, Bool.true_and, cond_true, e]
  · have e : Pu.impl_StreamLeave_1.v (cvI (cellAt s0 i 0)) (cvI (cellAt s0 i 1)) id1 = false := hp
    simp only [l2, r2, Lib.dlt, Lib.dle0, Lib.toN, hi, decide_true, Bool.true_and, cond_true, e, cond_false, Lib.w64_s hi f0.1]
  · simp only [l2, r2, Lib.dlt, Nat.lt_irrefl, decide_false, cond_false]
end Go.FG.Pu.slices_IndexFunc_Readerb

namespace Go.FG.Pu.slices_DeleteFunc_Reader
def r5 {R : Type} (N : Nat) (g : Int → Int → Int → Row → Option R) (k0 : Int → Int → Int → Row → Option R) (x0 : Int) (x1 : Int) (x2 : Int) (x3 : Row) : Option R := bif (decide (x2 < (↑(List.length x3) : Int))) then (bif (decide (0 ≤ x2) && decide (x2 < (↑(List.length x3) : Int))) then (bif (!Pu.impl_StreamLeave_1.v (cvI (cellAt x3 (Int.toNat x2) 0)) (cvI (cellAt x3 (Int.toNat x2) 1)) x0) then (bif (decide (0 ≤ x1) && decide (x1 < (↑(List.length x3) : Int))) then (g x0 (w64 (x1 + 1)) (w64 (x2 + 1)) (setC x3 (Int.toNat x1) 0 [CV.i IntKind.i64 (cvI (cellAt x3 (Int.toNat x2) 0)), CV.i IntKind.i64 (cvI (cellAt x3 (Int.toNat x2) 1))])) else (none)) else (g x0 x1 (w64 (x2 + 1)) x3)) else (none)) else (k0 x0 x1 x2 x3)
def l5 {R : Type} (N : Nat) (k0 : Int → Int → Int → Row → Option R) : Nat → Int → Int → Int → Row → Option R
  | 0 => (fun _ _ _ _ => none)
  | n + 1 => (fun x0 x1 x2 x3 => r5 N (l5 N k0 n) k0 x0 x1 x2 x3)
def b {R : Type} (N : Nat) (kr : Row → Option R) (s0 : Row) (del1 : Int) : Option R := bif (decide (Pu.slices_IndexFunc_Readerb.v s0 del1 = Int.neg 1)) then (kr s0) else (l5 N (fun y4 y5 y6 y7 => bif (inB y5 (↑(List.length y7) : Int) (↑(List.length y7) : Int)) then (bif (inB 0 y5 (↑(List.length (List.take (Int.toNat y5) y7 ++ zeros [Ck.i IntKind.i64, Ck.i IntKind.i64] (Int.toNat (↑(List.length y7) : Int) - Int.toNat y5) ++ List.drop (Int.toNat (↑(List.length y7) : Int)) y7)) : Int)) then (kr (view (List.take (Int.toNat y5) y7 ++ zeros [Ck.i IntKind.i64, Ck.i IntKind.i64] (Int.toNat (↑(List.length y7) : Int) - Int.toNat y5) ++ List.drop (Int.toNat (↑(List.length y7) : Int)) y7) (Int.toNat 0) (Int.toNat y5))) else (none)) else (none)) N del1 (Pu.slices_IndexFunc_Readerb.v s0 del1) (w64 (Pu.slices_IndexFunc_Readerb.v s0 del1 + 1)) s0)
def cn (y : List CV) : Bool := match y with | [.i .i64 _, .i .i64 _] => true | _ => false
def cr (y : List CV) : List CV := [CV.i IntKind.i64 (cvI (y.getD 0 (.b false))), CV.i IntKind.i64 (cvI (y.getD 1 (.b false)))]
theorem cr_of {y : List CV} (h : cn y = true) : cr y = y := by
  unfold cn at h
  split at h
  · rfl
  · cases h
theorem len_of {y : List CV} (h : cn y = true) : y.length = 2 := by rw [← cr_of h]; rfl
def keep (d : Int) (y : List CV) : Bool := !decide (cvI (y.getD 0 (.b false)) = d)
def v (s0 : Row) (del1 : Int) : Row := s0.filter (keep del1)
def c (s0 : Row) (del1 : Int) : Bool := s0.all cn
theorem filter_succ (d : Int) {s : Row} {i : Nat} (h : i < s.length) : (s.take (i + 1)).filter (keep d) = (s.take i).filter (keep d) ++ (bif keep d s[i] then [s[i]] else []) := by
  rw [List.take_succ_eq_append_getElem h, List.filter_append]
  cases hk : keep d s[i] <;> simp [hk]
theorem run {R : Type} (N : Nat) (s0 : Row) (d : Int) (hc : s0.all cn = true) (hn : s0.length ≤ 9223372036854775807) (K : Int → Int → Int → Row → Option R) (kr : Row → Option R)
    (hK : ∀ (j : Nat) x, x.length = s0.length → j ≤ s0.length → K d j s0.length x = kr (x.take j)) (m j i : Nat) (x : Row)
    (hi : j < i ∧ i ≤ s0.length ∧ x.length = s0.length ∧ (∀ y ∈ x, y.length = 2) ∧ x.take j = (s0.take i).filter (keep d) ∧ x.drop i = s0.drop i) (hm : s0.length - i < m) :
    l5 N K m d j i x = kr (s0.filter (keep d)) := by
  have hca : ∀ y ∈ s0, cn y = true := List.all_eq_true.1 hc
  refine Lib.loop_gen (fun m (s : Nat × Nat × Row) => l5 N K m d s.1 s.2.1 s.2.2) (fun s => s0.length - s.2.1)
    (fun s => s.1 < s.2.1 ∧ s.2.1 ≤ s0.length ∧ s.2.2.length = s0.length ∧ (∀ y ∈ s.2.2, y.length = 2) ∧ s.2.2.take s.1 = (s0.take s.2.1).filter (keep d) ∧ s.2.2.drop s.2.1 = s0.drop s.2.1)
    (fun _ => kr (s0.filter (keep d))) (fun m s hs => ?_) m (j, i, x) hi hm
  obtain ⟨j, i, x⟩ := s
  obtain ⟨h1, h2, h3, h4, h5, h6⟩ := hs
  simp only at h1 h2 h3 h4 h5 h6 ⊢
  by_cases hin : i < s0.length
  · right
    have hix : i < x.length := by omega
    have hjx : j < x.length := by omega
    have hx : x[i] = s0[i] := by
      have e1 := Lib.drop_cons_of hix
      have e2 := Lib.drop_cons_of hin
      rw [h6, e2] at e1
      exact (List.cons.inj e1).1.symm
    have hd : x.drop (i + 1) = s0.drop (i + 1) := by
      have e1 := Lib.drop_cons_of hix
      have e2 := Lib.drop_cons_of hin
      rw [h6, e2] at e1
      exact (List.cons.inj e1).2.symm
    have hcn := hca _ (List.getElem_mem hin)
    have hf := filter_succ d hin
    cases hk : keep d s0[i] with
    | true =>
      refine ⟨(j + 1, i + 1, x.set j s0[i]), ?_, by simp only; omega, trivial, ?_⟩
      · rw [hk, cond_true, ← h5] at hf
        refine ⟨by simp only; omega, by simp only; omega, by simpa using h3, ?_, ?_, ?_⟩
        · intro y hy
          rcases List.mem_or_eq_of_mem_set hy with h | h
          · exact h4 y h
          · rw [h]; exact len_of hcn
        · rw [hf]
          rw [List.take_succ_eq_append_getElem (by simpa using hjx)]
          simp [List.take_set_of_le]
        · simp only
          rw [List.drop_set_of_lt (by omega)]; exact hd
      · have e : Pu.impl_StreamLeave_1.v (cvI (cellAt x i 0)) (cvI (cellAt x i 1)) d = false := by
          have : (!Pu.impl_StreamLeave_1.v (cvI (cellAt x i 0)) (cvI (cellAt x i 1)) d) = true := by
            rw [Lib.cellAt_of hix, hx]; exact hk
          simpa using this
        have es : setC x j 0 [CV.i IntKind.i64 (cvI (cellAt x i 0)), CV.i IntKind.i64 (cvI (cellAt x i 1))] = x.set j s0[i] := by
          have hl := h4 _ (List.getElem_mem hjx)
          rw [Lib.setC_eq hjx, Lib.cellAt_of hix, Lib.cellAt_of hix, hx]
          have : splice x[j] 0 (cr s0[i]) = s0[i] := by
            rw [cr_of hcn]
            unfold splice
            have := len_of hcn
            simp [hl, this, List.drop_eq_nil_of_le]
          unfold cr at this
          rw [this]
        have b1 : (j : Int) < (x.length : Int) := by omega
        simp only [l5, r5, Lib.dlt, Lib.dle0, Lib.toN, hix, hjx, decide_true, Bool.true_and, cond_true, e, Bool.not_false, es, Lib.w64_s hin hn, Lib.w64_s (show j < s0.length by omega) hn]
    | false =>
      refine ⟨(j, i + 1, x), ?_, by simp only; omega, trivial, ?_⟩
      · rw [hk, cond_false, List.append_nil, ← h5] at hf
        exact ⟨by simp only; omega, by simp only; omega, h3, h4, hf.symm, hd⟩
      · have e : Pu.impl_StreamLeave_1.v (cvI (cellAt x i 0)) (cvI (cellAt x i 1)) d = true := by
          have : (!Pu.impl_StreamLeave_1.v (cvI (cellAt x i 0)) (cvI (cellAt x i 1)) d) = false := by
            rw [Lib.cellAt_of hix, hx]; exact hk
          simpa using this
        simp only [l5, r5, Lib.dlt, Lib.dle0, Lib.toN, hix, decide_true, Bool.true_and, cond_true, e, Bool.not_true, cond_false, Lib.w64_s hin hn]
  · left
    have : i = s0.length := by omega
    subst this
    rw [List.take_length] at h5
    have e := hK j x h3 (by omega)
    rw [h5] at e
    have hix : ¬ s0.length < x.length := by omega
    simp only [l5, r5, Lib.dlt, hix, decide_false, cond_false, e]
theorem b_eq {R : Type} (kr : Row → Option R) (s0 : Row) (del1 : Int) (hc : c s0 del1 = true) (f0 : FitR s0) : ∃ N, b N kr s0 del1 = kr (v s0 del1) := by
  refine ⟨s0.length + 1, ?_⟩
  have hn := f0.1
  unfold b v
  rcases Lib.fi_rng (fun i => decide (cvI (cellAt s0 i 0) = del1)) s0.length 0 with ⟨h, hall⟩ | ⟨k, _, hk2, hk, hkp, hbef⟩
  · have hv : Pu.slices_IndexFunc_Readerb.v s0 del1 = -1 := h
    have : s0.filter (keep del1) = s0 := by
      rw [List.filter_eq_self]
      intro y hy
      obtain ⟨i, hi, rfl⟩ := List.getElem_of_mem hy
      have := hall i (Nat.zero_le _) (by omega)
      rw [Lib.cellAt_of hi] at this
      unfold keep; rw [this]; rfl
    rw [hv, this]; rfl
  · have hv : Pu.slices_IndexFunc_Readerb.v s0 del1 = (k : Int) := hk
    have hkl : k < s0.length := by omega
    have hne : decide ((k : Int) = Int.neg 1) = false := decide_eq_false (by show ¬ (k : Int) = -1; omega)
    rw [hv, hne, cond_false, Lib.w64_s hkl hn]
    have hca : ∀ y ∈ s0, cn y = true := List.all_eq_true.1 hc
    refine run _ s0 del1 hc hn _ kr (fun j x hx hj => ?_) _ k (k + 1) s0 ⟨by omega, by omega, rfl, fun y hy => len_of (hca y hy), ?_, rfl⟩ (by omega)
    · have b1 : inB (j : Int) (s0.length : Int) (s0.length : Int) = true := by simp [inB]; omega
      have e : List.take j x ++ zeros [Ck.i IntKind.i64, Ck.i IntKind.i64] (s0.length - j) ++ List.drop s0.length x = List.take j x ++ zeros [Ck.i IntKind.i64, Ck.i IntKind.i64] (s0.length - j) := by
        rw [List.drop_eq_nil_of_le (by omega), List.append_nil]
      have hl : (List.take j x).length = j := by simp; omega
      simp only [hx, Lib.toN, b1, cond_true, e]
      rw [Lib.bif_t (by simp [inB]; omega)]
      unfold view
      rw [show Int.toNat 0 = 0 from rfl, List.drop_zero, Nat.sub_zero, List.take_append_of_le_length (by omega), List.take_of_length_le (by omega)]
    · rw [filter_succ del1 hkl]
      have e1 : keep del1 s0[k] = false := by
        rw [Lib.cellAt_of hkl] at hkp
        unfold keep; rw [hkp]; rfl
      have e2 : (s0.take k).filter (keep del1) = s0.take k := by
        rw [List.filter_eq_self]
        intro y hy
        obtain ⟨i, hi, rfl⟩ := List.getElem_of_mem hy
        have hik : i < k := by simp at hi; omega
        have := hbef i (Nat.zero_le _) hik
        rw [Lib.cellAt_of (by omega)] at this
        rw [List.getElem_take]
        unfold keep; rw [this]; rfl
      rw [e1, e2, cond_false, List.append_nil]
end Go.FG.Pu.slices_DeleteFunc_Reader

namespace Go.FG.Pu.spec_StreamLeave
def r3 {R : Type} (N : Nat) (g : Int → Int → Int → ByteArray → Row → Int → ByteArray → Int → ByteArray → Option R) (g1 : Int → Int → Int → ByteArray → Row → Int → ByteArray → Int → ByteArray → Row → Option R) (k0 : Int → Int → Int → ByteArray → Row → Int → ByteArray → Int → ByteArray → Option R) (k1 : Int → Int → Int → ByteArray → Row → Int → ByteArray → Int → ByteArray → Row → Option R) (x0 : Int) (x1 : Int) (x2 : Int) (x3 : ByteArray) (x4 : Row) (x5 : Int) (x6 : ByteArray) (x7 : Int) (x8 : ByteArray) : Option R := bif (decide (x1 < (↑(List.length x4) : Int))) then (bif (decide (0 ≤ x1) && decide (x1 < (↑(List.length x4) : Int))) then (bif (cvI (cellAt x4 (Int.toNat x1) 0) != x0) then (bif (decide (0 ≤ x1) && decide (x1 < (↑(List.length x4) : Int))) then (g1 x0 (w64 (x1 + 1)) x2 x3 x4 x5 x6 x7 x8 ([] ++ List.set (zeros [Ck.i IntKind.i64, Ck.i IntKind.i64] 1) 0 [CV.i IntKind.i64 (cvI (cellAt x4 (Int.toNat x1) 0)), CV.i IntKind.i64 (cvI (cellAt x4 (Int.toNat x1) 1))])) else (none)) else (g x0 (w64 (x1 + 1)) x2 x3 x4 x5 x6 x7 x8)) else (none)) else (k0 x0 x1 x2 x3 x4 x5 x6 x7 x8)
def r3a {R : Type} (N : Nat) (g : Int → Int → Int → ByteArray → Row → Int → ByteArray → Int → ByteArray → Option R) (g1 : Int → Int → Int → ByteArray → Row → Int → ByteArray → Int → ByteArray → Row → Option R) (k0 : Int → Int → Int → ByteArray → Row → Int → ByteArray → Int → ByteArray → Option R) (k1 : Int → Int → Int → ByteArray → Row → Int → ByteArray → Int → ByteArray → Row → Option R) (x9 : Int) (x10 : Int) (x11 : Int) (x12 : ByteArray) (x13 : Row) (x14 : Int) (x15 : ByteArray) (x16 : Int) (x17 : ByteArray) (x18 : Row) : Option R := bif (decide (x10 < (↑(List.length x13) : Int))) then (bif (decide (0 ≤ x10) && decide (x10 < (↑(List.length x13) : Int))) then (bif (cvI (cellAt x13 (Int.toNat x10) 0) != x9) then (bif (decide (0 ≤ x10) && decide (x10 < (↑(List.length x13) : Int))) then (bif (roomy (List.length x18 + List.length (List.set (zeros [Ck.i IntKind.i64, Ck.i IntKind.i64] 1) 0 [CV.i IntKind.i64 (cvI (cellAt x13 (Int.toNat x10) 0)), CV.i IntKind.i64 (cvI (cellAt x13 (Int.toNat x10) 1))])) 16) then (g1 x9 (w64 (x10 + 1)) x11 x12 x13 x14 x15 x16 x17 (x18 ++ List.set (zeros [Ck.i IntKind.i64, Ck.i IntKind.i64] 1) 0 [CV.i IntKind.i64 (cvI (cellAt x13 (Int.toNat x10) 0)), CV.i IntKind.i64 (cvI (cellAt x13 (Int.toNat x10) 1))])) else (none)) else (none)) else (g1 x9 (w64 (x10 + 1)) x11 x12 x13 x14 x15 x16 x17 x18)) else (none)) else (k1 x9 x10 x11 x12 x13 x14 x15 x16 x17 x18)
def l3a {R : Type} (N : Nat) (k0 : Int → Int → Int → ByteArray → Row → Int → ByteArray → Int → ByteArray → Option R) (k1 : Int → Int → Int → ByteArray → Row → Int → ByteArray → Int → ByteArray → Row → Option R) : Nat → Int → Int → Int → ByteArray → Row → Int → ByteArray → Int → ByteArray → Row → Option R
  | 0 => (fun _ _ _ _ _ _ _ _ _ _ => none)
  | n + 1 => (fun x9 x10 x11 x12 x13 x14 x15 x16 x17 x18 => r3a N (fun x0 x1 x2 x3 x4 x5 x6 x7 x8 => none) (l3a N k0 k1 n) k0 k1 x9 x10 x11 x12 x13 x14 x15 x16 x17 x18)
def l3 {R : Type} (N : Nat) (k0 : Int → Int → Int → ByteArray → Row → Int → ByteArray → Int → ByteArray → Option R) (k1 : Int → Int → Int → ByteArray → Row → Int → ByteArray → Int → ByteArray → Row → Option R) : Nat → Int → Int → Int → ByteArray → Row → Int → ByteArray → Int → ByteArray → Option R
  | 0 => (fun _ _ _ _ _ _ _ _ _ => none)
  | n + 1 => (fun x0 x1 x2 x3 x4 x5 x6 x7 x8 => r3 N (l3 N k0 k1 n) (l3a N k0 k1 n) k0 k1 x0 x1 x2 x3 x4 x5 x6 x7 x8)
def b {R : Type} (N : Nat) (kr : Int → ByteArray → Row → Option R) (s0_0 : Int) (s0_1 : ByteArray) (s0_2 : Row) (id1 : Int) : Option R := l3 N (fun y19 y20 y21 y22 y23 y24 y25 y26 y27 => kr y26 y27 []) (fun y28 y29 y30 y31 y32 y33 y34 y35 y36 y37 => kr y35 y36 y37) N id1 0 s0_0 s0_1 s0_2 0 ({ data := #[] }) s0_0 s0_1
def f (id1 : Int) (s : Row) : Row := (s.filter (Pu.slices_DeleteFunc_Reader.keep id1)).map Pu.slices_DeleteFunc_Reader.cr
def v (s0_0 : Int) (s0_1 : ByteArray) (s0_2 : Row) (id1 : Int) : Int × ByteArray × Row := (s0_0, s0_1, f id1 s0_2)
def c (s0_0 : Int) (s0_1 : ByteArray) (s0_2 : Row) (id1 : Int) : Bool := decide (s0_2.length ≤ 4294967296)
theorem f_cons (id1 : Int) {s : Row} {i : Nat} (h : i < s.length) : f id1 (s.drop i) = (bif Pu.slices_DeleteFunc_Reader.keep id1 s[i] then [Pu.slices_DeleteFunc_Reader.cr s[i]] else []) ++ f id1 (s.drop (i + 1)) := by
  unfold f
  rw [Lib.drop_cons_of h]
  cases hk : Pu.slices_DeleteFunc_Reader.keep id1 s[i] with
  | true => rw [List.filter_cons_of_pos hk]; rfl
  | false => rw [List.filter_cons_of_neg (by rw [hk]; exact Bool.false_ne_true)]; rfl
theorem f_len (id1 : Int) (s : Row) : (f id1 s).length ≤ s.length := by
  unfold f; rw [List.length_map]; exact List.length_filter_le _ _
theorem ne_eq {s : Row} {i : Nat} (id1 : Int) (h : i < s.length) : (cvI (cellAt s i 0) != id1) = Pu.slices_DeleteFunc_Reader.keep id1 s[i] := by
  rw [Lib.cellAt_of h]; unfold Pu.slices_DeleteFunc_Reader.keep
  cases hd : decide (cvI (s[i].getD 0 (CV.b false)) = id1) with
  | true => rw [of_decide_eq_true hd]; simp
  | false => exact bne_iff_ne.mpr (of_decide_eq_false hd)
theorem cr_eq {s : Row} {i : Nat} (h : i < s.length) : List.set (zeros [Ck.i IntKind.i64, Ck.i IntKind.i64] 1) 0 [CV.i IntKind.i64 (cvI (cellAt s i 0)), CV.i IntKind.i64 (cvI (cellAt s i 1))] = [Pu.slices_DeleteFunc_Reader.cr s[i]] := by
  rw [Lib.len_set1, Lib.cellAt_of h, Lib.cellAt_of h]; rfl
theorem b_eq {R : Type} (kr : Int → ByteArray → Row → Option R) (s0_0 : Int) (s0_1 : ByteArray) (s0_2 : Row) (id1 : Int) (hc : c s0_0 s0_1 s0_2 id1 = true) : ∃ N, b N kr s0_0 s0_1 s0_2 id1 = kr (v s0_0 s0_1 s0_2 id1).1 (v s0_0 s0_1 s0_2 id1).2.1 (v s0_0 s0_1 s0_2 id1).2.2 := by
  have hl : s0_2.length ≤ 4294967296 := of_decide_eq_true hc
  refine ⟨s0_2.length + 1, ?_⟩
  unfold b v
  have hB : ∀ (m i : Nat) (w : Row), i ≤ s0_2.length → w.length ≤ i → s0_2.length - i < m → l3a (s0_2.length + 1) (fun y19 y20 y21 y22 y23 y24 y25 y26 y27 => kr y26 y27 []) (fun y28 y29 y30 y31 y32 y33 y34 y35 y36 y37 => kr y35 y36 y37) m id1 i s0_0 s0_1 s0_2 0 ({ data := #[] }) s0_0 s0_1 w = kr s0_0 s0_1 (w ++ f id1 (s0_2.drop i)) := by
    intro m i w h1 h2 h3
    refine Lib.loop_gen (fun m (s : Nat × Row) => l3a (s0_2.length + 1) (fun y19 y20 y21 y22 y23 y24 y25 y26 y27 => kr y26 y27 []) (fun y28 y29 y30 y31 y32 y33 y34 y35 y36 y37 => kr y35 y36 y37) m id1 s.1 s0_0 s0_1 s0_2 0 ({ data := #[] }) s0_0 s0_1 s.2)
      (fun s => s0_2.length - s.1) (fun s => s.1 ≤ s0_2.length ∧ s.2.length ≤ s.1) (fun s => kr s0_0 s0_1 (s.2 ++ f id1 (s0_2.drop s.1))) (fun m s hs => ?_) m (i, w) ⟨h1, h2⟩ h3
    obtain ⟨i, w⟩ := s
    obtain ⟨h1, h2⟩ := hs
    simp only at h1 h2 ⊢
    by_cases hin : i < s0_2.length
    · right
      have hf := f_cons id1 hin
      have hr : roomy (w.length + [Pu.slices_DeleteFunc_Reader.cr s0_2[i]].length) 16 = true := Lib.roomy_of (by simp only [List.length_singleton]; omega) (by simp only [List.length_singleton]; omega)
      cases hk : Pu.slices_DeleteFunc_Reader.keep id1 s0_2[i] with
      | true =>
        rw [hk, cond_true] at hf
        refine ⟨(i + 1, w ++ [Pu.slices_DeleteFunc_Reader.cr s0_2[i]]), ⟨hin, by simp; omega⟩, by simp only; omega, by simp only [hf, List.append_assoc], ?_⟩
        simp only [l3a, r3a, Lib.dlt, Lib.dle0, Lib.toN, hin, decide_true, Bool.true_and, cond_true, ne_eq id1 hin, hk, cr_eq hin, hr, Lib.w64_s hin (by omega)]
      | false =>
        rw [hk, cond_false, List.nil_append] at hf
        refine ⟨(i + 1, w), ⟨hin, by simp only; omega⟩, by simp only; omega, by simp only [hf], ?_⟩
        simp only [l3a, r3a, Lib.dlt, Lib.dle0, Lib.toN, hin, decide_true, Bool.true_and, cond_true, cond_false, ne_eq id1 hin, hk, Lib.w64_s hin (by omega)]
    · left
      have : i = s0_2.length := by omega
      subst this
      simp only [l3a, r3a, Lib.dlt, Nat.lt_irrefl, decide_false, cond_false, List.drop_length]
      rw [show f id1 [] = [] from rfl, List.append_nil]
  have hA : ∀ (m i : Nat), i ≤ s0_2.length → s0_2.length - i < m → l3 (s0_2.length + 1) (fun y19 y20 y21 y22 y23 y24 y25 y26 y27 => kr y26 y27 []) (fun y28 y29 y30 y31 y32 y33 y34 y35 y36 y37 => kr y35 y36 y37) m id1 i s0_0 s0_1 s0_2 0 ({ data := #[] }) s0_0 s0_1 = kr s0_0 s0_1 (f id1 (s0_2.drop i)) := by
    intro m
    induction m with
    | zero => intro i _ h; omega
    | succ m ih =>
      intro i h1 h2
      by_cases hin : i < s0_2.length
      · have hf := f_cons id1 hin
        cases hk : Pu.slices_DeleteFunc_Reader.keep id1 s0_2[i] with
        | true =>
          rw [hk, cond_true] at hf
          have e := hB m (i + 1) [Pu.slices_DeleteFunc_Reader.cr s0_2[i]] hin (by simp) (by omega)
          rw [hf, ← e]
          simp only [l3, r3, Lib.dlt, Lib.dle0, Lib.toN, hin, decide_true, Bool.true_and, cond_true, ne_eq id1 hin, hk, cr_eq hin, Lib.w64_s hin (show s0_2.length ≤ 9223372036854775807 by omega), List.nil_append]
        | false =>
          rw [hk, cond_false, List.nil_append] at hf
          have e := ih (i + 1) hin (by omega)
          rw [hf, ← e]
          simp only [l3, r3, Lib.dlt, Lib.dle0, Lib.toN, hin, decide_true, Bool.true_and, cond_true, cond_false, ne_eq id1 hin, hk, Lib.w64_s hin (show s0_2.length ≤ 9223372036854775807 by omega)]
      · have : i = s0_2.length := by omega
        subst this
        simp only [l3, r3, Lib.dlt, Nat.lt_irrefl, decide_false, cond_false, List.drop_length]
        rfl
  have := hA (s0_2.length + 1) 0 (Nat.zero_le _) (by omega)
  rw [List.drop_zero] at this
  exact this
end Go.FG.Pu.spec_StreamLeave

namespace Go.FG.Pu.impl_copyStream
def b {R : Type} (kr : Int → ByteArray → Row → Option R) (s0_0 : Int) (s0_1 : ByteArray) (s0_2 : Row) : Option R := bif (roomy (List.length (zeros [Ck.i IntKind.i64, Ck.i IntKind.i64] 0) + List.length s0_2) 16) then (kr s0_0 s0_1 (zeros [Ck.i IntKind.i64, Ck.i IntKind.i64] 0 ++ s0_2)) else (none)
def v (s0_0 : Int) (s0_1 : ByteArray) (s0_2 : Row) : Int × ByteArray × Row := (s0_0, s0_1, s0_2)
def c (s0_0 : Int) (s0_1 : ByteArray) (s0_2 : Row) : Bool := decide (s0_2.length ≤ 4294967296)
theorem b_eq {R : Type} (kr : Int → ByteArray → Row → Option R) (s0_0 : Int) (s0_1 : ByteArray) (s0_2 : Row) (hc : c s0_0 s0_1 s0_2 = true) : b kr s0_0 s0_1 s0_2 = kr (v s0_0 s0_1 s0_2).1 (v s0_0 s0_1 s0_2).2.1 (v s0_0 s0_1 s0_2).2.2 := by
  have h : s0_2.length ≤ 4294967296 := of_decide_eq_true hc
  unfold b
  rw [show List.length (zeros [Ck.i IntKind.i64, Ck.i IntKind.i64] 0) + s0_2.length = s0_2.length by simp [zeros], Lib.roomy_of (by omega) (by omega)]
  rfl
end Go.FG.Pu.impl_copyStream

namespace Go.FG.Pu.impl_StreamLeave
def b {R : Type} (kr : Int → ByteArray → Row → Option R) (s0_0 : Int) (s0_1 : ByteArray) (s0_2 : Row) (id1 : Int) : Option R := bif (Pu.impl_copyStream.c s0_0 s0_1 s0_2) then (bif (Pu.slices_DeleteFunc_Reader.c s0_2 id1) then (kr s0_0 s0_1 (Pu.slices_DeleteFunc_Reader.v s0_2 id1)) else (none)) else (none)
def v (s0_0 : Int) (s0_1 : ByteArray) (s0_2 : Row) (id1 : Int) : Int × ByteArray × Row := (s0_0, s0_1, Pu.slices_DeleteFunc_Reader.v s0_2 id1)
def c (s0_0 : Int) (s0_1 : ByteArray) (s0_2 : Row) (id1 : Int) : Bool := Pu.impl_copyStream.c s0_0 s0_1 s0_2 && Pu.slices_DeleteFunc_Reader.c s0_2 id1
theorem b_eq {R : Type} (kr : Int → ByteArray → Row → Option R) (s0_0 : Int) (s0_1 : ByteArray) (s0_2 : Row) (id1 : Int) (hc : c s0_0 s0_1 s0_2 id1 = true) : b kr s0_0 s0_1 s0_2 id1 = kr (v s0_0 s0_1 s0_2 id1).1 (v s0_0 s0_1 s0_2 id1).2.1 (v s0_0 s0_1 s0_2 id1).2.2 := by
  have hc2 := (Bool.and_eq_true _ _).mp hc
  unfold b v
  rw [hc2.1, hc2.2]; rfl
end Go.FG.Pu.impl_StreamLeave

namespace Go.FG.Pu.laws_eqReader
def b {R : Type} (kr : Bool → Option R) (a0_0 : Int) (a0_1 : Int) (b1_0 : Int) (b1_1 : Int) : Option R := bif (a0_0 != b1_0) then (kr false) else (bif (a0_1 != b1_1) then (kr false) else (kr true))
def v (a0_0 : Int) (a0_1 : Int) (b1_0 : Int) (b1_1 : Int) : Bool := bif (a0_0 != b1_0) then ((false)) else (bif (a0_1 != b1_1) then ((false)) else ((true)))
theorem b_eq {R : Type} (kr : Bool → Option R) (a0_0 : Int) (a0_1 : Int) (b1_0 : Int) (b1_1 : Int) : b kr a0_0 a0_1 b1_0 b1_1 = kr (v a0_0 a0_1 b1_0 b1_1) := by
  first | rfl | (unfold b v; simp only [Bool.cond_eq_ite]; (repeat' split) <;> rfl)
end Go.FG.Pu.laws_eqReader

namespace Go.FG.Pu.laws_eqReaderS
def r4 {R : Type} (N : Nat) (g : Row → Row → Bool → Int → Option R) (k0 : Row → Row → Bool → Int → Option R) (k1 : Row → Row → Bool → Int → Option R) (x0 : Row) (x1 : Row) (x2 : Bool) (x3 : Int) : Option R := bif (decide (x3 < (↑(List.length x0) : Int))) then (bif (decide (0 ≤ x3) && decide (x3 < (↑(List.length x0) : Int))) then (bif (decide (0 ≤ x3) && decide (x3 < (↑(List.length x1) : Int))) then (bif (!Pu.laws_eqReader.v (cvI (cellAt x0 (Int.toNat x3) 0)) (cvI (cellAt x0 (Int.toNat x3) 1)) (cvI (cellAt x1 (Int.toNat x3) 0)) (cvI (cellAt x1 (Int.toNat x3) 1))) then (k0 x0 x1 false x3) else (g x0 x1 x2 (w64 (x3 + 1)))) else (none)) else (none)) else (k1 x0 x1 x2 x3)
def l4 {R : Type} (N : Nat) (k0 : Row → Row → Bool → Int → Option R) (k1 : Row → Row → Bool → Int → Option R) : Nat → Row → Row → Bool → Int → Option R
  | 0 => (fun _ _ _ _ => none)
  | n + 1 => (fun x0 x1 x2 x3 => r4 N (l4 N k0 k1 n) k0 k1 x0 x1 x2 x3)
def b {R : Type} (N : Nat) (kr : Bool → Option R) (a0 : Row) (b1 : Row) : Option R := bif ((↑(List.length a0) : Int) != (↑(List.length b1) : Int)) then (kr false) else (l4 N (fun y4 y5 y6 y7 => kr y6) (fun y8 y9 y10 y11 => kr true) N a0 b1 false 0)
def v (a0 : Row) (b1 : Row) : Bool := (a0.length == b1.length) && (List.range a0.length).all fun i => Pu.laws_eqReader.v (cvI (cellAt a0 i 0)) (cvI (cellAt a0 i 1)) (cvI (cellAt b1 i 0)) (cvI (cellAt b1 i 1))
def fr (a b : Row) (i : Nat) : Bool := (List.range' i (a.length - i)).all fun i => Pu.laws_eqReader.v (cvI (cellAt a i 0)) (cvI (cellAt a i 1)) (cvI (cellAt b i 0)) (cvI (cellAt b i 1))
theorem run {R : Type} (N : Nat) (kr : Bool → Option R) (a b : Row) (hl : a.length = b.length) (ha : FitR a) : ∀ n (i : Nat), i ≤ a.length → a.length - i < n → l4 N (fun _ _ y _ => kr y) (fun _ _ _ _ => kr true) n a b false i = kr (fr a b i) := by
  refine Lib.loop_gen (fun n (i : Nat) => l4 N (fun _ _ y _ => kr y) (fun _ _ _ _ => kr true) n a b false i) (fun i => a.length - i) (fun i => i ≤ a.length) (fun i => kr (fr a b i)) (fun n i hi => ?_)
  simp only [l4, r4, Lib.dlt, Lib.dle0, Lib.toN, Bool.true_and]
  by_cases h : i < a.length
  · have e : a.length - i = (a.length - (i + 1)) + 1 := by omega
    have hf : fr a b i = (Pu.laws_eqReader.v (cvI (cellAt a i 0)) (cvI (cellAt a i 1)) (cvI (cellAt b i 0)) (cvI (cellAt b i 1)) && fr a b (i + 1)) := by
      unfold fr; rw [e, List.range'_succ, List.all_cons]
    have hb : i < b.length := by omega
    simp only [h, hb, decide_true, cond_true, Lib.w64_s h ha.1]
    cases hv : Pu.laws_eqReader.v (cvI (cellAt a i 0)) (cvI (cellAt a i 1)) (cvI (cellAt b i 0)) (cvI (cellAt b i 1)) with
    | true => exact .inr ⟨i + 1, h, by omega, by rw [hf, hv]; rfl, rfl⟩
    | false => left; rw [hf, hv]; rfl
  · left
    have : a.length - i = 0 := by omega
    simp only [h, decide_false, cond_false]
    unfold fr; rw [this]; rfl
theorem b_eq {R : Type} (kr : Bool → Option R) (a0 : Row) (b1 : Row) (f0 : FitR a0) (f1 : FitR b1) : ∃ N, b N kr a0 b1 = kr (v a0 b1) := by
  refine ⟨a0.length + 1, ?_⟩
  unfold b v
  by_cases hl : a0.length = b1.length
  · have e : ((a0.length : Int) != (b1.length : Int)) = false := by simp [hl]
    rw [e, cond_false]
    refine (run _ kr a0 b1 hl f0 (a0.length + 1) 0 (by omega) (by omega)).trans ?_
    unfold fr; rw [show (a0.length == b1.length) = true by simp [hl], Nat.sub_zero, ← List.range_eq_range']; rfl
  · have e : ((a0.length : Int) != (b1.length : Int)) = true := by simp; omega
    have e2 : (a0.length == b1.length) = false := by simp; omega
    rw [e, cond_true, e2]; rfl
theorem refl (a : Row) : v a a = true := by unfold v; simp [Pu.laws_eqReader.v]
end Go.FG.Pu.laws_eqReaderS

namespace Go.FG.Pu.laws_eqStream
def b {R : Type} (kr : Bool → Option R) (a0_0 : Int) (a0_1 : ByteArray) (a0_2 : Row) (b1_0 : Int) (b1_1 : ByteArray) (b1_2 : Row) : Option R := bif (a0_0 != b1_0) then (kr false) else (bif (!List.beq (ByteArray.toList a0_1) (ByteArray.toList b1_1)) then (kr false) else (bif (!Pu.laws_eqReaderS.v a0_2 b1_2) then (kr false) else (kr true)))
def v (a0_0 : Int) (a0_1 : ByteArray) (a0_2 : Row) (b1_0 : Int) (b1_1 : ByteArray) (b1_2 : Row) : Bool := bif (a0_0 != b1_0) then ((false)) else (bif (!List.beq (ByteArray.toList a0_1) (ByteArray.toList b1_1)) then ((false)) else (bif (!Pu.laws_eqReaderS.v a0_2 b1_2) then ((false)) else ((true))))
theorem b_eq {R : Type} (kr : Bool → Option R) (a0_0 : Int) (a0_1 : ByteArray) (a0_2 : Row) (b1_0 : Int) (b1_1 : ByteArray) (b1_2 : Row) : b kr a0_0 a0_1 a0_2 b1_0 b1_1 b1_2 = kr (v a0_0 a0_1 a0_2 b1_0 b1_1 b1_2) := by
  first | rfl | (unfold b v; simp only [Bool.cond_eq_ite]; (repeat' split) <;> rfl)
theorem refl (s : Int) (t : ByteArray) (a : Row) : v s t a s t a = true := by
  unfold v; simp [Lib.beq_self, Pu.laws_eqReaderS.refl]
end Go.FG.Pu.laws_eqStream

namespace Go.FG.Pu.laws_markReaderS
def r2 {R : Type} (N : Nat) (g : Int → Int → Row → Option R) (k0 : Int → Int → Row → Option R) (x0 : Int) (x1 : Int) (x2 : Row) : Option R := bif (decide (x1 < (↑(List.length x2) : Int))) then (bif (decide (0 ≤ x1) && decide (x1 < (↑(List.length x2) : Int))) then (bif (decide (0 ≤ x1) && decide (x1 < (↑(List.length (setC x2 (Int.toNat x1) 0 [CV.i IntKind.i64 x0])) : Int))) then (g (w64 (w64 (x0 + 1) + 1)) (w64 (x1 + 1)) (setC (setC x2 (Int.toNat x1) 0 [CV.i IntKind.i64 x0]) (Int.toNat x1) 1 [CV.i IntKind.i64 (w64 (x0 + 1))])) else (none)) else (none)) else (k0 x0 x1 x2)
def l2 {R : Type} (N : Nat) (k0 : Int → Int → Row → Option R) : Nat → Int → Int → Row → Option R
  | 0 => (fun _ _ _ => none)
  | n + 1 => (fun x0 x1 x2 => r2 N (l2 N k0 n) k0 x0 x1 x2)
def b {R : Type} (N : Nat) (kr : Int → Row → Option R) (a0 : Row) (k1 : Int) : Option R := l2 N (fun y3 y4 y5 => kr y3 y5) N k1 0 a0
def mk : Int → Row → Row
  | _, [] => []
  | k, y :: r => splice (splice y 0 [CV.i IntKind.i64 k]) 1 [CV.i IntKind.i64 (w64 (k + 1))] :: mk (w64 (w64 (k + 1) + 1)) r
def v (a0 : Row) (k1 : Int) : Int × Row := (Lib.up k1 (2 * a0.length), mk k1 a0)
theorem b_eq {R : Type} (kr : Int → Row → Option R) (a0 : Row) (k1 : Int) (f0 : FitR a0) : ∃ N, b N kr a0 k1 = kr (v a0 k1).1 (v a0 k1).2 := by
  refine ⟨a0.length + 1, ?_⟩
  unfold b
  have := Lib.loop_gen (fun m (s : Int × Nat × Row) => l2 (a0.length + 1) (fun y3 y4 y5 => kr y3 y5) m s.1 s.2.1 s.2.2) (fun s => a0.length - s.2.1) (fun s => s.2.2.length = a0.length ∧ s.2.1 ≤ a0.length)
    (fun s => kr (Lib.up s.1 (2 * (a0.length - s.2.1))) (s.2.2.take s.2.1 ++ mk s.1 (s.2.2.drop s.2.1))) (fun m s hs => by
    obtain ⟨k, i, x⟩ := s
    obtain ⟨hx, hi⟩ := hs
    dsimp only at hx hi ⊢
    simp only [l2, r2, Lib.dlt, Lib.dle0, Lib.toN, Lib.length_setC, Bool.true_and]
    by_cases h : i < x.length
    · right
      simp only [h, decide_true, cond_true, Lib.w64_s h (by rw [hx]; exact f0.1)]
      refine ⟨(w64 (w64 (k + 1) + 1), i + 1, setC (setC x i 0 [CV.i IntKind.i64 k]) i 1 [CV.i IntKind.i64 (w64 (k + 1))]), ⟨by simp only [Lib.length_setC]; exact hx, by dsimp only; omega⟩, by dsimp only; omega, ?_, rfl⟩
      dsimp only
      have e : setC (setC x i 0 [CV.i IntKind.i64 k]) i 1 [CV.i IntKind.i64 (w64 (k + 1))] = x.set i (splice (splice x[i] 0 [CV.i IntKind.i64 k]) 1 [CV.i IntKind.i64 (w64 (k + 1))]) := by
        rw [Lib.setC_eq (by rw [Lib.length_setC]; exact h)]
        simp [Lib.setC_eq h]
      rw [e, Lib.set_take_drop h, Lib.drop_cons_of h]
      have e2 : 2 * (a0.length - i) = 2 * (a0.length - (i + 1)) + 1 + 1 := by omega
      rw [e2]; rfl
    · left
      have h0 : a0.length - i = 0 := by omega
      simp only [h, decide_false, cond_false, h0]
      rw [List.take_of_length_le (by omega), List.drop_eq_nil_of_le (by omega)]
      simp [Lib.up, mk]) (a0.length + 1) (k1, 0, a0) ⟨rfl, by dsimp only; omega⟩ (by dsimp only; omega)
  simpa [v] using this
end Go.FG.Pu.laws_markReaderS

namespace Go.FG.Pu.laws_markStream
def b {R : Type} (kr : Int → Row → Option R) (a0_0 : Int) (a0_1 : ByteArray) (a0_2 : Row) (k1 : Int) : Option R := kr (Lib.up k1 (2 * List.length a0_2)) (Pu.laws_markReaderS.mk k1 a0_2)
def v (a0_0 : Int) (a0_1 : ByteArray) (a0_2 : Row) (k1 : Int) : Int × Row := ((Lib.up k1 (2 * List.length a0_2)), (Pu.laws_markReaderS.mk k1 a0_2))
theorem b_eq {R : Type} (kr : Int → Row → Option R) (a0_0 : Int) (a0_1 : ByteArray) (a0_2 : Row) (k1 : Int) : b kr a0_0 a0_1 a0_2 k1 = kr ((v a0_0 a0_1 a0_2 k1).1) ((v a0_0 a0_1 a0_2 k1).2) := by
  first | rfl | (unfold b v; simp only [Bool.cond_eq_ite]; (repeat' split) <;> rfl)
end Go.FG.Pu.laws_markStream

namespace Go.FG.Pu.laws_heldReaderS
def r2 {R : Type} (N : Nat) (g : Row → Int → Int → Int → Option R) (k0 : Row → Int → Int → Int → Option R) (k1 : Row → Int → Int → Int → Option R) (x0 : Row) (x1 : Int) (x2 : Int) (x3 : Int) : Option R := bif (decide (x3 < (↑(List.length x0) : Int))) then (bif (decide (0 ≤ x3) && decide (x3 < (↑(List.length x0) : Int))) then (bif (cvI (cellAt x0 (Int.toNat x3) 0) != x1) then (k0 x0 x1 (-1) x3) else (bif (decide (0 ≤ x3) && decide (x3 < (↑(List.length x0) : Int))) then (bif (cvI (cellAt x0 (Int.toNat x3) 1) != w64 (x1 + 1)) then (k0 x0 (w64 (x1 + 1)) (-1) x3) else (g x0 (w64 (w64 (x1 + 1) + 1)) x2 (w64 (x3 + 1)))) else (none))) else (none)) else (k1 x0 x1 x2 x3)
def l2 {R : Type} (N : Nat) (k0 : Row → Int → Int → Int → Option R) (k1 : Row → Int → Int → Int → Option R) : Nat → Row → Int → Int → Int → Option R
  | 0 => (fun _ _ _ _ => none)
  | n + 1 => (fun x0 x1 x2 x3 => r2 N (l2 N k0 k1 n) k0 k1 x0 x1 x2 x3)
def b {R : Type} (N : Nat) (kr : Int → Option R) (a0 : Row) (k1 : Int) : Option R := l2 N (fun y4 y5 y6 y7 => kr y6) (fun y8 y9 y10 y11 => kr y9) N a0 k1 0 0
def v : Row → Int → Int
  | [], k => k
  | y :: r, k => bif cvI (y.getD 0 (.b false)) != k then -1 else bif cvI (y.getD 1 (.b false)) != w64 (k + 1) then -1 else v r (w64 (w64 (k + 1) + 1))
theorem b_eq {R : Type} (kr : Int → Option R) (a0 : Row) (k1 : Int) (f0 : FitR a0) : ∃ N, b N kr a0 k1 = kr (v a0 k1) := by
  refine ⟨a0.length + 1, ?_⟩
  unfold b
  have := Lib.loop_gen (fun m (s : Int × Nat) => l2 (a0.length + 1) (fun y4 y5 y6 y7 => kr y6) (fun y8 y9 y10 y11 => kr y9) m a0 s.1 0 s.2) (fun s => a0.length - s.2) (fun s => s.2 ≤ a0.length)
    (fun s => kr (v (a0.drop s.2) s.1)) (fun m s hi => by
    obtain ⟨k, i⟩ := s
    dsimp only at hi ⊢
    simp only [l2, r2, Lib.dlt, Lib.dle0, Lib.toN, Bool.true_and]
    by_cases h : i < a0.length
    · simp only [h, decide_true, cond_true, Lib.w64_s h f0.1]
      rw [Lib.drop_cons_of h]
      simp only [v, Lib.cellAt_of h]
      cases h1 : (cvI (a0[i].getD 0 (.b false)) != k) with
      | true => left; rfl
      | false =>
        cases h2 : (cvI (a0[i].getD 1 (.b false)) != w64 (k + 1)) with
        | true => left; rfl
        | false => right; exact ⟨(w64 (w64 (k + 1) + 1), i + 1), by dsimp only; omega, by dsimp only; omega, rfl, rfl⟩
    · left
      simp only [h, decide_false, cond_false]
      rw [List.drop_eq_nil_of_le (by omega)]; rfl) (a0.length + 1) (k1, 0) (by dsimp only; omega) (by dsimp only; omega)
  simpa using this
theorem marked : ∀ (r : Row) (k : Int), (∀ y ∈ r, y.length = 2) → v (Pu.laws_markReaderS.mk k r) k = Lib.up k (2 * r.length)
  | [], k, _ => rfl
  | y :: r, k, h => by
    have hy := h y (List.mem_cons_self ..)
    obtain ⟨a, b, rfl⟩ : ∃ a b, y = [a, b] := by
      match y, hy with
      | [a, b], _ => exact ⟨a, b, rfl⟩
    have e : 2 * (List.length ([a, b] :: r)) = 2 * r.length + 1 + 1 := by simp; omega
    rw [e]
    simp only [Pu.laws_markReaderS.mk, v, splice]
    simp only [Lib.up]
    rw [← marked r _ (fun z hz => h z (List.mem_cons_of_mem _ hz))]
    simp [cvI]
end Go.FG.Pu.laws_heldReaderS

namespace Go.FG.Pu.laws_heldStream
def b {R : Type} (kr : Int → Option R) (a0_0 : Int) (a0_1 : ByteArray) (a0_2 : Row) (k1 : Int) : Option R := bif (decide (Pu.laws_heldReaderS.v a0_2 k1 < 0)) then (kr (-1)) else (kr (Pu.laws_heldReaderS.v a0_2 k1))
def v (a0_0 : Int) (a0_1 : ByteArray) (a0_2 : Row) (k1 : Int) : Int := bif (decide (Pu.laws_heldReaderS.v a0_2 k1 < 0)) then (((-1))) else (((Pu.laws_heldReaderS.v a0_2 k1)))
theorem b_eq {R : Type} (kr : Int → Option R) (a0_0 : Int) (a0_1 : ByteArray) (a0_2 : Row) (k1 : Int) : b kr a0_0 a0_1 a0_2 k1 = kr (v a0_0 a0_1 a0_2 k1) := by
  first | rfl | (unfold b v; simp only [Bool.cond_eq_ite]; (repeat' split) <;> rfl)
theorem marked {a : Int} {t : ByteArray} {r : Row} (h : ∀ y ∈ r, y.length = 2) (hl : r.length ≤ 2000000) : v a t (Pu.laws_markReaderS.mk 1 r) 1 = 1 + 2 * r.length := by
  have e : Pu.laws_heldReaderS.v (Pu.laws_markReaderS.mk 1 r) 1 = 1 + 2 * r.length := by
    rw [Pu.laws_heldReaderS.marked r 1 h, Lib.up_eq _ _ (by omega) (by omega)]; omega
  unfold v
  rw [e, Lib.dec_f (by omega)]; rfl
theorem up1 {r : Row} (hl : r.length ≤ 2000000) : Lib.up 1 (2 * r.length) = 1 + 2 * r.length := by
  rw [Lib.up_eq _ _ (by omega) (by omega)]; omega
theorem to2 (r : Row) : ∀ y ∈ Pu.laws_toReaderS.v r, y.length = 2 := by
  intro y hy
  unfold Pu.laws_toReaderS.v at hy
  obtain ⟨z, _, rfl⟩ := List.mem_map.1 hy; rfl
theorem toLen (r : Row) : (Pu.laws_toReaderS.v r).length = r.length := by unfold Pu.laws_toReaderS.v; simp
end Go.FG.Pu.laws_heldStream

namespace Go.FG.Pu.laws_FnExactStreamLeave
def b {R : Type} (kr : Bool → Option R) (aS0_0 : Int) (aS0_1 : ByteArray) (aS0_2 : Row) (aId1 : Int) : Option R := bif (decide (Pu.laws_szStream.v aS0_0 aS0_1 aS0_2 1048576 < 0)) then (kr true) else (bif (Pu.laws_toStream.c aS0_0 aS0_1 aS0_2) then (bif (Pu.spec_StreamLeave.c aS0_0 aS0_1 (Pu.laws_toReaderS.v aS0_2) aId1) then (bif (Pu.laws_toStream.c aS0_0 aS0_1 aS0_2) then (bif (Pu.impl_StreamLeave.c aS0_0 aS0_1 (Pu.laws_toReaderS.v aS0_2) aId1) then (bif (!Pu.laws_eqStream.v aS0_0 aS0_1 (Pu.slices_DeleteFunc_Reader.v (Pu.laws_toReaderS.v aS0_2) aId1) aS0_0 aS0_1 (Pu.spec_StreamLeave.f aId1 (Pu.laws_toReaderS.v aS0_2))) then (kr false) else (bif (Pu.laws_toStream.c aS0_0 aS0_1 aS0_2) then (bif (!Pu.laws_eqStream.v aS0_0 aS0_1 (Pu.laws_toReaderS.v aS0_2) aS0_0 aS0_1 (Pu.laws_toReaderS.v aS0_2)) then (kr false) else (bif (decide (Lib.up 1 (2 * List.length (Pu.laws_toReaderS.v aS0_2)) < 0)) then (kr false) else (bif (!Pu.laws_eqStream.v aS0_0 aS0_1 (Pu.slices_DeleteFunc_Reader.v (Pu.laws_toReaderS.v aS0_2) aId1) aS0_0 aS0_1 (Pu.spec_StreamLeave.f aId1 (Pu.laws_toReaderS.v aS0_2))) then (kr false) else (bif (decide (Pu.laws_heldStream.v aS0_0 aS0_1 (Pu.laws_markReaderS.mk 1 (Pu.slices_DeleteFunc_Reader.v (Pu.laws_toReaderS.v aS0_2) aId1)) 1 < 0)) then (kr false) else (bif (Pu.laws_heldStream.v aS0_0 aS0_1 (Pu.laws_markReaderS.mk 1 (Pu.slices_DeleteFunc_Reader.v (Pu.laws_toReaderS.v aS0_2) aId1)) 1 != Lib.up 1 (2 * List.length (Pu.slices_DeleteFunc_Reader.v (Pu.laws_toReaderS.v aS0_2) aId1))) then (kr false) else (bif (Pu.laws_toStream.c aS0_0 aS0_1 aS0_2) then (bif (Pu.impl_StreamLeave.c aS0_0 aS0_1 (Pu.laws_toReaderS.v aS0_2) aId1) then (bif (!Pu.laws_eqStream.v aS0_0 aS0_1 (Pu.slices_DeleteFunc_Reader.v (Pu.laws_toReaderS.v aS0_2) aId1) aS0_0 aS0_1 (Pu.spec_StreamLeave.f aId1 (Pu.laws_toReaderS.v aS0_2))) then (kr false) else (bif (decide (Pu.laws_heldStream.v aS0_0 aS0_1 (Pu.laws_markReaderS.mk 1 (Pu.slices_DeleteFunc_Reader.v (Pu.laws_toReaderS.v aS0_2) aId1)) 1 < 0)) then (kr false) else (bif (Pu.laws_heldStream.v aS0_0 aS0_1 (Pu.laws_markReaderS.mk 1 (Pu.slices_DeleteFunc_Reader.v (Pu.laws_toReaderS.v aS0_2) aId1)) 1 != Lib.up 1 (2 * List.length (Pu.slices_DeleteFunc_Reader.v (Pu.laws_toReaderS.v aS0_2) aId1))) then (kr false) else (kr true)))) else (none)) else (none))))))) else (none))) else (none)) else (none)) else (none)) else (none))
def v (aS0_0 : Int) (aS0_1 : ByteArray) (aS0_2 : Row) (aId1 : Int) : Bool := true
theorem cnTo (r : Row) : ∀ y ∈ Pu.laws_toReaderS.v r, Pu.slices_DeleteFunc_Reader.cn y = true := by
  intro y hy
  unfold Pu.laws_toReaderS.v at hy
  obtain ⟨z, _, rfl⟩ := List.mem_map.1 hy; rfl
theorem same (r : Row) (i : Int) (h : ∀ y ∈ r, Pu.slices_DeleteFunc_Reader.cn y = true) : Pu.slices_DeleteFunc_Reader.v r i = Pu.spec_StreamLeave.f i r := by
  unfold Pu.slices_DeleteFunc_Reader.v Pu.spec_StreamLeave.f
  have : ∀ l : Row, (∀ y ∈ l, Pu.slices_DeleteFunc_Reader.cn y = true) → l.map Pu.slices_DeleteFunc_Reader.cr = l := by
    intro l
    induction l with
    | nil => intro _; rfl
    | cons a l ih =>
      intro h
      rw [List.map_cons, ih (fun y hy => h y (List.mem_cons_of_mem _ hy)), Pu.slices_DeleteFunc_Reader.cr_of (h a (List.mem_cons_self))]
  rw [this _ (fun y hy => h y (List.mem_filter.1 hy).1)]
theorem f2 (r : Row) (i : Int) : ∀ y ∈ Pu.spec_StreamLeave.f i r, y.length = 2 := by
  intro y hy
  unfold Pu.spec_StreamLeave.f at hy
  obtain ⟨z, _, rfl⟩ := List.mem_map.1 hy; rfl
theorem b_eq {R : Type} (kr : Bool → Option R) (aS0_0 : Int) (aS0_1 : ByteArray) (aS0_2 : Row) (aId1 : Int) (f0 : okS aS0_1) (f1 : FitR aS0_2) : b kr aS0_0 aS0_1 aS0_2 aId1 = kr (v aS0_0 aS0_1 aS0_2 aId1) := by
  unfold b v
  cases h : decide (Pu.laws_szStream.v aS0_0 aS0_1 aS0_2 1048576 < 0) with
  | true => rfl
  | false =>
    have hs := Pu.laws_szStream.fits (by omega) (by omega) f0 f1 h
    have hc : Pu.laws_toStream.c aS0_0 aS0_1 aS0_2 = true := decide_eq_true hs.2
    have hl := Pu.laws_heldStream.toLen aS0_2
    have hcn := cnTo aS0_2
    have hfl := Pu.spec_StreamLeave.f_len aId1 (Pu.laws_toReaderS.v aS0_2)
    have hc1 : Pu.spec_StreamLeave.c aS0_0 aS0_1 (Pu.laws_toReaderS.v aS0_2) aId1 = true := decide_eq_true (by omega)
    have hc2 : Pu.impl_StreamLeave.c aS0_0 aS0_1 (Pu.laws_toReaderS.v aS0_2) aId1 = true := by
      unfold Pu.impl_StreamLeave.c
      rw [show Pu.impl_copyStream.c aS0_0 aS0_1 (Pu.laws_toReaderS.v aS0_2) = true from decide_eq_true (by omega), show Pu.slices_DeleteFunc_Reader.c (Pu.laws_toReaderS.v aS0_2) aId1 = true from List.all_eq_true.2 hcn]; rfl
    have e : Pu.impl_StreamLeave.v aS0_0 aS0_1 (Pu.laws_toReaderS.v aS0_2) aId1 = Pu.spec_StreamLeave.v aS0_0 aS0_1 (Pu.laws_toReaderS.v aS0_2) aId1 := by
      unfold Pu.impl_StreamLeave.v Pu.spec_StreamLeave.v
      rw [same _ _ hcn]
    have e1 : Pu.slices_DeleteFunc_Reader.v (Pu.laws_toReaderS.v aS0_2) aId1 = Pu.spec_StreamLeave.f aId1 (Pu.laws_toReaderS.v aS0_2) := same _ _ hcn
    have hm := fun a t => Pu.laws_heldStream.marked (a := a) (t := t) (f2 (Pu.laws_toReaderS.v aS0_2) aId1) (by omega)
    have hm2 := fun a t => Pu.laws_heldStream.marked (a := a) (t := t) (Pu.laws_heldStream.to2 aS0_2) (by omega)
    have hu := Pu.laws_heldStream.up1 (r := Pu.spec_StreamLeave.f aId1 (Pu.laws_toReaderS.v aS0_2)) (by omega)
    have hu2 := Pu.laws_heldStream.up1 (r := Pu.laws_toReaderS.v aS0_2) (by omega)
    have hn : decide (1 + 2 * ((Pu.spec_StreamLeave.f aId1 (Pu.laws_toReaderS.v aS0_2)).length : Int) < 0) = false := decide_eq_false (by omega)
    have hn2 : decide (1 + 2 * ((Pu.laws_toReaderS.v aS0_2).length : Int) < 0) = false := decide_eq_false (by omega)
    have ev : Pu.spec_StreamLeave.v aS0_0 aS0_1 (Pu.laws_toReaderS.v aS0_2) aId1 = (aS0_0, aS0_1, Pu.spec_StreamLeave.f aId1 (Pu.laws_toReaderS.v aS0_2)) := rfl
    simp only [hc, hc1, hc2, e, e1, ev, hm, hm2, hu, hu2, hn, hn2, bne_self_eq_false, cond_true, cond_false, Pu.laws_eqStream.refl, Lib.beq_self, decide_true, Bool.not_true]
theorem law (a : Int) (t : ByteArray) (l : Row) (i : Int) {A B C D : Prop} (_ : A) (_ : B) (_ : C) (_ : D) : v a t l i = true := rfl
end Go.FG.Pu.laws_FnExactStreamLeave

