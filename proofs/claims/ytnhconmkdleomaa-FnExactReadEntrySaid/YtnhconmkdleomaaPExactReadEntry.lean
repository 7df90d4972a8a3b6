/- Functions of the program, told as functions of numbers, texts and lists, and what each comes to. No condition but those that each states. -/
import Derived.Test.YtnhconmkdleomaaLib
set_option linter.unusedVariables false
set_option linter.unusedSimpArgs false
set_option maxRecDepth 100000
namespace Go.FG.Pu.spec_l01In
def b {R : Type} (kr : Bool → Option R) (x0 : Int) (least1 : Int) (most2 : Int) : Option R := bif (decide (x0 ≥ least1)) then (kr (decide (x0 ≤ most2))) else (kr false)
def v (x0 : Int) (least1 : Int) (most2 : Int) : Bool := bif (decide (x0 ≥ least1)) then (((decide (x0 ≤ most2)))) else ((false))
theorem b_eq {R : Type} (kr : Bool → Option R) (x0 : Int) (least1 : Int) (most2 : Int) : b kr x0 least1 most2 = kr (v x0 least1 most2) := by
  first | rfl | (unfold b v; simp only [Bool.cond_eq_ite]; (repeat' split) <;> rfl)
end Go.FG.Pu.spec_l01In

namespace Go.FG.Pu.spec_l01Var
def r2 {R : Type} (N : Nat) (g : Int → Row → Option R) (k0 : Int → Row → Option R) (x0 : Int) (x1 : Row) : Option R := bif (decide (x0 > 127)) then (bif (roomy (List.length x1 + List.length (List.set (zeros [Ck.i IntKind.u8] 1) 0 [CV.i IntKind.u8 (IntKind.wrap IntKind.u8 (w64 (Int.tmod x0 128 + 128)))])) 1) then (g (w64 (Int.tdiv x0 128)) (x1 ++ List.set (zeros [Ck.i IntKind.u8] 1) 0 [CV.i IntKind.u8 (IntKind.wrap IntKind.u8 (w64 (Int.tmod x0 128 + 128)))])) else (none)) else (k0 x0 x1)
def l2 {R : Type} (N : Nat) (k0 : Int → Row → Option R) : Nat → Int → Row → Option R
  | 0 => (fun _ _ => none)
  | n + 1 => (fun x0 x1 => r2 N (l2 N k0 n) k0 x0 x1)
def b {R : Type} (N : Nat) (kr : ByteArray → Option R) (n0 : Int) : Option R := l2 N (fun y2 y3 => bif (roomy (List.length y3 + List.length (List.set (zeros [Ck.i IntKind.u8] 1) 0 [CV.i IntKind.u8 (IntKind.wrap IntKind.u8 y2)])) 1) then (bif (decide (List.length (y3 ++ List.set (zeros [Ck.i IntKind.u8] 1) 0 [CV.i IntKind.u8 (IntKind.wrap IntKind.u8 y2)]) ≤ 4611686018427387904)) then (kr (bytesOf (y3 ++ List.set (zeros [Ck.i IntKind.u8] 1) 0 [CV.i IntKind.u8 (IntKind.wrap IntKind.u8 y2)]))) else (none)) else (none)) N n0 (zeros [Ck.i IntKind.u8] 0)
def v (n0 : Int) : ByteArray := bytesOf (Lib.vb n0)
def c (n0 : Int) : Bool := decide (n0 ≤ 9223372036854775807)
theorem b_eq {R : Type} (kr : ByteArray → Option R) (n0 : Int) (hc : c n0 = true) : ∃ N, b N kr n0 = kr (v n0) := by
  refine ⟨n0.toNat + 1, ?_⟩
  refine Lib.var_run (fun n x acc => l2 (n0.toNat + 1) _ n x acc) kr (fun n x acc h hl => ?_) (fun n x acc h hl => ?_) n0 (of_decide_eq_true hc)
  · simp only [l2, r2, h, decide_true, cond_true, Lib.len_set1, show List.length acc + List.length [[CV.i IntKind.u8 (IntKind.wrap IntKind.u8 (w64 (Int.tmod x 128 + 128)))]] = acc.length + 1 from rfl, Lib.roomy1 (show acc.length + 1 ≤ 140737488355328 by omega), show decide ((128 : Int) = 0) = false from rfl, Bool.and_false, Bool.not_false]
  · simp only [l2, r2, h, decide_false, cond_false, Lib.len_set1, show List.length acc + List.length [[CV.i IntKind.u8 (IntKind.wrap IntKind.u8 x)]] = acc.length + 1 from rfl, Lib.roomy1 (show acc.length + 1 ≤ 140737488355328 by omega), cond_true]
    exact Lib.bif_t (Lib.dec_t (by rw [List.length_append, List.length_singleton]; omega))
end Go.FG.Pu.spec_l01Var

namespace Go.FG.Pu.spec_ReadVar
def r6 {R : Type} (N : Nat) (g : ByteArray → Int → Int → Int → Bool → Int → Int → Int → Option R) (k0 : ByteArray → Int → Int → Int → Bool → Int → Int → Int → Option R) (k1 : ByteArray → Int → Int → Int → Bool → Int → Int → Int → Option R) (x0 : ByteArray) (x1 : Int) (x2 : Int) (x3 : Int) (x4 : Bool) (x5 : Int) (x6 : Int) (x7 : Int) : Option R := bif (decide (x7 < (↑(ByteArray.size x0) : Int))) then (bif (decide (x7 < w64 (x1 + 5))) then (bif (decide (0 ≤ x7) && decide (x7 < (↑(ByteArray.size x0) : Int))) then (bif (decide (0 ≤ x7) && decide (x7 < (↑(ByteArray.size x0) : Int))) then (bif (decide ((↑(btN x0 (Int.toNat x7)) : Int) < 128)) then (bif (decide (w64 (x5 + w64 (Int.tmod (w64 (↑(btN x0 (Int.toNat x7)) : Int)) 128 * x6)) > 1000000000)) then (k0 x0 x1 0 0 false (w64 (x5 + w64 (Int.tmod (w64 (↑(btN x0 (Int.toNat x7)) : Int)) 128 * x6))) (w64 (x6 * 128)) x7) else (bif (Pu.spec_l01Var.c (w64 (x5 + w64 (Int.tmod (w64 (↑(btN x0 (Int.toNat x7)) : Int)) 128 * x6)))) then (bif (inB x1 (w64 (x7 + 1)) (↑(ByteArray.size x0) : Int)) then (bif (!List.beq (ByteArray.toList (Pu.spec_l01Var.v (w64 (x5 + w64 (Int.tmod (w64 (↑(btN x0 (Int.toNat x7)) : Int)) 128 * x6))))) (ByteArray.toList (ByteArray.extract x0 (Int.toNat x1) (Int.toNat (w64 (x7 + 1)))))) then (k0 x0 x1 0 0 false (w64 (x5 + w64 (Int.tmod (w64 (↑(btN x0 (Int.toNat x7)) : Int)) 128 * x6))) (w64 (x6 * 128)) x7) else (k0 x0 x1 (w64 (x5 + w64 (Int.tmod (w64 (↑(btN x0 (Int.toNat x7)) : Int)) 128 * x6))) (w64 (x7 + 1)) true (w64 (x5 + w64 (Int.tmod (w64 (↑(btN x0 (Int.toNat x7)) : Int)) 128 * x6))) (w64 (x6 * 128)) x7)) else (none)) else (none))) else (g x0 x1 x2 x3 x4 (w64 (x5 + w64 (Int.tmod (w64 (↑(btN x0 (Int.toNat x7)) : Int)) 128 * x6))) (w64 (x6 * 128)) (w64 (x7 + 1)))) else (none)) else (none)) else (k1 x0 x1 x2 x3 x4 x5 x6 x7)) else (k1 x0 x1 x2 x3 x4 x5 x6 x7)
def l6 {R : Type} (N : Nat) (k0 : ByteArray → Int → Int → Int → Bool → Int → Int → Int → Option R) (k1 : ByteArray → Int → Int → Int → Bool → Int → Int → Int → Option R) : Nat → ByteArray → Int → Int → Int → Bool → Int → Int → Int → Option R
  | 0 => (fun _ _ _ _ _ _ _ _ => none)
  | n + 1 => (fun x0 x1 x2 x3 x4 x5 x6 x7 => r6 N (l6 N k0 k1 n) k0 k1 x0 x1 x2 x3 x4 x5 x6 x7)
def b {R : Type} (N : Nat) (kr : Int → Int → Bool → Option R) (text0 : ByteArray) (at1 : Int) : Option R := bif (!Pu.spec_l01In.v at1 0 (↑(ByteArray.size text0) : Int)) then (kr 0 0 false) else (l6 N (fun y8 y9 y10 y11 y12 y13 y14 y15 => kr y10 y11 y12) (fun y16 y17 y18 y19 y20 y21 y22 y23 => kr 0 0 false) N text0 at1 0 0 false 0 1 at1)
def v (text0 : ByteArray) (at1 : Int) : Int × Int × Bool := if 0 ≤ at1 ∧ at1 ≤ text0.size then Lib.rv text0 at1.toNat 5 0 0 else (0, 0, false)
theorem b_eq {R : Type} (kr : Int → Int → Bool → Option R) (text0 : ByteArray) (at1 : Int) (f0 : okS text0) : ∃ N, b N kr text0 at1 = kr (v text0 at1).1 (v text0 at1).2.1 (v text0 at1).2.2 := by
  refine ⟨6, ?_⟩
  unfold b v
  by_cases hn : 0 ≤ at1 ∧ at1 ≤ text0.size
  · have e : Pu.spec_l01In.v at1 0 (text0.size : Int) = true := by simp [Pu.spec_l01In.v, hn]
    obtain ⟨a, rfl⟩ : ∃ a : Nat, at1 = (a : Int) := ⟨at1.toNat, by omega⟩
    have ha : a ≤ text0.size := by omega
    rw [e, if_pos hn, Lib.toN]
    have hs : text0.size ≤ 4611686018427387904 := f0
    simp only [Bool.not_true, cond_false]
    have := Lib.loop_gen (fun m (s : Nat × Int) => l6 6 (fun y8 y9 y10 y11 y12 y13 y14 y15 => kr y10 y11 y12) (fun y16 y17 y18 y19 y20 y21 y22 y23 => kr 0 0 false) m text0 a 0 0 false s.2 (128 ^ s.1) ((a + s.1 : Nat) : Int)) (fun s => 5 - s.1) (fun s => s.1 ≤ 5 ∧ s.2 = Lib.num text0 a s.1 ∧ ∀ i, i < s.1 → 128 ≤ btN text0 (a + i))
      (fun s => kr (Lib.rv text0 a (5 - s.1) s.1 s.2).1 (Lib.rv text0 a (5 - s.1) s.1 s.2).2.1 (Lib.rv text0 a (5 - s.1) s.1 s.2).2.2) (fun m s hs5 => by
      obtain ⟨j, n⟩ := s
      obtain ⟨hj, hnum, hge⟩ := hs5
      dsimp only at hj hnum hge ⊢
      have hb := Lib.btN_lt text0 (a + j)
      have e5 : w64 ((a : Int) + 5) = ((a + 5 : Nat) : Int) := by rw [w64_eq (by omega) (by omega)]; omega
      by_cases hin : a + j < text0.size
      · by_cases hj5 : j < 5
        · have eb : w64 (btN text0 (a + j) : Int) = (btN text0 (a + j) : Int) := w64_eq (by omega) (by omega)
          have em : Int.tmod (btN text0 (a + j) : Int) 128 = (btN text0 (a + j) : Int) % 128 := Int.tmod_eq_emod_of_nonneg (by omega)
          have hp : (128 : Int) ^ j ≤ 268435456 ∧ (1 : Int) ≤ 128 ^ j ∧ (128 : Int) ^ (j + 1) = 128 ^ j * 128 := by
            obtain rfl | rfl | rfl | rfl | rfl : j = 0 ∨ j = 1 ∨ j = 2 ∨ j = 3 ∨ j = 4 := by omega
            all_goals decide
          have hrg := Lib.num_rng text0 j a
          rw [← hnum] at hrg
          have hm0 : 0 ≤ (btN text0 (a + j) : Int) % 128 ∧ (btN text0 (a + j) : Int) % 128 ≤ 127 := by omega
          have hq : 0 ≤ (btN text0 (a + j) : Int) % 128 * 128 ^ j ∧ (btN text0 (a + j) : Int) % 128 * 128 ^ j ≤ 127 * 128 ^ j :=
            ⟨Int.mul_nonneg hm0.1 (by omega), Int.mul_le_mul_of_nonneg_right hm0.2 (by omega)⟩
          have eq1 : w64 ((btN text0 (a + j) : Int) % 128 * 128 ^ j) = (btN text0 (a + j) : Int) % 128 * 128 ^ j := w64_eq (by omega) (by omega)
          have eq2 : w64 (n + (btN text0 (a + j) : Int) % 128 * 128 ^ j) = n + (btN text0 (a + j) : Int) % 128 * 128 ^ j := w64_eq (by omega) (by omega)
          have eq3 : w64 ((128 : Int) ^ j * 128) = 128 ^ (j + 1) := by rw [hp.2.2]; exact w64_eq (by omega) (by omega)
          have ef : 5 - j = (5 - (j + 1)) + 1 := by omega
          have hsn : n + (btN text0 (a + j) : Int) % 128 * 128 ^ j = Lib.num text0 a (j + 1) := by rw [Lib.num_snoc, ← hnum]
          have en : w64 (((a + j : Nat) : Int) + 1) = ((a + (j + 1) : Nat) : Int) := Lib.w64_s hin (by omega)
          have c2 : decide (((a + j : Nat) : Int) < ((a + 5 : Nat) : Int)) = true := Lib.dlt_t (by omega)
          have hrv : Lib.rv text0 a (5 - j) j n = (if (btN text0 (a + j) : Int) > 127 then Lib.rv text0 a (5 - (j + 1)) (j + 1) (n + (btN text0 (a + j) : Int) % 128 * 128 ^ j)
              else if (j > 0 ∧ btN text0 (a + j) = 0) ∨ n + (btN text0 (a + j) : Int) % 128 * 128 ^ j > 1000000000 then (0, 0, false)
              else (n + (btN text0 (a + j) : Int) % 128 * 128 ^ j, ((a + j + 1 : Nat) : Int), true)) := by
            rw [ef]; simp only [Lib.rv]; rw [if_pos hin]
          simp only [l6, r6, Lib.dlt_t hin, e5, c2, Lib.dle0, Lib.toN, eb, em, eq1, eq2, eq3, en, cond_true, Bool.and_self]
          by_cases hc : (btN text0 (a + j) : Int) < 128
          · left
            rw [decide_eq_true hc, cond_true, hrv, if_neg (by omega)]
            by_cases hbig : n + (btN text0 (a + j) : Int) % 128 * 128 ^ j > 1000000000
            · rw [decide_eq_true hbig, if_pos (.inr hbig)]; rfl
            · have ec : Pu.spec_l01Var.c (n + (btN text0 (a + j) : Int) % 128 * 128 ^ j) = true := decide_eq_true (by omega)
              have ein : inB (a : Int) ((a + (j + 1) : Nat) : Int) (text0.size : Int) = true := by simp [inB]; omega
              rw [decide_eq_false hbig, cond_false, ec, cond_true, ein, cond_true, hsn]
              have hcan := Lib.canon text0 j a (by omega) hge (by omega) (by rw [← hsn]; omega)
              unfold Pu.spec_l01Var.v
              rw [hcan]
              by_cases hz : j > 0 ∧ btN text0 (a + j) = 0
              · rw [decide_eq_true hz, if_pos (.inl hz)]; rfl
              · rw [decide_eq_false hz, if_neg (by rw [hsn] at hbig; omega)]; rfl
          · right
            rw [decide_eq_false hc]
            refine ⟨(j + 1, n + (btN text0 (a + j) : Int) % 128 * 128 ^ j), ⟨by dsimp only; omega, hsn, fun i hi => ?_⟩, by dsimp only; omega, by dsimp only; rw [hrv, if_pos (by omega)], rfl⟩
            by_cases hij : i < j
            · exact hge i hij
            · have : i = j := by dsimp only at hi; omega
              subst this; omega
        · left
          have hj' : j = 5 := by omega
          subst hj'
          simp only [l6, r6, Lib.dlt_t hin, e5, Lib.dlt_f (Nat.lt_irrefl (a + 5)), cond_true, cond_false]
          rfl
      · left
        have hrv : Lib.rv text0 a (5 - j) j n = (0, 0, false) := by
          by_cases hj5 : j < 5
          · have ef : 5 - j = (5 - (j + 1)) + 1 := by omega
            rw [ef]; simp only [Lib.rv]; rw [if_neg hin]
          · rw [show 5 - j = 0 by omega]; rfl
        simp only [l6, r6, Lib.dlt_f hin, cond_false, hrv]) 6 (0, 0) ⟨by dsimp only; omega, rfl, fun i hi => by dsimp only at hi; omega⟩ (by dsimp only; omega)
    exact this
  · have e : Pu.spec_l01In.v at1 0 (text0.size : Int) = false := by
      simp [Pu.spec_l01In.v]; omega
    rw [e, if_neg hn]; rfl
end Go.FG.Pu.spec_ReadVar

namespace Go.FG.Pu.spec_ReadShort
def b {R : Type} (kr : ByteArray → Int → Bool → Option R) (text0 : ByteArray) (at1 : Int) : Option R := bif (!(Pu.spec_ReadVar.v text0 at1).2.2) then (kr ({ data := #[] }) 0 false) else (bif (decide ((Pu.spec_ReadVar.v text0 at1).1 > 20000)) then (kr ({ data := #[] }) 0 false) else (bif (decide ((Pu.spec_ReadVar.v text0 at1).1 > w64 ((↑(ByteArray.size text0) : Int) - (Pu.spec_ReadVar.v text0 at1).2.1))) then (kr ({ data := #[] }) 0 false) else (bif (inB (Pu.spec_ReadVar.v text0 at1).2.1 (w64 ((Pu.spec_ReadVar.v text0 at1).2.1 + (Pu.spec_ReadVar.v text0 at1).1)) (↑(ByteArray.size text0) : Int)) then (kr (ByteArray.extract text0 (Int.toNat (Pu.spec_ReadVar.v text0 at1).2.1) (Int.toNat (w64 ((Pu.spec_ReadVar.v text0 at1).2.1 + (Pu.spec_ReadVar.v text0 at1).1)))) (w64 ((Pu.spec_ReadVar.v text0 at1).2.1 + (Pu.spec_ReadVar.v text0 at1).1)) true) else (none))))
def v (text0 : ByteArray) (at1 : Int) : ByteArray × Int × Bool := Lib.readShort text0 at1
theorem b_eq {R : Type} (kr : ByteArray → Int → Bool → Option R) (text0 : ByteArray) (at1 : Int) (f0 : okS text0) : b kr text0 at1 = kr (v text0 at1).1 (v text0 at1).2.1 (v text0 at1).2.2 := Lib.readShort_run f0 at1 kr
end Go.FG.Pu.spec_ReadShort

namespace Go.FG.Pu.spec_l13Key
def b {R : Type} (kr : Bool → Option R) (s0 : ByteArray) : Option R := kr (Pu.spec_l01In.v (↑(ByteArray.size s0) : Int) 1 30)
def v (s0 : ByteArray) : Bool := ((Pu.spec_l01In.v (↑(ByteArray.size s0) : Int) 1 30))
theorem b_eq {R : Type} (kr : Bool → Option R) (s0 : ByteArray) : b kr s0 = kr (v s0) := by
  first | rfl | (unfold b v; simp only [Bool.cond_eq_ite]; (repeat' split) <;> rfl)
end Go.FG.Pu.spec_l13Key

namespace Go.FG.Pu.spec_EntryOk
def b {R : Type} (kr : Bool → Option R) (e0_0 : ByteArray) (e0_1 : Int) (e0_2 : Int) (e0_3 : ByteArray) : Option R := bif (Pu.spec_l13Key.v e0_0) then (bif (Pu.spec_l01In.v e0_1 0 1000000000) then (bif (Pu.spec_l01In.v e0_2 1 999999) then (kr (decide ((↑(ByteArray.size e0_3) : Int) ≤ 400))) else (kr false)) else (kr false)) else (kr false)
def v (e0_0 : ByteArray) (e0_1 : Int) (e0_2 : Int) (e0_3 : ByteArray) : Bool := bif (Pu.spec_l13Key.v e0_0) then (bif (Pu.spec_l01In.v e0_1 0 1000000000) then (bif (Pu.spec_l01In.v e0_2 1 999999) then (((decide ((↑(ByteArray.size e0_3) : Int) ≤ 400)))) else ((false))) else ((false))) else ((false))
theorem b_eq {R : Type} (kr : Bool → Option R) (e0_0 : ByteArray) (e0_1 : Int) (e0_2 : Int) (e0_3 : ByteArray) : b kr e0_0 e0_1 e0_2 e0_3 = kr (v e0_0 e0_1 e0_2 e0_3) := by
  first | rfl | (unfold b v; simp only [Bool.cond_eq_ite]; (repeat' split) <;> rfl)
theorem rng {k : ByteArray} {s l : Int} {b : ByteArray} (h : v k s l b = true) : (1 ≤ k.size ∧ k.size ≤ 30) ∧ (0 ≤ s ∧ s ≤ 1000000000) ∧ (1 ≤ l ∧ l ≤ 999999) ∧ b.size ≤ 400 := by
  unfold v at h
  cases h1 : Pu.spec_l13Key.v k <;> rw [h1] at h <;> simp only [cond_true, cond_false, Bool.false_eq_true] at h
  cases h2 : Pu.spec_l01In.v s 0 1000000000 <;> rw [h2] at h <;> simp only [cond_true, cond_false, Bool.false_eq_true] at h
  cases h3 : Pu.spec_l01In.v l 1 999999 <;> rw [h3] at h <;> simp only [cond_true, cond_false, Bool.false_eq_true] at h
  simp [Pu.spec_l13Key.v, Pu.spec_l01In.v] at h1 h2 h3
  have := of_decide_eq_true h
  omega
end Go.FG.Pu.spec_EntryOk

namespace Go.FG.Pu.spec_EntryText
def b {R : Type} (kr : ByteArray → Bool → Option R) (e0_0 : ByteArray) (e0_1 : Int) (e0_2 : Int) (e0_3 : ByteArray) : Option R := bif (!Pu.spec_EntryOk.v e0_0 e0_1 e0_2 e0_3) then (kr ({ data := #[] }) false) else (bif (Pu.spec_l01Var.c (↑(ByteArray.size e0_0) : Int)) then (bif (decide (ByteArray.size (Pu.spec_l01Var.v (↑(ByteArray.size e0_0) : Int)) + ByteArray.size e0_0 ≤ 4611686018427387904)) then (bif (Pu.spec_l01Var.c e0_1) then (bif (decide (ByteArray.size (Pu.spec_l01Var.v (↑(ByteArray.size e0_0) : Int) ++ e0_0) + ByteArray.size (Pu.spec_l01Var.v e0_1) ≤ 4611686018427387904)) then (bif (Pu.spec_l01Var.c e0_2) then (bif (decide (ByteArray.size (Pu.spec_l01Var.v (↑(ByteArray.size e0_0) : Int) ++ e0_0 ++ Pu.spec_l01Var.v e0_1) + ByteArray.size (Pu.spec_l01Var.v e0_2) ≤ 4611686018427387904)) then (bif (decide (ByteArray.size (Pu.spec_l01Var.v (↑(ByteArray.size e0_0) : Int) ++ e0_0 ++ Pu.spec_l01Var.v e0_1 ++ Pu.spec_l01Var.v e0_2) + ByteArray.size e0_3 ≤ 4611686018427387904)) then (kr (Pu.spec_l01Var.v (↑(ByteArray.size e0_0) : Int) ++ e0_0 ++ Pu.spec_l01Var.v e0_1 ++ Pu.spec_l01Var.v e0_2 ++ e0_3) true) else (none)) else (none)) else (none)) else (none)) else (none)) else (none)) else (none))
def txt (k : ByteArray) (s l : Int) (b : ByteArray) : ByteArray := bytesOf (Lib.vb k.size) ++ k ++ bytesOf (Lib.vb s) ++ bytesOf (Lib.vb l) ++ b
def v (e0_0 : ByteArray) (e0_1 : Int) (e0_2 : Int) (e0_3 : ByteArray) : ByteArray × Bool := if Pu.spec_EntryOk.v e0_0 e0_1 e0_2 e0_3 = true then (txt e0_0 e0_1 e0_2 e0_3, true) else (⟨#[]⟩, false)
theorem b_eq {R : Type} (kr : ByteArray → Bool → Option R) (e0_0 : ByteArray) (e0_1 : Int) (e0_2 : Int) (e0_3 : ByteArray) : b kr e0_0 e0_1 e0_2 e0_3 = kr (v e0_0 e0_1 e0_2 e0_3).1 (v e0_0 e0_1 e0_2 e0_3).2 := by
  unfold b v
  cases h : Pu.spec_EntryOk.v e0_0 e0_1 e0_2 e0_3 with
  | false => rfl
  | true =>
    have hr := Pu.spec_EntryOk.rng h
    have cc : ∀ x : Int, x ≤ 9223372036854775807 → Pu.spec_l01Var.c x = true := fun x hx => decide_eq_true hx
    have z1 : (Pu.spec_l01Var.v (e0_0.size : Int)).size ≤ 64 := Lib.var_size (x := (e0_0.size : Int)) (by omega)
    have z2 : (Pu.spec_l01Var.v e0_1).size ≤ 64 := Lib.var_size (x := e0_1) (by omega)
    have z3 : (Pu.spec_l01Var.v e0_2).size ≤ 64 := Lib.var_size (x := e0_2) (by omega)
    simp (disch := omega) only [Bool.not_true, cond_false, cc _ (show (e0_0.size : Int) ≤ 9223372036854775807 by omega), cc e0_1 (by omega), cc e0_2 (by omega), cond_true, if_true, Lib.size_app, Lib.dnat]
    rfl
end Go.FG.Pu.spec_EntryText

namespace Go.FG.Pu.spec_ReadEntry
def b {R : Type} (kr : ByteArray → Int → Int → ByteArray → Bool → Option R) (t0 : ByteArray) : Option R := bif (!(Pu.spec_ReadShort.v t0 0).2.2) then (kr ({ data := #[] }) 0 0 ({ data := #[] }) false) else (bif (!(Pu.spec_ReadVar.v t0 (Pu.spec_ReadShort.v t0 0).2.1).2.2) then (kr ({ data := #[] }) 0 0 ({ data := #[] }) false) else (bif (!(Pu.spec_ReadVar.v t0 (Pu.spec_ReadVar.v t0 (Pu.spec_ReadShort.v t0 0).2.1).2.1).2.2) then (kr ({ data := #[] }) 0 0 ({ data := #[] }) false) else (bif (inB (Pu.spec_ReadVar.v t0 (Pu.spec_ReadVar.v t0 (Pu.spec_ReadShort.v t0 0).2.1).2.1).2.1 (↑(ByteArray.size t0) : Int) (↑(ByteArray.size t0) : Int)) then (bif (!(Pu.spec_EntryText.v (Pu.spec_ReadShort.v t0 0).1 (Pu.spec_ReadVar.v t0 (Pu.spec_ReadShort.v t0 0).2.1).1 (Pu.spec_ReadVar.v t0 (Pu.spec_ReadVar.v t0 (Pu.spec_ReadShort.v t0 0).2.1).2.1).1 (ByteArray.extract t0 (Int.toNat (Pu.spec_ReadVar.v t0 (Pu.spec_ReadVar.v t0 (Pu.spec_ReadShort.v t0 0).2.1).2.1).2.1) (Int.toNat (↑(ByteArray.size t0) : Int)))).2) then (kr ({ data := #[] }) 0 0 ({ data := #[] }) false) else (bif (!List.beq (ByteArray.toList (Pu.spec_EntryText.v (Pu.spec_ReadShort.v t0 0).1 (Pu.spec_ReadVar.v t0 (Pu.spec_ReadShort.v t0 0).2.1).1 (Pu.spec_ReadVar.v t0 (Pu.spec_ReadVar.v t0 (Pu.spec_ReadShort.v t0 0).2.1).2.1).1 (ByteArray.extract t0 (Int.toNat (Pu.spec_ReadVar.v t0 (Pu.spec_ReadVar.v t0 (Pu.spec_ReadShort.v t0 0).2.1).2.1).2.1) (Int.toNat (↑(ByteArray.size t0) : Int)))).1) (ByteArray.toList t0)) then (kr ({ data := #[] }) 0 0 ({ data := #[] }) false) else (kr ((Pu.spec_ReadShort.v t0 0).1) ((Pu.spec_ReadVar.v t0 (Pu.spec_ReadShort.v t0 0).2.1).1) ((Pu.spec_ReadVar.v t0 (Pu.spec_ReadVar.v t0 (Pu.spec_ReadShort.v t0 0).2.1).2.1).1) (ByteArray.extract t0 (Int.toNat (Pu.spec_ReadVar.v t0 (Pu.spec_ReadVar.v t0 (Pu.spec_ReadShort.v t0 0).2.1).2.1).2.1) (Int.toNat (↑(ByteArray.size t0) : Int))) true))) else (none))))
def no : ByteArray × Int × Int × ByteArray × Bool := (⟨#[]⟩, 0, 0, ⟨#[]⟩, false)
def v (t0 : ByteArray) : ByteArray × Int × Int × ByteArray × Bool :=
  match Lib.readShort t0 0 with
  | (k, a, true) => (match Lib.readVar t0 a with
    | (s, x, true) => (match Lib.readVar t0 x with
      | (l, y, true) => if Pu.spec_EntryOk.v k s l (t0.extract y.toNat t0.size) = true then (k, s, l, t0.extract y.toNat t0.size, true) else no
      | _ => no)
    | _ => no)
  | _ => no
theorem b_eq {R : Type} (kr : ByteArray → Int → Int → ByteArray → Bool → Option R) (t0 : ByteArray) (f0 : okS t0) : b kr t0 = kr (v t0).1 (v t0).2.1 (v t0).2.2.1 (v t0).2.2.2.1 (v t0).2.2.2.2 := by
  have e1 : Pu.spec_ReadShort.v = Lib.readShort := rfl
  have e2 : Pu.spec_ReadVar.v = Lib.readVar := rfl
  unfold b v
  simp only [e1, e2, Lib.toN]
  cases h1 : Lib.readShort t0 0 with
  | mk k r1 =>
    obtain ⟨a, ok1⟩ := r1
    cases ok1 with
    | false => rfl
    | true =>
      dsimp only
      cases h2 : Lib.readVar t0 a with
      | mk s r2 =>
        obtain ⟨x, ok2⟩ := r2
        cases ok2 with
        | false => rfl
        | true =>
          dsimp only
          cases h3 : Lib.readVar t0 x with
          | mk l r3 =>
            obtain ⟨y, ok3⟩ := r3
            cases ok3 with
            | false => rfl
            | true =>
              obtain ⟨p1, p2, p3, p4, p5⟩ := Lib.readShort_ok h1
              obtain ⟨q1, q2, q3, q4, q5, q6⟩ := Lib.readVar_ok h2
              obtain ⟨r1, r2, r3, r4, r5, r6⟩ := Lib.readVar_ok h3
              dsimp only
              simp only [Bool.not_true, cond_false]
              rw [Lib.bif_t (show inB y (t0.size : Int) (t0.size : Int) = true by simp [inB]; omega)]
              unfold Pu.spec_EntryText.v
              cases hE : Pu.spec_EntryOk.v k s l (t0.extract y.toNat t0.size) with
              | false => rfl
              | true =>
                have ht : Pu.spec_EntryText.txt k s l (t0.extract y.toNat t0.size) = t0 := by
                  unfold Pu.spec_EntryText.txt
                  rw [p5, q6, Lib.ext_app t0 (by omega) (by omega), r6, Lib.ext_app t0 (by omega) (by omega), Lib.ext_app t0 (by omega) (by omega)]
                  exact Lib.ext_all t0
                simp only [if_true, Bool.not_true, cond_false, ht, Lib.beq_self]
end Go.FG.Pu.spec_ReadEntry

namespace Go.FG.Pu.impl_within
def b {R : Type} (kr : Bool → Option R) (n0 : Int) (low1 : Int) (high2 : Int) : Option R := bif (decide (n0 ≥ low1)) then (kr (decide (n0 ≤ high2))) else (kr false)
def v (n0 : Int) (low1 : Int) (high2 : Int) : Bool := bif (decide (n0 ≥ low1)) then (((decide (n0 ≤ high2)))) else ((false))
theorem b_eq {R : Type} (kr : Bool → Option R) (n0 : Int) (low1 : Int) (high2 : Int) : b kr n0 low1 high2 = kr (v n0 low1 high2) := by
  first | rfl | (unfold b v; simp only [Bool.cond_eq_ite]; (repeat' split) <;> rfl)
end Go.FG.Pu.impl_within

namespace Go.FG.Pu.impl_ReadVar
def r5 {R : Type} (N : Nat) (g : ByteArray → Int → Int → Int → Bool → Int → Int → Option R) (k0 : ByteArray → Int → Int → Int → Bool → Int → Int → Option R) (k1 : ByteArray → Int → Int → Int → Bool → Int → Int → Option R) (x0 : ByteArray) (x1 : Int) (x2 : Int) (x3 : Int) (x4 : Bool) (x5 : Int) (x6 : Int) : Option R := bif (decide (x6 < 5)) then (bif (decide (w64 (x1 + x6) < (↑(ByteArray.size x0) : Int))) then (bif (decide (0 ≤ w64 (x1 + x6)) && decide (w64 (x1 + x6) < (↑(ByteArray.size x0) : Int))) then (bif (decide (0 ≤ w64 (7 * x6))) then (bif (decide (w64 (↑(btN x0 (Int.toNat (w64 (x1 + x6)))) : Int) > 127)) then (g x0 x1 x2 x3 x4 (w64 (x5 + w64 (Int.tmod (w64 (↑(btN x0 (Int.toNat (w64 (x1 + x6)))) : Int)) 128 * Int.pow 2 (if Int.toNat (w64 (7 * x6)) ≤ 64 then Int.toNat (w64 (7 * x6)) else 64)))) (w64 (x6 + 1))) else (bif (decide (x6 > 0)) then (bif (decide (w64 (↑(btN x0 (Int.toNat (w64 (x1 + x6)))) : Int) = 0)) then (k0 x0 x1 0 0 false (w64 (x5 + w64 (Int.tmod (w64 (↑(btN x0 (Int.toNat (w64 (x1 + x6)))) : Int)) 128 * Int.pow 2 (if Int.toNat (w64 (7 * x6)) ≤ 64 then Int.toNat (w64 (7 * x6)) else 64)))) x6) else (bif (decide (w64 (x5 + w64 (Int.tmod (w64 (↑(btN x0 (Int.toNat (w64 (x1 + x6)))) : Int)) 128 * Int.pow 2 (if Int.toNat (w64 (7 * x6)) ≤ 64 then Int.toNat (w64 (7 * x6)) else 64))) > 1000000000)) then (k0 x0 x1 0 0 false (w64 (x5 + w64 (Int.tmod (w64 (↑(btN x0 (Int.toNat (w64 (x1 + x6)))) : Int)) 128 * Int.pow 2 (if Int.toNat (w64 (7 * x6)) ≤ 64 then Int.toNat (w64 (7 * x6)) else 64)))) x6) else (k0 x0 x1 (w64 (x5 + w64 (Int.tmod (w64 (↑(btN x0 (Int.toNat (w64 (x1 + x6)))) : Int)) 128 * Int.pow 2 (if Int.toNat (w64 (7 * x6)) ≤ 64 then Int.toNat (w64 (7 * x6)) else 64)))) (w64 (w64 (x1 + x6) + 1)) true (w64 (x5 + w64 (Int.tmod (w64 (↑(btN x0 (Int.toNat (w64 (x1 + x6)))) : Int)) 128 * Int.pow 2 (if Int.toNat (w64 (7 * x6)) ≤ 64 then Int.toNat (w64 (7 * x6)) else 64)))) x6))) else (bif (decide (w64 (x5 + w64 (Int.tmod (w64 (↑(btN x0 (Int.toNat (w64 (x1 + x6)))) : Int)) 128 * Int.pow 2 (if Int.toNat (w64 (7 * x6)) ≤ 64 then Int.toNat (w64 (7 * x6)) else 64))) > 1000000000)) then (k0 x0 x1 0 0 false (w64 (x5 + w64 (Int.tmod (w64 (↑(btN x0 (Int.toNat (w64 (x1 + x6)))) : Int)) 128 * Int.pow 2 (if Int.toNat (w64 (7 * x6)) ≤ 64 then Int.toNat (w64 (7 * x6)) else 64)))) x6) else (k0 x0 x1 (w64 (x5 + w64 (Int.tmod (w64 (↑(btN x0 (Int.toNat (w64 (x1 + x6)))) : Int)) 128 * Int.pow 2 (if Int.toNat (w64 (7 * x6)) ≤ 64 then Int.toNat (w64 (7 * x6)) else 64)))) (w64 (w64 (x1 + x6) + 1)) true (w64 (x5 + w64 (Int.tmod (w64 (↑(btN x0 (Int.toNat (w64 (x1 + x6)))) : Int)) 128 * Int.pow 2 (if Int.toNat (w64 (7 * x6)) ≤ 64 then Int.toNat (w64 (7 * x6)) else 64)))) x6)))) else (none)) else (none)) else (k1 x0 x1 x2 x3 x4 x5 x6)) else (k1 x0 x1 x2 x3 x4 x5 x6)
def l5 {R : Type} (N : Nat) (k0 : ByteArray → Int → Int → Int → Bool → Int → Int → Option R) (k1 : ByteArray → Int → Int → Int → Bool → Int → Int → Option R) : Nat → ByteArray → Int → Int → Int → Bool → Int → Int → Option R
  | 0 => (fun _ _ _ _ _ _ _ => none)
  | n + 1 => (fun x0 x1 x2 x3 x4 x5 x6 => r5 N (l5 N k0 k1 n) k0 k1 x0 x1 x2 x3 x4 x5 x6)
def b {R : Type} (N : Nat) (kr : Int → Int → Bool → Option R) (text0 : ByteArray) (at1 : Int) : Option R := bif (!Pu.impl_within.v at1 0 (↑(ByteArray.size text0) : Int)) then (kr 0 0 false) else (l5 N (fun y7 y8 y9 y10 y11 y12 y13 => kr y9 y10 y11) (fun y14 y15 y16 y17 y18 y19 y20 => kr 0 0 false) N text0 at1 0 0 false 0 0)
def v (text0 : ByteArray) (at1 : Int) : Int × Int × Bool := if 0 ≤ at1 ∧ at1 ≤ text0.size then Lib.rv text0 at1.toNat 5 0 0 else (0, 0, false)
theorem b_eq {R : Type} (kr : Int → Int → Bool → Option R) (text0 : ByteArray) (at1 : Int) (f0 : okS text0) : ∃ N, b N kr text0 at1 = kr (v text0 at1).1 (v text0 at1).2.1 (v text0 at1).2.2 := by
  refine ⟨6, ?_⟩
  unfold b v
  by_cases hn : 0 ≤ at1 ∧ at1 ≤ text0.size
  · have e : Pu.impl_within.v at1 0 (text0.size : Int) = true := by simp [Pu.impl_within.v, hn]
    obtain ⟨a, rfl⟩ : ∃ a : Nat, at1 = (a : Int) := ⟨at1.toNat, by omega⟩
    have ha : a ≤ text0.size := by omega
    rw [e, if_pos hn, Lib.toN]
    have hs : text0.size ≤ 4611686018427387904 := f0
    simp only [Bool.not_true, cond_false]
    have := Lib.loop_gen (fun m (s : Nat × Int) => l5 6 (fun y7 y8 y9 y10 y11 y12 y13 => kr y9 y10 y11) (fun y14 y15 y16 y17 y18 y19 y20 => kr 0 0 false) m text0 a 0 0 false s.2 s.1) (fun s => 5 - s.1) (fun s => s.1 ≤ 5 ∧ 0 ≤ s.2 ∧ s.2 < 128 ^ s.1)
      (fun s => kr (Lib.rv text0 a (5 - s.1) s.1 s.2).1 (Lib.rv text0 a (5 - s.1) s.1 s.2).2.1 (Lib.rv text0 a (5 - s.1) s.1 s.2).2.2) (fun m s hs5 => by
      obtain ⟨j, n⟩ := s
      obtain ⟨hj, h0, hlt⟩ := hs5
      dsimp only at hj h0 hlt ⊢
      have hb := Lib.btN_lt text0 (a + j)
      by_cases hj5 : j < 5
      · by_cases hin : a + j < text0.size
        · have ew : w64 ((a : Int) + (j : Int)) = ((a + j : Nat) : Int) := by rw [w64_eq (by omega) (by omega)]; omega
          have ew2 : w64 ((a + j : Nat) : Int) = ((a + j : Nat) : Int) := w64_eq (by omega) (by omega)
          have eb : w64 (btN text0 (a + j) : Int) = (btN text0 (a + j) : Int) := w64_eq (by omega) (by omega)
          have em : Int.tmod (btN text0 (a + j) : Int) 128 = (btN text0 (a + j) : Int) % 128 := Int.tmod_eq_emod_of_nonneg (by omega)
          have e7 : w64 (7 * (j : Int)) = ((7 * j : Nat) : Int) := by rw [w64_eq (by omega) (by omega)]; omega
          have ep : Int.pow 2 (if 7 * j ≤ 64 then 7 * j else 64) = 128 ^ j := by
            rw [if_pos (by omega)]
            show (2 : Int) ^ (7 * j) = 128 ^ j
            rw [Int.pow_mul]; rfl
          have hp : (128 : Int) ^ j ≤ 268435456 ∧ (1 : Int) ≤ 128 ^ j ∧ (128 : Int) ^ (j + 1) = 128 * 128 ^ j := by
            obtain rfl | rfl | rfl | rfl | rfl : j = 0 ∨ j = 1 ∨ j = 2 ∨ j = 3 ∨ j = 4 := by omega
            all_goals decide
          have hm0 : 0 ≤ (btN text0 (a + j) : Int) % 128 ∧ (btN text0 (a + j) : Int) % 128 ≤ 127 := by omega
          have hq : 0 ≤ (btN text0 (a + j) : Int) % 128 * 128 ^ j ∧ (btN text0 (a + j) : Int) % 128 * 128 ^ j ≤ 127 * 128 ^ j :=
            ⟨Int.mul_nonneg hm0.1 (by omega), Int.mul_le_mul_of_nonneg_right hm0.2 (by omega)⟩
          have eq1 : w64 ((btN text0 (a + j) : Int) % 128 * 128 ^ j) = (btN text0 (a + j) : Int) % 128 * 128 ^ j := w64_eq (by omega) (by omega)
          have eq2 : w64 (n + (btN text0 (a + j) : Int) % 128 * 128 ^ j) = n + (btN text0 (a + j) : Int) % 128 * 128 ^ j := w64_eq (by omega) (by omega)
          have ej : w64 ((j : Int) + 1) = ((j + 1 : Nat) : Int) := Lib.w64_s hj5 (by omega)
          have ef : 5 - j = (5 - (j + 1)) + 1 := by omega
          have c1 : decide ((j : Int) < 5) = true := by simp; omega
          have c2 : decide (((a + j : Nat) : Int) < (text0.size : Int)) = true := Lib.dlt_t hin
          have hrv : Lib.rv text0 a (5 - j) j n = (if (btN text0 (a + j) : Int) > 127 then Lib.rv text0 a (5 - (j + 1)) (j + 1) (n + (btN text0 (a + j) : Int) % 128 * 128 ^ j)
              else if (j > 0 ∧ btN text0 (a + j) = 0) ∨ n + (btN text0 (a + j) : Int) % 128 * 128 ^ j > 1000000000 then (0, 0, false)
              else (n + (btN text0 (a + j) : Int) % 128 * 128 ^ j, ((a + j + 1 : Nat) : Int), true)) := by
            rw [ef]; simp only [Lib.rv]; rw [if_pos hin]
          have en : w64 (((a + j : Nat) : Int) + 1) = ((a + j + 1 : Nat) : Int) := Lib.w64_s hin (by omega)
          simp only [l5, r5, c1, ew, c2, Lib.dle0, Lib.toN, eb, em, e7, ep, eq1, eq2, ej, en, cond_true, Bool.and_self]
          by_cases hc : (btN text0 (a + j) : Int) > 127
          · right
            rw [decide_eq_true hc]
            exact ⟨(j + 1, n + (btN text0 (a + j) : Int) % 128 * 128 ^ j), ⟨by dsimp only; omega, by dsimp only; omega, by dsimp only; omega⟩, by dsimp only; omega, by dsimp only; rw [hrv, if_pos hc], rfl⟩
          · left
            rw [decide_eq_false hc, cond_false, hrv, if_neg hc]
            by_cases hj0 : (j : Int) > 0
            · rw [decide_eq_true hj0, cond_true]
              by_cases hz : (btN text0 (a + j) : Int) = 0
              · rw [decide_eq_true hz, if_pos (.inl ⟨by omega, by omega⟩)]; rfl
              · rw [decide_eq_false hz, cond_false]
                by_cases hbig : n + (btN text0 (a + j) : Int) % 128 * 128 ^ j > 1000000000
                · rw [decide_eq_true hbig, if_pos (.inr hbig)]; rfl
                · rw [decide_eq_false hbig, if_neg (by omega)]; rfl
            · rw [decide_eq_false hj0, cond_false]
              by_cases hbig : n + (btN text0 (a + j) : Int) % 128 * 128 ^ j > 1000000000
              · rw [decide_eq_true hbig, if_pos (.inr hbig)]; rfl
              · rw [decide_eq_false hbig, if_neg (by omega)]; rfl
        · left
          have ew : w64 ((a : Int) + (j : Int)) = ((a + j : Nat) : Int) := by rw [w64_eq (by omega) (by omega)]; omega
          have ef : 5 - j = (5 - (j + 1)) + 1 := by omega
          have hrv : Lib.rv text0 a (5 - j) j n = (0, 0, false) := by rw [ef]; simp only [Lib.rv]; rw [if_neg hin]
          simp only [l5, r5, show decide ((j : Int) < 5) = true by simp; omega, ew, Lib.dlt_f hin, cond_true, cond_false, hrv]
      · left
        have hj' : j = 5 := by omega
        subst hj'
        simp only [l5, r5, show decide (((5 : Nat) : Int) < 5) = false from rfl, cond_false]
        rfl) 6 (0, 0) ⟨by dsimp only; omega, by dsimp only; omega, by dsimp only; decide⟩ (by dsimp only; omega)
    exact this
  · have e : Pu.impl_within.v at1 0 (text0.size : Int) = false := by
      simp [Pu.impl_within.v]; omega
    rw [e, if_neg hn]; rfl
end Go.FG.Pu.impl_ReadVar

namespace Go.FG.Pu.impl_ReadShort
def b {R : Type} (kr : ByteArray → Int → Bool → Option R) (text0 : ByteArray) (at1 : Int) : Option R := bif (!(Pu.impl_ReadVar.v text0 at1).2.2) then (kr ({ data := #[] }) 0 false) else (bif (decide ((Pu.impl_ReadVar.v text0 at1).1 > 20000)) then (kr ({ data := #[] }) 0 false) else (bif (decide ((Pu.impl_ReadVar.v text0 at1).1 > w64 ((↑(ByteArray.size text0) : Int) - (Pu.impl_ReadVar.v text0 at1).2.1))) then (kr ({ data := #[] }) 0 false) else (bif (inB (Pu.impl_ReadVar.v text0 at1).2.1 (w64 ((Pu.impl_ReadVar.v text0 at1).2.1 + (Pu.impl_ReadVar.v text0 at1).1)) (↑(ByteArray.size text0) : Int)) then (kr (ByteArray.extract text0 (Int.toNat (Pu.impl_ReadVar.v text0 at1).2.1) (Int.toNat (w64 ((Pu.impl_ReadVar.v text0 at1).2.1 + (Pu.impl_ReadVar.v text0 at1).1)))) (w64 ((Pu.impl_ReadVar.v text0 at1).2.1 + (Pu.impl_ReadVar.v text0 at1).1)) true) else (none))))
def v (text0 : ByteArray) (at1 : Int) : ByteArray × Int × Bool := Lib.readShort text0 at1
theorem b_eq {R : Type} (kr : ByteArray → Int → Bool → Option R) (text0 : ByteArray) (at1 : Int) (f0 : okS text0) : b kr text0 at1 = kr (v text0 at1).1 (v text0 at1).2.1 (v text0 at1).2.2 := Lib.readShort_run f0 at1 kr
end Go.FG.Pu.impl_ReadShort

namespace Go.FG.Pu.impl_isKey
def b {R : Type} (kr : Bool → Option R) (key0 : ByteArray) : Option R := kr (Pu.impl_within.v (↑(ByteArray.size key0) : Int) 1 30)
def v (key0 : ByteArray) : Bool := ((Pu.impl_within.v (↑(ByteArray.size key0) : Int) 1 30))
theorem b_eq {R : Type} (kr : Bool → Option R) (key0 : ByteArray) : b kr key0 = kr (v key0) := by
  first | rfl | (unfold b v; simp only [Bool.cond_eq_ite]; (repeat' split) <;> rfl)
end Go.FG.Pu.impl_isKey

namespace Go.FG.Pu.impl_isNumber
def b {R : Type} (kr : Bool → Option R) (n0 : Int) : Option R := kr (Pu.impl_within.v n0 0 1000000000)
def v (n0 : Int) : Bool := ((Pu.impl_within.v n0 0 1000000000))
theorem b_eq {R : Type} (kr : Bool → Option R) (n0 : Int) : b kr n0 = kr (v n0) := by
  first | rfl | (unfold b v; simp only [Bool.cond_eq_ite]; (repeat' split) <;> rfl)
end Go.FG.Pu.impl_isNumber

namespace Go.FG.Pu.impl_EntryOk
def b {R : Type} (kr : Bool → Option R) (e0_0 : ByteArray) (e0_1 : Int) (e0_2 : Int) (e0_3 : ByteArray) : Option R := bif (Pu.impl_isKey.v e0_0) then (bif (Pu.impl_isNumber.v e0_1) then (bif (Pu.impl_within.v e0_2 1 999999) then (kr (decide ((↑(ByteArray.size e0_3) : Int) ≤ 400))) else (kr false)) else (kr false)) else (kr false)
def v (e0_0 : ByteArray) (e0_1 : Int) (e0_2 : Int) (e0_3 : ByteArray) : Bool := bif (Pu.impl_isKey.v e0_0) then (bif (Pu.impl_isNumber.v e0_1) then (bif (Pu.impl_within.v e0_2 1 999999) then (((decide ((↑(ByteArray.size e0_3) : Int) ≤ 400)))) else ((false))) else ((false))) else ((false))
theorem b_eq {R : Type} (kr : Bool → Option R) (e0_0 : ByteArray) (e0_1 : Int) (e0_2 : Int) (e0_3 : ByteArray) : b kr e0_0 e0_1 e0_2 e0_3 = kr (v e0_0 e0_1 e0_2 e0_3) := by
  first | rfl | (unfold b v; simp only [Bool.cond_eq_ite]; (repeat' split) <;> rfl)
end Go.FG.Pu.impl_EntryOk

namespace Go.FG.Pu.impl_ReadEntry
def b {R : Type} (kr : ByteArray → Int → Int → ByteArray → Bool → Option R) (t0 : ByteArray) : Option R := bif (!(Pu.impl_ReadShort.v t0 0).2.2) then (kr ({ data := #[] }) 0 0 ({ data := #[] }) false) else (bif (!(Pu.impl_ReadVar.v t0 (Pu.impl_ReadShort.v t0 0).2.1).2.2) then (kr ({ data := #[] }) 0 0 ({ data := #[] }) false) else (bif (!(Pu.impl_ReadVar.v t0 (Pu.impl_ReadVar.v t0 (Pu.impl_ReadShort.v t0 0).2.1).2.1).2.2) then (kr ({ data := #[] }) 0 0 ({ data := #[] }) false) else (bif (inB (Pu.impl_ReadVar.v t0 (Pu.impl_ReadVar.v t0 (Pu.impl_ReadShort.v t0 0).2.1).2.1).2.1 (↑(ByteArray.size t0) : Int) (↑(ByteArray.size t0) : Int)) then (bif (!Pu.impl_EntryOk.v (Pu.impl_ReadShort.v t0 0).1 (Pu.impl_ReadVar.v t0 (Pu.impl_ReadShort.v t0 0).2.1).1 (Pu.impl_ReadVar.v t0 (Pu.impl_ReadVar.v t0 (Pu.impl_ReadShort.v t0 0).2.1).2.1).1 (ByteArray.extract t0 (Int.toNat (Pu.impl_ReadVar.v t0 (Pu.impl_ReadVar.v t0 (Pu.impl_ReadShort.v t0 0).2.1).2.1).2.1) (Int.toNat (↑(ByteArray.size t0) : Int)))) then (kr ({ data := #[] }) 0 0 ({ data := #[] }) false) else (kr ((Pu.impl_ReadShort.v t0 0).1) ((Pu.impl_ReadVar.v t0 (Pu.impl_ReadShort.v t0 0).2.1).1) ((Pu.impl_ReadVar.v t0 (Pu.impl_ReadVar.v t0 (Pu.impl_ReadShort.v t0 0).2.1).2.1).1) (ByteArray.extract t0 (Int.toNat (Pu.impl_ReadVar.v t0 (Pu.impl_ReadVar.v t0 (Pu.impl_ReadShort.v t0 0).2.1).2.1).2.1) (Int.toNat (↑(ByteArray.size t0) : Int))) true)) else (none))))
def v (t0 : ByteArray) : ByteArray × Int × Int × ByteArray × Bool := Pu.spec_ReadEntry.v t0
theorem b_eq {R : Type} (kr : ByteArray → Int → Int → ByteArray → Bool → Option R) (t0 : ByteArray) (f0 : okS t0) : b kr t0 = kr (v t0).1 (v t0).2.1 (v t0).2.2.1 (v t0).2.2.2.1 (v t0).2.2.2.2 := by
  have e1 : Pu.impl_ReadShort.v = Lib.readShort := rfl
  have e2 : Pu.impl_ReadVar.v = Lib.readVar := rfl
  have e3 : ∀ a b c d, Pu.impl_EntryOk.v a b c d = Pu.spec_EntryOk.v a b c d := fun _ _ _ _ => rfl
  unfold b v Pu.spec_ReadEntry.v
  simp only [e1, e2, e3, Lib.toN]
  cases h1 : Lib.readShort t0 0 with
  | mk k r1 =>
    obtain ⟨a, ok1⟩ := r1
    cases ok1 with
    | false => rfl
    | true =>
      dsimp only
      cases h2 : Lib.readVar t0 a with
      | mk s r2 =>
        obtain ⟨x, ok2⟩ := r2
        cases ok2 with
        | false => rfl
        | true =>
          dsimp only
          cases h3 : Lib.readVar t0 x with
          | mk l r3 =>
            obtain ⟨y, ok3⟩ := r3
            cases ok3 with
            | false => rfl
            | true =>
              obtain ⟨r1, r2, r3, r4, r5, r6⟩ := Lib.readVar_ok h3
              dsimp only
              simp only [Bool.not_true, cond_false]
              rw [Lib.bif_t (show inB y (t0.size : Int) (t0.size : Int) = true by simp [inB]; omega)]
              cases hE : Pu.spec_EntryOk.v k s l (t0.extract y.toNat t0.size) with
              | false => rfl
              | true => rfl
end Go.FG.Pu.impl_ReadEntry

namespace Go.FG.Pu.laws_eqEntry
def b {R : Type} (kr : Bool → Option R) (a0_0 : ByteArray) (a0_1 : Int) (a0_2 : Int) (a0_3 : ByteArray) (b1_0 : ByteArray) (b1_1 : Int) (b1_2 : Int) (b1_3 : ByteArray) : Option R := bif (!List.beq (ByteArray.toList a0_0) (ByteArray.toList b1_0)) then (kr false) else (bif (a0_1 != b1_1) then (kr false) else (bif (a0_2 != b1_2) then (kr false) else (bif (!List.beq (ByteArray.toList a0_3) (ByteArray.toList b1_3)) then (kr false) else (kr true))))
def v (a0_0 : ByteArray) (a0_1 : Int) (a0_2 : Int) (a0_3 : ByteArray) (b1_0 : ByteArray) (b1_1 : Int) (b1_2 : Int) (b1_3 : ByteArray) : Bool := bif (!List.beq (ByteArray.toList a0_0) (ByteArray.toList b1_0)) then ((false)) else (bif (a0_1 != b1_1) then ((false)) else (bif (a0_2 != b1_2) then ((false)) else (bif (!List.beq (ByteArray.toList a0_3) (ByteArray.toList b1_3)) then ((false)) else ((true)))))
theorem b_eq {R : Type} (kr : Bool → Option R) (a0_0 : ByteArray) (a0_1 : Int) (a0_2 : Int) (a0_3 : ByteArray) (b1_0 : ByteArray) (b1_1 : Int) (b1_2 : Int) (b1_3 : ByteArray) : b kr a0_0 a0_1 a0_2 a0_3 b1_0 b1_1 b1_2 b1_3 = kr (v a0_0 a0_1 a0_2 a0_3 b1_0 b1_1 b1_2 b1_3) := by
  first | rfl | (unfold b v; simp only [Bool.cond_eq_ite]; (repeat' split) <;> rfl)
end Go.FG.Pu.laws_eqEntry

namespace Go.FG.Pu.laws_FnExactReadEntry
def b {R : Type} (kr : Bool → Option R) (aT0 : ByteArray) : Option R := bif (decide ((↑(ByteArray.size aT0) : Int) > 1048576)) then (kr true) else (bif (!Pu.laws_eqEntry.v (Pu.impl_ReadEntry.v aT0).1 (Pu.impl_ReadEntry.v aT0).2.1 (Pu.impl_ReadEntry.v aT0).2.2.1 (Pu.impl_ReadEntry.v aT0).2.2.2.1 (Pu.spec_ReadEntry.v aT0).1 (Pu.spec_ReadEntry.v aT0).2.1 (Pu.spec_ReadEntry.v aT0).2.2.1 (Pu.spec_ReadEntry.v aT0).2.2.2.1) then (kr false) else (bif (!decide ((Pu.impl_ReadEntry.v aT0).2.2.2.2 = (Pu.spec_ReadEntry.v aT0).2.2.2.2)) then (kr false) else (kr true)))
def v (aT0 : ByteArray) : Bool := bif (decide ((↑(ByteArray.size aT0) : Int) > 1048576)) then ((true)) else (bif (!Pu.laws_eqEntry.v (Pu.impl_ReadEntry.v aT0).1 (Pu.impl_ReadEntry.v aT0).2.1 (Pu.impl_ReadEntry.v aT0).2.2.1 (Pu.impl_ReadEntry.v aT0).2.2.2.1 (Pu.spec_ReadEntry.v aT0).1 (Pu.spec_ReadEntry.v aT0).2.1 (Pu.spec_ReadEntry.v aT0).2.2.1 (Pu.spec_ReadEntry.v aT0).2.2.2.1) then ((false)) else (bif (!decide ((Pu.impl_ReadEntry.v aT0).2.2.2.2 = (Pu.spec_ReadEntry.v aT0).2.2.2.2)) then ((false)) else ((true))))
theorem b_eq {R : Type} (kr : Bool → Option R) (aT0 : ByteArray) : b kr aT0 = kr (v aT0) := by
  first | rfl | (unfold b v; simp only [Bool.cond_eq_ite]; (repeat' split) <;> rfl)
theorem law (t : ByteArray) (h : t.size ≤ 140737488351232) : v t = true := by
  have e : ∀ t, Pu.impl_ReadEntry.v t = Pu.spec_ReadEntry.v t := fun _ => rfl
  unfold v
  simp [e, Pu.laws_eqEntry.v, Lib.beq_self]
end Go.FG.Pu.laws_FnExactReadEntry

