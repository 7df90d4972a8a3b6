/- Functions of the program: the evaluation of each, and that a call of it does what is told. No condition. -/
import Derived.Test.YticmocblmmahkaaTab
import Derived.Test.YticmocblmmahkaaPExactKeepActs
set_option linter.unusedVariables false
set_option linter.unusedSimpArgs false
set_option maxRecDepth 100000
namespace Go.FG.Se
open Go.Proofs
def E20 : Env := { toTab := T, call := Go.FG.callIn [], mode := Go.FG.modeIn md, keep := Go.FG.keepIn [], tk := fun n => Go.FG.memB n [], om := Go.FG.omIn [] }
def sp20 : List Arg → Option (Bool × Res)
  | [(.v true [(.s a0_0), (.i .i64 a0_1), (.i .i64 a0_2), (.s a0_3)]), (.v false [(.i .i64 left1)])] => some (true, ⟨[(.v false [(.i .i64 (Pu.laws_szEntry.v a0_0 a0_1 a0_2 a0_3 left1))])], []⟩)
  | _ => none
theorem ok20 : FnOk Try.prog T 20 sp20 := by
  refine fn_ok (E := E20) hE call_nil hM Try.func20 (code := (Try.f20.body.getD .skip)) (by kernel_rfl) (by kernel_rfl) ?_
  have key : ∀ (a0_0 : ByteArray) (a0_1 : Int) (a0_2 : Int) (a0_3 : ByteArray) (left1 : Int), ∃ it : It Res, (∀ c ∈ loopsOf (Try.f20.body.getD .skip), LoopOk E20 it c) ∧ body E20 it Try.f20 [(.v true [(.s a0_0), (.i .i64 a0_1), (.i .i64 a0_2), (.s a0_3)]), (.v false [(.i .i64 left1)])] = some ⟨[(.v false [(.i .i64 (Pu.laws_szEntry.v a0_0 a0_1 a0_2 a0_3 left1))])], []⟩ := by
    intro a0_0 a0_1 a0_2 a0_3 left1 
    have hN := Pu.laws_szEntry.b_eq (R := Res) (fun r0 => some ⟨[(.v false [(.i .i64 r0)])], []⟩) a0_0 a0_1 a0_2 a0_3 left1
    have hl : loopsOf (Try.f20.body.getD .skip) = [] := by kernel_rfl
    refine ⟨iterN 0, by rw [hl]; exact loops_nil, ?_⟩
    refine Eq.trans (show body E20 (iterN 0) Try.f20 [(.v true [(.s a0_0), (.i .i64 a0_1), (.i .i64 a0_2), (.s a0_3)]), (.v false [(.i .i64 left1)])] = Pu.laws_szEntry.b (fun r0 => some ⟨[(.v false [(.i .i64 r0)])], []⟩) a0_0 a0_1 a0_2 a0_3 left1 by kernel_rfl) hN
  intro args r h
  unfold sp20 at h
  split at h
  · injection h with h
    injection h with h1 h2
    subst h2
    exact ⟨by kernel_rfl, fun hf => ⟨of_decide_eq_true (by kernel_rfl), key _ _ _ _ _⟩⟩
  · cases h

end Go.FG.Se

namespace Go.FG.Se
open Go.Proofs
def E22 : Env := { toTab := T, call := Go.FG.callIn [], mode := Go.FG.modeIn md, keep := Go.FG.keepIn [], tk := fun n => Go.FG.memB n [], om := Go.FG.omIn [] }
def sp22 : List Arg → Option (Bool × Res)
  | [(.v true [(.s a0_0), (.i .i64 a0_1), (.i .i64 a0_2), (.s a0_3)])] => some (true, ⟨[(.v true [(.s ((Pu.laws_toEntry.v a0_0 a0_1 a0_2 a0_3).1)), (.i .i64 ((Pu.laws_toEntry.v a0_0 a0_1 a0_2 a0_3).2.1)), (.i .i64 ((Pu.laws_toEntry.v a0_0 a0_1 a0_2 a0_3).2.2.1)), (.s ((Pu.laws_toEntry.v a0_0 a0_1 a0_2 a0_3).2.2.2))])], []⟩)
  | _ => none
theorem ok22 : FnOk Try.prog T 22 sp22 := by
  refine fn_ok (E := E22) hE call_nil hM Try.func22 (code := (Try.f22.body.getD .skip)) (by kernel_rfl) (by kernel_rfl) ?_
  have key : ∀ (a0_0 : ByteArray) (a0_1 : Int) (a0_2 : Int) (a0_3 : ByteArray), ∃ it : It Res, (∀ c ∈ loopsOf (Try.f22.body.getD .skip), LoopOk E22 it c) ∧ body E22 it Try.f22 [(.v true [(.s a0_0), (.i .i64 a0_1), (.i .i64 a0_2), (.s a0_3)])] = some ⟨[(.v true [(.s ((Pu.laws_toEntry.v a0_0 a0_1 a0_2 a0_3).1)), (.i .i64 ((Pu.laws_toEntry.v a0_0 a0_1 a0_2 a0_3).2.1)), (.i .i64 ((Pu.laws_toEntry.v a0_0 a0_1 a0_2 a0_3).2.2.1)), (.s ((Pu.laws_toEntry.v a0_0 a0_1 a0_2 a0_3).2.2.2))])], []⟩ := by
    intro a0_0 a0_1 a0_2 a0_3 
    have hN := Pu.laws_toEntry.b_eq (R := Res) (fun r0 r1 r2 r3 => some ⟨[(.v true [(.s r0), (.i .i64 r1), (.i .i64 r2), (.s r3)])], []⟩) a0_0 a0_1 a0_2 a0_3
    have hl : loopsOf (Try.f22.body.getD .skip) = [] := by kernel_rfl
    refine ⟨iterN 0, by rw [hl]; exact loops_nil, ?_⟩
    refine Eq.trans (show body E22 (iterN 0) Try.f22 [(.v true [(.s a0_0), (.i .i64 a0_1), (.i .i64 a0_2), (.s a0_3)])] = Pu.laws_toEntry.b (fun r0 r1 r2 r3 => some ⟨[(.v true [(.s r0), (.i .i64 r1), (.i .i64 r2), (.s r3)])], []⟩) a0_0 a0_1 a0_2 a0_3 by kernel_rfl) hN
  intro args r h
  unfold sp22 at h
  split at h
  · injection h with h
    injection h with h1 h2
    subst h2
    exact ⟨by kernel_rfl, fun hf => ⟨of_decide_eq_true (by kernel_rfl), key _ _ _ _⟩⟩
  · cases h

end Go.FG.Se

namespace Go.FG.Se
open Go.Proofs
def E95 : Env := { toTab := T, call := Go.FG.callIn [], mode := Go.FG.modeIn md, keep := Go.FG.keepIn [], tk := fun n => Go.FG.memB n [], om := Go.FG.omIn [] }
def sp95 : List Arg → Option (Bool × Res)
  | [(.v false [(.i .i64 x0)]), (.v false [(.i .i64 least1)]), (.v false [(.i .i64 most2)])] => some (true, ⟨[(.v false [(.b (Pu.spec_l01In.v x0 least1 most2))])], []⟩)
  | _ => none
theorem ok95 : FnOk Try.prog T 95 sp95 := by
  refine fn_ok (E := E95) hE call_nil hM Try.func95 (code := (Try.f95.body.getD .skip)) (by kernel_rfl) (by kernel_rfl) ?_
  have key : ∀ (x0 : Int) (least1 : Int) (most2 : Int), ∃ it : It Res, (∀ c ∈ loopsOf (Try.f95.body.getD .skip), LoopOk E95 it c) ∧ body E95 it Try.f95 [(.v false [(.i .i64 x0)]), (.v false [(.i .i64 least1)]), (.v false [(.i .i64 most2)])] = some ⟨[(.v false [(.b (Pu.spec_l01In.v x0 least1 most2))])], []⟩ := by
    intro x0 least1 most2 
    have hN := Pu.spec_l01In.b_eq (R := Res) (fun r0 => some ⟨[(.v false [(.b r0)])], []⟩) x0 least1 most2
    have hl : loopsOf (Try.f95.body.getD .skip) = [] := by kernel_rfl
    refine ⟨iterN 0, by rw [hl]; exact loops_nil, ?_⟩
    refine Eq.trans (show body E95 (iterN 0) Try.f95 [(.v false [(.i .i64 x0)]), (.v false [(.i .i64 least1)]), (.v false [(.i .i64 most2)])] = Pu.spec_l01In.b (fun r0 => some ⟨[(.v false [(.b r0)])], []⟩) x0 least1 most2 by kernel_rfl) hN
  intro args r h
  unfold sp95 at h
  split at h
  · injection h with h
    injection h with h1 h2
    subst h2
    exact ⟨by kernel_rfl, fun hf => ⟨of_decide_eq_true (by kernel_rfl), key _ _ _⟩⟩
  · cases h

end Go.FG.Se

namespace Go.FG.Se
open Go.Proofs
def E109 : Env := { toTab := T, call := Go.FG.callIn [(95, sp95)], mode := Go.FG.modeIn md, keep := Go.FG.keepIn [], tk := fun n => Go.FG.memB n [], om := Go.FG.omIn [] }
def sp109 : List Arg → Option (Bool × Res)
  | [(.v false [(.s s0)])] => some (true, ⟨[(.v false [(.b (Pu.spec_l13Key.v s0))])], []⟩)
  | _ => none
theorem ok109 : FnOk Try.prog T 109 sp109 := by
  refine fn_ok (E := E109) hE (call_cons ok95 call_nil) hM Try.func109 (code := (Try.f109.body.getD .skip)) (by kernel_rfl) (by kernel_rfl) ?_
  have key : ∀ (s0 : ByteArray), ∃ it : It Res, (∀ c ∈ loopsOf (Try.f109.body.getD .skip), LoopOk E109 it c) ∧ body E109 it Try.f109 [(.v false [(.s s0)])] = some ⟨[(.v false [(.b (Pu.spec_l13Key.v s0))])], []⟩ := by
    intro s0 
    have hN := Pu.spec_l13Key.b_eq (R := Res) (fun r0 => some ⟨[(.v false [(.b r0)])], []⟩) s0
    have hl : loopsOf (Try.f109.body.getD .skip) = [] := by kernel_rfl
    refine ⟨iterN 0, by rw [hl]; exact loops_nil, ?_⟩
    refine Eq.trans (show body E109 (iterN 0) Try.f109 [(.v false [(.s s0)])] = Pu.spec_l13Key.b (fun r0 => some ⟨[(.v false [(.b r0)])], []⟩) s0 by kernel_rfl) hN
  intro args r h
  unfold sp109 at h
  split at h
  · injection h with h
    injection h with h1 h2
    subst h2
    exact ⟨by kernel_rfl, fun hf => ⟨of_decide_eq_true (by kernel_rfl), key _⟩⟩
  · cases h

end Go.FG.Se

namespace Go.FG.Se
open Go.Proofs
def E32 : Env := { toTab := T, call := Go.FG.callIn [(109, sp109), (95, sp95)], mode := Go.FG.modeIn md, keep := Go.FG.keepIn [], tk := fun n => Go.FG.memB n [], om := Go.FG.omIn [] }
def sp32 : List Arg → Option (Bool × Res)
  | [(.v true [(.s e0_0), (.i .i64 e0_1), (.i .i64 e0_2), (.s e0_3)])] => some (true, ⟨[(.v false [(.b (Pu.spec_EntryOk.v e0_0 e0_1 e0_2 e0_3))])], []⟩)
  | _ => none
theorem ok32 : FnOk Try.prog T 32 sp32 := by
  refine fn_ok (E := E32) hE (call_cons ok109 (call_cons ok95 call_nil)) hM Try.func32 (code := (Try.f32.body.getD .skip)) (by kernel_rfl) (by kernel_rfl) ?_
  have key : ∀ (e0_0 : ByteArray) (e0_1 : Int) (e0_2 : Int) (e0_3 : ByteArray), ∃ it : It Res, (∀ c ∈ loopsOf (Try.f32.body.getD .skip), LoopOk E32 it c) ∧ body E32 it Try.f32 [(.v true [(.s e0_0), (.i .i64 e0_1), (.i .i64 e0_2), (.s e0_3)])] = some ⟨[(.v false [(.b (Pu.spec_EntryOk.v e0_0 e0_1 e0_2 e0_3))])], []⟩ := by
    intro e0_0 e0_1 e0_2 e0_3 
    have hN := Pu.spec_EntryOk.b_eq (R := Res) (fun r0 => some ⟨[(.v false [(.b r0)])], []⟩) e0_0 e0_1 e0_2 e0_3
    have hl : loopsOf (Try.f32.body.getD .skip) = [] := by kernel_rfl
    refine ⟨iterN 0, by rw [hl]; exact loops_nil, ?_⟩
    refine Eq.trans (show body E32 (iterN 0) Try.f32 [(.v true [(.s e0_0), (.i .i64 e0_1), (.i .i64 e0_2), (.s e0_3)])] = Pu.spec_EntryOk.b (fun r0 => some ⟨[(.v false [(.b r0)])], []⟩) e0_0 e0_1 e0_2 e0_3 by kernel_rfl) hN
  intro args r h
  unfold sp32 at h
  split at h
  · injection h with h
    injection h with h1 h2
    subst h2
    exact ⟨by kernel_rfl, fun hf => ⟨of_decide_eq_true (by kernel_rfl), key _ _ _ _⟩⟩
  · cases h

end Go.FG.Se

namespace Go.FG.Se
open Go.Proofs
def E168 : Env := { toTab := T, call := Go.FG.callIn [], mode := Go.FG.modeIn md, keep := Go.FG.keepIn [(2, [0, 3])], tk := fun n => Go.FG.memB n [], om := Go.FG.omIn [] }
def it168 (N : Nat) {R : Type} : It R := fun rid f cn L K => bif Nat.beq rid 2 then (tell [(0, (.v (.v false [(.i .i64 0)]))), (6, (.v (.v false [(.own 0)]))), (1, (.o (.row 5 true [])))] (fun | [.I x0, .R x1] => Pu.spec_l01Var.l2 N (fun y0 y1 => (K (.exit 0) (tabl [(0, (.v (.v false [(.i .i64 y0)]))), (6, (.v (.v false [(.own 0)]))), (1, (.o (.row 5 true y1)))]))) N x0 x1 | _ => none) L (none)) else none
theorem e168_2 {R : Type} (N : Nat) (K : Ex → St → Option R) : ∀ n : Nat, (∀ x0 x1, iter (exc E168 (it168 N) (loopOf Try.f168 2)) (canon (E168.keep 2))  n (tabl [(0, (.v (.v false [(.i .i64 x0)]))), (6, (.v (.v false [(.own 0)]))), (1, (.o (.row 5 true x1)))]) K = Pu.spec_l01Var.l2 N (fun y0 y1 => (K (.exit 0) (tabl [(0, (.v (.v false [(.i .i64 y0)]))), (6, (.v (.v false [(.own 0)]))), (1, (.o (.row 5 true y1)))]))) n x0 x1) := by
  intro n
  induction n with
  | zero => exact (fun _ _ => rfl)
  | succ n ih =>
    have e0 : (fun x0 x1 => iter (exc E168 (it168 N) (loopOf Try.f168 2)) (canon (E168.keep 2))  n (tabl [(0, (.v (.v false [(.i .i64 x0)]))), (6, (.v (.v false [(.own 0)]))), (1, (.o (.row 5 true x1)))]) K) = Pu.spec_l01Var.l2 N (fun y0 y1 => (K (.exit 0) (tabl [(0, (.v (.v false [(.i .i64 y0)]))), (6, (.v (.v false [(.own 0)]))), (1, (.o (.row 5 true y1)))]))) n := by funext x0 x1; exact ih x0 x1
    intro x0 x1
    have h : ∀ g, exc E168 (it168 N) (loopOf Try.f168 2) (tabl [(0, (.v (.v false [(.i .i64 x0)]))), (6, (.v (.v false [(.own 0)]))), (1, (.o (.row 5 true x1)))]) (iterK g (canon (E168.keep 2)) K) = Pu.spec_l01Var.r2 N (fun x0 x1 => (g (tabl [(0, (.v (.v false [(.i .i64 x0)]))), (6, (.v (.v false [(.own 0)]))), (1, (.o (.row 5 true x1)))]))) (fun y0 y1 => (K (.exit 0) (tabl [(0, (.v (.v false [(.i .i64 y0)]))), (6, (.v (.v false [(.own 0)]))), (1, (.o (.row 5 true y1)))]))) x0 x1 := by intro g; kernel_rfl
    refine (h _).trans ?_
    show Pu.spec_l01Var.r2 N (fun x0 x1 => (iter (exc E168 (it168 N) (loopOf Try.f168 2)) (canon (E168.keep 2))  n (tabl [(0, (.v (.v false [(.i .i64 x0)]))), (6, (.v (.v false [(.own 0)]))), (1, (.o (.row 5 true x1)))]) K)) (fun y0 y1 => (K (.exit 0) (tabl [(0, (.v (.v false [(.i .i64 y0)]))), (6, (.v (.v false [(.own 0)]))), (1, (.o (.row 5 true y1)))]))) x0 x1 = _
    rw [e0]; rfl
theorem lo168_2 {R : Type} (N : Nat) : LoopOk E168 (it168 N (R := R)) (loopOf Try.f168 2) := by
  have e : firstRid (loopOf Try.f168 2) = 2 := by kernel_rfl
  intro L K r
  rw [e]
  intro h
  unfold it168 at h
  simp only [show Nat.beq 2 2 = true from rfl, cond_false, cond_true] at h
  refine tell_ok (Q := fun L => ∃ n, iter (exc E168 (it168 N) (loopOf Try.f168 2)) (canon (E168.keep 2)) n (tabl L) K = some r) h (fun xs h => ?_) (fun h => ?_)
  · (try dsimp only at h)
    split at h
    · exact ⟨N, ((e168_2 N K N) _ _).trans h⟩
    · cases h
  cases h
def sp168 : List Arg → Option (Bool × Res)
  | [(.v false [(.i .i64 n0)])] => some (Pu.spec_l01Var.c n0, ⟨[(.v false [(.s (Pu.spec_l01Var.v n0))])], []⟩)
  | _ => none
theorem ok168 : FnOk Try.prog T 168 sp168 := by
  refine fn_ok (E := E168) hE call_nil hM Try.func168 (code := (Try.f168.body.getD .skip)) (by kernel_rfl) (by kernel_rfl) ?_
  have key : ∀ (n0 : Int), Pu.spec_l01Var.c n0 = true → ∃ it : It Res, (∀ c ∈ loopsOf (Try.f168.body.getD .skip), LoopOk E168 it c) ∧ body E168 it Try.f168 [(.v false [(.i .i64 n0)])] = some ⟨[(.v false [(.s (Pu.spec_l01Var.v n0))])], []⟩ := by
    intro n0  h1
    obtain ⟨N, hN⟩ := Pu.spec_l01Var.b_eq (R := Res) (fun r0 => some ⟨[(.v false [(.s r0)])], []⟩) n0 h1
    have hl : loopsOf (Try.f168.body.getD .skip) = [loopOf Try.f168 2] := by kernel_rfl
    refine ⟨it168 N, by rw [hl]; exact (loops_cons (lo168_2 N) loops_nil), ?_⟩
    refine Eq.trans (show body E168 (it168 N) Try.f168 [(.v false [(.i .i64 n0)])] = Pu.spec_l01Var.b N (fun r0 => some ⟨[(.v false [(.s r0)])], []⟩) n0 by kernel_rfl) hN
  intro args r h
  unfold sp168 at h
  split at h
  · injection h with h
    injection h with h1 h2
    subst h2
    exact ⟨by kernel_rfl, fun hf => ⟨of_decide_eq_true (by kernel_rfl), key _ h1⟩⟩
  · cases h

end Go.FG.Se

namespace Go.FG.Se
open Go.Proofs
def E96 : Env := { toTab := T, call := Go.FG.callIn [(32, sp32), (168, sp168)], mode := Go.FG.modeIn md, keep := Go.FG.keepIn [], tk := fun n => Go.FG.memB n [], om := Go.FG.omIn [] }
def sp96 : List Arg → Option (Bool × Res)
  | [(.v true [(.s e0_0), (.i .i64 e0_1), (.i .i64 e0_2), (.s e0_3)])] => some (true, ⟨[(.v false [(.s ((Pu.spec_EntryText.v e0_0 e0_1 e0_2 e0_3).1))]), (.v false [(.b ((Pu.spec_EntryText.v e0_0 e0_1 e0_2 e0_3).2))])], []⟩)
  | _ => none
theorem ok96 : FnOk Try.prog T 96 sp96 := by
  refine fn_ok (E := E96) hE (call_cons ok32 (call_cons ok168 call_nil)) hM Try.func96 (code := (Try.f96.body.getD .skip)) (by kernel_rfl) (by kernel_rfl) ?_
  have key : ∀ (e0_0 : ByteArray) (e0_1 : Int) (e0_2 : Int) (e0_3 : ByteArray), ∃ it : It Res, (∀ c ∈ loopsOf (Try.f96.body.getD .skip), LoopOk E96 it c) ∧ body E96 it Try.f96 [(.v true [(.s e0_0), (.i .i64 e0_1), (.i .i64 e0_2), (.s e0_3)])] = some ⟨[(.v false [(.s ((Pu.spec_EntryText.v e0_0 e0_1 e0_2 e0_3).1))]), (.v false [(.b ((Pu.spec_EntryText.v e0_0 e0_1 e0_2 e0_3).2))])], []⟩ := by
    intro e0_0 e0_1 e0_2 e0_3 
    have hN := Pu.spec_EntryText.b_eq (R := Res) (fun r0 r1 => some ⟨[(.v false [(.s r0)]), (.v false [(.b r1)])], []⟩) e0_0 e0_1 e0_2 e0_3
    have hl : loopsOf (Try.f96.body.getD .skip) = [] := by kernel_rfl
    refine ⟨iterN 0, by rw [hl]; exact loops_nil, ?_⟩
    refine Eq.trans (show body E96 (iterN 0) Try.f96 [(.v true [(.s e0_0), (.i .i64 e0_1), (.i .i64 e0_2), (.s e0_3)])] = Pu.spec_EntryText.b (fun r0 r1 => some ⟨[(.v false [(.s r0)]), (.v false [(.b r1)])], []⟩) e0_0 e0_1 e0_2 e0_3 by kernel_rfl) hN
  intro args r h
  unfold sp96 at h
  split at h
  · injection h with h
    injection h with h1 h2
    subst h2
    exact ⟨by kernel_rfl, fun hf => ⟨of_decide_eq_true (by kernel_rfl), key _ _ _ _⟩⟩
  · cases h

end Go.FG.Se

namespace Go.FG.Se
open Go.Proofs
def E209 : Env := { toTab := T, call := Go.FG.callIn [], mode := Go.FG.modeIn md, keep := Go.FG.keepIn [(2, [0, 1, 5]), (6, [0, 1, 5, 6])], tk := fun n => Go.FG.memB n [], om := Go.FG.omIn [] }
def it209 (N : Nat) {R : Type} : It R := fun rid f cn L K => bif Nat.beq rid 2 then (tell [(0, (.v (.v false [(.i .u32 0)]))), (2, (.v (.v false [(.s ⟨#[]⟩)]))), (10, (.v (.v false [(.i .i64 0)])))] (fun | [.I x0, .S x1, .I x2] => Pu.spec_SumMore.l2 N (fun y0 y1 y2 => (K (.exit 0) (tabl [(0, (.v (.v false [(.i .u32 y0)]))), (2, (.v (.v false [(.s y1)]))), (10, (.v (.v false [(.i .i64 y2)])))]))) N x0 x1 x2 | _ => none) L (none)) else bif Nat.beq rid 6 then (tell [(0, (.v (.v false [(.i .u32 0)]))), (2, (.v (.v false [(.s ⟨#[]⟩)]))), (10, (.v (.v false [(.i .i64 0)]))), (12, (.v (.v false [(.i .i64 0)])))] (fun | [.I x3, .S x4, .I x5, .I x6] => Pu.spec_SumMore.l6 N (fun y0 y1 y2 y3 => (K (.exit 2) (tabl [(0, (.v (.v false [(.i .u32 y0)]))), (2, (.v (.v false [(.s y1)]))), (10, (.v (.v false [(.i .i64 y2)]))), (12, (.v (.v false [(.i .i64 y3)])))]))) N x3 x4 x5 x6 | _ => none) L (none)) else none
theorem e209_2 {R : Type} (N : Nat) (K : Ex → St → Option R) : ∀ n : Nat, (∀ x0 x1 x2, iter (exc E209 (it209 N) (loopOf Try.f209 2)) (canon (E209.keep 2))  n (tabl [(0, (.v (.v false [(.i .u32 x0)]))), (2, (.v (.v false [(.s x1)]))), (10, (.v (.v false [(.i .i64 x2)])))]) K = Pu.spec_SumMore.l2 N (fun y0 y1 y2 => (K (.exit 0) (tabl [(0, (.v (.v false [(.i .u32 y0)]))), (2, (.v (.v false [(.s y1)]))), (10, (.v (.v false [(.i .i64 y2)])))]))) n x0 x1 x2) := by
  intro n
  induction n with
  | zero => exact (fun _ _ _ => rfl)
  | succ n ih =>
    have e0 : (fun x0 x1 x2 => iter (exc E209 (it209 N) (loopOf Try.f209 2)) (canon (E209.keep 2))  n (tabl [(0, (.v (.v false [(.i .u32 x0)]))), (2, (.v (.v false [(.s x1)]))), (10, (.v (.v false [(.i .i64 x2)])))]) K) = Pu.spec_SumMore.l2 N (fun y0 y1 y2 => (K (.exit 0) (tabl [(0, (.v (.v false [(.i .u32 y0)]))), (2, (.v (.v false [(.s y1)]))), (10, (.v (.v false [(.i .i64 y2)])))]))) n := by funext x0 x1 x2; exact ih x0 x1 x2
    intro x0 x1 x2
    have h : ∀ g, exc E209 (it209 N) (loopOf Try.f209 2) (tabl [(0, (.v (.v false [(.i .u32 x0)]))), (2, (.v (.v false [(.s x1)]))), (10, (.v (.v false [(.i .i64 x2)])))]) (iterK g (canon (E209.keep 2)) K) = Pu.spec_SumMore.r2 N (fun x0 x1 x2 => (g (tabl [(0, (.v (.v false [(.i .u32 x0)]))), (2, (.v (.v false [(.s x1)]))), (10, (.v (.v false [(.i .i64 x2)])))]))) (fun y0 y1 y2 => (K (.exit 0) (tabl [(0, (.v (.v false [(.i .u32 y0)]))), (2, (.v (.v false [(.s y1)]))), (10, (.v (.v false [(.i .i64 y2)])))]))) x0 x1 x2 := by intro g; kernel_rfl
    refine (h _).trans ?_
    show Pu.spec_SumMore.r2 N (fun x0 x1 x2 => (iter (exc E209 (it209 N) (loopOf Try.f209 2)) (canon (E209.keep 2))  n (tabl [(0, (.v (.v false [(.i .u32 x0)]))), (2, (.v (.v false [(.s x1)]))), (10, (.v (.v false [(.i .i64 x2)])))]) K)) (fun y0 y1 y2 => (K (.exit 0) (tabl [(0, (.v (.v false [(.i .u32 y0)]))), (2, (.v (.v false [(.s y1)]))), (10, (.v (.v false [(.i .i64 y2)])))]))) x0 x1 x2 = _
    rw [e0]; rfl
theorem lo209_2 {R : Type} (N : Nat) : LoopOk E209 (it209 N (R := R)) (loopOf Try.f209 2) := by
  have e : firstRid (loopOf Try.f209 2) = 2 := by kernel_rfl
  intro L K r
  rw [e]
  intro h
  unfold it209 at h
  simp only [show Nat.beq 2 2 = true from rfl, cond_false, cond_true] at h
  refine tell_ok (Q := fun L => ∃ n, iter (exc E209 (it209 N) (loopOf Try.f209 2)) (canon (E209.keep 2)) n (tabl L) K = some r) h (fun xs h => ?_) (fun h => ?_)
  · (try dsimp only at h)
    split at h
    · exact ⟨N, ((e209_2 N K N) _ _ _).trans h⟩
    · cases h
  cases h
theorem e209_6 {R : Type} (N : Nat) (K : Ex → St → Option R) : ∀ n : Nat, (∀ x3 x4 x5 x6, iter (exc E209 (it209 N) (loopOf Try.f209 6)) (canon (E209.keep 6))  n (tabl [(0, (.v (.v false [(.i .u32 x3)]))), (2, (.v (.v false [(.s x4)]))), (10, (.v (.v false [(.i .i64 x5)]))), (12, (.v (.v false [(.i .i64 x6)])))]) K = Pu.spec_SumMore.l6 N (fun y0 y1 y2 y3 => (K (.exit 2) (tabl [(0, (.v (.v false [(.i .u32 y0)]))), (2, (.v (.v false [(.s y1)]))), (10, (.v (.v false [(.i .i64 y2)]))), (12, (.v (.v false [(.i .i64 y3)])))]))) n x3 x4 x5 x6) := by
  intro n
  induction n with
  | zero => exact (fun _ _ _ _ => rfl)
  | succ n ih =>
    have e0 : (fun x3 x4 x5 x6 => iter (exc E209 (it209 N) (loopOf Try.f209 6)) (canon (E209.keep 6))  n (tabl [(0, (.v (.v false [(.i .u32 x3)]))), (2, (.v (.v false [(.s x4)]))), (10, (.v (.v false [(.i .i64 x5)]))), (12, (.v (.v false [(.i .i64 x6)])))]) K) = Pu.spec_SumMore.l6 N (fun y0 y1 y2 y3 => (K (.exit 2) (tabl [(0, (.v (.v false [(.i .u32 y0)]))), (2, (.v (.v false [(.s y1)]))), (10, (.v (.v false [(.i .i64 y2)]))), (12, (.v (.v false [(.i .i64 y3)])))]))) n := by funext x3 x4 x5 x6; exact ih x3 x4 x5 x6
    intro x3 x4 x5 x6
    have h : ∀ g, exc E209 (it209 N) (loopOf Try.f209 6) (tabl [(0, (.v (.v false [(.i .u32 x3)]))), (2, (.v (.v false [(.s x4)]))), (10, (.v (.v false [(.i .i64 x5)]))), (12, (.v (.v false [(.i .i64 x6)])))]) (iterK g (canon (E209.keep 6)) K) = Pu.spec_SumMore.r6 N (fun x3 x4 x5 x6 => (g (tabl [(0, (.v (.v false [(.i .u32 x3)]))), (2, (.v (.v false [(.s x4)]))), (10, (.v (.v false [(.i .i64 x5)]))), (12, (.v (.v false [(.i .i64 x6)])))]))) (fun y0 y1 y2 y3 => (K (.exit 2) (tabl [(0, (.v (.v false [(.i .u32 y0)]))), (2, (.v (.v false [(.s y1)]))), (10, (.v (.v false [(.i .i64 y2)]))), (12, (.v (.v false [(.i .i64 y3)])))]))) x3 x4 x5 x6 := by intro g; kernel_rfl
    refine (h _).trans ?_
    show Pu.spec_SumMore.r6 N (fun x3 x4 x5 x6 => (iter (exc E209 (it209 N) (loopOf Try.f209 6)) (canon (E209.keep 6))  n (tabl [(0, (.v (.v false [(.i .u32 x3)]))), (2, (.v (.v false [(.s x4)]))), (10, (.v (.v false [(.i .i64 x5)]))), (12, (.v (.v false [(.i .i64 x6)])))]) K)) (fun y0 y1 y2 y3 => (K (.exit 2) (tabl [(0, (.v (.v false [(.i .u32 y0)]))), (2, (.v (.v false [(.s y1)]))), (10, (.v (.v false [(.i .i64 y2)]))), (12, (.v (.v false [(.i .i64 y3)])))]))) x3 x4 x5 x6 = _
    rw [e0]; rfl
theorem lo209_6 {R : Type} (N : Nat) : LoopOk E209 (it209 N (R := R)) (loopOf Try.f209 6) := by
  have e : firstRid (loopOf Try.f209 6) = 6 := by kernel_rfl
  intro L K r
  rw [e]
  intro h
  unfold it209 at h
  simp only [show Nat.beq 6 2 = false from rfl, show Nat.beq 6 6 = true from rfl, cond_false, cond_true] at h
  refine tell_ok (Q := fun L => ∃ n, iter (exc E209 (it209 N) (loopOf Try.f209 6)) (canon (E209.keep 6)) n (tabl L) K = some r) h (fun xs h => ?_) (fun h => ?_)
  · (try dsimp only at h)
    split at h
    · exact ⟨N, ((e209_6 N K N) _ _ _ _).trans h⟩
    · cases h
  cases h
def sp209 : List Arg → Option (Bool × Res)
  | [(.v false [(.i .u32 sum0)]), (.v false [(.s text1)])] => some (Pu.spec_SumMore.c sum0 text1, ⟨[(.v false [(.i .u32 (Pu.spec_SumMore.v sum0 text1))])], []⟩)
  | _ => none
theorem ok209 : FnOk Try.prog T 209 sp209 := by
  refine fn_ok (E := E209) hE call_nil hM Try.func209 (code := (Try.f209.body.getD .skip)) (by kernel_rfl) (by kernel_rfl) ?_
  have key : ∀ (sum0 : Int) (text1 : ByteArray), Pu.spec_SumMore.c sum0 text1 = true → ∃ it : It Res, (∀ c ∈ loopsOf (Try.f209.body.getD .skip), LoopOk E209 it c) ∧ body E209 it Try.f209 [(.v false [(.i .u32 sum0)]), (.v false [(.s text1)])] = some ⟨[(.v false [(.i .u32 (Pu.spec_SumMore.v sum0 text1))])], []⟩ := by
    intro sum0 text1  h1
    obtain ⟨N, hN⟩ := Pu.spec_SumMore.b_eq (R := Res) (fun r0 => some ⟨[(.v false [(.i .u32 r0)])], []⟩) sum0 text1 h1
    have hl : loopsOf (Try.f209.body.getD .skip) = [loopOf Try.f209 2, loopOf Try.f209 6] := by kernel_rfl
    refine ⟨it209 N, by rw [hl]; exact (loops_cons (lo209_2 N) (loops_cons (lo209_6 N) loops_nil)), ?_⟩
    refine Eq.trans (show body E209 (it209 N) Try.f209 [(.v false [(.i .u32 sum0)]), (.v false [(.s text1)])] = Pu.spec_SumMore.b N (fun r0 => some ⟨[(.v false [(.i .u32 r0)])], []⟩) sum0 text1 by kernel_rfl) hN
  intro args r h
  unfold sp209 at h
  split at h
  · injection h with h
    injection h with h1 h2
    subst h2
    exact ⟨by kernel_rfl, fun hf => ⟨of_decide_eq_true (by kernel_rfl), key _ _ h1⟩⟩
  · cases h

end Go.FG.Se

namespace Go.FG.Se
open Go.Proofs
def E170 : Env := { toTab := T, call := Go.FG.callIn [(209, sp209)], mode := Go.FG.modeIn md, keep := Go.FG.keepIn [], tk := fun n => Go.FG.memB n [], om := Go.FG.omIn [] }
def sp170 : List Arg → Option (Bool × Res)
  | [(.v false [(.s text0)])] => some (Pu.spec_SumOf.c text0, ⟨[(.v false [(.i .u32 (Pu.spec_SumOf.v text0))])], []⟩)
  | _ => none
theorem ok170 : FnOk Try.prog T 170 sp170 := by
  refine fn_ok (E := E170) hE (call_cons ok209 call_nil) hM Try.func170 (code := (Try.f170.body.getD .skip)) (by kernel_rfl) (by kernel_rfl) ?_
  have key : ∀ (text0 : ByteArray), Pu.spec_SumOf.c text0 = true → ∃ it : It Res, (∀ c ∈ loopsOf (Try.f170.body.getD .skip), LoopOk E170 it c) ∧ body E170 it Try.f170 [(.v false [(.s text0)])] = some ⟨[(.v false [(.i .u32 (Pu.spec_SumOf.v text0))])], []⟩ := by
    intro text0  h1
    have hN := Pu.spec_SumOf.b_eq (R := Res) (fun r0 => some ⟨[(.v false [(.i .u32 r0)])], []⟩) text0 h1
    have hl : loopsOf (Try.f170.body.getD .skip) = [] := by kernel_rfl
    refine ⟨iterN 0, by rw [hl]; exact loops_nil, ?_⟩
    refine Eq.trans (show body E170 (iterN 0) Try.f170 [(.v false [(.s text0)])] = Pu.spec_SumOf.b (fun r0 => some ⟨[(.v false [(.i .u32 r0)])], []⟩) text0 by kernel_rfl) hN
  intro args r h
  unfold sp170 at h
  split at h
  · injection h with h
    injection h with h1 h2
    subst h2
    exact ⟨by kernel_rfl, fun hf => ⟨of_decide_eq_true (by kernel_rfl), key _ h1⟩⟩
  · cases h

end Go.FG.Se

namespace Go.FG.Se
open Go.Proofs
def E169 : Env := { toTab := T, call := Go.FG.callIn [], mode := Go.FG.modeIn md, keep := Go.FG.keepIn [], tk := fun n => Go.FG.memB n [], om := Go.FG.omIn [] }
def sp169 : List Arg → Option (Bool × Res)
  | [(.v false [(.i .u32 x0)])] => some (true, ⟨[(.v false [(.s (Pu.spec_l02Four.v x0))])], []⟩)
  | _ => none
theorem ok169 : FnOk Try.prog T 169 sp169 := by
  refine fn_ok (E := E169) hE call_nil hM Try.func169 (code := (Try.f169.body.getD .skip)) (by kernel_rfl) (by kernel_rfl) ?_
  have key : ∀ (x0 : Int), ∃ it : It Res, (∀ c ∈ loopsOf (Try.f169.body.getD .skip), LoopOk E169 it c) ∧ body E169 it Try.f169 [(.v false [(.i .u32 x0)])] = some ⟨[(.v false [(.s (Pu.spec_l02Four.v x0))])], []⟩ := by
    intro x0 
    have hN := Pu.spec_l02Four.b_eq (R := Res) (fun r0 => some ⟨[(.v false [(.s r0)])], []⟩) x0
    have hl : loopsOf (Try.f169.body.getD .skip) = [] := by kernel_rfl
    refine ⟨iterN 0, by rw [hl]; exact loops_nil, ?_⟩
    refine Eq.trans (show body E169 (iterN 0) Try.f169 [(.v false [(.i .u32 x0)])] = Pu.spec_l02Four.b (fun r0 => some ⟨[(.v false [(.s r0)])], []⟩) x0 by kernel_rfl) hN
  intro args r h
  unfold sp169 at h
  split at h
  · injection h with h
    injection h with h1 h2
    subst h2
    exact ⟨by kernel_rfl, fun hf => ⟨of_decide_eq_true (by kernel_rfl), key _⟩⟩
  · cases h

end Go.FG.Se

namespace Go.FG.Se
open Go.Proofs
def E97 : Env := { toTab := T, call := Go.FG.callIn [(95, sp95), (168, sp168), (170, sp170), (169, sp169)], mode := Go.FG.modeIn md, keep := Go.FG.keepIn [], tk := fun n => Go.FG.memB n [], om := Go.FG.omIn [] }
def sp97 : List Arg → Option (Bool × Res)
  | [(.v false [(.s text0)])] => some (Pu.spec_Frame.c text0, ⟨[(.v false [(.s ((Pu.spec_Frame.v text0).1))]), (.v false [(.b ((Pu.spec_Frame.v text0).2))])], []⟩)
  | _ => none
theorem ok97 : FnOk Try.prog T 97 sp97 := by
  refine fn_ok (E := E97) hE (call_cons ok95 (call_cons ok168 (call_cons ok170 (call_cons ok169 call_nil)))) hM Try.func97 (code := (Try.f97.body.getD .skip)) (by kernel_rfl) (by kernel_rfl) ?_
  have key : ∀ (text0 : ByteArray), Pu.spec_Frame.c text0 = true → ∃ it : It Res, (∀ c ∈ loopsOf (Try.f97.body.getD .skip), LoopOk E97 it c) ∧ body E97 it Try.f97 [(.v false [(.s text0)])] = some ⟨[(.v false [(.s ((Pu.spec_Frame.v text0).1))]), (.v false [(.b ((Pu.spec_Frame.v text0).2))])], []⟩ := by
    intro text0  h1
    have hN := Pu.spec_Frame.b_eq (R := Res) (fun r0 r1 => some ⟨[(.v false [(.s r0)]), (.v false [(.b r1)])], []⟩) text0 h1
    have hl : loopsOf (Try.f97.body.getD .skip) = [] := by kernel_rfl
    refine ⟨iterN 0, by rw [hl]; exact loops_nil, ?_⟩
    refine Eq.trans (show body E97 (iterN 0) Try.f97 [(.v false [(.s text0)])] = Pu.spec_Frame.b (fun r0 r1 => some ⟨[(.v false [(.s r0)]), (.v false [(.b r1)])], []⟩) text0 by kernel_rfl) hN
  intro args r h
  unfold sp97 at h
  split at h
  · injection h with h
    injection h with h1 h2
    subst h2
    exact ⟨by kernel_rfl, fun hf => ⟨of_decide_eq_true (by kernel_rfl), key _ h1⟩⟩
  · cases h

end Go.FG.Se

namespace Go.FG.Se
open Go.Proofs
def E21 : Env := { toTab := T, call := Go.FG.callIn [(96, sp96), (97, sp97)], mode := Go.FG.modeIn md, keep := Go.FG.keepIn [], tk := fun n => Go.FG.memB n [], om := Go.FG.omIn [] }
def sp21 : List Arg → Option (Bool × Res)
  | [(.v true [(.s e0_0), (.i .i64 e0_1), (.i .i64 e0_2), (.s e0_3)])] => some (Pu.spec_KeepActs.c e0_0 e0_1 e0_2 e0_3, ⟨[(.v false [(.ow 142 true ((Pu.spec_KeepActs.v e0_0 e0_1 e0_2 e0_3).1))]), (.v false [(.b ((Pu.spec_KeepActs.v e0_0 e0_1 e0_2 e0_3).2))])], []⟩)
  | _ => none
theorem ok21 : FnOk Try.prog T 21 sp21 := by
  refine fn_ok (E := E21) hE (call_cons ok96 (call_cons ok97 call_nil)) hM Try.func21 (code := (Try.f21.body.getD .skip)) (by kernel_rfl) (by kernel_rfl) ?_
  have key : ∀ (e0_0 : ByteArray) (e0_1 : Int) (e0_2 : Int) (e0_3 : ByteArray), Pu.spec_KeepActs.c e0_0 e0_1 e0_2 e0_3 = true → ∃ it : It Res, (∀ c ∈ loopsOf (Try.f21.body.getD .skip), LoopOk E21 it c) ∧ body E21 it Try.f21 [(.v true [(.s e0_0), (.i .i64 e0_1), (.i .i64 e0_2), (.s e0_3)])] = some ⟨[(.v false [(.ow 142 true ((Pu.spec_KeepActs.v e0_0 e0_1 e0_2 e0_3).1))]), (.v false [(.b ((Pu.spec_KeepActs.v e0_0 e0_1 e0_2 e0_3).2))])], []⟩ := by
    intro e0_0 e0_1 e0_2 e0_3  h1
    have hN := Pu.spec_KeepActs.b_eq (R := Res) (fun r0 r1 => some ⟨[(.v false [(.ow 142 true r0)]), (.v false [(.b r1)])], []⟩) e0_0 e0_1 e0_2 e0_3 h1
    have hl : loopsOf (Try.f21.body.getD .skip) = [] := by kernel_rfl
    refine ⟨iterN 0, by rw [hl]; exact loops_nil, ?_⟩
    refine Eq.trans (show body E21 (iterN 0) Try.f21 [(.v true [(.s e0_0), (.i .i64 e0_1), (.i .i64 e0_2), (.s e0_3)])] = Pu.spec_KeepActs.b (fun r0 r1 => some ⟨[(.v false [(.ow 142 true r0)]), (.v false [(.b r1)])], []⟩) e0_0 e0_1 e0_2 e0_3 by kernel_rfl) hN
  intro args r h
  unfold sp21 at h
  split at h
  · injection h with h
    injection h with h1 h2
    subst h2
    exact ⟨by kernel_rfl, fun hf => ⟨of_decide_eq_true (by kernel_rfl), key _ _ _ _ h1⟩⟩
  · cases h

end Go.FG.Se

namespace Go.FG.Se
open Go.Proofs
def E94 : Env := { toTab := T, call := Go.FG.callIn [], mode := Go.FG.modeIn md, keep := Go.FG.keepIn [], tk := fun n => Go.FG.memB n [], om := Go.FG.omIn [] }
def sp94 : List Arg → Option (Bool × Res)
  | [(.v false [(.i .i64 n0)]), (.v false [(.i .i64 low1)]), (.v false [(.i .i64 high2)])] => some (true, ⟨[(.v false [(.b (Pu.impl_within.v n0 low1 high2))])], []⟩)
  | _ => none
theorem ok94 : FnOk Try.prog T 94 sp94 := by
  refine fn_ok (E := E94) hE call_nil hM Try.func94 (code := (Try.f94.body.getD .skip)) (by kernel_rfl) (by kernel_rfl) ?_
  have key : ∀ (n0 : Int) (low1 : Int) (high2 : Int), ∃ it : It Res, (∀ c ∈ loopsOf (Try.f94.body.getD .skip), LoopOk E94 it c) ∧ body E94 it Try.f94 [(.v false [(.i .i64 n0)]), (.v false [(.i .i64 low1)]), (.v false [(.i .i64 high2)])] = some ⟨[(.v false [(.b (Pu.impl_within.v n0 low1 high2))])], []⟩ := by
    intro n0 low1 high2 
    have hN := Pu.impl_within.b_eq (R := Res) (fun r0 => some ⟨[(.v false [(.b r0)])], []⟩) n0 low1 high2
    have hl : loopsOf (Try.f94.body.getD .skip) = [] := by kernel_rfl
    refine ⟨iterN 0, by rw [hl]; exact loops_nil, ?_⟩
    refine Eq.trans (show body E94 (iterN 0) Try.f94 [(.v false [(.i .i64 n0)]), (.v false [(.i .i64 low1)]), (.v false [(.i .i64 high2)])] = Pu.impl_within.b (fun r0 => some ⟨[(.v false [(.b r0)])], []⟩) n0 low1 high2 by kernel_rfl) hN
  intro args r h
  unfold sp94 at h
  split at h
  · injection h with h
    injection h with h1 h2
    subst h2
    exact ⟨by kernel_rfl, fun hf => ⟨of_decide_eq_true (by kernel_rfl), key _ _ _⟩⟩
  · cases h

end Go.FG.Se

namespace Go.FG.Se
open Go.Proofs
def E110 : Env := { toTab := T, call := Go.FG.callIn [(94, sp94)], mode := Go.FG.modeIn md, keep := Go.FG.keepIn [], tk := fun n => Go.FG.memB n [], om := Go.FG.omIn [] }
def sp110 : List Arg → Option (Bool × Res)
  | [(.v false [(.s key0)])] => some (true, ⟨[(.v false [(.b (Pu.impl_isKey.v key0))])], []⟩)
  | _ => none
theorem ok110 : FnOk Try.prog T 110 sp110 := by
  refine fn_ok (E := E110) hE (call_cons ok94 call_nil) hM Try.func110 (code := (Try.f110.body.getD .skip)) (by kernel_rfl) (by kernel_rfl) ?_
  have key : ∀ (key0 : ByteArray), ∃ it : It Res, (∀ c ∈ loopsOf (Try.f110.body.getD .skip), LoopOk E110 it c) ∧ body E110 it Try.f110 [(.v false [(.s key0)])] = some ⟨[(.v false [(.b (Pu.impl_isKey.v key0))])], []⟩ := by
    intro key0 
    have hN := Pu.impl_isKey.b_eq (R := Res) (fun r0 => some ⟨[(.v false [(.b r0)])], []⟩) key0
    have hl : loopsOf (Try.f110.body.getD .skip) = [] := by kernel_rfl
    refine ⟨iterN 0, by rw [hl]; exact loops_nil, ?_⟩
    refine Eq.trans (show body E110 (iterN 0) Try.f110 [(.v false [(.s key0)])] = Pu.impl_isKey.b (fun r0 => some ⟨[(.v false [(.b r0)])], []⟩) key0 by kernel_rfl) hN
  intro args r h
  unfold sp110 at h
  split at h
  · injection h with h
    injection h with h1 h2
    subst h2
    exact ⟨by kernel_rfl, fun hf => ⟨of_decide_eq_true (by kernel_rfl), key _⟩⟩
  · cases h

end Go.FG.Se

namespace Go.FG.Se
open Go.Proofs
def E93 : Env := { toTab := T, call := Go.FG.callIn [(94, sp94)], mode := Go.FG.modeIn md, keep := Go.FG.keepIn [], tk := fun n => Go.FG.memB n [], om := Go.FG.omIn [] }
def sp93 : List Arg → Option (Bool × Res)
  | [(.v false [(.i .i64 n0)])] => some (true, ⟨[(.v false [(.b (Pu.impl_isNumber.v n0))])], []⟩)
  | _ => none
theorem ok93 : FnOk Try.prog T 93 sp93 := by
  refine fn_ok (E := E93) hE (call_cons ok94 call_nil) hM Try.func93 (code := (Try.f93.body.getD .skip)) (by kernel_rfl) (by kernel_rfl) ?_
  have key : ∀ (n0 : Int), ∃ it : It Res, (∀ c ∈ loopsOf (Try.f93.body.getD .skip), LoopOk E93 it c) ∧ body E93 it Try.f93 [(.v false [(.i .i64 n0)])] = some ⟨[(.v false [(.b (Pu.impl_isNumber.v n0))])], []⟩ := by
    intro n0 
    have hN := Pu.impl_isNumber.b_eq (R := Res) (fun r0 => some ⟨[(.v false [(.b r0)])], []⟩) n0
    have hl : loopsOf (Try.f93.body.getD .skip) = [] := by kernel_rfl
    refine ⟨iterN 0, by rw [hl]; exact loops_nil, ?_⟩
    refine Eq.trans (show body E93 (iterN 0) Try.f93 [(.v false [(.i .i64 n0)])] = Pu.impl_isNumber.b (fun r0 => some ⟨[(.v false [(.b r0)])], []⟩) n0 by kernel_rfl) hN
  intro args r h
  unfold sp93 at h
  split at h
  · injection h with h
    injection h with h1 h2
    subst h2
    exact ⟨by kernel_rfl, fun hf => ⟨of_decide_eq_true (by kernel_rfl), key _⟩⟩
  · cases h

end Go.FG.Se

namespace Go.FG.Se
open Go.Proofs
def E33 : Env := { toTab := T, call := Go.FG.callIn [(110, sp110), (93, sp93), (94, sp94)], mode := Go.FG.modeIn md, keep := Go.FG.keepIn [], tk := fun n => Go.FG.memB n [], om := Go.FG.omIn [] }
def sp33 : List Arg → Option (Bool × Res)
  | [(.v true [(.s e0_0), (.i .i64 e0_1), (.i .i64 e0_2), (.s e0_3)])] => some (true, ⟨[(.v false [(.b (Pu.impl_EntryOk.v e0_0 e0_1 e0_2 e0_3))])], []⟩)
  | _ => none
theorem ok33 : FnOk Try.prog T 33 sp33 := by
  refine fn_ok (E := E33) hE (call_cons ok110 (call_cons ok93 (call_cons ok94 call_nil))) hM Try.func33 (code := (Try.f33.body.getD .skip)) (by kernel_rfl) (by kernel_rfl) ?_
  have key : ∀ (e0_0 : ByteArray) (e0_1 : Int) (e0_2 : Int) (e0_3 : ByteArray), ∃ it : It Res, (∀ c ∈ loopsOf (Try.f33.body.getD .skip), LoopOk E33 it c) ∧ body E33 it Try.f33 [(.v true [(.s e0_0), (.i .i64 e0_1), (.i .i64 e0_2), (.s e0_3)])] = some ⟨[(.v false [(.b (Pu.impl_EntryOk.v e0_0 e0_1 e0_2 e0_3))])], []⟩ := by
    intro e0_0 e0_1 e0_2 e0_3 
    have hN := Pu.impl_EntryOk.b_eq (R := Res) (fun r0 => some ⟨[(.v false [(.b r0)])], []⟩) e0_0 e0_1 e0_2 e0_3
    have hl : loopsOf (Try.f33.body.getD .skip) = [] := by kernel_rfl
    refine ⟨iterN 0, by rw [hl]; exact loops_nil, ?_⟩
    refine Eq.trans (show body E33 (iterN 0) Try.f33 [(.v true [(.s e0_0), (.i .i64 e0_1), (.i .i64 e0_2), (.s e0_3)])] = Pu.impl_EntryOk.b (fun r0 => some ⟨[(.v false [(.b r0)])], []⟩) e0_0 e0_1 e0_2 e0_3 by kernel_rfl) hN
  intro args r h
  unfold sp33 at h
  split at h
  · injection h with h
    injection h with h1 h2
    subst h2
    exact ⟨by kernel_rfl, fun hf => ⟨of_decide_eq_true (by kernel_rfl), key _ _ _ _⟩⟩
  · cases h

end Go.FG.Se

namespace Go.FG.Se
open Go.Proofs
def E102 : Env := { toTab := T, call := Go.FG.callIn [(94, sp94)], mode := Go.FG.modeIn md, keep := Go.FG.keepIn [(4, [0, 4])], tk := fun n => Go.FG.memB n [], om := Go.FG.omIn [] }
def it102 (N : Nat) {R : Type} : It R := fun rid f cn L K => bif Nat.beq rid 4 then (tell [(0, (.v (.v false [(.i .i64 0)]))), (8, (.v (.v false [(.own 0)]))), (1, (.o (.row 5 true [])))] (fun | [.I x0, .R x1] => Pu.impl_VarText.l4 N (fun y0 y1 => (K (.exit 0) (tabl [(0, (.v (.v false [(.i .i64 y0)]))), (8, (.v (.v false [(.own 0)]))), (1, (.o (.row 5 true y1)))]))) N x0 x1 | _ => none) L (none)) else none
theorem e102_4 {R : Type} (N : Nat) (K : Ex → St → Option R) : ∀ n : Nat, (∀ x0 x1, iter (exc E102 (it102 N) (loopOf Try.f102 4)) (canon (E102.keep 4))  n (tabl [(0, (.v (.v false [(.i .i64 x0)]))), (8, (.v (.v false [(.own 0)]))), (1, (.o (.row 5 true x1)))]) K = Pu.impl_VarText.l4 N (fun y0 y1 => (K (.exit 0) (tabl [(0, (.v (.v false [(.i .i64 y0)]))), (8, (.v (.v false [(.own 0)]))), (1, (.o (.row 5 true y1)))]))) n x0 x1) := by
  intro n
  induction n with
  | zero => exact (fun _ _ => rfl)
  | succ n ih =>
    have e0 : (fun x0 x1 => iter (exc E102 (it102 N) (loopOf Try.f102 4)) (canon (E102.keep 4))  n (tabl [(0, (.v (.v false [(.i .i64 x0)]))), (8, (.v (.v false [(.own 0)]))), (1, (.o (.row 5 true x1)))]) K) = Pu.impl_VarText.l4 N (fun y0 y1 => (K (.exit 0) (tabl [(0, (.v (.v false [(.i .i64 y0)]))), (8, (.v (.v false [(.own 0)]))), (1, (.o (.row 5 true y1)))]))) n := by funext x0 x1; exact ih x0 x1
    intro x0 x1
    have h : ∀ g, exc E102 (it102 N) (loopOf Try.f102 4) (tabl [(0, (.v (.v false [(.i .i64 x0)]))), (8, (.v (.v false [(.own 0)]))), (1, (.o (.row 5 true x1)))]) (iterK g (canon (E102.keep 4)) K) = Pu.impl_VarText.r4 N (fun x0 x1 => (g (tabl [(0, (.v (.v false [(.i .i64 x0)]))), (8, (.v (.v false [(.own 0)]))), (1, (.o (.row 5 true x1)))]))) (fun y0 y1 => (K (.exit 0) (tabl [(0, (.v (.v false [(.i .i64 y0)]))), (8, (.v (.v false [(.own 0)]))), (1, (.o (.row 5 true y1)))]))) x0 x1 := by intro g; kernel_rfl
    refine (h _).trans ?_
    show Pu.impl_VarText.r4 N (fun x0 x1 => (iter (exc E102 (it102 N) (loopOf Try.f102 4)) (canon (E102.keep 4))  n (tabl [(0, (.v (.v false [(.i .i64 x0)]))), (8, (.v (.v false [(.own 0)]))), (1, (.o (.row 5 true x1)))]) K)) (fun y0 y1 => (K (.exit 0) (tabl [(0, (.v (.v false [(.i .i64 y0)]))), (8, (.v (.v false [(.own 0)]))), (1, (.o (.row 5 true y1)))]))) x0 x1 = _
    rw [e0]; rfl
theorem lo102_4 {R : Type} (N : Nat) : LoopOk E102 (it102 N (R := R)) (loopOf Try.f102 4) := by
  have e : firstRid (loopOf Try.f102 4) = 4 := by kernel_rfl
  intro L K r
  rw [e]
  intro h
  unfold it102 at h
  simp only [show Nat.beq 4 4 = true from rfl, cond_false, cond_true] at h
  refine tell_ok (Q := fun L => ∃ n, iter (exc E102 (it102 N) (loopOf Try.f102 4)) (canon (E102.keep 4)) n (tabl L) K = some r) h (fun xs h => ?_) (fun h => ?_)
  · (try dsimp only at h)
    split at h
    · exact ⟨N, ((e102_4 N K N) _ _).trans h⟩
    · cases h
  cases h
def sp102 : List Arg → Option (Bool × Res)
  | [(.v false [(.i .i64 n0)])] => some (true, ⟨[(.v false [(.s ((Pu.impl_VarText.v n0).1))]), (.v false [(.b ((Pu.impl_VarText.v n0).2))])], []⟩)
  | _ => none
theorem ok102 : FnOk Try.prog T 102 sp102 := by
  refine fn_ok (E := E102) hE (call_cons ok94 call_nil) hM Try.func102 (code := (Try.f102.body.getD .skip)) (by kernel_rfl) (by kernel_rfl) ?_
  have key : ∀ (n0 : Int), ∃ it : It Res, (∀ c ∈ loopsOf (Try.f102.body.getD .skip), LoopOk E102 it c) ∧ body E102 it Try.f102 [(.v false [(.i .i64 n0)])] = some ⟨[(.v false [(.s ((Pu.impl_VarText.v n0).1))]), (.v false [(.b ((Pu.impl_VarText.v n0).2))])], []⟩ := by
    intro n0 
    obtain ⟨N, hN⟩ := Pu.impl_VarText.b_eq (R := Res) (fun r0 r1 => some ⟨[(.v false [(.s r0)]), (.v false [(.b r1)])], []⟩) n0
    have hl : loopsOf (Try.f102.body.getD .skip) = [loopOf Try.f102 4] := by kernel_rfl
    refine ⟨it102 N, by rw [hl]; exact (loops_cons (lo102_4 N) loops_nil), ?_⟩
    refine Eq.trans (show body E102 (it102 N) Try.f102 [(.v false [(.i .i64 n0)])] = Pu.impl_VarText.b N (fun r0 r1 => some ⟨[(.v false [(.s r0)]), (.v false [(.b r1)])], []⟩) n0 by kernel_rfl) hN
  intro args r h
  unfold sp102 at h
  split at h
  · injection h with h
    injection h with h1 h2
    subst h2
    exact ⟨by kernel_rfl, fun hf => ⟨of_decide_eq_true (by kernel_rfl), key _⟩⟩
  · cases h

end Go.FG.Se

namespace Go.FG.Se
open Go.Proofs
def E101 : Env := { toTab := T, call := Go.FG.callIn [(102, sp102)], mode := Go.FG.modeIn md, keep := Go.FG.keepIn [], tk := fun n => Go.FG.memB n [], om := Go.FG.omIn [] }
def sp101 : List Arg → Option (Bool × Res)
  | [(.v false [(.s s0)])] => some (true, ⟨[(.v false [(.s ((Pu.impl_ShortText.v s0).1))]), (.v false [(.b ((Pu.impl_ShortText.v s0).2))])], []⟩)
  | _ => none
theorem ok101 : FnOk Try.prog T 101 sp101 := by
  refine fn_ok (E := E101) hE (call_cons ok102 call_nil) hM Try.func101 (code := (Try.f101.body.getD .skip)) (by kernel_rfl) (by kernel_rfl) ?_
  have key : ∀ (s0 : ByteArray), ∃ it : It Res, (∀ c ∈ loopsOf (Try.f101.body.getD .skip), LoopOk E101 it c) ∧ body E101 it Try.f101 [(.v false [(.s s0)])] = some ⟨[(.v false [(.s ((Pu.impl_ShortText.v s0).1))]), (.v false [(.b ((Pu.impl_ShortText.v s0).2))])], []⟩ := by
    intro s0 
    have hN := Pu.impl_ShortText.b_eq (R := Res) (fun r0 r1 => some ⟨[(.v false [(.s r0)]), (.v false [(.b r1)])], []⟩) s0
    have hl : loopsOf (Try.f101.body.getD .skip) = [] := by kernel_rfl
    refine ⟨iterN 0, by rw [hl]; exact loops_nil, ?_⟩
    refine Eq.trans (show body E101 (iterN 0) Try.f101 [(.v false [(.s s0)])] = Pu.impl_ShortText.b (fun r0 r1 => some ⟨[(.v false [(.s r0)]), (.v false [(.b r1)])], []⟩) s0 by kernel_rfl) hN
  intro args r h
  unfold sp101 at h
  split at h
  · injection h with h
    injection h with h1 h2
    subst h2
    exact ⟨by kernel_rfl, fun hf => ⟨of_decide_eq_true (by kernel_rfl), key _⟩⟩
  · cases h

end Go.FG.Se

namespace Go.FG.Se
open Go.Proofs
def E28 : Env := { toTab := T, call := Go.FG.callIn [(33, sp33), (101, sp101), (102, sp102)], mode := Go.FG.modeIn md, keep := Go.FG.keepIn [], tk := fun n => Go.FG.memB n [], om := Go.FG.omIn [] }
def sp28 : List Arg → Option (Bool × Res)
  | [(.v true [(.s e0_0), (.i .i64 e0_1), (.i .i64 e0_2), (.s e0_3)])] => some (true, ⟨[(.v false [(.s ((Pu.impl_EntryText.v e0_0 e0_1 e0_2 e0_3).1))]), (.v false [(.b ((Pu.impl_EntryText.v e0_0 e0_1 e0_2 e0_3).2))])], []⟩)
  | _ => none
theorem ok28 : FnOk Try.prog T 28 sp28 := by
  refine fn_ok (E := E28) hE (call_cons ok33 (call_cons ok101 (call_cons ok102 call_nil))) hM Try.func28 (code := (Try.f28.body.getD .skip)) (by kernel_rfl) (by kernel_rfl) ?_
  have key : ∀ (e0_0 : ByteArray) (e0_1 : Int) (e0_2 : Int) (e0_3 : ByteArray), ∃ it : It Res, (∀ c ∈ loopsOf (Try.f28.body.getD .skip), LoopOk E28 it c) ∧ body E28 it Try.f28 [(.v true [(.s e0_0), (.i .i64 e0_1), (.i .i64 e0_2), (.s e0_3)])] = some ⟨[(.v false [(.s ((Pu.impl_EntryText.v e0_0 e0_1 e0_2 e0_3).1))]), (.v false [(.b ((Pu.impl_EntryText.v e0_0 e0_1 e0_2 e0_3).2))])], []⟩ := by
    intro e0_0 e0_1 e0_2 e0_3 
    have hN := Pu.impl_EntryText.b_eq (R := Res) (fun r0 r1 => some ⟨[(.v false [(.s r0)]), (.v false [(.b r1)])], []⟩) e0_0 e0_1 e0_2 e0_3
    have hl : loopsOf (Try.f28.body.getD .skip) = [] := by kernel_rfl
    refine ⟨iterN 0, by rw [hl]; exact loops_nil, ?_⟩
    refine Eq.trans (show body E28 (iterN 0) Try.f28 [(.v true [(.s e0_0), (.i .i64 e0_1), (.i .i64 e0_2), (.s e0_3)])] = Pu.impl_EntryText.b (fun r0 r1 => some ⟨[(.v false [(.s r0)]), (.v false [(.b r1)])], []⟩) e0_0 e0_1 e0_2 e0_3 by kernel_rfl) hN
  intro args r h
  unfold sp28 at h
  split at h
  · injection h with h
    injection h with h1 h2
    subst h2
    exact ⟨by kernel_rfl, fun hf => ⟨of_decide_eq_true (by kernel_rfl), key _ _ _ _⟩⟩
  · cases h

end Go.FG.Se

namespace Go.FG.Se
open Go.Proofs
def E227 : Env := { toTab := T, call := Go.FG.callIn [], mode := Go.FG.modeIn md, keep := Go.FG.keepIn [(2, [0, 1, 5]), (6, [0, 1, 5, 19])], tk := fun n => Go.FG.memB n [], om := Go.FG.omIn [] }
def it227 (N : Nat) {R : Type} : It R := fun rid f cn L K => bif Nat.beq rid 2 then (tell [(0, (.v (.v false [(.i .u32 0)]))), (2, (.v (.v false [(.s ⟨#[]⟩)]))), (10, (.v (.v false [(.i .i64 0)])))] (fun | [.I x0, .S x1, .I x2] => Pu.impl_SumMore.l2 N (fun y0 y1 y2 => (K (.exit 0) (tabl [(0, (.v (.v false [(.i .u32 y0)]))), (2, (.v (.v false [(.s y1)]))), (10, (.v (.v false [(.i .i64 y2)])))]))) N x0 x1 x2 | _ => none) L (none)) else bif Nat.beq rid 6 then (tell [(0, (.v (.v false [(.i .u32 0)]))), (2, (.v (.v false [(.s ⟨#[]⟩)]))), (10, (.v (.v false [(.i .i64 0)]))), (38, (.v (.v false [(.i .i64 0)])))] (fun | [.I x3, .S x4, .I x5, .I x6] => Pu.impl_SumMore.l6 N (fun y0 y1 y2 y3 => (K (.exit 2) (tabl [(0, (.v (.v false [(.i .u32 y0)]))), (2, (.v (.v false [(.s y1)]))), (10, (.v (.v false [(.i .i64 y2)]))), (38, (.v (.v false [(.i .i64 y3)])))]))) N x3 x4 x5 x6 | _ => none) L (none)) else none
theorem e227_2 {R : Type} (N : Nat) (K : Ex → St → Option R) : ∀ n : Nat, (∀ x0 x1 x2, iter (exc E227 (it227 N) (loopOf Try.f227 2)) (canon (E227.keep 2))  n (tabl [(0, (.v (.v false [(.i .u32 x0)]))), (2, (.v (.v false [(.s x1)]))), (10, (.v (.v false [(.i .i64 x2)])))]) K = Pu.impl_SumMore.l2 N (fun y0 y1 y2 => (K (.exit 0) (tabl [(0, (.v (.v false [(.i .u32 y0)]))), (2, (.v (.v false [(.s y1)]))), (10, (.v (.v false [(.i .i64 y2)])))]))) n x0 x1 x2) := by
  intro n
  induction n with
  | zero => exact (fun _ _ _ => rfl)
  | succ n ih =>
    have e0 : (fun x0 x1 x2 => iter (exc E227 (it227 N) (loopOf Try.f227 2)) (canon (E227.keep 2))  n (tabl [(0, (.v (.v false [(.i .u32 x0)]))), (2, (.v (.v false [(.s x1)]))), (10, (.v (.v false [(.i .i64 x2)])))]) K) = Pu.impl_SumMore.l2 N (fun y0 y1 y2 => (K (.exit 0) (tabl [(0, (.v (.v false [(.i .u32 y0)]))), (2, (.v (.v false [(.s y1)]))), (10, (.v (.v false [(.i .i64 y2)])))]))) n := by funext x0 x1 x2; exact ih x0 x1 x2
    intro x0 x1 x2
    have h : ∀ g, exc E227 (it227 N) (loopOf Try.f227 2) (tabl [(0, (.v (.v false [(.i .u32 x0)]))), (2, (.v (.v false [(.s x1)]))), (10, (.v (.v false [(.i .i64 x2)])))]) (iterK g (canon (E227.keep 2)) K) = Pu.impl_SumMore.r2 N (fun x0 x1 x2 => (g (tabl [(0, (.v (.v false [(.i .u32 x0)]))), (2, (.v (.v false [(.s x1)]))), (10, (.v (.v false [(.i .i64 x2)])))]))) (fun y0 y1 y2 => (K (.exit 0) (tabl [(0, (.v (.v false [(.i .u32 y0)]))), (2, (.v (.v false [(.s y1)]))), (10, (.v (.v false [(.i .i64 y2)])))]))) x0 x1 x2 := by intro g; kernel_rfl
    refine (h _).trans ?_
    show Pu.impl_SumMore.r2 N (fun x0 x1 x2 => (iter (exc E227 (it227 N) (loopOf Try.f227 2)) (canon (E227.keep 2))  n (tabl [(0, (.v (.v false [(.i .u32 x0)]))), (2, (.v (.v false [(.s x1)]))), (10, (.v (.v false [(.i .i64 x2)])))]) K)) (fun y0 y1 y2 => (K (.exit 0) (tabl [(0, (.v (.v false [(.i .u32 y0)]))), (2, (.v (.v false [(.s y1)]))), (10, (.v (.v false [(.i .i64 y2)])))]))) x0 x1 x2 = _
    rw [e0]; rfl
theorem lo227_2 {R : Type} (N : Nat) : LoopOk E227 (it227 N (R := R)) (loopOf Try.f227 2) := by
  have e : firstRid (loopOf Try.f227 2) = 2 := by kernel_rfl
  intro L K r
  rw [e]
  intro h
  unfold it227 at h
  simp only [show Nat.beq 2 2 = true from rfl, cond_false, cond_true] at h
  refine tell_ok (Q := fun L => ∃ n, iter (exc E227 (it227 N) (loopOf Try.f227 2)) (canon (E227.keep 2)) n (tabl L) K = some r) h (fun xs h => ?_) (fun h => ?_)
  · (try dsimp only at h)
    split at h
    · exact ⟨N, ((e227_2 N K N) _ _ _).trans h⟩
    · cases h
  cases h
theorem e227_6 {R : Type} (N : Nat) (K : Ex → St → Option R) : ∀ n : Nat, (∀ x3 x4 x5 x6, iter (exc E227 (it227 N) (loopOf Try.f227 6)) (canon (E227.keep 6))  n (tabl [(0, (.v (.v false [(.i .u32 x3)]))), (2, (.v (.v false [(.s x4)]))), (10, (.v (.v false [(.i .i64 x5)]))), (38, (.v (.v false [(.i .i64 x6)])))]) K = Pu.impl_SumMore.l6 N (fun y0 y1 y2 y3 => (K (.exit 2) (tabl [(0, (.v (.v false [(.i .u32 y0)]))), (2, (.v (.v false [(.s y1)]))), (10, (.v (.v false [(.i .i64 y2)]))), (38, (.v (.v false [(.i .i64 y3)])))]))) n x3 x4 x5 x6) := by
  intro n
  induction n with
  | zero => exact (fun _ _ _ _ => rfl)
  | succ n ih =>
    have e0 : (fun x3 x4 x5 x6 => iter (exc E227 (it227 N) (loopOf Try.f227 6)) (canon (E227.keep 6))  n (tabl [(0, (.v (.v false [(.i .u32 x3)]))), (2, (.v (.v false [(.s x4)]))), (10, (.v (.v false [(.i .i64 x5)]))), (38, (.v (.v false [(.i .i64 x6)])))]) K) = Pu.impl_SumMore.l6 N (fun y0 y1 y2 y3 => (K (.exit 2) (tabl [(0, (.v (.v false [(.i .u32 y0)]))), (2, (.v (.v false [(.s y1)]))), (10, (.v (.v false [(.i .i64 y2)]))), (38, (.v (.v false [(.i .i64 y3)])))]))) n := by funext x3 x4 x5 x6; exact ih x3 x4 x5 x6
    intro x3 x4 x5 x6
    have h : ∀ g, exc E227 (it227 N) (loopOf Try.f227 6) (tabl [(0, (.v (.v false [(.i .u32 x3)]))), (2, (.v (.v false [(.s x4)]))), (10, (.v (.v false [(.i .i64 x5)]))), (38, (.v (.v false [(.i .i64 x6)])))]) (iterK g (canon (E227.keep 6)) K) = Pu.impl_SumMore.r6 N (fun x3 x4 x5 x6 => (g (tabl [(0, (.v (.v false [(.i .u32 x3)]))), (2, (.v (.v false [(.s x4)]))), (10, (.v (.v false [(.i .i64 x5)]))), (38, (.v (.v false [(.i .i64 x6)])))]))) (fun y0 y1 y2 y3 => (K (.exit 2) (tabl [(0, (.v (.v false [(.i .u32 y0)]))), (2, (.v (.v false [(.s y1)]))), (10, (.v (.v false [(.i .i64 y2)]))), (38, (.v (.v false [(.i .i64 y3)])))]))) x3 x4 x5 x6 := by intro g; kernel_rfl
    refine (h _).trans ?_
    show Pu.impl_SumMore.r6 N (fun x3 x4 x5 x6 => (iter (exc E227 (it227 N) (loopOf Try.f227 6)) (canon (E227.keep 6))  n (tabl [(0, (.v (.v false [(.i .u32 x3)]))), (2, (.v (.v false [(.s x4)]))), (10, (.v (.v false [(.i .i64 x5)]))), (38, (.v (.v false [(.i .i64 x6)])))]) K)) (fun y0 y1 y2 y3 => (K (.exit 2) (tabl [(0, (.v (.v false [(.i .u32 y0)]))), (2, (.v (.v false [(.s y1)]))), (10, (.v (.v false [(.i .i64 y2)]))), (38, (.v (.v false [(.i .i64 y3)])))]))) x3 x4 x5 x6 = _
    rw [e0]; rfl
theorem lo227_6 {R : Type} (N : Nat) : LoopOk E227 (it227 N (R := R)) (loopOf Try.f227 6) := by
  have e : firstRid (loopOf Try.f227 6) = 6 := by kernel_rfl
  intro L K r
  rw [e]
  intro h
  unfold it227 at h
  simp only [show Nat.beq 6 2 = false from rfl, show Nat.beq 6 6 = true from rfl, cond_false, cond_true] at h
  refine tell_ok (Q := fun L => ∃ n, iter (exc E227 (it227 N) (loopOf Try.f227 6)) (canon (E227.keep 6)) n (tabl L) K = some r) h (fun xs h => ?_) (fun h => ?_)
  · (try dsimp only at h)
    split at h
    · exact ⟨N, ((e227_6 N K N) _ _ _ _).trans h⟩
    · cases h
  cases h
def sp227 : List Arg → Option (Bool × Res)
  | [(.v false [(.i .u32 sum0)]), (.v false [(.s text1)])] => some (Pu.impl_SumMore.c sum0 text1, ⟨[(.v false [(.i .u32 (Pu.impl_SumMore.v sum0 text1))])], []⟩)
  | _ => none
theorem ok227 : FnOk Try.prog T 227 sp227 := by
  refine fn_ok (E := E227) hE call_nil hM Try.func227 (code := (Try.f227.body.getD .skip)) (by kernel_rfl) (by kernel_rfl) ?_
  have key : ∀ (sum0 : Int) (text1 : ByteArray), Pu.impl_SumMore.c sum0 text1 = true → ∃ it : It Res, (∀ c ∈ loopsOf (Try.f227.body.getD .skip), LoopOk E227 it c) ∧ body E227 it Try.f227 [(.v false [(.i .u32 sum0)]), (.v false [(.s text1)])] = some ⟨[(.v false [(.i .u32 (Pu.impl_SumMore.v sum0 text1))])], []⟩ := by
    intro sum0 text1  h1
    obtain ⟨N, hN⟩ := Pu.impl_SumMore.b_eq (R := Res) (fun r0 => some ⟨[(.v false [(.i .u32 r0)])], []⟩) sum0 text1 h1
    have hl : loopsOf (Try.f227.body.getD .skip) = [loopOf Try.f227 2, loopOf Try.f227 6] := by kernel_rfl
    refine ⟨it227 N, by rw [hl]; exact (loops_cons (lo227_2 N) (loops_cons (lo227_6 N) loops_nil)), ?_⟩
    refine Eq.trans (show body E227 (it227 N) Try.f227 [(.v false [(.i .u32 sum0)]), (.v false [(.s text1)])] = Pu.impl_SumMore.b N (fun r0 => some ⟨[(.v false [(.i .u32 r0)])], []⟩) sum0 text1 by kernel_rfl) hN
  intro args r h
  unfold sp227 at h
  split at h
  · injection h with h
    injection h with h1 h2
    subst h2
    exact ⟨by kernel_rfl, fun hf => ⟨of_decide_eq_true (by kernel_rfl), key _ _ h1⟩⟩
  · cases h

end Go.FG.Se

namespace Go.FG.Se
open Go.Proofs
def E218 : Env := { toTab := T, call := Go.FG.callIn [(227, sp227)], mode := Go.FG.modeIn md, keep := Go.FG.keepIn [], tk := fun n => Go.FG.memB n [], om := Go.FG.omIn [] }
def sp218 : List Arg → Option (Bool × Res)
  | [(.v false [(.s text0)])] => some (Pu.impl_SumOf.c text0, ⟨[(.v false [(.i .u32 (Pu.impl_SumOf.v text0))])], []⟩)
  | _ => none
theorem ok218 : FnOk Try.prog T 218 sp218 := by
  refine fn_ok (E := E218) hE (call_cons ok227 call_nil) hM Try.func218 (code := (Try.f218.body.getD .skip)) (by kernel_rfl) (by kernel_rfl) ?_
  have key : ∀ (text0 : ByteArray), Pu.impl_SumOf.c text0 = true → ∃ it : It Res, (∀ c ∈ loopsOf (Try.f218.body.getD .skip), LoopOk E218 it c) ∧ body E218 it Try.f218 [(.v false [(.s text0)])] = some ⟨[(.v false [(.i .u32 (Pu.impl_SumOf.v text0))])], []⟩ := by
    intro text0  h1
    have hN := Pu.impl_SumOf.b_eq (R := Res) (fun r0 => some ⟨[(.v false [(.i .u32 r0)])], []⟩) text0 h1
    have hl : loopsOf (Try.f218.body.getD .skip) = [] := by kernel_rfl
    refine ⟨iterN 0, by rw [hl]; exact loops_nil, ?_⟩
    refine Eq.trans (show body E218 (iterN 0) Try.f218 [(.v false [(.s text0)])] = Pu.impl_SumOf.b (fun r0 => some ⟨[(.v false [(.i .u32 r0)])], []⟩) text0 by kernel_rfl) hN
  intro args r h
  unfold sp218 at h
  split at h
  · injection h with h
    injection h with h1 h2
    subst h2
    exact ⟨by kernel_rfl, fun hf => ⟨of_decide_eq_true (by kernel_rfl), key _ h1⟩⟩
  · cases h

end Go.FG.Se

namespace Go.FG.Se
open Go.Proofs
def E206 : Env := { toTab := T, call := Go.FG.callIn [(218, sp218)], mode := Go.FG.modeIn md, keep := Go.FG.keepIn [], tk := fun n => Go.FG.memB n [], om := Go.FG.omIn [] }
def sp206 : List Arg → Option (Bool × Res)
  | [(.v false [(.s text0)])] => some (Pu.impl_sumText.c text0, ⟨[(.v false [(.s (Pu.impl_sumText.v text0))])], []⟩)
  | _ => none
theorem ok206 : FnOk Try.prog T 206 sp206 := by
  refine fn_ok (E := E206) hE (call_cons ok218 call_nil) hM Try.func206 (code := (Try.f206.body.getD .skip)) (by kernel_rfl) (by kernel_rfl) ?_
  have key : ∀ (text0 : ByteArray), Pu.impl_sumText.c text0 = true → ∃ it : It Res, (∀ c ∈ loopsOf (Try.f206.body.getD .skip), LoopOk E206 it c) ∧ body E206 it Try.f206 [(.v false [(.s text0)])] = some ⟨[(.v false [(.s (Pu.impl_sumText.v text0))])], []⟩ := by
    intro text0  h1
    have hN := Pu.impl_sumText.b_eq (R := Res) (fun r0 => some ⟨[(.v false [(.s r0)])], []⟩) text0 h1
    have hl : loopsOf (Try.f206.body.getD .skip) = [] := by kernel_rfl
    refine ⟨iterN 0, by rw [hl]; exact loops_nil, ?_⟩
    refine Eq.trans (show body E206 (iterN 0) Try.f206 [(.v false [(.s text0)])] = Pu.impl_sumText.b (fun r0 => some ⟨[(.v false [(.s r0)])], []⟩) text0 by kernel_rfl) hN
  intro args r h
  unfold sp206 at h
  split at h
  · injection h with h
    injection h with h1 h2
    subst h2
    exact ⟨by kernel_rfl, fun hf => ⟨of_decide_eq_true (by kernel_rfl), key _ h1⟩⟩
  · cases h

end Go.FG.Se

namespace Go.FG.Se
open Go.Proofs
def E171 : Env := { toTab := T, call := Go.FG.callIn [(94, sp94), (102, sp102), (206, sp206)], mode := Go.FG.modeIn md, keep := Go.FG.keepIn [], tk := fun n => Go.FG.memB n [], om := Go.FG.omIn [] }
def sp171 : List Arg → Option (Bool × Res)
  | [(.v false [(.s text0)])] => some (Pu.impl_Frame.c text0, ⟨[(.v false [(.s ((Pu.impl_Frame.v text0).1))]), (.v false [(.b ((Pu.impl_Frame.v text0).2))])], []⟩)
  | _ => none
theorem ok171 : FnOk Try.prog T 171 sp171 := by
  refine fn_ok (E := E171) hE (call_cons ok94 (call_cons ok102 (call_cons ok206 call_nil))) hM Try.func171 (code := (Try.f171.body.getD .skip)) (by kernel_rfl) (by kernel_rfl) ?_
  have key : ∀ (text0 : ByteArray), Pu.impl_Frame.c text0 = true → ∃ it : It Res, (∀ c ∈ loopsOf (Try.f171.body.getD .skip), LoopOk E171 it c) ∧ body E171 it Try.f171 [(.v false [(.s text0)])] = some ⟨[(.v false [(.s ((Pu.impl_Frame.v text0).1))]), (.v false [(.b ((Pu.impl_Frame.v text0).2))])], []⟩ := by
    intro text0  h1
    have hN := Pu.impl_Frame.b_eq (R := Res) (fun r0 r1 => some ⟨[(.v false [(.s r0)]), (.v false [(.b r1)])], []⟩) text0 h1
    have hl : loopsOf (Try.f171.body.getD .skip) = [] := by kernel_rfl
    refine ⟨iterN 0, by rw [hl]; exact loops_nil, ?_⟩
    refine Eq.trans (show body E171 (iterN 0) Try.f171 [(.v false [(.s text0)])] = Pu.impl_Frame.b (fun r0 r1 => some ⟨[(.v false [(.s r0)]), (.v false [(.b r1)])], []⟩) text0 by kernel_rfl) hN
  intro args r h
  unfold sp171 at h
  split at h
  · injection h with h
    injection h with h1 h2
    subst h2
    exact ⟨by kernel_rfl, fun hf => ⟨of_decide_eq_true (by kernel_rfl), key _ h1⟩⟩
  · cases h

end Go.FG.Se

namespace Go.FG.Se
open Go.Proofs
def E98 : Env := { toTab := T, call := Go.FG.callIn [(28, sp28), (171, sp171)], mode := Go.FG.modeIn md, keep := Go.FG.keepIn [], tk := fun n => Go.FG.memB n [], om := Go.FG.omIn [] }
def sp98 : List Arg → Option (Bool × Res)
  | [(.v true [(.s e0_0), (.i .i64 e0_1), (.i .i64 e0_2), (.s e0_3)])] => some (Pu.impl_framed.c e0_0 e0_1 e0_2 e0_3, ⟨[(.v false [(.s ((Pu.impl_framed.v e0_0 e0_1 e0_2 e0_3).1))]), (.v false [(.b ((Pu.impl_framed.v e0_0 e0_1 e0_2 e0_3).2))])], []⟩)
  | _ => none
theorem ok98 : FnOk Try.prog T 98 sp98 := by
  refine fn_ok (E := E98) hE (call_cons ok28 (call_cons ok171 call_nil)) hM Try.func98 (code := (Try.f98.body.getD .skip)) (by kernel_rfl) (by kernel_rfl) ?_
  have key : ∀ (e0_0 : ByteArray) (e0_1 : Int) (e0_2 : Int) (e0_3 : ByteArray), Pu.impl_framed.c e0_0 e0_1 e0_2 e0_3 = true → ∃ it : It Res, (∀ c ∈ loopsOf (Try.f98.body.getD .skip), LoopOk E98 it c) ∧ body E98 it Try.f98 [(.v true [(.s e0_0), (.i .i64 e0_1), (.i .i64 e0_2), (.s e0_3)])] = some ⟨[(.v false [(.s ((Pu.impl_framed.v e0_0 e0_1 e0_2 e0_3).1))]), (.v false [(.b ((Pu.impl_framed.v e0_0 e0_1 e0_2 e0_3).2))])], []⟩ := by
    intro e0_0 e0_1 e0_2 e0_3  h1
    have hN := Pu.impl_framed.b_eq (R := Res) (fun r0 r1 => some ⟨[(.v false [(.s r0)]), (.v false [(.b r1)])], []⟩) e0_0 e0_1 e0_2 e0_3 h1
    have hl : loopsOf (Try.f98.body.getD .skip) = [] := by kernel_rfl
    refine ⟨iterN 0, by rw [hl]; exact loops_nil, ?_⟩
    refine Eq.trans (show body E98 (iterN 0) Try.f98 [(.v true [(.s e0_0), (.i .i64 e0_1), (.i .i64 e0_2), (.s e0_3)])] = Pu.impl_framed.b (fun r0 r1 => some ⟨[(.v false [(.s r0)]), (.v false [(.b r1)])], []⟩) e0_0 e0_1 e0_2 e0_3 by kernel_rfl) hN
  intro args r h
  unfold sp98 at h
  split at h
  · injection h with h
    injection h with h1 h2
    subst h2
    exact ⟨by kernel_rfl, fun hf => ⟨of_decide_eq_true (by kernel_rfl), key _ _ _ _ h1⟩⟩
  · cases h

end Go.FG.Se

namespace Go.FG.Se
open Go.Proofs
def E23 : Env := { toTab := T, call := Go.FG.callIn [(98, sp98)], mode := Go.FG.modeIn md, keep := Go.FG.keepIn [], tk := fun n => Go.FG.memB n [], om := Go.FG.omIn [] }
def sp23 : List Arg → Option (Bool × Res)
  | [(.v true [(.s e0_0), (.i .i64 e0_1), (.i .i64 e0_2), (.s e0_3)])] => some (Pu.impl_KeepActs.c e0_0 e0_1 e0_2 e0_3, ⟨[(.v false [(.ow 142 true ((Pu.impl_KeepActs.v e0_0 e0_1 e0_2 e0_3).1))]), (.v false [(.b ((Pu.impl_KeepActs.v e0_0 e0_1 e0_2 e0_3).2))])], []⟩)
  | _ => none
theorem ok23 : FnOk Try.prog T 23 sp23 := by
  refine fn_ok (E := E23) hE (call_cons ok98 call_nil) hM Try.func23 (code := (Try.f23.body.getD .skip)) (by kernel_rfl) (by kernel_rfl) ?_
  have key : ∀ (e0_0 : ByteArray) (e0_1 : Int) (e0_2 : Int) (e0_3 : ByteArray), Pu.impl_KeepActs.c e0_0 e0_1 e0_2 e0_3 = true → ∃ it : It Res, (∀ c ∈ loopsOf (Try.f23.body.getD .skip), LoopOk E23 it c) ∧ body E23 it Try.f23 [(.v true [(.s e0_0), (.i .i64 e0_1), (.i .i64 e0_2), (.s e0_3)])] = some ⟨[(.v false [(.ow 142 true ((Pu.impl_KeepActs.v e0_0 e0_1 e0_2 e0_3).1))]), (.v false [(.b ((Pu.impl_KeepActs.v e0_0 e0_1 e0_2 e0_3).2))])], []⟩ := by
    intro e0_0 e0_1 e0_2 e0_3  h1
    have hN := Pu.impl_KeepActs.b_eq (R := Res) (fun r0 r1 => some ⟨[(.v false [(.ow 142 true r0)]), (.v false [(.b r1)])], []⟩) e0_0 e0_1 e0_2 e0_3 h1
    have hl : loopsOf (Try.f23.body.getD .skip) = [] := by kernel_rfl
    refine ⟨iterN 0, by rw [hl]; exact loops_nil, ?_⟩
    refine Eq.trans (show body E23 (iterN 0) Try.f23 [(.v true [(.s e0_0), (.i .i64 e0_1), (.i .i64 e0_2), (.s e0_3)])] = Pu.impl_KeepActs.b (fun r0 r1 => some ⟨[(.v false [(.ow 142 true r0)]), (.v false [(.b r1)])], []⟩) e0_0 e0_1 e0_2 e0_3 by kernel_rfl) hN
  intro args r h
  unfold sp23 at h
  split at h
  · injection h with h
    injection h with h1 h2
    subst h2
    exact ⟨by kernel_rfl, fun hf => ⟨of_decide_eq_true (by kernel_rfl), key _ _ _ _ h1⟩⟩
  · cases h

end Go.FG.Se

namespace Go.FG.Se
open Go.Proofs
def E99 : Env := { toTab := T, call := Go.FG.callIn [], mode := Go.FG.modeIn md, keep := Go.FG.keepIn [], tk := fun n => Go.FG.memB n [], om := Go.FG.omIn [] }
def sp99 : List Arg → Option (Bool × Res)
  | [(.v true [(.i .i64 a0_0), (.s a0_1), (.s a0_2), (.s a0_3)]), (.v true [(.i .i64 b1_0), (.s b1_1), (.s b1_2), (.s b1_3)])] => some (true, ⟨[(.v false [(.b (Pu.laws_eqAct.v a0_0 a0_1 a0_2 a0_3 b1_0 b1_1 b1_2 b1_3))])], []⟩)
  | _ => none
theorem ok99 : FnOk Try.prog T 99 sp99 := by
  refine fn_ok (E := E99) hE call_nil hM Try.func99 (code := (Try.f99.body.getD .skip)) (by kernel_rfl) (by kernel_rfl) ?_
  have key : ∀ (a0_0 : Int) (a0_1 : ByteArray) (a0_2 : ByteArray) (a0_3 : ByteArray) (b1_0 : Int) (b1_1 : ByteArray) (b1_2 : ByteArray) (b1_3 : ByteArray), ∃ it : It Res, (∀ c ∈ loopsOf (Try.f99.body.getD .skip), LoopOk E99 it c) ∧ body E99 it Try.f99 [(.v true [(.i .i64 a0_0), (.s a0_1), (.s a0_2), (.s a0_3)]), (.v true [(.i .i64 b1_0), (.s b1_1), (.s b1_2), (.s b1_3)])] = some ⟨[(.v false [(.b (Pu.laws_eqAct.v a0_0 a0_1 a0_2 a0_3 b1_0 b1_1 b1_2 b1_3))])], []⟩ := by
    intro a0_0 a0_1 a0_2 a0_3 b1_0 b1_1 b1_2 b1_3 
    have hN := Pu.laws_eqAct.b_eq (R := Res) (fun r0 => some ⟨[(.v false [(.b r0)])], []⟩) a0_0 a0_1 a0_2 a0_3 b1_0 b1_1 b1_2 b1_3
    have hl : loopsOf (Try.f99.body.getD .skip) = [] := by kernel_rfl
    refine ⟨iterN 0, by rw [hl]; exact loops_nil, ?_⟩
    refine Eq.trans (show body E99 (iterN 0) Try.f99 [(.v true [(.i .i64 a0_0), (.s a0_1), (.s a0_2), (.s a0_3)]), (.v true [(.i .i64 b1_0), (.s b1_1), (.s b1_2), (.s b1_3)])] = Pu.laws_eqAct.b (fun r0 => some ⟨[(.v false [(.b r0)])], []⟩) a0_0 a0_1 a0_2 a0_3 b1_0 b1_1 b1_2 b1_3 by kernel_rfl) hN
  intro args r h
  unfold sp99 at h
  split at h
  · injection h with h
    injection h with h1 h2
    subst h2
    exact ⟨by kernel_rfl, fun hf => ⟨of_decide_eq_true (by kernel_rfl), key _ _ _ _ _ _ _ _⟩⟩
  · cases h

end Go.FG.Se

namespace Go.FG.Se
open Go.Proofs
def E24 : Env := { toTab := T, call := Go.FG.callIn [(99, sp99)], mode := Go.FG.modeIn md, keep := Go.FG.keepIn [(4, [0, 1, 4, 5])], tk := fun n => Go.FG.memB n [], om := Go.FG.omIn [] }
def it24 (N : Nat) {R : Type} : It R := fun rid f cn L K => bif Nat.beq rid 4 then (tell [(0, (.v (.v false [(.sh 142 [])]))), (2, (.v (.v false [(.sh 142 [])]))), (8, (.v (.v false [(.b false)]))), (10, (.v (.v false [(.i .i64 0)])))] (fun | [.R x0, .R x1, .B x2, .I x3] => Pu.laws_eqActS.l4 N (fun y0 y1 y2 y3 => (K .ret (tabl [(0, (.v (.v false [(.sh 142 y0)]))), (2, (.v (.v false [(.sh 142 y1)]))), (8, (.v (.v false [(.b y2)]))), (10, (.v (.v false [(.i .i64 y3)])))]))) (fun y0 y1 y2 y3 => (K (.exit 0) (tabl [(0, (.v (.v false [(.sh 142 y0)]))), (2, (.v (.v false [(.sh 142 y1)]))), (8, (.v (.v false [(.b y2)]))), (10, (.v (.v false [(.i .i64 y3)])))]))) N x0 x1 x2 x3 | _ => none) L (none)) else none
theorem e24_4 {R : Type} (N : Nat) (K : Ex → St → Option R) : ∀ n : Nat, (∀ x0 x1 x2 x3, iter (exc E24 (it24 N) (loopOf Try.f24 4)) (canon (E24.keep 4))  n (tabl [(0, (.v (.v false [(.sh 142 x0)]))), (2, (.v (.v false [(.sh 142 x1)]))), (8, (.v (.v false [(.b x2)]))), (10, (.v (.v false [(.i .i64 x3)])))]) K = Pu.laws_eqActS.l4 N (fun y0 y1 y2 y3 => (K .ret (tabl [(0, (.v (.v false [(.sh 142 y0)]))), (2, (.v (.v false [(.sh 142 y1)]))), (8, (.v (.v false [(.b y2)]))), (10, (.v (.v false [(.i .i64 y3)])))]))) (fun y0 y1 y2 y3 => (K (.exit 0) (tabl [(0, (.v (.v false [(.sh 142 y0)]))), (2, (.v (.v false [(.sh 142 y1)]))), (8, (.v (.v false [(.b y2)]))), (10, (.v (.v false [(.i .i64 y3)])))]))) n x0 x1 x2 x3) := by
  intro n
  induction n with
  | zero => exact (fun _ _ _ _ => rfl)
  | succ n ih =>
    have e0 : (fun x0 x1 x2 x3 => iter (exc E24 (it24 N) (loopOf Try.f24 4)) (canon (E24.keep 4))  n (tabl [(0, (.v (.v false [(.sh 142 x0)]))), (2, (.v (.v false [(.sh 142 x1)]))), (8, (.v (.v false [(.b x2)]))), (10, (.v (.v false [(.i .i64 x3)])))]) K) = Pu.laws_eqActS.l4 N (fun y0 y1 y2 y3 => (K .ret (tabl [(0, (.v (.v false [(.sh 142 y0)]))), (2, (.v (.v false [(.sh 142 y1)]))), (8, (.v (.v false [(.b y2)]))), (10, (.v (.v false [(.i .i64 y3)])))]))) (fun y0 y1 y2 y3 => (K (.exit 0) (tabl [(0, (.v (.v false [(.sh 142 y0)]))), (2, (.v (.v false [(.sh 142 y1)]))), (8, (.v (.v false [(.b y2)]))), (10, (.v (.v false [(.i .i64 y3)])))]))) n := by funext x0 x1 x2 x3; exact ih x0 x1 x2 x3
    intro x0 x1 x2 x3
    have h : ∀ g, exc E24 (it24 N) (loopOf Try.f24 4) (tabl [(0, (.v (.v false [(.sh 142 x0)]))), (2, (.v (.v false [(.sh 142 x1)]))), (8, (.v (.v false [(.b x2)]))), (10, (.v (.v false [(.i .i64 x3)])))]) (iterK g (canon (E24.keep 4)) K) = Pu.laws_eqActS.r4 N (fun x0 x1 x2 x3 => (g (tabl [(0, (.v (.v false [(.sh 142 x0)]))), (2, (.v (.v false [(.sh 142 x1)]))), (8, (.v (.v false [(.b x2)]))), (10, (.v (.v false [(.i .i64 x3)])))]))) (fun y0 y1 y2 y3 => (K .ret (tabl [(0, (.v (.v false [(.sh 142 y0)]))), (2, (.v (.v false [(.sh 142 y1)]))), (8, (.v (.v false [(.b y2)]))), (10, (.v (.v false [(.i .i64 y3)])))]))) (fun y0 y1 y2 y3 => (K (.exit 0) (tabl [(0, (.v (.v false [(.sh 142 y0)]))), (2, (.v (.v false [(.sh 142 y1)]))), (8, (.v (.v false [(.b y2)]))), (10, (.v (.v false [(.i .i64 y3)])))]))) x0 x1 x2 x3 := by intro g; kernel_rfl
    refine (h _).trans ?_
    show Pu.laws_eqActS.r4 N (fun x0 x1 x2 x3 => (iter (exc E24 (it24 N) (loopOf Try.f24 4)) (canon (E24.keep 4))  n (tabl [(0, (.v (.v false [(.sh 142 x0)]))), (2, (.v (.v false [(.sh 142 x1)]))), (8, (.v (.v false [(.b x2)]))), (10, (.v (.v false [(.i .i64 x3)])))]) K)) (fun y0 y1 y2 y3 => (K .ret (tabl [(0, (.v (.v false [(.sh 142 y0)]))), (2, (.v (.v false [(.sh 142 y1)]))), (8, (.v (.v false [(.b y2)]))), (10, (.v (.v false [(.i .i64 y3)])))]))) (fun y0 y1 y2 y3 => (K (.exit 0) (tabl [(0, (.v (.v false [(.sh 142 y0)]))), (2, (.v (.v false [(.sh 142 y1)]))), (8, (.v (.v false [(.b y2)]))), (10, (.v (.v false [(.i .i64 y3)])))]))) x0 x1 x2 x3 = _
    rw [e0]; rfl
theorem lo24_4 {R : Type} (N : Nat) : LoopOk E24 (it24 N (R := R)) (loopOf Try.f24 4) := by
  have e : firstRid (loopOf Try.f24 4) = 4 := by kernel_rfl
  intro L K r
  rw [e]
  intro h
  unfold it24 at h
  simp only [show Nat.beq 4 4 = true from rfl, cond_false, cond_true] at h
  refine tell_ok (Q := fun L => ∃ n, iter (exc E24 (it24 N) (loopOf Try.f24 4)) (canon (E24.keep 4)) n (tabl L) K = some r) h (fun xs h => ?_) (fun h => ?_)
  · (try dsimp only at h)
    split at h
    · exact ⟨N, ((e24_4 N K N) _ _ _ _).trans h⟩
    · cases h
  cases h
def sp24 : List Arg → Option (Bool × Res)
  | [(.v false [(.sh 142 a0)]), (.v false [(.sh 142 b1)])] => some (Pu.laws_eqActS.c a0 b1, ⟨[(.v false [(.b (Pu.laws_eqActS.v a0 b1))])], []⟩)
  | _ => none
theorem ok24 : FnOk Try.prog T 24 sp24 := by
  refine fn_ok (E := E24) hE (call_cons ok99 call_nil) hM Try.func24 (code := (Try.f24.body.getD .skip)) (by kernel_rfl) (by kernel_rfl) ?_
  have key : ∀ (a0 : Row) (b1 : Row), Pu.laws_eqActS.c a0 b1 = true → ∃ it : It Res, (∀ c ∈ loopsOf (Try.f24.body.getD .skip), LoopOk E24 it c) ∧ body E24 it Try.f24 [(.v false [(.sh 142 a0)]), (.v false [(.sh 142 b1)])] = some ⟨[(.v false [(.b (Pu.laws_eqActS.v a0 b1))])], []⟩ := by
    intro a0 b1  h1
    obtain ⟨N, hN⟩ := Pu.laws_eqActS.b_eq (R := Res) (fun r0 => some ⟨[(.v false [(.b r0)])], []⟩) a0 b1 h1
    have hl : loopsOf (Try.f24.body.getD .skip) = [loopOf Try.f24 4] := by kernel_rfl
    refine ⟨it24 N, by rw [hl]; exact (loops_cons (lo24_4 N) loops_nil), ?_⟩
    refine Eq.trans (show body E24 (it24 N) Try.f24 [(.v false [(.sh 142 a0)]), (.v false [(.sh 142 b1)])] = Pu.laws_eqActS.b N (fun r0 => some ⟨[(.v false [(.b r0)])], []⟩) a0 b1 by kernel_rfl) hN
  intro args r h
  unfold sp24 at h
  split at h
  · injection h with h
    injection h with h1 h2
    subst h2
    exact ⟨by kernel_rfl, fun hf => ⟨of_decide_eq_true (by kernel_rfl), key _ _ h1⟩⟩
  · cases h

end Go.FG.Se

namespace Go.FG.Se
open Go.Proofs
def E100 : Env := { toTab := T, call := Go.FG.callIn [], mode := Go.FG.modeIn md, keep := Go.FG.keepIn [(4, [0, 3])], tk := fun n => Go.FG.memB n [], om := Go.FG.omIn [] }
def it100 (N : Nat) {R : Type} : It R := fun rid f cn L K => bif Nat.beq rid 4 then (tell [(0, (.v (.v false [(.i .i64 0)]))), (6, (.v (.v false [(.s ⟨#[]⟩)])))] (fun | [.I x0, .S x1] => Pu.laws_markText.l4 N (fun y0 y1 => (K (.exit 0) (tabl [(0, (.v (.v false [(.i .i64 y0)]))), (6, (.v (.v false [(.s y1)])))]))) N x0 x1 | _ => none) L (none)) else none
theorem e100_4 {R : Type} (N : Nat) (K : Ex → St → Option R) : ∀ n : Nat, (∀ x0 x1, iter (exc E100 (it100 N) (loopOf Try.f100 4)) (canon (E100.keep 4))  n (tabl [(0, (.v (.v false [(.i .i64 x0)]))), (6, (.v (.v false [(.s x1)])))]) K = Pu.laws_markText.l4 N (fun y0 y1 => (K (.exit 0) (tabl [(0, (.v (.v false [(.i .i64 y0)]))), (6, (.v (.v false [(.s y1)])))]))) n x0 x1) := by
  intro n
  induction n with
  | zero => exact (fun _ _ => rfl)
  | succ n ih =>
    have e0 : (fun x0 x1 => iter (exc E100 (it100 N) (loopOf Try.f100 4)) (canon (E100.keep 4))  n (tabl [(0, (.v (.v false [(.i .i64 x0)]))), (6, (.v (.v false [(.s x1)])))]) K) = Pu.laws_markText.l4 N (fun y0 y1 => (K (.exit 0) (tabl [(0, (.v (.v false [(.i .i64 y0)]))), (6, (.v (.v false [(.s y1)])))]))) n := by funext x0 x1; exact ih x0 x1
    intro x0 x1
    have h : ∀ g, exc E100 (it100 N) (loopOf Try.f100 4) (tabl [(0, (.v (.v false [(.i .i64 x0)]))), (6, (.v (.v false [(.s x1)])))]) (iterK g (canon (E100.keep 4)) K) = Pu.laws_markText.r4 N (fun x0 x1 => (g (tabl [(0, (.v (.v false [(.i .i64 x0)]))), (6, (.v (.v false [(.s x1)])))]))) (fun y0 y1 => (K (.exit 0) (tabl [(0, (.v (.v false [(.i .i64 y0)]))), (6, (.v (.v false [(.s y1)])))]))) x0 x1 := by intro g; kernel_rfl
    refine (h _).trans ?_
    show Pu.laws_markText.r4 N (fun x0 x1 => (iter (exc E100 (it100 N) (loopOf Try.f100 4)) (canon (E100.keep 4))  n (tabl [(0, (.v (.v false [(.i .i64 x0)]))), (6, (.v (.v false [(.s x1)])))]) K)) (fun y0 y1 => (K (.exit 0) (tabl [(0, (.v (.v false [(.i .i64 y0)]))), (6, (.v (.v false [(.s y1)])))]))) x0 x1 = _
    rw [e0]; rfl
theorem lo100_4 {R : Type} (N : Nat) : LoopOk E100 (it100 N (R := R)) (loopOf Try.f100 4) := by
  have e : firstRid (loopOf Try.f100 4) = 4 := by kernel_rfl
  intro L K r
  rw [e]
  intro h
  unfold it100 at h
  simp only [show Nat.beq 4 4 = true from rfl, cond_false, cond_true] at h
  refine tell_ok (Q := fun L => ∃ n, iter (exc E100 (it100 N) (loopOf Try.f100 4)) (canon (E100.keep 4)) n (tabl L) K = some r) h (fun xs h => ?_) (fun h => ?_)
  · (try dsimp only at h)
    split at h
    · exact ⟨N, ((e100_4 N K N) _ _).trans h⟩
    · cases h
  cases h
def sp100 : List Arg → Option (Bool × Res)
  | [(.v false [(.i .i64 k0)])] => some (Pu.laws_markText.c k0, ⟨[(.v false [(.s (Pu.laws_markText.v k0))])], []⟩)
  | _ => none
theorem ok100 : FnOk Try.prog T 100 sp100 := by
  refine fn_ok (E := E100) hE call_nil hM Try.func100 (code := (Try.f100.body.getD .skip)) (by kernel_rfl) (by kernel_rfl) ?_
  have key : ∀ (k0 : Int), Pu.laws_markText.c k0 = true → ∃ it : It Res, (∀ c ∈ loopsOf (Try.f100.body.getD .skip), LoopOk E100 it c) ∧ body E100 it Try.f100 [(.v false [(.i .i64 k0)])] = some ⟨[(.v false [(.s (Pu.laws_markText.v k0))])], []⟩ := by
    intro k0  h1
    obtain ⟨N, hN⟩ := Pu.laws_markText.b_eq (R := Res) (fun r0 => some ⟨[(.v false [(.s r0)])], []⟩) k0 h1
    have hl : loopsOf (Try.f100.body.getD .skip) = [loopOf Try.f100 4] := by kernel_rfl
    refine ⟨it100 N, by rw [hl]; exact (loops_cons (lo100_4 N) loops_nil), ?_⟩
    refine Eq.trans (show body E100 (it100 N) Try.f100 [(.v false [(.i .i64 k0)])] = Pu.laws_markText.b N (fun r0 => some ⟨[(.v false [(.s r0)])], []⟩) k0 by kernel_rfl) hN
  intro args r h
  unfold sp100 at h
  split at h
  · injection h with h
    injection h with h1 h2
    subst h2
    exact ⟨by kernel_rfl, fun hf => ⟨of_decide_eq_true (by kernel_rfl), key _ h1⟩⟩
  · cases h

end Go.FG.Se

namespace Go.FG.Se
open Go.Proofs
def E25 : Env := { toTab := T, call := Go.FG.callIn [(100, sp100)], mode := Go.FG.modeIn md, keep := Go.FG.keepIn [(2, [0, 1, 5])], tk := fun n => Go.FG.memB n [], om := Go.FG.omIn [] }
def it25 (N : Nat) {R : Type} : It R := fun rid f cn L K => bif Nat.beq rid 2 then (tell [(0, (.v (.v false [(.own 900000000)]))), (2, (.v (.v false [(.i .i64 0)]))), (10, (.v (.v false [(.i .i64 0)]))), (1800000001, (.o (.row 142 true [])))] (fun | [.I x0, .I x1, .R x2] => Pu.laws_markActS.l2 N (fun y0 y1 y2 => (K (.exit 0) (tabl [(0, (.v (.v false [(.own 900000000)]))), (2, (.v (.v false [(.i .i64 y0)]))), (10, (.v (.v false [(.i .i64 y1)]))), (1800000001, (.o (.row 142 true y2)))]))) N x0 x1 x2 | _ => none) L (none)) else none
theorem e25_2 {R : Type} (N : Nat) (K : Ex → St → Option R) : ∀ n : Nat, (∀ x0 x1 x2, iter (exc E25 (it25 N) (loopOf Try.f25 2)) (canon (E25.keep 2))  n (tabl [(0, (.v (.v false [(.own 900000000)]))), (2, (.v (.v false [(.i .i64 x0)]))), (10, (.v (.v false [(.i .i64 x1)]))), (1800000001, (.o (.row 142 true x2)))]) K = Pu.laws_markActS.l2 N (fun y0 y1 y2 => (K (.exit 0) (tabl [(0, (.v (.v false [(.own 900000000)]))), (2, (.v (.v false [(.i .i64 y0)]))), (10, (.v (.v false [(.i .i64 y1)]))), (1800000001, (.o (.row 142 true y2)))]))) n x0 x1 x2) := by
  intro n
  induction n with
  | zero => exact (fun _ _ _ => rfl)
  | succ n ih =>
    have e0 : (fun x0 x1 x2 => iter (exc E25 (it25 N) (loopOf Try.f25 2)) (canon (E25.keep 2))  n (tabl [(0, (.v (.v false [(.own 900000000)]))), (2, (.v (.v false [(.i .i64 x0)]))), (10, (.v (.v false [(.i .i64 x1)]))), (1800000001, (.o (.row 142 true x2)))]) K) = Pu.laws_markActS.l2 N (fun y0 y1 y2 => (K (.exit 0) (tabl [(0, (.v (.v false [(.own 900000000)]))), (2, (.v (.v false [(.i .i64 y0)]))), (10, (.v (.v false [(.i .i64 y1)]))), (1800000001, (.o (.row 142 true y2)))]))) n := by funext x0 x1 x2; exact ih x0 x1 x2
    intro x0 x1 x2
    have h : ∀ g, exc E25 (it25 N) (loopOf Try.f25 2) (tabl [(0, (.v (.v false [(.own 900000000)]))), (2, (.v (.v false [(.i .i64 x0)]))), (10, (.v (.v false [(.i .i64 x1)]))), (1800000001, (.o (.row 142 true x2)))]) (iterK g (canon (E25.keep 2)) K) = Pu.laws_markActS.r2 N (fun x0 x1 x2 => (g (tabl [(0, (.v (.v false [(.own 900000000)]))), (2, (.v (.v false [(.i .i64 x0)]))), (10, (.v (.v false [(.i .i64 x1)]))), (1800000001, (.o (.row 142 true x2)))]))) (fun y0 y1 y2 => (K (.exit 0) (tabl [(0, (.v (.v false [(.own 900000000)]))), (2, (.v (.v false [(.i .i64 y0)]))), (10, (.v (.v false [(.i .i64 y1)]))), (1800000001, (.o (.row 142 true y2)))]))) x0 x1 x2 := by intro g; kernel_rfl
    refine (h _).trans ?_
    show Pu.laws_markActS.r2 N (fun x0 x1 x2 => (iter (exc E25 (it25 N) (loopOf Try.f25 2)) (canon (E25.keep 2))  n (tabl [(0, (.v (.v false [(.own 900000000)]))), (2, (.v (.v false [(.i .i64 x0)]))), (10, (.v (.v false [(.i .i64 x1)]))), (1800000001, (.o (.row 142 true x2)))]) K)) (fun y0 y1 y2 => (K (.exit 0) (tabl [(0, (.v (.v false [(.own 900000000)]))), (2, (.v (.v false [(.i .i64 y0)]))), (10, (.v (.v false [(.i .i64 y1)]))), (1800000001, (.o (.row 142 true y2)))]))) x0 x1 x2 = _
    rw [e0]; rfl
theorem lo25_2 {R : Type} (N : Nat) : LoopOk E25 (it25 N (R := R)) (loopOf Try.f25 2) := by
  have e : firstRid (loopOf Try.f25 2) = 2 := by kernel_rfl
  intro L K r
  rw [e]
  intro h
  unfold it25 at h
  simp only [show Nat.beq 2 2 = true from rfl, cond_false, cond_true] at h
  refine tell_ok (Q := fun L => ∃ n, iter (exc E25 (it25 N) (loopOf Try.f25 2)) (canon (E25.keep 2)) n (tabl L) K = some r) h (fun xs h => ?_) (fun h => ?_)
  · (try dsimp only at h)
    split at h
    · exact ⟨N, ((e25_2 N K N) _ _ _).trans h⟩
    · cases h
  cases h
def sp25 : List Arg → Option (Bool × Res)
  | [(.v false [(.ow 142 true a0)]), (.v false [(.i .i64 k1)])] => some (Pu.laws_markActS.c a0 k1, ⟨[(.v false [(.i .i64 ((Pu.laws_markActS.v a0 k1).1))])], [[(.kp ((Pu.laws_markActS.v a0 k1).2))]]⟩)
  | _ => none
theorem ok25 : FnOk Try.prog T 25 sp25 := by
  refine fn_ok (E := E25) hE (call_cons ok100 call_nil) hM Try.func25 (code := (Try.f25.body.getD .skip)) (by kernel_rfl) (by kernel_rfl) ?_
  have key : ∀ (a0 : Row) (k1 : Int), Pu.laws_markActS.c a0 k1 = true → ∃ it : It Res, (∀ c ∈ loopsOf (Try.f25.body.getD .skip), LoopOk E25 it c) ∧ body E25 it Try.f25 [(.v false [(.ow 142 true a0)]), (.v false [(.i .i64 k1)])] = some ⟨[(.v false [(.i .i64 ((Pu.laws_markActS.v a0 k1).1))])], [[(.kp ((Pu.laws_markActS.v a0 k1).2))]]⟩ := by
    intro a0 k1  h1
    obtain ⟨N, hN⟩ := Pu.laws_markActS.b_eq (R := Res) (fun r0 r1 => some ⟨[(.v false [(.i .i64 r0)])], [[(.kp r1)]]⟩) a0 k1 h1
    have hl : loopsOf (Try.f25.body.getD .skip) = [loopOf Try.f25 2] := by kernel_rfl
    refine ⟨it25 N, by rw [hl]; exact (loops_cons (lo25_2 N) loops_nil), ?_⟩
    refine Eq.trans (show body E25 (it25 N) Try.f25 [(.v false [(.ow 142 true a0)]), (.v false [(.i .i64 k1)])] = Pu.laws_markActS.b N (fun r0 r1 => some ⟨[(.v false [(.i .i64 r0)])], [[(.kp r1)]]⟩) a0 k1 by kernel_rfl) hN
  intro args r h
  unfold sp25 at h
  split at h
  · injection h with h
    injection h with h1 h2
    subst h2
    exact ⟨by kernel_rfl, fun hf => ⟨of_decide_eq_true (by kernel_rfl), key _ _ h1⟩⟩
  · cases h

end Go.FG.Se

namespace Go.FG.Se
open Go.Proofs
def E26 : Env := { toTab := T, call := Go.FG.callIn [(100, sp100)], mode := Go.FG.modeIn md, keep := Go.FG.keepIn [(2, [0, 1, 4, 5])], tk := fun n => Go.FG.memB n [], om := Go.FG.omIn [] }
def it26 (N : Nat) {R : Type} : It R := fun rid f cn L K => bif Nat.beq rid 2 then (tell [(0, (.v (.v false [(.sh 142 [])]))), (2, (.v (.v false [(.i .i64 0)]))), (8, (.v (.v false [(.i .i64 0)]))), (10, (.v (.v false [(.i .i64 0)])))] (fun | [.R x0, .I x1, .I x2, .I x3] => Pu.laws_heldActS.l2 N (fun y0 y1 y2 y3 => (K .ret (tabl [(0, (.v (.v false [(.sh 142 y0)]))), (2, (.v (.v false [(.i .i64 y1)]))), (8, (.v (.v false [(.i .i64 y2)]))), (10, (.v (.v false [(.i .i64 y3)])))]))) (fun y0 y1 y2 y3 => (K (.exit 0) (tabl [(0, (.v (.v false [(.sh 142 y0)]))), (2, (.v (.v false [(.i .i64 y1)]))), (8, (.v (.v false [(.i .i64 y2)]))), (10, (.v (.v false [(.i .i64 y3)])))]))) N x0 x1 x2 x3 | _ => none) L (none)) else none
theorem e26_2 {R : Type} (N : Nat) (K : Ex → St → Option R) : ∀ n : Nat, (∀ x0 x1 x2 x3, iter (exc E26 (it26 N) (loopOf Try.f26 2)) (canon (E26.keep 2))  n (tabl [(0, (.v (.v false [(.sh 142 x0)]))), (2, (.v (.v false [(.i .i64 x1)]))), (8, (.v (.v false [(.i .i64 x2)]))), (10, (.v (.v false [(.i .i64 x3)])))]) K = Pu.laws_heldActS.l2 N (fun y0 y1 y2 y3 => (K .ret (tabl [(0, (.v (.v false [(.sh 142 y0)]))), (2, (.v (.v false [(.i .i64 y1)]))), (8, (.v (.v false [(.i .i64 y2)]))), (10, (.v (.v false [(.i .i64 y3)])))]))) (fun y0 y1 y2 y3 => (K (.exit 0) (tabl [(0, (.v (.v false [(.sh 142 y0)]))), (2, (.v (.v false [(.i .i64 y1)]))), (8, (.v (.v false [(.i .i64 y2)]))), (10, (.v (.v false [(.i .i64 y3)])))]))) n x0 x1 x2 x3) := by
  intro n
  induction n with
  | zero => exact (fun _ _ _ _ => rfl)
  | succ n ih =>
    have e0 : (fun x0 x1 x2 x3 => iter (exc E26 (it26 N) (loopOf Try.f26 2)) (canon (E26.keep 2))  n (tabl [(0, (.v (.v false [(.sh 142 x0)]))), (2, (.v (.v false [(.i .i64 x1)]))), (8, (.v (.v false [(.i .i64 x2)]))), (10, (.v (.v false [(.i .i64 x3)])))]) K) = Pu.laws_heldActS.l2 N (fun y0 y1 y2 y3 => (K .ret (tabl [(0, (.v (.v false [(.sh 142 y0)]))), (2, (.v (.v false [(.i .i64 y1)]))), (8, (.v (.v false [(.i .i64 y2)]))), (10, (.v (.v false [(.i .i64 y3)])))]))) (fun y0 y1 y2 y3 => (K (.exit 0) (tabl [(0, (.v (.v false [(.sh 142 y0)]))), (2, (.v (.v false [(.i .i64 y1)]))), (8, (.v (.v false [(.i .i64 y2)]))), (10, (.v (.v false [(.i .i64 y3)])))]))) n := by funext x0 x1 x2 x3; exact ih x0 x1 x2 x3
    intro x0 x1 x2 x3
    have h : ∀ g, exc E26 (it26 N) (loopOf Try.f26 2) (tabl [(0, (.v (.v false [(.sh 142 x0)]))), (2, (.v (.v false [(.i .i64 x1)]))), (8, (.v (.v false [(.i .i64 x2)]))), (10, (.v (.v false [(.i .i64 x3)])))]) (iterK g (canon (E26.keep 2)) K) = Pu.laws_heldActS.r2 N (fun x0 x1 x2 x3 => (g (tabl [(0, (.v (.v false [(.sh 142 x0)]))), (2, (.v (.v false [(.i .i64 x1)]))), (8, (.v (.v false [(.i .i64 x2)]))), (10, (.v (.v false [(.i .i64 x3)])))]))) (fun y0 y1 y2 y3 => (K .ret (tabl [(0, (.v (.v false [(.sh 142 y0)]))), (2, (.v (.v false [(.i .i64 y1)]))), (8, (.v (.v false [(.i .i64 y2)]))), (10, (.v (.v false [(.i .i64 y3)])))]))) (fun y0 y1 y2 y3 => (K (.exit 0) (tabl [(0, (.v (.v false [(.sh 142 y0)]))), (2, (.v (.v false [(.i .i64 y1)]))), (8, (.v (.v false [(.i .i64 y2)]))), (10, (.v (.v false [(.i .i64 y3)])))]))) x0 x1 x2 x3 := by intro g; kernel_rfl
    refine (h _).trans ?_
    show Pu.laws_heldActS.r2 N (fun x0 x1 x2 x3 => (iter (exc E26 (it26 N) (loopOf Try.f26 2)) (canon (E26.keep 2))  n (tabl [(0, (.v (.v false [(.sh 142 x0)]))), (2, (.v (.v false [(.i .i64 x1)]))), (8, (.v (.v false [(.i .i64 x2)]))), (10, (.v (.v false [(.i .i64 x3)])))]) K)) (fun y0 y1 y2 y3 => (K .ret (tabl [(0, (.v (.v false [(.sh 142 y0)]))), (2, (.v (.v false [(.i .i64 y1)]))), (8, (.v (.v false [(.i .i64 y2)]))), (10, (.v (.v false [(.i .i64 y3)])))]))) (fun y0 y1 y2 y3 => (K (.exit 0) (tabl [(0, (.v (.v false [(.sh 142 y0)]))), (2, (.v (.v false [(.i .i64 y1)]))), (8, (.v (.v false [(.i .i64 y2)]))), (10, (.v (.v false [(.i .i64 y3)])))]))) x0 x1 x2 x3 = _
    rw [e0]; rfl
theorem lo26_2 {R : Type} (N : Nat) : LoopOk E26 (it26 N (R := R)) (loopOf Try.f26 2) := by
  have e : firstRid (loopOf Try.f26 2) = 2 := by kernel_rfl
  intro L K r
  rw [e]
  intro h
  unfold it26 at h
  simp only [show Nat.beq 2 2 = true from rfl, cond_false, cond_true] at h
  refine tell_ok (Q := fun L => ∃ n, iter (exc E26 (it26 N) (loopOf Try.f26 2)) (canon (E26.keep 2)) n (tabl L) K = some r) h (fun xs h => ?_) (fun h => ?_)
  · (try dsimp only at h)
    split at h
    · exact ⟨N, ((e26_2 N K N) _ _ _ _).trans h⟩
    · cases h
  cases h
def sp26 : List Arg → Option (Bool × Res)
  | [(.v false [(.sh 142 a0)]), (.v false [(.i .i64 k1)])] => some (Pu.laws_heldActS.c a0 k1, ⟨[(.v false [(.i .i64 (Pu.laws_heldActS.v a0 k1))])], []⟩)
  | _ => none
theorem ok26 : FnOk Try.prog T 26 sp26 := by
  refine fn_ok (E := E26) hE (call_cons ok100 call_nil) hM Try.func26 (code := (Try.f26.body.getD .skip)) (by kernel_rfl) (by kernel_rfl) ?_
  have key : ∀ (a0 : Row) (k1 : Int), Pu.laws_heldActS.c a0 k1 = true → ∃ it : It Res, (∀ c ∈ loopsOf (Try.f26.body.getD .skip), LoopOk E26 it c) ∧ body E26 it Try.f26 [(.v false [(.sh 142 a0)]), (.v false [(.i .i64 k1)])] = some ⟨[(.v false [(.i .i64 (Pu.laws_heldActS.v a0 k1))])], []⟩ := by
    intro a0 k1  h1
    obtain ⟨N, hN⟩ := Pu.laws_heldActS.b_eq (R := Res) (fun r0 => some ⟨[(.v false [(.i .i64 r0)])], []⟩) a0 k1 h1
    have hl : loopsOf (Try.f26.body.getD .skip) = [loopOf Try.f26 2] := by kernel_rfl
    refine ⟨it26 N, by rw [hl]; exact (loops_cons (lo26_2 N) loops_nil), ?_⟩
    refine Eq.trans (show body E26 (it26 N) Try.f26 [(.v false [(.sh 142 a0)]), (.v false [(.i .i64 k1)])] = Pu.laws_heldActS.b N (fun r0 => some ⟨[(.v false [(.i .i64 r0)])], []⟩) a0 k1 by kernel_rfl) hN
  intro args r h
  unfold sp26 at h
  split at h
  · injection h with h
    injection h with h1 h2
    subst h2
    exact ⟨by kernel_rfl, fun hf => ⟨of_decide_eq_true (by kernel_rfl), key _ _ h1⟩⟩
  · cases h

end Go.FG.Se

namespace Go.FG.Se
open Go.Proofs
def E4 : Env := { toTab := T, call := Go.FG.callIn [(20, sp20), (22, sp22), (21, sp21), (23, sp23), (24, sp24), (25, sp25), (26, sp26)], mode := Go.FG.modeIn md, keep := Go.FG.keepIn [], tk := fun n => Go.FG.memB n [], om := Go.FG.omIn [] }
def sp4 : List Arg → Option (Bool × Res)
  | [(.v true [(.s aE0_0), (.i .i64 aE0_1), (.i .i64 aE0_2), (.s aE0_3)])] => some (Pu.laws_FnExactKeepActs.c aE0_0 aE0_1 aE0_2 aE0_3, ⟨[(.v false [(.b (Pu.laws_FnExactKeepActs.v aE0_0 aE0_1 aE0_2 aE0_3))])], []⟩)
  | _ => none
theorem ok4 : FnOk Try.prog T 4 sp4 := by
  refine fn_ok (E := E4) hE (call_cons ok20 (call_cons ok22 (call_cons ok21 (call_cons ok23 (call_cons ok24 (call_cons ok25 (call_cons ok26 call_nil))))))) hM Try.func4 (code := (Try.f4.body.getD .skip)) (by kernel_rfl) (by kernel_rfl) ?_
  have key : ∀ (aE0_0 : ByteArray) (aE0_1 : Int) (aE0_2 : Int) (aE0_3 : ByteArray), Pu.laws_FnExactKeepActs.c aE0_0 aE0_1 aE0_2 aE0_3 = true → ∃ it : It Res, (∀ c ∈ loopsOf (Try.f4.body.getD .skip), LoopOk E4 it c) ∧ body E4 it Try.f4 [(.v true [(.s aE0_0), (.i .i64 aE0_1), (.i .i64 aE0_2), (.s aE0_3)])] = some ⟨[(.v false [(.b (Pu.laws_FnExactKeepActs.v aE0_0 aE0_1 aE0_2 aE0_3))])], []⟩ := by
    intro aE0_0 aE0_1 aE0_2 aE0_3  h1
    have hN := Pu.laws_FnExactKeepActs.b_eq (R := Res) (fun r0 => some ⟨[(.v false [(.b r0)])], []⟩) aE0_0 aE0_1 aE0_2 aE0_3 h1
    have hl : loopsOf (Try.f4.body.getD .skip) = [] := by kernel_rfl
    refine ⟨iterN 0, by rw [hl]; exact loops_nil, ?_⟩
    refine Eq.trans (show body E4 (iterN 0) Try.f4 [(.v true [(.s aE0_0), (.i .i64 aE0_1), (.i .i64 aE0_2), (.s aE0_3)])] = Pu.laws_FnExactKeepActs.b (fun r0 => some ⟨[(.v false [(.b r0)])], []⟩) aE0_0 aE0_1 aE0_2 aE0_3 by kernel_rfl) hN
  intro args r h
  unfold sp4 at h
  split at h
  · injection h with h
    injection h with h1 h2
    subst h2
    exact ⟨by kernel_rfl, fun hf => ⟨of_decide_eq_true (by kernel_rfl), key _ _ _ _ h1⟩⟩
  · cases h

end Go.FG.Se

