/- Functions of the program: the evaluation of each, and that a call of it does what is told. No condition. -/
import Derived.Test.YtnhconmkdleomaaTab
import Derived.Test.YtnhconmkdleomaaPExactEntryText
set_option linter.unusedVariables false
set_option linter.unusedSimpArgs false
set_option maxRecDepth 100000
namespace Go.FG.Se
open Go.Proofs
def E15 : Env := { toTab := T, call := Go.FG.callIn [], mode := Go.FG.modeIn md, keep := Go.FG.keepIn [], tk := fun n => Go.FG.memB n [], om := Go.FG.omIn [] }
def sp15 : List Arg → Option (Bool × Res)
  | [(.v true [(.s a0_0), (.i .i64 a0_1), (.i .i64 a0_2), (.s a0_3)]), (.v false [(.i .i64 left1)])] => some (true, ⟨[(.v false [(.i .i64 (Pu.laws_szEntry.v a0_0 a0_1 a0_2 a0_3 left1))])], []⟩)
  | _ => none
theorem ok15 : FnOk Try.prog T 15 sp15 := by
  refine fn_ok (E := E15) hE call_nil hM Try.func15 (code := (Try.f15.body.getD .skip)) (by kernel_rfl) (by kernel_rfl) ?_
  have key : ∀ (a0_0 : ByteArray) (a0_1 : Int) (a0_2 : Int) (a0_3 : ByteArray) (left1 : Int), ∃ it : It Res, (∀ c ∈ loopsOf (Try.f15.body.getD .skip), LoopOk E15 it c) ∧ body E15 it Try.f15 [(.v true [(.s a0_0), (.i .i64 a0_1), (.i .i64 a0_2), (.s a0_3)]), (.v false [(.i .i64 left1)])] = some ⟨[(.v false [(.i .i64 (Pu.laws_szEntry.v a0_0 a0_1 a0_2 a0_3 left1))])], []⟩ := by
    intro a0_0 a0_1 a0_2 a0_3 left1 
    have hN := Pu.laws_szEntry.b_eq (R := Res) (fun r0 => some ⟨[(.v false [(.i .i64 r0)])], []⟩) a0_0 a0_1 a0_2 a0_3 left1
    have hl : loopsOf (Try.f15.body.getD .skip) = [] := by kernel_rfl
    refine ⟨iterN 0, by rw [hl]; exact loops_nil, ?_⟩
    refine Eq.trans (show body E15 (iterN 0) Try.f15 [(.v true [(.s a0_0), (.i .i64 a0_1), (.i .i64 a0_2), (.s a0_3)]), (.v false [(.i .i64 left1)])] = Pu.laws_szEntry.b (fun r0 => some ⟨[(.v false [(.i .i64 r0)])], []⟩) a0_0 a0_1 a0_2 a0_3 left1 by kernel_rfl) hN
  intro args r h
  unfold sp15 at h
  split at h
  · injection h with h
    injection h with h1 h2
    subst h2
    exact ⟨by kernel_rfl, fun hf => ⟨of_decide_eq_true (by kernel_rfl), key _ _ _ _ _⟩⟩
  · cases h

end Go.FG.Se

namespace Go.FG.Se
open Go.Proofs
def E17 : Env := { toTab := T, call := Go.FG.callIn [], mode := Go.FG.modeIn md, keep := Go.FG.keepIn [], tk := fun n => Go.FG.memB n [], om := Go.FG.omIn [] }
def sp17 : List Arg → Option (Bool × Res)
  | [(.v true [(.s a0_0), (.i .i64 a0_1), (.i .i64 a0_2), (.s a0_3)])] => some (true, ⟨[(.v true [(.s ((Pu.laws_toEntry.v a0_0 a0_1 a0_2 a0_3).1)), (.i .i64 ((Pu.laws_toEntry.v a0_0 a0_1 a0_2 a0_3).2.1)), (.i .i64 ((Pu.laws_toEntry.v a0_0 a0_1 a0_2 a0_3).2.2.1)), (.s ((Pu.laws_toEntry.v a0_0 a0_1 a0_2 a0_3).2.2.2))])], []⟩)
  | _ => none
theorem ok17 : FnOk Try.prog T 17 sp17 := by
  refine fn_ok (E := E17) hE call_nil hM Try.func17 (code := (Try.f17.body.getD .skip)) (by kernel_rfl) (by kernel_rfl) ?_
  have key : ∀ (a0_0 : ByteArray) (a0_1 : Int) (a0_2 : Int) (a0_3 : ByteArray), ∃ it : It Res, (∀ c ∈ loopsOf (Try.f17.body.getD .skip), LoopOk E17 it c) ∧ body E17 it Try.f17 [(.v true [(.s a0_0), (.i .i64 a0_1), (.i .i64 a0_2), (.s a0_3)])] = some ⟨[(.v true [(.s ((Pu.laws_toEntry.v a0_0 a0_1 a0_2 a0_3).1)), (.i .i64 ((Pu.laws_toEntry.v a0_0 a0_1 a0_2 a0_3).2.1)), (.i .i64 ((Pu.laws_toEntry.v a0_0 a0_1 a0_2 a0_3).2.2.1)), (.s ((Pu.laws_toEntry.v a0_0 a0_1 a0_2 a0_3).2.2.2))])], []⟩ := by
    intro a0_0 a0_1 a0_2 a0_3 
    have hN := Pu.laws_toEntry.b_eq (R := Res) (fun r0 r1 r2 r3 => some ⟨[(.v true [(.s r0), (.i .i64 r1), (.i .i64 r2), (.s r3)])], []⟩) a0_0 a0_1 a0_2 a0_3
    have hl : loopsOf (Try.f17.body.getD .skip) = [] := by kernel_rfl
    refine ⟨iterN 0, by rw [hl]; exact loops_nil, ?_⟩
    refine Eq.trans (show body E17 (iterN 0) Try.f17 [(.v true [(.s a0_0), (.i .i64 a0_1), (.i .i64 a0_2), (.s a0_3)])] = Pu.laws_toEntry.b (fun r0 r1 r2 r3 => some ⟨[(.v true [(.s r0), (.i .i64 r1), (.i .i64 r2), (.s r3)])], []⟩) a0_0 a0_1 a0_2 a0_3 by kernel_rfl) hN
  intro args r h
  unfold sp17 at h
  split at h
  · injection h with h
    injection h with h1 h2
    subst h2
    exact ⟨by kernel_rfl, fun hf => ⟨of_decide_eq_true (by kernel_rfl), key _ _ _ _⟩⟩
  · cases h

end Go.FG.Se

namespace Go.FG.Se
open Go.Proofs
def E51 : Env := { toTab := T, call := Go.FG.callIn [], mode := Go.FG.modeIn md, keep := Go.FG.keepIn [], tk := fun n => Go.FG.memB n [], om := Go.FG.omIn [] }
def sp51 : List Arg → Option (Bool × Res)
  | [(.v false [(.i .i64 x0)]), (.v false [(.i .i64 least1)]), (.v false [(.i .i64 most2)])] => some (true, ⟨[(.v false [(.b (Pu.spec_l01In.v x0 least1 most2))])], []⟩)
  | _ => none
theorem ok51 : FnOk Try.prog T 51 sp51 := by
  refine fn_ok (E := E51) hE call_nil hM Try.func51 (code := (Try.f51.body.getD .skip)) (by kernel_rfl) (by kernel_rfl) ?_
  have key : ∀ (x0 : Int) (least1 : Int) (most2 : Int), ∃ it : It Res, (∀ c ∈ loopsOf (Try.f51.body.getD .skip), LoopOk E51 it c) ∧ body E51 it Try.f51 [(.v false [(.i .i64 x0)]), (.v false [(.i .i64 least1)]), (.v false [(.i .i64 most2)])] = some ⟨[(.v false [(.b (Pu.spec_l01In.v x0 least1 most2))])], []⟩ := by
    intro x0 least1 most2 
    have hN := Pu.spec_l01In.b_eq (R := Res) (fun r0 => some ⟨[(.v false [(.b r0)])], []⟩) x0 least1 most2
    have hl : loopsOf (Try.f51.body.getD .skip) = [] := by kernel_rfl
    refine ⟨iterN 0, by rw [hl]; exact loops_nil, ?_⟩
    refine Eq.trans (show body E51 (iterN 0) Try.f51 [(.v false [(.i .i64 x0)]), (.v false [(.i .i64 least1)]), (.v false [(.i .i64 most2)])] = Pu.spec_l01In.b (fun r0 => some ⟨[(.v false [(.b r0)])], []⟩) x0 least1 most2 by kernel_rfl) hN
  intro args r h
  unfold sp51 at h
  split at h
  · injection h with h
    injection h with h1 h2
    subst h2
    exact ⟨by kernel_rfl, fun hf => ⟨of_decide_eq_true (by kernel_rfl), key _ _ _⟩⟩
  · cases h

end Go.FG.Se

namespace Go.FG.Se
open Go.Proofs
def E50 : Env := { toTab := T, call := Go.FG.callIn [(51, sp51)], mode := Go.FG.modeIn md, keep := Go.FG.keepIn [], tk := fun n => Go.FG.memB n [], om := Go.FG.omIn [] }
def sp50 : List Arg → Option (Bool × Res)
  | [(.v false [(.s s0)])] => some (true, ⟨[(.v false [(.b (Pu.spec_l13Key.v s0))])], []⟩)
  | _ => none
theorem ok50 : FnOk Try.prog T 50 sp50 := by
  refine fn_ok (E := E50) hE (call_cons ok51 call_nil) hM Try.func50 (code := (Try.f50.body.getD .skip)) (by kernel_rfl) (by kernel_rfl) ?_
  have key : ∀ (s0 : ByteArray), ∃ it : It Res, (∀ c ∈ loopsOf (Try.f50.body.getD .skip), LoopOk E50 it c) ∧ body E50 it Try.f50 [(.v false [(.s s0)])] = some ⟨[(.v false [(.b (Pu.spec_l13Key.v s0))])], []⟩ := by
    intro s0 
    have hN := Pu.spec_l13Key.b_eq (R := Res) (fun r0 => some ⟨[(.v false [(.b r0)])], []⟩) s0
    have hl : loopsOf (Try.f50.body.getD .skip) = [] := by kernel_rfl
    refine ⟨iterN 0, by rw [hl]; exact loops_nil, ?_⟩
    refine Eq.trans (show body E50 (iterN 0) Try.f50 [(.v false [(.s s0)])] = Pu.spec_l13Key.b (fun r0 => some ⟨[(.v false [(.b r0)])], []⟩) s0 by kernel_rfl) hN
  intro args r h
  unfold sp50 at h
  split at h
  · injection h with h
    injection h with h1 h2
    subst h2
    exact ⟨by kernel_rfl, fun hf => ⟨of_decide_eq_true (by kernel_rfl), key _⟩⟩
  · cases h

end Go.FG.Se

namespace Go.FG.Se
open Go.Proofs
def E16 : Env := { toTab := T, call := Go.FG.callIn [(50, sp50), (51, sp51)], mode := Go.FG.modeIn md, keep := Go.FG.keepIn [], tk := fun n => Go.FG.memB n [], om := Go.FG.omIn [] }
def sp16 : List Arg → Option (Bool × Res)
  | [(.v true [(.s e0_0), (.i .i64 e0_1), (.i .i64 e0_2), (.s e0_3)])] => some (true, ⟨[(.v false [(.b (Pu.spec_EntryOk.v e0_0 e0_1 e0_2 e0_3))])], []⟩)
  | _ => none
theorem ok16 : FnOk Try.prog T 16 sp16 := by
  refine fn_ok (E := E16) hE (call_cons ok50 (call_cons ok51 call_nil)) hM Try.func16 (code := (Try.f16.body.getD .skip)) (by kernel_rfl) (by kernel_rfl) ?_
  have key : ∀ (e0_0 : ByteArray) (e0_1 : Int) (e0_2 : Int) (e0_3 : ByteArray), ∃ it : It Res, (∀ c ∈ loopsOf (Try.f16.body.getD .skip), LoopOk E16 it c) ∧ body E16 it Try.f16 [(.v true [(.s e0_0), (.i .i64 e0_1), (.i .i64 e0_2), (.s e0_3)])] = some ⟨[(.v false [(.b (Pu.spec_EntryOk.v e0_0 e0_1 e0_2 e0_3))])], []⟩ := by
    intro e0_0 e0_1 e0_2 e0_3 
    have hN := Pu.spec_EntryOk.b_eq (R := Res) (fun r0 => some ⟨[(.v false [(.b r0)])], []⟩) e0_0 e0_1 e0_2 e0_3
    have hl : loopsOf (Try.f16.body.getD .skip) = [] := by kernel_rfl
    refine ⟨iterN 0, by rw [hl]; exact loops_nil, ?_⟩
    refine Eq.trans (show body E16 (iterN 0) Try.f16 [(.v true [(.s e0_0), (.i .i64 e0_1), (.i .i64 e0_2), (.s e0_3)])] = Pu.spec_EntryOk.b (fun r0 => some ⟨[(.v false [(.b r0)])], []⟩) e0_0 e0_1 e0_2 e0_3 by kernel_rfl) hN
  intro args r h
  unfold sp16 at h
  split at h
  · injection h with h
    injection h with h1 h2
    subst h2
    exact ⟨by kernel_rfl, fun hf => ⟨of_decide_eq_true (by kernel_rfl), key _ _ _ _⟩⟩
  · cases h

end Go.FG.Se

namespace Go.FG.Se
open Go.Proofs
def E61 : Env := { toTab := T, call := Go.FG.callIn [], mode := Go.FG.modeIn md, keep := Go.FG.keepIn [(2, [0, 3])], tk := fun n => Go.FG.memB n [], om := Go.FG.omIn [] }
def it61 (N : Nat) {R : Type} : It R := fun rid f cn L K => bif Nat.beq rid 2 then (tell [(0, (.v (.v false [(.i .i64 0)]))), (6, (.v (.v false [(.own 0)]))), (1, (.o (.row 5 true [])))] (fun | [.I x0, .R x1] => Pu.spec_l01Var.l2 N (fun y0 y1 => (K (.exit 0) (tabl [(0, (.v (.v false [(.i .i64 y0)]))), (6, (.v (.v false [(.own 0)]))), (1, (.o (.row 5 true y1)))]))) N x0 x1 | _ => none) L (none)) else none
theorem e61_2 {R : Type} (N : Nat) (K : Ex → St → Option R) : ∀ n : Nat, (∀ x0 x1, iter (exc E61 (it61 N) (loopOf Try.f61 2)) (canon (E61.keep 2))  n (tabl [(0, (.v (.v false [(.i .i64 x0)]))), (6, (.v (.v false [(.own 0)]))), (1, (.o (.row 5 true x1)))]) K = Pu.spec_l01Var.l2 N (fun y0 y1 => (K (.exit 0) (tabl [(0, (.v (.v false [(.i .i64 y0)]))), (6, (.v (.v false [(.own 0)]))), (1, (.o (.row 5 true y1)))]))) n x0 x1) := by
  intro n
  induction n with
  | zero => exact (fun _ _ => rfl)
  | succ n ih =>
    have e0 : (fun x0 x1 => iter (exc E61 (it61 N) (loopOf Try.f61 2)) (canon (E61.keep 2))  n (tabl [(0, (.v (.v false [(.i .i64 x0)]))), (6, (.v (.v false [(.own 0)]))), (1, (.o (.row 5 true x1)))]) K) = Pu.spec_l01Var.l2 N (fun y0 y1 => (K (.exit 0) (tabl [(0, (.v (.v false [(.i .i64 y0)]))), (6, (.v (.v false [(.own 0)]))), (1, (.o (.row 5 true y1)))]))) n := by funext x0 x1; exact ih x0 x1
    intro x0 x1
    have h : ∀ g, exc E61 (it61 N) (loopOf Try.f61 2) (tabl [(0, (.v (.v false [(.i .i64 x0)]))), (6, (.v (.v false [(.own 0)]))), (1, (.o (.row 5 true x1)))]) (iterK g (canon (E61.keep 2)) K) = Pu.spec_l01Var.r2 N (fun x0 x1 => (g (tabl [(0, (.v (.v false [(.i .i64 x0)]))), (6, (.v (.v false [(.own 0)]))), (1, (.o (.row 5 true x1)))]))) (fun y0 y1 => (K (.exit 0) (tabl [(0, (.v (.v false [(.i .i64 y0)]))), (6, (.v (.v false [(.own 0)]))), (1, (.o (.row 5 true y1)))]))) x0 x1 := by intro g; kernel_rfl
    refine (h _).trans ?_
    show Pu.spec_l01Var.r2 N (fun x0 x1 => (iter (exc E61 (it61 N) (loopOf Try.f61 2)) (canon (E61.keep 2))  n (tabl [(0, (.v (.v false [(.i .i64 x0)]))), (6, (.v (.v false [(.own 0)]))), (1, (.o (.row 5 true x1)))]) K)) (fun y0 y1 => (K (.exit 0) (tabl [(0, (.v (.v false [(.i .i64 y0)]))), (6, (.v (.v false [(.own 0)]))), (1, (.o (.row 5 true y1)))]))) x0 x1 = _
    rw [e0]; rfl
theorem lo61_2 {R : Type} (N : Nat) : LoopOk E61 (it61 N (R := R)) (loopOf Try.f61 2) := by
  have e : firstRid (loopOf Try.f61 2) = 2 := by kernel_rfl
  intro L K r
  rw [e]
  intro h
  unfold it61 at h
  simp only [show Nat.beq 2 2 = true from rfl, cond_false, cond_true] at h
  refine tell_ok (Q := fun L => ∃ n, iter (exc E61 (it61 N) (loopOf Try.f61 2)) (canon (E61.keep 2)) n (tabl L) K = some r) h (fun xs h => ?_) (fun h => ?_)
  · (try dsimp only at h)
    split at h
    · exact ⟨N, ((e61_2 N K N) _ _).trans h⟩
    · cases h
  cases h
def sp61 : List Arg → Option (Bool × Res)
  | [(.v false [(.i .i64 n0)])] => some (Pu.spec_l01Var.c n0, ⟨[(.v false [(.s (Pu.spec_l01Var.v n0))])], []⟩)
  | _ => none
theorem ok61 : FnOk Try.prog T 61 sp61 := by
  refine fn_ok (E := E61) hE call_nil hM Try.func61 (code := (Try.f61.body.getD .skip)) (by kernel_rfl) (by kernel_rfl) ?_
  have key : ∀ (n0 : Int), Pu.spec_l01Var.c n0 = true → ∃ it : It Res, (∀ c ∈ loopsOf (Try.f61.body.getD .skip), LoopOk E61 it c) ∧ body E61 it Try.f61 [(.v false [(.i .i64 n0)])] = some ⟨[(.v false [(.s (Pu.spec_l01Var.v n0))])], []⟩ := by
    intro n0  h1
    obtain ⟨N, hN⟩ := Pu.spec_l01Var.b_eq (R := Res) (fun r0 => some ⟨[(.v false [(.s r0)])], []⟩) n0 h1
    have hl : loopsOf (Try.f61.body.getD .skip) = [loopOf Try.f61 2] := by kernel_rfl
    refine ⟨it61 N, by rw [hl]; exact (loops_cons (lo61_2 N) loops_nil), ?_⟩
    refine Eq.trans (show body E61 (it61 N) Try.f61 [(.v false [(.i .i64 n0)])] = Pu.spec_l01Var.b N (fun r0 => some ⟨[(.v false [(.s r0)])], []⟩) n0 by kernel_rfl) hN
  intro args r h
  unfold sp61 at h
  split at h
  · injection h with h
    injection h with h1 h2
    subst h2
    exact ⟨by kernel_rfl, fun hf => ⟨of_decide_eq_true (by kernel_rfl), key _ h1⟩⟩
  · cases h

end Go.FG.Se

namespace Go.FG.Se
open Go.Proofs
def E31 : Env := { toTab := T, call := Go.FG.callIn [(16, sp16), (61, sp61)], mode := Go.FG.modeIn md, keep := Go.FG.keepIn [], tk := fun n => Go.FG.memB n [], om := Go.FG.omIn [] }
def sp31 : List Arg → Option (Bool × Res)
  | [(.v true [(.s e0_0), (.i .i64 e0_1), (.i .i64 e0_2), (.s e0_3)])] => some (true, ⟨[(.v false [(.s ((Pu.spec_EntryText.v e0_0 e0_1 e0_2 e0_3).1))]), (.v false [(.b ((Pu.spec_EntryText.v e0_0 e0_1 e0_2 e0_3).2))])], []⟩)
  | _ => none
theorem ok31 : FnOk Try.prog T 31 sp31 := by
  refine fn_ok (E := E31) hE (call_cons ok16 (call_cons ok61 call_nil)) hM Try.func31 (code := (Try.f31.body.getD .skip)) (by kernel_rfl) (by kernel_rfl) ?_
  have key : ∀ (e0_0 : ByteArray) (e0_1 : Int) (e0_2 : Int) (e0_3 : ByteArray), ∃ it : It Res, (∀ c ∈ loopsOf (Try.f31.body.getD .skip), LoopOk E31 it c) ∧ body E31 it Try.f31 [(.v true [(.s e0_0), (.i .i64 e0_1), (.i .i64 e0_2), (.s e0_3)])] = some ⟨[(.v false [(.s ((Pu.spec_EntryText.v e0_0 e0_1 e0_2 e0_3).1))]), (.v false [(.b ((Pu.spec_EntryText.v e0_0 e0_1 e0_2 e0_3).2))])], []⟩ := by
    intro e0_0 e0_1 e0_2 e0_3 
    have hN := Pu.spec_EntryText.b_eq (R := Res) (fun r0 r1 => some ⟨[(.v false [(.s r0)]), (.v false [(.b r1)])], []⟩) e0_0 e0_1 e0_2 e0_3
    have hl : loopsOf (Try.f31.body.getD .skip) = [] := by kernel_rfl
    refine ⟨iterN 0, by rw [hl]; exact loops_nil, ?_⟩
    refine Eq.trans (show body E31 (iterN 0) Try.f31 [(.v true [(.s e0_0), (.i .i64 e0_1), (.i .i64 e0_2), (.s e0_3)])] = Pu.spec_EntryText.b (fun r0 r1 => some ⟨[(.v false [(.s r0)]), (.v false [(.b r1)])], []⟩) e0_0 e0_1 e0_2 e0_3 by kernel_rfl) hN
  intro args r h
  unfold sp31 at h
  split at h
  · injection h with h
    injection h with h1 h2
    subst h2
    exact ⟨by kernel_rfl, fun hf => ⟨of_decide_eq_true (by kernel_rfl), key _ _ _ _⟩⟩
  · cases h

end Go.FG.Se

namespace Go.FG.Se
open Go.Proofs
def E54 : Env := { toTab := T, call := Go.FG.callIn [], mode := Go.FG.modeIn md, keep := Go.FG.keepIn [], tk := fun n => Go.FG.memB n [], om := Go.FG.omIn [] }
def sp54 : List Arg → Option (Bool × Res)
  | [(.v false [(.i .i64 n0)]), (.v false [(.i .i64 low1)]), (.v false [(.i .i64 high2)])] => some (true, ⟨[(.v false [(.b (Pu.impl_within.v n0 low1 high2))])], []⟩)
  | _ => none
theorem ok54 : FnOk Try.prog T 54 sp54 := by
  refine fn_ok (E := E54) hE call_nil hM Try.func54 (code := (Try.f54.body.getD .skip)) (by kernel_rfl) (by kernel_rfl) ?_
  have key : ∀ (n0 : Int) (low1 : Int) (high2 : Int), ∃ it : It Res, (∀ c ∈ loopsOf (Try.f54.body.getD .skip), LoopOk E54 it c) ∧ body E54 it Try.f54 [(.v false [(.i .i64 n0)]), (.v false [(.i .i64 low1)]), (.v false [(.i .i64 high2)])] = some ⟨[(.v false [(.b (Pu.impl_within.v n0 low1 high2))])], []⟩ := by
    intro n0 low1 high2 
    have hN := Pu.impl_within.b_eq (R := Res) (fun r0 => some ⟨[(.v false [(.b r0)])], []⟩) n0 low1 high2
    have hl : loopsOf (Try.f54.body.getD .skip) = [] := by kernel_rfl
    refine ⟨iterN 0, by rw [hl]; exact loops_nil, ?_⟩
    refine Eq.trans (show body E54 (iterN 0) Try.f54 [(.v false [(.i .i64 n0)]), (.v false [(.i .i64 low1)]), (.v false [(.i .i64 high2)])] = Pu.impl_within.b (fun r0 => some ⟨[(.v false [(.b r0)])], []⟩) n0 low1 high2 by kernel_rfl) hN
  intro args r h
  unfold sp54 at h
  split at h
  · injection h with h
    injection h with h1 h2
    subst h2
    exact ⟨by kernel_rfl, fun hf => ⟨of_decide_eq_true (by kernel_rfl), key _ _ _⟩⟩
  · cases h

end Go.FG.Se

namespace Go.FG.Se
open Go.Proofs
def E52 : Env := { toTab := T, call := Go.FG.callIn [(54, sp54)], mode := Go.FG.modeIn md, keep := Go.FG.keepIn [], tk := fun n => Go.FG.memB n [], om := Go.FG.omIn [] }
def sp52 : List Arg → Option (Bool × Res)
  | [(.v false [(.s key0)])] => some (true, ⟨[(.v false [(.b (Pu.impl_isKey.v key0))])], []⟩)
  | _ => none
theorem ok52 : FnOk Try.prog T 52 sp52 := by
  refine fn_ok (E := E52) hE (call_cons ok54 call_nil) hM Try.func52 (code := (Try.f52.body.getD .skip)) (by kernel_rfl) (by kernel_rfl) ?_
  have key : ∀ (key0 : ByteArray), ∃ it : It Res, (∀ c ∈ loopsOf (Try.f52.body.getD .skip), LoopOk E52 it c) ∧ body E52 it Try.f52 [(.v false [(.s key0)])] = some ⟨[(.v false [(.b (Pu.impl_isKey.v key0))])], []⟩ := by
    intro key0 
    have hN := Pu.impl_isKey.b_eq (R := Res) (fun r0 => some ⟨[(.v false [(.b r0)])], []⟩) key0
    have hl : loopsOf (Try.f52.body.getD .skip) = [] := by kernel_rfl
    refine ⟨iterN 0, by rw [hl]; exact loops_nil, ?_⟩
    refine Eq.trans (show body E52 (iterN 0) Try.f52 [(.v false [(.s key0)])] = Pu.impl_isKey.b (fun r0 => some ⟨[(.v false [(.b r0)])], []⟩) key0 by kernel_rfl) hN
  intro args r h
  unfold sp52 at h
  split at h
  · injection h with h
    injection h with h1 h2
    subst h2
    exact ⟨by kernel_rfl, fun hf => ⟨of_decide_eq_true (by kernel_rfl), key _⟩⟩
  · cases h

end Go.FG.Se

namespace Go.FG.Se
open Go.Proofs
def E53 : Env := { toTab := T, call := Go.FG.callIn [(54, sp54)], mode := Go.FG.modeIn md, keep := Go.FG.keepIn [], tk := fun n => Go.FG.memB n [], om := Go.FG.omIn [] }
def sp53 : List Arg → Option (Bool × Res)
  | [(.v false [(.i .i64 n0)])] => some (true, ⟨[(.v false [(.b (Pu.impl_isNumber.v n0))])], []⟩)
  | _ => none
theorem ok53 : FnOk Try.prog T 53 sp53 := by
  refine fn_ok (E := E53) hE (call_cons ok54 call_nil) hM Try.func53 (code := (Try.f53.body.getD .skip)) (by kernel_rfl) (by kernel_rfl) ?_
  have key : ∀ (n0 : Int), ∃ it : It Res, (∀ c ∈ loopsOf (Try.f53.body.getD .skip), LoopOk E53 it c) ∧ body E53 it Try.f53 [(.v false [(.i .i64 n0)])] = some ⟨[(.v false [(.b (Pu.impl_isNumber.v n0))])], []⟩ := by
    intro n0 
    have hN := Pu.impl_isNumber.b_eq (R := Res) (fun r0 => some ⟨[(.v false [(.b r0)])], []⟩) n0
    have hl : loopsOf (Try.f53.body.getD .skip) = [] := by kernel_rfl
    refine ⟨iterN 0, by rw [hl]; exact loops_nil, ?_⟩
    refine Eq.trans (show body E53 (iterN 0) Try.f53 [(.v false [(.i .i64 n0)])] = Pu.impl_isNumber.b (fun r0 => some ⟨[(.v false [(.b r0)])], []⟩) n0 by kernel_rfl) hN
  intro args r h
  unfold sp53 at h
  split at h
  · injection h with h
    injection h with h1 h2
    subst h2
    exact ⟨by kernel_rfl, fun hf => ⟨of_decide_eq_true (by kernel_rfl), key _⟩⟩
  · cases h

end Go.FG.Se

namespace Go.FG.Se
open Go.Proofs
def E18 : Env := { toTab := T, call := Go.FG.callIn [(52, sp52), (53, sp53), (54, sp54)], mode := Go.FG.modeIn md, keep := Go.FG.keepIn [], tk := fun n => Go.FG.memB n [], om := Go.FG.omIn [] }
def sp18 : List Arg → Option (Bool × Res)
  | [(.v true [(.s e0_0), (.i .i64 e0_1), (.i .i64 e0_2), (.s e0_3)])] => some (true, ⟨[(.v false [(.b (Pu.impl_EntryOk.v e0_0 e0_1 e0_2 e0_3))])], []⟩)
  | _ => none
theorem ok18 : FnOk Try.prog T 18 sp18 := by
  refine fn_ok (E := E18) hE (call_cons ok52 (call_cons ok53 (call_cons ok54 call_nil))) hM Try.func18 (code := (Try.f18.body.getD .skip)) (by kernel_rfl) (by kernel_rfl) ?_
  have key : ∀ (e0_0 : ByteArray) (e0_1 : Int) (e0_2 : Int) (e0_3 : ByteArray), ∃ it : It Res, (∀ c ∈ loopsOf (Try.f18.body.getD .skip), LoopOk E18 it c) ∧ body E18 it Try.f18 [(.v true [(.s e0_0), (.i .i64 e0_1), (.i .i64 e0_2), (.s e0_3)])] = some ⟨[(.v false [(.b (Pu.impl_EntryOk.v e0_0 e0_1 e0_2 e0_3))])], []⟩ := by
    intro e0_0 e0_1 e0_2 e0_3 
    have hN := Pu.impl_EntryOk.b_eq (R := Res) (fun r0 => some ⟨[(.v false [(.b r0)])], []⟩) e0_0 e0_1 e0_2 e0_3
    have hl : loopsOf (Try.f18.body.getD .skip) = [] := by kernel_rfl
    refine ⟨iterN 0, by rw [hl]; exact loops_nil, ?_⟩
    refine Eq.trans (show body E18 (iterN 0) Try.f18 [(.v true [(.s e0_0), (.i .i64 e0_1), (.i .i64 e0_2), (.s e0_3)])] = Pu.impl_EntryOk.b (fun r0 => some ⟨[(.v false [(.b r0)])], []⟩) e0_0 e0_1 e0_2 e0_3 by kernel_rfl) hN
  intro args r h
  unfold sp18 at h
  split at h
  · injection h with h
    injection h with h1 h2
    subst h2
    exact ⟨by kernel_rfl, fun hf => ⟨of_decide_eq_true (by kernel_rfl), key _ _ _ _⟩⟩
  · cases h

end Go.FG.Se

namespace Go.FG.Se
open Go.Proofs
def E63 : Env := { toTab := T, call := Go.FG.callIn [(54, sp54)], mode := Go.FG.modeIn md, keep := Go.FG.keepIn [(4, [0, 4])], tk := fun n => Go.FG.memB n [], om := Go.FG.omIn [] }
def it63 (N : Nat) {R : Type} : It R := fun rid f cn L K => bif Nat.beq rid 4 then (tell [(0, (.v (.v false [(.i .i64 0)]))), (8, (.v (.v false [(.own 0)]))), (1, (.o (.row 5 true [])))] (fun | [.I x0, .R x1] => Pu.impl_VarText.l4 N (fun y0 y1 => (K (.exit 0) (tabl [(0, (.v (.v false [(.i .i64 y0)]))), (8, (.v (.v false [(.own 0)]))), (1, (.o (.row 5 true y1)))]))) N x0 x1 | _ => none) L (none)) else none
theorem e63_4 {R : Type} (N : Nat) (K : Ex → St → Option R) : ∀ n : Nat, (∀ x0 x1, iter (exc E63 (it63 N) (loopOf Try.f63 4)) (canon (E63.keep 4))  n (tabl [(0, (.v (.v false [(.i .i64 x0)]))), (8, (.v (.v false [(.own 0)]))), (1, (.o (.row 5 true x1)))]) K = Pu.impl_VarText.l4 N (fun y0 y1 => (K (.exit 0) (tabl [(0, (.v (.v false [(.i .i64 y0)]))), (8, (.v (.v false [(.own 0)]))), (1, (.o (.row 5 true y1)))]))) n x0 x1) := by
  intro n
  induction n with
  | zero => exact (fun _ _ => rfl)
  | succ n ih =>
    have e0 : (fun x0 x1 => iter (exc E63 (it63 N) (loopOf Try.f63 4)) (canon (E63.keep 4))  n (tabl [(0, (.v (.v false [(.i .i64 x0)]))), (8, (.v (.v false [(.own 0)]))), (1, (.o (.row 5 true x1)))]) K) = Pu.impl_VarText.l4 N (fun y0 y1 => (K (.exit 0) (tabl [(0, (.v (.v false [(.i .i64 y0)]))), (8, (.v (.v false [(.own 0)]))), (1, (.o (.row 5 true y1)))]))) n := by funext x0 x1; exact ih x0 x1
    intro x0 x1
    have h : ∀ g, exc E63 (it63 N) (loopOf Try.f63 4) (tabl [(0, (.v (.v false [(.i .i64 x0)]))), (8, (.v (.v false [(.own 0)]))), (1, (.o (.row 5 true x1)))]) (iterK g (canon (E63.keep 4)) K) = Pu.impl_VarText.r4 N (fun x0 x1 => (g (tabl [(0, (.v (.v false [(.i .i64 x0)]))), (8, (.v (.v false [(.own 0)]))), (1, (.o (.row 5 true x1)))]))) (fun y0 y1 => (K (.exit 0) (tabl [(0, (.v (.v false [(.i .i64 y0)]))), (8, (.v (.v false [(.own 0)]))), (1, (.o (.row 5 true y1)))]))) x0 x1 := by intro g; kernel_rfl
    refine (h _).trans ?_
    show Pu.impl_VarText.r4 N (fun x0 x1 => (iter (exc E63 (it63 N) (loopOf Try.f63 4)) (canon (E63.keep 4))  n (tabl [(0, (.v (.v false [(.i .i64 x0)]))), (8, (.v (.v false [(.own 0)]))), (1, (.o (.row 5 true x1)))]) K)) (fun y0 y1 => (K (.exit 0) (tabl [(0, (.v (.v false [(.i .i64 y0)]))), (8, (.v (.v false [(.own 0)]))), (1, (.o (.row 5 true y1)))]))) x0 x1 = _
    rw [e0]; rfl
theorem lo63_4 {R : Type} (N : Nat) : LoopOk E63 (it63 N (R := R)) (loopOf Try.f63 4) := by
  have e : firstRid (loopOf Try.f63 4) = 4 := by kernel_rfl
  intro L K r
  rw [e]
  intro h
  unfold it63 at h
  simp only [show Nat.beq 4 4 = true from rfl, cond_false, cond_true] at h
  refine tell_ok (Q := fun L => ∃ n, iter (exc E63 (it63 N) (loopOf Try.f63 4)) (canon (E63.keep 4)) n (tabl L) K = some r) h (fun xs h => ?_) (fun h => ?_)
  · (try dsimp only at h)
    split at h
    · exact ⟨N, ((e63_4 N K N) _ _).trans h⟩
    · cases h
  cases h
def sp63 : List Arg → Option (Bool × Res)
  | [(.v false [(.i .i64 n0)])] => some (true, ⟨[(.v false [(.s ((Pu.impl_VarText.v n0).1))]), (.v false [(.b ((Pu.impl_VarText.v n0).2))])], []⟩)
  | _ => none
theorem ok63 : FnOk Try.prog T 63 sp63 := by
  refine fn_ok (E := E63) hE (call_cons ok54 call_nil) hM Try.func63 (code := (Try.f63.body.getD .skip)) (by kernel_rfl) (by kernel_rfl) ?_
  have key : ∀ (n0 : Int), ∃ it : It Res, (∀ c ∈ loopsOf (Try.f63.body.getD .skip), LoopOk E63 it c) ∧ body E63 it Try.f63 [(.v false [(.i .i64 n0)])] = some ⟨[(.v false [(.s ((Pu.impl_VarText.v n0).1))]), (.v false [(.b ((Pu.impl_VarText.v n0).2))])], []⟩ := by
    intro n0 
    obtain ⟨N, hN⟩ := Pu.impl_VarText.b_eq (R := Res) (fun r0 r1 => some ⟨[(.v false [(.s r0)]), (.v false [(.b r1)])], []⟩) n0
    have hl : loopsOf (Try.f63.body.getD .skip) = [loopOf Try.f63 4] := by kernel_rfl
    refine ⟨it63 N, by rw [hl]; exact (loops_cons (lo63_4 N) loops_nil), ?_⟩
    refine Eq.trans (show body E63 (it63 N) Try.f63 [(.v false [(.i .i64 n0)])] = Pu.impl_VarText.b N (fun r0 r1 => some ⟨[(.v false [(.s r0)]), (.v false [(.b r1)])], []⟩) n0 by kernel_rfl) hN
  intro args r h
  unfold sp63 at h
  split at h
  · injection h with h
    injection h with h1 h2
    subst h2
    exact ⟨by kernel_rfl, fun hf => ⟨of_decide_eq_true (by kernel_rfl), key _⟩⟩
  · cases h

end Go.FG.Se

namespace Go.FG.Se
open Go.Proofs
def E62 : Env := { toTab := T, call := Go.FG.callIn [(63, sp63)], mode := Go.FG.modeIn md, keep := Go.FG.keepIn [], tk := fun n => Go.FG.memB n [], om := Go.FG.omIn [] }
def sp62 : List Arg → Option (Bool × Res)
  | [(.v false [(.s s0)])] => some (true, ⟨[(.v false [(.s ((Pu.impl_ShortText.v s0).1))]), (.v false [(.b ((Pu.impl_ShortText.v s0).2))])], []⟩)
  | _ => none
theorem ok62 : FnOk Try.prog T 62 sp62 := by
  refine fn_ok (E := E62) hE (call_cons ok63 call_nil) hM Try.func62 (code := (Try.f62.body.getD .skip)) (by kernel_rfl) (by kernel_rfl) ?_
  have key : ∀ (s0 : ByteArray), ∃ it : It Res, (∀ c ∈ loopsOf (Try.f62.body.getD .skip), LoopOk E62 it c) ∧ body E62 it Try.f62 [(.v false [(.s s0)])] = some ⟨[(.v false [(.s ((Pu.impl_ShortText.v s0).1))]), (.v false [(.b ((Pu.impl_ShortText.v s0).2))])], []⟩ := by
    intro s0 
    have hN := Pu.impl_ShortText.b_eq (R := Res) (fun r0 r1 => some ⟨[(.v false [(.s r0)]), (.v false [(.b r1)])], []⟩) s0
    have hl : loopsOf (Try.f62.body.getD .skip) = [] := by kernel_rfl
    refine ⟨iterN 0, by rw [hl]; exact loops_nil, ?_⟩
    refine Eq.trans (show body E62 (iterN 0) Try.f62 [(.v false [(.s s0)])] = Pu.impl_ShortText.b (fun r0 r1 => some ⟨[(.v false [(.s r0)]), (.v false [(.b r1)])], []⟩) s0 by kernel_rfl) hN
  intro args r h
  unfold sp62 at h
  split at h
  · injection h with h
    injection h with h1 h2
    subst h2
    exact ⟨by kernel_rfl, fun hf => ⟨of_decide_eq_true (by kernel_rfl), key _⟩⟩
  · cases h

end Go.FG.Se

namespace Go.FG.Se
open Go.Proofs
def E32 : Env := { toTab := T, call := Go.FG.callIn [(18, sp18), (62, sp62), (63, sp63)], mode := Go.FG.modeIn md, keep := Go.FG.keepIn [], tk := fun n => Go.FG.memB n [], om := Go.FG.omIn [] }
def sp32 : List Arg → Option (Bool × Res)
  | [(.v true [(.s e0_0), (.i .i64 e0_1), (.i .i64 e0_2), (.s e0_3)])] => some (true, ⟨[(.v false [(.s ((Pu.impl_EntryText.v e0_0 e0_1 e0_2 e0_3).1))]), (.v false [(.b ((Pu.impl_EntryText.v e0_0 e0_1 e0_2 e0_3).2))])], []⟩)
  | _ => none
theorem ok32 : FnOk Try.prog T 32 sp32 := by
  refine fn_ok (E := E32) hE (call_cons ok18 (call_cons ok62 (call_cons ok63 call_nil))) hM Try.func32 (code := (Try.f32.body.getD .skip)) (by kernel_rfl) (by kernel_rfl) ?_
  have key : ∀ (e0_0 : ByteArray) (e0_1 : Int) (e0_2 : Int) (e0_3 : ByteArray), ∃ it : It Res, (∀ c ∈ loopsOf (Try.f32.body.getD .skip), LoopOk E32 it c) ∧ body E32 it Try.f32 [(.v true [(.s e0_0), (.i .i64 e0_1), (.i .i64 e0_2), (.s e0_3)])] = some ⟨[(.v false [(.s ((Pu.impl_EntryText.v e0_0 e0_1 e0_2 e0_3).1))]), (.v false [(.b ((Pu.impl_EntryText.v e0_0 e0_1 e0_2 e0_3).2))])], []⟩ := by
    intro e0_0 e0_1 e0_2 e0_3 
    have hN := Pu.impl_EntryText.b_eq (R := Res) (fun r0 r1 => some ⟨[(.v false [(.s r0)]), (.v false [(.b r1)])], []⟩) e0_0 e0_1 e0_2 e0_3
    have hl : loopsOf (Try.f32.body.getD .skip) = [] := by kernel_rfl
    refine ⟨iterN 0, by rw [hl]; exact loops_nil, ?_⟩
    refine Eq.trans (show body E32 (iterN 0) Try.f32 [(.v true [(.s e0_0), (.i .i64 e0_1), (.i .i64 e0_2), (.s e0_3)])] = Pu.impl_EntryText.b (fun r0 r1 => some ⟨[(.v false [(.s r0)]), (.v false [(.b r1)])], []⟩) e0_0 e0_1 e0_2 e0_3 by kernel_rfl) hN
  intro args r h
  unfold sp32 at h
  split at h
  · injection h with h
    injection h with h1 h2
    subst h2
    exact ⟨by kernel_rfl, fun hf => ⟨of_decide_eq_true (by kernel_rfl), key _ _ _ _⟩⟩
  · cases h

end Go.FG.Se

namespace Go.FG.Se
open Go.Proofs
def E7 : Env := { toTab := T, call := Go.FG.callIn [(15, sp15), (17, sp17), (31, sp31), (32, sp32)], mode := Go.FG.modeIn md, keep := Go.FG.keepIn [], tk := fun n => Go.FG.memB n [], om := Go.FG.omIn [] }
def sp7 : List Arg → Option (Bool × Res)
  | [(.v true [(.s aE0_0), (.i .i64 aE0_1), (.i .i64 aE0_2), (.s aE0_3)])] => some (true, ⟨[(.v false [(.b (Pu.laws_FnExactEntryText.v aE0_0 aE0_1 aE0_2 aE0_3))])], []⟩)
  | _ => none
theorem ok7 : FnOk Try.prog T 7 sp7 := by
  refine fn_ok (E := E7) hE (call_cons ok15 (call_cons ok17 (call_cons ok31 (call_cons ok32 call_nil)))) hM Try.func7 (code := (Try.f7.body.getD .skip)) (by kernel_rfl) (by kernel_rfl) ?_
  have key : ∀ (aE0_0 : ByteArray) (aE0_1 : Int) (aE0_2 : Int) (aE0_3 : ByteArray), ∃ it : It Res, (∀ c ∈ loopsOf (Try.f7.body.getD .skip), LoopOk E7 it c) ∧ body E7 it Try.f7 [(.v true [(.s aE0_0), (.i .i64 aE0_1), (.i .i64 aE0_2), (.s aE0_3)])] = some ⟨[(.v false [(.b (Pu.laws_FnExactEntryText.v aE0_0 aE0_1 aE0_2 aE0_3))])], []⟩ := by
    intro aE0_0 aE0_1 aE0_2 aE0_3 
    have hN := Pu.laws_FnExactEntryText.b_eq (R := Res) (fun r0 => some ⟨[(.v false [(.b r0)])], []⟩) aE0_0 aE0_1 aE0_2 aE0_3
    have hl : loopsOf (Try.f7.body.getD .skip) = [] := by kernel_rfl
    refine ⟨iterN 0, by rw [hl]; exact loops_nil, ?_⟩
    refine Eq.trans (show body E7 (iterN 0) Try.f7 [(.v true [(.s aE0_0), (.i .i64 aE0_1), (.i .i64 aE0_2), (.s aE0_3)])] = Pu.laws_FnExactEntryText.b (fun r0 => some ⟨[(.v false [(.b r0)])], []⟩) aE0_0 aE0_1 aE0_2 aE0_3 by kernel_rfl) hN
  intro args r h
  unfold sp7 at h
  split at h
  · injection h with h
    injection h with h1 h2
    subst h2
    exact ⟨by kernel_rfl, fun hf => ⟨of_decide_eq_true (by kernel_rfl), key _ _ _ _⟩⟩
  · cases h

end Go.FG.Se

