/- Functions of the program: the evaluation of each, and that a call of it does what is told. No condition. -/
import Derived.Test.YtnhconmkdleomaaTab
import Derived.Test.YtnhconmkdleomaaPExactEventOk
set_option linter.unusedVariables false
set_option linter.unusedSimpArgs false
set_option maxRecDepth 100000
namespace Go.FG.Se
open Go.Proofs
def E58 : Env := { toTab := T, call := Go.FG.callIn [], mode := Go.FG.modeIn md, keep := Go.FG.keepIn [], tk := fun n => Go.FG.memB n [], om := Go.FG.omIn [] }
def sp58 : List Arg → Option (Bool × Res)
  | [(.v false [(.sh 3 a0)]), (.v false [(.i .i64 left1)])] => some (true, ⟨[(.v false [(.i .i64 (Pu.laws_szIntS.v a0 left1))])], []⟩)
  | _ => none
theorem ok58 : FnOk Try.prog T 58 sp58 := by
  refine fn_ok (E := E58) hE call_nil hM Try.func58 (code := (Try.f58.body.getD .skip)) (by kernel_rfl) (by kernel_rfl) ?_
  have key : ∀ (a0 : Row) (left1 : Int), ∃ it : It Res, (∀ c ∈ loopsOf (Try.f58.body.getD .skip), LoopOk E58 it c) ∧ body E58 it Try.f58 [(.v false [(.sh 3 a0)]), (.v false [(.i .i64 left1)])] = some ⟨[(.v false [(.i .i64 (Pu.laws_szIntS.v a0 left1))])], []⟩ := by
    intro a0 left1 
    have hN := Pu.laws_szIntS.b_eq (R := Res) (fun r0 => some ⟨[(.v false [(.i .i64 r0)])], []⟩) a0 left1
    have hl : loopsOf (Try.f58.body.getD .skip) = [] := by kernel_rfl
    refine ⟨iterN 0, by rw [hl]; exact loops_nil, ?_⟩
    refine Eq.trans (show body E58 (iterN 0) Try.f58 [(.v false [(.sh 3 a0)]), (.v false [(.i .i64 left1)])] = Pu.laws_szIntS.b (fun r0 => some ⟨[(.v false [(.i .i64 r0)])], []⟩) a0 left1 by kernel_rfl) hN
  intro args r h
  unfold sp58 at h
  split at h
  · injection h with h
    injection h with h1 h2
    subst h2
    exact ⟨by kernel_rfl, fun hf => ⟨of_decide_eq_true (by kernel_rfl), key _ _⟩⟩
  · cases h

end Go.FG.Se

namespace Go.FG.Se
open Go.Proofs
def E26 : Env := { toTab := T, call := Go.FG.callIn [(58, sp58)], mode := Go.FG.modeIn md, keep := Go.FG.keepIn [], tk := fun n => Go.FG.memB n [], om := Go.FG.omIn [] }
def sp26 : List Arg → Option (Bool × Res)
  | [(.v true [(.i .i64 a0_0), (.i .i64 a0_1), (.s a0_2), (.i .i64 a0_3), (.sh 3 a0_4)]), (.v false [(.i .i64 left1)])] => some (true, ⟨[(.v false [(.i .i64 (Pu.laws_szEvent.v a0_0 a0_1 a0_2 a0_3 a0_4 left1))])], []⟩)
  | _ => none
theorem ok26 : FnOk Try.prog T 26 sp26 := by
  refine fn_ok (E := E26) hE (call_cons ok58 call_nil) hM Try.func26 (code := (Try.f26.body.getD .skip)) (by kernel_rfl) (by kernel_rfl) ?_
  have key : ∀ (a0_0 : Int) (a0_1 : Int) (a0_2 : ByteArray) (a0_3 : Int) (a0_4 : Row) (left1 : Int), ∃ it : It Res, (∀ c ∈ loopsOf (Try.f26.body.getD .skip), LoopOk E26 it c) ∧ body E26 it Try.f26 [(.v true [(.i .i64 a0_0), (.i .i64 a0_1), (.s a0_2), (.i .i64 a0_3), (.sh 3 a0_4)]), (.v false [(.i .i64 left1)])] = some ⟨[(.v false [(.i .i64 (Pu.laws_szEvent.v a0_0 a0_1 a0_2 a0_3 a0_4 left1))])], []⟩ := by
    intro a0_0 a0_1 a0_2 a0_3 a0_4 left1 
    have hN := Pu.laws_szEvent.b_eq (R := Res) (fun r0 => some ⟨[(.v false [(.i .i64 r0)])], []⟩) a0_0 a0_1 a0_2 a0_3 a0_4 left1
    have hl : loopsOf (Try.f26.body.getD .skip) = [] := by kernel_rfl
    refine ⟨iterN 0, by rw [hl]; exact loops_nil, ?_⟩
    refine Eq.trans (show body E26 (iterN 0) Try.f26 [(.v true [(.i .i64 a0_0), (.i .i64 a0_1), (.s a0_2), (.i .i64 a0_3), (.sh 3 a0_4)]), (.v false [(.i .i64 left1)])] = Pu.laws_szEvent.b (fun r0 => some ⟨[(.v false [(.i .i64 r0)])], []⟩) a0_0 a0_1 a0_2 a0_3 a0_4 left1 by kernel_rfl) hN
  intro args r h
  unfold sp26 at h
  split at h
  · injection h with h
    injection h with h1 h2
    subst h2
    exact ⟨by kernel_rfl, fun hf => ⟨of_decide_eq_true (by kernel_rfl), key _ _ _ _ _ _⟩⟩
  · cases h

end Go.FG.Se

namespace Go.FG.Se
open Go.Proofs
def E59 : Env := { toTab := T, call := Go.FG.callIn [], mode := Go.FG.modeIn md, keep := Go.FG.keepIn [(3, [0, 3, 4])], tk := fun n => Go.FG.memB n [], om := Go.FG.omIn [] }
def it59 (N : Nat) {R : Type} : It R := fun rid f cn L K => bif Nat.beq rid 3 then (tell [(0, (.v (.v false [(.sh 3 [])]))), (6, (.v (.v false [(.own 0)]))), (8, (.v (.v false [(.i .i64 0)]))), (1, (.o (.row 3 true [])))] (fun | [.R x0, .I x1, .R x2] => Pu.laws_toIntS.l3 N (fun y0 y1 y2 => (K (.exit 0) (tabl [(0, (.v (.v false [(.sh 3 y0)]))), (6, (.v (.v false [(.own 0)]))), (8, (.v (.v false [(.i .i64 y1)]))), (1, (.o (.row 3 true y2)))]))) N x0 x1 x2 | _ => none) L (none)) else none
theorem e59_3 {R : Type} (N : Nat) (K : Ex → St → Option R) : ∀ n : Nat, (∀ x0 x1 x2, iter (exc E59 (it59 N) (loopOf Try.f59 3)) (canon (E59.keep 3))  n (tabl [(0, (.v (.v false [(.sh 3 x0)]))), (6, (.v (.v false [(.own 0)]))), (8, (.v (.v false [(.i .i64 x1)]))), (1, (.o (.row 3 true x2)))]) K = Pu.laws_toIntS.l3 N (fun y0 y1 y2 => (K (.exit 0) (tabl [(0, (.v (.v false [(.sh 3 y0)]))), (6, (.v (.v false [(.own 0)]))), (8, (.v (.v false [(.i .i64 y1)]))), (1, (.o (.row 3 true y2)))]))) n x0 x1 x2) := by
  intro n
  induction n with
  | zero => exact (fun _ _ _ => rfl)
  | succ n ih =>
    have e0 : (fun x0 x1 x2 => iter (exc E59 (it59 N) (loopOf Try.f59 3)) (canon (E59.keep 3))  n (tabl [(0, (.v (.v false [(.sh 3 x0)]))), (6, (.v (.v false [(.own 0)]))), (8, (.v (.v false [(.i .i64 x1)]))), (1, (.o (.row 3 true x2)))]) K) = Pu.laws_toIntS.l3 N (fun y0 y1 y2 => (K (.exit 0) (tabl [(0, (.v (.v false [(.sh 3 y0)]))), (6, (.v (.v false [(.own 0)]))), (8, (.v (.v false [(.i .i64 y1)]))), (1, (.o (.row 3 true y2)))]))) n := by funext x0 x1 x2; exact ih x0 x1 x2
    intro x0 x1 x2
    have h : ∀ g, exc E59 (it59 N) (loopOf Try.f59 3) (tabl [(0, (.v (.v false [(.sh 3 x0)]))), (6, (.v (.v false [(.own 0)]))), (8, (.v (.v false [(.i .i64 x1)]))), (1, (.o (.row 3 true x2)))]) (iterK g (canon (E59.keep 3)) K) = Pu.laws_toIntS.r3 N (fun x0 x1 x2 => (g (tabl [(0, (.v (.v false [(.sh 3 x0)]))), (6, (.v (.v false [(.own 0)]))), (8, (.v (.v false [(.i .i64 x1)]))), (1, (.o (.row 3 true x2)))]))) (fun y0 y1 y2 => (K (.exit 0) (tabl [(0, (.v (.v false [(.sh 3 y0)]))), (6, (.v (.v false [(.own 0)]))), (8, (.v (.v false [(.i .i64 y1)]))), (1, (.o (.row 3 true y2)))]))) x0 x1 x2 := by intro g; kernel_rfl
    refine (h _).trans ?_
    show Pu.laws_toIntS.r3 N (fun x0 x1 x2 => (iter (exc E59 (it59 N) (loopOf Try.f59 3)) (canon (E59.keep 3))  n (tabl [(0, (.v (.v false [(.sh 3 x0)]))), (6, (.v (.v false [(.own 0)]))), (8, (.v (.v false [(.i .i64 x1)]))), (1, (.o (.row 3 true x2)))]) K)) (fun y0 y1 y2 => (K (.exit 0) (tabl [(0, (.v (.v false [(.sh 3 y0)]))), (6, (.v (.v false [(.own 0)]))), (8, (.v (.v false [(.i .i64 y1)]))), (1, (.o (.row 3 true y2)))]))) x0 x1 x2 = _
    rw [e0]; rfl
theorem lo59_3 {R : Type} (N : Nat) : LoopOk E59 (it59 N (R := R)) (loopOf Try.f59 3) := by
  have e : firstRid (loopOf Try.f59 3) = 3 := by kernel_rfl
  intro L K r
  rw [e]
  intro h
  unfold it59 at h
  simp only [show Nat.beq 3 3 = true from rfl, cond_false, cond_true] at h
  refine tell_ok (Q := fun L => ∃ n, iter (exc E59 (it59 N) (loopOf Try.f59 3)) (canon (E59.keep 3)) n (tabl L) K = some r) h (fun xs h => ?_) (fun h => ?_)
  · (try dsimp only at h)
    split at h
    · exact ⟨N, ((e59_3 N K N) _ _ _).trans h⟩
    · cases h
  cases h
def sp59 : List Arg → Option (Bool × Res)
  | [(.v false [(.sh 3 a0)])] => some (Pu.laws_toIntS.c a0, ⟨[(.v false [(.ow 3 true (Pu.laws_toIntS.v a0))])], []⟩)
  | _ => none
theorem ok59 : FnOk Try.prog T 59 sp59 := by
  refine fn_ok (E := E59) hE call_nil hM Try.func59 (code := (Try.f59.body.getD .skip)) (by kernel_rfl) (by kernel_rfl) ?_
  have key : ∀ (a0 : Row), Pu.laws_toIntS.c a0 = true → ∃ it : It Res, (∀ c ∈ loopsOf (Try.f59.body.getD .skip), LoopOk E59 it c) ∧ body E59 it Try.f59 [(.v false [(.sh 3 a0)])] = some ⟨[(.v false [(.ow 3 true (Pu.laws_toIntS.v a0))])], []⟩ := by
    intro a0  h1
    obtain ⟨N, hN⟩ := Pu.laws_toIntS.b_eq (R := Res) (fun r0 => some ⟨[(.v false [(.ow 3 true r0)])], []⟩) a0 h1
    have hl : loopsOf (Try.f59.body.getD .skip) = [loopOf Try.f59 3] := by kernel_rfl
    refine ⟨it59 N, by rw [hl]; exact (loops_cons (lo59_3 N) loops_nil), ?_⟩
    refine Eq.trans (show body E59 (it59 N) Try.f59 [(.v false [(.sh 3 a0)])] = Pu.laws_toIntS.b N (fun r0 => some ⟨[(.v false [(.ow 3 true r0)])], []⟩) a0 by kernel_rfl) hN
  intro args r h
  unfold sp59 at h
  split at h
  · injection h with h
    injection h with h1 h2
    subst h2
    exact ⟨by kernel_rfl, fun hf => ⟨of_decide_eq_true (by kernel_rfl), key _ h1⟩⟩
  · cases h

end Go.FG.Se

namespace Go.FG.Se
open Go.Proofs
def E28 : Env := { toTab := T, call := Go.FG.callIn [(59, sp59)], mode := Go.FG.modeIn md, keep := Go.FG.keepIn [], tk := fun n => Go.FG.memB n [], om := Go.FG.omIn [] }
def sp28 : List Arg → Option (Bool × Res)
  | [(.v true [(.i .i64 a0_0), (.i .i64 a0_1), (.s a0_2), (.i .i64 a0_3), (.sh 3 a0_4)])] => some (Pu.laws_toEvent.c a0_0 a0_1 a0_2 a0_3 a0_4, ⟨[(.v true [(.i .i64 ((Pu.laws_toEvent.v a0_0 a0_1 a0_2 a0_3 a0_4).1)), (.i .i64 ((Pu.laws_toEvent.v a0_0 a0_1 a0_2 a0_3 a0_4).2.1)), (.s ((Pu.laws_toEvent.v a0_0 a0_1 a0_2 a0_3 a0_4).2.2.1)), (.i .i64 ((Pu.laws_toEvent.v a0_0 a0_1 a0_2 a0_3 a0_4).2.2.2.1)), (.ow 3 true ((Pu.laws_toEvent.v a0_0 a0_1 a0_2 a0_3 a0_4).2.2.2.2))])], []⟩)
  | _ => none
theorem ok28 : FnOk Try.prog T 28 sp28 := by
  refine fn_ok (E := E28) hE (call_cons ok59 call_nil) hM Try.func28 (code := (Try.f28.body.getD .skip)) (by kernel_rfl) (by kernel_rfl) ?_
  have key : ∀ (a0_0 : Int) (a0_1 : Int) (a0_2 : ByteArray) (a0_3 : Int) (a0_4 : Row), Pu.laws_toEvent.c a0_0 a0_1 a0_2 a0_3 a0_4 = true → ∃ it : It Res, (∀ c ∈ loopsOf (Try.f28.body.getD .skip), LoopOk E28 it c) ∧ body E28 it Try.f28 [(.v true [(.i .i64 a0_0), (.i .i64 a0_1), (.s a0_2), (.i .i64 a0_3), (.sh 3 a0_4)])] = some ⟨[(.v true [(.i .i64 ((Pu.laws_toEvent.v a0_0 a0_1 a0_2 a0_3 a0_4).1)), (.i .i64 ((Pu.laws_toEvent.v a0_0 a0_1 a0_2 a0_3 a0_4).2.1)), (.s ((Pu.laws_toEvent.v a0_0 a0_1 a0_2 a0_3 a0_4).2.2.1)), (.i .i64 ((Pu.laws_toEvent.v a0_0 a0_1 a0_2 a0_3 a0_4).2.2.2.1)), (.ow 3 true ((Pu.laws_toEvent.v a0_0 a0_1 a0_2 a0_3 a0_4).2.2.2.2))])], []⟩ := by
    intro a0_0 a0_1 a0_2 a0_3 a0_4  h1
    have hN := Pu.laws_toEvent.b_eq (R := Res) (fun r0 r1 r2 r3 r4 => some ⟨[(.v true [(.i .i64 r0), (.i .i64 r1), (.s r2), (.i .i64 r3), (.ow 3 true r4)])], []⟩) a0_0 a0_1 a0_2 a0_3 a0_4 h1
    have hl : loopsOf (Try.f28.body.getD .skip) = [] := by kernel_rfl
    refine ⟨iterN 0, by rw [hl]; exact loops_nil, ?_⟩
    refine Eq.trans (show body E28 (iterN 0) Try.f28 [(.v true [(.i .i64 a0_0), (.i .i64 a0_1), (.s a0_2), (.i .i64 a0_3), (.sh 3 a0_4)])] = Pu.laws_toEvent.b (fun r0 r1 r2 r3 r4 => some ⟨[(.v true [(.i .i64 r0), (.i .i64 r1), (.s r2), (.i .i64 r3), (.ow 3 true r4)])], []⟩) a0_0 a0_1 a0_2 a0_3 a0_4 by kernel_rfl) hN
  intro args r h
  unfold sp28 at h
  split at h
  · injection h with h
    injection h with h1 h2
    subst h2
    exact ⟨by kernel_rfl, fun hf => ⟨of_decide_eq_true (by kernel_rfl), key _ _ _ _ _ h1⟩⟩
  · cases h

end Go.FG.Se

namespace Go.FG.Se
open Go.Proofs
def E51 : Env := { toTab := T, call := Go.FG.callIn [], mode := Go.FG.modeIn md, keep := Go.FG.keepIn [], tk := fun n => Go.FG.memB n [], om := Go.FG.omIn [] }
def sp51 : List Arg → Option (Bool × Res)
  | [(.v false [(.i .i64 x0)]), (.v false [(.i .i64 least1)]), (.v false [(.i .i64 most2)])] => some (true, ⟨[(.v false [(.b (Pu.spec_l01In.v x0 least1 most2))])], []⟩)
  | _ => none
theorem ok51 : FnOk Try.prog T 51 sp51 := by
  refine fn_ok (E := E51) hE call_nil hM Try.func51 (code := (Try.f51.body.getD .skip)) (by kernel_rfl) (by kernel_rfl) ?_
  have key : ∀ (x0 : Int) (least1 : Int) (most2 : Int), ∃ it : It Res, (∀ c ∈ loopsOf (Try.f51.body.getD .skip), LoopOk E51 it c) ∧ body E51 it Try.f51 [(.v false [(.i .i64 x0)]), (.v false [(.i .i64 least1)]), (.v false [(.i .i64 most2)])] = some ⟨[(.v false [(.b (Pu.spec_l01In.v x0 least1 most2))])], []⟩ := by
    intro x0 least1 most2 
    have hN := Pu.spec_l01In.b_eq (R := Res) (fun r0 => some ⟨[(.v false [(.b r0)])], []⟩) x0 least1 most2
    have hl : loopsOf (Try.f51.body.getD .skip) = [] := by kernel_rfl
    refine ⟨iterN 0, by rw [hl]; exact loops_nil, ?_⟩
    refine Eq.trans (show body E51 (iterN 0) Try.f51 [(.v false [(.i .i64 x0)]), (.v false [(.i .i64 least1)]), (.v false [(.i .i64 most2)])] = Pu.spec_l01In.b (fun r0 => some ⟨[(.v false [(.b r0)])], []⟩) x0 least1 most2 by kernel_rfl) hN
  intro args r h
  unfold sp51 at h
  split at h
  · injection h with h
    injection h with h1 h2
    subst h2
    exact ⟨by kernel_rfl, fun hf => ⟨of_decide_eq_true (by kernel_rfl), key _ _ _⟩⟩
  · cases h

end Go.FG.Se

namespace Go.FG.Se
open Go.Proofs
def E27 : Env := { toTab := T, call := Go.FG.callIn [(51, sp51)], mode := Go.FG.modeIn md, keep := Go.FG.keepIn [], tk := fun n => Go.FG.memB n [], om := Go.FG.omIn [] }
def sp27 : List Arg → Option (Bool × Res)
  | [(.v true [(.i .i64 e0_0), (.i .i64 e0_1), (.s e0_2), (.i .i64 e0_3), (.sh 3 e0_4)])] => some (true, ⟨[(.v false [(.b (Pu.spec_EventOk.v e0_0 e0_1 e0_2 e0_3 e0_4))])], []⟩)
  | _ => none
theorem ok27 : FnOk Try.prog T 27 sp27 := by
  refine fn_ok (E := E27) hE (call_cons ok51 call_nil) hM Try.func27 (code := (Try.f27.body.getD .skip)) (by kernel_rfl) (by kernel_rfl) ?_
  have key : ∀ (e0_0 : Int) (e0_1 : Int) (e0_2 : ByteArray) (e0_3 : Int) (e0_4 : Row), ∃ it : It Res, (∀ c ∈ loopsOf (Try.f27.body.getD .skip), LoopOk E27 it c) ∧ body E27 it Try.f27 [(.v true [(.i .i64 e0_0), (.i .i64 e0_1), (.s e0_2), (.i .i64 e0_3), (.sh 3 e0_4)])] = some ⟨[(.v false [(.b (Pu.spec_EventOk.v e0_0 e0_1 e0_2 e0_3 e0_4))])], []⟩ := by
    intro e0_0 e0_1 e0_2 e0_3 e0_4 
    have hN := Pu.spec_EventOk.b_eq (R := Res) (fun r0 => some ⟨[(.v false [(.b r0)])], []⟩) e0_0 e0_1 e0_2 e0_3 e0_4
    have hl : loopsOf (Try.f27.body.getD .skip) = [] := by kernel_rfl
    refine ⟨iterN 0, by rw [hl]; exact loops_nil, ?_⟩
    refine Eq.trans (show body E27 (iterN 0) Try.f27 [(.v true [(.i .i64 e0_0), (.i .i64 e0_1), (.s e0_2), (.i .i64 e0_3), (.sh 3 e0_4)])] = Pu.spec_EventOk.b (fun r0 => some ⟨[(.v false [(.b r0)])], []⟩) e0_0 e0_1 e0_2 e0_3 e0_4 by kernel_rfl) hN
  intro args r h
  unfold sp27 at h
  split at h
  · injection h with h
    injection h with h1 h2
    subst h2
    exact ⟨by kernel_rfl, fun hf => ⟨of_decide_eq_true (by kernel_rfl), key _ _ _ _ _⟩⟩
  · cases h

end Go.FG.Se

namespace Go.FG.Se
open Go.Proofs
def E54 : Env := { toTab := T, call := Go.FG.callIn [], mode := Go.FG.modeIn md, keep := Go.FG.keepIn [], tk := fun n => Go.FG.memB n [], om := Go.FG.omIn [] }
def sp54 : List Arg → Option (Bool × Res)
  | [(.v false [(.i .i64 n0)]), (.v false [(.i .i64 low1)]), (.v false [(.i .i64 high2)])] => some (true, ⟨[(.v false [(.b (Pu.impl_within.v n0 low1 high2))])], []⟩)
  | _ => none
theorem ok54 : FnOk Try.prog T 54 sp54 := by
  refine fn_ok (E := E54) hE call_nil hM Try.func54 (code := (Try.f54.body.getD .skip)) (by kernel_rfl) (by kernel_rfl) ?_
  have key : ∀ (n0 : Int) (low1 : Int) (high2 : Int), ∃ it : It Res, (∀ c ∈ loopsOf (Try.f54.body.getD .skip), LoopOk E54 it c) ∧ body E54 it Try.f54 [(.v false [(.i .i64 n0)]), (.v false [(.i .i64 low1)]), (.v false [(.i .i64 high2)])] = some ⟨[(.v false [(.b (Pu.impl_within.v n0 low1 high2))])], []⟩ := by
    intro n0 low1 high2 
    have hN := Pu.impl_within.b_eq (R := Res) (fun r0 => some ⟨[(.v false [(.b r0)])], []⟩) n0 low1 high2
    have hl : loopsOf (Try.f54.body.getD .skip) = [] := by kernel_rfl
    refine ⟨iterN 0, by rw [hl]; exact loops_nil, ?_⟩
    refine Eq.trans (show body E54 (iterN 0) Try.f54 [(.v false [(.i .i64 n0)]), (.v false [(.i .i64 low1)]), (.v false [(.i .i64 high2)])] = Pu.impl_within.b (fun r0 => some ⟨[(.v false [(.b r0)])], []⟩) n0 low1 high2 by kernel_rfl) hN
  intro args r h
  unfold sp54 at h
  split at h
  · injection h with h
    injection h with h1 h2
    subst h2
    exact ⟨by kernel_rfl, fun hf => ⟨of_decide_eq_true (by kernel_rfl), key _ _ _⟩⟩
  · cases h

end Go.FG.Se

namespace Go.FG.Se
open Go.Proofs
def E29 : Env := { toTab := T, call := Go.FG.callIn [(54, sp54)], mode := Go.FG.modeIn md, keep := Go.FG.keepIn [], tk := fun n => Go.FG.memB n [], om := Go.FG.omIn [] }
def sp29 : List Arg → Option (Bool × Res)
  | [(.v true [(.i .i64 e0_0), (.i .i64 e0_1), (.s e0_2), (.i .i64 e0_3), (.sh 3 e0_4)])] => some (true, ⟨[(.v false [(.b (Pu.impl_EventOk.v e0_0 e0_1 e0_2 e0_3 e0_4))])], []⟩)
  | _ => none
theorem ok29 : FnOk Try.prog T 29 sp29 := by
  refine fn_ok (E := E29) hE (call_cons ok54 call_nil) hM Try.func29 (code := (Try.f29.body.getD .skip)) (by kernel_rfl) (by kernel_rfl) ?_
  have key : ∀ (e0_0 : Int) (e0_1 : Int) (e0_2 : ByteArray) (e0_3 : Int) (e0_4 : Row), ∃ it : It Res, (∀ c ∈ loopsOf (Try.f29.body.getD .skip), LoopOk E29 it c) ∧ body E29 it Try.f29 [(.v true [(.i .i64 e0_0), (.i .i64 e0_1), (.s e0_2), (.i .i64 e0_3), (.sh 3 e0_4)])] = some ⟨[(.v false [(.b (Pu.impl_EventOk.v e0_0 e0_1 e0_2 e0_3 e0_4))])], []⟩ := by
    intro e0_0 e0_1 e0_2 e0_3 e0_4 
    have hN := Pu.impl_EventOk.b_eq (R := Res) (fun r0 => some ⟨[(.v false [(.b r0)])], []⟩) e0_0 e0_1 e0_2 e0_3 e0_4
    have hl : loopsOf (Try.f29.body.getD .skip) = [] := by kernel_rfl
    refine ⟨iterN 0, by rw [hl]; exact loops_nil, ?_⟩
    refine Eq.trans (show body E29 (iterN 0) Try.f29 [(.v true [(.i .i64 e0_0), (.i .i64 e0_1), (.s e0_2), (.i .i64 e0_3), (.sh 3 e0_4)])] = Pu.impl_EventOk.b (fun r0 => some ⟨[(.v false [(.b r0)])], []⟩) e0_0 e0_1 e0_2 e0_3 e0_4 by kernel_rfl) hN
  intro args r h
  unfold sp29 at h
  split at h
  · injection h with h
    injection h with h1 h2
    subst h2
    exact ⟨by kernel_rfl, fun hf => ⟨of_decide_eq_true (by kernel_rfl), key _ _ _ _ _⟩⟩
  · cases h

end Go.FG.Se

namespace Go.FG.Se
open Go.Proofs
def E60 : Env := { toTab := T, call := Go.FG.callIn [], mode := Go.FG.modeIn md, keep := Go.FG.keepIn [(4, [0, 1, 4, 5])], tk := fun n => Go.FG.memB n [], om := Go.FG.omIn [] }
def it60 (N : Nat) {R : Type} : It R := fun rid f cn L K => bif Nat.beq rid 4 then (tell [(0, (.v (.v false [(.sh 3 [])]))), (2, (.v (.v false [(.sh 3 [])]))), (8, (.v (.v false [(.b false)]))), (10, (.v (.v false [(.i .i64 0)])))] (fun | [.R x0, .R x1, .B x2, .I x3] => Pu.laws_eqIntS.l4 N (fun y0 y1 y2 y3 => (K .ret (tabl [(0, (.v (.v false [(.sh 3 y0)]))), (2, (.v (.v false [(.sh 3 y1)]))), (8, (.v (.v false [(.b y2)]))), (10, (.v (.v false [(.i .i64 y3)])))]))) (fun y0 y1 y2 y3 => (K (.exit 0) (tabl [(0, (.v (.v false [(.sh 3 y0)]))), (2, (.v (.v false [(.sh 3 y1)]))), (8, (.v (.v false [(.b y2)]))), (10, (.v (.v false [(.i .i64 y3)])))]))) N x0 x1 x2 x3 | _ => none) L (none)) else none
theorem e60_4 {R : Type} (N : Nat) (K : Ex → St → Option R) : ∀ n : Nat, (∀ x0 x1 x2 x3, iter (exc E60 (it60 N) (loopOf Try.f60 4)) (canon (E60.keep 4))  n (tabl [(0, (.v (.v false [(.sh 3 x0)]))), (2, (.v (.v false [(.sh 3 x1)]))), (8, (.v (.v false [(.b x2)]))), (10, (.v (.v false [(.i .i64 x3)])))]) K = Pu.laws_eqIntS.l4 N (fun y0 y1 y2 y3 => (K .ret (tabl [(0, (.v (.v false [(.sh 3 y0)]))), (2, (.v (.v false [(.sh 3 y1)]))), (8, (.v (.v false [(.b y2)]))), (10, (.v (.v false [(.i .i64 y3)])))]))) (fun y0 y1 y2 y3 => (K (.exit 0) (tabl [(0, (.v (.v false [(.sh 3 y0)]))), (2, (.v (.v false [(.sh 3 y1)]))), (8, (.v (.v false [(.b y2)]))), (10, (.v (.v false [(.i .i64 y3)])))]))) n x0 x1 x2 x3) := by
  intro n
  induction n with
  | zero => exact (fun _ _ _ _ => rfl)
  | succ n ih =>
    have e0 : (fun x0 x1 x2 x3 => iter (exc E60 (it60 N) (loopOf Try.f60 4)) (canon (E60.keep 4))  n (tabl [(0, (.v (.v false [(.sh 3 x0)]))), (2, (.v (.v false [(.sh 3 x1)]))), (8, (.v (.v false [(.b x2)]))), (10, (.v (.v false [(.i .i64 x3)])))]) K) = Pu.laws_eqIntS.l4 N (fun y0 y1 y2 y3 => (K .ret (tabl [(0, (.v (.v false [(.sh 3 y0)]))), (2, (.v (.v false [(.sh 3 y1)]))), (8, (.v (.v false [(.b y2)]))), (10, (.v (.v false [(.i .i64 y3)])))]))) (fun y0 y1 y2 y3 => (K (.exit 0) (tabl [(0, (.v (.v false [(.sh 3 y0)]))), (2, (.v (.v false [(.sh 3 y1)]))), (8, (.v (.v false [(.b y2)]))), (10, (.v (.v false [(.i .i64 y3)])))]))) n := by funext x0 x1 x2 x3; exact ih x0 x1 x2 x3
    intro x0 x1 x2 x3
    have h : ∀ g, exc E60 (it60 N) (loopOf Try.f60 4) (tabl [(0, (.v (.v false [(.sh 3 x0)]))), (2, (.v (.v false [(.sh 3 x1)]))), (8, (.v (.v false [(.b x2)]))), (10, (.v (.v false [(.i .i64 x3)])))]) (iterK g (canon (E60.keep 4)) K) = Pu.laws_eqIntS.r4 N (fun x0 x1 x2 x3 => (g (tabl [(0, (.v (.v false [(.sh 3 x0)]))), (2, (.v (.v false [(.sh 3 x1)]))), (8, (.v (.v false [(.b x2)]))), (10, (.v (.v false [(.i .i64 x3)])))]))) (fun y0 y1 y2 y3 => (K .ret (tabl [(0, (.v (.v false [(.sh 3 y0)]))), (2, (.v (.v false [(.sh 3 y1)]))), (8, (.v (.v false [(.b y2)]))), (10, (.v (.v false [(.i .i64 y3)])))]))) (fun y0 y1 y2 y3 => (K (.exit 0) (tabl [(0, (.v (.v false [(.sh 3 y0)]))), (2, (.v (.v false [(.sh 3 y1)]))), (8, (.v (.v false [(.b y2)]))), (10, (.v (.v false [(.i .i64 y3)])))]))) x0 x1 x2 x3 := by intro g; kernel_rfl
    refine (h _).trans ?_
    show Pu.laws_eqIntS.r4 N (fun x0 x1 x2 x3 => (iter (exc E60 (it60 N) (loopOf Try.f60 4)) (canon (E60.keep 4))  n (tabl [(0, (.v (.v false [(.sh 3 x0)]))), (2, (.v (.v false [(.sh 3 x1)]))), (8, (.v (.v false [(.b x2)]))), (10, (.v (.v false [(.i .i64 x3)])))]) K)) (fun y0 y1 y2 y3 => (K .ret (tabl [(0, (.v (.v false [(.sh 3 y0)]))), (2, (.v (.v false [(.sh 3 y1)]))), (8, (.v (.v false [(.b y2)]))), (10, (.v (.v false [(.i .i64 y3)])))]))) (fun y0 y1 y2 y3 => (K (.exit 0) (tabl [(0, (.v (.v false [(.sh 3 y0)]))), (2, (.v (.v false [(.sh 3 y1)]))), (8, (.v (.v false [(.b y2)]))), (10, (.v (.v false [(.i .i64 y3)])))]))) x0 x1 x2 x3 = _
    rw [e0]; rfl
theorem lo60_4 {R : Type} (N : Nat) : LoopOk E60 (it60 N (R := R)) (loopOf Try.f60 4) := by
  have e : firstRid (loopOf Try.f60 4) = 4 := by kernel_rfl
  intro L K r
  rw [e]
  intro h
  unfold it60 at h
  simp only [show Nat.beq 4 4 = true from rfl, cond_false, cond_true] at h
  refine tell_ok (Q := fun L => ∃ n, iter (exc E60 (it60 N) (loopOf Try.f60 4)) (canon (E60.keep 4)) n (tabl L) K = some r) h (fun xs h => ?_) (fun h => ?_)
  · (try dsimp only at h)
    split at h
    · exact ⟨N, ((e60_4 N K N) _ _ _ _).trans h⟩
    · cases h
  cases h
def sp60 : List Arg → Option (Bool × Res)
  | [(.v false [(.sh 3 a0)]), (.v false [(.sh 3 b1)])] => some (true, ⟨[(.v false [(.b (Pu.laws_eqIntS.v a0 b1))])], []⟩)
  | _ => none
theorem ok60 : FnOk Try.prog T 60 sp60 := by
  refine fn_ok (E := E60) hE call_nil hM Try.func60 (code := (Try.f60.body.getD .skip)) (by kernel_rfl) (by kernel_rfl) ?_
  have key : ∀ (a0 : Row) (b1 : Row), FitR a0 → FitR b1 → ∃ it : It Res, (∀ c ∈ loopsOf (Try.f60.body.getD .skip), LoopOk E60 it c) ∧ body E60 it Try.f60 [(.v false [(.sh 3 a0)]), (.v false [(.sh 3 b1)])] = some ⟨[(.v false [(.b (Pu.laws_eqIntS.v a0 b1))])], []⟩ := by
    intro a0 b1  g0 g1
    obtain ⟨N, hN⟩ := Pu.laws_eqIntS.b_eq (R := Res) (fun r0 => some ⟨[(.v false [(.b r0)])], []⟩) a0 b1 g0 g1
    have hl : loopsOf (Try.f60.body.getD .skip) = [loopOf Try.f60 4] := by kernel_rfl
    refine ⟨it60 N, by rw [hl]; exact (loops_cons (lo60_4 N) loops_nil), ?_⟩
    refine Eq.trans (show body E60 (it60 N) Try.f60 [(.v false [(.sh 3 a0)]), (.v false [(.sh 3 b1)])] = Pu.laws_eqIntS.b N (fun r0 => some ⟨[(.v false [(.b r0)])], []⟩) a0 b1 by kernel_rfl) hN
  intro args r h
  unfold sp60 at h
  split at h
  · injection h with h
    injection h with h1 h2
    subst h2
    exact ⟨by kernel_rfl, fun hf => ⟨of_decide_eq_true (by kernel_rfl), key _ _ hf.1.1 hf.2.1.1⟩⟩
  · cases h

end Go.FG.Se

namespace Go.FG.Se
open Go.Proofs
def E30 : Env := { toTab := T, call := Go.FG.callIn [(60, sp60)], mode := Go.FG.modeIn md, keep := Go.FG.keepIn [], tk := fun n => Go.FG.memB n [], om := Go.FG.omIn [] }
def sp30 : List Arg → Option (Bool × Res)
  | [(.v true [(.i .i64 a0_0), (.i .i64 a0_1), (.s a0_2), (.i .i64 a0_3), (.sh 3 a0_4)]), (.v true [(.i .i64 b1_0), (.i .i64 b1_1), (.s b1_2), (.i .i64 b1_3), (.sh 3 b1_4)])] => some (true, ⟨[(.v false [(.b (Pu.laws_eqEvent.v a0_0 a0_1 a0_2 a0_3 a0_4 b1_0 b1_1 b1_2 b1_3 b1_4))])], []⟩)
  | _ => none
theorem ok30 : FnOk Try.prog T 30 sp30 := by
  refine fn_ok (E := E30) hE (call_cons ok60 call_nil) hM Try.func30 (code := (Try.f30.body.getD .skip)) (by kernel_rfl) (by kernel_rfl) ?_
  have key : ∀ (a0_0 : Int) (a0_1 : Int) (a0_2 : ByteArray) (a0_3 : Int) (a0_4 : Row) (b1_0 : Int) (b1_1 : Int) (b1_2 : ByteArray) (b1_3 : Int) (b1_4 : Row), ∃ it : It Res, (∀ c ∈ loopsOf (Try.f30.body.getD .skip), LoopOk E30 it c) ∧ body E30 it Try.f30 [(.v true [(.i .i64 a0_0), (.i .i64 a0_1), (.s a0_2), (.i .i64 a0_3), (.sh 3 a0_4)]), (.v true [(.i .i64 b1_0), (.i .i64 b1_1), (.s b1_2), (.i .i64 b1_3), (.sh 3 b1_4)])] = some ⟨[(.v false [(.b (Pu.laws_eqEvent.v a0_0 a0_1 a0_2 a0_3 a0_4 b1_0 b1_1 b1_2 b1_3 b1_4))])], []⟩ := by
    intro a0_0 a0_1 a0_2 a0_3 a0_4 b1_0 b1_1 b1_2 b1_3 b1_4 
    have hN := Pu.laws_eqEvent.b_eq (R := Res) (fun r0 => some ⟨[(.v false [(.b r0)])], []⟩) a0_0 a0_1 a0_2 a0_3 a0_4 b1_0 b1_1 b1_2 b1_3 b1_4
    have hl : loopsOf (Try.f30.body.getD .skip) = [] := by kernel_rfl
    refine ⟨iterN 0, by rw [hl]; exact loops_nil, ?_⟩
    refine Eq.trans (show body E30 (iterN 0) Try.f30 [(.v true [(.i .i64 a0_0), (.i .i64 a0_1), (.s a0_2), (.i .i64 a0_3), (.sh 3 a0_4)]), (.v true [(.i .i64 b1_0), (.i .i64 b1_1), (.s b1_2), (.i .i64 b1_3), (.sh 3 b1_4)])] = Pu.laws_eqEvent.b (fun r0 => some ⟨[(.v false [(.b r0)])], []⟩) a0_0 a0_1 a0_2 a0_3 a0_4 b1_0 b1_1 b1_2 b1_3 b1_4 by kernel_rfl) hN
  intro args r h
  unfold sp30 at h
  split at h
  · injection h with h
    injection h with h1 h2
    subst h2
    exact ⟨by kernel_rfl, fun hf => ⟨of_decide_eq_true (by kernel_rfl), key _ _ _ _ _ _ _ _ _ _⟩⟩
  · cases h

end Go.FG.Se

namespace Go.FG.Se
open Go.Proofs
def E6 : Env := { toTab := T, call := Go.FG.callIn [(26, sp26), (28, sp28), (27, sp27), (29, sp29), (30, sp30)], mode := Go.FG.modeIn md, keep := Go.FG.keepIn [], tk := fun n => Go.FG.memB n [], om := Go.FG.omIn [] }
def sp6 : List Arg → Option (Bool × Res)
  | [(.v true [(.i .i64 aE0_0), (.i .i64 aE0_1), (.s aE0_2), (.i .i64 aE0_3), (.sh 3 aE0_4)])] => some (true, ⟨[(.v false [(.b (Pu.laws_FnExactEventOk.v aE0_0 aE0_1 aE0_2 aE0_3 aE0_4))])], []⟩)
  | _ => none
theorem ok6 : FnOk Try.prog T 6 sp6 := by
  refine fn_ok (E := E6) hE (call_cons ok26 (call_cons ok28 (call_cons ok27 (call_cons ok29 (call_cons ok30 call_nil))))) hM Try.func6 (code := (Try.f6.body.getD .skip)) (by kernel_rfl) (by kernel_rfl) ?_
  have key : ∀ (aE0_0 : Int) (aE0_1 : Int) (aE0_2 : ByteArray) (aE0_3 : Int) (aE0_4 : Row), okS aE0_2 → FitR aE0_4 → ∃ it : It Res, (∀ c ∈ loopsOf (Try.f6.body.getD .skip), LoopOk E6 it c) ∧ body E6 it Try.f6 [(.v true [(.i .i64 aE0_0), (.i .i64 aE0_1), (.s aE0_2), (.i .i64 aE0_3), (.sh 3 aE0_4)])] = some ⟨[(.v false [(.b (Pu.laws_FnExactEventOk.v aE0_0 aE0_1 aE0_2 aE0_3 aE0_4))])], []⟩ := by
    intro aE0_0 aE0_1 aE0_2 aE0_3 aE0_4  g2 g4
    have hN := Pu.laws_FnExactEventOk.b_eq (R := Res) (fun r0 => some ⟨[(.v false [(.b r0)])], []⟩) aE0_0 aE0_1 aE0_2 aE0_3 aE0_4 g2 g4
    have hl : loopsOf (Try.f6.body.getD .skip) = [] := by kernel_rfl
    refine ⟨iterN 0, by rw [hl]; exact loops_nil, ?_⟩
    refine Eq.trans (show body E6 (iterN 0) Try.f6 [(.v true [(.i .i64 aE0_0), (.i .i64 aE0_1), (.s aE0_2), (.i .i64 aE0_3), (.sh 3 aE0_4)])] = Pu.laws_FnExactEventOk.b (fun r0 => some ⟨[(.v false [(.b r0)])], []⟩) aE0_0 aE0_1 aE0_2 aE0_3 aE0_4 by kernel_rfl) hN
  intro args r h
  unfold sp6 at h
  split at h
  · injection h with h
    injection h with h1 h2
    subst h2
    exact ⟨by kernel_rfl, fun hf => ⟨of_decide_eq_true (by kernel_rfl), key _ _ _ _ _ hf.1.2.2.1 hf.1.2.2.2.2.1⟩⟩
  · cases h

end Go.FG.Se

