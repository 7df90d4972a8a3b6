/- Functions of the program: the evaluation of each, and that a call of it does what is told. No condition. -/
import Derived.Test.YticmocblmmahkaaTab
import Derived.Test.YticmocblmmahkaaPFresh
set_option linter.unusedVariables false
set_option linter.unusedSimpArgs false
set_option maxRecDepth 100000
namespace Go.FG.Se
open Go.Proofs
def E15 : Env := { toTab := T, call := Go.FG.callIn [], mode := Go.FG.modeIn md, keep := Go.FG.keepIn [], tk := fun n => Go.FG.memB n [], om := Go.FG.omIn [] }
def sp15 : List Arg → Option (Bool × Res)
  | [(.v false [(.sh 5 code0)])] => some (true, ⟨[(.v false [(.b (Pu.laws_big.v code0))])], []⟩)
  | _ => none
theorem ok15 : FnOk Try.prog T 15 sp15 := by
  refine fn_ok (E := E15) hE call_nil hM Try.func15 (code := (Try.f15.body.getD .skip)) (by kernel_rfl) (by kernel_rfl) ?_
  have key : ∀ (code0 : Row), ∃ it : It Res, (∀ c ∈ loopsOf (Try.f15.body.getD .skip), LoopOk E15 it c) ∧ body E15 it Try.f15 [(.v false [(.sh 5 code0)])] = some ⟨[(.v false [(.b (Pu.laws_big.v code0))])], []⟩ := by
    intro code0 
    have hN := Pu.laws_big.b_eq (R := Res) (fun r0 => some ⟨[(.v false [(.b r0)])], []⟩) code0
    have hl : loopsOf (Try.f15.body.getD .skip) = [] := by kernel_rfl
    refine ⟨iterN 0, by rw [hl]; exact loops_nil, ?_⟩
    refine Eq.trans (show body E15 (iterN 0) Try.f15 [(.v false [(.sh 5 code0)])] = Pu.laws_big.b (fun r0 => some ⟨[(.v false [(.b r0)])], []⟩) code0 by kernel_rfl) hN
  intro args r h
  unfold sp15 at h
  split at h
  · injection h with h
    injection h with h1 h2
    subst h2
    exact ⟨by kernel_rfl, fun hf => ⟨of_decide_eq_true (by kernel_rfl), key _⟩⟩
  · cases h

end Go.FG.Se

namespace Go.FG.Se
open Go.Proofs
def E89 : Env := { toTab := T, call := Go.FG.callIn [], mode := Go.FG.modeIn md, keep := Go.FG.keepIn [(3, [0, 3, 4])], tk := fun n => Go.FG.memB n [], om := Go.FG.omIn [] }
def it89 (N : Nat) {R : Type} : It R := fun rid f cn L K => bif Nat.beq rid 3 then (tell [(0, (.v (.v false [(.sh 5 [])]))), (6, (.v (.v false [(.i .i64 0)]))), (8, (.v (.v false [(.i .i64 0)])))] (fun | [.R x0, .I x1, .I x2] => Pu.spec_l01New.l3 N (fun y0 y1 y2 => (K (.exit 0) (tabl [(0, (.v (.v false [(.sh 5 y0)]))), (6, (.v (.v false [(.i .i64 y1)]))), (8, (.v (.v false [(.i .i64 y2)])))]))) N x0 x1 x2 | _ => none) L (none)) else none
theorem e89_3 {R : Type} (N : Nat) (K : Ex → St → Option R) : ∀ n : Nat, (∀ x0 x1 x2, iter (exc E89 (it89 N) (loopOf Try.f89 3)) (canon (E89.keep 3))  n (tabl [(0, (.v (.v false [(.sh 5 x0)]))), (6, (.v (.v false [(.i .i64 x1)]))), (8, (.v (.v false [(.i .i64 x2)])))]) K = Pu.spec_l01New.l3 N (fun y0 y1 y2 => (K (.exit 0) (tabl [(0, (.v (.v false [(.sh 5 y0)]))), (6, (.v (.v false [(.i .i64 y1)]))), (8, (.v (.v false [(.i .i64 y2)])))]))) n x0 x1 x2) := by
  intro n
  induction n with
  | zero => exact (fun _ _ _ => rfl)
  | succ n ih =>
    have e0 : (fun x0 x1 x2 => iter (exc E89 (it89 N) (loopOf Try.f89 3)) (canon (E89.keep 3))  n (tabl [(0, (.v (.v false [(.sh 5 x0)]))), (6, (.v (.v false [(.i .i64 x1)]))), (8, (.v (.v false [(.i .i64 x2)])))]) K) = Pu.spec_l01New.l3 N (fun y0 y1 y2 => (K (.exit 0) (tabl [(0, (.v (.v false [(.sh 5 y0)]))), (6, (.v (.v false [(.i .i64 y1)]))), (8, (.v (.v false [(.i .i64 y2)])))]))) n := by funext x0 x1 x2; exact ih x0 x1 x2
    intro x0 x1 x2
    have h : ∀ g, exc E89 (it89 N) (loopOf Try.f89 3) (tabl [(0, (.v (.v false [(.sh 5 x0)]))), (6, (.v (.v false [(.i .i64 x1)]))), (8, (.v (.v false [(.i .i64 x2)])))]) (iterK g (canon (E89.keep 3)) K) = Pu.spec_l01New.r3 N (fun x0 x1 x2 => (g (tabl [(0, (.v (.v false [(.sh 5 x0)]))), (6, (.v (.v false [(.i .i64 x1)]))), (8, (.v (.v false [(.i .i64 x2)])))]))) (fun y0 y1 y2 => (K (.exit 0) (tabl [(0, (.v (.v false [(.sh 5 y0)]))), (6, (.v (.v false [(.i .i64 y1)]))), (8, (.v (.v false [(.i .i64 y2)])))]))) x0 x1 x2 := by intro g; kernel_rfl
    refine (h _).trans ?_
    show Pu.spec_l01New.r3 N (fun x0 x1 x2 => (iter (exc E89 (it89 N) (loopOf Try.f89 3)) (canon (E89.keep 3))  n (tabl [(0, (.v (.v false [(.sh 5 x0)]))), (6, (.v (.v false [(.i .i64 x1)]))), (8, (.v (.v false [(.i .i64 x2)])))]) K)) (fun y0 y1 y2 => (K (.exit 0) (tabl [(0, (.v (.v false [(.sh 5 y0)]))), (6, (.v (.v false [(.i .i64 y1)]))), (8, (.v (.v false [(.i .i64 y2)])))]))) x0 x1 x2 = _
    rw [e0]; rfl
theorem lo89_3 {R : Type} (N : Nat) : LoopOk E89 (it89 N (R := R)) (loopOf Try.f89 3) := by
  have e : firstRid (loopOf Try.f89 3) = 3 := by kernel_rfl
  intro L K r
  rw [e]
  intro h
  unfold it89 at h
  simp only [show Nat.beq 3 3 = true from rfl, cond_false, cond_true] at h
  refine tell_ok (Q := fun L => ∃ n, iter (exc E89 (it89 N) (loopOf Try.f89 3)) (canon (E89.keep 3)) n (tabl L) K = some r) h (fun xs h => ?_) (fun h => ?_)
  · (try dsimp only at h)
    split at h
    · exact ⟨N, ((e89_3 N K N) _ _ _).trans h⟩
    · cases h
  cases h
def sp89 : List Arg → Option (Bool × Res)
  | [(.v false [(.sh 5 code0)])] => some (Pu.spec_l01New.c code0, ⟨[(.pt [(.sh 5 ((Pu.spec_l01New.v code0).1)), (.i .i64 ((Pu.spec_l01New.v code0).2.1)), (.i .i64 ((Pu.spec_l01New.v code0).2.2))])], []⟩)
  | _ => none
theorem ok89 : FnOk Try.prog T 89 sp89 := by
  refine fn_ok (E := E89) hE call_nil hM Try.func89 (code := (Try.f89.body.getD .skip)) (by kernel_rfl) (by kernel_rfl) ?_
  have key : ∀ (code0 : Row), Pu.spec_l01New.c code0 = true → ∃ it : It Res, (∀ c ∈ loopsOf (Try.f89.body.getD .skip), LoopOk E89 it c) ∧ body E89 it Try.f89 [(.v false [(.sh 5 code0)])] = some ⟨[(.pt [(.sh 5 ((Pu.spec_l01New.v code0).1)), (.i .i64 ((Pu.spec_l01New.v code0).2.1)), (.i .i64 ((Pu.spec_l01New.v code0).2.2))])], []⟩ := by
    intro code0  h1
    obtain ⟨N, hN⟩ := Pu.spec_l01New.b_eq (R := Res) (fun r0 r1 r2 => some ⟨[(.pt [(.sh 5 r0), (.i .i64 r1), (.i .i64 r2)])], []⟩) code0 h1
    have hl : loopsOf (Try.f89.body.getD .skip) = [loopOf Try.f89 3] := by kernel_rfl
    refine ⟨it89 N, by rw [hl]; exact (loops_cons (lo89_3 N) loops_nil), ?_⟩
    refine Eq.trans (show body E89 (it89 N) Try.f89 [(.v false [(.sh 5 code0)])] = Pu.spec_l01New.b N (fun r0 r1 r2 => some ⟨[(.pt [(.sh 5 r0), (.i .i64 r1), (.i .i64 r2)])], []⟩) code0 by kernel_rfl) hN
  intro args r h
  unfold sp89 at h
  split at h
  · injection h with h
    injection h with h1 h2
    subst h2
    exact ⟨by kernel_rfl, fun hf => ⟨of_decide_eq_true (by kernel_rfl), key _ h1⟩⟩
  · cases h

end Go.FG.Se

namespace Go.FG.Se
open Go.Proofs
def E112 : Env := { toTab := T, call := Go.FG.callIn [], mode := Go.FG.modeIn md, keep := Go.FG.keepIn [], tk := fun n => Go.FG.memB n [], om := Go.FG.omIn [] }
def sp112 : List Arg → Option (Bool × Res)
  | [(.pt [(.sh 5 c0_0), (.i .i64 c0_1), (.i .i64 c0_2)])] => some (Pu.spec_l01Byte.c c0_0 c0_1 c0_2, ⟨[(.v false [(.i .i64 ((Pu.spec_l01Byte.v c0_0 c0_1 c0_2).1))])], [[(.sh 5 ((Pu.spec_l01Byte.v c0_0 c0_1 c0_2).2.1)), (.i .i64 ((Pu.spec_l01Byte.v c0_0 c0_1 c0_2).2.2.1)), (.i .i64 ((Pu.spec_l01Byte.v c0_0 c0_1 c0_2).2.2.2))]]⟩)
  | _ => none
theorem ok112 : FnOk Try.prog T 112 sp112 := by
  refine fn_ok (E := E112) hE call_nil hM Try.func112 (code := (Try.f112.body.getD .skip)) (by kernel_rfl) (by kernel_rfl) ?_
  have key : ∀ (c0_0 : Row) (c0_1 : Int) (c0_2 : Int), Pu.spec_l01Byte.c c0_0 c0_1 c0_2 = true → ∃ it : It Res, (∀ c ∈ loopsOf (Try.f112.body.getD .skip), LoopOk E112 it c) ∧ body E112 it Try.f112 [(.pt [(.sh 5 c0_0), (.i .i64 c0_1), (.i .i64 c0_2)])] = some ⟨[(.v false [(.i .i64 ((Pu.spec_l01Byte.v c0_0 c0_1 c0_2).1))])], [[(.sh 5 ((Pu.spec_l01Byte.v c0_0 c0_1 c0_2).2.1)), (.i .i64 ((Pu.spec_l01Byte.v c0_0 c0_1 c0_2).2.2.1)), (.i .i64 ((Pu.spec_l01Byte.v c0_0 c0_1 c0_2).2.2.2))]]⟩ := by
    intro c0_0 c0_1 c0_2  h1
    have hN := Pu.spec_l01Byte.b_eq (R := Res) (fun r0 r1 r2 r3 => some ⟨[(.v false [(.i .i64 r0)])], [[(.sh 5 r1), (.i .i64 r2), (.i .i64 r3)]]⟩) c0_0 c0_1 c0_2 h1
    have hl : loopsOf (Try.f112.body.getD .skip) = [] := by kernel_rfl
    refine ⟨iterN 0, by rw [hl]; exact loops_nil, ?_⟩
    refine Eq.trans (show body E112 (iterN 0) Try.f112 [(.pt [(.sh 5 c0_0), (.i .i64 c0_1), (.i .i64 c0_2)])] = Pu.spec_l01Byte.b (fun r0 r1 r2 r3 => some ⟨[(.v false [(.i .i64 r0)])], [[(.sh 5 r1), (.i .i64 r2), (.i .i64 r3)]]⟩) c0_0 c0_1 c0_2 by kernel_rfl) hN
  intro args r h
  unfold sp112 at h
  split at h
  · injection h with h
    injection h with h1 h2
    subst h2
    exact ⟨by kernel_rfl, fun hf => ⟨of_decide_eq_true (by kernel_rfl), key _ _ _ h1⟩⟩
  · cases h

end Go.FG.Se

namespace Go.FG.Se
open Go.Proofs
def E105 : Env := { toTab := T, call := Go.FG.callIn [(112, sp112)], mode := Go.FG.modeIn md, keep := Go.FG.keepIn [], tk := fun n => Go.FG.memB n [], om := Go.FG.omIn [] }
def sp105 : List Arg → Option (Bool × Res)
  | [(.pt [(.sh 5 c0_0), (.i .i64 c0_1), (.i .i64 c0_2)]), (.v false [(.i .i64 n1)])] => some (Pu.spec_l01Below.c c0_0 c0_1 c0_2 n1, ⟨[(.v false [(.i .i64 ((Pu.spec_l01Below.v c0_0 c0_1 c0_2 n1).1))])], [[(.sh 5 ((Pu.spec_l01Below.v c0_0 c0_1 c0_2 n1).2.1)), (.i .i64 ((Pu.spec_l01Below.v c0_0 c0_1 c0_2 n1).2.2.1)), (.i .i64 ((Pu.spec_l01Below.v c0_0 c0_1 c0_2 n1).2.2.2))]]⟩)
  | _ => none
theorem ok105 : FnOk Try.prog T 105 sp105 := by
  refine fn_ok (E := E105) hE (call_cons ok112 call_nil) hM Try.func105 (code := (Try.f105.body.getD .skip)) (by kernel_rfl) (by kernel_rfl) ?_
  have key : ∀ (c0_0 : Row) (c0_1 : Int) (c0_2 : Int) (n1 : Int), Pu.spec_l01Below.c c0_0 c0_1 c0_2 n1 = true → ∃ it : It Res, (∀ c ∈ loopsOf (Try.f105.body.getD .skip), LoopOk E105 it c) ∧ body E105 it Try.f105 [(.pt [(.sh 5 c0_0), (.i .i64 c0_1), (.i .i64 c0_2)]), (.v false [(.i .i64 n1)])] = some ⟨[(.v false [(.i .i64 ((Pu.spec_l01Below.v c0_0 c0_1 c0_2 n1).1))])], [[(.sh 5 ((Pu.spec_l01Below.v c0_0 c0_1 c0_2 n1).2.1)), (.i .i64 ((Pu.spec_l01Below.v c0_0 c0_1 c0_2 n1).2.2.1)), (.i .i64 ((Pu.spec_l01Below.v c0_0 c0_1 c0_2 n1).2.2.2))]]⟩ := by
    intro c0_0 c0_1 c0_2 n1  h1
    have hN := Pu.spec_l01Below.b_eq (R := Res) (fun r0 r1 r2 r3 => some ⟨[(.v false [(.i .i64 r0)])], [[(.sh 5 r1), (.i .i64 r2), (.i .i64 r3)]]⟩) c0_0 c0_1 c0_2 n1 h1
    have hl : loopsOf (Try.f105.body.getD .skip) = [] := by kernel_rfl
    refine ⟨iterN 0, by rw [hl]; exact loops_nil, ?_⟩
    refine Eq.trans (show body E105 (iterN 0) Try.f105 [(.pt [(.sh 5 c0_0), (.i .i64 c0_1), (.i .i64 c0_2)]), (.v false [(.i .i64 n1)])] = Pu.spec_l01Below.b (fun r0 r1 r2 r3 => some ⟨[(.v false [(.i .i64 r0)])], [[(.sh 5 r1), (.i .i64 r2), (.i .i64 r3)]]⟩) c0_0 c0_1 c0_2 n1 by kernel_rfl) hN
  intro args r h
  unfold sp105 at h
  split at h
  · injection h with h
    injection h with h1 h2
    subst h2
    exact ⟨by kernel_rfl, fun hf => ⟨of_decide_eq_true (by kernel_rfl), key _ _ _ _ h1⟩⟩
  · cases h

end Go.FG.Se

namespace Go.FG.Se
open Go.Proofs
def E167 : Env := { toTab := T, call := Go.FG.callIn [(105, sp105)], mode := Go.FG.modeIn md, keep := Go.FG.keepIn [], tk := fun n => Go.FG.memB n [], om := Go.FG.omIn [] }
def sp167 : List Arg → Option (Bool × Res)
  | [(.pt [(.sh 5 c0_0), (.i .i64 c0_1), (.i .i64 c0_2)]), (.v false [(.ow 9 true list1)])] => some (Pu.spec_l01Pick.c c0_0 c0_1 c0_2 list1, ⟨[(.v false [(.s ((Pu.spec_l01Pick.v c0_0 c0_1 c0_2 list1).1))])], [[(.sh 5 ((Pu.spec_l01Pick.v c0_0 c0_1 c0_2 list1).2.1)), (.i .i64 ((Pu.spec_l01Pick.v c0_0 c0_1 c0_2 list1).2.2.1)), (.i .i64 ((Pu.spec_l01Pick.v c0_0 c0_1 c0_2 list1).2.2.2.1))], [(.kp ((Pu.spec_l01Pick.v c0_0 c0_1 c0_2 list1).2.2.2.2))]]⟩)
  | _ => none
theorem ok167 : FnOk Try.prog T 167 sp167 := by
  refine fn_ok (E := E167) hE (call_cons ok105 call_nil) hM Try.func167 (code := (Try.f167.body.getD .skip)) (by kernel_rfl) (by kernel_rfl) ?_
  have key : ∀ (c0_0 : Row) (c0_1 : Int) (c0_2 : Int) (list1 : Row), Pu.spec_l01Pick.c c0_0 c0_1 c0_2 list1 = true → ∃ it : It Res, (∀ c ∈ loopsOf (Try.f167.body.getD .skip), LoopOk E167 it c) ∧ body E167 it Try.f167 [(.pt [(.sh 5 c0_0), (.i .i64 c0_1), (.i .i64 c0_2)]), (.v false [(.ow 9 true list1)])] = some ⟨[(.v false [(.s ((Pu.spec_l01Pick.v c0_0 c0_1 c0_2 list1).1))])], [[(.sh 5 ((Pu.spec_l01Pick.v c0_0 c0_1 c0_2 list1).2.1)), (.i .i64 ((Pu.spec_l01Pick.v c0_0 c0_1 c0_2 list1).2.2.1)), (.i .i64 ((Pu.spec_l01Pick.v c0_0 c0_1 c0_2 list1).2.2.2.1))], [(.kp ((Pu.spec_l01Pick.v c0_0 c0_1 c0_2 list1).2.2.2.2))]]⟩ := by
    intro c0_0 c0_1 c0_2 list1  h1
    have hN := Pu.spec_l01Pick.b_eq (R := Res) (fun r0 r1 r2 r3 r4 => some ⟨[(.v false [(.s r0)])], [[(.sh 5 r1), (.i .i64 r2), (.i .i64 r3)], [(.kp r4)]]⟩) c0_0 c0_1 c0_2 list1 h1
    have hl : loopsOf (Try.f167.body.getD .skip) = [] := by kernel_rfl
    refine ⟨iterN 0, by rw [hl]; exact loops_nil, ?_⟩
    refine Eq.trans (show body E167 (iterN 0) Try.f167 [(.pt [(.sh 5 c0_0), (.i .i64 c0_1), (.i .i64 c0_2)]), (.v false [(.ow 9 true list1)])] = Pu.spec_l01Pick.b (fun r0 r1 r2 r3 r4 => some ⟨[(.v false [(.s r0)])], [[(.sh 5 r1), (.i .i64 r2), (.i .i64 r3)], [(.kp r4)]]⟩) c0_0 c0_1 c0_2 list1 by kernel_rfl) hN
  intro args r h
  unfold sp167 at h
  split at h
  · injection h with h
    injection h with h1 h2
    subst h2
    exact ⟨by kernel_rfl, fun hf => ⟨of_decide_eq_true (by kernel_rfl), key _ _ _ _ h1⟩⟩
  · cases h

end Go.FG.Se

namespace Go.FG.Se
open Go.Proofs
def E165 : Env := { toTab := T, call := Go.FG.callIn [(167, sp167)], mode := Go.FG.modeIn md, keep := Go.FG.keepIn [], tk := fun n => Go.FG.memB n [], om := Go.FG.omIn [] }
def sp165 : List Arg → Option (Bool × Res)
  | [(.pt [(.sh 5 c0_0), (.i .i64 c0_1), (.i .i64 c0_2)])] => some (Pu.spec_l12Key.c c0_0 c0_1 c0_2, ⟨[(.v false [(.s ((Pu.spec_l12Key.v c0_0 c0_1 c0_2).1))])], [[(.sh 5 ((Pu.spec_l12Key.v c0_0 c0_1 c0_2).2.1)), (.i .i64 ((Pu.spec_l12Key.v c0_0 c0_1 c0_2).2.2.1)), (.i .i64 ((Pu.spec_l12Key.v c0_0 c0_1 c0_2).2.2.2))]]⟩)
  | _ => none
theorem ok165 : FnOk Try.prog T 165 sp165 := by
  refine fn_ok (E := E165) hE (call_cons ok167 call_nil) hM Try.func165 (code := (Try.f165.body.getD .skip)) (by kernel_rfl) (by kernel_rfl) ?_
  have key : ∀ (c0_0 : Row) (c0_1 : Int) (c0_2 : Int), Pu.spec_l12Key.c c0_0 c0_1 c0_2 = true → ∃ it : It Res, (∀ c ∈ loopsOf (Try.f165.body.getD .skip), LoopOk E165 it c) ∧ body E165 it Try.f165 [(.pt [(.sh 5 c0_0), (.i .i64 c0_1), (.i .i64 c0_2)])] = some ⟨[(.v false [(.s ((Pu.spec_l12Key.v c0_0 c0_1 c0_2).1))])], [[(.sh 5 ((Pu.spec_l12Key.v c0_0 c0_1 c0_2).2.1)), (.i .i64 ((Pu.spec_l12Key.v c0_0 c0_1 c0_2).2.2.1)), (.i .i64 ((Pu.spec_l12Key.v c0_0 c0_1 c0_2).2.2.2))]]⟩ := by
    intro c0_0 c0_1 c0_2  h1
    have hN := Pu.spec_l12Key.b_eq (R := Res) (fun r0 r1 r2 r3 => some ⟨[(.v false [(.s r0)])], [[(.sh 5 r1), (.i .i64 r2), (.i .i64 r3)]]⟩) c0_0 c0_1 c0_2 h1
    have hl : loopsOf (Try.f165.body.getD .skip) = [] := by kernel_rfl
    refine ⟨iterN 0, by rw [hl]; exact loops_nil, ?_⟩
    refine Eq.trans (show body E165 (iterN 0) Try.f165 [(.pt [(.sh 5 c0_0), (.i .i64 c0_1), (.i .i64 c0_2)])] = Pu.spec_l12Key.b (fun r0 r1 r2 r3 => some ⟨[(.v false [(.s r0)])], [[(.sh 5 r1), (.i .i64 r2), (.i .i64 r3)]]⟩) c0_0 c0_1 c0_2 by kernel_rfl) hN
  intro args r h
  unfold sp165 at h
  split at h
  · injection h with h
    injection h with h1 h2
    subst h2
    exact ⟨by kernel_rfl, fun hf => ⟨of_decide_eq_true (by kernel_rfl), key _ _ _ h1⟩⟩
  · cases h

end Go.FG.Se

namespace Go.FG.Se
open Go.Proofs
def E90 : Env := { toTab := T, call := Go.FG.callIn [(105, sp105)], mode := Go.FG.modeIn md, keep := Go.FG.keepIn [], tk := fun n => Go.FG.memB n [], om := Go.FG.omIn [] }
def sp90 : List Arg → Option (Bool × Res)
  | [(.pt [(.sh 5 c0_0), (.i .i64 c0_1), (.i .i64 c0_2)]), (.v false [(.ow 3 true list1)])] => some (Pu.spec_l01PickInt.c c0_0 c0_1 c0_2 list1, ⟨[(.v false [(.i .i64 ((Pu.spec_l01PickInt.v c0_0 c0_1 c0_2 list1).1))])], [[(.sh 5 ((Pu.spec_l01PickInt.v c0_0 c0_1 c0_2 list1).2.1)), (.i .i64 ((Pu.spec_l01PickInt.v c0_0 c0_1 c0_2 list1).2.2.1)), (.i .i64 ((Pu.spec_l01PickInt.v c0_0 c0_1 c0_2 list1).2.2.2.1))], [(.kp ((Pu.spec_l01PickInt.v c0_0 c0_1 c0_2 list1).2.2.2.2))]]⟩)
  | _ => none
theorem ok90 : FnOk Try.prog T 90 sp90 := by
  refine fn_ok (E := E90) hE (call_cons ok105 call_nil) hM Try.func90 (code := (Try.f90.body.getD .skip)) (by kernel_rfl) (by kernel_rfl) ?_
  have key : ∀ (c0_0 : Row) (c0_1 : Int) (c0_2 : Int) (list1 : Row), Pu.spec_l01PickInt.c c0_0 c0_1 c0_2 list1 = true → ∃ it : It Res, (∀ c ∈ loopsOf (Try.f90.body.getD .skip), LoopOk E90 it c) ∧ body E90 it Try.f90 [(.pt [(.sh 5 c0_0), (.i .i64 c0_1), (.i .i64 c0_2)]), (.v false [(.ow 3 true list1)])] = some ⟨[(.v false [(.i .i64 ((Pu.spec_l01PickInt.v c0_0 c0_1 c0_2 list1).1))])], [[(.sh 5 ((Pu.spec_l01PickInt.v c0_0 c0_1 c0_2 list1).2.1)), (.i .i64 ((Pu.spec_l01PickInt.v c0_0 c0_1 c0_2 list1).2.2.1)), (.i .i64 ((Pu.spec_l01PickInt.v c0_0 c0_1 c0_2 list1).2.2.2.1))], [(.kp ((Pu.spec_l01PickInt.v c0_0 c0_1 c0_2 list1).2.2.2.2))]]⟩ := by
    intro c0_0 c0_1 c0_2 list1  h1
    have hN := Pu.spec_l01PickInt.b_eq (R := Res) (fun r0 r1 r2 r3 r4 => some ⟨[(.v false [(.i .i64 r0)])], [[(.sh 5 r1), (.i .i64 r2), (.i .i64 r3)], [(.kp r4)]]⟩) c0_0 c0_1 c0_2 list1 h1
    have hl : loopsOf (Try.f90.body.getD .skip) = [] := by kernel_rfl
    refine ⟨iterN 0, by rw [hl]; exact loops_nil, ?_⟩
    refine Eq.trans (show body E90 (iterN 0) Try.f90 [(.pt [(.sh 5 c0_0), (.i .i64 c0_1), (.i .i64 c0_2)]), (.v false [(.ow 3 true list1)])] = Pu.spec_l01PickInt.b (fun r0 r1 r2 r3 r4 => some ⟨[(.v false [(.i .i64 r0)])], [[(.sh 5 r1), (.i .i64 r2), (.i .i64 r3)], [(.kp r4)]]⟩) c0_0 c0_1 c0_2 list1 by kernel_rfl) hN
  intro args r h
  unfold sp90 at h
  split at h
  · injection h with h
    injection h with h1 h2
    subst h2
    exact ⟨by kernel_rfl, fun hf => ⟨of_decide_eq_true (by kernel_rfl), key _ _ _ _ h1⟩⟩
  · cases h

end Go.FG.Se

namespace Go.FG.Se
open Go.Proofs
def E166 : Env := { toTab := T, call := Go.FG.callIn [(112, sp112)], mode := Go.FG.modeIn md, keep := Go.FG.keepIn [(5, [0, 1, 5, 6])], tk := fun n => Go.FG.memB n [], om := Go.FG.omIn [] }
def it166 (N : Nat) {R : Type} : It R := fun rid f cn L K => bif Nat.beq rid 5 then (tell [(0, (.v (.v false [(.bp 900000900 0)]))), (2, (.v (.v false [(.i .i64 0)]))), (10, (.v (.v false [(.own 1)]))), (12, (.v (.v false [(.i .i64 0)]))), (1800001801, (.o (.box [(.sh 5 []), (.i .i64 0), (.i .i64 0)]))), (3, (.o (.row 5 true [])))] (fun | [.I x0, .I x1, .R x2, .I x3, .I x4, .R x5] => Pu.spec_l01Text.l5 N (fun y0 y1 y2 y3 y4 y5 => (K (.exit 0) (tabl [(0, (.v (.v false [(.bp 900000900 0)]))), (2, (.v (.v false [(.i .i64 y0)]))), (10, (.v (.v false [(.own 1)]))), (12, (.v (.v false [(.i .i64 y1)]))), (1800001801, (.o (.box [(.sh 5 y2), (.i .i64 y3), (.i .i64 y4)]))), (3, (.o (.row 5 true y5)))]))) N x0 x1 x2 x3 x4 x5 | _ => none) L (none)) else none
theorem e166_5 {R : Type} (N : Nat) (K : Ex → St → Option R) : ∀ n : Nat, (∀ x0 x1 x2 x3 x4 x5, iter (exc E166 (it166 N) (loopOf Try.f166 5)) (canon (E166.keep 5))  n (tabl [(0, (.v (.v false [(.bp 900000900 0)]))), (2, (.v (.v false [(.i .i64 x0)]))), (10, (.v (.v false [(.own 1)]))), (12, (.v (.v false [(.i .i64 x1)]))), (1800001801, (.o (.box [(.sh 5 x2), (.i .i64 x3), (.i .i64 x4)]))), (3, (.o (.row 5 true x5)))]) K = Pu.spec_l01Text.l5 N (fun y0 y1 y2 y3 y4 y5 => (K (.exit 0) (tabl [(0, (.v (.v false [(.bp 900000900 0)]))), (2, (.v (.v false [(.i .i64 y0)]))), (10, (.v (.v false [(.own 1)]))), (12, (.v (.v false [(.i .i64 y1)]))), (1800001801, (.o (.box [(.sh 5 y2), (.i .i64 y3), (.i .i64 y4)]))), (3, (.o (.row 5 true y5)))]))) n x0 x1 x2 x3 x4 x5) := by
  intro n
  induction n with
  | zero => exact (fun _ _ _ _ _ _ => rfl)
  | succ n ih =>
    have e0 : (fun x0 x1 x2 x3 x4 x5 => iter (exc E166 (it166 N) (loopOf Try.f166 5)) (canon (E166.keep 5))  n (tabl [(0, (.v (.v false [(.bp 900000900 0)]))), (2, (.v (.v false [(.i .i64 x0)]))), (10, (.v (.v false [(.own 1)]))), (12, (.v (.v false [(.i .i64 x1)]))), (1800001801, (.o (.box [(.sh 5 x2), (.i .i64 x3), (.i .i64 x4)]))), (3, (.o (.row 5 true x5)))]) K) = Pu.spec_l01Text.l5 N (fun y0 y1 y2 y3 y4 y5 => (K (.exit 0) (tabl [(0, (.v (.v false [(.bp 900000900 0)]))), (2, (.v (.v false [(.i .i64 y0)]))), (10, (.v (.v false [(.own 1)]))), (12, (.v (.v false [(.i .i64 y1)]))), (1800001801, (.o (.box [(.sh 5 y2), (.i .i64 y3), (.i .i64 y4)]))), (3, (.o (.row 5 true y5)))]))) n := by funext x0 x1 x2 x3 x4 x5; exact ih x0 x1 x2 x3 x4 x5
    intro x0 x1 x2 x3 x4 x5
    have h : ∀ g, exc E166 (it166 N) (loopOf Try.f166 5) (tabl [(0, (.v (.v false [(.bp 900000900 0)]))), (2, (.v (.v false [(.i .i64 x0)]))), (10, (.v (.v false [(.own 1)]))), (12, (.v (.v false [(.i .i64 x1)]))), (1800001801, (.o (.box [(.sh 5 x2), (.i .i64 x3), (.i .i64 x4)]))), (3, (.o (.row 5 true x5)))]) (iterK g (canon (E166.keep 5)) K) = Pu.spec_l01Text.r5 N (fun x0 x1 x2 x3 x4 x5 => (g (tabl [(0, (.v (.v false [(.bp 900000900 0)]))), (2, (.v (.v false [(.i .i64 x0)]))), (10, (.v (.v false [(.own 1)]))), (12, (.v (.v false [(.i .i64 x1)]))), (1800001801, (.o (.box [(.sh 5 x2), (.i .i64 x3), (.i .i64 x4)]))), (3, (.o (.row 5 true x5)))]))) (fun y0 y1 y2 y3 y4 y5 => (K (.exit 0) (tabl [(0, (.v (.v false [(.bp 900000900 0)]))), (2, (.v (.v false [(.i .i64 y0)]))), (10, (.v (.v false [(.own 1)]))), (12, (.v (.v false [(.i .i64 y1)]))), (1800001801, (.o (.box [(.sh 5 y2), (.i .i64 y3), (.i .i64 y4)]))), (3, (.o (.row 5 true y5)))]))) x0 x1 x2 x3 x4 x5 := by intro g; kernel_rfl
    refine (h _).trans ?_
    show Pu.spec_l01Text.r5 N (fun x0 x1 x2 x3 x4 x5 => (iter (exc E166 (it166 N) (loopOf Try.f166 5)) (canon (E166.keep 5))  n (tabl [(0, (.v (.v false [(.bp 900000900 0)]))), (2, (.v (.v false [(.i .i64 x0)]))), (10, (.v (.v false [(.own 1)]))), (12, (.v (.v false [(.i .i64 x1)]))), (1800001801, (.o (.box [(.sh 5 x2), (.i .i64 x3), (.i .i64 x4)]))), (3, (.o (.row 5 true x5)))]) K)) (fun y0 y1 y2 y3 y4 y5 => (K (.exit 0) (tabl [(0, (.v (.v false [(.bp 900000900 0)]))), (2, (.v (.v false [(.i .i64 y0)]))), (10, (.v (.v false [(.own 1)]))), (12, (.v (.v false [(.i .i64 y1)]))), (1800001801, (.o (.box [(.sh 5 y2), (.i .i64 y3), (.i .i64 y4)]))), (3, (.o (.row 5 true y5)))]))) x0 x1 x2 x3 x4 x5 = _
    rw [e0]; rfl
theorem lo166_5 {R : Type} (N : Nat) : LoopOk E166 (it166 N (R := R)) (loopOf Try.f166 5) := by
  have e : firstRid (loopOf Try.f166 5) = 5 := by kernel_rfl
  intro L K r
  rw [e]
  intro h
  unfold it166 at h
  simp only [show Nat.beq 5 5 = true from rfl, cond_false, cond_true] at h
  refine tell_ok (Q := fun L => ∃ n, iter (exc E166 (it166 N) (loopOf Try.f166 5)) (canon (E166.keep 5)) n (tabl L) K = some r) h (fun xs h => ?_) (fun h => ?_)
  · (try dsimp only at h)
    split at h
    · exact ⟨N, ((e166_5 N K N) _ _ _ _ _ _).trans h⟩
    · cases h
  cases h
def sp166 : List Arg → Option (Bool × Res)
  | [(.pt [(.sh 5 c0_0), (.i .i64 c0_1), (.i .i64 c0_2)]), (.v false [(.i .i64 n1)])] => some (Pu.spec_l01Text.c c0_0 c0_1 c0_2 n1, ⟨[(.v false [(.s ((Pu.spec_l01Text.v c0_0 c0_1 c0_2 n1).1))])], [[(.sh 5 ((Pu.spec_l01Text.v c0_0 c0_1 c0_2 n1).2.1)), (.i .i64 ((Pu.spec_l01Text.v c0_0 c0_1 c0_2 n1).2.2.1)), (.i .i64 ((Pu.spec_l01Text.v c0_0 c0_1 c0_2 n1).2.2.2))]]⟩)
  | _ => none
theorem ok166 : FnOk Try.prog T 166 sp166 := by
  refine fn_ok (E := E166) hE (call_cons ok112 call_nil) hM Try.func166 (code := (Try.f166.body.getD .skip)) (by kernel_rfl) (by kernel_rfl) ?_
  have key : ∀ (c0_0 : Row) (c0_1 : Int) (c0_2 : Int) (n1 : Int), Pu.spec_l01Text.c c0_0 c0_1 c0_2 n1 = true → ∃ it : It Res, (∀ c ∈ loopsOf (Try.f166.body.getD .skip), LoopOk E166 it c) ∧ body E166 it Try.f166 [(.pt [(.sh 5 c0_0), (.i .i64 c0_1), (.i .i64 c0_2)]), (.v false [(.i .i64 n1)])] = some ⟨[(.v false [(.s ((Pu.spec_l01Text.v c0_0 c0_1 c0_2 n1).1))])], [[(.sh 5 ((Pu.spec_l01Text.v c0_0 c0_1 c0_2 n1).2.1)), (.i .i64 ((Pu.spec_l01Text.v c0_0 c0_1 c0_2 n1).2.2.1)), (.i .i64 ((Pu.spec_l01Text.v c0_0 c0_1 c0_2 n1).2.2.2))]]⟩ := by
    intro c0_0 c0_1 c0_2 n1  h1
    obtain ⟨N, hN⟩ := Pu.spec_l01Text.b_eq (R := Res) (fun r0 r1 r2 r3 => some ⟨[(.v false [(.s r0)])], [[(.sh 5 r1), (.i .i64 r2), (.i .i64 r3)]]⟩) c0_0 c0_1 c0_2 n1 h1
    have hl : loopsOf (Try.f166.body.getD .skip) = [loopOf Try.f166 5] := by kernel_rfl
    refine ⟨it166 N, by rw [hl]; exact (loops_cons (lo166_5 N) loops_nil), ?_⟩
    refine Eq.trans (show body E166 (it166 N) Try.f166 [(.pt [(.sh 5 c0_0), (.i .i64 c0_1), (.i .i64 c0_2)]), (.v false [(.i .i64 n1)])] = Pu.spec_l01Text.b N (fun r0 r1 r2 r3 => some ⟨[(.v false [(.s r0)])], [[(.sh 5 r1), (.i .i64 r2), (.i .i64 r3)]]⟩) c0_0 c0_1 c0_2 n1 by kernel_rfl) hN
  intro args r h
  unfold sp166 at h
  split at h
  · injection h with h
    injection h with h1 h2
    subst h2
    exact ⟨by kernel_rfl, fun hf => ⟨of_decide_eq_true (by kernel_rfl), key _ _ _ _ h1⟩⟩
  · cases h

end Go.FG.Se

namespace Go.FG.Se
open Go.Proofs
def E88 : Env := { toTab := T, call := Go.FG.callIn [(165, sp165), (105, sp105), (90, sp90), (166, sp166)], mode := Go.FG.modeIn md, keep := Go.FG.keepIn [], tk := fun n => Go.FG.memB n [], om := Go.FG.omIn [] }
def sp88 : List Arg → Option (Bool × Res)
  | [(.pt [(.sh 5 c0_0), (.i .i64 c0_1), (.i .i64 c0_2)])] => some (Pu.spec_l15Entry.c c0_0 c0_1 c0_2, ⟨[(.v true [(.s ((Pu.spec_l15Entry.v c0_0 c0_1 c0_2).1)), (.i .i64 ((Pu.spec_l15Entry.v c0_0 c0_1 c0_2).2.1)), (.i .i64 ((Pu.spec_l15Entry.v c0_0 c0_1 c0_2).2.2.1)), (.s ((Pu.spec_l15Entry.v c0_0 c0_1 c0_2).2.2.2.1))])], [[(.sh 5 ((Pu.spec_l15Entry.v c0_0 c0_1 c0_2).2.2.2.2.1)), (.i .i64 ((Pu.spec_l15Entry.v c0_0 c0_1 c0_2).2.2.2.2.2.1)), (.i .i64 ((Pu.spec_l15Entry.v c0_0 c0_1 c0_2).2.2.2.2.2.2))]]⟩)
  | _ => none
theorem ok88 : FnOk Try.prog T 88 sp88 := by
  refine fn_ok (E := E88) hE (call_cons ok165 (call_cons ok105 (call_cons ok90 (call_cons ok166 call_nil)))) hM Try.func88 (code := (Try.f88.body.getD .skip)) (by kernel_rfl) (by kernel_rfl) ?_
  have key : ∀ (c0_0 : Row) (c0_1 : Int) (c0_2 : Int), Pu.spec_l15Entry.c c0_0 c0_1 c0_2 = true → ∃ it : It Res, (∀ c ∈ loopsOf (Try.f88.body.getD .skip), LoopOk E88 it c) ∧ body E88 it Try.f88 [(.pt [(.sh 5 c0_0), (.i .i64 c0_1), (.i .i64 c0_2)])] = some ⟨[(.v true [(.s ((Pu.spec_l15Entry.v c0_0 c0_1 c0_2).1)), (.i .i64 ((Pu.spec_l15Entry.v c0_0 c0_1 c0_2).2.1)), (.i .i64 ((Pu.spec_l15Entry.v c0_0 c0_1 c0_2).2.2.1)), (.s ((Pu.spec_l15Entry.v c0_0 c0_1 c0_2).2.2.2.1))])], [[(.sh 5 ((Pu.spec_l15Entry.v c0_0 c0_1 c0_2).2.2.2.2.1)), (.i .i64 ((Pu.spec_l15Entry.v c0_0 c0_1 c0_2).2.2.2.2.2.1)), (.i .i64 ((Pu.spec_l15Entry.v c0_0 c0_1 c0_2).2.2.2.2.2.2))]]⟩ := by
    intro c0_0 c0_1 c0_2  h1
    have hN := Pu.spec_l15Entry.b_eq (R := Res) (fun r0 r1 r2 r3 r4 r5 r6 => some ⟨[(.v true [(.s r0), (.i .i64 r1), (.i .i64 r2), (.s r3)])], [[(.sh 5 r4), (.i .i64 r5), (.i .i64 r6)]]⟩) c0_0 c0_1 c0_2 h1
    have hl : loopsOf (Try.f88.body.getD .skip) = [] := by kernel_rfl
    refine ⟨iterN 0, by rw [hl]; exact loops_nil, ?_⟩
    refine Eq.trans (show body E88 (iterN 0) Try.f88 [(.pt [(.sh 5 c0_0), (.i .i64 c0_1), (.i .i64 c0_2)])] = Pu.spec_l15Entry.b (fun r0 r1 r2 r3 r4 r5 r6 => some ⟨[(.v true [(.s r0), (.i .i64 r1), (.i .i64 r2), (.s r3)])], [[(.sh 5 r4), (.i .i64 r5), (.i .i64 r6)]]⟩) c0_0 c0_1 c0_2 by kernel_rfl) hN
  intro args r h
  unfold sp88 at h
  split at h
  · injection h with h
    injection h with h1 h2
    subst h2
    exact ⟨by kernel_rfl, fun hf => ⟨of_decide_eq_true (by kernel_rfl), key _ _ _ h1⟩⟩
  · cases h

end Go.FG.Se

namespace Go.FG.Se
open Go.Proofs
def E16 : Env := { toTab := T, call := Go.FG.callIn [(89, sp89), (88, sp88)], mode := Go.FG.modeIn md, keep := Go.FG.keepIn [], tk := fun n => Go.FG.memB n [], om := Go.FG.omIn [] }
def sp16 : List Arg → Option (Bool × Res)
  | [(.v false [(.sh 5 code0)])] => some (Pu.spec_DrawEntry.c code0, ⟨[(.v true [(.s ((Pu.spec_DrawEntry.v code0).1)), (.i .i64 ((Pu.spec_DrawEntry.v code0).2.1)), (.i .i64 ((Pu.spec_DrawEntry.v code0).2.2.1)), (.s ((Pu.spec_DrawEntry.v code0).2.2.2))])], []⟩)
  | _ => none
theorem ok16 : FnOk Try.prog T 16 sp16 := by
  refine fn_ok (E := E16) hE (call_cons ok89 (call_cons ok88 call_nil)) hM Try.func16 (code := (Try.f16.body.getD .skip)) (by kernel_rfl) (by kernel_rfl) ?_
  have key : ∀ (code0 : Row), Pu.spec_DrawEntry.c code0 = true → ∃ it : It Res, (∀ c ∈ loopsOf (Try.f16.body.getD .skip), LoopOk E16 it c) ∧ body E16 it Try.f16 [(.v false [(.sh 5 code0)])] = some ⟨[(.v true [(.s ((Pu.spec_DrawEntry.v code0).1)), (.i .i64 ((Pu.spec_DrawEntry.v code0).2.1)), (.i .i64 ((Pu.spec_DrawEntry.v code0).2.2.1)), (.s ((Pu.spec_DrawEntry.v code0).2.2.2))])], []⟩ := by
    intro code0  h1
    have hN := Pu.spec_DrawEntry.b_eq (R := Res) (fun r0 r1 r2 r3 => some ⟨[(.v true [(.s r0), (.i .i64 r1), (.i .i64 r2), (.s r3)])], []⟩) code0 h1
    have hl : loopsOf (Try.f16.body.getD .skip) = [] := by kernel_rfl
    refine ⟨iterN 0, by rw [hl]; exact loops_nil, ?_⟩
    refine Eq.trans (show body E16 (iterN 0) Try.f16 [(.v false [(.sh 5 code0)])] = Pu.spec_DrawEntry.b (fun r0 r1 r2 r3 => some ⟨[(.v true [(.s r0), (.i .i64 r1), (.i .i64 r2), (.s r3)])], []⟩) code0 by kernel_rfl) hN
  intro args r h
  unfold sp16 at h
  split at h
  · injection h with h
    injection h with h1 h2
    subst h2
    exact ⟨by kernel_rfl, fun hf => ⟨of_decide_eq_true (by kernel_rfl), key _ h1⟩⟩
  · cases h

end Go.FG.Se

namespace Go.FG.Se
open Go.Proofs
def E120 : Env := { toTab := T, call := Go.FG.callIn [], mode := Go.FG.modeIn md, keep := Go.FG.keepIn [(3, [0, 1, 5, 6])], tk := fun n => Go.FG.memB n [], om := Go.FG.omIn [] }
def it120 (N : Nat) {R : Type} : It R := fun rid f cn L K => bif Nat.beq rid 3 then (tell [(0, (.v (.v false [(.i .i64 0)]))), (2, (.v (.v false [(.i .u8 0)]))), (10, (.v (.v false [(.own 0)]))), (12, (.v (.v false [(.i .i64 0)]))), (1, (.o (.row 5 true [])))] (fun | [.I x0, .I x1, .I x2, .R x3] => Pu.spec_l01Long.l3 N (fun y0 y1 y2 y3 => (K (.exit 0) (tabl [(0, (.v (.v false [(.i .i64 y0)]))), (2, (.v (.v false [(.i .u8 y1)]))), (10, (.v (.v false [(.own 0)]))), (12, (.v (.v false [(.i .i64 y2)]))), (1, (.o (.row 5 true y3)))]))) N x0 x1 x2 x3 | _ => none) L (none)) else none
theorem e120_3 {R : Type} (N : Nat) (K : Ex → St → Option R) : ∀ n : Nat, (∀ x0 x1 x2 x3, iter (exc E120 (it120 N) (loopOf Try.f120 3)) (canon (E120.keep 3))  n (tabl [(0, (.v (.v false [(.i .i64 x0)]))), (2, (.v (.v false [(.i .u8 x1)]))), (10, (.v (.v false [(.own 0)]))), (12, (.v (.v false [(.i .i64 x2)]))), (1, (.o (.row 5 true x3)))]) K = Pu.spec_l01Long.l3 N (fun y0 y1 y2 y3 => (K (.exit 0) (tabl [(0, (.v (.v false [(.i .i64 y0)]))), (2, (.v (.v false [(.i .u8 y1)]))), (10, (.v (.v false [(.own 0)]))), (12, (.v (.v false [(.i .i64 y2)]))), (1, (.o (.row 5 true y3)))]))) n x0 x1 x2 x3) := by
  intro n
  induction n with
  | zero => exact (fun _ _ _ _ => rfl)
  | succ n ih =>
    have e0 : (fun x0 x1 x2 x3 => iter (exc E120 (it120 N) (loopOf Try.f120 3)) (canon (E120.keep 3))  n (tabl [(0, (.v (.v false [(.i .i64 x0)]))), (2, (.v (.v false [(.i .u8 x1)]))), (10, (.v (.v false [(.own 0)]))), (12, (.v (.v false [(.i .i64 x2)]))), (1, (.o (.row 5 true x3)))]) K) = Pu.spec_l01Long.l3 N (fun y0 y1 y2 y3 => (K (.exit 0) (tabl [(0, (.v (.v false [(.i .i64 y0)]))), (2, (.v (.v false [(.i .u8 y1)]))), (10, (.v (.v false [(.own 0)]))), (12, (.v (.v false [(.i .i64 y2)]))), (1, (.o (.row 5 true y3)))]))) n := by funext x0 x1 x2 x3; exact ih x0 x1 x2 x3
    intro x0 x1 x2 x3
    have h : ∀ g, exc E120 (it120 N) (loopOf Try.f120 3) (tabl [(0, (.v (.v false [(.i .i64 x0)]))), (2, (.v (.v false [(.i .u8 x1)]))), (10, (.v (.v false [(.own 0)]))), (12, (.v (.v false [(.i .i64 x2)]))), (1, (.o (.row 5 true x3)))]) (iterK g (canon (E120.keep 3)) K) = Pu.spec_l01Long.r3 N (fun x0 x1 x2 x3 => (g (tabl [(0, (.v (.v false [(.i .i64 x0)]))), (2, (.v (.v false [(.i .u8 x1)]))), (10, (.v (.v false [(.own 0)]))), (12, (.v (.v false [(.i .i64 x2)]))), (1, (.o (.row 5 true x3)))]))) (fun y0 y1 y2 y3 => (K (.exit 0) (tabl [(0, (.v (.v false [(.i .i64 y0)]))), (2, (.v (.v false [(.i .u8 y1)]))), (10, (.v (.v false [(.own 0)]))), (12, (.v (.v false [(.i .i64 y2)]))), (1, (.o (.row 5 true y3)))]))) x0 x1 x2 x3 := by intro g; kernel_rfl
    refine (h _).trans ?_
    show Pu.spec_l01Long.r3 N (fun x0 x1 x2 x3 => (iter (exc E120 (it120 N) (loopOf Try.f120 3)) (canon (E120.keep 3))  n (tabl [(0, (.v (.v false [(.i .i64 x0)]))), (2, (.v (.v false [(.i .u8 x1)]))), (10, (.v (.v false [(.own 0)]))), (12, (.v (.v false [(.i .i64 x2)]))), (1, (.o (.row 5 true x3)))]) K)) (fun y0 y1 y2 y3 => (K (.exit 0) (tabl [(0, (.v (.v false [(.i .i64 y0)]))), (2, (.v (.v false [(.i .u8 y1)]))), (10, (.v (.v false [(.own 0)]))), (12, (.v (.v false [(.i .i64 y2)]))), (1, (.o (.row 5 true y3)))]))) x0 x1 x2 x3 = _
    rw [e0]; rfl
theorem lo120_3 {R : Type} (N : Nat) : LoopOk E120 (it120 N (R := R)) (loopOf Try.f120 3) := by
  have e : firstRid (loopOf Try.f120 3) = 3 := by kernel_rfl
  intro L K r
  rw [e]
  intro h
  unfold it120 at h
  simp only [show Nat.beq 3 3 = true from rfl, cond_false, cond_true] at h
  refine tell_ok (Q := fun L => ∃ n, iter (exc E120 (it120 N) (loopOf Try.f120 3)) (canon (E120.keep 3)) n (tabl L) K = some r) h (fun xs h => ?_) (fun h => ?_)
  · (try dsimp only at h)
    split at h
    · exact ⟨N, ((e120_3 N K N) _ _ _ _).trans h⟩
    · cases h
  cases h
def sp120 : List Arg → Option (Bool × Res)
  | [(.v false [(.i .i64 n0)]), (.v false [(.i .u8 x1)])] => some (Pu.spec_l01Long.c n0 x1, ⟨[(.v false [(.s (Pu.spec_l01Long.v n0 x1))])], []⟩)
  | _ => none
theorem ok120 : FnOk Try.prog T 120 sp120 := by
  refine fn_ok (E := E120) hE call_nil hM Try.func120 (code := (Try.f120.body.getD .skip)) (by kernel_rfl) (by kernel_rfl) ?_
  have key : ∀ (n0 : Int) (x1 : Int), Pu.spec_l01Long.c n0 x1 = true → ∃ it : It Res, (∀ c ∈ loopsOf (Try.f120.body.getD .skip), LoopOk E120 it c) ∧ body E120 it Try.f120 [(.v false [(.i .i64 n0)]), (.v false [(.i .u8 x1)])] = some ⟨[(.v false [(.s (Pu.spec_l01Long.v n0 x1))])], []⟩ := by
    intro n0 x1  h1
    obtain ⟨N, hN⟩ := Pu.spec_l01Long.b_eq (R := Res) (fun r0 => some ⟨[(.v false [(.s r0)])], []⟩) n0 x1 h1
    have hl : loopsOf (Try.f120.body.getD .skip) = [loopOf Try.f120 3] := by kernel_rfl
    refine ⟨it120 N, by rw [hl]; exact (loops_cons (lo120_3 N) loops_nil), ?_⟩
    refine Eq.trans (show body E120 (it120 N) Try.f120 [(.v false [(.i .i64 n0)]), (.v false [(.i .u8 x1)])] = Pu.spec_l01Long.b N (fun r0 => some ⟨[(.v false [(.s r0)])], []⟩) n0 x1 by kernel_rfl) hN
  intro args r h
  unfold sp120 at h
  split at h
  · injection h with h
    injection h with h1 h2
    subst h2
    exact ⟨by kernel_rfl, fun hf => ⟨of_decide_eq_true (by kernel_rfl), key _ _ h1⟩⟩
  · cases h

end Go.FG.Se

namespace Go.FG.Se
open Go.Proofs
def E91 : Env := { toTab := T, call := Go.FG.callIn [(88, sp88), (105, sp105), (167, sp167), (90, sp90), (120, sp120)], mode := Go.FG.modeIn md, keep := Go.FG.keepIn [], tk := fun n => Go.FG.memB n [], om := Go.FG.omIn [] }
def sp91 : List Arg → Option (Bool × Res)
  | [(.pt [(.sh 5 c0_0), (.i .i64 c0_1), (.i .i64 c0_2)])] => some (Pu.spec_l15Any.c c0_0 c0_1 c0_2, ⟨[(.v true [(.s ((Pu.spec_l15Any.v c0_0 c0_1 c0_2).1)), (.i .i64 ((Pu.spec_l15Any.v c0_0 c0_1 c0_2).2.1)), (.i .i64 ((Pu.spec_l15Any.v c0_0 c0_1 c0_2).2.2.1)), (.s ((Pu.spec_l15Any.v c0_0 c0_1 c0_2).2.2.2.1))])], [[(.sh 5 ((Pu.spec_l15Any.v c0_0 c0_1 c0_2).2.2.2.2.1)), (.i .i64 ((Pu.spec_l15Any.v c0_0 c0_1 c0_2).2.2.2.2.2.1)), (.i .i64 ((Pu.spec_l15Any.v c0_0 c0_1 c0_2).2.2.2.2.2.2))]]⟩)
  | _ => none
theorem ok91 : FnOk Try.prog T 91 sp91 := by
  refine fn_ok (E := E91) hE (call_cons ok88 (call_cons ok105 (call_cons ok167 (call_cons ok90 (call_cons ok120 call_nil))))) hM Try.func91 (code := (Try.f91.body.getD .skip)) (by kernel_rfl) (by kernel_rfl) ?_
  have key : ∀ (c0_0 : Row) (c0_1 : Int) (c0_2 : Int), Pu.spec_l15Any.c c0_0 c0_1 c0_2 = true → ∃ it : It Res, (∀ c ∈ loopsOf (Try.f91.body.getD .skip), LoopOk E91 it c) ∧ body E91 it Try.f91 [(.pt [(.sh 5 c0_0), (.i .i64 c0_1), (.i .i64 c0_2)])] = some ⟨[(.v true [(.s ((Pu.spec_l15Any.v c0_0 c0_1 c0_2).1)), (.i .i64 ((Pu.spec_l15Any.v c0_0 c0_1 c0_2).2.1)), (.i .i64 ((Pu.spec_l15Any.v c0_0 c0_1 c0_2).2.2.1)), (.s ((Pu.spec_l15Any.v c0_0 c0_1 c0_2).2.2.2.1))])], [[(.sh 5 ((Pu.spec_l15Any.v c0_0 c0_1 c0_2).2.2.2.2.1)), (.i .i64 ((Pu.spec_l15Any.v c0_0 c0_1 c0_2).2.2.2.2.2.1)), (.i .i64 ((Pu.spec_l15Any.v c0_0 c0_1 c0_2).2.2.2.2.2.2))]]⟩ := by
    intro c0_0 c0_1 c0_2  h1
    have hN := Pu.spec_l15Any.b_eq (R := Res) (fun r0 r1 r2 r3 r4 r5 r6 => some ⟨[(.v true [(.s r0), (.i .i64 r1), (.i .i64 r2), (.s r3)])], [[(.sh 5 r4), (.i .i64 r5), (.i .i64 r6)]]⟩) c0_0 c0_1 c0_2 h1
    have hl : loopsOf (Try.f91.body.getD .skip) = [] := by kernel_rfl
    refine ⟨iterN 0, by rw [hl]; exact loops_nil, ?_⟩
    refine Eq.trans (show body E91 (iterN 0) Try.f91 [(.pt [(.sh 5 c0_0), (.i .i64 c0_1), (.i .i64 c0_2)])] = Pu.spec_l15Any.b (fun r0 r1 r2 r3 r4 r5 r6 => some ⟨[(.v true [(.s r0), (.i .i64 r1), (.i .i64 r2), (.s r3)])], [[(.sh 5 r4), (.i .i64 r5), (.i .i64 r6)]]⟩) c0_0 c0_1 c0_2 by kernel_rfl) hN
  intro args r h
  unfold sp91 at h
  split at h
  · injection h with h
    injection h with h1 h2
    subst h2
    exact ⟨by kernel_rfl, fun hf => ⟨of_decide_eq_true (by kernel_rfl), key _ _ _ h1⟩⟩
  · cases h

end Go.FG.Se

namespace Go.FG.Se
open Go.Proofs
def E92 : Env := { toTab := T, call := Go.FG.callIn [(105, sp105)], mode := Go.FG.modeIn md, keep := Go.FG.keepIn [], tk := fun n => Go.FG.memB n [], om := Go.FG.omIn [] }
def sp92 : List Arg → Option (Bool × Res)
  | [(.pt [(.sh 5 c0_0), (.i .i64 c0_1), (.i .i64 c0_2)]), (.v false [(.i .i64 n1)])] => some (Pu.spec_l01Once.c c0_0 c0_1 c0_2 n1, ⟨[(.v false [(.b ((Pu.spec_l01Once.v c0_0 c0_1 c0_2 n1).1))])], [[(.sh 5 ((Pu.spec_l01Once.v c0_0 c0_1 c0_2 n1).2.1)), (.i .i64 ((Pu.spec_l01Once.v c0_0 c0_1 c0_2 n1).2.2.1)), (.i .i64 ((Pu.spec_l01Once.v c0_0 c0_1 c0_2 n1).2.2.2))]]⟩)
  | _ => none
theorem ok92 : FnOk Try.prog T 92 sp92 := by
  refine fn_ok (E := E92) hE (call_cons ok105 call_nil) hM Try.func92 (code := (Try.f92.body.getD .skip)) (by kernel_rfl) (by kernel_rfl) ?_
  have key : ∀ (c0_0 : Row) (c0_1 : Int) (c0_2 : Int) (n1 : Int), Pu.spec_l01Once.c c0_0 c0_1 c0_2 n1 = true → ∃ it : It Res, (∀ c ∈ loopsOf (Try.f92.body.getD .skip), LoopOk E92 it c) ∧ body E92 it Try.f92 [(.pt [(.sh 5 c0_0), (.i .i64 c0_1), (.i .i64 c0_2)]), (.v false [(.i .i64 n1)])] = some ⟨[(.v false [(.b ((Pu.spec_l01Once.v c0_0 c0_1 c0_2 n1).1))])], [[(.sh 5 ((Pu.spec_l01Once.v c0_0 c0_1 c0_2 n1).2.1)), (.i .i64 ((Pu.spec_l01Once.v c0_0 c0_1 c0_2 n1).2.2.1)), (.i .i64 ((Pu.spec_l01Once.v c0_0 c0_1 c0_2 n1).2.2.2))]]⟩ := by
    intro c0_0 c0_1 c0_2 n1  h1
    have hN := Pu.spec_l01Once.b_eq (R := Res) (fun r0 r1 r2 r3 => some ⟨[(.v false [(.b r0)])], [[(.sh 5 r1), (.i .i64 r2), (.i .i64 r3)]]⟩) c0_0 c0_1 c0_2 n1 h1
    have hl : loopsOf (Try.f92.body.getD .skip) = [] := by kernel_rfl
    refine ⟨iterN 0, by rw [hl]; exact loops_nil, ?_⟩
    refine Eq.trans (show body E92 (iterN 0) Try.f92 [(.pt [(.sh 5 c0_0), (.i .i64 c0_1), (.i .i64 c0_2)]), (.v false [(.i .i64 n1)])] = Pu.spec_l01Once.b (fun r0 r1 r2 r3 => some ⟨[(.v false [(.b r0)])], [[(.sh 5 r1), (.i .i64 r2), (.i .i64 r3)]]⟩) c0_0 c0_1 c0_2 n1 by kernel_rfl) hN
  intro args r h
  unfold sp92 at h
  split at h
  · injection h with h
    injection h with h1 h2
    subst h2
    exact ⟨by kernel_rfl, fun hf => ⟨of_decide_eq_true (by kernel_rfl), key _ _ _ _ h1⟩⟩
  · cases h

end Go.FG.Se

namespace Go.FG.Se
open Go.Proofs
def E17 : Env := { toTab := T, call := Go.FG.callIn [(89, sp89), (90, sp90), (91, sp91), (92, sp92)], mode := Go.FG.modeIn md, keep := Go.FG.keepIn [], tk := fun n => Go.FG.memB n [], om := Go.FG.omIn [] }
def sp17 : List Arg → Option (Bool × Res)
  | [(.v false [(.sh 5 code0)])] => some (Pu.spec_DrawFreshAt.c code0, ⟨[(.v true [(.s ((Pu.spec_DrawFreshAt.v code0).1)), (.i .i64 ((Pu.spec_DrawFreshAt.v code0).2.1)), (.i .i64 ((Pu.spec_DrawFreshAt.v code0).2.2.1)), (.s ((Pu.spec_DrawFreshAt.v code0).2.2.2.1))]), (.v false [(.i .i64 ((Pu.spec_DrawFreshAt.v code0).2.2.2.2))])], []⟩)
  | _ => none
theorem ok17 : FnOk Try.prog T 17 sp17 := by
  refine fn_ok (E := E17) hE (call_cons ok89 (call_cons ok90 (call_cons ok91 (call_cons ok92 call_nil)))) hM Try.func17 (code := (Try.f17.body.getD .skip)) (by kernel_rfl) (by kernel_rfl) ?_
  have key : ∀ (code0 : Row), Pu.spec_DrawFreshAt.c code0 = true → ∃ it : It Res, (∀ c ∈ loopsOf (Try.f17.body.getD .skip), LoopOk E17 it c) ∧ body E17 it Try.f17 [(.v false [(.sh 5 code0)])] = some ⟨[(.v true [(.s ((Pu.spec_DrawFreshAt.v code0).1)), (.i .i64 ((Pu.spec_DrawFreshAt.v code0).2.1)), (.i .i64 ((Pu.spec_DrawFreshAt.v code0).2.2.1)), (.s ((Pu.spec_DrawFreshAt.v code0).2.2.2.1))]), (.v false [(.i .i64 ((Pu.spec_DrawFreshAt.v code0).2.2.2.2))])], []⟩ := by
    intro code0  h1
    have hN := Pu.spec_DrawFreshAt.b_eq (R := Res) (fun r0 r1 r2 r3 r4 => some ⟨[(.v true [(.s r0), (.i .i64 r1), (.i .i64 r2), (.s r3)]), (.v false [(.i .i64 r4)])], []⟩) code0 h1
    have hl : loopsOf (Try.f17.body.getD .skip) = [] := by kernel_rfl
    refine ⟨iterN 0, by rw [hl]; exact loops_nil, ?_⟩
    refine Eq.trans (show body E17 (iterN 0) Try.f17 [(.v false [(.sh 5 code0)])] = Pu.spec_DrawFreshAt.b (fun r0 r1 r2 r3 r4 => some ⟨[(.v true [(.s r0), (.i .i64 r1), (.i .i64 r2), (.s r3)]), (.v false [(.i .i64 r4)])], []⟩) code0 by kernel_rfl) hN
  intro args r h
  unfold sp17 at h
  split at h
  · injection h with h
    injection h with h1 h2
    subst h2
    exact ⟨by kernel_rfl, fun hf => ⟨of_decide_eq_true (by kernel_rfl), key _ h1⟩⟩
  · cases h

end Go.FG.Se

namespace Go.FG.Se
open Go.Proofs
def E94 : Env := { toTab := T, call := Go.FG.callIn [], mode := Go.FG.modeIn md, keep := Go.FG.keepIn [], tk := fun n => Go.FG.memB n [], om := Go.FG.omIn [] }
def sp94 : List Arg → Option (Bool × Res)
  | [(.v false [(.i .i64 n0)]), (.v false [(.i .i64 low1)]), (.v false [(.i .i64 high2)])] => some (true, ⟨[(.v false [(.b (Pu.impl_within.v n0 low1 high2))])], []⟩)
  | _ => none
theorem ok94 : FnOk Try.prog T 94 sp94 := by
  refine fn_ok (E := E94) hE call_nil hM Try.func94 (code := (Try.f94.body.getD .skip)) (by kernel_rfl) (by kernel_rfl) ?_
  have key : ∀ (n0 : Int) (low1 : Int) (high2 : Int), ∃ it : It Res, (∀ c ∈ loopsOf (Try.f94.body.getD .skip), LoopOk E94 it c) ∧ body E94 it Try.f94 [(.v false [(.i .i64 n0)]), (.v false [(.i .i64 low1)]), (.v false [(.i .i64 high2)])] = some ⟨[(.v false [(.b (Pu.impl_within.v n0 low1 high2))])], []⟩ := by
    intro n0 low1 high2 
    have hN := Pu.impl_within.b_eq (R := Res) (fun r0 => some ⟨[(.v false [(.b r0)])], []⟩) n0 low1 high2
    have hl : loopsOf (Try.f94.body.getD .skip) = [] := by kernel_rfl
    refine ⟨iterN 0, by rw [hl]; exact loops_nil, ?_⟩
    refine Eq.trans (show body E94 (iterN 0) Try.f94 [(.v false [(.i .i64 n0)]), (.v false [(.i .i64 low1)]), (.v false [(.i .i64 high2)])] = Pu.impl_within.b (fun r0 => some ⟨[(.v false [(.b r0)])], []⟩) n0 low1 high2 by kernel_rfl) hN
  intro args r h
  unfold sp94 at h
  split at h
  · injection h with h
    injection h with h1 h2
    subst h2
    exact ⟨by kernel_rfl, fun hf => ⟨of_decide_eq_true (by kernel_rfl), key _ _ _⟩⟩
  · cases h

end Go.FG.Se

namespace Go.FG.Se
open Go.Proofs
def E110 : Env := { toTab := T, call := Go.FG.callIn [(94, sp94)], mode := Go.FG.modeIn md, keep := Go.FG.keepIn [], tk := fun n => Go.FG.memB n [], om := Go.FG.omIn [] }
def sp110 : List Arg → Option (Bool × Res)
  | [(.v false [(.s key0)])] => some (true, ⟨[(.v false [(.b (Pu.impl_isKey.v key0))])], []⟩)
  | _ => none
theorem ok110 : FnOk Try.prog T 110 sp110 := by
  refine fn_ok (E := E110) hE (call_cons ok94 call_nil) hM Try.func110 (code := (Try.f110.body.getD .skip)) (by kernel_rfl) (by kernel_rfl) ?_
  have key : ∀ (key0 : ByteArray), ∃ it : It Res, (∀ c ∈ loopsOf (Try.f110.body.getD .skip), LoopOk E110 it c) ∧ body E110 it Try.f110 [(.v false [(.s key0)])] = some ⟨[(.v false [(.b (Pu.impl_isKey.v key0))])], []⟩ := by
    intro key0 
    have hN := Pu.impl_isKey.b_eq (R := Res) (fun r0 => some ⟨[(.v false [(.b r0)])], []⟩) key0
    have hl : loopsOf (Try.f110.body.getD .skip) = [] := by kernel_rfl
    refine ⟨iterN 0, by rw [hl]; exact loops_nil, ?_⟩
    refine Eq.trans (show body E110 (iterN 0) Try.f110 [(.v false [(.s key0)])] = Pu.impl_isKey.b (fun r0 => some ⟨[(.v false [(.b r0)])], []⟩) key0 by kernel_rfl) hN
  intro args r h
  unfold sp110 at h
  split at h
  · injection h with h
    injection h with h1 h2
    subst h2
    exact ⟨by kernel_rfl, fun hf => ⟨of_decide_eq_true (by kernel_rfl), key _⟩⟩
  · cases h

end Go.FG.Se

namespace Go.FG.Se
open Go.Proofs
def E93 : Env := { toTab := T, call := Go.FG.callIn [(94, sp94)], mode := Go.FG.modeIn md, keep := Go.FG.keepIn [], tk := fun n => Go.FG.memB n [], om := Go.FG.omIn [] }
def sp93 : List Arg → Option (Bool × Res)
  | [(.v false [(.i .i64 n0)])] => some (true, ⟨[(.v false [(.b (Pu.impl_isNumber.v n0))])], []⟩)
  | _ => none
theorem ok93 : FnOk Try.prog T 93 sp93 := by
  refine fn_ok (E := E93) hE (call_cons ok94 call_nil) hM Try.func93 (code := (Try.f93.body.getD .skip)) (by kernel_rfl) (by kernel_rfl) ?_
  have key : ∀ (n0 : Int), ∃ it : It Res, (∀ c ∈ loopsOf (Try.f93.body.getD .skip), LoopOk E93 it c) ∧ body E93 it Try.f93 [(.v false [(.i .i64 n0)])] = some ⟨[(.v false [(.b (Pu.impl_isNumber.v n0))])], []⟩ := by
    intro n0 
    have hN := Pu.impl_isNumber.b_eq (R := Res) (fun r0 => some ⟨[(.v false [(.b r0)])], []⟩) n0
    have hl : loopsOf (Try.f93.body.getD .skip) = [] := by kernel_rfl
    refine ⟨iterN 0, by rw [hl]; exact loops_nil, ?_⟩
    refine Eq.trans (show body E93 (iterN 0) Try.f93 [(.v false [(.i .i64 n0)])] = Pu.impl_isNumber.b (fun r0 => some ⟨[(.v false [(.b r0)])], []⟩) n0 by kernel_rfl) hN
  intro args r h
  unfold sp93 at h
  split at h
  · injection h with h
    injection h with h1 h2
    subst h2
    exact ⟨by kernel_rfl, fun hf => ⟨of_decide_eq_true (by kernel_rfl), key _⟩⟩
  · cases h

end Go.FG.Se

namespace Go.FG.Se
open Go.Proofs
def E33 : Env := { toTab := T, call := Go.FG.callIn [(110, sp110), (93, sp93), (94, sp94)], mode := Go.FG.modeIn md, keep := Go.FG.keepIn [], tk := fun n => Go.FG.memB n [], om := Go.FG.omIn [] }
def sp33 : List Arg → Option (Bool × Res)
  | [(.v true [(.s e0_0), (.i .i64 e0_1), (.i .i64 e0_2), (.s e0_3)])] => some (true, ⟨[(.v false [(.b (Pu.impl_EntryOk.v e0_0 e0_1 e0_2 e0_3))])], []⟩)
  | _ => none
theorem ok33 : FnOk Try.prog T 33 sp33 := by
  refine fn_ok (E := E33) hE (call_cons ok110 (call_cons ok93 (call_cons ok94 call_nil))) hM Try.func33 (code := (Try.f33.body.getD .skip)) (by kernel_rfl) (by kernel_rfl) ?_
  have key : ∀ (e0_0 : ByteArray) (e0_1 : Int) (e0_2 : Int) (e0_3 : ByteArray), ∃ it : It Res, (∀ c ∈ loopsOf (Try.f33.body.getD .skip), LoopOk E33 it c) ∧ body E33 it Try.f33 [(.v true [(.s e0_0), (.i .i64 e0_1), (.i .i64 e0_2), (.s e0_3)])] = some ⟨[(.v false [(.b (Pu.impl_EntryOk.v e0_0 e0_1 e0_2 e0_3))])], []⟩ := by
    intro e0_0 e0_1 e0_2 e0_3 
    have hN := Pu.impl_EntryOk.b_eq (R := Res) (fun r0 => some ⟨[(.v false [(.b r0)])], []⟩) e0_0 e0_1 e0_2 e0_3
    have hl : loopsOf (Try.f33.body.getD .skip) = [] := by kernel_rfl
    refine ⟨iterN 0, by rw [hl]; exact loops_nil, ?_⟩
    refine Eq.trans (show body E33 (iterN 0) Try.f33 [(.v true [(.s e0_0), (.i .i64 e0_1), (.i .i64 e0_2), (.s e0_3)])] = Pu.impl_EntryOk.b (fun r0 => some ⟨[(.v false [(.b r0)])], []⟩) e0_0 e0_1 e0_2 e0_3 by kernel_rfl) hN
  intro args r h
  unfold sp33 at h
  split at h
  · injection h with h
    injection h with h1 h2
    subst h2
    exact ⟨by kernel_rfl, fun hf => ⟨of_decide_eq_true (by kernel_rfl), key _ _ _ _⟩⟩
  · cases h

end Go.FG.Se

namespace Go.FG.Se
open Go.Proofs
def E18 : Env := { toTab := T, call := Go.FG.callIn [(33, sp33), (93, sp93), (94, sp94)], mode := Go.FG.modeIn md, keep := Go.FG.keepIn [], tk := fun n => Go.FG.memB n [], om := Go.FG.omIn [] }
def sp18 : List Arg → Option (Bool × Res)
  | [(.v true [(.s e0_0), (.i .i64 e0_1), (.i .i64 e0_2), (.s e0_3)]), (.v false [(.i .i64 now1)])] => some (true, ⟨[(.v false [(.b (Pu.impl_FreshAt.v e0_0 e0_1 e0_2 e0_3 now1))])], []⟩)
  | _ => none
theorem ok18 : FnOk Try.prog T 18 sp18 := by
  refine fn_ok (E := E18) hE (call_cons ok33 (call_cons ok93 (call_cons ok94 call_nil))) hM Try.func18 (code := (Try.f18.body.getD .skip)) (by kernel_rfl) (by kernel_rfl) ?_
  have key : ∀ (e0_0 : ByteArray) (e0_1 : Int) (e0_2 : Int) (e0_3 : ByteArray) (now1 : Int), ∃ it : It Res, (∀ c ∈ loopsOf (Try.f18.body.getD .skip), LoopOk E18 it c) ∧ body E18 it Try.f18 [(.v true [(.s e0_0), (.i .i64 e0_1), (.i .i64 e0_2), (.s e0_3)]), (.v false [(.i .i64 now1)])] = some ⟨[(.v false [(.b (Pu.impl_FreshAt.v e0_0 e0_1 e0_2 e0_3 now1))])], []⟩ := by
    intro e0_0 e0_1 e0_2 e0_3 now1 
    have hN := Pu.impl_FreshAt.b_eq (R := Res) (fun r0 => some ⟨[(.v false [(.b r0)])], []⟩) e0_0 e0_1 e0_2 e0_3 now1
    have hl : loopsOf (Try.f18.body.getD .skip) = [] := by kernel_rfl
    refine ⟨iterN 0, by rw [hl]; exact loops_nil, ?_⟩
    refine Eq.trans (show body E18 (iterN 0) Try.f18 [(.v true [(.s e0_0), (.i .i64 e0_1), (.i .i64 e0_2), (.s e0_3)]), (.v false [(.i .i64 now1)])] = Pu.impl_FreshAt.b (fun r0 => some ⟨[(.v false [(.b r0)])], []⟩) e0_0 e0_1 e0_2 e0_3 now1 by kernel_rfl) hN
  intro args r h
  unfold sp18 at h
  split at h
  · injection h with h
    injection h with h1 h2
    subst h2
    exact ⟨by kernel_rfl, fun hf => ⟨of_decide_eq_true (by kernel_rfl), key _ _ _ _ _⟩⟩
  · cases h

end Go.FG.Se

namespace Go.FG.Se
open Go.Proofs
def E95 : Env := { toTab := T, call := Go.FG.callIn [], mode := Go.FG.modeIn md, keep := Go.FG.keepIn [], tk := fun n => Go.FG.memB n [], om := Go.FG.omIn [] }
def sp95 : List Arg → Option (Bool × Res)
  | [(.v false [(.i .i64 x0)]), (.v false [(.i .i64 least1)]), (.v false [(.i .i64 most2)])] => some (true, ⟨[(.v false [(.b (Pu.spec_l01In.v x0 least1 most2))])], []⟩)
  | _ => none
theorem ok95 : FnOk Try.prog T 95 sp95 := by
  refine fn_ok (E := E95) hE call_nil hM Try.func95 (code := (Try.f95.body.getD .skip)) (by kernel_rfl) (by kernel_rfl) ?_
  have key : ∀ (x0 : Int) (least1 : Int) (most2 : Int), ∃ it : It Res, (∀ c ∈ loopsOf (Try.f95.body.getD .skip), LoopOk E95 it c) ∧ body E95 it Try.f95 [(.v false [(.i .i64 x0)]), (.v false [(.i .i64 least1)]), (.v false [(.i .i64 most2)])] = some ⟨[(.v false [(.b (Pu.spec_l01In.v x0 least1 most2))])], []⟩ := by
    intro x0 least1 most2 
    have hN := Pu.spec_l01In.b_eq (R := Res) (fun r0 => some ⟨[(.v false [(.b r0)])], []⟩) x0 least1 most2
    have hl : loopsOf (Try.f95.body.getD .skip) = [] := by kernel_rfl
    refine ⟨iterN 0, by rw [hl]; exact loops_nil, ?_⟩
    refine Eq.trans (show body E95 (iterN 0) Try.f95 [(.v false [(.i .i64 x0)]), (.v false [(.i .i64 least1)]), (.v false [(.i .i64 most2)])] = Pu.spec_l01In.b (fun r0 => some ⟨[(.v false [(.b r0)])], []⟩) x0 least1 most2 by kernel_rfl) hN
  intro args r h
  unfold sp95 at h
  split at h
  · injection h with h
    injection h with h1 h2
    subst h2
    exact ⟨by kernel_rfl, fun hf => ⟨of_decide_eq_true (by kernel_rfl), key _ _ _⟩⟩
  · cases h

end Go.FG.Se

namespace Go.FG.Se
open Go.Proofs
def E109 : Env := { toTab := T, call := Go.FG.callIn [(95, sp95)], mode := Go.FG.modeIn md, keep := Go.FG.keepIn [], tk := fun n => Go.FG.memB n [], om := Go.FG.omIn [] }
def sp109 : List Arg → Option (Bool × Res)
  | [(.v false [(.s s0)])] => some (true, ⟨[(.v false [(.b (Pu.spec_l13Key.v s0))])], []⟩)
  | _ => none
theorem ok109 : FnOk Try.prog T 109 sp109 := by
  refine fn_ok (E := E109) hE (call_cons ok95 call_nil) hM Try.func109 (code := (Try.f109.body.getD .skip)) (by kernel_rfl) (by kernel_rfl) ?_
  have key : ∀ (s0 : ByteArray), ∃ it : It Res, (∀ c ∈ loopsOf (Try.f109.body.getD .skip), LoopOk E109 it c) ∧ body E109 it Try.f109 [(.v false [(.s s0)])] = some ⟨[(.v false [(.b (Pu.spec_l13Key.v s0))])], []⟩ := by
    intro s0 
    have hN := Pu.spec_l13Key.b_eq (R := Res) (fun r0 => some ⟨[(.v false [(.b r0)])], []⟩) s0
    have hl : loopsOf (Try.f109.body.getD .skip) = [] := by kernel_rfl
    refine ⟨iterN 0, by rw [hl]; exact loops_nil, ?_⟩
    refine Eq.trans (show body E109 (iterN 0) Try.f109 [(.v false [(.s s0)])] = Pu.spec_l13Key.b (fun r0 => some ⟨[(.v false [(.b r0)])], []⟩) s0 by kernel_rfl) hN
  intro args r h
  unfold sp109 at h
  split at h
  · injection h with h
    injection h with h1 h2
    subst h2
    exact ⟨by kernel_rfl, fun hf => ⟨of_decide_eq_true (by kernel_rfl), key _⟩⟩
  · cases h

end Go.FG.Se

namespace Go.FG.Se
open Go.Proofs
def E32 : Env := { toTab := T, call := Go.FG.callIn [(109, sp109), (95, sp95)], mode := Go.FG.modeIn md, keep := Go.FG.keepIn [], tk := fun n => Go.FG.memB n [], om := Go.FG.omIn [] }
def sp32 : List Arg → Option (Bool × Res)
  | [(.v true [(.s e0_0), (.i .i64 e0_1), (.i .i64 e0_2), (.s e0_3)])] => some (true, ⟨[(.v false [(.b (Pu.spec_EntryOk.v e0_0 e0_1 e0_2 e0_3))])], []⟩)
  | _ => none
theorem ok32 : FnOk Try.prog T 32 sp32 := by
  refine fn_ok (E := E32) hE (call_cons ok109 (call_cons ok95 call_nil)) hM Try.func32 (code := (Try.f32.body.getD .skip)) (by kernel_rfl) (by kernel_rfl) ?_
  have key : ∀ (e0_0 : ByteArray) (e0_1 : Int) (e0_2 : Int) (e0_3 : ByteArray), ∃ it : It Res, (∀ c ∈ loopsOf (Try.f32.body.getD .skip), LoopOk E32 it c) ∧ body E32 it Try.f32 [(.v true [(.s e0_0), (.i .i64 e0_1), (.i .i64 e0_2), (.s e0_3)])] = some ⟨[(.v false [(.b (Pu.spec_EntryOk.v e0_0 e0_1 e0_2 e0_3))])], []⟩ := by
    intro e0_0 e0_1 e0_2 e0_3 
    have hN := Pu.spec_EntryOk.b_eq (R := Res) (fun r0 => some ⟨[(.v false [(.b r0)])], []⟩) e0_0 e0_1 e0_2 e0_3
    have hl : loopsOf (Try.f32.body.getD .skip) = [] := by kernel_rfl
    refine ⟨iterN 0, by rw [hl]; exact loops_nil, ?_⟩
    refine Eq.trans (show body E32 (iterN 0) Try.f32 [(.v true [(.s e0_0), (.i .i64 e0_1), (.i .i64 e0_2), (.s e0_3)])] = Pu.spec_EntryOk.b (fun r0 => some ⟨[(.v false [(.b r0)])], []⟩) e0_0 e0_1 e0_2 e0_3 by kernel_rfl) hN
  intro args r h
  unfold sp32 at h
  split at h
  · injection h with h
    injection h with h1 h2
    subst h2
    exact ⟨by kernel_rfl, fun hf => ⟨of_decide_eq_true (by kernel_rfl), key _ _ _ _⟩⟩
  · cases h

end Go.FG.Se

namespace Go.FG.Se
open Go.Proofs
def E19 : Env := { toTab := T, call := Go.FG.callIn [(32, sp32), (95, sp95)], mode := Go.FG.modeIn md, keep := Go.FG.keepIn [], tk := fun n => Go.FG.memB n [], om := Go.FG.omIn [] }
def sp19 : List Arg → Option (Bool × Res)
  | [(.v true [(.s e0_0), (.i .i64 e0_1), (.i .i64 e0_2), (.s e0_3)]), (.v false [(.i .i64 now1)])] => some (true, ⟨[(.v false [(.b (Pu.spec_FreshAt.v e0_0 e0_1 e0_2 e0_3 now1))])], []⟩)
  | _ => none
theorem ok19 : FnOk Try.prog T 19 sp19 := by
  refine fn_ok (E := E19) hE (call_cons ok32 (call_cons ok95 call_nil)) hM Try.func19 (code := (Try.f19.body.getD .skip)) (by kernel_rfl) (by kernel_rfl) ?_
  have key : ∀ (e0_0 : ByteArray) (e0_1 : Int) (e0_2 : Int) (e0_3 : ByteArray) (now1 : Int), ∃ it : It Res, (∀ c ∈ loopsOf (Try.f19.body.getD .skip), LoopOk E19 it c) ∧ body E19 it Try.f19 [(.v true [(.s e0_0), (.i .i64 e0_1), (.i .i64 e0_2), (.s e0_3)]), (.v false [(.i .i64 now1)])] = some ⟨[(.v false [(.b (Pu.spec_FreshAt.v e0_0 e0_1 e0_2 e0_3 now1))])], []⟩ := by
    intro e0_0 e0_1 e0_2 e0_3 now1 
    have hN := Pu.spec_FreshAt.b_eq (R := Res) (fun r0 => some ⟨[(.v false [(.b r0)])], []⟩) e0_0 e0_1 e0_2 e0_3 now1
    have hl : loopsOf (Try.f19.body.getD .skip) = [] := by kernel_rfl
    refine ⟨iterN 0, by rw [hl]; exact loops_nil, ?_⟩
    refine Eq.trans (show body E19 (iterN 0) Try.f19 [(.v true [(.s e0_0), (.i .i64 e0_1), (.i .i64 e0_2), (.s e0_3)]), (.v false [(.i .i64 now1)])] = Pu.spec_FreshAt.b (fun r0 => some ⟨[(.v false [(.b r0)])], []⟩) e0_0 e0_1 e0_2 e0_3 now1 by kernel_rfl) hN
  intro args r h
  unfold sp19 at h
  split at h
  · injection h with h
    injection h with h1 h2
    subst h2
    exact ⟨by kernel_rfl, fun hf => ⟨of_decide_eq_true (by kernel_rfl), key _ _ _ _ _⟩⟩
  · cases h

end Go.FG.Se

namespace Go.FG.Se
open Go.Proofs
def E3 : Env := { toTab := T, call := Go.FG.callIn [(15, sp15), (16, sp16), (17, sp17), (18, sp18), (19, sp19)], mode := Go.FG.modeIn md, keep := Go.FG.keepIn [], tk := fun n => Go.FG.memB n [], om := Go.FG.omIn [] }
def sp3 : List Arg → Option (Bool × Res)
  | [(.v false [(.sh 5 code0)])] => some (Pu.laws_FnFresh.c code0, ⟨[(.v false [(.b (Pu.laws_FnFresh.v code0))])], []⟩)
  | _ => none
theorem ok3 : FnOk Try.prog T 3 sp3 := by
  refine fn_ok (E := E3) hE (call_cons ok15 (call_cons ok16 (call_cons ok17 (call_cons ok18 (call_cons ok19 call_nil))))) hM Try.func3 (code := (Try.f3.body.getD .skip)) (by kernel_rfl) (by kernel_rfl) ?_
  have key : ∀ (code0 : Row), Pu.laws_FnFresh.c code0 = true → ∃ it : It Res, (∀ c ∈ loopsOf (Try.f3.body.getD .skip), LoopOk E3 it c) ∧ body E3 it Try.f3 [(.v false [(.sh 5 code0)])] = some ⟨[(.v false [(.b (Pu.laws_FnFresh.v code0))])], []⟩ := by
    intro code0  h1
    have hN := Pu.laws_FnFresh.b_eq (R := Res) (fun r0 => some ⟨[(.v false [(.b r0)])], []⟩) code0 h1
    have hl : loopsOf (Try.f3.body.getD .skip) = [] := by kernel_rfl
    refine ⟨iterN 0, by rw [hl]; exact loops_nil, ?_⟩
    refine Eq.trans (show body E3 (iterN 0) Try.f3 [(.v false [(.sh 5 code0)])] = Pu.laws_FnFresh.b (fun r0 => some ⟨[(.v false [(.b r0)])], []⟩) code0 by kernel_rfl) hN
  intro args r h
  unfold sp3 at h
  split at h
  · injection h with h
    injection h with h1 h2
    subst h2
    exact ⟨by kernel_rfl, fun hf => ⟨of_decide_eq_true (by kernel_rfl), key _ h1⟩⟩
  · cases h

end Go.FG.Se

