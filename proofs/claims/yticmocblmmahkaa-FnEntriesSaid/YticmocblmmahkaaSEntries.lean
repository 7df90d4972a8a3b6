/- Functions of the program: the evaluation of each, and that a call of it does what is told. No condition. -/
import Derived.Test.YticmocblmmahkaaTab
import Derived.Test.YticmocblmmahkaaPEntries
set_option linter.unusedVariables false
set_option linter.unusedSimpArgs false
set_option maxRecDepth 100000
namespace Go.FG.Se
open Go.Proofs
def E15 : Env := { toTab := T, call := Go.FG.callIn [], mode := Go.FG.modeIn md, keep := Go.FG.keepIn [], tk := fun n => Go.FG.memB n [], om := Go.FG.omIn [] }
def sp15 : List Arg → Option (Bool × Res)
  | [(.v false [(.sh 5 code0)])] => some (true, ⟨[(.v false [(.b (Pu.laws_big.v code0))])], []⟩)
  | _ => none
theorem ok15 : FnOk Try.prog T 15 sp15 := by
  refine fn_ok (E := E15) hE call_nil hM Try.func15 (code := (Try.f15.body.getD .skip)) (by kernel_rfl) (by kernel_rfl) ?_
  have key : ∀ (code0 : Row), ∃ it : It Res, (∀ c ∈ loopsOf (Try.f15.body.getD .skip), LoopOk E15 it c) ∧ body E15 it Try.f15 [(.v false [(.sh 5 code0)])] = some ⟨[(.v false [(.b (Pu.laws_big.v code0))])], []⟩ := by
    intro code0 
    have hN := Pu.laws_big.b_eq (R := Res) (fun r0 => some ⟨[(.v false [(.b r0)])], []⟩) code0
    have hl : loopsOf (Try.f15.body.getD .skip) = [] := by kernel_rfl
    refine ⟨iterN 0, by rw [hl]; exact loops_nil, ?_⟩
    refine Eq.trans (show body E15 (iterN 0) Try.f15 [(.v false [(.sh 5 code0)])] = Pu.laws_big.b (fun r0 => some ⟨[(.v false [(.b r0)])], []⟩) code0 by kernel_rfl) hN
  intro args r h
  unfold sp15 at h
  split at h
  · injection h with h
    injection h with h1 h2
    subst h2
    exact ⟨by kernel_rfl, fun hf => ⟨of_decide_eq_true (by kernel_rfl), key _⟩⟩
  · cases h

end Go.FG.Se

namespace Go.FG.Se
open Go.Proofs
def E89 : Env := { toTab := T, call := Go.FG.callIn [], mode := Go.FG.modeIn md, keep := Go.FG.keepIn [(3, [0, 3, 4])], tk := fun n => Go.FG.memB n [], om := Go.FG.omIn [] }
def it89 (N : Nat) {R : Type} : It R := fun rid f cn L K => bif Nat.beq rid 3 then (tell [(0, (.v (.v false [(.sh 5 [])]))), (6, (.v (.v false [(.i .i64 0)]))), (8, (.v (.v false [(.i .i64 0)])))] (fun | [.R x0, .I x1, .I x2] => Pu.spec_l01New.l3 N (fun y0 y1 y2 => (K (.exit 0) (tabl [(0, (.v (.v false [(.sh 5 y0)]))), (6, (.v (.v false [(.i .i64 y1)]))), (8, (.v (.v false [(.i .i64 y2)])))]))) N x0 x1 x2 | _ => none) L (none)) else none
theorem e89_3 {R : Type} (N : Nat) (K : Ex → St → Option R) : ∀ n : Nat, (∀ x0 x1 x2, iter (exc E89 (it89 N) (loopOf Try.f89 3)) (canon (E89.keep 3))  n (tabl [(0, (.v (.v false [(.sh 5 x0)]))), (6, (.v (.v false [(.i .i64 x1)]))), (8, (.v (.v false [(.i .i64 x2)])))]) K = Pu.spec_l01New.l3 N (fun y0 y1 y2 => (K (.exit 0) (tabl [(0, (.v (.v false [(.sh 5 y0)]))), (6, (.v (.v false [(.i .i64 y1)]))), (8, (.v (.v false [(.i .i64 y2)])))]))) n x0 x1 x2) := by
  intro n
  induction n with
  | zero => exact (fun _ _ _ => rfl)
  | succ n ih =>
    have e0 : (fun x0 x1 x2 => iter (exc E89 (it89 N) (loopOf Try.f89 3)) (canon (E89.keep 3))  n (tabl [(0, (.v (.v false [(.sh 5 x0)]))), (6, (.v (.v false [(.i .i64 x1)]))), (8, (.v (.v false [(.i .i64 x2)])))]) K) = Pu.spec_l01New.l3 N (fun y0 y1 y2 => (K (.exit 0) (tabl [(0, (.v (.v false [(.sh 5 y0)]))), (6, (.v (.v false [(.i .i64 y1)]))), (8, (.v (.v false [(.i .i64 y2)])))]))) n := by funext x0 x1 x2; exact ih x0 x1 x2
    intro x0 x1 x2
    have h : ∀ g, exc E89 (it89 N) (loopOf Try.f89 3) (tabl [(0, (.v (.v false [(.sh 5 x0)]))), (6, (.v (.v false [(.i .i64 x1)]))), (8, (.v (.v false [(.i .i64 x2)])))]) (iterK g (canon (E89.keep 3)) K) = Pu.spec_l01New.r3 N (fun x0 x1 x2 => (g (tabl [(0, (.v (.v false [(.sh 5 x0)]))), (6, (.v (.v false [(.i .i64 x1)]))), (8, (.v (.v false [(.i .i64 x2)])))]))) (fun y0 y1 y2 => (K (.exit 0) (tabl [(0, (.v (.v false [(.sh 5 y0)]))), (6, (.v (.v false [(.i .i64 y1)]))), (8, (.v (.v false [(.i .i64 y2)])))]))) x0 x1 x2 := by intro g; kernel_rfl
    refine (h _).trans ?_
    show Pu.spec_l01New.r3 N (fun x0 x1 x2 => (iter (exc E89 (it89 N) (loopOf Try.f89 3)) (canon (E89.keep 3))  n (tabl [(0, (.v (.v false [(.sh 5 x0)]))), (6, (.v (.v false [(.i .i64 x1)]))), (8, (.v (.v false [(.i .i64 x2)])))]) K)) (fun y0 y1 y2 => (K (.exit 0) (tabl [(0, (.v (.v false [(.sh 5 y0)]))), (6, (.v (.v false [(.i .i64 y1)]))), (8, (.v (.v false [(.i .i64 y2)])))]))) x0 x1 x2 = _
    rw [e0]; rfl
theorem lo89_3 {R : Type} (N : Nat) : LoopOk E89 (it89 N (R := R)) (loopOf Try.f89 3) := by
  have e : firstRid (loopOf Try.f89 3) = 3 := by kernel_rfl
  intro L K r
  rw [e]
  intro h
  unfold it89 at h
  simp only [show Nat.beq 3 3 = true from rfl, cond_false, cond_true] at h
  refine tell_ok (Q := fun L => ∃ n, iter (exc E89 (it89 N) (loopOf Try.f89 3)) (canon (E89.keep 3)) n (tabl L) K = some r) h (fun xs h => ?_) (fun h => ?_)
  · (try dsimp only at h)
    split at h
    · exact ⟨N, ((e89_3 N K N) _ _ _).trans h⟩
    · cases h
  cases h
def sp89 : List Arg → Option (Bool × Res)
  | [(.v false [(.sh 5 code0)])] => some (Pu.spec_l01New.c code0, ⟨[(.pt [(.sh 5 ((Pu.spec_l01New.v code0).1)), (.i .i64 ((Pu.spec_l01New.v code0).2.1)), (.i .i64 ((Pu.spec_l01New.v code0).2.2))])], []⟩)
  | _ => none
theorem ok89 : FnOk Try.prog T 89 sp89 := by
  refine fn_ok (E := E89) hE call_nil hM Try.func89 (code := (Try.f89.body.getD .skip)) (by kernel_rfl) (by kernel_rfl) ?_
  have key : ∀ (code0 : Row), Pu.spec_l01New.c code0 = true → ∃ it : It Res, (∀ c ∈ loopsOf (Try.f89.body.getD .skip), LoopOk E89 it c) ∧ body E89 it Try.f89 [(.v false [(.sh 5 code0)])] = some ⟨[(.pt [(.sh 5 ((Pu.spec_l01New.v code0).1)), (.i .i64 ((Pu.spec_l01New.v code0).2.1)), (.i .i64 ((Pu.spec_l01New.v code0).2.2))])], []⟩ := by
    intro code0  h1
    obtain ⟨N, hN⟩ := Pu.spec_l01New.b_eq (R := Res) (fun r0 r1 r2 => some ⟨[(.pt [(.sh 5 r0), (.i .i64 r1), (.i .i64 r2)])], []⟩) code0 h1
    have hl : loopsOf (Try.f89.body.getD .skip) = [loopOf Try.f89 3] := by kernel_rfl
    refine ⟨it89 N, by rw [hl]; exact (loops_cons (lo89_3 N) loops_nil), ?_⟩
    refine Eq.trans (show body E89 (it89 N) Try.f89 [(.v false [(.sh 5 code0)])] = Pu.spec_l01New.b N (fun r0 r1 r2 => some ⟨[(.pt [(.sh 5 r0), (.i .i64 r1), (.i .i64 r2)])], []⟩) code0 by kernel_rfl) hN
  intro args r h
  unfold sp89 at h
  split at h
  · injection h with h
    injection h with h1 h2
    subst h2
    exact ⟨by kernel_rfl, fun hf => ⟨of_decide_eq_true (by kernel_rfl), key _ h1⟩⟩
  · cases h

end Go.FG.Se

namespace Go.FG.Se
open Go.Proofs
def E112 : Env := { toTab := T, call := Go.FG.callIn [], mode := Go.FG.modeIn md, keep := Go.FG.keepIn [], tk := fun n => Go.FG.memB n [], om := Go.FG.omIn [] }
def sp112 : List Arg → Option (Bool × Res)
  | [(.pt [(.sh 5 c0_0), (.i .i64 c0_1), (.i .i64 c0_2)])] => some (Pu.spec_l01Byte.c c0_0 c0_1 c0_2, ⟨[(.v false [(.i .i64 ((Pu.spec_l01Byte.v c0_0 c0_1 c0_2).1))])], [[(.sh 5 ((Pu.spec_l01Byte.v c0_0 c0_1 c0_2).2.1)), (.i .i64 ((Pu.spec_l01Byte.v c0_0 c0_1 c0_2).2.2.1)), (.i .i64 ((Pu.spec_l01Byte.v c0_0 c0_1 c0_2).2.2.2))]]⟩)
  | _ => none
theorem ok112 : FnOk Try.prog T 112 sp112 := by
  refine fn_ok (E := E112) hE call_nil hM Try.func112 (code := (Try.f112.body.getD .skip)) (by kernel_rfl) (by kernel_rfl) ?_
  have key : ∀ (c0_0 : Row) (c0_1 : Int) (c0_2 : Int), Pu.spec_l01Byte.c c0_0 c0_1 c0_2 = true → ∃ it : It Res, (∀ c ∈ loopsOf (Try.f112.body.getD .skip), LoopOk E112 it c) ∧ body E112 it Try.f112 [(.pt [(.sh 5 c0_0), (.i .i64 c0_1), (.i .i64 c0_2)])] = some ⟨[(.v false [(.i .i64 ((Pu.spec_l01Byte.v c0_0 c0_1 c0_2).1))])], [[(.sh 5 ((Pu.spec_l01Byte.v c0_0 c0_1 c0_2).2.1)), (.i .i64 ((Pu.spec_l01Byte.v c0_0 c0_1 c0_2).2.2.1)), (.i .i64 ((Pu.spec_l01Byte.v c0_0 c0_1 c0_2).2.2.2))]]⟩ := by
    intro c0_0 c0_1 c0_2  h1
    have hN := Pu.spec_l01Byte.b_eq (R := Res) (fun r0 r1 r2 r3 => some ⟨[(.v false [(.i .i64 r0)])], [[(.sh 5 r1), (.i .i64 r2), (.i .i64 r3)]]⟩) c0_0 c0_1 c0_2 h1
    have hl : loopsOf (Try.f112.body.getD .skip) = [] := by kernel_rfl
    refine ⟨iterN 0, by rw [hl]; exact loops_nil, ?_⟩
    refine Eq.trans (show body E112 (iterN 0) Try.f112 [(.pt [(.sh 5 c0_0), (.i .i64 c0_1), (.i .i64 c0_2)])] = Pu.spec_l01Byte.b (fun r0 r1 r2 r3 => some ⟨[(.v false [(.i .i64 r0)])], [[(.sh 5 r1), (.i .i64 r2), (.i .i64 r3)]]⟩) c0_0 c0_1 c0_2 by kernel_rfl) hN
  intro args r h
  unfold sp112 at h
  split at h
  · injection h with h
    injection h with h1 h2
    subst h2
    exact ⟨by kernel_rfl, fun hf => ⟨of_decide_eq_true (by kernel_rfl), key _ _ _ h1⟩⟩
  · cases h

end Go.FG.Se

namespace Go.FG.Se
open Go.Proofs
def E105 : Env := { toTab := T, call := Go.FG.callIn [(112, sp112)], mode := Go.FG.modeIn md, keep := Go.FG.keepIn [], tk := fun n => Go.FG.memB n [], om := Go.FG.omIn [] }
def sp105 : List Arg → Option (Bool × Res)
  | [(.pt [(.sh 5 c0_0), (.i .i64 c0_1), (.i .i64 c0_2)]), (.v false [(.i .i64 n1)])] => some (Pu.spec_l01Below.c c0_0 c0_1 c0_2 n1, ⟨[(.v false [(.i .i64 ((Pu.spec_l01Below.v c0_0 c0_1 c0_2 n1).1))])], [[(.sh 5 ((Pu.spec_l01Below.v c0_0 c0_1 c0_2 n1).2.1)), (.i .i64 ((Pu.spec_l01Below.v c0_0 c0_1 c0_2 n1).2.2.1)), (.i .i64 ((Pu.spec_l01Below.v c0_0 c0_1 c0_2 n1).2.2.2))]]⟩)
  | _ => none
theorem ok105 : FnOk Try.prog T 105 sp105 := by
  refine fn_ok (E := E105) hE (call_cons ok112 call_nil) hM Try.func105 (code := (Try.f105.body.getD .skip)) (by kernel_rfl) (by kernel_rfl) ?_
  have key : ∀ (c0_0 : Row) (c0_1 : Int) (c0_2 : Int) (n1 : Int), Pu.spec_l01Below.c c0_0 c0_1 c0_2 n1 = true → ∃ it : It Res, (∀ c ∈ loopsOf (Try.f105.body.getD .skip), LoopOk E105 it c) ∧ body E105 it Try.f105 [(.pt [(.sh 5 c0_0), (.i .i64 c0_1), (.i .i64 c0_2)]), (.v false [(.i .i64 n1)])] = some ⟨[(.v false [(.i .i64 ((Pu.spec_l01Below.v c0_0 c0_1 c0_2 n1).1))])], [[(.sh 5 ((Pu.spec_l01Below.v c0_0 c0_1 c0_2 n1).2.1)), (.i .i64 ((Pu.spec_l01Below.v c0_0 c0_1 c0_2 n1).2.2.1)), (.i .i64 ((Pu.spec_l01Below.v c0_0 c0_1 c0_2 n1).2.2.2))]]⟩ := by
    intro c0_0 c0_1 c0_2 n1  h1
    have hN := Pu.spec_l01Below.b_eq (R := Res) (fun r0 r1 r2 r3 => some ⟨[(.v false [(.i .i64 r0)])], [[(.sh 5 r1), (.i .i64 r2), (.i .i64 r3)]]⟩) c0_0 c0_1 c0_2 n1 h1
    have hl : loopsOf (Try.f105.body.getD .skip) = [] := by kernel_rfl
    refine ⟨iterN 0, by rw [hl]; exact loops_nil, ?_⟩
    refine Eq.trans (show body E105 (iterN 0) Try.f105 [(.pt [(.sh 5 c0_0), (.i .i64 c0_1), (.i .i64 c0_2)]), (.v false [(.i .i64 n1)])] = Pu.spec_l01Below.b (fun r0 r1 r2 r3 => some ⟨[(.v false [(.i .i64 r0)])], [[(.sh 5 r1), (.i .i64 r2), (.i .i64 r3)]]⟩) c0_0 c0_1 c0_2 n1 by kernel_rfl) hN
  intro args r h
  unfold sp105 at h
  split at h
  · injection h with h
    injection h with h1 h2
    subst h2
    exact ⟨by kernel_rfl, fun hf => ⟨of_decide_eq_true (by kernel_rfl), key _ _ _ _ h1⟩⟩
  · cases h

end Go.FG.Se

namespace Go.FG.Se
open Go.Proofs
def E167 : Env := { toTab := T, call := Go.FG.callIn [(105, sp105)], mode := Go.FG.modeIn md, keep := Go.FG.keepIn [], tk := fun n => Go.FG.memB n [], om := Go.FG.omIn [] }
def sp167 : List Arg → Option (Bool × Res)
  | [(.pt [(.sh 5 c0_0), (.i .i64 c0_1), (.i .i64 c0_2)]), (.v false [(.ow 9 true list1)])] => some (Pu.spec_l01Pick.c c0_0 c0_1 c0_2 list1, ⟨[(.v false [(.s ((Pu.spec_l01Pick.v c0_0 c0_1 c0_2 list1).1))])], [[(.sh 5 ((Pu.spec_l01Pick.v c0_0 c0_1 c0_2 list1).2.1)), (.i .i64 ((Pu.spec_l01Pick.v c0_0 c0_1 c0_2 list1).2.2.1)), (.i .i64 ((Pu.spec_l01Pick.v c0_0 c0_1 c0_2 list1).2.2.2.1))], [(.kp ((Pu.spec_l01Pick.v c0_0 c0_1 c0_2 list1).2.2.2.2))]]⟩)
  | _ => none
theorem ok167 : FnOk Try.prog T 167 sp167 := by
  refine fn_ok (E := E167) hE (call_cons ok105 call_nil) hM Try.func167 (code := (Try.f167.body.getD .skip)) (by kernel_rfl) (by kernel_rfl) ?_
  have key : ∀ (c0_0 : Row) (c0_1 : Int) (c0_2 : Int) (list1 : Row), Pu.spec_l01Pick.c c0_0 c0_1 c0_2 list1 = true → ∃ it : It Res, (∀ c ∈ loopsOf (Try.f167.body.getD .skip), LoopOk E167 it c) ∧ body E167 it Try.f167 [(.pt [(.sh 5 c0_0), (.i .i64 c0_1), (.i .i64 c0_2)]), (.v false [(.ow 9 true list1)])] = some ⟨[(.v false [(.s ((Pu.spec_l01Pick.v c0_0 c0_1 c0_2 list1).1))])], [[(.sh 5 ((Pu.spec_l01Pick.v c0_0 c0_1 c0_2 list1).2.1)), (.i .i64 ((Pu.spec_l01Pick.v c0_0 c0_1 c0_2 list1).2.2.1)), (.i .i64 ((Pu.spec_l01Pick.v c0_0 c0_1 c0_2 list1).2.2.2.1))], [(.kp ((Pu.spec_l01Pick.v c0_0 c0_1 c0_2 list1).2.2.2.2))]]⟩ := by
    intro c0_0 c0_1 c0_2 list1  h1
    have hN := Pu.spec_l01Pick.b_eq (R := Res) (fun r0 r1 r2 r3 r4 => some ⟨[(.v false [(.s r0)])], [[(.sh 5 r1), (.i .i64 r2), (.i .i64 r3)], [(.kp r4)]]⟩) c0_0 c0_1 c0_2 list1 h1
    have hl : loopsOf (Try.f167.body.getD .skip) = [] := by kernel_rfl
    refine ⟨iterN 0, by rw [hl]; exact loops_nil, ?_⟩
    refine Eq.trans (show body E167 (iterN 0) Try.f167 [(.pt [(.sh 5 c0_0), (.i .i64 c0_1), (.i .i64 c0_2)]), (.v false [(.ow 9 true list1)])] = Pu.spec_l01Pick.b (fun r0 r1 r2 r3 r4 => some ⟨[(.v false [(.s r0)])], [[(.sh 5 r1), (.i .i64 r2), (.i .i64 r3)], [(.kp r4)]]⟩) c0_0 c0_1 c0_2 list1 by kernel_rfl) hN
  intro args r h
  unfold sp167 at h
  split at h
  · injection h with h
    injection h with h1 h2
    subst h2
    exact ⟨by kernel_rfl, fun hf => ⟨of_decide_eq_true (by kernel_rfl), key _ _ _ _ h1⟩⟩
  · cases h

end Go.FG.Se

namespace Go.FG.Se
open Go.Proofs
def E165 : Env := { toTab := T, call := Go.FG.callIn [(167, sp167)], mode := Go.FG.modeIn md, keep := Go.FG.keepIn [], tk := fun n => Go.FG.memB n [], om := Go.FG.omIn [] }
def sp165 : List Arg → Option (Bool × Res)
  | [(.pt [(.sh 5 c0_0), (.i .i64 c0_1), (.i .i64 c0_2)])] => some (Pu.spec_l12Key.c c0_0 c0_1 c0_2, ⟨[(.v false [(.s ((Pu.spec_l12Key.v c0_0 c0_1 c0_2).1))])], [[(.sh 5 ((Pu.spec_l12Key.v c0_0 c0_1 c0_2).2.1)), (.i .i64 ((Pu.spec_l12Key.v c0_0 c0_1 c0_2).2.2.1)), (.i .i64 ((Pu.spec_l12Key.v c0_0 c0_1 c0_2).2.2.2))]]⟩)
  | _ => none
theorem ok165 : FnOk Try.prog T 165 sp165 := by
  refine fn_ok (E := E165) hE (call_cons ok167 call_nil) hM Try.func165 (code := (Try.f165.body.getD .skip)) (by kernel_rfl) (by kernel_rfl) ?_
  have key : ∀ (c0_0 : Row) (c0_1 : Int) (c0_2 : Int), Pu.spec_l12Key.c c0_0 c0_1 c0_2 = true → ∃ it : It Res, (∀ c ∈ loopsOf (Try.f165.body.getD .skip), LoopOk E165 it c) ∧ body E165 it Try.f165 [(.pt [(.sh 5 c0_0), (.i .i64 c0_1), (.i .i64 c0_2)])] = some ⟨[(.v false [(.s ((Pu.spec_l12Key.v c0_0 c0_1 c0_2).1))])], [[(.sh 5 ((Pu.spec_l12Key.v c0_0 c0_1 c0_2).2.1)), (.i .i64 ((Pu.spec_l12Key.v c0_0 c0_1 c0_2).2.2.1)), (.i .i64 ((Pu.spec_l12Key.v c0_0 c0_1 c0_2).2.2.2))]]⟩ := by
    intro c0_0 c0_1 c0_2  h1
    have hN := Pu.spec_l12Key.b_eq (R := Res) (fun r0 r1 r2 r3 => some ⟨[(.v false [(.s r0)])], [[(.sh 5 r1), (.i .i64 r2), (.i .i64 r3)]]⟩) c0_0 c0_1 c0_2 h1
    have hl : loopsOf (Try.f165.body.getD .skip) = [] := by kernel_rfl
    refine ⟨iterN 0, by rw [hl]; exact loops_nil, ?_⟩
    refine Eq.trans (show body E165 (iterN 0) Try.f165 [(.pt [(.sh 5 c0_0), (.i .i64 c0_1), (.i .i64 c0_2)])] = Pu.spec_l12Key.b (fun r0 r1 r2 r3 => some ⟨[(.v false [(.s r0)])], [[(.sh 5 r1), (.i .i64 r2), (.i .i64 r3)]]⟩) c0_0 c0_1 c0_2 by kernel_rfl) hN
  intro args r h
  unfold sp165 at h
  split at h
  · injection h with h
    injection h with h1 h2
    subst h2
    exact ⟨by kernel_rfl, fun hf => ⟨of_decide_eq_true (by kernel_rfl), key _ _ _ h1⟩⟩
  · cases h

end Go.FG.Se

namespace Go.FG.Se
open Go.Proofs
def E90 : Env := { toTab := T, call := Go.FG.callIn [(105, sp105)], mode := Go.FG.modeIn md, keep := Go.FG.keepIn [], tk := fun n => Go.FG.memB n [], om := Go.FG.omIn [] }
def sp90 : List Arg → Option (Bool × Res)
  | [(.pt [(.sh 5 c0_0), (.i .i64 c0_1), (.i .i64 c0_2)]), (.v false [(.ow 3 true list1)])] => some (Pu.spec_l01PickInt.c c0_0 c0_1 c0_2 list1, ⟨[(.v false [(.i .i64 ((Pu.spec_l01PickInt.v c0_0 c0_1 c0_2 list1).1))])], [[(.sh 5 ((Pu.spec_l01PickInt.v c0_0 c0_1 c0_2 list1).2.1)), (.i .i64 ((Pu.spec_l01PickInt.v c0_0 c0_1 c0_2 list1).2.2.1)), (.i .i64 ((Pu.spec_l01PickInt.v c0_0 c0_1 c0_2 list1).2.2.2.1))], [(.kp ((Pu.spec_l01PickInt.v c0_0 c0_1 c0_2 list1).2.2.2.2))]]⟩)
  | _ => none
theorem ok90 : FnOk Try.prog T 90 sp90 := by
  refine fn_ok (E := E90) hE (call_cons ok105 call_nil) hM Try.func90 (code := (Try.f90.body.getD .skip)) (by kernel_rfl) (by kernel_rfl) ?_
  have key : ∀ (c0_0 : Row) (c0_1 : Int) (c0_2 : Int) (list1 : Row), Pu.spec_l01PickInt.c c0_0 c0_1 c0_2 list1 = true → ∃ it : It Res, (∀ c ∈ loopsOf (Try.f90.body.getD .skip), LoopOk E90 it c) ∧ body E90 it Try.f90 [(.pt [(.sh 5 c0_0), (.i .i64 c0_1), (.i .i64 c0_2)]), (.v false [(.ow 3 true list1)])] = some ⟨[(.v false [(.i .i64 ((Pu.spec_l01PickInt.v c0_0 c0_1 c0_2 list1).1))])], [[(.sh 5 ((Pu.spec_l01PickInt.v c0_0 c0_1 c0_2 list1).2.1)), (.i .i64 ((Pu.spec_l01PickInt.v c0_0 c0_1 c0_2 list1).2.2.1)), (.i .i64 ((Pu.spec_l01PickInt.v c0_0 c0_1 c0_2 list1).2.2.2.1))], [(.kp ((Pu.spec_l01PickInt.v c0_0 c0_1 c0_2 list1).2.2.2.2))]]⟩ := by
    intro c0_0 c0_1 c0_2 list1  h1
    have hN := Pu.spec_l01PickInt.b_eq (R := Res) (fun r0 r1 r2 r3 r4 => some ⟨[(.v false [(.i .i64 r0)])], [[(.sh 5 r1), (.i .i64 r2), (.i .i64 r3)], [(.kp r4)]]⟩) c0_0 c0_1 c0_2 list1 h1
    have hl : loopsOf (Try.f90.body.getD .skip) = [] := by kernel_rfl
    refine ⟨iterN 0, by rw [hl]; exact loops_nil, ?_⟩
    refine Eq.trans (show body E90 (iterN 0) Try.f90 [(.pt [(.sh 5 c0_0), (.i .i64 c0_1), (.i .i64 c0_2)]), (.v false [(.ow 3 true list1)])] = Pu.spec_l01PickInt.b (fun r0 r1 r2 r3 r4 => some ⟨[(.v false [(.i .i64 r0)])], [[(.sh 5 r1), (.i .i64 r2), (.i .i64 r3)], [(.kp r4)]]⟩) c0_0 c0_1 c0_2 list1 by kernel_rfl) hN
  intro args r h
  unfold sp90 at h
  split at h
  · injection h with h
    injection h with h1 h2
    subst h2
    exact ⟨by kernel_rfl, fun hf => ⟨of_decide_eq_true (by kernel_rfl), key _ _ _ _ h1⟩⟩
  · cases h

end Go.FG.Se

namespace Go.FG.Se
open Go.Proofs
def E166 : Env := { toTab := T, call := Go.FG.callIn [(112, sp112)], mode := Go.FG.modeIn md, keep := Go.FG.keepIn [(5, [0, 1, 5, 6])], tk := fun n => Go.FG.memB n [], om := Go.FG.omIn [] }
def it166 (N : Nat) {R : Type} : It R := fun rid f cn L K => bif Nat.beq rid 5 then (tell [(0, (.v (.v false [(.bp 900000900 0)]))), (2, (.v (.v false [(.i .i64 0)]))), (10, (.v (.v false [(.own 1)]))), (12, (.v (.v false [(.i .i64 0)]))), (1800001801, (.o (.box [(.sh 5 []), (.i .i64 0), (.i .i64 0)]))), (3, (.o (.row 5 true [])))] (fun | [.I x0, .I x1, .R x2, .I x3, .I x4, .R x5] => Pu.spec_l01Text.l5 N (fun y0 y1 y2 y3 y4 y5 => (K (.exit 0) (tabl [(0, (.v (.v false [(.bp 900000900 0)]))), (2, (.v (.v false [(.i .i64 y0)]))), (10, (.v (.v false [(.own 1)]))), (12, (.v (.v false [(.i .i64 y1)]))), (1800001801, (.o (.box [(.sh 5 y2), (.i .i64 y3), (.i .i64 y4)]))), (3, (.o (.row 5 true y5)))]))) N x0 x1 x2 x3 x4 x5 | _ => none) L (none)) else none
theorem e166_5 {R : Type} (N : Nat) (K : Ex → St → Option R) : ∀ n : Nat, (∀ x0 x1 x2 x3 x4 x5, iter (exc E166 (it166 N) (loopOf Try.f166 5)) (canon (E166.keep 5))  n (tabl [(0, (.v (.v false [(.bp 900000900 0)]))), (2, (.v (.v false [(.i .i64 x0)]))), (10, (.v (.v false [(.own 1)]))), (12, (.v (.v false [(.i .i64 x1)]))), (1800001801, (.o (.box [(.sh 5 x2), (.i .i64 x3), (.i .i64 x4)]))), (3, (.o (.row 5 true x5)))]) K = Pu.spec_l01Text.l5 N (fun y0 y1 y2 y3 y4 y5 => (K (.exit 0) (tabl [(0, (.v (.v false [(.bp 900000900 0)]))), (2, (.v (.v false [(.i .i64 y0)]))), (10, (.v (.v false [(.own 1)]))), (12, (.v (.v false [(.i .i64 y1)]))), (1800001801, (.o (.box [(.sh 5 y2), (.i .i64 y3), (.i .i64 y4)]))), (3, (.o (.row 5 true y5)))]))) n x0 x1 x2 x3 x4 x5) := by
  intro n
  induction n with
  | zero => exact (fun _ _ _ _ _ _ => rfl)
  | succ n ih =>
    have e0 : (fun x0 x1 x2 x3 x4 x5 => iter (exc E166 (it166 N) (loopOf Try.f166 5)) (canon (E166.keep 5))  n (tabl [(0, (.v (.v false [(.bp 900000900 0)]))), (2, (.v (.v false [(.i .i64 x0)]))), (10, (.v (.v false [(.own 1)]))), (12, (.v (.v false [(.i .i64 x1)]))), (1800001801, (.o (.box [(.sh 5 x2), (.i .i64 x3), (.i .i64 x4)]))), (3, (.o (.row 5 true x5)))]) K) = Pu.spec_l01Text.l5 N (fun y0 y1 y2 y3 y4 y5 => (K (.exit 0) (tabl [(0, (.v (.v false [(.bp 900000900 0)]))), (2, (.v (.v false [(.i .i64 y0)]))), (10, (.v (.v false [(.own 1)]))), (12, (.v (.v false [(.i .i64 y1)]))), (1800001801, (.o (.box [(.sh 5 y2), (.i .i64 y3), (.i .i64 y4)]))), (3, (.o (.row 5 true y5)))]))) n := by funext x0 x1 x2 x3 x4 x5; exact ih x0 x1 x2 x3 x4 x5
    intro x0 x1 x2 x3 x4 x5
    have h : ∀ g, exc E166 (it166 N) (loopOf Try.f166 5) (tabl [(0, (.v (.v false [(.bp 900000900 0)]))), (2, (.v (.v false [(.i .i64 x0)]))), (10, (.v (.v false [(.own 1)]))), (12, (.v (.v false [(.i .i64 x1)]))), (1800001801, (.o (.box [(.sh 5 x2), (.i .i64 x3), (.i .i64 x4)]))), (3, (.o (.row 5 true x5)))]) (iterK g (canon (E166.keep 5)) K) = Pu.spec_l01Text.r5 N (fun x0 x1 x2 x3 x4 x5 => (g (tabl [(0, (.v (.v false [(.bp 900000900 0)]))), (2, (.v (.v false [(.i .i64 x0)]))), (10, (.v (.v false [(.own 1)]))), (12, (.v (.v false [(.i .i64 x1)]))), (1800001801, (.o (.box [(.sh 5 x2), (.i .i64 x3), (.i .i64 x4)]))), (3, (.o (.row 5 true x5)))]))) (fun y0 y1 y2 y3 y4 y5 => (K (.exit 0) (tabl [(0, (.v (.v false [(.bp 900000900 0)]))), (2, (.v (.v false [(.i .i64 y0)]))), (10, (.v (.v false [(.own 1)]))), (12, (.v (.v false [(.i .i64 y1)]))), (1800001801, (.o (.box [(.sh 5 y2), (.i .i64 y3), (.i .i64 y4)]))), (3, (.o (.row 5 true y5)))]))) x0 x1 x2 x3 x4 x5 := by intro g; kernel_rfl
    refine (h _).trans ?_
    show Pu.spec_l01Text.r5 N (fun x0 x1 x2 x3 x4 x5 => (iter (exc E166 (it166 N) (loopOf Try.f166 5)) (canon (E166.keep 5))  n (tabl [(0, (.v (.v false [(.bp 900000900 0)]))), (2, (.v (.v false [(.i .i64 x0)]))), (10, (.v (.v false [(.own 1)]))), (12, (.v (.v false [(.i .i64 x1)]))), (1800001801, (.o (.box [(.sh 5 x2), (.i .i64 x3), (.i .i64 x4)]))), (3, (.o (.row 5 true x5)))]) K)) (fun y0 y1 y2 y3 y4 y5 => (K (.exit 0) (tabl [(0, (.v (.v false [(.bp 900000900 0)]))), (2, (.v (.v false [(.i .i64 y0)]))), (10, (.v (.v false [(.own 1)]))), (12, (.v (.v false [(.i .i64 y1)]))), (1800001801, (.o (.box [(.sh 5 y2), (.i .i64 y3), (.i .i64 y4)]))), (3, (.o (.row 5 true y5)))]))) x0 x1 x2 x3 x4 x5 = _
    rw [e0]; rfl
theorem lo166_5 {R : Type} (N : Nat) : LoopOk E166 (it166 N (R := R)) (loopOf Try.f166 5) := by
  have e : firstRid (loopOf Try.f166 5) = 5 := by kernel_rfl
  intro L K r
  rw [e]
  intro h
  unfold it166 at h
  simp only [show Nat.beq 5 5 = true from rfl, cond_false, cond_true] at h
  refine tell_ok (Q := fun L => ∃ n, iter (exc E166 (it166 N) (loopOf Try.f166 5)) (canon (E166.keep 5)) n (tabl L) K = some r) h (fun xs h => ?_) (fun h => ?_)
  · (try dsimp only at h)
    split at h
    · exact ⟨N, ((e166_5 N K N) _ _ _ _ _ _).trans h⟩
    · cases h
  cases h
def sp166 : List Arg → Option (Bool × Res)
  | [(.pt [(.sh 5 c0_0), (.i .i64 c0_1), (.i .i64 c0_2)]), (.v false [(.i .i64 n1)])] => some (Pu.spec_l01Text.c c0_0 c0_1 c0_2 n1, ⟨[(.v false [(.s ((Pu.spec_l01Text.v c0_0 c0_1 c0_2 n1).1))])], [[(.sh 5 ((Pu.spec_l01Text.v c0_0 c0_1 c0_2 n1).2.1)), (.i .i64 ((Pu.spec_l01Text.v c0_0 c0_1 c0_2 n1).2.2.1)), (.i .i64 ((Pu.spec_l01Text.v c0_0 c0_1 c0_2 n1).2.2.2))]]⟩)
  | _ => none
theorem ok166 : FnOk Try.prog T 166 sp166 := by
  refine fn_ok (E := E166) hE (call_cons ok112 call_nil) hM Try.func166 (code := (Try.f166.body.getD .skip)) (by kernel_rfl) (by kernel_rfl) ?_
  have key : ∀ (c0_0 : Row) (c0_1 : Int) (c0_2 : Int) (n1 : Int), Pu.spec_l01Text.c c0_0 c0_1 c0_2 n1 = true → ∃ it : It Res, (∀ c ∈ loopsOf (Try.f166.body.getD .skip), LoopOk E166 it c) ∧ body E166 it Try.f166 [(.pt [(.sh 5 c0_0), (.i .i64 c0_1), (.i .i64 c0_2)]), (.v false [(.i .i64 n1)])] = some ⟨[(.v false [(.s ((Pu.spec_l01Text.v c0_0 c0_1 c0_2 n1).1))])], [[(.sh 5 ((Pu.spec_l01Text.v c0_0 c0_1 c0_2 n1).2.1)), (.i .i64 ((Pu.spec_l01Text.v c0_0 c0_1 c0_2 n1).2.2.1)), (.i .i64 ((Pu.spec_l01Text.v c0_0 c0_1 c0_2 n1).2.2.2))]]⟩ := by
    intro c0_0 c0_1 c0_2 n1  h1
    obtain ⟨N, hN⟩ := Pu.spec_l01Text.b_eq (R := Res) (fun r0 r1 r2 r3 => some ⟨[(.v false [(.s r0)])], [[(.sh 5 r1), (.i .i64 r2), (.i .i64 r3)]]⟩) c0_0 c0_1 c0_2 n1 h1
    have hl : loopsOf (Try.f166.body.getD .skip) = [loopOf Try.f166 5] := by kernel_rfl
    refine ⟨it166 N, by rw [hl]; exact (loops_cons (lo166_5 N) loops_nil), ?_⟩
    refine Eq.trans (show body E166 (it166 N) Try.f166 [(.pt [(.sh 5 c0_0), (.i .i64 c0_1), (.i .i64 c0_2)]), (.v false [(.i .i64 n1)])] = Pu.spec_l01Text.b N (fun r0 r1 r2 r3 => some ⟨[(.v false [(.s r0)])], [[(.sh 5 r1), (.i .i64 r2), (.i .i64 r3)]]⟩) c0_0 c0_1 c0_2 n1 by kernel_rfl) hN
  intro args r h
  unfold sp166 at h
  split at h
  · injection h with h
    injection h with h1 h2
    subst h2
    exact ⟨by kernel_rfl, fun hf => ⟨of_decide_eq_true (by kernel_rfl), key _ _ _ _ h1⟩⟩
  · cases h

end Go.FG.Se

namespace Go.FG.Se
open Go.Proofs
def E88 : Env := { toTab := T, call := Go.FG.callIn [(165, sp165), (105, sp105), (90, sp90), (166, sp166)], mode := Go.FG.modeIn md, keep := Go.FG.keepIn [], tk := fun n => Go.FG.memB n [], om := Go.FG.omIn [] }
def sp88 : List Arg → Option (Bool × Res)
  | [(.pt [(.sh 5 c0_0), (.i .i64 c0_1), (.i .i64 c0_2)])] => some (Pu.spec_l15Entry.c c0_0 c0_1 c0_2, ⟨[(.v true [(.s ((Pu.spec_l15Entry.v c0_0 c0_1 c0_2).1)), (.i .i64 ((Pu.spec_l15Entry.v c0_0 c0_1 c0_2).2.1)), (.i .i64 ((Pu.spec_l15Entry.v c0_0 c0_1 c0_2).2.2.1)), (.s ((Pu.spec_l15Entry.v c0_0 c0_1 c0_2).2.2.2.1))])], [[(.sh 5 ((Pu.spec_l15Entry.v c0_0 c0_1 c0_2).2.2.2.2.1)), (.i .i64 ((Pu.spec_l15Entry.v c0_0 c0_1 c0_2).2.2.2.2.2.1)), (.i .i64 ((Pu.spec_l15Entry.v c0_0 c0_1 c0_2).2.2.2.2.2.2))]]⟩)
  | _ => none
theorem ok88 : FnOk Try.prog T 88 sp88 := by
  refine fn_ok (E := E88) hE (call_cons ok165 (call_cons ok105 (call_cons ok90 (call_cons ok166 call_nil)))) hM Try.func88 (code := (Try.f88.body.getD .skip)) (by kernel_rfl) (by kernel_rfl) ?_
  have key : ∀ (c0_0 : Row) (c0_1 : Int) (c0_2 : Int), Pu.spec_l15Entry.c c0_0 c0_1 c0_2 = true → ∃ it : It Res, (∀ c ∈ loopsOf (Try.f88.body.getD .skip), LoopOk E88 it c) ∧ body E88 it Try.f88 [(.pt [(.sh 5 c0_0), (.i .i64 c0_1), (.i .i64 c0_2)])] = some ⟨[(.v true [(.s ((Pu.spec_l15Entry.v c0_0 c0_1 c0_2).1)), (.i .i64 ((Pu.spec_l15Entry.v c0_0 c0_1 c0_2).2.1)), (.i .i64 ((Pu.spec_l15Entry.v c0_0 c0_1 c0_2).2.2.1)), (.s ((Pu.spec_l15Entry.v c0_0 c0_1 c0_2).2.2.2.1))])], [[(.sh 5 ((Pu.spec_l15Entry.v c0_0 c0_1 c0_2).2.2.2.2.1)), (.i .i64 ((Pu.spec_l15Entry.v c0_0 c0_1 c0_2).2.2.2.2.2.1)), (.i .i64 ((Pu.spec_l15Entry.v c0_0 c0_1 c0_2).2.2.2.2.2.2))]]⟩ := by
    intro c0_0 c0_1 c0_2  h1
    have hN := Pu.spec_l15Entry.b_eq (R := Res) (fun r0 r1 r2 r3 r4 r5 r6 => some ⟨[(.v true [(.s r0), (.i .i64 r1), (.i .i64 r2), (.s r3)])], [[(.sh 5 r4), (.i .i64 r5), (.i .i64 r6)]]⟩) c0_0 c0_1 c0_2 h1
    have hl : loopsOf (Try.f88.body.getD .skip) = [] := by kernel_rfl
    refine ⟨iterN 0, by rw [hl]; exact loops_nil, ?_⟩
    refine Eq.trans (show body E88 (iterN 0) Try.f88 [(.pt [(.sh 5 c0_0), (.i .i64 c0_1), (.i .i64 c0_2)])] = Pu.spec_l15Entry.b (fun r0 r1 r2 r3 r4 r5 r6 => some ⟨[(.v true [(.s r0), (.i .i64 r1), (.i .i64 r2), (.s r3)])], [[(.sh 5 r4), (.i .i64 r5), (.i .i64 r6)]]⟩) c0_0 c0_1 c0_2 by kernel_rfl) hN
  intro args r h
  unfold sp88 at h
  split at h
  · injection h with h
    injection h with h1 h2
    subst h2
    exact ⟨by kernel_rfl, fun hf => ⟨of_decide_eq_true (by kernel_rfl), key _ _ _ h1⟩⟩
  · cases h

end Go.FG.Se

namespace Go.FG.Se
open Go.Proofs
def E120 : Env := { toTab := T, call := Go.FG.callIn [], mode := Go.FG.modeIn md, keep := Go.FG.keepIn [(3, [0, 1, 5, 6])], tk := fun n => Go.FG.memB n [], om := Go.FG.omIn [] }
def it120 (N : Nat) {R : Type} : It R := fun rid f cn L K => bif Nat.beq rid 3 then (tell [(0, (.v (.v false [(.i .i64 0)]))), (2, (.v (.v false [(.i .u8 0)]))), (10, (.v (.v false [(.own 0)]))), (12, (.v (.v false [(.i .i64 0)]))), (1, (.o (.row 5 true [])))] (fun | [.I x0, .I x1, .I x2, .R x3] => Pu.spec_l01Long.l3 N (fun y0 y1 y2 y3 => (K (.exit 0) (tabl [(0, (.v (.v false [(.i .i64 y0)]))), (2, (.v (.v false [(.i .u8 y1)]))), (10, (.v (.v false [(.own 0)]))), (12, (.v (.v false [(.i .i64 y2)]))), (1, (.o (.row 5 true y3)))]))) N x0 x1 x2 x3 | _ => none) L (none)) else none
theorem e120_3 {R : Type} (N : Nat) (K : Ex → St → Option R) : ∀ n : Nat, (∀ x0 x1 x2 x3, iter (exc E120 (it120 N) (loopOf Try.f120 3)) (canon (E120.keep 3))  n (tabl [(0, (.v (.v false [(.i .i64 x0)]))), (2, (.v (.v false [(.i .u8 x1)]))), (10, (.v (.v false [(.own 0)]))), (12, (.v (.v false [(.i .i64 x2)]))), (1, (.o (.row 5 true x3)))]) K = Pu.spec_l01Long.l3 N (fun y0 y1 y2 y3 => (K (.exit 0) (tabl [(0, (.v (.v false [(.i .i64 y0)]))), (2, (.v (.v false [(.i .u8 y1)]))), (10, (.v (.v false [(.own 0)]))), (12, (.v (.v false [(.i .i64 y2)]))), (1, (.o (.row 5 true y3)))]))) n x0 x1 x2 x3) := by
  intro n
  induction n with
  | zero => exact (fun _ _ _ _ => rfl)
  | succ n ih =>
    have e0 : (fun x0 x1 x2 x3 => iter (exc E120 (it120 N) (loopOf Try.f120 3)) (canon (E120.keep 3))  n (tabl [(0, (.v (.v false [(.i .i64 x0)]))), (2, (.v (.v false [(.i .u8 x1)]))), (10, (.v (.v false [(.own 0)]))), (12, (.v (.v false [(.i .i64 x2)]))), (1, (.o (.row 5 true x3)))]) K) = Pu.spec_l01Long.l3 N (fun y0 y1 y2 y3 => (K (.exit 0) (tabl [(0, (.v (.v false [(.i .i64 y0)]))), (2, (.v (.v false [(.i .u8 y1)]))), (10, (.v (.v false [(.own 0)]))), (12, (.v (.v false [(.i .i64 y2)]))), (1, (.o (.row 5 true y3)))]))) n := by funext x0 x1 x2 x3; exact ih x0 x1 x2 x3
    intro x0 x1 x2 x3
    have h : ∀ g, exc E120 (it120 N) (loopOf Try.f120 3) (tabl [(0, (.v (.v false [(.i .i64 x0)]))), (2, (.v (.v false [(.i .u8 x1)]))), (10, (.v (.v false [(.own 0)]))), (12, (.v (.v false [(.i .i64 x2)]))), (1, (.o (.row 5 true x3)))]) (iterK g (canon (E120.keep 3)) K) = Pu.spec_l01Long.r3 N (fun x0 x1 x2 x3 => (g (tabl [(0, (.v (.v false [(.i .i64 x0)]))), (2, (.v (.v false [(.i .u8 x1)]))), (10, (.v (.v false [(.own 0)]))), (12, (.v (.v false [(.i .i64 x2)]))), (1, (.o (.row 5 true x3)))]))) (fun y0 y1 y2 y3 => (K (.exit 0) (tabl [(0, (.v (.v false [(.i .i64 y0)]))), (2, (.v (.v false [(.i .u8 y1)]))), (10, (.v (.v false [(.own 0)]))), (12, (.v (.v false [(.i .i64 y2)]))), (1, (.o (.row 5 true y3)))]))) x0 x1 x2 x3 := by intro g; kernel_rfl
    refine (h _).trans ?_
    show Pu.spec_l01Long.r3 N (fun x0 x1 x2 x3 => (iter (exc E120 (it120 N) (loopOf Try.f120 3)) (canon (E120.keep 3))  n (tabl [(0, (.v (.v false [(.i .i64 x0)]))), (2, (.v (.v false [(.i .u8 x1)]))), (10, (.v (.v false [(.own 0)]))), (12, (.v (.v false [(.i .i64 x2)]))), (1, (.o (.row 5 true x3)))]) K)) (fun y0 y1 y2 y3 => (K (.exit 0) (tabl [(0, (.v (.v false [(.i .i64 y0)]))), (2, (.v (.v false [(.i .u8 y1)]))), (10, (.v (.v false [(.own 0)]))), (12, (.v (.v false [(.i .i64 y2)]))), (1, (.o (.row 5 true y3)))]))) x0 x1 x2 x3 = _
    rw [e0]; rfl
theorem lo120_3 {R : Type} (N : Nat) : LoopOk E120 (it120 N (R := R)) (loopOf Try.f120 3) := by
  have e : firstRid (loopOf Try.f120 3) = 3 := by kernel_rfl
  intro L K r
  rw [e]
  intro h
  unfold it120 at h
  simp only [show Nat.beq 3 3 = true from rfl, cond_false, cond_true] at h
  refine tell_ok (Q := fun L => ∃ n, iter (exc E120 (it120 N) (loopOf Try.f120 3)) (canon (E120.keep 3)) n (tabl L) K = some r) h (fun xs h => ?_) (fun h => ?_)
  · (try dsimp only at h)
    split at h
    · exact ⟨N, ((e120_3 N K N) _ _ _ _).trans h⟩
    · cases h
  cases h
def sp120 : List Arg → Option (Bool × Res)
  | [(.v false [(.i .i64 n0)]), (.v false [(.i .u8 x1)])] => some (Pu.spec_l01Long.c n0 x1, ⟨[(.v false [(.s (Pu.spec_l01Long.v n0 x1))])], []⟩)
  | _ => none
theorem ok120 : FnOk Try.prog T 120 sp120 := by
  refine fn_ok (E := E120) hE call_nil hM Try.func120 (code := (Try.f120.body.getD .skip)) (by kernel_rfl) (by kernel_rfl) ?_
  have key : ∀ (n0 : Int) (x1 : Int), Pu.spec_l01Long.c n0 x1 = true → ∃ it : It Res, (∀ c ∈ loopsOf (Try.f120.body.getD .skip), LoopOk E120 it c) ∧ body E120 it Try.f120 [(.v false [(.i .i64 n0)]), (.v false [(.i .u8 x1)])] = some ⟨[(.v false [(.s (Pu.spec_l01Long.v n0 x1))])], []⟩ := by
    intro n0 x1  h1
    obtain ⟨N, hN⟩ := Pu.spec_l01Long.b_eq (R := Res) (fun r0 => some ⟨[(.v false [(.s r0)])], []⟩) n0 x1 h1
    have hl : loopsOf (Try.f120.body.getD .skip) = [loopOf Try.f120 3] := by kernel_rfl
    refine ⟨it120 N, by rw [hl]; exact (loops_cons (lo120_3 N) loops_nil), ?_⟩
    refine Eq.trans (show body E120 (it120 N) Try.f120 [(.v false [(.i .i64 n0)]), (.v false [(.i .u8 x1)])] = Pu.spec_l01Long.b N (fun r0 => some ⟨[(.v false [(.s r0)])], []⟩) n0 x1 by kernel_rfl) hN
  intro args r h
  unfold sp120 at h
  split at h
  · injection h with h
    injection h with h1 h2
    subst h2
    exact ⟨by kernel_rfl, fun hf => ⟨of_decide_eq_true (by kernel_rfl), key _ _ h1⟩⟩
  · cases h

end Go.FG.Se

namespace Go.FG.Se
open Go.Proofs
def E91 : Env := { toTab := T, call := Go.FG.callIn [(88, sp88), (105, sp105), (167, sp167), (90, sp90), (120, sp120)], mode := Go.FG.modeIn md, keep := Go.FG.keepIn [], tk := fun n => Go.FG.memB n [], om := Go.FG.omIn [] }
def sp91 : List Arg → Option (Bool × Res)
  | [(.pt [(.sh 5 c0_0), (.i .i64 c0_1), (.i .i64 c0_2)])] => some (Pu.spec_l15Any.c c0_0 c0_1 c0_2, ⟨[(.v true [(.s ((Pu.spec_l15Any.v c0_0 c0_1 c0_2).1)), (.i .i64 ((Pu.spec_l15Any.v c0_0 c0_1 c0_2).2.1)), (.i .i64 ((Pu.spec_l15Any.v c0_0 c0_1 c0_2).2.2.1)), (.s ((Pu.spec_l15Any.v c0_0 c0_1 c0_2).2.2.2.1))])], [[(.sh 5 ((Pu.spec_l15Any.v c0_0 c0_1 c0_2).2.2.2.2.1)), (.i .i64 ((Pu.spec_l15Any.v c0_0 c0_1 c0_2).2.2.2.2.2.1)), (.i .i64 ((Pu.spec_l15Any.v c0_0 c0_1 c0_2).2.2.2.2.2.2))]]⟩)
  | _ => none
theorem ok91 : FnOk Try.prog T 91 sp91 := by
  refine fn_ok (E := E91) hE (call_cons ok88 (call_cons ok105 (call_cons ok167 (call_cons ok90 (call_cons ok120 call_nil))))) hM Try.func91 (code := (Try.f91.body.getD .skip)) (by kernel_rfl) (by kernel_rfl) ?_
  have key : ∀ (c0_0 : Row) (c0_1 : Int) (c0_2 : Int), Pu.spec_l15Any.c c0_0 c0_1 c0_2 = true → ∃ it : It Res, (∀ c ∈ loopsOf (Try.f91.body.getD .skip), LoopOk E91 it c) ∧ body E91 it Try.f91 [(.pt [(.sh 5 c0_0), (.i .i64 c0_1), (.i .i64 c0_2)])] = some ⟨[(.v true [(.s ((Pu.spec_l15Any.v c0_0 c0_1 c0_2).1)), (.i .i64 ((Pu.spec_l15Any.v c0_0 c0_1 c0_2).2.1)), (.i .i64 ((Pu.spec_l15Any.v c0_0 c0_1 c0_2).2.2.1)), (.s ((Pu.spec_l15Any.v c0_0 c0_1 c0_2).2.2.2.1))])], [[(.sh 5 ((Pu.spec_l15Any.v c0_0 c0_1 c0_2).2.2.2.2.1)), (.i .i64 ((Pu.spec_l15Any.v c0_0 c0_1 c0_2).2.2.2.2.2.1)), (.i .i64 ((Pu.spec_l15Any.v c0_0 c0_1 c0_2).2.2.2.2.2.2))]]⟩ := by
    intro c0_0 c0_1 c0_2  h1
    have hN := Pu.spec_l15Any.b_eq (R := Res) (fun r0 r1 r2 r3 r4 r5 r6 => some ⟨[(.v true [(.s r0), (.i .i64 r1), (.i .i64 r2), (.s r3)])], [[(.sh 5 r4), (.i .i64 r5), (.i .i64 r6)]]⟩) c0_0 c0_1 c0_2 h1
    have hl : loopsOf (Try.f91.body.getD .skip) = [] := by kernel_rfl
    refine ⟨iterN 0, by rw [hl]; exact loops_nil, ?_⟩
    refine Eq.trans (show body E91 (iterN 0) Try.f91 [(.pt [(.sh 5 c0_0), (.i .i64 c0_1), (.i .i64 c0_2)])] = Pu.spec_l15Any.b (fun r0 r1 r2 r3 r4 r5 r6 => some ⟨[(.v true [(.s r0), (.i .i64 r1), (.i .i64 r2), (.s r3)])], [[(.sh 5 r4), (.i .i64 r5), (.i .i64 r6)]]⟩) c0_0 c0_1 c0_2 by kernel_rfl) hN
  intro args r h
  unfold sp91 at h
  split at h
  · injection h with h
    injection h with h1 h2
    subst h2
    exact ⟨by kernel_rfl, fun hf => ⟨of_decide_eq_true (by kernel_rfl), key _ _ _ h1⟩⟩
  · cases h

end Go.FG.Se

namespace Go.FG.Se
open Go.Proofs
def E27 : Env := { toTab := T, call := Go.FG.callIn [(89, sp89), (91, sp91)], mode := Go.FG.modeIn md, keep := Go.FG.keepIn [], tk := fun n => Go.FG.memB n [], om := Go.FG.omIn [] }
def sp27 : List Arg → Option (Bool × Res)
  | [(.v false [(.sh 5 code0)])] => some (Pu.spec_DrawEntryText.c code0, ⟨[(.v true [(.s ((Pu.spec_DrawEntryText.v code0).1)), (.i .i64 ((Pu.spec_DrawEntryText.v code0).2.1)), (.i .i64 ((Pu.spec_DrawEntryText.v code0).2.2.1)), (.s ((Pu.spec_DrawEntryText.v code0).2.2.2))])], []⟩)
  | _ => none
theorem ok27 : FnOk Try.prog T 27 sp27 := by
  refine fn_ok (E := E27) hE (call_cons ok89 (call_cons ok91 call_nil)) hM Try.func27 (code := (Try.f27.body.getD .skip)) (by kernel_rfl) (by kernel_rfl) ?_
  have key : ∀ (code0 : Row), Pu.spec_DrawEntryText.c code0 = true → ∃ it : It Res, (∀ c ∈ loopsOf (Try.f27.body.getD .skip), LoopOk E27 it c) ∧ body E27 it Try.f27 [(.v false [(.sh 5 code0)])] = some ⟨[(.v true [(.s ((Pu.spec_DrawEntryText.v code0).1)), (.i .i64 ((Pu.spec_DrawEntryText.v code0).2.1)), (.i .i64 ((Pu.spec_DrawEntryText.v code0).2.2.1)), (.s ((Pu.spec_DrawEntryText.v code0).2.2.2))])], []⟩ := by
    intro code0  h1
    have hN := Pu.spec_DrawEntryText.b_eq (R := Res) (fun r0 r1 r2 r3 => some ⟨[(.v true [(.s r0), (.i .i64 r1), (.i .i64 r2), (.s r3)])], []⟩) code0 h1
    have hl : loopsOf (Try.f27.body.getD .skip) = [] := by kernel_rfl
    refine ⟨iterN 0, by rw [hl]; exact loops_nil, ?_⟩
    refine Eq.trans (show body E27 (iterN 0) Try.f27 [(.v false [(.sh 5 code0)])] = Pu.spec_DrawEntryText.b (fun r0 r1 r2 r3 => some ⟨[(.v true [(.s r0), (.i .i64 r1), (.i .i64 r2), (.s r3)])], []⟩) code0 by kernel_rfl) hN
  intro args r h
  unfold sp27 at h
  split at h
  · injection h with h
    injection h with h1 h2
    subst h2
    exact ⟨by kernel_rfl, fun hf => ⟨of_decide_eq_true (by kernel_rfl), key _ h1⟩⟩
  · cases h

end Go.FG.Se

namespace Go.FG.Se
open Go.Proofs
def E94 : Env := { toTab := T, call := Go.FG.callIn [], mode := Go.FG.modeIn md, keep := Go.FG.keepIn [], tk := fun n => Go.FG.memB n [], om := Go.FG.omIn [] }
def sp94 : List Arg → Option (Bool × Res)
  | [(.v false [(.i .i64 n0)]), (.v false [(.i .i64 low1)]), (.v false [(.i .i64 high2)])] => some (true, ⟨[(.v false [(.b (Pu.impl_within.v n0 low1 high2))])], []⟩)
  | _ => none
theorem ok94 : FnOk Try.prog T 94 sp94 := by
  refine fn_ok (E := E94) hE call_nil hM Try.func94 (code := (Try.f94.body.getD .skip)) (by kernel_rfl) (by kernel_rfl) ?_
  have key : ∀ (n0 : Int) (low1 : Int) (high2 : Int), ∃ it : It Res, (∀ c ∈ loopsOf (Try.f94.body.getD .skip), LoopOk E94 it c) ∧ body E94 it Try.f94 [(.v false [(.i .i64 n0)]), (.v false [(.i .i64 low1)]), (.v false [(.i .i64 high2)])] = some ⟨[(.v false [(.b (Pu.impl_within.v n0 low1 high2))])], []⟩ := by
    intro n0 low1 high2 
    have hN := Pu.impl_within.b_eq (R := Res) (fun r0 => some ⟨[(.v false [(.b r0)])], []⟩) n0 low1 high2
    have hl : loopsOf (Try.f94.body.getD .skip) = [] := by kernel_rfl
    refine ⟨iterN 0, by rw [hl]; exact loops_nil, ?_⟩
    refine Eq.trans (show body E94 (iterN 0) Try.f94 [(.v false [(.i .i64 n0)]), (.v false [(.i .i64 low1)]), (.v false [(.i .i64 high2)])] = Pu.impl_within.b (fun r0 => some ⟨[(.v false [(.b r0)])], []⟩) n0 low1 high2 by kernel_rfl) hN
  intro args r h
  unfold sp94 at h
  split at h
  · injection h with h
    injection h with h1 h2
    subst h2
    exact ⟨by kernel_rfl, fun hf => ⟨of_decide_eq_true (by kernel_rfl), key _ _ _⟩⟩
  · cases h

end Go.FG.Se

namespace Go.FG.Se
open Go.Proofs
def E110 : Env := { toTab := T, call := Go.FG.callIn [(94, sp94)], mode := Go.FG.modeIn md, keep := Go.FG.keepIn [], tk := fun n => Go.FG.memB n [], om := Go.FG.omIn [] }
def sp110 : List Arg → Option (Bool × Res)
  | [(.v false [(.s key0)])] => some (true, ⟨[(.v false [(.b (Pu.impl_isKey.v key0))])], []⟩)
  | _ => none
theorem ok110 : FnOk Try.prog T 110 sp110 := by
  refine fn_ok (E := E110) hE (call_cons ok94 call_nil) hM Try.func110 (code := (Try.f110.body.getD .skip)) (by kernel_rfl) (by kernel_rfl) ?_
  have key : ∀ (key0 : ByteArray), ∃ it : It Res, (∀ c ∈ loopsOf (Try.f110.body.getD .skip), LoopOk E110 it c) ∧ body E110 it Try.f110 [(.v false [(.s key0)])] = some ⟨[(.v false [(.b (Pu.impl_isKey.v key0))])], []⟩ := by
    intro key0 
    have hN := Pu.impl_isKey.b_eq (R := Res) (fun r0 => some ⟨[(.v false [(.b r0)])], []⟩) key0
    have hl : loopsOf (Try.f110.body.getD .skip) = [] := by kernel_rfl
    refine ⟨iterN 0, by rw [hl]; exact loops_nil, ?_⟩
    refine Eq.trans (show body E110 (iterN 0) Try.f110 [(.v false [(.s key0)])] = Pu.impl_isKey.b (fun r0 => some ⟨[(.v false [(.b r0)])], []⟩) key0 by kernel_rfl) hN
  intro args r h
  unfold sp110 at h
  split at h
  · injection h with h
    injection h with h1 h2
    subst h2
    exact ⟨by kernel_rfl, fun hf => ⟨of_decide_eq_true (by kernel_rfl), key _⟩⟩
  · cases h

end Go.FG.Se

namespace Go.FG.Se
open Go.Proofs
def E93 : Env := { toTab := T, call := Go.FG.callIn [(94, sp94)], mode := Go.FG.modeIn md, keep := Go.FG.keepIn [], tk := fun n => Go.FG.memB n [], om := Go.FG.omIn [] }
def sp93 : List Arg → Option (Bool × Res)
  | [(.v false [(.i .i64 n0)])] => some (true, ⟨[(.v false [(.b (Pu.impl_isNumber.v n0))])], []⟩)
  | _ => none
theorem ok93 : FnOk Try.prog T 93 sp93 := by
  refine fn_ok (E := E93) hE (call_cons ok94 call_nil) hM Try.func93 (code := (Try.f93.body.getD .skip)) (by kernel_rfl) (by kernel_rfl) ?_
  have key : ∀ (n0 : Int), ∃ it : It Res, (∀ c ∈ loopsOf (Try.f93.body.getD .skip), LoopOk E93 it c) ∧ body E93 it Try.f93 [(.v false [(.i .i64 n0)])] = some ⟨[(.v false [(.b (Pu.impl_isNumber.v n0))])], []⟩ := by
    intro n0 
    have hN := Pu.impl_isNumber.b_eq (R := Res) (fun r0 => some ⟨[(.v false [(.b r0)])], []⟩) n0
    have hl : loopsOf (Try.f93.body.getD .skip) = [] := by kernel_rfl
    refine ⟨iterN 0, by rw [hl]; exact loops_nil, ?_⟩
    refine Eq.trans (show body E93 (iterN 0) Try.f93 [(.v false [(.i .i64 n0)])] = Pu.impl_isNumber.b (fun r0 => some ⟨[(.v false [(.b r0)])], []⟩) n0 by kernel_rfl) hN
  intro args r h
  unfold sp93 at h
  split at h
  · injection h with h
    injection h with h1 h2
    subst h2
    exact ⟨by kernel_rfl, fun hf => ⟨of_decide_eq_true (by kernel_rfl), key _⟩⟩
  · cases h

end Go.FG.Se

namespace Go.FG.Se
open Go.Proofs
def E33 : Env := { toTab := T, call := Go.FG.callIn [(110, sp110), (93, sp93), (94, sp94)], mode := Go.FG.modeIn md, keep := Go.FG.keepIn [], tk := fun n => Go.FG.memB n [], om := Go.FG.omIn [] }
def sp33 : List Arg → Option (Bool × Res)
  | [(.v true [(.s e0_0), (.i .i64 e0_1), (.i .i64 e0_2), (.s e0_3)])] => some (true, ⟨[(.v false [(.b (Pu.impl_EntryOk.v e0_0 e0_1 e0_2 e0_3))])], []⟩)
  | _ => none
theorem ok33 : FnOk Try.prog T 33 sp33 := by
  refine fn_ok (E := E33) hE (call_cons ok110 (call_cons ok93 (call_cons ok94 call_nil))) hM Try.func33 (code := (Try.f33.body.getD .skip)) (by kernel_rfl) (by kernel_rfl) ?_
  have key : ∀ (e0_0 : ByteArray) (e0_1 : Int) (e0_2 : Int) (e0_3 : ByteArray), ∃ it : It Res, (∀ c ∈ loopsOf (Try.f33.body.getD .skip), LoopOk E33 it c) ∧ body E33 it Try.f33 [(.v true [(.s e0_0), (.i .i64 e0_1), (.i .i64 e0_2), (.s e0_3)])] = some ⟨[(.v false [(.b (Pu.impl_EntryOk.v e0_0 e0_1 e0_2 e0_3))])], []⟩ := by
    intro e0_0 e0_1 e0_2 e0_3 
    have hN := Pu.impl_EntryOk.b_eq (R := Res) (fun r0 => some ⟨[(.v false [(.b r0)])], []⟩) e0_0 e0_1 e0_2 e0_3
    have hl : loopsOf (Try.f33.body.getD .skip) = [] := by kernel_rfl
    refine ⟨iterN 0, by rw [hl]; exact loops_nil, ?_⟩
    refine Eq.trans (show body E33 (iterN 0) Try.f33 [(.v true [(.s e0_0), (.i .i64 e0_1), (.i .i64 e0_2), (.s e0_3)])] = Pu.impl_EntryOk.b (fun r0 => some ⟨[(.v false [(.b r0)])], []⟩) e0_0 e0_1 e0_2 e0_3 by kernel_rfl) hN
  intro args r h
  unfold sp33 at h
  split at h
  · injection h with h
    injection h with h1 h2
    subst h2
    exact ⟨by kernel_rfl, fun hf => ⟨of_decide_eq_true (by kernel_rfl), key _ _ _ _⟩⟩
  · cases h

end Go.FG.Se

namespace Go.FG.Se
open Go.Proofs
def E102 : Env := { toTab := T, call := Go.FG.callIn [(94, sp94)], mode := Go.FG.modeIn md, keep := Go.FG.keepIn [(4, [0, 4])], tk := fun n => Go.FG.memB n [], om := Go.FG.omIn [] }
def it102 (N : Nat) {R : Type} : It R := fun rid f cn L K => bif Nat.beq rid 4 then (tell [(0, (.v (.v false [(.i .i64 0)]))), (8, (.v (.v false [(.own 0)]))), (1, (.o (.row 5 true [])))] (fun | [.I x0, .R x1] => Pu.impl_VarText.l4 N (fun y0 y1 => (K (.exit 0) (tabl [(0, (.v (.v false [(.i .i64 y0)]))), (8, (.v (.v false [(.own 0)]))), (1, (.o (.row 5 true y1)))]))) N x0 x1 | _ => none) L (none)) else none
theorem e102_4 {R : Type} (N : Nat) (K : Ex → St → Option R) : ∀ n : Nat, (∀ x0 x1, iter (exc E102 (it102 N) (loopOf Try.f102 4)) (canon (E102.keep 4))  n (tabl [(0, (.v (.v false [(.i .i64 x0)]))), (8, (.v (.v false [(.own 0)]))), (1, (.o (.row 5 true x1)))]) K = Pu.impl_VarText.l4 N (fun y0 y1 => (K (.exit 0) (tabl [(0, (.v (.v false [(.i .i64 y0)]))), (8, (.v (.v false [(.own 0)]))), (1, (.o (.row 5 true y1)))]))) n x0 x1) := by
  intro n
  induction n with
  | zero => exact (fun _ _ => rfl)
  | succ n ih =>
    have e0 : (fun x0 x1 => iter (exc E102 (it102 N) (loopOf Try.f102 4)) (canon (E102.keep 4))  n (tabl [(0, (.v (.v false [(.i .i64 x0)]))), (8, (.v (.v false [(.own 0)]))), (1, (.o (.row 5 true x1)))]) K) = Pu.impl_VarText.l4 N (fun y0 y1 => (K (.exit 0) (tabl [(0, (.v (.v false [(.i .i64 y0)]))), (8, (.v (.v false [(.own 0)]))), (1, (.o (.row 5 true y1)))]))) n := by funext x0 x1; exact ih x0 x1
    intro x0 x1
    have h : ∀ g, exc E102 (it102 N) (loopOf Try.f102 4) (tabl [(0, (.v (.v false [(.i .i64 x0)]))), (8, (.v (.v false [(.own 0)]))), (1, (.o (.row 5 true x1)))]) (iterK g (canon (E102.keep 4)) K) = Pu.impl_VarText.r4 N (fun x0 x1 => (g (tabl [(0, (.v (.v false [(.i .i64 x0)]))), (8, (.v (.v false [(.own 0)]))), (1, (.o (.row 5 true x1)))]))) (fun y0 y1 => (K (.exit 0) (tabl [(0, (.v (.v false [(.i .i64 y0)]))), (8, (.v (.v false [(.own 0)]))), (1, (.o (.row 5 true y1)))]))) x0 x1 := by intro g; kernel_rfl
    refine (h _).trans ?_
    show Pu.impl_VarText.r4 N (fun x0 x1 => (iter (exc E102 (it102 N) (loopOf Try.f102 4)) (canon (E102.keep 4))  n (tabl [(0, (.v (.v false [(.i .i64 x0)]))), (8, (.v (.v false [(.own 0)]))), (1, (.o (.row 5 true x1)))]) K)) (fun y0 y1 => (K (.exit 0) (tabl [(0, (.v (.v false [(.i .i64 y0)]))), (8, (.v (.v false [(.own 0)]))), (1, (.o (.row 5 true y1)))]))) x0 x1 = _
    rw [e0]; rfl
theorem lo102_4 {R : Type} (N : Nat) : LoopOk E102 (it102 N (R := R)) (loopOf Try.f102 4) := by
  have e : firstRid (loopOf Try.f102 4) = 4 := by kernel_rfl
  intro L K r
  rw [e]
  intro h
  unfold it102 at h
  simp only [show Nat.beq 4 4 = true from rfl, cond_false, cond_true] at h
  refine tell_ok (Q := fun L => ∃ n, iter (exc E102 (it102 N) (loopOf Try.f102 4)) (canon (E102.keep 4)) n (tabl L) K = some r) h (fun xs h => ?_) (fun h => ?_)
  · (try dsimp only at h)
    split at h
    · exact ⟨N, ((e102_4 N K N) _ _).trans h⟩
    · cases h
  cases h
def sp102 : List Arg → Option (Bool × Res)
  | [(.v false [(.i .i64 n0)])] => some (true, ⟨[(.v false [(.s ((Pu.impl_VarText.v n0).1))]), (.v false [(.b ((Pu.impl_VarText.v n0).2))])], []⟩)
  | _ => none
theorem ok102 : FnOk Try.prog T 102 sp102 := by
  refine fn_ok (E := E102) hE (call_cons ok94 call_nil) hM Try.func102 (code := (Try.f102.body.getD .skip)) (by kernel_rfl) (by kernel_rfl) ?_
  have key : ∀ (n0 : Int), ∃ it : It Res, (∀ c ∈ loopsOf (Try.f102.body.getD .skip), LoopOk E102 it c) ∧ body E102 it Try.f102 [(.v false [(.i .i64 n0)])] = some ⟨[(.v false [(.s ((Pu.impl_VarText.v n0).1))]), (.v false [(.b ((Pu.impl_VarText.v n0).2))])], []⟩ := by
    intro n0 
    obtain ⟨N, hN⟩ := Pu.impl_VarText.b_eq (R := Res) (fun r0 r1 => some ⟨[(.v false [(.s r0)]), (.v false [(.b r1)])], []⟩) n0
    have hl : loopsOf (Try.f102.body.getD .skip) = [loopOf Try.f102 4] := by kernel_rfl
    refine ⟨it102 N, by rw [hl]; exact (loops_cons (lo102_4 N) loops_nil), ?_⟩
    refine Eq.trans (show body E102 (it102 N) Try.f102 [(.v false [(.i .i64 n0)])] = Pu.impl_VarText.b N (fun r0 r1 => some ⟨[(.v false [(.s r0)]), (.v false [(.b r1)])], []⟩) n0 by kernel_rfl) hN
  intro args r h
  unfold sp102 at h
  split at h
  · injection h with h
    injection h with h1 h2
    subst h2
    exact ⟨by kernel_rfl, fun hf => ⟨of_decide_eq_true (by kernel_rfl), key _⟩⟩
  · cases h

end Go.FG.Se

namespace Go.FG.Se
open Go.Proofs
def E101 : Env := { toTab := T, call := Go.FG.callIn [(102, sp102)], mode := Go.FG.modeIn md, keep := Go.FG.keepIn [], tk := fun n => Go.FG.memB n [], om := Go.FG.omIn [] }
def sp101 : List Arg → Option (Bool × Res)
  | [(.v false [(.s s0)])] => some (true, ⟨[(.v false [(.s ((Pu.impl_ShortText.v s0).1))]), (.v false [(.b ((Pu.impl_ShortText.v s0).2))])], []⟩)
  | _ => none
theorem ok101 : FnOk Try.prog T 101 sp101 := by
  refine fn_ok (E := E101) hE (call_cons ok102 call_nil) hM Try.func101 (code := (Try.f101.body.getD .skip)) (by kernel_rfl) (by kernel_rfl) ?_
  have key : ∀ (s0 : ByteArray), ∃ it : It Res, (∀ c ∈ loopsOf (Try.f101.body.getD .skip), LoopOk E101 it c) ∧ body E101 it Try.f101 [(.v false [(.s s0)])] = some ⟨[(.v false [(.s ((Pu.impl_ShortText.v s0).1))]), (.v false [(.b ((Pu.impl_ShortText.v s0).2))])], []⟩ := by
    intro s0 
    have hN := Pu.impl_ShortText.b_eq (R := Res) (fun r0 r1 => some ⟨[(.v false [(.s r0)]), (.v false [(.b r1)])], []⟩) s0
    have hl : loopsOf (Try.f101.body.getD .skip) = [] := by kernel_rfl
    refine ⟨iterN 0, by rw [hl]; exact loops_nil, ?_⟩
    refine Eq.trans (show body E101 (iterN 0) Try.f101 [(.v false [(.s s0)])] = Pu.impl_ShortText.b (fun r0 r1 => some ⟨[(.v false [(.s r0)]), (.v false [(.b r1)])], []⟩) s0 by kernel_rfl) hN
  intro args r h
  unfold sp101 at h
  split at h
  · injection h with h
    injection h with h1 h2
    subst h2
    exact ⟨by kernel_rfl, fun hf => ⟨of_decide_eq_true (by kernel_rfl), key _⟩⟩
  · cases h

end Go.FG.Se

namespace Go.FG.Se
open Go.Proofs
def E95 : Env := { toTab := T, call := Go.FG.callIn [], mode := Go.FG.modeIn md, keep := Go.FG.keepIn [], tk := fun n => Go.FG.memB n [], om := Go.FG.omIn [] }
def sp95 : List Arg → Option (Bool × Res)
  | [(.v false [(.i .i64 x0)]), (.v false [(.i .i64 least1)]), (.v false [(.i .i64 most2)])] => some (true, ⟨[(.v false [(.b (Pu.spec_l01In.v x0 least1 most2))])], []⟩)
  | _ => none
theorem ok95 : FnOk Try.prog T 95 sp95 := by
  refine fn_ok (E := E95) hE call_nil hM Try.func95 (code := (Try.f95.body.getD .skip)) (by kernel_rfl) (by kernel_rfl) ?_
  have key : ∀ (x0 : Int) (least1 : Int) (most2 : Int), ∃ it : It Res, (∀ c ∈ loopsOf (Try.f95.body.getD .skip), LoopOk E95 it c) ∧ body E95 it Try.f95 [(.v false [(.i .i64 x0)]), (.v false [(.i .i64 least1)]), (.v false [(.i .i64 most2)])] = some ⟨[(.v false [(.b (Pu.spec_l01In.v x0 least1 most2))])], []⟩ := by
    intro x0 least1 most2 
    have hN := Pu.spec_l01In.b_eq (R := Res) (fun r0 => some ⟨[(.v false [(.b r0)])], []⟩) x0 least1 most2
    have hl : loopsOf (Try.f95.body.getD .skip) = [] := by kernel_rfl
    refine ⟨iterN 0, by rw [hl]; exact loops_nil, ?_⟩
    refine Eq.trans (show body E95 (iterN 0) Try.f95 [(.v false [(.i .i64 x0)]), (.v false [(.i .i64 least1)]), (.v false [(.i .i64 most2)])] = Pu.spec_l01In.b (fun r0 => some ⟨[(.v false [(.b r0)])], []⟩) x0 least1 most2 by kernel_rfl) hN
  intro args r h
  unfold sp95 at h
  split at h
  · injection h with h
    injection h with h1 h2
    subst h2
    exact ⟨by kernel_rfl, fun hf => ⟨of_decide_eq_true (by kernel_rfl), key _ _ _⟩⟩
  · cases h

end Go.FG.Se

namespace Go.FG.Se
open Go.Proofs
def E109 : Env := { toTab := T, call := Go.FG.callIn [(95, sp95)], mode := Go.FG.modeIn md, keep := Go.FG.keepIn [], tk := fun n => Go.FG.memB n [], om := Go.FG.omIn [] }
def sp109 : List Arg → Option (Bool × Res)
  | [(.v false [(.s s0)])] => some (true, ⟨[(.v false [(.b (Pu.spec_l13Key.v s0))])], []⟩)
  | _ => none
theorem ok109 : FnOk Try.prog T 109 sp109 := by
  refine fn_ok (E := E109) hE (call_cons ok95 call_nil) hM Try.func109 (code := (Try.f109.body.getD .skip)) (by kernel_rfl) (by kernel_rfl) ?_
  have key : ∀ (s0 : ByteArray), ∃ it : It Res, (∀ c ∈ loopsOf (Try.f109.body.getD .skip), LoopOk E109 it c) ∧ body E109 it Try.f109 [(.v false [(.s s0)])] = some ⟨[(.v false [(.b (Pu.spec_l13Key.v s0))])], []⟩ := by
    intro s0 
    have hN := Pu.spec_l13Key.b_eq (R := Res) (fun r0 => some ⟨[(.v false [(.b r0)])], []⟩) s0
    have hl : loopsOf (Try.f109.body.getD .skip) = [] := by kernel_rfl
    refine ⟨iterN 0, by rw [hl]; exact loops_nil, ?_⟩
    refine Eq.trans (show body E109 (iterN 0) Try.f109 [(.v false [(.s s0)])] = Pu.spec_l13Key.b (fun r0 => some ⟨[(.v false [(.b r0)])], []⟩) s0 by kernel_rfl) hN
  intro args r h
  unfold sp109 at h
  split at h
  · injection h with h
    injection h with h1 h2
    subst h2
    exact ⟨by kernel_rfl, fun hf => ⟨of_decide_eq_true (by kernel_rfl), key _⟩⟩
  · cases h

end Go.FG.Se

namespace Go.FG.Se
open Go.Proofs
def E32 : Env := { toTab := T, call := Go.FG.callIn [(109, sp109), (95, sp95)], mode := Go.FG.modeIn md, keep := Go.FG.keepIn [], tk := fun n => Go.FG.memB n [], om := Go.FG.omIn [] }
def sp32 : List Arg → Option (Bool × Res)
  | [(.v true [(.s e0_0), (.i .i64 e0_1), (.i .i64 e0_2), (.s e0_3)])] => some (true, ⟨[(.v false [(.b (Pu.spec_EntryOk.v e0_0 e0_1 e0_2 e0_3))])], []⟩)
  | _ => none
theorem ok32 : FnOk Try.prog T 32 sp32 := by
  refine fn_ok (E := E32) hE (call_cons ok109 (call_cons ok95 call_nil)) hM Try.func32 (code := (Try.f32.body.getD .skip)) (by kernel_rfl) (by kernel_rfl) ?_
  have key : ∀ (e0_0 : ByteArray) (e0_1 : Int) (e0_2 : Int) (e0_3 : ByteArray), ∃ it : It Res, (∀ c ∈ loopsOf (Try.f32.body.getD .skip), LoopOk E32 it c) ∧ body E32 it Try.f32 [(.v true [(.s e0_0), (.i .i64 e0_1), (.i .i64 e0_2), (.s e0_3)])] = some ⟨[(.v false [(.b (Pu.spec_EntryOk.v e0_0 e0_1 e0_2 e0_3))])], []⟩ := by
    intro e0_0 e0_1 e0_2 e0_3 
    have hN := Pu.spec_EntryOk.b_eq (R := Res) (fun r0 => some ⟨[(.v false [(.b r0)])], []⟩) e0_0 e0_1 e0_2 e0_3
    have hl : loopsOf (Try.f32.body.getD .skip) = [] := by kernel_rfl
    refine ⟨iterN 0, by rw [hl]; exact loops_nil, ?_⟩
    refine Eq.trans (show body E32 (iterN 0) Try.f32 [(.v true [(.s e0_0), (.i .i64 e0_1), (.i .i64 e0_2), (.s e0_3)])] = Pu.spec_EntryOk.b (fun r0 => some ⟨[(.v false [(.b r0)])], []⟩) e0_0 e0_1 e0_2 e0_3 by kernel_rfl) hN
  intro args r h
  unfold sp32 at h
  split at h
  · injection h with h
    injection h with h1 h2
    subst h2
    exact ⟨by kernel_rfl, fun hf => ⟨of_decide_eq_true (by kernel_rfl), key _ _ _ _⟩⟩
  · cases h

end Go.FG.Se

namespace Go.FG.Se
open Go.Proofs
def E168 : Env := { toTab := T, call := Go.FG.callIn [], mode := Go.FG.modeIn md, keep := Go.FG.keepIn [(2, [0, 3])], tk := fun n => Go.FG.memB n [], om := Go.FG.omIn [] }
def it168 (N : Nat) {R : Type} : It R := fun rid f cn L K => bif Nat.beq rid 2 then (tell [(0, (.v (.v false [(.i .i64 0)]))), (6, (.v (.v false [(.own 0)]))), (1, (.o (.row 5 true [])))] (fun | [.I x0, .R x1] => Pu.spec_l01Var.l2 N (fun y0 y1 => (K (.exit 0) (tabl [(0, (.v (.v false [(.i .i64 y0)]))), (6, (.v (.v false [(.own 0)]))), (1, (.o (.row 5 true y1)))]))) N x0 x1 | _ => none) L (none)) else none
theorem e168_2 {R : Type} (N : Nat) (K : Ex → St → Option R) : ∀ n : Nat, (∀ x0 x1, iter (exc E168 (it168 N) (loopOf Try.f168 2)) (canon (E168.keep 2))  n (tabl [(0, (.v (.v false [(.i .i64 x0)]))), (6, (.v (.v false [(.own 0)]))), (1, (.o (.row 5 true x1)))]) K = Pu.spec_l01Var.l2 N (fun y0 y1 => (K (.exit 0) (tabl [(0, (.v (.v false [(.i .i64 y0)]))), (6, (.v (.v false [(.own 0)]))), (1, (.o (.row 5 true y1)))]))) n x0 x1) := by
  intro n
  induction n with
  | zero => exact (fun _ _ => rfl)
  | succ n ih =>
    have e0 : (fun x0 x1 => iter (exc E168 (it168 N) (loopOf Try.f168 2)) (canon (E168.keep 2))  n (tabl [(0, (.v (.v false [(.i .i64 x0)]))), (6, (.v (.v false [(.own 0)]))), (1, (.o (.row 5 true x1)))]) K) = Pu.spec_l01Var.l2 N (fun y0 y1 => (K (.exit 0) (tabl [(0, (.v (.v false [(.i .i64 y0)]))), (6, (.v (.v false [(.own 0)]))), (1, (.o (.row 5 true y1)))]))) n := by funext x0 x1; exact ih x0 x1
    intro x0 x1
    have h : ∀ g, exc E168 (it168 N) (loopOf Try.f168 2) (tabl [(0, (.v (.v false [(.i .i64 x0)]))), (6, (.v (.v false [(.own 0)]))), (1, (.o (.row 5 true x1)))]) (iterK g (canon (E168.keep 2)) K) = Pu.spec_l01Var.r2 N (fun x0 x1 => (g (tabl [(0, (.v (.v false [(.i .i64 x0)]))), (6, (.v (.v false [(.own 0)]))), (1, (.o (.row 5 true x1)))]))) (fun y0 y1 => (K (.exit 0) (tabl [(0, (.v (.v false [(.i .i64 y0)]))), (6, (.v (.v false [(.own 0)]))), (1, (.o (.row 5 true y1)))]))) x0 x1 := by intro g; kernel_rfl
    refine (h _).trans ?_
    show Pu.spec_l01Var.r2 N (fun x0 x1 => (iter (exc E168 (it168 N) (loopOf Try.f168 2)) (canon (E168.keep 2))  n (tabl [(0, (.v (.v false [(.i .i64 x0)]))), (6, (.v (.v false [(.own 0)]))), (1, (.o (.row 5 true x1)))]) K)) (fun y0 y1 => (K (.exit 0) (tabl [(0, (.v (.v false [(.i .i64 y0)]))), (6, (.v (.v false [(.own 0)]))), (1, (.o (.row 5 true y1)))]))) x0 x1 = _
    rw [e0]; rfl
theorem lo168_2 {R : Type} (N : Nat) : LoopOk E168 (it168 N (R := R)) (loopOf Try.f168 2) := by
  have e : firstRid (loopOf Try.f168 2) = 2 := by kernel_rfl
  intro L K r
  rw [e]
  intro h
  unfold it168 at h
  simp only [show Nat.beq 2 2 = true from rfl, cond_false, cond_true] at h
  refine tell_ok (Q := fun L => ∃ n, iter (exc E168 (it168 N) (loopOf Try.f168 2)) (canon (E168.keep 2)) n (tabl L) K = some r) h (fun xs h => ?_) (fun h => ?_)
  · (try dsimp only at h)
    split at h
    · exact ⟨N, ((e168_2 N K N) _ _).trans h⟩
    · cases h
  cases h
def sp168 : List Arg → Option (Bool × Res)
  | [(.v false [(.i .i64 n0)])] => some (Pu.spec_l01Var.c n0, ⟨[(.v false [(.s (Pu.spec_l01Var.v n0))])], []⟩)
  | _ => none
theorem ok168 : FnOk Try.prog T 168 sp168 := by
  refine fn_ok (E := E168) hE call_nil hM Try.func168 (code := (Try.f168.body.getD .skip)) (by kernel_rfl) (by kernel_rfl) ?_
  have key : ∀ (n0 : Int), Pu.spec_l01Var.c n0 = true → ∃ it : It Res, (∀ c ∈ loopsOf (Try.f168.body.getD .skip), LoopOk E168 it c) ∧ body E168 it Try.f168 [(.v false [(.i .i64 n0)])] = some ⟨[(.v false [(.s (Pu.spec_l01Var.v n0))])], []⟩ := by
    intro n0  h1
    obtain ⟨N, hN⟩ := Pu.spec_l01Var.b_eq (R := Res) (fun r0 => some ⟨[(.v false [(.s r0)])], []⟩) n0 h1
    have hl : loopsOf (Try.f168.body.getD .skip) = [loopOf Try.f168 2] := by kernel_rfl
    refine ⟨it168 N, by rw [hl]; exact (loops_cons (lo168_2 N) loops_nil), ?_⟩
    refine Eq.trans (show body E168 (it168 N) Try.f168 [(.v false [(.i .i64 n0)])] = Pu.spec_l01Var.b N (fun r0 => some ⟨[(.v false [(.s r0)])], []⟩) n0 by kernel_rfl) hN
  intro args r h
  unfold sp168 at h
  split at h
  · injection h with h
    injection h with h1 h2
    subst h2
    exact ⟨by kernel_rfl, fun hf => ⟨of_decide_eq_true (by kernel_rfl), key _ h1⟩⟩
  · cases h

end Go.FG.Se

namespace Go.FG.Se
open Go.Proofs
def E96 : Env := { toTab := T, call := Go.FG.callIn [(32, sp32), (168, sp168)], mode := Go.FG.modeIn md, keep := Go.FG.keepIn [], tk := fun n => Go.FG.memB n [], om := Go.FG.omIn [] }
def sp96 : List Arg → Option (Bool × Res)
  | [(.v true [(.s e0_0), (.i .i64 e0_1), (.i .i64 e0_2), (.s e0_3)])] => some (true, ⟨[(.v false [(.s ((Pu.spec_EntryText.v e0_0 e0_1 e0_2 e0_3).1))]), (.v false [(.b ((Pu.spec_EntryText.v e0_0 e0_1 e0_2 e0_3).2))])], []⟩)
  | _ => none
theorem ok96 : FnOk Try.prog T 96 sp96 := by
  refine fn_ok (E := E96) hE (call_cons ok32 (call_cons ok168 call_nil)) hM Try.func96 (code := (Try.f96.body.getD .skip)) (by kernel_rfl) (by kernel_rfl) ?_
  have key : ∀ (e0_0 : ByteArray) (e0_1 : Int) (e0_2 : Int) (e0_3 : ByteArray), ∃ it : It Res, (∀ c ∈ loopsOf (Try.f96.body.getD .skip), LoopOk E96 it c) ∧ body E96 it Try.f96 [(.v true [(.s e0_0), (.i .i64 e0_1), (.i .i64 e0_2), (.s e0_3)])] = some ⟨[(.v false [(.s ((Pu.spec_EntryText.v e0_0 e0_1 e0_2 e0_3).1))]), (.v false [(.b ((Pu.spec_EntryText.v e0_0 e0_1 e0_2 e0_3).2))])], []⟩ := by
    intro e0_0 e0_1 e0_2 e0_3 
    have hN := Pu.spec_EntryText.b_eq (R := Res) (fun r0 r1 => some ⟨[(.v false [(.s r0)]), (.v false [(.b r1)])], []⟩) e0_0 e0_1 e0_2 e0_3
    have hl : loopsOf (Try.f96.body.getD .skip) = [] := by kernel_rfl
    refine ⟨iterN 0, by rw [hl]; exact loops_nil, ?_⟩
    refine Eq.trans (show body E96 (iterN 0) Try.f96 [(.v true [(.s e0_0), (.i .i64 e0_1), (.i .i64 e0_2), (.s e0_3)])] = Pu.spec_EntryText.b (fun r0 r1 => some ⟨[(.v false [(.s r0)]), (.v false [(.b r1)])], []⟩) e0_0 e0_1 e0_2 e0_3 by kernel_rfl) hN
  intro args r h
  unfold sp96 at h
  split at h
  · injection h with h
    injection h with h1 h2
    subst h2
    exact ⟨by kernel_rfl, fun hf => ⟨of_decide_eq_true (by kernel_rfl), key _ _ _ _⟩⟩
  · cases h

end Go.FG.Se

namespace Go.FG.Se
open Go.Proofs
def E28 : Env := { toTab := T, call := Go.FG.callIn [(33, sp33), (101, sp101), (102, sp102)], mode := Go.FG.modeIn md, keep := Go.FG.keepIn [], tk := fun n => Go.FG.memB n [], om := Go.FG.omIn [] }
def sp28 : List Arg → Option (Bool × Res)
  | [(.v true [(.s e0_0), (.i .i64 e0_1), (.i .i64 e0_2), (.s e0_3)])] => some (true, ⟨[(.v false [(.s ((Pu.impl_EntryText.v e0_0 e0_1 e0_2 e0_3).1))]), (.v false [(.b ((Pu.impl_EntryText.v e0_0 e0_1 e0_2 e0_3).2))])], []⟩)
  | _ => none
theorem ok28 : FnOk Try.prog T 28 sp28 := by
  refine fn_ok (E := E28) hE (call_cons ok33 (call_cons ok101 (call_cons ok102 call_nil))) hM Try.func28 (code := (Try.f28.body.getD .skip)) (by kernel_rfl) (by kernel_rfl) ?_
  have key : ∀ (e0_0 : ByteArray) (e0_1 : Int) (e0_2 : Int) (e0_3 : ByteArray), ∃ it : It Res, (∀ c ∈ loopsOf (Try.f28.body.getD .skip), LoopOk E28 it c) ∧ body E28 it Try.f28 [(.v true [(.s e0_0), (.i .i64 e0_1), (.i .i64 e0_2), (.s e0_3)])] = some ⟨[(.v false [(.s ((Pu.impl_EntryText.v e0_0 e0_1 e0_2 e0_3).1))]), (.v false [(.b ((Pu.impl_EntryText.v e0_0 e0_1 e0_2 e0_3).2))])], []⟩ := by
    intro e0_0 e0_1 e0_2 e0_3 
    have hN := Pu.impl_EntryText.b_eq (R := Res) (fun r0 r1 => some ⟨[(.v false [(.s r0)]), (.v false [(.b r1)])], []⟩) e0_0 e0_1 e0_2 e0_3
    have hl : loopsOf (Try.f28.body.getD .skip) = [] := by kernel_rfl
    refine ⟨iterN 0, by rw [hl]; exact loops_nil, ?_⟩
    refine Eq.trans (show body E28 (iterN 0) Try.f28 [(.v true [(.s e0_0), (.i .i64 e0_1), (.i .i64 e0_2), (.s e0_3)])] = Pu.impl_EntryText.b (fun r0 r1 => some ⟨[(.v false [(.s r0)]), (.v false [(.b r1)])], []⟩) e0_0 e0_1 e0_2 e0_3 by kernel_rfl) hN
  intro args r h
  unfold sp28 at h
  split at h
  · injection h with h
    injection h with h1 h2
    subst h2
    exact ⟨by kernel_rfl, fun hf => ⟨of_decide_eq_true (by kernel_rfl), key _ _ _ _⟩⟩
  · cases h

end Go.FG.Se

namespace Go.FG.Se
open Go.Proofs
def E104 : Env := { toTab := T, call := Go.FG.callIn [(94, sp94)], mode := Go.FG.modeIn md, keep := Go.FG.keepIn [(5, [0, 1, 4, 5, 6, 7, 8])], tk := fun n => Go.FG.memB n [], om := Go.FG.omIn [] }
def it104 (N : Nat) {R : Type} : It R := fun rid f cn L K => bif Nat.beq rid 5 then (tell [(0, (.v (.v false [(.s ⟨#[]⟩)]))), (2, (.v (.v false [(.i .i64 0)]))), (8, (.v (.v false [(.i .i64 0)]))), (10, (.v (.v false [(.i .i64 0)]))), (12, (.v (.v false [(.b false)]))), (14, (.v (.v false [(.i .i64 0)]))), (16, (.v (.v false [(.i .i64 0)])))] (fun | [.S x0, .I x1, .I x2, .I x3, .B x4, .I x5, .I x6] => Pu.impl_ReadVar.l5 N (fun y0 y1 y2 y3 y4 y5 y6 => (K .ret (tabl [(0, (.v (.v false [(.s y0)]))), (2, (.v (.v false [(.i .i64 y1)]))), (8, (.v (.v false [(.i .i64 y2)]))), (10, (.v (.v false [(.i .i64 y3)]))), (12, (.v (.v false [(.b y4)]))), (14, (.v (.v false [(.i .i64 y5)]))), (16, (.v (.v false [(.i .i64 y6)])))]))) (fun y0 y1 y2 y3 y4 y5 y6 => (K (.exit 0) (tabl [(0, (.v (.v false [(.s y0)]))), (2, (.v (.v false [(.i .i64 y1)]))), (8, (.v (.v false [(.i .i64 y2)]))), (10, (.v (.v false [(.i .i64 y3)]))), (12, (.v (.v false [(.b y4)]))), (14, (.v (.v false [(.i .i64 y5)]))), (16, (.v (.v false [(.i .i64 y6)])))]))) N x0 x1 x2 x3 x4 x5 x6 | _ => none) L (none)) else none
theorem e104_5 {R : Type} (N : Nat) (K : Ex → St → Option R) : ∀ n : Nat, (∀ x0 x1 x2 x3 x4 x5 x6, iter (exc E104 (it104 N) (loopOf Try.f104 5)) (canon (E104.keep 5))  n (tabl [(0, (.v (.v false [(.s x0)]))), (2, (.v (.v false [(.i .i64 x1)]))), (8, (.v (.v false [(.i .i64 x2)]))), (10, (.v (.v false [(.i .i64 x3)]))), (12, (.v (.v false [(.b x4)]))), (14, (.v (.v false [(.i .i64 x5)]))), (16, (.v (.v false [(.i .i64 x6)])))]) K = Pu.impl_ReadVar.l5 N (fun y0 y1 y2 y3 y4 y5 y6 => (K .ret (tabl [(0, (.v (.v false [(.s y0)]))), (2, (.v (.v false [(.i .i64 y1)]))), (8, (.v (.v false [(.i .i64 y2)]))), (10, (.v (.v false [(.i .i64 y3)]))), (12, (.v (.v false [(.b y4)]))), (14, (.v (.v false [(.i .i64 y5)]))), (16, (.v (.v false [(.i .i64 y6)])))]))) (fun y0 y1 y2 y3 y4 y5 y6 => (K (.exit 0) (tabl [(0, (.v (.v false [(.s y0)]))), (2, (.v (.v false [(.i .i64 y1)]))), (8, (.v (.v false [(.i .i64 y2)]))), (10, (.v (.v false [(.i .i64 y3)]))), (12, (.v (.v false [(.b y4)]))), (14, (.v (.v false [(.i .i64 y5)]))), (16, (.v (.v false [(.i .i64 y6)])))]))) n x0 x1 x2 x3 x4 x5 x6) := by
  intro n
  induction n with
  | zero => exact (fun _ _ _ _ _ _ _ => rfl)
  | succ n ih =>
    have e0 : (fun x0 x1 x2 x3 x4 x5 x6 => iter (exc E104 (it104 N) (loopOf Try.f104 5)) (canon (E104.keep 5))  n (tabl [(0, (.v (.v false [(.s x0)]))), (2, (.v (.v false [(.i .i64 x1)]))), (8, (.v (.v false [(.i .i64 x2)]))), (10, (.v (.v false [(.i .i64 x3)]))), (12, (.v (.v false [(.b x4)]))), (14, (.v (.v false [(.i .i64 x5)]))), (16, (.v (.v false [(.i .i64 x6)])))]) K) = Pu.impl_ReadVar.l5 N (fun y0 y1 y2 y3 y4 y5 y6 => (K .ret (tabl [(0, (.v (.v false [(.s y0)]))), (2, (.v (.v false [(.i .i64 y1)]))), (8, (.v (.v false [(.i .i64 y2)]))), (10, (.v (.v false [(.i .i64 y3)]))), (12, (.v (.v false [(.b y4)]))), (14, (.v (.v false [(.i .i64 y5)]))), (16, (.v (.v false [(.i .i64 y6)])))]))) (fun y0 y1 y2 y3 y4 y5 y6 => (K (.exit 0) (tabl [(0, (.v (.v false [(.s y0)]))), (2, (.v (.v false [(.i .i64 y1)]))), (8, (.v (.v false [(.i .i64 y2)]))), (10, (.v (.v false [(.i .i64 y3)]))), (12, (.v (.v false [(.b y4)]))), (14, (.v (.v false [(.i .i64 y5)]))), (16, (.v (.v false [(.i .i64 y6)])))]))) n := by funext x0 x1 x2 x3 x4 x5 x6; exact ih x0 x1 x2 x3 x4 x5 x6
    intro x0 x1 x2 x3 x4 x5 x6
    have h : ∀ g, exc E104 (it104 N) (loopOf Try.f104 5) (tabl [(0, (.v (.v false [(.s x0)]))), (2, (.v (.v false [(.i .i64 x1)]))), (8, (.v (.v false [(.i .i64 x2)]))), (10, (.v (.v false [(.i .i64 x3)]))), (12, (.v (.v false [(.b x4)]))), (14, (.v (.v false [(.i .i64 x5)]))), (16, (.v (.v false [(.i .i64 x6)])))]) (iterK g (canon (E104.keep 5)) K) = Pu.impl_ReadVar.r5 N (fun x0 x1 x2 x3 x4 x5 x6 => (g (tabl [(0, (.v (.v false [(.s x0)]))), (2, (.v (.v false [(.i .i64 x1)]))), (8, (.v (.v false [(.i .i64 x2)]))), (10, (.v (.v false [(.i .i64 x3)]))), (12, (.v (.v false [(.b x4)]))), (14, (.v (.v false [(.i .i64 x5)]))), (16, (.v (.v false [(.i .i64 x6)])))]))) (fun y0 y1 y2 y3 y4 y5 y6 => (K .ret (tabl [(0, (.v (.v false [(.s y0)]))), (2, (.v (.v false [(.i .i64 y1)]))), (8, (.v (.v false [(.i .i64 y2)]))), (10, (.v (.v false [(.i .i64 y3)]))), (12, (.v (.v false [(.b y4)]))), (14, (.v (.v false [(.i .i64 y5)]))), (16, (.v (.v false [(.i .i64 y6)])))]))) (fun y0 y1 y2 y3 y4 y5 y6 => (K (.exit 0) (tabl [(0, (.v (.v false [(.s y0)]))), (2, (.v (.v false [(.i .i64 y1)]))), (8, (.v (.v false [(.i .i64 y2)]))), (10, (.v (.v false [(.i .i64 y3)]))), (12, (.v (.v false [(.b y4)]))), (14, (.v (.v false [(.i .i64 y5)]))), (16, (.v (.v false [(.i .i64 y6)])))]))) x0 x1 x2 x3 x4 x5 x6 := by intro g; kernel_rfl
    refine (h _).trans ?_
    show Pu.impl_ReadVar.r5 N (fun x0 x1 x2 x3 x4 x5 x6 => (iter (exc E104 (it104 N) (loopOf Try.f104 5)) (canon (E104.keep 5))  n (tabl [(0, (.v (.v false [(.s x0)]))), (2, (.v (.v false [(.i .i64 x1)]))), (8, (.v (.v false [(.i .i64 x2)]))), (10, (.v (.v false [(.i .i64 x3)]))), (12, (.v (.v false [(.b x4)]))), (14, (.v (.v false [(.i .i64 x5)]))), (16, (.v (.v false [(.i .i64 x6)])))]) K)) (fun y0 y1 y2 y3 y4 y5 y6 => (K .ret (tabl [(0, (.v (.v false [(.s y0)]))), (2, (.v (.v false [(.i .i64 y1)]))), (8, (.v (.v false [(.i .i64 y2)]))), (10, (.v (.v false [(.i .i64 y3)]))), (12, (.v (.v false [(.b y4)]))), (14, (.v (.v false [(.i .i64 y5)]))), (16, (.v (.v false [(.i .i64 y6)])))]))) (fun y0 y1 y2 y3 y4 y5 y6 => (K (.exit 0) (tabl [(0, (.v (.v false [(.s y0)]))), (2, (.v (.v false [(.i .i64 y1)]))), (8, (.v (.v false [(.i .i64 y2)]))), (10, (.v (.v false [(.i .i64 y3)]))), (12, (.v (.v false [(.b y4)]))), (14, (.v (.v false [(.i .i64 y5)]))), (16, (.v (.v false [(.i .i64 y6)])))]))) x0 x1 x2 x3 x4 x5 x6 = _
    rw [e0]; rfl
theorem lo104_5 {R : Type} (N : Nat) : LoopOk E104 (it104 N (R := R)) (loopOf Try.f104 5) := by
  have e : firstRid (loopOf Try.f104 5) = 5 := by kernel_rfl
  intro L K r
  rw [e]
  intro h
  unfold it104 at h
  simp only [show Nat.beq 5 5 = true from rfl, cond_false, cond_true] at h
  refine tell_ok (Q := fun L => ∃ n, iter (exc E104 (it104 N) (loopOf Try.f104 5)) (canon (E104.keep 5)) n (tabl L) K = some r) h (fun xs h => ?_) (fun h => ?_)
  · (try dsimp only at h)
    split at h
    · exact ⟨N, ((e104_5 N K N) _ _ _ _ _ _ _).trans h⟩
    · cases h
  cases h
def sp104 : List Arg → Option (Bool × Res)
  | [(.v false [(.s text0)]), (.v false [(.i .i64 at1)])] => some (true, ⟨[(.v false [(.i .i64 ((Pu.impl_ReadVar.v text0 at1).1))]), (.v false [(.i .i64 ((Pu.impl_ReadVar.v text0 at1).2.1))]), (.v false [(.b ((Pu.impl_ReadVar.v text0 at1).2.2))])], []⟩)
  | _ => none
theorem ok104 : FnOk Try.prog T 104 sp104 := by
  refine fn_ok (E := E104) hE (call_cons ok94 call_nil) hM Try.func104 (code := (Try.f104.body.getD .skip)) (by kernel_rfl) (by kernel_rfl) ?_
  have key : ∀ (text0 : ByteArray) (at1 : Int), okS text0 → ∃ it : It Res, (∀ c ∈ loopsOf (Try.f104.body.getD .skip), LoopOk E104 it c) ∧ body E104 it Try.f104 [(.v false [(.s text0)]), (.v false [(.i .i64 at1)])] = some ⟨[(.v false [(.i .i64 ((Pu.impl_ReadVar.v text0 at1).1))]), (.v false [(.i .i64 ((Pu.impl_ReadVar.v text0 at1).2.1))]), (.v false [(.b ((Pu.impl_ReadVar.v text0 at1).2.2))])], []⟩ := by
    intro text0 at1  g0
    obtain ⟨N, hN⟩ := Pu.impl_ReadVar.b_eq (R := Res) (fun r0 r1 r2 => some ⟨[(.v false [(.i .i64 r0)]), (.v false [(.i .i64 r1)]), (.v false [(.b r2)])], []⟩) text0 at1 g0
    have hl : loopsOf (Try.f104.body.getD .skip) = [loopOf Try.f104 5] := by kernel_rfl
    refine ⟨it104 N, by rw [hl]; exact (loops_cons (lo104_5 N) loops_nil), ?_⟩
    refine Eq.trans (show body E104 (it104 N) Try.f104 [(.v false [(.s text0)]), (.v false [(.i .i64 at1)])] = Pu.impl_ReadVar.b N (fun r0 r1 r2 => some ⟨[(.v false [(.i .i64 r0)]), (.v false [(.i .i64 r1)]), (.v false [(.b r2)])], []⟩) text0 at1 by kernel_rfl) hN
  intro args r h
  unfold sp104 at h
  split at h
  · injection h with h
    injection h with h1 h2
    subst h2
    exact ⟨by kernel_rfl, fun hf => ⟨of_decide_eq_true (by kernel_rfl), key _ _ hf.1.1⟩⟩
  · cases h

end Go.FG.Se

namespace Go.FG.Se
open Go.Proofs
def E103 : Env := { toTab := T, call := Go.FG.callIn [(104, sp104)], mode := Go.FG.modeIn md, keep := Go.FG.keepIn [], tk := fun n => Go.FG.memB n [], om := Go.FG.omIn [] }
def sp103 : List Arg → Option (Bool × Res)
  | [(.v false [(.s text0)]), (.v false [(.i .i64 at1)])] => some (true, ⟨[(.v false [(.s ((Pu.impl_ReadShort.v text0 at1).1))]), (.v false [(.i .i64 ((Pu.impl_ReadShort.v text0 at1).2.1))]), (.v false [(.b ((Pu.impl_ReadShort.v text0 at1).2.2))])], []⟩)
  | _ => none
theorem ok103 : FnOk Try.prog T 103 sp103 := by
  refine fn_ok (E := E103) hE (call_cons ok104 call_nil) hM Try.func103 (code := (Try.f103.body.getD .skip)) (by kernel_rfl) (by kernel_rfl) ?_
  have key : ∀ (text0 : ByteArray) (at1 : Int), okS text0 → ∃ it : It Res, (∀ c ∈ loopsOf (Try.f103.body.getD .skip), LoopOk E103 it c) ∧ body E103 it Try.f103 [(.v false [(.s text0)]), (.v false [(.i .i64 at1)])] = some ⟨[(.v false [(.s ((Pu.impl_ReadShort.v text0 at1).1))]), (.v false [(.i .i64 ((Pu.impl_ReadShort.v text0 at1).2.1))]), (.v false [(.b ((Pu.impl_ReadShort.v text0 at1).2.2))])], []⟩ := by
    intro text0 at1  g0
    have hN := Pu.impl_ReadShort.b_eq (R := Res) (fun r0 r1 r2 => some ⟨[(.v false [(.s r0)]), (.v false [(.i .i64 r1)]), (.v false [(.b r2)])], []⟩) text0 at1 g0
    have hl : loopsOf (Try.f103.body.getD .skip) = [] := by kernel_rfl
    refine ⟨iterN 0, by rw [hl]; exact loops_nil, ?_⟩
    refine Eq.trans (show body E103 (iterN 0) Try.f103 [(.v false [(.s text0)]), (.v false [(.i .i64 at1)])] = Pu.impl_ReadShort.b (fun r0 r1 r2 => some ⟨[(.v false [(.s r0)]), (.v false [(.i .i64 r1)]), (.v false [(.b r2)])], []⟩) text0 at1 by kernel_rfl) hN
  intro args r h
  unfold sp103 at h
  split at h
  · injection h with h
    injection h with h1 h2
    subst h2
    exact ⟨by kernel_rfl, fun hf => ⟨of_decide_eq_true (by kernel_rfl), key _ _ hf.1.1⟩⟩
  · cases h

end Go.FG.Se

namespace Go.FG.Se
open Go.Proofs
def E108 : Env := { toTab := T, call := Go.FG.callIn [(95, sp95), (168, sp168)], mode := Go.FG.modeIn md, keep := Go.FG.keepIn [(6, [0, 1, 4, 5, 6, 7, 8, 9])], tk := fun n => Go.FG.memB n [], om := Go.FG.omIn [] }
def it108 (N : Nat) {R : Type} : It R := fun rid f cn L K => bif Nat.beq rid 6 then (tell [(0, (.v (.v false [(.s ⟨#[]⟩)]))), (2, (.v (.v false [(.i .i64 0)]))), (8, (.v (.v false [(.i .i64 0)]))), (10, (.v (.v false [(.i .i64 0)]))), (12, (.v (.v false [(.b false)]))), (14, (.v (.v false [(.i .i64 0)]))), (16, (.v (.v false [(.i .i64 0)]))), (18, (.v (.v false [(.i .i64 0)])))] (fun | [.S x0, .I x1, .I x2, .I x3, .B x4, .I x5, .I x6, .I x7] => Pu.spec_ReadVar.l6 N (fun y0 y1 y2 y3 y4 y5 y6 y7 => (K .ret (tabl [(0, (.v (.v false [(.s y0)]))), (2, (.v (.v false [(.i .i64 y1)]))), (8, (.v (.v false [(.i .i64 y2)]))), (10, (.v (.v false [(.i .i64 y3)]))), (12, (.v (.v false [(.b y4)]))), (14, (.v (.v false [(.i .i64 y5)]))), (16, (.v (.v false [(.i .i64 y6)]))), (18, (.v (.v false [(.i .i64 y7)])))]))) (fun y0 y1 y2 y3 y4 y5 y6 y7 => (K (.exit 0) (tabl [(0, (.v (.v false [(.s y0)]))), (2, (.v (.v false [(.i .i64 y1)]))), (8, (.v (.v false [(.i .i64 y2)]))), (10, (.v (.v false [(.i .i64 y3)]))), (12, (.v (.v false [(.b y4)]))), (14, (.v (.v false [(.i .i64 y5)]))), (16, (.v (.v false [(.i .i64 y6)]))), (18, (.v (.v false [(.i .i64 y7)])))]))) N x0 x1 x2 x3 x4 x5 x6 x7 | _ => none) L (none)) else none
theorem e108_6 {R : Type} (N : Nat) (K : Ex → St → Option R) : ∀ n : Nat, (∀ x0 x1 x2 x3 x4 x5 x6 x7, iter (exc E108 (it108 N) (loopOf Try.f108 6)) (canon (E108.keep 6))  n (tabl [(0, (.v (.v false [(.s x0)]))), (2, (.v (.v false [(.i .i64 x1)]))), (8, (.v (.v false [(.i .i64 x2)]))), (10, (.v (.v false [(.i .i64 x3)]))), (12, (.v (.v false [(.b x4)]))), (14, (.v (.v false [(.i .i64 x5)]))), (16, (.v (.v false [(.i .i64 x6)]))), (18, (.v (.v false [(.i .i64 x7)])))]) K = Pu.spec_ReadVar.l6 N (fun y0 y1 y2 y3 y4 y5 y6 y7 => (K .ret (tabl [(0, (.v (.v false [(.s y0)]))), (2, (.v (.v false [(.i .i64 y1)]))), (8, (.v (.v false [(.i .i64 y2)]))), (10, (.v (.v false [(.i .i64 y3)]))), (12, (.v (.v false [(.b y4)]))), (14, (.v (.v false [(.i .i64 y5)]))), (16, (.v (.v false [(.i .i64 y6)]))), (18, (.v (.v false [(.i .i64 y7)])))]))) (fun y0 y1 y2 y3 y4 y5 y6 y7 => (K (.exit 0) (tabl [(0, (.v (.v false [(.s y0)]))), (2, (.v (.v false [(.i .i64 y1)]))), (8, (.v (.v false [(.i .i64 y2)]))), (10, (.v (.v false [(.i .i64 y3)]))), (12, (.v (.v false [(.b y4)]))), (14, (.v (.v false [(.i .i64 y5)]))), (16, (.v (.v false [(.i .i64 y6)]))), (18, (.v (.v false [(.i .i64 y7)])))]))) n x0 x1 x2 x3 x4 x5 x6 x7) := by
  intro n
  induction n with
  | zero => exact (fun _ _ _ _ _ _ _ _ => rfl)
  | succ n ih =>
    have e0 : (fun x0 x1 x2 x3 x4 x5 x6 x7 => iter (exc E108 (it108 N) (loopOf Try.f108 6)) (canon (E108.keep 6))  n (tabl [(0, (.v (.v false [(.s x0)]))), (2, (.v (.v false [(.i .i64 x1)]))), (8, (.v (.v false [(.i .i64 x2)]))), (10, (.v (.v false [(.i .i64 x3)]))), (12, (.v (.v false [(.b x4)]))), (14, (.v (.v false [(.i .i64 x5)]))), (16, (.v (.v false [(.i .i64 x6)]))), (18, (.v (.v false [(.i .i64 x7)])))]) K) = Pu.spec_ReadVar.l6 N (fun y0 y1 y2 y3 y4 y5 y6 y7 => (K .ret (tabl [(0, (.v (.v false [(.s y0)]))), (2, (.v (.v false [(.i .i64 y1)]))), (8, (.v (.v false [(.i .i64 y2)]))), (10, (.v (.v false [(.i .i64 y3)]))), (12, (.v (.v false [(.b y4)]))), (14, (.v (.v false [(.i .i64 y5)]))), (16, (.v (.v false [(.i .i64 y6)]))), (18, (.v (.v false [(.i .i64 y7)])))]))) (fun y0 y1 y2 y3 y4 y5 y6 y7 => (K (.exit 0) (tabl [(0, (.v (.v false [(.s y0)]))), (2, (.v (.v false [(.i .i64 y1)]))), (8, (.v (.v false [(.i .i64 y2)]))), (10, (.v (.v false [(.i .i64 y3)]))), (12, (.v (.v false [(.b y4)]))), (14, (.v (.v false [(.i .i64 y5)]))), (16, (.v (.v false [(.i .i64 y6)]))), (18, (.v (.v false [(.i .i64 y7)])))]))) n := by funext x0 x1 x2 x3 x4 x5 x6 x7; exact ih x0 x1 x2 x3 x4 x5 x6 x7
    intro x0 x1 x2 x3 x4 x5 x6 x7
    have h : ∀ g, exc E108 (it108 N) (loopOf Try.f108 6) (tabl [(0, (.v (.v false [(.s x0)]))), (2, (.v (.v false [(.i .i64 x1)]))), (8, (.v (.v false [(.i .i64 x2)]))), (10, (.v (.v false [(.i .i64 x3)]))), (12, (.v (.v false [(.b x4)]))), (14, (.v (.v false [(.i .i64 x5)]))), (16, (.v (.v false [(.i .i64 x6)]))), (18, (.v (.v false [(.i .i64 x7)])))]) (iterK g (canon (E108.keep 6)) K) = Pu.spec_ReadVar.r6 N (fun x0 x1 x2 x3 x4 x5 x6 x7 => (g (tabl [(0, (.v (.v false [(.s x0)]))), (2, (.v (.v false [(.i .i64 x1)]))), (8, (.v (.v false [(.i .i64 x2)]))), (10, (.v (.v false [(.i .i64 x3)]))), (12, (.v (.v false [(.b x4)]))), (14, (.v (.v false [(.i .i64 x5)]))), (16, (.v (.v false [(.i .i64 x6)]))), (18, (.v (.v false [(.i .i64 x7)])))]))) (fun y0 y1 y2 y3 y4 y5 y6 y7 => (K .ret (tabl [(0, (.v (.v false [(.s y0)]))), (2, (.v (.v false [(.i .i64 y1)]))), (8, (.v (.v false [(.i .i64 y2)]))), (10, (.v (.v false [(.i .i64 y3)]))), (12, (.v (.v false [(.b y4)]))), (14, (.v (.v false [(.i .i64 y5)]))), (16, (.v (.v false [(.i .i64 y6)]))), (18, (.v (.v false [(.i .i64 y7)])))]))) (fun y0 y1 y2 y3 y4 y5 y6 y7 => (K (.exit 0) (tabl [(0, (.v (.v false [(.s y0)]))), (2, (.v (.v false [(.i .i64 y1)]))), (8, (.v (.v false [(.i .i64 y2)]))), (10, (.v (.v false [(.i .i64 y3)]))), (12, (.v (.v false [(.b y4)]))), (14, (.v (.v false [(.i .i64 y5)]))), (16, (.v (.v false [(.i .i64 y6)]))), (18, (.v (.v false [(.i .i64 y7)])))]))) x0 x1 x2 x3 x4 x5 x6 x7 := by intro g; kernel_rfl
    refine (h _).trans ?_
    show Pu.spec_ReadVar.r6 N (fun x0 x1 x2 x3 x4 x5 x6 x7 => (iter (exc E108 (it108 N) (loopOf Try.f108 6)) (canon (E108.keep 6))  n (tabl [(0, (.v (.v false [(.s x0)]))), (2, (.v (.v false [(.i .i64 x1)]))), (8, (.v (.v false [(.i .i64 x2)]))), (10, (.v (.v false [(.i .i64 x3)]))), (12, (.v (.v false [(.b x4)]))), (14, (.v (.v false [(.i .i64 x5)]))), (16, (.v (.v false [(.i .i64 x6)]))), (18, (.v (.v false [(.i .i64 x7)])))]) K)) (fun y0 y1 y2 y3 y4 y5 y6 y7 => (K .ret (tabl [(0, (.v (.v false [(.s y0)]))), (2, (.v (.v false [(.i .i64 y1)]))), (8, (.v (.v false [(.i .i64 y2)]))), (10, (.v (.v false [(.i .i64 y3)]))), (12, (.v (.v false [(.b y4)]))), (14, (.v (.v false [(.i .i64 y5)]))), (16, (.v (.v false [(.i .i64 y6)]))), (18, (.v (.v false [(.i .i64 y7)])))]))) (fun y0 y1 y2 y3 y4 y5 y6 y7 => (K (.exit 0) (tabl [(0, (.v (.v false [(.s y0)]))), (2, (.v (.v false [(.i .i64 y1)]))), (8, (.v (.v false [(.i .i64 y2)]))), (10, (.v (.v false [(.i .i64 y3)]))), (12, (.v (.v false [(.b y4)]))), (14, (.v (.v false [(.i .i64 y5)]))), (16, (.v (.v false [(.i .i64 y6)]))), (18, (.v (.v false [(.i .i64 y7)])))]))) x0 x1 x2 x3 x4 x5 x6 x7 = _
    rw [e0]; rfl
theorem lo108_6 {R : Type} (N : Nat) : LoopOk E108 (it108 N (R := R)) (loopOf Try.f108 6) := by
  have e : firstRid (loopOf Try.f108 6) = 6 := by kernel_rfl
  intro L K r
  rw [e]
  intro h
  unfold it108 at h
  simp only [show Nat.beq 6 6 = true from rfl, cond_false, cond_true] at h
  refine tell_ok (Q := fun L => ∃ n, iter (exc E108 (it108 N) (loopOf Try.f108 6)) (canon (E108.keep 6)) n (tabl L) K = some r) h (fun xs h => ?_) (fun h => ?_)
  · (try dsimp only at h)
    split at h
    · exact ⟨N, ((e108_6 N K N) _ _ _ _ _ _ _ _).trans h⟩
    · cases h
  cases h
def sp108 : List Arg → Option (Bool × Res)
  | [(.v false [(.s text0)]), (.v false [(.i .i64 at1)])] => some (true, ⟨[(.v false [(.i .i64 ((Pu.spec_ReadVar.v text0 at1).1))]), (.v false [(.i .i64 ((Pu.spec_ReadVar.v text0 at1).2.1))]), (.v false [(.b ((Pu.spec_ReadVar.v text0 at1).2.2))])], []⟩)
  | _ => none
theorem ok108 : FnOk Try.prog T 108 sp108 := by
  refine fn_ok (E := E108) hE (call_cons ok95 (call_cons ok168 call_nil)) hM Try.func108 (code := (Try.f108.body.getD .skip)) (by kernel_rfl) (by kernel_rfl) ?_
  have key : ∀ (text0 : ByteArray) (at1 : Int), okS text0 → ∃ it : It Res, (∀ c ∈ loopsOf (Try.f108.body.getD .skip), LoopOk E108 it c) ∧ body E108 it Try.f108 [(.v false [(.s text0)]), (.v false [(.i .i64 at1)])] = some ⟨[(.v false [(.i .i64 ((Pu.spec_ReadVar.v text0 at1).1))]), (.v false [(.i .i64 ((Pu.spec_ReadVar.v text0 at1).2.1))]), (.v false [(.b ((Pu.spec_ReadVar.v text0 at1).2.2))])], []⟩ := by
    intro text0 at1  g0
    obtain ⟨N, hN⟩ := Pu.spec_ReadVar.b_eq (R := Res) (fun r0 r1 r2 => some ⟨[(.v false [(.i .i64 r0)]), (.v false [(.i .i64 r1)]), (.v false [(.b r2)])], []⟩) text0 at1 g0
    have hl : loopsOf (Try.f108.body.getD .skip) = [loopOf Try.f108 6] := by kernel_rfl
    refine ⟨it108 N, by rw [hl]; exact (loops_cons (lo108_6 N) loops_nil), ?_⟩
    refine Eq.trans (show body E108 (it108 N) Try.f108 [(.v false [(.s text0)]), (.v false [(.i .i64 at1)])] = Pu.spec_ReadVar.b N (fun r0 r1 r2 => some ⟨[(.v false [(.i .i64 r0)]), (.v false [(.i .i64 r1)]), (.v false [(.b r2)])], []⟩) text0 at1 by kernel_rfl) hN
  intro args r h
  unfold sp108 at h
  split at h
  · injection h with h
    injection h with h1 h2
    subst h2
    exact ⟨by kernel_rfl, fun hf => ⟨of_decide_eq_true (by kernel_rfl), key _ _ hf.1.1⟩⟩
  · cases h

end Go.FG.Se

namespace Go.FG.Se
open Go.Proofs
def E107 : Env := { toTab := T, call := Go.FG.callIn [(108, sp108)], mode := Go.FG.modeIn md, keep := Go.FG.keepIn [], tk := fun n => Go.FG.memB n [], om := Go.FG.omIn [] }
def sp107 : List Arg → Option (Bool × Res)
  | [(.v false [(.s text0)]), (.v false [(.i .i64 at1)])] => some (true, ⟨[(.v false [(.s ((Pu.spec_ReadShort.v text0 at1).1))]), (.v false [(.i .i64 ((Pu.spec_ReadShort.v text0 at1).2.1))]), (.v false [(.b ((Pu.spec_ReadShort.v text0 at1).2.2))])], []⟩)
  | _ => none
theorem ok107 : FnOk Try.prog T 107 sp107 := by
  refine fn_ok (E := E107) hE (call_cons ok108 call_nil) hM Try.func107 (code := (Try.f107.body.getD .skip)) (by kernel_rfl) (by kernel_rfl) ?_
  have key : ∀ (text0 : ByteArray) (at1 : Int), okS text0 → ∃ it : It Res, (∀ c ∈ loopsOf (Try.f107.body.getD .skip), LoopOk E107 it c) ∧ body E107 it Try.f107 [(.v false [(.s text0)]), (.v false [(.i .i64 at1)])] = some ⟨[(.v false [(.s ((Pu.spec_ReadShort.v text0 at1).1))]), (.v false [(.i .i64 ((Pu.spec_ReadShort.v text0 at1).2.1))]), (.v false [(.b ((Pu.spec_ReadShort.v text0 at1).2.2))])], []⟩ := by
    intro text0 at1  g0
    have hN := Pu.spec_ReadShort.b_eq (R := Res) (fun r0 r1 r2 => some ⟨[(.v false [(.s r0)]), (.v false [(.i .i64 r1)]), (.v false [(.b r2)])], []⟩) text0 at1 g0
    have hl : loopsOf (Try.f107.body.getD .skip) = [] := by kernel_rfl
    refine ⟨iterN 0, by rw [hl]; exact loops_nil, ?_⟩
    refine Eq.trans (show body E107 (iterN 0) Try.f107 [(.v false [(.s text0)]), (.v false [(.i .i64 at1)])] = Pu.spec_ReadShort.b (fun r0 r1 r2 => some ⟨[(.v false [(.s r0)]), (.v false [(.i .i64 r1)]), (.v false [(.b r2)])], []⟩) text0 at1 by kernel_rfl) hN
  intro args r h
  unfold sp107 at h
  split at h
  · injection h with h
    injection h with h1 h2
    subst h2
    exact ⟨by kernel_rfl, fun hf => ⟨of_decide_eq_true (by kernel_rfl), key _ _ hf.1.1⟩⟩
  · cases h

end Go.FG.Se

namespace Go.FG.Se
open Go.Proofs
def E31 : Env := { toTab := T, call := Go.FG.callIn [(107, sp107), (108, sp108), (96, sp96)], mode := Go.FG.modeIn md, keep := Go.FG.keepIn [], tk := fun n => Go.FG.memB n [], om := Go.FG.omIn [] }
def sp31 : List Arg → Option (Bool × Res)
  | [(.v false [(.s t0)])] => some (true, ⟨[(.v true [(.s ((Pu.spec_ReadEntry.v t0).1)), (.i .i64 ((Pu.spec_ReadEntry.v t0).2.1)), (.i .i64 ((Pu.spec_ReadEntry.v t0).2.2.1)), (.s ((Pu.spec_ReadEntry.v t0).2.2.2.1))]), (.v false [(.b ((Pu.spec_ReadEntry.v t0).2.2.2.2))])], []⟩)
  | _ => none
theorem ok31 : FnOk Try.prog T 31 sp31 := by
  refine fn_ok (E := E31) hE (call_cons ok107 (call_cons ok108 (call_cons ok96 call_nil))) hM Try.func31 (code := (Try.f31.body.getD .skip)) (by kernel_rfl) (by kernel_rfl) ?_
  have key : ∀ (t0 : ByteArray), okS t0 → ∃ it : It Res, (∀ c ∈ loopsOf (Try.f31.body.getD .skip), LoopOk E31 it c) ∧ body E31 it Try.f31 [(.v false [(.s t0)])] = some ⟨[(.v true [(.s ((Pu.spec_ReadEntry.v t0).1)), (.i .i64 ((Pu.spec_ReadEntry.v t0).2.1)), (.i .i64 ((Pu.spec_ReadEntry.v t0).2.2.1)), (.s ((Pu.spec_ReadEntry.v t0).2.2.2.1))]), (.v false [(.b ((Pu.spec_ReadEntry.v t0).2.2.2.2))])], []⟩ := by
    intro t0  g0
    have hN := Pu.spec_ReadEntry.b_eq (R := Res) (fun r0 r1 r2 r3 r4 => some ⟨[(.v true [(.s r0), (.i .i64 r1), (.i .i64 r2), (.s r3)]), (.v false [(.b r4)])], []⟩) t0 g0
    have hl : loopsOf (Try.f31.body.getD .skip) = [] := by kernel_rfl
    refine ⟨iterN 0, by rw [hl]; exact loops_nil, ?_⟩
    refine Eq.trans (show body E31 (iterN 0) Try.f31 [(.v false [(.s t0)])] = Pu.spec_ReadEntry.b (fun r0 r1 r2 r3 r4 => some ⟨[(.v true [(.s r0), (.i .i64 r1), (.i .i64 r2), (.s r3)]), (.v false [(.b r4)])], []⟩) t0 by kernel_rfl) hN
  intro args r h
  unfold sp31 at h
  split at h
  · injection h with h
    injection h with h1 h2
    subst h2
    exact ⟨by kernel_rfl, fun hf => ⟨of_decide_eq_true (by kernel_rfl), key _ hf.1.1⟩⟩
  · cases h

end Go.FG.Se

namespace Go.FG.Se
open Go.Proofs
def E29 : Env := { toTab := T, call := Go.FG.callIn [(103, sp103), (104, sp104), (33, sp33)], mode := Go.FG.modeIn md, keep := Go.FG.keepIn [], tk := fun n => Go.FG.memB n [], om := Go.FG.omIn [] }
def sp29 : List Arg → Option (Bool × Res)
  | [(.v false [(.s t0)])] => some (true, ⟨[(.v true [(.s ((Pu.impl_ReadEntry.v t0).1)), (.i .i64 ((Pu.impl_ReadEntry.v t0).2.1)), (.i .i64 ((Pu.impl_ReadEntry.v t0).2.2.1)), (.s ((Pu.impl_ReadEntry.v t0).2.2.2.1))]), (.v false [(.b ((Pu.impl_ReadEntry.v t0).2.2.2.2))])], []⟩)
  | _ => none
theorem ok29 : FnOk Try.prog T 29 sp29 := by
  refine fn_ok (E := E29) hE (call_cons ok103 (call_cons ok104 (call_cons ok33 call_nil))) hM Try.func29 (code := (Try.f29.body.getD .skip)) (by kernel_rfl) (by kernel_rfl) ?_
  have key : ∀ (t0 : ByteArray), okS t0 → ∃ it : It Res, (∀ c ∈ loopsOf (Try.f29.body.getD .skip), LoopOk E29 it c) ∧ body E29 it Try.f29 [(.v false [(.s t0)])] = some ⟨[(.v true [(.s ((Pu.impl_ReadEntry.v t0).1)), (.i .i64 ((Pu.impl_ReadEntry.v t0).2.1)), (.i .i64 ((Pu.impl_ReadEntry.v t0).2.2.1)), (.s ((Pu.impl_ReadEntry.v t0).2.2.2.1))]), (.v false [(.b ((Pu.impl_ReadEntry.v t0).2.2.2.2))])], []⟩ := by
    intro t0  g0
    have hN := Pu.impl_ReadEntry.b_eq (R := Res) (fun r0 r1 r2 r3 r4 => some ⟨[(.v true [(.s r0), (.i .i64 r1), (.i .i64 r2), (.s r3)]), (.v false [(.b r4)])], []⟩) t0 g0
    have hl : loopsOf (Try.f29.body.getD .skip) = [] := by kernel_rfl
    refine ⟨iterN 0, by rw [hl]; exact loops_nil, ?_⟩
    refine Eq.trans (show body E29 (iterN 0) Try.f29 [(.v false [(.s t0)])] = Pu.impl_ReadEntry.b (fun r0 r1 r2 r3 r4 => some ⟨[(.v true [(.s r0), (.i .i64 r1), (.i .i64 r2), (.s r3)]), (.v false [(.b r4)])], []⟩) t0 by kernel_rfl) hN
  intro args r h
  unfold sp29 at h
  split at h
  · injection h with h
    injection h with h1 h2
    subst h2
    exact ⟨by kernel_rfl, fun hf => ⟨of_decide_eq_true (by kernel_rfl), key _ hf.1.1⟩⟩
  · cases h

end Go.FG.Se

namespace Go.FG.Se
open Go.Proofs
def E106 : Env := { toTab := T, call := Go.FG.callIn [(105, sp105), (166, sp166)], mode := Go.FG.modeIn md, keep := Go.FG.keepIn [], tk := fun n => Go.FG.memB n [], om := Go.FG.omIn [] }
def sp106 : List Arg → Option (Bool × Res)
  | [(.pt [(.sh 5 c0_0), (.i .i64 c0_1), (.i .i64 c0_2)]), (.v false [(.s s1)])] => some (Pu.spec_l02Spoilt.c c0_0 c0_1 c0_2 s1, ⟨[(.v false [(.s ((Pu.spec_l02Spoilt.v c0_0 c0_1 c0_2 s1).1))])], [[(.sh 5 ((Pu.spec_l02Spoilt.v c0_0 c0_1 c0_2 s1).2.1)), (.i .i64 ((Pu.spec_l02Spoilt.v c0_0 c0_1 c0_2 s1).2.2.1)), (.i .i64 ((Pu.spec_l02Spoilt.v c0_0 c0_1 c0_2 s1).2.2.2))]]⟩)
  | _ => none
theorem ok106 : FnOk Try.prog T 106 sp106 := by
  refine fn_ok (E := E106) hE (call_cons ok105 (call_cons ok166 call_nil)) hM Try.func106 (code := (Try.f106.body.getD .skip)) (by kernel_rfl) (by kernel_rfl) ?_
  have key : ∀ (c0_0 : Row) (c0_1 : Int) (c0_2 : Int) (s1 : ByteArray), Pu.spec_l02Spoilt.c c0_0 c0_1 c0_2 s1 = true → ∃ it : It Res, (∀ c ∈ loopsOf (Try.f106.body.getD .skip), LoopOk E106 it c) ∧ body E106 it Try.f106 [(.pt [(.sh 5 c0_0), (.i .i64 c0_1), (.i .i64 c0_2)]), (.v false [(.s s1)])] = some ⟨[(.v false [(.s ((Pu.spec_l02Spoilt.v c0_0 c0_1 c0_2 s1).1))])], [[(.sh 5 ((Pu.spec_l02Spoilt.v c0_0 c0_1 c0_2 s1).2.1)), (.i .i64 ((Pu.spec_l02Spoilt.v c0_0 c0_1 c0_2 s1).2.2.1)), (.i .i64 ((Pu.spec_l02Spoilt.v c0_0 c0_1 c0_2 s1).2.2.2))]]⟩ := by
    intro c0_0 c0_1 c0_2 s1  h1
    have hN := Pu.spec_l02Spoilt.b_eq (R := Res) (fun r0 r1 r2 r3 => some ⟨[(.v false [(.s r0)])], [[(.sh 5 r1), (.i .i64 r2), (.i .i64 r3)]]⟩) c0_0 c0_1 c0_2 s1 h1
    have hl : loopsOf (Try.f106.body.getD .skip) = [] := by kernel_rfl
    refine ⟨iterN 0, by rw [hl]; exact loops_nil, ?_⟩
    refine Eq.trans (show body E106 (iterN 0) Try.f106 [(.pt [(.sh 5 c0_0), (.i .i64 c0_1), (.i .i64 c0_2)]), (.v false [(.s s1)])] = Pu.spec_l02Spoilt.b (fun r0 r1 r2 r3 => some ⟨[(.v false [(.s r0)])], [[(.sh 5 r1), (.i .i64 r2), (.i .i64 r3)]]⟩) c0_0 c0_1 c0_2 s1 by kernel_rfl) hN
  intro args r h
  unfold sp106 at h
  split at h
  · injection h with h
    injection h with h1 h2
    subst h2
    exact ⟨by kernel_rfl, fun hf => ⟨of_decide_eq_true (by kernel_rfl), key _ _ _ _ h1⟩⟩
  · cases h

end Go.FG.Se

namespace Go.FG.Se
open Go.Proofs
def E30 : Env := { toTab := T, call := Go.FG.callIn [(89, sp89), (105, sp105), (91, sp91), (96, sp96), (106, sp106)], mode := Go.FG.modeIn md, keep := Go.FG.keepIn [], tk := fun n => Go.FG.memB n [], om := Go.FG.omIn [] }
def sp30 : List Arg → Option (Bool × Res)
  | [(.v false [(.sh 5 code0)])] => some (Pu.spec_DrawReadEntry.c code0, ⟨[(.v false [(.s (Pu.spec_DrawReadEntry.v code0))])], []⟩)
  | _ => none
theorem ok30 : FnOk Try.prog T 30 sp30 := by
  refine fn_ok (E := E30) hE (call_cons ok89 (call_cons ok105 (call_cons ok91 (call_cons ok96 (call_cons ok106 call_nil))))) hM Try.func30 (code := (Try.f30.body.getD .skip)) (by kernel_rfl) (by kernel_rfl) ?_
  have key : ∀ (code0 : Row), Pu.spec_DrawReadEntry.c code0 = true → ∃ it : It Res, (∀ c ∈ loopsOf (Try.f30.body.getD .skip), LoopOk E30 it c) ∧ body E30 it Try.f30 [(.v false [(.sh 5 code0)])] = some ⟨[(.v false [(.s (Pu.spec_DrawReadEntry.v code0))])], []⟩ := by
    intro code0  h1
    have hN := Pu.spec_DrawReadEntry.b_eq (R := Res) (fun r0 => some ⟨[(.v false [(.s r0)])], []⟩) code0 h1
    have hl : loopsOf (Try.f30.body.getD .skip) = [] := by kernel_rfl
    refine ⟨iterN 0, by rw [hl]; exact loops_nil, ?_⟩
    refine Eq.trans (show body E30 (iterN 0) Try.f30 [(.v false [(.sh 5 code0)])] = Pu.spec_DrawReadEntry.b (fun r0 => some ⟨[(.v false [(.s r0)])], []⟩) code0 by kernel_rfl) hN
  intro args r h
  unfold sp30 at h
  split at h
  · injection h with h
    injection h with h1 h2
    subst h2
    exact ⟨by kernel_rfl, fun hf => ⟨of_decide_eq_true (by kernel_rfl), key _ h1⟩⟩
  · cases h

end Go.FG.Se

namespace Go.FG.Se
open Go.Proofs
def E5 : Env := { toTab := T, call := Go.FG.callIn [(15, sp15), (27, sp27), (28, sp28), (29, sp29), (30, sp30), (31, sp31), (32, sp32), (33, sp33)], mode := Go.FG.modeIn md, keep := Go.FG.keepIn [], tk := fun n => Go.FG.memB n [], om := Go.FG.omIn [] }
def sp5 : List Arg → Option (Bool × Res)
  | [(.v false [(.sh 5 code0)])] => some (Pu.laws_FnEntries.c code0, ⟨[(.v false [(.b (Pu.laws_FnEntries.v code0))])], []⟩)
  | _ => none
theorem ok5 : FnOk Try.prog T 5 sp5 := by
  refine fn_ok (E := E5) hE (call_cons ok15 (call_cons ok27 (call_cons ok28 (call_cons ok29 (call_cons ok30 (call_cons ok31 (call_cons ok32 (call_cons ok33 call_nil)))))))) hM Try.func5 (code := (Try.f5.body.getD .skip)) (by kernel_rfl) (by kernel_rfl) ?_
  have key : ∀ (code0 : Row), Pu.laws_FnEntries.c code0 = true → ∃ it : It Res, (∀ c ∈ loopsOf (Try.f5.body.getD .skip), LoopOk E5 it c) ∧ body E5 it Try.f5 [(.v false [(.sh 5 code0)])] = some ⟨[(.v false [(.b (Pu.laws_FnEntries.v code0))])], []⟩ := by
    intro code0  h1
    have hN := Pu.laws_FnEntries.b_eq (R := Res) (fun r0 => some ⟨[(.v false [(.b r0)])], []⟩) code0 h1
    have hl : loopsOf (Try.f5.body.getD .skip) = [] := by kernel_rfl
    refine ⟨iterN 0, by rw [hl]; exact loops_nil, ?_⟩
    refine Eq.trans (show body E5 (iterN 0) Try.f5 [(.v false [(.sh 5 code0)])] = Pu.laws_FnEntries.b (fun r0 => some ⟨[(.v false [(.b r0)])], []⟩) code0 by kernel_rfl) hN
  intro args r h
  unfold sp5 at h
  split at h
  · injection h with h
    injection h with h1 h2
    subst h2
    exact ⟨by kernel_rfl, fun hf => ⟨of_decide_eq_true (by kernel_rfl), key _ h1⟩⟩
  · cases h

end Go.FG.Se

