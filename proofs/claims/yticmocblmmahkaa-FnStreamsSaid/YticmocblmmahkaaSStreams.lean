/- Functions of the program: the evaluation of each, and that a call of it does what is told. No condition. -/
import Derived.Test.YticmocblmmahkaaTab
import Derived.Test.YticmocblmmahkaaPStreams
import Derived.Test.YticmocblmmahkaaIns
set_option linter.unusedVariables false
set_option linter.unusedSimpArgs false
set_option maxRecDepth 100000
namespace Go.FG.Se
open Go.Proofs
def E15 : Env := { toTab := T, call := Go.FG.callIn [], mode := Go.FG.modeIn md, keep := Go.FG.keepIn [], tk := fun n => Go.FG.memB n [], om := Go.FG.omIn [] }
def sp15 : List Arg → Option (Bool × Res)
  | [(.v false [(.sh 5 code0)])] => some (true, ⟨[(.v false [(.b (Pu.laws_big.v code0))])], []⟩)
  | _ => none
theorem ok15 : FnOk Try.prog T 15 sp15 := by
  refine fn_ok (E := E15) hE call_nil hM Try.func15 (code := (Try.f15.body.getD .skip)) (by kernel_rfl) (by kernel_rfl) ?_
  have key : ∀ (code0 : Row), ∃ it : It Res, (∀ c ∈ loopsOf (Try.f15.body.getD .skip), LoopOk E15 it c) ∧ body E15 it Try.f15 [(.v false [(.sh 5 code0)])] = some ⟨[(.v false [(.b (Pu.laws_big.v code0))])], []⟩ := by
    intro code0 
    have hN := Pu.laws_big.b_eq (R := Res) (fun r0 => some ⟨[(.v false [(.b r0)])], []⟩) code0
    have hl : loopsOf (Try.f15.body.getD .skip) = [] := by kernel_rfl
    refine ⟨iterN 0, by rw [hl]; exact loops_nil, ?_⟩
    refine Eq.trans (show body E15 (iterN 0) Try.f15 [(.v false [(.sh 5 code0)])] = Pu.laws_big.b (fun r0 => some ⟨[(.v false [(.b r0)])], []⟩) code0 by kernel_rfl) hN
  intro args r h
  unfold sp15 at h
  split at h
  · injection h with h
    injection h with h1 h2
    subst h2
    exact ⟨by kernel_rfl, fun hf => ⟨of_decide_eq_true (by kernel_rfl), key _⟩⟩
  · cases h

end Go.FG.Se

namespace Go.FG.Se
open Go.Proofs
def E89 : Env := { toTab := T, call := Go.FG.callIn [], mode := Go.FG.modeIn md, keep := Go.FG.keepIn [(3, [0, 3, 4])], tk := fun n => Go.FG.memB n [], om := Go.FG.omIn [] }
def it89 (N : Nat) {R : Type} : It R := fun rid f cn L K => bif Nat.beq rid 3 then (tell [(0, (.v (.v false [(.sh 5 [])]))), (6, (.v (.v false [(.i .i64 0)]))), (8, (.v (.v false [(.i .i64 0)])))] (fun | [.R x0, .I x1, .I x2] => Pu.spec_l01New.l3 N (fun y0 y1 y2 => (K (.exit 0) (tabl [(0, (.v (.v false [(.sh 5 y0)]))), (6, (.v (.v false [(.i .i64 y1)]))), (8, (.v (.v false [(.i .i64 y2)])))]))) N x0 x1 x2 | _ => none) L (none)) else none
theorem e89_3 {R : Type} (N : Nat) (K : Ex → St → Option R) : ∀ n : Nat, (∀ x0 x1 x2, iter (exc E89 (it89 N) (loopOf Try.f89 3)) (canon (E89.keep 3))  n (tabl [(0, (.v (.v false [(.sh 5 x0)]))), (6, (.v (.v false [(.i .i64 x1)]))), (8, (.v (.v false [(.i .i64 x2)])))]) K = Pu.spec_l01New.l3 N (fun y0 y1 y2 => (K (.exit 0) (tabl [(0, (.v (.v false [(.sh 5 y0)]))), (6, (.v (.v false [(.i .i64 y1)]))), (8, (.v (.v false [(.i .i64 y2)])))]))) n x0 x1 x2) := by
  intro n
  induction n with
  | zero => exact (fun _ _ _ => rfl)
  | succ n ih =>
    have e0 : (fun x0 x1 x2 => iter (exc E89 (it89 N) (loopOf Try.f89 3)) (canon (E89.keep 3))  n (tabl [(0, (.v (.v false [(.sh 5 x0)]))), (6, (.v (.v false [(.i .i64 x1)]))), (8, (.v (.v false [(.i .i64 x2)])))]) K) = Pu.spec_l01New.l3 N (fun y0 y1 y2 => (K (.exit 0) (tabl [(0, (.v (.v false [(.sh 5 y0)]))), (6, (.v (.v false [(.i .i64 y1)]))), (8, (.v (.v false [(.i .i64 y2)])))]))) n := by funext x0 x1 x2; exact ih x0 x1 x2
    intro x0 x1 x2
    have h : ∀ g, exc E89 (it89 N) (loopOf Try.f89 3) (tabl [(0, (.v (.v false [(.sh 5 x0)]))), (6, (.v (.v false [(.i .i64 x1)]))), (8, (.v (.v false [(.i .i64 x2)])))]) (iterK g (canon (E89.keep 3)) K) = Pu.spec_l01New.r3 N (fun x0 x1 x2 => (g (tabl [(0, (.v (.v false [(.sh 5 x0)]))), (6, (.v (.v false [(.i .i64 x1)]))), (8, (.v (.v false [(.i .i64 x2)])))]))) (fun y0 y1 y2 => (K (.exit 0) (tabl [(0, (.v (.v false [(.sh 5 y0)]))), (6, (.v (.v false [(.i .i64 y1)]))), (8, (.v (.v false [(.i .i64 y2)])))]))) x0 x1 x2 := by intro g; kernel_rfl
    refine (h _).trans ?_
    show Pu.spec_l01New.r3 N (fun x0 x1 x2 => (iter (exc E89 (it89 N) (loopOf Try.f89 3)) (canon (E89.keep 3))  n (tabl [(0, (.v (.v false [(.sh 5 x0)]))), (6, (.v (.v false [(.i .i64 x1)]))), (8, (.v (.v false [(.i .i64 x2)])))]) K)) (fun y0 y1 y2 => (K (.exit 0) (tabl [(0, (.v (.v false [(.sh 5 y0)]))), (6, (.v (.v false [(.i .i64 y1)]))), (8, (.v (.v false [(.i .i64 y2)])))]))) x0 x1 x2 = _
    rw [e0]; rfl
theorem lo89_3 {R : Type} (N : Nat) : LoopOk E89 (it89 N (R := R)) (loopOf Try.f89 3) := by
  have e : firstRid (loopOf Try.f89 3) = 3 := by kernel_rfl
  intro L K r
  rw [e]
  intro h
  unfold it89 at h
  simp only [show Nat.beq 3 3 = true from rfl, cond_false, cond_true] at h
  refine tell_ok (Q := fun L => ∃ n, iter (exc E89 (it89 N) (loopOf Try.f89 3)) (canon (E89.keep 3)) n (tabl L) K = some r) h (fun xs h => ?_) (fun h => ?_)
  · (try dsimp only at h)
    split at h
    · exact ⟨N, ((e89_3 N K N) _ _ _).trans h⟩
    · cases h
  cases h
def sp89 : List Arg → Option (Bool × Res)
  | [(.v false [(.sh 5 code0)])] => some (Pu.spec_l01New.c code0, ⟨[(.pt [(.sh 5 ((Pu.spec_l01New.v code0).1)), (.i .i64 ((Pu.spec_l01New.v code0).2.1)), (.i .i64 ((Pu.spec_l01New.v code0).2.2))])], []⟩)
  | _ => none
theorem ok89 : FnOk Try.prog T 89 sp89 := by
  refine fn_ok (E := E89) hE call_nil hM Try.func89 (code := (Try.f89.body.getD .skip)) (by kernel_rfl) (by kernel_rfl) ?_
  have key : ∀ (code0 : Row), Pu.spec_l01New.c code0 = true → ∃ it : It Res, (∀ c ∈ loopsOf (Try.f89.body.getD .skip), LoopOk E89 it c) ∧ body E89 it Try.f89 [(.v false [(.sh 5 code0)])] = some ⟨[(.pt [(.sh 5 ((Pu.spec_l01New.v code0).1)), (.i .i64 ((Pu.spec_l01New.v code0).2.1)), (.i .i64 ((Pu.spec_l01New.v code0).2.2))])], []⟩ := by
    intro code0  h1
    obtain ⟨N, hN⟩ := Pu.spec_l01New.b_eq (R := Res) (fun r0 r1 r2 => some ⟨[(.pt [(.sh 5 r0), (.i .i64 r1), (.i .i64 r2)])], []⟩) code0 h1
    have hl : loopsOf (Try.f89.body.getD .skip) = [loopOf Try.f89 3] := by kernel_rfl
    refine ⟨it89 N, by rw [hl]; exact (loops_cons (lo89_3 N) loops_nil), ?_⟩
    refine Eq.trans (show body E89 (it89 N) Try.f89 [(.v false [(.sh 5 code0)])] = Pu.spec_l01New.b N (fun r0 r1 r2 => some ⟨[(.pt [(.sh 5 r0), (.i .i64 r1), (.i .i64 r2)])], []⟩) code0 by kernel_rfl) hN
  intro args r h
  unfold sp89 at h
  split at h
  · injection h with h
    injection h with h1 h2
    subst h2
    exact ⟨by kernel_rfl, fun hf => ⟨of_decide_eq_true (by kernel_rfl), key _ h1⟩⟩
  · cases h

end Go.FG.Se

namespace Go.FG.Se
open Go.Proofs
def E172 : Env := { toTab := T, call := Go.FG.callIn [], mode := Go.FG.modeIn md, keep := Go.FG.keepIn [], tk := fun n => Go.FG.memB n [], om := Go.FG.omIn [] }
def sp172 : List Arg → Option (Bool × Res)
  | [] => some (true, ⟨[(.v true [(.i .i64 Pu.spec_StreamNew.v.1), (.s Pu.spec_StreamNew.v.2.1), (.ow 60 true Pu.spec_StreamNew.v.2.2)])], []⟩)
  | _ => none
theorem ok172 : FnOk Try.prog T 172 sp172 := by
  refine fn_ok (E := E172) hE call_nil hM Try.func172 (code := (Try.f172.body.getD .skip)) (by kernel_rfl) (by kernel_rfl) ?_
  have key : ∃ it : It Res, (∀ c ∈ loopsOf (Try.f172.body.getD .skip), LoopOk E172 it c) ∧ body E172 it Try.f172 [] = some ⟨[(.v true [(.i .i64 Pu.spec_StreamNew.v.1), (.s Pu.spec_StreamNew.v.2.1), (.ow 60 true Pu.spec_StreamNew.v.2.2)])], []⟩ := by
    skip
    have hN := Pu.spec_StreamNew.b_eq (R := Res) (fun r0 r1 r2 => some ⟨[(.v true [(.i .i64 r0), (.s r1), (.ow 60 true r2)])], []⟩) 
    have hl : loopsOf (Try.f172.body.getD .skip) = [] := by kernel_rfl
    refine ⟨iterN 0, by rw [hl]; exact loops_nil, ?_⟩
    refine Eq.trans (show body E172 (iterN 0) Try.f172 [] = Pu.spec_StreamNew.b (fun r0 r1 r2 => some ⟨[(.v true [(.i .i64 r0), (.s r1), (.ow 60 true r2)])], []⟩)  by kernel_rfl) hN
  intro args r h
  unfold sp172 at h
  split at h
  · injection h with h
    injection h with h1 h2
    subst h2
    exact ⟨by kernel_rfl, fun hf => ⟨of_decide_eq_true (by kernel_rfl), key⟩⟩
  · cases h

end Go.FG.Se

namespace Go.FG.Se
open Go.Proofs
def E112 : Env := { toTab := T, call := Go.FG.callIn [], mode := Go.FG.modeIn md, keep := Go.FG.keepIn [], tk := fun n => Go.FG.memB n [], om := Go.FG.omIn [] }
def sp112 : List Arg → Option (Bool × Res)
  | [(.pt [(.sh 5 c0_0), (.i .i64 c0_1), (.i .i64 c0_2)])] => some (Pu.spec_l01Byte.c c0_0 c0_1 c0_2, ⟨[(.v false [(.i .i64 ((Pu.spec_l01Byte.v c0_0 c0_1 c0_2).1))])], [[(.sh 5 ((Pu.spec_l01Byte.v c0_0 c0_1 c0_2).2.1)), (.i .i64 ((Pu.spec_l01Byte.v c0_0 c0_1 c0_2).2.2.1)), (.i .i64 ((Pu.spec_l01Byte.v c0_0 c0_1 c0_2).2.2.2))]]⟩)
  | _ => none
theorem ok112 : FnOk Try.prog T 112 sp112 := by
  refine fn_ok (E := E112) hE call_nil hM Try.func112 (code := (Try.f112.body.getD .skip)) (by kernel_rfl) (by kernel_rfl) ?_
  have key : ∀ (c0_0 : Row) (c0_1 : Int) (c0_2 : Int), Pu.spec_l01Byte.c c0_0 c0_1 c0_2 = true → ∃ it : It Res, (∀ c ∈ loopsOf (Try.f112.body.getD .skip), LoopOk E112 it c) ∧ body E112 it Try.f112 [(.pt [(.sh 5 c0_0), (.i .i64 c0_1), (.i .i64 c0_2)])] = some ⟨[(.v false [(.i .i64 ((Pu.spec_l01Byte.v c0_0 c0_1 c0_2).1))])], [[(.sh 5 ((Pu.spec_l01Byte.v c0_0 c0_1 c0_2).2.1)), (.i .i64 ((Pu.spec_l01Byte.v c0_0 c0_1 c0_2).2.2.1)), (.i .i64 ((Pu.spec_l01Byte.v c0_0 c0_1 c0_2).2.2.2))]]⟩ := by
    intro c0_0 c0_1 c0_2  h1
    have hN := Pu.spec_l01Byte.b_eq (R := Res) (fun r0 r1 r2 r3 => some ⟨[(.v false [(.i .i64 r0)])], [[(.sh 5 r1), (.i .i64 r2), (.i .i64 r3)]]⟩) c0_0 c0_1 c0_2 h1
    have hl : loopsOf (Try.f112.body.getD .skip) = [] := by kernel_rfl
    refine ⟨iterN 0, by rw [hl]; exact loops_nil, ?_⟩
    refine Eq.trans (show body E112 (iterN 0) Try.f112 [(.pt [(.sh 5 c0_0), (.i .i64 c0_1), (.i .i64 c0_2)])] = Pu.spec_l01Byte.b (fun r0 r1 r2 r3 => some ⟨[(.v false [(.i .i64 r0)])], [[(.sh 5 r1), (.i .i64 r2), (.i .i64 r3)]]⟩) c0_0 c0_1 c0_2 by kernel_rfl) hN
  intro args r h
  unfold sp112 at h
  split at h
  · injection h with h
    injection h with h1 h2
    subst h2
    exact ⟨by kernel_rfl, fun hf => ⟨of_decide_eq_true (by kernel_rfl), key _ _ _ h1⟩⟩
  · cases h

end Go.FG.Se

namespace Go.FG.Se
open Go.Proofs
def E105 : Env := { toTab := T, call := Go.FG.callIn [(112, sp112)], mode := Go.FG.modeIn md, keep := Go.FG.keepIn [], tk := fun n => Go.FG.memB n [], om := Go.FG.omIn [] }
def sp105 : List Arg → Option (Bool × Res)
  | [(.pt [(.sh 5 c0_0), (.i .i64 c0_1), (.i .i64 c0_2)]), (.v false [(.i .i64 n1)])] => some (Pu.spec_l01Below.c c0_0 c0_1 c0_2 n1, ⟨[(.v false [(.i .i64 ((Pu.spec_l01Below.v c0_0 c0_1 c0_2 n1).1))])], [[(.sh 5 ((Pu.spec_l01Below.v c0_0 c0_1 c0_2 n1).2.1)), (.i .i64 ((Pu.spec_l01Below.v c0_0 c0_1 c0_2 n1).2.2.1)), (.i .i64 ((Pu.spec_l01Below.v c0_0 c0_1 c0_2 n1).2.2.2))]]⟩)
  | _ => none
theorem ok105 : FnOk Try.prog T 105 sp105 := by
  refine fn_ok (E := E105) hE (call_cons ok112 call_nil) hM Try.func105 (code := (Try.f105.body.getD .skip)) (by kernel_rfl) (by kernel_rfl) ?_
  have key : ∀ (c0_0 : Row) (c0_1 : Int) (c0_2 : Int) (n1 : Int), Pu.spec_l01Below.c c0_0 c0_1 c0_2 n1 = true → ∃ it : It Res, (∀ c ∈ loopsOf (Try.f105.body.getD .skip), LoopOk E105 it c) ∧ body E105 it Try.f105 [(.pt [(.sh 5 c0_0), (.i .i64 c0_1), (.i .i64 c0_2)]), (.v false [(.i .i64 n1)])] = some ⟨[(.v false [(.i .i64 ((Pu.spec_l01Below.v c0_0 c0_1 c0_2 n1).1))])], [[(.sh 5 ((Pu.spec_l01Below.v c0_0 c0_1 c0_2 n1).2.1)), (.i .i64 ((Pu.spec_l01Below.v c0_0 c0_1 c0_2 n1).2.2.1)), (.i .i64 ((Pu.spec_l01Below.v c0_0 c0_1 c0_2 n1).2.2.2))]]⟩ := by
    intro c0_0 c0_1 c0_2 n1  h1
    have hN := Pu.spec_l01Below.b_eq (R := Res) (fun r0 r1 r2 r3 => some ⟨[(.v false [(.i .i64 r0)])], [[(.sh 5 r1), (.i .i64 r2), (.i .i64 r3)]]⟩) c0_0 c0_1 c0_2 n1 h1
    have hl : loopsOf (Try.f105.body.getD .skip) = [] := by kernel_rfl
    refine ⟨iterN 0, by rw [hl]; exact loops_nil, ?_⟩
    refine Eq.trans (show body E105 (iterN 0) Try.f105 [(.pt [(.sh 5 c0_0), (.i .i64 c0_1), (.i .i64 c0_2)]), (.v false [(.i .i64 n1)])] = Pu.spec_l01Below.b (fun r0 r1 r2 r3 => some ⟨[(.v false [(.i .i64 r0)])], [[(.sh 5 r1), (.i .i64 r2), (.i .i64 r3)]]⟩) c0_0 c0_1 c0_2 n1 by kernel_rfl) hN
  intro args r h
  unfold sp105 at h
  split at h
  · injection h with h
    injection h with h1 h2
    subst h2
    exact ⟨by kernel_rfl, fun hf => ⟨of_decide_eq_true (by kernel_rfl), key _ _ _ _ h1⟩⟩
  · cases h

end Go.FG.Se

namespace Go.FG.Se
open Go.Proofs
def E166 : Env := { toTab := T, call := Go.FG.callIn [(112, sp112)], mode := Go.FG.modeIn md, keep := Go.FG.keepIn [(5, [0, 1, 5, 6])], tk := fun n => Go.FG.memB n [], om := Go.FG.omIn [] }
def it166 (N : Nat) {R : Type} : It R := fun rid f cn L K => bif Nat.beq rid 5 then (tell [(0, (.v (.v false [(.bp 900000900 0)]))), (2, (.v (.v false [(.i .i64 0)]))), (10, (.v (.v false [(.own 1)]))), (12, (.v (.v false [(.i .i64 0)]))), (1800001801, (.o (.box [(.sh 5 []), (.i .i64 0), (.i .i64 0)]))), (3, (.o (.row 5 true [])))] (fun | [.I x0, .I x1, .R x2, .I x3, .I x4, .R x5] => Pu.spec_l01Text.l5 N (fun y0 y1 y2 y3 y4 y5 => (K (.exit 0) (tabl [(0, (.v (.v false [(.bp 900000900 0)]))), (2, (.v (.v false [(.i .i64 y0)]))), (10, (.v (.v false [(.own 1)]))), (12, (.v (.v false [(.i .i64 y1)]))), (1800001801, (.o (.box [(.sh 5 y2), (.i .i64 y3), (.i .i64 y4)]))), (3, (.o (.row 5 true y5)))]))) N x0 x1 x2 x3 x4 x5 | _ => none) L (none)) else none
theorem e166_5 {R : Type} (N : Nat) (K : Ex → St → Option R) : ∀ n : Nat, (∀ x0 x1 x2 x3 x4 x5, iter (exc E166 (it166 N) (loopOf Try.f166 5)) (canon (E166.keep 5))  n (tabl [(0, (.v (.v false [(.bp 900000900 0)]))), (2, (.v (.v false [(.i .i64 x0)]))), (10, (.v (.v false [(.own 1)]))), (12, (.v (.v false [(.i .i64 x1)]))), (1800001801, (.o (.box [(.sh 5 x2), (.i .i64 x3), (.i .i64 x4)]))), (3, (.o (.row 5 true x5)))]) K = Pu.spec_l01Text.l5 N (fun y0 y1 y2 y3 y4 y5 => (K (.exit 0) (tabl [(0, (.v (.v false [(.bp 900000900 0)]))), (2, (.v (.v false [(.i .i64 y0)]))), (10, (.v (.v false [(.own 1)]))), (12, (.v (.v false [(.i .i64 y1)]))), (1800001801, (.o (.box [(.sh 5 y2), (.i .i64 y3), (.i .i64 y4)]))), (3, (.o (.row 5 true y5)))]))) n x0 x1 x2 x3 x4 x5) := by
  intro n
  induction n with
  | zero => exact (fun _ _ _ _ _ _ => rfl)
  | succ n ih =>
    have e0 : (fun x0 x1 x2 x3 x4 x5 => iter (exc E166 (it166 N) (loopOf Try.f166 5)) (canon (E166.keep 5))  n (tabl [(0, (.v (.v false [(.bp 900000900 0)]))), (2, (.v (.v false [(.i .i64 x0)]))), (10, (.v (.v false [(.own 1)]))), (12, (.v (.v false [(.i .i64 x1)]))), (1800001801, (.o (.box [(.sh 5 x2), (.i .i64 x3), (.i .i64 x4)]))), (3, (.o (.row 5 true x5)))]) K) = Pu.spec_l01Text.l5 N (fun y0 y1 y2 y3 y4 y5 => (K (.exit 0) (tabl [(0, (.v (.v false [(.bp 900000900 0)]))), (2, (.v (.v false [(.i .i64 y0)]))), (10, (.v (.v false [(.own 1)]))), (12, (.v (.v false [(.i .i64 y1)]))), (1800001801, (.o (.box [(.sh 5 y2), (.i .i64 y3), (.i .i64 y4)]))), (3, (.o (.row 5 true y5)))]))) n := by funext x0 x1 x2 x3 x4 x5; exact ih x0 x1 x2 x3 x4 x5
    intro x0 x1 x2 x3 x4 x5
    have h : ∀ g, exc E166 (it166 N) (loopOf Try.f166 5) (tabl [(0, (.v (.v false [(.bp 900000900 0)]))), (2, (.v (.v false [(.i .i64 x0)]))), (10, (.v (.v false [(.own 1)]))), (12, (.v (.v false [(.i .i64 x1)]))), (1800001801, (.o (.box [(.sh 5 x2), (.i .i64 x3), (.i .i64 x4)]))), (3, (.o (.row 5 true x5)))]) (iterK g (canon (E166.keep 5)) K) = Pu.spec_l01Text.r5 N (fun x0 x1 x2 x3 x4 x5 => (g (tabl [(0, (.v (.v false [(.bp 900000900 0)]))), (2, (.v (.v false [(.i .i64 x0)]))), (10, (.v (.v false [(.own 1)]))), (12, (.v (.v false [(.i .i64 x1)]))), (1800001801, (.o (.box [(.sh 5 x2), (.i .i64 x3), (.i .i64 x4)]))), (3, (.o (.row 5 true x5)))]))) (fun y0 y1 y2 y3 y4 y5 => (K (.exit 0) (tabl [(0, (.v (.v false [(.bp 900000900 0)]))), (2, (.v (.v false [(.i .i64 y0)]))), (10, (.v (.v false [(.own 1)]))), (12, (.v (.v false [(.i .i64 y1)]))), (1800001801, (.o (.box [(.sh 5 y2), (.i .i64 y3), (.i .i64 y4)]))), (3, (.o (.row 5 true y5)))]))) x0 x1 x2 x3 x4 x5 := by intro g; kernel_rfl
    refine (h _).trans ?_
    show Pu.spec_l01Text.r5 N (fun x0 x1 x2 x3 x4 x5 => (iter (exc E166 (it166 N) (loopOf Try.f166 5)) (canon (E166.keep 5))  n (tabl [(0, (.v (.v false [(.bp 900000900 0)]))), (2, (.v (.v false [(.i .i64 x0)]))), (10, (.v (.v false [(.own 1)]))), (12, (.v (.v false [(.i .i64 x1)]))), (1800001801, (.o (.box [(.sh 5 x2), (.i .i64 x3), (.i .i64 x4)]))), (3, (.o (.row 5 true x5)))]) K)) (fun y0 y1 y2 y3 y4 y5 => (K (.exit 0) (tabl [(0, (.v (.v false [(.bp 900000900 0)]))), (2, (.v (.v false [(.i .i64 y0)]))), (10, (.v (.v false [(.own 1)]))), (12, (.v (.v false [(.i .i64 y1)]))), (1800001801, (.o (.box [(.sh 5 y2), (.i .i64 y3), (.i .i64 y4)]))), (3, (.o (.row 5 true y5)))]))) x0 x1 x2 x3 x4 x5 = _
    rw [e0]; rfl
theorem lo166_5 {R : Type} (N : Nat) : LoopOk E166 (it166 N (R := R)) (loopOf Try.f166 5) := by
  have e : firstRid (loopOf Try.f166 5) = 5 := by kernel_rfl
  intro L K r
  rw [e]
  intro h
  unfold it166 at h
  simp only [show Nat.beq 5 5 = true from rfl, cond_false, cond_true] at h
  refine tell_ok (Q := fun L => ∃ n, iter (exc E166 (it166 N) (loopOf Try.f166 5)) (canon (E166.keep 5)) n (tabl L) K = some r) h (fun xs h => ?_) (fun h => ?_)
  · (try dsimp only at h)
    split at h
    · exact ⟨N, ((e166_5 N K N) _ _ _ _ _ _).trans h⟩
    · cases h
  cases h
def sp166 : List Arg → Option (Bool × Res)
  | [(.pt [(.sh 5 c0_0), (.i .i64 c0_1), (.i .i64 c0_2)]), (.v false [(.i .i64 n1)])] => some (Pu.spec_l01Text.c c0_0 c0_1 c0_2 n1, ⟨[(.v false [(.s ((Pu.spec_l01Text.v c0_0 c0_1 c0_2 n1).1))])], [[(.sh 5 ((Pu.spec_l01Text.v c0_0 c0_1 c0_2 n1).2.1)), (.i .i64 ((Pu.spec_l01Text.v c0_0 c0_1 c0_2 n1).2.2.1)), (.i .i64 ((Pu.spec_l01Text.v c0_0 c0_1 c0_2 n1).2.2.2))]]⟩)
  | _ => none
theorem ok166 : FnOk Try.prog T 166 sp166 := by
  refine fn_ok (E := E166) hE (call_cons ok112 call_nil) hM Try.func166 (code := (Try.f166.body.getD .skip)) (by kernel_rfl) (by kernel_rfl) ?_
  have key : ∀ (c0_0 : Row) (c0_1 : Int) (c0_2 : Int) (n1 : Int), Pu.spec_l01Text.c c0_0 c0_1 c0_2 n1 = true → ∃ it : It Res, (∀ c ∈ loopsOf (Try.f166.body.getD .skip), LoopOk E166 it c) ∧ body E166 it Try.f166 [(.pt [(.sh 5 c0_0), (.i .i64 c0_1), (.i .i64 c0_2)]), (.v false [(.i .i64 n1)])] = some ⟨[(.v false [(.s ((Pu.spec_l01Text.v c0_0 c0_1 c0_2 n1).1))])], [[(.sh 5 ((Pu.spec_l01Text.v c0_0 c0_1 c0_2 n1).2.1)), (.i .i64 ((Pu.spec_l01Text.v c0_0 c0_1 c0_2 n1).2.2.1)), (.i .i64 ((Pu.spec_l01Text.v c0_0 c0_1 c0_2 n1).2.2.2))]]⟩ := by
    intro c0_0 c0_1 c0_2 n1  h1
    obtain ⟨N, hN⟩ := Pu.spec_l01Text.b_eq (R := Res) (fun r0 r1 r2 r3 => some ⟨[(.v false [(.s r0)])], [[(.sh 5 r1), (.i .i64 r2), (.i .i64 r3)]]⟩) c0_0 c0_1 c0_2 n1 h1
    have hl : loopsOf (Try.f166.body.getD .skip) = [loopOf Try.f166 5] := by kernel_rfl
    refine ⟨it166 N, by rw [hl]; exact (loops_cons (lo166_5 N) loops_nil), ?_⟩
    refine Eq.trans (show body E166 (it166 N) Try.f166 [(.pt [(.sh 5 c0_0), (.i .i64 c0_1), (.i .i64 c0_2)]), (.v false [(.i .i64 n1)])] = Pu.spec_l01Text.b N (fun r0 r1 r2 r3 => some ⟨[(.v false [(.s r0)])], [[(.sh 5 r1), (.i .i64 r2), (.i .i64 r3)]]⟩) c0_0 c0_1 c0_2 n1 by kernel_rfl) hN
  intro args r h
  unfold sp166 at h
  split at h
  · injection h with h
    injection h with h1 h2
    subst h2
    exact ⟨by kernel_rfl, fun hf => ⟨of_decide_eq_true (by kernel_rfl), key _ _ _ _ h1⟩⟩
  · cases h

end Go.FG.Se

namespace Go.FG.Se
open Go.Proofs
def E121 : Env := { toTab := T, call := Go.FG.callIn [], mode := Go.FG.modeIn md, keep := Go.FG.keepIn [], tk := fun n => Go.FG.memB n [], om := Go.FG.omIn [] }
def sp121 : List Arg → Option (Bool × Res)
  | [(.v true [(.i .i64 s0_0), (.s s0_1), (.sh 60 s0_2)])] => some (Pu.spec_l14Copy.c s0_0 s0_1 s0_2, ⟨[(.v true [(.i .i64 ((Pu.spec_l14Copy.v s0_0 s0_1 s0_2).1)), (.s ((Pu.spec_l14Copy.v s0_0 s0_1 s0_2).2.1)), (.ow 60 true ((Pu.spec_l14Copy.v s0_0 s0_1 s0_2).2.2))])], []⟩)
  | _ => none
theorem ok121 : FnOk Try.prog T 121 sp121 := by
  refine fn_ok (E := E121) hE call_nil hM Try.func121 (code := (Try.f121.body.getD .skip)) (by kernel_rfl) (by kernel_rfl) ?_
  have key : ∀ (s0_0 : Int) (s0_1 : ByteArray) (s0_2 : Row), Pu.spec_l14Copy.c s0_0 s0_1 s0_2 = true → ∃ it : It Res, (∀ c ∈ loopsOf (Try.f121.body.getD .skip), LoopOk E121 it c) ∧ body E121 it Try.f121 [(.v true [(.i .i64 s0_0), (.s s0_1), (.sh 60 s0_2)])] = some ⟨[(.v true [(.i .i64 ((Pu.spec_l14Copy.v s0_0 s0_1 s0_2).1)), (.s ((Pu.spec_l14Copy.v s0_0 s0_1 s0_2).2.1)), (.ow 60 true ((Pu.spec_l14Copy.v s0_0 s0_1 s0_2).2.2))])], []⟩ := by
    intro s0_0 s0_1 s0_2  h1
    have hN := Pu.spec_l14Copy.b_eq (R := Res) (fun r0 r1 r2 => some ⟨[(.v true [(.i .i64 r0), (.s r1), (.ow 60 true r2)])], []⟩) s0_0 s0_1 s0_2 h1
    have hl : loopsOf (Try.f121.body.getD .skip) = [] := by kernel_rfl
    refine ⟨iterN 0, by rw [hl]; exact loops_nil, ?_⟩
    refine Eq.trans (show body E121 (iterN 0) Try.f121 [(.v true [(.i .i64 s0_0), (.s s0_1), (.sh 60 s0_2)])] = Pu.spec_l14Copy.b (fun r0 r1 r2 => some ⟨[(.v true [(.i .i64 r0), (.s r1), (.ow 60 true r2)])], []⟩) s0_0 s0_1 s0_2 by kernel_rfl) hN
  intro args r h
  unfold sp121 at h
  split at h
  · injection h with h
    injection h with h1 h2
    subst h2
    exact ⟨by kernel_rfl, fun hf => ⟨of_decide_eq_true (by kernel_rfl), key _ _ _ h1⟩⟩
  · cases h

end Go.FG.Se

namespace Go.FG.Se
open Go.Proofs
def E95 : Env := { toTab := T, call := Go.FG.callIn [], mode := Go.FG.modeIn md, keep := Go.FG.keepIn [], tk := fun n => Go.FG.memB n [], om := Go.FG.omIn [] }
def sp95 : List Arg → Option (Bool × Res)
  | [(.v false [(.i .i64 x0)]), (.v false [(.i .i64 least1)]), (.v false [(.i .i64 most2)])] => some (true, ⟨[(.v false [(.b (Pu.spec_l01In.v x0 least1 most2))])], []⟩)
  | _ => none
theorem ok95 : FnOk Try.prog T 95 sp95 := by
  refine fn_ok (E := E95) hE call_nil hM Try.func95 (code := (Try.f95.body.getD .skip)) (by kernel_rfl) (by kernel_rfl) ?_
  have key : ∀ (x0 : Int) (least1 : Int) (most2 : Int), ∃ it : It Res, (∀ c ∈ loopsOf (Try.f95.body.getD .skip), LoopOk E95 it c) ∧ body E95 it Try.f95 [(.v false [(.i .i64 x0)]), (.v false [(.i .i64 least1)]), (.v false [(.i .i64 most2)])] = some ⟨[(.v false [(.b (Pu.spec_l01In.v x0 least1 most2))])], []⟩ := by
    intro x0 least1 most2 
    have hN := Pu.spec_l01In.b_eq (R := Res) (fun r0 => some ⟨[(.v false [(.b r0)])], []⟩) x0 least1 most2
    have hl : loopsOf (Try.f95.body.getD .skip) = [] := by kernel_rfl
    refine ⟨iterN 0, by rw [hl]; exact loops_nil, ?_⟩
    refine Eq.trans (show body E95 (iterN 0) Try.f95 [(.v false [(.i .i64 x0)]), (.v false [(.i .i64 least1)]), (.v false [(.i .i64 most2)])] = Pu.spec_l01In.b (fun r0 => some ⟨[(.v false [(.b r0)])], []⟩) x0 least1 most2 by kernel_rfl) hN
  intro args r h
  unfold sp95 at h
  split at h
  · injection h with h
    injection h with h1 h2
    subst h2
    exact ⟨by kernel_rfl, fun hf => ⟨of_decide_eq_true (by kernel_rfl), key _ _ _⟩⟩
  · cases h

end Go.FG.Se

namespace Go.FG.Se
open Go.Proofs
def E53 : Env := { toTab := T, call := Go.FG.callIn [(95, sp95)], mode := Go.FG.modeIn md, keep := Go.FG.keepIn [(2, [1, 2, 3])], tk := fun n => Go.FG.memB n [], om := Go.FG.omIn [] }
def it53 (N : Nat) {R : Type} : It R := fun rid f cn L K => bif Nat.beq rid 2 then (tell [(2, (.v (.v false [(.bp 0 0)]))), (4, (.v (.v false [(.b false)]))), (6, (.v (.v false [(.i .i64 0)]))), (1, (.o (.box [(.i .i64 0), (.s ⟨#[]⟩), (.sh 60 [])])))] (fun | [.B x0, .I x1, .I x2, .S x3, .R x4] => Pu.spec_StreamOk.l2 N (fun y0 y1 y2 y3 y4 => (K .ret (tabl [(2, (.v (.v false [(.bp 0 0)]))), (4, (.v (.v false [(.b y0)]))), (6, (.v (.v false [(.i .i64 y1)]))), (1, (.o (.box [(.i .i64 y2), (.s y3), (.sh 60 y4)])))]))) (fun y0 y1 y2 y3 y4 => (K (.exit 0) (tabl [(2, (.v (.v false [(.bp 0 0)]))), (4, (.v (.v false [(.b y0)]))), (6, (.v (.v false [(.i .i64 y1)]))), (1, (.o (.box [(.i .i64 y2), (.s y3), (.sh 60 y4)])))]))) N x0 x1 x2 x3 x4 | _ => none) L (none)) else none
theorem e53_2 {R : Type} (N : Nat) (K : Ex → St → Option R) : ∀ n : Nat, (∀ x0 x1 x2 x3 x4, iter (exc E53 (it53 N) (loopOf Try.f53 2)) (canon (E53.keep 2))  n (tabl [(2, (.v (.v false [(.bp 0 0)]))), (4, (.v (.v false [(.b x0)]))), (6, (.v (.v false [(.i .i64 x1)]))), (1, (.o (.box [(.i .i64 x2), (.s x3), (.sh 60 x4)])))]) K = Pu.spec_StreamOk.l2 N (fun y0 y1 y2 y3 y4 => (K .ret (tabl [(2, (.v (.v false [(.bp 0 0)]))), (4, (.v (.v false [(.b y0)]))), (6, (.v (.v false [(.i .i64 y1)]))), (1, (.o (.box [(.i .i64 y2), (.s y3), (.sh 60 y4)])))]))) (fun y0 y1 y2 y3 y4 => (K (.exit 0) (tabl [(2, (.v (.v false [(.bp 0 0)]))), (4, (.v (.v false [(.b y0)]))), (6, (.v (.v false [(.i .i64 y1)]))), (1, (.o (.box [(.i .i64 y2), (.s y3), (.sh 60 y4)])))]))) n x0 x1 x2 x3 x4) := by
  intro n
  induction n with
  | zero => exact (fun _ _ _ _ _ => rfl)
  | succ n ih =>
    have e0 : (fun x0 x1 x2 x3 x4 => iter (exc E53 (it53 N) (loopOf Try.f53 2)) (canon (E53.keep 2))  n (tabl [(2, (.v (.v false [(.bp 0 0)]))), (4, (.v (.v false [(.b x0)]))), (6, (.v (.v false [(.i .i64 x1)]))), (1, (.o (.box [(.i .i64 x2), (.s x3), (.sh 60 x4)])))]) K) = Pu.spec_StreamOk.l2 N (fun y0 y1 y2 y3 y4 => (K .ret (tabl [(2, (.v (.v false [(.bp 0 0)]))), (4, (.v (.v false [(.b y0)]))), (6, (.v (.v false [(.i .i64 y1)]))), (1, (.o (.box [(.i .i64 y2), (.s y3), (.sh 60 y4)])))]))) (fun y0 y1 y2 y3 y4 => (K (.exit 0) (tabl [(2, (.v (.v false [(.bp 0 0)]))), (4, (.v (.v false [(.b y0)]))), (6, (.v (.v false [(.i .i64 y1)]))), (1, (.o (.box [(.i .i64 y2), (.s y3), (.sh 60 y4)])))]))) n := by funext x0 x1 x2 x3 x4; exact ih x0 x1 x2 x3 x4
    intro x0 x1 x2 x3 x4
    have h : ∀ g, exc E53 (it53 N) (loopOf Try.f53 2) (tabl [(2, (.v (.v false [(.bp 0 0)]))), (4, (.v (.v false [(.b x0)]))), (6, (.v (.v false [(.i .i64 x1)]))), (1, (.o (.box [(.i .i64 x2), (.s x3), (.sh 60 x4)])))]) (iterK g (canon (E53.keep 2)) K) = Pu.spec_StreamOk.r2 N (fun x0 x1 x2 x3 x4 => (g (tabl [(2, (.v (.v false [(.bp 0 0)]))), (4, (.v (.v false [(.b x0)]))), (6, (.v (.v false [(.i .i64 x1)]))), (1, (.o (.box [(.i .i64 x2), (.s x3), (.sh 60 x4)])))]))) (fun y0 y1 y2 y3 y4 => (K .ret (tabl [(2, (.v (.v false [(.bp 0 0)]))), (4, (.v (.v false [(.b y0)]))), (6, (.v (.v false [(.i .i64 y1)]))), (1, (.o (.box [(.i .i64 y2), (.s y3), (.sh 60 y4)])))]))) (fun y0 y1 y2 y3 y4 => (K (.exit 0) (tabl [(2, (.v (.v false [(.bp 0 0)]))), (4, (.v (.v false [(.b y0)]))), (6, (.v (.v false [(.i .i64 y1)]))), (1, (.o (.box [(.i .i64 y2), (.s y3), (.sh 60 y4)])))]))) x0 x1 x2 x3 x4 := by intro g; kernel_rfl
    refine (h _).trans ?_
    show Pu.spec_StreamOk.r2 N (fun x0 x1 x2 x3 x4 => (iter (exc E53 (it53 N) (loopOf Try.f53 2)) (canon (E53.keep 2))  n (tabl [(2, (.v (.v false [(.bp 0 0)]))), (4, (.v (.v false [(.b x0)]))), (6, (.v (.v false [(.i .i64 x1)]))), (1, (.o (.box [(.i .i64 x2), (.s x3), (.sh 60 x4)])))]) K)) (fun y0 y1 y2 y3 y4 => (K .ret (tabl [(2, (.v (.v false [(.bp 0 0)]))), (4, (.v (.v false [(.b y0)]))), (6, (.v (.v false [(.i .i64 y1)]))), (1, (.o (.box [(.i .i64 y2), (.s y3), (.sh 60 y4)])))]))) (fun y0 y1 y2 y3 y4 => (K (.exit 0) (tabl [(2, (.v (.v false [(.bp 0 0)]))), (4, (.v (.v false [(.b y0)]))), (6, (.v (.v false [(.i .i64 y1)]))), (1, (.o (.box [(.i .i64 y2), (.s y3), (.sh 60 y4)])))]))) x0 x1 x2 x3 x4 = _
    rw [e0]; rfl
theorem lo53_2 {R : Type} (N : Nat) : LoopOk E53 (it53 N (R := R)) (loopOf Try.f53 2) := by
  have e : firstRid (loopOf Try.f53 2) = 2 := by kernel_rfl
  intro L K r
  rw [e]
  intro h
  unfold it53 at h
  simp only [show Nat.beq 2 2 = true from rfl, cond_false, cond_true] at h
  refine tell_ok (Q := fun L => ∃ n, iter (exc E53 (it53 N) (loopOf Try.f53 2)) (canon (E53.keep 2)) n (tabl L) K = some r) h (fun xs h => ?_) (fun h => ?_)
  · (try dsimp only at h)
    split at h
    · exact ⟨N, ((e53_2 N K N) _ _ _ _ _).trans h⟩
    · cases h
  cases h
def sp53 : List Arg → Option (Bool × Res)
  | [(.v true [(.i .i64 s0_0), (.s s0_1), (.sh 60 s0_2)])] => some (true, ⟨[(.v false [(.b (Pu.spec_StreamOk.v s0_0 s0_1 s0_2))])], []⟩)
  | _ => none
theorem ok53 : FnOk Try.prog T 53 sp53 := by
  refine fn_ok (E := E53) hE (call_cons ok95 call_nil) hM Try.func53 (code := (Try.f53.body.getD .skip)) (by kernel_rfl) (by kernel_rfl) ?_
  have key : ∀ (s0_0 : Int) (s0_1 : ByteArray) (s0_2 : Row), okS s0_1 → FitR s0_2 → ∃ it : It Res, (∀ c ∈ loopsOf (Try.f53.body.getD .skip), LoopOk E53 it c) ∧ body E53 it Try.f53 [(.v true [(.i .i64 s0_0), (.s s0_1), (.sh 60 s0_2)])] = some ⟨[(.v false [(.b (Pu.spec_StreamOk.v s0_0 s0_1 s0_2))])], []⟩ := by
    intro s0_0 s0_1 s0_2  g1 g2
    obtain ⟨N, hN⟩ := Pu.spec_StreamOk.b_eq (R := Res) (fun r0 => some ⟨[(.v false [(.b r0)])], []⟩) s0_0 s0_1 s0_2 g1 g2
    have hl : loopsOf (Try.f53.body.getD .skip) = [loopOf Try.f53 2] := by kernel_rfl
    refine ⟨it53 N, by rw [hl]; exact (loops_cons (lo53_2 N) loops_nil), ?_⟩
    refine Eq.trans (show body E53 (it53 N) Try.f53 [(.v true [(.i .i64 s0_0), (.s s0_1), (.sh 60 s0_2)])] = Pu.spec_StreamOk.b N (fun r0 => some ⟨[(.v false [(.b r0)])], []⟩) s0_0 s0_1 s0_2 by kernel_rfl) hN
  intro args r h
  unfold sp53 at h
  split at h
  · injection h with h
    injection h with h1 h2
    subst h2
    exact ⟨by kernel_rfl, fun hf => ⟨of_decide_eq_true (by kernel_rfl), key _ _ _ hf.1.2.1 hf.1.2.2.1⟩⟩
  · cases h

end Go.FG.Se

namespace Go.FG.Se
open Go.Proofs
def E45 : Env := { toTab := T, call := Go.FG.callIn [(121, sp121), (53, sp53), (95, sp95)], mode := Go.FG.modeIn md, keep := Go.FG.keepIn [], tk := fun n => Go.FG.memB n [], om := Go.FG.omIn [] }
def sp45 : List Arg → Option (Bool × Res)
  | [(.v true [(.i .i64 s0_0), (.s s0_1), (.sh 60 s0_2)]), (.v false [(.s part1)])] => some (Pu.spec_StreamPut.c s0_0 s0_1 s0_2 part1, ⟨[(.v true [(.i .i64 ((Pu.spec_StreamPut.v s0_0 s0_1 s0_2 part1).1)), (.s ((Pu.spec_StreamPut.v s0_0 s0_1 s0_2 part1).2.1)), (.ow 60 true ((Pu.spec_StreamPut.v s0_0 s0_1 s0_2 part1).2.2.1))]), (.v false [(.b ((Pu.spec_StreamPut.v s0_0 s0_1 s0_2 part1).2.2.2))])], []⟩)
  | _ => none
theorem ok45 : FnOk Try.prog T 45 sp45 := by
  refine fn_ok (E := E45) hE (call_cons ok121 (call_cons ok53 (call_cons ok95 call_nil))) hM Try.func45 (code := (Try.f45.body.getD .skip)) (by kernel_rfl) (by kernel_rfl) ?_
  have key : ∀ (s0_0 : Int) (s0_1 : ByteArray) (s0_2 : Row) (part1 : ByteArray), Pu.spec_StreamPut.c s0_0 s0_1 s0_2 part1 = true → okS s0_1 → FitR s0_2 → okS part1 → ∃ it : It Res, (∀ c ∈ loopsOf (Try.f45.body.getD .skip), LoopOk E45 it c) ∧ body E45 it Try.f45 [(.v true [(.i .i64 s0_0), (.s s0_1), (.sh 60 s0_2)]), (.v false [(.s part1)])] = some ⟨[(.v true [(.i .i64 ((Pu.spec_StreamPut.v s0_0 s0_1 s0_2 part1).1)), (.s ((Pu.spec_StreamPut.v s0_0 s0_1 s0_2 part1).2.1)), (.ow 60 true ((Pu.spec_StreamPut.v s0_0 s0_1 s0_2 part1).2.2.1))]), (.v false [(.b ((Pu.spec_StreamPut.v s0_0 s0_1 s0_2 part1).2.2.2))])], []⟩ := by
    intro s0_0 s0_1 s0_2 part1  h1 g1 g2 g3
    have hN := Pu.spec_StreamPut.b_eq (R := Res) (fun r0 r1 r2 r3 => some ⟨[(.v true [(.i .i64 r0), (.s r1), (.ow 60 true r2)]), (.v false [(.b r3)])], []⟩) s0_0 s0_1 s0_2 part1 h1 g1 g2 g3
    have hl : loopsOf (Try.f45.body.getD .skip) = [] := by kernel_rfl
    refine ⟨iterN 0, by rw [hl]; exact loops_nil, ?_⟩
    refine Eq.trans (show body E45 (iterN 0) Try.f45 [(.v true [(.i .i64 s0_0), (.s s0_1), (.sh 60 s0_2)]), (.v false [(.s part1)])] = Pu.spec_StreamPut.b (fun r0 r1 r2 r3 => some ⟨[(.v true [(.i .i64 r0), (.s r1), (.ow 60 true r2)]), (.v false [(.b r3)])], []⟩) s0_0 s0_1 s0_2 part1 by kernel_rfl) hN
  intro args r h
  unfold sp45 at h
  split at h
  · injection h with h
    injection h with h1 h2
    subst h2
    exact ⟨by kernel_rfl, fun hf => ⟨of_decide_eq_true (by kernel_rfl), key _ _ _ _ h1 hf.1.2.1 hf.1.2.2.1 hf.2.1.1⟩⟩
  · cases h

end Go.FG.Se

namespace Go.FG.Se
open Go.Proofs
def E123 : Env := { toTab := T, call := Go.FG.callIn [], mode := Go.FG.modeIn md, keep := Go.FG.keepIn [(2, [1, 2, 4, 5])], tk := fun n => Go.FG.memB n [], om := Go.FG.omIn [] }
def it123 (N : Nat) {R : Type} : It R := fun rid f cn L K => bif Nat.beq rid 2 then (tell [(2, (.v (.v false [(.i .i64 0)]))), (4, (.v (.v false [(.bp 0 0)]))), (8, (.v (.v false [(.i .i64 0)]))), (10, (.v (.v false [(.i .i64 0)]))), (1, (.o (.box [(.i .i64 0), (.s ⟨#[]⟩), (.sh 60 [])])))] (fun | [.I x0, .I x1, .I x2, .I x3, .S x4, .R x5] => Pu.spec_l14At.l2 N (fun y0 y1 y2 y3 y4 y5 => (K .ret (tabl [(2, (.v (.v false [(.i .i64 y0)]))), (4, (.v (.v false [(.bp 0 0)]))), (8, (.v (.v false [(.i .i64 y1)]))), (10, (.v (.v false [(.i .i64 y2)]))), (1, (.o (.box [(.i .i64 y3), (.s y4), (.sh 60 y5)])))]))) (fun y0 y1 y2 y3 y4 y5 => (K (.exit 0) (tabl [(2, (.v (.v false [(.i .i64 y0)]))), (4, (.v (.v false [(.bp 0 0)]))), (8, (.v (.v false [(.i .i64 y1)]))), (10, (.v (.v false [(.i .i64 y2)]))), (1, (.o (.box [(.i .i64 y3), (.s y4), (.sh 60 y5)])))]))) N x0 x1 x2 x3 x4 x5 | _ => none) L (none)) else none
theorem e123_2 {R : Type} (N : Nat) (K : Ex → St → Option R) : ∀ n : Nat, (∀ x0 x1 x2 x3 x4 x5, iter (exc E123 (it123 N) (loopOf Try.f123 2)) (canon (E123.keep 2))  n (tabl [(2, (.v (.v false [(.i .i64 x0)]))), (4, (.v (.v false [(.bp 0 0)]))), (8, (.v (.v false [(.i .i64 x1)]))), (10, (.v (.v false [(.i .i64 x2)]))), (1, (.o (.box [(.i .i64 x3), (.s x4), (.sh 60 x5)])))]) K = Pu.spec_l14At.l2 N (fun y0 y1 y2 y3 y4 y5 => (K .ret (tabl [(2, (.v (.v false [(.i .i64 y0)]))), (4, (.v (.v false [(.bp 0 0)]))), (8, (.v (.v false [(.i .i64 y1)]))), (10, (.v (.v false [(.i .i64 y2)]))), (1, (.o (.box [(.i .i64 y3), (.s y4), (.sh 60 y5)])))]))) (fun y0 y1 y2 y3 y4 y5 => (K (.exit 0) (tabl [(2, (.v (.v false [(.i .i64 y0)]))), (4, (.v (.v false [(.bp 0 0)]))), (8, (.v (.v false [(.i .i64 y1)]))), (10, (.v (.v false [(.i .i64 y2)]))), (1, (.o (.box [(.i .i64 y3), (.s y4), (.sh 60 y5)])))]))) n x0 x1 x2 x3 x4 x5) := by
  intro n
  induction n with
  | zero => exact (fun _ _ _ _ _ _ => rfl)
  | succ n ih =>
    have e0 : (fun x0 x1 x2 x3 x4 x5 => iter (exc E123 (it123 N) (loopOf Try.f123 2)) (canon (E123.keep 2))  n (tabl [(2, (.v (.v false [(.i .i64 x0)]))), (4, (.v (.v false [(.bp 0 0)]))), (8, (.v (.v false [(.i .i64 x1)]))), (10, (.v (.v false [(.i .i64 x2)]))), (1, (.o (.box [(.i .i64 x3), (.s x4), (.sh 60 x5)])))]) K) = Pu.spec_l14At.l2 N (fun y0 y1 y2 y3 y4 y5 => (K .ret (tabl [(2, (.v (.v false [(.i .i64 y0)]))), (4, (.v (.v false [(.bp 0 0)]))), (8, (.v (.v false [(.i .i64 y1)]))), (10, (.v (.v false [(.i .i64 y2)]))), (1, (.o (.box [(.i .i64 y3), (.s y4), (.sh 60 y5)])))]))) (fun y0 y1 y2 y3 y4 y5 => (K (.exit 0) (tabl [(2, (.v (.v false [(.i .i64 y0)]))), (4, (.v (.v false [(.bp 0 0)]))), (8, (.v (.v false [(.i .i64 y1)]))), (10, (.v (.v false [(.i .i64 y2)]))), (1, (.o (.box [(.i .i64 y3), (.s y4), (.sh 60 y5)])))]))) n := by funext x0 x1 x2 x3 x4 x5; exact ih x0 x1 x2 x3 x4 x5
    intro x0 x1 x2 x3 x4 x5
    have h : ∀ g, exc E123 (it123 N) (loopOf Try.f123 2) (tabl [(2, (.v (.v false [(.i .i64 x0)]))), (4, (.v (.v false [(.bp 0 0)]))), (8, (.v (.v false [(.i .i64 x1)]))), (10, (.v (.v false [(.i .i64 x2)]))), (1, (.o (.box [(.i .i64 x3), (.s x4), (.sh 60 x5)])))]) (iterK g (canon (E123.keep 2)) K) = Pu.spec_l14At.r2 N (fun x0 x1 x2 x3 x4 x5 => (g (tabl [(2, (.v (.v false [(.i .i64 x0)]))), (4, (.v (.v false [(.bp 0 0)]))), (8, (.v (.v false [(.i .i64 x1)]))), (10, (.v (.v false [(.i .i64 x2)]))), (1, (.o (.box [(.i .i64 x3), (.s x4), (.sh 60 x5)])))]))) (fun y0 y1 y2 y3 y4 y5 => (K .ret (tabl [(2, (.v (.v false [(.i .i64 y0)]))), (4, (.v (.v false [(.bp 0 0)]))), (8, (.v (.v false [(.i .i64 y1)]))), (10, (.v (.v false [(.i .i64 y2)]))), (1, (.o (.box [(.i .i64 y3), (.s y4), (.sh 60 y5)])))]))) (fun y0 y1 y2 y3 y4 y5 => (K (.exit 0) (tabl [(2, (.v (.v false [(.i .i64 y0)]))), (4, (.v (.v false [(.bp 0 0)]))), (8, (.v (.v false [(.i .i64 y1)]))), (10, (.v (.v false [(.i .i64 y2)]))), (1, (.o (.box [(.i .i64 y3), (.s y4), (.sh 60 y5)])))]))) x0 x1 x2 x3 x4 x5 := by intro g; kernel_rfl
    refine (h _).trans ?_
    show Pu.spec_l14At.r2 N (fun x0 x1 x2 x3 x4 x5 => (iter (exc E123 (it123 N) (loopOf Try.f123 2)) (canon (E123.keep 2))  n (tabl [(2, (.v (.v false [(.i .i64 x0)]))), (4, (.v (.v false [(.bp 0 0)]))), (8, (.v (.v false [(.i .i64 x1)]))), (10, (.v (.v false [(.i .i64 x2)]))), (1, (.o (.box [(.i .i64 x3), (.s x4), (.sh 60 x5)])))]) K)) (fun y0 y1 y2 y3 y4 y5 => (K .ret (tabl [(2, (.v (.v false [(.i .i64 y0)]))), (4, (.v (.v false [(.bp 0 0)]))), (8, (.v (.v false [(.i .i64 y1)]))), (10, (.v (.v false [(.i .i64 y2)]))), (1, (.o (.box [(.i .i64 y3), (.s y4), (.sh 60 y5)])))]))) (fun y0 y1 y2 y3 y4 y5 => (K (.exit 0) (tabl [(2, (.v (.v false [(.i .i64 y0)]))), (4, (.v (.v false [(.bp 0 0)]))), (8, (.v (.v false [(.i .i64 y1)]))), (10, (.v (.v false [(.i .i64 y2)]))), (1, (.o (.box [(.i .i64 y3), (.s y4), (.sh 60 y5)])))]))) x0 x1 x2 x3 x4 x5 = _
    rw [e0]; rfl
theorem lo123_2 {R : Type} (N : Nat) : LoopOk E123 (it123 N (R := R)) (loopOf Try.f123 2) := by
  have e : firstRid (loopOf Try.f123 2) = 2 := by kernel_rfl
  intro L K r
  rw [e]
  intro h
  unfold it123 at h
  simp only [show Nat.beq 2 2 = true from rfl, cond_false, cond_true] at h
  refine tell_ok (Q := fun L => ∃ n, iter (exc E123 (it123 N) (loopOf Try.f123 2)) (canon (E123.keep 2)) n (tabl L) K = some r) h (fun xs h => ?_) (fun h => ?_)
  · (try dsimp only at h)
    split at h
    · exact ⟨N, ((e123_2 N K N) _ _ _ _ _ _).trans h⟩
    · cases h
  cases h
def sp123 : List Arg → Option (Bool × Res)
  | [(.v true [(.i .i64 s0_0), (.s s0_1), (.sh 60 s0_2)]), (.v false [(.i .i64 id1)])] => some (true, ⟨[(.v false [(.i .i64 (Pu.spec_l14At.v s0_0 s0_1 s0_2 id1))])], []⟩)
  | _ => none
theorem ok123 : FnOk Try.prog T 123 sp123 := by
  refine fn_ok (E := E123) hE call_nil hM Try.func123 (code := (Try.f123.body.getD .skip)) (by kernel_rfl) (by kernel_rfl) ?_
  have key : ∀ (s0_0 : Int) (s0_1 : ByteArray) (s0_2 : Row) (id1 : Int), okS s0_1 → FitR s0_2 → ∃ it : It Res, (∀ c ∈ loopsOf (Try.f123.body.getD .skip), LoopOk E123 it c) ∧ body E123 it Try.f123 [(.v true [(.i .i64 s0_0), (.s s0_1), (.sh 60 s0_2)]), (.v false [(.i .i64 id1)])] = some ⟨[(.v false [(.i .i64 (Pu.spec_l14At.v s0_0 s0_1 s0_2 id1))])], []⟩ := by
    intro s0_0 s0_1 s0_2 id1  g1 g2
    obtain ⟨N, hN⟩ := Pu.spec_l14At.b_eq (R := Res) (fun r0 => some ⟨[(.v false [(.i .i64 r0)])], []⟩) s0_0 s0_1 s0_2 id1 g1 g2
    have hl : loopsOf (Try.f123.body.getD .skip) = [loopOf Try.f123 2] := by kernel_rfl
    refine ⟨it123 N, by rw [hl]; exact (loops_cons (lo123_2 N) loops_nil), ?_⟩
    refine Eq.trans (show body E123 (it123 N) Try.f123 [(.v true [(.i .i64 s0_0), (.s s0_1), (.sh 60 s0_2)]), (.v false [(.i .i64 id1)])] = Pu.spec_l14At.b N (fun r0 => some ⟨[(.v false [(.i .i64 r0)])], []⟩) s0_0 s0_1 s0_2 id1 by kernel_rfl) hN
  intro args r h
  unfold sp123 at h
  split at h
  · injection h with h
    injection h with h1 h2
    subst h2
    exact ⟨by kernel_rfl, fun hf => ⟨of_decide_eq_true (by kernel_rfl), key _ _ _ _ hf.1.2.1 hf.1.2.2.1⟩⟩
  · cases h

end Go.FG.Se

namespace Go.FG.Se
open Go.Proofs
def E49 : Env := { toTab := T, call := Go.FG.callIn [(121, sp121), (53, sp53), (123, sp123)], mode := Go.FG.modeIn md, keep := Go.FG.keepIn [(4, [1, 2, 4, 6, 7, 8]), (10, [1, 2, 4, 6, 7, 9])], tk := fun n => Go.FG.memB n [], om := Go.FG.omIn [] }
def it49 (N : Nat) {R : Type} : It R := fun rid f cn L K => bif Nat.beq rid 4 then (tell [(2, (.v (.v false [(.i .i64 0)]))), (4, (.v (.v false [(.bp 0 0)]))), (8, (.v (.v false [(.bp 1 0)]))), (12, (.v (.v false [(.bp 2 0)]))), (14, (.v (.v false [(.own 3)]))), (16, (.v (.v false [(.i .i64 0)]))), (1, (.o (.box [(.i .i64 0), (.s ⟨#[]⟩), (.sh 60 [])]))), (3, (.o (.box [(.i .i64 0), (.s ⟨#[]⟩), .nl]))), (5, (.o (.box [(.i .i64 0), (.s ⟨#[]⟩), (.own 4)]))), (7, (.o (.row 60 true []))), (9, (.o (.row 60 true [])))] (fun | [.I x0, .I x1, .I x2, .S x3, .R x4, .I x5, .S x6, .I x7, .S x8, .R x9, .R x10] => Pu.spec_StreamJoin.l4 N (fun y0 y1 y2 y3 y4 y5 y6 y7 y8 y9 y10 => (K (.exit 0) (tabl [(2, (.v (.v false [(.i .i64 y0)]))), (4, (.v (.v false [(.bp 0 0)]))), (8, (.v (.v false [(.bp 1 0)]))), (12, (.v (.v false [(.bp 2 0)]))), (14, (.v (.v false [(.own 3)]))), (16, (.v (.v false [(.i .i64 y1)]))), (1, (.o (.box [(.i .i64 y2), (.s y3), (.sh 60 y4)]))), (3, (.o (.box [(.i .i64 y5), (.s y6), .nl]))), (5, (.o (.box [(.i .i64 y7), (.s y8), (.own 4)]))), (7, (.o (.row 60 true y9))), (9, (.o (.row 60 true y10)))]))) N x0 x1 x2 x3 x4 x5 x6 x7 x8 x9 x10 | _ => none) L (none)) else bif Nat.beq rid 10 then (tell [(2, (.v (.v false [(.i .i64 0)]))), (4, (.v (.v false [(.bp 0 0)]))), (8, (.v (.v false [(.bp 1 0)]))), (12, (.v (.v false [(.bp 2 0)]))), (14, (.v (.v false [(.own 3)]))), (18, (.v (.v false [(.i .i64 0)]))), (1, (.o (.box [(.i .i64 0), (.s ⟨#[]⟩), (.sh 60 [])]))), (3, (.o (.box [(.i .i64 0), (.s ⟨#[]⟩), .nl]))), (5, (.o (.box [(.i .i64 0), (.s ⟨#[]⟩), (.own 4)]))), (7, (.o (.row 60 true []))), (9, (.o (.row 60 true [])))] (fun | [.I x22, .I x23, .I x24, .S x25, .R x26, .I x27, .S x28, .I x29, .S x30, .R x31, .R x32] => Pu.spec_StreamJoin.l10 N (fun y0 y1 y2 y3 y4 y5 y6 y7 y8 y9 y10 => (K (.exit 2) (tabl [(2, (.v (.v false [(.i .i64 y0)]))), (4, (.v (.v false [(.bp 0 0)]))), (8, (.v (.v false [(.bp 1 0)]))), (12, (.v (.v false [(.bp 2 0)]))), (14, (.v (.v false [(.own 3)]))), (18, (.v (.v false [(.i .i64 y1)]))), (1, (.o (.box [(.i .i64 y2), (.s y3), (.sh 60 y4)]))), (3, (.o (.box [(.i .i64 y5), (.s y6), .nl]))), (5, (.o (.box [(.i .i64 y7), (.s y8), (.own 4)]))), (7, (.o (.row 60 true y9))), (9, (.o (.row 60 true y10)))]))) N x22 x23 x24 x25 x26 x27 x28 x29 x30 x31 x32 | _ => none) L (none)) else none
theorem e49_4 {R : Type} (N : Nat) (K : Ex → St → Option R) : ∀ n : Nat, (∀ x0 x1 x2 x3 x4 x5 x6 x7 x8 x9 x10, iter (exc E49 (it49 N) (loopOf Try.f49 4)) (canon (E49.keep 4))  n (tabl [(2, (.v (.v false [(.i .i64 x0)]))), (4, (.v (.v false [(.bp 0 0)]))), (8, (.v (.v false [(.bp 1 0)]))), (12, (.v (.v false [(.bp 2 0)]))), (14, (.v (.v false [(.own 3)]))), (16, (.v (.v false [(.i .i64 x1)]))), (1, (.o (.box [(.i .i64 x2), (.s x3), (.sh 60 x4)]))), (3, (.o (.box [(.i .i64 x5), (.s x6), .nl]))), (5, (.o (.box [(.i .i64 x7), (.s x8), (.own 4)]))), (7, (.o (.row 60 true x9))), (9, (.o (.row 60 true x10)))]) K = Pu.spec_StreamJoin.l4 N (fun y0 y1 y2 y3 y4 y5 y6 y7 y8 y9 y10 => (K (.exit 0) (tabl [(2, (.v (.v false [(.i .i64 y0)]))), (4, (.v (.v false [(.bp 0 0)]))), (8, (.v (.v false [(.bp 1 0)]))), (12, (.v (.v false [(.bp 2 0)]))), (14, (.v (.v false [(.own 3)]))), (16, (.v (.v false [(.i .i64 y1)]))), (1, (.o (.box [(.i .i64 y2), (.s y3), (.sh 60 y4)]))), (3, (.o (.box [(.i .i64 y5), (.s y6), .nl]))), (5, (.o (.box [(.i .i64 y7), (.s y8), (.own 4)]))), (7, (.o (.row 60 true y9))), (9, (.o (.row 60 true y10)))]))) n x0 x1 x2 x3 x4 x5 x6 x7 x8 x9 x10) := by
  intro n
  induction n with
  | zero => exact (fun _ _ _ _ _ _ _ _ _ _ _ => rfl)
  | succ n ih =>
    have e0 : (fun x0 x1 x2 x3 x4 x5 x6 x7 x8 x9 x10 => iter (exc E49 (it49 N) (loopOf Try.f49 4)) (canon (E49.keep 4))  n (tabl [(2, (.v (.v false [(.i .i64 x0)]))), (4, (.v (.v false [(.bp 0 0)]))), (8, (.v (.v false [(.bp 1 0)]))), (12, (.v (.v false [(.bp 2 0)]))), (14, (.v (.v false [(.own 3)]))), (16, (.v (.v false [(.i .i64 x1)]))), (1, (.o (.box [(.i .i64 x2), (.s x3), (.sh 60 x4)]))), (3, (.o (.box [(.i .i64 x5), (.s x6), .nl]))), (5, (.o (.box [(.i .i64 x7), (.s x8), (.own 4)]))), (7, (.o (.row 60 true x9))), (9, (.o (.row 60 true x10)))]) K) = Pu.spec_StreamJoin.l4 N (fun y0 y1 y2 y3 y4 y5 y6 y7 y8 y9 y10 => (K (.exit 0) (tabl [(2, (.v (.v false [(.i .i64 y0)]))), (4, (.v (.v false [(.bp 0 0)]))), (8, (.v (.v false [(.bp 1 0)]))), (12, (.v (.v false [(.bp 2 0)]))), (14, (.v (.v false [(.own 3)]))), (16, (.v (.v false [(.i .i64 y1)]))), (1, (.o (.box [(.i .i64 y2), (.s y3), (.sh 60 y4)]))), (3, (.o (.box [(.i .i64 y5), (.s y6), .nl]))), (5, (.o (.box [(.i .i64 y7), (.s y8), (.own 4)]))), (7, (.o (.row 60 true y9))), (9, (.o (.row 60 true y10)))]))) n := by funext x0 x1 x2 x3 x4 x5 x6 x7 x8 x9 x10; exact ih x0 x1 x2 x3 x4 x5 x6 x7 x8 x9 x10
    intro x0 x1 x2 x3 x4 x5 x6 x7 x8 x9 x10
    have h : ∀ g, exc E49 (it49 N) (loopOf Try.f49 4) (tabl [(2, (.v (.v false [(.i .i64 x0)]))), (4, (.v (.v false [(.bp 0 0)]))), (8, (.v (.v false [(.bp 1 0)]))), (12, (.v (.v false [(.bp 2 0)]))), (14, (.v (.v false [(.own 3)]))), (16, (.v (.v false [(.i .i64 x1)]))), (1, (.o (.box [(.i .i64 x2), (.s x3), (.sh 60 x4)]))), (3, (.o (.box [(.i .i64 x5), (.s x6), .nl]))), (5, (.o (.box [(.i .i64 x7), (.s x8), (.own 4)]))), (7, (.o (.row 60 true x9))), (9, (.o (.row 60 true x10)))]) (iterK g (canon (E49.keep 4)) K) = Pu.spec_StreamJoin.r4 N (fun x0 x1 x2 x3 x4 x5 x6 x7 x8 x9 x10 => (g (tabl [(2, (.v (.v false [(.i .i64 x0)]))), (4, (.v (.v false [(.bp 0 0)]))), (8, (.v (.v false [(.bp 1 0)]))), (12, (.v (.v false [(.bp 2 0)]))), (14, (.v (.v false [(.own 3)]))), (16, (.v (.v false [(.i .i64 x1)]))), (1, (.o (.box [(.i .i64 x2), (.s x3), (.sh 60 x4)]))), (3, (.o (.box [(.i .i64 x5), (.s x6), .nl]))), (5, (.o (.box [(.i .i64 x7), (.s x8), (.own 4)]))), (7, (.o (.row 60 true x9))), (9, (.o (.row 60 true x10)))]))) (fun y0 y1 y2 y3 y4 y5 y6 y7 y8 y9 y10 => (K (.exit 0) (tabl [(2, (.v (.v false [(.i .i64 y0)]))), (4, (.v (.v false [(.bp 0 0)]))), (8, (.v (.v false [(.bp 1 0)]))), (12, (.v (.v false [(.bp 2 0)]))), (14, (.v (.v false [(.own 3)]))), (16, (.v (.v false [(.i .i64 y1)]))), (1, (.o (.box [(.i .i64 y2), (.s y3), (.sh 60 y4)]))), (3, (.o (.box [(.i .i64 y5), (.s y6), .nl]))), (5, (.o (.box [(.i .i64 y7), (.s y8), (.own 4)]))), (7, (.o (.row 60 true y9))), (9, (.o (.row 60 true y10)))]))) x0 x1 x2 x3 x4 x5 x6 x7 x8 x9 x10 := by intro g; kernel_rfl
    refine (h _).trans ?_
    show Pu.spec_StreamJoin.r4 N (fun x0 x1 x2 x3 x4 x5 x6 x7 x8 x9 x10 => (iter (exc E49 (it49 N) (loopOf Try.f49 4)) (canon (E49.keep 4))  n (tabl [(2, (.v (.v false [(.i .i64 x0)]))), (4, (.v (.v false [(.bp 0 0)]))), (8, (.v (.v false [(.bp 1 0)]))), (12, (.v (.v false [(.bp 2 0)]))), (14, (.v (.v false [(.own 3)]))), (16, (.v (.v false [(.i .i64 x1)]))), (1, (.o (.box [(.i .i64 x2), (.s x3), (.sh 60 x4)]))), (3, (.o (.box [(.i .i64 x5), (.s x6), .nl]))), (5, (.o (.box [(.i .i64 x7), (.s x8), (.own 4)]))), (7, (.o (.row 60 true x9))), (9, (.o (.row 60 true x10)))]) K)) (fun y0 y1 y2 y3 y4 y5 y6 y7 y8 y9 y10 => (K (.exit 0) (tabl [(2, (.v (.v false [(.i .i64 y0)]))), (4, (.v (.v false [(.bp 0 0)]))), (8, (.v (.v false [(.bp 1 0)]))), (12, (.v (.v false [(.bp 2 0)]))), (14, (.v (.v false [(.own 3)]))), (16, (.v (.v false [(.i .i64 y1)]))), (1, (.o (.box [(.i .i64 y2), (.s y3), (.sh 60 y4)]))), (3, (.o (.box [(.i .i64 y5), (.s y6), .nl]))), (5, (.o (.box [(.i .i64 y7), (.s y8), (.own 4)]))), (7, (.o (.row 60 true y9))), (9, (.o (.row 60 true y10)))]))) x0 x1 x2 x3 x4 x5 x6 x7 x8 x9 x10 = _
    rw [e0]; rfl
theorem lo49_4 {R : Type} (N : Nat) : LoopOk E49 (it49 N (R := R)) (loopOf Try.f49 4) := by
  have e : firstRid (loopOf Try.f49 4) = 4 := by kernel_rfl
  intro L K r
  rw [e]
  intro h
  unfold it49 at h
  simp only [show Nat.beq 4 4 = true from rfl, cond_false, cond_true] at h
  refine tell_ok (Q := fun L => ∃ n, iter (exc E49 (it49 N) (loopOf Try.f49 4)) (canon (E49.keep 4)) n (tabl L) K = some r) h (fun xs h => ?_) (fun h => ?_)
  · (try dsimp only at h)
    split at h
    · exact ⟨N, ((e49_4 N K N) _ _ _ _ _ _ _ _ _ _ _).trans h⟩
    · cases h
  cases h
theorem e49_10 {R : Type} (N : Nat) (K : Ex → St → Option R) : ∀ n : Nat, (∀ x22 x23 x24 x25 x26 x27 x28 x29 x30 x31 x32, iter (exc E49 (it49 N) (loopOf Try.f49 10)) (canon (E49.keep 10))  n (tabl [(2, (.v (.v false [(.i .i64 x22)]))), (4, (.v (.v false [(.bp 0 0)]))), (8, (.v (.v false [(.bp 1 0)]))), (12, (.v (.v false [(.bp 2 0)]))), (14, (.v (.v false [(.own 3)]))), (18, (.v (.v false [(.i .i64 x23)]))), (1, (.o (.box [(.i .i64 x24), (.s x25), (.sh 60 x26)]))), (3, (.o (.box [(.i .i64 x27), (.s x28), .nl]))), (5, (.o (.box [(.i .i64 x29), (.s x30), (.own 4)]))), (7, (.o (.row 60 true x31))), (9, (.o (.row 60 true x32)))]) K = Pu.spec_StreamJoin.l10 N (fun y0 y1 y2 y3 y4 y5 y6 y7 y8 y9 y10 => (K (.exit 2) (tabl [(2, (.v (.v false [(.i .i64 y0)]))), (4, (.v (.v false [(.bp 0 0)]))), (8, (.v (.v false [(.bp 1 0)]))), (12, (.v (.v false [(.bp 2 0)]))), (14, (.v (.v false [(.own 3)]))), (18, (.v (.v false [(.i .i64 y1)]))), (1, (.o (.box [(.i .i64 y2), (.s y3), (.sh 60 y4)]))), (3, (.o (.box [(.i .i64 y5), (.s y6), .nl]))), (5, (.o (.box [(.i .i64 y7), (.s y8), (.own 4)]))), (7, (.o (.row 60 true y9))), (9, (.o (.row 60 true y10)))]))) n x22 x23 x24 x25 x26 x27 x28 x29 x30 x31 x32) := by
  intro n
  induction n with
  | zero => exact (fun _ _ _ _ _ _ _ _ _ _ _ => rfl)
  | succ n ih =>
    have e0 : (fun x22 x23 x24 x25 x26 x27 x28 x29 x30 x31 x32 => iter (exc E49 (it49 N) (loopOf Try.f49 10)) (canon (E49.keep 10))  n (tabl [(2, (.v (.v false [(.i .i64 x22)]))), (4, (.v (.v false [(.bp 0 0)]))), (8, (.v (.v false [(.bp 1 0)]))), (12, (.v (.v false [(.bp 2 0)]))), (14, (.v (.v false [(.own 3)]))), (18, (.v (.v false [(.i .i64 x23)]))), (1, (.o (.box [(.i .i64 x24), (.s x25), (.sh 60 x26)]))), (3, (.o (.box [(.i .i64 x27), (.s x28), .nl]))), (5, (.o (.box [(.i .i64 x29), (.s x30), (.own 4)]))), (7, (.o (.row 60 true x31))), (9, (.o (.row 60 true x32)))]) K) = Pu.spec_StreamJoin.l10 N (fun y0 y1 y2 y3 y4 y5 y6 y7 y8 y9 y10 => (K (.exit 2) (tabl [(2, (.v (.v false [(.i .i64 y0)]))), (4, (.v (.v false [(.bp 0 0)]))), (8, (.v (.v false [(.bp 1 0)]))), (12, (.v (.v false [(.bp 2 0)]))), (14, (.v (.v false [(.own 3)]))), (18, (.v (.v false [(.i .i64 y1)]))), (1, (.o (.box [(.i .i64 y2), (.s y3), (.sh 60 y4)]))), (3, (.o (.box [(.i .i64 y5), (.s y6), .nl]))), (5, (.o (.box [(.i .i64 y7), (.s y8), (.own 4)]))), (7, (.o (.row 60 true y9))), (9, (.o (.row 60 true y10)))]))) n := by funext x22 x23 x24 x25 x26 x27 x28 x29 x30 x31 x32; exact ih x22 x23 x24 x25 x26 x27 x28 x29 x30 x31 x32
    intro x22 x23 x24 x25 x26 x27 x28 x29 x30 x31 x32
    have h : ∀ g, exc E49 (it49 N) (loopOf Try.f49 10) (tabl [(2, (.v (.v false [(.i .i64 x22)]))), (4, (.v (.v false [(.bp 0 0)]))), (8, (.v (.v false [(.bp 1 0)]))), (12, (.v (.v false [(.bp 2 0)]))), (14, (.v (.v false [(.own 3)]))), (18, (.v (.v false [(.i .i64 x23)]))), (1, (.o (.box [(.i .i64 x24), (.s x25), (.sh 60 x26)]))), (3, (.o (.box [(.i .i64 x27), (.s x28), .nl]))), (5, (.o (.box [(.i .i64 x29), (.s x30), (.own 4)]))), (7, (.o (.row 60 true x31))), (9, (.o (.row 60 true x32)))]) (iterK g (canon (E49.keep 10)) K) = Pu.spec_StreamJoin.r10 N (fun x22 x23 x24 x25 x26 x27 x28 x29 x30 x31 x32 => (g (tabl [(2, (.v (.v false [(.i .i64 x22)]))), (4, (.v (.v false [(.bp 0 0)]))), (8, (.v (.v false [(.bp 1 0)]))), (12, (.v (.v false [(.bp 2 0)]))), (14, (.v (.v false [(.own 3)]))), (18, (.v (.v false [(.i .i64 x23)]))), (1, (.o (.box [(.i .i64 x24), (.s x25), (.sh 60 x26)]))), (3, (.o (.box [(.i .i64 x27), (.s x28), .nl]))), (5, (.o (.box [(.i .i64 x29), (.s x30), (.own 4)]))), (7, (.o (.row 60 true x31))), (9, (.o (.row 60 true x32)))]))) (fun y0 y1 y2 y3 y4 y5 y6 y7 y8 y9 y10 => (K (.exit 2) (tabl [(2, (.v (.v false [(.i .i64 y0)]))), (4, (.v (.v false [(.bp 0 0)]))), (8, (.v (.v false [(.bp 1 0)]))), (12, (.v (.v false [(.bp 2 0)]))), (14, (.v (.v false [(.own 3)]))), (18, (.v (.v false [(.i .i64 y1)]))), (1, (.o (.box [(.i .i64 y2), (.s y3), (.sh 60 y4)]))), (3, (.o (.box [(.i .i64 y5), (.s y6), .nl]))), (5, (.o (.box [(.i .i64 y7), (.s y8), (.own 4)]))), (7, (.o (.row 60 true y9))), (9, (.o (.row 60 true y10)))]))) x22 x23 x24 x25 x26 x27 x28 x29 x30 x31 x32 := by intro g; kernel_rfl
    refine (h _).trans ?_
    show Pu.spec_StreamJoin.r10 N (fun x22 x23 x24 x25 x26 x27 x28 x29 x30 x31 x32 => (iter (exc E49 (it49 N) (loopOf Try.f49 10)) (canon (E49.keep 10))  n (tabl [(2, (.v (.v false [(.i .i64 x22)]))), (4, (.v (.v false [(.bp 0 0)]))), (8, (.v (.v false [(.bp 1 0)]))), (12, (.v (.v false [(.bp 2 0)]))), (14, (.v (.v false [(.own 3)]))), (18, (.v (.v false [(.i .i64 x23)]))), (1, (.o (.box [(.i .i64 x24), (.s x25), (.sh 60 x26)]))), (3, (.o (.box [(.i .i64 x27), (.s x28), .nl]))), (5, (.o (.box [(.i .i64 x29), (.s x30), (.own 4)]))), (7, (.o (.row 60 true x31))), (9, (.o (.row 60 true x32)))]) K)) (fun y0 y1 y2 y3 y4 y5 y6 y7 y8 y9 y10 => (K (.exit 2) (tabl [(2, (.v (.v false [(.i .i64 y0)]))), (4, (.v (.v false [(.bp 0 0)]))), (8, (.v (.v false [(.bp 1 0)]))), (12, (.v (.v false [(.bp 2 0)]))), (14, (.v (.v false [(.own 3)]))), (18, (.v (.v false [(.i .i64 y1)]))), (1, (.o (.box [(.i .i64 y2), (.s y3), (.sh 60 y4)]))), (3, (.o (.box [(.i .i64 y5), (.s y6), .nl]))), (5, (.o (.box [(.i .i64 y7), (.s y8), (.own 4)]))), (7, (.o (.row 60 true y9))), (9, (.o (.row 60 true y10)))]))) x22 x23 x24 x25 x26 x27 x28 x29 x30 x31 x32 = _
    rw [e0]; rfl
theorem lo49_10 {R : Type} (N : Nat) : LoopOk E49 (it49 N (R := R)) (loopOf Try.f49 10) := by
  have e : firstRid (loopOf Try.f49 10) = 10 := by kernel_rfl
  intro L K r
  rw [e]
  intro h
  unfold it49 at h
  simp only [show Nat.beq 10 4 = false from rfl, show Nat.beq 10 10 = true from rfl, cond_false, cond_true] at h
  refine tell_ok (Q := fun L => ∃ n, iter (exc E49 (it49 N) (loopOf Try.f49 10)) (canon (E49.keep 10)) n (tabl L) K = some r) h (fun xs h => ?_) (fun h => ?_)
  · (try dsimp only at h)
    split at h
    · exact ⟨N, ((e49_10 N K N) _ _ _ _ _ _ _ _ _ _ _).trans h⟩
    · cases h
  cases h
def sp49 : List Arg → Option (Bool × Res)
  | [(.v true [(.i .i64 s0_0), (.s s0_1), (.sh 60 s0_2)]), (.v false [(.i .i64 id1)])] => some (Pu.spec_StreamJoin.c s0_0 s0_1 s0_2 id1, ⟨[(.v true [(.i .i64 ((Pu.spec_StreamJoin.v s0_0 s0_1 s0_2 id1).1)), (.s ((Pu.spec_StreamJoin.v s0_0 s0_1 s0_2 id1).2.1)), (.ow 60 true ((Pu.spec_StreamJoin.v s0_0 s0_1 s0_2 id1).2.2.1))]), (.v false [(.b ((Pu.spec_StreamJoin.v s0_0 s0_1 s0_2 id1).2.2.2))])], []⟩)
  | _ => none
theorem ok49 : FnOk Try.prog T 49 sp49 := by
  refine fn_ok (E := E49) hE (call_cons ok121 (call_cons ok53 (call_cons ok123 call_nil))) hM Try.func49 (code := (Try.f49.body.getD .skip)) (by kernel_rfl) (by kernel_rfl) ?_
  have key : ∀ (s0_0 : Int) (s0_1 : ByteArray) (s0_2 : Row) (id1 : Int), Pu.spec_StreamJoin.c s0_0 s0_1 s0_2 id1 = true → ∃ it : It Res, (∀ c ∈ loopsOf (Try.f49.body.getD .skip), LoopOk E49 it c) ∧ body E49 it Try.f49 [(.v true [(.i .i64 s0_0), (.s s0_1), (.sh 60 s0_2)]), (.v false [(.i .i64 id1)])] = some ⟨[(.v true [(.i .i64 ((Pu.spec_StreamJoin.v s0_0 s0_1 s0_2 id1).1)), (.s ((Pu.spec_StreamJoin.v s0_0 s0_1 s0_2 id1).2.1)), (.ow 60 true ((Pu.spec_StreamJoin.v s0_0 s0_1 s0_2 id1).2.2.1))]), (.v false [(.b ((Pu.spec_StreamJoin.v s0_0 s0_1 s0_2 id1).2.2.2))])], []⟩ := by
    intro s0_0 s0_1 s0_2 id1  h1
    obtain ⟨N, hN⟩ := Pu.spec_StreamJoin.b_eq (R := Res) (fun r0 r1 r2 r3 => some ⟨[(.v true [(.i .i64 r0), (.s r1), (.ow 60 true r2)]), (.v false [(.b r3)])], []⟩) s0_0 s0_1 s0_2 id1 h1
    have hl : loopsOf (Try.f49.body.getD .skip) = [loopOf Try.f49 4, loopOf Try.f49 10] := by kernel_rfl
    refine ⟨it49 N, by rw [hl]; exact (loops_cons (lo49_4 N) (loops_cons (lo49_10 N) loops_nil)), ?_⟩
    refine Eq.trans (show body E49 (it49 N) Try.f49 [(.v true [(.i .i64 s0_0), (.s s0_1), (.sh 60 s0_2)]), (.v false [(.i .i64 id1)])] = Pu.spec_StreamJoin.b N (fun r0 r1 r2 r3 => some ⟨[(.v true [(.i .i64 r0), (.s r1), (.ow 60 true r2)]), (.v false [(.b r3)])], []⟩) s0_0 s0_1 s0_2 id1 by kernel_rfl) hN
  intro args r h
  unfold sp49 at h
  split at h
  · injection h with h
    injection h with h1 h2
    subst h2
    exact ⟨by kernel_rfl, fun hf => ⟨of_decide_eq_true (by kernel_rfl), key _ _ _ _ h1⟩⟩
  · cases h

end Go.FG.Se

namespace Go.FG.Se
open Go.Proofs
def E51 : Env := { toTab := T, call := Go.FG.callIn [(121, sp121), (123, sp123), (53, sp53)], mode := Go.FG.modeIn md, keep := Go.FG.keepIn [], tk := fun n => Go.FG.memB n [], om := Go.FG.omIn [] }
def sp51 : List Arg → Option (Bool × Res)
  | [(.v true [(.i .i64 s0_0), (.s s0_1), (.sh 60 s0_2)]), (.v false [(.i .i64 id1)]), (.v false [(.i .i64 most2)])] => some (Pu.spec_StreamRead.c s0_0 s0_1 s0_2 id1 most2, ⟨[(.v true [(.i .i64 ((Pu.spec_StreamRead.v s0_0 s0_1 s0_2 id1 most2).1)), (.s ((Pu.spec_StreamRead.v s0_0 s0_1 s0_2 id1 most2).2.1)), (.ow 60 true ((Pu.spec_StreamRead.v s0_0 s0_1 s0_2 id1 most2).2.2.1))]), (.v false [(.s ((Pu.spec_StreamRead.v s0_0 s0_1 s0_2 id1 most2).2.2.2.1))]), (.v false [(.b ((Pu.spec_StreamRead.v s0_0 s0_1 s0_2 id1 most2).2.2.2.2))])], []⟩)
  | _ => none
theorem ok51 : FnOk Try.prog T 51 sp51 := by
  refine fn_ok (E := E51) hE (call_cons ok121 (call_cons ok123 (call_cons ok53 call_nil))) hM Try.func51 (code := (Try.f51.body.getD .skip)) (by kernel_rfl) (by kernel_rfl) ?_
  have key : ∀ (s0_0 : Int) (s0_1 : ByteArray) (s0_2 : Row) (id1 : Int) (most2 : Int), Pu.spec_StreamRead.c s0_0 s0_1 s0_2 id1 most2 = true → ∃ it : It Res, (∀ c ∈ loopsOf (Try.f51.body.getD .skip), LoopOk E51 it c) ∧ body E51 it Try.f51 [(.v true [(.i .i64 s0_0), (.s s0_1), (.sh 60 s0_2)]), (.v false [(.i .i64 id1)]), (.v false [(.i .i64 most2)])] = some ⟨[(.v true [(.i .i64 ((Pu.spec_StreamRead.v s0_0 s0_1 s0_2 id1 most2).1)), (.s ((Pu.spec_StreamRead.v s0_0 s0_1 s0_2 id1 most2).2.1)), (.ow 60 true ((Pu.spec_StreamRead.v s0_0 s0_1 s0_2 id1 most2).2.2.1))]), (.v false [(.s ((Pu.spec_StreamRead.v s0_0 s0_1 s0_2 id1 most2).2.2.2.1))]), (.v false [(.b ((Pu.spec_StreamRead.v s0_0 s0_1 s0_2 id1 most2).2.2.2.2))])], []⟩ := by
    intro s0_0 s0_1 s0_2 id1 most2  h1
    have hN := Pu.spec_StreamRead.b_eq (R := Res) (fun r0 r1 r2 r3 r4 => some ⟨[(.v true [(.i .i64 r0), (.s r1), (.ow 60 true r2)]), (.v false [(.s r3)]), (.v false [(.b r4)])], []⟩) s0_0 s0_1 s0_2 id1 most2 h1
    have hl : loopsOf (Try.f51.body.getD .skip) = [] := by kernel_rfl
    refine ⟨iterN 0, by rw [hl]; exact loops_nil, ?_⟩
    refine Eq.trans (show body E51 (iterN 0) Try.f51 [(.v true [(.i .i64 s0_0), (.s s0_1), (.sh 60 s0_2)]), (.v false [(.i .i64 id1)]), (.v false [(.i .i64 most2)])] = Pu.spec_StreamRead.b (fun r0 r1 r2 r3 r4 => some ⟨[(.v true [(.i .i64 r0), (.s r1), (.ow 60 true r2)]), (.v false [(.s r3)]), (.v false [(.b r4)])], []⟩) s0_0 s0_1 s0_2 id1 most2 by kernel_rfl) hN
  intro args r h
  unfold sp51 at h
  split at h
  · injection h with h
    injection h with h1 h2
    subst h2
    exact ⟨by kernel_rfl, fun hf => ⟨of_decide_eq_true (by kernel_rfl), key _ _ _ _ _ h1⟩⟩
  · cases h

end Go.FG.Se

namespace Go.FG.Se
open Go.Proofs
def E176 : Env := { toTab := T, call := Go.FG.callIn [], mode := Go.FG.modeIn md, keep := Go.FG.keepIn [], tk := fun n => Go.FG.memB n [], om := Go.FG.omIn [] }
def sp176 : List Arg → Option (Bool × Res)
  | [(.v true [(.i .i64 r0_0), (.i .i64 r0_1)]), (.fb [(.i .i64 id1)])] => some (true, ⟨[(.v false [(.b (Pu.impl_readerAt_1.v r0_0 r0_1 id1))])], []⟩)
  | _ => none
theorem ok176 : FnOk Try.prog T 176 sp176 := by
  refine fn_ok (E := E176) hE call_nil hM Try.func176 (code := (Try.f176.body.getD .skip)) (by kernel_rfl) (by kernel_rfl) ?_
  have key : ∀ (r0_0 : Int) (r0_1 : Int) (id1 : Int), ∃ it : It Res, (∀ c ∈ loopsOf (Try.f176.body.getD .skip), LoopOk E176 it c) ∧ body E176 it Try.f176 [(.v true [(.i .i64 r0_0), (.i .i64 r0_1)]), (.fb [(.i .i64 id1)])] = some ⟨[(.v false [(.b (Pu.impl_readerAt_1.v r0_0 r0_1 id1))])], []⟩ := by
    intro r0_0 r0_1 id1 
    have hN := Pu.impl_readerAt_1.b_eq (R := Res) (fun r0 => some ⟨[(.v false [(.b r0)])], []⟩) r0_0 r0_1 id1
    have hl : loopsOf (Try.f176.body.getD .skip) = [] := by kernel_rfl
    refine ⟨iterN 0, by rw [hl]; exact loops_nil, ?_⟩
    refine Eq.trans (show body E176 (iterN 0) Try.f176 [(.v true [(.i .i64 r0_0), (.i .i64 r0_1)]), (.fb [(.i .i64 id1)])] = Pu.impl_readerAt_1.b (fun r0 => some ⟨[(.v false [(.b r0)])], []⟩) r0_0 r0_1 id1 by kernel_rfl) hN
  intro args r h
  unfold sp176 at h
  split at h
  · injection h with h
    injection h with h1 h2
    subst h2
    exact ⟨by kernel_rfl, fun hf => ⟨of_decide_eq_true (by kernel_rfl), key _ _ _⟩⟩
  · cases h

end Go.FG.Se

namespace Go.FG.Se
open Go.Proofs
def E175a : Env := { toTab := T, call := Go.FG.callIn [(176, sp176)], mode := Go.FG.modeIn md, keep := Go.FG.keepIn [(2, [0, 1, 4, 7, 8])], tk := fun n => Go.FG.memB n [], om := Go.FG.omIn [] }
def it175a (N : Nat) {R : Type} : It R := fun rid f cn L K => bif Nat.beq rid 2 then (tell [(0, (.v (.v false [(.sh 60 [])]))), (2, (.v (.v false [(.fn 176 [[(.i .i64 0)]])]))), (8, (.v (.v false [(.i .i64 0)]))), (14, (.v (.v false [(.i .i64 0)]))), (16, (.v (.v false [(.i .i64 0)])))] (fun | [.R x0, .I x1, .I x2, .I x3, .I x4] => Pu.slices_IndexFunc_Readera.l2 N (fun y0 y1 y2 y3 y4 => (K .ret (tabl [(0, (.v (.v false [(.sh 60 y0)]))), (2, (.v (.v false [(.fn 176 [[(.i .i64 y1)]])]))), (8, (.v (.v false [(.i .i64 y2)]))), (14, (.v (.v false [(.i .i64 y3)]))), (16, (.v (.v false [(.i .i64 y4)])))]))) (fun y0 y1 y2 y3 y4 => (K (.exit 0) (tabl [(0, (.v (.v false [(.sh 60 y0)]))), (2, (.v (.v false [(.fn 176 [[(.i .i64 y1)]])]))), (8, (.v (.v false [(.i .i64 y2)]))), (14, (.v (.v false [(.i .i64 y3)]))), (16, (.v (.v false [(.i .i64 y4)])))]))) N x0 x1 x2 x3 x4 | _ => none) L (none)) else none
theorem e175a_2 {R : Type} (N : Nat) (K : Ex → St → Option R) : ∀ n : Nat, (∀ x0 x1 x2 x3 x4, iter (exc E175a (it175a N) (loopOf Try.f175 2)) (canon (E175a.keep 2))  n (tabl [(0, (.v (.v false [(.sh 60 x0)]))), (2, (.v (.v false [(.fn 176 [[(.i .i64 x1)]])]))), (8, (.v (.v false [(.i .i64 x2)]))), (14, (.v (.v false [(.i .i64 x3)]))), (16, (.v (.v false [(.i .i64 x4)])))]) K = Pu.slices_IndexFunc_Readera.l2 N (fun y0 y1 y2 y3 y4 => (K .ret (tabl [(0, (.v (.v false [(.sh 60 y0)]))), (2, (.v (.v false [(.fn 176 [[(.i .i64 y1)]])]))), (8, (.v (.v false [(.i .i64 y2)]))), (14, (.v (.v false [(.i .i64 y3)]))), (16, (.v (.v false [(.i .i64 y4)])))]))) (fun y0 y1 y2 y3 y4 => (K (.exit 0) (tabl [(0, (.v (.v false [(.sh 60 y0)]))), (2, (.v (.v false [(.fn 176 [[(.i .i64 y1)]])]))), (8, (.v (.v false [(.i .i64 y2)]))), (14, (.v (.v false [(.i .i64 y3)]))), (16, (.v (.v false [(.i .i64 y4)])))]))) n x0 x1 x2 x3 x4) := by
  intro n
  induction n with
  | zero => exact (fun _ _ _ _ _ => rfl)
  | succ n ih =>
    have e0 : (fun x0 x1 x2 x3 x4 => iter (exc E175a (it175a N) (loopOf Try.f175 2)) (canon (E175a.keep 2))  n (tabl [(0, (.v (.v false [(.sh 60 x0)]))), (2, (.v (.v false [(.fn 176 [[(.i .i64 x1)]])]))), (8, (.v (.v false [(.i .i64 x2)]))), (14, (.v (.v false [(.i .i64 x3)]))), (16, (.v (.v false [(.i .i64 x4)])))]) K) = Pu.slices_IndexFunc_Readera.l2 N (fun y0 y1 y2 y3 y4 => (K .ret (tabl [(0, (.v (.v false [(.sh 60 y0)]))), (2, (.v (.v false [(.fn 176 [[(.i .i64 y1)]])]))), (8, (.v (.v false [(.i .i64 y2)]))), (14, (.v (.v false [(.i .i64 y3)]))), (16, (.v (.v false [(.i .i64 y4)])))]))) (fun y0 y1 y2 y3 y4 => (K (.exit 0) (tabl [(0, (.v (.v false [(.sh 60 y0)]))), (2, (.v (.v false [(.fn 176 [[(.i .i64 y1)]])]))), (8, (.v (.v false [(.i .i64 y2)]))), (14, (.v (.v false [(.i .i64 y3)]))), (16, (.v (.v false [(.i .i64 y4)])))]))) n := by funext x0 x1 x2 x3 x4; exact ih x0 x1 x2 x3 x4
    intro x0 x1 x2 x3 x4
    have h : ∀ g, exc E175a (it175a N) (loopOf Try.f175 2) (tabl [(0, (.v (.v false [(.sh 60 x0)]))), (2, (.v (.v false [(.fn 176 [[(.i .i64 x1)]])]))), (8, (.v (.v false [(.i .i64 x2)]))), (14, (.v (.v false [(.i .i64 x3)]))), (16, (.v (.v false [(.i .i64 x4)])))]) (iterK g (canon (E175a.keep 2)) K) = Pu.slices_IndexFunc_Readera.r2 N (fun x0 x1 x2 x3 x4 => (g (tabl [(0, (.v (.v false [(.sh 60 x0)]))), (2, (.v (.v false [(.fn 176 [[(.i .i64 x1)]])]))), (8, (.v (.v false [(.i .i64 x2)]))), (14, (.v (.v false [(.i .i64 x3)]))), (16, (.v (.v false [(.i .i64 x4)])))]))) (fun y0 y1 y2 y3 y4 => (K .ret (tabl [(0, (.v (.v false [(.sh 60 y0)]))), (2, (.v (.v false [(.fn 176 [[(.i .i64 y1)]])]))), (8, (.v (.v false [(.i .i64 y2)]))), (14, (.v (.v false [(.i .i64 y3)]))), (16, (.v (.v false [(.i .i64 y4)])))]))) (fun y0 y1 y2 y3 y4 => (K (.exit 0) (tabl [(0, (.v (.v false [(.sh 60 y0)]))), (2, (.v (.v false [(.fn 176 [[(.i .i64 y1)]])]))), (8, (.v (.v false [(.i .i64 y2)]))), (14, (.v (.v false [(.i .i64 y3)]))), (16, (.v (.v false [(.i .i64 y4)])))]))) x0 x1 x2 x3 x4 := by intro g; kernel_rfl
    refine (h _).trans ?_
    show Pu.slices_IndexFunc_Readera.r2 N (fun x0 x1 x2 x3 x4 => (iter (exc E175a (it175a N) (loopOf Try.f175 2)) (canon (E175a.keep 2))  n (tabl [(0, (.v (.v false [(.sh 60 x0)]))), (2, (.v (.v false [(.fn 176 [[(.i .i64 x1)]])]))), (8, (.v (.v false [(.i .i64 x2)]))), (14, (.v (.v false [(.i .i64 x3)]))), (16, (.v (.v false [(.i .i64 x4)])))]) K)) (fun y0 y1 y2 y3 y4 => (K .ret (tabl [(0, (.v (.v false [(.sh 60 y0)]))), (2, (.v (.v false [(.fn 176 [[(.i .i64 y1)]])]))), (8, (.v (.v false [(.i .i64 y2)]))), (14, (.v (.v false [(.i .i64 y3)]))), (16, (.v (.v false [(.i .i64 y4)])))]))) (fun y0 y1 y2 y3 y4 => (K (.exit 0) (tabl [(0, (.v (.v false [(.sh 60 y0)]))), (2, (.v (.v false [(.fn 176 [[(.i .i64 y1)]])]))), (8, (.v (.v false [(.i .i64 y2)]))), (14, (.v (.v false [(.i .i64 y3)]))), (16, (.v (.v false [(.i .i64 y4)])))]))) x0 x1 x2 x3 x4 = _
    rw [e0]; rfl
theorem lo175a_2 {R : Type} (N : Nat) : LoopOk E175a (it175a N (R := R)) (loopOf Try.f175 2) := by
  have e : firstRid (loopOf Try.f175 2) = 2 := by kernel_rfl
  intro L K r
  rw [e]
  intro h
  unfold it175a at h
  simp only [show Nat.beq 2 2 = true from rfl, cond_false, cond_true] at h
  refine tell_ok (Q := fun L => ∃ n, iter (exc E175a (it175a N) (loopOf Try.f175 2)) (canon (E175a.keep 2)) n (tabl L) K = some r) h (fun xs h => ?_) (fun h => ?_)
  · (try dsimp only at h)
    split at h
    · exact ⟨N, ((e175a_2 N K N) _ _ _ _ _).trans h⟩
    · cases h
  cases h
def sp175a : List Arg → Option (Bool × Res)
  | [(.v false [(.sh 60 s0)]), (.v false [(.fn 176 [[(.i .i64 id1)]])])] => some (true, ⟨[(.v false [(.i .i64 (Pu.slices_IndexFunc_Readera.v s0 id1))])], []⟩)
  | _ => none
theorem ok175a : FnOk Try.prog T 175 sp175a := by
  refine fn_ok (E := E175a) hE (call_cons ok176 call_nil) hM Try.func175 (code := (Try.f175.body.getD .skip)) (by kernel_rfl) (by kernel_rfl) ?_
  have key : ∀ (s0 : Row) (id1 : Int), FitR s0 → ∃ it : It Res, (∀ c ∈ loopsOf (Try.f175.body.getD .skip), LoopOk E175a it c) ∧ body E175a it Try.f175 [(.v false [(.sh 60 s0)]), (.v false [(.fn 176 [[(.i .i64 id1)]])])] = some ⟨[(.v false [(.i .i64 (Pu.slices_IndexFunc_Readera.v s0 id1))])], []⟩ := by
    intro s0 id1  g0
    obtain ⟨N, hN⟩ := Pu.slices_IndexFunc_Readera.b_eq (R := Res) (fun r0 => some ⟨[(.v false [(.i .i64 r0)])], []⟩) s0 id1 g0
    have hl : loopsOf (Try.f175.body.getD .skip) = [loopOf Try.f175 2] := by kernel_rfl
    refine ⟨it175a N, by rw [hl]; exact (loops_cons (lo175a_2 N) loops_nil), ?_⟩
    refine Eq.trans (show body E175a (it175a N) Try.f175 [(.v false [(.sh 60 s0)]), (.v false [(.fn 176 [[(.i .i64 id1)]])])] = Pu.slices_IndexFunc_Readera.b N (fun r0 => some ⟨[(.v false [(.i .i64 r0)])], []⟩) s0 id1 by kernel_rfl) hN
  intro args r h
  unfold sp175a at h
  split at h
  · injection h with h
    injection h with h1 h2
    subst h2
    exact ⟨by kernel_rfl, fun hf => ⟨of_decide_eq_true (by kernel_rfl), key _ _ hf.1.1⟩⟩
  · cases h

end Go.FG.Se

namespace Go.FG.Se
open Go.Proofs
def E117 : Env := { toTab := T, call := Go.FG.callIn [], mode := Go.FG.modeIn md, keep := Go.FG.keepIn [], tk := fun n => Go.FG.memB n [], om := Go.FG.omIn [] }
def sp117 : List Arg → Option (Bool × Res)
  | [(.v true [(.i .i64 r0_0), (.i .i64 r0_1)]), (.fb [(.i .i64 id1)])] => some (true, ⟨[(.v false [(.b (Pu.impl_StreamLeave_1.v r0_0 r0_1 id1))])], []⟩)
  | _ => none
theorem ok117 : FnOk Try.prog T 117 sp117 := by
  refine fn_ok (E := E117) hE call_nil hM Try.func117 (code := (Try.f117.body.getD .skip)) (by kernel_rfl) (by kernel_rfl) ?_
  have key : ∀ (r0_0 : Int) (r0_1 : Int) (id1 : Int), ∃ it : It Res, (∀ c ∈ loopsOf (Try.f117.body.getD .skip), LoopOk E117 it c) ∧ body E117 it Try.f117 [(.v true [(.i .i64 r0_0), (.i .i64 r0_1)]), (.fb [(.i .i64 id1)])] = some ⟨[(.v false [(.b (Pu.impl_StreamLeave_1.v r0_0 r0_1 id1))])], []⟩ := by
    intro r0_0 r0_1 id1 
    have hN := Pu.impl_StreamLeave_1.b_eq (R := Res) (fun r0 => some ⟨[(.v false [(.b r0)])], []⟩) r0_0 r0_1 id1
    have hl : loopsOf (Try.f117.body.getD .skip) = [] := by kernel_rfl
    refine ⟨iterN 0, by rw [hl]; exact loops_nil, ?_⟩
    refine Eq.trans (show body E117 (iterN 0) Try.f117 [(.v true [(.i .i64 r0_0), (.i .i64 r0_1)]), (.fb [(.i .i64 id1)])] = Pu.impl_StreamLeave_1.b (fun r0 => some ⟨[(.v false [(.b r0)])], []⟩) r0_0 r0_1 id1 by kernel_rfl) hN
  intro args r h
  unfold sp117 at h
  split at h
  · injection h with h
    injection h with h1 h2
    subst h2
    exact ⟨by kernel_rfl, fun hf => ⟨of_decide_eq_true (by kernel_rfl), key _ _ _⟩⟩
  · cases h

end Go.FG.Se

namespace Go.FG.Se
open Go.Proofs
def E175b : Env := { toTab := T, call := Go.FG.callIn [(117, sp117)], mode := Go.FG.modeIn md, keep := Go.FG.keepIn [(2, [0, 1, 4, 7, 8])], tk := fun n => Go.FG.memB n [], om := Go.FG.omIn [] }
def it175b (N : Nat) {R : Type} : It R := fun rid f cn L K => bif Nat.beq rid 2 then (tell [(0, (.v (.v false [(.sh 60 [])]))), (2, (.v (.v false [(.fn 117 [[(.i .i64 0)]])]))), (8, (.v (.v false [(.i .i64 0)]))), (14, (.v (.v false [(.i .i64 0)]))), (16, (.v (.v false [(.i .i64 0)])))] (fun | [.R x0, .I x1, .I x2, .I x3, .I x4] => Pu.slices_IndexFunc_Readerb.l2 N (fun y0 y1 y2 y3 y4 => (K .ret (tabl [(0, (.v (.v false [(.sh 60 y0)]))), (2, (.v (.v false [(.fn 117 [[(.i .i64 y1)]])]))), (8, (.v (.v false [(.i .i64 y2)]))), (14, (.v (.v false [(.i .i64 y3)]))), (16, (.v (.v false [(.i .i64 y4)])))]))) (fun y0 y1 y2 y3 y4 => (K (.exit 0) (tabl [(0, (.v (.v false [(.sh 60 y0)]))), (2, (.v (.v false [(.fn 117 [[(.i .i64 y1)]])]))), (8, (.v (.v false [(.i .i64 y2)]))), (14, (.v (.v false [(.i .i64 y3)]))), (16, (.v (.v false [(.i .i64 y4)])))]))) N x0 x1 x2 x3 x4 | _ => none) L (none)) else none
theorem e175b_2 {R : Type} (N : Nat) (K : Ex → St → Option R) : ∀ n : Nat, (∀ x0 x1 x2 x3 x4, iter (exc E175b (it175b N) (loopOf Try.f175 2)) (canon (E175b.keep 2))  n (tabl [(0, (.v (.v false [(.sh 60 x0)]))), (2, (.v (.v false [(.fn 117 [[(.i .i64 x1)]])]))), (8, (.v (.v false [(.i .i64 x2)]))), (14, (.v (.v false [(.i .i64 x3)]))), (16, (.v (.v false [(.i .i64 x4)])))]) K = Pu.slices_IndexFunc_Readerb.l2 N (fun y0 y1 y2 y3 y4 => (K .ret (tabl [(0, (.v (.v false [(.sh 60 y0)]))), (2, (.v (.v false [(.fn 117 [[(.i .i64 y1)]])]))), (8, (.v (.v false [(.i .i64 y2)]))), (14, (.v (.v false [(.i .i64 y3)]))), (16, (.v (.v false [(.i .i64 y4)])))]))) (fun y0 y1 y2 y3 y4 => (K (.exit 0) (tabl [(0, (.v (.v false [(.sh 60 y0)]))), (2, (.v (.v false [(.fn 117 [[(.i .i64 y1)]])]))), (8, (.v (.v false [(.i .i64 y2)]))), (14, (.v (.v false [(.i .i64 y3)]))), (16, (.v (.v false [(.i .i64 y4)])))]))) n x0 x1 x2 x3 x4) := by
  intro n
  induction n with
  | zero => exact (fun _ _ _ _ _ => rfl)
  | succ n ih =>
    have e0 : (fun x0 x1 x2 x3 x4 => iter (exc E175b (it175b N) (loopOf Try.f175 2)) (canon (E175b.keep 2))  n (tabl [(0, (.v (.v false [(.sh 60 x0)]))), (2, (.v (.v false [(.fn 117 [[(.i .i64 x1)]])]))), (8, (.v (.v false [(.i .i64 x2)]))), (14, (.v (.v false [(.i .i64 x3)]))), (16, (.v (.v false [(.i .i64 x4)])))]) K) = Pu.slices_IndexFunc_Readerb.l2 N (fun y0 y1 y2 y3 y4 => (K .ret (tabl [(0, (.v (.v false [(.sh 60 y0)]))), (2, (.v (.v false [(.fn 117 [[(.i .i64 y1)]])]))), (8, (.v (.v false [(.i .i64 y2)]))), (14, (.v (.v false [(.i .i64 y3)]))), (16, (.v (.v false [(.i .i64 y4)])))]))) (fun y0 y1 y2 y3 y4 => (K (.exit 0) (tabl [(0, (.v (.v false [(.sh 60 y0)]))), (2, (.v (.v false [(.fn 117 [[(.i .i64 y1)]])]))), (8, (.v (.v false [(.i .i64 y2)]))), (14, (.v (.v false [(.i .i64 y3)]))), (16, (.v (.v false [(.i .i64 y4)])))]))) n := by funext x0 x1 x2 x3 x4; exact ih x0 x1 x2 x3 x4
    intro x0 x1 x2 x3 x4
    have h : ∀ g, exc E175b (it175b N) (loopOf Try.f175 2) (tabl [(0, (.v (.v false [(.sh 60 x0)]))), (2, (.v (.v false [(.fn 117 [[(.i .i64 x1)]])]))), (8, (.v (.v false [(.i .i64 x2)]))), (14, (.v (.v false [(.i .i64 x3)]))), (16, (.v (.v false [(.i .i64 x4)])))]) (iterK g (canon (E175b.keep 2)) K) = Pu.slices_IndexFunc_Readerb.r2 N (fun x0 x1 x2 x3 x4 => (g (tabl [(0, (.v (.v false [(.sh 60 x0)]))), (2, (.v (.v false [(.fn 117 [[(.i .i64 x1)]])]))), (8, (.v (.v false [(.i .i64 x2)]))), (14, (.v (.v false [(.i .i64 x3)]))), (16, (.v (.v false [(.i .i64 x4)])))]))) (fun y0 y1 y2 y3 y4 => (K .ret (tabl [(0, (.v (.v false [(.sh 60 y0)]))), (2, (.v (.v false [(.fn 117 [[(.i .i64 y1)]])]))), (8, (.v (.v false [(.i .i64 y2)]))), (14, (.v (.v false [(.i .i64 y3)]))), (16, (.v (.v false [(.i .i64 y4)])))]))) (fun y0 y1 y2 y3 y4 => (K (.exit 0) (tabl [(0, (.v (.v false [(.sh 60 y0)]))), (2, (.v (.v false [(.fn 117 [[(.i .i64 y1)]])]))), (8, (.v (.v false [(.i .i64 y2)]))), (14, (.v (.v false [(.i .i64 y3)]))), (16, (.v (.v false [(.i .i64 y4)])))]))) x0 x1 x2 x3 x4 := by intro g; kernel_rfl
    refine (h _).trans ?_
    show Pu.slices_IndexFunc_Readerb.r2 N (fun x0 x1 x2 x3 x4 => (iter (exc E175b (it175b N) (loopOf Try.f175 2)) (canon (E175b.keep 2))  n (tabl [(0, (.v (.v false [(.sh 60 x0)]))), (2, (.v (.v false [(.fn 117 [[(.i .i64 x1)]])]))), (8, (.v (.v false [(.i .i64 x2)]))), (14, (.v (.v false [(.i .i64 x3)]))), (16, (.v (.v false [(.i .i64 x4)])))]) K)) (fun y0 y1 y2 y3 y4 => (K .ret (tabl [(0, (.v (.v false [(.sh 60 y0)]))), (2, (.v (.v false [(.fn 117 [[(.i .i64 y1)]])]))), (8, (.v (.v false [(.i .i64 y2)]))), (14, (.v (.v false [(.i .i64 y3)]))), (16, (.v (.v false [(.i .i64 y4)])))]))) (fun y0 y1 y2 y3 y4 => (K (.exit 0) (tabl [(0, (.v (.v false [(.sh 60 y0)]))), (2, (.v (.v false [(.fn 117 [[(.i .i64 y1)]])]))), (8, (.v (.v false [(.i .i64 y2)]))), (14, (.v (.v false [(.i .i64 y3)]))), (16, (.v (.v false [(.i .i64 y4)])))]))) x0 x1 x2 x3 x4 = _
    rw [e0]; rfl
theorem lo175b_2 {R : Type} (N : Nat) : LoopOk E175b (it175b N (R := R)) (loopOf Try.f175 2) := by
  have e : firstRid (loopOf Try.f175 2) = 2 := by kernel_rfl
  intro L K r
  rw [e]
  intro h
  unfold it175b at h
  simp only [show Nat.beq 2 2 = true from rfl, cond_false, cond_true] at h
  refine tell_ok (Q := fun L => ∃ n, iter (exc E175b (it175b N) (loopOf Try.f175 2)) (canon (E175b.keep 2)) n (tabl L) K = some r) h (fun xs h => ?_) (fun h => ?_)
  · (try dsimp only at h)
    split at h
    · exact ⟨N, ((e175b_2 N K N) _ _ _ _ _).trans h⟩
    · cases h
  cases h
def sp175b : List Arg → Option (Bool × Res)
  | [(.v false [(.sh 60 s0)]), (.v false [(.fn 117 [[(.i .i64 id1)]])])] => some (true, ⟨[(.v false [(.i .i64 (Pu.slices_IndexFunc_Readerb.v s0 id1))])], []⟩)
  | _ => none
theorem ok175b : FnOk Try.prog T 175 sp175b := by
  refine fn_ok (E := E175b) hE (call_cons ok117 call_nil) hM Try.func175 (code := (Try.f175.body.getD .skip)) (by kernel_rfl) (by kernel_rfl) ?_
  have key : ∀ (s0 : Row) (id1 : Int), FitR s0 → ∃ it : It Res, (∀ c ∈ loopsOf (Try.f175.body.getD .skip), LoopOk E175b it c) ∧ body E175b it Try.f175 [(.v false [(.sh 60 s0)]), (.v false [(.fn 117 [[(.i .i64 id1)]])])] = some ⟨[(.v false [(.i .i64 (Pu.slices_IndexFunc_Readerb.v s0 id1))])], []⟩ := by
    intro s0 id1  g0
    obtain ⟨N, hN⟩ := Pu.slices_IndexFunc_Readerb.b_eq (R := Res) (fun r0 => some ⟨[(.v false [(.i .i64 r0)])], []⟩) s0 id1 g0
    have hl : loopsOf (Try.f175.body.getD .skip) = [loopOf Try.f175 2] := by kernel_rfl
    refine ⟨it175b N, by rw [hl]; exact (loops_cons (lo175b_2 N) loops_nil), ?_⟩
    refine Eq.trans (show body E175b (it175b N) Try.f175 [(.v false [(.sh 60 s0)]), (.v false [(.fn 117 [[(.i .i64 id1)]])])] = Pu.slices_IndexFunc_Readerb.b N (fun r0 => some ⟨[(.v false [(.i .i64 r0)])], []⟩) s0 id1 by kernel_rfl) hN
  intro args r h
  unfold sp175b at h
  split at h
  · injection h with h
    injection h with h1 h2
    subst h2
    exact ⟨by kernel_rfl, fun hf => ⟨of_decide_eq_true (by kernel_rfl), key _ _ hf.1.1⟩⟩
  · cases h

end Go.FG.Se

namespace Go.FG.Se
open Go.Proofs
def E116 : Env := { toTab := T, call := Go.FG.callIn [(175, sp175a), (175, sp175b), (117, sp117)], mode := Go.FG.modeIn md, keep := Go.FG.keepIn [(5, [0, 1, 5, 6])], tk := fun n => Go.FG.memB n [], om := Go.FG.omIn [] }
def it116 (N : Nat) {R : Type} : It R := fun rid f cn L K => bif Nat.beq rid 5 then (tell [(0, (.v (.v false [(.own 900000000)]))), (2, (.v (.v false [(.fn 117 [[(.i .i64 0)]])]))), (10, (.v (.v false [(.i .i64 0)]))), (12, (.v (.v false [(.i .i64 0)]))), (1800000001, (.o (.row 60 true [])))] (fun | [.I x0, .I x1, .I x2, .R x3] => Pu.slices_DeleteFunc_Reader.l5 N (fun y0 y1 y2 y3 => (K (.exit 0) (tabl [(0, (.v (.v false [(.own 900000000)]))), (2, (.v (.v false [(.fn 117 [[(.i .i64 y0)]])]))), (10, (.v (.v false [(.i .i64 y1)]))), (12, (.v (.v false [(.i .i64 y2)]))), (1800000001, (.o (.row 60 true y3)))]))) N x0 x1 x2 x3 | _ => none) L (none)) else none
theorem e116_5 {R : Type} (N : Nat) (K : Ex → St → Option R) : ∀ n : Nat, (∀ x0 x1 x2 x3, iter (exc E116 (it116 N) (loopOf Try.f116 5)) (canon (E116.keep 5))  n (tabl [(0, (.v (.v false [(.own 900000000)]))), (2, (.v (.v false [(.fn 117 [[(.i .i64 x0)]])]))), (10, (.v (.v false [(.i .i64 x1)]))), (12, (.v (.v false [(.i .i64 x2)]))), (1800000001, (.o (.row 60 true x3)))]) K = Pu.slices_DeleteFunc_Reader.l5 N (fun y0 y1 y2 y3 => (K (.exit 0) (tabl [(0, (.v (.v false [(.own 900000000)]))), (2, (.v (.v false [(.fn 117 [[(.i .i64 y0)]])]))), (10, (.v (.v false [(.i .i64 y1)]))), (12, (.v (.v false [(.i .i64 y2)]))), (1800000001, (.o (.row 60 true y3)))]))) n x0 x1 x2 x3) := by
  intro n
  induction n with
  | zero => exact (fun _ _ _ _ => rfl)
  | succ n ih =>
    have e0 : (fun x0 x1 x2 x3 => iter (exc E116 (it116 N) (loopOf Try.f116 5)) (canon (E116.keep 5))  n (tabl [(0, (.v (.v false [(.own 900000000)]))), (2, (.v (.v false [(.fn 117 [[(.i .i64 x0)]])]))), (10, (.v (.v false [(.i .i64 x1)]))), (12, (.v (.v false [(.i .i64 x2)]))), (1800000001, (.o (.row 60 true x3)))]) K) = Pu.slices_DeleteFunc_Reader.l5 N (fun y0 y1 y2 y3 => (K (.exit 0) (tabl [(0, (.v (.v false [(.own 900000000)]))), (2, (.v (.v false [(.fn 117 [[(.i .i64 y0)]])]))), (10, (.v (.v false [(.i .i64 y1)]))), (12, (.v (.v false [(.i .i64 y2)]))), (1800000001, (.o (.row 60 true y3)))]))) n := by funext x0 x1 x2 x3; exact ih x0 x1 x2 x3
    intro x0 x1 x2 x3
    have h : ∀ g, exc E116 (it116 N) (loopOf Try.f116 5) (tabl [(0, (.v (.v false [(.own 900000000)]))), (2, (.v (.v false [(.fn 117 [[(.i .i64 x0)]])]))), (10, (.v (.v false [(.i .i64 x1)]))), (12, (.v (.v false [(.i .i64 x2)]))), (1800000001, (.o (.row 60 true x3)))]) (iterK g (canon (E116.keep 5)) K) = Pu.slices_DeleteFunc_Reader.r5 N (fun x0 x1 x2 x3 => (g (tabl [(0, (.v (.v false [(.own 900000000)]))), (2, (.v (.v false [(.fn 117 [[(.i .i64 x0)]])]))), (10, (.v (.v false [(.i .i64 x1)]))), (12, (.v (.v false [(.i .i64 x2)]))), (1800000001, (.o (.row 60 true x3)))]))) (fun y0 y1 y2 y3 => (K (.exit 0) (tabl [(0, (.v (.v false [(.own 900000000)]))), (2, (.v (.v false [(.fn 117 [[(.i .i64 y0)]])]))), (10, (.v (.v false [(.i .i64 y1)]))), (12, (.v (.v false [(.i .i64 y2)]))), (1800000001, (.o (.row 60 true y3)))]))) x0 x1 x2 x3 := by intro g; kernel_rfl
    refine (h _).trans ?_
    show Pu.slices_DeleteFunc_Reader.r5 N (fun x0 x1 x2 x3 => (iter (exc E116 (it116 N) (loopOf Try.f116 5)) (canon (E116.keep 5))  n (tabl [(0, (.v (.v false [(.own 900000000)]))), (2, (.v (.v false [(.fn 117 [[(.i .i64 x0)]])]))), (10, (.v (.v false [(.i .i64 x1)]))), (12, (.v (.v false [(.i .i64 x2)]))), (1800000001, (.o (.row 60 true x3)))]) K)) (fun y0 y1 y2 y3 => (K (.exit 0) (tabl [(0, (.v (.v false [(.own 900000000)]))), (2, (.v (.v false [(.fn 117 [[(.i .i64 y0)]])]))), (10, (.v (.v false [(.i .i64 y1)]))), (12, (.v (.v false [(.i .i64 y2)]))), (1800000001, (.o (.row 60 true y3)))]))) x0 x1 x2 x3 = _
    rw [e0]; rfl
theorem lo116_5 {R : Type} (N : Nat) : LoopOk E116 (it116 N (R := R)) (loopOf Try.f116 5) := by
  have e : firstRid (loopOf Try.f116 5) = 5 := by kernel_rfl
  intro L K r
  rw [e]
  intro h
  unfold it116 at h
  simp only [show Nat.beq 5 5 = true from rfl, cond_false, cond_true] at h
  refine tell_ok (Q := fun L => ∃ n, iter (exc E116 (it116 N) (loopOf Try.f116 5)) (canon (E116.keep 5)) n (tabl L) K = some r) h (fun xs h => ?_) (fun h => ?_)
  · (try dsimp only at h)
    split at h
    · exact ⟨N, ((e116_5 N K N) _ _ _ _).trans h⟩
    · cases h
  cases h
def sp116 : List Arg → Option (Bool × Res)
  | [(.v false [(.ow 60 true s0)]), (.v false [(.fn 117 [[(.i .i64 id1)]])])] => some (Pu.slices_DeleteFunc_Reader.c s0 id1, ⟨[(.v false [(.ow 60 true (Pu.slices_DeleteFunc_Reader.v s0 id1))])], [[.nl]]⟩)
  | _ => none
theorem ok116 : FnOk Try.prog T 116 sp116 := by
  refine fn_ok (E := E116) hE (call_cons ok175a (call_cons ok175b (call_cons ok117 call_nil))) hM Try.func116 (code := (Try.f116.body.getD .skip)) (by kernel_rfl) (by kernel_rfl) ?_
  have key : ∀ (s0 : Row) (id1 : Int), Pu.slices_DeleteFunc_Reader.c s0 id1 = true → FitR s0 → ∃ it : It Res, (∀ c ∈ loopsOf (Try.f116.body.getD .skip), LoopOk E116 it c) ∧ body E116 it Try.f116 [(.v false [(.ow 60 true s0)]), (.v false [(.fn 117 [[(.i .i64 id1)]])])] = some ⟨[(.v false [(.ow 60 true (Pu.slices_DeleteFunc_Reader.v s0 id1))])], [[.nl]]⟩ := by
    intro s0 id1  h1 g0
    obtain ⟨N, hN⟩ := Pu.slices_DeleteFunc_Reader.b_eq (R := Res) (fun r0 => some ⟨[(.v false [(.ow 60 true r0)])], [[.nl]]⟩) s0 id1 h1 g0
    have hl : loopsOf (Try.f116.body.getD .skip) = [loopOf Try.f116 5] := by kernel_rfl
    refine ⟨it116 N, by rw [hl]; exact (loops_cons (lo116_5 N) loops_nil), ?_⟩
    refine Eq.trans (show body E116 (it116 N) Try.f116 [(.v false [(.ow 60 true s0)]), (.v false [(.fn 117 [[(.i .i64 id1)]])])] = Pu.slices_DeleteFunc_Reader.b N (fun r0 => some ⟨[(.v false [(.ow 60 true r0)])], [[.nl]]⟩) s0 id1 by kernel_rfl) hN
  intro args r h
  unfold sp116 at h
  split at h
  · injection h with h
    injection h with h1 h2
    subst h2
    exact ⟨by kernel_rfl, fun hf => ⟨of_decide_eq_true (by kernel_rfl), key _ _ h1 hf.1.1⟩⟩
  · cases h

end Go.FG.Se

namespace Go.FG.Se
open Go.Proofs
def E54 : Env := { toTab := T, call := Go.FG.callIn [], mode := Go.FG.modeIn md, keep := Go.FG.keepIn [(3, [1, 2, 4, 5, 6])], tk := fun n => Go.FG.memB n [], om := Go.FG.omIn [] }
def it54 (N : Nat) {R : Type} : It R := fun rid f cn L K => bif Nat.beq rid 3 then (tell [(2, (.v (.v false [(.i .i64 0)]))), (4, (.v (.v false [(.bp 0 0)]))), (8, (.v (.v false [(.bp 1 0)]))), (10, (.v (.v false [(.bp 2 0)]))), (12, (.v (.v false [(.i .i64 0)]))), (1, (.o (.box [(.i .i64 0), (.s ⟨#[]⟩), (.sh 60 [])]))), (3, (.o (.box [(.i .i64 0), (.s ⟨#[]⟩), .nl]))), (5, (.o (.box [(.i .i64 0), (.s ⟨#[]⟩), .nl])))] (fun | [.I x0, .I x1, .I x2, .S x3, .R x4, .I x5, .S x6, .I x7, .S x8] => Pu.spec_StreamLeave.l3 N (fun y0 y1 y2 y3 y4 y5 y6 y7 y8 => (K (.exit 0) (tabl [(2, (.v (.v false [(.i .i64 y0)]))), (4, (.v (.v false [(.bp 0 0)]))), (8, (.v (.v false [(.bp 1 0)]))), (10, (.v (.v false [(.bp 2 0)]))), (12, (.v (.v false [(.i .i64 y1)]))), (1, (.o (.box [(.i .i64 y2), (.s y3), (.sh 60 y4)]))), (3, (.o (.box [(.i .i64 y5), (.s y6), .nl]))), (5, (.o (.box [(.i .i64 y7), (.s y8), .nl])))]))) (fun y0 y1 y2 y3 y4 y5 y6 y7 y8 y9 => (K (.exit 0) (tabl [(2, (.v (.v false [(.i .i64 y0)]))), (4, (.v (.v false [(.bp 0 0)]))), (8, (.v (.v false [(.bp 1 0)]))), (10, (.v (.v false [(.bp 2 0)]))), (12, (.v (.v false [(.i .i64 y1)]))), (1, (.o (.box [(.i .i64 y2), (.s y3), (.sh 60 y4)]))), (3, (.o (.box [(.i .i64 y5), (.s y6), .nl]))), (5, (.o (.box [(.i .i64 y7), (.s y8), (.own 3)]))), (7, (.o (.row 60 true y9)))]))) N x0 x1 x2 x3 x4 x5 x6 x7 x8 | _ => none) L (tell [(2, (.v (.v false [(.i .i64 0)]))), (4, (.v (.v false [(.bp 0 0)]))), (8, (.v (.v false [(.bp 1 0)]))), (10, (.v (.v false [(.bp 2 0)]))), (12, (.v (.v false [(.i .i64 0)]))), (1, (.o (.box [(.i .i64 0), (.s ⟨#[]⟩), (.sh 60 [])]))), (3, (.o (.box [(.i .i64 0), (.s ⟨#[]⟩), .nl]))), (5, (.o (.box [(.i .i64 0), (.s ⟨#[]⟩), (.own 3)]))), (7, (.o (.row 60 true [])))] (fun | [.I x9, .I x10, .I x11, .S x12, .R x13, .I x14, .S x15, .I x16, .S x17, .R x18] => Pu.spec_StreamLeave.l3a N (fun y0 y1 y2 y3 y4 y5 y6 y7 y8 => (K (.exit 0) (tabl [(2, (.v (.v false [(.i .i64 y0)]))), (4, (.v (.v false [(.bp 0 0)]))), (8, (.v (.v false [(.bp 1 0)]))), (10, (.v (.v false [(.bp 2 0)]))), (12, (.v (.v false [(.i .i64 y1)]))), (1, (.o (.box [(.i .i64 y2), (.s y3), (.sh 60 y4)]))), (3, (.o (.box [(.i .i64 y5), (.s y6), .nl]))), (5, (.o (.box [(.i .i64 y7), (.s y8), .nl])))]))) (fun y0 y1 y2 y3 y4 y5 y6 y7 y8 y9 => (K (.exit 0) (tabl [(2, (.v (.v false [(.i .i64 y0)]))), (4, (.v (.v false [(.bp 0 0)]))), (8, (.v (.v false [(.bp 1 0)]))), (10, (.v (.v false [(.bp 2 0)]))), (12, (.v (.v false [(.i .i64 y1)]))), (1, (.o (.box [(.i .i64 y2), (.s y3), (.sh 60 y4)]))), (3, (.o (.box [(.i .i64 y5), (.s y6), .nl]))), (5, (.o (.box [(.i .i64 y7), (.s y8), (.own 3)]))), (7, (.o (.row 60 true y9)))]))) N x9 x10 x11 x12 x13 x14 x15 x16 x17 x18 | _ => none) L (none))) else none
theorem e54_3 {R : Type} (N : Nat) (K : Ex → St → Option R) : ∀ n : Nat, (∀ x0 x1 x2 x3 x4 x5 x6 x7 x8, iter (exc E54 (it54 N) (loopOf Try.f54 3)) (canon (E54.keep 3))  n (tabl [(2, (.v (.v false [(.i .i64 x0)]))), (4, (.v (.v false [(.bp 0 0)]))), (8, (.v (.v false [(.bp 1 0)]))), (10, (.v (.v false [(.bp 2 0)]))), (12, (.v (.v false [(.i .i64 x1)]))), (1, (.o (.box [(.i .i64 x2), (.s x3), (.sh 60 x4)]))), (3, (.o (.box [(.i .i64 x5), (.s x6), .nl]))), (5, (.o (.box [(.i .i64 x7), (.s x8), .nl])))]) K = Pu.spec_StreamLeave.l3 N (fun y0 y1 y2 y3 y4 y5 y6 y7 y8 => (K (.exit 0) (tabl [(2, (.v (.v false [(.i .i64 y0)]))), (4, (.v (.v false [(.bp 0 0)]))), (8, (.v (.v false [(.bp 1 0)]))), (10, (.v (.v false [(.bp 2 0)]))), (12, (.v (.v false [(.i .i64 y1)]))), (1, (.o (.box [(.i .i64 y2), (.s y3), (.sh 60 y4)]))), (3, (.o (.box [(.i .i64 y5), (.s y6), .nl]))), (5, (.o (.box [(.i .i64 y7), (.s y8), .nl])))]))) (fun y0 y1 y2 y3 y4 y5 y6 y7 y8 y9 => (K (.exit 0) (tabl [(2, (.v (.v false [(.i .i64 y0)]))), (4, (.v (.v false [(.bp 0 0)]))), (8, (.v (.v false [(.bp 1 0)]))), (10, (.v (.v false [(.bp 2 0)]))), (12, (.v (.v false [(.i .i64 y1)]))), (1, (.o (.box [(.i .i64 y2), (.s y3), (.sh 60 y4)]))), (3, (.o (.box [(.i .i64 y5), (.s y6), .nl]))), (5, (.o (.box [(.i .i64 y7), (.s y8), (.own 3)]))), (7, (.o (.row 60 true y9)))]))) n x0 x1 x2 x3 x4 x5 x6 x7 x8) ∧ (∀ x9 x10 x11 x12 x13 x14 x15 x16 x17 x18, iter (exc E54 (it54 N) (loopOf Try.f54 3)) (canon (E54.keep 3))  n (tabl [(2, (.v (.v false [(.i .i64 x9)]))), (4, (.v (.v false [(.bp 0 0)]))), (8, (.v (.v false [(.bp 1 0)]))), (10, (.v (.v false [(.bp 2 0)]))), (12, (.v (.v false [(.i .i64 x10)]))), (1, (.o (.box [(.i .i64 x11), (.s x12), (.sh 60 x13)]))), (3, (.o (.box [(.i .i64 x14), (.s x15), .nl]))), (5, (.o (.box [(.i .i64 x16), (.s x17), (.own 3)]))), (7, (.o (.row 60 true x18)))]) K = Pu.spec_StreamLeave.l3a N (fun y0 y1 y2 y3 y4 y5 y6 y7 y8 => (K (.exit 0) (tabl [(2, (.v (.v false [(.i .i64 y0)]))), (4, (.v (.v false [(.bp 0 0)]))), (8, (.v (.v false [(.bp 1 0)]))), (10, (.v (.v false [(.bp 2 0)]))), (12, (.v (.v false [(.i .i64 y1)]))), (1, (.o (.box [(.i .i64 y2), (.s y3), (.sh 60 y4)]))), (3, (.o (.box [(.i .i64 y5), (.s y6), .nl]))), (5, (.o (.box [(.i .i64 y7), (.s y8), .nl])))]))) (fun y0 y1 y2 y3 y4 y5 y6 y7 y8 y9 => (K (.exit 0) (tabl [(2, (.v (.v false [(.i .i64 y0)]))), (4, (.v (.v false [(.bp 0 0)]))), (8, (.v (.v false [(.bp 1 0)]))), (10, (.v (.v false [(.bp 2 0)]))), (12, (.v (.v false [(.i .i64 y1)]))), (1, (.o (.box [(.i .i64 y2), (.s y3), (.sh 60 y4)]))), (3, (.o (.box [(.i .i64 y5), (.s y6), .nl]))), (5, (.o (.box [(.i .i64 y7), (.s y8), (.own 3)]))), (7, (.o (.row 60 true y9)))]))) n x9 x10 x11 x12 x13 x14 x15 x16 x17 x18) := by
  intro n
  induction n with
  | zero => exact ⟨(fun _ _ _ _ _ _ _ _ _ => rfl), (fun _ _ _ _ _ _ _ _ _ _ => rfl)⟩
  | succ n ih =>
    have e0 : (fun x0 x1 x2 x3 x4 x5 x6 x7 x8 => iter (exc E54 (it54 N) (loopOf Try.f54 3)) (canon (E54.keep 3))  n (tabl [(2, (.v (.v false [(.i .i64 x0)]))), (4, (.v (.v false [(.bp 0 0)]))), (8, (.v (.v false [(.bp 1 0)]))), (10, (.v (.v false [(.bp 2 0)]))), (12, (.v (.v false [(.i .i64 x1)]))), (1, (.o (.box [(.i .i64 x2), (.s x3), (.sh 60 x4)]))), (3, (.o (.box [(.i .i64 x5), (.s x6), .nl]))), (5, (.o (.box [(.i .i64 x7), (.s x8), .nl])))]) K) = Pu.spec_StreamLeave.l3 N (fun y0 y1 y2 y3 y4 y5 y6 y7 y8 => (K (.exit 0) (tabl [(2, (.v (.v false [(.i .i64 y0)]))), (4, (.v (.v false [(.bp 0 0)]))), (8, (.v (.v false [(.bp 1 0)]))), (10, (.v (.v false [(.bp 2 0)]))), (12, (.v (.v false [(.i .i64 y1)]))), (1, (.o (.box [(.i .i64 y2), (.s y3), (.sh 60 y4)]))), (3, (.o (.box [(.i .i64 y5), (.s y6), .nl]))), (5, (.o (.box [(.i .i64 y7), (.s y8), .nl])))]))) (fun y0 y1 y2 y3 y4 y5 y6 y7 y8 y9 => (K (.exit 0) (tabl [(2, (.v (.v false [(.i .i64 y0)]))), (4, (.v (.v false [(.bp 0 0)]))), (8, (.v (.v false [(.bp 1 0)]))), (10, (.v (.v false [(.bp 2 0)]))), (12, (.v (.v false [(.i .i64 y1)]))), (1, (.o (.box [(.i .i64 y2), (.s y3), (.sh 60 y4)]))), (3, (.o (.box [(.i .i64 y5), (.s y6), .nl]))), (5, (.o (.box [(.i .i64 y7), (.s y8), (.own 3)]))), (7, (.o (.row 60 true y9)))]))) n := by funext x0 x1 x2 x3 x4 x5 x6 x7 x8; exact ih.1 x0 x1 x2 x3 x4 x5 x6 x7 x8
    have e1 : (fun x9 x10 x11 x12 x13 x14 x15 x16 x17 x18 => iter (exc E54 (it54 N) (loopOf Try.f54 3)) (canon (E54.keep 3))  n (tabl [(2, (.v (.v false [(.i .i64 x9)]))), (4, (.v (.v false [(.bp 0 0)]))), (8, (.v (.v false [(.bp 1 0)]))), (10, (.v (.v false [(.bp 2 0)]))), (12, (.v (.v false [(.i .i64 x10)]))), (1, (.o (.box [(.i .i64 x11), (.s x12), (.sh 60 x13)]))), (3, (.o (.box [(.i .i64 x14), (.s x15), .nl]))), (5, (.o (.box [(.i .i64 x16), (.s x17), (.own 3)]))), (7, (.o (.row 60 true x18)))]) K) = Pu.spec_StreamLeave.l3a N (fun y0 y1 y2 y3 y4 y5 y6 y7 y8 => (K (.exit 0) (tabl [(2, (.v (.v false [(.i .i64 y0)]))), (4, (.v (.v false [(.bp 0 0)]))), (8, (.v (.v false [(.bp 1 0)]))), (10, (.v (.v false [(.bp 2 0)]))), (12, (.v (.v false [(.i .i64 y1)]))), (1, (.o (.box [(.i .i64 y2), (.s y3), (.sh 60 y4)]))), (3, (.o (.box [(.i .i64 y5), (.s y6), .nl]))), (5, (.o (.box [(.i .i64 y7), (.s y8), .nl])))]))) (fun y0 y1 y2 y3 y4 y5 y6 y7 y8 y9 => (K (.exit 0) (tabl [(2, (.v (.v false [(.i .i64 y0)]))), (4, (.v (.v false [(.bp 0 0)]))), (8, (.v (.v false [(.bp 1 0)]))), (10, (.v (.v false [(.bp 2 0)]))), (12, (.v (.v false [(.i .i64 y1)]))), (1, (.o (.box [(.i .i64 y2), (.s y3), (.sh 60 y4)]))), (3, (.o (.box [(.i .i64 y5), (.s y6), .nl]))), (5, (.o (.box [(.i .i64 y7), (.s y8), (.own 3)]))), (7, (.o (.row 60 true y9)))]))) n := by funext x9 x10 x11 x12 x13 x14 x15 x16 x17 x18; exact ih.2 x9 x10 x11 x12 x13 x14 x15 x16 x17 x18
    refine ⟨?_, ?_⟩
    · intro x0 x1 x2 x3 x4 x5 x6 x7 x8
      have h : ∀ g, exc E54 (it54 N) (loopOf Try.f54 3) (tabl [(2, (.v (.v false [(.i .i64 x0)]))), (4, (.v (.v false [(.bp 0 0)]))), (8, (.v (.v false [(.bp 1 0)]))), (10, (.v (.v false [(.bp 2 0)]))), (12, (.v (.v false [(.i .i64 x1)]))), (1, (.o (.box [(.i .i64 x2), (.s x3), (.sh 60 x4)]))), (3, (.o (.box [(.i .i64 x5), (.s x6), .nl]))), (5, (.o (.box [(.i .i64 x7), (.s x8), .nl])))]) (iterK g (canon (E54.keep 3)) K) = Pu.spec_StreamLeave.r3 N (fun x0 x1 x2 x3 x4 x5 x6 x7 x8 => (g (tabl [(2, (.v (.v false [(.i .i64 x0)]))), (4, (.v (.v false [(.bp 0 0)]))), (8, (.v (.v false [(.bp 1 0)]))), (10, (.v (.v false [(.bp 2 0)]))), (12, (.v (.v false [(.i .i64 x1)]))), (1, (.o (.box [(.i .i64 x2), (.s x3), (.sh 60 x4)]))), (3, (.o (.box [(.i .i64 x5), (.s x6), .nl]))), (5, (.o (.box [(.i .i64 x7), (.s x8), .nl])))]))) (fun x9 x10 x11 x12 x13 x14 x15 x16 x17 x18 => (g (tabl [(2, (.v (.v false [(.i .i64 x9)]))), (4, (.v (.v false [(.bp 0 0)]))), (8, (.v (.v false [(.bp 1 0)]))), (10, (.v (.v false [(.bp 2 0)]))), (12, (.v (.v false [(.i .i64 x10)]))), (1, (.o (.box [(.i .i64 x11), (.s x12), (.sh 60 x13)]))), (3, (.o (.box [(.i .i64 x14), (.s x15), .nl]))), (5, (.o (.box [(.i .i64 x16), (.s x17), (.own 3)]))), (7, (.o (.row 60 true x18)))]))) (fun y0 y1 y2 y3 y4 y5 y6 y7 y8 => (K (.exit 0) (tabl [(2, (.v (.v false [(.i .i64 y0)]))), (4, (.v (.v false [(.bp 0 0)]))), (8, (.v (.v false [(.bp 1 0)]))), (10, (.v (.v false [(.bp 2 0)]))), (12, (.v (.v false [(.i .i64 y1)]))), (1, (.o (.box [(.i .i64 y2), (.s y3), (.sh 60 y4)]))), (3, (.o (.box [(.i .i64 y5), (.s y6), .nl]))), (5, (.o (.box [(.i .i64 y7), (.s y8), .nl])))]))) (fun y0 y1 y2 y3 y4 y5 y6 y7 y8 y9 => (K (.exit 0) (tabl [(2, (.v (.v false [(.i .i64 y0)]))), (4, (.v (.v false [(.bp 0 0)]))), (8, (.v (.v false [(.bp 1 0)]))), (10, (.v (.v false [(.bp 2 0)]))), (12, (.v (.v false [(.i .i64 y1)]))), (1, (.o (.box [(.i .i64 y2), (.s y3), (.sh 60 y4)]))), (3, (.o (.box [(.i .i64 y5), (.s y6), .nl]))), (5, (.o (.box [(.i .i64 y7), (.s y8), (.own 3)]))), (7, (.o (.row 60 true y9)))]))) x0 x1 x2 x3 x4 x5 x6 x7 x8 := by intro g; kernel_rfl
      refine (h _).trans ?_
      show Pu.spec_StreamLeave.r3 N (fun x0 x1 x2 x3 x4 x5 x6 x7 x8 => (iter (exc E54 (it54 N) (loopOf Try.f54 3)) (canon (E54.keep 3))  n (tabl [(2, (.v (.v false [(.i .i64 x0)]))), (4, (.v (.v false [(.bp 0 0)]))), (8, (.v (.v false [(.bp 1 0)]))), (10, (.v (.v false [(.bp 2 0)]))), (12, (.v (.v false [(.i .i64 x1)]))), (1, (.o (.box [(.i .i64 x2), (.s x3), (.sh 60 x4)]))), (3, (.o (.box [(.i .i64 x5), (.s x6), .nl]))), (5, (.o (.box [(.i .i64 x7), (.s x8), .nl])))]) K)) (fun x9 x10 x11 x12 x13 x14 x15 x16 x17 x18 => (iter (exc E54 (it54 N) (loopOf Try.f54 3)) (canon (E54.keep 3))  n (tabl [(2, (.v (.v false [(.i .i64 x9)]))), (4, (.v (.v false [(.bp 0 0)]))), (8, (.v (.v false [(.bp 1 0)]))), (10, (.v (.v false [(.bp 2 0)]))), (12, (.v (.v false [(.i .i64 x10)]))), (1, (.o (.box [(.i .i64 x11), (.s x12), (.sh 60 x13)]))), (3, (.o (.box [(.i .i64 x14), (.s x15), .nl]))), (5, (.o (.box [(.i .i64 x16), (.s x17), (.own 3)]))), (7, (.o (.row 60 true x18)))]) K)) (fun y0 y1 y2 y3 y4 y5 y6 y7 y8 => (K (.exit 0) (tabl [(2, (.v (.v false [(.i .i64 y0)]))), (4, (.v (.v false [(.bp 0 0)]))), (8, (.v (.v false [(.bp 1 0)]))), (10, (.v (.v false [(.bp 2 0)]))), (12, (.v (.v false [(.i .i64 y1)]))), (1, (.o (.box [(.i .i64 y2), (.s y3), (.sh 60 y4)]))), (3, (.o (.box [(.i .i64 y5), (.s y6), .nl]))), (5, (.o (.box [(.i .i64 y7), (.s y8), .nl])))]))) (fun y0 y1 y2 y3 y4 y5 y6 y7 y8 y9 => (K (.exit 0) (tabl [(2, (.v (.v false [(.i .i64 y0)]))), (4, (.v (.v false [(.bp 0 0)]))), (8, (.v (.v false [(.bp 1 0)]))), (10, (.v (.v false [(.bp 2 0)]))), (12, (.v (.v false [(.i .i64 y1)]))), (1, (.o (.box [(.i .i64 y2), (.s y3), (.sh 60 y4)]))), (3, (.o (.box [(.i .i64 y5), (.s y6), .nl]))), (5, (.o (.box [(.i .i64 y7), (.s y8), (.own 3)]))), (7, (.o (.row 60 true y9)))]))) x0 x1 x2 x3 x4 x5 x6 x7 x8 = _
      rw [e0, e1]; rfl
    · intro x9 x10 x11 x12 x13 x14 x15 x16 x17 x18
      have h : ∀ g, exc E54 (it54 N) (loopOf Try.f54 3) (tabl [(2, (.v (.v false [(.i .i64 x9)]))), (4, (.v (.v false [(.bp 0 0)]))), (8, (.v (.v false [(.bp 1 0)]))), (10, (.v (.v false [(.bp 2 0)]))), (12, (.v (.v false [(.i .i64 x10)]))), (1, (.o (.box [(.i .i64 x11), (.s x12), (.sh 60 x13)]))), (3, (.o (.box [(.i .i64 x14), (.s x15), .nl]))), (5, (.o (.box [(.i .i64 x16), (.s x17), (.own 3)]))), (7, (.o (.row 60 true x18)))]) (iterK g (canon (E54.keep 3)) K) = Pu.spec_StreamLeave.r3a N (fun x0 x1 x2 x3 x4 x5 x6 x7 x8 => (g (tabl [(2, (.v (.v false [(.i .i64 x0)]))), (4, (.v (.v false [(.bp 0 0)]))), (8, (.v (.v false [(.bp 1 0)]))), (10, (.v (.v false [(.bp 2 0)]))), (12, (.v (.v false [(.i .i64 x1)]))), (1, (.o (.box [(.i .i64 x2), (.s x3), (.sh 60 x4)]))), (3, (.o (.box [(.i .i64 x5), (.s x6), .nl]))), (5, (.o (.box [(.i .i64 x7), (.s x8), .nl])))]))) (fun x9 x10 x11 x12 x13 x14 x15 x16 x17 x18 => (g (tabl [(2, (.v (.v false [(.i .i64 x9)]))), (4, (.v (.v false [(.bp 0 0)]))), (8, (.v (.v false [(.bp 1 0)]))), (10, (.v (.v false [(.bp 2 0)]))), (12, (.v (.v false [(.i .i64 x10)]))), (1, (.o (.box [(.i .i64 x11), (.s x12), (.sh 60 x13)]))), (3, (.o (.box [(.i .i64 x14), (.s x15), .nl]))), (5, (.o (.box [(.i .i64 x16), (.s x17), (.own 3)]))), (7, (.o (.row 60 true x18)))]))) (fun y0 y1 y2 y3 y4 y5 y6 y7 y8 => (K (.exit 0) (tabl [(2, (.v (.v false [(.i .i64 y0)]))), (4, (.v (.v false [(.bp 0 0)]))), (8, (.v (.v false [(.bp 1 0)]))), (10, (.v (.v false [(.bp 2 0)]))), (12, (.v (.v false [(.i .i64 y1)]))), (1, (.o (.box [(.i .i64 y2), (.s y3), (.sh 60 y4)]))), (3, (.o (.box [(.i .i64 y5), (.s y6), .nl]))), (5, (.o (.box [(.i .i64 y7), (.s y8), .nl])))]))) (fun y0 y1 y2 y3 y4 y5 y6 y7 y8 y9 => (K (.exit 0) (tabl [(2, (.v (.v false [(.i .i64 y0)]))), (4, (.v (.v false [(.bp 0 0)]))), (8, (.v (.v false [(.bp 1 0)]))), (10, (.v (.v false [(.bp 2 0)]))), (12, (.v (.v false [(.i .i64 y1)]))), (1, (.o (.box [(.i .i64 y2), (.s y3), (.sh 60 y4)]))), (3, (.o (.box [(.i .i64 y5), (.s y6), .nl]))), (5, (.o (.box [(.i .i64 y7), (.s y8), (.own 3)]))), (7, (.o (.row 60 true y9)))]))) x9 x10 x11 x12 x13 x14 x15 x16 x17 x18 := by intro g; kernel_rfl
      refine (h _).trans ?_
      show Pu.spec_StreamLeave.r3a N (fun x0 x1 x2 x3 x4 x5 x6 x7 x8 => (iter (exc E54 (it54 N) (loopOf Try.f54 3)) (canon (E54.keep 3))  n (tabl [(2, (.v (.v false [(.i .i64 x0)]))), (4, (.v (.v false [(.bp 0 0)]))), (8, (.v (.v false [(.bp 1 0)]))), (10, (.v (.v false [(.bp 2 0)]))), (12, (.v (.v false [(.i .i64 x1)]))), (1, (.o (.box [(.i .i64 x2), (.s x3), (.sh 60 x4)]))), (3, (.o (.box [(.i .i64 x5), (.s x6), .nl]))), (5, (.o (.box [(.i .i64 x7), (.s x8), .nl])))]) K)) (fun x9 x10 x11 x12 x13 x14 x15 x16 x17 x18 => (iter (exc E54 (it54 N) (loopOf Try.f54 3)) (canon (E54.keep 3))  n (tabl [(2, (.v (.v false [(.i .i64 x9)]))), (4, (.v (.v false [(.bp 0 0)]))), (8, (.v (.v false [(.bp 1 0)]))), (10, (.v (.v false [(.bp 2 0)]))), (12, (.v (.v false [(.i .i64 x10)]))), (1, (.o (.box [(.i .i64 x11), (.s x12), (.sh 60 x13)]))), (3, (.o (.box [(.i .i64 x14), (.s x15), .nl]))), (5, (.o (.box [(.i .i64 x16), (.s x17), (.own 3)]))), (7, (.o (.row 60 true x18)))]) K)) (fun y0 y1 y2 y3 y4 y5 y6 y7 y8 => (K (.exit 0) (tabl [(2, (.v (.v false [(.i .i64 y0)]))), (4, (.v (.v false [(.bp 0 0)]))), (8, (.v (.v false [(.bp 1 0)]))), (10, (.v (.v false [(.bp 2 0)]))), (12, (.v (.v false [(.i .i64 y1)]))), (1, (.o (.box [(.i .i64 y2), (.s y3), (.sh 60 y4)]))), (3, (.o (.box [(.i .i64 y5), (.s y6), .nl]))), (5, (.o (.box [(.i .i64 y7), (.s y8), .nl])))]))) (fun y0 y1 y2 y3 y4 y5 y6 y7 y8 y9 => (K (.exit 0) (tabl [(2, (.v (.v false [(.i .i64 y0)]))), (4, (.v (.v false [(.bp 0 0)]))), (8, (.v (.v false [(.bp 1 0)]))), (10, (.v (.v false [(.bp 2 0)]))), (12, (.v (.v false [(.i .i64 y1)]))), (1, (.o (.box [(.i .i64 y2), (.s y3), (.sh 60 y4)]))), (3, (.o (.box [(.i .i64 y5), (.s y6), .nl]))), (5, (.o (.box [(.i .i64 y7), (.s y8), (.own 3)]))), (7, (.o (.row 60 true y9)))]))) x9 x10 x11 x12 x13 x14 x15 x16 x17 x18 = _
      rw [e0, e1]; rfl
theorem lo54_3 {R : Type} (N : Nat) : LoopOk E54 (it54 N (R := R)) (loopOf Try.f54 3) := by
  have e : firstRid (loopOf Try.f54 3) = 3 := by kernel_rfl
  intro L K r
  rw [e]
  intro h
  unfold it54 at h
  simp only [show Nat.beq 3 3 = true from rfl, cond_false, cond_true] at h
  refine tell_ok (Q := fun L => ∃ n, iter (exc E54 (it54 N) (loopOf Try.f54 3)) (canon (E54.keep 3)) n (tabl L) K = some r) h (fun xs h => ?_) (fun h => ?_)
  · (try dsimp only at h)
    split at h
    · exact ⟨N, ((e54_3 N K N).1 _ _ _ _ _ _ _ _ _).trans h⟩
    · cases h
  refine tell_ok (Q := fun L => ∃ n, iter (exc E54 (it54 N) (loopOf Try.f54 3)) (canon (E54.keep 3)) n (tabl L) K = some r) h (fun xs h => ?_) (fun h => ?_)
  · (try dsimp only at h)
    split at h
    · exact ⟨N, ((e54_3 N K N).2 _ _ _ _ _ _ _ _ _ _).trans h⟩
    · cases h
  cases h
def sp54 : List Arg → Option (Bool × Res)
  | [(.v true [(.i .i64 s0_0), (.s s0_1), (.sh 60 s0_2)]), (.v false [(.i .i64 id1)])] => some (Pu.spec_StreamLeave.c s0_0 s0_1 s0_2 id1, ⟨[(.v true [(.i .i64 ((Pu.spec_StreamLeave.v s0_0 s0_1 s0_2 id1).1)), (.s ((Pu.spec_StreamLeave.v s0_0 s0_1 s0_2 id1).2.1)), (.ow 60 true ((Pu.spec_StreamLeave.v s0_0 s0_1 s0_2 id1).2.2))])], []⟩)
  | _ => none
theorem ok54 : FnOk Try.prog T 54 sp54 := by
  refine fn_ok (E := E54) hE call_nil hM Try.func54 (code := (Try.f54.body.getD .skip)) (by kernel_rfl) (by kernel_rfl) ?_
  have key : ∀ (s0_0 : Int) (s0_1 : ByteArray) (s0_2 : Row) (id1 : Int), Pu.spec_StreamLeave.c s0_0 s0_1 s0_2 id1 = true → ∃ it : It Res, (∀ c ∈ loopsOf (Try.f54.body.getD .skip), LoopOk E54 it c) ∧ body E54 it Try.f54 [(.v true [(.i .i64 s0_0), (.s s0_1), (.sh 60 s0_2)]), (.v false [(.i .i64 id1)])] = some ⟨[(.v true [(.i .i64 ((Pu.spec_StreamLeave.v s0_0 s0_1 s0_2 id1).1)), (.s ((Pu.spec_StreamLeave.v s0_0 s0_1 s0_2 id1).2.1)), (.ow 60 true ((Pu.spec_StreamLeave.v s0_0 s0_1 s0_2 id1).2.2))])], []⟩ := by
    intro s0_0 s0_1 s0_2 id1  h1
    obtain ⟨N, hN⟩ := Pu.spec_StreamLeave.b_eq (R := Res) (fun r0 r1 r2 => some ⟨[(.v true [(.i .i64 r0), (.s r1), (.ow 60 true r2)])], []⟩) s0_0 s0_1 s0_2 id1 h1
    have hl : loopsOf (Try.f54.body.getD .skip) = [loopOf Try.f54 3] := by kernel_rfl
    refine ⟨it54 N, by rw [hl]; exact (loops_cons (lo54_3 N) loops_nil), ?_⟩
    refine Eq.trans (show body E54 (it54 N) Try.f54 [(.v true [(.i .i64 s0_0), (.s s0_1), (.sh 60 s0_2)]), (.v false [(.i .i64 id1)])] = Pu.spec_StreamLeave.b N (fun r0 r1 r2 => some ⟨[(.v true [(.i .i64 r0), (.s r1), (.ow 60 true r2)])], []⟩) s0_0 s0_1 s0_2 id1 by kernel_rfl) hN
  intro args r h
  unfold sp54 at h
  split at h
  · injection h with h
    injection h with h1 h2
    subst h2
    exact ⟨by kernel_rfl, fun hf => ⟨of_decide_eq_true (by kernel_rfl), key _ _ _ _ h1⟩⟩
  · cases h

end Go.FG.Se

namespace Go.FG.Se
open Go.Proofs
def E92 : Env := { toTab := T, call := Go.FG.callIn [(105, sp105)], mode := Go.FG.modeIn md, keep := Go.FG.keepIn [], tk := fun n => Go.FG.memB n [], om := Go.FG.omIn [] }
def sp92 : List Arg → Option (Bool × Res)
  | [(.pt [(.sh 5 c0_0), (.i .i64 c0_1), (.i .i64 c0_2)]), (.v false [(.i .i64 n1)])] => some (Pu.spec_l01Once.c c0_0 c0_1 c0_2 n1, ⟨[(.v false [(.b ((Pu.spec_l01Once.v c0_0 c0_1 c0_2 n1).1))])], [[(.sh 5 ((Pu.spec_l01Once.v c0_0 c0_1 c0_2 n1).2.1)), (.i .i64 ((Pu.spec_l01Once.v c0_0 c0_1 c0_2 n1).2.2.1)), (.i .i64 ((Pu.spec_l01Once.v c0_0 c0_1 c0_2 n1).2.2.2))]]⟩)
  | _ => none
theorem ok92 : FnOk Try.prog T 92 sp92 := by
  refine fn_ok (E := E92) hE (call_cons ok105 call_nil) hM Try.func92 (code := (Try.f92.body.getD .skip)) (by kernel_rfl) (by kernel_rfl) ?_
  have key : ∀ (c0_0 : Row) (c0_1 : Int) (c0_2 : Int) (n1 : Int), Pu.spec_l01Once.c c0_0 c0_1 c0_2 n1 = true → ∃ it : It Res, (∀ c ∈ loopsOf (Try.f92.body.getD .skip), LoopOk E92 it c) ∧ body E92 it Try.f92 [(.pt [(.sh 5 c0_0), (.i .i64 c0_1), (.i .i64 c0_2)]), (.v false [(.i .i64 n1)])] = some ⟨[(.v false [(.b ((Pu.spec_l01Once.v c0_0 c0_1 c0_2 n1).1))])], [[(.sh 5 ((Pu.spec_l01Once.v c0_0 c0_1 c0_2 n1).2.1)), (.i .i64 ((Pu.spec_l01Once.v c0_0 c0_1 c0_2 n1).2.2.1)), (.i .i64 ((Pu.spec_l01Once.v c0_0 c0_1 c0_2 n1).2.2.2))]]⟩ := by
    intro c0_0 c0_1 c0_2 n1  h1
    have hN := Pu.spec_l01Once.b_eq (R := Res) (fun r0 r1 r2 r3 => some ⟨[(.v false [(.b r0)])], [[(.sh 5 r1), (.i .i64 r2), (.i .i64 r3)]]⟩) c0_0 c0_1 c0_2 n1 h1
    have hl : loopsOf (Try.f92.body.getD .skip) = [] := by kernel_rfl
    refine ⟨iterN 0, by rw [hl]; exact loops_nil, ?_⟩
    refine Eq.trans (show body E92 (iterN 0) Try.f92 [(.pt [(.sh 5 c0_0), (.i .i64 c0_1), (.i .i64 c0_2)]), (.v false [(.i .i64 n1)])] = Pu.spec_l01Once.b (fun r0 r1 r2 r3 => some ⟨[(.v false [(.b r0)])], [[(.sh 5 r1), (.i .i64 r2), (.i .i64 r3)]]⟩) c0_0 c0_1 c0_2 n1 by kernel_rfl) hN
  intro args r h
  unfold sp92 at h
  split at h
  · injection h with h
    injection h with h1 h2
    subst h2
    exact ⟨by kernel_rfl, fun hf => ⟨of_decide_eq_true (by kernel_rfl), key _ _ _ _ h1⟩⟩
  · cases h

end Go.FG.Se

namespace Go.FG.Se
open Go.Proofs
def E47 : Env := { toTab := T, call := Go.FG.callIn [(121, sp121), (53, sp53)], mode := Go.FG.modeIn md, keep := Go.FG.keepIn [], tk := fun n => Go.FG.memB n [], om := Go.FG.omIn [] }
def sp47 : List Arg → Option (Bool × Res)
  | [(.v true [(.i .i64 s0_0), (.s s0_1), (.sh 60 s0_2)]), (.v false [(.b broken1)])] => some (Pu.spec_StreamEnd.c s0_0 s0_1 s0_2 broken1, ⟨[(.v true [(.i .i64 ((Pu.spec_StreamEnd.v s0_0 s0_1 s0_2 broken1).1)), (.s ((Pu.spec_StreamEnd.v s0_0 s0_1 s0_2 broken1).2.1)), (.ow 60 true ((Pu.spec_StreamEnd.v s0_0 s0_1 s0_2 broken1).2.2.1))]), (.v false [(.b ((Pu.spec_StreamEnd.v s0_0 s0_1 s0_2 broken1).2.2.2))])], []⟩)
  | _ => none
theorem ok47 : FnOk Try.prog T 47 sp47 := by
  refine fn_ok (E := E47) hE (call_cons ok121 (call_cons ok53 call_nil)) hM Try.func47 (code := (Try.f47.body.getD .skip)) (by kernel_rfl) (by kernel_rfl) ?_
  have key : ∀ (s0_0 : Int) (s0_1 : ByteArray) (s0_2 : Row) (broken1 : Bool), Pu.spec_StreamEnd.c s0_0 s0_1 s0_2 broken1 = true → ∃ it : It Res, (∀ c ∈ loopsOf (Try.f47.body.getD .skip), LoopOk E47 it c) ∧ body E47 it Try.f47 [(.v true [(.i .i64 s0_0), (.s s0_1), (.sh 60 s0_2)]), (.v false [(.b broken1)])] = some ⟨[(.v true [(.i .i64 ((Pu.spec_StreamEnd.v s0_0 s0_1 s0_2 broken1).1)), (.s ((Pu.spec_StreamEnd.v s0_0 s0_1 s0_2 broken1).2.1)), (.ow 60 true ((Pu.spec_StreamEnd.v s0_0 s0_1 s0_2 broken1).2.2.1))]), (.v false [(.b ((Pu.spec_StreamEnd.v s0_0 s0_1 s0_2 broken1).2.2.2))])], []⟩ := by
    intro s0_0 s0_1 s0_2 broken1  h1
    have hN := Pu.spec_StreamEnd.b_eq (R := Res) (fun r0 r1 r2 r3 => some ⟨[(.v true [(.i .i64 r0), (.s r1), (.ow 60 true r2)]), (.v false [(.b r3)])], []⟩) s0_0 s0_1 s0_2 broken1 h1
    have hl : loopsOf (Try.f47.body.getD .skip) = [] := by kernel_rfl
    refine ⟨iterN 0, by rw [hl]; exact loops_nil, ?_⟩
    refine Eq.trans (show body E47 (iterN 0) Try.f47 [(.v true [(.i .i64 s0_0), (.s s0_1), (.sh 60 s0_2)]), (.v false [(.b broken1)])] = Pu.spec_StreamEnd.b (fun r0 r1 r2 r3 => some ⟨[(.v true [(.i .i64 r0), (.s r1), (.ow 60 true r2)]), (.v false [(.b r3)])], []⟩) s0_0 s0_1 s0_2 broken1 by kernel_rfl) hN
  intro args r h
  unfold sp47 at h
  split at h
  · injection h with h
    injection h with h1 h2
    subst h2
    exact ⟨by kernel_rfl, fun hf => ⟨of_decide_eq_true (by kernel_rfl), key _ _ _ _ h1⟩⟩
  · cases h

end Go.FG.Se

namespace Go.FG.Se
open Go.Proofs
def E111 : Env := { toTab := T, call := Go.FG.callIn [(172, sp172), (105, sp105), (166, sp166), (45, sp45), (49, sp49), (51, sp51), (54, sp54), (92, sp92), (47, sp47)], mode := Go.FG.modeIn md, keep := Go.FG.keepIn [(3, [0, 2, 3, 4])], tk := fun n => Go.FG.memB n [], om := Go.FG.omIn [] }
def it111 (N : Nat) {R : Type} : It R := fun rid f cn L K => bif Nat.beq rid 3 then (tell [(0, (.v (.v false [(.bp 900000900 0)]))), (4, (.v (.v false [(.bp 1 0)]))), (6, (.v (.v false [(.bp 2 0)]))), (8, (.v (.v false [(.i .i64 0)]))), (1800001801, (.o (.box [(.sh 5 []), (.i .i64 0), (.i .i64 0)]))), (3, (.o (.box [(.i .i64 0), (.s ⟨#[]⟩), .nl]))), (5, (.o (.box [(.i .i64 0), (.s ⟨#[]⟩), (.own 3)]))), (7, (.o (.row 60 true [])))] (fun | [.I x0, .R x1, .I x2, .I x3, .I x4, .S x5, .I x6, .S x7, .R x8] => Pu.spec_l14Stream.l3 N (fun y0 y1 y2 y3 y4 y5 y6 y7 y8 => (K (.exit 0) (tabl [(0, (.v (.v false [(.bp 900000900 0)]))), (4, (.v (.v false [(.bp 1 0)]))), (6, (.v (.v false [(.bp 2 0)]))), (8, (.v (.v false [(.i .i64 y0)]))), (1800001801, (.o (.box [(.sh 5 y1), (.i .i64 y2), (.i .i64 y3)]))), (3, (.o (.box [(.i .i64 y4), (.s y5), .nl]))), (5, (.o (.box [(.i .i64 y6), (.s y7), (.own 3)]))), (7, (.o (.row 60 true y8)))]))) N x0 x1 x2 x3 x4 x5 x6 x7 x8 | _ => none) L (none)) else none
theorem e111_3 {R : Type} (N : Nat) (K : Ex → St → Option R) : ∀ n : Nat, (∀ x0 x1 x2 x3 x4 x5 x6 x7 x8, iter (exc E111 (it111 N) (loopOf Try.f111 3)) (canon (E111.keep 3))  n (tabl [(0, (.v (.v false [(.bp 900000900 0)]))), (4, (.v (.v false [(.bp 1 0)]))), (6, (.v (.v false [(.bp 2 0)]))), (8, (.v (.v false [(.i .i64 x0)]))), (1800001801, (.o (.box [(.sh 5 x1), (.i .i64 x2), (.i .i64 x3)]))), (3, (.o (.box [(.i .i64 x4), (.s x5), .nl]))), (5, (.o (.box [(.i .i64 x6), (.s x7), (.own 3)]))), (7, (.o (.row 60 true x8)))]) K = Pu.spec_l14Stream.l3 N (fun y0 y1 y2 y3 y4 y5 y6 y7 y8 => (K (.exit 0) (tabl [(0, (.v (.v false [(.bp 900000900 0)]))), (4, (.v (.v false [(.bp 1 0)]))), (6, (.v (.v false [(.bp 2 0)]))), (8, (.v (.v false [(.i .i64 y0)]))), (1800001801, (.o (.box [(.sh 5 y1), (.i .i64 y2), (.i .i64 y3)]))), (3, (.o (.box [(.i .i64 y4), (.s y5), .nl]))), (5, (.o (.box [(.i .i64 y6), (.s y7), (.own 3)]))), (7, (.o (.row 60 true y8)))]))) n x0 x1 x2 x3 x4 x5 x6 x7 x8) := by
  intro n
  induction n with
  | zero => exact (fun _ _ _ _ _ _ _ _ _ => rfl)
  | succ n ih =>
    have e0 : (fun x0 x1 x2 x3 x4 x5 x6 x7 x8 => iter (exc E111 (it111 N) (loopOf Try.f111 3)) (canon (E111.keep 3))  n (tabl [(0, (.v (.v false [(.bp 900000900 0)]))), (4, (.v (.v false [(.bp 1 0)]))), (6, (.v (.v false [(.bp 2 0)]))), (8, (.v (.v false [(.i .i64 x0)]))), (1800001801, (.o (.box [(.sh 5 x1), (.i .i64 x2), (.i .i64 x3)]))), (3, (.o (.box [(.i .i64 x4), (.s x5), .nl]))), (5, (.o (.box [(.i .i64 x6), (.s x7), (.own 3)]))), (7, (.o (.row 60 true x8)))]) K) = Pu.spec_l14Stream.l3 N (fun y0 y1 y2 y3 y4 y5 y6 y7 y8 => (K (.exit 0) (tabl [(0, (.v (.v false [(.bp 900000900 0)]))), (4, (.v (.v false [(.bp 1 0)]))), (6, (.v (.v false [(.bp 2 0)]))), (8, (.v (.v false [(.i .i64 y0)]))), (1800001801, (.o (.box [(.sh 5 y1), (.i .i64 y2), (.i .i64 y3)]))), (3, (.o (.box [(.i .i64 y4), (.s y5), .nl]))), (5, (.o (.box [(.i .i64 y6), (.s y7), (.own 3)]))), (7, (.o (.row 60 true y8)))]))) n := by funext x0 x1 x2 x3 x4 x5 x6 x7 x8; exact ih x0 x1 x2 x3 x4 x5 x6 x7 x8
    intro x0 x1 x2 x3 x4 x5 x6 x7 x8
    have h : ∀ g, exc E111 (it111 N) (loopOf Try.f111 3) (tabl [(0, (.v (.v false [(.bp 900000900 0)]))), (4, (.v (.v false [(.bp 1 0)]))), (6, (.v (.v false [(.bp 2 0)]))), (8, (.v (.v false [(.i .i64 x0)]))), (1800001801, (.o (.box [(.sh 5 x1), (.i .i64 x2), (.i .i64 x3)]))), (3, (.o (.box [(.i .i64 x4), (.s x5), .nl]))), (5, (.o (.box [(.i .i64 x6), (.s x7), (.own 3)]))), (7, (.o (.row 60 true x8)))]) (iterK g (canon (E111.keep 3)) K) = Pu.spec_l14Stream.r3 N (fun x0 x1 x2 x3 x4 x5 x6 x7 x8 => (g (tabl [(0, (.v (.v false [(.bp 900000900 0)]))), (4, (.v (.v false [(.bp 1 0)]))), (6, (.v (.v false [(.bp 2 0)]))), (8, (.v (.v false [(.i .i64 x0)]))), (1800001801, (.o (.box [(.sh 5 x1), (.i .i64 x2), (.i .i64 x3)]))), (3, (.o (.box [(.i .i64 x4), (.s x5), .nl]))), (5, (.o (.box [(.i .i64 x6), (.s x7), (.own 3)]))), (7, (.o (.row 60 true x8)))]))) (fun y0 y1 y2 y3 y4 y5 y6 y7 y8 => (K (.exit 0) (tabl [(0, (.v (.v false [(.bp 900000900 0)]))), (4, (.v (.v false [(.bp 1 0)]))), (6, (.v (.v false [(.bp 2 0)]))), (8, (.v (.v false [(.i .i64 y0)]))), (1800001801, (.o (.box [(.sh 5 y1), (.i .i64 y2), (.i .i64 y3)]))), (3, (.o (.box [(.i .i64 y4), (.s y5), .nl]))), (5, (.o (.box [(.i .i64 y6), (.s y7), (.own 3)]))), (7, (.o (.row 60 true y8)))]))) x0 x1 x2 x3 x4 x5 x6 x7 x8 := by intro g; kernel_rfl
    refine (h _).trans ?_
    show Pu.spec_l14Stream.r3 N (fun x0 x1 x2 x3 x4 x5 x6 x7 x8 => (iter (exc E111 (it111 N) (loopOf Try.f111 3)) (canon (E111.keep 3))  n (tabl [(0, (.v (.v false [(.bp 900000900 0)]))), (4, (.v (.v false [(.bp 1 0)]))), (6, (.v (.v false [(.bp 2 0)]))), (8, (.v (.v false [(.i .i64 x0)]))), (1800001801, (.o (.box [(.sh 5 x1), (.i .i64 x2), (.i .i64 x3)]))), (3, (.o (.box [(.i .i64 x4), (.s x5), .nl]))), (5, (.o (.box [(.i .i64 x6), (.s x7), (.own 3)]))), (7, (.o (.row 60 true x8)))]) K)) (fun y0 y1 y2 y3 y4 y5 y6 y7 y8 => (K (.exit 0) (tabl [(0, (.v (.v false [(.bp 900000900 0)]))), (4, (.v (.v false [(.bp 1 0)]))), (6, (.v (.v false [(.bp 2 0)]))), (8, (.v (.v false [(.i .i64 y0)]))), (1800001801, (.o (.box [(.sh 5 y1), (.i .i64 y2), (.i .i64 y3)]))), (3, (.o (.box [(.i .i64 y4), (.s y5), .nl]))), (5, (.o (.box [(.i .i64 y6), (.s y7), (.own 3)]))), (7, (.o (.row 60 true y8)))]))) x0 x1 x2 x3 x4 x5 x6 x7 x8 = _
    rw [e0]; rfl
theorem lo111_3 {R : Type} (N : Nat) : LoopOk E111 (it111 N (R := R)) (loopOf Try.f111 3) := by
  have e : firstRid (loopOf Try.f111 3) = 3 := by kernel_rfl
  intro L K r
  rw [e]
  intro h
  unfold it111 at h
  simp only [show Nat.beq 3 3 = true from rfl, cond_false, cond_true] at h
  refine tell_ok (Q := fun L => ∃ n, iter (exc E111 (it111 N) (loopOf Try.f111 3)) (canon (E111.keep 3)) n (tabl L) K = some r) h (fun xs h => ?_) (fun h => ?_)
  · (try dsimp only at h)
    split at h
    · exact ⟨N, ((e111_3 N K N) _ _ _ _ _ _ _ _ _).trans h⟩
    · cases h
  cases h
def sp111 : List Arg → Option (Bool × Res)
  | [(.pt [(.sh 5 c0_0), (.i .i64 c0_1), (.i .i64 c0_2)])] => some (Pu.spec_l14Stream.c c0_0 c0_1 c0_2, ⟨[(.v true [(.i .i64 ((Pu.spec_l14Stream.v c0_0 c0_1 c0_2).1)), (.s ((Pu.spec_l14Stream.v c0_0 c0_1 c0_2).2.1)), (.ow 60 true ((Pu.spec_l14Stream.v c0_0 c0_1 c0_2).2.2.1))])], [[(.sh 5 ((Pu.spec_l14Stream.v c0_0 c0_1 c0_2).2.2.2.1)), (.i .i64 ((Pu.spec_l14Stream.v c0_0 c0_1 c0_2).2.2.2.2.1)), (.i .i64 ((Pu.spec_l14Stream.v c0_0 c0_1 c0_2).2.2.2.2.2))]]⟩)
  | _ => none
theorem ok111 : FnOk Try.prog T 111 sp111 := by
  refine fn_ok (E := E111) hE (call_cons ok172 (call_cons ok105 (call_cons ok166 (call_cons ok45 (call_cons ok49 (call_cons ok51 (call_cons ok54 (call_cons ok92 (call_cons ok47 call_nil))))))))) hM Try.func111 (code := (Try.f111.body.getD .skip)) (by kernel_rfl) (by kernel_rfl) ?_
  have key : ∀ (c0_0 : Row) (c0_1 : Int) (c0_2 : Int), Pu.spec_l14Stream.c c0_0 c0_1 c0_2 = true → ∃ it : It Res, (∀ c ∈ loopsOf (Try.f111.body.getD .skip), LoopOk E111 it c) ∧ body E111 it Try.f111 [(.pt [(.sh 5 c0_0), (.i .i64 c0_1), (.i .i64 c0_2)])] = some ⟨[(.v true [(.i .i64 ((Pu.spec_l14Stream.v c0_0 c0_1 c0_2).1)), (.s ((Pu.spec_l14Stream.v c0_0 c0_1 c0_2).2.1)), (.ow 60 true ((Pu.spec_l14Stream.v c0_0 c0_1 c0_2).2.2.1))])], [[(.sh 5 ((Pu.spec_l14Stream.v c0_0 c0_1 c0_2).2.2.2.1)), (.i .i64 ((Pu.spec_l14Stream.v c0_0 c0_1 c0_2).2.2.2.2.1)), (.i .i64 ((Pu.spec_l14Stream.v c0_0 c0_1 c0_2).2.2.2.2.2))]]⟩ := by
    intro c0_0 c0_1 c0_2  h1
    obtain ⟨N, hN⟩ := Pu.spec_l14Stream.b_eq (R := Res) (fun r0 r1 r2 r3 r4 r5 => some ⟨[(.v true [(.i .i64 r0), (.s r1), (.ow 60 true r2)])], [[(.sh 5 r3), (.i .i64 r4), (.i .i64 r5)]]⟩) c0_0 c0_1 c0_2 h1
    have hl : loopsOf (Try.f111.body.getD .skip) = [loopOf Try.f111 3] := by kernel_rfl
    refine ⟨it111 N, by rw [hl]; exact (loops_cons (lo111_3 N) loops_nil), ?_⟩
    refine Eq.trans (show body E111 (it111 N) Try.f111 [(.pt [(.sh 5 c0_0), (.i .i64 c0_1), (.i .i64 c0_2)])] = Pu.spec_l14Stream.b N (fun r0 r1 r2 r3 r4 r5 => some ⟨[(.v true [(.i .i64 r0), (.s r1), (.ow 60 true r2)])], [[(.sh 5 r3), (.i .i64 r4), (.i .i64 r5)]]⟩) c0_0 c0_1 c0_2 by kernel_rfl) hN
  intro args r h
  unfold sp111 at h
  split at h
  · injection h with h
    injection h with h1 h2
    subst h2
    exact ⟨by kernel_rfl, fun hf => ⟨of_decide_eq_true (by kernel_rfl), key _ _ _ h1⟩⟩
  · cases h

end Go.FG.Se

namespace Go.FG.Se
open Go.Proofs
def E34 : Env := { toTab := T, call := Go.FG.callIn [(89, sp89), (111, sp111)], mode := Go.FG.modeIn md, keep := Go.FG.keepIn [], tk := fun n => Go.FG.memB n [], om := Go.FG.omIn [] }
def sp34 : List Arg → Option (Bool × Res)
  | [(.v false [(.sh 5 code0)])] => some (Pu.spec_DrawStream.c code0, ⟨[(.v true [(.i .i64 ((Pu.spec_DrawStream.v code0).1)), (.s ((Pu.spec_DrawStream.v code0).2.1)), (.ow 60 true ((Pu.spec_DrawStream.v code0).2.2))])], []⟩)
  | _ => none
theorem ok34 : FnOk Try.prog T 34 sp34 := by
  refine fn_ok (E := E34) hE (call_cons ok89 (call_cons ok111 call_nil)) hM Try.func34 (code := (Try.f34.body.getD .skip)) (by kernel_rfl) (by kernel_rfl) ?_
  have key : ∀ (code0 : Row), Pu.spec_DrawStream.c code0 = true → ∃ it : It Res, (∀ c ∈ loopsOf (Try.f34.body.getD .skip), LoopOk E34 it c) ∧ body E34 it Try.f34 [(.v false [(.sh 5 code0)])] = some ⟨[(.v true [(.i .i64 ((Pu.spec_DrawStream.v code0).1)), (.s ((Pu.spec_DrawStream.v code0).2.1)), (.ow 60 true ((Pu.spec_DrawStream.v code0).2.2))])], []⟩ := by
    intro code0  h1
    have hN := Pu.spec_DrawStream.b_eq (R := Res) (fun r0 r1 r2 => some ⟨[(.v true [(.i .i64 r0), (.s r1), (.ow 60 true r2)])], []⟩) code0 h1
    have hl : loopsOf (Try.f34.body.getD .skip) = [] := by kernel_rfl
    refine ⟨iterN 0, by rw [hl]; exact loops_nil, ?_⟩
    refine Eq.trans (show body E34 (iterN 0) Try.f34 [(.v false [(.sh 5 code0)])] = Pu.spec_DrawStream.b (fun r0 r1 r2 => some ⟨[(.v true [(.i .i64 r0), (.s r1), (.ow 60 true r2)])], []⟩) code0 by kernel_rfl) hN
  intro args r h
  unfold sp34 at h
  split at h
  · injection h with h
    injection h with h1 h2
    subst h2
    exact ⟨by kernel_rfl, fun hf => ⟨of_decide_eq_true (by kernel_rfl), key _ h1⟩⟩
  · cases h

end Go.FG.Se

namespace Go.FG.Se
open Go.Proofs
def E35 : Env := { toTab := T, call := Go.FG.callIn [(89, sp89), (112, sp112), (105, sp105)], mode := Go.FG.modeIn md, keep := Go.FG.keepIn [(5, [3, 4, 5])], tk := fun n => Go.FG.memB n [], om := Go.FG.omIn [] }
def it35 (N : Nat) {R : Type} : It R := fun rid f cn L K => bif Nat.beq rid 5 then (tell [(6, (.v (.v false [(.bp 0 0)]))), (8, (.v (.v false [(.own 1)]))), (10, (.v (.v false [(.i .i64 0)]))), (1, (.o (.box [(.sh 5 []), (.i .i64 0), (.i .i64 0)]))), (3, (.o (.row 3 true [])))] (fun | [.I x0, .R x1, .I x2, .I x3, .R x4] => Pu.spec_DrawPlaces.l5 N (fun y0 y1 y2 y3 y4 => (K (.exit 0) (tabl [(6, (.v (.v false [(.bp 0 0)]))), (8, (.v (.v false [(.own 1)]))), (10, (.v (.v false [(.i .i64 y0)]))), (1, (.o (.box [(.sh 5 y1), (.i .i64 y2), (.i .i64 y3)]))), (3, (.o (.row 3 true y4)))]))) N x0 x1 x2 x3 x4 | _ => none) L (none)) else none
theorem e35_5 {R : Type} (N : Nat) (K : Ex → St → Option R) : ∀ n : Nat, (∀ x0 x1 x2 x3 x4, iter (exc E35 (it35 N) (loopOf Try.f35 5)) (canon (E35.keep 5))  n (tabl [(6, (.v (.v false [(.bp 0 0)]))), (8, (.v (.v false [(.own 1)]))), (10, (.v (.v false [(.i .i64 x0)]))), (1, (.o (.box [(.sh 5 x1), (.i .i64 x2), (.i .i64 x3)]))), (3, (.o (.row 3 true x4)))]) K = Pu.spec_DrawPlaces.l5 N (fun y0 y1 y2 y3 y4 => (K (.exit 0) (tabl [(6, (.v (.v false [(.bp 0 0)]))), (8, (.v (.v false [(.own 1)]))), (10, (.v (.v false [(.i .i64 y0)]))), (1, (.o (.box [(.sh 5 y1), (.i .i64 y2), (.i .i64 y3)]))), (3, (.o (.row 3 true y4)))]))) n x0 x1 x2 x3 x4) := by
  intro n
  induction n with
  | zero => exact (fun _ _ _ _ _ => rfl)
  | succ n ih =>
    have e0 : (fun x0 x1 x2 x3 x4 => iter (exc E35 (it35 N) (loopOf Try.f35 5)) (canon (E35.keep 5))  n (tabl [(6, (.v (.v false [(.bp 0 0)]))), (8, (.v (.v false [(.own 1)]))), (10, (.v (.v false [(.i .i64 x0)]))), (1, (.o (.box [(.sh 5 x1), (.i .i64 x2), (.i .i64 x3)]))), (3, (.o (.row 3 true x4)))]) K) = Pu.spec_DrawPlaces.l5 N (fun y0 y1 y2 y3 y4 => (K (.exit 0) (tabl [(6, (.v (.v false [(.bp 0 0)]))), (8, (.v (.v false [(.own 1)]))), (10, (.v (.v false [(.i .i64 y0)]))), (1, (.o (.box [(.sh 5 y1), (.i .i64 y2), (.i .i64 y3)]))), (3, (.o (.row 3 true y4)))]))) n := by funext x0 x1 x2 x3 x4; exact ih x0 x1 x2 x3 x4
    intro x0 x1 x2 x3 x4
    have h : ∀ g, exc E35 (it35 N) (loopOf Try.f35 5) (tabl [(6, (.v (.v false [(.bp 0 0)]))), (8, (.v (.v false [(.own 1)]))), (10, (.v (.v false [(.i .i64 x0)]))), (1, (.o (.box [(.sh 5 x1), (.i .i64 x2), (.i .i64 x3)]))), (3, (.o (.row 3 true x4)))]) (iterK g (canon (E35.keep 5)) K) = Pu.spec_DrawPlaces.r5 N (fun x0 x1 x2 x3 x4 => (g (tabl [(6, (.v (.v false [(.bp 0 0)]))), (8, (.v (.v false [(.own 1)]))), (10, (.v (.v false [(.i .i64 x0)]))), (1, (.o (.box [(.sh 5 x1), (.i .i64 x2), (.i .i64 x3)]))), (3, (.o (.row 3 true x4)))]))) (fun y0 y1 y2 y3 y4 => (K (.exit 0) (tabl [(6, (.v (.v false [(.bp 0 0)]))), (8, (.v (.v false [(.own 1)]))), (10, (.v (.v false [(.i .i64 y0)]))), (1, (.o (.box [(.sh 5 y1), (.i .i64 y2), (.i .i64 y3)]))), (3, (.o (.row 3 true y4)))]))) x0 x1 x2 x3 x4 := by intro g; kernel_rfl
    refine (h _).trans ?_
    show Pu.spec_DrawPlaces.r5 N (fun x0 x1 x2 x3 x4 => (iter (exc E35 (it35 N) (loopOf Try.f35 5)) (canon (E35.keep 5))  n (tabl [(6, (.v (.v false [(.bp 0 0)]))), (8, (.v (.v false [(.own 1)]))), (10, (.v (.v false [(.i .i64 x0)]))), (1, (.o (.box [(.sh 5 x1), (.i .i64 x2), (.i .i64 x3)]))), (3, (.o (.row 3 true x4)))]) K)) (fun y0 y1 y2 y3 y4 => (K (.exit 0) (tabl [(6, (.v (.v false [(.bp 0 0)]))), (8, (.v (.v false [(.own 1)]))), (10, (.v (.v false [(.i .i64 y0)]))), (1, (.o (.box [(.sh 5 y1), (.i .i64 y2), (.i .i64 y3)]))), (3, (.o (.row 3 true y4)))]))) x0 x1 x2 x3 x4 = _
    rw [e0]; rfl
theorem lo35_5 {R : Type} (N : Nat) : LoopOk E35 (it35 N (R := R)) (loopOf Try.f35 5) := by
  have e : firstRid (loopOf Try.f35 5) = 5 := by kernel_rfl
  intro L K r
  rw [e]
  intro h
  unfold it35 at h
  simp only [show Nat.beq 5 5 = true from rfl, cond_false, cond_true] at h
  refine tell_ok (Q := fun L => ∃ n, iter (exc E35 (it35 N) (loopOf Try.f35 5)) (canon (E35.keep 5)) n (tabl L) K = some r) h (fun xs h => ?_) (fun h => ?_)
  · (try dsimp only at h)
    split at h
    · exact ⟨N, ((e35_5 N K N) _ _ _ _ _).trans h⟩
    · cases h
  cases h
def sp35 : List Arg → Option (Bool × Res)
  | [(.v false [(.sh 5 code0)])] => some (Pu.spec_DrawPlaces.c code0, ⟨[(.v false [(.ow 3 true (Pu.spec_DrawPlaces.v code0))])], []⟩)
  | _ => none
theorem ok35 : FnOk Try.prog T 35 sp35 := by
  refine fn_ok (E := E35) hE (call_cons ok89 (call_cons ok112 (call_cons ok105 call_nil))) hM Try.func35 (code := (Try.f35.body.getD .skip)) (by kernel_rfl) (by kernel_rfl) ?_
  have key : ∀ (code0 : Row), Pu.spec_DrawPlaces.c code0 = true → ∃ it : It Res, (∀ c ∈ loopsOf (Try.f35.body.getD .skip), LoopOk E35 it c) ∧ body E35 it Try.f35 [(.v false [(.sh 5 code0)])] = some ⟨[(.v false [(.ow 3 true (Pu.spec_DrawPlaces.v code0))])], []⟩ := by
    intro code0  h1
    obtain ⟨N, hN⟩ := Pu.spec_DrawPlaces.b_eq (R := Res) (fun r0 => some ⟨[(.v false [(.ow 3 true r0)])], []⟩) code0 h1
    have hl : loopsOf (Try.f35.body.getD .skip) = [loopOf Try.f35 5] := by kernel_rfl
    refine ⟨it35 N, by rw [hl]; exact (loops_cons (lo35_5 N) loops_nil), ?_⟩
    refine Eq.trans (show body E35 (it35 N) Try.f35 [(.v false [(.sh 5 code0)])] = Pu.spec_DrawPlaces.b N (fun r0 => some ⟨[(.v false [(.ow 3 true r0)])], []⟩) code0 by kernel_rfl) hN
  intro args r h
  unfold sp35 at h
  split at h
  · injection h with h
    injection h with h1 h2
    subst h2
    exact ⟨by kernel_rfl, fun hf => ⟨of_decide_eq_true (by kernel_rfl), key _ h1⟩⟩
  · cases h

end Go.FG.Se

namespace Go.FG.Se
open Go.Proofs
def E113 : Env := { toTab := T, call := Go.FG.callIn [], mode := Go.FG.modeIn md, keep := Go.FG.keepIn [], tk := fun n => Go.FG.memB n [], om := Go.FG.omIn [] }
def sp113 : List Arg → Option (Bool × Res)
  | [(.v true [(.i .i64 s0_0), (.s s0_1), (.sh 60 s0_2)])] => some (Pu.impl_copyStream.c s0_0 s0_1 s0_2, ⟨[(.v true [(.i .i64 ((Pu.impl_copyStream.v s0_0 s0_1 s0_2).1)), (.s ((Pu.impl_copyStream.v s0_0 s0_1 s0_2).2.1)), (.ow 60 true ((Pu.impl_copyStream.v s0_0 s0_1 s0_2).2.2))])], []⟩)
  | _ => none
theorem ok113 : FnOk Try.prog T 113 sp113 := by
  refine fn_ok (E := E113) hE call_nil hM Try.func113 (code := (Try.f113.body.getD .skip)) (by kernel_rfl) (by kernel_rfl) ?_
  have key : ∀ (s0_0 : Int) (s0_1 : ByteArray) (s0_2 : Row), Pu.impl_copyStream.c s0_0 s0_1 s0_2 = true → ∃ it : It Res, (∀ c ∈ loopsOf (Try.f113.body.getD .skip), LoopOk E113 it c) ∧ body E113 it Try.f113 [(.v true [(.i .i64 s0_0), (.s s0_1), (.sh 60 s0_2)])] = some ⟨[(.v true [(.i .i64 ((Pu.impl_copyStream.v s0_0 s0_1 s0_2).1)), (.s ((Pu.impl_copyStream.v s0_0 s0_1 s0_2).2.1)), (.ow 60 true ((Pu.impl_copyStream.v s0_0 s0_1 s0_2).2.2))])], []⟩ := by
    intro s0_0 s0_1 s0_2  h1
    have hN := Pu.impl_copyStream.b_eq (R := Res) (fun r0 r1 r2 => some ⟨[(.v true [(.i .i64 r0), (.s r1), (.ow 60 true r2)])], []⟩) s0_0 s0_1 s0_2 h1
    have hl : loopsOf (Try.f113.body.getD .skip) = [] := by kernel_rfl
    refine ⟨iterN 0, by rw [hl]; exact loops_nil, ?_⟩
    refine Eq.trans (show body E113 (iterN 0) Try.f113 [(.v true [(.i .i64 s0_0), (.s s0_1), (.sh 60 s0_2)])] = Pu.impl_copyStream.b (fun r0 r1 r2 => some ⟨[(.v true [(.i .i64 r0), (.s r1), (.ow 60 true r2)])], []⟩) s0_0 s0_1 s0_2 by kernel_rfl) hN
  intro args r h
  unfold sp113 at h
  split at h
  · injection h with h
    injection h with h1 h2
    subst h2
    exact ⟨by kernel_rfl, fun hf => ⟨of_decide_eq_true (by kernel_rfl), key _ _ _ h1⟩⟩
  · cases h

end Go.FG.Se

namespace Go.FG.Se
open Go.Proofs
def E39 : Env := { toTab := T, call := Go.FG.callIn [(113, sp113), (116, sp116)], mode := Go.FG.modeIn md, keep := Go.FG.keepIn [], tk := fun n => Go.FG.memB n [], om := Go.FG.omIn [] }
def sp39 : List Arg → Option (Bool × Res)
  | [(.v true [(.i .i64 s0_0), (.s s0_1), (.sh 60 s0_2)]), (.v false [(.i .i64 id1)])] => some (Pu.impl_StreamLeave.c s0_0 s0_1 s0_2 id1, ⟨[(.v true [(.i .i64 ((Pu.impl_StreamLeave.v s0_0 s0_1 s0_2 id1).1)), (.s ((Pu.impl_StreamLeave.v s0_0 s0_1 s0_2 id1).2.1)), (.ow 60 true ((Pu.impl_StreamLeave.v s0_0 s0_1 s0_2 id1).2.2))])], []⟩)
  | _ => none
theorem ok39 : FnOk Try.prog T 39 sp39 := by
  refine fn_ok (E := E39) hE (call_cons ok113 (call_cons ok116 call_nil)) hM Try.func39 (code := (Try.f39.body.getD .skip)) (by kernel_rfl) (by kernel_rfl) ?_
  have key : ∀ (s0_0 : Int) (s0_1 : ByteArray) (s0_2 : Row) (id1 : Int), Pu.impl_StreamLeave.c s0_0 s0_1 s0_2 id1 = true → ∃ it : It Res, (∀ c ∈ loopsOf (Try.f39.body.getD .skip), LoopOk E39 it c) ∧ body E39 it Try.f39 [(.v true [(.i .i64 s0_0), (.s s0_1), (.sh 60 s0_2)]), (.v false [(.i .i64 id1)])] = some ⟨[(.v true [(.i .i64 ((Pu.impl_StreamLeave.v s0_0 s0_1 s0_2 id1).1)), (.s ((Pu.impl_StreamLeave.v s0_0 s0_1 s0_2 id1).2.1)), (.ow 60 true ((Pu.impl_StreamLeave.v s0_0 s0_1 s0_2 id1).2.2))])], []⟩ := by
    intro s0_0 s0_1 s0_2 id1  h1
    have hN := Pu.impl_StreamLeave.b_eq (R := Res) (fun r0 r1 r2 => some ⟨[(.v true [(.i .i64 r0), (.s r1), (.ow 60 true r2)])], []⟩) s0_0 s0_1 s0_2 id1 h1
    have hl : loopsOf (Try.f39.body.getD .skip) = [] := by kernel_rfl
    refine ⟨iterN 0, by rw [hl]; exact loops_nil, ?_⟩
    refine Eq.trans (show body E39 (iterN 0) Try.f39 [(.v true [(.i .i64 s0_0), (.s s0_1), (.sh 60 s0_2)]), (.v false [(.i .i64 id1)])] = Pu.impl_StreamLeave.b (fun r0 r1 r2 => some ⟨[(.v true [(.i .i64 r0), (.s r1), (.ow 60 true r2)])], []⟩) s0_0 s0_1 s0_2 id1 by kernel_rfl) hN
  intro args r h
  unfold sp39 at h
  split at h
  · injection h with h
    injection h with h1 h2
    subst h2
    exact ⟨by kernel_rfl, fun hf => ⟨of_decide_eq_true (by kernel_rfl), key _ _ _ _ h1⟩⟩
  · cases h

end Go.FG.Se

namespace Go.FG.Se
open Go.Proofs
def rho114 : Go.Shelf.Ren := ⟨fun n => bif Nat.beq n 22 then 114 else bif Nat.beq n 29 then 173 else 174, fun n => bif Nat.beq n 24 then 45 else bif Nat.beq n 9 then 60 else bif Nat.beq n 3 then 3 else bif Nat.beq n 4 then 4 else n, fun n => n⟩
def sp114 : List Arg → Option (Bool × Res) := Ins.insSpec 60 16
theorem ins114 : Ins.L Try.prog rho114 "slices.Insert[[]loop.example/g00245/impl.Reader,loop.example/g00245/impl.Reader]" 2 where
  mixed := hM
  f22 := Try.func114.trans (by kernel_rfl)
  t3 := by kernel_rfl
  a3 := Ins.agg_false (P := Try.prog) (t := 3) (d := .int .i64) (by kernel_rfl) rfl
  t4 := by kernel_rfl
  a4 := Ins.agg_false (P := Try.prog) (t := 4) (d := .bool) (by kernel_rfl) rfl
  t24 := by kernel_rfl
  a24 := Ins.agg_false (P := Try.prog) (t := 45) (d := .slice 60) (by kernel_rfl) rfl
  z9 := Ins.size_of hE (t := 60) (ti := ⟨true, [.i .i64, .i .i64], 16⟩) (by kernel_rfl)
theorem ok114 : FnOk Try.prog T 114 sp114 :=
  Ins.insert_ok (e := 60) (te := ⟨true, [.i .i64, .i .i64], 16⟩) (by kernel_rfl) rfl (by kernel_rfl) hE ins114
    (fun args w => run_callFunc_extern (e := Extern.SlicesOverlaps.overlaps #[45, 45] #[4]) Try.func173 (by kernel_rfl) (by kernel_rfl) (by kernel_rfl) (by kernel_rfl) args w)
    ⟨_, Try.func114, by kernel_rfl, by kernel_rfl⟩

end Go.FG.Se

namespace Go.FG.Se
open Go.Proofs
def E94 : Env := { toTab := T, call := Go.FG.callIn [], mode := Go.FG.modeIn md, keep := Go.FG.keepIn [], tk := fun n => Go.FG.memB n [], om := Go.FG.omIn [] }
def sp94 : List Arg → Option (Bool × Res)
  | [(.v false [(.i .i64 n0)]), (.v false [(.i .i64 low1)]), (.v false [(.i .i64 high2)])] => some (true, ⟨[(.v false [(.b (Pu.impl_within.v n0 low1 high2))])], []⟩)
  | _ => none
theorem ok94 : FnOk Try.prog T 94 sp94 := by
  refine fn_ok (E := E94) hE call_nil hM Try.func94 (code := (Try.f94.body.getD .skip)) (by kernel_rfl) (by kernel_rfl) ?_
  have key : ∀ (n0 : Int) (low1 : Int) (high2 : Int), ∃ it : It Res, (∀ c ∈ loopsOf (Try.f94.body.getD .skip), LoopOk E94 it c) ∧ body E94 it Try.f94 [(.v false [(.i .i64 n0)]), (.v false [(.i .i64 low1)]), (.v false [(.i .i64 high2)])] = some ⟨[(.v false [(.b (Pu.impl_within.v n0 low1 high2))])], []⟩ := by
    intro n0 low1 high2 
    have hN := Pu.impl_within.b_eq (R := Res) (fun r0 => some ⟨[(.v false [(.b r0)])], []⟩) n0 low1 high2
    have hl : loopsOf (Try.f94.body.getD .skip) = [] := by kernel_rfl
    refine ⟨iterN 0, by rw [hl]; exact loops_nil, ?_⟩
    refine Eq.trans (show body E94 (iterN 0) Try.f94 [(.v false [(.i .i64 n0)]), (.v false [(.i .i64 low1)]), (.v false [(.i .i64 high2)])] = Pu.impl_within.b (fun r0 => some ⟨[(.v false [(.b r0)])], []⟩) n0 low1 high2 by kernel_rfl) hN
  intro args r h
  unfold sp94 at h
  split at h
  · injection h with h
    injection h with h1 h2
    subst h2
    exact ⟨by kernel_rfl, fun hf => ⟨of_decide_eq_true (by kernel_rfl), key _ _ _⟩⟩
  · cases h

end Go.FG.Se

namespace Go.FG.Se
open Go.Proofs
def E43 : Env := { toTab := T, call := Go.FG.callIn [(94, sp94)], mode := Go.FG.modeIn md, keep := Go.FG.keepIn [(2, [1, 2, 6, 7, 8])], tk := fun n => Go.FG.memB n [], om := Go.FG.omIn [] }
def it43 (N : Nat) {R : Type} : It R := fun rid f cn L K => bif Nat.beq rid 2 then (tell [(2, (.v (.v false [(.bp 0 0)]))), (4, (.v (.v false [(.b false)]))), (12, (.v (.v false [(.sh 60 [])]))), (14, (.v (.v false [(.i .i64 0)]))), (16, (.v (.v false [(.i .i64 0)]))), (1, (.o (.box [(.i .i64 0), (.s ⟨#[]⟩), (.sh 60 [])])))] (fun | [.B x0, .R x1, .I x2, .I x3, .I x4, .S x5, .R x6] => Pu.impl_StreamOk.l2 N (fun y0 y1 y2 y3 y4 y5 y6 => (K .ret (tabl [(2, (.v (.v false [(.bp 0 0)]))), (4, (.v (.v false [(.b y0)]))), (12, (.v (.v false [(.sh 60 y1)]))), (14, (.v (.v false [(.i .i64 y2)]))), (16, (.v (.v false [(.i .i64 y3)]))), (1, (.o (.box [(.i .i64 y4), (.s y5), (.sh 60 y6)])))]))) (fun y0 y1 y2 y3 y4 y5 y6 => (K (.exit 0) (tabl [(2, (.v (.v false [(.bp 0 0)]))), (4, (.v (.v false [(.b y0)]))), (12, (.v (.v false [(.sh 60 y1)]))), (14, (.v (.v false [(.i .i64 y2)]))), (16, (.v (.v false [(.i .i64 y3)]))), (1, (.o (.box [(.i .i64 y4), (.s y5), (.sh 60 y6)])))]))) N x0 x1 x2 x3 x4 x5 x6 | _ => none) L (none)) else none
theorem e43_2 {R : Type} (N : Nat) (K : Ex → St → Option R) : ∀ n : Nat, (∀ x0 x1 x2 x3 x4 x5 x6, iter (exc E43 (it43 N) (loopOf Try.f43 2)) (canon (E43.keep 2))  n (tabl [(2, (.v (.v false [(.bp 0 0)]))), (4, (.v (.v false [(.b x0)]))), (12, (.v (.v false [(.sh 60 x1)]))), (14, (.v (.v false [(.i .i64 x2)]))), (16, (.v (.v false [(.i .i64 x3)]))), (1, (.o (.box [(.i .i64 x4), (.s x5), (.sh 60 x6)])))]) K = Pu.impl_StreamOk.l2 N (fun y0 y1 y2 y3 y4 y5 y6 => (K .ret (tabl [(2, (.v (.v false [(.bp 0 0)]))), (4, (.v (.v false [(.b y0)]))), (12, (.v (.v false [(.sh 60 y1)]))), (14, (.v (.v false [(.i .i64 y2)]))), (16, (.v (.v false [(.i .i64 y3)]))), (1, (.o (.box [(.i .i64 y4), (.s y5), (.sh 60 y6)])))]))) (fun y0 y1 y2 y3 y4 y5 y6 => (K (.exit 0) (tabl [(2, (.v (.v false [(.bp 0 0)]))), (4, (.v (.v false [(.b y0)]))), (12, (.v (.v false [(.sh 60 y1)]))), (14, (.v (.v false [(.i .i64 y2)]))), (16, (.v (.v false [(.i .i64 y3)]))), (1, (.o (.box [(.i .i64 y4), (.s y5), (.sh 60 y6)])))]))) n x0 x1 x2 x3 x4 x5 x6) := by
  intro n
  induction n with
  | zero => exact (fun _ _ _ _ _ _ _ => rfl)
  | succ n ih =>
    have e0 : (fun x0 x1 x2 x3 x4 x5 x6 => iter (exc E43 (it43 N) (loopOf Try.f43 2)) (canon (E43.keep 2))  n (tabl [(2, (.v (.v false [(.bp 0 0)]))), (4, (.v (.v false [(.b x0)]))), (12, (.v (.v false [(.sh 60 x1)]))), (14, (.v (.v false [(.i .i64 x2)]))), (16, (.v (.v false [(.i .i64 x3)]))), (1, (.o (.box [(.i .i64 x4), (.s x5), (.sh 60 x6)])))]) K) = Pu.impl_StreamOk.l2 N (fun y0 y1 y2 y3 y4 y5 y6 => (K .ret (tabl [(2, (.v (.v false [(.bp 0 0)]))), (4, (.v (.v false [(.b y0)]))), (12, (.v (.v false [(.sh 60 y1)]))), (14, (.v (.v false [(.i .i64 y2)]))), (16, (.v (.v false [(.i .i64 y3)]))), (1, (.o (.box [(.i .i64 y4), (.s y5), (.sh 60 y6)])))]))) (fun y0 y1 y2 y3 y4 y5 y6 => (K (.exit 0) (tabl [(2, (.v (.v false [(.bp 0 0)]))), (4, (.v (.v false [(.b y0)]))), (12, (.v (.v false [(.sh 60 y1)]))), (14, (.v (.v false [(.i .i64 y2)]))), (16, (.v (.v false [(.i .i64 y3)]))), (1, (.o (.box [(.i .i64 y4), (.s y5), (.sh 60 y6)])))]))) n := by funext x0 x1 x2 x3 x4 x5 x6; exact ih x0 x1 x2 x3 x4 x5 x6
    intro x0 x1 x2 x3 x4 x5 x6
    have h : ∀ g, exc E43 (it43 N) (loopOf Try.f43 2) (tabl [(2, (.v (.v false [(.bp 0 0)]))), (4, (.v (.v false [(.b x0)]))), (12, (.v (.v false [(.sh 60 x1)]))), (14, (.v (.v false [(.i .i64 x2)]))), (16, (.v (.v false [(.i .i64 x3)]))), (1, (.o (.box [(.i .i64 x4), (.s x5), (.sh 60 x6)])))]) (iterK g (canon (E43.keep 2)) K) = Pu.impl_StreamOk.r2 N (fun x0 x1 x2 x3 x4 x5 x6 => (g (tabl [(2, (.v (.v false [(.bp 0 0)]))), (4, (.v (.v false [(.b x0)]))), (12, (.v (.v false [(.sh 60 x1)]))), (14, (.v (.v false [(.i .i64 x2)]))), (16, (.v (.v false [(.i .i64 x3)]))), (1, (.o (.box [(.i .i64 x4), (.s x5), (.sh 60 x6)])))]))) (fun y0 y1 y2 y3 y4 y5 y6 => (K .ret (tabl [(2, (.v (.v false [(.bp 0 0)]))), (4, (.v (.v false [(.b y0)]))), (12, (.v (.v false [(.sh 60 y1)]))), (14, (.v (.v false [(.i .i64 y2)]))), (16, (.v (.v false [(.i .i64 y3)]))), (1, (.o (.box [(.i .i64 y4), (.s y5), (.sh 60 y6)])))]))) (fun y0 y1 y2 y3 y4 y5 y6 => (K (.exit 0) (tabl [(2, (.v (.v false [(.bp 0 0)]))), (4, (.v (.v false [(.b y0)]))), (12, (.v (.v false [(.sh 60 y1)]))), (14, (.v (.v false [(.i .i64 y2)]))), (16, (.v (.v false [(.i .i64 y3)]))), (1, (.o (.box [(.i .i64 y4), (.s y5), (.sh 60 y6)])))]))) x0 x1 x2 x3 x4 x5 x6 := by intro g; kernel_rfl
    refine (h _).trans ?_
    show Pu.impl_StreamOk.r2 N (fun x0 x1 x2 x3 x4 x5 x6 => (iter (exc E43 (it43 N) (loopOf Try.f43 2)) (canon (E43.keep 2))  n (tabl [(2, (.v (.v false [(.bp 0 0)]))), (4, (.v (.v false [(.b x0)]))), (12, (.v (.v false [(.sh 60 x1)]))), (14, (.v (.v false [(.i .i64 x2)]))), (16, (.v (.v false [(.i .i64 x3)]))), (1, (.o (.box [(.i .i64 x4), (.s x5), (.sh 60 x6)])))]) K)) (fun y0 y1 y2 y3 y4 y5 y6 => (K .ret (tabl [(2, (.v (.v false [(.bp 0 0)]))), (4, (.v (.v false [(.b y0)]))), (12, (.v (.v false [(.sh 60 y1)]))), (14, (.v (.v false [(.i .i64 y2)]))), (16, (.v (.v false [(.i .i64 y3)]))), (1, (.o (.box [(.i .i64 y4), (.s y5), (.sh 60 y6)])))]))) (fun y0 y1 y2 y3 y4 y5 y6 => (K (.exit 0) (tabl [(2, (.v (.v false [(.bp 0 0)]))), (4, (.v (.v false [(.b y0)]))), (12, (.v (.v false [(.sh 60 y1)]))), (14, (.v (.v false [(.i .i64 y2)]))), (16, (.v (.v false [(.i .i64 y3)]))), (1, (.o (.box [(.i .i64 y4), (.s y5), (.sh 60 y6)])))]))) x0 x1 x2 x3 x4 x5 x6 = _
    rw [e0]; rfl
theorem lo43_2 {R : Type} (N : Nat) : LoopOk E43 (it43 N (R := R)) (loopOf Try.f43 2) := by
  have e : firstRid (loopOf Try.f43 2) = 2 := by kernel_rfl
  intro L K r
  rw [e]
  intro h
  unfold it43 at h
  simp only [show Nat.beq 2 2 = true from rfl, cond_false, cond_true] at h
  refine tell_ok (Q := fun L => ∃ n, iter (exc E43 (it43 N) (loopOf Try.f43 2)) (canon (E43.keep 2)) n (tabl L) K = some r) h (fun xs h => ?_) (fun h => ?_)
  · (try dsimp only at h)
    split at h
    · exact ⟨N, ((e43_2 N K N) _ _ _ _ _ _ _).trans h⟩
    · cases h
  cases h
def sp43 : List Arg → Option (Bool × Res)
  | [(.v true [(.i .i64 s0_0), (.s s0_1), (.sh 60 s0_2)])] => some (true, ⟨[(.v false [(.b (Pu.impl_StreamOk.v s0_0 s0_1 s0_2))])], []⟩)
  | _ => none
theorem ok43 : FnOk Try.prog T 43 sp43 := by
  refine fn_ok (E := E43) hE (call_cons ok94 call_nil) hM Try.func43 (code := (Try.f43.body.getD .skip)) (by kernel_rfl) (by kernel_rfl) ?_
  have key : ∀ (s0_0 : Int) (s0_1 : ByteArray) (s0_2 : Row), okS s0_1 → FitR s0_2 → ∃ it : It Res, (∀ c ∈ loopsOf (Try.f43.body.getD .skip), LoopOk E43 it c) ∧ body E43 it Try.f43 [(.v true [(.i .i64 s0_0), (.s s0_1), (.sh 60 s0_2)])] = some ⟨[(.v false [(.b (Pu.impl_StreamOk.v s0_0 s0_1 s0_2))])], []⟩ := by
    intro s0_0 s0_1 s0_2  g1 g2
    obtain ⟨N, hN⟩ := Pu.impl_StreamOk.b_eq (R := Res) (fun r0 => some ⟨[(.v false [(.b r0)])], []⟩) s0_0 s0_1 s0_2 g1 g2
    have hl : loopsOf (Try.f43.body.getD .skip) = [loopOf Try.f43 2] := by kernel_rfl
    refine ⟨it43 N, by rw [hl]; exact (loops_cons (lo43_2 N) loops_nil), ?_⟩
    refine Eq.trans (show body E43 (it43 N) Try.f43 [(.v true [(.i .i64 s0_0), (.s s0_1), (.sh 60 s0_2)])] = Pu.impl_StreamOk.b N (fun r0 => some ⟨[(.v false [(.b r0)])], []⟩) s0_0 s0_1 s0_2 by kernel_rfl) hN
  intro args r h
  unfold sp43 at h
  split at h
  · injection h with h
    injection h with h1 h2
    subst h2
    exact ⟨by kernel_rfl, fun hf => ⟨of_decide_eq_true (by kernel_rfl), key _ _ _ hf.1.2.1 hf.1.2.2.1⟩⟩
  · cases h

end Go.FG.Se

namespace Go.FG.Se
open Go.Proofs
def E115 : Env := { toTab := T, call := Go.FG.callIn [(175, sp175a), (175, sp175b)], mode := Go.FG.modeIn md, keep := Go.FG.keepIn [], tk := fun n => Go.FG.memB n [], om := Go.FG.omIn [] }
def sp115 : List Arg → Option (Bool × Res)
  | [(.v true [(.i .i64 s0_0), (.s s0_1), (.sh 60 s0_2)]), (.v false [(.i .i64 id1)])] => some (true, ⟨[(.v false [(.i .i64 (Pu.impl_readerAt.v s0_0 s0_1 s0_2 id1))])], []⟩)
  | _ => none
theorem ok115 : FnOk Try.prog T 115 sp115 := by
  refine fn_ok (E := E115) hE (call_cons ok175a (call_cons ok175b call_nil)) hM Try.func115 (code := (Try.f115.body.getD .skip)) (by kernel_rfl) (by kernel_rfl) ?_
  have key : ∀ (s0_0 : Int) (s0_1 : ByteArray) (s0_2 : Row) (id1 : Int), ∃ it : It Res, (∀ c ∈ loopsOf (Try.f115.body.getD .skip), LoopOk E115 it c) ∧ body E115 it Try.f115 [(.v true [(.i .i64 s0_0), (.s s0_1), (.sh 60 s0_2)]), (.v false [(.i .i64 id1)])] = some ⟨[(.v false [(.i .i64 (Pu.impl_readerAt.v s0_0 s0_1 s0_2 id1))])], []⟩ := by
    intro s0_0 s0_1 s0_2 id1 
    have hN := Pu.impl_readerAt.b_eq (R := Res) (fun r0 => some ⟨[(.v false [(.i .i64 r0)])], []⟩) s0_0 s0_1 s0_2 id1
    have hl : loopsOf (Try.f115.body.getD .skip) = [] := by kernel_rfl
    refine ⟨iterN 0, by rw [hl]; exact loops_nil, ?_⟩
    refine Eq.trans (show body E115 (iterN 0) Try.f115 [(.v true [(.i .i64 s0_0), (.s s0_1), (.sh 60 s0_2)]), (.v false [(.i .i64 id1)])] = Pu.impl_readerAt.b (fun r0 => some ⟨[(.v false [(.i .i64 r0)])], []⟩) s0_0 s0_1 s0_2 id1 by kernel_rfl) hN
  intro args r h
  unfold sp115 at h
  split at h
  · injection h with h
    injection h with h1 h2
    subst h2
    exact ⟨by kernel_rfl, fun hf => ⟨of_decide_eq_true (by kernel_rfl), key _ _ _ _⟩⟩
  · cases h

end Go.FG.Se

namespace Go.FG.Se
open Go.Proofs
def E38 : Env := { toTab := T, call := Go.FG.callIn [(113, sp113), (114, sp114), (43, sp43), (115, sp115)], mode := Go.FG.modeIn md, keep := Go.FG.keepIn [(2, [1, 2, 4, 6])], tk := fun n => Go.FG.memB n [], om := Go.FG.omIn [] }
def it38 (N : Nat) {R : Type} : It R := fun rid f cn L K => bif Nat.beq rid 2 then (tell [(2, (.v (.v false [(.i .i64 0)]))), (4, (.v (.v false [(.bp 0 0)]))), (8, (.v (.v false [(.bp 1 0)]))), (12, (.v (.v false [(.i .i64 0)]))), (1, (.o (.box [(.i .i64 0), (.s ⟨#[]⟩), (.sh 60 [])]))), (3, (.o (.box [(.i .i64 0), (.s ⟨#[]⟩), .nl])))] (fun | [.I x0, .I x1, .I x2, .S x3, .R x4, .I x5, .S x6] => Pu.impl_StreamJoin.l2 N (fun y0 y1 y2 y3 y4 y5 y6 => (K (.exit 0) (tabl [(2, (.v (.v false [(.i .i64 y0)]))), (4, (.v (.v false [(.bp 0 0)]))), (8, (.v (.v false [(.bp 1 0)]))), (12, (.v (.v false [(.i .i64 y1)]))), (1, (.o (.box [(.i .i64 y2), (.s y3), (.sh 60 y4)]))), (3, (.o (.box [(.i .i64 y5), (.s y6), .nl])))]))) N x0 x1 x2 x3 x4 x5 x6 | _ => none) L (none)) else none
theorem e38_2 {R : Type} (N : Nat) (K : Ex → St → Option R) : ∀ n : Nat, (∀ x0 x1 x2 x3 x4 x5 x6, iter (exc E38 (it38 N) (loopOf Try.f38 2)) (canon (E38.keep 2))  n (tabl [(2, (.v (.v false [(.i .i64 x0)]))), (4, (.v (.v false [(.bp 0 0)]))), (8, (.v (.v false [(.bp 1 0)]))), (12, (.v (.v false [(.i .i64 x1)]))), (1, (.o (.box [(.i .i64 x2), (.s x3), (.sh 60 x4)]))), (3, (.o (.box [(.i .i64 x5), (.s x6), .nl])))]) K = Pu.impl_StreamJoin.l2 N (fun y0 y1 y2 y3 y4 y5 y6 => (K (.exit 0) (tabl [(2, (.v (.v false [(.i .i64 y0)]))), (4, (.v (.v false [(.bp 0 0)]))), (8, (.v (.v false [(.bp 1 0)]))), (12, (.v (.v false [(.i .i64 y1)]))), (1, (.o (.box [(.i .i64 y2), (.s y3), (.sh 60 y4)]))), (3, (.o (.box [(.i .i64 y5), (.s y6), .nl])))]))) n x0 x1 x2 x3 x4 x5 x6) := by
  intro n
  induction n with
  | zero => exact (fun _ _ _ _ _ _ _ => rfl)
  | succ n ih =>
    have e0 : (fun x0 x1 x2 x3 x4 x5 x6 => iter (exc E38 (it38 N) (loopOf Try.f38 2)) (canon (E38.keep 2))  n (tabl [(2, (.v (.v false [(.i .i64 x0)]))), (4, (.v (.v false [(.bp 0 0)]))), (8, (.v (.v false [(.bp 1 0)]))), (12, (.v (.v false [(.i .i64 x1)]))), (1, (.o (.box [(.i .i64 x2), (.s x3), (.sh 60 x4)]))), (3, (.o (.box [(.i .i64 x5), (.s x6), .nl])))]) K) = Pu.impl_StreamJoin.l2 N (fun y0 y1 y2 y3 y4 y5 y6 => (K (.exit 0) (tabl [(2, (.v (.v false [(.i .i64 y0)]))), (4, (.v (.v false [(.bp 0 0)]))), (8, (.v (.v false [(.bp 1 0)]))), (12, (.v (.v false [(.i .i64 y1)]))), (1, (.o (.box [(.i .i64 y2), (.s y3), (.sh 60 y4)]))), (3, (.o (.box [(.i .i64 y5), (.s y6), .nl])))]))) n := by funext x0 x1 x2 x3 x4 x5 x6; exact ih x0 x1 x2 x3 x4 x5 x6
    intro x0 x1 x2 x3 x4 x5 x6
    have h : ∀ g, exc E38 (it38 N) (loopOf Try.f38 2) (tabl [(2, (.v (.v false [(.i .i64 x0)]))), (4, (.v (.v false [(.bp 0 0)]))), (8, (.v (.v false [(.bp 1 0)]))), (12, (.v (.v false [(.i .i64 x1)]))), (1, (.o (.box [(.i .i64 x2), (.s x3), (.sh 60 x4)]))), (3, (.o (.box [(.i .i64 x5), (.s x6), .nl])))]) (iterK g (canon (E38.keep 2)) K) = Pu.impl_StreamJoin.r2 N (fun x0 x1 x2 x3 x4 x5 x6 => (g (tabl [(2, (.v (.v false [(.i .i64 x0)]))), (4, (.v (.v false [(.bp 0 0)]))), (8, (.v (.v false [(.bp 1 0)]))), (12, (.v (.v false [(.i .i64 x1)]))), (1, (.o (.box [(.i .i64 x2), (.s x3), (.sh 60 x4)]))), (3, (.o (.box [(.i .i64 x5), (.s x6), .nl])))]))) (fun y0 y1 y2 y3 y4 y5 y6 => (K (.exit 0) (tabl [(2, (.v (.v false [(.i .i64 y0)]))), (4, (.v (.v false [(.bp 0 0)]))), (8, (.v (.v false [(.bp 1 0)]))), (12, (.v (.v false [(.i .i64 y1)]))), (1, (.o (.box [(.i .i64 y2), (.s y3), (.sh 60 y4)]))), (3, (.o (.box [(.i .i64 y5), (.s y6), .nl])))]))) x0 x1 x2 x3 x4 x5 x6 := by intro g; kernel_rfl
    refine (h _).trans ?_
    show Pu.impl_StreamJoin.r2 N (fun x0 x1 x2 x3 x4 x5 x6 => (iter (exc E38 (it38 N) (loopOf Try.f38 2)) (canon (E38.keep 2))  n (tabl [(2, (.v (.v false [(.i .i64 x0)]))), (4, (.v (.v false [(.bp 0 0)]))), (8, (.v (.v false [(.bp 1 0)]))), (12, (.v (.v false [(.i .i64 x1)]))), (1, (.o (.box [(.i .i64 x2), (.s x3), (.sh 60 x4)]))), (3, (.o (.box [(.i .i64 x5), (.s x6), .nl])))]) K)) (fun y0 y1 y2 y3 y4 y5 y6 => (K (.exit 0) (tabl [(2, (.v (.v false [(.i .i64 y0)]))), (4, (.v (.v false [(.bp 0 0)]))), (8, (.v (.v false [(.bp 1 0)]))), (12, (.v (.v false [(.i .i64 y1)]))), (1, (.o (.box [(.i .i64 y2), (.s y3), (.sh 60 y4)]))), (3, (.o (.box [(.i .i64 y5), (.s y6), .nl])))]))) x0 x1 x2 x3 x4 x5 x6 = _
    rw [e0]; rfl
theorem lo38_2 {R : Type} (N : Nat) : LoopOk E38 (it38 N (R := R)) (loopOf Try.f38 2) := by
  have e : firstRid (loopOf Try.f38 2) = 2 := by kernel_rfl
  intro L K r
  rw [e]
  intro h
  unfold it38 at h
  simp only [show Nat.beq 2 2 = true from rfl, cond_false, cond_true] at h
  refine tell_ok (Q := fun L => ∃ n, iter (exc E38 (it38 N) (loopOf Try.f38 2)) (canon (E38.keep 2)) n (tabl L) K = some r) h (fun xs h => ?_) (fun h => ?_)
  · (try dsimp only at h)
    split at h
    · exact ⟨N, ((e38_2 N K N) _ _ _ _ _ _ _).trans h⟩
    · cases h
  cases h
def sp38 : List Arg → Option (Bool × Res)
  | [(.v true [(.i .i64 s0_0), (.s s0_1), (.sh 60 s0_2)]), (.v false [(.i .i64 id1)])] => some (Pu.impl_StreamJoin.c s0_0 s0_1 s0_2 id1, ⟨[(.v true [(.i .i64 ((Pu.impl_StreamJoin.v s0_0 s0_1 s0_2 id1).1)), (.s ((Pu.impl_StreamJoin.v s0_0 s0_1 s0_2 id1).2.1)), (.ow 60 true ((Pu.impl_StreamJoin.v s0_0 s0_1 s0_2 id1).2.2.1))]), (.v false [(.b ((Pu.impl_StreamJoin.v s0_0 s0_1 s0_2 id1).2.2.2))])], []⟩)
  | _ => none
theorem ok38 : FnOk Try.prog T 38 sp38 := by
  refine fn_ok (E := E38) hE (call_cons ok113 (call_cons ok114 (call_cons ok43 (call_cons ok115 call_nil)))) hM Try.func38 (code := (Try.f38.body.getD .skip)) (by kernel_rfl) (by kernel_rfl) ?_
  have key : ∀ (s0_0 : Int) (s0_1 : ByteArray) (s0_2 : Row) (id1 : Int), Pu.impl_StreamJoin.c s0_0 s0_1 s0_2 id1 = true → ∃ it : It Res, (∀ c ∈ loopsOf (Try.f38.body.getD .skip), LoopOk E38 it c) ∧ body E38 it Try.f38 [(.v true [(.i .i64 s0_0), (.s s0_1), (.sh 60 s0_2)]), (.v false [(.i .i64 id1)])] = some ⟨[(.v true [(.i .i64 ((Pu.impl_StreamJoin.v s0_0 s0_1 s0_2 id1).1)), (.s ((Pu.impl_StreamJoin.v s0_0 s0_1 s0_2 id1).2.1)), (.ow 60 true ((Pu.impl_StreamJoin.v s0_0 s0_1 s0_2 id1).2.2.1))]), (.v false [(.b ((Pu.impl_StreamJoin.v s0_0 s0_1 s0_2 id1).2.2.2))])], []⟩ := by
    intro s0_0 s0_1 s0_2 id1  h1
    obtain ⟨N, hN⟩ := Pu.impl_StreamJoin.b_eq (R := Res) (fun r0 r1 r2 r3 => some ⟨[(.v true [(.i .i64 r0), (.s r1), (.ow 60 true r2)]), (.v false [(.b r3)])], []⟩) s0_0 s0_1 s0_2 id1 h1
    have hl : loopsOf (Try.f38.body.getD .skip) = [loopOf Try.f38 2] := by kernel_rfl
    refine ⟨it38 N, by rw [hl]; exact (loops_cons (lo38_2 N) loops_nil), ?_⟩
    refine Eq.trans (show body E38 (it38 N) Try.f38 [(.v true [(.i .i64 s0_0), (.s s0_1), (.sh 60 s0_2)]), (.v false [(.i .i64 id1)])] = Pu.impl_StreamJoin.b N (fun r0 r1 r2 r3 => some ⟨[(.v true [(.i .i64 r0), (.s r1), (.ow 60 true r2)]), (.v false [(.b r3)])], []⟩) s0_0 s0_1 s0_2 id1 by kernel_rfl) hN
  intro args r h
  unfold sp38 at h
  split at h
  · injection h with h
    injection h with h1 h2
    subst h2
    exact ⟨by kernel_rfl, fun hf => ⟨of_decide_eq_true (by kernel_rfl), key _ _ _ _ h1⟩⟩
  · cases h

end Go.FG.Se

namespace Go.FG.Se
open Go.Proofs
def E118 : Env := { toTab := T, call := Go.FG.callIn [], mode := Go.FG.modeIn md, keep := Go.FG.keepIn [], tk := fun n => Go.FG.memB n [], om := Go.FG.omIn [] }
def sp118 : List Arg → Option (Bool × Res)
  | [(.v false [(.i .i64 x0)])] => some (true, ⟨[(.v false [(.i .u8 (Pu.spec_l01Figure.v x0))])], []⟩)
  | _ => none
theorem ok118 : FnOk Try.prog T 118 sp118 := by
  refine fn_ok (E := E118) hE call_nil hM Try.func118 (code := (Try.f118.body.getD .skip)) (by kernel_rfl) (by kernel_rfl) ?_
  have key : ∀ (x0 : Int), ∃ it : It Res, (∀ c ∈ loopsOf (Try.f118.body.getD .skip), LoopOk E118 it c) ∧ body E118 it Try.f118 [(.v false [(.i .i64 x0)])] = some ⟨[(.v false [(.i .u8 (Pu.spec_l01Figure.v x0))])], []⟩ := by
    intro x0 
    have hN := Pu.spec_l01Figure.b_eq (R := Res) (fun r0 => some ⟨[(.v false [(.i .u8 r0)])], []⟩) x0
    have hl : loopsOf (Try.f118.body.getD .skip) = [] := by kernel_rfl
    refine ⟨iterN 0, by rw [hl]; exact loops_nil, ?_⟩
    refine Eq.trans (show body E118 (iterN 0) Try.f118 [(.v false [(.i .i64 x0)])] = Pu.spec_l01Figure.b (fun r0 => some ⟨[(.v false [(.i .u8 r0)])], []⟩) x0 by kernel_rfl) hN
  intro args r h
  unfold sp118 at h
  split at h
  · injection h with h
    injection h with h1 h2
    subst h2
    exact ⟨by kernel_rfl, fun hf => ⟨of_decide_eq_true (by kernel_rfl), key _⟩⟩
  · cases h

end Go.FG.Se

namespace Go.FG.Se
open Go.Proofs
def E41 : Env := { toTab := T, call := Go.FG.callIn [(118, sp118)], mode := Go.FG.modeIn md, keep := Go.FG.keepIn [(5, [0, 3, 4])], tk := fun n => Go.FG.memB n [], om := Go.FG.omIn [] }
def it41 (N : Nat) {R : Type} : It R := fun rid f cn L K => bif Nat.beq rid 5 then (tell [(0, (.v (.v false [(.i .i64 0)]))), (6, (.v (.v false [(.b false)]))), (8, (.v (.v false [(.s ⟨#[]⟩)])))] (fun | [.I x0, .B x1, .S x2] => Pu.spec_Decimal.l5 N (fun y0 y1 y2 => (K (.exit 0) (tabl [(0, (.v (.v false [(.i .i64 y0)]))), (6, (.v (.v false [(.b y1)]))), (8, (.v (.v false [(.s y2)])))]))) N x0 x1 x2 | _ => none) L (none)) else none
theorem e41_5 {R : Type} (N : Nat) (K : Ex → St → Option R) : ∀ n : Nat, (∀ x0 x1 x2, iter (exc E41 (it41 N) (loopOf Try.f41 5)) (canon (E41.keep 5))  n (tabl [(0, (.v (.v false [(.i .i64 x0)]))), (6, (.v (.v false [(.b x1)]))), (8, (.v (.v false [(.s x2)])))]) K = Pu.spec_Decimal.l5 N (fun y0 y1 y2 => (K (.exit 0) (tabl [(0, (.v (.v false [(.i .i64 y0)]))), (6, (.v (.v false [(.b y1)]))), (8, (.v (.v false [(.s y2)])))]))) n x0 x1 x2) := by
  intro n
  induction n with
  | zero => exact (fun _ _ _ => rfl)
  | succ n ih =>
    have e0 : (fun x0 x1 x2 => iter (exc E41 (it41 N) (loopOf Try.f41 5)) (canon (E41.keep 5))  n (tabl [(0, (.v (.v false [(.i .i64 x0)]))), (6, (.v (.v false [(.b x1)]))), (8, (.v (.v false [(.s x2)])))]) K) = Pu.spec_Decimal.l5 N (fun y0 y1 y2 => (K (.exit 0) (tabl [(0, (.v (.v false [(.i .i64 y0)]))), (6, (.v (.v false [(.b y1)]))), (8, (.v (.v false [(.s y2)])))]))) n := by funext x0 x1 x2; exact ih x0 x1 x2
    intro x0 x1 x2
    have h : ∀ g, exc E41 (it41 N) (loopOf Try.f41 5) (tabl [(0, (.v (.v false [(.i .i64 x0)]))), (6, (.v (.v false [(.b x1)]))), (8, (.v (.v false [(.s x2)])))]) (iterK g (canon (E41.keep 5)) K) = Pu.spec_Decimal.r5 N (fun x0 x1 x2 => (g (tabl [(0, (.v (.v false [(.i .i64 x0)]))), (6, (.v (.v false [(.b x1)]))), (8, (.v (.v false [(.s x2)])))]))) (fun y0 y1 y2 => (K (.exit 0) (tabl [(0, (.v (.v false [(.i .i64 y0)]))), (6, (.v (.v false [(.b y1)]))), (8, (.v (.v false [(.s y2)])))]))) x0 x1 x2 := by intro g; kernel_rfl
    refine (h _).trans ?_
    show Pu.spec_Decimal.r5 N (fun x0 x1 x2 => (iter (exc E41 (it41 N) (loopOf Try.f41 5)) (canon (E41.keep 5))  n (tabl [(0, (.v (.v false [(.i .i64 x0)]))), (6, (.v (.v false [(.b x1)]))), (8, (.v (.v false [(.s x2)])))]) K)) (fun y0 y1 y2 => (K (.exit 0) (tabl [(0, (.v (.v false [(.i .i64 y0)]))), (6, (.v (.v false [(.b y1)]))), (8, (.v (.v false [(.s y2)])))]))) x0 x1 x2 = _
    rw [e0]; rfl
theorem lo41_5 {R : Type} (N : Nat) : LoopOk E41 (it41 N (R := R)) (loopOf Try.f41 5) := by
  have e : firstRid (loopOf Try.f41 5) = 5 := by kernel_rfl
  intro L K r
  rw [e]
  intro h
  unfold it41 at h
  simp only [show Nat.beq 5 5 = true from rfl, cond_false, cond_true] at h
  refine tell_ok (Q := fun L => ∃ n, iter (exc E41 (it41 N) (loopOf Try.f41 5)) (canon (E41.keep 5)) n (tabl L) K = some r) h (fun xs h => ?_) (fun h => ?_)
  · (try dsimp only at h)
    split at h
    · exact ⟨N, ((e41_5 N K N) _ _ _).trans h⟩
    · cases h
  cases h
def sp41 : List Arg → Option (Bool × Res)
  | [(.v false [(.i .i64 n0)])] => some (Pu.spec_Decimal.c n0, ⟨[(.v false [(.s (Pu.spec_Decimal.v n0))])], []⟩)
  | _ => none
theorem ok41 : FnOk Try.prog T 41 sp41 := by
  refine fn_ok (E := E41) hE (call_cons ok118 call_nil) hM Try.func41 (code := (Try.f41.body.getD .skip)) (by kernel_rfl) (by kernel_rfl) ?_
  have key : ∀ (n0 : Int), Pu.spec_Decimal.c n0 = true → ∃ it : It Res, (∀ c ∈ loopsOf (Try.f41.body.getD .skip), LoopOk E41 it c) ∧ body E41 it Try.f41 [(.v false [(.i .i64 n0)])] = some ⟨[(.v false [(.s (Pu.spec_Decimal.v n0))])], []⟩ := by
    intro n0  h1
    obtain ⟨N, hN⟩ := Pu.spec_Decimal.b_eq (R := Res) (fun r0 => some ⟨[(.v false [(.s r0)])], []⟩) n0 h1
    have hl : loopsOf (Try.f41.body.getD .skip) = [loopOf Try.f41 5] := by kernel_rfl
    refine ⟨it41 N, by rw [hl]; exact (loops_cons (lo41_5 N) loops_nil), ?_⟩
    refine Eq.trans (show body E41 (it41 N) Try.f41 [(.v false [(.i .i64 n0)])] = Pu.spec_Decimal.b N (fun r0 => some ⟨[(.v false [(.s r0)])], []⟩) n0 by kernel_rfl) hN
  intro args r h
  unfold sp41 at h
  split at h
  · injection h with h
    injection h with h1 h2
    subst h2
    exact ⟨by kernel_rfl, fun hf => ⟨of_decide_eq_true (by kernel_rfl), key _ h1⟩⟩
  · cases h

end Go.FG.Se

namespace Go.FG.Se
open Go.Proofs
def E37 : Env := { toTab := T, call := Go.FG.callIn [(113, sp113), (43, sp43), (94, sp94)], mode := Go.FG.modeIn md, keep := Go.FG.keepIn [], tk := fun n => Go.FG.memB n [], om := Go.FG.omIn [] }
def sp37 : List Arg → Option (Bool × Res)
  | [(.v true [(.i .i64 s0_0), (.s s0_1), (.sh 60 s0_2)]), (.v false [(.s part1)])] => some (Pu.impl_StreamPut.c s0_0 s0_1 s0_2 part1, ⟨[(.v true [(.i .i64 ((Pu.impl_StreamPut.v s0_0 s0_1 s0_2 part1).1)), (.s ((Pu.impl_StreamPut.v s0_0 s0_1 s0_2 part1).2.1)), (.ow 60 true ((Pu.impl_StreamPut.v s0_0 s0_1 s0_2 part1).2.2.1))]), (.v false [(.b ((Pu.impl_StreamPut.v s0_0 s0_1 s0_2 part1).2.2.2))])], []⟩)
  | _ => none
theorem ok37 : FnOk Try.prog T 37 sp37 := by
  refine fn_ok (E := E37) hE (call_cons ok113 (call_cons ok43 (call_cons ok94 call_nil))) hM Try.func37 (code := (Try.f37.body.getD .skip)) (by kernel_rfl) (by kernel_rfl) ?_
  have key : ∀ (s0_0 : Int) (s0_1 : ByteArray) (s0_2 : Row) (part1 : ByteArray), Pu.impl_StreamPut.c s0_0 s0_1 s0_2 part1 = true → okS s0_1 → FitR s0_2 → okS part1 → ∃ it : It Res, (∀ c ∈ loopsOf (Try.f37.body.getD .skip), LoopOk E37 it c) ∧ body E37 it Try.f37 [(.v true [(.i .i64 s0_0), (.s s0_1), (.sh 60 s0_2)]), (.v false [(.s part1)])] = some ⟨[(.v true [(.i .i64 ((Pu.impl_StreamPut.v s0_0 s0_1 s0_2 part1).1)), (.s ((Pu.impl_StreamPut.v s0_0 s0_1 s0_2 part1).2.1)), (.ow 60 true ((Pu.impl_StreamPut.v s0_0 s0_1 s0_2 part1).2.2.1))]), (.v false [(.b ((Pu.impl_StreamPut.v s0_0 s0_1 s0_2 part1).2.2.2))])], []⟩ := by
    intro s0_0 s0_1 s0_2 part1  h1 g1 g2 g3
    have hN := Pu.impl_StreamPut.b_eq (R := Res) (fun r0 r1 r2 r3 => some ⟨[(.v true [(.i .i64 r0), (.s r1), (.ow 60 true r2)]), (.v false [(.b r3)])], []⟩) s0_0 s0_1 s0_2 part1 h1 g1 g2 g3
    have hl : loopsOf (Try.f37.body.getD .skip) = [] := by kernel_rfl
    refine ⟨iterN 0, by rw [hl]; exact loops_nil, ?_⟩
    refine Eq.trans (show body E37 (iterN 0) Try.f37 [(.v true [(.i .i64 s0_0), (.s s0_1), (.sh 60 s0_2)]), (.v false [(.s part1)])] = Pu.impl_StreamPut.b (fun r0 r1 r2 r3 => some ⟨[(.v true [(.i .i64 r0), (.s r1), (.ow 60 true r2)]), (.v false [(.b r3)])], []⟩) s0_0 s0_1 s0_2 part1 by kernel_rfl) hN
  intro args r h
  unfold sp37 at h
  split at h
  · injection h with h
    injection h with h1 h2
    subst h2
    exact ⟨by kernel_rfl, fun hf => ⟨of_decide_eq_true (by kernel_rfl), key _ _ _ _ h1 hf.1.2.1 hf.1.2.2.1 hf.2.1.1⟩⟩
  · cases h

end Go.FG.Se

namespace Go.FG.Se
open Go.Proofs
def E40 : Env := { toTab := T, call := Go.FG.callIn [(113, sp113), (115, sp115), (43, sp43)], mode := Go.FG.modeIn md, keep := Go.FG.keepIn [], tk := fun n => Go.FG.memB n [], om := Go.FG.omIn [] }
def sp40 : List Arg → Option (Bool × Res)
  | [(.v true [(.i .i64 s0_0), (.s s0_1), (.sh 60 s0_2)]), (.v false [(.i .i64 id1)]), (.v false [(.i .i64 most2)])] => some (Pu.impl_StreamRead.c s0_0 s0_1 s0_2 id1 most2, ⟨[(.v true [(.i .i64 ((Pu.impl_StreamRead.v s0_0 s0_1 s0_2 id1 most2).1)), (.s ((Pu.impl_StreamRead.v s0_0 s0_1 s0_2 id1 most2).2.1)), (.ow 60 true ((Pu.impl_StreamRead.v s0_0 s0_1 s0_2 id1 most2).2.2.1))]), (.v false [(.s ((Pu.impl_StreamRead.v s0_0 s0_1 s0_2 id1 most2).2.2.2.1))]), (.v false [(.b ((Pu.impl_StreamRead.v s0_0 s0_1 s0_2 id1 most2).2.2.2.2))])], []⟩)
  | _ => none
theorem ok40 : FnOk Try.prog T 40 sp40 := by
  refine fn_ok (E := E40) hE (call_cons ok113 (call_cons ok115 (call_cons ok43 call_nil))) hM Try.func40 (code := (Try.f40.body.getD .skip)) (by kernel_rfl) (by kernel_rfl) ?_
  have key : ∀ (s0_0 : Int) (s0_1 : ByteArray) (s0_2 : Row) (id1 : Int) (most2 : Int), Pu.impl_StreamRead.c s0_0 s0_1 s0_2 id1 most2 = true → ∃ it : It Res, (∀ c ∈ loopsOf (Try.f40.body.getD .skip), LoopOk E40 it c) ∧ body E40 it Try.f40 [(.v true [(.i .i64 s0_0), (.s s0_1), (.sh 60 s0_2)]), (.v false [(.i .i64 id1)]), (.v false [(.i .i64 most2)])] = some ⟨[(.v true [(.i .i64 ((Pu.impl_StreamRead.v s0_0 s0_1 s0_2 id1 most2).1)), (.s ((Pu.impl_StreamRead.v s0_0 s0_1 s0_2 id1 most2).2.1)), (.ow 60 true ((Pu.impl_StreamRead.v s0_0 s0_1 s0_2 id1 most2).2.2.1))]), (.v false [(.s ((Pu.impl_StreamRead.v s0_0 s0_1 s0_2 id1 most2).2.2.2.1))]), (.v false [(.b ((Pu.impl_StreamRead.v s0_0 s0_1 s0_2 id1 most2).2.2.2.2))])], []⟩ := by
    intro s0_0 s0_1 s0_2 id1 most2  h1
    have hN := Pu.impl_StreamRead.b_eq (R := Res) (fun r0 r1 r2 r3 r4 => some ⟨[(.v true [(.i .i64 r0), (.s r1), (.ow 60 true r2)]), (.v false [(.s r3)]), (.v false [(.b r4)])], []⟩) s0_0 s0_1 s0_2 id1 most2 h1
    have hl : loopsOf (Try.f40.body.getD .skip) = [] := by kernel_rfl
    refine ⟨iterN 0, by rw [hl]; exact loops_nil, ?_⟩
    refine Eq.trans (show body E40 (iterN 0) Try.f40 [(.v true [(.i .i64 s0_0), (.s s0_1), (.sh 60 s0_2)]), (.v false [(.i .i64 id1)]), (.v false [(.i .i64 most2)])] = Pu.impl_StreamRead.b (fun r0 r1 r2 r3 r4 => some ⟨[(.v true [(.i .i64 r0), (.s r1), (.ow 60 true r2)]), (.v false [(.s r3)]), (.v false [(.b r4)])], []⟩) s0_0 s0_1 s0_2 id1 most2 by kernel_rfl) hN
  intro args r h
  unfold sp40 at h
  split at h
  · injection h with h
    injection h with h1 h2
    subst h2
    exact ⟨by kernel_rfl, fun hf => ⟨of_decide_eq_true (by kernel_rfl), key _ _ _ _ _ h1⟩⟩
  · cases h

end Go.FG.Se

namespace Go.FG.Se
open Go.Proofs
def E42 : Env := { toTab := T, call := Go.FG.callIn [], mode := Go.FG.modeIn md, keep := Go.FG.keepIn [], tk := fun n => Go.FG.memB n [], om := Go.FG.omIn [] }
def sp42 : List Arg → Option (Bool × Res)
  | [(.v false [(.s a0)]), (.v false [(.s b1)])] => some (Pu.laws_begins.c a0 b1, ⟨[(.v false [(.b (Pu.laws_begins.v a0 b1))])], []⟩)
  | _ => none
theorem ok42 : FnOk Try.prog T 42 sp42 := by
  refine fn_ok (E := E42) hE call_nil hM Try.func42 (code := (Try.f42.body.getD .skip)) (by kernel_rfl) (by kernel_rfl) ?_
  have key : ∀ (a0 : ByteArray) (b1 : ByteArray), Pu.laws_begins.c a0 b1 = true → ∃ it : It Res, (∀ c ∈ loopsOf (Try.f42.body.getD .skip), LoopOk E42 it c) ∧ body E42 it Try.f42 [(.v false [(.s a0)]), (.v false [(.s b1)])] = some ⟨[(.v false [(.b (Pu.laws_begins.v a0 b1))])], []⟩ := by
    intro a0 b1  h1
    have hN := Pu.laws_begins.b_eq (R := Res) (fun r0 => some ⟨[(.v false [(.b r0)])], []⟩) a0 b1 h1
    have hl : loopsOf (Try.f42.body.getD .skip) = [] := by kernel_rfl
    refine ⟨iterN 0, by rw [hl]; exact loops_nil, ?_⟩
    refine Eq.trans (show body E42 (iterN 0) Try.f42 [(.v false [(.s a0)]), (.v false [(.s b1)])] = Pu.laws_begins.b (fun r0 => some ⟨[(.v false [(.b r0)])], []⟩) a0 b1 by kernel_rfl) hN
  intro args r h
  unfold sp42 at h
  split at h
  · injection h with h
    injection h with h1 h2
    subst h2
    exact ⟨by kernel_rfl, fun hf => ⟨of_decide_eq_true (by kernel_rfl), key _ _ h1⟩⟩
  · cases h

end Go.FG.Se

namespace Go.FG.Se
open Go.Proofs
def E7 : Env := { toTab := T, call := Go.FG.callIn [(15, sp15), (34, sp34), (35, sp35), (39, sp39), (38, sp38), (41, sp41), (37, sp37), (40, sp40), (42, sp42), (43, sp43)], mode := Go.FG.modeIn md, keep := Go.FG.keepIn [(8, [2, 3, 4, 5, 6])], tk := fun n => Go.FG.memB n [], om := Go.FG.omIn [] }
def it7 (N : Nat) {R : Type} : It R := fun rid f cn L K => bif Nat.beq rid 8 then (tell [(4, (.v (.v false [(.b false)]))), (6, (.v (.v false [(.bp 0 0)]))), (8, (.v (.v false [(.own 1)]))), (10, (.v (.v false [(.s ⟨#[]⟩)]))), (12, (.v (.v false [(.i .i64 0)]))), (1, (.o (.box [(.i .i64 0), (.s ⟨#[]⟩), (.own 2)]))), (3, (.o (.row 3 true []))), (5, (.o (.row 60 true [])))] (fun | [.B x0, .S x1, .I x2, .I x3, .S x4, .R x5, .R x6] => Pu.laws_FnStreams.l8 N (fun y0 y1 y2 y3 y4 y5 y6 => (K .ret (tabl [(4, (.v (.v false [(.b y0)]))), (6, (.v (.v false [(.bp 0 0)]))), (8, (.v (.v false [(.own 1)]))), (10, (.v (.v false [(.s y1)]))), (12, (.v (.v false [(.i .i64 y2)]))), (1, (.o (.box [(.i .i64 y3), (.s y4), (.own 2)]))), (3, (.o (.row 3 true y5))), (5, (.o (.row 60 true y6)))]))) (fun y0 y1 y2 y3 y4 y5 y6 => (K (.exit 0) (tabl [(4, (.v (.v false [(.b y0)]))), (6, (.v (.v false [(.bp 0 0)]))), (8, (.v (.v false [(.own 1)]))), (10, (.v (.v false [(.s y1)]))), (12, (.v (.v false [(.i .i64 y2)]))), (1, (.o (.box [(.i .i64 y3), (.s y4), (.own 2)]))), (3, (.o (.row 3 true y5))), (5, (.o (.row 60 true y6)))]))) N x0 x1 x2 x3 x4 x5 x6 | _ => none) L (none)) else none
theorem e7_8 {R : Type} (N : Nat) (K : Ex → St → Option R) : ∀ n : Nat, (∀ x0 x1 x2 x3 x4 x5 x6, iter (exc E7 (it7 N) (loopOf Try.f7 8)) (canon (E7.keep 8))  n (tabl [(4, (.v (.v false [(.b x0)]))), (6, (.v (.v false [(.bp 0 0)]))), (8, (.v (.v false [(.own 1)]))), (10, (.v (.v false [(.s x1)]))), (12, (.v (.v false [(.i .i64 x2)]))), (1, (.o (.box [(.i .i64 x3), (.s x4), (.own 2)]))), (3, (.o (.row 3 true x5))), (5, (.o (.row 60 true x6)))]) K = Pu.laws_FnStreams.l8 N (fun y0 y1 y2 y3 y4 y5 y6 => (K .ret (tabl [(4, (.v (.v false [(.b y0)]))), (6, (.v (.v false [(.bp 0 0)]))), (8, (.v (.v false [(.own 1)]))), (10, (.v (.v false [(.s y1)]))), (12, (.v (.v false [(.i .i64 y2)]))), (1, (.o (.box [(.i .i64 y3), (.s y4), (.own 2)]))), (3, (.o (.row 3 true y5))), (5, (.o (.row 60 true y6)))]))) (fun y0 y1 y2 y3 y4 y5 y6 => (K (.exit 0) (tabl [(4, (.v (.v false [(.b y0)]))), (6, (.v (.v false [(.bp 0 0)]))), (8, (.v (.v false [(.own 1)]))), (10, (.v (.v false [(.s y1)]))), (12, (.v (.v false [(.i .i64 y2)]))), (1, (.o (.box [(.i .i64 y3), (.s y4), (.own 2)]))), (3, (.o (.row 3 true y5))), (5, (.o (.row 60 true y6)))]))) n x0 x1 x2 x3 x4 x5 x6) := by
  intro n
  induction n with
  | zero => exact (fun _ _ _ _ _ _ _ => rfl)
  | succ n ih =>
    have e0 : (fun x0 x1 x2 x3 x4 x5 x6 => iter (exc E7 (it7 N) (loopOf Try.f7 8)) (canon (E7.keep 8))  n (tabl [(4, (.v (.v false [(.b x0)]))), (6, (.v (.v false [(.bp 0 0)]))), (8, (.v (.v false [(.own 1)]))), (10, (.v (.v false [(.s x1)]))), (12, (.v (.v false [(.i .i64 x2)]))), (1, (.o (.box [(.i .i64 x3), (.s x4), (.own 2)]))), (3, (.o (.row 3 true x5))), (5, (.o (.row 60 true x6)))]) K) = Pu.laws_FnStreams.l8 N (fun y0 y1 y2 y3 y4 y5 y6 => (K .ret (tabl [(4, (.v (.v false [(.b y0)]))), (6, (.v (.v false [(.bp 0 0)]))), (8, (.v (.v false [(.own 1)]))), (10, (.v (.v false [(.s y1)]))), (12, (.v (.v false [(.i .i64 y2)]))), (1, (.o (.box [(.i .i64 y3), (.s y4), (.own 2)]))), (3, (.o (.row 3 true y5))), (5, (.o (.row 60 true y6)))]))) (fun y0 y1 y2 y3 y4 y5 y6 => (K (.exit 0) (tabl [(4, (.v (.v false [(.b y0)]))), (6, (.v (.v false [(.bp 0 0)]))), (8, (.v (.v false [(.own 1)]))), (10, (.v (.v false [(.s y1)]))), (12, (.v (.v false [(.i .i64 y2)]))), (1, (.o (.box [(.i .i64 y3), (.s y4), (.own 2)]))), (3, (.o (.row 3 true y5))), (5, (.o (.row 60 true y6)))]))) n := by funext x0 x1 x2 x3 x4 x5 x6; exact ih x0 x1 x2 x3 x4 x5 x6
    intro x0 x1 x2 x3 x4 x5 x6
    have h : ∀ g, exc E7 (it7 N) (loopOf Try.f7 8) (tabl [(4, (.v (.v false [(.b x0)]))), (6, (.v (.v false [(.bp 0 0)]))), (8, (.v (.v false [(.own 1)]))), (10, (.v (.v false [(.s x1)]))), (12, (.v (.v false [(.i .i64 x2)]))), (1, (.o (.box [(.i .i64 x3), (.s x4), (.own 2)]))), (3, (.o (.row 3 true x5))), (5, (.o (.row 60 true x6)))]) (iterK g (canon (E7.keep 8)) K) = Pu.laws_FnStreams.r8 N (fun x0 x1 x2 x3 x4 x5 x6 => (g (tabl [(4, (.v (.v false [(.b x0)]))), (6, (.v (.v false [(.bp 0 0)]))), (8, (.v (.v false [(.own 1)]))), (10, (.v (.v false [(.s x1)]))), (12, (.v (.v false [(.i .i64 x2)]))), (1, (.o (.box [(.i .i64 x3), (.s x4), (.own 2)]))), (3, (.o (.row 3 true x5))), (5, (.o (.row 60 true x6)))]))) (fun y0 y1 y2 y3 y4 y5 y6 => (K .ret (tabl [(4, (.v (.v false [(.b y0)]))), (6, (.v (.v false [(.bp 0 0)]))), (8, (.v (.v false [(.own 1)]))), (10, (.v (.v false [(.s y1)]))), (12, (.v (.v false [(.i .i64 y2)]))), (1, (.o (.box [(.i .i64 y3), (.s y4), (.own 2)]))), (3, (.o (.row 3 true y5))), (5, (.o (.row 60 true y6)))]))) (fun y0 y1 y2 y3 y4 y5 y6 => (K (.exit 0) (tabl [(4, (.v (.v false [(.b y0)]))), (6, (.v (.v false [(.bp 0 0)]))), (8, (.v (.v false [(.own 1)]))), (10, (.v (.v false [(.s y1)]))), (12, (.v (.v false [(.i .i64 y2)]))), (1, (.o (.box [(.i .i64 y3), (.s y4), (.own 2)]))), (3, (.o (.row 3 true y5))), (5, (.o (.row 60 true y6)))]))) x0 x1 x2 x3 x4 x5 x6 := by intro g; kernel_rfl
    refine (h _).trans ?_
    show Pu.laws_FnStreams.r8 N (fun x0 x1 x2 x3 x4 x5 x6 => (iter (exc E7 (it7 N) (loopOf Try.f7 8)) (canon (E7.keep 8))  n (tabl [(4, (.v (.v false [(.b x0)]))), (6, (.v (.v false [(.bp 0 0)]))), (8, (.v (.v false [(.own 1)]))), (10, (.v (.v false [(.s x1)]))), (12, (.v (.v false [(.i .i64 x2)]))), (1, (.o (.box [(.i .i64 x3), (.s x4), (.own 2)]))), (3, (.o (.row 3 true x5))), (5, (.o (.row 60 true x6)))]) K)) (fun y0 y1 y2 y3 y4 y5 y6 => (K .ret (tabl [(4, (.v (.v false [(.b y0)]))), (6, (.v (.v false [(.bp 0 0)]))), (8, (.v (.v false [(.own 1)]))), (10, (.v (.v false [(.s y1)]))), (12, (.v (.v false [(.i .i64 y2)]))), (1, (.o (.box [(.i .i64 y3), (.s y4), (.own 2)]))), (3, (.o (.row 3 true y5))), (5, (.o (.row 60 true y6)))]))) (fun y0 y1 y2 y3 y4 y5 y6 => (K (.exit 0) (tabl [(4, (.v (.v false [(.b y0)]))), (6, (.v (.v false [(.bp 0 0)]))), (8, (.v (.v false [(.own 1)]))), (10, (.v (.v false [(.s y1)]))), (12, (.v (.v false [(.i .i64 y2)]))), (1, (.o (.box [(.i .i64 y3), (.s y4), (.own 2)]))), (3, (.o (.row 3 true y5))), (5, (.o (.row 60 true y6)))]))) x0 x1 x2 x3 x4 x5 x6 = _
    rw [e0]; rfl
theorem lo7_8 {R : Type} (N : Nat) : LoopOk E7 (it7 N (R := R)) (loopOf Try.f7 8) := by
  have e : firstRid (loopOf Try.f7 8) = 8 := by kernel_rfl
  intro L K r
  rw [e]
  intro h
  unfold it7 at h
  simp only [show Nat.beq 8 8 = true from rfl, cond_false, cond_true] at h
  refine tell_ok (Q := fun L => ∃ n, iter (exc E7 (it7 N) (loopOf Try.f7 8)) (canon (E7.keep 8)) n (tabl L) K = some r) h (fun xs h => ?_) (fun h => ?_)
  · (try dsimp only at h)
    split at h
    · exact ⟨N, ((e7_8 N K N) _ _ _ _ _ _ _).trans h⟩
    · cases h
  cases h
def sp7 : List Arg → Option (Bool × Res)
  | [(.v false [(.sh 5 code0)])] => some (Pu.laws_FnStreams.c code0, ⟨[(.v false [(.b (Pu.laws_FnStreams.v code0))])], []⟩)
  | _ => none
theorem ok7 : FnOk Try.prog T 7 sp7 := by
  refine fn_ok (E := E7) hE (call_cons ok15 (call_cons ok34 (call_cons ok35 (call_cons ok39 (call_cons ok38 (call_cons ok41 (call_cons ok37 (call_cons ok40 (call_cons ok42 (call_cons ok43 call_nil)))))))))) hM Try.func7 (code := (Try.f7.body.getD .skip)) (by kernel_rfl) (by kernel_rfl) ?_
  have key : ∀ (code0 : Row), Pu.laws_FnStreams.c code0 = true → ∃ it : It Res, (∀ c ∈ loopsOf (Try.f7.body.getD .skip), LoopOk E7 it c) ∧ body E7 it Try.f7 [(.v false [(.sh 5 code0)])] = some ⟨[(.v false [(.b (Pu.laws_FnStreams.v code0))])], []⟩ := by
    intro code0  h1
    obtain ⟨N, hN⟩ := Pu.laws_FnStreams.b_eq (R := Res) (fun r0 => some ⟨[(.v false [(.b r0)])], []⟩) code0 h1
    have hl : loopsOf (Try.f7.body.getD .skip) = [loopOf Try.f7 8] := by kernel_rfl
    refine ⟨it7 N, by rw [hl]; exact (loops_cons (lo7_8 N) loops_nil), ?_⟩
    refine Eq.trans (show body E7 (it7 N) Try.f7 [(.v false [(.sh 5 code0)])] = Pu.laws_FnStreams.b N (fun r0 => some ⟨[(.v false [(.b r0)])], []⟩) code0 by kernel_rfl) hN
  intro args r h
  unfold sp7 at h
  split at h
  · injection h with h
    injection h with h1 h2
    subst h2
    exact ⟨by kernel_rfl, fun hf => ⟨of_decide_eq_true (by kernel_rfl), key _ h1⟩⟩
  · cases h

end Go.FG.Se

