/- Functions of the program: the evaluation of each, and that a call of it does what is told. No condition. -/
import Derived.Test.YtnhconmkdleomaaTab
import Derived.Test.YtnhconmkdleomaaPExactStreamNew
set_option linter.unusedVariables false
set_option linter.unusedSimpArgs false
set_option maxRecDepth 100000
namespace Go.FG.Se
open Go.Proofs
def E21 : Env := { toTab := T, call := Go.FG.callIn [], mode := Go.FG.modeIn md, keep := Go.FG.keepIn [], tk := fun n => Go.FG.memB n [], om := Go.FG.omIn [] }
def sp21 : List Arg → Option (Bool × Res)
  | [] => some (true, ⟨[(.v true [(.i .i64 Pu.spec_StreamNew.v.1), (.s Pu.spec_StreamNew.v.2.1), (.ow 83 true Pu.spec_StreamNew.v.2.2)])], []⟩)
  | _ => none
theorem ok21 : FnOk Try.prog T 21 sp21 := by
  refine fn_ok (E := E21) hE call_nil hM Try.func21 (code := (Try.f21.body.getD .skip)) (by kernel_rfl) (by kernel_rfl) ?_
  have key : ∃ it : It Res, (∀ c ∈ loopsOf (Try.f21.body.getD .skip), LoopOk E21 it c) ∧ body E21 it Try.f21 [] = some ⟨[(.v true [(.i .i64 Pu.spec_StreamNew.v.1), (.s Pu.spec_StreamNew.v.2.1), (.ow 83 true Pu.spec_StreamNew.v.2.2)])], []⟩ := by
    skip
    have hN := Pu.spec_StreamNew.b_eq (R := Res) (fun r0 r1 r2 => some ⟨[(.v true [(.i .i64 r0), (.s r1), (.ow 83 true r2)])], []⟩) 
    have hl : loopsOf (Try.f21.body.getD .skip) = [] := by kernel_rfl
    refine ⟨iterN 0, by rw [hl]; exact loops_nil, ?_⟩
    refine Eq.trans (show body E21 (iterN 0) Try.f21 [] = Pu.spec_StreamNew.b (fun r0 r1 r2 => some ⟨[(.v true [(.i .i64 r0), (.s r1), (.ow 83 true r2)])], []⟩)  by kernel_rfl) hN
  intro args r h
  unfold sp21 at h
  split at h
  · injection h with h
    injection h with h1 h2
    subst h2
    exact ⟨by kernel_rfl, fun hf => ⟨of_decide_eq_true (by kernel_rfl), key⟩⟩
  · cases h

end Go.FG.Se

namespace Go.FG.Se
open Go.Proofs
def E22 : Env := { toTab := T, call := Go.FG.callIn [], mode := Go.FG.modeIn md, keep := Go.FG.keepIn [], tk := fun n => Go.FG.memB n [], om := Go.FG.omIn [] }
def sp22 : List Arg → Option (Bool × Res)
  | [] => some (true, ⟨[(.v true [(.i .i64 Pu.impl_StreamNew.v.1), (.s Pu.impl_StreamNew.v.2.1), (.ow 83 true Pu.impl_StreamNew.v.2.2)])], []⟩)
  | _ => none
theorem ok22 : FnOk Try.prog T 22 sp22 := by
  refine fn_ok (E := E22) hE call_nil hM Try.func22 (code := (Try.f22.body.getD .skip)) (by kernel_rfl) (by kernel_rfl) ?_
  have key : ∃ it : It Res, (∀ c ∈ loopsOf (Try.f22.body.getD .skip), LoopOk E22 it c) ∧ body E22 it Try.f22 [] = some ⟨[(.v true [(.i .i64 Pu.impl_StreamNew.v.1), (.s Pu.impl_StreamNew.v.2.1), (.ow 83 true Pu.impl_StreamNew.v.2.2)])], []⟩ := by
    skip
    have hN := Pu.impl_StreamNew.b_eq (R := Res) (fun r0 r1 r2 => some ⟨[(.v true [(.i .i64 r0), (.s r1), (.ow 83 true r2)])], []⟩) 
    have hl : loopsOf (Try.f22.body.getD .skip) = [] := by kernel_rfl
    refine ⟨iterN 0, by rw [hl]; exact loops_nil, ?_⟩
    refine Eq.trans (show body E22 (iterN 0) Try.f22 [] = Pu.impl_StreamNew.b (fun r0 r1 r2 => some ⟨[(.v true [(.i .i64 r0), (.s r1), (.ow 83 true r2)])], []⟩)  by kernel_rfl) hN
  intro args r h
  unfold sp22 at h
  split at h
  · injection h with h
    injection h with h1 h2
    subst h2
    exact ⟨by kernel_rfl, fun hf => ⟨of_decide_eq_true (by kernel_rfl), key⟩⟩
  · cases h

end Go.FG.Se

namespace Go.FG.Se
open Go.Proofs
def E77 : Env := { toTab := T, call := Go.FG.callIn [], mode := Go.FG.modeIn md, keep := Go.FG.keepIn [], tk := fun n => Go.FG.memB n [], om := Go.FG.omIn [] }
def sp77 : List Arg → Option (Bool × Res)
  | [(.v true [(.i .i64 a0_0), (.i .i64 a0_1)]), (.v true [(.i .i64 b1_0), (.i .i64 b1_1)])] => some (true, ⟨[(.v false [(.b (Pu.laws_eqReader.v a0_0 a0_1 b1_0 b1_1))])], []⟩)
  | _ => none
theorem ok77 : FnOk Try.prog T 77 sp77 := by
  refine fn_ok (E := E77) hE call_nil hM Try.func77 (code := (Try.f77.body.getD .skip)) (by kernel_rfl) (by kernel_rfl) ?_
  have key : ∀ (a0_0 : Int) (a0_1 : Int) (b1_0 : Int) (b1_1 : Int), ∃ it : It Res, (∀ c ∈ loopsOf (Try.f77.body.getD .skip), LoopOk E77 it c) ∧ body E77 it Try.f77 [(.v true [(.i .i64 a0_0), (.i .i64 a0_1)]), (.v true [(.i .i64 b1_0), (.i .i64 b1_1)])] = some ⟨[(.v false [(.b (Pu.laws_eqReader.v a0_0 a0_1 b1_0 b1_1))])], []⟩ := by
    intro a0_0 a0_1 b1_0 b1_1 
    have hN := Pu.laws_eqReader.b_eq (R := Res) (fun r0 => some ⟨[(.v false [(.b r0)])], []⟩) a0_0 a0_1 b1_0 b1_1
    have hl : loopsOf (Try.f77.body.getD .skip) = [] := by kernel_rfl
    refine ⟨iterN 0, by rw [hl]; exact loops_nil, ?_⟩
    refine Eq.trans (show body E77 (iterN 0) Try.f77 [(.v true [(.i .i64 a0_0), (.i .i64 a0_1)]), (.v true [(.i .i64 b1_0), (.i .i64 b1_1)])] = Pu.laws_eqReader.b (fun r0 => some ⟨[(.v false [(.b r0)])], []⟩) a0_0 a0_1 b1_0 b1_1 by kernel_rfl) hN
  intro args r h
  unfold sp77 at h
  split at h
  · injection h with h
    injection h with h1 h2
    subst h2
    exact ⟨by kernel_rfl, fun hf => ⟨of_decide_eq_true (by kernel_rfl), key _ _ _ _⟩⟩
  · cases h

end Go.FG.Se

namespace Go.FG.Se
open Go.Proofs
def E55 : Env := { toTab := T, call := Go.FG.callIn [(77, sp77)], mode := Go.FG.modeIn md, keep := Go.FG.keepIn [(4, [0, 1, 4, 5])], tk := fun n => Go.FG.memB n [], om := Go.FG.omIn [] }
def it55 (N : Nat) {R : Type} : It R := fun rid f cn L K => bif Nat.beq rid 4 then (tell [(0, (.v (.v false [(.sh 83 [])]))), (2, (.v (.v false [(.sh 83 [])]))), (8, (.v (.v false [(.b false)]))), (10, (.v (.v false [(.i .i64 0)])))] (fun | [.R x0, .R x1, .B x2, .I x3] => Pu.laws_eqReaderS.l4 N (fun y0 y1 y2 y3 => (K .ret (tabl [(0, (.v (.v false [(.sh 83 y0)]))), (2, (.v (.v false [(.sh 83 y1)]))), (8, (.v (.v false [(.b y2)]))), (10, (.v (.v false [(.i .i64 y3)])))]))) (fun y0 y1 y2 y3 => (K (.exit 0) (tabl [(0, (.v (.v false [(.sh 83 y0)]))), (2, (.v (.v false [(.sh 83 y1)]))), (8, (.v (.v false [(.b y2)]))), (10, (.v (.v false [(.i .i64 y3)])))]))) N x0 x1 x2 x3 | _ => none) L (none)) else none
theorem e55_4 {R : Type} (N : Nat) (K : Ex → St → Option R) : ∀ n : Nat, (∀ x0 x1 x2 x3, iter (exc E55 (it55 N) (loopOf Try.f55 4)) (canon (E55.keep 4))  n (tabl [(0, (.v (.v false [(.sh 83 x0)]))), (2, (.v (.v false [(.sh 83 x1)]))), (8, (.v (.v false [(.b x2)]))), (10, (.v (.v false [(.i .i64 x3)])))]) K = Pu.laws_eqReaderS.l4 N (fun y0 y1 y2 y3 => (K .ret (tabl [(0, (.v (.v false [(.sh 83 y0)]))), (2, (.v (.v false [(.sh 83 y1)]))), (8, (.v (.v false [(.b y2)]))), (10, (.v (.v false [(.i .i64 y3)])))]))) (fun y0 y1 y2 y3 => (K (.exit 0) (tabl [(0, (.v (.v false [(.sh 83 y0)]))), (2, (.v (.v false [(.sh 83 y1)]))), (8, (.v (.v false [(.b y2)]))), (10, (.v (.v false [(.i .i64 y3)])))]))) n x0 x1 x2 x3) := by
  intro n
  induction n with
  | zero => exact (fun _ _ _ _ => rfl)
  | succ n ih =>
    have e0 : (fun x0 x1 x2 x3 => iter (exc E55 (it55 N) (loopOf Try.f55 4)) (canon (E55.keep 4))  n (tabl [(0, (.v (.v false [(.sh 83 x0)]))), (2, (.v (.v false [(.sh 83 x1)]))), (8, (.v (.v false [(.b x2)]))), (10, (.v (.v false [(.i .i64 x3)])))]) K) = Pu.laws_eqReaderS.l4 N (fun y0 y1 y2 y3 => (K .ret (tabl [(0, (.v (.v false [(.sh 83 y0)]))), (2, (.v (.v false [(.sh 83 y1)]))), (8, (.v (.v false [(.b y2)]))), (10, (.v (.v false [(.i .i64 y3)])))]))) (fun y0 y1 y2 y3 => (K (.exit 0) (tabl [(0, (.v (.v false [(.sh 83 y0)]))), (2, (.v (.v false [(.sh 83 y1)]))), (8, (.v (.v false [(.b y2)]))), (10, (.v (.v false [(.i .i64 y3)])))]))) n := by funext x0 x1 x2 x3; exact ih x0 x1 x2 x3
    intro x0 x1 x2 x3
    have h : ∀ g, exc E55 (it55 N) (loopOf Try.f55 4) (tabl [(0, (.v (.v false [(.sh 83 x0)]))), (2, (.v (.v false [(.sh 83 x1)]))), (8, (.v (.v false [(.b x2)]))), (10, (.v (.v false [(.i .i64 x3)])))]) (iterK g (canon (E55.keep 4)) K) = Pu.laws_eqReaderS.r4 N (fun x0 x1 x2 x3 => (g (tabl [(0, (.v (.v false [(.sh 83 x0)]))), (2, (.v (.v false [(.sh 83 x1)]))), (8, (.v (.v false [(.b x2)]))), (10, (.v (.v false [(.i .i64 x3)])))]))) (fun y0 y1 y2 y3 => (K .ret (tabl [(0, (.v (.v false [(.sh 83 y0)]))), (2, (.v (.v false [(.sh 83 y1)]))), (8, (.v (.v false [(.b y2)]))), (10, (.v (.v false [(.i .i64 y3)])))]))) (fun y0 y1 y2 y3 => (K (.exit 0) (tabl [(0, (.v (.v false [(.sh 83 y0)]))), (2, (.v (.v false [(.sh 83 y1)]))), (8, (.v (.v false [(.b y2)]))), (10, (.v (.v false [(.i .i64 y3)])))]))) x0 x1 x2 x3 := by intro g; kernel_rfl
    refine (h _).trans ?_
    show Pu.laws_eqReaderS.r4 N (fun x0 x1 x2 x3 => (iter (exc E55 (it55 N) (loopOf Try.f55 4)) (canon (E55.keep 4))  n (tabl [(0, (.v (.v false [(.sh 83 x0)]))), (2, (.v (.v false [(.sh 83 x1)]))), (8, (.v (.v false [(.b x2)]))), (10, (.v (.v false [(.i .i64 x3)])))]) K)) (fun y0 y1 y2 y3 => (K .ret (tabl [(0, (.v (.v false [(.sh 83 y0)]))), (2, (.v (.v false [(.sh 83 y1)]))), (8, (.v (.v false [(.b y2)]))), (10, (.v (.v false [(.i .i64 y3)])))]))) (fun y0 y1 y2 y3 => (K (.exit 0) (tabl [(0, (.v (.v false [(.sh 83 y0)]))), (2, (.v (.v false [(.sh 83 y1)]))), (8, (.v (.v false [(.b y2)]))), (10, (.v (.v false [(.i .i64 y3)])))]))) x0 x1 x2 x3 = _
    rw [e0]; rfl
theorem lo55_4 {R : Type} (N : Nat) : LoopOk E55 (it55 N (R := R)) (loopOf Try.f55 4) := by
  have e : firstRid (loopOf Try.f55 4) = 4 := by kernel_rfl
  intro L K r
  rw [e]
  intro h
  unfold it55 at h
  simp only [show Nat.beq 4 4 = true from rfl, cond_false, cond_true] at h
  refine tell_ok (Q := fun L => ∃ n, iter (exc E55 (it55 N) (loopOf Try.f55 4)) (canon (E55.keep 4)) n (tabl L) K = some r) h (fun xs h => ?_) (fun h => ?_)
  · (try dsimp only at h)
    split at h
    · exact ⟨N, ((e55_4 N K N) _ _ _ _).trans h⟩
    · cases h
  cases h
def sp55 : List Arg → Option (Bool × Res)
  | [(.v false [(.sh 83 a0)]), (.v false [(.sh 83 b1)])] => some (true, ⟨[(.v false [(.b (Pu.laws_eqReaderS.v a0 b1))])], []⟩)
  | _ => none
theorem ok55 : FnOk Try.prog T 55 sp55 := by
  refine fn_ok (E := E55) hE (call_cons ok77 call_nil) hM Try.func55 (code := (Try.f55.body.getD .skip)) (by kernel_rfl) (by kernel_rfl) ?_
  have key : ∀ (a0 : Row) (b1 : Row), FitR a0 → FitR b1 → ∃ it : It Res, (∀ c ∈ loopsOf (Try.f55.body.getD .skip), LoopOk E55 it c) ∧ body E55 it Try.f55 [(.v false [(.sh 83 a0)]), (.v false [(.sh 83 b1)])] = some ⟨[(.v false [(.b (Pu.laws_eqReaderS.v a0 b1))])], []⟩ := by
    intro a0 b1  g0 g1
    obtain ⟨N, hN⟩ := Pu.laws_eqReaderS.b_eq (R := Res) (fun r0 => some ⟨[(.v false [(.b r0)])], []⟩) a0 b1 g0 g1
    have hl : loopsOf (Try.f55.body.getD .skip) = [loopOf Try.f55 4] := by kernel_rfl
    refine ⟨it55 N, by rw [hl]; exact (loops_cons (lo55_4 N) loops_nil), ?_⟩
    refine Eq.trans (show body E55 (it55 N) Try.f55 [(.v false [(.sh 83 a0)]), (.v false [(.sh 83 b1)])] = Pu.laws_eqReaderS.b N (fun r0 => some ⟨[(.v false [(.b r0)])], []⟩) a0 b1 by kernel_rfl) hN
  intro args r h
  unfold sp55 at h
  split at h
  · injection h with h
    injection h with h1 h2
    subst h2
    exact ⟨by kernel_rfl, fun hf => ⟨of_decide_eq_true (by kernel_rfl), key _ _ hf.1.1 hf.2.1.1⟩⟩
  · cases h

end Go.FG.Se

namespace Go.FG.Se
open Go.Proofs
def E23 : Env := { toTab := T, call := Go.FG.callIn [(55, sp55)], mode := Go.FG.modeIn md, keep := Go.FG.keepIn [], tk := fun n => Go.FG.memB n [], om := Go.FG.omIn [] }
def sp23 : List Arg → Option (Bool × Res)
  | [(.v true [(.i .i64 a0_0), (.s a0_1), (.sh 83 a0_2)]), (.v true [(.i .i64 b1_0), (.s b1_1), (.sh 83 b1_2)])] => some (true, ⟨[(.v false [(.b (Pu.laws_eqStream.v a0_0 a0_1 a0_2 b1_0 b1_1 b1_2))])], []⟩)
  | _ => none
theorem ok23 : FnOk Try.prog T 23 sp23 := by
  refine fn_ok (E := E23) hE (call_cons ok55 call_nil) hM Try.func23 (code := (Try.f23.body.getD .skip)) (by kernel_rfl) (by kernel_rfl) ?_
  have key : ∀ (a0_0 : Int) (a0_1 : ByteArray) (a0_2 : Row) (b1_0 : Int) (b1_1 : ByteArray) (b1_2 : Row), ∃ it : It Res, (∀ c ∈ loopsOf (Try.f23.body.getD .skip), LoopOk E23 it c) ∧ body E23 it Try.f23 [(.v true [(.i .i64 a0_0), (.s a0_1), (.sh 83 a0_2)]), (.v true [(.i .i64 b1_0), (.s b1_1), (.sh 83 b1_2)])] = some ⟨[(.v false [(.b (Pu.laws_eqStream.v a0_0 a0_1 a0_2 b1_0 b1_1 b1_2))])], []⟩ := by
    intro a0_0 a0_1 a0_2 b1_0 b1_1 b1_2 
    have hN := Pu.laws_eqStream.b_eq (R := Res) (fun r0 => some ⟨[(.v false [(.b r0)])], []⟩) a0_0 a0_1 a0_2 b1_0 b1_1 b1_2
    have hl : loopsOf (Try.f23.body.getD .skip) = [] := by kernel_rfl
    refine ⟨iterN 0, by rw [hl]; exact loops_nil, ?_⟩
    refine Eq.trans (show body E23 (iterN 0) Try.f23 [(.v true [(.i .i64 a0_0), (.s a0_1), (.sh 83 a0_2)]), (.v true [(.i .i64 b1_0), (.s b1_1), (.sh 83 b1_2)])] = Pu.laws_eqStream.b (fun r0 => some ⟨[(.v false [(.b r0)])], []⟩) a0_0 a0_1 a0_2 b1_0 b1_1 b1_2 by kernel_rfl) hN
  intro args r h
  unfold sp23 at h
  split at h
  · injection h with h
    injection h with h1 h2
    subst h2
    exact ⟨by kernel_rfl, fun hf => ⟨of_decide_eq_true (by kernel_rfl), key _ _ _ _ _ _⟩⟩
  · cases h

end Go.FG.Se

namespace Go.FG.Se
open Go.Proofs
def E56 : Env := { toTab := T, call := Go.FG.callIn [], mode := Go.FG.modeIn md, keep := Go.FG.keepIn [(2, [0, 1, 5])], tk := fun n => Go.FG.memB n [], om := Go.FG.omIn [] }
def it56 (N : Nat) {R : Type} : It R := fun rid f cn L K => bif Nat.beq rid 2 then (tell [(0, (.v (.v false [(.own 900000000)]))), (2, (.v (.v false [(.i .i64 0)]))), (10, (.v (.v false [(.i .i64 0)]))), (1800000001, (.o (.row 83 true [])))] (fun | [.I x0, .I x1, .R x2] => Pu.laws_markReaderS.l2 N (fun y0 y1 y2 => (K (.exit 0) (tabl [(0, (.v (.v false [(.own 900000000)]))), (2, (.v (.v false [(.i .i64 y0)]))), (10, (.v (.v false [(.i .i64 y1)]))), (1800000001, (.o (.row 83 true y2)))]))) N x0 x1 x2 | _ => none) L (none)) else none
theorem e56_2 {R : Type} (N : Nat) (K : Ex → St → Option R) : ∀ n : Nat, (∀ x0 x1 x2, iter (exc E56 (it56 N) (loopOf Try.f56 2)) (canon (E56.keep 2))  n (tabl [(0, (.v (.v false [(.own 900000000)]))), (2, (.v (.v false [(.i .i64 x0)]))), (10, (.v (.v false [(.i .i64 x1)]))), (1800000001, (.o (.row 83 true x2)))]) K = Pu.laws_markReaderS.l2 N (fun y0 y1 y2 => (K (.exit 0) (tabl [(0, (.v (.v false [(.own 900000000)]))), (2, (.v (.v false [(.i .i64 y0)]))), (10, (.v (.v false [(.i .i64 y1)]))), (1800000001, (.o (.row 83 true y2)))]))) n x0 x1 x2) := by
  intro n
  induction n with
  | zero => exact (fun _ _ _ => rfl)
  | succ n ih =>
    have e0 : (fun x0 x1 x2 => iter (exc E56 (it56 N) (loopOf Try.f56 2)) (canon (E56.keep 2))  n (tabl [(0, (.v (.v false [(.own 900000000)]))), (2, (.v (.v false [(.i .i64 x0)]))), (10, (.v (.v false [(.i .i64 x1)]))), (1800000001, (.o (.row 83 true x2)))]) K) = Pu.laws_markReaderS.l2 N (fun y0 y1 y2 => (K (.exit 0) (tabl [(0, (.v (.v false [(.own 900000000)]))), (2, (.v (.v false [(.i .i64 y0)]))), (10, (.v (.v false [(.i .i64 y1)]))), (1800000001, (.o (.row 83 true y2)))]))) n := by funext x0 x1 x2; exact ih x0 x1 x2
    intro x0 x1 x2
    have h : ∀ g, exc E56 (it56 N) (loopOf Try.f56 2) (tabl [(0, (.v (.v false [(.own 900000000)]))), (2, (.v (.v false [(.i .i64 x0)]))), (10, (.v (.v false [(.i .i64 x1)]))), (1800000001, (.o (.row 83 true x2)))]) (iterK g (canon (E56.keep 2)) K) = Pu.laws_markReaderS.r2 N (fun x0 x1 x2 => (g (tabl [(0, (.v (.v false [(.own 900000000)]))), (2, (.v (.v false [(.i .i64 x0)]))), (10, (.v (.v false [(.i .i64 x1)]))), (1800000001, (.o (.row 83 true x2)))]))) (fun y0 y1 y2 => (K (.exit 0) (tabl [(0, (.v (.v false [(.own 900000000)]))), (2, (.v (.v false [(.i .i64 y0)]))), (10, (.v (.v false [(.i .i64 y1)]))), (1800000001, (.o (.row 83 true y2)))]))) x0 x1 x2 := by intro g; kernel_rfl
    refine (h _).trans ?_
    show Pu.laws_markReaderS.r2 N (fun x0 x1 x2 => (iter (exc E56 (it56 N) (loopOf Try.f56 2)) (canon (E56.keep 2))  n (tabl [(0, (.v (.v false [(.own 900000000)]))), (2, (.v (.v false [(.i .i64 x0)]))), (10, (.v (.v false [(.i .i64 x1)]))), (1800000001, (.o (.row 83 true x2)))]) K)) (fun y0 y1 y2 => (K (.exit 0) (tabl [(0, (.v (.v false [(.own 900000000)]))), (2, (.v (.v false [(.i .i64 y0)]))), (10, (.v (.v false [(.i .i64 y1)]))), (1800000001, (.o (.row 83 true y2)))]))) x0 x1 x2 = _
    rw [e0]; rfl
theorem lo56_2 {R : Type} (N : Nat) : LoopOk E56 (it56 N (R := R)) (loopOf Try.f56 2) := by
  have e : firstRid (loopOf Try.f56 2) = 2 := by kernel_rfl
  intro L K r
  rw [e]
  intro h
  unfold it56 at h
  simp only [show Nat.beq 2 2 = true from rfl, cond_false, cond_true] at h
  refine tell_ok (Q := fun L => ∃ n, iter (exc E56 (it56 N) (loopOf Try.f56 2)) (canon (E56.keep 2)) n (tabl L) K = some r) h (fun xs h => ?_) (fun h => ?_)
  · (try dsimp only at h)
    split at h
    · exact ⟨N, ((e56_2 N K N) _ _ _).trans h⟩
    · cases h
  cases h
def sp56 : List Arg → Option (Bool × Res)
  | [(.v false [(.ow 83 true a0)]), (.v false [(.i .i64 k1)])] => some (true, ⟨[(.v false [(.i .i64 ((Pu.laws_markReaderS.v a0 k1).1))])], [[(.kp ((Pu.laws_markReaderS.v a0 k1).2))]]⟩)
  | _ => none
theorem ok56 : FnOk Try.prog T 56 sp56 := by
  refine fn_ok (E := E56) hE call_nil hM Try.func56 (code := (Try.f56.body.getD .skip)) (by kernel_rfl) (by kernel_rfl) ?_
  have key : ∀ (a0 : Row) (k1 : Int), FitR a0 → ∃ it : It Res, (∀ c ∈ loopsOf (Try.f56.body.getD .skip), LoopOk E56 it c) ∧ body E56 it Try.f56 [(.v false [(.ow 83 true a0)]), (.v false [(.i .i64 k1)])] = some ⟨[(.v false [(.i .i64 ((Pu.laws_markReaderS.v a0 k1).1))])], [[(.kp ((Pu.laws_markReaderS.v a0 k1).2))]]⟩ := by
    intro a0 k1  g0
    obtain ⟨N, hN⟩ := Pu.laws_markReaderS.b_eq (R := Res) (fun r0 r1 => some ⟨[(.v false [(.i .i64 r0)])], [[(.kp r1)]]⟩) a0 k1 g0
    have hl : loopsOf (Try.f56.body.getD .skip) = [loopOf Try.f56 2] := by kernel_rfl
    refine ⟨it56 N, by rw [hl]; exact (loops_cons (lo56_2 N) loops_nil), ?_⟩
    refine Eq.trans (show body E56 (it56 N) Try.f56 [(.v false [(.ow 83 true a0)]), (.v false [(.i .i64 k1)])] = Pu.laws_markReaderS.b N (fun r0 r1 => some ⟨[(.v false [(.i .i64 r0)])], [[(.kp r1)]]⟩) a0 k1 by kernel_rfl) hN
  intro args r h
  unfold sp56 at h
  split at h
  · injection h with h
    injection h with h1 h2
    subst h2
    exact ⟨by kernel_rfl, fun hf => ⟨of_decide_eq_true (by kernel_rfl), key _ _ hf.1.1⟩⟩
  · cases h

end Go.FG.Se

namespace Go.FG.Se
open Go.Proofs
def E24 : Env := { toTab := T, call := Go.FG.callIn [(56, sp56)], mode := Go.FG.modeIn md, keep := Go.FG.keepIn [], tk := fun n => Go.FG.memB n [], om := Go.FG.omIn [] }
def sp24 : List Arg → Option (Bool × Res)
  | [(.v true [(.i .i64 a0_0), (.s a0_1), (.ow 83 true a0_2)]), (.v false [(.i .i64 k1)])] => some (true, ⟨[(.v false [(.i .i64 ((Pu.laws_markStream.v a0_0 a0_1 a0_2 k1).1))])], [[.nl, .nl, (.kp ((Pu.laws_markStream.v a0_0 a0_1 a0_2 k1).2))]]⟩)
  | _ => none
theorem ok24 : FnOk Try.prog T 24 sp24 := by
  refine fn_ok (E := E24) hE (call_cons ok56 call_nil) hM Try.func24 (code := (Try.f24.body.getD .skip)) (by kernel_rfl) (by kernel_rfl) ?_
  have key : ∀ (a0_0 : Int) (a0_1 : ByteArray) (a0_2 : Row) (k1 : Int), ∃ it : It Res, (∀ c ∈ loopsOf (Try.f24.body.getD .skip), LoopOk E24 it c) ∧ body E24 it Try.f24 [(.v true [(.i .i64 a0_0), (.s a0_1), (.ow 83 true a0_2)]), (.v false [(.i .i64 k1)])] = some ⟨[(.v false [(.i .i64 ((Pu.laws_markStream.v a0_0 a0_1 a0_2 k1).1))])], [[.nl, .nl, (.kp ((Pu.laws_markStream.v a0_0 a0_1 a0_2 k1).2))]]⟩ := by
    intro a0_0 a0_1 a0_2 k1 
    have hN := Pu.laws_markStream.b_eq (R := Res) (fun r0 r1 => some ⟨[(.v false [(.i .i64 r0)])], [[.nl, .nl, (.kp r1)]]⟩) a0_0 a0_1 a0_2 k1
    have hl : loopsOf (Try.f24.body.getD .skip) = [] := by kernel_rfl
    refine ⟨iterN 0, by rw [hl]; exact loops_nil, ?_⟩
    refine Eq.trans (show body E24 (iterN 0) Try.f24 [(.v true [(.i .i64 a0_0), (.s a0_1), (.ow 83 true a0_2)]), (.v false [(.i .i64 k1)])] = Pu.laws_markStream.b (fun r0 r1 => some ⟨[(.v false [(.i .i64 r0)])], [[.nl, .nl, (.kp r1)]]⟩) a0_0 a0_1 a0_2 k1 by kernel_rfl) hN
  intro args r h
  unfold sp24 at h
  split at h
  · injection h with h
    injection h with h1 h2
    subst h2
    exact ⟨by kernel_rfl, fun hf => ⟨of_decide_eq_true (by kernel_rfl), key _ _ _ _⟩⟩
  · cases h

end Go.FG.Se

namespace Go.FG.Se
open Go.Proofs
def E57 : Env := { toTab := T, call := Go.FG.callIn [], mode := Go.FG.modeIn md, keep := Go.FG.keepIn [(2, [0, 1, 4, 5])], tk := fun n => Go.FG.memB n [], om := Go.FG.omIn [] }
def it57 (N : Nat) {R : Type} : It R := fun rid f cn L K => bif Nat.beq rid 2 then (tell [(0, (.v (.v false [(.sh 83 [])]))), (2, (.v (.v false [(.i .i64 0)]))), (8, (.v (.v false [(.i .i64 0)]))), (10, (.v (.v false [(.i .i64 0)])))] (fun | [.R x0, .I x1, .I x2, .I x3] => Pu.laws_heldReaderS.l2 N (fun y0 y1 y2 y3 => (K .ret (tabl [(0, (.v (.v false [(.sh 83 y0)]))), (2, (.v (.v false [(.i .i64 y1)]))), (8, (.v (.v false [(.i .i64 y2)]))), (10, (.v (.v false [(.i .i64 y3)])))]))) (fun y0 y1 y2 y3 => (K (.exit 0) (tabl [(0, (.v (.v false [(.sh 83 y0)]))), (2, (.v (.v false [(.i .i64 y1)]))), (8, (.v (.v false [(.i .i64 y2)]))), (10, (.v (.v false [(.i .i64 y3)])))]))) N x0 x1 x2 x3 | _ => none) L (none)) else none
theorem e57_2 {R : Type} (N : Nat) (K : Ex → St → Option R) : ∀ n : Nat, (∀ x0 x1 x2 x3, iter (exc E57 (it57 N) (loopOf Try.f57 2)) (canon (E57.keep 2))  n (tabl [(0, (.v (.v false [(.sh 83 x0)]))), (2, (.v (.v false [(.i .i64 x1)]))), (8, (.v (.v false [(.i .i64 x2)]))), (10, (.v (.v false [(.i .i64 x3)])))]) K = Pu.laws_heldReaderS.l2 N (fun y0 y1 y2 y3 => (K .ret (tabl [(0, (.v (.v false [(.sh 83 y0)]))), (2, (.v (.v false [(.i .i64 y1)]))), (8, (.v (.v false [(.i .i64 y2)]))), (10, (.v (.v false [(.i .i64 y3)])))]))) (fun y0 y1 y2 y3 => (K (.exit 0) (tabl [(0, (.v (.v false [(.sh 83 y0)]))), (2, (.v (.v false [(.i .i64 y1)]))), (8, (.v (.v false [(.i .i64 y2)]))), (10, (.v (.v false [(.i .i64 y3)])))]))) n x0 x1 x2 x3) := by
  intro n
  induction n with
  | zero => exact (fun _ _ _ _ => rfl)
  | succ n ih =>
    have e0 : (fun x0 x1 x2 x3 => iter (exc E57 (it57 N) (loopOf Try.f57 2)) (canon (E57.keep 2))  n (tabl [(0, (.v (.v false [(.sh 83 x0)]))), (2, (.v (.v false [(.i .i64 x1)]))), (8, (.v (.v false [(.i .i64 x2)]))), (10, (.v (.v false [(.i .i64 x3)])))]) K) = Pu.laws_heldReaderS.l2 N (fun y0 y1 y2 y3 => (K .ret (tabl [(0, (.v (.v false [(.sh 83 y0)]))), (2, (.v (.v false [(.i .i64 y1)]))), (8, (.v (.v false [(.i .i64 y2)]))), (10, (.v (.v false [(.i .i64 y3)])))]))) (fun y0 y1 y2 y3 => (K (.exit 0) (tabl [(0, (.v (.v false [(.sh 83 y0)]))), (2, (.v (.v false [(.i .i64 y1)]))), (8, (.v (.v false [(.i .i64 y2)]))), (10, (.v (.v false [(.i .i64 y3)])))]))) n := by funext x0 x1 x2 x3; exact ih x0 x1 x2 x3
    intro x0 x1 x2 x3
    have h : ∀ g, exc E57 (it57 N) (loopOf Try.f57 2) (tabl [(0, (.v (.v false [(.sh 83 x0)]))), (2, (.v (.v false [(.i .i64 x1)]))), (8, (.v (.v false [(.i .i64 x2)]))), (10, (.v (.v false [(.i .i64 x3)])))]) (iterK g (canon (E57.keep 2)) K) = Pu.laws_heldReaderS.r2 N (fun x0 x1 x2 x3 => (g (tabl [(0, (.v (.v false [(.sh 83 x0)]))), (2, (.v (.v false [(.i .i64 x1)]))), (8, (.v (.v false [(.i .i64 x2)]))), (10, (.v (.v false [(.i .i64 x3)])))]))) (fun y0 y1 y2 y3 => (K .ret (tabl [(0, (.v (.v false [(.sh 83 y0)]))), (2, (.v (.v false [(.i .i64 y1)]))), (8, (.v (.v false [(.i .i64 y2)]))), (10, (.v (.v false [(.i .i64 y3)])))]))) (fun y0 y1 y2 y3 => (K (.exit 0) (tabl [(0, (.v (.v false [(.sh 83 y0)]))), (2, (.v (.v false [(.i .i64 y1)]))), (8, (.v (.v false [(.i .i64 y2)]))), (10, (.v (.v false [(.i .i64 y3)])))]))) x0 x1 x2 x3 := by intro g; kernel_rfl
    refine (h _).trans ?_
    show Pu.laws_heldReaderS.r2 N (fun x0 x1 x2 x3 => (iter (exc E57 (it57 N) (loopOf Try.f57 2)) (canon (E57.keep 2))  n (tabl [(0, (.v (.v false [(.sh 83 x0)]))), (2, (.v (.v false [(.i .i64 x1)]))), (8, (.v (.v false [(.i .i64 x2)]))), (10, (.v (.v false [(.i .i64 x3)])))]) K)) (fun y0 y1 y2 y3 => (K .ret (tabl [(0, (.v (.v false [(.sh 83 y0)]))), (2, (.v (.v false [(.i .i64 y1)]))), (8, (.v (.v false [(.i .i64 y2)]))), (10, (.v (.v false [(.i .i64 y3)])))]))) (fun y0 y1 y2 y3 => (K (.exit 0) (tabl [(0, (.v (.v false [(.sh 83 y0)]))), (2, (.v (.v false [(.i .i64 y1)]))), (8, (.v (.v false [(.i .i64 y2)]))), (10, (.v (.v false [(.i .i64 y3)])))]))) x0 x1 x2 x3 = _
    rw [e0]; rfl
theorem lo57_2 {R : Type} (N : Nat) : LoopOk E57 (it57 N (R := R)) (loopOf Try.f57 2) := by
  have e : firstRid (loopOf Try.f57 2) = 2 := by kernel_rfl
  intro L K r
  rw [e]
  intro h
  unfold it57 at h
  simp only [show Nat.beq 2 2 = true from rfl, cond_false, cond_true] at h
  refine tell_ok (Q := fun L => ∃ n, iter (exc E57 (it57 N) (loopOf Try.f57 2)) (canon (E57.keep 2)) n (tabl L) K = some r) h (fun xs h => ?_) (fun h => ?_)
  · (try dsimp only at h)
    split at h
    · exact ⟨N, ((e57_2 N K N) _ _ _ _).trans h⟩
    · cases h
  cases h
def sp57 : List Arg → Option (Bool × Res)
  | [(.v false [(.sh 83 a0)]), (.v false [(.i .i64 k1)])] => some (true, ⟨[(.v false [(.i .i64 (Pu.laws_heldReaderS.v a0 k1))])], []⟩)
  | _ => none
theorem ok57 : FnOk Try.prog T 57 sp57 := by
  refine fn_ok (E := E57) hE call_nil hM Try.func57 (code := (Try.f57.body.getD .skip)) (by kernel_rfl) (by kernel_rfl) ?_
  have key : ∀ (a0 : Row) (k1 : Int), FitR a0 → ∃ it : It Res, (∀ c ∈ loopsOf (Try.f57.body.getD .skip), LoopOk E57 it c) ∧ body E57 it Try.f57 [(.v false [(.sh 83 a0)]), (.v false [(.i .i64 k1)])] = some ⟨[(.v false [(.i .i64 (Pu.laws_heldReaderS.v a0 k1))])], []⟩ := by
    intro a0 k1  g0
    obtain ⟨N, hN⟩ := Pu.laws_heldReaderS.b_eq (R := Res) (fun r0 => some ⟨[(.v false [(.i .i64 r0)])], []⟩) a0 k1 g0
    have hl : loopsOf (Try.f57.body.getD .skip) = [loopOf Try.f57 2] := by kernel_rfl
    refine ⟨it57 N, by rw [hl]; exact (loops_cons (lo57_2 N) loops_nil), ?_⟩
    refine Eq.trans (show body E57 (it57 N) Try.f57 [(.v false [(.sh 83 a0)]), (.v false [(.i .i64 k1)])] = Pu.laws_heldReaderS.b N (fun r0 => some ⟨[(.v false [(.i .i64 r0)])], []⟩) a0 k1 by kernel_rfl) hN
  intro args r h
  unfold sp57 at h
  split at h
  · injection h with h
    injection h with h1 h2
    subst h2
    exact ⟨by kernel_rfl, fun hf => ⟨of_decide_eq_true (by kernel_rfl), key _ _ hf.1.1⟩⟩
  · cases h

end Go.FG.Se

namespace Go.FG.Se
open Go.Proofs
def E25 : Env := { toTab := T, call := Go.FG.callIn [(57, sp57)], mode := Go.FG.modeIn md, keep := Go.FG.keepIn [], tk := fun n => Go.FG.memB n [], om := Go.FG.omIn [] }
def sp25 : List Arg → Option (Bool × Res)
  | [(.v true [(.i .i64 a0_0), (.s a0_1), (.sh 83 a0_2)]), (.v false [(.i .i64 k1)])] => some (true, ⟨[(.v false [(.i .i64 (Pu.laws_heldStream.v a0_0 a0_1 a0_2 k1))])], []⟩)
  | _ => none
theorem ok25 : FnOk Try.prog T 25 sp25 := by
  refine fn_ok (E := E25) hE (call_cons ok57 call_nil) hM Try.func25 (code := (Try.f25.body.getD .skip)) (by kernel_rfl) (by kernel_rfl) ?_
  have key : ∀ (a0_0 : Int) (a0_1 : ByteArray) (a0_2 : Row) (k1 : Int), ∃ it : It Res, (∀ c ∈ loopsOf (Try.f25.body.getD .skip), LoopOk E25 it c) ∧ body E25 it Try.f25 [(.v true [(.i .i64 a0_0), (.s a0_1), (.sh 83 a0_2)]), (.v false [(.i .i64 k1)])] = some ⟨[(.v false [(.i .i64 (Pu.laws_heldStream.v a0_0 a0_1 a0_2 k1))])], []⟩ := by
    intro a0_0 a0_1 a0_2 k1 
    have hN := Pu.laws_heldStream.b_eq (R := Res) (fun r0 => some ⟨[(.v false [(.i .i64 r0)])], []⟩) a0_0 a0_1 a0_2 k1
    have hl : loopsOf (Try.f25.body.getD .skip) = [] := by kernel_rfl
    refine ⟨iterN 0, by rw [hl]; exact loops_nil, ?_⟩
    refine Eq.trans (show body E25 (iterN 0) Try.f25 [(.v true [(.i .i64 a0_0), (.s a0_1), (.sh 83 a0_2)]), (.v false [(.i .i64 k1)])] = Pu.laws_heldStream.b (fun r0 => some ⟨[(.v false [(.i .i64 r0)])], []⟩) a0_0 a0_1 a0_2 k1 by kernel_rfl) hN
  intro args r h
  unfold sp25 at h
  split at h
  · injection h with h
    injection h with h1 h2
    subst h2
    exact ⟨by kernel_rfl, fun hf => ⟨of_decide_eq_true (by kernel_rfl), key _ _ _ _⟩⟩
  · cases h

end Go.FG.Se

namespace Go.FG.Se
open Go.Proofs
def E5 : Env := { toTab := T, call := Go.FG.callIn [(21, sp21), (22, sp22), (23, sp23), (24, sp24), (25, sp25)], mode := Go.FG.modeIn md, keep := Go.FG.keepIn [], tk := fun n => Go.FG.memB n [], om := Go.FG.omIn [] }
def sp5 : List Arg → Option (Bool × Res)
  | [] => some (true, ⟨[(.v false [(.b Pu.laws_FnExactStreamNew.v)])], []⟩)
  | _ => none
theorem ok5 : FnOk Try.prog T 5 sp5 := by
  refine fn_ok (E := E5) hE (call_cons ok21 (call_cons ok22 (call_cons ok23 (call_cons ok24 (call_cons ok25 call_nil))))) hM Try.func5 (code := (Try.f5.body.getD .skip)) (by kernel_rfl) (by kernel_rfl) ?_
  have key : ∃ it : It Res, (∀ c ∈ loopsOf (Try.f5.body.getD .skip), LoopOk E5 it c) ∧ body E5 it Try.f5 [] = some ⟨[(.v false [(.b Pu.laws_FnExactStreamNew.v)])], []⟩ := by
    skip
    have hN := Pu.laws_FnExactStreamNew.b_eq (R := Res) (fun r0 => some ⟨[(.v false [(.b r0)])], []⟩) 
    have hl : loopsOf (Try.f5.body.getD .skip) = [] := by kernel_rfl
    refine ⟨iterN 0, by rw [hl]; exact loops_nil, ?_⟩
    refine Eq.trans (show body E5 (iterN 0) Try.f5 [] = Pu.laws_FnExactStreamNew.b (fun r0 => some ⟨[(.v false [(.b r0)])], []⟩)  by kernel_rfl) hN
  intro args r h
  unfold sp5 at h
  split at h
  · injection h with h
    injection h with h1 h2
    subst h2
    exact ⟨by kernel_rfl, fun hf => ⟨of_decide_eq_true (by kernel_rfl), key⟩⟩
  · cases h

end Go.FG.Se

