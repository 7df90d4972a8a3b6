/- Functions of the program: the evaluation of each, and that a call of it does what is told. No condition. -/
import Derived.Test.YticmocblmmahkaaTab
import Derived.Test.YticmocblmmahkaaPExactStreamJoin
import Derived.Test.YticmocblmmahkaaIns
set_option linter.unusedVariables false
set_option linter.unusedSimpArgs false
set_option maxRecDepth 100000
namespace Go.FG.Se
open Go.Proofs
def E124 : Env := { toTab := T, call := Go.FG.callIn [], mode := Go.FG.modeIn md, keep := Go.FG.keepIn [], tk := fun n => Go.FG.memB n [], om := Go.FG.omIn [] }
def sp124 : List Arg → Option (Bool × Res)
  | [(.v false [(.sh 206 a0)]), (.v false [(.i .i64 left1)])] => some (true, ⟨[(.v false [(.i .i64 (Pu.laws_szReaderS.v a0 left1))])], []⟩)
  | _ => none
theorem ok124 : FnOk Try.prog T 124 sp124 := by
  refine fn_ok (E := E124) hE call_nil hM Try.func124 (code := (Try.f124.body.getD .skip)) (by kernel_rfl) (by kernel_rfl) ?_
  have key : ∀ (a0 : Row) (left1 : Int), ∃ it : It Res, (∀ c ∈ loopsOf (Try.f124.body.getD .skip), LoopOk E124 it c) ∧ body E124 it Try.f124 [(.v false [(.sh 206 a0)]), (.v false [(.i .i64 left1)])] = some ⟨[(.v false [(.i .i64 (Pu.laws_szReaderS.v a0 left1))])], []⟩ := by
    intro a0 left1 
    have hN := Pu.laws_szReaderS.b_eq (R := Res) (fun r0 => some ⟨[(.v false [(.i .i64 r0)])], []⟩) a0 left1
    have hl : loopsOf (Try.f124.body.getD .skip) = [] := by kernel_rfl
    refine ⟨iterN 0, by rw [hl]; exact loops_nil, ?_⟩
    refine Eq.trans (show body E124 (iterN 0) Try.f124 [(.v false [(.sh 206 a0)]), (.v false [(.i .i64 left1)])] = Pu.laws_szReaderS.b (fun r0 => some ⟨[(.v false [(.i .i64 r0)])], []⟩) a0 left1 by kernel_rfl) hN
  intro args r h
  unfold sp124 at h
  split at h
  · injection h with h
    injection h with h1 h2
    subst h2
    exact ⟨by kernel_rfl, fun hf => ⟨of_decide_eq_true (by kernel_rfl), key _ _⟩⟩
  · cases h

end Go.FG.Se

namespace Go.FG.Se
open Go.Proofs
def E56 : Env := { toTab := T, call := Go.FG.callIn [(124, sp124)], mode := Go.FG.modeIn md, keep := Go.FG.keepIn [], tk := fun n => Go.FG.memB n [], om := Go.FG.omIn [] }
def sp56 : List Arg → Option (Bool × Res)
  | [(.v true [(.i .i64 a0_0), (.s a0_1), (.sh 206 a0_2)]), (.v false [(.i .i64 left1)])] => some (true, ⟨[(.v false [(.i .i64 (Pu.laws_szStream.v a0_0 a0_1 a0_2 left1))])], []⟩)
  | _ => none
theorem ok56 : FnOk Try.prog T 56 sp56 := by
  refine fn_ok (E := E56) hE (call_cons ok124 call_nil) hM Try.func56 (code := (Try.f56.body.getD .skip)) (by kernel_rfl) (by kernel_rfl) ?_
  have key : ∀ (a0_0 : Int) (a0_1 : ByteArray) (a0_2 : Row) (left1 : Int), ∃ it : It Res, (∀ c ∈ loopsOf (Try.f56.body.getD .skip), LoopOk E56 it c) ∧ body E56 it Try.f56 [(.v true [(.i .i64 a0_0), (.s a0_1), (.sh 206 a0_2)]), (.v false [(.i .i64 left1)])] = some ⟨[(.v false [(.i .i64 (Pu.laws_szStream.v a0_0 a0_1 a0_2 left1))])], []⟩ := by
    intro a0_0 a0_1 a0_2 left1 
    have hN := Pu.laws_szStream.b_eq (R := Res) (fun r0 => some ⟨[(.v false [(.i .i64 r0)])], []⟩) a0_0 a0_1 a0_2 left1
    have hl : loopsOf (Try.f56.body.getD .skip) = [] := by kernel_rfl
    refine ⟨iterN 0, by rw [hl]; exact loops_nil, ?_⟩
    refine Eq.trans (show body E56 (iterN 0) Try.f56 [(.v true [(.i .i64 a0_0), (.s a0_1), (.sh 206 a0_2)]), (.v false [(.i .i64 left1)])] = Pu.laws_szStream.b (fun r0 => some ⟨[(.v false [(.i .i64 r0)])], []⟩) a0_0 a0_1 a0_2 left1 by kernel_rfl) hN
  intro args r h
  unfold sp56 at h
  split at h
  · injection h with h
    injection h with h1 h2
    subst h2
    exact ⟨by kernel_rfl, fun hf => ⟨of_decide_eq_true (by kernel_rfl), key _ _ _ _⟩⟩
  · cases h

end Go.FG.Se

namespace Go.FG.Se
open Go.Proofs
def E177 : Env := { toTab := T, call := Go.FG.callIn [], mode := Go.FG.modeIn md, keep := Go.FG.keepIn [], tk := fun n => Go.FG.memB n [], om := Go.FG.omIn [] }
def sp177 : List Arg → Option (Bool × Res)
  | [(.v true [(.i .i64 a0_0), (.i .i64 a0_1)])] => some (true, ⟨[(.v true [(.i .i64 ((Pu.laws_toReader.v a0_0 a0_1).1)), (.i .i64 ((Pu.laws_toReader.v a0_0 a0_1).2))])], []⟩)
  | _ => none
theorem ok177 : FnOk Try.prog T 177 sp177 := by
  refine fn_ok (E := E177) hE call_nil hM Try.func177 (code := (Try.f177.body.getD .skip)) (by kernel_rfl) (by kernel_rfl) ?_
  have key : ∀ (a0_0 : Int) (a0_1 : Int), ∃ it : It Res, (∀ c ∈ loopsOf (Try.f177.body.getD .skip), LoopOk E177 it c) ∧ body E177 it Try.f177 [(.v true [(.i .i64 a0_0), (.i .i64 a0_1)])] = some ⟨[(.v true [(.i .i64 ((Pu.laws_toReader.v a0_0 a0_1).1)), (.i .i64 ((Pu.laws_toReader.v a0_0 a0_1).2))])], []⟩ := by
    intro a0_0 a0_1 
    have hN := Pu.laws_toReader.b_eq (R := Res) (fun r0 r1 => some ⟨[(.v true [(.i .i64 r0), (.i .i64 r1)])], []⟩) a0_0 a0_1
    have hl : loopsOf (Try.f177.body.getD .skip) = [] := by kernel_rfl
    refine ⟨iterN 0, by rw [hl]; exact loops_nil, ?_⟩
    refine Eq.trans (show body E177 (iterN 0) Try.f177 [(.v true [(.i .i64 a0_0), (.i .i64 a0_1)])] = Pu.laws_toReader.b (fun r0 r1 => some ⟨[(.v true [(.i .i64 r0), (.i .i64 r1)])], []⟩) a0_0 a0_1 by kernel_rfl) hN
  intro args r h
  unfold sp177 at h
  split at h
  · injection h with h
    injection h with h1 h2
    subst h2
    exact ⟨by kernel_rfl, fun hf => ⟨of_decide_eq_true (by kernel_rfl), key _ _⟩⟩
  · cases h

end Go.FG.Se

namespace Go.FG.Se
open Go.Proofs
def E125 : Env := { toTab := T, call := Go.FG.callIn [(177, sp177)], mode := Go.FG.modeIn md, keep := Go.FG.keepIn [(3, [0, 3, 4])], tk := fun n => Go.FG.memB n [], om := Go.FG.omIn [] }
def it125 (N : Nat) {R : Type} : It R := fun rid f cn L K => bif Nat.beq rid 3 then (tell [(0, (.v (.v false [(.sh 206 [])]))), (6, (.v (.v false [(.own 0)]))), (8, (.v (.v false [(.i .i64 0)]))), (1, (.o (.row 60 true [])))] (fun | [.R x0, .I x1, .R x2] => Pu.laws_toReaderS.l3 N (fun y0 y1 y2 => (K (.exit 0) (tabl [(0, (.v (.v false [(.sh 206 y0)]))), (6, (.v (.v false [(.own 0)]))), (8, (.v (.v false [(.i .i64 y1)]))), (1, (.o (.row 60 true y2)))]))) N x0 x1 x2 | _ => none) L (none)) else none
theorem e125_3 {R : Type} (N : Nat) (K : Ex → St → Option R) : ∀ n : Nat, (∀ x0 x1 x2, iter (exc E125 (it125 N) (loopOf Try.f125 3)) (canon (E125.keep 3))  n (tabl [(0, (.v (.v false [(.sh 206 x0)]))), (6, (.v (.v false [(.own 0)]))), (8, (.v (.v false [(.i .i64 x1)]))), (1, (.o (.row 60 true x2)))]) K = Pu.laws_toReaderS.l3 N (fun y0 y1 y2 => (K (.exit 0) (tabl [(0, (.v (.v false [(.sh 206 y0)]))), (6, (.v (.v false [(.own 0)]))), (8, (.v (.v false [(.i .i64 y1)]))), (1, (.o (.row 60 true y2)))]))) n x0 x1 x2) := by
  intro n
  induction n with
  | zero => exact (fun _ _ _ => rfl)
  | succ n ih =>
    have e0 : (fun x0 x1 x2 => iter (exc E125 (it125 N) (loopOf Try.f125 3)) (canon (E125.keep 3))  n (tabl [(0, (.v (.v false [(.sh 206 x0)]))), (6, (.v (.v false [(.own 0)]))), (8, (.v (.v false [(.i .i64 x1)]))), (1, (.o (.row 60 true x2)))]) K) = Pu.laws_toReaderS.l3 N (fun y0 y1 y2 => (K (.exit 0) (tabl [(0, (.v (.v false [(.sh 206 y0)]))), (6, (.v (.v false [(.own 0)]))), (8, (.v (.v false [(.i .i64 y1)]))), (1, (.o (.row 60 true y2)))]))) n := by funext x0 x1 x2; exact ih x0 x1 x2
    intro x0 x1 x2
    have h : ∀ g, exc E125 (it125 N) (loopOf Try.f125 3) (tabl [(0, (.v (.v false [(.sh 206 x0)]))), (6, (.v (.v false [(.own 0)]))), (8, (.v (.v false [(.i .i64 x1)]))), (1, (.o (.row 60 true x2)))]) (iterK g (canon (E125.keep 3)) K) = Pu.laws_toReaderS.r3 N (fun x0 x1 x2 => (g (tabl [(0, (.v (.v false [(.sh 206 x0)]))), (6, (.v (.v false [(.own 0)]))), (8, (.v (.v false [(.i .i64 x1)]))), (1, (.o (.row 60 true x2)))]))) (fun y0 y1 y2 => (K (.exit 0) (tabl [(0, (.v (.v false [(.sh 206 y0)]))), (6, (.v (.v false [(.own 0)]))), (8, (.v (.v false [(.i .i64 y1)]))), (1, (.o (.row 60 true y2)))]))) x0 x1 x2 := by intro g; kernel_rfl
    refine (h _).trans ?_
    show Pu.laws_toReaderS.r3 N (fun x0 x1 x2 => (iter (exc E125 (it125 N) (loopOf Try.f125 3)) (canon (E125.keep 3))  n (tabl [(0, (.v (.v false [(.sh 206 x0)]))), (6, (.v (.v false [(.own 0)]))), (8, (.v (.v false [(.i .i64 x1)]))), (1, (.o (.row 60 true x2)))]) K)) (fun y0 y1 y2 => (K (.exit 0) (tabl [(0, (.v (.v false [(.sh 206 y0)]))), (6, (.v (.v false [(.own 0)]))), (8, (.v (.v false [(.i .i64 y1)]))), (1, (.o (.row 60 true y2)))]))) x0 x1 x2 = _
    rw [e0]; rfl
theorem lo125_3 {R : Type} (N : Nat) : LoopOk E125 (it125 N (R := R)) (loopOf Try.f125 3) := by
  have e : firstRid (loopOf Try.f125 3) = 3 := by kernel_rfl
  intro L K r
  rw [e]
  intro h
  unfold it125 at h
  simp only [show Nat.beq 3 3 = true from rfl, cond_false, cond_true] at h
  refine tell_ok (Q := fun L => ∃ n, iter (exc E125 (it125 N) (loopOf Try.f125 3)) (canon (E125.keep 3)) n (tabl L) K = some r) h (fun xs h => ?_) (fun h => ?_)
  · (try dsimp only at h)
    split at h
    · exact ⟨N, ((e125_3 N K N) _ _ _).trans h⟩
    · cases h
  cases h
def sp125 : List Arg → Option (Bool × Res)
  | [(.v false [(.sh 206 a0)])] => some (Pu.laws_toReaderS.c a0, ⟨[(.v false [(.ow 60 true (Pu.laws_toReaderS.v a0))])], []⟩)
  | _ => none
theorem ok125 : FnOk Try.prog T 125 sp125 := by
  refine fn_ok (E := E125) hE (call_cons ok177 call_nil) hM Try.func125 (code := (Try.f125.body.getD .skip)) (by kernel_rfl) (by kernel_rfl) ?_
  have key : ∀ (a0 : Row), Pu.laws_toReaderS.c a0 = true → ∃ it : It Res, (∀ c ∈ loopsOf (Try.f125.body.getD .skip), LoopOk E125 it c) ∧ body E125 it Try.f125 [(.v false [(.sh 206 a0)])] = some ⟨[(.v false [(.ow 60 true (Pu.laws_toReaderS.v a0))])], []⟩ := by
    intro a0  h1
    obtain ⟨N, hN⟩ := Pu.laws_toReaderS.b_eq (R := Res) (fun r0 => some ⟨[(.v false [(.ow 60 true r0)])], []⟩) a0 h1
    have hl : loopsOf (Try.f125.body.getD .skip) = [loopOf Try.f125 3] := by kernel_rfl
    refine ⟨it125 N, by rw [hl]; exact (loops_cons (lo125_3 N) loops_nil), ?_⟩
    refine Eq.trans (show body E125 (it125 N) Try.f125 [(.v false [(.sh 206 a0)])] = Pu.laws_toReaderS.b N (fun r0 => some ⟨[(.v false [(.ow 60 true r0)])], []⟩) a0 by kernel_rfl) hN
  intro args r h
  unfold sp125 at h
  split at h
  · injection h with h
    injection h with h1 h2
    subst h2
    exact ⟨by kernel_rfl, fun hf => ⟨of_decide_eq_true (by kernel_rfl), key _ h1⟩⟩
  · cases h

end Go.FG.Se

namespace Go.FG.Se
open Go.Proofs
def E57 : Env := { toTab := T, call := Go.FG.callIn [(125, sp125)], mode := Go.FG.modeIn md, keep := Go.FG.keepIn [], tk := fun n => Go.FG.memB n [], om := Go.FG.omIn [] }
def sp57 : List Arg → Option (Bool × Res)
  | [(.v true [(.i .i64 a0_0), (.s a0_1), (.sh 206 a0_2)])] => some (Pu.laws_toStream.c a0_0 a0_1 a0_2, ⟨[(.v true [(.i .i64 ((Pu.laws_toStream.v a0_0 a0_1 a0_2).1)), (.s ((Pu.laws_toStream.v a0_0 a0_1 a0_2).2.1)), (.ow 60 true ((Pu.laws_toStream.v a0_0 a0_1 a0_2).2.2))])], []⟩)
  | _ => none
theorem ok57 : FnOk Try.prog T 57 sp57 := by
  refine fn_ok (E := E57) hE (call_cons ok125 call_nil) hM Try.func57 (code := (Try.f57.body.getD .skip)) (by kernel_rfl) (by kernel_rfl) ?_
  have key : ∀ (a0_0 : Int) (a0_1 : ByteArray) (a0_2 : Row), Pu.laws_toStream.c a0_0 a0_1 a0_2 = true → ∃ it : It Res, (∀ c ∈ loopsOf (Try.f57.body.getD .skip), LoopOk E57 it c) ∧ body E57 it Try.f57 [(.v true [(.i .i64 a0_0), (.s a0_1), (.sh 206 a0_2)])] = some ⟨[(.v true [(.i .i64 ((Pu.laws_toStream.v a0_0 a0_1 a0_2).1)), (.s ((Pu.laws_toStream.v a0_0 a0_1 a0_2).2.1)), (.ow 60 true ((Pu.laws_toStream.v a0_0 a0_1 a0_2).2.2))])], []⟩ := by
    intro a0_0 a0_1 a0_2  h1
    have hN := Pu.laws_toStream.b_eq (R := Res) (fun r0 r1 r2 => some ⟨[(.v true [(.i .i64 r0), (.s r1), (.ow 60 true r2)])], []⟩) a0_0 a0_1 a0_2 h1
    have hl : loopsOf (Try.f57.body.getD .skip) = [] := by kernel_rfl
    refine ⟨iterN 0, by rw [hl]; exact loops_nil, ?_⟩
    refine Eq.trans (show body E57 (iterN 0) Try.f57 [(.v true [(.i .i64 a0_0), (.s a0_1), (.sh 206 a0_2)])] = Pu.laws_toStream.b (fun r0 r1 r2 => some ⟨[(.v true [(.i .i64 r0), (.s r1), (.ow 60 true r2)])], []⟩) a0_0 a0_1 a0_2 by kernel_rfl) hN
  intro args r h
  unfold sp57 at h
  split at h
  · injection h with h
    injection h with h1 h2
    subst h2
    exact ⟨by kernel_rfl, fun hf => ⟨of_decide_eq_true (by kernel_rfl), key _ _ _ h1⟩⟩
  · cases h

end Go.FG.Se

namespace Go.FG.Se
open Go.Proofs
def E121 : Env := { toTab := T, call := Go.FG.callIn [], mode := Go.FG.modeIn md, keep := Go.FG.keepIn [], tk := fun n => Go.FG.memB n [], om := Go.FG.omIn [] }
def sp121 : List Arg → Option (Bool × Res)
  | [(.v true [(.i .i64 s0_0), (.s s0_1), (.sh 60 s0_2)])] => some (Pu.spec_l14Copy.c s0_0 s0_1 s0_2, ⟨[(.v true [(.i .i64 ((Pu.spec_l14Copy.v s0_0 s0_1 s0_2).1)), (.s ((Pu.spec_l14Copy.v s0_0 s0_1 s0_2).2.1)), (.ow 60 true ((Pu.spec_l14Copy.v s0_0 s0_1 s0_2).2.2))])], []⟩)
  | _ => none
theorem ok121 : FnOk Try.prog T 121 sp121 := by
  refine fn_ok (E := E121) hE call_nil hM Try.func121 (code := (Try.f121.body.getD .skip)) (by kernel_rfl) (by kernel_rfl) ?_
  have key : ∀ (s0_0 : Int) (s0_1 : ByteArray) (s0_2 : Row), Pu.spec_l14Copy.c s0_0 s0_1 s0_2 = true → ∃ it : It Res, (∀ c ∈ loopsOf (Try.f121.body.getD .skip), LoopOk E121 it c) ∧ body E121 it Try.f121 [(.v true [(.i .i64 s0_0), (.s s0_1), (.sh 60 s0_2)])] = some ⟨[(.v true [(.i .i64 ((Pu.spec_l14Copy.v s0_0 s0_1 s0_2).1)), (.s ((Pu.spec_l14Copy.v s0_0 s0_1 s0_2).2.1)), (.ow 60 true ((Pu.spec_l14Copy.v s0_0 s0_1 s0_2).2.2))])], []⟩ := by
    intro s0_0 s0_1 s0_2  h1
    have hN := Pu.spec_l14Copy.b_eq (R := Res) (fun r0 r1 r2 => some ⟨[(.v true [(.i .i64 r0), (.s r1), (.ow 60 true r2)])], []⟩) s0_0 s0_1 s0_2 h1
    have hl : loopsOf (Try.f121.body.getD .skip) = [] := by kernel_rfl
    refine ⟨iterN 0, by rw [hl]; exact loops_nil, ?_⟩
    refine Eq.trans (show body E121 (iterN 0) Try.f121 [(.v true [(.i .i64 s0_0), (.s s0_1), (.sh 60 s0_2)])] = Pu.spec_l14Copy.b (fun r0 r1 r2 => some ⟨[(.v true [(.i .i64 r0), (.s r1), (.ow 60 true r2)])], []⟩) s0_0 s0_1 s0_2 by kernel_rfl) hN
  intro args r h
  unfold sp121 at h
  split at h
  · injection h with h
    injection h with h1 h2
    subst h2
    exact ⟨by kernel_rfl, fun hf => ⟨of_decide_eq_true (by kernel_rfl), key _ _ _ h1⟩⟩
  · cases h

end Go.FG.Se

namespace Go.FG.Se
open Go.Proofs
def E95 : Env := { toTab := T, call := Go.FG.callIn [], mode := Go.FG.modeIn md, keep := Go.FG.keepIn [], tk := fun n => Go.FG.memB n [], om := Go.FG.omIn [] }
def sp95 : List Arg → Option (Bool × Res)
  | [(.v false [(.i .i64 x0)]), (.v false [(.i .i64 least1)]), (.v false [(.i .i64 most2)])] => some (true, ⟨[(.v false [(.b (Pu.spec_l01In.v x0 least1 most2))])], []⟩)
  | _ => none
theorem ok95 : FnOk Try.prog T 95 sp95 := by
  refine fn_ok (E := E95) hE call_nil hM Try.func95 (code := (Try.f95.body.getD .skip)) (by kernel_rfl) (by kernel_rfl) ?_
  have key : ∀ (x0 : Int) (least1 : Int) (most2 : Int), ∃ it : It Res, (∀ c ∈ loopsOf (Try.f95.body.getD .skip), LoopOk E95 it c) ∧ body E95 it Try.f95 [(.v false [(.i .i64 x0)]), (.v false [(.i .i64 least1)]), (.v false [(.i .i64 most2)])] = some ⟨[(.v false [(.b (Pu.spec_l01In.v x0 least1 most2))])], []⟩ := by
    intro x0 least1 most2 
    have hN := Pu.spec_l01In.b_eq (R := Res) (fun r0 => some ⟨[(.v false [(.b r0)])], []⟩) x0 least1 most2
    have hl : loopsOf (Try.f95.body.getD .skip) = [] := by kernel_rfl
    refine ⟨iterN 0, by rw [hl]; exact loops_nil, ?_⟩
    refine Eq.trans (show body E95 (iterN 0) Try.f95 [(.v false [(.i .i64 x0)]), (.v false [(.i .i64 least1)]), (.v false [(.i .i64 most2)])] = Pu.spec_l01In.b (fun r0 => some ⟨[(.v false [(.b r0)])], []⟩) x0 least1 most2 by kernel_rfl) hN
  intro args r h
  unfold sp95 at h
  split at h
  · injection h with h
    injection h with h1 h2
    subst h2
    exact ⟨by kernel_rfl, fun hf => ⟨of_decide_eq_true (by kernel_rfl), key _ _ _⟩⟩
  · cases h

end Go.FG.Se

namespace Go.FG.Se
open Go.Proofs
def E53 : Env := { toTab := T, call := Go.FG.callIn [(95, sp95)], mode := Go.FG.modeIn md, keep := Go.FG.keepIn [(2, [1, 2, 3])], tk := fun n => Go.FG.memB n [], om := Go.FG.omIn [] }
def it53 (N : Nat) {R : Type} : It R := fun rid f cn L K => bif Nat.beq rid 2 then (tell [(2, (.v (.v false [(.bp 0 0)]))), (4, (.v (.v false [(.b false)]))), (6, (.v (.v false [(.i .i64 0)]))), (1, (.o (.box [(.i .i64 0), (.s ⟨#[]⟩), (.sh 60 [])])))] (fun | [.B x0, .I x1, .I x2, .S x3, .R x4] => Pu.spec_StreamOk.l2 N (fun y0 y1 y2 y3 y4 => (K .ret (tabl [(2, (.v (.v false [(.bp 0 0)]))), (4, (.v (.v false [(.b y0)]))), (6, (.v (.v false [(.i .i64 y1)]))), (1, (.o (.box [(.i .i64 y2), (.s y3), (.sh 60 y4)])))]))) (fun y0 y1 y2 y3 y4 => (K (.exit 0) (tabl [(2, (.v (.v false [(.bp 0 0)]))), (4, (.v (.v false [(.b y0)]))), (6, (.v (.v false [(.i .i64 y1)]))), (1, (.o (.box [(.i .i64 y2), (.s y3), (.sh 60 y4)])))]))) N x0 x1 x2 x3 x4 | _ => none) L (none)) else none
theorem e53_2 {R : Type} (N : Nat) (K : Ex → St → Option R) : ∀ n : Nat, (∀ x0 x1 x2 x3 x4, iter (exc E53 (it53 N) (loopOf Try.f53 2)) (canon (E53.keep 2))  n (tabl [(2, (.v (.v false [(.bp 0 0)]))), (4, (.v (.v false [(.b x0)]))), (6, (.v (.v false [(.i .i64 x1)]))), (1, (.o (.box [(.i .i64 x2), (.s x3), (.sh 60 x4)])))]) K = Pu.spec_StreamOk.l2 N (fun y0 y1 y2 y3 y4 => (K .ret (tabl [(2, (.v (.v false [(.bp 0 0)]))), (4, (.v (.v false [(.b y0)]))), (6, (.v (.v false [(.i .i64 y1)]))), (1, (.o (.box [(.i .i64 y2), (.s y3), (.sh 60 y4)])))]))) (fun y0 y1 y2 y3 y4 => (K (.exit 0) (tabl [(2, (.v (.v false [(.bp 0 0)]))), (4, (.v (.v false [(.b y0)]))), (6, (.v (.v false [(.i .i64 y1)]))), (1, (.o (.box [(.i .i64 y2), (.s y3), (.sh 60 y4)])))]))) n x0 x1 x2 x3 x4) := by
  intro n
  induction n with
  | zero => exact (fun _ _ _ _ _ => rfl)
  | succ n ih =>
    have e0 : (fun x0 x1 x2 x3 x4 => iter (exc E53 (it53 N) (loopOf Try.f53 2)) (canon (E53.keep 2))  n (tabl [(2, (.v (.v false [(.bp 0 0)]))), (4, (.v (.v false [(.b x0)]))), (6, (.v (.v false [(.i .i64 x1)]))), (1, (.o (.box [(.i .i64 x2), (.s x3), (.sh 60 x4)])))]) K) = Pu.spec_StreamOk.l2 N (fun y0 y1 y2 y3 y4 => (K .ret (tabl [(2, (.v (.v false [(.bp 0 0)]))), (4, (.v (.v false [(.b y0)]))), (6, (.v (.v false [(.i .i64 y1)]))), (1, (.o (.box [(.i .i64 y2), (.s y3), (.sh 60 y4)])))]))) (fun y0 y1 y2 y3 y4 => (K (.exit 0) (tabl [(2, (.v (.v false [(.bp 0 0)]))), (4, (.v (.v false [(.b y0)]))), (6, (.v (.v false [(.i .i64 y1)]))), (1, (.o (.box [(.i .i64 y2), (.s y3), (.sh 60 y4)])))]))) n := by funext x0 x1 x2 x3 x4; exact ih x0 x1 x2 x3 x4
    intro x0 x1 x2 x3 x4
    have h : ∀ g, exc E53 (it53 N) (loopOf Try.f53 2) (tabl [(2, (.v (.v false [(.bp 0 0)]))), (4, (.v (.v false [(.b x0)]))), (6, (.v (.v false [(.i .i64 x1)]))), (1, (.o (.box [(.i .i64 x2), (.s x3), (.sh 60 x4)])))]) (iterK g (canon (E53.keep 2)) K) = Pu.spec_StreamOk.r2 N (fun x0 x1 x2 x3 x4 => (g (tabl [(2, (.v (.v false [(.bp 0 0)]))), (4, (.v (.v false [(.b x0)]))), (6, (.v (.v false [(.i .i64 x1)]))), (1, (.o (.box [(.i .i64 x2), (.s x3), (.sh 60 x4)])))]))) (fun y0 y1 y2 y3 y4 => (K .ret (tabl [(2, (.v (.v false [(.bp 0 0)]))), (4, (.v (.v false [(.b y0)]))), (6, (.v (.v false [(.i .i64 y1)]))), (1, (.o (.box [(.i .i64 y2), (.s y3), (.sh 60 y4)])))]))) (fun y0 y1 y2 y3 y4 => (K (.exit 0) (tabl [(2, (.v (.v false [(.bp 0 0)]))), (4, (.v (.v false [(.b y0)]))), (6, (.v (.v false [(.i .i64 y1)]))), (1, (.o (.box [(.i .i64 y2), (.s y3), (.sh 60 y4)])))]))) x0 x1 x2 x3 x4 := by intro g; kernel_rfl
    refine (h _).trans ?_
    show Pu.spec_StreamOk.r2 N (fun x0 x1 x2 x3 x4 => (iter (exc E53 (it53 N) (loopOf Try.f53 2)) (canon (E53.keep 2))  n (tabl [(2, (.v (.v false [(.bp 0 0)]))), (4, (.v (.v false [(.b x0)]))), (6, (.v (.v false [(.i .i64 x1)]))), (1, (.o (.box [(.i .i64 x2), (.s x3), (.sh 60 x4)])))]) K)) (fun y0 y1 y2 y3 y4 => (K .ret (tabl [(2, (.v (.v false [(.bp 0 0)]))), (4, (.v (.v false [(.b y0)]))), (6, (.v (.v false [(.i .i64 y1)]))), (1, (.o (.box [(.i .i64 y2), (.s y3), (.sh 60 y4)])))]))) (fun y0 y1 y2 y3 y4 => (K (.exit 0) (tabl [(2, (.v (.v false [(.bp 0 0)]))), (4, (.v (.v false [(.b y0)]))), (6, (.v (.v false [(.i .i64 y1)]))), (1, (.o (.box [(.i .i64 y2), (.s y3), (.sh 60 y4)])))]))) x0 x1 x2 x3 x4 = _
    rw [e0]; rfl
theorem lo53_2 {R : Type} (N : Nat) : LoopOk E53 (it53 N (R := R)) (loopOf Try.f53 2) := by
  have e : firstRid (loopOf Try.f53 2) = 2 := by kernel_rfl
  intro L K r
  rw [e]
  intro h
  unfold it53 at h
  simp only [show Nat.beq 2 2 = true from rfl, cond_false, cond_true] at h
  refine tell_ok (Q := fun L => ∃ n, iter (exc E53 (it53 N) (loopOf Try.f53 2)) (canon (E53.keep 2)) n (tabl L) K = some r) h (fun xs h => ?_) (fun h => ?_)
  · (try dsimp only at h)
    split at h
    · exact ⟨N, ((e53_2 N K N) _ _ _ _ _).trans h⟩
    · cases h
  cases h
def sp53 : List Arg → Option (Bool × Res)
  | [(.v true [(.i .i64 s0_0), (.s s0_1), (.sh 60 s0_2)])] => some (true, ⟨[(.v false [(.b (Pu.spec_StreamOk.v s0_0 s0_1 s0_2))])], []⟩)
  | _ => none
theorem ok53 : FnOk Try.prog T 53 sp53 := by
  refine fn_ok (E := E53) hE (call_cons ok95 call_nil) hM Try.func53 (code := (Try.f53.body.getD .skip)) (by kernel_rfl) (by kernel_rfl) ?_
  have key : ∀ (s0_0 : Int) (s0_1 : ByteArray) (s0_2 : Row), okS s0_1 → FitR s0_2 → ∃ it : It Res, (∀ c ∈ loopsOf (Try.f53.body.getD .skip), LoopOk E53 it c) ∧ body E53 it Try.f53 [(.v true [(.i .i64 s0_0), (.s s0_1), (.sh 60 s0_2)])] = some ⟨[(.v false [(.b (Pu.spec_StreamOk.v s0_0 s0_1 s0_2))])], []⟩ := by
    intro s0_0 s0_1 s0_2  g1 g2
    obtain ⟨N, hN⟩ := Pu.spec_StreamOk.b_eq (R := Res) (fun r0 => some ⟨[(.v false [(.b r0)])], []⟩) s0_0 s0_1 s0_2 g1 g2
    have hl : loopsOf (Try.f53.body.getD .skip) = [loopOf Try.f53 2] := by kernel_rfl
    refine ⟨it53 N, by rw [hl]; exact (loops_cons (lo53_2 N) loops_nil), ?_⟩
    refine Eq.trans (show body E53 (it53 N) Try.f53 [(.v true [(.i .i64 s0_0), (.s s0_1), (.sh 60 s0_2)])] = Pu.spec_StreamOk.b N (fun r0 => some ⟨[(.v false [(.b r0)])], []⟩) s0_0 s0_1 s0_2 by kernel_rfl) hN
  intro args r h
  unfold sp53 at h
  split at h
  · injection h with h
    injection h with h1 h2
    subst h2
    exact ⟨by kernel_rfl, fun hf => ⟨of_decide_eq_true (by kernel_rfl), key _ _ _ hf.1.2.1 hf.1.2.2.1⟩⟩
  · cases h

end Go.FG.Se

namespace Go.FG.Se
open Go.Proofs
def E123 : Env := { toTab := T, call := Go.FG.callIn [], mode := Go.FG.modeIn md, keep := Go.FG.keepIn [(2, [1, 2, 4, 5])], tk := fun n => Go.FG.memB n [], om := Go.FG.omIn [] }
def it123 (N : Nat) {R : Type} : It R := fun rid f cn L K => bif Nat.beq rid 2 then (tell [(2, (.v (.v false [(.i .i64 0)]))), (4, (.v (.v false [(.bp 0 0)]))), (8, (.v (.v false [(.i .i64 0)]))), (10, (.v (.v false [(.i .i64 0)]))), (1, (.o (.box [(.i .i64 0), (.s ⟨#[]⟩), (.sh 60 [])])))] (fun | [.I x0, .I x1, .I x2, .I x3, .S x4, .R x5] => Pu.spec_l14At.l2 N (fun y0 y1 y2 y3 y4 y5 => (K .ret (tabl [(2, (.v (.v false [(.i .i64 y0)]))), (4, (.v (.v false [(.bp 0 0)]))), (8, (.v (.v false [(.i .i64 y1)]))), (10, (.v (.v false [(.i .i64 y2)]))), (1, (.o (.box [(.i .i64 y3), (.s y4), (.sh 60 y5)])))]))) (fun y0 y1 y2 y3 y4 y5 => (K (.exit 0) (tabl [(2, (.v (.v false [(.i .i64 y0)]))), (4, (.v (.v false [(.bp 0 0)]))), (8, (.v (.v false [(.i .i64 y1)]))), (10, (.v (.v false [(.i .i64 y2)]))), (1, (.o (.box [(.i .i64 y3), (.s y4), (.sh 60 y5)])))]))) N x0 x1 x2 x3 x4 x5 | _ => none) L (none)) else none
theorem e123_2 {R : Type} (N : Nat) (K : Ex → St → Option R) : ∀ n : Nat, (∀ x0 x1 x2 x3 x4 x5, iter (exc E123 (it123 N) (loopOf Try.f123 2)) (canon (E123.keep 2))  n (tabl [(2, (.v (.v false [(.i .i64 x0)]))), (4, (.v (.v false [(.bp 0 0)]))), (8, (.v (.v false [(.i .i64 x1)]))), (10, (.v (.v false [(.i .i64 x2)]))), (1, (.o (.box [(.i .i64 x3), (.s x4), (.sh 60 x5)])))]) K = Pu.spec_l14At.l2 N (fun y0 y1 y2 y3 y4 y5 => (K .ret (tabl [(2, (.v (.v false [(.i .i64 y0)]))), (4, (.v (.v false [(.bp 0 0)]))), (8, (.v (.v false [(.i .i64 y1)]))), (10, (.v (.v false [(.i .i64 y2)]))), (1, (.o (.box [(.i .i64 y3), (.s y4), (.sh 60 y5)])))]))) (fun y0 y1 y2 y3 y4 y5 => (K (.exit 0) (tabl [(2, (.v (.v false [(.i .i64 y0)]))), (4, (.v (.v false [(.bp 0 0)]))), (8, (.v (.v false [(.i .i64 y1)]))), (10, (.v (.v false [(.i .i64 y2)]))), (1, (.o (.box [(.i .i64 y3), (.s y4), (.sh 60 y5)])))]))) n x0 x1 x2 x3 x4 x5) := by
  intro n
  induction n with
  | zero => exact (fun _ _ _ _ _ _ => rfl)
  | succ n ih =>
    have e0 : (fun x0 x1 x2 x3 x4 x5 => iter (exc E123 (it123 N) (loopOf Try.f123 2)) (canon (E123.keep 2))  n (tabl [(2, (.v (.v false [(.i .i64 x0)]))), (4, (.v (.v false [(.bp 0 0)]))), (8, (.v (.v false [(.i .i64 x1)]))), (10, (.v (.v false [(.i .i64 x2)]))), (1, (.o (.box [(.i .i64 x3), (.s x4), (.sh 60 x5)])))]) K) = Pu.spec_l14At.l2 N (fun y0 y1 y2 y3 y4 y5 => (K .ret (tabl [(2, (.v (.v false [(.i .i64 y0)]))), (4, (.v (.v false [(.bp 0 0)]))), (8, (.v (.v false [(.i .i64 y1)]))), (10, (.v (.v false [(.i .i64 y2)]))), (1, (.o (.box [(.i .i64 y3), (.s y4), (.sh 60 y5)])))]))) (fun y0 y1 y2 y3 y4 y5 => (K (.exit 0) (tabl [(2, (.v (.v false [(.i .i64 y0)]))), (4, (.v (.v false [(.bp 0 0)]))), (8, (.v (.v false [(.i .i64 y1)]))), (10, (.v (.v false [(.i .i64 y2)]))), (1, (.o (.box [(.i .i64 y3), (.s y4), (.sh 60 y5)])))]))) n := by funext x0 x1 x2 x3 x4 x5; exact ih x0 x1 x2 x3 x4 x5
    intro x0 x1 x2 x3 x4 x5
    have h : ∀ g, exc E123 (it123 N) (loopOf Try.f123 2) (tabl [(2, (.v (.v false [(.i .i64 x0)]))), (4, (.v (.v false [(.bp 0 0)]))), (8, (.v (.v false [(.i .i64 x1)]))), (10, (.v (.v false [(.i .i64 x2)]))), (1, (.o (.box [(.i .i64 x3), (.s x4), (.sh 60 x5)])))]) (iterK g (canon (E123.keep 2)) K) = Pu.spec_l14At.r2 N (fun x0 x1 x2 x3 x4 x5 => (g (tabl [(2, (.v (.v false [(.i .i64 x0)]))), (4, (.v (.v false [(.bp 0 0)]))), (8, (.v (.v false [(.i .i64 x1)]))), (10, (.v (.v false [(.i .i64 x2)]))), (1, (.o (.box [(.i .i64 x3), (.s x4), (.sh 60 x5)])))]))) (fun y0 y1 y2 y3 y4 y5 => (K .ret (tabl [(2, (.v (.v false [(.i .i64 y0)]))), (4, (.v (.v false [(.bp 0 0)]))), (8, (.v (.v false [(.i .i64 y1)]))), (10, (.v (.v false [(.i .i64 y2)]))), (1, (.o (.box [(.i .i64 y3), (.s y4), (.sh 60 y5)])))]))) (fun y0 y1 y2 y3 y4 y5 => (K (.exit 0) (tabl [(2, (.v (.v false [(.i .i64 y0)]))), (4, (.v (.v false [(.bp 0 0)]))), (8, (.v (.v false [(.i .i64 y1)]))), (10, (.v (.v false [(.i .i64 y2)]))), (1, (.o (.box [(.i .i64 y3), (.s y4), (.sh 60 y5)])))]))) x0 x1 x2 x3 x4 x5 := by intro g; kernel_rfl
    refine (h _).trans ?_
    show Pu.spec_l14At.r2 N (fun x0 x1 x2 x3 x4 x5 => (iter (exc E123 (it123 N) (loopOf Try.f123 2)) (canon (E123.keep 2))  n (tabl [(2, (.v (.v false [(.i .i64 x0)]))), (4, (.v (.v false [(.bp 0 0)]))), (8, (.v (.v false [(.i .i64 x1)]))), (10, (.v (.v false [(.i .i64 x2)]))), (1, (.o (.box [(.i .i64 x3), (.s x4), (.sh 60 x5)])))]) K)) (fun y0 y1 y2 y3 y4 y5 => (K .ret (tabl [(2, (.v (.v false [(.i .i64 y0)]))), (4, (.v (.v false [(.bp 0 0)]))), (8, (.v (.v false [(.i .i64 y1)]))), (10, (.v (.v false [(.i .i64 y2)]))), (1, (.o (.box [(.i .i64 y3), (.s y4), (.sh 60 y5)])))]))) (fun y0 y1 y2 y3 y4 y5 => (K (.exit 0) (tabl [(2, (.v (.v false [(.i .i64 y0)]))), (4, (.v (.v false [(.bp 0 0)]))), (8, (.v (.v false [(.i .i64 y1)]))), (10, (.v (.v false [(.i .i64 y2)]))), (1, (.o (.box [(.i .i64 y3), (.s y4), (.sh 60 y5)])))]))) x0 x1 x2 x3 x4 x5 = _
    rw [e0]; rfl
theorem lo123_2 {R : Type} (N : Nat) : LoopOk E123 (it123 N (R := R)) (loopOf Try.f123 2) := by
  have e : firstRid (loopOf Try.f123 2) = 2 := by kernel_rfl
  intro L K r
  rw [e]
  intro h
  unfold it123 at h
  simp only [show Nat.beq 2 2 = true from rfl, cond_false, cond_true] at h
  refine tell_ok (Q := fun L => ∃ n, iter (exc E123 (it123 N) (loopOf Try.f123 2)) (canon (E123.keep 2)) n (tabl L) K = some r) h (fun xs h => ?_) (fun h => ?_)
  · (try dsimp only at h)
    split at h
    · exact ⟨N, ((e123_2 N K N) _ _ _ _ _ _).trans h⟩
    · cases h
  cases h
def sp123 : List Arg → Option (Bool × Res)
  | [(.v true [(.i .i64 s0_0), (.s s0_1), (.sh 60 s0_2)]), (.v false [(.i .i64 id1)])] => some (true, ⟨[(.v false [(.i .i64 (Pu.spec_l14At.v s0_0 s0_1 s0_2 id1))])], []⟩)
  | _ => none
theorem ok123 : FnOk Try.prog T 123 sp123 := by
  refine fn_ok (E := E123) hE call_nil hM Try.func123 (code := (Try.f123.body.getD .skip)) (by kernel_rfl) (by kernel_rfl) ?_
  have key : ∀ (s0_0 : Int) (s0_1 : ByteArray) (s0_2 : Row) (id1 : Int), okS s0_1 → FitR s0_2 → ∃ it : It Res, (∀ c ∈ loopsOf (Try.f123.body.getD .skip), LoopOk E123 it c) ∧ body E123 it Try.f123 [(.v true [(.i .i64 s0_0), (.s s0_1), (.sh 60 s0_2)]), (.v false [(.i .i64 id1)])] = some ⟨[(.v false [(.i .i64 (Pu.spec_l14At.v s0_0 s0_1 s0_2 id1))])], []⟩ := by
    intro s0_0 s0_1 s0_2 id1  g1 g2
    obtain ⟨N, hN⟩ := Pu.spec_l14At.b_eq (R := Res) (fun r0 => some ⟨[(.v false [(.i .i64 r0)])], []⟩) s0_0 s0_1 s0_2 id1 g1 g2
    have hl : loopsOf (Try.f123.body.getD .skip) = [loopOf Try.f123 2] := by kernel_rfl
    refine ⟨it123 N, by rw [hl]; exact (loops_cons (lo123_2 N) loops_nil), ?_⟩
    refine Eq.trans (show body E123 (it123 N) Try.f123 [(.v true [(.i .i64 s0_0), (.s s0_1), (.sh 60 s0_2)]), (.v false [(.i .i64 id1)])] = Pu.spec_l14At.b N (fun r0 => some ⟨[(.v false [(.i .i64 r0)])], []⟩) s0_0 s0_1 s0_2 id1 by kernel_rfl) hN
  intro args r h
  unfold sp123 at h
  split at h
  · injection h with h
    injection h with h1 h2
    subst h2
    exact ⟨by kernel_rfl, fun hf => ⟨of_decide_eq_true (by kernel_rfl), key _ _ _ _ hf.1.2.1 hf.1.2.2.1⟩⟩
  · cases h

end Go.FG.Se

namespace Go.FG.Se
open Go.Proofs
def E49 : Env := { toTab := T, call := Go.FG.callIn [(121, sp121), (53, sp53), (123, sp123)], mode := Go.FG.modeIn md, keep := Go.FG.keepIn [(4, [1, 2, 4, 6, 7, 8]), (10, [1, 2, 4, 6, 7, 9])], tk := fun n => Go.FG.memB n [], om := Go.FG.omIn [] }
def it49 (N : Nat) {R : Type} : It R := fun rid f cn L K => bif Nat.beq rid 4 then (tell [(2, (.v (.v false [(.i .i64 0)]))), (4, (.v (.v false [(.bp 0 0)]))), (8, (.v (.v false [(.bp 1 0)]))), (12, (.v (.v false [(.bp 2 0)]))), (14, (.v (.v false [(.own 3)]))), (16, (.v (.v false [(.i .i64 0)]))), (1, (.o (.box [(.i .i64 0), (.s ⟨#[]⟩), (.sh 60 [])]))), (3, (.o (.box [(.i .i64 0), (.s ⟨#[]⟩), .nl]))), (5, (.o (.box [(.i .i64 0), (.s ⟨#[]⟩), (.own 4)]))), (7, (.o (.row 60 true []))), (9, (.o (.row 60 true [])))] (fun | [.I x0, .I x1, .I x2, .S x3, .R x4, .I x5, .S x6, .I x7, .S x8, .R x9, .R x10] => Pu.spec_StreamJoin.l4 N (fun y0 y1 y2 y3 y4 y5 y6 y7 y8 y9 y10 => (K (.exit 0) (tabl [(2, (.v (.v false [(.i .i64 y0)]))), (4, (.v (.v false [(.bp 0 0)]))), (8, (.v (.v false [(.bp 1 0)]))), (12, (.v (.v false [(.bp 2 0)]))), (14, (.v (.v false [(.own 3)]))), (16, (.v (.v false [(.i .i64 y1)]))), (1, (.o (.box [(.i .i64 y2), (.s y3), (.sh 60 y4)]))), (3, (.o (.box [(.i .i64 y5), (.s y6), .nl]))), (5, (.o (.box [(.i .i64 y7), (.s y8), (.own 4)]))), (7, (.o (.row 60 true y9))), (9, (.o (.row 60 true y10)))]))) N x0 x1 x2 x3 x4 x5 x6 x7 x8 x9 x10 | _ => none) L (none)) else bif Nat.beq rid 10 then (tell [(2, (.v (.v false [(.i .i64 0)]))), (4, (.v (.v false [(.bp 0 0)]))), (8, (.v (.v false [(.bp 1 0)]))), (12, (.v (.v false [(.bp 2 0)]))), (14, (.v (.v false [(.own 3)]))), (18, (.v (.v false [(.i .i64 0)]))), (1, (.o (.box [(.i .i64 0), (.s ⟨#[]⟩), (.sh 60 [])]))), (3, (.o (.box [(.i .i64 0), (.s ⟨#[]⟩), .nl]))), (5, (.o (.box [(.i .i64 0), (.s ⟨#[]⟩), (.own 4)]))), (7, (.o (.row 60 true []))), (9, (.o (.row 60 true [])))] (fun | [.I x22, .I x23, .I x24, .S x25, .R x26, .I x27, .S x28, .I x29, .S x30, .R x31, .R x32] => Pu.spec_StreamJoin.l10 N (fun y0 y1 y2 y3 y4 y5 y6 y7 y8 y9 y10 => (K (.exit 2) (tabl [(2, (.v (.v false [(.i .i64 y0)]))), (4, (.v (.v false [(.bp 0 0)]))), (8, (.v (.v false [(.bp 1 0)]))), (12, (.v (.v false [(.bp 2 0)]))), (14, (.v (.v false [(.own 3)]))), (18, (.v (.v false [(.i .i64 y1)]))), (1, (.o (.box [(.i .i64 y2), (.s y3), (.sh 60 y4)]))), (3, (.o (.box [(.i .i64 y5), (.s y6), .nl]))), (5, (.o (.box [(.i .i64 y7), (.s y8), (.own 4)]))), (7, (.o (.row 60 true y9))), (9, (.o (.row 60 true y10)))]))) N x22 x23 x24 x25 x26 x27 x28 x29 x30 x31 x32 | _ => none) L (none)) else none
theorem e49_4 {R : Type} (N : Nat) (K : Ex → St → Option R) : ∀ n : Nat, (∀ x0 x1 x2 x3 x4 x5 x6 x7 x8 x9 x10, iter (exc E49 (it49 N) (loopOf Try.f49 4)) (canon (E49.keep 4))  n (tabl [(2, (.v (.v false [(.i .i64 x0)]))), (4, (.v (.v false [(.bp 0 0)]))), (8, (.v (.v false [(.bp 1 0)]))), (12, (.v (.v false [(.bp 2 0)]))), (14, (.v (.v false [(.own 3)]))), (16, (.v (.v false [(.i .i64 x1)]))), (1, (.o (.box [(.i .i64 x2), (.s x3), (.sh 60 x4)]))), (3, (.o (.box [(.i .i64 x5), (.s x6), .nl]))), (5, (.o (.box [(.i .i64 x7), (.s x8), (.own 4)]))), (7, (.o (.row 60 true x9))), (9, (.o (.row 60 true x10)))]) K = Pu.spec_StreamJoin.l4 N (fun y0 y1 y2 y3 y4 y5 y6 y7 y8 y9 y10 => (K (.exit 0) (tabl [(2, (.v (.v false [(.i .i64 y0)]))), (4, (.v (.v false [(.bp 0 0)]))), (8, (.v (.v false [(.bp 1 0)]))), (12, (.v (.v false [(.bp 2 0)]))), (14, (.v (.v false [(.own 3)]))), (16, (.v (.v false [(.i .i64 y1)]))), (1, (.o (.box [(.i .i64 y2), (.s y3), (.sh 60 y4)]))), (3, (.o (.box [(.i .i64 y5), (.s y6), .nl]))), (5, (.o (.box [(.i .i64 y7), (.s y8), (.own 4)]))), (7, (.o (.row 60 true y9))), (9, (.o (.row 60 true y10)))]))) n x0 x1 x2 x3 x4 x5 x6 x7 x8 x9 x10) := by
  intro n
  induction n with
  | zero => exact (fun _ _ _ _ _ _ _ _ _ _ _ => rfl)
  | succ n ih =>
    have e0 : (fun x0 x1 x2 x3 x4 x5 x6 x7 x8 x9 x10 => iter (exc E49 (it49 N) (loopOf Try.f49 4)) (canon (E49.keep 4))  n (tabl [(2, (.v (.v false [(.i .i64 x0)]))), (4, (.v (.v false [(.bp 0 0)]))), (8, (.v (.v false [(.bp 1 0)]))), (12, (.v (.v false [(.bp 2 0)]))), (14, (.v (.v false [(.own 3)]))), (16, (.v (.v false [(.i .i64 x1)]))), (1, (.o (.box [(.i .i64 x2), (.s x3), (.sh 60 x4)]))), (3, (.o (.box [(.i .i64 x5), (.s x6), .nl]))), (5, (.o (.box [(.i .i64 x7), (.s x8), (.own 4)]))), (7, (.o (.row 60 true x9))), (9, (.o (.row 60 true x10)))]) K) = Pu.spec_StreamJoin.l4 N (fun y0 y1 y2 y3 y4 y5 y6 y7 y8 y9 y10 => (K (.exit 0) (tabl [(2, (.v (.v false [(.i .i64 y0)]))), (4, (.v (.v false [(.bp 0 0)]))), (8, (.v (.v false [(.bp 1 0)]))), (12, (.v (.v false [(.bp 2 0)]))), (14, (.v (.v false [(.own 3)]))), (16, (.v (.v false [(.i .i64 y1)]))), (1, (.o (.box [(.i .i64 y2), (.s y3), (.sh 60 y4)]))), (3, (.o (.box [(.i .i64 y5), (.s y6), .nl]))), (5, (.o (.box [(.i .i64 y7), (.s y8), (.own 4)]))), (7, (.o (.row 60 true y9))), (9, (.o (.row 60 true y10)))]))) n := by funext x0 x1 x2 x3 x4 x5 x6 x7 x8 x9 x10; exact ih x0 x1 x2 x3 x4 x5 x6 x7 x8 x9 x10
    intro x0 x1 x2 x3 x4 x5 x6 x7 x8 x9 x10
    have h : ∀ g, exc E49 (it49 N) (loopOf Try.f49 4) (tabl [(2, (.v (.v false [(.i .i64 x0)]))), (4, (.v (.v false [(.bp 0 0)]))), (8, (.v (.v false [(.bp 1 0)]))), (12, (.v (.v false [(.bp 2 0)]))), (14, (.v (.v false [(.own 3)]))), (16, (.v (.v false [(.i .i64 x1)]))), (1, (.o (.box [(.i .i64 x2), (.s x3), (.sh 60 x4)]))), (3, (.o (.box [(.i .i64 x5), (.s x6), .nl]))), (5, (.o (.box [(.i .i64 x7), (.s x8), (.own 4)]))), (7, (.o (.row 60 true x9))), (9, (.o (.row 60 true x10)))]) (iterK g (canon (E49.keep 4)) K) = Pu.spec_StreamJoin.r4 N (fun x0 x1 x2 x3 x4 x5 x6 x7 x8 x9 x10 => (g (tabl [(2, (.v (.v false [(.i .i64 x0)]))), (4, (.v (.v false [(.bp 0 0)]))), (8, (.v (.v false [(.bp 1 0)]))), (12, (.v (.v false [(.bp 2 0)]))), (14, (.v (.v false [(.own 3)]))), (16, (.v (.v false [(.i .i64 x1)]))), (1, (.o (.box [(.i .i64 x2), (.s x3), (.sh 60 x4)]))), (3, (.o (.box [(.i .i64 x5), (.s x6), .nl]))), (5, (.o (.box [(.i .i64 x7), (.s x8), (.own 4)]))), (7, (.o (.row 60 true x9))), (9, (.o (.row 60 true x10)))]))) (fun y0 y1 y2 y3 y4 y5 y6 y7 y8 y9 y10 => (K (.exit 0) (tabl [(2, (.v (.v false [(.i .i64 y0)]))), (4, (.v (.v false [(.bp 0 0)]))), (8, (.v (.v false [(.bp 1 0)]))), (12, (.v (.v false [(.bp 2 0)]))), (14, (.v (.v false [(.own 3)]))), (16, (.v (.v false [(.i .i64 y1)]))), (1, (.o (.box [(.i .i64 y2), (.s y3), (.sh 60 y4)]))), (3, (.o (.box [(.i .i64 y5), (.s y6), .nl]))), (5, (.o (.box [(.i .i64 y7), (.s y8), (.own 4)]))), (7, (.o (.row 60 true y9))), (9, (.o (.row 60 true y10)))]))) x0 x1 x2 x3 x4 x5 x6 x7 x8 x9 x10 := by intro g; kernel_rfl
    refine (h _).trans ?_
    show Pu.spec_StreamJoin.r4 N (fun x0 x1 x2 x3 x4 x5 x6 x7 x8 x9 x10 => (iter (exc E49 (it49 N) (loopOf Try.f49 4)) (canon (E49.keep 4))  n (tabl [(2, (.v (.v false [(.i .i64 x0)]))), (4, (.v (.v false [(.bp 0 0)]))), (8, (.v (.v false [(.bp 1 0)]))), (12, (.v (.v false [(.bp 2 0)]))), (14, (.v (.v false [(.own 3)]))), (16, (.v (.v false [(.i .i64 x1)]))), (1, (.o (.box [(.i .i64 x2), (.s x3), (.sh 60 x4)]))), (3, (.o (.box [(.i .i64 x5), (.s x6), .nl]))), (5, (.o (.box [(.i .i64 x7), (.s x8), (.own 4)]))), (7, (.o (.row 60 true x9))), (9, (.o (.row 60 true x10)))]) K)) (fun y0 y1 y2 y3 y4 y5 y6 y7 y8 y9 y10 => (K (.exit 0) (tabl [(2, (.v (.v false [(.i .i64 y0)]))), (4, (.v (.v false [(.bp 0 0)]))), (8, (.v (.v false [(.bp 1 0)]))), (12, (.v (.v false [(.bp 2 0)]))), (14, (.v (.v false [(.own 3)]))), (16, (.v (.v false [(.i .i64 y1)]))), (1, (.o (.box [(.i .i64 y2), (.s y3), (.sh 60 y4)]))), (3, (.o (.box [(.i .i64 y5), (.s y6), .nl]))), (5, (.o (.box [(.i .i64 y7), (.s y8), (.own 4)]))), (7, (.o (.row 60 true y9))), (9, (.o (.row 60 true y10)))]))) x0 x1 x2 x3 x4 x5 x6 x7 x8 x9 x10 = _
    rw [e0]; rfl
theorem lo49_4 {R : Type} (N : Nat) : LoopOk E49 (it49 N (R := R)) (loopOf Try.f49 4) := by
  have e : firstRid (loopOf Try.f49 4) = 4 := by kernel_rfl
  intro L K r
  rw [e]
  intro h
  unfold it49 at h
  simp only [show Nat.beq 4 4 = true from rfl, cond_false, cond_true] at h
  refine tell_ok (Q := fun L => ∃ n, iter (exc E49 (it49 N) (loopOf Try.f49 4)) (canon (E49.keep 4)) n (tabl L) K = some r) h (fun xs h => ?_) (fun h => ?_)
  · (try dsimp only at h)
    split at h
    · exact ⟨N, ((e49_4 N K N) _ _ _ _ _ _ _ _ _ _ _).trans h⟩
    · cases h
  cases h
theorem e49_10 {R : Type} (N : Nat) (K : Ex → St → Option R) : ∀ n : Nat, (∀ x22 x23 x24 x25 x26 x27 x28 x29 x30 x31 x32, iter (exc E49 (it49 N) (loopOf Try.f49 10)) (canon (E49.keep 10))  n (tabl [(2, (.v (.v false [(.i .i64 x22)]))), (4, (.v (.v false [(.bp 0 0)]))), (8, (.v (.v false [(.bp 1 0)]))), (12, (.v (.v false [(.bp 2 0)]))), (14, (.v (.v false [(.own 3)]))), (18, (.v (.v false [(.i .i64 x23)]))), (1, (.o (.box [(.i .i64 x24), (.s x25), (.sh 60 x26)]))), (3, (.o (.box [(.i .i64 x27), (.s x28), .nl]))), (5, (.o (.box [(.i .i64 x29), (.s x30), (.own 4)]))), (7, (.o (.row 60 true x31))), (9, (.o (.row 60 true x32)))]) K = Pu.spec_StreamJoin.l10 N (fun y0 y1 y2 y3 y4 y5 y6 y7 y8 y9 y10 => (K (.exit 2) (tabl [(2, (.v (.v false [(.i .i64 y0)]))), (4, (.v (.v false [(.bp 0 0)]))), (8, (.v (.v false [(.bp 1 0)]))), (12, (.v (.v false [(.bp 2 0)]))), (14, (.v (.v false [(.own 3)]))), (18, (.v (.v false [(.i .i64 y1)]))), (1, (.o (.box [(.i .i64 y2), (.s y3), (.sh 60 y4)]))), (3, (.o (.box [(.i .i64 y5), (.s y6), .nl]))), (5, (.o (.box [(.i .i64 y7), (.s y8), (.own 4)]))), (7, (.o (.row 60 true y9))), (9, (.o (.row 60 true y10)))]))) n x22 x23 x24 x25 x26 x27 x28 x29 x30 x31 x32) := by
  intro n
  induction n with
  | zero => exact (fun _ _ _ _ _ _ _ _ _ _ _ => rfl)
  | succ n ih =>
    have e0 : (fun x22 x23 x24 x25 x26 x27 x28 x29 x30 x31 x32 => iter (exc E49 (it49 N) (loopOf Try.f49 10)) (canon (E49.keep 10))  n (tabl [(2, (.v (.v false [(.i .i64 x22)]))), (4, (.v (.v false [(.bp 0 0)]))), (8, (.v (.v false [(.bp 1 0)]))), (12, (.v (.v false [(.bp 2 0)]))), (14, (.v (.v false [(.own 3)]))), (18, (.v (.v false [(.i .i64 x23)]))), (1, (.o (.box [(.i .i64 x24), (.s x25), (.sh 60 x26)]))), (3, (.o (.box [(.i .i64 x27), (.s x28), .nl]))), (5, (.o (.box [(.i .i64 x29), (.s x30), (.own 4)]))), (7, (.o (.row 60 true x31))), (9, (.o (.row 60 true x32)))]) K) = Pu.spec_StreamJoin.l10 N (fun y0 y1 y2 y3 y4 y5 y6 y7 y8 y9 y10 => (K (.exit 2) (tabl [(2, (.v (.v false [(.i .i64 y0)]))), (4, (.v (.v false [(.bp 0 0)]))), (8, (.v (.v false [(.bp 1 0)]))), (12, (.v (.v false [(.bp 2 0)]))), (14, (.v (.v false [(.own 3)]))), (18, (.v (.v false [(.i .i64 y1)]))), (1, (.o (.box [(.i .i64 y2), (.s y3), (.sh 60 y4)]))), (3, (.o (.box [(.i .i64 y5), (.s y6), .nl]))), (5, (.o (.box [(.i .i64 y7), (.s y8), (.own 4)]))), (7, (.o (.row 60 true y9))), (9, (.o (.row 60 true y10)))]))) n := by funext x22 x23 x24 x25 x26 x27 x28 x29 x30 x31 x32; exact ih x22 x23 x24 x25 x26 x27 x28 x29 x30 x31 x32
    intro x22 x23 x24 x25 x26 x27 x28 x29 x30 x31 x32
    have h : ∀ g, exc E49 (it49 N) (loopOf Try.f49 10) (tabl [(2, (.v (.v false [(.i .i64 x22)]))), (4, (.v (.v false [(.bp 0 0)]))), (8, (.v (.v false [(.bp 1 0)]))), (12, (.v (.v false [(.bp 2 0)]))), (14, (.v (.v false [(.own 3)]))), (18, (.v (.v false [(.i .i64 x23)]))), (1, (.o (.box [(.i .i64 x24), (.s x25), (.sh 60 x26)]))), (3, (.o (.box [(.i .i64 x27), (.s x28), .nl]))), (5, (.o (.box [(.i .i64 x29), (.s x30), (.own 4)]))), (7, (.o (.row 60 true x31))), (9, (.o (.row 60 true x32)))]) (iterK g (canon (E49.keep 10)) K) = Pu.spec_StreamJoin.r10 N (fun x22 x23 x24 x25 x26 x27 x28 x29 x30 x31 x32 => (g (tabl [(2, (.v (.v false [(.i .i64 x22)]))), (4, (.v (.v false [(.bp 0 0)]))), (8, (.v (.v false [(.bp 1 0)]))), (12, (.v (.v false [(.bp 2 0)]))), (14, (.v (.v false [(.own 3)]))), (18, (.v (.v false [(.i .i64 x23)]))), (1, (.o (.box [(.i .i64 x24), (.s x25), (.sh 60 x26)]))), (3, (.o (.box [(.i .i64 x27), (.s x28), .nl]))), (5, (.o (.box [(.i .i64 x29), (.s x30), (.own 4)]))), (7, (.o (.row 60 true x31))), (9, (.o (.row 60 true x32)))]))) (fun y0 y1 y2 y3 y4 y5 y6 y7 y8 y9 y10 => (K (.exit 2) (tabl [(2, (.v (.v false [(.i .i64 y0)]))), (4, (.v (.v false [(.bp 0 0)]))), (8, (.v (.v false [(.bp 1 0)]))), (12, (.v (.v false [(.bp 2 0)]))), (14, (.v (.v false [(.own 3)]))), (18, (.v (.v false [(.i .i64 y1)]))), (1, (.o (.box [(.i .i64 y2), (.s y3), (.sh 60 y4)]))), (3, (.o (.box [(.i .i64 y5), (.s y6), .nl]))), (5, (.o (.box [(.i .i64 y7), (.s y8), (.own 4)]))), (7, (.o (.row 60 true y9))), (9, (.o (.row 60 true y10)))]))) x22 x23 x24 x25 x26 x27 x28 x29 x30 x31 x32 := by intro g; kernel_rfl
    refine (h _).trans ?_
    show Pu.spec_StreamJoin.r10 N (fun x22 x23 x24 x25 x26 x27 x28 x29 x30 x31 x32 => (iter (exc E49 (it49 N) (loopOf Try.f49 10)) (canon (E49.keep 10))  n (tabl [(2, (.v (.v false [(.i .i64 x22)]))), (4, (.v (.v false [(.bp 0 0)]))), (8, (.v (.v false [(.bp 1 0)]))), (12, (.v (.v false [(.bp 2 0)]))), (14, (.v (.v false [(.own 3)]))), (18, (.v (.v false [(.i .i64 x23)]))), (1, (.o (.box [(.i .i64 x24), (.s x25), (.sh 60 x26)]))), (3, (.o (.box [(.i .i64 x27), (.s x28), .nl]))), (5, (.o (.box [(.i .i64 x29), (.s x30), (.own 4)]))), (7, (.o (.row 60 true x31))), (9, (.o (.row 60 true x32)))]) K)) (fun y0 y1 y2 y3 y4 y5 y6 y7 y8 y9 y10 => (K (.exit 2) (tabl [(2, (.v (.v false [(.i .i64 y0)]))), (4, (.v (.v false [(.bp 0 0)]))), (8, (.v (.v false [(.bp 1 0)]))), (12, (.v (.v false [(.bp 2 0)]))), (14, (.v (.v false [(.own 3)]))), (18, (.v (.v false [(.i .i64 y1)]))), (1, (.o (.box [(.i .i64 y2), (.s y3), (.sh 60 y4)]))), (3, (.o (.box [(.i .i64 y5), (.s y6), .nl]))), (5, (.o (.box [(.i .i64 y7), (.s y8), (.own 4)]))), (7, (.o (.row 60 true y9))), (9, (.o (.row 60 true y10)))]))) x22 x23 x24 x25 x26 x27 x28 x29 x30 x31 x32 = _
    rw [e0]; rfl
theorem lo49_10 {R : Type} (N : Nat) : LoopOk E49 (it49 N (R := R)) (loopOf Try.f49 10) := by
  have e : firstRid (loopOf Try.f49 10) = 10 := by kernel_rfl
  intro L K r
  rw [e]
  intro h
  unfold it49 at h
  simp only [show Nat.beq 10 4 = false from rfl, show Nat.beq 10 10 = true from rfl, cond_false, cond_true] at h
  refine tell_ok (Q := fun L => ∃ n, iter (exc E49 (it49 N) (loopOf Try.f49 10)) (canon (E49.keep 10)) n (tabl L) K = some r) h (fun xs h => ?_) (fun h => ?_)
  · (try dsimp only at h)
    split at h
    · exact ⟨N, ((e49_10 N K N) _ _ _ _ _ _ _ _ _ _ _).trans h⟩
    · cases h
  cases h
def sp49 : List Arg → Option (Bool × Res)
  | [(.v true [(.i .i64 s0_0), (.s s0_1), (.sh 60 s0_2)]), (.v false [(.i .i64 id1)])] => some (Pu.spec_StreamJoin.c s0_0 s0_1 s0_2 id1, ⟨[(.v true [(.i .i64 ((Pu.spec_StreamJoin.v s0_0 s0_1 s0_2 id1).1)), (.s ((Pu.spec_StreamJoin.v s0_0 s0_1 s0_2 id1).2.1)), (.ow 60 true ((Pu.spec_StreamJoin.v s0_0 s0_1 s0_2 id1).2.2.1))]), (.v false [(.b ((Pu.spec_StreamJoin.v s0_0 s0_1 s0_2 id1).2.2.2))])], []⟩)
  | _ => none
theorem ok49 : FnOk Try.prog T 49 sp49 := by
  refine fn_ok (E := E49) hE (call_cons ok121 (call_cons ok53 (call_cons ok123 call_nil))) hM Try.func49 (code := (Try.f49.body.getD .skip)) (by kernel_rfl) (by kernel_rfl) ?_
  have key : ∀ (s0_0 : Int) (s0_1 : ByteArray) (s0_2 : Row) (id1 : Int), Pu.spec_StreamJoin.c s0_0 s0_1 s0_2 id1 = true → ∃ it : It Res, (∀ c ∈ loopsOf (Try.f49.body.getD .skip), LoopOk E49 it c) ∧ body E49 it Try.f49 [(.v true [(.i .i64 s0_0), (.s s0_1), (.sh 60 s0_2)]), (.v false [(.i .i64 id1)])] = some ⟨[(.v true [(.i .i64 ((Pu.spec_StreamJoin.v s0_0 s0_1 s0_2 id1).1)), (.s ((Pu.spec_StreamJoin.v s0_0 s0_1 s0_2 id1).2.1)), (.ow 60 true ((Pu.spec_StreamJoin.v s0_0 s0_1 s0_2 id1).2.2.1))]), (.v false [(.b ((Pu.spec_StreamJoin.v s0_0 s0_1 s0_2 id1).2.2.2))])], []⟩ := by
    intro s0_0 s0_1 s0_2 id1  h1
    obtain ⟨N, hN⟩ := Pu.spec_StreamJoin.b_eq (R := Res) (fun r0 r1 r2 r3 => some ⟨[(.v true [(.i .i64 r0), (.s r1), (.ow 60 true r2)]), (.v false [(.b r3)])], []⟩) s0_0 s0_1 s0_2 id1 h1
    have hl : loopsOf (Try.f49.body.getD .skip) = [loopOf Try.f49 4, loopOf Try.f49 10] := by kernel_rfl
    refine ⟨it49 N, by rw [hl]; exact (loops_cons (lo49_4 N) (loops_cons (lo49_10 N) loops_nil)), ?_⟩
    refine Eq.trans (show body E49 (it49 N) Try.f49 [(.v true [(.i .i64 s0_0), (.s s0_1), (.sh 60 s0_2)]), (.v false [(.i .i64 id1)])] = Pu.spec_StreamJoin.b N (fun r0 r1 r2 r3 => some ⟨[(.v true [(.i .i64 r0), (.s r1), (.ow 60 true r2)]), (.v false [(.b r3)])], []⟩) s0_0 s0_1 s0_2 id1 by kernel_rfl) hN
  intro args r h
  unfold sp49 at h
  split at h
  · injection h with h
    injection h with h1 h2
    subst h2
    exact ⟨by kernel_rfl, fun hf => ⟨of_decide_eq_true (by kernel_rfl), key _ _ _ _ h1⟩⟩
  · cases h

end Go.FG.Se

namespace Go.FG.Se
open Go.Proofs
def E113 : Env := { toTab := T, call := Go.FG.callIn [], mode := Go.FG.modeIn md, keep := Go.FG.keepIn [], tk := fun n => Go.FG.memB n [], om := Go.FG.omIn [] }
def sp113 : List Arg → Option (Bool × Res)
  | [(.v true [(.i .i64 s0_0), (.s s0_1), (.sh 60 s0_2)])] => some (Pu.impl_copyStream.c s0_0 s0_1 s0_2, ⟨[(.v true [(.i .i64 ((Pu.impl_copyStream.v s0_0 s0_1 s0_2).1)), (.s ((Pu.impl_copyStream.v s0_0 s0_1 s0_2).2.1)), (.ow 60 true ((Pu.impl_copyStream.v s0_0 s0_1 s0_2).2.2))])], []⟩)
  | _ => none
theorem ok113 : FnOk Try.prog T 113 sp113 := by
  refine fn_ok (E := E113) hE call_nil hM Try.func113 (code := (Try.f113.body.getD .skip)) (by kernel_rfl) (by kernel_rfl) ?_
  have key : ∀ (s0_0 : Int) (s0_1 : ByteArray) (s0_2 : Row), Pu.impl_copyStream.c s0_0 s0_1 s0_2 = true → ∃ it : It Res, (∀ c ∈ loopsOf (Try.f113.body.getD .skip), LoopOk E113 it c) ∧ body E113 it Try.f113 [(.v true [(.i .i64 s0_0), (.s s0_1), (.sh 60 s0_2)])] = some ⟨[(.v true [(.i .i64 ((Pu.impl_copyStream.v s0_0 s0_1 s0_2).1)), (.s ((Pu.impl_copyStream.v s0_0 s0_1 s0_2).2.1)), (.ow 60 true ((Pu.impl_copyStream.v s0_0 s0_1 s0_2).2.2))])], []⟩ := by
    intro s0_0 s0_1 s0_2  h1
    have hN := Pu.impl_copyStream.b_eq (R := Res) (fun r0 r1 r2 => some ⟨[(.v true [(.i .i64 r0), (.s r1), (.ow 60 true r2)])], []⟩) s0_0 s0_1 s0_2 h1
    have hl : loopsOf (Try.f113.body.getD .skip) = [] := by kernel_rfl
    refine ⟨iterN 0, by rw [hl]; exact loops_nil, ?_⟩
    refine Eq.trans (show body E113 (iterN 0) Try.f113 [(.v true [(.i .i64 s0_0), (.s s0_1), (.sh 60 s0_2)])] = Pu.impl_copyStream.b (fun r0 r1 r2 => some ⟨[(.v true [(.i .i64 r0), (.s r1), (.ow 60 true r2)])], []⟩) s0_0 s0_1 s0_2 by kernel_rfl) hN
  intro args r h
  unfold sp113 at h
  split at h
  · injection h with h
    injection h with h1 h2
    subst h2
    exact ⟨by kernel_rfl, fun hf => ⟨of_decide_eq_true (by kernel_rfl), key _ _ _ h1⟩⟩
  · cases h

end Go.FG.Se

namespace Go.FG.Se
open Go.Proofs
def rho114 : Go.Shelf.Ren := ⟨fun n => bif Nat.beq n 22 then 114 else bif Nat.beq n 29 then 173 else 174, fun n => bif Nat.beq n 24 then 45 else bif Nat.beq n 9 then 60 else bif Nat.beq n 3 then 3 else bif Nat.beq n 4 then 4 else n, fun n => n⟩
def sp114 : List Arg → Option (Bool × Res) := Ins.insSpec 60 16
theorem ins114 : Ins.L Try.prog rho114 "slices.Insert[[]loop.example/g00245/impl.Reader,loop.example/g00245/impl.Reader]" 2 where
  mixed := hM
  f22 := Try.func114.trans (by kernel_rfl)
  t3 := by kernel_rfl
  a3 := Ins.agg_false (P := Try.prog) (t := 3) (d := .int .i64) (by kernel_rfl) rfl
  t4 := by kernel_rfl
  a4 := Ins.agg_false (P := Try.prog) (t := 4) (d := .bool) (by kernel_rfl) rfl
  t24 := by kernel_rfl
  a24 := Ins.agg_false (P := Try.prog) (t := 45) (d := .slice 60) (by kernel_rfl) rfl
  z9 := Ins.size_of hE (t := 60) (ti := ⟨true, [.i .i64, .i .i64], 16⟩) (by kernel_rfl)
theorem ok114 : FnOk Try.prog T 114 sp114 :=
  Ins.insert_ok (e := 60) (te := ⟨true, [.i .i64, .i .i64], 16⟩) (by kernel_rfl) rfl (by kernel_rfl) hE ins114
    (fun args w => run_callFunc_extern (e := Extern.SlicesOverlaps.overlaps #[45, 45] #[4]) Try.func173 (by kernel_rfl) (by kernel_rfl) (by kernel_rfl) (by kernel_rfl) args w)
    ⟨_, Try.func114, by kernel_rfl, by kernel_rfl⟩

end Go.FG.Se

namespace Go.FG.Se
open Go.Proofs
def E94 : Env := { toTab := T, call := Go.FG.callIn [], mode := Go.FG.modeIn md, keep := Go.FG.keepIn [], tk := fun n => Go.FG.memB n [], om := Go.FG.omIn [] }
def sp94 : List Arg → Option (Bool × Res)
  | [(.v false [(.i .i64 n0)]), (.v false [(.i .i64 low1)]), (.v false [(.i .i64 high2)])] => some (true, ⟨[(.v false [(.b (Pu.impl_within.v n0 low1 high2))])], []⟩)
  | _ => none
theorem ok94 : FnOk Try.prog T 94 sp94 := by
  refine fn_ok (E := E94) hE call_nil hM Try.func94 (code := (Try.f94.body.getD .skip)) (by kernel_rfl) (by kernel_rfl) ?_
  have key : ∀ (n0 : Int) (low1 : Int) (high2 : Int), ∃ it : It Res, (∀ c ∈ loopsOf (Try.f94.body.getD .skip), LoopOk E94 it c) ∧ body E94 it Try.f94 [(.v false [(.i .i64 n0)]), (.v false [(.i .i64 low1)]), (.v false [(.i .i64 high2)])] = some ⟨[(.v false [(.b (Pu.impl_within.v n0 low1 high2))])], []⟩ := by
    intro n0 low1 high2 
    have hN := Pu.impl_within.b_eq (R := Res) (fun r0 => some ⟨[(.v false [(.b r0)])], []⟩) n0 low1 high2
    have hl : loopsOf (Try.f94.body.getD .skip) = [] := by kernel_rfl
    refine ⟨iterN 0, by rw [hl]; exact loops_nil, ?_⟩
    refine Eq.trans (show body E94 (iterN 0) Try.f94 [(.v false [(.i .i64 n0)]), (.v false [(.i .i64 low1)]), (.v false [(.i .i64 high2)])] = Pu.impl_within.b (fun r0 => some ⟨[(.v false [(.b r0)])], []⟩) n0 low1 high2 by kernel_rfl) hN
  intro args r h
  unfold sp94 at h
  split at h
  · injection h with h
    injection h with h1 h2
    subst h2
    exact ⟨by kernel_rfl, fun hf => ⟨of_decide_eq_true (by kernel_rfl), key _ _ _⟩⟩
  · cases h

end Go.FG.Se

namespace Go.FG.Se
open Go.Proofs
def E43 : Env := { toTab := T, call := Go.FG.callIn [(94, sp94)], mode := Go.FG.modeIn md, keep := Go.FG.keepIn [(2, [1, 2, 6, 7, 8])], tk := fun n => Go.FG.memB n [], om := Go.FG.omIn [] }
def it43 (N : Nat) {R : Type} : It R := fun rid f cn L K => bif Nat.beq rid 2 then (tell [(2, (.v (.v false [(.bp 0 0)]))), (4, (.v (.v false [(.b false)]))), (12, (.v (.v false [(.sh 60 [])]))), (14, (.v (.v false [(.i .i64 0)]))), (16, (.v (.v false [(.i .i64 0)]))), (1, (.o (.box [(.i .i64 0), (.s ⟨#[]⟩), (.sh 60 [])])))] (fun | [.B x0, .R x1, .I x2, .I x3, .I x4, .S x5, .R x6] => Pu.impl_StreamOk.l2 N (fun y0 y1 y2 y3 y4 y5 y6 => (K .ret (tabl [(2, (.v (.v false [(.bp 0 0)]))), (4, (.v (.v false [(.b y0)]))), (12, (.v (.v false [(.sh 60 y1)]))), (14, (.v (.v false [(.i .i64 y2)]))), (16, (.v (.v false [(.i .i64 y3)]))), (1, (.o (.box [(.i .i64 y4), (.s y5), (.sh 60 y6)])))]))) (fun y0 y1 y2 y3 y4 y5 y6 => (K (.exit 0) (tabl [(2, (.v (.v false [(.bp 0 0)]))), (4, (.v (.v false [(.b y0)]))), (12, (.v (.v false [(.sh 60 y1)]))), (14, (.v (.v false [(.i .i64 y2)]))), (16, (.v (.v false [(.i .i64 y3)]))), (1, (.o (.box [(.i .i64 y4), (.s y5), (.sh 60 y6)])))]))) N x0 x1 x2 x3 x4 x5 x6 | _ => none) L (none)) else none
theorem e43_2 {R : Type} (N : Nat) (K : Ex → St → Option R) : ∀ n : Nat, (∀ x0 x1 x2 x3 x4 x5 x6, iter (exc E43 (it43 N) (loopOf Try.f43 2)) (canon (E43.keep 2))  n (tabl [(2, (.v (.v false [(.bp 0 0)]))), (4, (.v (.v false [(.b x0)]))), (12, (.v (.v false [(.sh 60 x1)]))), (14, (.v (.v false [(.i .i64 x2)]))), (16, (.v (.v false [(.i .i64 x3)]))), (1, (.o (.box [(.i .i64 x4), (.s x5), (.sh 60 x6)])))]) K = Pu.impl_StreamOk.l2 N (fun y0 y1 y2 y3 y4 y5 y6 => (K .ret (tabl [(2, (.v (.v false [(.bp 0 0)]))), (4, (.v (.v false [(.b y0)]))), (12, (.v (.v false [(.sh 60 y1)]))), (14, (.v (.v false [(.i .i64 y2)]))), (16, (.v (.v false [(.i .i64 y3)]))), (1, (.o (.box [(.i .i64 y4), (.s y5), (.sh 60 y6)])))]))) (fun y0 y1 y2 y3 y4 y5 y6 => (K (.exit 0) (tabl [(2, (.v (.v false [(.bp 0 0)]))), (4, (.v (.v false [(.b y0)]))), (12, (.v (.v false [(.sh 60 y1)]))), (14, (.v (.v false [(.i .i64 y2)]))), (16, (.v (.v false [(.i .i64 y3)]))), (1, (.o (.box [(.i .i64 y4), (.s y5), (.sh 60 y6)])))]))) n x0 x1 x2 x3 x4 x5 x6) := by
  intro n
  induction n with
  | zero => exact (fun _ _ _ _ _ _ _ => rfl)
  | succ n ih =>
    have e0 : (fun x0 x1 x2 x3 x4 x5 x6 => iter (exc E43 (it43 N) (loopOf Try.f43 2)) (canon (E43.keep 2))  n (tabl [(2, (.v (.v false [(.bp 0 0)]))), (4, (.v (.v false [(.b x0)]))), (12, (.v (.v false [(.sh 60 x1)]))), (14, (.v (.v false [(.i .i64 x2)]))), (16, (.v (.v false [(.i .i64 x3)]))), (1, (.o (.box [(.i .i64 x4), (.s x5), (.sh 60 x6)])))]) K) = Pu.impl_StreamOk.l2 N (fun y0 y1 y2 y3 y4 y5 y6 => (K .ret (tabl [(2, (.v (.v false [(.bp 0 0)]))), (4, (.v (.v false [(.b y0)]))), (12, (.v (.v false [(.sh 60 y1)]))), (14, (.v (.v false [(.i .i64 y2)]))), (16, (.v (.v false [(.i .i64 y3)]))), (1, (.o (.box [(.i .i64 y4), (.s y5), (.sh 60 y6)])))]))) (fun y0 y1 y2 y3 y4 y5 y6 => (K (.exit 0) (tabl [(2, (.v (.v false [(.bp 0 0)]))), (4, (.v (.v false [(.b y0)]))), (12, (.v (.v false [(.sh 60 y1)]))), (14, (.v (.v false [(.i .i64 y2)]))), (16, (.v (.v false [(.i .i64 y3)]))), (1, (.o (.box [(.i .i64 y4), (.s y5), (.sh 60 y6)])))]))) n := by funext x0 x1 x2 x3 x4 x5 x6; exact ih x0 x1 x2 x3 x4 x5 x6
    intro x0 x1 x2 x3 x4 x5 x6
    have h : ∀ g, exc E43 (it43 N) (loopOf Try.f43 2) (tabl [(2, (.v (.v false [(.bp 0 0)]))), (4, (.v (.v false [(.b x0)]))), (12, (.v (.v false [(.sh 60 x1)]))), (14, (.v (.v false [(.i .i64 x2)]))), (16, (.v (.v false [(.i .i64 x3)]))), (1, (.o (.box [(.i .i64 x4), (.s x5), (.sh 60 x6)])))]) (iterK g (canon (E43.keep 2)) K) = Pu.impl_StreamOk.r2 N (fun x0 x1 x2 x3 x4 x5 x6 => (g (tabl [(2, (.v (.v false [(.bp 0 0)]))), (4, (.v (.v false [(.b x0)]))), (12, (.v (.v false [(.sh 60 x1)]))), (14, (.v (.v false [(.i .i64 x2)]))), (16, (.v (.v false [(.i .i64 x3)]))), (1, (.o (.box [(.i .i64 x4), (.s x5), (.sh 60 x6)])))]))) (fun y0 y1 y2 y3 y4 y5 y6 => (K .ret (tabl [(2, (.v (.v false [(.bp 0 0)]))), (4, (.v (.v false [(.b y0)]))), (12, (.v (.v false [(.sh 60 y1)]))), (14, (.v (.v false [(.i .i64 y2)]))), (16, (.v (.v false [(.i .i64 y3)]))), (1, (.o (.box [(.i .i64 y4), (.s y5), (.sh 60 y6)])))]))) (fun y0 y1 y2 y3 y4 y5 y6 => (K (.exit 0) (tabl [(2, (.v (.v false [(.bp 0 0)]))), (4, (.v (.v false [(.b y0)]))), (12, (.v (.v false [(.sh 60 y1)]))), (14, (.v (.v false [(.i .i64 y2)]))), (16, (.v (.v false [(.i .i64 y3)]))), (1, (.o (.box [(.i .i64 y4), (.s y5), (.sh 60 y6)])))]))) x0 x1 x2 x3 x4 x5 x6 := by intro g; kernel_rfl
    refine (h _).trans ?_
    show Pu.impl_StreamOk.r2 N (fun x0 x1 x2 x3 x4 x5 x6 => (iter (exc E43 (it43 N) (loopOf Try.f43 2)) (canon (E43.keep 2))  n (tabl [(2, (.v (.v false [(.bp 0 0)]))), (4, (.v (.v false [(.b x0)]))), (12, (.v (.v false [(.sh 60 x1)]))), (14, (.v (.v false [(.i .i64 x2)]))), (16, (.v (.v false [(.i .i64 x3)]))), (1, (.o (.box [(.i .i64 x4), (.s x5), (.sh 60 x6)])))]) K)) (fun y0 y1 y2 y3 y4 y5 y6 => (K .ret (tabl [(2, (.v (.v false [(.bp 0 0)]))), (4, (.v (.v false [(.b y0)]))), (12, (.v (.v false [(.sh 60 y1)]))), (14, (.v (.v false [(.i .i64 y2)]))), (16, (.v (.v false [(.i .i64 y3)]))), (1, (.o (.box [(.i .i64 y4), (.s y5), (.sh 60 y6)])))]))) (fun y0 y1 y2 y3 y4 y5 y6 => (K (.exit 0) (tabl [(2, (.v (.v false [(.bp 0 0)]))), (4, (.v (.v false [(.b y0)]))), (12, (.v (.v false [(.sh 60 y1)]))), (14, (.v (.v false [(.i .i64 y2)]))), (16, (.v (.v false [(.i .i64 y3)]))), (1, (.o (.box [(.i .i64 y4), (.s y5), (.sh 60 y6)])))]))) x0 x1 x2 x3 x4 x5 x6 = _
    rw [e0]; rfl
theorem lo43_2 {R : Type} (N : Nat) : LoopOk E43 (it43 N (R := R)) (loopOf Try.f43 2) := by
  have e : firstRid (loopOf Try.f43 2) = 2 := by kernel_rfl
  intro L K r
  rw [e]
  intro h
  unfold it43 at h
  simp only [show Nat.beq 2 2 = true from rfl, cond_false, cond_true] at h
  refine tell_ok (Q := fun L => ∃ n, iter (exc E43 (it43 N) (loopOf Try.f43 2)) (canon (E43.keep 2)) n (tabl L) K = some r) h (fun xs h => ?_) (fun h => ?_)
  · (try dsimp only at h)
    split at h
    · exact ⟨N, ((e43_2 N K N) _ _ _ _ _ _ _).trans h⟩
    · cases h
  cases h
def sp43 : List Arg → Option (Bool × Res)
  | [(.v true [(.i .i64 s0_0), (.s s0_1), (.sh 60 s0_2)])] => some (true, ⟨[(.v false [(.b (Pu.impl_StreamOk.v s0_0 s0_1 s0_2))])], []⟩)
  | _ => none
theorem ok43 : FnOk Try.prog T 43 sp43 := by
  refine fn_ok (E := E43) hE (call_cons ok94 call_nil) hM Try.func43 (code := (Try.f43.body.getD .skip)) (by kernel_rfl) (by kernel_rfl) ?_
  have key : ∀ (s0_0 : Int) (s0_1 : ByteArray) (s0_2 : Row), okS s0_1 → FitR s0_2 → ∃ it : It Res, (∀ c ∈ loopsOf (Try.f43.body.getD .skip), LoopOk E43 it c) ∧ body E43 it Try.f43 [(.v true [(.i .i64 s0_0), (.s s0_1), (.sh 60 s0_2)])] = some ⟨[(.v false [(.b (Pu.impl_StreamOk.v s0_0 s0_1 s0_2))])], []⟩ := by
    intro s0_0 s0_1 s0_2  g1 g2
    obtain ⟨N, hN⟩ := Pu.impl_StreamOk.b_eq (R := Res) (fun r0 => some ⟨[(.v false [(.b r0)])], []⟩) s0_0 s0_1 s0_2 g1 g2
    have hl : loopsOf (Try.f43.body.getD .skip) = [loopOf Try.f43 2] := by kernel_rfl
    refine ⟨it43 N, by rw [hl]; exact (loops_cons (lo43_2 N) loops_nil), ?_⟩
    refine Eq.trans (show body E43 (it43 N) Try.f43 [(.v true [(.i .i64 s0_0), (.s s0_1), (.sh 60 s0_2)])] = Pu.impl_StreamOk.b N (fun r0 => some ⟨[(.v false [(.b r0)])], []⟩) s0_0 s0_1 s0_2 by kernel_rfl) hN
  intro args r h
  unfold sp43 at h
  split at h
  · injection h with h
    injection h with h1 h2
    subst h2
    exact ⟨by kernel_rfl, fun hf => ⟨of_decide_eq_true (by kernel_rfl), key _ _ _ hf.1.2.1 hf.1.2.2.1⟩⟩
  · cases h

end Go.FG.Se

namespace Go.FG.Se
open Go.Proofs
def E176 : Env := { toTab := T, call := Go.FG.callIn [], mode := Go.FG.modeIn md, keep := Go.FG.keepIn [], tk := fun n => Go.FG.memB n [], om := Go.FG.omIn [] }
def sp176 : List Arg → Option (Bool × Res)
  | [(.v true [(.i .i64 r0_0), (.i .i64 r0_1)]), (.fb [(.i .i64 id1)])] => some (true, ⟨[(.v false [(.b (Pu.impl_readerAt_1.v r0_0 r0_1 id1))])], []⟩)
  | _ => none
theorem ok176 : FnOk Try.prog T 176 sp176 := by
  refine fn_ok (E := E176) hE call_nil hM Try.func176 (code := (Try.f176.body.getD .skip)) (by kernel_rfl) (by kernel_rfl) ?_
  have key : ∀ (r0_0 : Int) (r0_1 : Int) (id1 : Int), ∃ it : It Res, (∀ c ∈ loopsOf (Try.f176.body.getD .skip), LoopOk E176 it c) ∧ body E176 it Try.f176 [(.v true [(.i .i64 r0_0), (.i .i64 r0_1)]), (.fb [(.i .i64 id1)])] = some ⟨[(.v false [(.b (Pu.impl_readerAt_1.v r0_0 r0_1 id1))])], []⟩ := by
    intro r0_0 r0_1 id1 
    have hN := Pu.impl_readerAt_1.b_eq (R := Res) (fun r0 => some ⟨[(.v false [(.b r0)])], []⟩) r0_0 r0_1 id1
    have hl : loopsOf (Try.f176.body.getD .skip) = [] := by kernel_rfl
    refine ⟨iterN 0, by rw [hl]; exact loops_nil, ?_⟩
    refine Eq.trans (show body E176 (iterN 0) Try.f176 [(.v true [(.i .i64 r0_0), (.i .i64 r0_1)]), (.fb [(.i .i64 id1)])] = Pu.impl_readerAt_1.b (fun r0 => some ⟨[(.v false [(.b r0)])], []⟩) r0_0 r0_1 id1 by kernel_rfl) hN
  intro args r h
  unfold sp176 at h
  split at h
  · injection h with h
    injection h with h1 h2
    subst h2
    exact ⟨by kernel_rfl, fun hf => ⟨of_decide_eq_true (by kernel_rfl), key _ _ _⟩⟩
  · cases h

end Go.FG.Se

namespace Go.FG.Se
open Go.Proofs
def E175a : Env := { toTab := T, call := Go.FG.callIn [(176, sp176)], mode := Go.FG.modeIn md, keep := Go.FG.keepIn [(2, [0, 1, 4, 7, 8])], tk := fun n => Go.FG.memB n [], om := Go.FG.omIn [] }
def it175a (N : Nat) {R : Type} : It R := fun rid f cn L K => bif Nat.beq rid 2 then (tell [(0, (.v (.v false [(.sh 60 [])]))), (2, (.v (.v false [(.fn 176 [[(.i .i64 0)]])]))), (8, (.v (.v false [(.i .i64 0)]))), (14, (.v (.v false [(.i .i64 0)]))), (16, (.v (.v false [(.i .i64 0)])))] (fun | [.R x0, .I x1, .I x2, .I x3, .I x4] => Pu.slices_IndexFunc_Readera.l2 N (fun y0 y1 y2 y3 y4 => (K .ret (tabl [(0, (.v (.v false [(.sh 60 y0)]))), (2, (.v (.v false [(.fn 176 [[(.i .i64 y1)]])]))), (8, (.v (.v false [(.i .i64 y2)]))), (14, (.v (.v false [(.i .i64 y3)]))), (16, (.v (.v false [(.i .i64 y4)])))]))) (fun y0 y1 y2 y3 y4 => (K (.exit 0) (tabl [(0, (.v (.v false [(.sh 60 y0)]))), (2, (.v (.v false [(.fn 176 [[(.i .i64 y1)]])]))), (8, (.v (.v false [(.i .i64 y2)]))), (14, (.v (.v false [(.i .i64 y3)]))), (16, (.v (.v false [(.i .i64 y4)])))]))) N x0 x1 x2 x3 x4 | _ => none) L (none)) else none
theorem e175a_2 {R : Type} (N : Nat) (K : Ex → St → Option R) : ∀ n : Nat, (∀ x0 x1 x2 x3 x4, iter (exc E175a (it175a N) (loopOf Try.f175 2)) (canon (E175a.keep 2))  n (tabl [(0, (.v (.v false [(.sh 60 x0)]))), (2, (.v (.v false [(.fn 176 [[(.i .i64 x1)]])]))), (8, (.v (.v false [(.i .i64 x2)]))), (14, (.v (.v false [(.i .i64 x3)]))), (16, (.v (.v false [(.i .i64 x4)])))]) K = Pu.slices_IndexFunc_Readera.l2 N (fun y0 y1 y2 y3 y4 => (K .ret (tabl [(0, (.v (.v false [(.sh 60 y0)]))), (2, (.v (.v false [(.fn 176 [[(.i .i64 y1)]])]))), (8, (.v (.v false [(.i .i64 y2)]))), (14, (.v (.v false [(.i .i64 y3)]))), (16, (.v (.v false [(.i .i64 y4)])))]))) (fun y0 y1 y2 y3 y4 => (K (.exit 0) (tabl [(0, (.v (.v false [(.sh 60 y0)]))), (2, (.v (.v false [(.fn 176 [[(.i .i64 y1)]])]))), (8, (.v (.v false [(.i .i64 y2)]))), (14, (.v (.v false [(.i .i64 y3)]))), (16, (.v (.v false [(.i .i64 y4)])))]))) n x0 x1 x2 x3 x4) := by
  intro n
  induction n with
  | zero => exact (fun _ _ _ _ _ => rfl)
  | succ n ih =>
    have e0 : (fun x0 x1 x2 x3 x4 => iter (exc E175a (it175a N) (loopOf Try.f175 2)) (canon (E175a.keep 2))  n (tabl [(0, (.v (.v false [(.sh 60 x0)]))), (2, (.v (.v false [(.fn 176 [[(.i .i64 x1)]])]))), (8, (.v (.v false [(.i .i64 x2)]))), (14, (.v (.v false [(.i .i64 x3)]))), (16, (.v (.v false [(.i .i64 x4)])))]) K) = Pu.slices_IndexFunc_Readera.l2 N (fun y0 y1 y2 y3 y4 => (K .ret (tabl [(0, (.v (.v false [(.sh 60 y0)]))), (2, (.v (.v false [(.fn 176 [[(.i .i64 y1)]])]))), (8, (.v (.v false [(.i .i64 y2)]))), (14, (.v (.v false [(.i .i64 y3)]))), (16, (.v (.v false [(.i .i64 y4)])))]))) (fun y0 y1 y2 y3 y4 => (K (.exit 0) (tabl [(0, (.v (.v false [(.sh 60 y0)]))), (2, (.v (.v false [(.fn 176 [[(.i .i64 y1)]])]))), (8, (.v (.v false [(.i .i64 y2)]))), (14, (.v (.v false [(.i .i64 y3)]))), (16, (.v (.v false [(.i .i64 y4)])))]))) n := by funext x0 x1 x2 x3 x4; exact ih x0 x1 x2 x3 x4
    intro x0 x1 x2 x3 x4
    have h : ∀ g, exc E175a (it175a N) (loopOf Try.f175 2) (tabl [(0, (.v (.v false [(.sh 60 x0)]))), (2, (.v (.v false [(.fn 176 [[(.i .i64 x1)]])]))), (8, (.v (.v false [(.i .i64 x2)]))), (14, (.v (.v false [(.i .i64 x3)]))), (16, (.v (.v false [(.i .i64 x4)])))]) (iterK g (canon (E175a.keep 2)) K) = Pu.slices_IndexFunc_Readera.r2 N (fun x0 x1 x2 x3 x4 => (g (tabl [(0, (.v (.v false [(.sh 60 x0)]))), (2, (.v (.v false [(.fn 176 [[(.i .i64 x1)]])]))), (8, (.v (.v false [(.i .i64 x2)]))), (14, (.v (.v false [(.i .i64 x3)]))), (16, (.v (.v false [(.i .i64 x4)])))]))) (fun y0 y1 y2 y3 y4 => (K .ret (tabl [(0, (.v (.v false [(.sh 60 y0)]))), (2, (.v (.v false [(.fn 176 [[(.i .i64 y1)]])]))), (8, (.v (.v false [(.i .i64 y2)]))), (14, (.v (.v false [(.i .i64 y3)]))), (16, (.v (.v false [(.i .i64 y4)])))]))) (fun y0 y1 y2 y3 y4 => (K (.exit 0) (tabl [(0, (.v (.v false [(.sh 60 y0)]))), (2, (.v (.v false [(.fn 176 [[(.i .i64 y1)]])]))), (8, (.v (.v false [(.i .i64 y2)]))), (14, (.v (.v false [(.i .i64 y3)]))), (16, (.v (.v false [(.i .i64 y4)])))]))) x0 x1 x2 x3 x4 := by intro g; kernel_rfl
    refine (h _).trans ?_
    show Pu.slices_IndexFunc_Readera.r2 N (fun x0 x1 x2 x3 x4 => (iter (exc E175a (it175a N) (loopOf Try.f175 2)) (canon (E175a.keep 2))  n (tabl [(0, (.v (.v false [(.sh 60 x0)]))), (2, (.v (.v false [(.fn 176 [[(.i .i64 x1)]])]))), (8, (.v (.v false [(.i .i64 x2)]))), (14, (.v (.v false [(.i .i64 x3)]))), (16, (.v (.v false [(.i .i64 x4)])))]) K)) (fun y0 y1 y2 y3 y4 => (K .ret (tabl [(0, (.v (.v false [(.sh 60 y0)]))), (2, (.v (.v false [(.fn 176 [[(.i .i64 y1)]])]))), (8, (.v (.v false [(.i .i64 y2)]))), (14, (.v (.v false [(.i .i64 y3)]))), (16, (.v (.v false [(.i .i64 y4)])))]))) (fun y0 y1 y2 y3 y4 => (K (.exit 0) (tabl [(0, (.v (.v false [(.sh 60 y0)]))), (2, (.v (.v false [(.fn 176 [[(.i .i64 y1)]])]))), (8, (.v (.v false [(.i .i64 y2)]))), (14, (.v (.v false [(.i .i64 y3)]))), (16, (.v (.v false [(.i .i64 y4)])))]))) x0 x1 x2 x3 x4 = _
    rw [e0]; rfl
theorem lo175a_2 {R : Type} (N : Nat) : LoopOk E175a (it175a N (R := R)) (loopOf Try.f175 2) := by
  have e : firstRid (loopOf Try.f175 2) = 2 := by kernel_rfl
  intro L K r
  rw [e]
  intro h
  unfold it175a at h
  simp only [show Nat.beq 2 2 = true from rfl, cond_false, cond_true] at h
  refine tell_ok (Q := fun L => ∃ n, iter (exc E175a (it175a N) (loopOf Try.f175 2)) (canon (E175a.keep 2)) n (tabl L) K = some r) h (fun xs h => ?_) (fun h => ?_)
  · (try dsimp only at h)
    split at h
    · exact ⟨N, ((e175a_2 N K N) _ _ _ _ _).trans h⟩
    · cases h
  cases h
def sp175a : List Arg → Option (Bool × Res)
  | [(.v false [(.sh 60 s0)]), (.v false [(.fn 176 [[(.i .i64 id1)]])])] => some (true, ⟨[(.v false [(.i .i64 (Pu.slices_IndexFunc_Readera.v s0 id1))])], []⟩)
  | _ => none
theorem ok175a : FnOk Try.prog T 175 sp175a := by
  refine fn_ok (E := E175a) hE (call_cons ok176 call_nil) hM Try.func175 (code := (Try.f175.body.getD .skip)) (by kernel_rfl) (by kernel_rfl) ?_
  have key : ∀ (s0 : Row) (id1 : Int), FitR s0 → ∃ it : It Res, (∀ c ∈ loopsOf (Try.f175.body.getD .skip), LoopOk E175a it c) ∧ body E175a it Try.f175 [(.v false [(.sh 60 s0)]), (.v false [(.fn 176 [[(.i .i64 id1)]])])] = some ⟨[(.v false [(.i .i64 (Pu.slices_IndexFunc_Readera.v s0 id1))])], []⟩ := by
    intro s0 id1  g0
    obtain ⟨N, hN⟩ := Pu.slices_IndexFunc_Readera.b_eq (R := Res) (fun r0 => some ⟨[(.v false [(.i .i64 r0)])], []⟩) s0 id1 g0
    have hl : loopsOf (Try.f175.body.getD .skip) = [loopOf Try.f175 2] := by kernel_rfl
    refine ⟨it175a N, by rw [hl]; exact (loops_cons (lo175a_2 N) loops_nil), ?_⟩
    refine Eq.trans (show body E175a (it175a N) Try.f175 [(.v false [(.sh 60 s0)]), (.v false [(.fn 176 [[(.i .i64 id1)]])])] = Pu.slices_IndexFunc_Readera.b N (fun r0 => some ⟨[(.v false [(.i .i64 r0)])], []⟩) s0 id1 by kernel_rfl) hN
  intro args r h
  unfold sp175a at h
  split at h
  · injection h with h
    injection h with h1 h2
    subst h2
    exact ⟨by kernel_rfl, fun hf => ⟨of_decide_eq_true (by kernel_rfl), key _ _ hf.1.1⟩⟩
  · cases h

end Go.FG.Se

namespace Go.FG.Se
open Go.Proofs
def E117 : Env := { toTab := T, call := Go.FG.callIn [], mode := Go.FG.modeIn md, keep := Go.FG.keepIn [], tk := fun n => Go.FG.memB n [], om := Go.FG.omIn [] }
def sp117 : List Arg → Option (Bool × Res)
  | [(.v true [(.i .i64 r0_0), (.i .i64 r0_1)]), (.fb [(.i .i64 id1)])] => some (true, ⟨[(.v false [(.b (Pu.impl_StreamLeave_1.v r0_0 r0_1 id1))])], []⟩)
  | _ => none
theorem ok117 : FnOk Try.prog T 117 sp117 := by
  refine fn_ok (E := E117) hE call_nil hM Try.func117 (code := (Try.f117.body.getD .skip)) (by kernel_rfl) (by kernel_rfl) ?_
  have key : ∀ (r0_0 : Int) (r0_1 : Int) (id1 : Int), ∃ it : It Res, (∀ c ∈ loopsOf (Try.f117.body.getD .skip), LoopOk E117 it c) ∧ body E117 it Try.f117 [(.v true [(.i .i64 r0_0), (.i .i64 r0_1)]), (.fb [(.i .i64 id1)])] = some ⟨[(.v false [(.b (Pu.impl_StreamLeave_1.v r0_0 r0_1 id1))])], []⟩ := by
    intro r0_0 r0_1 id1 
    have hN := Pu.impl_StreamLeave_1.b_eq (R := Res) (fun r0 => some ⟨[(.v false [(.b r0)])], []⟩) r0_0 r0_1 id1
    have hl : loopsOf (Try.f117.body.getD .skip) = [] := by kernel_rfl
    refine ⟨iterN 0, by rw [hl]; exact loops_nil, ?_⟩
    refine Eq.trans (show body E117 (iterN 0) Try.f117 [(.v true [(.i .i64 r0_0), (.i .i64 r0_1)]), (.fb [(.i .i64 id1)])] = Pu.impl_StreamLeave_1.b (fun r0 => some ⟨[(.v false [(.b r0)])], []⟩) r0_0 r0_1 id1 by kernel_rfl) hN
  intro args r h
  unfold sp117 at h
  split at h
  · injection h with h
    injection h with h1 h2
    subst h2
    exact ⟨by kernel_rfl, fun hf => ⟨of_decide_eq_true (by kernel_rfl), key _ _ _⟩⟩
  · cases h

end Go.FG.Se

namespace Go.FG.Se
open Go.Proofs
def E175b : Env := { toTab := T, call := Go.FG.callIn [(117, sp117)], mode := Go.FG.modeIn md, keep := Go.FG.keepIn [(2, [0, 1, 4, 7, 8])], tk := fun n => Go.FG.memB n [], om := Go.FG.omIn [] }
def it175b (N : Nat) {R : Type} : It R := fun rid f cn L K => bif Nat.beq rid 2 then (tell [(0, (.v (.v false [(.sh 60 [])]))), (2, (.v (.v false [(.fn 117 [[(.i .i64 0)]])]))), (8, (.v (.v false [(.i .i64 0)]))), (14, (.v (.v false [(.i .i64 0)]))), (16, (.v (.v false [(.i .i64 0)])))] (fun | [.R x0, .I x1, .I x2, .I x3, .I x4] => Pu.slices_IndexFunc_Readerb.l2 N (fun y0 y1 y2 y3 y4 => (K .ret (tabl [(0, (.v (.v false [(.sh 60 y0)]))), (2, (.v (.v false [(.fn 117 [[(.i .i64 y1)]])]))), (8, (.v (.v false [(.i .i64 y2)]))), (14, (.v (.v false [(.i .i64 y3)]))), (16, (.v (.v false [(.i .i64 y4)])))]))) (fun y0 y1 y2 y3 y4 => (K (.exit 0) (tabl [(0, (.v (.v false [(.sh 60 y0)]))), (2, (.v (.v false [(.fn 117 [[(.i .i64 y1)]])]))), (8, (.v (.v false [(.i .i64 y2)]))), (14, (.v (.v false [(.i .i64 y3)]))), (16, (.v (.v false [(.i .i64 y4)])))]))) N x0 x1 x2 x3 x4 | _ => none) L (none)) else none
theorem e175b_2 {R : Type} (N : Nat) (K : Ex → St → Option R) : ∀ n : Nat, (∀ x0 x1 x2 x3 x4, iter (exc E175b (it175b N) (loopOf Try.f175 2)) (canon (E175b.keep 2))  n (tabl [(0, (.v (.v false [(.sh 60 x0)]))), (2, (.v (.v false [(.fn 117 [[(.i .i64 x1)]])]))), (8, (.v (.v false [(.i .i64 x2)]))), (14, (.v (.v false [(.i .i64 x3)]))), (16, (.v (.v false [(.i .i64 x4)])))]) K = Pu.slices_IndexFunc_Readerb.l2 N (fun y0 y1 y2 y3 y4 => (K .ret (tabl [(0, (.v (.v false [(.sh 60 y0)]))), (2, (.v (.v false [(.fn 117 [[(.i .i64 y1)]])]))), (8, (.v (.v false [(.i .i64 y2)]))), (14, (.v (.v false [(.i .i64 y3)]))), (16, (.v (.v false [(.i .i64 y4)])))]))) (fun y0 y1 y2 y3 y4 => (K (.exit 0) (tabl [(0, (.v (.v false [(.sh 60 y0)]))), (2, (.v (.v false [(.fn 117 [[(.i .i64 y1)]])]))), (8, (.v (.v false [(.i .i64 y2)]))), (14, (.v (.v false [(.i .i64 y3)]))), (16, (.v (.v false [(.i .i64 y4)])))]))) n x0 x1 x2 x3 x4) := by
  intro n
  induction n with
  | zero => exact (fun _ _ _ _ _ => rfl)
  | succ n ih =>
    have e0 : (fun x0 x1 x2 x3 x4 => iter (exc E175b (it175b N) (loopOf Try.f175 2)) (canon (E175b.keep 2))  n (tabl [(0, (.v (.v false [(.sh 60 x0)]))), (2, (.v (.v false [(.fn 117 [[(.i .i64 x1)]])]))), (8, (.v (.v false [(.i .i64 x2)]))), (14, (.v (.v false [(.i .i64 x3)]))), (16, (.v (.v false [(.i .i64 x4)])))]) K) = Pu.slices_IndexFunc_Readerb.l2 N (fun y0 y1 y2 y3 y4 => (K .ret (tabl [(0, (.v (.v false [(.sh 60 y0)]))), (2, (.v (.v false [(.fn 117 [[(.i .i64 y1)]])]))), (8, (.v (.v false [(.i .i64 y2)]))), (14, (.v (.v false [(.i .i64 y3)]))), (16, (.v (.v false [(.i .i64 y4)])))]))) (fun y0 y1 y2 y3 y4 => (K (.exit 0) (tabl [(0, (.v (.v false [(.sh 60 y0)]))), (2, (.v (.v false [(.fn 117 [[(.i .i64 y1)]])]))), (8, (.v (.v false [(.i .i64 y2)]))), (14, (.v (.v false [(.i .i64 y3)]))), (16, (.v (.v false [(.i .i64 y4)])))]))) n := by funext x0 x1 x2 x3 x4; exact ih x0 x1 x2 x3 x4
    intro x0 x1 x2 x3 x4
    have h : ∀ g, exc E175b (it175b N) (loopOf Try.f175 2) (tabl [(0, (.v (.v false [(.sh 60 x0)]))), (2, (.v (.v false [(.fn 117 [[(.i .i64 x1)]])]))), (8, (.v (.v false [(.i .i64 x2)]))), (14, (.v (.v false [(.i .i64 x3)]))), (16, (.v (.v false [(.i .i64 x4)])))]) (iterK g (canon (E175b.keep 2)) K) = Pu.slices_IndexFunc_Readerb.r2 N (fun x0 x1 x2 x3 x4 => (g (tabl [(0, (.v (.v false [(.sh 60 x0)]))), (2, (.v (.v false [(.fn 117 [[(.i .i64 x1)]])]))), (8, (.v (.v false [(.i .i64 x2)]))), (14, (.v (.v false [(.i .i64 x3)]))), (16, (.v (.v false [(.i .i64 x4)])))]))) (fun y0 y1 y2 y3 y4 => (K .ret (tabl [(0, (.v (.v false [(.sh 60 y0)]))), (2, (.v (.v false [(.fn 117 [[(.i .i64 y1)]])]))), (8, (.v (.v false [(.i .i64 y2)]))), (14, (.v (.v false [(.i .i64 y3)]))), (16, (.v (.v false [(.i .i64 y4)])))]))) (fun y0 y1 y2 y3 y4 => (K (.exit 0) (tabl [(0, (.v (.v false [(.sh 60 y0)]))), (2, (.v (.v false [(.fn 117 [[(.i .i64 y1)]])]))), (8, (.v (.v false [(.i .i64 y2)]))), (14, (.v (.v false [(.i .i64 y3)]))), (16, (.v (.v false [(.i .i64 y4)])))]))) x0 x1 x2 x3 x4 := by intro g; kernel_rfl
    refine (h _).trans ?_
    show Pu.slices_IndexFunc_Readerb.r2 N (fun x0 x1 x2 x3 x4 => (iter (exc E175b (it175b N) (loopOf Try.f175 2)) (canon (E175b.keep 2))  n (tabl [(0, (.v (.v false [(.sh 60 x0)]))), (2, (.v (.v false [(.fn 117 [[(.i .i64 x1)]])]))), (8, (.v (.v false [(.i .i64 x2)]))), (14, (.v (.v false [(.i .i64 x3)]))), (16, (.v (.v false [(.i .i64 x4)])))]) K)) (fun y0 y1 y2 y3 y4 => (K .ret (tabl [(0, (.v (.v false [(.sh 60 y0)]))), (2, (.v (.v false [(.fn 117 [[(.i .i64 y1)]])]))), (8, (.v (.v false [(.i .i64 y2)]))), (14, (.v (.v false [(.i .i64 y3)]))), (16, (.v (.v false [(.i .i64 y4)])))]))) (fun y0 y1 y2 y3 y4 => (K (.exit 0) (tabl [(0, (.v (.v false [(.sh 60 y0)]))), (2, (.v (.v false [(.fn 117 [[(.i .i64 y1)]])]))), (8, (.v (.v false [(.i .i64 y2)]))), (14, (.v (.v false [(.i .i64 y3)]))), (16, (.v (.v false [(.i .i64 y4)])))]))) x0 x1 x2 x3 x4 = _
    rw [e0]; rfl
theorem lo175b_2 {R : Type} (N : Nat) : LoopOk E175b (it175b N (R := R)) (loopOf Try.f175 2) := by
  have e : firstRid (loopOf Try.f175 2) = 2 := by kernel_rfl
  intro L K r
  rw [e]
  intro h
  unfold it175b at h
  simp only [show Nat.beq 2 2 = true from rfl, cond_false, cond_true] at h
  refine tell_ok (Q := fun L => ∃ n, iter (exc E175b (it175b N) (loopOf Try.f175 2)) (canon (E175b.keep 2)) n (tabl L) K = some r) h (fun xs h => ?_) (fun h => ?_)
  · (try dsimp only at h)
    split at h
    · exact ⟨N, ((e175b_2 N K N) _ _ _ _ _).trans h⟩
    · cases h
  cases h
def sp175b : List Arg → Option (Bool × Res)
  | [(.v false [(.sh 60 s0)]), (.v false [(.fn 117 [[(.i .i64 id1)]])])] => some (true, ⟨[(.v false [(.i .i64 (Pu.slices_IndexFunc_Readerb.v s0 id1))])], []⟩)
  | _ => none
theorem ok175b : FnOk Try.prog T 175 sp175b := by
  refine fn_ok (E := E175b) hE (call_cons ok117 call_nil) hM Try.func175 (code := (Try.f175.body.getD .skip)) (by kernel_rfl) (by kernel_rfl) ?_
  have key : ∀ (s0 : Row) (id1 : Int), FitR s0 → ∃ it : It Res, (∀ c ∈ loopsOf (Try.f175.body.getD .skip), LoopOk E175b it c) ∧ body E175b it Try.f175 [(.v false [(.sh 60 s0)]), (.v false [(.fn 117 [[(.i .i64 id1)]])])] = some ⟨[(.v false [(.i .i64 (Pu.slices_IndexFunc_Readerb.v s0 id1))])], []⟩ := by
    intro s0 id1  g0
    obtain ⟨N, hN⟩ := Pu.slices_IndexFunc_Readerb.b_eq (R := Res) (fun r0 => some ⟨[(.v false [(.i .i64 r0)])], []⟩) s0 id1 g0
    have hl : loopsOf (Try.f175.body.getD .skip) = [loopOf Try.f175 2] := by kernel_rfl
    refine ⟨it175b N, by rw [hl]; exact (loops_cons (lo175b_2 N) loops_nil), ?_⟩
    refine Eq.trans (show body E175b (it175b N) Try.f175 [(.v false [(.sh 60 s0)]), (.v false [(.fn 117 [[(.i .i64 id1)]])])] = Pu.slices_IndexFunc_Readerb.b N (fun r0 => some ⟨[(.v false [(.i .i64 r0)])], []⟩) s0 id1 by kernel_rfl) hN
  intro args r h
  unfold sp175b at h
  split at h
  · injection h with h
    injection h with h1 h2
    subst h2
    exact ⟨by kernel_rfl, fun hf => ⟨of_decide_eq_true (by kernel_rfl), key _ _ hf.1.1⟩⟩
  · cases h

end Go.FG.Se

namespace Go.FG.Se
open Go.Proofs
def E115 : Env := { toTab := T, call := Go.FG.callIn [(175, sp175a), (175, sp175b)], mode := Go.FG.modeIn md, keep := Go.FG.keepIn [], tk := fun n => Go.FG.memB n [], om := Go.FG.omIn [] }
def sp115 : List Arg → Option (Bool × Res)
  | [(.v true [(.i .i64 s0_0), (.s s0_1), (.sh 60 s0_2)]), (.v false [(.i .i64 id1)])] => some (true, ⟨[(.v false [(.i .i64 (Pu.impl_readerAt.v s0_0 s0_1 s0_2 id1))])], []⟩)
  | _ => none
theorem ok115 : FnOk Try.prog T 115 sp115 := by
  refine fn_ok (E := E115) hE (call_cons ok175a (call_cons ok175b call_nil)) hM Try.func115 (code := (Try.f115.body.getD .skip)) (by kernel_rfl) (by kernel_rfl) ?_
  have key : ∀ (s0_0 : Int) (s0_1 : ByteArray) (s0_2 : Row) (id1 : Int), ∃ it : It Res, (∀ c ∈ loopsOf (Try.f115.body.getD .skip), LoopOk E115 it c) ∧ body E115 it Try.f115 [(.v true [(.i .i64 s0_0), (.s s0_1), (.sh 60 s0_2)]), (.v false [(.i .i64 id1)])] = some ⟨[(.v false [(.i .i64 (Pu.impl_readerAt.v s0_0 s0_1 s0_2 id1))])], []⟩ := by
    intro s0_0 s0_1 s0_2 id1 
    have hN := Pu.impl_readerAt.b_eq (R := Res) (fun r0 => some ⟨[(.v false [(.i .i64 r0)])], []⟩) s0_0 s0_1 s0_2 id1
    have hl : loopsOf (Try.f115.body.getD .skip) = [] := by kernel_rfl
    refine ⟨iterN 0, by rw [hl]; exact loops_nil, ?_⟩
    refine Eq.trans (show body E115 (iterN 0) Try.f115 [(.v true [(.i .i64 s0_0), (.s s0_1), (.sh 60 s0_2)]), (.v false [(.i .i64 id1)])] = Pu.impl_readerAt.b (fun r0 => some ⟨[(.v false [(.i .i64 r0)])], []⟩) s0_0 s0_1 s0_2 id1 by kernel_rfl) hN
  intro args r h
  unfold sp115 at h
  split at h
  · injection h with h
    injection h with h1 h2
    subst h2
    exact ⟨by kernel_rfl, fun hf => ⟨of_decide_eq_true (by kernel_rfl), key _ _ _ _⟩⟩
  · cases h

end Go.FG.Se

namespace Go.FG.Se
open Go.Proofs
def E38 : Env := { toTab := T, call := Go.FG.callIn [(113, sp113), (114, sp114), (43, sp43), (115, sp115)], mode := Go.FG.modeIn md, keep := Go.FG.keepIn [(2, [1, 2, 4, 6])], tk := fun n => Go.FG.memB n [], om := Go.FG.omIn [] }
def it38 (N : Nat) {R : Type} : It R := fun rid f cn L K => bif Nat.beq rid 2 then (tell [(2, (.v (.v false [(.i .i64 0)]))), (4, (.v (.v false [(.bp 0 0)]))), (8, (.v (.v false [(.bp 1 0)]))), (12, (.v (.v false [(.i .i64 0)]))), (1, (.o (.box [(.i .i64 0), (.s ⟨#[]⟩), (.sh 60 [])]))), (3, (.o (.box [(.i .i64 0), (.s ⟨#[]⟩), .nl])))] (fun | [.I x0, .I x1, .I x2, .S x3, .R x4, .I x5, .S x6] => Pu.impl_StreamJoin.l2 N (fun y0 y1 y2 y3 y4 y5 y6 => (K (.exit 0) (tabl [(2, (.v (.v false [(.i .i64 y0)]))), (4, (.v (.v false [(.bp 0 0)]))), (8, (.v (.v false [(.bp 1 0)]))), (12, (.v (.v false [(.i .i64 y1)]))), (1, (.o (.box [(.i .i64 y2), (.s y3), (.sh 60 y4)]))), (3, (.o (.box [(.i .i64 y5), (.s y6), .nl])))]))) N x0 x1 x2 x3 x4 x5 x6 | _ => none) L (none)) else none
theorem e38_2 {R : Type} (N : Nat) (K : Ex → St → Option R) : ∀ n : Nat, (∀ x0 x1 x2 x3 x4 x5 x6, iter (exc E38 (it38 N) (loopOf Try.f38 2)) (canon (E38.keep 2))  n (tabl [(2, (.v (.v false [(.i .i64 x0)]))), (4, (.v (.v false [(.bp 0 0)]))), (8, (.v (.v false [(.bp 1 0)]))), (12, (.v (.v false [(.i .i64 x1)]))), (1, (.o (.box [(.i .i64 x2), (.s x3), (.sh 60 x4)]))), (3, (.o (.box [(.i .i64 x5), (.s x6), .nl])))]) K = Pu.impl_StreamJoin.l2 N (fun y0 y1 y2 y3 y4 y5 y6 => (K (.exit 0) (tabl [(2, (.v (.v false [(.i .i64 y0)]))), (4, (.v (.v false [(.bp 0 0)]))), (8, (.v (.v false [(.bp 1 0)]))), (12, (.v (.v false [(.i .i64 y1)]))), (1, (.o (.box [(.i .i64 y2), (.s y3), (.sh 60 y4)]))), (3, (.o (.box [(.i .i64 y5), (.s y6), .nl])))]))) n x0 x1 x2 x3 x4 x5 x6) := by
  intro n
  induction n with
  | zero => exact (fun _ _ _ _ _ _ _ => rfl)
  | succ n ih =>
    have e0 : (fun x0 x1 x2 x3 x4 x5 x6 => iter (exc E38 (it38 N) (loopOf Try.f38 2)) (canon (E38.keep 2))  n (tabl [(2, (.v (.v false [(.i .i64 x0)]))), (4, (.v (.v false [(.bp 0 0)]))), (8, (.v (.v false [(.bp 1 0)]))), (12, (.v (.v false [(.i .i64 x1)]))), (1, (.o (.box [(.i .i64 x2), (.s x3), (.sh 60 x4)]))), (3, (.o (.box [(.i .i64 x5), (.s x6), .nl])))]) K) = Pu.impl_StreamJoin.l2 N (fun y0 y1 y2 y3 y4 y5 y6 => (K (.exit 0) (tabl [(2, (.v (.v false [(.i .i64 y0)]))), (4, (.v (.v false [(.bp 0 0)]))), (8, (.v (.v false [(.bp 1 0)]))), (12, (.v (.v false [(.i .i64 y1)]))), (1, (.o (.box [(.i .i64 y2), (.s y3), (.sh 60 y4)]))), (3, (.o (.box [(.i .i64 y5), (.s y6), .nl])))]))) n := by funext x0 x1 x2 x3 x4 x5 x6; exact ih x0 x1 x2 x3 x4 x5 x6
    intro x0 x1 x2 x3 x4 x5 x6
    have h : ∀ g, exc E38 (it38 N) (loopOf Try.f38 2) (tabl [(2, (.v (.v false [(.i .i64 x0)]))), (4, (.v (.v false [(.bp 0 0)]))), (8, (.v (.v false [(.bp 1 0)]))), (12, (.v (.v false [(.i .i64 x1)]))), (1, (.o (.box [(.i .i64 x2), (.s x3), (.sh 60 x4)]))), (3, (.o (.box [(.i .i64 x5), (.s x6), .nl])))]) (iterK g (canon (E38.keep 2)) K) = Pu.impl_StreamJoin.r2 N (fun x0 x1 x2 x3 x4 x5 x6 => (g (tabl [(2, (.v (.v false [(.i .i64 x0)]))), (4, (.v (.v false [(.bp 0 0)]))), (8, (.v (.v false [(.bp 1 0)]))), (12, (.v (.v false [(.i .i64 x1)]))), (1, (.o (.box [(.i .i64 x2), (.s x3), (.sh 60 x4)]))), (3, (.o (.box [(.i .i64 x5), (.s x6), .nl])))]))) (fun y0 y1 y2 y3 y4 y5 y6 => (K (.exit 0) (tabl [(2, (.v (.v false [(.i .i64 y0)]))), (4, (.v (.v false [(.bp 0 0)]))), (8, (.v (.v false [(.bp 1 0)]))), (12, (.v (.v false [(.i .i64 y1)]))), (1, (.o (.box [(.i .i64 y2), (.s y3), (.sh 60 y4)]))), (3, (.o (.box [(.i .i64 y5), (.s y6), .nl])))]))) x0 x1 x2 x3 x4 x5 x6 := by intro g; kernel_rfl
    refine (h _).trans ?_
    show Pu.impl_StreamJoin.r2 N (fun x0 x1 x2 x3 x4 x5 x6 => (iter (exc E38 (it38 N) (loopOf Try.f38 2)) (canon (E38.keep 2))  n (tabl [(2, (.v (.v false [(.i .i64 x0)]))), (4, (.v (.v false [(.bp 0 0)]))), (8, (.v (.v false [(.bp 1 0)]))), (12, (.v (.v false [(.i .i64 x1)]))), (1, (.o (.box [(.i .i64 x2), (.s x3), (.sh 60 x4)]))), (3, (.o (.box [(.i .i64 x5), (.s x6), .nl])))]) K)) (fun y0 y1 y2 y3 y4 y5 y6 => (K (.exit 0) (tabl [(2, (.v (.v false [(.i .i64 y0)]))), (4, (.v (.v false [(.bp 0 0)]))), (8, (.v (.v false [(.bp 1 0)]))), (12, (.v (.v false [(.i .i64 y1)]))), (1, (.o (.box [(.i .i64 y2), (.s y3), (.sh 60 y4)]))), (3, (.o (.box [(.i .i64 y5), (.s y6), .nl])))]))) x0 x1 x2 x3 x4 x5 x6 = _
    rw [e0]; rfl
theorem lo38_2 {R : Type} (N : Nat) : LoopOk E38 (it38 N (R := R)) (loopOf Try.f38 2) := by
  have e : firstRid (loopOf Try.f38 2) = 2 := by kernel_rfl
  intro L K r
  rw [e]
  intro h
  unfold it38 at h
  simp only [show Nat.beq 2 2 = true from rfl, cond_false, cond_true] at h
  refine tell_ok (Q := fun L => ∃ n, iter (exc E38 (it38 N) (loopOf Try.f38 2)) (canon (E38.keep 2)) n (tabl L) K = some r) h (fun xs h => ?_) (fun h => ?_)
  · (try dsimp only at h)
    split at h
    · exact ⟨N, ((e38_2 N K N) _ _ _ _ _ _ _).trans h⟩
    · cases h
  cases h
def sp38 : List Arg → Option (Bool × Res)
  | [(.v true [(.i .i64 s0_0), (.s s0_1), (.sh 60 s0_2)]), (.v false [(.i .i64 id1)])] => some (Pu.impl_StreamJoin.c s0_0 s0_1 s0_2 id1, ⟨[(.v true [(.i .i64 ((Pu.impl_StreamJoin.v s0_0 s0_1 s0_2 id1).1)), (.s ((Pu.impl_StreamJoin.v s0_0 s0_1 s0_2 id1).2.1)), (.ow 60 true ((Pu.impl_StreamJoin.v s0_0 s0_1 s0_2 id1).2.2.1))]), (.v false [(.b ((Pu.impl_StreamJoin.v s0_0 s0_1 s0_2 id1).2.2.2))])], []⟩)
  | _ => none
theorem ok38 : FnOk Try.prog T 38 sp38 := by
  refine fn_ok (E := E38) hE (call_cons ok113 (call_cons ok114 (call_cons ok43 (call_cons ok115 call_nil)))) hM Try.func38 (code := (Try.f38.body.getD .skip)) (by kernel_rfl) (by kernel_rfl) ?_
  have key : ∀ (s0_0 : Int) (s0_1 : ByteArray) (s0_2 : Row) (id1 : Int), Pu.impl_StreamJoin.c s0_0 s0_1 s0_2 id1 = true → ∃ it : It Res, (∀ c ∈ loopsOf (Try.f38.body.getD .skip), LoopOk E38 it c) ∧ body E38 it Try.f38 [(.v true [(.i .i64 s0_0), (.s s0_1), (.sh 60 s0_2)]), (.v false [(.i .i64 id1)])] = some ⟨[(.v true [(.i .i64 ((Pu.impl_StreamJoin.v s0_0 s0_1 s0_2 id1).1)), (.s ((Pu.impl_StreamJoin.v s0_0 s0_1 s0_2 id1).2.1)), (.ow 60 true ((Pu.impl_StreamJoin.v s0_0 s0_1 s0_2 id1).2.2.1))]), (.v false [(.b ((Pu.impl_StreamJoin.v s0_0 s0_1 s0_2 id1).2.2.2))])], []⟩ := by
    intro s0_0 s0_1 s0_2 id1  h1
    obtain ⟨N, hN⟩ := Pu.impl_StreamJoin.b_eq (R := Res) (fun r0 r1 r2 r3 => some ⟨[(.v true [(.i .i64 r0), (.s r1), (.ow 60 true r2)]), (.v false [(.b r3)])], []⟩) s0_0 s0_1 s0_2 id1 h1
    have hl : loopsOf (Try.f38.body.getD .skip) = [loopOf Try.f38 2] := by kernel_rfl
    refine ⟨it38 N, by rw [hl]; exact (loops_cons (lo38_2 N) loops_nil), ?_⟩
    refine Eq.trans (show body E38 (it38 N) Try.f38 [(.v true [(.i .i64 s0_0), (.s s0_1), (.sh 60 s0_2)]), (.v false [(.i .i64 id1)])] = Pu.impl_StreamJoin.b N (fun r0 r1 r2 r3 => some ⟨[(.v true [(.i .i64 r0), (.s r1), (.ow 60 true r2)]), (.v false [(.b r3)])], []⟩) s0_0 s0_1 s0_2 id1 by kernel_rfl) hN
  intro args r h
  unfold sp38 at h
  split at h
  · injection h with h
    injection h with h1 h2
    subst h2
    exact ⟨by kernel_rfl, fun hf => ⟨of_decide_eq_true (by kernel_rfl), key _ _ _ _ h1⟩⟩
  · cases h

end Go.FG.Se

namespace Go.FG.Se
open Go.Proofs
def E178 : Env := { toTab := T, call := Go.FG.callIn [], mode := Go.FG.modeIn md, keep := Go.FG.keepIn [], tk := fun n => Go.FG.memB n [], om := Go.FG.omIn [] }
def sp178 : List Arg → Option (Bool × Res)
  | [(.v true [(.i .i64 a0_0), (.i .i64 a0_1)]), (.v true [(.i .i64 b1_0), (.i .i64 b1_1)])] => some (true, ⟨[(.v false [(.b (Pu.laws_eqReader.v a0_0 a0_1 b1_0 b1_1))])], []⟩)
  | _ => none
theorem ok178 : FnOk Try.prog T 178 sp178 := by
  refine fn_ok (E := E178) hE call_nil hM Try.func178 (code := (Try.f178.body.getD .skip)) (by kernel_rfl) (by kernel_rfl) ?_
  have key : ∀ (a0_0 : Int) (a0_1 : Int) (b1_0 : Int) (b1_1 : Int), ∃ it : It Res, (∀ c ∈ loopsOf (Try.f178.body.getD .skip), LoopOk E178 it c) ∧ body E178 it Try.f178 [(.v true [(.i .i64 a0_0), (.i .i64 a0_1)]), (.v true [(.i .i64 b1_0), (.i .i64 b1_1)])] = some ⟨[(.v false [(.b (Pu.laws_eqReader.v a0_0 a0_1 b1_0 b1_1))])], []⟩ := by
    intro a0_0 a0_1 b1_0 b1_1 
    have hN := Pu.laws_eqReader.b_eq (R := Res) (fun r0 => some ⟨[(.v false [(.b r0)])], []⟩) a0_0 a0_1 b1_0 b1_1
    have hl : loopsOf (Try.f178.body.getD .skip) = [] := by kernel_rfl
    refine ⟨iterN 0, by rw [hl]; exact loops_nil, ?_⟩
    refine Eq.trans (show body E178 (iterN 0) Try.f178 [(.v true [(.i .i64 a0_0), (.i .i64 a0_1)]), (.v true [(.i .i64 b1_0), (.i .i64 b1_1)])] = Pu.laws_eqReader.b (fun r0 => some ⟨[(.v false [(.b r0)])], []⟩) a0_0 a0_1 b1_0 b1_1 by kernel_rfl) hN
  intro args r h
  unfold sp178 at h
  split at h
  · injection h with h
    injection h with h1 h2
    subst h2
    exact ⟨by kernel_rfl, fun hf => ⟨of_decide_eq_true (by kernel_rfl), key _ _ _ _⟩⟩
  · cases h

end Go.FG.Se

namespace Go.FG.Se
open Go.Proofs
def E126 : Env := { toTab := T, call := Go.FG.callIn [(178, sp178)], mode := Go.FG.modeIn md, keep := Go.FG.keepIn [(4, [0, 1, 4, 5])], tk := fun n => Go.FG.memB n [], om := Go.FG.omIn [] }
def it126 (N : Nat) {R : Type} : It R := fun rid f cn L K => bif Nat.beq rid 4 then (tell [(0, (.v (.v false [(.sh 60 [])]))), (2, (.v (.v false [(.sh 60 [])]))), (8, (.v (.v false [(.b false)]))), (10, (.v (.v false [(.i .i64 0)])))] (fun | [.R x0, .R x1, .B x2, .I x3] => Pu.laws_eqReaderS.l4 N (fun y0 y1 y2 y3 => (K .ret (tabl [(0, (.v (.v false [(.sh 60 y0)]))), (2, (.v (.v false [(.sh 60 y1)]))), (8, (.v (.v false [(.b y2)]))), (10, (.v (.v false [(.i .i64 y3)])))]))) (fun y0 y1 y2 y3 => (K (.exit 0) (tabl [(0, (.v (.v false [(.sh 60 y0)]))), (2, (.v (.v false [(.sh 60 y1)]))), (8, (.v (.v false [(.b y2)]))), (10, (.v (.v false [(.i .i64 y3)])))]))) N x0 x1 x2 x3 | _ => none) L (none)) else none
theorem e126_4 {R : Type} (N : Nat) (K : Ex → St → Option R) : ∀ n : Nat, (∀ x0 x1 x2 x3, iter (exc E126 (it126 N) (loopOf Try.f126 4)) (canon (E126.keep 4))  n (tabl [(0, (.v (.v false [(.sh 60 x0)]))), (2, (.v (.v false [(.sh 60 x1)]))), (8, (.v (.v false [(.b x2)]))), (10, (.v (.v false [(.i .i64 x3)])))]) K = Pu.laws_eqReaderS.l4 N (fun y0 y1 y2 y3 => (K .ret (tabl [(0, (.v (.v false [(.sh 60 y0)]))), (2, (.v (.v false [(.sh 60 y1)]))), (8, (.v (.v false [(.b y2)]))), (10, (.v (.v false [(.i .i64 y3)])))]))) (fun y0 y1 y2 y3 => (K (.exit 0) (tabl [(0, (.v (.v false [(.sh 60 y0)]))), (2, (.v (.v false [(.sh 60 y1)]))), (8, (.v (.v false [(.b y2)]))), (10, (.v (.v false [(.i .i64 y3)])))]))) n x0 x1 x2 x3) := by
  intro n
  induction n with
  | zero => exact (fun _ _ _ _ => rfl)
  | succ n ih =>
    have e0 : (fun x0 x1 x2 x3 => iter (exc E126 (it126 N) (loopOf Try.f126 4)) (canon (E126.keep 4))  n (tabl [(0, (.v (.v false [(.sh 60 x0)]))), (2, (.v (.v false [(.sh 60 x1)]))), (8, (.v (.v false [(.b x2)]))), (10, (.v (.v false [(.i .i64 x3)])))]) K) = Pu.laws_eqReaderS.l4 N (fun y0 y1 y2 y3 => (K .ret (tabl [(0, (.v (.v false [(.sh 60 y0)]))), (2, (.v (.v false [(.sh 60 y1)]))), (8, (.v (.v false [(.b y2)]))), (10, (.v (.v false [(.i .i64 y3)])))]))) (fun y0 y1 y2 y3 => (K (.exit 0) (tabl [(0, (.v (.v false [(.sh 60 y0)]))), (2, (.v (.v false [(.sh 60 y1)]))), (8, (.v (.v false [(.b y2)]))), (10, (.v (.v false [(.i .i64 y3)])))]))) n := by funext x0 x1 x2 x3; exact ih x0 x1 x2 x3
    intro x0 x1 x2 x3
    have h : ∀ g, exc E126 (it126 N) (loopOf Try.f126 4) (tabl [(0, (.v (.v false [(.sh 60 x0)]))), (2, (.v (.v false [(.sh 60 x1)]))), (8, (.v (.v false [(.b x2)]))), (10, (.v (.v false [(.i .i64 x3)])))]) (iterK g (canon (E126.keep 4)) K) = Pu.laws_eqReaderS.r4 N (fun x0 x1 x2 x3 => (g (tabl [(0, (.v (.v false [(.sh 60 x0)]))), (2, (.v (.v false [(.sh 60 x1)]))), (8, (.v (.v false [(.b x2)]))), (10, (.v (.v false [(.i .i64 x3)])))]))) (fun y0 y1 y2 y3 => (K .ret (tabl [(0, (.v (.v false [(.sh 60 y0)]))), (2, (.v (.v false [(.sh 60 y1)]))), (8, (.v (.v false [(.b y2)]))), (10, (.v (.v false [(.i .i64 y3)])))]))) (fun y0 y1 y2 y3 => (K (.exit 0) (tabl [(0, (.v (.v false [(.sh 60 y0)]))), (2, (.v (.v false [(.sh 60 y1)]))), (8, (.v (.v false [(.b y2)]))), (10, (.v (.v false [(.i .i64 y3)])))]))) x0 x1 x2 x3 := by intro g; kernel_rfl
    refine (h _).trans ?_
    show Pu.laws_eqReaderS.r4 N (fun x0 x1 x2 x3 => (iter (exc E126 (it126 N) (loopOf Try.f126 4)) (canon (E126.keep 4))  n (tabl [(0, (.v (.v false [(.sh 60 x0)]))), (2, (.v (.v false [(.sh 60 x1)]))), (8, (.v (.v false [(.b x2)]))), (10, (.v (.v false [(.i .i64 x3)])))]) K)) (fun y0 y1 y2 y3 => (K .ret (tabl [(0, (.v (.v false [(.sh 60 y0)]))), (2, (.v (.v false [(.sh 60 y1)]))), (8, (.v (.v false [(.b y2)]))), (10, (.v (.v false [(.i .i64 y3)])))]))) (fun y0 y1 y2 y3 => (K (.exit 0) (tabl [(0, (.v (.v false [(.sh 60 y0)]))), (2, (.v (.v false [(.sh 60 y1)]))), (8, (.v (.v false [(.b y2)]))), (10, (.v (.v false [(.i .i64 y3)])))]))) x0 x1 x2 x3 = _
    rw [e0]; rfl
theorem lo126_4 {R : Type} (N : Nat) : LoopOk E126 (it126 N (R := R)) (loopOf Try.f126 4) := by
  have e : firstRid (loopOf Try.f126 4) = 4 := by kernel_rfl
  intro L K r
  rw [e]
  intro h
  unfold it126 at h
  simp only [show Nat.beq 4 4 = true from rfl, cond_false, cond_true] at h
  refine tell_ok (Q := fun L => ∃ n, iter (exc E126 (it126 N) (loopOf Try.f126 4)) (canon (E126.keep 4)) n (tabl L) K = some r) h (fun xs h => ?_) (fun h => ?_)
  · (try dsimp only at h)
    split at h
    · exact ⟨N, ((e126_4 N K N) _ _ _ _).trans h⟩
    · cases h
  cases h
def sp126 : List Arg → Option (Bool × Res)
  | [(.v false [(.sh 60 a0)]), (.v false [(.sh 60 b1)])] => some (true, ⟨[(.v false [(.b (Pu.laws_eqReaderS.v a0 b1))])], []⟩)
  | _ => none
theorem ok126 : FnOk Try.prog T 126 sp126 := by
  refine fn_ok (E := E126) hE (call_cons ok178 call_nil) hM Try.func126 (code := (Try.f126.body.getD .skip)) (by kernel_rfl) (by kernel_rfl) ?_
  have key : ∀ (a0 : Row) (b1 : Row), FitR a0 → FitR b1 → ∃ it : It Res, (∀ c ∈ loopsOf (Try.f126.body.getD .skip), LoopOk E126 it c) ∧ body E126 it Try.f126 [(.v false [(.sh 60 a0)]), (.v false [(.sh 60 b1)])] = some ⟨[(.v false [(.b (Pu.laws_eqReaderS.v a0 b1))])], []⟩ := by
    intro a0 b1  g0 g1
    obtain ⟨N, hN⟩ := Pu.laws_eqReaderS.b_eq (R := Res) (fun r0 => some ⟨[(.v false [(.b r0)])], []⟩) a0 b1 g0 g1
    have hl : loopsOf (Try.f126.body.getD .skip) = [loopOf Try.f126 4] := by kernel_rfl
    refine ⟨it126 N, by rw [hl]; exact (loops_cons (lo126_4 N) loops_nil), ?_⟩
    refine Eq.trans (show body E126 (it126 N) Try.f126 [(.v false [(.sh 60 a0)]), (.v false [(.sh 60 b1)])] = Pu.laws_eqReaderS.b N (fun r0 => some ⟨[(.v false [(.b r0)])], []⟩) a0 b1 by kernel_rfl) hN
  intro args r h
  unfold sp126 at h
  split at h
  · injection h with h
    injection h with h1 h2
    subst h2
    exact ⟨by kernel_rfl, fun hf => ⟨of_decide_eq_true (by kernel_rfl), key _ _ hf.1.1 hf.2.1.1⟩⟩
  · cases h

end Go.FG.Se

namespace Go.FG.Se
open Go.Proofs
def E58 : Env := { toTab := T, call := Go.FG.callIn [(126, sp126)], mode := Go.FG.modeIn md, keep := Go.FG.keepIn [], tk := fun n => Go.FG.memB n [], om := Go.FG.omIn [] }
def sp58 : List Arg → Option (Bool × Res)
  | [(.v true [(.i .i64 a0_0), (.s a0_1), (.sh 60 a0_2)]), (.v true [(.i .i64 b1_0), (.s b1_1), (.sh 60 b1_2)])] => some (true, ⟨[(.v false [(.b (Pu.laws_eqStream.v a0_0 a0_1 a0_2 b1_0 b1_1 b1_2))])], []⟩)
  | _ => none
theorem ok58 : FnOk Try.prog T 58 sp58 := by
  refine fn_ok (E := E58) hE (call_cons ok126 call_nil) hM Try.func58 (code := (Try.f58.body.getD .skip)) (by kernel_rfl) (by kernel_rfl) ?_
  have key : ∀ (a0_0 : Int) (a0_1 : ByteArray) (a0_2 : Row) (b1_0 : Int) (b1_1 : ByteArray) (b1_2 : Row), ∃ it : It Res, (∀ c ∈ loopsOf (Try.f58.body.getD .skip), LoopOk E58 it c) ∧ body E58 it Try.f58 [(.v true [(.i .i64 a0_0), (.s a0_1), (.sh 60 a0_2)]), (.v true [(.i .i64 b1_0), (.s b1_1), (.sh 60 b1_2)])] = some ⟨[(.v false [(.b (Pu.laws_eqStream.v a0_0 a0_1 a0_2 b1_0 b1_1 b1_2))])], []⟩ := by
    intro a0_0 a0_1 a0_2 b1_0 b1_1 b1_2 
    have hN := Pu.laws_eqStream.b_eq (R := Res) (fun r0 => some ⟨[(.v false [(.b r0)])], []⟩) a0_0 a0_1 a0_2 b1_0 b1_1 b1_2
    have hl : loopsOf (Try.f58.body.getD .skip) = [] := by kernel_rfl
    refine ⟨iterN 0, by rw [hl]; exact loops_nil, ?_⟩
    refine Eq.trans (show body E58 (iterN 0) Try.f58 [(.v true [(.i .i64 a0_0), (.s a0_1), (.sh 60 a0_2)]), (.v true [(.i .i64 b1_0), (.s b1_1), (.sh 60 b1_2)])] = Pu.laws_eqStream.b (fun r0 => some ⟨[(.v false [(.b r0)])], []⟩) a0_0 a0_1 a0_2 b1_0 b1_1 b1_2 by kernel_rfl) hN
  intro args r h
  unfold sp58 at h
  split at h
  · injection h with h
    injection h with h1 h2
    subst h2
    exact ⟨by kernel_rfl, fun hf => ⟨of_decide_eq_true (by kernel_rfl), key _ _ _ _ _ _⟩⟩
  · cases h

end Go.FG.Se

namespace Go.FG.Se
open Go.Proofs
def E127 : Env := { toTab := T, call := Go.FG.callIn [], mode := Go.FG.modeIn md, keep := Go.FG.keepIn [(2, [0, 1, 5])], tk := fun n => Go.FG.memB n [], om := Go.FG.omIn [] }
def it127 (N : Nat) {R : Type} : It R := fun rid f cn L K => bif Nat.beq rid 2 then (tell [(0, (.v (.v false [(.own 900000000)]))), (2, (.v (.v false [(.i .i64 0)]))), (10, (.v (.v false [(.i .i64 0)]))), (1800000001, (.o (.row 60 true [])))] (fun | [.I x0, .I x1, .R x2] => Pu.laws_markReaderS.l2 N (fun y0 y1 y2 => (K (.exit 0) (tabl [(0, (.v (.v false [(.own 900000000)]))), (2, (.v (.v false [(.i .i64 y0)]))), (10, (.v (.v false [(.i .i64 y1)]))), (1800000001, (.o (.row 60 true y2)))]))) N x0 x1 x2 | _ => none) L (none)) else none
theorem e127_2 {R : Type} (N : Nat) (K : Ex → St → Option R) : ∀ n : Nat, (∀ x0 x1 x2, iter (exc E127 (it127 N) (loopOf Try.f127 2)) (canon (E127.keep 2))  n (tabl [(0, (.v (.v false [(.own 900000000)]))), (2, (.v (.v false [(.i .i64 x0)]))), (10, (.v (.v false [(.i .i64 x1)]))), (1800000001, (.o (.row 60 true x2)))]) K = Pu.laws_markReaderS.l2 N (fun y0 y1 y2 => (K (.exit 0) (tabl [(0, (.v (.v false [(.own 900000000)]))), (2, (.v (.v false [(.i .i64 y0)]))), (10, (.v (.v false [(.i .i64 y1)]))), (1800000001, (.o (.row 60 true y2)))]))) n x0 x1 x2) := by
  intro n
  induction n with
  | zero => exact (fun _ _ _ => rfl)
  | succ n ih =>
    have e0 : (fun x0 x1 x2 => iter (exc E127 (it127 N) (loopOf Try.f127 2)) (canon (E127.keep 2))  n (tabl [(0, (.v (.v false [(.own 900000000)]))), (2, (.v (.v false [(.i .i64 x0)]))), (10, (.v (.v false [(.i .i64 x1)]))), (1800000001, (.o (.row 60 true x2)))]) K) = Pu.laws_markReaderS.l2 N (fun y0 y1 y2 => (K (.exit 0) (tabl [(0, (.v (.v false [(.own 900000000)]))), (2, (.v (.v false [(.i .i64 y0)]))), (10, (.v (.v false [(.i .i64 y1)]))), (1800000001, (.o (.row 60 true y2)))]))) n := by funext x0 x1 x2; exact ih x0 x1 x2
    intro x0 x1 x2
    have h : ∀ g, exc E127 (it127 N) (loopOf Try.f127 2) (tabl [(0, (.v (.v false [(.own 900000000)]))), (2, (.v (.v false [(.i .i64 x0)]))), (10, (.v (.v false [(.i .i64 x1)]))), (1800000001, (.o (.row 60 true x2)))]) (iterK g (canon (E127.keep 2)) K) = Pu.laws_markReaderS.r2 N (fun x0 x1 x2 => (g (tabl [(0, (.v (.v false [(.own 900000000)]))), (2, (.v (.v false [(.i .i64 x0)]))), (10, (.v (.v false [(.i .i64 x1)]))), (1800000001, (.o (.row 60 true x2)))]))) (fun y0 y1 y2 => (K (.exit 0) (tabl [(0, (.v (.v false [(.own 900000000)]))), (2, (.v (.v false [(.i .i64 y0)]))), (10, (.v (.v false [(.i .i64 y1)]))), (1800000001, (.o (.row 60 true y2)))]))) x0 x1 x2 := by intro g; kernel_rfl
    refine (h _).trans ?_
    show Pu.laws_markReaderS.r2 N (fun x0 x1 x2 => (iter (exc E127 (it127 N) (loopOf Try.f127 2)) (canon (E127.keep 2))  n (tabl [(0, (.v (.v false [(.own 900000000)]))), (2, (.v (.v false [(.i .i64 x0)]))), (10, (.v (.v false [(.i .i64 x1)]))), (1800000001, (.o (.row 60 true x2)))]) K)) (fun y0 y1 y2 => (K (.exit 0) (tabl [(0, (.v (.v false [(.own 900000000)]))), (2, (.v (.v false [(.i .i64 y0)]))), (10, (.v (.v false [(.i .i64 y1)]))), (1800000001, (.o (.row 60 true y2)))]))) x0 x1 x2 = _
    rw [e0]; rfl
theorem lo127_2 {R : Type} (N : Nat) : LoopOk E127 (it127 N (R := R)) (loopOf Try.f127 2) := by
  have e : firstRid (loopOf Try.f127 2) = 2 := by kernel_rfl
  intro L K r
  rw [e]
  intro h
  unfold it127 at h
  simp only [show Nat.beq 2 2 = true from rfl, cond_false, cond_true] at h
  refine tell_ok (Q := fun L => ∃ n, iter (exc E127 (it127 N) (loopOf Try.f127 2)) (canon (E127.keep 2)) n (tabl L) K = some r) h (fun xs h => ?_) (fun h => ?_)
  · (try dsimp only at h)
    split at h
    · exact ⟨N, ((e127_2 N K N) _ _ _).trans h⟩
    · cases h
  cases h
def sp127 : List Arg → Option (Bool × Res)
  | [(.v false [(.ow 60 true a0)]), (.v false [(.i .i64 k1)])] => some (true, ⟨[(.v false [(.i .i64 ((Pu.laws_markReaderS.v a0 k1).1))])], [[(.kp ((Pu.laws_markReaderS.v a0 k1).2))]]⟩)
  | _ => none
theorem ok127 : FnOk Try.prog T 127 sp127 := by
  refine fn_ok (E := E127) hE call_nil hM Try.func127 (code := (Try.f127.body.getD .skip)) (by kernel_rfl) (by kernel_rfl) ?_
  have key : ∀ (a0 : Row) (k1 : Int), FitR a0 → ∃ it : It Res, (∀ c ∈ loopsOf (Try.f127.body.getD .skip), LoopOk E127 it c) ∧ body E127 it Try.f127 [(.v false [(.ow 60 true a0)]), (.v false [(.i .i64 k1)])] = some ⟨[(.v false [(.i .i64 ((Pu.laws_markReaderS.v a0 k1).1))])], [[(.kp ((Pu.laws_markReaderS.v a0 k1).2))]]⟩ := by
    intro a0 k1  g0
    obtain ⟨N, hN⟩ := Pu.laws_markReaderS.b_eq (R := Res) (fun r0 r1 => some ⟨[(.v false [(.i .i64 r0)])], [[(.kp r1)]]⟩) a0 k1 g0
    have hl : loopsOf (Try.f127.body.getD .skip) = [loopOf Try.f127 2] := by kernel_rfl
    refine ⟨it127 N, by rw [hl]; exact (loops_cons (lo127_2 N) loops_nil), ?_⟩
    refine Eq.trans (show body E127 (it127 N) Try.f127 [(.v false [(.ow 60 true a0)]), (.v false [(.i .i64 k1)])] = Pu.laws_markReaderS.b N (fun r0 r1 => some ⟨[(.v false [(.i .i64 r0)])], [[(.kp r1)]]⟩) a0 k1 by kernel_rfl) hN
  intro args r h
  unfold sp127 at h
  split at h
  · injection h with h
    injection h with h1 h2
    subst h2
    exact ⟨by kernel_rfl, fun hf => ⟨of_decide_eq_true (by kernel_rfl), key _ _ hf.1.1⟩⟩
  · cases h

end Go.FG.Se

namespace Go.FG.Se
open Go.Proofs
def E59 : Env := { toTab := T, call := Go.FG.callIn [(127, sp127)], mode := Go.FG.modeIn md, keep := Go.FG.keepIn [], tk := fun n => Go.FG.memB n [], om := Go.FG.omIn [] }
def sp59 : List Arg → Option (Bool × Res)
  | [(.v true [(.i .i64 a0_0), (.s a0_1), (.ow 60 true a0_2)]), (.v false [(.i .i64 k1)])] => some (true, ⟨[(.v false [(.i .i64 ((Pu.laws_markStream.v a0_0 a0_1 a0_2 k1).1))])], [[.nl, .nl, (.kp ((Pu.laws_markStream.v a0_0 a0_1 a0_2 k1).2))]]⟩)
  | _ => none
theorem ok59 : FnOk Try.prog T 59 sp59 := by
  refine fn_ok (E := E59) hE (call_cons ok127 call_nil) hM Try.func59 (code := (Try.f59.body.getD .skip)) (by kernel_rfl) (by kernel_rfl) ?_
  have key : ∀ (a0_0 : Int) (a0_1 : ByteArray) (a0_2 : Row) (k1 : Int), ∃ it : It Res, (∀ c ∈ loopsOf (Try.f59.body.getD .skip), LoopOk E59 it c) ∧ body E59 it Try.f59 [(.v true [(.i .i64 a0_0), (.s a0_1), (.ow 60 true a0_2)]), (.v false [(.i .i64 k1)])] = some ⟨[(.v false [(.i .i64 ((Pu.laws_markStream.v a0_0 a0_1 a0_2 k1).1))])], [[.nl, .nl, (.kp ((Pu.laws_markStream.v a0_0 a0_1 a0_2 k1).2))]]⟩ := by
    intro a0_0 a0_1 a0_2 k1 
    have hN := Pu.laws_markStream.b_eq (R := Res) (fun r0 r1 => some ⟨[(.v false [(.i .i64 r0)])], [[.nl, .nl, (.kp r1)]]⟩) a0_0 a0_1 a0_2 k1
    have hl : loopsOf (Try.f59.body.getD .skip) = [] := by kernel_rfl
    refine ⟨iterN 0, by rw [hl]; exact loops_nil, ?_⟩
    refine Eq.trans (show body E59 (iterN 0) Try.f59 [(.v true [(.i .i64 a0_0), (.s a0_1), (.ow 60 true a0_2)]), (.v false [(.i .i64 k1)])] = Pu.laws_markStream.b (fun r0 r1 => some ⟨[(.v false [(.i .i64 r0)])], [[.nl, .nl, (.kp r1)]]⟩) a0_0 a0_1 a0_2 k1 by kernel_rfl) hN
  intro args r h
  unfold sp59 at h
  split at h
  · injection h with h
    injection h with h1 h2
    subst h2
    exact ⟨by kernel_rfl, fun hf => ⟨of_decide_eq_true (by kernel_rfl), key _ _ _ _⟩⟩
  · cases h

end Go.FG.Se

namespace Go.FG.Se
open Go.Proofs
def E128 : Env := { toTab := T, call := Go.FG.callIn [], mode := Go.FG.modeIn md, keep := Go.FG.keepIn [(2, [0, 1, 4, 5])], tk := fun n => Go.FG.memB n [], om := Go.FG.omIn [] }
def it128 (N : Nat) {R : Type} : It R := fun rid f cn L K => bif Nat.beq rid 2 then (tell [(0, (.v (.v false [(.sh 60 [])]))), (2, (.v (.v false [(.i .i64 0)]))), (8, (.v (.v false [(.i .i64 0)]))), (10, (.v (.v false [(.i .i64 0)])))] (fun | [.R x0, .I x1, .I x2, .I x3] => Pu.laws_heldReaderS.l2 N (fun y0 y1 y2 y3 => (K .ret (tabl [(0, (.v (.v false [(.sh 60 y0)]))), (2, (.v (.v false [(.i .i64 y1)]))), (8, (.v (.v false [(.i .i64 y2)]))), (10, (.v (.v false [(.i .i64 y3)])))]))) (fun y0 y1 y2 y3 => (K (.exit 0) (tabl [(0, (.v (.v false [(.sh 60 y0)]))), (2, (.v (.v false [(.i .i64 y1)]))), (8, (.v (.v false [(.i .i64 y2)]))), (10, (.v (.v false [(.i .i64 y3)])))]))) N x0 x1 x2 x3 | _ => none) L (none)) else none
theorem e128_2 {R : Type} (N : Nat) (K : Ex → St → Option R) : ∀ n : Nat, (∀ x0 x1 x2 x3, iter (exc E128 (it128 N) (loopOf Try.f128 2)) (canon (E128.keep 2))  n (tabl [(0, (.v (.v false [(.sh 60 x0)]))), (2, (.v (.v false [(.i .i64 x1)]))), (8, (.v (.v false [(.i .i64 x2)]))), (10, (.v (.v false [(.i .i64 x3)])))]) K = Pu.laws_heldReaderS.l2 N (fun y0 y1 y2 y3 => (K .ret (tabl [(0, (.v (.v false [(.sh 60 y0)]))), (2, (.v (.v false [(.i .i64 y1)]))), (8, (.v (.v false [(.i .i64 y2)]))), (10, (.v (.v false [(.i .i64 y3)])))]))) (fun y0 y1 y2 y3 => (K (.exit 0) (tabl [(0, (.v (.v false [(.sh 60 y0)]))), (2, (.v (.v false [(.i .i64 y1)]))), (8, (.v (.v false [(.i .i64 y2)]))), (10, (.v (.v false [(.i .i64 y3)])))]))) n x0 x1 x2 x3) := by
  intro n
  induction n with
  | zero => exact (fun _ _ _ _ => rfl)
  | succ n ih =>
    have e0 : (fun x0 x1 x2 x3 => iter (exc E128 (it128 N) (loopOf Try.f128 2)) (canon (E128.keep 2))  n (tabl [(0, (.v (.v false [(.sh 60 x0)]))), (2, (.v (.v false [(.i .i64 x1)]))), (8, (.v (.v false [(.i .i64 x2)]))), (10, (.v (.v false [(.i .i64 x3)])))]) K) = Pu.laws_heldReaderS.l2 N (fun y0 y1 y2 y3 => (K .ret (tabl [(0, (.v (.v false [(.sh 60 y0)]))), (2, (.v (.v false [(.i .i64 y1)]))), (8, (.v (.v false [(.i .i64 y2)]))), (10, (.v (.v false [(.i .i64 y3)])))]))) (fun y0 y1 y2 y3 => (K (.exit 0) (tabl [(0, (.v (.v false [(.sh 60 y0)]))), (2, (.v (.v false [(.i .i64 y1)]))), (8, (.v (.v false [(.i .i64 y2)]))), (10, (.v (.v false [(.i .i64 y3)])))]))) n := by funext x0 x1 x2 x3; exact ih x0 x1 x2 x3
    intro x0 x1 x2 x3
    have h : ∀ g, exc E128 (it128 N) (loopOf Try.f128 2) (tabl [(0, (.v (.v false [(.sh 60 x0)]))), (2, (.v (.v false [(.i .i64 x1)]))), (8, (.v (.v false [(.i .i64 x2)]))), (10, (.v (.v false [(.i .i64 x3)])))]) (iterK g (canon (E128.keep 2)) K) = Pu.laws_heldReaderS.r2 N (fun x0 x1 x2 x3 => (g (tabl [(0, (.v (.v false [(.sh 60 x0)]))), (2, (.v (.v false [(.i .i64 x1)]))), (8, (.v (.v false [(.i .i64 x2)]))), (10, (.v (.v false [(.i .i64 x3)])))]))) (fun y0 y1 y2 y3 => (K .ret (tabl [(0, (.v (.v false [(.sh 60 y0)]))), (2, (.v (.v false [(.i .i64 y1)]))), (8, (.v (.v false [(.i .i64 y2)]))), (10, (.v (.v false [(.i .i64 y3)])))]))) (fun y0 y1 y2 y3 => (K (.exit 0) (tabl [(0, (.v (.v false [(.sh 60 y0)]))), (2, (.v (.v false [(.i .i64 y1)]))), (8, (.v (.v false [(.i .i64 y2)]))), (10, (.v (.v false [(.i .i64 y3)])))]))) x0 x1 x2 x3 := by intro g; kernel_rfl
    refine (h _).trans ?_
    show Pu.laws_heldReaderS.r2 N (fun x0 x1 x2 x3 => (iter (exc E128 (it128 N) (loopOf Try.f128 2)) (canon (E128.keep 2))  n (tabl [(0, (.v (.v false [(.sh 60 x0)]))), (2, (.v (.v false [(.i .i64 x1)]))), (8, (.v (.v false [(.i .i64 x2)]))), (10, (.v (.v false [(.i .i64 x3)])))]) K)) (fun y0 y1 y2 y3 => (K .ret (tabl [(0, (.v (.v false [(.sh 60 y0)]))), (2, (.v (.v false [(.i .i64 y1)]))), (8, (.v (.v false [(.i .i64 y2)]))), (10, (.v (.v false [(.i .i64 y3)])))]))) (fun y0 y1 y2 y3 => (K (.exit 0) (tabl [(0, (.v (.v false [(.sh 60 y0)]))), (2, (.v (.v false [(.i .i64 y1)]))), (8, (.v (.v false [(.i .i64 y2)]))), (10, (.v (.v false [(.i .i64 y3)])))]))) x0 x1 x2 x3 = _
    rw [e0]; rfl
theorem lo128_2 {R : Type} (N : Nat) : LoopOk E128 (it128 N (R := R)) (loopOf Try.f128 2) := by
  have e : firstRid (loopOf Try.f128 2) = 2 := by kernel_rfl
  intro L K r
  rw [e]
  intro h
  unfold it128 at h
  simp only [show Nat.beq 2 2 = true from rfl, cond_false, cond_true] at h
  refine tell_ok (Q := fun L => ∃ n, iter (exc E128 (it128 N) (loopOf Try.f128 2)) (canon (E128.keep 2)) n (tabl L) K = some r) h (fun xs h => ?_) (fun h => ?_)
  · (try dsimp only at h)
    split at h
    · exact ⟨N, ((e128_2 N K N) _ _ _ _).trans h⟩
    · cases h
  cases h
def sp128 : List Arg → Option (Bool × Res)
  | [(.v false [(.sh 60 a0)]), (.v false [(.i .i64 k1)])] => some (true, ⟨[(.v false [(.i .i64 (Pu.laws_heldReaderS.v a0 k1))])], []⟩)
  | _ => none
theorem ok128 : FnOk Try.prog T 128 sp128 := by
  refine fn_ok (E := E128) hE call_nil hM Try.func128 (code := (Try.f128.body.getD .skip)) (by kernel_rfl) (by kernel_rfl) ?_
  have key : ∀ (a0 : Row) (k1 : Int), FitR a0 → ∃ it : It Res, (∀ c ∈ loopsOf (Try.f128.body.getD .skip), LoopOk E128 it c) ∧ body E128 it Try.f128 [(.v false [(.sh 60 a0)]), (.v false [(.i .i64 k1)])] = some ⟨[(.v false [(.i .i64 (Pu.laws_heldReaderS.v a0 k1))])], []⟩ := by
    intro a0 k1  g0
    obtain ⟨N, hN⟩ := Pu.laws_heldReaderS.b_eq (R := Res) (fun r0 => some ⟨[(.v false [(.i .i64 r0)])], []⟩) a0 k1 g0
    have hl : loopsOf (Try.f128.body.getD .skip) = [loopOf Try.f128 2] := by kernel_rfl
    refine ⟨it128 N, by rw [hl]; exact (loops_cons (lo128_2 N) loops_nil), ?_⟩
    refine Eq.trans (show body E128 (it128 N) Try.f128 [(.v false [(.sh 60 a0)]), (.v false [(.i .i64 k1)])] = Pu.laws_heldReaderS.b N (fun r0 => some ⟨[(.v false [(.i .i64 r0)])], []⟩) a0 k1 by kernel_rfl) hN
  intro args r h
  unfold sp128 at h
  split at h
  · injection h with h
    injection h with h1 h2
    subst h2
    exact ⟨by kernel_rfl, fun hf => ⟨of_decide_eq_true (by kernel_rfl), key _ _ hf.1.1⟩⟩
  · cases h

end Go.FG.Se

namespace Go.FG.Se
open Go.Proofs
def E60 : Env := { toTab := T, call := Go.FG.callIn [(128, sp128)], mode := Go.FG.modeIn md, keep := Go.FG.keepIn [], tk := fun n => Go.FG.memB n [], om := Go.FG.omIn [] }
def sp60 : List Arg → Option (Bool × Res)
  | [(.v true [(.i .i64 a0_0), (.s a0_1), (.sh 60 a0_2)]), (.v false [(.i .i64 k1)])] => some (true, ⟨[(.v false [(.i .i64 (Pu.laws_heldStream.v a0_0 a0_1 a0_2 k1))])], []⟩)
  | _ => none
theorem ok60 : FnOk Try.prog T 60 sp60 := by
  refine fn_ok (E := E60) hE (call_cons ok128 call_nil) hM Try.func60 (code := (Try.f60.body.getD .skip)) (by kernel_rfl) (by kernel_rfl) ?_
  have key : ∀ (a0_0 : Int) (a0_1 : ByteArray) (a0_2 : Row) (k1 : Int), ∃ it : It Res, (∀ c ∈ loopsOf (Try.f60.body.getD .skip), LoopOk E60 it c) ∧ body E60 it Try.f60 [(.v true [(.i .i64 a0_0), (.s a0_1), (.sh 60 a0_2)]), (.v false [(.i .i64 k1)])] = some ⟨[(.v false [(.i .i64 (Pu.laws_heldStream.v a0_0 a0_1 a0_2 k1))])], []⟩ := by
    intro a0_0 a0_1 a0_2 k1 
    have hN := Pu.laws_heldStream.b_eq (R := Res) (fun r0 => some ⟨[(.v false [(.i .i64 r0)])], []⟩) a0_0 a0_1 a0_2 k1
    have hl : loopsOf (Try.f60.body.getD .skip) = [] := by kernel_rfl
    refine ⟨iterN 0, by rw [hl]; exact loops_nil, ?_⟩
    refine Eq.trans (show body E60 (iterN 0) Try.f60 [(.v true [(.i .i64 a0_0), (.s a0_1), (.sh 60 a0_2)]), (.v false [(.i .i64 k1)])] = Pu.laws_heldStream.b (fun r0 => some ⟨[(.v false [(.i .i64 r0)])], []⟩) a0_0 a0_1 a0_2 k1 by kernel_rfl) hN
  intro args r h
  unfold sp60 at h
  split at h
  · injection h with h
    injection h with h1 h2
    subst h2
    exact ⟨by kernel_rfl, fun hf => ⟨of_decide_eq_true (by kernel_rfl), key _ _ _ _⟩⟩
  · cases h

end Go.FG.Se

namespace Go.FG.Se
open Go.Proofs
def E9 : Env := { toTab := T, call := Go.FG.callIn [(56, sp56), (57, sp57), (49, sp49), (38, sp38), (58, sp58), (59, sp59), (60, sp60)], mode := Go.FG.modeIn md, keep := Go.FG.keepIn [], tk := fun n => Go.FG.memB n [], om := Go.FG.omIn [] }
def sp9 : List Arg → Option (Bool × Res)
  | [(.v true [(.i .i64 aS0_0), (.s aS0_1), (.sh 206 aS0_2)]), (.v false [(.i .i64 aId1)])] => some (Pu.laws_FnExactStreamJoin.c aS0_0 aS0_1 aS0_2 aId1, ⟨[(.v false [(.b (Pu.laws_FnExactStreamJoin.v aS0_0 aS0_1 aS0_2 aId1))])], []⟩)
  | _ => none
theorem ok9 : FnOk Try.prog T 9 sp9 := by
  refine fn_ok (E := E9) hE (call_cons ok56 (call_cons ok57 (call_cons ok49 (call_cons ok38 (call_cons ok58 (call_cons ok59 (call_cons ok60 call_nil))))))) hM Try.func9 (code := (Try.f9.body.getD .skip)) (by kernel_rfl) (by kernel_rfl) ?_
  have key : ∀ (aS0_0 : Int) (aS0_1 : ByteArray) (aS0_2 : Row) (aId1 : Int), Pu.laws_FnExactStreamJoin.c aS0_0 aS0_1 aS0_2 aId1 = true → ∃ it : It Res, (∀ c ∈ loopsOf (Try.f9.body.getD .skip), LoopOk E9 it c) ∧ body E9 it Try.f9 [(.v true [(.i .i64 aS0_0), (.s aS0_1), (.sh 206 aS0_2)]), (.v false [(.i .i64 aId1)])] = some ⟨[(.v false [(.b (Pu.laws_FnExactStreamJoin.v aS0_0 aS0_1 aS0_2 aId1))])], []⟩ := by
    intro aS0_0 aS0_1 aS0_2 aId1  h1
    have hN := Pu.laws_FnExactStreamJoin.b_eq (R := Res) (fun r0 => some ⟨[(.v false [(.b r0)])], []⟩) aS0_0 aS0_1 aS0_2 aId1 h1
    have hl : loopsOf (Try.f9.body.getD .skip) = [] := by kernel_rfl
    refine ⟨iterN 0, by rw [hl]; exact loops_nil, ?_⟩
    refine Eq.trans (show body E9 (iterN 0) Try.f9 [(.v true [(.i .i64 aS0_0), (.s aS0_1), (.sh 206 aS0_2)]), (.v false [(.i .i64 aId1)])] = Pu.laws_FnExactStreamJoin.b (fun r0 => some ⟨[(.v false [(.b r0)])], []⟩) aS0_0 aS0_1 aS0_2 aId1 by kernel_rfl) hN
  intro args r h
  unfold sp9 at h
  split at h
  · injection h with h
    injection h with h1 h2
    subst h2
    exact ⟨by kernel_rfl, fun hf => ⟨of_decide_eq_true (by kernel_rfl), key _ _ _ _ h1⟩⟩
  · cases h

end Go.FG.Se

