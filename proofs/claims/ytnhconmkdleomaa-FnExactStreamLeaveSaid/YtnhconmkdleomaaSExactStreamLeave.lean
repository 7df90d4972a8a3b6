/- Functions of the program: the evaluation of each, and that a call of it does what is told. No condition. -/
import Derived.Test.YtnhconmkdleomaaTab
import Derived.Test.YtnhconmkdleomaaPExactStreamLeave
set_option linter.unusedVariables false
set_option linter.unusedSimpArgs false
set_option maxRecDepth 100000
namespace Go.FG.Se
open Go.Proofs
def E64 : Env := { toTab := T, call := Go.FG.callIn [], mode := Go.FG.modeIn md, keep := Go.FG.keepIn [], tk := fun n => Go.FG.memB n [], om := Go.FG.omIn [] }
def sp64 : List Arg → Option (Bool × Res)
  | [(.v false [(.sh 96 a0)]), (.v false [(.i .i64 left1)])] => some (true, ⟨[(.v false [(.i .i64 (Pu.laws_szReaderS.v a0 left1))])], []⟩)
  | _ => none
theorem ok64 : FnOk Try.prog T 64 sp64 := by
  refine fn_ok (E := E64) hE call_nil hM Try.func64 (code := (Try.f64.body.getD .skip)) (by kernel_rfl) (by kernel_rfl) ?_
  have key : ∀ (a0 : Row) (left1 : Int), ∃ it : It Res, (∀ c ∈ loopsOf (Try.f64.body.getD .skip), LoopOk E64 it c) ∧ body E64 it Try.f64 [(.v false [(.sh 96 a0)]), (.v false [(.i .i64 left1)])] = some ⟨[(.v false [(.i .i64 (Pu.laws_szReaderS.v a0 left1))])], []⟩ := by
    intro a0 left1 
    have hN := Pu.laws_szReaderS.b_eq (R := Res) (fun r0 => some ⟨[(.v false [(.i .i64 r0)])], []⟩) a0 left1
    have hl : loopsOf (Try.f64.body.getD .skip) = [] := by kernel_rfl
    refine ⟨iterN 0, by rw [hl]; exact loops_nil, ?_⟩
    refine Eq.trans (show body E64 (iterN 0) Try.f64 [(.v false [(.sh 96 a0)]), (.v false [(.i .i64 left1)])] = Pu.laws_szReaderS.b (fun r0 => some ⟨[(.v false [(.i .i64 r0)])], []⟩) a0 left1 by kernel_rfl) hN
  intro args r h
  unfold sp64 at h
  split at h
  · injection h with h
    injection h with h1 h2
    subst h2
    exact ⟨by kernel_rfl, fun hf => ⟨of_decide_eq_true (by kernel_rfl), key _ _⟩⟩
  · cases h

end Go.FG.Se

namespace Go.FG.Se
open Go.Proofs
def E33 : Env := { toTab := T, call := Go.FG.callIn [(64, sp64)], mode := Go.FG.modeIn md, keep := Go.FG.keepIn [], tk := fun n => Go.FG.memB n [], om := Go.FG.omIn [] }
def sp33 : List Arg → Option (Bool × Res)
  | [(.v true [(.i .i64 a0_0), (.s a0_1), (.sh 96 a0_2)]), (.v false [(.i .i64 left1)])] => some (true, ⟨[(.v false [(.i .i64 (Pu.laws_szStream.v a0_0 a0_1 a0_2 left1))])], []⟩)
  | _ => none
theorem ok33 : FnOk Try.prog T 33 sp33 := by
  refine fn_ok (E := E33) hE (call_cons ok64 call_nil) hM Try.func33 (code := (Try.f33.body.getD .skip)) (by kernel_rfl) (by kernel_rfl) ?_
  have key : ∀ (a0_0 : Int) (a0_1 : ByteArray) (a0_2 : Row) (left1 : Int), ∃ it : It Res, (∀ c ∈ loopsOf (Try.f33.body.getD .skip), LoopOk E33 it c) ∧ body E33 it Try.f33 [(.v true [(.i .i64 a0_0), (.s a0_1), (.sh 96 a0_2)]), (.v false [(.i .i64 left1)])] = some ⟨[(.v false [(.i .i64 (Pu.laws_szStream.v a0_0 a0_1 a0_2 left1))])], []⟩ := by
    intro a0_0 a0_1 a0_2 left1 
    have hN := Pu.laws_szStream.b_eq (R := Res) (fun r0 => some ⟨[(.v false [(.i .i64 r0)])], []⟩) a0_0 a0_1 a0_2 left1
    have hl : loopsOf (Try.f33.body.getD .skip) = [] := by kernel_rfl
    refine ⟨iterN 0, by rw [hl]; exact loops_nil, ?_⟩
    refine Eq.trans (show body E33 (iterN 0) Try.f33 [(.v true [(.i .i64 a0_0), (.s a0_1), (.sh 96 a0_2)]), (.v false [(.i .i64 left1)])] = Pu.laws_szStream.b (fun r0 => some ⟨[(.v false [(.i .i64 r0)])], []⟩) a0_0 a0_1 a0_2 left1 by kernel_rfl) hN
  intro args r h
  unfold sp33 at h
  split at h
  · injection h with h
    injection h with h1 h2
    subst h2
    exact ⟨by kernel_rfl, fun hf => ⟨of_decide_eq_true (by kernel_rfl), key _ _ _ _⟩⟩
  · cases h

end Go.FG.Se

namespace Go.FG.Se
open Go.Proofs
def E78 : Env := { toTab := T, call := Go.FG.callIn [], mode := Go.FG.modeIn md, keep := Go.FG.keepIn [], tk := fun n => Go.FG.memB n [], om := Go.FG.omIn [] }
def sp78 : List Arg → Option (Bool × Res)
  | [(.v true [(.i .i64 a0_0), (.i .i64 a0_1)])] => some (true, ⟨[(.v true [(.i .i64 ((Pu.laws_toReader.v a0_0 a0_1).1)), (.i .i64 ((Pu.laws_toReader.v a0_0 a0_1).2))])], []⟩)
  | _ => none
theorem ok78 : FnOk Try.prog T 78 sp78 := by
  refine fn_ok (E := E78) hE call_nil hM Try.func78 (code := (Try.f78.body.getD .skip)) (by kernel_rfl) (by kernel_rfl) ?_
  have key : ∀ (a0_0 : Int) (a0_1 : Int), ∃ it : It Res, (∀ c ∈ loopsOf (Try.f78.body.getD .skip), LoopOk E78 it c) ∧ body E78 it Try.f78 [(.v true [(.i .i64 a0_0), (.i .i64 a0_1)])] = some ⟨[(.v true [(.i .i64 ((Pu.laws_toReader.v a0_0 a0_1).1)), (.i .i64 ((Pu.laws_toReader.v a0_0 a0_1).2))])], []⟩ := by
    intro a0_0 a0_1 
    have hN := Pu.laws_toReader.b_eq (R := Res) (fun r0 r1 => some ⟨[(.v true [(.i .i64 r0), (.i .i64 r1)])], []⟩) a0_0 a0_1
    have hl : loopsOf (Try.f78.body.getD .skip) = [] := by kernel_rfl
    refine ⟨iterN 0, by rw [hl]; exact loops_nil, ?_⟩
    refine Eq.trans (show body E78 (iterN 0) Try.f78 [(.v true [(.i .i64 a0_0), (.i .i64 a0_1)])] = Pu.laws_toReader.b (fun r0 r1 => some ⟨[(.v true [(.i .i64 r0), (.i .i64 r1)])], []⟩) a0_0 a0_1 by kernel_rfl) hN
  intro args r h
  unfold sp78 at h
  split at h
  · injection h with h
    injection h with h1 h2
    subst h2
    exact ⟨by kernel_rfl, fun hf => ⟨of_decide_eq_true (by kernel_rfl), key _ _⟩⟩
  · cases h

end Go.FG.Se

namespace Go.FG.Se
open Go.Proofs
def E65 : Env := { toTab := T, call := Go.FG.callIn [(78, sp78)], mode := Go.FG.modeIn md, keep := Go.FG.keepIn [(3, [0, 3, 4])], tk := fun n => Go.FG.memB n [], om := Go.FG.omIn [] }
def it65 (N : Nat) {R : Type} : It R := fun rid f cn L K => bif Nat.beq rid 3 then (tell [(0, (.v (.v false [(.sh 96 [])]))), (6, (.v (.v false [(.own 0)]))), (8, (.v (.v false [(.i .i64 0)]))), (1, (.o (.row 83 true [])))] (fun | [.R x0, .I x1, .R x2] => Pu.laws_toReaderS.l3 N (fun y0 y1 y2 => (K (.exit 0) (tabl [(0, (.v (.v false [(.sh 96 y0)]))), (6, (.v (.v false [(.own 0)]))), (8, (.v (.v false [(.i .i64 y1)]))), (1, (.o (.row 83 true y2)))]))) N x0 x1 x2 | _ => none) L (none)) else none
theorem e65_3 {R : Type} (N : Nat) (K : Ex → St → Option R) : ∀ n : Nat, (∀ x0 x1 x2, iter (exc E65 (it65 N) (loopOf Try.f65 3)) (canon (E65.keep 3))  n (tabl [(0, (.v (.v false [(.sh 96 x0)]))), (6, (.v (.v false [(.own 0)]))), (8, (.v (.v false [(.i .i64 x1)]))), (1, (.o (.row 83 true x2)))]) K = Pu.laws_toReaderS.l3 N (fun y0 y1 y2 => (K (.exit 0) (tabl [(0, (.v (.v false [(.sh 96 y0)]))), (6, (.v (.v false [(.own 0)]))), (8, (.v (.v false [(.i .i64 y1)]))), (1, (.o (.row 83 true y2)))]))) n x0 x1 x2) := by
  intro n
  induction n with
  | zero => exact (fun _ _ _ => rfl)
  | succ n ih =>
    have e0 : (fun x0 x1 x2 => iter (exc E65 (it65 N) (loopOf Try.f65 3)) (canon (E65.keep 3))  n (tabl [(0, (.v (.v false [(.sh 96 x0)]))), (6, (.v (.v false [(.own 0)]))), (8, (.v (.v false [(.i .i64 x1)]))), (1, (.o (.row 83 true x2)))]) K) = Pu.laws_toReaderS.l3 N (fun y0 y1 y2 => (K (.exit 0) (tabl [(0, (.v (.v false [(.sh 96 y0)]))), (6, (.v (.v false [(.own 0)]))), (8, (.v (.v false [(.i .i64 y1)]))), (1, (.o (.row 83 true y2)))]))) n := by funext x0 x1 x2; exact ih x0 x1 x2
    intro x0 x1 x2
    have h : ∀ g, exc E65 (it65 N) (loopOf Try.f65 3) (tabl [(0, (.v (.v false [(.sh 96 x0)]))), (6, (.v (.v false [(.own 0)]))), (8, (.v (.v false [(.i .i64 x1)]))), (1, (.o (.row 83 true x2)))]) (iterK g (canon (E65.keep 3)) K) = Pu.laws_toReaderS.r3 N (fun x0 x1 x2 => (g (tabl [(0, (.v (.v false [(.sh 96 x0)]))), (6, (.v (.v false [(.own 0)]))), (8, (.v (.v false [(.i .i64 x1)]))), (1, (.o (.row 83 true x2)))]))) (fun y0 y1 y2 => (K (.exit 0) (tabl [(0, (.v (.v false [(.sh 96 y0)]))), (6, (.v (.v false [(.own 0)]))), (8, (.v (.v false [(.i .i64 y1)]))), (1, (.o (.row 83 true y2)))]))) x0 x1 x2 := by intro g; kernel_rfl
    refine (h _).trans ?_
    show Pu.laws_toReaderS.r3 N (fun x0 x1 x2 => (iter (exc E65 (it65 N) (loopOf Try.f65 3)) (canon (E65.keep 3))  n (tabl [(0, (.v (.v false [(.sh 96 x0)]))), (6, (.v (.v false [(.own 0)]))), (8, (.v (.v false [(.i .i64 x1)]))), (1, (.o (.row 83 true x2)))]) K)) (fun y0 y1 y2 => (K (.exit 0) (tabl [(0, (.v (.v false [(.sh 96 y0)]))), (6, (.v (.v false [(.own 0)]))), (8, (.v (.v false [(.i .i64 y1)]))), (1, (.o (.row 83 true y2)))]))) x0 x1 x2 = _
    rw [e0]; rfl
theorem lo65_3 {R : Type} (N : Nat) : LoopOk E65 (it65 N (R := R)) (loopOf Try.f65 3) := by
  have e : firstRid (loopOf Try.f65 3) = 3 := by kernel_rfl
  intro L K r
  rw [e]
  intro h
  unfold it65 at h
  simp only [show Nat.beq 3 3 = true from rfl, cond_false, cond_true] at h
  refine tell_ok (Q := fun L => ∃ n, iter (exc E65 (it65 N) (loopOf Try.f65 3)) (canon (E65.keep 3)) n (tabl L) K = some r) h (fun xs h => ?_) (fun h => ?_)
  · (try dsimp only at h)
    split at h
    · exact ⟨N, ((e65_3 N K N) _ _ _).trans h⟩
    · cases h
  cases h
def sp65 : List Arg → Option (Bool × Res)
  | [(.v false [(.sh 96 a0)])] => some (Pu.laws_toReaderS.c a0, ⟨[(.v false [(.ow 83 true (Pu.laws_toReaderS.v a0))])], []⟩)
  | _ => none
theorem ok65 : FnOk Try.prog T 65 sp65 := by
  refine fn_ok (E := E65) hE (call_cons ok78 call_nil) hM Try.func65 (code := (Try.f65.body.getD .skip)) (by kernel_rfl) (by kernel_rfl) ?_
  have key : ∀ (a0 : Row), Pu.laws_toReaderS.c a0 = true → ∃ it : It Res, (∀ c ∈ loopsOf (Try.f65.body.getD .skip), LoopOk E65 it c) ∧ body E65 it Try.f65 [(.v false [(.sh 96 a0)])] = some ⟨[(.v false [(.ow 83 true (Pu.laws_toReaderS.v a0))])], []⟩ := by
    intro a0  h1
    obtain ⟨N, hN⟩ := Pu.laws_toReaderS.b_eq (R := Res) (fun r0 => some ⟨[(.v false [(.ow 83 true r0)])], []⟩) a0 h1
    have hl : loopsOf (Try.f65.body.getD .skip) = [loopOf Try.f65 3] := by kernel_rfl
    refine ⟨it65 N, by rw [hl]; exact (loops_cons (lo65_3 N) loops_nil), ?_⟩
    refine Eq.trans (show body E65 (it65 N) Try.f65 [(.v false [(.sh 96 a0)])] = Pu.laws_toReaderS.b N (fun r0 => some ⟨[(.v false [(.ow 83 true r0)])], []⟩) a0 by kernel_rfl) hN
  intro args r h
  unfold sp65 at h
  split at h
  · injection h with h
    injection h with h1 h2
    subst h2
    exact ⟨by kernel_rfl, fun hf => ⟨of_decide_eq_true (by kernel_rfl), key _ h1⟩⟩
  · cases h

end Go.FG.Se

namespace Go.FG.Se
open Go.Proofs
def E35 : Env := { toTab := T, call := Go.FG.callIn [(65, sp65)], mode := Go.FG.modeIn md, keep := Go.FG.keepIn [], tk := fun n => Go.FG.memB n [], om := Go.FG.omIn [] }
def sp35 : List Arg → Option (Bool × Res)
  | [(.v true [(.i .i64 a0_0), (.s a0_1), (.sh 96 a0_2)])] => some (Pu.laws_toStream.c a0_0 a0_1 a0_2, ⟨[(.v true [(.i .i64 ((Pu.laws_toStream.v a0_0 a0_1 a0_2).1)), (.s ((Pu.laws_toStream.v a0_0 a0_1 a0_2).2.1)), (.ow 83 true ((Pu.laws_toStream.v a0_0 a0_1 a0_2).2.2))])], []⟩)
  | _ => none
theorem ok35 : FnOk Try.prog T 35 sp35 := by
  refine fn_ok (E := E35) hE (call_cons ok65 call_nil) hM Try.func35 (code := (Try.f35.body.getD .skip)) (by kernel_rfl) (by kernel_rfl) ?_
  have key : ∀ (a0_0 : Int) (a0_1 : ByteArray) (a0_2 : Row), Pu.laws_toStream.c a0_0 a0_1 a0_2 = true → ∃ it : It Res, (∀ c ∈ loopsOf (Try.f35.body.getD .skip), LoopOk E35 it c) ∧ body E35 it Try.f35 [(.v true [(.i .i64 a0_0), (.s a0_1), (.sh 96 a0_2)])] = some ⟨[(.v true [(.i .i64 ((Pu.laws_toStream.v a0_0 a0_1 a0_2).1)), (.s ((Pu.laws_toStream.v a0_0 a0_1 a0_2).2.1)), (.ow 83 true ((Pu.laws_toStream.v a0_0 a0_1 a0_2).2.2))])], []⟩ := by
    intro a0_0 a0_1 a0_2  h1
    have hN := Pu.laws_toStream.b_eq (R := Res) (fun r0 r1 r2 => some ⟨[(.v true [(.i .i64 r0), (.s r1), (.ow 83 true r2)])], []⟩) a0_0 a0_1 a0_2 h1
    have hl : loopsOf (Try.f35.body.getD .skip) = [] := by kernel_rfl
    refine ⟨iterN 0, by rw [hl]; exact loops_nil, ?_⟩
    refine Eq.trans (show body E35 (iterN 0) Try.f35 [(.v true [(.i .i64 a0_0), (.s a0_1), (.sh 96 a0_2)])] = Pu.laws_toStream.b (fun r0 r1 r2 => some ⟨[(.v true [(.i .i64 r0), (.s r1), (.ow 83 true r2)])], []⟩) a0_0 a0_1 a0_2 by kernel_rfl) hN
  intro args r h
  unfold sp35 at h
  split at h
  · injection h with h
    injection h with h1 h2
    subst h2
    exact ⟨by kernel_rfl, fun hf => ⟨of_decide_eq_true (by kernel_rfl), key _ _ _ h1⟩⟩
  · cases h

end Go.FG.Se

namespace Go.FG.Se
open Go.Proofs
def E80 : Env := { toTab := T, call := Go.FG.callIn [], mode := Go.FG.modeIn md, keep := Go.FG.keepIn [], tk := fun n => Go.FG.memB n [], om := Go.FG.omIn [] }
def sp80 : List Arg → Option (Bool × Res)
  | [(.v true [(.i .i64 r0_0), (.i .i64 r0_1)]), (.fb [(.i .i64 id1)])] => some (true, ⟨[(.v false [(.b (Pu.impl_readerAt_1.v r0_0 r0_1 id1))])], []⟩)
  | _ => none
theorem ok80 : FnOk Try.prog T 80 sp80 := by
  refine fn_ok (E := E80) hE call_nil hM Try.func80 (code := (Try.f80.body.getD .skip)) (by kernel_rfl) (by kernel_rfl) ?_
  have key : ∀ (r0_0 : Int) (r0_1 : Int) (id1 : Int), ∃ it : It Res, (∀ c ∈ loopsOf (Try.f80.body.getD .skip), LoopOk E80 it c) ∧ body E80 it Try.f80 [(.v true [(.i .i64 r0_0), (.i .i64 r0_1)]), (.fb [(.i .i64 id1)])] = some ⟨[(.v false [(.b (Pu.impl_readerAt_1.v r0_0 r0_1 id1))])], []⟩ := by
    intro r0_0 r0_1 id1 
    have hN := Pu.impl_readerAt_1.b_eq (R := Res) (fun r0 => some ⟨[(.v false [(.b r0)])], []⟩) r0_0 r0_1 id1
    have hl : loopsOf (Try.f80.body.getD .skip) = [] := by kernel_rfl
    refine ⟨iterN 0, by rw [hl]; exact loops_nil, ?_⟩
    refine Eq.trans (show body E80 (iterN 0) Try.f80 [(.v true [(.i .i64 r0_0), (.i .i64 r0_1)]), (.fb [(.i .i64 id1)])] = Pu.impl_readerAt_1.b (fun r0 => some ⟨[(.v false [(.b r0)])], []⟩) r0_0 r0_1 id1 by kernel_rfl) hN
  intro args r h
  unfold sp80 at h
  split at h
  · injection h with h
    injection h with h1 h2
    subst h2
    exact ⟨by kernel_rfl, fun hf => ⟨of_decide_eq_true (by kernel_rfl), key _ _ _⟩⟩
  · cases h

end Go.FG.Se

namespace Go.FG.Se
open Go.Proofs
def E79a : Env := { toTab := T, call := Go.FG.callIn [(80, sp80)], mode := Go.FG.modeIn md, keep := Go.FG.keepIn [(2, [0, 1, 4, 7, 8])], tk := fun n => Go.FG.memB n [], om := Go.FG.omIn [] }
def it79a (N : Nat) {R : Type} : It R := fun rid f cn L K => bif Nat.beq rid 2 then (tell [(0, (.v (.v false [(.sh 83 [])]))), (2, (.v (.v false [(.fn 80 [[(.i .i64 0)]])]))), (8, (.v (.v false [(.i .i64 0)]))), (14, (.v (.v false [(.i .i64 0)]))), (16, (.v (.v false [(.i .i64 0)])))] (fun | [.R x0, .I x1, .I x2, .I x3, .I x4] => Pu.slices_IndexFunc_Readera.l2 N (fun y0 y1 y2 y3 y4 => (K .ret (tabl [(0, (.v (.v false [(.sh 83 y0)]))), (2, (.v (.v false [(.fn 80 [[(.i .i64 y1)]])]))), (8, (.v (.v false [(.i .i64 y2)]))), (14, (.v (.v false [(.i .i64 y3)]))), (16, (.v (.v false [(.i .i64 y4)])))]))) (fun y0 y1 y2 y3 y4 => (K (.exit 0) (tabl [(0, (.v (.v false [(.sh 83 y0)]))), (2, (.v (.v false [(.fn 80 [[(.i .i64 y1)]])]))), (8, (.v (.v false [(.i .i64 y2)]))), (14, (.v (.v false [(.i .i64 y3)]))), (16, (.v (.v false [(.i .i64 y4)])))]))) N x0 x1 x2 x3 x4 | _ => none) L (none)) else none
theorem e79a_2 {R : Type} (N : Nat) (K : Ex → St → Option R) : ∀ n : Nat, (∀ x0 x1 x2 x3 x4, iter (exc E79a (it79a N) (loopOf Try.f79 2)) (canon (E79a.keep 2))  n (tabl [(0, (.v (.v false [(.sh 83 x0)]))), (2, (.v (.v false [(.fn 80 [[(.i .i64 x1)]])]))), (8, (.v (.v false [(.i .i64 x2)]))), (14, (.v (.v false [(.i .i64 x3)]))), (16, (.v (.v false [(.i .i64 x4)])))]) K = Pu.slices_IndexFunc_Readera.l2 N (fun y0 y1 y2 y3 y4 => (K .ret (tabl [(0, (.v (.v false [(.sh 83 y0)]))), (2, (.v (.v false [(.fn 80 [[(.i .i64 y1)]])]))), (8, (.v (.v false [(.i .i64 y2)]))), (14, (.v (.v false [(.i .i64 y3)]))), (16, (.v (.v false [(.i .i64 y4)])))]))) (fun y0 y1 y2 y3 y4 => (K (.exit 0) (tabl [(0, (.v (.v false [(.sh 83 y0)]))), (2, (.v (.v false [(.fn 80 [[(.i .i64 y1)]])]))), (8, (.v (.v false [(.i .i64 y2)]))), (14, (.v (.v false [(.i .i64 y3)]))), (16, (.v (.v false [(.i .i64 y4)])))]))) n x0 x1 x2 x3 x4) := by
  intro n
  induction n with
  | zero => exact (fun _ _ _ _ _ => rfl)
  | succ n ih =>
    have e0 : (fun x0 x1 x2 x3 x4 => iter (exc E79a (it79a N) (loopOf Try.f79 2)) (canon (E79a.keep 2))  n (tabl [(0, (.v (.v false [(.sh 83 x0)]))), (2, (.v (.v false [(.fn 80 [[(.i .i64 x1)]])]))), (8, (.v (.v false [(.i .i64 x2)]))), (14, (.v (.v false [(.i .i64 x3)]))), (16, (.v (.v false [(.i .i64 x4)])))]) K) = Pu.slices_IndexFunc_Readera.l2 N (fun y0 y1 y2 y3 y4 => (K .ret (tabl [(0, (.v (.v false [(.sh 83 y0)]))), (2, (.v (.v false [(.fn 80 [[(.i .i64 y1)]])]))), (8, (.v (.v false [(.i .i64 y2)]))), (14, (.v (.v false [(.i .i64 y3)]))), (16, (.v (.v false [(.i .i64 y4)])))]))) (fun y0 y1 y2 y3 y4 => (K (.exit 0) (tabl [(0, (.v (.v false [(.sh 83 y0)]))), (2, (.v (.v false [(.fn 80 [[(.i .i64 y1)]])]))), (8, (.v (.v false [(.i .i64 y2)]))), (14, (.v (.v false [(.i .i64 y3)]))), (16, (.v (.v false [(.i .i64 y4)])))]))) n := by funext x0 x1 x2 x3 x4; exact ih x0 x1 x2 x3 x4
    intro x0 x1 x2 x3 x4
    have h : ∀ g, exc E79a (it79a N) (loopOf Try.f79 2) (tabl [(0, (.v (.v false [(.sh 83 x0)]))), (2, (.v (.v false [(.fn 80 [[(.i .i64 x1)]])]))), (8, (.v (.v false [(.i .i64 x2)]))), (14, (.v (.v false [(.i .i64 x3)]))), (16, (.v (.v false [(.i .i64 x4)])))]) (iterK g (canon (E79a.keep 2)) K) = Pu.slices_IndexFunc_Readera.r2 N (fun x0 x1 x2 x3 x4 => (g (tabl [(0, (.v (.v false [(.sh 83 x0)]))), (2, (.v (.v false [(.fn 80 [[(.i .i64 x1)]])]))), (8, (.v (.v false [(.i .i64 x2)]))), (14, (.v (.v false [(.i .i64 x3)]))), (16, (.v (.v false [(.i .i64 x4)])))]))) (fun y0 y1 y2 y3 y4 => (K .ret (tabl [(0, (.v (.v false [(.sh 83 y0)]))), (2, (.v (.v false [(.fn 80 [[(.i .i64 y1)]])]))), (8, (.v (.v false [(.i .i64 y2)]))), (14, (.v (.v false [(.i .i64 y3)]))), (16, (.v (.v false [(.i .i64 y4)])))]))) (fun y0 y1 y2 y3 y4 => (K (.exit 0) (tabl [(0, (.v (.v false [(.sh 83 y0)]))), (2, (.v (.v false [(.fn 80 [[(.i .i64 y1)]])]))), (8, (.v (.v false [(.i .i64 y2)]))), (14, (.v (.v false [(.i .i64 y3)]))), (16, (.v (.v false [(.i .i64 y4)])))]))) x0 x1 x2 x3 x4 := by intro g; kernel_rfl
    refine (h _).trans ?_
    show Pu.slices_IndexFunc_Readera.r2 N (fun x0 x1 x2 x3 x4 => (iter (exc E79a (it79a N) (loopOf Try.f79 2)) (canon (E79a.keep 2))  n (tabl [(0, (.v (.v false [(.sh 83 x0)]))), (2, (.v (.v false [(.fn 80 [[(.i .i64 x1)]])]))), (8, (.v (.v false [(.i .i64 x2)]))), (14, (.v (.v false [(.i .i64 x3)]))), (16, (.v (.v false [(.i .i64 x4)])))]) K)) (fun y0 y1 y2 y3 y4 => (K .ret (tabl [(0, (.v (.v false [(.sh 83 y0)]))), (2, (.v (.v false [(.fn 80 [[(.i .i64 y1)]])]))), (8, (.v (.v false [(.i .i64 y2)]))), (14, (.v (.v false [(.i .i64 y3)]))), (16, (.v (.v false [(.i .i64 y4)])))]))) (fun y0 y1 y2 y3 y4 => (K (.exit 0) (tabl [(0, (.v (.v false [(.sh 83 y0)]))), (2, (.v (.v false [(.fn 80 [[(.i .i64 y1)]])]))), (8, (.v (.v false [(.i .i64 y2)]))), (14, (.v (.v false [(.i .i64 y3)]))), (16, (.v (.v false [(.i .i64 y4)])))]))) x0 x1 x2 x3 x4 = _
    rw [e0]; rfl
theorem lo79a_2 {R : Type} (N : Nat) : LoopOk E79a (it79a N (R := R)) (loopOf Try.f79 2) := by
  have e : firstRid (loopOf Try.f79 2) = 2 := by kernel_rfl
  intro L K r
  rw [e]
  intro h
  unfold it79a at h
  simp only [show Nat.beq 2 2 = true from rfl, cond_false, cond_true] at h
  refine tell_ok (Q := fun L => ∃ n, iter (exc E79a (it79a N) (loopOf Try.f79 2)) (canon (E79a.keep 2)) n (tabl L) K = some r) h (fun xs h => ?_) (fun h => ?_)
  · (try dsimp only at h)
    split at h
    · exact ⟨N, ((e79a_2 N K N) _ _ _ _ _).trans h⟩
    · cases h
  cases h
def sp79a : List Arg → Option (Bool × Res)
  | [(.v false [(.sh 83 s0)]), (.v false [(.fn 80 [[(.i .i64 id1)]])])] => some (true, ⟨[(.v false [(.i .i64 (Pu.slices_IndexFunc_Readera.v s0 id1))])], []⟩)
  | _ => none
theorem ok79a : FnOk Try.prog T 79 sp79a := by
  refine fn_ok (E := E79a) hE (call_cons ok80 call_nil) hM Try.func79 (code := (Try.f79.body.getD .skip)) (by kernel_rfl) (by kernel_rfl) ?_
  have key : ∀ (s0 : Row) (id1 : Int), FitR s0 → ∃ it : It Res, (∀ c ∈ loopsOf (Try.f79.body.getD .skip), LoopOk E79a it c) ∧ body E79a it Try.f79 [(.v false [(.sh 83 s0)]), (.v false [(.fn 80 [[(.i .i64 id1)]])])] = some ⟨[(.v false [(.i .i64 (Pu.slices_IndexFunc_Readera.v s0 id1))])], []⟩ := by
    intro s0 id1  g0
    obtain ⟨N, hN⟩ := Pu.slices_IndexFunc_Readera.b_eq (R := Res) (fun r0 => some ⟨[(.v false [(.i .i64 r0)])], []⟩) s0 id1 g0
    have hl : loopsOf (Try.f79.body.getD .skip) = [loopOf Try.f79 2] := by kernel_rfl
    refine ⟨it79a N, by rw [hl]; exact (loops_cons (lo79a_2 N) loops_nil), ?_⟩
    refine Eq.trans (show body E79a (it79a N) Try.f79 [(.v false [(.sh 83 s0)]), (.v false [(.fn 80 [[(.i .i64 id1)]])])] = Pu.slices_IndexFunc_Readera.b N (fun r0 => some ⟨[(.v false [(.i .i64 r0)])], []⟩) s0 id1 by kernel_rfl) hN
  intro args r h
  unfold sp79a at h
  split at h
  · injection h with h
    injection h with h1 h2
    subst h2
    exact ⟨by kernel_rfl, fun hf => ⟨of_decide_eq_true (by kernel_rfl), key _ _ hf.1.1⟩⟩
  · cases h

end Go.FG.Se

namespace Go.FG.Se
open Go.Proofs
def E72 : Env := { toTab := T, call := Go.FG.callIn [], mode := Go.FG.modeIn md, keep := Go.FG.keepIn [], tk := fun n => Go.FG.memB n [], om := Go.FG.omIn [] }
def sp72 : List Arg → Option (Bool × Res)
  | [(.v true [(.i .i64 r0_0), (.i .i64 r0_1)]), (.fb [(.i .i64 id1)])] => some (true, ⟨[(.v false [(.b (Pu.impl_StreamLeave_1.v r0_0 r0_1 id1))])], []⟩)
  | _ => none
theorem ok72 : FnOk Try.prog T 72 sp72 := by
  refine fn_ok (E := E72) hE call_nil hM Try.func72 (code := (Try.f72.body.getD .skip)) (by kernel_rfl) (by kernel_rfl) ?_
  have key : ∀ (r0_0 : Int) (r0_1 : Int) (id1 : Int), ∃ it : It Res, (∀ c ∈ loopsOf (Try.f72.body.getD .skip), LoopOk E72 it c) ∧ body E72 it Try.f72 [(.v true [(.i .i64 r0_0), (.i .i64 r0_1)]), (.fb [(.i .i64 id1)])] = some ⟨[(.v false [(.b (Pu.impl_StreamLeave_1.v r0_0 r0_1 id1))])], []⟩ := by
    intro r0_0 r0_1 id1 
    have hN := Pu.impl_StreamLeave_1.b_eq (R := Res) (fun r0 => some ⟨[(.v false [(.b r0)])], []⟩) r0_0 r0_1 id1
    have hl : loopsOf (Try.f72.body.getD .skip) = [] := by kernel_rfl
    refine ⟨iterN 0, by rw [hl]; exact loops_nil, ?_⟩
    refine Eq.trans (show body E72 (iterN 0) Try.f72 [(.v true [(.i .i64 r0_0), (.i .i64 r0_1)]), (.fb [(.i .i64 id1)])] = Pu.impl_StreamLeave_1.b (fun r0 => some ⟨[(.v false [(.b r0)])], []⟩) r0_0 r0_1 id1 by kernel_rfl) hN
  intro args r h
  unfold sp72 at h
  split at h
  · injection h with h
    injection h with h1 h2
    subst h2
    exact ⟨by kernel_rfl, fun hf => ⟨of_decide_eq_true (by kernel_rfl), key _ _ _⟩⟩
  · cases h

end Go.FG.Se

namespace Go.FG.Se
open Go.Proofs
def E79b : Env := { toTab := T, call := Go.FG.callIn [(72, sp72)], mode := Go.FG.modeIn md, keep := Go.FG.keepIn [(2, [0, 1, 4, 7, 8])], tk := fun n => Go.FG.memB n [], om := Go.FG.omIn [] }
def it79b (N : Nat) {R : Type} : It R := fun rid f cn L K => bif Nat.beq rid 2 then (tell [(0, (.v (.v false [(.sh 83 [])]))), (2, (.v (.v false [(.fn 72 [[(.i .i64 0)]])]))), (8, (.v (.v false [(.i .i64 0)]))), (14, (.v (.v false [(.i .i64 0)]))), (16, (.v (.v false [(.i .i64 0)])))] (fun | [.R x0, .I x1, .I x2, .I x3, .I x4] => Pu.slices_IndexFunc_Readerb.l2 N (fun y0 y1 y2 y3 y4 => (K .ret (tabl [(0, (.v (.v false [(.sh 83 y0)]))), (2, (.v (.v false [(.fn 72 [[(.i .i64 y1)]])]))), (8, (.v (.v false [(.i .i64 y2)]))), (14, (.v (.v false [(.i .i64 y3)]))), (16, (.v (.v false [(.i .i64 y4)])))]))) (fun y0 y1 y2 y3 y4 => (K (.exit 0) (tabl [(0, (.v (.v false [(.sh 83 y0)]))), (2, (.v (.v false [(.fn 72 [[(.i .i64 y1)]])]))), (8, (.v (.v false [(.i .i64 y2)]))), (14, (.v (.v false [(.i .i64 y3)]))), (16, (.v (.v false [(.i .i64 y4)])))]))) N x0 x1 x2 x3 x4 | _ => none) L (none)) else none
theorem e79b_2 {R : Type} (N : Nat) (K : Ex → St → Option R) : ∀ n : Nat, (∀ x0 x1 x2 x3 x4, iter (exc E79b (it79b N) (loopOf Try.f79 2)) (canon (E79b.keep 2))  n (tabl [(0, (.v (.v false [(.sh 83 x0)]))), (2, (.v (.v false [(.fn 72 [[(.i .i64 x1)]])]))), (8, (.v (.v false [(.i .i64 x2)]))), (14, (.v (.v false [(.i .i64 x3)]))), (16, (.v (.v false [(.i .i64 x4)])))]) K = Pu.slices_IndexFunc_Readerb.l2 N (fun y0 y1 y2 y3 y4 => (K .ret (tabl [(0, (.v (.v false [(.sh 83 y0)]))), (2, (.v (.v false [(.fn 72 [[(.i .i64 y1)]])]))), (8, (.v (.v false [(.i .i64 y2)]))), (14, (.v (.v false [(.i .i64 y3)]))), (16, (.v (.v false [(.i .i64 y4)])))]))) (fun y0 y1 y2 y3 y4 => (K (.exit 0) (tabl [(0, (.v (.v false [(.sh 83 y0)]))), (2, (.v (.v false [(.fn 72 [[(.i .i64 y1)]])]))), (8, (.v (.v false [(.i .i64 y2)]))), (14, (.v (.v false [(.i .i64 y3)]))), (16, (.v (.v false [(.i .i64 y4)])))]))) n x0 x1 x2 x3 x4) := by
  intro n
  induction n with
  | zero => exact (fun _ _ _ _ _ => rfl)
  | succ n ih =>
    have e0 : (fun x0 x1 x2 x3 x4 => iter (exc E79b (it79b N) (loopOf Try.f79 2)) (canon (E79b.keep 2))  n (tabl [(0, (.v (.v false [(.sh 83 x0)]))), (2, (.v (.v false [(.fn 72 [[(.i .i64 x1)]])]))), (8, (.v (.v false [(.i .i64 x2)]))), (14, (.v (.v false [(.i .i64 x3)]))), (16, (.v (.v false [(.i .i64 x4)])))]) K) = Pu.slices_IndexFunc_Readerb.l2 N (fun y0 y1 y2 y3 y4 => (K .ret (tabl [(0, (.v (.v false [(.sh 83 y0)]))), (2, (.v (.v false [(.fn 72 [[(.i .i64 y1)]])]))), (8, (.v (.v false [(.i .i64 y2)]))), (14, (.v (.v false [(.i .i64 y3)]))), (16, (.v (.v false [(.i .i64 y4)])))]))) (fun y0 y1 y2 y3 y4 => (K (.exit 0) (tabl [(0, (.v (.v false [(.sh 83 y0)]))), (2, (.v (.v false [(.fn 72 [[(.i .i64 y1)]])]))), (8, (.v (.v false [(.i .i64 y2)]))), (14, (.v (.v false [(.i .i64 y3)]))), (16, (.v (.v false [(.i .i64 y4)])))]))) n := by funext x0 x1 x2 x3 x4; exact ih x0 x1 x2 x3 x4
    intro x0 x1 x2 x3 x4
    have h : ∀ g, exc E79b (it79b N) (loopOf Try.f79 2) (tabl [(0, (.v (.v false [(.sh 83 x0)]))), (2, (.v (.v false [(.fn 72 [[(.i .i64 x1)]])]))), (8, (.v (.v false [(.i .i64 x2)]))), (14, (.v (.v false [(.i .i64 x3)]))), (16, (.v (.v false [(.i .i64 x4)])))]) (iterK g (canon (E79b.keep 2)) K) = Pu.slices_IndexFunc_Readerb.r2 N (fun x0 x1 x2 x3 x4 => (g (tabl [(0, (.v (.v false [(.sh 83 x0)]))), (2, (.v (.v false [(.fn 72 [[(.i .i64 x1)]])]))), (8, (.v (.v false [(.i .i64 x2)]))), (14, (.v (.v false [(.i .i64 x3)]))), (16, (.v (.v false [(.i .i64 x4)])))]))) (fun y0 y1 y2 y3 y4 => (K .ret (tabl [(0, (.v (.v false [(.sh 83 y0)]))), (2, (.v (.v false [(.fn 72 [[(.i .i64 y1)]])]))), (8, (.v (.v false [(.i .i64 y2)]))), (14, (.v (.v false [(.i .i64 y3)]))), (16, (.v (.v false [(.i .i64 y4)])))]))) (fun y0 y1 y2 y3 y4 => (K (.exit 0) (tabl [(0, (.v (.v false [(.sh 83 y0)]))), (2, (.v (.v false [(.fn 72 [[(.i .i64 y1)]])]))), (8, (.v (.v false [(.i .i64 y2)]))), (14, (.v (.v false [(.i .i64 y3)]))), (16, (.v (.v false [(.i .i64 y4)])))]))) x0 x1 x2 x3 x4 := by intro g; kernel_rfl
    refine (h _).trans ?_
    show Pu.slices_IndexFunc_Readerb.r2 N (fun x0 x1 x2 x3 x4 => (iter (exc E79b (it79b N) (loopOf Try.f79 2)) (canon (E79b.keep 2))  n (tabl [(0, (.v (.v false [(.sh 83 x0)]))), (2, (.v (.v false [(.fn 72 [[(.i .i64 x1)]])]))), (8, (.v (.v false [(.i .i64 x2)]))), (14, (.v (.v false [(.i .i64 x3)]))), (16, (.v (.v false [(.i .i64 x4)])))]) K)) (fun y0 y1 y2 y3 y4 => (K .ret (tabl [(0, (.v (.v false [(.sh 83 y0)]))), (2, (.v (.v false [(.fn 72 [[(.i .i64 y1)]])]))), (8, (.v (.v false [(.i .i64 y2)]))), (14, (.v (.v false [(.i .i64 y3)]))), (16, (.v (.v false [(.i .i64 y4)])))]))) (fun y0 y1 y2 y3 y4 => (K (.exit 0) (tabl [(0, (.v (.v false [(.sh 83 y0)]))), (2, (.v (.v false [(.fn 72 [[(.i .i64 y1)]])]))), (8, (.v (.v false [(.i .i64 y2)]))), (14, (.v (.v false [(.i .i64 y3)]))), (16, (.v (.v false [(.i .i64 y4)])))]))) x0 x1 x2 x3 x4 = _
    rw [e0]; rfl
theorem lo79b_2 {R : Type} (N : Nat) : LoopOk E79b (it79b N (R := R)) (loopOf Try.f79 2) := by
  have e : firstRid (loopOf Try.f79 2) = 2 := by kernel_rfl
  intro L K r
  rw [e]
  intro h
  unfold it79b at h
  simp only [show Nat.beq 2 2 = true from rfl, cond_false, cond_true] at h
  refine tell_ok (Q := fun L => ∃ n, iter (exc E79b (it79b N) (loopOf Try.f79 2)) (canon (E79b.keep 2)) n (tabl L) K = some r) h (fun xs h => ?_) (fun h => ?_)
  · (try dsimp only at h)
    split at h
    · exact ⟨N, ((e79b_2 N K N) _ _ _ _ _).trans h⟩
    · cases h
  cases h
def sp79b : List Arg → Option (Bool × Res)
  | [(.v false [(.sh 83 s0)]), (.v false [(.fn 72 [[(.i .i64 id1)]])])] => some (true, ⟨[(.v false [(.i .i64 (Pu.slices_IndexFunc_Readerb.v s0 id1))])], []⟩)
  | _ => none
theorem ok79b : FnOk Try.prog T 79 sp79b := by
  refine fn_ok (E := E79b) hE (call_cons ok72 call_nil) hM Try.func79 (code := (Try.f79.body.getD .skip)) (by kernel_rfl) (by kernel_rfl) ?_
  have key : ∀ (s0 : Row) (id1 : Int), FitR s0 → ∃ it : It Res, (∀ c ∈ loopsOf (Try.f79.body.getD .skip), LoopOk E79b it c) ∧ body E79b it Try.f79 [(.v false [(.sh 83 s0)]), (.v false [(.fn 72 [[(.i .i64 id1)]])])] = some ⟨[(.v false [(.i .i64 (Pu.slices_IndexFunc_Readerb.v s0 id1))])], []⟩ := by
    intro s0 id1  g0
    obtain ⟨N, hN⟩ := Pu.slices_IndexFunc_Readerb.b_eq (R := Res) (fun r0 => some ⟨[(.v false [(.i .i64 r0)])], []⟩) s0 id1 g0
    have hl : loopsOf (Try.f79.body.getD .skip) = [loopOf Try.f79 2] := by kernel_rfl
    refine ⟨it79b N, by rw [hl]; exact (loops_cons (lo79b_2 N) loops_nil), ?_⟩
    refine Eq.trans (show body E79b (it79b N) Try.f79 [(.v false [(.sh 83 s0)]), (.v false [(.fn 72 [[(.i .i64 id1)]])])] = Pu.slices_IndexFunc_Readerb.b N (fun r0 => some ⟨[(.v false [(.i .i64 r0)])], []⟩) s0 id1 by kernel_rfl) hN
  intro args r h
  unfold sp79b at h
  split at h
  · injection h with h
    injection h with h1 h2
    subst h2
    exact ⟨by kernel_rfl, fun hf => ⟨of_decide_eq_true (by kernel_rfl), key _ _ hf.1.1⟩⟩
  · cases h

end Go.FG.Se

namespace Go.FG.Se
open Go.Proofs
def E71 : Env := { toTab := T, call := Go.FG.callIn [(79, sp79a), (79, sp79b), (72, sp72)], mode := Go.FG.modeIn md, keep := Go.FG.keepIn [(5, [0, 1, 5, 6])], tk := fun n => Go.FG.memB n [], om := Go.FG.omIn [] }
def it71 (N : Nat) {R : Type} : It R := fun rid f cn L K => bif Nat.beq rid 5 then (tell [(0, (.v (.v false [(.own 900000000)]))), (2, (.v (.v false [(.fn 72 [[(.i .i64 0)]])]))), (10, (.v (.v false [(.i .i64 0)]))), (12, (.v (.v false [(.i .i64 0)]))), (1800000001, (.o (.row 83 true [])))] (fun | [.I x0, .I x1, .I x2, .R x3] => Pu.slices_DeleteFunc_Reader.l5 N (fun y0 y1 y2 y3 => (K (.exit 0) (tabl [(0, (.v (.v false [(.own 900000000)]))), (2, (.v (.v false [(.fn 72 [[(.i .i64 y0)]])]))), (10, (.v (.v false [(.i .i64 y1)]))), (12, (.v (.v false [(.i .i64 y2)]))), (1800000001, (.o (.row 83 true y3)))]))) N x0 x1 x2 x3 | _ => none) L (none)) else none
theorem e71_5 {R : Type} (N : Nat) (K : Ex → St → Option R) : ∀ n : Nat, (∀ x0 x1 x2 x3, iter (exc E71 (it71 N) (loopOf Try.f71 5)) (canon (E71.keep 5))  n (tabl [(0, (.v (.v false [(.own 900000000)]))), (2, (.v (.v false [(.fn 72 [[(.i .i64 x0)]])]))), (10, (.v (.v false [(.i .i64 x1)]))), (12, (.v (.v false [(.i .i64 x2)]))), (1800000001, (.o (.row 83 true x3)))]) K = Pu.slices_DeleteFunc_Reader.l5 N (fun y0 y1 y2 y3 => (K (.exit 0) (tabl [(0, (.v (.v false [(.own 900000000)]))), (2, (.v (.v false [(.fn 72 [[(.i .i64 y0)]])]))), (10, (.v (.v false [(.i .i64 y1)]))), (12, (.v (.v false [(.i .i64 y2)]))), (1800000001, (.o (.row 83 true y3)))]))) n x0 x1 x2 x3) := by
  intro n
  induction n with
  | zero => exact (fun _ _ _ _ => rfl)
  | succ n ih =>
    have e0 : (fun x0 x1 x2 x3 => iter (exc E71 (it71 N) (loopOf Try.f71 5)) (canon (E71.keep 5))  n (tabl [(0, (.v (.v false [(.own 900000000)]))), (2, (.v (.v false [(.fn 72 [[(.i .i64 x0)]])]))), (10, (.v (.v false [(.i .i64 x1)]))), (12, (.v (.v false [(.i .i64 x2)]))), (1800000001, (.o (.row 83 true x3)))]) K) = Pu.slices_DeleteFunc_Reader.l5 N (fun y0 y1 y2 y3 => (K (.exit 0) (tabl [(0, (.v (.v false [(.own 900000000)]))), (2, (.v (.v false [(.fn 72 [[(.i .i64 y0)]])]))), (10, (.v (.v false [(.i .i64 y1)]))), (12, (.v (.v false [(.i .i64 y2)]))), (1800000001, (.o (.row 83 true y3)))]))) n := by funext x0 x1 x2 x3; exact ih x0 x1 x2 x3
    intro x0 x1 x2 x3
    have h : ∀ g, exc E71 (it71 N) (loopOf Try.f71 5) (tabl [(0, (.v (.v false [(.own 900000000)]))), (2, (.v (.v false [(.fn 72 [[(.i .i64 x0)]])]))), (10, (.v (.v false [(.i .i64 x1)]))), (12, (.v (.v false [(.i .i64 x2)]))), (1800000001, (.o (.row 83 true x3)))]) (iterK g (canon (E71.keep 5)) K) = Pu.slices_DeleteFunc_Reader.r5 N (fun x0 x1 x2 x3 => (g (tabl [(0, (.v (.v false [(.own 900000000)]))), (2, (.v (.v false [(.fn 72 [[(.i .i64 x0)]])]))), (10, (.v (.v false [(.i .i64 x1)]))), (12, (.v (.v false [(.i .i64 x2)]))), (1800000001, (.o (.row 83 true x3)))]))) (fun y0 y1 y2 y3 => (K (.exit 0) (tabl [(0, (.v (.v false [(.own 900000000)]))), (2, (.v (.v false [(.fn 72 [[(.i .i64 y0)]])]))), (10, (.v (.v false [(.i .i64 y1)]))), (12, (.v (.v false [(.i .i64 y2)]))), (1800000001, (.o (.row 83 true y3)))]))) x0 x1 x2 x3 := by intro g; kernel_rfl
    refine (h _).trans ?_
    show Pu.slices_DeleteFunc_Reader.r5 N (fun x0 x1 x2 x3 => (iter (exc E71 (it71 N) (loopOf Try.f71 5)) (canon (E71.keep 5))  n (tabl [(0, (.v (.v false [(.own 900000000)]))), (2, (.v (.v false [(.fn 72 [[(.i .i64 x0)]])]))), (10, (.v (.v false [(.i .i64 x1)]))), (12, (.v (.v false [(.i .i64 x2)]))), (1800000001, (.o (.row 83 true x3)))]) K)) (fun y0 y1 y2 y3 => (K (.exit 0) (tabl [(0, (.v (.v false [(.own 900000000)]))), (2, (.v (.v false [(.fn 72 [[(.i .i64 y0)]])]))), (10, (.v (.v false [(.i .i64 y1)]))), (12, (.v (.v false [(.i .i64 y2)]))), (1800000001, (.o (.row 83 true y3)))]))) x0 x1 x2 x3 = _
    rw [e0]; rfl
theorem lo71_5 {R : Type} (N : Nat) : LoopOk E71 (it71 N (R := R)) (loopOf Try.f71 5) := by
  have e : firstRid (loopOf Try.f71 5) = 5 := by kernel_rfl
  intro L K r
  rw [e]
  intro h
  unfold it71 at h
  simp only [show Nat.beq 5 5 = true from rfl, cond_false, cond_true] at h
  refine tell_ok (Q := fun L => ∃ n, iter (exc E71 (it71 N) (loopOf Try.f71 5)) (canon (E71.keep 5)) n (tabl L) K = some r) h (fun xs h => ?_) (fun h => ?_)
  · (try dsimp only at h)
    split at h
    · exact ⟨N, ((e71_5 N K N) _ _ _ _).trans h⟩
    · cases h
  cases h
def sp71 : List Arg → Option (Bool × Res)
  | [(.v false [(.ow 83 true s0)]), (.v false [(.fn 72 [[(.i .i64 del1)]])])] => some (Pu.slices_DeleteFunc_Reader.c s0 del1, ⟨[(.v false [(.ow 83 true (Pu.slices_DeleteFunc_Reader.v s0 del1))])], [[.nl]]⟩)
  | _ => none
theorem ok71 : FnOk Try.prog T 71 sp71 := by
  refine fn_ok (E := E71) hE (call_cons ok79a (call_cons ok79b (call_cons ok72 call_nil))) hM Try.func71 (code := (Try.f71.body.getD .skip)) (by kernel_rfl) (by kernel_rfl) ?_
  have key : ∀ (s0 : Row) (del1 : Int), Pu.slices_DeleteFunc_Reader.c s0 del1 = true → FitR s0 → ∃ it : It Res, (∀ c ∈ loopsOf (Try.f71.body.getD .skip), LoopOk E71 it c) ∧ body E71 it Try.f71 [(.v false [(.ow 83 true s0)]), (.v false [(.fn 72 [[(.i .i64 del1)]])])] = some ⟨[(.v false [(.ow 83 true (Pu.slices_DeleteFunc_Reader.v s0 del1))])], [[.nl]]⟩ := by
    intro s0 del1  h1 g0
    obtain ⟨N, hN⟩ := Pu.slices_DeleteFunc_Reader.b_eq (R := Res) (fun r0 => some ⟨[(.v false [(.ow 83 true r0)])], [[.nl]]⟩) s0 del1 h1 g0
    have hl : loopsOf (Try.f71.body.getD .skip) = [loopOf Try.f71 5] := by kernel_rfl
    refine ⟨it71 N, by rw [hl]; exact (loops_cons (lo71_5 N) loops_nil), ?_⟩
    refine Eq.trans (show body E71 (it71 N) Try.f71 [(.v false [(.ow 83 true s0)]), (.v false [(.fn 72 [[(.i .i64 del1)]])])] = Pu.slices_DeleteFunc_Reader.b N (fun r0 => some ⟨[(.v false [(.ow 83 true r0)])], [[.nl]]⟩) s0 del1 by kernel_rfl) hN
  intro args r h
  unfold sp71 at h
  split at h
  · injection h with h
    injection h with h1 h2
    subst h2
    exact ⟨by kernel_rfl, fun hf => ⟨of_decide_eq_true (by kernel_rfl), key _ _ h1 hf.1.1⟩⟩
  · cases h

end Go.FG.Se

namespace Go.FG.Se
open Go.Proofs
def E40 : Env := { toTab := T, call := Go.FG.callIn [], mode := Go.FG.modeIn md, keep := Go.FG.keepIn [(3, [1, 2, 4, 5, 6])], tk := fun n => Go.FG.memB n [], om := Go.FG.omIn [] }
def it40 (N : Nat) {R : Type} : It R := fun rid f cn L K => bif Nat.beq rid 3 then (tell [(2, (.v (.v false [(.i .i64 0)]))), (4, (.v (.v false [(.bp 0 0)]))), (8, (.v (.v false [(.bp 1 0)]))), (10, (.v (.v false [(.bp 2 0)]))), (12, (.v (.v false [(.i .i64 0)]))), (1, (.o (.box [(.i .i64 0), (.s ⟨#[]⟩), (.sh 83 [])]))), (3, (.o (.box [(.i .i64 0), (.s ⟨#[]⟩), .nl]))), (5, (.o (.box [(.i .i64 0), (.s ⟨#[]⟩), .nl])))] (fun | [.I x0, .I x1, .I x2, .S x3, .R x4, .I x5, .S x6, .I x7, .S x8] => Pu.spec_StreamLeave.l3 N (fun y0 y1 y2 y3 y4 y5 y6 y7 y8 => (K (.exit 0) (tabl [(2, (.v (.v false [(.i .i64 y0)]))), (4, (.v (.v false [(.bp 0 0)]))), (8, (.v (.v false [(.bp 1 0)]))), (10, (.v (.v false [(.bp 2 0)]))), (12, (.v (.v false [(.i .i64 y1)]))), (1, (.o (.box [(.i .i64 y2), (.s y3), (.sh 83 y4)]))), (3, (.o (.box [(.i .i64 y5), (.s y6), .nl]))), (5, (.o (.box [(.i .i64 y7), (.s y8), .nl])))]))) (fun y0 y1 y2 y3 y4 y5 y6 y7 y8 y9 => (K (.exit 0) (tabl [(2, (.v (.v false [(.i .i64 y0)]))), (4, (.v (.v false [(.bp 0 0)]))), (8, (.v (.v false [(.bp 1 0)]))), (10, (.v (.v false [(.bp 2 0)]))), (12, (.v (.v false [(.i .i64 y1)]))), (1, (.o (.box [(.i .i64 y2), (.s y3), (.sh 83 y4)]))), (3, (.o (.box [(.i .i64 y5), (.s y6), .nl]))), (5, (.o (.box [(.i .i64 y7), (.s y8), (.own 3)]))), (7, (.o (.row 83 true y9)))]))) N x0 x1 x2 x3 x4 x5 x6 x7 x8 | _ => none) L (tell [(2, (.v (.v false [(.i .i64 0)]))), (4, (.v (.v false [(.bp 0 0)]))), (8, (.v (.v false [(.bp 1 0)]))), (10, (.v (.v false [(.bp 2 0)]))), (12, (.v (.v false [(.i .i64 0)]))), (1, (.o (.box [(.i .i64 0), (.s ⟨#[]⟩), (.sh 83 [])]))), (3, (.o (.box [(.i .i64 0), (.s ⟨#[]⟩), .nl]))), (5, (.o (.box [(.i .i64 0), (.s ⟨#[]⟩), (.own 3)]))), (7, (.o (.row 83 true [])))] (fun | [.I x9, .I x10, .I x11, .S x12, .R x13, .I x14, .S x15, .I x16, .S x17, .R x18] => Pu.spec_StreamLeave.l3a N (fun y0 y1 y2 y3 y4 y5 y6 y7 y8 => (K (.exit 0) (tabl [(2, (.v (.v false [(.i .i64 y0)]))), (4, (.v (.v false [(.bp 0 0)]))), (8, (.v (.v false [(.bp 1 0)]))), (10, (.v (.v false [(.bp 2 0)]))), (12, (.v (.v false [(.i .i64 y1)]))), (1, (.o (.box [(.i .i64 y2), (.s y3), (.sh 83 y4)]))), (3, (.o (.box [(.i .i64 y5), (.s y6), .nl]))), (5, (.o (.box [(.i .i64 y7), (.s y8), .nl])))]))) (fun y0 y1 y2 y3 y4 y5 y6 y7 y8 y9 => (K (.exit 0) (tabl [(2, (.v (.v false [(.i .i64 y0)]))), (4, (.v (.v false [(.bp 0 0)]))), (8, (.v (.v false [(.bp 1 0)]))), (10, (.v (.v false [(.bp 2 0)]))), (12, (.v (.v false [(.i .i64 y1)]))), (1, (.o (.box [(.i .i64 y2), (.s y3), (.sh 83 y4)]))), (3, (.o (.box [(.i .i64 y5), (.s y6), .nl]))), (5, (.o (.box [(.i .i64 y7), (.s y8), (.own 3)]))), (7, (.o (.row 83 true y9)))]))) N x9 x10 x11 x12 x13 x14 x15 x16 x17 x18 | _ => none) L (none))) else none
theorem e40_3 {R : Type} (N : Nat) (K : Ex → St → Option R) : ∀ n : Nat, (∀ x0 x1 x2 x3 x4 x5 x6 x7 x8, iter (exc E40 (it40 N) (loopOf Try.f40 3)) (canon (E40.keep 3))  n (tabl [(2, (.v (.v false [(.i .i64 x0)]))), (4, (.v (.v false [(.bp 0 0)]))), (8, (.v (.v false [(.bp 1 0)]))), (10, (.v (.v false [(.bp 2 0)]))), (12, (.v (.v false [(.i .i64 x1)]))), (1, (.o (.box [(.i .i64 x2), (.s x3), (.sh 83 x4)]))), (3, (.o (.box [(.i .i64 x5), (.s x6), .nl]))), (5, (.o (.box [(.i .i64 x7), (.s x8), .nl])))]) K = Pu.spec_StreamLeave.l3 N (fun y0 y1 y2 y3 y4 y5 y6 y7 y8 => (K (.exit 0) (tabl [(2, (.v (.v false [(.i .i64 y0)]))), (4, (.v (.v false [(.bp 0 0)]))), (8, (.v (.v false [(.bp 1 0)]))), (10, (.v (.v false [(.bp 2 0)]))), (12, (.v (.v false [(.i .i64 y1)]))), (1, (.o (.box [(.i .i64 y2), (.s y3), (.sh 83 y4)]))), (3, (.o (.box [(.i .i64 y5), (.s y6), .nl]))), (5, (.o (.box [(.i .i64 y7), (.s y8), .nl])))]))) (fun y0 y1 y2 y3 y4 y5 y6 y7 y8 y9 => (K (.exit 0) (tabl [(2, (.v (.v false [(.i .i64 y0)]))), (4, (.v (.v false [(.bp 0 0)]))), (8, (.v (.v false [(.bp 1 0)]))), (10, (.v (.v false [(.bp 2 0)]))), (12, (.v (.v false [(.i .i64 y1)]))), (1, (.o (.box [(.i .i64 y2), (.s y3), (.sh 83 y4)]))), (3, (.o (.box [(.i .i64 y5), (.s y6), .nl]))), (5, (.o (.box [(.i .i64 y7), (.s y8), (.own 3)]))), (7, (.o (.row 83 true y9)))]))) n x0 x1 x2 x3 x4 x5 x6 x7 x8) ∧ (∀ x9 x10 x11 x12 x13 x14 x15 x16 x17 x18, iter (exc E40 (it40 N) (loopOf Try.f40 3)) (canon (E40.keep 3))  n (tabl [(2, (.v (.v false [(.i .i64 x9)]))), (4, (.v (.v false [(.bp 0 0)]))), (8, (.v (.v false [(.bp 1 0)]))), (10, (.v (.v false [(.bp 2 0)]))), (12, (.v (.v false [(.i .i64 x10)]))), (1, (.o (.box [(.i .i64 x11), (.s x12), (.sh 83 x13)]))), (3, (.o (.box [(.i .i64 x14), (.s x15), .nl]))), (5, (.o (.box [(.i .i64 x16), (.s x17), (.own 3)]))), (7, (.o (.row 83 true x18)))]) K = Pu.spec_StreamLeave.l3a N (fun y0 y1 y2 y3 y4 y5 y6 y7 y8 => (K (.exit 0) (tabl [(2, (.v (.v false [(.i .i64 y0)]))), (4, (.v (.v false [(.bp 0 0)]))), (8, (.v (.v false [(.bp 1 0)]))), (10, (.v (.v false [(.bp 2 0)]))), (12, (.v (.v false [(.i .i64 y1)]))), (1, (.o (.box [(.i .i64 y2), (.s y3), (.sh 83 y4)]))), (3, (.o (.box [(.i .i64 y5), (.s y6), .nl]))), (5, (.o (.box [(.i .i64 y7), (.s y8), .nl])))]))) (fun y0 y1 y2 y3 y4 y5 y6 y7 y8 y9 => (K (.exit 0) (tabl [(2, (.v (.v false [(.i .i64 y0)]))), (4, (.v (.v false [(.bp 0 0)]))), (8, (.v (.v false [(.bp 1 0)]))), (10, (.v (.v false [(.bp 2 0)]))), (12, (.v (.v false [(.i .i64 y1)]))), (1, (.o (.box [(.i .i64 y2), (.s y3), (.sh 83 y4)]))), (3, (.o (.box [(.i .i64 y5), (.s y6), .nl]))), (5, (.o (.box [(.i .i64 y7), (.s y8), (.own 3)]))), (7, (.o (.row 83 true y9)))]))) n x9 x10 x11 x12 x13 x14 x15 x16 x17 x18) := by
  intro n
  induction n with
  | zero => exact ⟨(fun _ _ _ _ _ _ _ _ _ => rfl), (fun _ _ _ _ _ _ _ _ _ _ => rfl)⟩
  | succ n ih =>
    have e0 : (fun x0 x1 x2 x3 x4 x5 x6 x7 x8 => iter (exc E40 (it40 N) (loopOf Try.f40 3)) (canon (E40.keep 3))  n (tabl [(2, (.v (.v false [(.i .i64 x0)]))), (4, (.v (.v false [(.bp 0 0)]))), (8, (.v (.v false [(.bp 1 0)]))), (10, (.v (.v false [(.bp 2 0)]))), (12, (.v (.v false [(.i .i64 x1)]))), (1, (.o (.box [(.i .i64 x2), (.s x3), (.sh 83 x4)]))), (3, (.o (.box [(.i .i64 x5), (.s x6), .nl]))), (5, (.o (.box [(.i .i64 x7), (.s x8), .nl])))]) K) = Pu.spec_StreamLeave.l3 N (fun y0 y1 y2 y3 y4 y5 y6 y7 y8 => (K (.exit 0) (tabl [(2, (.v (.v false [(.i .i64 y0)]))), (4, (.v (.v false [(.bp 0 0)]))), (8, (.v (.v false [(.bp 1 0)]))), (10, (.v (.v false [(.bp 2 0)]))), (12, (.v (.v false [(.i .i64 y1)]))), (1, (.o (.box [(.i .i64 y2), (.s y3), (.sh 83 y4)]))), (3, (.o (.box [(.i .i64 y5), (.s y6), .nl]))), (5, (.o (.box [(.i .i64 y7), (.s y8), .nl])))]))) (fun y0 y1 y2 y3 y4 y5 y6 y7 y8 y9 => (K (.exit 0) (tabl [(2, (.v (.v false [(.i .i64 y0)]))), (4, (.v (.v false [(.bp 0 0)]))), (8, (.v (.v false [(.bp 1 0)]))), (10, (.v (.v false [(.bp 2 0)]))), (12, (.v (.v false [(.i .i64 y1)]))), (1, (.o (.box [(.i .i64 y2), (.s y3), (.sh 83 y4)]))), (3, (.o (.box [(.i .i64 y5), (.s y6), .nl]))), (5, (.o (.box [(.i .i64 y7), (.s y8), (.own 3)]))), (7, (.o (.row 83 true y9)))]))) n := by funext x0 x1 x2 x3 x4 x5 x6 x7 x8; exact ih.1 x0 x1 x2 x3 x4 x5 x6 x7 x8
    have e1 : (fun x9 x10 x11 x12 x13 x14 x15 x16 x17 x18 => iter (exc E40 (it40 N) (loopOf Try.f40 3)) (canon (E40.keep 3))  n (tabl [(2, (.v (.v false [(.i .i64 x9)]))), (4, (.v (.v false [(.bp 0 0)]))), (8, (.v (.v false [(.bp 1 0)]))), (10, (.v (.v false [(.bp 2 0)]))), (12, (.v (.v false [(.i .i64 x10)]))), (1, (.o (.box [(.i .i64 x11), (.s x12), (.sh 83 x13)]))), (3, (.o (.box [(.i .i64 x14), (.s x15), .nl]))), (5, (.o (.box [(.i .i64 x16), (.s x17), (.own 3)]))), (7, (.o (.row 83 true x18)))]) K) = Pu.spec_StreamLeave.l3a N (fun y0 y1 y2 y3 y4 y5 y6 y7 y8 => (K (.exit 0) (tabl [(2, (.v (.v false [(.i .i64 y0)]))), (4, (.v (.v false [(.bp 0 0)]))), (8, (.v (.v false [(.bp 1 0)]))), (10, (.v (.v false [(.bp 2 0)]))), (12, (.v (.v false [(.i .i64 y1)]))), (1, (.o (.box [(.i .i64 y2), (.s y3), (.sh 83 y4)]))), (3, (.o (.box [(.i .i64 y5), (.s y6), .nl]))), (5, (.o (.box [(.i .i64 y7), (.s y8), .nl])))]))) (fun y0 y1 y2 y3 y4 y5 y6 y7 y8 y9 => (K (.exit 0) (tabl [(2, (.v (.v false [(.i .i64 y0)]))), (4, (.v (.v false [(.bp 0 0)]))), (8, (.v (.v false [(.bp 1 0)]))), (10, (.v (.v false [(.bp 2 0)]))), (12, (.v (.v false [(.i .i64 y1)]))), (1, (.o (.box [(.i .i64 y2), (.s y3), (.sh 83 y4)]))), (3, (.o (.box [(.i .i64 y5), (.s y6), .nl]))), (5, (.o (.box [(.i .i64 y7), (.s y8), (.own 3)]))), (7, (.o (.row 83 true y9)))]))) n := by funext x9 x10 x11 x12 x13 x14 x15 x16 x17 x18; exact ih.2 x9 x10 x11 x12 x13 x14 x15 x16 x17 x18
    refine ⟨?_, ?_⟩
    · intro x0 x1 x2 x3 x4 x5 x6 x7 x8
      have h : ∀ g, exc E40 (it40 N) (loopOf Try.f40 3) (tabl [(2, (.v (.v false [(.i .i64 x0)]))), (4, (.v (.v false [(.bp 0 0)]))), (8, (.v (.v false [(.bp 1 0)]))), (10, (.v (.v false [(.bp 2 0)]))), (12, (.v (.v false [(.i .i64 x1)]))), (1, (.o (.box [(.i .i64 x2), (.s x3), (.sh 83 x4)]))), (3, (.o (.box [(.i .i64 x5), (.s x6), .nl]))), (5, (.o (.box [(.i .i64 x7), (.s x8), .nl])))]) (iterK g (canon (E40.keep 3)) K) = Pu.spec_StreamLeave.r3 N (fun x0 x1 x2 x3 x4 x5 x6 x7 x8 => (g (tabl [(2, (.v (.v false [(.i .i64 x0)]))), (4, (.v (.v false [(.bp 0 0)]))), (8, (.v (.v false [(.bp 1 0)]))), (10, (.v (.v false [(.bp 2 0)]))), (12, (.v (.v false [(.i .i64 x1)]))), (1, (.o (.box [(.i .i64 x2), (.s x3), (.sh 83 x4)]))), (3, (.o (.box [(.i .i64 x5), (.s x6), .nl]))), (5, (.o (.box [(.i .i64 x7), (.s x8), .nl])))]))) (fun x9 x10 x11 x12 x13 x14 x15 x16 x17 x18 => (g (tabl [(2, (.v (.v false [(.i .i64 x9)]))), (4, (.v (.v false [(.bp 0 0)]))), (8, (.v (.v false [(.bp 1 0)]))), (10, (.v (.v false [(.bp 2 0)]))), (12, (.v (.v false [(.i .i64 x10)]))), (1, (.o (.box [(.i .i64 x11), (.s x12), (.sh 83 x13)]))), (3, (.o (.box [(.i .i64 x14), (.s x15), .nl]))), (5, (.o (.box [(.i .i64 x16), (.s x17), (.own 3)]))), (7, (.o (.row 83 true x18)))]))) (fun y0 y1 y2 y3 y4 y5 y6 y7 y8 => (K (.exit 0) (tabl [(2, (.v (.v false [(.i .i64 y0)]))), (4, (.v (.v false [(.bp 0 0)]))), (8, (.v (.v false [(.bp 1 0)]))), (10, (.v (.v false [(.bp 2 0)]))), (12, (.v (.v false [(.i .i64 y1)]))), (1, (.o (.box [(.i .i64 y2), (.s y3), (.sh 83 y4)]))), (3, (.o (.box [(.i .i64 y5), (.s y6), .nl]))), (5, (.o (.box [(.i .i64 y7), (.s y8), .nl])))]))) (fun y0 y1 y2 y3 y4 y5 y6 y7 y8 y9 => (K (.exit 0) (tabl [(2, (.v (.v false [(.i .i64 y0)]))), (4, (.v (.v false [(.bp 0 0)]))), (8, (.v (.v false [(.bp 1 0)]))), (10, (.v (.v false [(.bp 2 0)]))), (12, (.v (.v false [(.i .i64 y1)]))), (1, (.o (.box [(.i .i64 y2), (.s y3), (.sh 83 y4)]))), (3, (.o (.box [(.i .i64 y5), (.s y6), .nl]))), (5, (.o (.box [(.i .i64 y7), (.s y8), (.own 3)]))), (7, (.o (.row 83 true y9)))]))) x0 x1 x2 x3 x4 x5 x6 x7 x8 := by intro g; kernel_rfl
      refine (h _).trans ?_
      show Pu.spec_StreamLeave.r3 N (fun x0 x1 x2 x3 x4 x5 x6 x7 x8 => (iter (exc E40 (it40 N) (loopOf Try.f40 3)) (canon (E40.keep 3))  n (tabl [(2, (.v (.v false [(.i .i64 x0)]))), (4, (.v (.v false [(.bp 0 0)]))), (8, (.v (.v false [(.bp 1 0)]))), (10, (.v (.v false [(.bp 2 0)]))), (12, (.v (.v false [(.i .i64 x1)]))), (1, (.o (.box [(.i .i64 x2), (.s x3), (.sh 83 x4)]))), (3, (.o (.box [(.i .i64 x5), (.s x6), .nl]))), (5, (.o (.box [(.i .i64 x7), (.s x8), .nl])))]) K)) (fun x9 x10 x11 x12 x13 x14 x15 x16 x17 x18 => (iter (exc E40 (it40 N) (loopOf Try.f40 3)) (canon (E40.keep 3))  n (tabl [(2, (.v (.v false [(.i .i64 x9)]))), (4, (.v (.v false [(.bp 0 0)]))), (8, (.v (.v false [(.bp 1 0)]))), (10, (.v (.v false [(.bp 2 0)]))), (12, (.v (.v false [(.i .i64 x10)]))), (1, (.o (.box [(.i .i64 x11), (.s x12), (.sh 83 x13)]))), (3, (.o (.box [(.i .i64 x14), (.s x15), .nl]))), (5, (.o (.box [(.i .i64 x16), (.s x17), (.own 3)]))), (7, (.o (.row 83 true x18)))]) K)) (fun y0 y1 y2 y3 y4 y5 y6 y7 y8 => (K (.exit 0) (tabl [(2, (.v (.v false [(.i .i64 y0)]))), (4, (.v (.v false [(.bp 0 0)]))), (8, (.v (.v false [(.bp 1 0)]))), (10, (.v (.v false [(.bp 2 0)]))), (12, (.v (.v false [(.i .i64 y1)]))), (1, (.o (.box [(.i .i64 y2), (.s y3), (.sh 83 y4)]))), (3, (.o (.box [(.i .i64 y5), (.s y6), .nl]))), (5, (.o (.box [(.i .i64 y7), (.s y8), .nl])))]))) (fun y0 y1 y2 y3 y4 y5 y6 y7 y8 y9 => (K (.exit 0) (tabl [(2, (.v (.v false [(.i .i64 y0)]))), (4, (.v (.v false [(.bp 0 0)]))), (8, (.v (.v false [(.bp 1 0)]))), (10, (.v (.v false [(.bp 2 0)]))), (12, (.v (.v false [(.i .i64 y1)]))), (1, (.o (.box [(.i .i64 y2), (.s y3), (.sh 83 y4)]))), (3, (.o (.box [(.i .i64 y5), (.s y6), .nl]))), (5, (.o (.box [(.i .i64 y7), (.s y8), (.own 3)]))), (7, (.o (.row 83 true y9)))]))) x0 x1 x2 x3 x4 x5 x6 x7 x8 = _
      rw [e0, e1]; rfl
    · intro x9 x10 x11 x12 x13 x14 x15 x16 x17 x18
      have h : ∀ g, exc E40 (it40 N) (loopOf Try.f40 3) (tabl [(2, (.v (.v false [(.i .i64 x9)]))), (4, (.v (.v false [(.bp 0 0)]))), (8, (.v (.v false [(.bp 1 0)]))), (10, (.v (.v false [(.bp 2 0)]))), (12, (.v (.v false [(.i .i64 x10)]))), (1, (.o (.box [(.i .i64 x11), (.s x12), (.sh 83 x13)]))), (3, (.o (.box [(.i .i64 x14), (.s x15), .nl]))), (5, (.o (.box [(.i .i64 x16), (.s x17), (.own 3)]))), (7, (.o (.row 83 true x18)))]) (iterK g (canon (E40.keep 3)) K) = Pu.spec_StreamLeave.r3a N (fun x0 x1 x2 x3 x4 x5 x6 x7 x8 => (g (tabl [(2, (.v (.v false [(.i .i64 x0)]))), (4, (.v (.v false [(.bp 0 0)]))), (8, (.v (.v false [(.bp 1 0)]))), (10, (.v (.v false [(.bp 2 0)]))), (12, (.v (.v false [(.i .i64 x1)]))), (1, (.o (.box [(.i .i64 x2), (.s x3), (.sh 83 x4)]))), (3, (.o (.box [(.i .i64 x5), (.s x6), .nl]))), (5, (.o (.box [(.i .i64 x7), (.s x8), .nl])))]))) (fun x9 x10 x11 x12 x13 x14 x15 x16 x17 x18 => (g (tabl [(2, (.v (.v false [(.i .i64 x9)]))), (4, (.v (.v false [(.bp 0 0)]))), (8, (.v (.v false [(.bp 1 0)]))), (10, (.v (.v false [(.bp 2 0)]))), (12, (.v (.v false [(.i .i64 x10)]))), (1, (.o (.box [(.i .i64 x11), (.s x12), (.sh 83 x13)]))), (3, (.o (.box [(.i .i64 x14), (.s x15), .nl]))), (5, (.o (.box [(.i .i64 x16), (.s x17), (.own 3)]))), (7, (.o (.row 83 true x18)))]))) (fun y0 y1 y2 y3 y4 y5 y6 y7 y8 => (K (.exit 0) (tabl [(2, (.v (.v false [(.i .i64 y0)]))), (4, (.v (.v false [(.bp 0 0)]))), (8, (.v (.v false [(.bp 1 0)]))), (10, (.v (.v false [(.bp 2 0)]))), (12, (.v (.v false [(.i .i64 y1)]))), (1, (.o (.box [(.i .i64 y2), (.s y3), (.sh 83 y4)]))), (3, (.o (.box [(.i .i64 y5), (.s y6), .nl]))), (5, (.o (.box [(.i .i64 y7), (.s y8), .nl])))]))) (fun y0 y1 y2 y3 y4 y5 y6 y7 y8 y9 => (K (.exit 0) (tabl [(2, (.v (.v false [(.i .i64 y0)]))), (4, (.v (.v false [(.bp 0 0)]))), (8, (.v (.v false [(.bp 1 0)]))), (10, (.v (.v false [(.bp 2 0)]))), (12, (.v (.v false [(.i .i64 y1)]))), (1, (.o (.box [(.i .i64 y2), (.s y3), (.sh 83 y4)]))), (3, (.o (.box [(.i .i64 y5), (.s y6), .nl]))), (5, (.o (.box [(.i .i64 y7), (.s y8), (.own 3)]))), (7, (.o (.row 83 true y9)))]))) x9 x10 x11 x12 x13 x14 x15 x16 x17 x18 := by intro g; kernel_rfl
      refine (h _).trans ?_
      show Pu.spec_StreamLeave.r3a N (fun x0 x1 x2 x3 x4 x5 x6 x7 x8 => (iter (exc E40 (it40 N) (loopOf Try.f40 3)) (canon (E40.keep 3))  n (tabl [(2, (.v (.v false [(.i .i64 x0)]))), (4, (.v (.v false [(.bp 0 0)]))), (8, (.v (.v false [(.bp 1 0)]))), (10, (.v (.v false [(.bp 2 0)]))), (12, (.v (.v false [(.i .i64 x1)]))), (1, (.o (.box [(.i .i64 x2), (.s x3), (.sh 83 x4)]))), (3, (.o (.box [(.i .i64 x5), (.s x6), .nl]))), (5, (.o (.box [(.i .i64 x7), (.s x8), .nl])))]) K)) (fun x9 x10 x11 x12 x13 x14 x15 x16 x17 x18 => (iter (exc E40 (it40 N) (loopOf Try.f40 3)) (canon (E40.keep 3))  n (tabl [(2, (.v (.v false [(.i .i64 x9)]))), (4, (.v (.v false [(.bp 0 0)]))), (8, (.v (.v false [(.bp 1 0)]))), (10, (.v (.v false [(.bp 2 0)]))), (12, (.v (.v false [(.i .i64 x10)]))), (1, (.o (.box [(.i .i64 x11), (.s x12), (.sh 83 x13)]))), (3, (.o (.box [(.i .i64 x14), (.s x15), .nl]))), (5, (.o (.box [(.i .i64 x16), (.s x17), (.own 3)]))), (7, (.o (.row 83 true x18)))]) K)) (fun y0 y1 y2 y3 y4 y5 y6 y7 y8 => (K (.exit 0) (tabl [(2, (.v (.v false [(.i .i64 y0)]))), (4, (.v (.v false [(.bp 0 0)]))), (8, (.v (.v false [(.bp 1 0)]))), (10, (.v (.v false [(.bp 2 0)]))), (12, (.v (.v false [(.i .i64 y1)]))), (1, (.o (.box [(.i .i64 y2), (.s y3), (.sh 83 y4)]))), (3, (.o (.box [(.i .i64 y5), (.s y6), .nl]))), (5, (.o (.box [(.i .i64 y7), (.s y8), .nl])))]))) (fun y0 y1 y2 y3 y4 y5 y6 y7 y8 y9 => (K (.exit 0) (tabl [(2, (.v (.v false [(.i .i64 y0)]))), (4, (.v (.v false [(.bp 0 0)]))), (8, (.v (.v false [(.bp 1 0)]))), (10, (.v (.v false [(.bp 2 0)]))), (12, (.v (.v false [(.i .i64 y1)]))), (1, (.o (.box [(.i .i64 y2), (.s y3), (.sh 83 y4)]))), (3, (.o (.box [(.i .i64 y5), (.s y6), .nl]))), (5, (.o (.box [(.i .i64 y7), (.s y8), (.own 3)]))), (7, (.o (.row 83 true y9)))]))) x9 x10 x11 x12 x13 x14 x15 x16 x17 x18 = _
      rw [e0, e1]; rfl
theorem lo40_3 {R : Type} (N : Nat) : LoopOk E40 (it40 N (R := R)) (loopOf Try.f40 3) := by
  have e : firstRid (loopOf Try.f40 3) = 3 := by kernel_rfl
  intro L K r
  rw [e]
  intro h
  unfold it40 at h
  simp only [show Nat.beq 3 3 = true from rfl, cond_false, cond_true] at h
  refine tell_ok (Q := fun L => ∃ n, iter (exc E40 (it40 N) (loopOf Try.f40 3)) (canon (E40.keep 3)) n (tabl L) K = some r) h (fun xs h => ?_) (fun h => ?_)
  · (try dsimp only at h)
    split at h
    · exact ⟨N, ((e40_3 N K N).1 _ _ _ _ _ _ _ _ _).trans h⟩
    · cases h
  refine tell_ok (Q := fun L => ∃ n, iter (exc E40 (it40 N) (loopOf Try.f40 3)) (canon (E40.keep 3)) n (tabl L) K = some r) h (fun xs h => ?_) (fun h => ?_)
  · (try dsimp only at h)
    split at h
    · exact ⟨N, ((e40_3 N K N).2 _ _ _ _ _ _ _ _ _ _).trans h⟩
    · cases h
  cases h
def sp40 : List Arg → Option (Bool × Res)
  | [(.v true [(.i .i64 s0_0), (.s s0_1), (.sh 83 s0_2)]), (.v false [(.i .i64 id1)])] => some (Pu.spec_StreamLeave.c s0_0 s0_1 s0_2 id1, ⟨[(.v true [(.i .i64 ((Pu.spec_StreamLeave.v s0_0 s0_1 s0_2 id1).1)), (.s ((Pu.spec_StreamLeave.v s0_0 s0_1 s0_2 id1).2.1)), (.ow 83 true ((Pu.spec_StreamLeave.v s0_0 s0_1 s0_2 id1).2.2))])], []⟩)
  | _ => none
theorem ok40 : FnOk Try.prog T 40 sp40 := by
  refine fn_ok (E := E40) hE call_nil hM Try.func40 (code := (Try.f40.body.getD .skip)) (by kernel_rfl) (by kernel_rfl) ?_
  have key : ∀ (s0_0 : Int) (s0_1 : ByteArray) (s0_2 : Row) (id1 : Int), Pu.spec_StreamLeave.c s0_0 s0_1 s0_2 id1 = true → ∃ it : It Res, (∀ c ∈ loopsOf (Try.f40.body.getD .skip), LoopOk E40 it c) ∧ body E40 it Try.f40 [(.v true [(.i .i64 s0_0), (.s s0_1), (.sh 83 s0_2)]), (.v false [(.i .i64 id1)])] = some ⟨[(.v true [(.i .i64 ((Pu.spec_StreamLeave.v s0_0 s0_1 s0_2 id1).1)), (.s ((Pu.spec_StreamLeave.v s0_0 s0_1 s0_2 id1).2.1)), (.ow 83 true ((Pu.spec_StreamLeave.v s0_0 s0_1 s0_2 id1).2.2))])], []⟩ := by
    intro s0_0 s0_1 s0_2 id1  h1
    obtain ⟨N, hN⟩ := Pu.spec_StreamLeave.b_eq (R := Res) (fun r0 r1 r2 => some ⟨[(.v true [(.i .i64 r0), (.s r1), (.ow 83 true r2)])], []⟩) s0_0 s0_1 s0_2 id1 h1
    have hl : loopsOf (Try.f40.body.getD .skip) = [loopOf Try.f40 3] := by kernel_rfl
    refine ⟨it40 N, by rw [hl]; exact (loops_cons (lo40_3 N) loops_nil), ?_⟩
    refine Eq.trans (show body E40 (it40 N) Try.f40 [(.v true [(.i .i64 s0_0), (.s s0_1), (.sh 83 s0_2)]), (.v false [(.i .i64 id1)])] = Pu.spec_StreamLeave.b N (fun r0 r1 r2 => some ⟨[(.v true [(.i .i64 r0), (.s r1), (.ow 83 true r2)])], []⟩) s0_0 s0_1 s0_2 id1 by kernel_rfl) hN
  intro args r h
  unfold sp40 at h
  split at h
  · injection h with h
    injection h with h1 h2
    subst h2
    exact ⟨by kernel_rfl, fun hf => ⟨of_decide_eq_true (by kernel_rfl), key _ _ _ _ h1⟩⟩
  · cases h

end Go.FG.Se

namespace Go.FG.Se
open Go.Proofs
def E70 : Env := { toTab := T, call := Go.FG.callIn [], mode := Go.FG.modeIn md, keep := Go.FG.keepIn [], tk := fun n => Go.FG.memB n [], om := Go.FG.omIn [] }
def sp70 : List Arg → Option (Bool × Res)
  | [(.v true [(.i .i64 s0_0), (.s s0_1), (.sh 83 s0_2)])] => some (Pu.impl_copyStream.c s0_0 s0_1 s0_2, ⟨[(.v true [(.i .i64 ((Pu.impl_copyStream.v s0_0 s0_1 s0_2).1)), (.s ((Pu.impl_copyStream.v s0_0 s0_1 s0_2).2.1)), (.ow 83 true ((Pu.impl_copyStream.v s0_0 s0_1 s0_2).2.2))])], []⟩)
  | _ => none
theorem ok70 : FnOk Try.prog T 70 sp70 := by
  refine fn_ok (E := E70) hE call_nil hM Try.func70 (code := (Try.f70.body.getD .skip)) (by kernel_rfl) (by kernel_rfl) ?_
  have key : ∀ (s0_0 : Int) (s0_1 : ByteArray) (s0_2 : Row), Pu.impl_copyStream.c s0_0 s0_1 s0_2 = true → ∃ it : It Res, (∀ c ∈ loopsOf (Try.f70.body.getD .skip), LoopOk E70 it c) ∧ body E70 it Try.f70 [(.v true [(.i .i64 s0_0), (.s s0_1), (.sh 83 s0_2)])] = some ⟨[(.v true [(.i .i64 ((Pu.impl_copyStream.v s0_0 s0_1 s0_2).1)), (.s ((Pu.impl_copyStream.v s0_0 s0_1 s0_2).2.1)), (.ow 83 true ((Pu.impl_copyStream.v s0_0 s0_1 s0_2).2.2))])], []⟩ := by
    intro s0_0 s0_1 s0_2  h1
    have hN := Pu.impl_copyStream.b_eq (R := Res) (fun r0 r1 r2 => some ⟨[(.v true [(.i .i64 r0), (.s r1), (.ow 83 true r2)])], []⟩) s0_0 s0_1 s0_2 h1
    have hl : loopsOf (Try.f70.body.getD .skip) = [] := by kernel_rfl
    refine ⟨iterN 0, by rw [hl]; exact loops_nil, ?_⟩
    refine Eq.trans (show body E70 (iterN 0) Try.f70 [(.v true [(.i .i64 s0_0), (.s s0_1), (.sh 83 s0_2)])] = Pu.impl_copyStream.b (fun r0 r1 r2 => some ⟨[(.v true [(.i .i64 r0), (.s r1), (.ow 83 true r2)])], []⟩) s0_0 s0_1 s0_2 by kernel_rfl) hN
  intro args r h
  unfold sp70 at h
  split at h
  · injection h with h
    injection h with h1 h2
    subst h2
    exact ⟨by kernel_rfl, fun hf => ⟨of_decide_eq_true (by kernel_rfl), key _ _ _ h1⟩⟩
  · cases h

end Go.FG.Se

namespace Go.FG.Se
open Go.Proofs
def E41 : Env := { toTab := T, call := Go.FG.callIn [(70, sp70), (71, sp71)], mode := Go.FG.modeIn md, keep := Go.FG.keepIn [], tk := fun n => Go.FG.memB n [], om := Go.FG.omIn [] }
def sp41 : List Arg → Option (Bool × Res)
  | [(.v true [(.i .i64 s0_0), (.s s0_1), (.sh 83 s0_2)]), (.v false [(.i .i64 id1)])] => some (Pu.impl_StreamLeave.c s0_0 s0_1 s0_2 id1, ⟨[(.v true [(.i .i64 ((Pu.impl_StreamLeave.v s0_0 s0_1 s0_2 id1).1)), (.s ((Pu.impl_StreamLeave.v s0_0 s0_1 s0_2 id1).2.1)), (.ow 83 true ((Pu.impl_StreamLeave.v s0_0 s0_1 s0_2 id1).2.2))])], []⟩)
  | _ => none
theorem ok41 : FnOk Try.prog T 41 sp41 := by
  refine fn_ok (E := E41) hE (call_cons ok70 (call_cons ok71 call_nil)) hM Try.func41 (code := (Try.f41.body.getD .skip)) (by kernel_rfl) (by kernel_rfl) ?_
  have key : ∀ (s0_0 : Int) (s0_1 : ByteArray) (s0_2 : Row) (id1 : Int), Pu.impl_StreamLeave.c s0_0 s0_1 s0_2 id1 = true → ∃ it : It Res, (∀ c ∈ loopsOf (Try.f41.body.getD .skip), LoopOk E41 it c) ∧ body E41 it Try.f41 [(.v true [(.i .i64 s0_0), (.s s0_1), (.sh 83 s0_2)]), (.v false [(.i .i64 id1)])] = some ⟨[(.v true [(.i .i64 ((Pu.impl_StreamLeave.v s0_0 s0_1 s0_2 id1).1)), (.s ((Pu.impl_StreamLeave.v s0_0 s0_1 s0_2 id1).2.1)), (.ow 83 true ((Pu.impl_StreamLeave.v s0_0 s0_1 s0_2 id1).2.2))])], []⟩ := by
    intro s0_0 s0_1 s0_2 id1  h1
    have hN := Pu.impl_StreamLeave.b_eq (R := Res) (fun r0 r1 r2 => some ⟨[(.v true [(.i .i64 r0), (.s r1), (.ow 83 true r2)])], []⟩) s0_0 s0_1 s0_2 id1 h1
    have hl : loopsOf (Try.f41.body.getD .skip) = [] := by kernel_rfl
    refine ⟨iterN 0, by rw [hl]; exact loops_nil, ?_⟩
    refine Eq.trans (show body E41 (iterN 0) Try.f41 [(.v true [(.i .i64 s0_0), (.s s0_1), (.sh 83 s0_2)]), (.v false [(.i .i64 id1)])] = Pu.impl_StreamLeave.b (fun r0 r1 r2 => some ⟨[(.v true [(.i .i64 r0), (.s r1), (.ow 83 true r2)])], []⟩) s0_0 s0_1 s0_2 id1 by kernel_rfl) hN
  intro args r h
  unfold sp41 at h
  split at h
  · injection h with h
    injection h with h1 h2
    subst h2
    exact ⟨by kernel_rfl, fun hf => ⟨of_decide_eq_true (by kernel_rfl), key _ _ _ _ h1⟩⟩
  · cases h

end Go.FG.Se

namespace Go.FG.Se
open Go.Proofs
def E77 : Env := { toTab := T, call := Go.FG.callIn [], mode := Go.FG.modeIn md, keep := Go.FG.keepIn [], tk := fun n => Go.FG.memB n [], om := Go.FG.omIn [] }
def sp77 : List Arg → Option (Bool × Res)
  | [(.v true [(.i .i64 a0_0), (.i .i64 a0_1)]), (.v true [(.i .i64 b1_0), (.i .i64 b1_1)])] => some (true, ⟨[(.v false [(.b (Pu.laws_eqReader.v a0_0 a0_1 b1_0 b1_1))])], []⟩)
  | _ => none
theorem ok77 : FnOk Try.prog T 77 sp77 := by
  refine fn_ok (E := E77) hE call_nil hM Try.func77 (code := (Try.f77.body.getD .skip)) (by kernel_rfl) (by kernel_rfl) ?_
  have key : ∀ (a0_0 : Int) (a0_1 : Int) (b1_0 : Int) (b1_1 : Int), ∃ it : It Res, (∀ c ∈ loopsOf (Try.f77.body.getD .skip), LoopOk E77 it c) ∧ body E77 it Try.f77 [(.v true [(.i .i64 a0_0), (.i .i64 a0_1)]), (.v true [(.i .i64 b1_0), (.i .i64 b1_1)])] = some ⟨[(.v false [(.b (Pu.laws_eqReader.v a0_0 a0_1 b1_0 b1_1))])], []⟩ := by
    intro a0_0 a0_1 b1_0 b1_1 
    have hN := Pu.laws_eqReader.b_eq (R := Res) (fun r0 => some ⟨[(.v false [(.b r0)])], []⟩) a0_0 a0_1 b1_0 b1_1
    have hl : loopsOf (Try.f77.body.getD .skip) = [] := by kernel_rfl
    refine ⟨iterN 0, by rw [hl]; exact loops_nil, ?_⟩
    refine Eq.trans (show body E77 (iterN 0) Try.f77 [(.v true [(.i .i64 a0_0), (.i .i64 a0_1)]), (.v true [(.i .i64 b1_0), (.i .i64 b1_1)])] = Pu.laws_eqReader.b (fun r0 => some ⟨[(.v false [(.b r0)])], []⟩) a0_0 a0_1 b1_0 b1_1 by kernel_rfl) hN
  intro args r h
  unfold sp77 at h
  split at h
  · injection h with h
    injection h with h1 h2
    subst h2
    exact ⟨by kernel_rfl, fun hf => ⟨of_decide_eq_true (by kernel_rfl), key _ _ _ _⟩⟩
  · cases h

end Go.FG.Se

namespace Go.FG.Se
open Go.Proofs
def E55 : Env := { toTab := T, call := Go.FG.callIn [(77, sp77)], mode := Go.FG.modeIn md, keep := Go.FG.keepIn [(4, [0, 1, 4, 5])], tk := fun n => Go.FG.memB n [], om := Go.FG.omIn [] }
def it55 (N : Nat) {R : Type} : It R := fun rid f cn L K => bif Nat.beq rid 4 then (tell [(0, (.v (.v false [(.sh 83 [])]))), (2, (.v (.v false [(.sh 83 [])]))), (8, (.v (.v false [(.b false)]))), (10, (.v (.v false [(.i .i64 0)])))] (fun | [.R x0, .R x1, .B x2, .I x3] => Pu.laws_eqReaderS.l4 N (fun y0 y1 y2 y3 => (K .ret (tabl [(0, (.v (.v false [(.sh 83 y0)]))), (2, (.v (.v false [(.sh 83 y1)]))), (8, (.v (.v false [(.b y2)]))), (10, (.v (.v false [(.i .i64 y3)])))]))) (fun y0 y1 y2 y3 => (K (.exit 0) (tabl [(0, (.v (.v false [(.sh 83 y0)]))), (2, (.v (.v false [(.sh 83 y1)]))), (8, (.v (.v false [(.b y2)]))), (10, (.v (.v false [(.i .i64 y3)])))]))) N x0 x1 x2 x3 | _ => none) L (none)) else none
theorem e55_4 {R : Type} (N : Nat) (K : Ex → St → Option R) : ∀ n : Nat, (∀ x0 x1 x2 x3, iter (exc E55 (it55 N) (loopOf Try.f55 4)) (canon (E55.keep 4))  n (tabl [(0, (.v (.v false [(.sh 83 x0)]))), (2, (.v (.v false [(.sh 83 x1)]))), (8, (.v (.v false [(.b x2)]))), (10, (.v (.v false [(.i .i64 x3)])))]) K = Pu.laws_eqReaderS.l4 N (fun y0 y1 y2 y3 => (K .ret (tabl [(0, (.v (.v false [(.sh 83 y0)]))), (2, (.v (.v false [(.sh 83 y1)]))), (8, (.v (.v false [(.b y2)]))), (10, (.v (.v false [(.i .i64 y3)])))]))) (fun y0 y1 y2 y3 => (K (.exit 0) (tabl [(0, (.v (.v false [(.sh 83 y0)]))), (2, (.v (.v false [(.sh 83 y1)]))), (8, (.v (.v false [(.b y2)]))), (10, (.v (.v false [(.i .i64 y3)])))]))) n x0 x1 x2 x3) := by
  intro n
  induction n with
  | zero => exact (fun _ _ _ _ => rfl)
  | succ n ih =>
    have e0 : (fun x0 x1 x2 x3 => iter (exc E55 (it55 N) (loopOf Try.f55 4)) (canon (E55.keep 4))  n (tabl [(0, (.v (.v false [(.sh 83 x0)]))), (2, (.v (.v false [(.sh 83 x1)]))), (8, (.v (.v false [(.b x2)]))), (10, (.v (.v false [(.i .i64 x3)])))]) K) = Pu.laws_eqReaderS.l4 N (fun y0 y1 y2 y3 => (K .ret (tabl [(0, (.v (.v false [(.sh 83 y0)]))), (2, (.v (.v false [(.sh 83 y1)]))), (8, (.v (.v false [(.b y2)]))), (10, (.v (.v false [(.i .i64 y3)])))]))) (fun y0 y1 y2 y3 => (K (.exit 0) (tabl [(0, (.v (.v false [(.sh 83 y0)]))), (2, (.v (.v false [(.sh 83 y1)]))), (8, (.v (.v false [(.b y2)]))), (10, (.v (.v false [(.i .i64 y3)])))]))) n := by funext x0 x1 x2 x3; exact ih x0 x1 x2 x3
    intro x0 x1 x2 x3
    have h : ∀ g, exc E55 (it55 N) (loopOf Try.f55 4) (tabl [(0, (.v (.v false [(.sh 83 x0)]))), (2, (.v (.v false [(.sh 83 x1)]))), (8, (.v (.v false [(.b x2)]))), (10, (.v (.v false [(.i .i64 x3)])))]) (iterK g (canon (E55.keep 4)) K) = Pu.laws_eqReaderS.r4 N (fun x0 x1 x2 x3 => (g (tabl [(0, (.v (.v false [(.sh 83 x0)]))), (2, (.v (.v false [(.sh 83 x1)]))), (8, (.v (.v false [(.b x2)]))), (10, (.v (.v false [(.i .i64 x3)])))]))) (fun y0 y1 y2 y3 => (K .ret (tabl [(0, (.v (.v false [(.sh 83 y0)]))), (2, (.v (.v false [(.sh 83 y1)]))), (8, (.v (.v false [(.b y2)]))), (10, (.v (.v false [(.i .i64 y3)])))]))) (fun y0 y1 y2 y3 => (K (.exit 0) (tabl [(0, (.v (.v false [(.sh 83 y0)]))), (2, (.v (.v false [(.sh 83 y1)]))), (8, (.v (.v false [(.b y2)]))), (10, (.v (.v false [(.i .i64 y3)])))]))) x0 x1 x2 x3 := by intro g; kernel_rfl
    refine (h _).trans ?_
    show Pu.laws_eqReaderS.r4 N (fun x0 x1 x2 x3 => (iter (exc E55 (it55 N) (loopOf Try.f55 4)) (canon (E55.keep 4))  n (tabl [(0, (.v (.v false [(.sh 83 x0)]))), (2, (.v (.v false [(.sh 83 x1)]))), (8, (.v (.v false [(.b x2)]))), (10, (.v (.v false [(.i .i64 x3)])))]) K)) (fun y0 y1 y2 y3 => (K .ret (tabl [(0, (.v (.v false [(.sh 83 y0)]))), (2, (.v (.v false [(.sh 83 y1)]))), (8, (.v (.v false [(.b y2)]))), (10, (.v (.v false [(.i .i64 y3)])))]))) (fun y0 y1 y2 y3 => (K (.exit 0) (tabl [(0, (.v (.v false [(.sh 83 y0)]))), (2, (.v (.v false [(.sh 83 y1)]))), (8, (.v (.v false [(.b y2)]))), (10, (.v (.v false [(.i .i64 y3)])))]))) x0 x1 x2 x3 = _
    rw [e0]; rfl
theorem lo55_4 {R : Type} (N : Nat) : LoopOk E55 (it55 N (R := R)) (loopOf Try.f55 4) := by
  have e : firstRid (loopOf Try.f55 4) = 4 := by kernel_rfl
  intro L K r
  rw [e]
  intro h
  unfold it55 at h
  simp only [show Nat.beq 4 4 = true from rfl, cond_false, cond_true] at h
  refine tell_ok (Q := fun L => ∃ n, iter (exc E55 (it55 N) (loopOf Try.f55 4)) (canon (E55.keep 4)) n (tabl L) K = some r) h (fun xs h => ?_) (fun h => ?_)
  · (try dsimp only at h)
    split at h
    · exact ⟨N, ((e55_4 N K N) _ _ _ _).trans h⟩
    · cases h
  cases h
def sp55 : List Arg → Option (Bool × Res)
  | [(.v false [(.sh 83 a0)]), (.v false [(.sh 83 b1)])] => some (true, ⟨[(.v false [(.b (Pu.laws_eqReaderS.v a0 b1))])], []⟩)
  | _ => none
theorem ok55 : FnOk Try.prog T 55 sp55 := by
  refine fn_ok (E := E55) hE (call_cons ok77 call_nil) hM Try.func55 (code := (Try.f55.body.getD .skip)) (by kernel_rfl) (by kernel_rfl) ?_
  have key : ∀ (a0 : Row) (b1 : Row), FitR a0 → FitR b1 → ∃ it : It Res, (∀ c ∈ loopsOf (Try.f55.body.getD .skip), LoopOk E55 it c) ∧ body E55 it Try.f55 [(.v false [(.sh 83 a0)]), (.v false [(.sh 83 b1)])] = some ⟨[(.v false [(.b (Pu.laws_eqReaderS.v a0 b1))])], []⟩ := by
    intro a0 b1  g0 g1
    obtain ⟨N, hN⟩ := Pu.laws_eqReaderS.b_eq (R := Res) (fun r0 => some ⟨[(.v false [(.b r0)])], []⟩) a0 b1 g0 g1
    have hl : loopsOf (Try.f55.body.getD .skip) = [loopOf Try.f55 4] := by kernel_rfl
    refine ⟨it55 N, by rw [hl]; exact (loops_cons (lo55_4 N) loops_nil), ?_⟩
    refine Eq.trans (show body E55 (it55 N) Try.f55 [(.v false [(.sh 83 a0)]), (.v false [(.sh 83 b1)])] = Pu.laws_eqReaderS.b N (fun r0 => some ⟨[(.v false [(.b r0)])], []⟩) a0 b1 by kernel_rfl) hN
  intro args r h
  unfold sp55 at h
  split at h
  · injection h with h
    injection h with h1 h2
    subst h2
    exact ⟨by kernel_rfl, fun hf => ⟨of_decide_eq_true (by kernel_rfl), key _ _ hf.1.1 hf.2.1.1⟩⟩
  · cases h

end Go.FG.Se

namespace Go.FG.Se
open Go.Proofs
def E23 : Env := { toTab := T, call := Go.FG.callIn [(55, sp55)], mode := Go.FG.modeIn md, keep := Go.FG.keepIn [], tk := fun n => Go.FG.memB n [], om := Go.FG.omIn [] }
def sp23 : List Arg → Option (Bool × Res)
  | [(.v true [(.i .i64 a0_0), (.s a0_1), (.sh 83 a0_2)]), (.v true [(.i .i64 b1_0), (.s b1_1), (.sh 83 b1_2)])] => some (true, ⟨[(.v false [(.b (Pu.laws_eqStream.v a0_0 a0_1 a0_2 b1_0 b1_1 b1_2))])], []⟩)
  | _ => none
theorem ok23 : FnOk Try.prog T 23 sp23 := by
  refine fn_ok (E := E23) hE (call_cons ok55 call_nil) hM Try.func23 (code := (Try.f23.body.getD .skip)) (by kernel_rfl) (by kernel_rfl) ?_
  have key : ∀ (a0_0 : Int) (a0_1 : ByteArray) (a0_2 : Row) (b1_0 : Int) (b1_1 : ByteArray) (b1_2 : Row), ∃ it : It Res, (∀ c ∈ loopsOf (Try.f23.body.getD .skip), LoopOk E23 it c) ∧ body E23 it Try.f23 [(.v true [(.i .i64 a0_0), (.s a0_1), (.sh 83 a0_2)]), (.v true [(.i .i64 b1_0), (.s b1_1), (.sh 83 b1_2)])] = some ⟨[(.v false [(.b (Pu.laws_eqStream.v a0_0 a0_1 a0_2 b1_0 b1_1 b1_2))])], []⟩ := by
    intro a0_0 a0_1 a0_2 b1_0 b1_1 b1_2 
    have hN := Pu.laws_eqStream.b_eq (R := Res) (fun r0 => some ⟨[(.v false [(.b r0)])], []⟩) a0_0 a0_1 a0_2 b1_0 b1_1 b1_2
    have hl : loopsOf (Try.f23.body.getD .skip) = [] := by kernel_rfl
    refine ⟨iterN 0, by rw [hl]; exact loops_nil, ?_⟩
    refine Eq.trans (show body E23 (iterN 0) Try.f23 [(.v true [(.i .i64 a0_0), (.s a0_1), (.sh 83 a0_2)]), (.v true [(.i .i64 b1_0), (.s b1_1), (.sh 83 b1_2)])] = Pu.laws_eqStream.b (fun r0 => some ⟨[(.v false [(.b r0)])], []⟩) a0_0 a0_1 a0_2 b1_0 b1_1 b1_2 by kernel_rfl) hN
  intro args r h
  unfold sp23 at h
  split at h
  · injection h with h
    injection h with h1 h2
    subst h2
    exact ⟨by kernel_rfl, fun hf => ⟨of_decide_eq_true (by kernel_rfl), key _ _ _ _ _ _⟩⟩
  · cases h

end Go.FG.Se

namespace Go.FG.Se
open Go.Proofs
def E56 : Env := { toTab := T, call := Go.FG.callIn [], mode := Go.FG.modeIn md, keep := Go.FG.keepIn [(2, [0, 1, 5])], tk := fun n => Go.FG.memB n [], om := Go.FG.omIn [] }
def it56 (N : Nat) {R : Type} : It R := fun rid f cn L K => bif Nat.beq rid 2 then (tell [(0, (.v (.v false [(.own 900000000)]))), (2, (.v (.v false [(.i .i64 0)]))), (10, (.v (.v false [(.i .i64 0)]))), (1800000001, (.o (.row 83 true [])))] (fun | [.I x0, .I x1, .R x2] => Pu.laws_markReaderS.l2 N (fun y0 y1 y2 => (K (.exit 0) (tabl [(0, (.v (.v false [(.own 900000000)]))), (2, (.v (.v false [(.i .i64 y0)]))), (10, (.v (.v false [(.i .i64 y1)]))), (1800000001, (.o (.row 83 true y2)))]))) N x0 x1 x2 | _ => none) L (none)) else none
theorem e56_2 {R : Type} (N : Nat) (K : Ex → St → Option R) : ∀ n : Nat, (∀ x0 x1 x2, iter (exc E56 (it56 N) (loopOf Try.f56 2)) (canon (E56.keep 2))  n (tabl [(0, (.v (.v false [(.own 900000000)]))), (2, (.v (.v false [(.i .i64 x0)]))), (10, (.v (.v false [(.i .i64 x1)]))), (1800000001, (.o (.row 83 true x2)))]) K = Pu.laws_markReaderS.l2 N (fun y0 y1 y2 => (K (.exit 0) (tabl [(0, (.v (.v false [(.own 900000000)]))), (2, (.v (.v false [(.i .i64 y0)]))), (10, (.v (.v false [(.i .i64 y1)]))), (1800000001, (.o (.row 83 true y2)))]))) n x0 x1 x2) := by
  intro n
  induction n with
  | zero => exact (fun _ _ _ => rfl)
  | succ n ih =>
    have e0 : (fun x0 x1 x2 => iter (exc E56 (it56 N) (loopOf Try.f56 2)) (canon (E56.keep 2))  n (tabl [(0, (.v (.v false [(.own 900000000)]))), (2, (.v (.v false [(.i .i64 x0)]))), (10, (.v (.v false [(.i .i64 x1)]))), (1800000001, (.o (.row 83 true x2)))]) K) = Pu.laws_markReaderS.l2 N (fun y0 y1 y2 => (K (.exit 0) (tabl [(0, (.v (.v false [(.own 900000000)]))), (2, (.v (.v false [(.i .i64 y0)]))), (10, (.v (.v false [(.i .i64 y1)]))), (1800000001, (.o (.row 83 true y2)))]))) n := by funext x0 x1 x2; exact ih x0 x1 x2
    intro x0 x1 x2
    have h : ∀ g, exc E56 (it56 N) (loopOf Try.f56 2) (tabl [(0, (.v (.v false [(.own 900000000)]))), (2, (.v (.v false [(.i .i64 x0)]))), (10, (.v (.v false [(.i .i64 x1)]))), (1800000001, (.o (.row 83 true x2)))]) (iterK g (canon (E56.keep 2)) K) = Pu.laws_markReaderS.r2 N (fun x0 x1 x2 => (g (tabl [(0, (.v (.v false [(.own 900000000)]))), (2, (.v (.v false [(.i .i64 x0)]))), (10, (.v (.v false [(.i .i64 x1)]))), (1800000001, (.o (.row 83 true x2)))]))) (fun y0 y1 y2 => (K (.exit 0) (tabl [(0, (.v (.v false [(.own 900000000)]))), (2, (.v (.v false [(.i .i64 y0)]))), (10, (.v (.v false [(.i .i64 y1)]))), (1800000001, (.o (.row 83 true y2)))]))) x0 x1 x2 := by intro g; kernel_rfl
    refine (h _).trans ?_
    show Pu.laws_markReaderS.r2 N (fun x0 x1 x2 => (iter (exc E56 (it56 N) (loopOf Try.f56 2)) (canon (E56.keep 2))  n (tabl [(0, (.v (.v false [(.own 900000000)]))), (2, (.v (.v false [(.i .i64 x0)]))), (10, (.v (.v false [(.i .i64 x1)]))), (1800000001, (.o (.row 83 true x2)))]) K)) (fun y0 y1 y2 => (K (.exit 0) (tabl [(0, (.v (.v false [(.own 900000000)]))), (2, (.v (.v false [(.i .i64 y0)]))), (10, (.v (.v false [(.i .i64 y1)]))), (1800000001, (.o (.row 83 true y2)))]))) x0 x1 x2 = _
    rw [e0]; rfl
theorem lo56_2 {R : Type} (N : Nat) : LoopOk E56 (it56 N (R := R)) (loopOf Try.f56 2) := by
  have e : firstRid (loopOf Try.f56 2) = 2 := by kernel_rfl
  intro L K r
  rw [e]
  intro h
  unfold it56 at h
  simp only [show Nat.beq 2 2 = true from rfl, cond_false, cond_true] at h
  refine tell_ok (Q := fun L => ∃ n, iter (exc E56 (it56 N) (loopOf Try.f56 2)) (canon (E56.keep 2)) n (tabl L) K = some r) h (fun xs h => ?_) (fun h => ?_)
  · (try dsimp only at h)
    split at h
    · exact ⟨N, ((e56_2 N K N) _ _ _).trans h⟩
    · cases h
  cases h
def sp56 : List Arg → Option (Bool × Res)
  | [(.v false [(.ow 83 true a0)]), (.v false [(.i .i64 k1)])] => some (true, ⟨[(.v false [(.i .i64 ((Pu.laws_markReaderS.v a0 k1).1))])], [[(.kp ((Pu.laws_markReaderS.v a0 k1).2))]]⟩)
  | _ => none
theorem ok56 : FnOk Try.prog T 56 sp56 := by
  refine fn_ok (E := E56) hE call_nil hM Try.func56 (code := (Try.f56.body.getD .skip)) (by kernel_rfl) (by kernel_rfl) ?_
  have key : ∀ (a0 : Row) (k1 : Int), FitR a0 → ∃ it : It Res, (∀ c ∈ loopsOf (Try.f56.body.getD .skip), LoopOk E56 it c) ∧ body E56 it Try.f56 [(.v false [(.ow 83 true a0)]), (.v false [(.i .i64 k1)])] = some ⟨[(.v false [(.i .i64 ((Pu.laws_markReaderS.v a0 k1).1))])], [[(.kp ((Pu.laws_markReaderS.v a0 k1).2))]]⟩ := by
    intro a0 k1  g0
    obtain ⟨N, hN⟩ := Pu.laws_markReaderS.b_eq (R := Res) (fun r0 r1 => some ⟨[(.v false [(.i .i64 r0)])], [[(.kp r1)]]⟩) a0 k1 g0
    have hl : loopsOf (Try.f56.body.getD .skip) = [loopOf Try.f56 2] := by kernel_rfl
    refine ⟨it56 N, by rw [hl]; exact (loops_cons (lo56_2 N) loops_nil), ?_⟩
    refine Eq.trans (show body E56 (it56 N) Try.f56 [(.v false [(.ow 83 true a0)]), (.v false [(.i .i64 k1)])] = Pu.laws_markReaderS.b N (fun r0 r1 => some ⟨[(.v false [(.i .i64 r0)])], [[(.kp r1)]]⟩) a0 k1 by kernel_rfl) hN
  intro args r h
  unfold sp56 at h
  split at h
  · injection h with h
    injection h with h1 h2
    subst h2
    exact ⟨by kernel_rfl, fun hf => ⟨of_decide_eq_true (by kernel_rfl), key _ _ hf.1.1⟩⟩
  · cases h

end Go.FG.Se

namespace Go.FG.Se
open Go.Proofs
def E24 : Env := { toTab := T, call := Go.FG.callIn [(56, sp56)], mode := Go.FG.modeIn md, keep := Go.FG.keepIn [], tk := fun n => Go.FG.memB n [], om := Go.FG.omIn [] }
def sp24 : List Arg → Option (Bool × Res)
  | [(.v true [(.i .i64 a0_0), (.s a0_1), (.ow 83 true a0_2)]), (.v false [(.i .i64 k1)])] => some (true, ⟨[(.v false [(.i .i64 ((Pu.laws_markStream.v a0_0 a0_1 a0_2 k1).1))])], [[.nl, .nl, (.kp ((Pu.laws_markStream.v a0_0 a0_1 a0_2 k1).2))]]⟩)
  | _ => none
theorem ok24 : FnOk Try.prog T 24 sp24 := by
  refine fn_ok (E := E24) hE (call_cons ok56 call_nil) hM Try.func24 (code := (Try.f24.body.getD .skip)) (by kernel_rfl) (by kernel_rfl) ?_
  have key : ∀ (a0_0 : Int) (a0_1 : ByteArray) (a0_2 : Row) (k1 : Int), ∃ it : It Res, (∀ c ∈ loopsOf (Try.f24.body.getD .skip), LoopOk E24 it c) ∧ body E24 it Try.f24 [(.v true [(.i .i64 a0_0), (.s a0_1), (.ow 83 true a0_2)]), (.v false [(.i .i64 k1)])] = some ⟨[(.v false [(.i .i64 ((Pu.laws_markStream.v a0_0 a0_1 a0_2 k1).1))])], [[.nl, .nl, (.kp ((Pu.laws_markStream.v a0_0 a0_1 a0_2 k1).2))]]⟩ := by
    intro a0_0 a0_1 a0_2 k1 
    have hN := Pu.laws_markStream.b_eq (R := Res) (fun r0 r1 => some ⟨[(.v false [(.i .i64 r0)])], [[.nl, .nl, (.kp r1)]]⟩) a0_0 a0_1 a0_2 k1
    have hl : loopsOf (Try.f24.body.getD .skip) = [] := by kernel_rfl
    refine ⟨iterN 0, by rw [hl]; exact loops_nil, ?_⟩
    refine Eq.trans (show body E24 (iterN 0) Try.f24 [(.v true [(.i .i64 a0_0), (.s a0_1), (.ow 83 true a0_2)]), (.v false [(.i .i64 k1)])] = Pu.laws_markStream.b (fun r0 r1 => some ⟨[(.v false [(.i .i64 r0)])], [[.nl, .nl, (.kp r1)]]⟩) a0_0 a0_1 a0_2 k1 by kernel_rfl) hN
  intro args r h
  unfold sp24 at h
  split at h
  · injection h with h
    injection h with h1 h2
    subst h2
    exact ⟨by kernel_rfl, fun hf => ⟨of_decide_eq_true (by kernel_rfl), key _ _ _ _⟩⟩
  · cases h

end Go.FG.Se

namespace Go.FG.Se
open Go.Proofs
def E57 : Env := { toTab := T, call := Go.FG.callIn [], mode := Go.FG.modeIn md, keep := Go.FG.keepIn [(2, [0, 1, 4, 5])], tk := fun n => Go.FG.memB n [], om := Go.FG.omIn [] }
def it57 (N : Nat) {R : Type} : It R := fun rid f cn L K => bif Nat.beq rid 2 then (tell [(0, (.v (.v false [(.sh 83 [])]))), (2, (.v (.v false [(.i .i64 0)]))), (8, (.v (.v false [(.i .i64 0)]))), (10, (.v (.v false [(.i .i64 0)])))] (fun | [.R x0, .I x1, .I x2, .I x3] => Pu.laws_heldReaderS.l2 N (fun y0 y1 y2 y3 => (K .ret (tabl [(0, (.v (.v false [(.sh 83 y0)]))), (2, (.v (.v false [(.i .i64 y1)]))), (8, (.v (.v false [(.i .i64 y2)]))), (10, (.v (.v false [(.i .i64 y3)])))]))) (fun y0 y1 y2 y3 => (K (.exit 0) (tabl [(0, (.v (.v false [(.sh 83 y0)]))), (2, (.v (.v false [(.i .i64 y1)]))), (8, (.v (.v false [(.i .i64 y2)]))), (10, (.v (.v false [(.i .i64 y3)])))]))) N x0 x1 x2 x3 | _ => none) L (none)) else none
theorem e57_2 {R : Type} (N : Nat) (K : Ex → St → Option R) : ∀ n : Nat, (∀ x0 x1 x2 x3, iter (exc E57 (it57 N) (loopOf Try.f57 2)) (canon (E57.keep 2))  n (tabl [(0, (.v (.v false [(.sh 83 x0)]))), (2, (.v (.v false [(.i .i64 x1)]))), (8, (.v (.v false [(.i .i64 x2)]))), (10, (.v (.v false [(.i .i64 x3)])))]) K = Pu.laws_heldReaderS.l2 N (fun y0 y1 y2 y3 => (K .ret (tabl [(0, (.v (.v false [(.sh 83 y0)]))), (2, (.v (.v false [(.i .i64 y1)]))), (8, (.v (.v false [(.i .i64 y2)]))), (10, (.v (.v false [(.i .i64 y3)])))]))) (fun y0 y1 y2 y3 => (K (.exit 0) (tabl [(0, (.v (.v false [(.sh 83 y0)]))), (2, (.v (.v false [(.i .i64 y1)]))), (8, (.v (.v false [(.i .i64 y2)]))), (10, (.v (.v false [(.i .i64 y3)])))]))) n x0 x1 x2 x3) := by
  intro n
  induction n with
  | zero => exact (fun _ _ _ _ => rfl)
  | succ n ih =>
    have e0 : (fun x0 x1 x2 x3 => iter (exc E57 (it57 N) (loopOf Try.f57 2)) (canon (E57.keep 2))  n (tabl [(0, (.v (.v false [(.sh 83 x0)]))), (2, (.v (.v false [(.i .i64 x1)]))), (8, (.v (.v false [(.i .i64 x2)]))), (10, (.v (.v false [(.i .i64 x3)])))]) K) = Pu.laws_heldReaderS.l2 N (fun y0 y1 y2 y3 => (K .ret (tabl [(0, (.v (.v false [(.sh 83 y0)]))), (2, (.v (.v false [(.i .i64 y1)]))), (8, (.v (.v false [(.i .i64 y2)]))), (10, (.v (.v false [(.i .i64 y3)])))]))) (fun y0 y1 y2 y3 => (K (.exit 0) (tabl [(0, (.v (.v false [(.sh 83 y0)]))), (2, (.v (.v false [(.i .i64 y1)]))), (8, (.v (.v false [(.i .i64 y2)]))), (10, (.v (.v false [(.i .i64 y3)])))]))) n := by funext x0 x1 x2 x3; exact ih x0 x1 x2 x3
    intro x0 x1 x2 x3
    have h : ∀ g, exc E57 (it57 N) (loopOf Try.f57 2) (tabl [(0, (.v (.v false [(.sh 83 x0)]))), (2, (.v (.v false [(.i .i64 x1)]))), (8, (.v (.v false [(.i .i64 x2)]))), (10, (.v (.v false [(.i .i64 x3)])))]) (iterK g (canon (E57.keep 2)) K) = Pu.laws_heldReaderS.r2 N (fun x0 x1 x2 x3 => (g (tabl [(0, (.v (.v false [(.sh 83 x0)]))), (2, (.v (.v false [(.i .i64 x1)]))), (8, (.v (.v false [(.i .i64 x2)]))), (10, (.v (.v false [(.i .i64 x3)])))]))) (fun y0 y1 y2 y3 => (K .ret (tabl [(0, (.v (.v false [(.sh 83 y0)]))), (2, (.v (.v false [(.i .i64 y1)]))), (8, (.v (.v false [(.i .i64 y2)]))), (10, (.v (.v false [(.i .i64 y3)])))]))) (fun y0 y1 y2 y3 => (K (.exit 0) (tabl [(0, (.v (.v false [(.sh 83 y0)]))), (2, (.v (.v false [(.i .i64 y1)]))), (8, (.v (.v false [(.i .i64 y2)]))), (10, (.v (.v false [(.i .i64 y3)])))]))) x0 x1 x2 x3 := by intro g; kernel_rfl
    refine (h _).trans ?_
    show Pu.laws_heldReaderS.r2 N (fun x0 x1 x2 x3 => (iter (exc E57 (it57 N) (loopOf Try.f57 2)) (canon (E57.keep 2))  n (tabl [(0, (.v (.v false [(.sh 83 x0)]))), (2, (.v (.v false [(.i .i64 x1)]))), (8, (.v (.v false [(.i .i64 x2)]))), (10, (.v (.v false [(.i .i64 x3)])))]) K)) (fun y0 y1 y2 y3 => (K .ret (tabl [(0, (.v (.v false [(.sh 83 y0)]))), (2, (.v (.v false [(.i .i64 y1)]))), (8, (.v (.v false [(.i .i64 y2)]))), (10, (.v (.v false [(.i .i64 y3)])))]))) (fun y0 y1 y2 y3 => (K (.exit 0) (tabl [(0, (.v (.v false [(.sh 83 y0)]))), (2, (.v (.v false [(.i .i64 y1)]))), (8, (.v (.v false [(.i .i64 y2)]))), (10, (.v (.v false [(.i .i64 y3)])))]))) x0 x1 x2 x3 = _
    rw [e0]; rfl
theorem lo57_2 {R : Type} (N : Nat) : LoopOk E57 (it57 N (R := R)) (loopOf Try.f57 2) := by
  have e : firstRid (loopOf Try.f57 2) = 2 := by kernel_rfl
  intro L K r
  rw [e]
  intro h
  unfold it57 at h
  simp only [show Nat.beq 2 2 = true from rfl, cond_false, cond_true] at h
  refine tell_ok (Q := fun L => ∃ n, iter (exc E57 (it57 N) (loopOf Try.f57 2)) (canon (E57.keep 2)) n (tabl L) K = some r) h (fun xs h => ?_) (fun h => ?_)
  · (try dsimp only at h)
    split at h
    · exact ⟨N, ((e57_2 N K N) _ _ _ _).trans h⟩
    · cases h
  cases h
def sp57 : List Arg → Option (Bool × Res)
  | [(.v false [(.sh 83 a0)]), (.v false [(.i .i64 k1)])] => some (true, ⟨[(.v false [(.i .i64 (Pu.laws_heldReaderS.v a0 k1))])], []⟩)
  | _ => none
theorem ok57 : FnOk Try.prog T 57 sp57 := by
  refine fn_ok (E := E57) hE call_nil hM Try.func57 (code := (Try.f57.body.getD .skip)) (by kernel_rfl) (by kernel_rfl) ?_
  have key : ∀ (a0 : Row) (k1 : Int), FitR a0 → ∃ it : It Res, (∀ c ∈ loopsOf (Try.f57.body.getD .skip), LoopOk E57 it c) ∧ body E57 it Try.f57 [(.v false [(.sh 83 a0)]), (.v false [(.i .i64 k1)])] = some ⟨[(.v false [(.i .i64 (Pu.laws_heldReaderS.v a0 k1))])], []⟩ := by
    intro a0 k1  g0
    obtain ⟨N, hN⟩ := Pu.laws_heldReaderS.b_eq (R := Res) (fun r0 => some ⟨[(.v false [(.i .i64 r0)])], []⟩) a0 k1 g0
    have hl : loopsOf (Try.f57.body.getD .skip) = [loopOf Try.f57 2] := by kernel_rfl
    refine ⟨it57 N, by rw [hl]; exact (loops_cons (lo57_2 N) loops_nil), ?_⟩
    refine Eq.trans (show body E57 (it57 N) Try.f57 [(.v false [(.sh 83 a0)]), (.v false [(.i .i64 k1)])] = Pu.laws_heldReaderS.b N (fun r0 => some ⟨[(.v false [(.i .i64 r0)])], []⟩) a0 k1 by kernel_rfl) hN
  intro args r h
  unfold sp57 at h
  split at h
  · injection h with h
    injection h with h1 h2
    subst h2
    exact ⟨by kernel_rfl, fun hf => ⟨of_decide_eq_true (by kernel_rfl), key _ _ hf.1.1⟩⟩
  · cases h

end Go.FG.Se

namespace Go.FG.Se
open Go.Proofs
def E25 : Env := { toTab := T, call := Go.FG.callIn [(57, sp57)], mode := Go.FG.modeIn md, keep := Go.FG.keepIn [], tk := fun n => Go.FG.memB n [], om := Go.FG.omIn [] }
def sp25 : List Arg → Option (Bool × Res)
  | [(.v true [(.i .i64 a0_0), (.s a0_1), (.sh 83 a0_2)]), (.v false [(.i .i64 k1)])] => some (true, ⟨[(.v false [(.i .i64 (Pu.laws_heldStream.v a0_0 a0_1 a0_2 k1))])], []⟩)
  | _ => none
theorem ok25 : FnOk Try.prog T 25 sp25 := by
  refine fn_ok (E := E25) hE (call_cons ok57 call_nil) hM Try.func25 (code := (Try.f25.body.getD .skip)) (by kernel_rfl) (by kernel_rfl) ?_
  have key : ∀ (a0_0 : Int) (a0_1 : ByteArray) (a0_2 : Row) (k1 : Int), ∃ it : It Res, (∀ c ∈ loopsOf (Try.f25.body.getD .skip), LoopOk E25 it c) ∧ body E25 it Try.f25 [(.v true [(.i .i64 a0_0), (.s a0_1), (.sh 83 a0_2)]), (.v false [(.i .i64 k1)])] = some ⟨[(.v false [(.i .i64 (Pu.laws_heldStream.v a0_0 a0_1 a0_2 k1))])], []⟩ := by
    intro a0_0 a0_1 a0_2 k1 
    have hN := Pu.laws_heldStream.b_eq (R := Res) (fun r0 => some ⟨[(.v false [(.i .i64 r0)])], []⟩) a0_0 a0_1 a0_2 k1
    have hl : loopsOf (Try.f25.body.getD .skip) = [] := by kernel_rfl
    refine ⟨iterN 0, by rw [hl]; exact loops_nil, ?_⟩
    refine Eq.trans (show body E25 (iterN 0) Try.f25 [(.v true [(.i .i64 a0_0), (.s a0_1), (.sh 83 a0_2)]), (.v false [(.i .i64 k1)])] = Pu.laws_heldStream.b (fun r0 => some ⟨[(.v false [(.i .i64 r0)])], []⟩) a0_0 a0_1 a0_2 k1 by kernel_rfl) hN
  intro args r h
  unfold sp25 at h
  split at h
  · injection h with h
    injection h with h1 h2
    subst h2
    exact ⟨by kernel_rfl, fun hf => ⟨of_decide_eq_true (by kernel_rfl), key _ _ _ _⟩⟩
  · cases h

end Go.FG.Se

namespace Go.FG.Se
open Go.Proofs
def E10 : Env := { toTab := T, call := Go.FG.callIn [(33, sp33), (35, sp35), (40, sp40), (41, sp41), (23, sp23), (24, sp24), (25, sp25)], mode := Go.FG.modeIn md, keep := Go.FG.keepIn [], tk := fun n => Go.FG.memB n [], om := Go.FG.omIn [] }
def sp10 : List Arg → Option (Bool × Res)
  | [(.v true [(.i .i64 aS0_0), (.s aS0_1), (.sh 96 aS0_2)]), (.v false [(.i .i64 aId1)])] => some (true, ⟨[(.v false [(.b (Pu.laws_FnExactStreamLeave.v aS0_0 aS0_1 aS0_2 aId1))])], []⟩)
  | _ => none
theorem ok10 : FnOk Try.prog T 10 sp10 := by
  refine fn_ok (E := E10) hE (call_cons ok33 (call_cons ok35 (call_cons ok40 (call_cons ok41 (call_cons ok23 (call_cons ok24 (call_cons ok25 call_nil))))))) hM Try.func10 (code := (Try.f10.body.getD .skip)) (by kernel_rfl) (by kernel_rfl) ?_
  have key : ∀ (aS0_0 : Int) (aS0_1 : ByteArray) (aS0_2 : Row) (aId1 : Int), okS aS0_1 → FitR aS0_2 → ∃ it : It Res, (∀ c ∈ loopsOf (Try.f10.body.getD .skip), LoopOk E10 it c) ∧ body E10 it Try.f10 [(.v true [(.i .i64 aS0_0), (.s aS0_1), (.sh 96 aS0_2)]), (.v false [(.i .i64 aId1)])] = some ⟨[(.v false [(.b (Pu.laws_FnExactStreamLeave.v aS0_0 aS0_1 aS0_2 aId1))])], []⟩ := by
    intro aS0_0 aS0_1 aS0_2 aId1  g1 g2
    have hN := Pu.laws_FnExactStreamLeave.b_eq (R := Res) (fun r0 => some ⟨[(.v false [(.b r0)])], []⟩) aS0_0 aS0_1 aS0_2 aId1 g1 g2
    have hl : loopsOf (Try.f10.body.getD .skip) = [] := by kernel_rfl
    refine ⟨iterN 0, by rw [hl]; exact loops_nil, ?_⟩
    refine Eq.trans (show body E10 (iterN 0) Try.f10 [(.v true [(.i .i64 aS0_0), (.s aS0_1), (.sh 96 aS0_2)]), (.v false [(.i .i64 aId1)])] = Pu.laws_FnExactStreamLeave.b (fun r0 => some ⟨[(.v false [(.b r0)])], []⟩) aS0_0 aS0_1 aS0_2 aId1 by kernel_rfl) hN
  intro args r h
  unfold sp10 at h
  split at h
  · injection h with h
    injection h with h1 h2
    subst h2
    exact ⟨by kernel_rfl, fun hf => ⟨of_decide_eq_true (by kernel_rfl), key _ _ _ _ hf.1.2.1 hf.1.2.2.1⟩⟩
  · cases h

end Go.FG.Se

