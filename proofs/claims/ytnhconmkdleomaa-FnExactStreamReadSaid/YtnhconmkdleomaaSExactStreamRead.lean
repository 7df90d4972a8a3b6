/- Functions of the program: the evaluation of each, and that a call of it does what is told. No condition. -/
import Derived.Test.YtnhconmkdleomaaTab
import Derived.Test.YtnhconmkdleomaaPExactStreamRead
set_option linter.unusedVariables false
set_option linter.unusedSimpArgs false
set_option maxRecDepth 100000
namespace Go.FG.Se
open Go.Proofs
def E64 : Env := { toTab := T, call := Go.FG.callIn [], mode := Go.FG.modeIn md, keep := Go.FG.keepIn [], tk := fun n => Go.FG.memB n [], om := Go.FG.omIn [] }
def sp64 : List Arg → Option (Bool × Res)
  | [(.v false [(.sh 96 a0)]), (.v false [(.i .i64 left1)])] => some (true, ⟨[(.v false [(.i .i64 (Pu.laws_szReaderS.v a0 left1))])], []⟩)
  | _ => none
theorem ok64 : FnOk Try.prog T 64 sp64 := by
  refine fn_ok (E := E64) hE call_nil hM Try.func64 (code := (Try.f64.body.getD .skip)) (by kernel_rfl) (by kernel_rfl) ?_
  have key : ∀ (a0 : Row) (left1 : Int), ∃ it : It Res, (∀ c ∈ loopsOf (Try.f64.body.getD .skip), LoopOk E64 it c) ∧ body E64 it Try.f64 [(.v false [(.sh 96 a0)]), (.v false [(.i .i64 left1)])] = some ⟨[(.v false [(.i .i64 (Pu.laws_szReaderS.v a0 left1))])], []⟩ := by
    intro a0 left1 
    have hN := Pu.laws_szReaderS.b_eq (R := Res) (fun r0 => some ⟨[(.v false [(.i .i64 r0)])], []⟩) a0 left1
    have hl : loopsOf (Try.f64.body.getD .skip) = [] := by kernel_rfl
    refine ⟨iterN 0, by rw [hl]; exact loops_nil, ?_⟩
    refine Eq.trans (show body E64 (iterN 0) Try.f64 [(.v false [(.sh 96 a0)]), (.v false [(.i .i64 left1)])] = Pu.laws_szReaderS.b (fun r0 => some ⟨[(.v false [(.i .i64 r0)])], []⟩) a0 left1 by kernel_rfl) hN
  intro args r h
  unfold sp64 at h
  split at h
  · injection h with h
    injection h with h1 h2
    subst h2
    exact ⟨by kernel_rfl, fun hf => ⟨of_decide_eq_true (by kernel_rfl), key _ _⟩⟩
  · cases h

end Go.FG.Se

namespace Go.FG.Se
open Go.Proofs
def E33 : Env := { toTab := T, call := Go.FG.callIn [(64, sp64)], mode := Go.FG.modeIn md, keep := Go.FG.keepIn [], tk := fun n => Go.FG.memB n [], om := Go.FG.omIn [] }
def sp33 : List Arg → Option (Bool × Res)
  | [(.v true [(.i .i64 a0_0), (.s a0_1), (.sh 96 a0_2)]), (.v false [(.i .i64 left1)])] => some (true, ⟨[(.v false [(.i .i64 (Pu.laws_szStream.v a0_0 a0_1 a0_2 left1))])], []⟩)
  | _ => none
theorem ok33 : FnOk Try.prog T 33 sp33 := by
  refine fn_ok (E := E33) hE (call_cons ok64 call_nil) hM Try.func33 (code := (Try.f33.body.getD .skip)) (by kernel_rfl) (by kernel_rfl) ?_
  have key : ∀ (a0_0 : Int) (a0_1 : ByteArray) (a0_2 : Row) (left1 : Int), ∃ it : It Res, (∀ c ∈ loopsOf (Try.f33.body.getD .skip), LoopOk E33 it c) ∧ body E33 it Try.f33 [(.v true [(.i .i64 a0_0), (.s a0_1), (.sh 96 a0_2)]), (.v false [(.i .i64 left1)])] = some ⟨[(.v false [(.i .i64 (Pu.laws_szStream.v a0_0 a0_1 a0_2 left1))])], []⟩ := by
    intro a0_0 a0_1 a0_2 left1 
    have hN := Pu.laws_szStream.b_eq (R := Res) (fun r0 => some ⟨[(.v false [(.i .i64 r0)])], []⟩) a0_0 a0_1 a0_2 left1
    have hl : loopsOf (Try.f33.body.getD .skip) = [] := by kernel_rfl
    refine ⟨iterN 0, by rw [hl]; exact loops_nil, ?_⟩
    refine Eq.trans (show body E33 (iterN 0) Try.f33 [(.v true [(.i .i64 a0_0), (.s a0_1), (.sh 96 a0_2)]), (.v false [(.i .i64 left1)])] = Pu.laws_szStream.b (fun r0 => some ⟨[(.v false [(.i .i64 r0)])], []⟩) a0_0 a0_1 a0_2 left1 by kernel_rfl) hN
  intro args r h
  unfold sp33 at h
  split at h
  · injection h with h
    injection h with h1 h2
    subst h2
    exact ⟨by kernel_rfl, fun hf => ⟨of_decide_eq_true (by kernel_rfl), key _ _ _ _⟩⟩
  · cases h

end Go.FG.Se

namespace Go.FG.Se
open Go.Proofs
def E78 : Env := { toTab := T, call := Go.FG.callIn [], mode := Go.FG.modeIn md, keep := Go.FG.keepIn [], tk := fun n => Go.FG.memB n [], om := Go.FG.omIn [] }
def sp78 : List Arg → Option (Bool × Res)
  | [(.v true [(.i .i64 a0_0), (.i .i64 a0_1)])] => some (true, ⟨[(.v true [(.i .i64 ((Pu.laws_toReader.v a0_0 a0_1).1)), (.i .i64 ((Pu.laws_toReader.v a0_0 a0_1).2))])], []⟩)
  | _ => none
theorem ok78 : FnOk Try.prog T 78 sp78 := by
  refine fn_ok (E := E78) hE call_nil hM Try.func78 (code := (Try.f78.body.getD .skip)) (by kernel_rfl) (by kernel_rfl) ?_
  have key : ∀ (a0_0 : Int) (a0_1 : Int), ∃ it : It Res, (∀ c ∈ loopsOf (Try.f78.body.getD .skip), LoopOk E78 it c) ∧ body E78 it Try.f78 [(.v true [(.i .i64 a0_0), (.i .i64 a0_1)])] = some ⟨[(.v true [(.i .i64 ((Pu.laws_toReader.v a0_0 a0_1).1)), (.i .i64 ((Pu.laws_toReader.v a0_0 a0_1).2))])], []⟩ := by
    intro a0_0 a0_1 
    have hN := Pu.laws_toReader.b_eq (R := Res) (fun r0 r1 => some ⟨[(.v true [(.i .i64 r0), (.i .i64 r1)])], []⟩) a0_0 a0_1
    have hl : loopsOf (Try.f78.body.getD .skip) = [] := by kernel_rfl
    refine ⟨iterN 0, by rw [hl]; exact loops_nil, ?_⟩
    refine Eq.trans (show body E78 (iterN 0) Try.f78 [(.v true [(.i .i64 a0_0), (.i .i64 a0_1)])] = Pu.laws_toReader.b (fun r0 r1 => some ⟨[(.v true [(.i .i64 r0), (.i .i64 r1)])], []⟩) a0_0 a0_1 by kernel_rfl) hN
  intro args r h
  unfold sp78 at h
  split at h
  · injection h with h
    injection h with h1 h2
    subst h2
    exact ⟨by kernel_rfl, fun hf => ⟨of_decide_eq_true (by kernel_rfl), key _ _⟩⟩
  · cases h

end Go.FG.Se

namespace Go.FG.Se
open Go.Proofs
def E65 : Env := { toTab := T, call := Go.FG.callIn [(78, sp78)], mode := Go.FG.modeIn md, keep := Go.FG.keepIn [(3, [0, 3, 4])], tk := fun n => Go.FG.memB n [], om := Go.FG.omIn [] }
def it65 (N : Nat) {R : Type} : It R := fun rid f cn L K => bif Nat.beq rid 3 then (tell [(0, (.v (.v false [(.sh 96 [])]))), (6, (.v (.v false [(.own 0)]))), (8, (.v (.v false [(.i .i64 0)]))), (1, (.o (.row 83 true [])))] (fun | [.R x0, .I x1, .R x2] => Pu.laws_toReaderS.l3 N (fun y0 y1 y2 => (K (.exit 0) (tabl [(0, (.v (.v false [(.sh 96 y0)]))), (6, (.v (.v false [(.own 0)]))), (8, (.v (.v false [(.i .i64 y1)]))), (1, (.o (.row 83 true y2)))]))) N x0 x1 x2 | _ => none) L (none)) else none
theorem e65_3 {R : Type} (N : Nat) (K : Ex → St → Option R) : ∀ n : Nat, (∀ x0 x1 x2, iter (exc E65 (it65 N) (loopOf Try.f65 3)) (canon (E65.keep 3))  n (tabl [(0, (.v (.v false [(.sh 96 x0)]))), (6, (.v (.v false [(.own 0)]))), (8, (.v (.v false [(.i .i64 x1)]))), (1, (.o (.row 83 true x2)))]) K = Pu.laws_toReaderS.l3 N (fun y0 y1 y2 => (K (.exit 0) (tabl [(0, (.v (.v false [(.sh 96 y0)]))), (6, (.v (.v false [(.own 0)]))), (8, (.v (.v false [(.i .i64 y1)]))), (1, (.o (.row 83 true y2)))]))) n x0 x1 x2) := by
  intro n
  induction n with
  | zero => exact (fun _ _ _ => rfl)
  | succ n ih =>
    have e0 : (fun x0 x1 x2 => iter (exc E65 (it65 N) (loopOf Try.f65 3)) (canon (E65.keep 3))  n (tabl [(0, (.v (.v false [(.sh 96 x0)]))), (6, (.v (.v false [(.own 0)]))), (8, (.v (.v false [(.i .i64 x1)]))), (1, (.o (.row 83 true x2)))]) K) = Pu.laws_toReaderS.l3 N (fun y0 y1 y2 => (K (.exit 0) (tabl [(0, (.v (.v false [(.sh 96 y0)]))), (6, (.v (.v false [(.own 0)]))), (8, (.v (.v false [(.i .i64 y1)]))), (1, (.o (.row 83 true y2)))]))) n := by funext x0 x1 x2; exact ih x0 x1 x2
    intro x0 x1 x2
    have h : ∀ g, exc E65 (it65 N) (loopOf Try.f65 3) (tabl [(0, (.v (.v false [(.sh 96 x0)]))), (6, (.v (.v false [(.own 0)]))), (8, (.v (.v false [(.i .i64 x1)]))), (1, (.o (.row 83 true x2)))]) (iterK g (canon (E65.keep 3)) K) = Pu.laws_toReaderS.r3 N (fun x0 x1 x2 => (g (tabl [(0, (.v (.v false [(.sh 96 x0)]))), (6, (.v (.v false [(.own 0)]))), (8, (.v (.v false [(.i .i64 x1)]))), (1, (.o (.row 83 true x2)))]))) (fun y0 y1 y2 => (K (.exit 0) (tabl [(0, (.v (.v false [(.sh 96 y0)]))), (6, (.v (.v false [(.own 0)]))), (8, (.v (.v false [(.i .i64 y1)]))), (1, (.o (.row 83 true y2)))]))) x0 x1 x2 := by intro g; kernel_rfl
    refine (h _).trans ?_
    show Pu.laws_toReaderS.r3 N (fun x0 x1 x2 => (iter (exc E65 (it65 N) (loopOf Try.f65 3)) (canon (E65.keep 3))  n (tabl [(0, (.v (.v false [(.sh 96 x0)]))), (6, (.v (.v false [(.own 0)]))), (8, (.v (.v false [(.i .i64 x1)]))), (1, (.o (.row 83 true x2)))]) K)) (fun y0 y1 y2 => (K (.exit 0) (tabl [(0, (.v (.v false [(.sh 96 y0)]))), (6, (.v (.v false [(.own 0)]))), (8, (.v (.v false [(.i .i64 y1)]))), (1, (.o (.row 83 true y2)))]))) x0 x1 x2 = _
    rw [e0]; rfl
theorem lo65_3 {R : Type} (N : Nat) : LoopOk E65 (it65 N (R := R)) (loopOf Try.f65 3) := by
  have e : firstRid (loopOf Try.f65 3) = 3 := by kernel_rfl
  intro L K r
  rw [e]
  intro h
  unfold it65 at h
  simp only [show Nat.beq 3 3 = true from rfl, cond_false, cond_true] at h
  refine tell_ok (Q := fun L => ∃ n, iter (exc E65 (it65 N) (loopOf Try.f65 3)) (canon (E65.keep 3)) n (tabl L) K = some r) h (fun xs h => ?_) (fun h => ?_)
  · (try dsimp only at h)
    split at h
    · exact ⟨N, ((e65_3 N K N) _ _ _).trans h⟩
    · cases h
  cases h
def sp65 : List Arg → Option (Bool × Res)
  | [(.v false [(.sh 96 a0)])] => some (Pu.laws_toReaderS.c a0, ⟨[(.v false [(.ow 83 true (Pu.laws_toReaderS.v a0))])], []⟩)
  | _ => none
theorem ok65 : FnOk Try.prog T 65 sp65 := by
  refine fn_ok (E := E65) hE (call_cons ok78 call_nil) hM Try.func65 (code := (Try.f65.body.getD .skip)) (by kernel_rfl) (by kernel_rfl) ?_
  have key : ∀ (a0 : Row), Pu.laws_toReaderS.c a0 = true → ∃ it : It Res, (∀ c ∈ loopsOf (Try.f65.body.getD .skip), LoopOk E65 it c) ∧ body E65 it Try.f65 [(.v false [(.sh 96 a0)])] = some ⟨[(.v false [(.ow 83 true (Pu.laws_toReaderS.v a0))])], []⟩ := by
    intro a0  h1
    obtain ⟨N, hN⟩ := Pu.laws_toReaderS.b_eq (R := Res) (fun r0 => some ⟨[(.v false [(.ow 83 true r0)])], []⟩) a0 h1
    have hl : loopsOf (Try.f65.body.getD .skip) = [loopOf Try.f65 3] := by kernel_rfl
    refine ⟨it65 N, by rw [hl]; exact (loops_cons (lo65_3 N) loops_nil), ?_⟩
    refine Eq.trans (show body E65 (it65 N) Try.f65 [(.v false [(.sh 96 a0)])] = Pu.laws_toReaderS.b N (fun r0 => some ⟨[(.v false [(.ow 83 true r0)])], []⟩) a0 by kernel_rfl) hN
  intro args r h
  unfold sp65 at h
  split at h
  · injection h with h
    injection h with h1 h2
    subst h2
    exact ⟨by kernel_rfl, fun hf => ⟨of_decide_eq_true (by kernel_rfl), key _ h1⟩⟩
  · cases h

end Go.FG.Se

namespace Go.FG.Se
open Go.Proofs
def E35 : Env := { toTab := T, call := Go.FG.callIn [(65, sp65)], mode := Go.FG.modeIn md, keep := Go.FG.keepIn [], tk := fun n => Go.FG.memB n [], om := Go.FG.omIn [] }
def sp35 : List Arg → Option (Bool × Res)
  | [(.v true [(.i .i64 a0_0), (.s a0_1), (.sh 96 a0_2)])] => some (Pu.laws_toStream.c a0_0 a0_1 a0_2, ⟨[(.v true [(.i .i64 ((Pu.laws_toStream.v a0_0 a0_1 a0_2).1)), (.s ((Pu.laws_toStream.v a0_0 a0_1 a0_2).2.1)), (.ow 83 true ((Pu.laws_toStream.v a0_0 a0_1 a0_2).2.2))])], []⟩)
  | _ => none
theorem ok35 : FnOk Try.prog T 35 sp35 := by
  refine fn_ok (E := E35) hE (call_cons ok65 call_nil) hM Try.func35 (code := (Try.f35.body.getD .skip)) (by kernel_rfl) (by kernel_rfl) ?_
  have key : ∀ (a0_0 : Int) (a0_1 : ByteArray) (a0_2 : Row), Pu.laws_toStream.c a0_0 a0_1 a0_2 = true → ∃ it : It Res, (∀ c ∈ loopsOf (Try.f35.body.getD .skip), LoopOk E35 it c) ∧ body E35 it Try.f35 [(.v true [(.i .i64 a0_0), (.s a0_1), (.sh 96 a0_2)])] = some ⟨[(.v true [(.i .i64 ((Pu.laws_toStream.v a0_0 a0_1 a0_2).1)), (.s ((Pu.laws_toStream.v a0_0 a0_1 a0_2).2.1)), (.ow 83 true ((Pu.laws_toStream.v a0_0 a0_1 a0_2).2.2))])], []⟩ := by
    intro a0_0 a0_1 a0_2  h1
    have hN := Pu.laws_toStream.b_eq (R := Res) (fun r0 r1 r2 => some ⟨[(.v true [(.i .i64 r0), (.s r1), (.ow 83 true r2)])], []⟩) a0_0 a0_1 a0_2 h1
    have hl : loopsOf (Try.f35.body.getD .skip) = [] := by kernel_rfl
    refine ⟨iterN 0, by rw [hl]; exact loops_nil, ?_⟩
    refine Eq.trans (show body E35 (iterN 0) Try.f35 [(.v true [(.i .i64 a0_0), (.s a0_1), (.sh 96 a0_2)])] = Pu.laws_toStream.b (fun r0 r1 r2 => some ⟨[(.v true [(.i .i64 r0), (.s r1), (.ow 83 true r2)])], []⟩) a0_0 a0_1 a0_2 by kernel_rfl) hN
  intro args r h
  unfold sp35 at h
  split at h
  · injection h with h
    injection h with h1 h2
    subst h2
    exact ⟨by kernel_rfl, fun hf => ⟨of_decide_eq_true (by kernel_rfl), key _ _ _ h1⟩⟩
  · cases h

end Go.FG.Se

namespace Go.FG.Se
open Go.Proofs
def E73 : Env := { toTab := T, call := Go.FG.callIn [], mode := Go.FG.modeIn md, keep := Go.FG.keepIn [], tk := fun n => Go.FG.memB n [], om := Go.FG.omIn [] }
def sp73 : List Arg → Option (Bool × Res)
  | [(.v true [(.i .i64 s0_0), (.s s0_1), (.sh 83 s0_2)])] => some (Pu.spec_l14Copy.c s0_0 s0_1 s0_2, ⟨[(.v true [(.i .i64 ((Pu.spec_l14Copy.v s0_0 s0_1 s0_2).1)), (.s ((Pu.spec_l14Copy.v s0_0 s0_1 s0_2).2.1)), (.ow 83 true ((Pu.spec_l14Copy.v s0_0 s0_1 s0_2).2.2))])], []⟩)
  | _ => none
theorem ok73 : FnOk Try.prog T 73 sp73 := by
  refine fn_ok (E := E73) hE call_nil hM Try.func73 (code := (Try.f73.body.getD .skip)) (by kernel_rfl) (by kernel_rfl) ?_
  have key : ∀ (s0_0 : Int) (s0_1 : ByteArray) (s0_2 : Row), Pu.spec_l14Copy.c s0_0 s0_1 s0_2 = true → ∃ it : It Res, (∀ c ∈ loopsOf (Try.f73.body.getD .skip), LoopOk E73 it c) ∧ body E73 it Try.f73 [(.v true [(.i .i64 s0_0), (.s s0_1), (.sh 83 s0_2)])] = some ⟨[(.v true [(.i .i64 ((Pu.spec_l14Copy.v s0_0 s0_1 s0_2).1)), (.s ((Pu.spec_l14Copy.v s0_0 s0_1 s0_2).2.1)), (.ow 83 true ((Pu.spec_l14Copy.v s0_0 s0_1 s0_2).2.2))])], []⟩ := by
    intro s0_0 s0_1 s0_2  h1
    have hN := Pu.spec_l14Copy.b_eq (R := Res) (fun r0 r1 r2 => some ⟨[(.v true [(.i .i64 r0), (.s r1), (.ow 83 true r2)])], []⟩) s0_0 s0_1 s0_2 h1
    have hl : loopsOf (Try.f73.body.getD .skip) = [] := by kernel_rfl
    refine ⟨iterN 0, by rw [hl]; exact loops_nil, ?_⟩
    refine Eq.trans (show body E73 (iterN 0) Try.f73 [(.v true [(.i .i64 s0_0), (.s s0_1), (.sh 83 s0_2)])] = Pu.spec_l14Copy.b (fun r0 r1 r2 => some ⟨[(.v true [(.i .i64 r0), (.s r1), (.ow 83 true r2)])], []⟩) s0_0 s0_1 s0_2 by kernel_rfl) hN
  intro args r h
  unfold sp73 at h
  split at h
  · injection h with h
    injection h with h1 h2
    subst h2
    exact ⟨by kernel_rfl, fun hf => ⟨of_decide_eq_true (by kernel_rfl), key _ _ _ h1⟩⟩
  · cases h

end Go.FG.Se

namespace Go.FG.Se
open Go.Proofs
def E74 : Env := { toTab := T, call := Go.FG.callIn [], mode := Go.FG.modeIn md, keep := Go.FG.keepIn [(2, [1, 2, 4, 5])], tk := fun n => Go.FG.memB n [], om := Go.FG.omIn [] }
def it74 (N : Nat) {R : Type} : It R := fun rid f cn L K => bif Nat.beq rid 2 then (tell [(2, (.v (.v false [(.i .i64 0)]))), (4, (.v (.v false [(.bp 0 0)]))), (8, (.v (.v false [(.i .i64 0)]))), (10, (.v (.v false [(.i .i64 0)]))), (1, (.o (.box [(.i .i64 0), (.s ⟨#[]⟩), (.sh 83 [])])))] (fun | [.I x0, .I x1, .I x2, .I x3, .S x4, .R x5] => Pu.spec_l14At.l2 N (fun y0 y1 y2 y3 y4 y5 => (K .ret (tabl [(2, (.v (.v false [(.i .i64 y0)]))), (4, (.v (.v false [(.bp 0 0)]))), (8, (.v (.v false [(.i .i64 y1)]))), (10, (.v (.v false [(.i .i64 y2)]))), (1, (.o (.box [(.i .i64 y3), (.s y4), (.sh 83 y5)])))]))) (fun y0 y1 y2 y3 y4 y5 => (K (.exit 0) (tabl [(2, (.v (.v false [(.i .i64 y0)]))), (4, (.v (.v false [(.bp 0 0)]))), (8, (.v (.v false [(.i .i64 y1)]))), (10, (.v (.v false [(.i .i64 y2)]))), (1, (.o (.box [(.i .i64 y3), (.s y4), (.sh 83 y5)])))]))) N x0 x1 x2 x3 x4 x5 | _ => none) L (none)) else none
theorem e74_2 {R : Type} (N : Nat) (K : Ex → St → Option R) : ∀ n : Nat, (∀ x0 x1 x2 x3 x4 x5, iter (exc E74 (it74 N) (loopOf Try.f74 2)) (canon (E74.keep 2))  n (tabl [(2, (.v (.v false [(.i .i64 x0)]))), (4, (.v (.v false [(.bp 0 0)]))), (8, (.v (.v false [(.i .i64 x1)]))), (10, (.v (.v false [(.i .i64 x2)]))), (1, (.o (.box [(.i .i64 x3), (.s x4), (.sh 83 x5)])))]) K = Pu.spec_l14At.l2 N (fun y0 y1 y2 y3 y4 y5 => (K .ret (tabl [(2, (.v (.v false [(.i .i64 y0)]))), (4, (.v (.v false [(.bp 0 0)]))), (8, (.v (.v false [(.i .i64 y1)]))), (10, (.v (.v false [(.i .i64 y2)]))), (1, (.o (.box [(.i .i64 y3), (.s y4), (.sh 83 y5)])))]))) (fun y0 y1 y2 y3 y4 y5 => (K (.exit 0) (tabl [(2, (.v (.v false [(.i .i64 y0)]))), (4, (.v (.v false [(.bp 0 0)]))), (8, (.v (.v false [(.i .i64 y1)]))), (10, (.v (.v false [(.i .i64 y2)]))), (1, (.o (.box [(.i .i64 y3), (.s y4), (.sh 83 y5)])))]))) n x0 x1 x2 x3 x4 x5) := by
  intro n
  induction n with
  | zero => exact (fun _ _ _ _ _ _ => rfl)
  | succ n ih =>
    have e0 : (fun x0 x1 x2 x3 x4 x5 => iter (exc E74 (it74 N) (loopOf Try.f74 2)) (canon (E74.keep 2))  n (tabl [(2, (.v (.v false [(.i .i64 x0)]))), (4, (.v (.v false [(.bp 0 0)]))), (8, (.v (.v false [(.i .i64 x1)]))), (10, (.v (.v false [(.i .i64 x2)]))), (1, (.o (.box [(.i .i64 x3), (.s x4), (.sh 83 x5)])))]) K) = Pu.spec_l14At.l2 N (fun y0 y1 y2 y3 y4 y5 => (K .ret (tabl [(2, (.v (.v false [(.i .i64 y0)]))), (4, (.v (.v false [(.bp 0 0)]))), (8, (.v (.v false [(.i .i64 y1)]))), (10, (.v (.v false [(.i .i64 y2)]))), (1, (.o (.box [(.i .i64 y3), (.s y4), (.sh 83 y5)])))]))) (fun y0 y1 y2 y3 y4 y5 => (K (.exit 0) (tabl [(2, (.v (.v false [(.i .i64 y0)]))), (4, (.v (.v false [(.bp 0 0)]))), (8, (.v (.v false [(.i .i64 y1)]))), (10, (.v (.v false [(.i .i64 y2)]))), (1, (.o (.box [(.i .i64 y3), (.s y4), (.sh 83 y5)])))]))) n := by funext x0 x1 x2 x3 x4 x5; exact ih x0 x1 x2 x3 x4 x5
    intro x0 x1 x2 x3 x4 x5
    have h : ∀ g, exc E74 (it74 N) (loopOf Try.f74 2) (tabl [(2, (.v (.v false [(.i .i64 x0)]))), (4, (.v (.v false [(.bp 0 0)]))), (8, (.v (.v false [(.i .i64 x1)]))), (10, (.v (.v false [(.i .i64 x2)]))), (1, (.o (.box [(.i .i64 x3), (.s x4), (.sh 83 x5)])))]) (iterK g (canon (E74.keep 2)) K) = Pu.spec_l14At.r2 N (fun x0 x1 x2 x3 x4 x5 => (g (tabl [(2, (.v (.v false [(.i .i64 x0)]))), (4, (.v (.v false [(.bp 0 0)]))), (8, (.v (.v false [(.i .i64 x1)]))), (10, (.v (.v false [(.i .i64 x2)]))), (1, (.o (.box [(.i .i64 x3), (.s x4), (.sh 83 x5)])))]))) (fun y0 y1 y2 y3 y4 y5 => (K .ret (tabl [(2, (.v (.v false [(.i .i64 y0)]))), (4, (.v (.v false [(.bp 0 0)]))), (8, (.v (.v false [(.i .i64 y1)]))), (10, (.v (.v false [(.i .i64 y2)]))), (1, (.o (.box [(.i .i64 y3), (.s y4), (.sh 83 y5)])))]))) (fun y0 y1 y2 y3 y4 y5 => (K (.exit 0) (tabl [(2, (.v (.v false [(.i .i64 y0)]))), (4, (.v (.v false [(.bp 0 0)]))), (8, (.v (.v false [(.i .i64 y1)]))), (10, (.v (.v false [(.i .i64 y2)]))), (1, (.o (.box [(.i .i64 y3), (.s y4), (.sh 83 y5)])))]))) x0 x1 x2 x3 x4 x5 := by intro g; kernel_rfl
    refine (h _).trans ?_
    show Pu.spec_l14At.r2 N (fun x0 x1 x2 x3 x4 x5 => (iter (exc E74 (it74 N) (loopOf Try.f74 2)) (canon (E74.keep 2))  n (tabl [(2, (.v (.v false [(.i .i64 x0)]))), (4, (.v (.v false [(.bp 0 0)]))), (8, (.v (.v false [(.i .i64 x1)]))), (10, (.v (.v false [(.i .i64 x2)]))), (1, (.o (.box [(.i .i64 x3), (.s x4), (.sh 83 x5)])))]) K)) (fun y0 y1 y2 y3 y4 y5 => (K .ret (tabl [(2, (.v (.v false [(.i .i64 y0)]))), (4, (.v (.v false [(.bp 0 0)]))), (8, (.v (.v false [(.i .i64 y1)]))), (10, (.v (.v false [(.i .i64 y2)]))), (1, (.o (.box [(.i .i64 y3), (.s y4), (.sh 83 y5)])))]))) (fun y0 y1 y2 y3 y4 y5 => (K (.exit 0) (tabl [(2, (.v (.v false [(.i .i64 y0)]))), (4, (.v (.v false [(.bp 0 0)]))), (8, (.v (.v false [(.i .i64 y1)]))), (10, (.v (.v false [(.i .i64 y2)]))), (1, (.o (.box [(.i .i64 y3), (.s y4), (.sh 83 y5)])))]))) x0 x1 x2 x3 x4 x5 = _
    rw [e0]; rfl
theorem lo74_2 {R : Type} (N : Nat) : LoopOk E74 (it74 N (R := R)) (loopOf Try.f74 2) := by
  have e : firstRid (loopOf Try.f74 2) = 2 := by kernel_rfl
  intro L K r
  rw [e]
  intro h
  unfold it74 at h
  simp only [show Nat.beq 2 2 = true from rfl, cond_false, cond_true] at h
  refine tell_ok (Q := fun L => ∃ n, iter (exc E74 (it74 N) (loopOf Try.f74 2)) (canon (E74.keep 2)) n (tabl L) K = some r) h (fun xs h => ?_) (fun h => ?_)
  · (try dsimp only at h)
    split at h
    · exact ⟨N, ((e74_2 N K N) _ _ _ _ _ _).trans h⟩
    · cases h
  cases h
def sp74 : List Arg → Option (Bool × Res)
  | [(.v true [(.i .i64 s0_0), (.s s0_1), (.sh 83 s0_2)]), (.v false [(.i .i64 id1)])] => some (true, ⟨[(.v false [(.i .i64 (Pu.spec_l14At.v s0_0 s0_1 s0_2 id1))])], []⟩)
  | _ => none
theorem ok74 : FnOk Try.prog T 74 sp74 := by
  refine fn_ok (E := E74) hE call_nil hM Try.func74 (code := (Try.f74.body.getD .skip)) (by kernel_rfl) (by kernel_rfl) ?_
  have key : ∀ (s0_0 : Int) (s0_1 : ByteArray) (s0_2 : Row) (id1 : Int), okS s0_1 → FitR s0_2 → ∃ it : It Res, (∀ c ∈ loopsOf (Try.f74.body.getD .skip), LoopOk E74 it c) ∧ body E74 it Try.f74 [(.v true [(.i .i64 s0_0), (.s s0_1), (.sh 83 s0_2)]), (.v false [(.i .i64 id1)])] = some ⟨[(.v false [(.i .i64 (Pu.spec_l14At.v s0_0 s0_1 s0_2 id1))])], []⟩ := by
    intro s0_0 s0_1 s0_2 id1  g1 g2
    obtain ⟨N, hN⟩ := Pu.spec_l14At.b_eq (R := Res) (fun r0 => some ⟨[(.v false [(.i .i64 r0)])], []⟩) s0_0 s0_1 s0_2 id1 g1 g2
    have hl : loopsOf (Try.f74.body.getD .skip) = [loopOf Try.f74 2] := by kernel_rfl
    refine ⟨it74 N, by rw [hl]; exact (loops_cons (lo74_2 N) loops_nil), ?_⟩
    refine Eq.trans (show body E74 (it74 N) Try.f74 [(.v true [(.i .i64 s0_0), (.s s0_1), (.sh 83 s0_2)]), (.v false [(.i .i64 id1)])] = Pu.spec_l14At.b N (fun r0 => some ⟨[(.v false [(.i .i64 r0)])], []⟩) s0_0 s0_1 s0_2 id1 by kernel_rfl) hN
  intro args r h
  unfold sp74 at h
  split at h
  · injection h with h
    injection h with h1 h2
    subst h2
    exact ⟨by kernel_rfl, fun hf => ⟨of_decide_eq_true (by kernel_rfl), key _ _ _ _ hf.1.2.1 hf.1.2.2.1⟩⟩
  · cases h

end Go.FG.Se

namespace Go.FG.Se
open Go.Proofs
def E51 : Env := { toTab := T, call := Go.FG.callIn [], mode := Go.FG.modeIn md, keep := Go.FG.keepIn [], tk := fun n => Go.FG.memB n [], om := Go.FG.omIn [] }
def sp51 : List Arg → Option (Bool × Res)
  | [(.v false [(.i .i64 x0)]), (.v false [(.i .i64 least1)]), (.v false [(.i .i64 most2)])] => some (true, ⟨[(.v false [(.b (Pu.spec_l01In.v x0 least1 most2))])], []⟩)
  | _ => none
theorem ok51 : FnOk Try.prog T 51 sp51 := by
  refine fn_ok (E := E51) hE call_nil hM Try.func51 (code := (Try.f51.body.getD .skip)) (by kernel_rfl) (by kernel_rfl) ?_
  have key : ∀ (x0 : Int) (least1 : Int) (most2 : Int), ∃ it : It Res, (∀ c ∈ loopsOf (Try.f51.body.getD .skip), LoopOk E51 it c) ∧ body E51 it Try.f51 [(.v false [(.i .i64 x0)]), (.v false [(.i .i64 least1)]), (.v false [(.i .i64 most2)])] = some ⟨[(.v false [(.b (Pu.spec_l01In.v x0 least1 most2))])], []⟩ := by
    intro x0 least1 most2 
    have hN := Pu.spec_l01In.b_eq (R := Res) (fun r0 => some ⟨[(.v false [(.b r0)])], []⟩) x0 least1 most2
    have hl : loopsOf (Try.f51.body.getD .skip) = [] := by kernel_rfl
    refine ⟨iterN 0, by rw [hl]; exact loops_nil, ?_⟩
    refine Eq.trans (show body E51 (iterN 0) Try.f51 [(.v false [(.i .i64 x0)]), (.v false [(.i .i64 least1)]), (.v false [(.i .i64 most2)])] = Pu.spec_l01In.b (fun r0 => some ⟨[(.v false [(.b r0)])], []⟩) x0 least1 most2 by kernel_rfl) hN
  intro args r h
  unfold sp51 at h
  split at h
  · injection h with h
    injection h with h1 h2
    subst h2
    exact ⟨by kernel_rfl, fun hf => ⟨of_decide_eq_true (by kernel_rfl), key _ _ _⟩⟩
  · cases h

end Go.FG.Se

namespace Go.FG.Se
open Go.Proofs
def E34 : Env := { toTab := T, call := Go.FG.callIn [(51, sp51)], mode := Go.FG.modeIn md, keep := Go.FG.keepIn [(2, [1, 2, 3])], tk := fun n => Go.FG.memB n [], om := Go.FG.omIn [] }
def it34 (N : Nat) {R : Type} : It R := fun rid f cn L K => bif Nat.beq rid 2 then (tell [(2, (.v (.v false [(.bp 0 0)]))), (4, (.v (.v false [(.b false)]))), (6, (.v (.v false [(.i .i64 0)]))), (1, (.o (.box [(.i .i64 0), (.s ⟨#[]⟩), (.sh 83 [])])))] (fun | [.B x0, .I x1, .I x2, .S x3, .R x4] => Pu.spec_StreamOk.l2 N (fun y0 y1 y2 y3 y4 => (K .ret (tabl [(2, (.v (.v false [(.bp 0 0)]))), (4, (.v (.v false [(.b y0)]))), (6, (.v (.v false [(.i .i64 y1)]))), (1, (.o (.box [(.i .i64 y2), (.s y3), (.sh 83 y4)])))]))) (fun y0 y1 y2 y3 y4 => (K (.exit 0) (tabl [(2, (.v (.v false [(.bp 0 0)]))), (4, (.v (.v false [(.b y0)]))), (6, (.v (.v false [(.i .i64 y1)]))), (1, (.o (.box [(.i .i64 y2), (.s y3), (.sh 83 y4)])))]))) N x0 x1 x2 x3 x4 | _ => none) L (none)) else none
theorem e34_2 {R : Type} (N : Nat) (K : Ex → St → Option R) : ∀ n : Nat, (∀ x0 x1 x2 x3 x4, iter (exc E34 (it34 N) (loopOf Try.f34 2)) (canon (E34.keep 2))  n (tabl [(2, (.v (.v false [(.bp 0 0)]))), (4, (.v (.v false [(.b x0)]))), (6, (.v (.v false [(.i .i64 x1)]))), (1, (.o (.box [(.i .i64 x2), (.s x3), (.sh 83 x4)])))]) K = Pu.spec_StreamOk.l2 N (fun y0 y1 y2 y3 y4 => (K .ret (tabl [(2, (.v (.v false [(.bp 0 0)]))), (4, (.v (.v false [(.b y0)]))), (6, (.v (.v false [(.i .i64 y1)]))), (1, (.o (.box [(.i .i64 y2), (.s y3), (.sh 83 y4)])))]))) (fun y0 y1 y2 y3 y4 => (K (.exit 0) (tabl [(2, (.v (.v false [(.bp 0 0)]))), (4, (.v (.v false [(.b y0)]))), (6, (.v (.v false [(.i .i64 y1)]))), (1, (.o (.box [(.i .i64 y2), (.s y3), (.sh 83 y4)])))]))) n x0 x1 x2 x3 x4) := by
  intro n
  induction n with
  | zero => exact (fun _ _ _ _ _ => rfl)
  | succ n ih =>
    have e0 : (fun x0 x1 x2 x3 x4 => iter (exc E34 (it34 N) (loopOf Try.f34 2)) (canon (E34.keep 2))  n (tabl [(2, (.v (.v false [(.bp 0 0)]))), (4, (.v (.v false [(.b x0)]))), (6, (.v (.v false [(.i .i64 x1)]))), (1, (.o (.box [(.i .i64 x2), (.s x3), (.sh 83 x4)])))]) K) = Pu.spec_StreamOk.l2 N (fun y0 y1 y2 y3 y4 => (K .ret (tabl [(2, (.v (.v false [(.bp 0 0)]))), (4, (.v (.v false [(.b y0)]))), (6, (.v (.v false [(.i .i64 y1)]))), (1, (.o (.box [(.i .i64 y2), (.s y3), (.sh 83 y4)])))]))) (fun y0 y1 y2 y3 y4 => (K (.exit 0) (tabl [(2, (.v (.v false [(.bp 0 0)]))), (4, (.v (.v false [(.b y0)]))), (6, (.v (.v false [(.i .i64 y1)]))), (1, (.o (.box [(.i .i64 y2), (.s y3), (.sh 83 y4)])))]))) n := by funext x0 x1 x2 x3 x4; exact ih x0 x1 x2 x3 x4
    intro x0 x1 x2 x3 x4
    have h : ∀ g, exc E34 (it34 N) (loopOf Try.f34 2) (tabl [(2, (.v (.v false [(.bp 0 0)]))), (4, (.v (.v false [(.b x0)]))), (6, (.v (.v false [(.i .i64 x1)]))), (1, (.o (.box [(.i .i64 x2), (.s x3), (.sh 83 x4)])))]) (iterK g (canon (E34.keep 2)) K) = Pu.spec_StreamOk.r2 N (fun x0 x1 x2 x3 x4 => (g (tabl [(2, (.v (.v false [(.bp 0 0)]))), (4, (.v (.v false [(.b x0)]))), (6, (.v (.v false [(.i .i64 x1)]))), (1, (.o (.box [(.i .i64 x2), (.s x3), (.sh 83 x4)])))]))) (fun y0 y1 y2 y3 y4 => (K .ret (tabl [(2, (.v (.v false [(.bp 0 0)]))), (4, (.v (.v false [(.b y0)]))), (6, (.v (.v false [(.i .i64 y1)]))), (1, (.o (.box [(.i .i64 y2), (.s y3), (.sh 83 y4)])))]))) (fun y0 y1 y2 y3 y4 => (K (.exit 0) (tabl [(2, (.v (.v false [(.bp 0 0)]))), (4, (.v (.v false [(.b y0)]))), (6, (.v (.v false [(.i .i64 y1)]))), (1, (.o (.box [(.i .i64 y2), (.s y3), (.sh 83 y4)])))]))) x0 x1 x2 x3 x4 := by intro g; kernel_rfl
    refine (h _).trans ?_
    show Pu.spec_StreamOk.r2 N (fun x0 x1 x2 x3 x4 => (iter (exc E34 (it34 N) (loopOf Try.f34 2)) (canon (E34.keep 2))  n (tabl [(2, (.v (.v false [(.bp 0 0)]))), (4, (.v (.v false [(.b x0)]))), (6, (.v (.v false [(.i .i64 x1)]))), (1, (.o (.box [(.i .i64 x2), (.s x3), (.sh 83 x4)])))]) K)) (fun y0 y1 y2 y3 y4 => (K .ret (tabl [(2, (.v (.v false [(.bp 0 0)]))), (4, (.v (.v false [(.b y0)]))), (6, (.v (.v false [(.i .i64 y1)]))), (1, (.o (.box [(.i .i64 y2), (.s y3), (.sh 83 y4)])))]))) (fun y0 y1 y2 y3 y4 => (K (.exit 0) (tabl [(2, (.v (.v false [(.bp 0 0)]))), (4, (.v (.v false [(.b y0)]))), (6, (.v (.v false [(.i .i64 y1)]))), (1, (.o (.box [(.i .i64 y2), (.s y3), (.sh 83 y4)])))]))) x0 x1 x2 x3 x4 = _
    rw [e0]; rfl
theorem lo34_2 {R : Type} (N : Nat) : LoopOk E34 (it34 N (R := R)) (loopOf Try.f34 2) := by
  have e : firstRid (loopOf Try.f34 2) = 2 := by kernel_rfl
  intro L K r
  rw [e]
  intro h
  unfold it34 at h
  simp only [show Nat.beq 2 2 = true from rfl, cond_false, cond_true] at h
  refine tell_ok (Q := fun L => ∃ n, iter (exc E34 (it34 N) (loopOf Try.f34 2)) (canon (E34.keep 2)) n (tabl L) K = some r) h (fun xs h => ?_) (fun h => ?_)
  · (try dsimp only at h)
    split at h
    · exact ⟨N, ((e34_2 N K N) _ _ _ _ _).trans h⟩
    · cases h
  cases h
def sp34 : List Arg → Option (Bool × Res)
  | [(.v true [(.i .i64 s0_0), (.s s0_1), (.sh 83 s0_2)])] => some (true, ⟨[(.v false [(.b (Pu.spec_StreamOk.v s0_0 s0_1 s0_2))])], []⟩)
  | _ => none
theorem ok34 : FnOk Try.prog T 34 sp34 := by
  refine fn_ok (E := E34) hE (call_cons ok51 call_nil) hM Try.func34 (code := (Try.f34.body.getD .skip)) (by kernel_rfl) (by kernel_rfl) ?_
  have key : ∀ (s0_0 : Int) (s0_1 : ByteArray) (s0_2 : Row), okS s0_1 → FitR s0_2 → ∃ it : It Res, (∀ c ∈ loopsOf (Try.f34.body.getD .skip), LoopOk E34 it c) ∧ body E34 it Try.f34 [(.v true [(.i .i64 s0_0), (.s s0_1), (.sh 83 s0_2)])] = some ⟨[(.v false [(.b (Pu.spec_StreamOk.v s0_0 s0_1 s0_2))])], []⟩ := by
    intro s0_0 s0_1 s0_2  g1 g2
    obtain ⟨N, hN⟩ := Pu.spec_StreamOk.b_eq (R := Res) (fun r0 => some ⟨[(.v false [(.b r0)])], []⟩) s0_0 s0_1 s0_2 g1 g2
    have hl : loopsOf (Try.f34.body.getD .skip) = [loopOf Try.f34 2] := by kernel_rfl
    refine ⟨it34 N, by rw [hl]; exact (loops_cons (lo34_2 N) loops_nil), ?_⟩
    refine Eq.trans (show body E34 (it34 N) Try.f34 [(.v true [(.i .i64 s0_0), (.s s0_1), (.sh 83 s0_2)])] = Pu.spec_StreamOk.b N (fun r0 => some ⟨[(.v false [(.b r0)])], []⟩) s0_0 s0_1 s0_2 by kernel_rfl) hN
  intro args r h
  unfold sp34 at h
  split at h
  · injection h with h
    injection h with h1 h2
    subst h2
    exact ⟨by kernel_rfl, fun hf => ⟨of_decide_eq_true (by kernel_rfl), key _ _ _ hf.1.2.1 hf.1.2.2.1⟩⟩
  · cases h

end Go.FG.Se

namespace Go.FG.Se
open Go.Proofs
def E46 : Env := { toTab := T, call := Go.FG.callIn [(73, sp73), (74, sp74), (34, sp34)], mode := Go.FG.modeIn md, keep := Go.FG.keepIn [], tk := fun n => Go.FG.memB n [], om := Go.FG.omIn [] }
def sp46 : List Arg → Option (Bool × Res)
  | [(.v true [(.i .i64 s0_0), (.s s0_1), (.sh 83 s0_2)]), (.v false [(.i .i64 id1)]), (.v false [(.i .i64 most2)])] => some (Pu.spec_StreamRead.c s0_0 s0_1 s0_2 id1 most2, ⟨[(.v true [(.i .i64 ((Pu.spec_StreamRead.v s0_0 s0_1 s0_2 id1 most2).1)), (.s ((Pu.spec_StreamRead.v s0_0 s0_1 s0_2 id1 most2).2.1)), (.ow 83 true ((Pu.spec_StreamRead.v s0_0 s0_1 s0_2 id1 most2).2.2.1))]), (.v false [(.s ((Pu.spec_StreamRead.v s0_0 s0_1 s0_2 id1 most2).2.2.2.1))]), (.v false [(.b ((Pu.spec_StreamRead.v s0_0 s0_1 s0_2 id1 most2).2.2.2.2))])], []⟩)
  | _ => none
theorem ok46 : FnOk Try.prog T 46 sp46 := by
  refine fn_ok (E := E46) hE (call_cons ok73 (call_cons ok74 (call_cons ok34 call_nil))) hM Try.func46 (code := (Try.f46.body.getD .skip)) (by kernel_rfl) (by kernel_rfl) ?_
  have key : ∀ (s0_0 : Int) (s0_1 : ByteArray) (s0_2 : Row) (id1 : Int) (most2 : Int), Pu.spec_StreamRead.c s0_0 s0_1 s0_2 id1 most2 = true → ∃ it : It Res, (∀ c ∈ loopsOf (Try.f46.body.getD .skip), LoopOk E46 it c) ∧ body E46 it Try.f46 [(.v true [(.i .i64 s0_0), (.s s0_1), (.sh 83 s0_2)]), (.v false [(.i .i64 id1)]), (.v false [(.i .i64 most2)])] = some ⟨[(.v true [(.i .i64 ((Pu.spec_StreamRead.v s0_0 s0_1 s0_2 id1 most2).1)), (.s ((Pu.spec_StreamRead.v s0_0 s0_1 s0_2 id1 most2).2.1)), (.ow 83 true ((Pu.spec_StreamRead.v s0_0 s0_1 s0_2 id1 most2).2.2.1))]), (.v false [(.s ((Pu.spec_StreamRead.v s0_0 s0_1 s0_2 id1 most2).2.2.2.1))]), (.v false [(.b ((Pu.spec_StreamRead.v s0_0 s0_1 s0_2 id1 most2).2.2.2.2))])], []⟩ := by
    intro s0_0 s0_1 s0_2 id1 most2  h1
    have hN := Pu.spec_StreamRead.b_eq (R := Res) (fun r0 r1 r2 r3 r4 => some ⟨[(.v true [(.i .i64 r0), (.s r1), (.ow 83 true r2)]), (.v false [(.s r3)]), (.v false [(.b r4)])], []⟩) s0_0 s0_1 s0_2 id1 most2 h1
    have hl : loopsOf (Try.f46.body.getD .skip) = [] := by kernel_rfl
    refine ⟨iterN 0, by rw [hl]; exact loops_nil, ?_⟩
    refine Eq.trans (show body E46 (iterN 0) Try.f46 [(.v true [(.i .i64 s0_0), (.s s0_1), (.sh 83 s0_2)]), (.v false [(.i .i64 id1)]), (.v false [(.i .i64 most2)])] = Pu.spec_StreamRead.b (fun r0 r1 r2 r3 r4 => some ⟨[(.v true [(.i .i64 r0), (.s r1), (.ow 83 true r2)]), (.v false [(.s r3)]), (.v false [(.b r4)])], []⟩) s0_0 s0_1 s0_2 id1 most2 by kernel_rfl) hN
  intro args r h
  unfold sp46 at h
  split at h
  · injection h with h
    injection h with h1 h2
    subst h2
    exact ⟨by kernel_rfl, fun hf => ⟨of_decide_eq_true (by kernel_rfl), key _ _ _ _ _ h1⟩⟩
  · cases h

end Go.FG.Se

namespace Go.FG.Se
open Go.Proofs
def E70 : Env := { toTab := T, call := Go.FG.callIn [], mode := Go.FG.modeIn md, keep := Go.FG.keepIn [], tk := fun n => Go.FG.memB n [], om := Go.FG.omIn [] }
def sp70 : List Arg → Option (Bool × Res)
  | [(.v true [(.i .i64 s0_0), (.s s0_1), (.sh 83 s0_2)])] => some (Pu.impl_copyStream.c s0_0 s0_1 s0_2, ⟨[(.v true [(.i .i64 ((Pu.impl_copyStream.v s0_0 s0_1 s0_2).1)), (.s ((Pu.impl_copyStream.v s0_0 s0_1 s0_2).2.1)), (.ow 83 true ((Pu.impl_copyStream.v s0_0 s0_1 s0_2).2.2))])], []⟩)
  | _ => none
theorem ok70 : FnOk Try.prog T 70 sp70 := by
  refine fn_ok (E := E70) hE call_nil hM Try.func70 (code := (Try.f70.body.getD .skip)) (by kernel_rfl) (by kernel_rfl) ?_
  have key : ∀ (s0_0 : Int) (s0_1 : ByteArray) (s0_2 : Row), Pu.impl_copyStream.c s0_0 s0_1 s0_2 = true → ∃ it : It Res, (∀ c ∈ loopsOf (Try.f70.body.getD .skip), LoopOk E70 it c) ∧ body E70 it Try.f70 [(.v true [(.i .i64 s0_0), (.s s0_1), (.sh 83 s0_2)])] = some ⟨[(.v true [(.i .i64 ((Pu.impl_copyStream.v s0_0 s0_1 s0_2).1)), (.s ((Pu.impl_copyStream.v s0_0 s0_1 s0_2).2.1)), (.ow 83 true ((Pu.impl_copyStream.v s0_0 s0_1 s0_2).2.2))])], []⟩ := by
    intro s0_0 s0_1 s0_2  h1
    have hN := Pu.impl_copyStream.b_eq (R := Res) (fun r0 r1 r2 => some ⟨[(.v true [(.i .i64 r0), (.s r1), (.ow 83 true r2)])], []⟩) s0_0 s0_1 s0_2 h1
    have hl : loopsOf (Try.f70.body.getD .skip) = [] := by kernel_rfl
    refine ⟨iterN 0, by rw [hl]; exact loops_nil, ?_⟩
    refine Eq.trans (show body E70 (iterN 0) Try.f70 [(.v true [(.i .i64 s0_0), (.s s0_1), (.sh 83 s0_2)])] = Pu.impl_copyStream.b (fun r0 r1 r2 => some ⟨[(.v true [(.i .i64 r0), (.s r1), (.ow 83 true r2)])], []⟩) s0_0 s0_1 s0_2 by kernel_rfl) hN
  intro args r h
  unfold sp70 at h
  split at h
  · injection h with h
    injection h with h1 h2
    subst h2
    exact ⟨by kernel_rfl, fun hf => ⟨of_decide_eq_true (by kernel_rfl), key _ _ _ h1⟩⟩
  · cases h

end Go.FG.Se

namespace Go.FG.Se
open Go.Proofs
def E80 : Env := { toTab := T, call := Go.FG.callIn [], mode := Go.FG.modeIn md, keep := Go.FG.keepIn [], tk := fun n => Go.FG.memB n [], om := Go.FG.omIn [] }
def sp80 : List Arg → Option (Bool × Res)
  | [(.v true [(.i .i64 r0_0), (.i .i64 r0_1)]), (.fb [(.i .i64 id1)])] => some (true, ⟨[(.v false [(.b (Pu.impl_readerAt_1.v r0_0 r0_1 id1))])], []⟩)
  | _ => none
theorem ok80 : FnOk Try.prog T 80 sp80 := by
  refine fn_ok (E := E80) hE call_nil hM Try.func80 (code := (Try.f80.body.getD .skip)) (by kernel_rfl) (by kernel_rfl) ?_
  have key : ∀ (r0_0 : Int) (r0_1 : Int) (id1 : Int), ∃ it : It Res, (∀ c ∈ loopsOf (Try.f80.body.getD .skip), LoopOk E80 it c) ∧ body E80 it Try.f80 [(.v true [(.i .i64 r0_0), (.i .i64 r0_1)]), (.fb [(.i .i64 id1)])] = some ⟨[(.v false [(.b (Pu.impl_readerAt_1.v r0_0 r0_1 id1))])], []⟩ := by
    intro r0_0 r0_1 id1 
    have hN := Pu.impl_readerAt_1.b_eq (R := Res) (fun r0 => some ⟨[(.v false [(.b r0)])], []⟩) r0_0 r0_1 id1
    have hl : loopsOf (Try.f80.body.getD .skip) = [] := by kernel_rfl
    refine ⟨iterN 0, by rw [hl]; exact loops_nil, ?_⟩
    refine Eq.trans (show body E80 (iterN 0) Try.f80 [(.v true [(.i .i64 r0_0), (.i .i64 r0_1)]), (.fb [(.i .i64 id1)])] = Pu.impl_readerAt_1.b (fun r0 => some ⟨[(.v false [(.b r0)])], []⟩) r0_0 r0_1 id1 by kernel_rfl) hN
  intro args r h
  unfold sp80 at h
  split at h
  · injection h with h
    injection h with h1 h2
    subst h2
    exact ⟨by kernel_rfl, fun hf => ⟨of_decide_eq_true (by kernel_rfl), key _ _ _⟩⟩
  · cases h

end Go.FG.Se

namespace Go.FG.Se
open Go.Proofs
def E79a : Env := { toTab := T, call := Go.FG.callIn [(80, sp80)], mode := Go.FG.modeIn md, keep := Go.FG.keepIn [(2, [0, 1, 4, 7, 8])], tk := fun n => Go.FG.memB n [], om := Go.FG.omIn [] }
def it79a (N : Nat) {R : Type} : It R := fun rid f cn L K => bif Nat.beq rid 2 then (tell [(0, (.v (.v false [(.sh 83 [])]))), (2, (.v (.v false [(.fn 80 [[(.i .i64 0)]])]))), (8, (.v (.v false [(.i .i64 0)]))), (14, (.v (.v false [(.i .i64 0)]))), (16, (.v (.v false [(.i .i64 0)])))] (fun | [.R x0, .I x1, .I x2, .I x3, .I x4] => Pu.slices_IndexFunc_Readera.l2 N (fun y0 y1 y2 y3 y4 => (K .ret (tabl [(0, (.v (.v false [(.sh 83 y0)]))), (2, (.v (.v false [(.fn 80 [[(.i .i64 y1)]])]))), (8, (.v (.v false [(.i .i64 y2)]))), (14, (.v (.v false [(.i .i64 y3)]))), (16, (.v (.v false [(.i .i64 y4)])))]))) (fun y0 y1 y2 y3 y4 => (K (.exit 0) (tabl [(0, (.v (.v false [(.sh 83 y0)]))), (2, (.v (.v false [(.fn 80 [[(.i .i64 y1)]])]))), (8, (.v (.v false [(.i .i64 y2)]))), (14, (.v (.v false [(.i .i64 y3)]))), (16, (.v (.v false [(.i .i64 y4)])))]))) N x0 x1 x2 x3 x4 | _ => none) L (none)) else none
theorem e79a_2 {R : Type} (N : Nat) (K : Ex → St → Option R) : ∀ n : Nat, (∀ x0 x1 x2 x3 x4, iter (exc E79a (it79a N) (loopOf Try.f79 2)) (canon (E79a.keep 2))  n (tabl [(0, (.v (.v false [(.sh 83 x0)]))), (2, (.v (.v false [(.fn 80 [[(.i .i64 x1)]])]))), (8, (.v (.v false [(.i .i64 x2)]))), (14, (.v (.v false [(.i .i64 x3)]))), (16, (.v (.v false [(.i .i64 x4)])))]) K = Pu.slices_IndexFunc_Readera.l2 N (fun y0 y1 y2 y3 y4 => (K .ret (tabl [(0, (.v (.v false [(.sh 83 y0)]))), (2, (.v (.v false [(.fn 80 [[(.i .i64 y1)]])]))), (8, (.v (.v false [(.i .i64 y2)]))), (14, (.v (.v false [(.i .i64 y3)]))), (16, (.v (.v false [(.i .i64 y4)])))]))) (fun y0 y1 y2 y3 y4 => (K (.exit 0) (tabl [(0, (.v (.v false [(.sh 83 y0)]))), (2, (.v (.v false [(.fn 80 [[(.i .i64 y1)]])]))), (8, (.v (.v false [(.i .i64 y2)]))), (14, (.v (.v false [(.i .i64 y3)]))), (16, (.v (.v false [(.i .i64 y4)])))]))) n x0 x1 x2 x3 x4) := by
  intro n
  induction n with
  | zero => exact (fun _ _ _ _ _ => rfl)
  | succ n ih =>
    have e0 : (fun x0 x1 x2 x3 x4 => iter (exc E79a (it79a N) (loopOf Try.f79 2)) (canon (E79a.keep 2))  n (tabl [(0, (.v (.v false [(.sh 83 x0)]))), (2, (.v (.v false [(.fn 80 [[(.i .i64 x1)]])]))), (8, (.v (.v false [(.i .i64 x2)]))), (14, (.v (.v false [(.i .i64 x3)]))), (16, (.v (.v false [(.i .i64 x4)])))]) K) = Pu.slices_IndexFunc_Readera.l2 N (fun y0 y1 y2 y3 y4 => (K .ret (tabl [(0, (.v (.v false [(.sh 83 y0)]))), (2, (.v (.v false [(.fn 80 [[(.i .i64 y1)]])]))), (8, (.v (.v false [(.i .i64 y2)]))), (14, (.v (.v false [(.i .i64 y3)]))), (16, (.v (.v false [(.i .i64 y4)])))]))) (fun y0 y1 y2 y3 y4 => (K (.exit 0) (tabl [(0, (.v (.v false [(.sh 83 y0)]))), (2, (.v (.v false [(.fn 80 [[(.i .i64 y1)]])]))), (8, (.v (.v false [(.i .i64 y2)]))), (14, (.v (.v false [(.i .i64 y3)]))), (16, (.v (.v false [(.i .i64 y4)])))]))) n := by funext x0 x1 x2 x3 x4; exact ih x0 x1 x2 x3 x4
    intro x0 x1 x2 x3 x4
    have h : ∀ g, exc E79a (it79a N) (loopOf Try.f79 2) (tabl [(0, (.v (.v false [(.sh 83 x0)]))), (2, (.v (.v false [(.fn 80 [[(.i .i64 x1)]])]))), (8, (.v (.v false [(.i .i64 x2)]))), (14, (.v (.v false [(.i .i64 x3)]))), (16, (.v (.v false [(.i .i64 x4)])))]) (iterK g (canon (E79a.keep 2)) K) = Pu.slices_IndexFunc_Readera.r2 N (fun x0 x1 x2 x3 x4 => (g (tabl [(0, (.v (.v false [(.sh 83 x0)]))), (2, (.v (.v false [(.fn 80 [[(.i .i64 x1)]])]))), (8, (.v (.v false [(.i .i64 x2)]))), (14, (.v (.v false [(.i .i64 x3)]))), (16, (.v (.v false [(.i .i64 x4)])))]))) (fun y0 y1 y2 y3 y4 => (K .ret (tabl [(0, (.v (.v false [(.sh 83 y0)]))), (2, (.v (.v false [(.fn 80 [[(.i .i64 y1)]])]))), (8, (.v (.v false [(.i .i64 y2)]))), (14, (.v (.v false [(.i .i64 y3)]))), (16, (.v (.v false [(.i .i64 y4)])))]))) (fun y0 y1 y2 y3 y4 => (K (.exit 0) (tabl [(0, (.v (.v false [(.sh 83 y0)]))), (2, (.v (.v false [(.fn 80 [[(.i .i64 y1)]])]))), (8, (.v (.v false [(.i .i64 y2)]))), (14, (.v (.v false [(.i .i64 y3)]))), (16, (.v (.v false [(.i .i64 y4)])))]))) x0 x1 x2 x3 x4 := by intro g; kernel_rfl
    refine (h _).trans ?_
    show Pu.slices_IndexFunc_Readera.r2 N (fun x0 x1 x2 x3 x4 => (iter (exc E79a (it79a N) (loopOf Try.f79 2)) (canon (E79a.keep 2))  n (tabl [(0, (.v (.v false [(.sh 83 x0)]))), (2, (.v (.v false [(.fn 80 [[(.i .i64 x1)]])]))), (8, (.v (.v false [(.i .i64 x2)]))), (14, (.v (.v false [(.i .i64 x3)]))), (16, (.v (.v false [(.i .i64 x4)])))]) K)) (fun y0 y1 y2 y3 y4 => (K .ret (tabl [(0, (.v (.v false [(.sh 83 y0)]))), (2, (.v (.v false [(.fn 80 [[(.i .i64 y1)]])]))), (8, (.v (.v false [(.i .i64 y2)]))), (14, (.v (.v false [(.i .i64 y3)]))), (16, (.v (.v false [(.i .i64 y4)])))]))) (fun y0 y1 y2 y3 y4 => (K (.exit 0) (tabl [(0, (.v (.v false [(.sh 83 y0)]))), (2, (.v (.v false [(.fn 80 [[(.i .i64 y1)]])]))), (8, (.v (.v false [(.i .i64 y2)]))), (14, (.v (.v false [(.i .i64 y3)]))), (16, (.v (.v false [(.i .i64 y4)])))]))) x0 x1 x2 x3 x4 = _
    rw [e0]; rfl
theorem lo79a_2 {R : Type} (N : Nat) : LoopOk E79a (it79a N (R := R)) (loopOf Try.f79 2) := by
  have e : firstRid (loopOf Try.f79 2) = 2 := by kernel_rfl
  intro L K r
  rw [e]
  intro h
  unfold it79a at h
  simp only [show Nat.beq 2 2 = true from rfl, cond_false, cond_true] at h
  refine tell_ok (Q := fun L => ∃ n, iter (exc E79a (it79a N) (loopOf Try.f79 2)) (canon (E79a.keep 2)) n (tabl L) K = some r) h (fun xs h => ?_) (fun h => ?_)
  · (try dsimp only at h)
    split at h
    · exact ⟨N, ((e79a_2 N K N) _ _ _ _ _).trans h⟩
    · cases h
  cases h
def sp79a : List Arg → Option (Bool × Res)
  | [(.v false [(.sh 83 s0)]), (.v false [(.fn 80 [[(.i .i64 id1)]])])] => some (true, ⟨[(.v false [(.i .i64 (Pu.slices_IndexFunc_Readera.v s0 id1))])], []⟩)
  | _ => none
theorem ok79a : FnOk Try.prog T 79 sp79a := by
  refine fn_ok (E := E79a) hE (call_cons ok80 call_nil) hM Try.func79 (code := (Try.f79.body.getD .skip)) (by kernel_rfl) (by kernel_rfl) ?_
  have key : ∀ (s0 : Row) (id1 : Int), FitR s0 → ∃ it : It Res, (∀ c ∈ loopsOf (Try.f79.body.getD .skip), LoopOk E79a it c) ∧ body E79a it Try.f79 [(.v false [(.sh 83 s0)]), (.v false [(.fn 80 [[(.i .i64 id1)]])])] = some ⟨[(.v false [(.i .i64 (Pu.slices_IndexFunc_Readera.v s0 id1))])], []⟩ := by
    intro s0 id1  g0
    obtain ⟨N, hN⟩ := Pu.slices_IndexFunc_Readera.b_eq (R := Res) (fun r0 => some ⟨[(.v false [(.i .i64 r0)])], []⟩) s0 id1 g0
    have hl : loopsOf (Try.f79.body.getD .skip) = [loopOf Try.f79 2] := by kernel_rfl
    refine ⟨it79a N, by rw [hl]; exact (loops_cons (lo79a_2 N) loops_nil), ?_⟩
    refine Eq.trans (show body E79a (it79a N) Try.f79 [(.v false [(.sh 83 s0)]), (.v false [(.fn 80 [[(.i .i64 id1)]])])] = Pu.slices_IndexFunc_Readera.b N (fun r0 => some ⟨[(.v false [(.i .i64 r0)])], []⟩) s0 id1 by kernel_rfl) hN
  intro args r h
  unfold sp79a at h
  split at h
  · injection h with h
    injection h with h1 h2
    subst h2
    exact ⟨by kernel_rfl, fun hf => ⟨of_decide_eq_true (by kernel_rfl), key _ _ hf.1.1⟩⟩
  · cases h

end Go.FG.Se

namespace Go.FG.Se
open Go.Proofs
def E72 : Env := { toTab := T, call := Go.FG.callIn [], mode := Go.FG.modeIn md, keep := Go.FG.keepIn [], tk := fun n => Go.FG.memB n [], om := Go.FG.omIn [] }
def sp72 : List Arg → Option (Bool × Res)
  | [(.v true [(.i .i64 r0_0), (.i .i64 r0_1)]), (.fb [(.i .i64 id1)])] => some (true, ⟨[(.v false [(.b (Pu.impl_StreamLeave_1.v r0_0 r0_1 id1))])], []⟩)
  | _ => none
theorem ok72 : FnOk Try.prog T 72 sp72 := by
  refine fn_ok (E := E72) hE call_nil hM Try.func72 (code := (Try.f72.body.getD .skip)) (by kernel_rfl) (by kernel_rfl) ?_
  have key : ∀ (r0_0 : Int) (r0_1 : Int) (id1 : Int), ∃ it : It Res, (∀ c ∈ loopsOf (Try.f72.body.getD .skip), LoopOk E72 it c) ∧ body E72 it Try.f72 [(.v true [(.i .i64 r0_0), (.i .i64 r0_1)]), (.fb [(.i .i64 id1)])] = some ⟨[(.v false [(.b (Pu.impl_StreamLeave_1.v r0_0 r0_1 id1))])], []⟩ := by
    intro r0_0 r0_1 id1 
    have hN := Pu.impl_StreamLeave_1.b_eq (R := Res) (fun r0 => some ⟨[(.v false [(.b r0)])], []⟩) r0_0 r0_1 id1
    have hl : loopsOf (Try.f72.body.getD .skip) = [] := by kernel_rfl
    refine ⟨iterN 0, by rw [hl]; exact loops_nil, ?_⟩
    refine Eq.trans (show body E72 (iterN 0) Try.f72 [(.v true [(.i .i64 r0_0), (.i .i64 r0_1)]), (.fb [(.i .i64 id1)])] = Pu.impl_StreamLeave_1.b (fun r0 => some ⟨[(.v false [(.b r0)])], []⟩) r0_0 r0_1 id1 by kernel_rfl) hN
  intro args r h
  unfold sp72 at h
  split at h
  · injection h with h
    injection h with h1 h2
    subst h2
    exact ⟨by kernel_rfl, fun hf => ⟨of_decide_eq_true (by kernel_rfl), key _ _ _⟩⟩
  · cases h

end Go.FG.Se

namespace Go.FG.Se
open Go.Proofs
def E79b : Env := { toTab := T, call := Go.FG.callIn [(72, sp72)], mode := Go.FG.modeIn md, keep := Go.FG.keepIn [(2, [0, 1, 4, 7, 8])], tk := fun n => Go.FG.memB n [], om := Go.FG.omIn [] }
def it79b (N : Nat) {R : Type} : It R := fun rid f cn L K => bif Nat.beq rid 2 then (tell [(0, (.v (.v false [(.sh 83 [])]))), (2, (.v (.v false [(.fn 72 [[(.i .i64 0)]])]))), (8, (.v (.v false [(.i .i64 0)]))), (14, (.v (.v false [(.i .i64 0)]))), (16, (.v (.v false [(.i .i64 0)])))] (fun | [.R x0, .I x1, .I x2, .I x3, .I x4] => Pu.slices_IndexFunc_Readerb.l2 N (fun y0 y1 y2 y3 y4 => (K .ret (tabl [(0, (.v (.v false [(.sh 83 y0)]))), (2, (.v (.v false [(.fn 72 [[(.i .i64 y1)]])]))), (8, (.v (.v false [(.i .i64 y2)]))), (14, (.v (.v false [(.i .i64 y3)]))), (16, (.v (.v false [(.i .i64 y4)])))]))) (fun y0 y1 y2 y3 y4 => (K (.exit 0) (tabl [(0, (.v (.v false [(.sh 83 y0)]))), (2, (.v (.v false [(.fn 72 [[(.i .i64 y1)]])]))), (8, (.v (.v false [(.i .i64 y2)]))), (14, (.v (.v false [(.i .i64 y3)]))), (16, (.v (.v false [(.i .i64 y4)])))]))) N x0 x1 x2 x3 x4 | _ => none) L (none)) else none
theorem e79b_2 {R : Type} (N : Nat) (K : Ex → St → Option R) : ∀ n : Nat, (∀ x0 x1 x2 x3 x4, iter (exc E79b (it79b N) (loopOf Try.f79 2)) (canon (E79b.keep 2))  n (tabl [(0, (.v (.v false [(.sh 83 x0)]))), (2, (.v (.v false [(.fn 72 [[(.i .i64 x1)]])]))), (8, (.v (.v false [(.i .i64 x2)]))), (14, (.v (.v false [(.i .i64 x3)]))), (16, (.v (.v false [(.i .i64 x4)])))]) K = Pu.slices_IndexFunc_Readerb.l2 N (fun y0 y1 y2 y3 y4 => (K .ret (tabl [(0, (.v (.v false [(.sh 83 y0)]))), (2, (.v (.v false [(.fn 72 [[(.i .i64 y1)]])]))), (8, (.v (.v false [(.i .i64 y2)]))), (14, (.v (.v false [(.i .i64 y3)]))), (16, (.v (.v false [(.i .i64 y4)])))]))) (fun y0 y1 y2 y3 y4 => (K (.exit 0) (tabl [(0, (.v (.v false [(.sh 83 y0)]))), (2, (.v (.v false [(.fn 72 [[(.i .i64 y1)]])]))), (8, (.v (.v false [(.i .i64 y2)]))), (14, (.v (.v false [(.i .i64 y3)]))), (16, (.v (.v false [(.i .i64 y4)])))]))) n x0 x1 x2 x3 x4) := by
  intro n
  induction n with
  | zero => exact (fun _ _ _ _ _ => rfl)
  | succ n ih =>
    have e0 : (fun x0 x1 x2 x3 x4 => iter (exc E79b (it79b N) (loopOf Try.f79 2)) (canon (E79b.keep 2))  n (tabl [(0, (.v (.v false [(.sh 83 x0)]))), (2, (.v (.v false [(.fn 72 [[(.i .i64 x1)]])]))), (8, (.v (.v false [(.i .i64 x2)]))), (14, (.v (.v false [(.i .i64 x3)]))), (16, (.v (.v false [(.i .i64 x4)])))]) K) = Pu.slices_IndexFunc_Readerb.l2 N (fun y0 y1 y2 y3 y4 => (K .ret (tabl [(0, (.v (.v false [(.sh 83 y0)]))), (2, (.v (.v false [(.fn 72 [[(.i .i64 y1)]])]))), (8, (.v (.v false [(.i .i64 y2)]))), (14, (.v (.v false [(.i .i64 y3)]))), (16, (.v (.v false [(.i .i64 y4)])))]))) (fun y0 y1 y2 y3 y4 => (K (.exit 0) (tabl [(0, (.v (.v false [(.sh 83 y0)]))), (2, (.v (.v false [(.fn 72 [[(.i .i64 y1)]])]))), (8, (.v (.v false [(.i .i64 y2)]))), (14, (.v (.v false [(.i .i64 y3)]))), (16, (.v (.v false [(.i .i64 y4)])))]))) n := by funext x0 x1 x2 x3 x4; exact ih x0 x1 x2 x3 x4
    intro x0 x1 x2 x3 x4
    have h : ∀ g, exc E79b (it79b N) (loopOf Try.f79 2) (tabl [(0, (.v (.v false [(.sh 83 x0)]))), (2, (.v (.v false [(.fn 72 [[(.i .i64 x1)]])]))), (8, (.v (.v false [(.i .i64 x2)]))), (14, (.v (.v false [(.i .i64 x3)]))), (16, (.v (.v false [(.i .i64 x4)])))]) (iterK g (canon (E79b.keep 2)) K) = Pu.slices_IndexFunc_Readerb.r2 N (fun x0 x1 x2 x3 x4 => (g (tabl [(0, (.v (.v false [(.sh 83 x0)]))), (2, (.v (.v false [(.fn 72 [[(.i .i64 x1)]])]))), (8, (.v (.v false [(.i .i64 x2)]))), (14, (.v (.v false [(.i .i64 x3)]))), (16, (.v (.v false [(.i .i64 x4)])))]))) (fun y0 y1 y2 y3 y4 => (K .ret (tabl [(0, (.v (.v false [(.sh 83 y0)]))), (2, (.v (.v false [(.fn 72 [[(.i .i64 y1)]])]))), (8, (.v (.v false [(.i .i64 y2)]))), (14, (.v (.v false [(.i .i64 y3)]))), (16, (.v (.v false [(.i .i64 y4)])))]))) (fun y0 y1 y2 y3 y4 => (K (.exit 0) (tabl [(0, (.v (.v false [(.sh 83 y0)]))), (2, (.v (.v false [(.fn 72 [[(.i .i64 y1)]])]))), (8, (.v (.v false [(.i .i64 y2)]))), (14, (.v (.v false [(.i .i64 y3)]))), (16, (.v (.v false [(.i .i64 y4)])))]))) x0 x1 x2 x3 x4 := by intro g; kernel_rfl
    refine (h _).trans ?_
    show Pu.slices_IndexFunc_Readerb.r2 N (fun x0 x1 x2 x3 x4 => (iter (exc E79b (it79b N) (loopOf Try.f79 2)) (canon (E79b.keep 2))  n (tabl [(0, (.v (.v false [(.sh 83 x0)]))), (2, (.v (.v false [(.fn 72 [[(.i .i64 x1)]])]))), (8, (.v (.v false [(.i .i64 x2)]))), (14, (.v (.v false [(.i .i64 x3)]))), (16, (.v (.v false [(.i .i64 x4)])))]) K)) (fun y0 y1 y2 y3 y4 => (K .ret (tabl [(0, (.v (.v false [(.sh 83 y0)]))), (2, (.v (.v false [(.fn 72 [[(.i .i64 y1)]])]))), (8, (.v (.v false [(.i .i64 y2)]))), (14, (.v (.v false [(.i .i64 y3)]))), (16, (.v (.v false [(.i .i64 y4)])))]))) (fun y0 y1 y2 y3 y4 => (K (.exit 0) (tabl [(0, (.v (.v false [(.sh 83 y0)]))), (2, (.v (.v false [(.fn 72 [[(.i .i64 y1)]])]))), (8, (.v (.v false [(.i .i64 y2)]))), (14, (.v (.v false [(.i .i64 y3)]))), (16, (.v (.v false [(.i .i64 y4)])))]))) x0 x1 x2 x3 x4 = _
    rw [e0]; rfl
theorem lo79b_2 {R : Type} (N : Nat) : LoopOk E79b (it79b N (R := R)) (loopOf Try.f79 2) := by
  have e : firstRid (loopOf Try.f79 2) = 2 := by kernel_rfl
  intro L K r
  rw [e]
  intro h
  unfold it79b at h
  simp only [show Nat.beq 2 2 = true from rfl, cond_false, cond_true] at h
  refine tell_ok (Q := fun L => ∃ n, iter (exc E79b (it79b N) (loopOf Try.f79 2)) (canon (E79b.keep 2)) n (tabl L) K = some r) h (fun xs h => ?_) (fun h => ?_)
  · (try dsimp only at h)
    split at h
    · exact ⟨N, ((e79b_2 N K N) _ _ _ _ _).trans h⟩
    · cases h
  cases h
def sp79b : List Arg → Option (Bool × Res)
  | [(.v false [(.sh 83 s0)]), (.v false [(.fn 72 [[(.i .i64 id1)]])])] => some (true, ⟨[(.v false [(.i .i64 (Pu.slices_IndexFunc_Readerb.v s0 id1))])], []⟩)
  | _ => none
theorem ok79b : FnOk Try.prog T 79 sp79b := by
  refine fn_ok (E := E79b) hE (call_cons ok72 call_nil) hM Try.func79 (code := (Try.f79.body.getD .skip)) (by kernel_rfl) (by kernel_rfl) ?_
  have key : ∀ (s0 : Row) (id1 : Int), FitR s0 → ∃ it : It Res, (∀ c ∈ loopsOf (Try.f79.body.getD .skip), LoopOk E79b it c) ∧ body E79b it Try.f79 [(.v false [(.sh 83 s0)]), (.v false [(.fn 72 [[(.i .i64 id1)]])])] = some ⟨[(.v false [(.i .i64 (Pu.slices_IndexFunc_Readerb.v s0 id1))])], []⟩ := by
    intro s0 id1  g0
    obtain ⟨N, hN⟩ := Pu.slices_IndexFunc_Readerb.b_eq (R := Res) (fun r0 => some ⟨[(.v false [(.i .i64 r0)])], []⟩) s0 id1 g0
    have hl : loopsOf (Try.f79.body.getD .skip) = [loopOf Try.f79 2] := by kernel_rfl
    refine ⟨it79b N, by rw [hl]; exact (loops_cons (lo79b_2 N) loops_nil), ?_⟩
    refine Eq.trans (show body E79b (it79b N) Try.f79 [(.v false [(.sh 83 s0)]), (.v false [(.fn 72 [[(.i .i64 id1)]])])] = Pu.slices_IndexFunc_Readerb.b N (fun r0 => some ⟨[(.v false [(.i .i64 r0)])], []⟩) s0 id1 by kernel_rfl) hN
  intro args r h
  unfold sp79b at h
  split at h
  · injection h with h
    injection h with h1 h2
    subst h2
    exact ⟨by kernel_rfl, fun hf => ⟨of_decide_eq_true (by kernel_rfl), key _ _ hf.1.1⟩⟩
  · cases h

end Go.FG.Se

namespace Go.FG.Se
open Go.Proofs
def E75 : Env := { toTab := T, call := Go.FG.callIn [(79, sp79a), (79, sp79b)], mode := Go.FG.modeIn md, keep := Go.FG.keepIn [], tk := fun n => Go.FG.memB n [], om := Go.FG.omIn [] }
def sp75 : List Arg → Option (Bool × Res)
  | [(.v true [(.i .i64 s0_0), (.s s0_1), (.sh 83 s0_2)]), (.v false [(.i .i64 id1)])] => some (true, ⟨[(.v false [(.i .i64 (Pu.impl_readerAt.v s0_0 s0_1 s0_2 id1))])], []⟩)
  | _ => none
theorem ok75 : FnOk Try.prog T 75 sp75 := by
  refine fn_ok (E := E75) hE (call_cons ok79a (call_cons ok79b call_nil)) hM Try.func75 (code := (Try.f75.body.getD .skip)) (by kernel_rfl) (by kernel_rfl) ?_
  have key : ∀ (s0_0 : Int) (s0_1 : ByteArray) (s0_2 : Row) (id1 : Int), ∃ it : It Res, (∀ c ∈ loopsOf (Try.f75.body.getD .skip), LoopOk E75 it c) ∧ body E75 it Try.f75 [(.v true [(.i .i64 s0_0), (.s s0_1), (.sh 83 s0_2)]), (.v false [(.i .i64 id1)])] = some ⟨[(.v false [(.i .i64 (Pu.impl_readerAt.v s0_0 s0_1 s0_2 id1))])], []⟩ := by
    intro s0_0 s0_1 s0_2 id1 
    have hN := Pu.impl_readerAt.b_eq (R := Res) (fun r0 => some ⟨[(.v false [(.i .i64 r0)])], []⟩) s0_0 s0_1 s0_2 id1
    have hl : loopsOf (Try.f75.body.getD .skip) = [] := by kernel_rfl
    refine ⟨iterN 0, by rw [hl]; exact loops_nil, ?_⟩
    refine Eq.trans (show body E75 (iterN 0) Try.f75 [(.v true [(.i .i64 s0_0), (.s s0_1), (.sh 83 s0_2)]), (.v false [(.i .i64 id1)])] = Pu.impl_readerAt.b (fun r0 => some ⟨[(.v false [(.i .i64 r0)])], []⟩) s0_0 s0_1 s0_2 id1 by kernel_rfl) hN
  intro args r h
  unfold sp75 at h
  split at h
  · injection h with h
    injection h with h1 h2
    subst h2
    exact ⟨by kernel_rfl, fun hf => ⟨of_decide_eq_true (by kernel_rfl), key _ _ _ _⟩⟩
  · cases h

end Go.FG.Se

namespace Go.FG.Se
open Go.Proofs
def E54 : Env := { toTab := T, call := Go.FG.callIn [], mode := Go.FG.modeIn md, keep := Go.FG.keepIn [], tk := fun n => Go.FG.memB n [], om := Go.FG.omIn [] }
def sp54 : List Arg → Option (Bool × Res)
  | [(.v false [(.i .i64 n0)]), (.v false [(.i .i64 low1)]), (.v false [(.i .i64 high2)])] => some (true, ⟨[(.v false [(.b (Pu.impl_within.v n0 low1 high2))])], []⟩)
  | _ => none
theorem ok54 : FnOk Try.prog T 54 sp54 := by
  refine fn_ok (E := E54) hE call_nil hM Try.func54 (code := (Try.f54.body.getD .skip)) (by kernel_rfl) (by kernel_rfl) ?_
  have key : ∀ (n0 : Int) (low1 : Int) (high2 : Int), ∃ it : It Res, (∀ c ∈ loopsOf (Try.f54.body.getD .skip), LoopOk E54 it c) ∧ body E54 it Try.f54 [(.v false [(.i .i64 n0)]), (.v false [(.i .i64 low1)]), (.v false [(.i .i64 high2)])] = some ⟨[(.v false [(.b (Pu.impl_within.v n0 low1 high2))])], []⟩ := by
    intro n0 low1 high2 
    have hN := Pu.impl_within.b_eq (R := Res) (fun r0 => some ⟨[(.v false [(.b r0)])], []⟩) n0 low1 high2
    have hl : loopsOf (Try.f54.body.getD .skip) = [] := by kernel_rfl
    refine ⟨iterN 0, by rw [hl]; exact loops_nil, ?_⟩
    refine Eq.trans (show body E54 (iterN 0) Try.f54 [(.v false [(.i .i64 n0)]), (.v false [(.i .i64 low1)]), (.v false [(.i .i64 high2)])] = Pu.impl_within.b (fun r0 => some ⟨[(.v false [(.b r0)])], []⟩) n0 low1 high2 by kernel_rfl) hN
  intro args r h
  unfold sp54 at h
  split at h
  · injection h with h
    injection h with h1 h2
    subst h2
    exact ⟨by kernel_rfl, fun hf => ⟨of_decide_eq_true (by kernel_rfl), key _ _ _⟩⟩
  · cases h

end Go.FG.Se

namespace Go.FG.Se
open Go.Proofs
def E36 : Env := { toTab := T, call := Go.FG.callIn [(54, sp54)], mode := Go.FG.modeIn md, keep := Go.FG.keepIn [(2, [1, 2, 6, 7, 8])], tk := fun n => Go.FG.memB n [], om := Go.FG.omIn [] }
def it36 (N : Nat) {R : Type} : It R := fun rid f cn L K => bif Nat.beq rid 2 then (tell [(2, (.v (.v false [(.bp 0 0)]))), (4, (.v (.v false [(.b false)]))), (12, (.v (.v false [(.sh 83 [])]))), (14, (.v (.v false [(.i .i64 0)]))), (16, (.v (.v false [(.i .i64 0)]))), (1, (.o (.box [(.i .i64 0), (.s ⟨#[]⟩), (.sh 83 [])])))] (fun | [.B x0, .R x1, .I x2, .I x3, .I x4, .S x5, .R x6] => Pu.impl_StreamOk.l2 N (fun y0 y1 y2 y3 y4 y5 y6 => (K .ret (tabl [(2, (.v (.v false [(.bp 0 0)]))), (4, (.v (.v false [(.b y0)]))), (12, (.v (.v false [(.sh 83 y1)]))), (14, (.v (.v false [(.i .i64 y2)]))), (16, (.v (.v false [(.i .i64 y3)]))), (1, (.o (.box [(.i .i64 y4), (.s y5), (.sh 83 y6)])))]))) (fun y0 y1 y2 y3 y4 y5 y6 => (K (.exit 0) (tabl [(2, (.v (.v false [(.bp 0 0)]))), (4, (.v (.v false [(.b y0)]))), (12, (.v (.v false [(.sh 83 y1)]))), (14, (.v (.v false [(.i .i64 y2)]))), (16, (.v (.v false [(.i .i64 y3)]))), (1, (.o (.box [(.i .i64 y4), (.s y5), (.sh 83 y6)])))]))) N x0 x1 x2 x3 x4 x5 x6 | _ => none) L (none)) else none
theorem e36_2 {R : Type} (N : Nat) (K : Ex → St → Option R) : ∀ n : Nat, (∀ x0 x1 x2 x3 x4 x5 x6, iter (exc E36 (it36 N) (loopOf Try.f36 2)) (canon (E36.keep 2))  n (tabl [(2, (.v (.v false [(.bp 0 0)]))), (4, (.v (.v false [(.b x0)]))), (12, (.v (.v false [(.sh 83 x1)]))), (14, (.v (.v false [(.i .i64 x2)]))), (16, (.v (.v false [(.i .i64 x3)]))), (1, (.o (.box [(.i .i64 x4), (.s x5), (.sh 83 x6)])))]) K = Pu.impl_StreamOk.l2 N (fun y0 y1 y2 y3 y4 y5 y6 => (K .ret (tabl [(2, (.v (.v false [(.bp 0 0)]))), (4, (.v (.v false [(.b y0)]))), (12, (.v (.v false [(.sh 83 y1)]))), (14, (.v (.v false [(.i .i64 y2)]))), (16, (.v (.v false [(.i .i64 y3)]))), (1, (.o (.box [(.i .i64 y4), (.s y5), (.sh 83 y6)])))]))) (fun y0 y1 y2 y3 y4 y5 y6 => (K (.exit 0) (tabl [(2, (.v (.v false [(.bp 0 0)]))), (4, (.v (.v false [(.b y0)]))), (12, (.v (.v false [(.sh 83 y1)]))), (14, (.v (.v false [(.i .i64 y2)]))), (16, (.v (.v false [(.i .i64 y3)]))), (1, (.o (.box [(.i .i64 y4), (.s y5), (.sh 83 y6)])))]))) n x0 x1 x2 x3 x4 x5 x6) := by
  intro n
  induction n with
  | zero => exact (fun _ _ _ _ _ _ _ => rfl)
  | succ n ih =>
    have e0 : (fun x0 x1 x2 x3 x4 x5 x6 => iter (exc E36 (it36 N) (loopOf Try.f36 2)) (canon (E36.keep 2))  n (tabl [(2, (.v (.v false [(.bp 0 0)]))), (4, (.v (.v false [(.b x0)]))), (12, (.v (.v false [(.sh 83 x1)]))), (14, (.v (.v false [(.i .i64 x2)]))), (16, (.v (.v false [(.i .i64 x3)]))), (1, (.o (.box [(.i .i64 x4), (.s x5), (.sh 83 x6)])))]) K) = Pu.impl_StreamOk.l2 N (fun y0 y1 y2 y3 y4 y5 y6 => (K .ret (tabl [(2, (.v (.v false [(.bp 0 0)]))), (4, (.v (.v false [(.b y0)]))), (12, (.v (.v false [(.sh 83 y1)]))), (14, (.v (.v false [(.i .i64 y2)]))), (16, (.v (.v false [(.i .i64 y3)]))), (1, (.o (.box [(.i .i64 y4), (.s y5), (.sh 83 y6)])))]))) (fun y0 y1 y2 y3 y4 y5 y6 => (K (.exit 0) (tabl [(2, (.v (.v false [(.bp 0 0)]))), (4, (.v (.v false [(.b y0)]))), (12, (.v (.v false [(.sh 83 y1)]))), (14, (.v (.v false [(.i .i64 y2)]))), (16, (.v (.v false [(.i .i64 y3)]))), (1, (.o (.box [(.i .i64 y4), (.s y5), (.sh 83 y6)])))]))) n := by funext x0 x1 x2 x3 x4 x5 x6; exact ih x0 x1 x2 x3 x4 x5 x6
    intro x0 x1 x2 x3 x4 x5 x6
    have h : ∀ g, exc E36 (it36 N) (loopOf Try.f36 2) (tabl [(2, (.v (.v false [(.bp 0 0)]))), (4, (.v (.v false [(.b x0)]))), (12, (.v (.v false [(.sh 83 x1)]))), (14, (.v (.v false [(.i .i64 x2)]))), (16, (.v (.v false [(.i .i64 x3)]))), (1, (.o (.box [(.i .i64 x4), (.s x5), (.sh 83 x6)])))]) (iterK g (canon (E36.keep 2)) K) = Pu.impl_StreamOk.r2 N (fun x0 x1 x2 x3 x4 x5 x6 => (g (tabl [(2, (.v (.v false [(.bp 0 0)]))), (4, (.v (.v false [(.b x0)]))), (12, (.v (.v false [(.sh 83 x1)]))), (14, (.v (.v false [(.i .i64 x2)]))), (16, (.v (.v false [(.i .i64 x3)]))), (1, (.o (.box [(.i .i64 x4), (.s x5), (.sh 83 x6)])))]))) (fun y0 y1 y2 y3 y4 y5 y6 => (K .ret (tabl [(2, (.v (.v false [(.bp 0 0)]))), (4, (.v (.v false [(.b y0)]))), (12, (.v (.v false [(.sh 83 y1)]))), (14, (.v (.v false [(.i .i64 y2)]))), (16, (.v (.v false [(.i .i64 y3)]))), (1, (.o (.box [(.i .i64 y4), (.s y5), (.sh 83 y6)])))]))) (fun y0 y1 y2 y3 y4 y5 y6 => (K (.exit 0) (tabl [(2, (.v (.v false [(.bp 0 0)]))), (4, (.v (.v false [(.b y0)]))), (12, (.v (.v false [(.sh 83 y1)]))), (14, (.v (.v false [(.i .i64 y2)]))), (16, (.v (.v false [(.i .i64 y3)]))), (1, (.o (.box [(.i .i64 y4), (.s y5), (.sh 83 y6)])))]))) x0 x1 x2 x3 x4 x5 x6 := by intro g; kernel_rfl
    refine (h _).trans ?_
    show Pu.impl_StreamOk.r2 N (fun x0 x1 x2 x3 x4 x5 x6 => (iter (exc E36 (it36 N) (loopOf Try.f36 2)) (canon (E36.keep 2))  n (tabl [(2, (.v (.v false [(.bp 0 0)]))), (4, (.v (.v false [(.b x0)]))), (12, (.v (.v false [(.sh 83 x1)]))), (14, (.v (.v false [(.i .i64 x2)]))), (16, (.v (.v false [(.i .i64 x3)]))), (1, (.o (.box [(.i .i64 x4), (.s x5), (.sh 83 x6)])))]) K)) (fun y0 y1 y2 y3 y4 y5 y6 => (K .ret (tabl [(2, (.v (.v false [(.bp 0 0)]))), (4, (.v (.v false [(.b y0)]))), (12, (.v (.v false [(.sh 83 y1)]))), (14, (.v (.v false [(.i .i64 y2)]))), (16, (.v (.v false [(.i .i64 y3)]))), (1, (.o (.box [(.i .i64 y4), (.s y5), (.sh 83 y6)])))]))) (fun y0 y1 y2 y3 y4 y5 y6 => (K (.exit 0) (tabl [(2, (.v (.v false [(.bp 0 0)]))), (4, (.v (.v false [(.b y0)]))), (12, (.v (.v false [(.sh 83 y1)]))), (14, (.v (.v false [(.i .i64 y2)]))), (16, (.v (.v false [(.i .i64 y3)]))), (1, (.o (.box [(.i .i64 y4), (.s y5), (.sh 83 y6)])))]))) x0 x1 x2 x3 x4 x5 x6 = _
    rw [e0]; rfl
theorem lo36_2 {R : Type} (N : Nat) : LoopOk E36 (it36 N (R := R)) (loopOf Try.f36 2) := by
  have e : firstRid (loopOf Try.f36 2) = 2 := by kernel_rfl
  intro L K r
  rw [e]
  intro h
  unfold it36 at h
  simp only [show Nat.beq 2 2 = true from rfl, cond_false, cond_true] at h
  refine tell_ok (Q := fun L => ∃ n, iter (exc E36 (it36 N) (loopOf Try.f36 2)) (canon (E36.keep 2)) n (tabl L) K = some r) h (fun xs h => ?_) (fun h => ?_)
  · (try dsimp only at h)
    split at h
    · exact ⟨N, ((e36_2 N K N) _ _ _ _ _ _ _).trans h⟩
    · cases h
  cases h
def sp36 : List Arg → Option (Bool × Res)
  | [(.v true [(.i .i64 s0_0), (.s s0_1), (.sh 83 s0_2)])] => some (true, ⟨[(.v false [(.b (Pu.impl_StreamOk.v s0_0 s0_1 s0_2))])], []⟩)
  | _ => none
theorem ok36 : FnOk Try.prog T 36 sp36 := by
  refine fn_ok (E := E36) hE (call_cons ok54 call_nil) hM Try.func36 (code := (Try.f36.body.getD .skip)) (by kernel_rfl) (by kernel_rfl) ?_
  have key : ∀ (s0_0 : Int) (s0_1 : ByteArray) (s0_2 : Row), okS s0_1 → FitR s0_2 → ∃ it : It Res, (∀ c ∈ loopsOf (Try.f36.body.getD .skip), LoopOk E36 it c) ∧ body E36 it Try.f36 [(.v true [(.i .i64 s0_0), (.s s0_1), (.sh 83 s0_2)])] = some ⟨[(.v false [(.b (Pu.impl_StreamOk.v s0_0 s0_1 s0_2))])], []⟩ := by
    intro s0_0 s0_1 s0_2  g1 g2
    obtain ⟨N, hN⟩ := Pu.impl_StreamOk.b_eq (R := Res) (fun r0 => some ⟨[(.v false [(.b r0)])], []⟩) s0_0 s0_1 s0_2 g1 g2
    have hl : loopsOf (Try.f36.body.getD .skip) = [loopOf Try.f36 2] := by kernel_rfl
    refine ⟨it36 N, by rw [hl]; exact (loops_cons (lo36_2 N) loops_nil), ?_⟩
    refine Eq.trans (show body E36 (it36 N) Try.f36 [(.v true [(.i .i64 s0_0), (.s s0_1), (.sh 83 s0_2)])] = Pu.impl_StreamOk.b N (fun r0 => some ⟨[(.v false [(.b r0)])], []⟩) s0_0 s0_1 s0_2 by kernel_rfl) hN
  intro args r h
  unfold sp36 at h
  split at h
  · injection h with h
    injection h with h1 h2
    subst h2
    exact ⟨by kernel_rfl, fun hf => ⟨of_decide_eq_true (by kernel_rfl), key _ _ _ hf.1.2.1 hf.1.2.2.1⟩⟩
  · cases h

end Go.FG.Se

namespace Go.FG.Se
open Go.Proofs
def E47 : Env := { toTab := T, call := Go.FG.callIn [(70, sp70), (75, sp75), (36, sp36)], mode := Go.FG.modeIn md, keep := Go.FG.keepIn [], tk := fun n => Go.FG.memB n [], om := Go.FG.omIn [] }
def sp47 : List Arg → Option (Bool × Res)
  | [(.v true [(.i .i64 s0_0), (.s s0_1), (.sh 83 s0_2)]), (.v false [(.i .i64 id1)]), (.v false [(.i .i64 most2)])] => some (Pu.impl_StreamRead.c s0_0 s0_1 s0_2 id1 most2, ⟨[(.v true [(.i .i64 ((Pu.impl_StreamRead.v s0_0 s0_1 s0_2 id1 most2).1)), (.s ((Pu.impl_StreamRead.v s0_0 s0_1 s0_2 id1 most2).2.1)), (.ow 83 true ((Pu.impl_StreamRead.v s0_0 s0_1 s0_2 id1 most2).2.2.1))]), (.v false [(.s ((Pu.impl_StreamRead.v s0_0 s0_1 s0_2 id1 most2).2.2.2.1))]), (.v false [(.b ((Pu.impl_StreamRead.v s0_0 s0_1 s0_2 id1 most2).2.2.2.2))])], []⟩)
  | _ => none
theorem ok47 : FnOk Try.prog T 47 sp47 := by
  refine fn_ok (E := E47) hE (call_cons ok70 (call_cons ok75 (call_cons ok36 call_nil))) hM Try.func47 (code := (Try.f47.body.getD .skip)) (by kernel_rfl) (by kernel_rfl) ?_
  have key : ∀ (s0_0 : Int) (s0_1 : ByteArray) (s0_2 : Row) (id1 : Int) (most2 : Int), Pu.impl_StreamRead.c s0_0 s0_1 s0_2 id1 most2 = true → ∃ it : It Res, (∀ c ∈ loopsOf (Try.f47.body.getD .skip), LoopOk E47 it c) ∧ body E47 it Try.f47 [(.v true [(.i .i64 s0_0), (.s s0_1), (.sh 83 s0_2)]), (.v false [(.i .i64 id1)]), (.v false [(.i .i64 most2)])] = some ⟨[(.v true [(.i .i64 ((Pu.impl_StreamRead.v s0_0 s0_1 s0_2 id1 most2).1)), (.s ((Pu.impl_StreamRead.v s0_0 s0_1 s0_2 id1 most2).2.1)), (.ow 83 true ((Pu.impl_StreamRead.v s0_0 s0_1 s0_2 id1 most2).2.2.1))]), (.v false [(.s ((Pu.impl_StreamRead.v s0_0 s0_1 s0_2 id1 most2).2.2.2.1))]), (.v false [(.b ((Pu.impl_StreamRead.v s0_0 s0_1 s0_2 id1 most2).2.2.2.2))])], []⟩ := by
    intro s0_0 s0_1 s0_2 id1 most2  h1
    have hN := Pu.impl_StreamRead.b_eq (R := Res) (fun r0 r1 r2 r3 r4 => some ⟨[(.v true [(.i .i64 r0), (.s r1), (.ow 83 true r2)]), (.v false [(.s r3)]), (.v false [(.b r4)])], []⟩) s0_0 s0_1 s0_2 id1 most2 h1
    have hl : loopsOf (Try.f47.body.getD .skip) = [] := by kernel_rfl
    refine ⟨iterN 0, by rw [hl]; exact loops_nil, ?_⟩
    refine Eq.trans (show body E47 (iterN 0) Try.f47 [(.v true [(.i .i64 s0_0), (.s s0_1), (.sh 83 s0_2)]), (.v false [(.i .i64 id1)]), (.v false [(.i .i64 most2)])] = Pu.impl_StreamRead.b (fun r0 r1 r2 r3 r4 => some ⟨[(.v true [(.i .i64 r0), (.s r1), (.ow 83 true r2)]), (.v false [(.s r3)]), (.v false [(.b r4)])], []⟩) s0_0 s0_1 s0_2 id1 most2 by kernel_rfl) hN
  intro args r h
  unfold sp47 at h
  split at h
  · injection h with h
    injection h with h1 h2
    subst h2
    exact ⟨by kernel_rfl, fun hf => ⟨of_decide_eq_true (by kernel_rfl), key _ _ _ _ _ h1⟩⟩
  · cases h

end Go.FG.Se

namespace Go.FG.Se
open Go.Proofs
def E77 : Env := { toTab := T, call := Go.FG.callIn [], mode := Go.FG.modeIn md, keep := Go.FG.keepIn [], tk := fun n => Go.FG.memB n [], om := Go.FG.omIn [] }
def sp77 : List Arg → Option (Bool × Res)
  | [(.v true [(.i .i64 a0_0), (.i .i64 a0_1)]), (.v true [(.i .i64 b1_0), (.i .i64 b1_1)])] => some (true, ⟨[(.v false [(.b (Pu.laws_eqReader.v a0_0 a0_1 b1_0 b1_1))])], []⟩)
  | _ => none
theorem ok77 : FnOk Try.prog T 77 sp77 := by
  refine fn_ok (E := E77) hE call_nil hM Try.func77 (code := (Try.f77.body.getD .skip)) (by kernel_rfl) (by kernel_rfl) ?_
  have key : ∀ (a0_0 : Int) (a0_1 : Int) (b1_0 : Int) (b1_1 : Int), ∃ it : It Res, (∀ c ∈ loopsOf (Try.f77.body.getD .skip), LoopOk E77 it c) ∧ body E77 it Try.f77 [(.v true [(.i .i64 a0_0), (.i .i64 a0_1)]), (.v true [(.i .i64 b1_0), (.i .i64 b1_1)])] = some ⟨[(.v false [(.b (Pu.laws_eqReader.v a0_0 a0_1 b1_0 b1_1))])], []⟩ := by
    intro a0_0 a0_1 b1_0 b1_1 
    have hN := Pu.laws_eqReader.b_eq (R := Res) (fun r0 => some ⟨[(.v false [(.b r0)])], []⟩) a0_0 a0_1 b1_0 b1_1
    have hl : loopsOf (Try.f77.body.getD .skip) = [] := by kernel_rfl
    refine ⟨iterN 0, by rw [hl]; exact loops_nil, ?_⟩
    refine Eq.trans (show body E77 (iterN 0) Try.f77 [(.v true [(.i .i64 a0_0), (.i .i64 a0_1)]), (.v true [(.i .i64 b1_0), (.i .i64 b1_1)])] = Pu.laws_eqReader.b (fun r0 => some ⟨[(.v false [(.b r0)])], []⟩) a0_0 a0_1 b1_0 b1_1 by kernel_rfl) hN
  intro args r h
  unfold sp77 at h
  split at h
  · injection h with h
    injection h with h1 h2
    subst h2
    exact ⟨by kernel_rfl, fun hf => ⟨of_decide_eq_true (by kernel_rfl), key _ _ _ _⟩⟩
  · cases h

end Go.FG.Se

namespace Go.FG.Se
open Go.Proofs
def E55 : Env := { toTab := T, call := Go.FG.callIn [(77, sp77)], mode := Go.FG.modeIn md, keep := Go.FG.keepIn [(4, [0, 1, 4, 5])], tk := fun n => Go.FG.memB n [], om := Go.FG.omIn [] }
def it55 (N : Nat) {R : Type} : It R := fun rid f cn L K => bif Nat.beq rid 4 then (tell [(0, (.v (.v false [(.sh 83 [])]))), (2, (.v (.v false [(.sh 83 [])]))), (8, (.v (.v false [(.b false)]))), (10, (.v (.v false [(.i .i64 0)])))] (fun | [.R x0, .R x1, .B x2, .I x3] => Pu.laws_eqReaderS.l4 N (fun y0 y1 y2 y3 => (K .ret (tabl [(0, (.v (.v false [(.sh 83 y0)]))), (2, (.v (.v false [(.sh 83 y1)]))), (8, (.v (.v false [(.b y2)]))), (10, (.v (.v false [(.i .i64 y3)])))]))) (fun y0 y1 y2 y3 => (K (.exit 0) (tabl [(0, (.v (.v false [(.sh 83 y0)]))), (2, (.v (.v false [(.sh 83 y1)]))), (8, (.v (.v false [(.b y2)]))), (10, (.v (.v false [(.i .i64 y3)])))]))) N x0 x1 x2 x3 | _ => none) L (none)) else none
theorem e55_4 {R : Type} (N : Nat) (K : Ex → St → Option R) : ∀ n : Nat, (∀ x0 x1 x2 x3, iter (exc E55 (it55 N) (loopOf Try.f55 4)) (canon (E55.keep 4))  n (tabl [(0, (.v (.v false [(.sh 83 x0)]))), (2, (.v (.v false [(.sh 83 x1)]))), (8, (.v (.v false [(.b x2)]))), (10, (.v (.v false [(.i .i64 x3)])))]) K = Pu.laws_eqReaderS.l4 N (fun y0 y1 y2 y3 => (K .ret (tabl [(0, (.v (.v false [(.sh 83 y0)]))), (2, (.v (.v false [(.sh 83 y1)]))), (8, (.v (.v false [(.b y2)]))), (10, (.v (.v false [(.i .i64 y3)])))]))) (fun y0 y1 y2 y3 => (K (.exit 0) (tabl [(0, (.v (.v false [(.sh 83 y0)]))), (2, (.v (.v false [(.sh 83 y1)]))), (8, (.v (.v false [(.b y2)]))), (10, (.v (.v false [(.i .i64 y3)])))]))) n x0 x1 x2 x3) := by
  intro n
  induction n with
  | zero => exact (fun _ _ _ _ => rfl)
  | succ n ih =>
    have e0 : (fun x0 x1 x2 x3 => iter (exc E55 (it55 N) (loopOf Try.f55 4)) (canon (E55.keep 4))  n (tabl [(0, (.v (.v false [(.sh 83 x0)]))), (2, (.v (.v false [(.sh 83 x1)]))), (8, (.v (.v false [(.b x2)]))), (10, (.v (.v false [(.i .i64 x3)])))]) K) = Pu.laws_eqReaderS.l4 N (fun y0 y1 y2 y3 => (K .ret (tabl [(0, (.v (.v false [(.sh 83 y0)]))), (2, (.v (.v false [(.sh 83 y1)]))), (8, (.v (.v false [(.b y2)]))), (10, (.v (.v false [(.i .i64 y3)])))]))) (fun y0 y1 y2 y3 => (K (.exit 0) (tabl [(0, (.v (.v false [(.sh 83 y0)]))), (2, (.v (.v false [(.sh 83 y1)]))), (8, (.v (.v false [(.b y2)]))), (10, (.v (.v false [(.i .i64 y3)])))]))) n := by funext x0 x1 x2 x3; exact ih x0 x1 x2 x3
    intro x0 x1 x2 x3
    have h : ∀ g, exc E55 (it55 N) (loopOf Try.f55 4) (tabl [(0, (.v (.v false [(.sh 83 x0)]))), (2, (.v (.v false [(.sh 83 x1)]))), (8, (.v (.v false [(.b x2)]))), (10, (.v (.v false [(.i .i64 x3)])))]) (iterK g (canon (E55.keep 4)) K) = Pu.laws_eqReaderS.r4 N (fun x0 x1 x2 x3 => (g (tabl [(0, (.v (.v false [(.sh 83 x0)]))), (2, (.v (.v false [(.sh 83 x1)]))), (8, (.v (.v false [(.b x2)]))), (10, (.v (.v false [(.i .i64 x3)])))]))) (fun y0 y1 y2 y3 => (K .ret (tabl [(0, (.v (.v false [(.sh 83 y0)]))), (2, (.v (.v false [(.sh 83 y1)]))), (8, (.v (.v false [(.b y2)]))), (10, (.v (.v false [(.i .i64 y3)])))]))) (fun y0 y1 y2 y3 => (K (.exit 0) (tabl [(0, (.v (.v false [(.sh 83 y0)]))), (2, (.v (.v false [(.sh 83 y1)]))), (8, (.v (.v false [(.b y2)]))), (10, (.v (.v false [(.i .i64 y3)])))]))) x0 x1 x2 x3 := by intro g; kernel_rfl
    refine (h _).trans ?_
    show Pu.laws_eqReaderS.r4 N (fun x0 x1 x2 x3 => (iter (exc E55 (it55 N) (loopOf Try.f55 4)) (canon (E55.keep 4))  n (tabl [(0, (.v (.v false [(.sh 83 x0)]))), (2, (.v (.v false [(.sh 83 x1)]))), (8, (.v (.v false [(.b x2)]))), (10, (.v (.v false [(.i .i64 x3)])))]) K)) (fun y0 y1 y2 y3 => (K .ret (tabl [(0, (.v (.v false [(.sh 83 y0)]))), (2, (.v (.v false [(.sh 83 y1)]))), (8, (.v (.v false [(.b y2)]))), (10, (.v (.v false [(.i .i64 y3)])))]))) (fun y0 y1 y2 y3 => (K (.exit 0) (tabl [(0, (.v (.v false [(.sh 83 y0)]))), (2, (.v (.v false [(.sh 83 y1)]))), (8, (.v (.v false [(.b y2)]))), (10, (.v (.v false [(.i .i64 y3)])))]))) x0 x1 x2 x3 = _
    rw [e0]; rfl
theorem lo55_4 {R : Type} (N : Nat) : LoopOk E55 (it55 N (R := R)) (loopOf Try.f55 4) := by
  have e : firstRid (loopOf Try.f55 4) = 4 := by kernel_rfl
  intro L K r
  rw [e]
  intro h
  unfold it55 at h
  simp only [show Nat.beq 4 4 = true from rfl, cond_false, cond_true] at h
  refine tell_ok (Q := fun L => ∃ n, iter (exc E55 (it55 N) (loopOf Try.f55 4)) (canon (E55.keep 4)) n (tabl L) K = some r) h (fun xs h => ?_) (fun h => ?_)
  · (try dsimp only at h)
    split at h
    · exact ⟨N, ((e55_4 N K N) _ _ _ _).trans h⟩
    · cases h
  cases h
def sp55 : List Arg → Option (Bool × Res)
  | [(.v false [(.sh 83 a0)]), (.v false [(.sh 83 b1)])] => some (true, ⟨[(.v false [(.b (Pu.laws_eqReaderS.v a0 b1))])], []⟩)
  | _ => none
theorem ok55 : FnOk Try.prog T 55 sp55 := by
  refine fn_ok (E := E55) hE (call_cons ok77 call_nil) hM Try.func55 (code := (Try.f55.body.getD .skip)) (by kernel_rfl) (by kernel_rfl) ?_
  have key : ∀ (a0 : Row) (b1 : Row), FitR a0 → FitR b1 → ∃ it : It Res, (∀ c ∈ loopsOf (Try.f55.body.getD .skip), LoopOk E55 it c) ∧ body E55 it Try.f55 [(.v false [(.sh 83 a0)]), (.v false [(.sh 83 b1)])] = some ⟨[(.v false [(.b (Pu.laws_eqReaderS.v a0 b1))])], []⟩ := by
    intro a0 b1  g0 g1
    obtain ⟨N, hN⟩ := Pu.laws_eqReaderS.b_eq (R := Res) (fun r0 => some ⟨[(.v false [(.b r0)])], []⟩) a0 b1 g0 g1
    have hl : loopsOf (Try.f55.body.getD .skip) = [loopOf Try.f55 4] := by kernel_rfl
    refine ⟨it55 N, by rw [hl]; exact (loops_cons (lo55_4 N) loops_nil), ?_⟩
    refine Eq.trans (show body E55 (it55 N) Try.f55 [(.v false [(.sh 83 a0)]), (.v false [(.sh 83 b1)])] = Pu.laws_eqReaderS.b N (fun r0 => some ⟨[(.v false [(.b r0)])], []⟩) a0 b1 by kernel_rfl) hN
  intro args r h
  unfold sp55 at h
  split at h
  · injection h with h
    injection h with h1 h2
    subst h2
    exact ⟨by kernel_rfl, fun hf => ⟨of_decide_eq_true (by kernel_rfl), key _ _ hf.1.1 hf.2.1.1⟩⟩
  · cases h

end Go.FG.Se

namespace Go.FG.Se
open Go.Proofs
def E23 : Env := { toTab := T, call := Go.FG.callIn [(55, sp55)], mode := Go.FG.modeIn md, keep := Go.FG.keepIn [], tk := fun n => Go.FG.memB n [], om := Go.FG.omIn [] }
def sp23 : List Arg → Option (Bool × Res)
  | [(.v true [(.i .i64 a0_0), (.s a0_1), (.sh 83 a0_2)]), (.v true [(.i .i64 b1_0), (.s b1_1), (.sh 83 b1_2)])] => some (true, ⟨[(.v false [(.b (Pu.laws_eqStream.v a0_0 a0_1 a0_2 b1_0 b1_1 b1_2))])], []⟩)
  | _ => none
theorem ok23 : FnOk Try.prog T 23 sp23 := by
  refine fn_ok (E := E23) hE (call_cons ok55 call_nil) hM Try.func23 (code := (Try.f23.body.getD .skip)) (by kernel_rfl) (by kernel_rfl) ?_
  have key : ∀ (a0_0 : Int) (a0_1 : ByteArray) (a0_2 : Row) (b1_0 : Int) (b1_1 : ByteArray) (b1_2 : Row), ∃ it : It Res, (∀ c ∈ loopsOf (Try.f23.body.getD .skip), LoopOk E23 it c) ∧ body E23 it Try.f23 [(.v true [(.i .i64 a0_0), (.s a0_1), (.sh 83 a0_2)]), (.v true [(.i .i64 b1_0), (.s b1_1), (.sh 83 b1_2)])] = some ⟨[(.v false [(.b (Pu.laws_eqStream.v a0_0 a0_1 a0_2 b1_0 b1_1 b1_2))])], []⟩ := by
    intro a0_0 a0_1 a0_2 b1_0 b1_1 b1_2 
    have hN := Pu.laws_eqStream.b_eq (R := Res) (fun r0 => some ⟨[(.v false [(.b r0)])], []⟩) a0_0 a0_1 a0_2 b1_0 b1_1 b1_2
    have hl : loopsOf (Try.f23.body.getD .skip) = [] := by kernel_rfl
    refine ⟨iterN 0, by rw [hl]; exact loops_nil, ?_⟩
    refine Eq.trans (show body E23 (iterN 0) Try.f23 [(.v true [(.i .i64 a0_0), (.s a0_1), (.sh 83 a0_2)]), (.v true [(.i .i64 b1_0), (.s b1_1), (.sh 83 b1_2)])] = Pu.laws_eqStream.b (fun r0 => some ⟨[(.v false [(.b r0)])], []⟩) a0_0 a0_1 a0_2 b1_0 b1_1 b1_2 by kernel_rfl) hN
  intro args r h
  unfold sp23 at h
  split at h
  · injection h with h
    injection h with h1 h2
    subst h2
    exact ⟨by kernel_rfl, fun hf => ⟨of_decide_eq_true (by kernel_rfl), key _ _ _ _ _ _⟩⟩
  · cases h

end Go.FG.Se

namespace Go.FG.Se
open Go.Proofs
def E56 : Env := { toTab := T, call := Go.FG.callIn [], mode := Go.FG.modeIn md, keep := Go.FG.keepIn [(2, [0, 1, 5])], tk := fun n => Go.FG.memB n [], om := Go.FG.omIn [] }
def it56 (N : Nat) {R : Type} : It R := fun rid f cn L K => bif Nat.beq rid 2 then (tell [(0, (.v (.v false [(.own 900000000)]))), (2, (.v (.v false [(.i .i64 0)]))), (10, (.v (.v false [(.i .i64 0)]))), (1800000001, (.o (.row 83 true [])))] (fun | [.I x0, .I x1, .R x2] => Pu.laws_markReaderS.l2 N (fun y0 y1 y2 => (K (.exit 0) (tabl [(0, (.v (.v false [(.own 900000000)]))), (2, (.v (.v false [(.i .i64 y0)]))), (10, (.v (.v false [(.i .i64 y1)]))), (1800000001, (.o (.row 83 true y2)))]))) N x0 x1 x2 | _ => none) L (none)) else none
theorem e56_2 {R : Type} (N : Nat) (K : Ex → St → Option R) : ∀ n : Nat, (∀ x0 x1 x2, iter (exc E56 (it56 N) (loopOf Try.f56 2)) (canon (E56.keep 2))  n (tabl [(0, (.v (.v false [(.own 900000000)]))), (2, (.v (.v false [(.i .i64 x0)]))), (10, (.v (.v false [(.i .i64 x1)]))), (1800000001, (.o (.row 83 true x2)))]) K = Pu.laws_markReaderS.l2 N (fun y0 y1 y2 => (K (.exit 0) (tabl [(0, (.v (.v false [(.own 900000000)]))), (2, (.v (.v false [(.i .i64 y0)]))), (10, (.v (.v false [(.i .i64 y1)]))), (1800000001, (.o (.row 83 true y2)))]))) n x0 x1 x2) := by
  intro n
  induction n with
  | zero => exact (fun _ _ _ => rfl)
  | succ n ih =>
    have e0 : (fun x0 x1 x2 => iter (exc E56 (it56 N) (loopOf Try.f56 2)) (canon (E56.keep 2))  n (tabl [(0, (.v (.v false [(.own 900000000)]))), (2, (.v (.v false [(.i .i64 x0)]))), (10, (.v (.v false [(.i .i64 x1)]))), (1800000001, (.o (.row 83 true x2)))]) K) = Pu.laws_markReaderS.l2 N (fun y0 y1 y2 => (K (.exit 0) (tabl [(0, (.v (.v false [(.own 900000000)]))), (2, (.v (.v false [(.i .i64 y0)]))), (10, (.v (.v false [(.i .i64 y1)]))), (1800000001, (.o (.row 83 true y2)))]))) n := by funext x0 x1 x2; exact ih x0 x1 x2
    intro x0 x1 x2
    have h : ∀ g, exc E56 (it56 N) (loopOf Try.f56 2) (tabl [(0, (.v (.v false [(.own 900000000)]))), (2, (.v (.v false [(.i .i64 x0)]))), (10, (.v (.v false [(.i .i64 x1)]))), (1800000001, (.o (.row 83 true x2)))]) (iterK g (canon (E56.keep 2)) K) = Pu.laws_markReaderS.r2 N (fun x0 x1 x2 => (g (tabl [(0, (.v (.v false [(.own 900000000)]))), (2, (.v (.v false [(.i .i64 x0)]))), (10, (.v (.v false [(.i .i64 x1)]))), (1800000001, (.o (.row 83 true x2)))]))) (fun y0 y1 y2 => (K (.exit 0) (tabl [(0, (.v (.v false [(.own 900000000)]))), (2, (.v (.v false [(.i .i64 y0)]))), (10, (.v (.v false [(.i .i64 y1)]))), (1800000001, (.o (.row 83 true y2)))]))) x0 x1 x2 := by intro g; kernel_rfl
    refine (h _).trans ?_
    show Pu.laws_markReaderS.r2 N (fun x0 x1 x2 => (iter (exc E56 (it56 N) (loopOf Try.f56 2)) (canon (E56.keep 2))  n (tabl [(0, (.v (.v false [(.own 900000000)]))), (2, (.v (.v false [(.i .i64 x0)]))), (10, (.v (.v false [(.i .i64 x1)]))), (1800000001, (.o (.row 83 true x2)))]) K)) (fun y0 y1 y2 => (K (.exit 0) (tabl [(0, (.v (.v false [(.own 900000000)]))), (2, (.v (.v false [(.i .i64 y0)]))), (10, (.v (.v false [(.i .i64 y1)]))), (1800000001, (.o (.row 83 true y2)))]))) x0 x1 x2 = _
    rw [e0]; rfl
theorem lo56_2 {R : Type} (N : Nat) : LoopOk E56 (it56 N (R := R)) (loopOf Try.f56 2) := by
  have e : firstRid (loopOf Try.f56 2) = 2 := by kernel_rfl
  intro L K r
  rw [e]
  intro h
  unfold it56 at h
  simp only [show Nat.beq 2 2 = true from rfl, cond_false, cond_true] at h
  refine tell_ok (Q := fun L => ∃ n, iter (exc E56 (it56 N) (loopOf Try.f56 2)) (canon (E56.keep 2)) n (tabl L) K = some r) h (fun xs h => ?_) (fun h => ?_)
  · (try dsimp only at h)
    split at h
    · exact ⟨N, ((e56_2 N K N) _ _ _).trans h⟩
    · cases h
  cases h
def sp56 : List Arg → Option (Bool × Res)
  | [(.v false [(.ow 83 true a0)]), (.v false [(.i .i64 k1)])] => some (true, ⟨[(.v false [(.i .i64 ((Pu.laws_markReaderS.v a0 k1).1))])], [[(.kp ((Pu.laws_markReaderS.v a0 k1).2))]]⟩)
  | _ => none
theorem ok56 : FnOk Try.prog T 56 sp56 := by
  refine fn_ok (E := E56) hE call_nil hM Try.func56 (code := (Try.f56.body.getD .skip)) (by kernel_rfl) (by kernel_rfl) ?_
  have key : ∀ (a0 : Row) (k1 : Int), FitR a0 → ∃ it : It Res, (∀ c ∈ loopsOf (Try.f56.body.getD .skip), LoopOk E56 it c) ∧ body E56 it Try.f56 [(.v false [(.ow 83 true a0)]), (.v false [(.i .i64 k1)])] = some ⟨[(.v false [(.i .i64 ((Pu.laws_markReaderS.v a0 k1).1))])], [[(.kp ((Pu.laws_markReaderS.v a0 k1).2))]]⟩ := by
    intro a0 k1  g0
    obtain ⟨N, hN⟩ := Pu.laws_markReaderS.b_eq (R := Res) (fun r0 r1 => some ⟨[(.v false [(.i .i64 r0)])], [[(.kp r1)]]⟩) a0 k1 g0
    have hl : loopsOf (Try.f56.body.getD .skip) = [loopOf Try.f56 2] := by kernel_rfl
    refine ⟨it56 N, by rw [hl]; exact (loops_cons (lo56_2 N) loops_nil), ?_⟩
    refine Eq.trans (show body E56 (it56 N) Try.f56 [(.v false [(.ow 83 true a0)]), (.v false [(.i .i64 k1)])] = Pu.laws_markReaderS.b N (fun r0 r1 => some ⟨[(.v false [(.i .i64 r0)])], [[(.kp r1)]]⟩) a0 k1 by kernel_rfl) hN
  intro args r h
  unfold sp56 at h
  split at h
  · injection h with h
    injection h with h1 h2
    subst h2
    exact ⟨by kernel_rfl, fun hf => ⟨of_decide_eq_true (by kernel_rfl), key _ _ hf.1.1⟩⟩
  · cases h

end Go.FG.Se

namespace Go.FG.Se
open Go.Proofs
def E24 : Env := { toTab := T, call := Go.FG.callIn [(56, sp56)], mode := Go.FG.modeIn md, keep := Go.FG.keepIn [], tk := fun n => Go.FG.memB n [], om := Go.FG.omIn [] }
def sp24 : List Arg → Option (Bool × Res)
  | [(.v true [(.i .i64 a0_0), (.s a0_1), (.ow 83 true a0_2)]), (.v false [(.i .i64 k1)])] => some (true, ⟨[(.v false [(.i .i64 ((Pu.laws_markStream.v a0_0 a0_1 a0_2 k1).1))])], [[.nl, .nl, (.kp ((Pu.laws_markStream.v a0_0 a0_1 a0_2 k1).2))]]⟩)
  | _ => none
theorem ok24 : FnOk Try.prog T 24 sp24 := by
  refine fn_ok (E := E24) hE (call_cons ok56 call_nil) hM Try.func24 (code := (Try.f24.body.getD .skip)) (by kernel_rfl) (by kernel_rfl) ?_
  have key : ∀ (a0_0 : Int) (a0_1 : ByteArray) (a0_2 : Row) (k1 : Int), ∃ it : It Res, (∀ c ∈ loopsOf (Try.f24.body.getD .skip), LoopOk E24 it c) ∧ body E24 it Try.f24 [(.v true [(.i .i64 a0_0), (.s a0_1), (.ow 83 true a0_2)]), (.v false [(.i .i64 k1)])] = some ⟨[(.v false [(.i .i64 ((Pu.laws_markStream.v a0_0 a0_1 a0_2 k1).1))])], [[.nl, .nl, (.kp ((Pu.laws_markStream.v a0_0 a0_1 a0_2 k1).2))]]⟩ := by
    intro a0_0 a0_1 a0_2 k1 
    have hN := Pu.laws_markStream.b_eq (R := Res) (fun r0 r1 => some ⟨[(.v false [(.i .i64 r0)])], [[.nl, .nl, (.kp r1)]]⟩) a0_0 a0_1 a0_2 k1
    have hl : loopsOf (Try.f24.body.getD .skip) = [] := by kernel_rfl
    refine ⟨iterN 0, by rw [hl]; exact loops_nil, ?_⟩
    refine Eq.trans (show body E24 (iterN 0) Try.f24 [(.v true [(.i .i64 a0_0), (.s a0_1), (.ow 83 true a0_2)]), (.v false [(.i .i64 k1)])] = Pu.laws_markStream.b (fun r0 r1 => some ⟨[(.v false [(.i .i64 r0)])], [[.nl, .nl, (.kp r1)]]⟩) a0_0 a0_1 a0_2 k1 by kernel_rfl) hN
  intro args r h
  unfold sp24 at h
  split at h
  · injection h with h
    injection h with h1 h2
    subst h2
    exact ⟨by kernel_rfl, fun hf => ⟨of_decide_eq_true (by kernel_rfl), key _ _ _ _⟩⟩
  · cases h

end Go.FG.Se

namespace Go.FG.Se
open Go.Proofs
def E57 : Env := { toTab := T, call := Go.FG.callIn [], mode := Go.FG.modeIn md, keep := Go.FG.keepIn [(2, [0, 1, 4, 5])], tk := fun n => Go.FG.memB n [], om := Go.FG.omIn [] }
def it57 (N : Nat) {R : Type} : It R := fun rid f cn L K => bif Nat.beq rid 2 then (tell [(0, (.v (.v false [(.sh 83 [])]))), (2, (.v (.v false [(.i .i64 0)]))), (8, (.v (.v false [(.i .i64 0)]))), (10, (.v (.v false [(.i .i64 0)])))] (fun | [.R x0, .I x1, .I x2, .I x3] => Pu.laws_heldReaderS.l2 N (fun y0 y1 y2 y3 => (K .ret (tabl [(0, (.v (.v false [(.sh 83 y0)]))), (2, (.v (.v false [(.i .i64 y1)]))), (8, (.v (.v false [(.i .i64 y2)]))), (10, (.v (.v false [(.i .i64 y3)])))]))) (fun y0 y1 y2 y3 => (K (.exit 0) (tabl [(0, (.v (.v false [(.sh 83 y0)]))), (2, (.v (.v false [(.i .i64 y1)]))), (8, (.v (.v false [(.i .i64 y2)]))), (10, (.v (.v false [(.i .i64 y3)])))]))) N x0 x1 x2 x3 | _ => none) L (none)) else none
theorem e57_2 {R : Type} (N : Nat) (K : Ex → St → Option R) : ∀ n : Nat, (∀ x0 x1 x2 x3, iter (exc E57 (it57 N) (loopOf Try.f57 2)) (canon (E57.keep 2))  n (tabl [(0, (.v (.v false [(.sh 83 x0)]))), (2, (.v (.v false [(.i .i64 x1)]))), (8, (.v (.v false [(.i .i64 x2)]))), (10, (.v (.v false [(.i .i64 x3)])))]) K = Pu.laws_heldReaderS.l2 N (fun y0 y1 y2 y3 => (K .ret (tabl [(0, (.v (.v false [(.sh 83 y0)]))), (2, (.v (.v false [(.i .i64 y1)]))), (8, (.v (.v false [(.i .i64 y2)]))), (10, (.v (.v false [(.i .i64 y3)])))]))) (fun y0 y1 y2 y3 => (K (.exit 0) (tabl [(0, (.v (.v false [(.sh 83 y0)]))), (2, (.v (.v false [(.i .i64 y1)]))), (8, (.v (.v false [(.i .i64 y2)]))), (10, (.v (.v false [(.i .i64 y3)])))]))) n x0 x1 x2 x3) := by
  intro n
  induction n with
  | zero => exact (fun _ _ _ _ => rfl)
  | succ n ih =>
    have e0 : (fun x0 x1 x2 x3 => iter (exc E57 (it57 N) (loopOf Try.f57 2)) (canon (E57.keep 2))  n (tabl [(0, (.v (.v false [(.sh 83 x0)]))), (2, (.v (.v false [(.i .i64 x1)]))), (8, (.v (.v false [(.i .i64 x2)]))), (10, (.v (.v false [(.i .i64 x3)])))]) K) = Pu.laws_heldReaderS.l2 N (fun y0 y1 y2 y3 => (K .ret (tabl [(0, (.v (.v false [(.sh 83 y0)]))), (2, (.v (.v false [(.i .i64 y1)]))), (8, (.v (.v false [(.i .i64 y2)]))), (10, (.v (.v false [(.i .i64 y3)])))]))) (fun y0 y1 y2 y3 => (K (.exit 0) (tabl [(0, (.v (.v false [(.sh 83 y0)]))), (2, (.v (.v false [(.i .i64 y1)]))), (8, (.v (.v false [(.i .i64 y2)]))), (10, (.v (.v false [(.i .i64 y3)])))]))) n := by funext x0 x1 x2 x3; exact ih x0 x1 x2 x3
    intro x0 x1 x2 x3
    have h : ∀ g, exc E57 (it57 N) (loopOf Try.f57 2) (tabl [(0, (.v (.v false [(.sh 83 x0)]))), (2, (.v (.v false [(.i .i64 x1)]))), (8, (.v (.v false [(.i .i64 x2)]))), (10, (.v (.v false [(.i .i64 x3)])))]) (iterK g (canon (E57.keep 2)) K) = Pu.laws_heldReaderS.r2 N (fun x0 x1 x2 x3 => (g (tabl [(0, (.v (.v false [(.sh 83 x0)]))), (2, (.v (.v false [(.i .i64 x1)]))), (8, (.v (.v false [(.i .i64 x2)]))), (10, (.v (.v false [(.i .i64 x3)])))]))) (fun y0 y1 y2 y3 => (K .ret (tabl [(0, (.v (.v false [(.sh 83 y0)]))), (2, (.v (.v false [(.i .i64 y1)]))), (8, (.v (.v false [(.i .i64 y2)]))), (10, (.v (.v false [(.i .i64 y3)])))]))) (fun y0 y1 y2 y3 => (K (.exit 0) (tabl [(0, (.v (.v false [(.sh 83 y0)]))), (2, (.v (.v false [(.i .i64 y1)]))), (8, (.v (.v false [(.i .i64 y2)]))), (10, (.v (.v false [(.i .i64 y3)])))]))) x0 x1 x2 x3 := by intro g; kernel_rfl
    refine (h _).trans ?_
    show Pu.laws_heldReaderS.r2 N (fun x0 x1 x2 x3 => (iter (exc E57 (it57 N) (loopOf Try.f57 2)) (canon (E57.keep 2))  n (tabl [(0, (.v (.v false [(.sh 83 x0)]))), (2, (.v (.v false [(.i .i64 x1)]))), (8, (.v (.v false [(.i .i64 x2)]))), (10, (.v (.v false [(.i .i64 x3)])))]) K)) (fun y0 y1 y2 y3 => (K .ret (tabl [(0, (.v (.v false [(.sh 83 y0)]))), (2, (.v (.v false [(.i .i64 y1)]))), (8, (.v (.v false [(.i .i64 y2)]))), (10, (.v (.v false [(.i .i64 y3)])))]))) (fun y0 y1 y2 y3 => (K (.exit 0) (tabl [(0, (.v (.v false [(.sh 83 y0)]))), (2, (.v (.v false [(.i .i64 y1)]))), (8, (.v (.v false [(.i .i64 y2)]))), (10, (.v (.v false [(.i .i64 y3)])))]))) x0 x1 x2 x3 = _
    rw [e0]; rfl
theorem lo57_2 {R : Type} (N : Nat) : LoopOk E57 (it57 N (R := R)) (loopOf Try.f57 2) := by
  have e : firstRid (loopOf Try.f57 2) = 2 := by kernel_rfl
  intro L K r
  rw [e]
  intro h
  unfold it57 at h
  simp only [show Nat.beq 2 2 = true from rfl, cond_false, cond_true] at h
  refine tell_ok (Q := fun L => ∃ n, iter (exc E57 (it57 N) (loopOf Try.f57 2)) (canon (E57.keep 2)) n (tabl L) K = some r) h (fun xs h => ?_) (fun h => ?_)
  · (try dsimp only at h)
    split at h
    · exact ⟨N, ((e57_2 N K N) _ _ _ _).trans h⟩
    · cases h
  cases h
def sp57 : List Arg → Option (Bool × Res)
  | [(.v false [(.sh 83 a0)]), (.v false [(.i .i64 k1)])] => some (true, ⟨[(.v false [(.i .i64 (Pu.laws_heldReaderS.v a0 k1))])], []⟩)
  | _ => none
theorem ok57 : FnOk Try.prog T 57 sp57 := by
  refine fn_ok (E := E57) hE call_nil hM Try.func57 (code := (Try.f57.body.getD .skip)) (by kernel_rfl) (by kernel_rfl) ?_
  have key : ∀ (a0 : Row) (k1 : Int), FitR a0 → ∃ it : It Res, (∀ c ∈ loopsOf (Try.f57.body.getD .skip), LoopOk E57 it c) ∧ body E57 it Try.f57 [(.v false [(.sh 83 a0)]), (.v false [(.i .i64 k1)])] = some ⟨[(.v false [(.i .i64 (Pu.laws_heldReaderS.v a0 k1))])], []⟩ := by
    intro a0 k1  g0
    obtain ⟨N, hN⟩ := Pu.laws_heldReaderS.b_eq (R := Res) (fun r0 => some ⟨[(.v false [(.i .i64 r0)])], []⟩) a0 k1 g0
    have hl : loopsOf (Try.f57.body.getD .skip) = [loopOf Try.f57 2] := by kernel_rfl
    refine ⟨it57 N, by rw [hl]; exact (loops_cons (lo57_2 N) loops_nil), ?_⟩
    refine Eq.trans (show body E57 (it57 N) Try.f57 [(.v false [(.sh 83 a0)]), (.v false [(.i .i64 k1)])] = Pu.laws_heldReaderS.b N (fun r0 => some ⟨[(.v false [(.i .i64 r0)])], []⟩) a0 k1 by kernel_rfl) hN
  intro args r h
  unfold sp57 at h
  split at h
  · injection h with h
    injection h with h1 h2
    subst h2
    exact ⟨by kernel_rfl, fun hf => ⟨of_decide_eq_true (by kernel_rfl), key _ _ hf.1.1⟩⟩
  · cases h

end Go.FG.Se

namespace Go.FG.Se
open Go.Proofs
def E25 : Env := { toTab := T, call := Go.FG.callIn [(57, sp57)], mode := Go.FG.modeIn md, keep := Go.FG.keepIn [], tk := fun n => Go.FG.memB n [], om := Go.FG.omIn [] }
def sp25 : List Arg → Option (Bool × Res)
  | [(.v true [(.i .i64 a0_0), (.s a0_1), (.sh 83 a0_2)]), (.v false [(.i .i64 k1)])] => some (true, ⟨[(.v false [(.i .i64 (Pu.laws_heldStream.v a0_0 a0_1 a0_2 k1))])], []⟩)
  | _ => none
theorem ok25 : FnOk Try.prog T 25 sp25 := by
  refine fn_ok (E := E25) hE (call_cons ok57 call_nil) hM Try.func25 (code := (Try.f25.body.getD .skip)) (by kernel_rfl) (by kernel_rfl) ?_
  have key : ∀ (a0_0 : Int) (a0_1 : ByteArray) (a0_2 : Row) (k1 : Int), ∃ it : It Res, (∀ c ∈ loopsOf (Try.f25.body.getD .skip), LoopOk E25 it c) ∧ body E25 it Try.f25 [(.v true [(.i .i64 a0_0), (.s a0_1), (.sh 83 a0_2)]), (.v false [(.i .i64 k1)])] = some ⟨[(.v false [(.i .i64 (Pu.laws_heldStream.v a0_0 a0_1 a0_2 k1))])], []⟩ := by
    intro a0_0 a0_1 a0_2 k1 
    have hN := Pu.laws_heldStream.b_eq (R := Res) (fun r0 => some ⟨[(.v false [(.i .i64 r0)])], []⟩) a0_0 a0_1 a0_2 k1
    have hl : loopsOf (Try.f25.body.getD .skip) = [] := by kernel_rfl
    refine ⟨iterN 0, by rw [hl]; exact loops_nil, ?_⟩
    refine Eq.trans (show body E25 (iterN 0) Try.f25 [(.v true [(.i .i64 a0_0), (.s a0_1), (.sh 83 a0_2)]), (.v false [(.i .i64 k1)])] = Pu.laws_heldStream.b (fun r0 => some ⟨[(.v false [(.i .i64 r0)])], []⟩) a0_0 a0_1 a0_2 k1 by kernel_rfl) hN
  intro args r h
  unfold sp25 at h
  split at h
  · injection h with h
    injection h with h1 h2
    subst h2
    exact ⟨by kernel_rfl, fun hf => ⟨of_decide_eq_true (by kernel_rfl), key _ _ _ _⟩⟩
  · cases h

end Go.FG.Se

namespace Go.FG.Se
open Go.Proofs
def E13 : Env := { toTab := T, call := Go.FG.callIn [(33, sp33), (35, sp35), (46, sp46), (47, sp47), (23, sp23), (24, sp24), (25, sp25)], mode := Go.FG.modeIn md, keep := Go.FG.keepIn [], tk := fun n => Go.FG.memB n [], om := Go.FG.omIn [] }
def sp13 : List Arg → Option (Bool × Res)
  | [(.v true [(.i .i64 aS0_0), (.s aS0_1), (.sh 96 aS0_2)]), (.v false [(.i .i64 aId1)]), (.v false [(.i .i64 aMost2)])] => some (true, ⟨[(.v false [(.b (Pu.laws_FnExactStreamRead.v aS0_0 aS0_1 aS0_2 aId1 aMost2))])], []⟩)
  | _ => none
theorem ok13 : FnOk Try.prog T 13 sp13 := by
  refine fn_ok (E := E13) hE (call_cons ok33 (call_cons ok35 (call_cons ok46 (call_cons ok47 (call_cons ok23 (call_cons ok24 (call_cons ok25 call_nil))))))) hM Try.func13 (code := (Try.f13.body.getD .skip)) (by kernel_rfl) (by kernel_rfl) ?_
  have key : ∀ (aS0_0 : Int) (aS0_1 : ByteArray) (aS0_2 : Row) (aId1 : Int) (aMost2 : Int), okS aS0_1 → FitR aS0_2 → ∃ it : It Res, (∀ c ∈ loopsOf (Try.f13.body.getD .skip), LoopOk E13 it c) ∧ body E13 it Try.f13 [(.v true [(.i .i64 aS0_0), (.s aS0_1), (.sh 96 aS0_2)]), (.v false [(.i .i64 aId1)]), (.v false [(.i .i64 aMost2)])] = some ⟨[(.v false [(.b (Pu.laws_FnExactStreamRead.v aS0_0 aS0_1 aS0_2 aId1 aMost2))])], []⟩ := by
    intro aS0_0 aS0_1 aS0_2 aId1 aMost2  g1 g2
    have hN := Pu.laws_FnExactStreamRead.b_eq (R := Res) (fun r0 => some ⟨[(.v false [(.b r0)])], []⟩) aS0_0 aS0_1 aS0_2 aId1 aMost2 g1 g2
    have hl : loopsOf (Try.f13.body.getD .skip) = [] := by kernel_rfl
    refine ⟨iterN 0, by rw [hl]; exact loops_nil, ?_⟩
    refine Eq.trans (show body E13 (iterN 0) Try.f13 [(.v true [(.i .i64 aS0_0), (.s aS0_1), (.sh 96 aS0_2)]), (.v false [(.i .i64 aId1)]), (.v false [(.i .i64 aMost2)])] = Pu.laws_FnExactStreamRead.b (fun r0 => some ⟨[(.v false [(.b r0)])], []⟩) aS0_0 aS0_1 aS0_2 aId1 aMost2 by kernel_rfl) hN
  intro args r h
  unfold sp13 at h
  split at h
  · injection h with h
    injection h with h1 h2
    subst h2
    exact ⟨by kernel_rfl, fun hf => ⟨of_decide_eq_true (by kernel_rfl), key _ _ _ _ _ hf.1.2.1 hf.1.2.2.1⟩⟩
  · cases h

end Go.FG.Se

