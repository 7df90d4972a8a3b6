/- Functions of the program: the evaluation of each, and that a call of it does what is told. No condition. -/
import Derived.Test.YticmocblmmahkaaTab
import Derived.Test.YticmocblmmahkaaPExactFindKept
import Derived.Test.YticmocblmmahkaaIns
set_option linter.unusedVariables false
set_option linter.unusedSimpArgs false
set_option maxRecDepth 100000
namespace Go.FG.Se
open Go.Proofs
def E199 : Env := { toTab := T, call := Go.FG.callIn [], mode := Go.FG.modeIn md, keep := Go.FG.keepIn [], tk := fun n => Go.FG.memB n [], om := Go.FG.omIn [] }
def sp199 : List Arg → Option (Bool × Res)
  | [(.v true [(.s a0_0), (.s a0_1), (.i .i64 a0_2)]), (.v false [(.i .i64 left1)])] => some (true, ⟨[(.v false [(.i .i64 (Pu.laws_szFile.v a0_0 a0_1 a0_2 left1))])], []⟩)
  | _ => none
theorem ok199 : FnOk Try.prog T 199 sp199 := by
  refine fn_ok (E := E199) hE call_nil hM Try.func199 (code := (Try.f199.body.getD .skip)) (by kernel_rfl) (by kernel_rfl) ?_
  have key : ∀ (a0_0 : ByteArray) (a0_1 : ByteArray) (a0_2 : Int) (left1 : Int), ∃ it : It Res, (∀ c ∈ loopsOf (Try.f199.body.getD .skip), LoopOk E199 it c) ∧ body E199 it Try.f199 [(.v true [(.s a0_0), (.s a0_1), (.i .i64 a0_2)]), (.v false [(.i .i64 left1)])] = some ⟨[(.v false [(.i .i64 (Pu.laws_szFile.v a0_0 a0_1 a0_2 left1))])], []⟩ := by
    intro a0_0 a0_1 a0_2 left1 
    have hN := Pu.laws_szFile.b_eq (R := Res) (fun r0 => some ⟨[(.v false [(.i .i64 r0)])], []⟩) a0_0 a0_1 a0_2 left1
    have hl : loopsOf (Try.f199.body.getD .skip) = [] := by kernel_rfl
    refine ⟨iterN 0, by rw [hl]; exact loops_nil, ?_⟩
    refine Eq.trans (show body E199 (iterN 0) Try.f199 [(.v true [(.s a0_0), (.s a0_1), (.i .i64 a0_2)]), (.v false [(.i .i64 left1)])] = Pu.laws_szFile.b (fun r0 => some ⟨[(.v false [(.i .i64 r0)])], []⟩) a0_0 a0_1 a0_2 left1 by kernel_rfl) hN
  intro args r h
  unfold sp199 at h
  split at h
  · injection h with h
    injection h with h1 h2
    subst h2
    exact ⟨by kernel_rfl, fun hf => ⟨of_decide_eq_true (by kernel_rfl), key _ _ _ _⟩⟩
  · cases h

end Go.FG.Se

namespace Go.FG.Se
open Go.Proofs
def E147 : Env := { toTab := T, call := Go.FG.callIn [(199, sp199)], mode := Go.FG.modeIn md, keep := Go.FG.keepIn [(5, [0, 1, 4, 5])], tk := fun n => Go.FG.memB n [], om := Go.FG.omIn [] }
def it147 (N : Nat) {R : Type} : It R := fun rid f cn L K => bif Nat.beq rid 5 then (tell [(0, (.v (.v false [(.sh 230 [])]))), (2, (.v (.v false [(.i .i64 0)]))), (8, (.v (.v false [(.i .i64 0)]))), (10, (.v (.v false [(.i .i64 0)])))] (fun | [.R x0, .I x1, .I x2, .I x3] => Pu.laws_szFileS.l5 N (fun y0 y1 y2 y3 => (K .ret (tabl [(0, (.v (.v false [(.sh 230 y0)]))), (2, (.v (.v false [(.i .i64 y1)]))), (8, (.v (.v false [(.i .i64 y2)]))), (10, (.v (.v false [(.i .i64 y3)])))]))) (fun y0 y1 y2 y3 => (K (.exit 0) (tabl [(0, (.v (.v false [(.sh 230 y0)]))), (2, (.v (.v false [(.i .i64 y1)]))), (8, (.v (.v false [(.i .i64 y2)]))), (10, (.v (.v false [(.i .i64 y3)])))]))) N x0 x1 x2 x3 | _ => none) L (none)) else none
theorem e147_5 {R : Type} (N : Nat) (K : Ex → St → Option R) : ∀ n : Nat, (∀ x0 x1 x2 x3, iter (exc E147 (it147 N) (loopOf Try.f147 5)) (canon (E147.keep 5))  n (tabl [(0, (.v (.v false [(.sh 230 x0)]))), (2, (.v (.v false [(.i .i64 x1)]))), (8, (.v (.v false [(.i .i64 x2)]))), (10, (.v (.v false [(.i .i64 x3)])))]) K = Pu.laws_szFileS.l5 N (fun y0 y1 y2 y3 => (K .ret (tabl [(0, (.v (.v false [(.sh 230 y0)]))), (2, (.v (.v false [(.i .i64 y1)]))), (8, (.v (.v false [(.i .i64 y2)]))), (10, (.v (.v false [(.i .i64 y3)])))]))) (fun y0 y1 y2 y3 => (K (.exit 0) (tabl [(0, (.v (.v false [(.sh 230 y0)]))), (2, (.v (.v false [(.i .i64 y1)]))), (8, (.v (.v false [(.i .i64 y2)]))), (10, (.v (.v false [(.i .i64 y3)])))]))) n x0 x1 x2 x3) := by
  intro n
  induction n with
  | zero => exact (fun _ _ _ _ => rfl)
  | succ n ih =>
    have e0 : (fun x0 x1 x2 x3 => iter (exc E147 (it147 N) (loopOf Try.f147 5)) (canon (E147.keep 5))  n (tabl [(0, (.v (.v false [(.sh 230 x0)]))), (2, (.v (.v false [(.i .i64 x1)]))), (8, (.v (.v false [(.i .i64 x2)]))), (10, (.v (.v false [(.i .i64 x3)])))]) K) = Pu.laws_szFileS.l5 N (fun y0 y1 y2 y3 => (K .ret (tabl [(0, (.v (.v false [(.sh 230 y0)]))), (2, (.v (.v false [(.i .i64 y1)]))), (8, (.v (.v false [(.i .i64 y2)]))), (10, (.v (.v false [(.i .i64 y3)])))]))) (fun y0 y1 y2 y3 => (K (.exit 0) (tabl [(0, (.v (.v false [(.sh 230 y0)]))), (2, (.v (.v false [(.i .i64 y1)]))), (8, (.v (.v false [(.i .i64 y2)]))), (10, (.v (.v false [(.i .i64 y3)])))]))) n := by funext x0 x1 x2 x3; exact ih x0 x1 x2 x3
    intro x0 x1 x2 x3
    have h : ∀ g, exc E147 (it147 N) (loopOf Try.f147 5) (tabl [(0, (.v (.v false [(.sh 230 x0)]))), (2, (.v (.v false [(.i .i64 x1)]))), (8, (.v (.v false [(.i .i64 x2)]))), (10, (.v (.v false [(.i .i64 x3)])))]) (iterK g (canon (E147.keep 5)) K) = Pu.laws_szFileS.r5 N (fun x0 x1 x2 x3 => (g (tabl [(0, (.v (.v false [(.sh 230 x0)]))), (2, (.v (.v false [(.i .i64 x1)]))), (8, (.v (.v false [(.i .i64 x2)]))), (10, (.v (.v false [(.i .i64 x3)])))]))) (fun y0 y1 y2 y3 => (K .ret (tabl [(0, (.v (.v false [(.sh 230 y0)]))), (2, (.v (.v false [(.i .i64 y1)]))), (8, (.v (.v false [(.i .i64 y2)]))), (10, (.v (.v false [(.i .i64 y3)])))]))) (fun y0 y1 y2 y3 => (K (.exit 0) (tabl [(0, (.v (.v false [(.sh 230 y0)]))), (2, (.v (.v false [(.i .i64 y1)]))), (8, (.v (.v false [(.i .i64 y2)]))), (10, (.v (.v false [(.i .i64 y3)])))]))) x0 x1 x2 x3 := by intro g; kernel_rfl
    refine (h _).trans ?_
    show Pu.laws_szFileS.r5 N (fun x0 x1 x2 x3 => (iter (exc E147 (it147 N) (loopOf Try.f147 5)) (canon (E147.keep 5))  n (tabl [(0, (.v (.v false [(.sh 230 x0)]))), (2, (.v (.v false [(.i .i64 x1)]))), (8, (.v (.v false [(.i .i64 x2)]))), (10, (.v (.v false [(.i .i64 x3)])))]) K)) (fun y0 y1 y2 y3 => (K .ret (tabl [(0, (.v (.v false [(.sh 230 y0)]))), (2, (.v (.v false [(.i .i64 y1)]))), (8, (.v (.v false [(.i .i64 y2)]))), (10, (.v (.v false [(.i .i64 y3)])))]))) (fun y0 y1 y2 y3 => (K (.exit 0) (tabl [(0, (.v (.v false [(.sh 230 y0)]))), (2, (.v (.v false [(.i .i64 y1)]))), (8, (.v (.v false [(.i .i64 y2)]))), (10, (.v (.v false [(.i .i64 y3)])))]))) x0 x1 x2 x3 = _
    rw [e0]; rfl
theorem lo147_5 {R : Type} (N : Nat) : LoopOk E147 (it147 N (R := R)) (loopOf Try.f147 5) := by
  have e : firstRid (loopOf Try.f147 5) = 5 := by kernel_rfl
  intro L K r
  rw [e]
  intro h
  unfold it147 at h
  simp only [show Nat.beq 5 5 = true from rfl, cond_false, cond_true] at h
  refine tell_ok (Q := fun L => ∃ n, iter (exc E147 (it147 N) (loopOf Try.f147 5)) (canon (E147.keep 5)) n (tabl L) K = some r) h (fun xs h => ?_) (fun h => ?_)
  · (try dsimp only at h)
    split at h
    · exact ⟨N, ((e147_5 N K N) _ _ _ _).trans h⟩
    · cases h
  cases h
def sp147 : List Arg → Option (Bool × Res)
  | [(.v false [(.sh 230 a0)]), (.v false [(.i .i64 left1)])] => some (Pu.laws_szFileS.c a0 left1, ⟨[(.v false [(.i .i64 (Pu.laws_szFileS.v a0 left1))])], []⟩)
  | _ => none
theorem ok147 : FnOk Try.prog T 147 sp147 := by
  refine fn_ok (E := E147) hE (call_cons ok199 call_nil) hM Try.func147 (code := (Try.f147.body.getD .skip)) (by kernel_rfl) (by kernel_rfl) ?_
  have key : ∀ (a0 : Row) (left1 : Int), Pu.laws_szFileS.c a0 left1 = true → ∃ it : It Res, (∀ c ∈ loopsOf (Try.f147.body.getD .skip), LoopOk E147 it c) ∧ body E147 it Try.f147 [(.v false [(.sh 230 a0)]), (.v false [(.i .i64 left1)])] = some ⟨[(.v false [(.i .i64 (Pu.laws_szFileS.v a0 left1))])], []⟩ := by
    intro a0 left1  h1
    obtain ⟨N, hN⟩ := Pu.laws_szFileS.b_eq (R := Res) (fun r0 => some ⟨[(.v false [(.i .i64 r0)])], []⟩) a0 left1 h1
    have hl : loopsOf (Try.f147.body.getD .skip) = [loopOf Try.f147 5] := by kernel_rfl
    refine ⟨it147 N, by rw [hl]; exact (loops_cons (lo147_5 N) loops_nil), ?_⟩
    refine Eq.trans (show body E147 (it147 N) Try.f147 [(.v false [(.sh 230 a0)]), (.v false [(.i .i64 left1)])] = Pu.laws_szFileS.b N (fun r0 => some ⟨[(.v false [(.i .i64 r0)])], []⟩) a0 left1 by kernel_rfl) hN
  intro args r h
  unfold sp147 at h
  split at h
  · injection h with h
    injection h with h1 h2
    subst h2
    exact ⟨by kernel_rfl, fun hf => ⟨of_decide_eq_true (by kernel_rfl), key _ _ h1⟩⟩
  · cases h

end Go.FG.Se

namespace Go.FG.Se
open Go.Proofs
def E70 : Env := { toTab := T, call := Go.FG.callIn [(147, sp147)], mode := Go.FG.modeIn md, keep := Go.FG.keepIn [], tk := fun n => Go.FG.memB n [], om := Go.FG.omIn [] }
def sp70 : List Arg → Option (Bool × Res)
  | [(.v true [(.sh 230 a0)]), (.v false [(.i .i64 left1)])] => some (Pu.laws_szDisk.c a0 left1, ⟨[(.v false [(.i .i64 (Pu.laws_szDisk.v a0 left1))])], []⟩)
  | _ => none
theorem ok70 : FnOk Try.prog T 70 sp70 := by
  refine fn_ok (E := E70) hE (call_cons ok147 call_nil) hM Try.func70 (code := (Try.f70.body.getD .skip)) (by kernel_rfl) (by kernel_rfl) ?_
  have key : ∀ (a0 : Row) (left1 : Int), Pu.laws_szDisk.c a0 left1 = true → ∃ it : It Res, (∀ c ∈ loopsOf (Try.f70.body.getD .skip), LoopOk E70 it c) ∧ body E70 it Try.f70 [(.v true [(.sh 230 a0)]), (.v false [(.i .i64 left1)])] = some ⟨[(.v false [(.i .i64 (Pu.laws_szDisk.v a0 left1))])], []⟩ := by
    intro a0 left1  h1
    have hN := Pu.laws_szDisk.b_eq (R := Res) (fun r0 => some ⟨[(.v false [(.i .i64 r0)])], []⟩) a0 left1 h1
    have hl : loopsOf (Try.f70.body.getD .skip) = [] := by kernel_rfl
    refine ⟨iterN 0, by rw [hl]; exact loops_nil, ?_⟩
    refine Eq.trans (show body E70 (iterN 0) Try.f70 [(.v true [(.sh 230 a0)]), (.v false [(.i .i64 left1)])] = Pu.laws_szDisk.b (fun r0 => some ⟨[(.v false [(.i .i64 r0)])], []⟩) a0 left1 by kernel_rfl) hN
  intro args r h
  unfold sp70 at h
  split at h
  · injection h with h
    injection h with h1 h2
    subst h2
    exact ⟨by kernel_rfl, fun hf => ⟨of_decide_eq_true (by kernel_rfl), key _ _ h1⟩⟩
  · cases h

end Go.FG.Se

namespace Go.FG.Se
open Go.Proofs
def E202 : Env := { toTab := T, call := Go.FG.callIn [], mode := Go.FG.modeIn md, keep := Go.FG.keepIn [], tk := fun n => Go.FG.memB n [], om := Go.FG.omIn [] }
def sp202 : List Arg → Option (Bool × Res)
  | [(.v true [(.s a0_0), (.s a0_1), (.i .i64 a0_2)])] => some (true, ⟨[(.v true [(.s ((Pu.laws_toFile.v a0_0 a0_1 a0_2).1)), (.s ((Pu.laws_toFile.v a0_0 a0_1 a0_2).2.1)), (.i .i64 ((Pu.laws_toFile.v a0_0 a0_1 a0_2).2.2))])], []⟩)
  | _ => none
theorem ok202 : FnOk Try.prog T 202 sp202 := by
  refine fn_ok (E := E202) hE call_nil hM Try.func202 (code := (Try.f202.body.getD .skip)) (by kernel_rfl) (by kernel_rfl) ?_
  have key : ∀ (a0_0 : ByteArray) (a0_1 : ByteArray) (a0_2 : Int), ∃ it : It Res, (∀ c ∈ loopsOf (Try.f202.body.getD .skip), LoopOk E202 it c) ∧ body E202 it Try.f202 [(.v true [(.s a0_0), (.s a0_1), (.i .i64 a0_2)])] = some ⟨[(.v true [(.s ((Pu.laws_toFile.v a0_0 a0_1 a0_2).1)), (.s ((Pu.laws_toFile.v a0_0 a0_1 a0_2).2.1)), (.i .i64 ((Pu.laws_toFile.v a0_0 a0_1 a0_2).2.2))])], []⟩ := by
    intro a0_0 a0_1 a0_2 
    have hN := Pu.laws_toFile.b_eq (R := Res) (fun r0 r1 r2 => some ⟨[(.v true [(.s r0), (.s r1), (.i .i64 r2)])], []⟩) a0_0 a0_1 a0_2
    have hl : loopsOf (Try.f202.body.getD .skip) = [] := by kernel_rfl
    refine ⟨iterN 0, by rw [hl]; exact loops_nil, ?_⟩
    refine Eq.trans (show body E202 (iterN 0) Try.f202 [(.v true [(.s a0_0), (.s a0_1), (.i .i64 a0_2)])] = Pu.laws_toFile.b (fun r0 r1 r2 => some ⟨[(.v true [(.s r0), (.s r1), (.i .i64 r2)])], []⟩) a0_0 a0_1 a0_2 by kernel_rfl) hN
  intro args r h
  unfold sp202 at h
  split at h
  · injection h with h
    injection h with h1 h2
    subst h2
    exact ⟨by kernel_rfl, fun hf => ⟨of_decide_eq_true (by kernel_rfl), key _ _ _⟩⟩
  · cases h

end Go.FG.Se

namespace Go.FG.Se
open Go.Proofs
def E150 : Env := { toTab := T, call := Go.FG.callIn [(202, sp202)], mode := Go.FG.modeIn md, keep := Go.FG.keepIn [(3, [0, 3, 4])], tk := fun n => Go.FG.memB n [], om := Go.FG.omIn [] }
def it150 (N : Nat) {R : Type} : It R := fun rid f cn L K => bif Nat.beq rid 3 then (tell [(0, (.v (.v false [(.sh 230 [])]))), (6, (.v (.v false [(.own 0)]))), (8, (.v (.v false [(.i .i64 0)]))), (1, (.o (.row 231 true [])))] (fun | [.R x0, .I x1, .R x2] => Pu.laws_toFileS.l3 N (fun y0 y1 y2 => (K (.exit 0) (tabl [(0, (.v (.v false [(.sh 230 y0)]))), (6, (.v (.v false [(.own 0)]))), (8, (.v (.v false [(.i .i64 y1)]))), (1, (.o (.row 231 true y2)))]))) N x0 x1 x2 | _ => none) L (none)) else none
theorem e150_3 {R : Type} (N : Nat) (K : Ex → St → Option R) : ∀ n : Nat, (∀ x0 x1 x2, iter (exc E150 (it150 N) (loopOf Try.f150 3)) (canon (E150.keep 3))  n (tabl [(0, (.v (.v false [(.sh 230 x0)]))), (6, (.v (.v false [(.own 0)]))), (8, (.v (.v false [(.i .i64 x1)]))), (1, (.o (.row 231 true x2)))]) K = Pu.laws_toFileS.l3 N (fun y0 y1 y2 => (K (.exit 0) (tabl [(0, (.v (.v false [(.sh 230 y0)]))), (6, (.v (.v false [(.own 0)]))), (8, (.v (.v false [(.i .i64 y1)]))), (1, (.o (.row 231 true y2)))]))) n x0 x1 x2) := by
  intro n
  induction n with
  | zero => exact (fun _ _ _ => rfl)
  | succ n ih =>
    have e0 : (fun x0 x1 x2 => iter (exc E150 (it150 N) (loopOf Try.f150 3)) (canon (E150.keep 3))  n (tabl [(0, (.v (.v false [(.sh 230 x0)]))), (6, (.v (.v false [(.own 0)]))), (8, (.v (.v false [(.i .i64 x1)]))), (1, (.o (.row 231 true x2)))]) K) = Pu.laws_toFileS.l3 N (fun y0 y1 y2 => (K (.exit 0) (tabl [(0, (.v (.v false [(.sh 230 y0)]))), (6, (.v (.v false [(.own 0)]))), (8, (.v (.v false [(.i .i64 y1)]))), (1, (.o (.row 231 true y2)))]))) n := by funext x0 x1 x2; exact ih x0 x1 x2
    intro x0 x1 x2
    have h : ∀ g, exc E150 (it150 N) (loopOf Try.f150 3) (tabl [(0, (.v (.v false [(.sh 230 x0)]))), (6, (.v (.v false [(.own 0)]))), (8, (.v (.v false [(.i .i64 x1)]))), (1, (.o (.row 231 true x2)))]) (iterK g (canon (E150.keep 3)) K) = Pu.laws_toFileS.r3 N (fun x0 x1 x2 => (g (tabl [(0, (.v (.v false [(.sh 230 x0)]))), (6, (.v (.v false [(.own 0)]))), (8, (.v (.v false [(.i .i64 x1)]))), (1, (.o (.row 231 true x2)))]))) (fun y0 y1 y2 => (K (.exit 0) (tabl [(0, (.v (.v false [(.sh 230 y0)]))), (6, (.v (.v false [(.own 0)]))), (8, (.v (.v false [(.i .i64 y1)]))), (1, (.o (.row 231 true y2)))]))) x0 x1 x2 := by intro g; kernel_rfl
    refine (h _).trans ?_
    show Pu.laws_toFileS.r3 N (fun x0 x1 x2 => (iter (exc E150 (it150 N) (loopOf Try.f150 3)) (canon (E150.keep 3))  n (tabl [(0, (.v (.v false [(.sh 230 x0)]))), (6, (.v (.v false [(.own 0)]))), (8, (.v (.v false [(.i .i64 x1)]))), (1, (.o (.row 231 true x2)))]) K)) (fun y0 y1 y2 => (K (.exit 0) (tabl [(0, (.v (.v false [(.sh 230 y0)]))), (6, (.v (.v false [(.own 0)]))), (8, (.v (.v false [(.i .i64 y1)]))), (1, (.o (.row 231 true y2)))]))) x0 x1 x2 = _
    rw [e0]; rfl
theorem lo150_3 {R : Type} (N : Nat) : LoopOk E150 (it150 N (R := R)) (loopOf Try.f150 3) := by
  have e : firstRid (loopOf Try.f150 3) = 3 := by kernel_rfl
  intro L K r
  rw [e]
  intro h
  unfold it150 at h
  simp only [show Nat.beq 3 3 = true from rfl, cond_false, cond_true] at h
  refine tell_ok (Q := fun L => ∃ n, iter (exc E150 (it150 N) (loopOf Try.f150 3)) (canon (E150.keep 3)) n (tabl L) K = some r) h (fun xs h => ?_) (fun h => ?_)
  · (try dsimp only at h)
    split at h
    · exact ⟨N, ((e150_3 N K N) _ _ _).trans h⟩
    · cases h
  cases h
def sp150 : List Arg → Option (Bool × Res)
  | [(.v false [(.sh 230 a0)])] => some (Pu.laws_toFileS.c a0, ⟨[(.v false [(.ow 231 true (Pu.laws_toFileS.v a0))])], []⟩)
  | _ => none
theorem ok150 : FnOk Try.prog T 150 sp150 := by
  refine fn_ok (E := E150) hE (call_cons ok202 call_nil) hM Try.func150 (code := (Try.f150.body.getD .skip)) (by kernel_rfl) (by kernel_rfl) ?_
  have key : ∀ (a0 : Row), Pu.laws_toFileS.c a0 = true → ∃ it : It Res, (∀ c ∈ loopsOf (Try.f150.body.getD .skip), LoopOk E150 it c) ∧ body E150 it Try.f150 [(.v false [(.sh 230 a0)])] = some ⟨[(.v false [(.ow 231 true (Pu.laws_toFileS.v a0))])], []⟩ := by
    intro a0  h1
    obtain ⟨N, hN⟩ := Pu.laws_toFileS.b_eq (R := Res) (fun r0 => some ⟨[(.v false [(.ow 231 true r0)])], []⟩) a0 h1
    have hl : loopsOf (Try.f150.body.getD .skip) = [loopOf Try.f150 3] := by kernel_rfl
    refine ⟨it150 N, by rw [hl]; exact (loops_cons (lo150_3 N) loops_nil), ?_⟩
    refine Eq.trans (show body E150 (it150 N) Try.f150 [(.v false [(.sh 230 a0)])] = Pu.laws_toFileS.b N (fun r0 => some ⟨[(.v false [(.ow 231 true r0)])], []⟩) a0 by kernel_rfl) hN
  intro args r h
  unfold sp150 at h
  split at h
  · injection h with h
    injection h with h1 h2
    subst h2
    exact ⟨by kernel_rfl, fun hf => ⟨of_decide_eq_true (by kernel_rfl), key _ h1⟩⟩
  · cases h

end Go.FG.Se

namespace Go.FG.Se
open Go.Proofs
def E73 : Env := { toTab := T, call := Go.FG.callIn [(150, sp150)], mode := Go.FG.modeIn md, keep := Go.FG.keepIn [], tk := fun n => Go.FG.memB n [], om := Go.FG.omIn [] }
def sp73 : List Arg → Option (Bool × Res)
  | [(.v true [(.sh 230 a0)])] => some (Pu.laws_toDisk.c a0, ⟨[(.v true [(.ow 231 true (Pu.laws_toDisk.v a0))])], []⟩)
  | _ => none
theorem ok73 : FnOk Try.prog T 73 sp73 := by
  refine fn_ok (E := E73) hE (call_cons ok150 call_nil) hM Try.func73 (code := (Try.f73.body.getD .skip)) (by kernel_rfl) (by kernel_rfl) ?_
  have key : ∀ (a0 : Row), Pu.laws_toDisk.c a0 = true → ∃ it : It Res, (∀ c ∈ loopsOf (Try.f73.body.getD .skip), LoopOk E73 it c) ∧ body E73 it Try.f73 [(.v true [(.sh 230 a0)])] = some ⟨[(.v true [(.ow 231 true (Pu.laws_toDisk.v a0))])], []⟩ := by
    intro a0  h1
    have hN := Pu.laws_toDisk.b_eq (R := Res) (fun r0 => some ⟨[(.v true [(.ow 231 true r0)])], []⟩) a0 h1
    have hl : loopsOf (Try.f73.body.getD .skip) = [] := by kernel_rfl
    refine ⟨iterN 0, by rw [hl]; exact loops_nil, ?_⟩
    refine Eq.trans (show body E73 (iterN 0) Try.f73 [(.v true [(.sh 230 a0)])] = Pu.laws_toDisk.b (fun r0 => some ⟨[(.v true [(.ow 231 true r0)])], []⟩) a0 by kernel_rfl) hN
  intro args r h
  unfold sp73 at h
  split at h
  · injection h with h
    injection h with h1 h2
    subst h2
    exact ⟨by kernel_rfl, fun hf => ⟨of_decide_eq_true (by kernel_rfl), key _ h1⟩⟩
  · cases h

end Go.FG.Se

namespace Go.FG.Se
open Go.Proofs
def E95 : Env := { toTab := T, call := Go.FG.callIn [], mode := Go.FG.modeIn md, keep := Go.FG.keepIn [], tk := fun n => Go.FG.memB n [], om := Go.FG.omIn [] }
def sp95 : List Arg → Option (Bool × Res)
  | [(.v false [(.i .i64 x0)]), (.v false [(.i .i64 least1)]), (.v false [(.i .i64 most2)])] => some (true, ⟨[(.v false [(.b (Pu.spec_l01In.v x0 least1 most2))])], []⟩)
  | _ => none
theorem ok95 : FnOk Try.prog T 95 sp95 := by
  refine fn_ok (E := E95) hE call_nil hM Try.func95 (code := (Try.f95.body.getD .skip)) (by kernel_rfl) (by kernel_rfl) ?_
  have key : ∀ (x0 : Int) (least1 : Int) (most2 : Int), ∃ it : It Res, (∀ c ∈ loopsOf (Try.f95.body.getD .skip), LoopOk E95 it c) ∧ body E95 it Try.f95 [(.v false [(.i .i64 x0)]), (.v false [(.i .i64 least1)]), (.v false [(.i .i64 most2)])] = some ⟨[(.v false [(.b (Pu.spec_l01In.v x0 least1 most2))])], []⟩ := by
    intro x0 least1 most2 
    have hN := Pu.spec_l01In.b_eq (R := Res) (fun r0 => some ⟨[(.v false [(.b r0)])], []⟩) x0 least1 most2
    have hl : loopsOf (Try.f95.body.getD .skip) = [] := by kernel_rfl
    refine ⟨iterN 0, by rw [hl]; exact loops_nil, ?_⟩
    refine Eq.trans (show body E95 (iterN 0) Try.f95 [(.v false [(.i .i64 x0)]), (.v false [(.i .i64 least1)]), (.v false [(.i .i64 most2)])] = Pu.spec_l01In.b (fun r0 => some ⟨[(.v false [(.b r0)])], []⟩) x0 least1 most2 by kernel_rfl) hN
  intro args r h
  unfold sp95 at h
  split at h
  · injection h with h
    injection h with h1 h2
    subst h2
    exact ⟨by kernel_rfl, fun hf => ⟨of_decide_eq_true (by kernel_rfl), key _ _ _⟩⟩
  · cases h

end Go.FG.Se

namespace Go.FG.Se
open Go.Proofs
def E200 : Env := { toTab := T, call := Go.FG.callIn [(95, sp95)], mode := Go.FG.modeIn md, keep := Go.FG.keepIn [], tk := fun n => Go.FG.memB n [], om := Go.FG.omIn [] }
def sp200 : List Arg → Option (Bool × Res)
  | [(.v false [(.s s0)])] => some (true, ⟨[(.v false [(.b (Pu.spec_l03Name.v s0))])], []⟩)
  | _ => none
theorem ok200 : FnOk Try.prog T 200 sp200 := by
  refine fn_ok (E := E200) hE (call_cons ok95 call_nil) hM Try.func200 (code := (Try.f200.body.getD .skip)) (by kernel_rfl) (by kernel_rfl) ?_
  have key : ∀ (s0 : ByteArray), ∃ it : It Res, (∀ c ∈ loopsOf (Try.f200.body.getD .skip), LoopOk E200 it c) ∧ body E200 it Try.f200 [(.v false [(.s s0)])] = some ⟨[(.v false [(.b (Pu.spec_l03Name.v s0))])], []⟩ := by
    intro s0 
    have hN := Pu.spec_l03Name.b_eq (R := Res) (fun r0 => some ⟨[(.v false [(.b r0)])], []⟩) s0
    have hl : loopsOf (Try.f200.body.getD .skip) = [] := by kernel_rfl
    refine ⟨iterN 0, by rw [hl]; exact loops_nil, ?_⟩
    refine Eq.trans (show body E200 (iterN 0) Try.f200 [(.v false [(.s s0)])] = Pu.spec_l03Name.b (fun r0 => some ⟨[(.v false [(.b r0)])], []⟩) s0 by kernel_rfl) hN
  intro args r h
  unfold sp200 at h
  split at h
  · injection h with h
    injection h with h1 h2
    subst h2
    exact ⟨by kernel_rfl, fun hf => ⟨of_decide_eq_true (by kernel_rfl), key _⟩⟩
  · cases h

end Go.FG.Se

namespace Go.FG.Se
open Go.Proofs
def E148 : Env := { toTab := T, call := Go.FG.callIn [(200, sp200), (95, sp95)], mode := Go.FG.modeIn md, keep := Go.FG.keepIn [(4, [1, 2, 3])], tk := fun n => Go.FG.memB n [], om := Go.FG.omIn [] }
def it148 (N : Nat) {R : Type} : It R := fun rid f cn L K => bif Nat.beq rid 4 then (tell [(2, (.v (.v false [(.bp 0 0)]))), (4, (.v (.v false [(.b false)]))), (6, (.v (.v false [(.i .i64 0)]))), (1, (.o (.box [(.sh 231 [])])))] (fun | [.B x0, .I x1, .R x2] => Pu.spec_DiskOk.l4 N (fun y0 y1 y2 => (K .ret (tabl [(2, (.v (.v false [(.bp 0 0)]))), (4, (.v (.v false [(.b y0)]))), (6, (.v (.v false [(.i .i64 y1)]))), (1, (.o (.box [(.sh 231 y2)])))]))) (fun y0 y1 y2 => (K (.exit 0) (tabl [(2, (.v (.v false [(.bp 0 0)]))), (4, (.v (.v false [(.b y0)]))), (6, (.v (.v false [(.i .i64 y1)]))), (1, (.o (.box [(.sh 231 y2)])))]))) N x0 x1 x2 | _ => none) L (none)) else none
theorem e148_4 {R : Type} (N : Nat) (K : Ex → St → Option R) : ∀ n : Nat, (∀ x0 x1 x2, iter (exc E148 (it148 N) (loopOf Try.f148 4)) (canon (E148.keep 4))  n (tabl [(2, (.v (.v false [(.bp 0 0)]))), (4, (.v (.v false [(.b x0)]))), (6, (.v (.v false [(.i .i64 x1)]))), (1, (.o (.box [(.sh 231 x2)])))]) K = Pu.spec_DiskOk.l4 N (fun y0 y1 y2 => (K .ret (tabl [(2, (.v (.v false [(.bp 0 0)]))), (4, (.v (.v false [(.b y0)]))), (6, (.v (.v false [(.i .i64 y1)]))), (1, (.o (.box [(.sh 231 y2)])))]))) (fun y0 y1 y2 => (K (.exit 0) (tabl [(2, (.v (.v false [(.bp 0 0)]))), (4, (.v (.v false [(.b y0)]))), (6, (.v (.v false [(.i .i64 y1)]))), (1, (.o (.box [(.sh 231 y2)])))]))) n x0 x1 x2) := by
  intro n
  induction n with
  | zero => exact (fun _ _ _ => rfl)
  | succ n ih =>
    have e0 : (fun x0 x1 x2 => iter (exc E148 (it148 N) (loopOf Try.f148 4)) (canon (E148.keep 4))  n (tabl [(2, (.v (.v false [(.bp 0 0)]))), (4, (.v (.v false [(.b x0)]))), (6, (.v (.v false [(.i .i64 x1)]))), (1, (.o (.box [(.sh 231 x2)])))]) K) = Pu.spec_DiskOk.l4 N (fun y0 y1 y2 => (K .ret (tabl [(2, (.v (.v false [(.bp 0 0)]))), (4, (.v (.v false [(.b y0)]))), (6, (.v (.v false [(.i .i64 y1)]))), (1, (.o (.box [(.sh 231 y2)])))]))) (fun y0 y1 y2 => (K (.exit 0) (tabl [(2, (.v (.v false [(.bp 0 0)]))), (4, (.v (.v false [(.b y0)]))), (6, (.v (.v false [(.i .i64 y1)]))), (1, (.o (.box [(.sh 231 y2)])))]))) n := by funext x0 x1 x2; exact ih x0 x1 x2
    intro x0 x1 x2
    have h : ∀ g, exc E148 (it148 N) (loopOf Try.f148 4) (tabl [(2, (.v (.v false [(.bp 0 0)]))), (4, (.v (.v false [(.b x0)]))), (6, (.v (.v false [(.i .i64 x1)]))), (1, (.o (.box [(.sh 231 x2)])))]) (iterK g (canon (E148.keep 4)) K) = Pu.spec_DiskOk.r4 N (fun x0 x1 x2 => (g (tabl [(2, (.v (.v false [(.bp 0 0)]))), (4, (.v (.v false [(.b x0)]))), (6, (.v (.v false [(.i .i64 x1)]))), (1, (.o (.box [(.sh 231 x2)])))]))) (fun y0 y1 y2 => (K .ret (tabl [(2, (.v (.v false [(.bp 0 0)]))), (4, (.v (.v false [(.b y0)]))), (6, (.v (.v false [(.i .i64 y1)]))), (1, (.o (.box [(.sh 231 y2)])))]))) (fun y0 y1 y2 => (K (.exit 0) (tabl [(2, (.v (.v false [(.bp 0 0)]))), (4, (.v (.v false [(.b y0)]))), (6, (.v (.v false [(.i .i64 y1)]))), (1, (.o (.box [(.sh 231 y2)])))]))) x0 x1 x2 := by intro g; kernel_rfl
    refine (h _).trans ?_
    show Pu.spec_DiskOk.r4 N (fun x0 x1 x2 => (iter (exc E148 (it148 N) (loopOf Try.f148 4)) (canon (E148.keep 4))  n (tabl [(2, (.v (.v false [(.bp 0 0)]))), (4, (.v (.v false [(.b x0)]))), (6, (.v (.v false [(.i .i64 x1)]))), (1, (.o (.box [(.sh 231 x2)])))]) K)) (fun y0 y1 y2 => (K .ret (tabl [(2, (.v (.v false [(.bp 0 0)]))), (4, (.v (.v false [(.b y0)]))), (6, (.v (.v false [(.i .i64 y1)]))), (1, (.o (.box [(.sh 231 y2)])))]))) (fun y0 y1 y2 => (K (.exit 0) (tabl [(2, (.v (.v false [(.bp 0 0)]))), (4, (.v (.v false [(.b y0)]))), (6, (.v (.v false [(.i .i64 y1)]))), (1, (.o (.box [(.sh 231 y2)])))]))) x0 x1 x2 = _
    rw [e0]; rfl
theorem lo148_4 {R : Type} (N : Nat) : LoopOk E148 (it148 N (R := R)) (loopOf Try.f148 4) := by
  have e : firstRid (loopOf Try.f148 4) = 4 := by kernel_rfl
  intro L K r
  rw [e]
  intro h
  unfold it148 at h
  simp only [show Nat.beq 4 4 = true from rfl, cond_false, cond_true] at h
  refine tell_ok (Q := fun L => ∃ n, iter (exc E148 (it148 N) (loopOf Try.f148 4)) (canon (E148.keep 4)) n (tabl L) K = some r) h (fun xs h => ?_) (fun h => ?_)
  · (try dsimp only at h)
    split at h
    · exact ⟨N, ((e148_4 N K N) _ _ _).trans h⟩
    · cases h
  cases h
def sp148 : List Arg → Option (Bool × Res)
  | [(.v true [(.sh 231 d0)])] => some (Pu.spec_DiskOk.c d0, ⟨[(.v false [(.b (Pu.spec_DiskOk.v d0))])], []⟩)
  | _ => none
theorem ok148 : FnOk Try.prog T 148 sp148 := by
  refine fn_ok (E := E148) hE (call_cons ok200 (call_cons ok95 call_nil)) hM Try.func148 (code := (Try.f148.body.getD .skip)) (by kernel_rfl) (by kernel_rfl) ?_
  have key : ∀ (d0 : Row), Pu.spec_DiskOk.c d0 = true → ∃ it : It Res, (∀ c ∈ loopsOf (Try.f148.body.getD .skip), LoopOk E148 it c) ∧ body E148 it Try.f148 [(.v true [(.sh 231 d0)])] = some ⟨[(.v false [(.b (Pu.spec_DiskOk.v d0))])], []⟩ := by
    intro d0  h1
    obtain ⟨N, hN⟩ := Pu.spec_DiskOk.b_eq (R := Res) (fun r0 => some ⟨[(.v false [(.b r0)])], []⟩) d0 h1
    have hl : loopsOf (Try.f148.body.getD .skip) = [loopOf Try.f148 4] := by kernel_rfl
    refine ⟨it148 N, by rw [hl]; exact (loops_cons (lo148_4 N) loops_nil), ?_⟩
    refine Eq.trans (show body E148 (it148 N) Try.f148 [(.v true [(.sh 231 d0)])] = Pu.spec_DiskOk.b N (fun r0 => some ⟨[(.v false [(.b r0)])], []⟩) d0 by kernel_rfl) hN
  intro args r h
  unfold sp148 at h
  split at h
  · injection h with h
    injection h with h1 h2
    subst h2
    exact ⟨by kernel_rfl, fun hf => ⟨of_decide_eq_true (by kernel_rfl), key _ h1⟩⟩
  · cases h

end Go.FG.Se

namespace Go.FG.Se
open Go.Proofs
def E201 : Env := { toTab := T, call := Go.FG.callIn [], mode := Go.FG.modeIn md, keep := Go.FG.keepIn [(2, [1, 2, 4, 5])], tk := fun n => Go.FG.memB n [], om := Go.FG.omIn [] }
def it201 (N : Nat) {R : Type} : It R := fun rid f cn L K => bif Nat.beq rid 2 then (tell [(2, (.v (.v false [(.s ⟨#[]⟩)]))), (4, (.v (.v false [(.bp 0 0)]))), (8, (.v (.v false [(.i .i64 0)]))), (10, (.v (.v false [(.i .i64 0)]))), (1, (.o (.box [(.sh 231 [])])))] (fun | [.S x0, .I x1, .I x2, .R x3] => Pu.spec_l03At.l2 N (fun y0 y1 y2 y3 => (K .ret (tabl [(2, (.v (.v false [(.s y0)]))), (4, (.v (.v false [(.bp 0 0)]))), (8, (.v (.v false [(.i .i64 y1)]))), (10, (.v (.v false [(.i .i64 y2)]))), (1, (.o (.box [(.sh 231 y3)])))]))) (fun y0 y1 y2 y3 => (K (.exit 0) (tabl [(2, (.v (.v false [(.s y0)]))), (4, (.v (.v false [(.bp 0 0)]))), (8, (.v (.v false [(.i .i64 y1)]))), (10, (.v (.v false [(.i .i64 y2)]))), (1, (.o (.box [(.sh 231 y3)])))]))) N x0 x1 x2 x3 | _ => none) L (none)) else none
theorem e201_2 {R : Type} (N : Nat) (K : Ex → St → Option R) : ∀ n : Nat, (∀ x0 x1 x2 x3, iter (exc E201 (it201 N) (loopOf Try.f201 2)) (canon (E201.keep 2))  n (tabl [(2, (.v (.v false [(.s x0)]))), (4, (.v (.v false [(.bp 0 0)]))), (8, (.v (.v false [(.i .i64 x1)]))), (10, (.v (.v false [(.i .i64 x2)]))), (1, (.o (.box [(.sh 231 x3)])))]) K = Pu.spec_l03At.l2 N (fun y0 y1 y2 y3 => (K .ret (tabl [(2, (.v (.v false [(.s y0)]))), (4, (.v (.v false [(.bp 0 0)]))), (8, (.v (.v false [(.i .i64 y1)]))), (10, (.v (.v false [(.i .i64 y2)]))), (1, (.o (.box [(.sh 231 y3)])))]))) (fun y0 y1 y2 y3 => (K (.exit 0) (tabl [(2, (.v (.v false [(.s y0)]))), (4, (.v (.v false [(.bp 0 0)]))), (8, (.v (.v false [(.i .i64 y1)]))), (10, (.v (.v false [(.i .i64 y2)]))), (1, (.o (.box [(.sh 231 y3)])))]))) n x0 x1 x2 x3) := by
  intro n
  induction n with
  | zero => exact (fun _ _ _ _ => rfl)
  | succ n ih =>
    have e0 : (fun x0 x1 x2 x3 => iter (exc E201 (it201 N) (loopOf Try.f201 2)) (canon (E201.keep 2))  n (tabl [(2, (.v (.v false [(.s x0)]))), (4, (.v (.v false [(.bp 0 0)]))), (8, (.v (.v false [(.i .i64 x1)]))), (10, (.v (.v false [(.i .i64 x2)]))), (1, (.o (.box [(.sh 231 x3)])))]) K) = Pu.spec_l03At.l2 N (fun y0 y1 y2 y3 => (K .ret (tabl [(2, (.v (.v false [(.s y0)]))), (4, (.v (.v false [(.bp 0 0)]))), (8, (.v (.v false [(.i .i64 y1)]))), (10, (.v (.v false [(.i .i64 y2)]))), (1, (.o (.box [(.sh 231 y3)])))]))) (fun y0 y1 y2 y3 => (K (.exit 0) (tabl [(2, (.v (.v false [(.s y0)]))), (4, (.v (.v false [(.bp 0 0)]))), (8, (.v (.v false [(.i .i64 y1)]))), (10, (.v (.v false [(.i .i64 y2)]))), (1, (.o (.box [(.sh 231 y3)])))]))) n := by funext x0 x1 x2 x3; exact ih x0 x1 x2 x3
    intro x0 x1 x2 x3
    have h : ∀ g, exc E201 (it201 N) (loopOf Try.f201 2) (tabl [(2, (.v (.v false [(.s x0)]))), (4, (.v (.v false [(.bp 0 0)]))), (8, (.v (.v false [(.i .i64 x1)]))), (10, (.v (.v false [(.i .i64 x2)]))), (1, (.o (.box [(.sh 231 x3)])))]) (iterK g (canon (E201.keep 2)) K) = Pu.spec_l03At.r2 N (fun x0 x1 x2 x3 => (g (tabl [(2, (.v (.v false [(.s x0)]))), (4, (.v (.v false [(.bp 0 0)]))), (8, (.v (.v false [(.i .i64 x1)]))), (10, (.v (.v false [(.i .i64 x2)]))), (1, (.o (.box [(.sh 231 x3)])))]))) (fun y0 y1 y2 y3 => (K .ret (tabl [(2, (.v (.v false [(.s y0)]))), (4, (.v (.v false [(.bp 0 0)]))), (8, (.v (.v false [(.i .i64 y1)]))), (10, (.v (.v false [(.i .i64 y2)]))), (1, (.o (.box [(.sh 231 y3)])))]))) (fun y0 y1 y2 y3 => (K (.exit 0) (tabl [(2, (.v (.v false [(.s y0)]))), (4, (.v (.v false [(.bp 0 0)]))), (8, (.v (.v false [(.i .i64 y1)]))), (10, (.v (.v false [(.i .i64 y2)]))), (1, (.o (.box [(.sh 231 y3)])))]))) x0 x1 x2 x3 := by intro g; kernel_rfl
    refine (h _).trans ?_
    show Pu.spec_l03At.r2 N (fun x0 x1 x2 x3 => (iter (exc E201 (it201 N) (loopOf Try.f201 2)) (canon (E201.keep 2))  n (tabl [(2, (.v (.v false [(.s x0)]))), (4, (.v (.v false [(.bp 0 0)]))), (8, (.v (.v false [(.i .i64 x1)]))), (10, (.v (.v false [(.i .i64 x2)]))), (1, (.o (.box [(.sh 231 x3)])))]) K)) (fun y0 y1 y2 y3 => (K .ret (tabl [(2, (.v (.v false [(.s y0)]))), (4, (.v (.v false [(.bp 0 0)]))), (8, (.v (.v false [(.i .i64 y1)]))), (10, (.v (.v false [(.i .i64 y2)]))), (1, (.o (.box [(.sh 231 y3)])))]))) (fun y0 y1 y2 y3 => (K (.exit 0) (tabl [(2, (.v (.v false [(.s y0)]))), (4, (.v (.v false [(.bp 0 0)]))), (8, (.v (.v false [(.i .i64 y1)]))), (10, (.v (.v false [(.i .i64 y2)]))), (1, (.o (.box [(.sh 231 y3)])))]))) x0 x1 x2 x3 = _
    rw [e0]; rfl
theorem lo201_2 {R : Type} (N : Nat) : LoopOk E201 (it201 N (R := R)) (loopOf Try.f201 2) := by
  have e : firstRid (loopOf Try.f201 2) = 2 := by kernel_rfl
  intro L K r
  rw [e]
  intro h
  unfold it201 at h
  simp only [show Nat.beq 2 2 = true from rfl, cond_false, cond_true] at h
  refine tell_ok (Q := fun L => ∃ n, iter (exc E201 (it201 N) (loopOf Try.f201 2)) (canon (E201.keep 2)) n (tabl L) K = some r) h (fun xs h => ?_) (fun h => ?_)
  · (try dsimp only at h)
    split at h
    · exact ⟨N, ((e201_2 N K N) _ _ _ _).trans h⟩
    · cases h
  cases h
def sp201 : List Arg → Option (Bool × Res)
  | [(.v true [(.sh 231 d0)]), (.v false [(.s name1)])] => some (Pu.spec_l03At.c d0 name1, ⟨[(.v false [(.i .i64 (Pu.spec_l03At.v d0 name1))])], []⟩)
  | _ => none
theorem ok201 : FnOk Try.prog T 201 sp201 := by
  refine fn_ok (E := E201) hE call_nil hM Try.func201 (code := (Try.f201.body.getD .skip)) (by kernel_rfl) (by kernel_rfl) ?_
  have key : ∀ (d0 : Row) (name1 : ByteArray), Pu.spec_l03At.c d0 name1 = true → ∃ it : It Res, (∀ c ∈ loopsOf (Try.f201.body.getD .skip), LoopOk E201 it c) ∧ body E201 it Try.f201 [(.v true [(.sh 231 d0)]), (.v false [(.s name1)])] = some ⟨[(.v false [(.i .i64 (Pu.spec_l03At.v d0 name1))])], []⟩ := by
    intro d0 name1  h1
    obtain ⟨N, hN⟩ := Pu.spec_l03At.b_eq (R := Res) (fun r0 => some ⟨[(.v false [(.i .i64 r0)])], []⟩) d0 name1 h1
    have hl : loopsOf (Try.f201.body.getD .skip) = [loopOf Try.f201 2] := by kernel_rfl
    refine ⟨it201 N, by rw [hl]; exact (loops_cons (lo201_2 N) loops_nil), ?_⟩
    refine Eq.trans (show body E201 (it201 N) Try.f201 [(.v true [(.sh 231 d0)]), (.v false [(.s name1)])] = Pu.spec_l03At.b N (fun r0 => some ⟨[(.v false [(.i .i64 r0)])], []⟩) d0 name1 by kernel_rfl) hN
  intro args r h
  unfold sp201 at h
  split at h
  · injection h with h
    injection h with h1 h2
    subst h2
    exact ⟨by kernel_rfl, fun hf => ⟨of_decide_eq_true (by kernel_rfl), key _ _ h1⟩⟩
  · cases h

end Go.FG.Se

namespace Go.FG.Se
open Go.Proofs
def E149 : Env := { toTab := T, call := Go.FG.callIn [(201, sp201)], mode := Go.FG.modeIn md, keep := Go.FG.keepIn [], tk := fun n => Go.FG.memB n [], om := Go.FG.omIn [] }
def sp149 : List Arg → Option (Bool × Res)
  | [(.v true [(.sh 231 d0)]), (.v false [(.s name1)])] => some (Pu.spec_FileAt.c d0 name1, ⟨[(.v false [(.s ((Pu.spec_FileAt.v d0 name1).1))]), (.v false [(.b ((Pu.spec_FileAt.v d0 name1).2))])], []⟩)
  | _ => none
theorem ok149 : FnOk Try.prog T 149 sp149 := by
  refine fn_ok (E := E149) hE (call_cons ok201 call_nil) hM Try.func149 (code := (Try.f149.body.getD .skip)) (by kernel_rfl) (by kernel_rfl) ?_
  have key : ∀ (d0 : Row) (name1 : ByteArray), Pu.spec_FileAt.c d0 name1 = true → ∃ it : It Res, (∀ c ∈ loopsOf (Try.f149.body.getD .skip), LoopOk E149 it c) ∧ body E149 it Try.f149 [(.v true [(.sh 231 d0)]), (.v false [(.s name1)])] = some ⟨[(.v false [(.s ((Pu.spec_FileAt.v d0 name1).1))]), (.v false [(.b ((Pu.spec_FileAt.v d0 name1).2))])], []⟩ := by
    intro d0 name1  h1
    have hN := Pu.spec_FileAt.b_eq (R := Res) (fun r0 r1 => some ⟨[(.v false [(.s r0)]), (.v false [(.b r1)])], []⟩) d0 name1 h1
    have hl : loopsOf (Try.f149.body.getD .skip) = [] := by kernel_rfl
    refine ⟨iterN 0, by rw [hl]; exact loops_nil, ?_⟩
    refine Eq.trans (show body E149 (iterN 0) Try.f149 [(.v true [(.sh 231 d0)]), (.v false [(.s name1)])] = Pu.spec_FileAt.b (fun r0 r1 => some ⟨[(.v false [(.s r0)]), (.v false [(.b r1)])], []⟩) d0 name1 by kernel_rfl) hN
  intro args r h
  unfold sp149 at h
  split at h
  · injection h with h
    injection h with h1 h2
    subst h2
    exact ⟨by kernel_rfl, fun hf => ⟨of_decide_eq_true (by kernel_rfl), key _ _ h1⟩⟩
  · cases h

end Go.FG.Se

namespace Go.FG.Se
open Go.Proofs
def E168 : Env := { toTab := T, call := Go.FG.callIn [], mode := Go.FG.modeIn md, keep := Go.FG.keepIn [(2, [0, 3])], tk := fun n => Go.FG.memB n [], om := Go.FG.omIn [] }
def it168 (N : Nat) {R : Type} : It R := fun rid f cn L K => bif Nat.beq rid 2 then (tell [(0, (.v (.v false [(.i .i64 0)]))), (6, (.v (.v false [(.own 0)]))), (1, (.o (.row 5 true [])))] (fun | [.I x0, .R x1] => Pu.spec_l01Var.l2 N (fun y0 y1 => (K (.exit 0) (tabl [(0, (.v (.v false [(.i .i64 y0)]))), (6, (.v (.v false [(.own 0)]))), (1, (.o (.row 5 true y1)))]))) N x0 x1 | _ => none) L (none)) else none
theorem e168_2 {R : Type} (N : Nat) (K : Ex → St → Option R) : ∀ n : Nat, (∀ x0 x1, iter (exc E168 (it168 N) (loopOf Try.f168 2)) (canon (E168.keep 2))  n (tabl [(0, (.v (.v false [(.i .i64 x0)]))), (6, (.v (.v false [(.own 0)]))), (1, (.o (.row 5 true x1)))]) K = Pu.spec_l01Var.l2 N (fun y0 y1 => (K (.exit 0) (tabl [(0, (.v (.v false [(.i .i64 y0)]))), (6, (.v (.v false [(.own 0)]))), (1, (.o (.row 5 true y1)))]))) n x0 x1) := by
  intro n
  induction n with
  | zero => exact (fun _ _ => rfl)
  | succ n ih =>
    have e0 : (fun x0 x1 => iter (exc E168 (it168 N) (loopOf Try.f168 2)) (canon (E168.keep 2))  n (tabl [(0, (.v (.v false [(.i .i64 x0)]))), (6, (.v (.v false [(.own 0)]))), (1, (.o (.row 5 true x1)))]) K) = Pu.spec_l01Var.l2 N (fun y0 y1 => (K (.exit 0) (tabl [(0, (.v (.v false [(.i .i64 y0)]))), (6, (.v (.v false [(.own 0)]))), (1, (.o (.row 5 true y1)))]))) n := by funext x0 x1; exact ih x0 x1
    intro x0 x1
    have h : ∀ g, exc E168 (it168 N) (loopOf Try.f168 2) (tabl [(0, (.v (.v false [(.i .i64 x0)]))), (6, (.v (.v false [(.own 0)]))), (1, (.o (.row 5 true x1)))]) (iterK g (canon (E168.keep 2)) K) = Pu.spec_l01Var.r2 N (fun x0 x1 => (g (tabl [(0, (.v (.v false [(.i .i64 x0)]))), (6, (.v (.v false [(.own 0)]))), (1, (.o (.row 5 true x1)))]))) (fun y0 y1 => (K (.exit 0) (tabl [(0, (.v (.v false [(.i .i64 y0)]))), (6, (.v (.v false [(.own 0)]))), (1, (.o (.row 5 true y1)))]))) x0 x1 := by intro g; kernel_rfl
    refine (h _).trans ?_
    show Pu.spec_l01Var.r2 N (fun x0 x1 => (iter (exc E168 (it168 N) (loopOf Try.f168 2)) (canon (E168.keep 2))  n (tabl [(0, (.v (.v false [(.i .i64 x0)]))), (6, (.v (.v false [(.own 0)]))), (1, (.o (.row 5 true x1)))]) K)) (fun y0 y1 => (K (.exit 0) (tabl [(0, (.v (.v false [(.i .i64 y0)]))), (6, (.v (.v false [(.own 0)]))), (1, (.o (.row 5 true y1)))]))) x0 x1 = _
    rw [e0]; rfl
theorem lo168_2 {R : Type} (N : Nat) : LoopOk E168 (it168 N (R := R)) (loopOf Try.f168 2) := by
  have e : firstRid (loopOf Try.f168 2) = 2 := by kernel_rfl
  intro L K r
  rw [e]
  intro h
  unfold it168 at h
  simp only [show Nat.beq 2 2 = true from rfl, cond_false, cond_true] at h
  refine tell_ok (Q := fun L => ∃ n, iter (exc E168 (it168 N) (loopOf Try.f168 2)) (canon (E168.keep 2)) n (tabl L) K = some r) h (fun xs h => ?_) (fun h => ?_)
  · (try dsimp only at h)
    split at h
    · exact ⟨N, ((e168_2 N K N) _ _).trans h⟩
    · cases h
  cases h
def sp168 : List Arg → Option (Bool × Res)
  | [(.v false [(.i .i64 n0)])] => some (Pu.spec_l01Var.c n0, ⟨[(.v false [(.s (Pu.spec_l01Var.v n0))])], []⟩)
  | _ => none
theorem ok168 : FnOk Try.prog T 168 sp168 := by
  refine fn_ok (E := E168) hE call_nil hM Try.func168 (code := (Try.f168.body.getD .skip)) (by kernel_rfl) (by kernel_rfl) ?_
  have key : ∀ (n0 : Int), Pu.spec_l01Var.c n0 = true → ∃ it : It Res, (∀ c ∈ loopsOf (Try.f168.body.getD .skip), LoopOk E168 it c) ∧ body E168 it Try.f168 [(.v false [(.i .i64 n0)])] = some ⟨[(.v false [(.s (Pu.spec_l01Var.v n0))])], []⟩ := by
    intro n0  h1
    obtain ⟨N, hN⟩ := Pu.spec_l01Var.b_eq (R := Res) (fun r0 => some ⟨[(.v false [(.s r0)])], []⟩) n0 h1
    have hl : loopsOf (Try.f168.body.getD .skip) = [loopOf Try.f168 2] := by kernel_rfl
    refine ⟨it168 N, by rw [hl]; exact (loops_cons (lo168_2 N) loops_nil), ?_⟩
    refine Eq.trans (show body E168 (it168 N) Try.f168 [(.v false [(.i .i64 n0)])] = Pu.spec_l01Var.b N (fun r0 => some ⟨[(.v false [(.s r0)])], []⟩) n0 by kernel_rfl) hN
  intro args r h
  unfold sp168 at h
  split at h
  · injection h with h
    injection h with h1 h2
    subst h2
    exact ⟨by kernel_rfl, fun hf => ⟨of_decide_eq_true (by kernel_rfl), key _ h1⟩⟩
  · cases h

end Go.FG.Se

namespace Go.FG.Se
open Go.Proofs
def E108 : Env := { toTab := T, call := Go.FG.callIn [(95, sp95), (168, sp168)], mode := Go.FG.modeIn md, keep := Go.FG.keepIn [(6, [0, 1, 4, 5, 6, 7, 8, 9])], tk := fun n => Go.FG.memB n [], om := Go.FG.omIn [] }
def it108 (N : Nat) {R : Type} : It R := fun rid f cn L K => bif Nat.beq rid 6 then (tell [(0, (.v (.v false [(.s ⟨#[]⟩)]))), (2, (.v (.v false [(.i .i64 0)]))), (8, (.v (.v false [(.i .i64 0)]))), (10, (.v (.v false [(.i .i64 0)]))), (12, (.v (.v false [(.b false)]))), (14, (.v (.v false [(.i .i64 0)]))), (16, (.v (.v false [(.i .i64 0)]))), (18, (.v (.v false [(.i .i64 0)])))] (fun | [.S x0, .I x1, .I x2, .I x3, .B x4, .I x5, .I x6, .I x7] => Pu.spec_ReadVar.l6 N (fun y0 y1 y2 y3 y4 y5 y6 y7 => (K .ret (tabl [(0, (.v (.v false [(.s y0)]))), (2, (.v (.v false [(.i .i64 y1)]))), (8, (.v (.v false [(.i .i64 y2)]))), (10, (.v (.v false [(.i .i64 y3)]))), (12, (.v (.v false [(.b y4)]))), (14, (.v (.v false [(.i .i64 y5)]))), (16, (.v (.v false [(.i .i64 y6)]))), (18, (.v (.v false [(.i .i64 y7)])))]))) (fun y0 y1 y2 y3 y4 y5 y6 y7 => (K (.exit 0) (tabl [(0, (.v (.v false [(.s y0)]))), (2, (.v (.v false [(.i .i64 y1)]))), (8, (.v (.v false [(.i .i64 y2)]))), (10, (.v (.v false [(.i .i64 y3)]))), (12, (.v (.v false [(.b y4)]))), (14, (.v (.v false [(.i .i64 y5)]))), (16, (.v (.v false [(.i .i64 y6)]))), (18, (.v (.v false [(.i .i64 y7)])))]))) N x0 x1 x2 x3 x4 x5 x6 x7 | _ => none) L (none)) else none
theorem e108_6 {R : Type} (N : Nat) (K : Ex → St → Option R) : ∀ n : Nat, (∀ x0 x1 x2 x3 x4 x5 x6 x7, iter (exc E108 (it108 N) (loopOf Try.f108 6)) (canon (E108.keep 6))  n (tabl [(0, (.v (.v false [(.s x0)]))), (2, (.v (.v false [(.i .i64 x1)]))), (8, (.v (.v false [(.i .i64 x2)]))), (10, (.v (.v false [(.i .i64 x3)]))), (12, (.v (.v false [(.b x4)]))), (14, (.v (.v false [(.i .i64 x5)]))), (16, (.v (.v false [(.i .i64 x6)]))), (18, (.v (.v false [(.i .i64 x7)])))]) K = Pu.spec_ReadVar.l6 N (fun y0 y1 y2 y3 y4 y5 y6 y7 => (K .ret (tabl [(0, (.v (.v false [(.s y0)]))), (2, (.v (.v false [(.i .i64 y1)]))), (8, (.v (.v false [(.i .i64 y2)]))), (10, (.v (.v false [(.i .i64 y3)]))), (12, (.v (.v false [(.b y4)]))), (14, (.v (.v false [(.i .i64 y5)]))), (16, (.v (.v false [(.i .i64 y6)]))), (18, (.v (.v false [(.i .i64 y7)])))]))) (fun y0 y1 y2 y3 y4 y5 y6 y7 => (K (.exit 0) (tabl [(0, (.v (.v false [(.s y0)]))), (2, (.v (.v false [(.i .i64 y1)]))), (8, (.v (.v false [(.i .i64 y2)]))), (10, (.v (.v false [(.i .i64 y3)]))), (12, (.v (.v false [(.b y4)]))), (14, (.v (.v false [(.i .i64 y5)]))), (16, (.v (.v false [(.i .i64 y6)]))), (18, (.v (.v false [(.i .i64 y7)])))]))) n x0 x1 x2 x3 x4 x5 x6 x7) := by
  intro n
  induction n with
  | zero => exact (fun _ _ _ _ _ _ _ _ => rfl)
  | succ n ih =>
    have e0 : (fun x0 x1 x2 x3 x4 x5 x6 x7 => iter (exc E108 (it108 N) (loopOf Try.f108 6)) (canon (E108.keep 6))  n (tabl [(0, (.v (.v false [(.s x0)]))), (2, (.v (.v false [(.i .i64 x1)]))), (8, (.v (.v false [(.i .i64 x2)]))), (10, (.v (.v false [(.i .i64 x3)]))), (12, (.v (.v false [(.b x4)]))), (14, (.v (.v false [(.i .i64 x5)]))), (16, (.v (.v false [(.i .i64 x6)]))), (18, (.v (.v false [(.i .i64 x7)])))]) K) = Pu.spec_ReadVar.l6 N (fun y0 y1 y2 y3 y4 y5 y6 y7 => (K .ret (tabl [(0, (.v (.v false [(.s y0)]))), (2, (.v (.v false [(.i .i64 y1)]))), (8, (.v (.v false [(.i .i64 y2)]))), (10, (.v (.v false [(.i .i64 y3)]))), (12, (.v (.v false [(.b y4)]))), (14, (.v (.v false [(.i .i64 y5)]))), (16, (.v (.v false [(.i .i64 y6)]))), (18, (.v (.v false [(.i .i64 y7)])))]))) (fun y0 y1 y2 y3 y4 y5 y6 y7 => (K (.exit 0) (tabl [(0, (.v (.v false [(.s y0)]))), (2, (.v (.v false [(.i .i64 y1)]))), (8, (.v (.v false [(.i .i64 y2)]))), (10, (.v (.v false [(.i .i64 y3)]))), (12, (.v (.v false [(.b y4)]))), (14, (.v (.v false [(.i .i64 y5)]))), (16, (.v (.v false [(.i .i64 y6)]))), (18, (.v (.v false [(.i .i64 y7)])))]))) n := by funext x0 x1 x2 x3 x4 x5 x6 x7; exact ih x0 x1 x2 x3 x4 x5 x6 x7
    intro x0 x1 x2 x3 x4 x5 x6 x7
    have h : ∀ g, exc E108 (it108 N) (loopOf Try.f108 6) (tabl [(0, (.v (.v false [(.s x0)]))), (2, (.v (.v false [(.i .i64 x1)]))), (8, (.v (.v false [(.i .i64 x2)]))), (10, (.v (.v false [(.i .i64 x3)]))), (12, (.v (.v false [(.b x4)]))), (14, (.v (.v false [(.i .i64 x5)]))), (16, (.v (.v false [(.i .i64 x6)]))), (18, (.v (.v false [(.i .i64 x7)])))]) (iterK g (canon (E108.keep 6)) K) = Pu.spec_ReadVar.r6 N (fun x0 x1 x2 x3 x4 x5 x6 x7 => (g (tabl [(0, (.v (.v false [(.s x0)]))), (2, (.v (.v false [(.i .i64 x1)]))), (8, (.v (.v false [(.i .i64 x2)]))), (10, (.v (.v false [(.i .i64 x3)]))), (12, (.v (.v false [(.b x4)]))), (14, (.v (.v false [(.i .i64 x5)]))), (16, (.v (.v false [(.i .i64 x6)]))), (18, (.v (.v false [(.i .i64 x7)])))]))) (fun y0 y1 y2 y3 y4 y5 y6 y7 => (K .ret (tabl [(0, (.v (.v false [(.s y0)]))), (2, (.v (.v false [(.i .i64 y1)]))), (8, (.v (.v false [(.i .i64 y2)]))), (10, (.v (.v false [(.i .i64 y3)]))), (12, (.v (.v false [(.b y4)]))), (14, (.v (.v false [(.i .i64 y5)]))), (16, (.v (.v false [(.i .i64 y6)]))), (18, (.v (.v false [(.i .i64 y7)])))]))) (fun y0 y1 y2 y3 y4 y5 y6 y7 => (K (.exit 0) (tabl [(0, (.v (.v false [(.s y0)]))), (2, (.v (.v false [(.i .i64 y1)]))), (8, (.v (.v false [(.i .i64 y2)]))), (10, (.v (.v false [(.i .i64 y3)]))), (12, (.v (.v false [(.b y4)]))), (14, (.v (.v false [(.i .i64 y5)]))), (16, (.v (.v false [(.i .i64 y6)]))), (18, (.v (.v false [(.i .i64 y7)])))]))) x0 x1 x2 x3 x4 x5 x6 x7 := by intro g; kernel_rfl
    refine (h _).trans ?_
    show Pu.spec_ReadVar.r6 N (fun x0 x1 x2 x3 x4 x5 x6 x7 => (iter (exc E108 (it108 N) (loopOf Try.f108 6)) (canon (E108.keep 6))  n (tabl [(0, (.v (.v false [(.s x0)]))), (2, (.v (.v false [(.i .i64 x1)]))), (8, (.v (.v false [(.i .i64 x2)]))), (10, (.v (.v false [(.i .i64 x3)]))), (12, (.v (.v false [(.b x4)]))), (14, (.v (.v false [(.i .i64 x5)]))), (16, (.v (.v false [(.i .i64 x6)]))), (18, (.v (.v false [(.i .i64 x7)])))]) K)) (fun y0 y1 y2 y3 y4 y5 y6 y7 => (K .ret (tabl [(0, (.v (.v false [(.s y0)]))), (2, (.v (.v false [(.i .i64 y1)]))), (8, (.v (.v false [(.i .i64 y2)]))), (10, (.v (.v false [(.i .i64 y3)]))), (12, (.v (.v false [(.b y4)]))), (14, (.v (.v false [(.i .i64 y5)]))), (16, (.v (.v false [(.i .i64 y6)]))), (18, (.v (.v false [(.i .i64 y7)])))]))) (fun y0 y1 y2 y3 y4 y5 y6 y7 => (K (.exit 0) (tabl [(0, (.v (.v false [(.s y0)]))), (2, (.v (.v false [(.i .i64 y1)]))), (8, (.v (.v false [(.i .i64 y2)]))), (10, (.v (.v false [(.i .i64 y3)]))), (12, (.v (.v false [(.b y4)]))), (14, (.v (.v false [(.i .i64 y5)]))), (16, (.v (.v false [(.i .i64 y6)]))), (18, (.v (.v false [(.i .i64 y7)])))]))) x0 x1 x2 x3 x4 x5 x6 x7 = _
    rw [e0]; rfl
theorem lo108_6 {R : Type} (N : Nat) : LoopOk E108 (it108 N (R := R)) (loopOf Try.f108 6) := by
  have e : firstRid (loopOf Try.f108 6) = 6 := by kernel_rfl
  intro L K r
  rw [e]
  intro h
  unfold it108 at h
  simp only [show Nat.beq 6 6 = true from rfl, cond_false, cond_true] at h
  refine tell_ok (Q := fun L => ∃ n, iter (exc E108 (it108 N) (loopOf Try.f108 6)) (canon (E108.keep 6)) n (tabl L) K = some r) h (fun xs h => ?_) (fun h => ?_)
  · (try dsimp only at h)
    split at h
    · exact ⟨N, ((e108_6 N K N) _ _ _ _ _ _ _ _).trans h⟩
    · cases h
  cases h
def sp108 : List Arg → Option (Bool × Res)
  | [(.v false [(.s text0)]), (.v false [(.i .i64 at1)])] => some (true, ⟨[(.v false [(.i .i64 ((Pu.spec_ReadVar.v text0 at1).1))]), (.v false [(.i .i64 ((Pu.spec_ReadVar.v text0 at1).2.1))]), (.v false [(.b ((Pu.spec_ReadVar.v text0 at1).2.2))])], []⟩)
  | _ => none
theorem ok108 : FnOk Try.prog T 108 sp108 := by
  refine fn_ok (E := E108) hE (call_cons ok95 (call_cons ok168 call_nil)) hM Try.func108 (code := (Try.f108.body.getD .skip)) (by kernel_rfl) (by kernel_rfl) ?_
  have key : ∀ (text0 : ByteArray) (at1 : Int), okS text0 → ∃ it : It Res, (∀ c ∈ loopsOf (Try.f108.body.getD .skip), LoopOk E108 it c) ∧ body E108 it Try.f108 [(.v false [(.s text0)]), (.v false [(.i .i64 at1)])] = some ⟨[(.v false [(.i .i64 ((Pu.spec_ReadVar.v text0 at1).1))]), (.v false [(.i .i64 ((Pu.spec_ReadVar.v text0 at1).2.1))]), (.v false [(.b ((Pu.spec_ReadVar.v text0 at1).2.2))])], []⟩ := by
    intro text0 at1  g0
    obtain ⟨N, hN⟩ := Pu.spec_ReadVar.b_eq (R := Res) (fun r0 r1 r2 => some ⟨[(.v false [(.i .i64 r0)]), (.v false [(.i .i64 r1)]), (.v false [(.b r2)])], []⟩) text0 at1 g0
    have hl : loopsOf (Try.f108.body.getD .skip) = [loopOf Try.f108 6] := by kernel_rfl
    refine ⟨it108 N, by rw [hl]; exact (loops_cons (lo108_6 N) loops_nil), ?_⟩
    refine Eq.trans (show body E108 (it108 N) Try.f108 [(.v false [(.s text0)]), (.v false [(.i .i64 at1)])] = Pu.spec_ReadVar.b N (fun r0 r1 r2 => some ⟨[(.v false [(.i .i64 r0)]), (.v false [(.i .i64 r1)]), (.v false [(.b r2)])], []⟩) text0 at1 by kernel_rfl) hN
  intro args r h
  unfold sp108 at h
  split at h
  · injection h with h
    injection h with h1 h2
    subst h2
    exact ⟨by kernel_rfl, fun hf => ⟨of_decide_eq_true (by kernel_rfl), key _ _ hf.1.1⟩⟩
  · cases h

end Go.FG.Se

namespace Go.FG.Se
open Go.Proofs
def E209 : Env := { toTab := T, call := Go.FG.callIn [], mode := Go.FG.modeIn md, keep := Go.FG.keepIn [(2, [0, 1, 5]), (6, [0, 1, 5, 6])], tk := fun n => Go.FG.memB n [], om := Go.FG.omIn [] }
def it209 (N : Nat) {R : Type} : It R := fun rid f cn L K => bif Nat.beq rid 2 then (tell [(0, (.v (.v false [(.i .u32 0)]))), (2, (.v (.v false [(.s ⟨#[]⟩)]))), (10, (.v (.v false [(.i .i64 0)])))] (fun | [.I x0, .S x1, .I x2] => Pu.spec_SumMore.l2 N (fun y0 y1 y2 => (K (.exit 0) (tabl [(0, (.v (.v false [(.i .u32 y0)]))), (2, (.v (.v false [(.s y1)]))), (10, (.v (.v false [(.i .i64 y2)])))]))) N x0 x1 x2 | _ => none) L (none)) else bif Nat.beq rid 6 then (tell [(0, (.v (.v false [(.i .u32 0)]))), (2, (.v (.v false [(.s ⟨#[]⟩)]))), (10, (.v (.v false [(.i .i64 0)]))), (12, (.v (.v false [(.i .i64 0)])))] (fun | [.I x3, .S x4, .I x5, .I x6] => Pu.spec_SumMore.l6 N (fun y0 y1 y2 y3 => (K (.exit 2) (tabl [(0, (.v (.v false [(.i .u32 y0)]))), (2, (.v (.v false [(.s y1)]))), (10, (.v (.v false [(.i .i64 y2)]))), (12, (.v (.v false [(.i .i64 y3)])))]))) N x3 x4 x5 x6 | _ => none) L (none)) else none
theorem e209_2 {R : Type} (N : Nat) (K : Ex → St → Option R) : ∀ n : Nat, (∀ x0 x1 x2, iter (exc E209 (it209 N) (loopOf Try.f209 2)) (canon (E209.keep 2))  n (tabl [(0, (.v (.v false [(.i .u32 x0)]))), (2, (.v (.v false [(.s x1)]))), (10, (.v (.v false [(.i .i64 x2)])))]) K = Pu.spec_SumMore.l2 N (fun y0 y1 y2 => (K (.exit 0) (tabl [(0, (.v (.v false [(.i .u32 y0)]))), (2, (.v (.v false [(.s y1)]))), (10, (.v (.v false [(.i .i64 y2)])))]))) n x0 x1 x2) := by
  intro n
  induction n with
  | zero => exact (fun _ _ _ => rfl)
  | succ n ih =>
    have e0 : (fun x0 x1 x2 => iter (exc E209 (it209 N) (loopOf Try.f209 2)) (canon (E209.keep 2))  n (tabl [(0, (.v (.v false [(.i .u32 x0)]))), (2, (.v (.v false [(.s x1)]))), (10, (.v (.v false [(.i .i64 x2)])))]) K) = Pu.spec_SumMore.l2 N (fun y0 y1 y2 => (K (.exit 0) (tabl [(0, (.v (.v false [(.i .u32 y0)]))), (2, (.v (.v false [(.s y1)]))), (10, (.v (.v false [(.i .i64 y2)])))]))) n := by funext x0 x1 x2; exact ih x0 x1 x2
    intro x0 x1 x2
    have h : ∀ g, exc E209 (it209 N) (loopOf Try.f209 2) (tabl [(0, (.v (.v false [(.i .u32 x0)]))), (2, (.v (.v false [(.s x1)]))), (10, (.v (.v false [(.i .i64 x2)])))]) (iterK g (canon (E209.keep 2)) K) = Pu.spec_SumMore.r2 N (fun x0 x1 x2 => (g (tabl [(0, (.v (.v false [(.i .u32 x0)]))), (2, (.v (.v false [(.s x1)]))), (10, (.v (.v false [(.i .i64 x2)])))]))) (fun y0 y1 y2 => (K (.exit 0) (tabl [(0, (.v (.v false [(.i .u32 y0)]))), (2, (.v (.v false [(.s y1)]))), (10, (.v (.v false [(.i .i64 y2)])))]))) x0 x1 x2 := by intro g; kernel_rfl
    refine (h _).trans ?_
    show Pu.spec_SumMore.r2 N (fun x0 x1 x2 => (iter (exc E209 (it209 N) (loopOf Try.f209 2)) (canon (E209.keep 2))  n (tabl [(0, (.v (.v false [(.i .u32 x0)]))), (2, (.v (.v false [(.s x1)]))), (10, (.v (.v false [(.i .i64 x2)])))]) K)) (fun y0 y1 y2 => (K (.exit 0) (tabl [(0, (.v (.v false [(.i .u32 y0)]))), (2, (.v (.v false [(.s y1)]))), (10, (.v (.v false [(.i .i64 y2)])))]))) x0 x1 x2 = _
    rw [e0]; rfl
theorem lo209_2 {R : Type} (N : Nat) : LoopOk E209 (it209 N (R := R)) (loopOf Try.f209 2) := by
  have e : firstRid (loopOf Try.f209 2) = 2 := by kernel_rfl
  intro L K r
  rw [e]
  intro h
  unfold it209 at h
  simp only [show Nat.beq 2 2 = true from rfl, cond_false, cond_true] at h
  refine tell_ok (Q := fun L => ∃ n, iter (exc E209 (it209 N) (loopOf Try.f209 2)) (canon (E209.keep 2)) n (tabl L) K = some r) h (fun xs h => ?_) (fun h => ?_)
  · (try dsimp only at h)
    split at h
    · exact ⟨N, ((e209_2 N K N) _ _ _).trans h⟩
    · cases h
  cases h
theorem e209_6 {R : Type} (N : Nat) (K : Ex → St → Option R) : ∀ n : Nat, (∀ x3 x4 x5 x6, iter (exc E209 (it209 N) (loopOf Try.f209 6)) (canon (E209.keep 6))  n (tabl [(0, (.v (.v false [(.i .u32 x3)]))), (2, (.v (.v false [(.s x4)]))), (10, (.v (.v false [(.i .i64 x5)]))), (12, (.v (.v false [(.i .i64 x6)])))]) K = Pu.spec_SumMore.l6 N (fun y0 y1 y2 y3 => (K (.exit 2) (tabl [(0, (.v (.v false [(.i .u32 y0)]))), (2, (.v (.v false [(.s y1)]))), (10, (.v (.v false [(.i .i64 y2)]))), (12, (.v (.v false [(.i .i64 y3)])))]))) n x3 x4 x5 x6) := by
  intro n
  induction n with
  | zero => exact (fun _ _ _ _ => rfl)
  | succ n ih =>
    have e0 : (fun x3 x4 x5 x6 => iter (exc E209 (it209 N) (loopOf Try.f209 6)) (canon (E209.keep 6))  n (tabl [(0, (.v (.v false [(.i .u32 x3)]))), (2, (.v (.v false [(.s x4)]))), (10, (.v (.v false [(.i .i64 x5)]))), (12, (.v (.v false [(.i .i64 x6)])))]) K) = Pu.spec_SumMore.l6 N (fun y0 y1 y2 y3 => (K (.exit 2) (tabl [(0, (.v (.v false [(.i .u32 y0)]))), (2, (.v (.v false [(.s y1)]))), (10, (.v (.v false [(.i .i64 y2)]))), (12, (.v (.v false [(.i .i64 y3)])))]))) n := by funext x3 x4 x5 x6; exact ih x3 x4 x5 x6
    intro x3 x4 x5 x6
    have h : ∀ g, exc E209 (it209 N) (loopOf Try.f209 6) (tabl [(0, (.v (.v false [(.i .u32 x3)]))), (2, (.v (.v false [(.s x4)]))), (10, (.v (.v false [(.i .i64 x5)]))), (12, (.v (.v false [(.i .i64 x6)])))]) (iterK g (canon (E209.keep 6)) K) = Pu.spec_SumMore.r6 N (fun x3 x4 x5 x6 => (g (tabl [(0, (.v (.v false [(.i .u32 x3)]))), (2, (.v (.v false [(.s x4)]))), (10, (.v (.v false [(.i .i64 x5)]))), (12, (.v (.v false [(.i .i64 x6)])))]))) (fun y0 y1 y2 y3 => (K (.exit 2) (tabl [(0, (.v (.v false [(.i .u32 y0)]))), (2, (.v (.v false [(.s y1)]))), (10, (.v (.v false [(.i .i64 y2)]))), (12, (.v (.v false [(.i .i64 y3)])))]))) x3 x4 x5 x6 := by intro g; kernel_rfl
    refine (h _).trans ?_
    show Pu.spec_SumMore.r6 N (fun x3 x4 x5 x6 => (iter (exc E209 (it209 N) (loopOf Try.f209 6)) (canon (E209.keep 6))  n (tabl [(0, (.v (.v false [(.i .u32 x3)]))), (2, (.v (.v false [(.s x4)]))), (10, (.v (.v false [(.i .i64 x5)]))), (12, (.v (.v false [(.i .i64 x6)])))]) K)) (fun y0 y1 y2 y3 => (K (.exit 2) (tabl [(0, (.v (.v false [(.i .u32 y0)]))), (2, (.v (.v false [(.s y1)]))), (10, (.v (.v false [(.i .i64 y2)]))), (12, (.v (.v false [(.i .i64 y3)])))]))) x3 x4 x5 x6 = _
    rw [e0]; rfl
theorem lo209_6 {R : Type} (N : Nat) : LoopOk E209 (it209 N (R := R)) (loopOf Try.f209 6) := by
  have e : firstRid (loopOf Try.f209 6) = 6 := by kernel_rfl
  intro L K r
  rw [e]
  intro h
  unfold it209 at h
  simp only [show Nat.beq 6 2 = false from rfl, show Nat.beq 6 6 = true from rfl, cond_false, cond_true] at h
  refine tell_ok (Q := fun L => ∃ n, iter (exc E209 (it209 N) (loopOf Try.f209 6)) (canon (E209.keep 6)) n (tabl L) K = some r) h (fun xs h => ?_) (fun h => ?_)
  · (try dsimp only at h)
    split at h
    · exact ⟨N, ((e209_6 N K N) _ _ _ _).trans h⟩
    · cases h
  cases h
def sp209 : List Arg → Option (Bool × Res)
  | [(.v false [(.i .u32 sum0)]), (.v false [(.s text1)])] => some (Pu.spec_SumMore.c sum0 text1, ⟨[(.v false [(.i .u32 (Pu.spec_SumMore.v sum0 text1))])], []⟩)
  | _ => none
theorem ok209 : FnOk Try.prog T 209 sp209 := by
  refine fn_ok (E := E209) hE call_nil hM Try.func209 (code := (Try.f209.body.getD .skip)) (by kernel_rfl) (by kernel_rfl) ?_
  have key : ∀ (sum0 : Int) (text1 : ByteArray), Pu.spec_SumMore.c sum0 text1 = true → ∃ it : It Res, (∀ c ∈ loopsOf (Try.f209.body.getD .skip), LoopOk E209 it c) ∧ body E209 it Try.f209 [(.v false [(.i .u32 sum0)]), (.v false [(.s text1)])] = some ⟨[(.v false [(.i .u32 (Pu.spec_SumMore.v sum0 text1))])], []⟩ := by
    intro sum0 text1  h1
    obtain ⟨N, hN⟩ := Pu.spec_SumMore.b_eq (R := Res) (fun r0 => some ⟨[(.v false [(.i .u32 r0)])], []⟩) sum0 text1 h1
    have hl : loopsOf (Try.f209.body.getD .skip) = [loopOf Try.f209 2, loopOf Try.f209 6] := by kernel_rfl
    refine ⟨it209 N, by rw [hl]; exact (loops_cons (lo209_2 N) (loops_cons (lo209_6 N) loops_nil)), ?_⟩
    refine Eq.trans (show body E209 (it209 N) Try.f209 [(.v false [(.i .u32 sum0)]), (.v false [(.s text1)])] = Pu.spec_SumMore.b N (fun r0 => some ⟨[(.v false [(.i .u32 r0)])], []⟩) sum0 text1 by kernel_rfl) hN
  intro args r h
  unfold sp209 at h
  split at h
  · injection h with h
    injection h with h1 h2
    subst h2
    exact ⟨by kernel_rfl, fun hf => ⟨of_decide_eq_true (by kernel_rfl), key _ _ h1⟩⟩
  · cases h

end Go.FG.Se

namespace Go.FG.Se
open Go.Proofs
def E170 : Env := { toTab := T, call := Go.FG.callIn [(209, sp209)], mode := Go.FG.modeIn md, keep := Go.FG.keepIn [], tk := fun n => Go.FG.memB n [], om := Go.FG.omIn [] }
def sp170 : List Arg → Option (Bool × Res)
  | [(.v false [(.s text0)])] => some (Pu.spec_SumOf.c text0, ⟨[(.v false [(.i .u32 (Pu.spec_SumOf.v text0))])], []⟩)
  | _ => none
theorem ok170 : FnOk Try.prog T 170 sp170 := by
  refine fn_ok (E := E170) hE (call_cons ok209 call_nil) hM Try.func170 (code := (Try.f170.body.getD .skip)) (by kernel_rfl) (by kernel_rfl) ?_
  have key : ∀ (text0 : ByteArray), Pu.spec_SumOf.c text0 = true → ∃ it : It Res, (∀ c ∈ loopsOf (Try.f170.body.getD .skip), LoopOk E170 it c) ∧ body E170 it Try.f170 [(.v false [(.s text0)])] = some ⟨[(.v false [(.i .u32 (Pu.spec_SumOf.v text0))])], []⟩ := by
    intro text0  h1
    have hN := Pu.spec_SumOf.b_eq (R := Res) (fun r0 => some ⟨[(.v false [(.i .u32 r0)])], []⟩) text0 h1
    have hl : loopsOf (Try.f170.body.getD .skip) = [] := by kernel_rfl
    refine ⟨iterN 0, by rw [hl]; exact loops_nil, ?_⟩
    refine Eq.trans (show body E170 (iterN 0) Try.f170 [(.v false [(.s text0)])] = Pu.spec_SumOf.b (fun r0 => some ⟨[(.v false [(.i .u32 r0)])], []⟩) text0 by kernel_rfl) hN
  intro args r h
  unfold sp170 at h
  split at h
  · injection h with h
    injection h with h1 h2
    subst h2
    exact ⟨by kernel_rfl, fun hf => ⟨of_decide_eq_true (by kernel_rfl), key _ h1⟩⟩
  · cases h

end Go.FG.Se

namespace Go.FG.Se
open Go.Proofs
def E169 : Env := { toTab := T, call := Go.FG.callIn [], mode := Go.FG.modeIn md, keep := Go.FG.keepIn [], tk := fun n => Go.FG.memB n [], om := Go.FG.omIn [] }
def sp169 : List Arg → Option (Bool × Res)
  | [(.v false [(.i .u32 x0)])] => some (true, ⟨[(.v false [(.s (Pu.spec_l02Four.v x0))])], []⟩)
  | _ => none
theorem ok169 : FnOk Try.prog T 169 sp169 := by
  refine fn_ok (E := E169) hE call_nil hM Try.func169 (code := (Try.f169.body.getD .skip)) (by kernel_rfl) (by kernel_rfl) ?_
  have key : ∀ (x0 : Int), ∃ it : It Res, (∀ c ∈ loopsOf (Try.f169.body.getD .skip), LoopOk E169 it c) ∧ body E169 it Try.f169 [(.v false [(.i .u32 x0)])] = some ⟨[(.v false [(.s (Pu.spec_l02Four.v x0))])], []⟩ := by
    intro x0 
    have hN := Pu.spec_l02Four.b_eq (R := Res) (fun r0 => some ⟨[(.v false [(.s r0)])], []⟩) x0
    have hl : loopsOf (Try.f169.body.getD .skip) = [] := by kernel_rfl
    refine ⟨iterN 0, by rw [hl]; exact loops_nil, ?_⟩
    refine Eq.trans (show body E169 (iterN 0) Try.f169 [(.v false [(.i .u32 x0)])] = Pu.spec_l02Four.b (fun r0 => some ⟨[(.v false [(.s r0)])], []⟩) x0 by kernel_rfl) hN
  intro args r h
  unfold sp169 at h
  split at h
  · injection h with h
    injection h with h1 h2
    subst h2
    exact ⟨by kernel_rfl, fun hf => ⟨of_decide_eq_true (by kernel_rfl), key _⟩⟩
  · cases h

end Go.FG.Se

namespace Go.FG.Se
open Go.Proofs
def E97 : Env := { toTab := T, call := Go.FG.callIn [(95, sp95), (168, sp168), (170, sp170), (169, sp169)], mode := Go.FG.modeIn md, keep := Go.FG.keepIn [], tk := fun n => Go.FG.memB n [], om := Go.FG.omIn [] }
def sp97 : List Arg → Option (Bool × Res)
  | [(.v false [(.s text0)])] => some (Pu.spec_Frame.c text0, ⟨[(.v false [(.s ((Pu.spec_Frame.v text0).1))]), (.v false [(.b ((Pu.spec_Frame.v text0).2))])], []⟩)
  | _ => none
theorem ok97 : FnOk Try.prog T 97 sp97 := by
  refine fn_ok (E := E97) hE (call_cons ok95 (call_cons ok168 (call_cons ok170 (call_cons ok169 call_nil)))) hM Try.func97 (code := (Try.f97.body.getD .skip)) (by kernel_rfl) (by kernel_rfl) ?_
  have key : ∀ (text0 : ByteArray), Pu.spec_Frame.c text0 = true → ∃ it : It Res, (∀ c ∈ loopsOf (Try.f97.body.getD .skip), LoopOk E97 it c) ∧ body E97 it Try.f97 [(.v false [(.s text0)])] = some ⟨[(.v false [(.s ((Pu.spec_Frame.v text0).1))]), (.v false [(.b ((Pu.spec_Frame.v text0).2))])], []⟩ := by
    intro text0  h1
    have hN := Pu.spec_Frame.b_eq (R := Res) (fun r0 r1 => some ⟨[(.v false [(.s r0)]), (.v false [(.b r1)])], []⟩) text0 h1
    have hl : loopsOf (Try.f97.body.getD .skip) = [] := by kernel_rfl
    refine ⟨iterN 0, by rw [hl]; exact loops_nil, ?_⟩
    refine Eq.trans (show body E97 (iterN 0) Try.f97 [(.v false [(.s text0)])] = Pu.spec_Frame.b (fun r0 r1 => some ⟨[(.v false [(.s r0)]), (.v false [(.b r1)])], []⟩) text0 by kernel_rfl) hN
  intro args r h
  unfold sp97 at h
  split at h
  · injection h with h
    injection h with h1 h2
    subst h2
    exact ⟨by kernel_rfl, fun hf => ⟨of_decide_eq_true (by kernel_rfl), key _ h1⟩⟩
  · cases h

end Go.FG.Se

namespace Go.FG.Se
open Go.Proofs
def E161 : Env := { toTab := T, call := Go.FG.callIn [(108, sp108), (97, sp97)], mode := Go.FG.modeIn md, keep := Go.FG.keepIn [(5, [0, 2, 3, 4, 5])], tk := fun n => Go.FG.memB n [], om := Go.FG.omIn [] }
def it161 (N : Nat) {R : Type} : It R := fun rid f cn L K => bif Nat.beq rid 5 then (tell [(0, (.v (.v false [(.s ⟨#[]⟩)]))), (4, (.v (.v false [.nl]))), (6, (.v (.v false [(.i .i64 0)]))), (8, (.v (.v false [(.own 0)]))), (10, (.v (.v false [(.i .i64 0)]))), (1, (.o (.row 9 true [])))] (fun | [.S x0, .I x1, .I x2, .R x3] => Pu.spec_Unframe.l5 N (fun y0 y1 y2 y3 => (K .ret (tabl [(0, (.v (.v false [(.s y0)]))), (4, (.v (.v false [(.own 0)]))), (6, (.v (.v false [(.i .i64 y1)]))), (8, (.v (.v false [(.own 0)]))), (10, (.v (.v false [(.i .i64 y2)]))), (1, (.o (.row 9 true y3)))]))) (fun y0 y1 y2 y3 => (K (.exit 0) (tabl [(0, (.v (.v false [(.s y0)]))), (4, (.v (.v false [.nl]))), (6, (.v (.v false [(.i .i64 y1)]))), (8, (.v (.v false [(.own 0)]))), (10, (.v (.v false [(.i .i64 y2)]))), (1, (.o (.row 9 true y3)))]))) N x0 x1 x2 x3 | _ => none) L (none)) else none
theorem e161_5 {R : Type} (N : Nat) (K : Ex → St → Option R) : ∀ n : Nat, (∀ x0 x1 x2 x3, iter (exc E161 (it161 N) (loopOf Try.f161 5)) (canon (E161.keep 5))  n (tabl [(0, (.v (.v false [(.s x0)]))), (4, (.v (.v false [.nl]))), (6, (.v (.v false [(.i .i64 x1)]))), (8, (.v (.v false [(.own 0)]))), (10, (.v (.v false [(.i .i64 x2)]))), (1, (.o (.row 9 true x3)))]) K = Pu.spec_Unframe.l5 N (fun y0 y1 y2 y3 => (K .ret (tabl [(0, (.v (.v false [(.s y0)]))), (4, (.v (.v false [(.own 0)]))), (6, (.v (.v false [(.i .i64 y1)]))), (8, (.v (.v false [(.own 0)]))), (10, (.v (.v false [(.i .i64 y2)]))), (1, (.o (.row 9 true y3)))]))) (fun y0 y1 y2 y3 => (K (.exit 0) (tabl [(0, (.v (.v false [(.s y0)]))), (4, (.v (.v false [.nl]))), (6, (.v (.v false [(.i .i64 y1)]))), (8, (.v (.v false [(.own 0)]))), (10, (.v (.v false [(.i .i64 y2)]))), (1, (.o (.row 9 true y3)))]))) n x0 x1 x2 x3) := by
  intro n
  induction n with
  | zero => exact (fun _ _ _ _ => rfl)
  | succ n ih =>
    have e0 : (fun x0 x1 x2 x3 => iter (exc E161 (it161 N) (loopOf Try.f161 5)) (canon (E161.keep 5))  n (tabl [(0, (.v (.v false [(.s x0)]))), (4, (.v (.v false [.nl]))), (6, (.v (.v false [(.i .i64 x1)]))), (8, (.v (.v false [(.own 0)]))), (10, (.v (.v false [(.i .i64 x2)]))), (1, (.o (.row 9 true x3)))]) K) = Pu.spec_Unframe.l5 N (fun y0 y1 y2 y3 => (K .ret (tabl [(0, (.v (.v false [(.s y0)]))), (4, (.v (.v false [(.own 0)]))), (6, (.v (.v false [(.i .i64 y1)]))), (8, (.v (.v false [(.own 0)]))), (10, (.v (.v false [(.i .i64 y2)]))), (1, (.o (.row 9 true y3)))]))) (fun y0 y1 y2 y3 => (K (.exit 0) (tabl [(0, (.v (.v false [(.s y0)]))), (4, (.v (.v false [.nl]))), (6, (.v (.v false [(.i .i64 y1)]))), (8, (.v (.v false [(.own 0)]))), (10, (.v (.v false [(.i .i64 y2)]))), (1, (.o (.row 9 true y3)))]))) n := by funext x0 x1 x2 x3; exact ih x0 x1 x2 x3
    intro x0 x1 x2 x3
    have h : ∀ g, exc E161 (it161 N) (loopOf Try.f161 5) (tabl [(0, (.v (.v false [(.s x0)]))), (4, (.v (.v false [.nl]))), (6, (.v (.v false [(.i .i64 x1)]))), (8, (.v (.v false [(.own 0)]))), (10, (.v (.v false [(.i .i64 x2)]))), (1, (.o (.row 9 true x3)))]) (iterK g (canon (E161.keep 5)) K) = Pu.spec_Unframe.r5 N (fun x0 x1 x2 x3 => (g (tabl [(0, (.v (.v false [(.s x0)]))), (4, (.v (.v false [.nl]))), (6, (.v (.v false [(.i .i64 x1)]))), (8, (.v (.v false [(.own 0)]))), (10, (.v (.v false [(.i .i64 x2)]))), (1, (.o (.row 9 true x3)))]))) (fun y0 y1 y2 y3 => (K .ret (tabl [(0, (.v (.v false [(.s y0)]))), (4, (.v (.v false [(.own 0)]))), (6, (.v (.v false [(.i .i64 y1)]))), (8, (.v (.v false [(.own 0)]))), (10, (.v (.v false [(.i .i64 y2)]))), (1, (.o (.row 9 true y3)))]))) (fun y0 y1 y2 y3 => (K (.exit 0) (tabl [(0, (.v (.v false [(.s y0)]))), (4, (.v (.v false [.nl]))), (6, (.v (.v false [(.i .i64 y1)]))), (8, (.v (.v false [(.own 0)]))), (10, (.v (.v false [(.i .i64 y2)]))), (1, (.o (.row 9 true y3)))]))) x0 x1 x2 x3 := by intro g; kernel_rfl
    refine (h _).trans ?_
    show Pu.spec_Unframe.r5 N (fun x0 x1 x2 x3 => (iter (exc E161 (it161 N) (loopOf Try.f161 5)) (canon (E161.keep 5))  n (tabl [(0, (.v (.v false [(.s x0)]))), (4, (.v (.v false [.nl]))), (6, (.v (.v false [(.i .i64 x1)]))), (8, (.v (.v false [(.own 0)]))), (10, (.v (.v false [(.i .i64 x2)]))), (1, (.o (.row 9 true x3)))]) K)) (fun y0 y1 y2 y3 => (K .ret (tabl [(0, (.v (.v false [(.s y0)]))), (4, (.v (.v false [(.own 0)]))), (6, (.v (.v false [(.i .i64 y1)]))), (8, (.v (.v false [(.own 0)]))), (10, (.v (.v false [(.i .i64 y2)]))), (1, (.o (.row 9 true y3)))]))) (fun y0 y1 y2 y3 => (K (.exit 0) (tabl [(0, (.v (.v false [(.s y0)]))), (4, (.v (.v false [.nl]))), (6, (.v (.v false [(.i .i64 y1)]))), (8, (.v (.v false [(.own 0)]))), (10, (.v (.v false [(.i .i64 y2)]))), (1, (.o (.row 9 true y3)))]))) x0 x1 x2 x3 = _
    rw [e0]; rfl
theorem lo161_5 {R : Type} (N : Nat) : LoopOk E161 (it161 N (R := R)) (loopOf Try.f161 5) := by
  have e : firstRid (loopOf Try.f161 5) = 5 := by kernel_rfl
  intro L K r
  rw [e]
  intro h
  unfold it161 at h
  simp only [show Nat.beq 5 5 = true from rfl, cond_false, cond_true] at h
  refine tell_ok (Q := fun L => ∃ n, iter (exc E161 (it161 N) (loopOf Try.f161 5)) (canon (E161.keep 5)) n (tabl L) K = some r) h (fun xs h => ?_) (fun h => ?_)
  · (try dsimp only at h)
    split at h
    · exact ⟨N, ((e161_5 N K N) _ _ _ _).trans h⟩
    · cases h
  cases h
def sp161 : List Arg → Option (Bool × Res)
  | [(.v false [(.s file0)])] => some (Pu.spec_Unframe.c file0, ⟨[(.v false [(.ow 9 true ((Pu.spec_Unframe.v file0).1))]), (.v false [(.i .i64 ((Pu.spec_Unframe.v file0).2))])], []⟩)
  | _ => none
theorem ok161 : FnOk Try.prog T 161 sp161 := by
  refine fn_ok (E := E161) hE (call_cons ok108 (call_cons ok97 call_nil)) hM Try.func161 (code := (Try.f161.body.getD .skip)) (by kernel_rfl) (by kernel_rfl) ?_
  have key : ∀ (file0 : ByteArray), Pu.spec_Unframe.c file0 = true → ∃ it : It Res, (∀ c ∈ loopsOf (Try.f161.body.getD .skip), LoopOk E161 it c) ∧ body E161 it Try.f161 [(.v false [(.s file0)])] = some ⟨[(.v false [(.ow 9 true ((Pu.spec_Unframe.v file0).1))]), (.v false [(.i .i64 ((Pu.spec_Unframe.v file0).2))])], []⟩ := by
    intro file0  h1
    obtain ⟨N, hN⟩ := Pu.spec_Unframe.b_eq (R := Res) (fun r0 r1 => some ⟨[(.v false [(.ow 9 true r0)]), (.v false [(.i .i64 r1)])], []⟩) file0 h1
    have hl : loopsOf (Try.f161.body.getD .skip) = [loopOf Try.f161 5] := by kernel_rfl
    refine ⟨it161 N, by rw [hl]; exact (loops_cons (lo161_5 N) loops_nil), ?_⟩
    refine Eq.trans (show body E161 (it161 N) Try.f161 [(.v false [(.s file0)])] = Pu.spec_Unframe.b N (fun r0 r1 => some ⟨[(.v false [(.ow 9 true r0)]), (.v false [(.i .i64 r1)])], []⟩) file0 by kernel_rfl) hN
  intro args r h
  unfold sp161 at h
  split at h
  · injection h with h
    injection h with h1 h2
    subst h2
    exact ⟨by kernel_rfl, fun hf => ⟨of_decide_eq_true (by kernel_rfl), key _ h1⟩⟩
  · cases h

end Go.FG.Se

namespace Go.FG.Se
open Go.Proofs
def E107 : Env := { toTab := T, call := Go.FG.callIn [(108, sp108)], mode := Go.FG.modeIn md, keep := Go.FG.keepIn [], tk := fun n => Go.FG.memB n [], om := Go.FG.omIn [] }
def sp107 : List Arg → Option (Bool × Res)
  | [(.v false [(.s text0)]), (.v false [(.i .i64 at1)])] => some (true, ⟨[(.v false [(.s ((Pu.spec_ReadShort.v text0 at1).1))]), (.v false [(.i .i64 ((Pu.spec_ReadShort.v text0 at1).2.1))]), (.v false [(.b ((Pu.spec_ReadShort.v text0 at1).2.2))])], []⟩)
  | _ => none
theorem ok107 : FnOk Try.prog T 107 sp107 := by
  refine fn_ok (E := E107) hE (call_cons ok108 call_nil) hM Try.func107 (code := (Try.f107.body.getD .skip)) (by kernel_rfl) (by kernel_rfl) ?_
  have key : ∀ (text0 : ByteArray) (at1 : Int), okS text0 → ∃ it : It Res, (∀ c ∈ loopsOf (Try.f107.body.getD .skip), LoopOk E107 it c) ∧ body E107 it Try.f107 [(.v false [(.s text0)]), (.v false [(.i .i64 at1)])] = some ⟨[(.v false [(.s ((Pu.spec_ReadShort.v text0 at1).1))]), (.v false [(.i .i64 ((Pu.spec_ReadShort.v text0 at1).2.1))]), (.v false [(.b ((Pu.spec_ReadShort.v text0 at1).2.2))])], []⟩ := by
    intro text0 at1  g0
    have hN := Pu.spec_ReadShort.b_eq (R := Res) (fun r0 r1 r2 => some ⟨[(.v false [(.s r0)]), (.v false [(.i .i64 r1)]), (.v false [(.b r2)])], []⟩) text0 at1 g0
    have hl : loopsOf (Try.f107.body.getD .skip) = [] := by kernel_rfl
    refine ⟨iterN 0, by rw [hl]; exact loops_nil, ?_⟩
    refine Eq.trans (show body E107 (iterN 0) Try.f107 [(.v false [(.s text0)]), (.v false [(.i .i64 at1)])] = Pu.spec_ReadShort.b (fun r0 r1 r2 => some ⟨[(.v false [(.s r0)]), (.v false [(.i .i64 r1)]), (.v false [(.b r2)])], []⟩) text0 at1 by kernel_rfl) hN
  intro args r h
  unfold sp107 at h
  split at h
  · injection h with h
    injection h with h1 h2
    subst h2
    exact ⟨by kernel_rfl, fun hf => ⟨of_decide_eq_true (by kernel_rfl), key _ _ hf.1.1⟩⟩
  · cases h

end Go.FG.Se

namespace Go.FG.Se
open Go.Proofs
def E109 : Env := { toTab := T, call := Go.FG.callIn [(95, sp95)], mode := Go.FG.modeIn md, keep := Go.FG.keepIn [], tk := fun n => Go.FG.memB n [], om := Go.FG.omIn [] }
def sp109 : List Arg → Option (Bool × Res)
  | [(.v false [(.s s0)])] => some (true, ⟨[(.v false [(.b (Pu.spec_l13Key.v s0))])], []⟩)
  | _ => none
theorem ok109 : FnOk Try.prog T 109 sp109 := by
  refine fn_ok (E := E109) hE (call_cons ok95 call_nil) hM Try.func109 (code := (Try.f109.body.getD .skip)) (by kernel_rfl) (by kernel_rfl) ?_
  have key : ∀ (s0 : ByteArray), ∃ it : It Res, (∀ c ∈ loopsOf (Try.f109.body.getD .skip), LoopOk E109 it c) ∧ body E109 it Try.f109 [(.v false [(.s s0)])] = some ⟨[(.v false [(.b (Pu.spec_l13Key.v s0))])], []⟩ := by
    intro s0 
    have hN := Pu.spec_l13Key.b_eq (R := Res) (fun r0 => some ⟨[(.v false [(.b r0)])], []⟩) s0
    have hl : loopsOf (Try.f109.body.getD .skip) = [] := by kernel_rfl
    refine ⟨iterN 0, by rw [hl]; exact loops_nil, ?_⟩
    refine Eq.trans (show body E109 (iterN 0) Try.f109 [(.v false [(.s s0)])] = Pu.spec_l13Key.b (fun r0 => some ⟨[(.v false [(.b r0)])], []⟩) s0 by kernel_rfl) hN
  intro args r h
  unfold sp109 at h
  split at h
  · injection h with h
    injection h with h1 h2
    subst h2
    exact ⟨by kernel_rfl, fun hf => ⟨of_decide_eq_true (by kernel_rfl), key _⟩⟩
  · cases h

end Go.FG.Se

namespace Go.FG.Se
open Go.Proofs
def E32 : Env := { toTab := T, call := Go.FG.callIn [(109, sp109), (95, sp95)], mode := Go.FG.modeIn md, keep := Go.FG.keepIn [], tk := fun n => Go.FG.memB n [], om := Go.FG.omIn [] }
def sp32 : List Arg → Option (Bool × Res)
  | [(.v true [(.s e0_0), (.i .i64 e0_1), (.i .i64 e0_2), (.s e0_3)])] => some (true, ⟨[(.v false [(.b (Pu.spec_EntryOk.v e0_0 e0_1 e0_2 e0_3))])], []⟩)
  | _ => none
theorem ok32 : FnOk Try.prog T 32 sp32 := by
  refine fn_ok (E := E32) hE (call_cons ok109 (call_cons ok95 call_nil)) hM Try.func32 (code := (Try.f32.body.getD .skip)) (by kernel_rfl) (by kernel_rfl) ?_
  have key : ∀ (e0_0 : ByteArray) (e0_1 : Int) (e0_2 : Int) (e0_3 : ByteArray), ∃ it : It Res, (∀ c ∈ loopsOf (Try.f32.body.getD .skip), LoopOk E32 it c) ∧ body E32 it Try.f32 [(.v true [(.s e0_0), (.i .i64 e0_1), (.i .i64 e0_2), (.s e0_3)])] = some ⟨[(.v false [(.b (Pu.spec_EntryOk.v e0_0 e0_1 e0_2 e0_3))])], []⟩ := by
    intro e0_0 e0_1 e0_2 e0_3 
    have hN := Pu.spec_EntryOk.b_eq (R := Res) (fun r0 => some ⟨[(.v false [(.b r0)])], []⟩) e0_0 e0_1 e0_2 e0_3
    have hl : loopsOf (Try.f32.body.getD .skip) = [] := by kernel_rfl
    refine ⟨iterN 0, by rw [hl]; exact loops_nil, ?_⟩
    refine Eq.trans (show body E32 (iterN 0) Try.f32 [(.v true [(.s e0_0), (.i .i64 e0_1), (.i .i64 e0_2), (.s e0_3)])] = Pu.spec_EntryOk.b (fun r0 => some ⟨[(.v false [(.b r0)])], []⟩) e0_0 e0_1 e0_2 e0_3 by kernel_rfl) hN
  intro args r h
  unfold sp32 at h
  split at h
  · injection h with h
    injection h with h1 h2
    subst h2
    exact ⟨by kernel_rfl, fun hf => ⟨of_decide_eq_true (by kernel_rfl), key _ _ _ _⟩⟩
  · cases h

end Go.FG.Se

namespace Go.FG.Se
open Go.Proofs
def E96 : Env := { toTab := T, call := Go.FG.callIn [(32, sp32), (168, sp168)], mode := Go.FG.modeIn md, keep := Go.FG.keepIn [], tk := fun n => Go.FG.memB n [], om := Go.FG.omIn [] }
def sp96 : List Arg → Option (Bool × Res)
  | [(.v true [(.s e0_0), (.i .i64 e0_1), (.i .i64 e0_2), (.s e0_3)])] => some (true, ⟨[(.v false [(.s ((Pu.spec_EntryText.v e0_0 e0_1 e0_2 e0_3).1))]), (.v false [(.b ((Pu.spec_EntryText.v e0_0 e0_1 e0_2 e0_3).2))])], []⟩)
  | _ => none
theorem ok96 : FnOk Try.prog T 96 sp96 := by
  refine fn_ok (E := E96) hE (call_cons ok32 (call_cons ok168 call_nil)) hM Try.func96 (code := (Try.f96.body.getD .skip)) (by kernel_rfl) (by kernel_rfl) ?_
  have key : ∀ (e0_0 : ByteArray) (e0_1 : Int) (e0_2 : Int) (e0_3 : ByteArray), ∃ it : It Res, (∀ c ∈ loopsOf (Try.f96.body.getD .skip), LoopOk E96 it c) ∧ body E96 it Try.f96 [(.v true [(.s e0_0), (.i .i64 e0_1), (.i .i64 e0_2), (.s e0_3)])] = some ⟨[(.v false [(.s ((Pu.spec_EntryText.v e0_0 e0_1 e0_2 e0_3).1))]), (.v false [(.b ((Pu.spec_EntryText.v e0_0 e0_1 e0_2 e0_3).2))])], []⟩ := by
    intro e0_0 e0_1 e0_2 e0_3 
    have hN := Pu.spec_EntryText.b_eq (R := Res) (fun r0 r1 => some ⟨[(.v false [(.s r0)]), (.v false [(.b r1)])], []⟩) e0_0 e0_1 e0_2 e0_3
    have hl : loopsOf (Try.f96.body.getD .skip) = [] := by kernel_rfl
    refine ⟨iterN 0, by rw [hl]; exact loops_nil, ?_⟩
    refine Eq.trans (show body E96 (iterN 0) Try.f96 [(.v true [(.s e0_0), (.i .i64 e0_1), (.i .i64 e0_2), (.s e0_3)])] = Pu.spec_EntryText.b (fun r0 r1 => some ⟨[(.v false [(.s r0)]), (.v false [(.b r1)])], []⟩) e0_0 e0_1 e0_2 e0_3 by kernel_rfl) hN
  intro args r h
  unfold sp96 at h
  split at h
  · injection h with h
    injection h with h1 h2
    subst h2
    exact ⟨by kernel_rfl, fun hf => ⟨of_decide_eq_true (by kernel_rfl), key _ _ _ _⟩⟩
  · cases h

end Go.FG.Se

namespace Go.FG.Se
open Go.Proofs
def E31 : Env := { toTab := T, call := Go.FG.callIn [(107, sp107), (108, sp108), (96, sp96)], mode := Go.FG.modeIn md, keep := Go.FG.keepIn [], tk := fun n => Go.FG.memB n [], om := Go.FG.omIn [] }
def sp31 : List Arg → Option (Bool × Res)
  | [(.v false [(.s t0)])] => some (true, ⟨[(.v true [(.s ((Pu.spec_ReadEntry.v t0).1)), (.i .i64 ((Pu.spec_ReadEntry.v t0).2.1)), (.i .i64 ((Pu.spec_ReadEntry.v t0).2.2.1)), (.s ((Pu.spec_ReadEntry.v t0).2.2.2.1))]), (.v false [(.b ((Pu.spec_ReadEntry.v t0).2.2.2.2))])], []⟩)
  | _ => none
theorem ok31 : FnOk Try.prog T 31 sp31 := by
  refine fn_ok (E := E31) hE (call_cons ok107 (call_cons ok108 (call_cons ok96 call_nil))) hM Try.func31 (code := (Try.f31.body.getD .skip)) (by kernel_rfl) (by kernel_rfl) ?_
  have key : ∀ (t0 : ByteArray), okS t0 → ∃ it : It Res, (∀ c ∈ loopsOf (Try.f31.body.getD .skip), LoopOk E31 it c) ∧ body E31 it Try.f31 [(.v false [(.s t0)])] = some ⟨[(.v true [(.s ((Pu.spec_ReadEntry.v t0).1)), (.i .i64 ((Pu.spec_ReadEntry.v t0).2.1)), (.i .i64 ((Pu.spec_ReadEntry.v t0).2.2.1)), (.s ((Pu.spec_ReadEntry.v t0).2.2.2.1))]), (.v false [(.b ((Pu.spec_ReadEntry.v t0).2.2.2.2))])], []⟩ := by
    intro t0  g0
    have hN := Pu.spec_ReadEntry.b_eq (R := Res) (fun r0 r1 r2 r3 r4 => some ⟨[(.v true [(.s r0), (.i .i64 r1), (.i .i64 r2), (.s r3)]), (.v false [(.b r4)])], []⟩) t0 g0
    have hl : loopsOf (Try.f31.body.getD .skip) = [] := by kernel_rfl
    refine ⟨iterN 0, by rw [hl]; exact loops_nil, ?_⟩
    refine Eq.trans (show body E31 (iterN 0) Try.f31 [(.v false [(.s t0)])] = Pu.spec_ReadEntry.b (fun r0 r1 r2 r3 r4 => some ⟨[(.v true [(.s r0), (.i .i64 r1), (.i .i64 r2), (.s r3)]), (.v false [(.b r4)])], []⟩) t0 by kernel_rfl) hN
  intro args r h
  unfold sp31 at h
  split at h
  · injection h with h
    injection h with h1 h2
    subst h2
    exact ⟨by kernel_rfl, fun hf => ⟨of_decide_eq_true (by kernel_rfl), key _ hf.1.1⟩⟩
  · cases h

end Go.FG.Se

namespace Go.FG.Se
open Go.Proofs
def E162 : Env := { toTab := T, call := Go.FG.callIn [], mode := Go.FG.modeIn md, keep := Go.FG.keepIn [(3, [0, 3, 5, 6]), (9, [0, 3, 5, 7])], tk := fun n => Go.FG.memB n [], om := Go.FG.omIn [] }
def it162 (N : Nat) {R : Type} : It R := fun rid f cn L K => bif Nat.beq rid 3 then (tell [(0, (.v (.v false [(.sh 25 [])]))), (6, (.v (.v false [(.bp 0 0)]))), (10, (.v (.v false [(.own 1)]))), (12, (.v (.v false [(.i .i64 0)]))), (1, (.o (.box [(.s ⟨#[]⟩), (.i .i64 0), (.i .i64 0), (.s ⟨#[]⟩)]))), (3, (.o (.row 25 true [])))] (fun | [.R x0, .I x1, .S x2, .I x3, .I x4, .S x5, .R x6] => Pu.spec_l15Put.l3 N (fun y0 y1 y2 y3 y4 y5 y6 => (K (.exit 0) (tabl [(0, (.v (.v false [(.sh 25 y0)]))), (6, (.v (.v false [(.bp 0 0)]))), (10, (.v (.v false [(.own 1)]))), (12, (.v (.v false [(.i .i64 y1)]))), (1, (.o (.box [(.s y2), (.i .i64 y3), (.i .i64 y4), (.s y5)]))), (3, (.o (.row 25 true y6)))]))) N x0 x1 x2 x3 x4 x5 x6 | _ => none) L (none)) else bif Nat.beq rid 9 then (tell [(0, (.v (.v false [(.sh 25 [])]))), (6, (.v (.v false [(.bp 0 0)]))), (10, (.v (.v false [(.own 1)]))), (14, (.v (.v false [(.i .i64 0)]))), (1, (.o (.box [(.s ⟨#[]⟩), (.i .i64 0), (.i .i64 0), (.s ⟨#[]⟩)]))), (3, (.o (.row 25 true [])))] (fun | [.R x14, .I x15, .S x16, .I x17, .I x18, .S x19, .R x20] => Pu.spec_l15Put.l9 N (fun y0 y1 y2 y3 y4 y5 y6 => (K (.exit 2) (tabl [(0, (.v (.v false [(.sh 25 y0)]))), (6, (.v (.v false [(.bp 0 0)]))), (10, (.v (.v false [(.own 1)]))), (14, (.v (.v false [(.i .i64 y1)]))), (1, (.o (.box [(.s y2), (.i .i64 y3), (.i .i64 y4), (.s y5)]))), (3, (.o (.row 25 true y6)))]))) N x14 x15 x16 x17 x18 x19 x20 | _ => none) L (none)) else none
theorem e162_3 {R : Type} (N : Nat) (K : Ex → St → Option R) : ∀ n : Nat, (∀ x0 x1 x2 x3 x4 x5 x6, iter (exc E162 (it162 N) (loopOf Try.f162 3)) (canon (E162.keep 3))  n (tabl [(0, (.v (.v false [(.sh 25 x0)]))), (6, (.v (.v false [(.bp 0 0)]))), (10, (.v (.v false [(.own 1)]))), (12, (.v (.v false [(.i .i64 x1)]))), (1, (.o (.box [(.s x2), (.i .i64 x3), (.i .i64 x4), (.s x5)]))), (3, (.o (.row 25 true x6)))]) K = Pu.spec_l15Put.l3 N (fun y0 y1 y2 y3 y4 y5 y6 => (K (.exit 0) (tabl [(0, (.v (.v false [(.sh 25 y0)]))), (6, (.v (.v false [(.bp 0 0)]))), (10, (.v (.v false [(.own 1)]))), (12, (.v (.v false [(.i .i64 y1)]))), (1, (.o (.box [(.s y2), (.i .i64 y3), (.i .i64 y4), (.s y5)]))), (3, (.o (.row 25 true y6)))]))) n x0 x1 x2 x3 x4 x5 x6) := by
  intro n
  induction n with
  | zero => exact (fun _ _ _ _ _ _ _ => rfl)
  | succ n ih =>
    have e0 : (fun x0 x1 x2 x3 x4 x5 x6 => iter (exc E162 (it162 N) (loopOf Try.f162 3)) (canon (E162.keep 3))  n (tabl [(0, (.v (.v false [(.sh 25 x0)]))), (6, (.v (.v false [(.bp 0 0)]))), (10, (.v (.v false [(.own 1)]))), (12, (.v (.v false [(.i .i64 x1)]))), (1, (.o (.box [(.s x2), (.i .i64 x3), (.i .i64 x4), (.s x5)]))), (3, (.o (.row 25 true x6)))]) K) = Pu.spec_l15Put.l3 N (fun y0 y1 y2 y3 y4 y5 y6 => (K (.exit 0) (tabl [(0, (.v (.v false [(.sh 25 y0)]))), (6, (.v (.v false [(.bp 0 0)]))), (10, (.v (.v false [(.own 1)]))), (12, (.v (.v false [(.i .i64 y1)]))), (1, (.o (.box [(.s y2), (.i .i64 y3), (.i .i64 y4), (.s y5)]))), (3, (.o (.row 25 true y6)))]))) n := by funext x0 x1 x2 x3 x4 x5 x6; exact ih x0 x1 x2 x3 x4 x5 x6
    intro x0 x1 x2 x3 x4 x5 x6
    have h : ∀ g, exc E162 (it162 N) (loopOf Try.f162 3) (tabl [(0, (.v (.v false [(.sh 25 x0)]))), (6, (.v (.v false [(.bp 0 0)]))), (10, (.v (.v false [(.own 1)]))), (12, (.v (.v false [(.i .i64 x1)]))), (1, (.o (.box [(.s x2), (.i .i64 x3), (.i .i64 x4), (.s x5)]))), (3, (.o (.row 25 true x6)))]) (iterK g (canon (E162.keep 3)) K) = Pu.spec_l15Put.r3 N (fun x0 x1 x2 x3 x4 x5 x6 => (g (tabl [(0, (.v (.v false [(.sh 25 x0)]))), (6, (.v (.v false [(.bp 0 0)]))), (10, (.v (.v false [(.own 1)]))), (12, (.v (.v false [(.i .i64 x1)]))), (1, (.o (.box [(.s x2), (.i .i64 x3), (.i .i64 x4), (.s x5)]))), (3, (.o (.row 25 true x6)))]))) (fun y0 y1 y2 y3 y4 y5 y6 => (K (.exit 0) (tabl [(0, (.v (.v false [(.sh 25 y0)]))), (6, (.v (.v false [(.bp 0 0)]))), (10, (.v (.v false [(.own 1)]))), (12, (.v (.v false [(.i .i64 y1)]))), (1, (.o (.box [(.s y2), (.i .i64 y3), (.i .i64 y4), (.s y5)]))), (3, (.o (.row 25 true y6)))]))) x0 x1 x2 x3 x4 x5 x6 := by intro g; kernel_rfl
    refine (h _).trans ?_
    show Pu.spec_l15Put.r3 N (fun x0 x1 x2 x3 x4 x5 x6 => (iter (exc E162 (it162 N) (loopOf Try.f162 3)) (canon (E162.keep 3))  n (tabl [(0, (.v (.v false [(.sh 25 x0)]))), (6, (.v (.v false [(.bp 0 0)]))), (10, (.v (.v false [(.own 1)]))), (12, (.v (.v false [(.i .i64 x1)]))), (1, (.o (.box [(.s x2), (.i .i64 x3), (.i .i64 x4), (.s x5)]))), (3, (.o (.row 25 true x6)))]) K)) (fun y0 y1 y2 y3 y4 y5 y6 => (K (.exit 0) (tabl [(0, (.v (.v false [(.sh 25 y0)]))), (6, (.v (.v false [(.bp 0 0)]))), (10, (.v (.v false [(.own 1)]))), (12, (.v (.v false [(.i .i64 y1)]))), (1, (.o (.box [(.s y2), (.i .i64 y3), (.i .i64 y4), (.s y5)]))), (3, (.o (.row 25 true y6)))]))) x0 x1 x2 x3 x4 x5 x6 = _
    rw [e0]; rfl
theorem lo162_3 {R : Type} (N : Nat) : LoopOk E162 (it162 N (R := R)) (loopOf Try.f162 3) := by
  have e : firstRid (loopOf Try.f162 3) = 3 := by kernel_rfl
  intro L K r
  rw [e]
  intro h
  unfold it162 at h
  simp only [show Nat.beq 3 3 = true from rfl, cond_false, cond_true] at h
  refine tell_ok (Q := fun L => ∃ n, iter (exc E162 (it162 N) (loopOf Try.f162 3)) (canon (E162.keep 3)) n (tabl L) K = some r) h (fun xs h => ?_) (fun h => ?_)
  · (try dsimp only at h)
    split at h
    · exact ⟨N, ((e162_3 N K N) _ _ _ _ _ _ _).trans h⟩
    · cases h
  cases h
theorem e162_9 {R : Type} (N : Nat) (K : Ex → St → Option R) : ∀ n : Nat, (∀ x14 x15 x16 x17 x18 x19 x20, iter (exc E162 (it162 N) (loopOf Try.f162 9)) (canon (E162.keep 9))  n (tabl [(0, (.v (.v false [(.sh 25 x14)]))), (6, (.v (.v false [(.bp 0 0)]))), (10, (.v (.v false [(.own 1)]))), (14, (.v (.v false [(.i .i64 x15)]))), (1, (.o (.box [(.s x16), (.i .i64 x17), (.i .i64 x18), (.s x19)]))), (3, (.o (.row 25 true x20)))]) K = Pu.spec_l15Put.l9 N (fun y0 y1 y2 y3 y4 y5 y6 => (K (.exit 2) (tabl [(0, (.v (.v false [(.sh 25 y0)]))), (6, (.v (.v false [(.bp 0 0)]))), (10, (.v (.v false [(.own 1)]))), (14, (.v (.v false [(.i .i64 y1)]))), (1, (.o (.box [(.s y2), (.i .i64 y3), (.i .i64 y4), (.s y5)]))), (3, (.o (.row 25 true y6)))]))) n x14 x15 x16 x17 x18 x19 x20) := by
  intro n
  induction n with
  | zero => exact (fun _ _ _ _ _ _ _ => rfl)
  | succ n ih =>
    have e0 : (fun x14 x15 x16 x17 x18 x19 x20 => iter (exc E162 (it162 N) (loopOf Try.f162 9)) (canon (E162.keep 9))  n (tabl [(0, (.v (.v false [(.sh 25 x14)]))), (6, (.v (.v false [(.bp 0 0)]))), (10, (.v (.v false [(.own 1)]))), (14, (.v (.v false [(.i .i64 x15)]))), (1, (.o (.box [(.s x16), (.i .i64 x17), (.i .i64 x18), (.s x19)]))), (3, (.o (.row 25 true x20)))]) K) = Pu.spec_l15Put.l9 N (fun y0 y1 y2 y3 y4 y5 y6 => (K (.exit 2) (tabl [(0, (.v (.v false [(.sh 25 y0)]))), (6, (.v (.v false [(.bp 0 0)]))), (10, (.v (.v false [(.own 1)]))), (14, (.v (.v false [(.i .i64 y1)]))), (1, (.o (.box [(.s y2), (.i .i64 y3), (.i .i64 y4), (.s y5)]))), (3, (.o (.row 25 true y6)))]))) n := by funext x14 x15 x16 x17 x18 x19 x20; exact ih x14 x15 x16 x17 x18 x19 x20
    intro x14 x15 x16 x17 x18 x19 x20
    have h : ∀ g, exc E162 (it162 N) (loopOf Try.f162 9) (tabl [(0, (.v (.v false [(.sh 25 x14)]))), (6, (.v (.v false [(.bp 0 0)]))), (10, (.v (.v false [(.own 1)]))), (14, (.v (.v false [(.i .i64 x15)]))), (1, (.o (.box [(.s x16), (.i .i64 x17), (.i .i64 x18), (.s x19)]))), (3, (.o (.row 25 true x20)))]) (iterK g (canon (E162.keep 9)) K) = Pu.spec_l15Put.r9 N (fun x14 x15 x16 x17 x18 x19 x20 => (g (tabl [(0, (.v (.v false [(.sh 25 x14)]))), (6, (.v (.v false [(.bp 0 0)]))), (10, (.v (.v false [(.own 1)]))), (14, (.v (.v false [(.i .i64 x15)]))), (1, (.o (.box [(.s x16), (.i .i64 x17), (.i .i64 x18), (.s x19)]))), (3, (.o (.row 25 true x20)))]))) (fun y0 y1 y2 y3 y4 y5 y6 => (K (.exit 2) (tabl [(0, (.v (.v false [(.sh 25 y0)]))), (6, (.v (.v false [(.bp 0 0)]))), (10, (.v (.v false [(.own 1)]))), (14, (.v (.v false [(.i .i64 y1)]))), (1, (.o (.box [(.s y2), (.i .i64 y3), (.i .i64 y4), (.s y5)]))), (3, (.o (.row 25 true y6)))]))) x14 x15 x16 x17 x18 x19 x20 := by intro g; kernel_rfl
    refine (h _).trans ?_
    show Pu.spec_l15Put.r9 N (fun x14 x15 x16 x17 x18 x19 x20 => (iter (exc E162 (it162 N) (loopOf Try.f162 9)) (canon (E162.keep 9))  n (tabl [(0, (.v (.v false [(.sh 25 x14)]))), (6, (.v (.v false [(.bp 0 0)]))), (10, (.v (.v false [(.own 1)]))), (14, (.v (.v false [(.i .i64 x15)]))), (1, (.o (.box [(.s x16), (.i .i64 x17), (.i .i64 x18), (.s x19)]))), (3, (.o (.row 25 true x20)))]) K)) (fun y0 y1 y2 y3 y4 y5 y6 => (K (.exit 2) (tabl [(0, (.v (.v false [(.sh 25 y0)]))), (6, (.v (.v false [(.bp 0 0)]))), (10, (.v (.v false [(.own 1)]))), (14, (.v (.v false [(.i .i64 y1)]))), (1, (.o (.box [(.s y2), (.i .i64 y3), (.i .i64 y4), (.s y5)]))), (3, (.o (.row 25 true y6)))]))) x14 x15 x16 x17 x18 x19 x20 = _
    rw [e0]; rfl
theorem lo162_9 {R : Type} (N : Nat) : LoopOk E162 (it162 N (R := R)) (loopOf Try.f162 9) := by
  have e : firstRid (loopOf Try.f162 9) = 9 := by kernel_rfl
  intro L K r
  rw [e]
  intro h
  unfold it162 at h
  simp only [show Nat.beq 9 3 = false from rfl, show Nat.beq 9 9 = true from rfl, cond_false, cond_true] at h
  refine tell_ok (Q := fun L => ∃ n, iter (exc E162 (it162 N) (loopOf Try.f162 9)) (canon (E162.keep 9)) n (tabl L) K = some r) h (fun xs h => ?_) (fun h => ?_)
  · (try dsimp only at h)
    split at h
    · exact ⟨N, ((e162_9 N K N) _ _ _ _ _ _ _).trans h⟩
    · cases h
  cases h
def sp162 : List Arg → Option (Bool × Res)
  | [(.v false [(.sh 25 list0)]), (.v true [(.s e1_0), (.i .i64 e1_1), (.i .i64 e1_2), (.s e1_3)])] => some (Pu.spec_l15Put.c list0 e1_0 e1_1 e1_2 e1_3, ⟨[(.v false [(.ow 25 true (Pu.spec_l15Put.v list0 e1_0 e1_1 e1_2 e1_3))])], []⟩)
  | _ => none
theorem ok162 : FnOk Try.prog T 162 sp162 := by
  refine fn_ok (E := E162) hE call_nil hM Try.func162 (code := (Try.f162.body.getD .skip)) (by kernel_rfl) (by kernel_rfl) ?_
  have key : ∀ (list0 : Row) (e1_0 : ByteArray) (e1_1 : Int) (e1_2 : Int) (e1_3 : ByteArray), Pu.spec_l15Put.c list0 e1_0 e1_1 e1_2 e1_3 = true → ∃ it : It Res, (∀ c ∈ loopsOf (Try.f162.body.getD .skip), LoopOk E162 it c) ∧ body E162 it Try.f162 [(.v false [(.sh 25 list0)]), (.v true [(.s e1_0), (.i .i64 e1_1), (.i .i64 e1_2), (.s e1_3)])] = some ⟨[(.v false [(.ow 25 true (Pu.spec_l15Put.v list0 e1_0 e1_1 e1_2 e1_3))])], []⟩ := by
    intro list0 e1_0 e1_1 e1_2 e1_3  h1
    obtain ⟨N, hN⟩ := Pu.spec_l15Put.b_eq (R := Res) (fun r0 => some ⟨[(.v false [(.ow 25 true r0)])], []⟩) list0 e1_0 e1_1 e1_2 e1_3 h1
    have hl : loopsOf (Try.f162.body.getD .skip) = [loopOf Try.f162 3, loopOf Try.f162 9] := by kernel_rfl
    refine ⟨it162 N, by rw [hl]; exact (loops_cons (lo162_3 N) (loops_cons (lo162_9 N) loops_nil)), ?_⟩
    refine Eq.trans (show body E162 (it162 N) Try.f162 [(.v false [(.sh 25 list0)]), (.v true [(.s e1_0), (.i .i64 e1_1), (.i .i64 e1_2), (.s e1_3)])] = Pu.spec_l15Put.b N (fun r0 => some ⟨[(.v false [(.ow 25 true r0)])], []⟩) list0 e1_0 e1_1 e1_2 e1_3 by kernel_rfl) hN
  intro args r h
  unfold sp162 at h
  split at h
  · injection h with h
    injection h with h1 h2
    subst h2
    exact ⟨by kernel_rfl, fun hf => ⟨of_decide_eq_true (by kernel_rfl), key _ _ _ _ _ h1⟩⟩
  · cases h

end Go.FG.Se

namespace Go.FG.Se
open Go.Proofs
def E85 : Env := { toTab := T, call := Go.FG.callIn [(148, sp148), (149, sp149), (161, sp161), (31, sp31), (162, sp162)], mode := Go.FG.modeIn md, keep := Go.FG.keepIn [(7, [3, 6, 8])], tk := fun n => Go.FG.memB n [], om := Go.FG.omIn [] }
def it85 (N : Nat) {R : Type} : It R := fun rid f cn L K => bif Nat.beq rid 7 then (tell [(6, (.v (.v false [(.own 0)]))), (12, (.v (.v false [(.own 1)]))), (16, (.v (.v false [(.i .i64 0)]))), (1, (.o (.row 25 true []))), (3, (.o (.row 9 true [])))] (fun | [.I x0, .R x1, .R x2] => Pu.spec_FindKept.l7 N (fun y0 y1 y2 => (K (.exit 0) (tabl [(6, (.v (.v false [(.own 0)]))), (12, (.v (.v false [(.own 1)]))), (16, (.v (.v false [(.i .i64 y0)]))), (1, (.o (.row 25 true y1))), (3, (.o (.row 9 true y2)))]))) N x0 x1 x2 | _ => none) L (none)) else none
theorem e85_7 {R : Type} (N : Nat) (K : Ex → St → Option R) : ∀ n : Nat, (∀ x0 x1 x2, iter (exc E85 (it85 N) (loopOf Try.f85 7)) (canon (E85.keep 7))  n (tabl [(6, (.v (.v false [(.own 0)]))), (12, (.v (.v false [(.own 1)]))), (16, (.v (.v false [(.i .i64 x0)]))), (1, (.o (.row 25 true x1))), (3, (.o (.row 9 true x2)))]) K = Pu.spec_FindKept.l7 N (fun y0 y1 y2 => (K (.exit 0) (tabl [(6, (.v (.v false [(.own 0)]))), (12, (.v (.v false [(.own 1)]))), (16, (.v (.v false [(.i .i64 y0)]))), (1, (.o (.row 25 true y1))), (3, (.o (.row 9 true y2)))]))) n x0 x1 x2) := by
  intro n
  induction n with
  | zero => exact (fun _ _ _ => rfl)
  | succ n ih =>
    have e0 : (fun x0 x1 x2 => iter (exc E85 (it85 N) (loopOf Try.f85 7)) (canon (E85.keep 7))  n (tabl [(6, (.v (.v false [(.own 0)]))), (12, (.v (.v false [(.own 1)]))), (16, (.v (.v false [(.i .i64 x0)]))), (1, (.o (.row 25 true x1))), (3, (.o (.row 9 true x2)))]) K) = Pu.spec_FindKept.l7 N (fun y0 y1 y2 => (K (.exit 0) (tabl [(6, (.v (.v false [(.own 0)]))), (12, (.v (.v false [(.own 1)]))), (16, (.v (.v false [(.i .i64 y0)]))), (1, (.o (.row 25 true y1))), (3, (.o (.row 9 true y2)))]))) n := by funext x0 x1 x2; exact ih x0 x1 x2
    intro x0 x1 x2
    have h : ∀ g, exc E85 (it85 N) (loopOf Try.f85 7) (tabl [(6, (.v (.v false [(.own 0)]))), (12, (.v (.v false [(.own 1)]))), (16, (.v (.v false [(.i .i64 x0)]))), (1, (.o (.row 25 true x1))), (3, (.o (.row 9 true x2)))]) (iterK g (canon (E85.keep 7)) K) = Pu.spec_FindKept.r7 N (fun x0 x1 x2 => (g (tabl [(6, (.v (.v false [(.own 0)]))), (12, (.v (.v false [(.own 1)]))), (16, (.v (.v false [(.i .i64 x0)]))), (1, (.o (.row 25 true x1))), (3, (.o (.row 9 true x2)))]))) (fun y0 y1 y2 => (K (.exit 0) (tabl [(6, (.v (.v false [(.own 0)]))), (12, (.v (.v false [(.own 1)]))), (16, (.v (.v false [(.i .i64 y0)]))), (1, (.o (.row 25 true y1))), (3, (.o (.row 9 true y2)))]))) x0 x1 x2 := by intro g; kernel_rfl
    refine (h _).trans ?_
    show Pu.spec_FindKept.r7 N (fun x0 x1 x2 => (iter (exc E85 (it85 N) (loopOf Try.f85 7)) (canon (E85.keep 7))  n (tabl [(6, (.v (.v false [(.own 0)]))), (12, (.v (.v false [(.own 1)]))), (16, (.v (.v false [(.i .i64 x0)]))), (1, (.o (.row 25 true x1))), (3, (.o (.row 9 true x2)))]) K)) (fun y0 y1 y2 => (K (.exit 0) (tabl [(6, (.v (.v false [(.own 0)]))), (12, (.v (.v false [(.own 1)]))), (16, (.v (.v false [(.i .i64 y0)]))), (1, (.o (.row 25 true y1))), (3, (.o (.row 9 true y2)))]))) x0 x1 x2 = _
    rw [e0]; rfl
theorem lo85_7 {R : Type} (N : Nat) : LoopOk E85 (it85 N (R := R)) (loopOf Try.f85 7) := by
  have e : firstRid (loopOf Try.f85 7) = 7 := by kernel_rfl
  intro L K r
  rw [e]
  intro h
  unfold it85 at h
  simp only [show Nat.beq 7 7 = true from rfl, cond_false, cond_true] at h
  refine tell_ok (Q := fun L => ∃ n, iter (exc E85 (it85 N) (loopOf Try.f85 7)) (canon (E85.keep 7)) n (tabl L) K = some r) h (fun xs h => ?_) (fun h => ?_)
  · (try dsimp only at h)
    split at h
    · exact ⟨N, ((e85_7 N K N) _ _ _).trans h⟩
    · cases h
  cases h
def sp85 : List Arg → Option (Bool × Res)
  | [(.v true [(.sh 231 d0)])] => some (Pu.spec_FindKept.c d0, ⟨[(.v false [(.ow 25 true (Pu.spec_FindKept.v d0))])], []⟩)
  | _ => none
theorem ok85 : FnOk Try.prog T 85 sp85 := by
  refine fn_ok (E := E85) hE (call_cons ok148 (call_cons ok149 (call_cons ok161 (call_cons ok31 (call_cons ok162 call_nil))))) hM Try.func85 (code := (Try.f85.body.getD .skip)) (by kernel_rfl) (by kernel_rfl) ?_
  have key : ∀ (d0 : Row), Pu.spec_FindKept.c d0 = true → ∃ it : It Res, (∀ c ∈ loopsOf (Try.f85.body.getD .skip), LoopOk E85 it c) ∧ body E85 it Try.f85 [(.v true [(.sh 231 d0)])] = some ⟨[(.v false [(.ow 25 true (Pu.spec_FindKept.v d0))])], []⟩ := by
    intro d0  h1
    obtain ⟨N, hN⟩ := Pu.spec_FindKept.b_eq (R := Res) (fun r0 => some ⟨[(.v false [(.ow 25 true r0)])], []⟩) d0 h1
    have hl : loopsOf (Try.f85.body.getD .skip) = [loopOf Try.f85 7] := by kernel_rfl
    refine ⟨it85 N, by rw [hl]; exact (loops_cons (lo85_7 N) loops_nil), ?_⟩
    refine Eq.trans (show body E85 (it85 N) Try.f85 [(.v true [(.sh 231 d0)])] = Pu.spec_FindKept.b N (fun r0 => some ⟨[(.v false [(.ow 25 true r0)])], []⟩) d0 by kernel_rfl) hN
  intro args r h
  unfold sp85 at h
  split at h
  · injection h with h
    injection h with h1 h2
    subst h2
    exact ⟨by kernel_rfl, fun hf => ⟨of_decide_eq_true (by kernel_rfl), key _ h1⟩⟩
  · cases h

end Go.FG.Se

namespace Go.FG.Se
open Go.Proofs
def E94 : Env := { toTab := T, call := Go.FG.callIn [], mode := Go.FG.modeIn md, keep := Go.FG.keepIn [], tk := fun n => Go.FG.memB n [], om := Go.FG.omIn [] }
def sp94 : List Arg → Option (Bool × Res)
  | [(.v false [(.i .i64 n0)]), (.v false [(.i .i64 low1)]), (.v false [(.i .i64 high2)])] => some (true, ⟨[(.v false [(.b (Pu.impl_within.v n0 low1 high2))])], []⟩)
  | _ => none
theorem ok94 : FnOk Try.prog T 94 sp94 := by
  refine fn_ok (E := E94) hE call_nil hM Try.func94 (code := (Try.f94.body.getD .skip)) (by kernel_rfl) (by kernel_rfl) ?_
  have key : ∀ (n0 : Int) (low1 : Int) (high2 : Int), ∃ it : It Res, (∀ c ∈ loopsOf (Try.f94.body.getD .skip), LoopOk E94 it c) ∧ body E94 it Try.f94 [(.v false [(.i .i64 n0)]), (.v false [(.i .i64 low1)]), (.v false [(.i .i64 high2)])] = some ⟨[(.v false [(.b (Pu.impl_within.v n0 low1 high2))])], []⟩ := by
    intro n0 low1 high2 
    have hN := Pu.impl_within.b_eq (R := Res) (fun r0 => some ⟨[(.v false [(.b r0)])], []⟩) n0 low1 high2
    have hl : loopsOf (Try.f94.body.getD .skip) = [] := by kernel_rfl
    refine ⟨iterN 0, by rw [hl]; exact loops_nil, ?_⟩
    refine Eq.trans (show body E94 (iterN 0) Try.f94 [(.v false [(.i .i64 n0)]), (.v false [(.i .i64 low1)]), (.v false [(.i .i64 high2)])] = Pu.impl_within.b (fun r0 => some ⟨[(.v false [(.b r0)])], []⟩) n0 low1 high2 by kernel_rfl) hN
  intro args r h
  unfold sp94 at h
  split at h
  · injection h with h
    injection h with h1 h2
    subst h2
    exact ⟨by kernel_rfl, fun hf => ⟨of_decide_eq_true (by kernel_rfl), key _ _ _⟩⟩
  · cases h

end Go.FG.Se

namespace Go.FG.Se
open Go.Proofs
def E151 : Env := { toTab := T, call := Go.FG.callIn [(94, sp94)], mode := Go.FG.modeIn md, keep := Go.FG.keepIn [(2, [1, 2, 6, 7, 8])], tk := fun n => Go.FG.memB n [], om := Go.FG.omIn [] }
def it151 (N : Nat) {R : Type} : It R := fun rid f cn L K => bif Nat.beq rid 2 then (tell [(2, (.v (.v false [(.bp 0 0)]))), (4, (.v (.v false [(.b false)]))), (12, (.v (.v false [(.sh 231 [])]))), (14, (.v (.v false [(.i .i64 0)]))), (16, (.v (.v false [(.i .i64 0)]))), (1, (.o (.box [(.sh 231 [])])))] (fun | [.B x0, .R x1, .I x2, .I x3, .R x4] => Pu.impl_DiskOk.l2 N (fun y0 y1 y2 y3 y4 => (K .ret (tabl [(2, (.v (.v false [(.bp 0 0)]))), (4, (.v (.v false [(.b y0)]))), (12, (.v (.v false [(.sh 231 y1)]))), (14, (.v (.v false [(.i .i64 y2)]))), (16, (.v (.v false [(.i .i64 y3)]))), (1, (.o (.box [(.sh 231 y4)])))]))) (fun y0 y1 y2 y3 y4 => (K (.exit 0) (tabl [(2, (.v (.v false [(.bp 0 0)]))), (4, (.v (.v false [(.b y0)]))), (12, (.v (.v false [(.sh 231 y1)]))), (14, (.v (.v false [(.i .i64 y2)]))), (16, (.v (.v false [(.i .i64 y3)]))), (1, (.o (.box [(.sh 231 y4)])))]))) N x0 x1 x2 x3 x4 | _ => none) L (none)) else none
theorem e151_2 {R : Type} (N : Nat) (K : Ex → St → Option R) : ∀ n : Nat, (∀ x0 x1 x2 x3 x4, iter (exc E151 (it151 N) (loopOf Try.f151 2)) (canon (E151.keep 2))  n (tabl [(2, (.v (.v false [(.bp 0 0)]))), (4, (.v (.v false [(.b x0)]))), (12, (.v (.v false [(.sh 231 x1)]))), (14, (.v (.v false [(.i .i64 x2)]))), (16, (.v (.v false [(.i .i64 x3)]))), (1, (.o (.box [(.sh 231 x4)])))]) K = Pu.impl_DiskOk.l2 N (fun y0 y1 y2 y3 y4 => (K .ret (tabl [(2, (.v (.v false [(.bp 0 0)]))), (4, (.v (.v false [(.b y0)]))), (12, (.v (.v false [(.sh 231 y1)]))), (14, (.v (.v false [(.i .i64 y2)]))), (16, (.v (.v false [(.i .i64 y3)]))), (1, (.o (.box [(.sh 231 y4)])))]))) (fun y0 y1 y2 y3 y4 => (K (.exit 0) (tabl [(2, (.v (.v false [(.bp 0 0)]))), (4, (.v (.v false [(.b y0)]))), (12, (.v (.v false [(.sh 231 y1)]))), (14, (.v (.v false [(.i .i64 y2)]))), (16, (.v (.v false [(.i .i64 y3)]))), (1, (.o (.box [(.sh 231 y4)])))]))) n x0 x1 x2 x3 x4) := by
  intro n
  induction n with
  | zero => exact (fun _ _ _ _ _ => rfl)
  | succ n ih =>
    have e0 : (fun x0 x1 x2 x3 x4 => iter (exc E151 (it151 N) (loopOf Try.f151 2)) (canon (E151.keep 2))  n (tabl [(2, (.v (.v false [(.bp 0 0)]))), (4, (.v (.v false [(.b x0)]))), (12, (.v (.v false [(.sh 231 x1)]))), (14, (.v (.v false [(.i .i64 x2)]))), (16, (.v (.v false [(.i .i64 x3)]))), (1, (.o (.box [(.sh 231 x4)])))]) K) = Pu.impl_DiskOk.l2 N (fun y0 y1 y2 y3 y4 => (K .ret (tabl [(2, (.v (.v false [(.bp 0 0)]))), (4, (.v (.v false [(.b y0)]))), (12, (.v (.v false [(.sh 231 y1)]))), (14, (.v (.v false [(.i .i64 y2)]))), (16, (.v (.v false [(.i .i64 y3)]))), (1, (.o (.box [(.sh 231 y4)])))]))) (fun y0 y1 y2 y3 y4 => (K (.exit 0) (tabl [(2, (.v (.v false [(.bp 0 0)]))), (4, (.v (.v false [(.b y0)]))), (12, (.v (.v false [(.sh 231 y1)]))), (14, (.v (.v false [(.i .i64 y2)]))), (16, (.v (.v false [(.i .i64 y3)]))), (1, (.o (.box [(.sh 231 y4)])))]))) n := by funext x0 x1 x2 x3 x4; exact ih x0 x1 x2 x3 x4
    intro x0 x1 x2 x3 x4
    have h : ∀ g, exc E151 (it151 N) (loopOf Try.f151 2) (tabl [(2, (.v (.v false [(.bp 0 0)]))), (4, (.v (.v false [(.b x0)]))), (12, (.v (.v false [(.sh 231 x1)]))), (14, (.v (.v false [(.i .i64 x2)]))), (16, (.v (.v false [(.i .i64 x3)]))), (1, (.o (.box [(.sh 231 x4)])))]) (iterK g (canon (E151.keep 2)) K) = Pu.impl_DiskOk.r2 N (fun x0 x1 x2 x3 x4 => (g (tabl [(2, (.v (.v false [(.bp 0 0)]))), (4, (.v (.v false [(.b x0)]))), (12, (.v (.v false [(.sh 231 x1)]))), (14, (.v (.v false [(.i .i64 x2)]))), (16, (.v (.v false [(.i .i64 x3)]))), (1, (.o (.box [(.sh 231 x4)])))]))) (fun y0 y1 y2 y3 y4 => (K .ret (tabl [(2, (.v (.v false [(.bp 0 0)]))), (4, (.v (.v false [(.b y0)]))), (12, (.v (.v false [(.sh 231 y1)]))), (14, (.v (.v false [(.i .i64 y2)]))), (16, (.v (.v false [(.i .i64 y3)]))), (1, (.o (.box [(.sh 231 y4)])))]))) (fun y0 y1 y2 y3 y4 => (K (.exit 0) (tabl [(2, (.v (.v false [(.bp 0 0)]))), (4, (.v (.v false [(.b y0)]))), (12, (.v (.v false [(.sh 231 y1)]))), (14, (.v (.v false [(.i .i64 y2)]))), (16, (.v (.v false [(.i .i64 y3)]))), (1, (.o (.box [(.sh 231 y4)])))]))) x0 x1 x2 x3 x4 := by intro g; kernel_rfl
    refine (h _).trans ?_
    show Pu.impl_DiskOk.r2 N (fun x0 x1 x2 x3 x4 => (iter (exc E151 (it151 N) (loopOf Try.f151 2)) (canon (E151.keep 2))  n (tabl [(2, (.v (.v false [(.bp 0 0)]))), (4, (.v (.v false [(.b x0)]))), (12, (.v (.v false [(.sh 231 x1)]))), (14, (.v (.v false [(.i .i64 x2)]))), (16, (.v (.v false [(.i .i64 x3)]))), (1, (.o (.box [(.sh 231 x4)])))]) K)) (fun y0 y1 y2 y3 y4 => (K .ret (tabl [(2, (.v (.v false [(.bp 0 0)]))), (4, (.v (.v false [(.b y0)]))), (12, (.v (.v false [(.sh 231 y1)]))), (14, (.v (.v false [(.i .i64 y2)]))), (16, (.v (.v false [(.i .i64 y3)]))), (1, (.o (.box [(.sh 231 y4)])))]))) (fun y0 y1 y2 y3 y4 => (K (.exit 0) (tabl [(2, (.v (.v false [(.bp 0 0)]))), (4, (.v (.v false [(.b y0)]))), (12, (.v (.v false [(.sh 231 y1)]))), (14, (.v (.v false [(.i .i64 y2)]))), (16, (.v (.v false [(.i .i64 y3)]))), (1, (.o (.box [(.sh 231 y4)])))]))) x0 x1 x2 x3 x4 = _
    rw [e0]; rfl
theorem lo151_2 {R : Type} (N : Nat) : LoopOk E151 (it151 N (R := R)) (loopOf Try.f151 2) := by
  have e : firstRid (loopOf Try.f151 2) = 2 := by kernel_rfl
  intro L K r
  rw [e]
  intro h
  unfold it151 at h
  simp only [show Nat.beq 2 2 = true from rfl, cond_false, cond_true] at h
  refine tell_ok (Q := fun L => ∃ n, iter (exc E151 (it151 N) (loopOf Try.f151 2)) (canon (E151.keep 2)) n (tabl L) K = some r) h (fun xs h => ?_) (fun h => ?_)
  · (try dsimp only at h)
    split at h
    · exact ⟨N, ((e151_2 N K N) _ _ _ _ _).trans h⟩
    · cases h
  cases h
def sp151 : List Arg → Option (Bool × Res)
  | [(.v true [(.sh 231 d0)])] => some (Pu.impl_DiskOk.c d0, ⟨[(.v false [(.b (Pu.impl_DiskOk.v d0))])], []⟩)
  | _ => none
theorem ok151 : FnOk Try.prog T 151 sp151 := by
  refine fn_ok (E := E151) hE (call_cons ok94 call_nil) hM Try.func151 (code := (Try.f151.body.getD .skip)) (by kernel_rfl) (by kernel_rfl) ?_
  have key : ∀ (d0 : Row), Pu.impl_DiskOk.c d0 = true → ∃ it : It Res, (∀ c ∈ loopsOf (Try.f151.body.getD .skip), LoopOk E151 it c) ∧ body E151 it Try.f151 [(.v true [(.sh 231 d0)])] = some ⟨[(.v false [(.b (Pu.impl_DiskOk.v d0))])], []⟩ := by
    intro d0  h1
    obtain ⟨N, hN⟩ := Pu.impl_DiskOk.b_eq (R := Res) (fun r0 => some ⟨[(.v false [(.b r0)])], []⟩) d0 h1
    have hl : loopsOf (Try.f151.body.getD .skip) = [loopOf Try.f151 2] := by kernel_rfl
    refine ⟨it151 N, by rw [hl]; exact (loops_cons (lo151_2 N) loops_nil), ?_⟩
    refine Eq.trans (show body E151 (it151 N) Try.f151 [(.v true [(.sh 231 d0)])] = Pu.impl_DiskOk.b N (fun r0 => some ⟨[(.v false [(.b r0)])], []⟩) d0 by kernel_rfl) hN
  intro args r h
  unfold sp151 at h
  split at h
  · injection h with h
    injection h with h1 h2
    subst h2
    exact ⟨by kernel_rfl, fun hf => ⟨of_decide_eq_true (by kernel_rfl), key _ h1⟩⟩
  · cases h

end Go.FG.Se

namespace Go.FG.Se
open Go.Proofs
def E217 : Env := { toTab := T, call := Go.FG.callIn [], mode := Go.FG.modeIn md, keep := Go.FG.keepIn [], tk := fun n => Go.FG.memB n [], om := Go.FG.omIn [] }
def sp217 : List Arg → Option (Bool × Res)
  | [(.v true [(.s f0_0), (.s f0_1), (.i .i64 f0_2)]), (.fb [(.s name1)])] => some (true, ⟨[(.v false [(.b (Pu.impl_placeOf_1.v f0_0 f0_1 f0_2 name1))])], []⟩)
  | _ => none
theorem ok217 : FnOk Try.prog T 217 sp217 := by
  refine fn_ok (E := E217) hE call_nil hM Try.func217 (code := (Try.f217.body.getD .skip)) (by kernel_rfl) (by kernel_rfl) ?_
  have key : ∀ (f0_0 : ByteArray) (f0_1 : ByteArray) (f0_2 : Int) (name1 : ByteArray), ∃ it : It Res, (∀ c ∈ loopsOf (Try.f217.body.getD .skip), LoopOk E217 it c) ∧ body E217 it Try.f217 [(.v true [(.s f0_0), (.s f0_1), (.i .i64 f0_2)]), (.fb [(.s name1)])] = some ⟨[(.v false [(.b (Pu.impl_placeOf_1.v f0_0 f0_1 f0_2 name1))])], []⟩ := by
    intro f0_0 f0_1 f0_2 name1 
    have hN := Pu.impl_placeOf_1.b_eq (R := Res) (fun r0 => some ⟨[(.v false [(.b r0)])], []⟩) f0_0 f0_1 f0_2 name1
    have hl : loopsOf (Try.f217.body.getD .skip) = [] := by kernel_rfl
    refine ⟨iterN 0, by rw [hl]; exact loops_nil, ?_⟩
    refine Eq.trans (show body E217 (iterN 0) Try.f217 [(.v true [(.s f0_0), (.s f0_1), (.i .i64 f0_2)]), (.fb [(.s name1)])] = Pu.impl_placeOf_1.b (fun r0 => some ⟨[(.v false [(.b r0)])], []⟩) f0_0 f0_1 f0_2 name1 by kernel_rfl) hN
  intro args r h
  unfold sp217 at h
  split at h
  · injection h with h
    injection h with h1 h2
    subst h2
    exact ⟨by kernel_rfl, fun hf => ⟨of_decide_eq_true (by kernel_rfl), key _ _ _ _⟩⟩
  · cases h

end Go.FG.Se

namespace Go.FG.Se
open Go.Proofs
def E216a : Env := { toTab := T, call := Go.FG.callIn [(217, sp217)], mode := Go.FG.modeIn md, keep := Go.FG.keepIn [(2, [0, 1, 4, 7, 8])], tk := fun n => Go.FG.memB n [], om := Go.FG.omIn [] }
def it216a (N : Nat) {R : Type} : It R := fun rid f cn L K => bif Nat.beq rid 2 then (tell [(0, (.v (.v false [(.sh 231 [])]))), (2, (.v (.v false [(.fn 217 [[(.s ⟨#[]⟩)]])]))), (8, (.v (.v false [(.i .i64 0)]))), (14, (.v (.v false [(.i .i64 0)]))), (16, (.v (.v false [(.i .i64 0)])))] (fun | [.R x0, .S x1, .I x2, .I x3, .I x4] => Pu.slices_IndexFunc_Filea.l2 N (fun y0 y1 y2 y3 y4 => (K .ret (tabl [(0, (.v (.v false [(.sh 231 y0)]))), (2, (.v (.v false [(.fn 217 [[(.s y1)]])]))), (8, (.v (.v false [(.i .i64 y2)]))), (14, (.v (.v false [(.i .i64 y3)]))), (16, (.v (.v false [(.i .i64 y4)])))]))) (fun y0 y1 y2 y3 y4 => (K (.exit 0) (tabl [(0, (.v (.v false [(.sh 231 y0)]))), (2, (.v (.v false [(.fn 217 [[(.s y1)]])]))), (8, (.v (.v false [(.i .i64 y2)]))), (14, (.v (.v false [(.i .i64 y3)]))), (16, (.v (.v false [(.i .i64 y4)])))]))) N x0 x1 x2 x3 x4 | _ => none) L (none)) else none
theorem e216a_2 {R : Type} (N : Nat) (K : Ex → St → Option R) : ∀ n : Nat, (∀ x0 x1 x2 x3 x4, iter (exc E216a (it216a N) (loopOf Try.f216 2)) (canon (E216a.keep 2))  n (tabl [(0, (.v (.v false [(.sh 231 x0)]))), (2, (.v (.v false [(.fn 217 [[(.s x1)]])]))), (8, (.v (.v false [(.i .i64 x2)]))), (14, (.v (.v false [(.i .i64 x3)]))), (16, (.v (.v false [(.i .i64 x4)])))]) K = Pu.slices_IndexFunc_Filea.l2 N (fun y0 y1 y2 y3 y4 => (K .ret (tabl [(0, (.v (.v false [(.sh 231 y0)]))), (2, (.v (.v false [(.fn 217 [[(.s y1)]])]))), (8, (.v (.v false [(.i .i64 y2)]))), (14, (.v (.v false [(.i .i64 y3)]))), (16, (.v (.v false [(.i .i64 y4)])))]))) (fun y0 y1 y2 y3 y4 => (K (.exit 0) (tabl [(0, (.v (.v false [(.sh 231 y0)]))), (2, (.v (.v false [(.fn 217 [[(.s y1)]])]))), (8, (.v (.v false [(.i .i64 y2)]))), (14, (.v (.v false [(.i .i64 y3)]))), (16, (.v (.v false [(.i .i64 y4)])))]))) n x0 x1 x2 x3 x4) := by
  intro n
  induction n with
  | zero => exact (fun _ _ _ _ _ => rfl)
  | succ n ih =>
    have e0 : (fun x0 x1 x2 x3 x4 => iter (exc E216a (it216a N) (loopOf Try.f216 2)) (canon (E216a.keep 2))  n (tabl [(0, (.v (.v false [(.sh 231 x0)]))), (2, (.v (.v false [(.fn 217 [[(.s x1)]])]))), (8, (.v (.v false [(.i .i64 x2)]))), (14, (.v (.v false [(.i .i64 x3)]))), (16, (.v (.v false [(.i .i64 x4)])))]) K) = Pu.slices_IndexFunc_Filea.l2 N (fun y0 y1 y2 y3 y4 => (K .ret (tabl [(0, (.v (.v false [(.sh 231 y0)]))), (2, (.v (.v false [(.fn 217 [[(.s y1)]])]))), (8, (.v (.v false [(.i .i64 y2)]))), (14, (.v (.v false [(.i .i64 y3)]))), (16, (.v (.v false [(.i .i64 y4)])))]))) (fun y0 y1 y2 y3 y4 => (K (.exit 0) (tabl [(0, (.v (.v false [(.sh 231 y0)]))), (2, (.v (.v false [(.fn 217 [[(.s y1)]])]))), (8, (.v (.v false [(.i .i64 y2)]))), (14, (.v (.v false [(.i .i64 y3)]))), (16, (.v (.v false [(.i .i64 y4)])))]))) n := by funext x0 x1 x2 x3 x4; exact ih x0 x1 x2 x3 x4
    intro x0 x1 x2 x3 x4
    have h : ∀ g, exc E216a (it216a N) (loopOf Try.f216 2) (tabl [(0, (.v (.v false [(.sh 231 x0)]))), (2, (.v (.v false [(.fn 217 [[(.s x1)]])]))), (8, (.v (.v false [(.i .i64 x2)]))), (14, (.v (.v false [(.i .i64 x3)]))), (16, (.v (.v false [(.i .i64 x4)])))]) (iterK g (canon (E216a.keep 2)) K) = Pu.slices_IndexFunc_Filea.r2 N (fun x0 x1 x2 x3 x4 => (g (tabl [(0, (.v (.v false [(.sh 231 x0)]))), (2, (.v (.v false [(.fn 217 [[(.s x1)]])]))), (8, (.v (.v false [(.i .i64 x2)]))), (14, (.v (.v false [(.i .i64 x3)]))), (16, (.v (.v false [(.i .i64 x4)])))]))) (fun y0 y1 y2 y3 y4 => (K .ret (tabl [(0, (.v (.v false [(.sh 231 y0)]))), (2, (.v (.v false [(.fn 217 [[(.s y1)]])]))), (8, (.v (.v false [(.i .i64 y2)]))), (14, (.v (.v false [(.i .i64 y3)]))), (16, (.v (.v false [(.i .i64 y4)])))]))) (fun y0 y1 y2 y3 y4 => (K (.exit 0) (tabl [(0, (.v (.v false [(.sh 231 y0)]))), (2, (.v (.v false [(.fn 217 [[(.s y1)]])]))), (8, (.v (.v false [(.i .i64 y2)]))), (14, (.v (.v false [(.i .i64 y3)]))), (16, (.v (.v false [(.i .i64 y4)])))]))) x0 x1 x2 x3 x4 := by intro g; kernel_rfl
    refine (h _).trans ?_
    show Pu.slices_IndexFunc_Filea.r2 N (fun x0 x1 x2 x3 x4 => (iter (exc E216a (it216a N) (loopOf Try.f216 2)) (canon (E216a.keep 2))  n (tabl [(0, (.v (.v false [(.sh 231 x0)]))), (2, (.v (.v false [(.fn 217 [[(.s x1)]])]))), (8, (.v (.v false [(.i .i64 x2)]))), (14, (.v (.v false [(.i .i64 x3)]))), (16, (.v (.v false [(.i .i64 x4)])))]) K)) (fun y0 y1 y2 y3 y4 => (K .ret (tabl [(0, (.v (.v false [(.sh 231 y0)]))), (2, (.v (.v false [(.fn 217 [[(.s y1)]])]))), (8, (.v (.v false [(.i .i64 y2)]))), (14, (.v (.v false [(.i .i64 y3)]))), (16, (.v (.v false [(.i .i64 y4)])))]))) (fun y0 y1 y2 y3 y4 => (K (.exit 0) (tabl [(0, (.v (.v false [(.sh 231 y0)]))), (2, (.v (.v false [(.fn 217 [[(.s y1)]])]))), (8, (.v (.v false [(.i .i64 y2)]))), (14, (.v (.v false [(.i .i64 y3)]))), (16, (.v (.v false [(.i .i64 y4)])))]))) x0 x1 x2 x3 x4 = _
    rw [e0]; rfl
theorem lo216a_2 {R : Type} (N : Nat) : LoopOk E216a (it216a N (R := R)) (loopOf Try.f216 2) := by
  have e : firstRid (loopOf Try.f216 2) = 2 := by kernel_rfl
  intro L K r
  rw [e]
  intro h
  unfold it216a at h
  simp only [show Nat.beq 2 2 = true from rfl, cond_false, cond_true] at h
  refine tell_ok (Q := fun L => ∃ n, iter (exc E216a (it216a N) (loopOf Try.f216 2)) (canon (E216a.keep 2)) n (tabl L) K = some r) h (fun xs h => ?_) (fun h => ?_)
  · (try dsimp only at h)
    split at h
    · exact ⟨N, ((e216a_2 N K N) _ _ _ _ _).trans h⟩
    · cases h
  cases h
def sp216a : List Arg → Option (Bool × Res)
  | [(.v false [(.sh 231 s0)]), (.v false [(.fn 217 [[(.s name1)]])])] => some (Pu.slices_IndexFunc_Filea.c s0 name1, ⟨[(.v false [(.i .i64 (Pu.slices_IndexFunc_Filea.v s0 name1))])], []⟩)
  | _ => none
theorem ok216a : FnOk Try.prog T 216 sp216a := by
  refine fn_ok (E := E216a) hE (call_cons ok217 call_nil) hM Try.func216 (code := (Try.f216.body.getD .skip)) (by kernel_rfl) (by kernel_rfl) ?_
  have key : ∀ (s0 : Row) (name1 : ByteArray), Pu.slices_IndexFunc_Filea.c s0 name1 = true → ∃ it : It Res, (∀ c ∈ loopsOf (Try.f216.body.getD .skip), LoopOk E216a it c) ∧ body E216a it Try.f216 [(.v false [(.sh 231 s0)]), (.v false [(.fn 217 [[(.s name1)]])])] = some ⟨[(.v false [(.i .i64 (Pu.slices_IndexFunc_Filea.v s0 name1))])], []⟩ := by
    intro s0 name1  h1
    obtain ⟨N, hN⟩ := Pu.slices_IndexFunc_Filea.b_eq (R := Res) (fun r0 => some ⟨[(.v false [(.i .i64 r0)])], []⟩) s0 name1 h1
    have hl : loopsOf (Try.f216.body.getD .skip) = [loopOf Try.f216 2] := by kernel_rfl
    refine ⟨it216a N, by rw [hl]; exact (loops_cons (lo216a_2 N) loops_nil), ?_⟩
    refine Eq.trans (show body E216a (it216a N) Try.f216 [(.v false [(.sh 231 s0)]), (.v false [(.fn 217 [[(.s name1)]])])] = Pu.slices_IndexFunc_Filea.b N (fun r0 => some ⟨[(.v false [(.i .i64 r0)])], []⟩) s0 name1 by kernel_rfl) hN
  intro args r h
  unfold sp216a at h
  split at h
  · injection h with h
    injection h with h1 h2
    subst h2
    exact ⟨by kernel_rfl, fun hf => ⟨of_decide_eq_true (by kernel_rfl), key _ _ h1⟩⟩
  · cases h

end Go.FG.Se

namespace Go.FG.Se
open Go.Proofs
def E203 : Env := { toTab := T, call := Go.FG.callIn [(216, sp216a)], mode := Go.FG.modeIn md, keep := Go.FG.keepIn [], tk := fun n => Go.FG.memB n [], om := Go.FG.omIn [] }
def sp203 : List Arg → Option (Bool × Res)
  | [(.v true [(.sh 231 d0)]), (.v false [(.s name1)])] => some (Pu.impl_placeOf.c d0 name1, ⟨[(.v false [(.i .i64 (Pu.impl_placeOf.v d0 name1))])], []⟩)
  | _ => none
theorem ok203 : FnOk Try.prog T 203 sp203 := by
  refine fn_ok (E := E203) hE (call_cons ok216a call_nil) hM Try.func203 (code := (Try.f203.body.getD .skip)) (by kernel_rfl) (by kernel_rfl) ?_
  have key : ∀ (d0 : Row) (name1 : ByteArray), Pu.impl_placeOf.c d0 name1 = true → ∃ it : It Res, (∀ c ∈ loopsOf (Try.f203.body.getD .skip), LoopOk E203 it c) ∧ body E203 it Try.f203 [(.v true [(.sh 231 d0)]), (.v false [(.s name1)])] = some ⟨[(.v false [(.i .i64 (Pu.impl_placeOf.v d0 name1))])], []⟩ := by
    intro d0 name1  h1
    have hN := Pu.impl_placeOf.b_eq (R := Res) (fun r0 => some ⟨[(.v false [(.i .i64 r0)])], []⟩) d0 name1 h1
    have hl : loopsOf (Try.f203.body.getD .skip) = [] := by kernel_rfl
    refine ⟨iterN 0, by rw [hl]; exact loops_nil, ?_⟩
    refine Eq.trans (show body E203 (iterN 0) Try.f203 [(.v true [(.sh 231 d0)]), (.v false [(.s name1)])] = Pu.impl_placeOf.b (fun r0 => some ⟨[(.v false [(.i .i64 r0)])], []⟩) d0 name1 by kernel_rfl) hN
  intro args r h
  unfold sp203 at h
  split at h
  · injection h with h
    injection h with h1 h2
    subst h2
    exact ⟨by kernel_rfl, fun hf => ⟨of_decide_eq_true (by kernel_rfl), key _ _ h1⟩⟩
  · cases h

end Go.FG.Se

namespace Go.FG.Se
open Go.Proofs
def E152 : Env := { toTab := T, call := Go.FG.callIn [(203, sp203)], mode := Go.FG.modeIn md, keep := Go.FG.keepIn [], tk := fun n => Go.FG.memB n [], om := Go.FG.omIn [] }
def sp152 : List Arg → Option (Bool × Res)
  | [(.v true [(.sh 231 d0)]), (.v false [(.s name1)])] => some (Pu.impl_FileAt.c d0 name1, ⟨[(.v false [(.s ((Pu.impl_FileAt.v d0 name1).1))]), (.v false [(.b ((Pu.impl_FileAt.v d0 name1).2))])], []⟩)
  | _ => none
theorem ok152 : FnOk Try.prog T 152 sp152 := by
  refine fn_ok (E := E152) hE (call_cons ok203 call_nil) hM Try.func152 (code := (Try.f152.body.getD .skip)) (by kernel_rfl) (by kernel_rfl) ?_
  have key : ∀ (d0 : Row) (name1 : ByteArray), Pu.impl_FileAt.c d0 name1 = true → ∃ it : It Res, (∀ c ∈ loopsOf (Try.f152.body.getD .skip), LoopOk E152 it c) ∧ body E152 it Try.f152 [(.v true [(.sh 231 d0)]), (.v false [(.s name1)])] = some ⟨[(.v false [(.s ((Pu.impl_FileAt.v d0 name1).1))]), (.v false [(.b ((Pu.impl_FileAt.v d0 name1).2))])], []⟩ := by
    intro d0 name1  h1
    have hN := Pu.impl_FileAt.b_eq (R := Res) (fun r0 r1 => some ⟨[(.v false [(.s r0)]), (.v false [(.b r1)])], []⟩) d0 name1 h1
    have hl : loopsOf (Try.f152.body.getD .skip) = [] := by kernel_rfl
    refine ⟨iterN 0, by rw [hl]; exact loops_nil, ?_⟩
    refine Eq.trans (show body E152 (iterN 0) Try.f152 [(.v true [(.sh 231 d0)]), (.v false [(.s name1)])] = Pu.impl_FileAt.b (fun r0 r1 => some ⟨[(.v false [(.s r0)]), (.v false [(.b r1)])], []⟩) d0 name1 by kernel_rfl) hN
  intro args r h
  unfold sp152 at h
  split at h
  · injection h with h
    injection h with h1 h2
    subst h2
    exact ⟨by kernel_rfl, fun hf => ⟨of_decide_eq_true (by kernel_rfl), key _ _ h1⟩⟩
  · cases h

end Go.FG.Se

namespace Go.FG.Se
open Go.Proofs
def E104 : Env := { toTab := T, call := Go.FG.callIn [(94, sp94)], mode := Go.FG.modeIn md, keep := Go.FG.keepIn [(5, [0, 1, 4, 5, 6, 7, 8])], tk := fun n => Go.FG.memB n [], om := Go.FG.omIn [] }
def it104 (N : Nat) {R : Type} : It R := fun rid f cn L K => bif Nat.beq rid 5 then (tell [(0, (.v (.v false [(.s ⟨#[]⟩)]))), (2, (.v (.v false [(.i .i64 0)]))), (8, (.v (.v false [(.i .i64 0)]))), (10, (.v (.v false [(.i .i64 0)]))), (12, (.v (.v false [(.b false)]))), (14, (.v (.v false [(.i .i64 0)]))), (16, (.v (.v false [(.i .i64 0)])))] (fun | [.S x0, .I x1, .I x2, .I x3, .B x4, .I x5, .I x6] => Pu.impl_ReadVar.l5 N (fun y0 y1 y2 y3 y4 y5 y6 => (K .ret (tabl [(0, (.v (.v false [(.s y0)]))), (2, (.v (.v false [(.i .i64 y1)]))), (8, (.v (.v false [(.i .i64 y2)]))), (10, (.v (.v false [(.i .i64 y3)]))), (12, (.v (.v false [(.b y4)]))), (14, (.v (.v false [(.i .i64 y5)]))), (16, (.v (.v false [(.i .i64 y6)])))]))) (fun y0 y1 y2 y3 y4 y5 y6 => (K (.exit 0) (tabl [(0, (.v (.v false [(.s y0)]))), (2, (.v (.v false [(.i .i64 y1)]))), (8, (.v (.v false [(.i .i64 y2)]))), (10, (.v (.v false [(.i .i64 y3)]))), (12, (.v (.v false [(.b y4)]))), (14, (.v (.v false [(.i .i64 y5)]))), (16, (.v (.v false [(.i .i64 y6)])))]))) N x0 x1 x2 x3 x4 x5 x6 | _ => none) L (none)) else none
theorem e104_5 {R : Type} (N : Nat) (K : Ex → St → Option R) : ∀ n : Nat, (∀ x0 x1 x2 x3 x4 x5 x6, iter (exc E104 (it104 N) (loopOf Try.f104 5)) (canon (E104.keep 5))  n (tabl [(0, (.v (.v false [(.s x0)]))), (2, (.v (.v false [(.i .i64 x1)]))), (8, (.v (.v false [(.i .i64 x2)]))), (10, (.v (.v false [(.i .i64 x3)]))), (12, (.v (.v false [(.b x4)]))), (14, (.v (.v false [(.i .i64 x5)]))), (16, (.v (.v false [(.i .i64 x6)])))]) K = Pu.impl_ReadVar.l5 N (fun y0 y1 y2 y3 y4 y5 y6 => (K .ret (tabl [(0, (.v (.v false [(.s y0)]))), (2, (.v (.v false [(.i .i64 y1)]))), (8, (.v (.v false [(.i .i64 y2)]))), (10, (.v (.v false [(.i .i64 y3)]))), (12, (.v (.v false [(.b y4)]))), (14, (.v (.v false [(.i .i64 y5)]))), (16, (.v (.v false [(.i .i64 y6)])))]))) (fun y0 y1 y2 y3 y4 y5 y6 => (K (.exit 0) (tabl [(0, (.v (.v false [(.s y0)]))), (2, (.v (.v false [(.i .i64 y1)]))), (8, (.v (.v false [(.i .i64 y2)]))), (10, (.v (.v false [(.i .i64 y3)]))), (12, (.v (.v false [(.b y4)]))), (14, (.v (.v false [(.i .i64 y5)]))), (16, (.v (.v false [(.i .i64 y6)])))]))) n x0 x1 x2 x3 x4 x5 x6) := by
  intro n
  induction n with
  | zero => exact (fun _ _ _ _ _ _ _ => rfl)
  | succ n ih =>
    have e0 : (fun x0 x1 x2 x3 x4 x5 x6 => iter (exc E104 (it104 N) (loopOf Try.f104 5)) (canon (E104.keep 5))  n (tabl [(0, (.v (.v false [(.s x0)]))), (2, (.v (.v false [(.i .i64 x1)]))), (8, (.v (.v false [(.i .i64 x2)]))), (10, (.v (.v false [(.i .i64 x3)]))), (12, (.v (.v false [(.b x4)]))), (14, (.v (.v false [(.i .i64 x5)]))), (16, (.v (.v false [(.i .i64 x6)])))]) K) = Pu.impl_ReadVar.l5 N (fun y0 y1 y2 y3 y4 y5 y6 => (K .ret (tabl [(0, (.v (.v false [(.s y0)]))), (2, (.v (.v false [(.i .i64 y1)]))), (8, (.v (.v false [(.i .i64 y2)]))), (10, (.v (.v false [(.i .i64 y3)]))), (12, (.v (.v false [(.b y4)]))), (14, (.v (.v false [(.i .i64 y5)]))), (16, (.v (.v false [(.i .i64 y6)])))]))) (fun y0 y1 y2 y3 y4 y5 y6 => (K (.exit 0) (tabl [(0, (.v (.v false [(.s y0)]))), (2, (.v (.v false [(.i .i64 y1)]))), (8, (.v (.v false [(.i .i64 y2)]))), (10, (.v (.v false [(.i .i64 y3)]))), (12, (.v (.v false [(.b y4)]))), (14, (.v (.v false [(.i .i64 y5)]))), (16, (.v (.v false [(.i .i64 y6)])))]))) n := by funext x0 x1 x2 x3 x4 x5 x6; exact ih x0 x1 x2 x3 x4 x5 x6
    intro x0 x1 x2 x3 x4 x5 x6
    have h : ∀ g, exc E104 (it104 N) (loopOf Try.f104 5) (tabl [(0, (.v (.v false [(.s x0)]))), (2, (.v (.v false [(.i .i64 x1)]))), (8, (.v (.v false [(.i .i64 x2)]))), (10, (.v (.v false [(.i .i64 x3)]))), (12, (.v (.v false [(.b x4)]))), (14, (.v (.v false [(.i .i64 x5)]))), (16, (.v (.v false [(.i .i64 x6)])))]) (iterK g (canon (E104.keep 5)) K) = Pu.impl_ReadVar.r5 N (fun x0 x1 x2 x3 x4 x5 x6 => (g (tabl [(0, (.v (.v false [(.s x0)]))), (2, (.v (.v false [(.i .i64 x1)]))), (8, (.v (.v false [(.i .i64 x2)]))), (10, (.v (.v false [(.i .i64 x3)]))), (12, (.v (.v false [(.b x4)]))), (14, (.v (.v false [(.i .i64 x5)]))), (16, (.v (.v false [(.i .i64 x6)])))]))) (fun y0 y1 y2 y3 y4 y5 y6 => (K .ret (tabl [(0, (.v (.v false [(.s y0)]))), (2, (.v (.v false [(.i .i64 y1)]))), (8, (.v (.v false [(.i .i64 y2)]))), (10, (.v (.v false [(.i .i64 y3)]))), (12, (.v (.v false [(.b y4)]))), (14, (.v (.v false [(.i .i64 y5)]))), (16, (.v (.v false [(.i .i64 y6)])))]))) (fun y0 y1 y2 y3 y4 y5 y6 => (K (.exit 0) (tabl [(0, (.v (.v false [(.s y0)]))), (2, (.v (.v false [(.i .i64 y1)]))), (8, (.v (.v false [(.i .i64 y2)]))), (10, (.v (.v false [(.i .i64 y3)]))), (12, (.v (.v false [(.b y4)]))), (14, (.v (.v false [(.i .i64 y5)]))), (16, (.v (.v false [(.i .i64 y6)])))]))) x0 x1 x2 x3 x4 x5 x6 := by intro g; kernel_rfl
    refine (h _).trans ?_
    show Pu.impl_ReadVar.r5 N (fun x0 x1 x2 x3 x4 x5 x6 => (iter (exc E104 (it104 N) (loopOf Try.f104 5)) (canon (E104.keep 5))  n (tabl [(0, (.v (.v false [(.s x0)]))), (2, (.v (.v false [(.i .i64 x1)]))), (8, (.v (.v false [(.i .i64 x2)]))), (10, (.v (.v false [(.i .i64 x3)]))), (12, (.v (.v false [(.b x4)]))), (14, (.v (.v false [(.i .i64 x5)]))), (16, (.v (.v false [(.i .i64 x6)])))]) K)) (fun y0 y1 y2 y3 y4 y5 y6 => (K .ret (tabl [(0, (.v (.v false [(.s y0)]))), (2, (.v (.v false [(.i .i64 y1)]))), (8, (.v (.v false [(.i .i64 y2)]))), (10, (.v (.v false [(.i .i64 y3)]))), (12, (.v (.v false [(.b y4)]))), (14, (.v (.v false [(.i .i64 y5)]))), (16, (.v (.v false [(.i .i64 y6)])))]))) (fun y0 y1 y2 y3 y4 y5 y6 => (K (.exit 0) (tabl [(0, (.v (.v false [(.s y0)]))), (2, (.v (.v false [(.i .i64 y1)]))), (8, (.v (.v false [(.i .i64 y2)]))), (10, (.v (.v false [(.i .i64 y3)]))), (12, (.v (.v false [(.b y4)]))), (14, (.v (.v false [(.i .i64 y5)]))), (16, (.v (.v false [(.i .i64 y6)])))]))) x0 x1 x2 x3 x4 x5 x6 = _
    rw [e0]; rfl
theorem lo104_5 {R : Type} (N : Nat) : LoopOk E104 (it104 N (R := R)) (loopOf Try.f104 5) := by
  have e : firstRid (loopOf Try.f104 5) = 5 := by kernel_rfl
  intro L K r
  rw [e]
  intro h
  unfold it104 at h
  simp only [show Nat.beq 5 5 = true from rfl, cond_false, cond_true] at h
  refine tell_ok (Q := fun L => ∃ n, iter (exc E104 (it104 N) (loopOf Try.f104 5)) (canon (E104.keep 5)) n (tabl L) K = some r) h (fun xs h => ?_) (fun h => ?_)
  · (try dsimp only at h)
    split at h
    · exact ⟨N, ((e104_5 N K N) _ _ _ _ _ _ _).trans h⟩
    · cases h
  cases h
def sp104 : List Arg → Option (Bool × Res)
  | [(.v false [(.s text0)]), (.v false [(.i .i64 at1)])] => some (true, ⟨[(.v false [(.i .i64 ((Pu.impl_ReadVar.v text0 at1).1))]), (.v false [(.i .i64 ((Pu.impl_ReadVar.v text0 at1).2.1))]), (.v false [(.b ((Pu.impl_ReadVar.v text0 at1).2.2))])], []⟩)
  | _ => none
theorem ok104 : FnOk Try.prog T 104 sp104 := by
  refine fn_ok (E := E104) hE (call_cons ok94 call_nil) hM Try.func104 (code := (Try.f104.body.getD .skip)) (by kernel_rfl) (by kernel_rfl) ?_
  have key : ∀ (text0 : ByteArray) (at1 : Int), okS text0 → ∃ it : It Res, (∀ c ∈ loopsOf (Try.f104.body.getD .skip), LoopOk E104 it c) ∧ body E104 it Try.f104 [(.v false [(.s text0)]), (.v false [(.i .i64 at1)])] = some ⟨[(.v false [(.i .i64 ((Pu.impl_ReadVar.v text0 at1).1))]), (.v false [(.i .i64 ((Pu.impl_ReadVar.v text0 at1).2.1))]), (.v false [(.b ((Pu.impl_ReadVar.v text0 at1).2.2))])], []⟩ := by
    intro text0 at1  g0
    obtain ⟨N, hN⟩ := Pu.impl_ReadVar.b_eq (R := Res) (fun r0 r1 r2 => some ⟨[(.v false [(.i .i64 r0)]), (.v false [(.i .i64 r1)]), (.v false [(.b r2)])], []⟩) text0 at1 g0
    have hl : loopsOf (Try.f104.body.getD .skip) = [loopOf Try.f104 5] := by kernel_rfl
    refine ⟨it104 N, by rw [hl]; exact (loops_cons (lo104_5 N) loops_nil), ?_⟩
    refine Eq.trans (show body E104 (it104 N) Try.f104 [(.v false [(.s text0)]), (.v false [(.i .i64 at1)])] = Pu.impl_ReadVar.b N (fun r0 r1 r2 => some ⟨[(.v false [(.i .i64 r0)]), (.v false [(.i .i64 r1)]), (.v false [(.b r2)])], []⟩) text0 at1 by kernel_rfl) hN
  intro args r h
  unfold sp104 at h
  split at h
  · injection h with h
    injection h with h1 h2
    subst h2
    exact ⟨by kernel_rfl, fun hf => ⟨of_decide_eq_true (by kernel_rfl), key _ _ hf.1.1⟩⟩
  · cases h

end Go.FG.Se

namespace Go.FG.Se
open Go.Proofs
def E227 : Env := { toTab := T, call := Go.FG.callIn [], mode := Go.FG.modeIn md, keep := Go.FG.keepIn [(2, [0, 1, 5]), (6, [0, 1, 5, 19])], tk := fun n => Go.FG.memB n [], om := Go.FG.omIn [] }
def it227 (N : Nat) {R : Type} : It R := fun rid f cn L K => bif Nat.beq rid 2 then (tell [(0, (.v (.v false [(.i .u32 0)]))), (2, (.v (.v false [(.s ⟨#[]⟩)]))), (10, (.v (.v false [(.i .i64 0)])))] (fun | [.I x0, .S x1, .I x2] => Pu.impl_SumMore.l2 N (fun y0 y1 y2 => (K (.exit 0) (tabl [(0, (.v (.v false [(.i .u32 y0)]))), (2, (.v (.v false [(.s y1)]))), (10, (.v (.v false [(.i .i64 y2)])))]))) N x0 x1 x2 | _ => none) L (none)) else bif Nat.beq rid 6 then (tell [(0, (.v (.v false [(.i .u32 0)]))), (2, (.v (.v false [(.s ⟨#[]⟩)]))), (10, (.v (.v false [(.i .i64 0)]))), (38, (.v (.v false [(.i .i64 0)])))] (fun | [.I x3, .S x4, .I x5, .I x6] => Pu.impl_SumMore.l6 N (fun y0 y1 y2 y3 => (K (.exit 2) (tabl [(0, (.v (.v false [(.i .u32 y0)]))), (2, (.v (.v false [(.s y1)]))), (10, (.v (.v false [(.i .i64 y2)]))), (38, (.v (.v false [(.i .i64 y3)])))]))) N x3 x4 x5 x6 | _ => none) L (none)) else none
theorem e227_2 {R : Type} (N : Nat) (K : Ex → St → Option R) : ∀ n : Nat, (∀ x0 x1 x2, iter (exc E227 (it227 N) (loopOf Try.f227 2)) (canon (E227.keep 2))  n (tabl [(0, (.v (.v false [(.i .u32 x0)]))), (2, (.v (.v false [(.s x1)]))), (10, (.v (.v false [(.i .i64 x2)])))]) K = Pu.impl_SumMore.l2 N (fun y0 y1 y2 => (K (.exit 0) (tabl [(0, (.v (.v false [(.i .u32 y0)]))), (2, (.v (.v false [(.s y1)]))), (10, (.v (.v false [(.i .i64 y2)])))]))) n x0 x1 x2) := by
  intro n
  induction n with
  | zero => exact (fun _ _ _ => rfl)
  | succ n ih =>
    have e0 : (fun x0 x1 x2 => iter (exc E227 (it227 N) (loopOf Try.f227 2)) (canon (E227.keep 2))  n (tabl [(0, (.v (.v false [(.i .u32 x0)]))), (2, (.v (.v false [(.s x1)]))), (10, (.v (.v false [(.i .i64 x2)])))]) K) = Pu.impl_SumMore.l2 N (fun y0 y1 y2 => (K (.exit 0) (tabl [(0, (.v (.v false [(.i .u32 y0)]))), (2, (.v (.v false [(.s y1)]))), (10, (.v (.v false [(.i .i64 y2)])))]))) n := by funext x0 x1 x2; exact ih x0 x1 x2
    intro x0 x1 x2
    have h : ∀ g, exc E227 (it227 N) (loopOf Try.f227 2) (tabl [(0, (.v (.v false [(.i .u32 x0)]))), (2, (.v (.v false [(.s x1)]))), (10, (.v (.v false [(.i .i64 x2)])))]) (iterK g (canon (E227.keep 2)) K) = Pu.impl_SumMore.r2 N (fun x0 x1 x2 => (g (tabl [(0, (.v (.v false [(.i .u32 x0)]))), (2, (.v (.v false [(.s x1)]))), (10, (.v (.v false [(.i .i64 x2)])))]))) (fun y0 y1 y2 => (K (.exit 0) (tabl [(0, (.v (.v false [(.i .u32 y0)]))), (2, (.v (.v false [(.s y1)]))), (10, (.v (.v false [(.i .i64 y2)])))]))) x0 x1 x2 := by intro g; kernel_rfl
    refine (h _).trans ?_
    show Pu.impl_SumMore.r2 N (fun x0 x1 x2 => (iter (exc E227 (it227 N) (loopOf Try.f227 2)) (canon (E227.keep 2))  n (tabl [(0, (.v (.v false [(.i .u32 x0)]))), (2, (.v (.v false [(.s x1)]))), (10, (.v (.v false [(.i .i64 x2)])))]) K)) (fun y0 y1 y2 => (K (.exit 0) (tabl [(0, (.v (.v false [(.i .u32 y0)]))), (2, (.v (.v false [(.s y1)]))), (10, (.v (.v false [(.i .i64 y2)])))]))) x0 x1 x2 = _
    rw [e0]; rfl
theorem lo227_2 {R : Type} (N : Nat) : LoopOk E227 (it227 N (R := R)) (loopOf Try.f227 2) := by
  have e : firstRid (loopOf Try.f227 2) = 2 := by kernel_rfl
  intro L K r
  rw [e]
  intro h
  unfold it227 at h
  simp only [show Nat.beq 2 2 = true from rfl, cond_false, cond_true] at h
  refine tell_ok (Q := fun L => ∃ n, iter (exc E227 (it227 N) (loopOf Try.f227 2)) (canon (E227.keep 2)) n (tabl L) K = some r) h (fun xs h => ?_) (fun h => ?_)
  · (try dsimp only at h)
    split at h
    · exact ⟨N, ((e227_2 N K N) _ _ _).trans h⟩
    · cases h
  cases h
theorem e227_6 {R : Type} (N : Nat) (K : Ex → St → Option R) : ∀ n : Nat, (∀ x3 x4 x5 x6, iter (exc E227 (it227 N) (loopOf Try.f227 6)) (canon (E227.keep 6))  n (tabl [(0, (.v (.v false [(.i .u32 x3)]))), (2, (.v (.v false [(.s x4)]))), (10, (.v (.v false [(.i .i64 x5)]))), (38, (.v (.v false [(.i .i64 x6)])))]) K = Pu.impl_SumMore.l6 N (fun y0 y1 y2 y3 => (K (.exit 2) (tabl [(0, (.v (.v false [(.i .u32 y0)]))), (2, (.v (.v false [(.s y1)]))), (10, (.v (.v false [(.i .i64 y2)]))), (38, (.v (.v false [(.i .i64 y3)])))]))) n x3 x4 x5 x6) := by
  intro n
  induction n with
  | zero => exact (fun _ _ _ _ => rfl)
  | succ n ih =>
    have e0 : (fun x3 x4 x5 x6 => iter (exc E227 (it227 N) (loopOf Try.f227 6)) (canon (E227.keep 6))  n (tabl [(0, (.v (.v false [(.i .u32 x3)]))), (2, (.v (.v false [(.s x4)]))), (10, (.v (.v false [(.i .i64 x5)]))), (38, (.v (.v false [(.i .i64 x6)])))]) K) = Pu.impl_SumMore.l6 N (fun y0 y1 y2 y3 => (K (.exit 2) (tabl [(0, (.v (.v false [(.i .u32 y0)]))), (2, (.v (.v false [(.s y1)]))), (10, (.v (.v false [(.i .i64 y2)]))), (38, (.v (.v false [(.i .i64 y3)])))]))) n := by funext x3 x4 x5 x6; exact ih x3 x4 x5 x6
    intro x3 x4 x5 x6
    have h : ∀ g, exc E227 (it227 N) (loopOf Try.f227 6) (tabl [(0, (.v (.v false [(.i .u32 x3)]))), (2, (.v (.v false [(.s x4)]))), (10, (.v (.v false [(.i .i64 x5)]))), (38, (.v (.v false [(.i .i64 x6)])))]) (iterK g (canon (E227.keep 6)) K) = Pu.impl_SumMore.r6 N (fun x3 x4 x5 x6 => (g (tabl [(0, (.v (.v false [(.i .u32 x3)]))), (2, (.v (.v false [(.s x4)]))), (10, (.v (.v false [(.i .i64 x5)]))), (38, (.v (.v false [(.i .i64 x6)])))]))) (fun y0 y1 y2 y3 => (K (.exit 2) (tabl [(0, (.v (.v false [(.i .u32 y0)]))), (2, (.v (.v false [(.s y1)]))), (10, (.v (.v false [(.i .i64 y2)]))), (38, (.v (.v false [(.i .i64 y3)])))]))) x3 x4 x5 x6 := by intro g; kernel_rfl
    refine (h _).trans ?_
    show Pu.impl_SumMore.r6 N (fun x3 x4 x5 x6 => (iter (exc E227 (it227 N) (loopOf Try.f227 6)) (canon (E227.keep 6))  n (tabl [(0, (.v (.v false [(.i .u32 x3)]))), (2, (.v (.v false [(.s x4)]))), (10, (.v (.v false [(.i .i64 x5)]))), (38, (.v (.v false [(.i .i64 x6)])))]) K)) (fun y0 y1 y2 y3 => (K (.exit 2) (tabl [(0, (.v (.v false [(.i .u32 y0)]))), (2, (.v (.v false [(.s y1)]))), (10, (.v (.v false [(.i .i64 y2)]))), (38, (.v (.v false [(.i .i64 y3)])))]))) x3 x4 x5 x6 = _
    rw [e0]; rfl
theorem lo227_6 {R : Type} (N : Nat) : LoopOk E227 (it227 N (R := R)) (loopOf Try.f227 6) := by
  have e : firstRid (loopOf Try.f227 6) = 6 := by kernel_rfl
  intro L K r
  rw [e]
  intro h
  unfold it227 at h
  simp only [show Nat.beq 6 2 = false from rfl, show Nat.beq 6 6 = true from rfl, cond_false, cond_true] at h
  refine tell_ok (Q := fun L => ∃ n, iter (exc E227 (it227 N) (loopOf Try.f227 6)) (canon (E227.keep 6)) n (tabl L) K = some r) h (fun xs h => ?_) (fun h => ?_)
  · (try dsimp only at h)
    split at h
    · exact ⟨N, ((e227_6 N K N) _ _ _ _).trans h⟩
    · cases h
  cases h
def sp227 : List Arg → Option (Bool × Res)
  | [(.v false [(.i .u32 sum0)]), (.v false [(.s text1)])] => some (Pu.impl_SumMore.c sum0 text1, ⟨[(.v false [(.i .u32 (Pu.impl_SumMore.v sum0 text1))])], []⟩)
  | _ => none
theorem ok227 : FnOk Try.prog T 227 sp227 := by
  refine fn_ok (E := E227) hE call_nil hM Try.func227 (code := (Try.f227.body.getD .skip)) (by kernel_rfl) (by kernel_rfl) ?_
  have key : ∀ (sum0 : Int) (text1 : ByteArray), Pu.impl_SumMore.c sum0 text1 = true → ∃ it : It Res, (∀ c ∈ loopsOf (Try.f227.body.getD .skip), LoopOk E227 it c) ∧ body E227 it Try.f227 [(.v false [(.i .u32 sum0)]), (.v false [(.s text1)])] = some ⟨[(.v false [(.i .u32 (Pu.impl_SumMore.v sum0 text1))])], []⟩ := by
    intro sum0 text1  h1
    obtain ⟨N, hN⟩ := Pu.impl_SumMore.b_eq (R := Res) (fun r0 => some ⟨[(.v false [(.i .u32 r0)])], []⟩) sum0 text1 h1
    have hl : loopsOf (Try.f227.body.getD .skip) = [loopOf Try.f227 2, loopOf Try.f227 6] := by kernel_rfl
    refine ⟨it227 N, by rw [hl]; exact (loops_cons (lo227_2 N) (loops_cons (lo227_6 N) loops_nil)), ?_⟩
    refine Eq.trans (show body E227 (it227 N) Try.f227 [(.v false [(.i .u32 sum0)]), (.v false [(.s text1)])] = Pu.impl_SumMore.b N (fun r0 => some ⟨[(.v false [(.i .u32 r0)])], []⟩) sum0 text1 by kernel_rfl) hN
  intro args r h
  unfold sp227 at h
  split at h
  · injection h with h
    injection h with h1 h2
    subst h2
    exact ⟨by kernel_rfl, fun hf => ⟨of_decide_eq_true (by kernel_rfl), key _ _ h1⟩⟩
  · cases h

end Go.FG.Se

namespace Go.FG.Se
open Go.Proofs
def E218 : Env := { toTab := T, call := Go.FG.callIn [(227, sp227)], mode := Go.FG.modeIn md, keep := Go.FG.keepIn [], tk := fun n => Go.FG.memB n [], om := Go.FG.omIn [] }
def sp218 : List Arg → Option (Bool × Res)
  | [(.v false [(.s text0)])] => some (Pu.impl_SumOf.c text0, ⟨[(.v false [(.i .u32 (Pu.impl_SumOf.v text0))])], []⟩)
  | _ => none
theorem ok218 : FnOk Try.prog T 218 sp218 := by
  refine fn_ok (E := E218) hE (call_cons ok227 call_nil) hM Try.func218 (code := (Try.f218.body.getD .skip)) (by kernel_rfl) (by kernel_rfl) ?_
  have key : ∀ (text0 : ByteArray), Pu.impl_SumOf.c text0 = true → ∃ it : It Res, (∀ c ∈ loopsOf (Try.f218.body.getD .skip), LoopOk E218 it c) ∧ body E218 it Try.f218 [(.v false [(.s text0)])] = some ⟨[(.v false [(.i .u32 (Pu.impl_SumOf.v text0))])], []⟩ := by
    intro text0  h1
    have hN := Pu.impl_SumOf.b_eq (R := Res) (fun r0 => some ⟨[(.v false [(.i .u32 r0)])], []⟩) text0 h1
    have hl : loopsOf (Try.f218.body.getD .skip) = [] := by kernel_rfl
    refine ⟨iterN 0, by rw [hl]; exact loops_nil, ?_⟩
    refine Eq.trans (show body E218 (iterN 0) Try.f218 [(.v false [(.s text0)])] = Pu.impl_SumOf.b (fun r0 => some ⟨[(.v false [(.i .u32 r0)])], []⟩) text0 by kernel_rfl) hN
  intro args r h
  unfold sp218 at h
  split at h
  · injection h with h
    injection h with h1 h2
    subst h2
    exact ⟨by kernel_rfl, fun hf => ⟨of_decide_eq_true (by kernel_rfl), key _ h1⟩⟩
  · cases h

end Go.FG.Se

namespace Go.FG.Se
open Go.Proofs
def E206 : Env := { toTab := T, call := Go.FG.callIn [(218, sp218)], mode := Go.FG.modeIn md, keep := Go.FG.keepIn [], tk := fun n => Go.FG.memB n [], om := Go.FG.omIn [] }
def sp206 : List Arg → Option (Bool × Res)
  | [(.v false [(.s text0)])] => some (Pu.impl_sumText.c text0, ⟨[(.v false [(.s (Pu.impl_sumText.v text0))])], []⟩)
  | _ => none
theorem ok206 : FnOk Try.prog T 206 sp206 := by
  refine fn_ok (E := E206) hE (call_cons ok218 call_nil) hM Try.func206 (code := (Try.f206.body.getD .skip)) (by kernel_rfl) (by kernel_rfl) ?_
  have key : ∀ (text0 : ByteArray), Pu.impl_sumText.c text0 = true → ∃ it : It Res, (∀ c ∈ loopsOf (Try.f206.body.getD .skip), LoopOk E206 it c) ∧ body E206 it Try.f206 [(.v false [(.s text0)])] = some ⟨[(.v false [(.s (Pu.impl_sumText.v text0))])], []⟩ := by
    intro text0  h1
    have hN := Pu.impl_sumText.b_eq (R := Res) (fun r0 => some ⟨[(.v false [(.s r0)])], []⟩) text0 h1
    have hl : loopsOf (Try.f206.body.getD .skip) = [] := by kernel_rfl
    refine ⟨iterN 0, by rw [hl]; exact loops_nil, ?_⟩
    refine Eq.trans (show body E206 (iterN 0) Try.f206 [(.v false [(.s text0)])] = Pu.impl_sumText.b (fun r0 => some ⟨[(.v false [(.s r0)])], []⟩) text0 by kernel_rfl) hN
  intro args r h
  unfold sp206 at h
  split at h
  · injection h with h
    injection h with h1 h2
    subst h2
    exact ⟨by kernel_rfl, fun hf => ⟨of_decide_eq_true (by kernel_rfl), key _ h1⟩⟩
  · cases h

end Go.FG.Se

namespace Go.FG.Se
open Go.Proofs
def E163 : Env := { toTab := T, call := Go.FG.callIn [(104, sp104), (94, sp94), (206, sp206)], mode := Go.FG.modeIn md, keep := Go.FG.keepIn [(3, [0, 4, 5])], tk := fun n => Go.FG.memB n [], om := Go.FG.omIn [] }
def it163 (N : Nat) {R : Type} : It R := fun rid f cn L K => bif Nat.beq rid 3 then (tell [(0, (.v (.v false [(.s ⟨#[]⟩)]))), (8, (.v (.v false [(.own 0)]))), (10, (.v (.v false [(.i .i64 0)]))), (1, (.o (.row 9 true [])))] (fun | [.S x0, .I x1, .R x2] => Pu.impl_Unframe.l3 N (fun y0 y1 y2 => (K (.exit 0) (tabl [(0, (.v (.v false [(.s y0)]))), (8, (.v (.v false [(.own 0)]))), (10, (.v (.v false [(.i .i64 y1)]))), (1, (.o (.row 9 true y2)))]))) N x0 x1 x2 | _ => none) L (none)) else none
theorem e163_3 {R : Type} (N : Nat) (K : Ex → St → Option R) : ∀ n : Nat, (∀ x0 x1 x2, iter (exc E163 (it163 N) (loopOf Try.f163 3)) (canon (E163.keep 3))  n (tabl [(0, (.v (.v false [(.s x0)]))), (8, (.v (.v false [(.own 0)]))), (10, (.v (.v false [(.i .i64 x1)]))), (1, (.o (.row 9 true x2)))]) K = Pu.impl_Unframe.l3 N (fun y0 y1 y2 => (K (.exit 0) (tabl [(0, (.v (.v false [(.s y0)]))), (8, (.v (.v false [(.own 0)]))), (10, (.v (.v false [(.i .i64 y1)]))), (1, (.o (.row 9 true y2)))]))) n x0 x1 x2) := by
  intro n
  induction n with
  | zero => exact (fun _ _ _ => rfl)
  | succ n ih =>
    have e0 : (fun x0 x1 x2 => iter (exc E163 (it163 N) (loopOf Try.f163 3)) (canon (E163.keep 3))  n (tabl [(0, (.v (.v false [(.s x0)]))), (8, (.v (.v false [(.own 0)]))), (10, (.v (.v false [(.i .i64 x1)]))), (1, (.o (.row 9 true x2)))]) K) = Pu.impl_Unframe.l3 N (fun y0 y1 y2 => (K (.exit 0) (tabl [(0, (.v (.v false [(.s y0)]))), (8, (.v (.v false [(.own 0)]))), (10, (.v (.v false [(.i .i64 y1)]))), (1, (.o (.row 9 true y2)))]))) n := by funext x0 x1 x2; exact ih x0 x1 x2
    intro x0 x1 x2
    have h : ∀ g, exc E163 (it163 N) (loopOf Try.f163 3) (tabl [(0, (.v (.v false [(.s x0)]))), (8, (.v (.v false [(.own 0)]))), (10, (.v (.v false [(.i .i64 x1)]))), (1, (.o (.row 9 true x2)))]) (iterK g (canon (E163.keep 3)) K) = Pu.impl_Unframe.r3 N (fun x0 x1 x2 => (g (tabl [(0, (.v (.v false [(.s x0)]))), (8, (.v (.v false [(.own 0)]))), (10, (.v (.v false [(.i .i64 x1)]))), (1, (.o (.row 9 true x2)))]))) (fun y0 y1 y2 => (K (.exit 0) (tabl [(0, (.v (.v false [(.s y0)]))), (8, (.v (.v false [(.own 0)]))), (10, (.v (.v false [(.i .i64 y1)]))), (1, (.o (.row 9 true y2)))]))) x0 x1 x2 := by intro g; kernel_rfl
    refine (h _).trans ?_
    show Pu.impl_Unframe.r3 N (fun x0 x1 x2 => (iter (exc E163 (it163 N) (loopOf Try.f163 3)) (canon (E163.keep 3))  n (tabl [(0, (.v (.v false [(.s x0)]))), (8, (.v (.v false [(.own 0)]))), (10, (.v (.v false [(.i .i64 x1)]))), (1, (.o (.row 9 true x2)))]) K)) (fun y0 y1 y2 => (K (.exit 0) (tabl [(0, (.v (.v false [(.s y0)]))), (8, (.v (.v false [(.own 0)]))), (10, (.v (.v false [(.i .i64 y1)]))), (1, (.o (.row 9 true y2)))]))) x0 x1 x2 = _
    rw [e0]; rfl
theorem lo163_3 {R : Type} (N : Nat) : LoopOk E163 (it163 N (R := R)) (loopOf Try.f163 3) := by
  have e : firstRid (loopOf Try.f163 3) = 3 := by kernel_rfl
  intro L K r
  rw [e]
  intro h
  unfold it163 at h
  simp only [show Nat.beq 3 3 = true from rfl, cond_false, cond_true] at h
  refine tell_ok (Q := fun L => ∃ n, iter (exc E163 (it163 N) (loopOf Try.f163 3)) (canon (E163.keep 3)) n (tabl L) K = some r) h (fun xs h => ?_) (fun h => ?_)
  · (try dsimp only at h)
    split at h
    · exact ⟨N, ((e163_3 N K N) _ _ _).trans h⟩
    · cases h
  cases h
def sp163 : List Arg → Option (Bool × Res)
  | [(.v false [(.s file0)])] => some (Pu.impl_Unframe.c file0, ⟨[(.v false [(.ow 9 true ((Pu.impl_Unframe.v file0).1))]), (.v false [(.i .i64 ((Pu.impl_Unframe.v file0).2))])], []⟩)
  | _ => none
theorem ok163 : FnOk Try.prog T 163 sp163 := by
  refine fn_ok (E := E163) hE (call_cons ok104 (call_cons ok94 (call_cons ok206 call_nil))) hM Try.func163 (code := (Try.f163.body.getD .skip)) (by kernel_rfl) (by kernel_rfl) ?_
  have key : ∀ (file0 : ByteArray), Pu.impl_Unframe.c file0 = true → ∃ it : It Res, (∀ c ∈ loopsOf (Try.f163.body.getD .skip), LoopOk E163 it c) ∧ body E163 it Try.f163 [(.v false [(.s file0)])] = some ⟨[(.v false [(.ow 9 true ((Pu.impl_Unframe.v file0).1))]), (.v false [(.i .i64 ((Pu.impl_Unframe.v file0).2))])], []⟩ := by
    intro file0  h1
    obtain ⟨N, hN⟩ := Pu.impl_Unframe.b_eq (R := Res) (fun r0 r1 => some ⟨[(.v false [(.ow 9 true r0)]), (.v false [(.i .i64 r1)])], []⟩) file0 h1
    have hl : loopsOf (Try.f163.body.getD .skip) = [loopOf Try.f163 3] := by kernel_rfl
    refine ⟨it163 N, by rw [hl]; exact (loops_cons (lo163_3 N) loops_nil), ?_⟩
    refine Eq.trans (show body E163 (it163 N) Try.f163 [(.v false [(.s file0)])] = Pu.impl_Unframe.b N (fun r0 r1 => some ⟨[(.v false [(.ow 9 true r0)]), (.v false [(.i .i64 r1)])], []⟩) file0 by kernel_rfl) hN
  intro args r h
  unfold sp163 at h
  split at h
  · injection h with h
    injection h with h1 h2
    subst h2
    exact ⟨by kernel_rfl, fun hf => ⟨of_decide_eq_true (by kernel_rfl), key _ h1⟩⟩
  · cases h

end Go.FG.Se

namespace Go.FG.Se
open Go.Proofs
def E103 : Env := { toTab := T, call := Go.FG.callIn [(104, sp104)], mode := Go.FG.modeIn md, keep := Go.FG.keepIn [], tk := fun n => Go.FG.memB n [], om := Go.FG.omIn [] }
def sp103 : List Arg → Option (Bool × Res)
  | [(.v false [(.s text0)]), (.v false [(.i .i64 at1)])] => some (true, ⟨[(.v false [(.s ((Pu.impl_ReadShort.v text0 at1).1))]), (.v false [(.i .i64 ((Pu.impl_ReadShort.v text0 at1).2.1))]), (.v false [(.b ((Pu.impl_ReadShort.v text0 at1).2.2))])], []⟩)
  | _ => none
theorem ok103 : FnOk Try.prog T 103 sp103 := by
  refine fn_ok (E := E103) hE (call_cons ok104 call_nil) hM Try.func103 (code := (Try.f103.body.getD .skip)) (by kernel_rfl) (by kernel_rfl) ?_
  have key : ∀ (text0 : ByteArray) (at1 : Int), okS text0 → ∃ it : It Res, (∀ c ∈ loopsOf (Try.f103.body.getD .skip), LoopOk E103 it c) ∧ body E103 it Try.f103 [(.v false [(.s text0)]), (.v false [(.i .i64 at1)])] = some ⟨[(.v false [(.s ((Pu.impl_ReadShort.v text0 at1).1))]), (.v false [(.i .i64 ((Pu.impl_ReadShort.v text0 at1).2.1))]), (.v false [(.b ((Pu.impl_ReadShort.v text0 at1).2.2))])], []⟩ := by
    intro text0 at1  g0
    have hN := Pu.impl_ReadShort.b_eq (R := Res) (fun r0 r1 r2 => some ⟨[(.v false [(.s r0)]), (.v false [(.i .i64 r1)]), (.v false [(.b r2)])], []⟩) text0 at1 g0
    have hl : loopsOf (Try.f103.body.getD .skip) = [] := by kernel_rfl
    refine ⟨iterN 0, by rw [hl]; exact loops_nil, ?_⟩
    refine Eq.trans (show body E103 (iterN 0) Try.f103 [(.v false [(.s text0)]), (.v false [(.i .i64 at1)])] = Pu.impl_ReadShort.b (fun r0 r1 r2 => some ⟨[(.v false [(.s r0)]), (.v false [(.i .i64 r1)]), (.v false [(.b r2)])], []⟩) text0 at1 by kernel_rfl) hN
  intro args r h
  unfold sp103 at h
  split at h
  · injection h with h
    injection h with h1 h2
    subst h2
    exact ⟨by kernel_rfl, fun hf => ⟨of_decide_eq_true (by kernel_rfl), key _ _ hf.1.1⟩⟩
  · cases h

end Go.FG.Se

namespace Go.FG.Se
open Go.Proofs
def E110 : Env := { toTab := T, call := Go.FG.callIn [(94, sp94)], mode := Go.FG.modeIn md, keep := Go.FG.keepIn [], tk := fun n => Go.FG.memB n [], om := Go.FG.omIn [] }
def sp110 : List Arg → Option (Bool × Res)
  | [(.v false [(.s key0)])] => some (true, ⟨[(.v false [(.b (Pu.impl_isKey.v key0))])], []⟩)
  | _ => none
theorem ok110 : FnOk Try.prog T 110 sp110 := by
  refine fn_ok (E := E110) hE (call_cons ok94 call_nil) hM Try.func110 (code := (Try.f110.body.getD .skip)) (by kernel_rfl) (by kernel_rfl) ?_
  have key : ∀ (key0 : ByteArray), ∃ it : It Res, (∀ c ∈ loopsOf (Try.f110.body.getD .skip), LoopOk E110 it c) ∧ body E110 it Try.f110 [(.v false [(.s key0)])] = some ⟨[(.v false [(.b (Pu.impl_isKey.v key0))])], []⟩ := by
    intro key0 
    have hN := Pu.impl_isKey.b_eq (R := Res) (fun r0 => some ⟨[(.v false [(.b r0)])], []⟩) key0
    have hl : loopsOf (Try.f110.body.getD .skip) = [] := by kernel_rfl
    refine ⟨iterN 0, by rw [hl]; exact loops_nil, ?_⟩
    refine Eq.trans (show body E110 (iterN 0) Try.f110 [(.v false [(.s key0)])] = Pu.impl_isKey.b (fun r0 => some ⟨[(.v false [(.b r0)])], []⟩) key0 by kernel_rfl) hN
  intro args r h
  unfold sp110 at h
  split at h
  · injection h with h
    injection h with h1 h2
    subst h2
    exact ⟨by kernel_rfl, fun hf => ⟨of_decide_eq_true (by kernel_rfl), key _⟩⟩
  · cases h

end Go.FG.Se

namespace Go.FG.Se
open Go.Proofs
def E93 : Env := { toTab := T, call := Go.FG.callIn [(94, sp94)], mode := Go.FG.modeIn md, keep := Go.FG.keepIn [], tk := fun n => Go.FG.memB n [], om := Go.FG.omIn [] }
def sp93 : List Arg → Option (Bool × Res)
  | [(.v false [(.i .i64 n0)])] => some (true, ⟨[(.v false [(.b (Pu.impl_isNumber.v n0))])], []⟩)
  | _ => none
theorem ok93 : FnOk Try.prog T 93 sp93 := by
  refine fn_ok (E := E93) hE (call_cons ok94 call_nil) hM Try.func93 (code := (Try.f93.body.getD .skip)) (by kernel_rfl) (by kernel_rfl) ?_
  have key : ∀ (n0 : Int), ∃ it : It Res, (∀ c ∈ loopsOf (Try.f93.body.getD .skip), LoopOk E93 it c) ∧ body E93 it Try.f93 [(.v false [(.i .i64 n0)])] = some ⟨[(.v false [(.b (Pu.impl_isNumber.v n0))])], []⟩ := by
    intro n0 
    have hN := Pu.impl_isNumber.b_eq (R := Res) (fun r0 => some ⟨[(.v false [(.b r0)])], []⟩) n0
    have hl : loopsOf (Try.f93.body.getD .skip) = [] := by kernel_rfl
    refine ⟨iterN 0, by rw [hl]; exact loops_nil, ?_⟩
    refine Eq.trans (show body E93 (iterN 0) Try.f93 [(.v false [(.i .i64 n0)])] = Pu.impl_isNumber.b (fun r0 => some ⟨[(.v false [(.b r0)])], []⟩) n0 by kernel_rfl) hN
  intro args r h
  unfold sp93 at h
  split at h
  · injection h with h
    injection h with h1 h2
    subst h2
    exact ⟨by kernel_rfl, fun hf => ⟨of_decide_eq_true (by kernel_rfl), key _⟩⟩
  · cases h

end Go.FG.Se

namespace Go.FG.Se
open Go.Proofs
def E33 : Env := { toTab := T, call := Go.FG.callIn [(110, sp110), (93, sp93), (94, sp94)], mode := Go.FG.modeIn md, keep := Go.FG.keepIn [], tk := fun n => Go.FG.memB n [], om := Go.FG.omIn [] }
def sp33 : List Arg → Option (Bool × Res)
  | [(.v true [(.s e0_0), (.i .i64 e0_1), (.i .i64 e0_2), (.s e0_3)])] => some (true, ⟨[(.v false [(.b (Pu.impl_EntryOk.v e0_0 e0_1 e0_2 e0_3))])], []⟩)
  | _ => none
theorem ok33 : FnOk Try.prog T 33 sp33 := by
  refine fn_ok (E := E33) hE (call_cons ok110 (call_cons ok93 (call_cons ok94 call_nil))) hM Try.func33 (code := (Try.f33.body.getD .skip)) (by kernel_rfl) (by kernel_rfl) ?_
  have key : ∀ (e0_0 : ByteArray) (e0_1 : Int) (e0_2 : Int) (e0_3 : ByteArray), ∃ it : It Res, (∀ c ∈ loopsOf (Try.f33.body.getD .skip), LoopOk E33 it c) ∧ body E33 it Try.f33 [(.v true [(.s e0_0), (.i .i64 e0_1), (.i .i64 e0_2), (.s e0_3)])] = some ⟨[(.v false [(.b (Pu.impl_EntryOk.v e0_0 e0_1 e0_2 e0_3))])], []⟩ := by
    intro e0_0 e0_1 e0_2 e0_3 
    have hN := Pu.impl_EntryOk.b_eq (R := Res) (fun r0 => some ⟨[(.v false [(.b r0)])], []⟩) e0_0 e0_1 e0_2 e0_3
    have hl : loopsOf (Try.f33.body.getD .skip) = [] := by kernel_rfl
    refine ⟨iterN 0, by rw [hl]; exact loops_nil, ?_⟩
    refine Eq.trans (show body E33 (iterN 0) Try.f33 [(.v true [(.s e0_0), (.i .i64 e0_1), (.i .i64 e0_2), (.s e0_3)])] = Pu.impl_EntryOk.b (fun r0 => some ⟨[(.v false [(.b r0)])], []⟩) e0_0 e0_1 e0_2 e0_3 by kernel_rfl) hN
  intro args r h
  unfold sp33 at h
  split at h
  · injection h with h
    injection h with h1 h2
    subst h2
    exact ⟨by kernel_rfl, fun hf => ⟨of_decide_eq_true (by kernel_rfl), key _ _ _ _⟩⟩
  · cases h

end Go.FG.Se

namespace Go.FG.Se
open Go.Proofs
def E29 : Env := { toTab := T, call := Go.FG.callIn [(103, sp103), (104, sp104), (33, sp33)], mode := Go.FG.modeIn md, keep := Go.FG.keepIn [], tk := fun n => Go.FG.memB n [], om := Go.FG.omIn [] }
def sp29 : List Arg → Option (Bool × Res)
  | [(.v false [(.s t0)])] => some (true, ⟨[(.v true [(.s ((Pu.impl_ReadEntry.v t0).1)), (.i .i64 ((Pu.impl_ReadEntry.v t0).2.1)), (.i .i64 ((Pu.impl_ReadEntry.v t0).2.2.1)), (.s ((Pu.impl_ReadEntry.v t0).2.2.2.1))]), (.v false [(.b ((Pu.impl_ReadEntry.v t0).2.2.2.2))])], []⟩)
  | _ => none
theorem ok29 : FnOk Try.prog T 29 sp29 := by
  refine fn_ok (E := E29) hE (call_cons ok103 (call_cons ok104 (call_cons ok33 call_nil))) hM Try.func29 (code := (Try.f29.body.getD .skip)) (by kernel_rfl) (by kernel_rfl) ?_
  have key : ∀ (t0 : ByteArray), okS t0 → ∃ it : It Res, (∀ c ∈ loopsOf (Try.f29.body.getD .skip), LoopOk E29 it c) ∧ body E29 it Try.f29 [(.v false [(.s t0)])] = some ⟨[(.v true [(.s ((Pu.impl_ReadEntry.v t0).1)), (.i .i64 ((Pu.impl_ReadEntry.v t0).2.1)), (.i .i64 ((Pu.impl_ReadEntry.v t0).2.2.1)), (.s ((Pu.impl_ReadEntry.v t0).2.2.2.1))]), (.v false [(.b ((Pu.impl_ReadEntry.v t0).2.2.2.2))])], []⟩ := by
    intro t0  g0
    have hN := Pu.impl_ReadEntry.b_eq (R := Res) (fun r0 r1 r2 r3 r4 => some ⟨[(.v true [(.s r0), (.i .i64 r1), (.i .i64 r2), (.s r3)]), (.v false [(.b r4)])], []⟩) t0 g0
    have hl : loopsOf (Try.f29.body.getD .skip) = [] := by kernel_rfl
    refine ⟨iterN 0, by rw [hl]; exact loops_nil, ?_⟩
    refine Eq.trans (show body E29 (iterN 0) Try.f29 [(.v false [(.s t0)])] = Pu.impl_ReadEntry.b (fun r0 r1 r2 r3 r4 => some ⟨[(.v true [(.s r0), (.i .i64 r1), (.i .i64 r2), (.s r3)]), (.v false [(.b r4)])], []⟩) t0 by kernel_rfl) hN
  intro args r h
  unfold sp29 at h
  split at h
  · injection h with h
    injection h with h1 h2
    subst h2
    exact ⟨by kernel_rfl, fun hf => ⟨of_decide_eq_true (by kernel_rfl), key _ hf.1.1⟩⟩
  · cases h

end Go.FG.Se

namespace Go.FG.Se
open Go.Proofs
def E220 : Env := { toTab := T, call := Go.FG.callIn [], mode := Go.FG.modeIn md, keep := Go.FG.keepIn [], tk := fun n => Go.FG.memB n [], om := Go.FG.omIn [] }
def sp220 : List Arg → Option (Bool × Res)
  | [(.v false [(.sh 25 l0)])] => some (Pu.impl_copyEntries.c l0, ⟨[(.v false [(.ow 25 true (Pu.impl_copyEntries.v l0))])], []⟩)
  | _ => none
theorem ok220 : FnOk Try.prog T 220 sp220 := by
  refine fn_ok (E := E220) hE call_nil hM Try.func220 (code := (Try.f220.body.getD .skip)) (by kernel_rfl) (by kernel_rfl) ?_
  have key : ∀ (l0 : Row), Pu.impl_copyEntries.c l0 = true → ∃ it : It Res, (∀ c ∈ loopsOf (Try.f220.body.getD .skip), LoopOk E220 it c) ∧ body E220 it Try.f220 [(.v false [(.sh 25 l0)])] = some ⟨[(.v false [(.ow 25 true (Pu.impl_copyEntries.v l0))])], []⟩ := by
    intro l0  h1
    have hN := Pu.impl_copyEntries.b_eq (R := Res) (fun r0 => some ⟨[(.v false [(.ow 25 true r0)])], []⟩) l0 h1
    have hl : loopsOf (Try.f220.body.getD .skip) = [] := by kernel_rfl
    refine ⟨iterN 0, by rw [hl]; exact loops_nil, ?_⟩
    refine Eq.trans (show body E220 (iterN 0) Try.f220 [(.v false [(.sh 25 l0)])] = Pu.impl_copyEntries.b (fun r0 => some ⟨[(.v false [(.ow 25 true r0)])], []⟩) l0 by kernel_rfl) hN
  intro args r h
  unfold sp220 at h
  split at h
  · injection h with h
    injection h with h1 h2
    subst h2
    exact ⟨by kernel_rfl, fun hf => ⟨of_decide_eq_true (by kernel_rfl), key _ h1⟩⟩
  · cases h

end Go.FG.Se

namespace Go.FG.Se
open Go.Proofs
def E221 : Env := { toTab := T, call := Go.FG.callIn [], mode := Go.FG.modeIn md, keep := Go.FG.keepIn [], tk := fun n => Go.FG.memB n [], om := Go.FG.omIn [] }
def sp221 : List Arg → Option (Bool × Res)
  | [(.v true [(.s e0_0), (.i .i64 e0_1), (.i .i64 e0_2), (.s e0_3)]), (.fb [(.s key1)])] => some (true, ⟨[(.v false [(.b (Pu.impl_dropEntry_1.v e0_0 e0_1 e0_2 e0_3 key1))])], []⟩)
  | _ => none
theorem ok221 : FnOk Try.prog T 221 sp221 := by
  refine fn_ok (E := E221) hE call_nil hM Try.func221 (code := (Try.f221.body.getD .skip)) (by kernel_rfl) (by kernel_rfl) ?_
  have key : ∀ (e0_0 : ByteArray) (e0_1 : Int) (e0_2 : Int) (e0_3 : ByteArray) (key1 : ByteArray), ∃ it : It Res, (∀ c ∈ loopsOf (Try.f221.body.getD .skip), LoopOk E221 it c) ∧ body E221 it Try.f221 [(.v true [(.s e0_0), (.i .i64 e0_1), (.i .i64 e0_2), (.s e0_3)]), (.fb [(.s key1)])] = some ⟨[(.v false [(.b (Pu.impl_dropEntry_1.v e0_0 e0_1 e0_2 e0_3 key1))])], []⟩ := by
    intro e0_0 e0_1 e0_2 e0_3 key1 
    have hN := Pu.impl_dropEntry_1.b_eq (R := Res) (fun r0 => some ⟨[(.v false [(.b r0)])], []⟩) e0_0 e0_1 e0_2 e0_3 key1
    have hl : loopsOf (Try.f221.body.getD .skip) = [] := by kernel_rfl
    refine ⟨iterN 0, by rw [hl]; exact loops_nil, ?_⟩
    refine Eq.trans (show body E221 (iterN 0) Try.f221 [(.v true [(.s e0_0), (.i .i64 e0_1), (.i .i64 e0_2), (.s e0_3)]), (.fb [(.s key1)])] = Pu.impl_dropEntry_1.b (fun r0 => some ⟨[(.v false [(.b r0)])], []⟩) e0_0 e0_1 e0_2 e0_3 key1 by kernel_rfl) hN
  intro args r h
  unfold sp221 at h
  split at h
  · injection h with h
    injection h with h1 h2
    subst h2
    exact ⟨by kernel_rfl, fun hf => ⟨of_decide_eq_true (by kernel_rfl), key _ _ _ _ _⟩⟩
  · cases h

end Go.FG.Se

namespace Go.FG.Se
open Go.Proofs
def E228b : Env := { toTab := T, call := Go.FG.callIn [(221, sp221)], mode := Go.FG.modeIn md, keep := Go.FG.keepIn [(2, [0, 1, 4, 7, 8])], tk := fun n => Go.FG.memB n [], om := Go.FG.omIn [] }
def it228b (N : Nat) {R : Type} : It R := fun rid f cn L K => bif Nat.beq rid 2 then (tell [(0, (.v (.v false [(.sh 25 [])]))), (2, (.v (.v false [(.fn 221 [[(.s ⟨#[]⟩)]])]))), (8, (.v (.v false [(.i .i64 0)]))), (14, (.v (.v false [(.i .i64 0)]))), (16, (.v (.v false [(.i .i64 0)])))] (fun | [.R x0, .S x1, .I x2, .I x3, .I x4] => Pu.slices_IndexFunc_Entryb.l2 N (fun y0 y1 y2 y3 y4 => (K .ret (tabl [(0, (.v (.v false [(.sh 25 y0)]))), (2, (.v (.v false [(.fn 221 [[(.s y1)]])]))), (8, (.v (.v false [(.i .i64 y2)]))), (14, (.v (.v false [(.i .i64 y3)]))), (16, (.v (.v false [(.i .i64 y4)])))]))) (fun y0 y1 y2 y3 y4 => (K (.exit 0) (tabl [(0, (.v (.v false [(.sh 25 y0)]))), (2, (.v (.v false [(.fn 221 [[(.s y1)]])]))), (8, (.v (.v false [(.i .i64 y2)]))), (14, (.v (.v false [(.i .i64 y3)]))), (16, (.v (.v false [(.i .i64 y4)])))]))) N x0 x1 x2 x3 x4 | _ => none) L (none)) else none
theorem e228b_2 {R : Type} (N : Nat) (K : Ex → St → Option R) : ∀ n : Nat, (∀ x0 x1 x2 x3 x4, iter (exc E228b (it228b N) (loopOf Try.f228 2)) (canon (E228b.keep 2))  n (tabl [(0, (.v (.v false [(.sh 25 x0)]))), (2, (.v (.v false [(.fn 221 [[(.s x1)]])]))), (8, (.v (.v false [(.i .i64 x2)]))), (14, (.v (.v false [(.i .i64 x3)]))), (16, (.v (.v false [(.i .i64 x4)])))]) K = Pu.slices_IndexFunc_Entryb.l2 N (fun y0 y1 y2 y3 y4 => (K .ret (tabl [(0, (.v (.v false [(.sh 25 y0)]))), (2, (.v (.v false [(.fn 221 [[(.s y1)]])]))), (8, (.v (.v false [(.i .i64 y2)]))), (14, (.v (.v false [(.i .i64 y3)]))), (16, (.v (.v false [(.i .i64 y4)])))]))) (fun y0 y1 y2 y3 y4 => (K (.exit 0) (tabl [(0, (.v (.v false [(.sh 25 y0)]))), (2, (.v (.v false [(.fn 221 [[(.s y1)]])]))), (8, (.v (.v false [(.i .i64 y2)]))), (14, (.v (.v false [(.i .i64 y3)]))), (16, (.v (.v false [(.i .i64 y4)])))]))) n x0 x1 x2 x3 x4) := by
  intro n
  induction n with
  | zero => exact (fun _ _ _ _ _ => rfl)
  | succ n ih =>
    have e0 : (fun x0 x1 x2 x3 x4 => iter (exc E228b (it228b N) (loopOf Try.f228 2)) (canon (E228b.keep 2))  n (tabl [(0, (.v (.v false [(.sh 25 x0)]))), (2, (.v (.v false [(.fn 221 [[(.s x1)]])]))), (8, (.v (.v false [(.i .i64 x2)]))), (14, (.v (.v false [(.i .i64 x3)]))), (16, (.v (.v false [(.i .i64 x4)])))]) K) = Pu.slices_IndexFunc_Entryb.l2 N (fun y0 y1 y2 y3 y4 => (K .ret (tabl [(0, (.v (.v false [(.sh 25 y0)]))), (2, (.v (.v false [(.fn 221 [[(.s y1)]])]))), (8, (.v (.v false [(.i .i64 y2)]))), (14, (.v (.v false [(.i .i64 y3)]))), (16, (.v (.v false [(.i .i64 y4)])))]))) (fun y0 y1 y2 y3 y4 => (K (.exit 0) (tabl [(0, (.v (.v false [(.sh 25 y0)]))), (2, (.v (.v false [(.fn 221 [[(.s y1)]])]))), (8, (.v (.v false [(.i .i64 y2)]))), (14, (.v (.v false [(.i .i64 y3)]))), (16, (.v (.v false [(.i .i64 y4)])))]))) n := by funext x0 x1 x2 x3 x4; exact ih x0 x1 x2 x3 x4
    intro x0 x1 x2 x3 x4
    have h : ∀ g, exc E228b (it228b N) (loopOf Try.f228 2) (tabl [(0, (.v (.v false [(.sh 25 x0)]))), (2, (.v (.v false [(.fn 221 [[(.s x1)]])]))), (8, (.v (.v false [(.i .i64 x2)]))), (14, (.v (.v false [(.i .i64 x3)]))), (16, (.v (.v false [(.i .i64 x4)])))]) (iterK g (canon (E228b.keep 2)) K) = Pu.slices_IndexFunc_Entryb.r2 N (fun x0 x1 x2 x3 x4 => (g (tabl [(0, (.v (.v false [(.sh 25 x0)]))), (2, (.v (.v false [(.fn 221 [[(.s x1)]])]))), (8, (.v (.v false [(.i .i64 x2)]))), (14, (.v (.v false [(.i .i64 x3)]))), (16, (.v (.v false [(.i .i64 x4)])))]))) (fun y0 y1 y2 y3 y4 => (K .ret (tabl [(0, (.v (.v false [(.sh 25 y0)]))), (2, (.v (.v false [(.fn 221 [[(.s y1)]])]))), (8, (.v (.v false [(.i .i64 y2)]))), (14, (.v (.v false [(.i .i64 y3)]))), (16, (.v (.v false [(.i .i64 y4)])))]))) (fun y0 y1 y2 y3 y4 => (K (.exit 0) (tabl [(0, (.v (.v false [(.sh 25 y0)]))), (2, (.v (.v false [(.fn 221 [[(.s y1)]])]))), (8, (.v (.v false [(.i .i64 y2)]))), (14, (.v (.v false [(.i .i64 y3)]))), (16, (.v (.v false [(.i .i64 y4)])))]))) x0 x1 x2 x3 x4 := by intro g; kernel_rfl
    refine (h _).trans ?_
    show Pu.slices_IndexFunc_Entryb.r2 N (fun x0 x1 x2 x3 x4 => (iter (exc E228b (it228b N) (loopOf Try.f228 2)) (canon (E228b.keep 2))  n (tabl [(0, (.v (.v false [(.sh 25 x0)]))), (2, (.v (.v false [(.fn 221 [[(.s x1)]])]))), (8, (.v (.v false [(.i .i64 x2)]))), (14, (.v (.v false [(.i .i64 x3)]))), (16, (.v (.v false [(.i .i64 x4)])))]) K)) (fun y0 y1 y2 y3 y4 => (K .ret (tabl [(0, (.v (.v false [(.sh 25 y0)]))), (2, (.v (.v false [(.fn 221 [[(.s y1)]])]))), (8, (.v (.v false [(.i .i64 y2)]))), (14, (.v (.v false [(.i .i64 y3)]))), (16, (.v (.v false [(.i .i64 y4)])))]))) (fun y0 y1 y2 y3 y4 => (K (.exit 0) (tabl [(0, (.v (.v false [(.sh 25 y0)]))), (2, (.v (.v false [(.fn 221 [[(.s y1)]])]))), (8, (.v (.v false [(.i .i64 y2)]))), (14, (.v (.v false [(.i .i64 y3)]))), (16, (.v (.v false [(.i .i64 y4)])))]))) x0 x1 x2 x3 x4 = _
    rw [e0]; rfl
theorem lo228b_2 {R : Type} (N : Nat) : LoopOk E228b (it228b N (R := R)) (loopOf Try.f228 2) := by
  have e : firstRid (loopOf Try.f228 2) = 2 := by kernel_rfl
  intro L K r
  rw [e]
  intro h
  unfold it228b at h
  simp only [show Nat.beq 2 2 = true from rfl, cond_false, cond_true] at h
  refine tell_ok (Q := fun L => ∃ n, iter (exc E228b (it228b N) (loopOf Try.f228 2)) (canon (E228b.keep 2)) n (tabl L) K = some r) h (fun xs h => ?_) (fun h => ?_)
  · (try dsimp only at h)
    split at h
    · exact ⟨N, ((e228b_2 N K N) _ _ _ _ _).trans h⟩
    · cases h
  cases h
def sp228b : List Arg → Option (Bool × Res)
  | [(.v false [(.sh 25 s0)]), (.v false [(.fn 221 [[(.s key1)]])])] => some (Pu.slices_IndexFunc_Entryb.c s0 key1, ⟨[(.v false [(.i .i64 (Pu.slices_IndexFunc_Entryb.v s0 key1))])], []⟩)
  | _ => none
theorem ok228b : FnOk Try.prog T 228 sp228b := by
  refine fn_ok (E := E228b) hE (call_cons ok221 call_nil) hM Try.func228 (code := (Try.f228.body.getD .skip)) (by kernel_rfl) (by kernel_rfl) ?_
  have key : ∀ (s0 : Row) (key1 : ByteArray), Pu.slices_IndexFunc_Entryb.c s0 key1 = true → ∃ it : It Res, (∀ c ∈ loopsOf (Try.f228.body.getD .skip), LoopOk E228b it c) ∧ body E228b it Try.f228 [(.v false [(.sh 25 s0)]), (.v false [(.fn 221 [[(.s key1)]])])] = some ⟨[(.v false [(.i .i64 (Pu.slices_IndexFunc_Entryb.v s0 key1))])], []⟩ := by
    intro s0 key1  h1
    obtain ⟨N, hN⟩ := Pu.slices_IndexFunc_Entryb.b_eq (R := Res) (fun r0 => some ⟨[(.v false [(.i .i64 r0)])], []⟩) s0 key1 h1
    have hl : loopsOf (Try.f228.body.getD .skip) = [loopOf Try.f228 2] := by kernel_rfl
    refine ⟨it228b N, by rw [hl]; exact (loops_cons (lo228b_2 N) loops_nil), ?_⟩
    refine Eq.trans (show body E228b (it228b N) Try.f228 [(.v false [(.sh 25 s0)]), (.v false [(.fn 221 [[(.s key1)]])])] = Pu.slices_IndexFunc_Entryb.b N (fun r0 => some ⟨[(.v false [(.i .i64 r0)])], []⟩) s0 key1 by kernel_rfl) hN
  intro args r h
  unfold sp228b at h
  split at h
  · injection h with h
    injection h with h1 h2
    subst h2
    exact ⟨by kernel_rfl, fun hf => ⟨of_decide_eq_true (by kernel_rfl), key _ _ h1⟩⟩
  · cases h

end Go.FG.Se

namespace Go.FG.Se
open Go.Proofs
def E219 : Env := { toTab := T, call := Go.FG.callIn [(228, sp228b), (221, sp221)], mode := Go.FG.modeIn md, keep := Go.FG.keepIn [(5, [0, 1, 5, 6])], tk := fun n => Go.FG.memB n [], om := Go.FG.omIn [] }
def it219 (N : Nat) {R : Type} : It R := fun rid f cn L K => bif Nat.beq rid 5 then (tell [(0, (.v (.v false [(.own 900000000)]))), (2, (.v (.v false [(.fn 221 [[(.s ⟨#[]⟩)]])]))), (10, (.v (.v false [(.i .i64 0)]))), (12, (.v (.v false [(.i .i64 0)]))), (1800000001, (.o (.row 25 true [])))] (fun | [.S x0, .I x1, .I x2, .R x3] => Pu.slices_DeleteFunc_Entry.l5 N (fun y0 y1 y2 y3 => (K (.exit 0) (tabl [(0, (.v (.v false [(.own 900000000)]))), (2, (.v (.v false [(.fn 221 [[(.s y0)]])]))), (10, (.v (.v false [(.i .i64 y1)]))), (12, (.v (.v false [(.i .i64 y2)]))), (1800000001, (.o (.row 25 true y3)))]))) N x0 x1 x2 x3 | _ => none) L (none)) else none
theorem e219_5 {R : Type} (N : Nat) (K : Ex → St → Option R) : ∀ n : Nat, (∀ x0 x1 x2 x3, iter (exc E219 (it219 N) (loopOf Try.f219 5)) (canon (E219.keep 5))  n (tabl [(0, (.v (.v false [(.own 900000000)]))), (2, (.v (.v false [(.fn 221 [[(.s x0)]])]))), (10, (.v (.v false [(.i .i64 x1)]))), (12, (.v (.v false [(.i .i64 x2)]))), (1800000001, (.o (.row 25 true x3)))]) K = Pu.slices_DeleteFunc_Entry.l5 N (fun y0 y1 y2 y3 => (K (.exit 0) (tabl [(0, (.v (.v false [(.own 900000000)]))), (2, (.v (.v false [(.fn 221 [[(.s y0)]])]))), (10, (.v (.v false [(.i .i64 y1)]))), (12, (.v (.v false [(.i .i64 y2)]))), (1800000001, (.o (.row 25 true y3)))]))) n x0 x1 x2 x3) := by
  intro n
  induction n with
  | zero => exact (fun _ _ _ _ => rfl)
  | succ n ih =>
    have e0 : (fun x0 x1 x2 x3 => iter (exc E219 (it219 N) (loopOf Try.f219 5)) (canon (E219.keep 5))  n (tabl [(0, (.v (.v false [(.own 900000000)]))), (2, (.v (.v false [(.fn 221 [[(.s x0)]])]))), (10, (.v (.v false [(.i .i64 x1)]))), (12, (.v (.v false [(.i .i64 x2)]))), (1800000001, (.o (.row 25 true x3)))]) K) = Pu.slices_DeleteFunc_Entry.l5 N (fun y0 y1 y2 y3 => (K (.exit 0) (tabl [(0, (.v (.v false [(.own 900000000)]))), (2, (.v (.v false [(.fn 221 [[(.s y0)]])]))), (10, (.v (.v false [(.i .i64 y1)]))), (12, (.v (.v false [(.i .i64 y2)]))), (1800000001, (.o (.row 25 true y3)))]))) n := by funext x0 x1 x2 x3; exact ih x0 x1 x2 x3
    intro x0 x1 x2 x3
    have h : ∀ g, exc E219 (it219 N) (loopOf Try.f219 5) (tabl [(0, (.v (.v false [(.own 900000000)]))), (2, (.v (.v false [(.fn 221 [[(.s x0)]])]))), (10, (.v (.v false [(.i .i64 x1)]))), (12, (.v (.v false [(.i .i64 x2)]))), (1800000001, (.o (.row 25 true x3)))]) (iterK g (canon (E219.keep 5)) K) = Pu.slices_DeleteFunc_Entry.r5 N (fun x0 x1 x2 x3 => (g (tabl [(0, (.v (.v false [(.own 900000000)]))), (2, (.v (.v false [(.fn 221 [[(.s x0)]])]))), (10, (.v (.v false [(.i .i64 x1)]))), (12, (.v (.v false [(.i .i64 x2)]))), (1800000001, (.o (.row 25 true x3)))]))) (fun y0 y1 y2 y3 => (K (.exit 0) (tabl [(0, (.v (.v false [(.own 900000000)]))), (2, (.v (.v false [(.fn 221 [[(.s y0)]])]))), (10, (.v (.v false [(.i .i64 y1)]))), (12, (.v (.v false [(.i .i64 y2)]))), (1800000001, (.o (.row 25 true y3)))]))) x0 x1 x2 x3 := by intro g; kernel_rfl
    refine (h _).trans ?_
    show Pu.slices_DeleteFunc_Entry.r5 N (fun x0 x1 x2 x3 => (iter (exc E219 (it219 N) (loopOf Try.f219 5)) (canon (E219.keep 5))  n (tabl [(0, (.v (.v false [(.own 900000000)]))), (2, (.v (.v false [(.fn 221 [[(.s x0)]])]))), (10, (.v (.v false [(.i .i64 x1)]))), (12, (.v (.v false [(.i .i64 x2)]))), (1800000001, (.o (.row 25 true x3)))]) K)) (fun y0 y1 y2 y3 => (K (.exit 0) (tabl [(0, (.v (.v false [(.own 900000000)]))), (2, (.v (.v false [(.fn 221 [[(.s y0)]])]))), (10, (.v (.v false [(.i .i64 y1)]))), (12, (.v (.v false [(.i .i64 y2)]))), (1800000001, (.o (.row 25 true y3)))]))) x0 x1 x2 x3 = _
    rw [e0]; rfl
theorem lo219_5 {R : Type} (N : Nat) : LoopOk E219 (it219 N (R := R)) (loopOf Try.f219 5) := by
  have e : firstRid (loopOf Try.f219 5) = 5 := by kernel_rfl
  intro L K r
  rw [e]
  intro h
  unfold it219 at h
  simp only [show Nat.beq 5 5 = true from rfl, cond_false, cond_true] at h
  refine tell_ok (Q := fun L => ∃ n, iter (exc E219 (it219 N) (loopOf Try.f219 5)) (canon (E219.keep 5)) n (tabl L) K = some r) h (fun xs h => ?_) (fun h => ?_)
  · (try dsimp only at h)
    split at h
    · exact ⟨N, ((e219_5 N K N) _ _ _ _).trans h⟩
    · cases h
  cases h
def sp219 : List Arg → Option (Bool × Res)
  | [(.v false [(.ow 25 true s0)]), (.v false [(.fn 221 [[(.s key1)]])])] => some (Pu.slices_DeleteFunc_Entry.c s0 key1, ⟨[(.v false [(.ow 25 true (Pu.slices_DeleteFunc_Entry.v s0 key1))])], [[.nl]]⟩)
  | _ => none
theorem ok219 : FnOk Try.prog T 219 sp219 := by
  refine fn_ok (E := E219) hE (call_cons ok228b (call_cons ok221 call_nil)) hM Try.func219 (code := (Try.f219.body.getD .skip)) (by kernel_rfl) (by kernel_rfl) ?_
  have key : ∀ (s0 : Row) (key1 : ByteArray), Pu.slices_DeleteFunc_Entry.c s0 key1 = true → ∃ it : It Res, (∀ c ∈ loopsOf (Try.f219.body.getD .skip), LoopOk E219 it c) ∧ body E219 it Try.f219 [(.v false [(.ow 25 true s0)]), (.v false [(.fn 221 [[(.s key1)]])])] = some ⟨[(.v false [(.ow 25 true (Pu.slices_DeleteFunc_Entry.v s0 key1))])], [[.nl]]⟩ := by
    intro s0 key1  h1
    obtain ⟨N, hN⟩ := Pu.slices_DeleteFunc_Entry.b_eq (R := Res) (fun r0 => some ⟨[(.v false [(.ow 25 true r0)])], [[.nl]]⟩) s0 key1 h1
    have hl : loopsOf (Try.f219.body.getD .skip) = [loopOf Try.f219 5] := by kernel_rfl
    refine ⟨it219 N, by rw [hl]; exact (loops_cons (lo219_5 N) loops_nil), ?_⟩
    refine Eq.trans (show body E219 (it219 N) Try.f219 [(.v false [(.ow 25 true s0)]), (.v false [(.fn 221 [[(.s key1)]])])] = Pu.slices_DeleteFunc_Entry.b N (fun r0 => some ⟨[(.v false [(.ow 25 true r0)])], [[.nl]]⟩) s0 key1 by kernel_rfl) hN
  intro args r h
  unfold sp219 at h
  split at h
  · injection h with h
    injection h with h1 h2
    subst h2
    exact ⟨by kernel_rfl, fun hf => ⟨of_decide_eq_true (by kernel_rfl), key _ _ h1⟩⟩
  · cases h

end Go.FG.Se

namespace Go.FG.Se
open Go.Proofs
def E207 : Env := { toTab := T, call := Go.FG.callIn [(220, sp220), (219, sp219)], mode := Go.FG.modeIn md, keep := Go.FG.keepIn [], tk := fun n => Go.FG.memB n [], om := Go.FG.omIn [] }
def sp207 : List Arg → Option (Bool × Res)
  | [(.v false [(.sh 25 list0)]), (.v false [(.s key1)])] => some (Pu.impl_dropEntry.c list0 key1, ⟨[(.v false [(.ow 25 true (Pu.impl_dropEntry.v list0 key1))])], []⟩)
  | _ => none
theorem ok207 : FnOk Try.prog T 207 sp207 := by
  refine fn_ok (E := E207) hE (call_cons ok220 (call_cons ok219 call_nil)) hM Try.func207 (code := (Try.f207.body.getD .skip)) (by kernel_rfl) (by kernel_rfl) ?_
  have key : ∀ (list0 : Row) (key1 : ByteArray), Pu.impl_dropEntry.c list0 key1 = true → ∃ it : It Res, (∀ c ∈ loopsOf (Try.f207.body.getD .skip), LoopOk E207 it c) ∧ body E207 it Try.f207 [(.v false [(.sh 25 list0)]), (.v false [(.s key1)])] = some ⟨[(.v false [(.ow 25 true (Pu.impl_dropEntry.v list0 key1))])], []⟩ := by
    intro list0 key1  h1
    have hN := Pu.impl_dropEntry.b_eq (R := Res) (fun r0 => some ⟨[(.v false [(.ow 25 true r0)])], []⟩) list0 key1 h1
    have hl : loopsOf (Try.f207.body.getD .skip) = [] := by kernel_rfl
    refine ⟨iterN 0, by rw [hl]; exact loops_nil, ?_⟩
    refine Eq.trans (show body E207 (iterN 0) Try.f207 [(.v false [(.sh 25 list0)]), (.v false [(.s key1)])] = Pu.impl_dropEntry.b (fun r0 => some ⟨[(.v false [(.ow 25 true r0)])], []⟩) list0 key1 by kernel_rfl) hN
  intro args r h
  unfold sp207 at h
  split at h
  · injection h with h
    injection h with h1 h2
    subst h2
    exact ⟨by kernel_rfl, fun hf => ⟨of_decide_eq_true (by kernel_rfl), key _ _ h1⟩⟩
  · cases h

end Go.FG.Se

namespace Go.FG.Se
open Go.Proofs
def rho208 : Go.Shelf.Ren := ⟨fun n => bif Nat.beq n 22 then 208 else bif Nat.beq n 29 then 222 else 223, fun n => bif Nat.beq n 24 then 79 else bif Nat.beq n 9 then 25 else bif Nat.beq n 3 then 3 else bif Nat.beq n 4 then 4 else n, fun n => n⟩
def sp208 : List Arg → Option (Bool × Res) := Ins.insSpec 25 48
theorem ins208 : Ins.L Try.prog rho208 "slices.Insert[[]loop.example/g00245/impl.Entry,loop.example/g00245/impl.Entry]" 4 where
  mixed := hM
  f22 := Try.func208.trans (by kernel_rfl)
  t3 := by kernel_rfl
  a3 := Ins.agg_false (P := Try.prog) (t := 3) (d := .int .i64) (by kernel_rfl) rfl
  t4 := by kernel_rfl
  a4 := Ins.agg_false (P := Try.prog) (t := 4) (d := .bool) (by kernel_rfl) rfl
  t24 := by kernel_rfl
  a24 := Ins.agg_false (P := Try.prog) (t := 79) (d := .slice 25) (by kernel_rfl) rfl
  z9 := Ins.size_of hE (t := 25) (ti := ⟨true, [.s, .i .i64, .i .i64, .s], 48⟩) (by kernel_rfl)
theorem ok208 : FnOk Try.prog T 208 sp208 :=
  Ins.insert_ok (e := 25) (te := ⟨true, [.s, .i .i64, .i .i64, .s], 48⟩) (by kernel_rfl) rfl (by kernel_rfl) hE ins208
    (fun args w => run_callFunc_extern (e := Extern.SlicesOverlaps.overlaps #[79, 79] #[4]) Try.func222 (by kernel_rfl) (by kernel_rfl) (by kernel_rfl) (by kernel_rfl) args w)
    ⟨_, Try.func208, by kernel_rfl, by kernel_rfl⟩

end Go.FG.Se

namespace Go.FG.Se
open Go.Proofs
def E164 : Env := { toTab := T, call := Go.FG.callIn [(207, sp207), (208, sp208)], mode := Go.FG.modeIn md, keep := Go.FG.keepIn [(3, [3, 5, 6])], tk := fun n => Go.FG.memB n [], om := Go.FG.omIn [] }
def it164 (N : Nat) {R : Type} : It R := fun rid f cn L K => bif Nat.beq rid 3 then (tell [(6, (.v (.v false [(.bp 0 0)]))), (10, (.v (.v false [(.own 1)]))), (12, (.v (.v false [(.i .i64 0)]))), (1, (.o (.box [(.s ⟨#[]⟩), (.i .i64 0), (.i .i64 0), (.s ⟨#[]⟩)]))), (3, (.o (.row 25 true [])))] (fun | [.I x0, .S x1, .I x2, .I x3, .S x4, .R x5] => Pu.impl_putEntry.l3 N (fun y0 y1 y2 y3 y4 y5 => (K (.exit 0) (tabl [(6, (.v (.v false [(.bp 0 0)]))), (10, (.v (.v false [(.own 1)]))), (12, (.v (.v false [(.i .i64 y0)]))), (1, (.o (.box [(.s y1), (.i .i64 y2), (.i .i64 y3), (.s y4)]))), (3, (.o (.row 25 true y5)))]))) N x0 x1 x2 x3 x4 x5 | _ => none) L (none)) else none
theorem e164_3 {R : Type} (N : Nat) (K : Ex → St → Option R) : ∀ n : Nat, (∀ x0 x1 x2 x3 x4 x5, iter (exc E164 (it164 N) (loopOf Try.f164 3)) (canon (E164.keep 3))  n (tabl [(6, (.v (.v false [(.bp 0 0)]))), (10, (.v (.v false [(.own 1)]))), (12, (.v (.v false [(.i .i64 x0)]))), (1, (.o (.box [(.s x1), (.i .i64 x2), (.i .i64 x3), (.s x4)]))), (3, (.o (.row 25 true x5)))]) K = Pu.impl_putEntry.l3 N (fun y0 y1 y2 y3 y4 y5 => (K (.exit 0) (tabl [(6, (.v (.v false [(.bp 0 0)]))), (10, (.v (.v false [(.own 1)]))), (12, (.v (.v false [(.i .i64 y0)]))), (1, (.o (.box [(.s y1), (.i .i64 y2), (.i .i64 y3), (.s y4)]))), (3, (.o (.row 25 true y5)))]))) n x0 x1 x2 x3 x4 x5) := by
  intro n
  induction n with
  | zero => exact (fun _ _ _ _ _ _ => rfl)
  | succ n ih =>
    have e0 : (fun x0 x1 x2 x3 x4 x5 => iter (exc E164 (it164 N) (loopOf Try.f164 3)) (canon (E164.keep 3))  n (tabl [(6, (.v (.v false [(.bp 0 0)]))), (10, (.v (.v false [(.own 1)]))), (12, (.v (.v false [(.i .i64 x0)]))), (1, (.o (.box [(.s x1), (.i .i64 x2), (.i .i64 x3), (.s x4)]))), (3, (.o (.row 25 true x5)))]) K) = Pu.impl_putEntry.l3 N (fun y0 y1 y2 y3 y4 y5 => (K (.exit 0) (tabl [(6, (.v (.v false [(.bp 0 0)]))), (10, (.v (.v false [(.own 1)]))), (12, (.v (.v false [(.i .i64 y0)]))), (1, (.o (.box [(.s y1), (.i .i64 y2), (.i .i64 y3), (.s y4)]))), (3, (.o (.row 25 true y5)))]))) n := by funext x0 x1 x2 x3 x4 x5; exact ih x0 x1 x2 x3 x4 x5
    intro x0 x1 x2 x3 x4 x5
    have h : ∀ g, exc E164 (it164 N) (loopOf Try.f164 3) (tabl [(6, (.v (.v false [(.bp 0 0)]))), (10, (.v (.v false [(.own 1)]))), (12, (.v (.v false [(.i .i64 x0)]))), (1, (.o (.box [(.s x1), (.i .i64 x2), (.i .i64 x3), (.s x4)]))), (3, (.o (.row 25 true x5)))]) (iterK g (canon (E164.keep 3)) K) = Pu.impl_putEntry.r3 N (fun x0 x1 x2 x3 x4 x5 => (g (tabl [(6, (.v (.v false [(.bp 0 0)]))), (10, (.v (.v false [(.own 1)]))), (12, (.v (.v false [(.i .i64 x0)]))), (1, (.o (.box [(.s x1), (.i .i64 x2), (.i .i64 x3), (.s x4)]))), (3, (.o (.row 25 true x5)))]))) (fun y0 y1 y2 y3 y4 y5 => (K (.exit 0) (tabl [(6, (.v (.v false [(.bp 0 0)]))), (10, (.v (.v false [(.own 1)]))), (12, (.v (.v false [(.i .i64 y0)]))), (1, (.o (.box [(.s y1), (.i .i64 y2), (.i .i64 y3), (.s y4)]))), (3, (.o (.row 25 true y5)))]))) x0 x1 x2 x3 x4 x5 := by intro g; kernel_rfl
    refine (h _).trans ?_
    show Pu.impl_putEntry.r3 N (fun x0 x1 x2 x3 x4 x5 => (iter (exc E164 (it164 N) (loopOf Try.f164 3)) (canon (E164.keep 3))  n (tabl [(6, (.v (.v false [(.bp 0 0)]))), (10, (.v (.v false [(.own 1)]))), (12, (.v (.v false [(.i .i64 x0)]))), (1, (.o (.box [(.s x1), (.i .i64 x2), (.i .i64 x3), (.s x4)]))), (3, (.o (.row 25 true x5)))]) K)) (fun y0 y1 y2 y3 y4 y5 => (K (.exit 0) (tabl [(6, (.v (.v false [(.bp 0 0)]))), (10, (.v (.v false [(.own 1)]))), (12, (.v (.v false [(.i .i64 y0)]))), (1, (.o (.box [(.s y1), (.i .i64 y2), (.i .i64 y3), (.s y4)]))), (3, (.o (.row 25 true y5)))]))) x0 x1 x2 x3 x4 x5 = _
    rw [e0]; rfl
theorem lo164_3 {R : Type} (N : Nat) : LoopOk E164 (it164 N (R := R)) (loopOf Try.f164 3) := by
  have e : firstRid (loopOf Try.f164 3) = 3 := by kernel_rfl
  intro L K r
  rw [e]
  intro h
  unfold it164 at h
  simp only [show Nat.beq 3 3 = true from rfl, cond_false, cond_true] at h
  refine tell_ok (Q := fun L => ∃ n, iter (exc E164 (it164 N) (loopOf Try.f164 3)) (canon (E164.keep 3)) n (tabl L) K = some r) h (fun xs h => ?_) (fun h => ?_)
  · (try dsimp only at h)
    split at h
    · exact ⟨N, ((e164_3 N K N) _ _ _ _ _ _).trans h⟩
    · cases h
  cases h
def sp164 : List Arg → Option (Bool × Res)
  | [(.v false [(.sh 25 list0)]), (.v true [(.s e1_0), (.i .i64 e1_1), (.i .i64 e1_2), (.s e1_3)])] => some (Pu.impl_putEntry.c list0 e1_0 e1_1 e1_2 e1_3, ⟨[(.v false [(.ow 25 true (Pu.impl_putEntry.v list0 e1_0 e1_1 e1_2 e1_3))])], []⟩)
  | _ => none
theorem ok164 : FnOk Try.prog T 164 sp164 := by
  refine fn_ok (E := E164) hE (call_cons ok207 (call_cons ok208 call_nil)) hM Try.func164 (code := (Try.f164.body.getD .skip)) (by kernel_rfl) (by kernel_rfl) ?_
  have key : ∀ (list0 : Row) (e1_0 : ByteArray) (e1_1 : Int) (e1_2 : Int) (e1_3 : ByteArray), Pu.impl_putEntry.c list0 e1_0 e1_1 e1_2 e1_3 = true → ∃ it : It Res, (∀ c ∈ loopsOf (Try.f164.body.getD .skip), LoopOk E164 it c) ∧ body E164 it Try.f164 [(.v false [(.sh 25 list0)]), (.v true [(.s e1_0), (.i .i64 e1_1), (.i .i64 e1_2), (.s e1_3)])] = some ⟨[(.v false [(.ow 25 true (Pu.impl_putEntry.v list0 e1_0 e1_1 e1_2 e1_3))])], []⟩ := by
    intro list0 e1_0 e1_1 e1_2 e1_3  h1
    obtain ⟨N, hN⟩ := Pu.impl_putEntry.b_eq (R := Res) (fun r0 => some ⟨[(.v false [(.ow 25 true r0)])], []⟩) list0 e1_0 e1_1 e1_2 e1_3 h1
    have hl : loopsOf (Try.f164.body.getD .skip) = [loopOf Try.f164 3] := by kernel_rfl
    refine ⟨it164 N, by rw [hl]; exact (loops_cons (lo164_3 N) loops_nil), ?_⟩
    refine Eq.trans (show body E164 (it164 N) Try.f164 [(.v false [(.sh 25 list0)]), (.v true [(.s e1_0), (.i .i64 e1_1), (.i .i64 e1_2), (.s e1_3)])] = Pu.impl_putEntry.b N (fun r0 => some ⟨[(.v false [(.ow 25 true r0)])], []⟩) list0 e1_0 e1_1 e1_2 e1_3 by kernel_rfl) hN
  intro args r h
  unfold sp164 at h
  split at h
  · injection h with h
    injection h with h1 h2
    subst h2
    exact ⟨by kernel_rfl, fun hf => ⟨of_decide_eq_true (by kernel_rfl), key _ _ _ _ _ h1⟩⟩
  · cases h

end Go.FG.Se

namespace Go.FG.Se
open Go.Proofs
def E86 : Env := { toTab := T, call := Go.FG.callIn [(151, sp151), (152, sp152), (163, sp163), (29, sp29), (164, sp164)], mode := Go.FG.modeIn md, keep := Go.FG.keepIn [(7, [3, 27, 28, 29])], tk := fun n => Go.FG.memB n [], om := Go.FG.omIn [] }
def it86 (N : Nat) {R : Type} : It R := fun rid f cn L K => bif Nat.beq rid 7 then (tell [(6, (.v (.v false [(.own 0)]))), (54, (.v (.v false [(.own 1)]))), (56, (.v (.v false [(.i .i64 0)]))), (58, (.v (.v false [(.i .i64 0)]))), (1, (.o (.row 25 true []))), (3, (.o (.row 9 true [])))] (fun | [.I x0, .I x1, .R x2, .R x3] => Pu.impl_FindKept.l7 N (fun y0 y1 y2 y3 => (K (.exit 0) (tabl [(6, (.v (.v false [(.own 0)]))), (54, (.v (.v false [(.own 1)]))), (56, (.v (.v false [(.i .i64 y0)]))), (58, (.v (.v false [(.i .i64 y1)]))), (1, (.o (.row 25 true y2))), (3, (.o (.row 9 true y3)))]))) N x0 x1 x2 x3 | _ => none) L (none)) else none
theorem e86_7 {R : Type} (N : Nat) (K : Ex → St → Option R) : ∀ n : Nat, (∀ x0 x1 x2 x3, iter (exc E86 (it86 N) (loopOf Try.f86 7)) (canon (E86.keep 7))  n (tabl [(6, (.v (.v false [(.own 0)]))), (54, (.v (.v false [(.own 1)]))), (56, (.v (.v false [(.i .i64 x0)]))), (58, (.v (.v false [(.i .i64 x1)]))), (1, (.o (.row 25 true x2))), (3, (.o (.row 9 true x3)))]) K = Pu.impl_FindKept.l7 N (fun y0 y1 y2 y3 => (K (.exit 0) (tabl [(6, (.v (.v false [(.own 0)]))), (54, (.v (.v false [(.own 1)]))), (56, (.v (.v false [(.i .i64 y0)]))), (58, (.v (.v false [(.i .i64 y1)]))), (1, (.o (.row 25 true y2))), (3, (.o (.row 9 true y3)))]))) n x0 x1 x2 x3) := by
  intro n
  induction n with
  | zero => exact (fun _ _ _ _ => rfl)
  | succ n ih =>
    have e0 : (fun x0 x1 x2 x3 => iter (exc E86 (it86 N) (loopOf Try.f86 7)) (canon (E86.keep 7))  n (tabl [(6, (.v (.v false [(.own 0)]))), (54, (.v (.v false [(.own 1)]))), (56, (.v (.v false [(.i .i64 x0)]))), (58, (.v (.v false [(.i .i64 x1)]))), (1, (.o (.row 25 true x2))), (3, (.o (.row 9 true x3)))]) K) = Pu.impl_FindKept.l7 N (fun y0 y1 y2 y3 => (K (.exit 0) (tabl [(6, (.v (.v false [(.own 0)]))), (54, (.v (.v false [(.own 1)]))), (56, (.v (.v false [(.i .i64 y0)]))), (58, (.v (.v false [(.i .i64 y1)]))), (1, (.o (.row 25 true y2))), (3, (.o (.row 9 true y3)))]))) n := by funext x0 x1 x2 x3; exact ih x0 x1 x2 x3
    intro x0 x1 x2 x3
    have h : ∀ g, exc E86 (it86 N) (loopOf Try.f86 7) (tabl [(6, (.v (.v false [(.own 0)]))), (54, (.v (.v false [(.own 1)]))), (56, (.v (.v false [(.i .i64 x0)]))), (58, (.v (.v false [(.i .i64 x1)]))), (1, (.o (.row 25 true x2))), (3, (.o (.row 9 true x3)))]) (iterK g (canon (E86.keep 7)) K) = Pu.impl_FindKept.r7 N (fun x0 x1 x2 x3 => (g (tabl [(6, (.v (.v false [(.own 0)]))), (54, (.v (.v false [(.own 1)]))), (56, (.v (.v false [(.i .i64 x0)]))), (58, (.v (.v false [(.i .i64 x1)]))), (1, (.o (.row 25 true x2))), (3, (.o (.row 9 true x3)))]))) (fun y0 y1 y2 y3 => (K (.exit 0) (tabl [(6, (.v (.v false [(.own 0)]))), (54, (.v (.v false [(.own 1)]))), (56, (.v (.v false [(.i .i64 y0)]))), (58, (.v (.v false [(.i .i64 y1)]))), (1, (.o (.row 25 true y2))), (3, (.o (.row 9 true y3)))]))) x0 x1 x2 x3 := by intro g; kernel_rfl
    refine (h _).trans ?_
    show Pu.impl_FindKept.r7 N (fun x0 x1 x2 x3 => (iter (exc E86 (it86 N) (loopOf Try.f86 7)) (canon (E86.keep 7))  n (tabl [(6, (.v (.v false [(.own 0)]))), (54, (.v (.v false [(.own 1)]))), (56, (.v (.v false [(.i .i64 x0)]))), (58, (.v (.v false [(.i .i64 x1)]))), (1, (.o (.row 25 true x2))), (3, (.o (.row 9 true x3)))]) K)) (fun y0 y1 y2 y3 => (K (.exit 0) (tabl [(6, (.v (.v false [(.own 0)]))), (54, (.v (.v false [(.own 1)]))), (56, (.v (.v false [(.i .i64 y0)]))), (58, (.v (.v false [(.i .i64 y1)]))), (1, (.o (.row 25 true y2))), (3, (.o (.row 9 true y3)))]))) x0 x1 x2 x3 = _
    rw [e0]; rfl
theorem lo86_7 {R : Type} (N : Nat) : LoopOk E86 (it86 N (R := R)) (loopOf Try.f86 7) := by
  have e : firstRid (loopOf Try.f86 7) = 7 := by kernel_rfl
  intro L K r
  rw [e]
  intro h
  unfold it86 at h
  simp only [show Nat.beq 7 7 = true from rfl, cond_false, cond_true] at h
  refine tell_ok (Q := fun L => ∃ n, iter (exc E86 (it86 N) (loopOf Try.f86 7)) (canon (E86.keep 7)) n (tabl L) K = some r) h (fun xs h => ?_) (fun h => ?_)
  · (try dsimp only at h)
    split at h
    · exact ⟨N, ((e86_7 N K N) _ _ _ _).trans h⟩
    · cases h
  cases h
def sp86 : List Arg → Option (Bool × Res)
  | [(.v true [(.sh 231 d0)])] => some (Pu.impl_FindKept.c d0, ⟨[(.v false [(.ow 25 true (Pu.impl_FindKept.v d0))])], []⟩)
  | _ => none
theorem ok86 : FnOk Try.prog T 86 sp86 := by
  refine fn_ok (E := E86) hE (call_cons ok151 (call_cons ok152 (call_cons ok163 (call_cons ok29 (call_cons ok164 call_nil))))) hM Try.func86 (code := (Try.f86.body.getD .skip)) (by kernel_rfl) (by kernel_rfl) ?_
  have key : ∀ (d0 : Row), Pu.impl_FindKept.c d0 = true → ∃ it : It Res, (∀ c ∈ loopsOf (Try.f86.body.getD .skip), LoopOk E86 it c) ∧ body E86 it Try.f86 [(.v true [(.sh 231 d0)])] = some ⟨[(.v false [(.ow 25 true (Pu.impl_FindKept.v d0))])], []⟩ := by
    intro d0  h1
    obtain ⟨N, hN⟩ := Pu.impl_FindKept.b_eq (R := Res) (fun r0 => some ⟨[(.v false [(.ow 25 true r0)])], []⟩) d0 h1
    have hl : loopsOf (Try.f86.body.getD .skip) = [loopOf Try.f86 7] := by kernel_rfl
    refine ⟨it86 N, by rw [hl]; exact (loops_cons (lo86_7 N) loops_nil), ?_⟩
    refine Eq.trans (show body E86 (it86 N) Try.f86 [(.v true [(.sh 231 d0)])] = Pu.impl_FindKept.b N (fun r0 => some ⟨[(.v false [(.ow 25 true r0)])], []⟩) d0 by kernel_rfl) hN
  intro args r h
  unfold sp86 at h
  split at h
  · injection h with h
    injection h with h1 h2
    subst h2
    exact ⟨by kernel_rfl, fun hf => ⟨of_decide_eq_true (by kernel_rfl), key _ h1⟩⟩
  · cases h

end Go.FG.Se

namespace Go.FG.Se
open Go.Proofs
def E154 : Env := { toTab := T, call := Go.FG.callIn [], mode := Go.FG.modeIn md, keep := Go.FG.keepIn [], tk := fun n => Go.FG.memB n [], om := Go.FG.omIn [] }
def sp154 : List Arg → Option (Bool × Res)
  | [(.v true [(.s a0_0), (.i .i64 a0_1), (.i .i64 a0_2), (.s a0_3)]), (.v true [(.s b1_0), (.i .i64 b1_1), (.i .i64 b1_2), (.s b1_3)])] => some (true, ⟨[(.v false [(.b (Pu.laws_eqEntry.v a0_0 a0_1 a0_2 a0_3 b1_0 b1_1 b1_2 b1_3))])], []⟩)
  | _ => none
theorem ok154 : FnOk Try.prog T 154 sp154 := by
  refine fn_ok (E := E154) hE call_nil hM Try.func154 (code := (Try.f154.body.getD .skip)) (by kernel_rfl) (by kernel_rfl) ?_
  have key : ∀ (a0_0 : ByteArray) (a0_1 : Int) (a0_2 : Int) (a0_3 : ByteArray) (b1_0 : ByteArray) (b1_1 : Int) (b1_2 : Int) (b1_3 : ByteArray), ∃ it : It Res, (∀ c ∈ loopsOf (Try.f154.body.getD .skip), LoopOk E154 it c) ∧ body E154 it Try.f154 [(.v true [(.s a0_0), (.i .i64 a0_1), (.i .i64 a0_2), (.s a0_3)]), (.v true [(.s b1_0), (.i .i64 b1_1), (.i .i64 b1_2), (.s b1_3)])] = some ⟨[(.v false [(.b (Pu.laws_eqEntry.v a0_0 a0_1 a0_2 a0_3 b1_0 b1_1 b1_2 b1_3))])], []⟩ := by
    intro a0_0 a0_1 a0_2 a0_3 b1_0 b1_1 b1_2 b1_3 
    have hN := Pu.laws_eqEntry.b_eq (R := Res) (fun r0 => some ⟨[(.v false [(.b r0)])], []⟩) a0_0 a0_1 a0_2 a0_3 b1_0 b1_1 b1_2 b1_3
    have hl : loopsOf (Try.f154.body.getD .skip) = [] := by kernel_rfl
    refine ⟨iterN 0, by rw [hl]; exact loops_nil, ?_⟩
    refine Eq.trans (show body E154 (iterN 0) Try.f154 [(.v true [(.s a0_0), (.i .i64 a0_1), (.i .i64 a0_2), (.s a0_3)]), (.v true [(.s b1_0), (.i .i64 b1_1), (.i .i64 b1_2), (.s b1_3)])] = Pu.laws_eqEntry.b (fun r0 => some ⟨[(.v false [(.b r0)])], []⟩) a0_0 a0_1 a0_2 a0_3 b1_0 b1_1 b1_2 b1_3 by kernel_rfl) hN
  intro args r h
  unfold sp154 at h
  split at h
  · injection h with h
    injection h with h1 h2
    subst h2
    exact ⟨by kernel_rfl, fun hf => ⟨of_decide_eq_true (by kernel_rfl), key _ _ _ _ _ _ _ _⟩⟩
  · cases h

end Go.FG.Se

namespace Go.FG.Se
open Go.Proofs
def E77 : Env := { toTab := T, call := Go.FG.callIn [(154, sp154)], mode := Go.FG.modeIn md, keep := Go.FG.keepIn [(4, [0, 1, 4, 5])], tk := fun n => Go.FG.memB n [], om := Go.FG.omIn [] }
def it77 (N : Nat) {R : Type} : It R := fun rid f cn L K => bif Nat.beq rid 4 then (tell [(0, (.v (.v false [(.sh 25 [])]))), (2, (.v (.v false [(.sh 25 [])]))), (8, (.v (.v false [(.b false)]))), (10, (.v (.v false [(.i .i64 0)])))] (fun | [.R x0, .R x1, .B x2, .I x3] => Pu.laws_eqEntryS.l4 N (fun y0 y1 y2 y3 => (K .ret (tabl [(0, (.v (.v false [(.sh 25 y0)]))), (2, (.v (.v false [(.sh 25 y1)]))), (8, (.v (.v false [(.b y2)]))), (10, (.v (.v false [(.i .i64 y3)])))]))) (fun y0 y1 y2 y3 => (K (.exit 0) (tabl [(0, (.v (.v false [(.sh 25 y0)]))), (2, (.v (.v false [(.sh 25 y1)]))), (8, (.v (.v false [(.b y2)]))), (10, (.v (.v false [(.i .i64 y3)])))]))) N x0 x1 x2 x3 | _ => none) L (none)) else none
theorem e77_4 {R : Type} (N : Nat) (K : Ex → St → Option R) : ∀ n : Nat, (∀ x0 x1 x2 x3, iter (exc E77 (it77 N) (loopOf Try.f77 4)) (canon (E77.keep 4))  n (tabl [(0, (.v (.v false [(.sh 25 x0)]))), (2, (.v (.v false [(.sh 25 x1)]))), (8, (.v (.v false [(.b x2)]))), (10, (.v (.v false [(.i .i64 x3)])))]) K = Pu.laws_eqEntryS.l4 N (fun y0 y1 y2 y3 => (K .ret (tabl [(0, (.v (.v false [(.sh 25 y0)]))), (2, (.v (.v false [(.sh 25 y1)]))), (8, (.v (.v false [(.b y2)]))), (10, (.v (.v false [(.i .i64 y3)])))]))) (fun y0 y1 y2 y3 => (K (.exit 0) (tabl [(0, (.v (.v false [(.sh 25 y0)]))), (2, (.v (.v false [(.sh 25 y1)]))), (8, (.v (.v false [(.b y2)]))), (10, (.v (.v false [(.i .i64 y3)])))]))) n x0 x1 x2 x3) := by
  intro n
  induction n with
  | zero => exact (fun _ _ _ _ => rfl)
  | succ n ih =>
    have e0 : (fun x0 x1 x2 x3 => iter (exc E77 (it77 N) (loopOf Try.f77 4)) (canon (E77.keep 4))  n (tabl [(0, (.v (.v false [(.sh 25 x0)]))), (2, (.v (.v false [(.sh 25 x1)]))), (8, (.v (.v false [(.b x2)]))), (10, (.v (.v false [(.i .i64 x3)])))]) K) = Pu.laws_eqEntryS.l4 N (fun y0 y1 y2 y3 => (K .ret (tabl [(0, (.v (.v false [(.sh 25 y0)]))), (2, (.v (.v false [(.sh 25 y1)]))), (8, (.v (.v false [(.b y2)]))), (10, (.v (.v false [(.i .i64 y3)])))]))) (fun y0 y1 y2 y3 => (K (.exit 0) (tabl [(0, (.v (.v false [(.sh 25 y0)]))), (2, (.v (.v false [(.sh 25 y1)]))), (8, (.v (.v false [(.b y2)]))), (10, (.v (.v false [(.i .i64 y3)])))]))) n := by funext x0 x1 x2 x3; exact ih x0 x1 x2 x3
    intro x0 x1 x2 x3
    have h : ∀ g, exc E77 (it77 N) (loopOf Try.f77 4) (tabl [(0, (.v (.v false [(.sh 25 x0)]))), (2, (.v (.v false [(.sh 25 x1)]))), (8, (.v (.v false [(.b x2)]))), (10, (.v (.v false [(.i .i64 x3)])))]) (iterK g (canon (E77.keep 4)) K) = Pu.laws_eqEntryS.r4 N (fun x0 x1 x2 x3 => (g (tabl [(0, (.v (.v false [(.sh 25 x0)]))), (2, (.v (.v false [(.sh 25 x1)]))), (8, (.v (.v false [(.b x2)]))), (10, (.v (.v false [(.i .i64 x3)])))]))) (fun y0 y1 y2 y3 => (K .ret (tabl [(0, (.v (.v false [(.sh 25 y0)]))), (2, (.v (.v false [(.sh 25 y1)]))), (8, (.v (.v false [(.b y2)]))), (10, (.v (.v false [(.i .i64 y3)])))]))) (fun y0 y1 y2 y3 => (K (.exit 0) (tabl [(0, (.v (.v false [(.sh 25 y0)]))), (2, (.v (.v false [(.sh 25 y1)]))), (8, (.v (.v false [(.b y2)]))), (10, (.v (.v false [(.i .i64 y3)])))]))) x0 x1 x2 x3 := by intro g; kernel_rfl
    refine (h _).trans ?_
    show Pu.laws_eqEntryS.r4 N (fun x0 x1 x2 x3 => (iter (exc E77 (it77 N) (loopOf Try.f77 4)) (canon (E77.keep 4))  n (tabl [(0, (.v (.v false [(.sh 25 x0)]))), (2, (.v (.v false [(.sh 25 x1)]))), (8, (.v (.v false [(.b x2)]))), (10, (.v (.v false [(.i .i64 x3)])))]) K)) (fun y0 y1 y2 y3 => (K .ret (tabl [(0, (.v (.v false [(.sh 25 y0)]))), (2, (.v (.v false [(.sh 25 y1)]))), (8, (.v (.v false [(.b y2)]))), (10, (.v (.v false [(.i .i64 y3)])))]))) (fun y0 y1 y2 y3 => (K (.exit 0) (tabl [(0, (.v (.v false [(.sh 25 y0)]))), (2, (.v (.v false [(.sh 25 y1)]))), (8, (.v (.v false [(.b y2)]))), (10, (.v (.v false [(.i .i64 y3)])))]))) x0 x1 x2 x3 = _
    rw [e0]; rfl
theorem lo77_4 {R : Type} (N : Nat) : LoopOk E77 (it77 N (R := R)) (loopOf Try.f77 4) := by
  have e : firstRid (loopOf Try.f77 4) = 4 := by kernel_rfl
  intro L K r
  rw [e]
  intro h
  unfold it77 at h
  simp only [show Nat.beq 4 4 = true from rfl, cond_false, cond_true] at h
  refine tell_ok (Q := fun L => ∃ n, iter (exc E77 (it77 N) (loopOf Try.f77 4)) (canon (E77.keep 4)) n (tabl L) K = some r) h (fun xs h => ?_) (fun h => ?_)
  · (try dsimp only at h)
    split at h
    · exact ⟨N, ((e77_4 N K N) _ _ _ _).trans h⟩
    · cases h
  cases h
def sp77 : List Arg → Option (Bool × Res)
  | [(.v false [(.sh 25 a0)]), (.v false [(.sh 25 b1)])] => some (Pu.laws_eqEntryS.c a0 b1, ⟨[(.v false [(.b (Pu.laws_eqEntryS.v a0 b1))])], []⟩)
  | _ => none
theorem ok77 : FnOk Try.prog T 77 sp77 := by
  refine fn_ok (E := E77) hE (call_cons ok154 call_nil) hM Try.func77 (code := (Try.f77.body.getD .skip)) (by kernel_rfl) (by kernel_rfl) ?_
  have key : ∀ (a0 : Row) (b1 : Row), Pu.laws_eqEntryS.c a0 b1 = true → ∃ it : It Res, (∀ c ∈ loopsOf (Try.f77.body.getD .skip), LoopOk E77 it c) ∧ body E77 it Try.f77 [(.v false [(.sh 25 a0)]), (.v false [(.sh 25 b1)])] = some ⟨[(.v false [(.b (Pu.laws_eqEntryS.v a0 b1))])], []⟩ := by
    intro a0 b1  h1
    obtain ⟨N, hN⟩ := Pu.laws_eqEntryS.b_eq (R := Res) (fun r0 => some ⟨[(.v false [(.b r0)])], []⟩) a0 b1 h1
    have hl : loopsOf (Try.f77.body.getD .skip) = [loopOf Try.f77 4] := by kernel_rfl
    refine ⟨it77 N, by rw [hl]; exact (loops_cons (lo77_4 N) loops_nil), ?_⟩
    refine Eq.trans (show body E77 (it77 N) Try.f77 [(.v false [(.sh 25 a0)]), (.v false [(.sh 25 b1)])] = Pu.laws_eqEntryS.b N (fun r0 => some ⟨[(.v false [(.b r0)])], []⟩) a0 b1 by kernel_rfl) hN
  intro args r h
  unfold sp77 at h
  split at h
  · injection h with h
    injection h with h1 h2
    subst h2
    exact ⟨by kernel_rfl, fun hf => ⟨of_decide_eq_true (by kernel_rfl), key _ _ h1⟩⟩
  · cases h

end Go.FG.Se

namespace Go.FG.Se
open Go.Proofs
def E204 : Env := { toTab := T, call := Go.FG.callIn [], mode := Go.FG.modeIn md, keep := Go.FG.keepIn [], tk := fun n => Go.FG.memB n [], om := Go.FG.omIn [] }
def sp204 : List Arg → Option (Bool × Res)
  | [(.v true [(.s a0_0), (.s a0_1), (.i .i64 a0_2)]), (.v true [(.s b1_0), (.s b1_1), (.i .i64 b1_2)])] => some (true, ⟨[(.v false [(.b (Pu.laws_eqFile.v a0_0 a0_1 a0_2 b1_0 b1_1 b1_2))])], []⟩)
  | _ => none
theorem ok204 : FnOk Try.prog T 204 sp204 := by
  refine fn_ok (E := E204) hE call_nil hM Try.func204 (code := (Try.f204.body.getD .skip)) (by kernel_rfl) (by kernel_rfl) ?_
  have key : ∀ (a0_0 : ByteArray) (a0_1 : ByteArray) (a0_2 : Int) (b1_0 : ByteArray) (b1_1 : ByteArray) (b1_2 : Int), ∃ it : It Res, (∀ c ∈ loopsOf (Try.f204.body.getD .skip), LoopOk E204 it c) ∧ body E204 it Try.f204 [(.v true [(.s a0_0), (.s a0_1), (.i .i64 a0_2)]), (.v true [(.s b1_0), (.s b1_1), (.i .i64 b1_2)])] = some ⟨[(.v false [(.b (Pu.laws_eqFile.v a0_0 a0_1 a0_2 b1_0 b1_1 b1_2))])], []⟩ := by
    intro a0_0 a0_1 a0_2 b1_0 b1_1 b1_2 
    have hN := Pu.laws_eqFile.b_eq (R := Res) (fun r0 => some ⟨[(.v false [(.b r0)])], []⟩) a0_0 a0_1 a0_2 b1_0 b1_1 b1_2
    have hl : loopsOf (Try.f204.body.getD .skip) = [] := by kernel_rfl
    refine ⟨iterN 0, by rw [hl]; exact loops_nil, ?_⟩
    refine Eq.trans (show body E204 (iterN 0) Try.f204 [(.v true [(.s a0_0), (.s a0_1), (.i .i64 a0_2)]), (.v true [(.s b1_0), (.s b1_1), (.i .i64 b1_2)])] = Pu.laws_eqFile.b (fun r0 => some ⟨[(.v false [(.b r0)])], []⟩) a0_0 a0_1 a0_2 b1_0 b1_1 b1_2 by kernel_rfl) hN
  intro args r h
  unfold sp204 at h
  split at h
  · injection h with h
    injection h with h1 h2
    subst h2
    exact ⟨by kernel_rfl, fun hf => ⟨of_decide_eq_true (by kernel_rfl), key _ _ _ _ _ _⟩⟩
  · cases h

end Go.FG.Se

namespace Go.FG.Se
open Go.Proofs
def E153 : Env := { toTab := T, call := Go.FG.callIn [(204, sp204)], mode := Go.FG.modeIn md, keep := Go.FG.keepIn [(4, [0, 1, 4, 5])], tk := fun n => Go.FG.memB n [], om := Go.FG.omIn [] }
def it153 (N : Nat) {R : Type} : It R := fun rid f cn L K => bif Nat.beq rid 4 then (tell [(0, (.v (.v false [(.sh 231 [])]))), (2, (.v (.v false [(.sh 231 [])]))), (8, (.v (.v false [(.b false)]))), (10, (.v (.v false [(.i .i64 0)])))] (fun | [.R x0, .R x1, .B x2, .I x3] => Pu.laws_eqFileS.l4 N (fun y0 y1 y2 y3 => (K .ret (tabl [(0, (.v (.v false [(.sh 231 y0)]))), (2, (.v (.v false [(.sh 231 y1)]))), (8, (.v (.v false [(.b y2)]))), (10, (.v (.v false [(.i .i64 y3)])))]))) (fun y0 y1 y2 y3 => (K (.exit 0) (tabl [(0, (.v (.v false [(.sh 231 y0)]))), (2, (.v (.v false [(.sh 231 y1)]))), (8, (.v (.v false [(.b y2)]))), (10, (.v (.v false [(.i .i64 y3)])))]))) N x0 x1 x2 x3 | _ => none) L (none)) else none
theorem e153_4 {R : Type} (N : Nat) (K : Ex → St → Option R) : ∀ n : Nat, (∀ x0 x1 x2 x3, iter (exc E153 (it153 N) (loopOf Try.f153 4)) (canon (E153.keep 4))  n (tabl [(0, (.v (.v false [(.sh 231 x0)]))), (2, (.v (.v false [(.sh 231 x1)]))), (8, (.v (.v false [(.b x2)]))), (10, (.v (.v false [(.i .i64 x3)])))]) K = Pu.laws_eqFileS.l4 N (fun y0 y1 y2 y3 => (K .ret (tabl [(0, (.v (.v false [(.sh 231 y0)]))), (2, (.v (.v false [(.sh 231 y1)]))), (8, (.v (.v false [(.b y2)]))), (10, (.v (.v false [(.i .i64 y3)])))]))) (fun y0 y1 y2 y3 => (K (.exit 0) (tabl [(0, (.v (.v false [(.sh 231 y0)]))), (2, (.v (.v false [(.sh 231 y1)]))), (8, (.v (.v false [(.b y2)]))), (10, (.v (.v false [(.i .i64 y3)])))]))) n x0 x1 x2 x3) := by
  intro n
  induction n with
  | zero => exact (fun _ _ _ _ => rfl)
  | succ n ih =>
    have e0 : (fun x0 x1 x2 x3 => iter (exc E153 (it153 N) (loopOf Try.f153 4)) (canon (E153.keep 4))  n (tabl [(0, (.v (.v false [(.sh 231 x0)]))), (2, (.v (.v false [(.sh 231 x1)]))), (8, (.v (.v false [(.b x2)]))), (10, (.v (.v false [(.i .i64 x3)])))]) K) = Pu.laws_eqFileS.l4 N (fun y0 y1 y2 y3 => (K .ret (tabl [(0, (.v (.v false [(.sh 231 y0)]))), (2, (.v (.v false [(.sh 231 y1)]))), (8, (.v (.v false [(.b y2)]))), (10, (.v (.v false [(.i .i64 y3)])))]))) (fun y0 y1 y2 y3 => (K (.exit 0) (tabl [(0, (.v (.v false [(.sh 231 y0)]))), (2, (.v (.v false [(.sh 231 y1)]))), (8, (.v (.v false [(.b y2)]))), (10, (.v (.v false [(.i .i64 y3)])))]))) n := by funext x0 x1 x2 x3; exact ih x0 x1 x2 x3
    intro x0 x1 x2 x3
    have h : ∀ g, exc E153 (it153 N) (loopOf Try.f153 4) (tabl [(0, (.v (.v false [(.sh 231 x0)]))), (2, (.v (.v false [(.sh 231 x1)]))), (8, (.v (.v false [(.b x2)]))), (10, (.v (.v false [(.i .i64 x3)])))]) (iterK g (canon (E153.keep 4)) K) = Pu.laws_eqFileS.r4 N (fun x0 x1 x2 x3 => (g (tabl [(0, (.v (.v false [(.sh 231 x0)]))), (2, (.v (.v false [(.sh 231 x1)]))), (8, (.v (.v false [(.b x2)]))), (10, (.v (.v false [(.i .i64 x3)])))]))) (fun y0 y1 y2 y3 => (K .ret (tabl [(0, (.v (.v false [(.sh 231 y0)]))), (2, (.v (.v false [(.sh 231 y1)]))), (8, (.v (.v false [(.b y2)]))), (10, (.v (.v false [(.i .i64 y3)])))]))) (fun y0 y1 y2 y3 => (K (.exit 0) (tabl [(0, (.v (.v false [(.sh 231 y0)]))), (2, (.v (.v false [(.sh 231 y1)]))), (8, (.v (.v false [(.b y2)]))), (10, (.v (.v false [(.i .i64 y3)])))]))) x0 x1 x2 x3 := by intro g; kernel_rfl
    refine (h _).trans ?_
    show Pu.laws_eqFileS.r4 N (fun x0 x1 x2 x3 => (iter (exc E153 (it153 N) (loopOf Try.f153 4)) (canon (E153.keep 4))  n (tabl [(0, (.v (.v false [(.sh 231 x0)]))), (2, (.v (.v false [(.sh 231 x1)]))), (8, (.v (.v false [(.b x2)]))), (10, (.v (.v false [(.i .i64 x3)])))]) K)) (fun y0 y1 y2 y3 => (K .ret (tabl [(0, (.v (.v false [(.sh 231 y0)]))), (2, (.v (.v false [(.sh 231 y1)]))), (8, (.v (.v false [(.b y2)]))), (10, (.v (.v false [(.i .i64 y3)])))]))) (fun y0 y1 y2 y3 => (K (.exit 0) (tabl [(0, (.v (.v false [(.sh 231 y0)]))), (2, (.v (.v false [(.sh 231 y1)]))), (8, (.v (.v false [(.b y2)]))), (10, (.v (.v false [(.i .i64 y3)])))]))) x0 x1 x2 x3 = _
    rw [e0]; rfl
theorem lo153_4 {R : Type} (N : Nat) : LoopOk E153 (it153 N (R := R)) (loopOf Try.f153 4) := by
  have e : firstRid (loopOf Try.f153 4) = 4 := by kernel_rfl
  intro L K r
  rw [e]
  intro h
  unfold it153 at h
  simp only [show Nat.beq 4 4 = true from rfl, cond_false, cond_true] at h
  refine tell_ok (Q := fun L => ∃ n, iter (exc E153 (it153 N) (loopOf Try.f153 4)) (canon (E153.keep 4)) n (tabl L) K = some r) h (fun xs h => ?_) (fun h => ?_)
  · (try dsimp only at h)
    split at h
    · exact ⟨N, ((e153_4 N K N) _ _ _ _).trans h⟩
    · cases h
  cases h
def sp153 : List Arg → Option (Bool × Res)
  | [(.v false [(.sh 231 a0)]), (.v false [(.sh 231 b1)])] => some (Pu.laws_eqFileS.c a0 b1, ⟨[(.v false [(.b (Pu.laws_eqFileS.v a0 b1))])], []⟩)
  | _ => none
theorem ok153 : FnOk Try.prog T 153 sp153 := by
  refine fn_ok (E := E153) hE (call_cons ok204 call_nil) hM Try.func153 (code := (Try.f153.body.getD .skip)) (by kernel_rfl) (by kernel_rfl) ?_
  have key : ∀ (a0 : Row) (b1 : Row), Pu.laws_eqFileS.c a0 b1 = true → ∃ it : It Res, (∀ c ∈ loopsOf (Try.f153.body.getD .skip), LoopOk E153 it c) ∧ body E153 it Try.f153 [(.v false [(.sh 231 a0)]), (.v false [(.sh 231 b1)])] = some ⟨[(.v false [(.b (Pu.laws_eqFileS.v a0 b1))])], []⟩ := by
    intro a0 b1  h1
    obtain ⟨N, hN⟩ := Pu.laws_eqFileS.b_eq (R := Res) (fun r0 => some ⟨[(.v false [(.b r0)])], []⟩) a0 b1 h1
    have hl : loopsOf (Try.f153.body.getD .skip) = [loopOf Try.f153 4] := by kernel_rfl
    refine ⟨it153 N, by rw [hl]; exact (loops_cons (lo153_4 N) loops_nil), ?_⟩
    refine Eq.trans (show body E153 (it153 N) Try.f153 [(.v false [(.sh 231 a0)]), (.v false [(.sh 231 b1)])] = Pu.laws_eqFileS.b N (fun r0 => some ⟨[(.v false [(.b r0)])], []⟩) a0 b1 by kernel_rfl) hN
  intro args r h
  unfold sp153 at h
  split at h
  · injection h with h
    injection h with h1 h2
    subst h2
    exact ⟨by kernel_rfl, fun hf => ⟨of_decide_eq_true (by kernel_rfl), key _ _ h1⟩⟩
  · cases h

end Go.FG.Se

namespace Go.FG.Se
open Go.Proofs
def E76 : Env := { toTab := T, call := Go.FG.callIn [(153, sp153)], mode := Go.FG.modeIn md, keep := Go.FG.keepIn [], tk := fun n => Go.FG.memB n [], om := Go.FG.omIn [] }
def sp76 : List Arg → Option (Bool × Res)
  | [(.v true [(.sh 231 a0)]), (.v true [(.sh 231 b1)])] => some (Pu.laws_eqDisk.c a0 b1, ⟨[(.v false [(.b (Pu.laws_eqDisk.v a0 b1))])], []⟩)
  | _ => none
theorem ok76 : FnOk Try.prog T 76 sp76 := by
  refine fn_ok (E := E76) hE (call_cons ok153 call_nil) hM Try.func76 (code := (Try.f76.body.getD .skip)) (by kernel_rfl) (by kernel_rfl) ?_
  have key : ∀ (a0 : Row) (b1 : Row), Pu.laws_eqDisk.c a0 b1 = true → ∃ it : It Res, (∀ c ∈ loopsOf (Try.f76.body.getD .skip), LoopOk E76 it c) ∧ body E76 it Try.f76 [(.v true [(.sh 231 a0)]), (.v true [(.sh 231 b1)])] = some ⟨[(.v false [(.b (Pu.laws_eqDisk.v a0 b1))])], []⟩ := by
    intro a0 b1  h1
    have hN := Pu.laws_eqDisk.b_eq (R := Res) (fun r0 => some ⟨[(.v false [(.b r0)])], []⟩) a0 b1 h1
    have hl : loopsOf (Try.f76.body.getD .skip) = [] := by kernel_rfl
    refine ⟨iterN 0, by rw [hl]; exact loops_nil, ?_⟩
    refine Eq.trans (show body E76 (iterN 0) Try.f76 [(.v true [(.sh 231 a0)]), (.v true [(.sh 231 b1)])] = Pu.laws_eqDisk.b (fun r0 => some ⟨[(.v false [(.b r0)])], []⟩) a0 b1 by kernel_rfl) hN
  intro args r h
  unfold sp76 at h
  split at h
  · injection h with h
    injection h with h1 h2
    subst h2
    exact ⟨by kernel_rfl, fun hf => ⟨of_decide_eq_true (by kernel_rfl), key _ _ h1⟩⟩
  · cases h

end Go.FG.Se

namespace Go.FG.Se
open Go.Proofs
def E100 : Env := { toTab := T, call := Go.FG.callIn [], mode := Go.FG.modeIn md, keep := Go.FG.keepIn [(4, [0, 3])], tk := fun n => Go.FG.memB n [], om := Go.FG.omIn [] }
def it100 (N : Nat) {R : Type} : It R := fun rid f cn L K => bif Nat.beq rid 4 then (tell [(0, (.v (.v false [(.i .i64 0)]))), (6, (.v (.v false [(.s ⟨#[]⟩)])))] (fun | [.I x0, .S x1] => Pu.laws_markText.l4 N (fun y0 y1 => (K (.exit 0) (tabl [(0, (.v (.v false [(.i .i64 y0)]))), (6, (.v (.v false [(.s y1)])))]))) N x0 x1 | _ => none) L (none)) else none
theorem e100_4 {R : Type} (N : Nat) (K : Ex → St → Option R) : ∀ n : Nat, (∀ x0 x1, iter (exc E100 (it100 N) (loopOf Try.f100 4)) (canon (E100.keep 4))  n (tabl [(0, (.v (.v false [(.i .i64 x0)]))), (6, (.v (.v false [(.s x1)])))]) K = Pu.laws_markText.l4 N (fun y0 y1 => (K (.exit 0) (tabl [(0, (.v (.v false [(.i .i64 y0)]))), (6, (.v (.v false [(.s y1)])))]))) n x0 x1) := by
  intro n
  induction n with
  | zero => exact (fun _ _ => rfl)
  | succ n ih =>
    have e0 : (fun x0 x1 => iter (exc E100 (it100 N) (loopOf Try.f100 4)) (canon (E100.keep 4))  n (tabl [(0, (.v (.v false [(.i .i64 x0)]))), (6, (.v (.v false [(.s x1)])))]) K) = Pu.laws_markText.l4 N (fun y0 y1 => (K (.exit 0) (tabl [(0, (.v (.v false [(.i .i64 y0)]))), (6, (.v (.v false [(.s y1)])))]))) n := by funext x0 x1; exact ih x0 x1
    intro x0 x1
    have h : ∀ g, exc E100 (it100 N) (loopOf Try.f100 4) (tabl [(0, (.v (.v false [(.i .i64 x0)]))), (6, (.v (.v false [(.s x1)])))]) (iterK g (canon (E100.keep 4)) K) = Pu.laws_markText.r4 N (fun x0 x1 => (g (tabl [(0, (.v (.v false [(.i .i64 x0)]))), (6, (.v (.v false [(.s x1)])))]))) (fun y0 y1 => (K (.exit 0) (tabl [(0, (.v (.v false [(.i .i64 y0)]))), (6, (.v (.v false [(.s y1)])))]))) x0 x1 := by intro g; kernel_rfl
    refine (h _).trans ?_
    show Pu.laws_markText.r4 N (fun x0 x1 => (iter (exc E100 (it100 N) (loopOf Try.f100 4)) (canon (E100.keep 4))  n (tabl [(0, (.v (.v false [(.i .i64 x0)]))), (6, (.v (.v false [(.s x1)])))]) K)) (fun y0 y1 => (K (.exit 0) (tabl [(0, (.v (.v false [(.i .i64 y0)]))), (6, (.v (.v false [(.s y1)])))]))) x0 x1 = _
    rw [e0]; rfl
theorem lo100_4 {R : Type} (N : Nat) : LoopOk E100 (it100 N (R := R)) (loopOf Try.f100 4) := by
  have e : firstRid (loopOf Try.f100 4) = 4 := by kernel_rfl
  intro L K r
  rw [e]
  intro h
  unfold it100 at h
  simp only [show Nat.beq 4 4 = true from rfl, cond_false, cond_true] at h
  refine tell_ok (Q := fun L => ∃ n, iter (exc E100 (it100 N) (loopOf Try.f100 4)) (canon (E100.keep 4)) n (tabl L) K = some r) h (fun xs h => ?_) (fun h => ?_)
  · (try dsimp only at h)
    split at h
    · exact ⟨N, ((e100_4 N K N) _ _).trans h⟩
    · cases h
  cases h
def sp100 : List Arg → Option (Bool × Res)
  | [(.v false [(.i .i64 k0)])] => some (Pu.laws_markText.c k0, ⟨[(.v false [(.s (Pu.laws_markText.v k0))])], []⟩)
  | _ => none
theorem ok100 : FnOk Try.prog T 100 sp100 := by
  refine fn_ok (E := E100) hE call_nil hM Try.func100 (code := (Try.f100.body.getD .skip)) (by kernel_rfl) (by kernel_rfl) ?_
  have key : ∀ (k0 : Int), Pu.laws_markText.c k0 = true → ∃ it : It Res, (∀ c ∈ loopsOf (Try.f100.body.getD .skip), LoopOk E100 it c) ∧ body E100 it Try.f100 [(.v false [(.i .i64 k0)])] = some ⟨[(.v false [(.s (Pu.laws_markText.v k0))])], []⟩ := by
    intro k0  h1
    obtain ⟨N, hN⟩ := Pu.laws_markText.b_eq (R := Res) (fun r0 => some ⟨[(.v false [(.s r0)])], []⟩) k0 h1
    have hl : loopsOf (Try.f100.body.getD .skip) = [loopOf Try.f100 4] := by kernel_rfl
    refine ⟨it100 N, by rw [hl]; exact (loops_cons (lo100_4 N) loops_nil), ?_⟩
    refine Eq.trans (show body E100 (it100 N) Try.f100 [(.v false [(.i .i64 k0)])] = Pu.laws_markText.b N (fun r0 => some ⟨[(.v false [(.s r0)])], []⟩) k0 by kernel_rfl) hN
  intro args r h
  unfold sp100 at h
  split at h
  · injection h with h
    injection h with h1 h2
    subst h2
    exact ⟨by kernel_rfl, fun hf => ⟨of_decide_eq_true (by kernel_rfl), key _ h1⟩⟩
  · cases h

end Go.FG.Se

namespace Go.FG.Se
open Go.Proofs
def E155 : Env := { toTab := T, call := Go.FG.callIn [(100, sp100)], mode := Go.FG.modeIn md, keep := Go.FG.keepIn [(2, [0, 1, 5])], tk := fun n => Go.FG.memB n [], om := Go.FG.omIn [] }
def it155 (N : Nat) {R : Type} : It R := fun rid f cn L K => bif Nat.beq rid 2 then (tell [(0, (.v (.v false [(.own 900000000)]))), (2, (.v (.v false [(.i .i64 0)]))), (10, (.v (.v false [(.i .i64 0)]))), (1800000001, (.o (.row 231 true [])))] (fun | [.I x0, .I x1, .R x2] => Pu.laws_markFileS.l2 N (fun y0 y1 y2 => (K (.exit 0) (tabl [(0, (.v (.v false [(.own 900000000)]))), (2, (.v (.v false [(.i .i64 y0)]))), (10, (.v (.v false [(.i .i64 y1)]))), (1800000001, (.o (.row 231 true y2)))]))) N x0 x1 x2 | _ => none) L (none)) else none
theorem e155_2 {R : Type} (N : Nat) (K : Ex → St → Option R) : ∀ n : Nat, (∀ x0 x1 x2, iter (exc E155 (it155 N) (loopOf Try.f155 2)) (canon (E155.keep 2))  n (tabl [(0, (.v (.v false [(.own 900000000)]))), (2, (.v (.v false [(.i .i64 x0)]))), (10, (.v (.v false [(.i .i64 x1)]))), (1800000001, (.o (.row 231 true x2)))]) K = Pu.laws_markFileS.l2 N (fun y0 y1 y2 => (K (.exit 0) (tabl [(0, (.v (.v false [(.own 900000000)]))), (2, (.v (.v false [(.i .i64 y0)]))), (10, (.v (.v false [(.i .i64 y1)]))), (1800000001, (.o (.row 231 true y2)))]))) n x0 x1 x2) := by
  intro n
  induction n with
  | zero => exact (fun _ _ _ => rfl)
  | succ n ih =>
    have e0 : (fun x0 x1 x2 => iter (exc E155 (it155 N) (loopOf Try.f155 2)) (canon (E155.keep 2))  n (tabl [(0, (.v (.v false [(.own 900000000)]))), (2, (.v (.v false [(.i .i64 x0)]))), (10, (.v (.v false [(.i .i64 x1)]))), (1800000001, (.o (.row 231 true x2)))]) K) = Pu.laws_markFileS.l2 N (fun y0 y1 y2 => (K (.exit 0) (tabl [(0, (.v (.v false [(.own 900000000)]))), (2, (.v (.v false [(.i .i64 y0)]))), (10, (.v (.v false [(.i .i64 y1)]))), (1800000001, (.o (.row 231 true y2)))]))) n := by funext x0 x1 x2; exact ih x0 x1 x2
    intro x0 x1 x2
    have h : ∀ g, exc E155 (it155 N) (loopOf Try.f155 2) (tabl [(0, (.v (.v false [(.own 900000000)]))), (2, (.v (.v false [(.i .i64 x0)]))), (10, (.v (.v false [(.i .i64 x1)]))), (1800000001, (.o (.row 231 true x2)))]) (iterK g (canon (E155.keep 2)) K) = Pu.laws_markFileS.r2 N (fun x0 x1 x2 => (g (tabl [(0, (.v (.v false [(.own 900000000)]))), (2, (.v (.v false [(.i .i64 x0)]))), (10, (.v (.v false [(.i .i64 x1)]))), (1800000001, (.o (.row 231 true x2)))]))) (fun y0 y1 y2 => (K (.exit 0) (tabl [(0, (.v (.v false [(.own 900000000)]))), (2, (.v (.v false [(.i .i64 y0)]))), (10, (.v (.v false [(.i .i64 y1)]))), (1800000001, (.o (.row 231 true y2)))]))) x0 x1 x2 := by intro g; kernel_rfl
    refine (h _).trans ?_
    show Pu.laws_markFileS.r2 N (fun x0 x1 x2 => (iter (exc E155 (it155 N) (loopOf Try.f155 2)) (canon (E155.keep 2))  n (tabl [(0, (.v (.v false [(.own 900000000)]))), (2, (.v (.v false [(.i .i64 x0)]))), (10, (.v (.v false [(.i .i64 x1)]))), (1800000001, (.o (.row 231 true x2)))]) K)) (fun y0 y1 y2 => (K (.exit 0) (tabl [(0, (.v (.v false [(.own 900000000)]))), (2, (.v (.v false [(.i .i64 y0)]))), (10, (.v (.v false [(.i .i64 y1)]))), (1800000001, (.o (.row 231 true y2)))]))) x0 x1 x2 = _
    rw [e0]; rfl
theorem lo155_2 {R : Type} (N : Nat) : LoopOk E155 (it155 N (R := R)) (loopOf Try.f155 2) := by
  have e : firstRid (loopOf Try.f155 2) = 2 := by kernel_rfl
  intro L K r
  rw [e]
  intro h
  unfold it155 at h
  simp only [show Nat.beq 2 2 = true from rfl, cond_false, cond_true] at h
  refine tell_ok (Q := fun L => ∃ n, iter (exc E155 (it155 N) (loopOf Try.f155 2)) (canon (E155.keep 2)) n (tabl L) K = some r) h (fun xs h => ?_) (fun h => ?_)
  · (try dsimp only at h)
    split at h
    · exact ⟨N, ((e155_2 N K N) _ _ _).trans h⟩
    · cases h
  cases h
def sp155 : List Arg → Option (Bool × Res)
  | [(.v false [(.ow 231 true a0)]), (.v false [(.i .i64 k1)])] => some (Pu.laws_markFileS.c a0 k1, ⟨[(.v false [(.i .i64 ((Pu.laws_markFileS.v a0 k1).1))])], [[(.kp ((Pu.laws_markFileS.v a0 k1).2))]]⟩)
  | _ => none
theorem ok155 : FnOk Try.prog T 155 sp155 := by
  refine fn_ok (E := E155) hE (call_cons ok100 call_nil) hM Try.func155 (code := (Try.f155.body.getD .skip)) (by kernel_rfl) (by kernel_rfl) ?_
  have key : ∀ (a0 : Row) (k1 : Int), Pu.laws_markFileS.c a0 k1 = true → ∃ it : It Res, (∀ c ∈ loopsOf (Try.f155.body.getD .skip), LoopOk E155 it c) ∧ body E155 it Try.f155 [(.v false [(.ow 231 true a0)]), (.v false [(.i .i64 k1)])] = some ⟨[(.v false [(.i .i64 ((Pu.laws_markFileS.v a0 k1).1))])], [[(.kp ((Pu.laws_markFileS.v a0 k1).2))]]⟩ := by
    intro a0 k1  h1
    obtain ⟨N, hN⟩ := Pu.laws_markFileS.b_eq (R := Res) (fun r0 r1 => some ⟨[(.v false [(.i .i64 r0)])], [[(.kp r1)]]⟩) a0 k1 h1
    have hl : loopsOf (Try.f155.body.getD .skip) = [loopOf Try.f155 2] := by kernel_rfl
    refine ⟨it155 N, by rw [hl]; exact (loops_cons (lo155_2 N) loops_nil), ?_⟩
    refine Eq.trans (show body E155 (it155 N) Try.f155 [(.v false [(.ow 231 true a0)]), (.v false [(.i .i64 k1)])] = Pu.laws_markFileS.b N (fun r0 r1 => some ⟨[(.v false [(.i .i64 r0)])], [[(.kp r1)]]⟩) a0 k1 by kernel_rfl) hN
  intro args r h
  unfold sp155 at h
  split at h
  · injection h with h
    injection h with h1 h2
    subst h2
    exact ⟨by kernel_rfl, fun hf => ⟨of_decide_eq_true (by kernel_rfl), key _ _ h1⟩⟩
  · cases h

end Go.FG.Se

namespace Go.FG.Se
open Go.Proofs
def E78 : Env := { toTab := T, call := Go.FG.callIn [(155, sp155)], mode := Go.FG.modeIn md, keep := Go.FG.keepIn [], tk := fun n => Go.FG.memB n [], om := Go.FG.omIn [] }
def sp78 : List Arg → Option (Bool × Res)
  | [(.v true [(.ow 231 true a0)]), (.v false [(.i .i64 k1)])] => some (Pu.laws_markDisk.c a0 k1, ⟨[(.v false [(.i .i64 ((Pu.laws_markDisk.v a0 k1).1))])], [[(.kp ((Pu.laws_markDisk.v a0 k1).2))]]⟩)
  | _ => none
theorem ok78 : FnOk Try.prog T 78 sp78 := by
  refine fn_ok (E := E78) hE (call_cons ok155 call_nil) hM Try.func78 (code := (Try.f78.body.getD .skip)) (by kernel_rfl) (by kernel_rfl) ?_
  have key : ∀ (a0 : Row) (k1 : Int), Pu.laws_markDisk.c a0 k1 = true → ∃ it : It Res, (∀ c ∈ loopsOf (Try.f78.body.getD .skip), LoopOk E78 it c) ∧ body E78 it Try.f78 [(.v true [(.ow 231 true a0)]), (.v false [(.i .i64 k1)])] = some ⟨[(.v false [(.i .i64 ((Pu.laws_markDisk.v a0 k1).1))])], [[(.kp ((Pu.laws_markDisk.v a0 k1).2))]]⟩ := by
    intro a0 k1  h1
    have hN := Pu.laws_markDisk.b_eq (R := Res) (fun r0 r1 => some ⟨[(.v false [(.i .i64 r0)])], [[(.kp r1)]]⟩) a0 k1 h1
    have hl : loopsOf (Try.f78.body.getD .skip) = [] := by kernel_rfl
    refine ⟨iterN 0, by rw [hl]; exact loops_nil, ?_⟩
    refine Eq.trans (show body E78 (iterN 0) Try.f78 [(.v true [(.ow 231 true a0)]), (.v false [(.i .i64 k1)])] = Pu.laws_markDisk.b (fun r0 r1 => some ⟨[(.v false [(.i .i64 r0)])], [[(.kp r1)]]⟩) a0 k1 by kernel_rfl) hN
  intro args r h
  unfold sp78 at h
  split at h
  · injection h with h
    injection h with h1 h2
    subst h2
    exact ⟨by kernel_rfl, fun hf => ⟨of_decide_eq_true (by kernel_rfl), key _ _ h1⟩⟩
  · cases h

end Go.FG.Se

namespace Go.FG.Se
open Go.Proofs
def E79 : Env := { toTab := T, call := Go.FG.callIn [(100, sp100)], mode := Go.FG.modeIn md, keep := Go.FG.keepIn [(2, [0, 1, 5])], tk := fun n => Go.FG.memB n [], om := Go.FG.omIn [] }
def it79 (N : Nat) {R : Type} : It R := fun rid f cn L K => bif Nat.beq rid 2 then (tell [(0, (.v (.v false [(.own 900000000)]))), (2, (.v (.v false [(.i .i64 0)]))), (10, (.v (.v false [(.i .i64 0)]))), (1800000001, (.o (.row 25 true [])))] (fun | [.I x0, .I x1, .R x2] => Pu.laws_markEntryS.l2 N (fun y0 y1 y2 => (K (.exit 0) (tabl [(0, (.v (.v false [(.own 900000000)]))), (2, (.v (.v false [(.i .i64 y0)]))), (10, (.v (.v false [(.i .i64 y1)]))), (1800000001, (.o (.row 25 true y2)))]))) N x0 x1 x2 | _ => none) L (none)) else none
theorem e79_2 {R : Type} (N : Nat) (K : Ex → St → Option R) : ∀ n : Nat, (∀ x0 x1 x2, iter (exc E79 (it79 N) (loopOf Try.f79 2)) (canon (E79.keep 2))  n (tabl [(0, (.v (.v false [(.own 900000000)]))), (2, (.v (.v false [(.i .i64 x0)]))), (10, (.v (.v false [(.i .i64 x1)]))), (1800000001, (.o (.row 25 true x2)))]) K = Pu.laws_markEntryS.l2 N (fun y0 y1 y2 => (K (.exit 0) (tabl [(0, (.v (.v false [(.own 900000000)]))), (2, (.v (.v false [(.i .i64 y0)]))), (10, (.v (.v false [(.i .i64 y1)]))), (1800000001, (.o (.row 25 true y2)))]))) n x0 x1 x2) := by
  intro n
  induction n with
  | zero => exact (fun _ _ _ => rfl)
  | succ n ih =>
    have e0 : (fun x0 x1 x2 => iter (exc E79 (it79 N) (loopOf Try.f79 2)) (canon (E79.keep 2))  n (tabl [(0, (.v (.v false [(.own 900000000)]))), (2, (.v (.v false [(.i .i64 x0)]))), (10, (.v (.v false [(.i .i64 x1)]))), (1800000001, (.o (.row 25 true x2)))]) K) = Pu.laws_markEntryS.l2 N (fun y0 y1 y2 => (K (.exit 0) (tabl [(0, (.v (.v false [(.own 900000000)]))), (2, (.v (.v false [(.i .i64 y0)]))), (10, (.v (.v false [(.i .i64 y1)]))), (1800000001, (.o (.row 25 true y2)))]))) n := by funext x0 x1 x2; exact ih x0 x1 x2
    intro x0 x1 x2
    have h : ∀ g, exc E79 (it79 N) (loopOf Try.f79 2) (tabl [(0, (.v (.v false [(.own 900000000)]))), (2, (.v (.v false [(.i .i64 x0)]))), (10, (.v (.v false [(.i .i64 x1)]))), (1800000001, (.o (.row 25 true x2)))]) (iterK g (canon (E79.keep 2)) K) = Pu.laws_markEntryS.r2 N (fun x0 x1 x2 => (g (tabl [(0, (.v (.v false [(.own 900000000)]))), (2, (.v (.v false [(.i .i64 x0)]))), (10, (.v (.v false [(.i .i64 x1)]))), (1800000001, (.o (.row 25 true x2)))]))) (fun y0 y1 y2 => (K (.exit 0) (tabl [(0, (.v (.v false [(.own 900000000)]))), (2, (.v (.v false [(.i .i64 y0)]))), (10, (.v (.v false [(.i .i64 y1)]))), (1800000001, (.o (.row 25 true y2)))]))) x0 x1 x2 := by intro g; kernel_rfl
    refine (h _).trans ?_
    show Pu.laws_markEntryS.r2 N (fun x0 x1 x2 => (iter (exc E79 (it79 N) (loopOf Try.f79 2)) (canon (E79.keep 2))  n (tabl [(0, (.v (.v false [(.own 900000000)]))), (2, (.v (.v false [(.i .i64 x0)]))), (10, (.v (.v false [(.i .i64 x1)]))), (1800000001, (.o (.row 25 true x2)))]) K)) (fun y0 y1 y2 => (K (.exit 0) (tabl [(0, (.v (.v false [(.own 900000000)]))), (2, (.v (.v false [(.i .i64 y0)]))), (10, (.v (.v false [(.i .i64 y1)]))), (1800000001, (.o (.row 25 true y2)))]))) x0 x1 x2 = _
    rw [e0]; rfl
theorem lo79_2 {R : Type} (N : Nat) : LoopOk E79 (it79 N (R := R)) (loopOf Try.f79 2) := by
  have e : firstRid (loopOf Try.f79 2) = 2 := by kernel_rfl
  intro L K r
  rw [e]
  intro h
  unfold it79 at h
  simp only [show Nat.beq 2 2 = true from rfl, cond_false, cond_true] at h
  refine tell_ok (Q := fun L => ∃ n, iter (exc E79 (it79 N) (loopOf Try.f79 2)) (canon (E79.keep 2)) n (tabl L) K = some r) h (fun xs h => ?_) (fun h => ?_)
  · (try dsimp only at h)
    split at h
    · exact ⟨N, ((e79_2 N K N) _ _ _).trans h⟩
    · cases h
  cases h
def sp79 : List Arg → Option (Bool × Res)
  | [(.v false [(.ow 25 true a0)]), (.v false [(.i .i64 k1)])] => some (Pu.laws_markEntryS.c a0 k1, ⟨[(.v false [(.i .i64 ((Pu.laws_markEntryS.v a0 k1).1))])], [[(.kp ((Pu.laws_markEntryS.v a0 k1).2))]]⟩)
  | _ => none
theorem ok79 : FnOk Try.prog T 79 sp79 := by
  refine fn_ok (E := E79) hE (call_cons ok100 call_nil) hM Try.func79 (code := (Try.f79.body.getD .skip)) (by kernel_rfl) (by kernel_rfl) ?_
  have key : ∀ (a0 : Row) (k1 : Int), Pu.laws_markEntryS.c a0 k1 = true → ∃ it : It Res, (∀ c ∈ loopsOf (Try.f79.body.getD .skip), LoopOk E79 it c) ∧ body E79 it Try.f79 [(.v false [(.ow 25 true a0)]), (.v false [(.i .i64 k1)])] = some ⟨[(.v false [(.i .i64 ((Pu.laws_markEntryS.v a0 k1).1))])], [[(.kp ((Pu.laws_markEntryS.v a0 k1).2))]]⟩ := by
    intro a0 k1  h1
    obtain ⟨N, hN⟩ := Pu.laws_markEntryS.b_eq (R := Res) (fun r0 r1 => some ⟨[(.v false [(.i .i64 r0)])], [[(.kp r1)]]⟩) a0 k1 h1
    have hl : loopsOf (Try.f79.body.getD .skip) = [loopOf Try.f79 2] := by kernel_rfl
    refine ⟨it79 N, by rw [hl]; exact (loops_cons (lo79_2 N) loops_nil), ?_⟩
    refine Eq.trans (show body E79 (it79 N) Try.f79 [(.v false [(.ow 25 true a0)]), (.v false [(.i .i64 k1)])] = Pu.laws_markEntryS.b N (fun r0 r1 => some ⟨[(.v false [(.i .i64 r0)])], [[(.kp r1)]]⟩) a0 k1 by kernel_rfl) hN
  intro args r h
  unfold sp79 at h
  split at h
  · injection h with h
    injection h with h1 h2
    subst h2
    exact ⟨by kernel_rfl, fun hf => ⟨of_decide_eq_true (by kernel_rfl), key _ _ h1⟩⟩
  · cases h

end Go.FG.Se

namespace Go.FG.Se
open Go.Proofs
def E87 : Env := { toTab := T, call := Go.FG.callIn [(100, sp100)], mode := Go.FG.modeIn md, keep := Go.FG.keepIn [(2, [0, 1, 4, 5])], tk := fun n => Go.FG.memB n [], om := Go.FG.omIn [] }
def it87 (N : Nat) {R : Type} : It R := fun rid f cn L K => bif Nat.beq rid 2 then (tell [(0, (.v (.v false [(.sh 25 [])]))), (2, (.v (.v false [(.i .i64 0)]))), (8, (.v (.v false [(.i .i64 0)]))), (10, (.v (.v false [(.i .i64 0)])))] (fun | [.R x0, .I x1, .I x2, .I x3] => Pu.laws_heldEntryS.l2 N (fun y0 y1 y2 y3 => (K .ret (tabl [(0, (.v (.v false [(.sh 25 y0)]))), (2, (.v (.v false [(.i .i64 y1)]))), (8, (.v (.v false [(.i .i64 y2)]))), (10, (.v (.v false [(.i .i64 y3)])))]))) (fun y0 y1 y2 y3 => (K (.exit 0) (tabl [(0, (.v (.v false [(.sh 25 y0)]))), (2, (.v (.v false [(.i .i64 y1)]))), (8, (.v (.v false [(.i .i64 y2)]))), (10, (.v (.v false [(.i .i64 y3)])))]))) N x0 x1 x2 x3 | _ => none) L (none)) else none
theorem e87_2 {R : Type} (N : Nat) (K : Ex → St → Option R) : ∀ n : Nat, (∀ x0 x1 x2 x3, iter (exc E87 (it87 N) (loopOf Try.f87 2)) (canon (E87.keep 2))  n (tabl [(0, (.v (.v false [(.sh 25 x0)]))), (2, (.v (.v false [(.i .i64 x1)]))), (8, (.v (.v false [(.i .i64 x2)]))), (10, (.v (.v false [(.i .i64 x3)])))]) K = Pu.laws_heldEntryS.l2 N (fun y0 y1 y2 y3 => (K .ret (tabl [(0, (.v (.v false [(.sh 25 y0)]))), (2, (.v (.v false [(.i .i64 y1)]))), (8, (.v (.v false [(.i .i64 y2)]))), (10, (.v (.v false [(.i .i64 y3)])))]))) (fun y0 y1 y2 y3 => (K (.exit 0) (tabl [(0, (.v (.v false [(.sh 25 y0)]))), (2, (.v (.v false [(.i .i64 y1)]))), (8, (.v (.v false [(.i .i64 y2)]))), (10, (.v (.v false [(.i .i64 y3)])))]))) n x0 x1 x2 x3) := by
  intro n
  induction n with
  | zero => exact (fun _ _ _ _ => rfl)
  | succ n ih =>
    have e0 : (fun x0 x1 x2 x3 => iter (exc E87 (it87 N) (loopOf Try.f87 2)) (canon (E87.keep 2))  n (tabl [(0, (.v (.v false [(.sh 25 x0)]))), (2, (.v (.v false [(.i .i64 x1)]))), (8, (.v (.v false [(.i .i64 x2)]))), (10, (.v (.v false [(.i .i64 x3)])))]) K) = Pu.laws_heldEntryS.l2 N (fun y0 y1 y2 y3 => (K .ret (tabl [(0, (.v (.v false [(.sh 25 y0)]))), (2, (.v (.v false [(.i .i64 y1)]))), (8, (.v (.v false [(.i .i64 y2)]))), (10, (.v (.v false [(.i .i64 y3)])))]))) (fun y0 y1 y2 y3 => (K (.exit 0) (tabl [(0, (.v (.v false [(.sh 25 y0)]))), (2, (.v (.v false [(.i .i64 y1)]))), (8, (.v (.v false [(.i .i64 y2)]))), (10, (.v (.v false [(.i .i64 y3)])))]))) n := by funext x0 x1 x2 x3; exact ih x0 x1 x2 x3
    intro x0 x1 x2 x3
    have h : ∀ g, exc E87 (it87 N) (loopOf Try.f87 2) (tabl [(0, (.v (.v false [(.sh 25 x0)]))), (2, (.v (.v false [(.i .i64 x1)]))), (8, (.v (.v false [(.i .i64 x2)]))), (10, (.v (.v false [(.i .i64 x3)])))]) (iterK g (canon (E87.keep 2)) K) = Pu.laws_heldEntryS.r2 N (fun x0 x1 x2 x3 => (g (tabl [(0, (.v (.v false [(.sh 25 x0)]))), (2, (.v (.v false [(.i .i64 x1)]))), (8, (.v (.v false [(.i .i64 x2)]))), (10, (.v (.v false [(.i .i64 x3)])))]))) (fun y0 y1 y2 y3 => (K .ret (tabl [(0, (.v (.v false [(.sh 25 y0)]))), (2, (.v (.v false [(.i .i64 y1)]))), (8, (.v (.v false [(.i .i64 y2)]))), (10, (.v (.v false [(.i .i64 y3)])))]))) (fun y0 y1 y2 y3 => (K (.exit 0) (tabl [(0, (.v (.v false [(.sh 25 y0)]))), (2, (.v (.v false [(.i .i64 y1)]))), (8, (.v (.v false [(.i .i64 y2)]))), (10, (.v (.v false [(.i .i64 y3)])))]))) x0 x1 x2 x3 := by intro g; kernel_rfl
    refine (h _).trans ?_
    show Pu.laws_heldEntryS.r2 N (fun x0 x1 x2 x3 => (iter (exc E87 (it87 N) (loopOf Try.f87 2)) (canon (E87.keep 2))  n (tabl [(0, (.v (.v false [(.sh 25 x0)]))), (2, (.v (.v false [(.i .i64 x1)]))), (8, (.v (.v false [(.i .i64 x2)]))), (10, (.v (.v false [(.i .i64 x3)])))]) K)) (fun y0 y1 y2 y3 => (K .ret (tabl [(0, (.v (.v false [(.sh 25 y0)]))), (2, (.v (.v false [(.i .i64 y1)]))), (8, (.v (.v false [(.i .i64 y2)]))), (10, (.v (.v false [(.i .i64 y3)])))]))) (fun y0 y1 y2 y3 => (K (.exit 0) (tabl [(0, (.v (.v false [(.sh 25 y0)]))), (2, (.v (.v false [(.i .i64 y1)]))), (8, (.v (.v false [(.i .i64 y2)]))), (10, (.v (.v false [(.i .i64 y3)])))]))) x0 x1 x2 x3 = _
    rw [e0]; rfl
theorem lo87_2 {R : Type} (N : Nat) : LoopOk E87 (it87 N (R := R)) (loopOf Try.f87 2) := by
  have e : firstRid (loopOf Try.f87 2) = 2 := by kernel_rfl
  intro L K r
  rw [e]
  intro h
  unfold it87 at h
  simp only [show Nat.beq 2 2 = true from rfl, cond_false, cond_true] at h
  refine tell_ok (Q := fun L => ∃ n, iter (exc E87 (it87 N) (loopOf Try.f87 2)) (canon (E87.keep 2)) n (tabl L) K = some r) h (fun xs h => ?_) (fun h => ?_)
  · (try dsimp only at h)
    split at h
    · exact ⟨N, ((e87_2 N K N) _ _ _ _).trans h⟩
    · cases h
  cases h
def sp87 : List Arg → Option (Bool × Res)
  | [(.v false [(.sh 25 a0)]), (.v false [(.i .i64 k1)])] => some (Pu.laws_heldEntryS.c a0 k1, ⟨[(.v false [(.i .i64 (Pu.laws_heldEntryS.v a0 k1))])], []⟩)
  | _ => none
theorem ok87 : FnOk Try.prog T 87 sp87 := by
  refine fn_ok (E := E87) hE (call_cons ok100 call_nil) hM Try.func87 (code := (Try.f87.body.getD .skip)) (by kernel_rfl) (by kernel_rfl) ?_
  have key : ∀ (a0 : Row) (k1 : Int), Pu.laws_heldEntryS.c a0 k1 = true → ∃ it : It Res, (∀ c ∈ loopsOf (Try.f87.body.getD .skip), LoopOk E87 it c) ∧ body E87 it Try.f87 [(.v false [(.sh 25 a0)]), (.v false [(.i .i64 k1)])] = some ⟨[(.v false [(.i .i64 (Pu.laws_heldEntryS.v a0 k1))])], []⟩ := by
    intro a0 k1  h1
    obtain ⟨N, hN⟩ := Pu.laws_heldEntryS.b_eq (R := Res) (fun r0 => some ⟨[(.v false [(.i .i64 r0)])], []⟩) a0 k1 h1
    have hl : loopsOf (Try.f87.body.getD .skip) = [loopOf Try.f87 2] := by kernel_rfl
    refine ⟨it87 N, by rw [hl]; exact (loops_cons (lo87_2 N) loops_nil), ?_⟩
    refine Eq.trans (show body E87 (it87 N) Try.f87 [(.v false [(.sh 25 a0)]), (.v false [(.i .i64 k1)])] = Pu.laws_heldEntryS.b N (fun r0 => some ⟨[(.v false [(.i .i64 r0)])], []⟩) a0 k1 by kernel_rfl) hN
  intro args r h
  unfold sp87 at h
  split at h
  · injection h with h
    injection h with h1 h2
    subst h2
    exact ⟨by kernel_rfl, fun hf => ⟨of_decide_eq_true (by kernel_rfl), key _ _ h1⟩⟩
  · cases h

end Go.FG.Se

namespace Go.FG.Se
open Go.Proofs
def E14 : Env := { toTab := T, call := Go.FG.callIn [(70, sp70), (73, sp73), (85, sp85), (86, sp86), (77, sp77), (76, sp76), (78, sp78), (79, sp79), (87, sp87)], mode := Go.FG.modeIn md, keep := Go.FG.keepIn [], tk := fun n => Go.FG.memB n [], om := Go.FG.omIn [] }
def sp14 : List Arg → Option (Bool × Res)
  | [(.v true [(.sh 230 aD0)])] => some (Pu.laws_FnExactFindKept.c aD0, ⟨[(.v false [(.b (Pu.laws_FnExactFindKept.v aD0))])], []⟩)
  | _ => none
theorem ok14 : FnOk Try.prog T 14 sp14 := by
  refine fn_ok (E := E14) hE (call_cons ok70 (call_cons ok73 (call_cons ok85 (call_cons ok86 (call_cons ok77 (call_cons ok76 (call_cons ok78 (call_cons ok79 (call_cons ok87 call_nil))))))))) hM Try.func14 (code := (Try.f14.body.getD .skip)) (by kernel_rfl) (by kernel_rfl) ?_
  have key : ∀ (aD0 : Row), Pu.laws_FnExactFindKept.c aD0 = true → ∃ it : It Res, (∀ c ∈ loopsOf (Try.f14.body.getD .skip), LoopOk E14 it c) ∧ body E14 it Try.f14 [(.v true [(.sh 230 aD0)])] = some ⟨[(.v false [(.b (Pu.laws_FnExactFindKept.v aD0))])], []⟩ := by
    intro aD0  h1
    have hN := Pu.laws_FnExactFindKept.b_eq (R := Res) (fun r0 => some ⟨[(.v false [(.b r0)])], []⟩) aD0 h1
    have hl : loopsOf (Try.f14.body.getD .skip) = [] := by kernel_rfl
    refine ⟨iterN 0, by rw [hl]; exact loops_nil, ?_⟩
    refine Eq.trans (show body E14 (iterN 0) Try.f14 [(.v true [(.sh 230 aD0)])] = Pu.laws_FnExactFindKept.b (fun r0 => some ⟨[(.v false [(.b r0)])], []⟩) aD0 by kernel_rfl) hN
  intro args r h
  unfold sp14 at h
  split at h
  · injection h with h
    injection h with h1 h2
    subst h2
    exact ⟨by kernel_rfl, fun hf => ⟨of_decide_eq_true (by kernel_rfl), key _ h1⟩⟩
  · cases h

end Go.FG.Se

