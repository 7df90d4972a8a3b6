/- Functions of the program: the evaluation of each, and that a call of it does what is told. No condition. -/
import Derived.Test.YtnhconmkdleomaaTab
import Derived.Test.YtnhconmkdleomaaPExactReadEntry
set_option linter.unusedVariables false
set_option linter.unusedSimpArgs false
set_option maxRecDepth 100000
namespace Go.FG.Se
open Go.Proofs
def E51 : Env := { toTab := T, call := Go.FG.callIn [], mode := Go.FG.modeIn md, keep := Go.FG.keepIn [], tk := fun n => Go.FG.memB n [], om := Go.FG.omIn [] }
def sp51 : List Arg → Option (Bool × Res)
  | [(.v false [(.i .i64 x0)]), (.v false [(.i .i64 least1)]), (.v false [(.i .i64 most2)])] => some (true, ⟨[(.v false [(.b (Pu.spec_l01In.v x0 least1 most2))])], []⟩)
  | _ => none
theorem ok51 : FnOk Try.prog T 51 sp51 := by
  refine fn_ok (E := E51) hE call_nil hM Try.func51 (code := (Try.f51.body.getD .skip)) (by kernel_rfl) (by kernel_rfl) ?_
  have key : ∀ (x0 : Int) (least1 : Int) (most2 : Int), ∃ it : It Res, (∀ c ∈ loopsOf (Try.f51.body.getD .skip), LoopOk E51 it c) ∧ body E51 it Try.f51 [(.v false [(.i .i64 x0)]), (.v false [(.i .i64 least1)]), (.v false [(.i .i64 most2)])] = some ⟨[(.v false [(.b (Pu.spec_l01In.v x0 least1 most2))])], []⟩ := by
    intro x0 least1 most2 
    have hN := Pu.spec_l01In.b_eq (R := Res) (fun r0 => some ⟨[(.v false [(.b r0)])], []⟩) x0 least1 most2
    have hl : loopsOf (Try.f51.body.getD .skip) = [] := by kernel_rfl
    refine ⟨iterN 0, by rw [hl]; exact loops_nil, ?_⟩
    refine Eq.trans (show body E51 (iterN 0) Try.f51 [(.v false [(.i .i64 x0)]), (.v false [(.i .i64 least1)]), (.v false [(.i .i64 most2)])] = Pu.spec_l01In.b (fun r0 => some ⟨[(.v false [(.b r0)])], []⟩) x0 least1 most2 by kernel_rfl) hN
  intro args r h
  unfold sp51 at h
  split at h
  · injection h with h
    injection h with h1 h2
    subst h2
    exact ⟨by kernel_rfl, fun hf => ⟨of_decide_eq_true (by kernel_rfl), key _ _ _⟩⟩
  · cases h

end Go.FG.Se

namespace Go.FG.Se
open Go.Proofs
def E61 : Env := { toTab := T, call := Go.FG.callIn [], mode := Go.FG.modeIn md, keep := Go.FG.keepIn [(2, [0, 3])], tk := fun n => Go.FG.memB n [], om := Go.FG.omIn [] }
def it61 (N : Nat) {R : Type} : It R := fun rid f cn L K => bif Nat.beq rid 2 then (tell [(0, (.v (.v false [(.i .i64 0)]))), (6, (.v (.v false [(.own 0)]))), (1, (.o (.row 5 true [])))] (fun | [.I x0, .R x1] => Pu.spec_l01Var.l2 N (fun y0 y1 => (K (.exit 0) (tabl [(0, (.v (.v false [(.i .i64 y0)]))), (6, (.v (.v false [(.own 0)]))), (1, (.o (.row 5 true y1)))]))) N x0 x1 | _ => none) L (none)) else none
theorem e61_2 {R : Type} (N : Nat) (K : Ex → St → Option R) : ∀ n : Nat, (∀ x0 x1, iter (exc E61 (it61 N) (loopOf Try.f61 2)) (canon (E61.keep 2))  n (tabl [(0, (.v (.v false [(.i .i64 x0)]))), (6, (.v (.v false [(.own 0)]))), (1, (.o (.row 5 true x1)))]) K = Pu.spec_l01Var.l2 N (fun y0 y1 => (K (.exit 0) (tabl [(0, (.v (.v false [(.i .i64 y0)]))), (6, (.v (.v false [(.own 0)]))), (1, (.o (.row 5 true y1)))]))) n x0 x1) := by
  intro n
  induction n with
  | zero => exact (fun _ _ => rfl)
  | succ n ih =>
    have e0 : (fun x0 x1 => iter (exc E61 (it61 N) (loopOf Try.f61 2)) (canon (E61.keep 2))  n (tabl [(0, (.v (.v false [(.i .i64 x0)]))), (6, (.v (.v false [(.own 0)]))), (1, (.o (.row 5 true x1)))]) K) = Pu.spec_l01Var.l2 N (fun y0 y1 => (K (.exit 0) (tabl [(0, (.v (.v false [(.i .i64 y0)]))), (6, (.v (.v false [(.own 0)]))), (1, (.o (.row 5 true y1)))]))) n := by funext x0 x1; exact ih x0 x1
    intro x0 x1
    have h : ∀ g, exc E61 (it61 N) (loopOf Try.f61 2) (tabl [(0, (.v (.v false [(.i .i64 x0)]))), (6, (.v (.v false [(.own 0)]))), (1, (.o (.row 5 true x1)))]) (iterK g (canon (E61.keep 2)) K) = Pu.spec_l01Var.r2 N (fun x0 x1 => (g (tabl [(0, (.v (.v false [(.i .i64 x0)]))), (6, (.v (.v false [(.own 0)]))), (1, (.o (.row 5 true x1)))]))) (fun y0 y1 => (K (.exit 0) (tabl [(0, (.v (.v false [(.i .i64 y0)]))), (6, (.v (.v false [(.own 0)]))), (1, (.o (.row 5 true y1)))]))) x0 x1 := by intro g; kernel_rfl
    refine (h _).trans ?_
    show Pu.spec_l01Var.r2 N (fun x0 x1 => (iter (exc E61 (it61 N) (loopOf Try.f61 2)) (canon (E61.keep 2))  n (tabl [(0, (.v (.v false [(.i .i64 x0)]))), (6, (.v (.v false [(.own 0)]))), (1, (.o (.row 5 true x1)))]) K)) (fun y0 y1 => (K (.exit 0) (tabl [(0, (.v (.v false [(.i .i64 y0)]))), (6, (.v (.v false [(.own 0)]))), (1, (.o (.row 5 true y1)))]))) x0 x1 = _
    rw [e0]; rfl
theorem lo61_2 {R : Type} (N : Nat) : LoopOk E61 (it61 N (R := R)) (loopOf Try.f61 2) := by
  have e : firstRid (loopOf Try.f61 2) = 2 := by kernel_rfl
  intro L K r
  rw [e]
  intro h
  unfold it61 at h
  simp only [show Nat.beq 2 2 = true from rfl, cond_false, cond_true] at h
  refine tell_ok (Q := fun L => ∃ n, iter (exc E61 (it61 N) (loopOf Try.f61 2)) (canon (E61.keep 2)) n (tabl L) K = some r) h (fun xs h => ?_) (fun h => ?_)
  · (try dsimp only at h)
    split at h
    · exact ⟨N, ((e61_2 N K N) _ _).trans h⟩
    · cases h
  cases h
def sp61 : List Arg → Option (Bool × Res)
  | [(.v false [(.i .i64 n0)])] => some (Pu.spec_l01Var.c n0, ⟨[(.v false [(.s (Pu.spec_l01Var.v n0))])], []⟩)
  | _ => none
theorem ok61 : FnOk Try.prog T 61 sp61 := by
  refine fn_ok (E := E61) hE call_nil hM Try.func61 (code := (Try.f61.body.getD .skip)) (by kernel_rfl) (by kernel_rfl) ?_
  have key : ∀ (n0 : Int), Pu.spec_l01Var.c n0 = true → ∃ it : It Res, (∀ c ∈ loopsOf (Try.f61.body.getD .skip), LoopOk E61 it c) ∧ body E61 it Try.f61 [(.v false [(.i .i64 n0)])] = some ⟨[(.v false [(.s (Pu.spec_l01Var.v n0))])], []⟩ := by
    intro n0  h1
    obtain ⟨N, hN⟩ := Pu.spec_l01Var.b_eq (R := Res) (fun r0 => some ⟨[(.v false [(.s r0)])], []⟩) n0 h1
    have hl : loopsOf (Try.f61.body.getD .skip) = [loopOf Try.f61 2] := by kernel_rfl
    refine ⟨it61 N, by rw [hl]; exact (loops_cons (lo61_2 N) loops_nil), ?_⟩
    refine Eq.trans (show body E61 (it61 N) Try.f61 [(.v false [(.i .i64 n0)])] = Pu.spec_l01Var.b N (fun r0 => some ⟨[(.v false [(.s r0)])], []⟩) n0 by kernel_rfl) hN
  intro args r h
  unfold sp61 at h
  split at h
  · injection h with h
    injection h with h1 h2
    subst h2
    exact ⟨by kernel_rfl, fun hf => ⟨of_decide_eq_true (by kernel_rfl), key _ h1⟩⟩
  · cases h

end Go.FG.Se

namespace Go.FG.Se
open Go.Proofs
def E67 : Env := { toTab := T, call := Go.FG.callIn [(51, sp51), (61, sp61)], mode := Go.FG.modeIn md, keep := Go.FG.keepIn [(6, [0, 1, 4, 5, 6, 7, 8, 9])], tk := fun n => Go.FG.memB n [], om := Go.FG.omIn [] }
def it67 (N : Nat) {R : Type} : It R := fun rid f cn L K => bif Nat.beq rid 6 then (tell [(0, (.v (.v false [(.s ⟨#[]⟩)]))), (2, (.v (.v false [(.i .i64 0)]))), (8, (.v (.v false [(.i .i64 0)]))), (10, (.v (.v false [(.i .i64 0)]))), (12, (.v (.v false [(.b false)]))), (14, (.v (.v false [(.i .i64 0)]))), (16, (.v (.v false [(.i .i64 0)]))), (18, (.v (.v false [(.i .i64 0)])))] (fun | [.S x0, .I x1, .I x2, .I x3, .B x4, .I x5, .I x6, .I x7] => Pu.spec_ReadVar.l6 N (fun y0 y1 y2 y3 y4 y5 y6 y7 => (K .ret (tabl [(0, (.v (.v false [(.s y0)]))), (2, (.v (.v false [(.i .i64 y1)]))), (8, (.v (.v false [(.i .i64 y2)]))), (10, (.v (.v false [(.i .i64 y3)]))), (12, (.v (.v false [(.b y4)]))), (14, (.v (.v false [(.i .i64 y5)]))), (16, (.v (.v false [(.i .i64 y6)]))), (18, (.v (.v false [(.i .i64 y7)])))]))) (fun y0 y1 y2 y3 y4 y5 y6 y7 => (K (.exit 0) (tabl [(0, (.v (.v false [(.s y0)]))), (2, (.v (.v false [(.i .i64 y1)]))), (8, (.v (.v false [(.i .i64 y2)]))), (10, (.v (.v false [(.i .i64 y3)]))), (12, (.v (.v false [(.b y4)]))), (14, (.v (.v false [(.i .i64 y5)]))), (16, (.v (.v false [(.i .i64 y6)]))), (18, (.v (.v false [(.i .i64 y7)])))]))) N x0 x1 x2 x3 x4 x5 x6 x7 | _ => none) L (none)) else none
theorem e67_6 {R : Type} (N : Nat) (K : Ex → St → Option R) : ∀ n : Nat, (∀ x0 x1 x2 x3 x4 x5 x6 x7, iter (exc E67 (it67 N) (loopOf Try.f67 6)) (canon (E67.keep 6))  n (tabl [(0, (.v (.v false [(.s x0)]))), (2, (.v (.v false [(.i .i64 x1)]))), (8, (.v (.v false [(.i .i64 x2)]))), (10, (.v (.v false [(.i .i64 x3)]))), (12, (.v (.v false [(.b x4)]))), (14, (.v (.v false [(.i .i64 x5)]))), (16, (.v (.v false [(.i .i64 x6)]))), (18, (.v (.v false [(.i .i64 x7)])))]) K = Pu.spec_ReadVar.l6 N (fun y0 y1 y2 y3 y4 y5 y6 y7 => (K .ret (tabl [(0, (.v (.v false [(.s y0)]))), (2, (.v (.v false [(.i .i64 y1)]))), (8, (.v (.v false [(.i .i64 y2)]))), (10, (.v (.v false [(.i .i64 y3)]))), (12, (.v (.v false [(.b y4)]))), (14, (.v (.v false [(.i .i64 y5)]))), (16, (.v (.v false [(.i .i64 y6)]))), (18, (.v (.v false [(.i .i64 y7)])))]))) (fun y0 y1 y2 y3 y4 y5 y6 y7 => (K (.exit 0) (tabl [(0, (.v (.v false [(.s y0)]))), (2, (.v (.v false [(.i .i64 y1)]))), (8, (.v (.v false [(.i .i64 y2)]))), (10, (.v (.v false [(.i .i64 y3)]))), (12, (.v (.v false [(.b y4)]))), (14, (.v (.v false [(.i .i64 y5)]))), (16, (.v (.v false [(.i .i64 y6)]))), (18, (.v (.v false [(.i .i64 y7)])))]))) n x0 x1 x2 x3 x4 x5 x6 x7) := by
  intro n
  induction n with
  | zero => exact (fun _ _ _ _ _ _ _ _ => rfl)
  | succ n ih =>
    have e0 : (fun x0 x1 x2 x3 x4 x5 x6 x7 => iter (exc E67 (it67 N) (loopOf Try.f67 6)) (canon (E67.keep 6))  n (tabl [(0, (.v (.v false [(.s x0)]))), (2, (.v (.v false [(.i .i64 x1)]))), (8, (.v (.v false [(.i .i64 x2)]))), (10, (.v (.v false [(.i .i64 x3)]))), (12, (.v (.v false [(.b x4)]))), (14, (.v (.v false [(.i .i64 x5)]))), (16, (.v (.v false [(.i .i64 x6)]))), (18, (.v (.v false [(.i .i64 x7)])))]) K) = Pu.spec_ReadVar.l6 N (fun y0 y1 y2 y3 y4 y5 y6 y7 => (K .ret (tabl [(0, (.v (.v false [(.s y0)]))), (2, (.v (.v false [(.i .i64 y1)]))), (8, (.v (.v false [(.i .i64 y2)]))), (10, (.v (.v false [(.i .i64 y3)]))), (12, (.v (.v false [(.b y4)]))), (14, (.v (.v false [(.i .i64 y5)]))), (16, (.v (.v false [(.i .i64 y6)]))), (18, (.v (.v false [(.i .i64 y7)])))]))) (fun y0 y1 y2 y3 y4 y5 y6 y7 => (K (.exit 0) (tabl [(0, (.v (.v false [(.s y0)]))), (2, (.v (.v false [(.i .i64 y1)]))), (8, (.v (.v false [(.i .i64 y2)]))), (10, (.v (.v false [(.i .i64 y3)]))), (12, (.v (.v false [(.b y4)]))), (14, (.v (.v false [(.i .i64 y5)]))), (16, (.v (.v false [(.i .i64 y6)]))), (18, (.v (.v false [(.i .i64 y7)])))]))) n := by funext x0 x1 x2 x3 x4 x5 x6 x7; exact ih x0 x1 x2 x3 x4 x5 x6 x7
    intro x0 x1 x2 x3 x4 x5 x6 x7
    have h : ∀ g, exc E67 (it67 N) (loopOf Try.f67 6) (tabl [(0, (.v (.v false [(.s x0)]))), (2, (.v (.v false [(.i .i64 x1)]))), (8, (.v (.v false [(.i .i64 x2)]))), (10, (.v (.v false [(.i .i64 x3)]))), (12, (.v (.v false [(.b x4)]))), (14, (.v (.v false [(.i .i64 x5)]))), (16, (.v (.v false [(.i .i64 x6)]))), (18, (.v (.v false [(.i .i64 x7)])))]) (iterK g (canon (E67.keep 6)) K) = Pu.spec_ReadVar.r6 N (fun x0 x1 x2 x3 x4 x5 x6 x7 => (g (tabl [(0, (.v (.v false [(.s x0)]))), (2, (.v (.v false [(.i .i64 x1)]))), (8, (.v (.v false [(.i .i64 x2)]))), (10, (.v (.v false [(.i .i64 x3)]))), (12, (.v (.v false [(.b x4)]))), (14, (.v (.v false [(.i .i64 x5)]))), (16, (.v (.v false [(.i .i64 x6)]))), (18, (.v (.v false [(.i .i64 x7)])))]))) (fun y0 y1 y2 y3 y4 y5 y6 y7 => (K .ret (tabl [(0, (.v (.v false [(.s y0)]))), (2, (.v (.v false [(.i .i64 y1)]))), (8, (.v (.v false [(.i .i64 y2)]))), (10, (.v (.v false [(.i .i64 y3)]))), (12, (.v (.v false [(.b y4)]))), (14, (.v (.v false [(.i .i64 y5)]))), (16, (.v (.v false [(.i .i64 y6)]))), (18, (.v (.v false [(.i .i64 y7)])))]))) (fun y0 y1 y2 y3 y4 y5 y6 y7 => (K (.exit 0) (tabl [(0, (.v (.v false [(.s y0)]))), (2, (.v (.v false [(.i .i64 y1)]))), (8, (.v (.v false [(.i .i64 y2)]))), (10, (.v (.v false [(.i .i64 y3)]))), (12, (.v (.v false [(.b y4)]))), (14, (.v (.v false [(.i .i64 y5)]))), (16, (.v (.v false [(.i .i64 y6)]))), (18, (.v (.v false [(.i .i64 y7)])))]))) x0 x1 x2 x3 x4 x5 x6 x7 := by intro g; kernel_rfl
    refine (h _).trans ?_
    show Pu.spec_ReadVar.r6 N (fun x0 x1 x2 x3 x4 x5 x6 x7 => (iter (exc E67 (it67 N) (loopOf Try.f67 6)) (canon (E67.keep 6))  n (tabl [(0, (.v (.v false [(.s x0)]))), (2, (.v (.v false [(.i .i64 x1)]))), (8, (.v (.v false [(.i .i64 x2)]))), (10, (.v (.v false [(.i .i64 x3)]))), (12, (.v (.v false [(.b x4)]))), (14, (.v (.v false [(.i .i64 x5)]))), (16, (.v (.v false [(.i .i64 x6)]))), (18, (.v (.v false [(.i .i64 x7)])))]) K)) (fun y0 y1 y2 y3 y4 y5 y6 y7 => (K .ret (tabl [(0, (.v (.v false [(.s y0)]))), (2, (.v (.v false [(.i .i64 y1)]))), (8, (.v (.v false [(.i .i64 y2)]))), (10, (.v (.v false [(.i .i64 y3)]))), (12, (.v (.v false [(.b y4)]))), (14, (.v (.v false [(.i .i64 y5)]))), (16, (.v (.v false [(.i .i64 y6)]))), (18, (.v (.v false [(.i .i64 y7)])))]))) (fun y0 y1 y2 y3 y4 y5 y6 y7 => (K (.exit 0) (tabl [(0, (.v (.v false [(.s y0)]))), (2, (.v (.v false [(.i .i64 y1)]))), (8, (.v (.v false [(.i .i64 y2)]))), (10, (.v (.v false [(.i .i64 y3)]))), (12, (.v (.v false [(.b y4)]))), (14, (.v (.v false [(.i .i64 y5)]))), (16, (.v (.v false [(.i .i64 y6)]))), (18, (.v (.v false [(.i .i64 y7)])))]))) x0 x1 x2 x3 x4 x5 x6 x7 = _
    rw [e0]; rfl
theorem lo67_6 {R : Type} (N : Nat) : LoopOk E67 (it67 N (R := R)) (loopOf Try.f67 6) := by
  have e : firstRid (loopOf Try.f67 6) = 6 := by kernel_rfl
  intro L K r
  rw [e]
  intro h
  unfold it67 at h
  simp only [show Nat.beq 6 6 = true from rfl, cond_false, cond_true] at h
  refine tell_ok (Q := fun L => ∃ n, iter (exc E67 (it67 N) (loopOf Try.f67 6)) (canon (E67.keep 6)) n (tabl L) K = some r) h (fun xs h => ?_) (fun h => ?_)
  · (try dsimp only at h)
    split at h
    · exact ⟨N, ((e67_6 N K N) _ _ _ _ _ _ _ _).trans h⟩
    · cases h
  cases h
def sp67 : List Arg → Option (Bool × Res)
  | [(.v false [(.s text0)]), (.v false [(.i .i64 at1)])] => some (true, ⟨[(.v false [(.i .i64 ((Pu.spec_ReadVar.v text0 at1).1))]), (.v false [(.i .i64 ((Pu.spec_ReadVar.v text0 at1).2.1))]), (.v false [(.b ((Pu.spec_ReadVar.v text0 at1).2.2))])], []⟩)
  | _ => none
theorem ok67 : FnOk Try.prog T 67 sp67 := by
  refine fn_ok (E := E67) hE (call_cons ok51 (call_cons ok61 call_nil)) hM Try.func67 (code := (Try.f67.body.getD .skip)) (by kernel_rfl) (by kernel_rfl) ?_
  have key : ∀ (text0 : ByteArray) (at1 : Int), okS text0 → ∃ it : It Res, (∀ c ∈ loopsOf (Try.f67.body.getD .skip), LoopOk E67 it c) ∧ body E67 it Try.f67 [(.v false [(.s text0)]), (.v false [(.i .i64 at1)])] = some ⟨[(.v false [(.i .i64 ((Pu.spec_ReadVar.v text0 at1).1))]), (.v false [(.i .i64 ((Pu.spec_ReadVar.v text0 at1).2.1))]), (.v false [(.b ((Pu.spec_ReadVar.v text0 at1).2.2))])], []⟩ := by
    intro text0 at1  g0
    obtain ⟨N, hN⟩ := Pu.spec_ReadVar.b_eq (R := Res) (fun r0 r1 r2 => some ⟨[(.v false [(.i .i64 r0)]), (.v false [(.i .i64 r1)]), (.v false [(.b r2)])], []⟩) text0 at1 g0
    have hl : loopsOf (Try.f67.body.getD .skip) = [loopOf Try.f67 6] := by kernel_rfl
    refine ⟨it67 N, by rw [hl]; exact (loops_cons (lo67_6 N) loops_nil), ?_⟩
    refine Eq.trans (show body E67 (it67 N) Try.f67 [(.v false [(.s text0)]), (.v false [(.i .i64 at1)])] = Pu.spec_ReadVar.b N (fun r0 r1 r2 => some ⟨[(.v false [(.i .i64 r0)]), (.v false [(.i .i64 r1)]), (.v false [(.b r2)])], []⟩) text0 at1 by kernel_rfl) hN
  intro args r h
  unfold sp67 at h
  split at h
  · injection h with h
    injection h with h1 h2
    subst h2
    exact ⟨by kernel_rfl, fun hf => ⟨of_decide_eq_true (by kernel_rfl), key _ _ hf.1.1⟩⟩
  · cases h

end Go.FG.Se

namespace Go.FG.Se
open Go.Proofs
def E66 : Env := { toTab := T, call := Go.FG.callIn [(67, sp67)], mode := Go.FG.modeIn md, keep := Go.FG.keepIn [], tk := fun n => Go.FG.memB n [], om := Go.FG.omIn [] }
def sp66 : List Arg → Option (Bool × Res)
  | [(.v false [(.s text0)]), (.v false [(.i .i64 at1)])] => some (true, ⟨[(.v false [(.s ((Pu.spec_ReadShort.v text0 at1).1))]), (.v false [(.i .i64 ((Pu.spec_ReadShort.v text0 at1).2.1))]), (.v false [(.b ((Pu.spec_ReadShort.v text0 at1).2.2))])], []⟩)
  | _ => none
theorem ok66 : FnOk Try.prog T 66 sp66 := by
  refine fn_ok (E := E66) hE (call_cons ok67 call_nil) hM Try.func66 (code := (Try.f66.body.getD .skip)) (by kernel_rfl) (by kernel_rfl) ?_
  have key : ∀ (text0 : ByteArray) (at1 : Int), okS text0 → ∃ it : It Res, (∀ c ∈ loopsOf (Try.f66.body.getD .skip), LoopOk E66 it c) ∧ body E66 it Try.f66 [(.v false [(.s text0)]), (.v false [(.i .i64 at1)])] = some ⟨[(.v false [(.s ((Pu.spec_ReadShort.v text0 at1).1))]), (.v false [(.i .i64 ((Pu.spec_ReadShort.v text0 at1).2.1))]), (.v false [(.b ((Pu.spec_ReadShort.v text0 at1).2.2))])], []⟩ := by
    intro text0 at1  g0
    have hN := Pu.spec_ReadShort.b_eq (R := Res) (fun r0 r1 r2 => some ⟨[(.v false [(.s r0)]), (.v false [(.i .i64 r1)]), (.v false [(.b r2)])], []⟩) text0 at1 g0
    have hl : loopsOf (Try.f66.body.getD .skip) = [] := by kernel_rfl
    refine ⟨iterN 0, by rw [hl]; exact loops_nil, ?_⟩
    refine Eq.trans (show body E66 (iterN 0) Try.f66 [(.v false [(.s text0)]), (.v false [(.i .i64 at1)])] = Pu.spec_ReadShort.b (fun r0 r1 r2 => some ⟨[(.v false [(.s r0)]), (.v false [(.i .i64 r1)]), (.v false [(.b r2)])], []⟩) text0 at1 by kernel_rfl) hN
  intro args r h
  unfold sp66 at h
  split at h
  · injection h with h
    injection h with h1 h2
    subst h2
    exact ⟨by kernel_rfl, fun hf => ⟨of_decide_eq_true (by kernel_rfl), key _ _ hf.1.1⟩⟩
  · cases h

end Go.FG.Se

namespace Go.FG.Se
open Go.Proofs
def E50 : Env := { toTab := T, call := Go.FG.callIn [(51, sp51)], mode := Go.FG.modeIn md, keep := Go.FG.keepIn [], tk := fun n => Go.FG.memB n [], om := Go.FG.omIn [] }
def sp50 : List Arg → Option (Bool × Res)
  | [(.v false [(.s s0)])] => some (true, ⟨[(.v false [(.b (Pu.spec_l13Key.v s0))])], []⟩)
  | _ => none
theorem ok50 : FnOk Try.prog T 50 sp50 := by
  refine fn_ok (E := E50) hE (call_cons ok51 call_nil) hM Try.func50 (code := (Try.f50.body.getD .skip)) (by kernel_rfl) (by kernel_rfl) ?_
  have key : ∀ (s0 : ByteArray), ∃ it : It Res, (∀ c ∈ loopsOf (Try.f50.body.getD .skip), LoopOk E50 it c) ∧ body E50 it Try.f50 [(.v false [(.s s0)])] = some ⟨[(.v false [(.b (Pu.spec_l13Key.v s0))])], []⟩ := by
    intro s0 
    have hN := Pu.spec_l13Key.b_eq (R := Res) (fun r0 => some ⟨[(.v false [(.b r0)])], []⟩) s0
    have hl : loopsOf (Try.f50.body.getD .skip) = [] := by kernel_rfl
    refine ⟨iterN 0, by rw [hl]; exact loops_nil, ?_⟩
    refine Eq.trans (show body E50 (iterN 0) Try.f50 [(.v false [(.s s0)])] = Pu.spec_l13Key.b (fun r0 => some ⟨[(.v false [(.b r0)])], []⟩) s0 by kernel_rfl) hN
  intro args r h
  unfold sp50 at h
  split at h
  · injection h with h
    injection h with h1 h2
    subst h2
    exact ⟨by kernel_rfl, fun hf => ⟨of_decide_eq_true (by kernel_rfl), key _⟩⟩
  · cases h

end Go.FG.Se

namespace Go.FG.Se
open Go.Proofs
def E16 : Env := { toTab := T, call := Go.FG.callIn [(50, sp50), (51, sp51)], mode := Go.FG.modeIn md, keep := Go.FG.keepIn [], tk := fun n => Go.FG.memB n [], om := Go.FG.omIn [] }
def sp16 : List Arg → Option (Bool × Res)
  | [(.v true [(.s e0_0), (.i .i64 e0_1), (.i .i64 e0_2), (.s e0_3)])] => some (true, ⟨[(.v false [(.b (Pu.spec_EntryOk.v e0_0 e0_1 e0_2 e0_3))])], []⟩)
  | _ => none
theorem ok16 : FnOk Try.prog T 16 sp16 := by
  refine fn_ok (E := E16) hE (call_cons ok50 (call_cons ok51 call_nil)) hM Try.func16 (code := (Try.f16.body.getD .skip)) (by kernel_rfl) (by kernel_rfl) ?_
  have key : ∀ (e0_0 : ByteArray) (e0_1 : Int) (e0_2 : Int) (e0_3 : ByteArray), ∃ it : It Res, (∀ c ∈ loopsOf (Try.f16.body.getD .skip), LoopOk E16 it c) ∧ body E16 it Try.f16 [(.v true [(.s e0_0), (.i .i64 e0_1), (.i .i64 e0_2), (.s e0_3)])] = some ⟨[(.v false [(.b (Pu.spec_EntryOk.v e0_0 e0_1 e0_2 e0_3))])], []⟩ := by
    intro e0_0 e0_1 e0_2 e0_3 
    have hN := Pu.spec_EntryOk.b_eq (R := Res) (fun r0 => some ⟨[(.v false [(.b r0)])], []⟩) e0_0 e0_1 e0_2 e0_3
    have hl : loopsOf (Try.f16.body.getD .skip) = [] := by kernel_rfl
    refine ⟨iterN 0, by rw [hl]; exact loops_nil, ?_⟩
    refine Eq.trans (show body E16 (iterN 0) Try.f16 [(.v true [(.s e0_0), (.i .i64 e0_1), (.i .i64 e0_2), (.s e0_3)])] = Pu.spec_EntryOk.b (fun r0 => some ⟨[(.v false [(.b r0)])], []⟩) e0_0 e0_1 e0_2 e0_3 by kernel_rfl) hN
  intro args r h
  unfold sp16 at h
  split at h
  · injection h with h
    injection h with h1 h2
    subst h2
    exact ⟨by kernel_rfl, fun hf => ⟨of_decide_eq_true (by kernel_rfl), key _ _ _ _⟩⟩
  · cases h

end Go.FG.Se

namespace Go.FG.Se
open Go.Proofs
def E31 : Env := { toTab := T, call := Go.FG.callIn [(16, sp16), (61, sp61)], mode := Go.FG.modeIn md, keep := Go.FG.keepIn [], tk := fun n => Go.FG.memB n [], om := Go.FG.omIn [] }
def sp31 : List Arg → Option (Bool × Res)
  | [(.v true [(.s e0_0), (.i .i64 e0_1), (.i .i64 e0_2), (.s e0_3)])] => some (true, ⟨[(.v false [(.s ((Pu.spec_EntryText.v e0_0 e0_1 e0_2 e0_3).1))]), (.v false [(.b ((Pu.spec_EntryText.v e0_0 e0_1 e0_2 e0_3).2))])], []⟩)
  | _ => none
theorem ok31 : FnOk Try.prog T 31 sp31 := by
  refine fn_ok (E := E31) hE (call_cons ok16 (call_cons ok61 call_nil)) hM Try.func31 (code := (Try.f31.body.getD .skip)) (by kernel_rfl) (by kernel_rfl) ?_
  have key : ∀ (e0_0 : ByteArray) (e0_1 : Int) (e0_2 : Int) (e0_3 : ByteArray), ∃ it : It Res, (∀ c ∈ loopsOf (Try.f31.body.getD .skip), LoopOk E31 it c) ∧ body E31 it Try.f31 [(.v true [(.s e0_0), (.i .i64 e0_1), (.i .i64 e0_2), (.s e0_3)])] = some ⟨[(.v false [(.s ((Pu.spec_EntryText.v e0_0 e0_1 e0_2 e0_3).1))]), (.v false [(.b ((Pu.spec_EntryText.v e0_0 e0_1 e0_2 e0_3).2))])], []⟩ := by
    intro e0_0 e0_1 e0_2 e0_3 
    have hN := Pu.spec_EntryText.b_eq (R := Res) (fun r0 r1 => some ⟨[(.v false [(.s r0)]), (.v false [(.b r1)])], []⟩) e0_0 e0_1 e0_2 e0_3
    have hl : loopsOf (Try.f31.body.getD .skip) = [] := by kernel_rfl
    refine ⟨iterN 0, by rw [hl]; exact loops_nil, ?_⟩
    refine Eq.trans (show body E31 (iterN 0) Try.f31 [(.v true [(.s e0_0), (.i .i64 e0_1), (.i .i64 e0_2), (.s e0_3)])] = Pu.spec_EntryText.b (fun r0 r1 => some ⟨[(.v false [(.s r0)]), (.v false [(.b r1)])], []⟩) e0_0 e0_1 e0_2 e0_3 by kernel_rfl) hN
  intro args r h
  unfold sp31 at h
  split at h
  · injection h with h
    injection h with h1 h2
    subst h2
    exact ⟨by kernel_rfl, fun hf => ⟨of_decide_eq_true (by kernel_rfl), key _ _ _ _⟩⟩
  · cases h

end Go.FG.Se

namespace Go.FG.Se
open Go.Proofs
def E37 : Env := { toTab := T, call := Go.FG.callIn [(66, sp66), (67, sp67), (31, sp31)], mode := Go.FG.modeIn md, keep := Go.FG.keepIn [], tk := fun n => Go.FG.memB n [], om := Go.FG.omIn [] }
def sp37 : List Arg → Option (Bool × Res)
  | [(.v false [(.s t0)])] => some (true, ⟨[(.v true [(.s ((Pu.spec_ReadEntry.v t0).1)), (.i .i64 ((Pu.spec_ReadEntry.v t0).2.1)), (.i .i64 ((Pu.spec_ReadEntry.v t0).2.2.1)), (.s ((Pu.spec_ReadEntry.v t0).2.2.2.1))]), (.v false [(.b ((Pu.spec_ReadEntry.v t0).2.2.2.2))])], []⟩)
  | _ => none
theorem ok37 : FnOk Try.prog T 37 sp37 := by
  refine fn_ok (E := E37) hE (call_cons ok66 (call_cons ok67 (call_cons ok31 call_nil))) hM Try.func37 (code := (Try.f37.body.getD .skip)) (by kernel_rfl) (by kernel_rfl) ?_
  have key : ∀ (t0 : ByteArray), okS t0 → ∃ it : It Res, (∀ c ∈ loopsOf (Try.f37.body.getD .skip), LoopOk E37 it c) ∧ body E37 it Try.f37 [(.v false [(.s t0)])] = some ⟨[(.v true [(.s ((Pu.spec_ReadEntry.v t0).1)), (.i .i64 ((Pu.spec_ReadEntry.v t0).2.1)), (.i .i64 ((Pu.spec_ReadEntry.v t0).2.2.1)), (.s ((Pu.spec_ReadEntry.v t0).2.2.2.1))]), (.v false [(.b ((Pu.spec_ReadEntry.v t0).2.2.2.2))])], []⟩ := by
    intro t0  g0
    have hN := Pu.spec_ReadEntry.b_eq (R := Res) (fun r0 r1 r2 r3 r4 => some ⟨[(.v true [(.s r0), (.i .i64 r1), (.i .i64 r2), (.s r3)]), (.v false [(.b r4)])], []⟩) t0 g0
    have hl : loopsOf (Try.f37.body.getD .skip) = [] := by kernel_rfl
    refine ⟨iterN 0, by rw [hl]; exact loops_nil, ?_⟩
    refine Eq.trans (show body E37 (iterN 0) Try.f37 [(.v false [(.s t0)])] = Pu.spec_ReadEntry.b (fun r0 r1 r2 r3 r4 => some ⟨[(.v true [(.s r0), (.i .i64 r1), (.i .i64 r2), (.s r3)]), (.v false [(.b r4)])], []⟩) t0 by kernel_rfl) hN
  intro args r h
  unfold sp37 at h
  split at h
  · injection h with h
    injection h with h1 h2
    subst h2
    exact ⟨by kernel_rfl, fun hf => ⟨of_decide_eq_true (by kernel_rfl), key _ hf.1.1⟩⟩
  · cases h

end Go.FG.Se

namespace Go.FG.Se
open Go.Proofs
def E54 : Env := { toTab := T, call := Go.FG.callIn [], mode := Go.FG.modeIn md, keep := Go.FG.keepIn [], tk := fun n => Go.FG.memB n [], om := Go.FG.omIn [] }
def sp54 : List Arg → Option (Bool × Res)
  | [(.v false [(.i .i64 n0)]), (.v false [(.i .i64 low1)]), (.v false [(.i .i64 high2)])] => some (true, ⟨[(.v false [(.b (Pu.impl_within.v n0 low1 high2))])], []⟩)
  | _ => none
theorem ok54 : FnOk Try.prog T 54 sp54 := by
  refine fn_ok (E := E54) hE call_nil hM Try.func54 (code := (Try.f54.body.getD .skip)) (by kernel_rfl) (by kernel_rfl) ?_
  have key : ∀ (n0 : Int) (low1 : Int) (high2 : Int), ∃ it : It Res, (∀ c ∈ loopsOf (Try.f54.body.getD .skip), LoopOk E54 it c) ∧ body E54 it Try.f54 [(.v false [(.i .i64 n0)]), (.v false [(.i .i64 low1)]), (.v false [(.i .i64 high2)])] = some ⟨[(.v false [(.b (Pu.impl_within.v n0 low1 high2))])], []⟩ := by
    intro n0 low1 high2 
    have hN := Pu.impl_within.b_eq (R := Res) (fun r0 => some ⟨[(.v false [(.b r0)])], []⟩) n0 low1 high2
    have hl : loopsOf (Try.f54.body.getD .skip) = [] := by kernel_rfl
    refine ⟨iterN 0, by rw [hl]; exact loops_nil, ?_⟩
    refine Eq.trans (show body E54 (iterN 0) Try.f54 [(.v false [(.i .i64 n0)]), (.v false [(.i .i64 low1)]), (.v false [(.i .i64 high2)])] = Pu.impl_within.b (fun r0 => some ⟨[(.v false [(.b r0)])], []⟩) n0 low1 high2 by kernel_rfl) hN
  intro args r h
  unfold sp54 at h
  split at h
  · injection h with h
    injection h with h1 h2
    subst h2
    exact ⟨by kernel_rfl, fun hf => ⟨of_decide_eq_true (by kernel_rfl), key _ _ _⟩⟩
  · cases h

end Go.FG.Se

namespace Go.FG.Se
open Go.Proofs
def E69 : Env := { toTab := T, call := Go.FG.callIn [(54, sp54)], mode := Go.FG.modeIn md, keep := Go.FG.keepIn [(5, [0, 1, 4, 5, 6, 7, 8])], tk := fun n => Go.FG.memB n [], om := Go.FG.omIn [] }
def it69 (N : Nat) {R : Type} : It R := fun rid f cn L K => bif Nat.beq rid 5 then (tell [(0, (.v (.v false [(.s ⟨#[]⟩)]))), (2, (.v (.v false [(.i .i64 0)]))), (8, (.v (.v false [(.i .i64 0)]))), (10, (.v (.v false [(.i .i64 0)]))), (12, (.v (.v false [(.b false)]))), (14, (.v (.v false [(.i .i64 0)]))), (16, (.v (.v false [(.i .i64 0)])))] (fun | [.S x0, .I x1, .I x2, .I x3, .B x4, .I x5, .I x6] => Pu.impl_ReadVar.l5 N (fun y0 y1 y2 y3 y4 y5 y6 => (K .ret (tabl [(0, (.v (.v false [(.s y0)]))), (2, (.v (.v false [(.i .i64 y1)]))), (8, (.v (.v false [(.i .i64 y2)]))), (10, (.v (.v false [(.i .i64 y3)]))), (12, (.v (.v false [(.b y4)]))), (14, (.v (.v false [(.i .i64 y5)]))), (16, (.v (.v false [(.i .i64 y6)])))]))) (fun y0 y1 y2 y3 y4 y5 y6 => (K (.exit 0) (tabl [(0, (.v (.v false [(.s y0)]))), (2, (.v (.v false [(.i .i64 y1)]))), (8, (.v (.v false [(.i .i64 y2)]))), (10, (.v (.v false [(.i .i64 y3)]))), (12, (.v (.v false [(.b y4)]))), (14, (.v (.v false [(.i .i64 y5)]))), (16, (.v (.v false [(.i .i64 y6)])))]))) N x0 x1 x2 x3 x4 x5 x6 | _ => none) L (none)) else none
theorem e69_5 {R : Type} (N : Nat) (K : Ex → St → Option R) : ∀ n : Nat, (∀ x0 x1 x2 x3 x4 x5 x6, iter (exc E69 (it69 N) (loopOf Try.f69 5)) (canon (E69.keep 5))  n (tabl [(0, (.v (.v false [(.s x0)]))), (2, (.v (.v false [(.i .i64 x1)]))), (8, (.v (.v false [(.i .i64 x2)]))), (10, (.v (.v false [(.i .i64 x3)]))), (12, (.v (.v false [(.b x4)]))), (14, (.v (.v false [(.i .i64 x5)]))), (16, (.v (.v false [(.i .i64 x6)])))]) K = Pu.impl_ReadVar.l5 N (fun y0 y1 y2 y3 y4 y5 y6 => (K .ret (tabl [(0, (.v (.v false [(.s y0)]))), (2, (.v (.v false [(.i .i64 y1)]))), (8, (.v (.v false [(.i .i64 y2)]))), (10, (.v (.v false [(.i .i64 y3)]))), (12, (.v (.v false [(.b y4)]))), (14, (.v (.v false [(.i .i64 y5)]))), (16, (.v (.v false [(.i .i64 y6)])))]))) (fun y0 y1 y2 y3 y4 y5 y6 => (K (.exit 0) (tabl [(0, (.v (.v false [(.s y0)]))), (2, (.v (.v false [(.i .i64 y1)]))), (8, (.v (.v false [(.i .i64 y2)]))), (10, (.v (.v false [(.i .i64 y3)]))), (12, (.v (.v false [(.b y4)]))), (14, (.v (.v false [(.i .i64 y5)]))), (16, (.v (.v false [(.i .i64 y6)])))]))) n x0 x1 x2 x3 x4 x5 x6) := by
  intro n
  induction n with
  | zero => exact (fun _ _ _ _ _ _ _ => rfl)
  | succ n ih =>
    have e0 : (fun x0 x1 x2 x3 x4 x5 x6 => iter (exc E69 (it69 N) (loopOf Try.f69 5)) (canon (E69.keep 5))  n (tabl [(0, (.v (.v false [(.s x0)]))), (2, (.v (.v false [(.i .i64 x1)]))), (8, (.v (.v false [(.i .i64 x2)]))), (10, (.v (.v false [(.i .i64 x3)]))), (12, (.v (.v false [(.b x4)]))), (14, (.v (.v false [(.i .i64 x5)]))), (16, (.v (.v false [(.i .i64 x6)])))]) K) = Pu.impl_ReadVar.l5 N (fun y0 y1 y2 y3 y4 y5 y6 => (K .ret (tabl [(0, (.v (.v false [(.s y0)]))), (2, (.v (.v false [(.i .i64 y1)]))), (8, (.v (.v false [(.i .i64 y2)]))), (10, (.v (.v false [(.i .i64 y3)]))), (12, (.v (.v false [(.b y4)]))), (14, (.v (.v false [(.i .i64 y5)]))), (16, (.v (.v false [(.i .i64 y6)])))]))) (fun y0 y1 y2 y3 y4 y5 y6 => (K (.exit 0) (tabl [(0, (.v (.v false [(.s y0)]))), (2, (.v (.v false [(.i .i64 y1)]))), (8, (.v (.v false [(.i .i64 y2)]))), (10, (.v (.v false [(.i .i64 y3)]))), (12, (.v (.v false [(.b y4)]))), (14, (.v (.v false [(.i .i64 y5)]))), (16, (.v (.v false [(.i .i64 y6)])))]))) n := by funext x0 x1 x2 x3 x4 x5 x6; exact ih x0 x1 x2 x3 x4 x5 x6
    intro x0 x1 x2 x3 x4 x5 x6
    have h : ∀ g, exc E69 (it69 N) (loopOf Try.f69 5) (tabl [(0, (.v (.v false [(.s x0)]))), (2, (.v (.v false [(.i .i64 x1)]))), (8, (.v (.v false [(.i .i64 x2)]))), (10, (.v (.v false [(.i .i64 x3)]))), (12, (.v (.v false [(.b x4)]))), (14, (.v (.v false [(.i .i64 x5)]))), (16, (.v (.v false [(.i .i64 x6)])))]) (iterK g (canon (E69.keep 5)) K) = Pu.impl_ReadVar.r5 N (fun x0 x1 x2 x3 x4 x5 x6 => (g (tabl [(0, (.v (.v false [(.s x0)]))), (2, (.v (.v false [(.i .i64 x1)]))), (8, (.v (.v false [(.i .i64 x2)]))), (10, (.v (.v false [(.i .i64 x3)]))), (12, (.v (.v false [(.b x4)]))), (14, (.v (.v false [(.i .i64 x5)]))), (16, (.v (.v false [(.i .i64 x6)])))]))) (fun y0 y1 y2 y3 y4 y5 y6 => (K .ret (tabl [(0, (.v (.v false [(.s y0)]))), (2, (.v (.v false [(.i .i64 y1)]))), (8, (.v (.v false [(.i .i64 y2)]))), (10, (.v (.v false [(.i .i64 y3)]))), (12, (.v (.v false [(.b y4)]))), (14, (.v (.v false [(.i .i64 y5)]))), (16, (.v (.v false [(.i .i64 y6)])))]))) (fun y0 y1 y2 y3 y4 y5 y6 => (K (.exit 0) (tabl [(0, (.v (.v false [(.s y0)]))), (2, (.v (.v false [(.i .i64 y1)]))), (8, (.v (.v false [(.i .i64 y2)]))), (10, (.v (.v false [(.i .i64 y3)]))), (12, (.v (.v false [(.b y4)]))), (14, (.v (.v false [(.i .i64 y5)]))), (16, (.v (.v false [(.i .i64 y6)])))]))) x0 x1 x2 x3 x4 x5 x6 := by intro g; kernel_rfl
    refine (h _).trans ?_
    show Pu.impl_ReadVar.r5 N (fun x0 x1 x2 x3 x4 x5 x6 => (iter (exc E69 (it69 N) (loopOf Try.f69 5)) (canon (E69.keep 5))  n (tabl [(0, (.v (.v false [(.s x0)]))), (2, (.v (.v false [(.i .i64 x1)]))), (8, (.v (.v false [(.i .i64 x2)]))), (10, (.v (.v false [(.i .i64 x3)]))), (12, (.v (.v false [(.b x4)]))), (14, (.v (.v false [(.i .i64 x5)]))), (16, (.v (.v false [(.i .i64 x6)])))]) K)) (fun y0 y1 y2 y3 y4 y5 y6 => (K .ret (tabl [(0, (.v (.v false [(.s y0)]))), (2, (.v (.v false [(.i .i64 y1)]))), (8, (.v (.v false [(.i .i64 y2)]))), (10, (.v (.v false [(.i .i64 y3)]))), (12, (.v (.v false [(.b y4)]))), (14, (.v (.v false [(.i .i64 y5)]))), (16, (.v (.v false [(.i .i64 y6)])))]))) (fun y0 y1 y2 y3 y4 y5 y6 => (K (.exit 0) (tabl [(0, (.v (.v false [(.s y0)]))), (2, (.v (.v false [(.i .i64 y1)]))), (8, (.v (.v false [(.i .i64 y2)]))), (10, (.v (.v false [(.i .i64 y3)]))), (12, (.v (.v false [(.b y4)]))), (14, (.v (.v false [(.i .i64 y5)]))), (16, (.v (.v false [(.i .i64 y6)])))]))) x0 x1 x2 x3 x4 x5 x6 = _
    rw [e0]; rfl
theorem lo69_5 {R : Type} (N : Nat) : LoopOk E69 (it69 N (R := R)) (loopOf Try.f69 5) := by
  have e : firstRid (loopOf Try.f69 5) = 5 := by kernel_rfl
  intro L K r
  rw [e]
  intro h
  unfold it69 at h
  simp only [show Nat.beq 5 5 = true from rfl, cond_false, cond_true] at h
  refine tell_ok (Q := fun L => ∃ n, iter (exc E69 (it69 N) (loopOf Try.f69 5)) (canon (E69.keep 5)) n (tabl L) K = some r) h (fun xs h => ?_) (fun h => ?_)
  · (try dsimp only at h)
    split at h
    · exact ⟨N, ((e69_5 N K N) _ _ _ _ _ _ _).trans h⟩
    · cases h
  cases h
def sp69 : List Arg → Option (Bool × Res)
  | [(.v false [(.s text0)]), (.v false [(.i .i64 at1)])] => some (true, ⟨[(.v false [(.i .i64 ((Pu.impl_ReadVar.v text0 at1).1))]), (.v false [(.i .i64 ((Pu.impl_ReadVar.v text0 at1).2.1))]), (.v false [(.b ((Pu.impl_ReadVar.v text0 at1).2.2))])], []⟩)
  | _ => none
theorem ok69 : FnOk Try.prog T 69 sp69 := by
  refine fn_ok (E := E69) hE (call_cons ok54 call_nil) hM Try.func69 (code := (Try.f69.body.getD .skip)) (by kernel_rfl) (by kernel_rfl) ?_
  have key : ∀ (text0 : ByteArray) (at1 : Int), okS text0 → ∃ it : It Res, (∀ c ∈ loopsOf (Try.f69.body.getD .skip), LoopOk E69 it c) ∧ body E69 it Try.f69 [(.v false [(.s text0)]), (.v false [(.i .i64 at1)])] = some ⟨[(.v false [(.i .i64 ((Pu.impl_ReadVar.v text0 at1).1))]), (.v false [(.i .i64 ((Pu.impl_ReadVar.v text0 at1).2.1))]), (.v false [(.b ((Pu.impl_ReadVar.v text0 at1).2.2))])], []⟩ := by
    intro text0 at1  g0
    obtain ⟨N, hN⟩ := Pu.impl_ReadVar.b_eq (R := Res) (fun r0 r1 r2 => some ⟨[(.v false [(.i .i64 r0)]), (.v false [(.i .i64 r1)]), (.v false [(.b r2)])], []⟩) text0 at1 g0
    have hl : loopsOf (Try.f69.body.getD .skip) = [loopOf Try.f69 5] := by kernel_rfl
    refine ⟨it69 N, by rw [hl]; exact (loops_cons (lo69_5 N) loops_nil), ?_⟩
    refine Eq.trans (show body E69 (it69 N) Try.f69 [(.v false [(.s text0)]), (.v false [(.i .i64 at1)])] = Pu.impl_ReadVar.b N (fun r0 r1 r2 => some ⟨[(.v false [(.i .i64 r0)]), (.v false [(.i .i64 r1)]), (.v false [(.b r2)])], []⟩) text0 at1 by kernel_rfl) hN
  intro args r h
  unfold sp69 at h
  split at h
  · injection h with h
    injection h with h1 h2
    subst h2
    exact ⟨by kernel_rfl, fun hf => ⟨of_decide_eq_true (by kernel_rfl), key _ _ hf.1.1⟩⟩
  · cases h

end Go.FG.Se

namespace Go.FG.Se
open Go.Proofs
def E68 : Env := { toTab := T, call := Go.FG.callIn [(69, sp69)], mode := Go.FG.modeIn md, keep := Go.FG.keepIn [], tk := fun n => Go.FG.memB n [], om := Go.FG.omIn [] }
def sp68 : List Arg → Option (Bool × Res)
  | [(.v false [(.s text0)]), (.v false [(.i .i64 at1)])] => some (true, ⟨[(.v false [(.s ((Pu.impl_ReadShort.v text0 at1).1))]), (.v false [(.i .i64 ((Pu.impl_ReadShort.v text0 at1).2.1))]), (.v false [(.b ((Pu.impl_ReadShort.v text0 at1).2.2))])], []⟩)
  | _ => none
theorem ok68 : FnOk Try.prog T 68 sp68 := by
  refine fn_ok (E := E68) hE (call_cons ok69 call_nil) hM Try.func68 (code := (Try.f68.body.getD .skip)) (by kernel_rfl) (by kernel_rfl) ?_
  have key : ∀ (text0 : ByteArray) (at1 : Int), okS text0 → ∃ it : It Res, (∀ c ∈ loopsOf (Try.f68.body.getD .skip), LoopOk E68 it c) ∧ body E68 it Try.f68 [(.v false [(.s text0)]), (.v false [(.i .i64 at1)])] = some ⟨[(.v false [(.s ((Pu.impl_ReadShort.v text0 at1).1))]), (.v false [(.i .i64 ((Pu.impl_ReadShort.v text0 at1).2.1))]), (.v false [(.b ((Pu.impl_ReadShort.v text0 at1).2.2))])], []⟩ := by
    intro text0 at1  g0
    have hN := Pu.impl_ReadShort.b_eq (R := Res) (fun r0 r1 r2 => some ⟨[(.v false [(.s r0)]), (.v false [(.i .i64 r1)]), (.v false [(.b r2)])], []⟩) text0 at1 g0
    have hl : loopsOf (Try.f68.body.getD .skip) = [] := by kernel_rfl
    refine ⟨iterN 0, by rw [hl]; exact loops_nil, ?_⟩
    refine Eq.trans (show body E68 (iterN 0) Try.f68 [(.v false [(.s text0)]), (.v false [(.i .i64 at1)])] = Pu.impl_ReadShort.b (fun r0 r1 r2 => some ⟨[(.v false [(.s r0)]), (.v false [(.i .i64 r1)]), (.v false [(.b r2)])], []⟩) text0 at1 by kernel_rfl) hN
  intro args r h
  unfold sp68 at h
  split at h
  · injection h with h
    injection h with h1 h2
    subst h2
    exact ⟨by kernel_rfl, fun hf => ⟨of_decide_eq_true (by kernel_rfl), key _ _ hf.1.1⟩⟩
  · cases h

end Go.FG.Se

namespace Go.FG.Se
open Go.Proofs
def E52 : Env := { toTab := T, call := Go.FG.callIn [(54, sp54)], mode := Go.FG.modeIn md, keep := Go.FG.keepIn [], tk := fun n => Go.FG.memB n [], om := Go.FG.omIn [] }
def sp52 : List Arg → Option (Bool × Res)
  | [(.v false [(.s key0)])] => some (true, ⟨[(.v false [(.b (Pu.impl_isKey.v key0))])], []⟩)
  | _ => none
theorem ok52 : FnOk Try.prog T 52 sp52 := by
  refine fn_ok (E := E52) hE (call_cons ok54 call_nil) hM Try.func52 (code := (Try.f52.body.getD .skip)) (by kernel_rfl) (by kernel_rfl) ?_
  have key : ∀ (key0 : ByteArray), ∃ it : It Res, (∀ c ∈ loopsOf (Try.f52.body.getD .skip), LoopOk E52 it c) ∧ body E52 it Try.f52 [(.v false [(.s key0)])] = some ⟨[(.v false [(.b (Pu.impl_isKey.v key0))])], []⟩ := by
    intro key0 
    have hN := Pu.impl_isKey.b_eq (R := Res) (fun r0 => some ⟨[(.v false [(.b r0)])], []⟩) key0
    have hl : loopsOf (Try.f52.body.getD .skip) = [] := by kernel_rfl
    refine ⟨iterN 0, by rw [hl]; exact loops_nil, ?_⟩
    refine Eq.trans (show body E52 (iterN 0) Try.f52 [(.v false [(.s key0)])] = Pu.impl_isKey.b (fun r0 => some ⟨[(.v false [(.b r0)])], []⟩) key0 by kernel_rfl) hN
  intro args r h
  unfold sp52 at h
  split at h
  · injection h with h
    injection h with h1 h2
    subst h2
    exact ⟨by kernel_rfl, fun hf => ⟨of_decide_eq_true (by kernel_rfl), key _⟩⟩
  · cases h

end Go.FG.Se

namespace Go.FG.Se
open Go.Proofs
def E53 : Env := { toTab := T, call := Go.FG.callIn [(54, sp54)], mode := Go.FG.modeIn md, keep := Go.FG.keepIn [], tk := fun n => Go.FG.memB n [], om := Go.FG.omIn [] }
def sp53 : List Arg → Option (Bool × Res)
  | [(.v false [(.i .i64 n0)])] => some (true, ⟨[(.v false [(.b (Pu.impl_isNumber.v n0))])], []⟩)
  | _ => none
theorem ok53 : FnOk Try.prog T 53 sp53 := by
  refine fn_ok (E := E53) hE (call_cons ok54 call_nil) hM Try.func53 (code := (Try.f53.body.getD .skip)) (by kernel_rfl) (by kernel_rfl) ?_
  have key : ∀ (n0 : Int), ∃ it : It Res, (∀ c ∈ loopsOf (Try.f53.body.getD .skip), LoopOk E53 it c) ∧ body E53 it Try.f53 [(.v false [(.i .i64 n0)])] = some ⟨[(.v false [(.b (Pu.impl_isNumber.v n0))])], []⟩ := by
    intro n0 
    have hN := Pu.impl_isNumber.b_eq (R := Res) (fun r0 => some ⟨[(.v false [(.b r0)])], []⟩) n0
    have hl : loopsOf (Try.f53.body.getD .skip) = [] := by kernel_rfl
    refine ⟨iterN 0, by rw [hl]; exact loops_nil, ?_⟩
    refine Eq.trans (show body E53 (iterN 0) Try.f53 [(.v false [(.i .i64 n0)])] = Pu.impl_isNumber.b (fun r0 => some ⟨[(.v false [(.b r0)])], []⟩) n0 by kernel_rfl) hN
  intro args r h
  unfold sp53 at h
  split at h
  · injection h with h
    injection h with h1 h2
    subst h2
    exact ⟨by kernel_rfl, fun hf => ⟨of_decide_eq_true (by kernel_rfl), key _⟩⟩
  · cases h

end Go.FG.Se

namespace Go.FG.Se
open Go.Proofs
def E18 : Env := { toTab := T, call := Go.FG.callIn [(52, sp52), (53, sp53), (54, sp54)], mode := Go.FG.modeIn md, keep := Go.FG.keepIn [], tk := fun n => Go.FG.memB n [], om := Go.FG.omIn [] }
def sp18 : List Arg → Option (Bool × Res)
  | [(.v true [(.s e0_0), (.i .i64 e0_1), (.i .i64 e0_2), (.s e0_3)])] => some (true, ⟨[(.v false [(.b (Pu.impl_EntryOk.v e0_0 e0_1 e0_2 e0_3))])], []⟩)
  | _ => none
theorem ok18 : FnOk Try.prog T 18 sp18 := by
  refine fn_ok (E := E18) hE (call_cons ok52 (call_cons ok53 (call_cons ok54 call_nil))) hM Try.func18 (code := (Try.f18.body.getD .skip)) (by kernel_rfl) (by kernel_rfl) ?_
  have key : ∀ (e0_0 : ByteArray) (e0_1 : Int) (e0_2 : Int) (e0_3 : ByteArray), ∃ it : It Res, (∀ c ∈ loopsOf (Try.f18.body.getD .skip), LoopOk E18 it c) ∧ body E18 it Try.f18 [(.v true [(.s e0_0), (.i .i64 e0_1), (.i .i64 e0_2), (.s e0_3)])] = some ⟨[(.v false [(.b (Pu.impl_EntryOk.v e0_0 e0_1 e0_2 e0_3))])], []⟩ := by
    intro e0_0 e0_1 e0_2 e0_3 
    have hN := Pu.impl_EntryOk.b_eq (R := Res) (fun r0 => some ⟨[(.v false [(.b r0)])], []⟩) e0_0 e0_1 e0_2 e0_3
    have hl : loopsOf (Try.f18.body.getD .skip) = [] := by kernel_rfl
    refine ⟨iterN 0, by rw [hl]; exact loops_nil, ?_⟩
    refine Eq.trans (show body E18 (iterN 0) Try.f18 [(.v true [(.s e0_0), (.i .i64 e0_1), (.i .i64 e0_2), (.s e0_3)])] = Pu.impl_EntryOk.b (fun r0 => some ⟨[(.v false [(.b r0)])], []⟩) e0_0 e0_1 e0_2 e0_3 by kernel_rfl) hN
  intro args r h
  unfold sp18 at h
  split at h
  · injection h with h
    injection h with h1 h2
    subst h2
    exact ⟨by kernel_rfl, fun hf => ⟨of_decide_eq_true (by kernel_rfl), key _ _ _ _⟩⟩
  · cases h

end Go.FG.Se

namespace Go.FG.Se
open Go.Proofs
def E38 : Env := { toTab := T, call := Go.FG.callIn [(68, sp68), (69, sp69), (18, sp18)], mode := Go.FG.modeIn md, keep := Go.FG.keepIn [], tk := fun n => Go.FG.memB n [], om := Go.FG.omIn [] }
def sp38 : List Arg → Option (Bool × Res)
  | [(.v false [(.s t0)])] => some (true, ⟨[(.v true [(.s ((Pu.impl_ReadEntry.v t0).1)), (.i .i64 ((Pu.impl_ReadEntry.v t0).2.1)), (.i .i64 ((Pu.impl_ReadEntry.v t0).2.2.1)), (.s ((Pu.impl_ReadEntry.v t0).2.2.2.1))]), (.v false [(.b ((Pu.impl_ReadEntry.v t0).2.2.2.2))])], []⟩)
  | _ => none
theorem ok38 : FnOk Try.prog T 38 sp38 := by
  refine fn_ok (E := E38) hE (call_cons ok68 (call_cons ok69 (call_cons ok18 call_nil))) hM Try.func38 (code := (Try.f38.body.getD .skip)) (by kernel_rfl) (by kernel_rfl) ?_
  have key : ∀ (t0 : ByteArray), okS t0 → ∃ it : It Res, (∀ c ∈ loopsOf (Try.f38.body.getD .skip), LoopOk E38 it c) ∧ body E38 it Try.f38 [(.v false [(.s t0)])] = some ⟨[(.v true [(.s ((Pu.impl_ReadEntry.v t0).1)), (.i .i64 ((Pu.impl_ReadEntry.v t0).2.1)), (.i .i64 ((Pu.impl_ReadEntry.v t0).2.2.1)), (.s ((Pu.impl_ReadEntry.v t0).2.2.2.1))]), (.v false [(.b ((Pu.impl_ReadEntry.v t0).2.2.2.2))])], []⟩ := by
    intro t0  g0
    have hN := Pu.impl_ReadEntry.b_eq (R := Res) (fun r0 r1 r2 r3 r4 => some ⟨[(.v true [(.s r0), (.i .i64 r1), (.i .i64 r2), (.s r3)]), (.v false [(.b r4)])], []⟩) t0 g0
    have hl : loopsOf (Try.f38.body.getD .skip) = [] := by kernel_rfl
    refine ⟨iterN 0, by rw [hl]; exact loops_nil, ?_⟩
    refine Eq.trans (show body E38 (iterN 0) Try.f38 [(.v false [(.s t0)])] = Pu.impl_ReadEntry.b (fun r0 r1 r2 r3 r4 => some ⟨[(.v true [(.s r0), (.i .i64 r1), (.i .i64 r2), (.s r3)]), (.v false [(.b r4)])], []⟩) t0 by kernel_rfl) hN
  intro args r h
  unfold sp38 at h
  split at h
  · injection h with h
    injection h with h1 h2
    subst h2
    exact ⟨by kernel_rfl, fun hf => ⟨of_decide_eq_true (by kernel_rfl), key _ hf.1.1⟩⟩
  · cases h

end Go.FG.Se

namespace Go.FG.Se
open Go.Proofs
def E39 : Env := { toTab := T, call := Go.FG.callIn [], mode := Go.FG.modeIn md, keep := Go.FG.keepIn [], tk := fun n => Go.FG.memB n [], om := Go.FG.omIn [] }
def sp39 : List Arg → Option (Bool × Res)
  | [(.v true [(.s a0_0), (.i .i64 a0_1), (.i .i64 a0_2), (.s a0_3)]), (.v true [(.s b1_0), (.i .i64 b1_1), (.i .i64 b1_2), (.s b1_3)])] => some (true, ⟨[(.v false [(.b (Pu.laws_eqEntry.v a0_0 a0_1 a0_2 a0_3 b1_0 b1_1 b1_2 b1_3))])], []⟩)
  | _ => none
theorem ok39 : FnOk Try.prog T 39 sp39 := by
  refine fn_ok (E := E39) hE call_nil hM Try.func39 (code := (Try.f39.body.getD .skip)) (by kernel_rfl) (by kernel_rfl) ?_
  have key : ∀ (a0_0 : ByteArray) (a0_1 : Int) (a0_2 : Int) (a0_3 : ByteArray) (b1_0 : ByteArray) (b1_1 : Int) (b1_2 : Int) (b1_3 : ByteArray), ∃ it : It Res, (∀ c ∈ loopsOf (Try.f39.body.getD .skip), LoopOk E39 it c) ∧ body E39 it Try.f39 [(.v true [(.s a0_0), (.i .i64 a0_1), (.i .i64 a0_2), (.s a0_3)]), (.v true [(.s b1_0), (.i .i64 b1_1), (.i .i64 b1_2), (.s b1_3)])] = some ⟨[(.v false [(.b (Pu.laws_eqEntry.v a0_0 a0_1 a0_2 a0_3 b1_0 b1_1 b1_2 b1_3))])], []⟩ := by
    intro a0_0 a0_1 a0_2 a0_3 b1_0 b1_1 b1_2 b1_3 
    have hN := Pu.laws_eqEntry.b_eq (R := Res) (fun r0 => some ⟨[(.v false [(.b r0)])], []⟩) a0_0 a0_1 a0_2 a0_3 b1_0 b1_1 b1_2 b1_3
    have hl : loopsOf (Try.f39.body.getD .skip) = [] := by kernel_rfl
    refine ⟨iterN 0, by rw [hl]; exact loops_nil, ?_⟩
    refine Eq.trans (show body E39 (iterN 0) Try.f39 [(.v true [(.s a0_0), (.i .i64 a0_1), (.i .i64 a0_2), (.s a0_3)]), (.v true [(.s b1_0), (.i .i64 b1_1), (.i .i64 b1_2), (.s b1_3)])] = Pu.laws_eqEntry.b (fun r0 => some ⟨[(.v false [(.b r0)])], []⟩) a0_0 a0_1 a0_2 a0_3 b1_0 b1_1 b1_2 b1_3 by kernel_rfl) hN
  intro args r h
  unfold sp39 at h
  split at h
  · injection h with h
    injection h with h1 h2
    subst h2
    exact ⟨by kernel_rfl, fun hf => ⟨of_decide_eq_true (by kernel_rfl), key _ _ _ _ _ _ _ _⟩⟩
  · cases h

end Go.FG.Se

namespace Go.FG.Se
open Go.Proofs
def E9 : Env := { toTab := T, call := Go.FG.callIn [(37, sp37), (38, sp38), (39, sp39)], mode := Go.FG.modeIn md, keep := Go.FG.keepIn [], tk := fun n => Go.FG.memB n [], om := Go.FG.omIn [] }
def sp9 : List Arg → Option (Bool × Res)
  | [(.v false [(.s aT0)])] => some (true, ⟨[(.v false [(.b (Pu.laws_FnExactReadEntry.v aT0))])], []⟩)
  | _ => none
theorem ok9 : FnOk Try.prog T 9 sp9 := by
  refine fn_ok (E := E9) hE (call_cons ok37 (call_cons ok38 (call_cons ok39 call_nil))) hM Try.func9 (code := (Try.f9.body.getD .skip)) (by kernel_rfl) (by kernel_rfl) ?_
  have key : ∀ (aT0 : ByteArray), ∃ it : It Res, (∀ c ∈ loopsOf (Try.f9.body.getD .skip), LoopOk E9 it c) ∧ body E9 it Try.f9 [(.v false [(.s aT0)])] = some ⟨[(.v false [(.b (Pu.laws_FnExactReadEntry.v aT0))])], []⟩ := by
    intro aT0 
    have hN := Pu.laws_FnExactReadEntry.b_eq (R := Res) (fun r0 => some ⟨[(.v false [(.b r0)])], []⟩) aT0
    have hl : loopsOf (Try.f9.body.getD .skip) = [] := by kernel_rfl
    refine ⟨iterN 0, by rw [hl]; exact loops_nil, ?_⟩
    refine Eq.trans (show body E9 (iterN 0) Try.f9 [(.v false [(.s aT0)])] = Pu.laws_FnExactReadEntry.b (fun r0 => some ⟨[(.v false [(.b r0)])], []⟩) aT0 by kernel_rfl) hN
  intro args r h
  unfold sp9 at h
  split at h
  · injection h with h
    injection h with h1 h2
    subst h2
    exact ⟨by kernel_rfl, fun hf => ⟨of_decide_eq_true (by kernel_rfl), key _⟩⟩
  · cases h

end Go.FG.Se

