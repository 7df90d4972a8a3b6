/- Functions of the program: the evaluation of each, and that a call of it does what is told. No condition. -/
import Derived.Test.YtijidheebmbkcaaTab
import Derived.Test.YtijidheebmbkcaaPExactPolicyTouch
import Derived.Test.YtijidheebmbkcaaSExactPolicyToucha
set_option linter.unusedVariables false
set_option linter.unusedSimpArgs false
set_option maxRecDepth 100000
namespace Go.FG.Se
open Go.Proofs
def E115 : Env := { toTab := T, call := Go.FG.callIn [(195, sp195)], mode := Go.FG.modeIn md, keep := Go.FG.keepIn [(2, [0, 1, 5])], tk := fun n => Go.FG.memB n [], om := Go.FG.omIn [] }
def it115 (N : Nat) {R : Type} : It R := fun rid f cn L K => bif Nat.beq rid 2 then (tell [(0, (.v (.v false [(.own 900000000)]))), (2, (.v (.v false [(.i .i64 0)]))), (10, (.v (.v false [(.i .i64 0)]))), (1800000001, (.o (.row 9 true [])))] (fun | [.I x0, .I x1, .R x2] => Pu.laws_markStringS.l2 N (fun y0 y1 y2 => (K (.exit 0) (tabl [(0, (.v (.v false [(.own 900000000)]))), (2, (.v (.v false [(.i .i64 y0)]))), (10, (.v (.v false [(.i .i64 y1)]))), (1800000001, (.o (.row 9 true y2)))]))) N x0 x1 x2 | _ => none) L (none)) else none
theorem e115_2 {R : Type} (N : Nat) (K : Ex → St → Option R) : ∀ n : Nat, (∀ x0 x1 x2, iter (exc E115 (it115 N) (loopOf Try.f115 2)) (canon (E115.keep 2))  n (tabl [(0, (.v (.v false [(.own 900000000)]))), (2, (.v (.v false [(.i .i64 x0)]))), (10, (.v (.v false [(.i .i64 x1)]))), (1800000001, (.o (.row 9 true x2)))]) K = Pu.laws_markStringS.l2 N (fun y0 y1 y2 => (K (.exit 0) (tabl [(0, (.v (.v false [(.own 900000000)]))), (2, (.v (.v false [(.i .i64 y0)]))), (10, (.v (.v false [(.i .i64 y1)]))), (1800000001, (.o (.row 9 true y2)))]))) n x0 x1 x2) := by
  intro n
  induction n with
  | zero => exact (fun _ _ _ => rfl)
  | succ n ih =>
    have e0 : (fun x0 x1 x2 => iter (exc E115 (it115 N) (loopOf Try.f115 2)) (canon (E115.keep 2))  n (tabl [(0, (.v (.v false [(.own 900000000)]))), (2, (.v (.v false [(.i .i64 x0)]))), (10, (.v (.v false [(.i .i64 x1)]))), (1800000001, (.o (.row 9 true x2)))]) K) = Pu.laws_markStringS.l2 N (fun y0 y1 y2 => (K (.exit 0) (tabl [(0, (.v (.v false [(.own 900000000)]))), (2, (.v (.v false [(.i .i64 y0)]))), (10, (.v (.v false [(.i .i64 y1)]))), (1800000001, (.o (.row 9 true y2)))]))) n := by funext x0 x1 x2; exact ih x0 x1 x2
    intro x0 x1 x2
    have h : ∀ g, exc E115 (it115 N) (loopOf Try.f115 2) (tabl [(0, (.v (.v false [(.own 900000000)]))), (2, (.v (.v false [(.i .i64 x0)]))), (10, (.v (.v false [(.i .i64 x1)]))), (1800000001, (.o (.row 9 true x2)))]) (iterK g (canon (E115.keep 2)) K) = Pu.laws_markStringS.r2 N (fun x0 x1 x2 => (g (tabl [(0, (.v (.v false [(.own 900000000)]))), (2, (.v (.v false [(.i .i64 x0)]))), (10, (.v (.v false [(.i .i64 x1)]))), (1800000001, (.o (.row 9 true x2)))]))) (fun y0 y1 y2 => (K (.exit 0) (tabl [(0, (.v (.v false [(.own 900000000)]))), (2, (.v (.v false [(.i .i64 y0)]))), (10, (.v (.v false [(.i .i64 y1)]))), (1800000001, (.o (.row 9 true y2)))]))) x0 x1 x2 := by intro g; kernel_rfl
    refine (iter_succ _ _ n _ K).trans ((h _).trans ?_)
    show Pu.laws_markStringS.r2 N (fun x0 x1 x2 => (iter (exc E115 (it115 N) (loopOf Try.f115 2)) (canon (E115.keep 2))  n (tabl [(0, (.v (.v false [(.own 900000000)]))), (2, (.v (.v false [(.i .i64 x0)]))), (10, (.v (.v false [(.i .i64 x1)]))), (1800000001, (.o (.row 9 true x2)))]) K)) (fun y0 y1 y2 => (K (.exit 0) (tabl [(0, (.v (.v false [(.own 900000000)]))), (2, (.v (.v false [(.i .i64 y0)]))), (10, (.v (.v false [(.i .i64 y1)]))), (1800000001, (.o (.row 9 true y2)))]))) x0 x1 x2 = _
    rw [e0]; rfl
theorem lo115_2 {R : Type} (N : Nat) : LoopOk E115 (it115 N (R := R)) (loopOf Try.f115 2) := by
  have e : firstRid (loopOf Try.f115 2) = 2 := by kernel_rfl
  intro L K r
  rw [e]
  intro h
  unfold it115 at h
  simp only [show Nat.beq 2 2 = true from rfl, cond_false, cond_true] at h
  refine tell_ok (Q := fun L => ∃ n, iter (exc E115 (it115 N) (loopOf Try.f115 2)) (canon (E115.keep 2)) n (tabl L) K = some r) h (fun xs h => ?_) (fun h => ?_)
  · (try dsimp only at h)
    split at h
    · exact ⟨N, ((e115_2 N K N) _ _ _).trans h⟩
    · cases h
  cases h
def sp115 : List Arg → Option (Bool × Res)
  | [(.v false [(.ow 9 true a0)]), (.v false [(.i .i64 k1)])] => some (Pu.laws_markStringS.c a0 k1, ⟨[(.v false [(.i .i64 ((Pu.laws_markStringS.v a0 k1).1))])], [[(.kp ((Pu.laws_markStringS.v a0 k1).2))]]⟩)
  | _ => none
theorem ok115 : FnOk Try.prog T 115 sp115 := by
  refine fn_ok (E := E115) hE (call_cons ok195 call_nil) hM Try.func115 (code := (Try.f115.body.getD .skip)) (by kernel_rfl) (by kernel_rfl) ?_
  have key : ∀ (a0 : Row) (k1 : Int), Pu.laws_markStringS.c a0 k1 = true → ∃ it : It Res, (∀ c ∈ loopsOf (Try.f115.body.getD .skip), LoopOk E115 it c) ∧ body E115 it Try.f115 [(.v false [(.ow 9 true a0)]), (.v false [(.i .i64 k1)])] = some ⟨[(.v false [(.i .i64 ((Pu.laws_markStringS.v a0 k1).1))])], [[(.kp ((Pu.laws_markStringS.v a0 k1).2))]]⟩ := by
    intro a0 k1  h1
    obtain ⟨N, hN⟩ := Pu.laws_markStringS.b_eq (R := Res) (fun r0 r1 => some ⟨[(.v false [(.i .i64 r0)])], [[(.kp r1)]]⟩) a0 k1 h1
    have hl : loopsOf (Try.f115.body.getD .skip) = [loopOf Try.f115 2] := by kernel_rfl
    refine ⟨it115 N, by rw [hl]; exact (loops_cons (lo115_2 N) loops_nil), ?_⟩
    refine Eq.trans (show body E115 (it115 N) Try.f115 [(.v false [(.ow 9 true a0)]), (.v false [(.i .i64 k1)])] = Pu.laws_markStringS.b N (fun r0 r1 => some ⟨[(.v false [(.i .i64 r0)])], [[(.kp r1)]]⟩) a0 k1 by kernel_rfl) hN
  intro args r h
  unfold sp115 at h
  split at h
  · injection h with h
    injection h with h1 h2
    subst h2
    exact ⟨by kernel_rfl, fun hf => ⟨of_decide_eq_true (by kernel_rfl), key _ _ h1⟩⟩
  · cases h

end Go.FG.Se

namespace Go.FG.Se
open Go.Proofs
def E227 : Env := { toTab := T, call := Go.FG.callIn [], mode := Go.FG.modeIn md, keep := Go.FG.keepIn [(2, [0, 1, 5])], tk := fun n => Go.FG.memB n [], om := Go.FG.omIn [] }
def it227 (N : Nat) {R : Type} : It R := fun rid f cn L K => bif Nat.beq rid 2 then (tell [(0, (.v (.v false [(.own 900000000)]))), (2, (.v (.v false [(.i .i64 0)]))), (10, (.v (.v false [(.i .i64 0)]))), (1800000001, (.o (.row 3 true [])))] (fun | [.I x0, .I x1, .R x2] => Pu.laws_markIntS.l2 N (fun y0 y1 y2 => (K (.exit 0) (tabl [(0, (.v (.v false [(.own 900000000)]))), (2, (.v (.v false [(.i .i64 y0)]))), (10, (.v (.v false [(.i .i64 y1)]))), (1800000001, (.o (.row 3 true y2)))]))) N x0 x1 x2 | _ => none) L (none)) else none
theorem e227_2 {R : Type} (N : Nat) (K : Ex → St → Option R) : ∀ n : Nat, (∀ x0 x1 x2, iter (exc E227 (it227 N) (loopOf Try.f227 2)) (canon (E227.keep 2))  n (tabl [(0, (.v (.v false [(.own 900000000)]))), (2, (.v (.v false [(.i .i64 x0)]))), (10, (.v (.v false [(.i .i64 x1)]))), (1800000001, (.o (.row 3 true x2)))]) K = Pu.laws_markIntS.l2 N (fun y0 y1 y2 => (K (.exit 0) (tabl [(0, (.v (.v false [(.own 900000000)]))), (2, (.v (.v false [(.i .i64 y0)]))), (10, (.v (.v false [(.i .i64 y1)]))), (1800000001, (.o (.row 3 true y2)))]))) n x0 x1 x2) := by
  intro n
  induction n with
  | zero => exact (fun _ _ _ => rfl)
  | succ n ih =>
    have e0 : (fun x0 x1 x2 => iter (exc E227 (it227 N) (loopOf Try.f227 2)) (canon (E227.keep 2))  n (tabl [(0, (.v (.v false [(.own 900000000)]))), (2, (.v (.v false [(.i .i64 x0)]))), (10, (.v (.v false [(.i .i64 x1)]))), (1800000001, (.o (.row 3 true x2)))]) K) = Pu.laws_markIntS.l2 N (fun y0 y1 y2 => (K (.exit 0) (tabl [(0, (.v (.v false [(.own 900000000)]))), (2, (.v (.v false [(.i .i64 y0)]))), (10, (.v (.v false [(.i .i64 y1)]))), (1800000001, (.o (.row 3 true y2)))]))) n := by funext x0 x1 x2; exact ih x0 x1 x2
    intro x0 x1 x2
    have h : ∀ g, exc E227 (it227 N) (loopOf Try.f227 2) (tabl [(0, (.v (.v false [(.own 900000000)]))), (2, (.v (.v false [(.i .i64 x0)]))), (10, (.v (.v false [(.i .i64 x1)]))), (1800000001, (.o (.row 3 true x2)))]) (iterK g (canon (E227.keep 2)) K) = Pu.laws_markIntS.r2 N (fun x0 x1 x2 => (g (tabl [(0, (.v (.v false [(.own 900000000)]))), (2, (.v (.v false [(.i .i64 x0)]))), (10, (.v (.v false [(.i .i64 x1)]))), (1800000001, (.o (.row 3 true x2)))]))) (fun y0 y1 y2 => (K (.exit 0) (tabl [(0, (.v (.v false [(.own 900000000)]))), (2, (.v (.v false [(.i .i64 y0)]))), (10, (.v (.v false [(.i .i64 y1)]))), (1800000001, (.o (.row 3 true y2)))]))) x0 x1 x2 := by intro g; kernel_rfl
    refine (iter_succ _ _ n _ K).trans ((h _).trans ?_)
    show Pu.laws_markIntS.r2 N (fun x0 x1 x2 => (iter (exc E227 (it227 N) (loopOf Try.f227 2)) (canon (E227.keep 2))  n (tabl [(0, (.v (.v false [(.own 900000000)]))), (2, (.v (.v false [(.i .i64 x0)]))), (10, (.v (.v false [(.i .i64 x1)]))), (1800000001, (.o (.row 3 true x2)))]) K)) (fun y0 y1 y2 => (K (.exit 0) (tabl [(0, (.v (.v false [(.own 900000000)]))), (2, (.v (.v false [(.i .i64 y0)]))), (10, (.v (.v false [(.i .i64 y1)]))), (1800000001, (.o (.row 3 true y2)))]))) x0 x1 x2 = _
    rw [e0]; rfl
theorem lo227_2 {R : Type} (N : Nat) : LoopOk E227 (it227 N (R := R)) (loopOf Try.f227 2) := by
  have e : firstRid (loopOf Try.f227 2) = 2 := by kernel_rfl
  intro L K r
  rw [e]
  intro h
  unfold it227 at h
  simp only [show Nat.beq 2 2 = true from rfl, cond_false, cond_true] at h
  refine tell_ok (Q := fun L => ∃ n, iter (exc E227 (it227 N) (loopOf Try.f227 2)) (canon (E227.keep 2)) n (tabl L) K = some r) h (fun xs h => ?_) (fun h => ?_)
  · (try dsimp only at h)
    split at h
    · exact ⟨N, ((e227_2 N K N) _ _ _).trans h⟩
    · cases h
  cases h
def sp227 : List Arg → Option (Bool × Res)
  | [(.v false [(.ow 3 true a0)]), (.v false [(.i .i64 k1)])] => some (Pu.laws_markIntS.c a0 k1, ⟨[(.v false [(.i .i64 ((Pu.laws_markIntS.v a0 k1).1))])], [[(.kp ((Pu.laws_markIntS.v a0 k1).2))]]⟩)
  | _ => none
theorem ok227 : FnOk Try.prog T 227 sp227 := by
  refine fn_ok (E := E227) hE call_nil hM Try.func227 (code := (Try.f227.body.getD .skip)) (by kernel_rfl) (by kernel_rfl) ?_
  have key : ∀ (a0 : Row) (k1 : Int), Pu.laws_markIntS.c a0 k1 = true → ∃ it : It Res, (∀ c ∈ loopsOf (Try.f227.body.getD .skip), LoopOk E227 it c) ∧ body E227 it Try.f227 [(.v false [(.ow 3 true a0)]), (.v false [(.i .i64 k1)])] = some ⟨[(.v false [(.i .i64 ((Pu.laws_markIntS.v a0 k1).1))])], [[(.kp ((Pu.laws_markIntS.v a0 k1).2))]]⟩ := by
    intro a0 k1  h1
    obtain ⟨N, hN⟩ := Pu.laws_markIntS.b_eq (R := Res) (fun r0 r1 => some ⟨[(.v false [(.i .i64 r0)])], [[(.kp r1)]]⟩) a0 k1 h1
    have hl : loopsOf (Try.f227.body.getD .skip) = [loopOf Try.f227 2] := by kernel_rfl
    refine ⟨it227 N, by rw [hl]; exact (loops_cons (lo227_2 N) loops_nil), ?_⟩
    refine Eq.trans (show body E227 (it227 N) Try.f227 [(.v false [(.ow 3 true a0)]), (.v false [(.i .i64 k1)])] = Pu.laws_markIntS.b N (fun r0 r1 => some ⟨[(.v false [(.i .i64 r0)])], [[(.kp r1)]]⟩) a0 k1 by kernel_rfl) hN
  intro args r h
  unfold sp227 at h
  split at h
  · injection h with h
    injection h with h1 h2
    subst h2
    exact ⟨by kernel_rfl, fun hf => ⟨of_decide_eq_true (by kernel_rfl), key _ _ h1⟩⟩
  · cases h

end Go.FG.Se

namespace Go.FG.Se
open Go.Proofs
def E196 : Env := { toTab := T, call := Go.FG.callIn [(227, sp227)], mode := Go.FG.modeIn md, keep := Go.FG.keepIn [(2, [0, 1, 5])], tk := fun n => Go.FG.memB n [], om := Go.FG.omIn [] }
def it196 (N : Nat) {R : Type} : It R := fun rid f cn L K => bif Nat.beq rid 2 then (tell [(0, (.v (.v false [(.own 900000000)]))), (2, (.v (.v false [(.i .i64 0)]))), (10, (.v (.v false [(.i .i64 0)]))), (1800000001, (.o (.row 30 true [])))] (fun | [.I x0, .I x1, .R x2] => Pu.laws_markIntSS.l2 N (fun y0 y1 y2 => (K (.exit 0) (tabl [(0, (.v (.v false [(.own 900000000)]))), (2, (.v (.v false [(.i .i64 y0)]))), (10, (.v (.v false [(.i .i64 y1)]))), (1800000001, (.o (.row 30 true y2)))]))) N x0 x1 x2 | _ => none) L (none)) else none
theorem e196_2 {R : Type} (N : Nat) (K : Ex → St → Option R) : ∀ n : Nat, (∀ x0 x1 x2, iter (exc E196 (it196 N) (loopOf Try.f196 2)) (canon (E196.keep 2))  n (tabl [(0, (.v (.v false [(.own 900000000)]))), (2, (.v (.v false [(.i .i64 x0)]))), (10, (.v (.v false [(.i .i64 x1)]))), (1800000001, (.o (.row 30 true x2)))]) K = Pu.laws_markIntSS.l2 N (fun y0 y1 y2 => (K (.exit 0) (tabl [(0, (.v (.v false [(.own 900000000)]))), (2, (.v (.v false [(.i .i64 y0)]))), (10, (.v (.v false [(.i .i64 y1)]))), (1800000001, (.o (.row 30 true y2)))]))) n x0 x1 x2) := by
  intro n
  induction n with
  | zero => exact (fun _ _ _ => rfl)
  | succ n ih =>
    have e0 : (fun x0 x1 x2 => iter (exc E196 (it196 N) (loopOf Try.f196 2)) (canon (E196.keep 2))  n (tabl [(0, (.v (.v false [(.own 900000000)]))), (2, (.v (.v false [(.i .i64 x0)]))), (10, (.v (.v false [(.i .i64 x1)]))), (1800000001, (.o (.row 30 true x2)))]) K) = Pu.laws_markIntSS.l2 N (fun y0 y1 y2 => (K (.exit 0) (tabl [(0, (.v (.v false [(.own 900000000)]))), (2, (.v (.v false [(.i .i64 y0)]))), (10, (.v (.v false [(.i .i64 y1)]))), (1800000001, (.o (.row 30 true y2)))]))) n := by funext x0 x1 x2; exact ih x0 x1 x2
    intro x0 x1 x2
    have h : ∀ g, exc E196 (it196 N) (loopOf Try.f196 2) (tabl [(0, (.v (.v false [(.own 900000000)]))), (2, (.v (.v false [(.i .i64 x0)]))), (10, (.v (.v false [(.i .i64 x1)]))), (1800000001, (.o (.row 30 true x2)))]) (iterK g (canon (E196.keep 2)) K) = Pu.laws_markIntSS.r2 N (fun x0 x1 x2 => (g (tabl [(0, (.v (.v false [(.own 900000000)]))), (2, (.v (.v false [(.i .i64 x0)]))), (10, (.v (.v false [(.i .i64 x1)]))), (1800000001, (.o (.row 30 true x2)))]))) (fun y0 y1 y2 => (K (.exit 0) (tabl [(0, (.v (.v false [(.own 900000000)]))), (2, (.v (.v false [(.i .i64 y0)]))), (10, (.v (.v false [(.i .i64 y1)]))), (1800000001, (.o (.row 30 true y2)))]))) x0 x1 x2 := by intro g; kernel_rfl
    refine (iter_succ _ _ n _ K).trans ((h _).trans ?_)
    show Pu.laws_markIntSS.r2 N (fun x0 x1 x2 => (iter (exc E196 (it196 N) (loopOf Try.f196 2)) (canon (E196.keep 2))  n (tabl [(0, (.v (.v false [(.own 900000000)]))), (2, (.v (.v false [(.i .i64 x0)]))), (10, (.v (.v false [(.i .i64 x1)]))), (1800000001, (.o (.row 30 true x2)))]) K)) (fun y0 y1 y2 => (K (.exit 0) (tabl [(0, (.v (.v false [(.own 900000000)]))), (2, (.v (.v false [(.i .i64 y0)]))), (10, (.v (.v false [(.i .i64 y1)]))), (1800000001, (.o (.row 30 true y2)))]))) x0 x1 x2 = _
    rw [e0]; rfl
theorem lo196_2 {R : Type} (N : Nat) : LoopOk E196 (it196 N (R := R)) (loopOf Try.f196 2) := by
  have e : firstRid (loopOf Try.f196 2) = 2 := by kernel_rfl
  intro L K r
  rw [e]
  intro h
  unfold it196 at h
  simp only [show Nat.beq 2 2 = true from rfl, cond_false, cond_true] at h
  refine tell_ok (Q := fun L => ∃ n, iter (exc E196 (it196 N) (loopOf Try.f196 2)) (canon (E196.keep 2)) n (tabl L) K = some r) h (fun xs h => ?_) (fun h => ?_)
  · (try dsimp only at h)
    split at h
    · exact ⟨N, ((e196_2 N K N) _ _ _).trans h⟩
    · cases h
  cases h
def sp196 : List Arg → Option (Bool × Res)
  | [(.v false [(.ow 30 true a0)]), (.v false [(.i .i64 k1)])] => some (Pu.laws_markIntSS.c a0 k1, ⟨[(.v false [(.i .i64 ((Pu.laws_markIntSS.v a0 k1).1))])], [[(.kp ((Pu.laws_markIntSS.v a0 k1).2))]]⟩)
  | _ => none
theorem ok196 : FnOk Try.prog T 196 sp196 := by
  refine fn_ok (E := E196) hE (call_cons ok227 call_nil) hM Try.func196 (code := (Try.f196.body.getD .skip)) (by kernel_rfl) (by kernel_rfl) ?_
  have key : ∀ (a0 : Row) (k1 : Int), Pu.laws_markIntSS.c a0 k1 = true → ∃ it : It Res, (∀ c ∈ loopsOf (Try.f196.body.getD .skip), LoopOk E196 it c) ∧ body E196 it Try.f196 [(.v false [(.ow 30 true a0)]), (.v false [(.i .i64 k1)])] = some ⟨[(.v false [(.i .i64 ((Pu.laws_markIntSS.v a0 k1).1))])], [[(.kp ((Pu.laws_markIntSS.v a0 k1).2))]]⟩ := by
    intro a0 k1  h1
    obtain ⟨N, hN⟩ := Pu.laws_markIntSS.b_eq (R := Res) (fun r0 r1 => some ⟨[(.v false [(.i .i64 r0)])], [[(.kp r1)]]⟩) a0 k1 h1
    have hl : loopsOf (Try.f196.body.getD .skip) = [loopOf Try.f196 2] := by kernel_rfl
    refine ⟨it196 N, by rw [hl]; exact (loops_cons (lo196_2 N) loops_nil), ?_⟩
    refine Eq.trans (show body E196 (it196 N) Try.f196 [(.v false [(.ow 30 true a0)]), (.v false [(.i .i64 k1)])] = Pu.laws_markIntSS.b N (fun r0 r1 => some ⟨[(.v false [(.i .i64 r0)])], [[(.kp r1)]]⟩) a0 k1 by kernel_rfl) hN
  intro args r h
  unfold sp196 at h
  split at h
  · injection h with h
    injection h with h1 h2
    subst h2
    exact ⟨by kernel_rfl, fun hf => ⟨of_decide_eq_true (by kernel_rfl), key _ _ h1⟩⟩
  · cases h

end Go.FG.Se

namespace Go.FG.Se
open Go.Proofs
def E116 : Env := { toTab := T, call := Go.FG.callIn [(196, sp196)], mode := Go.FG.modeIn md, keep := Go.FG.keepIn [], tk := fun n => Go.FG.memB n [], om := Go.FG.omIn [] }
def sp116 : List Arg → Option (Bool × Res)
  | [(.v true [(.ow 30 true a0_0), (.i .i64 a0_1)]), (.v false [(.i .i64 k1)])] => some (Pu.laws_markSketch.c a0_0 a0_1 k1, ⟨[(.v false [(.i .i64 ((Pu.laws_markSketch.v a0_0 a0_1 k1).1))])], [[(.kp ((Pu.laws_markSketch.v a0_0 a0_1 k1).2)), .nl]]⟩)
  | _ => none
theorem ok116 : FnOk Try.prog T 116 sp116 := by
  refine fn_ok (E := E116) hE (call_cons ok196 call_nil) hM Try.func116 (code := (Try.f116.body.getD .skip)) (by kernel_rfl) (by kernel_rfl) ?_
  have key : ∀ (a0_0 : Row) (a0_1 : Int) (k1 : Int), Pu.laws_markSketch.c a0_0 a0_1 k1 = true → ∃ it : It Res, (∀ c ∈ loopsOf (Try.f116.body.getD .skip), LoopOk E116 it c) ∧ body E116 it Try.f116 [(.v true [(.ow 30 true a0_0), (.i .i64 a0_1)]), (.v false [(.i .i64 k1)])] = some ⟨[(.v false [(.i .i64 ((Pu.laws_markSketch.v a0_0 a0_1 k1).1))])], [[(.kp ((Pu.laws_markSketch.v a0_0 a0_1 k1).2)), .nl]]⟩ := by
    intro a0_0 a0_1 k1  h1
    have hN := Pu.laws_markSketch.b_eq (R := Res) (fun r0 r1 => some ⟨[(.v false [(.i .i64 r0)])], [[(.kp r1), .nl]]⟩) a0_0 a0_1 k1 h1
    have hl : loopsOf (Try.f116.body.getD .skip) = [] := by kernel_rfl
    refine ⟨iterN 0, by rw [hl]; exact loops_nil, ?_⟩
    refine Eq.trans (show body E116 (iterN 0) Try.f116 [(.v true [(.ow 30 true a0_0), (.i .i64 a0_1)]), (.v false [(.i .i64 k1)])] = Pu.laws_markSketch.b (fun r0 r1 => some ⟨[(.v false [(.i .i64 r0)])], [[(.kp r1), .nl]]⟩) a0_0 a0_1 k1 by kernel_rfl) hN
  intro args r h
  unfold sp116 at h
  split at h
  · injection h with h
    injection h with h1 h2
    subst h2
    exact ⟨by kernel_rfl, fun hf => ⟨of_decide_eq_true (by kernel_rfl), key _ _ _ h1⟩⟩
  · cases h

end Go.FG.Se

namespace Go.FG.Se
open Go.Proofs
def E36 : Env := { toTab := T, call := Go.FG.callIn [(115, sp115), (116, sp116)], mode := Go.FG.modeIn md, keep := Go.FG.keepIn [], tk := fun n => Go.FG.memB n [], om := Go.FG.omIn [] }
def sp36 : List Arg → Option (Bool × Res)
  | [(.v true [(.ow 9 true a0_0), (.ow 9 true a0_1), (.ow 30 true a0_2), (.i .i64 a0_3)]), (.v false [(.i .i64 k1)])] => some (Pu.laws_markPolicy.c a0_0 a0_1 a0_2 a0_3 k1, ⟨[(.v false [(.i .i64 ((Pu.laws_markPolicy.v a0_0 a0_1 a0_2 a0_3 k1).1))])], [[(.kp ((Pu.laws_markPolicy.v a0_0 a0_1 a0_2 a0_3 k1).2.1)), (.kp ((Pu.laws_markPolicy.v a0_0 a0_1 a0_2 a0_3 k1).2.2.1)), (.kp ((Pu.laws_markPolicy.v a0_0 a0_1 a0_2 a0_3 k1).2.2.2)), .nl]]⟩)
  | _ => none
theorem ok36 : FnOk Try.prog T 36 sp36 := by
  refine fn_ok (E := E36) hE (call_cons ok115 (call_cons ok116 call_nil)) hM Try.func36 (code := (Try.f36.body.getD .skip)) (by kernel_rfl) (by kernel_rfl) ?_
  have key : ∀ (a0_0 : Row) (a0_1 : Row) (a0_2 : Row) (a0_3 : Int) (k1 : Int), Pu.laws_markPolicy.c a0_0 a0_1 a0_2 a0_3 k1 = true → ∃ it : It Res, (∀ c ∈ loopsOf (Try.f36.body.getD .skip), LoopOk E36 it c) ∧ body E36 it Try.f36 [(.v true [(.ow 9 true a0_0), (.ow 9 true a0_1), (.ow 30 true a0_2), (.i .i64 a0_3)]), (.v false [(.i .i64 k1)])] = some ⟨[(.v false [(.i .i64 ((Pu.laws_markPolicy.v a0_0 a0_1 a0_2 a0_3 k1).1))])], [[(.kp ((Pu.laws_markPolicy.v a0_0 a0_1 a0_2 a0_3 k1).2.1)), (.kp ((Pu.laws_markPolicy.v a0_0 a0_1 a0_2 a0_3 k1).2.2.1)), (.kp ((Pu.laws_markPolicy.v a0_0 a0_1 a0_2 a0_3 k1).2.2.2)), .nl]]⟩ := by
    intro a0_0 a0_1 a0_2 a0_3 k1  h1
    have hN := Pu.laws_markPolicy.b_eq (R := Res) (fun r0 r1 r2 r3 => some ⟨[(.v false [(.i .i64 r0)])], [[(.kp r1), (.kp r2), (.kp r3), .nl]]⟩) a0_0 a0_1 a0_2 a0_3 k1 h1
    have hl : loopsOf (Try.f36.body.getD .skip) = [] := by kernel_rfl
    refine ⟨iterN 0, by rw [hl]; exact loops_nil, ?_⟩
    refine Eq.trans (show body E36 (iterN 0) Try.f36 [(.v true [(.ow 9 true a0_0), (.ow 9 true a0_1), (.ow 30 true a0_2), (.i .i64 a0_3)]), (.v false [(.i .i64 k1)])] = Pu.laws_markPolicy.b (fun r0 r1 r2 r3 => some ⟨[(.v false [(.i .i64 r0)])], [[(.kp r1), (.kp r2), (.kp r3), .nl]]⟩) a0_0 a0_1 a0_2 a0_3 k1 by kernel_rfl) hN
  intro args r h
  unfold sp36 at h
  split at h
  · injection h with h
    injection h with h1 h2
    subst h2
    exact ⟨by kernel_rfl, fun hf => ⟨of_decide_eq_true (by kernel_rfl), key _ _ _ _ _ h1⟩⟩
  · cases h

end Go.FG.Se

namespace Go.FG.Se
open Go.Proofs
def E117 : Env := { toTab := T, call := Go.FG.callIn [(195, sp195)], mode := Go.FG.modeIn md, keep := Go.FG.keepIn [(2, [0, 1, 4, 5])], tk := fun n => Go.FG.memB n [], om := Go.FG.omIn [] }
def it117 (N : Nat) {R : Type} : It R := fun rid f cn L K => bif Nat.beq rid 2 then (tell [(0, (.v (.v false [(.sh 9 [])]))), (2, (.v (.v false [(.i .i64 0)]))), (8, (.v (.v false [(.i .i64 0)]))), (10, (.v (.v false [(.i .i64 0)])))] (fun | [.R x0, .I x1, .I x2, .I x3] => Pu.laws_heldStringS.l2 N (fun y0 y1 y2 y3 => (K .ret (tabl [(0, (.v (.v false [(.sh 9 y0)]))), (2, (.v (.v false [(.i .i64 y1)]))), (8, (.v (.v false [(.i .i64 y2)]))), (10, (.v (.v false [(.i .i64 y3)])))]))) (fun y0 y1 y2 y3 => (K (.exit 0) (tabl [(0, (.v (.v false [(.sh 9 y0)]))), (2, (.v (.v false [(.i .i64 y1)]))), (8, (.v (.v false [(.i .i64 y2)]))), (10, (.v (.v false [(.i .i64 y3)])))]))) N x0 x1 x2 x3 | _ => none) L (none)) else none
theorem e117_2 {R : Type} (N : Nat) (K : Ex → St → Option R) : ∀ n : Nat, (∀ x0 x1 x2 x3, iter (exc E117 (it117 N) (loopOf Try.f117 2)) (canon (E117.keep 2))  n (tabl [(0, (.v (.v false [(.sh 9 x0)]))), (2, (.v (.v false [(.i .i64 x1)]))), (8, (.v (.v false [(.i .i64 x2)]))), (10, (.v (.v false [(.i .i64 x3)])))]) K = Pu.laws_heldStringS.l2 N (fun y0 y1 y2 y3 => (K .ret (tabl [(0, (.v (.v false [(.sh 9 y0)]))), (2, (.v (.v false [(.i .i64 y1)]))), (8, (.v (.v false [(.i .i64 y2)]))), (10, (.v (.v false [(.i .i64 y3)])))]))) (fun y0 y1 y2 y3 => (K (.exit 0) (tabl [(0, (.v (.v false [(.sh 9 y0)]))), (2, (.v (.v false [(.i .i64 y1)]))), (8, (.v (.v false [(.i .i64 y2)]))), (10, (.v (.v false [(.i .i64 y3)])))]))) n x0 x1 x2 x3) := by
  intro n
  induction n with
  | zero => exact (fun _ _ _ _ => rfl)
  | succ n ih =>
    have e0 : (fun x0 x1 x2 x3 => iter (exc E117 (it117 N) (loopOf Try.f117 2)) (canon (E117.keep 2))  n (tabl [(0, (.v (.v false [(.sh 9 x0)]))), (2, (.v (.v false [(.i .i64 x1)]))), (8, (.v (.v false [(.i .i64 x2)]))), (10, (.v (.v false [(.i .i64 x3)])))]) K) = Pu.laws_heldStringS.l2 N (fun y0 y1 y2 y3 => (K .ret (tabl [(0, (.v (.v false [(.sh 9 y0)]))), (2, (.v (.v false [(.i .i64 y1)]))), (8, (.v (.v false [(.i .i64 y2)]))), (10, (.v (.v false [(.i .i64 y3)])))]))) (fun y0 y1 y2 y3 => (K (.exit 0) (tabl [(0, (.v (.v false [(.sh 9 y0)]))), (2, (.v (.v false [(.i .i64 y1)]))), (8, (.v (.v false [(.i .i64 y2)]))), (10, (.v (.v false [(.i .i64 y3)])))]))) n := by funext x0 x1 x2 x3; exact ih x0 x1 x2 x3
    intro x0 x1 x2 x3
    have h : ∀ g, exc E117 (it117 N) (loopOf Try.f117 2) (tabl [(0, (.v (.v false [(.sh 9 x0)]))), (2, (.v (.v false [(.i .i64 x1)]))), (8, (.v (.v false [(.i .i64 x2)]))), (10, (.v (.v false [(.i .i64 x3)])))]) (iterK g (canon (E117.keep 2)) K) = Pu.laws_heldStringS.r2 N (fun x0 x1 x2 x3 => (g (tabl [(0, (.v (.v false [(.sh 9 x0)]))), (2, (.v (.v false [(.i .i64 x1)]))), (8, (.v (.v false [(.i .i64 x2)]))), (10, (.v (.v false [(.i .i64 x3)])))]))) (fun y0 y1 y2 y3 => (K .ret (tabl [(0, (.v (.v false [(.sh 9 y0)]))), (2, (.v (.v false [(.i .i64 y1)]))), (8, (.v (.v false [(.i .i64 y2)]))), (10, (.v (.v false [(.i .i64 y3)])))]))) (fun y0 y1 y2 y3 => (K (.exit 0) (tabl [(0, (.v (.v false [(.sh 9 y0)]))), (2, (.v (.v false [(.i .i64 y1)]))), (8, (.v (.v false [(.i .i64 y2)]))), (10, (.v (.v false [(.i .i64 y3)])))]))) x0 x1 x2 x3 := by intro g; kernel_rfl
    refine (iter_succ _ _ n _ K).trans ((h _).trans ?_)
    show Pu.laws_heldStringS.r2 N (fun x0 x1 x2 x3 => (iter (exc E117 (it117 N) (loopOf Try.f117 2)) (canon (E117.keep 2))  n (tabl [(0, (.v (.v false [(.sh 9 x0)]))), (2, (.v (.v false [(.i .i64 x1)]))), (8, (.v (.v false [(.i .i64 x2)]))), (10, (.v (.v false [(.i .i64 x3)])))]) K)) (fun y0 y1 y2 y3 => (K .ret (tabl [(0, (.v (.v false [(.sh 9 y0)]))), (2, (.v (.v false [(.i .i64 y1)]))), (8, (.v (.v false [(.i .i64 y2)]))), (10, (.v (.v false [(.i .i64 y3)])))]))) (fun y0 y1 y2 y3 => (K (.exit 0) (tabl [(0, (.v (.v false [(.sh 9 y0)]))), (2, (.v (.v false [(.i .i64 y1)]))), (8, (.v (.v false [(.i .i64 y2)]))), (10, (.v (.v false [(.i .i64 y3)])))]))) x0 x1 x2 x3 = _
    rw [e0]; rfl
theorem lo117_2 {R : Type} (N : Nat) : LoopOk E117 (it117 N (R := R)) (loopOf Try.f117 2) := by
  have e : firstRid (loopOf Try.f117 2) = 2 := by kernel_rfl
  intro L K r
  rw [e]
  intro h
  unfold it117 at h
  simp only [show Nat.beq 2 2 = true from rfl, cond_false, cond_true] at h
  refine tell_ok (Q := fun L => ∃ n, iter (exc E117 (it117 N) (loopOf Try.f117 2)) (canon (E117.keep 2)) n (tabl L) K = some r) h (fun xs h => ?_) (fun h => ?_)
  · (try dsimp only at h)
    split at h
    · exact ⟨N, ((e117_2 N K N) _ _ _ _).trans h⟩
    · cases h
  cases h
def sp117 : List Arg → Option (Bool × Res)
  | [(.v false [(.sh 9 a0)]), (.v false [(.i .i64 k1)])] => some (Pu.laws_heldStringS.c a0 k1, ⟨[(.v false [(.i .i64 (Pu.laws_heldStringS.v a0 k1))])], []⟩)
  | _ => none
theorem ok117 : FnOk Try.prog T 117 sp117 := by
  refine fn_ok (E := E117) hE (call_cons ok195 call_nil) hM Try.func117 (code := (Try.f117.body.getD .skip)) (by kernel_rfl) (by kernel_rfl) ?_
  have key : ∀ (a0 : Row) (k1 : Int), Pu.laws_heldStringS.c a0 k1 = true → ∃ it : It Res, (∀ c ∈ loopsOf (Try.f117.body.getD .skip), LoopOk E117 it c) ∧ body E117 it Try.f117 [(.v false [(.sh 9 a0)]), (.v false [(.i .i64 k1)])] = some ⟨[(.v false [(.i .i64 (Pu.laws_heldStringS.v a0 k1))])], []⟩ := by
    intro a0 k1  h1
    obtain ⟨N, hN⟩ := Pu.laws_heldStringS.b_eq (R := Res) (fun r0 => some ⟨[(.v false [(.i .i64 r0)])], []⟩) a0 k1 h1
    have hl : loopsOf (Try.f117.body.getD .skip) = [loopOf Try.f117 2] := by kernel_rfl
    refine ⟨it117 N, by rw [hl]; exact (loops_cons (lo117_2 N) loops_nil), ?_⟩
    refine Eq.trans (show body E117 (it117 N) Try.f117 [(.v false [(.sh 9 a0)]), (.v false [(.i .i64 k1)])] = Pu.laws_heldStringS.b N (fun r0 => some ⟨[(.v false [(.i .i64 r0)])], []⟩) a0 k1 by kernel_rfl) hN
  intro args r h
  unfold sp117 at h
  split at h
  · injection h with h
    injection h with h1 h2
    subst h2
    exact ⟨by kernel_rfl, fun hf => ⟨of_decide_eq_true (by kernel_rfl), key _ _ h1⟩⟩
  · cases h

end Go.FG.Se

namespace Go.FG.Se
open Go.Proofs
def E228 : Env := { toTab := T, call := Go.FG.callIn [], mode := Go.FG.modeIn md, keep := Go.FG.keepIn [(2, [0, 1, 4, 5])], tk := fun n => Go.FG.memB n [], om := Go.FG.omIn [] }
def it228 (N : Nat) {R : Type} : It R := fun rid f cn L K => bif Nat.beq rid 2 then (tell [(0, (.v (.v false [(.sh 3 [])]))), (2, (.v (.v false [(.i .i64 0)]))), (8, (.v (.v false [(.i .i64 0)]))), (10, (.v (.v false [(.i .i64 0)])))] (fun | [.R x0, .I x1, .I x2, .I x3] => Pu.laws_heldIntS.l2 N (fun y0 y1 y2 y3 => (K .ret (tabl [(0, (.v (.v false [(.sh 3 y0)]))), (2, (.v (.v false [(.i .i64 y1)]))), (8, (.v (.v false [(.i .i64 y2)]))), (10, (.v (.v false [(.i .i64 y3)])))]))) (fun y0 y1 y2 y3 => (K (.exit 0) (tabl [(0, (.v (.v false [(.sh 3 y0)]))), (2, (.v (.v false [(.i .i64 y1)]))), (8, (.v (.v false [(.i .i64 y2)]))), (10, (.v (.v false [(.i .i64 y3)])))]))) N x0 x1 x2 x3 | _ => none) L (none)) else none
theorem e228_2 {R : Type} (N : Nat) (K : Ex → St → Option R) : ∀ n : Nat, (∀ x0 x1 x2 x3, iter (exc E228 (it228 N) (loopOf Try.f228 2)) (canon (E228.keep 2))  n (tabl [(0, (.v (.v false [(.sh 3 x0)]))), (2, (.v (.v false [(.i .i64 x1)]))), (8, (.v (.v false [(.i .i64 x2)]))), (10, (.v (.v false [(.i .i64 x3)])))]) K = Pu.laws_heldIntS.l2 N (fun y0 y1 y2 y3 => (K .ret (tabl [(0, (.v (.v false [(.sh 3 y0)]))), (2, (.v (.v false [(.i .i64 y1)]))), (8, (.v (.v false [(.i .i64 y2)]))), (10, (.v (.v false [(.i .i64 y3)])))]))) (fun y0 y1 y2 y3 => (K (.exit 0) (tabl [(0, (.v (.v false [(.sh 3 y0)]))), (2, (.v (.v false [(.i .i64 y1)]))), (8, (.v (.v false [(.i .i64 y2)]))), (10, (.v (.v false [(.i .i64 y3)])))]))) n x0 x1 x2 x3) := by
  intro n
  induction n with
  | zero => exact (fun _ _ _ _ => rfl)
  | succ n ih =>
    have e0 : (fun x0 x1 x2 x3 => iter (exc E228 (it228 N) (loopOf Try.f228 2)) (canon (E228.keep 2))  n (tabl [(0, (.v (.v false [(.sh 3 x0)]))), (2, (.v (.v false [(.i .i64 x1)]))), (8, (.v (.v false [(.i .i64 x2)]))), (10, (.v (.v false [(.i .i64 x3)])))]) K) = Pu.laws_heldIntS.l2 N (fun y0 y1 y2 y3 => (K .ret (tabl [(0, (.v (.v false [(.sh 3 y0)]))), (2, (.v (.v false [(.i .i64 y1)]))), (8, (.v (.v false [(.i .i64 y2)]))), (10, (.v (.v false [(.i .i64 y3)])))]))) (fun y0 y1 y2 y3 => (K (.exit 0) (tabl [(0, (.v (.v false [(.sh 3 y0)]))), (2, (.v (.v false [(.i .i64 y1)]))), (8, (.v (.v false [(.i .i64 y2)]))), (10, (.v (.v false [(.i .i64 y3)])))]))) n := by funext x0 x1 x2 x3; exact ih x0 x1 x2 x3
    intro x0 x1 x2 x3
    have h : ∀ g, exc E228 (it228 N) (loopOf Try.f228 2) (tabl [(0, (.v (.v false [(.sh 3 x0)]))), (2, (.v (.v false [(.i .i64 x1)]))), (8, (.v (.v false [(.i .i64 x2)]))), (10, (.v (.v false [(.i .i64 x3)])))]) (iterK g (canon (E228.keep 2)) K) = Pu.laws_heldIntS.r2 N (fun x0 x1 x2 x3 => (g (tabl [(0, (.v (.v false [(.sh 3 x0)]))), (2, (.v (.v false [(.i .i64 x1)]))), (8, (.v (.v false [(.i .i64 x2)]))), (10, (.v (.v false [(.i .i64 x3)])))]))) (fun y0 y1 y2 y3 => (K .ret (tabl [(0, (.v (.v false [(.sh 3 y0)]))), (2, (.v (.v false [(.i .i64 y1)]))), (8, (.v (.v false [(.i .i64 y2)]))), (10, (.v (.v false [(.i .i64 y3)])))]))) (fun y0 y1 y2 y3 => (K (.exit 0) (tabl [(0, (.v (.v false [(.sh 3 y0)]))), (2, (.v (.v false [(.i .i64 y1)]))), (8, (.v (.v false [(.i .i64 y2)]))), (10, (.v (.v false [(.i .i64 y3)])))]))) x0 x1 x2 x3 := by intro g; kernel_rfl
    refine (iter_succ _ _ n _ K).trans ((h _).trans ?_)
    show Pu.laws_heldIntS.r2 N (fun x0 x1 x2 x3 => (iter (exc E228 (it228 N) (loopOf Try.f228 2)) (canon (E228.keep 2))  n (tabl [(0, (.v (.v false [(.sh 3 x0)]))), (2, (.v (.v false [(.i .i64 x1)]))), (8, (.v (.v false [(.i .i64 x2)]))), (10, (.v (.v false [(.i .i64 x3)])))]) K)) (fun y0 y1 y2 y3 => (K .ret (tabl [(0, (.v (.v false [(.sh 3 y0)]))), (2, (.v (.v false [(.i .i64 y1)]))), (8, (.v (.v false [(.i .i64 y2)]))), (10, (.v (.v false [(.i .i64 y3)])))]))) (fun y0 y1 y2 y3 => (K (.exit 0) (tabl [(0, (.v (.v false [(.sh 3 y0)]))), (2, (.v (.v false [(.i .i64 y1)]))), (8, (.v (.v false [(.i .i64 y2)]))), (10, (.v (.v false [(.i .i64 y3)])))]))) x0 x1 x2 x3 = _
    rw [e0]; rfl
theorem lo228_2 {R : Type} (N : Nat) : LoopOk E228 (it228 N (R := R)) (loopOf Try.f228 2) := by
  have e : firstRid (loopOf Try.f228 2) = 2 := by kernel_rfl
  intro L K r
  rw [e]
  intro h
  unfold it228 at h
  simp only [show Nat.beq 2 2 = true from rfl, cond_false, cond_true] at h
  refine tell_ok (Q := fun L => ∃ n, iter (exc E228 (it228 N) (loopOf Try.f228 2)) (canon (E228.keep 2)) n (tabl L) K = some r) h (fun xs h => ?_) (fun h => ?_)
  · (try dsimp only at h)
    split at h
    · exact ⟨N, ((e228_2 N K N) _ _ _ _).trans h⟩
    · cases h
  cases h
def sp228 : List Arg → Option (Bool × Res)
  | [(.v false [(.sh 3 a0)]), (.v false [(.i .i64 k1)])] => some (Pu.laws_heldIntS.c a0 k1, ⟨[(.v false [(.i .i64 (Pu.laws_heldIntS.v a0 k1))])], []⟩)
  | _ => none
theorem ok228 : FnOk Try.prog T 228 sp228 := by
  refine fn_ok (E := E228) hE call_nil hM Try.func228 (code := (Try.f228.body.getD .skip)) (by kernel_rfl) (by kernel_rfl) ?_
  have key : ∀ (a0 : Row) (k1 : Int), Pu.laws_heldIntS.c a0 k1 = true → ∃ it : It Res, (∀ c ∈ loopsOf (Try.f228.body.getD .skip), LoopOk E228 it c) ∧ body E228 it Try.f228 [(.v false [(.sh 3 a0)]), (.v false [(.i .i64 k1)])] = some ⟨[(.v false [(.i .i64 (Pu.laws_heldIntS.v a0 k1))])], []⟩ := by
    intro a0 k1  h1
    obtain ⟨N, hN⟩ := Pu.laws_heldIntS.b_eq (R := Res) (fun r0 => some ⟨[(.v false [(.i .i64 r0)])], []⟩) a0 k1 h1
    have hl : loopsOf (Try.f228.body.getD .skip) = [loopOf Try.f228 2] := by kernel_rfl
    refine ⟨it228 N, by rw [hl]; exact (loops_cons (lo228_2 N) loops_nil), ?_⟩
    refine Eq.trans (show body E228 (it228 N) Try.f228 [(.v false [(.sh 3 a0)]), (.v false [(.i .i64 k1)])] = Pu.laws_heldIntS.b N (fun r0 => some ⟨[(.v false [(.i .i64 r0)])], []⟩) a0 k1 by kernel_rfl) hN
  intro args r h
  unfold sp228 at h
  split at h
  · injection h with h
    injection h with h1 h2
    subst h2
    exact ⟨by kernel_rfl, fun hf => ⟨of_decide_eq_true (by kernel_rfl), key _ _ h1⟩⟩
  · cases h

end Go.FG.Se

namespace Go.FG.Se
open Go.Proofs
def E197 : Env := { toTab := T, call := Go.FG.callIn [(228, sp228)], mode := Go.FG.modeIn md, keep := Go.FG.keepIn [(2, [0, 1, 4, 5])], tk := fun n => Go.FG.memB n [], om := Go.FG.omIn [] }
def it197 (N : Nat) {R : Type} : It R := fun rid f cn L K => bif Nat.beq rid 2 then (tell [(0, (.v (.v false [(.sh 30 [])]))), (2, (.v (.v false [(.i .i64 0)]))), (8, (.v (.v false [(.i .i64 0)]))), (10, (.v (.v false [(.i .i64 0)])))] (fun | [.R x0, .I x1, .I x2, .I x3] => Pu.laws_heldIntSS.l2 N (fun y0 y1 y2 y3 => (K .ret (tabl [(0, (.v (.v false [(.sh 30 y0)]))), (2, (.v (.v false [(.i .i64 y1)]))), (8, (.v (.v false [(.i .i64 y2)]))), (10, (.v (.v false [(.i .i64 y3)])))]))) (fun y0 y1 y2 y3 => (K (.exit 0) (tabl [(0, (.v (.v false [(.sh 30 y0)]))), (2, (.v (.v false [(.i .i64 y1)]))), (8, (.v (.v false [(.i .i64 y2)]))), (10, (.v (.v false [(.i .i64 y3)])))]))) N x0 x1 x2 x3 | _ => none) L (none)) else none
theorem e197_2 {R : Type} (N : Nat) (K : Ex → St → Option R) : ∀ n : Nat, (∀ x0 x1 x2 x3, iter (exc E197 (it197 N) (loopOf Try.f197 2)) (canon (E197.keep 2))  n (tabl [(0, (.v (.v false [(.sh 30 x0)]))), (2, (.v (.v false [(.i .i64 x1)]))), (8, (.v (.v false [(.i .i64 x2)]))), (10, (.v (.v false [(.i .i64 x3)])))]) K = Pu.laws_heldIntSS.l2 N (fun y0 y1 y2 y3 => (K .ret (tabl [(0, (.v (.v false [(.sh 30 y0)]))), (2, (.v (.v false [(.i .i64 y1)]))), (8, (.v (.v false [(.i .i64 y2)]))), (10, (.v (.v false [(.i .i64 y3)])))]))) (fun y0 y1 y2 y3 => (K (.exit 0) (tabl [(0, (.v (.v false [(.sh 30 y0)]))), (2, (.v (.v false [(.i .i64 y1)]))), (8, (.v (.v false [(.i .i64 y2)]))), (10, (.v (.v false [(.i .i64 y3)])))]))) n x0 x1 x2 x3) := by
  intro n
  induction n with
  | zero => exact (fun _ _ _ _ => rfl)
  | succ n ih =>
    have e0 : (fun x0 x1 x2 x3 => iter (exc E197 (it197 N) (loopOf Try.f197 2)) (canon (E197.keep 2))  n (tabl [(0, (.v (.v false [(.sh 30 x0)]))), (2, (.v (.v false [(.i .i64 x1)]))), (8, (.v (.v false [(.i .i64 x2)]))), (10, (.v (.v false [(.i .i64 x3)])))]) K) = Pu.laws_heldIntSS.l2 N (fun y0 y1 y2 y3 => (K .ret (tabl [(0, (.v (.v false [(.sh 30 y0)]))), (2, (.v (.v false [(.i .i64 y1)]))), (8, (.v (.v false [(.i .i64 y2)]))), (10, (.v (.v false [(.i .i64 y3)])))]))) (fun y0 y1 y2 y3 => (K (.exit 0) (tabl [(0, (.v (.v false [(.sh 30 y0)]))), (2, (.v (.v false [(.i .i64 y1)]))), (8, (.v (.v false [(.i .i64 y2)]))), (10, (.v (.v false [(.i .i64 y3)])))]))) n := by funext x0 x1 x2 x3; exact ih x0 x1 x2 x3
    intro x0 x1 x2 x3
    have h : ∀ g, exc E197 (it197 N) (loopOf Try.f197 2) (tabl [(0, (.v (.v false [(.sh 30 x0)]))), (2, (.v (.v false [(.i .i64 x1)]))), (8, (.v (.v false [(.i .i64 x2)]))), (10, (.v (.v false [(.i .i64 x3)])))]) (iterK g (canon (E197.keep 2)) K) = Pu.laws_heldIntSS.r2 N (fun x0 x1 x2 x3 => (g (tabl [(0, (.v (.v false [(.sh 30 x0)]))), (2, (.v (.v false [(.i .i64 x1)]))), (8, (.v (.v false [(.i .i64 x2)]))), (10, (.v (.v false [(.i .i64 x3)])))]))) (fun y0 y1 y2 y3 => (K .ret (tabl [(0, (.v (.v false [(.sh 30 y0)]))), (2, (.v (.v false [(.i .i64 y1)]))), (8, (.v (.v false [(.i .i64 y2)]))), (10, (.v (.v false [(.i .i64 y3)])))]))) (fun y0 y1 y2 y3 => (K (.exit 0) (tabl [(0, (.v (.v false [(.sh 30 y0)]))), (2, (.v (.v false [(.i .i64 y1)]))), (8, (.v (.v false [(.i .i64 y2)]))), (10, (.v (.v false [(.i .i64 y3)])))]))) x0 x1 x2 x3 := by intro g; kernel_rfl
    refine (iter_succ _ _ n _ K).trans ((h _).trans ?_)
    show Pu.laws_heldIntSS.r2 N (fun x0 x1 x2 x3 => (iter (exc E197 (it197 N) (loopOf Try.f197 2)) (canon (E197.keep 2))  n (tabl [(0, (.v (.v false [(.sh 30 x0)]))), (2, (.v (.v false [(.i .i64 x1)]))), (8, (.v (.v false [(.i .i64 x2)]))), (10, (.v (.v false [(.i .i64 x3)])))]) K)) (fun y0 y1 y2 y3 => (K .ret (tabl [(0, (.v (.v false [(.sh 30 y0)]))), (2, (.v (.v false [(.i .i64 y1)]))), (8, (.v (.v false [(.i .i64 y2)]))), (10, (.v (.v false [(.i .i64 y3)])))]))) (fun y0 y1 y2 y3 => (K (.exit 0) (tabl [(0, (.v (.v false [(.sh 30 y0)]))), (2, (.v (.v false [(.i .i64 y1)]))), (8, (.v (.v false [(.i .i64 y2)]))), (10, (.v (.v false [(.i .i64 y3)])))]))) x0 x1 x2 x3 = _
    rw [e0]; rfl
theorem lo197_2 {R : Type} (N : Nat) : LoopOk E197 (it197 N (R := R)) (loopOf Try.f197 2) := by
  have e : firstRid (loopOf Try.f197 2) = 2 := by kernel_rfl
  intro L K r
  rw [e]
  intro h
  unfold it197 at h
  simp only [show Nat.beq 2 2 = true from rfl, cond_false, cond_true] at h
  refine tell_ok (Q := fun L => ∃ n, iter (exc E197 (it197 N) (loopOf Try.f197 2)) (canon (E197.keep 2)) n (tabl L) K = some r) h (fun xs h => ?_) (fun h => ?_)
  · (try dsimp only at h)
    split at h
    · exact ⟨N, ((e197_2 N K N) _ _ _ _).trans h⟩
    · cases h
  cases h
def sp197 : List Arg → Option (Bool × Res)
  | [(.v false [(.sh 30 a0)]), (.v false [(.i .i64 k1)])] => some (Pu.laws_heldIntSS.c a0 k1, ⟨[(.v false [(.i .i64 (Pu.laws_heldIntSS.v a0 k1))])], []⟩)
  | _ => none
theorem ok197 : FnOk Try.prog T 197 sp197 := by
  refine fn_ok (E := E197) hE (call_cons ok228 call_nil) hM Try.func197 (code := (Try.f197.body.getD .skip)) (by kernel_rfl) (by kernel_rfl) ?_
  have key : ∀ (a0 : Row) (k1 : Int), Pu.laws_heldIntSS.c a0 k1 = true → ∃ it : It Res, (∀ c ∈ loopsOf (Try.f197.body.getD .skip), LoopOk E197 it c) ∧ body E197 it Try.f197 [(.v false [(.sh 30 a0)]), (.v false [(.i .i64 k1)])] = some ⟨[(.v false [(.i .i64 (Pu.laws_heldIntSS.v a0 k1))])], []⟩ := by
    intro a0 k1  h1
    obtain ⟨N, hN⟩ := Pu.laws_heldIntSS.b_eq (R := Res) (fun r0 => some ⟨[(.v false [(.i .i64 r0)])], []⟩) a0 k1 h1
    have hl : loopsOf (Try.f197.body.getD .skip) = [loopOf Try.f197 2] := by kernel_rfl
    refine ⟨it197 N, by rw [hl]; exact (loops_cons (lo197_2 N) loops_nil), ?_⟩
    refine Eq.trans (show body E197 (it197 N) Try.f197 [(.v false [(.sh 30 a0)]), (.v false [(.i .i64 k1)])] = Pu.laws_heldIntSS.b N (fun r0 => some ⟨[(.v false [(.i .i64 r0)])], []⟩) a0 k1 by kernel_rfl) hN
  intro args r h
  unfold sp197 at h
  split at h
  · injection h with h
    injection h with h1 h2
    subst h2
    exact ⟨by kernel_rfl, fun hf => ⟨of_decide_eq_true (by kernel_rfl), key _ _ h1⟩⟩
  · cases h

end Go.FG.Se

namespace Go.FG.Se
open Go.Proofs
def E118 : Env := { toTab := T, call := Go.FG.callIn [(197, sp197)], mode := Go.FG.modeIn md, keep := Go.FG.keepIn [], tk := fun n => Go.FG.memB n [], om := Go.FG.omIn [] }
def sp118 : List Arg → Option (Bool × Res)
  | [(.v true [(.sh 30 a0_0), (.i .i64 a0_1)]), (.v false [(.i .i64 k1)])] => some (Pu.laws_heldSketch.c a0_0 a0_1 k1, ⟨[(.v false [(.i .i64 (Pu.laws_heldSketch.v a0_0 a0_1 k1))])], []⟩)
  | _ => none
theorem ok118 : FnOk Try.prog T 118 sp118 := by
  refine fn_ok (E := E118) hE (call_cons ok197 call_nil) hM Try.func118 (code := (Try.f118.body.getD .skip)) (by kernel_rfl) (by kernel_rfl) ?_
  have key : ∀ (a0_0 : Row) (a0_1 : Int) (k1 : Int), Pu.laws_heldSketch.c a0_0 a0_1 k1 = true → ∃ it : It Res, (∀ c ∈ loopsOf (Try.f118.body.getD .skip), LoopOk E118 it c) ∧ body E118 it Try.f118 [(.v true [(.sh 30 a0_0), (.i .i64 a0_1)]), (.v false [(.i .i64 k1)])] = some ⟨[(.v false [(.i .i64 (Pu.laws_heldSketch.v a0_0 a0_1 k1))])], []⟩ := by
    intro a0_0 a0_1 k1  h1
    have hN := Pu.laws_heldSketch.b_eq (R := Res) (fun r0 => some ⟨[(.v false [(.i .i64 r0)])], []⟩) a0_0 a0_1 k1 h1
    have hl : loopsOf (Try.f118.body.getD .skip) = [] := by kernel_rfl
    refine ⟨iterN 0, by rw [hl]; exact loops_nil, ?_⟩
    refine Eq.trans (show body E118 (iterN 0) Try.f118 [(.v true [(.sh 30 a0_0), (.i .i64 a0_1)]), (.v false [(.i .i64 k1)])] = Pu.laws_heldSketch.b (fun r0 => some ⟨[(.v false [(.i .i64 r0)])], []⟩) a0_0 a0_1 k1 by kernel_rfl) hN
  intro args r h
  unfold sp118 at h
  split at h
  · injection h with h
    injection h with h1 h2
    subst h2
    exact ⟨by kernel_rfl, fun hf => ⟨of_decide_eq_true (by kernel_rfl), key _ _ _ h1⟩⟩
  · cases h

end Go.FG.Se

namespace Go.FG.Se
open Go.Proofs
def E37 : Env := { toTab := T, call := Go.FG.callIn [(117, sp117), (118, sp118)], mode := Go.FG.modeIn md, keep := Go.FG.keepIn [], tk := fun n => Go.FG.memB n [], om := Go.FG.omIn [] }
def sp37 : List Arg → Option (Bool × Res)
  | [(.v true [(.sh 9 a0_0), (.sh 9 a0_1), (.sh 30 a0_2), (.i .i64 a0_3)]), (.v false [(.i .i64 k1)])] => some (Pu.laws_heldPolicy.c a0_0 a0_1 a0_2 a0_3 k1, ⟨[(.v false [(.i .i64 (Pu.laws_heldPolicy.v a0_0 a0_1 a0_2 a0_3 k1))])], []⟩)
  | _ => none
theorem ok37 : FnOk Try.prog T 37 sp37 := by
  refine fn_ok (E := E37) hE (call_cons ok117 (call_cons ok118 call_nil)) hM Try.func37 (code := (Try.f37.body.getD .skip)) (by kernel_rfl) (by kernel_rfl) ?_
  have key : ∀ (a0_0 : Row) (a0_1 : Row) (a0_2 : Row) (a0_3 : Int) (k1 : Int), Pu.laws_heldPolicy.c a0_0 a0_1 a0_2 a0_3 k1 = true → ∃ it : It Res, (∀ c ∈ loopsOf (Try.f37.body.getD .skip), LoopOk E37 it c) ∧ body E37 it Try.f37 [(.v true [(.sh 9 a0_0), (.sh 9 a0_1), (.sh 30 a0_2), (.i .i64 a0_3)]), (.v false [(.i .i64 k1)])] = some ⟨[(.v false [(.i .i64 (Pu.laws_heldPolicy.v a0_0 a0_1 a0_2 a0_3 k1))])], []⟩ := by
    intro a0_0 a0_1 a0_2 a0_3 k1  h1
    have hN := Pu.laws_heldPolicy.b_eq (R := Res) (fun r0 => some ⟨[(.v false [(.i .i64 r0)])], []⟩) a0_0 a0_1 a0_2 a0_3 k1 h1
    have hl : loopsOf (Try.f37.body.getD .skip) = [] := by kernel_rfl
    refine ⟨iterN 0, by rw [hl]; exact loops_nil, ?_⟩
    refine Eq.trans (show body E37 (iterN 0) Try.f37 [(.v true [(.sh 9 a0_0), (.sh 9 a0_1), (.sh 30 a0_2), (.i .i64 a0_3)]), (.v false [(.i .i64 k1)])] = Pu.laws_heldPolicy.b (fun r0 => some ⟨[(.v false [(.i .i64 r0)])], []⟩) a0_0 a0_1 a0_2 a0_3 k1 by kernel_rfl) hN
  intro args r h
  unfold sp37 at h
  split at h
  · injection h with h
    injection h with h1 h2
    subst h2
    exact ⟨by kernel_rfl, fun hf => ⟨of_decide_eq_true (by kernel_rfl), key _ _ _ _ _ h1⟩⟩
  · cases h

end Go.FG.Se

namespace Go.FG.Se
open Go.Proofs
def E5 : Env := { toTab := T, call := Go.FG.callIn [(31, sp31), (33, sp33), (32, sp32), (34, sp34), (35, sp35), (36, sp36), (37, sp37)], mode := Go.FG.modeIn md, keep := Go.FG.keepIn [], tk := fun n => Go.FG.memB n [], om := Go.FG.omIn [] }
def sp5 : List Arg → Option (Bool × Res)
  | [(.v true [(.sh 9 aP0_0), (.sh 9 aP0_1), (.sh 30 aP0_2), (.i .i64 aP0_3)]), (.v false [(.s aKey1)])] => some (Pu.laws_FnExactPolicyTouch.c aP0_0 aP0_1 aP0_2 aP0_3 aKey1, ⟨[(.v false [(.b (Pu.laws_FnExactPolicyTouch.v aP0_0 aP0_1 aP0_2 aP0_3 aKey1))])], []⟩)
  | _ => none
theorem ok5 : FnOk Try.prog T 5 sp5 := by
  refine fn_ok (E := E5) hE (call_cons ok31 (call_cons ok33 (call_cons ok32 (call_cons ok34 (call_cons ok35 (call_cons ok36 (call_cons ok37 call_nil))))))) hM Try.func5 (code := (Try.f5.body.getD .skip)) (by kernel_rfl) (by kernel_rfl) ?_
  have key : ∀ (aP0_0 : Row) (aP0_1 : Row) (aP0_2 : Row) (aP0_3 : Int) (aKey1 : ByteArray), Pu.laws_FnExactPolicyTouch.c aP0_0 aP0_1 aP0_2 aP0_3 aKey1 = true → ∃ it : It Res, (∀ c ∈ loopsOf (Try.f5.body.getD .skip), LoopOk E5 it c) ∧ body E5 it Try.f5 [(.v true [(.sh 9 aP0_0), (.sh 9 aP0_1), (.sh 30 aP0_2), (.i .i64 aP0_3)]), (.v false [(.s aKey1)])] = some ⟨[(.v false [(.b (Pu.laws_FnExactPolicyTouch.v aP0_0 aP0_1 aP0_2 aP0_3 aKey1))])], []⟩ := by
    intro aP0_0 aP0_1 aP0_2 aP0_3 aKey1  h1
    have hN := Pu.laws_FnExactPolicyTouch.b_eq (R := Res) (fun r0 => some ⟨[(.v false [(.b r0)])], []⟩) aP0_0 aP0_1 aP0_2 aP0_3 aKey1 h1
    have hl : loopsOf (Try.f5.body.getD .skip) = [] := by kernel_rfl
    refine ⟨iterN 0, by rw [hl]; exact loops_nil, ?_⟩
    refine Eq.trans (show body E5 (iterN 0) Try.f5 [(.v true [(.sh 9 aP0_0), (.sh 9 aP0_1), (.sh 30 aP0_2), (.i .i64 aP0_3)]), (.v false [(.s aKey1)])] = Pu.laws_FnExactPolicyTouch.b (fun r0 => some ⟨[(.v false [(.b r0)])], []⟩) aP0_0 aP0_1 aP0_2 aP0_3 aKey1 by kernel_rfl) hN
  intro args r h
  unfold sp5 at h
  split at h
  · injection h with h
    injection h with h1 h2
    subst h2
    exact ⟨by kernel_rfl, fun hf => ⟨of_decide_eq_true (by kernel_rfl), key _ _ _ _ _ h1⟩⟩
  · cases h

end Go.FG.Se

