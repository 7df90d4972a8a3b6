/- Functions of the program: the evaluation of each, and that a call of it does what is told. No condition. -/
import Derived.Test.YticmocblmmahkaaTab
import Derived.Test.YticmocblmmahkaaPExactProxyNew
set_option linter.unusedVariables false
set_option linter.unusedSimpArgs false
set_option maxRecDepth 100000
namespace Go.FG.Se
open Go.Proofs
def E179 : Env := { toTab := T, call := Go.FG.callIn [], mode := Go.FG.modeIn md, keep := Go.FG.keepIn [(3, [0, 1, 2])], tk := fun n => Go.FG.memB n [], om := Go.FG.omIn [] }
def it179 (N : Nat) {R : Type} : It R := fun rid f cn L K => bif Nat.beq rid 3 then (tell [(0, (.v (.v false [(.bp 0 0)]))), (2, (.v (.v false [(.bp 1 0)]))), (4, (.v (.v false [(.i .i64 0)]))), (1, (.o (.box [.nl, (.i .i64 0)]))), (3, (.o (.box [.nl, (.i .i64 0)])))] (fun | [.I x0, .I x1, .I x2] => Pu.spec_SketchNew.l3 N (fun y0 y1 y2 => (K (.exit 0) (tabl [(0, (.v (.v false [(.bp 0 0)]))), (2, (.v (.v false [(.bp 1 0)]))), (4, (.v (.v false [(.i .i64 y0)]))), (1, (.o (.box [.nl, (.i .i64 y1)]))), (3, (.o (.box [.nl, (.i .i64 y2)])))]))) (fun y0 y1 y2 y3 => (K (.exit 0) (tabl [(0, (.v (.v false [(.bp 0 0)]))), (2, (.v (.v false [(.bp 1 0)]))), (4, (.v (.v false [(.i .i64 y0)]))), (1, (.o (.box [.nl, (.i .i64 y1)]))), (3, (.o (.box [(.own 2), (.i .i64 y2)]))), (5, (.o (.row 49 true y3)))]))) N x0 x1 x2 | _ => none) L (tell [(0, (.v (.v false [(.bp 0 0)]))), (2, (.v (.v false [(.bp 1 0)]))), (4, (.v (.v false [(.i .i64 0)]))), (1, (.o (.box [.nl, (.i .i64 0)]))), (3, (.o (.box [(.own 2), (.i .i64 0)]))), (5, (.o (.row 49 true [])))] (fun | [.I x3, .I x4, .I x5, .R x6] => Pu.spec_SketchNew.l3a N (fun y0 y1 y2 => (K (.exit 0) (tabl [(0, (.v (.v false [(.bp 0 0)]))), (2, (.v (.v false [(.bp 1 0)]))), (4, (.v (.v false [(.i .i64 y0)]))), (1, (.o (.box [.nl, (.i .i64 y1)]))), (3, (.o (.box [.nl, (.i .i64 y2)])))]))) (fun y0 y1 y2 y3 => (K (.exit 0) (tabl [(0, (.v (.v false [(.bp 0 0)]))), (2, (.v (.v false [(.bp 1 0)]))), (4, (.v (.v false [(.i .i64 y0)]))), (1, (.o (.box [.nl, (.i .i64 y1)]))), (3, (.o (.box [(.own 2), (.i .i64 y2)]))), (5, (.o (.row 49 true y3)))]))) N x3 x4 x5 x6 | _ => none) L (none))) else none
theorem e179_3 {R : Type} (N : Nat) (K : Ex → St → Option R) : ∀ n : Nat, (∀ x0 x1 x2, iter (exc E179 (it179 N) (loopOf Try.f179 3)) (canon (E179.keep 3))  n (tabl [(0, (.v (.v false [(.bp 0 0)]))), (2, (.v (.v false [(.bp 1 0)]))), (4, (.v (.v false [(.i .i64 x0)]))), (1, (.o (.box [.nl, (.i .i64 x1)]))), (3, (.o (.box [.nl, (.i .i64 x2)])))]) K = Pu.spec_SketchNew.l3 N (fun y0 y1 y2 => (K (.exit 0) (tabl [(0, (.v (.v false [(.bp 0 0)]))), (2, (.v (.v false [(.bp 1 0)]))), (4, (.v (.v false [(.i .i64 y0)]))), (1, (.o (.box [.nl, (.i .i64 y1)]))), (3, (.o (.box [.nl, (.i .i64 y2)])))]))) (fun y0 y1 y2 y3 => (K (.exit 0) (tabl [(0, (.v (.v false [(.bp 0 0)]))), (2, (.v (.v false [(.bp 1 0)]))), (4, (.v (.v false [(.i .i64 y0)]))), (1, (.o (.box [.nl, (.i .i64 y1)]))), (3, (.o (.box [(.own 2), (.i .i64 y2)]))), (5, (.o (.row 49 true y3)))]))) n x0 x1 x2) ∧ (∀ x3 x4 x5 x6, iter (exc E179 (it179 N) (loopOf Try.f179 3)) (canon (E179.keep 3))  n (tabl [(0, (.v (.v false [(.bp 0 0)]))), (2, (.v (.v false [(.bp 1 0)]))), (4, (.v (.v false [(.i .i64 x3)]))), (1, (.o (.box [.nl, (.i .i64 x4)]))), (3, (.o (.box [(.own 2), (.i .i64 x5)]))), (5, (.o (.row 49 true x6)))]) K = Pu.spec_SketchNew.l3a N (fun y0 y1 y2 => (K (.exit 0) (tabl [(0, (.v (.v false [(.bp 0 0)]))), (2, (.v (.v false [(.bp 1 0)]))), (4, (.v (.v false [(.i .i64 y0)]))), (1, (.o (.box [.nl, (.i .i64 y1)]))), (3, (.o (.box [.nl, (.i .i64 y2)])))]))) (fun y0 y1 y2 y3 => (K (.exit 0) (tabl [(0, (.v (.v false [(.bp 0 0)]))), (2, (.v (.v false [(.bp 1 0)]))), (4, (.v (.v false [(.i .i64 y0)]))), (1, (.o (.box [.nl, (.i .i64 y1)]))), (3, (.o (.box [(.own 2), (.i .i64 y2)]))), (5, (.o (.row 49 true y3)))]))) n x3 x4 x5 x6) := by
  intro n
  induction n with
  | zero => exact ⟨(fun _ _ _ => rfl), (fun _ _ _ _ => rfl)⟩
  | succ n ih =>
    have e0 : (fun x0 x1 x2 => iter (exc E179 (it179 N) (loopOf Try.f179 3)) (canon (E179.keep 3))  n (tabl [(0, (.v (.v false [(.bp 0 0)]))), (2, (.v (.v false [(.bp 1 0)]))), (4, (.v (.v false [(.i .i64 x0)]))), (1, (.o (.box [.nl, (.i .i64 x1)]))), (3, (.o (.box [.nl, (.i .i64 x2)])))]) K) = Pu.spec_SketchNew.l3 N (fun y0 y1 y2 => (K (.exit 0) (tabl [(0, (.v (.v false [(.bp 0 0)]))), (2, (.v (.v false [(.bp 1 0)]))), (4, (.v (.v false [(.i .i64 y0)]))), (1, (.o (.box [.nl, (.i .i64 y1)]))), (3, (.o (.box [.nl, (.i .i64 y2)])))]))) (fun y0 y1 y2 y3 => (K (.exit 0) (tabl [(0, (.v (.v false [(.bp 0 0)]))), (2, (.v (.v false [(.bp 1 0)]))), (4, (.v (.v false [(.i .i64 y0)]))), (1, (.o (.box [.nl, (.i .i64 y1)]))), (3, (.o (.box [(.own 2), (.i .i64 y2)]))), (5, (.o (.row 49 true y3)))]))) n := by funext x0 x1 x2; exact ih.1 x0 x1 x2
    have e1 : (fun x3 x4 x5 x6 => iter (exc E179 (it179 N) (loopOf Try.f179 3)) (canon (E179.keep 3))  n (tabl [(0, (.v (.v false [(.bp 0 0)]))), (2, (.v (.v false [(.bp 1 0)]))), (4, (.v (.v false [(.i .i64 x3)]))), (1, (.o (.box [.nl, (.i .i64 x4)]))), (3, (.o (.box [(.own 2), (.i .i64 x5)]))), (5, (.o (.row 49 true x6)))]) K) = Pu.spec_SketchNew.l3a N (fun y0 y1 y2 => (K (.exit 0) (tabl [(0, (.v (.v false [(.bp 0 0)]))), (2, (.v (.v false [(.bp 1 0)]))), (4, (.v (.v false [(.i .i64 y0)]))), (1, (.o (.box [.nl, (.i .i64 y1)]))), (3, (.o (.box [.nl, (.i .i64 y2)])))]))) (fun y0 y1 y2 y3 => (K (.exit 0) (tabl [(0, (.v (.v false [(.bp 0 0)]))), (2, (.v (.v false [(.bp 1 0)]))), (4, (.v (.v false [(.i .i64 y0)]))), (1, (.o (.box [.nl, (.i .i64 y1)]))), (3, (.o (.box [(.own 2), (.i .i64 y2)]))), (5, (.o (.row 49 true y3)))]))) n := by funext x3 x4 x5 x6; exact ih.2 x3 x4 x5 x6
    refine ⟨?_, ?_⟩
    · intro x0 x1 x2
      have h : ∀ g, exc E179 (it179 N) (loopOf Try.f179 3) (tabl [(0, (.v (.v false [(.bp 0 0)]))), (2, (.v (.v false [(.bp 1 0)]))), (4, (.v (.v false [(.i .i64 x0)]))), (1, (.o (.box [.nl, (.i .i64 x1)]))), (3, (.o (.box [.nl, (.i .i64 x2)])))]) (iterK g (canon (E179.keep 3)) K) = Pu.spec_SketchNew.r3 N (fun x0 x1 x2 => (g (tabl [(0, (.v (.v false [(.bp 0 0)]))), (2, (.v (.v false [(.bp 1 0)]))), (4, (.v (.v false [(.i .i64 x0)]))), (1, (.o (.box [.nl, (.i .i64 x1)]))), (3, (.o (.box [.nl, (.i .i64 x2)])))]))) (fun x3 x4 x5 x6 => (g (tabl [(0, (.v (.v false [(.bp 0 0)]))), (2, (.v (.v false [(.bp 1 0)]))), (4, (.v (.v false [(.i .i64 x3)]))), (1, (.o (.box [.nl, (.i .i64 x4)]))), (3, (.o (.box [(.own 2), (.i .i64 x5)]))), (5, (.o (.row 49 true x6)))]))) (fun y0 y1 y2 => (K (.exit 0) (tabl [(0, (.v (.v false [(.bp 0 0)]))), (2, (.v (.v false [(.bp 1 0)]))), (4, (.v (.v false [(.i .i64 y0)]))), (1, (.o (.box [.nl, (.i .i64 y1)]))), (3, (.o (.box [.nl, (.i .i64 y2)])))]))) (fun y0 y1 y2 y3 => (K (.exit 0) (tabl [(0, (.v (.v false [(.bp 0 0)]))), (2, (.v (.v false [(.bp 1 0)]))), (4, (.v (.v false [(.i .i64 y0)]))), (1, (.o (.box [.nl, (.i .i64 y1)]))), (3, (.o (.box [(.own 2), (.i .i64 y2)]))), (5, (.o (.row 49 true y3)))]))) x0 x1 x2 := by intro g; kernel_rfl
      refine (h _).trans ?_
      show Pu.spec_SketchNew.r3 N (fun x0 x1 x2 => (iter (exc E179 (it179 N) (loopOf Try.f179 3)) (canon (E179.keep 3))  n (tabl [(0, (.v (.v false [(.bp 0 0)]))), (2, (.v (.v false [(.bp 1 0)]))), (4, (.v (.v false [(.i .i64 x0)]))), (1, (.o (.box [.nl, (.i .i64 x1)]))), (3, (.o (.box [.nl, (.i .i64 x2)])))]) K)) (fun x3 x4 x5 x6 => (iter (exc E179 (it179 N) (loopOf Try.f179 3)) (canon (E179.keep 3))  n (tabl [(0, (.v (.v false [(.bp 0 0)]))), (2, (.v (.v false [(.bp 1 0)]))), (4, (.v (.v false [(.i .i64 x3)]))), (1, (.o (.box [.nl, (.i .i64 x4)]))), (3, (.o (.box [(.own 2), (.i .i64 x5)]))), (5, (.o (.row 49 true x6)))]) K)) (fun y0 y1 y2 => (K (.exit 0) (tabl [(0, (.v (.v false [(.bp 0 0)]))), (2, (.v (.v false [(.bp 1 0)]))), (4, (.v (.v false [(.i .i64 y0)]))), (1, (.o (.box [.nl, (.i .i64 y1)]))), (3, (.o (.box [.nl, (.i .i64 y2)])))]))) (fun y0 y1 y2 y3 => (K (.exit 0) (tabl [(0, (.v (.v false [(.bp 0 0)]))), (2, (.v (.v false [(.bp 1 0)]))), (4, (.v (.v false [(.i .i64 y0)]))), (1, (.o (.box [.nl, (.i .i64 y1)]))), (3, (.o (.box [(.own 2), (.i .i64 y2)]))), (5, (.o (.row 49 true y3)))]))) x0 x1 x2 = _
      rw [e0, e1]; rfl
    · intro x3 x4 x5 x6
      have h : ∀ g, exc E179 (it179 N) (loopOf Try.f179 3) (tabl [(0, (.v (.v false [(.bp 0 0)]))), (2, (.v (.v false [(.bp 1 0)]))), (4, (.v (.v false [(.i .i64 x3)]))), (1, (.o (.box [.nl, (.i .i64 x4)]))), (3, (.o (.box [(.own 2), (.i .i64 x5)]))), (5, (.o (.row 49 true x6)))]) (iterK g (canon (E179.keep 3)) K) = Pu.spec_SketchNew.r3a N (fun x0 x1 x2 => (g (tabl [(0, (.v (.v false [(.bp 0 0)]))), (2, (.v (.v false [(.bp 1 0)]))), (4, (.v (.v false [(.i .i64 x0)]))), (1, (.o (.box [.nl, (.i .i64 x1)]))), (3, (.o (.box [.nl, (.i .i64 x2)])))]))) (fun x3 x4 x5 x6 => (g (tabl [(0, (.v (.v false [(.bp 0 0)]))), (2, (.v (.v false [(.bp 1 0)]))), (4, (.v (.v false [(.i .i64 x3)]))), (1, (.o (.box [.nl, (.i .i64 x4)]))), (3, (.o (.box [(.own 2), (.i .i64 x5)]))), (5, (.o (.row 49 true x6)))]))) (fun y0 y1 y2 => (K (.exit 0) (tabl [(0, (.v (.v false [(.bp 0 0)]))), (2, (.v (.v false [(.bp 1 0)]))), (4, (.v (.v false [(.i .i64 y0)]))), (1, (.o (.box [.nl, (.i .i64 y1)]))), (3, (.o (.box [.nl, (.i .i64 y2)])))]))) (fun y0 y1 y2 y3 => (K (.exit 0) (tabl [(0, (.v (.v false [(.bp 0 0)]))), (2, (.v (.v false [(.bp 1 0)]))), (4, (.v (.v false [(.i .i64 y0)]))), (1, (.o (.box [.nl, (.i .i64 y1)]))), (3, (.o (.box [(.own 2), (.i .i64 y2)]))), (5, (.o (.row 49 true y3)))]))) x3 x4 x5 x6 := by intro g; kernel_rfl
      refine (h _).trans ?_
      show Pu.spec_SketchNew.r3a N (fun x0 x1 x2 => (iter (exc E179 (it179 N) (loopOf Try.f179 3)) (canon (E179.keep 3))  n (tabl [(0, (.v (.v false [(.bp 0 0)]))), (2, (.v (.v false [(.bp 1 0)]))), (4, (.v (.v false [(.i .i64 x0)]))), (1, (.o (.box [.nl, (.i .i64 x1)]))), (3, (.o (.box [.nl, (.i .i64 x2)])))]) K)) (fun x3 x4 x5 x6 => (iter (exc E179 (it179 N) (loopOf Try.f179 3)) (canon (E179.keep 3))  n (tabl [(0, (.v (.v false [(.bp 0 0)]))), (2, (.v (.v false [(.bp 1 0)]))), (4, (.v (.v false [(.i .i64 x3)]))), (1, (.o (.box [.nl, (.i .i64 x4)]))), (3, (.o (.box [(.own 2), (.i .i64 x5)]))), (5, (.o (.row 49 true x6)))]) K)) (fun y0 y1 y2 => (K (.exit 0) (tabl [(0, (.v (.v false [(.bp 0 0)]))), (2, (.v (.v false [(.bp 1 0)]))), (4, (.v (.v false [(.i .i64 y0)]))), (1, (.o (.box [.nl, (.i .i64 y1)]))), (3, (.o (.box [.nl, (.i .i64 y2)])))]))) (fun y0 y1 y2 y3 => (K (.exit 0) (tabl [(0, (.v (.v false [(.bp 0 0)]))), (2, (.v (.v false [(.bp 1 0)]))), (4, (.v (.v false [(.i .i64 y0)]))), (1, (.o (.box [.nl, (.i .i64 y1)]))), (3, (.o (.box [(.own 2), (.i .i64 y2)]))), (5, (.o (.row 49 true y3)))]))) x3 x4 x5 x6 = _
      rw [e0, e1]; rfl
theorem lo179_3 {R : Type} (N : Nat) : LoopOk E179 (it179 N (R := R)) (loopOf Try.f179 3) := by
  have e : firstRid (loopOf Try.f179 3) = 3 := by kernel_rfl
  intro L K r
  rw [e]
  intro h
  unfold it179 at h
  simp only [show Nat.beq 3 3 = true from rfl, cond_false, cond_true] at h
  refine tell_ok (Q := fun L => ∃ n, iter (exc E179 (it179 N) (loopOf Try.f179 3)) (canon (E179.keep 3)) n (tabl L) K = some r) h (fun xs h => ?_) (fun h => ?_)
  · (try dsimp only at h)
    split at h
    · exact ⟨N, ((e179_3 N K N).1 _ _ _).trans h⟩
    · cases h
  refine tell_ok (Q := fun L => ∃ n, iter (exc E179 (it179 N) (loopOf Try.f179 3)) (canon (E179.keep 3)) n (tabl L) K = some r) h (fun xs h => ?_) (fun h => ?_)
  · (try dsimp only at h)
    split at h
    · exact ⟨N, ((e179_3 N K N).2 _ _ _ _).trans h⟩
    · cases h
  cases h
def sp179 : List Arg → Option (Bool × Res)
  | [] => some (Pu.spec_SketchNew.c, ⟨[(.v true [(.ow 49 true Pu.spec_SketchNew.v.1), (.i .i64 Pu.spec_SketchNew.v.2)])], []⟩)
  | _ => none
theorem ok179 : FnOk Try.prog T 179 sp179 := by
  refine fn_ok (E := E179) hE call_nil hM Try.func179 (code := (Try.f179.body.getD .skip)) (by kernel_rfl) (by kernel_rfl) ?_
  have key : Pu.spec_SketchNew.c = true → ∃ it : It Res, (∀ c ∈ loopsOf (Try.f179.body.getD .skip), LoopOk E179 it c) ∧ body E179 it Try.f179 [] = some ⟨[(.v true [(.ow 49 true Pu.spec_SketchNew.v.1), (.i .i64 Pu.spec_SketchNew.v.2)])], []⟩ := by
    intro   h1
    obtain ⟨N, hN⟩ := Pu.spec_SketchNew.b_eq (R := Res) (fun r0 r1 => some ⟨[(.v true [(.ow 49 true r0), (.i .i64 r1)])], []⟩)  h1
    have hl : loopsOf (Try.f179.body.getD .skip) = [loopOf Try.f179 3] := by kernel_rfl
    refine ⟨it179 N, by rw [hl]; exact (loops_cons (lo179_3 N) loops_nil), ?_⟩
    refine Eq.trans (show body E179 (it179 N) Try.f179 [] = Pu.spec_SketchNew.b N (fun r0 r1 => some ⟨[(.v true [(.ow 49 true r0), (.i .i64 r1)])], []⟩)  by kernel_rfl) hN
  intro args r h
  unfold sp179 at h
  split at h
  · injection h with h
    injection h with h1 h2
    subst h2
    exact ⟨by kernel_rfl, fun hf => ⟨of_decide_eq_true (by kernel_rfl), key h1⟩⟩
  · cases h

end Go.FG.Se

namespace Go.FG.Se
open Go.Proofs
def E129 : Env := { toTab := T, call := Go.FG.callIn [(179, sp179)], mode := Go.FG.modeIn md, keep := Go.FG.keepIn [], tk := fun n => Go.FG.memB n [], om := Go.FG.omIn [] }
def sp129 : List Arg → Option (Bool × Res)
  | [] => some (true, ⟨[(.v true [(.ow 9 true Pu.spec_PolicyNew.v.1), (.ow 9 true Pu.spec_PolicyNew.v.2.1), (.ow 49 true Pu.spec_PolicyNew.v.2.2.1), (.i .i64 Pu.spec_PolicyNew.v.2.2.2)])], []⟩)
  | _ => none
theorem ok129 : FnOk Try.prog T 129 sp129 := by
  refine fn_ok (E := E129) hE (call_cons ok179 call_nil) hM Try.func129 (code := (Try.f129.body.getD .skip)) (by kernel_rfl) (by kernel_rfl) ?_
  have key : ∃ it : It Res, (∀ c ∈ loopsOf (Try.f129.body.getD .skip), LoopOk E129 it c) ∧ body E129 it Try.f129 [] = some ⟨[(.v true [(.ow 9 true Pu.spec_PolicyNew.v.1), (.ow 9 true Pu.spec_PolicyNew.v.2.1), (.ow 49 true Pu.spec_PolicyNew.v.2.2.1), (.i .i64 Pu.spec_PolicyNew.v.2.2.2)])], []⟩ := by
    skip
    have hN := Pu.spec_PolicyNew.b_eq (R := Res) (fun r0 r1 r2 r3 => some ⟨[(.v true [(.ow 9 true r0), (.ow 9 true r1), (.ow 49 true r2), (.i .i64 r3)])], []⟩) 
    have hl : loopsOf (Try.f129.body.getD .skip) = [] := by kernel_rfl
    refine ⟨iterN 0, by rw [hl]; exact loops_nil, ?_⟩
    refine Eq.trans (show body E129 (iterN 0) Try.f129 [] = Pu.spec_PolicyNew.b (fun r0 r1 r2 r3 => some ⟨[(.v true [(.ow 9 true r0), (.ow 9 true r1), (.ow 49 true r2), (.i .i64 r3)])], []⟩)  by kernel_rfl) hN
  intro args r h
  unfold sp129 at h
  split at h
  · injection h with h
    injection h with h1 h2
    subst h2
    exact ⟨by kernel_rfl, fun hf => ⟨of_decide_eq_true (by kernel_rfl), key⟩⟩
  · cases h

end Go.FG.Se

namespace Go.FG.Se
open Go.Proofs
def E61 : Env := { toTab := T, call := Go.FG.callIn [(129, sp129)], mode := Go.FG.modeIn md, keep := Go.FG.keepIn [], tk := fun n => Go.FG.memB n [], om := Go.FG.omIn [] }
def sp61 : List Arg → Option (Bool × Res)
  | [] => some (true, ⟨[(.v true [(.i .i64 Pu.spec_ProxyNew.v.1), (.ow 25 true Pu.spec_ProxyNew.v.2.1), (.ow 9 true Pu.spec_ProxyNew.v.2.2.1), (.ow 9 true Pu.spec_ProxyNew.v.2.2.2.1), (.ow 49 true Pu.spec_ProxyNew.v.2.2.2.2.1), (.i .i64 Pu.spec_ProxyNew.v.2.2.2.2.2.1), (.ow 175 true Pu.spec_ProxyNew.v.2.2.2.2.2.2.1), (.ow 214 true Pu.spec_ProxyNew.v.2.2.2.2.2.2.2.1), (.i .i64 Pu.spec_ProxyNew.v.2.2.2.2.2.2.2.2)])], []⟩)
  | _ => none
theorem ok61 : FnOk Try.prog T 61 sp61 := by
  refine fn_ok (E := E61) hE (call_cons ok129 call_nil) hM Try.func61 (code := (Try.f61.body.getD .skip)) (by kernel_rfl) (by kernel_rfl) ?_
  have key : ∃ it : It Res, (∀ c ∈ loopsOf (Try.f61.body.getD .skip), LoopOk E61 it c) ∧ body E61 it Try.f61 [] = some ⟨[(.v true [(.i .i64 Pu.spec_ProxyNew.v.1), (.ow 25 true Pu.spec_ProxyNew.v.2.1), (.ow 9 true Pu.spec_ProxyNew.v.2.2.1), (.ow 9 true Pu.spec_ProxyNew.v.2.2.2.1), (.ow 49 true Pu.spec_ProxyNew.v.2.2.2.2.1), (.i .i64 Pu.spec_ProxyNew.v.2.2.2.2.2.1), (.ow 175 true Pu.spec_ProxyNew.v.2.2.2.2.2.2.1), (.ow 214 true Pu.spec_ProxyNew.v.2.2.2.2.2.2.2.1), (.i .i64 Pu.spec_ProxyNew.v.2.2.2.2.2.2.2.2)])], []⟩ := by
    skip
    have hN := Pu.spec_ProxyNew.b_eq (R := Res) (fun r0 r1 r2 r3 r4 r5 r6 r7 r8 => some ⟨[(.v true [(.i .i64 r0), (.ow 25 true r1), (.ow 9 true r2), (.ow 9 true r3), (.ow 49 true r4), (.i .i64 r5), (.ow 175 true r6), (.ow 214 true r7), (.i .i64 r8)])], []⟩) 
    have hl : loopsOf (Try.f61.body.getD .skip) = [] := by kernel_rfl
    refine ⟨iterN 0, by rw [hl]; exact loops_nil, ?_⟩
    refine Eq.trans (show body E61 (iterN 0) Try.f61 [] = Pu.spec_ProxyNew.b (fun r0 r1 r2 r3 r4 r5 r6 r7 r8 => some ⟨[(.v true [(.i .i64 r0), (.ow 25 true r1), (.ow 9 true r2), (.ow 9 true r3), (.ow 49 true r4), (.i .i64 r5), (.ow 175 true r6), (.ow 214 true r7), (.i .i64 r8)])], []⟩)  by kernel_rfl) hN
  intro args r h
  unfold sp61 at h
  split at h
  · injection h with h
    injection h with h1 h2
    subst h2
    exact ⟨by kernel_rfl, fun hf => ⟨of_decide_eq_true (by kernel_rfl), key⟩⟩
  · cases h

end Go.FG.Se

namespace Go.FG.Se
open Go.Proofs
def E180 : Env := { toTab := T, call := Go.FG.callIn [], mode := Go.FG.modeIn md, keep := Go.FG.keepIn [(3, [0, 1, 3])], tk := fun n => Go.FG.memB n [], om := Go.FG.omIn [] }
def it180 (N : Nat) {R : Type} : It R := fun rid f cn L K => bif Nat.beq rid 3 then (tell [(0, (.v (.v false [(.bp 0 0)]))), (2, (.v (.v false [(.bp 1 0)]))), (6, (.v (.v false [(.i .i64 0)]))), (1, (.o (.box [.nl, (.i .i64 0)]))), (3, (.o (.box [.nl, (.i .i64 0)])))] (fun | [.I x0, .I x1, .I x2] => Pu.impl_SketchNew.l3 N (fun y0 y1 y2 => (K (.exit 0) (tabl [(0, (.v (.v false [(.bp 0 0)]))), (2, (.v (.v false [(.bp 1 0)]))), (6, (.v (.v false [(.i .i64 y0)]))), (1, (.o (.box [.nl, (.i .i64 y1)]))), (3, (.o (.box [.nl, (.i .i64 y2)])))]))) (fun y0 y1 y2 y3 => (K (.exit 0) (tabl [(0, (.v (.v false [(.bp 0 0)]))), (2, (.v (.v false [(.bp 1 0)]))), (6, (.v (.v false [(.i .i64 y0)]))), (1, (.o (.box [.nl, (.i .i64 y1)]))), (3, (.o (.box [(.own 2), (.i .i64 y2)]))), (5, (.o (.row 49 true y3)))]))) N x0 x1 x2 | _ => none) L (tell [(0, (.v (.v false [(.bp 0 0)]))), (2, (.v (.v false [(.bp 1 0)]))), (6, (.v (.v false [(.i .i64 0)]))), (1, (.o (.box [.nl, (.i .i64 0)]))), (3, (.o (.box [(.own 2), (.i .i64 0)]))), (5, (.o (.row 49 true [])))] (fun | [.I x3, .I x4, .I x5, .R x6] => Pu.impl_SketchNew.l3a N (fun y0 y1 y2 => (K (.exit 0) (tabl [(0, (.v (.v false [(.bp 0 0)]))), (2, (.v (.v false [(.bp 1 0)]))), (6, (.v (.v false [(.i .i64 y0)]))), (1, (.o (.box [.nl, (.i .i64 y1)]))), (3, (.o (.box [.nl, (.i .i64 y2)])))]))) (fun y0 y1 y2 y3 => (K (.exit 0) (tabl [(0, (.v (.v false [(.bp 0 0)]))), (2, (.v (.v false [(.bp 1 0)]))), (6, (.v (.v false [(.i .i64 y0)]))), (1, (.o (.box [.nl, (.i .i64 y1)]))), (3, (.o (.box [(.own 2), (.i .i64 y2)]))), (5, (.o (.row 49 true y3)))]))) N x3 x4 x5 x6 | _ => none) L (none))) else none
theorem e180_3 {R : Type} (N : Nat) (K : Ex → St → Option R) : ∀ n : Nat, (∀ x0 x1 x2, iter (exc E180 (it180 N) (loopOf Try.f180 3)) (canon (E180.keep 3))  n (tabl [(0, (.v (.v false [(.bp 0 0)]))), (2, (.v (.v false [(.bp 1 0)]))), (6, (.v (.v false [(.i .i64 x0)]))), (1, (.o (.box [.nl, (.i .i64 x1)]))), (3, (.o (.box [.nl, (.i .i64 x2)])))]) K = Pu.impl_SketchNew.l3 N (fun y0 y1 y2 => (K (.exit 0) (tabl [(0, (.v (.v false [(.bp 0 0)]))), (2, (.v (.v false [(.bp 1 0)]))), (6, (.v (.v false [(.i .i64 y0)]))), (1, (.o (.box [.nl, (.i .i64 y1)]))), (3, (.o (.box [.nl, (.i .i64 y2)])))]))) (fun y0 y1 y2 y3 => (K (.exit 0) (tabl [(0, (.v (.v false [(.bp 0 0)]))), (2, (.v (.v false [(.bp 1 0)]))), (6, (.v (.v false [(.i .i64 y0)]))), (1, (.o (.box [.nl, (.i .i64 y1)]))), (3, (.o (.box [(.own 2), (.i .i64 y2)]))), (5, (.o (.row 49 true y3)))]))) n x0 x1 x2) ∧ (∀ x3 x4 x5 x6, iter (exc E180 (it180 N) (loopOf Try.f180 3)) (canon (E180.keep 3))  n (tabl [(0, (.v (.v false [(.bp 0 0)]))), (2, (.v (.v false [(.bp 1 0)]))), (6, (.v (.v false [(.i .i64 x3)]))), (1, (.o (.box [.nl, (.i .i64 x4)]))), (3, (.o (.box [(.own 2), (.i .i64 x5)]))), (5, (.o (.row 49 true x6)))]) K = Pu.impl_SketchNew.l3a N (fun y0 y1 y2 => (K (.exit 0) (tabl [(0, (.v (.v false [(.bp 0 0)]))), (2, (.v (.v false [(.bp 1 0)]))), (6, (.v (.v false [(.i .i64 y0)]))), (1, (.o (.box [.nl, (.i .i64 y1)]))), (3, (.o (.box [.nl, (.i .i64 y2)])))]))) (fun y0 y1 y2 y3 => (K (.exit 0) (tabl [(0, (.v (.v false [(.bp 0 0)]))), (2, (.v (.v false [(.bp 1 0)]))), (6, (.v (.v false [(.i .i64 y0)]))), (1, (.o (.box [.nl, (.i .i64 y1)]))), (3, (.o (.box [(.own 2), (.i .i64 y2)]))), (5, (.o (.row 49 true y3)))]))) n x3 x4 x5 x6) := by
  intro n
  induction n with
  | zero => exact ⟨(fun _ _ _ => rfl), (fun _ _ _ _ => rfl)⟩
  | succ n ih =>
    have e0 : (fun x0 x1 x2 => iter (exc E180 (it180 N) (loopOf Try.f180 3)) (canon (E180.keep 3))  n (tabl [(0, (.v (.v false [(.bp 0 0)]))), (2, (.v (.v false [(.bp 1 0)]))), (6, (.v (.v false [(.i .i64 x0)]))), (1, (.o (.box [.nl, (.i .i64 x1)]))), (3, (.o (.box [.nl, (.i .i64 x2)])))]) K) = Pu.impl_SketchNew.l3 N (fun y0 y1 y2 => (K (.exit 0) (tabl [(0, (.v (.v false [(.bp 0 0)]))), (2, (.v (.v false [(.bp 1 0)]))), (6, (.v (.v false [(.i .i64 y0)]))), (1, (.o (.box [.nl, (.i .i64 y1)]))), (3, (.o (.box [.nl, (.i .i64 y2)])))]))) (fun y0 y1 y2 y3 => (K (.exit 0) (tabl [(0, (.v (.v false [(.bp 0 0)]))), (2, (.v (.v false [(.bp 1 0)]))), (6, (.v (.v false [(.i .i64 y0)]))), (1, (.o (.box [.nl, (.i .i64 y1)]))), (3, (.o (.box [(.own 2), (.i .i64 y2)]))), (5, (.o (.row 49 true y3)))]))) n := by funext x0 x1 x2; exact ih.1 x0 x1 x2
    have e1 : (fun x3 x4 x5 x6 => iter (exc E180 (it180 N) (loopOf Try.f180 3)) (canon (E180.keep 3))  n (tabl [(0, (.v (.v false [(.bp 0 0)]))), (2, (.v (.v false [(.bp 1 0)]))), (6, (.v (.v false [(.i .i64 x3)]))), (1, (.o (.box [.nl, (.i .i64 x4)]))), (3, (.o (.box [(.own 2), (.i .i64 x5)]))), (5, (.o (.row 49 true x6)))]) K) = Pu.impl_SketchNew.l3a N (fun y0 y1 y2 => (K (.exit 0) (tabl [(0, (.v (.v false [(.bp 0 0)]))), (2, (.v (.v false [(.bp 1 0)]))), (6, (.v (.v false [(.i .i64 y0)]))), (1, (.o (.box [.nl, (.i .i64 y1)]))), (3, (.o (.box [.nl, (.i .i64 y2)])))]))) (fun y0 y1 y2 y3 => (K (.exit 0) (tabl [(0, (.v (.v false [(.bp 0 0)]))), (2, (.v (.v false [(.bp 1 0)]))), (6, (.v (.v false [(.i .i64 y0)]))), (1, (.o (.box [.nl, (.i .i64 y1)]))), (3, (.o (.box [(.own 2), (.i .i64 y2)]))), (5, (.o (.row 49 true y3)))]))) n := by funext x3 x4 x5 x6; exact ih.2 x3 x4 x5 x6
    refine ⟨?_, ?_⟩
    · intro x0 x1 x2
      have h : ∀ g, exc E180 (it180 N) (loopOf Try.f180 3) (tabl [(0, (.v (.v false [(.bp 0 0)]))), (2, (.v (.v false [(.bp 1 0)]))), (6, (.v (.v false [(.i .i64 x0)]))), (1, (.o (.box [.nl, (.i .i64 x1)]))), (3, (.o (.box [.nl, (.i .i64 x2)])))]) (iterK g (canon (E180.keep 3)) K) = Pu.impl_SketchNew.r3 N (fun x0 x1 x2 => (g (tabl [(0, (.v (.v false [(.bp 0 0)]))), (2, (.v (.v false [(.bp 1 0)]))), (6, (.v (.v false [(.i .i64 x0)]))), (1, (.o (.box [.nl, (.i .i64 x1)]))), (3, (.o (.box [.nl, (.i .i64 x2)])))]))) (fun x3 x4 x5 x6 => (g (tabl [(0, (.v (.v false [(.bp 0 0)]))), (2, (.v (.v false [(.bp 1 0)]))), (6, (.v (.v false [(.i .i64 x3)]))), (1, (.o (.box [.nl, (.i .i64 x4)]))), (3, (.o (.box [(.own 2), (.i .i64 x5)]))), (5, (.o (.row 49 true x6)))]))) (fun y0 y1 y2 => (K (.exit 0) (tabl [(0, (.v (.v false [(.bp 0 0)]))), (2, (.v (.v false [(.bp 1 0)]))), (6, (.v (.v false [(.i .i64 y0)]))), (1, (.o (.box [.nl, (.i .i64 y1)]))), (3, (.o (.box [.nl, (.i .i64 y2)])))]))) (fun y0 y1 y2 y3 => (K (.exit 0) (tabl [(0, (.v (.v false [(.bp 0 0)]))), (2, (.v (.v false [(.bp 1 0)]))), (6, (.v (.v false [(.i .i64 y0)]))), (1, (.o (.box [.nl, (.i .i64 y1)]))), (3, (.o (.box [(.own 2), (.i .i64 y2)]))), (5, (.o (.row 49 true y3)))]))) x0 x1 x2 := by intro g; kernel_rfl
      refine (h _).trans ?_
      show Pu.impl_SketchNew.r3 N (fun x0 x1 x2 => (iter (exc E180 (it180 N) (loopOf Try.f180 3)) (canon (E180.keep 3))  n (tabl [(0, (.v (.v false [(.bp 0 0)]))), (2, (.v (.v false [(.bp 1 0)]))), (6, (.v (.v false [(.i .i64 x0)]))), (1, (.o (.box [.nl, (.i .i64 x1)]))), (3, (.o (.box [.nl, (.i .i64 x2)])))]) K)) (fun x3 x4 x5 x6 => (iter (exc E180 (it180 N) (loopOf Try.f180 3)) (canon (E180.keep 3))  n (tabl [(0, (.v (.v false [(.bp 0 0)]))), (2, (.v (.v false [(.bp 1 0)]))), (6, (.v (.v false [(.i .i64 x3)]))), (1, (.o (.box [.nl, (.i .i64 x4)]))), (3, (.o (.box [(.own 2), (.i .i64 x5)]))), (5, (.o (.row 49 true x6)))]) K)) (fun y0 y1 y2 => (K (.exit 0) (tabl [(0, (.v (.v false [(.bp 0 0)]))), (2, (.v (.v false [(.bp 1 0)]))), (6, (.v (.v false [(.i .i64 y0)]))), (1, (.o (.box [.nl, (.i .i64 y1)]))), (3, (.o (.box [.nl, (.i .i64 y2)])))]))) (fun y0 y1 y2 y3 => (K (.exit 0) (tabl [(0, (.v (.v false [(.bp 0 0)]))), (2, (.v (.v false [(.bp 1 0)]))), (6, (.v (.v false [(.i .i64 y0)]))), (1, (.o (.box [.nl, (.i .i64 y1)]))), (3, (.o (.box [(.own 2), (.i .i64 y2)]))), (5, (.o (.row 49 true y3)))]))) x0 x1 x2 = _
      rw [e0, e1]; rfl
    · intro x3 x4 x5 x6
      have h : ∀ g, exc E180 (it180 N) (loopOf Try.f180 3) (tabl [(0, (.v (.v false [(.bp 0 0)]))), (2, (.v (.v false [(.bp 1 0)]))), (6, (.v (.v false [(.i .i64 x3)]))), (1, (.o (.box [.nl, (.i .i64 x4)]))), (3, (.o (.box [(.own 2), (.i .i64 x5)]))), (5, (.o (.row 49 true x6)))]) (iterK g (canon (E180.keep 3)) K) = Pu.impl_SketchNew.r3a N (fun x0 x1 x2 => (g (tabl [(0, (.v (.v false [(.bp 0 0)]))), (2, (.v (.v false [(.bp 1 0)]))), (6, (.v (.v false [(.i .i64 x0)]))), (1, (.o (.box [.nl, (.i .i64 x1)]))), (3, (.o (.box [.nl, (.i .i64 x2)])))]))) (fun x3 x4 x5 x6 => (g (tabl [(0, (.v (.v false [(.bp 0 0)]))), (2, (.v (.v false [(.bp 1 0)]))), (6, (.v (.v false [(.i .i64 x3)]))), (1, (.o (.box [.nl, (.i .i64 x4)]))), (3, (.o (.box [(.own 2), (.i .i64 x5)]))), (5, (.o (.row 49 true x6)))]))) (fun y0 y1 y2 => (K (.exit 0) (tabl [(0, (.v (.v false [(.bp 0 0)]))), (2, (.v (.v false [(.bp 1 0)]))), (6, (.v (.v false [(.i .i64 y0)]))), (1, (.o (.box [.nl, (.i .i64 y1)]))), (3, (.o (.box [.nl, (.i .i64 y2)])))]))) (fun y0 y1 y2 y3 => (K (.exit 0) (tabl [(0, (.v (.v false [(.bp 0 0)]))), (2, (.v (.v false [(.bp 1 0)]))), (6, (.v (.v false [(.i .i64 y0)]))), (1, (.o (.box [.nl, (.i .i64 y1)]))), (3, (.o (.box [(.own 2), (.i .i64 y2)]))), (5, (.o (.row 49 true y3)))]))) x3 x4 x5 x6 := by intro g; kernel_rfl
      refine (h _).trans ?_
      show Pu.impl_SketchNew.r3a N (fun x0 x1 x2 => (iter (exc E180 (it180 N) (loopOf Try.f180 3)) (canon (E180.keep 3))  n (tabl [(0, (.v (.v false [(.bp 0 0)]))), (2, (.v (.v false [(.bp 1 0)]))), (6, (.v (.v false [(.i .i64 x0)]))), (1, (.o (.box [.nl, (.i .i64 x1)]))), (3, (.o (.box [.nl, (.i .i64 x2)])))]) K)) (fun x3 x4 x5 x6 => (iter (exc E180 (it180 N) (loopOf Try.f180 3)) (canon (E180.keep 3))  n (tabl [(0, (.v (.v false [(.bp 0 0)]))), (2, (.v (.v false [(.bp 1 0)]))), (6, (.v (.v false [(.i .i64 x3)]))), (1, (.o (.box [.nl, (.i .i64 x4)]))), (3, (.o (.box [(.own 2), (.i .i64 x5)]))), (5, (.o (.row 49 true x6)))]) K)) (fun y0 y1 y2 => (K (.exit 0) (tabl [(0, (.v (.v false [(.bp 0 0)]))), (2, (.v (.v false [(.bp 1 0)]))), (6, (.v (.v false [(.i .i64 y0)]))), (1, (.o (.box [.nl, (.i .i64 y1)]))), (3, (.o (.box [.nl, (.i .i64 y2)])))]))) (fun y0 y1 y2 y3 => (K (.exit 0) (tabl [(0, (.v (.v false [(.bp 0 0)]))), (2, (.v (.v false [(.bp 1 0)]))), (6, (.v (.v false [(.i .i64 y0)]))), (1, (.o (.box [.nl, (.i .i64 y1)]))), (3, (.o (.box [(.own 2), (.i .i64 y2)]))), (5, (.o (.row 49 true y3)))]))) x3 x4 x5 x6 = _
      rw [e0, e1]; rfl
theorem lo180_3 {R : Type} (N : Nat) : LoopOk E180 (it180 N (R := R)) (loopOf Try.f180 3) := by
  have e : firstRid (loopOf Try.f180 3) = 3 := by kernel_rfl
  intro L K r
  rw [e]
  intro h
  unfold it180 at h
  simp only [show Nat.beq 3 3 = true from rfl, cond_false, cond_true] at h
  refine tell_ok (Q := fun L => ∃ n, iter (exc E180 (it180 N) (loopOf Try.f180 3)) (canon (E180.keep 3)) n (tabl L) K = some r) h (fun xs h => ?_) (fun h => ?_)
  · (try dsimp only at h)
    split at h
    · exact ⟨N, ((e180_3 N K N).1 _ _ _).trans h⟩
    · cases h
  refine tell_ok (Q := fun L => ∃ n, iter (exc E180 (it180 N) (loopOf Try.f180 3)) (canon (E180.keep 3)) n (tabl L) K = some r) h (fun xs h => ?_) (fun h => ?_)
  · (try dsimp only at h)
    split at h
    · exact ⟨N, ((e180_3 N K N).2 _ _ _ _).trans h⟩
    · cases h
  cases h
def sp180 : List Arg → Option (Bool × Res)
  | [] => some (Pu.impl_SketchNew.c, ⟨[(.v true [(.ow 49 true Pu.impl_SketchNew.v.1), (.i .i64 Pu.impl_SketchNew.v.2)])], []⟩)
  | _ => none
theorem ok180 : FnOk Try.prog T 180 sp180 := by
  refine fn_ok (E := E180) hE call_nil hM Try.func180 (code := (Try.f180.body.getD .skip)) (by kernel_rfl) (by kernel_rfl) ?_
  have key : Pu.impl_SketchNew.c = true → ∃ it : It Res, (∀ c ∈ loopsOf (Try.f180.body.getD .skip), LoopOk E180 it c) ∧ body E180 it Try.f180 [] = some ⟨[(.v true [(.ow 49 true Pu.impl_SketchNew.v.1), (.i .i64 Pu.impl_SketchNew.v.2)])], []⟩ := by
    intro   h1
    obtain ⟨N, hN⟩ := Pu.impl_SketchNew.b_eq (R := Res) (fun r0 r1 => some ⟨[(.v true [(.ow 49 true r0), (.i .i64 r1)])], []⟩)  h1
    have hl : loopsOf (Try.f180.body.getD .skip) = [loopOf Try.f180 3] := by kernel_rfl
    refine ⟨it180 N, by rw [hl]; exact (loops_cons (lo180_3 N) loops_nil), ?_⟩
    refine Eq.trans (show body E180 (it180 N) Try.f180 [] = Pu.impl_SketchNew.b N (fun r0 r1 => some ⟨[(.v true [(.ow 49 true r0), (.i .i64 r1)])], []⟩)  by kernel_rfl) hN
  intro args r h
  unfold sp180 at h
  split at h
  · injection h with h
    injection h with h1 h2
    subst h2
    exact ⟨by kernel_rfl, fun hf => ⟨of_decide_eq_true (by kernel_rfl), key h1⟩⟩
  · cases h

end Go.FG.Se

namespace Go.FG.Se
open Go.Proofs
def E130 : Env := { toTab := T, call := Go.FG.callIn [(180, sp180)], mode := Go.FG.modeIn md, keep := Go.FG.keepIn [], tk := fun n => Go.FG.memB n [], om := Go.FG.omIn [] }
def sp130 : List Arg → Option (Bool × Res)
  | [] => some (true, ⟨[(.v true [(.ow 9 true Pu.impl_PolicyNew.v.1), (.ow 9 true Pu.impl_PolicyNew.v.2.1), (.ow 49 true Pu.impl_PolicyNew.v.2.2.1), (.i .i64 Pu.impl_PolicyNew.v.2.2.2)])], []⟩)
  | _ => none
theorem ok130 : FnOk Try.prog T 130 sp130 := by
  refine fn_ok (E := E130) hE (call_cons ok180 call_nil) hM Try.func130 (code := (Try.f130.body.getD .skip)) (by kernel_rfl) (by kernel_rfl) ?_
  have key : ∃ it : It Res, (∀ c ∈ loopsOf (Try.f130.body.getD .skip), LoopOk E130 it c) ∧ body E130 it Try.f130 [] = some ⟨[(.v true [(.ow 9 true Pu.impl_PolicyNew.v.1), (.ow 9 true Pu.impl_PolicyNew.v.2.1), (.ow 49 true Pu.impl_PolicyNew.v.2.2.1), (.i .i64 Pu.impl_PolicyNew.v.2.2.2)])], []⟩ := by
    skip
    have hN := Pu.impl_PolicyNew.b_eq (R := Res) (fun r0 r1 r2 r3 => some ⟨[(.v true [(.ow 9 true r0), (.ow 9 true r1), (.ow 49 true r2), (.i .i64 r3)])], []⟩) 
    have hl : loopsOf (Try.f130.body.getD .skip) = [] := by kernel_rfl
    refine ⟨iterN 0, by rw [hl]; exact loops_nil, ?_⟩
    refine Eq.trans (show body E130 (iterN 0) Try.f130 [] = Pu.impl_PolicyNew.b (fun r0 r1 r2 r3 => some ⟨[(.v true [(.ow 9 true r0), (.ow 9 true r1), (.ow 49 true r2), (.i .i64 r3)])], []⟩)  by kernel_rfl) hN
  intro args r h
  unfold sp130 at h
  split at h
  · injection h with h
    injection h with h1 h2
    subst h2
    exact ⟨by kernel_rfl, fun hf => ⟨of_decide_eq_true (by kernel_rfl), key⟩⟩
  · cases h

end Go.FG.Se

namespace Go.FG.Se
open Go.Proofs
def E62 : Env := { toTab := T, call := Go.FG.callIn [(130, sp130)], mode := Go.FG.modeIn md, keep := Go.FG.keepIn [], tk := fun n => Go.FG.memB n [], om := Go.FG.omIn [] }
def sp62 : List Arg → Option (Bool × Res)
  | [] => some (true, ⟨[(.v true [(.i .i64 Pu.impl_ProxyNew.v.1), (.ow 25 true Pu.impl_ProxyNew.v.2.1), (.ow 9 true Pu.impl_ProxyNew.v.2.2.1), (.ow 9 true Pu.impl_ProxyNew.v.2.2.2.1), (.ow 49 true Pu.impl_ProxyNew.v.2.2.2.2.1), (.i .i64 Pu.impl_ProxyNew.v.2.2.2.2.2.1), (.ow 175 true Pu.impl_ProxyNew.v.2.2.2.2.2.2.1), (.ow 214 true Pu.impl_ProxyNew.v.2.2.2.2.2.2.2.1), (.i .i64 Pu.impl_ProxyNew.v.2.2.2.2.2.2.2.2)])], []⟩)
  | _ => none
theorem ok62 : FnOk Try.prog T 62 sp62 := by
  refine fn_ok (E := E62) hE (call_cons ok130 call_nil) hM Try.func62 (code := (Try.f62.body.getD .skip)) (by kernel_rfl) (by kernel_rfl) ?_
  have key : ∃ it : It Res, (∀ c ∈ loopsOf (Try.f62.body.getD .skip), LoopOk E62 it c) ∧ body E62 it Try.f62 [] = some ⟨[(.v true [(.i .i64 Pu.impl_ProxyNew.v.1), (.ow 25 true Pu.impl_ProxyNew.v.2.1), (.ow 9 true Pu.impl_ProxyNew.v.2.2.1), (.ow 9 true Pu.impl_ProxyNew.v.2.2.2.1), (.ow 49 true Pu.impl_ProxyNew.v.2.2.2.2.1), (.i .i64 Pu.impl_ProxyNew.v.2.2.2.2.2.1), (.ow 175 true Pu.impl_ProxyNew.v.2.2.2.2.2.2.1), (.ow 214 true Pu.impl_ProxyNew.v.2.2.2.2.2.2.2.1), (.i .i64 Pu.impl_ProxyNew.v.2.2.2.2.2.2.2.2)])], []⟩ := by
    skip
    have hN := Pu.impl_ProxyNew.b_eq (R := Res) (fun r0 r1 r2 r3 r4 r5 r6 r7 r8 => some ⟨[(.v true [(.i .i64 r0), (.ow 25 true r1), (.ow 9 true r2), (.ow 9 true r3), (.ow 49 true r4), (.i .i64 r5), (.ow 175 true r6), (.ow 214 true r7), (.i .i64 r8)])], []⟩) 
    have hl : loopsOf (Try.f62.body.getD .skip) = [] := by kernel_rfl
    refine ⟨iterN 0, by rw [hl]; exact loops_nil, ?_⟩
    refine Eq.trans (show body E62 (iterN 0) Try.f62 [] = Pu.impl_ProxyNew.b (fun r0 r1 r2 r3 r4 r5 r6 r7 r8 => some ⟨[(.v true [(.i .i64 r0), (.ow 25 true r1), (.ow 9 true r2), (.ow 9 true r3), (.ow 49 true r4), (.i .i64 r5), (.ow 175 true r6), (.ow 214 true r7), (.i .i64 r8)])], []⟩)  by kernel_rfl) hN
  intro args r h
  unfold sp62 at h
  split at h
  · injection h with h
    injection h with h1 h2
    subst h2
    exact ⟨by kernel_rfl, fun hf => ⟨of_decide_eq_true (by kernel_rfl), key⟩⟩
  · cases h

end Go.FG.Se

namespace Go.FG.Se
open Go.Proofs
def E154 : Env := { toTab := T, call := Go.FG.callIn [], mode := Go.FG.modeIn md, keep := Go.FG.keepIn [], tk := fun n => Go.FG.memB n [], om := Go.FG.omIn [] }
def sp154 : List Arg → Option (Bool × Res)
  | [(.v true [(.s a0_0), (.i .i64 a0_1), (.i .i64 a0_2), (.s a0_3)]), (.v true [(.s b1_0), (.i .i64 b1_1), (.i .i64 b1_2), (.s b1_3)])] => some (true, ⟨[(.v false [(.b (Pu.laws_eqEntry.v a0_0 a0_1 a0_2 a0_3 b1_0 b1_1 b1_2 b1_3))])], []⟩)
  | _ => none
theorem ok154 : FnOk Try.prog T 154 sp154 := by
  refine fn_ok (E := E154) hE call_nil hM Try.func154 (code := (Try.f154.body.getD .skip)) (by kernel_rfl) (by kernel_rfl) ?_
  have key : ∀ (a0_0 : ByteArray) (a0_1 : Int) (a0_2 : Int) (a0_3 : ByteArray) (b1_0 : ByteArray) (b1_1 : Int) (b1_2 : Int) (b1_3 : ByteArray), ∃ it : It Res, (∀ c ∈ loopsOf (Try.f154.body.getD .skip), LoopOk E154 it c) ∧ body E154 it Try.f154 [(.v true [(.s a0_0), (.i .i64 a0_1), (.i .i64 a0_2), (.s a0_3)]), (.v true [(.s b1_0), (.i .i64 b1_1), (.i .i64 b1_2), (.s b1_3)])] = some ⟨[(.v false [(.b (Pu.laws_eqEntry.v a0_0 a0_1 a0_2 a0_3 b1_0 b1_1 b1_2 b1_3))])], []⟩ := by
    intro a0_0 a0_1 a0_2 a0_3 b1_0 b1_1 b1_2 b1_3 
    have hN := Pu.laws_eqEntry.b_eq (R := Res) (fun r0 => some ⟨[(.v false [(.b r0)])], []⟩) a0_0 a0_1 a0_2 a0_3 b1_0 b1_1 b1_2 b1_3
    have hl : loopsOf (Try.f154.body.getD .skip) = [] := by kernel_rfl
    refine ⟨iterN 0, by rw [hl]; exact loops_nil, ?_⟩
    refine Eq.trans (show body E154 (iterN 0) Try.f154 [(.v true [(.s a0_0), (.i .i64 a0_1), (.i .i64 a0_2), (.s a0_3)]), (.v true [(.s b1_0), (.i .i64 b1_1), (.i .i64 b1_2), (.s b1_3)])] = Pu.laws_eqEntry.b (fun r0 => some ⟨[(.v false [(.b r0)])], []⟩) a0_0 a0_1 a0_2 a0_3 b1_0 b1_1 b1_2 b1_3 by kernel_rfl) hN
  intro args r h
  unfold sp154 at h
  split at h
  · injection h with h
    injection h with h1 h2
    subst h2
    exact ⟨by kernel_rfl, fun hf => ⟨of_decide_eq_true (by kernel_rfl), key _ _ _ _ _ _ _ _⟩⟩
  · cases h

end Go.FG.Se

namespace Go.FG.Se
open Go.Proofs
def E77 : Env := { toTab := T, call := Go.FG.callIn [(154, sp154)], mode := Go.FG.modeIn md, keep := Go.FG.keepIn [(4, [0, 1, 4, 5])], tk := fun n => Go.FG.memB n [], om := Go.FG.omIn [] }
def it77 (N : Nat) {R : Type} : It R := fun rid f cn L K => bif Nat.beq rid 4 then (tell [(0, (.v (.v false [(.sh 25 [])]))), (2, (.v (.v false [(.sh 25 [])]))), (8, (.v (.v false [(.b false)]))), (10, (.v (.v false [(.i .i64 0)])))] (fun | [.R x0, .R x1, .B x2, .I x3] => Pu.laws_eqEntryS.l4 N (fun y0 y1 y2 y3 => (K .ret (tabl [(0, (.v (.v false [(.sh 25 y0)]))), (2, (.v (.v false [(.sh 25 y1)]))), (8, (.v (.v false [(.b y2)]))), (10, (.v (.v false [(.i .i64 y3)])))]))) (fun y0 y1 y2 y3 => (K (.exit 0) (tabl [(0, (.v (.v false [(.sh 25 y0)]))), (2, (.v (.v false [(.sh 25 y1)]))), (8, (.v (.v false [(.b y2)]))), (10, (.v (.v false [(.i .i64 y3)])))]))) N x0 x1 x2 x3 | _ => none) L (none)) else none
theorem e77_4 {R : Type} (N : Nat) (K : Ex → St → Option R) : ∀ n : Nat, (∀ x0 x1 x2 x3, iter (exc E77 (it77 N) (loopOf Try.f77 4)) (canon (E77.keep 4))  n (tabl [(0, (.v (.v false [(.sh 25 x0)]))), (2, (.v (.v false [(.sh 25 x1)]))), (8, (.v (.v false [(.b x2)]))), (10, (.v (.v false [(.i .i64 x3)])))]) K = Pu.laws_eqEntryS.l4 N (fun y0 y1 y2 y3 => (K .ret (tabl [(0, (.v (.v false [(.sh 25 y0)]))), (2, (.v (.v false [(.sh 25 y1)]))), (8, (.v (.v false [(.b y2)]))), (10, (.v (.v false [(.i .i64 y3)])))]))) (fun y0 y1 y2 y3 => (K (.exit 0) (tabl [(0, (.v (.v false [(.sh 25 y0)]))), (2, (.v (.v false [(.sh 25 y1)]))), (8, (.v (.v false [(.b y2)]))), (10, (.v (.v false [(.i .i64 y3)])))]))) n x0 x1 x2 x3) := by
  intro n
  induction n with
  | zero => exact (fun _ _ _ _ => rfl)
  | succ n ih =>
    have e0 : (fun x0 x1 x2 x3 => iter (exc E77 (it77 N) (loopOf Try.f77 4)) (canon (E77.keep 4))  n (tabl [(0, (.v (.v false [(.sh 25 x0)]))), (2, (.v (.v false [(.sh 25 x1)]))), (8, (.v (.v false [(.b x2)]))), (10, (.v (.v false [(.i .i64 x3)])))]) K) = Pu.laws_eqEntryS.l4 N (fun y0 y1 y2 y3 => (K .ret (tabl [(0, (.v (.v false [(.sh 25 y0)]))), (2, (.v (.v false [(.sh 25 y1)]))), (8, (.v (.v false [(.b y2)]))), (10, (.v (.v false [(.i .i64 y3)])))]))) (fun y0 y1 y2 y3 => (K (.exit 0) (tabl [(0, (.v (.v false [(.sh 25 y0)]))), (2, (.v (.v false [(.sh 25 y1)]))), (8, (.v (.v false [(.b y2)]))), (10, (.v (.v false [(.i .i64 y3)])))]))) n := by funext x0 x1 x2 x3; exact ih x0 x1 x2 x3
    intro x0 x1 x2 x3
    have h : ∀ g, exc E77 (it77 N) (loopOf Try.f77 4) (tabl [(0, (.v (.v false [(.sh 25 x0)]))), (2, (.v (.v false [(.sh 25 x1)]))), (8, (.v (.v false [(.b x2)]))), (10, (.v (.v false [(.i .i64 x3)])))]) (iterK g (canon (E77.keep 4)) K) = Pu.laws_eqEntryS.r4 N (fun x0 x1 x2 x3 => (g (tabl [(0, (.v (.v false [(.sh 25 x0)]))), (2, (.v (.v false [(.sh 25 x1)]))), (8, (.v (.v false [(.b x2)]))), (10, (.v (.v false [(.i .i64 x3)])))]))) (fun y0 y1 y2 y3 => (K .ret (tabl [(0, (.v (.v false [(.sh 25 y0)]))), (2, (.v (.v false [(.sh 25 y1)]))), (8, (.v (.v false [(.b y2)]))), (10, (.v (.v false [(.i .i64 y3)])))]))) (fun y0 y1 y2 y3 => (K (.exit 0) (tabl [(0, (.v (.v false [(.sh 25 y0)]))), (2, (.v (.v false [(.sh 25 y1)]))), (8, (.v (.v false [(.b y2)]))), (10, (.v (.v false [(.i .i64 y3)])))]))) x0 x1 x2 x3 := by intro g; kernel_rfl
    refine (h _).trans ?_
    show Pu.laws_eqEntryS.r4 N (fun x0 x1 x2 x3 => (iter (exc E77 (it77 N) (loopOf Try.f77 4)) (canon (E77.keep 4))  n (tabl [(0, (.v (.v false [(.sh 25 x0)]))), (2, (.v (.v false [(.sh 25 x1)]))), (8, (.v (.v false [(.b x2)]))), (10, (.v (.v false [(.i .i64 x3)])))]) K)) (fun y0 y1 y2 y3 => (K .ret (tabl [(0, (.v (.v false [(.sh 25 y0)]))), (2, (.v (.v false [(.sh 25 y1)]))), (8, (.v (.v false [(.b y2)]))), (10, (.v (.v false [(.i .i64 y3)])))]))) (fun y0 y1 y2 y3 => (K (.exit 0) (tabl [(0, (.v (.v false [(.sh 25 y0)]))), (2, (.v (.v false [(.sh 25 y1)]))), (8, (.v (.v false [(.b y2)]))), (10, (.v (.v false [(.i .i64 y3)])))]))) x0 x1 x2 x3 = _
    rw [e0]; rfl
theorem lo77_4 {R : Type} (N : Nat) : LoopOk E77 (it77 N (R := R)) (loopOf Try.f77 4) := by
  have e : firstRid (loopOf Try.f77 4) = 4 := by kernel_rfl
  intro L K r
  rw [e]
  intro h
  unfold it77 at h
  simp only [show Nat.beq 4 4 = true from rfl, cond_false, cond_true] at h
  refine tell_ok (Q := fun L => ∃ n, iter (exc E77 (it77 N) (loopOf Try.f77 4)) (canon (E77.keep 4)) n (tabl L) K = some r) h (fun xs h => ?_) (fun h => ?_)
  · (try dsimp only at h)
    split at h
    · exact ⟨N, ((e77_4 N K N) _ _ _ _).trans h⟩
    · cases h
  cases h
def sp77 : List Arg → Option (Bool × Res)
  | [(.v false [(.sh 25 a0)]), (.v false [(.sh 25 b1)])] => some (Pu.laws_eqEntryS.c a0 b1, ⟨[(.v false [(.b (Pu.laws_eqEntryS.v a0 b1))])], []⟩)
  | _ => none
theorem ok77 : FnOk Try.prog T 77 sp77 := by
  refine fn_ok (E := E77) hE (call_cons ok154 call_nil) hM Try.func77 (code := (Try.f77.body.getD .skip)) (by kernel_rfl) (by kernel_rfl) ?_
  have key : ∀ (a0 : Row) (b1 : Row), Pu.laws_eqEntryS.c a0 b1 = true → ∃ it : It Res, (∀ c ∈ loopsOf (Try.f77.body.getD .skip), LoopOk E77 it c) ∧ body E77 it Try.f77 [(.v false [(.sh 25 a0)]), (.v false [(.sh 25 b1)])] = some ⟨[(.v false [(.b (Pu.laws_eqEntryS.v a0 b1))])], []⟩ := by
    intro a0 b1  h1
    obtain ⟨N, hN⟩ := Pu.laws_eqEntryS.b_eq (R := Res) (fun r0 => some ⟨[(.v false [(.b r0)])], []⟩) a0 b1 h1
    have hl : loopsOf (Try.f77.body.getD .skip) = [loopOf Try.f77 4] := by kernel_rfl
    refine ⟨it77 N, by rw [hl]; exact (loops_cons (lo77_4 N) loops_nil), ?_⟩
    refine Eq.trans (show body E77 (it77 N) Try.f77 [(.v false [(.sh 25 a0)]), (.v false [(.sh 25 b1)])] = Pu.laws_eqEntryS.b N (fun r0 => some ⟨[(.v false [(.b r0)])], []⟩) a0 b1 by kernel_rfl) hN
  intro args r h
  unfold sp77 at h
  split at h
  · injection h with h
    injection h with h1 h2
    subst h2
    exact ⟨by kernel_rfl, fun hf => ⟨of_decide_eq_true (by kernel_rfl), key _ _ h1⟩⟩
  · cases h

end Go.FG.Se

namespace Go.FG.Se
open Go.Proofs
def E181 : Env := { toTab := T, call := Go.FG.callIn [], mode := Go.FG.modeIn md, keep := Go.FG.keepIn [(4, [0, 1, 4, 5])], tk := fun n => Go.FG.memB n [], om := Go.FG.omIn [] }
def it181 (N : Nat) {R : Type} : It R := fun rid f cn L K => bif Nat.beq rid 4 then (tell [(0, (.v (.v false [(.sh 9 [])]))), (2, (.v (.v false [(.sh 9 [])]))), (8, (.v (.v false [(.b false)]))), (10, (.v (.v false [(.i .i64 0)])))] (fun | [.R x0, .R x1, .B x2, .I x3] => Pu.laws_eqStringS.l4 N (fun y0 y1 y2 y3 => (K .ret (tabl [(0, (.v (.v false [(.sh 9 y0)]))), (2, (.v (.v false [(.sh 9 y1)]))), (8, (.v (.v false [(.b y2)]))), (10, (.v (.v false [(.i .i64 y3)])))]))) (fun y0 y1 y2 y3 => (K (.exit 0) (tabl [(0, (.v (.v false [(.sh 9 y0)]))), (2, (.v (.v false [(.sh 9 y1)]))), (8, (.v (.v false [(.b y2)]))), (10, (.v (.v false [(.i .i64 y3)])))]))) N x0 x1 x2 x3 | _ => none) L (none)) else none
theorem e181_4 {R : Type} (N : Nat) (K : Ex → St → Option R) : ∀ n : Nat, (∀ x0 x1 x2 x3, iter (exc E181 (it181 N) (loopOf Try.f181 4)) (canon (E181.keep 4))  n (tabl [(0, (.v (.v false [(.sh 9 x0)]))), (2, (.v (.v false [(.sh 9 x1)]))), (8, (.v (.v false [(.b x2)]))), (10, (.v (.v false [(.i .i64 x3)])))]) K = Pu.laws_eqStringS.l4 N (fun y0 y1 y2 y3 => (K .ret (tabl [(0, (.v (.v false [(.sh 9 y0)]))), (2, (.v (.v false [(.sh 9 y1)]))), (8, (.v (.v false [(.b y2)]))), (10, (.v (.v false [(.i .i64 y3)])))]))) (fun y0 y1 y2 y3 => (K (.exit 0) (tabl [(0, (.v (.v false [(.sh 9 y0)]))), (2, (.v (.v false [(.sh 9 y1)]))), (8, (.v (.v false [(.b y2)]))), (10, (.v (.v false [(.i .i64 y3)])))]))) n x0 x1 x2 x3) := by
  intro n
  induction n with
  | zero => exact (fun _ _ _ _ => rfl)
  | succ n ih =>
    have e0 : (fun x0 x1 x2 x3 => iter (exc E181 (it181 N) (loopOf Try.f181 4)) (canon (E181.keep 4))  n (tabl [(0, (.v (.v false [(.sh 9 x0)]))), (2, (.v (.v false [(.sh 9 x1)]))), (8, (.v (.v false [(.b x2)]))), (10, (.v (.v false [(.i .i64 x3)])))]) K) = Pu.laws_eqStringS.l4 N (fun y0 y1 y2 y3 => (K .ret (tabl [(0, (.v (.v false [(.sh 9 y0)]))), (2, (.v (.v false [(.sh 9 y1)]))), (8, (.v (.v false [(.b y2)]))), (10, (.v (.v false [(.i .i64 y3)])))]))) (fun y0 y1 y2 y3 => (K (.exit 0) (tabl [(0, (.v (.v false [(.sh 9 y0)]))), (2, (.v (.v false [(.sh 9 y1)]))), (8, (.v (.v false [(.b y2)]))), (10, (.v (.v false [(.i .i64 y3)])))]))) n := by funext x0 x1 x2 x3; exact ih x0 x1 x2 x3
    intro x0 x1 x2 x3
    have h : ∀ g, exc E181 (it181 N) (loopOf Try.f181 4) (tabl [(0, (.v (.v false [(.sh 9 x0)]))), (2, (.v (.v false [(.sh 9 x1)]))), (8, (.v (.v false [(.b x2)]))), (10, (.v (.v false [(.i .i64 x3)])))]) (iterK g (canon (E181.keep 4)) K) = Pu.laws_eqStringS.r4 N (fun x0 x1 x2 x3 => (g (tabl [(0, (.v (.v false [(.sh 9 x0)]))), (2, (.v (.v false [(.sh 9 x1)]))), (8, (.v (.v false [(.b x2)]))), (10, (.v (.v false [(.i .i64 x3)])))]))) (fun y0 y1 y2 y3 => (K .ret (tabl [(0, (.v (.v false [(.sh 9 y0)]))), (2, (.v (.v false [(.sh 9 y1)]))), (8, (.v (.v false [(.b y2)]))), (10, (.v (.v false [(.i .i64 y3)])))]))) (fun y0 y1 y2 y3 => (K (.exit 0) (tabl [(0, (.v (.v false [(.sh 9 y0)]))), (2, (.v (.v false [(.sh 9 y1)]))), (8, (.v (.v false [(.b y2)]))), (10, (.v (.v false [(.i .i64 y3)])))]))) x0 x1 x2 x3 := by intro g; kernel_rfl
    refine (h _).trans ?_
    show Pu.laws_eqStringS.r4 N (fun x0 x1 x2 x3 => (iter (exc E181 (it181 N) (loopOf Try.f181 4)) (canon (E181.keep 4))  n (tabl [(0, (.v (.v false [(.sh 9 x0)]))), (2, (.v (.v false [(.sh 9 x1)]))), (8, (.v (.v false [(.b x2)]))), (10, (.v (.v false [(.i .i64 x3)])))]) K)) (fun y0 y1 y2 y3 => (K .ret (tabl [(0, (.v (.v false [(.sh 9 y0)]))), (2, (.v (.v false [(.sh 9 y1)]))), (8, (.v (.v false [(.b y2)]))), (10, (.v (.v false [(.i .i64 y3)])))]))) (fun y0 y1 y2 y3 => (K (.exit 0) (tabl [(0, (.v (.v false [(.sh 9 y0)]))), (2, (.v (.v false [(.sh 9 y1)]))), (8, (.v (.v false [(.b y2)]))), (10, (.v (.v false [(.i .i64 y3)])))]))) x0 x1 x2 x3 = _
    rw [e0]; rfl
theorem lo181_4 {R : Type} (N : Nat) : LoopOk E181 (it181 N (R := R)) (loopOf Try.f181 4) := by
  have e : firstRid (loopOf Try.f181 4) = 4 := by kernel_rfl
  intro L K r
  rw [e]
  intro h
  unfold it181 at h
  simp only [show Nat.beq 4 4 = true from rfl, cond_false, cond_true] at h
  refine tell_ok (Q := fun L => ∃ n, iter (exc E181 (it181 N) (loopOf Try.f181 4)) (canon (E181.keep 4)) n (tabl L) K = some r) h (fun xs h => ?_) (fun h => ?_)
  · (try dsimp only at h)
    split at h
    · exact ⟨N, ((e181_4 N K N) _ _ _ _).trans h⟩
    · cases h
  cases h
def sp181 : List Arg → Option (Bool × Res)
  | [(.v false [(.sh 9 a0)]), (.v false [(.sh 9 b1)])] => some (Pu.laws_eqStringS.c a0 b1, ⟨[(.v false [(.b (Pu.laws_eqStringS.v a0 b1))])], []⟩)
  | _ => none
theorem ok181 : FnOk Try.prog T 181 sp181 := by
  refine fn_ok (E := E181) hE call_nil hM Try.func181 (code := (Try.f181.body.getD .skip)) (by kernel_rfl) (by kernel_rfl) ?_
  have key : ∀ (a0 : Row) (b1 : Row), Pu.laws_eqStringS.c a0 b1 = true → ∃ it : It Res, (∀ c ∈ loopsOf (Try.f181.body.getD .skip), LoopOk E181 it c) ∧ body E181 it Try.f181 [(.v false [(.sh 9 a0)]), (.v false [(.sh 9 b1)])] = some ⟨[(.v false [(.b (Pu.laws_eqStringS.v a0 b1))])], []⟩ := by
    intro a0 b1  h1
    obtain ⟨N, hN⟩ := Pu.laws_eqStringS.b_eq (R := Res) (fun r0 => some ⟨[(.v false [(.b r0)])], []⟩) a0 b1 h1
    have hl : loopsOf (Try.f181.body.getD .skip) = [loopOf Try.f181 4] := by kernel_rfl
    refine ⟨it181 N, by rw [hl]; exact (loops_cons (lo181_4 N) loops_nil), ?_⟩
    refine Eq.trans (show body E181 (it181 N) Try.f181 [(.v false [(.sh 9 a0)]), (.v false [(.sh 9 b1)])] = Pu.laws_eqStringS.b N (fun r0 => some ⟨[(.v false [(.b r0)])], []⟩) a0 b1 by kernel_rfl) hN
  intro args r h
  unfold sp181 at h
  split at h
  · injection h with h
    injection h with h1 h2
    subst h2
    exact ⟨by kernel_rfl, fun hf => ⟨of_decide_eq_true (by kernel_rfl), key _ _ h1⟩⟩
  · cases h

end Go.FG.Se

namespace Go.FG.Se
open Go.Proofs
def E160 : Env := { toTab := T, call := Go.FG.callIn [], mode := Go.FG.modeIn md, keep := Go.FG.keepIn [(4, [0, 1, 4, 5])], tk := fun n => Go.FG.memB n [], om := Go.FG.omIn [] }
def it160 (N : Nat) {R : Type} : It R := fun rid f cn L K => bif Nat.beq rid 4 then (tell [(0, (.v (.v false [(.sh 3 [])]))), (2, (.v (.v false [(.sh 3 [])]))), (8, (.v (.v false [(.b false)]))), (10, (.v (.v false [(.i .i64 0)])))] (fun | [.R x0, .R x1, .B x2, .I x3] => Pu.laws_eqIntS.l4 N (fun y0 y1 y2 y3 => (K .ret (tabl [(0, (.v (.v false [(.sh 3 y0)]))), (2, (.v (.v false [(.sh 3 y1)]))), (8, (.v (.v false [(.b y2)]))), (10, (.v (.v false [(.i .i64 y3)])))]))) (fun y0 y1 y2 y3 => (K (.exit 0) (tabl [(0, (.v (.v false [(.sh 3 y0)]))), (2, (.v (.v false [(.sh 3 y1)]))), (8, (.v (.v false [(.b y2)]))), (10, (.v (.v false [(.i .i64 y3)])))]))) N x0 x1 x2 x3 | _ => none) L (none)) else none
theorem e160_4 {R : Type} (N : Nat) (K : Ex → St → Option R) : ∀ n : Nat, (∀ x0 x1 x2 x3, iter (exc E160 (it160 N) (loopOf Try.f160 4)) (canon (E160.keep 4))  n (tabl [(0, (.v (.v false [(.sh 3 x0)]))), (2, (.v (.v false [(.sh 3 x1)]))), (8, (.v (.v false [(.b x2)]))), (10, (.v (.v false [(.i .i64 x3)])))]) K = Pu.laws_eqIntS.l4 N (fun y0 y1 y2 y3 => (K .ret (tabl [(0, (.v (.v false [(.sh 3 y0)]))), (2, (.v (.v false [(.sh 3 y1)]))), (8, (.v (.v false [(.b y2)]))), (10, (.v (.v false [(.i .i64 y3)])))]))) (fun y0 y1 y2 y3 => (K (.exit 0) (tabl [(0, (.v (.v false [(.sh 3 y0)]))), (2, (.v (.v false [(.sh 3 y1)]))), (8, (.v (.v false [(.b y2)]))), (10, (.v (.v false [(.i .i64 y3)])))]))) n x0 x1 x2 x3) := by
  intro n
  induction n with
  | zero => exact (fun _ _ _ _ => rfl)
  | succ n ih =>
    have e0 : (fun x0 x1 x2 x3 => iter (exc E160 (it160 N) (loopOf Try.f160 4)) (canon (E160.keep 4))  n (tabl [(0, (.v (.v false [(.sh 3 x0)]))), (2, (.v (.v false [(.sh 3 x1)]))), (8, (.v (.v false [(.b x2)]))), (10, (.v (.v false [(.i .i64 x3)])))]) K) = Pu.laws_eqIntS.l4 N (fun y0 y1 y2 y3 => (K .ret (tabl [(0, (.v (.v false [(.sh 3 y0)]))), (2, (.v (.v false [(.sh 3 y1)]))), (8, (.v (.v false [(.b y2)]))), (10, (.v (.v false [(.i .i64 y3)])))]))) (fun y0 y1 y2 y3 => (K (.exit 0) (tabl [(0, (.v (.v false [(.sh 3 y0)]))), (2, (.v (.v false [(.sh 3 y1)]))), (8, (.v (.v false [(.b y2)]))), (10, (.v (.v false [(.i .i64 y3)])))]))) n := by funext x0 x1 x2 x3; exact ih x0 x1 x2 x3
    intro x0 x1 x2 x3
    have h : ∀ g, exc E160 (it160 N) (loopOf Try.f160 4) (tabl [(0, (.v (.v false [(.sh 3 x0)]))), (2, (.v (.v false [(.sh 3 x1)]))), (8, (.v (.v false [(.b x2)]))), (10, (.v (.v false [(.i .i64 x3)])))]) (iterK g (canon (E160.keep 4)) K) = Pu.laws_eqIntS.r4 N (fun x0 x1 x2 x3 => (g (tabl [(0, (.v (.v false [(.sh 3 x0)]))), (2, (.v (.v false [(.sh 3 x1)]))), (8, (.v (.v false [(.b x2)]))), (10, (.v (.v false [(.i .i64 x3)])))]))) (fun y0 y1 y2 y3 => (K .ret (tabl [(0, (.v (.v false [(.sh 3 y0)]))), (2, (.v (.v false [(.sh 3 y1)]))), (8, (.v (.v false [(.b y2)]))), (10, (.v (.v false [(.i .i64 y3)])))]))) (fun y0 y1 y2 y3 => (K (.exit 0) (tabl [(0, (.v (.v false [(.sh 3 y0)]))), (2, (.v (.v false [(.sh 3 y1)]))), (8, (.v (.v false [(.b y2)]))), (10, (.v (.v false [(.i .i64 y3)])))]))) x0 x1 x2 x3 := by intro g; kernel_rfl
    refine (h _).trans ?_
    show Pu.laws_eqIntS.r4 N (fun x0 x1 x2 x3 => (iter (exc E160 (it160 N) (loopOf Try.f160 4)) (canon (E160.keep 4))  n (tabl [(0, (.v (.v false [(.sh 3 x0)]))), (2, (.v (.v false [(.sh 3 x1)]))), (8, (.v (.v false [(.b x2)]))), (10, (.v (.v false [(.i .i64 x3)])))]) K)) (fun y0 y1 y2 y3 => (K .ret (tabl [(0, (.v (.v false [(.sh 3 y0)]))), (2, (.v (.v false [(.sh 3 y1)]))), (8, (.v (.v false [(.b y2)]))), (10, (.v (.v false [(.i .i64 y3)])))]))) (fun y0 y1 y2 y3 => (K (.exit 0) (tabl [(0, (.v (.v false [(.sh 3 y0)]))), (2, (.v (.v false [(.sh 3 y1)]))), (8, (.v (.v false [(.b y2)]))), (10, (.v (.v false [(.i .i64 y3)])))]))) x0 x1 x2 x3 = _
    rw [e0]; rfl
theorem lo160_4 {R : Type} (N : Nat) : LoopOk E160 (it160 N (R := R)) (loopOf Try.f160 4) := by
  have e : firstRid (loopOf Try.f160 4) = 4 := by kernel_rfl
  intro L K r
  rw [e]
  intro h
  unfold it160 at h
  simp only [show Nat.beq 4 4 = true from rfl, cond_false, cond_true] at h
  refine tell_ok (Q := fun L => ∃ n, iter (exc E160 (it160 N) (loopOf Try.f160 4)) (canon (E160.keep 4)) n (tabl L) K = some r) h (fun xs h => ?_) (fun h => ?_)
  · (try dsimp only at h)
    split at h
    · exact ⟨N, ((e160_4 N K N) _ _ _ _).trans h⟩
    · cases h
  cases h
def sp160 : List Arg → Option (Bool × Res)
  | [(.v false [(.sh 3 a0)]), (.v false [(.sh 3 b1)])] => some (true, ⟨[(.v false [(.b (Pu.laws_eqIntS.v a0 b1))])], []⟩)
  | _ => none
theorem ok160 : FnOk Try.prog T 160 sp160 := by
  refine fn_ok (E := E160) hE call_nil hM Try.func160 (code := (Try.f160.body.getD .skip)) (by kernel_rfl) (by kernel_rfl) ?_
  have key : ∀ (a0 : Row) (b1 : Row), FitR a0 → FitR b1 → ∃ it : It Res, (∀ c ∈ loopsOf (Try.f160.body.getD .skip), LoopOk E160 it c) ∧ body E160 it Try.f160 [(.v false [(.sh 3 a0)]), (.v false [(.sh 3 b1)])] = some ⟨[(.v false [(.b (Pu.laws_eqIntS.v a0 b1))])], []⟩ := by
    intro a0 b1  g0 g1
    obtain ⟨N, hN⟩ := Pu.laws_eqIntS.b_eq (R := Res) (fun r0 => some ⟨[(.v false [(.b r0)])], []⟩) a0 b1 g0 g1
    have hl : loopsOf (Try.f160.body.getD .skip) = [loopOf Try.f160 4] := by kernel_rfl
    refine ⟨it160 N, by rw [hl]; exact (loops_cons (lo160_4 N) loops_nil), ?_⟩
    refine Eq.trans (show body E160 (it160 N) Try.f160 [(.v false [(.sh 3 a0)]), (.v false [(.sh 3 b1)])] = Pu.laws_eqIntS.b N (fun r0 => some ⟨[(.v false [(.b r0)])], []⟩) a0 b1 by kernel_rfl) hN
  intro args r h
  unfold sp160 at h
  split at h
  · injection h with h
    injection h with h1 h2
    subst h2
    exact ⟨by kernel_rfl, fun hf => ⟨of_decide_eq_true (by kernel_rfl), key _ _ hf.1.1 hf.2.1.1⟩⟩
  · cases h

end Go.FG.Se

namespace Go.FG.Se
open Go.Proofs
def E211 : Env := { toTab := T, call := Go.FG.callIn [(160, sp160)], mode := Go.FG.modeIn md, keep := Go.FG.keepIn [(4, [0, 1, 4, 5])], tk := fun n => Go.FG.memB n [], om := Go.FG.omIn [] }
def it211 (N : Nat) {R : Type} : It R := fun rid f cn L K => bif Nat.beq rid 4 then (tell [(0, (.v (.v false [(.sh 49 [])]))), (2, (.v (.v false [(.sh 49 [])]))), (8, (.v (.v false [(.b false)]))), (10, (.v (.v false [(.i .i64 0)])))] (fun | [.R x0, .R x1, .B x2, .I x3] => Pu.laws_eqIntSS.l4 N (fun y0 y1 y2 y3 => (K .ret (tabl [(0, (.v (.v false [(.sh 49 y0)]))), (2, (.v (.v false [(.sh 49 y1)]))), (8, (.v (.v false [(.b y2)]))), (10, (.v (.v false [(.i .i64 y3)])))]))) (fun y0 y1 y2 y3 => (K (.exit 0) (tabl [(0, (.v (.v false [(.sh 49 y0)]))), (2, (.v (.v false [(.sh 49 y1)]))), (8, (.v (.v false [(.b y2)]))), (10, (.v (.v false [(.i .i64 y3)])))]))) N x0 x1 x2 x3 | _ => none) L (none)) else none
theorem e211_4 {R : Type} (N : Nat) (K : Ex → St → Option R) : ∀ n : Nat, (∀ x0 x1 x2 x3, iter (exc E211 (it211 N) (loopOf Try.f211 4)) (canon (E211.keep 4))  n (tabl [(0, (.v (.v false [(.sh 49 x0)]))), (2, (.v (.v false [(.sh 49 x1)]))), (8, (.v (.v false [(.b x2)]))), (10, (.v (.v false [(.i .i64 x3)])))]) K = Pu.laws_eqIntSS.l4 N (fun y0 y1 y2 y3 => (K .ret (tabl [(0, (.v (.v false [(.sh 49 y0)]))), (2, (.v (.v false [(.sh 49 y1)]))), (8, (.v (.v false [(.b y2)]))), (10, (.v (.v false [(.i .i64 y3)])))]))) (fun y0 y1 y2 y3 => (K (.exit 0) (tabl [(0, (.v (.v false [(.sh 49 y0)]))), (2, (.v (.v false [(.sh 49 y1)]))), (8, (.v (.v false [(.b y2)]))), (10, (.v (.v false [(.i .i64 y3)])))]))) n x0 x1 x2 x3) := by
  intro n
  induction n with
  | zero => exact (fun _ _ _ _ => rfl)
  | succ n ih =>
    have e0 : (fun x0 x1 x2 x3 => iter (exc E211 (it211 N) (loopOf Try.f211 4)) (canon (E211.keep 4))  n (tabl [(0, (.v (.v false [(.sh 49 x0)]))), (2, (.v (.v false [(.sh 49 x1)]))), (8, (.v (.v false [(.b x2)]))), (10, (.v (.v false [(.i .i64 x3)])))]) K) = Pu.laws_eqIntSS.l4 N (fun y0 y1 y2 y3 => (K .ret (tabl [(0, (.v (.v false [(.sh 49 y0)]))), (2, (.v (.v false [(.sh 49 y1)]))), (8, (.v (.v false [(.b y2)]))), (10, (.v (.v false [(.i .i64 y3)])))]))) (fun y0 y1 y2 y3 => (K (.exit 0) (tabl [(0, (.v (.v false [(.sh 49 y0)]))), (2, (.v (.v false [(.sh 49 y1)]))), (8, (.v (.v false [(.b y2)]))), (10, (.v (.v false [(.i .i64 y3)])))]))) n := by funext x0 x1 x2 x3; exact ih x0 x1 x2 x3
    intro x0 x1 x2 x3
    have h : ∀ g, exc E211 (it211 N) (loopOf Try.f211 4) (tabl [(0, (.v (.v false [(.sh 49 x0)]))), (2, (.v (.v false [(.sh 49 x1)]))), (8, (.v (.v false [(.b x2)]))), (10, (.v (.v false [(.i .i64 x3)])))]) (iterK g (canon (E211.keep 4)) K) = Pu.laws_eqIntSS.r4 N (fun x0 x1 x2 x3 => (g (tabl [(0, (.v (.v false [(.sh 49 x0)]))), (2, (.v (.v false [(.sh 49 x1)]))), (8, (.v (.v false [(.b x2)]))), (10, (.v (.v false [(.i .i64 x3)])))]))) (fun y0 y1 y2 y3 => (K .ret (tabl [(0, (.v (.v false [(.sh 49 y0)]))), (2, (.v (.v false [(.sh 49 y1)]))), (8, (.v (.v false [(.b y2)]))), (10, (.v (.v false [(.i .i64 y3)])))]))) (fun y0 y1 y2 y3 => (K (.exit 0) (tabl [(0, (.v (.v false [(.sh 49 y0)]))), (2, (.v (.v false [(.sh 49 y1)]))), (8, (.v (.v false [(.b y2)]))), (10, (.v (.v false [(.i .i64 y3)])))]))) x0 x1 x2 x3 := by intro g; kernel_rfl
    refine (h _).trans ?_
    show Pu.laws_eqIntSS.r4 N (fun x0 x1 x2 x3 => (iter (exc E211 (it211 N) (loopOf Try.f211 4)) (canon (E211.keep 4))  n (tabl [(0, (.v (.v false [(.sh 49 x0)]))), (2, (.v (.v false [(.sh 49 x1)]))), (8, (.v (.v false [(.b x2)]))), (10, (.v (.v false [(.i .i64 x3)])))]) K)) (fun y0 y1 y2 y3 => (K .ret (tabl [(0, (.v (.v false [(.sh 49 y0)]))), (2, (.v (.v false [(.sh 49 y1)]))), (8, (.v (.v false [(.b y2)]))), (10, (.v (.v false [(.i .i64 y3)])))]))) (fun y0 y1 y2 y3 => (K (.exit 0) (tabl [(0, (.v (.v false [(.sh 49 y0)]))), (2, (.v (.v false [(.sh 49 y1)]))), (8, (.v (.v false [(.b y2)]))), (10, (.v (.v false [(.i .i64 y3)])))]))) x0 x1 x2 x3 = _
    rw [e0]; rfl
theorem lo211_4 {R : Type} (N : Nat) : LoopOk E211 (it211 N (R := R)) (loopOf Try.f211 4) := by
  have e : firstRid (loopOf Try.f211 4) = 4 := by kernel_rfl
  intro L K r
  rw [e]
  intro h
  unfold it211 at h
  simp only [show Nat.beq 4 4 = true from rfl, cond_false, cond_true] at h
  refine tell_ok (Q := fun L => ∃ n, iter (exc E211 (it211 N) (loopOf Try.f211 4)) (canon (E211.keep 4)) n (tabl L) K = some r) h (fun xs h => ?_) (fun h => ?_)
  · (try dsimp only at h)
    split at h
    · exact ⟨N, ((e211_4 N K N) _ _ _ _).trans h⟩
    · cases h
  cases h
def sp211 : List Arg → Option (Bool × Res)
  | [(.v false [(.sh 49 a0)]), (.v false [(.sh 49 b1)])] => some (Pu.laws_eqIntSS.c a0 b1, ⟨[(.v false [(.b (Pu.laws_eqIntSS.v a0 b1))])], []⟩)
  | _ => none
theorem ok211 : FnOk Try.prog T 211 sp211 := by
  refine fn_ok (E := E211) hE (call_cons ok160 call_nil) hM Try.func211 (code := (Try.f211.body.getD .skip)) (by kernel_rfl) (by kernel_rfl) ?_
  have key : ∀ (a0 : Row) (b1 : Row), Pu.laws_eqIntSS.c a0 b1 = true → ∃ it : It Res, (∀ c ∈ loopsOf (Try.f211.body.getD .skip), LoopOk E211 it c) ∧ body E211 it Try.f211 [(.v false [(.sh 49 a0)]), (.v false [(.sh 49 b1)])] = some ⟨[(.v false [(.b (Pu.laws_eqIntSS.v a0 b1))])], []⟩ := by
    intro a0 b1  h1
    obtain ⟨N, hN⟩ := Pu.laws_eqIntSS.b_eq (R := Res) (fun r0 => some ⟨[(.v false [(.b r0)])], []⟩) a0 b1 h1
    have hl : loopsOf (Try.f211.body.getD .skip) = [loopOf Try.f211 4] := by kernel_rfl
    refine ⟨it211 N, by rw [hl]; exact (loops_cons (lo211_4 N) loops_nil), ?_⟩
    refine Eq.trans (show body E211 (it211 N) Try.f211 [(.v false [(.sh 49 a0)]), (.v false [(.sh 49 b1)])] = Pu.laws_eqIntSS.b N (fun r0 => some ⟨[(.v false [(.b r0)])], []⟩) a0 b1 by kernel_rfl) hN
  intro args r h
  unfold sp211 at h
  split at h
  · injection h with h
    injection h with h1 h2
    subst h2
    exact ⟨by kernel_rfl, fun hf => ⟨of_decide_eq_true (by kernel_rfl), key _ _ h1⟩⟩
  · cases h

end Go.FG.Se

namespace Go.FG.Se
open Go.Proofs
def E182 : Env := { toTab := T, call := Go.FG.callIn [(211, sp211)], mode := Go.FG.modeIn md, keep := Go.FG.keepIn [], tk := fun n => Go.FG.memB n [], om := Go.FG.omIn [] }
def sp182 : List Arg → Option (Bool × Res)
  | [(.v true [(.sh 49 a0_0), (.i .i64 a0_1)]), (.v true [(.sh 49 b1_0), (.i .i64 b1_1)])] => some (Pu.laws_eqSketch.c a0_0 a0_1 b1_0 b1_1, ⟨[(.v false [(.b (Pu.laws_eqSketch.v a0_0 a0_1 b1_0 b1_1))])], []⟩)
  | _ => none
theorem ok182 : FnOk Try.prog T 182 sp182 := by
  refine fn_ok (E := E182) hE (call_cons ok211 call_nil) hM Try.func182 (code := (Try.f182.body.getD .skip)) (by kernel_rfl) (by kernel_rfl) ?_
  have key : ∀ (a0_0 : Row) (a0_1 : Int) (b1_0 : Row) (b1_1 : Int), Pu.laws_eqSketch.c a0_0 a0_1 b1_0 b1_1 = true → ∃ it : It Res, (∀ c ∈ loopsOf (Try.f182.body.getD .skip), LoopOk E182 it c) ∧ body E182 it Try.f182 [(.v true [(.sh 49 a0_0), (.i .i64 a0_1)]), (.v true [(.sh 49 b1_0), (.i .i64 b1_1)])] = some ⟨[(.v false [(.b (Pu.laws_eqSketch.v a0_0 a0_1 b1_0 b1_1))])], []⟩ := by
    intro a0_0 a0_1 b1_0 b1_1  h1
    have hN := Pu.laws_eqSketch.b_eq (R := Res) (fun r0 => some ⟨[(.v false [(.b r0)])], []⟩) a0_0 a0_1 b1_0 b1_1 h1
    have hl : loopsOf (Try.f182.body.getD .skip) = [] := by kernel_rfl
    refine ⟨iterN 0, by rw [hl]; exact loops_nil, ?_⟩
    refine Eq.trans (show body E182 (iterN 0) Try.f182 [(.v true [(.sh 49 a0_0), (.i .i64 a0_1)]), (.v true [(.sh 49 b1_0), (.i .i64 b1_1)])] = Pu.laws_eqSketch.b (fun r0 => some ⟨[(.v false [(.b r0)])], []⟩) a0_0 a0_1 b1_0 b1_1 by kernel_rfl) hN
  intro args r h
  unfold sp182 at h
  split at h
  · injection h with h
    injection h with h1 h2
    subst h2
    exact ⟨by kernel_rfl, fun hf => ⟨of_decide_eq_true (by kernel_rfl), key _ _ _ _ h1⟩⟩
  · cases h

end Go.FG.Se

namespace Go.FG.Se
open Go.Proofs
def E131 : Env := { toTab := T, call := Go.FG.callIn [(181, sp181), (182, sp182)], mode := Go.FG.modeIn md, keep := Go.FG.keepIn [], tk := fun n => Go.FG.memB n [], om := Go.FG.omIn [] }
def sp131 : List Arg → Option (Bool × Res)
  | [(.v true [(.sh 9 a0_0), (.sh 9 a0_1), (.sh 49 a0_2), (.i .i64 a0_3)]), (.v true [(.sh 9 b1_0), (.sh 9 b1_1), (.sh 49 b1_2), (.i .i64 b1_3)])] => some (Pu.laws_eqPolicy.c a0_0 a0_1 a0_2 a0_3 b1_0 b1_1 b1_2 b1_3, ⟨[(.v false [(.b (Pu.laws_eqPolicy.v a0_0 a0_1 a0_2 a0_3 b1_0 b1_1 b1_2 b1_3))])], []⟩)
  | _ => none
theorem ok131 : FnOk Try.prog T 131 sp131 := by
  refine fn_ok (E := E131) hE (call_cons ok181 (call_cons ok182 call_nil)) hM Try.func131 (code := (Try.f131.body.getD .skip)) (by kernel_rfl) (by kernel_rfl) ?_
  have key : ∀ (a0_0 : Row) (a0_1 : Row) (a0_2 : Row) (a0_3 : Int) (b1_0 : Row) (b1_1 : Row) (b1_2 : Row) (b1_3 : Int), Pu.laws_eqPolicy.c a0_0 a0_1 a0_2 a0_3 b1_0 b1_1 b1_2 b1_3 = true → ∃ it : It Res, (∀ c ∈ loopsOf (Try.f131.body.getD .skip), LoopOk E131 it c) ∧ body E131 it Try.f131 [(.v true [(.sh 9 a0_0), (.sh 9 a0_1), (.sh 49 a0_2), (.i .i64 a0_3)]), (.v true [(.sh 9 b1_0), (.sh 9 b1_1), (.sh 49 b1_2), (.i .i64 b1_3)])] = some ⟨[(.v false [(.b (Pu.laws_eqPolicy.v a0_0 a0_1 a0_2 a0_3 b1_0 b1_1 b1_2 b1_3))])], []⟩ := by
    intro a0_0 a0_1 a0_2 a0_3 b1_0 b1_1 b1_2 b1_3  h1
    have hN := Pu.laws_eqPolicy.b_eq (R := Res) (fun r0 => some ⟨[(.v false [(.b r0)])], []⟩) a0_0 a0_1 a0_2 a0_3 b1_0 b1_1 b1_2 b1_3 h1
    have hl : loopsOf (Try.f131.body.getD .skip) = [] := by kernel_rfl
    refine ⟨iterN 0, by rw [hl]; exact loops_nil, ?_⟩
    refine Eq.trans (show body E131 (iterN 0) Try.f131 [(.v true [(.sh 9 a0_0), (.sh 9 a0_1), (.sh 49 a0_2), (.i .i64 a0_3)]), (.v true [(.sh 9 b1_0), (.sh 9 b1_1), (.sh 49 b1_2), (.i .i64 b1_3)])] = Pu.laws_eqPolicy.b (fun r0 => some ⟨[(.v false [(.b r0)])], []⟩) a0_0 a0_1 a0_2 a0_3 b1_0 b1_1 b1_2 b1_3 by kernel_rfl) hN
  intro args r h
  unfold sp131 at h
  split at h
  · injection h with h
    injection h with h1 h2
    subst h2
    exact ⟨by kernel_rfl, fun hf => ⟨of_decide_eq_true (by kernel_rfl), key _ _ _ _ _ _ _ _ h1⟩⟩
  · cases h

end Go.FG.Se

namespace Go.FG.Se
open Go.Proofs
def E183 : Env := { toTab := T, call := Go.FG.callIn [], mode := Go.FG.modeIn md, keep := Go.FG.keepIn [], tk := fun n => Go.FG.memB n [], om := Go.FG.omIn [] }
def sp183 : List Arg → Option (Bool × Res)
  | [(.v true [(.s a0_0), (.s a0_1), (.i .i64 a0_2), (.i .i64 a0_3), (.i .i64 a0_4)]), (.v true [(.s b1_0), (.s b1_1), (.i .i64 b1_2), (.i .i64 b1_3), (.i .i64 b1_4)])] => some (true, ⟨[(.v false [(.b (Pu.laws_eqFetch.v a0_0 a0_1 a0_2 a0_3 a0_4 b1_0 b1_1 b1_2 b1_3 b1_4))])], []⟩)
  | _ => none
theorem ok183 : FnOk Try.prog T 183 sp183 := by
  refine fn_ok (E := E183) hE call_nil hM Try.func183 (code := (Try.f183.body.getD .skip)) (by kernel_rfl) (by kernel_rfl) ?_
  have key : ∀ (a0_0 : ByteArray) (a0_1 : ByteArray) (a0_2 : Int) (a0_3 : Int) (a0_4 : Int) (b1_0 : ByteArray) (b1_1 : ByteArray) (b1_2 : Int) (b1_3 : Int) (b1_4 : Int), ∃ it : It Res, (∀ c ∈ loopsOf (Try.f183.body.getD .skip), LoopOk E183 it c) ∧ body E183 it Try.f183 [(.v true [(.s a0_0), (.s a0_1), (.i .i64 a0_2), (.i .i64 a0_3), (.i .i64 a0_4)]), (.v true [(.s b1_0), (.s b1_1), (.i .i64 b1_2), (.i .i64 b1_3), (.i .i64 b1_4)])] = some ⟨[(.v false [(.b (Pu.laws_eqFetch.v a0_0 a0_1 a0_2 a0_3 a0_4 b1_0 b1_1 b1_2 b1_3 b1_4))])], []⟩ := by
    intro a0_0 a0_1 a0_2 a0_3 a0_4 b1_0 b1_1 b1_2 b1_3 b1_4 
    have hN := Pu.laws_eqFetch.b_eq (R := Res) (fun r0 => some ⟨[(.v false [(.b r0)])], []⟩) a0_0 a0_1 a0_2 a0_3 a0_4 b1_0 b1_1 b1_2 b1_3 b1_4
    have hl : loopsOf (Try.f183.body.getD .skip) = [] := by kernel_rfl
    refine ⟨iterN 0, by rw [hl]; exact loops_nil, ?_⟩
    refine Eq.trans (show body E183 (iterN 0) Try.f183 [(.v true [(.s a0_0), (.s a0_1), (.i .i64 a0_2), (.i .i64 a0_3), (.i .i64 a0_4)]), (.v true [(.s b1_0), (.s b1_1), (.i .i64 b1_2), (.i .i64 b1_3), (.i .i64 b1_4)])] = Pu.laws_eqFetch.b (fun r0 => some ⟨[(.v false [(.b r0)])], []⟩) a0_0 a0_1 a0_2 a0_3 a0_4 b1_0 b1_1 b1_2 b1_3 b1_4 by kernel_rfl) hN
  intro args r h
  unfold sp183 at h
  split at h
  · injection h with h
    injection h with h1 h2
    subst h2
    exact ⟨by kernel_rfl, fun hf => ⟨of_decide_eq_true (by kernel_rfl), key _ _ _ _ _ _ _ _ _ _⟩⟩
  · cases h

end Go.FG.Se

namespace Go.FG.Se
open Go.Proofs
def E132 : Env := { toTab := T, call := Go.FG.callIn [(183, sp183)], mode := Go.FG.modeIn md, keep := Go.FG.keepIn [(4, [0, 1, 4, 5])], tk := fun n => Go.FG.memB n [], om := Go.FG.omIn [] }
def it132 (N : Nat) {R : Type} : It R := fun rid f cn L K => bif Nat.beq rid 4 then (tell [(0, (.v (.v false [(.sh 175 [])]))), (2, (.v (.v false [(.sh 175 [])]))), (8, (.v (.v false [(.b false)]))), (10, (.v (.v false [(.i .i64 0)])))] (fun | [.R x0, .R x1, .B x2, .I x3] => Pu.laws_eqFetchS.l4 N (fun y0 y1 y2 y3 => (K .ret (tabl [(0, (.v (.v false [(.sh 175 y0)]))), (2, (.v (.v false [(.sh 175 y1)]))), (8, (.v (.v false [(.b y2)]))), (10, (.v (.v false [(.i .i64 y3)])))]))) (fun y0 y1 y2 y3 => (K (.exit 0) (tabl [(0, (.v (.v false [(.sh 175 y0)]))), (2, (.v (.v false [(.sh 175 y1)]))), (8, (.v (.v false [(.b y2)]))), (10, (.v (.v false [(.i .i64 y3)])))]))) N x0 x1 x2 x3 | _ => none) L (none)) else none
theorem e132_4 {R : Type} (N : Nat) (K : Ex → St → Option R) : ∀ n : Nat, (∀ x0 x1 x2 x3, iter (exc E132 (it132 N) (loopOf Try.f132 4)) (canon (E132.keep 4))  n (tabl [(0, (.v (.v false [(.sh 175 x0)]))), (2, (.v (.v false [(.sh 175 x1)]))), (8, (.v (.v false [(.b x2)]))), (10, (.v (.v false [(.i .i64 x3)])))]) K = Pu.laws_eqFetchS.l4 N (fun y0 y1 y2 y3 => (K .ret (tabl [(0, (.v (.v false [(.sh 175 y0)]))), (2, (.v (.v false [(.sh 175 y1)]))), (8, (.v (.v false [(.b y2)]))), (10, (.v (.v false [(.i .i64 y3)])))]))) (fun y0 y1 y2 y3 => (K (.exit 0) (tabl [(0, (.v (.v false [(.sh 175 y0)]))), (2, (.v (.v false [(.sh 175 y1)]))), (8, (.v (.v false [(.b y2)]))), (10, (.v (.v false [(.i .i64 y3)])))]))) n x0 x1 x2 x3) := by
  intro n
  induction n with
  | zero => exact (fun _ _ _ _ => rfl)
  | succ n ih =>
    have e0 : (fun x0 x1 x2 x3 => iter (exc E132 (it132 N) (loopOf Try.f132 4)) (canon (E132.keep 4))  n (tabl [(0, (.v (.v false [(.sh 175 x0)]))), (2, (.v (.v false [(.sh 175 x1)]))), (8, (.v (.v false [(.b x2)]))), (10, (.v (.v false [(.i .i64 x3)])))]) K) = Pu.laws_eqFetchS.l4 N (fun y0 y1 y2 y3 => (K .ret (tabl [(0, (.v (.v false [(.sh 175 y0)]))), (2, (.v (.v false [(.sh 175 y1)]))), (8, (.v (.v false [(.b y2)]))), (10, (.v (.v false [(.i .i64 y3)])))]))) (fun y0 y1 y2 y3 => (K (.exit 0) (tabl [(0, (.v (.v false [(.sh 175 y0)]))), (2, (.v (.v false [(.sh 175 y1)]))), (8, (.v (.v false [(.b y2)]))), (10, (.v (.v false [(.i .i64 y3)])))]))) n := by funext x0 x1 x2 x3; exact ih x0 x1 x2 x3
    intro x0 x1 x2 x3
    have h : ∀ g, exc E132 (it132 N) (loopOf Try.f132 4) (tabl [(0, (.v (.v false [(.sh 175 x0)]))), (2, (.v (.v false [(.sh 175 x1)]))), (8, (.v (.v false [(.b x2)]))), (10, (.v (.v false [(.i .i64 x3)])))]) (iterK g (canon (E132.keep 4)) K) = Pu.laws_eqFetchS.r4 N (fun x0 x1 x2 x3 => (g (tabl [(0, (.v (.v false [(.sh 175 x0)]))), (2, (.v (.v false [(.sh 175 x1)]))), (8, (.v (.v false [(.b x2)]))), (10, (.v (.v false [(.i .i64 x3)])))]))) (fun y0 y1 y2 y3 => (K .ret (tabl [(0, (.v (.v false [(.sh 175 y0)]))), (2, (.v (.v false [(.sh 175 y1)]))), (8, (.v (.v false [(.b y2)]))), (10, (.v (.v false [(.i .i64 y3)])))]))) (fun y0 y1 y2 y3 => (K (.exit 0) (tabl [(0, (.v (.v false [(.sh 175 y0)]))), (2, (.v (.v false [(.sh 175 y1)]))), (8, (.v (.v false [(.b y2)]))), (10, (.v (.v false [(.i .i64 y3)])))]))) x0 x1 x2 x3 := by intro g; kernel_rfl
    refine (h _).trans ?_
    show Pu.laws_eqFetchS.r4 N (fun x0 x1 x2 x3 => (iter (exc E132 (it132 N) (loopOf Try.f132 4)) (canon (E132.keep 4))  n (tabl [(0, (.v (.v false [(.sh 175 x0)]))), (2, (.v (.v false [(.sh 175 x1)]))), (8, (.v (.v false [(.b x2)]))), (10, (.v (.v false [(.i .i64 x3)])))]) K)) (fun y0 y1 y2 y3 => (K .ret (tabl [(0, (.v (.v false [(.sh 175 y0)]))), (2, (.v (.v false [(.sh 175 y1)]))), (8, (.v (.v false [(.b y2)]))), (10, (.v (.v false [(.i .i64 y3)])))]))) (fun y0 y1 y2 y3 => (K (.exit 0) (tabl [(0, (.v (.v false [(.sh 175 y0)]))), (2, (.v (.v false [(.sh 175 y1)]))), (8, (.v (.v false [(.b y2)]))), (10, (.v (.v false [(.i .i64 y3)])))]))) x0 x1 x2 x3 = _
    rw [e0]; rfl
theorem lo132_4 {R : Type} (N : Nat) : LoopOk E132 (it132 N (R := R)) (loopOf Try.f132 4) := by
  have e : firstRid (loopOf Try.f132 4) = 4 := by kernel_rfl
  intro L K r
  rw [e]
  intro h
  unfold it132 at h
  simp only [show Nat.beq 4 4 = true from rfl, cond_false, cond_true] at h
  refine tell_ok (Q := fun L => ∃ n, iter (exc E132 (it132 N) (loopOf Try.f132 4)) (canon (E132.keep 4)) n (tabl L) K = some r) h (fun xs h => ?_) (fun h => ?_)
  · (try dsimp only at h)
    split at h
    · exact ⟨N, ((e132_4 N K N) _ _ _ _).trans h⟩
    · cases h
  cases h
def sp132 : List Arg → Option (Bool × Res)
  | [(.v false [(.sh 175 a0)]), (.v false [(.sh 175 b1)])] => some (Pu.laws_eqFetchS.c a0 b1, ⟨[(.v false [(.b (Pu.laws_eqFetchS.v a0 b1))])], []⟩)
  | _ => none
theorem ok132 : FnOk Try.prog T 132 sp132 := by
  refine fn_ok (E := E132) hE (call_cons ok183 call_nil) hM Try.func132 (code := (Try.f132.body.getD .skip)) (by kernel_rfl) (by kernel_rfl) ?_
  have key : ∀ (a0 : Row) (b1 : Row), Pu.laws_eqFetchS.c a0 b1 = true → ∃ it : It Res, (∀ c ∈ loopsOf (Try.f132.body.getD .skip), LoopOk E132 it c) ∧ body E132 it Try.f132 [(.v false [(.sh 175 a0)]), (.v false [(.sh 175 b1)])] = some ⟨[(.v false [(.b (Pu.laws_eqFetchS.v a0 b1))])], []⟩ := by
    intro a0 b1  h1
    obtain ⟨N, hN⟩ := Pu.laws_eqFetchS.b_eq (R := Res) (fun r0 => some ⟨[(.v false [(.b r0)])], []⟩) a0 b1 h1
    have hl : loopsOf (Try.f132.body.getD .skip) = [loopOf Try.f132 4] := by kernel_rfl
    refine ⟨it132 N, by rw [hl]; exact (loops_cons (lo132_4 N) loops_nil), ?_⟩
    refine Eq.trans (show body E132 (it132 N) Try.f132 [(.v false [(.sh 175 a0)]), (.v false [(.sh 175 b1)])] = Pu.laws_eqFetchS.b N (fun r0 => some ⟨[(.v false [(.b r0)])], []⟩) a0 b1 by kernel_rfl) hN
  intro args r h
  unfold sp132 at h
  split at h
  · injection h with h
    injection h with h1 h2
    subst h2
    exact ⟨by kernel_rfl, fun hf => ⟨of_decide_eq_true (by kernel_rfl), key _ _ h1⟩⟩
  · cases h

end Go.FG.Se

namespace Go.FG.Se
open Go.Proofs
def E184 : Env := { toTab := T, call := Go.FG.callIn [], mode := Go.FG.modeIn md, keep := Go.FG.keepIn [], tk := fun n => Go.FG.memB n [], om := Go.FG.omIn [] }
def sp184 : List Arg → Option (Bool × Res)
  | [(.v true [(.i .i64 a0_0), (.s a0_1), (.i .i64 a0_2), (.i .i64 a0_3), (.i .i64 a0_4), (.s a0_5), (.i .i64 a0_6)]), (.v true [(.i .i64 b1_0), (.s b1_1), (.i .i64 b1_2), (.i .i64 b1_3), (.i .i64 b1_4), (.s b1_5), (.i .i64 b1_6)])] => some (true, ⟨[(.v false [(.b (Pu.laws_eqClient.v a0_0 a0_1 a0_2 a0_3 a0_4 a0_5 a0_6 b1_0 b1_1 b1_2 b1_3 b1_4 b1_5 b1_6))])], []⟩)
  | _ => none
theorem ok184 : FnOk Try.prog T 184 sp184 := by
  refine fn_ok (E := E184) hE call_nil hM Try.func184 (code := (Try.f184.body.getD .skip)) (by kernel_rfl) (by kernel_rfl) ?_
  have key : ∀ (a0_0 : Int) (a0_1 : ByteArray) (a0_2 : Int) (a0_3 : Int) (a0_4 : Int) (a0_5 : ByteArray) (a0_6 : Int) (b1_0 : Int) (b1_1 : ByteArray) (b1_2 : Int) (b1_3 : Int) (b1_4 : Int) (b1_5 : ByteArray) (b1_6 : Int), ∃ it : It Res, (∀ c ∈ loopsOf (Try.f184.body.getD .skip), LoopOk E184 it c) ∧ body E184 it Try.f184 [(.v true [(.i .i64 a0_0), (.s a0_1), (.i .i64 a0_2), (.i .i64 a0_3), (.i .i64 a0_4), (.s a0_5), (.i .i64 a0_6)]), (.v true [(.i .i64 b1_0), (.s b1_1), (.i .i64 b1_2), (.i .i64 b1_3), (.i .i64 b1_4), (.s b1_5), (.i .i64 b1_6)])] = some ⟨[(.v false [(.b (Pu.laws_eqClient.v a0_0 a0_1 a0_2 a0_3 a0_4 a0_5 a0_6 b1_0 b1_1 b1_2 b1_3 b1_4 b1_5 b1_6))])], []⟩ := by
    intro a0_0 a0_1 a0_2 a0_3 a0_4 a0_5 a0_6 b1_0 b1_1 b1_2 b1_3 b1_4 b1_5 b1_6 
    have hN := Pu.laws_eqClient.b_eq (R := Res) (fun r0 => some ⟨[(.v false [(.b r0)])], []⟩) a0_0 a0_1 a0_2 a0_3 a0_4 a0_5 a0_6 b1_0 b1_1 b1_2 b1_3 b1_4 b1_5 b1_6
    have hl : loopsOf (Try.f184.body.getD .skip) = [] := by kernel_rfl
    refine ⟨iterN 0, by rw [hl]; exact loops_nil, ?_⟩
    refine Eq.trans (show body E184 (iterN 0) Try.f184 [(.v true [(.i .i64 a0_0), (.s a0_1), (.i .i64 a0_2), (.i .i64 a0_3), (.i .i64 a0_4), (.s a0_5), (.i .i64 a0_6)]), (.v true [(.i .i64 b1_0), (.s b1_1), (.i .i64 b1_2), (.i .i64 b1_3), (.i .i64 b1_4), (.s b1_5), (.i .i64 b1_6)])] = Pu.laws_eqClient.b (fun r0 => some ⟨[(.v false [(.b r0)])], []⟩) a0_0 a0_1 a0_2 a0_3 a0_4 a0_5 a0_6 b1_0 b1_1 b1_2 b1_3 b1_4 b1_5 b1_6 by kernel_rfl) hN
  intro args r h
  unfold sp184 at h
  split at h
  · injection h with h
    injection h with h1 h2
    subst h2
    exact ⟨by kernel_rfl, fun hf => ⟨of_decide_eq_true (by kernel_rfl), key _ _ _ _ _ _ _ _ _ _ _ _ _ _⟩⟩
  · cases h

end Go.FG.Se

namespace Go.FG.Se
open Go.Proofs
def E133 : Env := { toTab := T, call := Go.FG.callIn [(184, sp184)], mode := Go.FG.modeIn md, keep := Go.FG.keepIn [(4, [0, 1, 4, 5])], tk := fun n => Go.FG.memB n [], om := Go.FG.omIn [] }
def it133 (N : Nat) {R : Type} : It R := fun rid f cn L K => bif Nat.beq rid 4 then (tell [(0, (.v (.v false [(.sh 214 [])]))), (2, (.v (.v false [(.sh 214 [])]))), (8, (.v (.v false [(.b false)]))), (10, (.v (.v false [(.i .i64 0)])))] (fun | [.R x0, .R x1, .B x2, .I x3] => Pu.laws_eqClientS.l4 N (fun y0 y1 y2 y3 => (K .ret (tabl [(0, (.v (.v false [(.sh 214 y0)]))), (2, (.v (.v false [(.sh 214 y1)]))), (8, (.v (.v false [(.b y2)]))), (10, (.v (.v false [(.i .i64 y3)])))]))) (fun y0 y1 y2 y3 => (K (.exit 0) (tabl [(0, (.v (.v false [(.sh 214 y0)]))), (2, (.v (.v false [(.sh 214 y1)]))), (8, (.v (.v false [(.b y2)]))), (10, (.v (.v false [(.i .i64 y3)])))]))) N x0 x1 x2 x3 | _ => none) L (none)) else none
theorem e133_4 {R : Type} (N : Nat) (K : Ex → St → Option R) : ∀ n : Nat, (∀ x0 x1 x2 x3, iter (exc E133 (it133 N) (loopOf Try.f133 4)) (canon (E133.keep 4))  n (tabl [(0, (.v (.v false [(.sh 214 x0)]))), (2, (.v (.v false [(.sh 214 x1)]))), (8, (.v (.v false [(.b x2)]))), (10, (.v (.v false [(.i .i64 x3)])))]) K = Pu.laws_eqClientS.l4 N (fun y0 y1 y2 y3 => (K .ret (tabl [(0, (.v (.v false [(.sh 214 y0)]))), (2, (.v (.v false [(.sh 214 y1)]))), (8, (.v (.v false [(.b y2)]))), (10, (.v (.v false [(.i .i64 y3)])))]))) (fun y0 y1 y2 y3 => (K (.exit 0) (tabl [(0, (.v (.v false [(.sh 214 y0)]))), (2, (.v (.v false [(.sh 214 y1)]))), (8, (.v (.v false [(.b y2)]))), (10, (.v (.v false [(.i .i64 y3)])))]))) n x0 x1 x2 x3) := by
  intro n
  induction n with
  | zero => exact (fun _ _ _ _ => rfl)
  | succ n ih =>
    have e0 : (fun x0 x1 x2 x3 => iter (exc E133 (it133 N) (loopOf Try.f133 4)) (canon (E133.keep 4))  n (tabl [(0, (.v (.v false [(.sh 214 x0)]))), (2, (.v (.v false [(.sh 214 x1)]))), (8, (.v (.v false [(.b x2)]))), (10, (.v (.v false [(.i .i64 x3)])))]) K) = Pu.laws_eqClientS.l4 N (fun y0 y1 y2 y3 => (K .ret (tabl [(0, (.v (.v false [(.sh 214 y0)]))), (2, (.v (.v false [(.sh 214 y1)]))), (8, (.v (.v false [(.b y2)]))), (10, (.v (.v false [(.i .i64 y3)])))]))) (fun y0 y1 y2 y3 => (K (.exit 0) (tabl [(0, (.v (.v false [(.sh 214 y0)]))), (2, (.v (.v false [(.sh 214 y1)]))), (8, (.v (.v false [(.b y2)]))), (10, (.v (.v false [(.i .i64 y3)])))]))) n := by funext x0 x1 x2 x3; exact ih x0 x1 x2 x3
    intro x0 x1 x2 x3
    have h : ∀ g, exc E133 (it133 N) (loopOf Try.f133 4) (tabl [(0, (.v (.v false [(.sh 214 x0)]))), (2, (.v (.v false [(.sh 214 x1)]))), (8, (.v (.v false [(.b x2)]))), (10, (.v (.v false [(.i .i64 x3)])))]) (iterK g (canon (E133.keep 4)) K) = Pu.laws_eqClientS.r4 N (fun x0 x1 x2 x3 => (g (tabl [(0, (.v (.v false [(.sh 214 x0)]))), (2, (.v (.v false [(.sh 214 x1)]))), (8, (.v (.v false [(.b x2)]))), (10, (.v (.v false [(.i .i64 x3)])))]))) (fun y0 y1 y2 y3 => (K .ret (tabl [(0, (.v (.v false [(.sh 214 y0)]))), (2, (.v (.v false [(.sh 214 y1)]))), (8, (.v (.v false [(.b y2)]))), (10, (.v (.v false [(.i .i64 y3)])))]))) (fun y0 y1 y2 y3 => (K (.exit 0) (tabl [(0, (.v (.v false [(.sh 214 y0)]))), (2, (.v (.v false [(.sh 214 y1)]))), (8, (.v (.v false [(.b y2)]))), (10, (.v (.v false [(.i .i64 y3)])))]))) x0 x1 x2 x3 := by intro g; kernel_rfl
    refine (h _).trans ?_
    show Pu.laws_eqClientS.r4 N (fun x0 x1 x2 x3 => (iter (exc E133 (it133 N) (loopOf Try.f133 4)) (canon (E133.keep 4))  n (tabl [(0, (.v (.v false [(.sh 214 x0)]))), (2, (.v (.v false [(.sh 214 x1)]))), (8, (.v (.v false [(.b x2)]))), (10, (.v (.v false [(.i .i64 x3)])))]) K)) (fun y0 y1 y2 y3 => (K .ret (tabl [(0, (.v (.v false [(.sh 214 y0)]))), (2, (.v (.v false [(.sh 214 y1)]))), (8, (.v (.v false [(.b y2)]))), (10, (.v (.v false [(.i .i64 y3)])))]))) (fun y0 y1 y2 y3 => (K (.exit 0) (tabl [(0, (.v (.v false [(.sh 214 y0)]))), (2, (.v (.v false [(.sh 214 y1)]))), (8, (.v (.v false [(.b y2)]))), (10, (.v (.v false [(.i .i64 y3)])))]))) x0 x1 x2 x3 = _
    rw [e0]; rfl
theorem lo133_4 {R : Type} (N : Nat) : LoopOk E133 (it133 N (R := R)) (loopOf Try.f133 4) := by
  have e : firstRid (loopOf Try.f133 4) = 4 := by kernel_rfl
  intro L K r
  rw [e]
  intro h
  unfold it133 at h
  simp only [show Nat.beq 4 4 = true from rfl, cond_false, cond_true] at h
  refine tell_ok (Q := fun L => ∃ n, iter (exc E133 (it133 N) (loopOf Try.f133 4)) (canon (E133.keep 4)) n (tabl L) K = some r) h (fun xs h => ?_) (fun h => ?_)
  · (try dsimp only at h)
    split at h
    · exact ⟨N, ((e133_4 N K N) _ _ _ _).trans h⟩
    · cases h
  cases h
def sp133 : List Arg → Option (Bool × Res)
  | [(.v false [(.sh 214 a0)]), (.v false [(.sh 214 b1)])] => some (Pu.laws_eqClientS.c a0 b1, ⟨[(.v false [(.b (Pu.laws_eqClientS.v a0 b1))])], []⟩)
  | _ => none
theorem ok133 : FnOk Try.prog T 133 sp133 := by
  refine fn_ok (E := E133) hE (call_cons ok184 call_nil) hM Try.func133 (code := (Try.f133.body.getD .skip)) (by kernel_rfl) (by kernel_rfl) ?_
  have key : ∀ (a0 : Row) (b1 : Row), Pu.laws_eqClientS.c a0 b1 = true → ∃ it : It Res, (∀ c ∈ loopsOf (Try.f133.body.getD .skip), LoopOk E133 it c) ∧ body E133 it Try.f133 [(.v false [(.sh 214 a0)]), (.v false [(.sh 214 b1)])] = some ⟨[(.v false [(.b (Pu.laws_eqClientS.v a0 b1))])], []⟩ := by
    intro a0 b1  h1
    obtain ⟨N, hN⟩ := Pu.laws_eqClientS.b_eq (R := Res) (fun r0 => some ⟨[(.v false [(.b r0)])], []⟩) a0 b1 h1
    have hl : loopsOf (Try.f133.body.getD .skip) = [loopOf Try.f133 4] := by kernel_rfl
    refine ⟨it133 N, by rw [hl]; exact (loops_cons (lo133_4 N) loops_nil), ?_⟩
    refine Eq.trans (show body E133 (it133 N) Try.f133 [(.v false [(.sh 214 a0)]), (.v false [(.sh 214 b1)])] = Pu.laws_eqClientS.b N (fun r0 => some ⟨[(.v false [(.b r0)])], []⟩) a0 b1 by kernel_rfl) hN
  intro args r h
  unfold sp133 at h
  split at h
  · injection h with h
    injection h with h1 h2
    subst h2
    exact ⟨by kernel_rfl, fun hf => ⟨of_decide_eq_true (by kernel_rfl), key _ _ h1⟩⟩
  · cases h

end Go.FG.Se

namespace Go.FG.Se
open Go.Proofs
def E63 : Env := { toTab := T, call := Go.FG.callIn [(77, sp77), (131, sp131), (132, sp132), (133, sp133)], mode := Go.FG.modeIn md, keep := Go.FG.keepIn [], tk := fun n => Go.FG.memB n [], om := Go.FG.omIn [] }
def sp63 : List Arg → Option (Bool × Res)
  | [(.v true [(.i .i64 a0_0), (.sh 25 a0_1), (.sh 9 a0_2), (.sh 9 a0_3), (.sh 49 a0_4), (.i .i64 a0_5), (.sh 175 a0_6), (.sh 214 a0_7), (.i .i64 a0_8)]), (.v true [(.i .i64 b1_0), (.sh 25 b1_1), (.sh 9 b1_2), (.sh 9 b1_3), (.sh 49 b1_4), (.i .i64 b1_5), (.sh 175 b1_6), (.sh 214 b1_7), (.i .i64 b1_8)])] => some (Pu.laws_eqProxy.c a0_0 a0_1 a0_2 a0_3 a0_4 a0_5 a0_6 a0_7 a0_8 b1_0 b1_1 b1_2 b1_3 b1_4 b1_5 b1_6 b1_7 b1_8, ⟨[(.v false [(.b (Pu.laws_eqProxy.v a0_0 a0_1 a0_2 a0_3 a0_4 a0_5 a0_6 a0_7 a0_8 b1_0 b1_1 b1_2 b1_3 b1_4 b1_5 b1_6 b1_7 b1_8))])], []⟩)
  | _ => none
theorem ok63 : FnOk Try.prog T 63 sp63 := by
  refine fn_ok (E := E63) hE (call_cons ok77 (call_cons ok131 (call_cons ok132 (call_cons ok133 call_nil)))) hM Try.func63 (code := (Try.f63.body.getD .skip)) (by kernel_rfl) (by kernel_rfl) ?_
  have key : ∀ (a0_0 : Int) (a0_1 : Row) (a0_2 : Row) (a0_3 : Row) (a0_4 : Row) (a0_5 : Int) (a0_6 : Row) (a0_7 : Row) (a0_8 : Int) (b1_0 : Int) (b1_1 : Row) (b1_2 : Row) (b1_3 : Row) (b1_4 : Row) (b1_5 : Int) (b1_6 : Row) (b1_7 : Row) (b1_8 : Int), Pu.laws_eqProxy.c a0_0 a0_1 a0_2 a0_3 a0_4 a0_5 a0_6 a0_7 a0_8 b1_0 b1_1 b1_2 b1_3 b1_4 b1_5 b1_6 b1_7 b1_8 = true → ∃ it : It Res, (∀ c ∈ loopsOf (Try.f63.body.getD .skip), LoopOk E63 it c) ∧ body E63 it Try.f63 [(.v true [(.i .i64 a0_0), (.sh 25 a0_1), (.sh 9 a0_2), (.sh 9 a0_3), (.sh 49 a0_4), (.i .i64 a0_5), (.sh 175 a0_6), (.sh 214 a0_7), (.i .i64 a0_8)]), (.v true [(.i .i64 b1_0), (.sh 25 b1_1), (.sh 9 b1_2), (.sh 9 b1_3), (.sh 49 b1_4), (.i .i64 b1_5), (.sh 175 b1_6), (.sh 214 b1_7), (.i .i64 b1_8)])] = some ⟨[(.v false [(.b (Pu.laws_eqProxy.v a0_0 a0_1 a0_2 a0_3 a0_4 a0_5 a0_6 a0_7 a0_8 b1_0 b1_1 b1_2 b1_3 b1_4 b1_5 b1_6 b1_7 b1_8))])], []⟩ := by
    intro a0_0 a0_1 a0_2 a0_3 a0_4 a0_5 a0_6 a0_7 a0_8 b1_0 b1_1 b1_2 b1_3 b1_4 b1_5 b1_6 b1_7 b1_8  h1
    have hN := Pu.laws_eqProxy.b_eq (R := Res) (fun r0 => some ⟨[(.v false [(.b r0)])], []⟩) a0_0 a0_1 a0_2 a0_3 a0_4 a0_5 a0_6 a0_7 a0_8 b1_0 b1_1 b1_2 b1_3 b1_4 b1_5 b1_6 b1_7 b1_8 h1
    have hl : loopsOf (Try.f63.body.getD .skip) = [] := by kernel_rfl
    refine ⟨iterN 0, by rw [hl]; exact loops_nil, ?_⟩
    refine Eq.trans (show body E63 (iterN 0) Try.f63 [(.v true [(.i .i64 a0_0), (.sh 25 a0_1), (.sh 9 a0_2), (.sh 9 a0_3), (.sh 49 a0_4), (.i .i64 a0_5), (.sh 175 a0_6), (.sh 214 a0_7), (.i .i64 a0_8)]), (.v true [(.i .i64 b1_0), (.sh 25 b1_1), (.sh 9 b1_2), (.sh 9 b1_3), (.sh 49 b1_4), (.i .i64 b1_5), (.sh 175 b1_6), (.sh 214 b1_7), (.i .i64 b1_8)])] = Pu.laws_eqProxy.b (fun r0 => some ⟨[(.v false [(.b r0)])], []⟩) a0_0 a0_1 a0_2 a0_3 a0_4 a0_5 a0_6 a0_7 a0_8 b1_0 b1_1 b1_2 b1_3 b1_4 b1_5 b1_6 b1_7 b1_8 by kernel_rfl) hN
  intro args r h
  unfold sp63 at h
  split at h
  · injection h with h
    injection h with h1 h2
    subst h2
    exact ⟨by kernel_rfl, fun hf => ⟨of_decide_eq_true (by kernel_rfl), key _ _ _ _ _ _ _ _ _ _ _ _ _ _ _ _ _ _ h1⟩⟩
  · cases h

end Go.FG.Se

namespace Go.FG.Se
open Go.Proofs
def E100 : Env := { toTab := T, call := Go.FG.callIn [], mode := Go.FG.modeIn md, keep := Go.FG.keepIn [(4, [0, 3])], tk := fun n => Go.FG.memB n [], om := Go.FG.omIn [] }
def it100 (N : Nat) {R : Type} : It R := fun rid f cn L K => bif Nat.beq rid 4 then (tell [(0, (.v (.v false [(.i .i64 0)]))), (6, (.v (.v false [(.s ⟨#[]⟩)])))] (fun | [.I x0, .S x1] => Pu.laws_markText.l4 N (fun y0 y1 => (K (.exit 0) (tabl [(0, (.v (.v false [(.i .i64 y0)]))), (6, (.v (.v false [(.s y1)])))]))) N x0 x1 | _ => none) L (none)) else none
theorem e100_4 {R : Type} (N : Nat) (K : Ex → St → Option R) : ∀ n : Nat, (∀ x0 x1, iter (exc E100 (it100 N) (loopOf Try.f100 4)) (canon (E100.keep 4))  n (tabl [(0, (.v (.v false [(.i .i64 x0)]))), (6, (.v (.v false [(.s x1)])))]) K = Pu.laws_markText.l4 N (fun y0 y1 => (K (.exit 0) (tabl [(0, (.v (.v false [(.i .i64 y0)]))), (6, (.v (.v false [(.s y1)])))]))) n x0 x1) := by
  intro n
  induction n with
  | zero => exact (fun _ _ => rfl)
  | succ n ih =>
    have e0 : (fun x0 x1 => iter (exc E100 (it100 N) (loopOf Try.f100 4)) (canon (E100.keep 4))  n (tabl [(0, (.v (.v false [(.i .i64 x0)]))), (6, (.v (.v false [(.s x1)])))]) K) = Pu.laws_markText.l4 N (fun y0 y1 => (K (.exit 0) (tabl [(0, (.v (.v false [(.i .i64 y0)]))), (6, (.v (.v false [(.s y1)])))]))) n := by funext x0 x1; exact ih x0 x1
    intro x0 x1
    have h : ∀ g, exc E100 (it100 N) (loopOf Try.f100 4) (tabl [(0, (.v (.v false [(.i .i64 x0)]))), (6, (.v (.v false [(.s x1)])))]) (iterK g (canon (E100.keep 4)) K) = Pu.laws_markText.r4 N (fun x0 x1 => (g (tabl [(0, (.v (.v false [(.i .i64 x0)]))), (6, (.v (.v false [(.s x1)])))]))) (fun y0 y1 => (K (.exit 0) (tabl [(0, (.v (.v false [(.i .i64 y0)]))), (6, (.v (.v false [(.s y1)])))]))) x0 x1 := by intro g; kernel_rfl
    refine (h _).trans ?_
    show Pu.laws_markText.r4 N (fun x0 x1 => (iter (exc E100 (it100 N) (loopOf Try.f100 4)) (canon (E100.keep 4))  n (tabl [(0, (.v (.v false [(.i .i64 x0)]))), (6, (.v (.v false [(.s x1)])))]) K)) (fun y0 y1 => (K (.exit 0) (tabl [(0, (.v (.v false [(.i .i64 y0)]))), (6, (.v (.v false [(.s y1)])))]))) x0 x1 = _
    rw [e0]; rfl
theorem lo100_4 {R : Type} (N : Nat) : LoopOk E100 (it100 N (R := R)) (loopOf Try.f100 4) := by
  have e : firstRid (loopOf Try.f100 4) = 4 := by kernel_rfl
  intro L K r
  rw [e]
  intro h
  unfold it100 at h
  simp only [show Nat.beq 4 4 = true from rfl, cond_false, cond_true] at h
  refine tell_ok (Q := fun L => ∃ n, iter (exc E100 (it100 N) (loopOf Try.f100 4)) (canon (E100.keep 4)) n (tabl L) K = some r) h (fun xs h => ?_) (fun h => ?_)
  · (try dsimp only at h)
    split at h
    · exact ⟨N, ((e100_4 N K N) _ _).trans h⟩
    · cases h
  cases h
def sp100 : List Arg → Option (Bool × Res)
  | [(.v false [(.i .i64 k0)])] => some (Pu.laws_markText.c k0, ⟨[(.v false [(.s (Pu.laws_markText.v k0))])], []⟩)
  | _ => none
theorem ok100 : FnOk Try.prog T 100 sp100 := by
  refine fn_ok (E := E100) hE call_nil hM Try.func100 (code := (Try.f100.body.getD .skip)) (by kernel_rfl) (by kernel_rfl) ?_
  have key : ∀ (k0 : Int), Pu.laws_markText.c k0 = true → ∃ it : It Res, (∀ c ∈ loopsOf (Try.f100.body.getD .skip), LoopOk E100 it c) ∧ body E100 it Try.f100 [(.v false [(.i .i64 k0)])] = some ⟨[(.v false [(.s (Pu.laws_markText.v k0))])], []⟩ := by
    intro k0  h1
    obtain ⟨N, hN⟩ := Pu.laws_markText.b_eq (R := Res) (fun r0 => some ⟨[(.v false [(.s r0)])], []⟩) k0 h1
    have hl : loopsOf (Try.f100.body.getD .skip) = [loopOf Try.f100 4] := by kernel_rfl
    refine ⟨it100 N, by rw [hl]; exact (loops_cons (lo100_4 N) loops_nil), ?_⟩
    refine Eq.trans (show body E100 (it100 N) Try.f100 [(.v false [(.i .i64 k0)])] = Pu.laws_markText.b N (fun r0 => some ⟨[(.v false [(.s r0)])], []⟩) k0 by kernel_rfl) hN
  intro args r h
  unfold sp100 at h
  split at h
  · injection h with h
    injection h with h1 h2
    subst h2
    exact ⟨by kernel_rfl, fun hf => ⟨of_decide_eq_true (by kernel_rfl), key _ h1⟩⟩
  · cases h

end Go.FG.Se

namespace Go.FG.Se
open Go.Proofs
def E79 : Env := { toTab := T, call := Go.FG.callIn [(100, sp100)], mode := Go.FG.modeIn md, keep := Go.FG.keepIn [(2, [0, 1, 5])], tk := fun n => Go.FG.memB n [], om := Go.FG.omIn [] }
def it79 (N : Nat) {R : Type} : It R := fun rid f cn L K => bif Nat.beq rid 2 then (tell [(0, (.v (.v false [(.own 900000000)]))), (2, (.v (.v false [(.i .i64 0)]))), (10, (.v (.v false [(.i .i64 0)]))), (1800000001, (.o (.row 25 true [])))] (fun | [.I x0, .I x1, .R x2] => Pu.laws_markEntryS.l2 N (fun y0 y1 y2 => (K (.exit 0) (tabl [(0, (.v (.v false [(.own 900000000)]))), (2, (.v (.v false [(.i .i64 y0)]))), (10, (.v (.v false [(.i .i64 y1)]))), (1800000001, (.o (.row 25 true y2)))]))) N x0 x1 x2 | _ => none) L (none)) else none
theorem e79_2 {R : Type} (N : Nat) (K : Ex → St → Option R) : ∀ n : Nat, (∀ x0 x1 x2, iter (exc E79 (it79 N) (loopOf Try.f79 2)) (canon (E79.keep 2))  n (tabl [(0, (.v (.v false [(.own 900000000)]))), (2, (.v (.v false [(.i .i64 x0)]))), (10, (.v (.v false [(.i .i64 x1)]))), (1800000001, (.o (.row 25 true x2)))]) K = Pu.laws_markEntryS.l2 N (fun y0 y1 y2 => (K (.exit 0) (tabl [(0, (.v (.v false [(.own 900000000)]))), (2, (.v (.v false [(.i .i64 y0)]))), (10, (.v (.v false [(.i .i64 y1)]))), (1800000001, (.o (.row 25 true y2)))]))) n x0 x1 x2) := by
  intro n
  induction n with
  | zero => exact (fun _ _ _ => rfl)
  | succ n ih =>
    have e0 : (fun x0 x1 x2 => iter (exc E79 (it79 N) (loopOf Try.f79 2)) (canon (E79.keep 2))  n (tabl [(0, (.v (.v false [(.own 900000000)]))), (2, (.v (.v false [(.i .i64 x0)]))), (10, (.v (.v false [(.i .i64 x1)]))), (1800000001, (.o (.row 25 true x2)))]) K) = Pu.laws_markEntryS.l2 N (fun y0 y1 y2 => (K (.exit 0) (tabl [(0, (.v (.v false [(.own 900000000)]))), (2, (.v (.v false [(.i .i64 y0)]))), (10, (.v (.v false [(.i .i64 y1)]))), (1800000001, (.o (.row 25 true y2)))]))) n := by funext x0 x1 x2; exact ih x0 x1 x2
    intro x0 x1 x2
    have h : ∀ g, exc E79 (it79 N) (loopOf Try.f79 2) (tabl [(0, (.v (.v false [(.own 900000000)]))), (2, (.v (.v false [(.i .i64 x0)]))), (10, (.v (.v false [(.i .i64 x1)]))), (1800000001, (.o (.row 25 true x2)))]) (iterK g (canon (E79.keep 2)) K) = Pu.laws_markEntryS.r2 N (fun x0 x1 x2 => (g (tabl [(0, (.v (.v false [(.own 900000000)]))), (2, (.v (.v false [(.i .i64 x0)]))), (10, (.v (.v false [(.i .i64 x1)]))), (1800000001, (.o (.row 25 true x2)))]))) (fun y0 y1 y2 => (K (.exit 0) (tabl [(0, (.v (.v false [(.own 900000000)]))), (2, (.v (.v false [(.i .i64 y0)]))), (10, (.v (.v false [(.i .i64 y1)]))), (1800000001, (.o (.row 25 true y2)))]))) x0 x1 x2 := by intro g; kernel_rfl
    refine (h _).trans ?_
    show Pu.laws_markEntryS.r2 N (fun x0 x1 x2 => (iter (exc E79 (it79 N) (loopOf Try.f79 2)) (canon (E79.keep 2))  n (tabl [(0, (.v (.v false [(.own 900000000)]))), (2, (.v (.v false [(.i .i64 x0)]))), (10, (.v (.v false [(.i .i64 x1)]))), (1800000001, (.o (.row 25 true x2)))]) K)) (fun y0 y1 y2 => (K (.exit 0) (tabl [(0, (.v (.v false [(.own 900000000)]))), (2, (.v (.v false [(.i .i64 y0)]))), (10, (.v (.v false [(.i .i64 y1)]))), (1800000001, (.o (.row 25 true y2)))]))) x0 x1 x2 = _
    rw [e0]; rfl
theorem lo79_2 {R : Type} (N : Nat) : LoopOk E79 (it79 N (R := R)) (loopOf Try.f79 2) := by
  have e : firstRid (loopOf Try.f79 2) = 2 := by kernel_rfl
  intro L K r
  rw [e]
  intro h
  unfold it79 at h
  simp only [show Nat.beq 2 2 = true from rfl, cond_false, cond_true] at h
  refine tell_ok (Q := fun L => ∃ n, iter (exc E79 (it79 N) (loopOf Try.f79 2)) (canon (E79.keep 2)) n (tabl L) K = some r) h (fun xs h => ?_) (fun h => ?_)
  · (try dsimp only at h)
    split at h
    · exact ⟨N, ((e79_2 N K N) _ _ _).trans h⟩
    · cases h
  cases h
def sp79 : List Arg → Option (Bool × Res)
  | [(.v false [(.ow 25 true a0)]), (.v false [(.i .i64 k1)])] => some (Pu.laws_markEntryS.c a0 k1, ⟨[(.v false [(.i .i64 ((Pu.laws_markEntryS.v a0 k1).1))])], [[(.kp ((Pu.laws_markEntryS.v a0 k1).2))]]⟩)
  | _ => none
theorem ok79 : FnOk Try.prog T 79 sp79 := by
  refine fn_ok (E := E79) hE (call_cons ok100 call_nil) hM Try.func79 (code := (Try.f79.body.getD .skip)) (by kernel_rfl) (by kernel_rfl) ?_
  have key : ∀ (a0 : Row) (k1 : Int), Pu.laws_markEntryS.c a0 k1 = true → ∃ it : It Res, (∀ c ∈ loopsOf (Try.f79.body.getD .skip), LoopOk E79 it c) ∧ body E79 it Try.f79 [(.v false [(.ow 25 true a0)]), (.v false [(.i .i64 k1)])] = some ⟨[(.v false [(.i .i64 ((Pu.laws_markEntryS.v a0 k1).1))])], [[(.kp ((Pu.laws_markEntryS.v a0 k1).2))]]⟩ := by
    intro a0 k1  h1
    obtain ⟨N, hN⟩ := Pu.laws_markEntryS.b_eq (R := Res) (fun r0 r1 => some ⟨[(.v false [(.i .i64 r0)])], [[(.kp r1)]]⟩) a0 k1 h1
    have hl : loopsOf (Try.f79.body.getD .skip) = [loopOf Try.f79 2] := by kernel_rfl
    refine ⟨it79 N, by rw [hl]; exact (loops_cons (lo79_2 N) loops_nil), ?_⟩
    refine Eq.trans (show body E79 (it79 N) Try.f79 [(.v false [(.ow 25 true a0)]), (.v false [(.i .i64 k1)])] = Pu.laws_markEntryS.b N (fun r0 r1 => some ⟨[(.v false [(.i .i64 r0)])], [[(.kp r1)]]⟩) a0 k1 by kernel_rfl) hN
  intro args r h
  unfold sp79 at h
  split at h
  · injection h with h
    injection h with h1 h2
    subst h2
    exact ⟨by kernel_rfl, fun hf => ⟨of_decide_eq_true (by kernel_rfl), key _ _ h1⟩⟩
  · cases h

end Go.FG.Se

namespace Go.FG.Se
open Go.Proofs
def E185 : Env := { toTab := T, call := Go.FG.callIn [(100, sp100)], mode := Go.FG.modeIn md, keep := Go.FG.keepIn [(2, [0, 1, 5])], tk := fun n => Go.FG.memB n [], om := Go.FG.omIn [] }
def it185 (N : Nat) {R : Type} : It R := fun rid f cn L K => bif Nat.beq rid 2 then (tell [(0, (.v (.v false [(.own 900000000)]))), (2, (.v (.v false [(.i .i64 0)]))), (10, (.v (.v false [(.i .i64 0)]))), (1800000001, (.o (.row 9 true [])))] (fun | [.I x0, .I x1, .R x2] => Pu.laws_markStringS.l2 N (fun y0 y1 y2 => (K (.exit 0) (tabl [(0, (.v (.v false [(.own 900000000)]))), (2, (.v (.v false [(.i .i64 y0)]))), (10, (.v (.v false [(.i .i64 y1)]))), (1800000001, (.o (.row 9 true y2)))]))) N x0 x1 x2 | _ => none) L (none)) else none
theorem e185_2 {R : Type} (N : Nat) (K : Ex → St → Option R) : ∀ n : Nat, (∀ x0 x1 x2, iter (exc E185 (it185 N) (loopOf Try.f185 2)) (canon (E185.keep 2))  n (tabl [(0, (.v (.v false [(.own 900000000)]))), (2, (.v (.v false [(.i .i64 x0)]))), (10, (.v (.v false [(.i .i64 x1)]))), (1800000001, (.o (.row 9 true x2)))]) K = Pu.laws_markStringS.l2 N (fun y0 y1 y2 => (K (.exit 0) (tabl [(0, (.v (.v false [(.own 900000000)]))), (2, (.v (.v false [(.i .i64 y0)]))), (10, (.v (.v false [(.i .i64 y1)]))), (1800000001, (.o (.row 9 true y2)))]))) n x0 x1 x2) := by
  intro n
  induction n with
  | zero => exact (fun _ _ _ => rfl)
  | succ n ih =>
    have e0 : (fun x0 x1 x2 => iter (exc E185 (it185 N) (loopOf Try.f185 2)) (canon (E185.keep 2))  n (tabl [(0, (.v (.v false [(.own 900000000)]))), (2, (.v (.v false [(.i .i64 x0)]))), (10, (.v (.v false [(.i .i64 x1)]))), (1800000001, (.o (.row 9 true x2)))]) K) = Pu.laws_markStringS.l2 N (fun y0 y1 y2 => (K (.exit 0) (tabl [(0, (.v (.v false [(.own 900000000)]))), (2, (.v (.v false [(.i .i64 y0)]))), (10, (.v (.v false [(.i .i64 y1)]))), (1800000001, (.o (.row 9 true y2)))]))) n := by funext x0 x1 x2; exact ih x0 x1 x2
    intro x0 x1 x2
    have h : ∀ g, exc E185 (it185 N) (loopOf Try.f185 2) (tabl [(0, (.v (.v false [(.own 900000000)]))), (2, (.v (.v false [(.i .i64 x0)]))), (10, (.v (.v false [(.i .i64 x1)]))), (1800000001, (.o (.row 9 true x2)))]) (iterK g (canon (E185.keep 2)) K) = Pu.laws_markStringS.r2 N (fun x0 x1 x2 => (g (tabl [(0, (.v (.v false [(.own 900000000)]))), (2, (.v (.v false [(.i .i64 x0)]))), (10, (.v (.v false [(.i .i64 x1)]))), (1800000001, (.o (.row 9 true x2)))]))) (fun y0 y1 y2 => (K (.exit 0) (tabl [(0, (.v (.v false [(.own 900000000)]))), (2, (.v (.v false [(.i .i64 y0)]))), (10, (.v (.v false [(.i .i64 y1)]))), (1800000001, (.o (.row 9 true y2)))]))) x0 x1 x2 := by intro g; kernel_rfl
    refine (h _).trans ?_
    show Pu.laws_markStringS.r2 N (fun x0 x1 x2 => (iter (exc E185 (it185 N) (loopOf Try.f185 2)) (canon (E185.keep 2))  n (tabl [(0, (.v (.v false [(.own 900000000)]))), (2, (.v (.v false [(.i .i64 x0)]))), (10, (.v (.v false [(.i .i64 x1)]))), (1800000001, (.o (.row 9 true x2)))]) K)) (fun y0 y1 y2 => (K (.exit 0) (tabl [(0, (.v (.v false [(.own 900000000)]))), (2, (.v (.v false [(.i .i64 y0)]))), (10, (.v (.v false [(.i .i64 y1)]))), (1800000001, (.o (.row 9 true y2)))]))) x0 x1 x2 = _
    rw [e0]; rfl
theorem lo185_2 {R : Type} (N : Nat) : LoopOk E185 (it185 N (R := R)) (loopOf Try.f185 2) := by
  have e : firstRid (loopOf Try.f185 2) = 2 := by kernel_rfl
  intro L K r
  rw [e]
  intro h
  unfold it185 at h
  simp only [show Nat.beq 2 2 = true from rfl, cond_false, cond_true] at h
  refine tell_ok (Q := fun L => ∃ n, iter (exc E185 (it185 N) (loopOf Try.f185 2)) (canon (E185.keep 2)) n (tabl L) K = some r) h (fun xs h => ?_) (fun h => ?_)
  · (try dsimp only at h)
    split at h
    · exact ⟨N, ((e185_2 N K N) _ _ _).trans h⟩
    · cases h
  cases h
def sp185 : List Arg → Option (Bool × Res)
  | [(.v false [(.ow 9 true a0)]), (.v false [(.i .i64 k1)])] => some (Pu.laws_markStringS.c a0 k1, ⟨[(.v false [(.i .i64 ((Pu.laws_markStringS.v a0 k1).1))])], [[(.kp ((Pu.laws_markStringS.v a0 k1).2))]]⟩)
  | _ => none
theorem ok185 : FnOk Try.prog T 185 sp185 := by
  refine fn_ok (E := E185) hE (call_cons ok100 call_nil) hM Try.func185 (code := (Try.f185.body.getD .skip)) (by kernel_rfl) (by kernel_rfl) ?_
  have key : ∀ (a0 : Row) (k1 : Int), Pu.laws_markStringS.c a0 k1 = true → ∃ it : It Res, (∀ c ∈ loopsOf (Try.f185.body.getD .skip), LoopOk E185 it c) ∧ body E185 it Try.f185 [(.v false [(.ow 9 true a0)]), (.v false [(.i .i64 k1)])] = some ⟨[(.v false [(.i .i64 ((Pu.laws_markStringS.v a0 k1).1))])], [[(.kp ((Pu.laws_markStringS.v a0 k1).2))]]⟩ := by
    intro a0 k1  h1
    obtain ⟨N, hN⟩ := Pu.laws_markStringS.b_eq (R := Res) (fun r0 r1 => some ⟨[(.v false [(.i .i64 r0)])], [[(.kp r1)]]⟩) a0 k1 h1
    have hl : loopsOf (Try.f185.body.getD .skip) = [loopOf Try.f185 2] := by kernel_rfl
    refine ⟨it185 N, by rw [hl]; exact (loops_cons (lo185_2 N) loops_nil), ?_⟩
    refine Eq.trans (show body E185 (it185 N) Try.f185 [(.v false [(.ow 9 true a0)]), (.v false [(.i .i64 k1)])] = Pu.laws_markStringS.b N (fun r0 r1 => some ⟨[(.v false [(.i .i64 r0)])], [[(.kp r1)]]⟩) a0 k1 by kernel_rfl) hN
  intro args r h
  unfold sp185 at h
  split at h
  · injection h with h
    injection h with h1 h2
    subst h2
    exact ⟨by kernel_rfl, fun hf => ⟨of_decide_eq_true (by kernel_rfl), key _ _ h1⟩⟩
  · cases h

end Go.FG.Se

namespace Go.FG.Se
open Go.Proofs
def E225 : Env := { toTab := T, call := Go.FG.callIn [], mode := Go.FG.modeIn md, keep := Go.FG.keepIn [(2, [0, 1, 5])], tk := fun n => Go.FG.memB n [], om := Go.FG.omIn [] }
def it225 (N : Nat) {R : Type} : It R := fun rid f cn L K => bif Nat.beq rid 2 then (tell [(0, (.v (.v false [(.own 900000000)]))), (2, (.v (.v false [(.i .i64 0)]))), (10, (.v (.v false [(.i .i64 0)]))), (1800000001, (.o (.row 3 true [])))] (fun | [.I x0, .I x1, .R x2] => Pu.laws_markIntS.l2 N (fun y0 y1 y2 => (K (.exit 0) (tabl [(0, (.v (.v false [(.own 900000000)]))), (2, (.v (.v false [(.i .i64 y0)]))), (10, (.v (.v false [(.i .i64 y1)]))), (1800000001, (.o (.row 3 true y2)))]))) N x0 x1 x2 | _ => none) L (none)) else none
theorem e225_2 {R : Type} (N : Nat) (K : Ex → St → Option R) : ∀ n : Nat, (∀ x0 x1 x2, iter (exc E225 (it225 N) (loopOf Try.f225 2)) (canon (E225.keep 2))  n (tabl [(0, (.v (.v false [(.own 900000000)]))), (2, (.v (.v false [(.i .i64 x0)]))), (10, (.v (.v false [(.i .i64 x1)]))), (1800000001, (.o (.row 3 true x2)))]) K = Pu.laws_markIntS.l2 N (fun y0 y1 y2 => (K (.exit 0) (tabl [(0, (.v (.v false [(.own 900000000)]))), (2, (.v (.v false [(.i .i64 y0)]))), (10, (.v (.v false [(.i .i64 y1)]))), (1800000001, (.o (.row 3 true y2)))]))) n x0 x1 x2) := by
  intro n
  induction n with
  | zero => exact (fun _ _ _ => rfl)
  | succ n ih =>
    have e0 : (fun x0 x1 x2 => iter (exc E225 (it225 N) (loopOf Try.f225 2)) (canon (E225.keep 2))  n (tabl [(0, (.v (.v false [(.own 900000000)]))), (2, (.v (.v false [(.i .i64 x0)]))), (10, (.v (.v false [(.i .i64 x1)]))), (1800000001, (.o (.row 3 true x2)))]) K) = Pu.laws_markIntS.l2 N (fun y0 y1 y2 => (K (.exit 0) (tabl [(0, (.v (.v false [(.own 900000000)]))), (2, (.v (.v false [(.i .i64 y0)]))), (10, (.v (.v false [(.i .i64 y1)]))), (1800000001, (.o (.row 3 true y2)))]))) n := by funext x0 x1 x2; exact ih x0 x1 x2
    intro x0 x1 x2
    have h : ∀ g, exc E225 (it225 N) (loopOf Try.f225 2) (tabl [(0, (.v (.v false [(.own 900000000)]))), (2, (.v (.v false [(.i .i64 x0)]))), (10, (.v (.v false [(.i .i64 x1)]))), (1800000001, (.o (.row 3 true x2)))]) (iterK g (canon (E225.keep 2)) K) = Pu.laws_markIntS.r2 N (fun x0 x1 x2 => (g (tabl [(0, (.v (.v false [(.own 900000000)]))), (2, (.v (.v false [(.i .i64 x0)]))), (10, (.v (.v false [(.i .i64 x1)]))), (1800000001, (.o (.row 3 true x2)))]))) (fun y0 y1 y2 => (K (.exit 0) (tabl [(0, (.v (.v false [(.own 900000000)]))), (2, (.v (.v false [(.i .i64 y0)]))), (10, (.v (.v false [(.i .i64 y1)]))), (1800000001, (.o (.row 3 true y2)))]))) x0 x1 x2 := by intro g; kernel_rfl
    refine (h _).trans ?_
    show Pu.laws_markIntS.r2 N (fun x0 x1 x2 => (iter (exc E225 (it225 N) (loopOf Try.f225 2)) (canon (E225.keep 2))  n (tabl [(0, (.v (.v false [(.own 900000000)]))), (2, (.v (.v false [(.i .i64 x0)]))), (10, (.v (.v false [(.i .i64 x1)]))), (1800000001, (.o (.row 3 true x2)))]) K)) (fun y0 y1 y2 => (K (.exit 0) (tabl [(0, (.v (.v false [(.own 900000000)]))), (2, (.v (.v false [(.i .i64 y0)]))), (10, (.v (.v false [(.i .i64 y1)]))), (1800000001, (.o (.row 3 true y2)))]))) x0 x1 x2 = _
    rw [e0]; rfl
theorem lo225_2 {R : Type} (N : Nat) : LoopOk E225 (it225 N (R := R)) (loopOf Try.f225 2) := by
  have e : firstRid (loopOf Try.f225 2) = 2 := by kernel_rfl
  intro L K r
  rw [e]
  intro h
  unfold it225 at h
  simp only [show Nat.beq 2 2 = true from rfl, cond_false, cond_true] at h
  refine tell_ok (Q := fun L => ∃ n, iter (exc E225 (it225 N) (loopOf Try.f225 2)) (canon (E225.keep 2)) n (tabl L) K = some r) h (fun xs h => ?_) (fun h => ?_)
  · (try dsimp only at h)
    split at h
    · exact ⟨N, ((e225_2 N K N) _ _ _).trans h⟩
    · cases h
  cases h
def sp225 : List Arg → Option (Bool × Res)
  | [(.v false [(.ow 3 true a0)]), (.v false [(.i .i64 k1)])] => some (Pu.laws_markIntS.c a0 k1, ⟨[(.v false [(.i .i64 ((Pu.laws_markIntS.v a0 k1).1))])], [[(.kp ((Pu.laws_markIntS.v a0 k1).2))]]⟩)
  | _ => none
theorem ok225 : FnOk Try.prog T 225 sp225 := by
  refine fn_ok (E := E225) hE call_nil hM Try.func225 (code := (Try.f225.body.getD .skip)) (by kernel_rfl) (by kernel_rfl) ?_
  have key : ∀ (a0 : Row) (k1 : Int), Pu.laws_markIntS.c a0 k1 = true → ∃ it : It Res, (∀ c ∈ loopsOf (Try.f225.body.getD .skip), LoopOk E225 it c) ∧ body E225 it Try.f225 [(.v false [(.ow 3 true a0)]), (.v false [(.i .i64 k1)])] = some ⟨[(.v false [(.i .i64 ((Pu.laws_markIntS.v a0 k1).1))])], [[(.kp ((Pu.laws_markIntS.v a0 k1).2))]]⟩ := by
    intro a0 k1  h1
    obtain ⟨N, hN⟩ := Pu.laws_markIntS.b_eq (R := Res) (fun r0 r1 => some ⟨[(.v false [(.i .i64 r0)])], [[(.kp r1)]]⟩) a0 k1 h1
    have hl : loopsOf (Try.f225.body.getD .skip) = [loopOf Try.f225 2] := by kernel_rfl
    refine ⟨it225 N, by rw [hl]; exact (loops_cons (lo225_2 N) loops_nil), ?_⟩
    refine Eq.trans (show body E225 (it225 N) Try.f225 [(.v false [(.ow 3 true a0)]), (.v false [(.i .i64 k1)])] = Pu.laws_markIntS.b N (fun r0 r1 => some ⟨[(.v false [(.i .i64 r0)])], [[(.kp r1)]]⟩) a0 k1 by kernel_rfl) hN
  intro args r h
  unfold sp225 at h
  split at h
  · injection h with h
    injection h with h1 h2
    subst h2
    exact ⟨by kernel_rfl, fun hf => ⟨of_decide_eq_true (by kernel_rfl), key _ _ h1⟩⟩
  · cases h

end Go.FG.Se

namespace Go.FG.Se
open Go.Proofs
def E212 : Env := { toTab := T, call := Go.FG.callIn [(225, sp225)], mode := Go.FG.modeIn md, keep := Go.FG.keepIn [(2, [0, 1, 5])], tk := fun n => Go.FG.memB n [], om := Go.FG.omIn [] }
def it212 (N : Nat) {R : Type} : It R := fun rid f cn L K => bif Nat.beq rid 2 then (tell [(0, (.v (.v false [(.own 900000000)]))), (2, (.v (.v false [(.i .i64 0)]))), (10, (.v (.v false [(.i .i64 0)]))), (1800000001, (.o (.row 49 true [])))] (fun | [.I x0, .I x1, .R x2] => Pu.laws_markIntSS.l2 N (fun y0 y1 y2 => (K (.exit 0) (tabl [(0, (.v (.v false [(.own 900000000)]))), (2, (.v (.v false [(.i .i64 y0)]))), (10, (.v (.v false [(.i .i64 y1)]))), (1800000001, (.o (.row 49 true y2)))]))) N x0 x1 x2 | _ => none) L (none)) else none
theorem e212_2 {R : Type} (N : Nat) (K : Ex → St → Option R) : ∀ n : Nat, (∀ x0 x1 x2, iter (exc E212 (it212 N) (loopOf Try.f212 2)) (canon (E212.keep 2))  n (tabl [(0, (.v (.v false [(.own 900000000)]))), (2, (.v (.v false [(.i .i64 x0)]))), (10, (.v (.v false [(.i .i64 x1)]))), (1800000001, (.o (.row 49 true x2)))]) K = Pu.laws_markIntSS.l2 N (fun y0 y1 y2 => (K (.exit 0) (tabl [(0, (.v (.v false [(.own 900000000)]))), (2, (.v (.v false [(.i .i64 y0)]))), (10, (.v (.v false [(.i .i64 y1)]))), (1800000001, (.o (.row 49 true y2)))]))) n x0 x1 x2) := by
  intro n
  induction n with
  | zero => exact (fun _ _ _ => rfl)
  | succ n ih =>
    have e0 : (fun x0 x1 x2 => iter (exc E212 (it212 N) (loopOf Try.f212 2)) (canon (E212.keep 2))  n (tabl [(0, (.v (.v false [(.own 900000000)]))), (2, (.v (.v false [(.i .i64 x0)]))), (10, (.v (.v false [(.i .i64 x1)]))), (1800000001, (.o (.row 49 true x2)))]) K) = Pu.laws_markIntSS.l2 N (fun y0 y1 y2 => (K (.exit 0) (tabl [(0, (.v (.v false [(.own 900000000)]))), (2, (.v (.v false [(.i .i64 y0)]))), (10, (.v (.v false [(.i .i64 y1)]))), (1800000001, (.o (.row 49 true y2)))]))) n := by funext x0 x1 x2; exact ih x0 x1 x2
    intro x0 x1 x2
    have h : ∀ g, exc E212 (it212 N) (loopOf Try.f212 2) (tabl [(0, (.v (.v false [(.own 900000000)]))), (2, (.v (.v false [(.i .i64 x0)]))), (10, (.v (.v false [(.i .i64 x1)]))), (1800000001, (.o (.row 49 true x2)))]) (iterK g (canon (E212.keep 2)) K) = Pu.laws_markIntSS.r2 N (fun x0 x1 x2 => (g (tabl [(0, (.v (.v false [(.own 900000000)]))), (2, (.v (.v false [(.i .i64 x0)]))), (10, (.v (.v false [(.i .i64 x1)]))), (1800000001, (.o (.row 49 true x2)))]))) (fun y0 y1 y2 => (K (.exit 0) (tabl [(0, (.v (.v false [(.own 900000000)]))), (2, (.v (.v false [(.i .i64 y0)]))), (10, (.v (.v false [(.i .i64 y1)]))), (1800000001, (.o (.row 49 true y2)))]))) x0 x1 x2 := by intro g; kernel_rfl
    refine (h _).trans ?_
    show Pu.laws_markIntSS.r2 N (fun x0 x1 x2 => (iter (exc E212 (it212 N) (loopOf Try.f212 2)) (canon (E212.keep 2))  n (tabl [(0, (.v (.v false [(.own 900000000)]))), (2, (.v (.v false [(.i .i64 x0)]))), (10, (.v (.v false [(.i .i64 x1)]))), (1800000001, (.o (.row 49 true x2)))]) K)) (fun y0 y1 y2 => (K (.exit 0) (tabl [(0, (.v (.v false [(.own 900000000)]))), (2, (.v (.v false [(.i .i64 y0)]))), (10, (.v (.v false [(.i .i64 y1)]))), (1800000001, (.o (.row 49 true y2)))]))) x0 x1 x2 = _
    rw [e0]; rfl
theorem lo212_2 {R : Type} (N : Nat) : LoopOk E212 (it212 N (R := R)) (loopOf Try.f212 2) := by
  have e : firstRid (loopOf Try.f212 2) = 2 := by kernel_rfl
  intro L K r
  rw [e]
  intro h
  unfold it212 at h
  simp only [show Nat.beq 2 2 = true from rfl, cond_false, cond_true] at h
  refine tell_ok (Q := fun L => ∃ n, iter (exc E212 (it212 N) (loopOf Try.f212 2)) (canon (E212.keep 2)) n (tabl L) K = some r) h (fun xs h => ?_) (fun h => ?_)
  · (try dsimp only at h)
    split at h
    · exact ⟨N, ((e212_2 N K N) _ _ _).trans h⟩
    · cases h
  cases h
def sp212 : List Arg → Option (Bool × Res)
  | [(.v false [(.ow 49 true a0)]), (.v false [(.i .i64 k1)])] => some (Pu.laws_markIntSS.c a0 k1, ⟨[(.v false [(.i .i64 ((Pu.laws_markIntSS.v a0 k1).1))])], [[(.kp ((Pu.laws_markIntSS.v a0 k1).2))]]⟩)
  | _ => none
theorem ok212 : FnOk Try.prog T 212 sp212 := by
  refine fn_ok (E := E212) hE (call_cons ok225 call_nil) hM Try.func212 (code := (Try.f212.body.getD .skip)) (by kernel_rfl) (by kernel_rfl) ?_
  have key : ∀ (a0 : Row) (k1 : Int), Pu.laws_markIntSS.c a0 k1 = true → ∃ it : It Res, (∀ c ∈ loopsOf (Try.f212.body.getD .skip), LoopOk E212 it c) ∧ body E212 it Try.f212 [(.v false [(.ow 49 true a0)]), (.v false [(.i .i64 k1)])] = some ⟨[(.v false [(.i .i64 ((Pu.laws_markIntSS.v a0 k1).1))])], [[(.kp ((Pu.laws_markIntSS.v a0 k1).2))]]⟩ := by
    intro a0 k1  h1
    obtain ⟨N, hN⟩ := Pu.laws_markIntSS.b_eq (R := Res) (fun r0 r1 => some ⟨[(.v false [(.i .i64 r0)])], [[(.kp r1)]]⟩) a0 k1 h1
    have hl : loopsOf (Try.f212.body.getD .skip) = [loopOf Try.f212 2] := by kernel_rfl
    refine ⟨it212 N, by rw [hl]; exact (loops_cons (lo212_2 N) loops_nil), ?_⟩
    refine Eq.trans (show body E212 (it212 N) Try.f212 [(.v false [(.ow 49 true a0)]), (.v false [(.i .i64 k1)])] = Pu.laws_markIntSS.b N (fun r0 r1 => some ⟨[(.v false [(.i .i64 r0)])], [[(.kp r1)]]⟩) a0 k1 by kernel_rfl) hN
  intro args r h
  unfold sp212 at h
  split at h
  · injection h with h
    injection h with h1 h2
    subst h2
    exact ⟨by kernel_rfl, fun hf => ⟨of_decide_eq_true (by kernel_rfl), key _ _ h1⟩⟩
  · cases h

end Go.FG.Se

namespace Go.FG.Se
open Go.Proofs
def E186 : Env := { toTab := T, call := Go.FG.callIn [(212, sp212)], mode := Go.FG.modeIn md, keep := Go.FG.keepIn [], tk := fun n => Go.FG.memB n [], om := Go.FG.omIn [] }
def sp186 : List Arg → Option (Bool × Res)
  | [(.v true [(.ow 49 true a0_0), (.i .i64 a0_1)]), (.v false [(.i .i64 k1)])] => some (Pu.laws_markSketch.c a0_0 a0_1 k1, ⟨[(.v false [(.i .i64 ((Pu.laws_markSketch.v a0_0 a0_1 k1).1))])], [[(.kp ((Pu.laws_markSketch.v a0_0 a0_1 k1).2)), .nl]]⟩)
  | _ => none
theorem ok186 : FnOk Try.prog T 186 sp186 := by
  refine fn_ok (E := E186) hE (call_cons ok212 call_nil) hM Try.func186 (code := (Try.f186.body.getD .skip)) (by kernel_rfl) (by kernel_rfl) ?_
  have key : ∀ (a0_0 : Row) (a0_1 : Int) (k1 : Int), Pu.laws_markSketch.c a0_0 a0_1 k1 = true → ∃ it : It Res, (∀ c ∈ loopsOf (Try.f186.body.getD .skip), LoopOk E186 it c) ∧ body E186 it Try.f186 [(.v true [(.ow 49 true a0_0), (.i .i64 a0_1)]), (.v false [(.i .i64 k1)])] = some ⟨[(.v false [(.i .i64 ((Pu.laws_markSketch.v a0_0 a0_1 k1).1))])], [[(.kp ((Pu.laws_markSketch.v a0_0 a0_1 k1).2)), .nl]]⟩ := by
    intro a0_0 a0_1 k1  h1
    have hN := Pu.laws_markSketch.b_eq (R := Res) (fun r0 r1 => some ⟨[(.v false [(.i .i64 r0)])], [[(.kp r1), .nl]]⟩) a0_0 a0_1 k1 h1
    have hl : loopsOf (Try.f186.body.getD .skip) = [] := by kernel_rfl
    refine ⟨iterN 0, by rw [hl]; exact loops_nil, ?_⟩
    refine Eq.trans (show body E186 (iterN 0) Try.f186 [(.v true [(.ow 49 true a0_0), (.i .i64 a0_1)]), (.v false [(.i .i64 k1)])] = Pu.laws_markSketch.b (fun r0 r1 => some ⟨[(.v false [(.i .i64 r0)])], [[(.kp r1), .nl]]⟩) a0_0 a0_1 k1 by kernel_rfl) hN
  intro args r h
  unfold sp186 at h
  split at h
  · injection h with h
    injection h with h1 h2
    subst h2
    exact ⟨by kernel_rfl, fun hf => ⟨of_decide_eq_true (by kernel_rfl), key _ _ _ h1⟩⟩
  · cases h

end Go.FG.Se

namespace Go.FG.Se
open Go.Proofs
def E134 : Env := { toTab := T, call := Go.FG.callIn [(185, sp185), (186, sp186)], mode := Go.FG.modeIn md, keep := Go.FG.keepIn [], tk := fun n => Go.FG.memB n [], om := Go.FG.omIn [] }
def sp134 : List Arg → Option (Bool × Res)
  | [(.v true [(.ow 9 true a0_0), (.ow 9 true a0_1), (.ow 49 true a0_2), (.i .i64 a0_3)]), (.v false [(.i .i64 k1)])] => some (Pu.laws_markPolicy.c a0_0 a0_1 a0_2 a0_3 k1, ⟨[(.v false [(.i .i64 ((Pu.laws_markPolicy.v a0_0 a0_1 a0_2 a0_3 k1).1))])], [[(.kp ((Pu.laws_markPolicy.v a0_0 a0_1 a0_2 a0_3 k1).2.1)), (.kp ((Pu.laws_markPolicy.v a0_0 a0_1 a0_2 a0_3 k1).2.2.1)), (.kp ((Pu.laws_markPolicy.v a0_0 a0_1 a0_2 a0_3 k1).2.2.2)), .nl]]⟩)
  | _ => none
theorem ok134 : FnOk Try.prog T 134 sp134 := by
  refine fn_ok (E := E134) hE (call_cons ok185 (call_cons ok186 call_nil)) hM Try.func134 (code := (Try.f134.body.getD .skip)) (by kernel_rfl) (by kernel_rfl) ?_
  have key : ∀ (a0_0 : Row) (a0_1 : Row) (a0_2 : Row) (a0_3 : Int) (k1 : Int), Pu.laws_markPolicy.c a0_0 a0_1 a0_2 a0_3 k1 = true → ∃ it : It Res, (∀ c ∈ loopsOf (Try.f134.body.getD .skip), LoopOk E134 it c) ∧ body E134 it Try.f134 [(.v true [(.ow 9 true a0_0), (.ow 9 true a0_1), (.ow 49 true a0_2), (.i .i64 a0_3)]), (.v false [(.i .i64 k1)])] = some ⟨[(.v false [(.i .i64 ((Pu.laws_markPolicy.v a0_0 a0_1 a0_2 a0_3 k1).1))])], [[(.kp ((Pu.laws_markPolicy.v a0_0 a0_1 a0_2 a0_3 k1).2.1)), (.kp ((Pu.laws_markPolicy.v a0_0 a0_1 a0_2 a0_3 k1).2.2.1)), (.kp ((Pu.laws_markPolicy.v a0_0 a0_1 a0_2 a0_3 k1).2.2.2)), .nl]]⟩ := by
    intro a0_0 a0_1 a0_2 a0_3 k1  h1
    have hN := Pu.laws_markPolicy.b_eq (R := Res) (fun r0 r1 r2 r3 => some ⟨[(.v false [(.i .i64 r0)])], [[(.kp r1), (.kp r2), (.kp r3), .nl]]⟩) a0_0 a0_1 a0_2 a0_3 k1 h1
    have hl : loopsOf (Try.f134.body.getD .skip) = [] := by kernel_rfl
    refine ⟨iterN 0, by rw [hl]; exact loops_nil, ?_⟩
    refine Eq.trans (show body E134 (iterN 0) Try.f134 [(.v true [(.ow 9 true a0_0), (.ow 9 true a0_1), (.ow 49 true a0_2), (.i .i64 a0_3)]), (.v false [(.i .i64 k1)])] = Pu.laws_markPolicy.b (fun r0 r1 r2 r3 => some ⟨[(.v false [(.i .i64 r0)])], [[(.kp r1), (.kp r2), (.kp r3), .nl]]⟩) a0_0 a0_1 a0_2 a0_3 k1 by kernel_rfl) hN
  intro args r h
  unfold sp134 at h
  split at h
  · injection h with h
    injection h with h1 h2
    subst h2
    exact ⟨by kernel_rfl, fun hf => ⟨of_decide_eq_true (by kernel_rfl), key _ _ _ _ _ h1⟩⟩
  · cases h

end Go.FG.Se

namespace Go.FG.Se
open Go.Proofs
def E135 : Env := { toTab := T, call := Go.FG.callIn [(100, sp100)], mode := Go.FG.modeIn md, keep := Go.FG.keepIn [(2, [0, 1, 5])], tk := fun n => Go.FG.memB n [], om := Go.FG.omIn [] }
def it135 (N : Nat) {R : Type} : It R := fun rid f cn L K => bif Nat.beq rid 2 then (tell [(0, (.v (.v false [(.own 900000000)]))), (2, (.v (.v false [(.i .i64 0)]))), (10, (.v (.v false [(.i .i64 0)]))), (1800000001, (.o (.row 175 true [])))] (fun | [.I x0, .I x1, .R x2] => Pu.laws_markFetchS.l2 N (fun y0 y1 y2 => (K (.exit 0) (tabl [(0, (.v (.v false [(.own 900000000)]))), (2, (.v (.v false [(.i .i64 y0)]))), (10, (.v (.v false [(.i .i64 y1)]))), (1800000001, (.o (.row 175 true y2)))]))) N x0 x1 x2 | _ => none) L (none)) else none
theorem e135_2 {R : Type} (N : Nat) (K : Ex → St → Option R) : ∀ n : Nat, (∀ x0 x1 x2, iter (exc E135 (it135 N) (loopOf Try.f135 2)) (canon (E135.keep 2))  n (tabl [(0, (.v (.v false [(.own 900000000)]))), (2, (.v (.v false [(.i .i64 x0)]))), (10, (.v (.v false [(.i .i64 x1)]))), (1800000001, (.o (.row 175 true x2)))]) K = Pu.laws_markFetchS.l2 N (fun y0 y1 y2 => (K (.exit 0) (tabl [(0, (.v (.v false [(.own 900000000)]))), (2, (.v (.v false [(.i .i64 y0)]))), (10, (.v (.v false [(.i .i64 y1)]))), (1800000001, (.o (.row 175 true y2)))]))) n x0 x1 x2) := by
  intro n
  induction n with
  | zero => exact (fun _ _ _ => rfl)
  | succ n ih =>
    have e0 : (fun x0 x1 x2 => iter (exc E135 (it135 N) (loopOf Try.f135 2)) (canon (E135.keep 2))  n (tabl [(0, (.v (.v false [(.own 900000000)]))), (2, (.v (.v false [(.i .i64 x0)]))), (10, (.v (.v false [(.i .i64 x1)]))), (1800000001, (.o (.row 175 true x2)))]) K) = Pu.laws_markFetchS.l2 N (fun y0 y1 y2 => (K (.exit 0) (tabl [(0, (.v (.v false [(.own 900000000)]))), (2, (.v (.v false [(.i .i64 y0)]))), (10, (.v (.v false [(.i .i64 y1)]))), (1800000001, (.o (.row 175 true y2)))]))) n := by funext x0 x1 x2; exact ih x0 x1 x2
    intro x0 x1 x2
    have h : ∀ g, exc E135 (it135 N) (loopOf Try.f135 2) (tabl [(0, (.v (.v false [(.own 900000000)]))), (2, (.v (.v false [(.i .i64 x0)]))), (10, (.v (.v false [(.i .i64 x1)]))), (1800000001, (.o (.row 175 true x2)))]) (iterK g (canon (E135.keep 2)) K) = Pu.laws_markFetchS.r2 N (fun x0 x1 x2 => (g (tabl [(0, (.v (.v false [(.own 900000000)]))), (2, (.v (.v false [(.i .i64 x0)]))), (10, (.v (.v false [(.i .i64 x1)]))), (1800000001, (.o (.row 175 true x2)))]))) (fun y0 y1 y2 => (K (.exit 0) (tabl [(0, (.v (.v false [(.own 900000000)]))), (2, (.v (.v false [(.i .i64 y0)]))), (10, (.v (.v false [(.i .i64 y1)]))), (1800000001, (.o (.row 175 true y2)))]))) x0 x1 x2 := by intro g; kernel_rfl
    refine (h _).trans ?_
    show Pu.laws_markFetchS.r2 N (fun x0 x1 x2 => (iter (exc E135 (it135 N) (loopOf Try.f135 2)) (canon (E135.keep 2))  n (tabl [(0, (.v (.v false [(.own 900000000)]))), (2, (.v (.v false [(.i .i64 x0)]))), (10, (.v (.v false [(.i .i64 x1)]))), (1800000001, (.o (.row 175 true x2)))]) K)) (fun y0 y1 y2 => (K (.exit 0) (tabl [(0, (.v (.v false [(.own 900000000)]))), (2, (.v (.v false [(.i .i64 y0)]))), (10, (.v (.v false [(.i .i64 y1)]))), (1800000001, (.o (.row 175 true y2)))]))) x0 x1 x2 = _
    rw [e0]; rfl
theorem lo135_2 {R : Type} (N : Nat) : LoopOk E135 (it135 N (R := R)) (loopOf Try.f135 2) := by
  have e : firstRid (loopOf Try.f135 2) = 2 := by kernel_rfl
  intro L K r
  rw [e]
  intro h
  unfold it135 at h
  simp only [show Nat.beq 2 2 = true from rfl, cond_false, cond_true] at h
  refine tell_ok (Q := fun L => ∃ n, iter (exc E135 (it135 N) (loopOf Try.f135 2)) (canon (E135.keep 2)) n (tabl L) K = some r) h (fun xs h => ?_) (fun h => ?_)
  · (try dsimp only at h)
    split at h
    · exact ⟨N, ((e135_2 N K N) _ _ _).trans h⟩
    · cases h
  cases h
def sp135 : List Arg → Option (Bool × Res)
  | [(.v false [(.ow 175 true a0)]), (.v false [(.i .i64 k1)])] => some (Pu.laws_markFetchS.c a0 k1, ⟨[(.v false [(.i .i64 ((Pu.laws_markFetchS.v a0 k1).1))])], [[(.kp ((Pu.laws_markFetchS.v a0 k1).2))]]⟩)
  | _ => none
theorem ok135 : FnOk Try.prog T 135 sp135 := by
  refine fn_ok (E := E135) hE (call_cons ok100 call_nil) hM Try.func135 (code := (Try.f135.body.getD .skip)) (by kernel_rfl) (by kernel_rfl) ?_
  have key : ∀ (a0 : Row) (k1 : Int), Pu.laws_markFetchS.c a0 k1 = true → ∃ it : It Res, (∀ c ∈ loopsOf (Try.f135.body.getD .skip), LoopOk E135 it c) ∧ body E135 it Try.f135 [(.v false [(.ow 175 true a0)]), (.v false [(.i .i64 k1)])] = some ⟨[(.v false [(.i .i64 ((Pu.laws_markFetchS.v a0 k1).1))])], [[(.kp ((Pu.laws_markFetchS.v a0 k1).2))]]⟩ := by
    intro a0 k1  h1
    obtain ⟨N, hN⟩ := Pu.laws_markFetchS.b_eq (R := Res) (fun r0 r1 => some ⟨[(.v false [(.i .i64 r0)])], [[(.kp r1)]]⟩) a0 k1 h1
    have hl : loopsOf (Try.f135.body.getD .skip) = [loopOf Try.f135 2] := by kernel_rfl
    refine ⟨it135 N, by rw [hl]; exact (loops_cons (lo135_2 N) loops_nil), ?_⟩
    refine Eq.trans (show body E135 (it135 N) Try.f135 [(.v false [(.ow 175 true a0)]), (.v false [(.i .i64 k1)])] = Pu.laws_markFetchS.b N (fun r0 r1 => some ⟨[(.v false [(.i .i64 r0)])], [[(.kp r1)]]⟩) a0 k1 by kernel_rfl) hN
  intro args r h
  unfold sp135 at h
  split at h
  · injection h with h
    injection h with h1 h2
    subst h2
    exact ⟨by kernel_rfl, fun hf => ⟨of_decide_eq_true (by kernel_rfl), key _ _ h1⟩⟩
  · cases h

end Go.FG.Se

namespace Go.FG.Se
open Go.Proofs
def E136 : Env := { toTab := T, call := Go.FG.callIn [(100, sp100)], mode := Go.FG.modeIn md, keep := Go.FG.keepIn [(2, [0, 1, 5])], tk := fun n => Go.FG.memB n [], om := Go.FG.omIn [] }
def it136 (N : Nat) {R : Type} : It R := fun rid f cn L K => bif Nat.beq rid 2 then (tell [(0, (.v (.v false [(.own 900000000)]))), (2, (.v (.v false [(.i .i64 0)]))), (10, (.v (.v false [(.i .i64 0)]))), (1800000001, (.o (.row 214 true [])))] (fun | [.I x0, .I x1, .R x2] => Pu.laws_markClientS.l2 N (fun y0 y1 y2 => (K (.exit 0) (tabl [(0, (.v (.v false [(.own 900000000)]))), (2, (.v (.v false [(.i .i64 y0)]))), (10, (.v (.v false [(.i .i64 y1)]))), (1800000001, (.o (.row 214 true y2)))]))) N x0 x1 x2 | _ => none) L (none)) else none
theorem e136_2 {R : Type} (N : Nat) (K : Ex → St → Option R) : ∀ n : Nat, (∀ x0 x1 x2, iter (exc E136 (it136 N) (loopOf Try.f136 2)) (canon (E136.keep 2))  n (tabl [(0, (.v (.v false [(.own 900000000)]))), (2, (.v (.v false [(.i .i64 x0)]))), (10, (.v (.v false [(.i .i64 x1)]))), (1800000001, (.o (.row 214 true x2)))]) K = Pu.laws_markClientS.l2 N (fun y0 y1 y2 => (K (.exit 0) (tabl [(0, (.v (.v false [(.own 900000000)]))), (2, (.v (.v false [(.i .i64 y0)]))), (10, (.v (.v false [(.i .i64 y1)]))), (1800000001, (.o (.row 214 true y2)))]))) n x0 x1 x2) := by
  intro n
  induction n with
  | zero => exact (fun _ _ _ => rfl)
  | succ n ih =>
    have e0 : (fun x0 x1 x2 => iter (exc E136 (it136 N) (loopOf Try.f136 2)) (canon (E136.keep 2))  n (tabl [(0, (.v (.v false [(.own 900000000)]))), (2, (.v (.v false [(.i .i64 x0)]))), (10, (.v (.v false [(.i .i64 x1)]))), (1800000001, (.o (.row 214 true x2)))]) K) = Pu.laws_markClientS.l2 N (fun y0 y1 y2 => (K (.exit 0) (tabl [(0, (.v (.v false [(.own 900000000)]))), (2, (.v (.v false [(.i .i64 y0)]))), (10, (.v (.v false [(.i .i64 y1)]))), (1800000001, (.o (.row 214 true y2)))]))) n := by funext x0 x1 x2; exact ih x0 x1 x2
    intro x0 x1 x2
    have h : ∀ g, exc E136 (it136 N) (loopOf Try.f136 2) (tabl [(0, (.v (.v false [(.own 900000000)]))), (2, (.v (.v false [(.i .i64 x0)]))), (10, (.v (.v false [(.i .i64 x1)]))), (1800000001, (.o (.row 214 true x2)))]) (iterK g (canon (E136.keep 2)) K) = Pu.laws_markClientS.r2 N (fun x0 x1 x2 => (g (tabl [(0, (.v (.v false [(.own 900000000)]))), (2, (.v (.v false [(.i .i64 x0)]))), (10, (.v (.v false [(.i .i64 x1)]))), (1800000001, (.o (.row 214 true x2)))]))) (fun y0 y1 y2 => (K (.exit 0) (tabl [(0, (.v (.v false [(.own 900000000)]))), (2, (.v (.v false [(.i .i64 y0)]))), (10, (.v (.v false [(.i .i64 y1)]))), (1800000001, (.o (.row 214 true y2)))]))) x0 x1 x2 := by intro g; kernel_rfl
    refine (h _).trans ?_
    show Pu.laws_markClientS.r2 N (fun x0 x1 x2 => (iter (exc E136 (it136 N) (loopOf Try.f136 2)) (canon (E136.keep 2))  n (tabl [(0, (.v (.v false [(.own 900000000)]))), (2, (.v (.v false [(.i .i64 x0)]))), (10, (.v (.v false [(.i .i64 x1)]))), (1800000001, (.o (.row 214 true x2)))]) K)) (fun y0 y1 y2 => (K (.exit 0) (tabl [(0, (.v (.v false [(.own 900000000)]))), (2, (.v (.v false [(.i .i64 y0)]))), (10, (.v (.v false [(.i .i64 y1)]))), (1800000001, (.o (.row 214 true y2)))]))) x0 x1 x2 = _
    rw [e0]; rfl
theorem lo136_2 {R : Type} (N : Nat) : LoopOk E136 (it136 N (R := R)) (loopOf Try.f136 2) := by
  have e : firstRid (loopOf Try.f136 2) = 2 := by kernel_rfl
  intro L K r
  rw [e]
  intro h
  unfold it136 at h
  simp only [show Nat.beq 2 2 = true from rfl, cond_false, cond_true] at h
  refine tell_ok (Q := fun L => ∃ n, iter (exc E136 (it136 N) (loopOf Try.f136 2)) (canon (E136.keep 2)) n (tabl L) K = some r) h (fun xs h => ?_) (fun h => ?_)
  · (try dsimp only at h)
    split at h
    · exact ⟨N, ((e136_2 N K N) _ _ _).trans h⟩
    · cases h
  cases h
def sp136 : List Arg → Option (Bool × Res)
  | [(.v false [(.ow 214 true a0)]), (.v false [(.i .i64 k1)])] => some (Pu.laws_markClientS.c a0 k1, ⟨[(.v false [(.i .i64 ((Pu.laws_markClientS.v a0 k1).1))])], [[(.kp ((Pu.laws_markClientS.v a0 k1).2))]]⟩)
  | _ => none
theorem ok136 : FnOk Try.prog T 136 sp136 := by
  refine fn_ok (E := E136) hE (call_cons ok100 call_nil) hM Try.func136 (code := (Try.f136.body.getD .skip)) (by kernel_rfl) (by kernel_rfl) ?_
  have key : ∀ (a0 : Row) (k1 : Int), Pu.laws_markClientS.c a0 k1 = true → ∃ it : It Res, (∀ c ∈ loopsOf (Try.f136.body.getD .skip), LoopOk E136 it c) ∧ body E136 it Try.f136 [(.v false [(.ow 214 true a0)]), (.v false [(.i .i64 k1)])] = some ⟨[(.v false [(.i .i64 ((Pu.laws_markClientS.v a0 k1).1))])], [[(.kp ((Pu.laws_markClientS.v a0 k1).2))]]⟩ := by
    intro a0 k1  h1
    obtain ⟨N, hN⟩ := Pu.laws_markClientS.b_eq (R := Res) (fun r0 r1 => some ⟨[(.v false [(.i .i64 r0)])], [[(.kp r1)]]⟩) a0 k1 h1
    have hl : loopsOf (Try.f136.body.getD .skip) = [loopOf Try.f136 2] := by kernel_rfl
    refine ⟨it136 N, by rw [hl]; exact (loops_cons (lo136_2 N) loops_nil), ?_⟩
    refine Eq.trans (show body E136 (it136 N) Try.f136 [(.v false [(.ow 214 true a0)]), (.v false [(.i .i64 k1)])] = Pu.laws_markClientS.b N (fun r0 r1 => some ⟨[(.v false [(.i .i64 r0)])], [[(.kp r1)]]⟩) a0 k1 by kernel_rfl) hN
  intro args r h
  unfold sp136 at h
  split at h
  · injection h with h
    injection h with h1 h2
    subst h2
    exact ⟨by kernel_rfl, fun hf => ⟨of_decide_eq_true (by kernel_rfl), key _ _ h1⟩⟩
  · cases h

end Go.FG.Se

namespace Go.FG.Se
open Go.Proofs
def E64 : Env := { toTab := T, call := Go.FG.callIn [(79, sp79), (134, sp134), (135, sp135), (136, sp136)], mode := Go.FG.modeIn md, keep := Go.FG.keepIn [], tk := fun n => Go.FG.memB n [], om := Go.FG.omIn [] }
def sp64 : List Arg → Option (Bool × Res)
  | [(.v true [(.i .i64 a0_0), (.ow 25 true a0_1), (.ow 9 true a0_2), (.ow 9 true a0_3), (.ow 49 true a0_4), (.i .i64 a0_5), (.ow 175 true a0_6), (.ow 214 true a0_7), (.i .i64 a0_8)]), (.v false [(.i .i64 k1)])] => some (Pu.laws_markProxy.c a0_0 a0_1 a0_2 a0_3 a0_4 a0_5 a0_6 a0_7 a0_8 k1, ⟨[(.v false [(.i .i64 ((Pu.laws_markProxy.v a0_0 a0_1 a0_2 a0_3 a0_4 a0_5 a0_6 a0_7 a0_8 k1).1))])], [[.nl, (.kp ((Pu.laws_markProxy.v a0_0 a0_1 a0_2 a0_3 a0_4 a0_5 a0_6 a0_7 a0_8 k1).2.1)), (.kp ((Pu.laws_markProxy.v a0_0 a0_1 a0_2 a0_3 a0_4 a0_5 a0_6 a0_7 a0_8 k1).2.2.1)), (.kp ((Pu.laws_markProxy.v a0_0 a0_1 a0_2 a0_3 a0_4 a0_5 a0_6 a0_7 a0_8 k1).2.2.2.1)), (.kp ((Pu.laws_markProxy.v a0_0 a0_1 a0_2 a0_3 a0_4 a0_5 a0_6 a0_7 a0_8 k1).2.2.2.2.1)), .nl, (.kp ((Pu.laws_markProxy.v a0_0 a0_1 a0_2 a0_3 a0_4 a0_5 a0_6 a0_7 a0_8 k1).2.2.2.2.2.1)), (.kp ((Pu.laws_markProxy.v a0_0 a0_1 a0_2 a0_3 a0_4 a0_5 a0_6 a0_7 a0_8 k1).2.2.2.2.2.2)), .nl]]⟩)
  | _ => none
theorem ok64 : FnOk Try.prog T 64 sp64 := by
  refine fn_ok (E := E64) hE (call_cons ok79 (call_cons ok134 (call_cons ok135 (call_cons ok136 call_nil)))) hM Try.func64 (code := (Try.f64.body.getD .skip)) (by kernel_rfl) (by kernel_rfl) ?_
  have key : ∀ (a0_0 : Int) (a0_1 : Row) (a0_2 : Row) (a0_3 : Row) (a0_4 : Row) (a0_5 : Int) (a0_6 : Row) (a0_7 : Row) (a0_8 : Int) (k1 : Int), Pu.laws_markProxy.c a0_0 a0_1 a0_2 a0_3 a0_4 a0_5 a0_6 a0_7 a0_8 k1 = true → ∃ it : It Res, (∀ c ∈ loopsOf (Try.f64.body.getD .skip), LoopOk E64 it c) ∧ body E64 it Try.f64 [(.v true [(.i .i64 a0_0), (.ow 25 true a0_1), (.ow 9 true a0_2), (.ow 9 true a0_3), (.ow 49 true a0_4), (.i .i64 a0_5), (.ow 175 true a0_6), (.ow 214 true a0_7), (.i .i64 a0_8)]), (.v false [(.i .i64 k1)])] = some ⟨[(.v false [(.i .i64 ((Pu.laws_markProxy.v a0_0 a0_1 a0_2 a0_3 a0_4 a0_5 a0_6 a0_7 a0_8 k1).1))])], [[.nl, (.kp ((Pu.laws_markProxy.v a0_0 a0_1 a0_2 a0_3 a0_4 a0_5 a0_6 a0_7 a0_8 k1).2.1)), (.kp ((Pu.laws_markProxy.v a0_0 a0_1 a0_2 a0_3 a0_4 a0_5 a0_6 a0_7 a0_8 k1).2.2.1)), (.kp ((Pu.laws_markProxy.v a0_0 a0_1 a0_2 a0_3 a0_4 a0_5 a0_6 a0_7 a0_8 k1).2.2.2.1)), (.kp ((Pu.laws_markProxy.v a0_0 a0_1 a0_2 a0_3 a0_4 a0_5 a0_6 a0_7 a0_8 k1).2.2.2.2.1)), .nl, (.kp ((Pu.laws_markProxy.v a0_0 a0_1 a0_2 a0_3 a0_4 a0_5 a0_6 a0_7 a0_8 k1).2.2.2.2.2.1)), (.kp ((Pu.laws_markProxy.v a0_0 a0_1 a0_2 a0_3 a0_4 a0_5 a0_6 a0_7 a0_8 k1).2.2.2.2.2.2)), .nl]]⟩ := by
    intro a0_0 a0_1 a0_2 a0_3 a0_4 a0_5 a0_6 a0_7 a0_8 k1  h1
    have hN := Pu.laws_markProxy.b_eq (R := Res) (fun r0 r1 r2 r3 r4 r5 r6 => some ⟨[(.v false [(.i .i64 r0)])], [[.nl, (.kp r1), (.kp r2), (.kp r3), (.kp r4), .nl, (.kp r5), (.kp r6), .nl]]⟩) a0_0 a0_1 a0_2 a0_3 a0_4 a0_5 a0_6 a0_7 a0_8 k1 h1
    have hl : loopsOf (Try.f64.body.getD .skip) = [] := by kernel_rfl
    refine ⟨iterN 0, by rw [hl]; exact loops_nil, ?_⟩
    refine Eq.trans (show body E64 (iterN 0) Try.f64 [(.v true [(.i .i64 a0_0), (.ow 25 true a0_1), (.ow 9 true a0_2), (.ow 9 true a0_3), (.ow 49 true a0_4), (.i .i64 a0_5), (.ow 175 true a0_6), (.ow 214 true a0_7), (.i .i64 a0_8)]), (.v false [(.i .i64 k1)])] = Pu.laws_markProxy.b (fun r0 r1 r2 r3 r4 r5 r6 => some ⟨[(.v false [(.i .i64 r0)])], [[.nl, (.kp r1), (.kp r2), (.kp r3), (.kp r4), .nl, (.kp r5), (.kp r6), .nl]]⟩) a0_0 a0_1 a0_2 a0_3 a0_4 a0_5 a0_6 a0_7 a0_8 k1 by kernel_rfl) hN
  intro args r h
  unfold sp64 at h
  split at h
  · injection h with h
    injection h with h1 h2
    subst h2
    exact ⟨by kernel_rfl, fun hf => ⟨of_decide_eq_true (by kernel_rfl), key _ _ _ _ _ _ _ _ _ _ h1⟩⟩
  · cases h

end Go.FG.Se

namespace Go.FG.Se
open Go.Proofs
def E87 : Env := { toTab := T, call := Go.FG.callIn [(100, sp100)], mode := Go.FG.modeIn md, keep := Go.FG.keepIn [(2, [0, 1, 4, 5])], tk := fun n => Go.FG.memB n [], om := Go.FG.omIn [] }
def it87 (N : Nat) {R : Type} : It R := fun rid f cn L K => bif Nat.beq rid 2 then (tell [(0, (.v (.v false [(.sh 25 [])]))), (2, (.v (.v false [(.i .i64 0)]))), (8, (.v (.v false [(.i .i64 0)]))), (10, (.v (.v false [(.i .i64 0)])))] (fun | [.R x0, .I x1, .I x2, .I x3] => Pu.laws_heldEntryS.l2 N (fun y0 y1 y2 y3 => (K .ret (tabl [(0, (.v (.v false [(.sh 25 y0)]))), (2, (.v (.v false [(.i .i64 y1)]))), (8, (.v (.v false [(.i .i64 y2)]))), (10, (.v (.v false [(.i .i64 y3)])))]))) (fun y0 y1 y2 y3 => (K (.exit 0) (tabl [(0, (.v (.v false [(.sh 25 y0)]))), (2, (.v (.v false [(.i .i64 y1)]))), (8, (.v (.v false [(.i .i64 y2)]))), (10, (.v (.v false [(.i .i64 y3)])))]))) N x0 x1 x2 x3 | _ => none) L (none)) else none
theorem e87_2 {R : Type} (N : Nat) (K : Ex → St → Option R) : ∀ n : Nat, (∀ x0 x1 x2 x3, iter (exc E87 (it87 N) (loopOf Try.f87 2)) (canon (E87.keep 2))  n (tabl [(0, (.v (.v false [(.sh 25 x0)]))), (2, (.v (.v false [(.i .i64 x1)]))), (8, (.v (.v false [(.i .i64 x2)]))), (10, (.v (.v false [(.i .i64 x3)])))]) K = Pu.laws_heldEntryS.l2 N (fun y0 y1 y2 y3 => (K .ret (tabl [(0, (.v (.v false [(.sh 25 y0)]))), (2, (.v (.v false [(.i .i64 y1)]))), (8, (.v (.v false [(.i .i64 y2)]))), (10, (.v (.v false [(.i .i64 y3)])))]))) (fun y0 y1 y2 y3 => (K (.exit 0) (tabl [(0, (.v (.v false [(.sh 25 y0)]))), (2, (.v (.v false [(.i .i64 y1)]))), (8, (.v (.v false [(.i .i64 y2)]))), (10, (.v (.v false [(.i .i64 y3)])))]))) n x0 x1 x2 x3) := by
  intro n
  induction n with
  | zero => exact (fun _ _ _ _ => rfl)
  | succ n ih =>
    have e0 : (fun x0 x1 x2 x3 => iter (exc E87 (it87 N) (loopOf Try.f87 2)) (canon (E87.keep 2))  n (tabl [(0, (.v (.v false [(.sh 25 x0)]))), (2, (.v (.v false [(.i .i64 x1)]))), (8, (.v (.v false [(.i .i64 x2)]))), (10, (.v (.v false [(.i .i64 x3)])))]) K) = Pu.laws_heldEntryS.l2 N (fun y0 y1 y2 y3 => (K .ret (tabl [(0, (.v (.v false [(.sh 25 y0)]))), (2, (.v (.v false [(.i .i64 y1)]))), (8, (.v (.v false [(.i .i64 y2)]))), (10, (.v (.v false [(.i .i64 y3)])))]))) (fun y0 y1 y2 y3 => (K (.exit 0) (tabl [(0, (.v (.v false [(.sh 25 y0)]))), (2, (.v (.v false [(.i .i64 y1)]))), (8, (.v (.v false [(.i .i64 y2)]))), (10, (.v (.v false [(.i .i64 y3)])))]))) n := by funext x0 x1 x2 x3; exact ih x0 x1 x2 x3
    intro x0 x1 x2 x3
    have h : ∀ g, exc E87 (it87 N) (loopOf Try.f87 2) (tabl [(0, (.v (.v false [(.sh 25 x0)]))), (2, (.v (.v false [(.i .i64 x1)]))), (8, (.v (.v false [(.i .i64 x2)]))), (10, (.v (.v false [(.i .i64 x3)])))]) (iterK g (canon (E87.keep 2)) K) = Pu.laws_heldEntryS.r2 N (fun x0 x1 x2 x3 => (g (tabl [(0, (.v (.v false [(.sh 25 x0)]))), (2, (.v (.v false [(.i .i64 x1)]))), (8, (.v (.v false [(.i .i64 x2)]))), (10, (.v (.v false [(.i .i64 x3)])))]))) (fun y0 y1 y2 y3 => (K .ret (tabl [(0, (.v (.v false [(.sh 25 y0)]))), (2, (.v (.v false [(.i .i64 y1)]))), (8, (.v (.v false [(.i .i64 y2)]))), (10, (.v (.v false [(.i .i64 y3)])))]))) (fun y0 y1 y2 y3 => (K (.exit 0) (tabl [(0, (.v (.v false [(.sh 25 y0)]))), (2, (.v (.v false [(.i .i64 y1)]))), (8, (.v (.v false [(.i .i64 y2)]))), (10, (.v (.v false [(.i .i64 y3)])))]))) x0 x1 x2 x3 := by intro g; kernel_rfl
    refine (h _).trans ?_
    show Pu.laws_heldEntryS.r2 N (fun x0 x1 x2 x3 => (iter (exc E87 (it87 N) (loopOf Try.f87 2)) (canon (E87.keep 2))  n (tabl [(0, (.v (.v false [(.sh 25 x0)]))), (2, (.v (.v false [(.i .i64 x1)]))), (8, (.v (.v false [(.i .i64 x2)]))), (10, (.v (.v false [(.i .i64 x3)])))]) K)) (fun y0 y1 y2 y3 => (K .ret (tabl [(0, (.v (.v false [(.sh 25 y0)]))), (2, (.v (.v false [(.i .i64 y1)]))), (8, (.v (.v false [(.i .i64 y2)]))), (10, (.v (.v false [(.i .i64 y3)])))]))) (fun y0 y1 y2 y3 => (K (.exit 0) (tabl [(0, (.v (.v false [(.sh 25 y0)]))), (2, (.v (.v false [(.i .i64 y1)]))), (8, (.v (.v false [(.i .i64 y2)]))), (10, (.v (.v false [(.i .i64 y3)])))]))) x0 x1 x2 x3 = _
    rw [e0]; rfl
theorem lo87_2 {R : Type} (N : Nat) : LoopOk E87 (it87 N (R := R)) (loopOf Try.f87 2) := by
  have e : firstRid (loopOf Try.f87 2) = 2 := by kernel_rfl
  intro L K r
  rw [e]
  intro h
  unfold it87 at h
  simp only [show Nat.beq 2 2 = true from rfl, cond_false, cond_true] at h
  refine tell_ok (Q := fun L => ∃ n, iter (exc E87 (it87 N) (loopOf Try.f87 2)) (canon (E87.keep 2)) n (tabl L) K = some r) h (fun xs h => ?_) (fun h => ?_)
  · (try dsimp only at h)
    split at h
    · exact ⟨N, ((e87_2 N K N) _ _ _ _).trans h⟩
    · cases h
  cases h
def sp87 : List Arg → Option (Bool × Res)
  | [(.v false [(.sh 25 a0)]), (.v false [(.i .i64 k1)])] => some (Pu.laws_heldEntryS.c a0 k1, ⟨[(.v false [(.i .i64 (Pu.laws_heldEntryS.v a0 k1))])], []⟩)
  | _ => none
theorem ok87 : FnOk Try.prog T 87 sp87 := by
  refine fn_ok (E := E87) hE (call_cons ok100 call_nil) hM Try.func87 (code := (Try.f87.body.getD .skip)) (by kernel_rfl) (by kernel_rfl) ?_
  have key : ∀ (a0 : Row) (k1 : Int), Pu.laws_heldEntryS.c a0 k1 = true → ∃ it : It Res, (∀ c ∈ loopsOf (Try.f87.body.getD .skip), LoopOk E87 it c) ∧ body E87 it Try.f87 [(.v false [(.sh 25 a0)]), (.v false [(.i .i64 k1)])] = some ⟨[(.v false [(.i .i64 (Pu.laws_heldEntryS.v a0 k1))])], []⟩ := by
    intro a0 k1  h1
    obtain ⟨N, hN⟩ := Pu.laws_heldEntryS.b_eq (R := Res) (fun r0 => some ⟨[(.v false [(.i .i64 r0)])], []⟩) a0 k1 h1
    have hl : loopsOf (Try.f87.body.getD .skip) = [loopOf Try.f87 2] := by kernel_rfl
    refine ⟨it87 N, by rw [hl]; exact (loops_cons (lo87_2 N) loops_nil), ?_⟩
    refine Eq.trans (show body E87 (it87 N) Try.f87 [(.v false [(.sh 25 a0)]), (.v false [(.i .i64 k1)])] = Pu.laws_heldEntryS.b N (fun r0 => some ⟨[(.v false [(.i .i64 r0)])], []⟩) a0 k1 by kernel_rfl) hN
  intro args r h
  unfold sp87 at h
  split at h
  · injection h with h
    injection h with h1 h2
    subst h2
    exact ⟨by kernel_rfl, fun hf => ⟨of_decide_eq_true (by kernel_rfl), key _ _ h1⟩⟩
  · cases h

end Go.FG.Se

namespace Go.FG.Se
open Go.Proofs
def E187 : Env := { toTab := T, call := Go.FG.callIn [(100, sp100)], mode := Go.FG.modeIn md, keep := Go.FG.keepIn [(2, [0, 1, 4, 5])], tk := fun n => Go.FG.memB n [], om := Go.FG.omIn [] }
def it187 (N : Nat) {R : Type} : It R := fun rid f cn L K => bif Nat.beq rid 2 then (tell [(0, (.v (.v false [(.sh 9 [])]))), (2, (.v (.v false [(.i .i64 0)]))), (8, (.v (.v false [(.i .i64 0)]))), (10, (.v (.v false [(.i .i64 0)])))] (fun | [.R x0, .I x1, .I x2, .I x3] => Pu.laws_heldStringS.l2 N (fun y0 y1 y2 y3 => (K .ret (tabl [(0, (.v (.v false [(.sh 9 y0)]))), (2, (.v (.v false [(.i .i64 y1)]))), (8, (.v (.v false [(.i .i64 y2)]))), (10, (.v (.v false [(.i .i64 y3)])))]))) (fun y0 y1 y2 y3 => (K (.exit 0) (tabl [(0, (.v (.v false [(.sh 9 y0)]))), (2, (.v (.v false [(.i .i64 y1)]))), (8, (.v (.v false [(.i .i64 y2)]))), (10, (.v (.v false [(.i .i64 y3)])))]))) N x0 x1 x2 x3 | _ => none) L (none)) else none
theorem e187_2 {R : Type} (N : Nat) (K : Ex → St → Option R) : ∀ n : Nat, (∀ x0 x1 x2 x3, iter (exc E187 (it187 N) (loopOf Try.f187 2)) (canon (E187.keep 2))  n (tabl [(0, (.v (.v false [(.sh 9 x0)]))), (2, (.v (.v false [(.i .i64 x1)]))), (8, (.v (.v false [(.i .i64 x2)]))), (10, (.v (.v false [(.i .i64 x3)])))]) K = Pu.laws_heldStringS.l2 N (fun y0 y1 y2 y3 => (K .ret (tabl [(0, (.v (.v false [(.sh 9 y0)]))), (2, (.v (.v false [(.i .i64 y1)]))), (8, (.v (.v false [(.i .i64 y2)]))), (10, (.v (.v false [(.i .i64 y3)])))]))) (fun y0 y1 y2 y3 => (K (.exit 0) (tabl [(0, (.v (.v false [(.sh 9 y0)]))), (2, (.v (.v false [(.i .i64 y1)]))), (8, (.v (.v false [(.i .i64 y2)]))), (10, (.v (.v false [(.i .i64 y3)])))]))) n x0 x1 x2 x3) := by
  intro n
  induction n with
  | zero => exact (fun _ _ _ _ => rfl)
  | succ n ih =>
    have e0 : (fun x0 x1 x2 x3 => iter (exc E187 (it187 N) (loopOf Try.f187 2)) (canon (E187.keep 2))  n (tabl [(0, (.v (.v false [(.sh 9 x0)]))), (2, (.v (.v false [(.i .i64 x1)]))), (8, (.v (.v false [(.i .i64 x2)]))), (10, (.v (.v false [(.i .i64 x3)])))]) K) = Pu.laws_heldStringS.l2 N (fun y0 y1 y2 y3 => (K .ret (tabl [(0, (.v (.v false [(.sh 9 y0)]))), (2, (.v (.v false [(.i .i64 y1)]))), (8, (.v (.v false [(.i .i64 y2)]))), (10, (.v (.v false [(.i .i64 y3)])))]))) (fun y0 y1 y2 y3 => (K (.exit 0) (tabl [(0, (.v (.v false [(.sh 9 y0)]))), (2, (.v (.v false [(.i .i64 y1)]))), (8, (.v (.v false [(.i .i64 y2)]))), (10, (.v (.v false [(.i .i64 y3)])))]))) n := by funext x0 x1 x2 x3; exact ih x0 x1 x2 x3
    intro x0 x1 x2 x3
    have h : ∀ g, exc E187 (it187 N) (loopOf Try.f187 2) (tabl [(0, (.v (.v false [(.sh 9 x0)]))), (2, (.v (.v false [(.i .i64 x1)]))), (8, (.v (.v false [(.i .i64 x2)]))), (10, (.v (.v false [(.i .i64 x3)])))]) (iterK g (canon (E187.keep 2)) K) = Pu.laws_heldStringS.r2 N (fun x0 x1 x2 x3 => (g (tabl [(0, (.v (.v false [(.sh 9 x0)]))), (2, (.v (.v false [(.i .i64 x1)]))), (8, (.v (.v false [(.i .i64 x2)]))), (10, (.v (.v false [(.i .i64 x3)])))]))) (fun y0 y1 y2 y3 => (K .ret (tabl [(0, (.v (.v false [(.sh 9 y0)]))), (2, (.v (.v false [(.i .i64 y1)]))), (8, (.v (.v false [(.i .i64 y2)]))), (10, (.v (.v false [(.i .i64 y3)])))]))) (fun y0 y1 y2 y3 => (K (.exit 0) (tabl [(0, (.v (.v false [(.sh 9 y0)]))), (2, (.v (.v false [(.i .i64 y1)]))), (8, (.v (.v false [(.i .i64 y2)]))), (10, (.v (.v false [(.i .i64 y3)])))]))) x0 x1 x2 x3 := by intro g; kernel_rfl
    refine (h _).trans ?_
    show Pu.laws_heldStringS.r2 N (fun x0 x1 x2 x3 => (iter (exc E187 (it187 N) (loopOf Try.f187 2)) (canon (E187.keep 2))  n (tabl [(0, (.v (.v false [(.sh 9 x0)]))), (2, (.v (.v false [(.i .i64 x1)]))), (8, (.v (.v false [(.i .i64 x2)]))), (10, (.v (.v false [(.i .i64 x3)])))]) K)) (fun y0 y1 y2 y3 => (K .ret (tabl [(0, (.v (.v false [(.sh 9 y0)]))), (2, (.v (.v false [(.i .i64 y1)]))), (8, (.v (.v false [(.i .i64 y2)]))), (10, (.v (.v false [(.i .i64 y3)])))]))) (fun y0 y1 y2 y3 => (K (.exit 0) (tabl [(0, (.v (.v false [(.sh 9 y0)]))), (2, (.v (.v false [(.i .i64 y1)]))), (8, (.v (.v false [(.i .i64 y2)]))), (10, (.v (.v false [(.i .i64 y3)])))]))) x0 x1 x2 x3 = _
    rw [e0]; rfl
theorem lo187_2 {R : Type} (N : Nat) : LoopOk E187 (it187 N (R := R)) (loopOf Try.f187 2) := by
  have e : firstRid (loopOf Try.f187 2) = 2 := by kernel_rfl
  intro L K r
  rw [e]
  intro h
  unfold it187 at h
  simp only [show Nat.beq 2 2 = true from rfl, cond_false, cond_true] at h
  refine tell_ok (Q := fun L => ∃ n, iter (exc E187 (it187 N) (loopOf Try.f187 2)) (canon (E187.keep 2)) n (tabl L) K = some r) h (fun xs h => ?_) (fun h => ?_)
  · (try dsimp only at h)
    split at h
    · exact ⟨N, ((e187_2 N K N) _ _ _ _).trans h⟩
    · cases h
  cases h
def sp187 : List Arg → Option (Bool × Res)
  | [(.v false [(.sh 9 a0)]), (.v false [(.i .i64 k1)])] => some (Pu.laws_heldStringS.c a0 k1, ⟨[(.v false [(.i .i64 (Pu.laws_heldStringS.v a0 k1))])], []⟩)
  | _ => none
theorem ok187 : FnOk Try.prog T 187 sp187 := by
  refine fn_ok (E := E187) hE (call_cons ok100 call_nil) hM Try.func187 (code := (Try.f187.body.getD .skip)) (by kernel_rfl) (by kernel_rfl) ?_
  have key : ∀ (a0 : Row) (k1 : Int), Pu.laws_heldStringS.c a0 k1 = true → ∃ it : It Res, (∀ c ∈ loopsOf (Try.f187.body.getD .skip), LoopOk E187 it c) ∧ body E187 it Try.f187 [(.v false [(.sh 9 a0)]), (.v false [(.i .i64 k1)])] = some ⟨[(.v false [(.i .i64 (Pu.laws_heldStringS.v a0 k1))])], []⟩ := by
    intro a0 k1  h1
    obtain ⟨N, hN⟩ := Pu.laws_heldStringS.b_eq (R := Res) (fun r0 => some ⟨[(.v false [(.i .i64 r0)])], []⟩) a0 k1 h1
    have hl : loopsOf (Try.f187.body.getD .skip) = [loopOf Try.f187 2] := by kernel_rfl
    refine ⟨it187 N, by rw [hl]; exact (loops_cons (lo187_2 N) loops_nil), ?_⟩
    refine Eq.trans (show body E187 (it187 N) Try.f187 [(.v false [(.sh 9 a0)]), (.v false [(.i .i64 k1)])] = Pu.laws_heldStringS.b N (fun r0 => some ⟨[(.v false [(.i .i64 r0)])], []⟩) a0 k1 by kernel_rfl) hN
  intro args r h
  unfold sp187 at h
  split at h
  · injection h with h
    injection h with h1 h2
    subst h2
    exact ⟨by kernel_rfl, fun hf => ⟨of_decide_eq_true (by kernel_rfl), key _ _ h1⟩⟩
  · cases h

end Go.FG.Se

namespace Go.FG.Se
open Go.Proofs
def E226 : Env := { toTab := T, call := Go.FG.callIn [], mode := Go.FG.modeIn md, keep := Go.FG.keepIn [(2, [0, 1, 4, 5])], tk := fun n => Go.FG.memB n [], om := Go.FG.omIn [] }
def it226 (N : Nat) {R : Type} : It R := fun rid f cn L K => bif Nat.beq rid 2 then (tell [(0, (.v (.v false [(.sh 3 [])]))), (2, (.v (.v false [(.i .i64 0)]))), (8, (.v (.v false [(.i .i64 0)]))), (10, (.v (.v false [(.i .i64 0)])))] (fun | [.R x0, .I x1, .I x2, .I x3] => Pu.laws_heldIntS.l2 N (fun y0 y1 y2 y3 => (K .ret (tabl [(0, (.v (.v false [(.sh 3 y0)]))), (2, (.v (.v false [(.i .i64 y1)]))), (8, (.v (.v false [(.i .i64 y2)]))), (10, (.v (.v false [(.i .i64 y3)])))]))) (fun y0 y1 y2 y3 => (K (.exit 0) (tabl [(0, (.v (.v false [(.sh 3 y0)]))), (2, (.v (.v false [(.i .i64 y1)]))), (8, (.v (.v false [(.i .i64 y2)]))), (10, (.v (.v false [(.i .i64 y3)])))]))) N x0 x1 x2 x3 | _ => none) L (none)) else none
theorem e226_2 {R : Type} (N : Nat) (K : Ex → St → Option R) : ∀ n : Nat, (∀ x0 x1 x2 x3, iter (exc E226 (it226 N) (loopOf Try.f226 2)) (canon (E226.keep 2))  n (tabl [(0, (.v (.v false [(.sh 3 x0)]))), (2, (.v (.v false [(.i .i64 x1)]))), (8, (.v (.v false [(.i .i64 x2)]))), (10, (.v (.v false [(.i .i64 x3)])))]) K = Pu.laws_heldIntS.l2 N (fun y0 y1 y2 y3 => (K .ret (tabl [(0, (.v (.v false [(.sh 3 y0)]))), (2, (.v (.v false [(.i .i64 y1)]))), (8, (.v (.v false [(.i .i64 y2)]))), (10, (.v (.v false [(.i .i64 y3)])))]))) (fun y0 y1 y2 y3 => (K (.exit 0) (tabl [(0, (.v (.v false [(.sh 3 y0)]))), (2, (.v (.v false [(.i .i64 y1)]))), (8, (.v (.v false [(.i .i64 y2)]))), (10, (.v (.v false [(.i .i64 y3)])))]))) n x0 x1 x2 x3) := by
  intro n
  induction n with
  | zero => exact (fun _ _ _ _ => rfl)
  | succ n ih =>
    have e0 : (fun x0 x1 x2 x3 => iter (exc E226 (it226 N) (loopOf Try.f226 2)) (canon (E226.keep 2))  n (tabl [(0, (.v (.v false [(.sh 3 x0)]))), (2, (.v (.v false [(.i .i64 x1)]))), (8, (.v (.v false [(.i .i64 x2)]))), (10, (.v (.v false [(.i .i64 x3)])))]) K) = Pu.laws_heldIntS.l2 N (fun y0 y1 y2 y3 => (K .ret (tabl [(0, (.v (.v false [(.sh 3 y0)]))), (2, (.v (.v false [(.i .i64 y1)]))), (8, (.v (.v false [(.i .i64 y2)]))), (10, (.v (.v false [(.i .i64 y3)])))]))) (fun y0 y1 y2 y3 => (K (.exit 0) (tabl [(0, (.v (.v false [(.sh 3 y0)]))), (2, (.v (.v false [(.i .i64 y1)]))), (8, (.v (.v false [(.i .i64 y2)]))), (10, (.v (.v false [(.i .i64 y3)])))]))) n := by funext x0 x1 x2 x3; exact ih x0 x1 x2 x3
    intro x0 x1 x2 x3
    have h : ∀ g, exc E226 (it226 N) (loopOf Try.f226 2) (tabl [(0, (.v (.v false [(.sh 3 x0)]))), (2, (.v (.v false [(.i .i64 x1)]))), (8, (.v (.v false [(.i .i64 x2)]))), (10, (.v (.v false [(.i .i64 x3)])))]) (iterK g (canon (E226.keep 2)) K) = Pu.laws_heldIntS.r2 N (fun x0 x1 x2 x3 => (g (tabl [(0, (.v (.v false [(.sh 3 x0)]))), (2, (.v (.v false [(.i .i64 x1)]))), (8, (.v (.v false [(.i .i64 x2)]))), (10, (.v (.v false [(.i .i64 x3)])))]))) (fun y0 y1 y2 y3 => (K .ret (tabl [(0, (.v (.v false [(.sh 3 y0)]))), (2, (.v (.v false [(.i .i64 y1)]))), (8, (.v (.v false [(.i .i64 y2)]))), (10, (.v (.v false [(.i .i64 y3)])))]))) (fun y0 y1 y2 y3 => (K (.exit 0) (tabl [(0, (.v (.v false [(.sh 3 y0)]))), (2, (.v (.v false [(.i .i64 y1)]))), (8, (.v (.v false [(.i .i64 y2)]))), (10, (.v (.v false [(.i .i64 y3)])))]))) x0 x1 x2 x3 := by intro g; kernel_rfl
    refine (h _).trans ?_
    show Pu.laws_heldIntS.r2 N (fun x0 x1 x2 x3 => (iter (exc E226 (it226 N) (loopOf Try.f226 2)) (canon (E226.keep 2))  n (tabl [(0, (.v (.v false [(.sh 3 x0)]))), (2, (.v (.v false [(.i .i64 x1)]))), (8, (.v (.v false [(.i .i64 x2)]))), (10, (.v (.v false [(.i .i64 x3)])))]) K)) (fun y0 y1 y2 y3 => (K .ret (tabl [(0, (.v (.v false [(.sh 3 y0)]))), (2, (.v (.v false [(.i .i64 y1)]))), (8, (.v (.v false [(.i .i64 y2)]))), (10, (.v (.v false [(.i .i64 y3)])))]))) (fun y0 y1 y2 y3 => (K (.exit 0) (tabl [(0, (.v (.v false [(.sh 3 y0)]))), (2, (.v (.v false [(.i .i64 y1)]))), (8, (.v (.v false [(.i .i64 y2)]))), (10, (.v (.v false [(.i .i64 y3)])))]))) x0 x1 x2 x3 = _
    rw [e0]; rfl
theorem lo226_2 {R : Type} (N : Nat) : LoopOk E226 (it226 N (R := R)) (loopOf Try.f226 2) := by
  have e : firstRid (loopOf Try.f226 2) = 2 := by kernel_rfl
  intro L K r
  rw [e]
  intro h
  unfold it226 at h
  simp only [show Nat.beq 2 2 = true from rfl, cond_false, cond_true] at h
  refine tell_ok (Q := fun L => ∃ n, iter (exc E226 (it226 N) (loopOf Try.f226 2)) (canon (E226.keep 2)) n (tabl L) K = some r) h (fun xs h => ?_) (fun h => ?_)
  · (try dsimp only at h)
    split at h
    · exact ⟨N, ((e226_2 N K N) _ _ _ _).trans h⟩
    · cases h
  cases h
def sp226 : List Arg → Option (Bool × Res)
  | [(.v false [(.sh 3 a0)]), (.v false [(.i .i64 k1)])] => some (Pu.laws_heldIntS.c a0 k1, ⟨[(.v false [(.i .i64 (Pu.laws_heldIntS.v a0 k1))])], []⟩)
  | _ => none
theorem ok226 : FnOk Try.prog T 226 sp226 := by
  refine fn_ok (E := E226) hE call_nil hM Try.func226 (code := (Try.f226.body.getD .skip)) (by kernel_rfl) (by kernel_rfl) ?_
  have key : ∀ (a0 : Row) (k1 : Int), Pu.laws_heldIntS.c a0 k1 = true → ∃ it : It Res, (∀ c ∈ loopsOf (Try.f226.body.getD .skip), LoopOk E226 it c) ∧ body E226 it Try.f226 [(.v false [(.sh 3 a0)]), (.v false [(.i .i64 k1)])] = some ⟨[(.v false [(.i .i64 (Pu.laws_heldIntS.v a0 k1))])], []⟩ := by
    intro a0 k1  h1
    obtain ⟨N, hN⟩ := Pu.laws_heldIntS.b_eq (R := Res) (fun r0 => some ⟨[(.v false [(.i .i64 r0)])], []⟩) a0 k1 h1
    have hl : loopsOf (Try.f226.body.getD .skip) = [loopOf Try.f226 2] := by kernel_rfl
    refine ⟨it226 N, by rw [hl]; exact (loops_cons (lo226_2 N) loops_nil), ?_⟩
    refine Eq.trans (show body E226 (it226 N) Try.f226 [(.v false [(.sh 3 a0)]), (.v false [(.i .i64 k1)])] = Pu.laws_heldIntS.b N (fun r0 => some ⟨[(.v false [(.i .i64 r0)])], []⟩) a0 k1 by kernel_rfl) hN
  intro args r h
  unfold sp226 at h
  split at h
  · injection h with h
    injection h with h1 h2
    subst h2
    exact ⟨by kernel_rfl, fun hf => ⟨of_decide_eq_true (by kernel_rfl), key _ _ h1⟩⟩
  · cases h

end Go.FG.Se

namespace Go.FG.Se
open Go.Proofs
def E213 : Env := { toTab := T, call := Go.FG.callIn [(226, sp226)], mode := Go.FG.modeIn md, keep := Go.FG.keepIn [(2, [0, 1, 4, 5])], tk := fun n => Go.FG.memB n [], om := Go.FG.omIn [] }
def it213 (N : Nat) {R : Type} : It R := fun rid f cn L K => bif Nat.beq rid 2 then (tell [(0, (.v (.v false [(.sh 49 [])]))), (2, (.v (.v false [(.i .i64 0)]))), (8, (.v (.v false [(.i .i64 0)]))), (10, (.v (.v false [(.i .i64 0)])))] (fun | [.R x0, .I x1, .I x2, .I x3] => Pu.laws_heldIntSS.l2 N (fun y0 y1 y2 y3 => (K .ret (tabl [(0, (.v (.v false [(.sh 49 y0)]))), (2, (.v (.v false [(.i .i64 y1)]))), (8, (.v (.v false [(.i .i64 y2)]))), (10, (.v (.v false [(.i .i64 y3)])))]))) (fun y0 y1 y2 y3 => (K (.exit 0) (tabl [(0, (.v (.v false [(.sh 49 y0)]))), (2, (.v (.v false [(.i .i64 y1)]))), (8, (.v (.v false [(.i .i64 y2)]))), (10, (.v (.v false [(.i .i64 y3)])))]))) N x0 x1 x2 x3 | _ => none) L (none)) else none
theorem e213_2 {R : Type} (N : Nat) (K : Ex → St → Option R) : ∀ n : Nat, (∀ x0 x1 x2 x3, iter (exc E213 (it213 N) (loopOf Try.f213 2)) (canon (E213.keep 2))  n (tabl [(0, (.v (.v false [(.sh 49 x0)]))), (2, (.v (.v false [(.i .i64 x1)]))), (8, (.v (.v false [(.i .i64 x2)]))), (10, (.v (.v false [(.i .i64 x3)])))]) K = Pu.laws_heldIntSS.l2 N (fun y0 y1 y2 y3 => (K .ret (tabl [(0, (.v (.v false [(.sh 49 y0)]))), (2, (.v (.v false [(.i .i64 y1)]))), (8, (.v (.v false [(.i .i64 y2)]))), (10, (.v (.v false [(.i .i64 y3)])))]))) (fun y0 y1 y2 y3 => (K (.exit 0) (tabl [(0, (.v (.v false [(.sh 49 y0)]))), (2, (.v (.v false [(.i .i64 y1)]))), (8, (.v (.v false [(.i .i64 y2)]))), (10, (.v (.v false [(.i .i64 y3)])))]))) n x0 x1 x2 x3) := by
  intro n
  induction n with
  | zero => exact (fun _ _ _ _ => rfl)
  | succ n ih =>
    have e0 : (fun x0 x1 x2 x3 => iter (exc E213 (it213 N) (loopOf Try.f213 2)) (canon (E213.keep 2))  n (tabl [(0, (.v (.v false [(.sh 49 x0)]))), (2, (.v (.v false [(.i .i64 x1)]))), (8, (.v (.v false [(.i .i64 x2)]))), (10, (.v (.v false [(.i .i64 x3)])))]) K) = Pu.laws_heldIntSS.l2 N (fun y0 y1 y2 y3 => (K .ret (tabl [(0, (.v (.v false [(.sh 49 y0)]))), (2, (.v (.v false [(.i .i64 y1)]))), (8, (.v (.v false [(.i .i64 y2)]))), (10, (.v (.v false [(.i .i64 y3)])))]))) (fun y0 y1 y2 y3 => (K (.exit 0) (tabl [(0, (.v (.v false [(.sh 49 y0)]))), (2, (.v (.v false [(.i .i64 y1)]))), (8, (.v (.v false [(.i .i64 y2)]))), (10, (.v (.v false [(.i .i64 y3)])))]))) n := by funext x0 x1 x2 x3; exact ih x0 x1 x2 x3
    intro x0 x1 x2 x3
    have h : ∀ g, exc E213 (it213 N) (loopOf Try.f213 2) (tabl [(0, (.v (.v false [(.sh 49 x0)]))), (2, (.v (.v false [(.i .i64 x1)]))), (8, (.v (.v false [(.i .i64 x2)]))), (10, (.v (.v false [(.i .i64 x3)])))]) (iterK g (canon (E213.keep 2)) K) = Pu.laws_heldIntSS.r2 N (fun x0 x1 x2 x3 => (g (tabl [(0, (.v (.v false [(.sh 49 x0)]))), (2, (.v (.v false [(.i .i64 x1)]))), (8, (.v (.v false [(.i .i64 x2)]))), (10, (.v (.v false [(.i .i64 x3)])))]))) (fun y0 y1 y2 y3 => (K .ret (tabl [(0, (.v (.v false [(.sh 49 y0)]))), (2, (.v (.v false [(.i .i64 y1)]))), (8, (.v (.v false [(.i .i64 y2)]))), (10, (.v (.v false [(.i .i64 y3)])))]))) (fun y0 y1 y2 y3 => (K (.exit 0) (tabl [(0, (.v (.v false [(.sh 49 y0)]))), (2, (.v (.v false [(.i .i64 y1)]))), (8, (.v (.v false [(.i .i64 y2)]))), (10, (.v (.v false [(.i .i64 y3)])))]))) x0 x1 x2 x3 := by intro g; kernel_rfl
    refine (h _).trans ?_
    show Pu.laws_heldIntSS.r2 N (fun x0 x1 x2 x3 => (iter (exc E213 (it213 N) (loopOf Try.f213 2)) (canon (E213.keep 2))  n (tabl [(0, (.v (.v false [(.sh 49 x0)]))), (2, (.v (.v false [(.i .i64 x1)]))), (8, (.v (.v false [(.i .i64 x2)]))), (10, (.v (.v false [(.i .i64 x3)])))]) K)) (fun y0 y1 y2 y3 => (K .ret (tabl [(0, (.v (.v false [(.sh 49 y0)]))), (2, (.v (.v false [(.i .i64 y1)]))), (8, (.v (.v false [(.i .i64 y2)]))), (10, (.v (.v false [(.i .i64 y3)])))]))) (fun y0 y1 y2 y3 => (K (.exit 0) (tabl [(0, (.v (.v false [(.sh 49 y0)]))), (2, (.v (.v false [(.i .i64 y1)]))), (8, (.v (.v false [(.i .i64 y2)]))), (10, (.v (.v false [(.i .i64 y3)])))]))) x0 x1 x2 x3 = _
    rw [e0]; rfl
theorem lo213_2 {R : Type} (N : Nat) : LoopOk E213 (it213 N (R := R)) (loopOf Try.f213 2) := by
  have e : firstRid (loopOf Try.f213 2) = 2 := by kernel_rfl
  intro L K r
  rw [e]
  intro h
  unfold it213 at h
  simp only [show Nat.beq 2 2 = true from rfl, cond_false, cond_true] at h
  refine tell_ok (Q := fun L => ∃ n, iter (exc E213 (it213 N) (loopOf Try.f213 2)) (canon (E213.keep 2)) n (tabl L) K = some r) h (fun xs h => ?_) (fun h => ?_)
  · (try dsimp only at h)
    split at h
    · exact ⟨N, ((e213_2 N K N) _ _ _ _).trans h⟩
    · cases h
  cases h
def sp213 : List Arg → Option (Bool × Res)
  | [(.v false [(.sh 49 a0)]), (.v false [(.i .i64 k1)])] => some (Pu.laws_heldIntSS.c a0 k1, ⟨[(.v false [(.i .i64 (Pu.laws_heldIntSS.v a0 k1))])], []⟩)
  | _ => none
theorem ok213 : FnOk Try.prog T 213 sp213 := by
  refine fn_ok (E := E213) hE (call_cons ok226 call_nil) hM Try.func213 (code := (Try.f213.body.getD .skip)) (by kernel_rfl) (by kernel_rfl) ?_
  have key : ∀ (a0 : Row) (k1 : Int), Pu.laws_heldIntSS.c a0 k1 = true → ∃ it : It Res, (∀ c ∈ loopsOf (Try.f213.body.getD .skip), LoopOk E213 it c) ∧ body E213 it Try.f213 [(.v false [(.sh 49 a0)]), (.v false [(.i .i64 k1)])] = some ⟨[(.v false [(.i .i64 (Pu.laws_heldIntSS.v a0 k1))])], []⟩ := by
    intro a0 k1  h1
    obtain ⟨N, hN⟩ := Pu.laws_heldIntSS.b_eq (R := Res) (fun r0 => some ⟨[(.v false [(.i .i64 r0)])], []⟩) a0 k1 h1
    have hl : loopsOf (Try.f213.body.getD .skip) = [loopOf Try.f213 2] := by kernel_rfl
    refine ⟨it213 N, by rw [hl]; exact (loops_cons (lo213_2 N) loops_nil), ?_⟩
    refine Eq.trans (show body E213 (it213 N) Try.f213 [(.v false [(.sh 49 a0)]), (.v false [(.i .i64 k1)])] = Pu.laws_heldIntSS.b N (fun r0 => some ⟨[(.v false [(.i .i64 r0)])], []⟩) a0 k1 by kernel_rfl) hN
  intro args r h
  unfold sp213 at h
  split at h
  · injection h with h
    injection h with h1 h2
    subst h2
    exact ⟨by kernel_rfl, fun hf => ⟨of_decide_eq_true (by kernel_rfl), key _ _ h1⟩⟩
  · cases h

end Go.FG.Se

namespace Go.FG.Se
open Go.Proofs
def E188 : Env := { toTab := T, call := Go.FG.callIn [(213, sp213)], mode := Go.FG.modeIn md, keep := Go.FG.keepIn [], tk := fun n => Go.FG.memB n [], om := Go.FG.omIn [] }
def sp188 : List Arg → Option (Bool × Res)
  | [(.v true [(.sh 49 a0_0), (.i .i64 a0_1)]), (.v false [(.i .i64 k1)])] => some (Pu.laws_heldSketch.c a0_0 a0_1 k1, ⟨[(.v false [(.i .i64 (Pu.laws_heldSketch.v a0_0 a0_1 k1))])], []⟩)
  | _ => none
theorem ok188 : FnOk Try.prog T 188 sp188 := by
  refine fn_ok (E := E188) hE (call_cons ok213 call_nil) hM Try.func188 (code := (Try.f188.body.getD .skip)) (by kernel_rfl) (by kernel_rfl) ?_
  have key : ∀ (a0_0 : Row) (a0_1 : Int) (k1 : Int), Pu.laws_heldSketch.c a0_0 a0_1 k1 = true → ∃ it : It Res, (∀ c ∈ loopsOf (Try.f188.body.getD .skip), LoopOk E188 it c) ∧ body E188 it Try.f188 [(.v true [(.sh 49 a0_0), (.i .i64 a0_1)]), (.v false [(.i .i64 k1)])] = some ⟨[(.v false [(.i .i64 (Pu.laws_heldSketch.v a0_0 a0_1 k1))])], []⟩ := by
    intro a0_0 a0_1 k1  h1
    have hN := Pu.laws_heldSketch.b_eq (R := Res) (fun r0 => some ⟨[(.v false [(.i .i64 r0)])], []⟩) a0_0 a0_1 k1 h1
    have hl : loopsOf (Try.f188.body.getD .skip) = [] := by kernel_rfl
    refine ⟨iterN 0, by rw [hl]; exact loops_nil, ?_⟩
    refine Eq.trans (show body E188 (iterN 0) Try.f188 [(.v true [(.sh 49 a0_0), (.i .i64 a0_1)]), (.v false [(.i .i64 k1)])] = Pu.laws_heldSketch.b (fun r0 => some ⟨[(.v false [(.i .i64 r0)])], []⟩) a0_0 a0_1 k1 by kernel_rfl) hN
  intro args r h
  unfold sp188 at h
  split at h
  · injection h with h
    injection h with h1 h2
    subst h2
    exact ⟨by kernel_rfl, fun hf => ⟨of_decide_eq_true (by kernel_rfl), key _ _ _ h1⟩⟩
  · cases h

end Go.FG.Se

namespace Go.FG.Se
open Go.Proofs
def E137 : Env := { toTab := T, call := Go.FG.callIn [(187, sp187), (188, sp188)], mode := Go.FG.modeIn md, keep := Go.FG.keepIn [], tk := fun n => Go.FG.memB n [], om := Go.FG.omIn [] }
def sp137 : List Arg → Option (Bool × Res)
  | [(.v true [(.sh 9 a0_0), (.sh 9 a0_1), (.sh 49 a0_2), (.i .i64 a0_3)]), (.v false [(.i .i64 k1)])] => some (Pu.laws_heldPolicy.c a0_0 a0_1 a0_2 a0_3 k1, ⟨[(.v false [(.i .i64 (Pu.laws_heldPolicy.v a0_0 a0_1 a0_2 a0_3 k1))])], []⟩)
  | _ => none
theorem ok137 : FnOk Try.prog T 137 sp137 := by
  refine fn_ok (E := E137) hE (call_cons ok187 (call_cons ok188 call_nil)) hM Try.func137 (code := (Try.f137.body.getD .skip)) (by kernel_rfl) (by kernel_rfl) ?_
  have key : ∀ (a0_0 : Row) (a0_1 : Row) (a0_2 : Row) (a0_3 : Int) (k1 : Int), Pu.laws_heldPolicy.c a0_0 a0_1 a0_2 a0_3 k1 = true → ∃ it : It Res, (∀ c ∈ loopsOf (Try.f137.body.getD .skip), LoopOk E137 it c) ∧ body E137 it Try.f137 [(.v true [(.sh 9 a0_0), (.sh 9 a0_1), (.sh 49 a0_2), (.i .i64 a0_3)]), (.v false [(.i .i64 k1)])] = some ⟨[(.v false [(.i .i64 (Pu.laws_heldPolicy.v a0_0 a0_1 a0_2 a0_3 k1))])], []⟩ := by
    intro a0_0 a0_1 a0_2 a0_3 k1  h1
    have hN := Pu.laws_heldPolicy.b_eq (R := Res) (fun r0 => some ⟨[(.v false [(.i .i64 r0)])], []⟩) a0_0 a0_1 a0_2 a0_3 k1 h1
    have hl : loopsOf (Try.f137.body.getD .skip) = [] := by kernel_rfl
    refine ⟨iterN 0, by rw [hl]; exact loops_nil, ?_⟩
    refine Eq.trans (show body E137 (iterN 0) Try.f137 [(.v true [(.sh 9 a0_0), (.sh 9 a0_1), (.sh 49 a0_2), (.i .i64 a0_3)]), (.v false [(.i .i64 k1)])] = Pu.laws_heldPolicy.b (fun r0 => some ⟨[(.v false [(.i .i64 r0)])], []⟩) a0_0 a0_1 a0_2 a0_3 k1 by kernel_rfl) hN
  intro args r h
  unfold sp137 at h
  split at h
  · injection h with h
    injection h with h1 h2
    subst h2
    exact ⟨by kernel_rfl, fun hf => ⟨of_decide_eq_true (by kernel_rfl), key _ _ _ _ _ h1⟩⟩
  · cases h

end Go.FG.Se

namespace Go.FG.Se
open Go.Proofs
def E138 : Env := { toTab := T, call := Go.FG.callIn [(100, sp100)], mode := Go.FG.modeIn md, keep := Go.FG.keepIn [(2, [0, 1, 4, 5])], tk := fun n => Go.FG.memB n [], om := Go.FG.omIn [] }
def it138 (N : Nat) {R : Type} : It R := fun rid f cn L K => bif Nat.beq rid 2 then (tell [(0, (.v (.v false [(.sh 175 [])]))), (2, (.v (.v false [(.i .i64 0)]))), (8, (.v (.v false [(.i .i64 0)]))), (10, (.v (.v false [(.i .i64 0)])))] (fun | [.R x0, .I x1, .I x2, .I x3] => Pu.laws_heldFetchS.l2 N (fun y0 y1 y2 y3 => (K .ret (tabl [(0, (.v (.v false [(.sh 175 y0)]))), (2, (.v (.v false [(.i .i64 y1)]))), (8, (.v (.v false [(.i .i64 y2)]))), (10, (.v (.v false [(.i .i64 y3)])))]))) (fun y0 y1 y2 y3 => (K (.exit 0) (tabl [(0, (.v (.v false [(.sh 175 y0)]))), (2, (.v (.v false [(.i .i64 y1)]))), (8, (.v (.v false [(.i .i64 y2)]))), (10, (.v (.v false [(.i .i64 y3)])))]))) N x0 x1 x2 x3 | _ => none) L (none)) else none
theorem e138_2 {R : Type} (N : Nat) (K : Ex → St → Option R) : ∀ n : Nat, (∀ x0 x1 x2 x3, iter (exc E138 (it138 N) (loopOf Try.f138 2)) (canon (E138.keep 2))  n (tabl [(0, (.v (.v false [(.sh 175 x0)]))), (2, (.v (.v false [(.i .i64 x1)]))), (8, (.v (.v false [(.i .i64 x2)]))), (10, (.v (.v false [(.i .i64 x3)])))]) K = Pu.laws_heldFetchS.l2 N (fun y0 y1 y2 y3 => (K .ret (tabl [(0, (.v (.v false [(.sh 175 y0)]))), (2, (.v (.v false [(.i .i64 y1)]))), (8, (.v (.v false [(.i .i64 y2)]))), (10, (.v (.v false [(.i .i64 y3)])))]))) (fun y0 y1 y2 y3 => (K (.exit 0) (tabl [(0, (.v (.v false [(.sh 175 y0)]))), (2, (.v (.v false [(.i .i64 y1)]))), (8, (.v (.v false [(.i .i64 y2)]))), (10, (.v (.v false [(.i .i64 y3)])))]))) n x0 x1 x2 x3) := by
  intro n
  induction n with
  | zero => exact (fun _ _ _ _ => rfl)
  | succ n ih =>
    have e0 : (fun x0 x1 x2 x3 => iter (exc E138 (it138 N) (loopOf Try.f138 2)) (canon (E138.keep 2))  n (tabl [(0, (.v (.v false [(.sh 175 x0)]))), (2, (.v (.v false [(.i .i64 x1)]))), (8, (.v (.v false [(.i .i64 x2)]))), (10, (.v (.v false [(.i .i64 x3)])))]) K) = Pu.laws_heldFetchS.l2 N (fun y0 y1 y2 y3 => (K .ret (tabl [(0, (.v (.v false [(.sh 175 y0)]))), (2, (.v (.v false [(.i .i64 y1)]))), (8, (.v (.v false [(.i .i64 y2)]))), (10, (.v (.v false [(.i .i64 y3)])))]))) (fun y0 y1 y2 y3 => (K (.exit 0) (tabl [(0, (.v (.v false [(.sh 175 y0)]))), (2, (.v (.v false [(.i .i64 y1)]))), (8, (.v (.v false [(.i .i64 y2)]))), (10, (.v (.v false [(.i .i64 y3)])))]))) n := by funext x0 x1 x2 x3; exact ih x0 x1 x2 x3
    intro x0 x1 x2 x3
    have h : ∀ g, exc E138 (it138 N) (loopOf Try.f138 2) (tabl [(0, (.v (.v false [(.sh 175 x0)]))), (2, (.v (.v false [(.i .i64 x1)]))), (8, (.v (.v false [(.i .i64 x2)]))), (10, (.v (.v false [(.i .i64 x3)])))]) (iterK g (canon (E138.keep 2)) K) = Pu.laws_heldFetchS.r2 N (fun x0 x1 x2 x3 => (g (tabl [(0, (.v (.v false [(.sh 175 x0)]))), (2, (.v (.v false [(.i .i64 x1)]))), (8, (.v (.v false [(.i .i64 x2)]))), (10, (.v (.v false [(.i .i64 x3)])))]))) (fun y0 y1 y2 y3 => (K .ret (tabl [(0, (.v (.v false [(.sh 175 y0)]))), (2, (.v (.v false [(.i .i64 y1)]))), (8, (.v (.v false [(.i .i64 y2)]))), (10, (.v (.v false [(.i .i64 y3)])))]))) (fun y0 y1 y2 y3 => (K (.exit 0) (tabl [(0, (.v (.v false [(.sh 175 y0)]))), (2, (.v (.v false [(.i .i64 y1)]))), (8, (.v (.v false [(.i .i64 y2)]))), (10, (.v (.v false [(.i .i64 y3)])))]))) x0 x1 x2 x3 := by intro g; kernel_rfl
    refine (h _).trans ?_
    show Pu.laws_heldFetchS.r2 N (fun x0 x1 x2 x3 => (iter (exc E138 (it138 N) (loopOf Try.f138 2)) (canon (E138.keep 2))  n (tabl [(0, (.v (.v false [(.sh 175 x0)]))), (2, (.v (.v false [(.i .i64 x1)]))), (8, (.v (.v false [(.i .i64 x2)]))), (10, (.v (.v false [(.i .i64 x3)])))]) K)) (fun y0 y1 y2 y3 => (K .ret (tabl [(0, (.v (.v false [(.sh 175 y0)]))), (2, (.v (.v false [(.i .i64 y1)]))), (8, (.v (.v false [(.i .i64 y2)]))), (10, (.v (.v false [(.i .i64 y3)])))]))) (fun y0 y1 y2 y3 => (K (.exit 0) (tabl [(0, (.v (.v false [(.sh 175 y0)]))), (2, (.v (.v false [(.i .i64 y1)]))), (8, (.v (.v false [(.i .i64 y2)]))), (10, (.v (.v false [(.i .i64 y3)])))]))) x0 x1 x2 x3 = _
    rw [e0]; rfl
theorem lo138_2 {R : Type} (N : Nat) : LoopOk E138 (it138 N (R := R)) (loopOf Try.f138 2) := by
  have e : firstRid (loopOf Try.f138 2) = 2 := by kernel_rfl
  intro L K r
  rw [e]
  intro h
  unfold it138 at h
  simp only [show Nat.beq 2 2 = true from rfl, cond_false, cond_true] at h
  refine tell_ok (Q := fun L => ∃ n, iter (exc E138 (it138 N) (loopOf Try.f138 2)) (canon (E138.keep 2)) n (tabl L) K = some r) h (fun xs h => ?_) (fun h => ?_)
  · (try dsimp only at h)
    split at h
    · exact ⟨N, ((e138_2 N K N) _ _ _ _).trans h⟩
    · cases h
  cases h
def sp138 : List Arg → Option (Bool × Res)
  | [(.v false [(.sh 175 a0)]), (.v false [(.i .i64 k1)])] => some (Pu.laws_heldFetchS.c a0 k1, ⟨[(.v false [(.i .i64 (Pu.laws_heldFetchS.v a0 k1))])], []⟩)
  | _ => none
theorem ok138 : FnOk Try.prog T 138 sp138 := by
  refine fn_ok (E := E138) hE (call_cons ok100 call_nil) hM Try.func138 (code := (Try.f138.body.getD .skip)) (by kernel_rfl) (by kernel_rfl) ?_
  have key : ∀ (a0 : Row) (k1 : Int), Pu.laws_heldFetchS.c a0 k1 = true → ∃ it : It Res, (∀ c ∈ loopsOf (Try.f138.body.getD .skip), LoopOk E138 it c) ∧ body E138 it Try.f138 [(.v false [(.sh 175 a0)]), (.v false [(.i .i64 k1)])] = some ⟨[(.v false [(.i .i64 (Pu.laws_heldFetchS.v a0 k1))])], []⟩ := by
    intro a0 k1  h1
    obtain ⟨N, hN⟩ := Pu.laws_heldFetchS.b_eq (R := Res) (fun r0 => some ⟨[(.v false [(.i .i64 r0)])], []⟩) a0 k1 h1
    have hl : loopsOf (Try.f138.body.getD .skip) = [loopOf Try.f138 2] := by kernel_rfl
    refine ⟨it138 N, by rw [hl]; exact (loops_cons (lo138_2 N) loops_nil), ?_⟩
    refine Eq.trans (show body E138 (it138 N) Try.f138 [(.v false [(.sh 175 a0)]), (.v false [(.i .i64 k1)])] = Pu.laws_heldFetchS.b N (fun r0 => some ⟨[(.v false [(.i .i64 r0)])], []⟩) a0 k1 by kernel_rfl) hN
  intro args r h
  unfold sp138 at h
  split at h
  · injection h with h
    injection h with h1 h2
    subst h2
    exact ⟨by kernel_rfl, fun hf => ⟨of_decide_eq_true (by kernel_rfl), key _ _ h1⟩⟩
  · cases h

end Go.FG.Se

namespace Go.FG.Se
open Go.Proofs
def E139 : Env := { toTab := T, call := Go.FG.callIn [(100, sp100)], mode := Go.FG.modeIn md, keep := Go.FG.keepIn [(2, [0, 1, 4, 5])], tk := fun n => Go.FG.memB n [], om := Go.FG.omIn [] }
def it139 (N : Nat) {R : Type} : It R := fun rid f cn L K => bif Nat.beq rid 2 then (tell [(0, (.v (.v false [(.sh 214 [])]))), (2, (.v (.v false [(.i .i64 0)]))), (8, (.v (.v false [(.i .i64 0)]))), (10, (.v (.v false [(.i .i64 0)])))] (fun | [.R x0, .I x1, .I x2, .I x3] => Pu.laws_heldClientS.l2 N (fun y0 y1 y2 y3 => (K .ret (tabl [(0, (.v (.v false [(.sh 214 y0)]))), (2, (.v (.v false [(.i .i64 y1)]))), (8, (.v (.v false [(.i .i64 y2)]))), (10, (.v (.v false [(.i .i64 y3)])))]))) (fun y0 y1 y2 y3 => (K (.exit 0) (tabl [(0, (.v (.v false [(.sh 214 y0)]))), (2, (.v (.v false [(.i .i64 y1)]))), (8, (.v (.v false [(.i .i64 y2)]))), (10, (.v (.v false [(.i .i64 y3)])))]))) N x0 x1 x2 x3 | _ => none) L (none)) else none
theorem e139_2 {R : Type} (N : Nat) (K : Ex → St → Option R) : ∀ n : Nat, (∀ x0 x1 x2 x3, iter (exc E139 (it139 N) (loopOf Try.f139 2)) (canon (E139.keep 2))  n (tabl [(0, (.v (.v false [(.sh 214 x0)]))), (2, (.v (.v false [(.i .i64 x1)]))), (8, (.v (.v false [(.i .i64 x2)]))), (10, (.v (.v false [(.i .i64 x3)])))]) K = Pu.laws_heldClientS.l2 N (fun y0 y1 y2 y3 => (K .ret (tabl [(0, (.v (.v false [(.sh 214 y0)]))), (2, (.v (.v false [(.i .i64 y1)]))), (8, (.v (.v false [(.i .i64 y2)]))), (10, (.v (.v false [(.i .i64 y3)])))]))) (fun y0 y1 y2 y3 => (K (.exit 0) (tabl [(0, (.v (.v false [(.sh 214 y0)]))), (2, (.v (.v false [(.i .i64 y1)]))), (8, (.v (.v false [(.i .i64 y2)]))), (10, (.v (.v false [(.i .i64 y3)])))]))) n x0 x1 x2 x3) := by
  intro n
  induction n with
  | zero => exact (fun _ _ _ _ => rfl)
  | succ n ih =>
    have e0 : (fun x0 x1 x2 x3 => iter (exc E139 (it139 N) (loopOf Try.f139 2)) (canon (E139.keep 2))  n (tabl [(0, (.v (.v false [(.sh 214 x0)]))), (2, (.v (.v false [(.i .i64 x1)]))), (8, (.v (.v false [(.i .i64 x2)]))), (10, (.v (.v false [(.i .i64 x3)])))]) K) = Pu.laws_heldClientS.l2 N (fun y0 y1 y2 y3 => (K .ret (tabl [(0, (.v (.v false [(.sh 214 y0)]))), (2, (.v (.v false [(.i .i64 y1)]))), (8, (.v (.v false [(.i .i64 y2)]))), (10, (.v (.v false [(.i .i64 y3)])))]))) (fun y0 y1 y2 y3 => (K (.exit 0) (tabl [(0, (.v (.v false [(.sh 214 y0)]))), (2, (.v (.v false [(.i .i64 y1)]))), (8, (.v (.v false [(.i .i64 y2)]))), (10, (.v (.v false [(.i .i64 y3)])))]))) n := by funext x0 x1 x2 x3; exact ih x0 x1 x2 x3
    intro x0 x1 x2 x3
    have h : ∀ g, exc E139 (it139 N) (loopOf Try.f139 2) (tabl [(0, (.v (.v false [(.sh 214 x0)]))), (2, (.v (.v false [(.i .i64 x1)]))), (8, (.v (.v false [(.i .i64 x2)]))), (10, (.v (.v false [(.i .i64 x3)])))]) (iterK g (canon (E139.keep 2)) K) = Pu.laws_heldClientS.r2 N (fun x0 x1 x2 x3 => (g (tabl [(0, (.v (.v false [(.sh 214 x0)]))), (2, (.v (.v false [(.i .i64 x1)]))), (8, (.v (.v false [(.i .i64 x2)]))), (10, (.v (.v false [(.i .i64 x3)])))]))) (fun y0 y1 y2 y3 => (K .ret (tabl [(0, (.v (.v false [(.sh 214 y0)]))), (2, (.v (.v false [(.i .i64 y1)]))), (8, (.v (.v false [(.i .i64 y2)]))), (10, (.v (.v false [(.i .i64 y3)])))]))) (fun y0 y1 y2 y3 => (K (.exit 0) (tabl [(0, (.v (.v false [(.sh 214 y0)]))), (2, (.v (.v false [(.i .i64 y1)]))), (8, (.v (.v false [(.i .i64 y2)]))), (10, (.v (.v false [(.i .i64 y3)])))]))) x0 x1 x2 x3 := by intro g; kernel_rfl
    refine (h _).trans ?_
    show Pu.laws_heldClientS.r2 N (fun x0 x1 x2 x3 => (iter (exc E139 (it139 N) (loopOf Try.f139 2)) (canon (E139.keep 2))  n (tabl [(0, (.v (.v false [(.sh 214 x0)]))), (2, (.v (.v false [(.i .i64 x1)]))), (8, (.v (.v false [(.i .i64 x2)]))), (10, (.v (.v false [(.i .i64 x3)])))]) K)) (fun y0 y1 y2 y3 => (K .ret (tabl [(0, (.v (.v false [(.sh 214 y0)]))), (2, (.v (.v false [(.i .i64 y1)]))), (8, (.v (.v false [(.i .i64 y2)]))), (10, (.v (.v false [(.i .i64 y3)])))]))) (fun y0 y1 y2 y3 => (K (.exit 0) (tabl [(0, (.v (.v false [(.sh 214 y0)]))), (2, (.v (.v false [(.i .i64 y1)]))), (8, (.v (.v false [(.i .i64 y2)]))), (10, (.v (.v false [(.i .i64 y3)])))]))) x0 x1 x2 x3 = _
    rw [e0]; rfl
theorem lo139_2 {R : Type} (N : Nat) : LoopOk E139 (it139 N (R := R)) (loopOf Try.f139 2) := by
  have e : firstRid (loopOf Try.f139 2) = 2 := by kernel_rfl
  intro L K r
  rw [e]
  intro h
  unfold it139 at h
  simp only [show Nat.beq 2 2 = true from rfl, cond_false, cond_true] at h
  refine tell_ok (Q := fun L => ∃ n, iter (exc E139 (it139 N) (loopOf Try.f139 2)) (canon (E139.keep 2)) n (tabl L) K = some r) h (fun xs h => ?_) (fun h => ?_)
  · (try dsimp only at h)
    split at h
    · exact ⟨N, ((e139_2 N K N) _ _ _ _).trans h⟩
    · cases h
  cases h
def sp139 : List Arg → Option (Bool × Res)
  | [(.v false [(.sh 214 a0)]), (.v false [(.i .i64 k1)])] => some (Pu.laws_heldClientS.c a0 k1, ⟨[(.v false [(.i .i64 (Pu.laws_heldClientS.v a0 k1))])], []⟩)
  | _ => none
theorem ok139 : FnOk Try.prog T 139 sp139 := by
  refine fn_ok (E := E139) hE (call_cons ok100 call_nil) hM Try.func139 (code := (Try.f139.body.getD .skip)) (by kernel_rfl) (by kernel_rfl) ?_
  have key : ∀ (a0 : Row) (k1 : Int), Pu.laws_heldClientS.c a0 k1 = true → ∃ it : It Res, (∀ c ∈ loopsOf (Try.f139.body.getD .skip), LoopOk E139 it c) ∧ body E139 it Try.f139 [(.v false [(.sh 214 a0)]), (.v false [(.i .i64 k1)])] = some ⟨[(.v false [(.i .i64 (Pu.laws_heldClientS.v a0 k1))])], []⟩ := by
    intro a0 k1  h1
    obtain ⟨N, hN⟩ := Pu.laws_heldClientS.b_eq (R := Res) (fun r0 => some ⟨[(.v false [(.i .i64 r0)])], []⟩) a0 k1 h1
    have hl : loopsOf (Try.f139.body.getD .skip) = [loopOf Try.f139 2] := by kernel_rfl
    refine ⟨it139 N, by rw [hl]; exact (loops_cons (lo139_2 N) loops_nil), ?_⟩
    refine Eq.trans (show body E139 (it139 N) Try.f139 [(.v false [(.sh 214 a0)]), (.v false [(.i .i64 k1)])] = Pu.laws_heldClientS.b N (fun r0 => some ⟨[(.v false [(.i .i64 r0)])], []⟩) a0 k1 by kernel_rfl) hN
  intro args r h
  unfold sp139 at h
  split at h
  · injection h with h
    injection h with h1 h2
    subst h2
    exact ⟨by kernel_rfl, fun hf => ⟨of_decide_eq_true (by kernel_rfl), key _ _ h1⟩⟩
  · cases h

end Go.FG.Se

namespace Go.FG.Se
open Go.Proofs
def E65 : Env := { toTab := T, call := Go.FG.callIn [(87, sp87), (137, sp137), (138, sp138), (139, sp139)], mode := Go.FG.modeIn md, keep := Go.FG.keepIn [], tk := fun n => Go.FG.memB n [], om := Go.FG.omIn [] }
def sp65 : List Arg → Option (Bool × Res)
  | [(.v true [(.i .i64 a0_0), (.sh 25 a0_1), (.sh 9 a0_2), (.sh 9 a0_3), (.sh 49 a0_4), (.i .i64 a0_5), (.sh 175 a0_6), (.sh 214 a0_7), (.i .i64 a0_8)]), (.v false [(.i .i64 k1)])] => some (Pu.laws_heldProxy.c a0_0 a0_1 a0_2 a0_3 a0_4 a0_5 a0_6 a0_7 a0_8 k1, ⟨[(.v false [(.i .i64 (Pu.laws_heldProxy.v a0_0 a0_1 a0_2 a0_3 a0_4 a0_5 a0_6 a0_7 a0_8 k1))])], []⟩)
  | _ => none
theorem ok65 : FnOk Try.prog T 65 sp65 := by
  refine fn_ok (E := E65) hE (call_cons ok87 (call_cons ok137 (call_cons ok138 (call_cons ok139 call_nil)))) hM Try.func65 (code := (Try.f65.body.getD .skip)) (by kernel_rfl) (by kernel_rfl) ?_
  have key : ∀ (a0_0 : Int) (a0_1 : Row) (a0_2 : Row) (a0_3 : Row) (a0_4 : Row) (a0_5 : Int) (a0_6 : Row) (a0_7 : Row) (a0_8 : Int) (k1 : Int), Pu.laws_heldProxy.c a0_0 a0_1 a0_2 a0_3 a0_4 a0_5 a0_6 a0_7 a0_8 k1 = true → ∃ it : It Res, (∀ c ∈ loopsOf (Try.f65.body.getD .skip), LoopOk E65 it c) ∧ body E65 it Try.f65 [(.v true [(.i .i64 a0_0), (.sh 25 a0_1), (.sh 9 a0_2), (.sh 9 a0_3), (.sh 49 a0_4), (.i .i64 a0_5), (.sh 175 a0_6), (.sh 214 a0_7), (.i .i64 a0_8)]), (.v false [(.i .i64 k1)])] = some ⟨[(.v false [(.i .i64 (Pu.laws_heldProxy.v a0_0 a0_1 a0_2 a0_3 a0_4 a0_5 a0_6 a0_7 a0_8 k1))])], []⟩ := by
    intro a0_0 a0_1 a0_2 a0_3 a0_4 a0_5 a0_6 a0_7 a0_8 k1  h1
    have hN := Pu.laws_heldProxy.b_eq (R := Res) (fun r0 => some ⟨[(.v false [(.i .i64 r0)])], []⟩) a0_0 a0_1 a0_2 a0_3 a0_4 a0_5 a0_6 a0_7 a0_8 k1 h1
    have hl : loopsOf (Try.f65.body.getD .skip) = [] := by kernel_rfl
    refine ⟨iterN 0, by rw [hl]; exact loops_nil, ?_⟩
    refine Eq.trans (show body E65 (iterN 0) Try.f65 [(.v true [(.i .i64 a0_0), (.sh 25 a0_1), (.sh 9 a0_2), (.sh 9 a0_3), (.sh 49 a0_4), (.i .i64 a0_5), (.sh 175 a0_6), (.sh 214 a0_7), (.i .i64 a0_8)]), (.v false [(.i .i64 k1)])] = Pu.laws_heldProxy.b (fun r0 => some ⟨[(.v false [(.i .i64 r0)])], []⟩) a0_0 a0_1 a0_2 a0_3 a0_4 a0_5 a0_6 a0_7 a0_8 k1 by kernel_rfl) hN
  intro args r h
  unfold sp65 at h
  split at h
  · injection h with h
    injection h with h1 h2
    subst h2
    exact ⟨by kernel_rfl, fun hf => ⟨of_decide_eq_true (by kernel_rfl), key _ _ _ _ _ _ _ _ _ _ h1⟩⟩
  · cases h

end Go.FG.Se

namespace Go.FG.Se
open Go.Proofs
def E10 : Env := { toTab := T, call := Go.FG.callIn [(61, sp61), (62, sp62), (63, sp63), (64, sp64), (65, sp65)], mode := Go.FG.modeIn md, keep := Go.FG.keepIn [], tk := fun n => Go.FG.memB n [], om := Go.FG.omIn [] }
def sp10 : List Arg → Option (Bool × Res)
  | [] => some (true, ⟨[(.v false [(.b Pu.laws_FnExactProxyNew.v)])], []⟩)
  | _ => none
theorem ok10 : FnOk Try.prog T 10 sp10 := by
  refine fn_ok (E := E10) hE (call_cons ok61 (call_cons ok62 (call_cons ok63 (call_cons ok64 (call_cons ok65 call_nil))))) hM Try.func10 (code := (Try.f10.body.getD .skip)) (by kernel_rfl) (by kernel_rfl) ?_
  have key : ∃ it : It Res, (∀ c ∈ loopsOf (Try.f10.body.getD .skip), LoopOk E10 it c) ∧ body E10 it Try.f10 [] = some ⟨[(.v false [(.b Pu.laws_FnExactProxyNew.v)])], []⟩ := by
    skip
    have hN := Pu.laws_FnExactProxyNew.b_eq (R := Res) (fun r0 => some ⟨[(.v false [(.b r0)])], []⟩) 
    have hl : loopsOf (Try.f10.body.getD .skip) = [] := by kernel_rfl
    refine ⟨iterN 0, by rw [hl]; exact loops_nil, ?_⟩
    refine Eq.trans (show body E10 (iterN 0) Try.f10 [] = Pu.laws_FnExactProxyNew.b (fun r0 => some ⟨[(.v false [(.b r0)])], []⟩)  by kernel_rfl) hN
  intro args r h
  unfold sp10 at h
  split at h
  · injection h with h
    injection h with h1 h2
    subst h2
    exact ⟨by kernel_rfl, fun hf => ⟨of_decide_eq_true (by kernel_rfl), key⟩⟩
  · cases h

end Go.FG.Se

