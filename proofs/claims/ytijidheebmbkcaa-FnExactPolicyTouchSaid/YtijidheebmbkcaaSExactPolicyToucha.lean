/- Functions of the program: the evaluation of each, and that a call of it does what is told. No condition. -/
import Derived.Test.YtijidheebmbkcaaTab
import Derived.Test.YtijidheebmbkcaaPExactPolicyTouch
set_option linter.unusedVariables false
set_option linter.unusedSimpArgs false
set_option maxRecDepth 100000
namespace Go.FG.Se
open Go.Proofs
def E97 : Env := { toTab := T, call := Go.FG.callIn [], mode := Go.FG.modeIn md, keep := Go.FG.keepIn [(5, [0, 1, 4, 5])], tk := fun n => Go.FG.memB n [], om := Go.FG.omIn [] }
def it97 (N : Nat) {R : Type} : It R := fun rid f cn L K => bif Nat.beq rid 5 then (tell [(0, (.v (.v false [(.sh 9 [])]))), (2, (.v (.v false [(.i .i64 0)]))), (8, (.v (.v false [(.i .i64 0)]))), (10, (.v (.v false [(.i .i64 0)])))] (fun | [.R x0, .I x1, .I x2, .I x3] => Pu.laws_szStringS.l5 N (fun y0 y1 y2 y3 => (K .ret (tabl [(0, (.v (.v false [(.sh 9 y0)]))), (2, (.v (.v false [(.i .i64 y1)]))), (8, (.v (.v false [(.i .i64 y2)]))), (10, (.v (.v false [(.i .i64 y3)])))]))) (fun y0 y1 y2 y3 => (K (.exit 0) (tabl [(0, (.v (.v false [(.sh 9 y0)]))), (2, (.v (.v false [(.i .i64 y1)]))), (8, (.v (.v false [(.i .i64 y2)]))), (10, (.v (.v false [(.i .i64 y3)])))]))) N x0 x1 x2 x3 | _ => none) L (none)) else none
theorem e97_5 {R : Type} (N : Nat) (K : Ex → St → Option R) : ∀ n : Nat, (∀ x0 x1 x2 x3, iter (exc E97 (it97 N) (loopOf Try.f97 5)) (canon (E97.keep 5))  n (tabl [(0, (.v (.v false [(.sh 9 x0)]))), (2, (.v (.v false [(.i .i64 x1)]))), (8, (.v (.v false [(.i .i64 x2)]))), (10, (.v (.v false [(.i .i64 x3)])))]) K = Pu.laws_szStringS.l5 N (fun y0 y1 y2 y3 => (K .ret (tabl [(0, (.v (.v false [(.sh 9 y0)]))), (2, (.v (.v false [(.i .i64 y1)]))), (8, (.v (.v false [(.i .i64 y2)]))), (10, (.v (.v false [(.i .i64 y3)])))]))) (fun y0 y1 y2 y3 => (K (.exit 0) (tabl [(0, (.v (.v false [(.sh 9 y0)]))), (2, (.v (.v false [(.i .i64 y1)]))), (8, (.v (.v false [(.i .i64 y2)]))), (10, (.v (.v false [(.i .i64 y3)])))]))) n x0 x1 x2 x3) := by
  intro n
  induction n with
  | zero => exact (fun _ _ _ _ => rfl)
  | succ n ih =>
    have e0 : (fun x0 x1 x2 x3 => iter (exc E97 (it97 N) (loopOf Try.f97 5)) (canon (E97.keep 5))  n (tabl [(0, (.v (.v false [(.sh 9 x0)]))), (2, (.v (.v false [(.i .i64 x1)]))), (8, (.v (.v false [(.i .i64 x2)]))), (10, (.v (.v false [(.i .i64 x3)])))]) K) = Pu.laws_szStringS.l5 N (fun y0 y1 y2 y3 => (K .ret (tabl [(0, (.v (.v false [(.sh 9 y0)]))), (2, (.v (.v false [(.i .i64 y1)]))), (8, (.v (.v false [(.i .i64 y2)]))), (10, (.v (.v false [(.i .i64 y3)])))]))) (fun y0 y1 y2 y3 => (K (.exit 0) (tabl [(0, (.v (.v false [(.sh 9 y0)]))), (2, (.v (.v false [(.i .i64 y1)]))), (8, (.v (.v false [(.i .i64 y2)]))), (10, (.v (.v false [(.i .i64 y3)])))]))) n := by funext x0 x1 x2 x3; exact ih x0 x1 x2 x3
    intro x0 x1 x2 x3
    have h : ∀ g, exc E97 (it97 N) (loopOf Try.f97 5) (tabl [(0, (.v (.v false [(.sh 9 x0)]))), (2, (.v (.v false [(.i .i64 x1)]))), (8, (.v (.v false [(.i .i64 x2)]))), (10, (.v (.v false [(.i .i64 x3)])))]) (iterK g (canon (E97.keep 5)) K) = Pu.laws_szStringS.r5 N (fun x0 x1 x2 x3 => (g (tabl [(0, (.v (.v false [(.sh 9 x0)]))), (2, (.v (.v false [(.i .i64 x1)]))), (8, (.v (.v false [(.i .i64 x2)]))), (10, (.v (.v false [(.i .i64 x3)])))]))) (fun y0 y1 y2 y3 => (K .ret (tabl [(0, (.v (.v false [(.sh 9 y0)]))), (2, (.v (.v false [(.i .i64 y1)]))), (8, (.v (.v false [(.i .i64 y2)]))), (10, (.v (.v false [(.i .i64 y3)])))]))) (fun y0 y1 y2 y3 => (K (.exit 0) (tabl [(0, (.v (.v false [(.sh 9 y0)]))), (2, (.v (.v false [(.i .i64 y1)]))), (8, (.v (.v false [(.i .i64 y2)]))), (10, (.v (.v false [(.i .i64 y3)])))]))) x0 x1 x2 x3 := by intro g; kernel_rfl
    refine (iter_succ _ _ n _ K).trans ((h _).trans ?_)
    show Pu.laws_szStringS.r5 N (fun x0 x1 x2 x3 => (iter (exc E97 (it97 N) (loopOf Try.f97 5)) (canon (E97.keep 5))  n (tabl [(0, (.v (.v false [(.sh 9 x0)]))), (2, (.v (.v false [(.i .i64 x1)]))), (8, (.v (.v false [(.i .i64 x2)]))), (10, (.v (.v false [(.i .i64 x3)])))]) K)) (fun y0 y1 y2 y3 => (K .ret (tabl [(0, (.v (.v false [(.sh 9 y0)]))), (2, (.v (.v false [(.i .i64 y1)]))), (8, (.v (.v false [(.i .i64 y2)]))), (10, (.v (.v false [(.i .i64 y3)])))]))) (fun y0 y1 y2 y3 => (K (.exit 0) (tabl [(0, (.v (.v false [(.sh 9 y0)]))), (2, (.v (.v false [(.i .i64 y1)]))), (8, (.v (.v false [(.i .i64 y2)]))), (10, (.v (.v false [(.i .i64 y3)])))]))) x0 x1 x2 x3 = _
    rw [e0]; rfl
theorem lo97_5 {R : Type} (N : Nat) : LoopOk E97 (it97 N (R := R)) (loopOf Try.f97 5) := by
  have e : firstRid (loopOf Try.f97 5) = 5 := by kernel_rfl
  intro L K r
  rw [e]
  intro h
  unfold it97 at h
  simp only [show Nat.beq 5 5 = true from rfl, cond_false, cond_true] at h
  refine tell_ok (Q := fun L => ∃ n, iter (exc E97 (it97 N) (loopOf Try.f97 5)) (canon (E97.keep 5)) n (tabl L) K = some r) h (fun xs h => ?_) (fun h => ?_)
  · (try dsimp only at h)
    split at h
    · exact ⟨N, ((e97_5 N K N) _ _ _ _).trans h⟩
    · cases h
  cases h
def sp97 : List Arg → Option (Bool × Res)
  | [(.v false [(.sh 9 a0)]), (.v false [(.i .i64 left1)])] => some (Pu.laws_szStringS.c a0 left1, ⟨[(.v false [(.i .i64 (Pu.laws_szStringS.v a0 left1))])], []⟩)
  | _ => none
theorem ok97 : FnOk Try.prog T 97 sp97 := by
  refine fn_ok (E := E97) hE call_nil hM Try.func97 (code := (Try.f97.body.getD .skip)) (by kernel_rfl) (by kernel_rfl) ?_
  have key : ∀ (a0 : Row) (left1 : Int), Pu.laws_szStringS.c a0 left1 = true → ∃ it : It Res, (∀ c ∈ loopsOf (Try.f97.body.getD .skip), LoopOk E97 it c) ∧ body E97 it Try.f97 [(.v false [(.sh 9 a0)]), (.v false [(.i .i64 left1)])] = some ⟨[(.v false [(.i .i64 (Pu.laws_szStringS.v a0 left1))])], []⟩ := by
    intro a0 left1  h1
    obtain ⟨N, hN⟩ := Pu.laws_szStringS.b_eq (R := Res) (fun r0 => some ⟨[(.v false [(.i .i64 r0)])], []⟩) a0 left1 h1
    have hl : loopsOf (Try.f97.body.getD .skip) = [loopOf Try.f97 5] := by kernel_rfl
    refine ⟨it97 N, by rw [hl]; exact (loops_cons (lo97_5 N) loops_nil), ?_⟩
    refine Eq.trans (show body E97 (it97 N) Try.f97 [(.v false [(.sh 9 a0)]), (.v false [(.i .i64 left1)])] = Pu.laws_szStringS.b N (fun r0 => some ⟨[(.v false [(.i .i64 r0)])], []⟩) a0 left1 by kernel_rfl) hN
  intro args r h
  unfold sp97 at h
  split at h
  · injection h with h
    injection h with h1 h2
    subst h2
    exact ⟨by kernel_rfl, fun hf => ⟨of_decide_eq_true (by kernel_rfl), key _ _ h1⟩⟩
  · cases h

end Go.FG.Se

namespace Go.FG.Se
open Go.Proofs
def E223 : Env := { toTab := T, call := Go.FG.callIn [], mode := Go.FG.modeIn md, keep := Go.FG.keepIn [], tk := fun n => Go.FG.memB n [], om := Go.FG.omIn [] }
def sp223 : List Arg → Option (Bool × Res)
  | [(.v false [(.sh 3 a0)]), (.v false [(.i .i64 left1)])] => some (true, ⟨[(.v false [(.i .i64 (Pu.laws_szIntS.v a0 left1))])], []⟩)
  | _ => none
theorem ok223 : FnOk Try.prog T 223 sp223 := by
  refine fn_ok (E := E223) hE call_nil hM Try.func223 (code := (Try.f223.body.getD .skip)) (by kernel_rfl) (by kernel_rfl) ?_
  have key : ∀ (a0 : Row) (left1 : Int), ∃ it : It Res, (∀ c ∈ loopsOf (Try.f223.body.getD .skip), LoopOk E223 it c) ∧ body E223 it Try.f223 [(.v false [(.sh 3 a0)]), (.v false [(.i .i64 left1)])] = some ⟨[(.v false [(.i .i64 (Pu.laws_szIntS.v a0 left1))])], []⟩ := by
    intro a0 left1 
    have hN := Pu.laws_szIntS.b_eq (R := Res) (fun r0 => some ⟨[(.v false [(.i .i64 r0)])], []⟩) a0 left1
    have hl : loopsOf (Try.f223.body.getD .skip) = [] := by kernel_rfl
    refine ⟨iterN 0, by rw [hl]; exact loops_nil, ?_⟩
    refine Eq.trans (show body E223 (iterN 0) Try.f223 [(.v false [(.sh 3 a0)]), (.v false [(.i .i64 left1)])] = Pu.laws_szIntS.b (fun r0 => some ⟨[(.v false [(.i .i64 r0)])], []⟩) a0 left1 by kernel_rfl) hN
  intro args r h
  unfold sp223 at h
  split at h
  · injection h with h
    injection h with h1 h2
    subst h2
    exact ⟨by kernel_rfl, fun hf => ⟨of_decide_eq_true (by kernel_rfl), key _ _⟩⟩
  · cases h

end Go.FG.Se

namespace Go.FG.Se
open Go.Proofs
def E185 : Env := { toTab := T, call := Go.FG.callIn [(223, sp223)], mode := Go.FG.modeIn md, keep := Go.FG.keepIn [(5, [0, 1, 4, 5])], tk := fun n => Go.FG.memB n [], om := Go.FG.omIn [] }
def it185 (N : Nat) {R : Type} : It R := fun rid f cn L K => bif Nat.beq rid 5 then (tell [(0, (.v (.v false [(.sh 30 [])]))), (2, (.v (.v false [(.i .i64 0)]))), (8, (.v (.v false [(.i .i64 0)]))), (10, (.v (.v false [(.i .i64 0)])))] (fun | [.R x0, .I x1, .I x2, .I x3] => Pu.laws_szIntSS.l5 N (fun y0 y1 y2 y3 => (K .ret (tabl [(0, (.v (.v false [(.sh 30 y0)]))), (2, (.v (.v false [(.i .i64 y1)]))), (8, (.v (.v false [(.i .i64 y2)]))), (10, (.v (.v false [(.i .i64 y3)])))]))) (fun y0 y1 y2 y3 => (K (.exit 0) (tabl [(0, (.v (.v false [(.sh 30 y0)]))), (2, (.v (.v false [(.i .i64 y1)]))), (8, (.v (.v false [(.i .i64 y2)]))), (10, (.v (.v false [(.i .i64 y3)])))]))) N x0 x1 x2 x3 | _ => none) L (none)) else none
theorem e185_5 {R : Type} (N : Nat) (K : Ex → St → Option R) : ∀ n : Nat, (∀ x0 x1 x2 x3, iter (exc E185 (it185 N) (loopOf Try.f185 5)) (canon (E185.keep 5))  n (tabl [(0, (.v (.v false [(.sh 30 x0)]))), (2, (.v (.v false [(.i .i64 x1)]))), (8, (.v (.v false [(.i .i64 x2)]))), (10, (.v (.v false [(.i .i64 x3)])))]) K = Pu.laws_szIntSS.l5 N (fun y0 y1 y2 y3 => (K .ret (tabl [(0, (.v (.v false [(.sh 30 y0)]))), (2, (.v (.v false [(.i .i64 y1)]))), (8, (.v (.v false [(.i .i64 y2)]))), (10, (.v (.v false [(.i .i64 y3)])))]))) (fun y0 y1 y2 y3 => (K (.exit 0) (tabl [(0, (.v (.v false [(.sh 30 y0)]))), (2, (.v (.v false [(.i .i64 y1)]))), (8, (.v (.v false [(.i .i64 y2)]))), (10, (.v (.v false [(.i .i64 y3)])))]))) n x0 x1 x2 x3) := by
  intro n
  induction n with
  | zero => exact (fun _ _ _ _ => rfl)
  | succ n ih =>
    have e0 : (fun x0 x1 x2 x3 => iter (exc E185 (it185 N) (loopOf Try.f185 5)) (canon (E185.keep 5))  n (tabl [(0, (.v (.v false [(.sh 30 x0)]))), (2, (.v (.v false [(.i .i64 x1)]))), (8, (.v (.v false [(.i .i64 x2)]))), (10, (.v (.v false [(.i .i64 x3)])))]) K) = Pu.laws_szIntSS.l5 N (fun y0 y1 y2 y3 => (K .ret (tabl [(0, (.v (.v false [(.sh 30 y0)]))), (2, (.v (.v false [(.i .i64 y1)]))), (8, (.v (.v false [(.i .i64 y2)]))), (10, (.v (.v false [(.i .i64 y3)])))]))) (fun y0 y1 y2 y3 => (K (.exit 0) (tabl [(0, (.v (.v false [(.sh 30 y0)]))), (2, (.v (.v false [(.i .i64 y1)]))), (8, (.v (.v false [(.i .i64 y2)]))), (10, (.v (.v false [(.i .i64 y3)])))]))) n := by funext x0 x1 x2 x3; exact ih x0 x1 x2 x3
    intro x0 x1 x2 x3
    have h : ∀ g, exc E185 (it185 N) (loopOf Try.f185 5) (tabl [(0, (.v (.v false [(.sh 30 x0)]))), (2, (.v (.v false [(.i .i64 x1)]))), (8, (.v (.v false [(.i .i64 x2)]))), (10, (.v (.v false [(.i .i64 x3)])))]) (iterK g (canon (E185.keep 5)) K) = Pu.laws_szIntSS.r5 N (fun x0 x1 x2 x3 => (g (tabl [(0, (.v (.v false [(.sh 30 x0)]))), (2, (.v (.v false [(.i .i64 x1)]))), (8, (.v (.v false [(.i .i64 x2)]))), (10, (.v (.v false [(.i .i64 x3)])))]))) (fun y0 y1 y2 y3 => (K .ret (tabl [(0, (.v (.v false [(.sh 30 y0)]))), (2, (.v (.v false [(.i .i64 y1)]))), (8, (.v (.v false [(.i .i64 y2)]))), (10, (.v (.v false [(.i .i64 y3)])))]))) (fun y0 y1 y2 y3 => (K (.exit 0) (tabl [(0, (.v (.v false [(.sh 30 y0)]))), (2, (.v (.v false [(.i .i64 y1)]))), (8, (.v (.v false [(.i .i64 y2)]))), (10, (.v (.v false [(.i .i64 y3)])))]))) x0 x1 x2 x3 := by intro g; kernel_rfl
    refine (iter_succ _ _ n _ K).trans ((h _).trans ?_)
    show Pu.laws_szIntSS.r5 N (fun x0 x1 x2 x3 => (iter (exc E185 (it185 N) (loopOf Try.f185 5)) (canon (E185.keep 5))  n (tabl [(0, (.v (.v false [(.sh 30 x0)]))), (2, (.v (.v false [(.i .i64 x1)]))), (8, (.v (.v false [(.i .i64 x2)]))), (10, (.v (.v false [(.i .i64 x3)])))]) K)) (fun y0 y1 y2 y3 => (K .ret (tabl [(0, (.v (.v false [(.sh 30 y0)]))), (2, (.v (.v false [(.i .i64 y1)]))), (8, (.v (.v false [(.i .i64 y2)]))), (10, (.v (.v false [(.i .i64 y3)])))]))) (fun y0 y1 y2 y3 => (K (.exit 0) (tabl [(0, (.v (.v false [(.sh 30 y0)]))), (2, (.v (.v false [(.i .i64 y1)]))), (8, (.v (.v false [(.i .i64 y2)]))), (10, (.v (.v false [(.i .i64 y3)])))]))) x0 x1 x2 x3 = _
    rw [e0]; rfl
theorem lo185_5 {R : Type} (N : Nat) : LoopOk E185 (it185 N (R := R)) (loopOf Try.f185 5) := by
  have e : firstRid (loopOf Try.f185 5) = 5 := by kernel_rfl
  intro L K r
  rw [e]
  intro h
  unfold it185 at h
  simp only [show Nat.beq 5 5 = true from rfl, cond_false, cond_true] at h
  refine tell_ok (Q := fun L => ∃ n, iter (exc E185 (it185 N) (loopOf Try.f185 5)) (canon (E185.keep 5)) n (tabl L) K = some r) h (fun xs h => ?_) (fun h => ?_)
  · (try dsimp only at h)
    split at h
    · exact ⟨N, ((e185_5 N K N) _ _ _ _).trans h⟩
    · cases h
  cases h
def sp185 : List Arg → Option (Bool × Res)
  | [(.v false [(.sh 30 a0)]), (.v false [(.i .i64 left1)])] => some (Pu.laws_szIntSS.c a0 left1, ⟨[(.v false [(.i .i64 (Pu.laws_szIntSS.v a0 left1))])], []⟩)
  | _ => none
theorem ok185 : FnOk Try.prog T 185 sp185 := by
  refine fn_ok (E := E185) hE (call_cons ok223 call_nil) hM Try.func185 (code := (Try.f185.body.getD .skip)) (by kernel_rfl) (by kernel_rfl) ?_
  have key : ∀ (a0 : Row) (left1 : Int), Pu.laws_szIntSS.c a0 left1 = true → ∃ it : It Res, (∀ c ∈ loopsOf (Try.f185.body.getD .skip), LoopOk E185 it c) ∧ body E185 it Try.f185 [(.v false [(.sh 30 a0)]), (.v false [(.i .i64 left1)])] = some ⟨[(.v false [(.i .i64 (Pu.laws_szIntSS.v a0 left1))])], []⟩ := by
    intro a0 left1  h1
    obtain ⟨N, hN⟩ := Pu.laws_szIntSS.b_eq (R := Res) (fun r0 => some ⟨[(.v false [(.i .i64 r0)])], []⟩) a0 left1 h1
    have hl : loopsOf (Try.f185.body.getD .skip) = [loopOf Try.f185 5] := by kernel_rfl
    refine ⟨it185 N, by rw [hl]; exact (loops_cons (lo185_5 N) loops_nil), ?_⟩
    refine Eq.trans (show body E185 (it185 N) Try.f185 [(.v false [(.sh 30 a0)]), (.v false [(.i .i64 left1)])] = Pu.laws_szIntSS.b N (fun r0 => some ⟨[(.v false [(.i .i64 r0)])], []⟩) a0 left1 by kernel_rfl) hN
  intro args r h
  unfold sp185 at h
  split at h
  · injection h with h
    injection h with h1 h2
    subst h2
    exact ⟨by kernel_rfl, fun hf => ⟨of_decide_eq_true (by kernel_rfl), key _ _ h1⟩⟩
  · cases h

end Go.FG.Se

namespace Go.FG.Se
open Go.Proofs
def E98 : Env := { toTab := T, call := Go.FG.callIn [(185, sp185)], mode := Go.FG.modeIn md, keep := Go.FG.keepIn [], tk := fun n => Go.FG.memB n [], om := Go.FG.omIn [] }
def sp98 : List Arg → Option (Bool × Res)
  | [(.v true [(.sh 30 a0_0), (.i .i64 a0_1)]), (.v false [(.i .i64 left1)])] => some (Pu.laws_szSketch.c a0_0 a0_1 left1, ⟨[(.v false [(.i .i64 (Pu.laws_szSketch.v a0_0 a0_1 left1))])], []⟩)
  | _ => none
theorem ok98 : FnOk Try.prog T 98 sp98 := by
  refine fn_ok (E := E98) hE (call_cons ok185 call_nil) hM Try.func98 (code := (Try.f98.body.getD .skip)) (by kernel_rfl) (by kernel_rfl) ?_
  have key : ∀ (a0_0 : Row) (a0_1 : Int) (left1 : Int), Pu.laws_szSketch.c a0_0 a0_1 left1 = true → ∃ it : It Res, (∀ c ∈ loopsOf (Try.f98.body.getD .skip), LoopOk E98 it c) ∧ body E98 it Try.f98 [(.v true [(.sh 30 a0_0), (.i .i64 a0_1)]), (.v false [(.i .i64 left1)])] = some ⟨[(.v false [(.i .i64 (Pu.laws_szSketch.v a0_0 a0_1 left1))])], []⟩ := by
    intro a0_0 a0_1 left1  h1
    have hN := Pu.laws_szSketch.b_eq (R := Res) (fun r0 => some ⟨[(.v false [(.i .i64 r0)])], []⟩) a0_0 a0_1 left1 h1
    have hl : loopsOf (Try.f98.body.getD .skip) = [] := by kernel_rfl
    refine ⟨iterN 0, by rw [hl]; exact loops_nil, ?_⟩
    refine Eq.trans (show body E98 (iterN 0) Try.f98 [(.v true [(.sh 30 a0_0), (.i .i64 a0_1)]), (.v false [(.i .i64 left1)])] = Pu.laws_szSketch.b (fun r0 => some ⟨[(.v false [(.i .i64 r0)])], []⟩) a0_0 a0_1 left1 by kernel_rfl) hN
  intro args r h
  unfold sp98 at h
  split at h
  · injection h with h
    injection h with h1 h2
    subst h2
    exact ⟨by kernel_rfl, fun hf => ⟨of_decide_eq_true (by kernel_rfl), key _ _ _ h1⟩⟩
  · cases h

end Go.FG.Se

namespace Go.FG.Se
open Go.Proofs
def E31 : Env := { toTab := T, call := Go.FG.callIn [(97, sp97), (98, sp98)], mode := Go.FG.modeIn md, keep := Go.FG.keepIn [], tk := fun n => Go.FG.memB n [], om := Go.FG.omIn [] }
def sp31 : List Arg → Option (Bool × Res)
  | [(.v true [(.sh 9 a0_0), (.sh 9 a0_1), (.sh 30 a0_2), (.i .i64 a0_3)]), (.v false [(.i .i64 left1)])] => some (Pu.laws_szPolicy.c a0_0 a0_1 a0_2 a0_3 left1, ⟨[(.v false [(.i .i64 (Pu.laws_szPolicy.v a0_0 a0_1 a0_2 a0_3 left1))])], []⟩)
  | _ => none
theorem ok31 : FnOk Try.prog T 31 sp31 := by
  refine fn_ok (E := E31) hE (call_cons ok97 (call_cons ok98 call_nil)) hM Try.func31 (code := (Try.f31.body.getD .skip)) (by kernel_rfl) (by kernel_rfl) ?_
  have key : ∀ (a0_0 : Row) (a0_1 : Row) (a0_2 : Row) (a0_3 : Int) (left1 : Int), Pu.laws_szPolicy.c a0_0 a0_1 a0_2 a0_3 left1 = true → ∃ it : It Res, (∀ c ∈ loopsOf (Try.f31.body.getD .skip), LoopOk E31 it c) ∧ body E31 it Try.f31 [(.v true [(.sh 9 a0_0), (.sh 9 a0_1), (.sh 30 a0_2), (.i .i64 a0_3)]), (.v false [(.i .i64 left1)])] = some ⟨[(.v false [(.i .i64 (Pu.laws_szPolicy.v a0_0 a0_1 a0_2 a0_3 left1))])], []⟩ := by
    intro a0_0 a0_1 a0_2 a0_3 left1  h1
    have hN := Pu.laws_szPolicy.b_eq (R := Res) (fun r0 => some ⟨[(.v false [(.i .i64 r0)])], []⟩) a0_0 a0_1 a0_2 a0_3 left1 h1
    have hl : loopsOf (Try.f31.body.getD .skip) = [] := by kernel_rfl
    refine ⟨iterN 0, by rw [hl]; exact loops_nil, ?_⟩
    refine Eq.trans (show body E31 (iterN 0) Try.f31 [(.v true [(.sh 9 a0_0), (.sh 9 a0_1), (.sh 30 a0_2), (.i .i64 a0_3)]), (.v false [(.i .i64 left1)])] = Pu.laws_szPolicy.b (fun r0 => some ⟨[(.v false [(.i .i64 r0)])], []⟩) a0_0 a0_1 a0_2 a0_3 left1 by kernel_rfl) hN
  intro args r h
  unfold sp31 at h
  split at h
  · injection h with h
    injection h with h1 h2
    subst h2
    exact ⟨by kernel_rfl, fun hf => ⟨of_decide_eq_true (by kernel_rfl), key _ _ _ _ _ h1⟩⟩
  · cases h

end Go.FG.Se

namespace Go.FG.Se
open Go.Proofs
def E106 : Env := { toTab := T, call := Go.FG.callIn [], mode := Go.FG.modeIn md, keep := Go.FG.keepIn [(3, [0, 3, 4])], tk := fun n => Go.FG.memB n [], om := Go.FG.omIn [] }
def it106 (N : Nat) {R : Type} : It R := fun rid f cn L K => bif Nat.beq rid 3 then (tell [(0, (.v (.v false [(.sh 9 [])]))), (6, (.v (.v false [(.own 0)]))), (8, (.v (.v false [(.i .i64 0)]))), (1, (.o (.row 9 true [])))] (fun | [.R x0, .I x1, .R x2] => Pu.laws_toStringS.l3 N (fun y0 y1 y2 => (K (.exit 0) (tabl [(0, (.v (.v false [(.sh 9 y0)]))), (6, (.v (.v false [(.own 0)]))), (8, (.v (.v false [(.i .i64 y1)]))), (1, (.o (.row 9 true y2)))]))) N x0 x1 x2 | _ => none) L (none)) else none
theorem e106_3 {R : Type} (N : Nat) (K : Ex → St → Option R) : ∀ n : Nat, (∀ x0 x1 x2, iter (exc E106 (it106 N) (loopOf Try.f106 3)) (canon (E106.keep 3))  n (tabl [(0, (.v (.v false [(.sh 9 x0)]))), (6, (.v (.v false [(.own 0)]))), (8, (.v (.v false [(.i .i64 x1)]))), (1, (.o (.row 9 true x2)))]) K = Pu.laws_toStringS.l3 N (fun y0 y1 y2 => (K (.exit 0) (tabl [(0, (.v (.v false [(.sh 9 y0)]))), (6, (.v (.v false [(.own 0)]))), (8, (.v (.v false [(.i .i64 y1)]))), (1, (.o (.row 9 true y2)))]))) n x0 x1 x2) := by
  intro n
  induction n with
  | zero => exact (fun _ _ _ => rfl)
  | succ n ih =>
    have e0 : (fun x0 x1 x2 => iter (exc E106 (it106 N) (loopOf Try.f106 3)) (canon (E106.keep 3))  n (tabl [(0, (.v (.v false [(.sh 9 x0)]))), (6, (.v (.v false [(.own 0)]))), (8, (.v (.v false [(.i .i64 x1)]))), (1, (.o (.row 9 true x2)))]) K) = Pu.laws_toStringS.l3 N (fun y0 y1 y2 => (K (.exit 0) (tabl [(0, (.v (.v false [(.sh 9 y0)]))), (6, (.v (.v false [(.own 0)]))), (8, (.v (.v false [(.i .i64 y1)]))), (1, (.o (.row 9 true y2)))]))) n := by funext x0 x1 x2; exact ih x0 x1 x2
    intro x0 x1 x2
    have h : ∀ g, exc E106 (it106 N) (loopOf Try.f106 3) (tabl [(0, (.v (.v false [(.sh 9 x0)]))), (6, (.v (.v false [(.own 0)]))), (8, (.v (.v false [(.i .i64 x1)]))), (1, (.o (.row 9 true x2)))]) (iterK g (canon (E106.keep 3)) K) = Pu.laws_toStringS.r3 N (fun x0 x1 x2 => (g (tabl [(0, (.v (.v false [(.sh 9 x0)]))), (6, (.v (.v false [(.own 0)]))), (8, (.v (.v false [(.i .i64 x1)]))), (1, (.o (.row 9 true x2)))]))) (fun y0 y1 y2 => (K (.exit 0) (tabl [(0, (.v (.v false [(.sh 9 y0)]))), (6, (.v (.v false [(.own 0)]))), (8, (.v (.v false [(.i .i64 y1)]))), (1, (.o (.row 9 true y2)))]))) x0 x1 x2 := by intro g; kernel_rfl
    refine (iter_succ _ _ n _ K).trans ((h _).trans ?_)
    show Pu.laws_toStringS.r3 N (fun x0 x1 x2 => (iter (exc E106 (it106 N) (loopOf Try.f106 3)) (canon (E106.keep 3))  n (tabl [(0, (.v (.v false [(.sh 9 x0)]))), (6, (.v (.v false [(.own 0)]))), (8, (.v (.v false [(.i .i64 x1)]))), (1, (.o (.row 9 true x2)))]) K)) (fun y0 y1 y2 => (K (.exit 0) (tabl [(0, (.v (.v false [(.sh 9 y0)]))), (6, (.v (.v false [(.own 0)]))), (8, (.v (.v false [(.i .i64 y1)]))), (1, (.o (.row 9 true y2)))]))) x0 x1 x2 = _
    rw [e0]; rfl
theorem lo106_3 {R : Type} (N : Nat) : LoopOk E106 (it106 N (R := R)) (loopOf Try.f106 3) := by
  have e : firstRid (loopOf Try.f106 3) = 3 := by kernel_rfl
  intro L K r
  rw [e]
  intro h
  unfold it106 at h
  simp only [show Nat.beq 3 3 = true from rfl, cond_false, cond_true] at h
  refine tell_ok (Q := fun L => ∃ n, iter (exc E106 (it106 N) (loopOf Try.f106 3)) (canon (E106.keep 3)) n (tabl L) K = some r) h (fun xs h => ?_) (fun h => ?_)
  · (try dsimp only at h)
    split at h
    · exact ⟨N, ((e106_3 N K N) _ _ _).trans h⟩
    · cases h
  cases h
def sp106 : List Arg → Option (Bool × Res)
  | [(.v false [(.sh 9 a0)])] => some (Pu.laws_toStringS.c a0, ⟨[(.v false [(.ow 9 true (Pu.laws_toStringS.v a0))])], []⟩)
  | _ => none
theorem ok106 : FnOk Try.prog T 106 sp106 := by
  refine fn_ok (E := E106) hE call_nil hM Try.func106 (code := (Try.f106.body.getD .skip)) (by kernel_rfl) (by kernel_rfl) ?_
  have key : ∀ (a0 : Row), Pu.laws_toStringS.c a0 = true → ∃ it : It Res, (∀ c ∈ loopsOf (Try.f106.body.getD .skip), LoopOk E106 it c) ∧ body E106 it Try.f106 [(.v false [(.sh 9 a0)])] = some ⟨[(.v false [(.ow 9 true (Pu.laws_toStringS.v a0))])], []⟩ := by
    intro a0  h1
    obtain ⟨N, hN⟩ := Pu.laws_toStringS.b_eq (R := Res) (fun r0 => some ⟨[(.v false [(.ow 9 true r0)])], []⟩) a0 h1
    have hl : loopsOf (Try.f106.body.getD .skip) = [loopOf Try.f106 3] := by kernel_rfl
    refine ⟨it106 N, by rw [hl]; exact (loops_cons (lo106_3 N) loops_nil), ?_⟩
    refine Eq.trans (show body E106 (it106 N) Try.f106 [(.v false [(.sh 9 a0)])] = Pu.laws_toStringS.b N (fun r0 => some ⟨[(.v false [(.ow 9 true r0)])], []⟩) a0 by kernel_rfl) hN
  intro args r h
  unfold sp106 at h
  split at h
  · injection h with h
    injection h with h1 h2
    subst h2
    exact ⟨by kernel_rfl, fun hf => ⟨of_decide_eq_true (by kernel_rfl), key _ h1⟩⟩
  · cases h

end Go.FG.Se

namespace Go.FG.Se
open Go.Proofs
def E224 : Env := { toTab := T, call := Go.FG.callIn [], mode := Go.FG.modeIn md, keep := Go.FG.keepIn [(3, [0, 3, 4])], tk := fun n => Go.FG.memB n [], om := Go.FG.omIn [] }
def it224 (N : Nat) {R : Type} : It R := fun rid f cn L K => bif Nat.beq rid 3 then (tell [(0, (.v (.v false [(.sh 3 [])]))), (6, (.v (.v false [(.own 0)]))), (8, (.v (.v false [(.i .i64 0)]))), (1, (.o (.row 3 true [])))] (fun | [.R x0, .I x1, .R x2] => Pu.laws_toIntS.l3 N (fun y0 y1 y2 => (K (.exit 0) (tabl [(0, (.v (.v false [(.sh 3 y0)]))), (6, (.v (.v false [(.own 0)]))), (8, (.v (.v false [(.i .i64 y1)]))), (1, (.o (.row 3 true y2)))]))) N x0 x1 x2 | _ => none) L (none)) else none
theorem e224_3 {R : Type} (N : Nat) (K : Ex → St → Option R) : ∀ n : Nat, (∀ x0 x1 x2, iter (exc E224 (it224 N) (loopOf Try.f224 3)) (canon (E224.keep 3))  n (tabl [(0, (.v (.v false [(.sh 3 x0)]))), (6, (.v (.v false [(.own 0)]))), (8, (.v (.v false [(.i .i64 x1)]))), (1, (.o (.row 3 true x2)))]) K = Pu.laws_toIntS.l3 N (fun y0 y1 y2 => (K (.exit 0) (tabl [(0, (.v (.v false [(.sh 3 y0)]))), (6, (.v (.v false [(.own 0)]))), (8, (.v (.v false [(.i .i64 y1)]))), (1, (.o (.row 3 true y2)))]))) n x0 x1 x2) := by
  intro n
  induction n with
  | zero => exact (fun _ _ _ => rfl)
  | succ n ih =>
    have e0 : (fun x0 x1 x2 => iter (exc E224 (it224 N) (loopOf Try.f224 3)) (canon (E224.keep 3))  n (tabl [(0, (.v (.v false [(.sh 3 x0)]))), (6, (.v (.v false [(.own 0)]))), (8, (.v (.v false [(.i .i64 x1)]))), (1, (.o (.row 3 true x2)))]) K) = Pu.laws_toIntS.l3 N (fun y0 y1 y2 => (K (.exit 0) (tabl [(0, (.v (.v false [(.sh 3 y0)]))), (6, (.v (.v false [(.own 0)]))), (8, (.v (.v false [(.i .i64 y1)]))), (1, (.o (.row 3 true y2)))]))) n := by funext x0 x1 x2; exact ih x0 x1 x2
    intro x0 x1 x2
    have h : ∀ g, exc E224 (it224 N) (loopOf Try.f224 3) (tabl [(0, (.v (.v false [(.sh 3 x0)]))), (6, (.v (.v false [(.own 0)]))), (8, (.v (.v false [(.i .i64 x1)]))), (1, (.o (.row 3 true x2)))]) (iterK g (canon (E224.keep 3)) K) = Pu.laws_toIntS.r3 N (fun x0 x1 x2 => (g (tabl [(0, (.v (.v false [(.sh 3 x0)]))), (6, (.v (.v false [(.own 0)]))), (8, (.v (.v false [(.i .i64 x1)]))), (1, (.o (.row 3 true x2)))]))) (fun y0 y1 y2 => (K (.exit 0) (tabl [(0, (.v (.v false [(.sh 3 y0)]))), (6, (.v (.v false [(.own 0)]))), (8, (.v (.v false [(.i .i64 y1)]))), (1, (.o (.row 3 true y2)))]))) x0 x1 x2 := by intro g; kernel_rfl
    refine (iter_succ _ _ n _ K).trans ((h _).trans ?_)
    show Pu.laws_toIntS.r3 N (fun x0 x1 x2 => (iter (exc E224 (it224 N) (loopOf Try.f224 3)) (canon (E224.keep 3))  n (tabl [(0, (.v (.v false [(.sh 3 x0)]))), (6, (.v (.v false [(.own 0)]))), (8, (.v (.v false [(.i .i64 x1)]))), (1, (.o (.row 3 true x2)))]) K)) (fun y0 y1 y2 => (K (.exit 0) (tabl [(0, (.v (.v false [(.sh 3 y0)]))), (6, (.v (.v false [(.own 0)]))), (8, (.v (.v false [(.i .i64 y1)]))), (1, (.o (.row 3 true y2)))]))) x0 x1 x2 = _
    rw [e0]; rfl
theorem lo224_3 {R : Type} (N : Nat) : LoopOk E224 (it224 N (R := R)) (loopOf Try.f224 3) := by
  have e : firstRid (loopOf Try.f224 3) = 3 := by kernel_rfl
  intro L K r
  rw [e]
  intro h
  unfold it224 at h
  simp only [show Nat.beq 3 3 = true from rfl, cond_false, cond_true] at h
  refine tell_ok (Q := fun L => ∃ n, iter (exc E224 (it224 N) (loopOf Try.f224 3)) (canon (E224.keep 3)) n (tabl L) K = some r) h (fun xs h => ?_) (fun h => ?_)
  · (try dsimp only at h)
    split at h
    · exact ⟨N, ((e224_3 N K N) _ _ _).trans h⟩
    · cases h
  cases h
def sp224 : List Arg → Option (Bool × Res)
  | [(.v false [(.sh 3 a0)])] => some (Pu.laws_toIntS.c a0, ⟨[(.v false [(.ow 3 true (Pu.laws_toIntS.v a0))])], []⟩)
  | _ => none
theorem ok224 : FnOk Try.prog T 224 sp224 := by
  refine fn_ok (E := E224) hE call_nil hM Try.func224 (code := (Try.f224.body.getD .skip)) (by kernel_rfl) (by kernel_rfl) ?_
  have key : ∀ (a0 : Row), Pu.laws_toIntS.c a0 = true → ∃ it : It Res, (∀ c ∈ loopsOf (Try.f224.body.getD .skip), LoopOk E224 it c) ∧ body E224 it Try.f224 [(.v false [(.sh 3 a0)])] = some ⟨[(.v false [(.ow 3 true (Pu.laws_toIntS.v a0))])], []⟩ := by
    intro a0  h1
    obtain ⟨N, hN⟩ := Pu.laws_toIntS.b_eq (R := Res) (fun r0 => some ⟨[(.v false [(.ow 3 true r0)])], []⟩) a0 h1
    have hl : loopsOf (Try.f224.body.getD .skip) = [loopOf Try.f224 3] := by kernel_rfl
    refine ⟨it224 N, by rw [hl]; exact (loops_cons (lo224_3 N) loops_nil), ?_⟩
    refine Eq.trans (show body E224 (it224 N) Try.f224 [(.v false [(.sh 3 a0)])] = Pu.laws_toIntS.b N (fun r0 => some ⟨[(.v false [(.ow 3 true r0)])], []⟩) a0 by kernel_rfl) hN
  intro args r h
  unfold sp224 at h
  split at h
  · injection h with h
    injection h with h1 h2
    subst h2
    exact ⟨by kernel_rfl, fun hf => ⟨of_decide_eq_true (by kernel_rfl), key _ h1⟩⟩
  · cases h

end Go.FG.Se

namespace Go.FG.Se
open Go.Proofs
def E189 : Env := { toTab := T, call := Go.FG.callIn [(224, sp224)], mode := Go.FG.modeIn md, keep := Go.FG.keepIn [(3, [0, 3, 4])], tk := fun n => Go.FG.memB n [], om := Go.FG.omIn [] }
def it189 (N : Nat) {R : Type} : It R := fun rid f cn L K => bif Nat.beq rid 3 then (tell [(0, (.v (.v false [(.sh 30 [])]))), (6, (.v (.v false [(.own 999)]))), (8, (.v (.v false [(.i .i64 0)]))), (1999, (.o (.row 30 true [])))] (fun | [.R x0, .I x1, .R x2] => Pu.laws_toIntSS.l3 N (fun y0 y1 y2 => (K (.exit 0) (tabl [(0, (.v (.v false [(.sh 30 y0)]))), (6, (.v (.v false [(.own 999)]))), (8, (.v (.v false [(.i .i64 y1)]))), (1999, (.o (.row 30 true y2)))]))) N x0 x1 x2 | _ => none) L (none)) else none
theorem e189_3 {R : Type} (N : Nat) (K : Ex → St → Option R) : ∀ n : Nat, (∀ x0 x1 x2, iter (exc E189 (it189 N) (loopOf Try.f189 3)) (canon (E189.keep 3))  n (tabl [(0, (.v (.v false [(.sh 30 x0)]))), (6, (.v (.v false [(.own 999)]))), (8, (.v (.v false [(.i .i64 x1)]))), (1999, (.o (.row 30 true x2)))]) K = Pu.laws_toIntSS.l3 N (fun y0 y1 y2 => (K (.exit 0) (tabl [(0, (.v (.v false [(.sh 30 y0)]))), (6, (.v (.v false [(.own 999)]))), (8, (.v (.v false [(.i .i64 y1)]))), (1999, (.o (.row 30 true y2)))]))) n x0 x1 x2) := by
  intro n
  induction n with
  | zero => exact (fun _ _ _ => rfl)
  | succ n ih =>
    have e0 : (fun x0 x1 x2 => iter (exc E189 (it189 N) (loopOf Try.f189 3)) (canon (E189.keep 3))  n (tabl [(0, (.v (.v false [(.sh 30 x0)]))), (6, (.v (.v false [(.own 999)]))), (8, (.v (.v false [(.i .i64 x1)]))), (1999, (.o (.row 30 true x2)))]) K) = Pu.laws_toIntSS.l3 N (fun y0 y1 y2 => (K (.exit 0) (tabl [(0, (.v (.v false [(.sh 30 y0)]))), (6, (.v (.v false [(.own 999)]))), (8, (.v (.v false [(.i .i64 y1)]))), (1999, (.o (.row 30 true y2)))]))) n := by funext x0 x1 x2; exact ih x0 x1 x2
    intro x0 x1 x2
    have h : ∀ g, exc E189 (it189 N) (loopOf Try.f189 3) (tabl [(0, (.v (.v false [(.sh 30 x0)]))), (6, (.v (.v false [(.own 999)]))), (8, (.v (.v false [(.i .i64 x1)]))), (1999, (.o (.row 30 true x2)))]) (iterK g (canon (E189.keep 3)) K) = Pu.laws_toIntSS.r3 N (fun x0 x1 x2 => (g (tabl [(0, (.v (.v false [(.sh 30 x0)]))), (6, (.v (.v false [(.own 999)]))), (8, (.v (.v false [(.i .i64 x1)]))), (1999, (.o (.row 30 true x2)))]))) (fun y0 y1 y2 => (K (.exit 0) (tabl [(0, (.v (.v false [(.sh 30 y0)]))), (6, (.v (.v false [(.own 999)]))), (8, (.v (.v false [(.i .i64 y1)]))), (1999, (.o (.row 30 true y2)))]))) x0 x1 x2 := by intro g; kernel_rfl
    refine (iter_succ _ _ n _ K).trans ((h _).trans ?_)
    show Pu.laws_toIntSS.r3 N (fun x0 x1 x2 => (iter (exc E189 (it189 N) (loopOf Try.f189 3)) (canon (E189.keep 3))  n (tabl [(0, (.v (.v false [(.sh 30 x0)]))), (6, (.v (.v false [(.own 999)]))), (8, (.v (.v false [(.i .i64 x1)]))), (1999, (.o (.row 30 true x2)))]) K)) (fun y0 y1 y2 => (K (.exit 0) (tabl [(0, (.v (.v false [(.sh 30 y0)]))), (6, (.v (.v false [(.own 999)]))), (8, (.v (.v false [(.i .i64 y1)]))), (1999, (.o (.row 30 true y2)))]))) x0 x1 x2 = _
    rw [e0]; rfl
theorem lo189_3 {R : Type} (N : Nat) : LoopOk E189 (it189 N (R := R)) (loopOf Try.f189 3) := by
  have e : firstRid (loopOf Try.f189 3) = 3 := by kernel_rfl
  intro L K r
  rw [e]
  intro h
  unfold it189 at h
  simp only [show Nat.beq 3 3 = true from rfl, cond_false, cond_true] at h
  refine tell_ok (Q := fun L => ∃ n, iter (exc E189 (it189 N) (loopOf Try.f189 3)) (canon (E189.keep 3)) n (tabl L) K = some r) h (fun xs h => ?_) (fun h => ?_)
  · (try dsimp only at h)
    split at h
    · exact ⟨N, ((e189_3 N K N) _ _ _).trans h⟩
    · cases h
  cases h
def sp189 : List Arg → Option (Bool × Res)
  | [(.v false [(.sh 30 a0)])] => some (Pu.laws_toIntSS.c a0, ⟨[(.v false [(.ow 30 true (Pu.laws_toIntSS.v a0))])], []⟩)
  | _ => none
theorem ok189 : FnOk Try.prog T 189 sp189 := by
  refine fn_ok (E := E189) hE (call_cons ok224 call_nil) hM Try.func189 (code := (Try.f189.body.getD .skip)) (by kernel_rfl) (by kernel_rfl) ?_
  have key : ∀ (a0 : Row), Pu.laws_toIntSS.c a0 = true → ∃ it : It Res, (∀ c ∈ loopsOf (Try.f189.body.getD .skip), LoopOk E189 it c) ∧ body E189 it Try.f189 [(.v false [(.sh 30 a0)])] = some ⟨[(.v false [(.ow 30 true (Pu.laws_toIntSS.v a0))])], []⟩ := by
    intro a0  h1
    obtain ⟨N, hN⟩ := Pu.laws_toIntSS.b_eq (R := Res) (fun r0 => some ⟨[(.v false [(.ow 30 true r0)])], []⟩) a0 h1
    have hl : loopsOf (Try.f189.body.getD .skip) = [loopOf Try.f189 3] := by kernel_rfl
    refine ⟨it189 N, by rw [hl]; exact (loops_cons (lo189_3 N) loops_nil), ?_⟩
    refine Eq.trans (show body E189 (it189 N) Try.f189 [(.v false [(.sh 30 a0)])] = Pu.laws_toIntSS.b N (fun r0 => some ⟨[(.v false [(.ow 30 true r0)])], []⟩) a0 by kernel_rfl) hN
  intro args r h
  unfold sp189 at h
  split at h
  · injection h with h
    injection h with h1 h2
    subst h2
    exact ⟨by kernel_rfl, fun hf => ⟨of_decide_eq_true (by kernel_rfl), key _ h1⟩⟩
  · cases h

end Go.FG.Se

namespace Go.FG.Se
open Go.Proofs
def E107 : Env := { toTab := T, call := Go.FG.callIn [(189, sp189)], mode := Go.FG.modeIn md, keep := Go.FG.keepIn [], tk := fun n => Go.FG.memB n [], om := Go.FG.omIn [] }
def sp107 : List Arg → Option (Bool × Res)
  | [(.v true [(.sh 30 a0_0), (.i .i64 a0_1)])] => some (Pu.laws_toSketch.c a0_0 a0_1, ⟨[(.v true [(.ow 30 true ((Pu.laws_toSketch.v a0_0 a0_1).1)), (.i .i64 ((Pu.laws_toSketch.v a0_0 a0_1).2))])], []⟩)
  | _ => none
theorem ok107 : FnOk Try.prog T 107 sp107 := by
  refine fn_ok (E := E107) hE (call_cons ok189 call_nil) hM Try.func107 (code := (Try.f107.body.getD .skip)) (by kernel_rfl) (by kernel_rfl) ?_
  have key : ∀ (a0_0 : Row) (a0_1 : Int), Pu.laws_toSketch.c a0_0 a0_1 = true → ∃ it : It Res, (∀ c ∈ loopsOf (Try.f107.body.getD .skip), LoopOk E107 it c) ∧ body E107 it Try.f107 [(.v true [(.sh 30 a0_0), (.i .i64 a0_1)])] = some ⟨[(.v true [(.ow 30 true ((Pu.laws_toSketch.v a0_0 a0_1).1)), (.i .i64 ((Pu.laws_toSketch.v a0_0 a0_1).2))])], []⟩ := by
    intro a0_0 a0_1  h1
    have hN := Pu.laws_toSketch.b_eq (R := Res) (fun r0 r1 => some ⟨[(.v true [(.ow 30 true r0), (.i .i64 r1)])], []⟩) a0_0 a0_1 h1
    have hl : loopsOf (Try.f107.body.getD .skip) = [] := by kernel_rfl
    refine ⟨iterN 0, by rw [hl]; exact loops_nil, ?_⟩
    refine Eq.trans (show body E107 (iterN 0) Try.f107 [(.v true [(.sh 30 a0_0), (.i .i64 a0_1)])] = Pu.laws_toSketch.b (fun r0 r1 => some ⟨[(.v true [(.ow 30 true r0), (.i .i64 r1)])], []⟩) a0_0 a0_1 by kernel_rfl) hN
  intro args r h
  unfold sp107 at h
  split at h
  · injection h with h
    injection h with h1 h2
    subst h2
    exact ⟨by kernel_rfl, fun hf => ⟨of_decide_eq_true (by kernel_rfl), key _ _ h1⟩⟩
  · cases h

end Go.FG.Se

namespace Go.FG.Se
open Go.Proofs
def E33 : Env := { toTab := T, call := Go.FG.callIn [(106, sp106), (107, sp107)], mode := Go.FG.modeIn md, keep := Go.FG.keepIn [], tk := fun n => Go.FG.memB n [], om := Go.FG.omIn [] }
def sp33 : List Arg → Option (Bool × Res)
  | [(.v true [(.sh 9 a0_0), (.sh 9 a0_1), (.sh 30 a0_2), (.i .i64 a0_3)])] => some (Pu.laws_toPolicy.c a0_0 a0_1 a0_2 a0_3, ⟨[(.v true [(.ow 9 true ((Pu.laws_toPolicy.v a0_0 a0_1 a0_2 a0_3).1)), (.ow 9 true ((Pu.laws_toPolicy.v a0_0 a0_1 a0_2 a0_3).2.1)), (.ow 30 true ((Pu.laws_toPolicy.v a0_0 a0_1 a0_2 a0_3).2.2.1)), (.i .i64 ((Pu.laws_toPolicy.v a0_0 a0_1 a0_2 a0_3).2.2.2))])], []⟩)
  | _ => none
theorem ok33 : FnOk Try.prog T 33 sp33 := by
  refine fn_ok (E := E33) hE (call_cons ok106 (call_cons ok107 call_nil)) hM Try.func33 (code := (Try.f33.body.getD .skip)) (by kernel_rfl) (by kernel_rfl) ?_
  have key : ∀ (a0_0 : Row) (a0_1 : Row) (a0_2 : Row) (a0_3 : Int), Pu.laws_toPolicy.c a0_0 a0_1 a0_2 a0_3 = true → ∃ it : It Res, (∀ c ∈ loopsOf (Try.f33.body.getD .skip), LoopOk E33 it c) ∧ body E33 it Try.f33 [(.v true [(.sh 9 a0_0), (.sh 9 a0_1), (.sh 30 a0_2), (.i .i64 a0_3)])] = some ⟨[(.v true [(.ow 9 true ((Pu.laws_toPolicy.v a0_0 a0_1 a0_2 a0_3).1)), (.ow 9 true ((Pu.laws_toPolicy.v a0_0 a0_1 a0_2 a0_3).2.1)), (.ow 30 true ((Pu.laws_toPolicy.v a0_0 a0_1 a0_2 a0_3).2.2.1)), (.i .i64 ((Pu.laws_toPolicy.v a0_0 a0_1 a0_2 a0_3).2.2.2))])], []⟩ := by
    intro a0_0 a0_1 a0_2 a0_3  h1
    have hN := Pu.laws_toPolicy.b_eq (R := Res) (fun r0 r1 r2 r3 => some ⟨[(.v true [(.ow 9 true r0), (.ow 9 true r1), (.ow 30 true r2), (.i .i64 r3)])], []⟩) a0_0 a0_1 a0_2 a0_3 h1
    have hl : loopsOf (Try.f33.body.getD .skip) = [] := by kernel_rfl
    refine ⟨iterN 0, by rw [hl]; exact loops_nil, ?_⟩
    refine Eq.trans (show body E33 (iterN 0) Try.f33 [(.v true [(.sh 9 a0_0), (.sh 9 a0_1), (.sh 30 a0_2), (.i .i64 a0_3)])] = Pu.laws_toPolicy.b (fun r0 r1 r2 r3 => some ⟨[(.v true [(.ow 9 true r0), (.ow 9 true r1), (.ow 30 true r2), (.i .i64 r3)])], []⟩) a0_0 a0_1 a0_2 a0_3 by kernel_rfl) hN
  intro args r h
  unfold sp33 at h
  split at h
  · injection h with h
    injection h with h1 h2
    subst h2
    exact ⟨by kernel_rfl, fun hf => ⟨of_decide_eq_true (by kernel_rfl), key _ _ _ _ h1⟩⟩
  · cases h

end Go.FG.Se

namespace Go.FG.Se
open Go.Proofs
def E186 : Env := { toTab := T, call := Go.FG.callIn [], mode := Go.FG.modeIn md, keep := Go.FG.keepIn [(3, [1, 2, 3, 4])], tk := fun n => Go.FG.memB n [], om := Go.FG.omIn [] }
def it186 (N : Nat) {R : Type} : It R := fun rid f cn L K => bif Nat.beq rid 3 then (tell [(2, (.v (.v false [(.bp 0 0)]))), (4, (.v (.v false [(.bp 1 0)]))), (6, (.v (.v false [(.bp 2 0)]))), (8, (.v (.v false [(.i .i64 0)]))), (1, (.o (.box [(.sh 30 []), (.i .i64 0)]))), (3, (.o (.box [.nl, (.i .i64 0)]))), (5, (.o (.box [.nl, (.i .i64 0)])))] (fun | [.I x0, .R x1, .I x2, .I x3, .I x4] => Pu.spec_l12Copy.l3 N (fun y0 y1 y2 y3 y4 => (K (.exit 0) (tabl [(2, (.v (.v false [(.bp 0 0)]))), (4, (.v (.v false [(.bp 1 0)]))), (6, (.v (.v false [(.bp 2 0)]))), (8, (.v (.v false [(.i .i64 y0)]))), (1, (.o (.box [(.sh 30 y1), (.i .i64 y2)]))), (3, (.o (.box [.nl, (.i .i64 y3)]))), (5, (.o (.box [.nl, (.i .i64 y4)])))]))) (fun y0 y1 y2 y3 y4 y5 => (K (.exit 0) (tabl [(2, (.v (.v false [(.bp 0 0)]))), (4, (.v (.v false [(.bp 1 0)]))), (6, (.v (.v false [(.bp 2 0)]))), (8, (.v (.v false [(.i .i64 y0)]))), (1, (.o (.box [(.sh 30 y1), (.i .i64 y2)]))), (3, (.o (.box [.nl, (.i .i64 y3)]))), (5, (.o (.box [(.own 3), (.i .i64 y4)]))), (7, (.o (.row 30 true y5)))]))) N x0 x1 x2 x3 x4 | _ => none) L (tell [(2, (.v (.v false [(.bp 0 0)]))), (4, (.v (.v false [(.bp 1 0)]))), (6, (.v (.v false [(.bp 2 0)]))), (8, (.v (.v false [(.i .i64 0)]))), (1, (.o (.box [(.sh 30 []), (.i .i64 0)]))), (3, (.o (.box [.nl, (.i .i64 0)]))), (5, (.o (.box [(.own 3), (.i .i64 0)]))), (7, (.o (.row 30 true [])))] (fun | [.I x5, .R x6, .I x7, .I x8, .I x9, .R x10] => Pu.spec_l12Copy.l3a N (fun y0 y1 y2 y3 y4 => (K (.exit 0) (tabl [(2, (.v (.v false [(.bp 0 0)]))), (4, (.v (.v false [(.bp 1 0)]))), (6, (.v (.v false [(.bp 2 0)]))), (8, (.v (.v false [(.i .i64 y0)]))), (1, (.o (.box [(.sh 30 y1), (.i .i64 y2)]))), (3, (.o (.box [.nl, (.i .i64 y3)]))), (5, (.o (.box [.nl, (.i .i64 y4)])))]))) (fun y0 y1 y2 y3 y4 y5 => (K (.exit 0) (tabl [(2, (.v (.v false [(.bp 0 0)]))), (4, (.v (.v false [(.bp 1 0)]))), (6, (.v (.v false [(.bp 2 0)]))), (8, (.v (.v false [(.i .i64 y0)]))), (1, (.o (.box [(.sh 30 y1), (.i .i64 y2)]))), (3, (.o (.box [.nl, (.i .i64 y3)]))), (5, (.o (.box [(.own 3), (.i .i64 y4)]))), (7, (.o (.row 30 true y5)))]))) N x5 x6 x7 x8 x9 x10 | _ => none) L (none))) else none
theorem e186_3 {R : Type} (N : Nat) (K : Ex → St → Option R) : ∀ n : Nat, (∀ x0 x1 x2 x3 x4, iter (exc E186 (it186 N) (loopOf Try.f186 3)) (canon (E186.keep 3))  n (tabl [(2, (.v (.v false [(.bp 0 0)]))), (4, (.v (.v false [(.bp 1 0)]))), (6, (.v (.v false [(.bp 2 0)]))), (8, (.v (.v false [(.i .i64 x0)]))), (1, (.o (.box [(.sh 30 x1), (.i .i64 x2)]))), (3, (.o (.box [.nl, (.i .i64 x3)]))), (5, (.o (.box [.nl, (.i .i64 x4)])))]) K = Pu.spec_l12Copy.l3 N (fun y0 y1 y2 y3 y4 => (K (.exit 0) (tabl [(2, (.v (.v false [(.bp 0 0)]))), (4, (.v (.v false [(.bp 1 0)]))), (6, (.v (.v false [(.bp 2 0)]))), (8, (.v (.v false [(.i .i64 y0)]))), (1, (.o (.box [(.sh 30 y1), (.i .i64 y2)]))), (3, (.o (.box [.nl, (.i .i64 y3)]))), (5, (.o (.box [.nl, (.i .i64 y4)])))]))) (fun y0 y1 y2 y3 y4 y5 => (K (.exit 0) (tabl [(2, (.v (.v false [(.bp 0 0)]))), (4, (.v (.v false [(.bp 1 0)]))), (6, (.v (.v false [(.bp 2 0)]))), (8, (.v (.v false [(.i .i64 y0)]))), (1, (.o (.box [(.sh 30 y1), (.i .i64 y2)]))), (3, (.o (.box [.nl, (.i .i64 y3)]))), (5, (.o (.box [(.own 3), (.i .i64 y4)]))), (7, (.o (.row 30 true y5)))]))) n x0 x1 x2 x3 x4) ∧ (∀ x5 x6 x7 x8 x9 x10, iter (exc E186 (it186 N) (loopOf Try.f186 3)) (canon (E186.keep 3))  n (tabl [(2, (.v (.v false [(.bp 0 0)]))), (4, (.v (.v false [(.bp 1 0)]))), (6, (.v (.v false [(.bp 2 0)]))), (8, (.v (.v false [(.i .i64 x5)]))), (1, (.o (.box [(.sh 30 x6), (.i .i64 x7)]))), (3, (.o (.box [.nl, (.i .i64 x8)]))), (5, (.o (.box [(.own 3), (.i .i64 x9)]))), (7, (.o (.row 30 true x10)))]) K = Pu.spec_l12Copy.l3a N (fun y0 y1 y2 y3 y4 => (K (.exit 0) (tabl [(2, (.v (.v false [(.bp 0 0)]))), (4, (.v (.v false [(.bp 1 0)]))), (6, (.v (.v false [(.bp 2 0)]))), (8, (.v (.v false [(.i .i64 y0)]))), (1, (.o (.box [(.sh 30 y1), (.i .i64 y2)]))), (3, (.o (.box [.nl, (.i .i64 y3)]))), (5, (.o (.box [.nl, (.i .i64 y4)])))]))) (fun y0 y1 y2 y3 y4 y5 => (K (.exit 0) (tabl [(2, (.v (.v false [(.bp 0 0)]))), (4, (.v (.v false [(.bp 1 0)]))), (6, (.v (.v false [(.bp 2 0)]))), (8, (.v (.v false [(.i .i64 y0)]))), (1, (.o (.box [(.sh 30 y1), (.i .i64 y2)]))), (3, (.o (.box [.nl, (.i .i64 y3)]))), (5, (.o (.box [(.own 3), (.i .i64 y4)]))), (7, (.o (.row 30 true y5)))]))) n x5 x6 x7 x8 x9 x10) := by
  intro n
  induction n with
  | zero => exact ⟨(fun _ _ _ _ _ => rfl), (fun _ _ _ _ _ _ => rfl)⟩
  | succ n ih =>
    have e0 : (fun x0 x1 x2 x3 x4 => iter (exc E186 (it186 N) (loopOf Try.f186 3)) (canon (E186.keep 3))  n (tabl [(2, (.v (.v false [(.bp 0 0)]))), (4, (.v (.v false [(.bp 1 0)]))), (6, (.v (.v false [(.bp 2 0)]))), (8, (.v (.v false [(.i .i64 x0)]))), (1, (.o (.box [(.sh 30 x1), (.i .i64 x2)]))), (3, (.o (.box [.nl, (.i .i64 x3)]))), (5, (.o (.box [.nl, (.i .i64 x4)])))]) K) = Pu.spec_l12Copy.l3 N (fun y0 y1 y2 y3 y4 => (K (.exit 0) (tabl [(2, (.v (.v false [(.bp 0 0)]))), (4, (.v (.v false [(.bp 1 0)]))), (6, (.v (.v false [(.bp 2 0)]))), (8, (.v (.v false [(.i .i64 y0)]))), (1, (.o (.box [(.sh 30 y1), (.i .i64 y2)]))), (3, (.o (.box [.nl, (.i .i64 y3)]))), (5, (.o (.box [.nl, (.i .i64 y4)])))]))) (fun y0 y1 y2 y3 y4 y5 => (K (.exit 0) (tabl [(2, (.v (.v false [(.bp 0 0)]))), (4, (.v (.v false [(.bp 1 0)]))), (6, (.v (.v false [(.bp 2 0)]))), (8, (.v (.v false [(.i .i64 y0)]))), (1, (.o (.box [(.sh 30 y1), (.i .i64 y2)]))), (3, (.o (.box [.nl, (.i .i64 y3)]))), (5, (.o (.box [(.own 3), (.i .i64 y4)]))), (7, (.o (.row 30 true y5)))]))) n := by funext x0 x1 x2 x3 x4; exact ih.1 x0 x1 x2 x3 x4
    have e1 : (fun x5 x6 x7 x8 x9 x10 => iter (exc E186 (it186 N) (loopOf Try.f186 3)) (canon (E186.keep 3))  n (tabl [(2, (.v (.v false [(.bp 0 0)]))), (4, (.v (.v false [(.bp 1 0)]))), (6, (.v (.v false [(.bp 2 0)]))), (8, (.v (.v false [(.i .i64 x5)]))), (1, (.o (.box [(.sh 30 x6), (.i .i64 x7)]))), (3, (.o (.box [.nl, (.i .i64 x8)]))), (5, (.o (.box [(.own 3), (.i .i64 x9)]))), (7, (.o (.row 30 true x10)))]) K) = Pu.spec_l12Copy.l3a N (fun y0 y1 y2 y3 y4 => (K (.exit 0) (tabl [(2, (.v (.v false [(.bp 0 0)]))), (4, (.v (.v false [(.bp 1 0)]))), (6, (.v (.v false [(.bp 2 0)]))), (8, (.v (.v false [(.i .i64 y0)]))), (1, (.o (.box [(.sh 30 y1), (.i .i64 y2)]))), (3, (.o (.box [.nl, (.i .i64 y3)]))), (5, (.o (.box [.nl, (.i .i64 y4)])))]))) (fun y0 y1 y2 y3 y4 y5 => (K (.exit 0) (tabl [(2, (.v (.v false [(.bp 0 0)]))), (4, (.v (.v false [(.bp 1 0)]))), (6, (.v (.v false [(.bp 2 0)]))), (8, (.v (.v false [(.i .i64 y0)]))), (1, (.o (.box [(.sh 30 y1), (.i .i64 y2)]))), (3, (.o (.box [.nl, (.i .i64 y3)]))), (5, (.o (.box [(.own 3), (.i .i64 y4)]))), (7, (.o (.row 30 true y5)))]))) n := by funext x5 x6 x7 x8 x9 x10; exact ih.2 x5 x6 x7 x8 x9 x10
    refine ⟨?_, ?_⟩
    · intro x0 x1 x2 x3 x4
      have h : ∀ g, exc E186 (it186 N) (loopOf Try.f186 3) (tabl [(2, (.v (.v false [(.bp 0 0)]))), (4, (.v (.v false [(.bp 1 0)]))), (6, (.v (.v false [(.bp 2 0)]))), (8, (.v (.v false [(.i .i64 x0)]))), (1, (.o (.box [(.sh 30 x1), (.i .i64 x2)]))), (3, (.o (.box [.nl, (.i .i64 x3)]))), (5, (.o (.box [.nl, (.i .i64 x4)])))]) (iterK g (canon (E186.keep 3)) K) = Pu.spec_l12Copy.r3 N (fun x0 x1 x2 x3 x4 => (g (tabl [(2, (.v (.v false [(.bp 0 0)]))), (4, (.v (.v false [(.bp 1 0)]))), (6, (.v (.v false [(.bp 2 0)]))), (8, (.v (.v false [(.i .i64 x0)]))), (1, (.o (.box [(.sh 30 x1), (.i .i64 x2)]))), (3, (.o (.box [.nl, (.i .i64 x3)]))), (5, (.o (.box [.nl, (.i .i64 x4)])))]))) (fun x5 x6 x7 x8 x9 x10 => (g (tabl [(2, (.v (.v false [(.bp 0 0)]))), (4, (.v (.v false [(.bp 1 0)]))), (6, (.v (.v false [(.bp 2 0)]))), (8, (.v (.v false [(.i .i64 x5)]))), (1, (.o (.box [(.sh 30 x6), (.i .i64 x7)]))), (3, (.o (.box [.nl, (.i .i64 x8)]))), (5, (.o (.box [(.own 3), (.i .i64 x9)]))), (7, (.o (.row 30 true x10)))]))) (fun y0 y1 y2 y3 y4 => (K (.exit 0) (tabl [(2, (.v (.v false [(.bp 0 0)]))), (4, (.v (.v false [(.bp 1 0)]))), (6, (.v (.v false [(.bp 2 0)]))), (8, (.v (.v false [(.i .i64 y0)]))), (1, (.o (.box [(.sh 30 y1), (.i .i64 y2)]))), (3, (.o (.box [.nl, (.i .i64 y3)]))), (5, (.o (.box [.nl, (.i .i64 y4)])))]))) (fun y0 y1 y2 y3 y4 y5 => (K (.exit 0) (tabl [(2, (.v (.v false [(.bp 0 0)]))), (4, (.v (.v false [(.bp 1 0)]))), (6, (.v (.v false [(.bp 2 0)]))), (8, (.v (.v false [(.i .i64 y0)]))), (1, (.o (.box [(.sh 30 y1), (.i .i64 y2)]))), (3, (.o (.box [.nl, (.i .i64 y3)]))), (5, (.o (.box [(.own 3), (.i .i64 y4)]))), (7, (.o (.row 30 true y5)))]))) x0 x1 x2 x3 x4 := by intro g; kernel_rfl
      refine (iter_succ _ _ n _ K).trans ((h _).trans ?_)
      show Pu.spec_l12Copy.r3 N (fun x0 x1 x2 x3 x4 => (iter (exc E186 (it186 N) (loopOf Try.f186 3)) (canon (E186.keep 3))  n (tabl [(2, (.v (.v false [(.bp 0 0)]))), (4, (.v (.v false [(.bp 1 0)]))), (6, (.v (.v false [(.bp 2 0)]))), (8, (.v (.v false [(.i .i64 x0)]))), (1, (.o (.box [(.sh 30 x1), (.i .i64 x2)]))), (3, (.o (.box [.nl, (.i .i64 x3)]))), (5, (.o (.box [.nl, (.i .i64 x4)])))]) K)) (fun x5 x6 x7 x8 x9 x10 => (iter (exc E186 (it186 N) (loopOf Try.f186 3)) (canon (E186.keep 3))  n (tabl [(2, (.v (.v false [(.bp 0 0)]))), (4, (.v (.v false [(.bp 1 0)]))), (6, (.v (.v false [(.bp 2 0)]))), (8, (.v (.v false [(.i .i64 x5)]))), (1, (.o (.box [(.sh 30 x6), (.i .i64 x7)]))), (3, (.o (.box [.nl, (.i .i64 x8)]))), (5, (.o (.box [(.own 3), (.i .i64 x9)]))), (7, (.o (.row 30 true x10)))]) K)) (fun y0 y1 y2 y3 y4 => (K (.exit 0) (tabl [(2, (.v (.v false [(.bp 0 0)]))), (4, (.v (.v false [(.bp 1 0)]))), (6, (.v (.v false [(.bp 2 0)]))), (8, (.v (.v false [(.i .i64 y0)]))), (1, (.o (.box [(.sh 30 y1), (.i .i64 y2)]))), (3, (.o (.box [.nl, (.i .i64 y3)]))), (5, (.o (.box [.nl, (.i .i64 y4)])))]))) (fun y0 y1 y2 y3 y4 y5 => (K (.exit 0) (tabl [(2, (.v (.v false [(.bp 0 0)]))), (4, (.v (.v false [(.bp 1 0)]))), (6, (.v (.v false [(.bp 2 0)]))), (8, (.v (.v false [(.i .i64 y0)]))), (1, (.o (.box [(.sh 30 y1), (.i .i64 y2)]))), (3, (.o (.box [.nl, (.i .i64 y3)]))), (5, (.o (.box [(.own 3), (.i .i64 y4)]))), (7, (.o (.row 30 true y5)))]))) x0 x1 x2 x3 x4 = _
      rw [e0, e1]; rfl
    · intro x5 x6 x7 x8 x9 x10
      have h : ∀ g, exc E186 (it186 N) (loopOf Try.f186 3) (tabl [(2, (.v (.v false [(.bp 0 0)]))), (4, (.v (.v false [(.bp 1 0)]))), (6, (.v (.v false [(.bp 2 0)]))), (8, (.v (.v false [(.i .i64 x5)]))), (1, (.o (.box [(.sh 30 x6), (.i .i64 x7)]))), (3, (.o (.box [.nl, (.i .i64 x8)]))), (5, (.o (.box [(.own 3), (.i .i64 x9)]))), (7, (.o (.row 30 true x10)))]) (iterK g (canon (E186.keep 3)) K) = Pu.spec_l12Copy.r3a N (fun x0 x1 x2 x3 x4 => (g (tabl [(2, (.v (.v false [(.bp 0 0)]))), (4, (.v (.v false [(.bp 1 0)]))), (6, (.v (.v false [(.bp 2 0)]))), (8, (.v (.v false [(.i .i64 x0)]))), (1, (.o (.box [(.sh 30 x1), (.i .i64 x2)]))), (3, (.o (.box [.nl, (.i .i64 x3)]))), (5, (.o (.box [.nl, (.i .i64 x4)])))]))) (fun x5 x6 x7 x8 x9 x10 => (g (tabl [(2, (.v (.v false [(.bp 0 0)]))), (4, (.v (.v false [(.bp 1 0)]))), (6, (.v (.v false [(.bp 2 0)]))), (8, (.v (.v false [(.i .i64 x5)]))), (1, (.o (.box [(.sh 30 x6), (.i .i64 x7)]))), (3, (.o (.box [.nl, (.i .i64 x8)]))), (5, (.o (.box [(.own 3), (.i .i64 x9)]))), (7, (.o (.row 30 true x10)))]))) (fun y0 y1 y2 y3 y4 => (K (.exit 0) (tabl [(2, (.v (.v false [(.bp 0 0)]))), (4, (.v (.v false [(.bp 1 0)]))), (6, (.v (.v false [(.bp 2 0)]))), (8, (.v (.v false [(.i .i64 y0)]))), (1, (.o (.box [(.sh 30 y1), (.i .i64 y2)]))), (3, (.o (.box [.nl, (.i .i64 y3)]))), (5, (.o (.box [.nl, (.i .i64 y4)])))]))) (fun y0 y1 y2 y3 y4 y5 => (K (.exit 0) (tabl [(2, (.v (.v false [(.bp 0 0)]))), (4, (.v (.v false [(.bp 1 0)]))), (6, (.v (.v false [(.bp 2 0)]))), (8, (.v (.v false [(.i .i64 y0)]))), (1, (.o (.box [(.sh 30 y1), (.i .i64 y2)]))), (3, (.o (.box [.nl, (.i .i64 y3)]))), (5, (.o (.box [(.own 3), (.i .i64 y4)]))), (7, (.o (.row 30 true y5)))]))) x5 x6 x7 x8 x9 x10 := by intro g; kernel_rfl
      refine (iter_succ _ _ n _ K).trans ((h _).trans ?_)
      show Pu.spec_l12Copy.r3a N (fun x0 x1 x2 x3 x4 => (iter (exc E186 (it186 N) (loopOf Try.f186 3)) (canon (E186.keep 3))  n (tabl [(2, (.v (.v false [(.bp 0 0)]))), (4, (.v (.v false [(.bp 1 0)]))), (6, (.v (.v false [(.bp 2 0)]))), (8, (.v (.v false [(.i .i64 x0)]))), (1, (.o (.box [(.sh 30 x1), (.i .i64 x2)]))), (3, (.o (.box [.nl, (.i .i64 x3)]))), (5, (.o (.box [.nl, (.i .i64 x4)])))]) K)) (fun x5 x6 x7 x8 x9 x10 => (iter (exc E186 (it186 N) (loopOf Try.f186 3)) (canon (E186.keep 3))  n (tabl [(2, (.v (.v false [(.bp 0 0)]))), (4, (.v (.v false [(.bp 1 0)]))), (6, (.v (.v false [(.bp 2 0)]))), (8, (.v (.v false [(.i .i64 x5)]))), (1, (.o (.box [(.sh 30 x6), (.i .i64 x7)]))), (3, (.o (.box [.nl, (.i .i64 x8)]))), (5, (.o (.box [(.own 3), (.i .i64 x9)]))), (7, (.o (.row 30 true x10)))]) K)) (fun y0 y1 y2 y3 y4 => (K (.exit 0) (tabl [(2, (.v (.v false [(.bp 0 0)]))), (4, (.v (.v false [(.bp 1 0)]))), (6, (.v (.v false [(.bp 2 0)]))), (8, (.v (.v false [(.i .i64 y0)]))), (1, (.o (.box [(.sh 30 y1), (.i .i64 y2)]))), (3, (.o (.box [.nl, (.i .i64 y3)]))), (5, (.o (.box [.nl, (.i .i64 y4)])))]))) (fun y0 y1 y2 y3 y4 y5 => (K (.exit 0) (tabl [(2, (.v (.v false [(.bp 0 0)]))), (4, (.v (.v false [(.bp 1 0)]))), (6, (.v (.v false [(.bp 2 0)]))), (8, (.v (.v false [(.i .i64 y0)]))), (1, (.o (.box [(.sh 30 y1), (.i .i64 y2)]))), (3, (.o (.box [.nl, (.i .i64 y3)]))), (5, (.o (.box [(.own 3), (.i .i64 y4)]))), (7, (.o (.row 30 true y5)))]))) x5 x6 x7 x8 x9 x10 = _
      rw [e0, e1]; rfl
theorem lo186_3 {R : Type} (N : Nat) : LoopOk E186 (it186 N (R := R)) (loopOf Try.f186 3) := by
  have e : firstRid (loopOf Try.f186 3) = 3 := by kernel_rfl
  intro L K r
  rw [e]
  intro h
  unfold it186 at h
  simp only [show Nat.beq 3 3 = true from rfl, cond_false, cond_true] at h
  refine tell_ok (Q := fun L => ∃ n, iter (exc E186 (it186 N) (loopOf Try.f186 3)) (canon (E186.keep 3)) n (tabl L) K = some r) h (fun xs h => ?_) (fun h => ?_)
  · (try dsimp only at h)
    split at h
    · exact ⟨N, ((e186_3 N K N).1 _ _ _ _ _).trans h⟩
    · cases h
  refine tell_ok (Q := fun L => ∃ n, iter (exc E186 (it186 N) (loopOf Try.f186 3)) (canon (E186.keep 3)) n (tabl L) K = some r) h (fun xs h => ?_) (fun h => ?_)
  · (try dsimp only at h)
    split at h
    · exact ⟨N, ((e186_3 N K N).2 _ _ _ _ _ _).trans h⟩
    · cases h
  cases h
def sp186 : List Arg → Option (Bool × Res)
  | [(.v true [(.sh 30 s0_0), (.i .i64 s0_1)])] => some (Pu.spec_l12Copy.c s0_0 s0_1, ⟨[(.v true [(.ow 30 true ((Pu.spec_l12Copy.v s0_0 s0_1).1)), (.i .i64 ((Pu.spec_l12Copy.v s0_0 s0_1).2))])], []⟩)
  | _ => none
theorem ok186 : FnOk Try.prog T 186 sp186 := by
  refine fn_ok (E := E186) hE call_nil hM Try.func186 (code := (Try.f186.body.getD .skip)) (by kernel_rfl) (by kernel_rfl) ?_
  have key : ∀ (s0_0 : Row) (s0_1 : Int), Pu.spec_l12Copy.c s0_0 s0_1 = true → ∃ it : It Res, (∀ c ∈ loopsOf (Try.f186.body.getD .skip), LoopOk E186 it c) ∧ body E186 it Try.f186 [(.v true [(.sh 30 s0_0), (.i .i64 s0_1)])] = some ⟨[(.v true [(.ow 30 true ((Pu.spec_l12Copy.v s0_0 s0_1).1)), (.i .i64 ((Pu.spec_l12Copy.v s0_0 s0_1).2))])], []⟩ := by
    intro s0_0 s0_1  h1
    obtain ⟨N, hN⟩ := Pu.spec_l12Copy.b_eq (R := Res) (fun r0 r1 => some ⟨[(.v true [(.ow 30 true r0), (.i .i64 r1)])], []⟩) s0_0 s0_1 h1
    have hl : loopsOf (Try.f186.body.getD .skip) = [loopOf Try.f186 3] := by kernel_rfl
    refine ⟨it186 N, by rw [hl]; exact (loops_cons (lo186_3 N) loops_nil), ?_⟩
    refine Eq.trans (show body E186 (it186 N) Try.f186 [(.v true [(.sh 30 s0_0), (.i .i64 s0_1)])] = Pu.spec_l12Copy.b N (fun r0 r1 => some ⟨[(.v true [(.ow 30 true r0), (.i .i64 r1)])], []⟩) s0_0 s0_1 by kernel_rfl) hN
  intro args r h
  unfold sp186 at h
  split at h
  · injection h with h
    injection h with h1 h2
    subst h2
    exact ⟨by kernel_rfl, fun hf => ⟨of_decide_eq_true (by kernel_rfl), key _ _ h1⟩⟩
  · cases h

end Go.FG.Se

namespace Go.FG.Se
open Go.Proofs
def E99 : Env := { toTab := T, call := Go.FG.callIn [(186, sp186)], mode := Go.FG.modeIn md, keep := Go.FG.keepIn [], tk := fun n => Go.FG.memB n [], om := Go.FG.omIn [] }
def sp99 : List Arg → Option (Bool × Res)
  | [(.v true [(.sh 9 p0_0), (.sh 9 p0_1), (.sh 30 p0_2), (.i .i64 p0_3)])] => some (Pu.spec_l13Copy.c p0_0 p0_1 p0_2 p0_3, ⟨[(.v true [(.ow 9 true ((Pu.spec_l13Copy.v p0_0 p0_1 p0_2 p0_3).1)), (.ow 9 true ((Pu.spec_l13Copy.v p0_0 p0_1 p0_2 p0_3).2.1)), (.ow 30 true ((Pu.spec_l13Copy.v p0_0 p0_1 p0_2 p0_3).2.2.1)), (.i .i64 ((Pu.spec_l13Copy.v p0_0 p0_1 p0_2 p0_3).2.2.2))])], []⟩)
  | _ => none
theorem ok99 : FnOk Try.prog T 99 sp99 := by
  refine fn_ok (E := E99) hE (call_cons ok186 call_nil) hM Try.func99 (code := (Try.f99.body.getD .skip)) (by kernel_rfl) (by kernel_rfl) ?_
  have key : ∀ (p0_0 : Row) (p0_1 : Row) (p0_2 : Row) (p0_3 : Int), Pu.spec_l13Copy.c p0_0 p0_1 p0_2 p0_3 = true → ∃ it : It Res, (∀ c ∈ loopsOf (Try.f99.body.getD .skip), LoopOk E99 it c) ∧ body E99 it Try.f99 [(.v true [(.sh 9 p0_0), (.sh 9 p0_1), (.sh 30 p0_2), (.i .i64 p0_3)])] = some ⟨[(.v true [(.ow 9 true ((Pu.spec_l13Copy.v p0_0 p0_1 p0_2 p0_3).1)), (.ow 9 true ((Pu.spec_l13Copy.v p0_0 p0_1 p0_2 p0_3).2.1)), (.ow 30 true ((Pu.spec_l13Copy.v p0_0 p0_1 p0_2 p0_3).2.2.1)), (.i .i64 ((Pu.spec_l13Copy.v p0_0 p0_1 p0_2 p0_3).2.2.2))])], []⟩ := by
    intro p0_0 p0_1 p0_2 p0_3  h1
    have hN := Pu.spec_l13Copy.b_eq (R := Res) (fun r0 r1 r2 r3 => some ⟨[(.v true [(.ow 9 true r0), (.ow 9 true r1), (.ow 30 true r2), (.i .i64 r3)])], []⟩) p0_0 p0_1 p0_2 p0_3 h1
    have hl : loopsOf (Try.f99.body.getD .skip) = [] := by kernel_rfl
    refine ⟨iterN 0, by rw [hl]; exact loops_nil, ?_⟩
    refine Eq.trans (show body E99 (iterN 0) Try.f99 [(.v true [(.sh 9 p0_0), (.sh 9 p0_1), (.sh 30 p0_2), (.i .i64 p0_3)])] = Pu.spec_l13Copy.b (fun r0 r1 r2 r3 => some ⟨[(.v true [(.ow 9 true r0), (.ow 9 true r1), (.ow 30 true r2), (.i .i64 r3)])], []⟩) p0_0 p0_1 p0_2 p0_3 by kernel_rfl) hN
  intro args r h
  unfold sp99 at h
  split at h
  · injection h with h
    injection h with h1 h2
    subst h2
    exact ⟨by kernel_rfl, fun hf => ⟨of_decide_eq_true (by kernel_rfl), key _ _ _ _ h1⟩⟩
  · cases h

end Go.FG.Se

namespace Go.FG.Se
open Go.Proofs
def E122 : Env := { toTab := T, call := Go.FG.callIn [], mode := Go.FG.modeIn md, keep := Go.FG.keepIn [], tk := fun n => Go.FG.memB n [], om := Go.FG.omIn [] }
def sp122 : List Arg → Option (Bool × Res)
  | [(.v false [(.i .i64 x0)]), (.v false [(.i .i64 least1)]), (.v false [(.i .i64 most2)])] => some (true, ⟨[(.v false [(.b (Pu.spec_l01In.v x0 least1 most2))])], []⟩)
  | _ => none
theorem ok122 : FnOk Try.prog T 122 sp122 := by
  refine fn_ok (E := E122) hE call_nil hM Try.func122 (code := (Try.f122.body.getD .skip)) (by kernel_rfl) (by kernel_rfl) ?_
  have key : ∀ (x0 : Int) (least1 : Int) (most2 : Int), ∃ it : It Res, (∀ c ∈ loopsOf (Try.f122.body.getD .skip), LoopOk E122 it c) ∧ body E122 it Try.f122 [(.v false [(.i .i64 x0)]), (.v false [(.i .i64 least1)]), (.v false [(.i .i64 most2)])] = some ⟨[(.v false [(.b (Pu.spec_l01In.v x0 least1 most2))])], []⟩ := by
    intro x0 least1 most2 
    have hN := Pu.spec_l01In.b_eq (R := Res) (fun r0 => some ⟨[(.v false [(.b r0)])], []⟩) x0 least1 most2
    have hl : loopsOf (Try.f122.body.getD .skip) = [] := by kernel_rfl
    refine ⟨iterN 0, by rw [hl]; exact loops_nil, ?_⟩
    refine Eq.trans (show body E122 (iterN 0) Try.f122 [(.v false [(.i .i64 x0)]), (.v false [(.i .i64 least1)]), (.v false [(.i .i64 most2)])] = Pu.spec_l01In.b (fun r0 => some ⟨[(.v false [(.b r0)])], []⟩) x0 least1 most2 by kernel_rfl) hN
  intro args r h
  unfold sp122 at h
  split at h
  · injection h with h
    injection h with h1 h2
    subst h2
    exact ⟨by kernel_rfl, fun hf => ⟨of_decide_eq_true (by kernel_rfl), key _ _ _⟩⟩
  · cases h

end Go.FG.Se

namespace Go.FG.Se
open Go.Proofs
def E101 : Env := { toTab := T, call := Go.FG.callIn [(122, sp122)], mode := Go.FG.modeIn md, keep := Go.FG.keepIn [], tk := fun n => Go.FG.memB n [], om := Go.FG.omIn [] }
def sp101 : List Arg → Option (Bool × Res)
  | [(.v false [(.s s0)])] => some (true, ⟨[(.v false [(.b (Pu.spec_l13Key.v s0))])], []⟩)
  | _ => none
theorem ok101 : FnOk Try.prog T 101 sp101 := by
  refine fn_ok (E := E101) hE (call_cons ok122 call_nil) hM Try.func101 (code := (Try.f101.body.getD .skip)) (by kernel_rfl) (by kernel_rfl) ?_
  have key : ∀ (s0 : ByteArray), ∃ it : It Res, (∀ c ∈ loopsOf (Try.f101.body.getD .skip), LoopOk E101 it c) ∧ body E101 it Try.f101 [(.v false [(.s s0)])] = some ⟨[(.v false [(.b (Pu.spec_l13Key.v s0))])], []⟩ := by
    intro s0 
    have hN := Pu.spec_l13Key.b_eq (R := Res) (fun r0 => some ⟨[(.v false [(.b r0)])], []⟩) s0
    have hl : loopsOf (Try.f101.body.getD .skip) = [] := by kernel_rfl
    refine ⟨iterN 0, by rw [hl]; exact loops_nil, ?_⟩
    refine Eq.trans (show body E101 (iterN 0) Try.f101 [(.v false [(.s s0)])] = Pu.spec_l13Key.b (fun r0 => some ⟨[(.v false [(.b r0)])], []⟩) s0 by kernel_rfl) hN
  intro args r h
  unfold sp101 at h
  split at h
  · injection h with h
    injection h with h1 h2
    subst h2
    exact ⟨by kernel_rfl, fun hf => ⟨of_decide_eq_true (by kernel_rfl), key _⟩⟩
  · cases h

end Go.FG.Se

namespace Go.FG.Se
open Go.Proofs
def E103 : Env := { toTab := T, call := Go.FG.callIn [], mode := Go.FG.modeIn md, keep := Go.FG.keepIn [(2, [0, 1, 4, 5])], tk := fun n => Go.FG.memB n [], om := Go.FG.omIn [] }
def it103 (N : Nat) {R : Type} : It R := fun rid f cn L K => bif Nat.beq rid 2 then (tell [(0, (.v (.v false [(.sh 9 [])]))), (2, (.v (.v false [(.s ⟨#[]⟩)]))), (8, (.v (.v false [(.b false)]))), (10, (.v (.v false [(.i .i64 0)])))] (fun | [.R x0, .S x1, .B x2, .I x3] => Pu.spec_l13In.l2 N (fun y0 y1 y2 y3 => (K .ret (tabl [(0, (.v (.v false [(.sh 9 y0)]))), (2, (.v (.v false [(.s y1)]))), (8, (.v (.v false [(.b y2)]))), (10, (.v (.v false [(.i .i64 y3)])))]))) (fun y0 y1 y2 y3 => (K (.exit 0) (tabl [(0, (.v (.v false [(.sh 9 y0)]))), (2, (.v (.v false [(.s y1)]))), (8, (.v (.v false [(.b y2)]))), (10, (.v (.v false [(.i .i64 y3)])))]))) N x0 x1 x2 x3 | _ => none) L (none)) else none
theorem e103_2 {R : Type} (N : Nat) (K : Ex → St → Option R) : ∀ n : Nat, (∀ x0 x1 x2 x3, iter (exc E103 (it103 N) (loopOf Try.f103 2)) (canon (E103.keep 2))  n (tabl [(0, (.v (.v false [(.sh 9 x0)]))), (2, (.v (.v false [(.s x1)]))), (8, (.v (.v false [(.b x2)]))), (10, (.v (.v false [(.i .i64 x3)])))]) K = Pu.spec_l13In.l2 N (fun y0 y1 y2 y3 => (K .ret (tabl [(0, (.v (.v false [(.sh 9 y0)]))), (2, (.v (.v false [(.s y1)]))), (8, (.v (.v false [(.b y2)]))), (10, (.v (.v false [(.i .i64 y3)])))]))) (fun y0 y1 y2 y3 => (K (.exit 0) (tabl [(0, (.v (.v false [(.sh 9 y0)]))), (2, (.v (.v false [(.s y1)]))), (8, (.v (.v false [(.b y2)]))), (10, (.v (.v false [(.i .i64 y3)])))]))) n x0 x1 x2 x3) := by
  intro n
  induction n with
  | zero => exact (fun _ _ _ _ => rfl)
  | succ n ih =>
    have e0 : (fun x0 x1 x2 x3 => iter (exc E103 (it103 N) (loopOf Try.f103 2)) (canon (E103.keep 2))  n (tabl [(0, (.v (.v false [(.sh 9 x0)]))), (2, (.v (.v false [(.s x1)]))), (8, (.v (.v false [(.b x2)]))), (10, (.v (.v false [(.i .i64 x3)])))]) K) = Pu.spec_l13In.l2 N (fun y0 y1 y2 y3 => (K .ret (tabl [(0, (.v (.v false [(.sh 9 y0)]))), (2, (.v (.v false [(.s y1)]))), (8, (.v (.v false [(.b y2)]))), (10, (.v (.v false [(.i .i64 y3)])))]))) (fun y0 y1 y2 y3 => (K (.exit 0) (tabl [(0, (.v (.v false [(.sh 9 y0)]))), (2, (.v (.v false [(.s y1)]))), (8, (.v (.v false [(.b y2)]))), (10, (.v (.v false [(.i .i64 y3)])))]))) n := by funext x0 x1 x2 x3; exact ih x0 x1 x2 x3
    intro x0 x1 x2 x3
    have h : ∀ g, exc E103 (it103 N) (loopOf Try.f103 2) (tabl [(0, (.v (.v false [(.sh 9 x0)]))), (2, (.v (.v false [(.s x1)]))), (8, (.v (.v false [(.b x2)]))), (10, (.v (.v false [(.i .i64 x3)])))]) (iterK g (canon (E103.keep 2)) K) = Pu.spec_l13In.r2 N (fun x0 x1 x2 x3 => (g (tabl [(0, (.v (.v false [(.sh 9 x0)]))), (2, (.v (.v false [(.s x1)]))), (8, (.v (.v false [(.b x2)]))), (10, (.v (.v false [(.i .i64 x3)])))]))) (fun y0 y1 y2 y3 => (K .ret (tabl [(0, (.v (.v false [(.sh 9 y0)]))), (2, (.v (.v false [(.s y1)]))), (8, (.v (.v false [(.b y2)]))), (10, (.v (.v false [(.i .i64 y3)])))]))) (fun y0 y1 y2 y3 => (K (.exit 0) (tabl [(0, (.v (.v false [(.sh 9 y0)]))), (2, (.v (.v false [(.s y1)]))), (8, (.v (.v false [(.b y2)]))), (10, (.v (.v false [(.i .i64 y3)])))]))) x0 x1 x2 x3 := by intro g; kernel_rfl
    refine (iter_succ _ _ n _ K).trans ((h _).trans ?_)
    show Pu.spec_l13In.r2 N (fun x0 x1 x2 x3 => (iter (exc E103 (it103 N) (loopOf Try.f103 2)) (canon (E103.keep 2))  n (tabl [(0, (.v (.v false [(.sh 9 x0)]))), (2, (.v (.v false [(.s x1)]))), (8, (.v (.v false [(.b x2)]))), (10, (.v (.v false [(.i .i64 x3)])))]) K)) (fun y0 y1 y2 y3 => (K .ret (tabl [(0, (.v (.v false [(.sh 9 y0)]))), (2, (.v (.v false [(.s y1)]))), (8, (.v (.v false [(.b y2)]))), (10, (.v (.v false [(.i .i64 y3)])))]))) (fun y0 y1 y2 y3 => (K (.exit 0) (tabl [(0, (.v (.v false [(.sh 9 y0)]))), (2, (.v (.v false [(.s y1)]))), (8, (.v (.v false [(.b y2)]))), (10, (.v (.v false [(.i .i64 y3)])))]))) x0 x1 x2 x3 = _
    rw [e0]; rfl
theorem lo103_2 {R : Type} (N : Nat) : LoopOk E103 (it103 N (R := R)) (loopOf Try.f103 2) := by
  have e : firstRid (loopOf Try.f103 2) = 2 := by kernel_rfl
  intro L K r
  rw [e]
  intro h
  unfold it103 at h
  simp only [show Nat.beq 2 2 = true from rfl, cond_false, cond_true] at h
  refine tell_ok (Q := fun L => ∃ n, iter (exc E103 (it103 N) (loopOf Try.f103 2)) (canon (E103.keep 2)) n (tabl L) K = some r) h (fun xs h => ?_) (fun h => ?_)
  · (try dsimp only at h)
    split at h
    · exact ⟨N, ((e103_2 N K N) _ _ _ _).trans h⟩
    · cases h
  cases h
def sp103 : List Arg → Option (Bool × Res)
  | [(.v false [(.sh 9 list0)]), (.v false [(.s s1)])] => some (Pu.spec_l13In.c list0 s1, ⟨[(.v false [(.b (Pu.spec_l13In.v list0 s1))])], []⟩)
  | _ => none
theorem ok103 : FnOk Try.prog T 103 sp103 := by
  refine fn_ok (E := E103) hE call_nil hM Try.func103 (code := (Try.f103.body.getD .skip)) (by kernel_rfl) (by kernel_rfl) ?_
  have key : ∀ (list0 : Row) (s1 : ByteArray), Pu.spec_l13In.c list0 s1 = true → ∃ it : It Res, (∀ c ∈ loopsOf (Try.f103.body.getD .skip), LoopOk E103 it c) ∧ body E103 it Try.f103 [(.v false [(.sh 9 list0)]), (.v false [(.s s1)])] = some ⟨[(.v false [(.b (Pu.spec_l13In.v list0 s1))])], []⟩ := by
    intro list0 s1  h1
    obtain ⟨N, hN⟩ := Pu.spec_l13In.b_eq (R := Res) (fun r0 => some ⟨[(.v false [(.b r0)])], []⟩) list0 s1 h1
    have hl : loopsOf (Try.f103.body.getD .skip) = [loopOf Try.f103 2] := by kernel_rfl
    refine ⟨it103 N, by rw [hl]; exact (loops_cons (lo103_2 N) loops_nil), ?_⟩
    refine Eq.trans (show body E103 (it103 N) Try.f103 [(.v false [(.sh 9 list0)]), (.v false [(.s s1)])] = Pu.spec_l13In.b N (fun r0 => some ⟨[(.v false [(.b r0)])], []⟩) list0 s1 by kernel_rfl) hN
  intro args r h
  unfold sp103 at h
  split at h
  · injection h with h
    injection h with h1 h2
    subst h2
    exact ⟨by kernel_rfl, fun hf => ⟨of_decide_eq_true (by kernel_rfl), key _ _ h1⟩⟩
  · cases h

end Go.FG.Se

namespace Go.FG.Se
open Go.Proofs
def E187 : Env := { toTab := T, call := Go.FG.callIn [(122, sp122)], mode := Go.FG.modeIn md, keep := Go.FG.keepIn [(4, [1, 2, 3]), (9, [1, 2, 3, 4])], tk := fun n => Go.FG.memB n [], om := Go.FG.omIn [] }
def it187 (N : Nat) {R : Type} : It R := fun rid f cn L K => bif Nat.beq rid 4 then (tell [(2, (.v (.v false [(.bp 0 0)]))), (4, (.v (.v false [(.b false)]))), (6, (.v (.v false [(.i .i64 0)]))), (1, (.o (.box [(.sh 30 []), (.i .i64 0)])))] (fun | [.B x0, .I x1, .R x2, .I x3] => Pu.spec_SketchOk.l4 N (fun y0 y1 y2 y3 => (K .ret (tabl [(2, (.v (.v false [(.bp 0 0)]))), (4, (.v (.v false [(.b y0)]))), (6, (.v (.v false [(.i .i64 y1)]))), (1, (.o (.box [(.sh 30 y2), (.i .i64 y3)])))]))) (fun y0 y1 y2 y3 => (K (.exit 0) (tabl [(2, (.v (.v false [(.bp 0 0)]))), (4, (.v (.v false [(.b y0)]))), (6, (.v (.v false [(.i .i64 y1)]))), (1, (.o (.box [(.sh 30 y2), (.i .i64 y3)])))]))) N x0 x1 x2 x3 | _ => none) L (none)) else bif Nat.beq rid 9 then (tell [(2, (.v (.v false [(.bp 0 0)]))), (4, (.v (.v false [(.b false)]))), (6, (.v (.v false [(.i .i64 0)]))), (8, (.v (.v false [(.i .i64 0)]))), (1, (.o (.box [(.sh 30 []), (.i .i64 0)])))] (fun | [.B x4, .I x5, .I x6, .R x7, .I x8] => Pu.spec_SketchOk.l9 N (fun y0 y1 y2 y3 y4 => (K .ret (tabl [(2, (.v (.v false [(.bp 0 0)]))), (4, (.v (.v false [(.b y0)]))), (6, (.v (.v false [(.i .i64 y1)]))), (8, (.v (.v false [(.i .i64 y2)]))), (1, (.o (.box [(.sh 30 y3), (.i .i64 y4)])))]))) (fun y0 y1 y2 y3 y4 => (K (.exit 2) (tabl [(2, (.v (.v false [(.bp 0 0)]))), (4, (.v (.v false [(.b y0)]))), (6, (.v (.v false [(.i .i64 y1)]))), (8, (.v (.v false [(.i .i64 y2)]))), (1, (.o (.box [(.sh 30 y3), (.i .i64 y4)])))]))) N x4 x5 x6 x7 x8 | _ => none) L (none)) else none
theorem e187_4 {R : Type} (N : Nat) (K : Ex → St → Option R) : ∀ n : Nat, (∀ x0 x1 x2 x3, iter (exc E187 (it187 N) (loopOf Try.f187 4)) (canon (E187.keep 4))  n (tabl [(2, (.v (.v false [(.bp 0 0)]))), (4, (.v (.v false [(.b x0)]))), (6, (.v (.v false [(.i .i64 x1)]))), (1, (.o (.box [(.sh 30 x2), (.i .i64 x3)])))]) K = Pu.spec_SketchOk.l4 N (fun y0 y1 y2 y3 => (K .ret (tabl [(2, (.v (.v false [(.bp 0 0)]))), (4, (.v (.v false [(.b y0)]))), (6, (.v (.v false [(.i .i64 y1)]))), (1, (.o (.box [(.sh 30 y2), (.i .i64 y3)])))]))) (fun y0 y1 y2 y3 => (K (.exit 0) (tabl [(2, (.v (.v false [(.bp 0 0)]))), (4, (.v (.v false [(.b y0)]))), (6, (.v (.v false [(.i .i64 y1)]))), (1, (.o (.box [(.sh 30 y2), (.i .i64 y3)])))]))) n x0 x1 x2 x3) := by
  intro n
  induction n with
  | zero => exact (fun _ _ _ _ => rfl)
  | succ n ih =>
    have e0 : (fun x0 x1 x2 x3 => iter (exc E187 (it187 N) (loopOf Try.f187 4)) (canon (E187.keep 4))  n (tabl [(2, (.v (.v false [(.bp 0 0)]))), (4, (.v (.v false [(.b x0)]))), (6, (.v (.v false [(.i .i64 x1)]))), (1, (.o (.box [(.sh 30 x2), (.i .i64 x3)])))]) K) = Pu.spec_SketchOk.l4 N (fun y0 y1 y2 y3 => (K .ret (tabl [(2, (.v (.v false [(.bp 0 0)]))), (4, (.v (.v false [(.b y0)]))), (6, (.v (.v false [(.i .i64 y1)]))), (1, (.o (.box [(.sh 30 y2), (.i .i64 y3)])))]))) (fun y0 y1 y2 y3 => (K (.exit 0) (tabl [(2, (.v (.v false [(.bp 0 0)]))), (4, (.v (.v false [(.b y0)]))), (6, (.v (.v false [(.i .i64 y1)]))), (1, (.o (.box [(.sh 30 y2), (.i .i64 y3)])))]))) n := by funext x0 x1 x2 x3; exact ih x0 x1 x2 x3
    intro x0 x1 x2 x3
    have h : ∀ g, exc E187 (it187 N) (loopOf Try.f187 4) (tabl [(2, (.v (.v false [(.bp 0 0)]))), (4, (.v (.v false [(.b x0)]))), (6, (.v (.v false [(.i .i64 x1)]))), (1, (.o (.box [(.sh 30 x2), (.i .i64 x3)])))]) (iterK g (canon (E187.keep 4)) K) = Pu.spec_SketchOk.r4 N (fun x0 x1 x2 x3 => (g (tabl [(2, (.v (.v false [(.bp 0 0)]))), (4, (.v (.v false [(.b x0)]))), (6, (.v (.v false [(.i .i64 x1)]))), (1, (.o (.box [(.sh 30 x2), (.i .i64 x3)])))]))) (fun y0 y1 y2 y3 => (K .ret (tabl [(2, (.v (.v false [(.bp 0 0)]))), (4, (.v (.v false [(.b y0)]))), (6, (.v (.v false [(.i .i64 y1)]))), (1, (.o (.box [(.sh 30 y2), (.i .i64 y3)])))]))) (fun y0 y1 y2 y3 => (K (.exit 0) (tabl [(2, (.v (.v false [(.bp 0 0)]))), (4, (.v (.v false [(.b y0)]))), (6, (.v (.v false [(.i .i64 y1)]))), (1, (.o (.box [(.sh 30 y2), (.i .i64 y3)])))]))) x0 x1 x2 x3 := by intro g; kernel_rfl
    refine (iter_succ _ _ n _ K).trans ((h _).trans ?_)
    show Pu.spec_SketchOk.r4 N (fun x0 x1 x2 x3 => (iter (exc E187 (it187 N) (loopOf Try.f187 4)) (canon (E187.keep 4))  n (tabl [(2, (.v (.v false [(.bp 0 0)]))), (4, (.v (.v false [(.b x0)]))), (6, (.v (.v false [(.i .i64 x1)]))), (1, (.o (.box [(.sh 30 x2), (.i .i64 x3)])))]) K)) (fun y0 y1 y2 y3 => (K .ret (tabl [(2, (.v (.v false [(.bp 0 0)]))), (4, (.v (.v false [(.b y0)]))), (6, (.v (.v false [(.i .i64 y1)]))), (1, (.o (.box [(.sh 30 y2), (.i .i64 y3)])))]))) (fun y0 y1 y2 y3 => (K (.exit 0) (tabl [(2, (.v (.v false [(.bp 0 0)]))), (4, (.v (.v false [(.b y0)]))), (6, (.v (.v false [(.i .i64 y1)]))), (1, (.o (.box [(.sh 30 y2), (.i .i64 y3)])))]))) x0 x1 x2 x3 = _
    rw [e0]; rfl
theorem lo187_4 {R : Type} (N : Nat) : LoopOk E187 (it187 N (R := R)) (loopOf Try.f187 4) := by
  have e : firstRid (loopOf Try.f187 4) = 4 := by kernel_rfl
  intro L K r
  rw [e]
  intro h
  unfold it187 at h
  simp only [show Nat.beq 4 4 = true from rfl, cond_false, cond_true] at h
  refine tell_ok (Q := fun L => ∃ n, iter (exc E187 (it187 N) (loopOf Try.f187 4)) (canon (E187.keep 4)) n (tabl L) K = some r) h (fun xs h => ?_) (fun h => ?_)
  · (try dsimp only at h)
    split at h
    · exact ⟨N, ((e187_4 N K N) _ _ _ _).trans h⟩
    · cases h
  cases h
theorem e187_9 {R : Type} (N : Nat) (K : Ex → St → Option R) : ∀ n : Nat, (∀ x4 x5 x6 x7 x8, iter (exc E187 (it187 N) (loopOf Try.f187 9)) (canon (E187.keep 9))  n (tabl [(2, (.v (.v false [(.bp 0 0)]))), (4, (.v (.v false [(.b x4)]))), (6, (.v (.v false [(.i .i64 x5)]))), (8, (.v (.v false [(.i .i64 x6)]))), (1, (.o (.box [(.sh 30 x7), (.i .i64 x8)])))]) K = Pu.spec_SketchOk.l9 N (fun y0 y1 y2 y3 y4 => (K .ret (tabl [(2, (.v (.v false [(.bp 0 0)]))), (4, (.v (.v false [(.b y0)]))), (6, (.v (.v false [(.i .i64 y1)]))), (8, (.v (.v false [(.i .i64 y2)]))), (1, (.o (.box [(.sh 30 y3), (.i .i64 y4)])))]))) (fun y0 y1 y2 y3 y4 => (K (.exit 2) (tabl [(2, (.v (.v false [(.bp 0 0)]))), (4, (.v (.v false [(.b y0)]))), (6, (.v (.v false [(.i .i64 y1)]))), (8, (.v (.v false [(.i .i64 y2)]))), (1, (.o (.box [(.sh 30 y3), (.i .i64 y4)])))]))) n x4 x5 x6 x7 x8) := by
  intro n
  induction n with
  | zero => exact (fun _ _ _ _ _ => rfl)
  | succ n ih =>
    have e0 : (fun x4 x5 x6 x7 x8 => iter (exc E187 (it187 N) (loopOf Try.f187 9)) (canon (E187.keep 9))  n (tabl [(2, (.v (.v false [(.bp 0 0)]))), (4, (.v (.v false [(.b x4)]))), (6, (.v (.v false [(.i .i64 x5)]))), (8, (.v (.v false [(.i .i64 x6)]))), (1, (.o (.box [(.sh 30 x7), (.i .i64 x8)])))]) K) = Pu.spec_SketchOk.l9 N (fun y0 y1 y2 y3 y4 => (K .ret (tabl [(2, (.v (.v false [(.bp 0 0)]))), (4, (.v (.v false [(.b y0)]))), (6, (.v (.v false [(.i .i64 y1)]))), (8, (.v (.v false [(.i .i64 y2)]))), (1, (.o (.box [(.sh 30 y3), (.i .i64 y4)])))]))) (fun y0 y1 y2 y3 y4 => (K (.exit 2) (tabl [(2, (.v (.v false [(.bp 0 0)]))), (4, (.v (.v false [(.b y0)]))), (6, (.v (.v false [(.i .i64 y1)]))), (8, (.v (.v false [(.i .i64 y2)]))), (1, (.o (.box [(.sh 30 y3), (.i .i64 y4)])))]))) n := by funext x4 x5 x6 x7 x8; exact ih x4 x5 x6 x7 x8
    intro x4 x5 x6 x7 x8
    have h : ∀ g, exc E187 (it187 N) (loopOf Try.f187 9) (tabl [(2, (.v (.v false [(.bp 0 0)]))), (4, (.v (.v false [(.b x4)]))), (6, (.v (.v false [(.i .i64 x5)]))), (8, (.v (.v false [(.i .i64 x6)]))), (1, (.o (.box [(.sh 30 x7), (.i .i64 x8)])))]) (iterK g (canon (E187.keep 9)) K) = Pu.spec_SketchOk.r9 N (fun x4 x5 x6 x7 x8 => (g (tabl [(2, (.v (.v false [(.bp 0 0)]))), (4, (.v (.v false [(.b x4)]))), (6, (.v (.v false [(.i .i64 x5)]))), (8, (.v (.v false [(.i .i64 x6)]))), (1, (.o (.box [(.sh 30 x7), (.i .i64 x8)])))]))) (fun y0 y1 y2 y3 y4 => (K .ret (tabl [(2, (.v (.v false [(.bp 0 0)]))), (4, (.v (.v false [(.b y0)]))), (6, (.v (.v false [(.i .i64 y1)]))), (8, (.v (.v false [(.i .i64 y2)]))), (1, (.o (.box [(.sh 30 y3), (.i .i64 y4)])))]))) (fun y0 y1 y2 y3 y4 => (K (.exit 2) (tabl [(2, (.v (.v false [(.bp 0 0)]))), (4, (.v (.v false [(.b y0)]))), (6, (.v (.v false [(.i .i64 y1)]))), (8, (.v (.v false [(.i .i64 y2)]))), (1, (.o (.box [(.sh 30 y3), (.i .i64 y4)])))]))) x4 x5 x6 x7 x8 := by intro g; kernel_rfl
    refine (iter_succ _ _ n _ K).trans ((h _).trans ?_)
    show Pu.spec_SketchOk.r9 N (fun x4 x5 x6 x7 x8 => (iter (exc E187 (it187 N) (loopOf Try.f187 9)) (canon (E187.keep 9))  n (tabl [(2, (.v (.v false [(.bp 0 0)]))), (4, (.v (.v false [(.b x4)]))), (6, (.v (.v false [(.i .i64 x5)]))), (8, (.v (.v false [(.i .i64 x6)]))), (1, (.o (.box [(.sh 30 x7), (.i .i64 x8)])))]) K)) (fun y0 y1 y2 y3 y4 => (K .ret (tabl [(2, (.v (.v false [(.bp 0 0)]))), (4, (.v (.v false [(.b y0)]))), (6, (.v (.v false [(.i .i64 y1)]))), (8, (.v (.v false [(.i .i64 y2)]))), (1, (.o (.box [(.sh 30 y3), (.i .i64 y4)])))]))) (fun y0 y1 y2 y3 y4 => (K (.exit 2) (tabl [(2, (.v (.v false [(.bp 0 0)]))), (4, (.v (.v false [(.b y0)]))), (6, (.v (.v false [(.i .i64 y1)]))), (8, (.v (.v false [(.i .i64 y2)]))), (1, (.o (.box [(.sh 30 y3), (.i .i64 y4)])))]))) x4 x5 x6 x7 x8 = _
    rw [e0]; rfl
theorem lo187_9 {R : Type} (N : Nat) : LoopOk E187 (it187 N (R := R)) (loopOf Try.f187 9) := by
  have e : firstRid (loopOf Try.f187 9) = 9 := by kernel_rfl
  intro L K r
  rw [e]
  intro h
  unfold it187 at h
  simp only [show Nat.beq 9 4 = false from rfl, show Nat.beq 9 9 = true from rfl, cond_false, cond_true] at h
  refine tell_ok (Q := fun L => ∃ n, iter (exc E187 (it187 N) (loopOf Try.f187 9)) (canon (E187.keep 9)) n (tabl L) K = some r) h (fun xs h => ?_) (fun h => ?_)
  · (try dsimp only at h)
    split at h
    · exact ⟨N, ((e187_9 N K N) _ _ _ _ _).trans h⟩
    · cases h
  cases h
def sp187 : List Arg → Option (Bool × Res)
  | [(.v true [(.sh 30 s0_0), (.i .i64 s0_1)])] => some (Pu.spec_SketchOk.c s0_0 s0_1, ⟨[(.v false [(.b (Pu.spec_SketchOk.v s0_0 s0_1))])], []⟩)
  | _ => none
theorem ok187 : FnOk Try.prog T 187 sp187 := by
  refine fn_ok (E := E187) hE (call_cons ok122 call_nil) hM Try.func187 (code := (Try.f187.body.getD .skip)) (by kernel_rfl) (by kernel_rfl) ?_
  have key : ∀ (s0_0 : Row) (s0_1 : Int), Pu.spec_SketchOk.c s0_0 s0_1 = true → ∃ it : It Res, (∀ c ∈ loopsOf (Try.f187.body.getD .skip), LoopOk E187 it c) ∧ body E187 it Try.f187 [(.v true [(.sh 30 s0_0), (.i .i64 s0_1)])] = some ⟨[(.v false [(.b (Pu.spec_SketchOk.v s0_0 s0_1))])], []⟩ := by
    intro s0_0 s0_1  h1
    obtain ⟨N, hN⟩ := Pu.spec_SketchOk.b_eq (R := Res) (fun r0 => some ⟨[(.v false [(.b r0)])], []⟩) s0_0 s0_1 h1
    have hl : loopsOf (Try.f187.body.getD .skip) = [loopOf Try.f187 4, loopOf Try.f187 9] := by kernel_rfl
    refine ⟨it187 N, by rw [hl]; exact (loops_cons (lo187_4 N) (loops_cons (lo187_9 N) loops_nil)), ?_⟩
    refine Eq.trans (show body E187 (it187 N) Try.f187 [(.v true [(.sh 30 s0_0), (.i .i64 s0_1)])] = Pu.spec_SketchOk.b N (fun r0 => some ⟨[(.v false [(.b r0)])], []⟩) s0_0 s0_1 by kernel_rfl) hN
  intro args r h
  unfold sp187 at h
  split at h
  · injection h with h
    injection h with h1 h2
    subst h2
    exact ⟨by kernel_rfl, fun hf => ⟨of_decide_eq_true (by kernel_rfl), key _ _ h1⟩⟩
  · cases h

end Go.FG.Se

namespace Go.FG.Se
open Go.Proofs
def E100 : Env := { toTab := T, call := Go.FG.callIn [(101, sp101), (103, sp103), (187, sp187)], mode := Go.FG.modeIn md, keep := Go.FG.keepIn [(3, [1, 2, 3, 4])], tk := fun n => Go.FG.memB n [], om := Go.FG.omIn [] }
def it100 (N : Nat) {R : Type} : It R := fun rid f cn L K => bif Nat.beq rid 3 then (tell [(2, (.v (.v false [(.bp 0 0)]))), (4, (.v (.v false [(.b false)]))), (6, (.v (.v false [(.own 1)]))), (8, (.v (.v false [(.i .i64 0)]))), (1, (.o (.box [(.sh 9 []), (.sh 9 []), (.sh 30 []), (.i .i64 0)]))), (3, (.o (.row 9 true [])))] (fun | [.B x0, .I x1, .R x2, .R x3, .R x4, .I x5, .R x6] => Pu.spec_PolicyOk.l3 N (fun y0 y1 y2 y3 y4 y5 y6 => (K .ret (tabl [(2, (.v (.v false [(.bp 0 0)]))), (4, (.v (.v false [(.b y0)]))), (6, (.v (.v false [(.own 1)]))), (8, (.v (.v false [(.i .i64 y1)]))), (1, (.o (.box [(.sh 9 y2), (.sh 9 y3), (.sh 30 y4), (.i .i64 y5)]))), (3, (.o (.row 9 true y6)))]))) (fun y0 y1 y2 y3 y4 y5 y6 => (K (.exit 0) (tabl [(2, (.v (.v false [(.bp 0 0)]))), (4, (.v (.v false [(.b y0)]))), (6, (.v (.v false [(.own 1)]))), (8, (.v (.v false [(.i .i64 y1)]))), (1, (.o (.box [(.sh 9 y2), (.sh 9 y3), (.sh 30 y4), (.i .i64 y5)]))), (3, (.o (.row 9 true y6)))]))) N x0 x1 x2 x3 x4 x5 x6 | _ => none) L (none)) else none
theorem e100_3 {R : Type} (N : Nat) (K : Ex → St → Option R) : ∀ n : Nat, (∀ x0 x1 x2 x3 x4 x5 x6, iter (exc E100 (it100 N) (loopOf Try.f100 3)) (canon (E100.keep 3))  n (tabl [(2, (.v (.v false [(.bp 0 0)]))), (4, (.v (.v false [(.b x0)]))), (6, (.v (.v false [(.own 1)]))), (8, (.v (.v false [(.i .i64 x1)]))), (1, (.o (.box [(.sh 9 x2), (.sh 9 x3), (.sh 30 x4), (.i .i64 x5)]))), (3, (.o (.row 9 true x6)))]) K = Pu.spec_PolicyOk.l3 N (fun y0 y1 y2 y3 y4 y5 y6 => (K .ret (tabl [(2, (.v (.v false [(.bp 0 0)]))), (4, (.v (.v false [(.b y0)]))), (6, (.v (.v false [(.own 1)]))), (8, (.v (.v false [(.i .i64 y1)]))), (1, (.o (.box [(.sh 9 y2), (.sh 9 y3), (.sh 30 y4), (.i .i64 y5)]))), (3, (.o (.row 9 true y6)))]))) (fun y0 y1 y2 y3 y4 y5 y6 => (K (.exit 0) (tabl [(2, (.v (.v false [(.bp 0 0)]))), (4, (.v (.v false [(.b y0)]))), (6, (.v (.v false [(.own 1)]))), (8, (.v (.v false [(.i .i64 y1)]))), (1, (.o (.box [(.sh 9 y2), (.sh 9 y3), (.sh 30 y4), (.i .i64 y5)]))), (3, (.o (.row 9 true y6)))]))) n x0 x1 x2 x3 x4 x5 x6) := by
  intro n
  induction n with
  | zero => exact (fun _ _ _ _ _ _ _ => rfl)
  | succ n ih =>
    have e0 : (fun x0 x1 x2 x3 x4 x5 x6 => iter (exc E100 (it100 N) (loopOf Try.f100 3)) (canon (E100.keep 3))  n (tabl [(2, (.v (.v false [(.bp 0 0)]))), (4, (.v (.v false [(.b x0)]))), (6, (.v (.v false [(.own 1)]))), (8, (.v (.v false [(.i .i64 x1)]))), (1, (.o (.box [(.sh 9 x2), (.sh 9 x3), (.sh 30 x4), (.i .i64 x5)]))), (3, (.o (.row 9 true x6)))]) K) = Pu.spec_PolicyOk.l3 N (fun y0 y1 y2 y3 y4 y5 y6 => (K .ret (tabl [(2, (.v (.v false [(.bp 0 0)]))), (4, (.v (.v false [(.b y0)]))), (6, (.v (.v false [(.own 1)]))), (8, (.v (.v false [(.i .i64 y1)]))), (1, (.o (.box [(.sh 9 y2), (.sh 9 y3), (.sh 30 y4), (.i .i64 y5)]))), (3, (.o (.row 9 true y6)))]))) (fun y0 y1 y2 y3 y4 y5 y6 => (K (.exit 0) (tabl [(2, (.v (.v false [(.bp 0 0)]))), (4, (.v (.v false [(.b y0)]))), (6, (.v (.v false [(.own 1)]))), (8, (.v (.v false [(.i .i64 y1)]))), (1, (.o (.box [(.sh 9 y2), (.sh 9 y3), (.sh 30 y4), (.i .i64 y5)]))), (3, (.o (.row 9 true y6)))]))) n := by funext x0 x1 x2 x3 x4 x5 x6; exact ih x0 x1 x2 x3 x4 x5 x6
    intro x0 x1 x2 x3 x4 x5 x6
    have h : ∀ g, exc E100 (it100 N) (loopOf Try.f100 3) (tabl [(2, (.v (.v false [(.bp 0 0)]))), (4, (.v (.v false [(.b x0)]))), (6, (.v (.v false [(.own 1)]))), (8, (.v (.v false [(.i .i64 x1)]))), (1, (.o (.box [(.sh 9 x2), (.sh 9 x3), (.sh 30 x4), (.i .i64 x5)]))), (3, (.o (.row 9 true x6)))]) (iterK g (canon (E100.keep 3)) K) = Pu.spec_PolicyOk.r3 N (fun x0 x1 x2 x3 x4 x5 x6 => (g (tabl [(2, (.v (.v false [(.bp 0 0)]))), (4, (.v (.v false [(.b x0)]))), (6, (.v (.v false [(.own 1)]))), (8, (.v (.v false [(.i .i64 x1)]))), (1, (.o (.box [(.sh 9 x2), (.sh 9 x3), (.sh 30 x4), (.i .i64 x5)]))), (3, (.o (.row 9 true x6)))]))) (fun y0 y1 y2 y3 y4 y5 y6 => (K .ret (tabl [(2, (.v (.v false [(.bp 0 0)]))), (4, (.v (.v false [(.b y0)]))), (6, (.v (.v false [(.own 1)]))), (8, (.v (.v false [(.i .i64 y1)]))), (1, (.o (.box [(.sh 9 y2), (.sh 9 y3), (.sh 30 y4), (.i .i64 y5)]))), (3, (.o (.row 9 true y6)))]))) (fun y0 y1 y2 y3 y4 y5 y6 => (K (.exit 0) (tabl [(2, (.v (.v false [(.bp 0 0)]))), (4, (.v (.v false [(.b y0)]))), (6, (.v (.v false [(.own 1)]))), (8, (.v (.v false [(.i .i64 y1)]))), (1, (.o (.box [(.sh 9 y2), (.sh 9 y3), (.sh 30 y4), (.i .i64 y5)]))), (3, (.o (.row 9 true y6)))]))) x0 x1 x2 x3 x4 x5 x6 := by intro g; kernel_rfl
    refine (iter_succ _ _ n _ K).trans ((h _).trans ?_)
    show Pu.spec_PolicyOk.r3 N (fun x0 x1 x2 x3 x4 x5 x6 => (iter (exc E100 (it100 N) (loopOf Try.f100 3)) (canon (E100.keep 3))  n (tabl [(2, (.v (.v false [(.bp 0 0)]))), (4, (.v (.v false [(.b x0)]))), (6, (.v (.v false [(.own 1)]))), (8, (.v (.v false [(.i .i64 x1)]))), (1, (.o (.box [(.sh 9 x2), (.sh 9 x3), (.sh 30 x4), (.i .i64 x5)]))), (3, (.o (.row 9 true x6)))]) K)) (fun y0 y1 y2 y3 y4 y5 y6 => (K .ret (tabl [(2, (.v (.v false [(.bp 0 0)]))), (4, (.v (.v false [(.b y0)]))), (6, (.v (.v false [(.own 1)]))), (8, (.v (.v false [(.i .i64 y1)]))), (1, (.o (.box [(.sh 9 y2), (.sh 9 y3), (.sh 30 y4), (.i .i64 y5)]))), (3, (.o (.row 9 true y6)))]))) (fun y0 y1 y2 y3 y4 y5 y6 => (K (.exit 0) (tabl [(2, (.v (.v false [(.bp 0 0)]))), (4, (.v (.v false [(.b y0)]))), (6, (.v (.v false [(.own 1)]))), (8, (.v (.v false [(.i .i64 y1)]))), (1, (.o (.box [(.sh 9 y2), (.sh 9 y3), (.sh 30 y4), (.i .i64 y5)]))), (3, (.o (.row 9 true y6)))]))) x0 x1 x2 x3 x4 x5 x6 = _
    rw [e0]; rfl
theorem lo100_3 {R : Type} (N : Nat) : LoopOk E100 (it100 N (R := R)) (loopOf Try.f100 3) := by
  have e : firstRid (loopOf Try.f100 3) = 3 := by kernel_rfl
  intro L K r
  rw [e]
  intro h
  unfold it100 at h
  simp only [show Nat.beq 3 3 = true from rfl, cond_false, cond_true] at h
  refine tell_ok (Q := fun L => ∃ n, iter (exc E100 (it100 N) (loopOf Try.f100 3)) (canon (E100.keep 3)) n (tabl L) K = some r) h (fun xs h => ?_) (fun h => ?_)
  · (try dsimp only at h)
    split at h
    · exact ⟨N, ((e100_3 N K N) _ _ _ _ _ _ _).trans h⟩
    · cases h
  cases h
def sp100 : List Arg → Option (Bool × Res)
  | [(.v true [(.sh 9 p0_0), (.sh 9 p0_1), (.sh 30 p0_2), (.i .i64 p0_3)])] => some (Pu.spec_PolicyOk.c p0_0 p0_1 p0_2 p0_3, ⟨[(.v false [(.b (Pu.spec_PolicyOk.v p0_0 p0_1 p0_2 p0_3))])], []⟩)
  | _ => none
theorem ok100 : FnOk Try.prog T 100 sp100 := by
  refine fn_ok (E := E100) hE (call_cons ok101 (call_cons ok103 (call_cons ok187 call_nil))) hM Try.func100 (code := (Try.f100.body.getD .skip)) (by kernel_rfl) (by kernel_rfl) ?_
  have key : ∀ (p0_0 : Row) (p0_1 : Row) (p0_2 : Row) (p0_3 : Int), Pu.spec_PolicyOk.c p0_0 p0_1 p0_2 p0_3 = true → ∃ it : It Res, (∀ c ∈ loopsOf (Try.f100.body.getD .skip), LoopOk E100 it c) ∧ body E100 it Try.f100 [(.v true [(.sh 9 p0_0), (.sh 9 p0_1), (.sh 30 p0_2), (.i .i64 p0_3)])] = some ⟨[(.v false [(.b (Pu.spec_PolicyOk.v p0_0 p0_1 p0_2 p0_3))])], []⟩ := by
    intro p0_0 p0_1 p0_2 p0_3  h1
    obtain ⟨N, hN⟩ := Pu.spec_PolicyOk.b_eq (R := Res) (fun r0 => some ⟨[(.v false [(.b r0)])], []⟩) p0_0 p0_1 p0_2 p0_3 h1
    have hl : loopsOf (Try.f100.body.getD .skip) = [loopOf Try.f100 3] := by kernel_rfl
    refine ⟨it100 N, by rw [hl]; exact (loops_cons (lo100_3 N) loops_nil), ?_⟩
    refine Eq.trans (show body E100 (it100 N) Try.f100 [(.v true [(.sh 9 p0_0), (.sh 9 p0_1), (.sh 30 p0_2), (.i .i64 p0_3)])] = Pu.spec_PolicyOk.b N (fun r0 => some ⟨[(.v false [(.b r0)])], []⟩) p0_0 p0_1 p0_2 p0_3 by kernel_rfl) hN
  intro args r h
  unfold sp100 at h
  split at h
  · injection h with h
    injection h with h1 h2
    subst h2
    exact ⟨by kernel_rfl, fun hf => ⟨of_decide_eq_true (by kernel_rfl), key _ _ _ _ h1⟩⟩
  · cases h

end Go.FG.Se

namespace Go.FG.Se
open Go.Proofs
def E212 : Env := { toTab := T, call := Go.FG.callIn [], mode := Go.FG.modeIn md, keep := Go.FG.keepIn [(2, [0, 1, 5]), (6, [0, 1, 5, 6])], tk := fun n => Go.FG.memB n [], om := Go.FG.omIn [] }
def it212 (N : Nat) {R : Type} : It R := fun rid f cn L K => bif Nat.beq rid 2 then (tell [(0, (.v (.v false [(.i .u32 0)]))), (2, (.v (.v false [(.s ⟨#[]⟩)]))), (10, (.v (.v false [(.i .i64 0)])))] (fun | [.I x0, .S x1, .I x2] => Pu.spec_SumMore.l2 N (fun y0 y1 y2 => (K (.exit 0) (tabl [(0, (.v (.v false [(.i .u32 y0)]))), (2, (.v (.v false [(.s y1)]))), (10, (.v (.v false [(.i .i64 y2)])))]))) N x0 x1 x2 | _ => none) L (none)) else bif Nat.beq rid 6 then (tell [(0, (.v (.v false [(.i .u32 0)]))), (2, (.v (.v false [(.s ⟨#[]⟩)]))), (10, (.v (.v false [(.i .i64 0)]))), (12, (.v (.v false [(.i .i64 0)])))] (fun | [.I x3, .S x4, .I x5, .I x6] => Pu.spec_SumMore.l6 N (fun y0 y1 y2 y3 => (K (.exit 2) (tabl [(0, (.v (.v false [(.i .u32 y0)]))), (2, (.v (.v false [(.s y1)]))), (10, (.v (.v false [(.i .i64 y2)]))), (12, (.v (.v false [(.i .i64 y3)])))]))) N x3 x4 x5 x6 | _ => none) L (none)) else none
theorem e212_2 {R : Type} (N : Nat) (K : Ex → St → Option R) : ∀ n : Nat, (∀ x0 x1 x2, iter (exc E212 (it212 N) (loopOf Try.f212 2)) (canon (E212.keep 2))  n (tabl [(0, (.v (.v false [(.i .u32 x0)]))), (2, (.v (.v false [(.s x1)]))), (10, (.v (.v false [(.i .i64 x2)])))]) K = Pu.spec_SumMore.l2 N (fun y0 y1 y2 => (K (.exit 0) (tabl [(0, (.v (.v false [(.i .u32 y0)]))), (2, (.v (.v false [(.s y1)]))), (10, (.v (.v false [(.i .i64 y2)])))]))) n x0 x1 x2) := by
  intro n
  induction n with
  | zero => exact (fun _ _ _ => rfl)
  | succ n ih =>
    have e0 : (fun x0 x1 x2 => iter (exc E212 (it212 N) (loopOf Try.f212 2)) (canon (E212.keep 2))  n (tabl [(0, (.v (.v false [(.i .u32 x0)]))), (2, (.v (.v false [(.s x1)]))), (10, (.v (.v false [(.i .i64 x2)])))]) K) = Pu.spec_SumMore.l2 N (fun y0 y1 y2 => (K (.exit 0) (tabl [(0, (.v (.v false [(.i .u32 y0)]))), (2, (.v (.v false [(.s y1)]))), (10, (.v (.v false [(.i .i64 y2)])))]))) n := by funext x0 x1 x2; exact ih x0 x1 x2
    intro x0 x1 x2
    have h : ∀ g, exc E212 (it212 N) (loopOf Try.f212 2) (tabl [(0, (.v (.v false [(.i .u32 x0)]))), (2, (.v (.v false [(.s x1)]))), (10, (.v (.v false [(.i .i64 x2)])))]) (iterK g (canon (E212.keep 2)) K) = Pu.spec_SumMore.r2 N (fun x0 x1 x2 => (g (tabl [(0, (.v (.v false [(.i .u32 x0)]))), (2, (.v (.v false [(.s x1)]))), (10, (.v (.v false [(.i .i64 x2)])))]))) (fun y0 y1 y2 => (K (.exit 0) (tabl [(0, (.v (.v false [(.i .u32 y0)]))), (2, (.v (.v false [(.s y1)]))), (10, (.v (.v false [(.i .i64 y2)])))]))) x0 x1 x2 := by intro g; kernel_rfl
    refine (iter_succ _ _ n _ K).trans ((h _).trans ?_)
    show Pu.spec_SumMore.r2 N (fun x0 x1 x2 => (iter (exc E212 (it212 N) (loopOf Try.f212 2)) (canon (E212.keep 2))  n (tabl [(0, (.v (.v false [(.i .u32 x0)]))), (2, (.v (.v false [(.s x1)]))), (10, (.v (.v false [(.i .i64 x2)])))]) K)) (fun y0 y1 y2 => (K (.exit 0) (tabl [(0, (.v (.v false [(.i .u32 y0)]))), (2, (.v (.v false [(.s y1)]))), (10, (.v (.v false [(.i .i64 y2)])))]))) x0 x1 x2 = _
    rw [e0]; rfl
theorem lo212_2 {R : Type} (N : Nat) : LoopOk E212 (it212 N (R := R)) (loopOf Try.f212 2) := by
  have e : firstRid (loopOf Try.f212 2) = 2 := by kernel_rfl
  intro L K r
  rw [e]
  intro h
  unfold it212 at h
  simp only [show Nat.beq 2 2 = true from rfl, cond_false, cond_true] at h
  refine tell_ok (Q := fun L => ∃ n, iter (exc E212 (it212 N) (loopOf Try.f212 2)) (canon (E212.keep 2)) n (tabl L) K = some r) h (fun xs h => ?_) (fun h => ?_)
  · (try dsimp only at h)
    split at h
    · exact ⟨N, ((e212_2 N K N) _ _ _).trans h⟩
    · cases h
  cases h
theorem e212_6 {R : Type} (N : Nat) (K : Ex → St → Option R) : ∀ n : Nat, (∀ x3 x4 x5 x6, iter (exc E212 (it212 N) (loopOf Try.f212 6)) (canon (E212.keep 6))  n (tabl [(0, (.v (.v false [(.i .u32 x3)]))), (2, (.v (.v false [(.s x4)]))), (10, (.v (.v false [(.i .i64 x5)]))), (12, (.v (.v false [(.i .i64 x6)])))]) K = Pu.spec_SumMore.l6 N (fun y0 y1 y2 y3 => (K (.exit 2) (tabl [(0, (.v (.v false [(.i .u32 y0)]))), (2, (.v (.v false [(.s y1)]))), (10, (.v (.v false [(.i .i64 y2)]))), (12, (.v (.v false [(.i .i64 y3)])))]))) n x3 x4 x5 x6) := by
  intro n
  induction n with
  | zero => exact (fun _ _ _ _ => rfl)
  | succ n ih =>
    have e0 : (fun x3 x4 x5 x6 => iter (exc E212 (it212 N) (loopOf Try.f212 6)) (canon (E212.keep 6))  n (tabl [(0, (.v (.v false [(.i .u32 x3)]))), (2, (.v (.v false [(.s x4)]))), (10, (.v (.v false [(.i .i64 x5)]))), (12, (.v (.v false [(.i .i64 x6)])))]) K) = Pu.spec_SumMore.l6 N (fun y0 y1 y2 y3 => (K (.exit 2) (tabl [(0, (.v (.v false [(.i .u32 y0)]))), (2, (.v (.v false [(.s y1)]))), (10, (.v (.v false [(.i .i64 y2)]))), (12, (.v (.v false [(.i .i64 y3)])))]))) n := by funext x3 x4 x5 x6; exact ih x3 x4 x5 x6
    intro x3 x4 x5 x6
    have h : ∀ g, exc E212 (it212 N) (loopOf Try.f212 6) (tabl [(0, (.v (.v false [(.i .u32 x3)]))), (2, (.v (.v false [(.s x4)]))), (10, (.v (.v false [(.i .i64 x5)]))), (12, (.v (.v false [(.i .i64 x6)])))]) (iterK g (canon (E212.keep 6)) K) = Pu.spec_SumMore.r6 N (fun x3 x4 x5 x6 => (g (tabl [(0, (.v (.v false [(.i .u32 x3)]))), (2, (.v (.v false [(.s x4)]))), (10, (.v (.v false [(.i .i64 x5)]))), (12, (.v (.v false [(.i .i64 x6)])))]))) (fun y0 y1 y2 y3 => (K (.exit 2) (tabl [(0, (.v (.v false [(.i .u32 y0)]))), (2, (.v (.v false [(.s y1)]))), (10, (.v (.v false [(.i .i64 y2)]))), (12, (.v (.v false [(.i .i64 y3)])))]))) x3 x4 x5 x6 := by intro g; kernel_rfl
    refine (iter_succ _ _ n _ K).trans ((h _).trans ?_)
    show Pu.spec_SumMore.r6 N (fun x3 x4 x5 x6 => (iter (exc E212 (it212 N) (loopOf Try.f212 6)) (canon (E212.keep 6))  n (tabl [(0, (.v (.v false [(.i .u32 x3)]))), (2, (.v (.v false [(.s x4)]))), (10, (.v (.v false [(.i .i64 x5)]))), (12, (.v (.v false [(.i .i64 x6)])))]) K)) (fun y0 y1 y2 y3 => (K (.exit 2) (tabl [(0, (.v (.v false [(.i .u32 y0)]))), (2, (.v (.v false [(.s y1)]))), (10, (.v (.v false [(.i .i64 y2)]))), (12, (.v (.v false [(.i .i64 y3)])))]))) x3 x4 x5 x6 = _
    rw [e0]; rfl
theorem lo212_6 {R : Type} (N : Nat) : LoopOk E212 (it212 N (R := R)) (loopOf Try.f212 6) := by
  have e : firstRid (loopOf Try.f212 6) = 6 := by kernel_rfl
  intro L K r
  rw [e]
  intro h
  unfold it212 at h
  simp only [show Nat.beq 6 2 = false from rfl, show Nat.beq 6 6 = true from rfl, cond_false, cond_true] at h
  refine tell_ok (Q := fun L => ∃ n, iter (exc E212 (it212 N) (loopOf Try.f212 6)) (canon (E212.keep 6)) n (tabl L) K = some r) h (fun xs h => ?_) (fun h => ?_)
  · (try dsimp only at h)
    split at h
    · exact ⟨N, ((e212_6 N K N) _ _ _ _).trans h⟩
    · cases h
  cases h
def sp212 : List Arg → Option (Bool × Res)
  | [(.v false [(.i .u32 sum0)]), (.v false [(.s text1)])] => some (Pu.spec_SumMore.c sum0 text1, ⟨[(.v false [(.i .u32 (Pu.spec_SumMore.v sum0 text1))])], []⟩)
  | _ => none
theorem ok212 : FnOk Try.prog T 212 sp212 := by
  refine fn_ok (E := E212) hE call_nil hM Try.func212 (code := (Try.f212.body.getD .skip)) (by kernel_rfl) (by kernel_rfl) ?_
  have key : ∀ (sum0 : Int) (text1 : ByteArray), Pu.spec_SumMore.c sum0 text1 = true → ∃ it : It Res, (∀ c ∈ loopsOf (Try.f212.body.getD .skip), LoopOk E212 it c) ∧ body E212 it Try.f212 [(.v false [(.i .u32 sum0)]), (.v false [(.s text1)])] = some ⟨[(.v false [(.i .u32 (Pu.spec_SumMore.v sum0 text1))])], []⟩ := by
    intro sum0 text1  h1
    obtain ⟨N, hN⟩ := Pu.spec_SumMore.b_eq (R := Res) (fun r0 => some ⟨[(.v false [(.i .u32 r0)])], []⟩) sum0 text1 h1
    have hl : loopsOf (Try.f212.body.getD .skip) = [loopOf Try.f212 2, loopOf Try.f212 6] := by kernel_rfl
    refine ⟨it212 N, by rw [hl]; exact (loops_cons (lo212_2 N) (loops_cons (lo212_6 N) loops_nil)), ?_⟩
    refine Eq.trans (show body E212 (it212 N) Try.f212 [(.v false [(.i .u32 sum0)]), (.v false [(.s text1)])] = Pu.spec_SumMore.b N (fun r0 => some ⟨[(.v false [(.i .u32 r0)])], []⟩) sum0 text1 by kernel_rfl) hN
  intro args r h
  unfold sp212 at h
  split at h
  · injection h with h
    injection h with h1 h2
    subst h2
    exact ⟨by kernel_rfl, fun hf => ⟨of_decide_eq_true (by kernel_rfl), key _ _ h1⟩⟩
  · cases h

end Go.FG.Se

namespace Go.FG.Se
open Go.Proofs
def E152 : Env := { toTab := T, call := Go.FG.callIn [(212, sp212)], mode := Go.FG.modeIn md, keep := Go.FG.keepIn [], tk := fun n => Go.FG.memB n [], om := Go.FG.omIn [] }
def sp152 : List Arg → Option (Bool × Res)
  | [(.v false [(.s text0)])] => some (Pu.spec_SumOf.c text0, ⟨[(.v false [(.i .u32 (Pu.spec_SumOf.v text0))])], []⟩)
  | _ => none
theorem ok152 : FnOk Try.prog T 152 sp152 := by
  refine fn_ok (E := E152) hE (call_cons ok212 call_nil) hM Try.func152 (code := (Try.f152.body.getD .skip)) (by kernel_rfl) (by kernel_rfl) ?_
  have key : ∀ (text0 : ByteArray), Pu.spec_SumOf.c text0 = true → ∃ it : It Res, (∀ c ∈ loopsOf (Try.f152.body.getD .skip), LoopOk E152 it c) ∧ body E152 it Try.f152 [(.v false [(.s text0)])] = some ⟨[(.v false [(.i .u32 (Pu.spec_SumOf.v text0))])], []⟩ := by
    intro text0  h1
    have hN := Pu.spec_SumOf.b_eq (R := Res) (fun r0 => some ⟨[(.v false [(.i .u32 r0)])], []⟩) text0 h1
    have hl : loopsOf (Try.f152.body.getD .skip) = [] := by kernel_rfl
    refine ⟨iterN 0, by rw [hl]; exact loops_nil, ?_⟩
    refine Eq.trans (show body E152 (iterN 0) Try.f152 [(.v false [(.s text0)])] = Pu.spec_SumOf.b (fun r0 => some ⟨[(.v false [(.i .u32 r0)])], []⟩) text0 by kernel_rfl) hN
  intro args r h
  unfold sp152 at h
  split at h
  · injection h with h
    injection h with h1 h2
    subst h2
    exact ⟨by kernel_rfl, fun hf => ⟨of_decide_eq_true (by kernel_rfl), key _ h1⟩⟩
  · cases h

end Go.FG.Se

namespace Go.FG.Se
open Go.Proofs
def E188 : Env := { toTab := T, call := Go.FG.callIn [(152, sp152)], mode := Go.FG.modeIn md, keep := Go.FG.keepIn [], tk := fun n => Go.FG.memB n [], om := Go.FG.omIn [] }
def sp188 : List Arg → Option (Bool × Res)
  | [(.v false [(.i .i64 row0)]), (.v false [(.s key1)])] => some (Pu.spec_SketchPlace.c row0 key1, ⟨[(.v false [(.i .i64 (Pu.spec_SketchPlace.v row0 key1))])], []⟩)
  | _ => none
theorem ok188 : FnOk Try.prog T 188 sp188 := by
  refine fn_ok (E := E188) hE (call_cons ok152 call_nil) hM Try.func188 (code := (Try.f188.body.getD .skip)) (by kernel_rfl) (by kernel_rfl) ?_
  have key : ∀ (row0 : Int) (key1 : ByteArray), Pu.spec_SketchPlace.c row0 key1 = true → ∃ it : It Res, (∀ c ∈ loopsOf (Try.f188.body.getD .skip), LoopOk E188 it c) ∧ body E188 it Try.f188 [(.v false [(.i .i64 row0)]), (.v false [(.s key1)])] = some ⟨[(.v false [(.i .i64 (Pu.spec_SketchPlace.v row0 key1))])], []⟩ := by
    intro row0 key1  h1
    have hN := Pu.spec_SketchPlace.b_eq (R := Res) (fun r0 => some ⟨[(.v false [(.i .i64 r0)])], []⟩) row0 key1 h1
    have hl : loopsOf (Try.f188.body.getD .skip) = [] := by kernel_rfl
    refine ⟨iterN 0, by rw [hl]; exact loops_nil, ?_⟩
    refine Eq.trans (show body E188 (iterN 0) Try.f188 [(.v false [(.i .i64 row0)]), (.v false [(.s key1)])] = Pu.spec_SketchPlace.b (fun r0 => some ⟨[(.v false [(.i .i64 r0)])], []⟩) row0 key1 by kernel_rfl) hN
  intro args r h
  unfold sp188 at h
  split at h
  · injection h with h
    injection h with h1 h2
    subst h2
    exact ⟨by kernel_rfl, fun hf => ⟨of_decide_eq_true (by kernel_rfl), key _ _ h1⟩⟩
  · cases h

end Go.FG.Se

namespace Go.FG.Se
open Go.Proofs
def E102 : Env := { toTab := T, call := Go.FG.callIn [(186, sp186), (187, sp187), (188, sp188)], mode := Go.FG.modeIn md, keep := Go.FG.keepIn [(5, [1, 4, 5, 6]), (14, [4, 5, 8]), (17, [4, 5, 8, 9])], tk := fun n => Go.FG.memB n [], om := Go.FG.omIn [] }
def it102 (N : Nat) {R : Type} : It R := fun rid f cn L K => bif Nat.beq rid 5 then (tell [(2, (.v (.v false [(.s ⟨#[]⟩)]))), (8, (.v (.v false [(.bp 0 0)]))), (10, (.v (.v false [(.bp 1 0)]))), (12, (.v (.v false [(.i .i64 0)]))), (1, (.o (.box [.nl, (.i .i64 0)]))), (3, (.o (.box [(.own 2), (.i .i64 0)]))), (5, (.o (.row 30 true [])))] (fun | [.S x0, .I x1, .I x2, .I x3, .R x4] => Pu.spec_SketchBump.l5 N (fun y0 y1 y2 y3 y4 => (K (.exit 0) (tabl [(2, (.v (.v false [(.s y0)]))), (8, (.v (.v false [(.bp 0 0)]))), (10, (.v (.v false [(.bp 1 0)]))), (12, (.v (.v false [(.i .i64 y1)]))), (1, (.o (.box [.nl, (.i .i64 y2)]))), (3, (.o (.box [(.own 2), (.i .i64 y3)]))), (5, (.o (.row 30 true y4)))]))) N x0 x1 x2 x3 x4 | _ => none) L (none)) else bif Nat.beq rid 14 then (tell [(8, (.v (.v false [(.bp 0 0)]))), (10, (.v (.v false [(.bp 1 0)]))), (16, (.v (.v false [(.i .i64 0)]))), (1, (.o (.box [.nl, (.i .i64 0)]))), (3, (.o (.box [(.own 2), (.i .i64 0)]))), (5, (.o (.row 30 true [])))] (fun | [.I x10, .I x11, .I x12, .R x13] => Pu.spec_SketchBump.l14 N (fun y0 y1 y2 y3 => (K (.exit 2) (tabl [(8, (.v (.v false [(.bp 0 0)]))), (10, (.v (.v false [(.bp 1 0)]))), (16, (.v (.v false [(.i .i64 y0)]))), (1, (.o (.box [.nl, (.i .i64 y1)]))), (3, (.o (.box [(.own 2), (.i .i64 y2)]))), (5, (.o (.row 30 true y3)))]))) N x10 x11 x12 x13 | _ => none) L (none)) else bif Nat.beq rid 17 then (tell [(8, (.v (.v false [(.bp 0 0)]))), (10, (.v (.v false [(.bp 1 0)]))), (16, (.v (.v false [(.i .i64 0)]))), (18, (.v (.v false [(.i .i64 0)]))), (1, (.o (.box [.nl, (.i .i64 0)]))), (3, (.o (.box [(.own 2), (.i .i64 0)]))), (5, (.o (.row 30 true [])))] (fun | [.I x14, .I x15, .I x16, .I x17, .R x18] => Pu.spec_SketchBump.l17 N (fun y0 y1 y2 y3 y4 => (K (.exit 4) (tabl [(8, (.v (.v false [(.bp 0 0)]))), (10, (.v (.v false [(.bp 1 0)]))), (16, (.v (.v false [(.i .i64 y0)]))), (18, (.v (.v false [(.i .i64 y1)]))), (1, (.o (.box [.nl, (.i .i64 y2)]))), (3, (.o (.box [(.own 2), (.i .i64 y3)]))), (5, (.o (.row 30 true y4)))]))) N x14 x15 x16 x17 x18 | _ => none) L (none)) else none
theorem e102_5 {R : Type} (N : Nat) (K : Ex → St → Option R) : ∀ n : Nat, (∀ x0 x1 x2 x3 x4, iter (exc E102 (it102 N) (loopOf Try.f102 5)) (canon (E102.keep 5))  n (tabl [(2, (.v (.v false [(.s x0)]))), (8, (.v (.v false [(.bp 0 0)]))), (10, (.v (.v false [(.bp 1 0)]))), (12, (.v (.v false [(.i .i64 x1)]))), (1, (.o (.box [.nl, (.i .i64 x2)]))), (3, (.o (.box [(.own 2), (.i .i64 x3)]))), (5, (.o (.row 30 true x4)))]) K = Pu.spec_SketchBump.l5 N (fun y0 y1 y2 y3 y4 => (K (.exit 0) (tabl [(2, (.v (.v false [(.s y0)]))), (8, (.v (.v false [(.bp 0 0)]))), (10, (.v (.v false [(.bp 1 0)]))), (12, (.v (.v false [(.i .i64 y1)]))), (1, (.o (.box [.nl, (.i .i64 y2)]))), (3, (.o (.box [(.own 2), (.i .i64 y3)]))), (5, (.o (.row 30 true y4)))]))) n x0 x1 x2 x3 x4) := by
  intro n
  induction n with
  | zero => exact (fun _ _ _ _ _ => rfl)
  | succ n ih =>
    have e0 : (fun x0 x1 x2 x3 x4 => iter (exc E102 (it102 N) (loopOf Try.f102 5)) (canon (E102.keep 5))  n (tabl [(2, (.v (.v false [(.s x0)]))), (8, (.v (.v false [(.bp 0 0)]))), (10, (.v (.v false [(.bp 1 0)]))), (12, (.v (.v false [(.i .i64 x1)]))), (1, (.o (.box [.nl, (.i .i64 x2)]))), (3, (.o (.box [(.own 2), (.i .i64 x3)]))), (5, (.o (.row 30 true x4)))]) K) = Pu.spec_SketchBump.l5 N (fun y0 y1 y2 y3 y4 => (K (.exit 0) (tabl [(2, (.v (.v false [(.s y0)]))), (8, (.v (.v false [(.bp 0 0)]))), (10, (.v (.v false [(.bp 1 0)]))), (12, (.v (.v false [(.i .i64 y1)]))), (1, (.o (.box [.nl, (.i .i64 y2)]))), (3, (.o (.box [(.own 2), (.i .i64 y3)]))), (5, (.o (.row 30 true y4)))]))) n := by funext x0 x1 x2 x3 x4; exact ih x0 x1 x2 x3 x4
    intro x0 x1 x2 x3 x4
    have h : ∀ g, exc E102 (it102 N) (loopOf Try.f102 5) (tabl [(2, (.v (.v false [(.s x0)]))), (8, (.v (.v false [(.bp 0 0)]))), (10, (.v (.v false [(.bp 1 0)]))), (12, (.v (.v false [(.i .i64 x1)]))), (1, (.o (.box [.nl, (.i .i64 x2)]))), (3, (.o (.box [(.own 2), (.i .i64 x3)]))), (5, (.o (.row 30 true x4)))]) (iterK g (canon (E102.keep 5)) K) = Pu.spec_SketchBump.r5 N (fun x0 x1 x2 x3 x4 => (g (tabl [(2, (.v (.v false [(.s x0)]))), (8, (.v (.v false [(.bp 0 0)]))), (10, (.v (.v false [(.bp 1 0)]))), (12, (.v (.v false [(.i .i64 x1)]))), (1, (.o (.box [.nl, (.i .i64 x2)]))), (3, (.o (.box [(.own 2), (.i .i64 x3)]))), (5, (.o (.row 30 true x4)))]))) (fun y0 y1 y2 y3 y4 => (K (.exit 0) (tabl [(2, (.v (.v false [(.s y0)]))), (8, (.v (.v false [(.bp 0 0)]))), (10, (.v (.v false [(.bp 1 0)]))), (12, (.v (.v false [(.i .i64 y1)]))), (1, (.o (.box [.nl, (.i .i64 y2)]))), (3, (.o (.box [(.own 2), (.i .i64 y3)]))), (5, (.o (.row 30 true y4)))]))) x0 x1 x2 x3 x4 := by intro g; kernel_rfl
    refine (iter_succ _ _ n _ K).trans ((h _).trans ?_)
    show Pu.spec_SketchBump.r5 N (fun x0 x1 x2 x3 x4 => (iter (exc E102 (it102 N) (loopOf Try.f102 5)) (canon (E102.keep 5))  n (tabl [(2, (.v (.v false [(.s x0)]))), (8, (.v (.v false [(.bp 0 0)]))), (10, (.v (.v false [(.bp 1 0)]))), (12, (.v (.v false [(.i .i64 x1)]))), (1, (.o (.box [.nl, (.i .i64 x2)]))), (3, (.o (.box [(.own 2), (.i .i64 x3)]))), (5, (.o (.row 30 true x4)))]) K)) (fun y0 y1 y2 y3 y4 => (K (.exit 0) (tabl [(2, (.v (.v false [(.s y0)]))), (8, (.v (.v false [(.bp 0 0)]))), (10, (.v (.v false [(.bp 1 0)]))), (12, (.v (.v false [(.i .i64 y1)]))), (1, (.o (.box [.nl, (.i .i64 y2)]))), (3, (.o (.box [(.own 2), (.i .i64 y3)]))), (5, (.o (.row 30 true y4)))]))) x0 x1 x2 x3 x4 = _
    rw [e0]; rfl
theorem lo102_5 {R : Type} (N : Nat) : LoopOk E102 (it102 N (R := R)) (loopOf Try.f102 5) := by
  have e : firstRid (loopOf Try.f102 5) = 5 := by kernel_rfl
  intro L K r
  rw [e]
  intro h
  unfold it102 at h
  simp only [show Nat.beq 5 5 = true from rfl, cond_false, cond_true] at h
  refine tell_ok (Q := fun L => ∃ n, iter (exc E102 (it102 N) (loopOf Try.f102 5)) (canon (E102.keep 5)) n (tabl L) K = some r) h (fun xs h => ?_) (fun h => ?_)
  · (try dsimp only at h)
    split at h
    · exact ⟨N, ((e102_5 N K N) _ _ _ _ _).trans h⟩
    · cases h
  cases h
theorem e102_14 {R : Type} (N : Nat) (K : Ex → St → Option R) : ∀ n : Nat, (∀ x10 x11 x12 x13, iter (exc E102 (it102 N) (loopOf Try.f102 14)) (canon (E102.keep 14))  n (tabl [(8, (.v (.v false [(.bp 0 0)]))), (10, (.v (.v false [(.bp 1 0)]))), (16, (.v (.v false [(.i .i64 x10)]))), (1, (.o (.box [.nl, (.i .i64 x11)]))), (3, (.o (.box [(.own 2), (.i .i64 x12)]))), (5, (.o (.row 30 true x13)))]) K = Pu.spec_SketchBump.l14 N (fun y0 y1 y2 y3 => (K (.exit 2) (tabl [(8, (.v (.v false [(.bp 0 0)]))), (10, (.v (.v false [(.bp 1 0)]))), (16, (.v (.v false [(.i .i64 y0)]))), (1, (.o (.box [.nl, (.i .i64 y1)]))), (3, (.o (.box [(.own 2), (.i .i64 y2)]))), (5, (.o (.row 30 true y3)))]))) n x10 x11 x12 x13) := by
  intro n
  induction n with
  | zero => exact (fun _ _ _ _ => rfl)
  | succ n ih =>
    have e0 : (fun x10 x11 x12 x13 => iter (exc E102 (it102 N) (loopOf Try.f102 14)) (canon (E102.keep 14))  n (tabl [(8, (.v (.v false [(.bp 0 0)]))), (10, (.v (.v false [(.bp 1 0)]))), (16, (.v (.v false [(.i .i64 x10)]))), (1, (.o (.box [.nl, (.i .i64 x11)]))), (3, (.o (.box [(.own 2), (.i .i64 x12)]))), (5, (.o (.row 30 true x13)))]) K) = Pu.spec_SketchBump.l14 N (fun y0 y1 y2 y3 => (K (.exit 2) (tabl [(8, (.v (.v false [(.bp 0 0)]))), (10, (.v (.v false [(.bp 1 0)]))), (16, (.v (.v false [(.i .i64 y0)]))), (1, (.o (.box [.nl, (.i .i64 y1)]))), (3, (.o (.box [(.own 2), (.i .i64 y2)]))), (5, (.o (.row 30 true y3)))]))) n := by funext x10 x11 x12 x13; exact ih x10 x11 x12 x13
    intro x10 x11 x12 x13
    have h : ∀ g, exc E102 (it102 N) (loopOf Try.f102 14) (tabl [(8, (.v (.v false [(.bp 0 0)]))), (10, (.v (.v false [(.bp 1 0)]))), (16, (.v (.v false [(.i .i64 x10)]))), (1, (.o (.box [.nl, (.i .i64 x11)]))), (3, (.o (.box [(.own 2), (.i .i64 x12)]))), (5, (.o (.row 30 true x13)))]) (iterK g (canon (E102.keep 14)) K) = Pu.spec_SketchBump.r14 N (fun x10 x11 x12 x13 => (g (tabl [(8, (.v (.v false [(.bp 0 0)]))), (10, (.v (.v false [(.bp 1 0)]))), (16, (.v (.v false [(.i .i64 x10)]))), (1, (.o (.box [.nl, (.i .i64 x11)]))), (3, (.o (.box [(.own 2), (.i .i64 x12)]))), (5, (.o (.row 30 true x13)))]))) (fun y0 y1 y2 y3 => (K (.exit 2) (tabl [(8, (.v (.v false [(.bp 0 0)]))), (10, (.v (.v false [(.bp 1 0)]))), (16, (.v (.v false [(.i .i64 y0)]))), (1, (.o (.box [.nl, (.i .i64 y1)]))), (3, (.o (.box [(.own 2), (.i .i64 y2)]))), (5, (.o (.row 30 true y3)))]))) x10 x11 x12 x13 := by intro g; kernel_rfl
    refine (iter_succ _ _ n _ K).trans ((h _).trans ?_)
    show Pu.spec_SketchBump.r14 N (fun x10 x11 x12 x13 => (iter (exc E102 (it102 N) (loopOf Try.f102 14)) (canon (E102.keep 14))  n (tabl [(8, (.v (.v false [(.bp 0 0)]))), (10, (.v (.v false [(.bp 1 0)]))), (16, (.v (.v false [(.i .i64 x10)]))), (1, (.o (.box [.nl, (.i .i64 x11)]))), (3, (.o (.box [(.own 2), (.i .i64 x12)]))), (5, (.o (.row 30 true x13)))]) K)) (fun y0 y1 y2 y3 => (K (.exit 2) (tabl [(8, (.v (.v false [(.bp 0 0)]))), (10, (.v (.v false [(.bp 1 0)]))), (16, (.v (.v false [(.i .i64 y0)]))), (1, (.o (.box [.nl, (.i .i64 y1)]))), (3, (.o (.box [(.own 2), (.i .i64 y2)]))), (5, (.o (.row 30 true y3)))]))) x10 x11 x12 x13 = _
    rw [e0]; rfl
theorem lo102_14 {R : Type} (N : Nat) : LoopOk E102 (it102 N (R := R)) (loopOf Try.f102 14) := by
  have e : firstRid (loopOf Try.f102 14) = 14 := by kernel_rfl
  intro L K r
  rw [e]
  intro h
  unfold it102 at h
  simp only [show Nat.beq 14 5 = false from rfl, show Nat.beq 14 14 = true from rfl, cond_false, cond_true] at h
  refine tell_ok (Q := fun L => ∃ n, iter (exc E102 (it102 N) (loopOf Try.f102 14)) (canon (E102.keep 14)) n (tabl L) K = some r) h (fun xs h => ?_) (fun h => ?_)
  · (try dsimp only at h)
    split at h
    · exact ⟨N, ((e102_14 N K N) _ _ _ _).trans h⟩
    · cases h
  cases h
theorem e102_17 {R : Type} (N : Nat) (K : Ex → St → Option R) : ∀ n : Nat, (∀ x14 x15 x16 x17 x18, iter (exc E102 (it102 N) (loopOf Try.f102 17)) (canon (E102.keep 17))  n (tabl [(8, (.v (.v false [(.bp 0 0)]))), (10, (.v (.v false [(.bp 1 0)]))), (16, (.v (.v false [(.i .i64 x14)]))), (18, (.v (.v false [(.i .i64 x15)]))), (1, (.o (.box [.nl, (.i .i64 x16)]))), (3, (.o (.box [(.own 2), (.i .i64 x17)]))), (5, (.o (.row 30 true x18)))]) K = Pu.spec_SketchBump.l17 N (fun y0 y1 y2 y3 y4 => (K (.exit 4) (tabl [(8, (.v (.v false [(.bp 0 0)]))), (10, (.v (.v false [(.bp 1 0)]))), (16, (.v (.v false [(.i .i64 y0)]))), (18, (.v (.v false [(.i .i64 y1)]))), (1, (.o (.box [.nl, (.i .i64 y2)]))), (3, (.o (.box [(.own 2), (.i .i64 y3)]))), (5, (.o (.row 30 true y4)))]))) n x14 x15 x16 x17 x18) := by
  intro n
  induction n with
  | zero => exact (fun _ _ _ _ _ => rfl)
  | succ n ih =>
    have e0 : (fun x14 x15 x16 x17 x18 => iter (exc E102 (it102 N) (loopOf Try.f102 17)) (canon (E102.keep 17))  n (tabl [(8, (.v (.v false [(.bp 0 0)]))), (10, (.v (.v false [(.bp 1 0)]))), (16, (.v (.v false [(.i .i64 x14)]))), (18, (.v (.v false [(.i .i64 x15)]))), (1, (.o (.box [.nl, (.i .i64 x16)]))), (3, (.o (.box [(.own 2), (.i .i64 x17)]))), (5, (.o (.row 30 true x18)))]) K) = Pu.spec_SketchBump.l17 N (fun y0 y1 y2 y3 y4 => (K (.exit 4) (tabl [(8, (.v (.v false [(.bp 0 0)]))), (10, (.v (.v false [(.bp 1 0)]))), (16, (.v (.v false [(.i .i64 y0)]))), (18, (.v (.v false [(.i .i64 y1)]))), (1, (.o (.box [.nl, (.i .i64 y2)]))), (3, (.o (.box [(.own 2), (.i .i64 y3)]))), (5, (.o (.row 30 true y4)))]))) n := by funext x14 x15 x16 x17 x18; exact ih x14 x15 x16 x17 x18
    intro x14 x15 x16 x17 x18
    have h : ∀ g, exc E102 (it102 N) (loopOf Try.f102 17) (tabl [(8, (.v (.v false [(.bp 0 0)]))), (10, (.v (.v false [(.bp 1 0)]))), (16, (.v (.v false [(.i .i64 x14)]))), (18, (.v (.v false [(.i .i64 x15)]))), (1, (.o (.box [.nl, (.i .i64 x16)]))), (3, (.o (.box [(.own 2), (.i .i64 x17)]))), (5, (.o (.row 30 true x18)))]) (iterK g (canon (E102.keep 17)) K) = Pu.spec_SketchBump.r17 N (fun x14 x15 x16 x17 x18 => (g (tabl [(8, (.v (.v false [(.bp 0 0)]))), (10, (.v (.v false [(.bp 1 0)]))), (16, (.v (.v false [(.i .i64 x14)]))), (18, (.v (.v false [(.i .i64 x15)]))), (1, (.o (.box [.nl, (.i .i64 x16)]))), (3, (.o (.box [(.own 2), (.i .i64 x17)]))), (5, (.o (.row 30 true x18)))]))) (fun y0 y1 y2 y3 y4 => (K (.exit 4) (tabl [(8, (.v (.v false [(.bp 0 0)]))), (10, (.v (.v false [(.bp 1 0)]))), (16, (.v (.v false [(.i .i64 y0)]))), (18, (.v (.v false [(.i .i64 y1)]))), (1, (.o (.box [.nl, (.i .i64 y2)]))), (3, (.o (.box [(.own 2), (.i .i64 y3)]))), (5, (.o (.row 30 true y4)))]))) x14 x15 x16 x17 x18 := by intro g; kernel_rfl
    refine (iter_succ _ _ n _ K).trans ((h _).trans ?_)
    show Pu.spec_SketchBump.r17 N (fun x14 x15 x16 x17 x18 => (iter (exc E102 (it102 N) (loopOf Try.f102 17)) (canon (E102.keep 17))  n (tabl [(8, (.v (.v false [(.bp 0 0)]))), (10, (.v (.v false [(.bp 1 0)]))), (16, (.v (.v false [(.i .i64 x14)]))), (18, (.v (.v false [(.i .i64 x15)]))), (1, (.o (.box [.nl, (.i .i64 x16)]))), (3, (.o (.box [(.own 2), (.i .i64 x17)]))), (5, (.o (.row 30 true x18)))]) K)) (fun y0 y1 y2 y3 y4 => (K (.exit 4) (tabl [(8, (.v (.v false [(.bp 0 0)]))), (10, (.v (.v false [(.bp 1 0)]))), (16, (.v (.v false [(.i .i64 y0)]))), (18, (.v (.v false [(.i .i64 y1)]))), (1, (.o (.box [.nl, (.i .i64 y2)]))), (3, (.o (.box [(.own 2), (.i .i64 y3)]))), (5, (.o (.row 30 true y4)))]))) x14 x15 x16 x17 x18 = _
    rw [e0]; rfl
theorem lo102_17 {R : Type} (N : Nat) : LoopOk E102 (it102 N (R := R)) (loopOf Try.f102 17) := by
  have e : firstRid (loopOf Try.f102 17) = 17 := by kernel_rfl
  intro L K r
  rw [e]
  intro h
  unfold it102 at h
  simp only [show Nat.beq 17 5 = false from rfl, show Nat.beq 17 14 = false from rfl, show Nat.beq 17 17 = true from rfl, cond_false, cond_true] at h
  refine tell_ok (Q := fun L => ∃ n, iter (exc E102 (it102 N) (loopOf Try.f102 17)) (canon (E102.keep 17)) n (tabl L) K = some r) h (fun xs h => ?_) (fun h => ?_)
  · (try dsimp only at h)
    split at h
    · exact ⟨N, ((e102_17 N K N) _ _ _ _ _).trans h⟩
    · cases h
  cases h
def sp102 : List Arg → Option (Bool × Res)
  | [(.v true [(.sh 30 s0_0), (.i .i64 s0_1)]), (.v false [(.s key1)])] => some (Pu.spec_SketchBump.c s0_0 s0_1 key1, ⟨[(.v true [(.ow 30 true ((Pu.spec_SketchBump.v s0_0 s0_1 key1).1)), (.i .i64 ((Pu.spec_SketchBump.v s0_0 s0_1 key1).2))])], []⟩)
  | _ => none
theorem ok102 : FnOk Try.prog T 102 sp102 := by
  refine fn_ok (E := E102) hE (call_cons ok186 (call_cons ok187 (call_cons ok188 call_nil))) hM Try.func102 (code := (Try.f102.body.getD .skip)) (by kernel_rfl) (by kernel_rfl) ?_
  have key : ∀ (s0_0 : Row) (s0_1 : Int) (key1 : ByteArray), Pu.spec_SketchBump.c s0_0 s0_1 key1 = true → ∃ it : It Res, (∀ c ∈ loopsOf (Try.f102.body.getD .skip), LoopOk E102 it c) ∧ body E102 it Try.f102 [(.v true [(.sh 30 s0_0), (.i .i64 s0_1)]), (.v false [(.s key1)])] = some ⟨[(.v true [(.ow 30 true ((Pu.spec_SketchBump.v s0_0 s0_1 key1).1)), (.i .i64 ((Pu.spec_SketchBump.v s0_0 s0_1 key1).2))])], []⟩ := by
    intro s0_0 s0_1 key1  h1
    obtain ⟨N, hN⟩ := Pu.spec_SketchBump.b_eq (R := Res) (fun r0 r1 => some ⟨[(.v true [(.ow 30 true r0), (.i .i64 r1)])], []⟩) s0_0 s0_1 key1 h1
    have hl : loopsOf (Try.f102.body.getD .skip) = [loopOf Try.f102 5, loopOf Try.f102 14, loopOf Try.f102 17] := by kernel_rfl
    refine ⟨it102 N, by rw [hl]; exact (loops_cons (lo102_5 N) (loops_cons (lo102_14 N) (loops_cons (lo102_17 N) loops_nil))), ?_⟩
    refine Eq.trans (show body E102 (it102 N) Try.f102 [(.v true [(.sh 30 s0_0), (.i .i64 s0_1)]), (.v false [(.s key1)])] = Pu.spec_SketchBump.b N (fun r0 r1 => some ⟨[(.v true [(.ow 30 true r0), (.i .i64 r1)])], []⟩) s0_0 s0_1 key1 by kernel_rfl) hN
  intro args r h
  unfold sp102 at h
  split at h
  · injection h with h
    injection h with h1 h2
    subst h2
    exact ⟨by kernel_rfl, fun hf => ⟨of_decide_eq_true (by kernel_rfl), key _ _ _ h1⟩⟩
  · cases h

end Go.FG.Se

namespace Go.FG.Se
open Go.Proofs
def E104 : Env := { toTab := T, call := Go.FG.callIn [], mode := Go.FG.modeIn md, keep := Go.FG.keepIn [(3, [0, 1, 5, 6])], tk := fun n => Go.FG.memB n [], om := Go.FG.omIn [] }
def it104 (N : Nat) {R : Type} : It R := fun rid f cn L K => bif Nat.beq rid 3 then (tell [(0, (.v (.v false [(.sh 9 [])]))), (2, (.v (.v false [(.s ⟨#[]⟩)]))), (10, (.v (.v false [(.own 0)]))), (12, (.v (.v false [(.i .i64 0)]))), (1, (.o (.row 9 true [])))] (fun | [.R x0, .S x1, .I x2, .R x3] => Pu.spec_l13Without.l3 N (fun y0 y1 y2 y3 => (K (.exit 0) (tabl [(0, (.v (.v false [(.sh 9 y0)]))), (2, (.v (.v false [(.s y1)]))), (10, (.v (.v false [(.own 0)]))), (12, (.v (.v false [(.i .i64 y2)]))), (1, (.o (.row 9 true y3)))]))) N x0 x1 x2 x3 | _ => none) L (none)) else none
theorem e104_3 {R : Type} (N : Nat) (K : Ex → St → Option R) : ∀ n : Nat, (∀ x0 x1 x2 x3, iter (exc E104 (it104 N) (loopOf Try.f104 3)) (canon (E104.keep 3))  n (tabl [(0, (.v (.v false [(.sh 9 x0)]))), (2, (.v (.v false [(.s x1)]))), (10, (.v (.v false [(.own 0)]))), (12, (.v (.v false [(.i .i64 x2)]))), (1, (.o (.row 9 true x3)))]) K = Pu.spec_l13Without.l3 N (fun y0 y1 y2 y3 => (K (.exit 0) (tabl [(0, (.v (.v false [(.sh 9 y0)]))), (2, (.v (.v false [(.s y1)]))), (10, (.v (.v false [(.own 0)]))), (12, (.v (.v false [(.i .i64 y2)]))), (1, (.o (.row 9 true y3)))]))) n x0 x1 x2 x3) := by
  intro n
  induction n with
  | zero => exact (fun _ _ _ _ => rfl)
  | succ n ih =>
    have e0 : (fun x0 x1 x2 x3 => iter (exc E104 (it104 N) (loopOf Try.f104 3)) (canon (E104.keep 3))  n (tabl [(0, (.v (.v false [(.sh 9 x0)]))), (2, (.v (.v false [(.s x1)]))), (10, (.v (.v false [(.own 0)]))), (12, (.v (.v false [(.i .i64 x2)]))), (1, (.o (.row 9 true x3)))]) K) = Pu.spec_l13Without.l3 N (fun y0 y1 y2 y3 => (K (.exit 0) (tabl [(0, (.v (.v false [(.sh 9 y0)]))), (2, (.v (.v false [(.s y1)]))), (10, (.v (.v false [(.own 0)]))), (12, (.v (.v false [(.i .i64 y2)]))), (1, (.o (.row 9 true y3)))]))) n := by funext x0 x1 x2 x3; exact ih x0 x1 x2 x3
    intro x0 x1 x2 x3
    have h : ∀ g, exc E104 (it104 N) (loopOf Try.f104 3) (tabl [(0, (.v (.v false [(.sh 9 x0)]))), (2, (.v (.v false [(.s x1)]))), (10, (.v (.v false [(.own 0)]))), (12, (.v (.v false [(.i .i64 x2)]))), (1, (.o (.row 9 true x3)))]) (iterK g (canon (E104.keep 3)) K) = Pu.spec_l13Without.r3 N (fun x0 x1 x2 x3 => (g (tabl [(0, (.v (.v false [(.sh 9 x0)]))), (2, (.v (.v false [(.s x1)]))), (10, (.v (.v false [(.own 0)]))), (12, (.v (.v false [(.i .i64 x2)]))), (1, (.o (.row 9 true x3)))]))) (fun y0 y1 y2 y3 => (K (.exit 0) (tabl [(0, (.v (.v false [(.sh 9 y0)]))), (2, (.v (.v false [(.s y1)]))), (10, (.v (.v false [(.own 0)]))), (12, (.v (.v false [(.i .i64 y2)]))), (1, (.o (.row 9 true y3)))]))) x0 x1 x2 x3 := by intro g; kernel_rfl
    refine (iter_succ _ _ n _ K).trans ((h _).trans ?_)
    show Pu.spec_l13Without.r3 N (fun x0 x1 x2 x3 => (iter (exc E104 (it104 N) (loopOf Try.f104 3)) (canon (E104.keep 3))  n (tabl [(0, (.v (.v false [(.sh 9 x0)]))), (2, (.v (.v false [(.s x1)]))), (10, (.v (.v false [(.own 0)]))), (12, (.v (.v false [(.i .i64 x2)]))), (1, (.o (.row 9 true x3)))]) K)) (fun y0 y1 y2 y3 => (K (.exit 0) (tabl [(0, (.v (.v false [(.sh 9 y0)]))), (2, (.v (.v false [(.s y1)]))), (10, (.v (.v false [(.own 0)]))), (12, (.v (.v false [(.i .i64 y2)]))), (1, (.o (.row 9 true y3)))]))) x0 x1 x2 x3 = _
    rw [e0]; rfl
theorem lo104_3 {R : Type} (N : Nat) : LoopOk E104 (it104 N (R := R)) (loopOf Try.f104 3) := by
  have e : firstRid (loopOf Try.f104 3) = 3 := by kernel_rfl
  intro L K r
  rw [e]
  intro h
  unfold it104 at h
  simp only [show Nat.beq 3 3 = true from rfl, cond_false, cond_true] at h
  refine tell_ok (Q := fun L => ∃ n, iter (exc E104 (it104 N) (loopOf Try.f104 3)) (canon (E104.keep 3)) n (tabl L) K = some r) h (fun xs h => ?_) (fun h => ?_)
  · (try dsimp only at h)
    split at h
    · exact ⟨N, ((e104_3 N K N) _ _ _ _).trans h⟩
    · cases h
  cases h
def sp104 : List Arg → Option (Bool × Res)
  | [(.v false [(.sh 9 list0)]), (.v false [(.s s1)])] => some (Pu.spec_l13Without.c list0 s1, ⟨[(.v false [(.ow 9 true (Pu.spec_l13Without.v list0 s1))])], []⟩)
  | _ => none
theorem ok104 : FnOk Try.prog T 104 sp104 := by
  refine fn_ok (E := E104) hE call_nil hM Try.func104 (code := (Try.f104.body.getD .skip)) (by kernel_rfl) (by kernel_rfl) ?_
  have key : ∀ (list0 : Row) (s1 : ByteArray), Pu.spec_l13Without.c list0 s1 = true → ∃ it : It Res, (∀ c ∈ loopsOf (Try.f104.body.getD .skip), LoopOk E104 it c) ∧ body E104 it Try.f104 [(.v false [(.sh 9 list0)]), (.v false [(.s s1)])] = some ⟨[(.v false [(.ow 9 true (Pu.spec_l13Without.v list0 s1))])], []⟩ := by
    intro list0 s1  h1
    obtain ⟨N, hN⟩ := Pu.spec_l13Without.b_eq (R := Res) (fun r0 => some ⟨[(.v false [(.ow 9 true r0)])], []⟩) list0 s1 h1
    have hl : loopsOf (Try.f104.body.getD .skip) = [loopOf Try.f104 3] := by kernel_rfl
    refine ⟨it104 N, by rw [hl]; exact (loops_cons (lo104_3 N) loops_nil), ?_⟩
    refine Eq.trans (show body E104 (it104 N) Try.f104 [(.v false [(.sh 9 list0)]), (.v false [(.s s1)])] = Pu.spec_l13Without.b N (fun r0 => some ⟨[(.v false [(.ow 9 true r0)])], []⟩) list0 s1 by kernel_rfl) hN
  intro args r h
  unfold sp104 at h
  split at h
  · injection h with h
    injection h with h1 h2
    subst h2
    exact ⟨by kernel_rfl, fun hf => ⟨of_decide_eq_true (by kernel_rfl), key _ _ h1⟩⟩
  · cases h

end Go.FG.Se

namespace Go.FG.Se
open Go.Proofs
def E105 : Env := { toTab := T, call := Go.FG.callIn [(187, sp187), (188, sp188)], mode := Go.FG.modeIn md, keep := Go.FG.keepIn [(5, [1, 2, 5, 6])], tk := fun n => Go.FG.memB n [], om := Go.FG.omIn [] }
def it105 (N : Nat) {R : Type} : It R := fun rid f cn L K => bif Nat.beq rid 5 then (tell [(2, (.v (.v false [(.s ⟨#[]⟩)]))), (4, (.v (.v false [(.bp 0 0)]))), (10, (.v (.v false [(.i .i64 0)]))), (12, (.v (.v false [(.i .i64 0)]))), (1, (.o (.box [(.sh 30 []), (.i .i64 0)])))] (fun | [.S x0, .I x1, .I x2, .R x3, .I x4] => Pu.spec_SketchGuess.l5 N (fun y0 y1 y2 y3 y4 => (K (.exit 0) (tabl [(2, (.v (.v false [(.s y0)]))), (4, (.v (.v false [(.bp 0 0)]))), (10, (.v (.v false [(.i .i64 y1)]))), (12, (.v (.v false [(.i .i64 y2)]))), (1, (.o (.box [(.sh 30 y3), (.i .i64 y4)])))]))) N x0 x1 x2 x3 x4 | _ => none) L (none)) else none
theorem e105_5 {R : Type} (N : Nat) (K : Ex → St → Option R) : ∀ n : Nat, (∀ x0 x1 x2 x3 x4, iter (exc E105 (it105 N) (loopOf Try.f105 5)) (canon (E105.keep 5))  n (tabl [(2, (.v (.v false [(.s x0)]))), (4, (.v (.v false [(.bp 0 0)]))), (10, (.v (.v false [(.i .i64 x1)]))), (12, (.v (.v false [(.i .i64 x2)]))), (1, (.o (.box [(.sh 30 x3), (.i .i64 x4)])))]) K = Pu.spec_SketchGuess.l5 N (fun y0 y1 y2 y3 y4 => (K (.exit 0) (tabl [(2, (.v (.v false [(.s y0)]))), (4, (.v (.v false [(.bp 0 0)]))), (10, (.v (.v false [(.i .i64 y1)]))), (12, (.v (.v false [(.i .i64 y2)]))), (1, (.o (.box [(.sh 30 y3), (.i .i64 y4)])))]))) n x0 x1 x2 x3 x4) := by
  intro n
  induction n with
  | zero => exact (fun _ _ _ _ _ => rfl)
  | succ n ih =>
    have e0 : (fun x0 x1 x2 x3 x4 => iter (exc E105 (it105 N) (loopOf Try.f105 5)) (canon (E105.keep 5))  n (tabl [(2, (.v (.v false [(.s x0)]))), (4, (.v (.v false [(.bp 0 0)]))), (10, (.v (.v false [(.i .i64 x1)]))), (12, (.v (.v false [(.i .i64 x2)]))), (1, (.o (.box [(.sh 30 x3), (.i .i64 x4)])))]) K) = Pu.spec_SketchGuess.l5 N (fun y0 y1 y2 y3 y4 => (K (.exit 0) (tabl [(2, (.v (.v false [(.s y0)]))), (4, (.v (.v false [(.bp 0 0)]))), (10, (.v (.v false [(.i .i64 y1)]))), (12, (.v (.v false [(.i .i64 y2)]))), (1, (.o (.box [(.sh 30 y3), (.i .i64 y4)])))]))) n := by funext x0 x1 x2 x3 x4; exact ih x0 x1 x2 x3 x4
    intro x0 x1 x2 x3 x4
    have h : ∀ g, exc E105 (it105 N) (loopOf Try.f105 5) (tabl [(2, (.v (.v false [(.s x0)]))), (4, (.v (.v false [(.bp 0 0)]))), (10, (.v (.v false [(.i .i64 x1)]))), (12, (.v (.v false [(.i .i64 x2)]))), (1, (.o (.box [(.sh 30 x3), (.i .i64 x4)])))]) (iterK g (canon (E105.keep 5)) K) = Pu.spec_SketchGuess.r5 N (fun x0 x1 x2 x3 x4 => (g (tabl [(2, (.v (.v false [(.s x0)]))), (4, (.v (.v false [(.bp 0 0)]))), (10, (.v (.v false [(.i .i64 x1)]))), (12, (.v (.v false [(.i .i64 x2)]))), (1, (.o (.box [(.sh 30 x3), (.i .i64 x4)])))]))) (fun y0 y1 y2 y3 y4 => (K (.exit 0) (tabl [(2, (.v (.v false [(.s y0)]))), (4, (.v (.v false [(.bp 0 0)]))), (10, (.v (.v false [(.i .i64 y1)]))), (12, (.v (.v false [(.i .i64 y2)]))), (1, (.o (.box [(.sh 30 y3), (.i .i64 y4)])))]))) x0 x1 x2 x3 x4 := by intro g; kernel_rfl
    refine (iter_succ _ _ n _ K).trans ((h _).trans ?_)
    show Pu.spec_SketchGuess.r5 N (fun x0 x1 x2 x3 x4 => (iter (exc E105 (it105 N) (loopOf Try.f105 5)) (canon (E105.keep 5))  n (tabl [(2, (.v (.v false [(.s x0)]))), (4, (.v (.v false [(.bp 0 0)]))), (10, (.v (.v false [(.i .i64 x1)]))), (12, (.v (.v false [(.i .i64 x2)]))), (1, (.o (.box [(.sh 30 x3), (.i .i64 x4)])))]) K)) (fun y0 y1 y2 y3 y4 => (K (.exit 0) (tabl [(2, (.v (.v false [(.s y0)]))), (4, (.v (.v false [(.bp 0 0)]))), (10, (.v (.v false [(.i .i64 y1)]))), (12, (.v (.v false [(.i .i64 y2)]))), (1, (.o (.box [(.sh 30 y3), (.i .i64 y4)])))]))) x0 x1 x2 x3 x4 = _
    rw [e0]; rfl
theorem lo105_5 {R : Type} (N : Nat) : LoopOk E105 (it105 N (R := R)) (loopOf Try.f105 5) := by
  have e : firstRid (loopOf Try.f105 5) = 5 := by kernel_rfl
  intro L K r
  rw [e]
  intro h
  unfold it105 at h
  simp only [show Nat.beq 5 5 = true from rfl, cond_false, cond_true] at h
  refine tell_ok (Q := fun L => ∃ n, iter (exc E105 (it105 N) (loopOf Try.f105 5)) (canon (E105.keep 5)) n (tabl L) K = some r) h (fun xs h => ?_) (fun h => ?_)
  · (try dsimp only at h)
    split at h
    · exact ⟨N, ((e105_5 N K N) _ _ _ _ _).trans h⟩
    · cases h
  cases h
def sp105 : List Arg → Option (Bool × Res)
  | [(.v true [(.sh 30 s0_0), (.i .i64 s0_1)]), (.v false [(.s key1)])] => some (Pu.spec_SketchGuess.c s0_0 s0_1 key1, ⟨[(.v false [(.i .i64 (Pu.spec_SketchGuess.v s0_0 s0_1 key1))])], []⟩)
  | _ => none
theorem ok105 : FnOk Try.prog T 105 sp105 := by
  refine fn_ok (E := E105) hE (call_cons ok187 (call_cons ok188 call_nil)) hM Try.func105 (code := (Try.f105.body.getD .skip)) (by kernel_rfl) (by kernel_rfl) ?_
  have key : ∀ (s0_0 : Row) (s0_1 : Int) (key1 : ByteArray), Pu.spec_SketchGuess.c s0_0 s0_1 key1 = true → ∃ it : It Res, (∀ c ∈ loopsOf (Try.f105.body.getD .skip), LoopOk E105 it c) ∧ body E105 it Try.f105 [(.v true [(.sh 30 s0_0), (.i .i64 s0_1)]), (.v false [(.s key1)])] = some ⟨[(.v false [(.i .i64 (Pu.spec_SketchGuess.v s0_0 s0_1 key1))])], []⟩ := by
    intro s0_0 s0_1 key1  h1
    obtain ⟨N, hN⟩ := Pu.spec_SketchGuess.b_eq (R := Res) (fun r0 => some ⟨[(.v false [(.i .i64 r0)])], []⟩) s0_0 s0_1 key1 h1
    have hl : loopsOf (Try.f105.body.getD .skip) = [loopOf Try.f105 5] := by kernel_rfl
    refine ⟨it105 N, by rw [hl]; exact (loops_cons (lo105_5 N) loops_nil), ?_⟩
    refine Eq.trans (show body E105 (it105 N) Try.f105 [(.v true [(.sh 30 s0_0), (.i .i64 s0_1)]), (.v false [(.s key1)])] = Pu.spec_SketchGuess.b N (fun r0 => some ⟨[(.v false [(.i .i64 r0)])], []⟩) s0_0 s0_1 key1 by kernel_rfl) hN
  intro args r h
  unfold sp105 at h
  split at h
  · injection h with h
    injection h with h1 h2
    subst h2
    exact ⟨by kernel_rfl, fun hf => ⟨of_decide_eq_true (by kernel_rfl), key _ _ _ h1⟩⟩
  · cases h

end Go.FG.Se

namespace Go.FG.Se
open Go.Proofs
def E32 : Env := { toTab := T, call := Go.FG.callIn [(99, sp99), (100, sp100), (101, sp101), (102, sp102), (103, sp103), (104, sp104), (105, sp105)], mode := Go.FG.modeIn md, keep := Go.FG.keepIn [], tk := fun n => Go.FG.memB n [], om := Go.FG.omIn [] }
def sp32 : List Arg → Option (Bool × Res)
  | [(.v true [(.sh 9 p0_0), (.sh 9 p0_1), (.sh 30 p0_2), (.i .i64 p0_3)]), (.v false [(.s key1)])] => some (Pu.spec_PolicyTouch.c p0_0 p0_1 p0_2 p0_3 key1, ⟨[(.v true [(.ow 9 true ((Pu.spec_PolicyTouch.v p0_0 p0_1 p0_2 p0_3 key1).1)), (.ow 9 true ((Pu.spec_PolicyTouch.v p0_0 p0_1 p0_2 p0_3 key1).2.1)), (.ow 30 true ((Pu.spec_PolicyTouch.v p0_0 p0_1 p0_2 p0_3 key1).2.2.1)), (.i .i64 ((Pu.spec_PolicyTouch.v p0_0 p0_1 p0_2 p0_3 key1).2.2.2.1))]), (.v false [(.s ((Pu.spec_PolicyTouch.v p0_0 p0_1 p0_2 p0_3 key1).2.2.2.2))])], []⟩)
  | _ => none
theorem ok32 : FnOk Try.prog T 32 sp32 := by
  refine fn_ok (E := E32) hE (call_cons ok99 (call_cons ok100 (call_cons ok101 (call_cons ok102 (call_cons ok103 (call_cons ok104 (call_cons ok105 call_nil))))))) hM Try.func32 (code := (Try.f32.body.getD .skip)) (by kernel_rfl) (by kernel_rfl) ?_
  have key : ∀ (p0_0 : Row) (p0_1 : Row) (p0_2 : Row) (p0_3 : Int) (key1 : ByteArray), Pu.spec_PolicyTouch.c p0_0 p0_1 p0_2 p0_3 key1 = true → ∃ it : It Res, (∀ c ∈ loopsOf (Try.f32.body.getD .skip), LoopOk E32 it c) ∧ body E32 it Try.f32 [(.v true [(.sh 9 p0_0), (.sh 9 p0_1), (.sh 30 p0_2), (.i .i64 p0_3)]), (.v false [(.s key1)])] = some ⟨[(.v true [(.ow 9 true ((Pu.spec_PolicyTouch.v p0_0 p0_1 p0_2 p0_3 key1).1)), (.ow 9 true ((Pu.spec_PolicyTouch.v p0_0 p0_1 p0_2 p0_3 key1).2.1)), (.ow 30 true ((Pu.spec_PolicyTouch.v p0_0 p0_1 p0_2 p0_3 key1).2.2.1)), (.i .i64 ((Pu.spec_PolicyTouch.v p0_0 p0_1 p0_2 p0_3 key1).2.2.2.1))]), (.v false [(.s ((Pu.spec_PolicyTouch.v p0_0 p0_1 p0_2 p0_3 key1).2.2.2.2))])], []⟩ := by
    intro p0_0 p0_1 p0_2 p0_3 key1  h1
    have hN := Pu.spec_PolicyTouch.b_eq (R := Res) (fun r0 r1 r2 r3 r4 => some ⟨[(.v true [(.ow 9 true r0), (.ow 9 true r1), (.ow 30 true r2), (.i .i64 r3)]), (.v false [(.s r4)])], []⟩) p0_0 p0_1 p0_2 p0_3 key1 h1
    have hl : loopsOf (Try.f32.body.getD .skip) = [] := by kernel_rfl
    refine ⟨iterN 0, by rw [hl]; exact loops_nil, ?_⟩
    refine Eq.trans (show body E32 (iterN 0) Try.f32 [(.v true [(.sh 9 p0_0), (.sh 9 p0_1), (.sh 30 p0_2), (.i .i64 p0_3)]), (.v false [(.s key1)])] = Pu.spec_PolicyTouch.b (fun r0 r1 r2 r3 r4 => some ⟨[(.v true [(.ow 9 true r0), (.ow 9 true r1), (.ow 30 true r2), (.i .i64 r3)]), (.v false [(.s r4)])], []⟩) p0_0 p0_1 p0_2 p0_3 key1 by kernel_rfl) hN
  intro args r h
  unfold sp32 at h
  split at h
  · injection h with h
    injection h with h1 h2
    subst h2
    exact ⟨by kernel_rfl, fun hf => ⟨of_decide_eq_true (by kernel_rfl), key _ _ _ _ _ h1⟩⟩
  · cases h

end Go.FG.Se

namespace Go.FG.Se
open Go.Proofs
def E190 : Env := { toTab := T, call := Go.FG.callIn [], mode := Go.FG.modeIn md, keep := Go.FG.keepIn [], tk := fun n => Go.FG.memB n [], om := Go.FG.omIn [] }
def sp190 : List Arg → Option (Bool × Res)
  | [(.v false [(.sh 9 l0)])] => some (Pu.impl_copyTexts.c l0, ⟨[(.v false [(.ow 9 true (Pu.impl_copyTexts.v l0))])], []⟩)
  | _ => none
theorem ok190 : FnOk Try.prog T 190 sp190 := by
  refine fn_ok (E := E190) hE call_nil hM Try.func190 (code := (Try.f190.body.getD .skip)) (by kernel_rfl) (by kernel_rfl) ?_
  have key : ∀ (l0 : Row), Pu.impl_copyTexts.c l0 = true → ∃ it : It Res, (∀ c ∈ loopsOf (Try.f190.body.getD .skip), LoopOk E190 it c) ∧ body E190 it Try.f190 [(.v false [(.sh 9 l0)])] = some ⟨[(.v false [(.ow 9 true (Pu.impl_copyTexts.v l0))])], []⟩ := by
    intro l0  h1
    have hN := Pu.impl_copyTexts.b_eq (R := Res) (fun r0 => some ⟨[(.v false [(.ow 9 true r0)])], []⟩) l0 h1
    have hl : loopsOf (Try.f190.body.getD .skip) = [] := by kernel_rfl
    refine ⟨iterN 0, by rw [hl]; exact loops_nil, ?_⟩
    refine Eq.trans (show body E190 (iterN 0) Try.f190 [(.v false [(.sh 9 l0)])] = Pu.impl_copyTexts.b (fun r0 => some ⟨[(.v false [(.ow 9 true r0)])], []⟩) l0 by kernel_rfl) hN
  intro args r h
  unfold sp190 at h
  split at h
  · injection h with h
    injection h with h1 h2
    subst h2
    exact ⟨by kernel_rfl, fun hf => ⟨of_decide_eq_true (by kernel_rfl), key _ h1⟩⟩
  · cases h

end Go.FG.Se

namespace Go.FG.Se
open Go.Proofs
def E221 : Env := { toTab := T, call := Go.FG.callIn [], mode := Go.FG.modeIn md, keep := Go.FG.keepIn [], tk := fun n => Go.FG.memB n [], om := Go.FG.omIn [] }
def sp221 : List Arg → Option (Bool × Res)
  | [(.v false [(.sh 3 l0)])] => some (Pu.impl_copyInts.c l0, ⟨[(.v false [(.ow 3 true (Pu.impl_copyInts.v l0))])], []⟩)
  | _ => none
theorem ok221 : FnOk Try.prog T 221 sp221 := by
  refine fn_ok (E := E221) hE call_nil hM Try.func221 (code := (Try.f221.body.getD .skip)) (by kernel_rfl) (by kernel_rfl) ?_
  have key : ∀ (l0 : Row), Pu.impl_copyInts.c l0 = true → ∃ it : It Res, (∀ c ∈ loopsOf (Try.f221.body.getD .skip), LoopOk E221 it c) ∧ body E221 it Try.f221 [(.v false [(.sh 3 l0)])] = some ⟨[(.v false [(.ow 3 true (Pu.impl_copyInts.v l0))])], []⟩ := by
    intro l0  h1
    have hN := Pu.impl_copyInts.b_eq (R := Res) (fun r0 => some ⟨[(.v false [(.ow 3 true r0)])], []⟩) l0 h1
    have hl : loopsOf (Try.f221.body.getD .skip) = [] := by kernel_rfl
    refine ⟨iterN 0, by rw [hl]; exact loops_nil, ?_⟩
    refine Eq.trans (show body E221 (iterN 0) Try.f221 [(.v false [(.sh 3 l0)])] = Pu.impl_copyInts.b (fun r0 => some ⟨[(.v false [(.ow 3 true r0)])], []⟩) l0 by kernel_rfl) hN
  intro args r h
  unfold sp221 at h
  split at h
  · injection h with h
    injection h with h1 h2
    subst h2
    exact ⟨by kernel_rfl, fun hf => ⟨of_decide_eq_true (by kernel_rfl), key _ h1⟩⟩
  · cases h

end Go.FG.Se

namespace Go.FG.Se
open Go.Proofs
def E177 : Env := { toTab := T, call := Go.FG.callIn [(221, sp221)], mode := Go.FG.modeIn md, keep := Go.FG.keepIn [(3, [2, 3, 10, 11, 12])], tk := fun n => Go.FG.memB n [], om := Go.FG.omIn [] }
def it177 (N : Nat) {R : Type} : It R := fun rid f cn L K => bif Nat.beq rid 3 then (tell [(4, (.v (.v false [(.bp 0 0)]))), (6, (.v (.v false [(.bp 1 0)]))), (20, (.v (.v false [(.sh 30 [])]))), (22, (.v (.v false [(.i .i64 0)]))), (24, (.v (.v false [(.i .i64 0)]))), (1, (.o (.box [.nl, (.i .i64 0)]))), (3, (.o (.box [.nl, (.i .i64 0)])))] (fun | [.R x0, .I x1, .I x2, .I x3, .I x4] => Pu.impl_copySketch.l3 N (fun y0 y1 y2 y3 y4 => (K (.exit 0) (tabl [(4, (.v (.v false [(.bp 0 0)]))), (6, (.v (.v false [(.bp 1 0)]))), (20, (.v (.v false [(.sh 30 y0)]))), (22, (.v (.v false [(.i .i64 y1)]))), (24, (.v (.v false [(.i .i64 y2)]))), (1, (.o (.box [.nl, (.i .i64 y3)]))), (3, (.o (.box [.nl, (.i .i64 y4)])))]))) (fun y0 y1 y2 y3 y4 y5 => (K (.exit 0) (tabl [(4, (.v (.v false [(.bp 0 0)]))), (6, (.v (.v false [(.bp 1 0)]))), (20, (.v (.v false [(.sh 30 y0)]))), (22, (.v (.v false [(.i .i64 y1)]))), (24, (.v (.v false [(.i .i64 y2)]))), (1, (.o (.box [.nl, (.i .i64 y3)]))), (3, (.o (.box [(.own 2), (.i .i64 y4)]))), (5, (.o (.row 30 true y5)))]))) N x0 x1 x2 x3 x4 | _ => none) L (tell [(4, (.v (.v false [(.bp 0 0)]))), (6, (.v (.v false [(.bp 1 0)]))), (20, (.v (.v false [(.sh 30 [])]))), (22, (.v (.v false [(.i .i64 0)]))), (24, (.v (.v false [(.i .i64 0)]))), (1, (.o (.box [.nl, (.i .i64 0)]))), (3, (.o (.box [(.own 2), (.i .i64 0)]))), (5, (.o (.row 30 true [])))] (fun | [.R x5, .I x6, .I x7, .I x8, .I x9, .R x10] => Pu.impl_copySketch.l3a N (fun y0 y1 y2 y3 y4 => (K (.exit 0) (tabl [(4, (.v (.v false [(.bp 0 0)]))), (6, (.v (.v false [(.bp 1 0)]))), (20, (.v (.v false [(.sh 30 y0)]))), (22, (.v (.v false [(.i .i64 y1)]))), (24, (.v (.v false [(.i .i64 y2)]))), (1, (.o (.box [.nl, (.i .i64 y3)]))), (3, (.o (.box [.nl, (.i .i64 y4)])))]))) (fun y0 y1 y2 y3 y4 y5 => (K (.exit 0) (tabl [(4, (.v (.v false [(.bp 0 0)]))), (6, (.v (.v false [(.bp 1 0)]))), (20, (.v (.v false [(.sh 30 y0)]))), (22, (.v (.v false [(.i .i64 y1)]))), (24, (.v (.v false [(.i .i64 y2)]))), (1, (.o (.box [.nl, (.i .i64 y3)]))), (3, (.o (.box [(.own 2), (.i .i64 y4)]))), (5, (.o (.row 30 true y5)))]))) N x5 x6 x7 x8 x9 x10 | _ => none) L (none))) else none
theorem e177_3 {R : Type} (N : Nat) (K : Ex → St → Option R) : ∀ n : Nat, (∀ x0 x1 x2 x3 x4, iter (exc E177 (it177 N) (loopOf Try.f177 3)) (canon (E177.keep 3))  n (tabl [(4, (.v (.v false [(.bp 0 0)]))), (6, (.v (.v false [(.bp 1 0)]))), (20, (.v (.v false [(.sh 30 x0)]))), (22, (.v (.v false [(.i .i64 x1)]))), (24, (.v (.v false [(.i .i64 x2)]))), (1, (.o (.box [.nl, (.i .i64 x3)]))), (3, (.o (.box [.nl, (.i .i64 x4)])))]) K = Pu.impl_copySketch.l3 N (fun y0 y1 y2 y3 y4 => (K (.exit 0) (tabl [(4, (.v (.v false [(.bp 0 0)]))), (6, (.v (.v false [(.bp 1 0)]))), (20, (.v (.v false [(.sh 30 y0)]))), (22, (.v (.v false [(.i .i64 y1)]))), (24, (.v (.v false [(.i .i64 y2)]))), (1, (.o (.box [.nl, (.i .i64 y3)]))), (3, (.o (.box [.nl, (.i .i64 y4)])))]))) (fun y0 y1 y2 y3 y4 y5 => (K (.exit 0) (tabl [(4, (.v (.v false [(.bp 0 0)]))), (6, (.v (.v false [(.bp 1 0)]))), (20, (.v (.v false [(.sh 30 y0)]))), (22, (.v (.v false [(.i .i64 y1)]))), (24, (.v (.v false [(.i .i64 y2)]))), (1, (.o (.box [.nl, (.i .i64 y3)]))), (3, (.o (.box [(.own 2), (.i .i64 y4)]))), (5, (.o (.row 30 true y5)))]))) n x0 x1 x2 x3 x4) ∧ (∀ x5 x6 x7 x8 x9 x10, iter (exc E177 (it177 N) (loopOf Try.f177 3)) (canon (E177.keep 3))  n (tabl [(4, (.v (.v false [(.bp 0 0)]))), (6, (.v (.v false [(.bp 1 0)]))), (20, (.v (.v false [(.sh 30 x5)]))), (22, (.v (.v false [(.i .i64 x6)]))), (24, (.v (.v false [(.i .i64 x7)]))), (1, (.o (.box [.nl, (.i .i64 x8)]))), (3, (.o (.box [(.own 2), (.i .i64 x9)]))), (5, (.o (.row 30 true x10)))]) K = Pu.impl_copySketch.l3a N (fun y0 y1 y2 y3 y4 => (K (.exit 0) (tabl [(4, (.v (.v false [(.bp 0 0)]))), (6, (.v (.v false [(.bp 1 0)]))), (20, (.v (.v false [(.sh 30 y0)]))), (22, (.v (.v false [(.i .i64 y1)]))), (24, (.v (.v false [(.i .i64 y2)]))), (1, (.o (.box [.nl, (.i .i64 y3)]))), (3, (.o (.box [.nl, (.i .i64 y4)])))]))) (fun y0 y1 y2 y3 y4 y5 => (K (.exit 0) (tabl [(4, (.v (.v false [(.bp 0 0)]))), (6, (.v (.v false [(.bp 1 0)]))), (20, (.v (.v false [(.sh 30 y0)]))), (22, (.v (.v false [(.i .i64 y1)]))), (24, (.v (.v false [(.i .i64 y2)]))), (1, (.o (.box [.nl, (.i .i64 y3)]))), (3, (.o (.box [(.own 2), (.i .i64 y4)]))), (5, (.o (.row 30 true y5)))]))) n x5 x6 x7 x8 x9 x10) := by
  intro n
  induction n with
  | zero => exact ⟨(fun _ _ _ _ _ => rfl), (fun _ _ _ _ _ _ => rfl)⟩
  | succ n ih =>
    have e0 : (fun x0 x1 x2 x3 x4 => iter (exc E177 (it177 N) (loopOf Try.f177 3)) (canon (E177.keep 3))  n (tabl [(4, (.v (.v false [(.bp 0 0)]))), (6, (.v (.v false [(.bp 1 0)]))), (20, (.v (.v false [(.sh 30 x0)]))), (22, (.v (.v false [(.i .i64 x1)]))), (24, (.v (.v false [(.i .i64 x2)]))), (1, (.o (.box [.nl, (.i .i64 x3)]))), (3, (.o (.box [.nl, (.i .i64 x4)])))]) K) = Pu.impl_copySketch.l3 N (fun y0 y1 y2 y3 y4 => (K (.exit 0) (tabl [(4, (.v (.v false [(.bp 0 0)]))), (6, (.v (.v false [(.bp 1 0)]))), (20, (.v (.v false [(.sh 30 y0)]))), (22, (.v (.v false [(.i .i64 y1)]))), (24, (.v (.v false [(.i .i64 y2)]))), (1, (.o (.box [.nl, (.i .i64 y3)]))), (3, (.o (.box [.nl, (.i .i64 y4)])))]))) (fun y0 y1 y2 y3 y4 y5 => (K (.exit 0) (tabl [(4, (.v (.v false [(.bp 0 0)]))), (6, (.v (.v false [(.bp 1 0)]))), (20, (.v (.v false [(.sh 30 y0)]))), (22, (.v (.v false [(.i .i64 y1)]))), (24, (.v (.v false [(.i .i64 y2)]))), (1, (.o (.box [.nl, (.i .i64 y3)]))), (3, (.o (.box [(.own 2), (.i .i64 y4)]))), (5, (.o (.row 30 true y5)))]))) n := by funext x0 x1 x2 x3 x4; exact ih.1 x0 x1 x2 x3 x4
    have e1 : (fun x5 x6 x7 x8 x9 x10 => iter (exc E177 (it177 N) (loopOf Try.f177 3)) (canon (E177.keep 3))  n (tabl [(4, (.v (.v false [(.bp 0 0)]))), (6, (.v (.v false [(.bp 1 0)]))), (20, (.v (.v false [(.sh 30 x5)]))), (22, (.v (.v false [(.i .i64 x6)]))), (24, (.v (.v false [(.i .i64 x7)]))), (1, (.o (.box [.nl, (.i .i64 x8)]))), (3, (.o (.box [(.own 2), (.i .i64 x9)]))), (5, (.o (.row 30 true x10)))]) K) = Pu.impl_copySketch.l3a N (fun y0 y1 y2 y3 y4 => (K (.exit 0) (tabl [(4, (.v (.v false [(.bp 0 0)]))), (6, (.v (.v false [(.bp 1 0)]))), (20, (.v (.v false [(.sh 30 y0)]))), (22, (.v (.v false [(.i .i64 y1)]))), (24, (.v (.v false [(.i .i64 y2)]))), (1, (.o (.box [.nl, (.i .i64 y3)]))), (3, (.o (.box [.nl, (.i .i64 y4)])))]))) (fun y0 y1 y2 y3 y4 y5 => (K (.exit 0) (tabl [(4, (.v (.v false [(.bp 0 0)]))), (6, (.v (.v false [(.bp 1 0)]))), (20, (.v (.v false [(.sh 30 y0)]))), (22, (.v (.v false [(.i .i64 y1)]))), (24, (.v (.v false [(.i .i64 y2)]))), (1, (.o (.box [.nl, (.i .i64 y3)]))), (3, (.o (.box [(.own 2), (.i .i64 y4)]))), (5, (.o (.row 30 true y5)))]))) n := by funext x5 x6 x7 x8 x9 x10; exact ih.2 x5 x6 x7 x8 x9 x10
    refine ⟨?_, ?_⟩
    · intro x0 x1 x2 x3 x4
      have h : ∀ g, exc E177 (it177 N) (loopOf Try.f177 3) (tabl [(4, (.v (.v false [(.bp 0 0)]))), (6, (.v (.v false [(.bp 1 0)]))), (20, (.v (.v false [(.sh 30 x0)]))), (22, (.v (.v false [(.i .i64 x1)]))), (24, (.v (.v false [(.i .i64 x2)]))), (1, (.o (.box [.nl, (.i .i64 x3)]))), (3, (.o (.box [.nl, (.i .i64 x4)])))]) (iterK g (canon (E177.keep 3)) K) = Pu.impl_copySketch.r3 N (fun x0 x1 x2 x3 x4 => (g (tabl [(4, (.v (.v false [(.bp 0 0)]))), (6, (.v (.v false [(.bp 1 0)]))), (20, (.v (.v false [(.sh 30 x0)]))), (22, (.v (.v false [(.i .i64 x1)]))), (24, (.v (.v false [(.i .i64 x2)]))), (1, (.o (.box [.nl, (.i .i64 x3)]))), (3, (.o (.box [.nl, (.i .i64 x4)])))]))) (fun x5 x6 x7 x8 x9 x10 => (g (tabl [(4, (.v (.v false [(.bp 0 0)]))), (6, (.v (.v false [(.bp 1 0)]))), (20, (.v (.v false [(.sh 30 x5)]))), (22, (.v (.v false [(.i .i64 x6)]))), (24, (.v (.v false [(.i .i64 x7)]))), (1, (.o (.box [.nl, (.i .i64 x8)]))), (3, (.o (.box [(.own 2), (.i .i64 x9)]))), (5, (.o (.row 30 true x10)))]))) (fun y0 y1 y2 y3 y4 => (K (.exit 0) (tabl [(4, (.v (.v false [(.bp 0 0)]))), (6, (.v (.v false [(.bp 1 0)]))), (20, (.v (.v false [(.sh 30 y0)]))), (22, (.v (.v false [(.i .i64 y1)]))), (24, (.v (.v false [(.i .i64 y2)]))), (1, (.o (.box [.nl, (.i .i64 y3)]))), (3, (.o (.box [.nl, (.i .i64 y4)])))]))) (fun y0 y1 y2 y3 y4 y5 => (K (.exit 0) (tabl [(4, (.v (.v false [(.bp 0 0)]))), (6, (.v (.v false [(.bp 1 0)]))), (20, (.v (.v false [(.sh 30 y0)]))), (22, (.v (.v false [(.i .i64 y1)]))), (24, (.v (.v false [(.i .i64 y2)]))), (1, (.o (.box [.nl, (.i .i64 y3)]))), (3, (.o (.box [(.own 2), (.i .i64 y4)]))), (5, (.o (.row 30 true y5)))]))) x0 x1 x2 x3 x4 := by intro g; kernel_rfl
      refine (iter_succ _ _ n _ K).trans ((h _).trans ?_)
      show Pu.impl_copySketch.r3 N (fun x0 x1 x2 x3 x4 => (iter (exc E177 (it177 N) (loopOf Try.f177 3)) (canon (E177.keep 3))  n (tabl [(4, (.v (.v false [(.bp 0 0)]))), (6, (.v (.v false [(.bp 1 0)]))), (20, (.v (.v false [(.sh 30 x0)]))), (22, (.v (.v false [(.i .i64 x1)]))), (24, (.v (.v false [(.i .i64 x2)]))), (1, (.o (.box [.nl, (.i .i64 x3)]))), (3, (.o (.box [.nl, (.i .i64 x4)])))]) K)) (fun x5 x6 x7 x8 x9 x10 => (iter (exc E177 (it177 N) (loopOf Try.f177 3)) (canon (E177.keep 3))  n (tabl [(4, (.v (.v false [(.bp 0 0)]))), (6, (.v (.v false [(.bp 1 0)]))), (20, (.v (.v false [(.sh 30 x5)]))), (22, (.v (.v false [(.i .i64 x6)]))), (24, (.v (.v false [(.i .i64 x7)]))), (1, (.o (.box [.nl, (.i .i64 x8)]))), (3, (.o (.box [(.own 2), (.i .i64 x9)]))), (5, (.o (.row 30 true x10)))]) K)) (fun y0 y1 y2 y3 y4 => (K (.exit 0) (tabl [(4, (.v (.v false [(.bp 0 0)]))), (6, (.v (.v false [(.bp 1 0)]))), (20, (.v (.v false [(.sh 30 y0)]))), (22, (.v (.v false [(.i .i64 y1)]))), (24, (.v (.v false [(.i .i64 y2)]))), (1, (.o (.box [.nl, (.i .i64 y3)]))), (3, (.o (.box [.nl, (.i .i64 y4)])))]))) (fun y0 y1 y2 y3 y4 y5 => (K (.exit 0) (tabl [(4, (.v (.v false [(.bp 0 0)]))), (6, (.v (.v false [(.bp 1 0)]))), (20, (.v (.v false [(.sh 30 y0)]))), (22, (.v (.v false [(.i .i64 y1)]))), (24, (.v (.v false [(.i .i64 y2)]))), (1, (.o (.box [.nl, (.i .i64 y3)]))), (3, (.o (.box [(.own 2), (.i .i64 y4)]))), (5, (.o (.row 30 true y5)))]))) x0 x1 x2 x3 x4 = _
      rw [e0, e1]; rfl
    · intro x5 x6 x7 x8 x9 x10
      have h : ∀ g, exc E177 (it177 N) (loopOf Try.f177 3) (tabl [(4, (.v (.v false [(.bp 0 0)]))), (6, (.v (.v false [(.bp 1 0)]))), (20, (.v (.v false [(.sh 30 x5)]))), (22, (.v (.v false [(.i .i64 x6)]))), (24, (.v (.v false [(.i .i64 x7)]))), (1, (.o (.box [.nl, (.i .i64 x8)]))), (3, (.o (.box [(.own 2), (.i .i64 x9)]))), (5, (.o (.row 30 true x10)))]) (iterK g (canon (E177.keep 3)) K) = Pu.impl_copySketch.r3a N (fun x0 x1 x2 x3 x4 => (g (tabl [(4, (.v (.v false [(.bp 0 0)]))), (6, (.v (.v false [(.bp 1 0)]))), (20, (.v (.v false [(.sh 30 x0)]))), (22, (.v (.v false [(.i .i64 x1)]))), (24, (.v (.v false [(.i .i64 x2)]))), (1, (.o (.box [.nl, (.i .i64 x3)]))), (3, (.o (.box [.nl, (.i .i64 x4)])))]))) (fun x5 x6 x7 x8 x9 x10 => (g (tabl [(4, (.v (.v false [(.bp 0 0)]))), (6, (.v (.v false [(.bp 1 0)]))), (20, (.v (.v false [(.sh 30 x5)]))), (22, (.v (.v false [(.i .i64 x6)]))), (24, (.v (.v false [(.i .i64 x7)]))), (1, (.o (.box [.nl, (.i .i64 x8)]))), (3, (.o (.box [(.own 2), (.i .i64 x9)]))), (5, (.o (.row 30 true x10)))]))) (fun y0 y1 y2 y3 y4 => (K (.exit 0) (tabl [(4, (.v (.v false [(.bp 0 0)]))), (6, (.v (.v false [(.bp 1 0)]))), (20, (.v (.v false [(.sh 30 y0)]))), (22, (.v (.v false [(.i .i64 y1)]))), (24, (.v (.v false [(.i .i64 y2)]))), (1, (.o (.box [.nl, (.i .i64 y3)]))), (3, (.o (.box [.nl, (.i .i64 y4)])))]))) (fun y0 y1 y2 y3 y4 y5 => (K (.exit 0) (tabl [(4, (.v (.v false [(.bp 0 0)]))), (6, (.v (.v false [(.bp 1 0)]))), (20, (.v (.v false [(.sh 30 y0)]))), (22, (.v (.v false [(.i .i64 y1)]))), (24, (.v (.v false [(.i .i64 y2)]))), (1, (.o (.box [.nl, (.i .i64 y3)]))), (3, (.o (.box [(.own 2), (.i .i64 y4)]))), (5, (.o (.row 30 true y5)))]))) x5 x6 x7 x8 x9 x10 := by intro g; kernel_rfl
      refine (iter_succ _ _ n _ K).trans ((h _).trans ?_)
      show Pu.impl_copySketch.r3a N (fun x0 x1 x2 x3 x4 => (iter (exc E177 (it177 N) (loopOf Try.f177 3)) (canon (E177.keep 3))  n (tabl [(4, (.v (.v false [(.bp 0 0)]))), (6, (.v (.v false [(.bp 1 0)]))), (20, (.v (.v false [(.sh 30 x0)]))), (22, (.v (.v false [(.i .i64 x1)]))), (24, (.v (.v false [(.i .i64 x2)]))), (1, (.o (.box [.nl, (.i .i64 x3)]))), (3, (.o (.box [.nl, (.i .i64 x4)])))]) K)) (fun x5 x6 x7 x8 x9 x10 => (iter (exc E177 (it177 N) (loopOf Try.f177 3)) (canon (E177.keep 3))  n (tabl [(4, (.v (.v false [(.bp 0 0)]))), (6, (.v (.v false [(.bp 1 0)]))), (20, (.v (.v false [(.sh 30 x5)]))), (22, (.v (.v false [(.i .i64 x6)]))), (24, (.v (.v false [(.i .i64 x7)]))), (1, (.o (.box [.nl, (.i .i64 x8)]))), (3, (.o (.box [(.own 2), (.i .i64 x9)]))), (5, (.o (.row 30 true x10)))]) K)) (fun y0 y1 y2 y3 y4 => (K (.exit 0) (tabl [(4, (.v (.v false [(.bp 0 0)]))), (6, (.v (.v false [(.bp 1 0)]))), (20, (.v (.v false [(.sh 30 y0)]))), (22, (.v (.v false [(.i .i64 y1)]))), (24, (.v (.v false [(.i .i64 y2)]))), (1, (.o (.box [.nl, (.i .i64 y3)]))), (3, (.o (.box [.nl, (.i .i64 y4)])))]))) (fun y0 y1 y2 y3 y4 y5 => (K (.exit 0) (tabl [(4, (.v (.v false [(.bp 0 0)]))), (6, (.v (.v false [(.bp 1 0)]))), (20, (.v (.v false [(.sh 30 y0)]))), (22, (.v (.v false [(.i .i64 y1)]))), (24, (.v (.v false [(.i .i64 y2)]))), (1, (.o (.box [.nl, (.i .i64 y3)]))), (3, (.o (.box [(.own 2), (.i .i64 y4)]))), (5, (.o (.row 30 true y5)))]))) x5 x6 x7 x8 x9 x10 = _
      rw [e0, e1]; rfl
theorem lo177_3 {R : Type} (N : Nat) : LoopOk E177 (it177 N (R := R)) (loopOf Try.f177 3) := by
  have e : firstRid (loopOf Try.f177 3) = 3 := by kernel_rfl
  intro L K r
  rw [e]
  intro h
  unfold it177 at h
  simp only [show Nat.beq 3 3 = true from rfl, cond_false, cond_true] at h
  refine tell_ok (Q := fun L => ∃ n, iter (exc E177 (it177 N) (loopOf Try.f177 3)) (canon (E177.keep 3)) n (tabl L) K = some r) h (fun xs h => ?_) (fun h => ?_)
  · (try dsimp only at h)
    split at h
    · exact ⟨N, ((e177_3 N K N).1 _ _ _ _ _).trans h⟩
    · cases h
  refine tell_ok (Q := fun L => ∃ n, iter (exc E177 (it177 N) (loopOf Try.f177 3)) (canon (E177.keep 3)) n (tabl L) K = some r) h (fun xs h => ?_) (fun h => ?_)
  · (try dsimp only at h)
    split at h
    · exact ⟨N, ((e177_3 N K N).2 _ _ _ _ _ _).trans h⟩
    · cases h
  cases h
def sp177 : List Arg → Option (Bool × Res)
  | [(.v true [(.sh 30 s0_0), (.i .i64 s0_1)])] => some (Pu.impl_copySketch.c s0_0 s0_1, ⟨[(.v true [(.ow 30 true ((Pu.impl_copySketch.v s0_0 s0_1).1)), (.i .i64 ((Pu.impl_copySketch.v s0_0 s0_1).2))])], []⟩)
  | _ => none
theorem ok177 : FnOk Try.prog T 177 sp177 := by
  refine fn_ok (E := E177) hE (call_cons ok221 call_nil) hM Try.func177 (code := (Try.f177.body.getD .skip)) (by kernel_rfl) (by kernel_rfl) ?_
  have key : ∀ (s0_0 : Row) (s0_1 : Int), Pu.impl_copySketch.c s0_0 s0_1 = true → ∃ it : It Res, (∀ c ∈ loopsOf (Try.f177.body.getD .skip), LoopOk E177 it c) ∧ body E177 it Try.f177 [(.v true [(.sh 30 s0_0), (.i .i64 s0_1)])] = some ⟨[(.v true [(.ow 30 true ((Pu.impl_copySketch.v s0_0 s0_1).1)), (.i .i64 ((Pu.impl_copySketch.v s0_0 s0_1).2))])], []⟩ := by
    intro s0_0 s0_1  h1
    obtain ⟨N, hN⟩ := Pu.impl_copySketch.b_eq (R := Res) (fun r0 r1 => some ⟨[(.v true [(.ow 30 true r0), (.i .i64 r1)])], []⟩) s0_0 s0_1 h1
    have hl : loopsOf (Try.f177.body.getD .skip) = [loopOf Try.f177 3] := by kernel_rfl
    refine ⟨it177 N, by rw [hl]; exact (loops_cons (lo177_3 N) loops_nil), ?_⟩
    refine Eq.trans (show body E177 (it177 N) Try.f177 [(.v true [(.sh 30 s0_0), (.i .i64 s0_1)])] = Pu.impl_copySketch.b N (fun r0 r1 => some ⟨[(.v true [(.ow 30 true r0), (.i .i64 r1)])], []⟩) s0_0 s0_1 by kernel_rfl) hN
  intro args r h
  unfold sp177 at h
  split at h
  · injection h with h
    injection h with h1 h2
    subst h2
    exact ⟨by kernel_rfl, fun hf => ⟨of_decide_eq_true (by kernel_rfl), key _ _ h1⟩⟩
  · cases h

end Go.FG.Se

namespace Go.FG.Se
open Go.Proofs
def E108 : Env := { toTab := T, call := Go.FG.callIn [(190, sp190), (177, sp177)], mode := Go.FG.modeIn md, keep := Go.FG.keepIn [], tk := fun n => Go.FG.memB n [], om := Go.FG.omIn [] }
def sp108 : List Arg → Option (Bool × Res)
  | [(.v true [(.sh 9 p0_0), (.sh 9 p0_1), (.sh 30 p0_2), (.i .i64 p0_3)])] => some (Pu.impl_copyPolicy.c p0_0 p0_1 p0_2 p0_3, ⟨[(.v true [(.ow 9 true ((Pu.impl_copyPolicy.v p0_0 p0_1 p0_2 p0_3).1)), (.ow 9 true ((Pu.impl_copyPolicy.v p0_0 p0_1 p0_2 p0_3).2.1)), (.ow 30 true ((Pu.impl_copyPolicy.v p0_0 p0_1 p0_2 p0_3).2.2.1)), (.i .i64 ((Pu.impl_copyPolicy.v p0_0 p0_1 p0_2 p0_3).2.2.2))])], []⟩)
  | _ => none
theorem ok108 : FnOk Try.prog T 108 sp108 := by
  refine fn_ok (E := E108) hE (call_cons ok190 (call_cons ok177 call_nil)) hM Try.func108 (code := (Try.f108.body.getD .skip)) (by kernel_rfl) (by kernel_rfl) ?_
  have key : ∀ (p0_0 : Row) (p0_1 : Row) (p0_2 : Row) (p0_3 : Int), Pu.impl_copyPolicy.c p0_0 p0_1 p0_2 p0_3 = true → ∃ it : It Res, (∀ c ∈ loopsOf (Try.f108.body.getD .skip), LoopOk E108 it c) ∧ body E108 it Try.f108 [(.v true [(.sh 9 p0_0), (.sh 9 p0_1), (.sh 30 p0_2), (.i .i64 p0_3)])] = some ⟨[(.v true [(.ow 9 true ((Pu.impl_copyPolicy.v p0_0 p0_1 p0_2 p0_3).1)), (.ow 9 true ((Pu.impl_copyPolicy.v p0_0 p0_1 p0_2 p0_3).2.1)), (.ow 30 true ((Pu.impl_copyPolicy.v p0_0 p0_1 p0_2 p0_3).2.2.1)), (.i .i64 ((Pu.impl_copyPolicy.v p0_0 p0_1 p0_2 p0_3).2.2.2))])], []⟩ := by
    intro p0_0 p0_1 p0_2 p0_3  h1
    have hN := Pu.impl_copyPolicy.b_eq (R := Res) (fun r0 r1 r2 r3 => some ⟨[(.v true [(.ow 9 true r0), (.ow 9 true r1), (.ow 30 true r2), (.i .i64 r3)])], []⟩) p0_0 p0_1 p0_2 p0_3 h1
    have hl : loopsOf (Try.f108.body.getD .skip) = [] := by kernel_rfl
    refine ⟨iterN 0, by rw [hl]; exact loops_nil, ?_⟩
    refine Eq.trans (show body E108 (iterN 0) Try.f108 [(.v true [(.sh 9 p0_0), (.sh 9 p0_1), (.sh 30 p0_2), (.i .i64 p0_3)])] = Pu.impl_copyPolicy.b (fun r0 r1 r2 r3 => some ⟨[(.v true [(.ow 9 true r0), (.ow 9 true r1), (.ow 30 true r2), (.i .i64 r3)])], []⟩) p0_0 p0_1 p0_2 p0_3 by kernel_rfl) hN
  intro args r h
  unfold sp108 at h
  split at h
  · injection h with h
    injection h with h1 h2
    subst h2
    exact ⟨by kernel_rfl, fun hf => ⟨of_decide_eq_true (by kernel_rfl), key _ _ _ _ h1⟩⟩
  · cases h

end Go.FG.Se

namespace Go.FG.Se
open Go.Proofs
def E234 : Env := { toTab := T, call := Go.FG.callIn [], mode := Go.FG.modeIn md, keep := Go.FG.keepIn [], tk := fun n => Go.FG.memB n [], om := Go.FG.omIn [] }
def sp234 : List Arg → Option (Bool × Res)
  | [(.v false [.nl]), (.v false [(.i .i64 n1)])] => some (Pu.slices_Grow_string.c n1, ⟨[(.v false [(.ow 9 true (Pu.slices_Grow_string.v n1))])], []⟩)
  | _ => none
theorem ok234 : FnOk Try.prog T 234 sp234 := by
  refine fn_ok (E := E234) hE call_nil hM Try.func234 (code := (Try.f234.body.getD .skip)) (by kernel_rfl) (by kernel_rfl) ?_
  have key : ∀ (n1 : Int), Pu.slices_Grow_string.c n1 = true → ∃ it : It Res, (∀ c ∈ loopsOf (Try.f234.body.getD .skip), LoopOk E234 it c) ∧ body E234 it Try.f234 [(.v false [.nl]), (.v false [(.i .i64 n1)])] = some ⟨[(.v false [(.ow 9 true (Pu.slices_Grow_string.v n1))])], []⟩ := by
    intro n1  h1
    have hN := Pu.slices_Grow_string.b_eq (R := Res) (fun r0 => some ⟨[(.v false [(.ow 9 true r0)])], []⟩) n1 h1
    have hl : loopsOf (Try.f234.body.getD .skip) = [] := by kernel_rfl
    refine ⟨iterN 0, by rw [hl]; exact loops_nil, ?_⟩
    refine Eq.trans (show body E234 (iterN 0) Try.f234 [(.v false [.nl]), (.v false [(.i .i64 n1)])] = Pu.slices_Grow_string.b (fun r0 => some ⟨[(.v false [(.ow 9 true r0)])], []⟩) n1 by kernel_rfl) hN
  intro args r h
  unfold sp234 at h
  split at h
  · injection h with h
    injection h with h1 h2
    subst h2
    exact ⟨by kernel_rfl, fun hf => ⟨of_decide_eq_true (by kernel_rfl), key _ h1⟩⟩
  · cases h

end Go.FG.Se

namespace Go.FG.Se
open Go.Proofs
def E222 : Env := { toTab := T, call := Go.FG.callIn [(234, sp234)], mode := Go.FG.modeIn md, keep := Go.FG.keepIn [(3, [0, 3, 9, 10, 11]), (11, [6, 25, 26, 27])], tk := fun n => Go.FG.memB n [], om := Go.FG.omIn [] }
def it222 (N : Nat) {R : Type} : It R := fun rid f cn L K => bif Nat.beq rid 3 then (tell [(0, (.v (.v false [(.sh 44 [])]))), (6, (.v (.v false [(.i .i64 0)]))), (18, (.v (.v false [(.sh 44 [])]))), (20, (.v (.v false [(.i .i64 0)]))), (22, (.v (.v false [(.i .i64 0)])))] (fun | [.R x0, .I x1, .R x2, .I x3, .I x4] => Pu.slices_Concat_string.l3 N (fun y0 y1 y2 y3 y4 => (K (.exit 0) (tabl [(0, (.v (.v false [(.sh 44 y0)]))), (6, (.v (.v false [(.i .i64 y1)]))), (18, (.v (.v false [(.sh 44 y2)]))), (20, (.v (.v false [(.i .i64 y3)]))), (22, (.v (.v false [(.i .i64 y4)])))]))) N x0 x1 x2 x3 x4 | _ => none) L (none)) else bif Nat.beq rid 11 then (tell [(12, (.v (.v false [(.own 0)]))), (50, (.v (.v false [(.sh 44 [])]))), (52, (.v (.v false [(.i .i64 0)]))), (54, (.v (.v false [(.i .i64 0)]))), (1, (.o (.row 9 true [])))] (fun | [.R x10, .I x11, .I x12, .R x13] => Pu.slices_Concat_string.l11 N (fun y0 y1 y2 y3 => (K (.exit 2) (tabl [(12, (.v (.v false [(.own 0)]))), (50, (.v (.v false [(.sh 44 y0)]))), (52, (.v (.v false [(.i .i64 y1)]))), (54, (.v (.v false [(.i .i64 y2)]))), (1, (.o (.row 9 true y3)))]))) N x10 x11 x12 x13 | _ => none) L (none)) else none
theorem e222_3 {R : Type} (N : Nat) (K : Ex → St → Option R) : ∀ n : Nat, (∀ x0 x1 x2 x3 x4, iter (exc E222 (it222 N) (loopOf Try.f222 3)) (canon (E222.keep 3))  n (tabl [(0, (.v (.v false [(.sh 44 x0)]))), (6, (.v (.v false [(.i .i64 x1)]))), (18, (.v (.v false [(.sh 44 x2)]))), (20, (.v (.v false [(.i .i64 x3)]))), (22, (.v (.v false [(.i .i64 x4)])))]) K = Pu.slices_Concat_string.l3 N (fun y0 y1 y2 y3 y4 => (K (.exit 0) (tabl [(0, (.v (.v false [(.sh 44 y0)]))), (6, (.v (.v false [(.i .i64 y1)]))), (18, (.v (.v false [(.sh 44 y2)]))), (20, (.v (.v false [(.i .i64 y3)]))), (22, (.v (.v false [(.i .i64 y4)])))]))) n x0 x1 x2 x3 x4) := by
  intro n
  induction n with
  | zero => exact (fun _ _ _ _ _ => rfl)
  | succ n ih =>
    have e0 : (fun x0 x1 x2 x3 x4 => iter (exc E222 (it222 N) (loopOf Try.f222 3)) (canon (E222.keep 3))  n (tabl [(0, (.v (.v false [(.sh 44 x0)]))), (6, (.v (.v false [(.i .i64 x1)]))), (18, (.v (.v false [(.sh 44 x2)]))), (20, (.v (.v false [(.i .i64 x3)]))), (22, (.v (.v false [(.i .i64 x4)])))]) K) = Pu.slices_Concat_string.l3 N (fun y0 y1 y2 y3 y4 => (K (.exit 0) (tabl [(0, (.v (.v false [(.sh 44 y0)]))), (6, (.v (.v false [(.i .i64 y1)]))), (18, (.v (.v false [(.sh 44 y2)]))), (20, (.v (.v false [(.i .i64 y3)]))), (22, (.v (.v false [(.i .i64 y4)])))]))) n := by funext x0 x1 x2 x3 x4; exact ih x0 x1 x2 x3 x4
    intro x0 x1 x2 x3 x4
    have h : ∀ g, exc E222 (it222 N) (loopOf Try.f222 3) (tabl [(0, (.v (.v false [(.sh 44 x0)]))), (6, (.v (.v false [(.i .i64 x1)]))), (18, (.v (.v false [(.sh 44 x2)]))), (20, (.v (.v false [(.i .i64 x3)]))), (22, (.v (.v false [(.i .i64 x4)])))]) (iterK g (canon (E222.keep 3)) K) = Pu.slices_Concat_string.r3 N (fun x0 x1 x2 x3 x4 => (g (tabl [(0, (.v (.v false [(.sh 44 x0)]))), (6, (.v (.v false [(.i .i64 x1)]))), (18, (.v (.v false [(.sh 44 x2)]))), (20, (.v (.v false [(.i .i64 x3)]))), (22, (.v (.v false [(.i .i64 x4)])))]))) (fun y0 y1 y2 y3 y4 => (K (.exit 0) (tabl [(0, (.v (.v false [(.sh 44 y0)]))), (6, (.v (.v false [(.i .i64 y1)]))), (18, (.v (.v false [(.sh 44 y2)]))), (20, (.v (.v false [(.i .i64 y3)]))), (22, (.v (.v false [(.i .i64 y4)])))]))) x0 x1 x2 x3 x4 := by intro g; kernel_rfl
    refine (iter_succ _ _ n _ K).trans ((h _).trans ?_)
    show Pu.slices_Concat_string.r3 N (fun x0 x1 x2 x3 x4 => (iter (exc E222 (it222 N) (loopOf Try.f222 3)) (canon (E222.keep 3))  n (tabl [(0, (.v (.v false [(.sh 44 x0)]))), (6, (.v (.v false [(.i .i64 x1)]))), (18, (.v (.v false [(.sh 44 x2)]))), (20, (.v (.v false [(.i .i64 x3)]))), (22, (.v (.v false [(.i .i64 x4)])))]) K)) (fun y0 y1 y2 y3 y4 => (K (.exit 0) (tabl [(0, (.v (.v false [(.sh 44 y0)]))), (6, (.v (.v false [(.i .i64 y1)]))), (18, (.v (.v false [(.sh 44 y2)]))), (20, (.v (.v false [(.i .i64 y3)]))), (22, (.v (.v false [(.i .i64 y4)])))]))) x0 x1 x2 x3 x4 = _
    rw [e0]; rfl
theorem lo222_3 {R : Type} (N : Nat) : LoopOk E222 (it222 N (R := R)) (loopOf Try.f222 3) := by
  have e : firstRid (loopOf Try.f222 3) = 3 := by kernel_rfl
  intro L K r
  rw [e]
  intro h
  unfold it222 at h
  simp only [show Nat.beq 3 3 = true from rfl, cond_false, cond_true] at h
  refine tell_ok (Q := fun L => ∃ n, iter (exc E222 (it222 N) (loopOf Try.f222 3)) (canon (E222.keep 3)) n (tabl L) K = some r) h (fun xs h => ?_) (fun h => ?_)
  · (try dsimp only at h)
    split at h
    · exact ⟨N, ((e222_3 N K N) _ _ _ _ _).trans h⟩
    · cases h
  cases h
theorem e222_11 {R : Type} (N : Nat) (K : Ex → St → Option R) : ∀ n : Nat, (∀ x10 x11 x12 x13, iter (exc E222 (it222 N) (loopOf Try.f222 11)) (canon (E222.keep 11))  n (tabl [(12, (.v (.v false [(.own 0)]))), (50, (.v (.v false [(.sh 44 x10)]))), (52, (.v (.v false [(.i .i64 x11)]))), (54, (.v (.v false [(.i .i64 x12)]))), (1, (.o (.row 9 true x13)))]) K = Pu.slices_Concat_string.l11 N (fun y0 y1 y2 y3 => (K (.exit 2) (tabl [(12, (.v (.v false [(.own 0)]))), (50, (.v (.v false [(.sh 44 y0)]))), (52, (.v (.v false [(.i .i64 y1)]))), (54, (.v (.v false [(.i .i64 y2)]))), (1, (.o (.row 9 true y3)))]))) n x10 x11 x12 x13) := by
  intro n
  induction n with
  | zero => exact (fun _ _ _ _ => rfl)
  | succ n ih =>
    have e0 : (fun x10 x11 x12 x13 => iter (exc E222 (it222 N) (loopOf Try.f222 11)) (canon (E222.keep 11))  n (tabl [(12, (.v (.v false [(.own 0)]))), (50, (.v (.v false [(.sh 44 x10)]))), (52, (.v (.v false [(.i .i64 x11)]))), (54, (.v (.v false [(.i .i64 x12)]))), (1, (.o (.row 9 true x13)))]) K) = Pu.slices_Concat_string.l11 N (fun y0 y1 y2 y3 => (K (.exit 2) (tabl [(12, (.v (.v false [(.own 0)]))), (50, (.v (.v false [(.sh 44 y0)]))), (52, (.v (.v false [(.i .i64 y1)]))), (54, (.v (.v false [(.i .i64 y2)]))), (1, (.o (.row 9 true y3)))]))) n := by funext x10 x11 x12 x13; exact ih x10 x11 x12 x13
    intro x10 x11 x12 x13
    have h : ∀ g, exc E222 (it222 N) (loopOf Try.f222 11) (tabl [(12, (.v (.v false [(.own 0)]))), (50, (.v (.v false [(.sh 44 x10)]))), (52, (.v (.v false [(.i .i64 x11)]))), (54, (.v (.v false [(.i .i64 x12)]))), (1, (.o (.row 9 true x13)))]) (iterK g (canon (E222.keep 11)) K) = Pu.slices_Concat_string.r11 N (fun x10 x11 x12 x13 => (g (tabl [(12, (.v (.v false [(.own 0)]))), (50, (.v (.v false [(.sh 44 x10)]))), (52, (.v (.v false [(.i .i64 x11)]))), (54, (.v (.v false [(.i .i64 x12)]))), (1, (.o (.row 9 true x13)))]))) (fun y0 y1 y2 y3 => (K (.exit 2) (tabl [(12, (.v (.v false [(.own 0)]))), (50, (.v (.v false [(.sh 44 y0)]))), (52, (.v (.v false [(.i .i64 y1)]))), (54, (.v (.v false [(.i .i64 y2)]))), (1, (.o (.row 9 true y3)))]))) x10 x11 x12 x13 := by intro g; kernel_rfl
    refine (iter_succ _ _ n _ K).trans ((h _).trans ?_)
    show Pu.slices_Concat_string.r11 N (fun x10 x11 x12 x13 => (iter (exc E222 (it222 N) (loopOf Try.f222 11)) (canon (E222.keep 11))  n (tabl [(12, (.v (.v false [(.own 0)]))), (50, (.v (.v false [(.sh 44 x10)]))), (52, (.v (.v false [(.i .i64 x11)]))), (54, (.v (.v false [(.i .i64 x12)]))), (1, (.o (.row 9 true x13)))]) K)) (fun y0 y1 y2 y3 => (K (.exit 2) (tabl [(12, (.v (.v false [(.own 0)]))), (50, (.v (.v false [(.sh 44 y0)]))), (52, (.v (.v false [(.i .i64 y1)]))), (54, (.v (.v false [(.i .i64 y2)]))), (1, (.o (.row 9 true y3)))]))) x10 x11 x12 x13 = _
    rw [e0]; rfl
theorem lo222_11 {R : Type} (N : Nat) : LoopOk E222 (it222 N (R := R)) (loopOf Try.f222 11) := by
  have e : firstRid (loopOf Try.f222 11) = 11 := by kernel_rfl
  intro L K r
  rw [e]
  intro h
  unfold it222 at h
  simp only [show Nat.beq 11 3 = false from rfl, show Nat.beq 11 11 = true from rfl, cond_false, cond_true] at h
  refine tell_ok (Q := fun L => ∃ n, iter (exc E222 (it222 N) (loopOf Try.f222 11)) (canon (E222.keep 11)) n (tabl L) K = some r) h (fun xs h => ?_) (fun h => ?_)
  · (try dsimp only at h)
    split at h
    · exact ⟨N, ((e222_11 N K N) _ _ _ _).trans h⟩
    · cases h
  cases h
def sp222 : List Arg → Option (Bool × Res)
  | [(.v false [(.sh 44 slices0)])] => some (Pu.slices_Concat_string.c slices0, ⟨[(.v false [(.ow 9 true (Pu.slices_Concat_string.v slices0))])], []⟩)
  | _ => none
theorem ok222 : FnOk Try.prog T 222 sp222 := by
  refine fn_ok (E := E222) hE (call_cons ok234 call_nil) hM Try.func222 (code := (Try.f222.body.getD .skip)) (by kernel_rfl) (by kernel_rfl) ?_
  have key : ∀ (slices0 : Row), Pu.slices_Concat_string.c slices0 = true → ∃ it : It Res, (∀ c ∈ loopsOf (Try.f222.body.getD .skip), LoopOk E222 it c) ∧ body E222 it Try.f222 [(.v false [(.sh 44 slices0)])] = some ⟨[(.v false [(.ow 9 true (Pu.slices_Concat_string.v slices0))])], []⟩ := by
    intro slices0  h1
    obtain ⟨N, hN⟩ := Pu.slices_Concat_string.b_eq (R := Res) (fun r0 => some ⟨[(.v false [(.ow 9 true r0)])], []⟩) slices0 h1
    have hl : loopsOf (Try.f222.body.getD .skip) = [loopOf Try.f222 3, loopOf Try.f222 11] := by kernel_rfl
    refine ⟨it222 N, by rw [hl]; exact (loops_cons (lo222_3 N) (loops_cons (lo222_11 N) loops_nil)), ?_⟩
    refine Eq.trans (show body E222 (it222 N) Try.f222 [(.v false [(.sh 44 slices0)])] = Pu.slices_Concat_string.b N (fun r0 => some ⟨[(.v false [(.ow 9 true r0)])], []⟩) slices0 by kernel_rfl) hN
  intro args r h
  unfold sp222 at h
  split at h
  · injection h with h
    injection h with h1 h2
    subst h2
    exact ⟨by kernel_rfl, fun hf => ⟨of_decide_eq_true (by kernel_rfl), key _ h1⟩⟩
  · cases h

end Go.FG.Se

namespace Go.FG.Se
open Go.Proofs
def E183 : Env := { toTab := T, call := Go.FG.callIn [(222, sp222)], mode := Go.FG.modeIn md, keep := Go.FG.keepIn [], tk := fun n => Go.FG.memB n [], om := Go.FG.omIn [] }
def sp183 : List Arg → Option (Bool × Res)
  | [(.v true [(.sh 9 p0_0), (.sh 9 p0_1), (.sh 30 p0_2), (.i .i64 p0_3)])] => some (Pu.impl_keysIn.c p0_0 p0_1 p0_2 p0_3, ⟨[(.v false [(.ow 9 true (Pu.impl_keysIn.v p0_0 p0_1 p0_2 p0_3))])], []⟩)
  | _ => none
theorem ok183 : FnOk Try.prog T 183 sp183 := by
  refine fn_ok (E := E183) hE (call_cons ok222 call_nil) hM Try.func183 (code := (Try.f183.body.getD .skip)) (by kernel_rfl) (by kernel_rfl) ?_
  have key : ∀ (p0_0 : Row) (p0_1 : Row) (p0_2 : Row) (p0_3 : Int), Pu.impl_keysIn.c p0_0 p0_1 p0_2 p0_3 = true → ∃ it : It Res, (∀ c ∈ loopsOf (Try.f183.body.getD .skip), LoopOk E183 it c) ∧ body E183 it Try.f183 [(.v true [(.sh 9 p0_0), (.sh 9 p0_1), (.sh 30 p0_2), (.i .i64 p0_3)])] = some ⟨[(.v false [(.ow 9 true (Pu.impl_keysIn.v p0_0 p0_1 p0_2 p0_3))])], []⟩ := by
    intro p0_0 p0_1 p0_2 p0_3  h1
    have hN := Pu.impl_keysIn.b_eq (R := Res) (fun r0 => some ⟨[(.v false [(.ow 9 true r0)])], []⟩) p0_0 p0_1 p0_2 p0_3 h1
    have hl : loopsOf (Try.f183.body.getD .skip) = [] := by kernel_rfl
    refine ⟨iterN 0, by rw [hl]; exact loops_nil, ?_⟩
    refine Eq.trans (show body E183 (iterN 0) Try.f183 [(.v true [(.sh 9 p0_0), (.sh 9 p0_1), (.sh 30 p0_2), (.i .i64 p0_3)])] = Pu.impl_keysIn.b (fun r0 => some ⟨[(.v false [(.ow 9 true r0)])], []⟩) p0_0 p0_1 p0_2 p0_3 by kernel_rfl) hN
  intro args r h
  unfold sp183 at h
  split at h
  · injection h with h
    injection h with h1 h2
    subst h2
    exact ⟨by kernel_rfl, fun hf => ⟨of_decide_eq_true (by kernel_rfl), key _ _ _ _ h1⟩⟩
  · cases h

end Go.FG.Se

namespace Go.FG.Se
open Go.Proofs
def E70 : Env := { toTab := T, call := Go.FG.callIn [], mode := Go.FG.modeIn md, keep := Go.FG.keepIn [], tk := fun n => Go.FG.memB n [], om := Go.FG.omIn [] }
def sp70 : List Arg → Option (Bool × Res)
  | [(.v false [(.i .i64 n0)]), (.v false [(.i .i64 low1)]), (.v false [(.i .i64 high2)])] => some (true, ⟨[(.v false [(.b (Pu.impl_within.v n0 low1 high2))])], []⟩)
  | _ => none
theorem ok70 : FnOk Try.prog T 70 sp70 := by
  refine fn_ok (E := E70) hE call_nil hM Try.func70 (code := (Try.f70.body.getD .skip)) (by kernel_rfl) (by kernel_rfl) ?_
  have key : ∀ (n0 : Int) (low1 : Int) (high2 : Int), ∃ it : It Res, (∀ c ∈ loopsOf (Try.f70.body.getD .skip), LoopOk E70 it c) ∧ body E70 it Try.f70 [(.v false [(.i .i64 n0)]), (.v false [(.i .i64 low1)]), (.v false [(.i .i64 high2)])] = some ⟨[(.v false [(.b (Pu.impl_within.v n0 low1 high2))])], []⟩ := by
    intro n0 low1 high2 
    have hN := Pu.impl_within.b_eq (R := Res) (fun r0 => some ⟨[(.v false [(.b r0)])], []⟩) n0 low1 high2
    have hl : loopsOf (Try.f70.body.getD .skip) = [] := by kernel_rfl
    refine ⟨iterN 0, by rw [hl]; exact loops_nil, ?_⟩
    refine Eq.trans (show body E70 (iterN 0) Try.f70 [(.v false [(.i .i64 n0)]), (.v false [(.i .i64 low1)]), (.v false [(.i .i64 high2)])] = Pu.impl_within.b (fun r0 => some ⟨[(.v false [(.b r0)])], []⟩) n0 low1 high2 by kernel_rfl) hN
  intro args r h
  unfold sp70 at h
  split at h
  · injection h with h
    injection h with h1 h2
    subst h2
    exact ⟨by kernel_rfl, fun hf => ⟨of_decide_eq_true (by kernel_rfl), key _ _ _⟩⟩
  · cases h

end Go.FG.Se

namespace Go.FG.Se
open Go.Proofs
def E78 : Env := { toTab := T, call := Go.FG.callIn [(70, sp70)], mode := Go.FG.modeIn md, keep := Go.FG.keepIn [], tk := fun n => Go.FG.memB n [], om := Go.FG.omIn [] }
def sp78 : List Arg → Option (Bool × Res)
  | [(.v false [(.s key0)])] => some (true, ⟨[(.v false [(.b (Pu.impl_isKey.v key0))])], []⟩)
  | _ => none
theorem ok78 : FnOk Try.prog T 78 sp78 := by
  refine fn_ok (E := E78) hE (call_cons ok70 call_nil) hM Try.func78 (code := (Try.f78.body.getD .skip)) (by kernel_rfl) (by kernel_rfl) ?_
  have key : ∀ (key0 : ByteArray), ∃ it : It Res, (∀ c ∈ loopsOf (Try.f78.body.getD .skip), LoopOk E78 it c) ∧ body E78 it Try.f78 [(.v false [(.s key0)])] = some ⟨[(.v false [(.b (Pu.impl_isKey.v key0))])], []⟩ := by
    intro key0 
    have hN := Pu.impl_isKey.b_eq (R := Res) (fun r0 => some ⟨[(.v false [(.b r0)])], []⟩) key0
    have hl : loopsOf (Try.f78.body.getD .skip) = [] := by kernel_rfl
    refine ⟨iterN 0, by rw [hl]; exact loops_nil, ?_⟩
    refine Eq.trans (show body E78 (iterN 0) Try.f78 [(.v false [(.s key0)])] = Pu.impl_isKey.b (fun r0 => some ⟨[(.v false [(.b r0)])], []⟩) key0 by kernel_rfl) hN
  intro args r h
  unfold sp78 at h
  split at h
  · injection h with h
    injection h with h1 h2
    subst h2
    exact ⟨by kernel_rfl, fun hf => ⟨of_decide_eq_true (by kernel_rfl), key _⟩⟩
  · cases h

end Go.FG.Se

namespace Go.FG.Se
open Go.Proofs
def E191 : Env := { toTab := T, call := Go.FG.callIn [], mode := Go.FG.modeIn md, keep := Go.FG.keepIn [(2, [0, 1, 4, 7, 8])], tk := fun n => Go.FG.memB n [], om := Go.FG.omIn [] }
def it191 (N : Nat) {R : Type} : It R := fun rid f cn L K => bif Nat.beq rid 2 then (tell [(0, (.v (.v false [(.sh 9 [])]))), (2, (.v (.v false [(.s ⟨#[]⟩)]))), (8, (.v (.v false [(.i .i64 0)]))), (14, (.v (.v false [(.i .i64 0)]))), (16, (.v (.v false [(.i .i64 0)])))] (fun | [.R x0, .S x1, .I x2, .I x3, .I x4] => Pu.slices_Index_string.l2 N (fun y0 y1 y2 y3 y4 => (K .ret (tabl [(0, (.v (.v false [(.sh 9 y0)]))), (2, (.v (.v false [(.s y1)]))), (8, (.v (.v false [(.i .i64 y2)]))), (14, (.v (.v false [(.i .i64 y3)]))), (16, (.v (.v false [(.i .i64 y4)])))]))) (fun y0 y1 y2 y3 y4 => (K (.exit 0) (tabl [(0, (.v (.v false [(.sh 9 y0)]))), (2, (.v (.v false [(.s y1)]))), (8, (.v (.v false [(.i .i64 y2)]))), (14, (.v (.v false [(.i .i64 y3)]))), (16, (.v (.v false [(.i .i64 y4)])))]))) N x0 x1 x2 x3 x4 | _ => none) L (none)) else none
theorem e191_2 {R : Type} (N : Nat) (K : Ex → St → Option R) : ∀ n : Nat, (∀ x0 x1 x2 x3 x4, iter (exc E191 (it191 N) (loopOf Try.f191 2)) (canon (E191.keep 2))  n (tabl [(0, (.v (.v false [(.sh 9 x0)]))), (2, (.v (.v false [(.s x1)]))), (8, (.v (.v false [(.i .i64 x2)]))), (14, (.v (.v false [(.i .i64 x3)]))), (16, (.v (.v false [(.i .i64 x4)])))]) K = Pu.slices_Index_string.l2 N (fun y0 y1 y2 y3 y4 => (K .ret (tabl [(0, (.v (.v false [(.sh 9 y0)]))), (2, (.v (.v false [(.s y1)]))), (8, (.v (.v false [(.i .i64 y2)]))), (14, (.v (.v false [(.i .i64 y3)]))), (16, (.v (.v false [(.i .i64 y4)])))]))) (fun y0 y1 y2 y3 y4 => (K (.exit 0) (tabl [(0, (.v (.v false [(.sh 9 y0)]))), (2, (.v (.v false [(.s y1)]))), (8, (.v (.v false [(.i .i64 y2)]))), (14, (.v (.v false [(.i .i64 y3)]))), (16, (.v (.v false [(.i .i64 y4)])))]))) n x0 x1 x2 x3 x4) := by
  intro n
  induction n with
  | zero => exact (fun _ _ _ _ _ => rfl)
  | succ n ih =>
    have e0 : (fun x0 x1 x2 x3 x4 => iter (exc E191 (it191 N) (loopOf Try.f191 2)) (canon (E191.keep 2))  n (tabl [(0, (.v (.v false [(.sh 9 x0)]))), (2, (.v (.v false [(.s x1)]))), (8, (.v (.v false [(.i .i64 x2)]))), (14, (.v (.v false [(.i .i64 x3)]))), (16, (.v (.v false [(.i .i64 x4)])))]) K) = Pu.slices_Index_string.l2 N (fun y0 y1 y2 y3 y4 => (K .ret (tabl [(0, (.v (.v false [(.sh 9 y0)]))), (2, (.v (.v false [(.s y1)]))), (8, (.v (.v false [(.i .i64 y2)]))), (14, (.v (.v false [(.i .i64 y3)]))), (16, (.v (.v false [(.i .i64 y4)])))]))) (fun y0 y1 y2 y3 y4 => (K (.exit 0) (tabl [(0, (.v (.v false [(.sh 9 y0)]))), (2, (.v (.v false [(.s y1)]))), (8, (.v (.v false [(.i .i64 y2)]))), (14, (.v (.v false [(.i .i64 y3)]))), (16, (.v (.v false [(.i .i64 y4)])))]))) n := by funext x0 x1 x2 x3 x4; exact ih x0 x1 x2 x3 x4
    intro x0 x1 x2 x3 x4
    have h : ∀ g, exc E191 (it191 N) (loopOf Try.f191 2) (tabl [(0, (.v (.v false [(.sh 9 x0)]))), (2, (.v (.v false [(.s x1)]))), (8, (.v (.v false [(.i .i64 x2)]))), (14, (.v (.v false [(.i .i64 x3)]))), (16, (.v (.v false [(.i .i64 x4)])))]) (iterK g (canon (E191.keep 2)) K) = Pu.slices_Index_string.r2 N (fun x0 x1 x2 x3 x4 => (g (tabl [(0, (.v (.v false [(.sh 9 x0)]))), (2, (.v (.v false [(.s x1)]))), (8, (.v (.v false [(.i .i64 x2)]))), (14, (.v (.v false [(.i .i64 x3)]))), (16, (.v (.v false [(.i .i64 x4)])))]))) (fun y0 y1 y2 y3 y4 => (K .ret (tabl [(0, (.v (.v false [(.sh 9 y0)]))), (2, (.v (.v false [(.s y1)]))), (8, (.v (.v false [(.i .i64 y2)]))), (14, (.v (.v false [(.i .i64 y3)]))), (16, (.v (.v false [(.i .i64 y4)])))]))) (fun y0 y1 y2 y3 y4 => (K (.exit 0) (tabl [(0, (.v (.v false [(.sh 9 y0)]))), (2, (.v (.v false [(.s y1)]))), (8, (.v (.v false [(.i .i64 y2)]))), (14, (.v (.v false [(.i .i64 y3)]))), (16, (.v (.v false [(.i .i64 y4)])))]))) x0 x1 x2 x3 x4 := by intro g; kernel_rfl
    refine (iter_succ _ _ n _ K).trans ((h _).trans ?_)
    show Pu.slices_Index_string.r2 N (fun x0 x1 x2 x3 x4 => (iter (exc E191 (it191 N) (loopOf Try.f191 2)) (canon (E191.keep 2))  n (tabl [(0, (.v (.v false [(.sh 9 x0)]))), (2, (.v (.v false [(.s x1)]))), (8, (.v (.v false [(.i .i64 x2)]))), (14, (.v (.v false [(.i .i64 x3)]))), (16, (.v (.v false [(.i .i64 x4)])))]) K)) (fun y0 y1 y2 y3 y4 => (K .ret (tabl [(0, (.v (.v false [(.sh 9 y0)]))), (2, (.v (.v false [(.s y1)]))), (8, (.v (.v false [(.i .i64 y2)]))), (14, (.v (.v false [(.i .i64 y3)]))), (16, (.v (.v false [(.i .i64 y4)])))]))) (fun y0 y1 y2 y3 y4 => (K (.exit 0) (tabl [(0, (.v (.v false [(.sh 9 y0)]))), (2, (.v (.v false [(.s y1)]))), (8, (.v (.v false [(.i .i64 y2)]))), (14, (.v (.v false [(.i .i64 y3)]))), (16, (.v (.v false [(.i .i64 y4)])))]))) x0 x1 x2 x3 x4 = _
    rw [e0]; rfl
theorem lo191_2 {R : Type} (N : Nat) : LoopOk E191 (it191 N (R := R)) (loopOf Try.f191 2) := by
  have e : firstRid (loopOf Try.f191 2) = 2 := by kernel_rfl
  intro L K r
  rw [e]
  intro h
  unfold it191 at h
  simp only [show Nat.beq 2 2 = true from rfl, cond_false, cond_true] at h
  refine tell_ok (Q := fun L => ∃ n, iter (exc E191 (it191 N) (loopOf Try.f191 2)) (canon (E191.keep 2)) n (tabl L) K = some r) h (fun xs h => ?_) (fun h => ?_)
  · (try dsimp only at h)
    split at h
    · exact ⟨N, ((e191_2 N K N) _ _ _ _ _).trans h⟩
    · cases h
  cases h
def sp191 : List Arg → Option (Bool × Res)
  | [(.v false [(.sh 9 s0)]), (.v false [(.s v1)])] => some (Pu.slices_Index_string.c s0 v1, ⟨[(.v false [(.i .i64 (Pu.slices_Index_string.v s0 v1))])], []⟩)
  | _ => none
theorem ok191 : FnOk Try.prog T 191 sp191 := by
  refine fn_ok (E := E191) hE call_nil hM Try.func191 (code := (Try.f191.body.getD .skip)) (by kernel_rfl) (by kernel_rfl) ?_
  have key : ∀ (s0 : Row) (v1 : ByteArray), Pu.slices_Index_string.c s0 v1 = true → ∃ it : It Res, (∀ c ∈ loopsOf (Try.f191.body.getD .skip), LoopOk E191 it c) ∧ body E191 it Try.f191 [(.v false [(.sh 9 s0)]), (.v false [(.s v1)])] = some ⟨[(.v false [(.i .i64 (Pu.slices_Index_string.v s0 v1))])], []⟩ := by
    intro s0 v1  h1
    obtain ⟨N, hN⟩ := Pu.slices_Index_string.b_eq (R := Res) (fun r0 => some ⟨[(.v false [(.i .i64 r0)])], []⟩) s0 v1 h1
    have hl : loopsOf (Try.f191.body.getD .skip) = [loopOf Try.f191 2] := by kernel_rfl
    refine ⟨it191 N, by rw [hl]; exact (loops_cons (lo191_2 N) loops_nil), ?_⟩
    refine Eq.trans (show body E191 (it191 N) Try.f191 [(.v false [(.sh 9 s0)]), (.v false [(.s v1)])] = Pu.slices_Index_string.b N (fun r0 => some ⟨[(.v false [(.i .i64 r0)])], []⟩) s0 v1 by kernel_rfl) hN
  intro args r h
  unfold sp191 at h
  split at h
  · injection h with h
    injection h with h1 h2
    subst h2
    exact ⟨by kernel_rfl, fun hf => ⟨of_decide_eq_true (by kernel_rfl), key _ _ h1⟩⟩
  · cases h

end Go.FG.Se

namespace Go.FG.Se
open Go.Proofs
def E110 : Env := { toTab := T, call := Go.FG.callIn [(191, sp191)], mode := Go.FG.modeIn md, keep := Go.FG.keepIn [], tk := fun n => Go.FG.memB n [], om := Go.FG.omIn [] }
def sp110 : List Arg → Option (Bool × Res)
  | [(.v false [(.sh 9 s0)]), (.v false [(.s v1)])] => some (Pu.slices_Contains_string.c s0 v1, ⟨[(.v false [(.b (Pu.slices_Contains_string.v s0 v1))])], []⟩)
  | _ => none
theorem ok110 : FnOk Try.prog T 110 sp110 := by
  refine fn_ok (E := E110) hE (call_cons ok191 call_nil) hM Try.func110 (code := (Try.f110.body.getD .skip)) (by kernel_rfl) (by kernel_rfl) ?_
  have key : ∀ (s0 : Row) (v1 : ByteArray), Pu.slices_Contains_string.c s0 v1 = true → ∃ it : It Res, (∀ c ∈ loopsOf (Try.f110.body.getD .skip), LoopOk E110 it c) ∧ body E110 it Try.f110 [(.v false [(.sh 9 s0)]), (.v false [(.s v1)])] = some ⟨[(.v false [(.b (Pu.slices_Contains_string.v s0 v1))])], []⟩ := by
    intro s0 v1  h1
    have hN := Pu.slices_Contains_string.b_eq (R := Res) (fun r0 => some ⟨[(.v false [(.b r0)])], []⟩) s0 v1 h1
    have hl : loopsOf (Try.f110.body.getD .skip) = [] := by kernel_rfl
    refine ⟨iterN 0, by rw [hl]; exact loops_nil, ?_⟩
    refine Eq.trans (show body E110 (iterN 0) Try.f110 [(.v false [(.sh 9 s0)]), (.v false [(.s v1)])] = Pu.slices_Contains_string.b (fun r0 => some ⟨[(.v false [(.b r0)])], []⟩) s0 v1 by kernel_rfl) hN
  intro args r h
  unfold sp110 at h
  split at h
  · injection h with h
    injection h with h1 h2
    subst h2
    exact ⟨by kernel_rfl, fun hf => ⟨of_decide_eq_true (by kernel_rfl), key _ _ h1⟩⟩
  · cases h

end Go.FG.Se

namespace Go.FG.Se
open Go.Proofs
def E178 : Env := { toTab := T, call := Go.FG.callIn [(70, sp70)], mode := Go.FG.modeIn md, keep := Go.FG.keepIn [(2, [1, 2, 8, 9, 10]), (5, [1, 2, 4, 8, 9, 10, 14, 15, 16])], tk := fun n => Go.FG.memB n [], om := Go.FG.omIn [] }
def it178 (N : Nat) {R : Type} : It R := fun rid f cn L K => bif Nat.beq rid 2 then (tell [(2, (.v (.v false [(.bp 0 0)]))), (4, (.v (.v false [(.b false)]))), (16, (.v (.v false [(.sh 30 [])]))), (18, (.v (.v false [(.i .i64 0)]))), (20, (.v (.v false [(.i .i64 0)]))), (1, (.o (.box [(.sh 30 []), (.i .i64 0)])))] (fun | [.B x0, .R x1, .I x2, .I x3, .R x4, .I x5] => Pu.impl_SketchOk.l2 N (fun y0 y1 y2 y3 y4 y5 => (K .ret (tabl [(2, (.v (.v false [(.bp 0 0)]))), (4, (.v (.v false [(.b y0)]))), (16, (.v (.v false [(.sh 30 y1)]))), (18, (.v (.v false [(.i .i64 y2)]))), (20, (.v (.v false [(.i .i64 y3)]))), (1, (.o (.box [(.sh 30 y4), (.i .i64 y5)])))]))) (fun y0 y1 y2 y3 y4 y5 => (K (.exit 0) (tabl [(2, (.v (.v false [(.bp 0 0)]))), (4, (.v (.v false [(.b y0)]))), (16, (.v (.v false [(.sh 30 y1)]))), (18, (.v (.v false [(.i .i64 y2)]))), (20, (.v (.v false [(.i .i64 y3)]))), (1, (.o (.box [(.sh 30 y4), (.i .i64 y5)])))]))) N x0 x1 x2 x3 x4 x5 | _ => none) L (none)) else bif Nat.beq rid 5 then (tell [(2, (.v (.v false [(.bp 0 0)]))), (4, (.v (.v false [(.b false)]))), (8, (.v (.v false [(.sh 3 [])]))), (16, (.v (.v false [(.sh 30 [])]))), (18, (.v (.v false [(.i .i64 0)]))), (20, (.v (.v false [(.i .i64 0)]))), (28, (.v (.v false [(.sh 3 [])]))), (30, (.v (.v false [(.i .i64 0)]))), (32, (.v (.v false [(.i .i64 0)]))), (1, (.o (.box [(.sh 30 []), (.i .i64 0)])))] (fun | [.B x6, .R x7, .R x8, .I x9, .I x10, .R x11, .I x12, .I x13, .R x14, .I x15] => Pu.impl_SketchOk.l5 N (fun y0 y1 y2 y3 y4 y5 y6 y7 y8 y9 => (K .ret (tabl [(2, (.v (.v false [(.bp 0 0)]))), (4, (.v (.v false [(.b y0)]))), (8, (.v (.v false [(.sh 3 y1)]))), (16, (.v (.v false [(.sh 30 y2)]))), (18, (.v (.v false [(.i .i64 y3)]))), (20, (.v (.v false [(.i .i64 y4)]))), (28, (.v (.v false [(.sh 3 y5)]))), (30, (.v (.v false [(.i .i64 y6)]))), (32, (.v (.v false [(.i .i64 y7)]))), (1, (.o (.box [(.sh 30 y8), (.i .i64 y9)])))]))) (fun y0 y1 y2 y3 y4 y5 y6 y7 y8 y9 => (K (.exit 2) (tabl [(2, (.v (.v false [(.bp 0 0)]))), (4, (.v (.v false [(.b y0)]))), (8, (.v (.v false [(.sh 3 y1)]))), (16, (.v (.v false [(.sh 30 y2)]))), (18, (.v (.v false [(.i .i64 y3)]))), (20, (.v (.v false [(.i .i64 y4)]))), (28, (.v (.v false [(.sh 3 y5)]))), (30, (.v (.v false [(.i .i64 y6)]))), (32, (.v (.v false [(.i .i64 y7)]))), (1, (.o (.box [(.sh 30 y8), (.i .i64 y9)])))]))) N x6 x7 x8 x9 x10 x11 x12 x13 x14 x15 | _ => none) L (none)) else none
theorem e178_2 {R : Type} (N : Nat) (K : Ex → St → Option R) : ∀ n : Nat, (∀ x0 x1 x2 x3 x4 x5, iter (exc E178 (it178 N) (loopOf Try.f178 2)) (canon (E178.keep 2))  n (tabl [(2, (.v (.v false [(.bp 0 0)]))), (4, (.v (.v false [(.b x0)]))), (16, (.v (.v false [(.sh 30 x1)]))), (18, (.v (.v false [(.i .i64 x2)]))), (20, (.v (.v false [(.i .i64 x3)]))), (1, (.o (.box [(.sh 30 x4), (.i .i64 x5)])))]) K = Pu.impl_SketchOk.l2 N (fun y0 y1 y2 y3 y4 y5 => (K .ret (tabl [(2, (.v (.v false [(.bp 0 0)]))), (4, (.v (.v false [(.b y0)]))), (16, (.v (.v false [(.sh 30 y1)]))), (18, (.v (.v false [(.i .i64 y2)]))), (20, (.v (.v false [(.i .i64 y3)]))), (1, (.o (.box [(.sh 30 y4), (.i .i64 y5)])))]))) (fun y0 y1 y2 y3 y4 y5 => (K (.exit 0) (tabl [(2, (.v (.v false [(.bp 0 0)]))), (4, (.v (.v false [(.b y0)]))), (16, (.v (.v false [(.sh 30 y1)]))), (18, (.v (.v false [(.i .i64 y2)]))), (20, (.v (.v false [(.i .i64 y3)]))), (1, (.o (.box [(.sh 30 y4), (.i .i64 y5)])))]))) n x0 x1 x2 x3 x4 x5) := by
  intro n
  induction n with
  | zero => exact (fun _ _ _ _ _ _ => rfl)
  | succ n ih =>
    have e0 : (fun x0 x1 x2 x3 x4 x5 => iter (exc E178 (it178 N) (loopOf Try.f178 2)) (canon (E178.keep 2))  n (tabl [(2, (.v (.v false [(.bp 0 0)]))), (4, (.v (.v false [(.b x0)]))), (16, (.v (.v false [(.sh 30 x1)]))), (18, (.v (.v false [(.i .i64 x2)]))), (20, (.v (.v false [(.i .i64 x3)]))), (1, (.o (.box [(.sh 30 x4), (.i .i64 x5)])))]) K) = Pu.impl_SketchOk.l2 N (fun y0 y1 y2 y3 y4 y5 => (K .ret (tabl [(2, (.v (.v false [(.bp 0 0)]))), (4, (.v (.v false [(.b y0)]))), (16, (.v (.v false [(.sh 30 y1)]))), (18, (.v (.v false [(.i .i64 y2)]))), (20, (.v (.v false [(.i .i64 y3)]))), (1, (.o (.box [(.sh 30 y4), (.i .i64 y5)])))]))) (fun y0 y1 y2 y3 y4 y5 => (K (.exit 0) (tabl [(2, (.v (.v false [(.bp 0 0)]))), (4, (.v (.v false [(.b y0)]))), (16, (.v (.v false [(.sh 30 y1)]))), (18, (.v (.v false [(.i .i64 y2)]))), (20, (.v (.v false [(.i .i64 y3)]))), (1, (.o (.box [(.sh 30 y4), (.i .i64 y5)])))]))) n := by funext x0 x1 x2 x3 x4 x5; exact ih x0 x1 x2 x3 x4 x5
    intro x0 x1 x2 x3 x4 x5
    have h : ∀ g, exc E178 (it178 N) (loopOf Try.f178 2) (tabl [(2, (.v (.v false [(.bp 0 0)]))), (4, (.v (.v false [(.b x0)]))), (16, (.v (.v false [(.sh 30 x1)]))), (18, (.v (.v false [(.i .i64 x2)]))), (20, (.v (.v false [(.i .i64 x3)]))), (1, (.o (.box [(.sh 30 x4), (.i .i64 x5)])))]) (iterK g (canon (E178.keep 2)) K) = Pu.impl_SketchOk.r2 N (fun x0 x1 x2 x3 x4 x5 => (g (tabl [(2, (.v (.v false [(.bp 0 0)]))), (4, (.v (.v false [(.b x0)]))), (16, (.v (.v false [(.sh 30 x1)]))), (18, (.v (.v false [(.i .i64 x2)]))), (20, (.v (.v false [(.i .i64 x3)]))), (1, (.o (.box [(.sh 30 x4), (.i .i64 x5)])))]))) (fun y0 y1 y2 y3 y4 y5 => (K .ret (tabl [(2, (.v (.v false [(.bp 0 0)]))), (4, (.v (.v false [(.b y0)]))), (16, (.v (.v false [(.sh 30 y1)]))), (18, (.v (.v false [(.i .i64 y2)]))), (20, (.v (.v false [(.i .i64 y3)]))), (1, (.o (.box [(.sh 30 y4), (.i .i64 y5)])))]))) (fun y0 y1 y2 y3 y4 y5 => (K (.exit 0) (tabl [(2, (.v (.v false [(.bp 0 0)]))), (4, (.v (.v false [(.b y0)]))), (16, (.v (.v false [(.sh 30 y1)]))), (18, (.v (.v false [(.i .i64 y2)]))), (20, (.v (.v false [(.i .i64 y3)]))), (1, (.o (.box [(.sh 30 y4), (.i .i64 y5)])))]))) x0 x1 x2 x3 x4 x5 := by intro g; kernel_rfl
    refine (iter_succ _ _ n _ K).trans ((h _).trans ?_)
    show Pu.impl_SketchOk.r2 N (fun x0 x1 x2 x3 x4 x5 => (iter (exc E178 (it178 N) (loopOf Try.f178 2)) (canon (E178.keep 2))  n (tabl [(2, (.v (.v false [(.bp 0 0)]))), (4, (.v (.v false [(.b x0)]))), (16, (.v (.v false [(.sh 30 x1)]))), (18, (.v (.v false [(.i .i64 x2)]))), (20, (.v (.v false [(.i .i64 x3)]))), (1, (.o (.box [(.sh 30 x4), (.i .i64 x5)])))]) K)) (fun y0 y1 y2 y3 y4 y5 => (K .ret (tabl [(2, (.v (.v false [(.bp 0 0)]))), (4, (.v (.v false [(.b y0)]))), (16, (.v (.v false [(.sh 30 y1)]))), (18, (.v (.v false [(.i .i64 y2)]))), (20, (.v (.v false [(.i .i64 y3)]))), (1, (.o (.box [(.sh 30 y4), (.i .i64 y5)])))]))) (fun y0 y1 y2 y3 y4 y5 => (K (.exit 0) (tabl [(2, (.v (.v false [(.bp 0 0)]))), (4, (.v (.v false [(.b y0)]))), (16, (.v (.v false [(.sh 30 y1)]))), (18, (.v (.v false [(.i .i64 y2)]))), (20, (.v (.v false [(.i .i64 y3)]))), (1, (.o (.box [(.sh 30 y4), (.i .i64 y5)])))]))) x0 x1 x2 x3 x4 x5 = _
    rw [e0]; rfl
theorem lo178_2 {R : Type} (N : Nat) : LoopOk E178 (it178 N (R := R)) (loopOf Try.f178 2) := by
  have e : firstRid (loopOf Try.f178 2) = 2 := by kernel_rfl
  intro L K r
  rw [e]
  intro h
  unfold it178 at h
  simp only [show Nat.beq 2 2 = true from rfl, cond_false, cond_true] at h
  refine tell_ok (Q := fun L => ∃ n, iter (exc E178 (it178 N) (loopOf Try.f178 2)) (canon (E178.keep 2)) n (tabl L) K = some r) h (fun xs h => ?_) (fun h => ?_)
  · (try dsimp only at h)
    split at h
    · exact ⟨N, ((e178_2 N K N) _ _ _ _ _ _).trans h⟩
    · cases h
  cases h
theorem e178_5 {R : Type} (N : Nat) (K : Ex → St → Option R) : ∀ n : Nat, (∀ x6 x7 x8 x9 x10 x11 x12 x13 x14 x15, iter (exc E178 (it178 N) (loopOf Try.f178 5)) (canon (E178.keep 5))  n (tabl [(2, (.v (.v false [(.bp 0 0)]))), (4, (.v (.v false [(.b x6)]))), (8, (.v (.v false [(.sh 3 x7)]))), (16, (.v (.v false [(.sh 30 x8)]))), (18, (.v (.v false [(.i .i64 x9)]))), (20, (.v (.v false [(.i .i64 x10)]))), (28, (.v (.v false [(.sh 3 x11)]))), (30, (.v (.v false [(.i .i64 x12)]))), (32, (.v (.v false [(.i .i64 x13)]))), (1, (.o (.box [(.sh 30 x14), (.i .i64 x15)])))]) K = Pu.impl_SketchOk.l5 N (fun y0 y1 y2 y3 y4 y5 y6 y7 y8 y9 => (K .ret (tabl [(2, (.v (.v false [(.bp 0 0)]))), (4, (.v (.v false [(.b y0)]))), (8, (.v (.v false [(.sh 3 y1)]))), (16, (.v (.v false [(.sh 30 y2)]))), (18, (.v (.v false [(.i .i64 y3)]))), (20, (.v (.v false [(.i .i64 y4)]))), (28, (.v (.v false [(.sh 3 y5)]))), (30, (.v (.v false [(.i .i64 y6)]))), (32, (.v (.v false [(.i .i64 y7)]))), (1, (.o (.box [(.sh 30 y8), (.i .i64 y9)])))]))) (fun y0 y1 y2 y3 y4 y5 y6 y7 y8 y9 => (K (.exit 2) (tabl [(2, (.v (.v false [(.bp 0 0)]))), (4, (.v (.v false [(.b y0)]))), (8, (.v (.v false [(.sh 3 y1)]))), (16, (.v (.v false [(.sh 30 y2)]))), (18, (.v (.v false [(.i .i64 y3)]))), (20, (.v (.v false [(.i .i64 y4)]))), (28, (.v (.v false [(.sh 3 y5)]))), (30, (.v (.v false [(.i .i64 y6)]))), (32, (.v (.v false [(.i .i64 y7)]))), (1, (.o (.box [(.sh 30 y8), (.i .i64 y9)])))]))) n x6 x7 x8 x9 x10 x11 x12 x13 x14 x15) := by
  intro n
  induction n with
  | zero => exact (fun _ _ _ _ _ _ _ _ _ _ => rfl)
  | succ n ih =>
    have e0 : (fun x6 x7 x8 x9 x10 x11 x12 x13 x14 x15 => iter (exc E178 (it178 N) (loopOf Try.f178 5)) (canon (E178.keep 5))  n (tabl [(2, (.v (.v false [(.bp 0 0)]))), (4, (.v (.v false [(.b x6)]))), (8, (.v (.v false [(.sh 3 x7)]))), (16, (.v (.v false [(.sh 30 x8)]))), (18, (.v (.v false [(.i .i64 x9)]))), (20, (.v (.v false [(.i .i64 x10)]))), (28, (.v (.v false [(.sh 3 x11)]))), (30, (.v (.v false [(.i .i64 x12)]))), (32, (.v (.v false [(.i .i64 x13)]))), (1, (.o (.box [(.sh 30 x14), (.i .i64 x15)])))]) K) = Pu.impl_SketchOk.l5 N (fun y0 y1 y2 y3 y4 y5 y6 y7 y8 y9 => (K .ret (tabl [(2, (.v (.v false [(.bp 0 0)]))), (4, (.v (.v false [(.b y0)]))), (8, (.v (.v false [(.sh 3 y1)]))), (16, (.v (.v false [(.sh 30 y2)]))), (18, (.v (.v false [(.i .i64 y3)]))), (20, (.v (.v false [(.i .i64 y4)]))), (28, (.v (.v false [(.sh 3 y5)]))), (30, (.v (.v false [(.i .i64 y6)]))), (32, (.v (.v false [(.i .i64 y7)]))), (1, (.o (.box [(.sh 30 y8), (.i .i64 y9)])))]))) (fun y0 y1 y2 y3 y4 y5 y6 y7 y8 y9 => (K (.exit 2) (tabl [(2, (.v (.v false [(.bp 0 0)]))), (4, (.v (.v false [(.b y0)]))), (8, (.v (.v false [(.sh 3 y1)]))), (16, (.v (.v false [(.sh 30 y2)]))), (18, (.v (.v false [(.i .i64 y3)]))), (20, (.v (.v false [(.i .i64 y4)]))), (28, (.v (.v false [(.sh 3 y5)]))), (30, (.v (.v false [(.i .i64 y6)]))), (32, (.v (.v false [(.i .i64 y7)]))), (1, (.o (.box [(.sh 30 y8), (.i .i64 y9)])))]))) n := by funext x6 x7 x8 x9 x10 x11 x12 x13 x14 x15; exact ih x6 x7 x8 x9 x10 x11 x12 x13 x14 x15
    intro x6 x7 x8 x9 x10 x11 x12 x13 x14 x15
    have h : ∀ g, exc E178 (it178 N) (loopOf Try.f178 5) (tabl [(2, (.v (.v false [(.bp 0 0)]))), (4, (.v (.v false [(.b x6)]))), (8, (.v (.v false [(.sh 3 x7)]))), (16, (.v (.v false [(.sh 30 x8)]))), (18, (.v (.v false [(.i .i64 x9)]))), (20, (.v (.v false [(.i .i64 x10)]))), (28, (.v (.v false [(.sh 3 x11)]))), (30, (.v (.v false [(.i .i64 x12)]))), (32, (.v (.v false [(.i .i64 x13)]))), (1, (.o (.box [(.sh 30 x14), (.i .i64 x15)])))]) (iterK g (canon (E178.keep 5)) K) = Pu.impl_SketchOk.r5 N (fun x6 x7 x8 x9 x10 x11 x12 x13 x14 x15 => (g (tabl [(2, (.v (.v false [(.bp 0 0)]))), (4, (.v (.v false [(.b x6)]))), (8, (.v (.v false [(.sh 3 x7)]))), (16, (.v (.v false [(.sh 30 x8)]))), (18, (.v (.v false [(.i .i64 x9)]))), (20, (.v (.v false [(.i .i64 x10)]))), (28, (.v (.v false [(.sh 3 x11)]))), (30, (.v (.v false [(.i .i64 x12)]))), (32, (.v (.v false [(.i .i64 x13)]))), (1, (.o (.box [(.sh 30 x14), (.i .i64 x15)])))]))) (fun y0 y1 y2 y3 y4 y5 y6 y7 y8 y9 => (K .ret (tabl [(2, (.v (.v false [(.bp 0 0)]))), (4, (.v (.v false [(.b y0)]))), (8, (.v (.v false [(.sh 3 y1)]))), (16, (.v (.v false [(.sh 30 y2)]))), (18, (.v (.v false [(.i .i64 y3)]))), (20, (.v (.v false [(.i .i64 y4)]))), (28, (.v (.v false [(.sh 3 y5)]))), (30, (.v (.v false [(.i .i64 y6)]))), (32, (.v (.v false [(.i .i64 y7)]))), (1, (.o (.box [(.sh 30 y8), (.i .i64 y9)])))]))) (fun y0 y1 y2 y3 y4 y5 y6 y7 y8 y9 => (K (.exit 2) (tabl [(2, (.v (.v false [(.bp 0 0)]))), (4, (.v (.v false [(.b y0)]))), (8, (.v (.v false [(.sh 3 y1)]))), (16, (.v (.v false [(.sh 30 y2)]))), (18, (.v (.v false [(.i .i64 y3)]))), (20, (.v (.v false [(.i .i64 y4)]))), (28, (.v (.v false [(.sh 3 y5)]))), (30, (.v (.v false [(.i .i64 y6)]))), (32, (.v (.v false [(.i .i64 y7)]))), (1, (.o (.box [(.sh 30 y8), (.i .i64 y9)])))]))) x6 x7 x8 x9 x10 x11 x12 x13 x14 x15 := by intro g; kernel_rfl
    refine (iter_succ _ _ n _ K).trans ((h _).trans ?_)
    show Pu.impl_SketchOk.r5 N (fun x6 x7 x8 x9 x10 x11 x12 x13 x14 x15 => (iter (exc E178 (it178 N) (loopOf Try.f178 5)) (canon (E178.keep 5))  n (tabl [(2, (.v (.v false [(.bp 0 0)]))), (4, (.v (.v false [(.b x6)]))), (8, (.v (.v false [(.sh 3 x7)]))), (16, (.v (.v false [(.sh 30 x8)]))), (18, (.v (.v false [(.i .i64 x9)]))), (20, (.v (.v false [(.i .i64 x10)]))), (28, (.v (.v false [(.sh 3 x11)]))), (30, (.v (.v false [(.i .i64 x12)]))), (32, (.v (.v false [(.i .i64 x13)]))), (1, (.o (.box [(.sh 30 x14), (.i .i64 x15)])))]) K)) (fun y0 y1 y2 y3 y4 y5 y6 y7 y8 y9 => (K .ret (tabl [(2, (.v (.v false [(.bp 0 0)]))), (4, (.v (.v false [(.b y0)]))), (8, (.v (.v false [(.sh 3 y1)]))), (16, (.v (.v false [(.sh 30 y2)]))), (18, (.v (.v false [(.i .i64 y3)]))), (20, (.v (.v false [(.i .i64 y4)]))), (28, (.v (.v false [(.sh 3 y5)]))), (30, (.v (.v false [(.i .i64 y6)]))), (32, (.v (.v false [(.i .i64 y7)]))), (1, (.o (.box [(.sh 30 y8), (.i .i64 y9)])))]))) (fun y0 y1 y2 y3 y4 y5 y6 y7 y8 y9 => (K (.exit 2) (tabl [(2, (.v (.v false [(.bp 0 0)]))), (4, (.v (.v false [(.b y0)]))), (8, (.v (.v false [(.sh 3 y1)]))), (16, (.v (.v false [(.sh 30 y2)]))), (18, (.v (.v false [(.i .i64 y3)]))), (20, (.v (.v false [(.i .i64 y4)]))), (28, (.v (.v false [(.sh 3 y5)]))), (30, (.v (.v false [(.i .i64 y6)]))), (32, (.v (.v false [(.i .i64 y7)]))), (1, (.o (.box [(.sh 30 y8), (.i .i64 y9)])))]))) x6 x7 x8 x9 x10 x11 x12 x13 x14 x15 = _
    rw [e0]; rfl
theorem lo178_5 {R : Type} (N : Nat) : LoopOk E178 (it178 N (R := R)) (loopOf Try.f178 5) := by
  have e : firstRid (loopOf Try.f178 5) = 5 := by kernel_rfl
  intro L K r
  rw [e]
  intro h
  unfold it178 at h
  simp only [show Nat.beq 5 2 = false from rfl, show Nat.beq 5 5 = true from rfl, cond_false, cond_true] at h
  refine tell_ok (Q := fun L => ∃ n, iter (exc E178 (it178 N) (loopOf Try.f178 5)) (canon (E178.keep 5)) n (tabl L) K = some r) h (fun xs h => ?_) (fun h => ?_)
  · (try dsimp only at h)
    split at h
    · exact ⟨N, ((e178_5 N K N) _ _ _ _ _ _ _ _ _ _).trans h⟩
    · cases h
  cases h
def sp178 : List Arg → Option (Bool × Res)
  | [(.v true [(.sh 30 s0_0), (.i .i64 s0_1)])] => some (Pu.impl_SketchOk.c s0_0 s0_1, ⟨[(.v false [(.b (Pu.impl_SketchOk.v s0_0 s0_1))])], []⟩)
  | _ => none
theorem ok178 : FnOk Try.prog T 178 sp178 := by
  refine fn_ok (E := E178) hE (call_cons ok70 call_nil) hM Try.func178 (code := (Try.f178.body.getD .skip)) (by kernel_rfl) (by kernel_rfl) ?_
  have key : ∀ (s0_0 : Row) (s0_1 : Int), Pu.impl_SketchOk.c s0_0 s0_1 = true → ∃ it : It Res, (∀ c ∈ loopsOf (Try.f178.body.getD .skip), LoopOk E178 it c) ∧ body E178 it Try.f178 [(.v true [(.sh 30 s0_0), (.i .i64 s0_1)])] = some ⟨[(.v false [(.b (Pu.impl_SketchOk.v s0_0 s0_1))])], []⟩ := by
    intro s0_0 s0_1  h1
    obtain ⟨N, hN⟩ := Pu.impl_SketchOk.b_eq (R := Res) (fun r0 => some ⟨[(.v false [(.b r0)])], []⟩) s0_0 s0_1 h1
    have hl : loopsOf (Try.f178.body.getD .skip) = [loopOf Try.f178 2, loopOf Try.f178 5] := by kernel_rfl
    refine ⟨it178 N, by rw [hl]; exact (loops_cons (lo178_2 N) (loops_cons (lo178_5 N) loops_nil)), ?_⟩
    refine Eq.trans (show body E178 (it178 N) Try.f178 [(.v true [(.sh 30 s0_0), (.i .i64 s0_1)])] = Pu.impl_SketchOk.b N (fun r0 => some ⟨[(.v false [(.b r0)])], []⟩) s0_0 s0_1 by kernel_rfl) hN
  intro args r h
  unfold sp178 at h
  split at h
  · injection h with h
    injection h with h1 h2
    subst h2
    exact ⟨by kernel_rfl, fun hf => ⟨of_decide_eq_true (by kernel_rfl), key _ _ h1⟩⟩
  · cases h

end Go.FG.Se

namespace Go.FG.Se
open Go.Proofs
def E109 : Env := { toTab := T, call := Go.FG.callIn [(183, sp183), (78, sp78), (110, sp110), (178, sp178)], mode := Go.FG.modeIn md, keep := Go.FG.keepIn [(3, [1, 2, 3, 8, 9, 10])], tk := fun n => Go.FG.memB n [], om := Go.FG.omIn [] }
def it109 (N : Nat) {R : Type} : It R := fun rid f cn L K => bif Nat.beq rid 3 then (tell [(2, (.v (.v false [(.bp 0 0)]))), (4, (.v (.v false [(.b false)]))), (6, (.v (.v false [(.own 1)]))), (16, (.v (.v false [(.own 1)]))), (18, (.v (.v false [(.i .i64 0)]))), (20, (.v (.v false [(.i .i64 0)]))), (1, (.o (.box [(.sh 9 []), (.sh 9 []), (.sh 30 []), (.i .i64 0)]))), (3, (.o (.row 9 true [])))] (fun | [.B x0, .I x1, .I x2, .R x3, .R x4, .R x5, .I x6, .R x7] => Pu.impl_PolicyOk.l3 N (fun y0 y1 y2 y3 y4 y5 y6 y7 => (K .ret (tabl [(2, (.v (.v false [(.bp 0 0)]))), (4, (.v (.v false [(.b y0)]))), (6, (.v (.v false [(.own 1)]))), (16, (.v (.v false [(.own 1)]))), (18, (.v (.v false [(.i .i64 y1)]))), (20, (.v (.v false [(.i .i64 y2)]))), (1, (.o (.box [(.sh 9 y3), (.sh 9 y4), (.sh 30 y5), (.i .i64 y6)]))), (3, (.o (.row 9 true y7)))]))) (fun y0 y1 y2 y3 y4 y5 y6 y7 => (K (.exit 0) (tabl [(2, (.v (.v false [(.bp 0 0)]))), (4, (.v (.v false [(.b y0)]))), (6, (.v (.v false [(.own 1)]))), (16, (.v (.v false [(.own 1)]))), (18, (.v (.v false [(.i .i64 y1)]))), (20, (.v (.v false [(.i .i64 y2)]))), (1, (.o (.box [(.sh 9 y3), (.sh 9 y4), (.sh 30 y5), (.i .i64 y6)]))), (3, (.o (.row 9 true y7)))]))) N x0 x1 x2 x3 x4 x5 x6 x7 | _ => none) L (none)) else none
theorem e109_3 {R : Type} (N : Nat) (K : Ex → St → Option R) : ∀ n : Nat, (∀ x0 x1 x2 x3 x4 x5 x6 x7, iter (exc E109 (it109 N) (loopOf Try.f109 3)) (canon (E109.keep 3))  n (tabl [(2, (.v (.v false [(.bp 0 0)]))), (4, (.v (.v false [(.b x0)]))), (6, (.v (.v false [(.own 1)]))), (16, (.v (.v false [(.own 1)]))), (18, (.v (.v false [(.i .i64 x1)]))), (20, (.v (.v false [(.i .i64 x2)]))), (1, (.o (.box [(.sh 9 x3), (.sh 9 x4), (.sh 30 x5), (.i .i64 x6)]))), (3, (.o (.row 9 true x7)))]) K = Pu.impl_PolicyOk.l3 N (fun y0 y1 y2 y3 y4 y5 y6 y7 => (K .ret (tabl [(2, (.v (.v false [(.bp 0 0)]))), (4, (.v (.v false [(.b y0)]))), (6, (.v (.v false [(.own 1)]))), (16, (.v (.v false [(.own 1)]))), (18, (.v (.v false [(.i .i64 y1)]))), (20, (.v (.v false [(.i .i64 y2)]))), (1, (.o (.box [(.sh 9 y3), (.sh 9 y4), (.sh 30 y5), (.i .i64 y6)]))), (3, (.o (.row 9 true y7)))]))) (fun y0 y1 y2 y3 y4 y5 y6 y7 => (K (.exit 0) (tabl [(2, (.v (.v false [(.bp 0 0)]))), (4, (.v (.v false [(.b y0)]))), (6, (.v (.v false [(.own 1)]))), (16, (.v (.v false [(.own 1)]))), (18, (.v (.v false [(.i .i64 y1)]))), (20, (.v (.v false [(.i .i64 y2)]))), (1, (.o (.box [(.sh 9 y3), (.sh 9 y4), (.sh 30 y5), (.i .i64 y6)]))), (3, (.o (.row 9 true y7)))]))) n x0 x1 x2 x3 x4 x5 x6 x7) := by
  intro n
  induction n with
  | zero => exact (fun _ _ _ _ _ _ _ _ => rfl)
  | succ n ih =>
    have e0 : (fun x0 x1 x2 x3 x4 x5 x6 x7 => iter (exc E109 (it109 N) (loopOf Try.f109 3)) (canon (E109.keep 3))  n (tabl [(2, (.v (.v false [(.bp 0 0)]))), (4, (.v (.v false [(.b x0)]))), (6, (.v (.v false [(.own 1)]))), (16, (.v (.v false [(.own 1)]))), (18, (.v (.v false [(.i .i64 x1)]))), (20, (.v (.v false [(.i .i64 x2)]))), (1, (.o (.box [(.sh 9 x3), (.sh 9 x4), (.sh 30 x5), (.i .i64 x6)]))), (3, (.o (.row 9 true x7)))]) K) = Pu.impl_PolicyOk.l3 N (fun y0 y1 y2 y3 y4 y5 y6 y7 => (K .ret (tabl [(2, (.v (.v false [(.bp 0 0)]))), (4, (.v (.v false [(.b y0)]))), (6, (.v (.v false [(.own 1)]))), (16, (.v (.v false [(.own 1)]))), (18, (.v (.v false [(.i .i64 y1)]))), (20, (.v (.v false [(.i .i64 y2)]))), (1, (.o (.box [(.sh 9 y3), (.sh 9 y4), (.sh 30 y5), (.i .i64 y6)]))), (3, (.o (.row 9 true y7)))]))) (fun y0 y1 y2 y3 y4 y5 y6 y7 => (K (.exit 0) (tabl [(2, (.v (.v false [(.bp 0 0)]))), (4, (.v (.v false [(.b y0)]))), (6, (.v (.v false [(.own 1)]))), (16, (.v (.v false [(.own 1)]))), (18, (.v (.v false [(.i .i64 y1)]))), (20, (.v (.v false [(.i .i64 y2)]))), (1, (.o (.box [(.sh 9 y3), (.sh 9 y4), (.sh 30 y5), (.i .i64 y6)]))), (3, (.o (.row 9 true y7)))]))) n := by funext x0 x1 x2 x3 x4 x5 x6 x7; exact ih x0 x1 x2 x3 x4 x5 x6 x7
    intro x0 x1 x2 x3 x4 x5 x6 x7
    have h : ∀ g, exc E109 (it109 N) (loopOf Try.f109 3) (tabl [(2, (.v (.v false [(.bp 0 0)]))), (4, (.v (.v false [(.b x0)]))), (6, (.v (.v false [(.own 1)]))), (16, (.v (.v false [(.own 1)]))), (18, (.v (.v false [(.i .i64 x1)]))), (20, (.v (.v false [(.i .i64 x2)]))), (1, (.o (.box [(.sh 9 x3), (.sh 9 x4), (.sh 30 x5), (.i .i64 x6)]))), (3, (.o (.row 9 true x7)))]) (iterK g (canon (E109.keep 3)) K) = Pu.impl_PolicyOk.r3 N (fun x0 x1 x2 x3 x4 x5 x6 x7 => (g (tabl [(2, (.v (.v false [(.bp 0 0)]))), (4, (.v (.v false [(.b x0)]))), (6, (.v (.v false [(.own 1)]))), (16, (.v (.v false [(.own 1)]))), (18, (.v (.v false [(.i .i64 x1)]))), (20, (.v (.v false [(.i .i64 x2)]))), (1, (.o (.box [(.sh 9 x3), (.sh 9 x4), (.sh 30 x5), (.i .i64 x6)]))), (3, (.o (.row 9 true x7)))]))) (fun y0 y1 y2 y3 y4 y5 y6 y7 => (K .ret (tabl [(2, (.v (.v false [(.bp 0 0)]))), (4, (.v (.v false [(.b y0)]))), (6, (.v (.v false [(.own 1)]))), (16, (.v (.v false [(.own 1)]))), (18, (.v (.v false [(.i .i64 y1)]))), (20, (.v (.v false [(.i .i64 y2)]))), (1, (.o (.box [(.sh 9 y3), (.sh 9 y4), (.sh 30 y5), (.i .i64 y6)]))), (3, (.o (.row 9 true y7)))]))) (fun y0 y1 y2 y3 y4 y5 y6 y7 => (K (.exit 0) (tabl [(2, (.v (.v false [(.bp 0 0)]))), (4, (.v (.v false [(.b y0)]))), (6, (.v (.v false [(.own 1)]))), (16, (.v (.v false [(.own 1)]))), (18, (.v (.v false [(.i .i64 y1)]))), (20, (.v (.v false [(.i .i64 y2)]))), (1, (.o (.box [(.sh 9 y3), (.sh 9 y4), (.sh 30 y5), (.i .i64 y6)]))), (3, (.o (.row 9 true y7)))]))) x0 x1 x2 x3 x4 x5 x6 x7 := by intro g; kernel_rfl
    refine (iter_succ _ _ n _ K).trans ((h _).trans ?_)
    show Pu.impl_PolicyOk.r3 N (fun x0 x1 x2 x3 x4 x5 x6 x7 => (iter (exc E109 (it109 N) (loopOf Try.f109 3)) (canon (E109.keep 3))  n (tabl [(2, (.v (.v false [(.bp 0 0)]))), (4, (.v (.v false [(.b x0)]))), (6, (.v (.v false [(.own 1)]))), (16, (.v (.v false [(.own 1)]))), (18, (.v (.v false [(.i .i64 x1)]))), (20, (.v (.v false [(.i .i64 x2)]))), (1, (.o (.box [(.sh 9 x3), (.sh 9 x4), (.sh 30 x5), (.i .i64 x6)]))), (3, (.o (.row 9 true x7)))]) K)) (fun y0 y1 y2 y3 y4 y5 y6 y7 => (K .ret (tabl [(2, (.v (.v false [(.bp 0 0)]))), (4, (.v (.v false [(.b y0)]))), (6, (.v (.v false [(.own 1)]))), (16, (.v (.v false [(.own 1)]))), (18, (.v (.v false [(.i .i64 y1)]))), (20, (.v (.v false [(.i .i64 y2)]))), (1, (.o (.box [(.sh 9 y3), (.sh 9 y4), (.sh 30 y5), (.i .i64 y6)]))), (3, (.o (.row 9 true y7)))]))) (fun y0 y1 y2 y3 y4 y5 y6 y7 => (K (.exit 0) (tabl [(2, (.v (.v false [(.bp 0 0)]))), (4, (.v (.v false [(.b y0)]))), (6, (.v (.v false [(.own 1)]))), (16, (.v (.v false [(.own 1)]))), (18, (.v (.v false [(.i .i64 y1)]))), (20, (.v (.v false [(.i .i64 y2)]))), (1, (.o (.box [(.sh 9 y3), (.sh 9 y4), (.sh 30 y5), (.i .i64 y6)]))), (3, (.o (.row 9 true y7)))]))) x0 x1 x2 x3 x4 x5 x6 x7 = _
    rw [e0]; rfl
theorem lo109_3 {R : Type} (N : Nat) : LoopOk E109 (it109 N (R := R)) (loopOf Try.f109 3) := by
  have e : firstRid (loopOf Try.f109 3) = 3 := by kernel_rfl
  intro L K r
  rw [e]
  intro h
  unfold it109 at h
  simp only [show Nat.beq 3 3 = true from rfl, cond_false, cond_true] at h
  refine tell_ok (Q := fun L => ∃ n, iter (exc E109 (it109 N) (loopOf Try.f109 3)) (canon (E109.keep 3)) n (tabl L) K = some r) h (fun xs h => ?_) (fun h => ?_)
  · (try dsimp only at h)
    split at h
    · exact ⟨N, ((e109_3 N K N) _ _ _ _ _ _ _ _).trans h⟩
    · cases h
  cases h
def sp109 : List Arg → Option (Bool × Res)
  | [(.v true [(.sh 9 p0_0), (.sh 9 p0_1), (.sh 30 p0_2), (.i .i64 p0_3)])] => some (Pu.impl_PolicyOk.c p0_0 p0_1 p0_2 p0_3, ⟨[(.v false [(.b (Pu.impl_PolicyOk.v p0_0 p0_1 p0_2 p0_3))])], []⟩)
  | _ => none
theorem ok109 : FnOk Try.prog T 109 sp109 := by
  refine fn_ok (E := E109) hE (call_cons ok183 (call_cons ok78 (call_cons ok110 (call_cons ok178 call_nil)))) hM Try.func109 (code := (Try.f109.body.getD .skip)) (by kernel_rfl) (by kernel_rfl) ?_
  have key : ∀ (p0_0 : Row) (p0_1 : Row) (p0_2 : Row) (p0_3 : Int), Pu.impl_PolicyOk.c p0_0 p0_1 p0_2 p0_3 = true → ∃ it : It Res, (∀ c ∈ loopsOf (Try.f109.body.getD .skip), LoopOk E109 it c) ∧ body E109 it Try.f109 [(.v true [(.sh 9 p0_0), (.sh 9 p0_1), (.sh 30 p0_2), (.i .i64 p0_3)])] = some ⟨[(.v false [(.b (Pu.impl_PolicyOk.v p0_0 p0_1 p0_2 p0_3))])], []⟩ := by
    intro p0_0 p0_1 p0_2 p0_3  h1
    obtain ⟨N, hN⟩ := Pu.impl_PolicyOk.b_eq (R := Res) (fun r0 => some ⟨[(.v false [(.b r0)])], []⟩) p0_0 p0_1 p0_2 p0_3 h1
    have hl : loopsOf (Try.f109.body.getD .skip) = [loopOf Try.f109 3] := by kernel_rfl
    refine ⟨it109 N, by rw [hl]; exact (loops_cons (lo109_3 N) loops_nil), ?_⟩
    refine Eq.trans (show body E109 (it109 N) Try.f109 [(.v true [(.sh 9 p0_0), (.sh 9 p0_1), (.sh 30 p0_2), (.i .i64 p0_3)])] = Pu.impl_PolicyOk.b N (fun r0 => some ⟨[(.v false [(.b r0)])], []⟩) p0_0 p0_1 p0_2 p0_3 by kernel_rfl) hN
  intro args r h
  unfold sp109 at h
  split at h
  · injection h with h
    injection h with h1 h2
    subst h2
    exact ⟨by kernel_rfl, fun hf => ⟨of_decide_eq_true (by kernel_rfl), key _ _ _ _ h1⟩⟩
  · cases h

end Go.FG.Se

namespace Go.FG.Se
open Go.Proofs
def E231 : Env := { toTab := T, call := Go.FG.callIn [], mode := Go.FG.modeIn md, keep := Go.FG.keepIn [(2, [0, 1, 5]), (6, [0, 1, 5, 19])], tk := fun n => Go.FG.memB n [], om := Go.FG.omIn [] }
def it231 (N : Nat) {R : Type} : It R := fun rid f cn L K => bif Nat.beq rid 2 then (tell [(0, (.v (.v false [(.i .u32 0)]))), (2, (.v (.v false [(.s ⟨#[]⟩)]))), (10, (.v (.v false [(.i .i64 0)])))] (fun | [.I x0, .S x1, .I x2] => Pu.impl_SumMore.l2 N (fun y0 y1 y2 => (K (.exit 0) (tabl [(0, (.v (.v false [(.i .u32 y0)]))), (2, (.v (.v false [(.s y1)]))), (10, (.v (.v false [(.i .i64 y2)])))]))) N x0 x1 x2 | _ => none) L (none)) else bif Nat.beq rid 6 then (tell [(0, (.v (.v false [(.i .u32 0)]))), (2, (.v (.v false [(.s ⟨#[]⟩)]))), (10, (.v (.v false [(.i .i64 0)]))), (38, (.v (.v false [(.i .i64 0)])))] (fun | [.I x3, .S x4, .I x5, .I x6] => Pu.impl_SumMore.l6 N (fun y0 y1 y2 y3 => (K (.exit 2) (tabl [(0, (.v (.v false [(.i .u32 y0)]))), (2, (.v (.v false [(.s y1)]))), (10, (.v (.v false [(.i .i64 y2)]))), (38, (.v (.v false [(.i .i64 y3)])))]))) N x3 x4 x5 x6 | _ => none) L (none)) else none
theorem e231_2 {R : Type} (N : Nat) (K : Ex → St → Option R) : ∀ n : Nat, (∀ x0 x1 x2, iter (exc E231 (it231 N) (loopOf Try.f231 2)) (canon (E231.keep 2))  n (tabl [(0, (.v (.v false [(.i .u32 x0)]))), (2, (.v (.v false [(.s x1)]))), (10, (.v (.v false [(.i .i64 x2)])))]) K = Pu.impl_SumMore.l2 N (fun y0 y1 y2 => (K (.exit 0) (tabl [(0, (.v (.v false [(.i .u32 y0)]))), (2, (.v (.v false [(.s y1)]))), (10, (.v (.v false [(.i .i64 y2)])))]))) n x0 x1 x2) := by
  intro n
  induction n with
  | zero => exact (fun _ _ _ => rfl)
  | succ n ih =>
    have e0 : (fun x0 x1 x2 => iter (exc E231 (it231 N) (loopOf Try.f231 2)) (canon (E231.keep 2))  n (tabl [(0, (.v (.v false [(.i .u32 x0)]))), (2, (.v (.v false [(.s x1)]))), (10, (.v (.v false [(.i .i64 x2)])))]) K) = Pu.impl_SumMore.l2 N (fun y0 y1 y2 => (K (.exit 0) (tabl [(0, (.v (.v false [(.i .u32 y0)]))), (2, (.v (.v false [(.s y1)]))), (10, (.v (.v false [(.i .i64 y2)])))]))) n := by funext x0 x1 x2; exact ih x0 x1 x2
    intro x0 x1 x2
    have h : ∀ g, exc E231 (it231 N) (loopOf Try.f231 2) (tabl [(0, (.v (.v false [(.i .u32 x0)]))), (2, (.v (.v false [(.s x1)]))), (10, (.v (.v false [(.i .i64 x2)])))]) (iterK g (canon (E231.keep 2)) K) = Pu.impl_SumMore.r2 N (fun x0 x1 x2 => (g (tabl [(0, (.v (.v false [(.i .u32 x0)]))), (2, (.v (.v false [(.s x1)]))), (10, (.v (.v false [(.i .i64 x2)])))]))) (fun y0 y1 y2 => (K (.exit 0) (tabl [(0, (.v (.v false [(.i .u32 y0)]))), (2, (.v (.v false [(.s y1)]))), (10, (.v (.v false [(.i .i64 y2)])))]))) x0 x1 x2 := by intro g; kernel_rfl
    refine (iter_succ _ _ n _ K).trans ((h _).trans ?_)
    show Pu.impl_SumMore.r2 N (fun x0 x1 x2 => (iter (exc E231 (it231 N) (loopOf Try.f231 2)) (canon (E231.keep 2))  n (tabl [(0, (.v (.v false [(.i .u32 x0)]))), (2, (.v (.v false [(.s x1)]))), (10, (.v (.v false [(.i .i64 x2)])))]) K)) (fun y0 y1 y2 => (K (.exit 0) (tabl [(0, (.v (.v false [(.i .u32 y0)]))), (2, (.v (.v false [(.s y1)]))), (10, (.v (.v false [(.i .i64 y2)])))]))) x0 x1 x2 = _
    rw [e0]; rfl
theorem lo231_2 {R : Type} (N : Nat) : LoopOk E231 (it231 N (R := R)) (loopOf Try.f231 2) := by
  have e : firstRid (loopOf Try.f231 2) = 2 := by kernel_rfl
  intro L K r
  rw [e]
  intro h
  unfold it231 at h
  simp only [show Nat.beq 2 2 = true from rfl, cond_false, cond_true] at h
  refine tell_ok (Q := fun L => ∃ n, iter (exc E231 (it231 N) (loopOf Try.f231 2)) (canon (E231.keep 2)) n (tabl L) K = some r) h (fun xs h => ?_) (fun h => ?_)
  · (try dsimp only at h)
    split at h
    · exact ⟨N, ((e231_2 N K N) _ _ _).trans h⟩
    · cases h
  cases h
theorem e231_6 {R : Type} (N : Nat) (K : Ex → St → Option R) : ∀ n : Nat, (∀ x3 x4 x5 x6, iter (exc E231 (it231 N) (loopOf Try.f231 6)) (canon (E231.keep 6))  n (tabl [(0, (.v (.v false [(.i .u32 x3)]))), (2, (.v (.v false [(.s x4)]))), (10, (.v (.v false [(.i .i64 x5)]))), (38, (.v (.v false [(.i .i64 x6)])))]) K = Pu.impl_SumMore.l6 N (fun y0 y1 y2 y3 => (K (.exit 2) (tabl [(0, (.v (.v false [(.i .u32 y0)]))), (2, (.v (.v false [(.s y1)]))), (10, (.v (.v false [(.i .i64 y2)]))), (38, (.v (.v false [(.i .i64 y3)])))]))) n x3 x4 x5 x6) := by
  intro n
  induction n with
  | zero => exact (fun _ _ _ _ => rfl)
  | succ n ih =>
    have e0 : (fun x3 x4 x5 x6 => iter (exc E231 (it231 N) (loopOf Try.f231 6)) (canon (E231.keep 6))  n (tabl [(0, (.v (.v false [(.i .u32 x3)]))), (2, (.v (.v false [(.s x4)]))), (10, (.v (.v false [(.i .i64 x5)]))), (38, (.v (.v false [(.i .i64 x6)])))]) K) = Pu.impl_SumMore.l6 N (fun y0 y1 y2 y3 => (K (.exit 2) (tabl [(0, (.v (.v false [(.i .u32 y0)]))), (2, (.v (.v false [(.s y1)]))), (10, (.v (.v false [(.i .i64 y2)]))), (38, (.v (.v false [(.i .i64 y3)])))]))) n := by funext x3 x4 x5 x6; exact ih x3 x4 x5 x6
    intro x3 x4 x5 x6
    have h : ∀ g, exc E231 (it231 N) (loopOf Try.f231 6) (tabl [(0, (.v (.v false [(.i .u32 x3)]))), (2, (.v (.v false [(.s x4)]))), (10, (.v (.v false [(.i .i64 x5)]))), (38, (.v (.v false [(.i .i64 x6)])))]) (iterK g (canon (E231.keep 6)) K) = Pu.impl_SumMore.r6 N (fun x3 x4 x5 x6 => (g (tabl [(0, (.v (.v false [(.i .u32 x3)]))), (2, (.v (.v false [(.s x4)]))), (10, (.v (.v false [(.i .i64 x5)]))), (38, (.v (.v false [(.i .i64 x6)])))]))) (fun y0 y1 y2 y3 => (K (.exit 2) (tabl [(0, (.v (.v false [(.i .u32 y0)]))), (2, (.v (.v false [(.s y1)]))), (10, (.v (.v false [(.i .i64 y2)]))), (38, (.v (.v false [(.i .i64 y3)])))]))) x3 x4 x5 x6 := by intro g; kernel_rfl
    refine (iter_succ _ _ n _ K).trans ((h _).trans ?_)
    show Pu.impl_SumMore.r6 N (fun x3 x4 x5 x6 => (iter (exc E231 (it231 N) (loopOf Try.f231 6)) (canon (E231.keep 6))  n (tabl [(0, (.v (.v false [(.i .u32 x3)]))), (2, (.v (.v false [(.s x4)]))), (10, (.v (.v false [(.i .i64 x5)]))), (38, (.v (.v false [(.i .i64 x6)])))]) K)) (fun y0 y1 y2 y3 => (K (.exit 2) (tabl [(0, (.v (.v false [(.i .u32 y0)]))), (2, (.v (.v false [(.s y1)]))), (10, (.v (.v false [(.i .i64 y2)]))), (38, (.v (.v false [(.i .i64 y3)])))]))) x3 x4 x5 x6 = _
    rw [e0]; rfl
theorem lo231_6 {R : Type} (N : Nat) : LoopOk E231 (it231 N (R := R)) (loopOf Try.f231 6) := by
  have e : firstRid (loopOf Try.f231 6) = 6 := by kernel_rfl
  intro L K r
  rw [e]
  intro h
  unfold it231 at h
  simp only [show Nat.beq 6 2 = false from rfl, show Nat.beq 6 6 = true from rfl, cond_false, cond_true] at h
  refine tell_ok (Q := fun L => ∃ n, iter (exc E231 (it231 N) (loopOf Try.f231 6)) (canon (E231.keep 6)) n (tabl L) K = some r) h (fun xs h => ?_) (fun h => ?_)
  · (try dsimp only at h)
    split at h
    · exact ⟨N, ((e231_6 N K N) _ _ _ _).trans h⟩
    · cases h
  cases h
def sp231 : List Arg → Option (Bool × Res)
  | [(.v false [(.i .u32 sum0)]), (.v false [(.s text1)])] => some (Pu.impl_SumMore.c sum0 text1, ⟨[(.v false [(.i .u32 (Pu.impl_SumMore.v sum0 text1))])], []⟩)
  | _ => none
theorem ok231 : FnOk Try.prog T 231 sp231 := by
  refine fn_ok (E := E231) hE call_nil hM Try.func231 (code := (Try.f231.body.getD .skip)) (by kernel_rfl) (by kernel_rfl) ?_
  have key : ∀ (sum0 : Int) (text1 : ByteArray), Pu.impl_SumMore.c sum0 text1 = true → ∃ it : It Res, (∀ c ∈ loopsOf (Try.f231.body.getD .skip), LoopOk E231 it c) ∧ body E231 it Try.f231 [(.v false [(.i .u32 sum0)]), (.v false [(.s text1)])] = some ⟨[(.v false [(.i .u32 (Pu.impl_SumMore.v sum0 text1))])], []⟩ := by
    intro sum0 text1  h1
    obtain ⟨N, hN⟩ := Pu.impl_SumMore.b_eq (R := Res) (fun r0 => some ⟨[(.v false [(.i .u32 r0)])], []⟩) sum0 text1 h1
    have hl : loopsOf (Try.f231.body.getD .skip) = [loopOf Try.f231 2, loopOf Try.f231 6] := by kernel_rfl
    refine ⟨it231 N, by rw [hl]; exact (loops_cons (lo231_2 N) (loops_cons (lo231_6 N) loops_nil)), ?_⟩
    refine Eq.trans (show body E231 (it231 N) Try.f231 [(.v false [(.i .u32 sum0)]), (.v false [(.s text1)])] = Pu.impl_SumMore.b N (fun r0 => some ⟨[(.v false [(.i .u32 r0)])], []⟩) sum0 text1 by kernel_rfl) hN
  intro args r h
  unfold sp231 at h
  split at h
  · injection h with h
    injection h with h1 h2
    subst h2
    exact ⟨by kernel_rfl, fun hf => ⟨of_decide_eq_true (by kernel_rfl), key _ _ h1⟩⟩
  · cases h

end Go.FG.Se

namespace Go.FG.Se
open Go.Proofs
def E216 : Env := { toTab := T, call := Go.FG.callIn [(231, sp231)], mode := Go.FG.modeIn md, keep := Go.FG.keepIn [], tk := fun n => Go.FG.memB n [], om := Go.FG.omIn [] }
def sp216 : List Arg → Option (Bool × Res)
  | [(.v false [(.s text0)])] => some (Pu.impl_SumOf.c text0, ⟨[(.v false [(.i .u32 (Pu.impl_SumOf.v text0))])], []⟩)
  | _ => none
theorem ok216 : FnOk Try.prog T 216 sp216 := by
  refine fn_ok (E := E216) hE (call_cons ok231 call_nil) hM Try.func216 (code := (Try.f216.body.getD .skip)) (by kernel_rfl) (by kernel_rfl) ?_
  have key : ∀ (text0 : ByteArray), Pu.impl_SumOf.c text0 = true → ∃ it : It Res, (∀ c ∈ loopsOf (Try.f216.body.getD .skip), LoopOk E216 it c) ∧ body E216 it Try.f216 [(.v false [(.s text0)])] = some ⟨[(.v false [(.i .u32 (Pu.impl_SumOf.v text0))])], []⟩ := by
    intro text0  h1
    have hN := Pu.impl_SumOf.b_eq (R := Res) (fun r0 => some ⟨[(.v false [(.i .u32 r0)])], []⟩) text0 h1
    have hl : loopsOf (Try.f216.body.getD .skip) = [] := by kernel_rfl
    refine ⟨iterN 0, by rw [hl]; exact loops_nil, ?_⟩
    refine Eq.trans (show body E216 (iterN 0) Try.f216 [(.v false [(.s text0)])] = Pu.impl_SumOf.b (fun r0 => some ⟨[(.v false [(.i .u32 r0)])], []⟩) text0 by kernel_rfl) hN
  intro args r h
  unfold sp216 at h
  split at h
  · injection h with h
    injection h with h1 h2
    subst h2
    exact ⟨by kernel_rfl, fun hf => ⟨of_decide_eq_true (by kernel_rfl), key _ h1⟩⟩
  · cases h

end Go.FG.Se

namespace Go.FG.Se
open Go.Proofs
def E179 : Env := { toTab := T, call := Go.FG.callIn [(216, sp216)], mode := Go.FG.modeIn md, keep := Go.FG.keepIn [], tk := fun n => Go.FG.memB n [], om := Go.FG.omIn [] }
def sp179 : List Arg → Option (Bool × Res)
  | [(.v false [(.i .i64 row0)]), (.v false [(.s key1)])] => some (Pu.impl_SketchPlace.c row0 key1, ⟨[(.v false [(.i .i64 (Pu.impl_SketchPlace.v row0 key1))])], []⟩)
  | _ => none
theorem ok179 : FnOk Try.prog T 179 sp179 := by
  refine fn_ok (E := E179) hE (call_cons ok216 call_nil) hM Try.func179 (code := (Try.f179.body.getD .skip)) (by kernel_rfl) (by kernel_rfl) ?_
  have key : ∀ (row0 : Int) (key1 : ByteArray), Pu.impl_SketchPlace.c row0 key1 = true → ∃ it : It Res, (∀ c ∈ loopsOf (Try.f179.body.getD .skip), LoopOk E179 it c) ∧ body E179 it Try.f179 [(.v false [(.i .i64 row0)]), (.v false [(.s key1)])] = some ⟨[(.v false [(.i .i64 (Pu.impl_SketchPlace.v row0 key1))])], []⟩ := by
    intro row0 key1  h1
    have hN := Pu.impl_SketchPlace.b_eq (R := Res) (fun r0 => some ⟨[(.v false [(.i .i64 r0)])], []⟩) row0 key1 h1
    have hl : loopsOf (Try.f179.body.getD .skip) = [] := by kernel_rfl
    refine ⟨iterN 0, by rw [hl]; exact loops_nil, ?_⟩
    refine Eq.trans (show body E179 (iterN 0) Try.f179 [(.v false [(.i .i64 row0)]), (.v false [(.s key1)])] = Pu.impl_SketchPlace.b (fun r0 => some ⟨[(.v false [(.i .i64 r0)])], []⟩) row0 key1 by kernel_rfl) hN
  intro args r h
  unfold sp179 at h
  split at h
  · injection h with h
    injection h with h1 h2
    subst h2
    exact ⟨by kernel_rfl, fun hf => ⟨of_decide_eq_true (by kernel_rfl), key _ _ h1⟩⟩
  · cases h

end Go.FG.Se

namespace Go.FG.Se
open Go.Proofs
def E87 : Env := { toTab := T, call := Go.FG.callIn [(177, sp177), (178, sp178), (179, sp179)], mode := Go.FG.modeIn md, keep := Go.FG.keepIn [(5, [1, 4, 5, 19, 20, 21]), (15, [4, 5, 49, 50, 51]), (18, [4, 5, 10, 49, 50, 51, 56, 57])], tk := fun n => Go.FG.memB n [], om := Go.FG.omIn [] }
def it87 (N : Nat) {R : Type} : It R := fun rid f cn L K => bif Nat.beq rid 5 then (tell [(2, (.v (.v false [(.s ⟨#[]⟩)]))), (8, (.v (.v false [(.bp 0 0)]))), (10, (.v (.v false [(.bp 1 0)]))), (38, (.v (.v false [(.own 2)]))), (40, (.v (.v false [(.i .i64 0)]))), (42, (.v (.v false [(.i .i64 0)]))), (1, (.o (.box [.nl, (.i .i64 0)]))), (3, (.o (.box [(.own 2), (.i .i64 0)]))), (5, (.o (.row 30 true [])))] (fun | [.S x0, .I x1, .I x2, .I x3, .I x4, .R x5] => Pu.impl_SketchBump.l5 N (fun y0 y1 y2 y3 y4 y5 => (K (.exit 0) (tabl [(2, (.v (.v false [(.s y0)]))), (8, (.v (.v false [(.bp 0 0)]))), (10, (.v (.v false [(.bp 1 0)]))), (38, (.v (.v false [(.own 2)]))), (40, (.v (.v false [(.i .i64 y1)]))), (42, (.v (.v false [(.i .i64 y2)]))), (1, (.o (.box [.nl, (.i .i64 y3)]))), (3, (.o (.box [(.own 2), (.i .i64 y4)]))), (5, (.o (.row 30 true y5)))]))) N x0 x1 x2 x3 x4 x5 | _ => none) L (none)) else bif Nat.beq rid 15 then (tell [(8, (.v (.v false [(.bp 0 0)]))), (10, (.v (.v false [(.bp 1 0)]))), (98, (.v (.v false [(.own 2)]))), (100, (.v (.v false [(.i .i64 0)]))), (102, (.v (.v false [(.i .i64 0)]))), (1, (.o (.box [.nl, (.i .i64 0)]))), (3, (.o (.box [(.own 2), (.i .i64 0)]))), (5, (.o (.row 30 true [])))] (fun | [.I x12, .I x13, .I x14, .I x15, .R x16] => Pu.impl_SketchBump.l15 N (fun y0 y1 y2 y3 y4 => (K (.exit 2) (tabl [(8, (.v (.v false [(.bp 0 0)]))), (10, (.v (.v false [(.bp 1 0)]))), (98, (.v (.v false [(.own 2)]))), (100, (.v (.v false [(.i .i64 y0)]))), (102, (.v (.v false [(.i .i64 y1)]))), (1, (.o (.box [.nl, (.i .i64 y2)]))), (3, (.o (.box [(.own 2), (.i .i64 y3)]))), (5, (.o (.row 30 true y4)))]))) N x12 x13 x14 x15 x16 | _ => none) L (none)) else bif Nat.beq rid 18 then (tell [(8, (.v (.v false [(.bp 0 0)]))), (10, (.v (.v false [(.bp 1 0)]))), (20, (.v (.v false [(.inn 2 0 0)]))), (98, (.v (.v false [(.own 2)]))), (100, (.v (.v false [(.i .i64 0)]))), (102, (.v (.v false [(.i .i64 0)]))), (112, (.v (.v false [(.i .i64 0)]))), (114, (.v (.v false [(.i .i64 0)]))), (1, (.o (.box [.nl, (.i .i64 0)]))), (3, (.o (.box [(.own 2), (.i .i64 0)]))), (5, (.o (.row 30 true [])))] (fun | [.N x17, .I x18, .I x19, .I x20, .I x21, .I x22, .I x23, .R x24] => Pu.impl_SketchBump.l18 N (fun y0 y1 y2 y3 y4 y5 y6 y7 => (K (.exit 4) (tabl [(8, (.v (.v false [(.bp 0 0)]))), (10, (.v (.v false [(.bp 1 0)]))), (20, (.v (.v false [(.inn 2 y0 0)]))), (98, (.v (.v false [(.own 2)]))), (100, (.v (.v false [(.i .i64 y1)]))), (102, (.v (.v false [(.i .i64 y2)]))), (112, (.v (.v false [(.i .i64 y3)]))), (114, (.v (.v false [(.i .i64 y4)]))), (1, (.o (.box [.nl, (.i .i64 y5)]))), (3, (.o (.box [(.own 2), (.i .i64 y6)]))), (5, (.o (.row 30 true y7)))]))) N x17 x18 x19 x20 x21 x22 x23 x24 | _ => none) L (none)) else none
theorem e87_5 {R : Type} (N : Nat) (K : Ex → St → Option R) : ∀ n : Nat, (∀ x0 x1 x2 x3 x4 x5, iter (exc E87 (it87 N) (loopOf Try.f87 5)) (canon (E87.keep 5))  n (tabl [(2, (.v (.v false [(.s x0)]))), (8, (.v (.v false [(.bp 0 0)]))), (10, (.v (.v false [(.bp 1 0)]))), (38, (.v (.v false [(.own 2)]))), (40, (.v (.v false [(.i .i64 x1)]))), (42, (.v (.v false [(.i .i64 x2)]))), (1, (.o (.box [.nl, (.i .i64 x3)]))), (3, (.o (.box [(.own 2), (.i .i64 x4)]))), (5, (.o (.row 30 true x5)))]) K = Pu.impl_SketchBump.l5 N (fun y0 y1 y2 y3 y4 y5 => (K (.exit 0) (tabl [(2, (.v (.v false [(.s y0)]))), (8, (.v (.v false [(.bp 0 0)]))), (10, (.v (.v false [(.bp 1 0)]))), (38, (.v (.v false [(.own 2)]))), (40, (.v (.v false [(.i .i64 y1)]))), (42, (.v (.v false [(.i .i64 y2)]))), (1, (.o (.box [.nl, (.i .i64 y3)]))), (3, (.o (.box [(.own 2), (.i .i64 y4)]))), (5, (.o (.row 30 true y5)))]))) n x0 x1 x2 x3 x4 x5) := by
  intro n
  induction n with
  | zero => exact (fun _ _ _ _ _ _ => rfl)
  | succ n ih =>
    have e0 : (fun x0 x1 x2 x3 x4 x5 => iter (exc E87 (it87 N) (loopOf Try.f87 5)) (canon (E87.keep 5))  n (tabl [(2, (.v (.v false [(.s x0)]))), (8, (.v (.v false [(.bp 0 0)]))), (10, (.v (.v false [(.bp 1 0)]))), (38, (.v (.v false [(.own 2)]))), (40, (.v (.v false [(.i .i64 x1)]))), (42, (.v (.v false [(.i .i64 x2)]))), (1, (.o (.box [.nl, (.i .i64 x3)]))), (3, (.o (.box [(.own 2), (.i .i64 x4)]))), (5, (.o (.row 30 true x5)))]) K) = Pu.impl_SketchBump.l5 N (fun y0 y1 y2 y3 y4 y5 => (K (.exit 0) (tabl [(2, (.v (.v false [(.s y0)]))), (8, (.v (.v false [(.bp 0 0)]))), (10, (.v (.v false [(.bp 1 0)]))), (38, (.v (.v false [(.own 2)]))), (40, (.v (.v false [(.i .i64 y1)]))), (42, (.v (.v false [(.i .i64 y2)]))), (1, (.o (.box [.nl, (.i .i64 y3)]))), (3, (.o (.box [(.own 2), (.i .i64 y4)]))), (5, (.o (.row 30 true y5)))]))) n := by funext x0 x1 x2 x3 x4 x5; exact ih x0 x1 x2 x3 x4 x5
    intro x0 x1 x2 x3 x4 x5
    have h : ∀ g, exc E87 (it87 N) (loopOf Try.f87 5) (tabl [(2, (.v (.v false [(.s x0)]))), (8, (.v (.v false [(.bp 0 0)]))), (10, (.v (.v false [(.bp 1 0)]))), (38, (.v (.v false [(.own 2)]))), (40, (.v (.v false [(.i .i64 x1)]))), (42, (.v (.v false [(.i .i64 x2)]))), (1, (.o (.box [.nl, (.i .i64 x3)]))), (3, (.o (.box [(.own 2), (.i .i64 x4)]))), (5, (.o (.row 30 true x5)))]) (iterK g (canon (E87.keep 5)) K) = Pu.impl_SketchBump.r5 N (fun x0 x1 x2 x3 x4 x5 => (g (tabl [(2, (.v (.v false [(.s x0)]))), (8, (.v (.v false [(.bp 0 0)]))), (10, (.v (.v false [(.bp 1 0)]))), (38, (.v (.v false [(.own 2)]))), (40, (.v (.v false [(.i .i64 x1)]))), (42, (.v (.v false [(.i .i64 x2)]))), (1, (.o (.box [.nl, (.i .i64 x3)]))), (3, (.o (.box [(.own 2), (.i .i64 x4)]))), (5, (.o (.row 30 true x5)))]))) (fun y0 y1 y2 y3 y4 y5 => (K (.exit 0) (tabl [(2, (.v (.v false [(.s y0)]))), (8, (.v (.v false [(.bp 0 0)]))), (10, (.v (.v false [(.bp 1 0)]))), (38, (.v (.v false [(.own 2)]))), (40, (.v (.v false [(.i .i64 y1)]))), (42, (.v (.v false [(.i .i64 y2)]))), (1, (.o (.box [.nl, (.i .i64 y3)]))), (3, (.o (.box [(.own 2), (.i .i64 y4)]))), (5, (.o (.row 30 true y5)))]))) x0 x1 x2 x3 x4 x5 := by intro g; kernel_rfl
    refine (iter_succ _ _ n _ K).trans ((h _).trans ?_)
    show Pu.impl_SketchBump.r5 N (fun x0 x1 x2 x3 x4 x5 => (iter (exc E87 (it87 N) (loopOf Try.f87 5)) (canon (E87.keep 5))  n (tabl [(2, (.v (.v false [(.s x0)]))), (8, (.v (.v false [(.bp 0 0)]))), (10, (.v (.v false [(.bp 1 0)]))), (38, (.v (.v false [(.own 2)]))), (40, (.v (.v false [(.i .i64 x1)]))), (42, (.v (.v false [(.i .i64 x2)]))), (1, (.o (.box [.nl, (.i .i64 x3)]))), (3, (.o (.box [(.own 2), (.i .i64 x4)]))), (5, (.o (.row 30 true x5)))]) K)) (fun y0 y1 y2 y3 y4 y5 => (K (.exit 0) (tabl [(2, (.v (.v false [(.s y0)]))), (8, (.v (.v false [(.bp 0 0)]))), (10, (.v (.v false [(.bp 1 0)]))), (38, (.v (.v false [(.own 2)]))), (40, (.v (.v false [(.i .i64 y1)]))), (42, (.v (.v false [(.i .i64 y2)]))), (1, (.o (.box [.nl, (.i .i64 y3)]))), (3, (.o (.box [(.own 2), (.i .i64 y4)]))), (5, (.o (.row 30 true y5)))]))) x0 x1 x2 x3 x4 x5 = _
    rw [e0]; rfl
theorem lo87_5 {R : Type} (N : Nat) : LoopOk E87 (it87 N (R := R)) (loopOf Try.f87 5) := by
  have e : firstRid (loopOf Try.f87 5) = 5 := by kernel_rfl
  intro L K r
  rw [e]
  intro h
  unfold it87 at h
  simp only [show Nat.beq 5 5 = true from rfl, cond_false, cond_true] at h
  refine tell_ok (Q := fun L => ∃ n, iter (exc E87 (it87 N) (loopOf Try.f87 5)) (canon (E87.keep 5)) n (tabl L) K = some r) h (fun xs h => ?_) (fun h => ?_)
  · (try dsimp only at h)
    split at h
    · exact ⟨N, ((e87_5 N K N) _ _ _ _ _ _).trans h⟩
    · cases h
  cases h
theorem e87_15 {R : Type} (N : Nat) (K : Ex → St → Option R) : ∀ n : Nat, (∀ x12 x13 x14 x15 x16, iter (exc E87 (it87 N) (loopOf Try.f87 15)) (canon (E87.keep 15))  n (tabl [(8, (.v (.v false [(.bp 0 0)]))), (10, (.v (.v false [(.bp 1 0)]))), (98, (.v (.v false [(.own 2)]))), (100, (.v (.v false [(.i .i64 x12)]))), (102, (.v (.v false [(.i .i64 x13)]))), (1, (.o (.box [.nl, (.i .i64 x14)]))), (3, (.o (.box [(.own 2), (.i .i64 x15)]))), (5, (.o (.row 30 true x16)))]) K = Pu.impl_SketchBump.l15 N (fun y0 y1 y2 y3 y4 => (K (.exit 2) (tabl [(8, (.v (.v false [(.bp 0 0)]))), (10, (.v (.v false [(.bp 1 0)]))), (98, (.v (.v false [(.own 2)]))), (100, (.v (.v false [(.i .i64 y0)]))), (102, (.v (.v false [(.i .i64 y1)]))), (1, (.o (.box [.nl, (.i .i64 y2)]))), (3, (.o (.box [(.own 2), (.i .i64 y3)]))), (5, (.o (.row 30 true y4)))]))) n x12 x13 x14 x15 x16) := by
  intro n
  induction n with
  | zero => exact (fun _ _ _ _ _ => rfl)
  | succ n ih =>
    have e0 : (fun x12 x13 x14 x15 x16 => iter (exc E87 (it87 N) (loopOf Try.f87 15)) (canon (E87.keep 15))  n (tabl [(8, (.v (.v false [(.bp 0 0)]))), (10, (.v (.v false [(.bp 1 0)]))), (98, (.v (.v false [(.own 2)]))), (100, (.v (.v false [(.i .i64 x12)]))), (102, (.v (.v false [(.i .i64 x13)]))), (1, (.o (.box [.nl, (.i .i64 x14)]))), (3, (.o (.box [(.own 2), (.i .i64 x15)]))), (5, (.o (.row 30 true x16)))]) K) = Pu.impl_SketchBump.l15 N (fun y0 y1 y2 y3 y4 => (K (.exit 2) (tabl [(8, (.v (.v false [(.bp 0 0)]))), (10, (.v (.v false [(.bp 1 0)]))), (98, (.v (.v false [(.own 2)]))), (100, (.v (.v false [(.i .i64 y0)]))), (102, (.v (.v false [(.i .i64 y1)]))), (1, (.o (.box [.nl, (.i .i64 y2)]))), (3, (.o (.box [(.own 2), (.i .i64 y3)]))), (5, (.o (.row 30 true y4)))]))) n := by funext x12 x13 x14 x15 x16; exact ih x12 x13 x14 x15 x16
    intro x12 x13 x14 x15 x16
    have h : ∀ g, exc E87 (it87 N) (loopOf Try.f87 15) (tabl [(8, (.v (.v false [(.bp 0 0)]))), (10, (.v (.v false [(.bp 1 0)]))), (98, (.v (.v false [(.own 2)]))), (100, (.v (.v false [(.i .i64 x12)]))), (102, (.v (.v false [(.i .i64 x13)]))), (1, (.o (.box [.nl, (.i .i64 x14)]))), (3, (.o (.box [(.own 2), (.i .i64 x15)]))), (5, (.o (.row 30 true x16)))]) (iterK g (canon (E87.keep 15)) K) = Pu.impl_SketchBump.r15 N (fun x12 x13 x14 x15 x16 => (g (tabl [(8, (.v (.v false [(.bp 0 0)]))), (10, (.v (.v false [(.bp 1 0)]))), (98, (.v (.v false [(.own 2)]))), (100, (.v (.v false [(.i .i64 x12)]))), (102, (.v (.v false [(.i .i64 x13)]))), (1, (.o (.box [.nl, (.i .i64 x14)]))), (3, (.o (.box [(.own 2), (.i .i64 x15)]))), (5, (.o (.row 30 true x16)))]))) (fun y0 y1 y2 y3 y4 => (K (.exit 2) (tabl [(8, (.v (.v false [(.bp 0 0)]))), (10, (.v (.v false [(.bp 1 0)]))), (98, (.v (.v false [(.own 2)]))), (100, (.v (.v false [(.i .i64 y0)]))), (102, (.v (.v false [(.i .i64 y1)]))), (1, (.o (.box [.nl, (.i .i64 y2)]))), (3, (.o (.box [(.own 2), (.i .i64 y3)]))), (5, (.o (.row 30 true y4)))]))) x12 x13 x14 x15 x16 := by intro g; kernel_rfl
    refine (iter_succ _ _ n _ K).trans ((h _).trans ?_)
    show Pu.impl_SketchBump.r15 N (fun x12 x13 x14 x15 x16 => (iter (exc E87 (it87 N) (loopOf Try.f87 15)) (canon (E87.keep 15))  n (tabl [(8, (.v (.v false [(.bp 0 0)]))), (10, (.v (.v false [(.bp 1 0)]))), (98, (.v (.v false [(.own 2)]))), (100, (.v (.v false [(.i .i64 x12)]))), (102, (.v (.v false [(.i .i64 x13)]))), (1, (.o (.box [.nl, (.i .i64 x14)]))), (3, (.o (.box [(.own 2), (.i .i64 x15)]))), (5, (.o (.row 30 true x16)))]) K)) (fun y0 y1 y2 y3 y4 => (K (.exit 2) (tabl [(8, (.v (.v false [(.bp 0 0)]))), (10, (.v (.v false [(.bp 1 0)]))), (98, (.v (.v false [(.own 2)]))), (100, (.v (.v false [(.i .i64 y0)]))), (102, (.v (.v false [(.i .i64 y1)]))), (1, (.o (.box [.nl, (.i .i64 y2)]))), (3, (.o (.box [(.own 2), (.i .i64 y3)]))), (5, (.o (.row 30 true y4)))]))) x12 x13 x14 x15 x16 = _
    rw [e0]; rfl
theorem lo87_15 {R : Type} (N : Nat) : LoopOk E87 (it87 N (R := R)) (loopOf Try.f87 15) := by
  have e : firstRid (loopOf Try.f87 15) = 15 := by kernel_rfl
  intro L K r
  rw [e]
  intro h
  unfold it87 at h
  simp only [show Nat.beq 15 5 = false from rfl, show Nat.beq 15 15 = true from rfl, cond_false, cond_true] at h
  refine tell_ok (Q := fun L => ∃ n, iter (exc E87 (it87 N) (loopOf Try.f87 15)) (canon (E87.keep 15)) n (tabl L) K = some r) h (fun xs h => ?_) (fun h => ?_)
  · (try dsimp only at h)
    split at h
    · exact ⟨N, ((e87_15 N K N) _ _ _ _ _).trans h⟩
    · cases h
  cases h
theorem e87_18 {R : Type} (N : Nat) (K : Ex → St → Option R) : ∀ n : Nat, (∀ x17 x18 x19 x20 x21 x22 x23 x24, iter (exc E87 (it87 N) (loopOf Try.f87 18)) (canon (E87.keep 18))  n (tabl [(8, (.v (.v false [(.bp 0 0)]))), (10, (.v (.v false [(.bp 1 0)]))), (20, (.v (.v false [(.inn 2 x17 0)]))), (98, (.v (.v false [(.own 2)]))), (100, (.v (.v false [(.i .i64 x18)]))), (102, (.v (.v false [(.i .i64 x19)]))), (112, (.v (.v false [(.i .i64 x20)]))), (114, (.v (.v false [(.i .i64 x21)]))), (1, (.o (.box [.nl, (.i .i64 x22)]))), (3, (.o (.box [(.own 2), (.i .i64 x23)]))), (5, (.o (.row 30 true x24)))]) K = Pu.impl_SketchBump.l18 N (fun y0 y1 y2 y3 y4 y5 y6 y7 => (K (.exit 4) (tabl [(8, (.v (.v false [(.bp 0 0)]))), (10, (.v (.v false [(.bp 1 0)]))), (20, (.v (.v false [(.inn 2 y0 0)]))), (98, (.v (.v false [(.own 2)]))), (100, (.v (.v false [(.i .i64 y1)]))), (102, (.v (.v false [(.i .i64 y2)]))), (112, (.v (.v false [(.i .i64 y3)]))), (114, (.v (.v false [(.i .i64 y4)]))), (1, (.o (.box [.nl, (.i .i64 y5)]))), (3, (.o (.box [(.own 2), (.i .i64 y6)]))), (5, (.o (.row 30 true y7)))]))) n x17 x18 x19 x20 x21 x22 x23 x24) := by
  intro n
  induction n with
  | zero => exact (fun _ _ _ _ _ _ _ _ => rfl)
  | succ n ih =>
    have e0 : (fun x17 x18 x19 x20 x21 x22 x23 x24 => iter (exc E87 (it87 N) (loopOf Try.f87 18)) (canon (E87.keep 18))  n (tabl [(8, (.v (.v false [(.bp 0 0)]))), (10, (.v (.v false [(.bp 1 0)]))), (20, (.v (.v false [(.inn 2 x17 0)]))), (98, (.v (.v false [(.own 2)]))), (100, (.v (.v false [(.i .i64 x18)]))), (102, (.v (.v false [(.i .i64 x19)]))), (112, (.v (.v false [(.i .i64 x20)]))), (114, (.v (.v false [(.i .i64 x21)]))), (1, (.o (.box [.nl, (.i .i64 x22)]))), (3, (.o (.box [(.own 2), (.i .i64 x23)]))), (5, (.o (.row 30 true x24)))]) K) = Pu.impl_SketchBump.l18 N (fun y0 y1 y2 y3 y4 y5 y6 y7 => (K (.exit 4) (tabl [(8, (.v (.v false [(.bp 0 0)]))), (10, (.v (.v false [(.bp 1 0)]))), (20, (.v (.v false [(.inn 2 y0 0)]))), (98, (.v (.v false [(.own 2)]))), (100, (.v (.v false [(.i .i64 y1)]))), (102, (.v (.v false [(.i .i64 y2)]))), (112, (.v (.v false [(.i .i64 y3)]))), (114, (.v (.v false [(.i .i64 y4)]))), (1, (.o (.box [.nl, (.i .i64 y5)]))), (3, (.o (.box [(.own 2), (.i .i64 y6)]))), (5, (.o (.row 30 true y7)))]))) n := by funext x17 x18 x19 x20 x21 x22 x23 x24; exact ih x17 x18 x19 x20 x21 x22 x23 x24
    intro x17 x18 x19 x20 x21 x22 x23 x24
    have h : ∀ g, exc E87 (it87 N) (loopOf Try.f87 18) (tabl [(8, (.v (.v false [(.bp 0 0)]))), (10, (.v (.v false [(.bp 1 0)]))), (20, (.v (.v false [(.inn 2 x17 0)]))), (98, (.v (.v false [(.own 2)]))), (100, (.v (.v false [(.i .i64 x18)]))), (102, (.v (.v false [(.i .i64 x19)]))), (112, (.v (.v false [(.i .i64 x20)]))), (114, (.v (.v false [(.i .i64 x21)]))), (1, (.o (.box [.nl, (.i .i64 x22)]))), (3, (.o (.box [(.own 2), (.i .i64 x23)]))), (5, (.o (.row 30 true x24)))]) (iterK g (canon (E87.keep 18)) K) = Pu.impl_SketchBump.r18 N (fun x17 x18 x19 x20 x21 x22 x23 x24 => (g (tabl [(8, (.v (.v false [(.bp 0 0)]))), (10, (.v (.v false [(.bp 1 0)]))), (20, (.v (.v false [(.inn 2 x17 0)]))), (98, (.v (.v false [(.own 2)]))), (100, (.v (.v false [(.i .i64 x18)]))), (102, (.v (.v false [(.i .i64 x19)]))), (112, (.v (.v false [(.i .i64 x20)]))), (114, (.v (.v false [(.i .i64 x21)]))), (1, (.o (.box [.nl, (.i .i64 x22)]))), (3, (.o (.box [(.own 2), (.i .i64 x23)]))), (5, (.o (.row 30 true x24)))]))) (fun y0 y1 y2 y3 y4 y5 y6 y7 => (K (.exit 4) (tabl [(8, (.v (.v false [(.bp 0 0)]))), (10, (.v (.v false [(.bp 1 0)]))), (20, (.v (.v false [(.inn 2 y0 0)]))), (98, (.v (.v false [(.own 2)]))), (100, (.v (.v false [(.i .i64 y1)]))), (102, (.v (.v false [(.i .i64 y2)]))), (112, (.v (.v false [(.i .i64 y3)]))), (114, (.v (.v false [(.i .i64 y4)]))), (1, (.o (.box [.nl, (.i .i64 y5)]))), (3, (.o (.box [(.own 2), (.i .i64 y6)]))), (5, (.o (.row 30 true y7)))]))) x17 x18 x19 x20 x21 x22 x23 x24 := by intro g; kernel_rfl
    refine (iter_succ _ _ n _ K).trans ((h _).trans ?_)
    show Pu.impl_SketchBump.r18 N (fun x17 x18 x19 x20 x21 x22 x23 x24 => (iter (exc E87 (it87 N) (loopOf Try.f87 18)) (canon (E87.keep 18))  n (tabl [(8, (.v (.v false [(.bp 0 0)]))), (10, (.v (.v false [(.bp 1 0)]))), (20, (.v (.v false [(.inn 2 x17 0)]))), (98, (.v (.v false [(.own 2)]))), (100, (.v (.v false [(.i .i64 x18)]))), (102, (.v (.v false [(.i .i64 x19)]))), (112, (.v (.v false [(.i .i64 x20)]))), (114, (.v (.v false [(.i .i64 x21)]))), (1, (.o (.box [.nl, (.i .i64 x22)]))), (3, (.o (.box [(.own 2), (.i .i64 x23)]))), (5, (.o (.row 30 true x24)))]) K)) (fun y0 y1 y2 y3 y4 y5 y6 y7 => (K (.exit 4) (tabl [(8, (.v (.v false [(.bp 0 0)]))), (10, (.v (.v false [(.bp 1 0)]))), (20, (.v (.v false [(.inn 2 y0 0)]))), (98, (.v (.v false [(.own 2)]))), (100, (.v (.v false [(.i .i64 y1)]))), (102, (.v (.v false [(.i .i64 y2)]))), (112, (.v (.v false [(.i .i64 y3)]))), (114, (.v (.v false [(.i .i64 y4)]))), (1, (.o (.box [.nl, (.i .i64 y5)]))), (3, (.o (.box [(.own 2), (.i .i64 y6)]))), (5, (.o (.row 30 true y7)))]))) x17 x18 x19 x20 x21 x22 x23 x24 = _
    rw [e0]; rfl
theorem lo87_18 {R : Type} (N : Nat) : LoopOk E87 (it87 N (R := R)) (loopOf Try.f87 18) := by
  have e : firstRid (loopOf Try.f87 18) = 18 := by kernel_rfl
  intro L K r
  rw [e]
  intro h
  unfold it87 at h
  simp only [show Nat.beq 18 5 = false from rfl, show Nat.beq 18 15 = false from rfl, show Nat.beq 18 18 = true from rfl, cond_false, cond_true] at h
  refine tell_ok (Q := fun L => ∃ n, iter (exc E87 (it87 N) (loopOf Try.f87 18)) (canon (E87.keep 18)) n (tabl L) K = some r) h (fun xs h => ?_) (fun h => ?_)
  · (try dsimp only at h)
    split at h
    · exact ⟨N, ((e87_18 N K N) _ _ _ _ _ _ _ _).trans h⟩
    · cases h
  cases h
def sp87 : List Arg → Option (Bool × Res)
  | [(.v true [(.sh 30 s0_0), (.i .i64 s0_1)]), (.v false [(.s key1)])] => some (Pu.impl_SketchBump.c s0_0 s0_1 key1, ⟨[(.v true [(.ow 30 true ((Pu.impl_SketchBump.v s0_0 s0_1 key1).1)), (.i .i64 ((Pu.impl_SketchBump.v s0_0 s0_1 key1).2))])], []⟩)
  | _ => none
theorem ok87 : FnOk Try.prog T 87 sp87 := by
  refine fn_ok (E := E87) hE (call_cons ok177 (call_cons ok178 (call_cons ok179 call_nil))) hM Try.func87 (code := (Try.f87.body.getD .skip)) (by kernel_rfl) (by kernel_rfl) ?_
  have key : ∀ (s0_0 : Row) (s0_1 : Int) (key1 : ByteArray), Pu.impl_SketchBump.c s0_0 s0_1 key1 = true → ∃ it : It Res, (∀ c ∈ loopsOf (Try.f87.body.getD .skip), LoopOk E87 it c) ∧ body E87 it Try.f87 [(.v true [(.sh 30 s0_0), (.i .i64 s0_1)]), (.v false [(.s key1)])] = some ⟨[(.v true [(.ow 30 true ((Pu.impl_SketchBump.v s0_0 s0_1 key1).1)), (.i .i64 ((Pu.impl_SketchBump.v s0_0 s0_1 key1).2))])], []⟩ := by
    intro s0_0 s0_1 key1  h1
    obtain ⟨N, hN⟩ := Pu.impl_SketchBump.b_eq (R := Res) (fun r0 r1 => some ⟨[(.v true [(.ow 30 true r0), (.i .i64 r1)])], []⟩) s0_0 s0_1 key1 h1
    have hl : loopsOf (Try.f87.body.getD .skip) = [loopOf Try.f87 5, loopOf Try.f87 15, loopOf Try.f87 18] := by kernel_rfl
    refine ⟨it87 N, by rw [hl]; exact (loops_cons (lo87_5 N) (loops_cons (lo87_15 N) (loops_cons (lo87_18 N) loops_nil))), ?_⟩
    refine Eq.trans (show body E87 (it87 N) Try.f87 [(.v true [(.sh 30 s0_0), (.i .i64 s0_1)]), (.v false [(.s key1)])] = Pu.impl_SketchBump.b N (fun r0 r1 => some ⟨[(.v true [(.ow 30 true r0), (.i .i64 r1)])], []⟩) s0_0 s0_1 key1 by kernel_rfl) hN
  intro args r h
  unfold sp87 at h
  split at h
  · injection h with h
    injection h with h1 h2
    subst h2
    exact ⟨by kernel_rfl, fun hf => ⟨of_decide_eq_true (by kernel_rfl), key _ _ _ h1⟩⟩
  · cases h

end Go.FG.Se

namespace Go.FG.Se
open Go.Proofs
def E193 : Env := { toTab := T, call := Go.FG.callIn [], mode := Go.FG.modeIn md, keep := Go.FG.keepIn [], tk := fun n => Go.FG.memB n [], om := Go.FG.omIn [] }
def sp193 : List Arg → Option (Bool × Res)
  | [(.v false [(.s s0)]), (.fb [(.s key1)])] => some (true, ⟨[(.v false [(.b (Pu.impl_withoutKey_1.v s0 key1))])], []⟩)
  | _ => none
theorem ok193 : FnOk Try.prog T 193 sp193 := by
  refine fn_ok (E := E193) hE call_nil hM Try.func193 (code := (Try.f193.body.getD .skip)) (by kernel_rfl) (by kernel_rfl) ?_
  have key : ∀ (s0 : ByteArray) (key1 : ByteArray), ∃ it : It Res, (∀ c ∈ loopsOf (Try.f193.body.getD .skip), LoopOk E193 it c) ∧ body E193 it Try.f193 [(.v false [(.s s0)]), (.fb [(.s key1)])] = some ⟨[(.v false [(.b (Pu.impl_withoutKey_1.v s0 key1))])], []⟩ := by
    intro s0 key1 
    have hN := Pu.impl_withoutKey_1.b_eq (R := Res) (fun r0 => some ⟨[(.v false [(.b r0)])], []⟩) s0 key1
    have hl : loopsOf (Try.f193.body.getD .skip) = [] := by kernel_rfl
    refine ⟨iterN 0, by rw [hl]; exact loops_nil, ?_⟩
    refine Eq.trans (show body E193 (iterN 0) Try.f193 [(.v false [(.s s0)]), (.fb [(.s key1)])] = Pu.impl_withoutKey_1.b (fun r0 => some ⟨[(.v false [(.b r0)])], []⟩) s0 key1 by kernel_rfl) hN
  intro args r h
  unfold sp193 at h
  split at h
  · injection h with h
    injection h with h1 h2
    subst h2
    exact ⟨by kernel_rfl, fun hf => ⟨of_decide_eq_true (by kernel_rfl), key _ _⟩⟩
  · cases h

end Go.FG.Se

namespace Go.FG.Se
open Go.Proofs
def E225 : Env := { toTab := T, call := Go.FG.callIn [(193, sp193)], mode := Go.FG.modeIn md, keep := Go.FG.keepIn [(2, [0, 1, 4, 7, 8])], tk := fun n => Go.FG.memB n [], om := Go.FG.omIn [] }
def it225 (N : Nat) {R : Type} : It R := fun rid f cn L K => bif Nat.beq rid 2 then (tell [(0, (.v (.v false [(.sh 9 [])]))), (2, (.v (.v false [(.fn 193 [[(.s ⟨#[]⟩)]])]))), (8, (.v (.v false [(.i .i64 0)]))), (14, (.v (.v false [(.i .i64 0)]))), (16, (.v (.v false [(.i .i64 0)])))] (fun | [.R x0, .S x1, .I x2, .I x3, .I x4] => Pu.slices_IndexFunc_string.l2 N (fun y0 y1 y2 y3 y4 => (K .ret (tabl [(0, (.v (.v false [(.sh 9 y0)]))), (2, (.v (.v false [(.fn 193 [[(.s y1)]])]))), (8, (.v (.v false [(.i .i64 y2)]))), (14, (.v (.v false [(.i .i64 y3)]))), (16, (.v (.v false [(.i .i64 y4)])))]))) (fun y0 y1 y2 y3 y4 => (K (.exit 0) (tabl [(0, (.v (.v false [(.sh 9 y0)]))), (2, (.v (.v false [(.fn 193 [[(.s y1)]])]))), (8, (.v (.v false [(.i .i64 y2)]))), (14, (.v (.v false [(.i .i64 y3)]))), (16, (.v (.v false [(.i .i64 y4)])))]))) N x0 x1 x2 x3 x4 | _ => none) L (none)) else none
theorem e225_2 {R : Type} (N : Nat) (K : Ex → St → Option R) : ∀ n : Nat, (∀ x0 x1 x2 x3 x4, iter (exc E225 (it225 N) (loopOf Try.f225 2)) (canon (E225.keep 2))  n (tabl [(0, (.v (.v false [(.sh 9 x0)]))), (2, (.v (.v false [(.fn 193 [[(.s x1)]])]))), (8, (.v (.v false [(.i .i64 x2)]))), (14, (.v (.v false [(.i .i64 x3)]))), (16, (.v (.v false [(.i .i64 x4)])))]) K = Pu.slices_IndexFunc_string.l2 N (fun y0 y1 y2 y3 y4 => (K .ret (tabl [(0, (.v (.v false [(.sh 9 y0)]))), (2, (.v (.v false [(.fn 193 [[(.s y1)]])]))), (8, (.v (.v false [(.i .i64 y2)]))), (14, (.v (.v false [(.i .i64 y3)]))), (16, (.v (.v false [(.i .i64 y4)])))]))) (fun y0 y1 y2 y3 y4 => (K (.exit 0) (tabl [(0, (.v (.v false [(.sh 9 y0)]))), (2, (.v (.v false [(.fn 193 [[(.s y1)]])]))), (8, (.v (.v false [(.i .i64 y2)]))), (14, (.v (.v false [(.i .i64 y3)]))), (16, (.v (.v false [(.i .i64 y4)])))]))) n x0 x1 x2 x3 x4) := by
  intro n
  induction n with
  | zero => exact (fun _ _ _ _ _ => rfl)
  | succ n ih =>
    have e0 : (fun x0 x1 x2 x3 x4 => iter (exc E225 (it225 N) (loopOf Try.f225 2)) (canon (E225.keep 2))  n (tabl [(0, (.v (.v false [(.sh 9 x0)]))), (2, (.v (.v false [(.fn 193 [[(.s x1)]])]))), (8, (.v (.v false [(.i .i64 x2)]))), (14, (.v (.v false [(.i .i64 x3)]))), (16, (.v (.v false [(.i .i64 x4)])))]) K) = Pu.slices_IndexFunc_string.l2 N (fun y0 y1 y2 y3 y4 => (K .ret (tabl [(0, (.v (.v false [(.sh 9 y0)]))), (2, (.v (.v false [(.fn 193 [[(.s y1)]])]))), (8, (.v (.v false [(.i .i64 y2)]))), (14, (.v (.v false [(.i .i64 y3)]))), (16, (.v (.v false [(.i .i64 y4)])))]))) (fun y0 y1 y2 y3 y4 => (K (.exit 0) (tabl [(0, (.v (.v false [(.sh 9 y0)]))), (2, (.v (.v false [(.fn 193 [[(.s y1)]])]))), (8, (.v (.v false [(.i .i64 y2)]))), (14, (.v (.v false [(.i .i64 y3)]))), (16, (.v (.v false [(.i .i64 y4)])))]))) n := by funext x0 x1 x2 x3 x4; exact ih x0 x1 x2 x3 x4
    intro x0 x1 x2 x3 x4
    have h : ∀ g, exc E225 (it225 N) (loopOf Try.f225 2) (tabl [(0, (.v (.v false [(.sh 9 x0)]))), (2, (.v (.v false [(.fn 193 [[(.s x1)]])]))), (8, (.v (.v false [(.i .i64 x2)]))), (14, (.v (.v false [(.i .i64 x3)]))), (16, (.v (.v false [(.i .i64 x4)])))]) (iterK g (canon (E225.keep 2)) K) = Pu.slices_IndexFunc_string.r2 N (fun x0 x1 x2 x3 x4 => (g (tabl [(0, (.v (.v false [(.sh 9 x0)]))), (2, (.v (.v false [(.fn 193 [[(.s x1)]])]))), (8, (.v (.v false [(.i .i64 x2)]))), (14, (.v (.v false [(.i .i64 x3)]))), (16, (.v (.v false [(.i .i64 x4)])))]))) (fun y0 y1 y2 y3 y4 => (K .ret (tabl [(0, (.v (.v false [(.sh 9 y0)]))), (2, (.v (.v false [(.fn 193 [[(.s y1)]])]))), (8, (.v (.v false [(.i .i64 y2)]))), (14, (.v (.v false [(.i .i64 y3)]))), (16, (.v (.v false [(.i .i64 y4)])))]))) (fun y0 y1 y2 y3 y4 => (K (.exit 0) (tabl [(0, (.v (.v false [(.sh 9 y0)]))), (2, (.v (.v false [(.fn 193 [[(.s y1)]])]))), (8, (.v (.v false [(.i .i64 y2)]))), (14, (.v (.v false [(.i .i64 y3)]))), (16, (.v (.v false [(.i .i64 y4)])))]))) x0 x1 x2 x3 x4 := by intro g; kernel_rfl
    refine (iter_succ _ _ n _ K).trans ((h _).trans ?_)
    show Pu.slices_IndexFunc_string.r2 N (fun x0 x1 x2 x3 x4 => (iter (exc E225 (it225 N) (loopOf Try.f225 2)) (canon (E225.keep 2))  n (tabl [(0, (.v (.v false [(.sh 9 x0)]))), (2, (.v (.v false [(.fn 193 [[(.s x1)]])]))), (8, (.v (.v false [(.i .i64 x2)]))), (14, (.v (.v false [(.i .i64 x3)]))), (16, (.v (.v false [(.i .i64 x4)])))]) K)) (fun y0 y1 y2 y3 y4 => (K .ret (tabl [(0, (.v (.v false [(.sh 9 y0)]))), (2, (.v (.v false [(.fn 193 [[(.s y1)]])]))), (8, (.v (.v false [(.i .i64 y2)]))), (14, (.v (.v false [(.i .i64 y3)]))), (16, (.v (.v false [(.i .i64 y4)])))]))) (fun y0 y1 y2 y3 y4 => (K (.exit 0) (tabl [(0, (.v (.v false [(.sh 9 y0)]))), (2, (.v (.v false [(.fn 193 [[(.s y1)]])]))), (8, (.v (.v false [(.i .i64 y2)]))), (14, (.v (.v false [(.i .i64 y3)]))), (16, (.v (.v false [(.i .i64 y4)])))]))) x0 x1 x2 x3 x4 = _
    rw [e0]; rfl
theorem lo225_2 {R : Type} (N : Nat) : LoopOk E225 (it225 N (R := R)) (loopOf Try.f225 2) := by
  have e : firstRid (loopOf Try.f225 2) = 2 := by kernel_rfl
  intro L K r
  rw [e]
  intro h
  unfold it225 at h
  simp only [show Nat.beq 2 2 = true from rfl, cond_false, cond_true] at h
  refine tell_ok (Q := fun L => ∃ n, iter (exc E225 (it225 N) (loopOf Try.f225 2)) (canon (E225.keep 2)) n (tabl L) K = some r) h (fun xs h => ?_) (fun h => ?_)
  · (try dsimp only at h)
    split at h
    · exact ⟨N, ((e225_2 N K N) _ _ _ _ _).trans h⟩
    · cases h
  cases h
def sp225 : List Arg → Option (Bool × Res)
  | [(.v false [(.sh 9 s0)]), (.v false [(.fn 193 [[(.s key1)]])])] => some (Pu.slices_IndexFunc_string.c s0 key1, ⟨[(.v false [(.i .i64 (Pu.slices_IndexFunc_string.v s0 key1))])], []⟩)
  | _ => none
theorem ok225 : FnOk Try.prog T 225 sp225 := by
  refine fn_ok (E := E225) hE (call_cons ok193 call_nil) hM Try.func225 (code := (Try.f225.body.getD .skip)) (by kernel_rfl) (by kernel_rfl) ?_
  have key : ∀ (s0 : Row) (key1 : ByteArray), Pu.slices_IndexFunc_string.c s0 key1 = true → ∃ it : It Res, (∀ c ∈ loopsOf (Try.f225.body.getD .skip), LoopOk E225 it c) ∧ body E225 it Try.f225 [(.v false [(.sh 9 s0)]), (.v false [(.fn 193 [[(.s key1)]])])] = some ⟨[(.v false [(.i .i64 (Pu.slices_IndexFunc_string.v s0 key1))])], []⟩ := by
    intro s0 key1  h1
    obtain ⟨N, hN⟩ := Pu.slices_IndexFunc_string.b_eq (R := Res) (fun r0 => some ⟨[(.v false [(.i .i64 r0)])], []⟩) s0 key1 h1
    have hl : loopsOf (Try.f225.body.getD .skip) = [loopOf Try.f225 2] := by kernel_rfl
    refine ⟨it225 N, by rw [hl]; exact (loops_cons (lo225_2 N) loops_nil), ?_⟩
    refine Eq.trans (show body E225 (it225 N) Try.f225 [(.v false [(.sh 9 s0)]), (.v false [(.fn 193 [[(.s key1)]])])] = Pu.slices_IndexFunc_string.b N (fun r0 => some ⟨[(.v false [(.i .i64 r0)])], []⟩) s0 key1 by kernel_rfl) hN
  intro args r h
  unfold sp225 at h
  split at h
  · injection h with h
    injection h with h1 h2
    subst h2
    exact ⟨by kernel_rfl, fun hf => ⟨of_decide_eq_true (by kernel_rfl), key _ _ h1⟩⟩
  · cases h

end Go.FG.Se

namespace Go.FG.Se
open Go.Proofs
def E192 : Env := { toTab := T, call := Go.FG.callIn [(225, sp225), (193, sp193)], mode := Go.FG.modeIn md, keep := Go.FG.keepIn [(5, [0, 1, 5, 6])], tk := fun n => Go.FG.memB n [], om := Go.FG.omIn [] }
def it192 (N : Nat) {R : Type} : It R := fun rid f cn L K => bif Nat.beq rid 5 then (tell [(0, (.v (.v false [(.own 900000000)]))), (2, (.v (.v false [(.fn 193 [[(.s ⟨#[]⟩)]])]))), (10, (.v (.v false [(.i .i64 0)]))), (12, (.v (.v false [(.i .i64 0)]))), (1800000001, (.o (.row 9 true [])))] (fun | [.S x0, .I x1, .I x2, .R x3] => Pu.slices_DeleteFunc_string.l5 N (fun y0 y1 y2 y3 => (K (.exit 0) (tabl [(0, (.v (.v false [(.own 900000000)]))), (2, (.v (.v false [(.fn 193 [[(.s y0)]])]))), (10, (.v (.v false [(.i .i64 y1)]))), (12, (.v (.v false [(.i .i64 y2)]))), (1800000001, (.o (.row 9 true y3)))]))) N x0 x1 x2 x3 | _ => none) L (none)) else none
theorem e192_5 {R : Type} (N : Nat) (K : Ex → St → Option R) : ∀ n : Nat, (∀ x0 x1 x2 x3, iter (exc E192 (it192 N) (loopOf Try.f192 5)) (canon (E192.keep 5))  n (tabl [(0, (.v (.v false [(.own 900000000)]))), (2, (.v (.v false [(.fn 193 [[(.s x0)]])]))), (10, (.v (.v false [(.i .i64 x1)]))), (12, (.v (.v false [(.i .i64 x2)]))), (1800000001, (.o (.row 9 true x3)))]) K = Pu.slices_DeleteFunc_string.l5 N (fun y0 y1 y2 y3 => (K (.exit 0) (tabl [(0, (.v (.v false [(.own 900000000)]))), (2, (.v (.v false [(.fn 193 [[(.s y0)]])]))), (10, (.v (.v false [(.i .i64 y1)]))), (12, (.v (.v false [(.i .i64 y2)]))), (1800000001, (.o (.row 9 true y3)))]))) n x0 x1 x2 x3) := by
  intro n
  induction n with
  | zero => exact (fun _ _ _ _ => rfl)
  | succ n ih =>
    have e0 : (fun x0 x1 x2 x3 => iter (exc E192 (it192 N) (loopOf Try.f192 5)) (canon (E192.keep 5))  n (tabl [(0, (.v (.v false [(.own 900000000)]))), (2, (.v (.v false [(.fn 193 [[(.s x0)]])]))), (10, (.v (.v false [(.i .i64 x1)]))), (12, (.v (.v false [(.i .i64 x2)]))), (1800000001, (.o (.row 9 true x3)))]) K) = Pu.slices_DeleteFunc_string.l5 N (fun y0 y1 y2 y3 => (K (.exit 0) (tabl [(0, (.v (.v false [(.own 900000000)]))), (2, (.v (.v false [(.fn 193 [[(.s y0)]])]))), (10, (.v (.v false [(.i .i64 y1)]))), (12, (.v (.v false [(.i .i64 y2)]))), (1800000001, (.o (.row 9 true y3)))]))) n := by funext x0 x1 x2 x3; exact ih x0 x1 x2 x3
    intro x0 x1 x2 x3
    have h : ∀ g, exc E192 (it192 N) (loopOf Try.f192 5) (tabl [(0, (.v (.v false [(.own 900000000)]))), (2, (.v (.v false [(.fn 193 [[(.s x0)]])]))), (10, (.v (.v false [(.i .i64 x1)]))), (12, (.v (.v false [(.i .i64 x2)]))), (1800000001, (.o (.row 9 true x3)))]) (iterK g (canon (E192.keep 5)) K) = Pu.slices_DeleteFunc_string.r5 N (fun x0 x1 x2 x3 => (g (tabl [(0, (.v (.v false [(.own 900000000)]))), (2, (.v (.v false [(.fn 193 [[(.s x0)]])]))), (10, (.v (.v false [(.i .i64 x1)]))), (12, (.v (.v false [(.i .i64 x2)]))), (1800000001, (.o (.row 9 true x3)))]))) (fun y0 y1 y2 y3 => (K (.exit 0) (tabl [(0, (.v (.v false [(.own 900000000)]))), (2, (.v (.v false [(.fn 193 [[(.s y0)]])]))), (10, (.v (.v false [(.i .i64 y1)]))), (12, (.v (.v false [(.i .i64 y2)]))), (1800000001, (.o (.row 9 true y3)))]))) x0 x1 x2 x3 := by intro g; kernel_rfl
    refine (iter_succ _ _ n _ K).trans ((h _).trans ?_)
    show Pu.slices_DeleteFunc_string.r5 N (fun x0 x1 x2 x3 => (iter (exc E192 (it192 N) (loopOf Try.f192 5)) (canon (E192.keep 5))  n (tabl [(0, (.v (.v false [(.own 900000000)]))), (2, (.v (.v false [(.fn 193 [[(.s x0)]])]))), (10, (.v (.v false [(.i .i64 x1)]))), (12, (.v (.v false [(.i .i64 x2)]))), (1800000001, (.o (.row 9 true x3)))]) K)) (fun y0 y1 y2 y3 => (K (.exit 0) (tabl [(0, (.v (.v false [(.own 900000000)]))), (2, (.v (.v false [(.fn 193 [[(.s y0)]])]))), (10, (.v (.v false [(.i .i64 y1)]))), (12, (.v (.v false [(.i .i64 y2)]))), (1800000001, (.o (.row 9 true y3)))]))) x0 x1 x2 x3 = _
    rw [e0]; rfl
theorem lo192_5 {R : Type} (N : Nat) : LoopOk E192 (it192 N (R := R)) (loopOf Try.f192 5) := by
  have e : firstRid (loopOf Try.f192 5) = 5 := by kernel_rfl
  intro L K r
  rw [e]
  intro h
  unfold it192 at h
  simp only [show Nat.beq 5 5 = true from rfl, cond_false, cond_true] at h
  refine tell_ok (Q := fun L => ∃ n, iter (exc E192 (it192 N) (loopOf Try.f192 5)) (canon (E192.keep 5)) n (tabl L) K = some r) h (fun xs h => ?_) (fun h => ?_)
  · (try dsimp only at h)
    split at h
    · exact ⟨N, ((e192_5 N K N) _ _ _ _).trans h⟩
    · cases h
  cases h
def sp192 : List Arg → Option (Bool × Res)
  | [(.v false [(.ow 9 true s0)]), (.v false [(.fn 193 [[(.s key1)]])])] => some (Pu.slices_DeleteFunc_string.c s0 key1, ⟨[(.v false [(.ow 9 true (Pu.slices_DeleteFunc_string.v s0 key1))])], [[.nl]]⟩)
  | _ => none
theorem ok192 : FnOk Try.prog T 192 sp192 := by
  refine fn_ok (E := E192) hE (call_cons ok225 (call_cons ok193 call_nil)) hM Try.func192 (code := (Try.f192.body.getD .skip)) (by kernel_rfl) (by kernel_rfl) ?_
  have key : ∀ (s0 : Row) (key1 : ByteArray), Pu.slices_DeleteFunc_string.c s0 key1 = true → ∃ it : It Res, (∀ c ∈ loopsOf (Try.f192.body.getD .skip), LoopOk E192 it c) ∧ body E192 it Try.f192 [(.v false [(.ow 9 true s0)]), (.v false [(.fn 193 [[(.s key1)]])])] = some ⟨[(.v false [(.ow 9 true (Pu.slices_DeleteFunc_string.v s0 key1))])], [[.nl]]⟩ := by
    intro s0 key1  h1
    obtain ⟨N, hN⟩ := Pu.slices_DeleteFunc_string.b_eq (R := Res) (fun r0 => some ⟨[(.v false [(.ow 9 true r0)])], [[.nl]]⟩) s0 key1 h1
    have hl : loopsOf (Try.f192.body.getD .skip) = [loopOf Try.f192 5] := by kernel_rfl
    refine ⟨it192 N, by rw [hl]; exact (loops_cons (lo192_5 N) loops_nil), ?_⟩
    refine Eq.trans (show body E192 (it192 N) Try.f192 [(.v false [(.ow 9 true s0)]), (.v false [(.fn 193 [[(.s key1)]])])] = Pu.slices_DeleteFunc_string.b N (fun r0 => some ⟨[(.v false [(.ow 9 true r0)])], [[.nl]]⟩) s0 key1 by kernel_rfl) hN
  intro args r h
  unfold sp192 at h
  split at h
  · injection h with h
    injection h with h1 h2
    subst h2
    exact ⟨by kernel_rfl, fun hf => ⟨of_decide_eq_true (by kernel_rfl), key _ _ h1⟩⟩
  · cases h

end Go.FG.Se

namespace Go.FG.Se
open Go.Proofs
def E111 : Env := { toTab := T, call := Go.FG.callIn [(190, sp190), (192, sp192)], mode := Go.FG.modeIn md, keep := Go.FG.keepIn [], tk := fun n => Go.FG.memB n [], om := Go.FG.omIn [] }
def sp111 : List Arg → Option (Bool × Res)
  | [(.v false [(.sh 9 l0)]), (.v false [(.s key1)])] => some (Pu.impl_withoutKey.c l0 key1, ⟨[(.v false [(.ow 9 true (Pu.impl_withoutKey.v l0 key1))])], []⟩)
  | _ => none
theorem ok111 : FnOk Try.prog T 111 sp111 := by
  refine fn_ok (E := E111) hE (call_cons ok190 (call_cons ok192 call_nil)) hM Try.func111 (code := (Try.f111.body.getD .skip)) (by kernel_rfl) (by kernel_rfl) ?_
  have key : ∀ (l0 : Row) (key1 : ByteArray), Pu.impl_withoutKey.c l0 key1 = true → ∃ it : It Res, (∀ c ∈ loopsOf (Try.f111.body.getD .skip), LoopOk E111 it c) ∧ body E111 it Try.f111 [(.v false [(.sh 9 l0)]), (.v false [(.s key1)])] = some ⟨[(.v false [(.ow 9 true (Pu.impl_withoutKey.v l0 key1))])], []⟩ := by
    intro l0 key1  h1
    have hN := Pu.impl_withoutKey.b_eq (R := Res) (fun r0 => some ⟨[(.v false [(.ow 9 true r0)])], []⟩) l0 key1 h1
    have hl : loopsOf (Try.f111.body.getD .skip) = [] := by kernel_rfl
    refine ⟨iterN 0, by rw [hl]; exact loops_nil, ?_⟩
    refine Eq.trans (show body E111 (iterN 0) Try.f111 [(.v false [(.sh 9 l0)]), (.v false [(.s key1)])] = Pu.impl_withoutKey.b (fun r0 => some ⟨[(.v false [(.ow 9 true r0)])], []⟩) l0 key1 by kernel_rfl) hN
  intro args r h
  unfold sp111 at h
  split at h
  · injection h with h
    injection h with h1 h2
    subst h2
    exact ⟨by kernel_rfl, fun hf => ⟨of_decide_eq_true (by kernel_rfl), key _ _ h1⟩⟩
  · cases h

end Go.FG.Se

namespace Go.FG.Se
open Go.Proofs
def E112 : Env := { toTab := T, call := Go.FG.callIn [(178, sp178), (179, sp179)], mode := Go.FG.modeIn md, keep := Go.FG.keepIn [(5, [1, 5, 12, 13, 14])], tk := fun n => Go.FG.memB n [], om := Go.FG.omIn [] }
def it112 (N : Nat) {R : Type} : It R := fun rid f cn L K => bif Nat.beq rid 5 then (tell [(2, (.v (.v false [(.s ⟨#[]⟩)]))), (10, (.v (.v false [(.i .i64 0)]))), (24, (.v (.v false [(.sh 30 [])]))), (26, (.v (.v false [(.i .i64 0)]))), (28, (.v (.v false [(.i .i64 0)])))] (fun | [.S x0, .I x1, .R x2, .I x3, .I x4] => Pu.impl_SketchGuess.l5 N (fun y0 y1 y2 y3 y4 => (K (.exit 0) (tabl [(2, (.v (.v false [(.s y0)]))), (10, (.v (.v false [(.i .i64 y1)]))), (24, (.v (.v false [(.sh 30 y2)]))), (26, (.v (.v false [(.i .i64 y3)]))), (28, (.v (.v false [(.i .i64 y4)])))]))) N x0 x1 x2 x3 x4 | _ => none) L (none)) else none
theorem e112_5 {R : Type} (N : Nat) (K : Ex → St → Option R) : ∀ n : Nat, (∀ x0 x1 x2 x3 x4, iter (exc E112 (it112 N) (loopOf Try.f112 5)) (canon (E112.keep 5))  n (tabl [(2, (.v (.v false [(.s x0)]))), (10, (.v (.v false [(.i .i64 x1)]))), (24, (.v (.v false [(.sh 30 x2)]))), (26, (.v (.v false [(.i .i64 x3)]))), (28, (.v (.v false [(.i .i64 x4)])))]) K = Pu.impl_SketchGuess.l5 N (fun y0 y1 y2 y3 y4 => (K (.exit 0) (tabl [(2, (.v (.v false [(.s y0)]))), (10, (.v (.v false [(.i .i64 y1)]))), (24, (.v (.v false [(.sh 30 y2)]))), (26, (.v (.v false [(.i .i64 y3)]))), (28, (.v (.v false [(.i .i64 y4)])))]))) n x0 x1 x2 x3 x4) := by
  intro n
  induction n with
  | zero => exact (fun _ _ _ _ _ => rfl)
  | succ n ih =>
    have e0 : (fun x0 x1 x2 x3 x4 => iter (exc E112 (it112 N) (loopOf Try.f112 5)) (canon (E112.keep 5))  n (tabl [(2, (.v (.v false [(.s x0)]))), (10, (.v (.v false [(.i .i64 x1)]))), (24, (.v (.v false [(.sh 30 x2)]))), (26, (.v (.v false [(.i .i64 x3)]))), (28, (.v (.v false [(.i .i64 x4)])))]) K) = Pu.impl_SketchGuess.l5 N (fun y0 y1 y2 y3 y4 => (K (.exit 0) (tabl [(2, (.v (.v false [(.s y0)]))), (10, (.v (.v false [(.i .i64 y1)]))), (24, (.v (.v false [(.sh 30 y2)]))), (26, (.v (.v false [(.i .i64 y3)]))), (28, (.v (.v false [(.i .i64 y4)])))]))) n := by funext x0 x1 x2 x3 x4; exact ih x0 x1 x2 x3 x4
    intro x0 x1 x2 x3 x4
    have h : ∀ g, exc E112 (it112 N) (loopOf Try.f112 5) (tabl [(2, (.v (.v false [(.s x0)]))), (10, (.v (.v false [(.i .i64 x1)]))), (24, (.v (.v false [(.sh 30 x2)]))), (26, (.v (.v false [(.i .i64 x3)]))), (28, (.v (.v false [(.i .i64 x4)])))]) (iterK g (canon (E112.keep 5)) K) = Pu.impl_SketchGuess.r5 N (fun x0 x1 x2 x3 x4 => (g (tabl [(2, (.v (.v false [(.s x0)]))), (10, (.v (.v false [(.i .i64 x1)]))), (24, (.v (.v false [(.sh 30 x2)]))), (26, (.v (.v false [(.i .i64 x3)]))), (28, (.v (.v false [(.i .i64 x4)])))]))) (fun y0 y1 y2 y3 y4 => (K (.exit 0) (tabl [(2, (.v (.v false [(.s y0)]))), (10, (.v (.v false [(.i .i64 y1)]))), (24, (.v (.v false [(.sh 30 y2)]))), (26, (.v (.v false [(.i .i64 y3)]))), (28, (.v (.v false [(.i .i64 y4)])))]))) x0 x1 x2 x3 x4 := by intro g; kernel_rfl
    refine (iter_succ _ _ n _ K).trans ((h _).trans ?_)
    show Pu.impl_SketchGuess.r5 N (fun x0 x1 x2 x3 x4 => (iter (exc E112 (it112 N) (loopOf Try.f112 5)) (canon (E112.keep 5))  n (tabl [(2, (.v (.v false [(.s x0)]))), (10, (.v (.v false [(.i .i64 x1)]))), (24, (.v (.v false [(.sh 30 x2)]))), (26, (.v (.v false [(.i .i64 x3)]))), (28, (.v (.v false [(.i .i64 x4)])))]) K)) (fun y0 y1 y2 y3 y4 => (K (.exit 0) (tabl [(2, (.v (.v false [(.s y0)]))), (10, (.v (.v false [(.i .i64 y1)]))), (24, (.v (.v false [(.sh 30 y2)]))), (26, (.v (.v false [(.i .i64 y3)]))), (28, (.v (.v false [(.i .i64 y4)])))]))) x0 x1 x2 x3 x4 = _
    rw [e0]; rfl
theorem lo112_5 {R : Type} (N : Nat) : LoopOk E112 (it112 N (R := R)) (loopOf Try.f112 5) := by
  have e : firstRid (loopOf Try.f112 5) = 5 := by kernel_rfl
  intro L K r
  rw [e]
  intro h
  unfold it112 at h
  simp only [show Nat.beq 5 5 = true from rfl, cond_false, cond_true] at h
  refine tell_ok (Q := fun L => ∃ n, iter (exc E112 (it112 N) (loopOf Try.f112 5)) (canon (E112.keep 5)) n (tabl L) K = some r) h (fun xs h => ?_) (fun h => ?_)
  · (try dsimp only at h)
    split at h
    · exact ⟨N, ((e112_5 N K N) _ _ _ _ _).trans h⟩
    · cases h
  cases h
def sp112 : List Arg → Option (Bool × Res)
  | [(.v true [(.sh 30 s0_0), (.i .i64 s0_1)]), (.v false [(.s key1)])] => some (Pu.impl_SketchGuess.c s0_0 s0_1 key1, ⟨[(.v false [(.i .i64 (Pu.impl_SketchGuess.v s0_0 s0_1 key1))])], []⟩)
  | _ => none
theorem ok112 : FnOk Try.prog T 112 sp112 := by
  refine fn_ok (E := E112) hE (call_cons ok178 (call_cons ok179 call_nil)) hM Try.func112 (code := (Try.f112.body.getD .skip)) (by kernel_rfl) (by kernel_rfl) ?_
  have key : ∀ (s0_0 : Row) (s0_1 : Int) (key1 : ByteArray), Pu.impl_SketchGuess.c s0_0 s0_1 key1 = true → ∃ it : It Res, (∀ c ∈ loopsOf (Try.f112.body.getD .skip), LoopOk E112 it c) ∧ body E112 it Try.f112 [(.v true [(.sh 30 s0_0), (.i .i64 s0_1)]), (.v false [(.s key1)])] = some ⟨[(.v false [(.i .i64 (Pu.impl_SketchGuess.v s0_0 s0_1 key1))])], []⟩ := by
    intro s0_0 s0_1 key1  h1
    obtain ⟨N, hN⟩ := Pu.impl_SketchGuess.b_eq (R := Res) (fun r0 => some ⟨[(.v false [(.i .i64 r0)])], []⟩) s0_0 s0_1 key1 h1
    have hl : loopsOf (Try.f112.body.getD .skip) = [loopOf Try.f112 5] := by kernel_rfl
    refine ⟨it112 N, by rw [hl]; exact (loops_cons (lo112_5 N) loops_nil), ?_⟩
    refine Eq.trans (show body E112 (it112 N) Try.f112 [(.v true [(.sh 30 s0_0), (.i .i64 s0_1)]), (.v false [(.s key1)])] = Pu.impl_SketchGuess.b N (fun r0 => some ⟨[(.v false [(.i .i64 r0)])], []⟩) s0_0 s0_1 key1 by kernel_rfl) hN
  intro args r h
  unfold sp112 at h
  split at h
  · injection h with h
    injection h with h1 h2
    subst h2
    exact ⟨by kernel_rfl, fun hf => ⟨of_decide_eq_true (by kernel_rfl), key _ _ _ h1⟩⟩
  · cases h

end Go.FG.Se

namespace Go.FG.Se
open Go.Proofs
def E34 : Env := { toTab := T, call := Go.FG.callIn [(108, sp108), (109, sp109), (78, sp78), (87, sp87), (110, sp110), (111, sp111), (112, sp112)], mode := Go.FG.modeIn md, keep := Go.FG.keepIn [], tk := fun n => Go.FG.memB n [], om := Go.FG.omIn [] }
def sp34 : List Arg → Option (Bool × Res)
  | [(.v true [(.sh 9 p0_0), (.sh 9 p0_1), (.sh 30 p0_2), (.i .i64 p0_3)]), (.v false [(.s key1)])] => some (Pu.impl_PolicyTouch.c p0_0 p0_1 p0_2 p0_3 key1, ⟨[(.v true [(.ow 9 true ((Pu.impl_PolicyTouch.v p0_0 p0_1 p0_2 p0_3 key1).1)), (.ow 9 true ((Pu.impl_PolicyTouch.v p0_0 p0_1 p0_2 p0_3 key1).2.1)), (.ow 30 true ((Pu.impl_PolicyTouch.v p0_0 p0_1 p0_2 p0_3 key1).2.2.1)), (.i .i64 ((Pu.impl_PolicyTouch.v p0_0 p0_1 p0_2 p0_3 key1).2.2.2.1))]), (.v false [(.s ((Pu.impl_PolicyTouch.v p0_0 p0_1 p0_2 p0_3 key1).2.2.2.2))])], []⟩)
  | _ => none
theorem ok34 : FnOk Try.prog T 34 sp34 := by
  refine fn_ok (E := E34) hE (call_cons ok108 (call_cons ok109 (call_cons ok78 (call_cons ok87 (call_cons ok110 (call_cons ok111 (call_cons ok112 call_nil))))))) hM Try.func34 (code := (Try.f34.body.getD .skip)) (by kernel_rfl) (by kernel_rfl) ?_
  have key : ∀ (p0_0 : Row) (p0_1 : Row) (p0_2 : Row) (p0_3 : Int) (key1 : ByteArray), Pu.impl_PolicyTouch.c p0_0 p0_1 p0_2 p0_3 key1 = true → ∃ it : It Res, (∀ c ∈ loopsOf (Try.f34.body.getD .skip), LoopOk E34 it c) ∧ body E34 it Try.f34 [(.v true [(.sh 9 p0_0), (.sh 9 p0_1), (.sh 30 p0_2), (.i .i64 p0_3)]), (.v false [(.s key1)])] = some ⟨[(.v true [(.ow 9 true ((Pu.impl_PolicyTouch.v p0_0 p0_1 p0_2 p0_3 key1).1)), (.ow 9 true ((Pu.impl_PolicyTouch.v p0_0 p0_1 p0_2 p0_3 key1).2.1)), (.ow 30 true ((Pu.impl_PolicyTouch.v p0_0 p0_1 p0_2 p0_3 key1).2.2.1)), (.i .i64 ((Pu.impl_PolicyTouch.v p0_0 p0_1 p0_2 p0_3 key1).2.2.2.1))]), (.v false [(.s ((Pu.impl_PolicyTouch.v p0_0 p0_1 p0_2 p0_3 key1).2.2.2.2))])], []⟩ := by
    intro p0_0 p0_1 p0_2 p0_3 key1  h1
    have hN := Pu.impl_PolicyTouch.b_eq (R := Res) (fun r0 r1 r2 r3 r4 => some ⟨[(.v true [(.ow 9 true r0), (.ow 9 true r1), (.ow 30 true r2), (.i .i64 r3)]), (.v false [(.s r4)])], []⟩) p0_0 p0_1 p0_2 p0_3 key1 h1
    have hl : loopsOf (Try.f34.body.getD .skip) = [] := by kernel_rfl
    refine ⟨iterN 0, by rw [hl]; exact loops_nil, ?_⟩
    refine Eq.trans (show body E34 (iterN 0) Try.f34 [(.v true [(.sh 9 p0_0), (.sh 9 p0_1), (.sh 30 p0_2), (.i .i64 p0_3)]), (.v false [(.s key1)])] = Pu.impl_PolicyTouch.b (fun r0 r1 r2 r3 r4 => some ⟨[(.v true [(.ow 9 true r0), (.ow 9 true r1), (.ow 30 true r2), (.i .i64 r3)]), (.v false [(.s r4)])], []⟩) p0_0 p0_1 p0_2 p0_3 key1 by kernel_rfl) hN
  intro args r h
  unfold sp34 at h
  split at h
  · injection h with h
    injection h with h1 h2
    subst h2
    exact ⟨by kernel_rfl, fun hf => ⟨of_decide_eq_true (by kernel_rfl), key _ _ _ _ _ h1⟩⟩
  · cases h

end Go.FG.Se

namespace Go.FG.Se
open Go.Proofs
def E113 : Env := { toTab := T, call := Go.FG.callIn [], mode := Go.FG.modeIn md, keep := Go.FG.keepIn [(4, [0, 1, 4, 5])], tk := fun n => Go.FG.memB n [], om := Go.FG.omIn [] }
def it113 (N : Nat) {R : Type} : It R := fun rid f cn L K => bif Nat.beq rid 4 then (tell [(0, (.v (.v false [(.sh 9 [])]))), (2, (.v (.v false [(.sh 9 [])]))), (8, (.v (.v false [(.b false)]))), (10, (.v (.v false [(.i .i64 0)])))] (fun | [.R x0, .R x1, .B x2, .I x3] => Pu.laws_eqStringS.l4 N (fun y0 y1 y2 y3 => (K .ret (tabl [(0, (.v (.v false [(.sh 9 y0)]))), (2, (.v (.v false [(.sh 9 y1)]))), (8, (.v (.v false [(.b y2)]))), (10, (.v (.v false [(.i .i64 y3)])))]))) (fun y0 y1 y2 y3 => (K (.exit 0) (tabl [(0, (.v (.v false [(.sh 9 y0)]))), (2, (.v (.v false [(.sh 9 y1)]))), (8, (.v (.v false [(.b y2)]))), (10, (.v (.v false [(.i .i64 y3)])))]))) N x0 x1 x2 x3 | _ => none) L (none)) else none
theorem e113_4 {R : Type} (N : Nat) (K : Ex → St → Option R) : ∀ n : Nat, (∀ x0 x1 x2 x3, iter (exc E113 (it113 N) (loopOf Try.f113 4)) (canon (E113.keep 4))  n (tabl [(0, (.v (.v false [(.sh 9 x0)]))), (2, (.v (.v false [(.sh 9 x1)]))), (8, (.v (.v false [(.b x2)]))), (10, (.v (.v false [(.i .i64 x3)])))]) K = Pu.laws_eqStringS.l4 N (fun y0 y1 y2 y3 => (K .ret (tabl [(0, (.v (.v false [(.sh 9 y0)]))), (2, (.v (.v false [(.sh 9 y1)]))), (8, (.v (.v false [(.b y2)]))), (10, (.v (.v false [(.i .i64 y3)])))]))) (fun y0 y1 y2 y3 => (K (.exit 0) (tabl [(0, (.v (.v false [(.sh 9 y0)]))), (2, (.v (.v false [(.sh 9 y1)]))), (8, (.v (.v false [(.b y2)]))), (10, (.v (.v false [(.i .i64 y3)])))]))) n x0 x1 x2 x3) := by
  intro n
  induction n with
  | zero => exact (fun _ _ _ _ => rfl)
  | succ n ih =>
    have e0 : (fun x0 x1 x2 x3 => iter (exc E113 (it113 N) (loopOf Try.f113 4)) (canon (E113.keep 4))  n (tabl [(0, (.v (.v false [(.sh 9 x0)]))), (2, (.v (.v false [(.sh 9 x1)]))), (8, (.v (.v false [(.b x2)]))), (10, (.v (.v false [(.i .i64 x3)])))]) K) = Pu.laws_eqStringS.l4 N (fun y0 y1 y2 y3 => (K .ret (tabl [(0, (.v (.v false [(.sh 9 y0)]))), (2, (.v (.v false [(.sh 9 y1)]))), (8, (.v (.v false [(.b y2)]))), (10, (.v (.v false [(.i .i64 y3)])))]))) (fun y0 y1 y2 y3 => (K (.exit 0) (tabl [(0, (.v (.v false [(.sh 9 y0)]))), (2, (.v (.v false [(.sh 9 y1)]))), (8, (.v (.v false [(.b y2)]))), (10, (.v (.v false [(.i .i64 y3)])))]))) n := by funext x0 x1 x2 x3; exact ih x0 x1 x2 x3
    intro x0 x1 x2 x3
    have h : ∀ g, exc E113 (it113 N) (loopOf Try.f113 4) (tabl [(0, (.v (.v false [(.sh 9 x0)]))), (2, (.v (.v false [(.sh 9 x1)]))), (8, (.v (.v false [(.b x2)]))), (10, (.v (.v false [(.i .i64 x3)])))]) (iterK g (canon (E113.keep 4)) K) = Pu.laws_eqStringS.r4 N (fun x0 x1 x2 x3 => (g (tabl [(0, (.v (.v false [(.sh 9 x0)]))), (2, (.v (.v false [(.sh 9 x1)]))), (8, (.v (.v false [(.b x2)]))), (10, (.v (.v false [(.i .i64 x3)])))]))) (fun y0 y1 y2 y3 => (K .ret (tabl [(0, (.v (.v false [(.sh 9 y0)]))), (2, (.v (.v false [(.sh 9 y1)]))), (8, (.v (.v false [(.b y2)]))), (10, (.v (.v false [(.i .i64 y3)])))]))) (fun y0 y1 y2 y3 => (K (.exit 0) (tabl [(0, (.v (.v false [(.sh 9 y0)]))), (2, (.v (.v false [(.sh 9 y1)]))), (8, (.v (.v false [(.b y2)]))), (10, (.v (.v false [(.i .i64 y3)])))]))) x0 x1 x2 x3 := by intro g; kernel_rfl
    refine (iter_succ _ _ n _ K).trans ((h _).trans ?_)
    show Pu.laws_eqStringS.r4 N (fun x0 x1 x2 x3 => (iter (exc E113 (it113 N) (loopOf Try.f113 4)) (canon (E113.keep 4))  n (tabl [(0, (.v (.v false [(.sh 9 x0)]))), (2, (.v (.v false [(.sh 9 x1)]))), (8, (.v (.v false [(.b x2)]))), (10, (.v (.v false [(.i .i64 x3)])))]) K)) (fun y0 y1 y2 y3 => (K .ret (tabl [(0, (.v (.v false [(.sh 9 y0)]))), (2, (.v (.v false [(.sh 9 y1)]))), (8, (.v (.v false [(.b y2)]))), (10, (.v (.v false [(.i .i64 y3)])))]))) (fun y0 y1 y2 y3 => (K (.exit 0) (tabl [(0, (.v (.v false [(.sh 9 y0)]))), (2, (.v (.v false [(.sh 9 y1)]))), (8, (.v (.v false [(.b y2)]))), (10, (.v (.v false [(.i .i64 y3)])))]))) x0 x1 x2 x3 = _
    rw [e0]; rfl
theorem lo113_4 {R : Type} (N : Nat) : LoopOk E113 (it113 N (R := R)) (loopOf Try.f113 4) := by
  have e : firstRid (loopOf Try.f113 4) = 4 := by kernel_rfl
  intro L K r
  rw [e]
  intro h
  unfold it113 at h
  simp only [show Nat.beq 4 4 = true from rfl, cond_false, cond_true] at h
  refine tell_ok (Q := fun L => ∃ n, iter (exc E113 (it113 N) (loopOf Try.f113 4)) (canon (E113.keep 4)) n (tabl L) K = some r) h (fun xs h => ?_) (fun h => ?_)
  · (try dsimp only at h)
    split at h
    · exact ⟨N, ((e113_4 N K N) _ _ _ _).trans h⟩
    · cases h
  cases h
def sp113 : List Arg → Option (Bool × Res)
  | [(.v false [(.sh 9 a0)]), (.v false [(.sh 9 b1)])] => some (Pu.laws_eqStringS.c a0 b1, ⟨[(.v false [(.b (Pu.laws_eqStringS.v a0 b1))])], []⟩)
  | _ => none
theorem ok113 : FnOk Try.prog T 113 sp113 := by
  refine fn_ok (E := E113) hE call_nil hM Try.func113 (code := (Try.f113.body.getD .skip)) (by kernel_rfl) (by kernel_rfl) ?_
  have key : ∀ (a0 : Row) (b1 : Row), Pu.laws_eqStringS.c a0 b1 = true → ∃ it : It Res, (∀ c ∈ loopsOf (Try.f113.body.getD .skip), LoopOk E113 it c) ∧ body E113 it Try.f113 [(.v false [(.sh 9 a0)]), (.v false [(.sh 9 b1)])] = some ⟨[(.v false [(.b (Pu.laws_eqStringS.v a0 b1))])], []⟩ := by
    intro a0 b1  h1
    obtain ⟨N, hN⟩ := Pu.laws_eqStringS.b_eq (R := Res) (fun r0 => some ⟨[(.v false [(.b r0)])], []⟩) a0 b1 h1
    have hl : loopsOf (Try.f113.body.getD .skip) = [loopOf Try.f113 4] := by kernel_rfl
    refine ⟨it113 N, by rw [hl]; exact (loops_cons (lo113_4 N) loops_nil), ?_⟩
    refine Eq.trans (show body E113 (it113 N) Try.f113 [(.v false [(.sh 9 a0)]), (.v false [(.sh 9 b1)])] = Pu.laws_eqStringS.b N (fun r0 => some ⟨[(.v false [(.b r0)])], []⟩) a0 b1 by kernel_rfl) hN
  intro args r h
  unfold sp113 at h
  split at h
  · injection h with h
    injection h with h1 h2
    subst h2
    exact ⟨by kernel_rfl, fun hf => ⟨of_decide_eq_true (by kernel_rfl), key _ _ h1⟩⟩
  · cases h

end Go.FG.Se

namespace Go.FG.Se
open Go.Proofs
def E226 : Env := { toTab := T, call := Go.FG.callIn [], mode := Go.FG.modeIn md, keep := Go.FG.keepIn [(4, [0, 1, 4, 5])], tk := fun n => Go.FG.memB n [], om := Go.FG.omIn [] }
def it226 (N : Nat) {R : Type} : It R := fun rid f cn L K => bif Nat.beq rid 4 then (tell [(0, (.v (.v false [(.sh 3 [])]))), (2, (.v (.v false [(.sh 3 [])]))), (8, (.v (.v false [(.b false)]))), (10, (.v (.v false [(.i .i64 0)])))] (fun | [.R x0, .R x1, .B x2, .I x3] => Pu.laws_eqIntS.l4 N (fun y0 y1 y2 y3 => (K .ret (tabl [(0, (.v (.v false [(.sh 3 y0)]))), (2, (.v (.v false [(.sh 3 y1)]))), (8, (.v (.v false [(.b y2)]))), (10, (.v (.v false [(.i .i64 y3)])))]))) (fun y0 y1 y2 y3 => (K (.exit 0) (tabl [(0, (.v (.v false [(.sh 3 y0)]))), (2, (.v (.v false [(.sh 3 y1)]))), (8, (.v (.v false [(.b y2)]))), (10, (.v (.v false [(.i .i64 y3)])))]))) N x0 x1 x2 x3 | _ => none) L (none)) else none
theorem e226_4 {R : Type} (N : Nat) (K : Ex → St → Option R) : ∀ n : Nat, (∀ x0 x1 x2 x3, iter (exc E226 (it226 N) (loopOf Try.f226 4)) (canon (E226.keep 4))  n (tabl [(0, (.v (.v false [(.sh 3 x0)]))), (2, (.v (.v false [(.sh 3 x1)]))), (8, (.v (.v false [(.b x2)]))), (10, (.v (.v false [(.i .i64 x3)])))]) K = Pu.laws_eqIntS.l4 N (fun y0 y1 y2 y3 => (K .ret (tabl [(0, (.v (.v false [(.sh 3 y0)]))), (2, (.v (.v false [(.sh 3 y1)]))), (8, (.v (.v false [(.b y2)]))), (10, (.v (.v false [(.i .i64 y3)])))]))) (fun y0 y1 y2 y3 => (K (.exit 0) (tabl [(0, (.v (.v false [(.sh 3 y0)]))), (2, (.v (.v false [(.sh 3 y1)]))), (8, (.v (.v false [(.b y2)]))), (10, (.v (.v false [(.i .i64 y3)])))]))) n x0 x1 x2 x3) := by
  intro n
  induction n with
  | zero => exact (fun _ _ _ _ => rfl)
  | succ n ih =>
    have e0 : (fun x0 x1 x2 x3 => iter (exc E226 (it226 N) (loopOf Try.f226 4)) (canon (E226.keep 4))  n (tabl [(0, (.v (.v false [(.sh 3 x0)]))), (2, (.v (.v false [(.sh 3 x1)]))), (8, (.v (.v false [(.b x2)]))), (10, (.v (.v false [(.i .i64 x3)])))]) K) = Pu.laws_eqIntS.l4 N (fun y0 y1 y2 y3 => (K .ret (tabl [(0, (.v (.v false [(.sh 3 y0)]))), (2, (.v (.v false [(.sh 3 y1)]))), (8, (.v (.v false [(.b y2)]))), (10, (.v (.v false [(.i .i64 y3)])))]))) (fun y0 y1 y2 y3 => (K (.exit 0) (tabl [(0, (.v (.v false [(.sh 3 y0)]))), (2, (.v (.v false [(.sh 3 y1)]))), (8, (.v (.v false [(.b y2)]))), (10, (.v (.v false [(.i .i64 y3)])))]))) n := by funext x0 x1 x2 x3; exact ih x0 x1 x2 x3
    intro x0 x1 x2 x3
    have h : ∀ g, exc E226 (it226 N) (loopOf Try.f226 4) (tabl [(0, (.v (.v false [(.sh 3 x0)]))), (2, (.v (.v false [(.sh 3 x1)]))), (8, (.v (.v false [(.b x2)]))), (10, (.v (.v false [(.i .i64 x3)])))]) (iterK g (canon (E226.keep 4)) K) = Pu.laws_eqIntS.r4 N (fun x0 x1 x2 x3 => (g (tabl [(0, (.v (.v false [(.sh 3 x0)]))), (2, (.v (.v false [(.sh 3 x1)]))), (8, (.v (.v false [(.b x2)]))), (10, (.v (.v false [(.i .i64 x3)])))]))) (fun y0 y1 y2 y3 => (K .ret (tabl [(0, (.v (.v false [(.sh 3 y0)]))), (2, (.v (.v false [(.sh 3 y1)]))), (8, (.v (.v false [(.b y2)]))), (10, (.v (.v false [(.i .i64 y3)])))]))) (fun y0 y1 y2 y3 => (K (.exit 0) (tabl [(0, (.v (.v false [(.sh 3 y0)]))), (2, (.v (.v false [(.sh 3 y1)]))), (8, (.v (.v false [(.b y2)]))), (10, (.v (.v false [(.i .i64 y3)])))]))) x0 x1 x2 x3 := by intro g; kernel_rfl
    refine (iter_succ _ _ n _ K).trans ((h _).trans ?_)
    show Pu.laws_eqIntS.r4 N (fun x0 x1 x2 x3 => (iter (exc E226 (it226 N) (loopOf Try.f226 4)) (canon (E226.keep 4))  n (tabl [(0, (.v (.v false [(.sh 3 x0)]))), (2, (.v (.v false [(.sh 3 x1)]))), (8, (.v (.v false [(.b x2)]))), (10, (.v (.v false [(.i .i64 x3)])))]) K)) (fun y0 y1 y2 y3 => (K .ret (tabl [(0, (.v (.v false [(.sh 3 y0)]))), (2, (.v (.v false [(.sh 3 y1)]))), (8, (.v (.v false [(.b y2)]))), (10, (.v (.v false [(.i .i64 y3)])))]))) (fun y0 y1 y2 y3 => (K (.exit 0) (tabl [(0, (.v (.v false [(.sh 3 y0)]))), (2, (.v (.v false [(.sh 3 y1)]))), (8, (.v (.v false [(.b y2)]))), (10, (.v (.v false [(.i .i64 y3)])))]))) x0 x1 x2 x3 = _
    rw [e0]; rfl
theorem lo226_4 {R : Type} (N : Nat) : LoopOk E226 (it226 N (R := R)) (loopOf Try.f226 4) := by
  have e : firstRid (loopOf Try.f226 4) = 4 := by kernel_rfl
  intro L K r
  rw [e]
  intro h
  unfold it226 at h
  simp only [show Nat.beq 4 4 = true from rfl, cond_false, cond_true] at h
  refine tell_ok (Q := fun L => ∃ n, iter (exc E226 (it226 N) (loopOf Try.f226 4)) (canon (E226.keep 4)) n (tabl L) K = some r) h (fun xs h => ?_) (fun h => ?_)
  · (try dsimp only at h)
    split at h
    · exact ⟨N, ((e226_4 N K N) _ _ _ _).trans h⟩
    · cases h
  cases h
def sp226 : List Arg → Option (Bool × Res)
  | [(.v false [(.sh 3 a0)]), (.v false [(.sh 3 b1)])] => some (true, ⟨[(.v false [(.b (Pu.laws_eqIntS.v a0 b1))])], []⟩)
  | _ => none
theorem ok226 : FnOk Try.prog T 226 sp226 := by
  refine fn_ok (E := E226) hE call_nil hM Try.func226 (code := (Try.f226.body.getD .skip)) (by kernel_rfl) (by kernel_rfl) ?_
  have key : ∀ (a0 : Row) (b1 : Row), FitR a0 → FitR b1 → ∃ it : It Res, (∀ c ∈ loopsOf (Try.f226.body.getD .skip), LoopOk E226 it c) ∧ body E226 it Try.f226 [(.v false [(.sh 3 a0)]), (.v false [(.sh 3 b1)])] = some ⟨[(.v false [(.b (Pu.laws_eqIntS.v a0 b1))])], []⟩ := by
    intro a0 b1  g0 g1
    obtain ⟨N, hN⟩ := Pu.laws_eqIntS.b_eq (R := Res) (fun r0 => some ⟨[(.v false [(.b r0)])], []⟩) a0 b1 g0 g1
    have hl : loopsOf (Try.f226.body.getD .skip) = [loopOf Try.f226 4] := by kernel_rfl
    refine ⟨it226 N, by rw [hl]; exact (loops_cons (lo226_4 N) loops_nil), ?_⟩
    refine Eq.trans (show body E226 (it226 N) Try.f226 [(.v false [(.sh 3 a0)]), (.v false [(.sh 3 b1)])] = Pu.laws_eqIntS.b N (fun r0 => some ⟨[(.v false [(.b r0)])], []⟩) a0 b1 by kernel_rfl) hN
  intro args r h
  unfold sp226 at h
  split at h
  · injection h with h
    injection h with h1 h2
    subst h2
    exact ⟨by kernel_rfl, fun hf => ⟨of_decide_eq_true (by kernel_rfl), key _ _ hf.1.1 hf.2.1.1⟩⟩
  · cases h

end Go.FG.Se

namespace Go.FG.Se
open Go.Proofs
def E194 : Env := { toTab := T, call := Go.FG.callIn [(226, sp226)], mode := Go.FG.modeIn md, keep := Go.FG.keepIn [(4, [0, 1, 4, 5])], tk := fun n => Go.FG.memB n [], om := Go.FG.omIn [] }
def it194 (N : Nat) {R : Type} : It R := fun rid f cn L K => bif Nat.beq rid 4 then (tell [(0, (.v (.v false [(.sh 30 [])]))), (2, (.v (.v false [(.sh 30 [])]))), (8, (.v (.v false [(.b false)]))), (10, (.v (.v false [(.i .i64 0)])))] (fun | [.R x0, .R x1, .B x2, .I x3] => Pu.laws_eqIntSS.l4 N (fun y0 y1 y2 y3 => (K .ret (tabl [(0, (.v (.v false [(.sh 30 y0)]))), (2, (.v (.v false [(.sh 30 y1)]))), (8, (.v (.v false [(.b y2)]))), (10, (.v (.v false [(.i .i64 y3)])))]))) (fun y0 y1 y2 y3 => (K (.exit 0) (tabl [(0, (.v (.v false [(.sh 30 y0)]))), (2, (.v (.v false [(.sh 30 y1)]))), (8, (.v (.v false [(.b y2)]))), (10, (.v (.v false [(.i .i64 y3)])))]))) N x0 x1 x2 x3 | _ => none) L (none)) else none
theorem e194_4 {R : Type} (N : Nat) (K : Ex → St → Option R) : ∀ n : Nat, (∀ x0 x1 x2 x3, iter (exc E194 (it194 N) (loopOf Try.f194 4)) (canon (E194.keep 4))  n (tabl [(0, (.v (.v false [(.sh 30 x0)]))), (2, (.v (.v false [(.sh 30 x1)]))), (8, (.v (.v false [(.b x2)]))), (10, (.v (.v false [(.i .i64 x3)])))]) K = Pu.laws_eqIntSS.l4 N (fun y0 y1 y2 y3 => (K .ret (tabl [(0, (.v (.v false [(.sh 30 y0)]))), (2, (.v (.v false [(.sh 30 y1)]))), (8, (.v (.v false [(.b y2)]))), (10, (.v (.v false [(.i .i64 y3)])))]))) (fun y0 y1 y2 y3 => (K (.exit 0) (tabl [(0, (.v (.v false [(.sh 30 y0)]))), (2, (.v (.v false [(.sh 30 y1)]))), (8, (.v (.v false [(.b y2)]))), (10, (.v (.v false [(.i .i64 y3)])))]))) n x0 x1 x2 x3) := by
  intro n
  induction n with
  | zero => exact (fun _ _ _ _ => rfl)
  | succ n ih =>
    have e0 : (fun x0 x1 x2 x3 => iter (exc E194 (it194 N) (loopOf Try.f194 4)) (canon (E194.keep 4))  n (tabl [(0, (.v (.v false [(.sh 30 x0)]))), (2, (.v (.v false [(.sh 30 x1)]))), (8, (.v (.v false [(.b x2)]))), (10, (.v (.v false [(.i .i64 x3)])))]) K) = Pu.laws_eqIntSS.l4 N (fun y0 y1 y2 y3 => (K .ret (tabl [(0, (.v (.v false [(.sh 30 y0)]))), (2, (.v (.v false [(.sh 30 y1)]))), (8, (.v (.v false [(.b y2)]))), (10, (.v (.v false [(.i .i64 y3)])))]))) (fun y0 y1 y2 y3 => (K (.exit 0) (tabl [(0, (.v (.v false [(.sh 30 y0)]))), (2, (.v (.v false [(.sh 30 y1)]))), (8, (.v (.v false [(.b y2)]))), (10, (.v (.v false [(.i .i64 y3)])))]))) n := by funext x0 x1 x2 x3; exact ih x0 x1 x2 x3
    intro x0 x1 x2 x3
    have h : ∀ g, exc E194 (it194 N) (loopOf Try.f194 4) (tabl [(0, (.v (.v false [(.sh 30 x0)]))), (2, (.v (.v false [(.sh 30 x1)]))), (8, (.v (.v false [(.b x2)]))), (10, (.v (.v false [(.i .i64 x3)])))]) (iterK g (canon (E194.keep 4)) K) = Pu.laws_eqIntSS.r4 N (fun x0 x1 x2 x3 => (g (tabl [(0, (.v (.v false [(.sh 30 x0)]))), (2, (.v (.v false [(.sh 30 x1)]))), (8, (.v (.v false [(.b x2)]))), (10, (.v (.v false [(.i .i64 x3)])))]))) (fun y0 y1 y2 y3 => (K .ret (tabl [(0, (.v (.v false [(.sh 30 y0)]))), (2, (.v (.v false [(.sh 30 y1)]))), (8, (.v (.v false [(.b y2)]))), (10, (.v (.v false [(.i .i64 y3)])))]))) (fun y0 y1 y2 y3 => (K (.exit 0) (tabl [(0, (.v (.v false [(.sh 30 y0)]))), (2, (.v (.v false [(.sh 30 y1)]))), (8, (.v (.v false [(.b y2)]))), (10, (.v (.v false [(.i .i64 y3)])))]))) x0 x1 x2 x3 := by intro g; kernel_rfl
    refine (iter_succ _ _ n _ K).trans ((h _).trans ?_)
    show Pu.laws_eqIntSS.r4 N (fun x0 x1 x2 x3 => (iter (exc E194 (it194 N) (loopOf Try.f194 4)) (canon (E194.keep 4))  n (tabl [(0, (.v (.v false [(.sh 30 x0)]))), (2, (.v (.v false [(.sh 30 x1)]))), (8, (.v (.v false [(.b x2)]))), (10, (.v (.v false [(.i .i64 x3)])))]) K)) (fun y0 y1 y2 y3 => (K .ret (tabl [(0, (.v (.v false [(.sh 30 y0)]))), (2, (.v (.v false [(.sh 30 y1)]))), (8, (.v (.v false [(.b y2)]))), (10, (.v (.v false [(.i .i64 y3)])))]))) (fun y0 y1 y2 y3 => (K (.exit 0) (tabl [(0, (.v (.v false [(.sh 30 y0)]))), (2, (.v (.v false [(.sh 30 y1)]))), (8, (.v (.v false [(.b y2)]))), (10, (.v (.v false [(.i .i64 y3)])))]))) x0 x1 x2 x3 = _
    rw [e0]; rfl
theorem lo194_4 {R : Type} (N : Nat) : LoopOk E194 (it194 N (R := R)) (loopOf Try.f194 4) := by
  have e : firstRid (loopOf Try.f194 4) = 4 := by kernel_rfl
  intro L K r
  rw [e]
  intro h
  unfold it194 at h
  simp only [show Nat.beq 4 4 = true from rfl, cond_false, cond_true] at h
  refine tell_ok (Q := fun L => ∃ n, iter (exc E194 (it194 N) (loopOf Try.f194 4)) (canon (E194.keep 4)) n (tabl L) K = some r) h (fun xs h => ?_) (fun h => ?_)
  · (try dsimp only at h)
    split at h
    · exact ⟨N, ((e194_4 N K N) _ _ _ _).trans h⟩
    · cases h
  cases h
def sp194 : List Arg → Option (Bool × Res)
  | [(.v false [(.sh 30 a0)]), (.v false [(.sh 30 b1)])] => some (Pu.laws_eqIntSS.c a0 b1, ⟨[(.v false [(.b (Pu.laws_eqIntSS.v a0 b1))])], []⟩)
  | _ => none
theorem ok194 : FnOk Try.prog T 194 sp194 := by
  refine fn_ok (E := E194) hE (call_cons ok226 call_nil) hM Try.func194 (code := (Try.f194.body.getD .skip)) (by kernel_rfl) (by kernel_rfl) ?_
  have key : ∀ (a0 : Row) (b1 : Row), Pu.laws_eqIntSS.c a0 b1 = true → ∃ it : It Res, (∀ c ∈ loopsOf (Try.f194.body.getD .skip), LoopOk E194 it c) ∧ body E194 it Try.f194 [(.v false [(.sh 30 a0)]), (.v false [(.sh 30 b1)])] = some ⟨[(.v false [(.b (Pu.laws_eqIntSS.v a0 b1))])], []⟩ := by
    intro a0 b1  h1
    obtain ⟨N, hN⟩ := Pu.laws_eqIntSS.b_eq (R := Res) (fun r0 => some ⟨[(.v false [(.b r0)])], []⟩) a0 b1 h1
    have hl : loopsOf (Try.f194.body.getD .skip) = [loopOf Try.f194 4] := by kernel_rfl
    refine ⟨it194 N, by rw [hl]; exact (loops_cons (lo194_4 N) loops_nil), ?_⟩
    refine Eq.trans (show body E194 (it194 N) Try.f194 [(.v false [(.sh 30 a0)]), (.v false [(.sh 30 b1)])] = Pu.laws_eqIntSS.b N (fun r0 => some ⟨[(.v false [(.b r0)])], []⟩) a0 b1 by kernel_rfl) hN
  intro args r h
  unfold sp194 at h
  split at h
  · injection h with h
    injection h with h1 h2
    subst h2
    exact ⟨by kernel_rfl, fun hf => ⟨of_decide_eq_true (by kernel_rfl), key _ _ h1⟩⟩
  · cases h

end Go.FG.Se

namespace Go.FG.Se
open Go.Proofs
def E114 : Env := { toTab := T, call := Go.FG.callIn [(194, sp194)], mode := Go.FG.modeIn md, keep := Go.FG.keepIn [], tk := fun n => Go.FG.memB n [], om := Go.FG.omIn [] }
def sp114 : List Arg → Option (Bool × Res)
  | [(.v true [(.sh 30 a0_0), (.i .i64 a0_1)]), (.v true [(.sh 30 b1_0), (.i .i64 b1_1)])] => some (Pu.laws_eqSketch.c a0_0 a0_1 b1_0 b1_1, ⟨[(.v false [(.b (Pu.laws_eqSketch.v a0_0 a0_1 b1_0 b1_1))])], []⟩)
  | _ => none
theorem ok114 : FnOk Try.prog T 114 sp114 := by
  refine fn_ok (E := E114) hE (call_cons ok194 call_nil) hM Try.func114 (code := (Try.f114.body.getD .skip)) (by kernel_rfl) (by kernel_rfl) ?_
  have key : ∀ (a0_0 : Row) (a0_1 : Int) (b1_0 : Row) (b1_1 : Int), Pu.laws_eqSketch.c a0_0 a0_1 b1_0 b1_1 = true → ∃ it : It Res, (∀ c ∈ loopsOf (Try.f114.body.getD .skip), LoopOk E114 it c) ∧ body E114 it Try.f114 [(.v true [(.sh 30 a0_0), (.i .i64 a0_1)]), (.v true [(.sh 30 b1_0), (.i .i64 b1_1)])] = some ⟨[(.v false [(.b (Pu.laws_eqSketch.v a0_0 a0_1 b1_0 b1_1))])], []⟩ := by
    intro a0_0 a0_1 b1_0 b1_1  h1
    have hN := Pu.laws_eqSketch.b_eq (R := Res) (fun r0 => some ⟨[(.v false [(.b r0)])], []⟩) a0_0 a0_1 b1_0 b1_1 h1
    have hl : loopsOf (Try.f114.body.getD .skip) = [] := by kernel_rfl
    refine ⟨iterN 0, by rw [hl]; exact loops_nil, ?_⟩
    refine Eq.trans (show body E114 (iterN 0) Try.f114 [(.v true [(.sh 30 a0_0), (.i .i64 a0_1)]), (.v true [(.sh 30 b1_0), (.i .i64 b1_1)])] = Pu.laws_eqSketch.b (fun r0 => some ⟨[(.v false [(.b r0)])], []⟩) a0_0 a0_1 b1_0 b1_1 by kernel_rfl) hN
  intro args r h
  unfold sp114 at h
  split at h
  · injection h with h
    injection h with h1 h2
    subst h2
    exact ⟨by kernel_rfl, fun hf => ⟨of_decide_eq_true (by kernel_rfl), key _ _ _ _ h1⟩⟩
  · cases h

end Go.FG.Se

namespace Go.FG.Se
open Go.Proofs
def E35 : Env := { toTab := T, call := Go.FG.callIn [(113, sp113), (114, sp114)], mode := Go.FG.modeIn md, keep := Go.FG.keepIn [], tk := fun n => Go.FG.memB n [], om := Go.FG.omIn [] }
def sp35 : List Arg → Option (Bool × Res)
  | [(.v true [(.sh 9 a0_0), (.sh 9 a0_1), (.sh 30 a0_2), (.i .i64 a0_3)]), (.v true [(.sh 9 b1_0), (.sh 9 b1_1), (.sh 30 b1_2), (.i .i64 b1_3)])] => some (Pu.laws_eqPolicy.c a0_0 a0_1 a0_2 a0_3 b1_0 b1_1 b1_2 b1_3, ⟨[(.v false [(.b (Pu.laws_eqPolicy.v a0_0 a0_1 a0_2 a0_3 b1_0 b1_1 b1_2 b1_3))])], []⟩)
  | _ => none
theorem ok35 : FnOk Try.prog T 35 sp35 := by
  refine fn_ok (E := E35) hE (call_cons ok113 (call_cons ok114 call_nil)) hM Try.func35 (code := (Try.f35.body.getD .skip)) (by kernel_rfl) (by kernel_rfl) ?_
  have key : ∀ (a0_0 : Row) (a0_1 : Row) (a0_2 : Row) (a0_3 : Int) (b1_0 : Row) (b1_1 : Row) (b1_2 : Row) (b1_3 : Int), Pu.laws_eqPolicy.c a0_0 a0_1 a0_2 a0_3 b1_0 b1_1 b1_2 b1_3 = true → ∃ it : It Res, (∀ c ∈ loopsOf (Try.f35.body.getD .skip), LoopOk E35 it c) ∧ body E35 it Try.f35 [(.v true [(.sh 9 a0_0), (.sh 9 a0_1), (.sh 30 a0_2), (.i .i64 a0_3)]), (.v true [(.sh 9 b1_0), (.sh 9 b1_1), (.sh 30 b1_2), (.i .i64 b1_3)])] = some ⟨[(.v false [(.b (Pu.laws_eqPolicy.v a0_0 a0_1 a0_2 a0_3 b1_0 b1_1 b1_2 b1_3))])], []⟩ := by
    intro a0_0 a0_1 a0_2 a0_3 b1_0 b1_1 b1_2 b1_3  h1
    have hN := Pu.laws_eqPolicy.b_eq (R := Res) (fun r0 => some ⟨[(.v false [(.b r0)])], []⟩) a0_0 a0_1 a0_2 a0_3 b1_0 b1_1 b1_2 b1_3 h1
    have hl : loopsOf (Try.f35.body.getD .skip) = [] := by kernel_rfl
    refine ⟨iterN 0, by rw [hl]; exact loops_nil, ?_⟩
    refine Eq.trans (show body E35 (iterN 0) Try.f35 [(.v true [(.sh 9 a0_0), (.sh 9 a0_1), (.sh 30 a0_2), (.i .i64 a0_3)]), (.v true [(.sh 9 b1_0), (.sh 9 b1_1), (.sh 30 b1_2), (.i .i64 b1_3)])] = Pu.laws_eqPolicy.b (fun r0 => some ⟨[(.v false [(.b r0)])], []⟩) a0_0 a0_1 a0_2 a0_3 b1_0 b1_1 b1_2 b1_3 by kernel_rfl) hN
  intro args r h
  unfold sp35 at h
  split at h
  · injection h with h
    injection h with h1 h2
    subst h2
    exact ⟨by kernel_rfl, fun hf => ⟨of_decide_eq_true (by kernel_rfl), key _ _ _ _ _ _ _ _ h1⟩⟩
  · cases h

end Go.FG.Se

namespace Go.FG.Se
open Go.Proofs
def E195 : Env := { toTab := T, call := Go.FG.callIn [], mode := Go.FG.modeIn md, keep := Go.FG.keepIn [(4, [0, 3])], tk := fun n => Go.FG.memB n [], om := Go.FG.omIn [] }
def it195 (N : Nat) {R : Type} : It R := fun rid f cn L K => bif Nat.beq rid 4 then (tell [(0, (.v (.v false [(.i .i64 0)]))), (6, (.v (.v false [(.s ⟨#[]⟩)])))] (fun | [.I x0, .S x1] => Pu.laws_markText.l4 N (fun y0 y1 => (K (.exit 0) (tabl [(0, (.v (.v false [(.i .i64 y0)]))), (6, (.v (.v false [(.s y1)])))]))) N x0 x1 | _ => none) L (none)) else none
theorem e195_4 {R : Type} (N : Nat) (K : Ex → St → Option R) : ∀ n : Nat, (∀ x0 x1, iter (exc E195 (it195 N) (loopOf Try.f195 4)) (canon (E195.keep 4))  n (tabl [(0, (.v (.v false [(.i .i64 x0)]))), (6, (.v (.v false [(.s x1)])))]) K = Pu.laws_markText.l4 N (fun y0 y1 => (K (.exit 0) (tabl [(0, (.v (.v false [(.i .i64 y0)]))), (6, (.v (.v false [(.s y1)])))]))) n x0 x1) := by
  intro n
  induction n with
  | zero => exact (fun _ _ => rfl)
  | succ n ih =>
    have e0 : (fun x0 x1 => iter (exc E195 (it195 N) (loopOf Try.f195 4)) (canon (E195.keep 4))  n (tabl [(0, (.v (.v false [(.i .i64 x0)]))), (6, (.v (.v false [(.s x1)])))]) K) = Pu.laws_markText.l4 N (fun y0 y1 => (K (.exit 0) (tabl [(0, (.v (.v false [(.i .i64 y0)]))), (6, (.v (.v false [(.s y1)])))]))) n := by funext x0 x1; exact ih x0 x1
    intro x0 x1
    have h : ∀ g, exc E195 (it195 N) (loopOf Try.f195 4) (tabl [(0, (.v (.v false [(.i .i64 x0)]))), (6, (.v (.v false [(.s x1)])))]) (iterK g (canon (E195.keep 4)) K) = Pu.laws_markText.r4 N (fun x0 x1 => (g (tabl [(0, (.v (.v false [(.i .i64 x0)]))), (6, (.v (.v false [(.s x1)])))]))) (fun y0 y1 => (K (.exit 0) (tabl [(0, (.v (.v false [(.i .i64 y0)]))), (6, (.v (.v false [(.s y1)])))]))) x0 x1 := by intro g; kernel_rfl
    refine (iter_succ _ _ n _ K).trans ((h _).trans ?_)
    show Pu.laws_markText.r4 N (fun x0 x1 => (iter (exc E195 (it195 N) (loopOf Try.f195 4)) (canon (E195.keep 4))  n (tabl [(0, (.v (.v false [(.i .i64 x0)]))), (6, (.v (.v false [(.s x1)])))]) K)) (fun y0 y1 => (K (.exit 0) (tabl [(0, (.v (.v false [(.i .i64 y0)]))), (6, (.v (.v false [(.s y1)])))]))) x0 x1 = _
    rw [e0]; rfl
theorem lo195_4 {R : Type} (N : Nat) : LoopOk E195 (it195 N (R := R)) (loopOf Try.f195 4) := by
  have e : firstRid (loopOf Try.f195 4) = 4 := by kernel_rfl
  intro L K r
  rw [e]
  intro h
  unfold it195 at h
  simp only [show Nat.beq 4 4 = true from rfl, cond_false, cond_true] at h
  refine tell_ok (Q := fun L => ∃ n, iter (exc E195 (it195 N) (loopOf Try.f195 4)) (canon (E195.keep 4)) n (tabl L) K = some r) h (fun xs h => ?_) (fun h => ?_)
  · (try dsimp only at h)
    split at h
    · exact ⟨N, ((e195_4 N K N) _ _).trans h⟩
    · cases h
  cases h
def sp195 : List Arg → Option (Bool × Res)
  | [(.v false [(.i .i64 k0)])] => some (Pu.laws_markText.c k0, ⟨[(.v false [(.s (Pu.laws_markText.v k0))])], []⟩)
  | _ => none
theorem ok195 : FnOk Try.prog T 195 sp195 := by
  refine fn_ok (E := E195) hE call_nil hM Try.func195 (code := (Try.f195.body.getD .skip)) (by kernel_rfl) (by kernel_rfl) ?_
  have key : ∀ (k0 : Int), Pu.laws_markText.c k0 = true → ∃ it : It Res, (∀ c ∈ loopsOf (Try.f195.body.getD .skip), LoopOk E195 it c) ∧ body E195 it Try.f195 [(.v false [(.i .i64 k0)])] = some ⟨[(.v false [(.s (Pu.laws_markText.v k0))])], []⟩ := by
    intro k0  h1
    obtain ⟨N, hN⟩ := Pu.laws_markText.b_eq (R := Res) (fun r0 => some ⟨[(.v false [(.s r0)])], []⟩) k0 h1
    have hl : loopsOf (Try.f195.body.getD .skip) = [loopOf Try.f195 4] := by kernel_rfl
    refine ⟨it195 N, by rw [hl]; exact (loops_cons (lo195_4 N) loops_nil), ?_⟩
    refine Eq.trans (show body E195 (it195 N) Try.f195 [(.v false [(.i .i64 k0)])] = Pu.laws_markText.b N (fun r0 => some ⟨[(.v false [(.s r0)])], []⟩) k0 by kernel_rfl) hN
  intro args r h
  unfold sp195 at h
  split at h
  · injection h with h
    injection h with h1 h2
    subst h2
    exact ⟨by kernel_rfl, fun hf => ⟨of_decide_eq_true (by kernel_rfl), key _ h1⟩⟩
  · cases h

end Go.FG.Se

