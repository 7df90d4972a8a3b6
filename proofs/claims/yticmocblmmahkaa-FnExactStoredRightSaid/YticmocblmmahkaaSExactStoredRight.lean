/- Functions of the program: the evaluation of each, and that a call of it does what is told. No condition. -/
import Derived.Test.YticmocblmmahkaaTab
import Derived.Test.YticmocblmmahkaaPExactStoredRight
set_option linter.unusedVariables false
set_option linter.unusedSimpArgs false
set_option maxRecDepth 100000
namespace Go.FG.Se
open Go.Proofs
def E20 : Env := { toTab := T, call := Go.FG.callIn [], mode := Go.FG.modeIn md, keep := Go.FG.keepIn [], tk := fun n => Go.FG.memB n [], om := Go.FG.omIn [] }
def sp20 : List Arg → Option (Bool × Res)
  | [(.v true [(.s a0_0), (.i .i64 a0_1), (.i .i64 a0_2), (.s a0_3)]), (.v false [(.i .i64 left1)])] => some (true, ⟨[(.v false [(.i .i64 (Pu.laws_szEntry.v a0_0 a0_1 a0_2 a0_3 left1))])], []⟩)
  | _ => none
theorem ok20 : FnOk Try.prog T 20 sp20 := by
  refine fn_ok (E := E20) hE call_nil hM Try.func20 (code := (Try.f20.body.getD .skip)) (by kernel_rfl) (by kernel_rfl) ?_
  have key : ∀ (a0_0 : ByteArray) (a0_1 : Int) (a0_2 : Int) (a0_3 : ByteArray) (left1 : Int), ∃ it : It Res, (∀ c ∈ loopsOf (Try.f20.body.getD .skip), LoopOk E20 it c) ∧ body E20 it Try.f20 [(.v true [(.s a0_0), (.i .i64 a0_1), (.i .i64 a0_2), (.s a0_3)]), (.v false [(.i .i64 left1)])] = some ⟨[(.v false [(.i .i64 (Pu.laws_szEntry.v a0_0 a0_1 a0_2 a0_3 left1))])], []⟩ := by
    intro a0_0 a0_1 a0_2 a0_3 left1 
    have hN := Pu.laws_szEntry.b_eq (R := Res) (fun r0 => some ⟨[(.v false [(.i .i64 r0)])], []⟩) a0_0 a0_1 a0_2 a0_3 left1
    have hl : loopsOf (Try.f20.body.getD .skip) = [] := by kernel_rfl
    refine ⟨iterN 0, by rw [hl]; exact loops_nil, ?_⟩
    refine Eq.trans (show body E20 (iterN 0) Try.f20 [(.v true [(.s a0_0), (.i .i64 a0_1), (.i .i64 a0_2), (.s a0_3)]), (.v false [(.i .i64 left1)])] = Pu.laws_szEntry.b (fun r0 => some ⟨[(.v false [(.i .i64 r0)])], []⟩) a0_0 a0_1 a0_2 a0_3 left1 by kernel_rfl) hN
  intro args r h
  unfold sp20 at h
  split at h
  · injection h with h
    injection h with h1 h2
    subst h2
    exact ⟨by kernel_rfl, fun hf => ⟨of_decide_eq_true (by kernel_rfl), key _ _ _ _ _⟩⟩
  · cases h

end Go.FG.Se

namespace Go.FG.Se
open Go.Proofs
def E71 : Env := { toTab := T, call := Go.FG.callIn [(20, sp20)], mode := Go.FG.modeIn md, keep := Go.FG.keepIn [(5, [0, 1, 4, 5])], tk := fun n => Go.FG.memB n [], om := Go.FG.omIn [] }
def it71 (N : Nat) {R : Type} : It R := fun rid f cn L K => bif Nat.beq rid 5 then (tell [(0, (.v (.v false [(.sh 30 [])]))), (2, (.v (.v false [(.i .i64 0)]))), (8, (.v (.v false [(.i .i64 0)]))), (10, (.v (.v false [(.i .i64 0)])))] (fun | [.R x0, .I x1, .I x2, .I x3] => Pu.laws_szEntryS.l5 N (fun y0 y1 y2 y3 => (K .ret (tabl [(0, (.v (.v false [(.sh 30 y0)]))), (2, (.v (.v false [(.i .i64 y1)]))), (8, (.v (.v false [(.i .i64 y2)]))), (10, (.v (.v false [(.i .i64 y3)])))]))) (fun y0 y1 y2 y3 => (K (.exit 0) (tabl [(0, (.v (.v false [(.sh 30 y0)]))), (2, (.v (.v false [(.i .i64 y1)]))), (8, (.v (.v false [(.i .i64 y2)]))), (10, (.v (.v false [(.i .i64 y3)])))]))) N x0 x1 x2 x3 | _ => none) L (none)) else none
theorem e71_5 {R : Type} (N : Nat) (K : Ex → St → Option R) : ∀ n : Nat, (∀ x0 x1 x2 x3, iter (exc E71 (it71 N) (loopOf Try.f71 5)) (canon (E71.keep 5))  n (tabl [(0, (.v (.v false [(.sh 30 x0)]))), (2, (.v (.v false [(.i .i64 x1)]))), (8, (.v (.v false [(.i .i64 x2)]))), (10, (.v (.v false [(.i .i64 x3)])))]) K = Pu.laws_szEntryS.l5 N (fun y0 y1 y2 y3 => (K .ret (tabl [(0, (.v (.v false [(.sh 30 y0)]))), (2, (.v (.v false [(.i .i64 y1)]))), (8, (.v (.v false [(.i .i64 y2)]))), (10, (.v (.v false [(.i .i64 y3)])))]))) (fun y0 y1 y2 y3 => (K (.exit 0) (tabl [(0, (.v (.v false [(.sh 30 y0)]))), (2, (.v (.v false [(.i .i64 y1)]))), (8, (.v (.v false [(.i .i64 y2)]))), (10, (.v (.v false [(.i .i64 y3)])))]))) n x0 x1 x2 x3) := by
  intro n
  induction n with
  | zero => exact (fun _ _ _ _ => rfl)
  | succ n ih =>
    have e0 : (fun x0 x1 x2 x3 => iter (exc E71 (it71 N) (loopOf Try.f71 5)) (canon (E71.keep 5))  n (tabl [(0, (.v (.v false [(.sh 30 x0)]))), (2, (.v (.v false [(.i .i64 x1)]))), (8, (.v (.v false [(.i .i64 x2)]))), (10, (.v (.v false [(.i .i64 x3)])))]) K) = Pu.laws_szEntryS.l5 N (fun y0 y1 y2 y3 => (K .ret (tabl [(0, (.v (.v false [(.sh 30 y0)]))), (2, (.v (.v false [(.i .i64 y1)]))), (8, (.v (.v false [(.i .i64 y2)]))), (10, (.v (.v false [(.i .i64 y3)])))]))) (fun y0 y1 y2 y3 => (K (.exit 0) (tabl [(0, (.v (.v false [(.sh 30 y0)]))), (2, (.v (.v false [(.i .i64 y1)]))), (8, (.v (.v false [(.i .i64 y2)]))), (10, (.v (.v false [(.i .i64 y3)])))]))) n := by funext x0 x1 x2 x3; exact ih x0 x1 x2 x3
    intro x0 x1 x2 x3
    have h : ∀ g, exc E71 (it71 N) (loopOf Try.f71 5) (tabl [(0, (.v (.v false [(.sh 30 x0)]))), (2, (.v (.v false [(.i .i64 x1)]))), (8, (.v (.v false [(.i .i64 x2)]))), (10, (.v (.v false [(.i .i64 x3)])))]) (iterK g (canon (E71.keep 5)) K) = Pu.laws_szEntryS.r5 N (fun x0 x1 x2 x3 => (g (tabl [(0, (.v (.v false [(.sh 30 x0)]))), (2, (.v (.v false [(.i .i64 x1)]))), (8, (.v (.v false [(.i .i64 x2)]))), (10, (.v (.v false [(.i .i64 x3)])))]))) (fun y0 y1 y2 y3 => (K .ret (tabl [(0, (.v (.v false [(.sh 30 y0)]))), (2, (.v (.v false [(.i .i64 y1)]))), (8, (.v (.v false [(.i .i64 y2)]))), (10, (.v (.v false [(.i .i64 y3)])))]))) (fun y0 y1 y2 y3 => (K (.exit 0) (tabl [(0, (.v (.v false [(.sh 30 y0)]))), (2, (.v (.v false [(.i .i64 y1)]))), (8, (.v (.v false [(.i .i64 y2)]))), (10, (.v (.v false [(.i .i64 y3)])))]))) x0 x1 x2 x3 := by intro g; kernel_rfl
    refine (h _).trans ?_
    show Pu.laws_szEntryS.r5 N (fun x0 x1 x2 x3 => (iter (exc E71 (it71 N) (loopOf Try.f71 5)) (canon (E71.keep 5))  n (tabl [(0, (.v (.v false [(.sh 30 x0)]))), (2, (.v (.v false [(.i .i64 x1)]))), (8, (.v (.v false [(.i .i64 x2)]))), (10, (.v (.v false [(.i .i64 x3)])))]) K)) (fun y0 y1 y2 y3 => (K .ret (tabl [(0, (.v (.v false [(.sh 30 y0)]))), (2, (.v (.v false [(.i .i64 y1)]))), (8, (.v (.v false [(.i .i64 y2)]))), (10, (.v (.v false [(.i .i64 y3)])))]))) (fun y0 y1 y2 y3 => (K (.exit 0) (tabl [(0, (.v (.v false [(.sh 30 y0)]))), (2, (.v (.v false [(.i .i64 y1)]))), (8, (.v (.v false [(.i .i64 y2)]))), (10, (.v (.v false [(.i .i64 y3)])))]))) x0 x1 x2 x3 = _
    rw [e0]; rfl
theorem lo71_5 {R : Type} (N : Nat) : LoopOk E71 (it71 N (R := R)) (loopOf Try.f71 5) := by
  have e : firstRid (loopOf Try.f71 5) = 5 := by kernel_rfl
  intro L K r
  rw [e]
  intro h
  unfold it71 at h
  simp only [show Nat.beq 5 5 = true from rfl, cond_false, cond_true] at h
  refine tell_ok (Q := fun L => ∃ n, iter (exc E71 (it71 N) (loopOf Try.f71 5)) (canon (E71.keep 5)) n (tabl L) K = some r) h (fun xs h => ?_) (fun h => ?_)
  · (try dsimp only at h)
    split at h
    · exact ⟨N, ((e71_5 N K N) _ _ _ _).trans h⟩
    · cases h
  cases h
def sp71 : List Arg → Option (Bool × Res)
  | [(.v false [(.sh 30 a0)]), (.v false [(.i .i64 left1)])] => some (Pu.laws_szEntryS.c a0 left1, ⟨[(.v false [(.i .i64 (Pu.laws_szEntryS.v a0 left1))])], []⟩)
  | _ => none
theorem ok71 : FnOk Try.prog T 71 sp71 := by
  refine fn_ok (E := E71) hE (call_cons ok20 call_nil) hM Try.func71 (code := (Try.f71.body.getD .skip)) (by kernel_rfl) (by kernel_rfl) ?_
  have key : ∀ (a0 : Row) (left1 : Int), Pu.laws_szEntryS.c a0 left1 = true → ∃ it : It Res, (∀ c ∈ loopsOf (Try.f71.body.getD .skip), LoopOk E71 it c) ∧ body E71 it Try.f71 [(.v false [(.sh 30 a0)]), (.v false [(.i .i64 left1)])] = some ⟨[(.v false [(.i .i64 (Pu.laws_szEntryS.v a0 left1))])], []⟩ := by
    intro a0 left1  h1
    obtain ⟨N, hN⟩ := Pu.laws_szEntryS.b_eq (R := Res) (fun r0 => some ⟨[(.v false [(.i .i64 r0)])], []⟩) a0 left1 h1
    have hl : loopsOf (Try.f71.body.getD .skip) = [loopOf Try.f71 5] := by kernel_rfl
    refine ⟨it71 N, by rw [hl]; exact (loops_cons (lo71_5 N) loops_nil), ?_⟩
    refine Eq.trans (show body E71 (it71 N) Try.f71 [(.v false [(.sh 30 a0)]), (.v false [(.i .i64 left1)])] = Pu.laws_szEntryS.b N (fun r0 => some ⟨[(.v false [(.i .i64 r0)])], []⟩) a0 left1 by kernel_rfl) hN
  intro args r h
  unfold sp71 at h
  split at h
  · injection h with h
    injection h with h1 h2
    subst h2
    exact ⟨by kernel_rfl, fun hf => ⟨of_decide_eq_true (by kernel_rfl), key _ _ h1⟩⟩
  · cases h

end Go.FG.Se

namespace Go.FG.Se
open Go.Proofs
def E189 : Env := { toTab := T, call := Go.FG.callIn [], mode := Go.FG.modeIn md, keep := Go.FG.keepIn [(5, [0, 1, 4, 5])], tk := fun n => Go.FG.memB n [], om := Go.FG.omIn [] }
def it189 (N : Nat) {R : Type} : It R := fun rid f cn L K => bif Nat.beq rid 5 then (tell [(0, (.v (.v false [(.sh 9 [])]))), (2, (.v (.v false [(.i .i64 0)]))), (8, (.v (.v false [(.i .i64 0)]))), (10, (.v (.v false [(.i .i64 0)])))] (fun | [.R x0, .I x1, .I x2, .I x3] => Pu.laws_szStringS.l5 N (fun y0 y1 y2 y3 => (K .ret (tabl [(0, (.v (.v false [(.sh 9 y0)]))), (2, (.v (.v false [(.i .i64 y1)]))), (8, (.v (.v false [(.i .i64 y2)]))), (10, (.v (.v false [(.i .i64 y3)])))]))) (fun y0 y1 y2 y3 => (K (.exit 0) (tabl [(0, (.v (.v false [(.sh 9 y0)]))), (2, (.v (.v false [(.i .i64 y1)]))), (8, (.v (.v false [(.i .i64 y2)]))), (10, (.v (.v false [(.i .i64 y3)])))]))) N x0 x1 x2 x3 | _ => none) L (none)) else none
theorem e189_5 {R : Type} (N : Nat) (K : Ex → St → Option R) : ∀ n : Nat, (∀ x0 x1 x2 x3, iter (exc E189 (it189 N) (loopOf Try.f189 5)) (canon (E189.keep 5))  n (tabl [(0, (.v (.v false [(.sh 9 x0)]))), (2, (.v (.v false [(.i .i64 x1)]))), (8, (.v (.v false [(.i .i64 x2)]))), (10, (.v (.v false [(.i .i64 x3)])))]) K = Pu.laws_szStringS.l5 N (fun y0 y1 y2 y3 => (K .ret (tabl [(0, (.v (.v false [(.sh 9 y0)]))), (2, (.v (.v false [(.i .i64 y1)]))), (8, (.v (.v false [(.i .i64 y2)]))), (10, (.v (.v false [(.i .i64 y3)])))]))) (fun y0 y1 y2 y3 => (K (.exit 0) (tabl [(0, (.v (.v false [(.sh 9 y0)]))), (2, (.v (.v false [(.i .i64 y1)]))), (8, (.v (.v false [(.i .i64 y2)]))), (10, (.v (.v false [(.i .i64 y3)])))]))) n x0 x1 x2 x3) := by
  intro n
  induction n with
  | zero => exact (fun _ _ _ _ => rfl)
  | succ n ih =>
    have e0 : (fun x0 x1 x2 x3 => iter (exc E189 (it189 N) (loopOf Try.f189 5)) (canon (E189.keep 5))  n (tabl [(0, (.v (.v false [(.sh 9 x0)]))), (2, (.v (.v false [(.i .i64 x1)]))), (8, (.v (.v false [(.i .i64 x2)]))), (10, (.v (.v false [(.i .i64 x3)])))]) K) = Pu.laws_szStringS.l5 N (fun y0 y1 y2 y3 => (K .ret (tabl [(0, (.v (.v false [(.sh 9 y0)]))), (2, (.v (.v false [(.i .i64 y1)]))), (8, (.v (.v false [(.i .i64 y2)]))), (10, (.v (.v false [(.i .i64 y3)])))]))) (fun y0 y1 y2 y3 => (K (.exit 0) (tabl [(0, (.v (.v false [(.sh 9 y0)]))), (2, (.v (.v false [(.i .i64 y1)]))), (8, (.v (.v false [(.i .i64 y2)]))), (10, (.v (.v false [(.i .i64 y3)])))]))) n := by funext x0 x1 x2 x3; exact ih x0 x1 x2 x3
    intro x0 x1 x2 x3
    have h : ∀ g, exc E189 (it189 N) (loopOf Try.f189 5) (tabl [(0, (.v (.v false [(.sh 9 x0)]))), (2, (.v (.v false [(.i .i64 x1)]))), (8, (.v (.v false [(.i .i64 x2)]))), (10, (.v (.v false [(.i .i64 x3)])))]) (iterK g (canon (E189.keep 5)) K) = Pu.laws_szStringS.r5 N (fun x0 x1 x2 x3 => (g (tabl [(0, (.v (.v false [(.sh 9 x0)]))), (2, (.v (.v false [(.i .i64 x1)]))), (8, (.v (.v false [(.i .i64 x2)]))), (10, (.v (.v false [(.i .i64 x3)])))]))) (fun y0 y1 y2 y3 => (K .ret (tabl [(0, (.v (.v false [(.sh 9 y0)]))), (2, (.v (.v false [(.i .i64 y1)]))), (8, (.v (.v false [(.i .i64 y2)]))), (10, (.v (.v false [(.i .i64 y3)])))]))) (fun y0 y1 y2 y3 => (K (.exit 0) (tabl [(0, (.v (.v false [(.sh 9 y0)]))), (2, (.v (.v false [(.i .i64 y1)]))), (8, (.v (.v false [(.i .i64 y2)]))), (10, (.v (.v false [(.i .i64 y3)])))]))) x0 x1 x2 x3 := by intro g; kernel_rfl
    refine (h _).trans ?_
    show Pu.laws_szStringS.r5 N (fun x0 x1 x2 x3 => (iter (exc E189 (it189 N) (loopOf Try.f189 5)) (canon (E189.keep 5))  n (tabl [(0, (.v (.v false [(.sh 9 x0)]))), (2, (.v (.v false [(.i .i64 x1)]))), (8, (.v (.v false [(.i .i64 x2)]))), (10, (.v (.v false [(.i .i64 x3)])))]) K)) (fun y0 y1 y2 y3 => (K .ret (tabl [(0, (.v (.v false [(.sh 9 y0)]))), (2, (.v (.v false [(.i .i64 y1)]))), (8, (.v (.v false [(.i .i64 y2)]))), (10, (.v (.v false [(.i .i64 y3)])))]))) (fun y0 y1 y2 y3 => (K (.exit 0) (tabl [(0, (.v (.v false [(.sh 9 y0)]))), (2, (.v (.v false [(.i .i64 y1)]))), (8, (.v (.v false [(.i .i64 y2)]))), (10, (.v (.v false [(.i .i64 y3)])))]))) x0 x1 x2 x3 = _
    rw [e0]; rfl
theorem lo189_5 {R : Type} (N : Nat) : LoopOk E189 (it189 N (R := R)) (loopOf Try.f189 5) := by
  have e : firstRid (loopOf Try.f189 5) = 5 := by kernel_rfl
  intro L K r
  rw [e]
  intro h
  unfold it189 at h
  simp only [show Nat.beq 5 5 = true from rfl, cond_false, cond_true] at h
  refine tell_ok (Q := fun L => ∃ n, iter (exc E189 (it189 N) (loopOf Try.f189 5)) (canon (E189.keep 5)) n (tabl L) K = some r) h (fun xs h => ?_) (fun h => ?_)
  · (try dsimp only at h)
    split at h
    · exact ⟨N, ((e189_5 N K N) _ _ _ _).trans h⟩
    · cases h
  cases h
def sp189 : List Arg → Option (Bool × Res)
  | [(.v false [(.sh 9 a0)]), (.v false [(.i .i64 left1)])] => some (Pu.laws_szStringS.c a0 left1, ⟨[(.v false [(.i .i64 (Pu.laws_szStringS.v a0 left1))])], []⟩)
  | _ => none
theorem ok189 : FnOk Try.prog T 189 sp189 := by
  refine fn_ok (E := E189) hE call_nil hM Try.func189 (code := (Try.f189.body.getD .skip)) (by kernel_rfl) (by kernel_rfl) ?_
  have key : ∀ (a0 : Row) (left1 : Int), Pu.laws_szStringS.c a0 left1 = true → ∃ it : It Res, (∀ c ∈ loopsOf (Try.f189.body.getD .skip), LoopOk E189 it c) ∧ body E189 it Try.f189 [(.v false [(.sh 9 a0)]), (.v false [(.i .i64 left1)])] = some ⟨[(.v false [(.i .i64 (Pu.laws_szStringS.v a0 left1))])], []⟩ := by
    intro a0 left1  h1
    obtain ⟨N, hN⟩ := Pu.laws_szStringS.b_eq (R := Res) (fun r0 => some ⟨[(.v false [(.i .i64 r0)])], []⟩) a0 left1 h1
    have hl : loopsOf (Try.f189.body.getD .skip) = [loopOf Try.f189 5] := by kernel_rfl
    refine ⟨it189 N, by rw [hl]; exact (loops_cons (lo189_5 N) loops_nil), ?_⟩
    refine Eq.trans (show body E189 (it189 N) Try.f189 [(.v false [(.sh 9 a0)]), (.v false [(.i .i64 left1)])] = Pu.laws_szStringS.b N (fun r0 => some ⟨[(.v false [(.i .i64 r0)])], []⟩) a0 left1 by kernel_rfl) hN
  intro args r h
  unfold sp189 at h
  split at h
  · injection h with h
    injection h with h1 h2
    subst h2
    exact ⟨by kernel_rfl, fun hf => ⟨of_decide_eq_true (by kernel_rfl), key _ _ h1⟩⟩
  · cases h

end Go.FG.Se

namespace Go.FG.Se
open Go.Proofs
def E156 : Env := { toTab := T, call := Go.FG.callIn [], mode := Go.FG.modeIn md, keep := Go.FG.keepIn [], tk := fun n => Go.FG.memB n [], om := Go.FG.omIn [] }
def sp156 : List Arg → Option (Bool × Res)
  | [(.v false [(.sh 3 a0)]), (.v false [(.i .i64 left1)])] => some (true, ⟨[(.v false [(.i .i64 (Pu.laws_szIntS.v a0 left1))])], []⟩)
  | _ => none
theorem ok156 : FnOk Try.prog T 156 sp156 := by
  refine fn_ok (E := E156) hE call_nil hM Try.func156 (code := (Try.f156.body.getD .skip)) (by kernel_rfl) (by kernel_rfl) ?_
  have key : ∀ (a0 : Row) (left1 : Int), ∃ it : It Res, (∀ c ∈ loopsOf (Try.f156.body.getD .skip), LoopOk E156 it c) ∧ body E156 it Try.f156 [(.v false [(.sh 3 a0)]), (.v false [(.i .i64 left1)])] = some ⟨[(.v false [(.i .i64 (Pu.laws_szIntS.v a0 left1))])], []⟩ := by
    intro a0 left1 
    have hN := Pu.laws_szIntS.b_eq (R := Res) (fun r0 => some ⟨[(.v false [(.i .i64 r0)])], []⟩) a0 left1
    have hl : loopsOf (Try.f156.body.getD .skip) = [] := by kernel_rfl
    refine ⟨iterN 0, by rw [hl]; exact loops_nil, ?_⟩
    refine Eq.trans (show body E156 (iterN 0) Try.f156 [(.v false [(.sh 3 a0)]), (.v false [(.i .i64 left1)])] = Pu.laws_szIntS.b (fun r0 => some ⟨[(.v false [(.i .i64 r0)])], []⟩) a0 left1 by kernel_rfl) hN
  intro args r h
  unfold sp156 at h
  split at h
  · injection h with h
    injection h with h1 h2
    subst h2
    exact ⟨by kernel_rfl, fun hf => ⟨of_decide_eq_true (by kernel_rfl), key _ _⟩⟩
  · cases h

end Go.FG.Se

namespace Go.FG.Se
open Go.Proofs
def E214 : Env := { toTab := T, call := Go.FG.callIn [(156, sp156)], mode := Go.FG.modeIn md, keep := Go.FG.keepIn [(5, [0, 1, 4, 5])], tk := fun n => Go.FG.memB n [], om := Go.FG.omIn [] }
def it214 (N : Nat) {R : Type} : It R := fun rid f cn L K => bif Nat.beq rid 5 then (tell [(0, (.v (.v false [(.sh 49 [])]))), (2, (.v (.v false [(.i .i64 0)]))), (8, (.v (.v false [(.i .i64 0)]))), (10, (.v (.v false [(.i .i64 0)])))] (fun | [.R x0, .I x1, .I x2, .I x3] => Pu.laws_szIntSS.l5 N (fun y0 y1 y2 y3 => (K .ret (tabl [(0, (.v (.v false [(.sh 49 y0)]))), (2, (.v (.v false [(.i .i64 y1)]))), (8, (.v (.v false [(.i .i64 y2)]))), (10, (.v (.v false [(.i .i64 y3)])))]))) (fun y0 y1 y2 y3 => (K (.exit 0) (tabl [(0, (.v (.v false [(.sh 49 y0)]))), (2, (.v (.v false [(.i .i64 y1)]))), (8, (.v (.v false [(.i .i64 y2)]))), (10, (.v (.v false [(.i .i64 y3)])))]))) N x0 x1 x2 x3 | _ => none) L (none)) else none
theorem e214_5 {R : Type} (N : Nat) (K : Ex → St → Option R) : ∀ n : Nat, (∀ x0 x1 x2 x3, iter (exc E214 (it214 N) (loopOf Try.f214 5)) (canon (E214.keep 5))  n (tabl [(0, (.v (.v false [(.sh 49 x0)]))), (2, (.v (.v false [(.i .i64 x1)]))), (8, (.v (.v false [(.i .i64 x2)]))), (10, (.v (.v false [(.i .i64 x3)])))]) K = Pu.laws_szIntSS.l5 N (fun y0 y1 y2 y3 => (K .ret (tabl [(0, (.v (.v false [(.sh 49 y0)]))), (2, (.v (.v false [(.i .i64 y1)]))), (8, (.v (.v false [(.i .i64 y2)]))), (10, (.v (.v false [(.i .i64 y3)])))]))) (fun y0 y1 y2 y3 => (K (.exit 0) (tabl [(0, (.v (.v false [(.sh 49 y0)]))), (2, (.v (.v false [(.i .i64 y1)]))), (8, (.v (.v false [(.i .i64 y2)]))), (10, (.v (.v false [(.i .i64 y3)])))]))) n x0 x1 x2 x3) := by
  intro n
  induction n with
  | zero => exact (fun _ _ _ _ => rfl)
  | succ n ih =>
    have e0 : (fun x0 x1 x2 x3 => iter (exc E214 (it214 N) (loopOf Try.f214 5)) (canon (E214.keep 5))  n (tabl [(0, (.v (.v false [(.sh 49 x0)]))), (2, (.v (.v false [(.i .i64 x1)]))), (8, (.v (.v false [(.i .i64 x2)]))), (10, (.v (.v false [(.i .i64 x3)])))]) K) = Pu.laws_szIntSS.l5 N (fun y0 y1 y2 y3 => (K .ret (tabl [(0, (.v (.v false [(.sh 49 y0)]))), (2, (.v (.v false [(.i .i64 y1)]))), (8, (.v (.v false [(.i .i64 y2)]))), (10, (.v (.v false [(.i .i64 y3)])))]))) (fun y0 y1 y2 y3 => (K (.exit 0) (tabl [(0, (.v (.v false [(.sh 49 y0)]))), (2, (.v (.v false [(.i .i64 y1)]))), (8, (.v (.v false [(.i .i64 y2)]))), (10, (.v (.v false [(.i .i64 y3)])))]))) n := by funext x0 x1 x2 x3; exact ih x0 x1 x2 x3
    intro x0 x1 x2 x3
    have h : ∀ g, exc E214 (it214 N) (loopOf Try.f214 5) (tabl [(0, (.v (.v false [(.sh 49 x0)]))), (2, (.v (.v false [(.i .i64 x1)]))), (8, (.v (.v false [(.i .i64 x2)]))), (10, (.v (.v false [(.i .i64 x3)])))]) (iterK g (canon (E214.keep 5)) K) = Pu.laws_szIntSS.r5 N (fun x0 x1 x2 x3 => (g (tabl [(0, (.v (.v false [(.sh 49 x0)]))), (2, (.v (.v false [(.i .i64 x1)]))), (8, (.v (.v false [(.i .i64 x2)]))), (10, (.v (.v false [(.i .i64 x3)])))]))) (fun y0 y1 y2 y3 => (K .ret (tabl [(0, (.v (.v false [(.sh 49 y0)]))), (2, (.v (.v false [(.i .i64 y1)]))), (8, (.v (.v false [(.i .i64 y2)]))), (10, (.v (.v false [(.i .i64 y3)])))]))) (fun y0 y1 y2 y3 => (K (.exit 0) (tabl [(0, (.v (.v false [(.sh 49 y0)]))), (2, (.v (.v false [(.i .i64 y1)]))), (8, (.v (.v false [(.i .i64 y2)]))), (10, (.v (.v false [(.i .i64 y3)])))]))) x0 x1 x2 x3 := by intro g; kernel_rfl
    refine (h _).trans ?_
    show Pu.laws_szIntSS.r5 N (fun x0 x1 x2 x3 => (iter (exc E214 (it214 N) (loopOf Try.f214 5)) (canon (E214.keep 5))  n (tabl [(0, (.v (.v false [(.sh 49 x0)]))), (2, (.v (.v false [(.i .i64 x1)]))), (8, (.v (.v false [(.i .i64 x2)]))), (10, (.v (.v false [(.i .i64 x3)])))]) K)) (fun y0 y1 y2 y3 => (K .ret (tabl [(0, (.v (.v false [(.sh 49 y0)]))), (2, (.v (.v false [(.i .i64 y1)]))), (8, (.v (.v false [(.i .i64 y2)]))), (10, (.v (.v false [(.i .i64 y3)])))]))) (fun y0 y1 y2 y3 => (K (.exit 0) (tabl [(0, (.v (.v false [(.sh 49 y0)]))), (2, (.v (.v false [(.i .i64 y1)]))), (8, (.v (.v false [(.i .i64 y2)]))), (10, (.v (.v false [(.i .i64 y3)])))]))) x0 x1 x2 x3 = _
    rw [e0]; rfl
theorem lo214_5 {R : Type} (N : Nat) : LoopOk E214 (it214 N (R := R)) (loopOf Try.f214 5) := by
  have e : firstRid (loopOf Try.f214 5) = 5 := by kernel_rfl
  intro L K r
  rw [e]
  intro h
  unfold it214 at h
  simp only [show Nat.beq 5 5 = true from rfl, cond_false, cond_true] at h
  refine tell_ok (Q := fun L => ∃ n, iter (exc E214 (it214 N) (loopOf Try.f214 5)) (canon (E214.keep 5)) n (tabl L) K = some r) h (fun xs h => ?_) (fun h => ?_)
  · (try dsimp only at h)
    split at h
    · exact ⟨N, ((e214_5 N K N) _ _ _ _).trans h⟩
    · cases h
  cases h
def sp214 : List Arg → Option (Bool × Res)
  | [(.v false [(.sh 49 a0)]), (.v false [(.i .i64 left1)])] => some (Pu.laws_szIntSS.c a0 left1, ⟨[(.v false [(.i .i64 (Pu.laws_szIntSS.v a0 left1))])], []⟩)
  | _ => none
theorem ok214 : FnOk Try.prog T 214 sp214 := by
  refine fn_ok (E := E214) hE (call_cons ok156 call_nil) hM Try.func214 (code := (Try.f214.body.getD .skip)) (by kernel_rfl) (by kernel_rfl) ?_
  have key : ∀ (a0 : Row) (left1 : Int), Pu.laws_szIntSS.c a0 left1 = true → ∃ it : It Res, (∀ c ∈ loopsOf (Try.f214.body.getD .skip), LoopOk E214 it c) ∧ body E214 it Try.f214 [(.v false [(.sh 49 a0)]), (.v false [(.i .i64 left1)])] = some ⟨[(.v false [(.i .i64 (Pu.laws_szIntSS.v a0 left1))])], []⟩ := by
    intro a0 left1  h1
    obtain ⟨N, hN⟩ := Pu.laws_szIntSS.b_eq (R := Res) (fun r0 => some ⟨[(.v false [(.i .i64 r0)])], []⟩) a0 left1 h1
    have hl : loopsOf (Try.f214.body.getD .skip) = [loopOf Try.f214 5] := by kernel_rfl
    refine ⟨it214 N, by rw [hl]; exact (loops_cons (lo214_5 N) loops_nil), ?_⟩
    refine Eq.trans (show body E214 (it214 N) Try.f214 [(.v false [(.sh 49 a0)]), (.v false [(.i .i64 left1)])] = Pu.laws_szIntSS.b N (fun r0 => some ⟨[(.v false [(.i .i64 r0)])], []⟩) a0 left1 by kernel_rfl) hN
  intro args r h
  unfold sp214 at h
  split at h
  · injection h with h
    injection h with h1 h2
    subst h2
    exact ⟨by kernel_rfl, fun hf => ⟨of_decide_eq_true (by kernel_rfl), key _ _ h1⟩⟩
  · cases h

end Go.FG.Se

namespace Go.FG.Se
open Go.Proofs
def E190 : Env := { toTab := T, call := Go.FG.callIn [(214, sp214)], mode := Go.FG.modeIn md, keep := Go.FG.keepIn [], tk := fun n => Go.FG.memB n [], om := Go.FG.omIn [] }
def sp190 : List Arg → Option (Bool × Res)
  | [(.v true [(.sh 49 a0_0), (.i .i64 a0_1)]), (.v false [(.i .i64 left1)])] => some (Pu.laws_szSketch.c a0_0 a0_1 left1, ⟨[(.v false [(.i .i64 (Pu.laws_szSketch.v a0_0 a0_1 left1))])], []⟩)
  | _ => none
theorem ok190 : FnOk Try.prog T 190 sp190 := by
  refine fn_ok (E := E190) hE (call_cons ok214 call_nil) hM Try.func190 (code := (Try.f190.body.getD .skip)) (by kernel_rfl) (by kernel_rfl) ?_
  have key : ∀ (a0_0 : Row) (a0_1 : Int) (left1 : Int), Pu.laws_szSketch.c a0_0 a0_1 left1 = true → ∃ it : It Res, (∀ c ∈ loopsOf (Try.f190.body.getD .skip), LoopOk E190 it c) ∧ body E190 it Try.f190 [(.v true [(.sh 49 a0_0), (.i .i64 a0_1)]), (.v false [(.i .i64 left1)])] = some ⟨[(.v false [(.i .i64 (Pu.laws_szSketch.v a0_0 a0_1 left1))])], []⟩ := by
    intro a0_0 a0_1 left1  h1
    have hN := Pu.laws_szSketch.b_eq (R := Res) (fun r0 => some ⟨[(.v false [(.i .i64 r0)])], []⟩) a0_0 a0_1 left1 h1
    have hl : loopsOf (Try.f190.body.getD .skip) = [] := by kernel_rfl
    refine ⟨iterN 0, by rw [hl]; exact loops_nil, ?_⟩
    refine Eq.trans (show body E190 (iterN 0) Try.f190 [(.v true [(.sh 49 a0_0), (.i .i64 a0_1)]), (.v false [(.i .i64 left1)])] = Pu.laws_szSketch.b (fun r0 => some ⟨[(.v false [(.i .i64 r0)])], []⟩) a0_0 a0_1 left1 by kernel_rfl) hN
  intro args r h
  unfold sp190 at h
  split at h
  · injection h with h
    injection h with h1 h2
    subst h2
    exact ⟨by kernel_rfl, fun hf => ⟨of_decide_eq_true (by kernel_rfl), key _ _ _ h1⟩⟩
  · cases h

end Go.FG.Se

namespace Go.FG.Se
open Go.Proofs
def E140 : Env := { toTab := T, call := Go.FG.callIn [(189, sp189), (190, sp190)], mode := Go.FG.modeIn md, keep := Go.FG.keepIn [], tk := fun n => Go.FG.memB n [], om := Go.FG.omIn [] }
def sp140 : List Arg → Option (Bool × Res)
  | [(.v true [(.sh 9 a0_0), (.sh 9 a0_1), (.sh 49 a0_2), (.i .i64 a0_3)]), (.v false [(.i .i64 left1)])] => some (Pu.laws_szPolicy.c a0_0 a0_1 a0_2 a0_3 left1, ⟨[(.v false [(.i .i64 (Pu.laws_szPolicy.v a0_0 a0_1 a0_2 a0_3 left1))])], []⟩)
  | _ => none
theorem ok140 : FnOk Try.prog T 140 sp140 := by
  refine fn_ok (E := E140) hE (call_cons ok189 (call_cons ok190 call_nil)) hM Try.func140 (code := (Try.f140.body.getD .skip)) (by kernel_rfl) (by kernel_rfl) ?_
  have key : ∀ (a0_0 : Row) (a0_1 : Row) (a0_2 : Row) (a0_3 : Int) (left1 : Int), Pu.laws_szPolicy.c a0_0 a0_1 a0_2 a0_3 left1 = true → ∃ it : It Res, (∀ c ∈ loopsOf (Try.f140.body.getD .skip), LoopOk E140 it c) ∧ body E140 it Try.f140 [(.v true [(.sh 9 a0_0), (.sh 9 a0_1), (.sh 49 a0_2), (.i .i64 a0_3)]), (.v false [(.i .i64 left1)])] = some ⟨[(.v false [(.i .i64 (Pu.laws_szPolicy.v a0_0 a0_1 a0_2 a0_3 left1))])], []⟩ := by
    intro a0_0 a0_1 a0_2 a0_3 left1  h1
    have hN := Pu.laws_szPolicy.b_eq (R := Res) (fun r0 => some ⟨[(.v false [(.i .i64 r0)])], []⟩) a0_0 a0_1 a0_2 a0_3 left1 h1
    have hl : loopsOf (Try.f140.body.getD .skip) = [] := by kernel_rfl
    refine ⟨iterN 0, by rw [hl]; exact loops_nil, ?_⟩
    refine Eq.trans (show body E140 (iterN 0) Try.f140 [(.v true [(.sh 9 a0_0), (.sh 9 a0_1), (.sh 49 a0_2), (.i .i64 a0_3)]), (.v false [(.i .i64 left1)])] = Pu.laws_szPolicy.b (fun r0 => some ⟨[(.v false [(.i .i64 r0)])], []⟩) a0_0 a0_1 a0_2 a0_3 left1 by kernel_rfl) hN
  intro args r h
  unfold sp140 at h
  split at h
  · injection h with h
    injection h with h1 h2
    subst h2
    exact ⟨by kernel_rfl, fun hf => ⟨of_decide_eq_true (by kernel_rfl), key _ _ _ _ _ h1⟩⟩
  · cases h

end Go.FG.Se

namespace Go.FG.Se
open Go.Proofs
def E191 : Env := { toTab := T, call := Go.FG.callIn [], mode := Go.FG.modeIn md, keep := Go.FG.keepIn [], tk := fun n => Go.FG.memB n [], om := Go.FG.omIn [] }
def sp191 : List Arg → Option (Bool × Res)
  | [(.v true [(.s a0_0), (.s a0_1), (.i .i64 a0_2), (.i .i64 a0_3), (.i .i64 a0_4)]), (.v false [(.i .i64 left1)])] => some (true, ⟨[(.v false [(.i .i64 (Pu.laws_szFetch.v a0_0 a0_1 a0_2 a0_3 a0_4 left1))])], []⟩)
  | _ => none
theorem ok191 : FnOk Try.prog T 191 sp191 := by
  refine fn_ok (E := E191) hE call_nil hM Try.func191 (code := (Try.f191.body.getD .skip)) (by kernel_rfl) (by kernel_rfl) ?_
  have key : ∀ (a0_0 : ByteArray) (a0_1 : ByteArray) (a0_2 : Int) (a0_3 : Int) (a0_4 : Int) (left1 : Int), ∃ it : It Res, (∀ c ∈ loopsOf (Try.f191.body.getD .skip), LoopOk E191 it c) ∧ body E191 it Try.f191 [(.v true [(.s a0_0), (.s a0_1), (.i .i64 a0_2), (.i .i64 a0_3), (.i .i64 a0_4)]), (.v false [(.i .i64 left1)])] = some ⟨[(.v false [(.i .i64 (Pu.laws_szFetch.v a0_0 a0_1 a0_2 a0_3 a0_4 left1))])], []⟩ := by
    intro a0_0 a0_1 a0_2 a0_3 a0_4 left1 
    have hN := Pu.laws_szFetch.b_eq (R := Res) (fun r0 => some ⟨[(.v false [(.i .i64 r0)])], []⟩) a0_0 a0_1 a0_2 a0_3 a0_4 left1
    have hl : loopsOf (Try.f191.body.getD .skip) = [] := by kernel_rfl
    refine ⟨iterN 0, by rw [hl]; exact loops_nil, ?_⟩
    refine Eq.trans (show body E191 (iterN 0) Try.f191 [(.v true [(.s a0_0), (.s a0_1), (.i .i64 a0_2), (.i .i64 a0_3), (.i .i64 a0_4)]), (.v false [(.i .i64 left1)])] = Pu.laws_szFetch.b (fun r0 => some ⟨[(.v false [(.i .i64 r0)])], []⟩) a0_0 a0_1 a0_2 a0_3 a0_4 left1 by kernel_rfl) hN
  intro args r h
  unfold sp191 at h
  split at h
  · injection h with h
    injection h with h1 h2
    subst h2
    exact ⟨by kernel_rfl, fun hf => ⟨of_decide_eq_true (by kernel_rfl), key _ _ _ _ _ _⟩⟩
  · cases h

end Go.FG.Se

namespace Go.FG.Se
open Go.Proofs
def E141 : Env := { toTab := T, call := Go.FG.callIn [(191, sp191)], mode := Go.FG.modeIn md, keep := Go.FG.keepIn [(5, [0, 1, 4, 5])], tk := fun n => Go.FG.memB n [], om := Go.FG.omIn [] }
def it141 (N : Nat) {R : Type} : It R := fun rid f cn L K => bif Nat.beq rid 5 then (tell [(0, (.v (.v false [(.sh 219 [])]))), (2, (.v (.v false [(.i .i64 0)]))), (8, (.v (.v false [(.i .i64 0)]))), (10, (.v (.v false [(.i .i64 0)])))] (fun | [.R x0, .I x1, .I x2, .I x3] => Pu.laws_szFetchS.l5 N (fun y0 y1 y2 y3 => (K .ret (tabl [(0, (.v (.v false [(.sh 219 y0)]))), (2, (.v (.v false [(.i .i64 y1)]))), (8, (.v (.v false [(.i .i64 y2)]))), (10, (.v (.v false [(.i .i64 y3)])))]))) (fun y0 y1 y2 y3 => (K (.exit 0) (tabl [(0, (.v (.v false [(.sh 219 y0)]))), (2, (.v (.v false [(.i .i64 y1)]))), (8, (.v (.v false [(.i .i64 y2)]))), (10, (.v (.v false [(.i .i64 y3)])))]))) N x0 x1 x2 x3 | _ => none) L (none)) else none
theorem e141_5 {R : Type} (N : Nat) (K : Ex → St → Option R) : ∀ n : Nat, (∀ x0 x1 x2 x3, iter (exc E141 (it141 N) (loopOf Try.f141 5)) (canon (E141.keep 5))  n (tabl [(0, (.v (.v false [(.sh 219 x0)]))), (2, (.v (.v false [(.i .i64 x1)]))), (8, (.v (.v false [(.i .i64 x2)]))), (10, (.v (.v false [(.i .i64 x3)])))]) K = Pu.laws_szFetchS.l5 N (fun y0 y1 y2 y3 => (K .ret (tabl [(0, (.v (.v false [(.sh 219 y0)]))), (2, (.v (.v false [(.i .i64 y1)]))), (8, (.v (.v false [(.i .i64 y2)]))), (10, (.v (.v false [(.i .i64 y3)])))]))) (fun y0 y1 y2 y3 => (K (.exit 0) (tabl [(0, (.v (.v false [(.sh 219 y0)]))), (2, (.v (.v false [(.i .i64 y1)]))), (8, (.v (.v false [(.i .i64 y2)]))), (10, (.v (.v false [(.i .i64 y3)])))]))) n x0 x1 x2 x3) := by
  intro n
  induction n with
  | zero => exact (fun _ _ _ _ => rfl)
  | succ n ih =>
    have e0 : (fun x0 x1 x2 x3 => iter (exc E141 (it141 N) (loopOf Try.f141 5)) (canon (E141.keep 5))  n (tabl [(0, (.v (.v false [(.sh 219 x0)]))), (2, (.v (.v false [(.i .i64 x1)]))), (8, (.v (.v false [(.i .i64 x2)]))), (10, (.v (.v false [(.i .i64 x3)])))]) K) = Pu.laws_szFetchS.l5 N (fun y0 y1 y2 y3 => (K .ret (tabl [(0, (.v (.v false [(.sh 219 y0)]))), (2, (.v (.v false [(.i .i64 y1)]))), (8, (.v (.v false [(.i .i64 y2)]))), (10, (.v (.v false [(.i .i64 y3)])))]))) (fun y0 y1 y2 y3 => (K (.exit 0) (tabl [(0, (.v (.v false [(.sh 219 y0)]))), (2, (.v (.v false [(.i .i64 y1)]))), (8, (.v (.v false [(.i .i64 y2)]))), (10, (.v (.v false [(.i .i64 y3)])))]))) n := by funext x0 x1 x2 x3; exact ih x0 x1 x2 x3
    intro x0 x1 x2 x3
    have h : ∀ g, exc E141 (it141 N) (loopOf Try.f141 5) (tabl [(0, (.v (.v false [(.sh 219 x0)]))), (2, (.v (.v false [(.i .i64 x1)]))), (8, (.v (.v false [(.i .i64 x2)]))), (10, (.v (.v false [(.i .i64 x3)])))]) (iterK g (canon (E141.keep 5)) K) = Pu.laws_szFetchS.r5 N (fun x0 x1 x2 x3 => (g (tabl [(0, (.v (.v false [(.sh 219 x0)]))), (2, (.v (.v false [(.i .i64 x1)]))), (8, (.v (.v false [(.i .i64 x2)]))), (10, (.v (.v false [(.i .i64 x3)])))]))) (fun y0 y1 y2 y3 => (K .ret (tabl [(0, (.v (.v false [(.sh 219 y0)]))), (2, (.v (.v false [(.i .i64 y1)]))), (8, (.v (.v false [(.i .i64 y2)]))), (10, (.v (.v false [(.i .i64 y3)])))]))) (fun y0 y1 y2 y3 => (K (.exit 0) (tabl [(0, (.v (.v false [(.sh 219 y0)]))), (2, (.v (.v false [(.i .i64 y1)]))), (8, (.v (.v false [(.i .i64 y2)]))), (10, (.v (.v false [(.i .i64 y3)])))]))) x0 x1 x2 x3 := by intro g; kernel_rfl
    refine (h _).trans ?_
    show Pu.laws_szFetchS.r5 N (fun x0 x1 x2 x3 => (iter (exc E141 (it141 N) (loopOf Try.f141 5)) (canon (E141.keep 5))  n (tabl [(0, (.v (.v false [(.sh 219 x0)]))), (2, (.v (.v false [(.i .i64 x1)]))), (8, (.v (.v false [(.i .i64 x2)]))), (10, (.v (.v false [(.i .i64 x3)])))]) K)) (fun y0 y1 y2 y3 => (K .ret (tabl [(0, (.v (.v false [(.sh 219 y0)]))), (2, (.v (.v false [(.i .i64 y1)]))), (8, (.v (.v false [(.i .i64 y2)]))), (10, (.v (.v false [(.i .i64 y3)])))]))) (fun y0 y1 y2 y3 => (K (.exit 0) (tabl [(0, (.v (.v false [(.sh 219 y0)]))), (2, (.v (.v false [(.i .i64 y1)]))), (8, (.v (.v false [(.i .i64 y2)]))), (10, (.v (.v false [(.i .i64 y3)])))]))) x0 x1 x2 x3 = _
    rw [e0]; rfl
theorem lo141_5 {R : Type} (N : Nat) : LoopOk E141 (it141 N (R := R)) (loopOf Try.f141 5) := by
  have e : firstRid (loopOf Try.f141 5) = 5 := by kernel_rfl
  intro L K r
  rw [e]
  intro h
  unfold it141 at h
  simp only [show Nat.beq 5 5 = true from rfl, cond_false, cond_true] at h
  refine tell_ok (Q := fun L => ∃ n, iter (exc E141 (it141 N) (loopOf Try.f141 5)) (canon (E141.keep 5)) n (tabl L) K = some r) h (fun xs h => ?_) (fun h => ?_)
  · (try dsimp only at h)
    split at h
    · exact ⟨N, ((e141_5 N K N) _ _ _ _).trans h⟩
    · cases h
  cases h
def sp141 : List Arg → Option (Bool × Res)
  | [(.v false [(.sh 219 a0)]), (.v false [(.i .i64 left1)])] => some (Pu.laws_szFetchS.c a0 left1, ⟨[(.v false [(.i .i64 (Pu.laws_szFetchS.v a0 left1))])], []⟩)
  | _ => none
theorem ok141 : FnOk Try.prog T 141 sp141 := by
  refine fn_ok (E := E141) hE (call_cons ok191 call_nil) hM Try.func141 (code := (Try.f141.body.getD .skip)) (by kernel_rfl) (by kernel_rfl) ?_
  have key : ∀ (a0 : Row) (left1 : Int), Pu.laws_szFetchS.c a0 left1 = true → ∃ it : It Res, (∀ c ∈ loopsOf (Try.f141.body.getD .skip), LoopOk E141 it c) ∧ body E141 it Try.f141 [(.v false [(.sh 219 a0)]), (.v false [(.i .i64 left1)])] = some ⟨[(.v false [(.i .i64 (Pu.laws_szFetchS.v a0 left1))])], []⟩ := by
    intro a0 left1  h1
    obtain ⟨N, hN⟩ := Pu.laws_szFetchS.b_eq (R := Res) (fun r0 => some ⟨[(.v false [(.i .i64 r0)])], []⟩) a0 left1 h1
    have hl : loopsOf (Try.f141.body.getD .skip) = [loopOf Try.f141 5] := by kernel_rfl
    refine ⟨it141 N, by rw [hl]; exact (loops_cons (lo141_5 N) loops_nil), ?_⟩
    refine Eq.trans (show body E141 (it141 N) Try.f141 [(.v false [(.sh 219 a0)]), (.v false [(.i .i64 left1)])] = Pu.laws_szFetchS.b N (fun r0 => some ⟨[(.v false [(.i .i64 r0)])], []⟩) a0 left1 by kernel_rfl) hN
  intro args r h
  unfold sp141 at h
  split at h
  · injection h with h
    injection h with h1 h2
    subst h2
    exact ⟨by kernel_rfl, fun hf => ⟨of_decide_eq_true (by kernel_rfl), key _ _ h1⟩⟩
  · cases h

end Go.FG.Se

namespace Go.FG.Se
open Go.Proofs
def E192 : Env := { toTab := T, call := Go.FG.callIn [], mode := Go.FG.modeIn md, keep := Go.FG.keepIn [], tk := fun n => Go.FG.memB n [], om := Go.FG.omIn [] }
def sp192 : List Arg → Option (Bool × Res)
  | [(.v true [(.i .i64 a0_0), (.s a0_1), (.i .i64 a0_2), (.i .i64 a0_3), (.i .i64 a0_4), (.s a0_5), (.i .i64 a0_6)]), (.v false [(.i .i64 left1)])] => some (true, ⟨[(.v false [(.i .i64 (Pu.laws_szClient.v a0_0 a0_1 a0_2 a0_3 a0_4 a0_5 a0_6 left1))])], []⟩)
  | _ => none
theorem ok192 : FnOk Try.prog T 192 sp192 := by
  refine fn_ok (E := E192) hE call_nil hM Try.func192 (code := (Try.f192.body.getD .skip)) (by kernel_rfl) (by kernel_rfl) ?_
  have key : ∀ (a0_0 : Int) (a0_1 : ByteArray) (a0_2 : Int) (a0_3 : Int) (a0_4 : Int) (a0_5 : ByteArray) (a0_6 : Int) (left1 : Int), ∃ it : It Res, (∀ c ∈ loopsOf (Try.f192.body.getD .skip), LoopOk E192 it c) ∧ body E192 it Try.f192 [(.v true [(.i .i64 a0_0), (.s a0_1), (.i .i64 a0_2), (.i .i64 a0_3), (.i .i64 a0_4), (.s a0_5), (.i .i64 a0_6)]), (.v false [(.i .i64 left1)])] = some ⟨[(.v false [(.i .i64 (Pu.laws_szClient.v a0_0 a0_1 a0_2 a0_3 a0_4 a0_5 a0_6 left1))])], []⟩ := by
    intro a0_0 a0_1 a0_2 a0_3 a0_4 a0_5 a0_6 left1 
    have hN := Pu.laws_szClient.b_eq (R := Res) (fun r0 => some ⟨[(.v false [(.i .i64 r0)])], []⟩) a0_0 a0_1 a0_2 a0_3 a0_4 a0_5 a0_6 left1
    have hl : loopsOf (Try.f192.body.getD .skip) = [] := by kernel_rfl
    refine ⟨iterN 0, by rw [hl]; exact loops_nil, ?_⟩
    refine Eq.trans (show body E192 (iterN 0) Try.f192 [(.v true [(.i .i64 a0_0), (.s a0_1), (.i .i64 a0_2), (.i .i64 a0_3), (.i .i64 a0_4), (.s a0_5), (.i .i64 a0_6)]), (.v false [(.i .i64 left1)])] = Pu.laws_szClient.b (fun r0 => some ⟨[(.v false [(.i .i64 r0)])], []⟩) a0_0 a0_1 a0_2 a0_3 a0_4 a0_5 a0_6 left1 by kernel_rfl) hN
  intro args r h
  unfold sp192 at h
  split at h
  · injection h with h
    injection h with h1 h2
    subst h2
    exact ⟨by kernel_rfl, fun hf => ⟨of_decide_eq_true (by kernel_rfl), key _ _ _ _ _ _ _ _⟩⟩
  · cases h

end Go.FG.Se

namespace Go.FG.Se
open Go.Proofs
def E142 : Env := { toTab := T, call := Go.FG.callIn [(192, sp192)], mode := Go.FG.modeIn md, keep := Go.FG.keepIn [(5, [0, 1, 4, 5])], tk := fun n => Go.FG.memB n [], om := Go.FG.omIn [] }
def it142 (N : Nat) {R : Type} : It R := fun rid f cn L K => bif Nat.beq rid 5 then (tell [(0, (.v (.v false [(.sh 221 [])]))), (2, (.v (.v false [(.i .i64 0)]))), (8, (.v (.v false [(.i .i64 0)]))), (10, (.v (.v false [(.i .i64 0)])))] (fun | [.R x0, .I x1, .I x2, .I x3] => Pu.laws_szClientS.l5 N (fun y0 y1 y2 y3 => (K .ret (tabl [(0, (.v (.v false [(.sh 221 y0)]))), (2, (.v (.v false [(.i .i64 y1)]))), (8, (.v (.v false [(.i .i64 y2)]))), (10, (.v (.v false [(.i .i64 y3)])))]))) (fun y0 y1 y2 y3 => (K (.exit 0) (tabl [(0, (.v (.v false [(.sh 221 y0)]))), (2, (.v (.v false [(.i .i64 y1)]))), (8, (.v (.v false [(.i .i64 y2)]))), (10, (.v (.v false [(.i .i64 y3)])))]))) N x0 x1 x2 x3 | _ => none) L (none)) else none
theorem e142_5 {R : Type} (N : Nat) (K : Ex → St → Option R) : ∀ n : Nat, (∀ x0 x1 x2 x3, iter (exc E142 (it142 N) (loopOf Try.f142 5)) (canon (E142.keep 5))  n (tabl [(0, (.v (.v false [(.sh 221 x0)]))), (2, (.v (.v false [(.i .i64 x1)]))), (8, (.v (.v false [(.i .i64 x2)]))), (10, (.v (.v false [(.i .i64 x3)])))]) K = Pu.laws_szClientS.l5 N (fun y0 y1 y2 y3 => (K .ret (tabl [(0, (.v (.v false [(.sh 221 y0)]))), (2, (.v (.v false [(.i .i64 y1)]))), (8, (.v (.v false [(.i .i64 y2)]))), (10, (.v (.v false [(.i .i64 y3)])))]))) (fun y0 y1 y2 y3 => (K (.exit 0) (tabl [(0, (.v (.v false [(.sh 221 y0)]))), (2, (.v (.v false [(.i .i64 y1)]))), (8, (.v (.v false [(.i .i64 y2)]))), (10, (.v (.v false [(.i .i64 y3)])))]))) n x0 x1 x2 x3) := by
  intro n
  induction n with
  | zero => exact (fun _ _ _ _ => rfl)
  | succ n ih =>
    have e0 : (fun x0 x1 x2 x3 => iter (exc E142 (it142 N) (loopOf Try.f142 5)) (canon (E142.keep 5))  n (tabl [(0, (.v (.v false [(.sh 221 x0)]))), (2, (.v (.v false [(.i .i64 x1)]))), (8, (.v (.v false [(.i .i64 x2)]))), (10, (.v (.v false [(.i .i64 x3)])))]) K) = Pu.laws_szClientS.l5 N (fun y0 y1 y2 y3 => (K .ret (tabl [(0, (.v (.v false [(.sh 221 y0)]))), (2, (.v (.v false [(.i .i64 y1)]))), (8, (.v (.v false [(.i .i64 y2)]))), (10, (.v (.v false [(.i .i64 y3)])))]))) (fun y0 y1 y2 y3 => (K (.exit 0) (tabl [(0, (.v (.v false [(.sh 221 y0)]))), (2, (.v (.v false [(.i .i64 y1)]))), (8, (.v (.v false [(.i .i64 y2)]))), (10, (.v (.v false [(.i .i64 y3)])))]))) n := by funext x0 x1 x2 x3; exact ih x0 x1 x2 x3
    intro x0 x1 x2 x3
    have h : ∀ g, exc E142 (it142 N) (loopOf Try.f142 5) (tabl [(0, (.v (.v false [(.sh 221 x0)]))), (2, (.v (.v false [(.i .i64 x1)]))), (8, (.v (.v false [(.i .i64 x2)]))), (10, (.v (.v false [(.i .i64 x3)])))]) (iterK g (canon (E142.keep 5)) K) = Pu.laws_szClientS.r5 N (fun x0 x1 x2 x3 => (g (tabl [(0, (.v (.v false [(.sh 221 x0)]))), (2, (.v (.v false [(.i .i64 x1)]))), (8, (.v (.v false [(.i .i64 x2)]))), (10, (.v (.v false [(.i .i64 x3)])))]))) (fun y0 y1 y2 y3 => (K .ret (tabl [(0, (.v (.v false [(.sh 221 y0)]))), (2, (.v (.v false [(.i .i64 y1)]))), (8, (.v (.v false [(.i .i64 y2)]))), (10, (.v (.v false [(.i .i64 y3)])))]))) (fun y0 y1 y2 y3 => (K (.exit 0) (tabl [(0, (.v (.v false [(.sh 221 y0)]))), (2, (.v (.v false [(.i .i64 y1)]))), (8, (.v (.v false [(.i .i64 y2)]))), (10, (.v (.v false [(.i .i64 y3)])))]))) x0 x1 x2 x3 := by intro g; kernel_rfl
    refine (h _).trans ?_
    show Pu.laws_szClientS.r5 N (fun x0 x1 x2 x3 => (iter (exc E142 (it142 N) (loopOf Try.f142 5)) (canon (E142.keep 5))  n (tabl [(0, (.v (.v false [(.sh 221 x0)]))), (2, (.v (.v false [(.i .i64 x1)]))), (8, (.v (.v false [(.i .i64 x2)]))), (10, (.v (.v false [(.i .i64 x3)])))]) K)) (fun y0 y1 y2 y3 => (K .ret (tabl [(0, (.v (.v false [(.sh 221 y0)]))), (2, (.v (.v false [(.i .i64 y1)]))), (8, (.v (.v false [(.i .i64 y2)]))), (10, (.v (.v false [(.i .i64 y3)])))]))) (fun y0 y1 y2 y3 => (K (.exit 0) (tabl [(0, (.v (.v false [(.sh 221 y0)]))), (2, (.v (.v false [(.i .i64 y1)]))), (8, (.v (.v false [(.i .i64 y2)]))), (10, (.v (.v false [(.i .i64 y3)])))]))) x0 x1 x2 x3 = _
    rw [e0]; rfl
theorem lo142_5 {R : Type} (N : Nat) : LoopOk E142 (it142 N (R := R)) (loopOf Try.f142 5) := by
  have e : firstRid (loopOf Try.f142 5) = 5 := by kernel_rfl
  intro L K r
  rw [e]
  intro h
  unfold it142 at h
  simp only [show Nat.beq 5 5 = true from rfl, cond_false, cond_true] at h
  refine tell_ok (Q := fun L => ∃ n, iter (exc E142 (it142 N) (loopOf Try.f142 5)) (canon (E142.keep 5)) n (tabl L) K = some r) h (fun xs h => ?_) (fun h => ?_)
  · (try dsimp only at h)
    split at h
    · exact ⟨N, ((e142_5 N K N) _ _ _ _).trans h⟩
    · cases h
  cases h
def sp142 : List Arg → Option (Bool × Res)
  | [(.v false [(.sh 221 a0)]), (.v false [(.i .i64 left1)])] => some (Pu.laws_szClientS.c a0 left1, ⟨[(.v false [(.i .i64 (Pu.laws_szClientS.v a0 left1))])], []⟩)
  | _ => none
theorem ok142 : FnOk Try.prog T 142 sp142 := by
  refine fn_ok (E := E142) hE (call_cons ok192 call_nil) hM Try.func142 (code := (Try.f142.body.getD .skip)) (by kernel_rfl) (by kernel_rfl) ?_
  have key : ∀ (a0 : Row) (left1 : Int), Pu.laws_szClientS.c a0 left1 = true → ∃ it : It Res, (∀ c ∈ loopsOf (Try.f142.body.getD .skip), LoopOk E142 it c) ∧ body E142 it Try.f142 [(.v false [(.sh 221 a0)]), (.v false [(.i .i64 left1)])] = some ⟨[(.v false [(.i .i64 (Pu.laws_szClientS.v a0 left1))])], []⟩ := by
    intro a0 left1  h1
    obtain ⟨N, hN⟩ := Pu.laws_szClientS.b_eq (R := Res) (fun r0 => some ⟨[(.v false [(.i .i64 r0)])], []⟩) a0 left1 h1
    have hl : loopsOf (Try.f142.body.getD .skip) = [loopOf Try.f142 5] := by kernel_rfl
    refine ⟨it142 N, by rw [hl]; exact (loops_cons (lo142_5 N) loops_nil), ?_⟩
    refine Eq.trans (show body E142 (it142 N) Try.f142 [(.v false [(.sh 221 a0)]), (.v false [(.i .i64 left1)])] = Pu.laws_szClientS.b N (fun r0 => some ⟨[(.v false [(.i .i64 r0)])], []⟩) a0 left1 by kernel_rfl) hN
  intro args r h
  unfold sp142 at h
  split at h
  · injection h with h
    injection h with h1 h2
    subst h2
    exact ⟨by kernel_rfl, fun hf => ⟨of_decide_eq_true (by kernel_rfl), key _ _ h1⟩⟩
  · cases h

end Go.FG.Se

namespace Go.FG.Se
open Go.Proofs
def E66 : Env := { toTab := T, call := Go.FG.callIn [(71, sp71), (140, sp140), (141, sp141), (142, sp142)], mode := Go.FG.modeIn md, keep := Go.FG.keepIn [], tk := fun n => Go.FG.memB n [], om := Go.FG.omIn [] }
def sp66 : List Arg → Option (Bool × Res)
  | [(.v true [(.i .i64 a0_0), (.sh 30 a0_1), (.sh 9 a0_2), (.sh 9 a0_3), (.sh 49 a0_4), (.i .i64 a0_5), (.sh 219 a0_6), (.sh 221 a0_7), (.i .i64 a0_8)]), (.v false [(.i .i64 left1)])] => some (Pu.laws_szProxy.c a0_0 a0_1 a0_2 a0_3 a0_4 a0_5 a0_6 a0_7 a0_8 left1, ⟨[(.v false [(.i .i64 (Pu.laws_szProxy.v a0_0 a0_1 a0_2 a0_3 a0_4 a0_5 a0_6 a0_7 a0_8 left1))])], []⟩)
  | _ => none
theorem ok66 : FnOk Try.prog T 66 sp66 := by
  refine fn_ok (E := E66) hE (call_cons ok71 (call_cons ok140 (call_cons ok141 (call_cons ok142 call_nil)))) hM Try.func66 (code := (Try.f66.body.getD .skip)) (by kernel_rfl) (by kernel_rfl) ?_
  have key : ∀ (a0_0 : Int) (a0_1 : Row) (a0_2 : Row) (a0_3 : Row) (a0_4 : Row) (a0_5 : Int) (a0_6 : Row) (a0_7 : Row) (a0_8 : Int) (left1 : Int), Pu.laws_szProxy.c a0_0 a0_1 a0_2 a0_3 a0_4 a0_5 a0_6 a0_7 a0_8 left1 = true → ∃ it : It Res, (∀ c ∈ loopsOf (Try.f66.body.getD .skip), LoopOk E66 it c) ∧ body E66 it Try.f66 [(.v true [(.i .i64 a0_0), (.sh 30 a0_1), (.sh 9 a0_2), (.sh 9 a0_3), (.sh 49 a0_4), (.i .i64 a0_5), (.sh 219 a0_6), (.sh 221 a0_7), (.i .i64 a0_8)]), (.v false [(.i .i64 left1)])] = some ⟨[(.v false [(.i .i64 (Pu.laws_szProxy.v a0_0 a0_1 a0_2 a0_3 a0_4 a0_5 a0_6 a0_7 a0_8 left1))])], []⟩ := by
    intro a0_0 a0_1 a0_2 a0_3 a0_4 a0_5 a0_6 a0_7 a0_8 left1  h1
    have hN := Pu.laws_szProxy.b_eq (R := Res) (fun r0 => some ⟨[(.v false [(.i .i64 r0)])], []⟩) a0_0 a0_1 a0_2 a0_3 a0_4 a0_5 a0_6 a0_7 a0_8 left1 h1
    have hl : loopsOf (Try.f66.body.getD .skip) = [] := by kernel_rfl
    refine ⟨iterN 0, by rw [hl]; exact loops_nil, ?_⟩
    refine Eq.trans (show body E66 (iterN 0) Try.f66 [(.v true [(.i .i64 a0_0), (.sh 30 a0_1), (.sh 9 a0_2), (.sh 9 a0_3), (.sh 49 a0_4), (.i .i64 a0_5), (.sh 219 a0_6), (.sh 221 a0_7), (.i .i64 a0_8)]), (.v false [(.i .i64 left1)])] = Pu.laws_szProxy.b (fun r0 => some ⟨[(.v false [(.i .i64 r0)])], []⟩) a0_0 a0_1 a0_2 a0_3 a0_4 a0_5 a0_6 a0_7 a0_8 left1 by kernel_rfl) hN
  intro args r h
  unfold sp66 at h
  split at h
  · injection h with h
    injection h with h1 h2
    subst h2
    exact ⟨by kernel_rfl, fun hf => ⟨of_decide_eq_true (by kernel_rfl), key _ _ _ _ _ _ _ _ _ _ h1⟩⟩
  · cases h

end Go.FG.Se

namespace Go.FG.Se
open Go.Proofs
def E199 : Env := { toTab := T, call := Go.FG.callIn [], mode := Go.FG.modeIn md, keep := Go.FG.keepIn [], tk := fun n => Go.FG.memB n [], om := Go.FG.omIn [] }
def sp199 : List Arg → Option (Bool × Res)
  | [(.v true [(.s a0_0), (.s a0_1), (.i .i64 a0_2)]), (.v false [(.i .i64 left1)])] => some (true, ⟨[(.v false [(.i .i64 (Pu.laws_szFile.v a0_0 a0_1 a0_2 left1))])], []⟩)
  | _ => none
theorem ok199 : FnOk Try.prog T 199 sp199 := by
  refine fn_ok (E := E199) hE call_nil hM Try.func199 (code := (Try.f199.body.getD .skip)) (by kernel_rfl) (by kernel_rfl) ?_
  have key : ∀ (a0_0 : ByteArray) (a0_1 : ByteArray) (a0_2 : Int) (left1 : Int), ∃ it : It Res, (∀ c ∈ loopsOf (Try.f199.body.getD .skip), LoopOk E199 it c) ∧ body E199 it Try.f199 [(.v true [(.s a0_0), (.s a0_1), (.i .i64 a0_2)]), (.v false [(.i .i64 left1)])] = some ⟨[(.v false [(.i .i64 (Pu.laws_szFile.v a0_0 a0_1 a0_2 left1))])], []⟩ := by
    intro a0_0 a0_1 a0_2 left1 
    have hN := Pu.laws_szFile.b_eq (R := Res) (fun r0 => some ⟨[(.v false [(.i .i64 r0)])], []⟩) a0_0 a0_1 a0_2 left1
    have hl : loopsOf (Try.f199.body.getD .skip) = [] := by kernel_rfl
    refine ⟨iterN 0, by rw [hl]; exact loops_nil, ?_⟩
    refine Eq.trans (show body E199 (iterN 0) Try.f199 [(.v true [(.s a0_0), (.s a0_1), (.i .i64 a0_2)]), (.v false [(.i .i64 left1)])] = Pu.laws_szFile.b (fun r0 => some ⟨[(.v false [(.i .i64 r0)])], []⟩) a0_0 a0_1 a0_2 left1 by kernel_rfl) hN
  intro args r h
  unfold sp199 at h
  split at h
  · injection h with h
    injection h with h1 h2
    subst h2
    exact ⟨by kernel_rfl, fun hf => ⟨of_decide_eq_true (by kernel_rfl), key _ _ _ _⟩⟩
  · cases h

end Go.FG.Se

namespace Go.FG.Se
open Go.Proofs
def E147 : Env := { toTab := T, call := Go.FG.callIn [(199, sp199)], mode := Go.FG.modeIn md, keep := Go.FG.keepIn [(5, [0, 1, 4, 5])], tk := fun n => Go.FG.memB n [], om := Go.FG.omIn [] }
def it147 (N : Nat) {R : Type} : It R := fun rid f cn L K => bif Nat.beq rid 5 then (tell [(0, (.v (.v false [(.sh 230 [])]))), (2, (.v (.v false [(.i .i64 0)]))), (8, (.v (.v false [(.i .i64 0)]))), (10, (.v (.v false [(.i .i64 0)])))] (fun | [.R x0, .I x1, .I x2, .I x3] => Pu.laws_szFileS.l5 N (fun y0 y1 y2 y3 => (K .ret (tabl [(0, (.v (.v false [(.sh 230 y0)]))), (2, (.v (.v false [(.i .i64 y1)]))), (8, (.v (.v false [(.i .i64 y2)]))), (10, (.v (.v false [(.i .i64 y3)])))]))) (fun y0 y1 y2 y3 => (K (.exit 0) (tabl [(0, (.v (.v false [(.sh 230 y0)]))), (2, (.v (.v false [(.i .i64 y1)]))), (8, (.v (.v false [(.i .i64 y2)]))), (10, (.v (.v false [(.i .i64 y3)])))]))) N x0 x1 x2 x3 | _ => none) L (none)) else none
theorem e147_5 {R : Type} (N : Nat) (K : Ex → St → Option R) : ∀ n : Nat, (∀ x0 x1 x2 x3, iter (exc E147 (it147 N) (loopOf Try.f147 5)) (canon (E147.keep 5))  n (tabl [(0, (.v (.v false [(.sh 230 x0)]))), (2, (.v (.v false [(.i .i64 x1)]))), (8, (.v (.v false [(.i .i64 x2)]))), (10, (.v (.v false [(.i .i64 x3)])))]) K = Pu.laws_szFileS.l5 N (fun y0 y1 y2 y3 => (K .ret (tabl [(0, (.v (.v false [(.sh 230 y0)]))), (2, (.v (.v false [(.i .i64 y1)]))), (8, (.v (.v false [(.i .i64 y2)]))), (10, (.v (.v false [(.i .i64 y3)])))]))) (fun y0 y1 y2 y3 => (K (.exit 0) (tabl [(0, (.v (.v false [(.sh 230 y0)]))), (2, (.v (.v false [(.i .i64 y1)]))), (8, (.v (.v false [(.i .i64 y2)]))), (10, (.v (.v false [(.i .i64 y3)])))]))) n x0 x1 x2 x3) := by
  intro n
  induction n with
  | zero => exact (fun _ _ _ _ => rfl)
  | succ n ih =>
    have e0 : (fun x0 x1 x2 x3 => iter (exc E147 (it147 N) (loopOf Try.f147 5)) (canon (E147.keep 5))  n (tabl [(0, (.v (.v false [(.sh 230 x0)]))), (2, (.v (.v false [(.i .i64 x1)]))), (8, (.v (.v false [(.i .i64 x2)]))), (10, (.v (.v false [(.i .i64 x3)])))]) K) = Pu.laws_szFileS.l5 N (fun y0 y1 y2 y3 => (K .ret (tabl [(0, (.v (.v false [(.sh 230 y0)]))), (2, (.v (.v false [(.i .i64 y1)]))), (8, (.v (.v false [(.i .i64 y2)]))), (10, (.v (.v false [(.i .i64 y3)])))]))) (fun y0 y1 y2 y3 => (K (.exit 0) (tabl [(0, (.v (.v false [(.sh 230 y0)]))), (2, (.v (.v false [(.i .i64 y1)]))), (8, (.v (.v false [(.i .i64 y2)]))), (10, (.v (.v false [(.i .i64 y3)])))]))) n := by funext x0 x1 x2 x3; exact ih x0 x1 x2 x3
    intro x0 x1 x2 x3
    have h : ∀ g, exc E147 (it147 N) (loopOf Try.f147 5) (tabl [(0, (.v (.v false [(.sh 230 x0)]))), (2, (.v (.v false [(.i .i64 x1)]))), (8, (.v (.v false [(.i .i64 x2)]))), (10, (.v (.v false [(.i .i64 x3)])))]) (iterK g (canon (E147.keep 5)) K) = Pu.laws_szFileS.r5 N (fun x0 x1 x2 x3 => (g (tabl [(0, (.v (.v false [(.sh 230 x0)]))), (2, (.v (.v false [(.i .i64 x1)]))), (8, (.v (.v false [(.i .i64 x2)]))), (10, (.v (.v false [(.i .i64 x3)])))]))) (fun y0 y1 y2 y3 => (K .ret (tabl [(0, (.v (.v false [(.sh 230 y0)]))), (2, (.v (.v false [(.i .i64 y1)]))), (8, (.v (.v false [(.i .i64 y2)]))), (10, (.v (.v false [(.i .i64 y3)])))]))) (fun y0 y1 y2 y3 => (K (.exit 0) (tabl [(0, (.v (.v false [(.sh 230 y0)]))), (2, (.v (.v false [(.i .i64 y1)]))), (8, (.v (.v false [(.i .i64 y2)]))), (10, (.v (.v false [(.i .i64 y3)])))]))) x0 x1 x2 x3 := by intro g; kernel_rfl
    refine (h _).trans ?_
    show Pu.laws_szFileS.r5 N (fun x0 x1 x2 x3 => (iter (exc E147 (it147 N) (loopOf Try.f147 5)) (canon (E147.keep 5))  n (tabl [(0, (.v (.v false [(.sh 230 x0)]))), (2, (.v (.v false [(.i .i64 x1)]))), (8, (.v (.v false [(.i .i64 x2)]))), (10, (.v (.v false [(.i .i64 x3)])))]) K)) (fun y0 y1 y2 y3 => (K .ret (tabl [(0, (.v (.v false [(.sh 230 y0)]))), (2, (.v (.v false [(.i .i64 y1)]))), (8, (.v (.v false [(.i .i64 y2)]))), (10, (.v (.v false [(.i .i64 y3)])))]))) (fun y0 y1 y2 y3 => (K (.exit 0) (tabl [(0, (.v (.v false [(.sh 230 y0)]))), (2, (.v (.v false [(.i .i64 y1)]))), (8, (.v (.v false [(.i .i64 y2)]))), (10, (.v (.v false [(.i .i64 y3)])))]))) x0 x1 x2 x3 = _
    rw [e0]; rfl
theorem lo147_5 {R : Type} (N : Nat) : LoopOk E147 (it147 N (R := R)) (loopOf Try.f147 5) := by
  have e : firstRid (loopOf Try.f147 5) = 5 := by kernel_rfl
  intro L K r
  rw [e]
  intro h
  unfold it147 at h
  simp only [show Nat.beq 5 5 = true from rfl, cond_false, cond_true] at h
  refine tell_ok (Q := fun L => ∃ n, iter (exc E147 (it147 N) (loopOf Try.f147 5)) (canon (E147.keep 5)) n (tabl L) K = some r) h (fun xs h => ?_) (fun h => ?_)
  · (try dsimp only at h)
    split at h
    · exact ⟨N, ((e147_5 N K N) _ _ _ _).trans h⟩
    · cases h
  cases h
def sp147 : List Arg → Option (Bool × Res)
  | [(.v false [(.sh 230 a0)]), (.v false [(.i .i64 left1)])] => some (Pu.laws_szFileS.c a0 left1, ⟨[(.v false [(.i .i64 (Pu.laws_szFileS.v a0 left1))])], []⟩)
  | _ => none
theorem ok147 : FnOk Try.prog T 147 sp147 := by
  refine fn_ok (E := E147) hE (call_cons ok199 call_nil) hM Try.func147 (code := (Try.f147.body.getD .skip)) (by kernel_rfl) (by kernel_rfl) ?_
  have key : ∀ (a0 : Row) (left1 : Int), Pu.laws_szFileS.c a0 left1 = true → ∃ it : It Res, (∀ c ∈ loopsOf (Try.f147.body.getD .skip), LoopOk E147 it c) ∧ body E147 it Try.f147 [(.v false [(.sh 230 a0)]), (.v false [(.i .i64 left1)])] = some ⟨[(.v false [(.i .i64 (Pu.laws_szFileS.v a0 left1))])], []⟩ := by
    intro a0 left1  h1
    obtain ⟨N, hN⟩ := Pu.laws_szFileS.b_eq (R := Res) (fun r0 => some ⟨[(.v false [(.i .i64 r0)])], []⟩) a0 left1 h1
    have hl : loopsOf (Try.f147.body.getD .skip) = [loopOf Try.f147 5] := by kernel_rfl
    refine ⟨it147 N, by rw [hl]; exact (loops_cons (lo147_5 N) loops_nil), ?_⟩
    refine Eq.trans (show body E147 (it147 N) Try.f147 [(.v false [(.sh 230 a0)]), (.v false [(.i .i64 left1)])] = Pu.laws_szFileS.b N (fun r0 => some ⟨[(.v false [(.i .i64 r0)])], []⟩) a0 left1 by kernel_rfl) hN
  intro args r h
  unfold sp147 at h
  split at h
  · injection h with h
    injection h with h1 h2
    subst h2
    exact ⟨by kernel_rfl, fun hf => ⟨of_decide_eq_true (by kernel_rfl), key _ _ h1⟩⟩
  · cases h

end Go.FG.Se

namespace Go.FG.Se
open Go.Proofs
def E70 : Env := { toTab := T, call := Go.FG.callIn [(147, sp147)], mode := Go.FG.modeIn md, keep := Go.FG.keepIn [], tk := fun n => Go.FG.memB n [], om := Go.FG.omIn [] }
def sp70 : List Arg → Option (Bool × Res)
  | [(.v true [(.sh 230 a0)]), (.v false [(.i .i64 left1)])] => some (Pu.laws_szDisk.c a0 left1, ⟨[(.v false [(.i .i64 (Pu.laws_szDisk.v a0 left1))])], []⟩)
  | _ => none
theorem ok70 : FnOk Try.prog T 70 sp70 := by
  refine fn_ok (E := E70) hE (call_cons ok147 call_nil) hM Try.func70 (code := (Try.f70.body.getD .skip)) (by kernel_rfl) (by kernel_rfl) ?_
  have key : ∀ (a0 : Row) (left1 : Int), Pu.laws_szDisk.c a0 left1 = true → ∃ it : It Res, (∀ c ∈ loopsOf (Try.f70.body.getD .skip), LoopOk E70 it c) ∧ body E70 it Try.f70 [(.v true [(.sh 230 a0)]), (.v false [(.i .i64 left1)])] = some ⟨[(.v false [(.i .i64 (Pu.laws_szDisk.v a0 left1))])], []⟩ := by
    intro a0 left1  h1
    have hN := Pu.laws_szDisk.b_eq (R := Res) (fun r0 => some ⟨[(.v false [(.i .i64 r0)])], []⟩) a0 left1 h1
    have hl : loopsOf (Try.f70.body.getD .skip) = [] := by kernel_rfl
    refine ⟨iterN 0, by rw [hl]; exact loops_nil, ?_⟩
    refine Eq.trans (show body E70 (iterN 0) Try.f70 [(.v true [(.sh 230 a0)]), (.v false [(.i .i64 left1)])] = Pu.laws_szDisk.b (fun r0 => some ⟨[(.v false [(.i .i64 r0)])], []⟩) a0 left1 by kernel_rfl) hN
  intro args r h
  unfold sp70 at h
  split at h
  · injection h with h
    injection h with h1 h2
    subst h2
    exact ⟨by kernel_rfl, fun hf => ⟨of_decide_eq_true (by kernel_rfl), key _ _ h1⟩⟩
  · cases h

end Go.FG.Se

namespace Go.FG.Se
open Go.Proofs
def E80 : Env := { toTab := T, call := Go.FG.callIn [(66, sp66), (70, sp70), (156, sp156), (71, sp71)], mode := Go.FG.modeIn md, keep := Go.FG.keepIn [], tk := fun n => Go.FG.memB n [], om := Go.FG.omIn [] }
def sp80 : List Arg → Option (Bool × Res)
  | [(.v true [(.i .i64 a0_0), (.sh 30 a0_1), (.sh 9 a0_2), (.sh 9 a0_3), (.sh 49 a0_4), (.i .i64 a0_5), (.sh 219 a0_6), (.sh 221 a0_7), (.i .i64 a0_8), (.sh 230 a0_9), (.sh 3 a0_10), (.sh 30 a0_11)]), (.v false [(.i .i64 left1)])] => some (Pu.laws_szWorld.c a0_0 a0_1 a0_2 a0_3 a0_4 a0_5 a0_6 a0_7 a0_8 a0_9 a0_10 a0_11 left1, ⟨[(.v false [(.i .i64 (Pu.laws_szWorld.v a0_0 a0_1 a0_2 a0_3 a0_4 a0_5 a0_6 a0_7 a0_8 a0_9 a0_10 a0_11 left1))])], []⟩)
  | _ => none
theorem ok80 : FnOk Try.prog T 80 sp80 := by
  refine fn_ok (E := E80) hE (call_cons ok66 (call_cons ok70 (call_cons ok156 (call_cons ok71 call_nil)))) hM Try.func80 (code := (Try.f80.body.getD .skip)) (by kernel_rfl) (by kernel_rfl) ?_
  have key : ∀ (a0_0 : Int) (a0_1 : Row) (a0_2 : Row) (a0_3 : Row) (a0_4 : Row) (a0_5 : Int) (a0_6 : Row) (a0_7 : Row) (a0_8 : Int) (a0_9 : Row) (a0_10 : Row) (a0_11 : Row) (left1 : Int), Pu.laws_szWorld.c a0_0 a0_1 a0_2 a0_3 a0_4 a0_5 a0_6 a0_7 a0_8 a0_9 a0_10 a0_11 left1 = true → ∃ it : It Res, (∀ c ∈ loopsOf (Try.f80.body.getD .skip), LoopOk E80 it c) ∧ body E80 it Try.f80 [(.v true [(.i .i64 a0_0), (.sh 30 a0_1), (.sh 9 a0_2), (.sh 9 a0_3), (.sh 49 a0_4), (.i .i64 a0_5), (.sh 219 a0_6), (.sh 221 a0_7), (.i .i64 a0_8), (.sh 230 a0_9), (.sh 3 a0_10), (.sh 30 a0_11)]), (.v false [(.i .i64 left1)])] = some ⟨[(.v false [(.i .i64 (Pu.laws_szWorld.v a0_0 a0_1 a0_2 a0_3 a0_4 a0_5 a0_6 a0_7 a0_8 a0_9 a0_10 a0_11 left1))])], []⟩ := by
    intro a0_0 a0_1 a0_2 a0_3 a0_4 a0_5 a0_6 a0_7 a0_8 a0_9 a0_10 a0_11 left1  h1
    have hN := Pu.laws_szWorld.b_eq (R := Res) (fun r0 => some ⟨[(.v false [(.i .i64 r0)])], []⟩) a0_0 a0_1 a0_2 a0_3 a0_4 a0_5 a0_6 a0_7 a0_8 a0_9 a0_10 a0_11 left1 h1
    have hl : loopsOf (Try.f80.body.getD .skip) = [] := by kernel_rfl
    refine ⟨iterN 0, by rw [hl]; exact loops_nil, ?_⟩
    refine Eq.trans (show body E80 (iterN 0) Try.f80 [(.v true [(.i .i64 a0_0), (.sh 30 a0_1), (.sh 9 a0_2), (.sh 9 a0_3), (.sh 49 a0_4), (.i .i64 a0_5), (.sh 219 a0_6), (.sh 221 a0_7), (.i .i64 a0_8), (.sh 230 a0_9), (.sh 3 a0_10), (.sh 30 a0_11)]), (.v false [(.i .i64 left1)])] = Pu.laws_szWorld.b (fun r0 => some ⟨[(.v false [(.i .i64 r0)])], []⟩) a0_0 a0_1 a0_2 a0_3 a0_4 a0_5 a0_6 a0_7 a0_8 a0_9 a0_10 a0_11 left1 by kernel_rfl) hN
  intro args r h
  unfold sp80 at h
  split at h
  · injection h with h
    injection h with h1 h2
    subst h2
    exact ⟨by kernel_rfl, fun hf => ⟨of_decide_eq_true (by kernel_rfl), key _ _ _ _ _ _ _ _ _ _ _ _ _ h1⟩⟩
  · cases h

end Go.FG.Se

namespace Go.FG.Se
open Go.Proofs
def E22 : Env := { toTab := T, call := Go.FG.callIn [], mode := Go.FG.modeIn md, keep := Go.FG.keepIn [], tk := fun n => Go.FG.memB n [], om := Go.FG.omIn [] }
def sp22 : List Arg → Option (Bool × Res)
  | [(.v true [(.s a0_0), (.i .i64 a0_1), (.i .i64 a0_2), (.s a0_3)])] => some (true, ⟨[(.v true [(.s ((Pu.laws_toEntry.v a0_0 a0_1 a0_2 a0_3).1)), (.i .i64 ((Pu.laws_toEntry.v a0_0 a0_1 a0_2 a0_3).2.1)), (.i .i64 ((Pu.laws_toEntry.v a0_0 a0_1 a0_2 a0_3).2.2.1)), (.s ((Pu.laws_toEntry.v a0_0 a0_1 a0_2 a0_3).2.2.2))])], []⟩)
  | _ => none
theorem ok22 : FnOk Try.prog T 22 sp22 := by
  refine fn_ok (E := E22) hE call_nil hM Try.func22 (code := (Try.f22.body.getD .skip)) (by kernel_rfl) (by kernel_rfl) ?_
  have key : ∀ (a0_0 : ByteArray) (a0_1 : Int) (a0_2 : Int) (a0_3 : ByteArray), ∃ it : It Res, (∀ c ∈ loopsOf (Try.f22.body.getD .skip), LoopOk E22 it c) ∧ body E22 it Try.f22 [(.v true [(.s a0_0), (.i .i64 a0_1), (.i .i64 a0_2), (.s a0_3)])] = some ⟨[(.v true [(.s ((Pu.laws_toEntry.v a0_0 a0_1 a0_2 a0_3).1)), (.i .i64 ((Pu.laws_toEntry.v a0_0 a0_1 a0_2 a0_3).2.1)), (.i .i64 ((Pu.laws_toEntry.v a0_0 a0_1 a0_2 a0_3).2.2.1)), (.s ((Pu.laws_toEntry.v a0_0 a0_1 a0_2 a0_3).2.2.2))])], []⟩ := by
    intro a0_0 a0_1 a0_2 a0_3 
    have hN := Pu.laws_toEntry.b_eq (R := Res) (fun r0 r1 r2 r3 => some ⟨[(.v true [(.s r0), (.i .i64 r1), (.i .i64 r2), (.s r3)])], []⟩) a0_0 a0_1 a0_2 a0_3
    have hl : loopsOf (Try.f22.body.getD .skip) = [] := by kernel_rfl
    refine ⟨iterN 0, by rw [hl]; exact loops_nil, ?_⟩
    refine Eq.trans (show body E22 (iterN 0) Try.f22 [(.v true [(.s a0_0), (.i .i64 a0_1), (.i .i64 a0_2), (.s a0_3)])] = Pu.laws_toEntry.b (fun r0 r1 r2 r3 => some ⟨[(.v true [(.s r0), (.i .i64 r1), (.i .i64 r2), (.s r3)])], []⟩) a0_0 a0_1 a0_2 a0_3 by kernel_rfl) hN
  intro args r h
  unfold sp22 at h
  split at h
  · injection h with h
    injection h with h1 h2
    subst h2
    exact ⟨by kernel_rfl, fun hf => ⟨of_decide_eq_true (by kernel_rfl), key _ _ _ _⟩⟩
  · cases h

end Go.FG.Se

namespace Go.FG.Se
open Go.Proofs
def E74 : Env := { toTab := T, call := Go.FG.callIn [(22, sp22)], mode := Go.FG.modeIn md, keep := Go.FG.keepIn [(3, [0, 3, 4])], tk := fun n => Go.FG.memB n [], om := Go.FG.omIn [] }
def it74 (N : Nat) {R : Type} : It R := fun rid f cn L K => bif Nat.beq rid 3 then (tell [(0, (.v (.v false [(.sh 30 [])]))), (6, (.v (.v false [(.own 0)]))), (8, (.v (.v false [(.i .i64 0)]))), (1, (.o (.row 25 true [])))] (fun | [.R x0, .I x1, .R x2] => Pu.laws_toEntryS.l3 N (fun y0 y1 y2 => (K (.exit 0) (tabl [(0, (.v (.v false [(.sh 30 y0)]))), (6, (.v (.v false [(.own 0)]))), (8, (.v (.v false [(.i .i64 y1)]))), (1, (.o (.row 25 true y2)))]))) N x0 x1 x2 | _ => none) L (none)) else none
theorem e74_3 {R : Type} (N : Nat) (K : Ex → St → Option R) : ∀ n : Nat, (∀ x0 x1 x2, iter (exc E74 (it74 N) (loopOf Try.f74 3)) (canon (E74.keep 3))  n (tabl [(0, (.v (.v false [(.sh 30 x0)]))), (6, (.v (.v false [(.own 0)]))), (8, (.v (.v false [(.i .i64 x1)]))), (1, (.o (.row 25 true x2)))]) K = Pu.laws_toEntryS.l3 N (fun y0 y1 y2 => (K (.exit 0) (tabl [(0, (.v (.v false [(.sh 30 y0)]))), (6, (.v (.v false [(.own 0)]))), (8, (.v (.v false [(.i .i64 y1)]))), (1, (.o (.row 25 true y2)))]))) n x0 x1 x2) := by
  intro n
  induction n with
  | zero => exact (fun _ _ _ => rfl)
  | succ n ih =>
    have e0 : (fun x0 x1 x2 => iter (exc E74 (it74 N) (loopOf Try.f74 3)) (canon (E74.keep 3))  n (tabl [(0, (.v (.v false [(.sh 30 x0)]))), (6, (.v (.v false [(.own 0)]))), (8, (.v (.v false [(.i .i64 x1)]))), (1, (.o (.row 25 true x2)))]) K) = Pu.laws_toEntryS.l3 N (fun y0 y1 y2 => (K (.exit 0) (tabl [(0, (.v (.v false [(.sh 30 y0)]))), (6, (.v (.v false [(.own 0)]))), (8, (.v (.v false [(.i .i64 y1)]))), (1, (.o (.row 25 true y2)))]))) n := by funext x0 x1 x2; exact ih x0 x1 x2
    intro x0 x1 x2
    have h : ∀ g, exc E74 (it74 N) (loopOf Try.f74 3) (tabl [(0, (.v (.v false [(.sh 30 x0)]))), (6, (.v (.v false [(.own 0)]))), (8, (.v (.v false [(.i .i64 x1)]))), (1, (.o (.row 25 true x2)))]) (iterK g (canon (E74.keep 3)) K) = Pu.laws_toEntryS.r3 N (fun x0 x1 x2 => (g (tabl [(0, (.v (.v false [(.sh 30 x0)]))), (6, (.v (.v false [(.own 0)]))), (8, (.v (.v false [(.i .i64 x1)]))), (1, (.o (.row 25 true x2)))]))) (fun y0 y1 y2 => (K (.exit 0) (tabl [(0, (.v (.v false [(.sh 30 y0)]))), (6, (.v (.v false [(.own 0)]))), (8, (.v (.v false [(.i .i64 y1)]))), (1, (.o (.row 25 true y2)))]))) x0 x1 x2 := by intro g; kernel_rfl
    refine (h _).trans ?_
    show Pu.laws_toEntryS.r3 N (fun x0 x1 x2 => (iter (exc E74 (it74 N) (loopOf Try.f74 3)) (canon (E74.keep 3))  n (tabl [(0, (.v (.v false [(.sh 30 x0)]))), (6, (.v (.v false [(.own 0)]))), (8, (.v (.v false [(.i .i64 x1)]))), (1, (.o (.row 25 true x2)))]) K)) (fun y0 y1 y2 => (K (.exit 0) (tabl [(0, (.v (.v false [(.sh 30 y0)]))), (6, (.v (.v false [(.own 0)]))), (8, (.v (.v false [(.i .i64 y1)]))), (1, (.o (.row 25 true y2)))]))) x0 x1 x2 = _
    rw [e0]; rfl
theorem lo74_3 {R : Type} (N : Nat) : LoopOk E74 (it74 N (R := R)) (loopOf Try.f74 3) := by
  have e : firstRid (loopOf Try.f74 3) = 3 := by kernel_rfl
  intro L K r
  rw [e]
  intro h
  unfold it74 at h
  simp only [show Nat.beq 3 3 = true from rfl, cond_false, cond_true] at h
  refine tell_ok (Q := fun L => ∃ n, iter (exc E74 (it74 N) (loopOf Try.f74 3)) (canon (E74.keep 3)) n (tabl L) K = some r) h (fun xs h => ?_) (fun h => ?_)
  · (try dsimp only at h)
    split at h
    · exact ⟨N, ((e74_3 N K N) _ _ _).trans h⟩
    · cases h
  cases h
def sp74 : List Arg → Option (Bool × Res)
  | [(.v false [(.sh 30 a0)])] => some (Pu.laws_toEntryS.c a0, ⟨[(.v false [(.ow 25 true (Pu.laws_toEntryS.v a0))])], []⟩)
  | _ => none
theorem ok74 : FnOk Try.prog T 74 sp74 := by
  refine fn_ok (E := E74) hE (call_cons ok22 call_nil) hM Try.func74 (code := (Try.f74.body.getD .skip)) (by kernel_rfl) (by kernel_rfl) ?_
  have key : ∀ (a0 : Row), Pu.laws_toEntryS.c a0 = true → ∃ it : It Res, (∀ c ∈ loopsOf (Try.f74.body.getD .skip), LoopOk E74 it c) ∧ body E74 it Try.f74 [(.v false [(.sh 30 a0)])] = some ⟨[(.v false [(.ow 25 true (Pu.laws_toEntryS.v a0))])], []⟩ := by
    intro a0  h1
    obtain ⟨N, hN⟩ := Pu.laws_toEntryS.b_eq (R := Res) (fun r0 => some ⟨[(.v false [(.ow 25 true r0)])], []⟩) a0 h1
    have hl : loopsOf (Try.f74.body.getD .skip) = [loopOf Try.f74 3] := by kernel_rfl
    refine ⟨it74 N, by rw [hl]; exact (loops_cons (lo74_3 N) loops_nil), ?_⟩
    refine Eq.trans (show body E74 (it74 N) Try.f74 [(.v false [(.sh 30 a0)])] = Pu.laws_toEntryS.b N (fun r0 => some ⟨[(.v false [(.ow 25 true r0)])], []⟩) a0 by kernel_rfl) hN
  intro args r h
  unfold sp74 at h
  split at h
  · injection h with h
    injection h with h1 h2
    subst h2
    exact ⟨by kernel_rfl, fun hf => ⟨of_decide_eq_true (by kernel_rfl), key _ h1⟩⟩
  · cases h

end Go.FG.Se

namespace Go.FG.Se
open Go.Proofs
def E193 : Env := { toTab := T, call := Go.FG.callIn [], mode := Go.FG.modeIn md, keep := Go.FG.keepIn [(3, [0, 3, 4])], tk := fun n => Go.FG.memB n [], om := Go.FG.omIn [] }
def it193 (N : Nat) {R : Type} : It R := fun rid f cn L K => bif Nat.beq rid 3 then (tell [(0, (.v (.v false [(.sh 9 [])]))), (6, (.v (.v false [(.own 0)]))), (8, (.v (.v false [(.i .i64 0)]))), (1, (.o (.row 9 true [])))] (fun | [.R x0, .I x1, .R x2] => Pu.laws_toStringS.l3 N (fun y0 y1 y2 => (K (.exit 0) (tabl [(0, (.v (.v false [(.sh 9 y0)]))), (6, (.v (.v false [(.own 0)]))), (8, (.v (.v false [(.i .i64 y1)]))), (1, (.o (.row 9 true y2)))]))) N x0 x1 x2 | _ => none) L (none)) else none
theorem e193_3 {R : Type} (N : Nat) (K : Ex → St → Option R) : ∀ n : Nat, (∀ x0 x1 x2, iter (exc E193 (it193 N) (loopOf Try.f193 3)) (canon (E193.keep 3))  n (tabl [(0, (.v (.v false [(.sh 9 x0)]))), (6, (.v (.v false [(.own 0)]))), (8, (.v (.v false [(.i .i64 x1)]))), (1, (.o (.row 9 true x2)))]) K = Pu.laws_toStringS.l3 N (fun y0 y1 y2 => (K (.exit 0) (tabl [(0, (.v (.v false [(.sh 9 y0)]))), (6, (.v (.v false [(.own 0)]))), (8, (.v (.v false [(.i .i64 y1)]))), (1, (.o (.row 9 true y2)))]))) n x0 x1 x2) := by
  intro n
  induction n with
  | zero => exact (fun _ _ _ => rfl)
  | succ n ih =>
    have e0 : (fun x0 x1 x2 => iter (exc E193 (it193 N) (loopOf Try.f193 3)) (canon (E193.keep 3))  n (tabl [(0, (.v (.v false [(.sh 9 x0)]))), (6, (.v (.v false [(.own 0)]))), (8, (.v (.v false [(.i .i64 x1)]))), (1, (.o (.row 9 true x2)))]) K) = Pu.laws_toStringS.l3 N (fun y0 y1 y2 => (K (.exit 0) (tabl [(0, (.v (.v false [(.sh 9 y0)]))), (6, (.v (.v false [(.own 0)]))), (8, (.v (.v false [(.i .i64 y1)]))), (1, (.o (.row 9 true y2)))]))) n := by funext x0 x1 x2; exact ih x0 x1 x2
    intro x0 x1 x2
    have h : ∀ g, exc E193 (it193 N) (loopOf Try.f193 3) (tabl [(0, (.v (.v false [(.sh 9 x0)]))), (6, (.v (.v false [(.own 0)]))), (8, (.v (.v false [(.i .i64 x1)]))), (1, (.o (.row 9 true x2)))]) (iterK g (canon (E193.keep 3)) K) = Pu.laws_toStringS.r3 N (fun x0 x1 x2 => (g (tabl [(0, (.v (.v false [(.sh 9 x0)]))), (6, (.v (.v false [(.own 0)]))), (8, (.v (.v false [(.i .i64 x1)]))), (1, (.o (.row 9 true x2)))]))) (fun y0 y1 y2 => (K (.exit 0) (tabl [(0, (.v (.v false [(.sh 9 y0)]))), (6, (.v (.v false [(.own 0)]))), (8, (.v (.v false [(.i .i64 y1)]))), (1, (.o (.row 9 true y2)))]))) x0 x1 x2 := by intro g; kernel_rfl
    refine (h _).trans ?_
    show Pu.laws_toStringS.r3 N (fun x0 x1 x2 => (iter (exc E193 (it193 N) (loopOf Try.f193 3)) (canon (E193.keep 3))  n (tabl [(0, (.v (.v false [(.sh 9 x0)]))), (6, (.v (.v false [(.own 0)]))), (8, (.v (.v false [(.i .i64 x1)]))), (1, (.o (.row 9 true x2)))]) K)) (fun y0 y1 y2 => (K (.exit 0) (tabl [(0, (.v (.v false [(.sh 9 y0)]))), (6, (.v (.v false [(.own 0)]))), (8, (.v (.v false [(.i .i64 y1)]))), (1, (.o (.row 9 true y2)))]))) x0 x1 x2 = _
    rw [e0]; rfl
theorem lo193_3 {R : Type} (N : Nat) : LoopOk E193 (it193 N (R := R)) (loopOf Try.f193 3) := by
  have e : firstRid (loopOf Try.f193 3) = 3 := by kernel_rfl
  intro L K r
  rw [e]
  intro h
  unfold it193 at h
  simp only [show Nat.beq 3 3 = true from rfl, cond_false, cond_true] at h
  refine tell_ok (Q := fun L => ∃ n, iter (exc E193 (it193 N) (loopOf Try.f193 3)) (canon (E193.keep 3)) n (tabl L) K = some r) h (fun xs h => ?_) (fun h => ?_)
  · (try dsimp only at h)
    split at h
    · exact ⟨N, ((e193_3 N K N) _ _ _).trans h⟩
    · cases h
  cases h
def sp193 : List Arg → Option (Bool × Res)
  | [(.v false [(.sh 9 a0)])] => some (Pu.laws_toStringS.c a0, ⟨[(.v false [(.ow 9 true (Pu.laws_toStringS.v a0))])], []⟩)
  | _ => none
theorem ok193 : FnOk Try.prog T 193 sp193 := by
  refine fn_ok (E := E193) hE call_nil hM Try.func193 (code := (Try.f193.body.getD .skip)) (by kernel_rfl) (by kernel_rfl) ?_
  have key : ∀ (a0 : Row), Pu.laws_toStringS.c a0 = true → ∃ it : It Res, (∀ c ∈ loopsOf (Try.f193.body.getD .skip), LoopOk E193 it c) ∧ body E193 it Try.f193 [(.v false [(.sh 9 a0)])] = some ⟨[(.v false [(.ow 9 true (Pu.laws_toStringS.v a0))])], []⟩ := by
    intro a0  h1
    obtain ⟨N, hN⟩ := Pu.laws_toStringS.b_eq (R := Res) (fun r0 => some ⟨[(.v false [(.ow 9 true r0)])], []⟩) a0 h1
    have hl : loopsOf (Try.f193.body.getD .skip) = [loopOf Try.f193 3] := by kernel_rfl
    refine ⟨it193 N, by rw [hl]; exact (loops_cons (lo193_3 N) loops_nil), ?_⟩
    refine Eq.trans (show body E193 (it193 N) Try.f193 [(.v false [(.sh 9 a0)])] = Pu.laws_toStringS.b N (fun r0 => some ⟨[(.v false [(.ow 9 true r0)])], []⟩) a0 by kernel_rfl) hN
  intro args r h
  unfold sp193 at h
  split at h
  · injection h with h
    injection h with h1 h2
    subst h2
    exact ⟨by kernel_rfl, fun hf => ⟨of_decide_eq_true (by kernel_rfl), key _ h1⟩⟩
  · cases h

end Go.FG.Se

namespace Go.FG.Se
open Go.Proofs
def E158 : Env := { toTab := T, call := Go.FG.callIn [], mode := Go.FG.modeIn md, keep := Go.FG.keepIn [(3, [0, 3, 4])], tk := fun n => Go.FG.memB n [], om := Go.FG.omIn [] }
def it158 (N : Nat) {R : Type} : It R := fun rid f cn L K => bif Nat.beq rid 3 then (tell [(0, (.v (.v false [(.sh 3 [])]))), (6, (.v (.v false [(.own 0)]))), (8, (.v (.v false [(.i .i64 0)]))), (1, (.o (.row 3 true [])))] (fun | [.R x0, .I x1, .R x2] => Pu.laws_toIntS.l3 N (fun y0 y1 y2 => (K (.exit 0) (tabl [(0, (.v (.v false [(.sh 3 y0)]))), (6, (.v (.v false [(.own 0)]))), (8, (.v (.v false [(.i .i64 y1)]))), (1, (.o (.row 3 true y2)))]))) N x0 x1 x2 | _ => none) L (none)) else none
theorem e158_3 {R : Type} (N : Nat) (K : Ex → St → Option R) : ∀ n : Nat, (∀ x0 x1 x2, iter (exc E158 (it158 N) (loopOf Try.f158 3)) (canon (E158.keep 3))  n (tabl [(0, (.v (.v false [(.sh 3 x0)]))), (6, (.v (.v false [(.own 0)]))), (8, (.v (.v false [(.i .i64 x1)]))), (1, (.o (.row 3 true x2)))]) K = Pu.laws_toIntS.l3 N (fun y0 y1 y2 => (K (.exit 0) (tabl [(0, (.v (.v false [(.sh 3 y0)]))), (6, (.v (.v false [(.own 0)]))), (8, (.v (.v false [(.i .i64 y1)]))), (1, (.o (.row 3 true y2)))]))) n x0 x1 x2) := by
  intro n
  induction n with
  | zero => exact (fun _ _ _ => rfl)
  | succ n ih =>
    have e0 : (fun x0 x1 x2 => iter (exc E158 (it158 N) (loopOf Try.f158 3)) (canon (E158.keep 3))  n (tabl [(0, (.v (.v false [(.sh 3 x0)]))), (6, (.v (.v false [(.own 0)]))), (8, (.v (.v false [(.i .i64 x1)]))), (1, (.o (.row 3 true x2)))]) K) = Pu.laws_toIntS.l3 N (fun y0 y1 y2 => (K (.exit 0) (tabl [(0, (.v (.v false [(.sh 3 y0)]))), (6, (.v (.v false [(.own 0)]))), (8, (.v (.v false [(.i .i64 y1)]))), (1, (.o (.row 3 true y2)))]))) n := by funext x0 x1 x2; exact ih x0 x1 x2
    intro x0 x1 x2
    have h : ∀ g, exc E158 (it158 N) (loopOf Try.f158 3) (tabl [(0, (.v (.v false [(.sh 3 x0)]))), (6, (.v (.v false [(.own 0)]))), (8, (.v (.v false [(.i .i64 x1)]))), (1, (.o (.row 3 true x2)))]) (iterK g (canon (E158.keep 3)) K) = Pu.laws_toIntS.r3 N (fun x0 x1 x2 => (g (tabl [(0, (.v (.v false [(.sh 3 x0)]))), (6, (.v (.v false [(.own 0)]))), (8, (.v (.v false [(.i .i64 x1)]))), (1, (.o (.row 3 true x2)))]))) (fun y0 y1 y2 => (K (.exit 0) (tabl [(0, (.v (.v false [(.sh 3 y0)]))), (6, (.v (.v false [(.own 0)]))), (8, (.v (.v false [(.i .i64 y1)]))), (1, (.o (.row 3 true y2)))]))) x0 x1 x2 := by intro g; kernel_rfl
    refine (h _).trans ?_
    show Pu.laws_toIntS.r3 N (fun x0 x1 x2 => (iter (exc E158 (it158 N) (loopOf Try.f158 3)) (canon (E158.keep 3))  n (tabl [(0, (.v (.v false [(.sh 3 x0)]))), (6, (.v (.v false [(.own 0)]))), (8, (.v (.v false [(.i .i64 x1)]))), (1, (.o (.row 3 true x2)))]) K)) (fun y0 y1 y2 => (K (.exit 0) (tabl [(0, (.v (.v false [(.sh 3 y0)]))), (6, (.v (.v false [(.own 0)]))), (8, (.v (.v false [(.i .i64 y1)]))), (1, (.o (.row 3 true y2)))]))) x0 x1 x2 = _
    rw [e0]; rfl
theorem lo158_3 {R : Type} (N : Nat) : LoopOk E158 (it158 N (R := R)) (loopOf Try.f158 3) := by
  have e : firstRid (loopOf Try.f158 3) = 3 := by kernel_rfl
  intro L K r
  rw [e]
  intro h
  unfold it158 at h
  simp only [show Nat.beq 3 3 = true from rfl, cond_false, cond_true] at h
  refine tell_ok (Q := fun L => ∃ n, iter (exc E158 (it158 N) (loopOf Try.f158 3)) (canon (E158.keep 3)) n (tabl L) K = some r) h (fun xs h => ?_) (fun h => ?_)
  · (try dsimp only at h)
    split at h
    · exact ⟨N, ((e158_3 N K N) _ _ _).trans h⟩
    · cases h
  cases h
def sp158 : List Arg → Option (Bool × Res)
  | [(.v false [(.sh 3 a0)])] => some (Pu.laws_toIntS.c a0, ⟨[(.v false [(.ow 3 true (Pu.laws_toIntS.v a0))])], []⟩)
  | _ => none
theorem ok158 : FnOk Try.prog T 158 sp158 := by
  refine fn_ok (E := E158) hE call_nil hM Try.func158 (code := (Try.f158.body.getD .skip)) (by kernel_rfl) (by kernel_rfl) ?_
  have key : ∀ (a0 : Row), Pu.laws_toIntS.c a0 = true → ∃ it : It Res, (∀ c ∈ loopsOf (Try.f158.body.getD .skip), LoopOk E158 it c) ∧ body E158 it Try.f158 [(.v false [(.sh 3 a0)])] = some ⟨[(.v false [(.ow 3 true (Pu.laws_toIntS.v a0))])], []⟩ := by
    intro a0  h1
    obtain ⟨N, hN⟩ := Pu.laws_toIntS.b_eq (R := Res) (fun r0 => some ⟨[(.v false [(.ow 3 true r0)])], []⟩) a0 h1
    have hl : loopsOf (Try.f158.body.getD .skip) = [loopOf Try.f158 3] := by kernel_rfl
    refine ⟨it158 N, by rw [hl]; exact (loops_cons (lo158_3 N) loops_nil), ?_⟩
    refine Eq.trans (show body E158 (it158 N) Try.f158 [(.v false [(.sh 3 a0)])] = Pu.laws_toIntS.b N (fun r0 => some ⟨[(.v false [(.ow 3 true r0)])], []⟩) a0 by kernel_rfl) hN
  intro args r h
  unfold sp158 at h
  split at h
  · injection h with h
    injection h with h1 h2
    subst h2
    exact ⟨by kernel_rfl, fun hf => ⟨of_decide_eq_true (by kernel_rfl), key _ h1⟩⟩
  · cases h

end Go.FG.Se

namespace Go.FG.Se
open Go.Proofs
def E215 : Env := { toTab := T, call := Go.FG.callIn [(158, sp158)], mode := Go.FG.modeIn md, keep := Go.FG.keepIn [(3, [0, 3, 4])], tk := fun n => Go.FG.memB n [], om := Go.FG.omIn [] }
def it215 (N : Nat) {R : Type} : It R := fun rid f cn L K => bif Nat.beq rid 3 then (tell [(0, (.v (.v false [(.sh 49 [])]))), (6, (.v (.v false [(.own 999)]))), (8, (.v (.v false [(.i .i64 0)]))), (1999, (.o (.row 49 true [])))] (fun | [.R x0, .I x1, .R x2] => Pu.laws_toIntSS.l3 N (fun y0 y1 y2 => (K (.exit 0) (tabl [(0, (.v (.v false [(.sh 49 y0)]))), (6, (.v (.v false [(.own 999)]))), (8, (.v (.v false [(.i .i64 y1)]))), (1999, (.o (.row 49 true y2)))]))) N x0 x1 x2 | _ => none) L (none)) else none
theorem e215_3 {R : Type} (N : Nat) (K : Ex → St → Option R) : ∀ n : Nat, (∀ x0 x1 x2, iter (exc E215 (it215 N) (loopOf Try.f215 3)) (canon (E215.keep 3))  n (tabl [(0, (.v (.v false [(.sh 49 x0)]))), (6, (.v (.v false [(.own 999)]))), (8, (.v (.v false [(.i .i64 x1)]))), (1999, (.o (.row 49 true x2)))]) K = Pu.laws_toIntSS.l3 N (fun y0 y1 y2 => (K (.exit 0) (tabl [(0, (.v (.v false [(.sh 49 y0)]))), (6, (.v (.v false [(.own 999)]))), (8, (.v (.v false [(.i .i64 y1)]))), (1999, (.o (.row 49 true y2)))]))) n x0 x1 x2) := by
  intro n
  induction n with
  | zero => exact (fun _ _ _ => rfl)
  | succ n ih =>
    have e0 : (fun x0 x1 x2 => iter (exc E215 (it215 N) (loopOf Try.f215 3)) (canon (E215.keep 3))  n (tabl [(0, (.v (.v false [(.sh 49 x0)]))), (6, (.v (.v false [(.own 999)]))), (8, (.v (.v false [(.i .i64 x1)]))), (1999, (.o (.row 49 true x2)))]) K) = Pu.laws_toIntSS.l3 N (fun y0 y1 y2 => (K (.exit 0) (tabl [(0, (.v (.v false [(.sh 49 y0)]))), (6, (.v (.v false [(.own 999)]))), (8, (.v (.v false [(.i .i64 y1)]))), (1999, (.o (.row 49 true y2)))]))) n := by funext x0 x1 x2; exact ih x0 x1 x2
    intro x0 x1 x2
    have h : ∀ g, exc E215 (it215 N) (loopOf Try.f215 3) (tabl [(0, (.v (.v false [(.sh 49 x0)]))), (6, (.v (.v false [(.own 999)]))), (8, (.v (.v false [(.i .i64 x1)]))), (1999, (.o (.row 49 true x2)))]) (iterK g (canon (E215.keep 3)) K) = Pu.laws_toIntSS.r3 N (fun x0 x1 x2 => (g (tabl [(0, (.v (.v false [(.sh 49 x0)]))), (6, (.v (.v false [(.own 999)]))), (8, (.v (.v false [(.i .i64 x1)]))), (1999, (.o (.row 49 true x2)))]))) (fun y0 y1 y2 => (K (.exit 0) (tabl [(0, (.v (.v false [(.sh 49 y0)]))), (6, (.v (.v false [(.own 999)]))), (8, (.v (.v false [(.i .i64 y1)]))), (1999, (.o (.row 49 true y2)))]))) x0 x1 x2 := by intro g; kernel_rfl
    refine (h _).trans ?_
    show Pu.laws_toIntSS.r3 N (fun x0 x1 x2 => (iter (exc E215 (it215 N) (loopOf Try.f215 3)) (canon (E215.keep 3))  n (tabl [(0, (.v (.v false [(.sh 49 x0)]))), (6, (.v (.v false [(.own 999)]))), (8, (.v (.v false [(.i .i64 x1)]))), (1999, (.o (.row 49 true x2)))]) K)) (fun y0 y1 y2 => (K (.exit 0) (tabl [(0, (.v (.v false [(.sh 49 y0)]))), (6, (.v (.v false [(.own 999)]))), (8, (.v (.v false [(.i .i64 y1)]))), (1999, (.o (.row 49 true y2)))]))) x0 x1 x2 = _
    rw [e0]; rfl
theorem lo215_3 {R : Type} (N : Nat) : LoopOk E215 (it215 N (R := R)) (loopOf Try.f215 3) := by
  have e : firstRid (loopOf Try.f215 3) = 3 := by kernel_rfl
  intro L K r
  rw [e]
  intro h
  unfold it215 at h
  simp only [show Nat.beq 3 3 = true from rfl, cond_false, cond_true] at h
  refine tell_ok (Q := fun L => ∃ n, iter (exc E215 (it215 N) (loopOf Try.f215 3)) (canon (E215.keep 3)) n (tabl L) K = some r) h (fun xs h => ?_) (fun h => ?_)
  · (try dsimp only at h)
    split at h
    · exact ⟨N, ((e215_3 N K N) _ _ _).trans h⟩
    · cases h
  cases h
def sp215 : List Arg → Option (Bool × Res)
  | [(.v false [(.sh 49 a0)])] => some (Pu.laws_toIntSS.c a0, ⟨[(.v false [(.ow 49 true (Pu.laws_toIntSS.v a0))])], []⟩)
  | _ => none
theorem ok215 : FnOk Try.prog T 215 sp215 := by
  refine fn_ok (E := E215) hE (call_cons ok158 call_nil) hM Try.func215 (code := (Try.f215.body.getD .skip)) (by kernel_rfl) (by kernel_rfl) ?_
  have key : ∀ (a0 : Row), Pu.laws_toIntSS.c a0 = true → ∃ it : It Res, (∀ c ∈ loopsOf (Try.f215.body.getD .skip), LoopOk E215 it c) ∧ body E215 it Try.f215 [(.v false [(.sh 49 a0)])] = some ⟨[(.v false [(.ow 49 true (Pu.laws_toIntSS.v a0))])], []⟩ := by
    intro a0  h1
    obtain ⟨N, hN⟩ := Pu.laws_toIntSS.b_eq (R := Res) (fun r0 => some ⟨[(.v false [(.ow 49 true r0)])], []⟩) a0 h1
    have hl : loopsOf (Try.f215.body.getD .skip) = [loopOf Try.f215 3] := by kernel_rfl
    refine ⟨it215 N, by rw [hl]; exact (loops_cons (lo215_3 N) loops_nil), ?_⟩
    refine Eq.trans (show body E215 (it215 N) Try.f215 [(.v false [(.sh 49 a0)])] = Pu.laws_toIntSS.b N (fun r0 => some ⟨[(.v false [(.ow 49 true r0)])], []⟩) a0 by kernel_rfl) hN
  intro args r h
  unfold sp215 at h
  split at h
  · injection h with h
    injection h with h1 h2
    subst h2
    exact ⟨by kernel_rfl, fun hf => ⟨of_decide_eq_true (by kernel_rfl), key _ h1⟩⟩
  · cases h

end Go.FG.Se

namespace Go.FG.Se
open Go.Proofs
def E194 : Env := { toTab := T, call := Go.FG.callIn [(215, sp215)], mode := Go.FG.modeIn md, keep := Go.FG.keepIn [], tk := fun n => Go.FG.memB n [], om := Go.FG.omIn [] }
def sp194 : List Arg → Option (Bool × Res)
  | [(.v true [(.sh 49 a0_0), (.i .i64 a0_1)])] => some (Pu.laws_toSketch.c a0_0 a0_1, ⟨[(.v true [(.ow 49 true ((Pu.laws_toSketch.v a0_0 a0_1).1)), (.i .i64 ((Pu.laws_toSketch.v a0_0 a0_1).2))])], []⟩)
  | _ => none
theorem ok194 : FnOk Try.prog T 194 sp194 := by
  refine fn_ok (E := E194) hE (call_cons ok215 call_nil) hM Try.func194 (code := (Try.f194.body.getD .skip)) (by kernel_rfl) (by kernel_rfl) ?_
  have key : ∀ (a0_0 : Row) (a0_1 : Int), Pu.laws_toSketch.c a0_0 a0_1 = true → ∃ it : It Res, (∀ c ∈ loopsOf (Try.f194.body.getD .skip), LoopOk E194 it c) ∧ body E194 it Try.f194 [(.v true [(.sh 49 a0_0), (.i .i64 a0_1)])] = some ⟨[(.v true [(.ow 49 true ((Pu.laws_toSketch.v a0_0 a0_1).1)), (.i .i64 ((Pu.laws_toSketch.v a0_0 a0_1).2))])], []⟩ := by
    intro a0_0 a0_1  h1
    have hN := Pu.laws_toSketch.b_eq (R := Res) (fun r0 r1 => some ⟨[(.v true [(.ow 49 true r0), (.i .i64 r1)])], []⟩) a0_0 a0_1 h1
    have hl : loopsOf (Try.f194.body.getD .skip) = [] := by kernel_rfl
    refine ⟨iterN 0, by rw [hl]; exact loops_nil, ?_⟩
    refine Eq.trans (show body E194 (iterN 0) Try.f194 [(.v true [(.sh 49 a0_0), (.i .i64 a0_1)])] = Pu.laws_toSketch.b (fun r0 r1 => some ⟨[(.v true [(.ow 49 true r0), (.i .i64 r1)])], []⟩) a0_0 a0_1 by kernel_rfl) hN
  intro args r h
  unfold sp194 at h
  split at h
  · injection h with h
    injection h with h1 h2
    subst h2
    exact ⟨by kernel_rfl, fun hf => ⟨of_decide_eq_true (by kernel_rfl), key _ _ h1⟩⟩
  · cases h

end Go.FG.Se

namespace Go.FG.Se
open Go.Proofs
def E143 : Env := { toTab := T, call := Go.FG.callIn [(193, sp193), (194, sp194)], mode := Go.FG.modeIn md, keep := Go.FG.keepIn [], tk := fun n => Go.FG.memB n [], om := Go.FG.omIn [] }
def sp143 : List Arg → Option (Bool × Res)
  | [(.v true [(.sh 9 a0_0), (.sh 9 a0_1), (.sh 49 a0_2), (.i .i64 a0_3)])] => some (Pu.laws_toPolicy.c a0_0 a0_1 a0_2 a0_3, ⟨[(.v true [(.ow 9 true ((Pu.laws_toPolicy.v a0_0 a0_1 a0_2 a0_3).1)), (.ow 9 true ((Pu.laws_toPolicy.v a0_0 a0_1 a0_2 a0_3).2.1)), (.ow 49 true ((Pu.laws_toPolicy.v a0_0 a0_1 a0_2 a0_3).2.2.1)), (.i .i64 ((Pu.laws_toPolicy.v a0_0 a0_1 a0_2 a0_3).2.2.2))])], []⟩)
  | _ => none
theorem ok143 : FnOk Try.prog T 143 sp143 := by
  refine fn_ok (E := E143) hE (call_cons ok193 (call_cons ok194 call_nil)) hM Try.func143 (code := (Try.f143.body.getD .skip)) (by kernel_rfl) (by kernel_rfl) ?_
  have key : ∀ (a0_0 : Row) (a0_1 : Row) (a0_2 : Row) (a0_3 : Int), Pu.laws_toPolicy.c a0_0 a0_1 a0_2 a0_3 = true → ∃ it : It Res, (∀ c ∈ loopsOf (Try.f143.body.getD .skip), LoopOk E143 it c) ∧ body E143 it Try.f143 [(.v true [(.sh 9 a0_0), (.sh 9 a0_1), (.sh 49 a0_2), (.i .i64 a0_3)])] = some ⟨[(.v true [(.ow 9 true ((Pu.laws_toPolicy.v a0_0 a0_1 a0_2 a0_3).1)), (.ow 9 true ((Pu.laws_toPolicy.v a0_0 a0_1 a0_2 a0_3).2.1)), (.ow 49 true ((Pu.laws_toPolicy.v a0_0 a0_1 a0_2 a0_3).2.2.1)), (.i .i64 ((Pu.laws_toPolicy.v a0_0 a0_1 a0_2 a0_3).2.2.2))])], []⟩ := by
    intro a0_0 a0_1 a0_2 a0_3  h1
    have hN := Pu.laws_toPolicy.b_eq (R := Res) (fun r0 r1 r2 r3 => some ⟨[(.v true [(.ow 9 true r0), (.ow 9 true r1), (.ow 49 true r2), (.i .i64 r3)])], []⟩) a0_0 a0_1 a0_2 a0_3 h1
    have hl : loopsOf (Try.f143.body.getD .skip) = [] := by kernel_rfl
    refine ⟨iterN 0, by rw [hl]; exact loops_nil, ?_⟩
    refine Eq.trans (show body E143 (iterN 0) Try.f143 [(.v true [(.sh 9 a0_0), (.sh 9 a0_1), (.sh 49 a0_2), (.i .i64 a0_3)])] = Pu.laws_toPolicy.b (fun r0 r1 r2 r3 => some ⟨[(.v true [(.ow 9 true r0), (.ow 9 true r1), (.ow 49 true r2), (.i .i64 r3)])], []⟩) a0_0 a0_1 a0_2 a0_3 by kernel_rfl) hN
  intro args r h
  unfold sp143 at h
  split at h
  · injection h with h
    injection h with h1 h2
    subst h2
    exact ⟨by kernel_rfl, fun hf => ⟨of_decide_eq_true (by kernel_rfl), key _ _ _ _ h1⟩⟩
  · cases h

end Go.FG.Se

namespace Go.FG.Se
open Go.Proofs
def E195 : Env := { toTab := T, call := Go.FG.callIn [], mode := Go.FG.modeIn md, keep := Go.FG.keepIn [], tk := fun n => Go.FG.memB n [], om := Go.FG.omIn [] }
def sp195 : List Arg → Option (Bool × Res)
  | [(.v true [(.s a0_0), (.s a0_1), (.i .i64 a0_2), (.i .i64 a0_3), (.i .i64 a0_4)])] => some (true, ⟨[(.v true [(.s ((Pu.laws_toFetch.v a0_0 a0_1 a0_2 a0_3 a0_4).1)), (.s ((Pu.laws_toFetch.v a0_0 a0_1 a0_2 a0_3 a0_4).2.1)), (.i .i64 ((Pu.laws_toFetch.v a0_0 a0_1 a0_2 a0_3 a0_4).2.2.1)), (.i .i64 ((Pu.laws_toFetch.v a0_0 a0_1 a0_2 a0_3 a0_4).2.2.2.1)), (.i .i64 ((Pu.laws_toFetch.v a0_0 a0_1 a0_2 a0_3 a0_4).2.2.2.2))])], []⟩)
  | _ => none
theorem ok195 : FnOk Try.prog T 195 sp195 := by
  refine fn_ok (E := E195) hE call_nil hM Try.func195 (code := (Try.f195.body.getD .skip)) (by kernel_rfl) (by kernel_rfl) ?_
  have key : ∀ (a0_0 : ByteArray) (a0_1 : ByteArray) (a0_2 : Int) (a0_3 : Int) (a0_4 : Int), ∃ it : It Res, (∀ c ∈ loopsOf (Try.f195.body.getD .skip), LoopOk E195 it c) ∧ body E195 it Try.f195 [(.v true [(.s a0_0), (.s a0_1), (.i .i64 a0_2), (.i .i64 a0_3), (.i .i64 a0_4)])] = some ⟨[(.v true [(.s ((Pu.laws_toFetch.v a0_0 a0_1 a0_2 a0_3 a0_4).1)), (.s ((Pu.laws_toFetch.v a0_0 a0_1 a0_2 a0_3 a0_4).2.1)), (.i .i64 ((Pu.laws_toFetch.v a0_0 a0_1 a0_2 a0_3 a0_4).2.2.1)), (.i .i64 ((Pu.laws_toFetch.v a0_0 a0_1 a0_2 a0_3 a0_4).2.2.2.1)), (.i .i64 ((Pu.laws_toFetch.v a0_0 a0_1 a0_2 a0_3 a0_4).2.2.2.2))])], []⟩ := by
    intro a0_0 a0_1 a0_2 a0_3 a0_4 
    have hN := Pu.laws_toFetch.b_eq (R := Res) (fun r0 r1 r2 r3 r4 => some ⟨[(.v true [(.s r0), (.s r1), (.i .i64 r2), (.i .i64 r3), (.i .i64 r4)])], []⟩) a0_0 a0_1 a0_2 a0_3 a0_4
    have hl : loopsOf (Try.f195.body.getD .skip) = [] := by kernel_rfl
    refine ⟨iterN 0, by rw [hl]; exact loops_nil, ?_⟩
    refine Eq.trans (show body E195 (iterN 0) Try.f195 [(.v true [(.s a0_0), (.s a0_1), (.i .i64 a0_2), (.i .i64 a0_3), (.i .i64 a0_4)])] = Pu.laws_toFetch.b (fun r0 r1 r2 r3 r4 => some ⟨[(.v true [(.s r0), (.s r1), (.i .i64 r2), (.i .i64 r3), (.i .i64 r4)])], []⟩) a0_0 a0_1 a0_2 a0_3 a0_4 by kernel_rfl) hN
  intro args r h
  unfold sp195 at h
  split at h
  · injection h with h
    injection h with h1 h2
    subst h2
    exact ⟨by kernel_rfl, fun hf => ⟨of_decide_eq_true (by kernel_rfl), key _ _ _ _ _⟩⟩
  · cases h

end Go.FG.Se

namespace Go.FG.Se
open Go.Proofs
def E144 : Env := { toTab := T, call := Go.FG.callIn [(195, sp195)], mode := Go.FG.modeIn md, keep := Go.FG.keepIn [(3, [0, 3, 4])], tk := fun n => Go.FG.memB n [], om := Go.FG.omIn [] }
def it144 (N : Nat) {R : Type} : It R := fun rid f cn L K => bif Nat.beq rid 3 then (tell [(0, (.v (.v false [(.sh 219 [])]))), (6, (.v (.v false [(.own 0)]))), (8, (.v (.v false [(.i .i64 0)]))), (1, (.o (.row 175 true [])))] (fun | [.R x0, .I x1, .R x2] => Pu.laws_toFetchS.l3 N (fun y0 y1 y2 => (K (.exit 0) (tabl [(0, (.v (.v false [(.sh 219 y0)]))), (6, (.v (.v false [(.own 0)]))), (8, (.v (.v false [(.i .i64 y1)]))), (1, (.o (.row 175 true y2)))]))) N x0 x1 x2 | _ => none) L (none)) else none
theorem e144_3 {R : Type} (N : Nat) (K : Ex → St → Option R) : ∀ n : Nat, (∀ x0 x1 x2, iter (exc E144 (it144 N) (loopOf Try.f144 3)) (canon (E144.keep 3))  n (tabl [(0, (.v (.v false [(.sh 219 x0)]))), (6, (.v (.v false [(.own 0)]))), (8, (.v (.v false [(.i .i64 x1)]))), (1, (.o (.row 175 true x2)))]) K = Pu.laws_toFetchS.l3 N (fun y0 y1 y2 => (K (.exit 0) (tabl [(0, (.v (.v false [(.sh 219 y0)]))), (6, (.v (.v false [(.own 0)]))), (8, (.v (.v false [(.i .i64 y1)]))), (1, (.o (.row 175 true y2)))]))) n x0 x1 x2) := by
  intro n
  induction n with
  | zero => exact (fun _ _ _ => rfl)
  | succ n ih =>
    have e0 : (fun x0 x1 x2 => iter (exc E144 (it144 N) (loopOf Try.f144 3)) (canon (E144.keep 3))  n (tabl [(0, (.v (.v false [(.sh 219 x0)]))), (6, (.v (.v false [(.own 0)]))), (8, (.v (.v false [(.i .i64 x1)]))), (1, (.o (.row 175 true x2)))]) K) = Pu.laws_toFetchS.l3 N (fun y0 y1 y2 => (K (.exit 0) (tabl [(0, (.v (.v false [(.sh 219 y0)]))), (6, (.v (.v false [(.own 0)]))), (8, (.v (.v false [(.i .i64 y1)]))), (1, (.o (.row 175 true y2)))]))) n := by funext x0 x1 x2; exact ih x0 x1 x2
    intro x0 x1 x2
    have h : ∀ g, exc E144 (it144 N) (loopOf Try.f144 3) (tabl [(0, (.v (.v false [(.sh 219 x0)]))), (6, (.v (.v false [(.own 0)]))), (8, (.v (.v false [(.i .i64 x1)]))), (1, (.o (.row 175 true x2)))]) (iterK g (canon (E144.keep 3)) K) = Pu.laws_toFetchS.r3 N (fun x0 x1 x2 => (g (tabl [(0, (.v (.v false [(.sh 219 x0)]))), (6, (.v (.v false [(.own 0)]))), (8, (.v (.v false [(.i .i64 x1)]))), (1, (.o (.row 175 true x2)))]))) (fun y0 y1 y2 => (K (.exit 0) (tabl [(0, (.v (.v false [(.sh 219 y0)]))), (6, (.v (.v false [(.own 0)]))), (8, (.v (.v false [(.i .i64 y1)]))), (1, (.o (.row 175 true y2)))]))) x0 x1 x2 := by intro g; kernel_rfl
    refine (h _).trans ?_
    show Pu.laws_toFetchS.r3 N (fun x0 x1 x2 => (iter (exc E144 (it144 N) (loopOf Try.f144 3)) (canon (E144.keep 3))  n (tabl [(0, (.v (.v false [(.sh 219 x0)]))), (6, (.v (.v false [(.own 0)]))), (8, (.v (.v false [(.i .i64 x1)]))), (1, (.o (.row 175 true x2)))]) K)) (fun y0 y1 y2 => (K (.exit 0) (tabl [(0, (.v (.v false [(.sh 219 y0)]))), (6, (.v (.v false [(.own 0)]))), (8, (.v (.v false [(.i .i64 y1)]))), (1, (.o (.row 175 true y2)))]))) x0 x1 x2 = _
    rw [e0]; rfl
theorem lo144_3 {R : Type} (N : Nat) : LoopOk E144 (it144 N (R := R)) (loopOf Try.f144 3) := by
  have e : firstRid (loopOf Try.f144 3) = 3 := by kernel_rfl
  intro L K r
  rw [e]
  intro h
  unfold it144 at h
  simp only [show Nat.beq 3 3 = true from rfl, cond_false, cond_true] at h
  refine tell_ok (Q := fun L => ∃ n, iter (exc E144 (it144 N) (loopOf Try.f144 3)) (canon (E144.keep 3)) n (tabl L) K = some r) h (fun xs h => ?_) (fun h => ?_)
  · (try dsimp only at h)
    split at h
    · exact ⟨N, ((e144_3 N K N) _ _ _).trans h⟩
    · cases h
  cases h
def sp144 : List Arg → Option (Bool × Res)
  | [(.v false [(.sh 219 a0)])] => some (Pu.laws_toFetchS.c a0, ⟨[(.v false [(.ow 175 true (Pu.laws_toFetchS.v a0))])], []⟩)
  | _ => none
theorem ok144 : FnOk Try.prog T 144 sp144 := by
  refine fn_ok (E := E144) hE (call_cons ok195 call_nil) hM Try.func144 (code := (Try.f144.body.getD .skip)) (by kernel_rfl) (by kernel_rfl) ?_
  have key : ∀ (a0 : Row), Pu.laws_toFetchS.c a0 = true → ∃ it : It Res, (∀ c ∈ loopsOf (Try.f144.body.getD .skip), LoopOk E144 it c) ∧ body E144 it Try.f144 [(.v false [(.sh 219 a0)])] = some ⟨[(.v false [(.ow 175 true (Pu.laws_toFetchS.v a0))])], []⟩ := by
    intro a0  h1
    obtain ⟨N, hN⟩ := Pu.laws_toFetchS.b_eq (R := Res) (fun r0 => some ⟨[(.v false [(.ow 175 true r0)])], []⟩) a0 h1
    have hl : loopsOf (Try.f144.body.getD .skip) = [loopOf Try.f144 3] := by kernel_rfl
    refine ⟨it144 N, by rw [hl]; exact (loops_cons (lo144_3 N) loops_nil), ?_⟩
    refine Eq.trans (show body E144 (it144 N) Try.f144 [(.v false [(.sh 219 a0)])] = Pu.laws_toFetchS.b N (fun r0 => some ⟨[(.v false [(.ow 175 true r0)])], []⟩) a0 by kernel_rfl) hN
  intro args r h
  unfold sp144 at h
  split at h
  · injection h with h
    injection h with h1 h2
    subst h2
    exact ⟨by kernel_rfl, fun hf => ⟨of_decide_eq_true (by kernel_rfl), key _ h1⟩⟩
  · cases h

end Go.FG.Se

namespace Go.FG.Se
open Go.Proofs
def E196 : Env := { toTab := T, call := Go.FG.callIn [], mode := Go.FG.modeIn md, keep := Go.FG.keepIn [], tk := fun n => Go.FG.memB n [], om := Go.FG.omIn [] }
def sp196 : List Arg → Option (Bool × Res)
  | [(.v true [(.i .i64 a0_0), (.s a0_1), (.i .i64 a0_2), (.i .i64 a0_3), (.i .i64 a0_4), (.s a0_5), (.i .i64 a0_6)])] => some (true, ⟨[(.v true [(.i .i64 ((Pu.laws_toClient.v a0_0 a0_1 a0_2 a0_3 a0_4 a0_5 a0_6).1)), (.s ((Pu.laws_toClient.v a0_0 a0_1 a0_2 a0_3 a0_4 a0_5 a0_6).2.1)), (.i .i64 ((Pu.laws_toClient.v a0_0 a0_1 a0_2 a0_3 a0_4 a0_5 a0_6).2.2.1)), (.i .i64 ((Pu.laws_toClient.v a0_0 a0_1 a0_2 a0_3 a0_4 a0_5 a0_6).2.2.2.1)), (.i .i64 ((Pu.laws_toClient.v a0_0 a0_1 a0_2 a0_3 a0_4 a0_5 a0_6).2.2.2.2.1)), (.s ((Pu.laws_toClient.v a0_0 a0_1 a0_2 a0_3 a0_4 a0_5 a0_6).2.2.2.2.2.1)), (.i .i64 ((Pu.laws_toClient.v a0_0 a0_1 a0_2 a0_3 a0_4 a0_5 a0_6).2.2.2.2.2.2))])], []⟩)
  | _ => none
theorem ok196 : FnOk Try.prog T 196 sp196 := by
  refine fn_ok (E := E196) hE call_nil hM Try.func196 (code := (Try.f196.body.getD .skip)) (by kernel_rfl) (by kernel_rfl) ?_
  have key : ∀ (a0_0 : Int) (a0_1 : ByteArray) (a0_2 : Int) (a0_3 : Int) (a0_4 : Int) (a0_5 : ByteArray) (a0_6 : Int), ∃ it : It Res, (∀ c ∈ loopsOf (Try.f196.body.getD .skip), LoopOk E196 it c) ∧ body E196 it Try.f196 [(.v true [(.i .i64 a0_0), (.s a0_1), (.i .i64 a0_2), (.i .i64 a0_3), (.i .i64 a0_4), (.s a0_5), (.i .i64 a0_6)])] = some ⟨[(.v true [(.i .i64 ((Pu.laws_toClient.v a0_0 a0_1 a0_2 a0_3 a0_4 a0_5 a0_6).1)), (.s ((Pu.laws_toClient.v a0_0 a0_1 a0_2 a0_3 a0_4 a0_5 a0_6).2.1)), (.i .i64 ((Pu.laws_toClient.v a0_0 a0_1 a0_2 a0_3 a0_4 a0_5 a0_6).2.2.1)), (.i .i64 ((Pu.laws_toClient.v a0_0 a0_1 a0_2 a0_3 a0_4 a0_5 a0_6).2.2.2.1)), (.i .i64 ((Pu.laws_toClient.v a0_0 a0_1 a0_2 a0_3 a0_4 a0_5 a0_6).2.2.2.2.1)), (.s ((Pu.laws_toClient.v a0_0 a0_1 a0_2 a0_3 a0_4 a0_5 a0_6).2.2.2.2.2.1)), (.i .i64 ((Pu.laws_toClient.v a0_0 a0_1 a0_2 a0_3 a0_4 a0_5 a0_6).2.2.2.2.2.2))])], []⟩ := by
    intro a0_0 a0_1 a0_2 a0_3 a0_4 a0_5 a0_6 
    have hN := Pu.laws_toClient.b_eq (R := Res) (fun r0 r1 r2 r3 r4 r5 r6 => some ⟨[(.v true [(.i .i64 r0), (.s r1), (.i .i64 r2), (.i .i64 r3), (.i .i64 r4), (.s r5), (.i .i64 r6)])], []⟩) a0_0 a0_1 a0_2 a0_3 a0_4 a0_5 a0_6
    have hl : loopsOf (Try.f196.body.getD .skip) = [] := by kernel_rfl
    refine ⟨iterN 0, by rw [hl]; exact loops_nil, ?_⟩
    refine Eq.trans (show body E196 (iterN 0) Try.f196 [(.v true [(.i .i64 a0_0), (.s a0_1), (.i .i64 a0_2), (.i .i64 a0_3), (.i .i64 a0_4), (.s a0_5), (.i .i64 a0_6)])] = Pu.laws_toClient.b (fun r0 r1 r2 r3 r4 r5 r6 => some ⟨[(.v true [(.i .i64 r0), (.s r1), (.i .i64 r2), (.i .i64 r3), (.i .i64 r4), (.s r5), (.i .i64 r6)])], []⟩) a0_0 a0_1 a0_2 a0_3 a0_4 a0_5 a0_6 by kernel_rfl) hN
  intro args r h
  unfold sp196 at h
  split at h
  · injection h with h
    injection h with h1 h2
    subst h2
    exact ⟨by kernel_rfl, fun hf => ⟨of_decide_eq_true (by kernel_rfl), key _ _ _ _ _ _ _⟩⟩
  · cases h

end Go.FG.Se

namespace Go.FG.Se
open Go.Proofs
def E145 : Env := { toTab := T, call := Go.FG.callIn [(196, sp196)], mode := Go.FG.modeIn md, keep := Go.FG.keepIn [(3, [0, 3, 4])], tk := fun n => Go.FG.memB n [], om := Go.FG.omIn [] }
def it145 (N : Nat) {R : Type} : It R := fun rid f cn L K => bif Nat.beq rid 3 then (tell [(0, (.v (.v false [(.sh 221 [])]))), (6, (.v (.v false [(.own 0)]))), (8, (.v (.v false [(.i .i64 0)]))), (1, (.o (.row 214 true [])))] (fun | [.R x0, .I x1, .R x2] => Pu.laws_toClientS.l3 N (fun y0 y1 y2 => (K (.exit 0) (tabl [(0, (.v (.v false [(.sh 221 y0)]))), (6, (.v (.v false [(.own 0)]))), (8, (.v (.v false [(.i .i64 y1)]))), (1, (.o (.row 214 true y2)))]))) N x0 x1 x2 | _ => none) L (none)) else none
theorem e145_3 {R : Type} (N : Nat) (K : Ex → St → Option R) : ∀ n : Nat, (∀ x0 x1 x2, iter (exc E145 (it145 N) (loopOf Try.f145 3)) (canon (E145.keep 3))  n (tabl [(0, (.v (.v false [(.sh 221 x0)]))), (6, (.v (.v false [(.own 0)]))), (8, (.v (.v false [(.i .i64 x1)]))), (1, (.o (.row 214 true x2)))]) K = Pu.laws_toClientS.l3 N (fun y0 y1 y2 => (K (.exit 0) (tabl [(0, (.v (.v false [(.sh 221 y0)]))), (6, (.v (.v false [(.own 0)]))), (8, (.v (.v false [(.i .i64 y1)]))), (1, (.o (.row 214 true y2)))]))) n x0 x1 x2) := by
  intro n
  induction n with
  | zero => exact (fun _ _ _ => rfl)
  | succ n ih =>
    have e0 : (fun x0 x1 x2 => iter (exc E145 (it145 N) (loopOf Try.f145 3)) (canon (E145.keep 3))  n (tabl [(0, (.v (.v false [(.sh 221 x0)]))), (6, (.v (.v false [(.own 0)]))), (8, (.v (.v false [(.i .i64 x1)]))), (1, (.o (.row 214 true x2)))]) K) = Pu.laws_toClientS.l3 N (fun y0 y1 y2 => (K (.exit 0) (tabl [(0, (.v (.v false [(.sh 221 y0)]))), (6, (.v (.v false [(.own 0)]))), (8, (.v (.v false [(.i .i64 y1)]))), (1, (.o (.row 214 true y2)))]))) n := by funext x0 x1 x2; exact ih x0 x1 x2
    intro x0 x1 x2
    have h : ∀ g, exc E145 (it145 N) (loopOf Try.f145 3) (tabl [(0, (.v (.v false [(.sh 221 x0)]))), (6, (.v (.v false [(.own 0)]))), (8, (.v (.v false [(.i .i64 x1)]))), (1, (.o (.row 214 true x2)))]) (iterK g (canon (E145.keep 3)) K) = Pu.laws_toClientS.r3 N (fun x0 x1 x2 => (g (tabl [(0, (.v (.v false [(.sh 221 x0)]))), (6, (.v (.v false [(.own 0)]))), (8, (.v (.v false [(.i .i64 x1)]))), (1, (.o (.row 214 true x2)))]))) (fun y0 y1 y2 => (K (.exit 0) (tabl [(0, (.v (.v false [(.sh 221 y0)]))), (6, (.v (.v false [(.own 0)]))), (8, (.v (.v false [(.i .i64 y1)]))), (1, (.o (.row 214 true y2)))]))) x0 x1 x2 := by intro g; kernel_rfl
    refine (h _).trans ?_
    show Pu.laws_toClientS.r3 N (fun x0 x1 x2 => (iter (exc E145 (it145 N) (loopOf Try.f145 3)) (canon (E145.keep 3))  n (tabl [(0, (.v (.v false [(.sh 221 x0)]))), (6, (.v (.v false [(.own 0)]))), (8, (.v (.v false [(.i .i64 x1)]))), (1, (.o (.row 214 true x2)))]) K)) (fun y0 y1 y2 => (K (.exit 0) (tabl [(0, (.v (.v false [(.sh 221 y0)]))), (6, (.v (.v false [(.own 0)]))), (8, (.v (.v false [(.i .i64 y1)]))), (1, (.o (.row 214 true y2)))]))) x0 x1 x2 = _
    rw [e0]; rfl
theorem lo145_3 {R : Type} (N : Nat) : LoopOk E145 (it145 N (R := R)) (loopOf Try.f145 3) := by
  have e : firstRid (loopOf Try.f145 3) = 3 := by kernel_rfl
  intro L K r
  rw [e]
  intro h
  unfold it145 at h
  simp only [show Nat.beq 3 3 = true from rfl, cond_false, cond_true] at h
  refine tell_ok (Q := fun L => ∃ n, iter (exc E145 (it145 N) (loopOf Try.f145 3)) (canon (E145.keep 3)) n (tabl L) K = some r) h (fun xs h => ?_) (fun h => ?_)
  · (try dsimp only at h)
    split at h
    · exact ⟨N, ((e145_3 N K N) _ _ _).trans h⟩
    · cases h
  cases h
def sp145 : List Arg → Option (Bool × Res)
  | [(.v false [(.sh 221 a0)])] => some (Pu.laws_toClientS.c a0, ⟨[(.v false [(.ow 214 true (Pu.laws_toClientS.v a0))])], []⟩)
  | _ => none
theorem ok145 : FnOk Try.prog T 145 sp145 := by
  refine fn_ok (E := E145) hE (call_cons ok196 call_nil) hM Try.func145 (code := (Try.f145.body.getD .skip)) (by kernel_rfl) (by kernel_rfl) ?_
  have key : ∀ (a0 : Row), Pu.laws_toClientS.c a0 = true → ∃ it : It Res, (∀ c ∈ loopsOf (Try.f145.body.getD .skip), LoopOk E145 it c) ∧ body E145 it Try.f145 [(.v false [(.sh 221 a0)])] = some ⟨[(.v false [(.ow 214 true (Pu.laws_toClientS.v a0))])], []⟩ := by
    intro a0  h1
    obtain ⟨N, hN⟩ := Pu.laws_toClientS.b_eq (R := Res) (fun r0 => some ⟨[(.v false [(.ow 214 true r0)])], []⟩) a0 h1
    have hl : loopsOf (Try.f145.body.getD .skip) = [loopOf Try.f145 3] := by kernel_rfl
    refine ⟨it145 N, by rw [hl]; exact (loops_cons (lo145_3 N) loops_nil), ?_⟩
    refine Eq.trans (show body E145 (it145 N) Try.f145 [(.v false [(.sh 221 a0)])] = Pu.laws_toClientS.b N (fun r0 => some ⟨[(.v false [(.ow 214 true r0)])], []⟩) a0 by kernel_rfl) hN
  intro args r h
  unfold sp145 at h
  split at h
  · injection h with h
    injection h with h1 h2
    subst h2
    exact ⟨by kernel_rfl, fun hf => ⟨of_decide_eq_true (by kernel_rfl), key _ h1⟩⟩
  · cases h

end Go.FG.Se

namespace Go.FG.Se
open Go.Proofs
def E68 : Env := { toTab := T, call := Go.FG.callIn [(74, sp74), (143, sp143), (144, sp144), (145, sp145)], mode := Go.FG.modeIn md, keep := Go.FG.keepIn [], tk := fun n => Go.FG.memB n [], om := Go.FG.omIn [] }
def sp68 : List Arg → Option (Bool × Res)
  | [(.v true [(.i .i64 a0_0), (.sh 30 a0_1), (.sh 9 a0_2), (.sh 9 a0_3), (.sh 49 a0_4), (.i .i64 a0_5), (.sh 219 a0_6), (.sh 221 a0_7), (.i .i64 a0_8)])] => some (Pu.laws_toProxy.c a0_0 a0_1 a0_2 a0_3 a0_4 a0_5 a0_6 a0_7 a0_8, ⟨[(.v true [(.i .i64 ((Pu.laws_toProxy.v a0_0 a0_1 a0_2 a0_3 a0_4 a0_5 a0_6 a0_7 a0_8).1)), (.ow 25 true ((Pu.laws_toProxy.v a0_0 a0_1 a0_2 a0_3 a0_4 a0_5 a0_6 a0_7 a0_8).2.1)), (.ow 9 true ((Pu.laws_toProxy.v a0_0 a0_1 a0_2 a0_3 a0_4 a0_5 a0_6 a0_7 a0_8).2.2.1)), (.ow 9 true ((Pu.laws_toProxy.v a0_0 a0_1 a0_2 a0_3 a0_4 a0_5 a0_6 a0_7 a0_8).2.2.2.1)), (.ow 49 true ((Pu.laws_toProxy.v a0_0 a0_1 a0_2 a0_3 a0_4 a0_5 a0_6 a0_7 a0_8).2.2.2.2.1)), (.i .i64 ((Pu.laws_toProxy.v a0_0 a0_1 a0_2 a0_3 a0_4 a0_5 a0_6 a0_7 a0_8).2.2.2.2.2.1)), (.ow 175 true ((Pu.laws_toProxy.v a0_0 a0_1 a0_2 a0_3 a0_4 a0_5 a0_6 a0_7 a0_8).2.2.2.2.2.2.1)), (.ow 214 true ((Pu.laws_toProxy.v a0_0 a0_1 a0_2 a0_3 a0_4 a0_5 a0_6 a0_7 a0_8).2.2.2.2.2.2.2.1)), (.i .i64 ((Pu.laws_toProxy.v a0_0 a0_1 a0_2 a0_3 a0_4 a0_5 a0_6 a0_7 a0_8).2.2.2.2.2.2.2.2))])], []⟩)
  | _ => none
theorem ok68 : FnOk Try.prog T 68 sp68 := by
  refine fn_ok (E := E68) hE (call_cons ok74 (call_cons ok143 (call_cons ok144 (call_cons ok145 call_nil)))) hM Try.func68 (code := (Try.f68.body.getD .skip)) (by kernel_rfl) (by kernel_rfl) ?_
  have key : ∀ (a0_0 : Int) (a0_1 : Row) (a0_2 : Row) (a0_3 : Row) (a0_4 : Row) (a0_5 : Int) (a0_6 : Row) (a0_7 : Row) (a0_8 : Int), Pu.laws_toProxy.c a0_0 a0_1 a0_2 a0_3 a0_4 a0_5 a0_6 a0_7 a0_8 = true → ∃ it : It Res, (∀ c ∈ loopsOf (Try.f68.body.getD .skip), LoopOk E68 it c) ∧ body E68 it Try.f68 [(.v true [(.i .i64 a0_0), (.sh 30 a0_1), (.sh 9 a0_2), (.sh 9 a0_3), (.sh 49 a0_4), (.i .i64 a0_5), (.sh 219 a0_6), (.sh 221 a0_7), (.i .i64 a0_8)])] = some ⟨[(.v true [(.i .i64 ((Pu.laws_toProxy.v a0_0 a0_1 a0_2 a0_3 a0_4 a0_5 a0_6 a0_7 a0_8).1)), (.ow 25 true ((Pu.laws_toProxy.v a0_0 a0_1 a0_2 a0_3 a0_4 a0_5 a0_6 a0_7 a0_8).2.1)), (.ow 9 true ((Pu.laws_toProxy.v a0_0 a0_1 a0_2 a0_3 a0_4 a0_5 a0_6 a0_7 a0_8).2.2.1)), (.ow 9 true ((Pu.laws_toProxy.v a0_0 a0_1 a0_2 a0_3 a0_4 a0_5 a0_6 a0_7 a0_8).2.2.2.1)), (.ow 49 true ((Pu.laws_toProxy.v a0_0 a0_1 a0_2 a0_3 a0_4 a0_5 a0_6 a0_7 a0_8).2.2.2.2.1)), (.i .i64 ((Pu.laws_toProxy.v a0_0 a0_1 a0_2 a0_3 a0_4 a0_5 a0_6 a0_7 a0_8).2.2.2.2.2.1)), (.ow 175 true ((Pu.laws_toProxy.v a0_0 a0_1 a0_2 a0_3 a0_4 a0_5 a0_6 a0_7 a0_8).2.2.2.2.2.2.1)), (.ow 214 true ((Pu.laws_toProxy.v a0_0 a0_1 a0_2 a0_3 a0_4 a0_5 a0_6 a0_7 a0_8).2.2.2.2.2.2.2.1)), (.i .i64 ((Pu.laws_toProxy.v a0_0 a0_1 a0_2 a0_3 a0_4 a0_5 a0_6 a0_7 a0_8).2.2.2.2.2.2.2.2))])], []⟩ := by
    intro a0_0 a0_1 a0_2 a0_3 a0_4 a0_5 a0_6 a0_7 a0_8  h1
    have hN := Pu.laws_toProxy.b_eq (R := Res) (fun r0 r1 r2 r3 r4 r5 r6 r7 r8 => some ⟨[(.v true [(.i .i64 r0), (.ow 25 true r1), (.ow 9 true r2), (.ow 9 true r3), (.ow 49 true r4), (.i .i64 r5), (.ow 175 true r6), (.ow 214 true r7), (.i .i64 r8)])], []⟩) a0_0 a0_1 a0_2 a0_3 a0_4 a0_5 a0_6 a0_7 a0_8 h1
    have hl : loopsOf (Try.f68.body.getD .skip) = [] := by kernel_rfl
    refine ⟨iterN 0, by rw [hl]; exact loops_nil, ?_⟩
    refine Eq.trans (show body E68 (iterN 0) Try.f68 [(.v true [(.i .i64 a0_0), (.sh 30 a0_1), (.sh 9 a0_2), (.sh 9 a0_3), (.sh 49 a0_4), (.i .i64 a0_5), (.sh 219 a0_6), (.sh 221 a0_7), (.i .i64 a0_8)])] = Pu.laws_toProxy.b (fun r0 r1 r2 r3 r4 r5 r6 r7 r8 => some ⟨[(.v true [(.i .i64 r0), (.ow 25 true r1), (.ow 9 true r2), (.ow 9 true r3), (.ow 49 true r4), (.i .i64 r5), (.ow 175 true r6), (.ow 214 true r7), (.i .i64 r8)])], []⟩) a0_0 a0_1 a0_2 a0_3 a0_4 a0_5 a0_6 a0_7 a0_8 by kernel_rfl) hN
  intro args r h
  unfold sp68 at h
  split at h
  · injection h with h
    injection h with h1 h2
    subst h2
    exact ⟨by kernel_rfl, fun hf => ⟨of_decide_eq_true (by kernel_rfl), key _ _ _ _ _ _ _ _ _ h1⟩⟩
  · cases h

end Go.FG.Se

namespace Go.FG.Se
open Go.Proofs
def E202 : Env := { toTab := T, call := Go.FG.callIn [], mode := Go.FG.modeIn md, keep := Go.FG.keepIn [], tk := fun n => Go.FG.memB n [], om := Go.FG.omIn [] }
def sp202 : List Arg → Option (Bool × Res)
  | [(.v true [(.s a0_0), (.s a0_1), (.i .i64 a0_2)])] => some (true, ⟨[(.v true [(.s ((Pu.laws_toFile.v a0_0 a0_1 a0_2).1)), (.s ((Pu.laws_toFile.v a0_0 a0_1 a0_2).2.1)), (.i .i64 ((Pu.laws_toFile.v a0_0 a0_1 a0_2).2.2))])], []⟩)
  | _ => none
theorem ok202 : FnOk Try.prog T 202 sp202 := by
  refine fn_ok (E := E202) hE call_nil hM Try.func202 (code := (Try.f202.body.getD .skip)) (by kernel_rfl) (by kernel_rfl) ?_
  have key : ∀ (a0_0 : ByteArray) (a0_1 : ByteArray) (a0_2 : Int), ∃ it : It Res, (∀ c ∈ loopsOf (Try.f202.body.getD .skip), LoopOk E202 it c) ∧ body E202 it Try.f202 [(.v true [(.s a0_0), (.s a0_1), (.i .i64 a0_2)])] = some ⟨[(.v true [(.s ((Pu.laws_toFile.v a0_0 a0_1 a0_2).1)), (.s ((Pu.laws_toFile.v a0_0 a0_1 a0_2).2.1)), (.i .i64 ((Pu.laws_toFile.v a0_0 a0_1 a0_2).2.2))])], []⟩ := by
    intro a0_0 a0_1 a0_2 
    have hN := Pu.laws_toFile.b_eq (R := Res) (fun r0 r1 r2 => some ⟨[(.v true [(.s r0), (.s r1), (.i .i64 r2)])], []⟩) a0_0 a0_1 a0_2
    have hl : loopsOf (Try.f202.body.getD .skip) = [] := by kernel_rfl
    refine ⟨iterN 0, by rw [hl]; exact loops_nil, ?_⟩
    refine Eq.trans (show body E202 (iterN 0) Try.f202 [(.v true [(.s a0_0), (.s a0_1), (.i .i64 a0_2)])] = Pu.laws_toFile.b (fun r0 r1 r2 => some ⟨[(.v true [(.s r0), (.s r1), (.i .i64 r2)])], []⟩) a0_0 a0_1 a0_2 by kernel_rfl) hN
  intro args r h
  unfold sp202 at h
  split at h
  · injection h with h
    injection h with h1 h2
    subst h2
    exact ⟨by kernel_rfl, fun hf => ⟨of_decide_eq_true (by kernel_rfl), key _ _ _⟩⟩
  · cases h

end Go.FG.Se

namespace Go.FG.Se
open Go.Proofs
def E150 : Env := { toTab := T, call := Go.FG.callIn [(202, sp202)], mode := Go.FG.modeIn md, keep := Go.FG.keepIn [(3, [0, 3, 4])], tk := fun n => Go.FG.memB n [], om := Go.FG.omIn [] }
def it150 (N : Nat) {R : Type} : It R := fun rid f cn L K => bif Nat.beq rid 3 then (tell [(0, (.v (.v false [(.sh 230 [])]))), (6, (.v (.v false [(.own 0)]))), (8, (.v (.v false [(.i .i64 0)]))), (1, (.o (.row 231 true [])))] (fun | [.R x0, .I x1, .R x2] => Pu.laws_toFileS.l3 N (fun y0 y1 y2 => (K (.exit 0) (tabl [(0, (.v (.v false [(.sh 230 y0)]))), (6, (.v (.v false [(.own 0)]))), (8, (.v (.v false [(.i .i64 y1)]))), (1, (.o (.row 231 true y2)))]))) N x0 x1 x2 | _ => none) L (none)) else none
theorem e150_3 {R : Type} (N : Nat) (K : Ex → St → Option R) : ∀ n : Nat, (∀ x0 x1 x2, iter (exc E150 (it150 N) (loopOf Try.f150 3)) (canon (E150.keep 3))  n (tabl [(0, (.v (.v false [(.sh 230 x0)]))), (6, (.v (.v false [(.own 0)]))), (8, (.v (.v false [(.i .i64 x1)]))), (1, (.o (.row 231 true x2)))]) K = Pu.laws_toFileS.l3 N (fun y0 y1 y2 => (K (.exit 0) (tabl [(0, (.v (.v false [(.sh 230 y0)]))), (6, (.v (.v false [(.own 0)]))), (8, (.v (.v false [(.i .i64 y1)]))), (1, (.o (.row 231 true y2)))]))) n x0 x1 x2) := by
  intro n
  induction n with
  | zero => exact (fun _ _ _ => rfl)
  | succ n ih =>
    have e0 : (fun x0 x1 x2 => iter (exc E150 (it150 N) (loopOf Try.f150 3)) (canon (E150.keep 3))  n (tabl [(0, (.v (.v false [(.sh 230 x0)]))), (6, (.v (.v false [(.own 0)]))), (8, (.v (.v false [(.i .i64 x1)]))), (1, (.o (.row 231 true x2)))]) K) = Pu.laws_toFileS.l3 N (fun y0 y1 y2 => (K (.exit 0) (tabl [(0, (.v (.v false [(.sh 230 y0)]))), (6, (.v (.v false [(.own 0)]))), (8, (.v (.v false [(.i .i64 y1)]))), (1, (.o (.row 231 true y2)))]))) n := by funext x0 x1 x2; exact ih x0 x1 x2
    intro x0 x1 x2
    have h : ∀ g, exc E150 (it150 N) (loopOf Try.f150 3) (tabl [(0, (.v (.v false [(.sh 230 x0)]))), (6, (.v (.v false [(.own 0)]))), (8, (.v (.v false [(.i .i64 x1)]))), (1, (.o (.row 231 true x2)))]) (iterK g (canon (E150.keep 3)) K) = Pu.laws_toFileS.r3 N (fun x0 x1 x2 => (g (tabl [(0, (.v (.v false [(.sh 230 x0)]))), (6, (.v (.v false [(.own 0)]))), (8, (.v (.v false [(.i .i64 x1)]))), (1, (.o (.row 231 true x2)))]))) (fun y0 y1 y2 => (K (.exit 0) (tabl [(0, (.v (.v false [(.sh 230 y0)]))), (6, (.v (.v false [(.own 0)]))), (8, (.v (.v false [(.i .i64 y1)]))), (1, (.o (.row 231 true y2)))]))) x0 x1 x2 := by intro g; kernel_rfl
    refine (h _).trans ?_
    show Pu.laws_toFileS.r3 N (fun x0 x1 x2 => (iter (exc E150 (it150 N) (loopOf Try.f150 3)) (canon (E150.keep 3))  n (tabl [(0, (.v (.v false [(.sh 230 x0)]))), (6, (.v (.v false [(.own 0)]))), (8, (.v (.v false [(.i .i64 x1)]))), (1, (.o (.row 231 true x2)))]) K)) (fun y0 y1 y2 => (K (.exit 0) (tabl [(0, (.v (.v false [(.sh 230 y0)]))), (6, (.v (.v false [(.own 0)]))), (8, (.v (.v false [(.i .i64 y1)]))), (1, (.o (.row 231 true y2)))]))) x0 x1 x2 = _
    rw [e0]; rfl
theorem lo150_3 {R : Type} (N : Nat) : LoopOk E150 (it150 N (R := R)) (loopOf Try.f150 3) := by
  have e : firstRid (loopOf Try.f150 3) = 3 := by kernel_rfl
  intro L K r
  rw [e]
  intro h
  unfold it150 at h
  simp only [show Nat.beq 3 3 = true from rfl, cond_false, cond_true] at h
  refine tell_ok (Q := fun L => ∃ n, iter (exc E150 (it150 N) (loopOf Try.f150 3)) (canon (E150.keep 3)) n (tabl L) K = some r) h (fun xs h => ?_) (fun h => ?_)
  · (try dsimp only at h)
    split at h
    · exact ⟨N, ((e150_3 N K N) _ _ _).trans h⟩
    · cases h
  cases h
def sp150 : List Arg → Option (Bool × Res)
  | [(.v false [(.sh 230 a0)])] => some (Pu.laws_toFileS.c a0, ⟨[(.v false [(.ow 231 true (Pu.laws_toFileS.v a0))])], []⟩)
  | _ => none
theorem ok150 : FnOk Try.prog T 150 sp150 := by
  refine fn_ok (E := E150) hE (call_cons ok202 call_nil) hM Try.func150 (code := (Try.f150.body.getD .skip)) (by kernel_rfl) (by kernel_rfl) ?_
  have key : ∀ (a0 : Row), Pu.laws_toFileS.c a0 = true → ∃ it : It Res, (∀ c ∈ loopsOf (Try.f150.body.getD .skip), LoopOk E150 it c) ∧ body E150 it Try.f150 [(.v false [(.sh 230 a0)])] = some ⟨[(.v false [(.ow 231 true (Pu.laws_toFileS.v a0))])], []⟩ := by
    intro a0  h1
    obtain ⟨N, hN⟩ := Pu.laws_toFileS.b_eq (R := Res) (fun r0 => some ⟨[(.v false [(.ow 231 true r0)])], []⟩) a0 h1
    have hl : loopsOf (Try.f150.body.getD .skip) = [loopOf Try.f150 3] := by kernel_rfl
    refine ⟨it150 N, by rw [hl]; exact (loops_cons (lo150_3 N) loops_nil), ?_⟩
    refine Eq.trans (show body E150 (it150 N) Try.f150 [(.v false [(.sh 230 a0)])] = Pu.laws_toFileS.b N (fun r0 => some ⟨[(.v false [(.ow 231 true r0)])], []⟩) a0 by kernel_rfl) hN
  intro args r h
  unfold sp150 at h
  split at h
  · injection h with h
    injection h with h1 h2
    subst h2
    exact ⟨by kernel_rfl, fun hf => ⟨of_decide_eq_true (by kernel_rfl), key _ h1⟩⟩
  · cases h

end Go.FG.Se

namespace Go.FG.Se
open Go.Proofs
def E73 : Env := { toTab := T, call := Go.FG.callIn [(150, sp150)], mode := Go.FG.modeIn md, keep := Go.FG.keepIn [], tk := fun n => Go.FG.memB n [], om := Go.FG.omIn [] }
def sp73 : List Arg → Option (Bool × Res)
  | [(.v true [(.sh 230 a0)])] => some (Pu.laws_toDisk.c a0, ⟨[(.v true [(.ow 231 true (Pu.laws_toDisk.v a0))])], []⟩)
  | _ => none
theorem ok73 : FnOk Try.prog T 73 sp73 := by
  refine fn_ok (E := E73) hE (call_cons ok150 call_nil) hM Try.func73 (code := (Try.f73.body.getD .skip)) (by kernel_rfl) (by kernel_rfl) ?_
  have key : ∀ (a0 : Row), Pu.laws_toDisk.c a0 = true → ∃ it : It Res, (∀ c ∈ loopsOf (Try.f73.body.getD .skip), LoopOk E73 it c) ∧ body E73 it Try.f73 [(.v true [(.sh 230 a0)])] = some ⟨[(.v true [(.ow 231 true (Pu.laws_toDisk.v a0))])], []⟩ := by
    intro a0  h1
    have hN := Pu.laws_toDisk.b_eq (R := Res) (fun r0 => some ⟨[(.v true [(.ow 231 true r0)])], []⟩) a0 h1
    have hl : loopsOf (Try.f73.body.getD .skip) = [] := by kernel_rfl
    refine ⟨iterN 0, by rw [hl]; exact loops_nil, ?_⟩
    refine Eq.trans (show body E73 (iterN 0) Try.f73 [(.v true [(.sh 230 a0)])] = Pu.laws_toDisk.b (fun r0 => some ⟨[(.v true [(.ow 231 true r0)])], []⟩) a0 by kernel_rfl) hN
  intro args r h
  unfold sp73 at h
  split at h
  · injection h with h
    injection h with h1 h2
    subst h2
    exact ⟨by kernel_rfl, fun hf => ⟨of_decide_eq_true (by kernel_rfl), key _ h1⟩⟩
  · cases h

end Go.FG.Se

namespace Go.FG.Se
open Go.Proofs
def E82 : Env := { toTab := T, call := Go.FG.callIn [(68, sp68), (73, sp73), (158, sp158), (74, sp74)], mode := Go.FG.modeIn md, keep := Go.FG.keepIn [], tk := fun n => Go.FG.memB n [], om := Go.FG.omIn [] }
def sp82 : List Arg → Option (Bool × Res)
  | [(.v true [(.i .i64 a0_0), (.sh 30 a0_1), (.sh 9 a0_2), (.sh 9 a0_3), (.sh 49 a0_4), (.i .i64 a0_5), (.sh 219 a0_6), (.sh 221 a0_7), (.i .i64 a0_8), (.sh 230 a0_9), (.sh 3 a0_10), (.sh 30 a0_11)])] => some (Pu.laws_toWorld.c a0_0 a0_1 a0_2 a0_3 a0_4 a0_5 a0_6 a0_7 a0_8 a0_9 a0_10 a0_11, ⟨[(.v true [(.i .i64 ((Pu.laws_toWorld.v a0_0 a0_1 a0_2 a0_3 a0_4 a0_5 a0_6 a0_7 a0_8 a0_9 a0_10 a0_11).1)), (.ow 25 true ((Pu.laws_toWorld.v a0_0 a0_1 a0_2 a0_3 a0_4 a0_5 a0_6 a0_7 a0_8 a0_9 a0_10 a0_11).2.1)), (.ow 9 true ((Pu.laws_toWorld.v a0_0 a0_1 a0_2 a0_3 a0_4 a0_5 a0_6 a0_7 a0_8 a0_9 a0_10 a0_11).2.2.1)), (.ow 9 true ((Pu.laws_toWorld.v a0_0 a0_1 a0_2 a0_3 a0_4 a0_5 a0_6 a0_7 a0_8 a0_9 a0_10 a0_11).2.2.2.1)), (.ow 49 true ((Pu.laws_toWorld.v a0_0 a0_1 a0_2 a0_3 a0_4 a0_5 a0_6 a0_7 a0_8 a0_9 a0_10 a0_11).2.2.2.2.1)), (.i .i64 ((Pu.laws_toWorld.v a0_0 a0_1 a0_2 a0_3 a0_4 a0_5 a0_6 a0_7 a0_8 a0_9 a0_10 a0_11).2.2.2.2.2.1)), (.ow 175 true ((Pu.laws_toWorld.v a0_0 a0_1 a0_2 a0_3 a0_4 a0_5 a0_6 a0_7 a0_8 a0_9 a0_10 a0_11).2.2.2.2.2.2.1)), (.ow 214 true ((Pu.laws_toWorld.v a0_0 a0_1 a0_2 a0_3 a0_4 a0_5 a0_6 a0_7 a0_8 a0_9 a0_10 a0_11).2.2.2.2.2.2.2.1)), (.i .i64 ((Pu.laws_toWorld.v a0_0 a0_1 a0_2 a0_3 a0_4 a0_5 a0_6 a0_7 a0_8 a0_9 a0_10 a0_11).2.2.2.2.2.2.2.2.1)), (.ow 231 true ((Pu.laws_toWorld.v a0_0 a0_1 a0_2 a0_3 a0_4 a0_5 a0_6 a0_7 a0_8 a0_9 a0_10 a0_11).2.2.2.2.2.2.2.2.2.1)), (.ow 3 true ((Pu.laws_toWorld.v a0_0 a0_1 a0_2 a0_3 a0_4 a0_5 a0_6 a0_7 a0_8 a0_9 a0_10 a0_11).2.2.2.2.2.2.2.2.2.2.1)), (.ow 25 true ((Pu.laws_toWorld.v a0_0 a0_1 a0_2 a0_3 a0_4 a0_5 a0_6 a0_7 a0_8 a0_9 a0_10 a0_11).2.2.2.2.2.2.2.2.2.2.2))])], []⟩)
  | _ => none
theorem ok82 : FnOk Try.prog T 82 sp82 := by
  refine fn_ok (E := E82) hE (call_cons ok68 (call_cons ok73 (call_cons ok158 (call_cons ok74 call_nil)))) hM Try.func82 (code := (Try.f82.body.getD .skip)) (by kernel_rfl) (by kernel_rfl) ?_
  have key : ∀ (a0_0 : Int) (a0_1 : Row) (a0_2 : Row) (a0_3 : Row) (a0_4 : Row) (a0_5 : Int) (a0_6 : Row) (a0_7 : Row) (a0_8 : Int) (a0_9 : Row) (a0_10 : Row) (a0_11 : Row), Pu.laws_toWorld.c a0_0 a0_1 a0_2 a0_3 a0_4 a0_5 a0_6 a0_7 a0_8 a0_9 a0_10 a0_11 = true → ∃ it : It Res, (∀ c ∈ loopsOf (Try.f82.body.getD .skip), LoopOk E82 it c) ∧ body E82 it Try.f82 [(.v true [(.i .i64 a0_0), (.sh 30 a0_1), (.sh 9 a0_2), (.sh 9 a0_3), (.sh 49 a0_4), (.i .i64 a0_5), (.sh 219 a0_6), (.sh 221 a0_7), (.i .i64 a0_8), (.sh 230 a0_9), (.sh 3 a0_10), (.sh 30 a0_11)])] = some ⟨[(.v true [(.i .i64 ((Pu.laws_toWorld.v a0_0 a0_1 a0_2 a0_3 a0_4 a0_5 a0_6 a0_7 a0_8 a0_9 a0_10 a0_11).1)), (.ow 25 true ((Pu.laws_toWorld.v a0_0 a0_1 a0_2 a0_3 a0_4 a0_5 a0_6 a0_7 a0_8 a0_9 a0_10 a0_11).2.1)), (.ow 9 true ((Pu.laws_toWorld.v a0_0 a0_1 a0_2 a0_3 a0_4 a0_5 a0_6 a0_7 a0_8 a0_9 a0_10 a0_11).2.2.1)), (.ow 9 true ((Pu.laws_toWorld.v a0_0 a0_1 a0_2 a0_3 a0_4 a0_5 a0_6 a0_7 a0_8 a0_9 a0_10 a0_11).2.2.2.1)), (.ow 49 true ((Pu.laws_toWorld.v a0_0 a0_1 a0_2 a0_3 a0_4 a0_5 a0_6 a0_7 a0_8 a0_9 a0_10 a0_11).2.2.2.2.1)), (.i .i64 ((Pu.laws_toWorld.v a0_0 a0_1 a0_2 a0_3 a0_4 a0_5 a0_6 a0_7 a0_8 a0_9 a0_10 a0_11).2.2.2.2.2.1)), (.ow 175 true ((Pu.laws_toWorld.v a0_0 a0_1 a0_2 a0_3 a0_4 a0_5 a0_6 a0_7 a0_8 a0_9 a0_10 a0_11).2.2.2.2.2.2.1)), (.ow 214 true ((Pu.laws_toWorld.v a0_0 a0_1 a0_2 a0_3 a0_4 a0_5 a0_6 a0_7 a0_8 a0_9 a0_10 a0_11).2.2.2.2.2.2.2.1)), (.i .i64 ((Pu.laws_toWorld.v a0_0 a0_1 a0_2 a0_3 a0_4 a0_5 a0_6 a0_7 a0_8 a0_9 a0_10 a0_11).2.2.2.2.2.2.2.2.1)), (.ow 231 true ((Pu.laws_toWorld.v a0_0 a0_1 a0_2 a0_3 a0_4 a0_5 a0_6 a0_7 a0_8 a0_9 a0_10 a0_11).2.2.2.2.2.2.2.2.2.1)), (.ow 3 true ((Pu.laws_toWorld.v a0_0 a0_1 a0_2 a0_3 a0_4 a0_5 a0_6 a0_7 a0_8 a0_9 a0_10 a0_11).2.2.2.2.2.2.2.2.2.2.1)), (.ow 25 true ((Pu.laws_toWorld.v a0_0 a0_1 a0_2 a0_3 a0_4 a0_5 a0_6 a0_7 a0_8 a0_9 a0_10 a0_11).2.2.2.2.2.2.2.2.2.2.2))])], []⟩ := by
    intro a0_0 a0_1 a0_2 a0_3 a0_4 a0_5 a0_6 a0_7 a0_8 a0_9 a0_10 a0_11  h1
    have hN := Pu.laws_toWorld.b_eq (R := Res) (fun r0 r1 r2 r3 r4 r5 r6 r7 r8 r9 r10 r11 => some ⟨[(.v true [(.i .i64 r0), (.ow 25 true r1), (.ow 9 true r2), (.ow 9 true r3), (.ow 49 true r4), (.i .i64 r5), (.ow 175 true r6), (.ow 214 true r7), (.i .i64 r8), (.ow 231 true r9), (.ow 3 true r10), (.ow 25 true r11)])], []⟩) a0_0 a0_1 a0_2 a0_3 a0_4 a0_5 a0_6 a0_7 a0_8 a0_9 a0_10 a0_11 h1
    have hl : loopsOf (Try.f82.body.getD .skip) = [] := by kernel_rfl
    refine ⟨iterN 0, by rw [hl]; exact loops_nil, ?_⟩
    refine Eq.trans (show body E82 (iterN 0) Try.f82 [(.v true [(.i .i64 a0_0), (.sh 30 a0_1), (.sh 9 a0_2), (.sh 9 a0_3), (.sh 49 a0_4), (.i .i64 a0_5), (.sh 219 a0_6), (.sh 221 a0_7), (.i .i64 a0_8), (.sh 230 a0_9), (.sh 3 a0_10), (.sh 30 a0_11)])] = Pu.laws_toWorld.b (fun r0 r1 r2 r3 r4 r5 r6 r7 r8 r9 r10 r11 => some ⟨[(.v true [(.i .i64 r0), (.ow 25 true r1), (.ow 9 true r2), (.ow 9 true r3), (.ow 49 true r4), (.i .i64 r5), (.ow 175 true r6), (.ow 214 true r7), (.i .i64 r8), (.ow 231 true r9), (.ow 3 true r10), (.ow 25 true r11)])], []⟩) a0_0 a0_1 a0_2 a0_3 a0_4 a0_5 a0_6 a0_7 a0_8 a0_9 a0_10 a0_11 by kernel_rfl) hN
  intro args r h
  unfold sp82 at h
  split at h
  · injection h with h
    injection h with h1 h2
    subst h2
    exact ⟨by kernel_rfl, fun hf => ⟨of_decide_eq_true (by kernel_rfl), key _ _ _ _ _ _ _ _ _ _ _ _ h1⟩⟩
  · cases h

end Go.FG.Se

namespace Go.FG.Se
open Go.Proofs
def E157 : Env := { toTab := T, call := Go.FG.callIn [], mode := Go.FG.modeIn md, keep := Go.FG.keepIn [(2, [0, 3, 4, 5])], tk := fun n => Go.FG.memB n [], om := Go.FG.omIn [] }
def it157 (N : Nat) {R : Type} : It R := fun rid f cn L K => bif Nat.beq rid 2 then (tell [(0, (.v (.v false [(.sh 25 [])]))), (6, (.v (.v false [(.bp 0 0)]))), (8, (.v (.v false [(.b false)]))), (10, (.v (.v false [(.i .i64 0)]))), (1, (.o (.box [(.s ⟨#[]⟩), (.i .i64 0), (.i .i64 0), (.s ⟨#[]⟩)])))] (fun | [.R x0, .B x1, .I x2, .S x3, .I x4, .I x5, .S x6] => Pu.spec_l18In.l2 N (fun y0 y1 y2 y3 y4 y5 y6 => (K .ret (tabl [(0, (.v (.v false [(.sh 25 y0)]))), (6, (.v (.v false [(.bp 0 0)]))), (8, (.v (.v false [(.b y1)]))), (10, (.v (.v false [(.i .i64 y2)]))), (1, (.o (.box [(.s y3), (.i .i64 y4), (.i .i64 y5), (.s y6)])))]))) (fun y0 y1 y2 y3 y4 y5 y6 => (K (.exit 0) (tabl [(0, (.v (.v false [(.sh 25 y0)]))), (6, (.v (.v false [(.bp 0 0)]))), (8, (.v (.v false [(.b y1)]))), (10, (.v (.v false [(.i .i64 y2)]))), (1, (.o (.box [(.s y3), (.i .i64 y4), (.i .i64 y5), (.s y6)])))]))) N x0 x1 x2 x3 x4 x5 x6 | _ => none) L (none)) else none
theorem e157_2 {R : Type} (N : Nat) (K : Ex → St → Option R) : ∀ n : Nat, (∀ x0 x1 x2 x3 x4 x5 x6, iter (exc E157 (it157 N) (loopOf Try.f157 2)) (canon (E157.keep 2))  n (tabl [(0, (.v (.v false [(.sh 25 x0)]))), (6, (.v (.v false [(.bp 0 0)]))), (8, (.v (.v false [(.b x1)]))), (10, (.v (.v false [(.i .i64 x2)]))), (1, (.o (.box [(.s x3), (.i .i64 x4), (.i .i64 x5), (.s x6)])))]) K = Pu.spec_l18In.l2 N (fun y0 y1 y2 y3 y4 y5 y6 => (K .ret (tabl [(0, (.v (.v false [(.sh 25 y0)]))), (6, (.v (.v false [(.bp 0 0)]))), (8, (.v (.v false [(.b y1)]))), (10, (.v (.v false [(.i .i64 y2)]))), (1, (.o (.box [(.s y3), (.i .i64 y4), (.i .i64 y5), (.s y6)])))]))) (fun y0 y1 y2 y3 y4 y5 y6 => (K (.exit 0) (tabl [(0, (.v (.v false [(.sh 25 y0)]))), (6, (.v (.v false [(.bp 0 0)]))), (8, (.v (.v false [(.b y1)]))), (10, (.v (.v false [(.i .i64 y2)]))), (1, (.o (.box [(.s y3), (.i .i64 y4), (.i .i64 y5), (.s y6)])))]))) n x0 x1 x2 x3 x4 x5 x6) := by
  intro n
  induction n with
  | zero => exact (fun _ _ _ _ _ _ _ => rfl)
  | succ n ih =>
    have e0 : (fun x0 x1 x2 x3 x4 x5 x6 => iter (exc E157 (it157 N) (loopOf Try.f157 2)) (canon (E157.keep 2))  n (tabl [(0, (.v (.v false [(.sh 25 x0)]))), (6, (.v (.v false [(.bp 0 0)]))), (8, (.v (.v false [(.b x1)]))), (10, (.v (.v false [(.i .i64 x2)]))), (1, (.o (.box [(.s x3), (.i .i64 x4), (.i .i64 x5), (.s x6)])))]) K) = Pu.spec_l18In.l2 N (fun y0 y1 y2 y3 y4 y5 y6 => (K .ret (tabl [(0, (.v (.v false [(.sh 25 y0)]))), (6, (.v (.v false [(.bp 0 0)]))), (8, (.v (.v false [(.b y1)]))), (10, (.v (.v false [(.i .i64 y2)]))), (1, (.o (.box [(.s y3), (.i .i64 y4), (.i .i64 y5), (.s y6)])))]))) (fun y0 y1 y2 y3 y4 y5 y6 => (K (.exit 0) (tabl [(0, (.v (.v false [(.sh 25 y0)]))), (6, (.v (.v false [(.bp 0 0)]))), (8, (.v (.v false [(.b y1)]))), (10, (.v (.v false [(.i .i64 y2)]))), (1, (.o (.box [(.s y3), (.i .i64 y4), (.i .i64 y5), (.s y6)])))]))) n := by funext x0 x1 x2 x3 x4 x5 x6; exact ih x0 x1 x2 x3 x4 x5 x6
    intro x0 x1 x2 x3 x4 x5 x6
    have h : ∀ g, exc E157 (it157 N) (loopOf Try.f157 2) (tabl [(0, (.v (.v false [(.sh 25 x0)]))), (6, (.v (.v false [(.bp 0 0)]))), (8, (.v (.v false [(.b x1)]))), (10, (.v (.v false [(.i .i64 x2)]))), (1, (.o (.box [(.s x3), (.i .i64 x4), (.i .i64 x5), (.s x6)])))]) (iterK g (canon (E157.keep 2)) K) = Pu.spec_l18In.r2 N (fun x0 x1 x2 x3 x4 x5 x6 => (g (tabl [(0, (.v (.v false [(.sh 25 x0)]))), (6, (.v (.v false [(.bp 0 0)]))), (8, (.v (.v false [(.b x1)]))), (10, (.v (.v false [(.i .i64 x2)]))), (1, (.o (.box [(.s x3), (.i .i64 x4), (.i .i64 x5), (.s x6)])))]))) (fun y0 y1 y2 y3 y4 y5 y6 => (K .ret (tabl [(0, (.v (.v false [(.sh 25 y0)]))), (6, (.v (.v false [(.bp 0 0)]))), (8, (.v (.v false [(.b y1)]))), (10, (.v (.v false [(.i .i64 y2)]))), (1, (.o (.box [(.s y3), (.i .i64 y4), (.i .i64 y5), (.s y6)])))]))) (fun y0 y1 y2 y3 y4 y5 y6 => (K (.exit 0) (tabl [(0, (.v (.v false [(.sh 25 y0)]))), (6, (.v (.v false [(.bp 0 0)]))), (8, (.v (.v false [(.b y1)]))), (10, (.v (.v false [(.i .i64 y2)]))), (1, (.o (.box [(.s y3), (.i .i64 y4), (.i .i64 y5), (.s y6)])))]))) x0 x1 x2 x3 x4 x5 x6 := by intro g; kernel_rfl
    refine (h _).trans ?_
    show Pu.spec_l18In.r2 N (fun x0 x1 x2 x3 x4 x5 x6 => (iter (exc E157 (it157 N) (loopOf Try.f157 2)) (canon (E157.keep 2))  n (tabl [(0, (.v (.v false [(.sh 25 x0)]))), (6, (.v (.v false [(.bp 0 0)]))), (8, (.v (.v false [(.b x1)]))), (10, (.v (.v false [(.i .i64 x2)]))), (1, (.o (.box [(.s x3), (.i .i64 x4), (.i .i64 x5), (.s x6)])))]) K)) (fun y0 y1 y2 y3 y4 y5 y6 => (K .ret (tabl [(0, (.v (.v false [(.sh 25 y0)]))), (6, (.v (.v false [(.bp 0 0)]))), (8, (.v (.v false [(.b y1)]))), (10, (.v (.v false [(.i .i64 y2)]))), (1, (.o (.box [(.s y3), (.i .i64 y4), (.i .i64 y5), (.s y6)])))]))) (fun y0 y1 y2 y3 y4 y5 y6 => (K (.exit 0) (tabl [(0, (.v (.v false [(.sh 25 y0)]))), (6, (.v (.v false [(.bp 0 0)]))), (8, (.v (.v false [(.b y1)]))), (10, (.v (.v false [(.i .i64 y2)]))), (1, (.o (.box [(.s y3), (.i .i64 y4), (.i .i64 y5), (.s y6)])))]))) x0 x1 x2 x3 x4 x5 x6 = _
    rw [e0]; rfl
theorem lo157_2 {R : Type} (N : Nat) : LoopOk E157 (it157 N (R := R)) (loopOf Try.f157 2) := by
  have e : firstRid (loopOf Try.f157 2) = 2 := by kernel_rfl
  intro L K r
  rw [e]
  intro h
  unfold it157 at h
  simp only [show Nat.beq 2 2 = true from rfl, cond_false, cond_true] at h
  refine tell_ok (Q := fun L => ∃ n, iter (exc E157 (it157 N) (loopOf Try.f157 2)) (canon (E157.keep 2)) n (tabl L) K = some r) h (fun xs h => ?_) (fun h => ?_)
  · (try dsimp only at h)
    split at h
    · exact ⟨N, ((e157_2 N K N) _ _ _ _ _ _ _).trans h⟩
    · cases h
  cases h
def sp157 : List Arg → Option (Bool × Res)
  | [(.v false [(.sh 25 list0)]), (.v true [(.s e1_0), (.i .i64 e1_1), (.i .i64 e1_2), (.s e1_3)])] => some (Pu.spec_l18In.c list0 e1_0 e1_1 e1_2 e1_3, ⟨[(.v false [(.b (Pu.spec_l18In.v list0 e1_0 e1_1 e1_2 e1_3))])], []⟩)
  | _ => none
theorem ok157 : FnOk Try.prog T 157 sp157 := by
  refine fn_ok (E := E157) hE call_nil hM Try.func157 (code := (Try.f157.body.getD .skip)) (by kernel_rfl) (by kernel_rfl) ?_
  have key : ∀ (list0 : Row) (e1_0 : ByteArray) (e1_1 : Int) (e1_2 : Int) (e1_3 : ByteArray), Pu.spec_l18In.c list0 e1_0 e1_1 e1_2 e1_3 = true → ∃ it : It Res, (∀ c ∈ loopsOf (Try.f157.body.getD .skip), LoopOk E157 it c) ∧ body E157 it Try.f157 [(.v false [(.sh 25 list0)]), (.v true [(.s e1_0), (.i .i64 e1_1), (.i .i64 e1_2), (.s e1_3)])] = some ⟨[(.v false [(.b (Pu.spec_l18In.v list0 e1_0 e1_1 e1_2 e1_3))])], []⟩ := by
    intro list0 e1_0 e1_1 e1_2 e1_3  h1
    obtain ⟨N, hN⟩ := Pu.spec_l18In.b_eq (R := Res) (fun r0 => some ⟨[(.v false [(.b r0)])], []⟩) list0 e1_0 e1_1 e1_2 e1_3 h1
    have hl : loopsOf (Try.f157.body.getD .skip) = [loopOf Try.f157 2] := by kernel_rfl
    refine ⟨it157 N, by rw [hl]; exact (loops_cons (lo157_2 N) loops_nil), ?_⟩
    refine Eq.trans (show body E157 (it157 N) Try.f157 [(.v false [(.sh 25 list0)]), (.v true [(.s e1_0), (.i .i64 e1_1), (.i .i64 e1_2), (.s e1_3)])] = Pu.spec_l18In.b N (fun r0 => some ⟨[(.v false [(.b r0)])], []⟩) list0 e1_0 e1_1 e1_2 e1_3 by kernel_rfl) hN
  intro args r h
  unfold sp157 at h
  split at h
  · injection h with h
    injection h with h1 h2
    subst h2
    exact ⟨by kernel_rfl, fun hf => ⟨of_decide_eq_true (by kernel_rfl), key _ _ _ _ _ h1⟩⟩
  · cases h

end Go.FG.Se

namespace Go.FG.Se
open Go.Proofs
def E81 : Env := { toTab := T, call := Go.FG.callIn [(157, sp157)], mode := Go.FG.modeIn md, keep := Go.FG.keepIn [(2, [1, 2, 3])], tk := fun n => Go.FG.memB n [], om := Go.FG.omIn [] }
def it81 (N : Nat) {R : Type} : It R := fun rid f cn L K => bif Nat.beq rid 2 then (tell [(2, (.v (.v false [(.bp 0 0)]))), (4, (.v (.v false [(.b false)]))), (6, (.v (.v false [(.i .i64 0)]))), (1, (.o (.box [(.i .i64 0), (.sh 25 []), (.sh 9 []), (.sh 9 []), (.sh 49 []), (.i .i64 0), (.sh 175 []), (.sh 214 []), (.i .i64 0), (.sh 231 []), (.sh 3 []), (.sh 25 [])])))] (fun | [.B x0, .I x1, .I x2, .R x3, .R x4, .R x5, .R x6, .I x7, .R x8, .R x9, .I x10, .R x11, .R x12, .R x13] => Pu.spec_StoredRight.l2 N (fun y0 y1 y2 y3 y4 y5 y6 y7 y8 y9 y10 y11 y12 y13 => (K .ret (tabl [(2, (.v (.v false [(.bp 0 0)]))), (4, (.v (.v false [(.b y0)]))), (6, (.v (.v false [(.i .i64 y1)]))), (1, (.o (.box [(.i .i64 y2), (.sh 25 y3), (.sh 9 y4), (.sh 9 y5), (.sh 49 y6), (.i .i64 y7), (.sh 175 y8), (.sh 214 y9), (.i .i64 y10), (.sh 231 y11), (.sh 3 y12), (.sh 25 y13)])))]))) (fun y0 y1 y2 y3 y4 y5 y6 y7 y8 y9 y10 y11 y12 y13 => (K (.exit 0) (tabl [(2, (.v (.v false [(.bp 0 0)]))), (4, (.v (.v false [(.b y0)]))), (6, (.v (.v false [(.i .i64 y1)]))), (1, (.o (.box [(.i .i64 y2), (.sh 25 y3), (.sh 9 y4), (.sh 9 y5), (.sh 49 y6), (.i .i64 y7), (.sh 175 y8), (.sh 214 y9), (.i .i64 y10), (.sh 231 y11), (.sh 3 y12), (.sh 25 y13)])))]))) N x0 x1 x2 x3 x4 x5 x6 x7 x8 x9 x10 x11 x12 x13 | _ => none) L (none)) else none
theorem e81_2 {R : Type} (N : Nat) (K : Ex → St → Option R) : ∀ n : Nat, (∀ x0 x1 x2 x3 x4 x5 x6 x7 x8 x9 x10 x11 x12 x13, iter (exc E81 (it81 N) (loopOf Try.f81 2)) (canon (E81.keep 2))  n (tabl [(2, (.v (.v false [(.bp 0 0)]))), (4, (.v (.v false [(.b x0)]))), (6, (.v (.v false [(.i .i64 x1)]))), (1, (.o (.box [(.i .i64 x2), (.sh 25 x3), (.sh 9 x4), (.sh 9 x5), (.sh 49 x6), (.i .i64 x7), (.sh 175 x8), (.sh 214 x9), (.i .i64 x10), (.sh 231 x11), (.sh 3 x12), (.sh 25 x13)])))]) K = Pu.spec_StoredRight.l2 N (fun y0 y1 y2 y3 y4 y5 y6 y7 y8 y9 y10 y11 y12 y13 => (K .ret (tabl [(2, (.v (.v false [(.bp 0 0)]))), (4, (.v (.v false [(.b y0)]))), (6, (.v (.v false [(.i .i64 y1)]))), (1, (.o (.box [(.i .i64 y2), (.sh 25 y3), (.sh 9 y4), (.sh 9 y5), (.sh 49 y6), (.i .i64 y7), (.sh 175 y8), (.sh 214 y9), (.i .i64 y10), (.sh 231 y11), (.sh 3 y12), (.sh 25 y13)])))]))) (fun y0 y1 y2 y3 y4 y5 y6 y7 y8 y9 y10 y11 y12 y13 => (K (.exit 0) (tabl [(2, (.v (.v false [(.bp 0 0)]))), (4, (.v (.v false [(.b y0)]))), (6, (.v (.v false [(.i .i64 y1)]))), (1, (.o (.box [(.i .i64 y2), (.sh 25 y3), (.sh 9 y4), (.sh 9 y5), (.sh 49 y6), (.i .i64 y7), (.sh 175 y8), (.sh 214 y9), (.i .i64 y10), (.sh 231 y11), (.sh 3 y12), (.sh 25 y13)])))]))) n x0 x1 x2 x3 x4 x5 x6 x7 x8 x9 x10 x11 x12 x13) := by
  intro n
  induction n with
  | zero => exact (fun _ _ _ _ _ _ _ _ _ _ _ _ _ _ => rfl)
  | succ n ih =>
    have e0 : (fun x0 x1 x2 x3 x4 x5 x6 x7 x8 x9 x10 x11 x12 x13 => iter (exc E81 (it81 N) (loopOf Try.f81 2)) (canon (E81.keep 2))  n (tabl [(2, (.v (.v false [(.bp 0 0)]))), (4, (.v (.v false [(.b x0)]))), (6, (.v (.v false [(.i .i64 x1)]))), (1, (.o (.box [(.i .i64 x2), (.sh 25 x3), (.sh 9 x4), (.sh 9 x5), (.sh 49 x6), (.i .i64 x7), (.sh 175 x8), (.sh 214 x9), (.i .i64 x10), (.sh 231 x11), (.sh 3 x12), (.sh 25 x13)])))]) K) = Pu.spec_StoredRight.l2 N (fun y0 y1 y2 y3 y4 y5 y6 y7 y8 y9 y10 y11 y12 y13 => (K .ret (tabl [(2, (.v (.v false [(.bp 0 0)]))), (4, (.v (.v false [(.b y0)]))), (6, (.v (.v false [(.i .i64 y1)]))), (1, (.o (.box [(.i .i64 y2), (.sh 25 y3), (.sh 9 y4), (.sh 9 y5), (.sh 49 y6), (.i .i64 y7), (.sh 175 y8), (.sh 214 y9), (.i .i64 y10), (.sh 231 y11), (.sh 3 y12), (.sh 25 y13)])))]))) (fun y0 y1 y2 y3 y4 y5 y6 y7 y8 y9 y10 y11 y12 y13 => (K (.exit 0) (tabl [(2, (.v (.v false [(.bp 0 0)]))), (4, (.v (.v false [(.b y0)]))), (6, (.v (.v false [(.i .i64 y1)]))), (1, (.o (.box [(.i .i64 y2), (.sh 25 y3), (.sh 9 y4), (.sh 9 y5), (.sh 49 y6), (.i .i64 y7), (.sh 175 y8), (.sh 214 y9), (.i .i64 y10), (.sh 231 y11), (.sh 3 y12), (.sh 25 y13)])))]))) n := by funext x0 x1 x2 x3 x4 x5 x6 x7 x8 x9 x10 x11 x12 x13; exact ih x0 x1 x2 x3 x4 x5 x6 x7 x8 x9 x10 x11 x12 x13
    intro x0 x1 x2 x3 x4 x5 x6 x7 x8 x9 x10 x11 x12 x13
    have h : ∀ g, exc E81 (it81 N) (loopOf Try.f81 2) (tabl [(2, (.v (.v false [(.bp 0 0)]))), (4, (.v (.v false [(.b x0)]))), (6, (.v (.v false [(.i .i64 x1)]))), (1, (.o (.box [(.i .i64 x2), (.sh 25 x3), (.sh 9 x4), (.sh 9 x5), (.sh 49 x6), (.i .i64 x7), (.sh 175 x8), (.sh 214 x9), (.i .i64 x10), (.sh 231 x11), (.sh 3 x12), (.sh 25 x13)])))]) (iterK g (canon (E81.keep 2)) K) = Pu.spec_StoredRight.r2 N (fun x0 x1 x2 x3 x4 x5 x6 x7 x8 x9 x10 x11 x12 x13 => (g (tabl [(2, (.v (.v false [(.bp 0 0)]))), (4, (.v (.v false [(.b x0)]))), (6, (.v (.v false [(.i .i64 x1)]))), (1, (.o (.box [(.i .i64 x2), (.sh 25 x3), (.sh 9 x4), (.sh 9 x5), (.sh 49 x6), (.i .i64 x7), (.sh 175 x8), (.sh 214 x9), (.i .i64 x10), (.sh 231 x11), (.sh 3 x12), (.sh 25 x13)])))]))) (fun y0 y1 y2 y3 y4 y5 y6 y7 y8 y9 y10 y11 y12 y13 => (K .ret (tabl [(2, (.v (.v false [(.bp 0 0)]))), (4, (.v (.v false [(.b y0)]))), (6, (.v (.v false [(.i .i64 y1)]))), (1, (.o (.box [(.i .i64 y2), (.sh 25 y3), (.sh 9 y4), (.sh 9 y5), (.sh 49 y6), (.i .i64 y7), (.sh 175 y8), (.sh 214 y9), (.i .i64 y10), (.sh 231 y11), (.sh 3 y12), (.sh 25 y13)])))]))) (fun y0 y1 y2 y3 y4 y5 y6 y7 y8 y9 y10 y11 y12 y13 => (K (.exit 0) (tabl [(2, (.v (.v false [(.bp 0 0)]))), (4, (.v (.v false [(.b y0)]))), (6, (.v (.v false [(.i .i64 y1)]))), (1, (.o (.box [(.i .i64 y2), (.sh 25 y3), (.sh 9 y4), (.sh 9 y5), (.sh 49 y6), (.i .i64 y7), (.sh 175 y8), (.sh 214 y9), (.i .i64 y10), (.sh 231 y11), (.sh 3 y12), (.sh 25 y13)])))]))) x0 x1 x2 x3 x4 x5 x6 x7 x8 x9 x10 x11 x12 x13 := by intro g; kernel_rfl
    refine (h _).trans ?_
    show Pu.spec_StoredRight.r2 N (fun x0 x1 x2 x3 x4 x5 x6 x7 x8 x9 x10 x11 x12 x13 => (iter (exc E81 (it81 N) (loopOf Try.f81 2)) (canon (E81.keep 2))  n (tabl [(2, (.v (.v false [(.bp 0 0)]))), (4, (.v (.v false [(.b x0)]))), (6, (.v (.v false [(.i .i64 x1)]))), (1, (.o (.box [(.i .i64 x2), (.sh 25 x3), (.sh 9 x4), (.sh 9 x5), (.sh 49 x6), (.i .i64 x7), (.sh 175 x8), (.sh 214 x9), (.i .i64 x10), (.sh 231 x11), (.sh 3 x12), (.sh 25 x13)])))]) K)) (fun y0 y1 y2 y3 y4 y5 y6 y7 y8 y9 y10 y11 y12 y13 => (K .ret (tabl [(2, (.v (.v false [(.bp 0 0)]))), (4, (.v (.v false [(.b y0)]))), (6, (.v (.v false [(.i .i64 y1)]))), (1, (.o (.box [(.i .i64 y2), (.sh 25 y3), (.sh 9 y4), (.sh 9 y5), (.sh 49 y6), (.i .i64 y7), (.sh 175 y8), (.sh 214 y9), (.i .i64 y10), (.sh 231 y11), (.sh 3 y12), (.sh 25 y13)])))]))) (fun y0 y1 y2 y3 y4 y5 y6 y7 y8 y9 y10 y11 y12 y13 => (K (.exit 0) (tabl [(2, (.v (.v false [(.bp 0 0)]))), (4, (.v (.v false [(.b y0)]))), (6, (.v (.v false [(.i .i64 y1)]))), (1, (.o (.box [(.i .i64 y2), (.sh 25 y3), (.sh 9 y4), (.sh 9 y5), (.sh 49 y6), (.i .i64 y7), (.sh 175 y8), (.sh 214 y9), (.i .i64 y10), (.sh 231 y11), (.sh 3 y12), (.sh 25 y13)])))]))) x0 x1 x2 x3 x4 x5 x6 x7 x8 x9 x10 x11 x12 x13 = _
    rw [e0]; rfl
theorem lo81_2 {R : Type} (N : Nat) : LoopOk E81 (it81 N (R := R)) (loopOf Try.f81 2) := by
  have e : firstRid (loopOf Try.f81 2) = 2 := by kernel_rfl
  intro L K r
  rw [e]
  intro h
  unfold it81 at h
  simp only [show Nat.beq 2 2 = true from rfl, cond_false, cond_true] at h
  refine tell_ok (Q := fun L => ∃ n, iter (exc E81 (it81 N) (loopOf Try.f81 2)) (canon (E81.keep 2)) n (tabl L) K = some r) h (fun xs h => ?_) (fun h => ?_)
  · (try dsimp only at h)
    split at h
    · exact ⟨N, ((e81_2 N K N) _ _ _ _ _ _ _ _ _ _ _ _ _ _).trans h⟩
    · cases h
  cases h
def sp81 : List Arg → Option (Bool × Res)
  | [(.v true [(.i .i64 w0_0), (.sh 25 w0_1), (.sh 9 w0_2), (.sh 9 w0_3), (.sh 49 w0_4), (.i .i64 w0_5), (.sh 175 w0_6), (.sh 214 w0_7), (.i .i64 w0_8), (.sh 231 w0_9), (.sh 3 w0_10), (.sh 25 w0_11)])] => some (Pu.spec_StoredRight.c w0_0 w0_1 w0_2 w0_3 w0_4 w0_5 w0_6 w0_7 w0_8 w0_9 w0_10 w0_11, ⟨[(.v false [(.b (Pu.spec_StoredRight.v w0_0 w0_1 w0_2 w0_3 w0_4 w0_5 w0_6 w0_7 w0_8 w0_9 w0_10 w0_11))])], []⟩)
  | _ => none
theorem ok81 : FnOk Try.prog T 81 sp81 := by
  refine fn_ok (E := E81) hE (call_cons ok157 call_nil) hM Try.func81 (code := (Try.f81.body.getD .skip)) (by kernel_rfl) (by kernel_rfl) ?_
  have key : ∀ (w0_0 : Int) (w0_1 : Row) (w0_2 : Row) (w0_3 : Row) (w0_4 : Row) (w0_5 : Int) (w0_6 : Row) (w0_7 : Row) (w0_8 : Int) (w0_9 : Row) (w0_10 : Row) (w0_11 : Row), Pu.spec_StoredRight.c w0_0 w0_1 w0_2 w0_3 w0_4 w0_5 w0_6 w0_7 w0_8 w0_9 w0_10 w0_11 = true → ∃ it : It Res, (∀ c ∈ loopsOf (Try.f81.body.getD .skip), LoopOk E81 it c) ∧ body E81 it Try.f81 [(.v true [(.i .i64 w0_0), (.sh 25 w0_1), (.sh 9 w0_2), (.sh 9 w0_3), (.sh 49 w0_4), (.i .i64 w0_5), (.sh 175 w0_6), (.sh 214 w0_7), (.i .i64 w0_8), (.sh 231 w0_9), (.sh 3 w0_10), (.sh 25 w0_11)])] = some ⟨[(.v false [(.b (Pu.spec_StoredRight.v w0_0 w0_1 w0_2 w0_3 w0_4 w0_5 w0_6 w0_7 w0_8 w0_9 w0_10 w0_11))])], []⟩ := by
    intro w0_0 w0_1 w0_2 w0_3 w0_4 w0_5 w0_6 w0_7 w0_8 w0_9 w0_10 w0_11  h1
    obtain ⟨N, hN⟩ := Pu.spec_StoredRight.b_eq (R := Res) (fun r0 => some ⟨[(.v false [(.b r0)])], []⟩) w0_0 w0_1 w0_2 w0_3 w0_4 w0_5 w0_6 w0_7 w0_8 w0_9 w0_10 w0_11 h1
    have hl : loopsOf (Try.f81.body.getD .skip) = [loopOf Try.f81 2] := by kernel_rfl
    refine ⟨it81 N, by rw [hl]; exact (loops_cons (lo81_2 N) loops_nil), ?_⟩
    refine Eq.trans (show body E81 (it81 N) Try.f81 [(.v true [(.i .i64 w0_0), (.sh 25 w0_1), (.sh 9 w0_2), (.sh 9 w0_3), (.sh 49 w0_4), (.i .i64 w0_5), (.sh 175 w0_6), (.sh 214 w0_7), (.i .i64 w0_8), (.sh 231 w0_9), (.sh 3 w0_10), (.sh 25 w0_11)])] = Pu.spec_StoredRight.b N (fun r0 => some ⟨[(.v false [(.b r0)])], []⟩) w0_0 w0_1 w0_2 w0_3 w0_4 w0_5 w0_6 w0_7 w0_8 w0_9 w0_10 w0_11 by kernel_rfl) hN
  intro args r h
  unfold sp81 at h
  split at h
  · injection h with h
    injection h with h1 h2
    subst h2
    exact ⟨by kernel_rfl, fun hf => ⟨of_decide_eq_true (by kernel_rfl), key _ _ _ _ _ _ _ _ _ _ _ _ h1⟩⟩
  · cases h

end Go.FG.Se

namespace Go.FG.Se
open Go.Proofs
def E205 : Env := { toTab := T, call := Go.FG.callIn [], mode := Go.FG.modeIn md, keep := Go.FG.keepIn [(2, [0, 3, 4, 7, 8])], tk := fun n => Go.FG.memB n [], om := Go.FG.omIn [] }
def it205 (N : Nat) {R : Type} : It R := fun rid f cn L K => bif Nat.beq rid 2 then (tell [(0, (.v (.v false [(.sh 25 [])]))), (6, (.v (.v false [(.bp 0 0)]))), (8, (.v (.v false [(.i .i64 0)]))), (14, (.v (.v false [(.i .i64 0)]))), (16, (.v (.v false [(.i .i64 0)]))), (1, (.o (.box [(.s ⟨#[]⟩), (.i .i64 0), (.i .i64 0), (.s ⟨#[]⟩)])))] (fun | [.R x0, .I x1, .I x2, .I x3, .S x4, .I x5, .I x6, .S x7] => Pu.slices_Index_Entry.l2 N (fun y0 y1 y2 y3 y4 y5 y6 y7 => (K .ret (tabl [(0, (.v (.v false [(.sh 25 y0)]))), (6, (.v (.v false [(.bp 0 0)]))), (8, (.v (.v false [(.i .i64 y1)]))), (14, (.v (.v false [(.i .i64 y2)]))), (16, (.v (.v false [(.i .i64 y3)]))), (1, (.o (.box [(.s y4), (.i .i64 y5), (.i .i64 y6), (.s y7)])))]))) (fun y0 y1 y2 y3 y4 y5 y6 y7 => (K (.exit 0) (tabl [(0, (.v (.v false [(.sh 25 y0)]))), (6, (.v (.v false [(.bp 0 0)]))), (8, (.v (.v false [(.i .i64 y1)]))), (14, (.v (.v false [(.i .i64 y2)]))), (16, (.v (.v false [(.i .i64 y3)]))), (1, (.o (.box [(.s y4), (.i .i64 y5), (.i .i64 y6), (.s y7)])))]))) N x0 x1 x2 x3 x4 x5 x6 x7 | _ => none) L (none)) else none
theorem e205_2 {R : Type} (N : Nat) (K : Ex → St → Option R) : ∀ n : Nat, (∀ x0 x1 x2 x3 x4 x5 x6 x7, iter (exc E205 (it205 N) (loopOf Try.f205 2)) (canon (E205.keep 2))  n (tabl [(0, (.v (.v false [(.sh 25 x0)]))), (6, (.v (.v false [(.bp 0 0)]))), (8, (.v (.v false [(.i .i64 x1)]))), (14, (.v (.v false [(.i .i64 x2)]))), (16, (.v (.v false [(.i .i64 x3)]))), (1, (.o (.box [(.s x4), (.i .i64 x5), (.i .i64 x6), (.s x7)])))]) K = Pu.slices_Index_Entry.l2 N (fun y0 y1 y2 y3 y4 y5 y6 y7 => (K .ret (tabl [(0, (.v (.v false [(.sh 25 y0)]))), (6, (.v (.v false [(.bp 0 0)]))), (8, (.v (.v false [(.i .i64 y1)]))), (14, (.v (.v false [(.i .i64 y2)]))), (16, (.v (.v false [(.i .i64 y3)]))), (1, (.o (.box [(.s y4), (.i .i64 y5), (.i .i64 y6), (.s y7)])))]))) (fun y0 y1 y2 y3 y4 y5 y6 y7 => (K (.exit 0) (tabl [(0, (.v (.v false [(.sh 25 y0)]))), (6, (.v (.v false [(.bp 0 0)]))), (8, (.v (.v false [(.i .i64 y1)]))), (14, (.v (.v false [(.i .i64 y2)]))), (16, (.v (.v false [(.i .i64 y3)]))), (1, (.o (.box [(.s y4), (.i .i64 y5), (.i .i64 y6), (.s y7)])))]))) n x0 x1 x2 x3 x4 x5 x6 x7) := by
  intro n
  induction n with
  | zero => exact (fun _ _ _ _ _ _ _ _ => rfl)
  | succ n ih =>
    have e0 : (fun x0 x1 x2 x3 x4 x5 x6 x7 => iter (exc E205 (it205 N) (loopOf Try.f205 2)) (canon (E205.keep 2))  n (tabl [(0, (.v (.v false [(.sh 25 x0)]))), (6, (.v (.v false [(.bp 0 0)]))), (8, (.v (.v false [(.i .i64 x1)]))), (14, (.v (.v false [(.i .i64 x2)]))), (16, (.v (.v false [(.i .i64 x3)]))), (1, (.o (.box [(.s x4), (.i .i64 x5), (.i .i64 x6), (.s x7)])))]) K) = Pu.slices_Index_Entry.l2 N (fun y0 y1 y2 y3 y4 y5 y6 y7 => (K .ret (tabl [(0, (.v (.v false [(.sh 25 y0)]))), (6, (.v (.v false [(.bp 0 0)]))), (8, (.v (.v false [(.i .i64 y1)]))), (14, (.v (.v false [(.i .i64 y2)]))), (16, (.v (.v false [(.i .i64 y3)]))), (1, (.o (.box [(.s y4), (.i .i64 y5), (.i .i64 y6), (.s y7)])))]))) (fun y0 y1 y2 y3 y4 y5 y6 y7 => (K (.exit 0) (tabl [(0, (.v (.v false [(.sh 25 y0)]))), (6, (.v (.v false [(.bp 0 0)]))), (8, (.v (.v false [(.i .i64 y1)]))), (14, (.v (.v false [(.i .i64 y2)]))), (16, (.v (.v false [(.i .i64 y3)]))), (1, (.o (.box [(.s y4), (.i .i64 y5), (.i .i64 y6), (.s y7)])))]))) n := by funext x0 x1 x2 x3 x4 x5 x6 x7; exact ih x0 x1 x2 x3 x4 x5 x6 x7
    intro x0 x1 x2 x3 x4 x5 x6 x7
    have h : ∀ g, exc E205 (it205 N) (loopOf Try.f205 2) (tabl [(0, (.v (.v false [(.sh 25 x0)]))), (6, (.v (.v false [(.bp 0 0)]))), (8, (.v (.v false [(.i .i64 x1)]))), (14, (.v (.v false [(.i .i64 x2)]))), (16, (.v (.v false [(.i .i64 x3)]))), (1, (.o (.box [(.s x4), (.i .i64 x5), (.i .i64 x6), (.s x7)])))]) (iterK g (canon (E205.keep 2)) K) = Pu.slices_Index_Entry.r2 N (fun x0 x1 x2 x3 x4 x5 x6 x7 => (g (tabl [(0, (.v (.v false [(.sh 25 x0)]))), (6, (.v (.v false [(.bp 0 0)]))), (8, (.v (.v false [(.i .i64 x1)]))), (14, (.v (.v false [(.i .i64 x2)]))), (16, (.v (.v false [(.i .i64 x3)]))), (1, (.o (.box [(.s x4), (.i .i64 x5), (.i .i64 x6), (.s x7)])))]))) (fun y0 y1 y2 y3 y4 y5 y6 y7 => (K .ret (tabl [(0, (.v (.v false [(.sh 25 y0)]))), (6, (.v (.v false [(.bp 0 0)]))), (8, (.v (.v false [(.i .i64 y1)]))), (14, (.v (.v false [(.i .i64 y2)]))), (16, (.v (.v false [(.i .i64 y3)]))), (1, (.o (.box [(.s y4), (.i .i64 y5), (.i .i64 y6), (.s y7)])))]))) (fun y0 y1 y2 y3 y4 y5 y6 y7 => (K (.exit 0) (tabl [(0, (.v (.v false [(.sh 25 y0)]))), (6, (.v (.v false [(.bp 0 0)]))), (8, (.v (.v false [(.i .i64 y1)]))), (14, (.v (.v false [(.i .i64 y2)]))), (16, (.v (.v false [(.i .i64 y3)]))), (1, (.o (.box [(.s y4), (.i .i64 y5), (.i .i64 y6), (.s y7)])))]))) x0 x1 x2 x3 x4 x5 x6 x7 := by intro g; kernel_rfl
    refine (h _).trans ?_
    show Pu.slices_Index_Entry.r2 N (fun x0 x1 x2 x3 x4 x5 x6 x7 => (iter (exc E205 (it205 N) (loopOf Try.f205 2)) (canon (E205.keep 2))  n (tabl [(0, (.v (.v false [(.sh 25 x0)]))), (6, (.v (.v false [(.bp 0 0)]))), (8, (.v (.v false [(.i .i64 x1)]))), (14, (.v (.v false [(.i .i64 x2)]))), (16, (.v (.v false [(.i .i64 x3)]))), (1, (.o (.box [(.s x4), (.i .i64 x5), (.i .i64 x6), (.s x7)])))]) K)) (fun y0 y1 y2 y3 y4 y5 y6 y7 => (K .ret (tabl [(0, (.v (.v false [(.sh 25 y0)]))), (6, (.v (.v false [(.bp 0 0)]))), (8, (.v (.v false [(.i .i64 y1)]))), (14, (.v (.v false [(.i .i64 y2)]))), (16, (.v (.v false [(.i .i64 y3)]))), (1, (.o (.box [(.s y4), (.i .i64 y5), (.i .i64 y6), (.s y7)])))]))) (fun y0 y1 y2 y3 y4 y5 y6 y7 => (K (.exit 0) (tabl [(0, (.v (.v false [(.sh 25 y0)]))), (6, (.v (.v false [(.bp 0 0)]))), (8, (.v (.v false [(.i .i64 y1)]))), (14, (.v (.v false [(.i .i64 y2)]))), (16, (.v (.v false [(.i .i64 y3)]))), (1, (.o (.box [(.s y4), (.i .i64 y5), (.i .i64 y6), (.s y7)])))]))) x0 x1 x2 x3 x4 x5 x6 x7 = _
    rw [e0]; rfl
theorem lo205_2 {R : Type} (N : Nat) : LoopOk E205 (it205 N (R := R)) (loopOf Try.f205 2) := by
  have e : firstRid (loopOf Try.f205 2) = 2 := by kernel_rfl
  intro L K r
  rw [e]
  intro h
  unfold it205 at h
  simp only [show Nat.beq 2 2 = true from rfl, cond_false, cond_true] at h
  refine tell_ok (Q := fun L => ∃ n, iter (exc E205 (it205 N) (loopOf Try.f205 2)) (canon (E205.keep 2)) n (tabl L) K = some r) h (fun xs h => ?_) (fun h => ?_)
  · (try dsimp only at h)
    split at h
    · exact ⟨N, ((e205_2 N K N) _ _ _ _ _ _ _ _).trans h⟩
    · cases h
  cases h
def sp205 : List Arg → Option (Bool × Res)
  | [(.v false [(.sh 25 s0)]), (.v true [(.s v1_0), (.i .i64 v1_1), (.i .i64 v1_2), (.s v1_3)])] => some (Pu.slices_Index_Entry.c s0 v1_0 v1_1 v1_2 v1_3, ⟨[(.v false [(.i .i64 (Pu.slices_Index_Entry.v s0 v1_0 v1_1 v1_2 v1_3))])], []⟩)
  | _ => none
theorem ok205 : FnOk Try.prog T 205 sp205 := by
  refine fn_ok (E := E205) hE call_nil hM Try.func205 (code := (Try.f205.body.getD .skip)) (by kernel_rfl) (by kernel_rfl) ?_
  have key : ∀ (s0 : Row) (v1_0 : ByteArray) (v1_1 : Int) (v1_2 : Int) (v1_3 : ByteArray), Pu.slices_Index_Entry.c s0 v1_0 v1_1 v1_2 v1_3 = true → ∃ it : It Res, (∀ c ∈ loopsOf (Try.f205.body.getD .skip), LoopOk E205 it c) ∧ body E205 it Try.f205 [(.v false [(.sh 25 s0)]), (.v true [(.s v1_0), (.i .i64 v1_1), (.i .i64 v1_2), (.s v1_3)])] = some ⟨[(.v false [(.i .i64 (Pu.slices_Index_Entry.v s0 v1_0 v1_1 v1_2 v1_3))])], []⟩ := by
    intro s0 v1_0 v1_1 v1_2 v1_3  h1
    obtain ⟨N, hN⟩ := Pu.slices_Index_Entry.b_eq (R := Res) (fun r0 => some ⟨[(.v false [(.i .i64 r0)])], []⟩) s0 v1_0 v1_1 v1_2 v1_3 h1
    have hl : loopsOf (Try.f205.body.getD .skip) = [loopOf Try.f205 2] := by kernel_rfl
    refine ⟨it205 N, by rw [hl]; exact (loops_cons (lo205_2 N) loops_nil), ?_⟩
    refine Eq.trans (show body E205 (it205 N) Try.f205 [(.v false [(.sh 25 s0)]), (.v true [(.s v1_0), (.i .i64 v1_1), (.i .i64 v1_2), (.s v1_3)])] = Pu.slices_Index_Entry.b N (fun r0 => some ⟨[(.v false [(.i .i64 r0)])], []⟩) s0 v1_0 v1_1 v1_2 v1_3 by kernel_rfl) hN
  intro args r h
  unfold sp205 at h
  split at h
  · injection h with h
    injection h with h1 h2
    subst h2
    exact ⟨by kernel_rfl, fun hf => ⟨of_decide_eq_true (by kernel_rfl), key _ _ _ _ _ h1⟩⟩
  · cases h

end Go.FG.Se

namespace Go.FG.Se
open Go.Proofs
def E159 : Env := { toTab := T, call := Go.FG.callIn [(205, sp205)], mode := Go.FG.modeIn md, keep := Go.FG.keepIn [], tk := fun n => Go.FG.memB n [], om := Go.FG.omIn [] }
def sp159 : List Arg → Option (Bool × Res)
  | [(.v false [(.sh 25 s0)]), (.v true [(.s v1_0), (.i .i64 v1_1), (.i .i64 v1_2), (.s v1_3)])] => some (Pu.slices_Contains_Entry.c s0 v1_0 v1_1 v1_2 v1_3, ⟨[(.v false [(.b (Pu.slices_Contains_Entry.v s0 v1_0 v1_1 v1_2 v1_3))])], []⟩)
  | _ => none
theorem ok159 : FnOk Try.prog T 159 sp159 := by
  refine fn_ok (E := E159) hE (call_cons ok205 call_nil) hM Try.func159 (code := (Try.f159.body.getD .skip)) (by kernel_rfl) (by kernel_rfl) ?_
  have key : ∀ (s0 : Row) (v1_0 : ByteArray) (v1_1 : Int) (v1_2 : Int) (v1_3 : ByteArray), Pu.slices_Contains_Entry.c s0 v1_0 v1_1 v1_2 v1_3 = true → ∃ it : It Res, (∀ c ∈ loopsOf (Try.f159.body.getD .skip), LoopOk E159 it c) ∧ body E159 it Try.f159 [(.v false [(.sh 25 s0)]), (.v true [(.s v1_0), (.i .i64 v1_1), (.i .i64 v1_2), (.s v1_3)])] = some ⟨[(.v false [(.b (Pu.slices_Contains_Entry.v s0 v1_0 v1_1 v1_2 v1_3))])], []⟩ := by
    intro s0 v1_0 v1_1 v1_2 v1_3  h1
    have hN := Pu.slices_Contains_Entry.b_eq (R := Res) (fun r0 => some ⟨[(.v false [(.b r0)])], []⟩) s0 v1_0 v1_1 v1_2 v1_3 h1
    have hl : loopsOf (Try.f159.body.getD .skip) = [] := by kernel_rfl
    refine ⟨iterN 0, by rw [hl]; exact loops_nil, ?_⟩
    refine Eq.trans (show body E159 (iterN 0) Try.f159 [(.v false [(.sh 25 s0)]), (.v true [(.s v1_0), (.i .i64 v1_1), (.i .i64 v1_2), (.s v1_3)])] = Pu.slices_Contains_Entry.b (fun r0 => some ⟨[(.v false [(.b r0)])], []⟩) s0 v1_0 v1_1 v1_2 v1_3 by kernel_rfl) hN
  intro args r h
  unfold sp159 at h
  split at h
  · injection h with h
    injection h with h1 h2
    subst h2
    exact ⟨by kernel_rfl, fun hf => ⟨of_decide_eq_true (by kernel_rfl), key _ _ _ _ _ h1⟩⟩
  · cases h

end Go.FG.Se

namespace Go.FG.Se
open Go.Proofs
def E83 : Env := { toTab := T, call := Go.FG.callIn [(159, sp159)], mode := Go.FG.modeIn md, keep := Go.FG.keepIn [(2, [1, 2, 7, 8, 9])], tk := fun n => Go.FG.memB n [], om := Go.FG.omIn [] }
def it83 (N : Nat) {R : Type} : It R := fun rid f cn L K => bif Nat.beq rid 2 then (tell [(2, (.v (.v false [(.bp 0 0)]))), (4, (.v (.v false [(.b false)]))), (14, (.v (.v false [(.sh 25 [])]))), (16, (.v (.v false [(.i .i64 0)]))), (18, (.v (.v false [(.i .i64 0)]))), (1, (.o (.box [(.i .i64 0), (.sh 25 []), (.sh 9 []), (.sh 9 []), (.sh 49 []), (.i .i64 0), (.sh 175 []), (.sh 214 []), (.i .i64 0), (.sh 231 []), (.sh 3 []), (.sh 25 [])])))] (fun | [.B x0, .R x1, .I x2, .I x3, .I x4, .R x5, .R x6, .R x7, .R x8, .I x9, .R x10, .R x11, .I x12, .R x13, .R x14, .R x15] => Pu.impl_StoredRight.l2 N (fun y0 y1 y2 y3 y4 y5 y6 y7 y8 y9 y10 y11 y12 y13 y14 y15 => (K .ret (tabl [(2, (.v (.v false [(.bp 0 0)]))), (4, (.v (.v false [(.b y0)]))), (14, (.v (.v false [(.sh 25 y1)]))), (16, (.v (.v false [(.i .i64 y2)]))), (18, (.v (.v false [(.i .i64 y3)]))), (1, (.o (.box [(.i .i64 y4), (.sh 25 y5), (.sh 9 y6), (.sh 9 y7), (.sh 49 y8), (.i .i64 y9), (.sh 175 y10), (.sh 214 y11), (.i .i64 y12), (.sh 231 y13), (.sh 3 y14), (.sh 25 y15)])))]))) (fun y0 y1 y2 y3 y4 y5 y6 y7 y8 y9 y10 y11 y12 y13 y14 y15 => (K (.exit 0) (tabl [(2, (.v (.v false [(.bp 0 0)]))), (4, (.v (.v false [(.b y0)]))), (14, (.v (.v false [(.sh 25 y1)]))), (16, (.v (.v false [(.i .i64 y2)]))), (18, (.v (.v false [(.i .i64 y3)]))), (1, (.o (.box [(.i .i64 y4), (.sh 25 y5), (.sh 9 y6), (.sh 9 y7), (.sh 49 y8), (.i .i64 y9), (.sh 175 y10), (.sh 214 y11), (.i .i64 y12), (.sh 231 y13), (.sh 3 y14), (.sh 25 y15)])))]))) N x0 x1 x2 x3 x4 x5 x6 x7 x8 x9 x10 x11 x12 x13 x14 x15 | _ => none) L (none)) else none
theorem e83_2 {R : Type} (N : Nat) (K : Ex → St → Option R) : ∀ n : Nat, (∀ x0 x1 x2 x3 x4 x5 x6 x7 x8 x9 x10 x11 x12 x13 x14 x15, iter (exc E83 (it83 N) (loopOf Try.f83 2)) (canon (E83.keep 2))  n (tabl [(2, (.v (.v false [(.bp 0 0)]))), (4, (.v (.v false [(.b x0)]))), (14, (.v (.v false [(.sh 25 x1)]))), (16, (.v (.v false [(.i .i64 x2)]))), (18, (.v (.v false [(.i .i64 x3)]))), (1, (.o (.box [(.i .i64 x4), (.sh 25 x5), (.sh 9 x6), (.sh 9 x7), (.sh 49 x8), (.i .i64 x9), (.sh 175 x10), (.sh 214 x11), (.i .i64 x12), (.sh 231 x13), (.sh 3 x14), (.sh 25 x15)])))]) K = Pu.impl_StoredRight.l2 N (fun y0 y1 y2 y3 y4 y5 y6 y7 y8 y9 y10 y11 y12 y13 y14 y15 => (K .ret (tabl [(2, (.v (.v false [(.bp 0 0)]))), (4, (.v (.v false [(.b y0)]))), (14, (.v (.v false [(.sh 25 y1)]))), (16, (.v (.v false [(.i .i64 y2)]))), (18, (.v (.v false [(.i .i64 y3)]))), (1, (.o (.box [(.i .i64 y4), (.sh 25 y5), (.sh 9 y6), (.sh 9 y7), (.sh 49 y8), (.i .i64 y9), (.sh 175 y10), (.sh 214 y11), (.i .i64 y12), (.sh 231 y13), (.sh 3 y14), (.sh 25 y15)])))]))) (fun y0 y1 y2 y3 y4 y5 y6 y7 y8 y9 y10 y11 y12 y13 y14 y15 => (K (.exit 0) (tabl [(2, (.v (.v false [(.bp 0 0)]))), (4, (.v (.v false [(.b y0)]))), (14, (.v (.v false [(.sh 25 y1)]))), (16, (.v (.v false [(.i .i64 y2)]))), (18, (.v (.v false [(.i .i64 y3)]))), (1, (.o (.box [(.i .i64 y4), (.sh 25 y5), (.sh 9 y6), (.sh 9 y7), (.sh 49 y8), (.i .i64 y9), (.sh 175 y10), (.sh 214 y11), (.i .i64 y12), (.sh 231 y13), (.sh 3 y14), (.sh 25 y15)])))]))) n x0 x1 x2 x3 x4 x5 x6 x7 x8 x9 x10 x11 x12 x13 x14 x15) := by
  intro n
  induction n with
  | zero => exact (fun _ _ _ _ _ _ _ _ _ _ _ _ _ _ _ _ => rfl)
  | succ n ih =>
    have e0 : (fun x0 x1 x2 x3 x4 x5 x6 x7 x8 x9 x10 x11 x12 x13 x14 x15 => iter (exc E83 (it83 N) (loopOf Try.f83 2)) (canon (E83.keep 2))  n (tabl [(2, (.v (.v false [(.bp 0 0)]))), (4, (.v (.v false [(.b x0)]))), (14, (.v (.v false [(.sh 25 x1)]))), (16, (.v (.v false [(.i .i64 x2)]))), (18, (.v (.v false [(.i .i64 x3)]))), (1, (.o (.box [(.i .i64 x4), (.sh 25 x5), (.sh 9 x6), (.sh 9 x7), (.sh 49 x8), (.i .i64 x9), (.sh 175 x10), (.sh 214 x11), (.i .i64 x12), (.sh 231 x13), (.sh 3 x14), (.sh 25 x15)])))]) K) = Pu.impl_StoredRight.l2 N (fun y0 y1 y2 y3 y4 y5 y6 y7 y8 y9 y10 y11 y12 y13 y14 y15 => (K .ret (tabl [(2, (.v (.v false [(.bp 0 0)]))), (4, (.v (.v false [(.b y0)]))), (14, (.v (.v false [(.sh 25 y1)]))), (16, (.v (.v false [(.i .i64 y2)]))), (18, (.v (.v false [(.i .i64 y3)]))), (1, (.o (.box [(.i .i64 y4), (.sh 25 y5), (.sh 9 y6), (.sh 9 y7), (.sh 49 y8), (.i .i64 y9), (.sh 175 y10), (.sh 214 y11), (.i .i64 y12), (.sh 231 y13), (.sh 3 y14), (.sh 25 y15)])))]))) (fun y0 y1 y2 y3 y4 y5 y6 y7 y8 y9 y10 y11 y12 y13 y14 y15 => (K (.exit 0) (tabl [(2, (.v (.v false [(.bp 0 0)]))), (4, (.v (.v false [(.b y0)]))), (14, (.v (.v false [(.sh 25 y1)]))), (16, (.v (.v false [(.i .i64 y2)]))), (18, (.v (.v false [(.i .i64 y3)]))), (1, (.o (.box [(.i .i64 y4), (.sh 25 y5), (.sh 9 y6), (.sh 9 y7), (.sh 49 y8), (.i .i64 y9), (.sh 175 y10), (.sh 214 y11), (.i .i64 y12), (.sh 231 y13), (.sh 3 y14), (.sh 25 y15)])))]))) n := by funext x0 x1 x2 x3 x4 x5 x6 x7 x8 x9 x10 x11 x12 x13 x14 x15; exact ih x0 x1 x2 x3 x4 x5 x6 x7 x8 x9 x10 x11 x12 x13 x14 x15
    intro x0 x1 x2 x3 x4 x5 x6 x7 x8 x9 x10 x11 x12 x13 x14 x15
    have h : ∀ g, exc E83 (it83 N) (loopOf Try.f83 2) (tabl [(2, (.v (.v false [(.bp 0 0)]))), (4, (.v (.v false [(.b x0)]))), (14, (.v (.v false [(.sh 25 x1)]))), (16, (.v (.v false [(.i .i64 x2)]))), (18, (.v (.v false [(.i .i64 x3)]))), (1, (.o (.box [(.i .i64 x4), (.sh 25 x5), (.sh 9 x6), (.sh 9 x7), (.sh 49 x8), (.i .i64 x9), (.sh 175 x10), (.sh 214 x11), (.i .i64 x12), (.sh 231 x13), (.sh 3 x14), (.sh 25 x15)])))]) (iterK g (canon (E83.keep 2)) K) = Pu.impl_StoredRight.r2 N (fun x0 x1 x2 x3 x4 x5 x6 x7 x8 x9 x10 x11 x12 x13 x14 x15 => (g (tabl [(2, (.v (.v false [(.bp 0 0)]))), (4, (.v (.v false [(.b x0)]))), (14, (.v (.v false [(.sh 25 x1)]))), (16, (.v (.v false [(.i .i64 x2)]))), (18, (.v (.v false [(.i .i64 x3)]))), (1, (.o (.box [(.i .i64 x4), (.sh 25 x5), (.sh 9 x6), (.sh 9 x7), (.sh 49 x8), (.i .i64 x9), (.sh 175 x10), (.sh 214 x11), (.i .i64 x12), (.sh 231 x13), (.sh 3 x14), (.sh 25 x15)])))]))) (fun y0 y1 y2 y3 y4 y5 y6 y7 y8 y9 y10 y11 y12 y13 y14 y15 => (K .ret (tabl [(2, (.v (.v false [(.bp 0 0)]))), (4, (.v (.v false [(.b y0)]))), (14, (.v (.v false [(.sh 25 y1)]))), (16, (.v (.v false [(.i .i64 y2)]))), (18, (.v (.v false [(.i .i64 y3)]))), (1, (.o (.box [(.i .i64 y4), (.sh 25 y5), (.sh 9 y6), (.sh 9 y7), (.sh 49 y8), (.i .i64 y9), (.sh 175 y10), (.sh 214 y11), (.i .i64 y12), (.sh 231 y13), (.sh 3 y14), (.sh 25 y15)])))]))) (fun y0 y1 y2 y3 y4 y5 y6 y7 y8 y9 y10 y11 y12 y13 y14 y15 => (K (.exit 0) (tabl [(2, (.v (.v false [(.bp 0 0)]))), (4, (.v (.v false [(.b y0)]))), (14, (.v (.v false [(.sh 25 y1)]))), (16, (.v (.v false [(.i .i64 y2)]))), (18, (.v (.v false [(.i .i64 y3)]))), (1, (.o (.box [(.i .i64 y4), (.sh 25 y5), (.sh 9 y6), (.sh 9 y7), (.sh 49 y8), (.i .i64 y9), (.sh 175 y10), (.sh 214 y11), (.i .i64 y12), (.sh 231 y13), (.sh 3 y14), (.sh 25 y15)])))]))) x0 x1 x2 x3 x4 x5 x6 x7 x8 x9 x10 x11 x12 x13 x14 x15 := by intro g; kernel_rfl
    refine (h _).trans ?_
    show Pu.impl_StoredRight.r2 N (fun x0 x1 x2 x3 x4 x5 x6 x7 x8 x9 x10 x11 x12 x13 x14 x15 => (iter (exc E83 (it83 N) (loopOf Try.f83 2)) (canon (E83.keep 2))  n (tabl [(2, (.v (.v false [(.bp 0 0)]))), (4, (.v (.v false [(.b x0)]))), (14, (.v (.v false [(.sh 25 x1)]))), (16, (.v (.v false [(.i .i64 x2)]))), (18, (.v (.v false [(.i .i64 x3)]))), (1, (.o (.box [(.i .i64 x4), (.sh 25 x5), (.sh 9 x6), (.sh 9 x7), (.sh 49 x8), (.i .i64 x9), (.sh 175 x10), (.sh 214 x11), (.i .i64 x12), (.sh 231 x13), (.sh 3 x14), (.sh 25 x15)])))]) K)) (fun y0 y1 y2 y3 y4 y5 y6 y7 y8 y9 y10 y11 y12 y13 y14 y15 => (K .ret (tabl [(2, (.v (.v false [(.bp 0 0)]))), (4, (.v (.v false [(.b y0)]))), (14, (.v (.v false [(.sh 25 y1)]))), (16, (.v (.v false [(.i .i64 y2)]))), (18, (.v (.v false [(.i .i64 y3)]))), (1, (.o (.box [(.i .i64 y4), (.sh 25 y5), (.sh 9 y6), (.sh 9 y7), (.sh 49 y8), (.i .i64 y9), (.sh 175 y10), (.sh 214 y11), (.i .i64 y12), (.sh 231 y13), (.sh 3 y14), (.sh 25 y15)])))]))) (fun y0 y1 y2 y3 y4 y5 y6 y7 y8 y9 y10 y11 y12 y13 y14 y15 => (K (.exit 0) (tabl [(2, (.v (.v false [(.bp 0 0)]))), (4, (.v (.v false [(.b y0)]))), (14, (.v (.v false [(.sh 25 y1)]))), (16, (.v (.v false [(.i .i64 y2)]))), (18, (.v (.v false [(.i .i64 y3)]))), (1, (.o (.box [(.i .i64 y4), (.sh 25 y5), (.sh 9 y6), (.sh 9 y7), (.sh 49 y8), (.i .i64 y9), (.sh 175 y10), (.sh 214 y11), (.i .i64 y12), (.sh 231 y13), (.sh 3 y14), (.sh 25 y15)])))]))) x0 x1 x2 x3 x4 x5 x6 x7 x8 x9 x10 x11 x12 x13 x14 x15 = _
    rw [e0]; rfl
theorem lo83_2 {R : Type} (N : Nat) : LoopOk E83 (it83 N (R := R)) (loopOf Try.f83 2) := by
  have e : firstRid (loopOf Try.f83 2) = 2 := by kernel_rfl
  intro L K r
  rw [e]
  intro h
  unfold it83 at h
  simp only [show Nat.beq 2 2 = true from rfl, cond_false, cond_true] at h
  refine tell_ok (Q := fun L => ∃ n, iter (exc E83 (it83 N) (loopOf Try.f83 2)) (canon (E83.keep 2)) n (tabl L) K = some r) h (fun xs h => ?_) (fun h => ?_)
  · (try dsimp only at h)
    split at h
    · exact ⟨N, ((e83_2 N K N) _ _ _ _ _ _ _ _ _ _ _ _ _ _ _ _).trans h⟩
    · cases h
  cases h
def sp83 : List Arg → Option (Bool × Res)
  | [(.v true [(.i .i64 w0_0), (.sh 25 w0_1), (.sh 9 w0_2), (.sh 9 w0_3), (.sh 49 w0_4), (.i .i64 w0_5), (.sh 175 w0_6), (.sh 214 w0_7), (.i .i64 w0_8), (.sh 231 w0_9), (.sh 3 w0_10), (.sh 25 w0_11)])] => some (Pu.impl_StoredRight.c w0_0 w0_1 w0_2 w0_3 w0_4 w0_5 w0_6 w0_7 w0_8 w0_9 w0_10 w0_11, ⟨[(.v false [(.b (Pu.impl_StoredRight.v w0_0 w0_1 w0_2 w0_3 w0_4 w0_5 w0_6 w0_7 w0_8 w0_9 w0_10 w0_11))])], []⟩)
  | _ => none
theorem ok83 : FnOk Try.prog T 83 sp83 := by
  refine fn_ok (E := E83) hE (call_cons ok159 call_nil) hM Try.func83 (code := (Try.f83.body.getD .skip)) (by kernel_rfl) (by kernel_rfl) ?_
  have key : ∀ (w0_0 : Int) (w0_1 : Row) (w0_2 : Row) (w0_3 : Row) (w0_4 : Row) (w0_5 : Int) (w0_6 : Row) (w0_7 : Row) (w0_8 : Int) (w0_9 : Row) (w0_10 : Row) (w0_11 : Row), Pu.impl_StoredRight.c w0_0 w0_1 w0_2 w0_3 w0_4 w0_5 w0_6 w0_7 w0_8 w0_9 w0_10 w0_11 = true → ∃ it : It Res, (∀ c ∈ loopsOf (Try.f83.body.getD .skip), LoopOk E83 it c) ∧ body E83 it Try.f83 [(.v true [(.i .i64 w0_0), (.sh 25 w0_1), (.sh 9 w0_2), (.sh 9 w0_3), (.sh 49 w0_4), (.i .i64 w0_5), (.sh 175 w0_6), (.sh 214 w0_7), (.i .i64 w0_8), (.sh 231 w0_9), (.sh 3 w0_10), (.sh 25 w0_11)])] = some ⟨[(.v false [(.b (Pu.impl_StoredRight.v w0_0 w0_1 w0_2 w0_3 w0_4 w0_5 w0_6 w0_7 w0_8 w0_9 w0_10 w0_11))])], []⟩ := by
    intro w0_0 w0_1 w0_2 w0_3 w0_4 w0_5 w0_6 w0_7 w0_8 w0_9 w0_10 w0_11  h1
    obtain ⟨N, hN⟩ := Pu.impl_StoredRight.b_eq (R := Res) (fun r0 => some ⟨[(.v false [(.b r0)])], []⟩) w0_0 w0_1 w0_2 w0_3 w0_4 w0_5 w0_6 w0_7 w0_8 w0_9 w0_10 w0_11 h1
    have hl : loopsOf (Try.f83.body.getD .skip) = [loopOf Try.f83 2] := by kernel_rfl
    refine ⟨it83 N, by rw [hl]; exact (loops_cons (lo83_2 N) loops_nil), ?_⟩
    refine Eq.trans (show body E83 (it83 N) Try.f83 [(.v true [(.i .i64 w0_0), (.sh 25 w0_1), (.sh 9 w0_2), (.sh 9 w0_3), (.sh 49 w0_4), (.i .i64 w0_5), (.sh 175 w0_6), (.sh 214 w0_7), (.i .i64 w0_8), (.sh 231 w0_9), (.sh 3 w0_10), (.sh 25 w0_11)])] = Pu.impl_StoredRight.b N (fun r0 => some ⟨[(.v false [(.b r0)])], []⟩) w0_0 w0_1 w0_2 w0_3 w0_4 w0_5 w0_6 w0_7 w0_8 w0_9 w0_10 w0_11 by kernel_rfl) hN
  intro args r h
  unfold sp83 at h
  split at h
  · injection h with h
    injection h with h1 h2
    subst h2
    exact ⟨by kernel_rfl, fun hf => ⟨of_decide_eq_true (by kernel_rfl), key _ _ _ _ _ _ _ _ _ _ _ _ h1⟩⟩
  · cases h

end Go.FG.Se

namespace Go.FG.Se
open Go.Proofs
def E154 : Env := { toTab := T, call := Go.FG.callIn [], mode := Go.FG.modeIn md, keep := Go.FG.keepIn [], tk := fun n => Go.FG.memB n [], om := Go.FG.omIn [] }
def sp154 : List Arg → Option (Bool × Res)
  | [(.v true [(.s a0_0), (.i .i64 a0_1), (.i .i64 a0_2), (.s a0_3)]), (.v true [(.s b1_0), (.i .i64 b1_1), (.i .i64 b1_2), (.s b1_3)])] => some (true, ⟨[(.v false [(.b (Pu.laws_eqEntry.v a0_0 a0_1 a0_2 a0_3 b1_0 b1_1 b1_2 b1_3))])], []⟩)
  | _ => none
theorem ok154 : FnOk Try.prog T 154 sp154 := by
  refine fn_ok (E := E154) hE call_nil hM Try.func154 (code := (Try.f154.body.getD .skip)) (by kernel_rfl) (by kernel_rfl) ?_
  have key : ∀ (a0_0 : ByteArray) (a0_1 : Int) (a0_2 : Int) (a0_3 : ByteArray) (b1_0 : ByteArray) (b1_1 : Int) (b1_2 : Int) (b1_3 : ByteArray), ∃ it : It Res, (∀ c ∈ loopsOf (Try.f154.body.getD .skip), LoopOk E154 it c) ∧ body E154 it Try.f154 [(.v true [(.s a0_0), (.i .i64 a0_1), (.i .i64 a0_2), (.s a0_3)]), (.v true [(.s b1_0), (.i .i64 b1_1), (.i .i64 b1_2), (.s b1_3)])] = some ⟨[(.v false [(.b (Pu.laws_eqEntry.v a0_0 a0_1 a0_2 a0_3 b1_0 b1_1 b1_2 b1_3))])], []⟩ := by
    intro a0_0 a0_1 a0_2 a0_3 b1_0 b1_1 b1_2 b1_3 
    have hN := Pu.laws_eqEntry.b_eq (R := Res) (fun r0 => some ⟨[(.v false [(.b r0)])], []⟩) a0_0 a0_1 a0_2 a0_3 b1_0 b1_1 b1_2 b1_3
    have hl : loopsOf (Try.f154.body.getD .skip) = [] := by kernel_rfl
    refine ⟨iterN 0, by rw [hl]; exact loops_nil, ?_⟩
    refine Eq.trans (show body E154 (iterN 0) Try.f154 [(.v true [(.s a0_0), (.i .i64 a0_1), (.i .i64 a0_2), (.s a0_3)]), (.v true [(.s b1_0), (.i .i64 b1_1), (.i .i64 b1_2), (.s b1_3)])] = Pu.laws_eqEntry.b (fun r0 => some ⟨[(.v false [(.b r0)])], []⟩) a0_0 a0_1 a0_2 a0_3 b1_0 b1_1 b1_2 b1_3 by kernel_rfl) hN
  intro args r h
  unfold sp154 at h
  split at h
  · injection h with h
    injection h with h1 h2
    subst h2
    exact ⟨by kernel_rfl, fun hf => ⟨of_decide_eq_true (by kernel_rfl), key _ _ _ _ _ _ _ _⟩⟩
  · cases h

end Go.FG.Se

namespace Go.FG.Se
open Go.Proofs
def E77 : Env := { toTab := T, call := Go.FG.callIn [(154, sp154)], mode := Go.FG.modeIn md, keep := Go.FG.keepIn [(4, [0, 1, 4, 5])], tk := fun n => Go.FG.memB n [], om := Go.FG.omIn [] }
def it77 (N : Nat) {R : Type} : It R := fun rid f cn L K => bif Nat.beq rid 4 then (tell [(0, (.v (.v false [(.sh 25 [])]))), (2, (.v (.v false [(.sh 25 [])]))), (8, (.v (.v false [(.b false)]))), (10, (.v (.v false [(.i .i64 0)])))] (fun | [.R x0, .R x1, .B x2, .I x3] => Pu.laws_eqEntryS.l4 N (fun y0 y1 y2 y3 => (K .ret (tabl [(0, (.v (.v false [(.sh 25 y0)]))), (2, (.v (.v false [(.sh 25 y1)]))), (8, (.v (.v false [(.b y2)]))), (10, (.v (.v false [(.i .i64 y3)])))]))) (fun y0 y1 y2 y3 => (K (.exit 0) (tabl [(0, (.v (.v false [(.sh 25 y0)]))), (2, (.v (.v false [(.sh 25 y1)]))), (8, (.v (.v false [(.b y2)]))), (10, (.v (.v false [(.i .i64 y3)])))]))) N x0 x1 x2 x3 | _ => none) L (none)) else none
theorem e77_4 {R : Type} (N : Nat) (K : Ex → St → Option R) : ∀ n : Nat, (∀ x0 x1 x2 x3, iter (exc E77 (it77 N) (loopOf Try.f77 4)) (canon (E77.keep 4))  n (tabl [(0, (.v (.v false [(.sh 25 x0)]))), (2, (.v (.v false [(.sh 25 x1)]))), (8, (.v (.v false [(.b x2)]))), (10, (.v (.v false [(.i .i64 x3)])))]) K = Pu.laws_eqEntryS.l4 N (fun y0 y1 y2 y3 => (K .ret (tabl [(0, (.v (.v false [(.sh 25 y0)]))), (2, (.v (.v false [(.sh 25 y1)]))), (8, (.v (.v false [(.b y2)]))), (10, (.v (.v false [(.i .i64 y3)])))]))) (fun y0 y1 y2 y3 => (K (.exit 0) (tabl [(0, (.v (.v false [(.sh 25 y0)]))), (2, (.v (.v false [(.sh 25 y1)]))), (8, (.v (.v false [(.b y2)]))), (10, (.v (.v false [(.i .i64 y3)])))]))) n x0 x1 x2 x3) := by
  intro n
  induction n with
  | zero => exact (fun _ _ _ _ => rfl)
  | succ n ih =>
    have e0 : (fun x0 x1 x2 x3 => iter (exc E77 (it77 N) (loopOf Try.f77 4)) (canon (E77.keep 4))  n (tabl [(0, (.v (.v false [(.sh 25 x0)]))), (2, (.v (.v false [(.sh 25 x1)]))), (8, (.v (.v false [(.b x2)]))), (10, (.v (.v false [(.i .i64 x3)])))]) K) = Pu.laws_eqEntryS.l4 N (fun y0 y1 y2 y3 => (K .ret (tabl [(0, (.v (.v false [(.sh 25 y0)]))), (2, (.v (.v false [(.sh 25 y1)]))), (8, (.v (.v false [(.b y2)]))), (10, (.v (.v false [(.i .i64 y3)])))]))) (fun y0 y1 y2 y3 => (K (.exit 0) (tabl [(0, (.v (.v false [(.sh 25 y0)]))), (2, (.v (.v false [(.sh 25 y1)]))), (8, (.v (.v false [(.b y2)]))), (10, (.v (.v false [(.i .i64 y3)])))]))) n := by funext x0 x1 x2 x3; exact ih x0 x1 x2 x3
    intro x0 x1 x2 x3
    have h : ∀ g, exc E77 (it77 N) (loopOf Try.f77 4) (tabl [(0, (.v (.v false [(.sh 25 x0)]))), (2, (.v (.v false [(.sh 25 x1)]))), (8, (.v (.v false [(.b x2)]))), (10, (.v (.v false [(.i .i64 x3)])))]) (iterK g (canon (E77.keep 4)) K) = Pu.laws_eqEntryS.r4 N (fun x0 x1 x2 x3 => (g (tabl [(0, (.v (.v false [(.sh 25 x0)]))), (2, (.v (.v false [(.sh 25 x1)]))), (8, (.v (.v false [(.b x2)]))), (10, (.v (.v false [(.i .i64 x3)])))]))) (fun y0 y1 y2 y3 => (K .ret (tabl [(0, (.v (.v false [(.sh 25 y0)]))), (2, (.v (.v false [(.sh 25 y1)]))), (8, (.v (.v false [(.b y2)]))), (10, (.v (.v false [(.i .i64 y3)])))]))) (fun y0 y1 y2 y3 => (K (.exit 0) (tabl [(0, (.v (.v false [(.sh 25 y0)]))), (2, (.v (.v false [(.sh 25 y1)]))), (8, (.v (.v false [(.b y2)]))), (10, (.v (.v false [(.i .i64 y3)])))]))) x0 x1 x2 x3 := by intro g; kernel_rfl
    refine (h _).trans ?_
    show Pu.laws_eqEntryS.r4 N (fun x0 x1 x2 x3 => (iter (exc E77 (it77 N) (loopOf Try.f77 4)) (canon (E77.keep 4))  n (tabl [(0, (.v (.v false [(.sh 25 x0)]))), (2, (.v (.v false [(.sh 25 x1)]))), (8, (.v (.v false [(.b x2)]))), (10, (.v (.v false [(.i .i64 x3)])))]) K)) (fun y0 y1 y2 y3 => (K .ret (tabl [(0, (.v (.v false [(.sh 25 y0)]))), (2, (.v (.v false [(.sh 25 y1)]))), (8, (.v (.v false [(.b y2)]))), (10, (.v (.v false [(.i .i64 y3)])))]))) (fun y0 y1 y2 y3 => (K (.exit 0) (tabl [(0, (.v (.v false [(.sh 25 y0)]))), (2, (.v (.v false [(.sh 25 y1)]))), (8, (.v (.v false [(.b y2)]))), (10, (.v (.v false [(.i .i64 y3)])))]))) x0 x1 x2 x3 = _
    rw [e0]; rfl
theorem lo77_4 {R : Type} (N : Nat) : LoopOk E77 (it77 N (R := R)) (loopOf Try.f77 4) := by
  have e : firstRid (loopOf Try.f77 4) = 4 := by kernel_rfl
  intro L K r
  rw [e]
  intro h
  unfold it77 at h
  simp only [show Nat.beq 4 4 = true from rfl, cond_false, cond_true] at h
  refine tell_ok (Q := fun L => ∃ n, iter (exc E77 (it77 N) (loopOf Try.f77 4)) (canon (E77.keep 4)) n (tabl L) K = some r) h (fun xs h => ?_) (fun h => ?_)
  · (try dsimp only at h)
    split at h
    · exact ⟨N, ((e77_4 N K N) _ _ _ _).trans h⟩
    · cases h
  cases h
def sp77 : List Arg → Option (Bool × Res)
  | [(.v false [(.sh 25 a0)]), (.v false [(.sh 25 b1)])] => some (Pu.laws_eqEntryS.c a0 b1, ⟨[(.v false [(.b (Pu.laws_eqEntryS.v a0 b1))])], []⟩)
  | _ => none
theorem ok77 : FnOk Try.prog T 77 sp77 := by
  refine fn_ok (E := E77) hE (call_cons ok154 call_nil) hM Try.func77 (code := (Try.f77.body.getD .skip)) (by kernel_rfl) (by kernel_rfl) ?_
  have key : ∀ (a0 : Row) (b1 : Row), Pu.laws_eqEntryS.c a0 b1 = true → ∃ it : It Res, (∀ c ∈ loopsOf (Try.f77.body.getD .skip), LoopOk E77 it c) ∧ body E77 it Try.f77 [(.v false [(.sh 25 a0)]), (.v false [(.sh 25 b1)])] = some ⟨[(.v false [(.b (Pu.laws_eqEntryS.v a0 b1))])], []⟩ := by
    intro a0 b1  h1
    obtain ⟨N, hN⟩ := Pu.laws_eqEntryS.b_eq (R := Res) (fun r0 => some ⟨[(.v false [(.b r0)])], []⟩) a0 b1 h1
    have hl : loopsOf (Try.f77.body.getD .skip) = [loopOf Try.f77 4] := by kernel_rfl
    refine ⟨it77 N, by rw [hl]; exact (loops_cons (lo77_4 N) loops_nil), ?_⟩
    refine Eq.trans (show body E77 (it77 N) Try.f77 [(.v false [(.sh 25 a0)]), (.v false [(.sh 25 b1)])] = Pu.laws_eqEntryS.b N (fun r0 => some ⟨[(.v false [(.b r0)])], []⟩) a0 b1 by kernel_rfl) hN
  intro args r h
  unfold sp77 at h
  split at h
  · injection h with h
    injection h with h1 h2
    subst h2
    exact ⟨by kernel_rfl, fun hf => ⟨of_decide_eq_true (by kernel_rfl), key _ _ h1⟩⟩
  · cases h

end Go.FG.Se

namespace Go.FG.Se
open Go.Proofs
def E181 : Env := { toTab := T, call := Go.FG.callIn [], mode := Go.FG.modeIn md, keep := Go.FG.keepIn [(4, [0, 1, 4, 5])], tk := fun n => Go.FG.memB n [], om := Go.FG.omIn [] }
def it181 (N : Nat) {R : Type} : It R := fun rid f cn L K => bif Nat.beq rid 4 then (tell [(0, (.v (.v false [(.sh 9 [])]))), (2, (.v (.v false [(.sh 9 [])]))), (8, (.v (.v false [(.b false)]))), (10, (.v (.v false [(.i .i64 0)])))] (fun | [.R x0, .R x1, .B x2, .I x3] => Pu.laws_eqStringS.l4 N (fun y0 y1 y2 y3 => (K .ret (tabl [(0, (.v (.v false [(.sh 9 y0)]))), (2, (.v (.v false [(.sh 9 y1)]))), (8, (.v (.v false [(.b y2)]))), (10, (.v (.v false [(.i .i64 y3)])))]))) (fun y0 y1 y2 y3 => (K (.exit 0) (tabl [(0, (.v (.v false [(.sh 9 y0)]))), (2, (.v (.v false [(.sh 9 y1)]))), (8, (.v (.v false [(.b y2)]))), (10, (.v (.v false [(.i .i64 y3)])))]))) N x0 x1 x2 x3 | _ => none) L (none)) else none
theorem e181_4 {R : Type} (N : Nat) (K : Ex → St → Option R) : ∀ n : Nat, (∀ x0 x1 x2 x3, iter (exc E181 (it181 N) (loopOf Try.f181 4)) (canon (E181.keep 4))  n (tabl [(0, (.v (.v false [(.sh 9 x0)]))), (2, (.v (.v false [(.sh 9 x1)]))), (8, (.v (.v false [(.b x2)]))), (10, (.v (.v false [(.i .i64 x3)])))]) K = Pu.laws_eqStringS.l4 N (fun y0 y1 y2 y3 => (K .ret (tabl [(0, (.v (.v false [(.sh 9 y0)]))), (2, (.v (.v false [(.sh 9 y1)]))), (8, (.v (.v false [(.b y2)]))), (10, (.v (.v false [(.i .i64 y3)])))]))) (fun y0 y1 y2 y3 => (K (.exit 0) (tabl [(0, (.v (.v false [(.sh 9 y0)]))), (2, (.v (.v false [(.sh 9 y1)]))), (8, (.v (.v false [(.b y2)]))), (10, (.v (.v false [(.i .i64 y3)])))]))) n x0 x1 x2 x3) := by
  intro n
  induction n with
  | zero => exact (fun _ _ _ _ => rfl)
  | succ n ih =>
    have e0 : (fun x0 x1 x2 x3 => iter (exc E181 (it181 N) (loopOf Try.f181 4)) (canon (E181.keep 4))  n (tabl [(0, (.v (.v false [(.sh 9 x0)]))), (2, (.v (.v false [(.sh 9 x1)]))), (8, (.v (.v false [(.b x2)]))), (10, (.v (.v false [(.i .i64 x3)])))]) K) = Pu.laws_eqStringS.l4 N (fun y0 y1 y2 y3 => (K .ret (tabl [(0, (.v (.v false [(.sh 9 y0)]))), (2, (.v (.v false [(.sh 9 y1)]))), (8, (.v (.v false [(.b y2)]))), (10, (.v (.v false [(.i .i64 y3)])))]))) (fun y0 y1 y2 y3 => (K (.exit 0) (tabl [(0, (.v (.v false [(.sh 9 y0)]))), (2, (.v (.v false [(.sh 9 y1)]))), (8, (.v (.v false [(.b y2)]))), (10, (.v (.v false [(.i .i64 y3)])))]))) n := by funext x0 x1 x2 x3; exact ih x0 x1 x2 x3
    intro x0 x1 x2 x3
    have h : ∀ g, exc E181 (it181 N) (loopOf Try.f181 4) (tabl [(0, (.v (.v false [(.sh 9 x0)]))), (2, (.v (.v false [(.sh 9 x1)]))), (8, (.v (.v false [(.b x2)]))), (10, (.v (.v false [(.i .i64 x3)])))]) (iterK g (canon (E181.keep 4)) K) = Pu.laws_eqStringS.r4 N (fun x0 x1 x2 x3 => (g (tabl [(0, (.v (.v false [(.sh 9 x0)]))), (2, (.v (.v false [(.sh 9 x1)]))), (8, (.v (.v false [(.b x2)]))), (10, (.v (.v false [(.i .i64 x3)])))]))) (fun y0 y1 y2 y3 => (K .ret (tabl [(0, (.v (.v false [(.sh 9 y0)]))), (2, (.v (.v false [(.sh 9 y1)]))), (8, (.v (.v false [(.b y2)]))), (10, (.v (.v false [(.i .i64 y3)])))]))) (fun y0 y1 y2 y3 => (K (.exit 0) (tabl [(0, (.v (.v false [(.sh 9 y0)]))), (2, (.v (.v false [(.sh 9 y1)]))), (8, (.v (.v false [(.b y2)]))), (10, (.v (.v false [(.i .i64 y3)])))]))) x0 x1 x2 x3 := by intro g; kernel_rfl
    refine (h _).trans ?_
    show Pu.laws_eqStringS.r4 N (fun x0 x1 x2 x3 => (iter (exc E181 (it181 N) (loopOf Try.f181 4)) (canon (E181.keep 4))  n (tabl [(0, (.v (.v false [(.sh 9 x0)]))), (2, (.v (.v false [(.sh 9 x1)]))), (8, (.v (.v false [(.b x2)]))), (10, (.v (.v false [(.i .i64 x3)])))]) K)) (fun y0 y1 y2 y3 => (K .ret (tabl [(0, (.v (.v false [(.sh 9 y0)]))), (2, (.v (.v false [(.sh 9 y1)]))), (8, (.v (.v false [(.b y2)]))), (10, (.v (.v false [(.i .i64 y3)])))]))) (fun y0 y1 y2 y3 => (K (.exit 0) (tabl [(0, (.v (.v false [(.sh 9 y0)]))), (2, (.v (.v false [(.sh 9 y1)]))), (8, (.v (.v false [(.b y2)]))), (10, (.v (.v false [(.i .i64 y3)])))]))) x0 x1 x2 x3 = _
    rw [e0]; rfl
theorem lo181_4 {R : Type} (N : Nat) : LoopOk E181 (it181 N (R := R)) (loopOf Try.f181 4) := by
  have e : firstRid (loopOf Try.f181 4) = 4 := by kernel_rfl
  intro L K r
  rw [e]
  intro h
  unfold it181 at h
  simp only [show Nat.beq 4 4 = true from rfl, cond_false, cond_true] at h
  refine tell_ok (Q := fun L => ∃ n, iter (exc E181 (it181 N) (loopOf Try.f181 4)) (canon (E181.keep 4)) n (tabl L) K = some r) h (fun xs h => ?_) (fun h => ?_)
  · (try dsimp only at h)
    split at h
    · exact ⟨N, ((e181_4 N K N) _ _ _ _).trans h⟩
    · cases h
  cases h
def sp181 : List Arg → Option (Bool × Res)
  | [(.v false [(.sh 9 a0)]), (.v false [(.sh 9 b1)])] => some (Pu.laws_eqStringS.c a0 b1, ⟨[(.v false [(.b (Pu.laws_eqStringS.v a0 b1))])], []⟩)
  | _ => none
theorem ok181 : FnOk Try.prog T 181 sp181 := by
  refine fn_ok (E := E181) hE call_nil hM Try.func181 (code := (Try.f181.body.getD .skip)) (by kernel_rfl) (by kernel_rfl) ?_
  have key : ∀ (a0 : Row) (b1 : Row), Pu.laws_eqStringS.c a0 b1 = true → ∃ it : It Res, (∀ c ∈ loopsOf (Try.f181.body.getD .skip), LoopOk E181 it c) ∧ body E181 it Try.f181 [(.v false [(.sh 9 a0)]), (.v false [(.sh 9 b1)])] = some ⟨[(.v false [(.b (Pu.laws_eqStringS.v a0 b1))])], []⟩ := by
    intro a0 b1  h1
    obtain ⟨N, hN⟩ := Pu.laws_eqStringS.b_eq (R := Res) (fun r0 => some ⟨[(.v false [(.b r0)])], []⟩) a0 b1 h1
    have hl : loopsOf (Try.f181.body.getD .skip) = [loopOf Try.f181 4] := by kernel_rfl
    refine ⟨it181 N, by rw [hl]; exact (loops_cons (lo181_4 N) loops_nil), ?_⟩
    refine Eq.trans (show body E181 (it181 N) Try.f181 [(.v false [(.sh 9 a0)]), (.v false [(.sh 9 b1)])] = Pu.laws_eqStringS.b N (fun r0 => some ⟨[(.v false [(.b r0)])], []⟩) a0 b1 by kernel_rfl) hN
  intro args r h
  unfold sp181 at h
  split at h
  · injection h with h
    injection h with h1 h2
    subst h2
    exact ⟨by kernel_rfl, fun hf => ⟨of_decide_eq_true (by kernel_rfl), key _ _ h1⟩⟩
  · cases h

end Go.FG.Se

namespace Go.FG.Se
open Go.Proofs
def E160 : Env := { toTab := T, call := Go.FG.callIn [], mode := Go.FG.modeIn md, keep := Go.FG.keepIn [(4, [0, 1, 4, 5])], tk := fun n => Go.FG.memB n [], om := Go.FG.omIn [] }
def it160 (N : Nat) {R : Type} : It R := fun rid f cn L K => bif Nat.beq rid 4 then (tell [(0, (.v (.v false [(.sh 3 [])]))), (2, (.v (.v false [(.sh 3 [])]))), (8, (.v (.v false [(.b false)]))), (10, (.v (.v false [(.i .i64 0)])))] (fun | [.R x0, .R x1, .B x2, .I x3] => Pu.laws_eqIntS.l4 N (fun y0 y1 y2 y3 => (K .ret (tabl [(0, (.v (.v false [(.sh 3 y0)]))), (2, (.v (.v false [(.sh 3 y1)]))), (8, (.v (.v false [(.b y2)]))), (10, (.v (.v false [(.i .i64 y3)])))]))) (fun y0 y1 y2 y3 => (K (.exit 0) (tabl [(0, (.v (.v false [(.sh 3 y0)]))), (2, (.v (.v false [(.sh 3 y1)]))), (8, (.v (.v false [(.b y2)]))), (10, (.v (.v false [(.i .i64 y3)])))]))) N x0 x1 x2 x3 | _ => none) L (none)) else none
theorem e160_4 {R : Type} (N : Nat) (K : Ex → St → Option R) : ∀ n : Nat, (∀ x0 x1 x2 x3, iter (exc E160 (it160 N) (loopOf Try.f160 4)) (canon (E160.keep 4))  n (tabl [(0, (.v (.v false [(.sh 3 x0)]))), (2, (.v (.v false [(.sh 3 x1)]))), (8, (.v (.v false [(.b x2)]))), (10, (.v (.v false [(.i .i64 x3)])))]) K = Pu.laws_eqIntS.l4 N (fun y0 y1 y2 y3 => (K .ret (tabl [(0, (.v (.v false [(.sh 3 y0)]))), (2, (.v (.v false [(.sh 3 y1)]))), (8, (.v (.v false [(.b y2)]))), (10, (.v (.v false [(.i .i64 y3)])))]))) (fun y0 y1 y2 y3 => (K (.exit 0) (tabl [(0, (.v (.v false [(.sh 3 y0)]))), (2, (.v (.v false [(.sh 3 y1)]))), (8, (.v (.v false [(.b y2)]))), (10, (.v (.v false [(.i .i64 y3)])))]))) n x0 x1 x2 x3) := by
  intro n
  induction n with
  | zero => exact (fun _ _ _ _ => rfl)
  | succ n ih =>
    have e0 : (fun x0 x1 x2 x3 => iter (exc E160 (it160 N) (loopOf Try.f160 4)) (canon (E160.keep 4))  n (tabl [(0, (.v (.v false [(.sh 3 x0)]))), (2, (.v (.v false [(.sh 3 x1)]))), (8, (.v (.v false [(.b x2)]))), (10, (.v (.v false [(.i .i64 x3)])))]) K) = Pu.laws_eqIntS.l4 N (fun y0 y1 y2 y3 => (K .ret (tabl [(0, (.v (.v false [(.sh 3 y0)]))), (2, (.v (.v false [(.sh 3 y1)]))), (8, (.v (.v false [(.b y2)]))), (10, (.v (.v false [(.i .i64 y3)])))]))) (fun y0 y1 y2 y3 => (K (.exit 0) (tabl [(0, (.v (.v false [(.sh 3 y0)]))), (2, (.v (.v false [(.sh 3 y1)]))), (8, (.v (.v false [(.b y2)]))), (10, (.v (.v false [(.i .i64 y3)])))]))) n := by funext x0 x1 x2 x3; exact ih x0 x1 x2 x3
    intro x0 x1 x2 x3
    have h : ∀ g, exc E160 (it160 N) (loopOf Try.f160 4) (tabl [(0, (.v (.v false [(.sh 3 x0)]))), (2, (.v (.v false [(.sh 3 x1)]))), (8, (.v (.v false [(.b x2)]))), (10, (.v (.v false [(.i .i64 x3)])))]) (iterK g (canon (E160.keep 4)) K) = Pu.laws_eqIntS.r4 N (fun x0 x1 x2 x3 => (g (tabl [(0, (.v (.v false [(.sh 3 x0)]))), (2, (.v (.v false [(.sh 3 x1)]))), (8, (.v (.v false [(.b x2)]))), (10, (.v (.v false [(.i .i64 x3)])))]))) (fun y0 y1 y2 y3 => (K .ret (tabl [(0, (.v (.v false [(.sh 3 y0)]))), (2, (.v (.v false [(.sh 3 y1)]))), (8, (.v (.v false [(.b y2)]))), (10, (.v (.v false [(.i .i64 y3)])))]))) (fun y0 y1 y2 y3 => (K (.exit 0) (tabl [(0, (.v (.v false [(.sh 3 y0)]))), (2, (.v (.v false [(.sh 3 y1)]))), (8, (.v (.v false [(.b y2)]))), (10, (.v (.v false [(.i .i64 y3)])))]))) x0 x1 x2 x3 := by intro g; kernel_rfl
    refine (h _).trans ?_
    show Pu.laws_eqIntS.r4 N (fun x0 x1 x2 x3 => (iter (exc E160 (it160 N) (loopOf Try.f160 4)) (canon (E160.keep 4))  n (tabl [(0, (.v (.v false [(.sh 3 x0)]))), (2, (.v (.v false [(.sh 3 x1)]))), (8, (.v (.v false [(.b x2)]))), (10, (.v (.v false [(.i .i64 x3)])))]) K)) (fun y0 y1 y2 y3 => (K .ret (tabl [(0, (.v (.v false [(.sh 3 y0)]))), (2, (.v (.v false [(.sh 3 y1)]))), (8, (.v (.v false [(.b y2)]))), (10, (.v (.v false [(.i .i64 y3)])))]))) (fun y0 y1 y2 y3 => (K (.exit 0) (tabl [(0, (.v (.v false [(.sh 3 y0)]))), (2, (.v (.v false [(.sh 3 y1)]))), (8, (.v (.v false [(.b y2)]))), (10, (.v (.v false [(.i .i64 y3)])))]))) x0 x1 x2 x3 = _
    rw [e0]; rfl
theorem lo160_4 {R : Type} (N : Nat) : LoopOk E160 (it160 N (R := R)) (loopOf Try.f160 4) := by
  have e : firstRid (loopOf Try.f160 4) = 4 := by kernel_rfl
  intro L K r
  rw [e]
  intro h
  unfold it160 at h
  simp only [show Nat.beq 4 4 = true from rfl, cond_false, cond_true] at h
  refine tell_ok (Q := fun L => ∃ n, iter (exc E160 (it160 N) (loopOf Try.f160 4)) (canon (E160.keep 4)) n (tabl L) K = some r) h (fun xs h => ?_) (fun h => ?_)
  · (try dsimp only at h)
    split at h
    · exact ⟨N, ((e160_4 N K N) _ _ _ _).trans h⟩
    · cases h
  cases h
def sp160 : List Arg → Option (Bool × Res)
  | [(.v false [(.sh 3 a0)]), (.v false [(.sh 3 b1)])] => some (true, ⟨[(.v false [(.b (Pu.laws_eqIntS.v a0 b1))])], []⟩)
  | _ => none
theorem ok160 : FnOk Try.prog T 160 sp160 := by
  refine fn_ok (E := E160) hE call_nil hM Try.func160 (code := (Try.f160.body.getD .skip)) (by kernel_rfl) (by kernel_rfl) ?_
  have key : ∀ (a0 : Row) (b1 : Row), FitR a0 → FitR b1 → ∃ it : It Res, (∀ c ∈ loopsOf (Try.f160.body.getD .skip), LoopOk E160 it c) ∧ body E160 it Try.f160 [(.v false [(.sh 3 a0)]), (.v false [(.sh 3 b1)])] = some ⟨[(.v false [(.b (Pu.laws_eqIntS.v a0 b1))])], []⟩ := by
    intro a0 b1  g0 g1
    obtain ⟨N, hN⟩ := Pu.laws_eqIntS.b_eq (R := Res) (fun r0 => some ⟨[(.v false [(.b r0)])], []⟩) a0 b1 g0 g1
    have hl : loopsOf (Try.f160.body.getD .skip) = [loopOf Try.f160 4] := by kernel_rfl
    refine ⟨it160 N, by rw [hl]; exact (loops_cons (lo160_4 N) loops_nil), ?_⟩
    refine Eq.trans (show body E160 (it160 N) Try.f160 [(.v false [(.sh 3 a0)]), (.v false [(.sh 3 b1)])] = Pu.laws_eqIntS.b N (fun r0 => some ⟨[(.v false [(.b r0)])], []⟩) a0 b1 by kernel_rfl) hN
  intro args r h
  unfold sp160 at h
  split at h
  · injection h with h
    injection h with h1 h2
    subst h2
    exact ⟨by kernel_rfl, fun hf => ⟨of_decide_eq_true (by kernel_rfl), key _ _ hf.1.1 hf.2.1.1⟩⟩
  · cases h

end Go.FG.Se

namespace Go.FG.Se
open Go.Proofs
def E211 : Env := { toTab := T, call := Go.FG.callIn [(160, sp160)], mode := Go.FG.modeIn md, keep := Go.FG.keepIn [(4, [0, 1, 4, 5])], tk := fun n => Go.FG.memB n [], om := Go.FG.omIn [] }
def it211 (N : Nat) {R : Type} : It R := fun rid f cn L K => bif Nat.beq rid 4 then (tell [(0, (.v (.v false [(.sh 49 [])]))), (2, (.v (.v false [(.sh 49 [])]))), (8, (.v (.v false [(.b false)]))), (10, (.v (.v false [(.i .i64 0)])))] (fun | [.R x0, .R x1, .B x2, .I x3] => Pu.laws_eqIntSS.l4 N (fun y0 y1 y2 y3 => (K .ret (tabl [(0, (.v (.v false [(.sh 49 y0)]))), (2, (.v (.v false [(.sh 49 y1)]))), (8, (.v (.v false [(.b y2)]))), (10, (.v (.v false [(.i .i64 y3)])))]))) (fun y0 y1 y2 y3 => (K (.exit 0) (tabl [(0, (.v (.v false [(.sh 49 y0)]))), (2, (.v (.v false [(.sh 49 y1)]))), (8, (.v (.v false [(.b y2)]))), (10, (.v (.v false [(.i .i64 y3)])))]))) N x0 x1 x2 x3 | _ => none) L (none)) else none
theorem e211_4 {R : Type} (N : Nat) (K : Ex → St → Option R) : ∀ n : Nat, (∀ x0 x1 x2 x3, iter (exc E211 (it211 N) (loopOf Try.f211 4)) (canon (E211.keep 4))  n (tabl [(0, (.v (.v false [(.sh 49 x0)]))), (2, (.v (.v false [(.sh 49 x1)]))), (8, (.v (.v false [(.b x2)]))), (10, (.v (.v false [(.i .i64 x3)])))]) K = Pu.laws_eqIntSS.l4 N (fun y0 y1 y2 y3 => (K .ret (tabl [(0, (.v (.v false [(.sh 49 y0)]))), (2, (.v (.v false [(.sh 49 y1)]))), (8, (.v (.v false [(.b y2)]))), (10, (.v (.v false [(.i .i64 y3)])))]))) (fun y0 y1 y2 y3 => (K (.exit 0) (tabl [(0, (.v (.v false [(.sh 49 y0)]))), (2, (.v (.v false [(.sh 49 y1)]))), (8, (.v (.v false [(.b y2)]))), (10, (.v (.v false [(.i .i64 y3)])))]))) n x0 x1 x2 x3) := by
  intro n
  induction n with
  | zero => exact (fun _ _ _ _ => rfl)
  | succ n ih =>
    have e0 : (fun x0 x1 x2 x3 => iter (exc E211 (it211 N) (loopOf Try.f211 4)) (canon (E211.keep 4))  n (tabl [(0, (.v (.v false [(.sh 49 x0)]))), (2, (.v (.v false [(.sh 49 x1)]))), (8, (.v (.v false [(.b x2)]))), (10, (.v (.v false [(.i .i64 x3)])))]) K) = Pu.laws_eqIntSS.l4 N (fun y0 y1 y2 y3 => (K .ret (tabl [(0, (.v (.v false [(.sh 49 y0)]))), (2, (.v (.v false [(.sh 49 y1)]))), (8, (.v (.v false [(.b y2)]))), (10, (.v (.v false [(.i .i64 y3)])))]))) (fun y0 y1 y2 y3 => (K (.exit 0) (tabl [(0, (.v (.v false [(.sh 49 y0)]))), (2, (.v (.v false [(.sh 49 y1)]))), (8, (.v (.v false [(.b y2)]))), (10, (.v (.v false [(.i .i64 y3)])))]))) n := by funext x0 x1 x2 x3; exact ih x0 x1 x2 x3
    intro x0 x1 x2 x3
    have h : ∀ g, exc E211 (it211 N) (loopOf Try.f211 4) (tabl [(0, (.v (.v false [(.sh 49 x0)]))), (2, (.v (.v false [(.sh 49 x1)]))), (8, (.v (.v false [(.b x2)]))), (10, (.v (.v false [(.i .i64 x3)])))]) (iterK g (canon (E211.keep 4)) K) = Pu.laws_eqIntSS.r4 N (fun x0 x1 x2 x3 => (g (tabl [(0, (.v (.v false [(.sh 49 x0)]))), (2, (.v (.v false [(.sh 49 x1)]))), (8, (.v (.v false [(.b x2)]))), (10, (.v (.v false [(.i .i64 x3)])))]))) (fun y0 y1 y2 y3 => (K .ret (tabl [(0, (.v (.v false [(.sh 49 y0)]))), (2, (.v (.v false [(.sh 49 y1)]))), (8, (.v (.v false [(.b y2)]))), (10, (.v (.v false [(.i .i64 y3)])))]))) (fun y0 y1 y2 y3 => (K (.exit 0) (tabl [(0, (.v (.v false [(.sh 49 y0)]))), (2, (.v (.v false [(.sh 49 y1)]))), (8, (.v (.v false [(.b y2)]))), (10, (.v (.v false [(.i .i64 y3)])))]))) x0 x1 x2 x3 := by intro g; kernel_rfl
    refine (h _).trans ?_
    show Pu.laws_eqIntSS.r4 N (fun x0 x1 x2 x3 => (iter (exc E211 (it211 N) (loopOf Try.f211 4)) (canon (E211.keep 4))  n (tabl [(0, (.v (.v false [(.sh 49 x0)]))), (2, (.v (.v false [(.sh 49 x1)]))), (8, (.v (.v false [(.b x2)]))), (10, (.v (.v false [(.i .i64 x3)])))]) K)) (fun y0 y1 y2 y3 => (K .ret (tabl [(0, (.v (.v false [(.sh 49 y0)]))), (2, (.v (.v false [(.sh 49 y1)]))), (8, (.v (.v false [(.b y2)]))), (10, (.v (.v false [(.i .i64 y3)])))]))) (fun y0 y1 y2 y3 => (K (.exit 0) (tabl [(0, (.v (.v false [(.sh 49 y0)]))), (2, (.v (.v false [(.sh 49 y1)]))), (8, (.v (.v false [(.b y2)]))), (10, (.v (.v false [(.i .i64 y3)])))]))) x0 x1 x2 x3 = _
    rw [e0]; rfl
theorem lo211_4 {R : Type} (N : Nat) : LoopOk E211 (it211 N (R := R)) (loopOf Try.f211 4) := by
  have e : firstRid (loopOf Try.f211 4) = 4 := by kernel_rfl
  intro L K r
  rw [e]
  intro h
  unfold it211 at h
  simp only [show Nat.beq 4 4 = true from rfl, cond_false, cond_true] at h
  refine tell_ok (Q := fun L => ∃ n, iter (exc E211 (it211 N) (loopOf Try.f211 4)) (canon (E211.keep 4)) n (tabl L) K = some r) h (fun xs h => ?_) (fun h => ?_)
  · (try dsimp only at h)
    split at h
    · exact ⟨N, ((e211_4 N K N) _ _ _ _).trans h⟩
    · cases h
  cases h
def sp211 : List Arg → Option (Bool × Res)
  | [(.v false [(.sh 49 a0)]), (.v false [(.sh 49 b1)])] => some (Pu.laws_eqIntSS.c a0 b1, ⟨[(.v false [(.b (Pu.laws_eqIntSS.v a0 b1))])], []⟩)
  | _ => none
theorem ok211 : FnOk Try.prog T 211 sp211 := by
  refine fn_ok (E := E211) hE (call_cons ok160 call_nil) hM Try.func211 (code := (Try.f211.body.getD .skip)) (by kernel_rfl) (by kernel_rfl) ?_
  have key : ∀ (a0 : Row) (b1 : Row), Pu.laws_eqIntSS.c a0 b1 = true → ∃ it : It Res, (∀ c ∈ loopsOf (Try.f211.body.getD .skip), LoopOk E211 it c) ∧ body E211 it Try.f211 [(.v false [(.sh 49 a0)]), (.v false [(.sh 49 b1)])] = some ⟨[(.v false [(.b (Pu.laws_eqIntSS.v a0 b1))])], []⟩ := by
    intro a0 b1  h1
    obtain ⟨N, hN⟩ := Pu.laws_eqIntSS.b_eq (R := Res) (fun r0 => some ⟨[(.v false [(.b r0)])], []⟩) a0 b1 h1
    have hl : loopsOf (Try.f211.body.getD .skip) = [loopOf Try.f211 4] := by kernel_rfl
    refine ⟨it211 N, by rw [hl]; exact (loops_cons (lo211_4 N) loops_nil), ?_⟩
    refine Eq.trans (show body E211 (it211 N) Try.f211 [(.v false [(.sh 49 a0)]), (.v false [(.sh 49 b1)])] = Pu.laws_eqIntSS.b N (fun r0 => some ⟨[(.v false [(.b r0)])], []⟩) a0 b1 by kernel_rfl) hN
  intro args r h
  unfold sp211 at h
  split at h
  · injection h with h
    injection h with h1 h2
    subst h2
    exact ⟨by kernel_rfl, fun hf => ⟨of_decide_eq_true (by kernel_rfl), key _ _ h1⟩⟩
  · cases h

end Go.FG.Se

namespace Go.FG.Se
open Go.Proofs
def E182 : Env := { toTab := T, call := Go.FG.callIn [(211, sp211)], mode := Go.FG.modeIn md, keep := Go.FG.keepIn [], tk := fun n => Go.FG.memB n [], om := Go.FG.omIn [] }
def sp182 : List Arg → Option (Bool × Res)
  | [(.v true [(.sh 49 a0_0), (.i .i64 a0_1)]), (.v true [(.sh 49 b1_0), (.i .i64 b1_1)])] => some (Pu.laws_eqSketch.c a0_0 a0_1 b1_0 b1_1, ⟨[(.v false [(.b (Pu.laws_eqSketch.v a0_0 a0_1 b1_0 b1_1))])], []⟩)
  | _ => none
theorem ok182 : FnOk Try.prog T 182 sp182 := by
  refine fn_ok (E := E182) hE (call_cons ok211 call_nil) hM Try.func182 (code := (Try.f182.body.getD .skip)) (by kernel_rfl) (by kernel_rfl) ?_
  have key : ∀ (a0_0 : Row) (a0_1 : Int) (b1_0 : Row) (b1_1 : Int), Pu.laws_eqSketch.c a0_0 a0_1 b1_0 b1_1 = true → ∃ it : It Res, (∀ c ∈ loopsOf (Try.f182.body.getD .skip), LoopOk E182 it c) ∧ body E182 it Try.f182 [(.v true [(.sh 49 a0_0), (.i .i64 a0_1)]), (.v true [(.sh 49 b1_0), (.i .i64 b1_1)])] = some ⟨[(.v false [(.b (Pu.laws_eqSketch.v a0_0 a0_1 b1_0 b1_1))])], []⟩ := by
    intro a0_0 a0_1 b1_0 b1_1  h1
    have hN := Pu.laws_eqSketch.b_eq (R := Res) (fun r0 => some ⟨[(.v false [(.b r0)])], []⟩) a0_0 a0_1 b1_0 b1_1 h1
    have hl : loopsOf (Try.f182.body.getD .skip) = [] := by kernel_rfl
    refine ⟨iterN 0, by rw [hl]; exact loops_nil, ?_⟩
    refine Eq.trans (show body E182 (iterN 0) Try.f182 [(.v true [(.sh 49 a0_0), (.i .i64 a0_1)]), (.v true [(.sh 49 b1_0), (.i .i64 b1_1)])] = Pu.laws_eqSketch.b (fun r0 => some ⟨[(.v false [(.b r0)])], []⟩) a0_0 a0_1 b1_0 b1_1 by kernel_rfl) hN
  intro args r h
  unfold sp182 at h
  split at h
  · injection h with h
    injection h with h1 h2
    subst h2
    exact ⟨by kernel_rfl, fun hf => ⟨of_decide_eq_true (by kernel_rfl), key _ _ _ _ h1⟩⟩
  · cases h

end Go.FG.Se

namespace Go.FG.Se
open Go.Proofs
def E131 : Env := { toTab := T, call := Go.FG.callIn [(181, sp181), (182, sp182)], mode := Go.FG.modeIn md, keep := Go.FG.keepIn [], tk := fun n => Go.FG.memB n [], om := Go.FG.omIn [] }
def sp131 : List Arg → Option (Bool × Res)
  | [(.v true [(.sh 9 a0_0), (.sh 9 a0_1), (.sh 49 a0_2), (.i .i64 a0_3)]), (.v true [(.sh 9 b1_0), (.sh 9 b1_1), (.sh 49 b1_2), (.i .i64 b1_3)])] => some (Pu.laws_eqPolicy.c a0_0 a0_1 a0_2 a0_3 b1_0 b1_1 b1_2 b1_3, ⟨[(.v false [(.b (Pu.laws_eqPolicy.v a0_0 a0_1 a0_2 a0_3 b1_0 b1_1 b1_2 b1_3))])], []⟩)
  | _ => none
theorem ok131 : FnOk Try.prog T 131 sp131 := by
  refine fn_ok (E := E131) hE (call_cons ok181 (call_cons ok182 call_nil)) hM Try.func131 (code := (Try.f131.body.getD .skip)) (by kernel_rfl) (by kernel_rfl) ?_
  have key : ∀ (a0_0 : Row) (a0_1 : Row) (a0_2 : Row) (a0_3 : Int) (b1_0 : Row) (b1_1 : Row) (b1_2 : Row) (b1_3 : Int), Pu.laws_eqPolicy.c a0_0 a0_1 a0_2 a0_3 b1_0 b1_1 b1_2 b1_3 = true → ∃ it : It Res, (∀ c ∈ loopsOf (Try.f131.body.getD .skip), LoopOk E131 it c) ∧ body E131 it Try.f131 [(.v true [(.sh 9 a0_0), (.sh 9 a0_1), (.sh 49 a0_2), (.i .i64 a0_3)]), (.v true [(.sh 9 b1_0), (.sh 9 b1_1), (.sh 49 b1_2), (.i .i64 b1_3)])] = some ⟨[(.v false [(.b (Pu.laws_eqPolicy.v a0_0 a0_1 a0_2 a0_3 b1_0 b1_1 b1_2 b1_3))])], []⟩ := by
    intro a0_0 a0_1 a0_2 a0_3 b1_0 b1_1 b1_2 b1_3  h1
    have hN := Pu.laws_eqPolicy.b_eq (R := Res) (fun r0 => some ⟨[(.v false [(.b r0)])], []⟩) a0_0 a0_1 a0_2 a0_3 b1_0 b1_1 b1_2 b1_3 h1
    have hl : loopsOf (Try.f131.body.getD .skip) = [] := by kernel_rfl
    refine ⟨iterN 0, by rw [hl]; exact loops_nil, ?_⟩
    refine Eq.trans (show body E131 (iterN 0) Try.f131 [(.v true [(.sh 9 a0_0), (.sh 9 a0_1), (.sh 49 a0_2), (.i .i64 a0_3)]), (.v true [(.sh 9 b1_0), (.sh 9 b1_1), (.sh 49 b1_2), (.i .i64 b1_3)])] = Pu.laws_eqPolicy.b (fun r0 => some ⟨[(.v false [(.b r0)])], []⟩) a0_0 a0_1 a0_2 a0_3 b1_0 b1_1 b1_2 b1_3 by kernel_rfl) hN
  intro args r h
  unfold sp131 at h
  split at h
  · injection h with h
    injection h with h1 h2
    subst h2
    exact ⟨by kernel_rfl, fun hf => ⟨of_decide_eq_true (by kernel_rfl), key _ _ _ _ _ _ _ _ h1⟩⟩
  · cases h

end Go.FG.Se

namespace Go.FG.Se
open Go.Proofs
def E183 : Env := { toTab := T, call := Go.FG.callIn [], mode := Go.FG.modeIn md, keep := Go.FG.keepIn [], tk := fun n => Go.FG.memB n [], om := Go.FG.omIn [] }
def sp183 : List Arg → Option (Bool × Res)
  | [(.v true [(.s a0_0), (.s a0_1), (.i .i64 a0_2), (.i .i64 a0_3), (.i .i64 a0_4)]), (.v true [(.s b1_0), (.s b1_1), (.i .i64 b1_2), (.i .i64 b1_3), (.i .i64 b1_4)])] => some (true, ⟨[(.v false [(.b (Pu.laws_eqFetch.v a0_0 a0_1 a0_2 a0_3 a0_4 b1_0 b1_1 b1_2 b1_3 b1_4))])], []⟩)
  | _ => none
theorem ok183 : FnOk Try.prog T 183 sp183 := by
  refine fn_ok (E := E183) hE call_nil hM Try.func183 (code := (Try.f183.body.getD .skip)) (by kernel_rfl) (by kernel_rfl) ?_
  have key : ∀ (a0_0 : ByteArray) (a0_1 : ByteArray) (a0_2 : Int) (a0_3 : Int) (a0_4 : Int) (b1_0 : ByteArray) (b1_1 : ByteArray) (b1_2 : Int) (b1_3 : Int) (b1_4 : Int), ∃ it : It Res, (∀ c ∈ loopsOf (Try.f183.body.getD .skip), LoopOk E183 it c) ∧ body E183 it Try.f183 [(.v true [(.s a0_0), (.s a0_1), (.i .i64 a0_2), (.i .i64 a0_3), (.i .i64 a0_4)]), (.v true [(.s b1_0), (.s b1_1), (.i .i64 b1_2), (.i .i64 b1_3), (.i .i64 b1_4)])] = some ⟨[(.v false [(.b (Pu.laws_eqFetch.v a0_0 a0_1 a0_2 a0_3 a0_4 b1_0 b1_1 b1_2 b1_3 b1_4))])], []⟩ := by
    intro a0_0 a0_1 a0_2 a0_3 a0_4 b1_0 b1_1 b1_2 b1_3 b1_4 
    have hN := Pu.laws_eqFetch.b_eq (R := Res) (fun r0 => some ⟨[(.v false [(.b r0)])], []⟩) a0_0 a0_1 a0_2 a0_3 a0_4 b1_0 b1_1 b1_2 b1_3 b1_4
    have hl : loopsOf (Try.f183.body.getD .skip) = [] := by kernel_rfl
    refine ⟨iterN 0, by rw [hl]; exact loops_nil, ?_⟩
    refine Eq.trans (show body E183 (iterN 0) Try.f183 [(.v true [(.s a0_0), (.s a0_1), (.i .i64 a0_2), (.i .i64 a0_3), (.i .i64 a0_4)]), (.v true [(.s b1_0), (.s b1_1), (.i .i64 b1_2), (.i .i64 b1_3), (.i .i64 b1_4)])] = Pu.laws_eqFetch.b (fun r0 => some ⟨[(.v false [(.b r0)])], []⟩) a0_0 a0_1 a0_2 a0_3 a0_4 b1_0 b1_1 b1_2 b1_3 b1_4 by kernel_rfl) hN
  intro args r h
  unfold sp183 at h
  split at h
  · injection h with h
    injection h with h1 h2
    subst h2
    exact ⟨by kernel_rfl, fun hf => ⟨of_decide_eq_true (by kernel_rfl), key _ _ _ _ _ _ _ _ _ _⟩⟩
  · cases h

end Go.FG.Se

namespace Go.FG.Se
open Go.Proofs
def E132 : Env := { toTab := T, call := Go.FG.callIn [(183, sp183)], mode := Go.FG.modeIn md, keep := Go.FG.keepIn [(4, [0, 1, 4, 5])], tk := fun n => Go.FG.memB n [], om := Go.FG.omIn [] }
def it132 (N : Nat) {R : Type} : It R := fun rid f cn L K => bif Nat.beq rid 4 then (tell [(0, (.v (.v false [(.sh 175 [])]))), (2, (.v (.v false [(.sh 175 [])]))), (8, (.v (.v false [(.b false)]))), (10, (.v (.v false [(.i .i64 0)])))] (fun | [.R x0, .R x1, .B x2, .I x3] => Pu.laws_eqFetchS.l4 N (fun y0 y1 y2 y3 => (K .ret (tabl [(0, (.v (.v false [(.sh 175 y0)]))), (2, (.v (.v false [(.sh 175 y1)]))), (8, (.v (.v false [(.b y2)]))), (10, (.v (.v false [(.i .i64 y3)])))]))) (fun y0 y1 y2 y3 => (K (.exit 0) (tabl [(0, (.v (.v false [(.sh 175 y0)]))), (2, (.v (.v false [(.sh 175 y1)]))), (8, (.v (.v false [(.b y2)]))), (10, (.v (.v false [(.i .i64 y3)])))]))) N x0 x1 x2 x3 | _ => none) L (none)) else none
theorem e132_4 {R : Type} (N : Nat) (K : Ex → St → Option R) : ∀ n : Nat, (∀ x0 x1 x2 x3, iter (exc E132 (it132 N) (loopOf Try.f132 4)) (canon (E132.keep 4))  n (tabl [(0, (.v (.v false [(.sh 175 x0)]))), (2, (.v (.v false [(.sh 175 x1)]))), (8, (.v (.v false [(.b x2)]))), (10, (.v (.v false [(.i .i64 x3)])))]) K = Pu.laws_eqFetchS.l4 N (fun y0 y1 y2 y3 => (K .ret (tabl [(0, (.v (.v false [(.sh 175 y0)]))), (2, (.v (.v false [(.sh 175 y1)]))), (8, (.v (.v false [(.b y2)]))), (10, (.v (.v false [(.i .i64 y3)])))]))) (fun y0 y1 y2 y3 => (K (.exit 0) (tabl [(0, (.v (.v false [(.sh 175 y0)]))), (2, (.v (.v false [(.sh 175 y1)]))), (8, (.v (.v false [(.b y2)]))), (10, (.v (.v false [(.i .i64 y3)])))]))) n x0 x1 x2 x3) := by
  intro n
  induction n with
  | zero => exact (fun _ _ _ _ => rfl)
  | succ n ih =>
    have e0 : (fun x0 x1 x2 x3 => iter (exc E132 (it132 N) (loopOf Try.f132 4)) (canon (E132.keep 4))  n (tabl [(0, (.v (.v false [(.sh 175 x0)]))), (2, (.v (.v false [(.sh 175 x1)]))), (8, (.v (.v false [(.b x2)]))), (10, (.v (.v false [(.i .i64 x3)])))]) K) = Pu.laws_eqFetchS.l4 N (fun y0 y1 y2 y3 => (K .ret (tabl [(0, (.v (.v false [(.sh 175 y0)]))), (2, (.v (.v false [(.sh 175 y1)]))), (8, (.v (.v false [(.b y2)]))), (10, (.v (.v false [(.i .i64 y3)])))]))) (fun y0 y1 y2 y3 => (K (.exit 0) (tabl [(0, (.v (.v false [(.sh 175 y0)]))), (2, (.v (.v false [(.sh 175 y1)]))), (8, (.v (.v false [(.b y2)]))), (10, (.v (.v false [(.i .i64 y3)])))]))) n := by funext x0 x1 x2 x3; exact ih x0 x1 x2 x3
    intro x0 x1 x2 x3
    have h : ∀ g, exc E132 (it132 N) (loopOf Try.f132 4) (tabl [(0, (.v (.v false [(.sh 175 x0)]))), (2, (.v (.v false [(.sh 175 x1)]))), (8, (.v (.v false [(.b x2)]))), (10, (.v (.v false [(.i .i64 x3)])))]) (iterK g (canon (E132.keep 4)) K) = Pu.laws_eqFetchS.r4 N (fun x0 x1 x2 x3 => (g (tabl [(0, (.v (.v false [(.sh 175 x0)]))), (2, (.v (.v false [(.sh 175 x1)]))), (8, (.v (.v false [(.b x2)]))), (10, (.v (.v false [(.i .i64 x3)])))]))) (fun y0 y1 y2 y3 => (K .ret (tabl [(0, (.v (.v false [(.sh 175 y0)]))), (2, (.v (.v false [(.sh 175 y1)]))), (8, (.v (.v false [(.b y2)]))), (10, (.v (.v false [(.i .i64 y3)])))]))) (fun y0 y1 y2 y3 => (K (.exit 0) (tabl [(0, (.v (.v false [(.sh 175 y0)]))), (2, (.v (.v false [(.sh 175 y1)]))), (8, (.v (.v false [(.b y2)]))), (10, (.v (.v false [(.i .i64 y3)])))]))) x0 x1 x2 x3 := by intro g; kernel_rfl
    refine (h _).trans ?_
    show Pu.laws_eqFetchS.r4 N (fun x0 x1 x2 x3 => (iter (exc E132 (it132 N) (loopOf Try.f132 4)) (canon (E132.keep 4))  n (tabl [(0, (.v (.v false [(.sh 175 x0)]))), (2, (.v (.v false [(.sh 175 x1)]))), (8, (.v (.v false [(.b x2)]))), (10, (.v (.v false [(.i .i64 x3)])))]) K)) (fun y0 y1 y2 y3 => (K .ret (tabl [(0, (.v (.v false [(.sh 175 y0)]))), (2, (.v (.v false [(.sh 175 y1)]))), (8, (.v (.v false [(.b y2)]))), (10, (.v (.v false [(.i .i64 y3)])))]))) (fun y0 y1 y2 y3 => (K (.exit 0) (tabl [(0, (.v (.v false [(.sh 175 y0)]))), (2, (.v (.v false [(.sh 175 y1)]))), (8, (.v (.v false [(.b y2)]))), (10, (.v (.v false [(.i .i64 y3)])))]))) x0 x1 x2 x3 = _
    rw [e0]; rfl
theorem lo132_4 {R : Type} (N : Nat) : LoopOk E132 (it132 N (R := R)) (loopOf Try.f132 4) := by
  have e : firstRid (loopOf Try.f132 4) = 4 := by kernel_rfl
  intro L K r
  rw [e]
  intro h
  unfold it132 at h
  simp only [show Nat.beq 4 4 = true from rfl, cond_false, cond_true] at h
  refine tell_ok (Q := fun L => ∃ n, iter (exc E132 (it132 N) (loopOf Try.f132 4)) (canon (E132.keep 4)) n (tabl L) K = some r) h (fun xs h => ?_) (fun h => ?_)
  · (try dsimp only at h)
    split at h
    · exact ⟨N, ((e132_4 N K N) _ _ _ _).trans h⟩
    · cases h
  cases h
def sp132 : List Arg → Option (Bool × Res)
  | [(.v false [(.sh 175 a0)]), (.v false [(.sh 175 b1)])] => some (Pu.laws_eqFetchS.c a0 b1, ⟨[(.v false [(.b (Pu.laws_eqFetchS.v a0 b1))])], []⟩)
  | _ => none
theorem ok132 : FnOk Try.prog T 132 sp132 := by
  refine fn_ok (E := E132) hE (call_cons ok183 call_nil) hM Try.func132 (code := (Try.f132.body.getD .skip)) (by kernel_rfl) (by kernel_rfl) ?_
  have key : ∀ (a0 : Row) (b1 : Row), Pu.laws_eqFetchS.c a0 b1 = true → ∃ it : It Res, (∀ c ∈ loopsOf (Try.f132.body.getD .skip), LoopOk E132 it c) ∧ body E132 it Try.f132 [(.v false [(.sh 175 a0)]), (.v false [(.sh 175 b1)])] = some ⟨[(.v false [(.b (Pu.laws_eqFetchS.v a0 b1))])], []⟩ := by
    intro a0 b1  h1
    obtain ⟨N, hN⟩ := Pu.laws_eqFetchS.b_eq (R := Res) (fun r0 => some ⟨[(.v false [(.b r0)])], []⟩) a0 b1 h1
    have hl : loopsOf (Try.f132.body.getD .skip) = [loopOf Try.f132 4] := by kernel_rfl
    refine ⟨it132 N, by rw [hl]; exact (loops_cons (lo132_4 N) loops_nil), ?_⟩
    refine Eq.trans (show body E132 (it132 N) Try.f132 [(.v false [(.sh 175 a0)]), (.v false [(.sh 175 b1)])] = Pu.laws_eqFetchS.b N (fun r0 => some ⟨[(.v false [(.b r0)])], []⟩) a0 b1 by kernel_rfl) hN
  intro args r h
  unfold sp132 at h
  split at h
  · injection h with h
    injection h with h1 h2
    subst h2
    exact ⟨by kernel_rfl, fun hf => ⟨of_decide_eq_true (by kernel_rfl), key _ _ h1⟩⟩
  · cases h

end Go.FG.Se

namespace Go.FG.Se
open Go.Proofs
def E184 : Env := { toTab := T, call := Go.FG.callIn [], mode := Go.FG.modeIn md, keep := Go.FG.keepIn [], tk := fun n => Go.FG.memB n [], om := Go.FG.omIn [] }
def sp184 : List Arg → Option (Bool × Res)
  | [(.v true [(.i .i64 a0_0), (.s a0_1), (.i .i64 a0_2), (.i .i64 a0_3), (.i .i64 a0_4), (.s a0_5), (.i .i64 a0_6)]), (.v true [(.i .i64 b1_0), (.s b1_1), (.i .i64 b1_2), (.i .i64 b1_3), (.i .i64 b1_4), (.s b1_5), (.i .i64 b1_6)])] => some (true, ⟨[(.v false [(.b (Pu.laws_eqClient.v a0_0 a0_1 a0_2 a0_3 a0_4 a0_5 a0_6 b1_0 b1_1 b1_2 b1_3 b1_4 b1_5 b1_6))])], []⟩)
  | _ => none
theorem ok184 : FnOk Try.prog T 184 sp184 := by
  refine fn_ok (E := E184) hE call_nil hM Try.func184 (code := (Try.f184.body.getD .skip)) (by kernel_rfl) (by kernel_rfl) ?_
  have key : ∀ (a0_0 : Int) (a0_1 : ByteArray) (a0_2 : Int) (a0_3 : Int) (a0_4 : Int) (a0_5 : ByteArray) (a0_6 : Int) (b1_0 : Int) (b1_1 : ByteArray) (b1_2 : Int) (b1_3 : Int) (b1_4 : Int) (b1_5 : ByteArray) (b1_6 : Int), ∃ it : It Res, (∀ c ∈ loopsOf (Try.f184.body.getD .skip), LoopOk E184 it c) ∧ body E184 it Try.f184 [(.v true [(.i .i64 a0_0), (.s a0_1), (.i .i64 a0_2), (.i .i64 a0_3), (.i .i64 a0_4), (.s a0_5), (.i .i64 a0_6)]), (.v true [(.i .i64 b1_0), (.s b1_1), (.i .i64 b1_2), (.i .i64 b1_3), (.i .i64 b1_4), (.s b1_5), (.i .i64 b1_6)])] = some ⟨[(.v false [(.b (Pu.laws_eqClient.v a0_0 a0_1 a0_2 a0_3 a0_4 a0_5 a0_6 b1_0 b1_1 b1_2 b1_3 b1_4 b1_5 b1_6))])], []⟩ := by
    intro a0_0 a0_1 a0_2 a0_3 a0_4 a0_5 a0_6 b1_0 b1_1 b1_2 b1_3 b1_4 b1_5 b1_6 
    have hN := Pu.laws_eqClient.b_eq (R := Res) (fun r0 => some ⟨[(.v false [(.b r0)])], []⟩) a0_0 a0_1 a0_2 a0_3 a0_4 a0_5 a0_6 b1_0 b1_1 b1_2 b1_3 b1_4 b1_5 b1_6
    have hl : loopsOf (Try.f184.body.getD .skip) = [] := by kernel_rfl
    refine ⟨iterN 0, by rw [hl]; exact loops_nil, ?_⟩
    refine Eq.trans (show body E184 (iterN 0) Try.f184 [(.v true [(.i .i64 a0_0), (.s a0_1), (.i .i64 a0_2), (.i .i64 a0_3), (.i .i64 a0_4), (.s a0_5), (.i .i64 a0_6)]), (.v true [(.i .i64 b1_0), (.s b1_1), (.i .i64 b1_2), (.i .i64 b1_3), (.i .i64 b1_4), (.s b1_5), (.i .i64 b1_6)])] = Pu.laws_eqClient.b (fun r0 => some ⟨[(.v false [(.b r0)])], []⟩) a0_0 a0_1 a0_2 a0_3 a0_4 a0_5 a0_6 b1_0 b1_1 b1_2 b1_3 b1_4 b1_5 b1_6 by kernel_rfl) hN
  intro args r h
  unfold sp184 at h
  split at h
  · injection h with h
    injection h with h1 h2
    subst h2
    exact ⟨by kernel_rfl, fun hf => ⟨of_decide_eq_true (by kernel_rfl), key _ _ _ _ _ _ _ _ _ _ _ _ _ _⟩⟩
  · cases h

end Go.FG.Se

namespace Go.FG.Se
open Go.Proofs
def E133 : Env := { toTab := T, call := Go.FG.callIn [(184, sp184)], mode := Go.FG.modeIn md, keep := Go.FG.keepIn [(4, [0, 1, 4, 5])], tk := fun n => Go.FG.memB n [], om := Go.FG.omIn [] }
def it133 (N : Nat) {R : Type} : It R := fun rid f cn L K => bif Nat.beq rid 4 then (tell [(0, (.v (.v false [(.sh 214 [])]))), (2, (.v (.v false [(.sh 214 [])]))), (8, (.v (.v false [(.b false)]))), (10, (.v (.v false [(.i .i64 0)])))] (fun | [.R x0, .R x1, .B x2, .I x3] => Pu.laws_eqClientS.l4 N (fun y0 y1 y2 y3 => (K .ret (tabl [(0, (.v (.v false [(.sh 214 y0)]))), (2, (.v (.v false [(.sh 214 y1)]))), (8, (.v (.v false [(.b y2)]))), (10, (.v (.v false [(.i .i64 y3)])))]))) (fun y0 y1 y2 y3 => (K (.exit 0) (tabl [(0, (.v (.v false [(.sh 214 y0)]))), (2, (.v (.v false [(.sh 214 y1)]))), (8, (.v (.v false [(.b y2)]))), (10, (.v (.v false [(.i .i64 y3)])))]))) N x0 x1 x2 x3 | _ => none) L (none)) else none
theorem e133_4 {R : Type} (N : Nat) (K : Ex → St → Option R) : ∀ n : Nat, (∀ x0 x1 x2 x3, iter (exc E133 (it133 N) (loopOf Try.f133 4)) (canon (E133.keep 4))  n (tabl [(0, (.v (.v false [(.sh 214 x0)]))), (2, (.v (.v false [(.sh 214 x1)]))), (8, (.v (.v false [(.b x2)]))), (10, (.v (.v false [(.i .i64 x3)])))]) K = Pu.laws_eqClientS.l4 N (fun y0 y1 y2 y3 => (K .ret (tabl [(0, (.v (.v false [(.sh 214 y0)]))), (2, (.v (.v false [(.sh 214 y1)]))), (8, (.v (.v false [(.b y2)]))), (10, (.v (.v false [(.i .i64 y3)])))]))) (fun y0 y1 y2 y3 => (K (.exit 0) (tabl [(0, (.v (.v false [(.sh 214 y0)]))), (2, (.v (.v false [(.sh 214 y1)]))), (8, (.v (.v false [(.b y2)]))), (10, (.v (.v false [(.i .i64 y3)])))]))) n x0 x1 x2 x3) := by
  intro n
  induction n with
  | zero => exact (fun _ _ _ _ => rfl)
  | succ n ih =>
    have e0 : (fun x0 x1 x2 x3 => iter (exc E133 (it133 N) (loopOf Try.f133 4)) (canon (E133.keep 4))  n (tabl [(0, (.v (.v false [(.sh 214 x0)]))), (2, (.v (.v false [(.sh 214 x1)]))), (8, (.v (.v false [(.b x2)]))), (10, (.v (.v false [(.i .i64 x3)])))]) K) = Pu.laws_eqClientS.l4 N (fun y0 y1 y2 y3 => (K .ret (tabl [(0, (.v (.v false [(.sh 214 y0)]))), (2, (.v (.v false [(.sh 214 y1)]))), (8, (.v (.v false [(.b y2)]))), (10, (.v (.v false [(.i .i64 y3)])))]))) (fun y0 y1 y2 y3 => (K (.exit 0) (tabl [(0, (.v (.v false [(.sh 214 y0)]))), (2, (.v (.v false [(.sh 214 y1)]))), (8, (.v (.v false [(.b y2)]))), (10, (.v (.v false [(.i .i64 y3)])))]))) n := by funext x0 x1 x2 x3; exact ih x0 x1 x2 x3
    intro x0 x1 x2 x3
    have h : ∀ g, exc E133 (it133 N) (loopOf Try.f133 4) (tabl [(0, (.v (.v false [(.sh 214 x0)]))), (2, (.v (.v false [(.sh 214 x1)]))), (8, (.v (.v false [(.b x2)]))), (10, (.v (.v false [(.i .i64 x3)])))]) (iterK g (canon (E133.keep 4)) K) = Pu.laws_eqClientS.r4 N (fun x0 x1 x2 x3 => (g (tabl [(0, (.v (.v false [(.sh 214 x0)]))), (2, (.v (.v false [(.sh 214 x1)]))), (8, (.v (.v false [(.b x2)]))), (10, (.v (.v false [(.i .i64 x3)])))]))) (fun y0 y1 y2 y3 => (K .ret (tabl [(0, (.v (.v false [(.sh 214 y0)]))), (2, (.v (.v false [(.sh 214 y1)]))), (8, (.v (.v false [(.b y2)]))), (10, (.v (.v false [(.i .i64 y3)])))]))) (fun y0 y1 y2 y3 => (K (.exit 0) (tabl [(0, (.v (.v false [(.sh 214 y0)]))), (2, (.v (.v false [(.sh 214 y1)]))), (8, (.v (.v false [(.b y2)]))), (10, (.v (.v false [(.i .i64 y3)])))]))) x0 x1 x2 x3 := by intro g; kernel_rfl
    refine (h _).trans ?_
    show Pu.laws_eqClientS.r4 N (fun x0 x1 x2 x3 => (iter (exc E133 (it133 N) (loopOf Try.f133 4)) (canon (E133.keep 4))  n (tabl [(0, (.v (.v false [(.sh 214 x0)]))), (2, (.v (.v false [(.sh 214 x1)]))), (8, (.v (.v false [(.b x2)]))), (10, (.v (.v false [(.i .i64 x3)])))]) K)) (fun y0 y1 y2 y3 => (K .ret (tabl [(0, (.v (.v false [(.sh 214 y0)]))), (2, (.v (.v false [(.sh 214 y1)]))), (8, (.v (.v false [(.b y2)]))), (10, (.v (.v false [(.i .i64 y3)])))]))) (fun y0 y1 y2 y3 => (K (.exit 0) (tabl [(0, (.v (.v false [(.sh 214 y0)]))), (2, (.v (.v false [(.sh 214 y1)]))), (8, (.v (.v false [(.b y2)]))), (10, (.v (.v false [(.i .i64 y3)])))]))) x0 x1 x2 x3 = _
    rw [e0]; rfl
theorem lo133_4 {R : Type} (N : Nat) : LoopOk E133 (it133 N (R := R)) (loopOf Try.f133 4) := by
  have e : firstRid (loopOf Try.f133 4) = 4 := by kernel_rfl
  intro L K r
  rw [e]
  intro h
  unfold it133 at h
  simp only [show Nat.beq 4 4 = true from rfl, cond_false, cond_true] at h
  refine tell_ok (Q := fun L => ∃ n, iter (exc E133 (it133 N) (loopOf Try.f133 4)) (canon (E133.keep 4)) n (tabl L) K = some r) h (fun xs h => ?_) (fun h => ?_)
  · (try dsimp only at h)
    split at h
    · exact ⟨N, ((e133_4 N K N) _ _ _ _).trans h⟩
    · cases h
  cases h
def sp133 : List Arg → Option (Bool × Res)
  | [(.v false [(.sh 214 a0)]), (.v false [(.sh 214 b1)])] => some (Pu.laws_eqClientS.c a0 b1, ⟨[(.v false [(.b (Pu.laws_eqClientS.v a0 b1))])], []⟩)
  | _ => none
theorem ok133 : FnOk Try.prog T 133 sp133 := by
  refine fn_ok (E := E133) hE (call_cons ok184 call_nil) hM Try.func133 (code := (Try.f133.body.getD .skip)) (by kernel_rfl) (by kernel_rfl) ?_
  have key : ∀ (a0 : Row) (b1 : Row), Pu.laws_eqClientS.c a0 b1 = true → ∃ it : It Res, (∀ c ∈ loopsOf (Try.f133.body.getD .skip), LoopOk E133 it c) ∧ body E133 it Try.f133 [(.v false [(.sh 214 a0)]), (.v false [(.sh 214 b1)])] = some ⟨[(.v false [(.b (Pu.laws_eqClientS.v a0 b1))])], []⟩ := by
    intro a0 b1  h1
    obtain ⟨N, hN⟩ := Pu.laws_eqClientS.b_eq (R := Res) (fun r0 => some ⟨[(.v false [(.b r0)])], []⟩) a0 b1 h1
    have hl : loopsOf (Try.f133.body.getD .skip) = [loopOf Try.f133 4] := by kernel_rfl
    refine ⟨it133 N, by rw [hl]; exact (loops_cons (lo133_4 N) loops_nil), ?_⟩
    refine Eq.trans (show body E133 (it133 N) Try.f133 [(.v false [(.sh 214 a0)]), (.v false [(.sh 214 b1)])] = Pu.laws_eqClientS.b N (fun r0 => some ⟨[(.v false [(.b r0)])], []⟩) a0 b1 by kernel_rfl) hN
  intro args r h
  unfold sp133 at h
  split at h
  · injection h with h
    injection h with h1 h2
    subst h2
    exact ⟨by kernel_rfl, fun hf => ⟨of_decide_eq_true (by kernel_rfl), key _ _ h1⟩⟩
  · cases h

end Go.FG.Se

namespace Go.FG.Se
open Go.Proofs
def E63 : Env := { toTab := T, call := Go.FG.callIn [(77, sp77), (131, sp131), (132, sp132), (133, sp133)], mode := Go.FG.modeIn md, keep := Go.FG.keepIn [], tk := fun n => Go.FG.memB n [], om := Go.FG.omIn [] }
def sp63 : List Arg → Option (Bool × Res)
  | [(.v true [(.i .i64 a0_0), (.sh 25 a0_1), (.sh 9 a0_2), (.sh 9 a0_3), (.sh 49 a0_4), (.i .i64 a0_5), (.sh 175 a0_6), (.sh 214 a0_7), (.i .i64 a0_8)]), (.v true [(.i .i64 b1_0), (.sh 25 b1_1), (.sh 9 b1_2), (.sh 9 b1_3), (.sh 49 b1_4), (.i .i64 b1_5), (.sh 175 b1_6), (.sh 214 b1_7), (.i .i64 b1_8)])] => some (Pu.laws_eqProxy.c a0_0 a0_1 a0_2 a0_3 a0_4 a0_5 a0_6 a0_7 a0_8 b1_0 b1_1 b1_2 b1_3 b1_4 b1_5 b1_6 b1_7 b1_8, ⟨[(.v false [(.b (Pu.laws_eqProxy.v a0_0 a0_1 a0_2 a0_3 a0_4 a0_5 a0_6 a0_7 a0_8 b1_0 b1_1 b1_2 b1_3 b1_4 b1_5 b1_6 b1_7 b1_8))])], []⟩)
  | _ => none
theorem ok63 : FnOk Try.prog T 63 sp63 := by
  refine fn_ok (E := E63) hE (call_cons ok77 (call_cons ok131 (call_cons ok132 (call_cons ok133 call_nil)))) hM Try.func63 (code := (Try.f63.body.getD .skip)) (by kernel_rfl) (by kernel_rfl) ?_
  have key : ∀ (a0_0 : Int) (a0_1 : Row) (a0_2 : Row) (a0_3 : Row) (a0_4 : Row) (a0_5 : Int) (a0_6 : Row) (a0_7 : Row) (a0_8 : Int) (b1_0 : Int) (b1_1 : Row) (b1_2 : Row) (b1_3 : Row) (b1_4 : Row) (b1_5 : Int) (b1_6 : Row) (b1_7 : Row) (b1_8 : Int), Pu.laws_eqProxy.c a0_0 a0_1 a0_2 a0_3 a0_4 a0_5 a0_6 a0_7 a0_8 b1_0 b1_1 b1_2 b1_3 b1_4 b1_5 b1_6 b1_7 b1_8 = true → ∃ it : It Res, (∀ c ∈ loopsOf (Try.f63.body.getD .skip), LoopOk E63 it c) ∧ body E63 it Try.f63 [(.v true [(.i .i64 a0_0), (.sh 25 a0_1), (.sh 9 a0_2), (.sh 9 a0_3), (.sh 49 a0_4), (.i .i64 a0_5), (.sh 175 a0_6), (.sh 214 a0_7), (.i .i64 a0_8)]), (.v true [(.i .i64 b1_0), (.sh 25 b1_1), (.sh 9 b1_2), (.sh 9 b1_3), (.sh 49 b1_4), (.i .i64 b1_5), (.sh 175 b1_6), (.sh 214 b1_7), (.i .i64 b1_8)])] = some ⟨[(.v false [(.b (Pu.laws_eqProxy.v a0_0 a0_1 a0_2 a0_3 a0_4 a0_5 a0_6 a0_7 a0_8 b1_0 b1_1 b1_2 b1_3 b1_4 b1_5 b1_6 b1_7 b1_8))])], []⟩ := by
    intro a0_0 a0_1 a0_2 a0_3 a0_4 a0_5 a0_6 a0_7 a0_8 b1_0 b1_1 b1_2 b1_3 b1_4 b1_5 b1_6 b1_7 b1_8  h1
    have hN := Pu.laws_eqProxy.b_eq (R := Res) (fun r0 => some ⟨[(.v false [(.b r0)])], []⟩) a0_0 a0_1 a0_2 a0_3 a0_4 a0_5 a0_6 a0_7 a0_8 b1_0 b1_1 b1_2 b1_3 b1_4 b1_5 b1_6 b1_7 b1_8 h1
    have hl : loopsOf (Try.f63.body.getD .skip) = [] := by kernel_rfl
    refine ⟨iterN 0, by rw [hl]; exact loops_nil, ?_⟩
    refine Eq.trans (show body E63 (iterN 0) Try.f63 [(.v true [(.i .i64 a0_0), (.sh 25 a0_1), (.sh 9 a0_2), (.sh 9 a0_3), (.sh 49 a0_4), (.i .i64 a0_5), (.sh 175 a0_6), (.sh 214 a0_7), (.i .i64 a0_8)]), (.v true [(.i .i64 b1_0), (.sh 25 b1_1), (.sh 9 b1_2), (.sh 9 b1_3), (.sh 49 b1_4), (.i .i64 b1_5), (.sh 175 b1_6), (.sh 214 b1_7), (.i .i64 b1_8)])] = Pu.laws_eqProxy.b (fun r0 => some ⟨[(.v false [(.b r0)])], []⟩) a0_0 a0_1 a0_2 a0_3 a0_4 a0_5 a0_6 a0_7 a0_8 b1_0 b1_1 b1_2 b1_3 b1_4 b1_5 b1_6 b1_7 b1_8 by kernel_rfl) hN
  intro args r h
  unfold sp63 at h
  split at h
  · injection h with h
    injection h with h1 h2
    subst h2
    exact ⟨by kernel_rfl, fun hf => ⟨of_decide_eq_true (by kernel_rfl), key _ _ _ _ _ _ _ _ _ _ _ _ _ _ _ _ _ _ h1⟩⟩
  · cases h

end Go.FG.Se

namespace Go.FG.Se
open Go.Proofs
def E204 : Env := { toTab := T, call := Go.FG.callIn [], mode := Go.FG.modeIn md, keep := Go.FG.keepIn [], tk := fun n => Go.FG.memB n [], om := Go.FG.omIn [] }
def sp204 : List Arg → Option (Bool × Res)
  | [(.v true [(.s a0_0), (.s a0_1), (.i .i64 a0_2)]), (.v true [(.s b1_0), (.s b1_1), (.i .i64 b1_2)])] => some (true, ⟨[(.v false [(.b (Pu.laws_eqFile.v a0_0 a0_1 a0_2 b1_0 b1_1 b1_2))])], []⟩)
  | _ => none
theorem ok204 : FnOk Try.prog T 204 sp204 := by
  refine fn_ok (E := E204) hE call_nil hM Try.func204 (code := (Try.f204.body.getD .skip)) (by kernel_rfl) (by kernel_rfl) ?_
  have key : ∀ (a0_0 : ByteArray) (a0_1 : ByteArray) (a0_2 : Int) (b1_0 : ByteArray) (b1_1 : ByteArray) (b1_2 : Int), ∃ it : It Res, (∀ c ∈ loopsOf (Try.f204.body.getD .skip), LoopOk E204 it c) ∧ body E204 it Try.f204 [(.v true [(.s a0_0), (.s a0_1), (.i .i64 a0_2)]), (.v true [(.s b1_0), (.s b1_1), (.i .i64 b1_2)])] = some ⟨[(.v false [(.b (Pu.laws_eqFile.v a0_0 a0_1 a0_2 b1_0 b1_1 b1_2))])], []⟩ := by
    intro a0_0 a0_1 a0_2 b1_0 b1_1 b1_2 
    have hN := Pu.laws_eqFile.b_eq (R := Res) (fun r0 => some ⟨[(.v false [(.b r0)])], []⟩) a0_0 a0_1 a0_2 b1_0 b1_1 b1_2
    have hl : loopsOf (Try.f204.body.getD .skip) = [] := by kernel_rfl
    refine ⟨iterN 0, by rw [hl]; exact loops_nil, ?_⟩
    refine Eq.trans (show body E204 (iterN 0) Try.f204 [(.v true [(.s a0_0), (.s a0_1), (.i .i64 a0_2)]), (.v true [(.s b1_0), (.s b1_1), (.i .i64 b1_2)])] = Pu.laws_eqFile.b (fun r0 => some ⟨[(.v false [(.b r0)])], []⟩) a0_0 a0_1 a0_2 b1_0 b1_1 b1_2 by kernel_rfl) hN
  intro args r h
  unfold sp204 at h
  split at h
  · injection h with h
    injection h with h1 h2
    subst h2
    exact ⟨by kernel_rfl, fun hf => ⟨of_decide_eq_true (by kernel_rfl), key _ _ _ _ _ _⟩⟩
  · cases h

end Go.FG.Se

namespace Go.FG.Se
open Go.Proofs
def E153 : Env := { toTab := T, call := Go.FG.callIn [(204, sp204)], mode := Go.FG.modeIn md, keep := Go.FG.keepIn [(4, [0, 1, 4, 5])], tk := fun n => Go.FG.memB n [], om := Go.FG.omIn [] }
def it153 (N : Nat) {R : Type} : It R := fun rid f cn L K => bif Nat.beq rid 4 then (tell [(0, (.v (.v false [(.sh 231 [])]))), (2, (.v (.v false [(.sh 231 [])]))), (8, (.v (.v false [(.b false)]))), (10, (.v (.v false [(.i .i64 0)])))] (fun | [.R x0, .R x1, .B x2, .I x3] => Pu.laws_eqFileS.l4 N (fun y0 y1 y2 y3 => (K .ret (tabl [(0, (.v (.v false [(.sh 231 y0)]))), (2, (.v (.v false [(.sh 231 y1)]))), (8, (.v (.v false [(.b y2)]))), (10, (.v (.v false [(.i .i64 y3)])))]))) (fun y0 y1 y2 y3 => (K (.exit 0) (tabl [(0, (.v (.v false [(.sh 231 y0)]))), (2, (.v (.v false [(.sh 231 y1)]))), (8, (.v (.v false [(.b y2)]))), (10, (.v (.v false [(.i .i64 y3)])))]))) N x0 x1 x2 x3 | _ => none) L (none)) else none
theorem e153_4 {R : Type} (N : Nat) (K : Ex → St → Option R) : ∀ n : Nat, (∀ x0 x1 x2 x3, iter (exc E153 (it153 N) (loopOf Try.f153 4)) (canon (E153.keep 4))  n (tabl [(0, (.v (.v false [(.sh 231 x0)]))), (2, (.v (.v false [(.sh 231 x1)]))), (8, (.v (.v false [(.b x2)]))), (10, (.v (.v false [(.i .i64 x3)])))]) K = Pu.laws_eqFileS.l4 N (fun y0 y1 y2 y3 => (K .ret (tabl [(0, (.v (.v false [(.sh 231 y0)]))), (2, (.v (.v false [(.sh 231 y1)]))), (8, (.v (.v false [(.b y2)]))), (10, (.v (.v false [(.i .i64 y3)])))]))) (fun y0 y1 y2 y3 => (K (.exit 0) (tabl [(0, (.v (.v false [(.sh 231 y0)]))), (2, (.v (.v false [(.sh 231 y1)]))), (8, (.v (.v false [(.b y2)]))), (10, (.v (.v false [(.i .i64 y3)])))]))) n x0 x1 x2 x3) := by
  intro n
  induction n with
  | zero => exact (fun _ _ _ _ => rfl)
  | succ n ih =>
    have e0 : (fun x0 x1 x2 x3 => iter (exc E153 (it153 N) (loopOf Try.f153 4)) (canon (E153.keep 4))  n (tabl [(0, (.v (.v false [(.sh 231 x0)]))), (2, (.v (.v false [(.sh 231 x1)]))), (8, (.v (.v false [(.b x2)]))), (10, (.v (.v false [(.i .i64 x3)])))]) K) = Pu.laws_eqFileS.l4 N (fun y0 y1 y2 y3 => (K .ret (tabl [(0, (.v (.v false [(.sh 231 y0)]))), (2, (.v (.v false [(.sh 231 y1)]))), (8, (.v (.v false [(.b y2)]))), (10, (.v (.v false [(.i .i64 y3)])))]))) (fun y0 y1 y2 y3 => (K (.exit 0) (tabl [(0, (.v (.v false [(.sh 231 y0)]))), (2, (.v (.v false [(.sh 231 y1)]))), (8, (.v (.v false [(.b y2)]))), (10, (.v (.v false [(.i .i64 y3)])))]))) n := by funext x0 x1 x2 x3; exact ih x0 x1 x2 x3
    intro x0 x1 x2 x3
    have h : ∀ g, exc E153 (it153 N) (loopOf Try.f153 4) (tabl [(0, (.v (.v false [(.sh 231 x0)]))), (2, (.v (.v false [(.sh 231 x1)]))), (8, (.v (.v false [(.b x2)]))), (10, (.v (.v false [(.i .i64 x3)])))]) (iterK g (canon (E153.keep 4)) K) = Pu.laws_eqFileS.r4 N (fun x0 x1 x2 x3 => (g (tabl [(0, (.v (.v false [(.sh 231 x0)]))), (2, (.v (.v false [(.sh 231 x1)]))), (8, (.v (.v false [(.b x2)]))), (10, (.v (.v false [(.i .i64 x3)])))]))) (fun y0 y1 y2 y3 => (K .ret (tabl [(0, (.v (.v false [(.sh 231 y0)]))), (2, (.v (.v false [(.sh 231 y1)]))), (8, (.v (.v false [(.b y2)]))), (10, (.v (.v false [(.i .i64 y3)])))]))) (fun y0 y1 y2 y3 => (K (.exit 0) (tabl [(0, (.v (.v false [(.sh 231 y0)]))), (2, (.v (.v false [(.sh 231 y1)]))), (8, (.v (.v false [(.b y2)]))), (10, (.v (.v false [(.i .i64 y3)])))]))) x0 x1 x2 x3 := by intro g; kernel_rfl
    refine (h _).trans ?_
    show Pu.laws_eqFileS.r4 N (fun x0 x1 x2 x3 => (iter (exc E153 (it153 N) (loopOf Try.f153 4)) (canon (E153.keep 4))  n (tabl [(0, (.v (.v false [(.sh 231 x0)]))), (2, (.v (.v false [(.sh 231 x1)]))), (8, (.v (.v false [(.b x2)]))), (10, (.v (.v false [(.i .i64 x3)])))]) K)) (fun y0 y1 y2 y3 => (K .ret (tabl [(0, (.v (.v false [(.sh 231 y0)]))), (2, (.v (.v false [(.sh 231 y1)]))), (8, (.v (.v false [(.b y2)]))), (10, (.v (.v false [(.i .i64 y3)])))]))) (fun y0 y1 y2 y3 => (K (.exit 0) (tabl [(0, (.v (.v false [(.sh 231 y0)]))), (2, (.v (.v false [(.sh 231 y1)]))), (8, (.v (.v false [(.b y2)]))), (10, (.v (.v false [(.i .i64 y3)])))]))) x0 x1 x2 x3 = _
    rw [e0]; rfl
theorem lo153_4 {R : Type} (N : Nat) : LoopOk E153 (it153 N (R := R)) (loopOf Try.f153 4) := by
  have e : firstRid (loopOf Try.f153 4) = 4 := by kernel_rfl
  intro L K r
  rw [e]
  intro h
  unfold it153 at h
  simp only [show Nat.beq 4 4 = true from rfl, cond_false, cond_true] at h
  refine tell_ok (Q := fun L => ∃ n, iter (exc E153 (it153 N) (loopOf Try.f153 4)) (canon (E153.keep 4)) n (tabl L) K = some r) h (fun xs h => ?_) (fun h => ?_)
  · (try dsimp only at h)
    split at h
    · exact ⟨N, ((e153_4 N K N) _ _ _ _).trans h⟩
    · cases h
  cases h
def sp153 : List Arg → Option (Bool × Res)
  | [(.v false [(.sh 231 a0)]), (.v false [(.sh 231 b1)])] => some (Pu.laws_eqFileS.c a0 b1, ⟨[(.v false [(.b (Pu.laws_eqFileS.v a0 b1))])], []⟩)
  | _ => none
theorem ok153 : FnOk Try.prog T 153 sp153 := by
  refine fn_ok (E := E153) hE (call_cons ok204 call_nil) hM Try.func153 (code := (Try.f153.body.getD .skip)) (by kernel_rfl) (by kernel_rfl) ?_
  have key : ∀ (a0 : Row) (b1 : Row), Pu.laws_eqFileS.c a0 b1 = true → ∃ it : It Res, (∀ c ∈ loopsOf (Try.f153.body.getD .skip), LoopOk E153 it c) ∧ body E153 it Try.f153 [(.v false [(.sh 231 a0)]), (.v false [(.sh 231 b1)])] = some ⟨[(.v false [(.b (Pu.laws_eqFileS.v a0 b1))])], []⟩ := by
    intro a0 b1  h1
    obtain ⟨N, hN⟩ := Pu.laws_eqFileS.b_eq (R := Res) (fun r0 => some ⟨[(.v false [(.b r0)])], []⟩) a0 b1 h1
    have hl : loopsOf (Try.f153.body.getD .skip) = [loopOf Try.f153 4] := by kernel_rfl
    refine ⟨it153 N, by rw [hl]; exact (loops_cons (lo153_4 N) loops_nil), ?_⟩
    refine Eq.trans (show body E153 (it153 N) Try.f153 [(.v false [(.sh 231 a0)]), (.v false [(.sh 231 b1)])] = Pu.laws_eqFileS.b N (fun r0 => some ⟨[(.v false [(.b r0)])], []⟩) a0 b1 by kernel_rfl) hN
  intro args r h
  unfold sp153 at h
  split at h
  · injection h with h
    injection h with h1 h2
    subst h2
    exact ⟨by kernel_rfl, fun hf => ⟨of_decide_eq_true (by kernel_rfl), key _ _ h1⟩⟩
  · cases h

end Go.FG.Se

namespace Go.FG.Se
open Go.Proofs
def E76 : Env := { toTab := T, call := Go.FG.callIn [(153, sp153)], mode := Go.FG.modeIn md, keep := Go.FG.keepIn [], tk := fun n => Go.FG.memB n [], om := Go.FG.omIn [] }
def sp76 : List Arg → Option (Bool × Res)
  | [(.v true [(.sh 231 a0)]), (.v true [(.sh 231 b1)])] => some (Pu.laws_eqDisk.c a0 b1, ⟨[(.v false [(.b (Pu.laws_eqDisk.v a0 b1))])], []⟩)
  | _ => none
theorem ok76 : FnOk Try.prog T 76 sp76 := by
  refine fn_ok (E := E76) hE (call_cons ok153 call_nil) hM Try.func76 (code := (Try.f76.body.getD .skip)) (by kernel_rfl) (by kernel_rfl) ?_
  have key : ∀ (a0 : Row) (b1 : Row), Pu.laws_eqDisk.c a0 b1 = true → ∃ it : It Res, (∀ c ∈ loopsOf (Try.f76.body.getD .skip), LoopOk E76 it c) ∧ body E76 it Try.f76 [(.v true [(.sh 231 a0)]), (.v true [(.sh 231 b1)])] = some ⟨[(.v false [(.b (Pu.laws_eqDisk.v a0 b1))])], []⟩ := by
    intro a0 b1  h1
    have hN := Pu.laws_eqDisk.b_eq (R := Res) (fun r0 => some ⟨[(.v false [(.b r0)])], []⟩) a0 b1 h1
    have hl : loopsOf (Try.f76.body.getD .skip) = [] := by kernel_rfl
    refine ⟨iterN 0, by rw [hl]; exact loops_nil, ?_⟩
    refine Eq.trans (show body E76 (iterN 0) Try.f76 [(.v true [(.sh 231 a0)]), (.v true [(.sh 231 b1)])] = Pu.laws_eqDisk.b (fun r0 => some ⟨[(.v false [(.b r0)])], []⟩) a0 b1 by kernel_rfl) hN
  intro args r h
  unfold sp76 at h
  split at h
  · injection h with h
    injection h with h1 h2
    subst h2
    exact ⟨by kernel_rfl, fun hf => ⟨of_decide_eq_true (by kernel_rfl), key _ _ h1⟩⟩
  · cases h

end Go.FG.Se

namespace Go.FG.Se
open Go.Proofs
def E84 : Env := { toTab := T, call := Go.FG.callIn [(63, sp63), (76, sp76), (160, sp160), (77, sp77)], mode := Go.FG.modeIn md, keep := Go.FG.keepIn [], tk := fun n => Go.FG.memB n [], om := Go.FG.omIn [] }
def sp84 : List Arg → Option (Bool × Res)
  | [(.v true [(.i .i64 a0_0), (.sh 25 a0_1), (.sh 9 a0_2), (.sh 9 a0_3), (.sh 49 a0_4), (.i .i64 a0_5), (.sh 175 a0_6), (.sh 214 a0_7), (.i .i64 a0_8), (.sh 231 a0_9), (.sh 3 a0_10), (.sh 25 a0_11)]), (.v true [(.i .i64 b1_0), (.sh 25 b1_1), (.sh 9 b1_2), (.sh 9 b1_3), (.sh 49 b1_4), (.i .i64 b1_5), (.sh 175 b1_6), (.sh 214 b1_7), (.i .i64 b1_8), (.sh 231 b1_9), (.sh 3 b1_10), (.sh 25 b1_11)])] => some (Pu.laws_eqWorld.c a0_0 a0_1 a0_2 a0_3 a0_4 a0_5 a0_6 a0_7 a0_8 a0_9 a0_10 a0_11 b1_0 b1_1 b1_2 b1_3 b1_4 b1_5 b1_6 b1_7 b1_8 b1_9 b1_10 b1_11, ⟨[(.v false [(.b (Pu.laws_eqWorld.v a0_0 a0_1 a0_2 a0_3 a0_4 a0_5 a0_6 a0_7 a0_8 a0_9 a0_10 a0_11 b1_0 b1_1 b1_2 b1_3 b1_4 b1_5 b1_6 b1_7 b1_8 b1_9 b1_10 b1_11))])], []⟩)
  | _ => none
theorem ok84 : FnOk Try.prog T 84 sp84 := by
  refine fn_ok (E := E84) hE (call_cons ok63 (call_cons ok76 (call_cons ok160 (call_cons ok77 call_nil)))) hM Try.func84 (code := (Try.f84.body.getD .skip)) (by kernel_rfl) (by kernel_rfl) ?_
  have key : ∀ (a0_0 : Int) (a0_1 : Row) (a0_2 : Row) (a0_3 : Row) (a0_4 : Row) (a0_5 : Int) (a0_6 : Row) (a0_7 : Row) (a0_8 : Int) (a0_9 : Row) (a0_10 : Row) (a0_11 : Row) (b1_0 : Int) (b1_1 : Row) (b1_2 : Row) (b1_3 : Row) (b1_4 : Row) (b1_5 : Int) (b1_6 : Row) (b1_7 : Row) (b1_8 : Int) (b1_9 : Row) (b1_10 : Row) (b1_11 : Row), Pu.laws_eqWorld.c a0_0 a0_1 a0_2 a0_3 a0_4 a0_5 a0_6 a0_7 a0_8 a0_9 a0_10 a0_11 b1_0 b1_1 b1_2 b1_3 b1_4 b1_5 b1_6 b1_7 b1_8 b1_9 b1_10 b1_11 = true → ∃ it : It Res, (∀ c ∈ loopsOf (Try.f84.body.getD .skip), LoopOk E84 it c) ∧ body E84 it Try.f84 [(.v true [(.i .i64 a0_0), (.sh 25 a0_1), (.sh 9 a0_2), (.sh 9 a0_3), (.sh 49 a0_4), (.i .i64 a0_5), (.sh 175 a0_6), (.sh 214 a0_7), (.i .i64 a0_8), (.sh 231 a0_9), (.sh 3 a0_10), (.sh 25 a0_11)]), (.v true [(.i .i64 b1_0), (.sh 25 b1_1), (.sh 9 b1_2), (.sh 9 b1_3), (.sh 49 b1_4), (.i .i64 b1_5), (.sh 175 b1_6), (.sh 214 b1_7), (.i .i64 b1_8), (.sh 231 b1_9), (.sh 3 b1_10), (.sh 25 b1_11)])] = some ⟨[(.v false [(.b (Pu.laws_eqWorld.v a0_0 a0_1 a0_2 a0_3 a0_4 a0_5 a0_6 a0_7 a0_8 a0_9 a0_10 a0_11 b1_0 b1_1 b1_2 b1_3 b1_4 b1_5 b1_6 b1_7 b1_8 b1_9 b1_10 b1_11))])], []⟩ := by
    intro a0_0 a0_1 a0_2 a0_3 a0_4 a0_5 a0_6 a0_7 a0_8 a0_9 a0_10 a0_11 b1_0 b1_1 b1_2 b1_3 b1_4 b1_5 b1_6 b1_7 b1_8 b1_9 b1_10 b1_11  h1
    have hN := Pu.laws_eqWorld.b_eq (R := Res) (fun r0 => some ⟨[(.v false [(.b r0)])], []⟩) a0_0 a0_1 a0_2 a0_3 a0_4 a0_5 a0_6 a0_7 a0_8 a0_9 a0_10 a0_11 b1_0 b1_1 b1_2 b1_3 b1_4 b1_5 b1_6 b1_7 b1_8 b1_9 b1_10 b1_11 h1
    have hl : loopsOf (Try.f84.body.getD .skip) = [] := by kernel_rfl
    refine ⟨iterN 0, by rw [hl]; exact loops_nil, ?_⟩
    refine Eq.trans (show body E84 (iterN 0) Try.f84 [(.v true [(.i .i64 a0_0), (.sh 25 a0_1), (.sh 9 a0_2), (.sh 9 a0_3), (.sh 49 a0_4), (.i .i64 a0_5), (.sh 175 a0_6), (.sh 214 a0_7), (.i .i64 a0_8), (.sh 231 a0_9), (.sh 3 a0_10), (.sh 25 a0_11)]), (.v true [(.i .i64 b1_0), (.sh 25 b1_1), (.sh 9 b1_2), (.sh 9 b1_3), (.sh 49 b1_4), (.i .i64 b1_5), (.sh 175 b1_6), (.sh 214 b1_7), (.i .i64 b1_8), (.sh 231 b1_9), (.sh 3 b1_10), (.sh 25 b1_11)])] = Pu.laws_eqWorld.b (fun r0 => some ⟨[(.v false [(.b r0)])], []⟩) a0_0 a0_1 a0_2 a0_3 a0_4 a0_5 a0_6 a0_7 a0_8 a0_9 a0_10 a0_11 b1_0 b1_1 b1_2 b1_3 b1_4 b1_5 b1_6 b1_7 b1_8 b1_9 b1_10 b1_11 by kernel_rfl) hN
  intro args r h
  unfold sp84 at h
  split at h
  · injection h with h
    injection h with h1 h2
    subst h2
    exact ⟨by kernel_rfl, fun hf => ⟨of_decide_eq_true (by kernel_rfl), key _ _ _ _ _ _ _ _ _ _ _ _ _ _ _ _ _ _ _ _ _ _ _ _ h1⟩⟩
  · cases h

end Go.FG.Se

namespace Go.FG.Se
open Go.Proofs
def E13 : Env := { toTab := T, call := Go.FG.callIn [(80, sp80), (82, sp82), (81, sp81), (83, sp83), (84, sp84)], mode := Go.FG.modeIn md, keep := Go.FG.keepIn [], tk := fun n => Go.FG.memB n [], om := Go.FG.omIn [] }
def sp13 : List Arg → Option (Bool × Res)
  | [(.v true [(.i .i64 aW0_0), (.sh 30 aW0_1), (.sh 9 aW0_2), (.sh 9 aW0_3), (.sh 49 aW0_4), (.i .i64 aW0_5), (.sh 219 aW0_6), (.sh 221 aW0_7), (.i .i64 aW0_8), (.sh 230 aW0_9), (.sh 3 aW0_10), (.sh 30 aW0_11)])] => some (Pu.laws_FnExactStoredRight.c aW0_0 aW0_1 aW0_2 aW0_3 aW0_4 aW0_5 aW0_6 aW0_7 aW0_8 aW0_9 aW0_10 aW0_11, ⟨[(.v false [(.b (Pu.laws_FnExactStoredRight.v aW0_0 aW0_1 aW0_2 aW0_3 aW0_4 aW0_5 aW0_6 aW0_7 aW0_8 aW0_9 aW0_10 aW0_11))])], []⟩)
  | _ => none
theorem ok13 : FnOk Try.prog T 13 sp13 := by
  refine fn_ok (E := E13) hE (call_cons ok80 (call_cons ok82 (call_cons ok81 (call_cons ok83 (call_cons ok84 call_nil))))) hM Try.func13 (code := (Try.f13.body.getD .skip)) (by kernel_rfl) (by kernel_rfl) ?_
  have key : ∀ (aW0_0 : Int) (aW0_1 : Row) (aW0_2 : Row) (aW0_3 : Row) (aW0_4 : Row) (aW0_5 : Int) (aW0_6 : Row) (aW0_7 : Row) (aW0_8 : Int) (aW0_9 : Row) (aW0_10 : Row) (aW0_11 : Row), Pu.laws_FnExactStoredRight.c aW0_0 aW0_1 aW0_2 aW0_3 aW0_4 aW0_5 aW0_6 aW0_7 aW0_8 aW0_9 aW0_10 aW0_11 = true → ∃ it : It Res, (∀ c ∈ loopsOf (Try.f13.body.getD .skip), LoopOk E13 it c) ∧ body E13 it Try.f13 [(.v true [(.i .i64 aW0_0), (.sh 30 aW0_1), (.sh 9 aW0_2), (.sh 9 aW0_3), (.sh 49 aW0_4), (.i .i64 aW0_5), (.sh 219 aW0_6), (.sh 221 aW0_7), (.i .i64 aW0_8), (.sh 230 aW0_9), (.sh 3 aW0_10), (.sh 30 aW0_11)])] = some ⟨[(.v false [(.b (Pu.laws_FnExactStoredRight.v aW0_0 aW0_1 aW0_2 aW0_3 aW0_4 aW0_5 aW0_6 aW0_7 aW0_8 aW0_9 aW0_10 aW0_11))])], []⟩ := by
    intro aW0_0 aW0_1 aW0_2 aW0_3 aW0_4 aW0_5 aW0_6 aW0_7 aW0_8 aW0_9 aW0_10 aW0_11  h1
    have hN := Pu.laws_FnExactStoredRight.b_eq (R := Res) (fun r0 => some ⟨[(.v false [(.b r0)])], []⟩) aW0_0 aW0_1 aW0_2 aW0_3 aW0_4 aW0_5 aW0_6 aW0_7 aW0_8 aW0_9 aW0_10 aW0_11 h1
    have hl : loopsOf (Try.f13.body.getD .skip) = [] := by kernel_rfl
    refine ⟨iterN 0, by rw [hl]; exact loops_nil, ?_⟩
    refine Eq.trans (show body E13 (iterN 0) Try.f13 [(.v true [(.i .i64 aW0_0), (.sh 30 aW0_1), (.sh 9 aW0_2), (.sh 9 aW0_3), (.sh 49 aW0_4), (.i .i64 aW0_5), (.sh 219 aW0_6), (.sh 221 aW0_7), (.i .i64 aW0_8), (.sh 230 aW0_9), (.sh 3 aW0_10), (.sh 30 aW0_11)])] = Pu.laws_FnExactStoredRight.b (fun r0 => some ⟨[(.v false [(.b r0)])], []⟩) aW0_0 aW0_1 aW0_2 aW0_3 aW0_4 aW0_5 aW0_6 aW0_7 aW0_8 aW0_9 aW0_10 aW0_11 by kernel_rfl) hN
  intro args r h
  unfold sp13 at h
  split at h
  · injection h with h
    injection h with h1 h2
    subst h2
    exact ⟨by kernel_rfl, fun hf => ⟨of_decide_eq_true (by kernel_rfl), key _ _ _ _ _ _ _ _ _ _ _ _ h1⟩⟩
  · cases h

end Go.FG.Se

