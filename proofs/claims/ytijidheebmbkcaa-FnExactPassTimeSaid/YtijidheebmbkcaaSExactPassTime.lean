/- Functions of the program: the evaluation of each, and that a call of it does what is told. No condition. -/
import Derived.Test.YtijidheebmbkcaaTab
import Derived.Test.YtijidheebmbkcaaPExactPassTime
set_option linter.unusedVariables false
set_option linter.unusedSimpArgs false
set_option maxRecDepth 100000
namespace Go.FG.Se
open Go.Proofs
def E198 : Env := { toTab := T, call := Go.FG.callIn [], mode := Go.FG.modeIn md, keep := Go.FG.keepIn [], tk := fun n => Go.FG.memB n [], om := Go.FG.omIn [] }
def sp198 : List Arg → Option (Bool × Res)
  | [(.v true [(.s a0_0), (.i .i64 a0_1), (.i .i64 a0_2), (.s a0_3)]), (.v false [(.i .i64 left1)])] => some (true, ⟨[(.v false [(.i .i64 (Pu.laws_szEntry.v a0_0 a0_1 a0_2 a0_3 left1))])], []⟩)
  | _ => none
theorem ok198 : FnOk Try.prog T 198 sp198 := by
  refine fn_ok (E := E198) hE call_nil hM Try.func198 (code := (Try.f198.body.getD .skip)) (by kernel_rfl) (by kernel_rfl) ?_
  have key : ∀ (a0_0 : ByteArray) (a0_1 : Int) (a0_2 : Int) (a0_3 : ByteArray) (left1 : Int), ∃ it : It Res, (∀ c ∈ loopsOf (Try.f198.body.getD .skip), LoopOk E198 it c) ∧ body E198 it Try.f198 [(.v true [(.s a0_0), (.i .i64 a0_1), (.i .i64 a0_2), (.s a0_3)]), (.v false [(.i .i64 left1)])] = some ⟨[(.v false [(.i .i64 (Pu.laws_szEntry.v a0_0 a0_1 a0_2 a0_3 left1))])], []⟩ := by
    intro a0_0 a0_1 a0_2 a0_3 left1 
    have hN := Pu.laws_szEntry.b_eq (R := Res) (fun r0 => some ⟨[(.v false [(.i .i64 r0)])], []⟩) a0_0 a0_1 a0_2 a0_3 left1
    have hl : loopsOf (Try.f198.body.getD .skip) = [] := by kernel_rfl
    refine ⟨iterN 0, by rw [hl]; exact loops_nil, ?_⟩
    refine Eq.trans (show body E198 (iterN 0) Try.f198 [(.v true [(.s a0_0), (.i .i64 a0_1), (.i .i64 a0_2), (.s a0_3)]), (.v false [(.i .i64 left1)])] = Pu.laws_szEntry.b (fun r0 => some ⟨[(.v false [(.i .i64 r0)])], []⟩) a0_0 a0_1 a0_2 a0_3 left1 by kernel_rfl) hN
  intro args r h
  unfold sp198 at h
  split at h
  · injection h with h
    injection h with h1 h2
    subst h2
    exact ⟨by kernel_rfl, fun hf => ⟨of_decide_eq_true (by kernel_rfl), key _ _ _ _ _⟩⟩
  · cases h

end Go.FG.Se

namespace Go.FG.Se
open Go.Proofs
def T119_0 (p0 : Row) (p1 : Int) (p2 : Int) (p3 : Int) : List (Nat × Cel) := [(0, (.v (.v false [(.sh 208 p0)]))), (2, (.v (.v false [(.i .i64 p1)]))), (8, (.v (.v false [(.i .i64 p2)]))), (10, (.v (.v false [(.i .i64 p3)])))]
def E119 : Env := { toTab := T, call := Go.FG.callIn [(198, sp198)], mode := Go.FG.modeIn md, keep := Go.FG.keepIn [(5, [0, 1, 4, 5])], tk := fun n => Go.FG.memB n [], om := Go.FG.omIn [] }
def it119 (N : Nat) {R : Type} : It R := fun rid f cn L K => bif Nat.beq rid 5 then (tell [(0, (.v (.v false [(.sh 208 [])]))), (2, (.v (.v false [(.i .i64 0)]))), (8, (.v (.v false [(.i .i64 0)]))), (10, (.v (.v false [(.i .i64 0)])))] (fun | [.R x0, .I x1, .I x2, .I x3] => Pu.laws_szEntryS.l5 N (fun y0 y1 y2 y3 => (K .ret (tabl (T119_0 y0 y1 y2 y3)))) (fun y0 y1 y2 y3 => (K (.exit 0) (tabl (T119_0 y0 y1 y2 y3)))) N x0 x1 x2 x3 | _ => none) L (none)) else none
theorem e119_5 {R : Type} (N : Nat) (K : Ex → St → Option R) : ∀ n : Nat, (∀ x0 x1 x2 x3, iter (exc E119 (it119 N) (loopOf Try.f119 5)) (canon (E119.keep 5))  n (tabl (T119_0 x0 x1 x2 x3)) K = Pu.laws_szEntryS.l5 N (fun y0 y1 y2 y3 => (K .ret (tabl (T119_0 y0 y1 y2 y3)))) (fun y0 y1 y2 y3 => (K (.exit 0) (tabl (T119_0 y0 y1 y2 y3)))) n x0 x1 x2 x3) := by
  intro n
  induction n with
  | zero => exact (fun _ _ _ _ => rfl)
  | succ n ih =>
    have e0 : (fun x0 x1 x2 x3 => iter (exc E119 (it119 N) (loopOf Try.f119 5)) (canon (E119.keep 5))  n (tabl (T119_0 x0 x1 x2 x3)) K) = Pu.laws_szEntryS.l5 N (fun y0 y1 y2 y3 => (K .ret (tabl (T119_0 y0 y1 y2 y3)))) (fun y0 y1 y2 y3 => (K (.exit 0) (tabl (T119_0 y0 y1 y2 y3)))) n := by funext x0 x1 x2 x3; exact ih x0 x1 x2 x3
    intro x0 x1 x2 x3
    have h : ∀ g, exc E119 (it119 N) (loopOf Try.f119 5) (tabl (T119_0 x0 x1 x2 x3)) (iterK g (canon (E119.keep 5)) K) = Pu.laws_szEntryS.r5 N (fun x0 x1 x2 x3 => (g (tabl (T119_0 x0 x1 x2 x3)))) (fun y0 y1 y2 y3 => (K .ret (tabl (T119_0 y0 y1 y2 y3)))) (fun y0 y1 y2 y3 => (K (.exit 0) (tabl (T119_0 y0 y1 y2 y3)))) x0 x1 x2 x3 := by intro g; kernel_rfl
    refine (iter_succ _ _ n _ K).trans ((h _).trans ?_)
    show Pu.laws_szEntryS.r5 N (fun x0 x1 x2 x3 => (iter (exc E119 (it119 N) (loopOf Try.f119 5)) (canon (E119.keep 5))  n (tabl (T119_0 x0 x1 x2 x3)) K)) (fun y0 y1 y2 y3 => (K .ret (tabl (T119_0 y0 y1 y2 y3)))) (fun y0 y1 y2 y3 => (K (.exit 0) (tabl (T119_0 y0 y1 y2 y3)))) x0 x1 x2 x3 = _
    rw [e0]; rfl
theorem lo119_5 {R : Type} (N : Nat) : LoopOk E119 (it119 N (R := R)) (loopOf Try.f119 5) := by
  have e : firstRid (loopOf Try.f119 5) = 5 := by kernel_rfl
  intro L K r
  rw [e]
  intro h
  unfold it119 at h
  simp only [show Nat.beq 5 5 = true from rfl, cond_false, cond_true] at h
  refine tell_ok (Q := fun L => ∃ n, iter (exc E119 (it119 N) (loopOf Try.f119 5)) (canon (E119.keep 5)) n (tabl L) K = some r) h (fun xs h => ?_) (fun h => ?_)
  · (try dsimp only at h)
    split at h
    · exact ⟨N, ((e119_5 N K N) _ _ _ _).trans h⟩
    · cases h
  cases h
def sp119 : List Arg → Option (Bool × Res)
  | [(.v false [(.sh 208 a0)]), (.v false [(.i .i64 left1)])] => some (Pu.laws_szEntryS.c a0 left1, ⟨[(.v false [(.i .i64 (Pu.laws_szEntryS.v a0 left1))])], []⟩)
  | _ => none
theorem ok119 : FnOk Try.prog T 119 sp119 := by
  refine fn_ok (E := E119) hE (call_cons ok198 call_nil) hM Try.func119 (code := (Try.f119.body.getD .skip)) (by kernel_rfl) (by kernel_rfl) ?_
  have key : ∀ (a0 : Row) (left1 : Int), Pu.laws_szEntryS.c a0 left1 = true → ∃ it : It Res, (∀ c ∈ loopsOf (Try.f119.body.getD .skip), LoopOk E119 it c) ∧ body E119 it Try.f119 [(.v false [(.sh 208 a0)]), (.v false [(.i .i64 left1)])] = some ⟨[(.v false [(.i .i64 (Pu.laws_szEntryS.v a0 left1))])], []⟩ := by
    intro a0 left1  h1
    obtain ⟨N, hN⟩ := Pu.laws_szEntryS.b_eq (R := Res) (fun r0 => some ⟨[(.v false [(.i .i64 r0)])], []⟩) a0 left1 h1
    have hl : loopsOf (Try.f119.body.getD .skip) = [loopOf Try.f119 5] := by kernel_rfl
    refine ⟨it119 N, by rw [hl]; exact (loops_cons (lo119_5 N) loops_nil), ?_⟩
    refine Eq.trans (show body E119 (it119 N) Try.f119 [(.v false [(.sh 208 a0)]), (.v false [(.i .i64 left1)])] = Pu.laws_szEntryS.b N (fun r0 => some ⟨[(.v false [(.i .i64 r0)])], []⟩) a0 left1 by kernel_rfl) hN
  intro args r h
  unfold sp119 at h
  split at h
  · injection h with h
    injection h with h1 h2
    subst h2
    exact ⟨by kernel_rfl, fun hf => ⟨of_decide_eq_true (by kernel_rfl), key _ _ h1⟩⟩
  · cases h

end Go.FG.Se

namespace Go.FG.Se
open Go.Proofs
def T97_0 (p0 : Row) (p1 : Int) (p2 : Int) (p3 : Int) : List (Nat × Cel) := [(0, (.v (.v false [(.sh 9 p0)]))), (2, (.v (.v false [(.i .i64 p1)]))), (8, (.v (.v false [(.i .i64 p2)]))), (10, (.v (.v false [(.i .i64 p3)])))]
def E97 : Env := { toTab := T, call := Go.FG.callIn [], mode := Go.FG.modeIn md, keep := Go.FG.keepIn [(5, [0, 1, 4, 5])], tk := fun n => Go.FG.memB n [], om := Go.FG.omIn [] }
def it97 (N : Nat) {R : Type} : It R := fun rid f cn L K => bif Nat.beq rid 5 then (tell [(0, (.v (.v false [(.sh 9 [])]))), (2, (.v (.v false [(.i .i64 0)]))), (8, (.v (.v false [(.i .i64 0)]))), (10, (.v (.v false [(.i .i64 0)])))] (fun | [.R x0, .I x1, .I x2, .I x3] => Pu.laws_szStringS.l5 N (fun y0 y1 y2 y3 => (K .ret (tabl (T97_0 y0 y1 y2 y3)))) (fun y0 y1 y2 y3 => (K (.exit 0) (tabl (T97_0 y0 y1 y2 y3)))) N x0 x1 x2 x3 | _ => none) L (none)) else none
theorem e97_5 {R : Type} (N : Nat) (K : Ex → St → Option R) : ∀ n : Nat, (∀ x0 x1 x2 x3, iter (exc E97 (it97 N) (loopOf Try.f97 5)) (canon (E97.keep 5))  n (tabl (T97_0 x0 x1 x2 x3)) K = Pu.laws_szStringS.l5 N (fun y0 y1 y2 y3 => (K .ret (tabl (T97_0 y0 y1 y2 y3)))) (fun y0 y1 y2 y3 => (K (.exit 0) (tabl (T97_0 y0 y1 y2 y3)))) n x0 x1 x2 x3) := by
  intro n
  induction n with
  | zero => exact (fun _ _ _ _ => rfl)
  | succ n ih =>
    have e0 : (fun x0 x1 x2 x3 => iter (exc E97 (it97 N) (loopOf Try.f97 5)) (canon (E97.keep 5))  n (tabl (T97_0 x0 x1 x2 x3)) K) = Pu.laws_szStringS.l5 N (fun y0 y1 y2 y3 => (K .ret (tabl (T97_0 y0 y1 y2 y3)))) (fun y0 y1 y2 y3 => (K (.exit 0) (tabl (T97_0 y0 y1 y2 y3)))) n := by funext x0 x1 x2 x3; exact ih x0 x1 x2 x3
    intro x0 x1 x2 x3
    have h : ∀ g, exc E97 (it97 N) (loopOf Try.f97 5) (tabl (T97_0 x0 x1 x2 x3)) (iterK g (canon (E97.keep 5)) K) = Pu.laws_szStringS.r5 N (fun x0 x1 x2 x3 => (g (tabl (T97_0 x0 x1 x2 x3)))) (fun y0 y1 y2 y3 => (K .ret (tabl (T97_0 y0 y1 y2 y3)))) (fun y0 y1 y2 y3 => (K (.exit 0) (tabl (T97_0 y0 y1 y2 y3)))) x0 x1 x2 x3 := by intro g; kernel_rfl
    refine (iter_succ _ _ n _ K).trans ((h _).trans ?_)
    show Pu.laws_szStringS.r5 N (fun x0 x1 x2 x3 => (iter (exc E97 (it97 N) (loopOf Try.f97 5)) (canon (E97.keep 5))  n (tabl (T97_0 x0 x1 x2 x3)) K)) (fun y0 y1 y2 y3 => (K .ret (tabl (T97_0 y0 y1 y2 y3)))) (fun y0 y1 y2 y3 => (K (.exit 0) (tabl (T97_0 y0 y1 y2 y3)))) x0 x1 x2 x3 = _
    rw [e0]; rfl
theorem lo97_5 {R : Type} (N : Nat) : LoopOk E97 (it97 N (R := R)) (loopOf Try.f97 5) := by
  have e : firstRid (loopOf Try.f97 5) = 5 := by kernel_rfl
  intro L K r
  rw [e]
  intro h
  unfold it97 at h
  simp only [show Nat.beq 5 5 = true from rfl, cond_false, cond_true] at h
  refine tell_ok (Q := fun L => ∃ n, iter (exc E97 (it97 N) (loopOf Try.f97 5)) (canon (E97.keep 5)) n (tabl L) K = some r) h (fun xs h => ?_) (fun h => ?_)
  · (try dsimp only at h)
    split at h
    · exact ⟨N, ((e97_5 N K N) _ _ _ _).trans h⟩
    · cases h
  cases h
def sp97 : List Arg → Option (Bool × Res)
  | [(.v false [(.sh 9 a0)]), (.v false [(.i .i64 left1)])] => some (Pu.laws_szStringS.c a0 left1, ⟨[(.v false [(.i .i64 (Pu.laws_szStringS.v a0 left1))])], []⟩)
  | _ => none
theorem ok97 : FnOk Try.prog T 97 sp97 := by
  refine fn_ok (E := E97) hE call_nil hM Try.func97 (code := (Try.f97.body.getD .skip)) (by kernel_rfl) (by kernel_rfl) ?_
  have key : ∀ (a0 : Row) (left1 : Int), Pu.laws_szStringS.c a0 left1 = true → ∃ it : It Res, (∀ c ∈ loopsOf (Try.f97.body.getD .skip), LoopOk E97 it c) ∧ body E97 it Try.f97 [(.v false [(.sh 9 a0)]), (.v false [(.i .i64 left1)])] = some ⟨[(.v false [(.i .i64 (Pu.laws_szStringS.v a0 left1))])], []⟩ := by
    intro a0 left1  h1
    obtain ⟨N, hN⟩ := Pu.laws_szStringS.b_eq (R := Res) (fun r0 => some ⟨[(.v false [(.i .i64 r0)])], []⟩) a0 left1 h1
    have hl : loopsOf (Try.f97.body.getD .skip) = [loopOf Try.f97 5] := by kernel_rfl
    refine ⟨it97 N, by rw [hl]; exact (loops_cons (lo97_5 N) loops_nil), ?_⟩
    refine Eq.trans (show body E97 (it97 N) Try.f97 [(.v false [(.sh 9 a0)]), (.v false [(.i .i64 left1)])] = Pu.laws_szStringS.b N (fun r0 => some ⟨[(.v false [(.i .i64 r0)])], []⟩) a0 left1 by kernel_rfl) hN
  intro args r h
  unfold sp97 at h
  split at h
  · injection h with h
    injection h with h1 h2
    subst h2
    exact ⟨by kernel_rfl, fun hf => ⟨of_decide_eq_true (by kernel_rfl), key _ _ h1⟩⟩
  · cases h

end Go.FG.Se

namespace Go.FG.Se
open Go.Proofs
def E223 : Env := { toTab := T, call := Go.FG.callIn [], mode := Go.FG.modeIn md, keep := Go.FG.keepIn [], tk := fun n => Go.FG.memB n [], om := Go.FG.omIn [] }
def sp223 : List Arg → Option (Bool × Res)
  | [(.v false [(.sh 3 a0)]), (.v false [(.i .i64 left1)])] => some (true, ⟨[(.v false [(.i .i64 (Pu.laws_szIntS.v a0 left1))])], []⟩)
  | _ => none
theorem ok223 : FnOk Try.prog T 223 sp223 := by
  refine fn_ok (E := E223) hE call_nil hM Try.func223 (code := (Try.f223.body.getD .skip)) (by kernel_rfl) (by kernel_rfl) ?_
  have key : ∀ (a0 : Row) (left1 : Int), ∃ it : It Res, (∀ c ∈ loopsOf (Try.f223.body.getD .skip), LoopOk E223 it c) ∧ body E223 it Try.f223 [(.v false [(.sh 3 a0)]), (.v false [(.i .i64 left1)])] = some ⟨[(.v false [(.i .i64 (Pu.laws_szIntS.v a0 left1))])], []⟩ := by
    intro a0 left1 
    have hN := Pu.laws_szIntS.b_eq (R := Res) (fun r0 => some ⟨[(.v false [(.i .i64 r0)])], []⟩) a0 left1
    have hl : loopsOf (Try.f223.body.getD .skip) = [] := by kernel_rfl
    refine ⟨iterN 0, by rw [hl]; exact loops_nil, ?_⟩
    refine Eq.trans (show body E223 (iterN 0) Try.f223 [(.v false [(.sh 3 a0)]), (.v false [(.i .i64 left1)])] = Pu.laws_szIntS.b (fun r0 => some ⟨[(.v false [(.i .i64 r0)])], []⟩) a0 left1 by kernel_rfl) hN
  intro args r h
  unfold sp223 at h
  split at h
  · injection h with h
    injection h with h1 h2
    subst h2
    exact ⟨by kernel_rfl, fun hf => ⟨of_decide_eq_true (by kernel_rfl), key _ _⟩⟩
  · cases h

end Go.FG.Se

namespace Go.FG.Se
open Go.Proofs
def T185_0 (p0 : Row) (p1 : Int) (p2 : Int) (p3 : Int) : List (Nat × Cel) := [(0, (.v (.v false [(.sh 30 p0)]))), (2, (.v (.v false [(.i .i64 p1)]))), (8, (.v (.v false [(.i .i64 p2)]))), (10, (.v (.v false [(.i .i64 p3)])))]
def E185 : Env := { toTab := T, call := Go.FG.callIn [(223, sp223)], mode := Go.FG.modeIn md, keep := Go.FG.keepIn [(5, [0, 1, 4, 5])], tk := fun n => Go.FG.memB n [], om := Go.FG.omIn [] }
def it185 (N : Nat) {R : Type} : It R := fun rid f cn L K => bif Nat.beq rid 5 then (tell [(0, (.v (.v false [(.sh 30 [])]))), (2, (.v (.v false [(.i .i64 0)]))), (8, (.v (.v false [(.i .i64 0)]))), (10, (.v (.v false [(.i .i64 0)])))] (fun | [.R x0, .I x1, .I x2, .I x3] => Pu.laws_szIntSS.l5 N (fun y0 y1 y2 y3 => (K .ret (tabl (T185_0 y0 y1 y2 y3)))) (fun y0 y1 y2 y3 => (K (.exit 0) (tabl (T185_0 y0 y1 y2 y3)))) N x0 x1 x2 x3 | _ => none) L (none)) else none
theorem e185_5 {R : Type} (N : Nat) (K : Ex → St → Option R) : ∀ n : Nat, (∀ x0 x1 x2 x3, iter (exc E185 (it185 N) (loopOf Try.f185 5)) (canon (E185.keep 5))  n (tabl (T185_0 x0 x1 x2 x3)) K = Pu.laws_szIntSS.l5 N (fun y0 y1 y2 y3 => (K .ret (tabl (T185_0 y0 y1 y2 y3)))) (fun y0 y1 y2 y3 => (K (.exit 0) (tabl (T185_0 y0 y1 y2 y3)))) n x0 x1 x2 x3) := by
  intro n
  induction n with
  | zero => exact (fun _ _ _ _ => rfl)
  | succ n ih =>
    have e0 : (fun x0 x1 x2 x3 => iter (exc E185 (it185 N) (loopOf Try.f185 5)) (canon (E185.keep 5))  n (tabl (T185_0 x0 x1 x2 x3)) K) = Pu.laws_szIntSS.l5 N (fun y0 y1 y2 y3 => (K .ret (tabl (T185_0 y0 y1 y2 y3)))) (fun y0 y1 y2 y3 => (K (.exit 0) (tabl (T185_0 y0 y1 y2 y3)))) n := by funext x0 x1 x2 x3; exact ih x0 x1 x2 x3
    intro x0 x1 x2 x3
    have h : ∀ g, exc E185 (it185 N) (loopOf Try.f185 5) (tabl (T185_0 x0 x1 x2 x3)) (iterK g (canon (E185.keep 5)) K) = Pu.laws_szIntSS.r5 N (fun x0 x1 x2 x3 => (g (tabl (T185_0 x0 x1 x2 x3)))) (fun y0 y1 y2 y3 => (K .ret (tabl (T185_0 y0 y1 y2 y3)))) (fun y0 y1 y2 y3 => (K (.exit 0) (tabl (T185_0 y0 y1 y2 y3)))) x0 x1 x2 x3 := by intro g; kernel_rfl
    refine (iter_succ _ _ n _ K).trans ((h _).trans ?_)
    show Pu.laws_szIntSS.r5 N (fun x0 x1 x2 x3 => (iter (exc E185 (it185 N) (loopOf Try.f185 5)) (canon (E185.keep 5))  n (tabl (T185_0 x0 x1 x2 x3)) K)) (fun y0 y1 y2 y3 => (K .ret (tabl (T185_0 y0 y1 y2 y3)))) (fun y0 y1 y2 y3 => (K (.exit 0) (tabl (T185_0 y0 y1 y2 y3)))) x0 x1 x2 x3 = _
    rw [e0]; rfl
theorem lo185_5 {R : Type} (N : Nat) : LoopOk E185 (it185 N (R := R)) (loopOf Try.f185 5) := by
  have e : firstRid (loopOf Try.f185 5) = 5 := by kernel_rfl
  intro L K r
  rw [e]
  intro h
  unfold it185 at h
  simp only [show Nat.beq 5 5 = true from rfl, cond_false, cond_true] at h
  refine tell_ok (Q := fun L => ∃ n, iter (exc E185 (it185 N) (loopOf Try.f185 5)) (canon (E185.keep 5)) n (tabl L) K = some r) h (fun xs h => ?_) (fun h => ?_)
  · (try dsimp only at h)
    split at h
    · exact ⟨N, ((e185_5 N K N) _ _ _ _).trans h⟩
    · cases h
  cases h
def sp185 : List Arg → Option (Bool × Res)
  | [(.v false [(.sh 30 a0)]), (.v false [(.i .i64 left1)])] => some (Pu.laws_szIntSS.c a0 left1, ⟨[(.v false [(.i .i64 (Pu.laws_szIntSS.v a0 left1))])], []⟩)
  | _ => none
theorem ok185 : FnOk Try.prog T 185 sp185 := by
  refine fn_ok (E := E185) hE (call_cons ok223 call_nil) hM Try.func185 (code := (Try.f185.body.getD .skip)) (by kernel_rfl) (by kernel_rfl) ?_
  have key : ∀ (a0 : Row) (left1 : Int), Pu.laws_szIntSS.c a0 left1 = true → ∃ it : It Res, (∀ c ∈ loopsOf (Try.f185.body.getD .skip), LoopOk E185 it c) ∧ body E185 it Try.f185 [(.v false [(.sh 30 a0)]), (.v false [(.i .i64 left1)])] = some ⟨[(.v false [(.i .i64 (Pu.laws_szIntSS.v a0 left1))])], []⟩ := by
    intro a0 left1  h1
    obtain ⟨N, hN⟩ := Pu.laws_szIntSS.b_eq (R := Res) (fun r0 => some ⟨[(.v false [(.i .i64 r0)])], []⟩) a0 left1 h1
    have hl : loopsOf (Try.f185.body.getD .skip) = [loopOf Try.f185 5] := by kernel_rfl
    refine ⟨it185 N, by rw [hl]; exact (loops_cons (lo185_5 N) loops_nil), ?_⟩
    refine Eq.trans (show body E185 (it185 N) Try.f185 [(.v false [(.sh 30 a0)]), (.v false [(.i .i64 left1)])] = Pu.laws_szIntSS.b N (fun r0 => some ⟨[(.v false [(.i .i64 r0)])], []⟩) a0 left1 by kernel_rfl) hN
  intro args r h
  unfold sp185 at h
  split at h
  · injection h with h
    injection h with h1 h2
    subst h2
    exact ⟨by kernel_rfl, fun hf => ⟨of_decide_eq_true (by kernel_rfl), key _ _ h1⟩⟩
  · cases h

end Go.FG.Se

namespace Go.FG.Se
open Go.Proofs
def E98 : Env := { toTab := T, call := Go.FG.callIn [(185, sp185)], mode := Go.FG.modeIn md, keep := Go.FG.keepIn [], tk := fun n => Go.FG.memB n [], om := Go.FG.omIn [] }
def sp98 : List Arg → Option (Bool × Res)
  | [(.v true [(.sh 30 a0_0), (.i .i64 a0_1)]), (.v false [(.i .i64 left1)])] => some (Pu.laws_szSketch.c a0_0 a0_1 left1, ⟨[(.v false [(.i .i64 (Pu.laws_szSketch.v a0_0 a0_1 left1))])], []⟩)
  | _ => none
theorem ok98 : FnOk Try.prog T 98 sp98 := by
  refine fn_ok (E := E98) hE (call_cons ok185 call_nil) hM Try.func98 (code := (Try.f98.body.getD .skip)) (by kernel_rfl) (by kernel_rfl) ?_
  have key : ∀ (a0_0 : Row) (a0_1 : Int) (left1 : Int), Pu.laws_szSketch.c a0_0 a0_1 left1 = true → ∃ it : It Res, (∀ c ∈ loopsOf (Try.f98.body.getD .skip), LoopOk E98 it c) ∧ body E98 it Try.f98 [(.v true [(.sh 30 a0_0), (.i .i64 a0_1)]), (.v false [(.i .i64 left1)])] = some ⟨[(.v false [(.i .i64 (Pu.laws_szSketch.v a0_0 a0_1 left1))])], []⟩ := by
    intro a0_0 a0_1 left1  h1
    have hN := Pu.laws_szSketch.b_eq (R := Res) (fun r0 => some ⟨[(.v false [(.i .i64 r0)])], []⟩) a0_0 a0_1 left1 h1
    have hl : loopsOf (Try.f98.body.getD .skip) = [] := by kernel_rfl
    refine ⟨iterN 0, by rw [hl]; exact loops_nil, ?_⟩
    refine Eq.trans (show body E98 (iterN 0) Try.f98 [(.v true [(.sh 30 a0_0), (.i .i64 a0_1)]), (.v false [(.i .i64 left1)])] = Pu.laws_szSketch.b (fun r0 => some ⟨[(.v false [(.i .i64 r0)])], []⟩) a0_0 a0_1 left1 by kernel_rfl) hN
  intro args r h
  unfold sp98 at h
  split at h
  · injection h with h
    injection h with h1 h2
    subst h2
    exact ⟨by kernel_rfl, fun hf => ⟨of_decide_eq_true (by kernel_rfl), key _ _ _ h1⟩⟩
  · cases h

end Go.FG.Se

namespace Go.FG.Se
open Go.Proofs
def E31 : Env := { toTab := T, call := Go.FG.callIn [(97, sp97), (98, sp98)], mode := Go.FG.modeIn md, keep := Go.FG.keepIn [], tk := fun n => Go.FG.memB n [], om := Go.FG.omIn [] }
def sp31 : List Arg → Option (Bool × Res)
  | [(.v true [(.sh 9 a0_0), (.sh 9 a0_1), (.sh 30 a0_2), (.i .i64 a0_3)]), (.v false [(.i .i64 left1)])] => some (Pu.laws_szPolicy.c a0_0 a0_1 a0_2 a0_3 left1, ⟨[(.v false [(.i .i64 (Pu.laws_szPolicy.v a0_0 a0_1 a0_2 a0_3 left1))])], []⟩)
  | _ => none
theorem ok31 : FnOk Try.prog T 31 sp31 := by
  refine fn_ok (E := E31) hE (call_cons ok97 (call_cons ok98 call_nil)) hM Try.func31 (code := (Try.f31.body.getD .skip)) (by kernel_rfl) (by kernel_rfl) ?_
  have key : ∀ (a0_0 : Row) (a0_1 : Row) (a0_2 : Row) (a0_3 : Int) (left1 : Int), Pu.laws_szPolicy.c a0_0 a0_1 a0_2 a0_3 left1 = true → ∃ it : It Res, (∀ c ∈ loopsOf (Try.f31.body.getD .skip), LoopOk E31 it c) ∧ body E31 it Try.f31 [(.v true [(.sh 9 a0_0), (.sh 9 a0_1), (.sh 30 a0_2), (.i .i64 a0_3)]), (.v false [(.i .i64 left1)])] = some ⟨[(.v false [(.i .i64 (Pu.laws_szPolicy.v a0_0 a0_1 a0_2 a0_3 left1))])], []⟩ := by
    intro a0_0 a0_1 a0_2 a0_3 left1  h1
    have hN := Pu.laws_szPolicy.b_eq (R := Res) (fun r0 => some ⟨[(.v false [(.i .i64 r0)])], []⟩) a0_0 a0_1 a0_2 a0_3 left1 h1
    have hl : loopsOf (Try.f31.body.getD .skip) = [] := by kernel_rfl
    refine ⟨iterN 0, by rw [hl]; exact loops_nil, ?_⟩
    refine Eq.trans (show body E31 (iterN 0) Try.f31 [(.v true [(.sh 9 a0_0), (.sh 9 a0_1), (.sh 30 a0_2), (.i .i64 a0_3)]), (.v false [(.i .i64 left1)])] = Pu.laws_szPolicy.b (fun r0 => some ⟨[(.v false [(.i .i64 r0)])], []⟩) a0_0 a0_1 a0_2 a0_3 left1 by kernel_rfl) hN
  intro args r h
  unfold sp31 at h
  split at h
  · injection h with h
    injection h with h1 h2
    subst h2
    exact ⟨by kernel_rfl, fun hf => ⟨of_decide_eq_true (by kernel_rfl), key _ _ _ _ _ h1⟩⟩
  · cases h

end Go.FG.Se

namespace Go.FG.Se
open Go.Proofs
def E199 : Env := { toTab := T, call := Go.FG.callIn [], mode := Go.FG.modeIn md, keep := Go.FG.keepIn [], tk := fun n => Go.FG.memB n [], om := Go.FG.omIn [] }
def sp199 : List Arg → Option (Bool × Res)
  | [(.v true [(.s a0_0), (.s a0_1), (.i .i64 a0_2), (.i .i64 a0_3), (.i .i64 a0_4)]), (.v false [(.i .i64 left1)])] => some (true, ⟨[(.v false [(.i .i64 (Pu.laws_szFetch.v a0_0 a0_1 a0_2 a0_3 a0_4 left1))])], []⟩)
  | _ => none
theorem ok199 : FnOk Try.prog T 199 sp199 := by
  refine fn_ok (E := E199) hE call_nil hM Try.func199 (code := (Try.f199.body.getD .skip)) (by kernel_rfl) (by kernel_rfl) ?_
  have key : ∀ (a0_0 : ByteArray) (a0_1 : ByteArray) (a0_2 : Int) (a0_3 : Int) (a0_4 : Int) (left1 : Int), ∃ it : It Res, (∀ c ∈ loopsOf (Try.f199.body.getD .skip), LoopOk E199 it c) ∧ body E199 it Try.f199 [(.v true [(.s a0_0), (.s a0_1), (.i .i64 a0_2), (.i .i64 a0_3), (.i .i64 a0_4)]), (.v false [(.i .i64 left1)])] = some ⟨[(.v false [(.i .i64 (Pu.laws_szFetch.v a0_0 a0_1 a0_2 a0_3 a0_4 left1))])], []⟩ := by
    intro a0_0 a0_1 a0_2 a0_3 a0_4 left1 
    have hN := Pu.laws_szFetch.b_eq (R := Res) (fun r0 => some ⟨[(.v false [(.i .i64 r0)])], []⟩) a0_0 a0_1 a0_2 a0_3 a0_4 left1
    have hl : loopsOf (Try.f199.body.getD .skip) = [] := by kernel_rfl
    refine ⟨iterN 0, by rw [hl]; exact loops_nil, ?_⟩
    refine Eq.trans (show body E199 (iterN 0) Try.f199 [(.v true [(.s a0_0), (.s a0_1), (.i .i64 a0_2), (.i .i64 a0_3), (.i .i64 a0_4)]), (.v false [(.i .i64 left1)])] = Pu.laws_szFetch.b (fun r0 => some ⟨[(.v false [(.i .i64 r0)])], []⟩) a0_0 a0_1 a0_2 a0_3 a0_4 left1 by kernel_rfl) hN
  intro args r h
  unfold sp199 at h
  split at h
  · injection h with h
    injection h with h1 h2
    subst h2
    exact ⟨by kernel_rfl, fun hf => ⟨of_decide_eq_true (by kernel_rfl), key _ _ _ _ _ _⟩⟩
  · cases h

end Go.FG.Se

namespace Go.FG.Se
open Go.Proofs
def T120_0 (p0 : Row) (p1 : Int) (p2 : Int) (p3 : Int) : List (Nat × Cel) := [(0, (.v (.v false [(.sh 210 p0)]))), (2, (.v (.v false [(.i .i64 p1)]))), (8, (.v (.v false [(.i .i64 p2)]))), (10, (.v (.v false [(.i .i64 p3)])))]
def E120 : Env := { toTab := T, call := Go.FG.callIn [(199, sp199)], mode := Go.FG.modeIn md, keep := Go.FG.keepIn [(5, [0, 1, 4, 5])], tk := fun n => Go.FG.memB n [], om := Go.FG.omIn [] }
def it120 (N : Nat) {R : Type} : It R := fun rid f cn L K => bif Nat.beq rid 5 then (tell [(0, (.v (.v false [(.sh 210 [])]))), (2, (.v (.v false [(.i .i64 0)]))), (8, (.v (.v false [(.i .i64 0)]))), (10, (.v (.v false [(.i .i64 0)])))] (fun | [.R x0, .I x1, .I x2, .I x3] => Pu.laws_szFetchS.l5 N (fun y0 y1 y2 y3 => (K .ret (tabl (T120_0 y0 y1 y2 y3)))) (fun y0 y1 y2 y3 => (K (.exit 0) (tabl (T120_0 y0 y1 y2 y3)))) N x0 x1 x2 x3 | _ => none) L (none)) else none
theorem e120_5 {R : Type} (N : Nat) (K : Ex → St → Option R) : ∀ n : Nat, (∀ x0 x1 x2 x3, iter (exc E120 (it120 N) (loopOf Try.f120 5)) (canon (E120.keep 5))  n (tabl (T120_0 x0 x1 x2 x3)) K = Pu.laws_szFetchS.l5 N (fun y0 y1 y2 y3 => (K .ret (tabl (T120_0 y0 y1 y2 y3)))) (fun y0 y1 y2 y3 => (K (.exit 0) (tabl (T120_0 y0 y1 y2 y3)))) n x0 x1 x2 x3) := by
  intro n
  induction n with
  | zero => exact (fun _ _ _ _ => rfl)
  | succ n ih =>
    have e0 : (fun x0 x1 x2 x3 => iter (exc E120 (it120 N) (loopOf Try.f120 5)) (canon (E120.keep 5))  n (tabl (T120_0 x0 x1 x2 x3)) K) = Pu.laws_szFetchS.l5 N (fun y0 y1 y2 y3 => (K .ret (tabl (T120_0 y0 y1 y2 y3)))) (fun y0 y1 y2 y3 => (K (.exit 0) (tabl (T120_0 y0 y1 y2 y3)))) n := by funext x0 x1 x2 x3; exact ih x0 x1 x2 x3
    intro x0 x1 x2 x3
    have h : ∀ g, exc E120 (it120 N) (loopOf Try.f120 5) (tabl (T120_0 x0 x1 x2 x3)) (iterK g (canon (E120.keep 5)) K) = Pu.laws_szFetchS.r5 N (fun x0 x1 x2 x3 => (g (tabl (T120_0 x0 x1 x2 x3)))) (fun y0 y1 y2 y3 => (K .ret (tabl (T120_0 y0 y1 y2 y3)))) (fun y0 y1 y2 y3 => (K (.exit 0) (tabl (T120_0 y0 y1 y2 y3)))) x0 x1 x2 x3 := by intro g; kernel_rfl
    refine (iter_succ _ _ n _ K).trans ((h _).trans ?_)
    show Pu.laws_szFetchS.r5 N (fun x0 x1 x2 x3 => (iter (exc E120 (it120 N) (loopOf Try.f120 5)) (canon (E120.keep 5))  n (tabl (T120_0 x0 x1 x2 x3)) K)) (fun y0 y1 y2 y3 => (K .ret (tabl (T120_0 y0 y1 y2 y3)))) (fun y0 y1 y2 y3 => (K (.exit 0) (tabl (T120_0 y0 y1 y2 y3)))) x0 x1 x2 x3 = _
    rw [e0]; rfl
theorem lo120_5 {R : Type} (N : Nat) : LoopOk E120 (it120 N (R := R)) (loopOf Try.f120 5) := by
  have e : firstRid (loopOf Try.f120 5) = 5 := by kernel_rfl
  intro L K r
  rw [e]
  intro h
  unfold it120 at h
  simp only [show Nat.beq 5 5 = true from rfl, cond_false, cond_true] at h
  refine tell_ok (Q := fun L => ∃ n, iter (exc E120 (it120 N) (loopOf Try.f120 5)) (canon (E120.keep 5)) n (tabl L) K = some r) h (fun xs h => ?_) (fun h => ?_)
  · (try dsimp only at h)
    split at h
    · exact ⟨N, ((e120_5 N K N) _ _ _ _).trans h⟩
    · cases h
  cases h
def sp120 : List Arg → Option (Bool × Res)
  | [(.v false [(.sh 210 a0)]), (.v false [(.i .i64 left1)])] => some (Pu.laws_szFetchS.c a0 left1, ⟨[(.v false [(.i .i64 (Pu.laws_szFetchS.v a0 left1))])], []⟩)
  | _ => none
theorem ok120 : FnOk Try.prog T 120 sp120 := by
  refine fn_ok (E := E120) hE (call_cons ok199 call_nil) hM Try.func120 (code := (Try.f120.body.getD .skip)) (by kernel_rfl) (by kernel_rfl) ?_
  have key : ∀ (a0 : Row) (left1 : Int), Pu.laws_szFetchS.c a0 left1 = true → ∃ it : It Res, (∀ c ∈ loopsOf (Try.f120.body.getD .skip), LoopOk E120 it c) ∧ body E120 it Try.f120 [(.v false [(.sh 210 a0)]), (.v false [(.i .i64 left1)])] = some ⟨[(.v false [(.i .i64 (Pu.laws_szFetchS.v a0 left1))])], []⟩ := by
    intro a0 left1  h1
    obtain ⟨N, hN⟩ := Pu.laws_szFetchS.b_eq (R := Res) (fun r0 => some ⟨[(.v false [(.i .i64 r0)])], []⟩) a0 left1 h1
    have hl : loopsOf (Try.f120.body.getD .skip) = [loopOf Try.f120 5] := by kernel_rfl
    refine ⟨it120 N, by rw [hl]; exact (loops_cons (lo120_5 N) loops_nil), ?_⟩
    refine Eq.trans (show body E120 (it120 N) Try.f120 [(.v false [(.sh 210 a0)]), (.v false [(.i .i64 left1)])] = Pu.laws_szFetchS.b N (fun r0 => some ⟨[(.v false [(.i .i64 r0)])], []⟩) a0 left1 by kernel_rfl) hN
  intro args r h
  unfold sp120 at h
  split at h
  · injection h with h
    injection h with h1 h2
    subst h2
    exact ⟨by kernel_rfl, fun hf => ⟨of_decide_eq_true (by kernel_rfl), key _ _ h1⟩⟩
  · cases h

end Go.FG.Se

namespace Go.FG.Se
open Go.Proofs
def E200 : Env := { toTab := T, call := Go.FG.callIn [], mode := Go.FG.modeIn md, keep := Go.FG.keepIn [], tk := fun n => Go.FG.memB n [], om := Go.FG.omIn [] }
def sp200 : List Arg → Option (Bool × Res)
  | [(.v true [(.i .i64 a0_0), (.s a0_1), (.i .i64 a0_2), (.i .i64 a0_3), (.i .i64 a0_4), (.s a0_5), (.i .i64 a0_6)]), (.v false [(.i .i64 left1)])] => some (true, ⟨[(.v false [(.i .i64 (Pu.laws_szClient.v a0_0 a0_1 a0_2 a0_3 a0_4 a0_5 a0_6 left1))])], []⟩)
  | _ => none
theorem ok200 : FnOk Try.prog T 200 sp200 := by
  refine fn_ok (E := E200) hE call_nil hM Try.func200 (code := (Try.f200.body.getD .skip)) (by kernel_rfl) (by kernel_rfl) ?_
  have key : ∀ (a0_0 : Int) (a0_1 : ByteArray) (a0_2 : Int) (a0_3 : Int) (a0_4 : Int) (a0_5 : ByteArray) (a0_6 : Int) (left1 : Int), ∃ it : It Res, (∀ c ∈ loopsOf (Try.f200.body.getD .skip), LoopOk E200 it c) ∧ body E200 it Try.f200 [(.v true [(.i .i64 a0_0), (.s a0_1), (.i .i64 a0_2), (.i .i64 a0_3), (.i .i64 a0_4), (.s a0_5), (.i .i64 a0_6)]), (.v false [(.i .i64 left1)])] = some ⟨[(.v false [(.i .i64 (Pu.laws_szClient.v a0_0 a0_1 a0_2 a0_3 a0_4 a0_5 a0_6 left1))])], []⟩ := by
    intro a0_0 a0_1 a0_2 a0_3 a0_4 a0_5 a0_6 left1 
    have hN := Pu.laws_szClient.b_eq (R := Res) (fun r0 => some ⟨[(.v false [(.i .i64 r0)])], []⟩) a0_0 a0_1 a0_2 a0_3 a0_4 a0_5 a0_6 left1
    have hl : loopsOf (Try.f200.body.getD .skip) = [] := by kernel_rfl
    refine ⟨iterN 0, by rw [hl]; exact loops_nil, ?_⟩
    refine Eq.trans (show body E200 (iterN 0) Try.f200 [(.v true [(.i .i64 a0_0), (.s a0_1), (.i .i64 a0_2), (.i .i64 a0_3), (.i .i64 a0_4), (.s a0_5), (.i .i64 a0_6)]), (.v false [(.i .i64 left1)])] = Pu.laws_szClient.b (fun r0 => some ⟨[(.v false [(.i .i64 r0)])], []⟩) a0_0 a0_1 a0_2 a0_3 a0_4 a0_5 a0_6 left1 by kernel_rfl) hN
  intro args r h
  unfold sp200 at h
  split at h
  · injection h with h
    injection h with h1 h2
    subst h2
    exact ⟨by kernel_rfl, fun hf => ⟨of_decide_eq_true (by kernel_rfl), key _ _ _ _ _ _ _ _⟩⟩
  · cases h

end Go.FG.Se

namespace Go.FG.Se
open Go.Proofs
def T121_0 (p0 : Row) (p1 : Int) (p2 : Int) (p3 : Int) : List (Nat × Cel) := [(0, (.v (.v false [(.sh 212 p0)]))), (2, (.v (.v false [(.i .i64 p1)]))), (8, (.v (.v false [(.i .i64 p2)]))), (10, (.v (.v false [(.i .i64 p3)])))]
def E121 : Env := { toTab := T, call := Go.FG.callIn [(200, sp200)], mode := Go.FG.modeIn md, keep := Go.FG.keepIn [(5, [0, 1, 4, 5])], tk := fun n => Go.FG.memB n [], om := Go.FG.omIn [] }
def it121 (N : Nat) {R : Type} : It R := fun rid f cn L K => bif Nat.beq rid 5 then (tell [(0, (.v (.v false [(.sh 212 [])]))), (2, (.v (.v false [(.i .i64 0)]))), (8, (.v (.v false [(.i .i64 0)]))), (10, (.v (.v false [(.i .i64 0)])))] (fun | [.R x0, .I x1, .I x2, .I x3] => Pu.laws_szClientS.l5 N (fun y0 y1 y2 y3 => (K .ret (tabl (T121_0 y0 y1 y2 y3)))) (fun y0 y1 y2 y3 => (K (.exit 0) (tabl (T121_0 y0 y1 y2 y3)))) N x0 x1 x2 x3 | _ => none) L (none)) else none
theorem e121_5 {R : Type} (N : Nat) (K : Ex → St → Option R) : ∀ n : Nat, (∀ x0 x1 x2 x3, iter (exc E121 (it121 N) (loopOf Try.f121 5)) (canon (E121.keep 5))  n (tabl (T121_0 x0 x1 x2 x3)) K = Pu.laws_szClientS.l5 N (fun y0 y1 y2 y3 => (K .ret (tabl (T121_0 y0 y1 y2 y3)))) (fun y0 y1 y2 y3 => (K (.exit 0) (tabl (T121_0 y0 y1 y2 y3)))) n x0 x1 x2 x3) := by
  intro n
  induction n with
  | zero => exact (fun _ _ _ _ => rfl)
  | succ n ih =>
    have e0 : (fun x0 x1 x2 x3 => iter (exc E121 (it121 N) (loopOf Try.f121 5)) (canon (E121.keep 5))  n (tabl (T121_0 x0 x1 x2 x3)) K) = Pu.laws_szClientS.l5 N (fun y0 y1 y2 y3 => (K .ret (tabl (T121_0 y0 y1 y2 y3)))) (fun y0 y1 y2 y3 => (K (.exit 0) (tabl (T121_0 y0 y1 y2 y3)))) n := by funext x0 x1 x2 x3; exact ih x0 x1 x2 x3
    intro x0 x1 x2 x3
    have h : ∀ g, exc E121 (it121 N) (loopOf Try.f121 5) (tabl (T121_0 x0 x1 x2 x3)) (iterK g (canon (E121.keep 5)) K) = Pu.laws_szClientS.r5 N (fun x0 x1 x2 x3 => (g (tabl (T121_0 x0 x1 x2 x3)))) (fun y0 y1 y2 y3 => (K .ret (tabl (T121_0 y0 y1 y2 y3)))) (fun y0 y1 y2 y3 => (K (.exit 0) (tabl (T121_0 y0 y1 y2 y3)))) x0 x1 x2 x3 := by intro g; kernel_rfl
    refine (iter_succ _ _ n _ K).trans ((h _).trans ?_)
    show Pu.laws_szClientS.r5 N (fun x0 x1 x2 x3 => (iter (exc E121 (it121 N) (loopOf Try.f121 5)) (canon (E121.keep 5))  n (tabl (T121_0 x0 x1 x2 x3)) K)) (fun y0 y1 y2 y3 => (K .ret (tabl (T121_0 y0 y1 y2 y3)))) (fun y0 y1 y2 y3 => (K (.exit 0) (tabl (T121_0 y0 y1 y2 y3)))) x0 x1 x2 x3 = _
    rw [e0]; rfl
theorem lo121_5 {R : Type} (N : Nat) : LoopOk E121 (it121 N (R := R)) (loopOf Try.f121 5) := by
  have e : firstRid (loopOf Try.f121 5) = 5 := by kernel_rfl
  intro L K r
  rw [e]
  intro h
  unfold it121 at h
  simp only [show Nat.beq 5 5 = true from rfl, cond_false, cond_true] at h
  refine tell_ok (Q := fun L => ∃ n, iter (exc E121 (it121 N) (loopOf Try.f121 5)) (canon (E121.keep 5)) n (tabl L) K = some r) h (fun xs h => ?_) (fun h => ?_)
  · (try dsimp only at h)
    split at h
    · exact ⟨N, ((e121_5 N K N) _ _ _ _).trans h⟩
    · cases h
  cases h
def sp121 : List Arg → Option (Bool × Res)
  | [(.v false [(.sh 212 a0)]), (.v false [(.i .i64 left1)])] => some (Pu.laws_szClientS.c a0 left1, ⟨[(.v false [(.i .i64 (Pu.laws_szClientS.v a0 left1))])], []⟩)
  | _ => none
theorem ok121 : FnOk Try.prog T 121 sp121 := by
  refine fn_ok (E := E121) hE (call_cons ok200 call_nil) hM Try.func121 (code := (Try.f121.body.getD .skip)) (by kernel_rfl) (by kernel_rfl) ?_
  have key : ∀ (a0 : Row) (left1 : Int), Pu.laws_szClientS.c a0 left1 = true → ∃ it : It Res, (∀ c ∈ loopsOf (Try.f121.body.getD .skip), LoopOk E121 it c) ∧ body E121 it Try.f121 [(.v false [(.sh 212 a0)]), (.v false [(.i .i64 left1)])] = some ⟨[(.v false [(.i .i64 (Pu.laws_szClientS.v a0 left1))])], []⟩ := by
    intro a0 left1  h1
    obtain ⟨N, hN⟩ := Pu.laws_szClientS.b_eq (R := Res) (fun r0 => some ⟨[(.v false [(.i .i64 r0)])], []⟩) a0 left1 h1
    have hl : loopsOf (Try.f121.body.getD .skip) = [loopOf Try.f121 5] := by kernel_rfl
    refine ⟨it121 N, by rw [hl]; exact (loops_cons (lo121_5 N) loops_nil), ?_⟩
    refine Eq.trans (show body E121 (it121 N) Try.f121 [(.v false [(.sh 212 a0)]), (.v false [(.i .i64 left1)])] = Pu.laws_szClientS.b N (fun r0 => some ⟨[(.v false [(.i .i64 r0)])], []⟩) a0 left1 by kernel_rfl) hN
  intro args r h
  unfold sp121 at h
  split at h
  · injection h with h
    injection h with h1 h2
    subst h2
    exact ⟨by kernel_rfl, fun hf => ⟨of_decide_eq_true (by kernel_rfl), key _ _ h1⟩⟩
  · cases h

end Go.FG.Se

namespace Go.FG.Se
open Go.Proofs
def E38 : Env := { toTab := T, call := Go.FG.callIn [(119, sp119), (31, sp31), (120, sp120), (121, sp121)], mode := Go.FG.modeIn md, keep := Go.FG.keepIn [], tk := fun n => Go.FG.memB n [], om := Go.FG.omIn [] }
def sp38 : List Arg → Option (Bool × Res)
  | [(.v true [(.i .i64 a0_0), (.sh 208 a0_1), (.sh 9 a0_2), (.sh 9 a0_3), (.sh 30 a0_4), (.i .i64 a0_5), (.sh 210 a0_6), (.sh 212 a0_7), (.i .i64 a0_8)]), (.v false [(.i .i64 left1)])] => some (Pu.laws_szProxy.c a0_0 a0_1 a0_2 a0_3 a0_4 a0_5 a0_6 a0_7 a0_8 left1, ⟨[(.v false [(.i .i64 (Pu.laws_szProxy.v a0_0 a0_1 a0_2 a0_3 a0_4 a0_5 a0_6 a0_7 a0_8 left1))])], []⟩)
  | _ => none
theorem ok38 : FnOk Try.prog T 38 sp38 := by
  refine fn_ok (E := E38) hE (call_cons ok119 (call_cons ok31 (call_cons ok120 (call_cons ok121 call_nil)))) hM Try.func38 (code := (Try.f38.body.getD .skip)) (by kernel_rfl) (by kernel_rfl) ?_
  have key : ∀ (a0_0 : Int) (a0_1 : Row) (a0_2 : Row) (a0_3 : Row) (a0_4 : Row) (a0_5 : Int) (a0_6 : Row) (a0_7 : Row) (a0_8 : Int) (left1 : Int), Pu.laws_szProxy.c a0_0 a0_1 a0_2 a0_3 a0_4 a0_5 a0_6 a0_7 a0_8 left1 = true → ∃ it : It Res, (∀ c ∈ loopsOf (Try.f38.body.getD .skip), LoopOk E38 it c) ∧ body E38 it Try.f38 [(.v true [(.i .i64 a0_0), (.sh 208 a0_1), (.sh 9 a0_2), (.sh 9 a0_3), (.sh 30 a0_4), (.i .i64 a0_5), (.sh 210 a0_6), (.sh 212 a0_7), (.i .i64 a0_8)]), (.v false [(.i .i64 left1)])] = some ⟨[(.v false [(.i .i64 (Pu.laws_szProxy.v a0_0 a0_1 a0_2 a0_3 a0_4 a0_5 a0_6 a0_7 a0_8 left1))])], []⟩ := by
    intro a0_0 a0_1 a0_2 a0_3 a0_4 a0_5 a0_6 a0_7 a0_8 left1  h1
    have hN := Pu.laws_szProxy.b_eq (R := Res) (fun r0 => some ⟨[(.v false [(.i .i64 r0)])], []⟩) a0_0 a0_1 a0_2 a0_3 a0_4 a0_5 a0_6 a0_7 a0_8 left1 h1
    have hl : loopsOf (Try.f38.body.getD .skip) = [] := by kernel_rfl
    refine ⟨iterN 0, by rw [hl]; exact loops_nil, ?_⟩
    refine Eq.trans (show body E38 (iterN 0) Try.f38 [(.v true [(.i .i64 a0_0), (.sh 208 a0_1), (.sh 9 a0_2), (.sh 9 a0_3), (.sh 30 a0_4), (.i .i64 a0_5), (.sh 210 a0_6), (.sh 212 a0_7), (.i .i64 a0_8)]), (.v false [(.i .i64 left1)])] = Pu.laws_szProxy.b (fun r0 => some ⟨[(.v false [(.i .i64 r0)])], []⟩) a0_0 a0_1 a0_2 a0_3 a0_4 a0_5 a0_6 a0_7 a0_8 left1 by kernel_rfl) hN
  intro args r h
  unfold sp38 at h
  split at h
  · injection h with h
    injection h with h1 h2
    subst h2
    exact ⟨by kernel_rfl, fun hf => ⟨of_decide_eq_true (by kernel_rfl), key _ _ _ _ _ _ _ _ _ _ h1⟩⟩
  · cases h

end Go.FG.Se

namespace Go.FG.Se
open Go.Proofs
def E202 : Env := { toTab := T, call := Go.FG.callIn [], mode := Go.FG.modeIn md, keep := Go.FG.keepIn [], tk := fun n => Go.FG.memB n [], om := Go.FG.omIn [] }
def sp202 : List Arg → Option (Bool × Res)
  | [(.v true [(.s a0_0), (.i .i64 a0_1), (.i .i64 a0_2), (.s a0_3)])] => some (true, ⟨[(.v true [(.s ((Pu.laws_toEntry.v a0_0 a0_1 a0_2 a0_3).1)), (.i .i64 ((Pu.laws_toEntry.v a0_0 a0_1 a0_2 a0_3).2.1)), (.i .i64 ((Pu.laws_toEntry.v a0_0 a0_1 a0_2 a0_3).2.2.1)), (.s ((Pu.laws_toEntry.v a0_0 a0_1 a0_2 a0_3).2.2.2))])], []⟩)
  | _ => none
theorem ok202 : FnOk Try.prog T 202 sp202 := by
  refine fn_ok (E := E202) hE call_nil hM Try.func202 (code := (Try.f202.body.getD .skip)) (by kernel_rfl) (by kernel_rfl) ?_
  have key : ∀ (a0_0 : ByteArray) (a0_1 : Int) (a0_2 : Int) (a0_3 : ByteArray), ∃ it : It Res, (∀ c ∈ loopsOf (Try.f202.body.getD .skip), LoopOk E202 it c) ∧ body E202 it Try.f202 [(.v true [(.s a0_0), (.i .i64 a0_1), (.i .i64 a0_2), (.s a0_3)])] = some ⟨[(.v true [(.s ((Pu.laws_toEntry.v a0_0 a0_1 a0_2 a0_3).1)), (.i .i64 ((Pu.laws_toEntry.v a0_0 a0_1 a0_2 a0_3).2.1)), (.i .i64 ((Pu.laws_toEntry.v a0_0 a0_1 a0_2 a0_3).2.2.1)), (.s ((Pu.laws_toEntry.v a0_0 a0_1 a0_2 a0_3).2.2.2))])], []⟩ := by
    intro a0_0 a0_1 a0_2 a0_3 
    have hN := Pu.laws_toEntry.b_eq (R := Res) (fun r0 r1 r2 r3 => some ⟨[(.v true [(.s r0), (.i .i64 r1), (.i .i64 r2), (.s r3)])], []⟩) a0_0 a0_1 a0_2 a0_3
    have hl : loopsOf (Try.f202.body.getD .skip) = [] := by kernel_rfl
    refine ⟨iterN 0, by rw [hl]; exact loops_nil, ?_⟩
    refine Eq.trans (show body E202 (iterN 0) Try.f202 [(.v true [(.s a0_0), (.i .i64 a0_1), (.i .i64 a0_2), (.s a0_3)])] = Pu.laws_toEntry.b (fun r0 r1 r2 r3 => some ⟨[(.v true [(.s r0), (.i .i64 r1), (.i .i64 r2), (.s r3)])], []⟩) a0_0 a0_1 a0_2 a0_3 by kernel_rfl) hN
  intro args r h
  unfold sp202 at h
  split at h
  · injection h with h
    injection h with h1 h2
    subst h2
    exact ⟨by kernel_rfl, fun hf => ⟨of_decide_eq_true (by kernel_rfl), key _ _ _ _⟩⟩
  · cases h

end Go.FG.Se

namespace Go.FG.Se
open Go.Proofs
def T125_0 (p0 : Row) (p1 : Int) (p2 : Row) : List (Nat × Cel) := [(0, (.v (.v false [(.sh 208 p0)]))), (6, (.v (.v false [(.own 0)]))), (8, (.v (.v false [(.i .i64 p1)]))), (1, (.o (.row 86 true p2)))]
def E125 : Env := { toTab := T, call := Go.FG.callIn [(202, sp202)], mode := Go.FG.modeIn md, keep := Go.FG.keepIn [(3, [0, 3, 4])], tk := fun n => Go.FG.memB n [], om := Go.FG.omIn [] }
def it125 (N : Nat) {R : Type} : It R := fun rid f cn L K => bif Nat.beq rid 3 then (tell [(0, (.v (.v false [(.sh 208 [])]))), (6, (.v (.v false [(.own 0)]))), (8, (.v (.v false [(.i .i64 0)]))), (1, (.o (.row 86 true [])))] (fun | [.R x0, .I x1, .R x2] => Pu.laws_toEntryS.l3 N (fun y0 y1 y2 => (K (.exit 0) (tabl (T125_0 y0 y1 y2)))) N x0 x1 x2 | _ => none) L (none)) else none
theorem e125_3 {R : Type} (N : Nat) (K : Ex → St → Option R) : ∀ n : Nat, (∀ x0 x1 x2, iter (exc E125 (it125 N) (loopOf Try.f125 3)) (canon (E125.keep 3))  n (tabl (T125_0 x0 x1 x2)) K = Pu.laws_toEntryS.l3 N (fun y0 y1 y2 => (K (.exit 0) (tabl (T125_0 y0 y1 y2)))) n x0 x1 x2) := by
  intro n
  induction n with
  | zero => exact (fun _ _ _ => rfl)
  | succ n ih =>
    have e0 : (fun x0 x1 x2 => iter (exc E125 (it125 N) (loopOf Try.f125 3)) (canon (E125.keep 3))  n (tabl (T125_0 x0 x1 x2)) K) = Pu.laws_toEntryS.l3 N (fun y0 y1 y2 => (K (.exit 0) (tabl (T125_0 y0 y1 y2)))) n := by funext x0 x1 x2; exact ih x0 x1 x2
    intro x0 x1 x2
    have h : ∀ g, exc E125 (it125 N) (loopOf Try.f125 3) (tabl (T125_0 x0 x1 x2)) (iterK g (canon (E125.keep 3)) K) = Pu.laws_toEntryS.r3 N (fun x0 x1 x2 => (g (tabl (T125_0 x0 x1 x2)))) (fun y0 y1 y2 => (K (.exit 0) (tabl (T125_0 y0 y1 y2)))) x0 x1 x2 := by intro g; kernel_rfl
    refine (iter_succ _ _ n _ K).trans ((h _).trans ?_)
    show Pu.laws_toEntryS.r3 N (fun x0 x1 x2 => (iter (exc E125 (it125 N) (loopOf Try.f125 3)) (canon (E125.keep 3))  n (tabl (T125_0 x0 x1 x2)) K)) (fun y0 y1 y2 => (K (.exit 0) (tabl (T125_0 y0 y1 y2)))) x0 x1 x2 = _
    rw [e0]; rfl
theorem lo125_3 {R : Type} (N : Nat) : LoopOk E125 (it125 N (R := R)) (loopOf Try.f125 3) := by
  have e : firstRid (loopOf Try.f125 3) = 3 := by kernel_rfl
  intro L K r
  rw [e]
  intro h
  unfold it125 at h
  simp only [show Nat.beq 3 3 = true from rfl, cond_false, cond_true] at h
  refine tell_ok (Q := fun L => ∃ n, iter (exc E125 (it125 N) (loopOf Try.f125 3)) (canon (E125.keep 3)) n (tabl L) K = some r) h (fun xs h => ?_) (fun h => ?_)
  · (try dsimp only at h)
    split at h
    · exact ⟨N, ((e125_3 N K N) _ _ _).trans h⟩
    · cases h
  cases h
def sp125 : List Arg → Option (Bool × Res)
  | [(.v false [(.sh 208 a0)])] => some (Pu.laws_toEntryS.c a0, ⟨[(.v false [(.ow 86 true (Pu.laws_toEntryS.v a0))])], []⟩)
  | _ => none
theorem ok125 : FnOk Try.prog T 125 sp125 := by
  refine fn_ok (E := E125) hE (call_cons ok202 call_nil) hM Try.func125 (code := (Try.f125.body.getD .skip)) (by kernel_rfl) (by kernel_rfl) ?_
  have key : ∀ (a0 : Row), Pu.laws_toEntryS.c a0 = true → ∃ it : It Res, (∀ c ∈ loopsOf (Try.f125.body.getD .skip), LoopOk E125 it c) ∧ body E125 it Try.f125 [(.v false [(.sh 208 a0)])] = some ⟨[(.v false [(.ow 86 true (Pu.laws_toEntryS.v a0))])], []⟩ := by
    intro a0  h1
    obtain ⟨N, hN⟩ := Pu.laws_toEntryS.b_eq (R := Res) (fun r0 => some ⟨[(.v false [(.ow 86 true r0)])], []⟩) a0 h1
    have hl : loopsOf (Try.f125.body.getD .skip) = [loopOf Try.f125 3] := by kernel_rfl
    refine ⟨it125 N, by rw [hl]; exact (loops_cons (lo125_3 N) loops_nil), ?_⟩
    refine Eq.trans (show body E125 (it125 N) Try.f125 [(.v false [(.sh 208 a0)])] = Pu.laws_toEntryS.b N (fun r0 => some ⟨[(.v false [(.ow 86 true r0)])], []⟩) a0 by kernel_rfl) hN
  intro args r h
  unfold sp125 at h
  split at h
  · injection h with h
    injection h with h1 h2
    subst h2
    exact ⟨by kernel_rfl, fun hf => ⟨of_decide_eq_true (by kernel_rfl), key _ h1⟩⟩
  · cases h

end Go.FG.Se

namespace Go.FG.Se
open Go.Proofs
def T106_0 (p0 : Row) (p1 : Int) (p2 : Row) : List (Nat × Cel) := [(0, (.v (.v false [(.sh 9 p0)]))), (6, (.v (.v false [(.own 0)]))), (8, (.v (.v false [(.i .i64 p1)]))), (1, (.o (.row 9 true p2)))]
def E106 : Env := { toTab := T, call := Go.FG.callIn [], mode := Go.FG.modeIn md, keep := Go.FG.keepIn [(3, [0, 3, 4])], tk := fun n => Go.FG.memB n [], om := Go.FG.omIn [] }
def it106 (N : Nat) {R : Type} : It R := fun rid f cn L K => bif Nat.beq rid 3 then (tell [(0, (.v (.v false [(.sh 9 [])]))), (6, (.v (.v false [(.own 0)]))), (8, (.v (.v false [(.i .i64 0)]))), (1, (.o (.row 9 true [])))] (fun | [.R x0, .I x1, .R x2] => Pu.laws_toStringS.l3 N (fun y0 y1 y2 => (K (.exit 0) (tabl (T106_0 y0 y1 y2)))) N x0 x1 x2 | _ => none) L (none)) else none
theorem e106_3 {R : Type} (N : Nat) (K : Ex → St → Option R) : ∀ n : Nat, (∀ x0 x1 x2, iter (exc E106 (it106 N) (loopOf Try.f106 3)) (canon (E106.keep 3))  n (tabl (T106_0 x0 x1 x2)) K = Pu.laws_toStringS.l3 N (fun y0 y1 y2 => (K (.exit 0) (tabl (T106_0 y0 y1 y2)))) n x0 x1 x2) := by
  intro n
  induction n with
  | zero => exact (fun _ _ _ => rfl)
  | succ n ih =>
    have e0 : (fun x0 x1 x2 => iter (exc E106 (it106 N) (loopOf Try.f106 3)) (canon (E106.keep 3))  n (tabl (T106_0 x0 x1 x2)) K) = Pu.laws_toStringS.l3 N (fun y0 y1 y2 => (K (.exit 0) (tabl (T106_0 y0 y1 y2)))) n := by funext x0 x1 x2; exact ih x0 x1 x2
    intro x0 x1 x2
    have h : ∀ g, exc E106 (it106 N) (loopOf Try.f106 3) (tabl (T106_0 x0 x1 x2)) (iterK g (canon (E106.keep 3)) K) = Pu.laws_toStringS.r3 N (fun x0 x1 x2 => (g (tabl (T106_0 x0 x1 x2)))) (fun y0 y1 y2 => (K (.exit 0) (tabl (T106_0 y0 y1 y2)))) x0 x1 x2 := by intro g; kernel_rfl
    refine (iter_succ _ _ n _ K).trans ((h _).trans ?_)
    show Pu.laws_toStringS.r3 N (fun x0 x1 x2 => (iter (exc E106 (it106 N) (loopOf Try.f106 3)) (canon (E106.keep 3))  n (tabl (T106_0 x0 x1 x2)) K)) (fun y0 y1 y2 => (K (.exit 0) (tabl (T106_0 y0 y1 y2)))) x0 x1 x2 = _
    rw [e0]; rfl
theorem lo106_3 {R : Type} (N : Nat) : LoopOk E106 (it106 N (R := R)) (loopOf Try.f106 3) := by
  have e : firstRid (loopOf Try.f106 3) = 3 := by kernel_rfl
  intro L K r
  rw [e]
  intro h
  unfold it106 at h
  simp only [show Nat.beq 3 3 = true from rfl, cond_false, cond_true] at h
  refine tell_ok (Q := fun L => ∃ n, iter (exc E106 (it106 N) (loopOf Try.f106 3)) (canon (E106.keep 3)) n (tabl L) K = some r) h (fun xs h => ?_) (fun h => ?_)
  · (try dsimp only at h)
    split at h
    · exact ⟨N, ((e106_3 N K N) _ _ _).trans h⟩
    · cases h
  cases h
def sp106 : List Arg → Option (Bool × Res)
  | [(.v false [(.sh 9 a0)])] => some (Pu.laws_toStringS.c a0, ⟨[(.v false [(.ow 9 true (Pu.laws_toStringS.v a0))])], []⟩)
  | _ => none
theorem ok106 : FnOk Try.prog T 106 sp106 := by
  refine fn_ok (E := E106) hE call_nil hM Try.func106 (code := (Try.f106.body.getD .skip)) (by kernel_rfl) (by kernel_rfl) ?_
  have key : ∀ (a0 : Row), Pu.laws_toStringS.c a0 = true → ∃ it : It Res, (∀ c ∈ loopsOf (Try.f106.body.getD .skip), LoopOk E106 it c) ∧ body E106 it Try.f106 [(.v false [(.sh 9 a0)])] = some ⟨[(.v false [(.ow 9 true (Pu.laws_toStringS.v a0))])], []⟩ := by
    intro a0  h1
    obtain ⟨N, hN⟩ := Pu.laws_toStringS.b_eq (R := Res) (fun r0 => some ⟨[(.v false [(.ow 9 true r0)])], []⟩) a0 h1
    have hl : loopsOf (Try.f106.body.getD .skip) = [loopOf Try.f106 3] := by kernel_rfl
    refine ⟨it106 N, by rw [hl]; exact (loops_cons (lo106_3 N) loops_nil), ?_⟩
    refine Eq.trans (show body E106 (it106 N) Try.f106 [(.v false [(.sh 9 a0)])] = Pu.laws_toStringS.b N (fun r0 => some ⟨[(.v false [(.ow 9 true r0)])], []⟩) a0 by kernel_rfl) hN
  intro args r h
  unfold sp106 at h
  split at h
  · injection h with h
    injection h with h1 h2
    subst h2
    exact ⟨by kernel_rfl, fun hf => ⟨of_decide_eq_true (by kernel_rfl), key _ h1⟩⟩
  · cases h

end Go.FG.Se

namespace Go.FG.Se
open Go.Proofs
def T224_0 (p0 : Row) (p1 : Int) (p2 : Row) : List (Nat × Cel) := [(0, (.v (.v false [(.sh 3 p0)]))), (6, (.v (.v false [(.own 0)]))), (8, (.v (.v false [(.i .i64 p1)]))), (1, (.o (.row 3 true p2)))]
def E224 : Env := { toTab := T, call := Go.FG.callIn [], mode := Go.FG.modeIn md, keep := Go.FG.keepIn [(3, [0, 3, 4])], tk := fun n => Go.FG.memB n [], om := Go.FG.omIn [] }
def it224 (N : Nat) {R : Type} : It R := fun rid f cn L K => bif Nat.beq rid 3 then (tell [(0, (.v (.v false [(.sh 3 [])]))), (6, (.v (.v false [(.own 0)]))), (8, (.v (.v false [(.i .i64 0)]))), (1, (.o (.row 3 true [])))] (fun | [.R x0, .I x1, .R x2] => Pu.laws_toIntS.l3 N (fun y0 y1 y2 => (K (.exit 0) (tabl (T224_0 y0 y1 y2)))) N x0 x1 x2 | _ => none) L (none)) else none
theorem e224_3 {R : Type} (N : Nat) (K : Ex → St → Option R) : ∀ n : Nat, (∀ x0 x1 x2, iter (exc E224 (it224 N) (loopOf Try.f224 3)) (canon (E224.keep 3))  n (tabl (T224_0 x0 x1 x2)) K = Pu.laws_toIntS.l3 N (fun y0 y1 y2 => (K (.exit 0) (tabl (T224_0 y0 y1 y2)))) n x0 x1 x2) := by
  intro n
  induction n with
  | zero => exact (fun _ _ _ => rfl)
  | succ n ih =>
    have e0 : (fun x0 x1 x2 => iter (exc E224 (it224 N) (loopOf Try.f224 3)) (canon (E224.keep 3))  n (tabl (T224_0 x0 x1 x2)) K) = Pu.laws_toIntS.l3 N (fun y0 y1 y2 => (K (.exit 0) (tabl (T224_0 y0 y1 y2)))) n := by funext x0 x1 x2; exact ih x0 x1 x2
    intro x0 x1 x2
    have h : ∀ g, exc E224 (it224 N) (loopOf Try.f224 3) (tabl (T224_0 x0 x1 x2)) (iterK g (canon (E224.keep 3)) K) = Pu.laws_toIntS.r3 N (fun x0 x1 x2 => (g (tabl (T224_0 x0 x1 x2)))) (fun y0 y1 y2 => (K (.exit 0) (tabl (T224_0 y0 y1 y2)))) x0 x1 x2 := by intro g; kernel_rfl
    refine (iter_succ _ _ n _ K).trans ((h _).trans ?_)
    show Pu.laws_toIntS.r3 N (fun x0 x1 x2 => (iter (exc E224 (it224 N) (loopOf Try.f224 3)) (canon (E224.keep 3))  n (tabl (T224_0 x0 x1 x2)) K)) (fun y0 y1 y2 => (K (.exit 0) (tabl (T224_0 y0 y1 y2)))) x0 x1 x2 = _
    rw [e0]; rfl
theorem lo224_3 {R : Type} (N : Nat) : LoopOk E224 (it224 N (R := R)) (loopOf Try.f224 3) := by
  have e : firstRid (loopOf Try.f224 3) = 3 := by kernel_rfl
  intro L K r
  rw [e]
  intro h
  unfold it224 at h
  simp only [show Nat.beq 3 3 = true from rfl, cond_false, cond_true] at h
  refine tell_ok (Q := fun L => ∃ n, iter (exc E224 (it224 N) (loopOf Try.f224 3)) (canon (E224.keep 3)) n (tabl L) K = some r) h (fun xs h => ?_) (fun h => ?_)
  · (try dsimp only at h)
    split at h
    · exact ⟨N, ((e224_3 N K N) _ _ _).trans h⟩
    · cases h
  cases h
def sp224 : List Arg → Option (Bool × Res)
  | [(.v false [(.sh 3 a0)])] => some (Pu.laws_toIntS.c a0, ⟨[(.v false [(.ow 3 true (Pu.laws_toIntS.v a0))])], []⟩)
  | _ => none
theorem ok224 : FnOk Try.prog T 224 sp224 := by
  refine fn_ok (E := E224) hE call_nil hM Try.func224 (code := (Try.f224.body.getD .skip)) (by kernel_rfl) (by kernel_rfl) ?_
  have key : ∀ (a0 : Row), Pu.laws_toIntS.c a0 = true → ∃ it : It Res, (∀ c ∈ loopsOf (Try.f224.body.getD .skip), LoopOk E224 it c) ∧ body E224 it Try.f224 [(.v false [(.sh 3 a0)])] = some ⟨[(.v false [(.ow 3 true (Pu.laws_toIntS.v a0))])], []⟩ := by
    intro a0  h1
    obtain ⟨N, hN⟩ := Pu.laws_toIntS.b_eq (R := Res) (fun r0 => some ⟨[(.v false [(.ow 3 true r0)])], []⟩) a0 h1
    have hl : loopsOf (Try.f224.body.getD .skip) = [loopOf Try.f224 3] := by kernel_rfl
    refine ⟨it224 N, by rw [hl]; exact (loops_cons (lo224_3 N) loops_nil), ?_⟩
    refine Eq.trans (show body E224 (it224 N) Try.f224 [(.v false [(.sh 3 a0)])] = Pu.laws_toIntS.b N (fun r0 => some ⟨[(.v false [(.ow 3 true r0)])], []⟩) a0 by kernel_rfl) hN
  intro args r h
  unfold sp224 at h
  split at h
  · injection h with h
    injection h with h1 h2
    subst h2
    exact ⟨by kernel_rfl, fun hf => ⟨of_decide_eq_true (by kernel_rfl), key _ h1⟩⟩
  · cases h

end Go.FG.Se

namespace Go.FG.Se
open Go.Proofs
def T189_0 (p0 : Row) (p1 : Int) (p2 : Row) : List (Nat × Cel) := [(0, (.v (.v false [(.sh 30 p0)]))), (6, (.v (.v false [(.own 999)]))), (8, (.v (.v false [(.i .i64 p1)]))), (1999, (.o (.row 30 true p2)))]
def E189 : Env := { toTab := T, call := Go.FG.callIn [(224, sp224)], mode := Go.FG.modeIn md, keep := Go.FG.keepIn [(3, [0, 3, 4])], tk := fun n => Go.FG.memB n [], om := Go.FG.omIn [] }
def it189 (N : Nat) {R : Type} : It R := fun rid f cn L K => bif Nat.beq rid 3 then (tell [(0, (.v (.v false [(.sh 30 [])]))), (6, (.v (.v false [(.own 999)]))), (8, (.v (.v false [(.i .i64 0)]))), (1999, (.o (.row 30 true [])))] (fun | [.R x0, .I x1, .R x2] => Pu.laws_toIntSS.l3 N (fun y0 y1 y2 => (K (.exit 0) (tabl (T189_0 y0 y1 y2)))) N x0 x1 x2 | _ => none) L (none)) else none
theorem e189_3 {R : Type} (N : Nat) (K : Ex → St → Option R) : ∀ n : Nat, (∀ x0 x1 x2, iter (exc E189 (it189 N) (loopOf Try.f189 3)) (canon (E189.keep 3))  n (tabl (T189_0 x0 x1 x2)) K = Pu.laws_toIntSS.l3 N (fun y0 y1 y2 => (K (.exit 0) (tabl (T189_0 y0 y1 y2)))) n x0 x1 x2) := by
  intro n
  induction n with
  | zero => exact (fun _ _ _ => rfl)
  | succ n ih =>
    have e0 : (fun x0 x1 x2 => iter (exc E189 (it189 N) (loopOf Try.f189 3)) (canon (E189.keep 3))  n (tabl (T189_0 x0 x1 x2)) K) = Pu.laws_toIntSS.l3 N (fun y0 y1 y2 => (K (.exit 0) (tabl (T189_0 y0 y1 y2)))) n := by funext x0 x1 x2; exact ih x0 x1 x2
    intro x0 x1 x2
    have h : ∀ g, exc E189 (it189 N) (loopOf Try.f189 3) (tabl (T189_0 x0 x1 x2)) (iterK g (canon (E189.keep 3)) K) = Pu.laws_toIntSS.r3 N (fun x0 x1 x2 => (g (tabl (T189_0 x0 x1 x2)))) (fun y0 y1 y2 => (K (.exit 0) (tabl (T189_0 y0 y1 y2)))) x0 x1 x2 := by intro g; kernel_rfl
    refine (iter_succ _ _ n _ K).trans ((h _).trans ?_)
    show Pu.laws_toIntSS.r3 N (fun x0 x1 x2 => (iter (exc E189 (it189 N) (loopOf Try.f189 3)) (canon (E189.keep 3))  n (tabl (T189_0 x0 x1 x2)) K)) (fun y0 y1 y2 => (K (.exit 0) (tabl (T189_0 y0 y1 y2)))) x0 x1 x2 = _
    rw [e0]; rfl
theorem lo189_3 {R : Type} (N : Nat) : LoopOk E189 (it189 N (R := R)) (loopOf Try.f189 3) := by
  have e : firstRid (loopOf Try.f189 3) = 3 := by kernel_rfl
  intro L K r
  rw [e]
  intro h
  unfold it189 at h
  simp only [show Nat.beq 3 3 = true from rfl, cond_false, cond_true] at h
  refine tell_ok (Q := fun L => ∃ n, iter (exc E189 (it189 N) (loopOf Try.f189 3)) (canon (E189.keep 3)) n (tabl L) K = some r) h (fun xs h => ?_) (fun h => ?_)
  · (try dsimp only at h)
    split at h
    · exact ⟨N, ((e189_3 N K N) _ _ _).trans h⟩
    · cases h
  cases h
def sp189 : List Arg → Option (Bool × Res)
  | [(.v false [(.sh 30 a0)])] => some (Pu.laws_toIntSS.c a0, ⟨[(.v false [(.ow 30 true (Pu.laws_toIntSS.v a0))])], []⟩)
  | _ => none
theorem ok189 : FnOk Try.prog T 189 sp189 := by
  refine fn_ok (E := E189) hE (call_cons ok224 call_nil) hM Try.func189 (code := (Try.f189.body.getD .skip)) (by kernel_rfl) (by kernel_rfl) ?_
  have key : ∀ (a0 : Row), Pu.laws_toIntSS.c a0 = true → ∃ it : It Res, (∀ c ∈ loopsOf (Try.f189.body.getD .skip), LoopOk E189 it c) ∧ body E189 it Try.f189 [(.v false [(.sh 30 a0)])] = some ⟨[(.v false [(.ow 30 true (Pu.laws_toIntSS.v a0))])], []⟩ := by
    intro a0  h1
    obtain ⟨N, hN⟩ := Pu.laws_toIntSS.b_eq (R := Res) (fun r0 => some ⟨[(.v false [(.ow 30 true r0)])], []⟩) a0 h1
    have hl : loopsOf (Try.f189.body.getD .skip) = [loopOf Try.f189 3] := by kernel_rfl
    refine ⟨it189 N, by rw [hl]; exact (loops_cons (lo189_3 N) loops_nil), ?_⟩
    refine Eq.trans (show body E189 (it189 N) Try.f189 [(.v false [(.sh 30 a0)])] = Pu.laws_toIntSS.b N (fun r0 => some ⟨[(.v false [(.ow 30 true r0)])], []⟩) a0 by kernel_rfl) hN
  intro args r h
  unfold sp189 at h
  split at h
  · injection h with h
    injection h with h1 h2
    subst h2
    exact ⟨by kernel_rfl, fun hf => ⟨of_decide_eq_true (by kernel_rfl), key _ h1⟩⟩
  · cases h

end Go.FG.Se

namespace Go.FG.Se
open Go.Proofs
def E107 : Env := { toTab := T, call := Go.FG.callIn [(189, sp189)], mode := Go.FG.modeIn md, keep := Go.FG.keepIn [], tk := fun n => Go.FG.memB n [], om := Go.FG.omIn [] }
def sp107 : List Arg → Option (Bool × Res)
  | [(.v true [(.sh 30 a0_0), (.i .i64 a0_1)])] => some (Pu.laws_toSketch.c a0_0 a0_1, ⟨[(.v true [(.ow 30 true ((Pu.laws_toSketch.v a0_0 a0_1).1)), (.i .i64 ((Pu.laws_toSketch.v a0_0 a0_1).2))])], []⟩)
  | _ => none
theorem ok107 : FnOk Try.prog T 107 sp107 := by
  refine fn_ok (E := E107) hE (call_cons ok189 call_nil) hM Try.func107 (code := (Try.f107.body.getD .skip)) (by kernel_rfl) (by kernel_rfl) ?_
  have key : ∀ (a0_0 : Row) (a0_1 : Int), Pu.laws_toSketch.c a0_0 a0_1 = true → ∃ it : It Res, (∀ c ∈ loopsOf (Try.f107.body.getD .skip), LoopOk E107 it c) ∧ body E107 it Try.f107 [(.v true [(.sh 30 a0_0), (.i .i64 a0_1)])] = some ⟨[(.v true [(.ow 30 true ((Pu.laws_toSketch.v a0_0 a0_1).1)), (.i .i64 ((Pu.laws_toSketch.v a0_0 a0_1).2))])], []⟩ := by
    intro a0_0 a0_1  h1
    have hN := Pu.laws_toSketch.b_eq (R := Res) (fun r0 r1 => some ⟨[(.v true [(.ow 30 true r0), (.i .i64 r1)])], []⟩) a0_0 a0_1 h1
    have hl : loopsOf (Try.f107.body.getD .skip) = [] := by kernel_rfl
    refine ⟨iterN 0, by rw [hl]; exact loops_nil, ?_⟩
    refine Eq.trans (show body E107 (iterN 0) Try.f107 [(.v true [(.sh 30 a0_0), (.i .i64 a0_1)])] = Pu.laws_toSketch.b (fun r0 r1 => some ⟨[(.v true [(.ow 30 true r0), (.i .i64 r1)])], []⟩) a0_0 a0_1 by kernel_rfl) hN
  intro args r h
  unfold sp107 at h
  split at h
  · injection h with h
    injection h with h1 h2
    subst h2
    exact ⟨by kernel_rfl, fun hf => ⟨of_decide_eq_true (by kernel_rfl), key _ _ h1⟩⟩
  · cases h

end Go.FG.Se

namespace Go.FG.Se
open Go.Proofs
def E33 : Env := { toTab := T, call := Go.FG.callIn [(106, sp106), (107, sp107)], mode := Go.FG.modeIn md, keep := Go.FG.keepIn [], tk := fun n => Go.FG.memB n [], om := Go.FG.omIn [] }
def sp33 : List Arg → Option (Bool × Res)
  | [(.v true [(.sh 9 a0_0), (.sh 9 a0_1), (.sh 30 a0_2), (.i .i64 a0_3)])] => some (Pu.laws_toPolicy.c a0_0 a0_1 a0_2 a0_3, ⟨[(.v true [(.ow 9 true ((Pu.laws_toPolicy.v a0_0 a0_1 a0_2 a0_3).1)), (.ow 9 true ((Pu.laws_toPolicy.v a0_0 a0_1 a0_2 a0_3).2.1)), (.ow 30 true ((Pu.laws_toPolicy.v a0_0 a0_1 a0_2 a0_3).2.2.1)), (.i .i64 ((Pu.laws_toPolicy.v a0_0 a0_1 a0_2 a0_3).2.2.2))])], []⟩)
  | _ => none
theorem ok33 : FnOk Try.prog T 33 sp33 := by
  refine fn_ok (E := E33) hE (call_cons ok106 (call_cons ok107 call_nil)) hM Try.func33 (code := (Try.f33.body.getD .skip)) (by kernel_rfl) (by kernel_rfl) ?_
  have key : ∀ (a0_0 : Row) (a0_1 : Row) (a0_2 : Row) (a0_3 : Int), Pu.laws_toPolicy.c a0_0 a0_1 a0_2 a0_3 = true → ∃ it : It Res, (∀ c ∈ loopsOf (Try.f33.body.getD .skip), LoopOk E33 it c) ∧ body E33 it Try.f33 [(.v true [(.sh 9 a0_0), (.sh 9 a0_1), (.sh 30 a0_2), (.i .i64 a0_3)])] = some ⟨[(.v true [(.ow 9 true ((Pu.laws_toPolicy.v a0_0 a0_1 a0_2 a0_3).1)), (.ow 9 true ((Pu.laws_toPolicy.v a0_0 a0_1 a0_2 a0_3).2.1)), (.ow 30 true ((Pu.laws_toPolicy.v a0_0 a0_1 a0_2 a0_3).2.2.1)), (.i .i64 ((Pu.laws_toPolicy.v a0_0 a0_1 a0_2 a0_3).2.2.2))])], []⟩ := by
    intro a0_0 a0_1 a0_2 a0_3  h1
    have hN := Pu.laws_toPolicy.b_eq (R := Res) (fun r0 r1 r2 r3 => some ⟨[(.v true [(.ow 9 true r0), (.ow 9 true r1), (.ow 30 true r2), (.i .i64 r3)])], []⟩) a0_0 a0_1 a0_2 a0_3 h1
    have hl : loopsOf (Try.f33.body.getD .skip) = [] := by kernel_rfl
    refine ⟨iterN 0, by rw [hl]; exact loops_nil, ?_⟩
    refine Eq.trans (show body E33 (iterN 0) Try.f33 [(.v true [(.sh 9 a0_0), (.sh 9 a0_1), (.sh 30 a0_2), (.i .i64 a0_3)])] = Pu.laws_toPolicy.b (fun r0 r1 r2 r3 => some ⟨[(.v true [(.ow 9 true r0), (.ow 9 true r1), (.ow 30 true r2), (.i .i64 r3)])], []⟩) a0_0 a0_1 a0_2 a0_3 by kernel_rfl) hN
  intro args r h
  unfold sp33 at h
  split at h
  · injection h with h
    injection h with h1 h2
    subst h2
    exact ⟨by kernel_rfl, fun hf => ⟨of_decide_eq_true (by kernel_rfl), key _ _ _ _ h1⟩⟩
  · cases h

end Go.FG.Se

namespace Go.FG.Se
open Go.Proofs
def E203 : Env := { toTab := T, call := Go.FG.callIn [], mode := Go.FG.modeIn md, keep := Go.FG.keepIn [], tk := fun n => Go.FG.memB n [], om := Go.FG.omIn [] }
def sp203 : List Arg → Option (Bool × Res)
  | [(.v true [(.s a0_0), (.s a0_1), (.i .i64 a0_2), (.i .i64 a0_3), (.i .i64 a0_4)])] => some (true, ⟨[(.v true [(.s ((Pu.laws_toFetch.v a0_0 a0_1 a0_2 a0_3 a0_4).1)), (.s ((Pu.laws_toFetch.v a0_0 a0_1 a0_2 a0_3 a0_4).2.1)), (.i .i64 ((Pu.laws_toFetch.v a0_0 a0_1 a0_2 a0_3 a0_4).2.2.1)), (.i .i64 ((Pu.laws_toFetch.v a0_0 a0_1 a0_2 a0_3 a0_4).2.2.2.1)), (.i .i64 ((Pu.laws_toFetch.v a0_0 a0_1 a0_2 a0_3 a0_4).2.2.2.2))])], []⟩)
  | _ => none
theorem ok203 : FnOk Try.prog T 203 sp203 := by
  refine fn_ok (E := E203) hE call_nil hM Try.func203 (code := (Try.f203.body.getD .skip)) (by kernel_rfl) (by kernel_rfl) ?_
  have key : ∀ (a0_0 : ByteArray) (a0_1 : ByteArray) (a0_2 : Int) (a0_3 : Int) (a0_4 : Int), ∃ it : It Res, (∀ c ∈ loopsOf (Try.f203.body.getD .skip), LoopOk E203 it c) ∧ body E203 it Try.f203 [(.v true [(.s a0_0), (.s a0_1), (.i .i64 a0_2), (.i .i64 a0_3), (.i .i64 a0_4)])] = some ⟨[(.v true [(.s ((Pu.laws_toFetch.v a0_0 a0_1 a0_2 a0_3 a0_4).1)), (.s ((Pu.laws_toFetch.v a0_0 a0_1 a0_2 a0_3 a0_4).2.1)), (.i .i64 ((Pu.laws_toFetch.v a0_0 a0_1 a0_2 a0_3 a0_4).2.2.1)), (.i .i64 ((Pu.laws_toFetch.v a0_0 a0_1 a0_2 a0_3 a0_4).2.2.2.1)), (.i .i64 ((Pu.laws_toFetch.v a0_0 a0_1 a0_2 a0_3 a0_4).2.2.2.2))])], []⟩ := by
    intro a0_0 a0_1 a0_2 a0_3 a0_4 
    have hN := Pu.laws_toFetch.b_eq (R := Res) (fun r0 r1 r2 r3 r4 => some ⟨[(.v true [(.s r0), (.s r1), (.i .i64 r2), (.i .i64 r3), (.i .i64 r4)])], []⟩) a0_0 a0_1 a0_2 a0_3 a0_4
    have hl : loopsOf (Try.f203.body.getD .skip) = [] := by kernel_rfl
    refine ⟨iterN 0, by rw [hl]; exact loops_nil, ?_⟩
    refine Eq.trans (show body E203 (iterN 0) Try.f203 [(.v true [(.s a0_0), (.s a0_1), (.i .i64 a0_2), (.i .i64 a0_3), (.i .i64 a0_4)])] = Pu.laws_toFetch.b (fun r0 r1 r2 r3 r4 => some ⟨[(.v true [(.s r0), (.s r1), (.i .i64 r2), (.i .i64 r3), (.i .i64 r4)])], []⟩) a0_0 a0_1 a0_2 a0_3 a0_4 by kernel_rfl) hN
  intro args r h
  unfold sp203 at h
  split at h
  · injection h with h
    injection h with h1 h2
    subst h2
    exact ⟨by kernel_rfl, fun hf => ⟨of_decide_eq_true (by kernel_rfl), key _ _ _ _ _⟩⟩
  · cases h

end Go.FG.Se

namespace Go.FG.Se
open Go.Proofs
def T126_0 (p0 : Row) (p1 : Int) (p2 : Row) : List (Nat × Cel) := [(0, (.v (.v false [(.sh 210 p0)]))), (6, (.v (.v false [(.own 0)]))), (8, (.v (.v false [(.i .i64 p1)]))), (1, (.o (.row 126 true p2)))]
def E126 : Env := { toTab := T, call := Go.FG.callIn [(203, sp203)], mode := Go.FG.modeIn md, keep := Go.FG.keepIn [(3, [0, 3, 4])], tk := fun n => Go.FG.memB n [], om := Go.FG.omIn [] }
def it126 (N : Nat) {R : Type} : It R := fun rid f cn L K => bif Nat.beq rid 3 then (tell [(0, (.v (.v false [(.sh 210 [])]))), (6, (.v (.v false [(.own 0)]))), (8, (.v (.v false [(.i .i64 0)]))), (1, (.o (.row 126 true [])))] (fun | [.R x0, .I x1, .R x2] => Pu.laws_toFetchS.l3 N (fun y0 y1 y2 => (K (.exit 0) (tabl (T126_0 y0 y1 y2)))) N x0 x1 x2 | _ => none) L (none)) else none
theorem e126_3 {R : Type} (N : Nat) (K : Ex → St → Option R) : ∀ n : Nat, (∀ x0 x1 x2, iter (exc E126 (it126 N) (loopOf Try.f126 3)) (canon (E126.keep 3))  n (tabl (T126_0 x0 x1 x2)) K = Pu.laws_toFetchS.l3 N (fun y0 y1 y2 => (K (.exit 0) (tabl (T126_0 y0 y1 y2)))) n x0 x1 x2) := by
  intro n
  induction n with
  | zero => exact (fun _ _ _ => rfl)
  | succ n ih =>
    have e0 : (fun x0 x1 x2 => iter (exc E126 (it126 N) (loopOf Try.f126 3)) (canon (E126.keep 3))  n (tabl (T126_0 x0 x1 x2)) K) = Pu.laws_toFetchS.l3 N (fun y0 y1 y2 => (K (.exit 0) (tabl (T126_0 y0 y1 y2)))) n := by funext x0 x1 x2; exact ih x0 x1 x2
    intro x0 x1 x2
    have h : ∀ g, exc E126 (it126 N) (loopOf Try.f126 3) (tabl (T126_0 x0 x1 x2)) (iterK g (canon (E126.keep 3)) K) = Pu.laws_toFetchS.r3 N (fun x0 x1 x2 => (g (tabl (T126_0 x0 x1 x2)))) (fun y0 y1 y2 => (K (.exit 0) (tabl (T126_0 y0 y1 y2)))) x0 x1 x2 := by intro g; kernel_rfl
    refine (iter_succ _ _ n _ K).trans ((h _).trans ?_)
    show Pu.laws_toFetchS.r3 N (fun x0 x1 x2 => (iter (exc E126 (it126 N) (loopOf Try.f126 3)) (canon (E126.keep 3))  n (tabl (T126_0 x0 x1 x2)) K)) (fun y0 y1 y2 => (K (.exit 0) (tabl (T126_0 y0 y1 y2)))) x0 x1 x2 = _
    rw [e0]; rfl
theorem lo126_3 {R : Type} (N : Nat) : LoopOk E126 (it126 N (R := R)) (loopOf Try.f126 3) := by
  have e : firstRid (loopOf Try.f126 3) = 3 := by kernel_rfl
  intro L K r
  rw [e]
  intro h
  unfold it126 at h
  simp only [show Nat.beq 3 3 = true from rfl, cond_false, cond_true] at h
  refine tell_ok (Q := fun L => ∃ n, iter (exc E126 (it126 N) (loopOf Try.f126 3)) (canon (E126.keep 3)) n (tabl L) K = some r) h (fun xs h => ?_) (fun h => ?_)
  · (try dsimp only at h)
    split at h
    · exact ⟨N, ((e126_3 N K N) _ _ _).trans h⟩
    · cases h
  cases h
def sp126 : List Arg → Option (Bool × Res)
  | [(.v false [(.sh 210 a0)])] => some (Pu.laws_toFetchS.c a0, ⟨[(.v false [(.ow 126 true (Pu.laws_toFetchS.v a0))])], []⟩)
  | _ => none
theorem ok126 : FnOk Try.prog T 126 sp126 := by
  refine fn_ok (E := E126) hE (call_cons ok203 call_nil) hM Try.func126 (code := (Try.f126.body.getD .skip)) (by kernel_rfl) (by kernel_rfl) ?_
  have key : ∀ (a0 : Row), Pu.laws_toFetchS.c a0 = true → ∃ it : It Res, (∀ c ∈ loopsOf (Try.f126.body.getD .skip), LoopOk E126 it c) ∧ body E126 it Try.f126 [(.v false [(.sh 210 a0)])] = some ⟨[(.v false [(.ow 126 true (Pu.laws_toFetchS.v a0))])], []⟩ := by
    intro a0  h1
    obtain ⟨N, hN⟩ := Pu.laws_toFetchS.b_eq (R := Res) (fun r0 => some ⟨[(.v false [(.ow 126 true r0)])], []⟩) a0 h1
    have hl : loopsOf (Try.f126.body.getD .skip) = [loopOf Try.f126 3] := by kernel_rfl
    refine ⟨it126 N, by rw [hl]; exact (loops_cons (lo126_3 N) loops_nil), ?_⟩
    refine Eq.trans (show body E126 (it126 N) Try.f126 [(.v false [(.sh 210 a0)])] = Pu.laws_toFetchS.b N (fun r0 => some ⟨[(.v false [(.ow 126 true r0)])], []⟩) a0 by kernel_rfl) hN
  intro args r h
  unfold sp126 at h
  split at h
  · injection h with h
    injection h with h1 h2
    subst h2
    exact ⟨by kernel_rfl, fun hf => ⟨of_decide_eq_true (by kernel_rfl), key _ h1⟩⟩
  · cases h

end Go.FG.Se

namespace Go.FG.Se
open Go.Proofs
def E204 : Env := { toTab := T, call := Go.FG.callIn [], mode := Go.FG.modeIn md, keep := Go.FG.keepIn [], tk := fun n => Go.FG.memB n [], om := Go.FG.omIn [] }
def sp204 : List Arg → Option (Bool × Res)
  | [(.v true [(.i .i64 a0_0), (.s a0_1), (.i .i64 a0_2), (.i .i64 a0_3), (.i .i64 a0_4), (.s a0_5), (.i .i64 a0_6)])] => some (true, ⟨[(.v true [(.i .i64 ((Pu.laws_toClient.v a0_0 a0_1 a0_2 a0_3 a0_4 a0_5 a0_6).1)), (.s ((Pu.laws_toClient.v a0_0 a0_1 a0_2 a0_3 a0_4 a0_5 a0_6).2.1)), (.i .i64 ((Pu.laws_toClient.v a0_0 a0_1 a0_2 a0_3 a0_4 a0_5 a0_6).2.2.1)), (.i .i64 ((Pu.laws_toClient.v a0_0 a0_1 a0_2 a0_3 a0_4 a0_5 a0_6).2.2.2.1)), (.i .i64 ((Pu.laws_toClient.v a0_0 a0_1 a0_2 a0_3 a0_4 a0_5 a0_6).2.2.2.2.1)), (.s ((Pu.laws_toClient.v a0_0 a0_1 a0_2 a0_3 a0_4 a0_5 a0_6).2.2.2.2.2.1)), (.i .i64 ((Pu.laws_toClient.v a0_0 a0_1 a0_2 a0_3 a0_4 a0_5 a0_6).2.2.2.2.2.2))])], []⟩)
  | _ => none
theorem ok204 : FnOk Try.prog T 204 sp204 := by
  refine fn_ok (E := E204) hE call_nil hM Try.func204 (code := (Try.f204.body.getD .skip)) (by kernel_rfl) (by kernel_rfl) ?_
  have key : ∀ (a0_0 : Int) (a0_1 : ByteArray) (a0_2 : Int) (a0_3 : Int) (a0_4 : Int) (a0_5 : ByteArray) (a0_6 : Int), ∃ it : It Res, (∀ c ∈ loopsOf (Try.f204.body.getD .skip), LoopOk E204 it c) ∧ body E204 it Try.f204 [(.v true [(.i .i64 a0_0), (.s a0_1), (.i .i64 a0_2), (.i .i64 a0_3), (.i .i64 a0_4), (.s a0_5), (.i .i64 a0_6)])] = some ⟨[(.v true [(.i .i64 ((Pu.laws_toClient.v a0_0 a0_1 a0_2 a0_3 a0_4 a0_5 a0_6).1)), (.s ((Pu.laws_toClient.v a0_0 a0_1 a0_2 a0_3 a0_4 a0_5 a0_6).2.1)), (.i .i64 ((Pu.laws_toClient.v a0_0 a0_1 a0_2 a0_3 a0_4 a0_5 a0_6).2.2.1)), (.i .i64 ((Pu.laws_toClient.v a0_0 a0_1 a0_2 a0_3 a0_4 a0_5 a0_6).2.2.2.1)), (.i .i64 ((Pu.laws_toClient.v a0_0 a0_1 a0_2 a0_3 a0_4 a0_5 a0_6).2.2.2.2.1)), (.s ((Pu.laws_toClient.v a0_0 a0_1 a0_2 a0_3 a0_4 a0_5 a0_6).2.2.2.2.2.1)), (.i .i64 ((Pu.laws_toClient.v a0_0 a0_1 a0_2 a0_3 a0_4 a0_5 a0_6).2.2.2.2.2.2))])], []⟩ := by
    intro a0_0 a0_1 a0_2 a0_3 a0_4 a0_5 a0_6 
    have hN := Pu.laws_toClient.b_eq (R := Res) (fun r0 r1 r2 r3 r4 r5 r6 => some ⟨[(.v true [(.i .i64 r0), (.s r1), (.i .i64 r2), (.i .i64 r3), (.i .i64 r4), (.s r5), (.i .i64 r6)])], []⟩) a0_0 a0_1 a0_2 a0_3 a0_4 a0_5 a0_6
    have hl : loopsOf (Try.f204.body.getD .skip) = [] := by kernel_rfl
    refine ⟨iterN 0, by rw [hl]; exact loops_nil, ?_⟩
    refine Eq.trans (show body E204 (iterN 0) Try.f204 [(.v true [(.i .i64 a0_0), (.s a0_1), (.i .i64 a0_2), (.i .i64 a0_3), (.i .i64 a0_4), (.s a0_5), (.i .i64 a0_6)])] = Pu.laws_toClient.b (fun r0 r1 r2 r3 r4 r5 r6 => some ⟨[(.v true [(.i .i64 r0), (.s r1), (.i .i64 r2), (.i .i64 r3), (.i .i64 r4), (.s r5), (.i .i64 r6)])], []⟩) a0_0 a0_1 a0_2 a0_3 a0_4 a0_5 a0_6 by kernel_rfl) hN
  intro args r h
  unfold sp204 at h
  split at h
  · injection h with h
    injection h with h1 h2
    subst h2
    exact ⟨by kernel_rfl, fun hf => ⟨of_decide_eq_true (by kernel_rfl), key _ _ _ _ _ _ _⟩⟩
  · cases h

end Go.FG.Se

namespace Go.FG.Se
open Go.Proofs
def T127_0 (p0 : Row) (p1 : Int) (p2 : Row) : List (Nat × Cel) := [(0, (.v (.v false [(.sh 212 p0)]))), (6, (.v (.v false [(.own 0)]))), (8, (.v (.v false [(.i .i64 p1)]))), (1, (.o (.row 62 true p2)))]
def E127 : Env := { toTab := T, call := Go.FG.callIn [(204, sp204)], mode := Go.FG.modeIn md, keep := Go.FG.keepIn [(3, [0, 3, 4])], tk := fun n => Go.FG.memB n [], om := Go.FG.omIn [] }
def it127 (N : Nat) {R : Type} : It R := fun rid f cn L K => bif Nat.beq rid 3 then (tell [(0, (.v (.v false [(.sh 212 [])]))), (6, (.v (.v false [(.own 0)]))), (8, (.v (.v false [(.i .i64 0)]))), (1, (.o (.row 62 true [])))] (fun | [.R x0, .I x1, .R x2] => Pu.laws_toClientS.l3 N (fun y0 y1 y2 => (K (.exit 0) (tabl (T127_0 y0 y1 y2)))) N x0 x1 x2 | _ => none) L (none)) else none
theorem e127_3 {R : Type} (N : Nat) (K : Ex → St → Option R) : ∀ n : Nat, (∀ x0 x1 x2, iter (exc E127 (it127 N) (loopOf Try.f127 3)) (canon (E127.keep 3))  n (tabl (T127_0 x0 x1 x2)) K = Pu.laws_toClientS.l3 N (fun y0 y1 y2 => (K (.exit 0) (tabl (T127_0 y0 y1 y2)))) n x0 x1 x2) := by
  intro n
  induction n with
  | zero => exact (fun _ _ _ => rfl)
  | succ n ih =>
    have e0 : (fun x0 x1 x2 => iter (exc E127 (it127 N) (loopOf Try.f127 3)) (canon (E127.keep 3))  n (tabl (T127_0 x0 x1 x2)) K) = Pu.laws_toClientS.l3 N (fun y0 y1 y2 => (K (.exit 0) (tabl (T127_0 y0 y1 y2)))) n := by funext x0 x1 x2; exact ih x0 x1 x2
    intro x0 x1 x2
    have h : ∀ g, exc E127 (it127 N) (loopOf Try.f127 3) (tabl (T127_0 x0 x1 x2)) (iterK g (canon (E127.keep 3)) K) = Pu.laws_toClientS.r3 N (fun x0 x1 x2 => (g (tabl (T127_0 x0 x1 x2)))) (fun y0 y1 y2 => (K (.exit 0) (tabl (T127_0 y0 y1 y2)))) x0 x1 x2 := by intro g; kernel_rfl
    refine (iter_succ _ _ n _ K).trans ((h _).trans ?_)
    show Pu.laws_toClientS.r3 N (fun x0 x1 x2 => (iter (exc E127 (it127 N) (loopOf Try.f127 3)) (canon (E127.keep 3))  n (tabl (T127_0 x0 x1 x2)) K)) (fun y0 y1 y2 => (K (.exit 0) (tabl (T127_0 y0 y1 y2)))) x0 x1 x2 = _
    rw [e0]; rfl
theorem lo127_3 {R : Type} (N : Nat) : LoopOk E127 (it127 N (R := R)) (loopOf Try.f127 3) := by
  have e : firstRid (loopOf Try.f127 3) = 3 := by kernel_rfl
  intro L K r
  rw [e]
  intro h
  unfold it127 at h
  simp only [show Nat.beq 3 3 = true from rfl, cond_false, cond_true] at h
  refine tell_ok (Q := fun L => ∃ n, iter (exc E127 (it127 N) (loopOf Try.f127 3)) (canon (E127.keep 3)) n (tabl L) K = some r) h (fun xs h => ?_) (fun h => ?_)
  · (try dsimp only at h)
    split at h
    · exact ⟨N, ((e127_3 N K N) _ _ _).trans h⟩
    · cases h
  cases h
def sp127 : List Arg → Option (Bool × Res)
  | [(.v false [(.sh 212 a0)])] => some (Pu.laws_toClientS.c a0, ⟨[(.v false [(.ow 62 true (Pu.laws_toClientS.v a0))])], []⟩)
  | _ => none
theorem ok127 : FnOk Try.prog T 127 sp127 := by
  refine fn_ok (E := E127) hE (call_cons ok204 call_nil) hM Try.func127 (code := (Try.f127.body.getD .skip)) (by kernel_rfl) (by kernel_rfl) ?_
  have key : ∀ (a0 : Row), Pu.laws_toClientS.c a0 = true → ∃ it : It Res, (∀ c ∈ loopsOf (Try.f127.body.getD .skip), LoopOk E127 it c) ∧ body E127 it Try.f127 [(.v false [(.sh 212 a0)])] = some ⟨[(.v false [(.ow 62 true (Pu.laws_toClientS.v a0))])], []⟩ := by
    intro a0  h1
    obtain ⟨N, hN⟩ := Pu.laws_toClientS.b_eq (R := Res) (fun r0 => some ⟨[(.v false [(.ow 62 true r0)])], []⟩) a0 h1
    have hl : loopsOf (Try.f127.body.getD .skip) = [loopOf Try.f127 3] := by kernel_rfl
    refine ⟨it127 N, by rw [hl]; exact (loops_cons (lo127_3 N) loops_nil), ?_⟩
    refine Eq.trans (show body E127 (it127 N) Try.f127 [(.v false [(.sh 212 a0)])] = Pu.laws_toClientS.b N (fun r0 => some ⟨[(.v false [(.ow 62 true r0)])], []⟩) a0 by kernel_rfl) hN
  intro args r h
  unfold sp127 at h
  split at h
  · injection h with h
    injection h with h1 h2
    subst h2
    exact ⟨by kernel_rfl, fun hf => ⟨of_decide_eq_true (by kernel_rfl), key _ h1⟩⟩
  · cases h

end Go.FG.Se

namespace Go.FG.Se
open Go.Proofs
def E40 : Env := { toTab := T, call := Go.FG.callIn [(125, sp125), (33, sp33), (126, sp126), (127, sp127)], mode := Go.FG.modeIn md, keep := Go.FG.keepIn [], tk := fun n => Go.FG.memB n [], om := Go.FG.omIn [] }
def sp40 : List Arg → Option (Bool × Res)
  | [(.v true [(.i .i64 a0_0), (.sh 208 a0_1), (.sh 9 a0_2), (.sh 9 a0_3), (.sh 30 a0_4), (.i .i64 a0_5), (.sh 210 a0_6), (.sh 212 a0_7), (.i .i64 a0_8)])] => some (Pu.laws_toProxy.c a0_0 a0_1 a0_2 a0_3 a0_4 a0_5 a0_6 a0_7 a0_8, ⟨[(.v true [(.i .i64 ((Pu.laws_toProxy.v a0_0 a0_1 a0_2 a0_3 a0_4 a0_5 a0_6 a0_7 a0_8).1)), (.ow 86 true ((Pu.laws_toProxy.v a0_0 a0_1 a0_2 a0_3 a0_4 a0_5 a0_6 a0_7 a0_8).2.1)), (.ow 9 true ((Pu.laws_toProxy.v a0_0 a0_1 a0_2 a0_3 a0_4 a0_5 a0_6 a0_7 a0_8).2.2.1)), (.ow 9 true ((Pu.laws_toProxy.v a0_0 a0_1 a0_2 a0_3 a0_4 a0_5 a0_6 a0_7 a0_8).2.2.2.1)), (.ow 30 true ((Pu.laws_toProxy.v a0_0 a0_1 a0_2 a0_3 a0_4 a0_5 a0_6 a0_7 a0_8).2.2.2.2.1)), (.i .i64 ((Pu.laws_toProxy.v a0_0 a0_1 a0_2 a0_3 a0_4 a0_5 a0_6 a0_7 a0_8).2.2.2.2.2.1)), (.ow 126 true ((Pu.laws_toProxy.v a0_0 a0_1 a0_2 a0_3 a0_4 a0_5 a0_6 a0_7 a0_8).2.2.2.2.2.2.1)), (.ow 62 true ((Pu.laws_toProxy.v a0_0 a0_1 a0_2 a0_3 a0_4 a0_5 a0_6 a0_7 a0_8).2.2.2.2.2.2.2.1)), (.i .i64 ((Pu.laws_toProxy.v a0_0 a0_1 a0_2 a0_3 a0_4 a0_5 a0_6 a0_7 a0_8).2.2.2.2.2.2.2.2))])], []⟩)
  | _ => none
theorem ok40 : FnOk Try.prog T 40 sp40 := by
  refine fn_ok (E := E40) hE (call_cons ok125 (call_cons ok33 (call_cons ok126 (call_cons ok127 call_nil)))) hM Try.func40 (code := (Try.f40.body.getD .skip)) (by kernel_rfl) (by kernel_rfl) ?_
  have key : ∀ (a0_0 : Int) (a0_1 : Row) (a0_2 : Row) (a0_3 : Row) (a0_4 : Row) (a0_5 : Int) (a0_6 : Row) (a0_7 : Row) (a0_8 : Int), Pu.laws_toProxy.c a0_0 a0_1 a0_2 a0_3 a0_4 a0_5 a0_6 a0_7 a0_8 = true → ∃ it : It Res, (∀ c ∈ loopsOf (Try.f40.body.getD .skip), LoopOk E40 it c) ∧ body E40 it Try.f40 [(.v true [(.i .i64 a0_0), (.sh 208 a0_1), (.sh 9 a0_2), (.sh 9 a0_3), (.sh 30 a0_4), (.i .i64 a0_5), (.sh 210 a0_6), (.sh 212 a0_7), (.i .i64 a0_8)])] = some ⟨[(.v true [(.i .i64 ((Pu.laws_toProxy.v a0_0 a0_1 a0_2 a0_3 a0_4 a0_5 a0_6 a0_7 a0_8).1)), (.ow 86 true ((Pu.laws_toProxy.v a0_0 a0_1 a0_2 a0_3 a0_4 a0_5 a0_6 a0_7 a0_8).2.1)), (.ow 9 true ((Pu.laws_toProxy.v a0_0 a0_1 a0_2 a0_3 a0_4 a0_5 a0_6 a0_7 a0_8).2.2.1)), (.ow 9 true ((Pu.laws_toProxy.v a0_0 a0_1 a0_2 a0_3 a0_4 a0_5 a0_6 a0_7 a0_8).2.2.2.1)), (.ow 30 true ((Pu.laws_toProxy.v a0_0 a0_1 a0_2 a0_3 a0_4 a0_5 a0_6 a0_7 a0_8).2.2.2.2.1)), (.i .i64 ((Pu.laws_toProxy.v a0_0 a0_1 a0_2 a0_3 a0_4 a0_5 a0_6 a0_7 a0_8).2.2.2.2.2.1)), (.ow 126 true ((Pu.laws_toProxy.v a0_0 a0_1 a0_2 a0_3 a0_4 a0_5 a0_6 a0_7 a0_8).2.2.2.2.2.2.1)), (.ow 62 true ((Pu.laws_toProxy.v a0_0 a0_1 a0_2 a0_3 a0_4 a0_5 a0_6 a0_7 a0_8).2.2.2.2.2.2.2.1)), (.i .i64 ((Pu.laws_toProxy.v a0_0 a0_1 a0_2 a0_3 a0_4 a0_5 a0_6 a0_7 a0_8).2.2.2.2.2.2.2.2))])], []⟩ := by
    intro a0_0 a0_1 a0_2 a0_3 a0_4 a0_5 a0_6 a0_7 a0_8  h1
    have hN := Pu.laws_toProxy.b_eq (R := Res) (fun r0 r1 r2 r3 r4 r5 r6 r7 r8 => some ⟨[(.v true [(.i .i64 r0), (.ow 86 true r1), (.ow 9 true r2), (.ow 9 true r3), (.ow 30 true r4), (.i .i64 r5), (.ow 126 true r6), (.ow 62 true r7), (.i .i64 r8)])], []⟩) a0_0 a0_1 a0_2 a0_3 a0_4 a0_5 a0_6 a0_7 a0_8 h1
    have hl : loopsOf (Try.f40.body.getD .skip) = [] := by kernel_rfl
    refine ⟨iterN 0, by rw [hl]; exact loops_nil, ?_⟩
    refine Eq.trans (show body E40 (iterN 0) Try.f40 [(.v true [(.i .i64 a0_0), (.sh 208 a0_1), (.sh 9 a0_2), (.sh 9 a0_3), (.sh 30 a0_4), (.i .i64 a0_5), (.sh 210 a0_6), (.sh 212 a0_7), (.i .i64 a0_8)])] = Pu.laws_toProxy.b (fun r0 r1 r2 r3 r4 r5 r6 r7 r8 => some ⟨[(.v true [(.i .i64 r0), (.ow 86 true r1), (.ow 9 true r2), (.ow 9 true r3), (.ow 30 true r4), (.i .i64 r5), (.ow 126 true r6), (.ow 62 true r7), (.i .i64 r8)])], []⟩) a0_0 a0_1 a0_2 a0_3 a0_4 a0_5 a0_6 a0_7 a0_8 by kernel_rfl) hN
  intro args r h
  unfold sp40 at h
  split at h
  · injection h with h
    injection h with h1 h2
    subst h2
    exact ⟨by kernel_rfl, fun hf => ⟨of_decide_eq_true (by kernel_rfl), key _ _ _ _ _ _ _ _ _ h1⟩⟩
  · cases h

end Go.FG.Se

namespace Go.FG.Se
open Go.Proofs
def T186_0 (p0 : Int) (p1 : Row) (p2 : Int) (p3 : Int) (p4 : Int) : List (Nat × Cel) := [(2, (.v (.v false [(.bp 0 0)]))), (4, (.v (.v false [(.bp 1 0)]))), (6, (.v (.v false [(.bp 2 0)]))), (8, (.v (.v false [(.i .i64 p0)]))), (1, (.o (.box [(.sh 30 p1), (.i .i64 p2)]))), (3, (.o (.box [.nl, (.i .i64 p3)]))), (5, (.o (.box [.nl, (.i .i64 p4)])))]
def T186_1 (p0 : Int) (p1 : Row) (p2 : Int) (p3 : Int) (p4 : Int) (p5 : Row) : List (Nat × Cel) := [(2, (.v (.v false [(.bp 0 0)]))), (4, (.v (.v false [(.bp 1 0)]))), (6, (.v (.v false [(.bp 2 0)]))), (8, (.v (.v false [(.i .i64 p0)]))), (1, (.o (.box [(.sh 30 p1), (.i .i64 p2)]))), (3, (.o (.box [.nl, (.i .i64 p3)]))), (5, (.o (.box [(.own 3), (.i .i64 p4)]))), (7, (.o (.row 30 true p5)))]
def E186 : Env := { toTab := T, call := Go.FG.callIn [], mode := Go.FG.modeIn md, keep := Go.FG.keepIn [(3, [1, 2, 3, 4])], tk := fun n => Go.FG.memB n [], om := Go.FG.omIn [] }
def it186 (N : Nat) {R : Type} : It R := fun rid f cn L K => bif Nat.beq rid 3 then (tell [(2, (.v (.v false [(.bp 0 0)]))), (4, (.v (.v false [(.bp 1 0)]))), (6, (.v (.v false [(.bp 2 0)]))), (8, (.v (.v false [(.i .i64 0)]))), (1, (.o (.box [(.sh 30 []), (.i .i64 0)]))), (3, (.o (.box [.nl, (.i .i64 0)]))), (5, (.o (.box [.nl, (.i .i64 0)])))] (fun | [.I x0, .R x1, .I x2, .I x3, .I x4] => Pu.spec_l12Copy.l3 N (fun y0 y1 y2 y3 y4 => (K (.exit 0) (tabl (T186_0 y0 y1 y2 y3 y4)))) (fun y0 y1 y2 y3 y4 y5 => (K (.exit 0) (tabl (T186_1 y0 y1 y2 y3 y4 y5)))) N x0 x1 x2 x3 x4 | _ => none) L (tell [(2, (.v (.v false [(.bp 0 0)]))), (4, (.v (.v false [(.bp 1 0)]))), (6, (.v (.v false [(.bp 2 0)]))), (8, (.v (.v false [(.i .i64 0)]))), (1, (.o (.box [(.sh 30 []), (.i .i64 0)]))), (3, (.o (.box [.nl, (.i .i64 0)]))), (5, (.o (.box [(.own 3), (.i .i64 0)]))), (7, (.o (.row 30 true [])))] (fun | [.I x5, .R x6, .I x7, .I x8, .I x9, .R x10] => Pu.spec_l12Copy.l3a N (fun y0 y1 y2 y3 y4 => (K (.exit 0) (tabl (T186_0 y0 y1 y2 y3 y4)))) (fun y0 y1 y2 y3 y4 y5 => (K (.exit 0) (tabl (T186_1 y0 y1 y2 y3 y4 y5)))) N x5 x6 x7 x8 x9 x10 | _ => none) L (none))) else none
theorem e186_3 {R : Type} (N : Nat) (K : Ex → St → Option R) : ∀ n : Nat, (∀ x0 x1 x2 x3 x4, iter (exc E186 (it186 N) (loopOf Try.f186 3)) (canon (E186.keep 3))  n (tabl (T186_0 x0 x1 x2 x3 x4)) K = Pu.spec_l12Copy.l3 N (fun y0 y1 y2 y3 y4 => (K (.exit 0) (tabl (T186_0 y0 y1 y2 y3 y4)))) (fun y0 y1 y2 y3 y4 y5 => (K (.exit 0) (tabl (T186_1 y0 y1 y2 y3 y4 y5)))) n x0 x1 x2 x3 x4) ∧ (∀ x5 x6 x7 x8 x9 x10, iter (exc E186 (it186 N) (loopOf Try.f186 3)) (canon (E186.keep 3))  n (tabl (T186_1 x5 x6 x7 x8 x9 x10)) K = Pu.spec_l12Copy.l3a N (fun y0 y1 y2 y3 y4 => (K (.exit 0) (tabl (T186_0 y0 y1 y2 y3 y4)))) (fun y0 y1 y2 y3 y4 y5 => (K (.exit 0) (tabl (T186_1 y0 y1 y2 y3 y4 y5)))) n x5 x6 x7 x8 x9 x10) := by
  intro n
  induction n with
  | zero => exact ⟨(fun _ _ _ _ _ => rfl), (fun _ _ _ _ _ _ => rfl)⟩
  | succ n ih =>
    have e0 : (fun x0 x1 x2 x3 x4 => iter (exc E186 (it186 N) (loopOf Try.f186 3)) (canon (E186.keep 3))  n (tabl (T186_0 x0 x1 x2 x3 x4)) K) = Pu.spec_l12Copy.l3 N (fun y0 y1 y2 y3 y4 => (K (.exit 0) (tabl (T186_0 y0 y1 y2 y3 y4)))) (fun y0 y1 y2 y3 y4 y5 => (K (.exit 0) (tabl (T186_1 y0 y1 y2 y3 y4 y5)))) n := by funext x0 x1 x2 x3 x4; exact ih.1 x0 x1 x2 x3 x4
    have e1 : (fun x5 x6 x7 x8 x9 x10 => iter (exc E186 (it186 N) (loopOf Try.f186 3)) (canon (E186.keep 3))  n (tabl (T186_1 x5 x6 x7 x8 x9 x10)) K) = Pu.spec_l12Copy.l3a N (fun y0 y1 y2 y3 y4 => (K (.exit 0) (tabl (T186_0 y0 y1 y2 y3 y4)))) (fun y0 y1 y2 y3 y4 y5 => (K (.exit 0) (tabl (T186_1 y0 y1 y2 y3 y4 y5)))) n := by funext x5 x6 x7 x8 x9 x10; exact ih.2 x5 x6 x7 x8 x9 x10
    refine ⟨?_, ?_⟩
    · intro x0 x1 x2 x3 x4
      have h : ∀ g, exc E186 (it186 N) (loopOf Try.f186 3) (tabl (T186_0 x0 x1 x2 x3 x4)) (iterK g (canon (E186.keep 3)) K) = Pu.spec_l12Copy.r3 N (fun x0 x1 x2 x3 x4 => (g (tabl (T186_0 x0 x1 x2 x3 x4)))) (fun x5 x6 x7 x8 x9 x10 => (g (tabl (T186_1 x5 x6 x7 x8 x9 x10)))) (fun y0 y1 y2 y3 y4 => (K (.exit 0) (tabl (T186_0 y0 y1 y2 y3 y4)))) (fun y0 y1 y2 y3 y4 y5 => (K (.exit 0) (tabl (T186_1 y0 y1 y2 y3 y4 y5)))) x0 x1 x2 x3 x4 := by intro g; kernel_rfl
      refine (iter_succ _ _ n _ K).trans ((h _).trans ?_)
      show Pu.spec_l12Copy.r3 N (fun x0 x1 x2 x3 x4 => (iter (exc E186 (it186 N) (loopOf Try.f186 3)) (canon (E186.keep 3))  n (tabl (T186_0 x0 x1 x2 x3 x4)) K)) (fun x5 x6 x7 x8 x9 x10 => (iter (exc E186 (it186 N) (loopOf Try.f186 3)) (canon (E186.keep 3))  n (tabl (T186_1 x5 x6 x7 x8 x9 x10)) K)) (fun y0 y1 y2 y3 y4 => (K (.exit 0) (tabl (T186_0 y0 y1 y2 y3 y4)))) (fun y0 y1 y2 y3 y4 y5 => (K (.exit 0) (tabl (T186_1 y0 y1 y2 y3 y4 y5)))) x0 x1 x2 x3 x4 = _
      rw [e0, e1]; rfl
    · intro x5 x6 x7 x8 x9 x10
      have h : ∀ g, exc E186 (it186 N) (loopOf Try.f186 3) (tabl (T186_1 x5 x6 x7 x8 x9 x10)) (iterK g (canon (E186.keep 3)) K) = Pu.spec_l12Copy.r3a N (fun x0 x1 x2 x3 x4 => (g (tabl (T186_0 x0 x1 x2 x3 x4)))) (fun x5 x6 x7 x8 x9 x10 => (g (tabl (T186_1 x5 x6 x7 x8 x9 x10)))) (fun y0 y1 y2 y3 y4 => (K (.exit 0) (tabl (T186_0 y0 y1 y2 y3 y4)))) (fun y0 y1 y2 y3 y4 y5 => (K (.exit 0) (tabl (T186_1 y0 y1 y2 y3 y4 y5)))) x5 x6 x7 x8 x9 x10 := by intro g; kernel_rfl
      refine (iter_succ _ _ n _ K).trans ((h _).trans ?_)
      show Pu.spec_l12Copy.r3a N (fun x0 x1 x2 x3 x4 => (iter (exc E186 (it186 N) (loopOf Try.f186 3)) (canon (E186.keep 3))  n (tabl (T186_0 x0 x1 x2 x3 x4)) K)) (fun x5 x6 x7 x8 x9 x10 => (iter (exc E186 (it186 N) (loopOf Try.f186 3)) (canon (E186.keep 3))  n (tabl (T186_1 x5 x6 x7 x8 x9 x10)) K)) (fun y0 y1 y2 y3 y4 => (K (.exit 0) (tabl (T186_0 y0 y1 y2 y3 y4)))) (fun y0 y1 y2 y3 y4 y5 => (K (.exit 0) (tabl (T186_1 y0 y1 y2 y3 y4 y5)))) x5 x6 x7 x8 x9 x10 = _
      rw [e0, e1]; rfl
theorem lo186_3 {R : Type} (N : Nat) : LoopOk E186 (it186 N (R := R)) (loopOf Try.f186 3) := by
  have e : firstRid (loopOf Try.f186 3) = 3 := by kernel_rfl
  intro L K r
  rw [e]
  intro h
  unfold it186 at h
  simp only [show Nat.beq 3 3 = true from rfl, cond_false, cond_true] at h
  refine tell_ok (Q := fun L => ∃ n, iter (exc E186 (it186 N) (loopOf Try.f186 3)) (canon (E186.keep 3)) n (tabl L) K = some r) h (fun xs h => ?_) (fun h => ?_)
  · (try dsimp only at h)
    split at h
    · exact ⟨N, ((e186_3 N K N).1 _ _ _ _ _).trans h⟩
    · cases h
  refine tell_ok (Q := fun L => ∃ n, iter (exc E186 (it186 N) (loopOf Try.f186 3)) (canon (E186.keep 3)) n (tabl L) K = some r) h (fun xs h => ?_) (fun h => ?_)
  · (try dsimp only at h)
    split at h
    · exact ⟨N, ((e186_3 N K N).2 _ _ _ _ _ _).trans h⟩
    · cases h
  cases h
def sp186 : List Arg → Option (Bool × Res)
  | [(.v true [(.sh 30 s0_0), (.i .i64 s0_1)])] => some (Pu.spec_l12Copy.c s0_0 s0_1, ⟨[(.v true [(.ow 30 true ((Pu.spec_l12Copy.v s0_0 s0_1).1)), (.i .i64 ((Pu.spec_l12Copy.v s0_0 s0_1).2))])], []⟩)
  | _ => none
theorem ok186 : FnOk Try.prog T 186 sp186 := by
  refine fn_ok (E := E186) hE call_nil hM Try.func186 (code := (Try.f186.body.getD .skip)) (by kernel_rfl) (by kernel_rfl) ?_
  have key : ∀ (s0_0 : Row) (s0_1 : Int), Pu.spec_l12Copy.c s0_0 s0_1 = true → ∃ it : It Res, (∀ c ∈ loopsOf (Try.f186.body.getD .skip), LoopOk E186 it c) ∧ body E186 it Try.f186 [(.v true [(.sh 30 s0_0), (.i .i64 s0_1)])] = some ⟨[(.v true [(.ow 30 true ((Pu.spec_l12Copy.v s0_0 s0_1).1)), (.i .i64 ((Pu.spec_l12Copy.v s0_0 s0_1).2))])], []⟩ := by
    intro s0_0 s0_1  h1
    obtain ⟨N, hN⟩ := Pu.spec_l12Copy.b_eq (R := Res) (fun r0 r1 => some ⟨[(.v true [(.ow 30 true r0), (.i .i64 r1)])], []⟩) s0_0 s0_1 h1
    have hl : loopsOf (Try.f186.body.getD .skip) = [loopOf Try.f186 3] := by kernel_rfl
    refine ⟨it186 N, by rw [hl]; exact (loops_cons (lo186_3 N) loops_nil), ?_⟩
    refine Eq.trans (show body E186 (it186 N) Try.f186 [(.v true [(.sh 30 s0_0), (.i .i64 s0_1)])] = Pu.spec_l12Copy.b N (fun r0 r1 => some ⟨[(.v true [(.ow 30 true r0), (.i .i64 r1)])], []⟩) s0_0 s0_1 by kernel_rfl) hN
  intro args r h
  unfold sp186 at h
  split at h
  · injection h with h
    injection h with h1 h2
    subst h2
    exact ⟨by kernel_rfl, fun hf => ⟨of_decide_eq_true (by kernel_rfl), key _ _ h1⟩⟩
  · cases h

end Go.FG.Se

namespace Go.FG.Se
open Go.Proofs
def E99 : Env := { toTab := T, call := Go.FG.callIn [(186, sp186)], mode := Go.FG.modeIn md, keep := Go.FG.keepIn [], tk := fun n => Go.FG.memB n [], om := Go.FG.omIn [] }
def sp99 : List Arg → Option (Bool × Res)
  | [(.v true [(.sh 9 p0_0), (.sh 9 p0_1), (.sh 30 p0_2), (.i .i64 p0_3)])] => some (Pu.spec_l13Copy.c p0_0 p0_1 p0_2 p0_3, ⟨[(.v true [(.ow 9 true ((Pu.spec_l13Copy.v p0_0 p0_1 p0_2 p0_3).1)), (.ow 9 true ((Pu.spec_l13Copy.v p0_0 p0_1 p0_2 p0_3).2.1)), (.ow 30 true ((Pu.spec_l13Copy.v p0_0 p0_1 p0_2 p0_3).2.2.1)), (.i .i64 ((Pu.spec_l13Copy.v p0_0 p0_1 p0_2 p0_3).2.2.2))])], []⟩)
  | _ => none
theorem ok99 : FnOk Try.prog T 99 sp99 := by
  refine fn_ok (E := E99) hE (call_cons ok186 call_nil) hM Try.func99 (code := (Try.f99.body.getD .skip)) (by kernel_rfl) (by kernel_rfl) ?_
  have key : ∀ (p0_0 : Row) (p0_1 : Row) (p0_2 : Row) (p0_3 : Int), Pu.spec_l13Copy.c p0_0 p0_1 p0_2 p0_3 = true → ∃ it : It Res, (∀ c ∈ loopsOf (Try.f99.body.getD .skip), LoopOk E99 it c) ∧ body E99 it Try.f99 [(.v true [(.sh 9 p0_0), (.sh 9 p0_1), (.sh 30 p0_2), (.i .i64 p0_3)])] = some ⟨[(.v true [(.ow 9 true ((Pu.spec_l13Copy.v p0_0 p0_1 p0_2 p0_3).1)), (.ow 9 true ((Pu.spec_l13Copy.v p0_0 p0_1 p0_2 p0_3).2.1)), (.ow 30 true ((Pu.spec_l13Copy.v p0_0 p0_1 p0_2 p0_3).2.2.1)), (.i .i64 ((Pu.spec_l13Copy.v p0_0 p0_1 p0_2 p0_3).2.2.2))])], []⟩ := by
    intro p0_0 p0_1 p0_2 p0_3  h1
    have hN := Pu.spec_l13Copy.b_eq (R := Res) (fun r0 r1 r2 r3 => some ⟨[(.v true [(.ow 9 true r0), (.ow 9 true r1), (.ow 30 true r2), (.i .i64 r3)])], []⟩) p0_0 p0_1 p0_2 p0_3 h1
    have hl : loopsOf (Try.f99.body.getD .skip) = [] := by kernel_rfl
    refine ⟨iterN 0, by rw [hl]; exact loops_nil, ?_⟩
    refine Eq.trans (show body E99 (iterN 0) Try.f99 [(.v true [(.sh 9 p0_0), (.sh 9 p0_1), (.sh 30 p0_2), (.i .i64 p0_3)])] = Pu.spec_l13Copy.b (fun r0 r1 r2 r3 => some ⟨[(.v true [(.ow 9 true r0), (.ow 9 true r1), (.ow 30 true r2), (.i .i64 r3)])], []⟩) p0_0 p0_1 p0_2 p0_3 by kernel_rfl) hN
  intro args r h
  unfold sp99 at h
  split at h
  · injection h with h
    injection h with h1 h2
    subst h2
    exact ⟨by kernel_rfl, fun hf => ⟨of_decide_eq_true (by kernel_rfl), key _ _ _ _ h1⟩⟩
  · cases h

end Go.FG.Se

namespace Go.FG.Se
open Go.Proofs
def E131 : Env := { toTab := T, call := Go.FG.callIn [(99, sp99)], mode := Go.FG.modeIn md, keep := Go.FG.keepIn [], tk := fun n => Go.FG.memB n [], om := Go.FG.omIn [] }
def sp131 : List Arg → Option (Bool × Res)
  | [(.v true [(.i .i64 p0_0), (.sh 86 p0_1), (.sh 9 p0_2), (.sh 9 p0_3), (.sh 30 p0_4), (.i .i64 p0_5), (.sh 126 p0_6), (.sh 62 p0_7), (.i .i64 p0_8)])] => some (Pu.spec_l16Copy.c p0_0 p0_1 p0_2 p0_3 p0_4 p0_5 p0_6 p0_7 p0_8, ⟨[(.v true [(.i .i64 ((Pu.spec_l16Copy.v p0_0 p0_1 p0_2 p0_3 p0_4 p0_5 p0_6 p0_7 p0_8).1)), (.ow 86 true ((Pu.spec_l16Copy.v p0_0 p0_1 p0_2 p0_3 p0_4 p0_5 p0_6 p0_7 p0_8).2.1)), (.ow 9 true ((Pu.spec_l16Copy.v p0_0 p0_1 p0_2 p0_3 p0_4 p0_5 p0_6 p0_7 p0_8).2.2.1)), (.ow 9 true ((Pu.spec_l16Copy.v p0_0 p0_1 p0_2 p0_3 p0_4 p0_5 p0_6 p0_7 p0_8).2.2.2.1)), (.ow 30 true ((Pu.spec_l16Copy.v p0_0 p0_1 p0_2 p0_3 p0_4 p0_5 p0_6 p0_7 p0_8).2.2.2.2.1)), (.i .i64 ((Pu.spec_l16Copy.v p0_0 p0_1 p0_2 p0_3 p0_4 p0_5 p0_6 p0_7 p0_8).2.2.2.2.2.1)), (.ow 126 true ((Pu.spec_l16Copy.v p0_0 p0_1 p0_2 p0_3 p0_4 p0_5 p0_6 p0_7 p0_8).2.2.2.2.2.2.1)), (.ow 62 true ((Pu.spec_l16Copy.v p0_0 p0_1 p0_2 p0_3 p0_4 p0_5 p0_6 p0_7 p0_8).2.2.2.2.2.2.2.1)), (.i .i64 ((Pu.spec_l16Copy.v p0_0 p0_1 p0_2 p0_3 p0_4 p0_5 p0_6 p0_7 p0_8).2.2.2.2.2.2.2.2))])], []⟩)
  | _ => none
theorem ok131 : FnOk Try.prog T 131 sp131 := by
  refine fn_ok (E := E131) hE (call_cons ok99 call_nil) hM Try.func131 (code := (Try.f131.body.getD .skip)) (by kernel_rfl) (by kernel_rfl) ?_
  have key : ∀ (p0_0 : Int) (p0_1 : Row) (p0_2 : Row) (p0_3 : Row) (p0_4 : Row) (p0_5 : Int) (p0_6 : Row) (p0_7 : Row) (p0_8 : Int), Pu.spec_l16Copy.c p0_0 p0_1 p0_2 p0_3 p0_4 p0_5 p0_6 p0_7 p0_8 = true → ∃ it : It Res, (∀ c ∈ loopsOf (Try.f131.body.getD .skip), LoopOk E131 it c) ∧ body E131 it Try.f131 [(.v true [(.i .i64 p0_0), (.sh 86 p0_1), (.sh 9 p0_2), (.sh 9 p0_3), (.sh 30 p0_4), (.i .i64 p0_5), (.sh 126 p0_6), (.sh 62 p0_7), (.i .i64 p0_8)])] = some ⟨[(.v true [(.i .i64 ((Pu.spec_l16Copy.v p0_0 p0_1 p0_2 p0_3 p0_4 p0_5 p0_6 p0_7 p0_8).1)), (.ow 86 true ((Pu.spec_l16Copy.v p0_0 p0_1 p0_2 p0_3 p0_4 p0_5 p0_6 p0_7 p0_8).2.1)), (.ow 9 true ((Pu.spec_l16Copy.v p0_0 p0_1 p0_2 p0_3 p0_4 p0_5 p0_6 p0_7 p0_8).2.2.1)), (.ow 9 true ((Pu.spec_l16Copy.v p0_0 p0_1 p0_2 p0_3 p0_4 p0_5 p0_6 p0_7 p0_8).2.2.2.1)), (.ow 30 true ((Pu.spec_l16Copy.v p0_0 p0_1 p0_2 p0_3 p0_4 p0_5 p0_6 p0_7 p0_8).2.2.2.2.1)), (.i .i64 ((Pu.spec_l16Copy.v p0_0 p0_1 p0_2 p0_3 p0_4 p0_5 p0_6 p0_7 p0_8).2.2.2.2.2.1)), (.ow 126 true ((Pu.spec_l16Copy.v p0_0 p0_1 p0_2 p0_3 p0_4 p0_5 p0_6 p0_7 p0_8).2.2.2.2.2.2.1)), (.ow 62 true ((Pu.spec_l16Copy.v p0_0 p0_1 p0_2 p0_3 p0_4 p0_5 p0_6 p0_7 p0_8).2.2.2.2.2.2.2.1)), (.i .i64 ((Pu.spec_l16Copy.v p0_0 p0_1 p0_2 p0_3 p0_4 p0_5 p0_6 p0_7 p0_8).2.2.2.2.2.2.2.2))])], []⟩ := by
    intro p0_0 p0_1 p0_2 p0_3 p0_4 p0_5 p0_6 p0_7 p0_8  h1
    have hN := Pu.spec_l16Copy.b_eq (R := Res) (fun r0 r1 r2 r3 r4 r5 r6 r7 r8 => some ⟨[(.v true [(.i .i64 r0), (.ow 86 true r1), (.ow 9 true r2), (.ow 9 true r3), (.ow 30 true r4), (.i .i64 r5), (.ow 126 true r6), (.ow 62 true r7), (.i .i64 r8)])], []⟩) p0_0 p0_1 p0_2 p0_3 p0_4 p0_5 p0_6 p0_7 p0_8 h1
    have hl : loopsOf (Try.f131.body.getD .skip) = [] := by kernel_rfl
    refine ⟨iterN 0, by rw [hl]; exact loops_nil, ?_⟩
    refine Eq.trans (show body E131 (iterN 0) Try.f131 [(.v true [(.i .i64 p0_0), (.sh 86 p0_1), (.sh 9 p0_2), (.sh 9 p0_3), (.sh 30 p0_4), (.i .i64 p0_5), (.sh 126 p0_6), (.sh 62 p0_7), (.i .i64 p0_8)])] = Pu.spec_l16Copy.b (fun r0 r1 r2 r3 r4 r5 r6 r7 r8 => some ⟨[(.v true [(.i .i64 r0), (.ow 86 true r1), (.ow 9 true r2), (.ow 9 true r3), (.ow 30 true r4), (.i .i64 r5), (.ow 126 true r6), (.ow 62 true r7), (.i .i64 r8)])], []⟩) p0_0 p0_1 p0_2 p0_3 p0_4 p0_5 p0_6 p0_7 p0_8 by kernel_rfl) hN
  intro args r h
  unfold sp131 at h
  split at h
  · injection h with h
    injection h with h1 h2
    subst h2
    exact ⟨by kernel_rfl, fun hf => ⟨of_decide_eq_true (by kernel_rfl), key _ _ _ _ _ _ _ _ _ h1⟩⟩
  · cases h

end Go.FG.Se

namespace Go.FG.Se
open Go.Proofs
def E46 : Env := { toTab := T, call := Go.FG.callIn [(131, sp131)], mode := Go.FG.modeIn md, keep := Go.FG.keepIn [], tk := fun n => Go.FG.memB n [], om := Go.FG.omIn [] }
def sp46 : List Arg → Option (Bool × Res)
  | [(.v true [(.i .i64 p0_0), (.sh 86 p0_1), (.sh 9 p0_2), (.sh 9 p0_3), (.sh 30 p0_4), (.i .i64 p0_5), (.sh 126 p0_6), (.sh 62 p0_7), (.i .i64 p0_8)]), (.v false [(.i .i64 n1)])] => some (Pu.spec_PassTime.c p0_0 p0_1 p0_2 p0_3 p0_4 p0_5 p0_6 p0_7 p0_8 n1, ⟨[(.v true [(.i .i64 ((Pu.spec_PassTime.v p0_0 p0_1 p0_2 p0_3 p0_4 p0_5 p0_6 p0_7 p0_8 n1).1)), (.ow 86 true ((Pu.spec_PassTime.v p0_0 p0_1 p0_2 p0_3 p0_4 p0_5 p0_6 p0_7 p0_8 n1).2.1)), (.ow 9 true ((Pu.spec_PassTime.v p0_0 p0_1 p0_2 p0_3 p0_4 p0_5 p0_6 p0_7 p0_8 n1).2.2.1)), (.ow 9 true ((Pu.spec_PassTime.v p0_0 p0_1 p0_2 p0_3 p0_4 p0_5 p0_6 p0_7 p0_8 n1).2.2.2.1)), (.ow 30 true ((Pu.spec_PassTime.v p0_0 p0_1 p0_2 p0_3 p0_4 p0_5 p0_6 p0_7 p0_8 n1).2.2.2.2.1)), (.i .i64 ((Pu.spec_PassTime.v p0_0 p0_1 p0_2 p0_3 p0_4 p0_5 p0_6 p0_7 p0_8 n1).2.2.2.2.2.1)), (.ow 126 true ((Pu.spec_PassTime.v p0_0 p0_1 p0_2 p0_3 p0_4 p0_5 p0_6 p0_7 p0_8 n1).2.2.2.2.2.2.1)), (.ow 62 true ((Pu.spec_PassTime.v p0_0 p0_1 p0_2 p0_3 p0_4 p0_5 p0_6 p0_7 p0_8 n1).2.2.2.2.2.2.2.1)), (.i .i64 ((Pu.spec_PassTime.v p0_0 p0_1 p0_2 p0_3 p0_4 p0_5 p0_6 p0_7 p0_8 n1).2.2.2.2.2.2.2.2))])], []⟩)
  | _ => none
theorem ok46 : FnOk Try.prog T 46 sp46 := by
  refine fn_ok (E := E46) hE (call_cons ok131 call_nil) hM Try.func46 (code := (Try.f46.body.getD .skip)) (by kernel_rfl) (by kernel_rfl) ?_
  have key : ∀ (p0_0 : Int) (p0_1 : Row) (p0_2 : Row) (p0_3 : Row) (p0_4 : Row) (p0_5 : Int) (p0_6 : Row) (p0_7 : Row) (p0_8 : Int) (n1 : Int), Pu.spec_PassTime.c p0_0 p0_1 p0_2 p0_3 p0_4 p0_5 p0_6 p0_7 p0_8 n1 = true → ∃ it : It Res, (∀ c ∈ loopsOf (Try.f46.body.getD .skip), LoopOk E46 it c) ∧ body E46 it Try.f46 [(.v true [(.i .i64 p0_0), (.sh 86 p0_1), (.sh 9 p0_2), (.sh 9 p0_3), (.sh 30 p0_4), (.i .i64 p0_5), (.sh 126 p0_6), (.sh 62 p0_7), (.i .i64 p0_8)]), (.v false [(.i .i64 n1)])] = some ⟨[(.v true [(.i .i64 ((Pu.spec_PassTime.v p0_0 p0_1 p0_2 p0_3 p0_4 p0_5 p0_6 p0_7 p0_8 n1).1)), (.ow 86 true ((Pu.spec_PassTime.v p0_0 p0_1 p0_2 p0_3 p0_4 p0_5 p0_6 p0_7 p0_8 n1).2.1)), (.ow 9 true ((Pu.spec_PassTime.v p0_0 p0_1 p0_2 p0_3 p0_4 p0_5 p0_6 p0_7 p0_8 n1).2.2.1)), (.ow 9 true ((Pu.spec_PassTime.v p0_0 p0_1 p0_2 p0_3 p0_4 p0_5 p0_6 p0_7 p0_8 n1).2.2.2.1)), (.ow 30 true ((Pu.spec_PassTime.v p0_0 p0_1 p0_2 p0_3 p0_4 p0_5 p0_6 p0_7 p0_8 n1).2.2.2.2.1)), (.i .i64 ((Pu.spec_PassTime.v p0_0 p0_1 p0_2 p0_3 p0_4 p0_5 p0_6 p0_7 p0_8 n1).2.2.2.2.2.1)), (.ow 126 true ((Pu.spec_PassTime.v p0_0 p0_1 p0_2 p0_3 p0_4 p0_5 p0_6 p0_7 p0_8 n1).2.2.2.2.2.2.1)), (.ow 62 true ((Pu.spec_PassTime.v p0_0 p0_1 p0_2 p0_3 p0_4 p0_5 p0_6 p0_7 p0_8 n1).2.2.2.2.2.2.2.1)), (.i .i64 ((Pu.spec_PassTime.v p0_0 p0_1 p0_2 p0_3 p0_4 p0_5 p0_6 p0_7 p0_8 n1).2.2.2.2.2.2.2.2))])], []⟩ := by
    intro p0_0 p0_1 p0_2 p0_3 p0_4 p0_5 p0_6 p0_7 p0_8 n1  h1
    have hN := Pu.spec_PassTime.b_eq (R := Res) (fun r0 r1 r2 r3 r4 r5 r6 r7 r8 => some ⟨[(.v true [(.i .i64 r0), (.ow 86 true r1), (.ow 9 true r2), (.ow 9 true r3), (.ow 30 true r4), (.i .i64 r5), (.ow 126 true r6), (.ow 62 true r7), (.i .i64 r8)])], []⟩) p0_0 p0_1 p0_2 p0_3 p0_4 p0_5 p0_6 p0_7 p0_8 n1 h1
    have hl : loopsOf (Try.f46.body.getD .skip) = [] := by kernel_rfl
    refine ⟨iterN 0, by rw [hl]; exact loops_nil, ?_⟩
    refine Eq.trans (show body E46 (iterN 0) Try.f46 [(.v true [(.i .i64 p0_0), (.sh 86 p0_1), (.sh 9 p0_2), (.sh 9 p0_3), (.sh 30 p0_4), (.i .i64 p0_5), (.sh 126 p0_6), (.sh 62 p0_7), (.i .i64 p0_8)]), (.v false [(.i .i64 n1)])] = Pu.spec_PassTime.b (fun r0 r1 r2 r3 r4 r5 r6 r7 r8 => some ⟨[(.v true [(.i .i64 r0), (.ow 86 true r1), (.ow 9 true r2), (.ow 9 true r3), (.ow 30 true r4), (.i .i64 r5), (.ow 126 true r6), (.ow 62 true r7), (.i .i64 r8)])], []⟩) p0_0 p0_1 p0_2 p0_3 p0_4 p0_5 p0_6 p0_7 p0_8 n1 by kernel_rfl) hN
  intro args r h
  unfold sp46 at h
  split at h
  · injection h with h
    injection h with h1 h2
    subst h2
    exact ⟨by kernel_rfl, fun hf => ⟨of_decide_eq_true (by kernel_rfl), key _ _ _ _ _ _ _ _ _ _ h1⟩⟩
  · cases h

end Go.FG.Se

namespace Go.FG.Se
open Go.Proofs
def E168 : Env := { toTab := T, call := Go.FG.callIn [], mode := Go.FG.modeIn md, keep := Go.FG.keepIn [], tk := fun n => Go.FG.memB n [], om := Go.FG.omIn [] }
def sp168 : List Arg → Option (Bool × Res)
  | [(.v false [(.sh 86 l0)])] => some (Pu.impl_copyEntries.c l0, ⟨[(.v false [(.ow 86 true (Pu.impl_copyEntries.v l0))])], []⟩)
  | _ => none
theorem ok168 : FnOk Try.prog T 168 sp168 := by
  refine fn_ok (E := E168) hE call_nil hM Try.func168 (code := (Try.f168.body.getD .skip)) (by kernel_rfl) (by kernel_rfl) ?_
  have key : ∀ (l0 : Row), Pu.impl_copyEntries.c l0 = true → ∃ it : It Res, (∀ c ∈ loopsOf (Try.f168.body.getD .skip), LoopOk E168 it c) ∧ body E168 it Try.f168 [(.v false [(.sh 86 l0)])] = some ⟨[(.v false [(.ow 86 true (Pu.impl_copyEntries.v l0))])], []⟩ := by
    intro l0  h1
    have hN := Pu.impl_copyEntries.b_eq (R := Res) (fun r0 => some ⟨[(.v false [(.ow 86 true r0)])], []⟩) l0 h1
    have hl : loopsOf (Try.f168.body.getD .skip) = [] := by kernel_rfl
    refine ⟨iterN 0, by rw [hl]; exact loops_nil, ?_⟩
    refine Eq.trans (show body E168 (iterN 0) Try.f168 [(.v false [(.sh 86 l0)])] = Pu.impl_copyEntries.b (fun r0 => some ⟨[(.v false [(.ow 86 true r0)])], []⟩) l0 by kernel_rfl) hN
  intro args r h
  unfold sp168 at h
  split at h
  · injection h with h
    injection h with h1 h2
    subst h2
    exact ⟨by kernel_rfl, fun hf => ⟨of_decide_eq_true (by kernel_rfl), key _ h1⟩⟩
  · cases h

end Go.FG.Se

namespace Go.FG.Se
open Go.Proofs
def E190 : Env := { toTab := T, call := Go.FG.callIn [], mode := Go.FG.modeIn md, keep := Go.FG.keepIn [], tk := fun n => Go.FG.memB n [], om := Go.FG.omIn [] }
def sp190 : List Arg → Option (Bool × Res)
  | [(.v false [(.sh 9 l0)])] => some (Pu.impl_copyTexts.c l0, ⟨[(.v false [(.ow 9 true (Pu.impl_copyTexts.v l0))])], []⟩)
  | _ => none
theorem ok190 : FnOk Try.prog T 190 sp190 := by
  refine fn_ok (E := E190) hE call_nil hM Try.func190 (code := (Try.f190.body.getD .skip)) (by kernel_rfl) (by kernel_rfl) ?_
  have key : ∀ (l0 : Row), Pu.impl_copyTexts.c l0 = true → ∃ it : It Res, (∀ c ∈ loopsOf (Try.f190.body.getD .skip), LoopOk E190 it c) ∧ body E190 it Try.f190 [(.v false [(.sh 9 l0)])] = some ⟨[(.v false [(.ow 9 true (Pu.impl_copyTexts.v l0))])], []⟩ := by
    intro l0  h1
    have hN := Pu.impl_copyTexts.b_eq (R := Res) (fun r0 => some ⟨[(.v false [(.ow 9 true r0)])], []⟩) l0 h1
    have hl : loopsOf (Try.f190.body.getD .skip) = [] := by kernel_rfl
    refine ⟨iterN 0, by rw [hl]; exact loops_nil, ?_⟩
    refine Eq.trans (show body E190 (iterN 0) Try.f190 [(.v false [(.sh 9 l0)])] = Pu.impl_copyTexts.b (fun r0 => some ⟨[(.v false [(.ow 9 true r0)])], []⟩) l0 by kernel_rfl) hN
  intro args r h
  unfold sp190 at h
  split at h
  · injection h with h
    injection h with h1 h2
    subst h2
    exact ⟨by kernel_rfl, fun hf => ⟨of_decide_eq_true (by kernel_rfl), key _ h1⟩⟩
  · cases h

end Go.FG.Se

namespace Go.FG.Se
open Go.Proofs
def E221 : Env := { toTab := T, call := Go.FG.callIn [], mode := Go.FG.modeIn md, keep := Go.FG.keepIn [], tk := fun n => Go.FG.memB n [], om := Go.FG.omIn [] }
def sp221 : List Arg → Option (Bool × Res)
  | [(.v false [(.sh 3 l0)])] => some (Pu.impl_copyInts.c l0, ⟨[(.v false [(.ow 3 true (Pu.impl_copyInts.v l0))])], []⟩)
  | _ => none
theorem ok221 : FnOk Try.prog T 221 sp221 := by
  refine fn_ok (E := E221) hE call_nil hM Try.func221 (code := (Try.f221.body.getD .skip)) (by kernel_rfl) (by kernel_rfl) ?_
  have key : ∀ (l0 : Row), Pu.impl_copyInts.c l0 = true → ∃ it : It Res, (∀ c ∈ loopsOf (Try.f221.body.getD .skip), LoopOk E221 it c) ∧ body E221 it Try.f221 [(.v false [(.sh 3 l0)])] = some ⟨[(.v false [(.ow 3 true (Pu.impl_copyInts.v l0))])], []⟩ := by
    intro l0  h1
    have hN := Pu.impl_copyInts.b_eq (R := Res) (fun r0 => some ⟨[(.v false [(.ow 3 true r0)])], []⟩) l0 h1
    have hl : loopsOf (Try.f221.body.getD .skip) = [] := by kernel_rfl
    refine ⟨iterN 0, by rw [hl]; exact loops_nil, ?_⟩
    refine Eq.trans (show body E221 (iterN 0) Try.f221 [(.v false [(.sh 3 l0)])] = Pu.impl_copyInts.b (fun r0 => some ⟨[(.v false [(.ow 3 true r0)])], []⟩) l0 by kernel_rfl) hN
  intro args r h
  unfold sp221 at h
  split at h
  · injection h with h
    injection h with h1 h2
    subst h2
    exact ⟨by kernel_rfl, fun hf => ⟨of_decide_eq_true (by kernel_rfl), key _ h1⟩⟩
  · cases h

end Go.FG.Se

namespace Go.FG.Se
open Go.Proofs
def T177_0 (p0 : Row) (p1 : Int) (p2 : Int) (p3 : Int) (p4 : Int) : List (Nat × Cel) := [(4, (.v (.v false [(.bp 0 0)]))), (6, (.v (.v false [(.bp 1 0)]))), (20, (.v (.v false [(.sh 30 p0)]))), (22, (.v (.v false [(.i .i64 p1)]))), (24, (.v (.v false [(.i .i64 p2)]))), (1, (.o (.box [.nl, (.i .i64 p3)]))), (3, (.o (.box [.nl, (.i .i64 p4)])))]
def T177_1 (p0 : Row) (p1 : Int) (p2 : Int) (p3 : Int) (p4 : Int) (p5 : Row) : List (Nat × Cel) := [(4, (.v (.v false [(.bp 0 0)]))), (6, (.v (.v false [(.bp 1 0)]))), (20, (.v (.v false [(.sh 30 p0)]))), (22, (.v (.v false [(.i .i64 p1)]))), (24, (.v (.v false [(.i .i64 p2)]))), (1, (.o (.box [.nl, (.i .i64 p3)]))), (3, (.o (.box [(.own 2), (.i .i64 p4)]))), (5, (.o (.row 30 true p5)))]
def E177 : Env := { toTab := T, call := Go.FG.callIn [(221, sp221)], mode := Go.FG.modeIn md, keep := Go.FG.keepIn [(3, [2, 3, 10, 11, 12])], tk := fun n => Go.FG.memB n [], om := Go.FG.omIn [] }
def it177 (N : Nat) {R : Type} : It R := fun rid f cn L K => bif Nat.beq rid 3 then (tell [(4, (.v (.v false [(.bp 0 0)]))), (6, (.v (.v false [(.bp 1 0)]))), (20, (.v (.v false [(.sh 30 [])]))), (22, (.v (.v false [(.i .i64 0)]))), (24, (.v (.v false [(.i .i64 0)]))), (1, (.o (.box [.nl, (.i .i64 0)]))), (3, (.o (.box [.nl, (.i .i64 0)])))] (fun | [.R x0, .I x1, .I x2, .I x3, .I x4] => Pu.impl_copySketch.l3 N (fun y0 y1 y2 y3 y4 => (K (.exit 0) (tabl (T177_0 y0 y1 y2 y3 y4)))) (fun y0 y1 y2 y3 y4 y5 => (K (.exit 0) (tabl (T177_1 y0 y1 y2 y3 y4 y5)))) N x0 x1 x2 x3 x4 | _ => none) L (tell [(4, (.v (.v false [(.bp 0 0)]))), (6, (.v (.v false [(.bp 1 0)]))), (20, (.v (.v false [(.sh 30 [])]))), (22, (.v (.v false [(.i .i64 0)]))), (24, (.v (.v false [(.i .i64 0)]))), (1, (.o (.box [.nl, (.i .i64 0)]))), (3, (.o (.box [(.own 2), (.i .i64 0)]))), (5, (.o (.row 30 true [])))] (fun | [.R x5, .I x6, .I x7, .I x8, .I x9, .R x10] => Pu.impl_copySketch.l3a N (fun y0 y1 y2 y3 y4 => (K (.exit 0) (tabl (T177_0 y0 y1 y2 y3 y4)))) (fun y0 y1 y2 y3 y4 y5 => (K (.exit 0) (tabl (T177_1 y0 y1 y2 y3 y4 y5)))) N x5 x6 x7 x8 x9 x10 | _ => none) L (none))) else none
theorem e177_3 {R : Type} (N : Nat) (K : Ex → St → Option R) : ∀ n : Nat, (∀ x0 x1 x2 x3 x4, iter (exc E177 (it177 N) (loopOf Try.f177 3)) (canon (E177.keep 3))  n (tabl (T177_0 x0 x1 x2 x3 x4)) K = Pu.impl_copySketch.l3 N (fun y0 y1 y2 y3 y4 => (K (.exit 0) (tabl (T177_0 y0 y1 y2 y3 y4)))) (fun y0 y1 y2 y3 y4 y5 => (K (.exit 0) (tabl (T177_1 y0 y1 y2 y3 y4 y5)))) n x0 x1 x2 x3 x4) ∧ (∀ x5 x6 x7 x8 x9 x10, iter (exc E177 (it177 N) (loopOf Try.f177 3)) (canon (E177.keep 3))  n (tabl (T177_1 x5 x6 x7 x8 x9 x10)) K = Pu.impl_copySketch.l3a N (fun y0 y1 y2 y3 y4 => (K (.exit 0) (tabl (T177_0 y0 y1 y2 y3 y4)))) (fun y0 y1 y2 y3 y4 y5 => (K (.exit 0) (tabl (T177_1 y0 y1 y2 y3 y4 y5)))) n x5 x6 x7 x8 x9 x10) := by
  intro n
  induction n with
  | zero => exact ⟨(fun _ _ _ _ _ => rfl), (fun _ _ _ _ _ _ => rfl)⟩
  | succ n ih =>
    have e0 : (fun x0 x1 x2 x3 x4 => iter (exc E177 (it177 N) (loopOf Try.f177 3)) (canon (E177.keep 3))  n (tabl (T177_0 x0 x1 x2 x3 x4)) K) = Pu.impl_copySketch.l3 N (fun y0 y1 y2 y3 y4 => (K (.exit 0) (tabl (T177_0 y0 y1 y2 y3 y4)))) (fun y0 y1 y2 y3 y4 y5 => (K (.exit 0) (tabl (T177_1 y0 y1 y2 y3 y4 y5)))) n := by funext x0 x1 x2 x3 x4; exact ih.1 x0 x1 x2 x3 x4
    have e1 : (fun x5 x6 x7 x8 x9 x10 => iter (exc E177 (it177 N) (loopOf Try.f177 3)) (canon (E177.keep 3))  n (tabl (T177_1 x5 x6 x7 x8 x9 x10)) K) = Pu.impl_copySketch.l3a N (fun y0 y1 y2 y3 y4 => (K (.exit 0) (tabl (T177_0 y0 y1 y2 y3 y4)))) (fun y0 y1 y2 y3 y4 y5 => (K (.exit 0) (tabl (T177_1 y0 y1 y2 y3 y4 y5)))) n := by funext x5 x6 x7 x8 x9 x10; exact ih.2 x5 x6 x7 x8 x9 x10
    refine ⟨?_, ?_⟩
    · intro x0 x1 x2 x3 x4
      have h : ∀ g, exc E177 (it177 N) (loopOf Try.f177 3) (tabl (T177_0 x0 x1 x2 x3 x4)) (iterK g (canon (E177.keep 3)) K) = Pu.impl_copySketch.r3 N (fun x0 x1 x2 x3 x4 => (g (tabl (T177_0 x0 x1 x2 x3 x4)))) (fun x5 x6 x7 x8 x9 x10 => (g (tabl (T177_1 x5 x6 x7 x8 x9 x10)))) (fun y0 y1 y2 y3 y4 => (K (.exit 0) (tabl (T177_0 y0 y1 y2 y3 y4)))) (fun y0 y1 y2 y3 y4 y5 => (K (.exit 0) (tabl (T177_1 y0 y1 y2 y3 y4 y5)))) x0 x1 x2 x3 x4 := by intro g; kernel_rfl
      refine (iter_succ _ _ n _ K).trans ((h _).trans ?_)
      show Pu.impl_copySketch.r3 N (fun x0 x1 x2 x3 x4 => (iter (exc E177 (it177 N) (loopOf Try.f177 3)) (canon (E177.keep 3))  n (tabl (T177_0 x0 x1 x2 x3 x4)) K)) (fun x5 x6 x7 x8 x9 x10 => (iter (exc E177 (it177 N) (loopOf Try.f177 3)) (canon (E177.keep 3))  n (tabl (T177_1 x5 x6 x7 x8 x9 x10)) K)) (fun y0 y1 y2 y3 y4 => (K (.exit 0) (tabl (T177_0 y0 y1 y2 y3 y4)))) (fun y0 y1 y2 y3 y4 y5 => (K (.exit 0) (tabl (T177_1 y0 y1 y2 y3 y4 y5)))) x0 x1 x2 x3 x4 = _
      rw [e0, e1]; rfl
    · intro x5 x6 x7 x8 x9 x10
      have h : ∀ g, exc E177 (it177 N) (loopOf Try.f177 3) (tabl (T177_1 x5 x6 x7 x8 x9 x10)) (iterK g (canon (E177.keep 3)) K) = Pu.impl_copySketch.r3a N (fun x0 x1 x2 x3 x4 => (g (tabl (T177_0 x0 x1 x2 x3 x4)))) (fun x5 x6 x7 x8 x9 x10 => (g (tabl (T177_1 x5 x6 x7 x8 x9 x10)))) (fun y0 y1 y2 y3 y4 => (K (.exit 0) (tabl (T177_0 y0 y1 y2 y3 y4)))) (fun y0 y1 y2 y3 y4 y5 => (K (.exit 0) (tabl (T177_1 y0 y1 y2 y3 y4 y5)))) x5 x6 x7 x8 x9 x10 := by intro g; kernel_rfl
      refine (iter_succ _ _ n _ K).trans ((h _).trans ?_)
      show Pu.impl_copySketch.r3a N (fun x0 x1 x2 x3 x4 => (iter (exc E177 (it177 N) (loopOf Try.f177 3)) (canon (E177.keep 3))  n (tabl (T177_0 x0 x1 x2 x3 x4)) K)) (fun x5 x6 x7 x8 x9 x10 => (iter (exc E177 (it177 N) (loopOf Try.f177 3)) (canon (E177.keep 3))  n (tabl (T177_1 x5 x6 x7 x8 x9 x10)) K)) (fun y0 y1 y2 y3 y4 => (K (.exit 0) (tabl (T177_0 y0 y1 y2 y3 y4)))) (fun y0 y1 y2 y3 y4 y5 => (K (.exit 0) (tabl (T177_1 y0 y1 y2 y3 y4 y5)))) x5 x6 x7 x8 x9 x10 = _
      rw [e0, e1]; rfl
theorem lo177_3 {R : Type} (N : Nat) : LoopOk E177 (it177 N (R := R)) (loopOf Try.f177 3) := by
  have e : firstRid (loopOf Try.f177 3) = 3 := by kernel_rfl
  intro L K r
  rw [e]
  intro h
  unfold it177 at h
  simp only [show Nat.beq 3 3 = true from rfl, cond_false, cond_true] at h
  refine tell_ok (Q := fun L => ∃ n, iter (exc E177 (it177 N) (loopOf Try.f177 3)) (canon (E177.keep 3)) n (tabl L) K = some r) h (fun xs h => ?_) (fun h => ?_)
  · (try dsimp only at h)
    split at h
    · exact ⟨N, ((e177_3 N K N).1 _ _ _ _ _).trans h⟩
    · cases h
  refine tell_ok (Q := fun L => ∃ n, iter (exc E177 (it177 N) (loopOf Try.f177 3)) (canon (E177.keep 3)) n (tabl L) K = some r) h (fun xs h => ?_) (fun h => ?_)
  · (try dsimp only at h)
    split at h
    · exact ⟨N, ((e177_3 N K N).2 _ _ _ _ _ _).trans h⟩
    · cases h
  cases h
def sp177 : List Arg → Option (Bool × Res)
  | [(.v true [(.sh 30 s0_0), (.i .i64 s0_1)])] => some (Pu.impl_copySketch.c s0_0 s0_1, ⟨[(.v true [(.ow 30 true ((Pu.impl_copySketch.v s0_0 s0_1).1)), (.i .i64 ((Pu.impl_copySketch.v s0_0 s0_1).2))])], []⟩)
  | _ => none
theorem ok177 : FnOk Try.prog T 177 sp177 := by
  refine fn_ok (E := E177) hE (call_cons ok221 call_nil) hM Try.func177 (code := (Try.f177.body.getD .skip)) (by kernel_rfl) (by kernel_rfl) ?_
  have key : ∀ (s0_0 : Row) (s0_1 : Int), Pu.impl_copySketch.c s0_0 s0_1 = true → ∃ it : It Res, (∀ c ∈ loopsOf (Try.f177.body.getD .skip), LoopOk E177 it c) ∧ body E177 it Try.f177 [(.v true [(.sh 30 s0_0), (.i .i64 s0_1)])] = some ⟨[(.v true [(.ow 30 true ((Pu.impl_copySketch.v s0_0 s0_1).1)), (.i .i64 ((Pu.impl_copySketch.v s0_0 s0_1).2))])], []⟩ := by
    intro s0_0 s0_1  h1
    obtain ⟨N, hN⟩ := Pu.impl_copySketch.b_eq (R := Res) (fun r0 r1 => some ⟨[(.v true [(.ow 30 true r0), (.i .i64 r1)])], []⟩) s0_0 s0_1 h1
    have hl : loopsOf (Try.f177.body.getD .skip) = [loopOf Try.f177 3] := by kernel_rfl
    refine ⟨it177 N, by rw [hl]; exact (loops_cons (lo177_3 N) loops_nil), ?_⟩
    refine Eq.trans (show body E177 (it177 N) Try.f177 [(.v true [(.sh 30 s0_0), (.i .i64 s0_1)])] = Pu.impl_copySketch.b N (fun r0 r1 => some ⟨[(.v true [(.ow 30 true r0), (.i .i64 r1)])], []⟩) s0_0 s0_1 by kernel_rfl) hN
  intro args r h
  unfold sp177 at h
  split at h
  · injection h with h
    injection h with h1 h2
    subst h2
    exact ⟨by kernel_rfl, fun hf => ⟨of_decide_eq_true (by kernel_rfl), key _ _ h1⟩⟩
  · cases h

end Go.FG.Se

namespace Go.FG.Se
open Go.Proofs
def E108 : Env := { toTab := T, call := Go.FG.callIn [(190, sp190), (177, sp177)], mode := Go.FG.modeIn md, keep := Go.FG.keepIn [], tk := fun n => Go.FG.memB n [], om := Go.FG.omIn [] }
def sp108 : List Arg → Option (Bool × Res)
  | [(.v true [(.sh 9 p0_0), (.sh 9 p0_1), (.sh 30 p0_2), (.i .i64 p0_3)])] => some (Pu.impl_copyPolicy.c p0_0 p0_1 p0_2 p0_3, ⟨[(.v true [(.ow 9 true ((Pu.impl_copyPolicy.v p0_0 p0_1 p0_2 p0_3).1)), (.ow 9 true ((Pu.impl_copyPolicy.v p0_0 p0_1 p0_2 p0_3).2.1)), (.ow 30 true ((Pu.impl_copyPolicy.v p0_0 p0_1 p0_2 p0_3).2.2.1)), (.i .i64 ((Pu.impl_copyPolicy.v p0_0 p0_1 p0_2 p0_3).2.2.2))])], []⟩)
  | _ => none
theorem ok108 : FnOk Try.prog T 108 sp108 := by
  refine fn_ok (E := E108) hE (call_cons ok190 (call_cons ok177 call_nil)) hM Try.func108 (code := (Try.f108.body.getD .skip)) (by kernel_rfl) (by kernel_rfl) ?_
  have key : ∀ (p0_0 : Row) (p0_1 : Row) (p0_2 : Row) (p0_3 : Int), Pu.impl_copyPolicy.c p0_0 p0_1 p0_2 p0_3 = true → ∃ it : It Res, (∀ c ∈ loopsOf (Try.f108.body.getD .skip), LoopOk E108 it c) ∧ body E108 it Try.f108 [(.v true [(.sh 9 p0_0), (.sh 9 p0_1), (.sh 30 p0_2), (.i .i64 p0_3)])] = some ⟨[(.v true [(.ow 9 true ((Pu.impl_copyPolicy.v p0_0 p0_1 p0_2 p0_3).1)), (.ow 9 true ((Pu.impl_copyPolicy.v p0_0 p0_1 p0_2 p0_3).2.1)), (.ow 30 true ((Pu.impl_copyPolicy.v p0_0 p0_1 p0_2 p0_3).2.2.1)), (.i .i64 ((Pu.impl_copyPolicy.v p0_0 p0_1 p0_2 p0_3).2.2.2))])], []⟩ := by
    intro p0_0 p0_1 p0_2 p0_3  h1
    have hN := Pu.impl_copyPolicy.b_eq (R := Res) (fun r0 r1 r2 r3 => some ⟨[(.v true [(.ow 9 true r0), (.ow 9 true r1), (.ow 30 true r2), (.i .i64 r3)])], []⟩) p0_0 p0_1 p0_2 p0_3 h1
    have hl : loopsOf (Try.f108.body.getD .skip) = [] := by kernel_rfl
    refine ⟨iterN 0, by rw [hl]; exact loops_nil, ?_⟩
    refine Eq.trans (show body E108 (iterN 0) Try.f108 [(.v true [(.sh 9 p0_0), (.sh 9 p0_1), (.sh 30 p0_2), (.i .i64 p0_3)])] = Pu.impl_copyPolicy.b (fun r0 r1 r2 r3 => some ⟨[(.v true [(.ow 9 true r0), (.ow 9 true r1), (.ow 30 true r2), (.i .i64 r3)])], []⟩) p0_0 p0_1 p0_2 p0_3 by kernel_rfl) hN
  intro args r h
  unfold sp108 at h
  split at h
  · injection h with h
    injection h with h1 h2
    subst h2
    exact ⟨by kernel_rfl, fun hf => ⟨of_decide_eq_true (by kernel_rfl), key _ _ _ _ h1⟩⟩
  · cases h

end Go.FG.Se

namespace Go.FG.Se
open Go.Proofs
def E75 : Env := { toTab := T, call := Go.FG.callIn [(168, sp168), (108, sp108)], mode := Go.FG.modeIn md, keep := Go.FG.keepIn [], tk := fun n => Go.FG.memB n [], om := Go.FG.omIn [] }
def sp75 : List Arg → Option (Bool × Res)
  | [(.v true [(.i .i64 p0_0), (.sh 86 p0_1), (.sh 9 p0_2), (.sh 9 p0_3), (.sh 30 p0_4), (.i .i64 p0_5), (.sh 126 p0_6), (.sh 62 p0_7), (.i .i64 p0_8)])] => some (Pu.impl_copyProxy.c p0_0 p0_1 p0_2 p0_3 p0_4 p0_5 p0_6 p0_7 p0_8, ⟨[(.v true [(.i .i64 ((Pu.impl_copyProxy.v p0_0 p0_1 p0_2 p0_3 p0_4 p0_5 p0_6 p0_7 p0_8).1)), (.ow 86 true ((Pu.impl_copyProxy.v p0_0 p0_1 p0_2 p0_3 p0_4 p0_5 p0_6 p0_7 p0_8).2.1)), (.ow 9 true ((Pu.impl_copyProxy.v p0_0 p0_1 p0_2 p0_3 p0_4 p0_5 p0_6 p0_7 p0_8).2.2.1)), (.ow 9 true ((Pu.impl_copyProxy.v p0_0 p0_1 p0_2 p0_3 p0_4 p0_5 p0_6 p0_7 p0_8).2.2.2.1)), (.ow 30 true ((Pu.impl_copyProxy.v p0_0 p0_1 p0_2 p0_3 p0_4 p0_5 p0_6 p0_7 p0_8).2.2.2.2.1)), (.i .i64 ((Pu.impl_copyProxy.v p0_0 p0_1 p0_2 p0_3 p0_4 p0_5 p0_6 p0_7 p0_8).2.2.2.2.2.1)), (.ow 126 true ((Pu.impl_copyProxy.v p0_0 p0_1 p0_2 p0_3 p0_4 p0_5 p0_6 p0_7 p0_8).2.2.2.2.2.2.1)), (.ow 62 true ((Pu.impl_copyProxy.v p0_0 p0_1 p0_2 p0_3 p0_4 p0_5 p0_6 p0_7 p0_8).2.2.2.2.2.2.2.1)), (.i .i64 ((Pu.impl_copyProxy.v p0_0 p0_1 p0_2 p0_3 p0_4 p0_5 p0_6 p0_7 p0_8).2.2.2.2.2.2.2.2))])], []⟩)
  | _ => none
theorem ok75 : FnOk Try.prog T 75 sp75 := by
  refine fn_ok (E := E75) hE (call_cons ok168 (call_cons ok108 call_nil)) hM Try.func75 (code := (Try.f75.body.getD .skip)) (by kernel_rfl) (by kernel_rfl) ?_
  have key : ∀ (p0_0 : Int) (p0_1 : Row) (p0_2 : Row) (p0_3 : Row) (p0_4 : Row) (p0_5 : Int) (p0_6 : Row) (p0_7 : Row) (p0_8 : Int), Pu.impl_copyProxy.c p0_0 p0_1 p0_2 p0_3 p0_4 p0_5 p0_6 p0_7 p0_8 = true → ∃ it : It Res, (∀ c ∈ loopsOf (Try.f75.body.getD .skip), LoopOk E75 it c) ∧ body E75 it Try.f75 [(.v true [(.i .i64 p0_0), (.sh 86 p0_1), (.sh 9 p0_2), (.sh 9 p0_3), (.sh 30 p0_4), (.i .i64 p0_5), (.sh 126 p0_6), (.sh 62 p0_7), (.i .i64 p0_8)])] = some ⟨[(.v true [(.i .i64 ((Pu.impl_copyProxy.v p0_0 p0_1 p0_2 p0_3 p0_4 p0_5 p0_6 p0_7 p0_8).1)), (.ow 86 true ((Pu.impl_copyProxy.v p0_0 p0_1 p0_2 p0_3 p0_4 p0_5 p0_6 p0_7 p0_8).2.1)), (.ow 9 true ((Pu.impl_copyProxy.v p0_0 p0_1 p0_2 p0_3 p0_4 p0_5 p0_6 p0_7 p0_8).2.2.1)), (.ow 9 true ((Pu.impl_copyProxy.v p0_0 p0_1 p0_2 p0_3 p0_4 p0_5 p0_6 p0_7 p0_8).2.2.2.1)), (.ow 30 true ((Pu.impl_copyProxy.v p0_0 p0_1 p0_2 p0_3 p0_4 p0_5 p0_6 p0_7 p0_8).2.2.2.2.1)), (.i .i64 ((Pu.impl_copyProxy.v p0_0 p0_1 p0_2 p0_3 p0_4 p0_5 p0_6 p0_7 p0_8).2.2.2.2.2.1)), (.ow 126 true ((Pu.impl_copyProxy.v p0_0 p0_1 p0_2 p0_3 p0_4 p0_5 p0_6 p0_7 p0_8).2.2.2.2.2.2.1)), (.ow 62 true ((Pu.impl_copyProxy.v p0_0 p0_1 p0_2 p0_3 p0_4 p0_5 p0_6 p0_7 p0_8).2.2.2.2.2.2.2.1)), (.i .i64 ((Pu.impl_copyProxy.v p0_0 p0_1 p0_2 p0_3 p0_4 p0_5 p0_6 p0_7 p0_8).2.2.2.2.2.2.2.2))])], []⟩ := by
    intro p0_0 p0_1 p0_2 p0_3 p0_4 p0_5 p0_6 p0_7 p0_8  h1
    have hN := Pu.impl_copyProxy.b_eq (R := Res) (fun r0 r1 r2 r3 r4 r5 r6 r7 r8 => some ⟨[(.v true [(.i .i64 r0), (.ow 86 true r1), (.ow 9 true r2), (.ow 9 true r3), (.ow 30 true r4), (.i .i64 r5), (.ow 126 true r6), (.ow 62 true r7), (.i .i64 r8)])], []⟩) p0_0 p0_1 p0_2 p0_3 p0_4 p0_5 p0_6 p0_7 p0_8 h1
    have hl : loopsOf (Try.f75.body.getD .skip) = [] := by kernel_rfl
    refine ⟨iterN 0, by rw [hl]; exact loops_nil, ?_⟩
    refine Eq.trans (show body E75 (iterN 0) Try.f75 [(.v true [(.i .i64 p0_0), (.sh 86 p0_1), (.sh 9 p0_2), (.sh 9 p0_3), (.sh 30 p0_4), (.i .i64 p0_5), (.sh 126 p0_6), (.sh 62 p0_7), (.i .i64 p0_8)])] = Pu.impl_copyProxy.b (fun r0 r1 r2 r3 r4 r5 r6 r7 r8 => some ⟨[(.v true [(.i .i64 r0), (.ow 86 true r1), (.ow 9 true r2), (.ow 9 true r3), (.ow 30 true r4), (.i .i64 r5), (.ow 126 true r6), (.ow 62 true r7), (.i .i64 r8)])], []⟩) p0_0 p0_1 p0_2 p0_3 p0_4 p0_5 p0_6 p0_7 p0_8 by kernel_rfl) hN
  intro args r h
  unfold sp75 at h
  split at h
  · injection h with h
    injection h with h1 h2
    subst h2
    exact ⟨by kernel_rfl, fun hf => ⟨of_decide_eq_true (by kernel_rfl), key _ _ _ _ _ _ _ _ _ h1⟩⟩
  · cases h

end Go.FG.Se

namespace Go.FG.Se
open Go.Proofs
def E76 : Env := { toTab := T, call := Go.FG.callIn [], mode := Go.FG.modeIn md, keep := Go.FG.keepIn [], tk := fun n => Go.FG.memB n [], om := Go.FG.omIn [] }
def sp76 : List Arg → Option (Bool × Res)
  | [(.v false [(.i .i64 n0)]), (.v false [(.i .i64 m1)])] => some (Pu.impl_modulo.c n0 m1, ⟨[(.v false [(.i .i64 (Pu.impl_modulo.v n0 m1))])], []⟩)
  | _ => none
theorem ok76 : FnOk Try.prog T 76 sp76 := by
  refine fn_ok (E := E76) hE call_nil hM Try.func76 (code := (Try.f76.body.getD .skip)) (by kernel_rfl) (by kernel_rfl) ?_
  have key : ∀ (n0 : Int) (m1 : Int), Pu.impl_modulo.c n0 m1 = true → ∃ it : It Res, (∀ c ∈ loopsOf (Try.f76.body.getD .skip), LoopOk E76 it c) ∧ body E76 it Try.f76 [(.v false [(.i .i64 n0)]), (.v false [(.i .i64 m1)])] = some ⟨[(.v false [(.i .i64 (Pu.impl_modulo.v n0 m1))])], []⟩ := by
    intro n0 m1  h1
    have hN := Pu.impl_modulo.b_eq (R := Res) (fun r0 => some ⟨[(.v false [(.i .i64 r0)])], []⟩) n0 m1 h1
    have hl : loopsOf (Try.f76.body.getD .skip) = [] := by kernel_rfl
    refine ⟨iterN 0, by rw [hl]; exact loops_nil, ?_⟩
    refine Eq.trans (show body E76 (iterN 0) Try.f76 [(.v false [(.i .i64 n0)]), (.v false [(.i .i64 m1)])] = Pu.impl_modulo.b (fun r0 => some ⟨[(.v false [(.i .i64 r0)])], []⟩) n0 m1 by kernel_rfl) hN
  intro args r h
  unfold sp76 at h
  split at h
  · injection h with h
    injection h with h1 h2
    subst h2
    exact ⟨by kernel_rfl, fun hf => ⟨of_decide_eq_true (by kernel_rfl), key _ _ h1⟩⟩
  · cases h

end Go.FG.Se

namespace Go.FG.Se
open Go.Proofs
def E24 : Env := { toTab := T, call := Go.FG.callIn [(75, sp75), (76, sp76)], mode := Go.FG.modeIn md, keep := Go.FG.keepIn [], tk := fun n => Go.FG.memB n [], om := Go.FG.omIn [] }
def sp24 : List Arg → Option (Bool × Res)
  | [(.v true [(.i .i64 p0_0), (.sh 86 p0_1), (.sh 9 p0_2), (.sh 9 p0_3), (.sh 30 p0_4), (.i .i64 p0_5), (.sh 126 p0_6), (.sh 62 p0_7), (.i .i64 p0_8)]), (.v false [(.i .i64 n1)])] => some (Pu.impl_PassTime.c p0_0 p0_1 p0_2 p0_3 p0_4 p0_5 p0_6 p0_7 p0_8 n1, ⟨[(.v true [(.i .i64 ((Pu.impl_PassTime.v p0_0 p0_1 p0_2 p0_3 p0_4 p0_5 p0_6 p0_7 p0_8 n1).1)), (.ow 86 true ((Pu.impl_PassTime.v p0_0 p0_1 p0_2 p0_3 p0_4 p0_5 p0_6 p0_7 p0_8 n1).2.1)), (.ow 9 true ((Pu.impl_PassTime.v p0_0 p0_1 p0_2 p0_3 p0_4 p0_5 p0_6 p0_7 p0_8 n1).2.2.1)), (.ow 9 true ((Pu.impl_PassTime.v p0_0 p0_1 p0_2 p0_3 p0_4 p0_5 p0_6 p0_7 p0_8 n1).2.2.2.1)), (.ow 30 true ((Pu.impl_PassTime.v p0_0 p0_1 p0_2 p0_3 p0_4 p0_5 p0_6 p0_7 p0_8 n1).2.2.2.2.1)), (.i .i64 ((Pu.impl_PassTime.v p0_0 p0_1 p0_2 p0_3 p0_4 p0_5 p0_6 p0_7 p0_8 n1).2.2.2.2.2.1)), (.ow 126 true ((Pu.impl_PassTime.v p0_0 p0_1 p0_2 p0_3 p0_4 p0_5 p0_6 p0_7 p0_8 n1).2.2.2.2.2.2.1)), (.ow 62 true ((Pu.impl_PassTime.v p0_0 p0_1 p0_2 p0_3 p0_4 p0_5 p0_6 p0_7 p0_8 n1).2.2.2.2.2.2.2.1)), (.i .i64 ((Pu.impl_PassTime.v p0_0 p0_1 p0_2 p0_3 p0_4 p0_5 p0_6 p0_7 p0_8 n1).2.2.2.2.2.2.2.2))])], []⟩)
  | _ => none
theorem ok24 : FnOk Try.prog T 24 sp24 := by
  refine fn_ok (E := E24) hE (call_cons ok75 (call_cons ok76 call_nil)) hM Try.func24 (code := (Try.f24.body.getD .skip)) (by kernel_rfl) (by kernel_rfl) ?_
  have key : ∀ (p0_0 : Int) (p0_1 : Row) (p0_2 : Row) (p0_3 : Row) (p0_4 : Row) (p0_5 : Int) (p0_6 : Row) (p0_7 : Row) (p0_8 : Int) (n1 : Int), Pu.impl_PassTime.c p0_0 p0_1 p0_2 p0_3 p0_4 p0_5 p0_6 p0_7 p0_8 n1 = true → ∃ it : It Res, (∀ c ∈ loopsOf (Try.f24.body.getD .skip), LoopOk E24 it c) ∧ body E24 it Try.f24 [(.v true [(.i .i64 p0_0), (.sh 86 p0_1), (.sh 9 p0_2), (.sh 9 p0_3), (.sh 30 p0_4), (.i .i64 p0_5), (.sh 126 p0_6), (.sh 62 p0_7), (.i .i64 p0_8)]), (.v false [(.i .i64 n1)])] = some ⟨[(.v true [(.i .i64 ((Pu.impl_PassTime.v p0_0 p0_1 p0_2 p0_3 p0_4 p0_5 p0_6 p0_7 p0_8 n1).1)), (.ow 86 true ((Pu.impl_PassTime.v p0_0 p0_1 p0_2 p0_3 p0_4 p0_5 p0_6 p0_7 p0_8 n1).2.1)), (.ow 9 true ((Pu.impl_PassTime.v p0_0 p0_1 p0_2 p0_3 p0_4 p0_5 p0_6 p0_7 p0_8 n1).2.2.1)), (.ow 9 true ((Pu.impl_PassTime.v p0_0 p0_1 p0_2 p0_3 p0_4 p0_5 p0_6 p0_7 p0_8 n1).2.2.2.1)), (.ow 30 true ((Pu.impl_PassTime.v p0_0 p0_1 p0_2 p0_3 p0_4 p0_5 p0_6 p0_7 p0_8 n1).2.2.2.2.1)), (.i .i64 ((Pu.impl_PassTime.v p0_0 p0_1 p0_2 p0_3 p0_4 p0_5 p0_6 p0_7 p0_8 n1).2.2.2.2.2.1)), (.ow 126 true ((Pu.impl_PassTime.v p0_0 p0_1 p0_2 p0_3 p0_4 p0_5 p0_6 p0_7 p0_8 n1).2.2.2.2.2.2.1)), (.ow 62 true ((Pu.impl_PassTime.v p0_0 p0_1 p0_2 p0_3 p0_4 p0_5 p0_6 p0_7 p0_8 n1).2.2.2.2.2.2.2.1)), (.i .i64 ((Pu.impl_PassTime.v p0_0 p0_1 p0_2 p0_3 p0_4 p0_5 p0_6 p0_7 p0_8 n1).2.2.2.2.2.2.2.2))])], []⟩ := by
    intro p0_0 p0_1 p0_2 p0_3 p0_4 p0_5 p0_6 p0_7 p0_8 n1  h1
    have hN := Pu.impl_PassTime.b_eq (R := Res) (fun r0 r1 r2 r3 r4 r5 r6 r7 r8 => some ⟨[(.v true [(.i .i64 r0), (.ow 86 true r1), (.ow 9 true r2), (.ow 9 true r3), (.ow 30 true r4), (.i .i64 r5), (.ow 126 true r6), (.ow 62 true r7), (.i .i64 r8)])], []⟩) p0_0 p0_1 p0_2 p0_3 p0_4 p0_5 p0_6 p0_7 p0_8 n1 h1
    have hl : loopsOf (Try.f24.body.getD .skip) = [] := by kernel_rfl
    refine ⟨iterN 0, by rw [hl]; exact loops_nil, ?_⟩
    refine Eq.trans (show body E24 (iterN 0) Try.f24 [(.v true [(.i .i64 p0_0), (.sh 86 p0_1), (.sh 9 p0_2), (.sh 9 p0_3), (.sh 30 p0_4), (.i .i64 p0_5), (.sh 126 p0_6), (.sh 62 p0_7), (.i .i64 p0_8)]), (.v false [(.i .i64 n1)])] = Pu.impl_PassTime.b (fun r0 r1 r2 r3 r4 r5 r6 r7 r8 => some ⟨[(.v true [(.i .i64 r0), (.ow 86 true r1), (.ow 9 true r2), (.ow 9 true r3), (.ow 30 true r4), (.i .i64 r5), (.ow 126 true r6), (.ow 62 true r7), (.i .i64 r8)])], []⟩) p0_0 p0_1 p0_2 p0_3 p0_4 p0_5 p0_6 p0_7 p0_8 n1 by kernel_rfl) hN
  intro args r h
  unfold sp24 at h
  split at h
  · injection h with h
    injection h with h1 h2
    subst h2
    exact ⟨by kernel_rfl, fun hf => ⟨of_decide_eq_true (by kernel_rfl), key _ _ _ _ _ _ _ _ _ _ h1⟩⟩
  · cases h

end Go.FG.Se

namespace Go.FG.Se
open Go.Proofs
def E205 : Env := { toTab := T, call := Go.FG.callIn [], mode := Go.FG.modeIn md, keep := Go.FG.keepIn [], tk := fun n => Go.FG.memB n [], om := Go.FG.omIn [] }
def sp205 : List Arg → Option (Bool × Res)
  | [(.v true [(.s a0_0), (.i .i64 a0_1), (.i .i64 a0_2), (.s a0_3)]), (.v true [(.s b1_0), (.i .i64 b1_1), (.i .i64 b1_2), (.s b1_3)])] => some (true, ⟨[(.v false [(.b (Pu.laws_eqEntry.v a0_0 a0_1 a0_2 a0_3 b1_0 b1_1 b1_2 b1_3))])], []⟩)
  | _ => none
theorem ok205 : FnOk Try.prog T 205 sp205 := by
  refine fn_ok (E := E205) hE call_nil hM Try.func205 (code := (Try.f205.body.getD .skip)) (by kernel_rfl) (by kernel_rfl) ?_
  have key : ∀ (a0_0 : ByteArray) (a0_1 : Int) (a0_2 : Int) (a0_3 : ByteArray) (b1_0 : ByteArray) (b1_1 : Int) (b1_2 : Int) (b1_3 : ByteArray), ∃ it : It Res, (∀ c ∈ loopsOf (Try.f205.body.getD .skip), LoopOk E205 it c) ∧ body E205 it Try.f205 [(.v true [(.s a0_0), (.i .i64 a0_1), (.i .i64 a0_2), (.s a0_3)]), (.v true [(.s b1_0), (.i .i64 b1_1), (.i .i64 b1_2), (.s b1_3)])] = some ⟨[(.v false [(.b (Pu.laws_eqEntry.v a0_0 a0_1 a0_2 a0_3 b1_0 b1_1 b1_2 b1_3))])], []⟩ := by
    intro a0_0 a0_1 a0_2 a0_3 b1_0 b1_1 b1_2 b1_3 
    have hN := Pu.laws_eqEntry.b_eq (R := Res) (fun r0 => some ⟨[(.v false [(.b r0)])], []⟩) a0_0 a0_1 a0_2 a0_3 b1_0 b1_1 b1_2 b1_3
    have hl : loopsOf (Try.f205.body.getD .skip) = [] := by kernel_rfl
    refine ⟨iterN 0, by rw [hl]; exact loops_nil, ?_⟩
    refine Eq.trans (show body E205 (iterN 0) Try.f205 [(.v true [(.s a0_0), (.i .i64 a0_1), (.i .i64 a0_2), (.s a0_3)]), (.v true [(.s b1_0), (.i .i64 b1_1), (.i .i64 b1_2), (.s b1_3)])] = Pu.laws_eqEntry.b (fun r0 => some ⟨[(.v false [(.b r0)])], []⟩) a0_0 a0_1 a0_2 a0_3 b1_0 b1_1 b1_2 b1_3 by kernel_rfl) hN
  intro args r h
  unfold sp205 at h
  split at h
  · injection h with h
    injection h with h1 h2
    subst h2
    exact ⟨by kernel_rfl, fun hf => ⟨of_decide_eq_true (by kernel_rfl), key _ _ _ _ _ _ _ _⟩⟩
  · cases h

end Go.FG.Se

namespace Go.FG.Se
open Go.Proofs
def T128_0 (p0 : Row) (p1 : Row) (p2 : Bool) (p3 : Int) : List (Nat × Cel) := [(0, (.v (.v false [(.sh 86 p0)]))), (2, (.v (.v false [(.sh 86 p1)]))), (8, (.v (.v false [(.b p2)]))), (10, (.v (.v false [(.i .i64 p3)])))]
def E128 : Env := { toTab := T, call := Go.FG.callIn [(205, sp205)], mode := Go.FG.modeIn md, keep := Go.FG.keepIn [(4, [0, 1, 4, 5])], tk := fun n => Go.FG.memB n [], om := Go.FG.omIn [] }
def it128 (N : Nat) {R : Type} : It R := fun rid f cn L K => bif Nat.beq rid 4 then (tell [(0, (.v (.v false [(.sh 86 [])]))), (2, (.v (.v false [(.sh 86 [])]))), (8, (.v (.v false [(.b false)]))), (10, (.v (.v false [(.i .i64 0)])))] (fun | [.R x0, .R x1, .B x2, .I x3] => Pu.laws_eqEntryS.l4 N (fun y0 y1 y2 y3 => (K .ret (tabl (T128_0 y0 y1 y2 y3)))) (fun y0 y1 y2 y3 => (K (.exit 0) (tabl (T128_0 y0 y1 y2 y3)))) N x0 x1 x2 x3 | _ => none) L (none)) else none
theorem e128_4 {R : Type} (N : Nat) (K : Ex → St → Option R) : ∀ n : Nat, (∀ x0 x1 x2 x3, iter (exc E128 (it128 N) (loopOf Try.f128 4)) (canon (E128.keep 4))  n (tabl (T128_0 x0 x1 x2 x3)) K = Pu.laws_eqEntryS.l4 N (fun y0 y1 y2 y3 => (K .ret (tabl (T128_0 y0 y1 y2 y3)))) (fun y0 y1 y2 y3 => (K (.exit 0) (tabl (T128_0 y0 y1 y2 y3)))) n x0 x1 x2 x3) := by
  intro n
  induction n with
  | zero => exact (fun _ _ _ _ => rfl)
  | succ n ih =>
    have e0 : (fun x0 x1 x2 x3 => iter (exc E128 (it128 N) (loopOf Try.f128 4)) (canon (E128.keep 4))  n (tabl (T128_0 x0 x1 x2 x3)) K) = Pu.laws_eqEntryS.l4 N (fun y0 y1 y2 y3 => (K .ret (tabl (T128_0 y0 y1 y2 y3)))) (fun y0 y1 y2 y3 => (K (.exit 0) (tabl (T128_0 y0 y1 y2 y3)))) n := by funext x0 x1 x2 x3; exact ih x0 x1 x2 x3
    intro x0 x1 x2 x3
    have h : ∀ g, exc E128 (it128 N) (loopOf Try.f128 4) (tabl (T128_0 x0 x1 x2 x3)) (iterK g (canon (E128.keep 4)) K) = Pu.laws_eqEntryS.r4 N (fun x0 x1 x2 x3 => (g (tabl (T128_0 x0 x1 x2 x3)))) (fun y0 y1 y2 y3 => (K .ret (tabl (T128_0 y0 y1 y2 y3)))) (fun y0 y1 y2 y3 => (K (.exit 0) (tabl (T128_0 y0 y1 y2 y3)))) x0 x1 x2 x3 := by intro g; kernel_rfl
    refine (iter_succ _ _ n _ K).trans ((h _).trans ?_)
    show Pu.laws_eqEntryS.r4 N (fun x0 x1 x2 x3 => (iter (exc E128 (it128 N) (loopOf Try.f128 4)) (canon (E128.keep 4))  n (tabl (T128_0 x0 x1 x2 x3)) K)) (fun y0 y1 y2 y3 => (K .ret (tabl (T128_0 y0 y1 y2 y3)))) (fun y0 y1 y2 y3 => (K (.exit 0) (tabl (T128_0 y0 y1 y2 y3)))) x0 x1 x2 x3 = _
    rw [e0]; rfl
theorem lo128_4 {R : Type} (N : Nat) : LoopOk E128 (it128 N (R := R)) (loopOf Try.f128 4) := by
  have e : firstRid (loopOf Try.f128 4) = 4 := by kernel_rfl
  intro L K r
  rw [e]
  intro h
  unfold it128 at h
  simp only [show Nat.beq 4 4 = true from rfl, cond_false, cond_true] at h
  refine tell_ok (Q := fun L => ∃ n, iter (exc E128 (it128 N) (loopOf Try.f128 4)) (canon (E128.keep 4)) n (tabl L) K = some r) h (fun xs h => ?_) (fun h => ?_)
  · (try dsimp only at h)
    split at h
    · exact ⟨N, ((e128_4 N K N) _ _ _ _).trans h⟩
    · cases h
  cases h
def sp128 : List Arg → Option (Bool × Res)
  | [(.v false [(.sh 86 a0)]), (.v false [(.sh 86 b1)])] => some (Pu.laws_eqEntryS.c a0 b1, ⟨[(.v false [(.b (Pu.laws_eqEntryS.v a0 b1))])], []⟩)
  | _ => none
theorem ok128 : FnOk Try.prog T 128 sp128 := by
  refine fn_ok (E := E128) hE (call_cons ok205 call_nil) hM Try.func128 (code := (Try.f128.body.getD .skip)) (by kernel_rfl) (by kernel_rfl) ?_
  have key : ∀ (a0 : Row) (b1 : Row), Pu.laws_eqEntryS.c a0 b1 = true → ∃ it : It Res, (∀ c ∈ loopsOf (Try.f128.body.getD .skip), LoopOk E128 it c) ∧ body E128 it Try.f128 [(.v false [(.sh 86 a0)]), (.v false [(.sh 86 b1)])] = some ⟨[(.v false [(.b (Pu.laws_eqEntryS.v a0 b1))])], []⟩ := by
    intro a0 b1  h1
    obtain ⟨N, hN⟩ := Pu.laws_eqEntryS.b_eq (R := Res) (fun r0 => some ⟨[(.v false [(.b r0)])], []⟩) a0 b1 h1
    have hl : loopsOf (Try.f128.body.getD .skip) = [loopOf Try.f128 4] := by kernel_rfl
    refine ⟨it128 N, by rw [hl]; exact (loops_cons (lo128_4 N) loops_nil), ?_⟩
    refine Eq.trans (show body E128 (it128 N) Try.f128 [(.v false [(.sh 86 a0)]), (.v false [(.sh 86 b1)])] = Pu.laws_eqEntryS.b N (fun r0 => some ⟨[(.v false [(.b r0)])], []⟩) a0 b1 by kernel_rfl) hN
  intro args r h
  unfold sp128 at h
  split at h
  · injection h with h
    injection h with h1 h2
    subst h2
    exact ⟨by kernel_rfl, fun hf => ⟨of_decide_eq_true (by kernel_rfl), key _ _ h1⟩⟩
  · cases h

end Go.FG.Se

namespace Go.FG.Se
open Go.Proofs
def T113_0 (p0 : Row) (p1 : Row) (p2 : Bool) (p3 : Int) : List (Nat × Cel) := [(0, (.v (.v false [(.sh 9 p0)]))), (2, (.v (.v false [(.sh 9 p1)]))), (8, (.v (.v false [(.b p2)]))), (10, (.v (.v false [(.i .i64 p3)])))]
def E113 : Env := { toTab := T, call := Go.FG.callIn [], mode := Go.FG.modeIn md, keep := Go.FG.keepIn [(4, [0, 1, 4, 5])], tk := fun n => Go.FG.memB n [], om := Go.FG.omIn [] }
def it113 (N : Nat) {R : Type} : It R := fun rid f cn L K => bif Nat.beq rid 4 then (tell [(0, (.v (.v false [(.sh 9 [])]))), (2, (.v (.v false [(.sh 9 [])]))), (8, (.v (.v false [(.b false)]))), (10, (.v (.v false [(.i .i64 0)])))] (fun | [.R x0, .R x1, .B x2, .I x3] => Pu.laws_eqStringS.l4 N (fun y0 y1 y2 y3 => (K .ret (tabl (T113_0 y0 y1 y2 y3)))) (fun y0 y1 y2 y3 => (K (.exit 0) (tabl (T113_0 y0 y1 y2 y3)))) N x0 x1 x2 x3 | _ => none) L (none)) else none
theorem e113_4 {R : Type} (N : Nat) (K : Ex → St → Option R) : ∀ n : Nat, (∀ x0 x1 x2 x3, iter (exc E113 (it113 N) (loopOf Try.f113 4)) (canon (E113.keep 4))  n (tabl (T113_0 x0 x1 x2 x3)) K = Pu.laws_eqStringS.l4 N (fun y0 y1 y2 y3 => (K .ret (tabl (T113_0 y0 y1 y2 y3)))) (fun y0 y1 y2 y3 => (K (.exit 0) (tabl (T113_0 y0 y1 y2 y3)))) n x0 x1 x2 x3) := by
  intro n
  induction n with
  | zero => exact (fun _ _ _ _ => rfl)
  | succ n ih =>
    have e0 : (fun x0 x1 x2 x3 => iter (exc E113 (it113 N) (loopOf Try.f113 4)) (canon (E113.keep 4))  n (tabl (T113_0 x0 x1 x2 x3)) K) = Pu.laws_eqStringS.l4 N (fun y0 y1 y2 y3 => (K .ret (tabl (T113_0 y0 y1 y2 y3)))) (fun y0 y1 y2 y3 => (K (.exit 0) (tabl (T113_0 y0 y1 y2 y3)))) n := by funext x0 x1 x2 x3; exact ih x0 x1 x2 x3
    intro x0 x1 x2 x3
    have h : ∀ g, exc E113 (it113 N) (loopOf Try.f113 4) (tabl (T113_0 x0 x1 x2 x3)) (iterK g (canon (E113.keep 4)) K) = Pu.laws_eqStringS.r4 N (fun x0 x1 x2 x3 => (g (tabl (T113_0 x0 x1 x2 x3)))) (fun y0 y1 y2 y3 => (K .ret (tabl (T113_0 y0 y1 y2 y3)))) (fun y0 y1 y2 y3 => (K (.exit 0) (tabl (T113_0 y0 y1 y2 y3)))) x0 x1 x2 x3 := by intro g; kernel_rfl
    refine (iter_succ _ _ n _ K).trans ((h _).trans ?_)
    show Pu.laws_eqStringS.r4 N (fun x0 x1 x2 x3 => (iter (exc E113 (it113 N) (loopOf Try.f113 4)) (canon (E113.keep 4))  n (tabl (T113_0 x0 x1 x2 x3)) K)) (fun y0 y1 y2 y3 => (K .ret (tabl (T113_0 y0 y1 y2 y3)))) (fun y0 y1 y2 y3 => (K (.exit 0) (tabl (T113_0 y0 y1 y2 y3)))) x0 x1 x2 x3 = _
    rw [e0]; rfl
theorem lo113_4 {R : Type} (N : Nat) : LoopOk E113 (it113 N (R := R)) (loopOf Try.f113 4) := by
  have e : firstRid (loopOf Try.f113 4) = 4 := by kernel_rfl
  intro L K r
  rw [e]
  intro h
  unfold it113 at h
  simp only [show Nat.beq 4 4 = true from rfl, cond_false, cond_true] at h
  refine tell_ok (Q := fun L => ∃ n, iter (exc E113 (it113 N) (loopOf Try.f113 4)) (canon (E113.keep 4)) n (tabl L) K = some r) h (fun xs h => ?_) (fun h => ?_)
  · (try dsimp only at h)
    split at h
    · exact ⟨N, ((e113_4 N K N) _ _ _ _).trans h⟩
    · cases h
  cases h
def sp113 : List Arg → Option (Bool × Res)
  | [(.v false [(.sh 9 a0)]), (.v false [(.sh 9 b1)])] => some (Pu.laws_eqStringS.c a0 b1, ⟨[(.v false [(.b (Pu.laws_eqStringS.v a0 b1))])], []⟩)
  | _ => none
theorem ok113 : FnOk Try.prog T 113 sp113 := by
  refine fn_ok (E := E113) hE call_nil hM Try.func113 (code := (Try.f113.body.getD .skip)) (by kernel_rfl) (by kernel_rfl) ?_
  have key : ∀ (a0 : Row) (b1 : Row), Pu.laws_eqStringS.c a0 b1 = true → ∃ it : It Res, (∀ c ∈ loopsOf (Try.f113.body.getD .skip), LoopOk E113 it c) ∧ body E113 it Try.f113 [(.v false [(.sh 9 a0)]), (.v false [(.sh 9 b1)])] = some ⟨[(.v false [(.b (Pu.laws_eqStringS.v a0 b1))])], []⟩ := by
    intro a0 b1  h1
    obtain ⟨N, hN⟩ := Pu.laws_eqStringS.b_eq (R := Res) (fun r0 => some ⟨[(.v false [(.b r0)])], []⟩) a0 b1 h1
    have hl : loopsOf (Try.f113.body.getD .skip) = [loopOf Try.f113 4] := by kernel_rfl
    refine ⟨it113 N, by rw [hl]; exact (loops_cons (lo113_4 N) loops_nil), ?_⟩
    refine Eq.trans (show body E113 (it113 N) Try.f113 [(.v false [(.sh 9 a0)]), (.v false [(.sh 9 b1)])] = Pu.laws_eqStringS.b N (fun r0 => some ⟨[(.v false [(.b r0)])], []⟩) a0 b1 by kernel_rfl) hN
  intro args r h
  unfold sp113 at h
  split at h
  · injection h with h
    injection h with h1 h2
    subst h2
    exact ⟨by kernel_rfl, fun hf => ⟨of_decide_eq_true (by kernel_rfl), key _ _ h1⟩⟩
  · cases h

end Go.FG.Se

namespace Go.FG.Se
open Go.Proofs
def T226_0 (p0 : Row) (p1 : Row) (p2 : Bool) (p3 : Int) : List (Nat × Cel) := [(0, (.v (.v false [(.sh 3 p0)]))), (2, (.v (.v false [(.sh 3 p1)]))), (8, (.v (.v false [(.b p2)]))), (10, (.v (.v false [(.i .i64 p3)])))]
def E226 : Env := { toTab := T, call := Go.FG.callIn [], mode := Go.FG.modeIn md, keep := Go.FG.keepIn [(4, [0, 1, 4, 5])], tk := fun n => Go.FG.memB n [], om := Go.FG.omIn [] }
def it226 (N : Nat) {R : Type} : It R := fun rid f cn L K => bif Nat.beq rid 4 then (tell [(0, (.v (.v false [(.sh 3 [])]))), (2, (.v (.v false [(.sh 3 [])]))), (8, (.v (.v false [(.b false)]))), (10, (.v (.v false [(.i .i64 0)])))] (fun | [.R x0, .R x1, .B x2, .I x3] => Pu.laws_eqIntS.l4 N (fun y0 y1 y2 y3 => (K .ret (tabl (T226_0 y0 y1 y2 y3)))) (fun y0 y1 y2 y3 => (K (.exit 0) (tabl (T226_0 y0 y1 y2 y3)))) N x0 x1 x2 x3 | _ => none) L (none)) else none
theorem e226_4 {R : Type} (N : Nat) (K : Ex → St → Option R) : ∀ n : Nat, (∀ x0 x1 x2 x3, iter (exc E226 (it226 N) (loopOf Try.f226 4)) (canon (E226.keep 4))  n (tabl (T226_0 x0 x1 x2 x3)) K = Pu.laws_eqIntS.l4 N (fun y0 y1 y2 y3 => (K .ret (tabl (T226_0 y0 y1 y2 y3)))) (fun y0 y1 y2 y3 => (K (.exit 0) (tabl (T226_0 y0 y1 y2 y3)))) n x0 x1 x2 x3) := by
  intro n
  induction n with
  | zero => exact (fun _ _ _ _ => rfl)
  | succ n ih =>
    have e0 : (fun x0 x1 x2 x3 => iter (exc E226 (it226 N) (loopOf Try.f226 4)) (canon (E226.keep 4))  n (tabl (T226_0 x0 x1 x2 x3)) K) = Pu.laws_eqIntS.l4 N (fun y0 y1 y2 y3 => (K .ret (tabl (T226_0 y0 y1 y2 y3)))) (fun y0 y1 y2 y3 => (K (.exit 0) (tabl (T226_0 y0 y1 y2 y3)))) n := by funext x0 x1 x2 x3; exact ih x0 x1 x2 x3
    intro x0 x1 x2 x3
    have h : ∀ g, exc E226 (it226 N) (loopOf Try.f226 4) (tabl (T226_0 x0 x1 x2 x3)) (iterK g (canon (E226.keep 4)) K) = Pu.laws_eqIntS.r4 N (fun x0 x1 x2 x3 => (g (tabl (T226_0 x0 x1 x2 x3)))) (fun y0 y1 y2 y3 => (K .ret (tabl (T226_0 y0 y1 y2 y3)))) (fun y0 y1 y2 y3 => (K (.exit 0) (tabl (T226_0 y0 y1 y2 y3)))) x0 x1 x2 x3 := by intro g; kernel_rfl
    refine (iter_succ _ _ n _ K).trans ((h _).trans ?_)
    show Pu.laws_eqIntS.r4 N (fun x0 x1 x2 x3 => (iter (exc E226 (it226 N) (loopOf Try.f226 4)) (canon (E226.keep 4))  n (tabl (T226_0 x0 x1 x2 x3)) K)) (fun y0 y1 y2 y3 => (K .ret (tabl (T226_0 y0 y1 y2 y3)))) (fun y0 y1 y2 y3 => (K (.exit 0) (tabl (T226_0 y0 y1 y2 y3)))) x0 x1 x2 x3 = _
    rw [e0]; rfl
theorem lo226_4 {R : Type} (N : Nat) : LoopOk E226 (it226 N (R := R)) (loopOf Try.f226 4) := by
  have e : firstRid (loopOf Try.f226 4) = 4 := by kernel_rfl
  intro L K r
  rw [e]
  intro h
  unfold it226 at h
  simp only [show Nat.beq 4 4 = true from rfl, cond_false, cond_true] at h
  refine tell_ok (Q := fun L => ∃ n, iter (exc E226 (it226 N) (loopOf Try.f226 4)) (canon (E226.keep 4)) n (tabl L) K = some r) h (fun xs h => ?_) (fun h => ?_)
  · (try dsimp only at h)
    split at h
    · exact ⟨N, ((e226_4 N K N) _ _ _ _).trans h⟩
    · cases h
  cases h
def sp226 : List Arg → Option (Bool × Res)
  | [(.v false [(.sh 3 a0)]), (.v false [(.sh 3 b1)])] => some (true, ⟨[(.v false [(.b (Pu.laws_eqIntS.v a0 b1))])], []⟩)
  | _ => none
theorem ok226 : FnOk Try.prog T 226 sp226 := by
  refine fn_ok (E := E226) hE call_nil hM Try.func226 (code := (Try.f226.body.getD .skip)) (by kernel_rfl) (by kernel_rfl) ?_
  have key : ∀ (a0 : Row) (b1 : Row), FitR a0 → FitR b1 → ∃ it : It Res, (∀ c ∈ loopsOf (Try.f226.body.getD .skip), LoopOk E226 it c) ∧ body E226 it Try.f226 [(.v false [(.sh 3 a0)]), (.v false [(.sh 3 b1)])] = some ⟨[(.v false [(.b (Pu.laws_eqIntS.v a0 b1))])], []⟩ := by
    intro a0 b1  g0 g1
    obtain ⟨N, hN⟩ := Pu.laws_eqIntS.b_eq (R := Res) (fun r0 => some ⟨[(.v false [(.b r0)])], []⟩) a0 b1 g0 g1
    have hl : loopsOf (Try.f226.body.getD .skip) = [loopOf Try.f226 4] := by kernel_rfl
    refine ⟨it226 N, by rw [hl]; exact (loops_cons (lo226_4 N) loops_nil), ?_⟩
    refine Eq.trans (show body E226 (it226 N) Try.f226 [(.v false [(.sh 3 a0)]), (.v false [(.sh 3 b1)])] = Pu.laws_eqIntS.b N (fun r0 => some ⟨[(.v false [(.b r0)])], []⟩) a0 b1 by kernel_rfl) hN
  intro args r h
  unfold sp226 at h
  split at h
  · injection h with h
    injection h with h1 h2
    subst h2
    exact ⟨by kernel_rfl, fun hf => ⟨of_decide_eq_true (by kernel_rfl), key _ _ hf.1.1 hf.2.1.1⟩⟩
  · cases h

end Go.FG.Se

namespace Go.FG.Se
open Go.Proofs
def T194_0 (p0 : Row) (p1 : Row) (p2 : Bool) (p3 : Int) : List (Nat × Cel) := [(0, (.v (.v false [(.sh 30 p0)]))), (2, (.v (.v false [(.sh 30 p1)]))), (8, (.v (.v false [(.b p2)]))), (10, (.v (.v false [(.i .i64 p3)])))]
def E194 : Env := { toTab := T, call := Go.FG.callIn [(226, sp226)], mode := Go.FG.modeIn md, keep := Go.FG.keepIn [(4, [0, 1, 4, 5])], tk := fun n => Go.FG.memB n [], om := Go.FG.omIn [] }
def it194 (N : Nat) {R : Type} : It R := fun rid f cn L K => bif Nat.beq rid 4 then (tell [(0, (.v (.v false [(.sh 30 [])]))), (2, (.v (.v false [(.sh 30 [])]))), (8, (.v (.v false [(.b false)]))), (10, (.v (.v false [(.i .i64 0)])))] (fun | [.R x0, .R x1, .B x2, .I x3] => Pu.laws_eqIntSS.l4 N (fun y0 y1 y2 y3 => (K .ret (tabl (T194_0 y0 y1 y2 y3)))) (fun y0 y1 y2 y3 => (K (.exit 0) (tabl (T194_0 y0 y1 y2 y3)))) N x0 x1 x2 x3 | _ => none) L (none)) else none
theorem e194_4 {R : Type} (N : Nat) (K : Ex → St → Option R) : ∀ n : Nat, (∀ x0 x1 x2 x3, iter (exc E194 (it194 N) (loopOf Try.f194 4)) (canon (E194.keep 4))  n (tabl (T194_0 x0 x1 x2 x3)) K = Pu.laws_eqIntSS.l4 N (fun y0 y1 y2 y3 => (K .ret (tabl (T194_0 y0 y1 y2 y3)))) (fun y0 y1 y2 y3 => (K (.exit 0) (tabl (T194_0 y0 y1 y2 y3)))) n x0 x1 x2 x3) := by
  intro n
  induction n with
  | zero => exact (fun _ _ _ _ => rfl)
  | succ n ih =>
    have e0 : (fun x0 x1 x2 x3 => iter (exc E194 (it194 N) (loopOf Try.f194 4)) (canon (E194.keep 4))  n (tabl (T194_0 x0 x1 x2 x3)) K) = Pu.laws_eqIntSS.l4 N (fun y0 y1 y2 y3 => (K .ret (tabl (T194_0 y0 y1 y2 y3)))) (fun y0 y1 y2 y3 => (K (.exit 0) (tabl (T194_0 y0 y1 y2 y3)))) n := by funext x0 x1 x2 x3; exact ih x0 x1 x2 x3
    intro x0 x1 x2 x3
    have h : ∀ g, exc E194 (it194 N) (loopOf Try.f194 4) (tabl (T194_0 x0 x1 x2 x3)) (iterK g (canon (E194.keep 4)) K) = Pu.laws_eqIntSS.r4 N (fun x0 x1 x2 x3 => (g (tabl (T194_0 x0 x1 x2 x3)))) (fun y0 y1 y2 y3 => (K .ret (tabl (T194_0 y0 y1 y2 y3)))) (fun y0 y1 y2 y3 => (K (.exit 0) (tabl (T194_0 y0 y1 y2 y3)))) x0 x1 x2 x3 := by intro g; kernel_rfl
    refine (iter_succ _ _ n _ K).trans ((h _).trans ?_)
    show Pu.laws_eqIntSS.r4 N (fun x0 x1 x2 x3 => (iter (exc E194 (it194 N) (loopOf Try.f194 4)) (canon (E194.keep 4))  n (tabl (T194_0 x0 x1 x2 x3)) K)) (fun y0 y1 y2 y3 => (K .ret (tabl (T194_0 y0 y1 y2 y3)))) (fun y0 y1 y2 y3 => (K (.exit 0) (tabl (T194_0 y0 y1 y2 y3)))) x0 x1 x2 x3 = _
    rw [e0]; rfl
theorem lo194_4 {R : Type} (N : Nat) : LoopOk E194 (it194 N (R := R)) (loopOf Try.f194 4) := by
  have e : firstRid (loopOf Try.f194 4) = 4 := by kernel_rfl
  intro L K r
  rw [e]
  intro h
  unfold it194 at h
  simp only [show Nat.beq 4 4 = true from rfl, cond_false, cond_true] at h
  refine tell_ok (Q := fun L => ∃ n, iter (exc E194 (it194 N) (loopOf Try.f194 4)) (canon (E194.keep 4)) n (tabl L) K = some r) h (fun xs h => ?_) (fun h => ?_)
  · (try dsimp only at h)
    split at h
    · exact ⟨N, ((e194_4 N K N) _ _ _ _).trans h⟩
    · cases h
  cases h
def sp194 : List Arg → Option (Bool × Res)
  | [(.v false [(.sh 30 a0)]), (.v false [(.sh 30 b1)])] => some (Pu.laws_eqIntSS.c a0 b1, ⟨[(.v false [(.b (Pu.laws_eqIntSS.v a0 b1))])], []⟩)
  | _ => none
theorem ok194 : FnOk Try.prog T 194 sp194 := by
  refine fn_ok (E := E194) hE (call_cons ok226 call_nil) hM Try.func194 (code := (Try.f194.body.getD .skip)) (by kernel_rfl) (by kernel_rfl) ?_
  have key : ∀ (a0 : Row) (b1 : Row), Pu.laws_eqIntSS.c a0 b1 = true → ∃ it : It Res, (∀ c ∈ loopsOf (Try.f194.body.getD .skip), LoopOk E194 it c) ∧ body E194 it Try.f194 [(.v false [(.sh 30 a0)]), (.v false [(.sh 30 b1)])] = some ⟨[(.v false [(.b (Pu.laws_eqIntSS.v a0 b1))])], []⟩ := by
    intro a0 b1  h1
    obtain ⟨N, hN⟩ := Pu.laws_eqIntSS.b_eq (R := Res) (fun r0 => some ⟨[(.v false [(.b r0)])], []⟩) a0 b1 h1
    have hl : loopsOf (Try.f194.body.getD .skip) = [loopOf Try.f194 4] := by kernel_rfl
    refine ⟨it194 N, by rw [hl]; exact (loops_cons (lo194_4 N) loops_nil), ?_⟩
    refine Eq.trans (show body E194 (it194 N) Try.f194 [(.v false [(.sh 30 a0)]), (.v false [(.sh 30 b1)])] = Pu.laws_eqIntSS.b N (fun r0 => some ⟨[(.v false [(.b r0)])], []⟩) a0 b1 by kernel_rfl) hN
  intro args r h
  unfold sp194 at h
  split at h
  · injection h with h
    injection h with h1 h2
    subst h2
    exact ⟨by kernel_rfl, fun hf => ⟨of_decide_eq_true (by kernel_rfl), key _ _ h1⟩⟩
  · cases h

end Go.FG.Se

namespace Go.FG.Se
open Go.Proofs
def E114 : Env := { toTab := T, call := Go.FG.callIn [(194, sp194)], mode := Go.FG.modeIn md, keep := Go.FG.keepIn [], tk := fun n => Go.FG.memB n [], om := Go.FG.omIn [] }
def sp114 : List Arg → Option (Bool × Res)
  | [(.v true [(.sh 30 a0_0), (.i .i64 a0_1)]), (.v true [(.sh 30 b1_0), (.i .i64 b1_1)])] => some (Pu.laws_eqSketch.c a0_0 a0_1 b1_0 b1_1, ⟨[(.v false [(.b (Pu.laws_eqSketch.v a0_0 a0_1 b1_0 b1_1))])], []⟩)
  | _ => none
theorem ok114 : FnOk Try.prog T 114 sp114 := by
  refine fn_ok (E := E114) hE (call_cons ok194 call_nil) hM Try.func114 (code := (Try.f114.body.getD .skip)) (by kernel_rfl) (by kernel_rfl) ?_
  have key : ∀ (a0_0 : Row) (a0_1 : Int) (b1_0 : Row) (b1_1 : Int), Pu.laws_eqSketch.c a0_0 a0_1 b1_0 b1_1 = true → ∃ it : It Res, (∀ c ∈ loopsOf (Try.f114.body.getD .skip), LoopOk E114 it c) ∧ body E114 it Try.f114 [(.v true [(.sh 30 a0_0), (.i .i64 a0_1)]), (.v true [(.sh 30 b1_0), (.i .i64 b1_1)])] = some ⟨[(.v false [(.b (Pu.laws_eqSketch.v a0_0 a0_1 b1_0 b1_1))])], []⟩ := by
    intro a0_0 a0_1 b1_0 b1_1  h1
    have hN := Pu.laws_eqSketch.b_eq (R := Res) (fun r0 => some ⟨[(.v false [(.b r0)])], []⟩) a0_0 a0_1 b1_0 b1_1 h1
    have hl : loopsOf (Try.f114.body.getD .skip) = [] := by kernel_rfl
    refine ⟨iterN 0, by rw [hl]; exact loops_nil, ?_⟩
    refine Eq.trans (show body E114 (iterN 0) Try.f114 [(.v true [(.sh 30 a0_0), (.i .i64 a0_1)]), (.v true [(.sh 30 b1_0), (.i .i64 b1_1)])] = Pu.laws_eqSketch.b (fun r0 => some ⟨[(.v false [(.b r0)])], []⟩) a0_0 a0_1 b1_0 b1_1 by kernel_rfl) hN
  intro args r h
  unfold sp114 at h
  split at h
  · injection h with h
    injection h with h1 h2
    subst h2
    exact ⟨by kernel_rfl, fun hf => ⟨of_decide_eq_true (by kernel_rfl), key _ _ _ _ h1⟩⟩
  · cases h

end Go.FG.Se

namespace Go.FG.Se
open Go.Proofs
def E35 : Env := { toTab := T, call := Go.FG.callIn [(113, sp113), (114, sp114)], mode := Go.FG.modeIn md, keep := Go.FG.keepIn [], tk := fun n => Go.FG.memB n [], om := Go.FG.omIn [] }
def sp35 : List Arg → Option (Bool × Res)
  | [(.v true [(.sh 9 a0_0), (.sh 9 a0_1), (.sh 30 a0_2), (.i .i64 a0_3)]), (.v true [(.sh 9 b1_0), (.sh 9 b1_1), (.sh 30 b1_2), (.i .i64 b1_3)])] => some (Pu.laws_eqPolicy.c a0_0 a0_1 a0_2 a0_3 b1_0 b1_1 b1_2 b1_3, ⟨[(.v false [(.b (Pu.laws_eqPolicy.v a0_0 a0_1 a0_2 a0_3 b1_0 b1_1 b1_2 b1_3))])], []⟩)
  | _ => none
theorem ok35 : FnOk Try.prog T 35 sp35 := by
  refine fn_ok (E := E35) hE (call_cons ok113 (call_cons ok114 call_nil)) hM Try.func35 (code := (Try.f35.body.getD .skip)) (by kernel_rfl) (by kernel_rfl) ?_
  have key : ∀ (a0_0 : Row) (a0_1 : Row) (a0_2 : Row) (a0_3 : Int) (b1_0 : Row) (b1_1 : Row) (b1_2 : Row) (b1_3 : Int), Pu.laws_eqPolicy.c a0_0 a0_1 a0_2 a0_3 b1_0 b1_1 b1_2 b1_3 = true → ∃ it : It Res, (∀ c ∈ loopsOf (Try.f35.body.getD .skip), LoopOk E35 it c) ∧ body E35 it Try.f35 [(.v true [(.sh 9 a0_0), (.sh 9 a0_1), (.sh 30 a0_2), (.i .i64 a0_3)]), (.v true [(.sh 9 b1_0), (.sh 9 b1_1), (.sh 30 b1_2), (.i .i64 b1_3)])] = some ⟨[(.v false [(.b (Pu.laws_eqPolicy.v a0_0 a0_1 a0_2 a0_3 b1_0 b1_1 b1_2 b1_3))])], []⟩ := by
    intro a0_0 a0_1 a0_2 a0_3 b1_0 b1_1 b1_2 b1_3  h1
    have hN := Pu.laws_eqPolicy.b_eq (R := Res) (fun r0 => some ⟨[(.v false [(.b r0)])], []⟩) a0_0 a0_1 a0_2 a0_3 b1_0 b1_1 b1_2 b1_3 h1
    have hl : loopsOf (Try.f35.body.getD .skip) = [] := by kernel_rfl
    refine ⟨iterN 0, by rw [hl]; exact loops_nil, ?_⟩
    refine Eq.trans (show body E35 (iterN 0) Try.f35 [(.v true [(.sh 9 a0_0), (.sh 9 a0_1), (.sh 30 a0_2), (.i .i64 a0_3)]), (.v true [(.sh 9 b1_0), (.sh 9 b1_1), (.sh 30 b1_2), (.i .i64 b1_3)])] = Pu.laws_eqPolicy.b (fun r0 => some ⟨[(.v false [(.b r0)])], []⟩) a0_0 a0_1 a0_2 a0_3 b1_0 b1_1 b1_2 b1_3 by kernel_rfl) hN
  intro args r h
  unfold sp35 at h
  split at h
  · injection h with h
    injection h with h1 h2
    subst h2
    exact ⟨by kernel_rfl, fun hf => ⟨of_decide_eq_true (by kernel_rfl), key _ _ _ _ _ _ _ _ h1⟩⟩
  · cases h

end Go.FG.Se

namespace Go.FG.Se
open Go.Proofs
def E206 : Env := { toTab := T, call := Go.FG.callIn [], mode := Go.FG.modeIn md, keep := Go.FG.keepIn [], tk := fun n => Go.FG.memB n [], om := Go.FG.omIn [] }
def sp206 : List Arg → Option (Bool × Res)
  | [(.v true [(.s a0_0), (.s a0_1), (.i .i64 a0_2), (.i .i64 a0_3), (.i .i64 a0_4)]), (.v true [(.s b1_0), (.s b1_1), (.i .i64 b1_2), (.i .i64 b1_3), (.i .i64 b1_4)])] => some (true, ⟨[(.v false [(.b (Pu.laws_eqFetch.v a0_0 a0_1 a0_2 a0_3 a0_4 b1_0 b1_1 b1_2 b1_3 b1_4))])], []⟩)
  | _ => none
theorem ok206 : FnOk Try.prog T 206 sp206 := by
  refine fn_ok (E := E206) hE call_nil hM Try.func206 (code := (Try.f206.body.getD .skip)) (by kernel_rfl) (by kernel_rfl) ?_
  have key : ∀ (a0_0 : ByteArray) (a0_1 : ByteArray) (a0_2 : Int) (a0_3 : Int) (a0_4 : Int) (b1_0 : ByteArray) (b1_1 : ByteArray) (b1_2 : Int) (b1_3 : Int) (b1_4 : Int), ∃ it : It Res, (∀ c ∈ loopsOf (Try.f206.body.getD .skip), LoopOk E206 it c) ∧ body E206 it Try.f206 [(.v true [(.s a0_0), (.s a0_1), (.i .i64 a0_2), (.i .i64 a0_3), (.i .i64 a0_4)]), (.v true [(.s b1_0), (.s b1_1), (.i .i64 b1_2), (.i .i64 b1_3), (.i .i64 b1_4)])] = some ⟨[(.v false [(.b (Pu.laws_eqFetch.v a0_0 a0_1 a0_2 a0_3 a0_4 b1_0 b1_1 b1_2 b1_3 b1_4))])], []⟩ := by
    intro a0_0 a0_1 a0_2 a0_3 a0_4 b1_0 b1_1 b1_2 b1_3 b1_4 
    have hN := Pu.laws_eqFetch.b_eq (R := Res) (fun r0 => some ⟨[(.v false [(.b r0)])], []⟩) a0_0 a0_1 a0_2 a0_3 a0_4 b1_0 b1_1 b1_2 b1_3 b1_4
    have hl : loopsOf (Try.f206.body.getD .skip) = [] := by kernel_rfl
    refine ⟨iterN 0, by rw [hl]; exact loops_nil, ?_⟩
    refine Eq.trans (show body E206 (iterN 0) Try.f206 [(.v true [(.s a0_0), (.s a0_1), (.i .i64 a0_2), (.i .i64 a0_3), (.i .i64 a0_4)]), (.v true [(.s b1_0), (.s b1_1), (.i .i64 b1_2), (.i .i64 b1_3), (.i .i64 b1_4)])] = Pu.laws_eqFetch.b (fun r0 => some ⟨[(.v false [(.b r0)])], []⟩) a0_0 a0_1 a0_2 a0_3 a0_4 b1_0 b1_1 b1_2 b1_3 b1_4 by kernel_rfl) hN
  intro args r h
  unfold sp206 at h
  split at h
  · injection h with h
    injection h with h1 h2
    subst h2
    exact ⟨by kernel_rfl, fun hf => ⟨of_decide_eq_true (by kernel_rfl), key _ _ _ _ _ _ _ _ _ _⟩⟩
  · cases h

end Go.FG.Se

namespace Go.FG.Se
open Go.Proofs
def T129_0 (p0 : Row) (p1 : Row) (p2 : Bool) (p3 : Int) : List (Nat × Cel) := [(0, (.v (.v false [(.sh 126 p0)]))), (2, (.v (.v false [(.sh 126 p1)]))), (8, (.v (.v false [(.b p2)]))), (10, (.v (.v false [(.i .i64 p3)])))]
def E129 : Env := { toTab := T, call := Go.FG.callIn [(206, sp206)], mode := Go.FG.modeIn md, keep := Go.FG.keepIn [(4, [0, 1, 4, 5])], tk := fun n => Go.FG.memB n [], om := Go.FG.omIn [] }
def it129 (N : Nat) {R : Type} : It R := fun rid f cn L K => bif Nat.beq rid 4 then (tell [(0, (.v (.v false [(.sh 126 [])]))), (2, (.v (.v false [(.sh 126 [])]))), (8, (.v (.v false [(.b false)]))), (10, (.v (.v false [(.i .i64 0)])))] (fun | [.R x0, .R x1, .B x2, .I x3] => Pu.laws_eqFetchS.l4 N (fun y0 y1 y2 y3 => (K .ret (tabl (T129_0 y0 y1 y2 y3)))) (fun y0 y1 y2 y3 => (K (.exit 0) (tabl (T129_0 y0 y1 y2 y3)))) N x0 x1 x2 x3 | _ => none) L (none)) else none
theorem e129_4 {R : Type} (N : Nat) (K : Ex → St → Option R) : ∀ n : Nat, (∀ x0 x1 x2 x3, iter (exc E129 (it129 N) (loopOf Try.f129 4)) (canon (E129.keep 4))  n (tabl (T129_0 x0 x1 x2 x3)) K = Pu.laws_eqFetchS.l4 N (fun y0 y1 y2 y3 => (K .ret (tabl (T129_0 y0 y1 y2 y3)))) (fun y0 y1 y2 y3 => (K (.exit 0) (tabl (T129_0 y0 y1 y2 y3)))) n x0 x1 x2 x3) := by
  intro n
  induction n with
  | zero => exact (fun _ _ _ _ => rfl)
  | succ n ih =>
    have e0 : (fun x0 x1 x2 x3 => iter (exc E129 (it129 N) (loopOf Try.f129 4)) (canon (E129.keep 4))  n (tabl (T129_0 x0 x1 x2 x3)) K) = Pu.laws_eqFetchS.l4 N (fun y0 y1 y2 y3 => (K .ret (tabl (T129_0 y0 y1 y2 y3)))) (fun y0 y1 y2 y3 => (K (.exit 0) (tabl (T129_0 y0 y1 y2 y3)))) n := by funext x0 x1 x2 x3; exact ih x0 x1 x2 x3
    intro x0 x1 x2 x3
    have h : ∀ g, exc E129 (it129 N) (loopOf Try.f129 4) (tabl (T129_0 x0 x1 x2 x3)) (iterK g (canon (E129.keep 4)) K) = Pu.laws_eqFetchS.r4 N (fun x0 x1 x2 x3 => (g (tabl (T129_0 x0 x1 x2 x3)))) (fun y0 y1 y2 y3 => (K .ret (tabl (T129_0 y0 y1 y2 y3)))) (fun y0 y1 y2 y3 => (K (.exit 0) (tabl (T129_0 y0 y1 y2 y3)))) x0 x1 x2 x3 := by intro g; kernel_rfl
    refine (iter_succ _ _ n _ K).trans ((h _).trans ?_)
    show Pu.laws_eqFetchS.r4 N (fun x0 x1 x2 x3 => (iter (exc E129 (it129 N) (loopOf Try.f129 4)) (canon (E129.keep 4))  n (tabl (T129_0 x0 x1 x2 x3)) K)) (fun y0 y1 y2 y3 => (K .ret (tabl (T129_0 y0 y1 y2 y3)))) (fun y0 y1 y2 y3 => (K (.exit 0) (tabl (T129_0 y0 y1 y2 y3)))) x0 x1 x2 x3 = _
    rw [e0]; rfl
theorem lo129_4 {R : Type} (N : Nat) : LoopOk E129 (it129 N (R := R)) (loopOf Try.f129 4) := by
  have e : firstRid (loopOf Try.f129 4) = 4 := by kernel_rfl
  intro L K r
  rw [e]
  intro h
  unfold it129 at h
  simp only [show Nat.beq 4 4 = true from rfl, cond_false, cond_true] at h
  refine tell_ok (Q := fun L => ∃ n, iter (exc E129 (it129 N) (loopOf Try.f129 4)) (canon (E129.keep 4)) n (tabl L) K = some r) h (fun xs h => ?_) (fun h => ?_)
  · (try dsimp only at h)
    split at h
    · exact ⟨N, ((e129_4 N K N) _ _ _ _).trans h⟩
    · cases h
  cases h
def sp129 : List Arg → Option (Bool × Res)
  | [(.v false [(.sh 126 a0)]), (.v false [(.sh 126 b1)])] => some (Pu.laws_eqFetchS.c a0 b1, ⟨[(.v false [(.b (Pu.laws_eqFetchS.v a0 b1))])], []⟩)
  | _ => none
theorem ok129 : FnOk Try.prog T 129 sp129 := by
  refine fn_ok (E := E129) hE (call_cons ok206 call_nil) hM Try.func129 (code := (Try.f129.body.getD .skip)) (by kernel_rfl) (by kernel_rfl) ?_
  have key : ∀ (a0 : Row) (b1 : Row), Pu.laws_eqFetchS.c a0 b1 = true → ∃ it : It Res, (∀ c ∈ loopsOf (Try.f129.body.getD .skip), LoopOk E129 it c) ∧ body E129 it Try.f129 [(.v false [(.sh 126 a0)]), (.v false [(.sh 126 b1)])] = some ⟨[(.v false [(.b (Pu.laws_eqFetchS.v a0 b1))])], []⟩ := by
    intro a0 b1  h1
    obtain ⟨N, hN⟩ := Pu.laws_eqFetchS.b_eq (R := Res) (fun r0 => some ⟨[(.v false [(.b r0)])], []⟩) a0 b1 h1
    have hl : loopsOf (Try.f129.body.getD .skip) = [loopOf Try.f129 4] := by kernel_rfl
    refine ⟨it129 N, by rw [hl]; exact (loops_cons (lo129_4 N) loops_nil), ?_⟩
    refine Eq.trans (show body E129 (it129 N) Try.f129 [(.v false [(.sh 126 a0)]), (.v false [(.sh 126 b1)])] = Pu.laws_eqFetchS.b N (fun r0 => some ⟨[(.v false [(.b r0)])], []⟩) a0 b1 by kernel_rfl) hN
  intro args r h
  unfold sp129 at h
  split at h
  · injection h with h
    injection h with h1 h2
    subst h2
    exact ⟨by kernel_rfl, fun hf => ⟨of_decide_eq_true (by kernel_rfl), key _ _ h1⟩⟩
  · cases h

end Go.FG.Se

namespace Go.FG.Se
open Go.Proofs
def E207 : Env := { toTab := T, call := Go.FG.callIn [], mode := Go.FG.modeIn md, keep := Go.FG.keepIn [], tk := fun n => Go.FG.memB n [], om := Go.FG.omIn [] }
def sp207 : List Arg → Option (Bool × Res)
  | [(.v true [(.i .i64 a0_0), (.s a0_1), (.i .i64 a0_2), (.i .i64 a0_3), (.i .i64 a0_4), (.s a0_5), (.i .i64 a0_6)]), (.v true [(.i .i64 b1_0), (.s b1_1), (.i .i64 b1_2), (.i .i64 b1_3), (.i .i64 b1_4), (.s b1_5), (.i .i64 b1_6)])] => some (true, ⟨[(.v false [(.b (Pu.laws_eqClient.v a0_0 a0_1 a0_2 a0_3 a0_4 a0_5 a0_6 b1_0 b1_1 b1_2 b1_3 b1_4 b1_5 b1_6))])], []⟩)
  | _ => none
theorem ok207 : FnOk Try.prog T 207 sp207 := by
  refine fn_ok (E := E207) hE call_nil hM Try.func207 (code := (Try.f207.body.getD .skip)) (by kernel_rfl) (by kernel_rfl) ?_
  have key : ∀ (a0_0 : Int) (a0_1 : ByteArray) (a0_2 : Int) (a0_3 : Int) (a0_4 : Int) (a0_5 : ByteArray) (a0_6 : Int) (b1_0 : Int) (b1_1 : ByteArray) (b1_2 : Int) (b1_3 : Int) (b1_4 : Int) (b1_5 : ByteArray) (b1_6 : Int), ∃ it : It Res, (∀ c ∈ loopsOf (Try.f207.body.getD .skip), LoopOk E207 it c) ∧ body E207 it Try.f207 [(.v true [(.i .i64 a0_0), (.s a0_1), (.i .i64 a0_2), (.i .i64 a0_3), (.i .i64 a0_4), (.s a0_5), (.i .i64 a0_6)]), (.v true [(.i .i64 b1_0), (.s b1_1), (.i .i64 b1_2), (.i .i64 b1_3), (.i .i64 b1_4), (.s b1_5), (.i .i64 b1_6)])] = some ⟨[(.v false [(.b (Pu.laws_eqClient.v a0_0 a0_1 a0_2 a0_3 a0_4 a0_5 a0_6 b1_0 b1_1 b1_2 b1_3 b1_4 b1_5 b1_6))])], []⟩ := by
    intro a0_0 a0_1 a0_2 a0_3 a0_4 a0_5 a0_6 b1_0 b1_1 b1_2 b1_3 b1_4 b1_5 b1_6 
    have hN := Pu.laws_eqClient.b_eq (R := Res) (fun r0 => some ⟨[(.v false [(.b r0)])], []⟩) a0_0 a0_1 a0_2 a0_3 a0_4 a0_5 a0_6 b1_0 b1_1 b1_2 b1_3 b1_4 b1_5 b1_6
    have hl : loopsOf (Try.f207.body.getD .skip) = [] := by kernel_rfl
    refine ⟨iterN 0, by rw [hl]; exact loops_nil, ?_⟩
    refine Eq.trans (show body E207 (iterN 0) Try.f207 [(.v true [(.i .i64 a0_0), (.s a0_1), (.i .i64 a0_2), (.i .i64 a0_3), (.i .i64 a0_4), (.s a0_5), (.i .i64 a0_6)]), (.v true [(.i .i64 b1_0), (.s b1_1), (.i .i64 b1_2), (.i .i64 b1_3), (.i .i64 b1_4), (.s b1_5), (.i .i64 b1_6)])] = Pu.laws_eqClient.b (fun r0 => some ⟨[(.v false [(.b r0)])], []⟩) a0_0 a0_1 a0_2 a0_3 a0_4 a0_5 a0_6 b1_0 b1_1 b1_2 b1_3 b1_4 b1_5 b1_6 by kernel_rfl) hN
  intro args r h
  unfold sp207 at h
  split at h
  · injection h with h
    injection h with h1 h2
    subst h2
    exact ⟨by kernel_rfl, fun hf => ⟨of_decide_eq_true (by kernel_rfl), key _ _ _ _ _ _ _ _ _ _ _ _ _ _⟩⟩
  · cases h

end Go.FG.Se

namespace Go.FG.Se
open Go.Proofs
def T130_0 (p0 : Row) (p1 : Row) (p2 : Bool) (p3 : Int) : List (Nat × Cel) := [(0, (.v (.v false [(.sh 62 p0)]))), (2, (.v (.v false [(.sh 62 p1)]))), (8, (.v (.v false [(.b p2)]))), (10, (.v (.v false [(.i .i64 p3)])))]
def E130 : Env := { toTab := T, call := Go.FG.callIn [(207, sp207)], mode := Go.FG.modeIn md, keep := Go.FG.keepIn [(4, [0, 1, 4, 5])], tk := fun n => Go.FG.memB n [], om := Go.FG.omIn [] }
def it130 (N : Nat) {R : Type} : It R := fun rid f cn L K => bif Nat.beq rid 4 then (tell [(0, (.v (.v false [(.sh 62 [])]))), (2, (.v (.v false [(.sh 62 [])]))), (8, (.v (.v false [(.b false)]))), (10, (.v (.v false [(.i .i64 0)])))] (fun | [.R x0, .R x1, .B x2, .I x3] => Pu.laws_eqClientS.l4 N (fun y0 y1 y2 y3 => (K .ret (tabl (T130_0 y0 y1 y2 y3)))) (fun y0 y1 y2 y3 => (K (.exit 0) (tabl (T130_0 y0 y1 y2 y3)))) N x0 x1 x2 x3 | _ => none) L (none)) else none
theorem e130_4 {R : Type} (N : Nat) (K : Ex → St → Option R) : ∀ n : Nat, (∀ x0 x1 x2 x3, iter (exc E130 (it130 N) (loopOf Try.f130 4)) (canon (E130.keep 4))  n (tabl (T130_0 x0 x1 x2 x3)) K = Pu.laws_eqClientS.l4 N (fun y0 y1 y2 y3 => (K .ret (tabl (T130_0 y0 y1 y2 y3)))) (fun y0 y1 y2 y3 => (K (.exit 0) (tabl (T130_0 y0 y1 y2 y3)))) n x0 x1 x2 x3) := by
  intro n
  induction n with
  | zero => exact (fun _ _ _ _ => rfl)
  | succ n ih =>
    have e0 : (fun x0 x1 x2 x3 => iter (exc E130 (it130 N) (loopOf Try.f130 4)) (canon (E130.keep 4))  n (tabl (T130_0 x0 x1 x2 x3)) K) = Pu.laws_eqClientS.l4 N (fun y0 y1 y2 y3 => (K .ret (tabl (T130_0 y0 y1 y2 y3)))) (fun y0 y1 y2 y3 => (K (.exit 0) (tabl (T130_0 y0 y1 y2 y3)))) n := by funext x0 x1 x2 x3; exact ih x0 x1 x2 x3
    intro x0 x1 x2 x3
    have h : ∀ g, exc E130 (it130 N) (loopOf Try.f130 4) (tabl (T130_0 x0 x1 x2 x3)) (iterK g (canon (E130.keep 4)) K) = Pu.laws_eqClientS.r4 N (fun x0 x1 x2 x3 => (g (tabl (T130_0 x0 x1 x2 x3)))) (fun y0 y1 y2 y3 => (K .ret (tabl (T130_0 y0 y1 y2 y3)))) (fun y0 y1 y2 y3 => (K (.exit 0) (tabl (T130_0 y0 y1 y2 y3)))) x0 x1 x2 x3 := by intro g; kernel_rfl
    refine (iter_succ _ _ n _ K).trans ((h _).trans ?_)
    show Pu.laws_eqClientS.r4 N (fun x0 x1 x2 x3 => (iter (exc E130 (it130 N) (loopOf Try.f130 4)) (canon (E130.keep 4))  n (tabl (T130_0 x0 x1 x2 x3)) K)) (fun y0 y1 y2 y3 => (K .ret (tabl (T130_0 y0 y1 y2 y3)))) (fun y0 y1 y2 y3 => (K (.exit 0) (tabl (T130_0 y0 y1 y2 y3)))) x0 x1 x2 x3 = _
    rw [e0]; rfl
theorem lo130_4 {R : Type} (N : Nat) : LoopOk E130 (it130 N (R := R)) (loopOf Try.f130 4) := by
  have e : firstRid (loopOf Try.f130 4) = 4 := by kernel_rfl
  intro L K r
  rw [e]
  intro h
  unfold it130 at h
  simp only [show Nat.beq 4 4 = true from rfl, cond_false, cond_true] at h
  refine tell_ok (Q := fun L => ∃ n, iter (exc E130 (it130 N) (loopOf Try.f130 4)) (canon (E130.keep 4)) n (tabl L) K = some r) h (fun xs h => ?_) (fun h => ?_)
  · (try dsimp only at h)
    split at h
    · exact ⟨N, ((e130_4 N K N) _ _ _ _).trans h⟩
    · cases h
  cases h
def sp130 : List Arg → Option (Bool × Res)
  | [(.v false [(.sh 62 a0)]), (.v false [(.sh 62 b1)])] => some (Pu.laws_eqClientS.c a0 b1, ⟨[(.v false [(.b (Pu.laws_eqClientS.v a0 b1))])], []⟩)
  | _ => none
theorem ok130 : FnOk Try.prog T 130 sp130 := by
  refine fn_ok (E := E130) hE (call_cons ok207 call_nil) hM Try.func130 (code := (Try.f130.body.getD .skip)) (by kernel_rfl) (by kernel_rfl) ?_
  have key : ∀ (a0 : Row) (b1 : Row), Pu.laws_eqClientS.c a0 b1 = true → ∃ it : It Res, (∀ c ∈ loopsOf (Try.f130.body.getD .skip), LoopOk E130 it c) ∧ body E130 it Try.f130 [(.v false [(.sh 62 a0)]), (.v false [(.sh 62 b1)])] = some ⟨[(.v false [(.b (Pu.laws_eqClientS.v a0 b1))])], []⟩ := by
    intro a0 b1  h1
    obtain ⟨N, hN⟩ := Pu.laws_eqClientS.b_eq (R := Res) (fun r0 => some ⟨[(.v false [(.b r0)])], []⟩) a0 b1 h1
    have hl : loopsOf (Try.f130.body.getD .skip) = [loopOf Try.f130 4] := by kernel_rfl
    refine ⟨it130 N, by rw [hl]; exact (loops_cons (lo130_4 N) loops_nil), ?_⟩
    refine Eq.trans (show body E130 (it130 N) Try.f130 [(.v false [(.sh 62 a0)]), (.v false [(.sh 62 b1)])] = Pu.laws_eqClientS.b N (fun r0 => some ⟨[(.v false [(.b r0)])], []⟩) a0 b1 by kernel_rfl) hN
  intro args r h
  unfold sp130 at h
  split at h
  · injection h with h
    injection h with h1 h2
    subst h2
    exact ⟨by kernel_rfl, fun hf => ⟨of_decide_eq_true (by kernel_rfl), key _ _ h1⟩⟩
  · cases h

end Go.FG.Se

namespace Go.FG.Se
open Go.Proofs
def E41 : Env := { toTab := T, call := Go.FG.callIn [(128, sp128), (35, sp35), (129, sp129), (130, sp130)], mode := Go.FG.modeIn md, keep := Go.FG.keepIn [], tk := fun n => Go.FG.memB n [], om := Go.FG.omIn [] }
def sp41 : List Arg → Option (Bool × Res)
  | [(.v true [(.i .i64 a0_0), (.sh 86 a0_1), (.sh 9 a0_2), (.sh 9 a0_3), (.sh 30 a0_4), (.i .i64 a0_5), (.sh 126 a0_6), (.sh 62 a0_7), (.i .i64 a0_8)]), (.v true [(.i .i64 b1_0), (.sh 86 b1_1), (.sh 9 b1_2), (.sh 9 b1_3), (.sh 30 b1_4), (.i .i64 b1_5), (.sh 126 b1_6), (.sh 62 b1_7), (.i .i64 b1_8)])] => some (Pu.laws_eqProxy.c a0_0 a0_1 a0_2 a0_3 a0_4 a0_5 a0_6 a0_7 a0_8 b1_0 b1_1 b1_2 b1_3 b1_4 b1_5 b1_6 b1_7 b1_8, ⟨[(.v false [(.b (Pu.laws_eqProxy.v a0_0 a0_1 a0_2 a0_3 a0_4 a0_5 a0_6 a0_7 a0_8 b1_0 b1_1 b1_2 b1_3 b1_4 b1_5 b1_6 b1_7 b1_8))])], []⟩)
  | _ => none
theorem ok41 : FnOk Try.prog T 41 sp41 := by
  refine fn_ok (E := E41) hE (call_cons ok128 (call_cons ok35 (call_cons ok129 (call_cons ok130 call_nil)))) hM Try.func41 (code := (Try.f41.body.getD .skip)) (by kernel_rfl) (by kernel_rfl) ?_
  have key : ∀ (a0_0 : Int) (a0_1 : Row) (a0_2 : Row) (a0_3 : Row) (a0_4 : Row) (a0_5 : Int) (a0_6 : Row) (a0_7 : Row) (a0_8 : Int) (b1_0 : Int) (b1_1 : Row) (b1_2 : Row) (b1_3 : Row) (b1_4 : Row) (b1_5 : Int) (b1_6 : Row) (b1_7 : Row) (b1_8 : Int), Pu.laws_eqProxy.c a0_0 a0_1 a0_2 a0_3 a0_4 a0_5 a0_6 a0_7 a0_8 b1_0 b1_1 b1_2 b1_3 b1_4 b1_5 b1_6 b1_7 b1_8 = true → ∃ it : It Res, (∀ c ∈ loopsOf (Try.f41.body.getD .skip), LoopOk E41 it c) ∧ body E41 it Try.f41 [(.v true [(.i .i64 a0_0), (.sh 86 a0_1), (.sh 9 a0_2), (.sh 9 a0_3), (.sh 30 a0_4), (.i .i64 a0_5), (.sh 126 a0_6), (.sh 62 a0_7), (.i .i64 a0_8)]), (.v true [(.i .i64 b1_0), (.sh 86 b1_1), (.sh 9 b1_2), (.sh 9 b1_3), (.sh 30 b1_4), (.i .i64 b1_5), (.sh 126 b1_6), (.sh 62 b1_7), (.i .i64 b1_8)])] = some ⟨[(.v false [(.b (Pu.laws_eqProxy.v a0_0 a0_1 a0_2 a0_3 a0_4 a0_5 a0_6 a0_7 a0_8 b1_0 b1_1 b1_2 b1_3 b1_4 b1_5 b1_6 b1_7 b1_8))])], []⟩ := by
    intro a0_0 a0_1 a0_2 a0_3 a0_4 a0_5 a0_6 a0_7 a0_8 b1_0 b1_1 b1_2 b1_3 b1_4 b1_5 b1_6 b1_7 b1_8  h1
    have hN := Pu.laws_eqProxy.b_eq (R := Res) (fun r0 => some ⟨[(.v false [(.b r0)])], []⟩) a0_0 a0_1 a0_2 a0_3 a0_4 a0_5 a0_6 a0_7 a0_8 b1_0 b1_1 b1_2 b1_3 b1_4 b1_5 b1_6 b1_7 b1_8 h1
    have hl : loopsOf (Try.f41.body.getD .skip) = [] := by kernel_rfl
    refine ⟨iterN 0, by rw [hl]; exact loops_nil, ?_⟩
    refine Eq.trans (show body E41 (iterN 0) Try.f41 [(.v true [(.i .i64 a0_0), (.sh 86 a0_1), (.sh 9 a0_2), (.sh 9 a0_3), (.sh 30 a0_4), (.i .i64 a0_5), (.sh 126 a0_6), (.sh 62 a0_7), (.i .i64 a0_8)]), (.v true [(.i .i64 b1_0), (.sh 86 b1_1), (.sh 9 b1_2), (.sh 9 b1_3), (.sh 30 b1_4), (.i .i64 b1_5), (.sh 126 b1_6), (.sh 62 b1_7), (.i .i64 b1_8)])] = Pu.laws_eqProxy.b (fun r0 => some ⟨[(.v false [(.b r0)])], []⟩) a0_0 a0_1 a0_2 a0_3 a0_4 a0_5 a0_6 a0_7 a0_8 b1_0 b1_1 b1_2 b1_3 b1_4 b1_5 b1_6 b1_7 b1_8 by kernel_rfl) hN
  intro args r h
  unfold sp41 at h
  split at h
  · injection h with h
    injection h with h1 h2
    subst h2
    exact ⟨by kernel_rfl, fun hf => ⟨of_decide_eq_true (by kernel_rfl), key _ _ _ _ _ _ _ _ _ _ _ _ _ _ _ _ _ _ h1⟩⟩
  · cases h

end Go.FG.Se

namespace Go.FG.Se
open Go.Proofs
def T195_0 (p0 : Int) (p1 : ByteArray) : List (Nat × Cel) := [(0, (.v (.v false [(.i .i64 p0)]))), (6, (.v (.v false [(.s p1)])))]
def E195 : Env := { toTab := T, call := Go.FG.callIn [], mode := Go.FG.modeIn md, keep := Go.FG.keepIn [(4, [0, 3])], tk := fun n => Go.FG.memB n [], om := Go.FG.omIn [] }
def it195 (N : Nat) {R : Type} : It R := fun rid f cn L K => bif Nat.beq rid 4 then (tell [(0, (.v (.v false [(.i .i64 0)]))), (6, (.v (.v false [(.s ⟨#[]⟩)])))] (fun | [.I x0, .S x1] => Pu.laws_markText.l4 N (fun y0 y1 => (K (.exit 0) (tabl (T195_0 y0 y1)))) N x0 x1 | _ => none) L (none)) else none
theorem e195_4 {R : Type} (N : Nat) (K : Ex → St → Option R) : ∀ n : Nat, (∀ x0 x1, iter (exc E195 (it195 N) (loopOf Try.f195 4)) (canon (E195.keep 4))  n (tabl (T195_0 x0 x1)) K = Pu.laws_markText.l4 N (fun y0 y1 => (K (.exit 0) (tabl (T195_0 y0 y1)))) n x0 x1) := by
  intro n
  induction n with
  | zero => exact (fun _ _ => rfl)
  | succ n ih =>
    have e0 : (fun x0 x1 => iter (exc E195 (it195 N) (loopOf Try.f195 4)) (canon (E195.keep 4))  n (tabl (T195_0 x0 x1)) K) = Pu.laws_markText.l4 N (fun y0 y1 => (K (.exit 0) (tabl (T195_0 y0 y1)))) n := by funext x0 x1; exact ih x0 x1
    intro x0 x1
    have h : ∀ g, exc E195 (it195 N) (loopOf Try.f195 4) (tabl (T195_0 x0 x1)) (iterK g (canon (E195.keep 4)) K) = Pu.laws_markText.r4 N (fun x0 x1 => (g (tabl (T195_0 x0 x1)))) (fun y0 y1 => (K (.exit 0) (tabl (T195_0 y0 y1)))) x0 x1 := by intro g; kernel_rfl
    refine (iter_succ _ _ n _ K).trans ((h _).trans ?_)
    show Pu.laws_markText.r4 N (fun x0 x1 => (iter (exc E195 (it195 N) (loopOf Try.f195 4)) (canon (E195.keep 4))  n (tabl (T195_0 x0 x1)) K)) (fun y0 y1 => (K (.exit 0) (tabl (T195_0 y0 y1)))) x0 x1 = _
    rw [e0]; rfl
theorem lo195_4 {R : Type} (N : Nat) : LoopOk E195 (it195 N (R := R)) (loopOf Try.f195 4) := by
  have e : firstRid (loopOf Try.f195 4) = 4 := by kernel_rfl
  intro L K r
  rw [e]
  intro h
  unfold it195 at h
  simp only [show Nat.beq 4 4 = true from rfl, cond_false, cond_true] at h
  refine tell_ok (Q := fun L => ∃ n, iter (exc E195 (it195 N) (loopOf Try.f195 4)) (canon (E195.keep 4)) n (tabl L) K = some r) h (fun xs h => ?_) (fun h => ?_)
  · (try dsimp only at h)
    split at h
    · exact ⟨N, ((e195_4 N K N) _ _).trans h⟩
    · cases h
  cases h
def sp195 : List Arg → Option (Bool × Res)
  | [(.v false [(.i .i64 k0)])] => some (Pu.laws_markText.c k0, ⟨[(.v false [(.s (Pu.laws_markText.v k0))])], []⟩)
  | _ => none
theorem ok195 : FnOk Try.prog T 195 sp195 := by
  refine fn_ok (E := E195) hE call_nil hM Try.func195 (code := (Try.f195.body.getD .skip)) (by kernel_rfl) (by kernel_rfl) ?_
  have key : ∀ (k0 : Int), Pu.laws_markText.c k0 = true → ∃ it : It Res, (∀ c ∈ loopsOf (Try.f195.body.getD .skip), LoopOk E195 it c) ∧ body E195 it Try.f195 [(.v false [(.i .i64 k0)])] = some ⟨[(.v false [(.s (Pu.laws_markText.v k0))])], []⟩ := by
    intro k0  h1
    obtain ⟨N, hN⟩ := Pu.laws_markText.b_eq (R := Res) (fun r0 => some ⟨[(.v false [(.s r0)])], []⟩) k0 h1
    have hl : loopsOf (Try.f195.body.getD .skip) = [loopOf Try.f195 4] := by kernel_rfl
    refine ⟨it195 N, by rw [hl]; exact (loops_cons (lo195_4 N) loops_nil), ?_⟩
    refine Eq.trans (show body E195 (it195 N) Try.f195 [(.v false [(.i .i64 k0)])] = Pu.laws_markText.b N (fun r0 => some ⟨[(.v false [(.s r0)])], []⟩) k0 by kernel_rfl) hN
  intro args r h
  unfold sp195 at h
  split at h
  · injection h with h
    injection h with h1 h2
    subst h2
    exact ⟨by kernel_rfl, fun hf => ⟨of_decide_eq_true (by kernel_rfl), key _ h1⟩⟩
  · cases h

end Go.FG.Se

namespace Go.FG.Se
open Go.Proofs
def T132_0 (p0 : Int) (p1 : Int) (p2 : Row) : List (Nat × Cel) := [(0, (.v (.v false [(.own 900000000)]))), (2, (.v (.v false [(.i .i64 p0)]))), (10, (.v (.v false [(.i .i64 p1)]))), (1800000001, (.o (.row 86 true p2)))]
def E132 : Env := { toTab := T, call := Go.FG.callIn [(195, sp195)], mode := Go.FG.modeIn md, keep := Go.FG.keepIn [(2, [0, 1, 5])], tk := fun n => Go.FG.memB n [], om := Go.FG.omIn [] }
def it132 (N : Nat) {R : Type} : It R := fun rid f cn L K => bif Nat.beq rid 2 then (tell [(0, (.v (.v false [(.own 900000000)]))), (2, (.v (.v false [(.i .i64 0)]))), (10, (.v (.v false [(.i .i64 0)]))), (1800000001, (.o (.row 86 true [])))] (fun | [.I x0, .I x1, .R x2] => Pu.laws_markEntryS.l2 N (fun y0 y1 y2 => (K (.exit 0) (tabl (T132_0 y0 y1 y2)))) N x0 x1 x2 | _ => none) L (none)) else none
theorem e132_2 {R : Type} (N : Nat) (K : Ex → St → Option R) : ∀ n : Nat, (∀ x0 x1 x2, iter (exc E132 (it132 N) (loopOf Try.f132 2)) (canon (E132.keep 2))  n (tabl (T132_0 x0 x1 x2)) K = Pu.laws_markEntryS.l2 N (fun y0 y1 y2 => (K (.exit 0) (tabl (T132_0 y0 y1 y2)))) n x0 x1 x2) := by
  intro n
  induction n with
  | zero => exact (fun _ _ _ => rfl)
  | succ n ih =>
    have e0 : (fun x0 x1 x2 => iter (exc E132 (it132 N) (loopOf Try.f132 2)) (canon (E132.keep 2))  n (tabl (T132_0 x0 x1 x2)) K) = Pu.laws_markEntryS.l2 N (fun y0 y1 y2 => (K (.exit 0) (tabl (T132_0 y0 y1 y2)))) n := by funext x0 x1 x2; exact ih x0 x1 x2
    intro x0 x1 x2
    have h : ∀ g, exc E132 (it132 N) (loopOf Try.f132 2) (tabl (T132_0 x0 x1 x2)) (iterK g (canon (E132.keep 2)) K) = Pu.laws_markEntryS.r2 N (fun x0 x1 x2 => (g (tabl (T132_0 x0 x1 x2)))) (fun y0 y1 y2 => (K (.exit 0) (tabl (T132_0 y0 y1 y2)))) x0 x1 x2 := by intro g; kernel_rfl
    refine (iter_succ _ _ n _ K).trans ((h _).trans ?_)
    show Pu.laws_markEntryS.r2 N (fun x0 x1 x2 => (iter (exc E132 (it132 N) (loopOf Try.f132 2)) (canon (E132.keep 2))  n (tabl (T132_0 x0 x1 x2)) K)) (fun y0 y1 y2 => (K (.exit 0) (tabl (T132_0 y0 y1 y2)))) x0 x1 x2 = _
    rw [e0]; rfl
theorem lo132_2 {R : Type} (N : Nat) : LoopOk E132 (it132 N (R := R)) (loopOf Try.f132 2) := by
  have e : firstRid (loopOf Try.f132 2) = 2 := by kernel_rfl
  intro L K r
  rw [e]
  intro h
  unfold it132 at h
  simp only [show Nat.beq 2 2 = true from rfl, cond_false, cond_true] at h
  refine tell_ok (Q := fun L => ∃ n, iter (exc E132 (it132 N) (loopOf Try.f132 2)) (canon (E132.keep 2)) n (tabl L) K = some r) h (fun xs h => ?_) (fun h => ?_)
  · (try dsimp only at h)
    split at h
    · exact ⟨N, ((e132_2 N K N) _ _ _).trans h⟩
    · cases h
  cases h
def sp132 : List Arg → Option (Bool × Res)
  | [(.v false [(.ow 86 true a0)]), (.v false [(.i .i64 k1)])] => some (Pu.laws_markEntryS.c a0 k1, ⟨[(.v false [(.i .i64 ((Pu.laws_markEntryS.v a0 k1).1))])], [[(.kp ((Pu.laws_markEntryS.v a0 k1).2))]]⟩)
  | _ => none
theorem ok132 : FnOk Try.prog T 132 sp132 := by
  refine fn_ok (E := E132) hE (call_cons ok195 call_nil) hM Try.func132 (code := (Try.f132.body.getD .skip)) (by kernel_rfl) (by kernel_rfl) ?_
  have key : ∀ (a0 : Row) (k1 : Int), Pu.laws_markEntryS.c a0 k1 = true → ∃ it : It Res, (∀ c ∈ loopsOf (Try.f132.body.getD .skip), LoopOk E132 it c) ∧ body E132 it Try.f132 [(.v false [(.ow 86 true a0)]), (.v false [(.i .i64 k1)])] = some ⟨[(.v false [(.i .i64 ((Pu.laws_markEntryS.v a0 k1).1))])], [[(.kp ((Pu.laws_markEntryS.v a0 k1).2))]]⟩ := by
    intro a0 k1  h1
    obtain ⟨N, hN⟩ := Pu.laws_markEntryS.b_eq (R := Res) (fun r0 r1 => some ⟨[(.v false [(.i .i64 r0)])], [[(.kp r1)]]⟩) a0 k1 h1
    have hl : loopsOf (Try.f132.body.getD .skip) = [loopOf Try.f132 2] := by kernel_rfl
    refine ⟨it132 N, by rw [hl]; exact (loops_cons (lo132_2 N) loops_nil), ?_⟩
    refine Eq.trans (show body E132 (it132 N) Try.f132 [(.v false [(.ow 86 true a0)]), (.v false [(.i .i64 k1)])] = Pu.laws_markEntryS.b N (fun r0 r1 => some ⟨[(.v false [(.i .i64 r0)])], [[(.kp r1)]]⟩) a0 k1 by kernel_rfl) hN
  intro args r h
  unfold sp132 at h
  split at h
  · injection h with h
    injection h with h1 h2
    subst h2
    exact ⟨by kernel_rfl, fun hf => ⟨of_decide_eq_true (by kernel_rfl), key _ _ h1⟩⟩
  · cases h

end Go.FG.Se

namespace Go.FG.Se
open Go.Proofs
def T115_0 (p0 : Int) (p1 : Int) (p2 : Row) : List (Nat × Cel) := [(0, (.v (.v false [(.own 900000000)]))), (2, (.v (.v false [(.i .i64 p0)]))), (10, (.v (.v false [(.i .i64 p1)]))), (1800000001, (.o (.row 9 true p2)))]
def E115 : Env := { toTab := T, call := Go.FG.callIn [(195, sp195)], mode := Go.FG.modeIn md, keep := Go.FG.keepIn [(2, [0, 1, 5])], tk := fun n => Go.FG.memB n [], om := Go.FG.omIn [] }
def it115 (N : Nat) {R : Type} : It R := fun rid f cn L K => bif Nat.beq rid 2 then (tell [(0, (.v (.v false [(.own 900000000)]))), (2, (.v (.v false [(.i .i64 0)]))), (10, (.v (.v false [(.i .i64 0)]))), (1800000001, (.o (.row 9 true [])))] (fun | [.I x0, .I x1, .R x2] => Pu.laws_markStringS.l2 N (fun y0 y1 y2 => (K (.exit 0) (tabl (T115_0 y0 y1 y2)))) N x0 x1 x2 | _ => none) L (none)) else none
theorem e115_2 {R : Type} (N : Nat) (K : Ex → St → Option R) : ∀ n : Nat, (∀ x0 x1 x2, iter (exc E115 (it115 N) (loopOf Try.f115 2)) (canon (E115.keep 2))  n (tabl (T115_0 x0 x1 x2)) K = Pu.laws_markStringS.l2 N (fun y0 y1 y2 => (K (.exit 0) (tabl (T115_0 y0 y1 y2)))) n x0 x1 x2) := by
  intro n
  induction n with
  | zero => exact (fun _ _ _ => rfl)
  | succ n ih =>
    have e0 : (fun x0 x1 x2 => iter (exc E115 (it115 N) (loopOf Try.f115 2)) (canon (E115.keep 2))  n (tabl (T115_0 x0 x1 x2)) K) = Pu.laws_markStringS.l2 N (fun y0 y1 y2 => (K (.exit 0) (tabl (T115_0 y0 y1 y2)))) n := by funext x0 x1 x2; exact ih x0 x1 x2
    intro x0 x1 x2
    have h : ∀ g, exc E115 (it115 N) (loopOf Try.f115 2) (tabl (T115_0 x0 x1 x2)) (iterK g (canon (E115.keep 2)) K) = Pu.laws_markStringS.r2 N (fun x0 x1 x2 => (g (tabl (T115_0 x0 x1 x2)))) (fun y0 y1 y2 => (K (.exit 0) (tabl (T115_0 y0 y1 y2)))) x0 x1 x2 := by intro g; kernel_rfl
    refine (iter_succ _ _ n _ K).trans ((h _).trans ?_)
    show Pu.laws_markStringS.r2 N (fun x0 x1 x2 => (iter (exc E115 (it115 N) (loopOf Try.f115 2)) (canon (E115.keep 2))  n (tabl (T115_0 x0 x1 x2)) K)) (fun y0 y1 y2 => (K (.exit 0) (tabl (T115_0 y0 y1 y2)))) x0 x1 x2 = _
    rw [e0]; rfl
theorem lo115_2 {R : Type} (N : Nat) : LoopOk E115 (it115 N (R := R)) (loopOf Try.f115 2) := by
  have e : firstRid (loopOf Try.f115 2) = 2 := by kernel_rfl
  intro L K r
  rw [e]
  intro h
  unfold it115 at h
  simp only [show Nat.beq 2 2 = true from rfl, cond_false, cond_true] at h
  refine tell_ok (Q := fun L => ∃ n, iter (exc E115 (it115 N) (loopOf Try.f115 2)) (canon (E115.keep 2)) n (tabl L) K = some r) h (fun xs h => ?_) (fun h => ?_)
  · (try dsimp only at h)
    split at h
    · exact ⟨N, ((e115_2 N K N) _ _ _).trans h⟩
    · cases h
  cases h
def sp115 : List Arg → Option (Bool × Res)
  | [(.v false [(.ow 9 true a0)]), (.v false [(.i .i64 k1)])] => some (Pu.laws_markStringS.c a0 k1, ⟨[(.v false [(.i .i64 ((Pu.laws_markStringS.v a0 k1).1))])], [[(.kp ((Pu.laws_markStringS.v a0 k1).2))]]⟩)
  | _ => none
theorem ok115 : FnOk Try.prog T 115 sp115 := by
  refine fn_ok (E := E115) hE (call_cons ok195 call_nil) hM Try.func115 (code := (Try.f115.body.getD .skip)) (by kernel_rfl) (by kernel_rfl) ?_
  have key : ∀ (a0 : Row) (k1 : Int), Pu.laws_markStringS.c a0 k1 = true → ∃ it : It Res, (∀ c ∈ loopsOf (Try.f115.body.getD .skip), LoopOk E115 it c) ∧ body E115 it Try.f115 [(.v false [(.ow 9 true a0)]), (.v false [(.i .i64 k1)])] = some ⟨[(.v false [(.i .i64 ((Pu.laws_markStringS.v a0 k1).1))])], [[(.kp ((Pu.laws_markStringS.v a0 k1).2))]]⟩ := by
    intro a0 k1  h1
    obtain ⟨N, hN⟩ := Pu.laws_markStringS.b_eq (R := Res) (fun r0 r1 => some ⟨[(.v false [(.i .i64 r0)])], [[(.kp r1)]]⟩) a0 k1 h1
    have hl : loopsOf (Try.f115.body.getD .skip) = [loopOf Try.f115 2] := by kernel_rfl
    refine ⟨it115 N, by rw [hl]; exact (loops_cons (lo115_2 N) loops_nil), ?_⟩
    refine Eq.trans (show body E115 (it115 N) Try.f115 [(.v false [(.ow 9 true a0)]), (.v false [(.i .i64 k1)])] = Pu.laws_markStringS.b N (fun r0 r1 => some ⟨[(.v false [(.i .i64 r0)])], [[(.kp r1)]]⟩) a0 k1 by kernel_rfl) hN
  intro args r h
  unfold sp115 at h
  split at h
  · injection h with h
    injection h with h1 h2
    subst h2
    exact ⟨by kernel_rfl, fun hf => ⟨of_decide_eq_true (by kernel_rfl), key _ _ h1⟩⟩
  · cases h

end Go.FG.Se

namespace Go.FG.Se
open Go.Proofs
def T227_0 (p0 : Int) (p1 : Int) (p2 : Row) : List (Nat × Cel) := [(0, (.v (.v false [(.own 900000000)]))), (2, (.v (.v false [(.i .i64 p0)]))), (10, (.v (.v false [(.i .i64 p1)]))), (1800000001, (.o (.row 3 true p2)))]
def E227 : Env := { toTab := T, call := Go.FG.callIn [], mode := Go.FG.modeIn md, keep := Go.FG.keepIn [(2, [0, 1, 5])], tk := fun n => Go.FG.memB n [], om := Go.FG.omIn [] }
def it227 (N : Nat) {R : Type} : It R := fun rid f cn L K => bif Nat.beq rid 2 then (tell [(0, (.v (.v false [(.own 900000000)]))), (2, (.v (.v false [(.i .i64 0)]))), (10, (.v (.v false [(.i .i64 0)]))), (1800000001, (.o (.row 3 true [])))] (fun | [.I x0, .I x1, .R x2] => Pu.laws_markIntS.l2 N (fun y0 y1 y2 => (K (.exit 0) (tabl (T227_0 y0 y1 y2)))) N x0 x1 x2 | _ => none) L (none)) else none
theorem e227_2 {R : Type} (N : Nat) (K : Ex → St → Option R) : ∀ n : Nat, (∀ x0 x1 x2, iter (exc E227 (it227 N) (loopOf Try.f227 2)) (canon (E227.keep 2))  n (tabl (T227_0 x0 x1 x2)) K = Pu.laws_markIntS.l2 N (fun y0 y1 y2 => (K (.exit 0) (tabl (T227_0 y0 y1 y2)))) n x0 x1 x2) := by
  intro n
  induction n with
  | zero => exact (fun _ _ _ => rfl)
  | succ n ih =>
    have e0 : (fun x0 x1 x2 => iter (exc E227 (it227 N) (loopOf Try.f227 2)) (canon (E227.keep 2))  n (tabl (T227_0 x0 x1 x2)) K) = Pu.laws_markIntS.l2 N (fun y0 y1 y2 => (K (.exit 0) (tabl (T227_0 y0 y1 y2)))) n := by funext x0 x1 x2; exact ih x0 x1 x2
    intro x0 x1 x2
    have h : ∀ g, exc E227 (it227 N) (loopOf Try.f227 2) (tabl (T227_0 x0 x1 x2)) (iterK g (canon (E227.keep 2)) K) = Pu.laws_markIntS.r2 N (fun x0 x1 x2 => (g (tabl (T227_0 x0 x1 x2)))) (fun y0 y1 y2 => (K (.exit 0) (tabl (T227_0 y0 y1 y2)))) x0 x1 x2 := by intro g; kernel_rfl
    refine (iter_succ _ _ n _ K).trans ((h _).trans ?_)
    show Pu.laws_markIntS.r2 N (fun x0 x1 x2 => (iter (exc E227 (it227 N) (loopOf Try.f227 2)) (canon (E227.keep 2))  n (tabl (T227_0 x0 x1 x2)) K)) (fun y0 y1 y2 => (K (.exit 0) (tabl (T227_0 y0 y1 y2)))) x0 x1 x2 = _
    rw [e0]; rfl
theorem lo227_2 {R : Type} (N : Nat) : LoopOk E227 (it227 N (R := R)) (loopOf Try.f227 2) := by
  have e : firstRid (loopOf Try.f227 2) = 2 := by kernel_rfl
  intro L K r
  rw [e]
  intro h
  unfold it227 at h
  simp only [show Nat.beq 2 2 = true from rfl, cond_false, cond_true] at h
  refine tell_ok (Q := fun L => ∃ n, iter (exc E227 (it227 N) (loopOf Try.f227 2)) (canon (E227.keep 2)) n (tabl L) K = some r) h (fun xs h => ?_) (fun h => ?_)
  · (try dsimp only at h)
    split at h
    · exact ⟨N, ((e227_2 N K N) _ _ _).trans h⟩
    · cases h
  cases h
def sp227 : List Arg → Option (Bool × Res)
  | [(.v false [(.ow 3 true a0)]), (.v false [(.i .i64 k1)])] => some (Pu.laws_markIntS.c a0 k1, ⟨[(.v false [(.i .i64 ((Pu.laws_markIntS.v a0 k1).1))])], [[(.kp ((Pu.laws_markIntS.v a0 k1).2))]]⟩)
  | _ => none
theorem ok227 : FnOk Try.prog T 227 sp227 := by
  refine fn_ok (E := E227) hE call_nil hM Try.func227 (code := (Try.f227.body.getD .skip)) (by kernel_rfl) (by kernel_rfl) ?_
  have key : ∀ (a0 : Row) (k1 : Int), Pu.laws_markIntS.c a0 k1 = true → ∃ it : It Res, (∀ c ∈ loopsOf (Try.f227.body.getD .skip), LoopOk E227 it c) ∧ body E227 it Try.f227 [(.v false [(.ow 3 true a0)]), (.v false [(.i .i64 k1)])] = some ⟨[(.v false [(.i .i64 ((Pu.laws_markIntS.v a0 k1).1))])], [[(.kp ((Pu.laws_markIntS.v a0 k1).2))]]⟩ := by
    intro a0 k1  h1
    obtain ⟨N, hN⟩ := Pu.laws_markIntS.b_eq (R := Res) (fun r0 r1 => some ⟨[(.v false [(.i .i64 r0)])], [[(.kp r1)]]⟩) a0 k1 h1
    have hl : loopsOf (Try.f227.body.getD .skip) = [loopOf Try.f227 2] := by kernel_rfl
    refine ⟨it227 N, by rw [hl]; exact (loops_cons (lo227_2 N) loops_nil), ?_⟩
    refine Eq.trans (show body E227 (it227 N) Try.f227 [(.v false [(.ow 3 true a0)]), (.v false [(.i .i64 k1)])] = Pu.laws_markIntS.b N (fun r0 r1 => some ⟨[(.v false [(.i .i64 r0)])], [[(.kp r1)]]⟩) a0 k1 by kernel_rfl) hN
  intro args r h
  unfold sp227 at h
  split at h
  · injection h with h
    injection h with h1 h2
    subst h2
    exact ⟨by kernel_rfl, fun hf => ⟨of_decide_eq_true (by kernel_rfl), key _ _ h1⟩⟩
  · cases h

end Go.FG.Se

namespace Go.FG.Se
open Go.Proofs
def T196_0 (p0 : Int) (p1 : Int) (p2 : Row) : List (Nat × Cel) := [(0, (.v (.v false [(.own 900000000)]))), (2, (.v (.v false [(.i .i64 p0)]))), (10, (.v (.v false [(.i .i64 p1)]))), (1800000001, (.o (.row 30 true p2)))]
def E196 : Env := { toTab := T, call := Go.FG.callIn [(227, sp227)], mode := Go.FG.modeIn md, keep := Go.FG.keepIn [(2, [0, 1, 5])], tk := fun n => Go.FG.memB n [], om := Go.FG.omIn [] }
def it196 (N : Nat) {R : Type} : It R := fun rid f cn L K => bif Nat.beq rid 2 then (tell [(0, (.v (.v false [(.own 900000000)]))), (2, (.v (.v false [(.i .i64 0)]))), (10, (.v (.v false [(.i .i64 0)]))), (1800000001, (.o (.row 30 true [])))] (fun | [.I x0, .I x1, .R x2] => Pu.laws_markIntSS.l2 N (fun y0 y1 y2 => (K (.exit 0) (tabl (T196_0 y0 y1 y2)))) N x0 x1 x2 | _ => none) L (none)) else none
theorem e196_2 {R : Type} (N : Nat) (K : Ex → St → Option R) : ∀ n : Nat, (∀ x0 x1 x2, iter (exc E196 (it196 N) (loopOf Try.f196 2)) (canon (E196.keep 2))  n (tabl (T196_0 x0 x1 x2)) K = Pu.laws_markIntSS.l2 N (fun y0 y1 y2 => (K (.exit 0) (tabl (T196_0 y0 y1 y2)))) n x0 x1 x2) := by
  intro n
  induction n with
  | zero => exact (fun _ _ _ => rfl)
  | succ n ih =>
    have e0 : (fun x0 x1 x2 => iter (exc E196 (it196 N) (loopOf Try.f196 2)) (canon (E196.keep 2))  n (tabl (T196_0 x0 x1 x2)) K) = Pu.laws_markIntSS.l2 N (fun y0 y1 y2 => (K (.exit 0) (tabl (T196_0 y0 y1 y2)))) n := by funext x0 x1 x2; exact ih x0 x1 x2
    intro x0 x1 x2
    have h : ∀ g, exc E196 (it196 N) (loopOf Try.f196 2) (tabl (T196_0 x0 x1 x2)) (iterK g (canon (E196.keep 2)) K) = Pu.laws_markIntSS.r2 N (fun x0 x1 x2 => (g (tabl (T196_0 x0 x1 x2)))) (fun y0 y1 y2 => (K (.exit 0) (tabl (T196_0 y0 y1 y2)))) x0 x1 x2 := by intro g; kernel_rfl
    refine (iter_succ _ _ n _ K).trans ((h _).trans ?_)
    show Pu.laws_markIntSS.r2 N (fun x0 x1 x2 => (iter (exc E196 (it196 N) (loopOf Try.f196 2)) (canon (E196.keep 2))  n (tabl (T196_0 x0 x1 x2)) K)) (fun y0 y1 y2 => (K (.exit 0) (tabl (T196_0 y0 y1 y2)))) x0 x1 x2 = _
    rw [e0]; rfl
theorem lo196_2 {R : Type} (N : Nat) : LoopOk E196 (it196 N (R := R)) (loopOf Try.f196 2) := by
  have e : firstRid (loopOf Try.f196 2) = 2 := by kernel_rfl
  intro L K r
  rw [e]
  intro h
  unfold it196 at h
  simp only [show Nat.beq 2 2 = true from rfl, cond_false, cond_true] at h
  refine tell_ok (Q := fun L => ∃ n, iter (exc E196 (it196 N) (loopOf Try.f196 2)) (canon (E196.keep 2)) n (tabl L) K = some r) h (fun xs h => ?_) (fun h => ?_)
  · (try dsimp only at h)
    split at h
    · exact ⟨N, ((e196_2 N K N) _ _ _).trans h⟩
    · cases h
  cases h
def sp196 : List Arg → Option (Bool × Res)
  | [(.v false [(.ow 30 true a0)]), (.v false [(.i .i64 k1)])] => some (Pu.laws_markIntSS.c a0 k1, ⟨[(.v false [(.i .i64 ((Pu.laws_markIntSS.v a0 k1).1))])], [[(.kp ((Pu.laws_markIntSS.v a0 k1).2))]]⟩)
  | _ => none
theorem ok196 : FnOk Try.prog T 196 sp196 := by
  refine fn_ok (E := E196) hE (call_cons ok227 call_nil) hM Try.func196 (code := (Try.f196.body.getD .skip)) (by kernel_rfl) (by kernel_rfl) ?_
  have key : ∀ (a0 : Row) (k1 : Int), Pu.laws_markIntSS.c a0 k1 = true → ∃ it : It Res, (∀ c ∈ loopsOf (Try.f196.body.getD .skip), LoopOk E196 it c) ∧ body E196 it Try.f196 [(.v false [(.ow 30 true a0)]), (.v false [(.i .i64 k1)])] = some ⟨[(.v false [(.i .i64 ((Pu.laws_markIntSS.v a0 k1).1))])], [[(.kp ((Pu.laws_markIntSS.v a0 k1).2))]]⟩ := by
    intro a0 k1  h1
    obtain ⟨N, hN⟩ := Pu.laws_markIntSS.b_eq (R := Res) (fun r0 r1 => some ⟨[(.v false [(.i .i64 r0)])], [[(.kp r1)]]⟩) a0 k1 h1
    have hl : loopsOf (Try.f196.body.getD .skip) = [loopOf Try.f196 2] := by kernel_rfl
    refine ⟨it196 N, by rw [hl]; exact (loops_cons (lo196_2 N) loops_nil), ?_⟩
    refine Eq.trans (show body E196 (it196 N) Try.f196 [(.v false [(.ow 30 true a0)]), (.v false [(.i .i64 k1)])] = Pu.laws_markIntSS.b N (fun r0 r1 => some ⟨[(.v false [(.i .i64 r0)])], [[(.kp r1)]]⟩) a0 k1 by kernel_rfl) hN
  intro args r h
  unfold sp196 at h
  split at h
  · injection h with h
    injection h with h1 h2
    subst h2
    exact ⟨by kernel_rfl, fun hf => ⟨of_decide_eq_true (by kernel_rfl), key _ _ h1⟩⟩
  · cases h

end Go.FG.Se

namespace Go.FG.Se
open Go.Proofs
def E116 : Env := { toTab := T, call := Go.FG.callIn [(196, sp196)], mode := Go.FG.modeIn md, keep := Go.FG.keepIn [], tk := fun n => Go.FG.memB n [], om := Go.FG.omIn [] }
def sp116 : List Arg → Option (Bool × Res)
  | [(.v true [(.ow 30 true a0_0), (.i .i64 a0_1)]), (.v false [(.i .i64 k1)])] => some (Pu.laws_markSketch.c a0_0 a0_1 k1, ⟨[(.v false [(.i .i64 ((Pu.laws_markSketch.v a0_0 a0_1 k1).1))])], [[(.kp ((Pu.laws_markSketch.v a0_0 a0_1 k1).2)), .nl]]⟩)
  | _ => none
theorem ok116 : FnOk Try.prog T 116 sp116 := by
  refine fn_ok (E := E116) hE (call_cons ok196 call_nil) hM Try.func116 (code := (Try.f116.body.getD .skip)) (by kernel_rfl) (by kernel_rfl) ?_
  have key : ∀ (a0_0 : Row) (a0_1 : Int) (k1 : Int), Pu.laws_markSketch.c a0_0 a0_1 k1 = true → ∃ it : It Res, (∀ c ∈ loopsOf (Try.f116.body.getD .skip), LoopOk E116 it c) ∧ body E116 it Try.f116 [(.v true [(.ow 30 true a0_0), (.i .i64 a0_1)]), (.v false [(.i .i64 k1)])] = some ⟨[(.v false [(.i .i64 ((Pu.laws_markSketch.v a0_0 a0_1 k1).1))])], [[(.kp ((Pu.laws_markSketch.v a0_0 a0_1 k1).2)), .nl]]⟩ := by
    intro a0_0 a0_1 k1  h1
    have hN := Pu.laws_markSketch.b_eq (R := Res) (fun r0 r1 => some ⟨[(.v false [(.i .i64 r0)])], [[(.kp r1), .nl]]⟩) a0_0 a0_1 k1 h1
    have hl : loopsOf (Try.f116.body.getD .skip) = [] := by kernel_rfl
    refine ⟨iterN 0, by rw [hl]; exact loops_nil, ?_⟩
    refine Eq.trans (show body E116 (iterN 0) Try.f116 [(.v true [(.ow 30 true a0_0), (.i .i64 a0_1)]), (.v false [(.i .i64 k1)])] = Pu.laws_markSketch.b (fun r0 r1 => some ⟨[(.v false [(.i .i64 r0)])], [[(.kp r1), .nl]]⟩) a0_0 a0_1 k1 by kernel_rfl) hN
  intro args r h
  unfold sp116 at h
  split at h
  · injection h with h
    injection h with h1 h2
    subst h2
    exact ⟨by kernel_rfl, fun hf => ⟨of_decide_eq_true (by kernel_rfl), key _ _ _ h1⟩⟩
  · cases h

end Go.FG.Se

namespace Go.FG.Se
open Go.Proofs
def E36 : Env := { toTab := T, call := Go.FG.callIn [(115, sp115), (116, sp116)], mode := Go.FG.modeIn md, keep := Go.FG.keepIn [], tk := fun n => Go.FG.memB n [], om := Go.FG.omIn [] }
def sp36 : List Arg → Option (Bool × Res)
  | [(.v true [(.ow 9 true a0_0), (.ow 9 true a0_1), (.ow 30 true a0_2), (.i .i64 a0_3)]), (.v false [(.i .i64 k1)])] => some (Pu.laws_markPolicy.c a0_0 a0_1 a0_2 a0_3 k1, ⟨[(.v false [(.i .i64 ((Pu.laws_markPolicy.v a0_0 a0_1 a0_2 a0_3 k1).1))])], [[(.kp ((Pu.laws_markPolicy.v a0_0 a0_1 a0_2 a0_3 k1).2.1)), (.kp ((Pu.laws_markPolicy.v a0_0 a0_1 a0_2 a0_3 k1).2.2.1)), (.kp ((Pu.laws_markPolicy.v a0_0 a0_1 a0_2 a0_3 k1).2.2.2)), .nl]]⟩)
  | _ => none
theorem ok36 : FnOk Try.prog T 36 sp36 := by
  refine fn_ok (E := E36) hE (call_cons ok115 (call_cons ok116 call_nil)) hM Try.func36 (code := (Try.f36.body.getD .skip)) (by kernel_rfl) (by kernel_rfl) ?_
  have key : ∀ (a0_0 : Row) (a0_1 : Row) (a0_2 : Row) (a0_3 : Int) (k1 : Int), Pu.laws_markPolicy.c a0_0 a0_1 a0_2 a0_3 k1 = true → ∃ it : It Res, (∀ c ∈ loopsOf (Try.f36.body.getD .skip), LoopOk E36 it c) ∧ body E36 it Try.f36 [(.v true [(.ow 9 true a0_0), (.ow 9 true a0_1), (.ow 30 true a0_2), (.i .i64 a0_3)]), (.v false [(.i .i64 k1)])] = some ⟨[(.v false [(.i .i64 ((Pu.laws_markPolicy.v a0_0 a0_1 a0_2 a0_3 k1).1))])], [[(.kp ((Pu.laws_markPolicy.v a0_0 a0_1 a0_2 a0_3 k1).2.1)), (.kp ((Pu.laws_markPolicy.v a0_0 a0_1 a0_2 a0_3 k1).2.2.1)), (.kp ((Pu.laws_markPolicy.v a0_0 a0_1 a0_2 a0_3 k1).2.2.2)), .nl]]⟩ := by
    intro a0_0 a0_1 a0_2 a0_3 k1  h1
    have hN := Pu.laws_markPolicy.b_eq (R := Res) (fun r0 r1 r2 r3 => some ⟨[(.v false [(.i .i64 r0)])], [[(.kp r1), (.kp r2), (.kp r3), .nl]]⟩) a0_0 a0_1 a0_2 a0_3 k1 h1
    have hl : loopsOf (Try.f36.body.getD .skip) = [] := by kernel_rfl
    refine ⟨iterN 0, by rw [hl]; exact loops_nil, ?_⟩
    refine Eq.trans (show body E36 (iterN 0) Try.f36 [(.v true [(.ow 9 true a0_0), (.ow 9 true a0_1), (.ow 30 true a0_2), (.i .i64 a0_3)]), (.v false [(.i .i64 k1)])] = Pu.laws_markPolicy.b (fun r0 r1 r2 r3 => some ⟨[(.v false [(.i .i64 r0)])], [[(.kp r1), (.kp r2), (.kp r3), .nl]]⟩) a0_0 a0_1 a0_2 a0_3 k1 by kernel_rfl) hN
  intro args r h
  unfold sp36 at h
  split at h
  · injection h with h
    injection h with h1 h2
    subst h2
    exact ⟨by kernel_rfl, fun hf => ⟨of_decide_eq_true (by kernel_rfl), key _ _ _ _ _ h1⟩⟩
  · cases h

end Go.FG.Se

namespace Go.FG.Se
open Go.Proofs
def T133_0 (p0 : Int) (p1 : Int) (p2 : Row) : List (Nat × Cel) := [(0, (.v (.v false [(.own 900000000)]))), (2, (.v (.v false [(.i .i64 p0)]))), (10, (.v (.v false [(.i .i64 p1)]))), (1800000001, (.o (.row 126 true p2)))]
def E133 : Env := { toTab := T, call := Go.FG.callIn [(195, sp195)], mode := Go.FG.modeIn md, keep := Go.FG.keepIn [(2, [0, 1, 5])], tk := fun n => Go.FG.memB n [], om := Go.FG.omIn [] }
def it133 (N : Nat) {R : Type} : It R := fun rid f cn L K => bif Nat.beq rid 2 then (tell [(0, (.v (.v false [(.own 900000000)]))), (2, (.v (.v false [(.i .i64 0)]))), (10, (.v (.v false [(.i .i64 0)]))), (1800000001, (.o (.row 126 true [])))] (fun | [.I x0, .I x1, .R x2] => Pu.laws_markFetchS.l2 N (fun y0 y1 y2 => (K (.exit 0) (tabl (T133_0 y0 y1 y2)))) N x0 x1 x2 | _ => none) L (none)) else none
theorem e133_2 {R : Type} (N : Nat) (K : Ex → St → Option R) : ∀ n : Nat, (∀ x0 x1 x2, iter (exc E133 (it133 N) (loopOf Try.f133 2)) (canon (E133.keep 2))  n (tabl (T133_0 x0 x1 x2)) K = Pu.laws_markFetchS.l2 N (fun y0 y1 y2 => (K (.exit 0) (tabl (T133_0 y0 y1 y2)))) n x0 x1 x2) := by
  intro n
  induction n with
  | zero => exact (fun _ _ _ => rfl)
  | succ n ih =>
    have e0 : (fun x0 x1 x2 => iter (exc E133 (it133 N) (loopOf Try.f133 2)) (canon (E133.keep 2))  n (tabl (T133_0 x0 x1 x2)) K) = Pu.laws_markFetchS.l2 N (fun y0 y1 y2 => (K (.exit 0) (tabl (T133_0 y0 y1 y2)))) n := by funext x0 x1 x2; exact ih x0 x1 x2
    intro x0 x1 x2
    have h : ∀ g, exc E133 (it133 N) (loopOf Try.f133 2) (tabl (T133_0 x0 x1 x2)) (iterK g (canon (E133.keep 2)) K) = Pu.laws_markFetchS.r2 N (fun x0 x1 x2 => (g (tabl (T133_0 x0 x1 x2)))) (fun y0 y1 y2 => (K (.exit 0) (tabl (T133_0 y0 y1 y2)))) x0 x1 x2 := by intro g; kernel_rfl
    refine (iter_succ _ _ n _ K).trans ((h _).trans ?_)
    show Pu.laws_markFetchS.r2 N (fun x0 x1 x2 => (iter (exc E133 (it133 N) (loopOf Try.f133 2)) (canon (E133.keep 2))  n (tabl (T133_0 x0 x1 x2)) K)) (fun y0 y1 y2 => (K (.exit 0) (tabl (T133_0 y0 y1 y2)))) x0 x1 x2 = _
    rw [e0]; rfl
theorem lo133_2 {R : Type} (N : Nat) : LoopOk E133 (it133 N (R := R)) (loopOf Try.f133 2) := by
  have e : firstRid (loopOf Try.f133 2) = 2 := by kernel_rfl
  intro L K r
  rw [e]
  intro h
  unfold it133 at h
  simp only [show Nat.beq 2 2 = true from rfl, cond_false, cond_true] at h
  refine tell_ok (Q := fun L => ∃ n, iter (exc E133 (it133 N) (loopOf Try.f133 2)) (canon (E133.keep 2)) n (tabl L) K = some r) h (fun xs h => ?_) (fun h => ?_)
  · (try dsimp only at h)
    split at h
    · exact ⟨N, ((e133_2 N K N) _ _ _).trans h⟩
    · cases h
  cases h
def sp133 : List Arg → Option (Bool × Res)
  | [(.v false [(.ow 126 true a0)]), (.v false [(.i .i64 k1)])] => some (Pu.laws_markFetchS.c a0 k1, ⟨[(.v false [(.i .i64 ((Pu.laws_markFetchS.v a0 k1).1))])], [[(.kp ((Pu.laws_markFetchS.v a0 k1).2))]]⟩)
  | _ => none
theorem ok133 : FnOk Try.prog T 133 sp133 := by
  refine fn_ok (E := E133) hE (call_cons ok195 call_nil) hM Try.func133 (code := (Try.f133.body.getD .skip)) (by kernel_rfl) (by kernel_rfl) ?_
  have key : ∀ (a0 : Row) (k1 : Int), Pu.laws_markFetchS.c a0 k1 = true → ∃ it : It Res, (∀ c ∈ loopsOf (Try.f133.body.getD .skip), LoopOk E133 it c) ∧ body E133 it Try.f133 [(.v false [(.ow 126 true a0)]), (.v false [(.i .i64 k1)])] = some ⟨[(.v false [(.i .i64 ((Pu.laws_markFetchS.v a0 k1).1))])], [[(.kp ((Pu.laws_markFetchS.v a0 k1).2))]]⟩ := by
    intro a0 k1  h1
    obtain ⟨N, hN⟩ := Pu.laws_markFetchS.b_eq (R := Res) (fun r0 r1 => some ⟨[(.v false [(.i .i64 r0)])], [[(.kp r1)]]⟩) a0 k1 h1
    have hl : loopsOf (Try.f133.body.getD .skip) = [loopOf Try.f133 2] := by kernel_rfl
    refine ⟨it133 N, by rw [hl]; exact (loops_cons (lo133_2 N) loops_nil), ?_⟩
    refine Eq.trans (show body E133 (it133 N) Try.f133 [(.v false [(.ow 126 true a0)]), (.v false [(.i .i64 k1)])] = Pu.laws_markFetchS.b N (fun r0 r1 => some ⟨[(.v false [(.i .i64 r0)])], [[(.kp r1)]]⟩) a0 k1 by kernel_rfl) hN
  intro args r h
  unfold sp133 at h
  split at h
  · injection h with h
    injection h with h1 h2
    subst h2
    exact ⟨by kernel_rfl, fun hf => ⟨of_decide_eq_true (by kernel_rfl), key _ _ h1⟩⟩
  · cases h

end Go.FG.Se

namespace Go.FG.Se
open Go.Proofs
def T134_0 (p0 : Int) (p1 : Int) (p2 : Row) : List (Nat × Cel) := [(0, (.v (.v false [(.own 900000000)]))), (2, (.v (.v false [(.i .i64 p0)]))), (10, (.v (.v false [(.i .i64 p1)]))), (1800000001, (.o (.row 62 true p2)))]
def E134 : Env := { toTab := T, call := Go.FG.callIn [(195, sp195)], mode := Go.FG.modeIn md, keep := Go.FG.keepIn [(2, [0, 1, 5])], tk := fun n => Go.FG.memB n [], om := Go.FG.omIn [] }
def it134 (N : Nat) {R : Type} : It R := fun rid f cn L K => bif Nat.beq rid 2 then (tell [(0, (.v (.v false [(.own 900000000)]))), (2, (.v (.v false [(.i .i64 0)]))), (10, (.v (.v false [(.i .i64 0)]))), (1800000001, (.o (.row 62 true [])))] (fun | [.I x0, .I x1, .R x2] => Pu.laws_markClientS.l2 N (fun y0 y1 y2 => (K (.exit 0) (tabl (T134_0 y0 y1 y2)))) N x0 x1 x2 | _ => none) L (none)) else none
theorem e134_2 {R : Type} (N : Nat) (K : Ex → St → Option R) : ∀ n : Nat, (∀ x0 x1 x2, iter (exc E134 (it134 N) (loopOf Try.f134 2)) (canon (E134.keep 2))  n (tabl (T134_0 x0 x1 x2)) K = Pu.laws_markClientS.l2 N (fun y0 y1 y2 => (K (.exit 0) (tabl (T134_0 y0 y1 y2)))) n x0 x1 x2) := by
  intro n
  induction n with
  | zero => exact (fun _ _ _ => rfl)
  | succ n ih =>
    have e0 : (fun x0 x1 x2 => iter (exc E134 (it134 N) (loopOf Try.f134 2)) (canon (E134.keep 2))  n (tabl (T134_0 x0 x1 x2)) K) = Pu.laws_markClientS.l2 N (fun y0 y1 y2 => (K (.exit 0) (tabl (T134_0 y0 y1 y2)))) n := by funext x0 x1 x2; exact ih x0 x1 x2
    intro x0 x1 x2
    have h : ∀ g, exc E134 (it134 N) (loopOf Try.f134 2) (tabl (T134_0 x0 x1 x2)) (iterK g (canon (E134.keep 2)) K) = Pu.laws_markClientS.r2 N (fun x0 x1 x2 => (g (tabl (T134_0 x0 x1 x2)))) (fun y0 y1 y2 => (K (.exit 0) (tabl (T134_0 y0 y1 y2)))) x0 x1 x2 := by intro g; kernel_rfl
    refine (iter_succ _ _ n _ K).trans ((h _).trans ?_)
    show Pu.laws_markClientS.r2 N (fun x0 x1 x2 => (iter (exc E134 (it134 N) (loopOf Try.f134 2)) (canon (E134.keep 2))  n (tabl (T134_0 x0 x1 x2)) K)) (fun y0 y1 y2 => (K (.exit 0) (tabl (T134_0 y0 y1 y2)))) x0 x1 x2 = _
    rw [e0]; rfl
theorem lo134_2 {R : Type} (N : Nat) : LoopOk E134 (it134 N (R := R)) (loopOf Try.f134 2) := by
  have e : firstRid (loopOf Try.f134 2) = 2 := by kernel_rfl
  intro L K r
  rw [e]
  intro h
  unfold it134 at h
  simp only [show Nat.beq 2 2 = true from rfl, cond_false, cond_true] at h
  refine tell_ok (Q := fun L => ∃ n, iter (exc E134 (it134 N) (loopOf Try.f134 2)) (canon (E134.keep 2)) n (tabl L) K = some r) h (fun xs h => ?_) (fun h => ?_)
  · (try dsimp only at h)
    split at h
    · exact ⟨N, ((e134_2 N K N) _ _ _).trans h⟩
    · cases h
  cases h
def sp134 : List Arg → Option (Bool × Res)
  | [(.v false [(.ow 62 true a0)]), (.v false [(.i .i64 k1)])] => some (Pu.laws_markClientS.c a0 k1, ⟨[(.v false [(.i .i64 ((Pu.laws_markClientS.v a0 k1).1))])], [[(.kp ((Pu.laws_markClientS.v a0 k1).2))]]⟩)
  | _ => none
theorem ok134 : FnOk Try.prog T 134 sp134 := by
  refine fn_ok (E := E134) hE (call_cons ok195 call_nil) hM Try.func134 (code := (Try.f134.body.getD .skip)) (by kernel_rfl) (by kernel_rfl) ?_
  have key : ∀ (a0 : Row) (k1 : Int), Pu.laws_markClientS.c a0 k1 = true → ∃ it : It Res, (∀ c ∈ loopsOf (Try.f134.body.getD .skip), LoopOk E134 it c) ∧ body E134 it Try.f134 [(.v false [(.ow 62 true a0)]), (.v false [(.i .i64 k1)])] = some ⟨[(.v false [(.i .i64 ((Pu.laws_markClientS.v a0 k1).1))])], [[(.kp ((Pu.laws_markClientS.v a0 k1).2))]]⟩ := by
    intro a0 k1  h1
    obtain ⟨N, hN⟩ := Pu.laws_markClientS.b_eq (R := Res) (fun r0 r1 => some ⟨[(.v false [(.i .i64 r0)])], [[(.kp r1)]]⟩) a0 k1 h1
    have hl : loopsOf (Try.f134.body.getD .skip) = [loopOf Try.f134 2] := by kernel_rfl
    refine ⟨it134 N, by rw [hl]; exact (loops_cons (lo134_2 N) loops_nil), ?_⟩
    refine Eq.trans (show body E134 (it134 N) Try.f134 [(.v false [(.ow 62 true a0)]), (.v false [(.i .i64 k1)])] = Pu.laws_markClientS.b N (fun r0 r1 => some ⟨[(.v false [(.i .i64 r0)])], [[(.kp r1)]]⟩) a0 k1 by kernel_rfl) hN
  intro args r h
  unfold sp134 at h
  split at h
  · injection h with h
    injection h with h1 h2
    subst h2
    exact ⟨by kernel_rfl, fun hf => ⟨of_decide_eq_true (by kernel_rfl), key _ _ h1⟩⟩
  · cases h

end Go.FG.Se

namespace Go.FG.Se
open Go.Proofs
def E47 : Env := { toTab := T, call := Go.FG.callIn [(132, sp132), (36, sp36), (133, sp133), (134, sp134)], mode := Go.FG.modeIn md, keep := Go.FG.keepIn [], tk := fun n => Go.FG.memB n [], om := Go.FG.omIn [] }
def sp47 : List Arg → Option (Bool × Res)
  | [(.v true [(.i .i64 a0_0), (.ow 86 true a0_1), (.ow 9 true a0_2), (.ow 9 true a0_3), (.ow 30 true a0_4), (.i .i64 a0_5), (.ow 126 true a0_6), (.ow 62 true a0_7), (.i .i64 a0_8)]), (.v false [(.i .i64 k1)])] => some (Pu.laws_markProxy.c a0_0 a0_1 a0_2 a0_3 a0_4 a0_5 a0_6 a0_7 a0_8 k1, ⟨[(.v false [(.i .i64 ((Pu.laws_markProxy.v a0_0 a0_1 a0_2 a0_3 a0_4 a0_5 a0_6 a0_7 a0_8 k1).1))])], [[.nl, (.kp ((Pu.laws_markProxy.v a0_0 a0_1 a0_2 a0_3 a0_4 a0_5 a0_6 a0_7 a0_8 k1).2.1)), (.kp ((Pu.laws_markProxy.v a0_0 a0_1 a0_2 a0_3 a0_4 a0_5 a0_6 a0_7 a0_8 k1).2.2.1)), (.kp ((Pu.laws_markProxy.v a0_0 a0_1 a0_2 a0_3 a0_4 a0_5 a0_6 a0_7 a0_8 k1).2.2.2.1)), (.kp ((Pu.laws_markProxy.v a0_0 a0_1 a0_2 a0_3 a0_4 a0_5 a0_6 a0_7 a0_8 k1).2.2.2.2.1)), .nl, (.kp ((Pu.laws_markProxy.v a0_0 a0_1 a0_2 a0_3 a0_4 a0_5 a0_6 a0_7 a0_8 k1).2.2.2.2.2.1)), (.kp ((Pu.laws_markProxy.v a0_0 a0_1 a0_2 a0_3 a0_4 a0_5 a0_6 a0_7 a0_8 k1).2.2.2.2.2.2)), .nl]]⟩)
  | _ => none
theorem ok47 : FnOk Try.prog T 47 sp47 := by
  refine fn_ok (E := E47) hE (call_cons ok132 (call_cons ok36 (call_cons ok133 (call_cons ok134 call_nil)))) hM Try.func47 (code := (Try.f47.body.getD .skip)) (by kernel_rfl) (by kernel_rfl) ?_
  have key : ∀ (a0_0 : Int) (a0_1 : Row) (a0_2 : Row) (a0_3 : Row) (a0_4 : Row) (a0_5 : Int) (a0_6 : Row) (a0_7 : Row) (a0_8 : Int) (k1 : Int), Pu.laws_markProxy.c a0_0 a0_1 a0_2 a0_3 a0_4 a0_5 a0_6 a0_7 a0_8 k1 = true → ∃ it : It Res, (∀ c ∈ loopsOf (Try.f47.body.getD .skip), LoopOk E47 it c) ∧ body E47 it Try.f47 [(.v true [(.i .i64 a0_0), (.ow 86 true a0_1), (.ow 9 true a0_2), (.ow 9 true a0_3), (.ow 30 true a0_4), (.i .i64 a0_5), (.ow 126 true a0_6), (.ow 62 true a0_7), (.i .i64 a0_8)]), (.v false [(.i .i64 k1)])] = some ⟨[(.v false [(.i .i64 ((Pu.laws_markProxy.v a0_0 a0_1 a0_2 a0_3 a0_4 a0_5 a0_6 a0_7 a0_8 k1).1))])], [[.nl, (.kp ((Pu.laws_markProxy.v a0_0 a0_1 a0_2 a0_3 a0_4 a0_5 a0_6 a0_7 a0_8 k1).2.1)), (.kp ((Pu.laws_markProxy.v a0_0 a0_1 a0_2 a0_3 a0_4 a0_5 a0_6 a0_7 a0_8 k1).2.2.1)), (.kp ((Pu.laws_markProxy.v a0_0 a0_1 a0_2 a0_3 a0_4 a0_5 a0_6 a0_7 a0_8 k1).2.2.2.1)), (.kp ((Pu.laws_markProxy.v a0_0 a0_1 a0_2 a0_3 a0_4 a0_5 a0_6 a0_7 a0_8 k1).2.2.2.2.1)), .nl, (.kp ((Pu.laws_markProxy.v a0_0 a0_1 a0_2 a0_3 a0_4 a0_5 a0_6 a0_7 a0_8 k1).2.2.2.2.2.1)), (.kp ((Pu.laws_markProxy.v a0_0 a0_1 a0_2 a0_3 a0_4 a0_5 a0_6 a0_7 a0_8 k1).2.2.2.2.2.2)), .nl]]⟩ := by
    intro a0_0 a0_1 a0_2 a0_3 a0_4 a0_5 a0_6 a0_7 a0_8 k1  h1
    have hN := Pu.laws_markProxy.b_eq (R := Res) (fun r0 r1 r2 r3 r4 r5 r6 => some ⟨[(.v false [(.i .i64 r0)])], [[.nl, (.kp r1), (.kp r2), (.kp r3), (.kp r4), .nl, (.kp r5), (.kp r6), .nl]]⟩) a0_0 a0_1 a0_2 a0_3 a0_4 a0_5 a0_6 a0_7 a0_8 k1 h1
    have hl : loopsOf (Try.f47.body.getD .skip) = [] := by kernel_rfl
    refine ⟨iterN 0, by rw [hl]; exact loops_nil, ?_⟩
    refine Eq.trans (show body E47 (iterN 0) Try.f47 [(.v true [(.i .i64 a0_0), (.ow 86 true a0_1), (.ow 9 true a0_2), (.ow 9 true a0_3), (.ow 30 true a0_4), (.i .i64 a0_5), (.ow 126 true a0_6), (.ow 62 true a0_7), (.i .i64 a0_8)]), (.v false [(.i .i64 k1)])] = Pu.laws_markProxy.b (fun r0 r1 r2 r3 r4 r5 r6 => some ⟨[(.v false [(.i .i64 r0)])], [[.nl, (.kp r1), (.kp r2), (.kp r3), (.kp r4), .nl, (.kp r5), (.kp r6), .nl]]⟩) a0_0 a0_1 a0_2 a0_3 a0_4 a0_5 a0_6 a0_7 a0_8 k1 by kernel_rfl) hN
  intro args r h
  unfold sp47 at h
  split at h
  · injection h with h
    injection h with h1 h2
    subst h2
    exact ⟨by kernel_rfl, fun hf => ⟨of_decide_eq_true (by kernel_rfl), key _ _ _ _ _ _ _ _ _ _ h1⟩⟩
  · cases h

end Go.FG.Se

namespace Go.FG.Se
open Go.Proofs
def T135_0 (p0 : Row) (p1 : Int) (p2 : Int) (p3 : Int) : List (Nat × Cel) := [(0, (.v (.v false [(.sh 86 p0)]))), (2, (.v (.v false [(.i .i64 p1)]))), (8, (.v (.v false [(.i .i64 p2)]))), (10, (.v (.v false [(.i .i64 p3)])))]
def E135 : Env := { toTab := T, call := Go.FG.callIn [(195, sp195)], mode := Go.FG.modeIn md, keep := Go.FG.keepIn [(2, [0, 1, 4, 5])], tk := fun n => Go.FG.memB n [], om := Go.FG.omIn [] }
def it135 (N : Nat) {R : Type} : It R := fun rid f cn L K => bif Nat.beq rid 2 then (tell [(0, (.v (.v false [(.sh 86 [])]))), (2, (.v (.v false [(.i .i64 0)]))), (8, (.v (.v false [(.i .i64 0)]))), (10, (.v (.v false [(.i .i64 0)])))] (fun | [.R x0, .I x1, .I x2, .I x3] => Pu.laws_heldEntryS.l2 N (fun y0 y1 y2 y3 => (K .ret (tabl (T135_0 y0 y1 y2 y3)))) (fun y0 y1 y2 y3 => (K (.exit 0) (tabl (T135_0 y0 y1 y2 y3)))) N x0 x1 x2 x3 | _ => none) L (none)) else none
theorem e135_2 {R : Type} (N : Nat) (K : Ex → St → Option R) : ∀ n : Nat, (∀ x0 x1 x2 x3, iter (exc E135 (it135 N) (loopOf Try.f135 2)) (canon (E135.keep 2))  n (tabl (T135_0 x0 x1 x2 x3)) K = Pu.laws_heldEntryS.l2 N (fun y0 y1 y2 y3 => (K .ret (tabl (T135_0 y0 y1 y2 y3)))) (fun y0 y1 y2 y3 => (K (.exit 0) (tabl (T135_0 y0 y1 y2 y3)))) n x0 x1 x2 x3) := by
  intro n
  induction n with
  | zero => exact (fun _ _ _ _ => rfl)
  | succ n ih =>
    have e0 : (fun x0 x1 x2 x3 => iter (exc E135 (it135 N) (loopOf Try.f135 2)) (canon (E135.keep 2))  n (tabl (T135_0 x0 x1 x2 x3)) K) = Pu.laws_heldEntryS.l2 N (fun y0 y1 y2 y3 => (K .ret (tabl (T135_0 y0 y1 y2 y3)))) (fun y0 y1 y2 y3 => (K (.exit 0) (tabl (T135_0 y0 y1 y2 y3)))) n := by funext x0 x1 x2 x3; exact ih x0 x1 x2 x3
    intro x0 x1 x2 x3
    have h : ∀ g, exc E135 (it135 N) (loopOf Try.f135 2) (tabl (T135_0 x0 x1 x2 x3)) (iterK g (canon (E135.keep 2)) K) = Pu.laws_heldEntryS.r2 N (fun x0 x1 x2 x3 => (g (tabl (T135_0 x0 x1 x2 x3)))) (fun y0 y1 y2 y3 => (K .ret (tabl (T135_0 y0 y1 y2 y3)))) (fun y0 y1 y2 y3 => (K (.exit 0) (tabl (T135_0 y0 y1 y2 y3)))) x0 x1 x2 x3 := by intro g; kernel_rfl
    refine (iter_succ _ _ n _ K).trans ((h _).trans ?_)
    show Pu.laws_heldEntryS.r2 N (fun x0 x1 x2 x3 => (iter (exc E135 (it135 N) (loopOf Try.f135 2)) (canon (E135.keep 2))  n (tabl (T135_0 x0 x1 x2 x3)) K)) (fun y0 y1 y2 y3 => (K .ret (tabl (T135_0 y0 y1 y2 y3)))) (fun y0 y1 y2 y3 => (K (.exit 0) (tabl (T135_0 y0 y1 y2 y3)))) x0 x1 x2 x3 = _
    rw [e0]; rfl
theorem lo135_2 {R : Type} (N : Nat) : LoopOk E135 (it135 N (R := R)) (loopOf Try.f135 2) := by
  have e : firstRid (loopOf Try.f135 2) = 2 := by kernel_rfl
  intro L K r
  rw [e]
  intro h
  unfold it135 at h
  simp only [show Nat.beq 2 2 = true from rfl, cond_false, cond_true] at h
  refine tell_ok (Q := fun L => ∃ n, iter (exc E135 (it135 N) (loopOf Try.f135 2)) (canon (E135.keep 2)) n (tabl L) K = some r) h (fun xs h => ?_) (fun h => ?_)
  · (try dsimp only at h)
    split at h
    · exact ⟨N, ((e135_2 N K N) _ _ _ _).trans h⟩
    · cases h
  cases h
def sp135 : List Arg → Option (Bool × Res)
  | [(.v false [(.sh 86 a0)]), (.v false [(.i .i64 k1)])] => some (Pu.laws_heldEntryS.c a0 k1, ⟨[(.v false [(.i .i64 (Pu.laws_heldEntryS.v a0 k1))])], []⟩)
  | _ => none
theorem ok135 : FnOk Try.prog T 135 sp135 := by
  refine fn_ok (E := E135) hE (call_cons ok195 call_nil) hM Try.func135 (code := (Try.f135.body.getD .skip)) (by kernel_rfl) (by kernel_rfl) ?_
  have key : ∀ (a0 : Row) (k1 : Int), Pu.laws_heldEntryS.c a0 k1 = true → ∃ it : It Res, (∀ c ∈ loopsOf (Try.f135.body.getD .skip), LoopOk E135 it c) ∧ body E135 it Try.f135 [(.v false [(.sh 86 a0)]), (.v false [(.i .i64 k1)])] = some ⟨[(.v false [(.i .i64 (Pu.laws_heldEntryS.v a0 k1))])], []⟩ := by
    intro a0 k1  h1
    obtain ⟨N, hN⟩ := Pu.laws_heldEntryS.b_eq (R := Res) (fun r0 => some ⟨[(.v false [(.i .i64 r0)])], []⟩) a0 k1 h1
    have hl : loopsOf (Try.f135.body.getD .skip) = [loopOf Try.f135 2] := by kernel_rfl
    refine ⟨it135 N, by rw [hl]; exact (loops_cons (lo135_2 N) loops_nil), ?_⟩
    refine Eq.trans (show body E135 (it135 N) Try.f135 [(.v false [(.sh 86 a0)]), (.v false [(.i .i64 k1)])] = Pu.laws_heldEntryS.b N (fun r0 => some ⟨[(.v false [(.i .i64 r0)])], []⟩) a0 k1 by kernel_rfl) hN
  intro args r h
  unfold sp135 at h
  split at h
  · injection h with h
    injection h with h1 h2
    subst h2
    exact ⟨by kernel_rfl, fun hf => ⟨of_decide_eq_true (by kernel_rfl), key _ _ h1⟩⟩
  · cases h

end Go.FG.Se

namespace Go.FG.Se
open Go.Proofs
def T117_0 (p0 : Row) (p1 : Int) (p2 : Int) (p3 : Int) : List (Nat × Cel) := [(0, (.v (.v false [(.sh 9 p0)]))), (2, (.v (.v false [(.i .i64 p1)]))), (8, (.v (.v false [(.i .i64 p2)]))), (10, (.v (.v false [(.i .i64 p3)])))]
def E117 : Env := { toTab := T, call := Go.FG.callIn [(195, sp195)], mode := Go.FG.modeIn md, keep := Go.FG.keepIn [(2, [0, 1, 4, 5])], tk := fun n => Go.FG.memB n [], om := Go.FG.omIn [] }
def it117 (N : Nat) {R : Type} : It R := fun rid f cn L K => bif Nat.beq rid 2 then (tell [(0, (.v (.v false [(.sh 9 [])]))), (2, (.v (.v false [(.i .i64 0)]))), (8, (.v (.v false [(.i .i64 0)]))), (10, (.v (.v false [(.i .i64 0)])))] (fun | [.R x0, .I x1, .I x2, .I x3] => Pu.laws_heldStringS.l2 N (fun y0 y1 y2 y3 => (K .ret (tabl (T117_0 y0 y1 y2 y3)))) (fun y0 y1 y2 y3 => (K (.exit 0) (tabl (T117_0 y0 y1 y2 y3)))) N x0 x1 x2 x3 | _ => none) L (none)) else none
theorem e117_2 {R : Type} (N : Nat) (K : Ex → St → Option R) : ∀ n : Nat, (∀ x0 x1 x2 x3, iter (exc E117 (it117 N) (loopOf Try.f117 2)) (canon (E117.keep 2))  n (tabl (T117_0 x0 x1 x2 x3)) K = Pu.laws_heldStringS.l2 N (fun y0 y1 y2 y3 => (K .ret (tabl (T117_0 y0 y1 y2 y3)))) (fun y0 y1 y2 y3 => (K (.exit 0) (tabl (T117_0 y0 y1 y2 y3)))) n x0 x1 x2 x3) := by
  intro n
  induction n with
  | zero => exact (fun _ _ _ _ => rfl)
  | succ n ih =>
    have e0 : (fun x0 x1 x2 x3 => iter (exc E117 (it117 N) (loopOf Try.f117 2)) (canon (E117.keep 2))  n (tabl (T117_0 x0 x1 x2 x3)) K) = Pu.laws_heldStringS.l2 N (fun y0 y1 y2 y3 => (K .ret (tabl (T117_0 y0 y1 y2 y3)))) (fun y0 y1 y2 y3 => (K (.exit 0) (tabl (T117_0 y0 y1 y2 y3)))) n := by funext x0 x1 x2 x3; exact ih x0 x1 x2 x3
    intro x0 x1 x2 x3
    have h : ∀ g, exc E117 (it117 N) (loopOf Try.f117 2) (tabl (T117_0 x0 x1 x2 x3)) (iterK g (canon (E117.keep 2)) K) = Pu.laws_heldStringS.r2 N (fun x0 x1 x2 x3 => (g (tabl (T117_0 x0 x1 x2 x3)))) (fun y0 y1 y2 y3 => (K .ret (tabl (T117_0 y0 y1 y2 y3)))) (fun y0 y1 y2 y3 => (K (.exit 0) (tabl (T117_0 y0 y1 y2 y3)))) x0 x1 x2 x3 := by intro g; kernel_rfl
    refine (iter_succ _ _ n _ K).trans ((h _).trans ?_)
    show Pu.laws_heldStringS.r2 N (fun x0 x1 x2 x3 => (iter (exc E117 (it117 N) (loopOf Try.f117 2)) (canon (E117.keep 2))  n (tabl (T117_0 x0 x1 x2 x3)) K)) (fun y0 y1 y2 y3 => (K .ret (tabl (T117_0 y0 y1 y2 y3)))) (fun y0 y1 y2 y3 => (K (.exit 0) (tabl (T117_0 y0 y1 y2 y3)))) x0 x1 x2 x3 = _
    rw [e0]; rfl
theorem lo117_2 {R : Type} (N : Nat) : LoopOk E117 (it117 N (R := R)) (loopOf Try.f117 2) := by
  have e : firstRid (loopOf Try.f117 2) = 2 := by kernel_rfl
  intro L K r
  rw [e]
  intro h
  unfold it117 at h
  simp only [show Nat.beq 2 2 = true from rfl, cond_false, cond_true] at h
  refine tell_ok (Q := fun L => ∃ n, iter (exc E117 (it117 N) (loopOf Try.f117 2)) (canon (E117.keep 2)) n (tabl L) K = some r) h (fun xs h => ?_) (fun h => ?_)
  · (try dsimp only at h)
    split at h
    · exact ⟨N, ((e117_2 N K N) _ _ _ _).trans h⟩
    · cases h
  cases h
def sp117 : List Arg → Option (Bool × Res)
  | [(.v false [(.sh 9 a0)]), (.v false [(.i .i64 k1)])] => some (Pu.laws_heldStringS.c a0 k1, ⟨[(.v false [(.i .i64 (Pu.laws_heldStringS.v a0 k1))])], []⟩)
  | _ => none
theorem ok117 : FnOk Try.prog T 117 sp117 := by
  refine fn_ok (E := E117) hE (call_cons ok195 call_nil) hM Try.func117 (code := (Try.f117.body.getD .skip)) (by kernel_rfl) (by kernel_rfl) ?_
  have key : ∀ (a0 : Row) (k1 : Int), Pu.laws_heldStringS.c a0 k1 = true → ∃ it : It Res, (∀ c ∈ loopsOf (Try.f117.body.getD .skip), LoopOk E117 it c) ∧ body E117 it Try.f117 [(.v false [(.sh 9 a0)]), (.v false [(.i .i64 k1)])] = some ⟨[(.v false [(.i .i64 (Pu.laws_heldStringS.v a0 k1))])], []⟩ := by
    intro a0 k1  h1
    obtain ⟨N, hN⟩ := Pu.laws_heldStringS.b_eq (R := Res) (fun r0 => some ⟨[(.v false [(.i .i64 r0)])], []⟩) a0 k1 h1
    have hl : loopsOf (Try.f117.body.getD .skip) = [loopOf Try.f117 2] := by kernel_rfl
    refine ⟨it117 N, by rw [hl]; exact (loops_cons (lo117_2 N) loops_nil), ?_⟩
    refine Eq.trans (show body E117 (it117 N) Try.f117 [(.v false [(.sh 9 a0)]), (.v false [(.i .i64 k1)])] = Pu.laws_heldStringS.b N (fun r0 => some ⟨[(.v false [(.i .i64 r0)])], []⟩) a0 k1 by kernel_rfl) hN
  intro args r h
  unfold sp117 at h
  split at h
  · injection h with h
    injection h with h1 h2
    subst h2
    exact ⟨by kernel_rfl, fun hf => ⟨of_decide_eq_true (by kernel_rfl), key _ _ h1⟩⟩
  · cases h

end Go.FG.Se

namespace Go.FG.Se
open Go.Proofs
def T228_0 (p0 : Row) (p1 : Int) (p2 : Int) (p3 : Int) : List (Nat × Cel) := [(0, (.v (.v false [(.sh 3 p0)]))), (2, (.v (.v false [(.i .i64 p1)]))), (8, (.v (.v false [(.i .i64 p2)]))), (10, (.v (.v false [(.i .i64 p3)])))]
def E228 : Env := { toTab := T, call := Go.FG.callIn [], mode := Go.FG.modeIn md, keep := Go.FG.keepIn [(2, [0, 1, 4, 5])], tk := fun n => Go.FG.memB n [], om := Go.FG.omIn [] }
def it228 (N : Nat) {R : Type} : It R := fun rid f cn L K => bif Nat.beq rid 2 then (tell [(0, (.v (.v false [(.sh 3 [])]))), (2, (.v (.v false [(.i .i64 0)]))), (8, (.v (.v false [(.i .i64 0)]))), (10, (.v (.v false [(.i .i64 0)])))] (fun | [.R x0, .I x1, .I x2, .I x3] => Pu.laws_heldIntS.l2 N (fun y0 y1 y2 y3 => (K .ret (tabl (T228_0 y0 y1 y2 y3)))) (fun y0 y1 y2 y3 => (K (.exit 0) (tabl (T228_0 y0 y1 y2 y3)))) N x0 x1 x2 x3 | _ => none) L (none)) else none
theorem e228_2 {R : Type} (N : Nat) (K : Ex → St → Option R) : ∀ n : Nat, (∀ x0 x1 x2 x3, iter (exc E228 (it228 N) (loopOf Try.f228 2)) (canon (E228.keep 2))  n (tabl (T228_0 x0 x1 x2 x3)) K = Pu.laws_heldIntS.l2 N (fun y0 y1 y2 y3 => (K .ret (tabl (T228_0 y0 y1 y2 y3)))) (fun y0 y1 y2 y3 => (K (.exit 0) (tabl (T228_0 y0 y1 y2 y3)))) n x0 x1 x2 x3) := by
  intro n
  induction n with
  | zero => exact (fun _ _ _ _ => rfl)
  | succ n ih =>
    have e0 : (fun x0 x1 x2 x3 => iter (exc E228 (it228 N) (loopOf Try.f228 2)) (canon (E228.keep 2))  n (tabl (T228_0 x0 x1 x2 x3)) K) = Pu.laws_heldIntS.l2 N (fun y0 y1 y2 y3 => (K .ret (tabl (T228_0 y0 y1 y2 y3)))) (fun y0 y1 y2 y3 => (K (.exit 0) (tabl (T228_0 y0 y1 y2 y3)))) n := by funext x0 x1 x2 x3; exact ih x0 x1 x2 x3
    intro x0 x1 x2 x3
    have h : ∀ g, exc E228 (it228 N) (loopOf Try.f228 2) (tabl (T228_0 x0 x1 x2 x3)) (iterK g (canon (E228.keep 2)) K) = Pu.laws_heldIntS.r2 N (fun x0 x1 x2 x3 => (g (tabl (T228_0 x0 x1 x2 x3)))) (fun y0 y1 y2 y3 => (K .ret (tabl (T228_0 y0 y1 y2 y3)))) (fun y0 y1 y2 y3 => (K (.exit 0) (tabl (T228_0 y0 y1 y2 y3)))) x0 x1 x2 x3 := by intro g; kernel_rfl
    refine (iter_succ _ _ n _ K).trans ((h _).trans ?_)
    show Pu.laws_heldIntS.r2 N (fun x0 x1 x2 x3 => (iter (exc E228 (it228 N) (loopOf Try.f228 2)) (canon (E228.keep 2))  n (tabl (T228_0 x0 x1 x2 x3)) K)) (fun y0 y1 y2 y3 => (K .ret (tabl (T228_0 y0 y1 y2 y3)))) (fun y0 y1 y2 y3 => (K (.exit 0) (tabl (T228_0 y0 y1 y2 y3)))) x0 x1 x2 x3 = _
    rw [e0]; rfl
theorem lo228_2 {R : Type} (N : Nat) : LoopOk E228 (it228 N (R := R)) (loopOf Try.f228 2) := by
  have e : firstRid (loopOf Try.f228 2) = 2 := by kernel_rfl
  intro L K r
  rw [e]
  intro h
  unfold it228 at h
  simp only [show Nat.beq 2 2 = true from rfl, cond_false, cond_true] at h
  refine tell_ok (Q := fun L => ∃ n, iter (exc E228 (it228 N) (loopOf Try.f228 2)) (canon (E228.keep 2)) n (tabl L) K = some r) h (fun xs h => ?_) (fun h => ?_)
  · (try dsimp only at h)
    split at h
    · exact ⟨N, ((e228_2 N K N) _ _ _ _).trans h⟩
    · cases h
  cases h
def sp228 : List Arg → Option (Bool × Res)
  | [(.v false [(.sh 3 a0)]), (.v false [(.i .i64 k1)])] => some (Pu.laws_heldIntS.c a0 k1, ⟨[(.v false [(.i .i64 (Pu.laws_heldIntS.v a0 k1))])], []⟩)
  | _ => none
theorem ok228 : FnOk Try.prog T 228 sp228 := by
  refine fn_ok (E := E228) hE call_nil hM Try.func228 (code := (Try.f228.body.getD .skip)) (by kernel_rfl) (by kernel_rfl) ?_
  have key : ∀ (a0 : Row) (k1 : Int), Pu.laws_heldIntS.c a0 k1 = true → ∃ it : It Res, (∀ c ∈ loopsOf (Try.f228.body.getD .skip), LoopOk E228 it c) ∧ body E228 it Try.f228 [(.v false [(.sh 3 a0)]), (.v false [(.i .i64 k1)])] = some ⟨[(.v false [(.i .i64 (Pu.laws_heldIntS.v a0 k1))])], []⟩ := by
    intro a0 k1  h1
    obtain ⟨N, hN⟩ := Pu.laws_heldIntS.b_eq (R := Res) (fun r0 => some ⟨[(.v false [(.i .i64 r0)])], []⟩) a0 k1 h1
    have hl : loopsOf (Try.f228.body.getD .skip) = [loopOf Try.f228 2] := by kernel_rfl
    refine ⟨it228 N, by rw [hl]; exact (loops_cons (lo228_2 N) loops_nil), ?_⟩
    refine Eq.trans (show body E228 (it228 N) Try.f228 [(.v false [(.sh 3 a0)]), (.v false [(.i .i64 k1)])] = Pu.laws_heldIntS.b N (fun r0 => some ⟨[(.v false [(.i .i64 r0)])], []⟩) a0 k1 by kernel_rfl) hN
  intro args r h
  unfold sp228 at h
  split at h
  · injection h with h
    injection h with h1 h2
    subst h2
    exact ⟨by kernel_rfl, fun hf => ⟨of_decide_eq_true (by kernel_rfl), key _ _ h1⟩⟩
  · cases h

end Go.FG.Se

namespace Go.FG.Se
open Go.Proofs
def T197_0 (p0 : Row) (p1 : Int) (p2 : Int) (p3 : Int) : List (Nat × Cel) := [(0, (.v (.v false [(.sh 30 p0)]))), (2, (.v (.v false [(.i .i64 p1)]))), (8, (.v (.v false [(.i .i64 p2)]))), (10, (.v (.v false [(.i .i64 p3)])))]
def E197 : Env := { toTab := T, call := Go.FG.callIn [(228, sp228)], mode := Go.FG.modeIn md, keep := Go.FG.keepIn [(2, [0, 1, 4, 5])], tk := fun n => Go.FG.memB n [], om := Go.FG.omIn [] }
def it197 (N : Nat) {R : Type} : It R := fun rid f cn L K => bif Nat.beq rid 2 then (tell [(0, (.v (.v false [(.sh 30 [])]))), (2, (.v (.v false [(.i .i64 0)]))), (8, (.v (.v false [(.i .i64 0)]))), (10, (.v (.v false [(.i .i64 0)])))] (fun | [.R x0, .I x1, .I x2, .I x3] => Pu.laws_heldIntSS.l2 N (fun y0 y1 y2 y3 => (K .ret (tabl (T197_0 y0 y1 y2 y3)))) (fun y0 y1 y2 y3 => (K (.exit 0) (tabl (T197_0 y0 y1 y2 y3)))) N x0 x1 x2 x3 | _ => none) L (none)) else none
theorem e197_2 {R : Type} (N : Nat) (K : Ex → St → Option R) : ∀ n : Nat, (∀ x0 x1 x2 x3, iter (exc E197 (it197 N) (loopOf Try.f197 2)) (canon (E197.keep 2))  n (tabl (T197_0 x0 x1 x2 x3)) K = Pu.laws_heldIntSS.l2 N (fun y0 y1 y2 y3 => (K .ret (tabl (T197_0 y0 y1 y2 y3)))) (fun y0 y1 y2 y3 => (K (.exit 0) (tabl (T197_0 y0 y1 y2 y3)))) n x0 x1 x2 x3) := by
  intro n
  induction n with
  | zero => exact (fun _ _ _ _ => rfl)
  | succ n ih =>
    have e0 : (fun x0 x1 x2 x3 => iter (exc E197 (it197 N) (loopOf Try.f197 2)) (canon (E197.keep 2))  n (tabl (T197_0 x0 x1 x2 x3)) K) = Pu.laws_heldIntSS.l2 N (fun y0 y1 y2 y3 => (K .ret (tabl (T197_0 y0 y1 y2 y3)))) (fun y0 y1 y2 y3 => (K (.exit 0) (tabl (T197_0 y0 y1 y2 y3)))) n := by funext x0 x1 x2 x3; exact ih x0 x1 x2 x3
    intro x0 x1 x2 x3
    have h : ∀ g, exc E197 (it197 N) (loopOf Try.f197 2) (tabl (T197_0 x0 x1 x2 x3)) (iterK g (canon (E197.keep 2)) K) = Pu.laws_heldIntSS.r2 N (fun x0 x1 x2 x3 => (g (tabl (T197_0 x0 x1 x2 x3)))) (fun y0 y1 y2 y3 => (K .ret (tabl (T197_0 y0 y1 y2 y3)))) (fun y0 y1 y2 y3 => (K (.exit 0) (tabl (T197_0 y0 y1 y2 y3)))) x0 x1 x2 x3 := by intro g; kernel_rfl
    refine (iter_succ _ _ n _ K).trans ((h _).trans ?_)
    show Pu.laws_heldIntSS.r2 N (fun x0 x1 x2 x3 => (iter (exc E197 (it197 N) (loopOf Try.f197 2)) (canon (E197.keep 2))  n (tabl (T197_0 x0 x1 x2 x3)) K)) (fun y0 y1 y2 y3 => (K .ret (tabl (T197_0 y0 y1 y2 y3)))) (fun y0 y1 y2 y3 => (K (.exit 0) (tabl (T197_0 y0 y1 y2 y3)))) x0 x1 x2 x3 = _
    rw [e0]; rfl
theorem lo197_2 {R : Type} (N : Nat) : LoopOk E197 (it197 N (R := R)) (loopOf Try.f197 2) := by
  have e : firstRid (loopOf Try.f197 2) = 2 := by kernel_rfl
  intro L K r
  rw [e]
  intro h
  unfold it197 at h
  simp only [show Nat.beq 2 2 = true from rfl, cond_false, cond_true] at h
  refine tell_ok (Q := fun L => ∃ n, iter (exc E197 (it197 N) (loopOf Try.f197 2)) (canon (E197.keep 2)) n (tabl L) K = some r) h (fun xs h => ?_) (fun h => ?_)
  · (try dsimp only at h)
    split at h
    · exact ⟨N, ((e197_2 N K N) _ _ _ _).trans h⟩
    · cases h
  cases h
def sp197 : List Arg → Option (Bool × Res)
  | [(.v false [(.sh 30 a0)]), (.v false [(.i .i64 k1)])] => some (Pu.laws_heldIntSS.c a0 k1, ⟨[(.v false [(.i .i64 (Pu.laws_heldIntSS.v a0 k1))])], []⟩)
  | _ => none
theorem ok197 : FnOk Try.prog T 197 sp197 := by
  refine fn_ok (E := E197) hE (call_cons ok228 call_nil) hM Try.func197 (code := (Try.f197.body.getD .skip)) (by kernel_rfl) (by kernel_rfl) ?_
  have key : ∀ (a0 : Row) (k1 : Int), Pu.laws_heldIntSS.c a0 k1 = true → ∃ it : It Res, (∀ c ∈ loopsOf (Try.f197.body.getD .skip), LoopOk E197 it c) ∧ body E197 it Try.f197 [(.v false [(.sh 30 a0)]), (.v false [(.i .i64 k1)])] = some ⟨[(.v false [(.i .i64 (Pu.laws_heldIntSS.v a0 k1))])], []⟩ := by
    intro a0 k1  h1
    obtain ⟨N, hN⟩ := Pu.laws_heldIntSS.b_eq (R := Res) (fun r0 => some ⟨[(.v false [(.i .i64 r0)])], []⟩) a0 k1 h1
    have hl : loopsOf (Try.f197.body.getD .skip) = [loopOf Try.f197 2] := by kernel_rfl
    refine ⟨it197 N, by rw [hl]; exact (loops_cons (lo197_2 N) loops_nil), ?_⟩
    refine Eq.trans (show body E197 (it197 N) Try.f197 [(.v false [(.sh 30 a0)]), (.v false [(.i .i64 k1)])] = Pu.laws_heldIntSS.b N (fun r0 => some ⟨[(.v false [(.i .i64 r0)])], []⟩) a0 k1 by kernel_rfl) hN
  intro args r h
  unfold sp197 at h
  split at h
  · injection h with h
    injection h with h1 h2
    subst h2
    exact ⟨by kernel_rfl, fun hf => ⟨of_decide_eq_true (by kernel_rfl), key _ _ h1⟩⟩
  · cases h

end Go.FG.Se

namespace Go.FG.Se
open Go.Proofs
def E118 : Env := { toTab := T, call := Go.FG.callIn [(197, sp197)], mode := Go.FG.modeIn md, keep := Go.FG.keepIn [], tk := fun n => Go.FG.memB n [], om := Go.FG.omIn [] }
def sp118 : List Arg → Option (Bool × Res)
  | [(.v true [(.sh 30 a0_0), (.i .i64 a0_1)]), (.v false [(.i .i64 k1)])] => some (Pu.laws_heldSketch.c a0_0 a0_1 k1, ⟨[(.v false [(.i .i64 (Pu.laws_heldSketch.v a0_0 a0_1 k1))])], []⟩)
  | _ => none
theorem ok118 : FnOk Try.prog T 118 sp118 := by
  refine fn_ok (E := E118) hE (call_cons ok197 call_nil) hM Try.func118 (code := (Try.f118.body.getD .skip)) (by kernel_rfl) (by kernel_rfl) ?_
  have key : ∀ (a0_0 : Row) (a0_1 : Int) (k1 : Int), Pu.laws_heldSketch.c a0_0 a0_1 k1 = true → ∃ it : It Res, (∀ c ∈ loopsOf (Try.f118.body.getD .skip), LoopOk E118 it c) ∧ body E118 it Try.f118 [(.v true [(.sh 30 a0_0), (.i .i64 a0_1)]), (.v false [(.i .i64 k1)])] = some ⟨[(.v false [(.i .i64 (Pu.laws_heldSketch.v a0_0 a0_1 k1))])], []⟩ := by
    intro a0_0 a0_1 k1  h1
    have hN := Pu.laws_heldSketch.b_eq (R := Res) (fun r0 => some ⟨[(.v false [(.i .i64 r0)])], []⟩) a0_0 a0_1 k1 h1
    have hl : loopsOf (Try.f118.body.getD .skip) = [] := by kernel_rfl
    refine ⟨iterN 0, by rw [hl]; exact loops_nil, ?_⟩
    refine Eq.trans (show body E118 (iterN 0) Try.f118 [(.v true [(.sh 30 a0_0), (.i .i64 a0_1)]), (.v false [(.i .i64 k1)])] = Pu.laws_heldSketch.b (fun r0 => some ⟨[(.v false [(.i .i64 r0)])], []⟩) a0_0 a0_1 k1 by kernel_rfl) hN
  intro args r h
  unfold sp118 at h
  split at h
  · injection h with h
    injection h with h1 h2
    subst h2
    exact ⟨by kernel_rfl, fun hf => ⟨of_decide_eq_true (by kernel_rfl), key _ _ _ h1⟩⟩
  · cases h

end Go.FG.Se

namespace Go.FG.Se
open Go.Proofs
def E37 : Env := { toTab := T, call := Go.FG.callIn [(117, sp117), (118, sp118)], mode := Go.FG.modeIn md, keep := Go.FG.keepIn [], tk := fun n => Go.FG.memB n [], om := Go.FG.omIn [] }
def sp37 : List Arg → Option (Bool × Res)
  | [(.v true [(.sh 9 a0_0), (.sh 9 a0_1), (.sh 30 a0_2), (.i .i64 a0_3)]), (.v false [(.i .i64 k1)])] => some (Pu.laws_heldPolicy.c a0_0 a0_1 a0_2 a0_3 k1, ⟨[(.v false [(.i .i64 (Pu.laws_heldPolicy.v a0_0 a0_1 a0_2 a0_3 k1))])], []⟩)
  | _ => none
theorem ok37 : FnOk Try.prog T 37 sp37 := by
  refine fn_ok (E := E37) hE (call_cons ok117 (call_cons ok118 call_nil)) hM Try.func37 (code := (Try.f37.body.getD .skip)) (by kernel_rfl) (by kernel_rfl) ?_
  have key : ∀ (a0_0 : Row) (a0_1 : Row) (a0_2 : Row) (a0_3 : Int) (k1 : Int), Pu.laws_heldPolicy.c a0_0 a0_1 a0_2 a0_3 k1 = true → ∃ it : It Res, (∀ c ∈ loopsOf (Try.f37.body.getD .skip), LoopOk E37 it c) ∧ body E37 it Try.f37 [(.v true [(.sh 9 a0_0), (.sh 9 a0_1), (.sh 30 a0_2), (.i .i64 a0_3)]), (.v false [(.i .i64 k1)])] = some ⟨[(.v false [(.i .i64 (Pu.laws_heldPolicy.v a0_0 a0_1 a0_2 a0_3 k1))])], []⟩ := by
    intro a0_0 a0_1 a0_2 a0_3 k1  h1
    have hN := Pu.laws_heldPolicy.b_eq (R := Res) (fun r0 => some ⟨[(.v false [(.i .i64 r0)])], []⟩) a0_0 a0_1 a0_2 a0_3 k1 h1
    have hl : loopsOf (Try.f37.body.getD .skip) = [] := by kernel_rfl
    refine ⟨iterN 0, by rw [hl]; exact loops_nil, ?_⟩
    refine Eq.trans (show body E37 (iterN 0) Try.f37 [(.v true [(.sh 9 a0_0), (.sh 9 a0_1), (.sh 30 a0_2), (.i .i64 a0_3)]), (.v false [(.i .i64 k1)])] = Pu.laws_heldPolicy.b (fun r0 => some ⟨[(.v false [(.i .i64 r0)])], []⟩) a0_0 a0_1 a0_2 a0_3 k1 by kernel_rfl) hN
  intro args r h
  unfold sp37 at h
  split at h
  · injection h with h
    injection h with h1 h2
    subst h2
    exact ⟨by kernel_rfl, fun hf => ⟨of_decide_eq_true (by kernel_rfl), key _ _ _ _ _ h1⟩⟩
  · cases h

end Go.FG.Se

namespace Go.FG.Se
open Go.Proofs
def T136_0 (p0 : Row) (p1 : Int) (p2 : Int) (p3 : Int) : List (Nat × Cel) := [(0, (.v (.v false [(.sh 126 p0)]))), (2, (.v (.v false [(.i .i64 p1)]))), (8, (.v (.v false [(.i .i64 p2)]))), (10, (.v (.v false [(.i .i64 p3)])))]
def E136 : Env := { toTab := T, call := Go.FG.callIn [(195, sp195)], mode := Go.FG.modeIn md, keep := Go.FG.keepIn [(2, [0, 1, 4, 5])], tk := fun n => Go.FG.memB n [], om := Go.FG.omIn [] }
def it136 (N : Nat) {R : Type} : It R := fun rid f cn L K => bif Nat.beq rid 2 then (tell [(0, (.v (.v false [(.sh 126 [])]))), (2, (.v (.v false [(.i .i64 0)]))), (8, (.v (.v false [(.i .i64 0)]))), (10, (.v (.v false [(.i .i64 0)])))] (fun | [.R x0, .I x1, .I x2, .I x3] => Pu.laws_heldFetchS.l2 N (fun y0 y1 y2 y3 => (K .ret (tabl (T136_0 y0 y1 y2 y3)))) (fun y0 y1 y2 y3 => (K (.exit 0) (tabl (T136_0 y0 y1 y2 y3)))) N x0 x1 x2 x3 | _ => none) L (none)) else none
theorem e136_2 {R : Type} (N : Nat) (K : Ex → St → Option R) : ∀ n : Nat, (∀ x0 x1 x2 x3, iter (exc E136 (it136 N) (loopOf Try.f136 2)) (canon (E136.keep 2))  n (tabl (T136_0 x0 x1 x2 x3)) K = Pu.laws_heldFetchS.l2 N (fun y0 y1 y2 y3 => (K .ret (tabl (T136_0 y0 y1 y2 y3)))) (fun y0 y1 y2 y3 => (K (.exit 0) (tabl (T136_0 y0 y1 y2 y3)))) n x0 x1 x2 x3) := by
  intro n
  induction n with
  | zero => exact (fun _ _ _ _ => rfl)
  | succ n ih =>
    have e0 : (fun x0 x1 x2 x3 => iter (exc E136 (it136 N) (loopOf Try.f136 2)) (canon (E136.keep 2))  n (tabl (T136_0 x0 x1 x2 x3)) K) = Pu.laws_heldFetchS.l2 N (fun y0 y1 y2 y3 => (K .ret (tabl (T136_0 y0 y1 y2 y3)))) (fun y0 y1 y2 y3 => (K (.exit 0) (tabl (T136_0 y0 y1 y2 y3)))) n := by funext x0 x1 x2 x3; exact ih x0 x1 x2 x3
    intro x0 x1 x2 x3
    have h : ∀ g, exc E136 (it136 N) (loopOf Try.f136 2) (tabl (T136_0 x0 x1 x2 x3)) (iterK g (canon (E136.keep 2)) K) = Pu.laws_heldFetchS.r2 N (fun x0 x1 x2 x3 => (g (tabl (T136_0 x0 x1 x2 x3)))) (fun y0 y1 y2 y3 => (K .ret (tabl (T136_0 y0 y1 y2 y3)))) (fun y0 y1 y2 y3 => (K (.exit 0) (tabl (T136_0 y0 y1 y2 y3)))) x0 x1 x2 x3 := by intro g; kernel_rfl
    refine (iter_succ _ _ n _ K).trans ((h _).trans ?_)
    show Pu.laws_heldFetchS.r2 N (fun x0 x1 x2 x3 => (iter (exc E136 (it136 N) (loopOf Try.f136 2)) (canon (E136.keep 2))  n (tabl (T136_0 x0 x1 x2 x3)) K)) (fun y0 y1 y2 y3 => (K .ret (tabl (T136_0 y0 y1 y2 y3)))) (fun y0 y1 y2 y3 => (K (.exit 0) (tabl (T136_0 y0 y1 y2 y3)))) x0 x1 x2 x3 = _
    rw [e0]; rfl
theorem lo136_2 {R : Type} (N : Nat) : LoopOk E136 (it136 N (R := R)) (loopOf Try.f136 2) := by
  have e : firstRid (loopOf Try.f136 2) = 2 := by kernel_rfl
  intro L K r
  rw [e]
  intro h
  unfold it136 at h
  simp only [show Nat.beq 2 2 = true from rfl, cond_false, cond_true] at h
  refine tell_ok (Q := fun L => ∃ n, iter (exc E136 (it136 N) (loopOf Try.f136 2)) (canon (E136.keep 2)) n (tabl L) K = some r) h (fun xs h => ?_) (fun h => ?_)
  · (try dsimp only at h)
    split at h
    · exact ⟨N, ((e136_2 N K N) _ _ _ _).trans h⟩
    · cases h
  cases h
def sp136 : List Arg → Option (Bool × Res)
  | [(.v false [(.sh 126 a0)]), (.v false [(.i .i64 k1)])] => some (Pu.laws_heldFetchS.c a0 k1, ⟨[(.v false [(.i .i64 (Pu.laws_heldFetchS.v a0 k1))])], []⟩)
  | _ => none
theorem ok136 : FnOk Try.prog T 136 sp136 := by
  refine fn_ok (E := E136) hE (call_cons ok195 call_nil) hM Try.func136 (code := (Try.f136.body.getD .skip)) (by kernel_rfl) (by kernel_rfl) ?_
  have key : ∀ (a0 : Row) (k1 : Int), Pu.laws_heldFetchS.c a0 k1 = true → ∃ it : It Res, (∀ c ∈ loopsOf (Try.f136.body.getD .skip), LoopOk E136 it c) ∧ body E136 it Try.f136 [(.v false [(.sh 126 a0)]), (.v false [(.i .i64 k1)])] = some ⟨[(.v false [(.i .i64 (Pu.laws_heldFetchS.v a0 k1))])], []⟩ := by
    intro a0 k1  h1
    obtain ⟨N, hN⟩ := Pu.laws_heldFetchS.b_eq (R := Res) (fun r0 => some ⟨[(.v false [(.i .i64 r0)])], []⟩) a0 k1 h1
    have hl : loopsOf (Try.f136.body.getD .skip) = [loopOf Try.f136 2] := by kernel_rfl
    refine ⟨it136 N, by rw [hl]; exact (loops_cons (lo136_2 N) loops_nil), ?_⟩
    refine Eq.trans (show body E136 (it136 N) Try.f136 [(.v false [(.sh 126 a0)]), (.v false [(.i .i64 k1)])] = Pu.laws_heldFetchS.b N (fun r0 => some ⟨[(.v false [(.i .i64 r0)])], []⟩) a0 k1 by kernel_rfl) hN
  intro args r h
  unfold sp136 at h
  split at h
  · injection h with h
    injection h with h1 h2
    subst h2
    exact ⟨by kernel_rfl, fun hf => ⟨of_decide_eq_true (by kernel_rfl), key _ _ h1⟩⟩
  · cases h

end Go.FG.Se

namespace Go.FG.Se
open Go.Proofs
def T137_0 (p0 : Row) (p1 : Int) (p2 : Int) (p3 : Int) : List (Nat × Cel) := [(0, (.v (.v false [(.sh 62 p0)]))), (2, (.v (.v false [(.i .i64 p1)]))), (8, (.v (.v false [(.i .i64 p2)]))), (10, (.v (.v false [(.i .i64 p3)])))]
def E137 : Env := { toTab := T, call := Go.FG.callIn [(195, sp195)], mode := Go.FG.modeIn md, keep := Go.FG.keepIn [(2, [0, 1, 4, 5])], tk := fun n => Go.FG.memB n [], om := Go.FG.omIn [] }
def it137 (N : Nat) {R : Type} : It R := fun rid f cn L K => bif Nat.beq rid 2 then (tell [(0, (.v (.v false [(.sh 62 [])]))), (2, (.v (.v false [(.i .i64 0)]))), (8, (.v (.v false [(.i .i64 0)]))), (10, (.v (.v false [(.i .i64 0)])))] (fun | [.R x0, .I x1, .I x2, .I x3] => Pu.laws_heldClientS.l2 N (fun y0 y1 y2 y3 => (K .ret (tabl (T137_0 y0 y1 y2 y3)))) (fun y0 y1 y2 y3 => (K (.exit 0) (tabl (T137_0 y0 y1 y2 y3)))) N x0 x1 x2 x3 | _ => none) L (none)) else none
theorem e137_2 {R : Type} (N : Nat) (K : Ex → St → Option R) : ∀ n : Nat, (∀ x0 x1 x2 x3, iter (exc E137 (it137 N) (loopOf Try.f137 2)) (canon (E137.keep 2))  n (tabl (T137_0 x0 x1 x2 x3)) K = Pu.laws_heldClientS.l2 N (fun y0 y1 y2 y3 => (K .ret (tabl (T137_0 y0 y1 y2 y3)))) (fun y0 y1 y2 y3 => (K (.exit 0) (tabl (T137_0 y0 y1 y2 y3)))) n x0 x1 x2 x3) := by
  intro n
  induction n with
  | zero => exact (fun _ _ _ _ => rfl)
  | succ n ih =>
    have e0 : (fun x0 x1 x2 x3 => iter (exc E137 (it137 N) (loopOf Try.f137 2)) (canon (E137.keep 2))  n (tabl (T137_0 x0 x1 x2 x3)) K) = Pu.laws_heldClientS.l2 N (fun y0 y1 y2 y3 => (K .ret (tabl (T137_0 y0 y1 y2 y3)))) (fun y0 y1 y2 y3 => (K (.exit 0) (tabl (T137_0 y0 y1 y2 y3)))) n := by funext x0 x1 x2 x3; exact ih x0 x1 x2 x3
    intro x0 x1 x2 x3
    have h : ∀ g, exc E137 (it137 N) (loopOf Try.f137 2) (tabl (T137_0 x0 x1 x2 x3)) (iterK g (canon (E137.keep 2)) K) = Pu.laws_heldClientS.r2 N (fun x0 x1 x2 x3 => (g (tabl (T137_0 x0 x1 x2 x3)))) (fun y0 y1 y2 y3 => (K .ret (tabl (T137_0 y0 y1 y2 y3)))) (fun y0 y1 y2 y3 => (K (.exit 0) (tabl (T137_0 y0 y1 y2 y3)))) x0 x1 x2 x3 := by intro g; kernel_rfl
    refine (iter_succ _ _ n _ K).trans ((h _).trans ?_)
    show Pu.laws_heldClientS.r2 N (fun x0 x1 x2 x3 => (iter (exc E137 (it137 N) (loopOf Try.f137 2)) (canon (E137.keep 2))  n (tabl (T137_0 x0 x1 x2 x3)) K)) (fun y0 y1 y2 y3 => (K .ret (tabl (T137_0 y0 y1 y2 y3)))) (fun y0 y1 y2 y3 => (K (.exit 0) (tabl (T137_0 y0 y1 y2 y3)))) x0 x1 x2 x3 = _
    rw [e0]; rfl
theorem lo137_2 {R : Type} (N : Nat) : LoopOk E137 (it137 N (R := R)) (loopOf Try.f137 2) := by
  have e : firstRid (loopOf Try.f137 2) = 2 := by kernel_rfl
  intro L K r
  rw [e]
  intro h
  unfold it137 at h
  simp only [show Nat.beq 2 2 = true from rfl, cond_false, cond_true] at h
  refine tell_ok (Q := fun L => ∃ n, iter (exc E137 (it137 N) (loopOf Try.f137 2)) (canon (E137.keep 2)) n (tabl L) K = some r) h (fun xs h => ?_) (fun h => ?_)
  · (try dsimp only at h)
    split at h
    · exact ⟨N, ((e137_2 N K N) _ _ _ _).trans h⟩
    · cases h
  cases h
def sp137 : List Arg → Option (Bool × Res)
  | [(.v false [(.sh 62 a0)]), (.v false [(.i .i64 k1)])] => some (Pu.laws_heldClientS.c a0 k1, ⟨[(.v false [(.i .i64 (Pu.laws_heldClientS.v a0 k1))])], []⟩)
  | _ => none
theorem ok137 : FnOk Try.prog T 137 sp137 := by
  refine fn_ok (E := E137) hE (call_cons ok195 call_nil) hM Try.func137 (code := (Try.f137.body.getD .skip)) (by kernel_rfl) (by kernel_rfl) ?_
  have key : ∀ (a0 : Row) (k1 : Int), Pu.laws_heldClientS.c a0 k1 = true → ∃ it : It Res, (∀ c ∈ loopsOf (Try.f137.body.getD .skip), LoopOk E137 it c) ∧ body E137 it Try.f137 [(.v false [(.sh 62 a0)]), (.v false [(.i .i64 k1)])] = some ⟨[(.v false [(.i .i64 (Pu.laws_heldClientS.v a0 k1))])], []⟩ := by
    intro a0 k1  h1
    obtain ⟨N, hN⟩ := Pu.laws_heldClientS.b_eq (R := Res) (fun r0 => some ⟨[(.v false [(.i .i64 r0)])], []⟩) a0 k1 h1
    have hl : loopsOf (Try.f137.body.getD .skip) = [loopOf Try.f137 2] := by kernel_rfl
    refine ⟨it137 N, by rw [hl]; exact (loops_cons (lo137_2 N) loops_nil), ?_⟩
    refine Eq.trans (show body E137 (it137 N) Try.f137 [(.v false [(.sh 62 a0)]), (.v false [(.i .i64 k1)])] = Pu.laws_heldClientS.b N (fun r0 => some ⟨[(.v false [(.i .i64 r0)])], []⟩) a0 k1 by kernel_rfl) hN
  intro args r h
  unfold sp137 at h
  split at h
  · injection h with h
    injection h with h1 h2
    subst h2
    exact ⟨by kernel_rfl, fun hf => ⟨of_decide_eq_true (by kernel_rfl), key _ _ h1⟩⟩
  · cases h

end Go.FG.Se

namespace Go.FG.Se
open Go.Proofs
def E48 : Env := { toTab := T, call := Go.FG.callIn [(135, sp135), (37, sp37), (136, sp136), (137, sp137)], mode := Go.FG.modeIn md, keep := Go.FG.keepIn [], tk := fun n => Go.FG.memB n [], om := Go.FG.omIn [] }
def sp48 : List Arg → Option (Bool × Res)
  | [(.v true [(.i .i64 a0_0), (.sh 86 a0_1), (.sh 9 a0_2), (.sh 9 a0_3), (.sh 30 a0_4), (.i .i64 a0_5), (.sh 126 a0_6), (.sh 62 a0_7), (.i .i64 a0_8)]), (.v false [(.i .i64 k1)])] => some (Pu.laws_heldProxy.c a0_0 a0_1 a0_2 a0_3 a0_4 a0_5 a0_6 a0_7 a0_8 k1, ⟨[(.v false [(.i .i64 (Pu.laws_heldProxy.v a0_0 a0_1 a0_2 a0_3 a0_4 a0_5 a0_6 a0_7 a0_8 k1))])], []⟩)
  | _ => none
theorem ok48 : FnOk Try.prog T 48 sp48 := by
  refine fn_ok (E := E48) hE (call_cons ok135 (call_cons ok37 (call_cons ok136 (call_cons ok137 call_nil)))) hM Try.func48 (code := (Try.f48.body.getD .skip)) (by kernel_rfl) (by kernel_rfl) ?_
  have key : ∀ (a0_0 : Int) (a0_1 : Row) (a0_2 : Row) (a0_3 : Row) (a0_4 : Row) (a0_5 : Int) (a0_6 : Row) (a0_7 : Row) (a0_8 : Int) (k1 : Int), Pu.laws_heldProxy.c a0_0 a0_1 a0_2 a0_3 a0_4 a0_5 a0_6 a0_7 a0_8 k1 = true → ∃ it : It Res, (∀ c ∈ loopsOf (Try.f48.body.getD .skip), LoopOk E48 it c) ∧ body E48 it Try.f48 [(.v true [(.i .i64 a0_0), (.sh 86 a0_1), (.sh 9 a0_2), (.sh 9 a0_3), (.sh 30 a0_4), (.i .i64 a0_5), (.sh 126 a0_6), (.sh 62 a0_7), (.i .i64 a0_8)]), (.v false [(.i .i64 k1)])] = some ⟨[(.v false [(.i .i64 (Pu.laws_heldProxy.v a0_0 a0_1 a0_2 a0_3 a0_4 a0_5 a0_6 a0_7 a0_8 k1))])], []⟩ := by
    intro a0_0 a0_1 a0_2 a0_3 a0_4 a0_5 a0_6 a0_7 a0_8 k1  h1
    have hN := Pu.laws_heldProxy.b_eq (R := Res) (fun r0 => some ⟨[(.v false [(.i .i64 r0)])], []⟩) a0_0 a0_1 a0_2 a0_3 a0_4 a0_5 a0_6 a0_7 a0_8 k1 h1
    have hl : loopsOf (Try.f48.body.getD .skip) = [] := by kernel_rfl
    refine ⟨iterN 0, by rw [hl]; exact loops_nil, ?_⟩
    refine Eq.trans (show body E48 (iterN 0) Try.f48 [(.v true [(.i .i64 a0_0), (.sh 86 a0_1), (.sh 9 a0_2), (.sh 9 a0_3), (.sh 30 a0_4), (.i .i64 a0_5), (.sh 126 a0_6), (.sh 62 a0_7), (.i .i64 a0_8)]), (.v false [(.i .i64 k1)])] = Pu.laws_heldProxy.b (fun r0 => some ⟨[(.v false [(.i .i64 r0)])], []⟩) a0_0 a0_1 a0_2 a0_3 a0_4 a0_5 a0_6 a0_7 a0_8 k1 by kernel_rfl) hN
  intro args r h
  unfold sp48 at h
  split at h
  · injection h with h
    injection h with h1 h2
    subst h2
    exact ⟨by kernel_rfl, fun hf => ⟨of_decide_eq_true (by kernel_rfl), key _ _ _ _ _ _ _ _ _ _ h1⟩⟩
  · cases h

end Go.FG.Se

namespace Go.FG.Se
open Go.Proofs
def E8 : Env := { toTab := T, call := Go.FG.callIn [(38, sp38), (40, sp40), (46, sp46), (24, sp24), (41, sp41), (47, sp47), (48, sp48)], mode := Go.FG.modeIn md, keep := Go.FG.keepIn [], tk := fun n => Go.FG.memB n [], om := Go.FG.omIn [] }
def sp8 : List Arg → Option (Bool × Res)
  | [(.v true [(.i .i64 aP0_0), (.sh 208 aP0_1), (.sh 9 aP0_2), (.sh 9 aP0_3), (.sh 30 aP0_4), (.i .i64 aP0_5), (.sh 210 aP0_6), (.sh 212 aP0_7), (.i .i64 aP0_8)]), (.v false [(.i .i64 aN1)])] => some (Pu.laws_FnExactPassTime.c aP0_0 aP0_1 aP0_2 aP0_3 aP0_4 aP0_5 aP0_6 aP0_7 aP0_8 aN1, ⟨[(.v false [(.b (Pu.laws_FnExactPassTime.v aP0_0 aP0_1 aP0_2 aP0_3 aP0_4 aP0_5 aP0_6 aP0_7 aP0_8 aN1))])], []⟩)
  | _ => none
theorem ok8 : FnOk Try.prog T 8 sp8 := by
  refine fn_ok (E := E8) hE (call_cons ok38 (call_cons ok40 (call_cons ok46 (call_cons ok24 (call_cons ok41 (call_cons ok47 (call_cons ok48 call_nil))))))) hM Try.func8 (code := (Try.f8.body.getD .skip)) (by kernel_rfl) (by kernel_rfl) ?_
  have key : ∀ (aP0_0 : Int) (aP0_1 : Row) (aP0_2 : Row) (aP0_3 : Row) (aP0_4 : Row) (aP0_5 : Int) (aP0_6 : Row) (aP0_7 : Row) (aP0_8 : Int) (aN1 : Int), Pu.laws_FnExactPassTime.c aP0_0 aP0_1 aP0_2 aP0_3 aP0_4 aP0_5 aP0_6 aP0_7 aP0_8 aN1 = true → ∃ it : It Res, (∀ c ∈ loopsOf (Try.f8.body.getD .skip), LoopOk E8 it c) ∧ body E8 it Try.f8 [(.v true [(.i .i64 aP0_0), (.sh 208 aP0_1), (.sh 9 aP0_2), (.sh 9 aP0_3), (.sh 30 aP0_4), (.i .i64 aP0_5), (.sh 210 aP0_6), (.sh 212 aP0_7), (.i .i64 aP0_8)]), (.v false [(.i .i64 aN1)])] = some ⟨[(.v false [(.b (Pu.laws_FnExactPassTime.v aP0_0 aP0_1 aP0_2 aP0_3 aP0_4 aP0_5 aP0_6 aP0_7 aP0_8 aN1))])], []⟩ := by
    intro aP0_0 aP0_1 aP0_2 aP0_3 aP0_4 aP0_5 aP0_6 aP0_7 aP0_8 aN1  h1
    have hN := Pu.laws_FnExactPassTime.b_eq (R := Res) (fun r0 => some ⟨[(.v false [(.b r0)])], []⟩) aP0_0 aP0_1 aP0_2 aP0_3 aP0_4 aP0_5 aP0_6 aP0_7 aP0_8 aN1 h1
    have hl : loopsOf (Try.f8.body.getD .skip) = [] := by kernel_rfl
    refine ⟨iterN 0, by rw [hl]; exact loops_nil, ?_⟩
    refine Eq.trans (show body E8 (iterN 0) Try.f8 [(.v true [(.i .i64 aP0_0), (.sh 208 aP0_1), (.sh 9 aP0_2), (.sh 9 aP0_3), (.sh 30 aP0_4), (.i .i64 aP0_5), (.sh 210 aP0_6), (.sh 212 aP0_7), (.i .i64 aP0_8)]), (.v false [(.i .i64 aN1)])] = Pu.laws_FnExactPassTime.b (fun r0 => some ⟨[(.v false [(.b r0)])], []⟩) aP0_0 aP0_1 aP0_2 aP0_3 aP0_4 aP0_5 aP0_6 aP0_7 aP0_8 aN1 by kernel_rfl) hN
  intro args r h
  unfold sp8 at h
  split at h
  · injection h with h
    injection h with h1 h2
    subst h2
    exact ⟨by kernel_rfl, fun hf => ⟨of_decide_eq_true (by kernel_rfl), key _ _ _ _ _ _ _ _ _ _ h1⟩⟩
  · cases h

end Go.FG.Se

