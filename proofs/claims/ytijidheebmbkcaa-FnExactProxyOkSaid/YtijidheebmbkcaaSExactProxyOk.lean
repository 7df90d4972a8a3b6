/- Functions of the program: the evaluation of each, and that a call of it does what is told. No condition. -/
import Derived.Test.YtijidheebmbkcaaTab
import Derived.Test.YtijidheebmbkcaaPExactProxyOk
set_option linter.unusedVariables false
set_option linter.unusedSimpArgs false
set_option maxRecDepth 100000
namespace Go.FG.Se
open Go.Proofs
def E198 : Env := { toTab := T, call := Go.FG.callIn [], mode := Go.FG.modeIn md, keep := Go.FG.keepIn [], tk := fun n => Go.FG.memB n [], om := Go.FG.omIn [] }
def sp198 : List Arg → Option (Bool × Res)
  | [(.v true [(.s a0_0), (.i .i64 a0_1), (.i .i64 a0_2), (.s a0_3)]), (.v false [(.i .i64 left1)])] => some (true, ⟨[(.v false [(.i .i64 (Pu.laws_szEntry.v a0_0 a0_1 a0_2 a0_3 left1))])], []⟩)
  | _ => none
theorem ok198 : FnOk Try.prog T 198 sp198 := by
  refine fn_ok (E := E198) hE call_nil hM Try.func198 (code := (Try.f198.body.getD .skip)) (by kernel_rfl) (by kernel_rfl) ?_
  have key : ∀ (a0_0 : ByteArray) (a0_1 : Int) (a0_2 : Int) (a0_3 : ByteArray) (left1 : Int), ∃ it : It Res, (∀ c ∈ loopsOf (Try.f198.body.getD .skip), LoopOk E198 it c) ∧ body E198 it Try.f198 [(.v true [(.s a0_0), (.i .i64 a0_1), (.i .i64 a0_2), (.s a0_3)]), (.v false [(.i .i64 left1)])] = some ⟨[(.v false [(.i .i64 (Pu.laws_szEntry.v a0_0 a0_1 a0_2 a0_3 left1))])], []⟩ := by
    intro a0_0 a0_1 a0_2 a0_3 left1 
    have hN := Pu.laws_szEntry.b_eq (R := Res) (fun r0 => some ⟨[(.v false [(.i .i64 r0)])], []⟩) a0_0 a0_1 a0_2 a0_3 left1
    have hl : loopsOf (Try.f198.body.getD .skip) = [] := by kernel_rfl
    refine ⟨iterN 0, by rw [hl]; exact loops_nil, ?_⟩
    refine Eq.trans (show body E198 (iterN 0) Try.f198 [(.v true [(.s a0_0), (.i .i64 a0_1), (.i .i64 a0_2), (.s a0_3)]), (.v false [(.i .i64 left1)])] = Pu.laws_szEntry.b (fun r0 => some ⟨[(.v false [(.i .i64 r0)])], []⟩) a0_0 a0_1 a0_2 a0_3 left1 by kernel_rfl) hN
  intro args r h
  unfold sp198 at h
  split at h
  · injection h with h
    injection h with h1 h2
    subst h2
    exact ⟨by kernel_rfl, fun hf => ⟨of_decide_eq_true (by kernel_rfl), key _ _ _ _ _⟩⟩
  · cases h

end Go.FG.Se

namespace Go.FG.Se
open Go.Proofs
def T119_0 (p0 : Row) (p1 : Int) (p2 : Int) (p3 : Int) : List (Nat × Cel) := [(0, (.v (.v false [(.sh 208 p0)]))), (2, (.v (.v false [(.i .i64 p1)]))), (8, (.v (.v false [(.i .i64 p2)]))), (10, (.v (.v false [(.i .i64 p3)])))]
def E119 : Env := { toTab := T, call := Go.FG.callIn [(198, sp198)], mode := Go.FG.modeIn md, keep := Go.FG.keepIn [(5, [0, 1, 4, 5])], tk := fun n => Go.FG.memB n [], om := Go.FG.omIn [] }
def it119 (N : Nat) {R : Type} : It R := fun rid f cn L K => bif Nat.beq rid 5 then (tell [(0, (.v (.v false [(.sh 208 [])]))), (2, (.v (.v false [(.i .i64 0)]))), (8, (.v (.v false [(.i .i64 0)]))), (10, (.v (.v false [(.i .i64 0)])))] (fun | [.R x0, .I x1, .I x2, .I x3] => Pu.laws_szEntryS.l5 N (fun y0 y1 y2 y3 => (K .ret (tabl (T119_0 y0 y1 y2 y3)))) (fun y0 y1 y2 y3 => (K (.exit 0) (tabl (T119_0 y0 y1 y2 y3)))) N x0 x1 x2 x3 | _ => none) L (none)) else none
theorem e119_5 {R : Type} (N : Nat) (K : Ex → St → Option R) : ∀ n : Nat, (∀ x0 x1 x2 x3, iter (exc E119 (it119 N) (loopOf Try.f119 5)) (canon (E119.keep 5))  n (tabl (T119_0 x0 x1 x2 x3)) K = Pu.laws_szEntryS.l5 N (fun y0 y1 y2 y3 => (K .ret (tabl (T119_0 y0 y1 y2 y3)))) (fun y0 y1 y2 y3 => (K (.exit 0) (tabl (T119_0 y0 y1 y2 y3)))) n x0 x1 x2 x3) := by
  intro n
  induction n with
  | zero => exact (fun _ _ _ _ => rfl)
  | succ n ih =>
    have e0 : (fun x0 x1 x2 x3 => iter (exc E119 (it119 N) (loopOf Try.f119 5)) (canon (E119.keep 5))  n (tabl (T119_0 x0 x1 x2 x3)) K) = Pu.laws_szEntryS.l5 N (fun y0 y1 y2 y3 => (K .ret (tabl (T119_0 y0 y1 y2 y3)))) (fun y0 y1 y2 y3 => (K (.exit 0) (tabl (T119_0 y0 y1 y2 y3)))) n := by funext x0 x1 x2 x3; exact ih x0 x1 x2 x3
    intro x0 x1 x2 x3
    have h : ∀ g, exc E119 (it119 N) (loopOf Try.f119 5) (tabl (T119_0 x0 x1 x2 x3)) (iterK g (canon (E119.keep 5)) K) = Pu.laws_szEntryS.r5 N (fun x0 x1 x2 x3 => (g (tabl (T119_0 x0 x1 x2 x3)))) (fun y0 y1 y2 y3 => (K .ret (tabl (T119_0 y0 y1 y2 y3)))) (fun y0 y1 y2 y3 => (K (.exit 0) (tabl (T119_0 y0 y1 y2 y3)))) x0 x1 x2 x3 := by intro g; kernel_rfl
    refine (iter_succ _ _ n _ K).trans ((h _).trans ?_)
    show Pu.laws_szEntryS.r5 N (fun x0 x1 x2 x3 => (iter (exc E119 (it119 N) (loopOf Try.f119 5)) (canon (E119.keep 5))  n (tabl (T119_0 x0 x1 x2 x3)) K)) (fun y0 y1 y2 y3 => (K .ret (tabl (T119_0 y0 y1 y2 y3)))) (fun y0 y1 y2 y3 => (K (.exit 0) (tabl (T119_0 y0 y1 y2 y3)))) x0 x1 x2 x3 = _
    rw [e0]; rfl
theorem lo119_5 {R : Type} (N : Nat) : LoopOk E119 (it119 N (R := R)) (loopOf Try.f119 5) := by
  have e : firstRid (loopOf Try.f119 5) = 5 := by kernel_rfl
  intro L K r
  rw [e]
  intro h
  unfold it119 at h
  simp only [show Nat.beq 5 5 = true from rfl, cond_false, cond_true] at h
  refine tell_ok (Q := fun L => ∃ n, iter (exc E119 (it119 N) (loopOf Try.f119 5)) (canon (E119.keep 5)) n (tabl L) K = some r) h (fun xs h => ?_) (fun h => ?_)
  · (try dsimp only at h)
    split at h
    · exact ⟨N, ((e119_5 N K N) _ _ _ _).trans h⟩
    · cases h
  cases h
def sp119 : List Arg → Option (Bool × Res)
  | [(.v false [(.sh 208 a0)]), (.v false [(.i .i64 left1)])] => some (Pu.laws_szEntryS.c a0 left1, ⟨[(.v false [(.i .i64 (Pu.laws_szEntryS.v a0 left1))])], []⟩)
  | _ => none
theorem ok119 : FnOk Try.prog T 119 sp119 := by
  refine fn_ok (E := E119) hE (call_cons ok198 call_nil) hM Try.func119 (code := (Try.f119.body.getD .skip)) (by kernel_rfl) (by kernel_rfl) ?_
  have key : ∀ (a0 : Row) (left1 : Int), Pu.laws_szEntryS.c a0 left1 = true → ∃ it : It Res, (∀ c ∈ loopsOf (Try.f119.body.getD .skip), LoopOk E119 it c) ∧ body E119 it Try.f119 [(.v false [(.sh 208 a0)]), (.v false [(.i .i64 left1)])] = some ⟨[(.v false [(.i .i64 (Pu.laws_szEntryS.v a0 left1))])], []⟩ := by
    intro a0 left1  h1
    obtain ⟨N, hN⟩ := Pu.laws_szEntryS.b_eq (R := Res) (fun r0 => some ⟨[(.v false [(.i .i64 r0)])], []⟩) a0 left1 h1
    have hl : loopsOf (Try.f119.body.getD .skip) = [loopOf Try.f119 5] := by kernel_rfl
    refine ⟨it119 N, by rw [hl]; exact (loops_cons (lo119_5 N) loops_nil), ?_⟩
    refine Eq.trans (show body E119 (it119 N) Try.f119 [(.v false [(.sh 208 a0)]), (.v false [(.i .i64 left1)])] = Pu.laws_szEntryS.b N (fun r0 => some ⟨[(.v false [(.i .i64 r0)])], []⟩) a0 left1 by kernel_rfl) hN
  intro args r h
  unfold sp119 at h
  split at h
  · injection h with h
    injection h with h1 h2
    subst h2
    exact ⟨by kernel_rfl, fun hf => ⟨of_decide_eq_true (by kernel_rfl), key _ _ h1⟩⟩
  · cases h

end Go.FG.Se

namespace Go.FG.Se
open Go.Proofs
def T97_0 (p0 : Row) (p1 : Int) (p2 : Int) (p3 : Int) : List (Nat × Cel) := [(0, (.v (.v false [(.sh 9 p0)]))), (2, (.v (.v false [(.i .i64 p1)]))), (8, (.v (.v false [(.i .i64 p2)]))), (10, (.v (.v false [(.i .i64 p3)])))]
def E97 : Env := { toTab := T, call := Go.FG.callIn [], mode := Go.FG.modeIn md, keep := Go.FG.keepIn [(5, [0, 1, 4, 5])], tk := fun n => Go.FG.memB n [], om := Go.FG.omIn [] }
def it97 (N : Nat) {R : Type} : It R := fun rid f cn L K => bif Nat.beq rid 5 then (tell [(0, (.v (.v false [(.sh 9 [])]))), (2, (.v (.v false [(.i .i64 0)]))), (8, (.v (.v false [(.i .i64 0)]))), (10, (.v (.v false [(.i .i64 0)])))] (fun | [.R x0, .I x1, .I x2, .I x3] => Pu.laws_szStringS.l5 N (fun y0 y1 y2 y3 => (K .ret (tabl (T97_0 y0 y1 y2 y3)))) (fun y0 y1 y2 y3 => (K (.exit 0) (tabl (T97_0 y0 y1 y2 y3)))) N x0 x1 x2 x3 | _ => none) L (none)) else none
theorem e97_5 {R : Type} (N : Nat) (K : Ex → St → Option R) : ∀ n : Nat, (∀ x0 x1 x2 x3, iter (exc E97 (it97 N) (loopOf Try.f97 5)) (canon (E97.keep 5))  n (tabl (T97_0 x0 x1 x2 x3)) K = Pu.laws_szStringS.l5 N (fun y0 y1 y2 y3 => (K .ret (tabl (T97_0 y0 y1 y2 y3)))) (fun y0 y1 y2 y3 => (K (.exit 0) (tabl (T97_0 y0 y1 y2 y3)))) n x0 x1 x2 x3) := by
  intro n
  induction n with
  | zero => exact (fun _ _ _ _ => rfl)
  | succ n ih =>
    have e0 : (fun x0 x1 x2 x3 => iter (exc E97 (it97 N) (loopOf Try.f97 5)) (canon (E97.keep 5))  n (tabl (T97_0 x0 x1 x2 x3)) K) = Pu.laws_szStringS.l5 N (fun y0 y1 y2 y3 => (K .ret (tabl (T97_0 y0 y1 y2 y3)))) (fun y0 y1 y2 y3 => (K (.exit 0) (tabl (T97_0 y0 y1 y2 y3)))) n := by funext x0 x1 x2 x3; exact ih x0 x1 x2 x3
    intro x0 x1 x2 x3
    have h : ∀ g, exc E97 (it97 N) (loopOf Try.f97 5) (tabl (T97_0 x0 x1 x2 x3)) (iterK g (canon (E97.keep 5)) K) = Pu.laws_szStringS.r5 N (fun x0 x1 x2 x3 => (g (tabl (T97_0 x0 x1 x2 x3)))) (fun y0 y1 y2 y3 => (K .ret (tabl (T97_0 y0 y1 y2 y3)))) (fun y0 y1 y2 y3 => (K (.exit 0) (tabl (T97_0 y0 y1 y2 y3)))) x0 x1 x2 x3 := by intro g; kernel_rfl
    refine (iter_succ _ _ n _ K).trans ((h _).trans ?_)
    show Pu.laws_szStringS.r5 N (fun x0 x1 x2 x3 => (iter (exc E97 (it97 N) (loopOf Try.f97 5)) (canon (E97.keep 5))  n (tabl (T97_0 x0 x1 x2 x3)) K)) (fun y0 y1 y2 y3 => (K .ret (tabl (T97_0 y0 y1 y2 y3)))) (fun y0 y1 y2 y3 => (K (.exit 0) (tabl (T97_0 y0 y1 y2 y3)))) x0 x1 x2 x3 = _
    rw [e0]; rfl
theorem lo97_5 {R : Type} (N : Nat) : LoopOk E97 (it97 N (R := R)) (loopOf Try.f97 5) := by
  have e : firstRid (loopOf Try.f97 5) = 5 := by kernel_rfl
  intro L K r
  rw [e]
  intro h
  unfold it97 at h
  simp only [show Nat.beq 5 5 = true from rfl, cond_false, cond_true] at h
  refine tell_ok (Q := fun L => ∃ n, iter (exc E97 (it97 N) (loopOf Try.f97 5)) (canon (E97.keep 5)) n (tabl L) K = some r) h (fun xs h => ?_) (fun h => ?_)
  · (try dsimp only at h)
    split at h
    · exact ⟨N, ((e97_5 N K N) _ _ _ _).trans h⟩
    · cases h
  cases h
def sp97 : List Arg → Option (Bool × Res)
  | [(.v false [(.sh 9 a0)]), (.v false [(.i .i64 left1)])] => some (Pu.laws_szStringS.c a0 left1, ⟨[(.v false [(.i .i64 (Pu.laws_szStringS.v a0 left1))])], []⟩)
  | _ => none
theorem ok97 : FnOk Try.prog T 97 sp97 := by
  refine fn_ok (E := E97) hE call_nil hM Try.func97 (code := (Try.f97.body.getD .skip)) (by kernel_rfl) (by kernel_rfl) ?_
  have key : ∀ (a0 : Row) (left1 : Int), Pu.laws_szStringS.c a0 left1 = true → ∃ it : It Res, (∀ c ∈ loopsOf (Try.f97.body.getD .skip), LoopOk E97 it c) ∧ body E97 it Try.f97 [(.v false [(.sh 9 a0)]), (.v false [(.i .i64 left1)])] = some ⟨[(.v false [(.i .i64 (Pu.laws_szStringS.v a0 left1))])], []⟩ := by
    intro a0 left1  h1
    obtain ⟨N, hN⟩ := Pu.laws_szStringS.b_eq (R := Res) (fun r0 => some ⟨[(.v false [(.i .i64 r0)])], []⟩) a0 left1 h1
    have hl : loopsOf (Try.f97.body.getD .skip) = [loopOf Try.f97 5] := by kernel_rfl
    refine ⟨it97 N, by rw [hl]; exact (loops_cons (lo97_5 N) loops_nil), ?_⟩
    refine Eq.trans (show body E97 (it97 N) Try.f97 [(.v false [(.sh 9 a0)]), (.v false [(.i .i64 left1)])] = Pu.laws_szStringS.b N (fun r0 => some ⟨[(.v false [(.i .i64 r0)])], []⟩) a0 left1 by kernel_rfl) hN
  intro args r h
  unfold sp97 at h
  split at h
  · injection h with h
    injection h with h1 h2
    subst h2
    exact ⟨by kernel_rfl, fun hf => ⟨of_decide_eq_true (by kernel_rfl), key _ _ h1⟩⟩
  · cases h

end Go.FG.Se

namespace Go.FG.Se
open Go.Proofs
def E223 : Env := { toTab := T, call := Go.FG.callIn [], mode := Go.FG.modeIn md, keep := Go.FG.keepIn [], tk := fun n => Go.FG.memB n [], om := Go.FG.omIn [] }
def sp223 : List Arg → Option (Bool × Res)
  | [(.v false [(.sh 3 a0)]), (.v false [(.i .i64 left1)])] => some (true, ⟨[(.v false [(.i .i64 (Pu.laws_szIntS.v a0 left1))])], []⟩)
  | _ => none
theorem ok223 : FnOk Try.prog T 223 sp223 := by
  refine fn_ok (E := E223) hE call_nil hM Try.func223 (code := (Try.f223.body.getD .skip)) (by kernel_rfl) (by kernel_rfl) ?_
  have key : ∀ (a0 : Row) (left1 : Int), ∃ it : It Res, (∀ c ∈ loopsOf (Try.f223.body.getD .skip), LoopOk E223 it c) ∧ body E223 it Try.f223 [(.v false [(.sh 3 a0)]), (.v false [(.i .i64 left1)])] = some ⟨[(.v false [(.i .i64 (Pu.laws_szIntS.v a0 left1))])], []⟩ := by
    intro a0 left1 
    have hN := Pu.laws_szIntS.b_eq (R := Res) (fun r0 => some ⟨[(.v false [(.i .i64 r0)])], []⟩) a0 left1
    have hl : loopsOf (Try.f223.body.getD .skip) = [] := by kernel_rfl
    refine ⟨iterN 0, by rw [hl]; exact loops_nil, ?_⟩
    refine Eq.trans (show body E223 (iterN 0) Try.f223 [(.v false [(.sh 3 a0)]), (.v false [(.i .i64 left1)])] = Pu.laws_szIntS.b (fun r0 => some ⟨[(.v false [(.i .i64 r0)])], []⟩) a0 left1 by kernel_rfl) hN
  intro args r h
  unfold sp223 at h
  split at h
  · injection h with h
    injection h with h1 h2
    subst h2
    exact ⟨by kernel_rfl, fun hf => ⟨of_decide_eq_true (by kernel_rfl), key _ _⟩⟩
  · cases h

end Go.FG.Se

namespace Go.FG.Se
open Go.Proofs
def T185_0 (p0 : Row) (p1 : Int) (p2 : Int) (p3 : Int) : List (Nat × Cel) := [(0, (.v (.v false [(.sh 30 p0)]))), (2, (.v (.v false [(.i .i64 p1)]))), (8, (.v (.v false [(.i .i64 p2)]))), (10, (.v (.v false [(.i .i64 p3)])))]
def E185 : Env := { toTab := T, call := Go.FG.callIn [(223, sp223)], mode := Go.FG.modeIn md, keep := Go.FG.keepIn [(5, [0, 1, 4, 5])], tk := fun n => Go.FG.memB n [], om := Go.FG.omIn [] }
def it185 (N : Nat) {R : Type} : It R := fun rid f cn L K => bif Nat.beq rid 5 then (tell [(0, (.v (.v false [(.sh 30 [])]))), (2, (.v (.v false [(.i .i64 0)]))), (8, (.v (.v false [(.i .i64 0)]))), (10, (.v (.v false [(.i .i64 0)])))] (fun | [.R x0, .I x1, .I x2, .I x3] => Pu.laws_szIntSS.l5 N (fun y0 y1 y2 y3 => (K .ret (tabl (T185_0 y0 y1 y2 y3)))) (fun y0 y1 y2 y3 => (K (.exit 0) (tabl (T185_0 y0 y1 y2 y3)))) N x0 x1 x2 x3 | _ => none) L (none)) else none
theorem e185_5 {R : Type} (N : Nat) (K : Ex → St → Option R) : ∀ n : Nat, (∀ x0 x1 x2 x3, iter (exc E185 (it185 N) (loopOf Try.f185 5)) (canon (E185.keep 5))  n (tabl (T185_0 x0 x1 x2 x3)) K = Pu.laws_szIntSS.l5 N (fun y0 y1 y2 y3 => (K .ret (tabl (T185_0 y0 y1 y2 y3)))) (fun y0 y1 y2 y3 => (K (.exit 0) (tabl (T185_0 y0 y1 y2 y3)))) n x0 x1 x2 x3) := by
  intro n
  induction n with
  | zero => exact (fun _ _ _ _ => rfl)
  | succ n ih =>
    have e0 : (fun x0 x1 x2 x3 => iter (exc E185 (it185 N) (loopOf Try.f185 5)) (canon (E185.keep 5))  n (tabl (T185_0 x0 x1 x2 x3)) K) = Pu.laws_szIntSS.l5 N (fun y0 y1 y2 y3 => (K .ret (tabl (T185_0 y0 y1 y2 y3)))) (fun y0 y1 y2 y3 => (K (.exit 0) (tabl (T185_0 y0 y1 y2 y3)))) n := by funext x0 x1 x2 x3; exact ih x0 x1 x2 x3
    intro x0 x1 x2 x3
    have h : ∀ g, exc E185 (it185 N) (loopOf Try.f185 5) (tabl (T185_0 x0 x1 x2 x3)) (iterK g (canon (E185.keep 5)) K) = Pu.laws_szIntSS.r5 N (fun x0 x1 x2 x3 => (g (tabl (T185_0 x0 x1 x2 x3)))) (fun y0 y1 y2 y3 => (K .ret (tabl (T185_0 y0 y1 y2 y3)))) (fun y0 y1 y2 y3 => (K (.exit 0) (tabl (T185_0 y0 y1 y2 y3)))) x0 x1 x2 x3 := by intro g; kernel_rfl
    refine (iter_succ _ _ n _ K).trans ((h _).trans ?_)
    show Pu.laws_szIntSS.r5 N (fun x0 x1 x2 x3 => (iter (exc E185 (it185 N) (loopOf Try.f185 5)) (canon (E185.keep 5))  n (tabl (T185_0 x0 x1 x2 x3)) K)) (fun y0 y1 y2 y3 => (K .ret (tabl (T185_0 y0 y1 y2 y3)))) (fun y0 y1 y2 y3 => (K (.exit 0) (tabl (T185_0 y0 y1 y2 y3)))) x0 x1 x2 x3 = _
    rw [e0]; rfl
theorem lo185_5 {R : Type} (N : Nat) : LoopOk E185 (it185 N (R := R)) (loopOf Try.f185 5) := by
  have e : firstRid (loopOf Try.f185 5) = 5 := by kernel_rfl
  intro L K r
  rw [e]
  intro h
  unfold it185 at h
  simp only [show Nat.beq 5 5 = true from rfl, cond_false, cond_true] at h
  refine tell_ok (Q := fun L => ∃ n, iter (exc E185 (it185 N) (loopOf Try.f185 5)) (canon (E185.keep 5)) n (tabl L) K = some r) h (fun xs h => ?_) (fun h => ?_)
  · (try dsimp only at h)
    split at h
    · exact ⟨N, ((e185_5 N K N) _ _ _ _).trans h⟩
    · cases h
  cases h
def sp185 : List Arg → Option (Bool × Res)
  | [(.v false [(.sh 30 a0)]), (.v false [(.i .i64 left1)])] => some (Pu.laws_szIntSS.c a0 left1, ⟨[(.v false [(.i .i64 (Pu.laws_szIntSS.v a0 left1))])], []⟩)
  | _ => none
theorem ok185 : FnOk Try.prog T 185 sp185 := by
  refine fn_ok (E := E185) hE (call_cons ok223 call_nil) hM Try.func185 (code := (Try.f185.body.getD .skip)) (by kernel_rfl) (by kernel_rfl) ?_
  have key : ∀ (a0 : Row) (left1 : Int), Pu.laws_szIntSS.c a0 left1 = true → ∃ it : It Res, (∀ c ∈ loopsOf (Try.f185.body.getD .skip), LoopOk E185 it c) ∧ body E185 it Try.f185 [(.v false [(.sh 30 a0)]), (.v false [(.i .i64 left1)])] = some ⟨[(.v false [(.i .i64 (Pu.laws_szIntSS.v a0 left1))])], []⟩ := by
    intro a0 left1  h1
    obtain ⟨N, hN⟩ := Pu.laws_szIntSS.b_eq (R := Res) (fun r0 => some ⟨[(.v false [(.i .i64 r0)])], []⟩) a0 left1 h1
    have hl : loopsOf (Try.f185.body.getD .skip) = [loopOf Try.f185 5] := by kernel_rfl
    refine ⟨it185 N, by rw [hl]; exact (loops_cons (lo185_5 N) loops_nil), ?_⟩
    refine Eq.trans (show body E185 (it185 N) Try.f185 [(.v false [(.sh 30 a0)]), (.v false [(.i .i64 left1)])] = Pu.laws_szIntSS.b N (fun r0 => some ⟨[(.v false [(.i .i64 r0)])], []⟩) a0 left1 by kernel_rfl) hN
  intro args r h
  unfold sp185 at h
  split at h
  · injection h with h
    injection h with h1 h2
    subst h2
    exact ⟨by kernel_rfl, fun hf => ⟨of_decide_eq_true (by kernel_rfl), key _ _ h1⟩⟩
  · cases h

end Go.FG.Se

namespace Go.FG.Se
open Go.Proofs
def E98 : Env := { toTab := T, call := Go.FG.callIn [(185, sp185)], mode := Go.FG.modeIn md, keep := Go.FG.keepIn [], tk := fun n => Go.FG.memB n [], om := Go.FG.omIn [] }
def sp98 : List Arg → Option (Bool × Res)
  | [(.v true [(.sh 30 a0_0), (.i .i64 a0_1)]), (.v false [(.i .i64 left1)])] => some (Pu.laws_szSketch.c a0_0 a0_1 left1, ⟨[(.v false [(.i .i64 (Pu.laws_szSketch.v a0_0 a0_1 left1))])], []⟩)
  | _ => none
theorem ok98 : FnOk Try.prog T 98 sp98 := by
  refine fn_ok (E := E98) hE (call_cons ok185 call_nil) hM Try.func98 (code := (Try.f98.body.getD .skip)) (by kernel_rfl) (by kernel_rfl) ?_
  have key : ∀ (a0_0 : Row) (a0_1 : Int) (left1 : Int), Pu.laws_szSketch.c a0_0 a0_1 left1 = true → ∃ it : It Res, (∀ c ∈ loopsOf (Try.f98.body.getD .skip), LoopOk E98 it c) ∧ body E98 it Try.f98 [(.v true [(.sh 30 a0_0), (.i .i64 a0_1)]), (.v false [(.i .i64 left1)])] = some ⟨[(.v false [(.i .i64 (Pu.laws_szSketch.v a0_0 a0_1 left1))])], []⟩ := by
    intro a0_0 a0_1 left1  h1
    have hN := Pu.laws_szSketch.b_eq (R := Res) (fun r0 => some ⟨[(.v false [(.i .i64 r0)])], []⟩) a0_0 a0_1 left1 h1
    have hl : loopsOf (Try.f98.body.getD .skip) = [] := by kernel_rfl
    refine ⟨iterN 0, by rw [hl]; exact loops_nil, ?_⟩
    refine Eq.trans (show body E98 (iterN 0) Try.f98 [(.v true [(.sh 30 a0_0), (.i .i64 a0_1)]), (.v false [(.i .i64 left1)])] = Pu.laws_szSketch.b (fun r0 => some ⟨[(.v false [(.i .i64 r0)])], []⟩) a0_0 a0_1 left1 by kernel_rfl) hN
  intro args r h
  unfold sp98 at h
  split at h
  · injection h with h
    injection h with h1 h2
    subst h2
    exact ⟨by kernel_rfl, fun hf => ⟨of_decide_eq_true (by kernel_rfl), key _ _ _ h1⟩⟩
  · cases h

end Go.FG.Se

namespace Go.FG.Se
open Go.Proofs
def E31 : Env := { toTab := T, call := Go.FG.callIn [(97, sp97), (98, sp98)], mode := Go.FG.modeIn md, keep := Go.FG.keepIn [], tk := fun n => Go.FG.memB n [], om := Go.FG.omIn [] }
def sp31 : List Arg → Option (Bool × Res)
  | [(.v true [(.sh 9 a0_0), (.sh 9 a0_1), (.sh 30 a0_2), (.i .i64 a0_3)]), (.v false [(.i .i64 left1)])] => some (Pu.laws_szPolicy.c a0_0 a0_1 a0_2 a0_3 left1, ⟨[(.v false [(.i .i64 (Pu.laws_szPolicy.v a0_0 a0_1 a0_2 a0_3 left1))])], []⟩)
  | _ => none
theorem ok31 : FnOk Try.prog T 31 sp31 := by
  refine fn_ok (E := E31) hE (call_cons ok97 (call_cons ok98 call_nil)) hM Try.func31 (code := (Try.f31.body.getD .skip)) (by kernel_rfl) (by kernel_rfl) ?_
  have key : ∀ (a0_0 : Row) (a0_1 : Row) (a0_2 : Row) (a0_3 : Int) (left1 : Int), Pu.laws_szPolicy.c a0_0 a0_1 a0_2 a0_3 left1 = true → ∃ it : It Res, (∀ c ∈ loopsOf (Try.f31.body.getD .skip), LoopOk E31 it c) ∧ body E31 it Try.f31 [(.v true [(.sh 9 a0_0), (.sh 9 a0_1), (.sh 30 a0_2), (.i .i64 a0_3)]), (.v false [(.i .i64 left1)])] = some ⟨[(.v false [(.i .i64 (Pu.laws_szPolicy.v a0_0 a0_1 a0_2 a0_3 left1))])], []⟩ := by
    intro a0_0 a0_1 a0_2 a0_3 left1  h1
    have hN := Pu.laws_szPolicy.b_eq (R := Res) (fun r0 => some ⟨[(.v false [(.i .i64 r0)])], []⟩) a0_0 a0_1 a0_2 a0_3 left1 h1
    have hl : loopsOf (Try.f31.body.getD .skip) = [] := by kernel_rfl
    refine ⟨iterN 0, by rw [hl]; exact loops_nil, ?_⟩
    refine Eq.trans (show body E31 (iterN 0) Try.f31 [(.v true [(.sh 9 a0_0), (.sh 9 a0_1), (.sh 30 a0_2), (.i .i64 a0_3)]), (.v false [(.i .i64 left1)])] = Pu.laws_szPolicy.b (fun r0 => some ⟨[(.v false [(.i .i64 r0)])], []⟩) a0_0 a0_1 a0_2 a0_3 left1 by kernel_rfl) hN
  intro args r h
  unfold sp31 at h
  split at h
  · injection h with h
    injection h with h1 h2
    subst h2
    exact ⟨by kernel_rfl, fun hf => ⟨of_decide_eq_true (by kernel_rfl), key _ _ _ _ _ h1⟩⟩
  · cases h

end Go.FG.Se

namespace Go.FG.Se
open Go.Proofs
def E199 : Env := { toTab := T, call := Go.FG.callIn [], mode := Go.FG.modeIn md, keep := Go.FG.keepIn [], tk := fun n => Go.FG.memB n [], om := Go.FG.omIn [] }
def sp199 : List Arg → Option (Bool × Res)
  | [(.v true [(.s a0_0), (.s a0_1), (.i .i64 a0_2), (.i .i64 a0_3), (.i .i64 a0_4)]), (.v false [(.i .i64 left1)])] => some (true, ⟨[(.v false [(.i .i64 (Pu.laws_szFetch.v a0_0 a0_1 a0_2 a0_3 a0_4 left1))])], []⟩)
  | _ => none
theorem ok199 : FnOk Try.prog T 199 sp199 := by
  refine fn_ok (E := E199) hE call_nil hM Try.func199 (code := (Try.f199.body.getD .skip)) (by kernel_rfl) (by kernel_rfl) ?_
  have key : ∀ (a0_0 : ByteArray) (a0_1 : ByteArray) (a0_2 : Int) (a0_3 : Int) (a0_4 : Int) (left1 : Int), ∃ it : It Res, (∀ c ∈ loopsOf (Try.f199.body.getD .skip), LoopOk E199 it c) ∧ body E199 it Try.f199 [(.v true [(.s a0_0), (.s a0_1), (.i .i64 a0_2), (.i .i64 a0_3), (.i .i64 a0_4)]), (.v false [(.i .i64 left1)])] = some ⟨[(.v false [(.i .i64 (Pu.laws_szFetch.v a0_0 a0_1 a0_2 a0_3 a0_4 left1))])], []⟩ := by
    intro a0_0 a0_1 a0_2 a0_3 a0_4 left1 
    have hN := Pu.laws_szFetch.b_eq (R := Res) (fun r0 => some ⟨[(.v false [(.i .i64 r0)])], []⟩) a0_0 a0_1 a0_2 a0_3 a0_4 left1
    have hl : loopsOf (Try.f199.body.getD .skip) = [] := by kernel_rfl
    refine ⟨iterN 0, by rw [hl]; exact loops_nil, ?_⟩
    refine Eq.trans (show body E199 (iterN 0) Try.f199 [(.v true [(.s a0_0), (.s a0_1), (.i .i64 a0_2), (.i .i64 a0_3), (.i .i64 a0_4)]), (.v false [(.i .i64 left1)])] = Pu.laws_szFetch.b (fun r0 => some ⟨[(.v false [(.i .i64 r0)])], []⟩) a0_0 a0_1 a0_2 a0_3 a0_4 left1 by kernel_rfl) hN
  intro args r h
  unfold sp199 at h
  split at h
  · injection h with h
    injection h with h1 h2
    subst h2
    exact ⟨by kernel_rfl, fun hf => ⟨of_decide_eq_true (by kernel_rfl), key _ _ _ _ _ _⟩⟩
  · cases h

end Go.FG.Se

namespace Go.FG.Se
open Go.Proofs
def T120_0 (p0 : Row) (p1 : Int) (p2 : Int) (p3 : Int) : List (Nat × Cel) := [(0, (.v (.v false [(.sh 210 p0)]))), (2, (.v (.v false [(.i .i64 p1)]))), (8, (.v (.v false [(.i .i64 p2)]))), (10, (.v (.v false [(.i .i64 p3)])))]
def E120 : Env := { toTab := T, call := Go.FG.callIn [(199, sp199)], mode := Go.FG.modeIn md, keep := Go.FG.keepIn [(5, [0, 1, 4, 5])], tk := fun n => Go.FG.memB n [], om := Go.FG.omIn [] }
def it120 (N : Nat) {R : Type} : It R := fun rid f cn L K => bif Nat.beq rid 5 then (tell [(0, (.v (.v false [(.sh 210 [])]))), (2, (.v (.v false [(.i .i64 0)]))), (8, (.v (.v false [(.i .i64 0)]))), (10, (.v (.v false [(.i .i64 0)])))] (fun | [.R x0, .I x1, .I x2, .I x3] => Pu.laws_szFetchS.l5 N (fun y0 y1 y2 y3 => (K .ret (tabl (T120_0 y0 y1 y2 y3)))) (fun y0 y1 y2 y3 => (K (.exit 0) (tabl (T120_0 y0 y1 y2 y3)))) N x0 x1 x2 x3 | _ => none) L (none)) else none
theorem e120_5 {R : Type} (N : Nat) (K : Ex → St → Option R) : ∀ n : Nat, (∀ x0 x1 x2 x3, iter (exc E120 (it120 N) (loopOf Try.f120 5)) (canon (E120.keep 5))  n (tabl (T120_0 x0 x1 x2 x3)) K = Pu.laws_szFetchS.l5 N (fun y0 y1 y2 y3 => (K .ret (tabl (T120_0 y0 y1 y2 y3)))) (fun y0 y1 y2 y3 => (K (.exit 0) (tabl (T120_0 y0 y1 y2 y3)))) n x0 x1 x2 x3) := by
  intro n
  induction n with
  | zero => exact (fun _ _ _ _ => rfl)
  | succ n ih =>
    have e0 : (fun x0 x1 x2 x3 => iter (exc E120 (it120 N) (loopOf Try.f120 5)) (canon (E120.keep 5))  n (tabl (T120_0 x0 x1 x2 x3)) K) = Pu.laws_szFetchS.l5 N (fun y0 y1 y2 y3 => (K .ret (tabl (T120_0 y0 y1 y2 y3)))) (fun y0 y1 y2 y3 => (K (.exit 0) (tabl (T120_0 y0 y1 y2 y3)))) n := by funext x0 x1 x2 x3; exact ih x0 x1 x2 x3
    intro x0 x1 x2 x3
    have h : ∀ g, exc E120 (it120 N) (loopOf Try.f120 5) (tabl (T120_0 x0 x1 x2 x3)) (iterK g (canon (E120.keep 5)) K) = Pu.laws_szFetchS.r5 N (fun x0 x1 x2 x3 => (g (tabl (T120_0 x0 x1 x2 x3)))) (fun y0 y1 y2 y3 => (K .ret (tabl (T120_0 y0 y1 y2 y3)))) (fun y0 y1 y2 y3 => (K (.exit 0) (tabl (T120_0 y0 y1 y2 y3)))) x0 x1 x2 x3 := by intro g; kernel_rfl
    refine (iter_succ _ _ n _ K).trans ((h _).trans ?_)
    show Pu.laws_szFetchS.r5 N (fun x0 x1 x2 x3 => (iter (exc E120 (it120 N) (loopOf Try.f120 5)) (canon (E120.keep 5))  n (tabl (T120_0 x0 x1 x2 x3)) K)) (fun y0 y1 y2 y3 => (K .ret (tabl (T120_0 y0 y1 y2 y3)))) (fun y0 y1 y2 y3 => (K (.exit 0) (tabl (T120_0 y0 y1 y2 y3)))) x0 x1 x2 x3 = _
    rw [e0]; rfl
theorem lo120_5 {R : Type} (N : Nat) : LoopOk E120 (it120 N (R := R)) (loopOf Try.f120 5) := by
  have e : firstRid (loopOf Try.f120 5) = 5 := by kernel_rfl
  intro L K r
  rw [e]
  intro h
  unfold it120 at h
  simp only [show Nat.beq 5 5 = true from rfl, cond_false, cond_true] at h
  refine tell_ok (Q := fun L => ∃ n, iter (exc E120 (it120 N) (loopOf Try.f120 5)) (canon (E120.keep 5)) n (tabl L) K = some r) h (fun xs h => ?_) (fun h => ?_)
  · (try dsimp only at h)
    split at h
    · exact ⟨N, ((e120_5 N K N) _ _ _ _).trans h⟩
    · cases h
  cases h
def sp120 : List Arg → Option (Bool × Res)
  | [(.v false [(.sh 210 a0)]), (.v false [(.i .i64 left1)])] => some (Pu.laws_szFetchS.c a0 left1, ⟨[(.v false [(.i .i64 (Pu.laws_szFetchS.v a0 left1))])], []⟩)
  | _ => none
theorem ok120 : FnOk Try.prog T 120 sp120 := by
  refine fn_ok (E := E120) hE (call_cons ok199 call_nil) hM Try.func120 (code := (Try.f120.body.getD .skip)) (by kernel_rfl) (by kernel_rfl) ?_
  have key : ∀ (a0 : Row) (left1 : Int), Pu.laws_szFetchS.c a0 left1 = true → ∃ it : It Res, (∀ c ∈ loopsOf (Try.f120.body.getD .skip), LoopOk E120 it c) ∧ body E120 it Try.f120 [(.v false [(.sh 210 a0)]), (.v false [(.i .i64 left1)])] = some ⟨[(.v false [(.i .i64 (Pu.laws_szFetchS.v a0 left1))])], []⟩ := by
    intro a0 left1  h1
    obtain ⟨N, hN⟩ := Pu.laws_szFetchS.b_eq (R := Res) (fun r0 => some ⟨[(.v false [(.i .i64 r0)])], []⟩) a0 left1 h1
    have hl : loopsOf (Try.f120.body.getD .skip) = [loopOf Try.f120 5] := by kernel_rfl
    refine ⟨it120 N, by rw [hl]; exact (loops_cons (lo120_5 N) loops_nil), ?_⟩
    refine Eq.trans (show body E120 (it120 N) Try.f120 [(.v false [(.sh 210 a0)]), (.v false [(.i .i64 left1)])] = Pu.laws_szFetchS.b N (fun r0 => some ⟨[(.v false [(.i .i64 r0)])], []⟩) a0 left1 by kernel_rfl) hN
  intro args r h
  unfold sp120 at h
  split at h
  · injection h with h
    injection h with h1 h2
    subst h2
    exact ⟨by kernel_rfl, fun hf => ⟨of_decide_eq_true (by kernel_rfl), key _ _ h1⟩⟩
  · cases h

end Go.FG.Se

namespace Go.FG.Se
open Go.Proofs
def E200 : Env := { toTab := T, call := Go.FG.callIn [], mode := Go.FG.modeIn md, keep := Go.FG.keepIn [], tk := fun n => Go.FG.memB n [], om := Go.FG.omIn [] }
def sp200 : List Arg → Option (Bool × Res)
  | [(.v true [(.i .i64 a0_0), (.s a0_1), (.i .i64 a0_2), (.i .i64 a0_3), (.i .i64 a0_4), (.s a0_5), (.i .i64 a0_6)]), (.v false [(.i .i64 left1)])] => some (true, ⟨[(.v false [(.i .i64 (Pu.laws_szClient.v a0_0 a0_1 a0_2 a0_3 a0_4 a0_5 a0_6 left1))])], []⟩)
  | _ => none
theorem ok200 : FnOk Try.prog T 200 sp200 := by
  refine fn_ok (E := E200) hE call_nil hM Try.func200 (code := (Try.f200.body.getD .skip)) (by kernel_rfl) (by kernel_rfl) ?_
  have key : ∀ (a0_0 : Int) (a0_1 : ByteArray) (a0_2 : Int) (a0_3 : Int) (a0_4 : Int) (a0_5 : ByteArray) (a0_6 : Int) (left1 : Int), ∃ it : It Res, (∀ c ∈ loopsOf (Try.f200.body.getD .skip), LoopOk E200 it c) ∧ body E200 it Try.f200 [(.v true [(.i .i64 a0_0), (.s a0_1), (.i .i64 a0_2), (.i .i64 a0_3), (.i .i64 a0_4), (.s a0_5), (.i .i64 a0_6)]), (.v false [(.i .i64 left1)])] = some ⟨[(.v false [(.i .i64 (Pu.laws_szClient.v a0_0 a0_1 a0_2 a0_3 a0_4 a0_5 a0_6 left1))])], []⟩ := by
    intro a0_0 a0_1 a0_2 a0_3 a0_4 a0_5 a0_6 left1 
    have hN := Pu.laws_szClient.b_eq (R := Res) (fun r0 => some ⟨[(.v false [(.i .i64 r0)])], []⟩) a0_0 a0_1 a0_2 a0_3 a0_4 a0_5 a0_6 left1
    have hl : loopsOf (Try.f200.body.getD .skip) = [] := by kernel_rfl
    refine ⟨iterN 0, by rw [hl]; exact loops_nil, ?_⟩
    refine Eq.trans (show body E200 (iterN 0) Try.f200 [(.v true [(.i .i64 a0_0), (.s a0_1), (.i .i64 a0_2), (.i .i64 a0_3), (.i .i64 a0_4), (.s a0_5), (.i .i64 a0_6)]), (.v false [(.i .i64 left1)])] = Pu.laws_szClient.b (fun r0 => some ⟨[(.v false [(.i .i64 r0)])], []⟩) a0_0 a0_1 a0_2 a0_3 a0_4 a0_5 a0_6 left1 by kernel_rfl) hN
  intro args r h
  unfold sp200 at h
  split at h
  · injection h with h
    injection h with h1 h2
    subst h2
    exact ⟨by kernel_rfl, fun hf => ⟨of_decide_eq_true (by kernel_rfl), key _ _ _ _ _ _ _ _⟩⟩
  · cases h

end Go.FG.Se

namespace Go.FG.Se
open Go.Proofs
def T121_0 (p0 : Row) (p1 : Int) (p2 : Int) (p3 : Int) : List (Nat × Cel) := [(0, (.v (.v false [(.sh 212 p0)]))), (2, (.v (.v false [(.i .i64 p1)]))), (8, (.v (.v false [(.i .i64 p2)]))), (10, (.v (.v false [(.i .i64 p3)])))]
def E121 : Env := { toTab := T, call := Go.FG.callIn [(200, sp200)], mode := Go.FG.modeIn md, keep := Go.FG.keepIn [(5, [0, 1, 4, 5])], tk := fun n => Go.FG.memB n [], om := Go.FG.omIn [] }
def it121 (N : Nat) {R : Type} : It R := fun rid f cn L K => bif Nat.beq rid 5 then (tell [(0, (.v (.v false [(.sh 212 [])]))), (2, (.v (.v false [(.i .i64 0)]))), (8, (.v (.v false [(.i .i64 0)]))), (10, (.v (.v false [(.i .i64 0)])))] (fun | [.R x0, .I x1, .I x2, .I x3] => Pu.laws_szClientS.l5 N (fun y0 y1 y2 y3 => (K .ret (tabl (T121_0 y0 y1 y2 y3)))) (fun y0 y1 y2 y3 => (K (.exit 0) (tabl (T121_0 y0 y1 y2 y3)))) N x0 x1 x2 x3 | _ => none) L (none)) else none
theorem e121_5 {R : Type} (N : Nat) (K : Ex → St → Option R) : ∀ n : Nat, (∀ x0 x1 x2 x3, iter (exc E121 (it121 N) (loopOf Try.f121 5)) (canon (E121.keep 5))  n (tabl (T121_0 x0 x1 x2 x3)) K = Pu.laws_szClientS.l5 N (fun y0 y1 y2 y3 => (K .ret (tabl (T121_0 y0 y1 y2 y3)))) (fun y0 y1 y2 y3 => (K (.exit 0) (tabl (T121_0 y0 y1 y2 y3)))) n x0 x1 x2 x3) := by
  intro n
  induction n with
  | zero => exact (fun _ _ _ _ => rfl)
  | succ n ih =>
    have e0 : (fun x0 x1 x2 x3 => iter (exc E121 (it121 N) (loopOf Try.f121 5)) (canon (E121.keep 5))  n (tabl (T121_0 x0 x1 x2 x3)) K) = Pu.laws_szClientS.l5 N (fun y0 y1 y2 y3 => (K .ret (tabl (T121_0 y0 y1 y2 y3)))) (fun y0 y1 y2 y3 => (K (.exit 0) (tabl (T121_0 y0 y1 y2 y3)))) n := by funext x0 x1 x2 x3; exact ih x0 x1 x2 x3
    intro x0 x1 x2 x3
    have h : ∀ g, exc E121 (it121 N) (loopOf Try.f121 5) (tabl (T121_0 x0 x1 x2 x3)) (iterK g (canon (E121.keep 5)) K) = Pu.laws_szClientS.r5 N (fun x0 x1 x2 x3 => (g (tabl (T121_0 x0 x1 x2 x3)))) (fun y0 y1 y2 y3 => (K .ret (tabl (T121_0 y0 y1 y2 y3)))) (fun y0 y1 y2 y3 => (K (.exit 0) (tabl (T121_0 y0 y1 y2 y3)))) x0 x1 x2 x3 := by intro g; kernel_rfl
    refine (iter_succ _ _ n _ K).trans ((h _).trans ?_)
    show Pu.laws_szClientS.r5 N (fun x0 x1 x2 x3 => (iter (exc E121 (it121 N) (loopOf Try.f121 5)) (canon (E121.keep 5))  n (tabl (T121_0 x0 x1 x2 x3)) K)) (fun y0 y1 y2 y3 => (K .ret (tabl (T121_0 y0 y1 y2 y3)))) (fun y0 y1 y2 y3 => (K (.exit 0) (tabl (T121_0 y0 y1 y2 y3)))) x0 x1 x2 x3 = _
    rw [e0]; rfl
theorem lo121_5 {R : Type} (N : Nat) : LoopOk E121 (it121 N (R := R)) (loopOf Try.f121 5) := by
  have e : firstRid (loopOf Try.f121 5) = 5 := by kernel_rfl
  intro L K r
  rw [e]
  intro h
  unfold it121 at h
  simp only [show Nat.beq 5 5 = true from rfl, cond_false, cond_true] at h
  refine tell_ok (Q := fun L => ∃ n, iter (exc E121 (it121 N) (loopOf Try.f121 5)) (canon (E121.keep 5)) n (tabl L) K = some r) h (fun xs h => ?_) (fun h => ?_)
  · (try dsimp only at h)
    split at h
    · exact ⟨N, ((e121_5 N K N) _ _ _ _).trans h⟩
    · cases h
  cases h
def sp121 : List Arg → Option (Bool × Res)
  | [(.v false [(.sh 212 a0)]), (.v false [(.i .i64 left1)])] => some (Pu.laws_szClientS.c a0 left1, ⟨[(.v false [(.i .i64 (Pu.laws_szClientS.v a0 left1))])], []⟩)
  | _ => none
theorem ok121 : FnOk Try.prog T 121 sp121 := by
  refine fn_ok (E := E121) hE (call_cons ok200 call_nil) hM Try.func121 (code := (Try.f121.body.getD .skip)) (by kernel_rfl) (by kernel_rfl) ?_
  have key : ∀ (a0 : Row) (left1 : Int), Pu.laws_szClientS.c a0 left1 = true → ∃ it : It Res, (∀ c ∈ loopsOf (Try.f121.body.getD .skip), LoopOk E121 it c) ∧ body E121 it Try.f121 [(.v false [(.sh 212 a0)]), (.v false [(.i .i64 left1)])] = some ⟨[(.v false [(.i .i64 (Pu.laws_szClientS.v a0 left1))])], []⟩ := by
    intro a0 left1  h1
    obtain ⟨N, hN⟩ := Pu.laws_szClientS.b_eq (R := Res) (fun r0 => some ⟨[(.v false [(.i .i64 r0)])], []⟩) a0 left1 h1
    have hl : loopsOf (Try.f121.body.getD .skip) = [loopOf Try.f121 5] := by kernel_rfl
    refine ⟨it121 N, by rw [hl]; exact (loops_cons (lo121_5 N) loops_nil), ?_⟩
    refine Eq.trans (show body E121 (it121 N) Try.f121 [(.v false [(.sh 212 a0)]), (.v false [(.i .i64 left1)])] = Pu.laws_szClientS.b N (fun r0 => some ⟨[(.v false [(.i .i64 r0)])], []⟩) a0 left1 by kernel_rfl) hN
  intro args r h
  unfold sp121 at h
  split at h
  · injection h with h
    injection h with h1 h2
    subst h2
    exact ⟨by kernel_rfl, fun hf => ⟨of_decide_eq_true (by kernel_rfl), key _ _ h1⟩⟩
  · cases h

end Go.FG.Se

namespace Go.FG.Se
open Go.Proofs
def E38 : Env := { toTab := T, call := Go.FG.callIn [(119, sp119), (31, sp31), (120, sp120), (121, sp121)], mode := Go.FG.modeIn md, keep := Go.FG.keepIn [], tk := fun n => Go.FG.memB n [], om := Go.FG.omIn [] }
def sp38 : List Arg → Option (Bool × Res)
  | [(.v true [(.i .i64 a0_0), (.sh 208 a0_1), (.sh 9 a0_2), (.sh 9 a0_3), (.sh 30 a0_4), (.i .i64 a0_5), (.sh 210 a0_6), (.sh 212 a0_7), (.i .i64 a0_8)]), (.v false [(.i .i64 left1)])] => some (Pu.laws_szProxy.c a0_0 a0_1 a0_2 a0_3 a0_4 a0_5 a0_6 a0_7 a0_8 left1, ⟨[(.v false [(.i .i64 (Pu.laws_szProxy.v a0_0 a0_1 a0_2 a0_3 a0_4 a0_5 a0_6 a0_7 a0_8 left1))])], []⟩)
  | _ => none
theorem ok38 : FnOk Try.prog T 38 sp38 := by
  refine fn_ok (E := E38) hE (call_cons ok119 (call_cons ok31 (call_cons ok120 (call_cons ok121 call_nil)))) hM Try.func38 (code := (Try.f38.body.getD .skip)) (by kernel_rfl) (by kernel_rfl) ?_
  have key : ∀ (a0_0 : Int) (a0_1 : Row) (a0_2 : Row) (a0_3 : Row) (a0_4 : Row) (a0_5 : Int) (a0_6 : Row) (a0_7 : Row) (a0_8 : Int) (left1 : Int), Pu.laws_szProxy.c a0_0 a0_1 a0_2 a0_3 a0_4 a0_5 a0_6 a0_7 a0_8 left1 = true → ∃ it : It Res, (∀ c ∈ loopsOf (Try.f38.body.getD .skip), LoopOk E38 it c) ∧ body E38 it Try.f38 [(.v true [(.i .i64 a0_0), (.sh 208 a0_1), (.sh 9 a0_2), (.sh 9 a0_3), (.sh 30 a0_4), (.i .i64 a0_5), (.sh 210 a0_6), (.sh 212 a0_7), (.i .i64 a0_8)]), (.v false [(.i .i64 left1)])] = some ⟨[(.v false [(.i .i64 (Pu.laws_szProxy.v a0_0 a0_1 a0_2 a0_3 a0_4 a0_5 a0_6 a0_7 a0_8 left1))])], []⟩ := by
    intro a0_0 a0_1 a0_2 a0_3 a0_4 a0_5 a0_6 a0_7 a0_8 left1  h1
    have hN := Pu.laws_szProxy.b_eq (R := Res) (fun r0 => some ⟨[(.v false [(.i .i64 r0)])], []⟩) a0_0 a0_1 a0_2 a0_3 a0_4 a0_5 a0_6 a0_7 a0_8 left1 h1
    have hl : loopsOf (Try.f38.body.getD .skip) = [] := by kernel_rfl
    refine ⟨iterN 0, by rw [hl]; exact loops_nil, ?_⟩
    refine Eq.trans (show body E38 (iterN 0) Try.f38 [(.v true [(.i .i64 a0_0), (.sh 208 a0_1), (.sh 9 a0_2), (.sh 9 a0_3), (.sh 30 a0_4), (.i .i64 a0_5), (.sh 210 a0_6), (.sh 212 a0_7), (.i .i64 a0_8)]), (.v false [(.i .i64 left1)])] = Pu.laws_szProxy.b (fun r0 => some ⟨[(.v false [(.i .i64 r0)])], []⟩) a0_0 a0_1 a0_2 a0_3 a0_4 a0_5 a0_6 a0_7 a0_8 left1 by kernel_rfl) hN
  intro args r h
  unfold sp38 at h
  split at h
  · injection h with h
    injection h with h1 h2
    subst h2
    exact ⟨by kernel_rfl, fun hf => ⟨of_decide_eq_true (by kernel_rfl), key _ _ _ _ _ _ _ _ _ _ h1⟩⟩
  · cases h

end Go.FG.Se

namespace Go.FG.Se
open Go.Proofs
def E202 : Env := { toTab := T, call := Go.FG.callIn [], mode := Go.FG.modeIn md, keep := Go.FG.keepIn [], tk := fun n => Go.FG.memB n [], om := Go.FG.omIn [] }
def sp202 : List Arg → Option (Bool × Res)
  | [(.v true [(.s a0_0), (.i .i64 a0_1), (.i .i64 a0_2), (.s a0_3)])] => some (true, ⟨[(.v true [(.s ((Pu.laws_toEntry.v a0_0 a0_1 a0_2 a0_3).1)), (.i .i64 ((Pu.laws_toEntry.v a0_0 a0_1 a0_2 a0_3).2.1)), (.i .i64 ((Pu.laws_toEntry.v a0_0 a0_1 a0_2 a0_3).2.2.1)), (.s ((Pu.laws_toEntry.v a0_0 a0_1 a0_2 a0_3).2.2.2))])], []⟩)
  | _ => none
theorem ok202 : FnOk Try.prog T 202 sp202 := by
  refine fn_ok (E := E202) hE call_nil hM Try.func202 (code := (Try.f202.body.getD .skip)) (by kernel_rfl) (by kernel_rfl) ?_
  have key : ∀ (a0_0 : ByteArray) (a0_1 : Int) (a0_2 : Int) (a0_3 : ByteArray), ∃ it : It Res, (∀ c ∈ loopsOf (Try.f202.body.getD .skip), LoopOk E202 it c) ∧ body E202 it Try.f202 [(.v true [(.s a0_0), (.i .i64 a0_1), (.i .i64 a0_2), (.s a0_3)])] = some ⟨[(.v true [(.s ((Pu.laws_toEntry.v a0_0 a0_1 a0_2 a0_3).1)), (.i .i64 ((Pu.laws_toEntry.v a0_0 a0_1 a0_2 a0_3).2.1)), (.i .i64 ((Pu.laws_toEntry.v a0_0 a0_1 a0_2 a0_3).2.2.1)), (.s ((Pu.laws_toEntry.v a0_0 a0_1 a0_2 a0_3).2.2.2))])], []⟩ := by
    intro a0_0 a0_1 a0_2 a0_3 
    have hN := Pu.laws_toEntry.b_eq (R := Res) (fun r0 r1 r2 r3 => some ⟨[(.v true [(.s r0), (.i .i64 r1), (.i .i64 r2), (.s r3)])], []⟩) a0_0 a0_1 a0_2 a0_3
    have hl : loopsOf (Try.f202.body.getD .skip) = [] := by kernel_rfl
    refine ⟨iterN 0, by rw [hl]; exact loops_nil, ?_⟩
    refine Eq.trans (show body E202 (iterN 0) Try.f202 [(.v true [(.s a0_0), (.i .i64 a0_1), (.i .i64 a0_2), (.s a0_3)])] = Pu.laws_toEntry.b (fun r0 r1 r2 r3 => some ⟨[(.v true [(.s r0), (.i .i64 r1), (.i .i64 r2), (.s r3)])], []⟩) a0_0 a0_1 a0_2 a0_3 by kernel_rfl) hN
  intro args r h
  unfold sp202 at h
  split at h
  · injection h with h
    injection h with h1 h2
    subst h2
    exact ⟨by kernel_rfl, fun hf => ⟨of_decide_eq_true (by kernel_rfl), key _ _ _ _⟩⟩
  · cases h

end Go.FG.Se

namespace Go.FG.Se
open Go.Proofs
def T125_0 (p0 : Row) (p1 : Int) (p2 : Row) : List (Nat × Cel) := [(0, (.v (.v false [(.sh 208 p0)]))), (6, (.v (.v false [(.own 0)]))), (8, (.v (.v false [(.i .i64 p1)]))), (1, (.o (.row 86 true p2)))]
def E125 : Env := { toTab := T, call := Go.FG.callIn [(202, sp202)], mode := Go.FG.modeIn md, keep := Go.FG.keepIn [(3, [0, 3, 4])], tk := fun n => Go.FG.memB n [], om := Go.FG.omIn [] }
def it125 (N : Nat) {R : Type} : It R := fun rid f cn L K => bif Nat.beq rid 3 then (tell [(0, (.v (.v false [(.sh 208 [])]))), (6, (.v (.v false [(.own 0)]))), (8, (.v (.v false [(.i .i64 0)]))), (1, (.o (.row 86 true [])))] (fun | [.R x0, .I x1, .R x2] => Pu.laws_toEntryS.l3 N (fun y0 y1 y2 => (K (.exit 0) (tabl (T125_0 y0 y1 y2)))) N x0 x1 x2 | _ => none) L (none)) else none
theorem e125_3 {R : Type} (N : Nat) (K : Ex → St → Option R) : ∀ n : Nat, (∀ x0 x1 x2, iter (exc E125 (it125 N) (loopOf Try.f125 3)) (canon (E125.keep 3))  n (tabl (T125_0 x0 x1 x2)) K = Pu.laws_toEntryS.l3 N (fun y0 y1 y2 => (K (.exit 0) (tabl (T125_0 y0 y1 y2)))) n x0 x1 x2) := by
  intro n
  induction n with
  | zero => exact (fun _ _ _ => rfl)
  | succ n ih =>
    have e0 : (fun x0 x1 x2 => iter (exc E125 (it125 N) (loopOf Try.f125 3)) (canon (E125.keep 3))  n (tabl (T125_0 x0 x1 x2)) K) = Pu.laws_toEntryS.l3 N (fun y0 y1 y2 => (K (.exit 0) (tabl (T125_0 y0 y1 y2)))) n := by funext x0 x1 x2; exact ih x0 x1 x2
    intro x0 x1 x2
    have h : ∀ g, exc E125 (it125 N) (loopOf Try.f125 3) (tabl (T125_0 x0 x1 x2)) (iterK g (canon (E125.keep 3)) K) = Pu.laws_toEntryS.r3 N (fun x0 x1 x2 => (g (tabl (T125_0 x0 x1 x2)))) (fun y0 y1 y2 => (K (.exit 0) (tabl (T125_0 y0 y1 y2)))) x0 x1 x2 := by intro g; kernel_rfl
    refine (iter_succ _ _ n _ K).trans ((h _).trans ?_)
    show Pu.laws_toEntryS.r3 N (fun x0 x1 x2 => (iter (exc E125 (it125 N) (loopOf Try.f125 3)) (canon (E125.keep 3))  n (tabl (T125_0 x0 x1 x2)) K)) (fun y0 y1 y2 => (K (.exit 0) (tabl (T125_0 y0 y1 y2)))) x0 x1 x2 = _
    rw [e0]; rfl
theorem lo125_3 {R : Type} (N : Nat) : LoopOk E125 (it125 N (R := R)) (loopOf Try.f125 3) := by
  have e : firstRid (loopOf Try.f125 3) = 3 := by kernel_rfl
  intro L K r
  rw [e]
  intro h
  unfold it125 at h
  simp only [show Nat.beq 3 3 = true from rfl, cond_false, cond_true] at h
  refine tell_ok (Q := fun L => ∃ n, iter (exc E125 (it125 N) (loopOf Try.f125 3)) (canon (E125.keep 3)) n (tabl L) K = some r) h (fun xs h => ?_) (fun h => ?_)
  · (try dsimp only at h)
    split at h
    · exact ⟨N, ((e125_3 N K N) _ _ _).trans h⟩
    · cases h
  cases h
def sp125 : List Arg → Option (Bool × Res)
  | [(.v false [(.sh 208 a0)])] => some (Pu.laws_toEntryS.c a0, ⟨[(.v false [(.ow 86 true (Pu.laws_toEntryS.v a0))])], []⟩)
  | _ => none
theorem ok125 : FnOk Try.prog T 125 sp125 := by
  refine fn_ok (E := E125) hE (call_cons ok202 call_nil) hM Try.func125 (code := (Try.f125.body.getD .skip)) (by kernel_rfl) (by kernel_rfl) ?_
  have key : ∀ (a0 : Row), Pu.laws_toEntryS.c a0 = true → ∃ it : It Res, (∀ c ∈ loopsOf (Try.f125.body.getD .skip), LoopOk E125 it c) ∧ body E125 it Try.f125 [(.v false [(.sh 208 a0)])] = some ⟨[(.v false [(.ow 86 true (Pu.laws_toEntryS.v a0))])], []⟩ := by
    intro a0  h1
    obtain ⟨N, hN⟩ := Pu.laws_toEntryS.b_eq (R := Res) (fun r0 => some ⟨[(.v false [(.ow 86 true r0)])], []⟩) a0 h1
    have hl : loopsOf (Try.f125.body.getD .skip) = [loopOf Try.f125 3] := by kernel_rfl
    refine ⟨it125 N, by rw [hl]; exact (loops_cons (lo125_3 N) loops_nil), ?_⟩
    refine Eq.trans (show body E125 (it125 N) Try.f125 [(.v false [(.sh 208 a0)])] = Pu.laws_toEntryS.b N (fun r0 => some ⟨[(.v false [(.ow 86 true r0)])], []⟩) a0 by kernel_rfl) hN
  intro args r h
  unfold sp125 at h
  split at h
  · injection h with h
    injection h with h1 h2
    subst h2
    exact ⟨by kernel_rfl, fun hf => ⟨of_decide_eq_true (by kernel_rfl), key _ h1⟩⟩
  · cases h

end Go.FG.Se

namespace Go.FG.Se
open Go.Proofs
def T106_0 (p0 : Row) (p1 : Int) (p2 : Row) : List (Nat × Cel) := [(0, (.v (.v false [(.sh 9 p0)]))), (6, (.v (.v false [(.own 0)]))), (8, (.v (.v false [(.i .i64 p1)]))), (1, (.o (.row 9 true p2)))]
def E106 : Env := { toTab := T, call := Go.FG.callIn [], mode := Go.FG.modeIn md, keep := Go.FG.keepIn [(3, [0, 3, 4])], tk := fun n => Go.FG.memB n [], om := Go.FG.omIn [] }
def it106 (N : Nat) {R : Type} : It R := fun rid f cn L K => bif Nat.beq rid 3 then (tell [(0, (.v (.v false [(.sh 9 [])]))), (6, (.v (.v false [(.own 0)]))), (8, (.v (.v false [(.i .i64 0)]))), (1, (.o (.row 9 true [])))] (fun | [.R x0, .I x1, .R x2] => Pu.laws_toStringS.l3 N (fun y0 y1 y2 => (K (.exit 0) (tabl (T106_0 y0 y1 y2)))) N x0 x1 x2 | _ => none) L (none)) else none
theorem e106_3 {R : Type} (N : Nat) (K : Ex → St → Option R) : ∀ n : Nat, (∀ x0 x1 x2, iter (exc E106 (it106 N) (loopOf Try.f106 3)) (canon (E106.keep 3))  n (tabl (T106_0 x0 x1 x2)) K = Pu.laws_toStringS.l3 N (fun y0 y1 y2 => (K (.exit 0) (tabl (T106_0 y0 y1 y2)))) n x0 x1 x2) := by
  intro n
  induction n with
  | zero => exact (fun _ _ _ => rfl)
  | succ n ih =>
    have e0 : (fun x0 x1 x2 => iter (exc E106 (it106 N) (loopOf Try.f106 3)) (canon (E106.keep 3))  n (tabl (T106_0 x0 x1 x2)) K) = Pu.laws_toStringS.l3 N (fun y0 y1 y2 => (K (.exit 0) (tabl (T106_0 y0 y1 y2)))) n := by funext x0 x1 x2; exact ih x0 x1 x2
    intro x0 x1 x2
    have h : ∀ g, exc E106 (it106 N) (loopOf Try.f106 3) (tabl (T106_0 x0 x1 x2)) (iterK g (canon (E106.keep 3)) K) = Pu.laws_toStringS.r3 N (fun x0 x1 x2 => (g (tabl (T106_0 x0 x1 x2)))) (fun y0 y1 y2 => (K (.exit 0) (tabl (T106_0 y0 y1 y2)))) x0 x1 x2 := by intro g; kernel_rfl
    refine (iter_succ _ _ n _ K).trans ((h _).trans ?_)
    show Pu.laws_toStringS.r3 N (fun x0 x1 x2 => (iter (exc E106 (it106 N) (loopOf Try.f106 3)) (canon (E106.keep 3))  n (tabl (T106_0 x0 x1 x2)) K)) (fun y0 y1 y2 => (K (.exit 0) (tabl (T106_0 y0 y1 y2)))) x0 x1 x2 = _
    rw [e0]; rfl
theorem lo106_3 {R : Type} (N : Nat) : LoopOk E106 (it106 N (R := R)) (loopOf Try.f106 3) := by
  have e : firstRid (loopOf Try.f106 3) = 3 := by kernel_rfl
  intro L K r
  rw [e]
  intro h
  unfold it106 at h
  simp only [show Nat.beq 3 3 = true from rfl, cond_false, cond_true] at h
  refine tell_ok (Q := fun L => ∃ n, iter (exc E106 (it106 N) (loopOf Try.f106 3)) (canon (E106.keep 3)) n (tabl L) K = some r) h (fun xs h => ?_) (fun h => ?_)
  · (try dsimp only at h)
    split at h
    · exact ⟨N, ((e106_3 N K N) _ _ _).trans h⟩
    · cases h
  cases h
def sp106 : List Arg → Option (Bool × Res)
  | [(.v false [(.sh 9 a0)])] => some (Pu.laws_toStringS.c a0, ⟨[(.v false [(.ow 9 true (Pu.laws_toStringS.v a0))])], []⟩)
  | _ => none
theorem ok106 : FnOk Try.prog T 106 sp106 := by
  refine fn_ok (E := E106) hE call_nil hM Try.func106 (code := (Try.f106.body.getD .skip)) (by kernel_rfl) (by kernel_rfl) ?_
  have key : ∀ (a0 : Row), Pu.laws_toStringS.c a0 = true → ∃ it : It Res, (∀ c ∈ loopsOf (Try.f106.body.getD .skip), LoopOk E106 it c) ∧ body E106 it Try.f106 [(.v false [(.sh 9 a0)])] = some ⟨[(.v false [(.ow 9 true (Pu.laws_toStringS.v a0))])], []⟩ := by
    intro a0  h1
    obtain ⟨N, hN⟩ := Pu.laws_toStringS.b_eq (R := Res) (fun r0 => some ⟨[(.v false [(.ow 9 true r0)])], []⟩) a0 h1
    have hl : loopsOf (Try.f106.body.getD .skip) = [loopOf Try.f106 3] := by kernel_rfl
    refine ⟨it106 N, by rw [hl]; exact (loops_cons (lo106_3 N) loops_nil), ?_⟩
    refine Eq.trans (show body E106 (it106 N) Try.f106 [(.v false [(.sh 9 a0)])] = Pu.laws_toStringS.b N (fun r0 => some ⟨[(.v false [(.ow 9 true r0)])], []⟩) a0 by kernel_rfl) hN
  intro args r h
  unfold sp106 at h
  split at h
  · injection h with h
    injection h with h1 h2
    subst h2
    exact ⟨by kernel_rfl, fun hf => ⟨of_decide_eq_true (by kernel_rfl), key _ h1⟩⟩
  · cases h

end Go.FG.Se

namespace Go.FG.Se
open Go.Proofs
def T224_0 (p0 : Row) (p1 : Int) (p2 : Row) : List (Nat × Cel) := [(0, (.v (.v false [(.sh 3 p0)]))), (6, (.v (.v false [(.own 0)]))), (8, (.v (.v false [(.i .i64 p1)]))), (1, (.o (.row 3 true p2)))]
def E224 : Env := { toTab := T, call := Go.FG.callIn [], mode := Go.FG.modeIn md, keep := Go.FG.keepIn [(3, [0, 3, 4])], tk := fun n => Go.FG.memB n [], om := Go.FG.omIn [] }
def it224 (N : Nat) {R : Type} : It R := fun rid f cn L K => bif Nat.beq rid 3 then (tell [(0, (.v (.v false [(.sh 3 [])]))), (6, (.v (.v false [(.own 0)]))), (8, (.v (.v false [(.i .i64 0)]))), (1, (.o (.row 3 true [])))] (fun | [.R x0, .I x1, .R x2] => Pu.laws_toIntS.l3 N (fun y0 y1 y2 => (K (.exit 0) (tabl (T224_0 y0 y1 y2)))) N x0 x1 x2 | _ => none) L (none)) else none
theorem e224_3 {R : Type} (N : Nat) (K : Ex → St → Option R) : ∀ n : Nat, (∀ x0 x1 x2, iter (exc E224 (it224 N) (loopOf Try.f224 3)) (canon (E224.keep 3))  n (tabl (T224_0 x0 x1 x2)) K = Pu.laws_toIntS.l3 N (fun y0 y1 y2 => (K (.exit 0) (tabl (T224_0 y0 y1 y2)))) n x0 x1 x2) := by
  intro n
  induction n with
  | zero => exact (fun _ _ _ => rfl)
  | succ n ih =>
    have e0 : (fun x0 x1 x2 => iter (exc E224 (it224 N) (loopOf Try.f224 3)) (canon (E224.keep 3))  n (tabl (T224_0 x0 x1 x2)) K) = Pu.laws_toIntS.l3 N (fun y0 y1 y2 => (K (.exit 0) (tabl (T224_0 y0 y1 y2)))) n := by funext x0 x1 x2; exact ih x0 x1 x2
    intro x0 x1 x2
    have h : ∀ g, exc E224 (it224 N) (loopOf Try.f224 3) (tabl (T224_0 x0 x1 x2)) (iterK g (canon (E224.keep 3)) K) = Pu.laws_toIntS.r3 N (fun x0 x1 x2 => (g (tabl (T224_0 x0 x1 x2)))) (fun y0 y1 y2 => (K (.exit 0) (tabl (T224_0 y0 y1 y2)))) x0 x1 x2 := by intro g; kernel_rfl
    refine (iter_succ _ _ n _ K).trans ((h _).trans ?_)
    show Pu.laws_toIntS.r3 N (fun x0 x1 x2 => (iter (exc E224 (it224 N) (loopOf Try.f224 3)) (canon (E224.keep 3))  n (tabl (T224_0 x0 x1 x2)) K)) (fun y0 y1 y2 => (K (.exit 0) (tabl (T224_0 y0 y1 y2)))) x0 x1 x2 = _
    rw [e0]; rfl
theorem lo224_3 {R : Type} (N : Nat) : LoopOk E224 (it224 N (R := R)) (loopOf Try.f224 3) := by
  have e : firstRid (loopOf Try.f224 3) = 3 := by kernel_rfl
  intro L K r
  rw [e]
  intro h
  unfold it224 at h
  simp only [show Nat.beq 3 3 = true from rfl, cond_false, cond_true] at h
  refine tell_ok (Q := fun L => ∃ n, iter (exc E224 (it224 N) (loopOf Try.f224 3)) (canon (E224.keep 3)) n (tabl L) K = some r) h (fun xs h => ?_) (fun h => ?_)
  · (try dsimp only at h)
    split at h
    · exact ⟨N, ((e224_3 N K N) _ _ _).trans h⟩
    · cases h
  cases h
def sp224 : List Arg → Option (Bool × Res)
  | [(.v false [(.sh 3 a0)])] => some (Pu.laws_toIntS.c a0, ⟨[(.v false [(.ow 3 true (Pu.laws_toIntS.v a0))])], []⟩)
  | _ => none
theorem ok224 : FnOk Try.prog T 224 sp224 := by
  refine fn_ok (E := E224) hE call_nil hM Try.func224 (code := (Try.f224.body.getD .skip)) (by kernel_rfl) (by kernel_rfl) ?_
  have key : ∀ (a0 : Row), Pu.laws_toIntS.c a0 = true → ∃ it : It Res, (∀ c ∈ loopsOf (Try.f224.body.getD .skip), LoopOk E224 it c) ∧ body E224 it Try.f224 [(.v false [(.sh 3 a0)])] = some ⟨[(.v false [(.ow 3 true (Pu.laws_toIntS.v a0))])], []⟩ := by
    intro a0  h1
    obtain ⟨N, hN⟩ := Pu.laws_toIntS.b_eq (R := Res) (fun r0 => some ⟨[(.v false [(.ow 3 true r0)])], []⟩) a0 h1
    have hl : loopsOf (Try.f224.body.getD .skip) = [loopOf Try.f224 3] := by kernel_rfl
    refine ⟨it224 N, by rw [hl]; exact (loops_cons (lo224_3 N) loops_nil), ?_⟩
    refine Eq.trans (show body E224 (it224 N) Try.f224 [(.v false [(.sh 3 a0)])] = Pu.laws_toIntS.b N (fun r0 => some ⟨[(.v false [(.ow 3 true r0)])], []⟩) a0 by kernel_rfl) hN
  intro args r h
  unfold sp224 at h
  split at h
  · injection h with h
    injection h with h1 h2
    subst h2
    exact ⟨by kernel_rfl, fun hf => ⟨of_decide_eq_true (by kernel_rfl), key _ h1⟩⟩
  · cases h

end Go.FG.Se

namespace Go.FG.Se
open Go.Proofs
def T189_0 (p0 : Row) (p1 : Int) (p2 : Row) : List (Nat × Cel) := [(0, (.v (.v false [(.sh 30 p0)]))), (6, (.v (.v false [(.own 999)]))), (8, (.v (.v false [(.i .i64 p1)]))), (1999, (.o (.row 30 true p2)))]
def E189 : Env := { toTab := T, call := Go.FG.callIn [(224, sp224)], mode := Go.FG.modeIn md, keep := Go.FG.keepIn [(3, [0, 3, 4])], tk := fun n => Go.FG.memB n [], om := Go.FG.omIn [] }
def it189 (N : Nat) {R : Type} : It R := fun rid f cn L K => bif Nat.beq rid 3 then (tell [(0, (.v (.v false [(.sh 30 [])]))), (6, (.v (.v false [(.own 999)]))), (8, (.v (.v false [(.i .i64 0)]))), (1999, (.o (.row 30 true [])))] (fun | [.R x0, .I x1, .R x2] => Pu.laws_toIntSS.l3 N (fun y0 y1 y2 => (K (.exit 0) (tabl (T189_0 y0 y1 y2)))) N x0 x1 x2 | _ => none) L (none)) else none
theorem e189_3 {R : Type} (N : Nat) (K : Ex → St → Option R) : ∀ n : Nat, (∀ x0 x1 x2, iter (exc E189 (it189 N) (loopOf Try.f189 3)) (canon (E189.keep 3))  n (tabl (T189_0 x0 x1 x2)) K = Pu.laws_toIntSS.l3 N (fun y0 y1 y2 => (K (.exit 0) (tabl (T189_0 y0 y1 y2)))) n x0 x1 x2) := by
  intro n
  induction n with
  | zero => exact (fun _ _ _ => rfl)
  | succ n ih =>
    have e0 : (fun x0 x1 x2 => iter (exc E189 (it189 N) (loopOf Try.f189 3)) (canon (E189.keep 3))  n (tabl (T189_0 x0 x1 x2)) K) = Pu.laws_toIntSS.l3 N (fun y0 y1 y2 => (K (.exit 0) (tabl (T189_0 y0 y1 y2)))) n := by funext x0 x1 x2; exact ih x0 x1 x2
    intro x0 x1 x2
    have h : ∀ g, exc E189 (it189 N) (loopOf Try.f189 3) (tabl (T189_0 x0 x1 x2)) (iterK g (canon (E189.keep 3)) K) = Pu.laws_toIntSS.r3 N (fun x0 x1 x2 => (g (tabl (T189_0 x0 x1 x2)))) (fun y0 y1 y2 => (K (.exit 0) (tabl (T189_0 y0 y1 y2)))) x0 x1 x2 := by intro g; kernel_rfl
    refine (iter_succ _ _ n _ K).trans ((h _).trans ?_)
    show Pu.laws_toIntSS.r3 N (fun x0 x1 x2 => (iter (exc E189 (it189 N) (loopOf Try.f189 3)) (canon (E189.keep 3))  n (tabl (T189_0 x0 x1 x2)) K)) (fun y0 y1 y2 => (K (.exit 0) (tabl (T189_0 y0 y1 y2)))) x0 x1 x2 = _
    rw [e0]; rfl
theorem lo189_3 {R : Type} (N : Nat) : LoopOk E189 (it189 N (R := R)) (loopOf Try.f189 3) := by
  have e : firstRid (loopOf Try.f189 3) = 3 := by kernel_rfl
  intro L K r
  rw [e]
  intro h
  unfold it189 at h
  simp only [show Nat.beq 3 3 = true from rfl, cond_false, cond_true] at h
  refine tell_ok (Q := fun L => ∃ n, iter (exc E189 (it189 N) (loopOf Try.f189 3)) (canon (E189.keep 3)) n (tabl L) K = some r) h (fun xs h => ?_) (fun h => ?_)
  · (try dsimp only at h)
    split at h
    · exact ⟨N, ((e189_3 N K N) _ _ _).trans h⟩
    · cases h
  cases h
def sp189 : List Arg → Option (Bool × Res)
  | [(.v false [(.sh 30 a0)])] => some (Pu.laws_toIntSS.c a0, ⟨[(.v false [(.ow 30 true (Pu.laws_toIntSS.v a0))])], []⟩)
  | _ => none
theorem ok189 : FnOk Try.prog T 189 sp189 := by
  refine fn_ok (E := E189) hE (call_cons ok224 call_nil) hM Try.func189 (code := (Try.f189.body.getD .skip)) (by kernel_rfl) (by kernel_rfl) ?_
  have key : ∀ (a0 : Row), Pu.laws_toIntSS.c a0 = true → ∃ it : It Res, (∀ c ∈ loopsOf (Try.f189.body.getD .skip), LoopOk E189 it c) ∧ body E189 it Try.f189 [(.v false [(.sh 30 a0)])] = some ⟨[(.v false [(.ow 30 true (Pu.laws_toIntSS.v a0))])], []⟩ := by
    intro a0  h1
    obtain ⟨N, hN⟩ := Pu.laws_toIntSS.b_eq (R := Res) (fun r0 => some ⟨[(.v false [(.ow 30 true r0)])], []⟩) a0 h1
    have hl : loopsOf (Try.f189.body.getD .skip) = [loopOf Try.f189 3] := by kernel_rfl
    refine ⟨it189 N, by rw [hl]; exact (loops_cons (lo189_3 N) loops_nil), ?_⟩
    refine Eq.trans (show body E189 (it189 N) Try.f189 [(.v false [(.sh 30 a0)])] = Pu.laws_toIntSS.b N (fun r0 => some ⟨[(.v false [(.ow 30 true r0)])], []⟩) a0 by kernel_rfl) hN
  intro args r h
  unfold sp189 at h
  split at h
  · injection h with h
    injection h with h1 h2
    subst h2
    exact ⟨by kernel_rfl, fun hf => ⟨of_decide_eq_true (by kernel_rfl), key _ h1⟩⟩
  · cases h

end Go.FG.Se

namespace Go.FG.Se
open Go.Proofs
def E107 : Env := { toTab := T, call := Go.FG.callIn [(189, sp189)], mode := Go.FG.modeIn md, keep := Go.FG.keepIn [], tk := fun n => Go.FG.memB n [], om := Go.FG.omIn [] }
def sp107 : List Arg → Option (Bool × Res)
  | [(.v true [(.sh 30 a0_0), (.i .i64 a0_1)])] => some (Pu.laws_toSketch.c a0_0 a0_1, ⟨[(.v true [(.ow 30 true ((Pu.laws_toSketch.v a0_0 a0_1).1)), (.i .i64 ((Pu.laws_toSketch.v a0_0 a0_1).2))])], []⟩)
  | _ => none
theorem ok107 : FnOk Try.prog T 107 sp107 := by
  refine fn_ok (E := E107) hE (call_cons ok189 call_nil) hM Try.func107 (code := (Try.f107.body.getD .skip)) (by kernel_rfl) (by kernel_rfl) ?_
  have key : ∀ (a0_0 : Row) (a0_1 : Int), Pu.laws_toSketch.c a0_0 a0_1 = true → ∃ it : It Res, (∀ c ∈ loopsOf (Try.f107.body.getD .skip), LoopOk E107 it c) ∧ body E107 it Try.f107 [(.v true [(.sh 30 a0_0), (.i .i64 a0_1)])] = some ⟨[(.v true [(.ow 30 true ((Pu.laws_toSketch.v a0_0 a0_1).1)), (.i .i64 ((Pu.laws_toSketch.v a0_0 a0_1).2))])], []⟩ := by
    intro a0_0 a0_1  h1
    have hN := Pu.laws_toSketch.b_eq (R := Res) (fun r0 r1 => some ⟨[(.v true [(.ow 30 true r0), (.i .i64 r1)])], []⟩) a0_0 a0_1 h1
    have hl : loopsOf (Try.f107.body.getD .skip) = [] := by kernel_rfl
    refine ⟨iterN 0, by rw [hl]; exact loops_nil, ?_⟩
    refine Eq.trans (show body E107 (iterN 0) Try.f107 [(.v true [(.sh 30 a0_0), (.i .i64 a0_1)])] = Pu.laws_toSketch.b (fun r0 r1 => some ⟨[(.v true [(.ow 30 true r0), (.i .i64 r1)])], []⟩) a0_0 a0_1 by kernel_rfl) hN
  intro args r h
  unfold sp107 at h
  split at h
  · injection h with h
    injection h with h1 h2
    subst h2
    exact ⟨by kernel_rfl, fun hf => ⟨of_decide_eq_true (by kernel_rfl), key _ _ h1⟩⟩
  · cases h

end Go.FG.Se

namespace Go.FG.Se
open Go.Proofs
def E33 : Env := { toTab := T, call := Go.FG.callIn [(106, sp106), (107, sp107)], mode := Go.FG.modeIn md, keep := Go.FG.keepIn [], tk := fun n => Go.FG.memB n [], om := Go.FG.omIn [] }
def sp33 : List Arg → Option (Bool × Res)
  | [(.v true [(.sh 9 a0_0), (.sh 9 a0_1), (.sh 30 a0_2), (.i .i64 a0_3)])] => some (Pu.laws_toPolicy.c a0_0 a0_1 a0_2 a0_3, ⟨[(.v true [(.ow 9 true ((Pu.laws_toPolicy.v a0_0 a0_1 a0_2 a0_3).1)), (.ow 9 true ((Pu.laws_toPolicy.v a0_0 a0_1 a0_2 a0_3).2.1)), (.ow 30 true ((Pu.laws_toPolicy.v a0_0 a0_1 a0_2 a0_3).2.2.1)), (.i .i64 ((Pu.laws_toPolicy.v a0_0 a0_1 a0_2 a0_3).2.2.2))])], []⟩)
  | _ => none
theorem ok33 : FnOk Try.prog T 33 sp33 := by
  refine fn_ok (E := E33) hE (call_cons ok106 (call_cons ok107 call_nil)) hM Try.func33 (code := (Try.f33.body.getD .skip)) (by kernel_rfl) (by kernel_rfl) ?_
  have key : ∀ (a0_0 : Row) (a0_1 : Row) (a0_2 : Row) (a0_3 : Int), Pu.laws_toPolicy.c a0_0 a0_1 a0_2 a0_3 = true → ∃ it : It Res, (∀ c ∈ loopsOf (Try.f33.body.getD .skip), LoopOk E33 it c) ∧ body E33 it Try.f33 [(.v true [(.sh 9 a0_0), (.sh 9 a0_1), (.sh 30 a0_2), (.i .i64 a0_3)])] = some ⟨[(.v true [(.ow 9 true ((Pu.laws_toPolicy.v a0_0 a0_1 a0_2 a0_3).1)), (.ow 9 true ((Pu.laws_toPolicy.v a0_0 a0_1 a0_2 a0_3).2.1)), (.ow 30 true ((Pu.laws_toPolicy.v a0_0 a0_1 a0_2 a0_3).2.2.1)), (.i .i64 ((Pu.laws_toPolicy.v a0_0 a0_1 a0_2 a0_3).2.2.2))])], []⟩ := by
    intro a0_0 a0_1 a0_2 a0_3  h1
    have hN := Pu.laws_toPolicy.b_eq (R := Res) (fun r0 r1 r2 r3 => some ⟨[(.v true [(.ow 9 true r0), (.ow 9 true r1), (.ow 30 true r2), (.i .i64 r3)])], []⟩) a0_0 a0_1 a0_2 a0_3 h1
    have hl : loopsOf (Try.f33.body.getD .skip) = [] := by kernel_rfl
    refine ⟨iterN 0, by rw [hl]; exact loops_nil, ?_⟩
    refine Eq.trans (show body E33 (iterN 0) Try.f33 [(.v true [(.sh 9 a0_0), (.sh 9 a0_1), (.sh 30 a0_2), (.i .i64 a0_3)])] = Pu.laws_toPolicy.b (fun r0 r1 r2 r3 => some ⟨[(.v true [(.ow 9 true r0), (.ow 9 true r1), (.ow 30 true r2), (.i .i64 r3)])], []⟩) a0_0 a0_1 a0_2 a0_3 by kernel_rfl) hN
  intro args r h
  unfold sp33 at h
  split at h
  · injection h with h
    injection h with h1 h2
    subst h2
    exact ⟨by kernel_rfl, fun hf => ⟨of_decide_eq_true (by kernel_rfl), key _ _ _ _ h1⟩⟩
  · cases h

end Go.FG.Se

namespace Go.FG.Se
open Go.Proofs
def E203 : Env := { toTab := T, call := Go.FG.callIn [], mode := Go.FG.modeIn md, keep := Go.FG.keepIn [], tk := fun n => Go.FG.memB n [], om := Go.FG.omIn [] }
def sp203 : List Arg → Option (Bool × Res)
  | [(.v true [(.s a0_0), (.s a0_1), (.i .i64 a0_2), (.i .i64 a0_3), (.i .i64 a0_4)])] => some (true, ⟨[(.v true [(.s ((Pu.laws_toFetch.v a0_0 a0_1 a0_2 a0_3 a0_4).1)), (.s ((Pu.laws_toFetch.v a0_0 a0_1 a0_2 a0_3 a0_4).2.1)), (.i .i64 ((Pu.laws_toFetch.v a0_0 a0_1 a0_2 a0_3 a0_4).2.2.1)), (.i .i64 ((Pu.laws_toFetch.v a0_0 a0_1 a0_2 a0_3 a0_4).2.2.2.1)), (.i .i64 ((Pu.laws_toFetch.v a0_0 a0_1 a0_2 a0_3 a0_4).2.2.2.2))])], []⟩)
  | _ => none
theorem ok203 : FnOk Try.prog T 203 sp203 := by
  refine fn_ok (E := E203) hE call_nil hM Try.func203 (code := (Try.f203.body.getD .skip)) (by kernel_rfl) (by kernel_rfl) ?_
  have key : ∀ (a0_0 : ByteArray) (a0_1 : ByteArray) (a0_2 : Int) (a0_3 : Int) (a0_4 : Int), ∃ it : It Res, (∀ c ∈ loopsOf (Try.f203.body.getD .skip), LoopOk E203 it c) ∧ body E203 it Try.f203 [(.v true [(.s a0_0), (.s a0_1), (.i .i64 a0_2), (.i .i64 a0_3), (.i .i64 a0_4)])] = some ⟨[(.v true [(.s ((Pu.laws_toFetch.v a0_0 a0_1 a0_2 a0_3 a0_4).1)), (.s ((Pu.laws_toFetch.v a0_0 a0_1 a0_2 a0_3 a0_4).2.1)), (.i .i64 ((Pu.laws_toFetch.v a0_0 a0_1 a0_2 a0_3 a0_4).2.2.1)), (.i .i64 ((Pu.laws_toFetch.v a0_0 a0_1 a0_2 a0_3 a0_4).2.2.2.1)), (.i .i64 ((Pu.laws_toFetch.v a0_0 a0_1 a0_2 a0_3 a0_4).2.2.2.2))])], []⟩ := by
    intro a0_0 a0_1 a0_2 a0_3 a0_4 
    have hN := Pu.laws_toFetch.b_eq (R := Res) (fun r0 r1 r2 r3 r4 => some ⟨[(.v true [(.s r0), (.s r1), (.i .i64 r2), (.i .i64 r3), (.i .i64 r4)])], []⟩) a0_0 a0_1 a0_2 a0_3 a0_4
    have hl : loopsOf (Try.f203.body.getD .skip) = [] := by kernel_rfl
    refine ⟨iterN 0, by rw [hl]; exact loops_nil, ?_⟩
    refine Eq.trans (show body E203 (iterN 0) Try.f203 [(.v true [(.s a0_0), (.s a0_1), (.i .i64 a0_2), (.i .i64 a0_3), (.i .i64 a0_4)])] = Pu.laws_toFetch.b (fun r0 r1 r2 r3 r4 => some ⟨[(.v true [(.s r0), (.s r1), (.i .i64 r2), (.i .i64 r3), (.i .i64 r4)])], []⟩) a0_0 a0_1 a0_2 a0_3 a0_4 by kernel_rfl) hN
  intro args r h
  unfold sp203 at h
  split at h
  · injection h with h
    injection h with h1 h2
    subst h2
    exact ⟨by kernel_rfl, fun hf => ⟨of_decide_eq_true (by kernel_rfl), key _ _ _ _ _⟩⟩
  · cases h

end Go.FG.Se

namespace Go.FG.Se
open Go.Proofs
def T126_0 (p0 : Row) (p1 : Int) (p2 : Row) : List (Nat × Cel) := [(0, (.v (.v false [(.sh 210 p0)]))), (6, (.v (.v false [(.own 0)]))), (8, (.v (.v false [(.i .i64 p1)]))), (1, (.o (.row 126 true p2)))]
def E126 : Env := { toTab := T, call := Go.FG.callIn [(203, sp203)], mode := Go.FG.modeIn md, keep := Go.FG.keepIn [(3, [0, 3, 4])], tk := fun n => Go.FG.memB n [], om := Go.FG.omIn [] }
def it126 (N : Nat) {R : Type} : It R := fun rid f cn L K => bif Nat.beq rid 3 then (tell [(0, (.v (.v false [(.sh 210 [])]))), (6, (.v (.v false [(.own 0)]))), (8, (.v (.v false [(.i .i64 0)]))), (1, (.o (.row 126 true [])))] (fun | [.R x0, .I x1, .R x2] => Pu.laws_toFetchS.l3 N (fun y0 y1 y2 => (K (.exit 0) (tabl (T126_0 y0 y1 y2)))) N x0 x1 x2 | _ => none) L (none)) else none
theorem e126_3 {R : Type} (N : Nat) (K : Ex → St → Option R) : ∀ n : Nat, (∀ x0 x1 x2, iter (exc E126 (it126 N) (loopOf Try.f126 3)) (canon (E126.keep 3))  n (tabl (T126_0 x0 x1 x2)) K = Pu.laws_toFetchS.l3 N (fun y0 y1 y2 => (K (.exit 0) (tabl (T126_0 y0 y1 y2)))) n x0 x1 x2) := by
  intro n
  induction n with
  | zero => exact (fun _ _ _ => rfl)
  | succ n ih =>
    have e0 : (fun x0 x1 x2 => iter (exc E126 (it126 N) (loopOf Try.f126 3)) (canon (E126.keep 3))  n (tabl (T126_0 x0 x1 x2)) K) = Pu.laws_toFetchS.l3 N (fun y0 y1 y2 => (K (.exit 0) (tabl (T126_0 y0 y1 y2)))) n := by funext x0 x1 x2; exact ih x0 x1 x2
    intro x0 x1 x2
    have h : ∀ g, exc E126 (it126 N) (loopOf Try.f126 3) (tabl (T126_0 x0 x1 x2)) (iterK g (canon (E126.keep 3)) K) = Pu.laws_toFetchS.r3 N (fun x0 x1 x2 => (g (tabl (T126_0 x0 x1 x2)))) (fun y0 y1 y2 => (K (.exit 0) (tabl (T126_0 y0 y1 y2)))) x0 x1 x2 := by intro g; kernel_rfl
    refine (iter_succ _ _ n _ K).trans ((h _).trans ?_)
    show Pu.laws_toFetchS.r3 N (fun x0 x1 x2 => (iter (exc E126 (it126 N) (loopOf Try.f126 3)) (canon (E126.keep 3))  n (tabl (T126_0 x0 x1 x2)) K)) (fun y0 y1 y2 => (K (.exit 0) (tabl (T126_0 y0 y1 y2)))) x0 x1 x2 = _
    rw [e0]; rfl
theorem lo126_3 {R : Type} (N : Nat) : LoopOk E126 (it126 N (R := R)) (loopOf Try.f126 3) := by
  have e : firstRid (loopOf Try.f126 3) = 3 := by kernel_rfl
  intro L K r
  rw [e]
  intro h
  unfold it126 at h
  simp only [show Nat.beq 3 3 = true from rfl, cond_false, cond_true] at h
  refine tell_ok (Q := fun L => ∃ n, iter (exc E126 (it126 N) (loopOf Try.f126 3)) (canon (E126.keep 3)) n (tabl L) K = some r) h (fun xs h => ?_) (fun h => ?_)
  · (try dsimp only at h)
    split at h
    · exact ⟨N, ((e126_3 N K N) _ _ _).trans h⟩
    · cases h
  cases h
def sp126 : List Arg → Option (Bool × Res)
  | [(.v false [(.sh 210 a0)])] => some (Pu.laws_toFetchS.c a0, ⟨[(.v false [(.ow 126 true (Pu.laws_toFetchS.v a0))])], []⟩)
  | _ => none
theorem ok126 : FnOk Try.prog T 126 sp126 := by
  refine fn_ok (E := E126) hE (call_cons ok203 call_nil) hM Try.func126 (code := (Try.f126.body.getD .skip)) (by kernel_rfl) (by kernel_rfl) ?_
  have key : ∀ (a0 : Row), Pu.laws_toFetchS.c a0 = true → ∃ it : It Res, (∀ c ∈ loopsOf (Try.f126.body.getD .skip), LoopOk E126 it c) ∧ body E126 it Try.f126 [(.v false [(.sh 210 a0)])] = some ⟨[(.v false [(.ow 126 true (Pu.laws_toFetchS.v a0))])], []⟩ := by
    intro a0  h1
    obtain ⟨N, hN⟩ := Pu.laws_toFetchS.b_eq (R := Res) (fun r0 => some ⟨[(.v false [(.ow 126 true r0)])], []⟩) a0 h1
    have hl : loopsOf (Try.f126.body.getD .skip) = [loopOf Try.f126 3] := by kernel_rfl
    refine ⟨it126 N, by rw [hl]; exact (loops_cons (lo126_3 N) loops_nil), ?_⟩
    refine Eq.trans (show body E126 (it126 N) Try.f126 [(.v false [(.sh 210 a0)])] = Pu.laws_toFetchS.b N (fun r0 => some ⟨[(.v false [(.ow 126 true r0)])], []⟩) a0 by kernel_rfl) hN
  intro args r h
  unfold sp126 at h
  split at h
  · injection h with h
    injection h with h1 h2
    subst h2
    exact ⟨by kernel_rfl, fun hf => ⟨of_decide_eq_true (by kernel_rfl), key _ h1⟩⟩
  · cases h

end Go.FG.Se

namespace Go.FG.Se
open Go.Proofs
def E204 : Env := { toTab := T, call := Go.FG.callIn [], mode := Go.FG.modeIn md, keep := Go.FG.keepIn [], tk := fun n => Go.FG.memB n [], om := Go.FG.omIn [] }
def sp204 : List Arg → Option (Bool × Res)
  | [(.v true [(.i .i64 a0_0), (.s a0_1), (.i .i64 a0_2), (.i .i64 a0_3), (.i .i64 a0_4), (.s a0_5), (.i .i64 a0_6)])] => some (true, ⟨[(.v true [(.i .i64 ((Pu.laws_toClient.v a0_0 a0_1 a0_2 a0_3 a0_4 a0_5 a0_6).1)), (.s ((Pu.laws_toClient.v a0_0 a0_1 a0_2 a0_3 a0_4 a0_5 a0_6).2.1)), (.i .i64 ((Pu.laws_toClient.v a0_0 a0_1 a0_2 a0_3 a0_4 a0_5 a0_6).2.2.1)), (.i .i64 ((Pu.laws_toClient.v a0_0 a0_1 a0_2 a0_3 a0_4 a0_5 a0_6).2.2.2.1)), (.i .i64 ((Pu.laws_toClient.v a0_0 a0_1 a0_2 a0_3 a0_4 a0_5 a0_6).2.2.2.2.1)), (.s ((Pu.laws_toClient.v a0_0 a0_1 a0_2 a0_3 a0_4 a0_5 a0_6).2.2.2.2.2.1)), (.i .i64 ((Pu.laws_toClient.v a0_0 a0_1 a0_2 a0_3 a0_4 a0_5 a0_6).2.2.2.2.2.2))])], []⟩)
  | _ => none
theorem ok204 : FnOk Try.prog T 204 sp204 := by
  refine fn_ok (E := E204) hE call_nil hM Try.func204 (code := (Try.f204.body.getD .skip)) (by kernel_rfl) (by kernel_rfl) ?_
  have key : ∀ (a0_0 : Int) (a0_1 : ByteArray) (a0_2 : Int) (a0_3 : Int) (a0_4 : Int) (a0_5 : ByteArray) (a0_6 : Int), ∃ it : It Res, (∀ c ∈ loopsOf (Try.f204.body.getD .skip), LoopOk E204 it c) ∧ body E204 it Try.f204 [(.v true [(.i .i64 a0_0), (.s a0_1), (.i .i64 a0_2), (.i .i64 a0_3), (.i .i64 a0_4), (.s a0_5), (.i .i64 a0_6)])] = some ⟨[(.v true [(.i .i64 ((Pu.laws_toClient.v a0_0 a0_1 a0_2 a0_3 a0_4 a0_5 a0_6).1)), (.s ((Pu.laws_toClient.v a0_0 a0_1 a0_2 a0_3 a0_4 a0_5 a0_6).2.1)), (.i .i64 ((Pu.laws_toClient.v a0_0 a0_1 a0_2 a0_3 a0_4 a0_5 a0_6).2.2.1)), (.i .i64 ((Pu.laws_toClient.v a0_0 a0_1 a0_2 a0_3 a0_4 a0_5 a0_6).2.2.2.1)), (.i .i64 ((Pu.laws_toClient.v a0_0 a0_1 a0_2 a0_3 a0_4 a0_5 a0_6).2.2.2.2.1)), (.s ((Pu.laws_toClient.v a0_0 a0_1 a0_2 a0_3 a0_4 a0_5 a0_6).2.2.2.2.2.1)), (.i .i64 ((Pu.laws_toClient.v a0_0 a0_1 a0_2 a0_3 a0_4 a0_5 a0_6).2.2.2.2.2.2))])], []⟩ := by
    intro a0_0 a0_1 a0_2 a0_3 a0_4 a0_5 a0_6 
    have hN := Pu.laws_toClient.b_eq (R := Res) (fun r0 r1 r2 r3 r4 r5 r6 => some ⟨[(.v true [(.i .i64 r0), (.s r1), (.i .i64 r2), (.i .i64 r3), (.i .i64 r4), (.s r5), (.i .i64 r6)])], []⟩) a0_0 a0_1 a0_2 a0_3 a0_4 a0_5 a0_6
    have hl : loopsOf (Try.f204.body.getD .skip) = [] := by kernel_rfl
    refine ⟨iterN 0, by rw [hl]; exact loops_nil, ?_⟩
    refine Eq.trans (show body E204 (iterN 0) Try.f204 [(.v true [(.i .i64 a0_0), (.s a0_1), (.i .i64 a0_2), (.i .i64 a0_3), (.i .i64 a0_4), (.s a0_5), (.i .i64 a0_6)])] = Pu.laws_toClient.b (fun r0 r1 r2 r3 r4 r5 r6 => some ⟨[(.v true [(.i .i64 r0), (.s r1), (.i .i64 r2), (.i .i64 r3), (.i .i64 r4), (.s r5), (.i .i64 r6)])], []⟩) a0_0 a0_1 a0_2 a0_3 a0_4 a0_5 a0_6 by kernel_rfl) hN
  intro args r h
  unfold sp204 at h
  split at h
  · injection h with h
    injection h with h1 h2
    subst h2
    exact ⟨by kernel_rfl, fun hf => ⟨of_decide_eq_true (by kernel_rfl), key _ _ _ _ _ _ _⟩⟩
  · cases h

end Go.FG.Se

namespace Go.FG.Se
open Go.Proofs
def T127_0 (p0 : Row) (p1 : Int) (p2 : Row) : List (Nat × Cel) := [(0, (.v (.v false [(.sh 212 p0)]))), (6, (.v (.v false [(.own 0)]))), (8, (.v (.v false [(.i .i64 p1)]))), (1, (.o (.row 62 true p2)))]
def E127 : Env := { toTab := T, call := Go.FG.callIn [(204, sp204)], mode := Go.FG.modeIn md, keep := Go.FG.keepIn [(3, [0, 3, 4])], tk := fun n => Go.FG.memB n [], om := Go.FG.omIn [] }
def it127 (N : Nat) {R : Type} : It R := fun rid f cn L K => bif Nat.beq rid 3 then (tell [(0, (.v (.v false [(.sh 212 [])]))), (6, (.v (.v false [(.own 0)]))), (8, (.v (.v false [(.i .i64 0)]))), (1, (.o (.row 62 true [])))] (fun | [.R x0, .I x1, .R x2] => Pu.laws_toClientS.l3 N (fun y0 y1 y2 => (K (.exit 0) (tabl (T127_0 y0 y1 y2)))) N x0 x1 x2 | _ => none) L (none)) else none
theorem e127_3 {R : Type} (N : Nat) (K : Ex → St → Option R) : ∀ n : Nat, (∀ x0 x1 x2, iter (exc E127 (it127 N) (loopOf Try.f127 3)) (canon (E127.keep 3))  n (tabl (T127_0 x0 x1 x2)) K = Pu.laws_toClientS.l3 N (fun y0 y1 y2 => (K (.exit 0) (tabl (T127_0 y0 y1 y2)))) n x0 x1 x2) := by
  intro n
  induction n with
  | zero => exact (fun _ _ _ => rfl)
  | succ n ih =>
    have e0 : (fun x0 x1 x2 => iter (exc E127 (it127 N) (loopOf Try.f127 3)) (canon (E127.keep 3))  n (tabl (T127_0 x0 x1 x2)) K) = Pu.laws_toClientS.l3 N (fun y0 y1 y2 => (K (.exit 0) (tabl (T127_0 y0 y1 y2)))) n := by funext x0 x1 x2; exact ih x0 x1 x2
    intro x0 x1 x2
    have h : ∀ g, exc E127 (it127 N) (loopOf Try.f127 3) (tabl (T127_0 x0 x1 x2)) (iterK g (canon (E127.keep 3)) K) = Pu.laws_toClientS.r3 N (fun x0 x1 x2 => (g (tabl (T127_0 x0 x1 x2)))) (fun y0 y1 y2 => (K (.exit 0) (tabl (T127_0 y0 y1 y2)))) x0 x1 x2 := by intro g; kernel_rfl
    refine (iter_succ _ _ n _ K).trans ((h _).trans ?_)
    show Pu.laws_toClientS.r3 N (fun x0 x1 x2 => (iter (exc E127 (it127 N) (loopOf Try.f127 3)) (canon (E127.keep 3))  n (tabl (T127_0 x0 x1 x2)) K)) (fun y0 y1 y2 => (K (.exit 0) (tabl (T127_0 y0 y1 y2)))) x0 x1 x2 = _
    rw [e0]; rfl
theorem lo127_3 {R : Type} (N : Nat) : LoopOk E127 (it127 N (R := R)) (loopOf Try.f127 3) := by
  have e : firstRid (loopOf Try.f127 3) = 3 := by kernel_rfl
  intro L K r
  rw [e]
  intro h
  unfold it127 at h
  simp only [show Nat.beq 3 3 = true from rfl, cond_false, cond_true] at h
  refine tell_ok (Q := fun L => ∃ n, iter (exc E127 (it127 N) (loopOf Try.f127 3)) (canon (E127.keep 3)) n (tabl L) K = some r) h (fun xs h => ?_) (fun h => ?_)
  · (try dsimp only at h)
    split at h
    · exact ⟨N, ((e127_3 N K N) _ _ _).trans h⟩
    · cases h
  cases h
def sp127 : List Arg → Option (Bool × Res)
  | [(.v false [(.sh 212 a0)])] => some (Pu.laws_toClientS.c a0, ⟨[(.v false [(.ow 62 true (Pu.laws_toClientS.v a0))])], []⟩)
  | _ => none
theorem ok127 : FnOk Try.prog T 127 sp127 := by
  refine fn_ok (E := E127) hE (call_cons ok204 call_nil) hM Try.func127 (code := (Try.f127.body.getD .skip)) (by kernel_rfl) (by kernel_rfl) ?_
  have key : ∀ (a0 : Row), Pu.laws_toClientS.c a0 = true → ∃ it : It Res, (∀ c ∈ loopsOf (Try.f127.body.getD .skip), LoopOk E127 it c) ∧ body E127 it Try.f127 [(.v false [(.sh 212 a0)])] = some ⟨[(.v false [(.ow 62 true (Pu.laws_toClientS.v a0))])], []⟩ := by
    intro a0  h1
    obtain ⟨N, hN⟩ := Pu.laws_toClientS.b_eq (R := Res) (fun r0 => some ⟨[(.v false [(.ow 62 true r0)])], []⟩) a0 h1
    have hl : loopsOf (Try.f127.body.getD .skip) = [loopOf Try.f127 3] := by kernel_rfl
    refine ⟨it127 N, by rw [hl]; exact (loops_cons (lo127_3 N) loops_nil), ?_⟩
    refine Eq.trans (show body E127 (it127 N) Try.f127 [(.v false [(.sh 212 a0)])] = Pu.laws_toClientS.b N (fun r0 => some ⟨[(.v false [(.ow 62 true r0)])], []⟩) a0 by kernel_rfl) hN
  intro args r h
  unfold sp127 at h
  split at h
  · injection h with h
    injection h with h1 h2
    subst h2
    exact ⟨by kernel_rfl, fun hf => ⟨of_decide_eq_true (by kernel_rfl), key _ h1⟩⟩
  · cases h

end Go.FG.Se

namespace Go.FG.Se
open Go.Proofs
def E40 : Env := { toTab := T, call := Go.FG.callIn [(125, sp125), (33, sp33), (126, sp126), (127, sp127)], mode := Go.FG.modeIn md, keep := Go.FG.keepIn [], tk := fun n => Go.FG.memB n [], om := Go.FG.omIn [] }
def sp40 : List Arg → Option (Bool × Res)
  | [(.v true [(.i .i64 a0_0), (.sh 208 a0_1), (.sh 9 a0_2), (.sh 9 a0_3), (.sh 30 a0_4), (.i .i64 a0_5), (.sh 210 a0_6), (.sh 212 a0_7), (.i .i64 a0_8)])] => some (Pu.laws_toProxy.c a0_0 a0_1 a0_2 a0_3 a0_4 a0_5 a0_6 a0_7 a0_8, ⟨[(.v true [(.i .i64 ((Pu.laws_toProxy.v a0_0 a0_1 a0_2 a0_3 a0_4 a0_5 a0_6 a0_7 a0_8).1)), (.ow 86 true ((Pu.laws_toProxy.v a0_0 a0_1 a0_2 a0_3 a0_4 a0_5 a0_6 a0_7 a0_8).2.1)), (.ow 9 true ((Pu.laws_toProxy.v a0_0 a0_1 a0_2 a0_3 a0_4 a0_5 a0_6 a0_7 a0_8).2.2.1)), (.ow 9 true ((Pu.laws_toProxy.v a0_0 a0_1 a0_2 a0_3 a0_4 a0_5 a0_6 a0_7 a0_8).2.2.2.1)), (.ow 30 true ((Pu.laws_toProxy.v a0_0 a0_1 a0_2 a0_3 a0_4 a0_5 a0_6 a0_7 a0_8).2.2.2.2.1)), (.i .i64 ((Pu.laws_toProxy.v a0_0 a0_1 a0_2 a0_3 a0_4 a0_5 a0_6 a0_7 a0_8).2.2.2.2.2.1)), (.ow 126 true ((Pu.laws_toProxy.v a0_0 a0_1 a0_2 a0_3 a0_4 a0_5 a0_6 a0_7 a0_8).2.2.2.2.2.2.1)), (.ow 62 true ((Pu.laws_toProxy.v a0_0 a0_1 a0_2 a0_3 a0_4 a0_5 a0_6 a0_7 a0_8).2.2.2.2.2.2.2.1)), (.i .i64 ((Pu.laws_toProxy.v a0_0 a0_1 a0_2 a0_3 a0_4 a0_5 a0_6 a0_7 a0_8).2.2.2.2.2.2.2.2))])], []⟩)
  | _ => none
theorem ok40 : FnOk Try.prog T 40 sp40 := by
  refine fn_ok (E := E40) hE (call_cons ok125 (call_cons ok33 (call_cons ok126 (call_cons ok127 call_nil)))) hM Try.func40 (code := (Try.f40.body.getD .skip)) (by kernel_rfl) (by kernel_rfl) ?_
  have key : ∀ (a0_0 : Int) (a0_1 : Row) (a0_2 : Row) (a0_3 : Row) (a0_4 : Row) (a0_5 : Int) (a0_6 : Row) (a0_7 : Row) (a0_8 : Int), Pu.laws_toProxy.c a0_0 a0_1 a0_2 a0_3 a0_4 a0_5 a0_6 a0_7 a0_8 = true → ∃ it : It Res, (∀ c ∈ loopsOf (Try.f40.body.getD .skip), LoopOk E40 it c) ∧ body E40 it Try.f40 [(.v true [(.i .i64 a0_0), (.sh 208 a0_1), (.sh 9 a0_2), (.sh 9 a0_3), (.sh 30 a0_4), (.i .i64 a0_5), (.sh 210 a0_6), (.sh 212 a0_7), (.i .i64 a0_8)])] = some ⟨[(.v true [(.i .i64 ((Pu.laws_toProxy.v a0_0 a0_1 a0_2 a0_3 a0_4 a0_5 a0_6 a0_7 a0_8).1)), (.ow 86 true ((Pu.laws_toProxy.v a0_0 a0_1 a0_2 a0_3 a0_4 a0_5 a0_6 a0_7 a0_8).2.1)), (.ow 9 true ((Pu.laws_toProxy.v a0_0 a0_1 a0_2 a0_3 a0_4 a0_5 a0_6 a0_7 a0_8).2.2.1)), (.ow 9 true ((Pu.laws_toProxy.v a0_0 a0_1 a0_2 a0_3 a0_4 a0_5 a0_6 a0_7 a0_8).2.2.2.1)), (.ow 30 true ((Pu.laws_toProxy.v a0_0 a0_1 a0_2 a0_3 a0_4 a0_5 a0_6 a0_7 a0_8).2.2.2.2.1)), (.i .i64 ((Pu.laws_toProxy.v a0_0 a0_1 a0_2 a0_3 a0_4 a0_5 a0_6 a0_7 a0_8).2.2.2.2.2.1)), (.ow 126 true ((Pu.laws_toProxy.v a0_0 a0_1 a0_2 a0_3 a0_4 a0_5 a0_6 a0_7 a0_8).2.2.2.2.2.2.1)), (.ow 62 true ((Pu.laws_toProxy.v a0_0 a0_1 a0_2 a0_3 a0_4 a0_5 a0_6 a0_7 a0_8).2.2.2.2.2.2.2.1)), (.i .i64 ((Pu.laws_toProxy.v a0_0 a0_1 a0_2 a0_3 a0_4 a0_5 a0_6 a0_7 a0_8).2.2.2.2.2.2.2.2))])], []⟩ := by
    intro a0_0 a0_1 a0_2 a0_3 a0_4 a0_5 a0_6 a0_7 a0_8  h1
    have hN := Pu.laws_toProxy.b_eq (R := Res) (fun r0 r1 r2 r3 r4 r5 r6 r7 r8 => some ⟨[(.v true [(.i .i64 r0), (.ow 86 true r1), (.ow 9 true r2), (.ow 9 true r3), (.ow 30 true r4), (.i .i64 r5), (.ow 126 true r6), (.ow 62 true r7), (.i .i64 r8)])], []⟩) a0_0 a0_1 a0_2 a0_3 a0_4 a0_5 a0_6 a0_7 a0_8 h1
    have hl : loopsOf (Try.f40.body.getD .skip) = [] := by kernel_rfl
    refine ⟨iterN 0, by rw [hl]; exact loops_nil, ?_⟩
    refine Eq.trans (show body E40 (iterN 0) Try.f40 [(.v true [(.i .i64 a0_0), (.sh 208 a0_1), (.sh 9 a0_2), (.sh 9 a0_3), (.sh 30 a0_4), (.i .i64 a0_5), (.sh 210 a0_6), (.sh 212 a0_7), (.i .i64 a0_8)])] = Pu.laws_toProxy.b (fun r0 r1 r2 r3 r4 r5 r6 r7 r8 => some ⟨[(.v true [(.i .i64 r0), (.ow 86 true r1), (.ow 9 true r2), (.ow 9 true r3), (.ow 30 true r4), (.i .i64 r5), (.ow 126 true r6), (.ow 62 true r7), (.i .i64 r8)])], []⟩) a0_0 a0_1 a0_2 a0_3 a0_4 a0_5 a0_6 a0_7 a0_8 by kernel_rfl) hN
  intro args r h
  unfold sp40 at h
  split at h
  · injection h with h
    injection h with h1 h2
    subst h2
    exact ⟨by kernel_rfl, fun hf => ⟨of_decide_eq_true (by kernel_rfl), key _ _ _ _ _ _ _ _ _ h1⟩⟩
  · cases h

end Go.FG.Se

namespace Go.FG.Se
open Go.Proofs
def E122 : Env := { toTab := T, call := Go.FG.callIn [], mode := Go.FG.modeIn md, keep := Go.FG.keepIn [], tk := fun n => Go.FG.memB n [], om := Go.FG.omIn [] }
def sp122 : List Arg → Option (Bool × Res)
  | [(.v false [(.i .i64 x0)]), (.v false [(.i .i64 least1)]), (.v false [(.i .i64 most2)])] => some (true, ⟨[(.v false [(.b (Pu.spec_l01In.v x0 least1 most2))])], []⟩)
  | _ => none
theorem ok122 : FnOk Try.prog T 122 sp122 := by
  refine fn_ok (E := E122) hE call_nil hM Try.func122 (code := (Try.f122.body.getD .skip)) (by kernel_rfl) (by kernel_rfl) ?_
  have key : ∀ (x0 : Int) (least1 : Int) (most2 : Int), ∃ it : It Res, (∀ c ∈ loopsOf (Try.f122.body.getD .skip), LoopOk E122 it c) ∧ body E122 it Try.f122 [(.v false [(.i .i64 x0)]), (.v false [(.i .i64 least1)]), (.v false [(.i .i64 most2)])] = some ⟨[(.v false [(.b (Pu.spec_l01In.v x0 least1 most2))])], []⟩ := by
    intro x0 least1 most2 
    have hN := Pu.spec_l01In.b_eq (R := Res) (fun r0 => some ⟨[(.v false [(.b r0)])], []⟩) x0 least1 most2
    have hl : loopsOf (Try.f122.body.getD .skip) = [] := by kernel_rfl
    refine ⟨iterN 0, by rw [hl]; exact loops_nil, ?_⟩
    refine Eq.trans (show body E122 (iterN 0) Try.f122 [(.v false [(.i .i64 x0)]), (.v false [(.i .i64 least1)]), (.v false [(.i .i64 most2)])] = Pu.spec_l01In.b (fun r0 => some ⟨[(.v false [(.b r0)])], []⟩) x0 least1 most2 by kernel_rfl) hN
  intro args r h
  unfold sp122 at h
  split at h
  · injection h with h
    injection h with h1 h2
    subst h2
    exact ⟨by kernel_rfl, fun hf => ⟨of_decide_eq_true (by kernel_rfl), key _ _ _⟩⟩
  · cases h

end Go.FG.Se

namespace Go.FG.Se
open Go.Proofs
def E101 : Env := { toTab := T, call := Go.FG.callIn [(122, sp122)], mode := Go.FG.modeIn md, keep := Go.FG.keepIn [], tk := fun n => Go.FG.memB n [], om := Go.FG.omIn [] }
def sp101 : List Arg → Option (Bool × Res)
  | [(.v false [(.s s0)])] => some (true, ⟨[(.v false [(.b (Pu.spec_l13Key.v s0))])], []⟩)
  | _ => none
theorem ok101 : FnOk Try.prog T 101 sp101 := by
  refine fn_ok (E := E101) hE (call_cons ok122 call_nil) hM Try.func101 (code := (Try.f101.body.getD .skip)) (by kernel_rfl) (by kernel_rfl) ?_
  have key : ∀ (s0 : ByteArray), ∃ it : It Res, (∀ c ∈ loopsOf (Try.f101.body.getD .skip), LoopOk E101 it c) ∧ body E101 it Try.f101 [(.v false [(.s s0)])] = some ⟨[(.v false [(.b (Pu.spec_l13Key.v s0))])], []⟩ := by
    intro s0 
    have hN := Pu.spec_l13Key.b_eq (R := Res) (fun r0 => some ⟨[(.v false [(.b r0)])], []⟩) s0
    have hl : loopsOf (Try.f101.body.getD .skip) = [] := by kernel_rfl
    refine ⟨iterN 0, by rw [hl]; exact loops_nil, ?_⟩
    refine Eq.trans (show body E101 (iterN 0) Try.f101 [(.v false [(.s s0)])] = Pu.spec_l13Key.b (fun r0 => some ⟨[(.v false [(.b r0)])], []⟩) s0 by kernel_rfl) hN
  intro args r h
  unfold sp101 at h
  split at h
  · injection h with h
    injection h with h1 h2
    subst h2
    exact ⟨by kernel_rfl, fun hf => ⟨of_decide_eq_true (by kernel_rfl), key _⟩⟩
  · cases h

end Go.FG.Se

namespace Go.FG.Se
open Go.Proofs
def E149 : Env := { toTab := T, call := Go.FG.callIn [(101, sp101), (122, sp122)], mode := Go.FG.modeIn md, keep := Go.FG.keepIn [], tk := fun n => Go.FG.memB n [], om := Go.FG.omIn [] }
def sp149 : List Arg → Option (Bool × Res)
  | [(.v true [(.s e0_0), (.i .i64 e0_1), (.i .i64 e0_2), (.s e0_3)])] => some (true, ⟨[(.v false [(.b (Pu.spec_EntryOk.v e0_0 e0_1 e0_2 e0_3))])], []⟩)
  | _ => none
theorem ok149 : FnOk Try.prog T 149 sp149 := by
  refine fn_ok (E := E149) hE (call_cons ok101 (call_cons ok122 call_nil)) hM Try.func149 (code := (Try.f149.body.getD .skip)) (by kernel_rfl) (by kernel_rfl) ?_
  have key : ∀ (e0_0 : ByteArray) (e0_1 : Int) (e0_2 : Int) (e0_3 : ByteArray), ∃ it : It Res, (∀ c ∈ loopsOf (Try.f149.body.getD .skip), LoopOk E149 it c) ∧ body E149 it Try.f149 [(.v true [(.s e0_0), (.i .i64 e0_1), (.i .i64 e0_2), (.s e0_3)])] = some ⟨[(.v false [(.b (Pu.spec_EntryOk.v e0_0 e0_1 e0_2 e0_3))])], []⟩ := by
    intro e0_0 e0_1 e0_2 e0_3 
    have hN := Pu.spec_EntryOk.b_eq (R := Res) (fun r0 => some ⟨[(.v false [(.b r0)])], []⟩) e0_0 e0_1 e0_2 e0_3
    have hl : loopsOf (Try.f149.body.getD .skip) = [] := by kernel_rfl
    refine ⟨iterN 0, by rw [hl]; exact loops_nil, ?_⟩
    refine Eq.trans (show body E149 (iterN 0) Try.f149 [(.v true [(.s e0_0), (.i .i64 e0_1), (.i .i64 e0_2), (.s e0_3)])] = Pu.spec_EntryOk.b (fun r0 => some ⟨[(.v false [(.b r0)])], []⟩) e0_0 e0_1 e0_2 e0_3 by kernel_rfl) hN
  intro args r h
  unfold sp149 at h
  split at h
  · injection h with h
    injection h with h1 h2
    subst h2
    exact ⟨by kernel_rfl, fun hf => ⟨of_decide_eq_true (by kernel_rfl), key _ _ _ _⟩⟩
  · cases h

end Go.FG.Se

namespace Go.FG.Se
open Go.Proofs
def T103_0 (p0 : Row) (p1 : ByteArray) (p2 : Bool) (p3 : Int) : List (Nat × Cel) := [(0, (.v (.v false [(.sh 9 p0)]))), (2, (.v (.v false [(.s p1)]))), (8, (.v (.v false [(.b p2)]))), (10, (.v (.v false [(.i .i64 p3)])))]
def E103 : Env := { toTab := T, call := Go.FG.callIn [], mode := Go.FG.modeIn md, keep := Go.FG.keepIn [(2, [0, 1, 4, 5])], tk := fun n => Go.FG.memB n [], om := Go.FG.omIn [] }
def it103 (N : Nat) {R : Type} : It R := fun rid f cn L K => bif Nat.beq rid 2 then (tell [(0, (.v (.v false [(.sh 9 [])]))), (2, (.v (.v false [(.s ⟨#[]⟩)]))), (8, (.v (.v false [(.b false)]))), (10, (.v (.v false [(.i .i64 0)])))] (fun | [.R x0, .S x1, .B x2, .I x3] => Pu.spec_l13In.l2 N (fun y0 y1 y2 y3 => (K .ret (tabl (T103_0 y0 y1 y2 y3)))) (fun y0 y1 y2 y3 => (K (.exit 0) (tabl (T103_0 y0 y1 y2 y3)))) N x0 x1 x2 x3 | _ => none) L (none)) else none
theorem e103_2 {R : Type} (N : Nat) (K : Ex → St → Option R) : ∀ n : Nat, (∀ x0 x1 x2 x3, iter (exc E103 (it103 N) (loopOf Try.f103 2)) (canon (E103.keep 2))  n (tabl (T103_0 x0 x1 x2 x3)) K = Pu.spec_l13In.l2 N (fun y0 y1 y2 y3 => (K .ret (tabl (T103_0 y0 y1 y2 y3)))) (fun y0 y1 y2 y3 => (K (.exit 0) (tabl (T103_0 y0 y1 y2 y3)))) n x0 x1 x2 x3) := by
  intro n
  induction n with
  | zero => exact (fun _ _ _ _ => rfl)
  | succ n ih =>
    have e0 : (fun x0 x1 x2 x3 => iter (exc E103 (it103 N) (loopOf Try.f103 2)) (canon (E103.keep 2))  n (tabl (T103_0 x0 x1 x2 x3)) K) = Pu.spec_l13In.l2 N (fun y0 y1 y2 y3 => (K .ret (tabl (T103_0 y0 y1 y2 y3)))) (fun y0 y1 y2 y3 => (K (.exit 0) (tabl (T103_0 y0 y1 y2 y3)))) n := by funext x0 x1 x2 x3; exact ih x0 x1 x2 x3
    intro x0 x1 x2 x3
    have h : ∀ g, exc E103 (it103 N) (loopOf Try.f103 2) (tabl (T103_0 x0 x1 x2 x3)) (iterK g (canon (E103.keep 2)) K) = Pu.spec_l13In.r2 N (fun x0 x1 x2 x3 => (g (tabl (T103_0 x0 x1 x2 x3)))) (fun y0 y1 y2 y3 => (K .ret (tabl (T103_0 y0 y1 y2 y3)))) (fun y0 y1 y2 y3 => (K (.exit 0) (tabl (T103_0 y0 y1 y2 y3)))) x0 x1 x2 x3 := by intro g; kernel_rfl
    refine (iter_succ _ _ n _ K).trans ((h _).trans ?_)
    show Pu.spec_l13In.r2 N (fun x0 x1 x2 x3 => (iter (exc E103 (it103 N) (loopOf Try.f103 2)) (canon (E103.keep 2))  n (tabl (T103_0 x0 x1 x2 x3)) K)) (fun y0 y1 y2 y3 => (K .ret (tabl (T103_0 y0 y1 y2 y3)))) (fun y0 y1 y2 y3 => (K (.exit 0) (tabl (T103_0 y0 y1 y2 y3)))) x0 x1 x2 x3 = _
    rw [e0]; rfl
theorem lo103_2 {R : Type} (N : Nat) : LoopOk E103 (it103 N (R := R)) (loopOf Try.f103 2) := by
  have e : firstRid (loopOf Try.f103 2) = 2 := by kernel_rfl
  intro L K r
  rw [e]
  intro h
  unfold it103 at h
  simp only [show Nat.beq 2 2 = true from rfl, cond_false, cond_true] at h
  refine tell_ok (Q := fun L => ∃ n, iter (exc E103 (it103 N) (loopOf Try.f103 2)) (canon (E103.keep 2)) n (tabl L) K = some r) h (fun xs h => ?_) (fun h => ?_)
  · (try dsimp only at h)
    split at h
    · exact ⟨N, ((e103_2 N K N) _ _ _ _).trans h⟩
    · cases h
  cases h
def sp103 : List Arg → Option (Bool × Res)
  | [(.v false [(.sh 9 list0)]), (.v false [(.s s1)])] => some (Pu.spec_l13In.c list0 s1, ⟨[(.v false [(.b (Pu.spec_l13In.v list0 s1))])], []⟩)
  | _ => none
theorem ok103 : FnOk Try.prog T 103 sp103 := by
  refine fn_ok (E := E103) hE call_nil hM Try.func103 (code := (Try.f103.body.getD .skip)) (by kernel_rfl) (by kernel_rfl) ?_
  have key : ∀ (list0 : Row) (s1 : ByteArray), Pu.spec_l13In.c list0 s1 = true → ∃ it : It Res, (∀ c ∈ loopsOf (Try.f103.body.getD .skip), LoopOk E103 it c) ∧ body E103 it Try.f103 [(.v false [(.sh 9 list0)]), (.v false [(.s s1)])] = some ⟨[(.v false [(.b (Pu.spec_l13In.v list0 s1))])], []⟩ := by
    intro list0 s1  h1
    obtain ⟨N, hN⟩ := Pu.spec_l13In.b_eq (R := Res) (fun r0 => some ⟨[(.v false [(.b r0)])], []⟩) list0 s1 h1
    have hl : loopsOf (Try.f103.body.getD .skip) = [loopOf Try.f103 2] := by kernel_rfl
    refine ⟨it103 N, by rw [hl]; exact (loops_cons (lo103_2 N) loops_nil), ?_⟩
    refine Eq.trans (show body E103 (it103 N) Try.f103 [(.v false [(.sh 9 list0)]), (.v false [(.s s1)])] = Pu.spec_l13In.b N (fun r0 => some ⟨[(.v false [(.b r0)])], []⟩) list0 s1 by kernel_rfl) hN
  intro args r h
  unfold sp103 at h
  split at h
  · injection h with h
    injection h with h1 h2
    subst h2
    exact ⟨by kernel_rfl, fun hf => ⟨of_decide_eq_true (by kernel_rfl), key _ _ h1⟩⟩
  · cases h

end Go.FG.Se

namespace Go.FG.Se
open Go.Proofs
def E201 : Env := { toTab := T, call := Go.FG.callIn [(103, sp103)], mode := Go.FG.modeIn md, keep := Go.FG.keepIn [], tk := fun n => Go.FG.memB n [], om := Go.FG.omIn [] }
def sp201 : List Arg → Option (Bool × Res)
  | [(.v true [(.sh 9 p0_0), (.sh 9 p0_1), (.sh 30 p0_2), (.i .i64 p0_3)]), (.v false [(.s key1)])] => some (Pu.spec_PolicyHas.c p0_0 p0_1 p0_2 p0_3 key1, ⟨[(.v false [(.b (Pu.spec_PolicyHas.v p0_0 p0_1 p0_2 p0_3 key1))])], []⟩)
  | _ => none
theorem ok201 : FnOk Try.prog T 201 sp201 := by
  refine fn_ok (E := E201) hE (call_cons ok103 call_nil) hM Try.func201 (code := (Try.f201.body.getD .skip)) (by kernel_rfl) (by kernel_rfl) ?_
  have key : ∀ (p0_0 : Row) (p0_1 : Row) (p0_2 : Row) (p0_3 : Int) (key1 : ByteArray), Pu.spec_PolicyHas.c p0_0 p0_1 p0_2 p0_3 key1 = true → ∃ it : It Res, (∀ c ∈ loopsOf (Try.f201.body.getD .skip), LoopOk E201 it c) ∧ body E201 it Try.f201 [(.v true [(.sh 9 p0_0), (.sh 9 p0_1), (.sh 30 p0_2), (.i .i64 p0_3)]), (.v false [(.s key1)])] = some ⟨[(.v false [(.b (Pu.spec_PolicyHas.v p0_0 p0_1 p0_2 p0_3 key1))])], []⟩ := by
    intro p0_0 p0_1 p0_2 p0_3 key1  h1
    have hN := Pu.spec_PolicyHas.b_eq (R := Res) (fun r0 => some ⟨[(.v false [(.b r0)])], []⟩) p0_0 p0_1 p0_2 p0_3 key1 h1
    have hl : loopsOf (Try.f201.body.getD .skip) = [] := by kernel_rfl
    refine ⟨iterN 0, by rw [hl]; exact loops_nil, ?_⟩
    refine Eq.trans (show body E201 (iterN 0) Try.f201 [(.v true [(.sh 9 p0_0), (.sh 9 p0_1), (.sh 30 p0_2), (.i .i64 p0_3)]), (.v false [(.s key1)])] = Pu.spec_PolicyHas.b (fun r0 => some ⟨[(.v false [(.b r0)])], []⟩) p0_0 p0_1 p0_2 p0_3 key1 by kernel_rfl) hN
  intro args r h
  unfold sp201 at h
  split at h
  · injection h with h
    injection h with h1 h2
    subst h2
    exact ⟨by kernel_rfl, fun hf => ⟨of_decide_eq_true (by kernel_rfl), key _ _ _ _ _ h1⟩⟩
  · cases h

end Go.FG.Se

namespace Go.FG.Se
open Go.Proofs
def T187_0 (p0 : Bool) (p1 : Int) (p2 : Row) (p3 : Int) : List (Nat × Cel) := [(2, (.v (.v false [(.bp 0 0)]))), (4, (.v (.v false [(.b p0)]))), (6, (.v (.v false [(.i .i64 p1)]))), (1, (.o (.box [(.sh 30 p2), (.i .i64 p3)])))]
def T187_1 (p0 : Bool) (p1 : Int) (p2 : Int) (p3 : Row) (p4 : Int) : List (Nat × Cel) := [(2, (.v (.v false [(.bp 0 0)]))), (4, (.v (.v false [(.b p0)]))), (6, (.v (.v false [(.i .i64 p1)]))), (8, (.v (.v false [(.i .i64 p2)]))), (1, (.o (.box [(.sh 30 p3), (.i .i64 p4)])))]
def E187 : Env := { toTab := T, call := Go.FG.callIn [(122, sp122)], mode := Go.FG.modeIn md, keep := Go.FG.keepIn [(4, [1, 2, 3]), (9, [1, 2, 3, 4])], tk := fun n => Go.FG.memB n [], om := Go.FG.omIn [] }
def it187 (N : Nat) {R : Type} : It R := fun rid f cn L K => bif Nat.beq rid 4 then (tell [(2, (.v (.v false [(.bp 0 0)]))), (4, (.v (.v false [(.b false)]))), (6, (.v (.v false [(.i .i64 0)]))), (1, (.o (.box [(.sh 30 []), (.i .i64 0)])))] (fun | [.B x0, .I x1, .R x2, .I x3] => Pu.spec_SketchOk.l4 N (fun y0 y1 y2 y3 => (K .ret (tabl (T187_0 y0 y1 y2 y3)))) (fun y0 y1 y2 y3 => (K (.exit 0) (tabl (T187_0 y0 y1 y2 y3)))) N x0 x1 x2 x3 | _ => none) L (none)) else bif Nat.beq rid 9 then (tell [(2, (.v (.v false [(.bp 0 0)]))), (4, (.v (.v false [(.b false)]))), (6, (.v (.v false [(.i .i64 0)]))), (8, (.v (.v false [(.i .i64 0)]))), (1, (.o (.box [(.sh 30 []), (.i .i64 0)])))] (fun | [.B x4, .I x5, .I x6, .R x7, .I x8] => Pu.spec_SketchOk.l9 N (fun y0 y1 y2 y3 y4 => (K .ret (tabl (T187_1 y0 y1 y2 y3 y4)))) (fun y0 y1 y2 y3 y4 => (K (.exit 2) (tabl (T187_1 y0 y1 y2 y3 y4)))) N x4 x5 x6 x7 x8 | _ => none) L (none)) else none
theorem e187_4 {R : Type} (N : Nat) (K : Ex → St → Option R) : ∀ n : Nat, (∀ x0 x1 x2 x3, iter (exc E187 (it187 N) (loopOf Try.f187 4)) (canon (E187.keep 4))  n (tabl (T187_0 x0 x1 x2 x3)) K = Pu.spec_SketchOk.l4 N (fun y0 y1 y2 y3 => (K .ret (tabl (T187_0 y0 y1 y2 y3)))) (fun y0 y1 y2 y3 => (K (.exit 0) (tabl (T187_0 y0 y1 y2 y3)))) n x0 x1 x2 x3) := by
  intro n
  induction n with
  | zero => exact (fun _ _ _ _ => rfl)
  | succ n ih =>
    have e0 : (fun x0 x1 x2 x3 => iter (exc E187 (it187 N) (loopOf Try.f187 4)) (canon (E187.keep 4))  n (tabl (T187_0 x0 x1 x2 x3)) K) = Pu.spec_SketchOk.l4 N (fun y0 y1 y2 y3 => (K .ret (tabl (T187_0 y0 y1 y2 y3)))) (fun y0 y1 y2 y3 => (K (.exit 0) (tabl (T187_0 y0 y1 y2 y3)))) n := by funext x0 x1 x2 x3; exact ih x0 x1 x2 x3
    intro x0 x1 x2 x3
    have h : ∀ g, exc E187 (it187 N) (loopOf Try.f187 4) (tabl (T187_0 x0 x1 x2 x3)) (iterK g (canon (E187.keep 4)) K) = Pu.spec_SketchOk.r4 N (fun x0 x1 x2 x3 => (g (tabl (T187_0 x0 x1 x2 x3)))) (fun y0 y1 y2 y3 => (K .ret (tabl (T187_0 y0 y1 y2 y3)))) (fun y0 y1 y2 y3 => (K (.exit 0) (tabl (T187_0 y0 y1 y2 y3)))) x0 x1 x2 x3 := by intro g; kernel_rfl
    refine (iter_succ _ _ n _ K).trans ((h _).trans ?_)
    show Pu.spec_SketchOk.r4 N (fun x0 x1 x2 x3 => (iter (exc E187 (it187 N) (loopOf Try.f187 4)) (canon (E187.keep 4))  n (tabl (T187_0 x0 x1 x2 x3)) K)) (fun y0 y1 y2 y3 => (K .ret (tabl (T187_0 y0 y1 y2 y3)))) (fun y0 y1 y2 y3 => (K (.exit 0) (tabl (T187_0 y0 y1 y2 y3)))) x0 x1 x2 x3 = _
    rw [e0]; rfl
theorem lo187_4 {R : Type} (N : Nat) : LoopOk E187 (it187 N (R := R)) (loopOf Try.f187 4) := by
  have e : firstRid (loopOf Try.f187 4) = 4 := by kernel_rfl
  intro L K r
  rw [e]
  intro h
  unfold it187 at h
  simp only [show Nat.beq 4 4 = true from rfl, cond_false, cond_true] at h
  refine tell_ok (Q := fun L => ∃ n, iter (exc E187 (it187 N) (loopOf Try.f187 4)) (canon (E187.keep 4)) n (tabl L) K = some r) h (fun xs h => ?_) (fun h => ?_)
  · (try dsimp only at h)
    split at h
    · exact ⟨N, ((e187_4 N K N) _ _ _ _).trans h⟩
    · cases h
  cases h
theorem e187_9 {R : Type} (N : Nat) (K : Ex → St → Option R) : ∀ n : Nat, (∀ x4 x5 x6 x7 x8, iter (exc E187 (it187 N) (loopOf Try.f187 9)) (canon (E187.keep 9))  n (tabl (T187_1 x4 x5 x6 x7 x8)) K = Pu.spec_SketchOk.l9 N (fun y0 y1 y2 y3 y4 => (K .ret (tabl (T187_1 y0 y1 y2 y3 y4)))) (fun y0 y1 y2 y3 y4 => (K (.exit 2) (tabl (T187_1 y0 y1 y2 y3 y4)))) n x4 x5 x6 x7 x8) := by
  intro n
  induction n with
  | zero => exact (fun _ _ _ _ _ => rfl)
  | succ n ih =>
    have e0 : (fun x4 x5 x6 x7 x8 => iter (exc E187 (it187 N) (loopOf Try.f187 9)) (canon (E187.keep 9))  n (tabl (T187_1 x4 x5 x6 x7 x8)) K) = Pu.spec_SketchOk.l9 N (fun y0 y1 y2 y3 y4 => (K .ret (tabl (T187_1 y0 y1 y2 y3 y4)))) (fun y0 y1 y2 y3 y4 => (K (.exit 2) (tabl (T187_1 y0 y1 y2 y3 y4)))) n := by funext x4 x5 x6 x7 x8; exact ih x4 x5 x6 x7 x8
    intro x4 x5 x6 x7 x8
    have h : ∀ g, exc E187 (it187 N) (loopOf Try.f187 9) (tabl (T187_1 x4 x5 x6 x7 x8)) (iterK g (canon (E187.keep 9)) K) = Pu.spec_SketchOk.r9 N (fun x4 x5 x6 x7 x8 => (g (tabl (T187_1 x4 x5 x6 x7 x8)))) (fun y0 y1 y2 y3 y4 => (K .ret (tabl (T187_1 y0 y1 y2 y3 y4)))) (fun y0 y1 y2 y3 y4 => (K (.exit 2) (tabl (T187_1 y0 y1 y2 y3 y4)))) x4 x5 x6 x7 x8 := by intro g; kernel_rfl
    refine (iter_succ _ _ n _ K).trans ((h _).trans ?_)
    show Pu.spec_SketchOk.r9 N (fun x4 x5 x6 x7 x8 => (iter (exc E187 (it187 N) (loopOf Try.f187 9)) (canon (E187.keep 9))  n (tabl (T187_1 x4 x5 x6 x7 x8)) K)) (fun y0 y1 y2 y3 y4 => (K .ret (tabl (T187_1 y0 y1 y2 y3 y4)))) (fun y0 y1 y2 y3 y4 => (K (.exit 2) (tabl (T187_1 y0 y1 y2 y3 y4)))) x4 x5 x6 x7 x8 = _
    rw [e0]; rfl
theorem lo187_9 {R : Type} (N : Nat) : LoopOk E187 (it187 N (R := R)) (loopOf Try.f187 9) := by
  have e : firstRid (loopOf Try.f187 9) = 9 := by kernel_rfl
  intro L K r
  rw [e]
  intro h
  unfold it187 at h
  simp only [show Nat.beq 9 4 = false from rfl, show Nat.beq 9 9 = true from rfl, cond_false, cond_true] at h
  refine tell_ok (Q := fun L => ∃ n, iter (exc E187 (it187 N) (loopOf Try.f187 9)) (canon (E187.keep 9)) n (tabl L) K = some r) h (fun xs h => ?_) (fun h => ?_)
  · (try dsimp only at h)
    split at h
    · exact ⟨N, ((e187_9 N K N) _ _ _ _ _).trans h⟩
    · cases h
  cases h
def sp187 : List Arg → Option (Bool × Res)
  | [(.v true [(.sh 30 s0_0), (.i .i64 s0_1)])] => some (Pu.spec_SketchOk.c s0_0 s0_1, ⟨[(.v false [(.b (Pu.spec_SketchOk.v s0_0 s0_1))])], []⟩)
  | _ => none
theorem ok187 : FnOk Try.prog T 187 sp187 := by
  refine fn_ok (E := E187) hE (call_cons ok122 call_nil) hM Try.func187 (code := (Try.f187.body.getD .skip)) (by kernel_rfl) (by kernel_rfl) ?_
  have key : ∀ (s0_0 : Row) (s0_1 : Int), Pu.spec_SketchOk.c s0_0 s0_1 = true → ∃ it : It Res, (∀ c ∈ loopsOf (Try.f187.body.getD .skip), LoopOk E187 it c) ∧ body E187 it Try.f187 [(.v true [(.sh 30 s0_0), (.i .i64 s0_1)])] = some ⟨[(.v false [(.b (Pu.spec_SketchOk.v s0_0 s0_1))])], []⟩ := by
    intro s0_0 s0_1  h1
    obtain ⟨N, hN⟩ := Pu.spec_SketchOk.b_eq (R := Res) (fun r0 => some ⟨[(.v false [(.b r0)])], []⟩) s0_0 s0_1 h1
    have hl : loopsOf (Try.f187.body.getD .skip) = [loopOf Try.f187 4, loopOf Try.f187 9] := by kernel_rfl
    refine ⟨it187 N, by rw [hl]; exact (loops_cons (lo187_4 N) (loops_cons (lo187_9 N) loops_nil)), ?_⟩
    refine Eq.trans (show body E187 (it187 N) Try.f187 [(.v true [(.sh 30 s0_0), (.i .i64 s0_1)])] = Pu.spec_SketchOk.b N (fun r0 => some ⟨[(.v false [(.b r0)])], []⟩) s0_0 s0_1 by kernel_rfl) hN
  intro args r h
  unfold sp187 at h
  split at h
  · injection h with h
    injection h with h1 h2
    subst h2
    exact ⟨by kernel_rfl, fun hf => ⟨of_decide_eq_true (by kernel_rfl), key _ _ h1⟩⟩
  · cases h

end Go.FG.Se

namespace Go.FG.Se
open Go.Proofs
def T100_0 (p0 : Bool) (p1 : Int) (p2 : Row) (p3 : Row) (p4 : Row) (p5 : Int) (p6 : Row) : List (Nat × Cel) := [(2, (.v (.v false [(.bp 0 0)]))), (4, (.v (.v false [(.b p0)]))), (6, (.v (.v false [(.own 1)]))), (8, (.v (.v false [(.i .i64 p1)]))), (1, (.o (.box [(.sh 9 p2), (.sh 9 p3), (.sh 30 p4), (.i .i64 p5)]))), (3, (.o (.row 9 true p6)))]
def E100 : Env := { toTab := T, call := Go.FG.callIn [(101, sp101), (103, sp103), (187, sp187)], mode := Go.FG.modeIn md, keep := Go.FG.keepIn [(3, [1, 2, 3, 4])], tk := fun n => Go.FG.memB n [], om := Go.FG.omIn [] }
def it100 (N : Nat) {R : Type} : It R := fun rid f cn L K => bif Nat.beq rid 3 then (tell [(2, (.v (.v false [(.bp 0 0)]))), (4, (.v (.v false [(.b false)]))), (6, (.v (.v false [(.own 1)]))), (8, (.v (.v false [(.i .i64 0)]))), (1, (.o (.box [(.sh 9 []), (.sh 9 []), (.sh 30 []), (.i .i64 0)]))), (3, (.o (.row 9 true [])))] (fun | [.B x0, .I x1, .R x2, .R x3, .R x4, .I x5, .R x6] => Pu.spec_PolicyOk.l3 N (fun y0 y1 y2 y3 y4 y5 y6 => (K .ret (tabl (T100_0 y0 y1 y2 y3 y4 y5 y6)))) (fun y0 y1 y2 y3 y4 y5 y6 => (K (.exit 0) (tabl (T100_0 y0 y1 y2 y3 y4 y5 y6)))) N x0 x1 x2 x3 x4 x5 x6 | _ => none) L (none)) else none
theorem e100_3 {R : Type} (N : Nat) (K : Ex → St → Option R) : ∀ n : Nat, (∀ x0 x1 x2 x3 x4 x5 x6, iter (exc E100 (it100 N) (loopOf Try.f100 3)) (canon (E100.keep 3))  n (tabl (T100_0 x0 x1 x2 x3 x4 x5 x6)) K = Pu.spec_PolicyOk.l3 N (fun y0 y1 y2 y3 y4 y5 y6 => (K .ret (tabl (T100_0 y0 y1 y2 y3 y4 y5 y6)))) (fun y0 y1 y2 y3 y4 y5 y6 => (K (.exit 0) (tabl (T100_0 y0 y1 y2 y3 y4 y5 y6)))) n x0 x1 x2 x3 x4 x5 x6) := by
  intro n
  induction n with
  | zero => exact (fun _ _ _ _ _ _ _ => rfl)
  | succ n ih =>
    have e0 : (fun x0 x1 x2 x3 x4 x5 x6 => iter (exc E100 (it100 N) (loopOf Try.f100 3)) (canon (E100.keep 3))  n (tabl (T100_0 x0 x1 x2 x3 x4 x5 x6)) K) = Pu.spec_PolicyOk.l3 N (fun y0 y1 y2 y3 y4 y5 y6 => (K .ret (tabl (T100_0 y0 y1 y2 y3 y4 y5 y6)))) (fun y0 y1 y2 y3 y4 y5 y6 => (K (.exit 0) (tabl (T100_0 y0 y1 y2 y3 y4 y5 y6)))) n := by funext x0 x1 x2 x3 x4 x5 x6; exact ih x0 x1 x2 x3 x4 x5 x6
    intro x0 x1 x2 x3 x4 x5 x6
    have h : ∀ g, exc E100 (it100 N) (loopOf Try.f100 3) (tabl (T100_0 x0 x1 x2 x3 x4 x5 x6)) (iterK g (canon (E100.keep 3)) K) = Pu.spec_PolicyOk.r3 N (fun x0 x1 x2 x3 x4 x5 x6 => (g (tabl (T100_0 x0 x1 x2 x3 x4 x5 x6)))) (fun y0 y1 y2 y3 y4 y5 y6 => (K .ret (tabl (T100_0 y0 y1 y2 y3 y4 y5 y6)))) (fun y0 y1 y2 y3 y4 y5 y6 => (K (.exit 0) (tabl (T100_0 y0 y1 y2 y3 y4 y5 y6)))) x0 x1 x2 x3 x4 x5 x6 := by intro g; kernel_rfl
    refine (iter_succ _ _ n _ K).trans ((h _).trans ?_)
    show Pu.spec_PolicyOk.r3 N (fun x0 x1 x2 x3 x4 x5 x6 => (iter (exc E100 (it100 N) (loopOf Try.f100 3)) (canon (E100.keep 3))  n (tabl (T100_0 x0 x1 x2 x3 x4 x5 x6)) K)) (fun y0 y1 y2 y3 y4 y5 y6 => (K .ret (tabl (T100_0 y0 y1 y2 y3 y4 y5 y6)))) (fun y0 y1 y2 y3 y4 y5 y6 => (K (.exit 0) (tabl (T100_0 y0 y1 y2 y3 y4 y5 y6)))) x0 x1 x2 x3 x4 x5 x6 = _
    rw [e0]; rfl
theorem lo100_3 {R : Type} (N : Nat) : LoopOk E100 (it100 N (R := R)) (loopOf Try.f100 3) := by
  have e : firstRid (loopOf Try.f100 3) = 3 := by kernel_rfl
  intro L K r
  rw [e]
  intro h
  unfold it100 at h
  simp only [show Nat.beq 3 3 = true from rfl, cond_false, cond_true] at h
  refine tell_ok (Q := fun L => ∃ n, iter (exc E100 (it100 N) (loopOf Try.f100 3)) (canon (E100.keep 3)) n (tabl L) K = some r) h (fun xs h => ?_) (fun h => ?_)
  · (try dsimp only at h)
    split at h
    · exact ⟨N, ((e100_3 N K N) _ _ _ _ _ _ _).trans h⟩
    · cases h
  cases h
def sp100 : List Arg → Option (Bool × Res)
  | [(.v true [(.sh 9 p0_0), (.sh 9 p0_1), (.sh 30 p0_2), (.i .i64 p0_3)])] => some (Pu.spec_PolicyOk.c p0_0 p0_1 p0_2 p0_3, ⟨[(.v false [(.b (Pu.spec_PolicyOk.v p0_0 p0_1 p0_2 p0_3))])], []⟩)
  | _ => none
theorem ok100 : FnOk Try.prog T 100 sp100 := by
  refine fn_ok (E := E100) hE (call_cons ok101 (call_cons ok103 (call_cons ok187 call_nil))) hM Try.func100 (code := (Try.f100.body.getD .skip)) (by kernel_rfl) (by kernel_rfl) ?_
  have key : ∀ (p0_0 : Row) (p0_1 : Row) (p0_2 : Row) (p0_3 : Int), Pu.spec_PolicyOk.c p0_0 p0_1 p0_2 p0_3 = true → ∃ it : It Res, (∀ c ∈ loopsOf (Try.f100.body.getD .skip), LoopOk E100 it c) ∧ body E100 it Try.f100 [(.v true [(.sh 9 p0_0), (.sh 9 p0_1), (.sh 30 p0_2), (.i .i64 p0_3)])] = some ⟨[(.v false [(.b (Pu.spec_PolicyOk.v p0_0 p0_1 p0_2 p0_3))])], []⟩ := by
    intro p0_0 p0_1 p0_2 p0_3  h1
    obtain ⟨N, hN⟩ := Pu.spec_PolicyOk.b_eq (R := Res) (fun r0 => some ⟨[(.v false [(.b r0)])], []⟩) p0_0 p0_1 p0_2 p0_3 h1
    have hl : loopsOf (Try.f100.body.getD .skip) = [loopOf Try.f100 3] := by kernel_rfl
    refine ⟨it100 N, by rw [hl]; exact (loops_cons (lo100_3 N) loops_nil), ?_⟩
    refine Eq.trans (show body E100 (it100 N) Try.f100 [(.v true [(.sh 9 p0_0), (.sh 9 p0_1), (.sh 30 p0_2), (.i .i64 p0_3)])] = Pu.spec_PolicyOk.b N (fun r0 => some ⟨[(.v false [(.b r0)])], []⟩) p0_0 p0_1 p0_2 p0_3 by kernel_rfl) hN
  intro args r h
  unfold sp100 at h
  split at h
  · injection h with h
    injection h with h1 h2
    subst h2
    exact ⟨by kernel_rfl, fun hf => ⟨of_decide_eq_true (by kernel_rfl), key _ _ _ _ h1⟩⟩
  · cases h

end Go.FG.Se

namespace Go.FG.Se
open Go.Proofs
def T123_0 (p0 : Bool) (p1 : Int) (p2 : Int) (p3 : Row) (p4 : Row) (p5 : Row) (p6 : Row) (p7 : Int) (p8 : Row) (p9 : Row) (p10 : Int) : List (Nat × Cel) := [(2, (.v (.v false [(.bp 0 0)]))), (4, (.v (.v false [(.b p0)]))), (6, (.v (.v false [(.i .i64 p1)]))), (1, (.o (.box [(.i .i64 p2), (.sh 86 p3), (.sh 9 p4), (.sh 9 p5), (.sh 30 p6), (.i .i64 p7), (.sh 126 p8), (.sh 62 p9), (.i .i64 p10)])))]
def E123 : Env := { toTab := T, call := Go.FG.callIn [(149, sp149), (201, sp201), (100, sp100)], mode := Go.FG.modeIn md, keep := Go.FG.keepIn [(2, [1, 2, 3])], tk := fun n => Go.FG.memB n [], om := Go.FG.omIn [] }
def it123 (N : Nat) {R : Type} : It R := fun rid f cn L K => bif Nat.beq rid 2 then (tell [(2, (.v (.v false [(.bp 0 0)]))), (4, (.v (.v false [(.b false)]))), (6, (.v (.v false [(.i .i64 0)]))), (1, (.o (.box [(.i .i64 0), (.sh 86 []), (.sh 9 []), (.sh 9 []), (.sh 30 []), (.i .i64 0), (.sh 126 []), (.sh 62 []), (.i .i64 0)])))] (fun | [.B x0, .I x1, .I x2, .R x3, .R x4, .R x5, .R x6, .I x7, .R x8, .R x9, .I x10] => Pu.spec_l16Entries.l2 N (fun y0 y1 y2 y3 y4 y5 y6 y7 y8 y9 y10 => (K .ret (tabl (T123_0 y0 y1 y2 y3 y4 y5 y6 y7 y8 y9 y10)))) (fun y0 y1 y2 y3 y4 y5 y6 y7 y8 y9 y10 => (K (.exit 0) (tabl (T123_0 y0 y1 y2 y3 y4 y5 y6 y7 y8 y9 y10)))) N x0 x1 x2 x3 x4 x5 x6 x7 x8 x9 x10 | _ => none) L (none)) else none
theorem e123_2 {R : Type} (N : Nat) (K : Ex → St → Option R) : ∀ n : Nat, (∀ x0 x1 x2 x3 x4 x5 x6 x7 x8 x9 x10, iter (exc E123 (it123 N) (loopOf Try.f123 2)) (canon (E123.keep 2))  n (tabl (T123_0 x0 x1 x2 x3 x4 x5 x6 x7 x8 x9 x10)) K = Pu.spec_l16Entries.l2 N (fun y0 y1 y2 y3 y4 y5 y6 y7 y8 y9 y10 => (K .ret (tabl (T123_0 y0 y1 y2 y3 y4 y5 y6 y7 y8 y9 y10)))) (fun y0 y1 y2 y3 y4 y5 y6 y7 y8 y9 y10 => (K (.exit 0) (tabl (T123_0 y0 y1 y2 y3 y4 y5 y6 y7 y8 y9 y10)))) n x0 x1 x2 x3 x4 x5 x6 x7 x8 x9 x10) := by
  intro n
  induction n with
  | zero => exact (fun _ _ _ _ _ _ _ _ _ _ _ => rfl)
  | succ n ih =>
    have e0 : (fun x0 x1 x2 x3 x4 x5 x6 x7 x8 x9 x10 => iter (exc E123 (it123 N) (loopOf Try.f123 2)) (canon (E123.keep 2))  n (tabl (T123_0 x0 x1 x2 x3 x4 x5 x6 x7 x8 x9 x10)) K) = Pu.spec_l16Entries.l2 N (fun y0 y1 y2 y3 y4 y5 y6 y7 y8 y9 y10 => (K .ret (tabl (T123_0 y0 y1 y2 y3 y4 y5 y6 y7 y8 y9 y10)))) (fun y0 y1 y2 y3 y4 y5 y6 y7 y8 y9 y10 => (K (.exit 0) (tabl (T123_0 y0 y1 y2 y3 y4 y5 y6 y7 y8 y9 y10)))) n := by funext x0 x1 x2 x3 x4 x5 x6 x7 x8 x9 x10; exact ih x0 x1 x2 x3 x4 x5 x6 x7 x8 x9 x10
    intro x0 x1 x2 x3 x4 x5 x6 x7 x8 x9 x10
    have h : ∀ g, exc E123 (it123 N) (loopOf Try.f123 2) (tabl (T123_0 x0 x1 x2 x3 x4 x5 x6 x7 x8 x9 x10)) (iterK g (canon (E123.keep 2)) K) = Pu.spec_l16Entries.r2 N (fun x0 x1 x2 x3 x4 x5 x6 x7 x8 x9 x10 => (g (tabl (T123_0 x0 x1 x2 x3 x4 x5 x6 x7 x8 x9 x10)))) (fun y0 y1 y2 y3 y4 y5 y6 y7 y8 y9 y10 => (K .ret (tabl (T123_0 y0 y1 y2 y3 y4 y5 y6 y7 y8 y9 y10)))) (fun y0 y1 y2 y3 y4 y5 y6 y7 y8 y9 y10 => (K (.exit 0) (tabl (T123_0 y0 y1 y2 y3 y4 y5 y6 y7 y8 y9 y10)))) x0 x1 x2 x3 x4 x5 x6 x7 x8 x9 x10 := by intro g; kernel_rfl
    refine (iter_succ _ _ n _ K).trans ((h _).trans ?_)
    show Pu.spec_l16Entries.r2 N (fun x0 x1 x2 x3 x4 x5 x6 x7 x8 x9 x10 => (iter (exc E123 (it123 N) (loopOf Try.f123 2)) (canon (E123.keep 2))  n (tabl (T123_0 x0 x1 x2 x3 x4 x5 x6 x7 x8 x9 x10)) K)) (fun y0 y1 y2 y3 y4 y5 y6 y7 y8 y9 y10 => (K .ret (tabl (T123_0 y0 y1 y2 y3 y4 y5 y6 y7 y8 y9 y10)))) (fun y0 y1 y2 y3 y4 y5 y6 y7 y8 y9 y10 => (K (.exit 0) (tabl (T123_0 y0 y1 y2 y3 y4 y5 y6 y7 y8 y9 y10)))) x0 x1 x2 x3 x4 x5 x6 x7 x8 x9 x10 = _
    rw [e0]; rfl
theorem lo123_2 {R : Type} (N : Nat) : LoopOk E123 (it123 N (R := R)) (loopOf Try.f123 2) := by
  have e : firstRid (loopOf Try.f123 2) = 2 := by kernel_rfl
  intro L K r
  rw [e]
  intro h
  unfold it123 at h
  simp only [show Nat.beq 2 2 = true from rfl, cond_false, cond_true] at h
  refine tell_ok (Q := fun L => ∃ n, iter (exc E123 (it123 N) (loopOf Try.f123 2)) (canon (E123.keep 2)) n (tabl L) K = some r) h (fun xs h => ?_) (fun h => ?_)
  · (try dsimp only at h)
    split at h
    · exact ⟨N, ((e123_2 N K N) _ _ _ _ _ _ _ _ _ _ _).trans h⟩
    · cases h
  cases h
def sp123 : List Arg → Option (Bool × Res)
  | [(.v true [(.i .i64 p0_0), (.sh 86 p0_1), (.sh 9 p0_2), (.sh 9 p0_3), (.sh 30 p0_4), (.i .i64 p0_5), (.sh 126 p0_6), (.sh 62 p0_7), (.i .i64 p0_8)])] => some (Pu.spec_l16Entries.c p0_0 p0_1 p0_2 p0_3 p0_4 p0_5 p0_6 p0_7 p0_8, ⟨[(.v false [(.b (Pu.spec_l16Entries.v p0_0 p0_1 p0_2 p0_3 p0_4 p0_5 p0_6 p0_7 p0_8))])], []⟩)
  | _ => none
theorem ok123 : FnOk Try.prog T 123 sp123 := by
  refine fn_ok (E := E123) hE (call_cons ok149 (call_cons ok201 (call_cons ok100 call_nil))) hM Try.func123 (code := (Try.f123.body.getD .skip)) (by kernel_rfl) (by kernel_rfl) ?_
  have key : ∀ (p0_0 : Int) (p0_1 : Row) (p0_2 : Row) (p0_3 : Row) (p0_4 : Row) (p0_5 : Int) (p0_6 : Row) (p0_7 : Row) (p0_8 : Int), Pu.spec_l16Entries.c p0_0 p0_1 p0_2 p0_3 p0_4 p0_5 p0_6 p0_7 p0_8 = true → ∃ it : It Res, (∀ c ∈ loopsOf (Try.f123.body.getD .skip), LoopOk E123 it c) ∧ body E123 it Try.f123 [(.v true [(.i .i64 p0_0), (.sh 86 p0_1), (.sh 9 p0_2), (.sh 9 p0_3), (.sh 30 p0_4), (.i .i64 p0_5), (.sh 126 p0_6), (.sh 62 p0_7), (.i .i64 p0_8)])] = some ⟨[(.v false [(.b (Pu.spec_l16Entries.v p0_0 p0_1 p0_2 p0_3 p0_4 p0_5 p0_6 p0_7 p0_8))])], []⟩ := by
    intro p0_0 p0_1 p0_2 p0_3 p0_4 p0_5 p0_6 p0_7 p0_8  h1
    obtain ⟨N, hN⟩ := Pu.spec_l16Entries.b_eq (R := Res) (fun r0 => some ⟨[(.v false [(.b r0)])], []⟩) p0_0 p0_1 p0_2 p0_3 p0_4 p0_5 p0_6 p0_7 p0_8 h1
    have hl : loopsOf (Try.f123.body.getD .skip) = [loopOf Try.f123 2] := by kernel_rfl
    refine ⟨it123 N, by rw [hl]; exact (loops_cons (lo123_2 N) loops_nil), ?_⟩
    refine Eq.trans (show body E123 (it123 N) Try.f123 [(.v true [(.i .i64 p0_0), (.sh 86 p0_1), (.sh 9 p0_2), (.sh 9 p0_3), (.sh 30 p0_4), (.i .i64 p0_5), (.sh 126 p0_6), (.sh 62 p0_7), (.i .i64 p0_8)])] = Pu.spec_l16Entries.b N (fun r0 => some ⟨[(.v false [(.b r0)])], []⟩) p0_0 p0_1 p0_2 p0_3 p0_4 p0_5 p0_6 p0_7 p0_8 by kernel_rfl) hN
  intro args r h
  unfold sp123 at h
  split at h
  · injection h with h
    injection h with h1 h2
    subst h2
    exact ⟨by kernel_rfl, fun hf => ⟨of_decide_eq_true (by kernel_rfl), key _ _ _ _ _ _ _ _ _ h1⟩⟩
  · cases h

end Go.FG.Se

namespace Go.FG.Se
open Go.Proofs
def T124_0 (p0 : Int) (p1 : Bool) (p2 : Int) (p3 : Int) (p4 : Row) (p5 : Row) (p6 : Row) (p7 : Row) (p8 : Int) (p9 : Row) (p10 : Row) (p11 : Int) (p12 : ByteArray) (p13 : ByteArray) (p14 : Int) (p15 : Int) (p16 : Int) : List (Nat × Cel) := [(2, (.v (.v false [(.i .i64 p0)]))), (4, (.v (.v false [(.bp 0 0)]))), (8, (.v (.v false [(.b p1)]))), (10, (.v (.v false [(.bp 1 0)]))), (12, (.v (.v false [(.i .i64 p2)]))), (1, (.o (.box [(.i .i64 p3), (.sh 86 p4), (.sh 9 p5), (.sh 9 p6), (.sh 30 p7), (.i .i64 p8), (.sh 126 p9), (.sh 62 p10), (.i .i64 p11)]))), (3, (.o (.box [(.s p12), (.s p13), (.i .i64 p14), (.i .i64 p15), (.i .i64 p16)])))]
def E124 : Env := { toTab := T, call := Go.FG.callIn [(101, sp101), (122, sp122)], mode := Go.FG.modeIn md, keep := Go.FG.keepIn [(5, [1, 2, 4, 5, 6])], tk := fun n => Go.FG.memB n [], om := Go.FG.omIn [] }
def it124 (N : Nat) {R : Type} : It R := fun rid f cn L K => bif Nat.beq rid 5 then (tell [(2, (.v (.v false [(.i .i64 0)]))), (4, (.v (.v false [(.bp 0 0)]))), (8, (.v (.v false [(.b false)]))), (10, (.v (.v false [(.bp 1 0)]))), (12, (.v (.v false [(.i .i64 0)]))), (1, (.o (.box [(.i .i64 0), (.sh 86 []), (.sh 9 []), (.sh 9 []), (.sh 30 []), (.i .i64 0), (.sh 126 []), (.sh 62 []), (.i .i64 0)]))), (3, (.o (.box [(.s ⟨#[]⟩), (.s ⟨#[]⟩), (.i .i64 0), (.i .i64 0), (.i .i64 0)])))] (fun | [.I x0, .B x1, .I x2, .I x3, .R x4, .R x5, .R x6, .R x7, .I x8, .R x9, .R x10, .I x11, .S x12, .S x13, .I x14, .I x15, .I x16] => Pu.spec_l16Fetch.l5 N (fun y0 y1 y2 y3 y4 y5 y6 y7 y8 y9 y10 y11 y12 y13 y14 y15 y16 => (K .ret (tabl (T124_0 y0 y1 y2 y3 y4 y5 y6 y7 y8 y9 y10 y11 y12 y13 y14 y15 y16)))) (fun y0 y1 y2 y3 y4 y5 y6 y7 y8 y9 y10 y11 y12 y13 y14 y15 y16 => (K (.exit 0) (tabl (T124_0 y0 y1 y2 y3 y4 y5 y6 y7 y8 y9 y10 y11 y12 y13 y14 y15 y16)))) N x0 x1 x2 x3 x4 x5 x6 x7 x8 x9 x10 x11 x12 x13 x14 x15 x16 | _ => none) L (none)) else none
theorem e124_5 {R : Type} (N : Nat) (K : Ex → St → Option R) : ∀ n : Nat, (∀ x0 x1 x2 x3 x4 x5 x6 x7 x8 x9 x10 x11 x12 x13 x14 x15 x16, iter (exc E124 (it124 N) (loopOf Try.f124 5)) (canon (E124.keep 5))  n (tabl (T124_0 x0 x1 x2 x3 x4 x5 x6 x7 x8 x9 x10 x11 x12 x13 x14 x15 x16)) K = Pu.spec_l16Fetch.l5 N (fun y0 y1 y2 y3 y4 y5 y6 y7 y8 y9 y10 y11 y12 y13 y14 y15 y16 => (K .ret (tabl (T124_0 y0 y1 y2 y3 y4 y5 y6 y7 y8 y9 y10 y11 y12 y13 y14 y15 y16)))) (fun y0 y1 y2 y3 y4 y5 y6 y7 y8 y9 y10 y11 y12 y13 y14 y15 y16 => (K (.exit 0) (tabl (T124_0 y0 y1 y2 y3 y4 y5 y6 y7 y8 y9 y10 y11 y12 y13 y14 y15 y16)))) n x0 x1 x2 x3 x4 x5 x6 x7 x8 x9 x10 x11 x12 x13 x14 x15 x16) := by
  intro n
  induction n with
  | zero => exact (fun _ _ _ _ _ _ _ _ _ _ _ _ _ _ _ _ _ => rfl)
  | succ n ih =>
    have e0 : (fun x0 x1 x2 x3 x4 x5 x6 x7 x8 x9 x10 x11 x12 x13 x14 x15 x16 => iter (exc E124 (it124 N) (loopOf Try.f124 5)) (canon (E124.keep 5))  n (tabl (T124_0 x0 x1 x2 x3 x4 x5 x6 x7 x8 x9 x10 x11 x12 x13 x14 x15 x16)) K) = Pu.spec_l16Fetch.l5 N (fun y0 y1 y2 y3 y4 y5 y6 y7 y8 y9 y10 y11 y12 y13 y14 y15 y16 => (K .ret (tabl (T124_0 y0 y1 y2 y3 y4 y5 y6 y7 y8 y9 y10 y11 y12 y13 y14 y15 y16)))) (fun y0 y1 y2 y3 y4 y5 y6 y7 y8 y9 y10 y11 y12 y13 y14 y15 y16 => (K (.exit 0) (tabl (T124_0 y0 y1 y2 y3 y4 y5 y6 y7 y8 y9 y10 y11 y12 y13 y14 y15 y16)))) n := by funext x0 x1 x2 x3 x4 x5 x6 x7 x8 x9 x10 x11 x12 x13 x14 x15 x16; exact ih x0 x1 x2 x3 x4 x5 x6 x7 x8 x9 x10 x11 x12 x13 x14 x15 x16
    intro x0 x1 x2 x3 x4 x5 x6 x7 x8 x9 x10 x11 x12 x13 x14 x15 x16
    have h : ∀ g, exc E124 (it124 N) (loopOf Try.f124 5) (tabl (T124_0 x0 x1 x2 x3 x4 x5 x6 x7 x8 x9 x10 x11 x12 x13 x14 x15 x16)) (iterK g (canon (E124.keep 5)) K) = Pu.spec_l16Fetch.r5 N (fun x0 x1 x2 x3 x4 x5 x6 x7 x8 x9 x10 x11 x12 x13 x14 x15 x16 => (g (tabl (T124_0 x0 x1 x2 x3 x4 x5 x6 x7 x8 x9 x10 x11 x12 x13 x14 x15 x16)))) (fun y0 y1 y2 y3 y4 y5 y6 y7 y8 y9 y10 y11 y12 y13 y14 y15 y16 => (K .ret (tabl (T124_0 y0 y1 y2 y3 y4 y5 y6 y7 y8 y9 y10 y11 y12 y13 y14 y15 y16)))) (fun y0 y1 y2 y3 y4 y5 y6 y7 y8 y9 y10 y11 y12 y13 y14 y15 y16 => (K (.exit 0) (tabl (T124_0 y0 y1 y2 y3 y4 y5 y6 y7 y8 y9 y10 y11 y12 y13 y14 y15 y16)))) x0 x1 x2 x3 x4 x5 x6 x7 x8 x9 x10 x11 x12 x13 x14 x15 x16 := by intro g; kernel_rfl
    refine (iter_succ _ _ n _ K).trans ((h _).trans ?_)
    show Pu.spec_l16Fetch.r5 N (fun x0 x1 x2 x3 x4 x5 x6 x7 x8 x9 x10 x11 x12 x13 x14 x15 x16 => (iter (exc E124 (it124 N) (loopOf Try.f124 5)) (canon (E124.keep 5))  n (tabl (T124_0 x0 x1 x2 x3 x4 x5 x6 x7 x8 x9 x10 x11 x12 x13 x14 x15 x16)) K)) (fun y0 y1 y2 y3 y4 y5 y6 y7 y8 y9 y10 y11 y12 y13 y14 y15 y16 => (K .ret (tabl (T124_0 y0 y1 y2 y3 y4 y5 y6 y7 y8 y9 y10 y11 y12 y13 y14 y15 y16)))) (fun y0 y1 y2 y3 y4 y5 y6 y7 y8 y9 y10 y11 y12 y13 y14 y15 y16 => (K (.exit 0) (tabl (T124_0 y0 y1 y2 y3 y4 y5 y6 y7 y8 y9 y10 y11 y12 y13 y14 y15 y16)))) x0 x1 x2 x3 x4 x5 x6 x7 x8 x9 x10 x11 x12 x13 x14 x15 x16 = _
    rw [e0]; rfl
theorem lo124_5 {R : Type} (N : Nat) : LoopOk E124 (it124 N (R := R)) (loopOf Try.f124 5) := by
  have e : firstRid (loopOf Try.f124 5) = 5 := by kernel_rfl
  intro L K r
  rw [e]
  intro h
  unfold it124 at h
  simp only [show Nat.beq 5 5 = true from rfl, cond_false, cond_true] at h
  refine tell_ok (Q := fun L => ∃ n, iter (exc E124 (it124 N) (loopOf Try.f124 5)) (canon (E124.keep 5)) n (tabl L) K = some r) h (fun xs h => ?_) (fun h => ?_)
  · (try dsimp only at h)
    split at h
    · exact ⟨N, ((e124_5 N K N) _ _ _ _ _ _ _ _ _ _ _ _ _ _ _ _ _).trans h⟩
    · cases h
  cases h
def sp124 : List Arg → Option (Bool × Res)
  | [(.v true [(.i .i64 p0_0), (.sh 86 p0_1), (.sh 9 p0_2), (.sh 9 p0_3), (.sh 30 p0_4), (.i .i64 p0_5), (.sh 126 p0_6), (.sh 62 p0_7), (.i .i64 p0_8)]), (.v false [(.i .i64 i1)])] => some (Pu.spec_l16Fetch.c p0_0 p0_1 p0_2 p0_3 p0_4 p0_5 p0_6 p0_7 p0_8 i1, ⟨[(.v false [(.b (Pu.spec_l16Fetch.v p0_0 p0_1 p0_2 p0_3 p0_4 p0_5 p0_6 p0_7 p0_8 i1))])], []⟩)
  | _ => none
theorem ok124 : FnOk Try.prog T 124 sp124 := by
  refine fn_ok (E := E124) hE (call_cons ok101 (call_cons ok122 call_nil)) hM Try.func124 (code := (Try.f124.body.getD .skip)) (by kernel_rfl) (by kernel_rfl) ?_
  have key : ∀ (p0_0 : Int) (p0_1 : Row) (p0_2 : Row) (p0_3 : Row) (p0_4 : Row) (p0_5 : Int) (p0_6 : Row) (p0_7 : Row) (p0_8 : Int) (i1 : Int), Pu.spec_l16Fetch.c p0_0 p0_1 p0_2 p0_3 p0_4 p0_5 p0_6 p0_7 p0_8 i1 = true → ∃ it : It Res, (∀ c ∈ loopsOf (Try.f124.body.getD .skip), LoopOk E124 it c) ∧ body E124 it Try.f124 [(.v true [(.i .i64 p0_0), (.sh 86 p0_1), (.sh 9 p0_2), (.sh 9 p0_3), (.sh 30 p0_4), (.i .i64 p0_5), (.sh 126 p0_6), (.sh 62 p0_7), (.i .i64 p0_8)]), (.v false [(.i .i64 i1)])] = some ⟨[(.v false [(.b (Pu.spec_l16Fetch.v p0_0 p0_1 p0_2 p0_3 p0_4 p0_5 p0_6 p0_7 p0_8 i1))])], []⟩ := by
    intro p0_0 p0_1 p0_2 p0_3 p0_4 p0_5 p0_6 p0_7 p0_8 i1  h1
    obtain ⟨N, hN⟩ := Pu.spec_l16Fetch.b_eq (R := Res) (fun r0 => some ⟨[(.v false [(.b r0)])], []⟩) p0_0 p0_1 p0_2 p0_3 p0_4 p0_5 p0_6 p0_7 p0_8 i1 h1
    have hl : loopsOf (Try.f124.body.getD .skip) = [loopOf Try.f124 5] := by kernel_rfl
    refine ⟨it124 N, by rw [hl]; exact (loops_cons (lo124_5 N) loops_nil), ?_⟩
    refine Eq.trans (show body E124 (it124 N) Try.f124 [(.v true [(.i .i64 p0_0), (.sh 86 p0_1), (.sh 9 p0_2), (.sh 9 p0_3), (.sh 30 p0_4), (.i .i64 p0_5), (.sh 126 p0_6), (.sh 62 p0_7), (.i .i64 p0_8)]), (.v false [(.i .i64 i1)])] = Pu.spec_l16Fetch.b N (fun r0 => some ⟨[(.v false [(.b r0)])], []⟩) p0_0 p0_1 p0_2 p0_3 p0_4 p0_5 p0_6 p0_7 p0_8 i1 by kernel_rfl) hN
  intro args r h
  unfold sp124 at h
  split at h
  · injection h with h
    injection h with h1 h2
    subst h2
    exact ⟨by kernel_rfl, fun hf => ⟨of_decide_eq_true (by kernel_rfl), key _ _ _ _ _ _ _ _ _ _ h1⟩⟩
  · cases h

end Go.FG.Se

namespace Go.FG.Se
open Go.Proofs
def T39_0 (p0 : Bool) (p1 : Int) (p2 : Int) (p3 : Row) (p4 : Row) (p5 : Row) (p6 : Row) (p7 : Int) (p8 : Row) (p9 : Row) (p10 : Int) : List (Nat × Cel) := [(2, (.v (.v false [(.bp 0 0)]))), (4, (.v (.v false [(.b p0)]))), (6, (.v (.v false [(.i .i64 p1)]))), (1, (.o (.box [(.i .i64 p2), (.sh 86 p3), (.sh 9 p4), (.sh 9 p5), (.sh 30 p6), (.i .i64 p7), (.sh 126 p8), (.sh 62 p9), (.i .i64 p10)])))]
def T39_1 (p0 : Bool) (p1 : Int) (p2 : Int) (p3 : Row) (p4 : Row) (p5 : Row) (p6 : Row) (p7 : Int) (p8 : Row) (p9 : Row) (p10 : Int) : List (Nat × Cel) := [(2, (.v (.v false [(.bp 0 0)]))), (4, (.v (.v false [(.b p0)]))), (8, (.v (.v false [(.i .i64 p1)]))), (1, (.o (.box [(.i .i64 p2), (.sh 86 p3), (.sh 9 p4), (.sh 9 p5), (.sh 30 p6), (.i .i64 p7), (.sh 126 p8), (.sh 62 p9), (.i .i64 p10)])))]
def E39 : Env := { toTab := T, call := Go.FG.callIn [(122, sp122), (123, sp123), (124, sp124), (101, sp101)], mode := Go.FG.modeIn md, keep := Go.FG.keepIn [(4, [1, 2, 3]), (9, [1, 2, 4])], tk := fun n => Go.FG.memB n [], om := Go.FG.omIn [] }
def it39 (N : Nat) {R : Type} : It R := fun rid f cn L K => bif Nat.beq rid 4 then (tell [(2, (.v (.v false [(.bp 0 0)]))), (4, (.v (.v false [(.b false)]))), (6, (.v (.v false [(.i .i64 0)]))), (1, (.o (.box [(.i .i64 0), (.sh 86 []), (.sh 9 []), (.sh 9 []), (.sh 30 []), (.i .i64 0), (.sh 126 []), (.sh 62 []), (.i .i64 0)])))] (fun | [.B x0, .I x1, .I x2, .R x3, .R x4, .R x5, .R x6, .I x7, .R x8, .R x9, .I x10] => Pu.spec_ProxyOk.l4 N (fun y0 y1 y2 y3 y4 y5 y6 y7 y8 y9 y10 => (K .ret (tabl (T39_0 y0 y1 y2 y3 y4 y5 y6 y7 y8 y9 y10)))) (fun y0 y1 y2 y3 y4 y5 y6 y7 y8 y9 y10 => (K (.exit 0) (tabl (T39_0 y0 y1 y2 y3 y4 y5 y6 y7 y8 y9 y10)))) N x0 x1 x2 x3 x4 x5 x6 x7 x8 x9 x10 | _ => none) L (none)) else bif Nat.beq rid 9 then (tell [(2, (.v (.v false [(.bp 0 0)]))), (4, (.v (.v false [(.b false)]))), (8, (.v (.v false [(.i .i64 0)]))), (1, (.o (.box [(.i .i64 0), (.sh 86 []), (.sh 9 []), (.sh 9 []), (.sh 30 []), (.i .i64 0), (.sh 126 []), (.sh 62 []), (.i .i64 0)])))] (fun | [.B x33, .I x34, .I x35, .R x36, .R x37, .R x38, .R x39, .I x40, .R x41, .R x42, .I x43] => Pu.spec_ProxyOk.l9 N (fun y0 y1 y2 y3 y4 y5 y6 y7 y8 y9 y10 => (K .ret (tabl (T39_1 y0 y1 y2 y3 y4 y5 y6 y7 y8 y9 y10)))) (fun y0 y1 y2 y3 y4 y5 y6 y7 y8 y9 y10 => (K (.exit 2) (tabl (T39_1 y0 y1 y2 y3 y4 y5 y6 y7 y8 y9 y10)))) N x33 x34 x35 x36 x37 x38 x39 x40 x41 x42 x43 | _ => none) L (none)) else none
theorem e39_4 {R : Type} (N : Nat) (K : Ex → St → Option R) : ∀ n : Nat, (∀ x0 x1 x2 x3 x4 x5 x6 x7 x8 x9 x10, iter (exc E39 (it39 N) (loopOf Try.f39 4)) (canon (E39.keep 4))  n (tabl (T39_0 x0 x1 x2 x3 x4 x5 x6 x7 x8 x9 x10)) K = Pu.spec_ProxyOk.l4 N (fun y0 y1 y2 y3 y4 y5 y6 y7 y8 y9 y10 => (K .ret (tabl (T39_0 y0 y1 y2 y3 y4 y5 y6 y7 y8 y9 y10)))) (fun y0 y1 y2 y3 y4 y5 y6 y7 y8 y9 y10 => (K (.exit 0) (tabl (T39_0 y0 y1 y2 y3 y4 y5 y6 y7 y8 y9 y10)))) n x0 x1 x2 x3 x4 x5 x6 x7 x8 x9 x10) := by
  intro n
  induction n with
  | zero => exact (fun _ _ _ _ _ _ _ _ _ _ _ => rfl)
  | succ n ih =>
    have e0 : (fun x0 x1 x2 x3 x4 x5 x6 x7 x8 x9 x10 => iter (exc E39 (it39 N) (loopOf Try.f39 4)) (canon (E39.keep 4))  n (tabl (T39_0 x0 x1 x2 x3 x4 x5 x6 x7 x8 x9 x10)) K) = Pu.spec_ProxyOk.l4 N (fun y0 y1 y2 y3 y4 y5 y6 y7 y8 y9 y10 => (K .ret (tabl (T39_0 y0 y1 y2 y3 y4 y5 y6 y7 y8 y9 y10)))) (fun y0 y1 y2 y3 y4 y5 y6 y7 y8 y9 y10 => (K (.exit 0) (tabl (T39_0 y0 y1 y2 y3 y4 y5 y6 y7 y8 y9 y10)))) n := by funext x0 x1 x2 x3 x4 x5 x6 x7 x8 x9 x10; exact ih x0 x1 x2 x3 x4 x5 x6 x7 x8 x9 x10
    intro x0 x1 x2 x3 x4 x5 x6 x7 x8 x9 x10
    have h : ∀ g, exc E39 (it39 N) (loopOf Try.f39 4) (tabl (T39_0 x0 x1 x2 x3 x4 x5 x6 x7 x8 x9 x10)) (iterK g (canon (E39.keep 4)) K) = Pu.spec_ProxyOk.r4 N (fun x0 x1 x2 x3 x4 x5 x6 x7 x8 x9 x10 => (g (tabl (T39_0 x0 x1 x2 x3 x4 x5 x6 x7 x8 x9 x10)))) (fun y0 y1 y2 y3 y4 y5 y6 y7 y8 y9 y10 => (K .ret (tabl (T39_0 y0 y1 y2 y3 y4 y5 y6 y7 y8 y9 y10)))) (fun y0 y1 y2 y3 y4 y5 y6 y7 y8 y9 y10 => (K (.exit 0) (tabl (T39_0 y0 y1 y2 y3 y4 y5 y6 y7 y8 y9 y10)))) x0 x1 x2 x3 x4 x5 x6 x7 x8 x9 x10 := by intro g; kernel_rfl
    refine (iter_succ _ _ n _ K).trans ((h _).trans ?_)
    show Pu.spec_ProxyOk.r4 N (fun x0 x1 x2 x3 x4 x5 x6 x7 x8 x9 x10 => (iter (exc E39 (it39 N) (loopOf Try.f39 4)) (canon (E39.keep 4))  n (tabl (T39_0 x0 x1 x2 x3 x4 x5 x6 x7 x8 x9 x10)) K)) (fun y0 y1 y2 y3 y4 y5 y6 y7 y8 y9 y10 => (K .ret (tabl (T39_0 y0 y1 y2 y3 y4 y5 y6 y7 y8 y9 y10)))) (fun y0 y1 y2 y3 y4 y5 y6 y7 y8 y9 y10 => (K (.exit 0) (tabl (T39_0 y0 y1 y2 y3 y4 y5 y6 y7 y8 y9 y10)))) x0 x1 x2 x3 x4 x5 x6 x7 x8 x9 x10 = _
    rw [e0]; rfl
theorem lo39_4 {R : Type} (N : Nat) : LoopOk E39 (it39 N (R := R)) (loopOf Try.f39 4) := by
  have e : firstRid (loopOf Try.f39 4) = 4 := by kernel_rfl
  intro L K r
  rw [e]
  intro h
  unfold it39 at h
  simp only [show Nat.beq 4 4 = true from rfl, cond_false, cond_true] at h
  refine tell_ok (Q := fun L => ∃ n, iter (exc E39 (it39 N) (loopOf Try.f39 4)) (canon (E39.keep 4)) n (tabl L) K = some r) h (fun xs h => ?_) (fun h => ?_)
  · (try dsimp only at h)
    split at h
    · exact ⟨N, ((e39_4 N K N) _ _ _ _ _ _ _ _ _ _ _).trans h⟩
    · cases h
  cases h
theorem e39_9 {R : Type} (N : Nat) (K : Ex → St → Option R) : ∀ n : Nat, (∀ x33 x34 x35 x36 x37 x38 x39 x40 x41 x42 x43, iter (exc E39 (it39 N) (loopOf Try.f39 9)) (canon (E39.keep 9))  n (tabl (T39_1 x33 x34 x35 x36 x37 x38 x39 x40 x41 x42 x43)) K = Pu.spec_ProxyOk.l9 N (fun y0 y1 y2 y3 y4 y5 y6 y7 y8 y9 y10 => (K .ret (tabl (T39_1 y0 y1 y2 y3 y4 y5 y6 y7 y8 y9 y10)))) (fun y0 y1 y2 y3 y4 y5 y6 y7 y8 y9 y10 => (K (.exit 2) (tabl (T39_1 y0 y1 y2 y3 y4 y5 y6 y7 y8 y9 y10)))) n x33 x34 x35 x36 x37 x38 x39 x40 x41 x42 x43) := by
  intro n
  induction n with
  | zero => exact (fun _ _ _ _ _ _ _ _ _ _ _ => rfl)
  | succ n ih =>
    have e0 : (fun x33 x34 x35 x36 x37 x38 x39 x40 x41 x42 x43 => iter (exc E39 (it39 N) (loopOf Try.f39 9)) (canon (E39.keep 9))  n (tabl (T39_1 x33 x34 x35 x36 x37 x38 x39 x40 x41 x42 x43)) K) = Pu.spec_ProxyOk.l9 N (fun y0 y1 y2 y3 y4 y5 y6 y7 y8 y9 y10 => (K .ret (tabl (T39_1 y0 y1 y2 y3 y4 y5 y6 y7 y8 y9 y10)))) (fun y0 y1 y2 y3 y4 y5 y6 y7 y8 y9 y10 => (K (.exit 2) (tabl (T39_1 y0 y1 y2 y3 y4 y5 y6 y7 y8 y9 y10)))) n := by funext x33 x34 x35 x36 x37 x38 x39 x40 x41 x42 x43; exact ih x33 x34 x35 x36 x37 x38 x39 x40 x41 x42 x43
    intro x33 x34 x35 x36 x37 x38 x39 x40 x41 x42 x43
    have h : ∀ g, exc E39 (it39 N) (loopOf Try.f39 9) (tabl (T39_1 x33 x34 x35 x36 x37 x38 x39 x40 x41 x42 x43)) (iterK g (canon (E39.keep 9)) K) = Pu.spec_ProxyOk.r9 N (fun x33 x34 x35 x36 x37 x38 x39 x40 x41 x42 x43 => (g (tabl (T39_1 x33 x34 x35 x36 x37 x38 x39 x40 x41 x42 x43)))) (fun y0 y1 y2 y3 y4 y5 y6 y7 y8 y9 y10 => (K .ret (tabl (T39_1 y0 y1 y2 y3 y4 y5 y6 y7 y8 y9 y10)))) (fun y0 y1 y2 y3 y4 y5 y6 y7 y8 y9 y10 => (K (.exit 2) (tabl (T39_1 y0 y1 y2 y3 y4 y5 y6 y7 y8 y9 y10)))) x33 x34 x35 x36 x37 x38 x39 x40 x41 x42 x43 := by intro g; kernel_rfl
    refine (iter_succ _ _ n _ K).trans ((h _).trans ?_)
    show Pu.spec_ProxyOk.r9 N (fun x33 x34 x35 x36 x37 x38 x39 x40 x41 x42 x43 => (iter (exc E39 (it39 N) (loopOf Try.f39 9)) (canon (E39.keep 9))  n (tabl (T39_1 x33 x34 x35 x36 x37 x38 x39 x40 x41 x42 x43)) K)) (fun y0 y1 y2 y3 y4 y5 y6 y7 y8 y9 y10 => (K .ret (tabl (T39_1 y0 y1 y2 y3 y4 y5 y6 y7 y8 y9 y10)))) (fun y0 y1 y2 y3 y4 y5 y6 y7 y8 y9 y10 => (K (.exit 2) (tabl (T39_1 y0 y1 y2 y3 y4 y5 y6 y7 y8 y9 y10)))) x33 x34 x35 x36 x37 x38 x39 x40 x41 x42 x43 = _
    rw [e0]; rfl
theorem lo39_9 {R : Type} (N : Nat) : LoopOk E39 (it39 N (R := R)) (loopOf Try.f39 9) := by
  have e : firstRid (loopOf Try.f39 9) = 9 := by kernel_rfl
  intro L K r
  rw [e]
  intro h
  unfold it39 at h
  simp only [show Nat.beq 9 4 = false from rfl, show Nat.beq 9 9 = true from rfl, cond_false, cond_true] at h
  refine tell_ok (Q := fun L => ∃ n, iter (exc E39 (it39 N) (loopOf Try.f39 9)) (canon (E39.keep 9)) n (tabl L) K = some r) h (fun xs h => ?_) (fun h => ?_)
  · (try dsimp only at h)
    split at h
    · exact ⟨N, ((e39_9 N K N) _ _ _ _ _ _ _ _ _ _ _).trans h⟩
    · cases h
  cases h
def sp39 : List Arg → Option (Bool × Res)
  | [(.v true [(.i .i64 p0_0), (.sh 86 p0_1), (.sh 9 p0_2), (.sh 9 p0_3), (.sh 30 p0_4), (.i .i64 p0_5), (.sh 126 p0_6), (.sh 62 p0_7), (.i .i64 p0_8)])] => some (Pu.spec_ProxyOk.c p0_0 p0_1 p0_2 p0_3 p0_4 p0_5 p0_6 p0_7 p0_8, ⟨[(.v false [(.b (Pu.spec_ProxyOk.v p0_0 p0_1 p0_2 p0_3 p0_4 p0_5 p0_6 p0_7 p0_8))])], []⟩)
  | _ => none
theorem ok39 : FnOk Try.prog T 39 sp39 := by
  refine fn_ok (E := E39) hE (call_cons ok122 (call_cons ok123 (call_cons ok124 (call_cons ok101 call_nil)))) hM Try.func39 (code := (Try.f39.body.getD .skip)) (by kernel_rfl) (by kernel_rfl) ?_
  have key : ∀ (p0_0 : Int) (p0_1 : Row) (p0_2 : Row) (p0_3 : Row) (p0_4 : Row) (p0_5 : Int) (p0_6 : Row) (p0_7 : Row) (p0_8 : Int), Pu.spec_ProxyOk.c p0_0 p0_1 p0_2 p0_3 p0_4 p0_5 p0_6 p0_7 p0_8 = true → ∃ it : It Res, (∀ c ∈ loopsOf (Try.f39.body.getD .skip), LoopOk E39 it c) ∧ body E39 it Try.f39 [(.v true [(.i .i64 p0_0), (.sh 86 p0_1), (.sh 9 p0_2), (.sh 9 p0_3), (.sh 30 p0_4), (.i .i64 p0_5), (.sh 126 p0_6), (.sh 62 p0_7), (.i .i64 p0_8)])] = some ⟨[(.v false [(.b (Pu.spec_ProxyOk.v p0_0 p0_1 p0_2 p0_3 p0_4 p0_5 p0_6 p0_7 p0_8))])], []⟩ := by
    intro p0_0 p0_1 p0_2 p0_3 p0_4 p0_5 p0_6 p0_7 p0_8  h1
    obtain ⟨N, hN⟩ := Pu.spec_ProxyOk.b_eq (R := Res) (fun r0 => some ⟨[(.v false [(.b r0)])], []⟩) p0_0 p0_1 p0_2 p0_3 p0_4 p0_5 p0_6 p0_7 p0_8 h1
    have hl : loopsOf (Try.f39.body.getD .skip) = [loopOf Try.f39 4, loopOf Try.f39 9] := by kernel_rfl
    refine ⟨it39 N, by rw [hl]; exact (loops_cons (lo39_4 N) (loops_cons (lo39_9 N) loops_nil)), ?_⟩
    refine Eq.trans (show body E39 (it39 N) Try.f39 [(.v true [(.i .i64 p0_0), (.sh 86 p0_1), (.sh 9 p0_2), (.sh 9 p0_3), (.sh 30 p0_4), (.i .i64 p0_5), (.sh 126 p0_6), (.sh 62 p0_7), (.i .i64 p0_8)])] = Pu.spec_ProxyOk.b N (fun r0 => some ⟨[(.v false [(.b r0)])], []⟩) p0_0 p0_1 p0_2 p0_3 p0_4 p0_5 p0_6 p0_7 p0_8 by kernel_rfl) hN
  intro args r h
  unfold sp39 at h
  split at h
  · injection h with h
    injection h with h1 h2
    subst h2
    exact ⟨by kernel_rfl, fun hf => ⟨of_decide_eq_true (by kernel_rfl), key _ _ _ _ _ _ _ _ _ h1⟩⟩
  · cases h

end Go.FG.Se

namespace Go.FG.Se
open Go.Proofs
def E70 : Env := { toTab := T, call := Go.FG.callIn [], mode := Go.FG.modeIn md, keep := Go.FG.keepIn [], tk := fun n => Go.FG.memB n [], om := Go.FG.omIn [] }
def sp70 : List Arg → Option (Bool × Res)
  | [(.v false [(.i .i64 n0)]), (.v false [(.i .i64 low1)]), (.v false [(.i .i64 high2)])] => some (true, ⟨[(.v false [(.b (Pu.impl_within.v n0 low1 high2))])], []⟩)
  | _ => none
theorem ok70 : FnOk Try.prog T 70 sp70 := by
  refine fn_ok (E := E70) hE call_nil hM Try.func70 (code := (Try.f70.body.getD .skip)) (by kernel_rfl) (by kernel_rfl) ?_
  have key : ∀ (n0 : Int) (low1 : Int) (high2 : Int), ∃ it : It Res, (∀ c ∈ loopsOf (Try.f70.body.getD .skip), LoopOk E70 it c) ∧ body E70 it Try.f70 [(.v false [(.i .i64 n0)]), (.v false [(.i .i64 low1)]), (.v false [(.i .i64 high2)])] = some ⟨[(.v false [(.b (Pu.impl_within.v n0 low1 high2))])], []⟩ := by
    intro n0 low1 high2 
    have hN := Pu.impl_within.b_eq (R := Res) (fun r0 => some ⟨[(.v false [(.b r0)])], []⟩) n0 low1 high2
    have hl : loopsOf (Try.f70.body.getD .skip) = [] := by kernel_rfl
    refine ⟨iterN 0, by rw [hl]; exact loops_nil, ?_⟩
    refine Eq.trans (show body E70 (iterN 0) Try.f70 [(.v false [(.i .i64 n0)]), (.v false [(.i .i64 low1)]), (.v false [(.i .i64 high2)])] = Pu.impl_within.b (fun r0 => some ⟨[(.v false [(.b r0)])], []⟩) n0 low1 high2 by kernel_rfl) hN
  intro args r h
  unfold sp70 at h
  split at h
  · injection h with h
    injection h with h1 h2
    subst h2
    exact ⟨by kernel_rfl, fun hf => ⟨of_decide_eq_true (by kernel_rfl), key _ _ _⟩⟩
  · cases h

end Go.FG.Se

namespace Go.FG.Se
open Go.Proofs
def E78 : Env := { toTab := T, call := Go.FG.callIn [(70, sp70)], mode := Go.FG.modeIn md, keep := Go.FG.keepIn [], tk := fun n => Go.FG.memB n [], om := Go.FG.omIn [] }
def sp78 : List Arg → Option (Bool × Res)
  | [(.v false [(.s key0)])] => some (true, ⟨[(.v false [(.b (Pu.impl_isKey.v key0))])], []⟩)
  | _ => none
theorem ok78 : FnOk Try.prog T 78 sp78 := by
  refine fn_ok (E := E78) hE (call_cons ok70 call_nil) hM Try.func78 (code := (Try.f78.body.getD .skip)) (by kernel_rfl) (by kernel_rfl) ?_
  have key : ∀ (key0 : ByteArray), ∃ it : It Res, (∀ c ∈ loopsOf (Try.f78.body.getD .skip), LoopOk E78 it c) ∧ body E78 it Try.f78 [(.v false [(.s key0)])] = some ⟨[(.v false [(.b (Pu.impl_isKey.v key0))])], []⟩ := by
    intro key0 
    have hN := Pu.impl_isKey.b_eq (R := Res) (fun r0 => some ⟨[(.v false [(.b r0)])], []⟩) key0
    have hl : loopsOf (Try.f78.body.getD .skip) = [] := by kernel_rfl
    refine ⟨iterN 0, by rw [hl]; exact loops_nil, ?_⟩
    refine Eq.trans (show body E78 (iterN 0) Try.f78 [(.v false [(.s key0)])] = Pu.impl_isKey.b (fun r0 => some ⟨[(.v false [(.b r0)])], []⟩) key0 by kernel_rfl) hN
  intro args r h
  unfold sp78 at h
  split at h
  · injection h with h
    injection h with h1 h2
    subst h2
    exact ⟨by kernel_rfl, fun hf => ⟨of_decide_eq_true (by kernel_rfl), key _⟩⟩
  · cases h

end Go.FG.Se

namespace Go.FG.Se
open Go.Proofs
def E96 : Env := { toTab := T, call := Go.FG.callIn [(70, sp70)], mode := Go.FG.modeIn md, keep := Go.FG.keepIn [], tk := fun n => Go.FG.memB n [], om := Go.FG.omIn [] }
def sp96 : List Arg → Option (Bool × Res)
  | [(.v false [(.i .i64 n0)])] => some (true, ⟨[(.v false [(.b (Pu.impl_isNumber.v n0))])], []⟩)
  | _ => none
theorem ok96 : FnOk Try.prog T 96 sp96 := by
  refine fn_ok (E := E96) hE (call_cons ok70 call_nil) hM Try.func96 (code := (Try.f96.body.getD .skip)) (by kernel_rfl) (by kernel_rfl) ?_
  have key : ∀ (n0 : Int), ∃ it : It Res, (∀ c ∈ loopsOf (Try.f96.body.getD .skip), LoopOk E96 it c) ∧ body E96 it Try.f96 [(.v false [(.i .i64 n0)])] = some ⟨[(.v false [(.b (Pu.impl_isNumber.v n0))])], []⟩ := by
    intro n0 
    have hN := Pu.impl_isNumber.b_eq (R := Res) (fun r0 => some ⟨[(.v false [(.b r0)])], []⟩) n0
    have hl : loopsOf (Try.f96.body.getD .skip) = [] := by kernel_rfl
    refine ⟨iterN 0, by rw [hl]; exact loops_nil, ?_⟩
    refine Eq.trans (show body E96 (iterN 0) Try.f96 [(.v false [(.i .i64 n0)])] = Pu.impl_isNumber.b (fun r0 => some ⟨[(.v false [(.b r0)])], []⟩) n0 by kernel_rfl) hN
  intro args r h
  unfold sp96 at h
  split at h
  · injection h with h
    injection h with h1 h2
    subst h2
    exact ⟨by kernel_rfl, fun hf => ⟨of_decide_eq_true (by kernel_rfl), key _⟩⟩
  · cases h

end Go.FG.Se

namespace Go.FG.Se
open Go.Proofs
def E159 : Env := { toTab := T, call := Go.FG.callIn [(78, sp78), (96, sp96), (70, sp70)], mode := Go.FG.modeIn md, keep := Go.FG.keepIn [], tk := fun n => Go.FG.memB n [], om := Go.FG.omIn [] }
def sp159 : List Arg → Option (Bool × Res)
  | [(.v true [(.s e0_0), (.i .i64 e0_1), (.i .i64 e0_2), (.s e0_3)])] => some (true, ⟨[(.v false [(.b (Pu.impl_EntryOk.v e0_0 e0_1 e0_2 e0_3))])], []⟩)
  | _ => none
theorem ok159 : FnOk Try.prog T 159 sp159 := by
  refine fn_ok (E := E159) hE (call_cons ok78 (call_cons ok96 (call_cons ok70 call_nil))) hM Try.func159 (code := (Try.f159.body.getD .skip)) (by kernel_rfl) (by kernel_rfl) ?_
  have key : ∀ (e0_0 : ByteArray) (e0_1 : Int) (e0_2 : Int) (e0_3 : ByteArray), ∃ it : It Res, (∀ c ∈ loopsOf (Try.f159.body.getD .skip), LoopOk E159 it c) ∧ body E159 it Try.f159 [(.v true [(.s e0_0), (.i .i64 e0_1), (.i .i64 e0_2), (.s e0_3)])] = some ⟨[(.v false [(.b (Pu.impl_EntryOk.v e0_0 e0_1 e0_2 e0_3))])], []⟩ := by
    intro e0_0 e0_1 e0_2 e0_3 
    have hN := Pu.impl_EntryOk.b_eq (R := Res) (fun r0 => some ⟨[(.v false [(.b r0)])], []⟩) e0_0 e0_1 e0_2 e0_3
    have hl : loopsOf (Try.f159.body.getD .skip) = [] := by kernel_rfl
    refine ⟨iterN 0, by rw [hl]; exact loops_nil, ?_⟩
    refine Eq.trans (show body E159 (iterN 0) Try.f159 [(.v true [(.s e0_0), (.i .i64 e0_1), (.i .i64 e0_2), (.s e0_3)])] = Pu.impl_EntryOk.b (fun r0 => some ⟨[(.v false [(.b r0)])], []⟩) e0_0 e0_1 e0_2 e0_3 by kernel_rfl) hN
  intro args r h
  unfold sp159 at h
  split at h
  · injection h with h
    injection h with h1 h2
    subst h2
    exact ⟨by kernel_rfl, fun hf => ⟨of_decide_eq_true (by kernel_rfl), key _ _ _ _⟩⟩
  · cases h

end Go.FG.Se

namespace Go.FG.Se
open Go.Proofs
def E234 : Env := { toTab := T, call := Go.FG.callIn [], mode := Go.FG.modeIn md, keep := Go.FG.keepIn [], tk := fun n => Go.FG.memB n [], om := Go.FG.omIn [] }
def sp234 : List Arg → Option (Bool × Res)
  | [(.v false [.nl]), (.v false [(.i .i64 n1)])] => some (Pu.slices_Grow_string.c n1, ⟨[(.v false [(.ow 9 true (Pu.slices_Grow_string.v n1))])], []⟩)
  | _ => none
theorem ok234 : FnOk Try.prog T 234 sp234 := by
  refine fn_ok (E := E234) hE call_nil hM Try.func234 (code := (Try.f234.body.getD .skip)) (by kernel_rfl) (by kernel_rfl) ?_
  have key : ∀ (n1 : Int), Pu.slices_Grow_string.c n1 = true → ∃ it : It Res, (∀ c ∈ loopsOf (Try.f234.body.getD .skip), LoopOk E234 it c) ∧ body E234 it Try.f234 [(.v false [.nl]), (.v false [(.i .i64 n1)])] = some ⟨[(.v false [(.ow 9 true (Pu.slices_Grow_string.v n1))])], []⟩ := by
    intro n1  h1
    have hN := Pu.slices_Grow_string.b_eq (R := Res) (fun r0 => some ⟨[(.v false [(.ow 9 true r0)])], []⟩) n1 h1
    have hl : loopsOf (Try.f234.body.getD .skip) = [] := by kernel_rfl
    refine ⟨iterN 0, by rw [hl]; exact loops_nil, ?_⟩
    refine Eq.trans (show body E234 (iterN 0) Try.f234 [(.v false [.nl]), (.v false [(.i .i64 n1)])] = Pu.slices_Grow_string.b (fun r0 => some ⟨[(.v false [(.ow 9 true r0)])], []⟩) n1 by kernel_rfl) hN
  intro args r h
  unfold sp234 at h
  split at h
  · injection h with h
    injection h with h1 h2
    subst h2
    exact ⟨by kernel_rfl, fun hf => ⟨of_decide_eq_true (by kernel_rfl), key _ h1⟩⟩
  · cases h

end Go.FG.Se

namespace Go.FG.Se
open Go.Proofs
def T222_0 (p0 : Row) (p1 : Int) (p2 : Row) (p3 : Int) (p4 : Int) : List (Nat × Cel) := [(0, (.v (.v false [(.sh 44 p0)]))), (6, (.v (.v false [(.i .i64 p1)]))), (18, (.v (.v false [(.sh 44 p2)]))), (20, (.v (.v false [(.i .i64 p3)]))), (22, (.v (.v false [(.i .i64 p4)])))]
def T222_1 (p0 : Row) (p1 : Int) (p2 : Int) (p3 : Row) : List (Nat × Cel) := [(12, (.v (.v false [(.own 0)]))), (50, (.v (.v false [(.sh 44 p0)]))), (52, (.v (.v false [(.i .i64 p1)]))), (54, (.v (.v false [(.i .i64 p2)]))), (1, (.o (.row 9 true p3)))]
def E222 : Env := { toTab := T, call := Go.FG.callIn [(234, sp234)], mode := Go.FG.modeIn md, keep := Go.FG.keepIn [(3, [0, 3, 9, 10, 11]), (11, [6, 25, 26, 27])], tk := fun n => Go.FG.memB n [], om := Go.FG.omIn [] }
def it222 (N : Nat) {R : Type} : It R := fun rid f cn L K => bif Nat.beq rid 3 then (tell [(0, (.v (.v false [(.sh 44 [])]))), (6, (.v (.v false [(.i .i64 0)]))), (18, (.v (.v false [(.sh 44 [])]))), (20, (.v (.v false [(.i .i64 0)]))), (22, (.v (.v false [(.i .i64 0)])))] (fun | [.R x0, .I x1, .R x2, .I x3, .I x4] => Pu.slices_Concat_string.l3 N (fun y0 y1 y2 y3 y4 => (K (.exit 0) (tabl (T222_0 y0 y1 y2 y3 y4)))) N x0 x1 x2 x3 x4 | _ => none) L (none)) else bif Nat.beq rid 11 then (tell [(12, (.v (.v false [(.own 0)]))), (50, (.v (.v false [(.sh 44 [])]))), (52, (.v (.v false [(.i .i64 0)]))), (54, (.v (.v false [(.i .i64 0)]))), (1, (.o (.row 9 true [])))] (fun | [.R x10, .I x11, .I x12, .R x13] => Pu.slices_Concat_string.l11 N (fun y0 y1 y2 y3 => (K (.exit 2) (tabl (T222_1 y0 y1 y2 y3)))) N x10 x11 x12 x13 | _ => none) L (none)) else none
theorem e222_3 {R : Type} (N : Nat) (K : Ex → St → Option R) : ∀ n : Nat, (∀ x0 x1 x2 x3 x4, iter (exc E222 (it222 N) (loopOf Try.f222 3)) (canon (E222.keep 3))  n (tabl (T222_0 x0 x1 x2 x3 x4)) K = Pu.slices_Concat_string.l3 N (fun y0 y1 y2 y3 y4 => (K (.exit 0) (tabl (T222_0 y0 y1 y2 y3 y4)))) n x0 x1 x2 x3 x4) := by
  intro n
  induction n with
  | zero => exact (fun _ _ _ _ _ => rfl)
  | succ n ih =>
    have e0 : (fun x0 x1 x2 x3 x4 => iter (exc E222 (it222 N) (loopOf Try.f222 3)) (canon (E222.keep 3))  n (tabl (T222_0 x0 x1 x2 x3 x4)) K) = Pu.slices_Concat_string.l3 N (fun y0 y1 y2 y3 y4 => (K (.exit 0) (tabl (T222_0 y0 y1 y2 y3 y4)))) n := by funext x0 x1 x2 x3 x4; exact ih x0 x1 x2 x3 x4
    intro x0 x1 x2 x3 x4
    have h : ∀ g, exc E222 (it222 N) (loopOf Try.f222 3) (tabl (T222_0 x0 x1 x2 x3 x4)) (iterK g (canon (E222.keep 3)) K) = Pu.slices_Concat_string.r3 N (fun x0 x1 x2 x3 x4 => (g (tabl (T222_0 x0 x1 x2 x3 x4)))) (fun y0 y1 y2 y3 y4 => (K (.exit 0) (tabl (T222_0 y0 y1 y2 y3 y4)))) x0 x1 x2 x3 x4 := by intro g; kernel_rfl
    refine (iter_succ _ _ n _ K).trans ((h _).trans ?_)
    show Pu.slices_Concat_string.r3 N (fun x0 x1 x2 x3 x4 => (iter (exc E222 (it222 N) (loopOf Try.f222 3)) (canon (E222.keep 3))  n (tabl (T222_0 x0 x1 x2 x3 x4)) K)) (fun y0 y1 y2 y3 y4 => (K (.exit 0) (tabl (T222_0 y0 y1 y2 y3 y4)))) x0 x1 x2 x3 x4 = _
    rw [e0]; rfl
theorem lo222_3 {R : Type} (N : Nat) : LoopOk E222 (it222 N (R := R)) (loopOf Try.f222 3) := by
  have e : firstRid (loopOf Try.f222 3) = 3 := by kernel_rfl
  intro L K r
  rw [e]
  intro h
  unfold it222 at h
  simp only [show Nat.beq 3 3 = true from rfl, cond_false, cond_true] at h
  refine tell_ok (Q := fun L => ∃ n, iter (exc E222 (it222 N) (loopOf Try.f222 3)) (canon (E222.keep 3)) n (tabl L) K = some r) h (fun xs h => ?_) (fun h => ?_)
  · (try dsimp only at h)
    split at h
    · exact ⟨N, ((e222_3 N K N) _ _ _ _ _).trans h⟩
    · cases h
  cases h
theorem e222_11 {R : Type} (N : Nat) (K : Ex → St → Option R) : ∀ n : Nat, (∀ x10 x11 x12 x13, iter (exc E222 (it222 N) (loopOf Try.f222 11)) (canon (E222.keep 11))  n (tabl (T222_1 x10 x11 x12 x13)) K = Pu.slices_Concat_string.l11 N (fun y0 y1 y2 y3 => (K (.exit 2) (tabl (T222_1 y0 y1 y2 y3)))) n x10 x11 x12 x13) := by
  intro n
  induction n with
  | zero => exact (fun _ _ _ _ => rfl)
  | succ n ih =>
    have e0 : (fun x10 x11 x12 x13 => iter (exc E222 (it222 N) (loopOf Try.f222 11)) (canon (E222.keep 11))  n (tabl (T222_1 x10 x11 x12 x13)) K) = Pu.slices_Concat_string.l11 N (fun y0 y1 y2 y3 => (K (.exit 2) (tabl (T222_1 y0 y1 y2 y3)))) n := by funext x10 x11 x12 x13; exact ih x10 x11 x12 x13
    intro x10 x11 x12 x13
    have h : ∀ g, exc E222 (it222 N) (loopOf Try.f222 11) (tabl (T222_1 x10 x11 x12 x13)) (iterK g (canon (E222.keep 11)) K) = Pu.slices_Concat_string.r11 N (fun x10 x11 x12 x13 => (g (tabl (T222_1 x10 x11 x12 x13)))) (fun y0 y1 y2 y3 => (K (.exit 2) (tabl (T222_1 y0 y1 y2 y3)))) x10 x11 x12 x13 := by intro g; kernel_rfl
    refine (iter_succ _ _ n _ K).trans ((h _).trans ?_)
    show Pu.slices_Concat_string.r11 N (fun x10 x11 x12 x13 => (iter (exc E222 (it222 N) (loopOf Try.f222 11)) (canon (E222.keep 11))  n (tabl (T222_1 x10 x11 x12 x13)) K)) (fun y0 y1 y2 y3 => (K (.exit 2) (tabl (T222_1 y0 y1 y2 y3)))) x10 x11 x12 x13 = _
    rw [e0]; rfl
theorem lo222_11 {R : Type} (N : Nat) : LoopOk E222 (it222 N (R := R)) (loopOf Try.f222 11) := by
  have e : firstRid (loopOf Try.f222 11) = 11 := by kernel_rfl
  intro L K r
  rw [e]
  intro h
  unfold it222 at h
  simp only [show Nat.beq 11 3 = false from rfl, show Nat.beq 11 11 = true from rfl, cond_false, cond_true] at h
  refine tell_ok (Q := fun L => ∃ n, iter (exc E222 (it222 N) (loopOf Try.f222 11)) (canon (E222.keep 11)) n (tabl L) K = some r) h (fun xs h => ?_) (fun h => ?_)
  · (try dsimp only at h)
    split at h
    · exact ⟨N, ((e222_11 N K N) _ _ _ _).trans h⟩
    · cases h
  cases h
def sp222 : List Arg → Option (Bool × Res)
  | [(.v false [(.sh 44 slices0)])] => some (Pu.slices_Concat_string.c slices0, ⟨[(.v false [(.ow 9 true (Pu.slices_Concat_string.v slices0))])], []⟩)
  | _ => none
theorem ok222 : FnOk Try.prog T 222 sp222 := by
  refine fn_ok (E := E222) hE (call_cons ok234 call_nil) hM Try.func222 (code := (Try.f222.body.getD .skip)) (by kernel_rfl) (by kernel_rfl) ?_
  have key : ∀ (slices0 : Row), Pu.slices_Concat_string.c slices0 = true → ∃ it : It Res, (∀ c ∈ loopsOf (Try.f222.body.getD .skip), LoopOk E222 it c) ∧ body E222 it Try.f222 [(.v false [(.sh 44 slices0)])] = some ⟨[(.v false [(.ow 9 true (Pu.slices_Concat_string.v slices0))])], []⟩ := by
    intro slices0  h1
    obtain ⟨N, hN⟩ := Pu.slices_Concat_string.b_eq (R := Res) (fun r0 => some ⟨[(.v false [(.ow 9 true r0)])], []⟩) slices0 h1
    have hl : loopsOf (Try.f222.body.getD .skip) = [loopOf Try.f222 3, loopOf Try.f222 11] := by kernel_rfl
    refine ⟨it222 N, by rw [hl]; exact (loops_cons (lo222_3 N) (loops_cons (lo222_11 N) loops_nil)), ?_⟩
    refine Eq.trans (show body E222 (it222 N) Try.f222 [(.v false [(.sh 44 slices0)])] = Pu.slices_Concat_string.b N (fun r0 => some ⟨[(.v false [(.ow 9 true r0)])], []⟩) slices0 by kernel_rfl) hN
  intro args r h
  unfold sp222 at h
  split at h
  · injection h with h
    injection h with h1 h2
    subst h2
    exact ⟨by kernel_rfl, fun hf => ⟨of_decide_eq_true (by kernel_rfl), key _ h1⟩⟩
  · cases h

end Go.FG.Se

namespace Go.FG.Se
open Go.Proofs
def E183 : Env := { toTab := T, call := Go.FG.callIn [(222, sp222)], mode := Go.FG.modeIn md, keep := Go.FG.keepIn [], tk := fun n => Go.FG.memB n [], om := Go.FG.omIn [] }
def sp183 : List Arg → Option (Bool × Res)
  | [(.v true [(.sh 9 p0_0), (.sh 9 p0_1), (.sh 30 p0_2), (.i .i64 p0_3)])] => some (Pu.impl_keysIn.c p0_0 p0_1 p0_2 p0_3, ⟨[(.v false [(.ow 9 true (Pu.impl_keysIn.v p0_0 p0_1 p0_2 p0_3))])], []⟩)
  | _ => none
theorem ok183 : FnOk Try.prog T 183 sp183 := by
  refine fn_ok (E := E183) hE (call_cons ok222 call_nil) hM Try.func183 (code := (Try.f183.body.getD .skip)) (by kernel_rfl) (by kernel_rfl) ?_
  have key : ∀ (p0_0 : Row) (p0_1 : Row) (p0_2 : Row) (p0_3 : Int), Pu.impl_keysIn.c p0_0 p0_1 p0_2 p0_3 = true → ∃ it : It Res, (∀ c ∈ loopsOf (Try.f183.body.getD .skip), LoopOk E183 it c) ∧ body E183 it Try.f183 [(.v true [(.sh 9 p0_0), (.sh 9 p0_1), (.sh 30 p0_2), (.i .i64 p0_3)])] = some ⟨[(.v false [(.ow 9 true (Pu.impl_keysIn.v p0_0 p0_1 p0_2 p0_3))])], []⟩ := by
    intro p0_0 p0_1 p0_2 p0_3  h1
    have hN := Pu.impl_keysIn.b_eq (R := Res) (fun r0 => some ⟨[(.v false [(.ow 9 true r0)])], []⟩) p0_0 p0_1 p0_2 p0_3 h1
    have hl : loopsOf (Try.f183.body.getD .skip) = [] := by kernel_rfl
    refine ⟨iterN 0, by rw [hl]; exact loops_nil, ?_⟩
    refine Eq.trans (show body E183 (iterN 0) Try.f183 [(.v true [(.sh 9 p0_0), (.sh 9 p0_1), (.sh 30 p0_2), (.i .i64 p0_3)])] = Pu.impl_keysIn.b (fun r0 => some ⟨[(.v false [(.ow 9 true r0)])], []⟩) p0_0 p0_1 p0_2 p0_3 by kernel_rfl) hN
  intro args r h
  unfold sp183 at h
  split at h
  · injection h with h
    injection h with h1 h2
    subst h2
    exact ⟨by kernel_rfl, fun hf => ⟨of_decide_eq_true (by kernel_rfl), key _ _ _ _ h1⟩⟩
  · cases h

end Go.FG.Se

namespace Go.FG.Se
open Go.Proofs
def T191_0 (p0 : Row) (p1 : ByteArray) (p2 : Int) (p3 : Int) (p4 : Int) : List (Nat × Cel) := [(0, (.v (.v false [(.sh 9 p0)]))), (2, (.v (.v false [(.s p1)]))), (8, (.v (.v false [(.i .i64 p2)]))), (14, (.v (.v false [(.i .i64 p3)]))), (16, (.v (.v false [(.i .i64 p4)])))]
def E191 : Env := { toTab := T, call := Go.FG.callIn [], mode := Go.FG.modeIn md, keep := Go.FG.keepIn [(2, [0, 1, 4, 7, 8])], tk := fun n => Go.FG.memB n [], om := Go.FG.omIn [] }
def it191 (N : Nat) {R : Type} : It R := fun rid f cn L K => bif Nat.beq rid 2 then (tell [(0, (.v (.v false [(.sh 9 [])]))), (2, (.v (.v false [(.s ⟨#[]⟩)]))), (8, (.v (.v false [(.i .i64 0)]))), (14, (.v (.v false [(.i .i64 0)]))), (16, (.v (.v false [(.i .i64 0)])))] (fun | [.R x0, .S x1, .I x2, .I x3, .I x4] => Pu.slices_Index_string.l2 N (fun y0 y1 y2 y3 y4 => (K .ret (tabl (T191_0 y0 y1 y2 y3 y4)))) (fun y0 y1 y2 y3 y4 => (K (.exit 0) (tabl (T191_0 y0 y1 y2 y3 y4)))) N x0 x1 x2 x3 x4 | _ => none) L (none)) else none
theorem e191_2 {R : Type} (N : Nat) (K : Ex → St → Option R) : ∀ n : Nat, (∀ x0 x1 x2 x3 x4, iter (exc E191 (it191 N) (loopOf Try.f191 2)) (canon (E191.keep 2))  n (tabl (T191_0 x0 x1 x2 x3 x4)) K = Pu.slices_Index_string.l2 N (fun y0 y1 y2 y3 y4 => (K .ret (tabl (T191_0 y0 y1 y2 y3 y4)))) (fun y0 y1 y2 y3 y4 => (K (.exit 0) (tabl (T191_0 y0 y1 y2 y3 y4)))) n x0 x1 x2 x3 x4) := by
  intro n
  induction n with
  | zero => exact (fun _ _ _ _ _ => rfl)
  | succ n ih =>
    have e0 : (fun x0 x1 x2 x3 x4 => iter (exc E191 (it191 N) (loopOf Try.f191 2)) (canon (E191.keep 2))  n (tabl (T191_0 x0 x1 x2 x3 x4)) K) = Pu.slices_Index_string.l2 N (fun y0 y1 y2 y3 y4 => (K .ret (tabl (T191_0 y0 y1 y2 y3 y4)))) (fun y0 y1 y2 y3 y4 => (K (.exit 0) (tabl (T191_0 y0 y1 y2 y3 y4)))) n := by funext x0 x1 x2 x3 x4; exact ih x0 x1 x2 x3 x4
    intro x0 x1 x2 x3 x4
    have h : ∀ g, exc E191 (it191 N) (loopOf Try.f191 2) (tabl (T191_0 x0 x1 x2 x3 x4)) (iterK g (canon (E191.keep 2)) K) = Pu.slices_Index_string.r2 N (fun x0 x1 x2 x3 x4 => (g (tabl (T191_0 x0 x1 x2 x3 x4)))) (fun y0 y1 y2 y3 y4 => (K .ret (tabl (T191_0 y0 y1 y2 y3 y4)))) (fun y0 y1 y2 y3 y4 => (K (.exit 0) (tabl (T191_0 y0 y1 y2 y3 y4)))) x0 x1 x2 x3 x4 := by intro g; kernel_rfl
    refine (iter_succ _ _ n _ K).trans ((h _).trans ?_)
    show Pu.slices_Index_string.r2 N (fun x0 x1 x2 x3 x4 => (iter (exc E191 (it191 N) (loopOf Try.f191 2)) (canon (E191.keep 2))  n (tabl (T191_0 x0 x1 x2 x3 x4)) K)) (fun y0 y1 y2 y3 y4 => (K .ret (tabl (T191_0 y0 y1 y2 y3 y4)))) (fun y0 y1 y2 y3 y4 => (K (.exit 0) (tabl (T191_0 y0 y1 y2 y3 y4)))) x0 x1 x2 x3 x4 = _
    rw [e0]; rfl
theorem lo191_2 {R : Type} (N : Nat) : LoopOk E191 (it191 N (R := R)) (loopOf Try.f191 2) := by
  have e : firstRid (loopOf Try.f191 2) = 2 := by kernel_rfl
  intro L K r
  rw [e]
  intro h
  unfold it191 at h
  simp only [show Nat.beq 2 2 = true from rfl, cond_false, cond_true] at h
  refine tell_ok (Q := fun L => ∃ n, iter (exc E191 (it191 N) (loopOf Try.f191 2)) (canon (E191.keep 2)) n (tabl L) K = some r) h (fun xs h => ?_) (fun h => ?_)
  · (try dsimp only at h)
    split at h
    · exact ⟨N, ((e191_2 N K N) _ _ _ _ _).trans h⟩
    · cases h
  cases h
def sp191 : List Arg → Option (Bool × Res)
  | [(.v false [(.sh 9 s0)]), (.v false [(.s v1)])] => some (Pu.slices_Index_string.c s0 v1, ⟨[(.v false [(.i .i64 (Pu.slices_Index_string.v s0 v1))])], []⟩)
  | _ => none
theorem ok191 : FnOk Try.prog T 191 sp191 := by
  refine fn_ok (E := E191) hE call_nil hM Try.func191 (code := (Try.f191.body.getD .skip)) (by kernel_rfl) (by kernel_rfl) ?_
  have key : ∀ (s0 : Row) (v1 : ByteArray), Pu.slices_Index_string.c s0 v1 = true → ∃ it : It Res, (∀ c ∈ loopsOf (Try.f191.body.getD .skip), LoopOk E191 it c) ∧ body E191 it Try.f191 [(.v false [(.sh 9 s0)]), (.v false [(.s v1)])] = some ⟨[(.v false [(.i .i64 (Pu.slices_Index_string.v s0 v1))])], []⟩ := by
    intro s0 v1  h1
    obtain ⟨N, hN⟩ := Pu.slices_Index_string.b_eq (R := Res) (fun r0 => some ⟨[(.v false [(.i .i64 r0)])], []⟩) s0 v1 h1
    have hl : loopsOf (Try.f191.body.getD .skip) = [loopOf Try.f191 2] := by kernel_rfl
    refine ⟨it191 N, by rw [hl]; exact (loops_cons (lo191_2 N) loops_nil), ?_⟩
    refine Eq.trans (show body E191 (it191 N) Try.f191 [(.v false [(.sh 9 s0)]), (.v false [(.s v1)])] = Pu.slices_Index_string.b N (fun r0 => some ⟨[(.v false [(.i .i64 r0)])], []⟩) s0 v1 by kernel_rfl) hN
  intro args r h
  unfold sp191 at h
  split at h
  · injection h with h
    injection h with h1 h2
    subst h2
    exact ⟨by kernel_rfl, fun hf => ⟨of_decide_eq_true (by kernel_rfl), key _ _ h1⟩⟩
  · cases h

end Go.FG.Se

namespace Go.FG.Se
open Go.Proofs
def E110 : Env := { toTab := T, call := Go.FG.callIn [(191, sp191)], mode := Go.FG.modeIn md, keep := Go.FG.keepIn [], tk := fun n => Go.FG.memB n [], om := Go.FG.omIn [] }
def sp110 : List Arg → Option (Bool × Res)
  | [(.v false [(.sh 9 s0)]), (.v false [(.s v1)])] => some (Pu.slices_Contains_string.c s0 v1, ⟨[(.v false [(.b (Pu.slices_Contains_string.v s0 v1))])], []⟩)
  | _ => none
theorem ok110 : FnOk Try.prog T 110 sp110 := by
  refine fn_ok (E := E110) hE (call_cons ok191 call_nil) hM Try.func110 (code := (Try.f110.body.getD .skip)) (by kernel_rfl) (by kernel_rfl) ?_
  have key : ∀ (s0 : Row) (v1 : ByteArray), Pu.slices_Contains_string.c s0 v1 = true → ∃ it : It Res, (∀ c ∈ loopsOf (Try.f110.body.getD .skip), LoopOk E110 it c) ∧ body E110 it Try.f110 [(.v false [(.sh 9 s0)]), (.v false [(.s v1)])] = some ⟨[(.v false [(.b (Pu.slices_Contains_string.v s0 v1))])], []⟩ := by
    intro s0 v1  h1
    have hN := Pu.slices_Contains_string.b_eq (R := Res) (fun r0 => some ⟨[(.v false [(.b r0)])], []⟩) s0 v1 h1
    have hl : loopsOf (Try.f110.body.getD .skip) = [] := by kernel_rfl
    refine ⟨iterN 0, by rw [hl]; exact loops_nil, ?_⟩
    refine Eq.trans (show body E110 (iterN 0) Try.f110 [(.v false [(.sh 9 s0)]), (.v false [(.s v1)])] = Pu.slices_Contains_string.b (fun r0 => some ⟨[(.v false [(.b r0)])], []⟩) s0 v1 by kernel_rfl) hN
  intro args r h
  unfold sp110 at h
  split at h
  · injection h with h
    injection h with h1 h2
    subst h2
    exact ⟨by kernel_rfl, fun hf => ⟨of_decide_eq_true (by kernel_rfl), key _ _ h1⟩⟩
  · cases h

end Go.FG.Se

namespace Go.FG.Se
open Go.Proofs
def E182 : Env := { toTab := T, call := Go.FG.callIn [(183, sp183), (110, sp110)], mode := Go.FG.modeIn md, keep := Go.FG.keepIn [], tk := fun n => Go.FG.memB n [], om := Go.FG.omIn [] }
def sp182 : List Arg → Option (Bool × Res)
  | [(.v true [(.sh 9 p0_0), (.sh 9 p0_1), (.sh 30 p0_2), (.i .i64 p0_3)]), (.v false [(.s key1)])] => some (Pu.impl_PolicyHas.c p0_0 p0_1 p0_2 p0_3 key1, ⟨[(.v false [(.b (Pu.impl_PolicyHas.v p0_0 p0_1 p0_2 p0_3 key1))])], []⟩)
  | _ => none
theorem ok182 : FnOk Try.prog T 182 sp182 := by
  refine fn_ok (E := E182) hE (call_cons ok183 (call_cons ok110 call_nil)) hM Try.func182 (code := (Try.f182.body.getD .skip)) (by kernel_rfl) (by kernel_rfl) ?_
  have key : ∀ (p0_0 : Row) (p0_1 : Row) (p0_2 : Row) (p0_3 : Int) (key1 : ByteArray), Pu.impl_PolicyHas.c p0_0 p0_1 p0_2 p0_3 key1 = true → ∃ it : It Res, (∀ c ∈ loopsOf (Try.f182.body.getD .skip), LoopOk E182 it c) ∧ body E182 it Try.f182 [(.v true [(.sh 9 p0_0), (.sh 9 p0_1), (.sh 30 p0_2), (.i .i64 p0_3)]), (.v false [(.s key1)])] = some ⟨[(.v false [(.b (Pu.impl_PolicyHas.v p0_0 p0_1 p0_2 p0_3 key1))])], []⟩ := by
    intro p0_0 p0_1 p0_2 p0_3 key1  h1
    have hN := Pu.impl_PolicyHas.b_eq (R := Res) (fun r0 => some ⟨[(.v false [(.b r0)])], []⟩) p0_0 p0_1 p0_2 p0_3 key1 h1
    have hl : loopsOf (Try.f182.body.getD .skip) = [] := by kernel_rfl
    refine ⟨iterN 0, by rw [hl]; exact loops_nil, ?_⟩
    refine Eq.trans (show body E182 (iterN 0) Try.f182 [(.v true [(.sh 9 p0_0), (.sh 9 p0_1), (.sh 30 p0_2), (.i .i64 p0_3)]), (.v false [(.s key1)])] = Pu.impl_PolicyHas.b (fun r0 => some ⟨[(.v false [(.b r0)])], []⟩) p0_0 p0_1 p0_2 p0_3 key1 by kernel_rfl) hN
  intro args r h
  unfold sp182 at h
  split at h
  · injection h with h
    injection h with h1 h2
    subst h2
    exact ⟨by kernel_rfl, fun hf => ⟨of_decide_eq_true (by kernel_rfl), key _ _ _ _ _ h1⟩⟩
  · cases h

end Go.FG.Se

namespace Go.FG.Se
open Go.Proofs
def T178_0 (p0 : Bool) (p1 : Row) (p2 : Int) (p3 : Int) (p4 : Row) (p5 : Int) : List (Nat × Cel) := [(2, (.v (.v false [(.bp 0 0)]))), (4, (.v (.v false [(.b p0)]))), (16, (.v (.v false [(.sh 30 p1)]))), (18, (.v (.v false [(.i .i64 p2)]))), (20, (.v (.v false [(.i .i64 p3)]))), (1, (.o (.box [(.sh 30 p4), (.i .i64 p5)])))]
def T178_1 (p0 : Bool) (p1 : Row) (p2 : Row) (p3 : Int) (p4 : Int) (p5 : Row) (p6 : Int) (p7 : Int) (p8 : Row) (p9 : Int) : List (Nat × Cel) := [(2, (.v (.v false [(.bp 0 0)]))), (4, (.v (.v false [(.b p0)]))), (8, (.v (.v false [(.sh 3 p1)]))), (16, (.v (.v false [(.sh 30 p2)]))), (18, (.v (.v false [(.i .i64 p3)]))), (20, (.v (.v false [(.i .i64 p4)]))), (28, (.v (.v false [(.sh 3 p5)]))), (30, (.v (.v false [(.i .i64 p6)]))), (32, (.v (.v false [(.i .i64 p7)]))), (1, (.o (.box [(.sh 30 p8), (.i .i64 p9)])))]
def E178 : Env := { toTab := T, call := Go.FG.callIn [(70, sp70)], mode := Go.FG.modeIn md, keep := Go.FG.keepIn [(2, [1, 2, 8, 9, 10]), (5, [1, 2, 4, 8, 9, 10, 14, 15, 16])], tk := fun n => Go.FG.memB n [], om := Go.FG.omIn [] }
def it178 (N : Nat) {R : Type} : It R := fun rid f cn L K => bif Nat.beq rid 2 then (tell [(2, (.v (.v false [(.bp 0 0)]))), (4, (.v (.v false [(.b false)]))), (16, (.v (.v false [(.sh 30 [])]))), (18, (.v (.v false [(.i .i64 0)]))), (20, (.v (.v false [(.i .i64 0)]))), (1, (.o (.box [(.sh 30 []), (.i .i64 0)])))] (fun | [.B x0, .R x1, .I x2, .I x3, .R x4, .I x5] => Pu.impl_SketchOk.l2 N (fun y0 y1 y2 y3 y4 y5 => (K .ret (tabl (T178_0 y0 y1 y2 y3 y4 y5)))) (fun y0 y1 y2 y3 y4 y5 => (K (.exit 0) (tabl (T178_0 y0 y1 y2 y3 y4 y5)))) N x0 x1 x2 x3 x4 x5 | _ => none) L (none)) else bif Nat.beq rid 5 then (tell [(2, (.v (.v false [(.bp 0 0)]))), (4, (.v (.v false [(.b false)]))), (8, (.v (.v false [(.sh 3 [])]))), (16, (.v (.v false [(.sh 30 [])]))), (18, (.v (.v false [(.i .i64 0)]))), (20, (.v (.v false [(.i .i64 0)]))), (28, (.v (.v false [(.sh 3 [])]))), (30, (.v (.v false [(.i .i64 0)]))), (32, (.v (.v false [(.i .i64 0)]))), (1, (.o (.box [(.sh 30 []), (.i .i64 0)])))] (fun | [.B x6, .R x7, .R x8, .I x9, .I x10, .R x11, .I x12, .I x13, .R x14, .I x15] => Pu.impl_SketchOk.l5 N (fun y0 y1 y2 y3 y4 y5 y6 y7 y8 y9 => (K .ret (tabl (T178_1 y0 y1 y2 y3 y4 y5 y6 y7 y8 y9)))) (fun y0 y1 y2 y3 y4 y5 y6 y7 y8 y9 => (K (.exit 2) (tabl (T178_1 y0 y1 y2 y3 y4 y5 y6 y7 y8 y9)))) N x6 x7 x8 x9 x10 x11 x12 x13 x14 x15 | _ => none) L (none)) else none
theorem e178_2 {R : Type} (N : Nat) (K : Ex → St → Option R) : ∀ n : Nat, (∀ x0 x1 x2 x3 x4 x5, iter (exc E178 (it178 N) (loopOf Try.f178 2)) (canon (E178.keep 2))  n (tabl (T178_0 x0 x1 x2 x3 x4 x5)) K = Pu.impl_SketchOk.l2 N (fun y0 y1 y2 y3 y4 y5 => (K .ret (tabl (T178_0 y0 y1 y2 y3 y4 y5)))) (fun y0 y1 y2 y3 y4 y5 => (K (.exit 0) (tabl (T178_0 y0 y1 y2 y3 y4 y5)))) n x0 x1 x2 x3 x4 x5) := by
  intro n
  induction n with
  | zero => exact (fun _ _ _ _ _ _ => rfl)
  | succ n ih =>
    have e0 : (fun x0 x1 x2 x3 x4 x5 => iter (exc E178 (it178 N) (loopOf Try.f178 2)) (canon (E178.keep 2))  n (tabl (T178_0 x0 x1 x2 x3 x4 x5)) K) = Pu.impl_SketchOk.l2 N (fun y0 y1 y2 y3 y4 y5 => (K .ret (tabl (T178_0 y0 y1 y2 y3 y4 y5)))) (fun y0 y1 y2 y3 y4 y5 => (K (.exit 0) (tabl (T178_0 y0 y1 y2 y3 y4 y5)))) n := by funext x0 x1 x2 x3 x4 x5; exact ih x0 x1 x2 x3 x4 x5
    intro x0 x1 x2 x3 x4 x5
    have h : ∀ g, exc E178 (it178 N) (loopOf Try.f178 2) (tabl (T178_0 x0 x1 x2 x3 x4 x5)) (iterK g (canon (E178.keep 2)) K) = Pu.impl_SketchOk.r2 N (fun x0 x1 x2 x3 x4 x5 => (g (tabl (T178_0 x0 x1 x2 x3 x4 x5)))) (fun y0 y1 y2 y3 y4 y5 => (K .ret (tabl (T178_0 y0 y1 y2 y3 y4 y5)))) (fun y0 y1 y2 y3 y4 y5 => (K (.exit 0) (tabl (T178_0 y0 y1 y2 y3 y4 y5)))) x0 x1 x2 x3 x4 x5 := by intro g; kernel_rfl
    refine (iter_succ _ _ n _ K).trans ((h _).trans ?_)
    show Pu.impl_SketchOk.r2 N (fun x0 x1 x2 x3 x4 x5 => (iter (exc E178 (it178 N) (loopOf Try.f178 2)) (canon (E178.keep 2))  n (tabl (T178_0 x0 x1 x2 x3 x4 x5)) K)) (fun y0 y1 y2 y3 y4 y5 => (K .ret (tabl (T178_0 y0 y1 y2 y3 y4 y5)))) (fun y0 y1 y2 y3 y4 y5 => (K (.exit 0) (tabl (T178_0 y0 y1 y2 y3 y4 y5)))) x0 x1 x2 x3 x4 x5 = _
    rw [e0]; rfl
theorem lo178_2 {R : Type} (N : Nat) : LoopOk E178 (it178 N (R := R)) (loopOf Try.f178 2) := by
  have e : firstRid (loopOf Try.f178 2) = 2 := by kernel_rfl
  intro L K r
  rw [e]
  intro h
  unfold it178 at h
  simp only [show Nat.beq 2 2 = true from rfl, cond_false, cond_true] at h
  refine tell_ok (Q := fun L => ∃ n, iter (exc E178 (it178 N) (loopOf Try.f178 2)) (canon (E178.keep 2)) n (tabl L) K = some r) h (fun xs h => ?_) (fun h => ?_)
  · (try dsimp only at h)
    split at h
    · exact ⟨N, ((e178_2 N K N) _ _ _ _ _ _).trans h⟩
    · cases h
  cases h
theorem e178_5 {R : Type} (N : Nat) (K : Ex → St → Option R) : ∀ n : Nat, (∀ x6 x7 x8 x9 x10 x11 x12 x13 x14 x15, iter (exc E178 (it178 N) (loopOf Try.f178 5)) (canon (E178.keep 5))  n (tabl (T178_1 x6 x7 x8 x9 x10 x11 x12 x13 x14 x15)) K = Pu.impl_SketchOk.l5 N (fun y0 y1 y2 y3 y4 y5 y6 y7 y8 y9 => (K .ret (tabl (T178_1 y0 y1 y2 y3 y4 y5 y6 y7 y8 y9)))) (fun y0 y1 y2 y3 y4 y5 y6 y7 y8 y9 => (K (.exit 2) (tabl (T178_1 y0 y1 y2 y3 y4 y5 y6 y7 y8 y9)))) n x6 x7 x8 x9 x10 x11 x12 x13 x14 x15) := by
  intro n
  induction n with
  | zero => exact (fun _ _ _ _ _ _ _ _ _ _ => rfl)
  | succ n ih =>
    have e0 : (fun x6 x7 x8 x9 x10 x11 x12 x13 x14 x15 => iter (exc E178 (it178 N) (loopOf Try.f178 5)) (canon (E178.keep 5))  n (tabl (T178_1 x6 x7 x8 x9 x10 x11 x12 x13 x14 x15)) K) = Pu.impl_SketchOk.l5 N (fun y0 y1 y2 y3 y4 y5 y6 y7 y8 y9 => (K .ret (tabl (T178_1 y0 y1 y2 y3 y4 y5 y6 y7 y8 y9)))) (fun y0 y1 y2 y3 y4 y5 y6 y7 y8 y9 => (K (.exit 2) (tabl (T178_1 y0 y1 y2 y3 y4 y5 y6 y7 y8 y9)))) n := by funext x6 x7 x8 x9 x10 x11 x12 x13 x14 x15; exact ih x6 x7 x8 x9 x10 x11 x12 x13 x14 x15
    intro x6 x7 x8 x9 x10 x11 x12 x13 x14 x15
    have h : ∀ g, exc E178 (it178 N) (loopOf Try.f178 5) (tabl (T178_1 x6 x7 x8 x9 x10 x11 x12 x13 x14 x15)) (iterK g (canon (E178.keep 5)) K) = Pu.impl_SketchOk.r5 N (fun x6 x7 x8 x9 x10 x11 x12 x13 x14 x15 => (g (tabl (T178_1 x6 x7 x8 x9 x10 x11 x12 x13 x14 x15)))) (fun y0 y1 y2 y3 y4 y5 y6 y7 y8 y9 => (K .ret (tabl (T178_1 y0 y1 y2 y3 y4 y5 y6 y7 y8 y9)))) (fun y0 y1 y2 y3 y4 y5 y6 y7 y8 y9 => (K (.exit 2) (tabl (T178_1 y0 y1 y2 y3 y4 y5 y6 y7 y8 y9)))) x6 x7 x8 x9 x10 x11 x12 x13 x14 x15 := by intro g; kernel_rfl
    refine (iter_succ _ _ n _ K).trans ((h _).trans ?_)
    show Pu.impl_SketchOk.r5 N (fun x6 x7 x8 x9 x10 x11 x12 x13 x14 x15 => (iter (exc E178 (it178 N) (loopOf Try.f178 5)) (canon (E178.keep 5))  n (tabl (T178_1 x6 x7 x8 x9 x10 x11 x12 x13 x14 x15)) K)) (fun y0 y1 y2 y3 y4 y5 y6 y7 y8 y9 => (K .ret (tabl (T178_1 y0 y1 y2 y3 y4 y5 y6 y7 y8 y9)))) (fun y0 y1 y2 y3 y4 y5 y6 y7 y8 y9 => (K (.exit 2) (tabl (T178_1 y0 y1 y2 y3 y4 y5 y6 y7 y8 y9)))) x6 x7 x8 x9 x10 x11 x12 x13 x14 x15 = _
    rw [e0]; rfl
theorem lo178_5 {R : Type} (N : Nat) : LoopOk E178 (it178 N (R := R)) (loopOf Try.f178 5) := by
  have e : firstRid (loopOf Try.f178 5) = 5 := by kernel_rfl
  intro L K r
  rw [e]
  intro h
  unfold it178 at h
  simp only [show Nat.beq 5 2 = false from rfl, show Nat.beq 5 5 = true from rfl, cond_false, cond_true] at h
  refine tell_ok (Q := fun L => ∃ n, iter (exc E178 (it178 N) (loopOf Try.f178 5)) (canon (E178.keep 5)) n (tabl L) K = some r) h (fun xs h => ?_) (fun h => ?_)
  · (try dsimp only at h)
    split at h
    · exact ⟨N, ((e178_5 N K N) _ _ _ _ _ _ _ _ _ _).trans h⟩
    · cases h
  cases h
def sp178 : List Arg → Option (Bool × Res)
  | [(.v true [(.sh 30 s0_0), (.i .i64 s0_1)])] => some (Pu.impl_SketchOk.c s0_0 s0_1, ⟨[(.v false [(.b (Pu.impl_SketchOk.v s0_0 s0_1))])], []⟩)
  | _ => none
theorem ok178 : FnOk Try.prog T 178 sp178 := by
  refine fn_ok (E := E178) hE (call_cons ok70 call_nil) hM Try.func178 (code := (Try.f178.body.getD .skip)) (by kernel_rfl) (by kernel_rfl) ?_
  have key : ∀ (s0_0 : Row) (s0_1 : Int), Pu.impl_SketchOk.c s0_0 s0_1 = true → ∃ it : It Res, (∀ c ∈ loopsOf (Try.f178.body.getD .skip), LoopOk E178 it c) ∧ body E178 it Try.f178 [(.v true [(.sh 30 s0_0), (.i .i64 s0_1)])] = some ⟨[(.v false [(.b (Pu.impl_SketchOk.v s0_0 s0_1))])], []⟩ := by
    intro s0_0 s0_1  h1
    obtain ⟨N, hN⟩ := Pu.impl_SketchOk.b_eq (R := Res) (fun r0 => some ⟨[(.v false [(.b r0)])], []⟩) s0_0 s0_1 h1
    have hl : loopsOf (Try.f178.body.getD .skip) = [loopOf Try.f178 2, loopOf Try.f178 5] := by kernel_rfl
    refine ⟨it178 N, by rw [hl]; exact (loops_cons (lo178_2 N) (loops_cons (lo178_5 N) loops_nil)), ?_⟩
    refine Eq.trans (show body E178 (it178 N) Try.f178 [(.v true [(.sh 30 s0_0), (.i .i64 s0_1)])] = Pu.impl_SketchOk.b N (fun r0 => some ⟨[(.v false [(.b r0)])], []⟩) s0_0 s0_1 by kernel_rfl) hN
  intro args r h
  unfold sp178 at h
  split at h
  · injection h with h
    injection h with h1 h2
    subst h2
    exact ⟨by kernel_rfl, fun hf => ⟨of_decide_eq_true (by kernel_rfl), key _ _ h1⟩⟩
  · cases h

end Go.FG.Se

namespace Go.FG.Se
open Go.Proofs
def T109_0 (p0 : Bool) (p1 : Int) (p2 : Int) (p3 : Row) (p4 : Row) (p5 : Row) (p6 : Int) (p7 : Row) : List (Nat × Cel) := [(2, (.v (.v false [(.bp 0 0)]))), (4, (.v (.v false [(.b p0)]))), (6, (.v (.v false [(.own 1)]))), (16, (.v (.v false [(.own 1)]))), (18, (.v (.v false [(.i .i64 p1)]))), (20, (.v (.v false [(.i .i64 p2)]))), (1, (.o (.box [(.sh 9 p3), (.sh 9 p4), (.sh 30 p5), (.i .i64 p6)]))), (3, (.o (.row 9 true p7)))]
def E109 : Env := { toTab := T, call := Go.FG.callIn [(183, sp183), (78, sp78), (110, sp110), (178, sp178)], mode := Go.FG.modeIn md, keep := Go.FG.keepIn [(3, [1, 2, 3, 8, 9, 10])], tk := fun n => Go.FG.memB n [], om := Go.FG.omIn [] }
def it109 (N : Nat) {R : Type} : It R := fun rid f cn L K => bif Nat.beq rid 3 then (tell [(2, (.v (.v false [(.bp 0 0)]))), (4, (.v (.v false [(.b false)]))), (6, (.v (.v false [(.own 1)]))), (16, (.v (.v false [(.own 1)]))), (18, (.v (.v false [(.i .i64 0)]))), (20, (.v (.v false [(.i .i64 0)]))), (1, (.o (.box [(.sh 9 []), (.sh 9 []), (.sh 30 []), (.i .i64 0)]))), (3, (.o (.row 9 true [])))] (fun | [.B x0, .I x1, .I x2, .R x3, .R x4, .R x5, .I x6, .R x7] => Pu.impl_PolicyOk.l3 N (fun y0 y1 y2 y3 y4 y5 y6 y7 => (K .ret (tabl (T109_0 y0 y1 y2 y3 y4 y5 y6 y7)))) (fun y0 y1 y2 y3 y4 y5 y6 y7 => (K (.exit 0) (tabl (T109_0 y0 y1 y2 y3 y4 y5 y6 y7)))) N x0 x1 x2 x3 x4 x5 x6 x7 | _ => none) L (none)) else none
theorem e109_3 {R : Type} (N : Nat) (K : Ex → St → Option R) : ∀ n : Nat, (∀ x0 x1 x2 x3 x4 x5 x6 x7, iter (exc E109 (it109 N) (loopOf Try.f109 3)) (canon (E109.keep 3))  n (tabl (T109_0 x0 x1 x2 x3 x4 x5 x6 x7)) K = Pu.impl_PolicyOk.l3 N (fun y0 y1 y2 y3 y4 y5 y6 y7 => (K .ret (tabl (T109_0 y0 y1 y2 y3 y4 y5 y6 y7)))) (fun y0 y1 y2 y3 y4 y5 y6 y7 => (K (.exit 0) (tabl (T109_0 y0 y1 y2 y3 y4 y5 y6 y7)))) n x0 x1 x2 x3 x4 x5 x6 x7) := by
  intro n
  induction n with
  | zero => exact (fun _ _ _ _ _ _ _ _ => rfl)
  | succ n ih =>
    have e0 : (fun x0 x1 x2 x3 x4 x5 x6 x7 => iter (exc E109 (it109 N) (loopOf Try.f109 3)) (canon (E109.keep 3))  n (tabl (T109_0 x0 x1 x2 x3 x4 x5 x6 x7)) K) = Pu.impl_PolicyOk.l3 N (fun y0 y1 y2 y3 y4 y5 y6 y7 => (K .ret (tabl (T109_0 y0 y1 y2 y3 y4 y5 y6 y7)))) (fun y0 y1 y2 y3 y4 y5 y6 y7 => (K (.exit 0) (tabl (T109_0 y0 y1 y2 y3 y4 y5 y6 y7)))) n := by funext x0 x1 x2 x3 x4 x5 x6 x7; exact ih x0 x1 x2 x3 x4 x5 x6 x7
    intro x0 x1 x2 x3 x4 x5 x6 x7
    have h : ∀ g, exc E109 (it109 N) (loopOf Try.f109 3) (tabl (T109_0 x0 x1 x2 x3 x4 x5 x6 x7)) (iterK g (canon (E109.keep 3)) K) = Pu.impl_PolicyOk.r3 N (fun x0 x1 x2 x3 x4 x5 x6 x7 => (g (tabl (T109_0 x0 x1 x2 x3 x4 x5 x6 x7)))) (fun y0 y1 y2 y3 y4 y5 y6 y7 => (K .ret (tabl (T109_0 y0 y1 y2 y3 y4 y5 y6 y7)))) (fun y0 y1 y2 y3 y4 y5 y6 y7 => (K (.exit 0) (tabl (T109_0 y0 y1 y2 y3 y4 y5 y6 y7)))) x0 x1 x2 x3 x4 x5 x6 x7 := by intro g; kernel_rfl
    refine (iter_succ _ _ n _ K).trans ((h _).trans ?_)
    show Pu.impl_PolicyOk.r3 N (fun x0 x1 x2 x3 x4 x5 x6 x7 => (iter (exc E109 (it109 N) (loopOf Try.f109 3)) (canon (E109.keep 3))  n (tabl (T109_0 x0 x1 x2 x3 x4 x5 x6 x7)) K)) (fun y0 y1 y2 y3 y4 y5 y6 y7 => (K .ret (tabl (T109_0 y0 y1 y2 y3 y4 y5 y6 y7)))) (fun y0 y1 y2 y3 y4 y5 y6 y7 => (K (.exit 0) (tabl (T109_0 y0 y1 y2 y3 y4 y5 y6 y7)))) x0 x1 x2 x3 x4 x5 x6 x7 = _
    rw [e0]; rfl
theorem lo109_3 {R : Type} (N : Nat) : LoopOk E109 (it109 N (R := R)) (loopOf Try.f109 3) := by
  have e : firstRid (loopOf Try.f109 3) = 3 := by kernel_rfl
  intro L K r
  rw [e]
  intro h
  unfold it109 at h
  simp only [show Nat.beq 3 3 = true from rfl, cond_false, cond_true] at h
  refine tell_ok (Q := fun L => ∃ n, iter (exc E109 (it109 N) (loopOf Try.f109 3)) (canon (E109.keep 3)) n (tabl L) K = some r) h (fun xs h => ?_) (fun h => ?_)
  · (try dsimp only at h)
    split at h
    · exact ⟨N, ((e109_3 N K N) _ _ _ _ _ _ _ _).trans h⟩
    · cases h
  cases h
def sp109 : List Arg → Option (Bool × Res)
  | [(.v true [(.sh 9 p0_0), (.sh 9 p0_1), (.sh 30 p0_2), (.i .i64 p0_3)])] => some (Pu.impl_PolicyOk.c p0_0 p0_1 p0_2 p0_3, ⟨[(.v false [(.b (Pu.impl_PolicyOk.v p0_0 p0_1 p0_2 p0_3))])], []⟩)
  | _ => none
theorem ok109 : FnOk Try.prog T 109 sp109 := by
  refine fn_ok (E := E109) hE (call_cons ok183 (call_cons ok78 (call_cons ok110 (call_cons ok178 call_nil)))) hM Try.func109 (code := (Try.f109.body.getD .skip)) (by kernel_rfl) (by kernel_rfl) ?_
  have key : ∀ (p0_0 : Row) (p0_1 : Row) (p0_2 : Row) (p0_3 : Int), Pu.impl_PolicyOk.c p0_0 p0_1 p0_2 p0_3 = true → ∃ it : It Res, (∀ c ∈ loopsOf (Try.f109.body.getD .skip), LoopOk E109 it c) ∧ body E109 it Try.f109 [(.v true [(.sh 9 p0_0), (.sh 9 p0_1), (.sh 30 p0_2), (.i .i64 p0_3)])] = some ⟨[(.v false [(.b (Pu.impl_PolicyOk.v p0_0 p0_1 p0_2 p0_3))])], []⟩ := by
    intro p0_0 p0_1 p0_2 p0_3  h1
    obtain ⟨N, hN⟩ := Pu.impl_PolicyOk.b_eq (R := Res) (fun r0 => some ⟨[(.v false [(.b r0)])], []⟩) p0_0 p0_1 p0_2 p0_3 h1
    have hl : loopsOf (Try.f109.body.getD .skip) = [loopOf Try.f109 3] := by kernel_rfl
    refine ⟨it109 N, by rw [hl]; exact (loops_cons (lo109_3 N) loops_nil), ?_⟩
    refine Eq.trans (show body E109 (it109 N) Try.f109 [(.v true [(.sh 9 p0_0), (.sh 9 p0_1), (.sh 30 p0_2), (.i .i64 p0_3)])] = Pu.impl_PolicyOk.b N (fun r0 => some ⟨[(.v false [(.b r0)])], []⟩) p0_0 p0_1 p0_2 p0_3 by kernel_rfl) hN
  intro args r h
  unfold sp109 at h
  split at h
  · injection h with h
    injection h with h1 h2
    subst h2
    exact ⟨by kernel_rfl, fun hf => ⟨of_decide_eq_true (by kernel_rfl), key _ _ _ _ h1⟩⟩
  · cases h

end Go.FG.Se

namespace Go.FG.Se
open Go.Proofs
def T93_0 (p0 : Bool) (p1 : Row) (p2 : Int) (p3 : Int) (p4 : Int) (p5 : Row) (p6 : Row) (p7 : Row) (p8 : Row) (p9 : Int) (p10 : Row) (p11 : Row) (p12 : Int) : List (Nat × Cel) := [(2, (.v (.v false [(.bp 0 0)]))), (4, (.v (.v false [(.b p0)]))), (12, (.v (.v false [(.sh 86 p1)]))), (14, (.v (.v false [(.i .i64 p2)]))), (16, (.v (.v false [(.i .i64 p3)]))), (1, (.o (.box [(.i .i64 p4), (.sh 86 p5), (.sh 9 p6), (.sh 9 p7), (.sh 30 p8), (.i .i64 p9), (.sh 126 p10), (.sh 62 p11), (.i .i64 p12)])))]
def E93 : Env := { toTab := T, call := Go.FG.callIn [(159, sp159), (182, sp182), (109, sp109), (183, sp183)], mode := Go.FG.modeIn md, keep := Go.FG.keepIn [(2, [1, 2, 6, 7, 8])], tk := fun n => Go.FG.memB n [], om := Go.FG.omIn [] }
def it93 (N : Nat) {R : Type} : It R := fun rid f cn L K => bif Nat.beq rid 2 then (tell [(2, (.v (.v false [(.bp 0 0)]))), (4, (.v (.v false [(.b false)]))), (12, (.v (.v false [(.sh 86 [])]))), (14, (.v (.v false [(.i .i64 0)]))), (16, (.v (.v false [(.i .i64 0)]))), (1, (.o (.box [(.i .i64 0), (.sh 86 []), (.sh 9 []), (.sh 9 []), (.sh 30 []), (.i .i64 0), (.sh 126 []), (.sh 62 []), (.i .i64 0)])))] (fun | [.B x0, .R x1, .I x2, .I x3, .I x4, .R x5, .R x6, .R x7, .R x8, .I x9, .R x10, .R x11, .I x12] => Pu.impl_entriesOk.l2 N (fun y0 y1 y2 y3 y4 y5 y6 y7 y8 y9 y10 y11 y12 => (K .ret (tabl (T93_0 y0 y1 y2 y3 y4 y5 y6 y7 y8 y9 y10 y11 y12)))) (fun y0 y1 y2 y3 y4 y5 y6 y7 y8 y9 y10 y11 y12 => (K (.exit 0) (tabl (T93_0 y0 y1 y2 y3 y4 y5 y6 y7 y8 y9 y10 y11 y12)))) N x0 x1 x2 x3 x4 x5 x6 x7 x8 x9 x10 x11 x12 | _ => none) L (none)) else none
theorem e93_2 {R : Type} (N : Nat) (K : Ex → St → Option R) : ∀ n : Nat, (∀ x0 x1 x2 x3 x4 x5 x6 x7 x8 x9 x10 x11 x12, iter (exc E93 (it93 N) (loopOf Try.f93 2)) (canon (E93.keep 2))  n (tabl (T93_0 x0 x1 x2 x3 x4 x5 x6 x7 x8 x9 x10 x11 x12)) K = Pu.impl_entriesOk.l2 N (fun y0 y1 y2 y3 y4 y5 y6 y7 y8 y9 y10 y11 y12 => (K .ret (tabl (T93_0 y0 y1 y2 y3 y4 y5 y6 y7 y8 y9 y10 y11 y12)))) (fun y0 y1 y2 y3 y4 y5 y6 y7 y8 y9 y10 y11 y12 => (K (.exit 0) (tabl (T93_0 y0 y1 y2 y3 y4 y5 y6 y7 y8 y9 y10 y11 y12)))) n x0 x1 x2 x3 x4 x5 x6 x7 x8 x9 x10 x11 x12) := by
  intro n
  induction n with
  | zero => exact (fun _ _ _ _ _ _ _ _ _ _ _ _ _ => rfl)
  | succ n ih =>
    have e0 : (fun x0 x1 x2 x3 x4 x5 x6 x7 x8 x9 x10 x11 x12 => iter (exc E93 (it93 N) (loopOf Try.f93 2)) (canon (E93.keep 2))  n (tabl (T93_0 x0 x1 x2 x3 x4 x5 x6 x7 x8 x9 x10 x11 x12)) K) = Pu.impl_entriesOk.l2 N (fun y0 y1 y2 y3 y4 y5 y6 y7 y8 y9 y10 y11 y12 => (K .ret (tabl (T93_0 y0 y1 y2 y3 y4 y5 y6 y7 y8 y9 y10 y11 y12)))) (fun y0 y1 y2 y3 y4 y5 y6 y7 y8 y9 y10 y11 y12 => (K (.exit 0) (tabl (T93_0 y0 y1 y2 y3 y4 y5 y6 y7 y8 y9 y10 y11 y12)))) n := by funext x0 x1 x2 x3 x4 x5 x6 x7 x8 x9 x10 x11 x12; exact ih x0 x1 x2 x3 x4 x5 x6 x7 x8 x9 x10 x11 x12
    intro x0 x1 x2 x3 x4 x5 x6 x7 x8 x9 x10 x11 x12
    have h : ∀ g, exc E93 (it93 N) (loopOf Try.f93 2) (tabl (T93_0 x0 x1 x2 x3 x4 x5 x6 x7 x8 x9 x10 x11 x12)) (iterK g (canon (E93.keep 2)) K) = Pu.impl_entriesOk.r2 N (fun x0 x1 x2 x3 x4 x5 x6 x7 x8 x9 x10 x11 x12 => (g (tabl (T93_0 x0 x1 x2 x3 x4 x5 x6 x7 x8 x9 x10 x11 x12)))) (fun y0 y1 y2 y3 y4 y5 y6 y7 y8 y9 y10 y11 y12 => (K .ret (tabl (T93_0 y0 y1 y2 y3 y4 y5 y6 y7 y8 y9 y10 y11 y12)))) (fun y0 y1 y2 y3 y4 y5 y6 y7 y8 y9 y10 y11 y12 => (K (.exit 0) (tabl (T93_0 y0 y1 y2 y3 y4 y5 y6 y7 y8 y9 y10 y11 y12)))) x0 x1 x2 x3 x4 x5 x6 x7 x8 x9 x10 x11 x12 := by intro g; kernel_rfl
    refine (iter_succ _ _ n _ K).trans ((h _).trans ?_)
    show Pu.impl_entriesOk.r2 N (fun x0 x1 x2 x3 x4 x5 x6 x7 x8 x9 x10 x11 x12 => (iter (exc E93 (it93 N) (loopOf Try.f93 2)) (canon (E93.keep 2))  n (tabl (T93_0 x0 x1 x2 x3 x4 x5 x6 x7 x8 x9 x10 x11 x12)) K)) (fun y0 y1 y2 y3 y4 y5 y6 y7 y8 y9 y10 y11 y12 => (K .ret (tabl (T93_0 y0 y1 y2 y3 y4 y5 y6 y7 y8 y9 y10 y11 y12)))) (fun y0 y1 y2 y3 y4 y5 y6 y7 y8 y9 y10 y11 y12 => (K (.exit 0) (tabl (T93_0 y0 y1 y2 y3 y4 y5 y6 y7 y8 y9 y10 y11 y12)))) x0 x1 x2 x3 x4 x5 x6 x7 x8 x9 x10 x11 x12 = _
    rw [e0]; rfl
theorem lo93_2 {R : Type} (N : Nat) : LoopOk E93 (it93 N (R := R)) (loopOf Try.f93 2) := by
  have e : firstRid (loopOf Try.f93 2) = 2 := by kernel_rfl
  intro L K r
  rw [e]
  intro h
  unfold it93 at h
  simp only [show Nat.beq 2 2 = true from rfl, cond_false, cond_true] at h
  refine tell_ok (Q := fun L => ∃ n, iter (exc E93 (it93 N) (loopOf Try.f93 2)) (canon (E93.keep 2)) n (tabl L) K = some r) h (fun xs h => ?_) (fun h => ?_)
  · (try dsimp only at h)
    split at h
    · exact ⟨N, ((e93_2 N K N) _ _ _ _ _ _ _ _ _ _ _ _ _).trans h⟩
    · cases h
  cases h
def sp93 : List Arg → Option (Bool × Res)
  | [(.v true [(.i .i64 p0_0), (.sh 86 p0_1), (.sh 9 p0_2), (.sh 9 p0_3), (.sh 30 p0_4), (.i .i64 p0_5), (.sh 126 p0_6), (.sh 62 p0_7), (.i .i64 p0_8)])] => some (Pu.impl_entriesOk.c p0_0 p0_1 p0_2 p0_3 p0_4 p0_5 p0_6 p0_7 p0_8, ⟨[(.v false [(.b (Pu.impl_entriesOk.v p0_0 p0_1 p0_2 p0_3 p0_4 p0_5 p0_6 p0_7 p0_8))])], []⟩)
  | _ => none
theorem ok93 : FnOk Try.prog T 93 sp93 := by
  refine fn_ok (E := E93) hE (call_cons ok159 (call_cons ok182 (call_cons ok109 (call_cons ok183 call_nil)))) hM Try.func93 (code := (Try.f93.body.getD .skip)) (by kernel_rfl) (by kernel_rfl) ?_
  have key : ∀ (p0_0 : Int) (p0_1 : Row) (p0_2 : Row) (p0_3 : Row) (p0_4 : Row) (p0_5 : Int) (p0_6 : Row) (p0_7 : Row) (p0_8 : Int), Pu.impl_entriesOk.c p0_0 p0_1 p0_2 p0_3 p0_4 p0_5 p0_6 p0_7 p0_8 = true → ∃ it : It Res, (∀ c ∈ loopsOf (Try.f93.body.getD .skip), LoopOk E93 it c) ∧ body E93 it Try.f93 [(.v true [(.i .i64 p0_0), (.sh 86 p0_1), (.sh 9 p0_2), (.sh 9 p0_3), (.sh 30 p0_4), (.i .i64 p0_5), (.sh 126 p0_6), (.sh 62 p0_7), (.i .i64 p0_8)])] = some ⟨[(.v false [(.b (Pu.impl_entriesOk.v p0_0 p0_1 p0_2 p0_3 p0_4 p0_5 p0_6 p0_7 p0_8))])], []⟩ := by
    intro p0_0 p0_1 p0_2 p0_3 p0_4 p0_5 p0_6 p0_7 p0_8  h1
    obtain ⟨N, hN⟩ := Pu.impl_entriesOk.b_eq (R := Res) (fun r0 => some ⟨[(.v false [(.b r0)])], []⟩) p0_0 p0_1 p0_2 p0_3 p0_4 p0_5 p0_6 p0_7 p0_8 h1
    have hl : loopsOf (Try.f93.body.getD .skip) = [loopOf Try.f93 2] := by kernel_rfl
    refine ⟨it93 N, by rw [hl]; exact (loops_cons (lo93_2 N) loops_nil), ?_⟩
    refine Eq.trans (show body E93 (it93 N) Try.f93 [(.v true [(.i .i64 p0_0), (.sh 86 p0_1), (.sh 9 p0_2), (.sh 9 p0_3), (.sh 30 p0_4), (.i .i64 p0_5), (.sh 126 p0_6), (.sh 62 p0_7), (.i .i64 p0_8)])] = Pu.impl_entriesOk.b N (fun r0 => some ⟨[(.v false [(.b r0)])], []⟩) p0_0 p0_1 p0_2 p0_3 p0_4 p0_5 p0_6 p0_7 p0_8 by kernel_rfl) hN
  intro args r h
  unfold sp93 at h
  split at h
  · injection h with h
    injection h with h1 h2
    subst h2
    exact ⟨by kernel_rfl, fun hf => ⟨of_decide_eq_true (by kernel_rfl), key _ _ _ _ _ _ _ _ _ h1⟩⟩
  · cases h

end Go.FG.Se

namespace Go.FG.Se
open Go.Proofs
def E174 : Env := { toTab := T, call := Go.FG.callIn [], mode := Go.FG.modeIn md, keep := Go.FG.keepIn [], tk := fun n => Go.FG.memB n [], om := Go.FG.omIn [] }
def sp174 : List Arg → Option (Bool × Res)
  | [(.v true [(.s f0_0), (.s f0_1), (.i .i64 f0_2), (.i .i64 f0_3), (.i .i64 f0_4)]), (.fb [(.s key1)])] => some (true, ⟨[(.v false [(.b (Pu.impl_openFor_1.v f0_0 f0_1 f0_2 f0_3 f0_4 key1))])], []⟩)
  | _ => none
theorem ok174 : FnOk Try.prog T 174 sp174 := by
  refine fn_ok (E := E174) hE call_nil hM Try.func174 (code := (Try.f174.body.getD .skip)) (by kernel_rfl) (by kernel_rfl) ?_
  have key : ∀ (f0_0 : ByteArray) (f0_1 : ByteArray) (f0_2 : Int) (f0_3 : Int) (f0_4 : Int) (key1 : ByteArray), ∃ it : It Res, (∀ c ∈ loopsOf (Try.f174.body.getD .skip), LoopOk E174 it c) ∧ body E174 it Try.f174 [(.v true [(.s f0_0), (.s f0_1), (.i .i64 f0_2), (.i .i64 f0_3), (.i .i64 f0_4)]), (.fb [(.s key1)])] = some ⟨[(.v false [(.b (Pu.impl_openFor_1.v f0_0 f0_1 f0_2 f0_3 f0_4 key1))])], []⟩ := by
    intro f0_0 f0_1 f0_2 f0_3 f0_4 key1 
    have hN := Pu.impl_openFor_1.b_eq (R := Res) (fun r0 => some ⟨[(.v false [(.b r0)])], []⟩) f0_0 f0_1 f0_2 f0_3 f0_4 key1
    have hl : loopsOf (Try.f174.body.getD .skip) = [] := by kernel_rfl
    refine ⟨iterN 0, by rw [hl]; exact loops_nil, ?_⟩
    refine Eq.trans (show body E174 (iterN 0) Try.f174 [(.v true [(.s f0_0), (.s f0_1), (.i .i64 f0_2), (.i .i64 f0_3), (.i .i64 f0_4)]), (.fb [(.s key1)])] = Pu.impl_openFor_1.b (fun r0 => some ⟨[(.v false [(.b r0)])], []⟩) f0_0 f0_1 f0_2 f0_3 f0_4 key1 by kernel_rfl) hN
  intro args r h
  unfold sp174 at h
  split at h
  · injection h with h
    injection h with h1 h2
    subst h2
    exact ⟨by kernel_rfl, fun hf => ⟨of_decide_eq_true (by kernel_rfl), key _ _ _ _ _ _⟩⟩
  · cases h

end Go.FG.Se

namespace Go.FG.Se
open Go.Proofs
def T173_0 (p0 : Row) (p1 : ByteArray) (p2 : Int) (p3 : Int) (p4 : Int) : List (Nat × Cel) := [(0, (.v (.v false [(.sh 126 p0)]))), (2, (.v (.v false [(.fn 174 [[(.s p1)]])]))), (8, (.v (.v false [(.i .i64 p2)]))), (14, (.v (.v false [(.i .i64 p3)]))), (16, (.v (.v false [(.i .i64 p4)])))]
def E173 : Env := { toTab := T, call := Go.FG.callIn [(174, sp174)], mode := Go.FG.modeIn md, keep := Go.FG.keepIn [(2, [0, 1, 4, 7, 8])], tk := fun n => Go.FG.memB n [], om := Go.FG.omIn [] }
def it173 (N : Nat) {R : Type} : It R := fun rid f cn L K => bif Nat.beq rid 2 then (tell [(0, (.v (.v false [(.sh 126 [])]))), (2, (.v (.v false [(.fn 174 [[(.s ⟨#[]⟩)]])]))), (8, (.v (.v false [(.i .i64 0)]))), (14, (.v (.v false [(.i .i64 0)]))), (16, (.v (.v false [(.i .i64 0)])))] (fun | [.R x0, .S x1, .I x2, .I x3, .I x4] => Pu.slices_IndexFunc_Fetch.l2 N (fun y0 y1 y2 y3 y4 => (K .ret (tabl (T173_0 y0 y1 y2 y3 y4)))) (fun y0 y1 y2 y3 y4 => (K (.exit 0) (tabl (T173_0 y0 y1 y2 y3 y4)))) N x0 x1 x2 x3 x4 | _ => none) L (none)) else none
theorem e173_2 {R : Type} (N : Nat) (K : Ex → St → Option R) : ∀ n : Nat, (∀ x0 x1 x2 x3 x4, iter (exc E173 (it173 N) (loopOf Try.f173 2)) (canon (E173.keep 2))  n (tabl (T173_0 x0 x1 x2 x3 x4)) K = Pu.slices_IndexFunc_Fetch.l2 N (fun y0 y1 y2 y3 y4 => (K .ret (tabl (T173_0 y0 y1 y2 y3 y4)))) (fun y0 y1 y2 y3 y4 => (K (.exit 0) (tabl (T173_0 y0 y1 y2 y3 y4)))) n x0 x1 x2 x3 x4) := by
  intro n
  induction n with
  | zero => exact (fun _ _ _ _ _ => rfl)
  | succ n ih =>
    have e0 : (fun x0 x1 x2 x3 x4 => iter (exc E173 (it173 N) (loopOf Try.f173 2)) (canon (E173.keep 2))  n (tabl (T173_0 x0 x1 x2 x3 x4)) K) = Pu.slices_IndexFunc_Fetch.l2 N (fun y0 y1 y2 y3 y4 => (K .ret (tabl (T173_0 y0 y1 y2 y3 y4)))) (fun y0 y1 y2 y3 y4 => (K (.exit 0) (tabl (T173_0 y0 y1 y2 y3 y4)))) n := by funext x0 x1 x2 x3 x4; exact ih x0 x1 x2 x3 x4
    intro x0 x1 x2 x3 x4
    have h : ∀ g, exc E173 (it173 N) (loopOf Try.f173 2) (tabl (T173_0 x0 x1 x2 x3 x4)) (iterK g (canon (E173.keep 2)) K) = Pu.slices_IndexFunc_Fetch.r2 N (fun x0 x1 x2 x3 x4 => (g (tabl (T173_0 x0 x1 x2 x3 x4)))) (fun y0 y1 y2 y3 y4 => (K .ret (tabl (T173_0 y0 y1 y2 y3 y4)))) (fun y0 y1 y2 y3 y4 => (K (.exit 0) (tabl (T173_0 y0 y1 y2 y3 y4)))) x0 x1 x2 x3 x4 := by intro g; kernel_rfl
    refine (iter_succ _ _ n _ K).trans ((h _).trans ?_)
    show Pu.slices_IndexFunc_Fetch.r2 N (fun x0 x1 x2 x3 x4 => (iter (exc E173 (it173 N) (loopOf Try.f173 2)) (canon (E173.keep 2))  n (tabl (T173_0 x0 x1 x2 x3 x4)) K)) (fun y0 y1 y2 y3 y4 => (K .ret (tabl (T173_0 y0 y1 y2 y3 y4)))) (fun y0 y1 y2 y3 y4 => (K (.exit 0) (tabl (T173_0 y0 y1 y2 y3 y4)))) x0 x1 x2 x3 x4 = _
    rw [e0]; rfl
theorem lo173_2 {R : Type} (N : Nat) : LoopOk E173 (it173 N (R := R)) (loopOf Try.f173 2) := by
  have e : firstRid (loopOf Try.f173 2) = 2 := by kernel_rfl
  intro L K r
  rw [e]
  intro h
  unfold it173 at h
  simp only [show Nat.beq 2 2 = true from rfl, cond_false, cond_true] at h
  refine tell_ok (Q := fun L => ∃ n, iter (exc E173 (it173 N) (loopOf Try.f173 2)) (canon (E173.keep 2)) n (tabl L) K = some r) h (fun xs h => ?_) (fun h => ?_)
  · (try dsimp only at h)
    split at h
    · exact ⟨N, ((e173_2 N K N) _ _ _ _ _).trans h⟩
    · cases h
  cases h
def sp173 : List Arg → Option (Bool × Res)
  | [(.v false [(.sh 126 s0)]), (.v false [(.fn 174 [[(.s key1)]])])] => some (Pu.slices_IndexFunc_Fetch.c s0 key1, ⟨[(.v false [(.i .i64 (Pu.slices_IndexFunc_Fetch.v s0 key1))])], []⟩)
  | _ => none
theorem ok173 : FnOk Try.prog T 173 sp173 := by
  refine fn_ok (E := E173) hE (call_cons ok174 call_nil) hM Try.func173 (code := (Try.f173.body.getD .skip)) (by kernel_rfl) (by kernel_rfl) ?_
  have key : ∀ (s0 : Row) (key1 : ByteArray), Pu.slices_IndexFunc_Fetch.c s0 key1 = true → ∃ it : It Res, (∀ c ∈ loopsOf (Try.f173.body.getD .skip), LoopOk E173 it c) ∧ body E173 it Try.f173 [(.v false [(.sh 126 s0)]), (.v false [(.fn 174 [[(.s key1)]])])] = some ⟨[(.v false [(.i .i64 (Pu.slices_IndexFunc_Fetch.v s0 key1))])], []⟩ := by
    intro s0 key1  h1
    obtain ⟨N, hN⟩ := Pu.slices_IndexFunc_Fetch.b_eq (R := Res) (fun r0 => some ⟨[(.v false [(.i .i64 r0)])], []⟩) s0 key1 h1
    have hl : loopsOf (Try.f173.body.getD .skip) = [loopOf Try.f173 2] := by kernel_rfl
    refine ⟨it173 N, by rw [hl]; exact (loops_cons (lo173_2 N) loops_nil), ?_⟩
    refine Eq.trans (show body E173 (it173 N) Try.f173 [(.v false [(.sh 126 s0)]), (.v false [(.fn 174 [[(.s key1)]])])] = Pu.slices_IndexFunc_Fetch.b N (fun r0 => some ⟨[(.v false [(.i .i64 r0)])], []⟩) s0 key1 by kernel_rfl) hN
  intro args r h
  unfold sp173 at h
  split at h
  · injection h with h
    injection h with h1 h2
    subst h2
    exact ⟨by kernel_rfl, fun hf => ⟨of_decide_eq_true (by kernel_rfl), key _ _ h1⟩⟩
  · cases h

end Go.FG.Se

namespace Go.FG.Se
open Go.Proofs
def E84 : Env := { toTab := T, call := Go.FG.callIn [(173, sp173)], mode := Go.FG.modeIn md, keep := Go.FG.keepIn [], tk := fun n => Go.FG.memB n [], om := Go.FG.omIn [] }
def sp84 : List Arg → Option (Bool × Res)
  | [(.v true [(.i .i64 p0_0), (.sh 86 p0_1), (.sh 9 p0_2), (.sh 9 p0_3), (.sh 30 p0_4), (.i .i64 p0_5), (.sh 126 p0_6), (.sh 62 p0_7), (.i .i64 p0_8)]), (.v false [(.s key1)])] => some (Pu.impl_openFor.c p0_0 p0_1 p0_2 p0_3 p0_4 p0_5 p0_6 p0_7 p0_8 key1, ⟨[(.v false [(.i .i64 (Pu.impl_openFor.v p0_0 p0_1 p0_2 p0_3 p0_4 p0_5 p0_6 p0_7 p0_8 key1))])], []⟩)
  | _ => none
theorem ok84 : FnOk Try.prog T 84 sp84 := by
  refine fn_ok (E := E84) hE (call_cons ok173 call_nil) hM Try.func84 (code := (Try.f84.body.getD .skip)) (by kernel_rfl) (by kernel_rfl) ?_
  have key : ∀ (p0_0 : Int) (p0_1 : Row) (p0_2 : Row) (p0_3 : Row) (p0_4 : Row) (p0_5 : Int) (p0_6 : Row) (p0_7 : Row) (p0_8 : Int) (key1 : ByteArray), Pu.impl_openFor.c p0_0 p0_1 p0_2 p0_3 p0_4 p0_5 p0_6 p0_7 p0_8 key1 = true → ∃ it : It Res, (∀ c ∈ loopsOf (Try.f84.body.getD .skip), LoopOk E84 it c) ∧ body E84 it Try.f84 [(.v true [(.i .i64 p0_0), (.sh 86 p0_1), (.sh 9 p0_2), (.sh 9 p0_3), (.sh 30 p0_4), (.i .i64 p0_5), (.sh 126 p0_6), (.sh 62 p0_7), (.i .i64 p0_8)]), (.v false [(.s key1)])] = some ⟨[(.v false [(.i .i64 (Pu.impl_openFor.v p0_0 p0_1 p0_2 p0_3 p0_4 p0_5 p0_6 p0_7 p0_8 key1))])], []⟩ := by
    intro p0_0 p0_1 p0_2 p0_3 p0_4 p0_5 p0_6 p0_7 p0_8 key1  h1
    have hN := Pu.impl_openFor.b_eq (R := Res) (fun r0 => some ⟨[(.v false [(.i .i64 r0)])], []⟩) p0_0 p0_1 p0_2 p0_3 p0_4 p0_5 p0_6 p0_7 p0_8 key1 h1
    have hl : loopsOf (Try.f84.body.getD .skip) = [] := by kernel_rfl
    refine ⟨iterN 0, by rw [hl]; exact loops_nil, ?_⟩
    refine Eq.trans (show body E84 (iterN 0) Try.f84 [(.v true [(.i .i64 p0_0), (.sh 86 p0_1), (.sh 9 p0_2), (.sh 9 p0_3), (.sh 30 p0_4), (.i .i64 p0_5), (.sh 126 p0_6), (.sh 62 p0_7), (.i .i64 p0_8)]), (.v false [(.s key1)])] = Pu.impl_openFor.b (fun r0 => some ⟨[(.v false [(.i .i64 r0)])], []⟩) p0_0 p0_1 p0_2 p0_3 p0_4 p0_5 p0_6 p0_7 p0_8 key1 by kernel_rfl) hN
  intro args r h
  unfold sp84 at h
  split at h
  · injection h with h
    injection h with h1 h2
    subst h2
    exact ⟨by kernel_rfl, fun hf => ⟨of_decide_eq_true (by kernel_rfl), key _ _ _ _ _ _ _ _ _ _ h1⟩⟩
  · cases h

end Go.FG.Se

namespace Go.FG.Se
open Go.Proofs
def T184_0 (p0 : Bool) (p1 : Row) (p2 : Int) (p3 : Int) (p4 : Int) (p5 : Row) (p6 : Row) (p7 : Row) (p8 : Row) (p9 : Int) (p10 : Row) (p11 : Row) (p12 : Int) : List (Nat × Cel) := [(2, (.v (.v false [(.bp 0 0)]))), (4, (.v (.v false [(.b p0)]))), (12, (.v (.v false [(.sh 126 p1)]))), (14, (.v (.v false [(.i .i64 p2)]))), (16, (.v (.v false [(.i .i64 p3)]))), (1, (.o (.box [(.i .i64 p4), (.sh 86 p5), (.sh 9 p6), (.sh 9 p7), (.sh 30 p8), (.i .i64 p9), (.sh 126 p10), (.sh 62 p11), (.i .i64 p12)])))]
def E184 : Env := { toTab := T, call := Go.FG.callIn [(84, sp84)], mode := Go.FG.modeIn md, keep := Go.FG.keepIn [(2, [1, 2, 6, 7, 8])], tk := fun n => Go.FG.memB n [], om := Go.FG.omIn [] }
def it184 (N : Nat) {R : Type} : It R := fun rid f cn L K => bif Nat.beq rid 2 then (tell [(2, (.v (.v false [(.bp 0 0)]))), (4, (.v (.v false [(.b false)]))), (12, (.v (.v false [(.sh 126 [])]))), (14, (.v (.v false [(.i .i64 0)]))), (16, (.v (.v false [(.i .i64 0)]))), (1, (.o (.box [(.i .i64 0), (.sh 86 []), (.sh 9 []), (.sh 9 []), (.sh 30 []), (.i .i64 0), (.sh 126 []), (.sh 62 []), (.i .i64 0)])))] (fun | [.B x0, .R x1, .I x2, .I x3, .I x4, .R x5, .R x6, .R x7, .R x8, .I x9, .R x10, .R x11, .I x12] => Pu.impl_OneEach.l2 N (fun y0 y1 y2 y3 y4 y5 y6 y7 y8 y9 y10 y11 y12 => (K .ret (tabl (T184_0 y0 y1 y2 y3 y4 y5 y6 y7 y8 y9 y10 y11 y12)))) (fun y0 y1 y2 y3 y4 y5 y6 y7 y8 y9 y10 y11 y12 => (K (.exit 0) (tabl (T184_0 y0 y1 y2 y3 y4 y5 y6 y7 y8 y9 y10 y11 y12)))) N x0 x1 x2 x3 x4 x5 x6 x7 x8 x9 x10 x11 x12 | _ => none) L (none)) else none
theorem e184_2 {R : Type} (N : Nat) (K : Ex → St → Option R) : ∀ n : Nat, (∀ x0 x1 x2 x3 x4 x5 x6 x7 x8 x9 x10 x11 x12, iter (exc E184 (it184 N) (loopOf Try.f184 2)) (canon (E184.keep 2))  n (tabl (T184_0 x0 x1 x2 x3 x4 x5 x6 x7 x8 x9 x10 x11 x12)) K = Pu.impl_OneEach.l2 N (fun y0 y1 y2 y3 y4 y5 y6 y7 y8 y9 y10 y11 y12 => (K .ret (tabl (T184_0 y0 y1 y2 y3 y4 y5 y6 y7 y8 y9 y10 y11 y12)))) (fun y0 y1 y2 y3 y4 y5 y6 y7 y8 y9 y10 y11 y12 => (K (.exit 0) (tabl (T184_0 y0 y1 y2 y3 y4 y5 y6 y7 y8 y9 y10 y11 y12)))) n x0 x1 x2 x3 x4 x5 x6 x7 x8 x9 x10 x11 x12) := by
  intro n
  induction n with
  | zero => exact (fun _ _ _ _ _ _ _ _ _ _ _ _ _ => rfl)
  | succ n ih =>
    have e0 : (fun x0 x1 x2 x3 x4 x5 x6 x7 x8 x9 x10 x11 x12 => iter (exc E184 (it184 N) (loopOf Try.f184 2)) (canon (E184.keep 2))  n (tabl (T184_0 x0 x1 x2 x3 x4 x5 x6 x7 x8 x9 x10 x11 x12)) K) = Pu.impl_OneEach.l2 N (fun y0 y1 y2 y3 y4 y5 y6 y7 y8 y9 y10 y11 y12 => (K .ret (tabl (T184_0 y0 y1 y2 y3 y4 y5 y6 y7 y8 y9 y10 y11 y12)))) (fun y0 y1 y2 y3 y4 y5 y6 y7 y8 y9 y10 y11 y12 => (K (.exit 0) (tabl (T184_0 y0 y1 y2 y3 y4 y5 y6 y7 y8 y9 y10 y11 y12)))) n := by funext x0 x1 x2 x3 x4 x5 x6 x7 x8 x9 x10 x11 x12; exact ih x0 x1 x2 x3 x4 x5 x6 x7 x8 x9 x10 x11 x12
    intro x0 x1 x2 x3 x4 x5 x6 x7 x8 x9 x10 x11 x12
    have h : ∀ g, exc E184 (it184 N) (loopOf Try.f184 2) (tabl (T184_0 x0 x1 x2 x3 x4 x5 x6 x7 x8 x9 x10 x11 x12)) (iterK g (canon (E184.keep 2)) K) = Pu.impl_OneEach.r2 N (fun x0 x1 x2 x3 x4 x5 x6 x7 x8 x9 x10 x11 x12 => (g (tabl (T184_0 x0 x1 x2 x3 x4 x5 x6 x7 x8 x9 x10 x11 x12)))) (fun y0 y1 y2 y3 y4 y5 y6 y7 y8 y9 y10 y11 y12 => (K .ret (tabl (T184_0 y0 y1 y2 y3 y4 y5 y6 y7 y8 y9 y10 y11 y12)))) (fun y0 y1 y2 y3 y4 y5 y6 y7 y8 y9 y10 y11 y12 => (K (.exit 0) (tabl (T184_0 y0 y1 y2 y3 y4 y5 y6 y7 y8 y9 y10 y11 y12)))) x0 x1 x2 x3 x4 x5 x6 x7 x8 x9 x10 x11 x12 := by intro g; kernel_rfl
    refine (iter_succ _ _ n _ K).trans ((h _).trans ?_)
    show Pu.impl_OneEach.r2 N (fun x0 x1 x2 x3 x4 x5 x6 x7 x8 x9 x10 x11 x12 => (iter (exc E184 (it184 N) (loopOf Try.f184 2)) (canon (E184.keep 2))  n (tabl (T184_0 x0 x1 x2 x3 x4 x5 x6 x7 x8 x9 x10 x11 x12)) K)) (fun y0 y1 y2 y3 y4 y5 y6 y7 y8 y9 y10 y11 y12 => (K .ret (tabl (T184_0 y0 y1 y2 y3 y4 y5 y6 y7 y8 y9 y10 y11 y12)))) (fun y0 y1 y2 y3 y4 y5 y6 y7 y8 y9 y10 y11 y12 => (K (.exit 0) (tabl (T184_0 y0 y1 y2 y3 y4 y5 y6 y7 y8 y9 y10 y11 y12)))) x0 x1 x2 x3 x4 x5 x6 x7 x8 x9 x10 x11 x12 = _
    rw [e0]; rfl
theorem lo184_2 {R : Type} (N : Nat) : LoopOk E184 (it184 N (R := R)) (loopOf Try.f184 2) := by
  have e : firstRid (loopOf Try.f184 2) = 2 := by kernel_rfl
  intro L K r
  rw [e]
  intro h
  unfold it184 at h
  simp only [show Nat.beq 2 2 = true from rfl, cond_false, cond_true] at h
  refine tell_ok (Q := fun L => ∃ n, iter (exc E184 (it184 N) (loopOf Try.f184 2)) (canon (E184.keep 2)) n (tabl L) K = some r) h (fun xs h => ?_) (fun h => ?_)
  · (try dsimp only at h)
    split at h
    · exact ⟨N, ((e184_2 N K N) _ _ _ _ _ _ _ _ _ _ _ _ _).trans h⟩
    · cases h
  cases h
def sp184 : List Arg → Option (Bool × Res)
  | [(.v true [(.i .i64 p0_0), (.sh 86 p0_1), (.sh 9 p0_2), (.sh 9 p0_3), (.sh 30 p0_4), (.i .i64 p0_5), (.sh 126 p0_6), (.sh 62 p0_7), (.i .i64 p0_8)])] => some (Pu.impl_OneEach.c p0_0 p0_1 p0_2 p0_3 p0_4 p0_5 p0_6 p0_7 p0_8, ⟨[(.v false [(.b (Pu.impl_OneEach.v p0_0 p0_1 p0_2 p0_3 p0_4 p0_5 p0_6 p0_7 p0_8))])], []⟩)
  | _ => none
theorem ok184 : FnOk Try.prog T 184 sp184 := by
  refine fn_ok (E := E184) hE (call_cons ok84 call_nil) hM Try.func184 (code := (Try.f184.body.getD .skip)) (by kernel_rfl) (by kernel_rfl) ?_
  have key : ∀ (p0_0 : Int) (p0_1 : Row) (p0_2 : Row) (p0_3 : Row) (p0_4 : Row) (p0_5 : Int) (p0_6 : Row) (p0_7 : Row) (p0_8 : Int), Pu.impl_OneEach.c p0_0 p0_1 p0_2 p0_3 p0_4 p0_5 p0_6 p0_7 p0_8 = true → ∃ it : It Res, (∀ c ∈ loopsOf (Try.f184.body.getD .skip), LoopOk E184 it c) ∧ body E184 it Try.f184 [(.v true [(.i .i64 p0_0), (.sh 86 p0_1), (.sh 9 p0_2), (.sh 9 p0_3), (.sh 30 p0_4), (.i .i64 p0_5), (.sh 126 p0_6), (.sh 62 p0_7), (.i .i64 p0_8)])] = some ⟨[(.v false [(.b (Pu.impl_OneEach.v p0_0 p0_1 p0_2 p0_3 p0_4 p0_5 p0_6 p0_7 p0_8))])], []⟩ := by
    intro p0_0 p0_1 p0_2 p0_3 p0_4 p0_5 p0_6 p0_7 p0_8  h1
    obtain ⟨N, hN⟩ := Pu.impl_OneEach.b_eq (R := Res) (fun r0 => some ⟨[(.v false [(.b r0)])], []⟩) p0_0 p0_1 p0_2 p0_3 p0_4 p0_5 p0_6 p0_7 p0_8 h1
    have hl : loopsOf (Try.f184.body.getD .skip) = [loopOf Try.f184 2] := by kernel_rfl
    refine ⟨it184 N, by rw [hl]; exact (loops_cons (lo184_2 N) loops_nil), ?_⟩
    refine Eq.trans (show body E184 (it184 N) Try.f184 [(.v true [(.i .i64 p0_0), (.sh 86 p0_1), (.sh 9 p0_2), (.sh 9 p0_3), (.sh 30 p0_4), (.i .i64 p0_5), (.sh 126 p0_6), (.sh 62 p0_7), (.i .i64 p0_8)])] = Pu.impl_OneEach.b N (fun r0 => some ⟨[(.v false [(.b r0)])], []⟩) p0_0 p0_1 p0_2 p0_3 p0_4 p0_5 p0_6 p0_7 p0_8 by kernel_rfl) hN
  intro args r h
  unfold sp184 at h
  split at h
  · injection h with h
    injection h with h1 h2
    subst h2
    exact ⟨by kernel_rfl, fun hf => ⟨of_decide_eq_true (by kernel_rfl), key _ _ _ _ _ _ _ _ _ h1⟩⟩
  · cases h

end Go.FG.Se

namespace Go.FG.Se
open Go.Proofs
def T94_0 (p0 : Bool) (p1 : Row) (p2 : Int) (p3 : Int) (p4 : Int) (p5 : Row) (p6 : Row) (p7 : Row) (p8 : Row) (p9 : Int) (p10 : Row) (p11 : Row) (p12 : Int) : List (Nat × Cel) := [(2, (.v (.v false [(.bp 0 0)]))), (4, (.v (.v false [(.b p0)]))), (12, (.v (.v false [(.sh 126 p1)]))), (14, (.v (.v false [(.i .i64 p2)]))), (16, (.v (.v false [(.i .i64 p3)]))), (1, (.o (.box [(.i .i64 p4), (.sh 86 p5), (.sh 9 p6), (.sh 9 p7), (.sh 30 p8), (.i .i64 p9), (.sh 126 p10), (.sh 62 p11), (.i .i64 p12)])))]
def E94 : Env := { toTab := T, call := Go.FG.callIn [(78, sp78), (70, sp70), (184, sp184)], mode := Go.FG.modeIn md, keep := Go.FG.keepIn [(2, [1, 2, 6, 7, 8])], tk := fun n => Go.FG.memB n [], om := Go.FG.omIn [] }
def it94 (N : Nat) {R : Type} : It R := fun rid f cn L K => bif Nat.beq rid 2 then (tell [(2, (.v (.v false [(.bp 0 0)]))), (4, (.v (.v false [(.b false)]))), (12, (.v (.v false [(.sh 126 [])]))), (14, (.v (.v false [(.i .i64 0)]))), (16, (.v (.v false [(.i .i64 0)]))), (1, (.o (.box [(.i .i64 0), (.sh 86 []), (.sh 9 []), (.sh 9 []), (.sh 30 []), (.i .i64 0), (.sh 126 []), (.sh 62 []), (.i .i64 0)])))] (fun | [.B x0, .R x1, .I x2, .I x3, .I x4, .R x5, .R x6, .R x7, .R x8, .I x9, .R x10, .R x11, .I x12] => Pu.impl_fetchesOk.l2 N (fun y0 y1 y2 y3 y4 y5 y6 y7 y8 y9 y10 y11 y12 => (K .ret (tabl (T94_0 y0 y1 y2 y3 y4 y5 y6 y7 y8 y9 y10 y11 y12)))) (fun y0 y1 y2 y3 y4 y5 y6 y7 y8 y9 y10 y11 y12 => (K (.exit 0) (tabl (T94_0 y0 y1 y2 y3 y4 y5 y6 y7 y8 y9 y10 y11 y12)))) N x0 x1 x2 x3 x4 x5 x6 x7 x8 x9 x10 x11 x12 | _ => none) L (none)) else none
theorem e94_2 {R : Type} (N : Nat) (K : Ex → St → Option R) : ∀ n : Nat, (∀ x0 x1 x2 x3 x4 x5 x6 x7 x8 x9 x10 x11 x12, iter (exc E94 (it94 N) (loopOf Try.f94 2)) (canon (E94.keep 2))  n (tabl (T94_0 x0 x1 x2 x3 x4 x5 x6 x7 x8 x9 x10 x11 x12)) K = Pu.impl_fetchesOk.l2 N (fun y0 y1 y2 y3 y4 y5 y6 y7 y8 y9 y10 y11 y12 => (K .ret (tabl (T94_0 y0 y1 y2 y3 y4 y5 y6 y7 y8 y9 y10 y11 y12)))) (fun y0 y1 y2 y3 y4 y5 y6 y7 y8 y9 y10 y11 y12 => (K (.exit 0) (tabl (T94_0 y0 y1 y2 y3 y4 y5 y6 y7 y8 y9 y10 y11 y12)))) n x0 x1 x2 x3 x4 x5 x6 x7 x8 x9 x10 x11 x12) := by
  intro n
  induction n with
  | zero => exact (fun _ _ _ _ _ _ _ _ _ _ _ _ _ => rfl)
  | succ n ih =>
    have e0 : (fun x0 x1 x2 x3 x4 x5 x6 x7 x8 x9 x10 x11 x12 => iter (exc E94 (it94 N) (loopOf Try.f94 2)) (canon (E94.keep 2))  n (tabl (T94_0 x0 x1 x2 x3 x4 x5 x6 x7 x8 x9 x10 x11 x12)) K) = Pu.impl_fetchesOk.l2 N (fun y0 y1 y2 y3 y4 y5 y6 y7 y8 y9 y10 y11 y12 => (K .ret (tabl (T94_0 y0 y1 y2 y3 y4 y5 y6 y7 y8 y9 y10 y11 y12)))) (fun y0 y1 y2 y3 y4 y5 y6 y7 y8 y9 y10 y11 y12 => (K (.exit 0) (tabl (T94_0 y0 y1 y2 y3 y4 y5 y6 y7 y8 y9 y10 y11 y12)))) n := by funext x0 x1 x2 x3 x4 x5 x6 x7 x8 x9 x10 x11 x12; exact ih x0 x1 x2 x3 x4 x5 x6 x7 x8 x9 x10 x11 x12
    intro x0 x1 x2 x3 x4 x5 x6 x7 x8 x9 x10 x11 x12
    have h : ∀ g, exc E94 (it94 N) (loopOf Try.f94 2) (tabl (T94_0 x0 x1 x2 x3 x4 x5 x6 x7 x8 x9 x10 x11 x12)) (iterK g (canon (E94.keep 2)) K) = Pu.impl_fetchesOk.r2 N (fun x0 x1 x2 x3 x4 x5 x6 x7 x8 x9 x10 x11 x12 => (g (tabl (T94_0 x0 x1 x2 x3 x4 x5 x6 x7 x8 x9 x10 x11 x12)))) (fun y0 y1 y2 y3 y4 y5 y6 y7 y8 y9 y10 y11 y12 => (K .ret (tabl (T94_0 y0 y1 y2 y3 y4 y5 y6 y7 y8 y9 y10 y11 y12)))) (fun y0 y1 y2 y3 y4 y5 y6 y7 y8 y9 y10 y11 y12 => (K (.exit 0) (tabl (T94_0 y0 y1 y2 y3 y4 y5 y6 y7 y8 y9 y10 y11 y12)))) x0 x1 x2 x3 x4 x5 x6 x7 x8 x9 x10 x11 x12 := by intro g; kernel_rfl
    refine (iter_succ _ _ n _ K).trans ((h _).trans ?_)
    show Pu.impl_fetchesOk.r2 N (fun x0 x1 x2 x3 x4 x5 x6 x7 x8 x9 x10 x11 x12 => (iter (exc E94 (it94 N) (loopOf Try.f94 2)) (canon (E94.keep 2))  n (tabl (T94_0 x0 x1 x2 x3 x4 x5 x6 x7 x8 x9 x10 x11 x12)) K)) (fun y0 y1 y2 y3 y4 y5 y6 y7 y8 y9 y10 y11 y12 => (K .ret (tabl (T94_0 y0 y1 y2 y3 y4 y5 y6 y7 y8 y9 y10 y11 y12)))) (fun y0 y1 y2 y3 y4 y5 y6 y7 y8 y9 y10 y11 y12 => (K (.exit 0) (tabl (T94_0 y0 y1 y2 y3 y4 y5 y6 y7 y8 y9 y10 y11 y12)))) x0 x1 x2 x3 x4 x5 x6 x7 x8 x9 x10 x11 x12 = _
    rw [e0]; rfl
theorem lo94_2 {R : Type} (N : Nat) : LoopOk E94 (it94 N (R := R)) (loopOf Try.f94 2) := by
  have e : firstRid (loopOf Try.f94 2) = 2 := by kernel_rfl
  intro L K r
  rw [e]
  intro h
  unfold it94 at h
  simp only [show Nat.beq 2 2 = true from rfl, cond_false, cond_true] at h
  refine tell_ok (Q := fun L => ∃ n, iter (exc E94 (it94 N) (loopOf Try.f94 2)) (canon (E94.keep 2)) n (tabl L) K = some r) h (fun xs h => ?_) (fun h => ?_)
  · (try dsimp only at h)
    split at h
    · exact ⟨N, ((e94_2 N K N) _ _ _ _ _ _ _ _ _ _ _ _ _).trans h⟩
    · cases h
  cases h
def sp94 : List Arg → Option (Bool × Res)
  | [(.v true [(.i .i64 p0_0), (.sh 86 p0_1), (.sh 9 p0_2), (.sh 9 p0_3), (.sh 30 p0_4), (.i .i64 p0_5), (.sh 126 p0_6), (.sh 62 p0_7), (.i .i64 p0_8)])] => some (Pu.impl_fetchesOk.c p0_0 p0_1 p0_2 p0_3 p0_4 p0_5 p0_6 p0_7 p0_8, ⟨[(.v false [(.b (Pu.impl_fetchesOk.v p0_0 p0_1 p0_2 p0_3 p0_4 p0_5 p0_6 p0_7 p0_8))])], []⟩)
  | _ => none
theorem ok94 : FnOk Try.prog T 94 sp94 := by
  refine fn_ok (E := E94) hE (call_cons ok78 (call_cons ok70 (call_cons ok184 call_nil))) hM Try.func94 (code := (Try.f94.body.getD .skip)) (by kernel_rfl) (by kernel_rfl) ?_
  have key : ∀ (p0_0 : Int) (p0_1 : Row) (p0_2 : Row) (p0_3 : Row) (p0_4 : Row) (p0_5 : Int) (p0_6 : Row) (p0_7 : Row) (p0_8 : Int), Pu.impl_fetchesOk.c p0_0 p0_1 p0_2 p0_3 p0_4 p0_5 p0_6 p0_7 p0_8 = true → ∃ it : It Res, (∀ c ∈ loopsOf (Try.f94.body.getD .skip), LoopOk E94 it c) ∧ body E94 it Try.f94 [(.v true [(.i .i64 p0_0), (.sh 86 p0_1), (.sh 9 p0_2), (.sh 9 p0_3), (.sh 30 p0_4), (.i .i64 p0_5), (.sh 126 p0_6), (.sh 62 p0_7), (.i .i64 p0_8)])] = some ⟨[(.v false [(.b (Pu.impl_fetchesOk.v p0_0 p0_1 p0_2 p0_3 p0_4 p0_5 p0_6 p0_7 p0_8))])], []⟩ := by
    intro p0_0 p0_1 p0_2 p0_3 p0_4 p0_5 p0_6 p0_7 p0_8  h1
    obtain ⟨N, hN⟩ := Pu.impl_fetchesOk.b_eq (R := Res) (fun r0 => some ⟨[(.v false [(.b r0)])], []⟩) p0_0 p0_1 p0_2 p0_3 p0_4 p0_5 p0_6 p0_7 p0_8 h1
    have hl : loopsOf (Try.f94.body.getD .skip) = [loopOf Try.f94 2] := by kernel_rfl
    refine ⟨it94 N, by rw [hl]; exact (loops_cons (lo94_2 N) loops_nil), ?_⟩
    refine Eq.trans (show body E94 (it94 N) Try.f94 [(.v true [(.i .i64 p0_0), (.sh 86 p0_1), (.sh 9 p0_2), (.sh 9 p0_3), (.sh 30 p0_4), (.i .i64 p0_5), (.sh 126 p0_6), (.sh 62 p0_7), (.i .i64 p0_8)])] = Pu.impl_fetchesOk.b N (fun r0 => some ⟨[(.v false [(.b r0)])], []⟩) p0_0 p0_1 p0_2 p0_3 p0_4 p0_5 p0_6 p0_7 p0_8 by kernel_rfl) hN
  intro args r h
  unfold sp94 at h
  split at h
  · injection h with h
    injection h with h1 h2
    subst h2
    exact ⟨by kernel_rfl, fun hf => ⟨of_decide_eq_true (by kernel_rfl), key _ _ _ _ _ _ _ _ _ h1⟩⟩
  · cases h

end Go.FG.Se

namespace Go.FG.Se
open Go.Proofs
def T95_0 (p0 : Bool) (p1 : Row) (p2 : Int) (p3 : Int) (p4 : Int) (p5 : Row) (p6 : Row) (p7 : Row) (p8 : Row) (p9 : Int) (p10 : Row) (p11 : Row) (p12 : Int) : List (Nat × Cel) := [(2, (.v (.v false [(.bp 0 0)]))), (4, (.v (.v false [(.b p0)]))), (12, (.v (.v false [(.sh 62 p1)]))), (14, (.v (.v false [(.i .i64 p2)]))), (16, (.v (.v false [(.i .i64 p3)]))), (1, (.o (.box [(.i .i64 p4), (.sh 86 p5), (.sh 9 p6), (.sh 9 p7), (.sh 30 p8), (.i .i64 p9), (.sh 126 p10), (.sh 62 p11), (.i .i64 p12)])))]
def E95 : Env := { toTab := T, call := Go.FG.callIn [(70, sp70), (78, sp78)], mode := Go.FG.modeIn md, keep := Go.FG.keepIn [(2, [1, 2, 6, 7, 8])], tk := fun n => Go.FG.memB n [], om := Go.FG.omIn [] }
def it95 (N : Nat) {R : Type} : It R := fun rid f cn L K => bif Nat.beq rid 2 then (tell [(2, (.v (.v false [(.bp 0 0)]))), (4, (.v (.v false [(.b false)]))), (12, (.v (.v false [(.sh 62 [])]))), (14, (.v (.v false [(.i .i64 0)]))), (16, (.v (.v false [(.i .i64 0)]))), (1, (.o (.box [(.i .i64 0), (.sh 86 []), (.sh 9 []), (.sh 9 []), (.sh 30 []), (.i .i64 0), (.sh 126 []), (.sh 62 []), (.i .i64 0)])))] (fun | [.B x0, .R x1, .I x2, .I x3, .I x4, .R x5, .R x6, .R x7, .R x8, .I x9, .R x10, .R x11, .I x12] => Pu.impl_clientsOk.l2 N (fun y0 y1 y2 y3 y4 y5 y6 y7 y8 y9 y10 y11 y12 => (K .ret (tabl (T95_0 y0 y1 y2 y3 y4 y5 y6 y7 y8 y9 y10 y11 y12)))) (fun y0 y1 y2 y3 y4 y5 y6 y7 y8 y9 y10 y11 y12 => (K (.exit 0) (tabl (T95_0 y0 y1 y2 y3 y4 y5 y6 y7 y8 y9 y10 y11 y12)))) N x0 x1 x2 x3 x4 x5 x6 x7 x8 x9 x10 x11 x12 | _ => none) L (none)) else none
theorem e95_2 {R : Type} (N : Nat) (K : Ex → St → Option R) : ∀ n : Nat, (∀ x0 x1 x2 x3 x4 x5 x6 x7 x8 x9 x10 x11 x12, iter (exc E95 (it95 N) (loopOf Try.f95 2)) (canon (E95.keep 2))  n (tabl (T95_0 x0 x1 x2 x3 x4 x5 x6 x7 x8 x9 x10 x11 x12)) K = Pu.impl_clientsOk.l2 N (fun y0 y1 y2 y3 y4 y5 y6 y7 y8 y9 y10 y11 y12 => (K .ret (tabl (T95_0 y0 y1 y2 y3 y4 y5 y6 y7 y8 y9 y10 y11 y12)))) (fun y0 y1 y2 y3 y4 y5 y6 y7 y8 y9 y10 y11 y12 => (K (.exit 0) (tabl (T95_0 y0 y1 y2 y3 y4 y5 y6 y7 y8 y9 y10 y11 y12)))) n x0 x1 x2 x3 x4 x5 x6 x7 x8 x9 x10 x11 x12) := by
  intro n
  induction n with
  | zero => exact (fun _ _ _ _ _ _ _ _ _ _ _ _ _ => rfl)
  | succ n ih =>
    have e0 : (fun x0 x1 x2 x3 x4 x5 x6 x7 x8 x9 x10 x11 x12 => iter (exc E95 (it95 N) (loopOf Try.f95 2)) (canon (E95.keep 2))  n (tabl (T95_0 x0 x1 x2 x3 x4 x5 x6 x7 x8 x9 x10 x11 x12)) K) = Pu.impl_clientsOk.l2 N (fun y0 y1 y2 y3 y4 y5 y6 y7 y8 y9 y10 y11 y12 => (K .ret (tabl (T95_0 y0 y1 y2 y3 y4 y5 y6 y7 y8 y9 y10 y11 y12)))) (fun y0 y1 y2 y3 y4 y5 y6 y7 y8 y9 y10 y11 y12 => (K (.exit 0) (tabl (T95_0 y0 y1 y2 y3 y4 y5 y6 y7 y8 y9 y10 y11 y12)))) n := by funext x0 x1 x2 x3 x4 x5 x6 x7 x8 x9 x10 x11 x12; exact ih x0 x1 x2 x3 x4 x5 x6 x7 x8 x9 x10 x11 x12
    intro x0 x1 x2 x3 x4 x5 x6 x7 x8 x9 x10 x11 x12
    have h : ∀ g, exc E95 (it95 N) (loopOf Try.f95 2) (tabl (T95_0 x0 x1 x2 x3 x4 x5 x6 x7 x8 x9 x10 x11 x12)) (iterK g (canon (E95.keep 2)) K) = Pu.impl_clientsOk.r2 N (fun x0 x1 x2 x3 x4 x5 x6 x7 x8 x9 x10 x11 x12 => (g (tabl (T95_0 x0 x1 x2 x3 x4 x5 x6 x7 x8 x9 x10 x11 x12)))) (fun y0 y1 y2 y3 y4 y5 y6 y7 y8 y9 y10 y11 y12 => (K .ret (tabl (T95_0 y0 y1 y2 y3 y4 y5 y6 y7 y8 y9 y10 y11 y12)))) (fun y0 y1 y2 y3 y4 y5 y6 y7 y8 y9 y10 y11 y12 => (K (.exit 0) (tabl (T95_0 y0 y1 y2 y3 y4 y5 y6 y7 y8 y9 y10 y11 y12)))) x0 x1 x2 x3 x4 x5 x6 x7 x8 x9 x10 x11 x12 := by intro g; kernel_rfl
    refine (iter_succ _ _ n _ K).trans ((h _).trans ?_)
    show Pu.impl_clientsOk.r2 N (fun x0 x1 x2 x3 x4 x5 x6 x7 x8 x9 x10 x11 x12 => (iter (exc E95 (it95 N) (loopOf Try.f95 2)) (canon (E95.keep 2))  n (tabl (T95_0 x0 x1 x2 x3 x4 x5 x6 x7 x8 x9 x10 x11 x12)) K)) (fun y0 y1 y2 y3 y4 y5 y6 y7 y8 y9 y10 y11 y12 => (K .ret (tabl (T95_0 y0 y1 y2 y3 y4 y5 y6 y7 y8 y9 y10 y11 y12)))) (fun y0 y1 y2 y3 y4 y5 y6 y7 y8 y9 y10 y11 y12 => (K (.exit 0) (tabl (T95_0 y0 y1 y2 y3 y4 y5 y6 y7 y8 y9 y10 y11 y12)))) x0 x1 x2 x3 x4 x5 x6 x7 x8 x9 x10 x11 x12 = _
    rw [e0]; rfl
theorem lo95_2 {R : Type} (N : Nat) : LoopOk E95 (it95 N (R := R)) (loopOf Try.f95 2) := by
  have e : firstRid (loopOf Try.f95 2) = 2 := by kernel_rfl
  intro L K r
  rw [e]
  intro h
  unfold it95 at h
  simp only [show Nat.beq 2 2 = true from rfl, cond_false, cond_true] at h
  refine tell_ok (Q := fun L => ∃ n, iter (exc E95 (it95 N) (loopOf Try.f95 2)) (canon (E95.keep 2)) n (tabl L) K = some r) h (fun xs h => ?_) (fun h => ?_)
  · (try dsimp only at h)
    split at h
    · exact ⟨N, ((e95_2 N K N) _ _ _ _ _ _ _ _ _ _ _ _ _).trans h⟩
    · cases h
  cases h
def sp95 : List Arg → Option (Bool × Res)
  | [(.v true [(.i .i64 p0_0), (.sh 86 p0_1), (.sh 9 p0_2), (.sh 9 p0_3), (.sh 30 p0_4), (.i .i64 p0_5), (.sh 126 p0_6), (.sh 62 p0_7), (.i .i64 p0_8)])] => some (Pu.impl_clientsOk.c p0_0 p0_1 p0_2 p0_3 p0_4 p0_5 p0_6 p0_7 p0_8, ⟨[(.v false [(.b (Pu.impl_clientsOk.v p0_0 p0_1 p0_2 p0_3 p0_4 p0_5 p0_6 p0_7 p0_8))])], []⟩)
  | _ => none
theorem ok95 : FnOk Try.prog T 95 sp95 := by
  refine fn_ok (E := E95) hE (call_cons ok70 (call_cons ok78 call_nil)) hM Try.func95 (code := (Try.f95.body.getD .skip)) (by kernel_rfl) (by kernel_rfl) ?_
  have key : ∀ (p0_0 : Int) (p0_1 : Row) (p0_2 : Row) (p0_3 : Row) (p0_4 : Row) (p0_5 : Int) (p0_6 : Row) (p0_7 : Row) (p0_8 : Int), Pu.impl_clientsOk.c p0_0 p0_1 p0_2 p0_3 p0_4 p0_5 p0_6 p0_7 p0_8 = true → ∃ it : It Res, (∀ c ∈ loopsOf (Try.f95.body.getD .skip), LoopOk E95 it c) ∧ body E95 it Try.f95 [(.v true [(.i .i64 p0_0), (.sh 86 p0_1), (.sh 9 p0_2), (.sh 9 p0_3), (.sh 30 p0_4), (.i .i64 p0_5), (.sh 126 p0_6), (.sh 62 p0_7), (.i .i64 p0_8)])] = some ⟨[(.v false [(.b (Pu.impl_clientsOk.v p0_0 p0_1 p0_2 p0_3 p0_4 p0_5 p0_6 p0_7 p0_8))])], []⟩ := by
    intro p0_0 p0_1 p0_2 p0_3 p0_4 p0_5 p0_6 p0_7 p0_8  h1
    obtain ⟨N, hN⟩ := Pu.impl_clientsOk.b_eq (R := Res) (fun r0 => some ⟨[(.v false [(.b r0)])], []⟩) p0_0 p0_1 p0_2 p0_3 p0_4 p0_5 p0_6 p0_7 p0_8 h1
    have hl : loopsOf (Try.f95.body.getD .skip) = [loopOf Try.f95 2] := by kernel_rfl
    refine ⟨it95 N, by rw [hl]; exact (loops_cons (lo95_2 N) loops_nil), ?_⟩
    refine Eq.trans (show body E95 (it95 N) Try.f95 [(.v true [(.i .i64 p0_0), (.sh 86 p0_1), (.sh 9 p0_2), (.sh 9 p0_3), (.sh 30 p0_4), (.i .i64 p0_5), (.sh 126 p0_6), (.sh 62 p0_7), (.i .i64 p0_8)])] = Pu.impl_clientsOk.b N (fun r0 => some ⟨[(.v false [(.b r0)])], []⟩) p0_0 p0_1 p0_2 p0_3 p0_4 p0_5 p0_6 p0_7 p0_8 by kernel_rfl) hN
  intro args r h
  unfold sp95 at h
  split at h
  · injection h with h
    injection h with h1 h2
    subst h2
    exact ⟨by kernel_rfl, fun hf => ⟨of_decide_eq_true (by kernel_rfl), key _ _ _ _ _ _ _ _ _ h1⟩⟩
  · cases h

end Go.FG.Se

namespace Go.FG.Se
open Go.Proofs
def E30 : Env := { toTab := T, call := Go.FG.callIn [(70, sp70), (93, sp93), (94, sp94), (95, sp95), (96, sp96)], mode := Go.FG.modeIn md, keep := Go.FG.keepIn [], tk := fun n => Go.FG.memB n [], om := Go.FG.omIn [] }
def sp30 : List Arg → Option (Bool × Res)
  | [(.v true [(.i .i64 p0_0), (.sh 86 p0_1), (.sh 9 p0_2), (.sh 9 p0_3), (.sh 30 p0_4), (.i .i64 p0_5), (.sh 126 p0_6), (.sh 62 p0_7), (.i .i64 p0_8)])] => some (Pu.impl_ProxyOk.c p0_0 p0_1 p0_2 p0_3 p0_4 p0_5 p0_6 p0_7 p0_8, ⟨[(.v false [(.b (Pu.impl_ProxyOk.v p0_0 p0_1 p0_2 p0_3 p0_4 p0_5 p0_6 p0_7 p0_8))])], []⟩)
  | _ => none
theorem ok30 : FnOk Try.prog T 30 sp30 := by
  refine fn_ok (E := E30) hE (call_cons ok70 (call_cons ok93 (call_cons ok94 (call_cons ok95 (call_cons ok96 call_nil))))) hM Try.func30 (code := (Try.f30.body.getD .skip)) (by kernel_rfl) (by kernel_rfl) ?_
  have key : ∀ (p0_0 : Int) (p0_1 : Row) (p0_2 : Row) (p0_3 : Row) (p0_4 : Row) (p0_5 : Int) (p0_6 : Row) (p0_7 : Row) (p0_8 : Int), Pu.impl_ProxyOk.c p0_0 p0_1 p0_2 p0_3 p0_4 p0_5 p0_6 p0_7 p0_8 = true → ∃ it : It Res, (∀ c ∈ loopsOf (Try.f30.body.getD .skip), LoopOk E30 it c) ∧ body E30 it Try.f30 [(.v true [(.i .i64 p0_0), (.sh 86 p0_1), (.sh 9 p0_2), (.sh 9 p0_3), (.sh 30 p0_4), (.i .i64 p0_5), (.sh 126 p0_6), (.sh 62 p0_7), (.i .i64 p0_8)])] = some ⟨[(.v false [(.b (Pu.impl_ProxyOk.v p0_0 p0_1 p0_2 p0_3 p0_4 p0_5 p0_6 p0_7 p0_8))])], []⟩ := by
    intro p0_0 p0_1 p0_2 p0_3 p0_4 p0_5 p0_6 p0_7 p0_8  h1
    have hN := Pu.impl_ProxyOk.b_eq (R := Res) (fun r0 => some ⟨[(.v false [(.b r0)])], []⟩) p0_0 p0_1 p0_2 p0_3 p0_4 p0_5 p0_6 p0_7 p0_8 h1
    have hl : loopsOf (Try.f30.body.getD .skip) = [] := by kernel_rfl
    refine ⟨iterN 0, by rw [hl]; exact loops_nil, ?_⟩
    refine Eq.trans (show body E30 (iterN 0) Try.f30 [(.v true [(.i .i64 p0_0), (.sh 86 p0_1), (.sh 9 p0_2), (.sh 9 p0_3), (.sh 30 p0_4), (.i .i64 p0_5), (.sh 126 p0_6), (.sh 62 p0_7), (.i .i64 p0_8)])] = Pu.impl_ProxyOk.b (fun r0 => some ⟨[(.v false [(.b r0)])], []⟩) p0_0 p0_1 p0_2 p0_3 p0_4 p0_5 p0_6 p0_7 p0_8 by kernel_rfl) hN
  intro args r h
  unfold sp30 at h
  split at h
  · injection h with h
    injection h with h1 h2
    subst h2
    exact ⟨by kernel_rfl, fun hf => ⟨of_decide_eq_true (by kernel_rfl), key _ _ _ _ _ _ _ _ _ h1⟩⟩
  · cases h

end Go.FG.Se

namespace Go.FG.Se
open Go.Proofs
def E205 : Env := { toTab := T, call := Go.FG.callIn [], mode := Go.FG.modeIn md, keep := Go.FG.keepIn [], tk := fun n => Go.FG.memB n [], om := Go.FG.omIn [] }
def sp205 : List Arg → Option (Bool × Res)
  | [(.v true [(.s a0_0), (.i .i64 a0_1), (.i .i64 a0_2), (.s a0_3)]), (.v true [(.s b1_0), (.i .i64 b1_1), (.i .i64 b1_2), (.s b1_3)])] => some (true, ⟨[(.v false [(.b (Pu.laws_eqEntry.v a0_0 a0_1 a0_2 a0_3 b1_0 b1_1 b1_2 b1_3))])], []⟩)
  | _ => none
theorem ok205 : FnOk Try.prog T 205 sp205 := by
  refine fn_ok (E := E205) hE call_nil hM Try.func205 (code := (Try.f205.body.getD .skip)) (by kernel_rfl) (by kernel_rfl) ?_
  have key : ∀ (a0_0 : ByteArray) (a0_1 : Int) (a0_2 : Int) (a0_3 : ByteArray) (b1_0 : ByteArray) (b1_1 : Int) (b1_2 : Int) (b1_3 : ByteArray), ∃ it : It Res, (∀ c ∈ loopsOf (Try.f205.body.getD .skip), LoopOk E205 it c) ∧ body E205 it Try.f205 [(.v true [(.s a0_0), (.i .i64 a0_1), (.i .i64 a0_2), (.s a0_3)]), (.v true [(.s b1_0), (.i .i64 b1_1), (.i .i64 b1_2), (.s b1_3)])] = some ⟨[(.v false [(.b (Pu.laws_eqEntry.v a0_0 a0_1 a0_2 a0_3 b1_0 b1_1 b1_2 b1_3))])], []⟩ := by
    intro a0_0 a0_1 a0_2 a0_3 b1_0 b1_1 b1_2 b1_3 
    have hN := Pu.laws_eqEntry.b_eq (R := Res) (fun r0 => some ⟨[(.v false [(.b r0)])], []⟩) a0_0 a0_1 a0_2 a0_3 b1_0 b1_1 b1_2 b1_3
    have hl : loopsOf (Try.f205.body.getD .skip) = [] := by kernel_rfl
    refine ⟨iterN 0, by rw [hl]; exact loops_nil, ?_⟩
    refine Eq.trans (show body E205 (iterN 0) Try.f205 [(.v true [(.s a0_0), (.i .i64 a0_1), (.i .i64 a0_2), (.s a0_3)]), (.v true [(.s b1_0), (.i .i64 b1_1), (.i .i64 b1_2), (.s b1_3)])] = Pu.laws_eqEntry.b (fun r0 => some ⟨[(.v false [(.b r0)])], []⟩) a0_0 a0_1 a0_2 a0_3 b1_0 b1_1 b1_2 b1_3 by kernel_rfl) hN
  intro args r h
  unfold sp205 at h
  split at h
  · injection h with h
    injection h with h1 h2
    subst h2
    exact ⟨by kernel_rfl, fun hf => ⟨of_decide_eq_true (by kernel_rfl), key _ _ _ _ _ _ _ _⟩⟩
  · cases h

end Go.FG.Se

namespace Go.FG.Se
open Go.Proofs
def T128_0 (p0 : Row) (p1 : Row) (p2 : Bool) (p3 : Int) : List (Nat × Cel) := [(0, (.v (.v false [(.sh 86 p0)]))), (2, (.v (.v false [(.sh 86 p1)]))), (8, (.v (.v false [(.b p2)]))), (10, (.v (.v false [(.i .i64 p3)])))]
def E128 : Env := { toTab := T, call := Go.FG.callIn [(205, sp205)], mode := Go.FG.modeIn md, keep := Go.FG.keepIn [(4, [0, 1, 4, 5])], tk := fun n => Go.FG.memB n [], om := Go.FG.omIn [] }
def it128 (N : Nat) {R : Type} : It R := fun rid f cn L K => bif Nat.beq rid 4 then (tell [(0, (.v (.v false [(.sh 86 [])]))), (2, (.v (.v false [(.sh 86 [])]))), (8, (.v (.v false [(.b false)]))), (10, (.v (.v false [(.i .i64 0)])))] (fun | [.R x0, .R x1, .B x2, .I x3] => Pu.laws_eqEntryS.l4 N (fun y0 y1 y2 y3 => (K .ret (tabl (T128_0 y0 y1 y2 y3)))) (fun y0 y1 y2 y3 => (K (.exit 0) (tabl (T128_0 y0 y1 y2 y3)))) N x0 x1 x2 x3 | _ => none) L (none)) else none
theorem e128_4 {R : Type} (N : Nat) (K : Ex → St → Option R) : ∀ n : Nat, (∀ x0 x1 x2 x3, iter (exc E128 (it128 N) (loopOf Try.f128 4)) (canon (E128.keep 4))  n (tabl (T128_0 x0 x1 x2 x3)) K = Pu.laws_eqEntryS.l4 N (fun y0 y1 y2 y3 => (K .ret (tabl (T128_0 y0 y1 y2 y3)))) (fun y0 y1 y2 y3 => (K (.exit 0) (tabl (T128_0 y0 y1 y2 y3)))) n x0 x1 x2 x3) := by
  intro n
  induction n with
  | zero => exact (fun _ _ _ _ => rfl)
  | succ n ih =>
    have e0 : (fun x0 x1 x2 x3 => iter (exc E128 (it128 N) (loopOf Try.f128 4)) (canon (E128.keep 4))  n (tabl (T128_0 x0 x1 x2 x3)) K) = Pu.laws_eqEntryS.l4 N (fun y0 y1 y2 y3 => (K .ret (tabl (T128_0 y0 y1 y2 y3)))) (fun y0 y1 y2 y3 => (K (.exit 0) (tabl (T128_0 y0 y1 y2 y3)))) n := by funext x0 x1 x2 x3; exact ih x0 x1 x2 x3
    intro x0 x1 x2 x3
    have h : ∀ g, exc E128 (it128 N) (loopOf Try.f128 4) (tabl (T128_0 x0 x1 x2 x3)) (iterK g (canon (E128.keep 4)) K) = Pu.laws_eqEntryS.r4 N (fun x0 x1 x2 x3 => (g (tabl (T128_0 x0 x1 x2 x3)))) (fun y0 y1 y2 y3 => (K .ret (tabl (T128_0 y0 y1 y2 y3)))) (fun y0 y1 y2 y3 => (K (.exit 0) (tabl (T128_0 y0 y1 y2 y3)))) x0 x1 x2 x3 := by intro g; kernel_rfl
    refine (iter_succ _ _ n _ K).trans ((h _).trans ?_)
    show Pu.laws_eqEntryS.r4 N (fun x0 x1 x2 x3 => (iter (exc E128 (it128 N) (loopOf Try.f128 4)) (canon (E128.keep 4))  n (tabl (T128_0 x0 x1 x2 x3)) K)) (fun y0 y1 y2 y3 => (K .ret (tabl (T128_0 y0 y1 y2 y3)))) (fun y0 y1 y2 y3 => (K (.exit 0) (tabl (T128_0 y0 y1 y2 y3)))) x0 x1 x2 x3 = _
    rw [e0]; rfl
theorem lo128_4 {R : Type} (N : Nat) : LoopOk E128 (it128 N (R := R)) (loopOf Try.f128 4) := by
  have e : firstRid (loopOf Try.f128 4) = 4 := by kernel_rfl
  intro L K r
  rw [e]
  intro h
  unfold it128 at h
  simp only [show Nat.beq 4 4 = true from rfl, cond_false, cond_true] at h
  refine tell_ok (Q := fun L => ∃ n, iter (exc E128 (it128 N) (loopOf Try.f128 4)) (canon (E128.keep 4)) n (tabl L) K = some r) h (fun xs h => ?_) (fun h => ?_)
  · (try dsimp only at h)
    split at h
    · exact ⟨N, ((e128_4 N K N) _ _ _ _).trans h⟩
    · cases h
  cases h
def sp128 : List Arg → Option (Bool × Res)
  | [(.v false [(.sh 86 a0)]), (.v false [(.sh 86 b1)])] => some (Pu.laws_eqEntryS.c a0 b1, ⟨[(.v false [(.b (Pu.laws_eqEntryS.v a0 b1))])], []⟩)
  | _ => none
theorem ok128 : FnOk Try.prog T 128 sp128 := by
  refine fn_ok (E := E128) hE (call_cons ok205 call_nil) hM Try.func128 (code := (Try.f128.body.getD .skip)) (by kernel_rfl) (by kernel_rfl) ?_
  have key : ∀ (a0 : Row) (b1 : Row), Pu.laws_eqEntryS.c a0 b1 = true → ∃ it : It Res, (∀ c ∈ loopsOf (Try.f128.body.getD .skip), LoopOk E128 it c) ∧ body E128 it Try.f128 [(.v false [(.sh 86 a0)]), (.v false [(.sh 86 b1)])] = some ⟨[(.v false [(.b (Pu.laws_eqEntryS.v a0 b1))])], []⟩ := by
    intro a0 b1  h1
    obtain ⟨N, hN⟩ := Pu.laws_eqEntryS.b_eq (R := Res) (fun r0 => some ⟨[(.v false [(.b r0)])], []⟩) a0 b1 h1
    have hl : loopsOf (Try.f128.body.getD .skip) = [loopOf Try.f128 4] := by kernel_rfl
    refine ⟨it128 N, by rw [hl]; exact (loops_cons (lo128_4 N) loops_nil), ?_⟩
    refine Eq.trans (show body E128 (it128 N) Try.f128 [(.v false [(.sh 86 a0)]), (.v false [(.sh 86 b1)])] = Pu.laws_eqEntryS.b N (fun r0 => some ⟨[(.v false [(.b r0)])], []⟩) a0 b1 by kernel_rfl) hN
  intro args r h
  unfold sp128 at h
  split at h
  · injection h with h
    injection h with h1 h2
    subst h2
    exact ⟨by kernel_rfl, fun hf => ⟨of_decide_eq_true (by kernel_rfl), key _ _ h1⟩⟩
  · cases h

end Go.FG.Se

namespace Go.FG.Se
open Go.Proofs
def T113_0 (p0 : Row) (p1 : Row) (p2 : Bool) (p3 : Int) : List (Nat × Cel) := [(0, (.v (.v false [(.sh 9 p0)]))), (2, (.v (.v false [(.sh 9 p1)]))), (8, (.v (.v false [(.b p2)]))), (10, (.v (.v false [(.i .i64 p3)])))]
def E113 : Env := { toTab := T, call := Go.FG.callIn [], mode := Go.FG.modeIn md, keep := Go.FG.keepIn [(4, [0, 1, 4, 5])], tk := fun n => Go.FG.memB n [], om := Go.FG.omIn [] }
def it113 (N : Nat) {R : Type} : It R := fun rid f cn L K => bif Nat.beq rid 4 then (tell [(0, (.v (.v false [(.sh 9 [])]))), (2, (.v (.v false [(.sh 9 [])]))), (8, (.v (.v false [(.b false)]))), (10, (.v (.v false [(.i .i64 0)])))] (fun | [.R x0, .R x1, .B x2, .I x3] => Pu.laws_eqStringS.l4 N (fun y0 y1 y2 y3 => (K .ret (tabl (T113_0 y0 y1 y2 y3)))) (fun y0 y1 y2 y3 => (K (.exit 0) (tabl (T113_0 y0 y1 y2 y3)))) N x0 x1 x2 x3 | _ => none) L (none)) else none
theorem e113_4 {R : Type} (N : Nat) (K : Ex → St → Option R) : ∀ n : Nat, (∀ x0 x1 x2 x3, iter (exc E113 (it113 N) (loopOf Try.f113 4)) (canon (E113.keep 4))  n (tabl (T113_0 x0 x1 x2 x3)) K = Pu.laws_eqStringS.l4 N (fun y0 y1 y2 y3 => (K .ret (tabl (T113_0 y0 y1 y2 y3)))) (fun y0 y1 y2 y3 => (K (.exit 0) (tabl (T113_0 y0 y1 y2 y3)))) n x0 x1 x2 x3) := by
  intro n
  induction n with
  | zero => exact (fun _ _ _ _ => rfl)
  | succ n ih =>
    have e0 : (fun x0 x1 x2 x3 => iter (exc E113 (it113 N) (loopOf Try.f113 4)) (canon (E113.keep 4))  n (tabl (T113_0 x0 x1 x2 x3)) K) = Pu.laws_eqStringS.l4 N (fun y0 y1 y2 y3 => (K .ret (tabl (T113_0 y0 y1 y2 y3)))) (fun y0 y1 y2 y3 => (K (.exit 0) (tabl (T113_0 y0 y1 y2 y3)))) n := by funext x0 x1 x2 x3; exact ih x0 x1 x2 x3
    intro x0 x1 x2 x3
    have h : ∀ g, exc E113 (it113 N) (loopOf Try.f113 4) (tabl (T113_0 x0 x1 x2 x3)) (iterK g (canon (E113.keep 4)) K) = Pu.laws_eqStringS.r4 N (fun x0 x1 x2 x3 => (g (tabl (T113_0 x0 x1 x2 x3)))) (fun y0 y1 y2 y3 => (K .ret (tabl (T113_0 y0 y1 y2 y3)))) (fun y0 y1 y2 y3 => (K (.exit 0) (tabl (T113_0 y0 y1 y2 y3)))) x0 x1 x2 x3 := by intro g; kernel_rfl
    refine (iter_succ _ _ n _ K).trans ((h _).trans ?_)
    show Pu.laws_eqStringS.r4 N (fun x0 x1 x2 x3 => (iter (exc E113 (it113 N) (loopOf Try.f113 4)) (canon (E113.keep 4))  n (tabl (T113_0 x0 x1 x2 x3)) K)) (fun y0 y1 y2 y3 => (K .ret (tabl (T113_0 y0 y1 y2 y3)))) (fun y0 y1 y2 y3 => (K (.exit 0) (tabl (T113_0 y0 y1 y2 y3)))) x0 x1 x2 x3 = _
    rw [e0]; rfl
theorem lo113_4 {R : Type} (N : Nat) : LoopOk E113 (it113 N (R := R)) (loopOf Try.f113 4) := by
  have e : firstRid (loopOf Try.f113 4) = 4 := by kernel_rfl
  intro L K r
  rw [e]
  intro h
  unfold it113 at h
  simp only [show Nat.beq 4 4 = true from rfl, cond_false, cond_true] at h
  refine tell_ok (Q := fun L => ∃ n, iter (exc E113 (it113 N) (loopOf Try.f113 4)) (canon (E113.keep 4)) n (tabl L) K = some r) h (fun xs h => ?_) (fun h => ?_)
  · (try dsimp only at h)
    split at h
    · exact ⟨N, ((e113_4 N K N) _ _ _ _).trans h⟩
    · cases h
  cases h
def sp113 : List Arg → Option (Bool × Res)
  | [(.v false [(.sh 9 a0)]), (.v false [(.sh 9 b1)])] => some (Pu.laws_eqStringS.c a0 b1, ⟨[(.v false [(.b (Pu.laws_eqStringS.v a0 b1))])], []⟩)
  | _ => none
theorem ok113 : FnOk Try.prog T 113 sp113 := by
  refine fn_ok (E := E113) hE call_nil hM Try.func113 (code := (Try.f113.body.getD .skip)) (by kernel_rfl) (by kernel_rfl) ?_
  have key : ∀ (a0 : Row) (b1 : Row), Pu.laws_eqStringS.c a0 b1 = true → ∃ it : It Res, (∀ c ∈ loopsOf (Try.f113.body.getD .skip), LoopOk E113 it c) ∧ body E113 it Try.f113 [(.v false [(.sh 9 a0)]), (.v false [(.sh 9 b1)])] = some ⟨[(.v false [(.b (Pu.laws_eqStringS.v a0 b1))])], []⟩ := by
    intro a0 b1  h1
    obtain ⟨N, hN⟩ := Pu.laws_eqStringS.b_eq (R := Res) (fun r0 => some ⟨[(.v false [(.b r0)])], []⟩) a0 b1 h1
    have hl : loopsOf (Try.f113.body.getD .skip) = [loopOf Try.f113 4] := by kernel_rfl
    refine ⟨it113 N, by rw [hl]; exact (loops_cons (lo113_4 N) loops_nil), ?_⟩
    refine Eq.trans (show body E113 (it113 N) Try.f113 [(.v false [(.sh 9 a0)]), (.v false [(.sh 9 b1)])] = Pu.laws_eqStringS.b N (fun r0 => some ⟨[(.v false [(.b r0)])], []⟩) a0 b1 by kernel_rfl) hN
  intro args r h
  unfold sp113 at h
  split at h
  · injection h with h
    injection h with h1 h2
    subst h2
    exact ⟨by kernel_rfl, fun hf => ⟨of_decide_eq_true (by kernel_rfl), key _ _ h1⟩⟩
  · cases h

end Go.FG.Se

namespace Go.FG.Se
open Go.Proofs
def T226_0 (p0 : Row) (p1 : Row) (p2 : Bool) (p3 : Int) : List (Nat × Cel) := [(0, (.v (.v false [(.sh 3 p0)]))), (2, (.v (.v false [(.sh 3 p1)]))), (8, (.v (.v false [(.b p2)]))), (10, (.v (.v false [(.i .i64 p3)])))]
def E226 : Env := { toTab := T, call := Go.FG.callIn [], mode := Go.FG.modeIn md, keep := Go.FG.keepIn [(4, [0, 1, 4, 5])], tk := fun n => Go.FG.memB n [], om := Go.FG.omIn [] }
def it226 (N : Nat) {R : Type} : It R := fun rid f cn L K => bif Nat.beq rid 4 then (tell [(0, (.v (.v false [(.sh 3 [])]))), (2, (.v (.v false [(.sh 3 [])]))), (8, (.v (.v false [(.b false)]))), (10, (.v (.v false [(.i .i64 0)])))] (fun | [.R x0, .R x1, .B x2, .I x3] => Pu.laws_eqIntS.l4 N (fun y0 y1 y2 y3 => (K .ret (tabl (T226_0 y0 y1 y2 y3)))) (fun y0 y1 y2 y3 => (K (.exit 0) (tabl (T226_0 y0 y1 y2 y3)))) N x0 x1 x2 x3 | _ => none) L (none)) else none
theorem e226_4 {R : Type} (N : Nat) (K : Ex → St → Option R) : ∀ n : Nat, (∀ x0 x1 x2 x3, iter (exc E226 (it226 N) (loopOf Try.f226 4)) (canon (E226.keep 4))  n (tabl (T226_0 x0 x1 x2 x3)) K = Pu.laws_eqIntS.l4 N (fun y0 y1 y2 y3 => (K .ret (tabl (T226_0 y0 y1 y2 y3)))) (fun y0 y1 y2 y3 => (K (.exit 0) (tabl (T226_0 y0 y1 y2 y3)))) n x0 x1 x2 x3) := by
  intro n
  induction n with
  | zero => exact (fun _ _ _ _ => rfl)
  | succ n ih =>
    have e0 : (fun x0 x1 x2 x3 => iter (exc E226 (it226 N) (loopOf Try.f226 4)) (canon (E226.keep 4))  n (tabl (T226_0 x0 x1 x2 x3)) K) = Pu.laws_eqIntS.l4 N (fun y0 y1 y2 y3 => (K .ret (tabl (T226_0 y0 y1 y2 y3)))) (fun y0 y1 y2 y3 => (K (.exit 0) (tabl (T226_0 y0 y1 y2 y3)))) n := by funext x0 x1 x2 x3; exact ih x0 x1 x2 x3
    intro x0 x1 x2 x3
    have h : ∀ g, exc E226 (it226 N) (loopOf Try.f226 4) (tabl (T226_0 x0 x1 x2 x3)) (iterK g (canon (E226.keep 4)) K) = Pu.laws_eqIntS.r4 N (fun x0 x1 x2 x3 => (g (tabl (T226_0 x0 x1 x2 x3)))) (fun y0 y1 y2 y3 => (K .ret (tabl (T226_0 y0 y1 y2 y3)))) (fun y0 y1 y2 y3 => (K (.exit 0) (tabl (T226_0 y0 y1 y2 y3)))) x0 x1 x2 x3 := by intro g; kernel_rfl
    refine (iter_succ _ _ n _ K).trans ((h _).trans ?_)
    show Pu.laws_eqIntS.r4 N (fun x0 x1 x2 x3 => (iter (exc E226 (it226 N) (loopOf Try.f226 4)) (canon (E226.keep 4))  n (tabl (T226_0 x0 x1 x2 x3)) K)) (fun y0 y1 y2 y3 => (K .ret (tabl (T226_0 y0 y1 y2 y3)))) (fun y0 y1 y2 y3 => (K (.exit 0) (tabl (T226_0 y0 y1 y2 y3)))) x0 x1 x2 x3 = _
    rw [e0]; rfl
theorem lo226_4 {R : Type} (N : Nat) : LoopOk E226 (it226 N (R := R)) (loopOf Try.f226 4) := by
  have e : firstRid (loopOf Try.f226 4) = 4 := by kernel_rfl
  intro L K r
  rw [e]
  intro h
  unfold it226 at h
  simp only [show Nat.beq 4 4 = true from rfl, cond_false, cond_true] at h
  refine tell_ok (Q := fun L => ∃ n, iter (exc E226 (it226 N) (loopOf Try.f226 4)) (canon (E226.keep 4)) n (tabl L) K = some r) h (fun xs h => ?_) (fun h => ?_)
  · (try dsimp only at h)
    split at h
    · exact ⟨N, ((e226_4 N K N) _ _ _ _).trans h⟩
    · cases h
  cases h
def sp226 : List Arg → Option (Bool × Res)
  | [(.v false [(.sh 3 a0)]), (.v false [(.sh 3 b1)])] => some (true, ⟨[(.v false [(.b (Pu.laws_eqIntS.v a0 b1))])], []⟩)
  | _ => none
theorem ok226 : FnOk Try.prog T 226 sp226 := by
  refine fn_ok (E := E226) hE call_nil hM Try.func226 (code := (Try.f226.body.getD .skip)) (by kernel_rfl) (by kernel_rfl) ?_
  have key : ∀ (a0 : Row) (b1 : Row), FitR a0 → FitR b1 → ∃ it : It Res, (∀ c ∈ loopsOf (Try.f226.body.getD .skip), LoopOk E226 it c) ∧ body E226 it Try.f226 [(.v false [(.sh 3 a0)]), (.v false [(.sh 3 b1)])] = some ⟨[(.v false [(.b (Pu.laws_eqIntS.v a0 b1))])], []⟩ := by
    intro a0 b1  g0 g1
    obtain ⟨N, hN⟩ := Pu.laws_eqIntS.b_eq (R := Res) (fun r0 => some ⟨[(.v false [(.b r0)])], []⟩) a0 b1 g0 g1
    have hl : loopsOf (Try.f226.body.getD .skip) = [loopOf Try.f226 4] := by kernel_rfl
    refine ⟨it226 N, by rw [hl]; exact (loops_cons (lo226_4 N) loops_nil), ?_⟩
    refine Eq.trans (show body E226 (it226 N) Try.f226 [(.v false [(.sh 3 a0)]), (.v false [(.sh 3 b1)])] = Pu.laws_eqIntS.b N (fun r0 => some ⟨[(.v false [(.b r0)])], []⟩) a0 b1 by kernel_rfl) hN
  intro args r h
  unfold sp226 at h
  split at h
  · injection h with h
    injection h with h1 h2
    subst h2
    exact ⟨by kernel_rfl, fun hf => ⟨of_decide_eq_true (by kernel_rfl), key _ _ hf.1.1 hf.2.1.1⟩⟩
  · cases h

end Go.FG.Se

namespace Go.FG.Se
open Go.Proofs
def T194_0 (p0 : Row) (p1 : Row) (p2 : Bool) (p3 : Int) : List (Nat × Cel) := [(0, (.v (.v false [(.sh 30 p0)]))), (2, (.v (.v false [(.sh 30 p1)]))), (8, (.v (.v false [(.b p2)]))), (10, (.v (.v false [(.i .i64 p3)])))]
def E194 : Env := { toTab := T, call := Go.FG.callIn [(226, sp226)], mode := Go.FG.modeIn md, keep := Go.FG.keepIn [(4, [0, 1, 4, 5])], tk := fun n => Go.FG.memB n [], om := Go.FG.omIn [] }
def it194 (N : Nat) {R : Type} : It R := fun rid f cn L K => bif Nat.beq rid 4 then (tell [(0, (.v (.v false [(.sh 30 [])]))), (2, (.v (.v false [(.sh 30 [])]))), (8, (.v (.v false [(.b false)]))), (10, (.v (.v false [(.i .i64 0)])))] (fun | [.R x0, .R x1, .B x2, .I x3] => Pu.laws_eqIntSS.l4 N (fun y0 y1 y2 y3 => (K .ret (tabl (T194_0 y0 y1 y2 y3)))) (fun y0 y1 y2 y3 => (K (.exit 0) (tabl (T194_0 y0 y1 y2 y3)))) N x0 x1 x2 x3 | _ => none) L (none)) else none
theorem e194_4 {R : Type} (N : Nat) (K : Ex → St → Option R) : ∀ n : Nat, (∀ x0 x1 x2 x3, iter (exc E194 (it194 N) (loopOf Try.f194 4)) (canon (E194.keep 4))  n (tabl (T194_0 x0 x1 x2 x3)) K = Pu.laws_eqIntSS.l4 N (fun y0 y1 y2 y3 => (K .ret (tabl (T194_0 y0 y1 y2 y3)))) (fun y0 y1 y2 y3 => (K (.exit 0) (tabl (T194_0 y0 y1 y2 y3)))) n x0 x1 x2 x3) := by
  intro n
  induction n with
  | zero => exact (fun _ _ _ _ => rfl)
  | succ n ih =>
    have e0 : (fun x0 x1 x2 x3 => iter (exc E194 (it194 N) (loopOf Try.f194 4)) (canon (E194.keep 4))  n (tabl (T194_0 x0 x1 x2 x3)) K) = Pu.laws_eqIntSS.l4 N (fun y0 y1 y2 y3 => (K .ret (tabl (T194_0 y0 y1 y2 y3)))) (fun y0 y1 y2 y3 => (K (.exit 0) (tabl (T194_0 y0 y1 y2 y3)))) n := by funext x0 x1 x2 x3; exact ih x0 x1 x2 x3
    intro x0 x1 x2 x3
    have h : ∀ g, exc E194 (it194 N) (loopOf Try.f194 4) (tabl (T194_0 x0 x1 x2 x3)) (iterK g (canon (E194.keep 4)) K) = Pu.laws_eqIntSS.r4 N (fun x0 x1 x2 x3 => (g (tabl (T194_0 x0 x1 x2 x3)))) (fun y0 y1 y2 y3 => (K .ret (tabl (T194_0 y0 y1 y2 y3)))) (fun y0 y1 y2 y3 => (K (.exit 0) (tabl (T194_0 y0 y1 y2 y3)))) x0 x1 x2 x3 := by intro g; kernel_rfl
    refine (iter_succ _ _ n _ K).trans ((h _).trans ?_)
    show Pu.laws_eqIntSS.r4 N (fun x0 x1 x2 x3 => (iter (exc E194 (it194 N) (loopOf Try.f194 4)) (canon (E194.keep 4))  n (tabl (T194_0 x0 x1 x2 x3)) K)) (fun y0 y1 y2 y3 => (K .ret (tabl (T194_0 y0 y1 y2 y3)))) (fun y0 y1 y2 y3 => (K (.exit 0) (tabl (T194_0 y0 y1 y2 y3)))) x0 x1 x2 x3 = _
    rw [e0]; rfl
theorem lo194_4 {R : Type} (N : Nat) : LoopOk E194 (it194 N (R := R)) (loopOf Try.f194 4) := by
  have e : firstRid (loopOf Try.f194 4) = 4 := by kernel_rfl
  intro L K r
  rw [e]
  intro h
  unfold it194 at h
  simp only [show Nat.beq 4 4 = true from rfl, cond_false, cond_true] at h
  refine tell_ok (Q := fun L => ∃ n, iter (exc E194 (it194 N) (loopOf Try.f194 4)) (canon (E194.keep 4)) n (tabl L) K = some r) h (fun xs h => ?_) (fun h => ?_)
  · (try dsimp only at h)
    split at h
    · exact ⟨N, ((e194_4 N K N) _ _ _ _).trans h⟩
    · cases h
  cases h
def sp194 : List Arg → Option (Bool × Res)
  | [(.v false [(.sh 30 a0)]), (.v false [(.sh 30 b1)])] => some (Pu.laws_eqIntSS.c a0 b1, ⟨[(.v false [(.b (Pu.laws_eqIntSS.v a0 b1))])], []⟩)
  | _ => none
theorem ok194 : FnOk Try.prog T 194 sp194 := by
  refine fn_ok (E := E194) hE (call_cons ok226 call_nil) hM Try.func194 (code := (Try.f194.body.getD .skip)) (by kernel_rfl) (by kernel_rfl) ?_
  have key : ∀ (a0 : Row) (b1 : Row), Pu.laws_eqIntSS.c a0 b1 = true → ∃ it : It Res, (∀ c ∈ loopsOf (Try.f194.body.getD .skip), LoopOk E194 it c) ∧ body E194 it Try.f194 [(.v false [(.sh 30 a0)]), (.v false [(.sh 30 b1)])] = some ⟨[(.v false [(.b (Pu.laws_eqIntSS.v a0 b1))])], []⟩ := by
    intro a0 b1  h1
    obtain ⟨N, hN⟩ := Pu.laws_eqIntSS.b_eq (R := Res) (fun r0 => some ⟨[(.v false [(.b r0)])], []⟩) a0 b1 h1
    have hl : loopsOf (Try.f194.body.getD .skip) = [loopOf Try.f194 4] := by kernel_rfl
    refine ⟨it194 N, by rw [hl]; exact (loops_cons (lo194_4 N) loops_nil), ?_⟩
    refine Eq.trans (show body E194 (it194 N) Try.f194 [(.v false [(.sh 30 a0)]), (.v false [(.sh 30 b1)])] = Pu.laws_eqIntSS.b N (fun r0 => some ⟨[(.v false [(.b r0)])], []⟩) a0 b1 by kernel_rfl) hN
  intro args r h
  unfold sp194 at h
  split at h
  · injection h with h
    injection h with h1 h2
    subst h2
    exact ⟨by kernel_rfl, fun hf => ⟨of_decide_eq_true (by kernel_rfl), key _ _ h1⟩⟩
  · cases h

end Go.FG.Se

namespace Go.FG.Se
open Go.Proofs
def E114 : Env := { toTab := T, call := Go.FG.callIn [(194, sp194)], mode := Go.FG.modeIn md, keep := Go.FG.keepIn [], tk := fun n => Go.FG.memB n [], om := Go.FG.omIn [] }
def sp114 : List Arg → Option (Bool × Res)
  | [(.v true [(.sh 30 a0_0), (.i .i64 a0_1)]), (.v true [(.sh 30 b1_0), (.i .i64 b1_1)])] => some (Pu.laws_eqSketch.c a0_0 a0_1 b1_0 b1_1, ⟨[(.v false [(.b (Pu.laws_eqSketch.v a0_0 a0_1 b1_0 b1_1))])], []⟩)
  | _ => none
theorem ok114 : FnOk Try.prog T 114 sp114 := by
  refine fn_ok (E := E114) hE (call_cons ok194 call_nil) hM Try.func114 (code := (Try.f114.body.getD .skip)) (by kernel_rfl) (by kernel_rfl) ?_
  have key : ∀ (a0_0 : Row) (a0_1 : Int) (b1_0 : Row) (b1_1 : Int), Pu.laws_eqSketch.c a0_0 a0_1 b1_0 b1_1 = true → ∃ it : It Res, (∀ c ∈ loopsOf (Try.f114.body.getD .skip), LoopOk E114 it c) ∧ body E114 it Try.f114 [(.v true [(.sh 30 a0_0), (.i .i64 a0_1)]), (.v true [(.sh 30 b1_0), (.i .i64 b1_1)])] = some ⟨[(.v false [(.b (Pu.laws_eqSketch.v a0_0 a0_1 b1_0 b1_1))])], []⟩ := by
    intro a0_0 a0_1 b1_0 b1_1  h1
    have hN := Pu.laws_eqSketch.b_eq (R := Res) (fun r0 => some ⟨[(.v false [(.b r0)])], []⟩) a0_0 a0_1 b1_0 b1_1 h1
    have hl : loopsOf (Try.f114.body.getD .skip) = [] := by kernel_rfl
    refine ⟨iterN 0, by rw [hl]; exact loops_nil, ?_⟩
    refine Eq.trans (show body E114 (iterN 0) Try.f114 [(.v true [(.sh 30 a0_0), (.i .i64 a0_1)]), (.v true [(.sh 30 b1_0), (.i .i64 b1_1)])] = Pu.laws_eqSketch.b (fun r0 => some ⟨[(.v false [(.b r0)])], []⟩) a0_0 a0_1 b1_0 b1_1 by kernel_rfl) hN
  intro args r h
  unfold sp114 at h
  split at h
  · injection h with h
    injection h with h1 h2
    subst h2
    exact ⟨by kernel_rfl, fun hf => ⟨of_decide_eq_true (by kernel_rfl), key _ _ _ _ h1⟩⟩
  · cases h

end Go.FG.Se

namespace Go.FG.Se
open Go.Proofs
def E35 : Env := { toTab := T, call := Go.FG.callIn [(113, sp113), (114, sp114)], mode := Go.FG.modeIn md, keep := Go.FG.keepIn [], tk := fun n => Go.FG.memB n [], om := Go.FG.omIn [] }
def sp35 : List Arg → Option (Bool × Res)
  | [(.v true [(.sh 9 a0_0), (.sh 9 a0_1), (.sh 30 a0_2), (.i .i64 a0_3)]), (.v true [(.sh 9 b1_0), (.sh 9 b1_1), (.sh 30 b1_2), (.i .i64 b1_3)])] => some (Pu.laws_eqPolicy.c a0_0 a0_1 a0_2 a0_3 b1_0 b1_1 b1_2 b1_3, ⟨[(.v false [(.b (Pu.laws_eqPolicy.v a0_0 a0_1 a0_2 a0_3 b1_0 b1_1 b1_2 b1_3))])], []⟩)
  | _ => none
theorem ok35 : FnOk Try.prog T 35 sp35 := by
  refine fn_ok (E := E35) hE (call_cons ok113 (call_cons ok114 call_nil)) hM Try.func35 (code := (Try.f35.body.getD .skip)) (by kernel_rfl) (by kernel_rfl) ?_
  have key : ∀ (a0_0 : Row) (a0_1 : Row) (a0_2 : Row) (a0_3 : Int) (b1_0 : Row) (b1_1 : Row) (b1_2 : Row) (b1_3 : Int), Pu.laws_eqPolicy.c a0_0 a0_1 a0_2 a0_3 b1_0 b1_1 b1_2 b1_3 = true → ∃ it : It Res, (∀ c ∈ loopsOf (Try.f35.body.getD .skip), LoopOk E35 it c) ∧ body E35 it Try.f35 [(.v true [(.sh 9 a0_0), (.sh 9 a0_1), (.sh 30 a0_2), (.i .i64 a0_3)]), (.v true [(.sh 9 b1_0), (.sh 9 b1_1), (.sh 30 b1_2), (.i .i64 b1_3)])] = some ⟨[(.v false [(.b (Pu.laws_eqPolicy.v a0_0 a0_1 a0_2 a0_3 b1_0 b1_1 b1_2 b1_3))])], []⟩ := by
    intro a0_0 a0_1 a0_2 a0_3 b1_0 b1_1 b1_2 b1_3  h1
    have hN := Pu.laws_eqPolicy.b_eq (R := Res) (fun r0 => some ⟨[(.v false [(.b r0)])], []⟩) a0_0 a0_1 a0_2 a0_3 b1_0 b1_1 b1_2 b1_3 h1
    have hl : loopsOf (Try.f35.body.getD .skip) = [] := by kernel_rfl
    refine ⟨iterN 0, by rw [hl]; exact loops_nil, ?_⟩
    refine Eq.trans (show body E35 (iterN 0) Try.f35 [(.v true [(.sh 9 a0_0), (.sh 9 a0_1), (.sh 30 a0_2), (.i .i64 a0_3)]), (.v true [(.sh 9 b1_0), (.sh 9 b1_1), (.sh 30 b1_2), (.i .i64 b1_3)])] = Pu.laws_eqPolicy.b (fun r0 => some ⟨[(.v false [(.b r0)])], []⟩) a0_0 a0_1 a0_2 a0_3 b1_0 b1_1 b1_2 b1_3 by kernel_rfl) hN
  intro args r h
  unfold sp35 at h
  split at h
  · injection h with h
    injection h with h1 h2
    subst h2
    exact ⟨by kernel_rfl, fun hf => ⟨of_decide_eq_true (by kernel_rfl), key _ _ _ _ _ _ _ _ h1⟩⟩
  · cases h

end Go.FG.Se

namespace Go.FG.Se
open Go.Proofs
def E206 : Env := { toTab := T, call := Go.FG.callIn [], mode := Go.FG.modeIn md, keep := Go.FG.keepIn [], tk := fun n => Go.FG.memB n [], om := Go.FG.omIn [] }
def sp206 : List Arg → Option (Bool × Res)
  | [(.v true [(.s a0_0), (.s a0_1), (.i .i64 a0_2), (.i .i64 a0_3), (.i .i64 a0_4)]), (.v true [(.s b1_0), (.s b1_1), (.i .i64 b1_2), (.i .i64 b1_3), (.i .i64 b1_4)])] => some (true, ⟨[(.v false [(.b (Pu.laws_eqFetch.v a0_0 a0_1 a0_2 a0_3 a0_4 b1_0 b1_1 b1_2 b1_3 b1_4))])], []⟩)
  | _ => none
theorem ok206 : FnOk Try.prog T 206 sp206 := by
  refine fn_ok (E := E206) hE call_nil hM Try.func206 (code := (Try.f206.body.getD .skip)) (by kernel_rfl) (by kernel_rfl) ?_
  have key : ∀ (a0_0 : ByteArray) (a0_1 : ByteArray) (a0_2 : Int) (a0_3 : Int) (a0_4 : Int) (b1_0 : ByteArray) (b1_1 : ByteArray) (b1_2 : Int) (b1_3 : Int) (b1_4 : Int), ∃ it : It Res, (∀ c ∈ loopsOf (Try.f206.body.getD .skip), LoopOk E206 it c) ∧ body E206 it Try.f206 [(.v true [(.s a0_0), (.s a0_1), (.i .i64 a0_2), (.i .i64 a0_3), (.i .i64 a0_4)]), (.v true [(.s b1_0), (.s b1_1), (.i .i64 b1_2), (.i .i64 b1_3), (.i .i64 b1_4)])] = some ⟨[(.v false [(.b (Pu.laws_eqFetch.v a0_0 a0_1 a0_2 a0_3 a0_4 b1_0 b1_1 b1_2 b1_3 b1_4))])], []⟩ := by
    intro a0_0 a0_1 a0_2 a0_3 a0_4 b1_0 b1_1 b1_2 b1_3 b1_4 
    have hN := Pu.laws_eqFetch.b_eq (R := Res) (fun r0 => some ⟨[(.v false [(.b r0)])], []⟩) a0_0 a0_1 a0_2 a0_3 a0_4 b1_0 b1_1 b1_2 b1_3 b1_4
    have hl : loopsOf (Try.f206.body.getD .skip) = [] := by kernel_rfl
    refine ⟨iterN 0, by rw [hl]; exact loops_nil, ?_⟩
    refine Eq.trans (show body E206 (iterN 0) Try.f206 [(.v true [(.s a0_0), (.s a0_1), (.i .i64 a0_2), (.i .i64 a0_3), (.i .i64 a0_4)]), (.v true [(.s b1_0), (.s b1_1), (.i .i64 b1_2), (.i .i64 b1_3), (.i .i64 b1_4)])] = Pu.laws_eqFetch.b (fun r0 => some ⟨[(.v false [(.b r0)])], []⟩) a0_0 a0_1 a0_2 a0_3 a0_4 b1_0 b1_1 b1_2 b1_3 b1_4 by kernel_rfl) hN
  intro args r h
  unfold sp206 at h
  split at h
  · injection h with h
    injection h with h1 h2
    subst h2
    exact ⟨by kernel_rfl, fun hf => ⟨of_decide_eq_true (by kernel_rfl), key _ _ _ _ _ _ _ _ _ _⟩⟩
  · cases h

end Go.FG.Se

namespace Go.FG.Se
open Go.Proofs
def T129_0 (p0 : Row) (p1 : Row) (p2 : Bool) (p3 : Int) : List (Nat × Cel) := [(0, (.v (.v false [(.sh 126 p0)]))), (2, (.v (.v false [(.sh 126 p1)]))), (8, (.v (.v false [(.b p2)]))), (10, (.v (.v false [(.i .i64 p3)])))]
def E129 : Env := { toTab := T, call := Go.FG.callIn [(206, sp206)], mode := Go.FG.modeIn md, keep := Go.FG.keepIn [(4, [0, 1, 4, 5])], tk := fun n => Go.FG.memB n [], om := Go.FG.omIn [] }
def it129 (N : Nat) {R : Type} : It R := fun rid f cn L K => bif Nat.beq rid 4 then (tell [(0, (.v (.v false [(.sh 126 [])]))), (2, (.v (.v false [(.sh 126 [])]))), (8, (.v (.v false [(.b false)]))), (10, (.v (.v false [(.i .i64 0)])))] (fun | [.R x0, .R x1, .B x2, .I x3] => Pu.laws_eqFetchS.l4 N (fun y0 y1 y2 y3 => (K .ret (tabl (T129_0 y0 y1 y2 y3)))) (fun y0 y1 y2 y3 => (K (.exit 0) (tabl (T129_0 y0 y1 y2 y3)))) N x0 x1 x2 x3 | _ => none) L (none)) else none
theorem e129_4 {R : Type} (N : Nat) (K : Ex → St → Option R) : ∀ n : Nat, (∀ x0 x1 x2 x3, iter (exc E129 (it129 N) (loopOf Try.f129 4)) (canon (E129.keep 4))  n (tabl (T129_0 x0 x1 x2 x3)) K = Pu.laws_eqFetchS.l4 N (fun y0 y1 y2 y3 => (K .ret (tabl (T129_0 y0 y1 y2 y3)))) (fun y0 y1 y2 y3 => (K (.exit 0) (tabl (T129_0 y0 y1 y2 y3)))) n x0 x1 x2 x3) := by
  intro n
  induction n with
  | zero => exact (fun _ _ _ _ => rfl)
  | succ n ih =>
    have e0 : (fun x0 x1 x2 x3 => iter (exc E129 (it129 N) (loopOf Try.f129 4)) (canon (E129.keep 4))  n (tabl (T129_0 x0 x1 x2 x3)) K) = Pu.laws_eqFetchS.l4 N (fun y0 y1 y2 y3 => (K .ret (tabl (T129_0 y0 y1 y2 y3)))) (fun y0 y1 y2 y3 => (K (.exit 0) (tabl (T129_0 y0 y1 y2 y3)))) n := by funext x0 x1 x2 x3; exact ih x0 x1 x2 x3
    intro x0 x1 x2 x3
    have h : ∀ g, exc E129 (it129 N) (loopOf Try.f129 4) (tabl (T129_0 x0 x1 x2 x3)) (iterK g (canon (E129.keep 4)) K) = Pu.laws_eqFetchS.r4 N (fun x0 x1 x2 x3 => (g (tabl (T129_0 x0 x1 x2 x3)))) (fun y0 y1 y2 y3 => (K .ret (tabl (T129_0 y0 y1 y2 y3)))) (fun y0 y1 y2 y3 => (K (.exit 0) (tabl (T129_0 y0 y1 y2 y3)))) x0 x1 x2 x3 := by intro g; kernel_rfl
    refine (iter_succ _ _ n _ K).trans ((h _).trans ?_)
    show Pu.laws_eqFetchS.r4 N (fun x0 x1 x2 x3 => (iter (exc E129 (it129 N) (loopOf Try.f129 4)) (canon (E129.keep 4))  n (tabl (T129_0 x0 x1 x2 x3)) K)) (fun y0 y1 y2 y3 => (K .ret (tabl (T129_0 y0 y1 y2 y3)))) (fun y0 y1 y2 y3 => (K (.exit 0) (tabl (T129_0 y0 y1 y2 y3)))) x0 x1 x2 x3 = _
    rw [e0]; rfl
theorem lo129_4 {R : Type} (N : Nat) : LoopOk E129 (it129 N (R := R)) (loopOf Try.f129 4) := by
  have e : firstRid (loopOf Try.f129 4) = 4 := by kernel_rfl
  intro L K r
  rw [e]
  intro h
  unfold it129 at h
  simp only [show Nat.beq 4 4 = true from rfl, cond_false, cond_true] at h
  refine tell_ok (Q := fun L => ∃ n, iter (exc E129 (it129 N) (loopOf Try.f129 4)) (canon (E129.keep 4)) n (tabl L) K = some r) h (fun xs h => ?_) (fun h => ?_)
  · (try dsimp only at h)
    split at h
    · exact ⟨N, ((e129_4 N K N) _ _ _ _).trans h⟩
    · cases h
  cases h
def sp129 : List Arg → Option (Bool × Res)
  | [(.v false [(.sh 126 a0)]), (.v false [(.sh 126 b1)])] => some (Pu.laws_eqFetchS.c a0 b1, ⟨[(.v false [(.b (Pu.laws_eqFetchS.v a0 b1))])], []⟩)
  | _ => none
theorem ok129 : FnOk Try.prog T 129 sp129 := by
  refine fn_ok (E := E129) hE (call_cons ok206 call_nil) hM Try.func129 (code := (Try.f129.body.getD .skip)) (by kernel_rfl) (by kernel_rfl) ?_
  have key : ∀ (a0 : Row) (b1 : Row), Pu.laws_eqFetchS.c a0 b1 = true → ∃ it : It Res, (∀ c ∈ loopsOf (Try.f129.body.getD .skip), LoopOk E129 it c) ∧ body E129 it Try.f129 [(.v false [(.sh 126 a0)]), (.v false [(.sh 126 b1)])] = some ⟨[(.v false [(.b (Pu.laws_eqFetchS.v a0 b1))])], []⟩ := by
    intro a0 b1  h1
    obtain ⟨N, hN⟩ := Pu.laws_eqFetchS.b_eq (R := Res) (fun r0 => some ⟨[(.v false [(.b r0)])], []⟩) a0 b1 h1
    have hl : loopsOf (Try.f129.body.getD .skip) = [loopOf Try.f129 4] := by kernel_rfl
    refine ⟨it129 N, by rw [hl]; exact (loops_cons (lo129_4 N) loops_nil), ?_⟩
    refine Eq.trans (show body E129 (it129 N) Try.f129 [(.v false [(.sh 126 a0)]), (.v false [(.sh 126 b1)])] = Pu.laws_eqFetchS.b N (fun r0 => some ⟨[(.v false [(.b r0)])], []⟩) a0 b1 by kernel_rfl) hN
  intro args r h
  unfold sp129 at h
  split at h
  · injection h with h
    injection h with h1 h2
    subst h2
    exact ⟨by kernel_rfl, fun hf => ⟨of_decide_eq_true (by kernel_rfl), key _ _ h1⟩⟩
  · cases h

end Go.FG.Se

namespace Go.FG.Se
open Go.Proofs
def E207 : Env := { toTab := T, call := Go.FG.callIn [], mode := Go.FG.modeIn md, keep := Go.FG.keepIn [], tk := fun n => Go.FG.memB n [], om := Go.FG.omIn [] }
def sp207 : List Arg → Option (Bool × Res)
  | [(.v true [(.i .i64 a0_0), (.s a0_1), (.i .i64 a0_2), (.i .i64 a0_3), (.i .i64 a0_4), (.s a0_5), (.i .i64 a0_6)]), (.v true [(.i .i64 b1_0), (.s b1_1), (.i .i64 b1_2), (.i .i64 b1_3), (.i .i64 b1_4), (.s b1_5), (.i .i64 b1_6)])] => some (true, ⟨[(.v false [(.b (Pu.laws_eqClient.v a0_0 a0_1 a0_2 a0_3 a0_4 a0_5 a0_6 b1_0 b1_1 b1_2 b1_3 b1_4 b1_5 b1_6))])], []⟩)
  | _ => none
theorem ok207 : FnOk Try.prog T 207 sp207 := by
  refine fn_ok (E := E207) hE call_nil hM Try.func207 (code := (Try.f207.body.getD .skip)) (by kernel_rfl) (by kernel_rfl) ?_
  have key : ∀ (a0_0 : Int) (a0_1 : ByteArray) (a0_2 : Int) (a0_3 : Int) (a0_4 : Int) (a0_5 : ByteArray) (a0_6 : Int) (b1_0 : Int) (b1_1 : ByteArray) (b1_2 : Int) (b1_3 : Int) (b1_4 : Int) (b1_5 : ByteArray) (b1_6 : Int), ∃ it : It Res, (∀ c ∈ loopsOf (Try.f207.body.getD .skip), LoopOk E207 it c) ∧ body E207 it Try.f207 [(.v true [(.i .i64 a0_0), (.s a0_1), (.i .i64 a0_2), (.i .i64 a0_3), (.i .i64 a0_4), (.s a0_5), (.i .i64 a0_6)]), (.v true [(.i .i64 b1_0), (.s b1_1), (.i .i64 b1_2), (.i .i64 b1_3), (.i .i64 b1_4), (.s b1_5), (.i .i64 b1_6)])] = some ⟨[(.v false [(.b (Pu.laws_eqClient.v a0_0 a0_1 a0_2 a0_3 a0_4 a0_5 a0_6 b1_0 b1_1 b1_2 b1_3 b1_4 b1_5 b1_6))])], []⟩ := by
    intro a0_0 a0_1 a0_2 a0_3 a0_4 a0_5 a0_6 b1_0 b1_1 b1_2 b1_3 b1_4 b1_5 b1_6 
    have hN := Pu.laws_eqClient.b_eq (R := Res) (fun r0 => some ⟨[(.v false [(.b r0)])], []⟩) a0_0 a0_1 a0_2 a0_3 a0_4 a0_5 a0_6 b1_0 b1_1 b1_2 b1_3 b1_4 b1_5 b1_6
    have hl : loopsOf (Try.f207.body.getD .skip) = [] := by kernel_rfl
    refine ⟨iterN 0, by rw [hl]; exact loops_nil, ?_⟩
    refine Eq.trans (show body E207 (iterN 0) Try.f207 [(.v true [(.i .i64 a0_0), (.s a0_1), (.i .i64 a0_2), (.i .i64 a0_3), (.i .i64 a0_4), (.s a0_5), (.i .i64 a0_6)]), (.v true [(.i .i64 b1_0), (.s b1_1), (.i .i64 b1_2), (.i .i64 b1_3), (.i .i64 b1_4), (.s b1_5), (.i .i64 b1_6)])] = Pu.laws_eqClient.b (fun r0 => some ⟨[(.v false [(.b r0)])], []⟩) a0_0 a0_1 a0_2 a0_3 a0_4 a0_5 a0_6 b1_0 b1_1 b1_2 b1_3 b1_4 b1_5 b1_6 by kernel_rfl) hN
  intro args r h
  unfold sp207 at h
  split at h
  · injection h with h
    injection h with h1 h2
    subst h2
    exact ⟨by kernel_rfl, fun hf => ⟨of_decide_eq_true (by kernel_rfl), key _ _ _ _ _ _ _ _ _ _ _ _ _ _⟩⟩
  · cases h

end Go.FG.Se

namespace Go.FG.Se
open Go.Proofs
def T130_0 (p0 : Row) (p1 : Row) (p2 : Bool) (p3 : Int) : List (Nat × Cel) := [(0, (.v (.v false [(.sh 62 p0)]))), (2, (.v (.v false [(.sh 62 p1)]))), (8, (.v (.v false [(.b p2)]))), (10, (.v (.v false [(.i .i64 p3)])))]
def E130 : Env := { toTab := T, call := Go.FG.callIn [(207, sp207)], mode := Go.FG.modeIn md, keep := Go.FG.keepIn [(4, [0, 1, 4, 5])], tk := fun n => Go.FG.memB n [], om := Go.FG.omIn [] }
def it130 (N : Nat) {R : Type} : It R := fun rid f cn L K => bif Nat.beq rid 4 then (tell [(0, (.v (.v false [(.sh 62 [])]))), (2, (.v (.v false [(.sh 62 [])]))), (8, (.v (.v false [(.b false)]))), (10, (.v (.v false [(.i .i64 0)])))] (fun | [.R x0, .R x1, .B x2, .I x3] => Pu.laws_eqClientS.l4 N (fun y0 y1 y2 y3 => (K .ret (tabl (T130_0 y0 y1 y2 y3)))) (fun y0 y1 y2 y3 => (K (.exit 0) (tabl (T130_0 y0 y1 y2 y3)))) N x0 x1 x2 x3 | _ => none) L (none)) else none
theorem e130_4 {R : Type} (N : Nat) (K : Ex → St → Option R) : ∀ n : Nat, (∀ x0 x1 x2 x3, iter (exc E130 (it130 N) (loopOf Try.f130 4)) (canon (E130.keep 4))  n (tabl (T130_0 x0 x1 x2 x3)) K = Pu.laws_eqClientS.l4 N (fun y0 y1 y2 y3 => (K .ret (tabl (T130_0 y0 y1 y2 y3)))) (fun y0 y1 y2 y3 => (K (.exit 0) (tabl (T130_0 y0 y1 y2 y3)))) n x0 x1 x2 x3) := by
  intro n
  induction n with
  | zero => exact (fun _ _ _ _ => rfl)
  | succ n ih =>
    have e0 : (fun x0 x1 x2 x3 => iter (exc E130 (it130 N) (loopOf Try.f130 4)) (canon (E130.keep 4))  n (tabl (T130_0 x0 x1 x2 x3)) K) = Pu.laws_eqClientS.l4 N (fun y0 y1 y2 y3 => (K .ret (tabl (T130_0 y0 y1 y2 y3)))) (fun y0 y1 y2 y3 => (K (.exit 0) (tabl (T130_0 y0 y1 y2 y3)))) n := by funext x0 x1 x2 x3; exact ih x0 x1 x2 x3
    intro x0 x1 x2 x3
    have h : ∀ g, exc E130 (it130 N) (loopOf Try.f130 4) (tabl (T130_0 x0 x1 x2 x3)) (iterK g (canon (E130.keep 4)) K) = Pu.laws_eqClientS.r4 N (fun x0 x1 x2 x3 => (g (tabl (T130_0 x0 x1 x2 x3)))) (fun y0 y1 y2 y3 => (K .ret (tabl (T130_0 y0 y1 y2 y3)))) (fun y0 y1 y2 y3 => (K (.exit 0) (tabl (T130_0 y0 y1 y2 y3)))) x0 x1 x2 x3 := by intro g; kernel_rfl
    refine (iter_succ _ _ n _ K).trans ((h _).trans ?_)
    show Pu.laws_eqClientS.r4 N (fun x0 x1 x2 x3 => (iter (exc E130 (it130 N) (loopOf Try.f130 4)) (canon (E130.keep 4))  n (tabl (T130_0 x0 x1 x2 x3)) K)) (fun y0 y1 y2 y3 => (K .ret (tabl (T130_0 y0 y1 y2 y3)))) (fun y0 y1 y2 y3 => (K (.exit 0) (tabl (T130_0 y0 y1 y2 y3)))) x0 x1 x2 x3 = _
    rw [e0]; rfl
theorem lo130_4 {R : Type} (N : Nat) : LoopOk E130 (it130 N (R := R)) (loopOf Try.f130 4) := by
  have e : firstRid (loopOf Try.f130 4) = 4 := by kernel_rfl
  intro L K r
  rw [e]
  intro h
  unfold it130 at h
  simp only [show Nat.beq 4 4 = true from rfl, cond_false, cond_true] at h
  refine tell_ok (Q := fun L => ∃ n, iter (exc E130 (it130 N) (loopOf Try.f130 4)) (canon (E130.keep 4)) n (tabl L) K = some r) h (fun xs h => ?_) (fun h => ?_)
  · (try dsimp only at h)
    split at h
    · exact ⟨N, ((e130_4 N K N) _ _ _ _).trans h⟩
    · cases h
  cases h
def sp130 : List Arg → Option (Bool × Res)
  | [(.v false [(.sh 62 a0)]), (.v false [(.sh 62 b1)])] => some (Pu.laws_eqClientS.c a0 b1, ⟨[(.v false [(.b (Pu.laws_eqClientS.v a0 b1))])], []⟩)
  | _ => none
theorem ok130 : FnOk Try.prog T 130 sp130 := by
  refine fn_ok (E := E130) hE (call_cons ok207 call_nil) hM Try.func130 (code := (Try.f130.body.getD .skip)) (by kernel_rfl) (by kernel_rfl) ?_
  have key : ∀ (a0 : Row) (b1 : Row), Pu.laws_eqClientS.c a0 b1 = true → ∃ it : It Res, (∀ c ∈ loopsOf (Try.f130.body.getD .skip), LoopOk E130 it c) ∧ body E130 it Try.f130 [(.v false [(.sh 62 a0)]), (.v false [(.sh 62 b1)])] = some ⟨[(.v false [(.b (Pu.laws_eqClientS.v a0 b1))])], []⟩ := by
    intro a0 b1  h1
    obtain ⟨N, hN⟩ := Pu.laws_eqClientS.b_eq (R := Res) (fun r0 => some ⟨[(.v false [(.b r0)])], []⟩) a0 b1 h1
    have hl : loopsOf (Try.f130.body.getD .skip) = [loopOf Try.f130 4] := by kernel_rfl
    refine ⟨it130 N, by rw [hl]; exact (loops_cons (lo130_4 N) loops_nil), ?_⟩
    refine Eq.trans (show body E130 (it130 N) Try.f130 [(.v false [(.sh 62 a0)]), (.v false [(.sh 62 b1)])] = Pu.laws_eqClientS.b N (fun r0 => some ⟨[(.v false [(.b r0)])], []⟩) a0 b1 by kernel_rfl) hN
  intro args r h
  unfold sp130 at h
  split at h
  · injection h with h
    injection h with h1 h2
    subst h2
    exact ⟨by kernel_rfl, fun hf => ⟨of_decide_eq_true (by kernel_rfl), key _ _ h1⟩⟩
  · cases h

end Go.FG.Se

namespace Go.FG.Se
open Go.Proofs
def E41 : Env := { toTab := T, call := Go.FG.callIn [(128, sp128), (35, sp35), (129, sp129), (130, sp130)], mode := Go.FG.modeIn md, keep := Go.FG.keepIn [], tk := fun n => Go.FG.memB n [], om := Go.FG.omIn [] }
def sp41 : List Arg → Option (Bool × Res)
  | [(.v true [(.i .i64 a0_0), (.sh 86 a0_1), (.sh 9 a0_2), (.sh 9 a0_3), (.sh 30 a0_4), (.i .i64 a0_5), (.sh 126 a0_6), (.sh 62 a0_7), (.i .i64 a0_8)]), (.v true [(.i .i64 b1_0), (.sh 86 b1_1), (.sh 9 b1_2), (.sh 9 b1_3), (.sh 30 b1_4), (.i .i64 b1_5), (.sh 126 b1_6), (.sh 62 b1_7), (.i .i64 b1_8)])] => some (Pu.laws_eqProxy.c a0_0 a0_1 a0_2 a0_3 a0_4 a0_5 a0_6 a0_7 a0_8 b1_0 b1_1 b1_2 b1_3 b1_4 b1_5 b1_6 b1_7 b1_8, ⟨[(.v false [(.b (Pu.laws_eqProxy.v a0_0 a0_1 a0_2 a0_3 a0_4 a0_5 a0_6 a0_7 a0_8 b1_0 b1_1 b1_2 b1_3 b1_4 b1_5 b1_6 b1_7 b1_8))])], []⟩)
  | _ => none
theorem ok41 : FnOk Try.prog T 41 sp41 := by
  refine fn_ok (E := E41) hE (call_cons ok128 (call_cons ok35 (call_cons ok129 (call_cons ok130 call_nil)))) hM Try.func41 (code := (Try.f41.body.getD .skip)) (by kernel_rfl) (by kernel_rfl) ?_
  have key : ∀ (a0_0 : Int) (a0_1 : Row) (a0_2 : Row) (a0_3 : Row) (a0_4 : Row) (a0_5 : Int) (a0_6 : Row) (a0_7 : Row) (a0_8 : Int) (b1_0 : Int) (b1_1 : Row) (b1_2 : Row) (b1_3 : Row) (b1_4 : Row) (b1_5 : Int) (b1_6 : Row) (b1_7 : Row) (b1_8 : Int), Pu.laws_eqProxy.c a0_0 a0_1 a0_2 a0_3 a0_4 a0_5 a0_6 a0_7 a0_8 b1_0 b1_1 b1_2 b1_3 b1_4 b1_5 b1_6 b1_7 b1_8 = true → ∃ it : It Res, (∀ c ∈ loopsOf (Try.f41.body.getD .skip), LoopOk E41 it c) ∧ body E41 it Try.f41 [(.v true [(.i .i64 a0_0), (.sh 86 a0_1), (.sh 9 a0_2), (.sh 9 a0_3), (.sh 30 a0_4), (.i .i64 a0_5), (.sh 126 a0_6), (.sh 62 a0_7), (.i .i64 a0_8)]), (.v true [(.i .i64 b1_0), (.sh 86 b1_1), (.sh 9 b1_2), (.sh 9 b1_3), (.sh 30 b1_4), (.i .i64 b1_5), (.sh 126 b1_6), (.sh 62 b1_7), (.i .i64 b1_8)])] = some ⟨[(.v false [(.b (Pu.laws_eqProxy.v a0_0 a0_1 a0_2 a0_3 a0_4 a0_5 a0_6 a0_7 a0_8 b1_0 b1_1 b1_2 b1_3 b1_4 b1_5 b1_6 b1_7 b1_8))])], []⟩ := by
    intro a0_0 a0_1 a0_2 a0_3 a0_4 a0_5 a0_6 a0_7 a0_8 b1_0 b1_1 b1_2 b1_3 b1_4 b1_5 b1_6 b1_7 b1_8  h1
    have hN := Pu.laws_eqProxy.b_eq (R := Res) (fun r0 => some ⟨[(.v false [(.b r0)])], []⟩) a0_0 a0_1 a0_2 a0_3 a0_4 a0_5 a0_6 a0_7 a0_8 b1_0 b1_1 b1_2 b1_3 b1_4 b1_5 b1_6 b1_7 b1_8 h1
    have hl : loopsOf (Try.f41.body.getD .skip) = [] := by kernel_rfl
    refine ⟨iterN 0, by rw [hl]; exact loops_nil, ?_⟩
    refine Eq.trans (show body E41 (iterN 0) Try.f41 [(.v true [(.i .i64 a0_0), (.sh 86 a0_1), (.sh 9 a0_2), (.sh 9 a0_3), (.sh 30 a0_4), (.i .i64 a0_5), (.sh 126 a0_6), (.sh 62 a0_7), (.i .i64 a0_8)]), (.v true [(.i .i64 b1_0), (.sh 86 b1_1), (.sh 9 b1_2), (.sh 9 b1_3), (.sh 30 b1_4), (.i .i64 b1_5), (.sh 126 b1_6), (.sh 62 b1_7), (.i .i64 b1_8)])] = Pu.laws_eqProxy.b (fun r0 => some ⟨[(.v false [(.b r0)])], []⟩) a0_0 a0_1 a0_2 a0_3 a0_4 a0_5 a0_6 a0_7 a0_8 b1_0 b1_1 b1_2 b1_3 b1_4 b1_5 b1_6 b1_7 b1_8 by kernel_rfl) hN
  intro args r h
  unfold sp41 at h
  split at h
  · injection h with h
    injection h with h1 h2
    subst h2
    exact ⟨by kernel_rfl, fun hf => ⟨of_decide_eq_true (by kernel_rfl), key _ _ _ _ _ _ _ _ _ _ _ _ _ _ _ _ _ _ h1⟩⟩
  · cases h

end Go.FG.Se

namespace Go.FG.Se
open Go.Proofs
def E6 : Env := { toTab := T, call := Go.FG.callIn [(38, sp38), (40, sp40), (39, sp39), (30, sp30), (41, sp41)], mode := Go.FG.modeIn md, keep := Go.FG.keepIn [], tk := fun n => Go.FG.memB n [], om := Go.FG.omIn [] }
def sp6 : List Arg → Option (Bool × Res)
  | [(.v true [(.i .i64 aP0_0), (.sh 208 aP0_1), (.sh 9 aP0_2), (.sh 9 aP0_3), (.sh 30 aP0_4), (.i .i64 aP0_5), (.sh 210 aP0_6), (.sh 212 aP0_7), (.i .i64 aP0_8)])] => some (Pu.laws_FnExactProxyOk.c aP0_0 aP0_1 aP0_2 aP0_3 aP0_4 aP0_5 aP0_6 aP0_7 aP0_8, ⟨[(.v false [(.b (Pu.laws_FnExactProxyOk.v aP0_0 aP0_1 aP0_2 aP0_3 aP0_4 aP0_5 aP0_6 aP0_7 aP0_8))])], []⟩)
  | _ => none
theorem ok6 : FnOk Try.prog T 6 sp6 := by
  refine fn_ok (E := E6) hE (call_cons ok38 (call_cons ok40 (call_cons ok39 (call_cons ok30 (call_cons ok41 call_nil))))) hM Try.func6 (code := (Try.f6.body.getD .skip)) (by kernel_rfl) (by kernel_rfl) ?_
  have key : ∀ (aP0_0 : Int) (aP0_1 : Row) (aP0_2 : Row) (aP0_3 : Row) (aP0_4 : Row) (aP0_5 : Int) (aP0_6 : Row) (aP0_7 : Row) (aP0_8 : Int), Pu.laws_FnExactProxyOk.c aP0_0 aP0_1 aP0_2 aP0_3 aP0_4 aP0_5 aP0_6 aP0_7 aP0_8 = true → ∃ it : It Res, (∀ c ∈ loopsOf (Try.f6.body.getD .skip), LoopOk E6 it c) ∧ body E6 it Try.f6 [(.v true [(.i .i64 aP0_0), (.sh 208 aP0_1), (.sh 9 aP0_2), (.sh 9 aP0_3), (.sh 30 aP0_4), (.i .i64 aP0_5), (.sh 210 aP0_6), (.sh 212 aP0_7), (.i .i64 aP0_8)])] = some ⟨[(.v false [(.b (Pu.laws_FnExactProxyOk.v aP0_0 aP0_1 aP0_2 aP0_3 aP0_4 aP0_5 aP0_6 aP0_7 aP0_8))])], []⟩ := by
    intro aP0_0 aP0_1 aP0_2 aP0_3 aP0_4 aP0_5 aP0_6 aP0_7 aP0_8  h1
    have hN := Pu.laws_FnExactProxyOk.b_eq (R := Res) (fun r0 => some ⟨[(.v false [(.b r0)])], []⟩) aP0_0 aP0_1 aP0_2 aP0_3 aP0_4 aP0_5 aP0_6 aP0_7 aP0_8 h1
    have hl : loopsOf (Try.f6.body.getD .skip) = [] := by kernel_rfl
    refine ⟨iterN 0, by rw [hl]; exact loops_nil, ?_⟩
    refine Eq.trans (show body E6 (iterN 0) Try.f6 [(.v true [(.i .i64 aP0_0), (.sh 208 aP0_1), (.sh 9 aP0_2), (.sh 9 aP0_3), (.sh 30 aP0_4), (.i .i64 aP0_5), (.sh 210 aP0_6), (.sh 212 aP0_7), (.i .i64 aP0_8)])] = Pu.laws_FnExactProxyOk.b (fun r0 => some ⟨[(.v false [(.b r0)])], []⟩) aP0_0 aP0_1 aP0_2 aP0_3 aP0_4 aP0_5 aP0_6 aP0_7 aP0_8 by kernel_rfl) hN
  intro args r h
  unfold sp6 at h
  split at h
  · injection h with h
    injection h with h1 h2
    subst h2
    exact ⟨by kernel_rfl, fun hf => ⟨of_decide_eq_true (by kernel_rfl), key _ _ _ _ _ _ _ _ _ h1⟩⟩
  · cases h

end Go.FG.Se

namespace Go.FG.Se
open Go.Proofs
def E221 : Env := { toTab := T, call := Go.FG.callIn [], mode := Go.FG.modeIn md, keep := Go.FG.keepIn [], tk := fun n => Go.FG.memB n [], om := Go.FG.omIn [] }
def sp221 : List Arg → Option (Bool × Res)
  | [(.v false [(.sh 3 l0)])] => some (Pu.impl_copyInts.c l0, ⟨[(.v false [(.ow 3 true (Pu.impl_copyInts.v l0))])], []⟩)
  | _ => none
theorem ok221 : FnOk Try.prog T 221 sp221 := by
  refine fn_ok (E := E221) hE call_nil hM Try.func221 (code := (Try.f221.body.getD .skip)) (by kernel_rfl) (by kernel_rfl) ?_
  have key : ∀ (l0 : Row), Pu.impl_copyInts.c l0 = true → ∃ it : It Res, (∀ c ∈ loopsOf (Try.f221.body.getD .skip), LoopOk E221 it c) ∧ body E221 it Try.f221 [(.v false [(.sh 3 l0)])] = some ⟨[(.v false [(.ow 3 true (Pu.impl_copyInts.v l0))])], []⟩ := by
    intro l0  h1
    have hN := Pu.impl_copyInts.b_eq (R := Res) (fun r0 => some ⟨[(.v false [(.ow 3 true r0)])], []⟩) l0 h1
    have hl : loopsOf (Try.f221.body.getD .skip) = [] := by kernel_rfl
    refine ⟨iterN 0, by rw [hl]; exact loops_nil, ?_⟩
    refine Eq.trans (show body E221 (iterN 0) Try.f221 [(.v false [(.sh 3 l0)])] = Pu.impl_copyInts.b (fun r0 => some ⟨[(.v false [(.ow 3 true r0)])], []⟩) l0 by kernel_rfl) hN
  intro args r h
  unfold sp221 at h
  split at h
  · injection h with h
    injection h with h1 h2
    subst h2
    exact ⟨by kernel_rfl, fun hf => ⟨of_decide_eq_true (by kernel_rfl), key _ h1⟩⟩
  · cases h

end Go.FG.Se

namespace Go.FG.Se
open Go.Proofs
def T177_0 (p0 : Row) (p1 : Int) (p2 : Int) (p3 : Int) (p4 : Int) : List (Nat × Cel) := [(4, (.v (.v false [(.bp 0 0)]))), (6, (.v (.v false [(.bp 1 0)]))), (20, (.v (.v false [(.sh 30 p0)]))), (22, (.v (.v false [(.i .i64 p1)]))), (24, (.v (.v false [(.i .i64 p2)]))), (1, (.o (.box [.nl, (.i .i64 p3)]))), (3, (.o (.box [.nl, (.i .i64 p4)])))]
def T177_1 (p0 : Row) (p1 : Int) (p2 : Int) (p3 : Int) (p4 : Int) (p5 : Row) : List (Nat × Cel) := [(4, (.v (.v false [(.bp 0 0)]))), (6, (.v (.v false [(.bp 1 0)]))), (20, (.v (.v false [(.sh 30 p0)]))), (22, (.v (.v false [(.i .i64 p1)]))), (24, (.v (.v false [(.i .i64 p2)]))), (1, (.o (.box [.nl, (.i .i64 p3)]))), (3, (.o (.box [(.own 2), (.i .i64 p4)]))), (5, (.o (.row 30 true p5)))]
def E177 : Env := { toTab := T, call := Go.FG.callIn [(221, sp221)], mode := Go.FG.modeIn md, keep := Go.FG.keepIn [(3, [2, 3, 10, 11, 12])], tk := fun n => Go.FG.memB n [], om := Go.FG.omIn [] }
def it177 (N : Nat) {R : Type} : It R := fun rid f cn L K => bif Nat.beq rid 3 then (tell [(4, (.v (.v false [(.bp 0 0)]))), (6, (.v (.v false [(.bp 1 0)]))), (20, (.v (.v false [(.sh 30 [])]))), (22, (.v (.v false [(.i .i64 0)]))), (24, (.v (.v false [(.i .i64 0)]))), (1, (.o (.box [.nl, (.i .i64 0)]))), (3, (.o (.box [.nl, (.i .i64 0)])))] (fun | [.R x0, .I x1, .I x2, .I x3, .I x4] => Pu.impl_copySketch.l3 N (fun y0 y1 y2 y3 y4 => (K (.exit 0) (tabl (T177_0 y0 y1 y2 y3 y4)))) (fun y0 y1 y2 y3 y4 y5 => (K (.exit 0) (tabl (T177_1 y0 y1 y2 y3 y4 y5)))) N x0 x1 x2 x3 x4 | _ => none) L (tell [(4, (.v (.v false [(.bp 0 0)]))), (6, (.v (.v false [(.bp 1 0)]))), (20, (.v (.v false [(.sh 30 [])]))), (22, (.v (.v false [(.i .i64 0)]))), (24, (.v (.v false [(.i .i64 0)]))), (1, (.o (.box [.nl, (.i .i64 0)]))), (3, (.o (.box [(.own 2), (.i .i64 0)]))), (5, (.o (.row 30 true [])))] (fun | [.R x5, .I x6, .I x7, .I x8, .I x9, .R x10] => Pu.impl_copySketch.l3a N (fun y0 y1 y2 y3 y4 => (K (.exit 0) (tabl (T177_0 y0 y1 y2 y3 y4)))) (fun y0 y1 y2 y3 y4 y5 => (K (.exit 0) (tabl (T177_1 y0 y1 y2 y3 y4 y5)))) N x5 x6 x7 x8 x9 x10 | _ => none) L (none))) else none
theorem e177_3 {R : Type} (N : Nat) (K : Ex → St → Option R) : ∀ n : Nat, (∀ x0 x1 x2 x3 x4, iter (exc E177 (it177 N) (loopOf Try.f177 3)) (canon (E177.keep 3))  n (tabl (T177_0 x0 x1 x2 x3 x4)) K = Pu.impl_copySketch.l3 N (fun y0 y1 y2 y3 y4 => (K (.exit 0) (tabl (T177_0 y0 y1 y2 y3 y4)))) (fun y0 y1 y2 y3 y4 y5 => (K (.exit 0) (tabl (T177_1 y0 y1 y2 y3 y4 y5)))) n x0 x1 x2 x3 x4) ∧ (∀ x5 x6 x7 x8 x9 x10, iter (exc E177 (it177 N) (loopOf Try.f177 3)) (canon (E177.keep 3))  n (tabl (T177_1 x5 x6 x7 x8 x9 x10)) K = Pu.impl_copySketch.l3a N (fun y0 y1 y2 y3 y4 => (K (.exit 0) (tabl (T177_0 y0 y1 y2 y3 y4)))) (fun y0 y1 y2 y3 y4 y5 => (K (.exit 0) (tabl (T177_1 y0 y1 y2 y3 y4 y5)))) n x5 x6 x7 x8 x9 x10) := by
  intro n
  induction n with
  | zero => exact ⟨(fun _ _ _ _ _ => rfl), (fun _ _ _ _ _ _ => rfl)⟩
  | succ n ih =>
    have e0 : (fun x0 x1 x2 x3 x4 => iter (exc E177 (it177 N) (loopOf Try.f177 3)) (canon (E177.keep 3))  n (tabl (T177_0 x0 x1 x2 x3 x4)) K) = Pu.impl_copySketch.l3 N (fun y0 y1 y2 y3 y4 => (K (.exit 0) (tabl (T177_0 y0 y1 y2 y3 y4)))) (fun y0 y1 y2 y3 y4 y5 => (K (.exit 0) (tabl (T177_1 y0 y1 y2 y3 y4 y5)))) n := by funext x0 x1 x2 x3 x4; exact ih.1 x0 x1 x2 x3 x4
    have e1 : (fun x5 x6 x7 x8 x9 x10 => iter (exc E177 (it177 N) (loopOf Try.f177 3)) (canon (E177.keep 3))  n (tabl (T177_1 x5 x6 x7 x8 x9 x10)) K) = Pu.impl_copySketch.l3a N (fun y0 y1 y2 y3 y4 => (K (.exit 0) (tabl (T177_0 y0 y1 y2 y3 y4)))) (fun y0 y1 y2 y3 y4 y5 => (K (.exit 0) (tabl (T177_1 y0 y1 y2 y3 y4 y5)))) n := by funext x5 x6 x7 x8 x9 x10; exact ih.2 x5 x6 x7 x8 x9 x10
    refine ⟨?_, ?_⟩
    · intro x0 x1 x2 x3 x4
      have h : ∀ g, exc E177 (it177 N) (loopOf Try.f177 3) (tabl (T177_0 x0 x1 x2 x3 x4)) (iterK g (canon (E177.keep 3)) K) = Pu.impl_copySketch.r3 N (fun x0 x1 x2 x3 x4 => (g (tabl (T177_0 x0 x1 x2 x3 x4)))) (fun x5 x6 x7 x8 x9 x10 => (g (tabl (T177_1 x5 x6 x7 x8 x9 x10)))) (fun y0 y1 y2 y3 y4 => (K (.exit 0) (tabl (T177_0 y0 y1 y2 y3 y4)))) (fun y0 y1 y2 y3 y4 y5 => (K (.exit 0) (tabl (T177_1 y0 y1 y2 y3 y4 y5)))) x0 x1 x2 x3 x4 := by intro g; kernel_rfl
      refine (iter_succ _ _ n _ K).trans ((h _).trans ?_)
      show Pu.impl_copySketch.r3 N (fun x0 x1 x2 x3 x4 => (iter (exc E177 (it177 N) (loopOf Try.f177 3)) (canon (E177.keep 3))  n (tabl (T177_0 x0 x1 x2 x3 x4)) K)) (fun x5 x6 x7 x8 x9 x10 => (iter (exc E177 (it177 N) (loopOf Try.f177 3)) (canon (E177.keep 3))  n (tabl (T177_1 x5 x6 x7 x8 x9 x10)) K)) (fun y0 y1 y2 y3 y4 => (K (.exit 0) (tabl (T177_0 y0 y1 y2 y3 y4)))) (fun y0 y1 y2 y3 y4 y5 => (K (.exit 0) (tabl (T177_1 y0 y1 y2 y3 y4 y5)))) x0 x1 x2 x3 x4 = _
      rw [e0, e1]; rfl
    · intro x5 x6 x7 x8 x9 x10
      have h : ∀ g, exc E177 (it177 N) (loopOf Try.f177 3) (tabl (T177_1 x5 x6 x7 x8 x9 x10)) (iterK g (canon (E177.keep 3)) K) = Pu.impl_copySketch.r3a N (fun x0 x1 x2 x3 x4 => (g (tabl (T177_0 x0 x1 x2 x3 x4)))) (fun x5 x6 x7 x8 x9 x10 => (g (tabl (T177_1 x5 x6 x7 x8 x9 x10)))) (fun y0 y1 y2 y3 y4 => (K (.exit 0) (tabl (T177_0 y0 y1 y2 y3 y4)))) (fun y0 y1 y2 y3 y4 y5 => (K (.exit 0) (tabl (T177_1 y0 y1 y2 y3 y4 y5)))) x5 x6 x7 x8 x9 x10 := by intro g; kernel_rfl
      refine (iter_succ _ _ n _ K).trans ((h _).trans ?_)
      show Pu.impl_copySketch.r3a N (fun x0 x1 x2 x3 x4 => (iter (exc E177 (it177 N) (loopOf Try.f177 3)) (canon (E177.keep 3))  n (tabl (T177_0 x0 x1 x2 x3 x4)) K)) (fun x5 x6 x7 x8 x9 x10 => (iter (exc E177 (it177 N) (loopOf Try.f177 3)) (canon (E177.keep 3))  n (tabl (T177_1 x5 x6 x7 x8 x9 x10)) K)) (fun y0 y1 y2 y3 y4 => (K (.exit 0) (tabl (T177_0 y0 y1 y2 y3 y4)))) (fun y0 y1 y2 y3 y4 y5 => (K (.exit 0) (tabl (T177_1 y0 y1 y2 y3 y4 y5)))) x5 x6 x7 x8 x9 x10 = _
      rw [e0, e1]; rfl
theorem lo177_3 {R : Type} (N : Nat) : LoopOk E177 (it177 N (R := R)) (loopOf Try.f177 3) := by
  have e : firstRid (loopOf Try.f177 3) = 3 := by kernel_rfl
  intro L K r
  rw [e]
  intro h
  unfold it177 at h
  simp only [show Nat.beq 3 3 = true from rfl, cond_false, cond_true] at h
  refine tell_ok (Q := fun L => ∃ n, iter (exc E177 (it177 N) (loopOf Try.f177 3)) (canon (E177.keep 3)) n (tabl L) K = some r) h (fun xs h => ?_) (fun h => ?_)
  · (try dsimp only at h)
    split at h
    · exact ⟨N, ((e177_3 N K N).1 _ _ _ _ _).trans h⟩
    · cases h
  refine tell_ok (Q := fun L => ∃ n, iter (exc E177 (it177 N) (loopOf Try.f177 3)) (canon (E177.keep 3)) n (tabl L) K = some r) h (fun xs h => ?_) (fun h => ?_)
  · (try dsimp only at h)
    split at h
    · exact ⟨N, ((e177_3 N K N).2 _ _ _ _ _ _).trans h⟩
    · cases h
  cases h
def sp177 : List Arg → Option (Bool × Res)
  | [(.v true [(.sh 30 s0_0), (.i .i64 s0_1)])] => some (Pu.impl_copySketch.c s0_0 s0_1, ⟨[(.v true [(.ow 30 true ((Pu.impl_copySketch.v s0_0 s0_1).1)), (.i .i64 ((Pu.impl_copySketch.v s0_0 s0_1).2))])], []⟩)
  | _ => none
theorem ok177 : FnOk Try.prog T 177 sp177 := by
  refine fn_ok (E := E177) hE (call_cons ok221 call_nil) hM Try.func177 (code := (Try.f177.body.getD .skip)) (by kernel_rfl) (by kernel_rfl) ?_
  have key : ∀ (s0_0 : Row) (s0_1 : Int), Pu.impl_copySketch.c s0_0 s0_1 = true → ∃ it : It Res, (∀ c ∈ loopsOf (Try.f177.body.getD .skip), LoopOk E177 it c) ∧ body E177 it Try.f177 [(.v true [(.sh 30 s0_0), (.i .i64 s0_1)])] = some ⟨[(.v true [(.ow 30 true ((Pu.impl_copySketch.v s0_0 s0_1).1)), (.i .i64 ((Pu.impl_copySketch.v s0_0 s0_1).2))])], []⟩ := by
    intro s0_0 s0_1  h1
    obtain ⟨N, hN⟩ := Pu.impl_copySketch.b_eq (R := Res) (fun r0 r1 => some ⟨[(.v true [(.ow 30 true r0), (.i .i64 r1)])], []⟩) s0_0 s0_1 h1
    have hl : loopsOf (Try.f177.body.getD .skip) = [loopOf Try.f177 3] := by kernel_rfl
    refine ⟨it177 N, by rw [hl]; exact (loops_cons (lo177_3 N) loops_nil), ?_⟩
    refine Eq.trans (show body E177 (it177 N) Try.f177 [(.v true [(.sh 30 s0_0), (.i .i64 s0_1)])] = Pu.impl_copySketch.b N (fun r0 r1 => some ⟨[(.v true [(.ow 30 true r0), (.i .i64 r1)])], []⟩) s0_0 s0_1 by kernel_rfl) hN
  intro args r h
  unfold sp177 at h
  split at h
  · injection h with h
    injection h with h1 h2
    subst h2
    exact ⟨by kernel_rfl, fun hf => ⟨of_decide_eq_true (by kernel_rfl), key _ _ h1⟩⟩
  · cases h

end Go.FG.Se

