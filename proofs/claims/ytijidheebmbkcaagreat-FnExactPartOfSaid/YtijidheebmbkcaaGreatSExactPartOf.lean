/- Functions of the program: the evaluation of each, and that a call of it does what is told. No condition. -/
import Derived.Test.YtijidheebmbkcaaGreatTab
import Derived.Test.YtijidheebmbkcaaGreatPExactPartOf
set_option linter.unusedVariables false
set_option linter.unusedSimpArgs false
set_option maxRecDepth 100000
namespace Go.FG.Se
open Go.Proofs
def E49 : Env := mkE T md [] [] [] []
def k49 (p : Int) : Res := ⟨[.v false [.i .i64 p]], []⟩
def sp49 : List Arg -> Option (Bool × Res)
 | [.v true [.s a0, .i .i64 a1, .i .i64 a2, .s a3], .v false [.i .i64 a4]] => some (true, k49 (U49.v a0 a1 a2 a3 a4))
 | _ => none
theorem ok49 : FnOk Tryz.prog T 49 sp49 := by
 refine fn_flat (E := E49) hE call_nil hM Tryz.func49 (code := Tryz.f49.body.getD .skip) (by kernel_rfl) (by kernel_rfl) (by kernel_rfl) fun args r h => ?_
 unfold sp49 at h
 split at h
 ·obtain ⟨h1, rfl⟩ := sj h
  rename_i a0 a1 a2 a3 a4
  exact ⟨by kernel_rfl, fun hf => ⟨od (by kernel_rfl), Eq.trans (by kernel_rfl) (U49.b_eq (R := Res) (fun r0 => some (k49 r0)) a0 a1 a2 a3 a4)⟩⟩
 ·cases h

def E16 : Env := mkE T md [(49, sp49)] [(5, [0, 1, 4, 5])] [] []
def k16 (p : Int) : Res := ⟨[.v false [.i .i64 p]], []⟩
def T16_5 (p0 : Row) (p1 p2 p3 : Int) : List (Nat × Cel) := [(0, .v (.v false [.sh 85 p0])), (2, .v (.v false [.i .i64 p1])), (8, .v (.v false [.i .i64 p2])), (10, .v (.v false [.i .i64 p3]))]
def G16_5 {R : Type} (g : St -> Option R) (p0 : Row) (p1 p2 p3 : Int) : Option R := g (tabl (T16_5 p0 p1 p2 p3))
def K16_5_0 {R : Type} (K : Ex -> St -> Option R) (p0 : Row) (p1 p2 p3 : Int) : Option R := K .ret (tabl (T16_5 p0 p1 p2 p3))
def K16_5_1 {R : Type} (K : Ex -> St -> Option R) (p0 : Row) (p1 p2 p3 : Int) : Option R := K (.exit 0) (tabl (T16_5 p0 p1 p2 p3))
def H16 {R : Type} (N : Nat) (K : Ex -> St -> Option R) : List Leaf -> Option R
 | [.R x0, .I x1, .I x2, .I x3] => U16.l5 N (K16_5_0 K) (K16_5_1 K) N x0 x1 x2 x3
 | _ => none
def it16 (N : Nat) {R : Type} : It R := fun rid f cn L K => bif Nat.beq rid 5 then tell (T16_5 [] 0 0 0) (H16 N K) L none else none
theorem e16_5 {R : Type} (N : Nat) (K : Ex -> St -> Option R) : ∀ n : Nat, G16_5 (fun s => iter (exc E16 (it16 N) (loopOf Tryz.f16 5)) (canon (E16.keep 5)) n s K) = U16.l5 N (K16_5_0 K) (K16_5_1 K) n := by
 intro n
 induction n with
 | zero => exact rfl
 | succ n ih =>
  funext x0 x1 x2 x3
  have h : ∀ g, exc E16 (it16 N) (loopOf Tryz.f16 5) (tabl (T16_5 x0 x1 x2 x3)) (iterK g (canon (E16.keep 5)) K) = U16.r5 N (G16_5 g) (K16_5_0 K) (K16_5_1 K) x0 x1 x2 x3 := by intro g; kernel_rfl
  show iter _ _ (n + 1) _ K = _
  refine (iter_succ _ _ n _ K).trans ((h _).trans ?_)
  rw [ih]; rfl
theorem lo16_5 {R : Type} (N : Nat) : LoopOk E16 (it16 N (R := R)) (loopOf Tryz.f16 5) := by
 refine lo_one 5 (by kernel_rfl) (S := T16_5 [] 0 0 0) (H := H16 N) (fun _ _ => rfl) fun K xs r h => ?_
 unfold H16 at h
 split at h
 ·rw [<- e16_5 N K N] at h; exact ⟨N, h⟩
 ·cases h
def sp16 : List Arg -> Option (Bool × Res)
 | [.v false [.sh 85 a0], .v false [.i .i64 a1]] => some (U16.c a0 a1, k16 (U16.v a0 a1))
 | _ => none
theorem ok16 : FnOk Tryz.prog T 16 sp16 := by
 refine fn_loop (E := E16) hE (call_cons ok49 call_nil) hM Tryz.func16 (code := Tryz.f16.body.getD .skip) (by kernel_rfl) (by kernel_rfl) (itf := fun N => it16 N) (l := [loopOf Tryz.f16 5]) (by kernel_rfl) (fun N => loops_cons (lo16_5 N) loops_nil) fun args r h => ?_
 unfold sp16 at h
 split at h
 ·obtain ⟨h1, rfl⟩ := sj h
  rename_i a0 a1
  exact ⟨by kernel_rfl, fun hf => ⟨od (by kernel_rfl), (U16.b_eq (R := Res) (fun r0 => some (k16 r0)) a0 a1 h1).imp fun N hN => Eq.trans (by kernel_rfl) hN⟩⟩
 ·cases h

def E62 : Env := mkE T md [] [(5, [0, 1, 4, 5])] [] []
def k62 (p : Int) : Res := ⟨[.v false [.i .i64 p]], []⟩
def T62_5 (p0 : Row) (p1 p2 p3 : Int) : List (Nat × Cel) := [(0, .v (.v false [.sh 9 p0])), (2, .v (.v false [.i .i64 p1])), (8, .v (.v false [.i .i64 p2])), (10, .v (.v false [.i .i64 p3]))]
def G62_5 {R : Type} (g : St -> Option R) (p0 : Row) (p1 p2 p3 : Int) : Option R := g (tabl (T62_5 p0 p1 p2 p3))
def K62_5_0 {R : Type} (K : Ex -> St -> Option R) (p0 : Row) (p1 p2 p3 : Int) : Option R := K .ret (tabl (T62_5 p0 p1 p2 p3))
def K62_5_1 {R : Type} (K : Ex -> St -> Option R) (p0 : Row) (p1 p2 p3 : Int) : Option R := K (.exit 0) (tabl (T62_5 p0 p1 p2 p3))
def H62 {R : Type} (N : Nat) (K : Ex -> St -> Option R) : List Leaf -> Option R
 | [.R x0, .I x1, .I x2, .I x3] => U62.l5 N (K62_5_0 K) (K62_5_1 K) N x0 x1 x2 x3
 | _ => none
def it62 (N : Nat) {R : Type} : It R := fun rid f cn L K => bif Nat.beq rid 5 then tell (T62_5 [] 0 0 0) (H62 N K) L none else none
theorem e62_5 {R : Type} (N : Nat) (K : Ex -> St -> Option R) : ∀ n : Nat, G62_5 (fun s => iter (exc E62 (it62 N) (loopOf Tryz.f62 5)) (canon (E62.keep 5)) n s K) = U62.l5 N (K62_5_0 K) (K62_5_1 K) n := by
 intro n
 induction n with
 | zero => exact rfl
 | succ n ih =>
  funext x0 x1 x2 x3
  have h : ∀ g, exc E62 (it62 N) (loopOf Tryz.f62 5) (tabl (T62_5 x0 x1 x2 x3)) (iterK g (canon (E62.keep 5)) K) = U62.r5 N (G62_5 g) (K62_5_0 K) (K62_5_1 K) x0 x1 x2 x3 := by intro g; kernel_rfl
  show iter _ _ (n + 1) _ K = _
  refine (iter_succ _ _ n _ K).trans ((h _).trans ?_)
  rw [ih]; rfl
theorem lo62_5 {R : Type} (N : Nat) : LoopOk E62 (it62 N (R := R)) (loopOf Tryz.f62 5) := by
 refine lo_one 5 (by kernel_rfl) (S := T62_5 [] 0 0 0) (H := H62 N) (fun _ _ => rfl) fun K xs r h => ?_
 unfold H62 at h
 split at h
 ·rw [<- e62_5 N K N] at h; exact ⟨N, h⟩
 ·cases h
def sp62 : List Arg -> Option (Bool × Res)
 | [.v false [.sh 9 a0], .v false [.i .i64 a1]] => some (U62.c a0 a1, k62 (U62.v a0 a1))
 | _ => none
theorem ok62 : FnOk Tryz.prog T 62 sp62 := by
 refine fn_loop (E := E62) hE call_nil hM Tryz.func62 (code := Tryz.f62.body.getD .skip) (by kernel_rfl) (by kernel_rfl) (itf := fun N => it62 N) (l := [loopOf Tryz.f62 5]) (by kernel_rfl) (fun N => loops_cons (lo62_5 N) loops_nil) fun args r h => ?_
 unfold sp62 at h
 split at h
 ·obtain ⟨h1, rfl⟩ := sj h
  rename_i a0 a1
  exact ⟨by kernel_rfl, fun hf => ⟨od (by kernel_rfl), (U62.b_eq (R := Res) (fun r0 => some (k62 r0)) a0 a1 h1).imp fun N hN => Eq.trans (by kernel_rfl) hN⟩⟩
 ·cases h

def E130 : Env := mkE T md [] [] [] []
def k130 (p : Int) : Res := ⟨[.v false [.i .i64 p]], []⟩
def sp130 : List Arg -> Option (Bool × Res)
 | [.v false [.sh 3 a0], .v false [.i .i64 a1]] => some (true, k130 (U130.v a0 a1))
 | _ => none
theorem ok130 : FnOk Tryz.prog T 130 sp130 := by
 refine fn_flat (E := E130) hE call_nil hM Tryz.func130 (code := Tryz.f130.body.getD .skip) (by kernel_rfl) (by kernel_rfl) (by kernel_rfl) fun args r h => ?_
 unfold sp130 at h
 split at h
 ·obtain ⟨h1, rfl⟩ := sj h
  rename_i a0 a1
  exact ⟨by kernel_rfl, fun hf => ⟨od (by kernel_rfl), Eq.trans (by kernel_rfl) (U130.b_eq (R := Res) (fun r0 => some (k130 r0)) a0 a1)⟩⟩
 ·cases h

def E100 : Env := mkE T md [(130, sp130)] [(5, [0, 1, 4, 5])] [] []
def k100 (p : Int) : Res := ⟨[.v false [.i .i64 p]], []⟩
def T100_5 (p0 : Row) (p1 p2 p3 : Int) : List (Nat × Cel) := [(0, .v (.v false [.sh 144 p0])), (2, .v (.v false [.i .i64 p1])), (8, .v (.v false [.i .i64 p2])), (10, .v (.v false [.i .i64 p3]))]
def G100_5 {R : Type} (g : St -> Option R) (p0 : Row) (p1 p2 p3 : Int) : Option R := g (tabl (T100_5 p0 p1 p2 p3))
def K100_5_0 {R : Type} (K : Ex -> St -> Option R) (p0 : Row) (p1 p2 p3 : Int) : Option R := K .ret (tabl (T100_5 p0 p1 p2 p3))
def K100_5_1 {R : Type} (K : Ex -> St -> Option R) (p0 : Row) (p1 p2 p3 : Int) : Option R := K (.exit 0) (tabl (T100_5 p0 p1 p2 p3))
def H100 {R : Type} (N : Nat) (K : Ex -> St -> Option R) : List Leaf -> Option R
 | [.R x0, .I x1, .I x2, .I x3] => U100.l5 N (K100_5_0 K) (K100_5_1 K) N x0 x1 x2 x3
 | _ => none
def it100 (N : Nat) {R : Type} : It R := fun rid f cn L K => bif Nat.beq rid 5 then tell (T100_5 [] 0 0 0) (H100 N K) L none else none
theorem e100_5 {R : Type} (N : Nat) (K : Ex -> St -> Option R) : ∀ n : Nat, G100_5 (fun s => iter (exc E100 (it100 N) (loopOf Tryz.f100 5)) (canon (E100.keep 5)) n s K) = U100.l5 N (K100_5_0 K) (K100_5_1 K) n := by
 intro n
 induction n with
 | zero => exact rfl
 | succ n ih =>
  funext x0 x1 x2 x3
  have h : ∀ g, exc E100 (it100 N) (loopOf Tryz.f100 5) (tabl (T100_5 x0 x1 x2 x3)) (iterK g (canon (E100.keep 5)) K) = U100.r5 N (G100_5 g) (K100_5_0 K) (K100_5_1 K) x0 x1 x2 x3 := by intro g; kernel_rfl
  show iter _ _ (n + 1) _ K = _
  refine (iter_succ _ _ n _ K).trans ((h _).trans ?_)
  rw [ih]; rfl
theorem lo100_5 {R : Type} (N : Nat) : LoopOk E100 (it100 N (R := R)) (loopOf Tryz.f100 5) := by
 refine lo_one 5 (by kernel_rfl) (S := T100_5 [] 0 0 0) (H := H100 N) (fun _ _ => rfl) fun K xs r h => ?_
 unfold H100 at h
 split at h
 ·rw [<- e100_5 N K N] at h; exact ⟨N, h⟩
 ·cases h
def sp100 : List Arg -> Option (Bool × Res)
 | [.v false [.sh 144 a0], .v false [.i .i64 a1]] => some (U100.c a0 a1, k100 (U100.v a0 a1))
 | _ => none
theorem ok100 : FnOk Tryz.prog T 100 sp100 := by
 refine fn_loop (E := E100) hE (call_cons ok130 call_nil) hM Tryz.func100 (code := Tryz.f100.body.getD .skip) (by kernel_rfl) (by kernel_rfl) (itf := fun N => it100 N) (l := [loopOf Tryz.f100 5]) (by kernel_rfl) (fun N => loops_cons (lo100_5 N) loops_nil) fun args r h => ?_
 unfold sp100 at h
 split at h
 ·obtain ⟨h1, rfl⟩ := sj h
  rename_i a0 a1
  exact ⟨by kernel_rfl, fun hf => ⟨od (by kernel_rfl), (U100.b_eq (R := Res) (fun r0 => some (k100 r0)) a0 a1 h1).imp fun N hN => Eq.trans (by kernel_rfl) hN⟩⟩
 ·cases h

def E63 : Env := mkE T md [(100, sp100)] [] [] []
def k63 (p : Int) : Res := ⟨[.v false [.i .i64 p]], []⟩
def sp63 : List Arg -> Option (Bool × Res)
 | [.v true [.sh 144 a0, .i .i64 a1], .v false [.i .i64 a2]] => some (U63.c a0 a1 a2, k63 (U63.v a0 a1 a2))
 | _ => none
theorem ok63 : FnOk Tryz.prog T 63 sp63 := by
 refine fn_flat (E := E63) hE (call_cons ok100 call_nil) hM Tryz.func63 (code := Tryz.f63.body.getD .skip) (by kernel_rfl) (by kernel_rfl) (by kernel_rfl) fun args r h => ?_
 unfold sp63 at h
 split at h
 ·obtain ⟨h1, rfl⟩ := sj h
  rename_i a0 a1 a2
  exact ⟨by kernel_rfl, fun hf => ⟨od (by kernel_rfl), Eq.trans (by kernel_rfl) (U63.b_eq (R := Res) (fun r0 => some (k63 r0)) a0 a1 a2 h1)⟩⟩
 ·cases h

def E24 : Env := mkE T md [(62, sp62), (63, sp63)] [] [] []
def k24 (p : Int) : Res := ⟨[.v false [.i .i64 p]], []⟩
def sp24 : List Arg -> Option (Bool × Res)
 | [.v true [.sh 9 a0, .sh 9 a1, .sh 144 a2, .i .i64 a3], .v false [.i .i64 a4]] => some (U24.c a0 a1 a2 a3 a4, k24 (U24.v a0 a1 a2 a3 a4))
 | _ => none
theorem ok24 : FnOk Tryz.prog T 24 sp24 := by
 refine fn_flat (E := E24) hE (call_cons ok62 (call_cons ok63 call_nil)) hM Tryz.func24 (code := Tryz.f24.body.getD .skip) (by kernel_rfl) (by kernel_rfl) (by kernel_rfl) fun args r h => ?_
 unfold sp24 at h
 split at h
 ·obtain ⟨h1, rfl⟩ := sj h
  rename_i a0 a1 a2 a3 a4
  exact ⟨by kernel_rfl, fun hf => ⟨od (by kernel_rfl), Eq.trans (by kernel_rfl) (U24.b_eq (R := Res) (fun r0 => some (k24 r0)) a0 a1 a2 a3 a4 h1)⟩⟩
 ·cases h

def E64 : Env := mkE T md [] [] [] []
def k64 (p : Int) : Res := ⟨[.v false [.i .i64 p]], []⟩
def sp64 : List Arg -> Option (Bool × Res)
 | [.v true [.s a0, .s a1, .i .i64 a2, .i .i64 a3, .i .i64 a4], .v false [.i .i64 a5]] => some (true, k64 (U64.v a0 a1 a2 a3 a4 a5))
 | _ => none
theorem ok64 : FnOk Tryz.prog T 64 sp64 := by
 refine fn_flat (E := E64) hE call_nil hM Tryz.func64 (code := Tryz.f64.body.getD .skip) (by kernel_rfl) (by kernel_rfl) (by kernel_rfl) fun args r h => ?_
 unfold sp64 at h
 split at h
 ·obtain ⟨h1, rfl⟩ := sj h
  rename_i a0 a1 a2 a3 a4 a5
  exact ⟨by kernel_rfl, fun hf => ⟨od (by kernel_rfl), Eq.trans (by kernel_rfl) (U64.b_eq (R := Res) (fun r0 => some (k64 r0)) a0 a1 a2 a3 a4 a5)⟩⟩
 ·cases h

def E25 : Env := mkE T md [(64, sp64)] [(5, [0, 1, 4, 5])] [] []
def k25 (p : Int) : Res := ⟨[.v false [.i .i64 p]], []⟩
def T25_5 (p0 : Row) (p1 p2 p3 : Int) : List (Nat × Cel) := [(0, .v (.v false [.sh 100 p0])), (2, .v (.v false [.i .i64 p1])), (8, .v (.v false [.i .i64 p2])), (10, .v (.v false [.i .i64 p3]))]
def G25_5 {R : Type} (g : St -> Option R) (p0 : Row) (p1 p2 p3 : Int) : Option R := g (tabl (T25_5 p0 p1 p2 p3))
def K25_5_0 {R : Type} (K : Ex -> St -> Option R) (p0 : Row) (p1 p2 p3 : Int) : Option R := K .ret (tabl (T25_5 p0 p1 p2 p3))
def K25_5_1 {R : Type} (K : Ex -> St -> Option R) (p0 : Row) (p1 p2 p3 : Int) : Option R := K (.exit 0) (tabl (T25_5 p0 p1 p2 p3))
def H25 {R : Type} (N : Nat) (K : Ex -> St -> Option R) : List Leaf -> Option R
 | [.R x0, .I x1, .I x2, .I x3] => U25.l5 N (K25_5_0 K) (K25_5_1 K) N x0 x1 x2 x3
 | _ => none
def it25 (N : Nat) {R : Type} : It R := fun rid f cn L K => bif Nat.beq rid 5 then tell (T25_5 [] 0 0 0) (H25 N K) L none else none
theorem e25_5 {R : Type} (N : Nat) (K : Ex -> St -> Option R) : ∀ n : Nat, G25_5 (fun s => iter (exc E25 (it25 N) (loopOf Tryz.f25 5)) (canon (E25.keep 5)) n s K) = U25.l5 N (K25_5_0 K) (K25_5_1 K) n := by
 intro n
 induction n with
 | zero => exact rfl
 | succ n ih =>
  funext x0 x1 x2 x3
  have h : ∀ g, exc E25 (it25 N) (loopOf Tryz.f25 5) (tabl (T25_5 x0 x1 x2 x3)) (iterK g (canon (E25.keep 5)) K) = U25.r5 N (G25_5 g) (K25_5_0 K) (K25_5_1 K) x0 x1 x2 x3 := by intro g; kernel_rfl
  show iter _ _ (n + 1) _ K = _
  refine (iter_succ _ _ n _ K).trans ((h _).trans ?_)
  rw [ih]; rfl
theorem lo25_5 {R : Type} (N : Nat) : LoopOk E25 (it25 N (R := R)) (loopOf Tryz.f25 5) := by
 refine lo_one 5 (by kernel_rfl) (S := T25_5 [] 0 0 0) (H := H25 N) (fun _ _ => rfl) fun K xs r h => ?_
 unfold H25 at h
 split at h
 ·rw [<- e25_5 N K N] at h; exact ⟨N, h⟩
 ·cases h
def sp25 : List Arg -> Option (Bool × Res)
 | [.v false [.sh 100 a0], .v false [.i .i64 a1]] => some (U25.c a0 a1, k25 (U25.v a0 a1))
 | _ => none
theorem ok25 : FnOk Tryz.prog T 25 sp25 := by
 refine fn_loop (E := E25) hE (call_cons ok64 call_nil) hM Tryz.func25 (code := Tryz.f25.body.getD .skip) (by kernel_rfl) (by kernel_rfl) (itf := fun N => it25 N) (l := [loopOf Tryz.f25 5]) (by kernel_rfl) (fun N => loops_cons (lo25_5 N) loops_nil) fun args r h => ?_
 unfold sp25 at h
 split at h
 ·obtain ⟨h1, rfl⟩ := sj h
  rename_i a0 a1
  exact ⟨by kernel_rfl, fun hf => ⟨od (by kernel_rfl), (U25.b_eq (R := Res) (fun r0 => some (k25 r0)) a0 a1 h1).imp fun N hN => Eq.trans (by kernel_rfl) hN⟩⟩
 ·cases h

def E65 : Env := mkE T md [] [] [] []
def k65 (p : Int) : Res := ⟨[.v false [.i .i64 p]], []⟩
def sp65 : List Arg -> Option (Bool × Res)
 | [.v true [.i .i64 a0, .s a1, .i .i64 a2, .i .i64 a3, .i .i64 a4, .s a5, .i .i64 a6], .v false [.i .i64 a7]] => some (true, k65 (U65.v a0 a1 a2 a3 a4 a5 a6 a7))
 | _ => none
theorem ok65 : FnOk Tryz.prog T 65 sp65 := by
 refine fn_flat (E := E65) hE call_nil hM Tryz.func65 (code := Tryz.f65.body.getD .skip) (by kernel_rfl) (by kernel_rfl) (by kernel_rfl) fun args r h => ?_
 unfold sp65 at h
 split at h
 ·obtain ⟨h1, rfl⟩ := sj h
  rename_i a0 a1 a2 a3 a4 a5 a6 a7
  exact ⟨by kernel_rfl, fun hf => ⟨od (by kernel_rfl), Eq.trans (by kernel_rfl) (U65.b_eq (R := Res) (fun r0 => some (k65 r0)) a0 a1 a2 a3 a4 a5 a6 a7)⟩⟩
 ·cases h

def E26 : Env := mkE T md [(65, sp65)] [(5, [0, 1, 4, 5])] [] []
def k26 (p : Int) : Res := ⟨[.v false [.i .i64 p]], []⟩
def T26_5 (p0 : Row) (p1 p2 p3 : Int) : List (Nat × Cel) := [(0, .v (.v false [.sh 103 p0])), (2, .v (.v false [.i .i64 p1])), (8, .v (.v false [.i .i64 p2])), (10, .v (.v false [.i .i64 p3]))]
def G26_5 {R : Type} (g : St -> Option R) (p0 : Row) (p1 p2 p3 : Int) : Option R := g (tabl (T26_5 p0 p1 p2 p3))
def K26_5_0 {R : Type} (K : Ex -> St -> Option R) (p0 : Row) (p1 p2 p3 : Int) : Option R := K .ret (tabl (T26_5 p0 p1 p2 p3))
def K26_5_1 {R : Type} (K : Ex -> St -> Option R) (p0 : Row) (p1 p2 p3 : Int) : Option R := K (.exit 0) (tabl (T26_5 p0 p1 p2 p3))
def H26 {R : Type} (N : Nat) (K : Ex -> St -> Option R) : List Leaf -> Option R
 | [.R x0, .I x1, .I x2, .I x3] => U26.l5 N (K26_5_0 K) (K26_5_1 K) N x0 x1 x2 x3
 | _ => none
def it26 (N : Nat) {R : Type} : It R := fun rid f cn L K => bif Nat.beq rid 5 then tell (T26_5 [] 0 0 0) (H26 N K) L none else none
theorem e26_5 {R : Type} (N : Nat) (K : Ex -> St -> Option R) : ∀ n : Nat, G26_5 (fun s => iter (exc E26 (it26 N) (loopOf Tryz.f26 5)) (canon (E26.keep 5)) n s K) = U26.l5 N (K26_5_0 K) (K26_5_1 K) n := by
 intro n
 induction n with
 | zero => exact rfl
 | succ n ih =>
  funext x0 x1 x2 x3
  have h : ∀ g, exc E26 (it26 N) (loopOf Tryz.f26 5) (tabl (T26_5 x0 x1 x2 x3)) (iterK g (canon (E26.keep 5)) K) = U26.r5 N (G26_5 g) (K26_5_0 K) (K26_5_1 K) x0 x1 x2 x3 := by intro g; kernel_rfl
  show iter _ _ (n + 1) _ K = _
  refine (iter_succ _ _ n _ K).trans ((h _).trans ?_)
  rw [ih]; rfl
theorem lo26_5 {R : Type} (N : Nat) : LoopOk E26 (it26 N (R := R)) (loopOf Tryz.f26 5) := by
 refine lo_one 5 (by kernel_rfl) (S := T26_5 [] 0 0 0) (H := H26 N) (fun _ _ => rfl) fun K xs r h => ?_
 unfold H26 at h
 split at h
 ·rw [<- e26_5 N K N] at h; exact ⟨N, h⟩
 ·cases h
def sp26 : List Arg -> Option (Bool × Res)
 | [.v false [.sh 103 a0], .v false [.i .i64 a1]] => some (U26.c a0 a1, k26 (U26.v a0 a1))
 | _ => none
theorem ok26 : FnOk Tryz.prog T 26 sp26 := by
 refine fn_loop (E := E26) hE (call_cons ok65 call_nil) hM Tryz.func26 (code := Tryz.f26.body.getD .skip) (by kernel_rfl) (by kernel_rfl) (itf := fun N => it26 N) (l := [loopOf Tryz.f26 5]) (by kernel_rfl) (fun N => loops_cons (lo26_5 N) loops_nil) fun args r h => ?_
 unfold sp26 at h
 split at h
 ·obtain ⟨h1, rfl⟩ := sj h
  rename_i a0 a1
  exact ⟨by kernel_rfl, fun hf => ⟨od (by kernel_rfl), (U26.b_eq (R := Res) (fun r0 => some (k26 r0)) a0 a1 h1).imp fun N hN => Eq.trans (by kernel_rfl) hN⟩⟩
 ·cases h

def E7 : Env := mkE T md [(16, sp16), (24, sp24), (25, sp25), (26, sp26)] [] [] []
def k7 (p : Int) : Res := ⟨[.v false [.i .i64 p]], []⟩
def sp7 : List Arg -> Option (Bool × Res)
 | [.v true [.i .i64 a0, .sh 85 a1, .sh 9 a2, .sh 9 a3, .sh 144 a4, .i .i64 a5, .sh 100 a6, .sh 103 a7, .i .i64 a8], .v false [.i .i64 a9]] => some (U7.c a0 a1 a2 a3 a4 a5 a6 a7 a8 a9, k7 (U7.v a0 a1 a2 a3 a4 a5 a6 a7 a8 a9))
 | _ => none
theorem ok7 : FnOk Tryz.prog T 7 sp7 := by
 refine fn_flat (E := E7) hE (call_cons ok16 (call_cons ok24 (call_cons ok25 (call_cons ok26 call_nil)))) hM Tryz.func7 (code := Tryz.f7.body.getD .skip) (by kernel_rfl) (by kernel_rfl) (by kernel_rfl) fun args r h => ?_
 unfold sp7 at h
 split at h
 ·obtain ⟨h1, rfl⟩ := sj h
  rename_i a0 a1 a2 a3 a4 a5 a6 a7 a8 a9
  exact ⟨by kernel_rfl, fun hf => ⟨od (by kernel_rfl), Eq.trans (by kernel_rfl) (U7.b_eq (R := Res) (fun r0 => some (k7 r0)) a0 a1 a2 a3 a4 a5 a6 a7 a8 a9 h1)⟩⟩
 ·cases h

def E54 : Env := mkE T md [] [] [] []
def k54 (p : ByteArray × Int × Int × ByteArray) : Res := ⟨[.v true [.s p.1, .i .i64 p.2.1, .i .i64 p.2.2.1, .s p.2.2.2]], []⟩
def sp54 : List Arg -> Option (Bool × Res)
 | [.v true [.s a0, .i .i64 a1, .i .i64 a2, .s a3]] => some (true, k54 (U54.v a0 a1 a2 a3))
 | _ => none
theorem ok54 : FnOk Tryz.prog T 54 sp54 := by
 refine fn_flat (E := E54) hE call_nil hM Tryz.func54 (code := Tryz.f54.body.getD .skip) (by kernel_rfl) (by kernel_rfl) (by kernel_rfl) fun args r h => ?_
 unfold sp54 at h
 split at h
 ·obtain ⟨h1, rfl⟩ := sj h
  rename_i a0 a1 a2 a3
  exact ⟨by kernel_rfl, fun hf => ⟨od (by kernel_rfl), Eq.trans (by kernel_rfl) (U54.b_eq (R := Res) (fun r0 r1 r2 r3 => some (k54 (r0, r1, r2, r3))) a0 a1 a2 a3)⟩⟩
 ·cases h

def E18 : Env := mkE T md [(54, sp54)] [(3, [0, 3, 4])] [] []
def k18 (p : Row) : Res := ⟨[.v false [.ow 88 true p]], []⟩
def T18_3 (p0 : Row) (p1 : Int) (p2 : Row) : List (Nat × Cel) := [(0, .v (.v false [.sh 85 p0])), (6, .v (.v false [.own 0])), (8, .v (.v false [.i .i64 p1])), (1, .o (.row 88 true p2))]
def G18_3 {R : Type} (g : St -> Option R) (p0 : Row) (p1 : Int) (p2 : Row) : Option R := g (tabl (T18_3 p0 p1 p2))
def K18_3_0 {R : Type} (K : Ex -> St -> Option R) (p0 : Row) (p1 : Int) (p2 : Row) : Option R := K (.exit 0) (tabl (T18_3 p0 p1 p2))
def H18 {R : Type} (N : Nat) (K : Ex -> St -> Option R) : List Leaf -> Option R
 | [.R x0, .I x1, .R x2] => U18.l3 N (K18_3_0 K) N x0 x1 x2
 | _ => none
def it18 (N : Nat) {R : Type} : It R := fun rid f cn L K => bif Nat.beq rid 3 then tell (T18_3 [] 0 []) (H18 N K) L none else none
theorem e18_3 {R : Type} (N : Nat) (K : Ex -> St -> Option R) : ∀ n : Nat, G18_3 (fun s => iter (exc E18 (it18 N) (loopOf Tryz.f18 3)) (canon (E18.keep 3)) n s K) = U18.l3 N (K18_3_0 K) n := by
 intro n
 induction n with
 | zero => exact rfl
 | succ n ih =>
  funext x0 x1 x2
  have h : ∀ g, exc E18 (it18 N) (loopOf Tryz.f18 3) (tabl (T18_3 x0 x1 x2)) (iterK g (canon (E18.keep 3)) K) = U18.r3 N (G18_3 g) (K18_3_0 K) x0 x1 x2 := by intro g; kernel_rfl
  show iter _ _ (n + 1) _ K = _
  refine (iter_succ _ _ n _ K).trans ((h _).trans ?_)
  rw [ih]; rfl
theorem lo18_3 {R : Type} (N : Nat) : LoopOk E18 (it18 N (R := R)) (loopOf Tryz.f18 3) := by
 refine lo_one 3 (by kernel_rfl) (S := T18_3 [] 0 []) (H := H18 N) (fun _ _ => rfl) fun K xs r h => ?_
 unfold H18 at h
 split at h
 ·rw [<- e18_3 N K N] at h; exact ⟨N, h⟩
 ·cases h
def sp18 : List Arg -> Option (Bool × Res)
 | [.v false [.sh 85 a0]] => some (U18.c a0, k18 (U18.v a0))
 | _ => none
theorem ok18 : FnOk Tryz.prog T 18 sp18 := by
 refine fn_loop (E := E18) hE (call_cons ok54 call_nil) hM Tryz.func18 (code := Tryz.f18.body.getD .skip) (by kernel_rfl) (by kernel_rfl) (itf := fun N => it18 N) (l := [loopOf Tryz.f18 3]) (by kernel_rfl) (fun N => loops_cons (lo18_3 N) loops_nil) fun args r h => ?_
 unfold sp18 at h
 split at h
 ·obtain ⟨h1, rfl⟩ := sj h
  rename_i a0
  exact ⟨by kernel_rfl, fun hf => ⟨od (by kernel_rfl), (U18.b_eq (R := Res) (fun r0 => some (k18 r0)) a0 h1).imp fun N hN => Eq.trans (by kernel_rfl) hN⟩⟩
 ·cases h

def E68 : Env := mkE T md [] [(3, [0, 3, 4])] [] []
def k68 (p : Row) : Res := ⟨[.v false [.ow 9 true p]], []⟩
def T68_3 (p0 : Row) (p1 : Int) (p2 : Row) : List (Nat × Cel) := [(0, .v (.v false [.sh 9 p0])), (6, .v (.v false [.own 0])), (8, .v (.v false [.i .i64 p1])), (1, .o (.row 9 true p2))]
def G68_3 {R : Type} (g : St -> Option R) (p0 : Row) (p1 : Int) (p2 : Row) : Option R := g (tabl (T68_3 p0 p1 p2))
def K68_3_0 {R : Type} (K : Ex -> St -> Option R) (p0 : Row) (p1 : Int) (p2 : Row) : Option R := K (.exit 0) (tabl (T68_3 p0 p1 p2))
def H68 {R : Type} (N : Nat) (K : Ex -> St -> Option R) : List Leaf -> Option R
 | [.R x0, .I x1, .R x2] => U68.l3 N (K68_3_0 K) N x0 x1 x2
 | _ => none
def it68 (N : Nat) {R : Type} : It R := fun rid f cn L K => bif Nat.beq rid 3 then tell (T68_3 [] 0 []) (H68 N K) L none else none
theorem e68_3 {R : Type} (N : Nat) (K : Ex -> St -> Option R) : ∀ n : Nat, G68_3 (fun s => iter (exc E68 (it68 N) (loopOf Tryz.f68 3)) (canon (E68.keep 3)) n s K) = U68.l3 N (K68_3_0 K) n := by
 intro n
 induction n with
 | zero => exact rfl
 | succ n ih =>
  funext x0 x1 x2
  have h : ∀ g, exc E68 (it68 N) (loopOf Tryz.f68 3) (tabl (T68_3 x0 x1 x2)) (iterK g (canon (E68.keep 3)) K) = U68.r3 N (G68_3 g) (K68_3_0 K) x0 x1 x2 := by intro g; kernel_rfl
  show iter _ _ (n + 1) _ K = _
  refine (iter_succ _ _ n _ K).trans ((h _).trans ?_)
  rw [ih]; rfl
theorem lo68_3 {R : Type} (N : Nat) : LoopOk E68 (it68 N (R := R)) (loopOf Tryz.f68 3) := by
 refine lo_one 3 (by kernel_rfl) (S := T68_3 [] 0 []) (H := H68 N) (fun _ _ => rfl) fun K xs r h => ?_
 unfold H68 at h
 split at h
 ·rw [<- e68_3 N K N] at h; exact ⟨N, h⟩
 ·cases h
def sp68 : List Arg -> Option (Bool × Res)
 | [.v false [.sh 9 a0]] => some (U68.c a0, k68 (U68.v a0))
 | _ => none
theorem ok68 : FnOk Tryz.prog T 68 sp68 := by
 refine fn_loop (E := E68) hE call_nil hM Tryz.func68 (code := Tryz.f68.body.getD .skip) (by kernel_rfl) (by kernel_rfl) (itf := fun N => it68 N) (l := [loopOf Tryz.f68 3]) (by kernel_rfl) (fun N => loops_cons (lo68_3 N) loops_nil) fun args r h => ?_
 unfold sp68 at h
 split at h
 ·obtain ⟨h1, rfl⟩ := sj h
  rename_i a0
  exact ⟨by kernel_rfl, fun hf => ⟨od (by kernel_rfl), (U68.b_eq (R := Res) (fun r0 => some (k68 r0)) a0 h1).imp fun N hN => Eq.trans (by kernel_rfl) hN⟩⟩
 ·cases h

def E131 : Env := mkE T md [] [(3, [0, 3, 4])] [] []
def k131 (p : Row) : Res := ⟨[.v false [.ow 3 true p]], []⟩
def T131_3 (p0 : Row) (p1 : Int) (p2 : Row) : List (Nat × Cel) := [(0, .v (.v false [.sh 3 p0])), (6, .v (.v false [.own 0])), (8, .v (.v false [.i .i64 p1])), (1, .o (.row 3 true p2))]
def G131_3 {R : Type} (g : St -> Option R) (p0 : Row) (p1 : Int) (p2 : Row) : Option R := g (tabl (T131_3 p0 p1 p2))
def K131_3_0 {R : Type} (K : Ex -> St -> Option R) (p0 : Row) (p1 : Int) (p2 : Row) : Option R := K (.exit 0) (tabl (T131_3 p0 p1 p2))
def H131 {R : Type} (N : Nat) (K : Ex -> St -> Option R) : List Leaf -> Option R
 | [.R x0, .I x1, .R x2] => U131.l3 N (K131_3_0 K) N x0 x1 x2
 | _ => none
def it131 (N : Nat) {R : Type} : It R := fun rid f cn L K => bif Nat.beq rid 3 then tell (T131_3 [] 0 []) (H131 N K) L none else none
theorem e131_3 {R : Type} (N : Nat) (K : Ex -> St -> Option R) : ∀ n : Nat, G131_3 (fun s => iter (exc E131 (it131 N) (loopOf Tryz.f131 3)) (canon (E131.keep 3)) n s K) = U131.l3 N (K131_3_0 K) n := by
 intro n
 induction n with
 | zero => exact rfl
 | succ n ih =>
  funext x0 x1 x2
  have h : ∀ g, exc E131 (it131 N) (loopOf Tryz.f131 3) (tabl (T131_3 x0 x1 x2)) (iterK g (canon (E131.keep 3)) K) = U131.r3 N (G131_3 g) (K131_3_0 K) x0 x1 x2 := by intro g; kernel_rfl
  show iter _ _ (n + 1) _ K = _
  refine (iter_succ _ _ n _ K).trans ((h _).trans ?_)
  rw [ih]; rfl
theorem lo131_3 {R : Type} (N : Nat) : LoopOk E131 (it131 N (R := R)) (loopOf Tryz.f131 3) := by
 refine lo_one 3 (by kernel_rfl) (S := T131_3 [] 0 []) (H := H131 N) (fun _ _ => rfl) fun K xs r h => ?_
 unfold H131 at h
 split at h
 ·rw [<- e131_3 N K N] at h; exact ⟨N, h⟩
 ·cases h
def sp131 : List Arg -> Option (Bool × Res)
 | [.v false [.sh 3 a0]] => some (U131.c a0, k131 (U131.v a0))
 | _ => none
theorem ok131 : FnOk Tryz.prog T 131 sp131 := by
 refine fn_loop (E := E131) hE call_nil hM Tryz.func131 (code := Tryz.f131.body.getD .skip) (by kernel_rfl) (by kernel_rfl) (itf := fun N => it131 N) (l := [loopOf Tryz.f131 3]) (by kernel_rfl) (fun N => loops_cons (lo131_3 N) loops_nil) fun args r h => ?_
 unfold sp131 at h
 split at h
 ·obtain ⟨h1, rfl⟩ := sj h
  rename_i a0
  exact ⟨by kernel_rfl, fun hf => ⟨od (by kernel_rfl), (U131.b_eq (R := Res) (fun r0 => some (k131 r0)) a0 h1).imp fun N hN => Eq.trans (by kernel_rfl) hN⟩⟩
 ·cases h

def E104 : Env := mkE T md [(131, sp131)] [(3, [0, 3, 4])] [] []
def k104 (p : Row) : Res := ⟨[.v false [.ow 144 true p]], []⟩
def T104_3 (p0 : Row) (p1 : Int) (p2 : Row) : List (Nat × Cel) := [(0, .v (.v false [.sh 144 p0])), (6, .v (.v false [.own 999])), (8, .v (.v false [.i .i64 p1])), (1999, .o (.row 144 true p2))]
def G104_3 {R : Type} (g : St -> Option R) (p0 : Row) (p1 : Int) (p2 : Row) : Option R := g (tabl (T104_3 p0 p1 p2))
def K104_3_0 {R : Type} (K : Ex -> St -> Option R) (p0 : Row) (p1 : Int) (p2 : Row) : Option R := K (.exit 0) (tabl (T104_3 p0 p1 p2))
def H104 {R : Type} (N : Nat) (K : Ex -> St -> Option R) : List Leaf -> Option R
 | [.R x0, .I x1, .R x2] => U104.l3 N (K104_3_0 K) N x0 x1 x2
 | _ => none
def it104 (N : Nat) {R : Type} : It R := fun rid f cn L K => bif Nat.beq rid 3 then tell (T104_3 [] 0 []) (H104 N K) L none else none
theorem e104_3 {R : Type} (N : Nat) (K : Ex -> St -> Option R) : ∀ n : Nat, G104_3 (fun s => iter (exc E104 (it104 N) (loopOf Tryz.f104 3)) (canon (E104.keep 3)) n s K) = U104.l3 N (K104_3_0 K) n := by
 intro n
 induction n with
 | zero => exact rfl
 | succ n ih =>
  funext x0 x1 x2
  have h : ∀ g, exc E104 (it104 N) (loopOf Tryz.f104 3) (tabl (T104_3 x0 x1 x2)) (iterK g (canon (E104.keep 3)) K) = U104.r3 N (G104_3 g) (K104_3_0 K) x0 x1 x2 := by intro g; kernel_rfl
  show iter _ _ (n + 1) _ K = _
  refine (iter_succ _ _ n _ K).trans ((h _).trans ?_)
  rw [ih]; rfl
theorem lo104_3 {R : Type} (N : Nat) : LoopOk E104 (it104 N (R := R)) (loopOf Tryz.f104 3) := by
 refine lo_one 3 (by kernel_rfl) (S := T104_3 [] 0 []) (H := H104 N) (fun _ _ => rfl) fun K xs r h => ?_
 unfold H104 at h
 split at h
 ·rw [<- e104_3 N K N] at h; exact ⟨N, h⟩
 ·cases h
def sp104 : List Arg -> Option (Bool × Res)
 | [.v false [.sh 144 a0]] => some (U104.c a0, k104 (U104.v a0))
 | _ => none
theorem ok104 : FnOk Tryz.prog T 104 sp104 := by
 refine fn_loop (E := E104) hE (call_cons ok131 call_nil) hM Tryz.func104 (code := Tryz.f104.body.getD .skip) (by kernel_rfl) (by kernel_rfl) (itf := fun N => it104 N) (l := [loopOf Tryz.f104 3]) (by kernel_rfl) (fun N => loops_cons (lo104_3 N) loops_nil) fun args r h => ?_
 unfold sp104 at h
 split at h
 ·obtain ⟨h1, rfl⟩ := sj h
  rename_i a0
  exact ⟨by kernel_rfl, fun hf => ⟨od (by kernel_rfl), (U104.b_eq (R := Res) (fun r0 => some (k104 r0)) a0 h1).imp fun N hN => Eq.trans (by kernel_rfl) hN⟩⟩
 ·cases h

def E69 : Env := mkE T md [(104, sp104)] [] [] []
def k69 (p : Row × Int) : Res := ⟨[.v true [.ow 144 true p.1, .i .i64 p.2]], []⟩
def sp69 : List Arg -> Option (Bool × Res)
 | [.v true [.sh 144 a0, .i .i64 a1]] => some (U69.c a0 a1, k69 (U69.v a0 a1))
 | _ => none
theorem ok69 : FnOk Tryz.prog T 69 sp69 := by
 refine fn_flat (E := E69) hE (call_cons ok104 call_nil) hM Tryz.func69 (code := Tryz.f69.body.getD .skip) (by kernel_rfl) (by kernel_rfl) (by kernel_rfl) fun args r h => ?_
 unfold sp69 at h
 split at h
 ·obtain ⟨h1, rfl⟩ := sj h
  rename_i a0 a1
  exact ⟨by kernel_rfl, fun hf => ⟨od (by kernel_rfl), Eq.trans (by kernel_rfl) (U69.b_eq (R := Res) (fun r0 r1 => some (k69 (r0, r1))) a0 a1 h1)⟩⟩
 ·cases h

def E30 : Env := mkE T md [(68, sp68), (69, sp69)] [] [] []
def k30 (p : Row × Row × Row × Int) : Res := ⟨[.v true [.ow 9 true p.1, .ow 9 true p.2.1, .ow 144 true p.2.2.1, .i .i64 p.2.2.2]], []⟩
def sp30 : List Arg -> Option (Bool × Res)
 | [.v true [.sh 9 a0, .sh 9 a1, .sh 144 a2, .i .i64 a3]] => some (U30.c a0 a1 a2 a3, k30 (U30.v a0 a1 a2 a3))
 | _ => none
theorem ok30 : FnOk Tryz.prog T 30 sp30 := by
 refine fn_flat (E := E30) hE (call_cons ok68 (call_cons ok69 call_nil)) hM Tryz.func30 (code := Tryz.f30.body.getD .skip) (by kernel_rfl) (by kernel_rfl) (by kernel_rfl) fun args r h => ?_
 unfold sp30 at h
 split at h
 ·obtain ⟨h1, rfl⟩ := sj h
  rename_i a0 a1 a2 a3
  exact ⟨by kernel_rfl, fun hf => ⟨od (by kernel_rfl), Eq.trans (by kernel_rfl) (U30.b_eq (R := Res) (fun r0 r1 r2 r3 => some (k30 (r0, r1, r2, r3))) a0 a1 a2 a3 h1)⟩⟩
 ·cases h

def E70 : Env := mkE T md [] [] [] []
def k70 (p : ByteArray × ByteArray × Int × Int × Int) : Res := ⟨[.v true [.s p.1, .s p.2.1, .i .i64 p.2.2.1, .i .i64 p.2.2.2.1, .i .i64 p.2.2.2.2]], []⟩
def sp70 : List Arg -> Option (Bool × Res)
 | [.v true [.s a0, .s a1, .i .i64 a2, .i .i64 a3, .i .i64 a4]] => some (true, k70 (U70.v a0 a1 a2 a3 a4))
 | _ => none
theorem ok70 : FnOk Tryz.prog T 70 sp70 := by
 refine fn_flat (E := E70) hE call_nil hM Tryz.func70 (code := Tryz.f70.body.getD .skip) (by kernel_rfl) (by kernel_rfl) (by kernel_rfl) fun args r h => ?_
 unfold sp70 at h
 split at h
 ·obtain ⟨h1, rfl⟩ := sj h
  rename_i a0 a1 a2 a3 a4
  exact ⟨by kernel_rfl, fun hf => ⟨od (by kernel_rfl), Eq.trans (by kernel_rfl) (U70.b_eq (R := Res) (fun r0 r1 r2 r3 r4 => some (k70 (r0, r1, r2, r3, r4))) a0 a1 a2 a3 a4)⟩⟩
 ·cases h

def E31 : Env := mkE T md [(70, sp70)] [(3, [0, 3, 4])] [] []
def k31 (p : Row) : Res := ⟨[.v false [.ow 64 true p]], []⟩
def T31_3 (p0 : Row) (p1 : Int) (p2 : Row) : List (Nat × Cel) := [(0, .v (.v false [.sh 100 p0])), (6, .v (.v false [.own 0])), (8, .v (.v false [.i .i64 p1])), (1, .o (.row 64 true p2))]
def G31_3 {R : Type} (g : St -> Option R) (p0 : Row) (p1 : Int) (p2 : Row) : Option R := g (tabl (T31_3 p0 p1 p2))
def K31_3_0 {R : Type} (K : Ex -> St -> Option R) (p0 : Row) (p1 : Int) (p2 : Row) : Option R := K (.exit 0) (tabl (T31_3 p0 p1 p2))
def H31 {R : Type} (N : Nat) (K : Ex -> St -> Option R) : List Leaf -> Option R
 | [.R x0, .I x1, .R x2] => U31.l3 N (K31_3_0 K) N x0 x1 x2
 | _ => none
def it31 (N : Nat) {R : Type} : It R := fun rid f cn L K => bif Nat.beq rid 3 then tell (T31_3 [] 0 []) (H31 N K) L none else none
theorem e31_3 {R : Type} (N : Nat) (K : Ex -> St -> Option R) : ∀ n : Nat, G31_3 (fun s => iter (exc E31 (it31 N) (loopOf Tryz.f31 3)) (canon (E31.keep 3)) n s K) = U31.l3 N (K31_3_0 K) n := by
 intro n
 induction n with
 | zero => exact rfl
 | succ n ih =>
  funext x0 x1 x2
  have h : ∀ g, exc E31 (it31 N) (loopOf Tryz.f31 3) (tabl (T31_3 x0 x1 x2)) (iterK g (canon (E31.keep 3)) K) = U31.r3 N (G31_3 g) (K31_3_0 K) x0 x1 x2 := by intro g; kernel_rfl
  show iter _ _ (n + 1) _ K = _
  refine (iter_succ _ _ n _ K).trans ((h _).trans ?_)
  rw [ih]; rfl
theorem lo31_3 {R : Type} (N : Nat) : LoopOk E31 (it31 N (R := R)) (loopOf Tryz.f31 3) := by
 refine lo_one 3 (by kernel_rfl) (S := T31_3 [] 0 []) (H := H31 N) (fun _ _ => rfl) fun K xs r h => ?_
 unfold H31 at h
 split at h
 ·rw [<- e31_3 N K N] at h; exact ⟨N, h⟩
 ·cases h
def sp31 : List Arg -> Option (Bool × Res)
 | [.v false [.sh 100 a0]] => some (U31.c a0, k31 (U31.v a0))
 | _ => none
theorem ok31 : FnOk Tryz.prog T 31 sp31 := by
 refine fn_loop (E := E31) hE (call_cons ok70 call_nil) hM Tryz.func31 (code := Tryz.f31.body.getD .skip) (by kernel_rfl) (by kernel_rfl) (itf := fun N => it31 N) (l := [loopOf Tryz.f31 3]) (by kernel_rfl) (fun N => loops_cons (lo31_3 N) loops_nil) fun args r h => ?_
 unfold sp31 at h
 split at h
 ·obtain ⟨h1, rfl⟩ := sj h
  rename_i a0
  exact ⟨by kernel_rfl, fun hf => ⟨od (by kernel_rfl), (U31.b_eq (R := Res) (fun r0 => some (k31 r0)) a0 h1).imp fun N hN => Eq.trans (by kernel_rfl) hN⟩⟩
 ·cases h

def E71 : Env := mkE T md [] [] [] []
def k71 (p : Int × ByteArray × Int × Int × Int × ByteArray × Int) : Res := ⟨[.v true [.i .i64 p.1, .s p.2.1, .i .i64 p.2.2.1, .i .i64 p.2.2.2.1, .i .i64 p.2.2.2.2.1, .s p.2.2.2.2.2.1, .i .i64 p.2.2.2.2.2.2]], []⟩
def sp71 : List Arg -> Option (Bool × Res)
 | [.v true [.i .i64 a0, .s a1, .i .i64 a2, .i .i64 a3, .i .i64 a4, .s a5, .i .i64 a6]] => some (true, k71 (U71.v a0 a1 a2 a3 a4 a5 a6))
 | _ => none
theorem ok71 : FnOk Tryz.prog T 71 sp71 := by
 refine fn_flat (E := E71) hE call_nil hM Tryz.func71 (code := Tryz.f71.body.getD .skip) (by kernel_rfl) (by kernel_rfl) (by kernel_rfl) fun args r h => ?_
 unfold sp71 at h
 split at h
 ·obtain ⟨h1, rfl⟩ := sj h
  rename_i a0 a1 a2 a3 a4 a5 a6
  exact ⟨by kernel_rfl, fun hf => ⟨od (by kernel_rfl), Eq.trans (by kernel_rfl) (U71.b_eq (R := Res) (fun r0 r1 r2 r3 r4 r5 r6 => some (k71 (r0, r1, r2, r3, r4, r5, r6))) a0 a1 a2 a3 a4 a5 a6)⟩⟩
 ·cases h

def E32 : Env := mkE T md [(71, sp71)] [(3, [0, 3, 4])] [] []
def k32 (p : Row) : Res := ⟨[.v false [.ow 106 true p]], []⟩
def T32_3 (p0 : Row) (p1 : Int) (p2 : Row) : List (Nat × Cel) := [(0, .v (.v false [.sh 103 p0])), (6, .v (.v false [.own 0])), (8, .v (.v false [.i .i64 p1])), (1, .o (.row 106 true p2))]
def G32_3 {R : Type} (g : St -> Option R) (p0 : Row) (p1 : Int) (p2 : Row) : Option R := g (tabl (T32_3 p0 p1 p2))
def K32_3_0 {R : Type} (K : Ex -> St -> Option R) (p0 : Row) (p1 : Int) (p2 : Row) : Option R := K (.exit 0) (tabl (T32_3 p0 p1 p2))
def H32 {R : Type} (N : Nat) (K : Ex -> St -> Option R) : List Leaf -> Option R
 | [.R x0, .I x1, .R x2] => U32.l3 N (K32_3_0 K) N x0 x1 x2
 | _ => none
def it32 (N : Nat) {R : Type} : It R := fun rid f cn L K => bif Nat.beq rid 3 then tell (T32_3 [] 0 []) (H32 N K) L none else none
theorem e32_3 {R : Type} (N : Nat) (K : Ex -> St -> Option R) : ∀ n : Nat, G32_3 (fun s => iter (exc E32 (it32 N) (loopOf Tryz.f32 3)) (canon (E32.keep 3)) n s K) = U32.l3 N (K32_3_0 K) n := by
 intro n
 induction n with
 | zero => exact rfl
 | succ n ih =>
  funext x0 x1 x2
  have h : ∀ g, exc E32 (it32 N) (loopOf Tryz.f32 3) (tabl (T32_3 x0 x1 x2)) (iterK g (canon (E32.keep 3)) K) = U32.r3 N (G32_3 g) (K32_3_0 K) x0 x1 x2 := by intro g; kernel_rfl
  show iter _ _ (n + 1) _ K = _
  refine (iter_succ _ _ n _ K).trans ((h _).trans ?_)
  rw [ih]; rfl
theorem lo32_3 {R : Type} (N : Nat) : LoopOk E32 (it32 N (R := R)) (loopOf Tryz.f32 3) := by
 refine lo_one 3 (by kernel_rfl) (S := T32_3 [] 0 []) (H := H32 N) (fun _ _ => rfl) fun K xs r h => ?_
 unfold H32 at h
 split at h
 ·rw [<- e32_3 N K N] at h; exact ⟨N, h⟩
 ·cases h
def sp32 : List Arg -> Option (Bool × Res)
 | [.v false [.sh 103 a0]] => some (U32.c a0, k32 (U32.v a0))
 | _ => none
theorem ok32 : FnOk Tryz.prog T 32 sp32 := by
 refine fn_loop (E := E32) hE (call_cons ok71 call_nil) hM Tryz.func32 (code := Tryz.f32.body.getD .skip) (by kernel_rfl) (by kernel_rfl) (itf := fun N => it32 N) (l := [loopOf Tryz.f32 3]) (by kernel_rfl) (fun N => loops_cons (lo32_3 N) loops_nil) fun args r h => ?_
 unfold sp32 at h
 split at h
 ·obtain ⟨h1, rfl⟩ := sj h
  rename_i a0
  exact ⟨by kernel_rfl, fun hf => ⟨od (by kernel_rfl), (U32.b_eq (R := Res) (fun r0 => some (k32 r0)) a0 h1).imp fun N hN => Eq.trans (by kernel_rfl) hN⟩⟩
 ·cases h

def E9 : Env := mkE T md [(18, sp18), (30, sp30), (31, sp31), (32, sp32)] [] [] []
def k9 (p : Int × Row × Row × Row × Row × Int × Row × Row × Int) : Res := ⟨[.v true [.i .i64 p.1, .ow 88 true p.2.1, .ow 9 true p.2.2.1, .ow 9 true p.2.2.2.1, .ow 144 true p.2.2.2.2.1, .i .i64 p.2.2.2.2.2.1, .ow 64 true p.2.2.2.2.2.2.1, .ow 106 true p.2.2.2.2.2.2.2.1, .i .i64 p.2.2.2.2.2.2.2.2]], []⟩
def sp9 : List Arg -> Option (Bool × Res)
 | [.v true [.i .i64 a0, .sh 85 a1, .sh 9 a2, .sh 9 a3, .sh 144 a4, .i .i64 a5, .sh 100 a6, .sh 103 a7, .i .i64 a8]] => some (U9.c a0 a1 a2 a3 a4 a5 a6 a7 a8, k9 (U9.v a0 a1 a2 a3 a4 a5 a6 a7 a8))
 | _ => none
theorem ok9 : FnOk Tryz.prog T 9 sp9 := by
 refine fn_flat (E := E9) hE (call_cons ok18 (call_cons ok30 (call_cons ok31 (call_cons ok32 call_nil)))) hM Tryz.func9 (code := Tryz.f9.body.getD .skip) (by kernel_rfl) (by kernel_rfl) (by kernel_rfl) fun args r h => ?_
 unfold sp9 at h
 split at h
 ·obtain ⟨h1, rfl⟩ := sj h
  rename_i a0 a1 a2 a3 a4 a5 a6 a7 a8
  exact ⟨by kernel_rfl, fun hf => ⟨od (by kernel_rfl), Eq.trans (by kernel_rfl) (U9.b_eq (R := Res) (fun r0 r1 r2 r3 r4 r5 r6 r7 r8 => some (k9 (r0, r1, r2, r3, r4, r5, r6, r7, r8))) a0 a1 a2 a3 a4 a5 a6 a7 a8 h1)⟩⟩
 ·cases h

def E101 : Env := mkE T md [] [(3, [1, 2, 3, 4])] [] []
def k101 (p : Row × Int) : Res := ⟨[.v true [.ow 144 true p.1, .i .i64 p.2]], []⟩
def T101_3 (p0 : Int) (p1 : Row) (p2 p3 p4 : Int) : List (Nat × Cel) := [(2, .v (.v false [.bp 0 0])), (4, .v (.v false [.bp 1 0])), (6, .v (.v false [.bp 2 0])), (8, .v (.v false [.i .i64 p0])), (1, .o (.box [.sh 144 p1, .i .i64 p2])), (3, .o (.box [.nl, .i .i64 p3])), (5, .o (.box [.nl, .i .i64 p4]))]
def G101_3 {R : Type} (g : St -> Option R) (p0 : Int) (p1 : Row) (p2 p3 p4 : Int) : Option R := g (tabl (T101_3 p0 p1 p2 p3 p4))
def T101_3a (p0 : Int) (p1 : Row) (p2 p3 p4 : Int) (p5 : Row) : List (Nat × Cel) := [(2, .v (.v false [.bp 0 0])), (4, .v (.v false [.bp 1 0])), (6, .v (.v false [.bp 2 0])), (8, .v (.v false [.i .i64 p0])), (1, .o (.box [.sh 144 p1, .i .i64 p2])), (3, .o (.box [.nl, .i .i64 p3])), (5, .o (.box [.own 3, .i .i64 p4])), (7, .o (.row 144 true p5))]
def G101_3a {R : Type} (g : St -> Option R) (p0 : Int) (p1 : Row) (p2 p3 p4 : Int) (p5 : Row) : Option R := g (tabl (T101_3a p0 p1 p2 p3 p4 p5))
def K101_3_0 {R : Type} (K : Ex -> St -> Option R) (p0 : Int) (p1 : Row) (p2 p3 p4 : Int) : Option R := K (.exit 0) (tabl (T101_3 p0 p1 p2 p3 p4))
def K101_3_1 {R : Type} (K : Ex -> St -> Option R) (p0 : Int) (p1 : Row) (p2 p3 p4 : Int) (p5 : Row) : Option R := K (.exit 0) (tabl (T101_3a p0 p1 p2 p3 p4 p5))
def it101 (N : Nat) {R : Type} : It R := fun rid f cn L K => bif Nat.beq rid 3 then tell (T101_3 0 [] 0 0 0) (fun | [.I x0, .R x1, .I x2, .I x3, .I x4] => U101.l3 N (K101_3_0 K) (K101_3_1 K) N x0 x1 x2 x3 x4 | _ => none) L (tell (T101_3a 0 [] 0 0 0 []) (fun | [.I x5, .R x6, .I x7, .I x8, .I x9, .R x10] => U101.l3a N (K101_3_0 K) (K101_3_1 K) N x5 x6 x7 x8 x9 x10 | _ => none) L none) else none
theorem e101_3 {R : Type} (N : Nat) (K : Ex -> St -> Option R) : ∀ n : Nat, G101_3 (fun s => iter (exc E101 (it101 N) (loopOf Tryz.f101 3)) (canon (E101.keep 3)) n s K) = U101.l3 N (K101_3_0 K) (K101_3_1 K) n /\ G101_3a (fun s => iter (exc E101 (it101 N) (loopOf Tryz.f101 3)) (canon (E101.keep 3)) n s K) = U101.l3a N (K101_3_0 K) (K101_3_1 K) n := by
 intro n
 induction n with
 | zero => exact ⟨rfl, rfl⟩
 | succ n ih =>
  obtain ⟨i0, i1⟩ := ih
  refine ⟨?_, ?_⟩
  ·funext x0 x1 x2 x3 x4
   have h : ∀ g, exc E101 (it101 N) (loopOf Tryz.f101 3) (tabl (T101_3 x0 x1 x2 x3 x4)) (iterK g (canon (E101.keep 3)) K) = U101.r3 N (G101_3 g) (G101_3a g) (K101_3_0 K) (K101_3_1 K) x0 x1 x2 x3 x4 := by intro g; kernel_rfl
   show iter _ _ (n + 1) _ K = _
   refine (iter_succ _ _ n _ K).trans ((h _).trans ?_)
   rw [i0, i1]; rfl
  ·funext x5 x6 x7 x8 x9 x10
   have h : ∀ g, exc E101 (it101 N) (loopOf Tryz.f101 3) (tabl (T101_3a x5 x6 x7 x8 x9 x10)) (iterK g (canon (E101.keep 3)) K) = U101.r3a N (G101_3 g) (G101_3a g) (K101_3_0 K) (K101_3_1 K) x5 x6 x7 x8 x9 x10 := by intro g; kernel_rfl
   show iter _ _ (n + 1) _ K = _
   refine (iter_succ _ _ n _ K).trans ((h _).trans ?_)
   rw [i0, i1]; rfl
theorem lo101_3 {R : Type} (N : Nat) : LoopOk E101 (it101 N (R := R)) (loopOf Tryz.f101 3) := by
 have e : firstRid (loopOf Tryz.f101 3) = 3 := by kernel_rfl
 intro L K r
 rw [e]
 intro h
 unfold it101 at h
 simp only [show Nat.beq 3 3 = true from rfl, cond_false, cond_true] at h
 refine tell_ok (Q := fun L => ∃ n, iter (exc E101 (it101 N) (loopOf Tryz.f101 3)) (canon (E101.keep 3)) n (tabl L) K = some r) h (fun xs h => ?_) fun h => ?_
 ·(try dsimp only at h)
  split at h
  ·rw [<- (e101_3 N K N).1] at h; exact ⟨N, h⟩
  ·cases h
 refine tell_ok (Q := fun L => ∃ n, iter (exc E101 (it101 N) (loopOf Tryz.f101 3)) (canon (E101.keep 3)) n (tabl L) K = some r) h (fun xs h => ?_) fun h => ?_
 ·(try dsimp only at h)
  split at h
  ·rw [<- (e101_3 N K N).2] at h; exact ⟨N, h⟩
  ·cases h
 cases h
def sp101 : List Arg -> Option (Bool × Res)
 | [.v true [.sh 144 a0, .i .i64 a1]] => some (U101.c a0 a1, k101 (U101.v a0 a1))
 | _ => none
theorem ok101 : FnOk Tryz.prog T 101 sp101 := by
 refine fn_loop (E := E101) hE call_nil hM Tryz.func101 (code := Tryz.f101.body.getD .skip) (by kernel_rfl) (by kernel_rfl) (itf := fun N => it101 N) (l := [loopOf Tryz.f101 3]) (by kernel_rfl) (fun N => loops_cons (lo101_3 N) loops_nil) fun args r h => ?_
 unfold sp101 at h
 split at h
 ·obtain ⟨h1, rfl⟩ := sj h
  rename_i a0 a1
  exact ⟨by kernel_rfl, fun hf => ⟨od (by kernel_rfl), (U101.b_eq (R := Res) (fun r0 r1 => some (k101 (r0, r1))) a0 a1 h1).imp fun N hN => Eq.trans (by kernel_rfl) hN⟩⟩
 ·cases h

def E66 : Env := mkE T md [(101, sp101)] [] [] []
def k66 (p : Row × Row × Row × Int) : Res := ⟨[.v true [.ow 9 true p.1, .ow 9 true p.2.1, .ow 144 true p.2.2.1, .i .i64 p.2.2.2]], []⟩
def sp66 : List Arg -> Option (Bool × Res)
 | [.v true [.sh 9 a0, .sh 9 a1, .sh 144 a2, .i .i64 a3]] => some (U66.c a0 a1 a2 a3, k66 (U66.v a0 a1 a2 a3))
 | _ => none
theorem ok66 : FnOk Tryz.prog T 66 sp66 := by
 refine fn_flat (E := E66) hE (call_cons ok101 call_nil) hM Tryz.func66 (code := Tryz.f66.body.getD .skip) (by kernel_rfl) (by kernel_rfl) (by kernel_rfl) fun args r h => ?_
 unfold sp66 at h
 split at h
 ·obtain ⟨h1, rfl⟩ := sj h
  rename_i a0 a1 a2 a3
  exact ⟨by kernel_rfl, fun hf => ⟨od (by kernel_rfl), Eq.trans (by kernel_rfl) (U66.b_eq (R := Res) (fun r0 r1 r2 r3 => some (k66 (r0, r1, r2, r3))) a0 a1 a2 a3 h1)⟩⟩
 ·cases h

def E27 : Env := mkE T md [(66, sp66)] [] [] []
def k27 (p : Int × Row × Row × Row × Row × Int × Row × Row × Int) : Res := ⟨[.v true [.i .i64 p.1, .ow 88 true p.2.1, .ow 9 true p.2.2.1, .ow 9 true p.2.2.2.1, .ow 144 true p.2.2.2.2.1, .i .i64 p.2.2.2.2.2.1, .ow 64 true p.2.2.2.2.2.2.1, .ow 106 true p.2.2.2.2.2.2.2.1, .i .i64 p.2.2.2.2.2.2.2.2]], []⟩
def sp27 : List Arg -> Option (Bool × Res)
 | [.v true [.i .i64 a0, .sh 88 a1, .sh 9 a2, .sh 9 a3, .sh 144 a4, .i .i64 a5, .sh 64 a6, .sh 106 a7, .i .i64 a8]] => some (U27.c a0 a1 a2 a3 a4 a5 a6 a7 a8, k27 (U27.v a0 a1 a2 a3 a4 a5 a6 a7 a8))
 | _ => none
theorem ok27 : FnOk Tryz.prog T 27 sp27 := by
 refine fn_flat (E := E27) hE (call_cons ok66 call_nil) hM Tryz.func27 (code := Tryz.f27.body.getD .skip) (by kernel_rfl) (by kernel_rfl) (by kernel_rfl) fun args r h => ?_
 unfold sp27 at h
 split at h
 ·obtain ⟨h1, rfl⟩ := sj h
  rename_i a0 a1 a2 a3 a4 a5 a6 a7 a8
  exact ⟨by kernel_rfl, fun hf => ⟨od (by kernel_rfl), Eq.trans (by kernel_rfl) (U27.b_eq (R := Res) (fun r0 r1 r2 r3 r4 r5 r6 r7 r8 => some (k27 (r0, r1, r2, r3, r4, r5, r6, r7, r8))) a0 a1 a2 a3 a4 a5 a6 a7 a8 h1)⟩⟩
 ·cases h

def E60 : Env := mkE T md [] [] [] []
def k60 (p : Bool) : Res := ⟨[.v false [.b p]], []⟩
def sp60 : List Arg -> Option (Bool × Res)
 | [.v false [.i .i64 a0], .v false [.i .i64 a1], .v false [.i .i64 a2]] => some (true, k60 (U60.v a0 a1 a2))
 | _ => none
theorem ok60 : FnOk Tryz.prog T 60 sp60 := by
 refine fn_flat (E := E60) hE call_nil hM Tryz.func60 (code := Tryz.f60.body.getD .skip) (by kernel_rfl) (by kernel_rfl) (by kernel_rfl) fun args r h => ?_
 unfold sp60 at h
 split at h
 ·obtain ⟨h1, rfl⟩ := sj h
  rename_i a0 a1 a2
  exact ⟨by kernel_rfl, fun hf => ⟨od (by kernel_rfl), Eq.trans (by kernel_rfl) (U60.b_eq (R := Res) (fun r0 => some (k60 r0)) a0 a1 a2)⟩⟩
 ·cases h

def E88 : Env := mkE T md [(60, sp60)] [] [] []
def k88 (p : Bool) : Res := ⟨[.v false [.b p]], []⟩
def sp88 : List Arg -> Option (Bool × Res)
 | [.v false [.s a0]] => some (true, k88 (U88.v a0))
 | _ => none
theorem ok88 : FnOk Tryz.prog T 88 sp88 := by
 refine fn_flat (E := E88) hE (call_cons ok60 call_nil) hM Tryz.func88 (code := Tryz.f88.body.getD .skip) (by kernel_rfl) (by kernel_rfl) (by kernel_rfl) fun args r h => ?_
 unfold sp88 at h
 split at h
 ·obtain ⟨h1, rfl⟩ := sj h
  rename_i a0
  exact ⟨by kernel_rfl, fun hf => ⟨od (by kernel_rfl), Eq.trans (by kernel_rfl) (U88.b_eq (R := Res) (fun r0 => some (k88 r0)) a0)⟩⟩
 ·cases h

def E51 : Env := mkE T md [(88, sp88), (60, sp60)] [] [] []
def k51 (p : Bool) : Res := ⟨[.v false [.b p]], []⟩
def sp51 : List Arg -> Option (Bool × Res)
 | [.v true [.s a0, .i .i64 a1, .i .i64 a2, .s a3]] => some (true, k51 (U51.v a0 a1 a2 a3))
 | _ => none
theorem ok51 : FnOk Tryz.prog T 51 sp51 := by
 refine fn_flat (E := E51) hE (call_cons ok88 (call_cons ok60 call_nil)) hM Tryz.func51 (code := Tryz.f51.body.getD .skip) (by kernel_rfl) (by kernel_rfl) (by kernel_rfl) fun args r h => ?_
 unfold sp51 at h
 split at h
 ·obtain ⟨h1, rfl⟩ := sj h
  rename_i a0 a1 a2 a3
  exact ⟨by kernel_rfl, fun hf => ⟨od (by kernel_rfl), Eq.trans (by kernel_rfl) (U51.b_eq (R := Res) (fun r0 => some (k51 r0)) a0 a1 a2 a3)⟩⟩
 ·cases h

def E116 : Env := mkE T md [] [(2, [0, 1, 4, 5])] [] []
def k116 (p : Bool) : Res := ⟨[.v false [.b p]], []⟩
def T116_2 (p0 : Row) (p1 : ByteArray) (p2 : Bool) (p3 : Int) : List (Nat × Cel) := [(0, .v (.v false [.sh 9 p0])), (2, .v (.v false [.s p1])), (8, .v (.v false [.b p2])), (10, .v (.v false [.i .i64 p3]))]
def G116_2 {R : Type} (g : St -> Option R) (p0 : Row) (p1 : ByteArray) (p2 : Bool) (p3 : Int) : Option R := g (tabl (T116_2 p0 p1 p2 p3))
def K116_2_0 {R : Type} (K : Ex -> St -> Option R) (p0 : Row) (p1 : ByteArray) (p2 : Bool) (p3 : Int) : Option R := K .ret (tabl (T116_2 p0 p1 p2 p3))
def K116_2_1 {R : Type} (K : Ex -> St -> Option R) (p0 : Row) (p1 : ByteArray) (p2 : Bool) (p3 : Int) : Option R := K (.exit 0) (tabl (T116_2 p0 p1 p2 p3))
def H116 {R : Type} (N : Nat) (K : Ex -> St -> Option R) : List Leaf -> Option R
 | [.R x0, .S x1, .B x2, .I x3] => U116.l2 N (K116_2_0 K) (K116_2_1 K) N x0 x1 x2 x3
 | _ => none
def it116 (N : Nat) {R : Type} : It R := fun rid f cn L K => bif Nat.beq rid 2 then tell (T116_2 [] ⟨#[]⟩ false 0) (H116 N K) L none else none
theorem e116_2 {R : Type} (N : Nat) (K : Ex -> St -> Option R) : ∀ n : Nat, G116_2 (fun s => iter (exc E116 (it116 N) (loopOf Tryz.f116 2)) (canon (E116.keep 2)) n s K) = U116.l2 N (K116_2_0 K) (K116_2_1 K) n := by
 intro n
 induction n with
 | zero => exact rfl
 | succ n ih =>
  funext x0 x1 x2 x3
  have h : ∀ g, exc E116 (it116 N) (loopOf Tryz.f116 2) (tabl (T116_2 x0 x1 x2 x3)) (iterK g (canon (E116.keep 2)) K) = U116.r2 N (G116_2 g) (K116_2_0 K) (K116_2_1 K) x0 x1 x2 x3 := by intro g; kernel_rfl
  show iter _ _ (n + 1) _ K = _
  refine (iter_succ _ _ n _ K).trans ((h _).trans ?_)
  rw [ih]; rfl
theorem lo116_2 {R : Type} (N : Nat) : LoopOk E116 (it116 N (R := R)) (loopOf Tryz.f116 2) := by
 refine lo_one 2 (by kernel_rfl) (S := T116_2 [] ⟨#[]⟩ false 0) (H := H116 N) (fun _ _ => rfl) fun K xs r h => ?_
 unfold H116 at h
 split at h
 ·rw [<- e116_2 N K N] at h; exact ⟨N, h⟩
 ·cases h
def sp116 : List Arg -> Option (Bool × Res)
 | [.v false [.sh 9 a0], .v false [.s a1]] => some (U116.c a0 a1, k116 (U116.v a0 a1))
 | _ => none
theorem ok116 : FnOk Tryz.prog T 116 sp116 := by
 refine fn_loop (E := E116) hE call_nil hM Tryz.func116 (code := Tryz.f116.body.getD .skip) (by kernel_rfl) (by kernel_rfl) (itf := fun N => it116 N) (l := [loopOf Tryz.f116 2]) (by kernel_rfl) (fun N => loops_cons (lo116_2 N) loops_nil) fun args r h => ?_
 unfold sp116 at h
 split at h
 ·obtain ⟨h1, rfl⟩ := sj h
  rename_i a0 a1
  exact ⟨by kernel_rfl, fun hf => ⟨od (by kernel_rfl), (U116.b_eq (R := Res) (fun r0 => some (k116 r0)) a0 a1 h1).imp fun N hN => Eq.trans (by kernel_rfl) hN⟩⟩
 ·cases h

def E91 : Env := mkE T md [(116, sp116)] [] [] []
def k91 (p : Bool) : Res := ⟨[.v false [.b p]], []⟩
def sp91 : List Arg -> Option (Bool × Res)
 | [.v true [.sh 9 a0, .sh 9 a1, .sh 144 a2, .i .i64 a3], .v false [.s a4]] => some (U91.c a0 a1 a2 a3 a4, k91 (U91.v a0 a1 a2 a3 a4))
 | _ => none
theorem ok91 : FnOk Tryz.prog T 91 sp91 := by
 refine fn_flat (E := E91) hE (call_cons ok116 call_nil) hM Tryz.func91 (code := Tryz.f91.body.getD .skip) (by kernel_rfl) (by kernel_rfl) (by kernel_rfl) fun args r h => ?_
 unfold sp91 at h
 split at h
 ·obtain ⟨h1, rfl⟩ := sj h
  rename_i a0 a1 a2 a3 a4
  exact ⟨by kernel_rfl, fun hf => ⟨od (by kernel_rfl), Eq.trans (by kernel_rfl) (U91.b_eq (R := Res) (fun r0 => some (k91 r0)) a0 a1 a2 a3 a4 h1)⟩⟩
 ·cases h

def E137 : Env := mkE T md [(60, sp60)] [(4, [1, 2, 3]), (9, [1, 2, 3, 4])] [] []
def k137 (p : Bool) : Res := ⟨[.v false [.b p]], []⟩
def T137_4 (p0 : Bool) (p1 : Int) (p2 : Row) (p3 : Int) : List (Nat × Cel) := [(2, .v (.v false [.bp 0 0])), (4, .v (.v false [.b p0])), (6, .v (.v false [.i .i64 p1])), (1, .o (.box [.sh 144 p2, .i .i64 p3]))]
def G137_4 {R : Type} (g : St -> Option R) (p0 : Bool) (p1 : Int) (p2 : Row) (p3 : Int) : Option R := g (tabl (T137_4 p0 p1 p2 p3))
def K137_4_0 {R : Type} (K : Ex -> St -> Option R) (p0 : Bool) (p1 : Int) (p2 : Row) (p3 : Int) : Option R := K .ret (tabl (T137_4 p0 p1 p2 p3))
def K137_4_1 {R : Type} (K : Ex -> St -> Option R) (p0 : Bool) (p1 : Int) (p2 : Row) (p3 : Int) : Option R := K (.exit 0) (tabl (T137_4 p0 p1 p2 p3))
def T137_9 (p0 : Bool) (p1 p2 : Int) (p3 : Row) (p4 : Int) : List (Nat × Cel) := [(2, .v (.v false [.bp 0 0])), (4, .v (.v false [.b p0])), (6, .v (.v false [.i .i64 p1])), (8, .v (.v false [.i .i64 p2])), (1, .o (.box [.sh 144 p3, .i .i64 p4]))]
def G137_9 {R : Type} (g : St -> Option R) (p0 : Bool) (p1 p2 : Int) (p3 : Row) (p4 : Int) : Option R := g (tabl (T137_9 p0 p1 p2 p3 p4))
def K137_9_0 {R : Type} (K : Ex -> St -> Option R) (p0 : Bool) (p1 p2 : Int) (p3 : Row) (p4 : Int) : Option R := K .ret (tabl (T137_9 p0 p1 p2 p3 p4))
def K137_9_1 {R : Type} (K : Ex -> St -> Option R) (p0 : Bool) (p1 p2 : Int) (p3 : Row) (p4 : Int) : Option R := K (.exit 2) (tabl (T137_9 p0 p1 p2 p3 p4))
def it137 (N : Nat) {R : Type} : It R := fun rid f cn L K => bif Nat.beq rid 4 then tell (T137_4 false 0 [] 0) (fun | [.B x0, .I x1, .R x2, .I x3] => U137.l4 N (K137_4_0 K) (K137_4_1 K) N x0 x1 x2 x3 | _ => none) L none else bif Nat.beq rid 9 then tell (T137_9 false 0 0 [] 0) (fun | [.B x4, .I x5, .I x6, .R x7, .I x8] => U137.l9 N (K137_9_0 K) (K137_9_1 K) N x4 x5 x6 x7 x8 | _ => none) L none else none
theorem e137_4 {R : Type} (N : Nat) (K : Ex -> St -> Option R) : ∀ n : Nat, G137_4 (fun s => iter (exc E137 (it137 N) (loopOf Tryz.f137 4)) (canon (E137.keep 4)) n s K) = U137.l4 N (K137_4_0 K) (K137_4_1 K) n := by
 intro n
 induction n with
 | zero => exact rfl
 | succ n ih =>
  funext x0 x1 x2 x3
  have h : ∀ g, exc E137 (it137 N) (loopOf Tryz.f137 4) (tabl (T137_4 x0 x1 x2 x3)) (iterK g (canon (E137.keep 4)) K) = U137.r4 N (G137_4 g) (K137_4_0 K) (K137_4_1 K) x0 x1 x2 x3 := by intro g; kernel_rfl
  show iter _ _ (n + 1) _ K = _
  refine (iter_succ _ _ n _ K).trans ((h _).trans ?_)
  rw [ih]; rfl
theorem lo137_4 {R : Type} (N : Nat) : LoopOk E137 (it137 N (R := R)) (loopOf Tryz.f137 4) := by
 have e : firstRid (loopOf Tryz.f137 4) = 4 := by kernel_rfl
 intro L K r
 rw [e]
 intro h
 unfold it137 at h
 simp only [show Nat.beq 4 4 = true from rfl, cond_false, cond_true] at h
 refine tell_ok (Q := fun L => ∃ n, iter (exc E137 (it137 N) (loopOf Tryz.f137 4)) (canon (E137.keep 4)) n (tabl L) K = some r) h (fun xs h => ?_) fun h => ?_
 ·(try dsimp only at h)
  split at h
  ·rw [<- (e137_4 N K N)] at h; exact ⟨N, h⟩
  ·cases h
 cases h
theorem e137_9 {R : Type} (N : Nat) (K : Ex -> St -> Option R) : ∀ n : Nat, G137_9 (fun s => iter (exc E137 (it137 N) (loopOf Tryz.f137 9)) (canon (E137.keep 9)) n s K) = U137.l9 N (K137_9_0 K) (K137_9_1 K) n := by
 intro n
 induction n with
 | zero => exact rfl
 | succ n ih =>
  funext x4 x5 x6 x7 x8
  have h : ∀ g, exc E137 (it137 N) (loopOf Tryz.f137 9) (tabl (T137_9 x4 x5 x6 x7 x8)) (iterK g (canon (E137.keep 9)) K) = U137.r9 N (G137_9 g) (K137_9_0 K) (K137_9_1 K) x4 x5 x6 x7 x8 := by intro g; kernel_rfl
  show iter _ _ (n + 1) _ K = _
  refine (iter_succ _ _ n _ K).trans ((h _).trans ?_)
  rw [ih]; rfl
theorem lo137_9 {R : Type} (N : Nat) : LoopOk E137 (it137 N (R := R)) (loopOf Tryz.f137 9) := by
 have e : firstRid (loopOf Tryz.f137 9) = 9 := by kernel_rfl
 intro L K r
 rw [e]
 intro h
 unfold it137 at h
 simp only [show Nat.beq 9 4 = false from rfl, show Nat.beq 9 9 = true from rfl, cond_false, cond_true] at h
 refine tell_ok (Q := fun L => ∃ n, iter (exc E137 (it137 N) (loopOf Tryz.f137 9)) (canon (E137.keep 9)) n (tabl L) K = some r) h (fun xs h => ?_) fun h => ?_
 ·(try dsimp only at h)
  split at h
  ·rw [<- (e137_9 N K N)] at h; exact ⟨N, h⟩
  ·cases h
 cases h
def sp137 : List Arg -> Option (Bool × Res)
 | [.v true [.sh 144 a0, .i .i64 a1]] => some (U137.c a0 a1, k137 (U137.v a0 a1))
 | _ => none
theorem ok137 : FnOk Tryz.prog T 137 sp137 := by
 refine fn_loop (E := E137) hE (call_cons ok60 call_nil) hM Tryz.func137 (code := Tryz.f137.body.getD .skip) (by kernel_rfl) (by kernel_rfl) (itf := fun N => it137 N) (l := [loopOf Tryz.f137 4, loopOf Tryz.f137 9]) (by kernel_rfl) (fun N => loops_cons (lo137_4 N) (loops_cons (lo137_9 N) loops_nil)) fun args r h => ?_
 unfold sp137 at h
 split at h
 ·obtain ⟨h1, rfl⟩ := sj h
  rename_i a0 a1
  exact ⟨by kernel_rfl, fun hf => ⟨od (by kernel_rfl), (U137.b_eq (R := Res) (fun r0 => some (k137 r0)) a0 a1 h1).imp fun N hN => Eq.trans (by kernel_rfl) hN⟩⟩
 ·cases h

def E114 : Env := mkE T md [(88, sp88), (116, sp116), (137, sp137)] [(3, [1, 2, 3, 4])] [] []
def k114 (p : Bool) : Res := ⟨[.v false [.b p]], []⟩
def T114_3 (p0 : Bool) (p1 : Int) (p2 p3 p4 : Row) (p5 : Int) (p6 : Row) : List (Nat × Cel) := [(2, .v (.v false [.bp 0 0])), (4, .v (.v false [.b p0])), (6, .v (.v false [.own 1])), (8, .v (.v false [.i .i64 p1])), (1, .o (.box [.sh 9 p2, .sh 9 p3, .sh 144 p4, .i .i64 p5])), (3, .o (.row 9 true p6))]
def G114_3 {R : Type} (g : St -> Option R) (p0 : Bool) (p1 : Int) (p2 p3 p4 : Row) (p5 : Int) (p6 : Row) : Option R := g (tabl (T114_3 p0 p1 p2 p3 p4 p5 p6))
def K114_3_0 {R : Type} (K : Ex -> St -> Option R) (p0 : Bool) (p1 : Int) (p2 p3 p4 : Row) (p5 : Int) (p6 : Row) : Option R := K .ret (tabl (T114_3 p0 p1 p2 p3 p4 p5 p6))
def K114_3_1 {R : Type} (K : Ex -> St -> Option R) (p0 : Bool) (p1 : Int) (p2 p3 p4 : Row) (p5 : Int) (p6 : Row) : Option R := K (.exit 0) (tabl (T114_3 p0 p1 p2 p3 p4 p5 p6))
def H114 {R : Type} (N : Nat) (K : Ex -> St -> Option R) : List Leaf -> Option R
 | [.B x0, .I x1, .R x2, .R x3, .R x4, .I x5, .R x6] => U114.l3 N (K114_3_0 K) (K114_3_1 K) N x0 x1 x2 x3 x4 x5 x6
 | _ => none
def it114 (N : Nat) {R : Type} : It R := fun rid f cn L K => bif Nat.beq rid 3 then tell (T114_3 false 0 [] [] [] 0 []) (H114 N K) L none else none
theorem e114_3 {R : Type} (N : Nat) (K : Ex -> St -> Option R) : ∀ n : Nat, G114_3 (fun s => iter (exc E114 (it114 N) (loopOf Tryz.f114 3)) (canon (E114.keep 3)) n s K) = U114.l3 N (K114_3_0 K) (K114_3_1 K) n := by
 intro n
 induction n with
 | zero => exact rfl
 | succ n ih =>
  funext x0 x1 x2 x3 x4 x5 x6
  have h : ∀ g, exc E114 (it114 N) (loopOf Tryz.f114 3) (tabl (T114_3 x0 x1 x2 x3 x4 x5 x6)) (iterK g (canon (E114.keep 3)) K) = U114.r3 N (G114_3 g) (K114_3_0 K) (K114_3_1 K) x0 x1 x2 x3 x4 x5 x6 := by intro g; kernel_rfl
  show iter _ _ (n + 1) _ K = _
  refine (iter_succ _ _ n _ K).trans ((h _).trans ?_)
  rw [ih]; rfl
theorem lo114_3 {R : Type} (N : Nat) : LoopOk E114 (it114 N (R := R)) (loopOf Tryz.f114 3) := by
 refine lo_one 3 (by kernel_rfl) (S := T114_3 false 0 [] [] [] 0 []) (H := H114 N) (fun _ _ => rfl) fun K xs r h => ?_
 unfold H114 at h
 split at h
 ·rw [<- e114_3 N K N] at h; exact ⟨N, h⟩
 ·cases h
def sp114 : List Arg -> Option (Bool × Res)
 | [.v true [.sh 9 a0, .sh 9 a1, .sh 144 a2, .i .i64 a3]] => some (U114.c a0 a1 a2 a3, k114 (U114.v a0 a1 a2 a3))
 | _ => none
theorem ok114 : FnOk Tryz.prog T 114 sp114 := by
 refine fn_loop (E := E114) hE (call_cons ok88 (call_cons ok116 (call_cons ok137 call_nil))) hM Tryz.func114 (code := Tryz.f114.body.getD .skip) (by kernel_rfl) (by kernel_rfl) (itf := fun N => it114 N) (l := [loopOf Tryz.f114 3]) (by kernel_rfl) (fun N => loops_cons (lo114_3 N) loops_nil) fun args r h => ?_
 unfold sp114 at h
 split at h
 ·obtain ⟨h1, rfl⟩ := sj h
  rename_i a0 a1 a2 a3
  exact ⟨by kernel_rfl, fun hf => ⟨od (by kernel_rfl), (U114.b_eq (R := Res) (fun r0 => some (k114 r0)) a0 a1 a2 a3 h1).imp fun N hN => Eq.trans (by kernel_rfl) hN⟩⟩
 ·cases h

def E102 : Env := mkE T md [(51, sp51), (91, sp91), (114, sp114)] [(2, [1, 2, 3])] [] []
def k102 (p : Bool) : Res := ⟨[.v false [.b p]], []⟩
def T102_2 (p0 : Bool) (p1 p2 : Int) (p3 p4 p5 p6 : Row) (p7 : Int) (p8 p9 : Row) (p10 : Int) : List (Nat × Cel) := [(2, .v (.v false [.bp 0 0])), (4, .v (.v false [.b p0])), (6, .v (.v false [.i .i64 p1])), (1, .o (.box [.i .i64 p2, .sh 88 p3, .sh 9 p4, .sh 9 p5, .sh 144 p6, .i .i64 p7, .sh 64 p8, .sh 106 p9, .i .i64 p10]))]
def G102_2 {R : Type} (g : St -> Option R) (p0 : Bool) (p1 p2 : Int) (p3 p4 p5 p6 : Row) (p7 : Int) (p8 p9 : Row) (p10 : Int) : Option R := g (tabl (T102_2 p0 p1 p2 p3 p4 p5 p6 p7 p8 p9 p10))
def K102_2_0 {R : Type} (K : Ex -> St -> Option R) (p0 : Bool) (p1 p2 : Int) (p3 p4 p5 p6 : Row) (p7 : Int) (p8 p9 : Row) (p10 : Int) : Option R := K .ret (tabl (T102_2 p0 p1 p2 p3 p4 p5 p6 p7 p8 p9 p10))
def K102_2_1 {R : Type} (K : Ex -> St -> Option R) (p0 : Bool) (p1 p2 : Int) (p3 p4 p5 p6 : Row) (p7 : Int) (p8 p9 : Row) (p10 : Int) : Option R := K (.exit 0) (tabl (T102_2 p0 p1 p2 p3 p4 p5 p6 p7 p8 p9 p10))
def H102 {R : Type} (N : Nat) (K : Ex -> St -> Option R) : List Leaf -> Option R
 | [.B x0, .I x1, .I x2, .R x3, .R x4, .R x5, .R x6, .I x7, .R x8, .R x9, .I x10] => U102.l2 N (K102_2_0 K) (K102_2_1 K) N x0 x1 x2 x3 x4 x5 x6 x7 x8 x9 x10
 | _ => none
def it102 (N : Nat) {R : Type} : It R := fun rid f cn L K => bif Nat.beq rid 2 then tell (T102_2 false 0 0 [] [] [] [] 0 [] [] 0) (H102 N K) L none else none
theorem e102_2 {R : Type} (N : Nat) (K : Ex -> St -> Option R) : ∀ n : Nat, G102_2 (fun s => iter (exc E102 (it102 N) (loopOf Tryz.f102 2)) (canon (E102.keep 2)) n s K) = U102.l2 N (K102_2_0 K) (K102_2_1 K) n := by
 intro n
 induction n with
 | zero => exact rfl
 | succ n ih =>
  funext x0 x1 x2 x3 x4 x5 x6 x7 x8 x9 x10
  have h : ∀ g, exc E102 (it102 N) (loopOf Tryz.f102 2) (tabl (T102_2 x0 x1 x2 x3 x4 x5 x6 x7 x8 x9 x10)) (iterK g (canon (E102.keep 2)) K) = U102.r2 N (G102_2 g) (K102_2_0 K) (K102_2_1 K) x0 x1 x2 x3 x4 x5 x6 x7 x8 x9 x10 := by intro g; kernel_rfl
  show iter _ _ (n + 1) _ K = _
  refine (iter_succ _ _ n _ K).trans ((h _).trans ?_)
  rw [ih]; rfl
theorem lo102_2 {R : Type} (N : Nat) : LoopOk E102 (it102 N (R := R)) (loopOf Tryz.f102 2) := by
 refine lo_one 2 (by kernel_rfl) (S := T102_2 false 0 0 [] [] [] [] 0 [] [] 0) (H := H102 N) (fun _ _ => rfl) fun K xs r h => ?_
 unfold H102 at h
 split at h
 ·rw [<- e102_2 N K N] at h; exact ⟨N, h⟩
 ·cases h
def sp102 : List Arg -> Option (Bool × Res)
 | [.v true [.i .i64 a0, .sh 88 a1, .sh 9 a2, .sh 9 a3, .sh 144 a4, .i .i64 a5, .sh 64 a6, .sh 106 a7, .i .i64 a8]] => some (U102.c a0 a1 a2 a3 a4 a5 a6 a7 a8, k102 (U102.v a0 a1 a2 a3 a4 a5 a6 a7 a8))
 | _ => none
theorem ok102 : FnOk Tryz.prog T 102 sp102 := by
 refine fn_loop (E := E102) hE (call_cons ok51 (call_cons ok91 (call_cons ok114 call_nil))) hM Tryz.func102 (code := Tryz.f102.body.getD .skip) (by kernel_rfl) (by kernel_rfl) (itf := fun N => it102 N) (l := [loopOf Tryz.f102 2]) (by kernel_rfl) (fun N => loops_cons (lo102_2 N) loops_nil) fun args r h => ?_
 unfold sp102 at h
 split at h
 ·obtain ⟨h1, rfl⟩ := sj h
  rename_i a0 a1 a2 a3 a4 a5 a6 a7 a8
  exact ⟨by kernel_rfl, fun hf => ⟨od (by kernel_rfl), (U102.b_eq (R := Res) (fun r0 => some (k102 r0)) a0 a1 a2 a3 a4 a5 a6 a7 a8 h1).imp fun N hN => Eq.trans (by kernel_rfl) hN⟩⟩
 ·cases h

def E103 : Env := mkE T md [(88, sp88), (60, sp60)] [(5, [1, 2, 4, 5, 6])] [] []
def k103 (p : Bool) : Res := ⟨[.v false [.b p]], []⟩
def T103_5 (p0 : Int) (p1 : Bool) (p2 p3 : Int) (p4 p5 p6 p7 : Row) (p8 : Int) (p9 p10 : Row) (p11 : Int) (p12 p13 : ByteArray) (p14 p15 p16 : Int) : List (Nat × Cel) := [(2, .v (.v false [.i .i64 p0])), (4, .v (.v false [.bp 0 0])), (8, .v (.v false [.b p1])), (10, .v (.v false [.bp 1 0])), (12, .v (.v false [.i .i64 p2])), (1, .o (.box [.i .i64 p3, .sh 88 p4, .sh 9 p5, .sh 9 p6, .sh 144 p7, .i .i64 p8, .sh 64 p9, .sh 106 p10, .i .i64 p11])), (3, .o (.box [.s p12, .s p13, .i .i64 p14, .i .i64 p15, .i .i64 p16]))]
def G103_5 {R : Type} (g : St -> Option R) (p0 : Int) (p1 : Bool) (p2 p3 : Int) (p4 p5 p6 p7 : Row) (p8 : Int) (p9 p10 : Row) (p11 : Int) (p12 p13 : ByteArray) (p14 p15 p16 : Int) : Option R := g (tabl (T103_5 p0 p1 p2 p3 p4 p5 p6 p7 p8 p9 p10 p11 p12 p13 p14 p15 p16))
def K103_5_0 {R : Type} (K : Ex -> St -> Option R) (p0 : Int) (p1 : Bool) (p2 p3 : Int) (p4 p5 p6 p7 : Row) (p8 : Int) (p9 p10 : Row) (p11 : Int) (p12 p13 : ByteArray) (p14 p15 p16 : Int) : Option R := K .ret (tabl (T103_5 p0 p1 p2 p3 p4 p5 p6 p7 p8 p9 p10 p11 p12 p13 p14 p15 p16))
def K103_5_1 {R : Type} (K : Ex -> St -> Option R) (p0 : Int) (p1 : Bool) (p2 p3 : Int) (p4 p5 p6 p7 : Row) (p8 : Int) (p9 p10 : Row) (p11 : Int) (p12 p13 : ByteArray) (p14 p15 p16 : Int) : Option R := K (.exit 0) (tabl (T103_5 p0 p1 p2 p3 p4 p5 p6 p7 p8 p9 p10 p11 p12 p13 p14 p15 p16))
def H103 {R : Type} (N : Nat) (K : Ex -> St -> Option R) : List Leaf -> Option R
 | [.I x0, .B x1, .I x2, .I x3, .R x4, .R x5, .R x6, .R x7, .I x8, .R x9, .R x10, .I x11, .S x12, .S x13, .I x14, .I x15, .I x16] => U103.l5 N (K103_5_0 K) (K103_5_1 K) N x0 x1 x2 x3 x4 x5 x6 x7 x8 x9 x10 x11 x12 x13 x14 x15 x16
 | _ => none
def it103 (N : Nat) {R : Type} : It R := fun rid f cn L K => bif Nat.beq rid 5 then tell (T103_5 0 false 0 0 [] [] [] [] 0 [] [] 0 ⟨#[]⟩ ⟨#[]⟩ 0 0 0) (H103 N K) L none else none
theorem e103_5 {R : Type} (N : Nat) (K : Ex -> St -> Option R) : ∀ n : Nat, G103_5 (fun s => iter (exc E103 (it103 N) (loopOf Tryz.f103 5)) (canon (E103.keep 5)) n s K) = U103.l5 N (K103_5_0 K) (K103_5_1 K) n := by
 intro n
 induction n with
 | zero => exact rfl
 | succ n ih =>
  funext x0 x1 x2 x3 x4 x5 x6 x7 x8 x9 x10 x11 x12 x13 x14 x15 x16
  have h : ∀ g, exc E103 (it103 N) (loopOf Tryz.f103 5) (tabl (T103_5 x0 x1 x2 x3 x4 x5 x6 x7 x8 x9 x10 x11 x12 x13 x14 x15 x16)) (iterK g (canon (E103.keep 5)) K) = U103.r5 N (G103_5 g) (K103_5_0 K) (K103_5_1 K) x0 x1 x2 x3 x4 x5 x6 x7 x8 x9 x10 x11 x12 x13 x14 x15 x16 := by intro g; kernel_rfl
  show iter _ _ (n + 1) _ K = _
  refine (iter_succ _ _ n _ K).trans ((h _).trans ?_)
  rw [ih]; rfl
theorem lo103_5 {R : Type} (N : Nat) : LoopOk E103 (it103 N (R := R)) (loopOf Tryz.f103 5) := by
 refine lo_one 5 (by kernel_rfl) (S := T103_5 0 false 0 0 [] [] [] [] 0 [] [] 0 ⟨#[]⟩ ⟨#[]⟩ 0 0 0) (H := H103 N) (fun _ _ => rfl) fun K xs r h => ?_
 unfold H103 at h
 split at h
 ·rw [<- e103_5 N K N] at h; exact ⟨N, h⟩
 ·cases h
def sp103 : List Arg -> Option (Bool × Res)
 | [.v true [.i .i64 a0, .sh 88 a1, .sh 9 a2, .sh 9 a3, .sh 144 a4, .i .i64 a5, .sh 64 a6, .sh 106 a7, .i .i64 a8], .v false [.i .i64 a9]] => some (U103.c a0 a1 a2 a3 a4 a5 a6 a7 a8 a9, k103 (U103.v a0 a1 a2 a3 a4 a5 a6 a7 a8 a9))
 | _ => none
theorem ok103 : FnOk Tryz.prog T 103 sp103 := by
 refine fn_loop (E := E103) hE (call_cons ok88 (call_cons ok60 call_nil)) hM Tryz.func103 (code := Tryz.f103.body.getD .skip) (by kernel_rfl) (by kernel_rfl) (itf := fun N => it103 N) (l := [loopOf Tryz.f103 5]) (by kernel_rfl) (fun N => loops_cons (lo103_5 N) loops_nil) fun args r h => ?_
 unfold sp103 at h
 split at h
 ·obtain ⟨h1, rfl⟩ := sj h
  rename_i a0 a1 a2 a3 a4 a5 a6 a7 a8 a9
  exact ⟨by kernel_rfl, fun hf => ⟨od (by kernel_rfl), (U103.b_eq (R := Res) (fun r0 => some (k103 r0)) a0 a1 a2 a3 a4 a5 a6 a7 a8 a9 h1).imp fun N hN => Eq.trans (by kernel_rfl) hN⟩⟩
 ·cases h

def E67 : Env := mkE T md [(60, sp60), (102, sp102), (103, sp103), (88, sp88)] [(4, [1, 2, 3]), (9, [1, 2, 4])] [] []
def k67 (p : Bool) : Res := ⟨[.v false [.b p]], []⟩
def T67_4 (p0 : Bool) (p1 p2 : Int) (p3 p4 p5 p6 : Row) (p7 : Int) (p8 p9 : Row) (p10 : Int) : List (Nat × Cel) := [(2, .v (.v false [.bp 0 0])), (4, .v (.v false [.b p0])), (6, .v (.v false [.i .i64 p1])), (1, .o (.box [.i .i64 p2, .sh 88 p3, .sh 9 p4, .sh 9 p5, .sh 144 p6, .i .i64 p7, .sh 64 p8, .sh 106 p9, .i .i64 p10]))]
def G67_4 {R : Type} (g : St -> Option R) (p0 : Bool) (p1 p2 : Int) (p3 p4 p5 p6 : Row) (p7 : Int) (p8 p9 : Row) (p10 : Int) : Option R := g (tabl (T67_4 p0 p1 p2 p3 p4 p5 p6 p7 p8 p9 p10))
def K67_4_0 {R : Type} (K : Ex -> St -> Option R) (p0 : Bool) (p1 p2 : Int) (p3 p4 p5 p6 : Row) (p7 : Int) (p8 p9 : Row) (p10 : Int) : Option R := K .ret (tabl (T67_4 p0 p1 p2 p3 p4 p5 p6 p7 p8 p9 p10))
def K67_4_1 {R : Type} (K : Ex -> St -> Option R) (p0 : Bool) (p1 p2 : Int) (p3 p4 p5 p6 : Row) (p7 : Int) (p8 p9 : Row) (p10 : Int) : Option R := K (.exit 0) (tabl (T67_4 p0 p1 p2 p3 p4 p5 p6 p7 p8 p9 p10))
def T67_9 (p0 : Bool) (p1 p2 : Int) (p3 p4 p5 p6 : Row) (p7 : Int) (p8 p9 : Row) (p10 : Int) : List (Nat × Cel) := [(2, .v (.v false [.bp 0 0])), (4, .v (.v false [.b p0])), (8, .v (.v false [.i .i64 p1])), (1, .o (.box [.i .i64 p2, .sh 88 p3, .sh 9 p4, .sh 9 p5, .sh 144 p6, .i .i64 p7, .sh 64 p8, .sh 106 p9, .i .i64 p10]))]
def G67_9 {R : Type} (g : St -> Option R) (p0 : Bool) (p1 p2 : Int) (p3 p4 p5 p6 : Row) (p7 : Int) (p8 p9 : Row) (p10 : Int) : Option R := g (tabl (T67_9 p0 p1 p2 p3 p4 p5 p6 p7 p8 p9 p10))
def K67_9_0 {R : Type} (K : Ex -> St -> Option R) (p0 : Bool) (p1 p2 : Int) (p3 p4 p5 p6 : Row) (p7 : Int) (p8 p9 : Row) (p10 : Int) : Option R := K .ret (tabl (T67_9 p0 p1 p2 p3 p4 p5 p6 p7 p8 p9 p10))
def K67_9_1 {R : Type} (K : Ex -> St -> Option R) (p0 : Bool) (p1 p2 : Int) (p3 p4 p5 p6 : Row) (p7 : Int) (p8 p9 : Row) (p10 : Int) : Option R := K (.exit 2) (tabl (T67_9 p0 p1 p2 p3 p4 p5 p6 p7 p8 p9 p10))
def it67 (N : Nat) {R : Type} : It R := fun rid f cn L K => bif Nat.beq rid 4 then tell (T67_4 false 0 0 [] [] [] [] 0 [] [] 0) (fun | [.B x0, .I x1, .I x2, .R x3, .R x4, .R x5, .R x6, .I x7, .R x8, .R x9, .I x10] => U67.l4 N (K67_4_0 K) (K67_4_1 K) N x0 x1 x2 x3 x4 x5 x6 x7 x8 x9 x10 | _ => none) L none else bif Nat.beq rid 9 then tell (T67_9 false 0 0 [] [] [] [] 0 [] [] 0) (fun | [.B x33, .I x34, .I x35, .R x36, .R x37, .R x38, .R x39, .I x40, .R x41, .R x42, .I x43] => U67.l9 N (K67_9_0 K) (K67_9_1 K) N x33 x34 x35 x36 x37 x38 x39 x40 x41 x42 x43 | _ => none) L none else none
theorem e67_4 {R : Type} (N : Nat) (K : Ex -> St -> Option R) : ∀ n : Nat, G67_4 (fun s => iter (exc E67 (it67 N) (loopOf Tryz.f67 4)) (canon (E67.keep 4)) n s K) = U67.l4 N (K67_4_0 K) (K67_4_1 K) n := by
 intro n
 induction n with
 | zero => exact rfl
 | succ n ih =>
  funext x0 x1 x2 x3 x4 x5 x6 x7 x8 x9 x10
  have h : ∀ g, exc E67 (it67 N) (loopOf Tryz.f67 4) (tabl (T67_4 x0 x1 x2 x3 x4 x5 x6 x7 x8 x9 x10)) (iterK g (canon (E67.keep 4)) K) = U67.r4 N (G67_4 g) (K67_4_0 K) (K67_4_1 K) x0 x1 x2 x3 x4 x5 x6 x7 x8 x9 x10 := by intro g; kernel_rfl
  show iter _ _ (n + 1) _ K = _
  refine (iter_succ _ _ n _ K).trans ((h _).trans ?_)
  rw [ih]; rfl
theorem lo67_4 {R : Type} (N : Nat) : LoopOk E67 (it67 N (R := R)) (loopOf Tryz.f67 4) := by
 have e : firstRid (loopOf Tryz.f67 4) = 4 := by kernel_rfl
 intro L K r
 rw [e]
 intro h
 unfold it67 at h
 simp only [show Nat.beq 4 4 = true from rfl, cond_false, cond_true] at h
 refine tell_ok (Q := fun L => ∃ n, iter (exc E67 (it67 N) (loopOf Tryz.f67 4)) (canon (E67.keep 4)) n (tabl L) K = some r) h (fun xs h => ?_) fun h => ?_
 ·(try dsimp only at h)
  split at h
  ·rw [<- (e67_4 N K N)] at h; exact ⟨N, h⟩
  ·cases h
 cases h
theorem e67_9 {R : Type} (N : Nat) (K : Ex -> St -> Option R) : ∀ n : Nat, G67_9 (fun s => iter (exc E67 (it67 N) (loopOf Tryz.f67 9)) (canon (E67.keep 9)) n s K) = U67.l9 N (K67_9_0 K) (K67_9_1 K) n := by
 intro n
 induction n with
 | zero => exact rfl
 | succ n ih =>
  funext x33 x34 x35 x36 x37 x38 x39 x40 x41 x42 x43
  have h : ∀ g, exc E67 (it67 N) (loopOf Tryz.f67 9) (tabl (T67_9 x33 x34 x35 x36 x37 x38 x39 x40 x41 x42 x43)) (iterK g (canon (E67.keep 9)) K) = U67.r9 N (G67_9 g) (K67_9_0 K) (K67_9_1 K) x33 x34 x35 x36 x37 x38 x39 x40 x41 x42 x43 := by intro g; kernel_rfl
  show iter _ _ (n + 1) _ K = _
  refine (iter_succ _ _ n _ K).trans ((h _).trans ?_)
  rw [ih]; rfl
theorem lo67_9 {R : Type} (N : Nat) : LoopOk E67 (it67 N (R := R)) (loopOf Tryz.f67 9) := by
 have e : firstRid (loopOf Tryz.f67 9) = 9 := by kernel_rfl
 intro L K r
 rw [e]
 intro h
 unfold it67 at h
 simp only [show Nat.beq 9 4 = false from rfl, show Nat.beq 9 9 = true from rfl, cond_false, cond_true] at h
 refine tell_ok (Q := fun L => ∃ n, iter (exc E67 (it67 N) (loopOf Tryz.f67 9)) (canon (E67.keep 9)) n (tabl L) K = some r) h (fun xs h => ?_) fun h => ?_
 ·(try dsimp only at h)
  split at h
  ·rw [<- (e67_9 N K N)] at h; exact ⟨N, h⟩
  ·cases h
 cases h
def sp67 : List Arg -> Option (Bool × Res)
 | [.v true [.i .i64 a0, .sh 88 a1, .sh 9 a2, .sh 9 a3, .sh 144 a4, .i .i64 a5, .sh 64 a6, .sh 106 a7, .i .i64 a8]] => some (U67.c a0 a1 a2 a3 a4 a5 a6 a7 a8, k67 (U67.v a0 a1 a2 a3 a4 a5 a6 a7 a8))
 | _ => none
theorem ok67 : FnOk Tryz.prog T 67 sp67 := by
 refine fn_loop (E := E67) hE (call_cons ok60 (call_cons ok102 (call_cons ok103 (call_cons ok88 call_nil)))) hM Tryz.func67 (code := Tryz.f67.body.getD .skip) (by kernel_rfl) (by kernel_rfl) (itf := fun N => it67 N) (l := [loopOf Tryz.f67 4, loopOf Tryz.f67 9]) (by kernel_rfl) (fun N => loops_cons (lo67_4 N) (loops_cons (lo67_9 N) loops_nil)) fun args r h => ?_
 unfold sp67 at h
 split at h
 ·obtain ⟨h1, rfl⟩ := sj h
  rename_i a0 a1 a2 a3 a4 a5 a6 a7 a8
  exact ⟨by kernel_rfl, fun hf => ⟨od (by kernel_rfl), (U67.b_eq (R := Res) (fun r0 => some (k67 r0)) a0 a1 a2 a3 a4 a5 a6 a7 a8 h1).imp fun N hN => Eq.trans (by kernel_rfl) hN⟩⟩
 ·cases h

def E28 : Env := mkE T md [(67, sp67), (60, sp60)] [] [] []
def k28 (p : Bool) : Res := ⟨[.v false [.b p]], []⟩
def sp28 : List Arg -> Option (Bool × Res)
 | [.v true [.i .i64 a0, .sh 88 a1, .sh 9 a2, .sh 9 a3, .sh 144 a4, .i .i64 a5, .sh 64 a6, .sh 106 a7, .i .i64 a8], .v false [.i .i64 a9]] => some (U28.c a0 a1 a2 a3 a4 a5 a6 a7 a8 a9, k28 (U28.v a0 a1 a2 a3 a4 a5 a6 a7 a8 a9))
 | _ => none
theorem ok28 : FnOk Tryz.prog T 28 sp28 := by
 refine fn_flat (E := E28) hE (call_cons ok67 (call_cons ok60 call_nil)) hM Tryz.func28 (code := Tryz.f28.body.getD .skip) (by kernel_rfl) (by kernel_rfl) (by kernel_rfl) fun args r h => ?_
 unfold sp28 at h
 split at h
 ·obtain ⟨h1, rfl⟩ := sj h
  rename_i a0 a1 a2 a3 a4 a5 a6 a7 a8 a9
  exact ⟨by kernel_rfl, fun hf => ⟨od (by kernel_rfl), Eq.trans (by kernel_rfl) (U28.b_eq (R := Res) (fun r0 => some (k28 r0)) a0 a1 a2 a3 a4 a5 a6 a7 a8 a9 h1)⟩⟩
 ·cases h

def E83 : Env := mkE T md [] [] [] []
def k83 (p : Int × ByteArray × Row) : Res := ⟨[.v true [.i .i64 p.1, .s p.2.1, .ow 133 true p.2.2]], []⟩
def sp83 : List Arg -> Option (Bool × Res)
 | [.v true [.i .i64 a0, .s a1, .sh 133 a2]] => some (U83.c a0 a1 a2, k83 (U83.v a0 a1 a2))
 | _ => none
theorem ok83 : FnOk Tryz.prog T 83 sp83 := by
 refine fn_flat (E := E83) hE call_nil hM Tryz.func83 (code := Tryz.f83.body.getD .skip) (by kernel_rfl) (by kernel_rfl) (by kernel_rfl) fun args r h => ?_
 unfold sp83 at h
 split at h
 ·obtain ⟨h1, rfl⟩ := sj h
  rename_i a0 a1 a2
  exact ⟨by kernel_rfl, fun hf => ⟨od (by kernel_rfl), Eq.trans (by kernel_rfl) (U83.b_eq (R := Res) (fun r0 r1 r2 => some (k83 (r0, r1, r2))) a0 a1 a2 h1)⟩⟩
 ·cases h

def E84 : Env := mkE T md [(60, sp60)] [(2, [1, 2, 3])] [] []
def k84 (p : Bool) : Res := ⟨[.v false [.b p]], []⟩
def T84_2 (p0 : Bool) (p1 p2 : Int) (p3 : ByteArray) (p4 : Row) : List (Nat × Cel) := [(2, .v (.v false [.bp 0 0])), (4, .v (.v false [.b p0])), (6, .v (.v false [.i .i64 p1])), (1, .o (.box [.i .i64 p2, .s p3, .sh 133 p4]))]
def G84_2 {R : Type} (g : St -> Option R) (p0 : Bool) (p1 p2 : Int) (p3 : ByteArray) (p4 : Row) : Option R := g (tabl (T84_2 p0 p1 p2 p3 p4))
def K84_2_0 {R : Type} (K : Ex -> St -> Option R) (p0 : Bool) (p1 p2 : Int) (p3 : ByteArray) (p4 : Row) : Option R := K .ret (tabl (T84_2 p0 p1 p2 p3 p4))
def K84_2_1 {R : Type} (K : Ex -> St -> Option R) (p0 : Bool) (p1 p2 : Int) (p3 : ByteArray) (p4 : Row) : Option R := K (.exit 0) (tabl (T84_2 p0 p1 p2 p3 p4))
def H84 {R : Type} (N : Nat) (K : Ex -> St -> Option R) : List Leaf -> Option R
 | [.B x0, .I x1, .I x2, .S x3, .R x4] => U84.l2 N (K84_2_0 K) (K84_2_1 K) N x0 x1 x2 x3 x4
 | _ => none
def it84 (N : Nat) {R : Type} : It R := fun rid f cn L K => bif Nat.beq rid 2 then tell (T84_2 false 0 0 ⟨#[]⟩ []) (H84 N K) L none else none
theorem e84_2 {R : Type} (N : Nat) (K : Ex -> St -> Option R) : ∀ n : Nat, G84_2 (fun s => iter (exc E84 (it84 N) (loopOf Tryz.f84 2)) (canon (E84.keep 2)) n s K) = U84.l2 N (K84_2_0 K) (K84_2_1 K) n := by
 intro n
 induction n with
 | zero => exact rfl
 | succ n ih =>
  funext x0 x1 x2 x3 x4
  have h : ∀ g, exc E84 (it84 N) (loopOf Tryz.f84 2) (tabl (T84_2 x0 x1 x2 x3 x4)) (iterK g (canon (E84.keep 2)) K) = U84.r2 N (G84_2 g) (K84_2_0 K) (K84_2_1 K) x0 x1 x2 x3 x4 := by intro g; kernel_rfl
  show iter _ _ (n + 1) _ K = _
  refine (iter_succ _ _ n _ K).trans ((h _).trans ?_)
  rw [ih]; rfl
theorem lo84_2 {R : Type} (N : Nat) : LoopOk E84 (it84 N (R := R)) (loopOf Tryz.f84 2) := by
 refine lo_one 2 (by kernel_rfl) (S := T84_2 false 0 0 ⟨#[]⟩ []) (H := H84 N) (fun _ _ => rfl) fun K xs r h => ?_
 unfold H84 at h
 split at h
 ·rw [<- e84_2 N K N] at h; exact ⟨N, h⟩
 ·cases h
def sp84 : List Arg -> Option (Bool × Res)
 | [.v true [.i .i64 a0, .s a1, .sh 133 a2]] => some (true, k84 (U84.v a0 a1 a2))
 | _ => none
theorem ok84 : FnOk Tryz.prog T 84 sp84 := by
 refine fn_loop (E := E84) hE (call_cons ok60 call_nil) hM Tryz.func84 (code := Tryz.f84.body.getD .skip) (by kernel_rfl) (by kernel_rfl) (itf := fun N => it84 N) (l := [loopOf Tryz.f84 2]) (by kernel_rfl) (fun N => loops_cons (lo84_2 N) loops_nil) fun args r h => ?_
 unfold sp84 at h
 split at h
 ·obtain ⟨h1, rfl⟩ := sj h
  rename_i a0 a1 a2
  exact ⟨by kernel_rfl, fun hf => ⟨od (by kernel_rfl), (U84.b_eq (R := Res) (fun r0 => some (k84 r0)) a0 a1 a2 hf.1.2.1 hf.1.2.2.1).imp fun N hN => Eq.trans (by kernel_rfl) hN⟩⟩
 ·cases h

def E46 : Env := mkE T md [(83, sp83), (84, sp84), (60, sp60)] [] [] []
def k46 (p : Int × ByteArray × Row × Bool) : Res := ⟨[.v true [.i .i64 p.1, .s p.2.1, .ow 133 true p.2.2.1], .v false [.b p.2.2.2]], []⟩
def sp46 : List Arg -> Option (Bool × Res)
 | [.v true [.i .i64 a0, .s a1, .sh 133 a2], .v false [.s a3]] => some (U46.c a0 a1 a2 a3, k46 (U46.v a0 a1 a2 a3))
 | _ => none
theorem ok46 : FnOk Tryz.prog T 46 sp46 := by
 refine fn_flat (E := E46) hE (call_cons ok83 (call_cons ok84 (call_cons ok60 call_nil))) hM Tryz.func46 (code := Tryz.f46.body.getD .skip) (by kernel_rfl) (by kernel_rfl) (by kernel_rfl) fun args r h => ?_
 unfold sp46 at h
 split at h
 ·obtain ⟨h1, rfl⟩ := sj h
  rename_i a0 a1 a2 a3
  exact ⟨by kernel_rfl, fun hf => ⟨od (by kernel_rfl), Eq.trans (by kernel_rfl) (U46.b_eq (R := Res) (fun r0 r1 r2 r3 => some (k46 (r0, r1, r2, r3))) a0 a1 a2 a3 h1 hf.1.2.1 hf.1.2.2.1 hf.2.1.1)⟩⟩
 ·cases h

def E29 : Env := mkE T md [] [(1, [0, 1, 2, 6])] [] []
def k29 (p : Int × Row × Row × Row × Row × Int × Row × Row × Int) : Res := ⟨[], [[.i .i64 p.1, .kp p.2.1, .kp p.2.2.1, .kp p.2.2.2.1, .kp p.2.2.2.2.1, .i .i64 p.2.2.2.2.2.1, .kp p.2.2.2.2.2.2.1, .kp p.2.2.2.2.2.2.2.1, .i .i64 p.2.2.2.2.2.2.2.2]]⟩
def T29_1 (p0 p1 p2 p3 p4 p5 : Int) (p6 p7 p8 p9 p10 p11 : Row) : List (Nat × Cel) := [(0, .v (.v false [.bp 900000900 0])), (2, .v (.v false [.i .i64 p0])), (4, .v (.v false [.i .i64 p1])), (12, .v (.v false [.i .i64 p2])), (1800001801, .o (.box [.i .i64 p3, .own 900000001, .own 900000002, .own 900000003, .own 900000004, .i .i64 p4, .own 900000006, .own 900000007, .i .i64 p5])), (1800000003, .o (.row 88 true p6)), (1800000005, .o (.row 9 true p7)), (1800000007, .o (.row 9 true p8)), (1800000009, .o (.row 144 true p9)), (1800000013, .o (.row 64 true p10)), (1800000015, .o (.row 106 true p11))]
def G29_1 {R : Type} (g : St -> Option R) (p0 p1 p2 p3 p4 p5 : Int) (p6 p7 p8 p9 p10 p11 : Row) : Option R := g (tabl (T29_1 p0 p1 p2 p3 p4 p5 p6 p7 p8 p9 p10 p11))
def K29_1_0 {R : Type} (K : Ex -> St -> Option R) (p0 p1 p2 p3 p4 p5 : Int) (p6 p7 p8 p9 p10 p11 : Row) : Option R := K (.exit 0) (tabl (T29_1 p0 p1 p2 p3 p4 p5 p6 p7 p8 p9 p10 p11))
def H29 {R : Type} (N : Nat) (K : Ex -> St -> Option R) : List Leaf -> Option R
 | [.I x0, .I x1, .I x2, .I x3, .I x4, .I x5, .R x6, .R x7, .R x8, .R x9, .R x10, .R x11] => U29.l1 N (K29_1_0 K) N x0 x1 x2 x3 x4 x5 x6 x7 x8 x9 x10 x11
 | _ => none
def it29 (N : Nat) {R : Type} : It R := fun rid f cn L K => bif Nat.beq rid 1 then tell (T29_1 0 0 0 0 0 0 [] [] [] [] [] []) (H29 N K) L none else none
theorem e29_1 {R : Type} (N : Nat) (K : Ex -> St -> Option R) : ∀ n : Nat, G29_1 (fun s => iter (exc E29 (it29 N) (loopOf Tryz.f29 1)) (canon (E29.keep 1)) n s K) = U29.l1 N (K29_1_0 K) n := by
 intro n
 induction n with
 | zero => exact rfl
 | succ n ih =>
  funext x0 x1 x2 x3 x4 x5 x6 x7 x8 x9 x10 x11
  have h : ∀ g, exc E29 (it29 N) (loopOf Tryz.f29 1) (tabl (T29_1 x0 x1 x2 x3 x4 x5 x6 x7 x8 x9 x10 x11)) (iterK g (canon (E29.keep 1)) K) = U29.r1 N (G29_1 g) (K29_1_0 K) x0 x1 x2 x3 x4 x5 x6 x7 x8 x9 x10 x11 := by intro g; kernel_rfl
  show iter _ _ (n + 1) _ K = _
  refine (iter_succ _ _ n _ K).trans ((h _).trans ?_)
  rw [ih]; rfl
theorem lo29_1 {R : Type} (N : Nat) : LoopOk E29 (it29 N (R := R)) (loopOf Tryz.f29 1) := by
 refine lo_one 1 (by kernel_rfl) (S := T29_1 0 0 0 0 0 0 [] [] [] [] [] []) (H := H29 N) (fun _ _ => rfl) fun K xs r h => ?_
 unfold H29 at h
 split at h
 ·rw [<- e29_1 N K N] at h; exact ⟨N, h⟩
 ·cases h
def sp29 : List Arg -> Option (Bool × Res)
 | [.pt [.i .i64 a0, .ow 88 true a1, .ow 9 true a2, .ow 9 true a3, .ow 144 true a4, .i .i64 a5, .ow 64 true a6, .ow 106 true a7, .i .i64 a8], .v false [.i .i64 a9], .v false [.i .i64 a10]] => some (U29.c a0 a1 a2 a3 a4 a5 a6 a7 a8 a9 a10, k29 (U29.v a0 a1 a2 a3 a4 a5 a6 a7 a8 a9 a10))
 | _ => none
theorem ok29 : FnOk Tryz.prog T 29 sp29 := by
 refine fn_loop (E := E29) hE call_nil hM Tryz.func29 (code := Tryz.f29.body.getD .skip) (by kernel_rfl) (by kernel_rfl) (itf := fun N => it29 N) (l := [loopOf Tryz.f29 1]) (by kernel_rfl) (fun N => loops_cons (lo29_1 N) loops_nil) fun args r h => ?_
 unfold sp29 at h
 split at h
 ·obtain ⟨h1, rfl⟩ := sj h
  rename_i a0 a1 a2 a3 a4 a5 a6 a7 a8 a9 a10
  exact ⟨by kernel_rfl, fun hf => ⟨od (by kernel_rfl), (U29.b_eq (R := Res) (fun r0 r1 r2 r3 r4 r5 r6 r7 r8 => some (k29 (r0, r1, r2, r3, r4, r5, r6, r7, r8))) a0 a1 a2 a3 a4 a5 a6 a7 a8 a9 a10 h1).imp fun N hN => Eq.trans (by kernel_rfl) hN⟩⟩
 ·cases h

def E14 : Env := mkE T md [(27, sp27), (28, sp28), (46, sp46), (29, sp29)] [] [] []
def k14 (p : Int × Row × Row × Row × Row × Int × Row × Row × Int × Bool) : Res := ⟨[.v true [.i .i64 p.1, .ow 88 true p.2.1, .ow 9 true p.2.2.1, .ow 9 true p.2.2.2.1, .ow 144 true p.2.2.2.2.1, .i .i64 p.2.2.2.2.2.1, .ow 64 true p.2.2.2.2.2.2.1, .ow 106 true p.2.2.2.2.2.2.2.1, .i .i64 p.2.2.2.2.2.2.2.2.1], .v false [.b p.2.2.2.2.2.2.2.2.2]], []⟩
def sp14 : List Arg -> Option (Bool × Res)
 | [.v true [.i .i64 a0, .sh 88 a1, .sh 9 a2, .sh 9 a3, .sh 144 a4, .i .i64 a5, .sh 64 a6, .sh 106 a7, .i .i64 a8], .v false [.i .i64 a9], .v false [.s a10]] => some (U14.c a0 a1 a2 a3 a4 a5 a6 a7 a8 a9 a10, k14 (U14.v a0 a1 a2 a3 a4 a5 a6 a7 a8 a9 a10))
 | _ => none
theorem ok14 : FnOk Tryz.prog T 14 sp14 := by
 refine fn_flat (E := E14) hE (call_cons ok27 (call_cons ok28 (call_cons ok46 (call_cons ok29 call_nil)))) hM Tryz.func14 (code := Tryz.f14.body.getD .skip) (by kernel_rfl) (by kernel_rfl) (by kernel_rfl) fun args r h => ?_
 unfold sp14 at h
 split at h
 ·obtain ⟨h1, rfl⟩ := sj h
  rename_i a0 a1 a2 a3 a4 a5 a6 a7 a8 a9 a10
  exact ⟨by kernel_rfl, fun hf => ⟨od (by kernel_rfl), Eq.trans (by kernel_rfl) (U14.b_eq (R := Res) (fun r0 r1 r2 r3 r4 r5 r6 r7 r8 r9 => some (k14 (r0, r1, r2, r3, r4, r5, r6, r7, r8, r9))) a0 a1 a2 a3 a4 a5 a6 a7 a8 a9 a10 h1)⟩⟩
 ·cases h

def E72 : Env := mkE T md [] [] [] []
def k72 (p : Row) : Res := ⟨[.v false [.ow 88 true p]], []⟩
def sp72 : List Arg -> Option (Bool × Res)
 | [.v false [.sh 88 a0]] => some (U72.c a0, k72 (U72.v a0))
 | _ => none
theorem ok72 : FnOk Tryz.prog T 72 sp72 := by
 refine fn_flat (E := E72) hE call_nil hM Tryz.func72 (code := Tryz.f72.body.getD .skip) (by kernel_rfl) (by kernel_rfl) (by kernel_rfl) fun args r h => ?_
 unfold sp72 at h
 split at h
 ·obtain ⟨h1, rfl⟩ := sj h
  rename_i a0
  exact ⟨by kernel_rfl, fun hf => ⟨od (by kernel_rfl), Eq.trans (by kernel_rfl) (U72.b_eq (R := Res) (fun r0 => some (k72 r0)) a0 h1)⟩⟩
 ·cases h

def E105 : Env := mkE T md [] [] [] []
def k105 (p : Row) : Res := ⟨[.v false [.ow 9 true p]], []⟩
def sp105 : List Arg -> Option (Bool × Res)
 | [.v false [.sh 9 a0]] => some (U105.c a0, k105 (U105.v a0))
 | _ => none
theorem ok105 : FnOk Tryz.prog T 105 sp105 := by
 refine fn_flat (E := E105) hE call_nil hM Tryz.func105 (code := Tryz.f105.body.getD .skip) (by kernel_rfl) (by kernel_rfl) (by kernel_rfl) fun args r h => ?_
 unfold sp105 at h
 split at h
 ·obtain ⟨h1, rfl⟩ := sj h
  rename_i a0
  exact ⟨by kernel_rfl, fun hf => ⟨od (by kernel_rfl), Eq.trans (by kernel_rfl) (U105.b_eq (R := Res) (fun r0 => some (k105 r0)) a0 h1)⟩⟩
 ·cases h

def E132 : Env := mkE T md [] [] [] []
def k132 (p : Row) : Res := ⟨[.v false [.ow 3 true p]], []⟩
def sp132 : List Arg -> Option (Bool × Res)
 | [.v false [.sh 3 a0]] => some (U132.c a0, k132 (U132.v a0))
 | _ => none
theorem ok132 : FnOk Tryz.prog T 132 sp132 := by
 refine fn_flat (E := E132) hE call_nil hM Tryz.func132 (code := Tryz.f132.body.getD .skip) (by kernel_rfl) (by kernel_rfl) (by kernel_rfl) fun args r h => ?_
 unfold sp132 at h
 split at h
 ·obtain ⟨h1, rfl⟩ := sj h
  rename_i a0
  exact ⟨by kernel_rfl, fun hf => ⟨od (by kernel_rfl), Eq.trans (by kernel_rfl) (U132.b_eq (R := Res) (fun r0 => some (k132 r0)) a0 h1)⟩⟩
 ·cases h

def E106 : Env := mkE T md [(132, sp132)] [(3, [2, 3, 10, 11, 12])] [] []
def k106 (p : Row × Int) : Res := ⟨[.v true [.ow 144 true p.1, .i .i64 p.2]], []⟩
def T106_3 (p0 : Row) (p1 p2 p3 p4 : Int) : List (Nat × Cel) := [(4, .v (.v false [.bp 0 0])), (6, .v (.v false [.bp 1 0])), (20, .v (.v false [.sh 144 p0])), (22, .v (.v false [.i .i64 p1])), (24, .v (.v false [.i .i64 p2])), (1, .o (.box [.nl, .i .i64 p3])), (3, .o (.box [.nl, .i .i64 p4]))]
def G106_3 {R : Type} (g : St -> Option R) (p0 : Row) (p1 p2 p3 p4 : Int) : Option R := g (tabl (T106_3 p0 p1 p2 p3 p4))
def T106_3a (p0 : Row) (p1 p2 p3 p4 : Int) (p5 : Row) : List (Nat × Cel) := [(4, .v (.v false [.bp 0 0])), (6, .v (.v false [.bp 1 0])), (20, .v (.v false [.sh 144 p0])), (22, .v (.v false [.i .i64 p1])), (24, .v (.v false [.i .i64 p2])), (1, .o (.box [.nl, .i .i64 p3])), (3, .o (.box [.own 2, .i .i64 p4])), (5, .o (.row 144 true p5))]
def G106_3a {R : Type} (g : St -> Option R) (p0 : Row) (p1 p2 p3 p4 : Int) (p5 : Row) : Option R := g (tabl (T106_3a p0 p1 p2 p3 p4 p5))
def K106_3_0 {R : Type} (K : Ex -> St -> Option R) (p0 : Row) (p1 p2 p3 p4 : Int) : Option R := K (.exit 0) (tabl (T106_3 p0 p1 p2 p3 p4))
def K106_3_1 {R : Type} (K : Ex -> St -> Option R) (p0 : Row) (p1 p2 p3 p4 : Int) (p5 : Row) : Option R := K (.exit 0) (tabl (T106_3a p0 p1 p2 p3 p4 p5))
def it106 (N : Nat) {R : Type} : It R := fun rid f cn L K => bif Nat.beq rid 3 then tell (T106_3 [] 0 0 0 0) (fun | [.R x0, .I x1, .I x2, .I x3, .I x4] => U106.l3 N (K106_3_0 K) (K106_3_1 K) N x0 x1 x2 x3 x4 | _ => none) L (tell (T106_3a [] 0 0 0 0 []) (fun | [.R x5, .I x6, .I x7, .I x8, .I x9, .R x10] => U106.l3a N (K106_3_0 K) (K106_3_1 K) N x5 x6 x7 x8 x9 x10 | _ => none) L none) else none
theorem e106_3 {R : Type} (N : Nat) (K : Ex -> St -> Option R) : ∀ n : Nat, G106_3 (fun s => iter (exc E106 (it106 N) (loopOf Tryz.f106 3)) (canon (E106.keep 3)) n s K) = U106.l3 N (K106_3_0 K) (K106_3_1 K) n /\ G106_3a (fun s => iter (exc E106 (it106 N) (loopOf Tryz.f106 3)) (canon (E106.keep 3)) n s K) = U106.l3a N (K106_3_0 K) (K106_3_1 K) n := by
 intro n
 induction n with
 | zero => exact ⟨rfl, rfl⟩
 | succ n ih =>
  obtain ⟨i0, i1⟩ := ih
  refine ⟨?_, ?_⟩
  ·funext x0 x1 x2 x3 x4
   have h : ∀ g, exc E106 (it106 N) (loopOf Tryz.f106 3) (tabl (T106_3 x0 x1 x2 x3 x4)) (iterK g (canon (E106.keep 3)) K) = U106.r3 N (G106_3 g) (G106_3a g) (K106_3_0 K) (K106_3_1 K) x0 x1 x2 x3 x4 := by intro g; kernel_rfl
   show iter _ _ (n + 1) _ K = _
   refine (iter_succ _ _ n _ K).trans ((h _).trans ?_)
   rw [i0, i1]; rfl
  ·funext x5 x6 x7 x8 x9 x10
   have h : ∀ g, exc E106 (it106 N) (loopOf Tryz.f106 3) (tabl (T106_3a x5 x6 x7 x8 x9 x10)) (iterK g (canon (E106.keep 3)) K) = U106.r3a N (G106_3 g) (G106_3a g) (K106_3_0 K) (K106_3_1 K) x5 x6 x7 x8 x9 x10 := by intro g; kernel_rfl
   show iter _ _ (n + 1) _ K = _
   refine (iter_succ _ _ n _ K).trans ((h _).trans ?_)
   rw [i0, i1]; rfl
theorem lo106_3 {R : Type} (N : Nat) : LoopOk E106 (it106 N (R := R)) (loopOf Tryz.f106 3) := by
 have e : firstRid (loopOf Tryz.f106 3) = 3 := by kernel_rfl
 intro L K r
 rw [e]
 intro h
 unfold it106 at h
 simp only [show Nat.beq 3 3 = true from rfl, cond_false, cond_true] at h
 refine tell_ok (Q := fun L => ∃ n, iter (exc E106 (it106 N) (loopOf Tryz.f106 3)) (canon (E106.keep 3)) n (tabl L) K = some r) h (fun xs h => ?_) fun h => ?_
 ·(try dsimp only at h)
  split at h
  ·rw [<- (e106_3 N K N).1] at h; exact ⟨N, h⟩
  ·cases h
 refine tell_ok (Q := fun L => ∃ n, iter (exc E106 (it106 N) (loopOf Tryz.f106 3)) (canon (E106.keep 3)) n (tabl L) K = some r) h (fun xs h => ?_) fun h => ?_
 ·(try dsimp only at h)
  split at h
  ·rw [<- (e106_3 N K N).2] at h; exact ⟨N, h⟩
  ·cases h
 cases h
def sp106 : List Arg -> Option (Bool × Res)
 | [.v true [.sh 144 a0, .i .i64 a1]] => some (U106.c a0 a1, k106 (U106.v a0 a1))
 | _ => none
theorem ok106 : FnOk Tryz.prog T 106 sp106 := by
 refine fn_loop (E := E106) hE (call_cons ok132 call_nil) hM Tryz.func106 (code := Tryz.f106.body.getD .skip) (by kernel_rfl) (by kernel_rfl) (itf := fun N => it106 N) (l := [loopOf Tryz.f106 3]) (by kernel_rfl) (fun N => loops_cons (lo106_3 N) loops_nil) fun args r h => ?_
 unfold sp106 at h
 split at h
 ·obtain ⟨h1, rfl⟩ := sj h
  rename_i a0 a1
  exact ⟨by kernel_rfl, fun hf => ⟨od (by kernel_rfl), (U106.b_eq (R := Res) (fun r0 r1 => some (k106 (r0, r1))) a0 a1 h1).imp fun N hN => Eq.trans (by kernel_rfl) hN⟩⟩
 ·cases h

def E73 : Env := mkE T md [(105, sp105), (106, sp106)] [] [] []
def k73 (p : Row × Row × Row × Int) : Res := ⟨[.v true [.ow 9 true p.1, .ow 9 true p.2.1, .ow 144 true p.2.2.1, .i .i64 p.2.2.2]], []⟩
def sp73 : List Arg -> Option (Bool × Res)
 | [.v true [.sh 9 a0, .sh 9 a1, .sh 144 a2, .i .i64 a3]] => some (U73.c a0 a1 a2 a3, k73 (U73.v a0 a1 a2 a3))
 | _ => none
theorem ok73 : FnOk Tryz.prog T 73 sp73 := by
 refine fn_flat (E := E73) hE (call_cons ok105 (call_cons ok106 call_nil)) hM Tryz.func73 (code := Tryz.f73.body.getD .skip) (by kernel_rfl) (by kernel_rfl) (by kernel_rfl) fun args r h => ?_
 unfold sp73 at h
 split at h
 ·obtain ⟨h1, rfl⟩ := sj h
  rename_i a0 a1 a2 a3
  exact ⟨by kernel_rfl, fun hf => ⟨od (by kernel_rfl), Eq.trans (by kernel_rfl) (U73.b_eq (R := Res) (fun r0 r1 r2 r3 => some (k73 (r0, r1, r2, r3))) a0 a1 a2 a3 h1)⟩⟩
 ·cases h

def E33 : Env := mkE T md [(72, sp72), (73, sp73)] [] [] []
def k33 (p : Int × Row × Row × Row × Row × Int × Row × Row × Int) : Res := ⟨[.v true [.i .i64 p.1, .ow 88 true p.2.1, .ow 9 true p.2.2.1, .ow 9 true p.2.2.2.1, .ow 144 true p.2.2.2.2.1, .i .i64 p.2.2.2.2.2.1, .ow 64 true p.2.2.2.2.2.2.1, .ow 106 true p.2.2.2.2.2.2.2.1, .i .i64 p.2.2.2.2.2.2.2.2]], []⟩
def sp33 : List Arg -> Option (Bool × Res)
 | [.v true [.i .i64 a0, .sh 88 a1, .sh 9 a2, .sh 9 a3, .sh 144 a4, .i .i64 a5, .sh 64 a6, .sh 106 a7, .i .i64 a8]] => some (U33.c a0 a1 a2 a3 a4 a5 a6 a7 a8, k33 (U33.v a0 a1 a2 a3 a4 a5 a6 a7 a8))
 | _ => none
theorem ok33 : FnOk Tryz.prog T 33 sp33 := by
 refine fn_flat (E := E33) hE (call_cons ok72 (call_cons ok73 call_nil)) hM Tryz.func33 (code := Tryz.f33.body.getD .skip) (by kernel_rfl) (by kernel_rfl) (by kernel_rfl) fun args r h => ?_
 unfold sp33 at h
 split at h
 ·obtain ⟨h1, rfl⟩ := sj h
  rename_i a0 a1 a2 a3 a4 a5 a6 a7 a8
  exact ⟨by kernel_rfl, fun hf => ⟨od (by kernel_rfl), Eq.trans (by kernel_rfl) (U33.b_eq (R := Res) (fun r0 r1 r2 r3 r4 r5 r6 r7 r8 => some (k33 (r0, r1, r2, r3, r4, r5, r6, r7, r8))) a0 a1 a2 a3 a4 a5 a6 a7 a8 h1)⟩⟩
 ·cases h

def E61 : Env := mkE T md [] [] [] []
def k61 (p : Bool) : Res := ⟨[.v false [.b p]], []⟩
def sp61 : List Arg -> Option (Bool × Res)
 | [.v false [.i .i64 a0], .v false [.i .i64 a1], .v false [.i .i64 a2]] => some (true, k61 (U61.v a0 a1 a2))
 | _ => none
theorem ok61 : FnOk Tryz.prog T 61 sp61 := by
 refine fn_flat (E := E61) hE call_nil hM Tryz.func61 (code := Tryz.f61.body.getD .skip) (by kernel_rfl) (by kernel_rfl) (by kernel_rfl) fun args r h => ?_
 unfold sp61 at h
 split at h
 ·obtain ⟨h1, rfl⟩ := sj h
  rename_i a0 a1 a2
  exact ⟨by kernel_rfl, fun hf => ⟨od (by kernel_rfl), Eq.trans (by kernel_rfl) (U61.b_eq (R := Res) (fun r0 => some (k61 r0)) a0 a1 a2)⟩⟩
 ·cases h

def E120 : Env := mkE T md [(61, sp61)] [] [] []
def k120 (p : Bool) : Res := ⟨[.v false [.b p]], []⟩
def sp120 : List Arg -> Option (Bool × Res)
 | [.v false [.s a0]] => some (true, k120 (U120.v a0))
 | _ => none
theorem ok120 : FnOk Tryz.prog T 120 sp120 := by
 refine fn_flat (E := E120) hE (call_cons ok61 call_nil) hM Tryz.func120 (code := Tryz.f120.body.getD .skip) (by kernel_rfl) (by kernel_rfl) (by kernel_rfl) fun args r h => ?_
 unfold sp120 at h
 split at h
 ·obtain ⟨h1, rfl⟩ := sj h
  rename_i a0
  exact ⟨by kernel_rfl, fun hf => ⟨od (by kernel_rfl), Eq.trans (by kernel_rfl) (U120.b_eq (R := Res) (fun r0 => some (k120 r0)) a0)⟩⟩
 ·cases h

def E95 : Env := mkE T md [(61, sp61)] [] [] []
def k95 (p : Bool) : Res := ⟨[.v false [.b p]], []⟩
def sp95 : List Arg -> Option (Bool × Res)
 | [.v false [.i .i64 a0]] => some (true, k95 (U95.v a0))
 | _ => none
theorem ok95 : FnOk Tryz.prog T 95 sp95 := by
 refine fn_flat (E := E95) hE (call_cons ok61 call_nil) hM Tryz.func95 (code := Tryz.f95.body.getD .skip) (by kernel_rfl) (by kernel_rfl) (by kernel_rfl) fun args r h => ?_
 unfold sp95 at h
 split at h
 ·obtain ⟨h1, rfl⟩ := sj h
  rename_i a0
  exact ⟨by kernel_rfl, fun hf => ⟨od (by kernel_rfl), Eq.trans (by kernel_rfl) (U95.b_eq (R := Res) (fun r0 => some (k95 r0)) a0)⟩⟩
 ·cases h

def E94 : Env := mkE T md [(120, sp120), (95, sp95), (61, sp61)] [] [] []
def k94 (p : Bool) : Res := ⟨[.v false [.b p]], []⟩
def sp94 : List Arg -> Option (Bool × Res)
 | [.v true [.s a0, .i .i64 a1, .i .i64 a2, .s a3]] => some (true, k94 (U94.v a0 a1 a2 a3))
 | _ => none
theorem ok94 : FnOk Tryz.prog T 94 sp94 := by
 refine fn_flat (E := E94) hE (call_cons ok120 (call_cons ok95 (call_cons ok61 call_nil))) hM Tryz.func94 (code := Tryz.f94.body.getD .skip) (by kernel_rfl) (by kernel_rfl) (by kernel_rfl) fun args r h => ?_
 unfold sp94 at h
 split at h
 ·obtain ⟨h1, rfl⟩ := sj h
  rename_i a0 a1 a2 a3
  exact ⟨by kernel_rfl, fun hf => ⟨od (by kernel_rfl), Eq.trans (by kernel_rfl) (U94.b_eq (R := Res) (fun r0 => some (k94 r0)) a0 a1 a2 a3)⟩⟩
 ·cases h

def E152 : Env := mkE T md [] [] [] []
def k152 (p : Row) : Res := ⟨[.v false [.ow 9 true p]], []⟩
def sp152 : List Arg -> Option (Bool × Res)
 | [.v false [.nl], .v false [.i .i64 a0]] => some (U152.c a0, k152 (U152.v a0))
 | _ => none
theorem ok152 : FnOk Tryz.prog T 152 sp152 := by
 refine fn_flat (E := E152) hE call_nil hM Tryz.func152 (code := Tryz.f152.body.getD .skip) (by kernel_rfl) (by kernel_rfl) (by kernel_rfl) fun args r h => ?_
 unfold sp152 at h
 split at h
 ·obtain ⟨h1, rfl⟩ := sj h
  rename_i a0
  exact ⟨by kernel_rfl, fun hf => ⟨od (by kernel_rfl), Eq.trans (by kernel_rfl) (U152.b_eq (R := Res) (fun r0 => some (k152 r0)) a0 h1)⟩⟩
 ·cases h

def E145 : Env := mkE T md [(152, sp152)] [(3, [0, 3, 9, 10, 11]), (11, [6, 25, 26, 27])] [] []
def k145 (p : Row) : Res := ⟨[.v false [.ow 9 true p]], []⟩
def T145_3 (p0 : Row) (p1 : Int) (p2 : Row) (p3 p4 : Int) : List (Nat × Cel) := [(0, .v (.v false [.sh 23 p0])), (6, .v (.v false [.i .i64 p1])), (18, .v (.v false [.sh 23 p2])), (20, .v (.v false [.i .i64 p3])), (22, .v (.v false [.i .i64 p4]))]
def G145_3 {R : Type} (g : St -> Option R) (p0 : Row) (p1 : Int) (p2 : Row) (p3 p4 : Int) : Option R := g (tabl (T145_3 p0 p1 p2 p3 p4))
def K145_3_0 {R : Type} (K : Ex -> St -> Option R) (p0 : Row) (p1 : Int) (p2 : Row) (p3 p4 : Int) : Option R := K (.exit 0) (tabl (T145_3 p0 p1 p2 p3 p4))
def T145_11 (p0 : Row) (p1 p2 : Int) (p3 : Row) : List (Nat × Cel) := [(12, .v (.v false [.own 0])), (50, .v (.v false [.sh 23 p0])), (52, .v (.v false [.i .i64 p1])), (54, .v (.v false [.i .i64 p2])), (1, .o (.row 9 true p3))]
def G145_11 {R : Type} (g : St -> Option R) (p0 : Row) (p1 p2 : Int) (p3 : Row) : Option R := g (tabl (T145_11 p0 p1 p2 p3))
def K145_11_0 {R : Type} (K : Ex -> St -> Option R) (p0 : Row) (p1 p2 : Int) (p3 : Row) : Option R := K (.exit 2) (tabl (T145_11 p0 p1 p2 p3))
def it145 (N : Nat) {R : Type} : It R := fun rid f cn L K => bif Nat.beq rid 3 then tell (T145_3 [] 0 [] 0 0) (fun | [.R x0, .I x1, .R x2, .I x3, .I x4] => U145.l3 N (K145_3_0 K) N x0 x1 x2 x3 x4 | _ => none) L none else bif Nat.beq rid 11 then tell (T145_11 [] 0 0 []) (fun | [.R x10, .I x11, .I x12, .R x13] => U145.l11 N (K145_11_0 K) N x10 x11 x12 x13 | _ => none) L none else none
theorem e145_3 {R : Type} (N : Nat) (K : Ex -> St -> Option R) : ∀ n : Nat, G145_3 (fun s => iter (exc E145 (it145 N) (loopOf Tryz.f145 3)) (canon (E145.keep 3)) n s K) = U145.l3 N (K145_3_0 K) n := by
 intro n
 induction n with
 | zero => exact rfl
 | succ n ih =>
  funext x0 x1 x2 x3 x4
  have h : ∀ g, exc E145 (it145 N) (loopOf Tryz.f145 3) (tabl (T145_3 x0 x1 x2 x3 x4)) (iterK g (canon (E145.keep 3)) K) = U145.r3 N (G145_3 g) (K145_3_0 K) x0 x1 x2 x3 x4 := by intro g; kernel_rfl
  show iter _ _ (n + 1) _ K = _
  refine (iter_succ _ _ n _ K).trans ((h _).trans ?_)
  rw [ih]; rfl
theorem lo145_3 {R : Type} (N : Nat) : LoopOk E145 (it145 N (R := R)) (loopOf Tryz.f145 3) := by
 have e : firstRid (loopOf Tryz.f145 3) = 3 := by kernel_rfl
 intro L K r
 rw [e]
 intro h
 unfold it145 at h
 simp only [show Nat.beq 3 3 = true from rfl, cond_false, cond_true] at h
 refine tell_ok (Q := fun L => ∃ n, iter (exc E145 (it145 N) (loopOf Tryz.f145 3)) (canon (E145.keep 3)) n (tabl L) K = some r) h (fun xs h => ?_) fun h => ?_
 ·(try dsimp only at h)
  split at h
  ·rw [<- (e145_3 N K N)] at h; exact ⟨N, h⟩
  ·cases h
 cases h
theorem e145_11 {R : Type} (N : Nat) (K : Ex -> St -> Option R) : ∀ n : Nat, G145_11 (fun s => iter (exc E145 (it145 N) (loopOf Tryz.f145 11)) (canon (E145.keep 11)) n s K) = U145.l11 N (K145_11_0 K) n := by
 intro n
 induction n with
 | zero => exact rfl
 | succ n ih =>
  funext x10 x11 x12 x13
  have h : ∀ g, exc E145 (it145 N) (loopOf Tryz.f145 11) (tabl (T145_11 x10 x11 x12 x13)) (iterK g (canon (E145.keep 11)) K) = U145.r11 N (G145_11 g) (K145_11_0 K) x10 x11 x12 x13 := by intro g; kernel_rfl
  show iter _ _ (n + 1) _ K = _
  refine (iter_succ _ _ n _ K).trans ((h _).trans ?_)
  rw [ih]; rfl
theorem lo145_11 {R : Type} (N : Nat) : LoopOk E145 (it145 N (R := R)) (loopOf Tryz.f145 11) := by
 have e : firstRid (loopOf Tryz.f145 11) = 11 := by kernel_rfl
 intro L K r
 rw [e]
 intro h
 unfold it145 at h
 simp only [show Nat.beq 11 3 = false from rfl, show Nat.beq 11 11 = true from rfl, cond_false, cond_true] at h
 refine tell_ok (Q := fun L => ∃ n, iter (exc E145 (it145 N) (loopOf Tryz.f145 11)) (canon (E145.keep 11)) n (tabl L) K = some r) h (fun xs h => ?_) fun h => ?_
 ·(try dsimp only at h)
  split at h
  ·rw [<- (e145_11 N K N)] at h; exact ⟨N, h⟩
  ·cases h
 cases h
def sp145 : List Arg -> Option (Bool × Res)
 | [.v false [.sh 23 a0]] => some (U145.c a0, k145 (U145.v a0))
 | _ => none
theorem ok145 : FnOk Tryz.prog T 145 sp145 := by
 refine fn_loop (E := E145) hE (call_cons ok152 call_nil) hM Tryz.func145 (code := Tryz.f145.body.getD .skip) (by kernel_rfl) (by kernel_rfl) (itf := fun N => it145 N) (l := [loopOf Tryz.f145 3, loopOf Tryz.f145 11]) (by kernel_rfl) (fun N => loops_cons (lo145_3 N) (loops_cons (lo145_11 N) loops_nil)) fun args r h => ?_
 unfold sp145 at h
 split at h
 ·obtain ⟨h1, rfl⟩ := sj h
  rename_i a0
  exact ⟨by kernel_rfl, fun hf => ⟨od (by kernel_rfl), (U145.b_eq (R := Res) (fun r0 => some (k145 r0)) a0 h1).imp fun N hN => Eq.trans (by kernel_rfl) hN⟩⟩
 ·cases h

def E128 : Env := mkE T md [(145, sp145)] [] [] []
def k128 (p : Row) : Res := ⟨[.v false [.ow 9 true p]], []⟩
def sp128 : List Arg -> Option (Bool × Res)
 | [.v true [.sh 9 a0, .sh 9 a1, .sh 144 a2, .i .i64 a3]] => some (U128.c a0 a1 a2 a3, k128 (U128.v a0 a1 a2 a3))
 | _ => none
theorem ok128 : FnOk Tryz.prog T 128 sp128 := by
 refine fn_flat (E := E128) hE (call_cons ok145 call_nil) hM Tryz.func128 (code := Tryz.f128.body.getD .skip) (by kernel_rfl) (by kernel_rfl) (by kernel_rfl) fun args r h => ?_
 unfold sp128 at h
 split at h
 ·obtain ⟨h1, rfl⟩ := sj h
  rename_i a0 a1 a2 a3
  exact ⟨by kernel_rfl, fun hf => ⟨od (by kernel_rfl), Eq.trans (by kernel_rfl) (U128.b_eq (R := Res) (fun r0 => some (k128 r0)) a0 a1 a2 a3 h1)⟩⟩
 ·cases h

def E141 : Env := mkE T md [] [(2, [0, 1, 4, 7, 8])] [] []
def k141 (p : Int) : Res := ⟨[.v false [.i .i64 p]], []⟩
def T141_2 (p0 : Row) (p1 : ByteArray) (p2 p3 p4 : Int) : List (Nat × Cel) := [(0, .v (.v false [.sh 9 p0])), (2, .v (.v false [.s p1])), (8, .v (.v false [.i .i64 p2])), (14, .v (.v false [.i .i64 p3])), (16, .v (.v false [.i .i64 p4]))]
def G141_2 {R : Type} (g : St -> Option R) (p0 : Row) (p1 : ByteArray) (p2 p3 p4 : Int) : Option R := g (tabl (T141_2 p0 p1 p2 p3 p4))
def K141_2_0 {R : Type} (K : Ex -> St -> Option R) (p0 : Row) (p1 : ByteArray) (p2 p3 p4 : Int) : Option R := K .ret (tabl (T141_2 p0 p1 p2 p3 p4))
def K141_2_1 {R : Type} (K : Ex -> St -> Option R) (p0 : Row) (p1 : ByteArray) (p2 p3 p4 : Int) : Option R := K (.exit 0) (tabl (T141_2 p0 p1 p2 p3 p4))
def H141 {R : Type} (N : Nat) (K : Ex -> St -> Option R) : List Leaf -> Option R
 | [.R x0, .S x1, .I x2, .I x3, .I x4] => U141.l2 N (K141_2_0 K) (K141_2_1 K) N x0 x1 x2 x3 x4
 | _ => none
def it141 (N : Nat) {R : Type} : It R := fun rid f cn L K => bif Nat.beq rid 2 then tell (T141_2 [] ⟨#[]⟩ 0 0 0) (H141 N K) L none else none
theorem e141_2 {R : Type} (N : Nat) (K : Ex -> St -> Option R) : ∀ n : Nat, G141_2 (fun s => iter (exc E141 (it141 N) (loopOf Tryz.f141 2)) (canon (E141.keep 2)) n s K) = U141.l2 N (K141_2_0 K) (K141_2_1 K) n := by
 intro n
 induction n with
 | zero => exact rfl
 | succ n ih =>
  funext x0 x1 x2 x3 x4
  have h : ∀ g, exc E141 (it141 N) (loopOf Tryz.f141 2) (tabl (T141_2 x0 x1 x2 x3 x4)) (iterK g (canon (E141.keep 2)) K) = U141.r2 N (G141_2 g) (K141_2_0 K) (K141_2_1 K) x0 x1 x2 x3 x4 := by intro g; kernel_rfl
  show iter _ _ (n + 1) _ K = _
  refine (iter_succ _ _ n _ K).trans ((h _).trans ?_)
  rw [ih]; rfl
theorem lo141_2 {R : Type} (N : Nat) : LoopOk E141 (it141 N (R := R)) (loopOf Tryz.f141 2) := by
 refine lo_one 2 (by kernel_rfl) (S := T141_2 [] ⟨#[]⟩ 0 0 0) (H := H141 N) (fun _ _ => rfl) fun K xs r h => ?_
 unfold H141 at h
 split at h
 ·rw [<- e141_2 N K N] at h; exact ⟨N, h⟩
 ·cases h
def sp141 : List Arg -> Option (Bool × Res)
 | [.v false [.sh 9 a0], .v false [.s a1]] => some (U141.c a0 a1, k141 (U141.v a0 a1))
 | _ => none
theorem ok141 : FnOk Tryz.prog T 141 sp141 := by
 refine fn_loop (E := E141) hE call_nil hM Tryz.func141 (code := Tryz.f141.body.getD .skip) (by kernel_rfl) (by kernel_rfl) (itf := fun N => it141 N) (l := [loopOf Tryz.f141 2]) (by kernel_rfl) (fun N => loops_cons (lo141_2 N) loops_nil) fun args r h => ?_
 unfold sp141 at h
 split at h
 ·obtain ⟨h1, rfl⟩ := sj h
  rename_i a0 a1
  exact ⟨by kernel_rfl, fun hf => ⟨od (by kernel_rfl), (U141.b_eq (R := Res) (fun r0 => some (k141 r0)) a0 a1 h1).imp fun N hN => Eq.trans (by kernel_rfl) hN⟩⟩
 ·cases h

def E123 : Env := mkE T md [(141, sp141)] [] [] []
def k123 (p : Bool) : Res := ⟨[.v false [.b p]], []⟩
def sp123 : List Arg -> Option (Bool × Res)
 | [.v false [.sh 9 a0], .v false [.s a1]] => some (U123.c a0 a1, k123 (U123.v a0 a1))
 | _ => none
theorem ok123 : FnOk Tryz.prog T 123 sp123 := by
 refine fn_flat (E := E123) hE (call_cons ok141 call_nil) hM Tryz.func123 (code := Tryz.f123.body.getD .skip) (by kernel_rfl) (by kernel_rfl) (by kernel_rfl) fun args r h => ?_
 unfold sp123 at h
 split at h
 ·obtain ⟨h1, rfl⟩ := sj h
  rename_i a0 a1
  exact ⟨by kernel_rfl, fun hf => ⟨od (by kernel_rfl), Eq.trans (by kernel_rfl) (U123.b_eq (R := Res) (fun r0 => some (k123 r0)) a0 a1 h1)⟩⟩
 ·cases h

def E98 : Env := mkE T md [(128, sp128), (123, sp123)] [] [] []
def k98 (p : Bool) : Res := ⟨[.v false [.b p]], []⟩
def sp98 : List Arg -> Option (Bool × Res)
 | [.v true [.sh 9 a0, .sh 9 a1, .sh 144 a2, .i .i64 a3], .v false [.s a4]] => some (U98.c a0 a1 a2 a3 a4, k98 (U98.v a0 a1 a2 a3 a4))
 | _ => none
theorem ok98 : FnOk Tryz.prog T 98 sp98 := by
 refine fn_flat (E := E98) hE (call_cons ok128 (call_cons ok123 call_nil)) hM Tryz.func98 (code := Tryz.f98.body.getD .skip) (by kernel_rfl) (by kernel_rfl) (by kernel_rfl) fun args r h => ?_
 unfold sp98 at h
 split at h
 ·obtain ⟨h1, rfl⟩ := sj h
  rename_i a0 a1 a2 a3 a4
  exact ⟨by kernel_rfl, fun hf => ⟨od (by kernel_rfl), Eq.trans (by kernel_rfl) (U98.b_eq (R := Res) (fun r0 => some (k98 r0)) a0 a1 a2 a3 a4 h1)⟩⟩
 ·cases h

def E139 : Env := mkE T md [(61, sp61)] [(2, [1, 2, 8, 9, 10]), (5, [1, 2, 4, 8, 9, 10, 14, 15, 16])] [] []
def k139 (p : Bool) : Res := ⟨[.v false [.b p]], []⟩
def T139_2 (p0 : Bool) (p1 : Row) (p2 p3 : Int) (p4 : Row) (p5 : Int) : List (Nat × Cel) := [(2, .v (.v false [.bp 0 0])), (4, .v (.v false [.b p0])), (16, .v (.v false [.sh 144 p1])), (18, .v (.v false [.i .i64 p2])), (20, .v (.v false [.i .i64 p3])), (1, .o (.box [.sh 144 p4, .i .i64 p5]))]
def G139_2 {R : Type} (g : St -> Option R) (p0 : Bool) (p1 : Row) (p2 p3 : Int) (p4 : Row) (p5 : Int) : Option R := g (tabl (T139_2 p0 p1 p2 p3 p4 p5))
def K139_2_0 {R : Type} (K : Ex -> St -> Option R) (p0 : Bool) (p1 : Row) (p2 p3 : Int) (p4 : Row) (p5 : Int) : Option R := K .ret (tabl (T139_2 p0 p1 p2 p3 p4 p5))
def K139_2_1 {R : Type} (K : Ex -> St -> Option R) (p0 : Bool) (p1 : Row) (p2 p3 : Int) (p4 : Row) (p5 : Int) : Option R := K (.exit 0) (tabl (T139_2 p0 p1 p2 p3 p4 p5))
def T139_5 (p0 : Bool) (p1 p2 : Row) (p3 p4 : Int) (p5 : Row) (p6 p7 : Int) (p8 : Row) (p9 : Int) : List (Nat × Cel) := [(2, .v (.v false [.bp 0 0])), (4, .v (.v false [.b p0])), (8, .v (.v false [.sh 3 p1])), (16, .v (.v false [.sh 144 p2])), (18, .v (.v false [.i .i64 p3])), (20, .v (.v false [.i .i64 p4])), (28, .v (.v false [.sh 3 p5])), (30, .v (.v false [.i .i64 p6])), (32, .v (.v false [.i .i64 p7])), (1, .o (.box [.sh 144 p8, .i .i64 p9]))]
def G139_5 {R : Type} (g : St -> Option R) (p0 : Bool) (p1 p2 : Row) (p3 p4 : Int) (p5 : Row) (p6 p7 : Int) (p8 : Row) (p9 : Int) : Option R := g (tabl (T139_5 p0 p1 p2 p3 p4 p5 p6 p7 p8 p9))
def K139_5_0 {R : Type} (K : Ex -> St -> Option R) (p0 : Bool) (p1 p2 : Row) (p3 p4 : Int) (p5 : Row) (p6 p7 : Int) (p8 : Row) (p9 : Int) : Option R := K .ret (tabl (T139_5 p0 p1 p2 p3 p4 p5 p6 p7 p8 p9))
def K139_5_1 {R : Type} (K : Ex -> St -> Option R) (p0 : Bool) (p1 p2 : Row) (p3 p4 : Int) (p5 : Row) (p6 p7 : Int) (p8 : Row) (p9 : Int) : Option R := K (.exit 2) (tabl (T139_5 p0 p1 p2 p3 p4 p5 p6 p7 p8 p9))
def it139 (N : Nat) {R : Type} : It R := fun rid f cn L K => bif Nat.beq rid 2 then tell (T139_2 false [] 0 0 [] 0) (fun | [.B x0, .R x1, .I x2, .I x3, .R x4, .I x5] => U139.l2 N (K139_2_0 K) (K139_2_1 K) N x0 x1 x2 x3 x4 x5 | _ => none) L none else bif Nat.beq rid 5 then tell (T139_5 false [] [] 0 0 [] 0 0 [] 0) (fun | [.B x6, .R x7, .R x8, .I x9, .I x10, .R x11, .I x12, .I x13, .R x14, .I x15] => U139.l5 N (K139_5_0 K) (K139_5_1 K) N x6 x7 x8 x9 x10 x11 x12 x13 x14 x15 | _ => none) L none else none
theorem e139_2 {R : Type} (N : Nat) (K : Ex -> St -> Option R) : ∀ n : Nat, G139_2 (fun s => iter (exc E139 (it139 N) (loopOf Tryz.f139 2)) (canon (E139.keep 2)) n s K) = U139.l2 N (K139_2_0 K) (K139_2_1 K) n := by
 intro n
 induction n with
 | zero => exact rfl
 | succ n ih =>
  funext x0 x1 x2 x3 x4 x5
  have h : ∀ g, exc E139 (it139 N) (loopOf Tryz.f139 2) (tabl (T139_2 x0 x1 x2 x3 x4 x5)) (iterK g (canon (E139.keep 2)) K) = U139.r2 N (G139_2 g) (K139_2_0 K) (K139_2_1 K) x0 x1 x2 x3 x4 x5 := by intro g; kernel_rfl
  show iter _ _ (n + 1) _ K = _
  refine (iter_succ _ _ n _ K).trans ((h _).trans ?_)
  rw [ih]; rfl
theorem lo139_2 {R : Type} (N : Nat) : LoopOk E139 (it139 N (R := R)) (loopOf Tryz.f139 2) := by
 have e : firstRid (loopOf Tryz.f139 2) = 2 := by kernel_rfl
 intro L K r
 rw [e]
 intro h
 unfold it139 at h
 simp only [show Nat.beq 2 2 = true from rfl, cond_false, cond_true] at h
 refine tell_ok (Q := fun L => ∃ n, iter (exc E139 (it139 N) (loopOf Tryz.f139 2)) (canon (E139.keep 2)) n (tabl L) K = some r) h (fun xs h => ?_) fun h => ?_
 ·(try dsimp only at h)
  split at h
  ·rw [<- (e139_2 N K N)] at h; exact ⟨N, h⟩
  ·cases h
 cases h
theorem e139_5 {R : Type} (N : Nat) (K : Ex -> St -> Option R) : ∀ n : Nat, G139_5 (fun s => iter (exc E139 (it139 N) (loopOf Tryz.f139 5)) (canon (E139.keep 5)) n s K) = U139.l5 N (K139_5_0 K) (K139_5_1 K) n := by
 intro n
 induction n with
 | zero => exact rfl
 | succ n ih =>
  funext x6 x7 x8 x9 x10 x11 x12 x13 x14 x15
  have h : ∀ g, exc E139 (it139 N) (loopOf Tryz.f139 5) (tabl (T139_5 x6 x7 x8 x9 x10 x11 x12 x13 x14 x15)) (iterK g (canon (E139.keep 5)) K) = U139.r5 N (G139_5 g) (K139_5_0 K) (K139_5_1 K) x6 x7 x8 x9 x10 x11 x12 x13 x14 x15 := by intro g; kernel_rfl
  show iter _ _ (n + 1) _ K = _
  refine (iter_succ _ _ n _ K).trans ((h _).trans ?_)
  rw [ih]; rfl
theorem lo139_5 {R : Type} (N : Nat) : LoopOk E139 (it139 N (R := R)) (loopOf Tryz.f139 5) := by
 have e : firstRid (loopOf Tryz.f139 5) = 5 := by kernel_rfl
 intro L K r
 rw [e]
 intro h
 unfold it139 at h
 simp only [show Nat.beq 5 2 = false from rfl, show Nat.beq 5 5 = true from rfl, cond_false, cond_true] at h
 refine tell_ok (Q := fun L => ∃ n, iter (exc E139 (it139 N) (loopOf Tryz.f139 5)) (canon (E139.keep 5)) n (tabl L) K = some r) h (fun xs h => ?_) fun h => ?_
 ·(try dsimp only at h)
  split at h
  ·rw [<- (e139_5 N K N)] at h; exact ⟨N, h⟩
  ·cases h
 cases h
def sp139 : List Arg -> Option (Bool × Res)
 | [.v true [.sh 144 a0, .i .i64 a1]] => some (U139.c a0 a1, k139 (U139.v a0 a1))
 | _ => none
theorem ok139 : FnOk Tryz.prog T 139 sp139 := by
 refine fn_loop (E := E139) hE (call_cons ok61 call_nil) hM Tryz.func139 (code := Tryz.f139.body.getD .skip) (by kernel_rfl) (by kernel_rfl) (itf := fun N => it139 N) (l := [loopOf Tryz.f139 2, loopOf Tryz.f139 5]) (by kernel_rfl) (fun N => loops_cons (lo139_2 N) (loops_cons (lo139_5 N) loops_nil)) fun args r h => ?_
 unfold sp139 at h
 split at h
 ·obtain ⟨h1, rfl⟩ := sj h
  rename_i a0 a1
  exact ⟨by kernel_rfl, fun hf => ⟨od (by kernel_rfl), (U139.b_eq (R := Res) (fun r0 => some (k139 r0)) a0 a1 h1).imp fun N hN => Eq.trans (by kernel_rfl) hN⟩⟩
 ·cases h

def E121 : Env := mkE T md [(128, sp128), (120, sp120), (123, sp123), (139, sp139)] [(3, [1, 2, 3, 8, 9, 10])] [] []
def k121 (p : Bool) : Res := ⟨[.v false [.b p]], []⟩
def T121_3 (p0 : Bool) (p1 p2 : Int) (p3 p4 p5 : Row) (p6 : Int) (p7 : Row) : List (Nat × Cel) := [(2, .v (.v false [.bp 0 0])), (4, .v (.v false [.b p0])), (6, .v (.v false [.own 1])), (16, .v (.v false [.own 1])), (18, .v (.v false [.i .i64 p1])), (20, .v (.v false [.i .i64 p2])), (1, .o (.box [.sh 9 p3, .sh 9 p4, .sh 144 p5, .i .i64 p6])), (3, .o (.row 9 true p7))]
def G121_3 {R : Type} (g : St -> Option R) (p0 : Bool) (p1 p2 : Int) (p3 p4 p5 : Row) (p6 : Int) (p7 : Row) : Option R := g (tabl (T121_3 p0 p1 p2 p3 p4 p5 p6 p7))
def K121_3_0 {R : Type} (K : Ex -> St -> Option R) (p0 : Bool) (p1 p2 : Int) (p3 p4 p5 : Row) (p6 : Int) (p7 : Row) : Option R := K .ret (tabl (T121_3 p0 p1 p2 p3 p4 p5 p6 p7))
def K121_3_1 {R : Type} (K : Ex -> St -> Option R) (p0 : Bool) (p1 p2 : Int) (p3 p4 p5 : Row) (p6 : Int) (p7 : Row) : Option R := K (.exit 0) (tabl (T121_3 p0 p1 p2 p3 p4 p5 p6 p7))
def H121 {R : Type} (N : Nat) (K : Ex -> St -> Option R) : List Leaf -> Option R
 | [.B x0, .I x1, .I x2, .R x3, .R x4, .R x5, .I x6, .R x7] => U121.l3 N (K121_3_0 K) (K121_3_1 K) N x0 x1 x2 x3 x4 x5 x6 x7
 | _ => none
def it121 (N : Nat) {R : Type} : It R := fun rid f cn L K => bif Nat.beq rid 3 then tell (T121_3 false 0 0 [] [] [] 0 []) (H121 N K) L none else none
theorem e121_3 {R : Type} (N : Nat) (K : Ex -> St -> Option R) : ∀ n : Nat, G121_3 (fun s => iter (exc E121 (it121 N) (loopOf Tryz.f121 3)) (canon (E121.keep 3)) n s K) = U121.l3 N (K121_3_0 K) (K121_3_1 K) n := by
 intro n
 induction n with
 | zero => exact rfl
 | succ n ih =>
  funext x0 x1 x2 x3 x4 x5 x6 x7
  have h : ∀ g, exc E121 (it121 N) (loopOf Tryz.f121 3) (tabl (T121_3 x0 x1 x2 x3 x4 x5 x6 x7)) (iterK g (canon (E121.keep 3)) K) = U121.r3 N (G121_3 g) (K121_3_0 K) (K121_3_1 K) x0 x1 x2 x3 x4 x5 x6 x7 := by intro g; kernel_rfl
  show iter _ _ (n + 1) _ K = _
  refine (iter_succ _ _ n _ K).trans ((h _).trans ?_)
  rw [ih]; rfl
theorem lo121_3 {R : Type} (N : Nat) : LoopOk E121 (it121 N (R := R)) (loopOf Tryz.f121 3) := by
 refine lo_one 3 (by kernel_rfl) (S := T121_3 false 0 0 [] [] [] 0 []) (H := H121 N) (fun _ _ => rfl) fun K xs r h => ?_
 unfold H121 at h
 split at h
 ·rw [<- e121_3 N K N] at h; exact ⟨N, h⟩
 ·cases h
def sp121 : List Arg -> Option (Bool × Res)
 | [.v true [.sh 9 a0, .sh 9 a1, .sh 144 a2, .i .i64 a3]] => some (U121.c a0 a1 a2 a3, k121 (U121.v a0 a1 a2 a3))
 | _ => none
theorem ok121 : FnOk Tryz.prog T 121 sp121 := by
 refine fn_loop (E := E121) hE (call_cons ok128 (call_cons ok120 (call_cons ok123 (call_cons ok139 call_nil)))) hM Tryz.func121 (code := Tryz.f121.body.getD .skip) (by kernel_rfl) (by kernel_rfl) (itf := fun N => it121 N) (l := [loopOf Tryz.f121 3]) (by kernel_rfl) (fun N => loops_cons (lo121_3 N) loops_nil) fun args r h => ?_
 unfold sp121 at h
 split at h
 ·obtain ⟨h1, rfl⟩ := sj h
  rename_i a0 a1 a2 a3
  exact ⟨by kernel_rfl, fun hf => ⟨od (by kernel_rfl), (U121.b_eq (R := Res) (fun r0 => some (k121 r0)) a0 a1 a2 a3 h1).imp fun N hN => Eq.trans (by kernel_rfl) hN⟩⟩
 ·cases h

def E107 : Env := mkE T md [(94, sp94), (98, sp98), (121, sp121), (128, sp128)] [(2, [1, 2, 6, 7, 8])] [] []
def k107 (p : Bool) : Res := ⟨[.v false [.b p]], []⟩
def T107_2 (p0 : Bool) (p1 : Row) (p2 p3 p4 : Int) (p5 p6 p7 p8 : Row) (p9 : Int) (p10 p11 : Row) (p12 : Int) : List (Nat × Cel) := [(2, .v (.v false [.bp 0 0])), (4, .v (.v false [.b p0])), (12, .v (.v false [.sh 88 p1])), (14, .v (.v false [.i .i64 p2])), (16, .v (.v false [.i .i64 p3])), (1, .o (.box [.i .i64 p4, .sh 88 p5, .sh 9 p6, .sh 9 p7, .sh 144 p8, .i .i64 p9, .sh 64 p10, .sh 106 p11, .i .i64 p12]))]
def G107_2 {R : Type} (g : St -> Option R) (p0 : Bool) (p1 : Row) (p2 p3 p4 : Int) (p5 p6 p7 p8 : Row) (p9 : Int) (p10 p11 : Row) (p12 : Int) : Option R := g (tabl (T107_2 p0 p1 p2 p3 p4 p5 p6 p7 p8 p9 p10 p11 p12))
def K107_2_0 {R : Type} (K : Ex -> St -> Option R) (p0 : Bool) (p1 : Row) (p2 p3 p4 : Int) (p5 p6 p7 p8 : Row) (p9 : Int) (p10 p11 : Row) (p12 : Int) : Option R := K .ret (tabl (T107_2 p0 p1 p2 p3 p4 p5 p6 p7 p8 p9 p10 p11 p12))
def K107_2_1 {R : Type} (K : Ex -> St -> Option R) (p0 : Bool) (p1 : Row) (p2 p3 p4 : Int) (p5 p6 p7 p8 : Row) (p9 : Int) (p10 p11 : Row) (p12 : Int) : Option R := K (.exit 0) (tabl (T107_2 p0 p1 p2 p3 p4 p5 p6 p7 p8 p9 p10 p11 p12))
def H107 {R : Type} (N : Nat) (K : Ex -> St -> Option R) : List Leaf -> Option R
 | [.B x0, .R x1, .I x2, .I x3, .I x4, .R x5, .R x6, .R x7, .R x8, .I x9, .R x10, .R x11, .I x12] => U107.l2 N (K107_2_0 K) (K107_2_1 K) N x0 x1 x2 x3 x4 x5 x6 x7 x8 x9 x10 x11 x12
 | _ => none
def it107 (N : Nat) {R : Type} : It R := fun rid f cn L K => bif Nat.beq rid 2 then tell (T107_2 false [] 0 0 0 [] [] [] [] 0 [] [] 0) (H107 N K) L none else none
theorem e107_2 {R : Type} (N : Nat) (K : Ex -> St -> Option R) : ∀ n : Nat, G107_2 (fun s => iter (exc E107 (it107 N) (loopOf Tryz.f107 2)) (canon (E107.keep 2)) n s K) = U107.l2 N (K107_2_0 K) (K107_2_1 K) n := by
 intro n
 induction n with
 | zero => exact rfl
 | succ n ih =>
  funext x0 x1 x2 x3 x4 x5 x6 x7 x8 x9 x10 x11 x12
  have h : ∀ g, exc E107 (it107 N) (loopOf Tryz.f107 2) (tabl (T107_2 x0 x1 x2 x3 x4 x5 x6 x7 x8 x9 x10 x11 x12)) (iterK g (canon (E107.keep 2)) K) = U107.r2 N (G107_2 g) (K107_2_0 K) (K107_2_1 K) x0 x1 x2 x3 x4 x5 x6 x7 x8 x9 x10 x11 x12 := by intro g; kernel_rfl
  show iter _ _ (n + 1) _ K = _
  refine (iter_succ _ _ n _ K).trans ((h _).trans ?_)
  rw [ih]; rfl
theorem lo107_2 {R : Type} (N : Nat) : LoopOk E107 (it107 N (R := R)) (loopOf Tryz.f107 2) := by
 refine lo_one 2 (by kernel_rfl) (S := T107_2 false [] 0 0 0 [] [] [] [] 0 [] [] 0) (H := H107 N) (fun _ _ => rfl) fun K xs r h => ?_
 unfold H107 at h
 split at h
 ·rw [<- e107_2 N K N] at h; exact ⟨N, h⟩
 ·cases h
def sp107 : List Arg -> Option (Bool × Res)
 | [.v true [.i .i64 a0, .sh 88 a1, .sh 9 a2, .sh 9 a3, .sh 144 a4, .i .i64 a5, .sh 64 a6, .sh 106 a7, .i .i64 a8]] => some (U107.c a0 a1 a2 a3 a4 a5 a6 a7 a8, k107 (U107.v a0 a1 a2 a3 a4 a5 a6 a7 a8))
 | _ => none
theorem ok107 : FnOk Tryz.prog T 107 sp107 := by
 refine fn_loop (E := E107) hE (call_cons ok94 (call_cons ok98 (call_cons ok121 (call_cons ok128 call_nil)))) hM Tryz.func107 (code := Tryz.f107.body.getD .skip) (by kernel_rfl) (by kernel_rfl) (itf := fun N => it107 N) (l := [loopOf Tryz.f107 2]) (by kernel_rfl) (fun N => loops_cons (lo107_2 N) loops_nil) fun args r h => ?_
 unfold sp107 at h
 split at h
 ·obtain ⟨h1, rfl⟩ := sj h
  rename_i a0 a1 a2 a3 a4 a5 a6 a7 a8
  exact ⟨by kernel_rfl, fun hf => ⟨od (by kernel_rfl), (U107.b_eq (R := Res) (fun r0 => some (k107 r0)) a0 a1 a2 a3 a4 a5 a6 a7 a8 h1).imp fun N hN => Eq.trans (by kernel_rfl) hN⟩⟩
 ·cases h

def E155 : Env := mkE T md [] [] [] []
def k155 (p : Bool) : Res := ⟨[.v false [.b p]], []⟩
def sp155 : List Arg -> Option (Bool × Res)
 | [.v true [.s a0, .s a1, .i .i64 a2, .i .i64 a3, .i .i64 a4], .fb [.s key1]] => some (true, k155 (U155.v a0 a1 a2 a3 a4 key1))
 | _ => none
theorem ok155 : FnOk Tryz.prog T 155 sp155 := by
 refine fn_flat (E := E155) hE call_nil hM Tryz.func155 (code := Tryz.f155.body.getD .skip) (by kernel_rfl) (by kernel_rfl) (by kernel_rfl) fun args r h => ?_
 unfold sp155 at h
 split at h
 ·obtain ⟨h1, rfl⟩ := sj h
  rename_i a0 a1 a2 a3 a4 key1
  exact ⟨by kernel_rfl, fun hf => ⟨od (by kernel_rfl), Eq.trans (by kernel_rfl) (U155.b_eq (R := Res) (fun r0 => some (k155 r0)) a0 a1 a2 a3 a4 key1)⟩⟩
 ·cases h

def E154 : Env := mkE T md [(155, sp155)] [(2, [0, 1, 4, 7, 8])] [] []
def k154 (p : Int) : Res := ⟨[.v false [.i .i64 p]], []⟩
def T154_2 (p0 : Row) (p1 : ByteArray) (p2 p3 p4 : Int) : List (Nat × Cel) := [(0, .v (.v false [.sh 64 p0])), (2, .v (.v false [.fn 155 [[.s p1]]])), (8, .v (.v false [.i .i64 p2])), (14, .v (.v false [.i .i64 p3])), (16, .v (.v false [.i .i64 p4]))]
def G154_2 {R : Type} (g : St -> Option R) (p0 : Row) (p1 : ByteArray) (p2 p3 p4 : Int) : Option R := g (tabl (T154_2 p0 p1 p2 p3 p4))
def K154_2_0 {R : Type} (K : Ex -> St -> Option R) (p0 : Row) (p1 : ByteArray) (p2 p3 p4 : Int) : Option R := K .ret (tabl (T154_2 p0 p1 p2 p3 p4))
def K154_2_1 {R : Type} (K : Ex -> St -> Option R) (p0 : Row) (p1 : ByteArray) (p2 p3 p4 : Int) : Option R := K (.exit 0) (tabl (T154_2 p0 p1 p2 p3 p4))
def H154 {R : Type} (N : Nat) (K : Ex -> St -> Option R) : List Leaf -> Option R
 | [.R x0, .S x1, .I x2, .I x3, .I x4] => U154.l2 N (K154_2_0 K) (K154_2_1 K) N x0 x1 x2 x3 x4
 | _ => none
def it154 (N : Nat) {R : Type} : It R := fun rid f cn L K => bif Nat.beq rid 2 then tell (T154_2 [] ⟨#[]⟩ 0 0 0) (H154 N K) L none else none
theorem e154_2 {R : Type} (N : Nat) (K : Ex -> St -> Option R) : ∀ n : Nat, G154_2 (fun s => iter (exc E154 (it154 N) (loopOf Tryz.f154 2)) (canon (E154.keep 2)) n s K) = U154.l2 N (K154_2_0 K) (K154_2_1 K) n := by
 intro n
 induction n with
 | zero => exact rfl
 | succ n ih =>
  funext x0 x1 x2 x3 x4
  have h : ∀ g, exc E154 (it154 N) (loopOf Tryz.f154 2) (tabl (T154_2 x0 x1 x2 x3 x4)) (iterK g (canon (E154.keep 2)) K) = U154.r2 N (G154_2 g) (K154_2_0 K) (K154_2_1 K) x0 x1 x2 x3 x4 := by intro g; kernel_rfl
  show iter _ _ (n + 1) _ K = _
  refine (iter_succ _ _ n _ K).trans ((h _).trans ?_)
  rw [ih]; rfl
theorem lo154_2 {R : Type} (N : Nat) : LoopOk E154 (it154 N (R := R)) (loopOf Tryz.f154 2) := by
 refine lo_one 2 (by kernel_rfl) (S := T154_2 [] ⟨#[]⟩ 0 0 0) (H := H154 N) (fun _ _ => rfl) fun K xs r h => ?_
 unfold H154 at h
 split at h
 ·rw [<- e154_2 N K N] at h; exact ⟨N, h⟩
 ·cases h
def sp154 : List Arg -> Option (Bool × Res)
 | [.v false [.sh 64 a0], .v false [.fn 155 [[.s key1]]]] => some (U154.c a0 key1, k154 (U154.v a0 key1))
 | _ => none
theorem ok154 : FnOk Tryz.prog T 154 sp154 := by
 refine fn_loop (E := E154) hE (call_cons ok155 call_nil) hM Tryz.func154 (code := Tryz.f154.body.getD .skip) (by kernel_rfl) (by kernel_rfl) (itf := fun N => it154 N) (l := [loopOf Tryz.f154 2]) (by kernel_rfl) (fun N => loops_cons (lo154_2 N) loops_nil) fun args r h => ?_
 unfold sp154 at h
 split at h
 ·obtain ⟨h1, rfl⟩ := sj h
  rename_i a0 key1
  exact ⟨by kernel_rfl, fun hf => ⟨od (by kernel_rfl), (U154.b_eq (R := Res) (fun r0 => some (k154 r0)) a0 key1 h1).imp fun N hN => Eq.trans (by kernel_rfl) hN⟩⟩
 ·cases h

def E148 : Env := mkE T md [(154, sp154)] [] [] []
def k148 (p : Int) : Res := ⟨[.v false [.i .i64 p]], []⟩
def sp148 : List Arg -> Option (Bool × Res)
 | [.v true [.i .i64 a0, .sh 88 a1, .sh 9 a2, .sh 9 a3, .sh 144 a4, .i .i64 a5, .sh 64 a6, .sh 106 a7, .i .i64 a8], .v false [.s a9]] => some (U148.c a0 a1 a2 a3 a4 a5 a6 a7 a8 a9, k148 (U148.v a0 a1 a2 a3 a4 a5 a6 a7 a8 a9))
 | _ => none
theorem ok148 : FnOk Tryz.prog T 148 sp148 := by
 refine fn_flat (E := E148) hE (call_cons ok154 call_nil) hM Tryz.func148 (code := Tryz.f148.body.getD .skip) (by kernel_rfl) (by kernel_rfl) (by kernel_rfl) fun args r h => ?_
 unfold sp148 at h
 split at h
 ·obtain ⟨h1, rfl⟩ := sj h
  rename_i a0 a1 a2 a3 a4 a5 a6 a7 a8 a9
  exact ⟨by kernel_rfl, fun hf => ⟨od (by kernel_rfl), Eq.trans (by kernel_rfl) (U148.b_eq (R := Res) (fun r0 => some (k148 r0)) a0 a1 a2 a3 a4 a5 a6 a7 a8 a9 h1)⟩⟩
 ·cases h

def E133 : Env := mkE T md [(148, sp148)] [(2, [1, 2, 6, 7, 8])] [] []
def k133 (p : Bool) : Res := ⟨[.v false [.b p]], []⟩
def T133_2 (p0 : Bool) (p1 : Row) (p2 p3 p4 : Int) (p5 p6 p7 p8 : Row) (p9 : Int) (p10 p11 : Row) (p12 : Int) : List (Nat × Cel) := [(2, .v (.v false [.bp 0 0])), (4, .v (.v false [.b p0])), (12, .v (.v false [.sh 64 p1])), (14, .v (.v false [.i .i64 p2])), (16, .v (.v false [.i .i64 p3])), (1, .o (.box [.i .i64 p4, .sh 88 p5, .sh 9 p6, .sh 9 p7, .sh 144 p8, .i .i64 p9, .sh 64 p10, .sh 106 p11, .i .i64 p12]))]
def G133_2 {R : Type} (g : St -> Option R) (p0 : Bool) (p1 : Row) (p2 p3 p4 : Int) (p5 p6 p7 p8 : Row) (p9 : Int) (p10 p11 : Row) (p12 : Int) : Option R := g (tabl (T133_2 p0 p1 p2 p3 p4 p5 p6 p7 p8 p9 p10 p11 p12))
def K133_2_0 {R : Type} (K : Ex -> St -> Option R) (p0 : Bool) (p1 : Row) (p2 p3 p4 : Int) (p5 p6 p7 p8 : Row) (p9 : Int) (p10 p11 : Row) (p12 : Int) : Option R := K .ret (tabl (T133_2 p0 p1 p2 p3 p4 p5 p6 p7 p8 p9 p10 p11 p12))
def K133_2_1 {R : Type} (K : Ex -> St -> Option R) (p0 : Bool) (p1 : Row) (p2 p3 p4 : Int) (p5 p6 p7 p8 : Row) (p9 : Int) (p10 p11 : Row) (p12 : Int) : Option R := K (.exit 0) (tabl (T133_2 p0 p1 p2 p3 p4 p5 p6 p7 p8 p9 p10 p11 p12))
def H133 {R : Type} (N : Nat) (K : Ex -> St -> Option R) : List Leaf -> Option R
 | [.B x0, .R x1, .I x2, .I x3, .I x4, .R x5, .R x6, .R x7, .R x8, .I x9, .R x10, .R x11, .I x12] => U133.l2 N (K133_2_0 K) (K133_2_1 K) N x0 x1 x2 x3 x4 x5 x6 x7 x8 x9 x10 x11 x12
 | _ => none
def it133 (N : Nat) {R : Type} : It R := fun rid f cn L K => bif Nat.beq rid 2 then tell (T133_2 false [] 0 0 0 [] [] [] [] 0 [] [] 0) (H133 N K) L none else none
theorem e133_2 {R : Type} (N : Nat) (K : Ex -> St -> Option R) : ∀ n : Nat, G133_2 (fun s => iter (exc E133 (it133 N) (loopOf Tryz.f133 2)) (canon (E133.keep 2)) n s K) = U133.l2 N (K133_2_0 K) (K133_2_1 K) n := by
 intro n
 induction n with
 | zero => exact rfl
 | succ n ih =>
  funext x0 x1 x2 x3 x4 x5 x6 x7 x8 x9 x10 x11 x12
  have h : ∀ g, exc E133 (it133 N) (loopOf Tryz.f133 2) (tabl (T133_2 x0 x1 x2 x3 x4 x5 x6 x7 x8 x9 x10 x11 x12)) (iterK g (canon (E133.keep 2)) K) = U133.r2 N (G133_2 g) (K133_2_0 K) (K133_2_1 K) x0 x1 x2 x3 x4 x5 x6 x7 x8 x9 x10 x11 x12 := by intro g; kernel_rfl
  show iter _ _ (n + 1) _ K = _
  refine (iter_succ _ _ n _ K).trans ((h _).trans ?_)
  rw [ih]; rfl
theorem lo133_2 {R : Type} (N : Nat) : LoopOk E133 (it133 N (R := R)) (loopOf Tryz.f133 2) := by
 refine lo_one 2 (by kernel_rfl) (S := T133_2 false [] 0 0 0 [] [] [] [] 0 [] [] 0) (H := H133 N) (fun _ _ => rfl) fun K xs r h => ?_
 unfold H133 at h
 split at h
 ·rw [<- e133_2 N K N] at h; exact ⟨N, h⟩
 ·cases h
def sp133 : List Arg -> Option (Bool × Res)
 | [.v true [.i .i64 a0, .sh 88 a1, .sh 9 a2, .sh 9 a3, .sh 144 a4, .i .i64 a5, .sh 64 a6, .sh 106 a7, .i .i64 a8]] => some (U133.c a0 a1 a2 a3 a4 a5 a6 a7 a8, k133 (U133.v a0 a1 a2 a3 a4 a5 a6 a7 a8))
 | _ => none
theorem ok133 : FnOk Tryz.prog T 133 sp133 := by
 refine fn_loop (E := E133) hE (call_cons ok148 call_nil) hM Tryz.func133 (code := Tryz.f133.body.getD .skip) (by kernel_rfl) (by kernel_rfl) (itf := fun N => it133 N) (l := [loopOf Tryz.f133 2]) (by kernel_rfl) (fun N => loops_cons (lo133_2 N) loops_nil) fun args r h => ?_
 unfold sp133 at h
 split at h
 ·obtain ⟨h1, rfl⟩ := sj h
  rename_i a0 a1 a2 a3 a4 a5 a6 a7 a8
  exact ⟨by kernel_rfl, fun hf => ⟨od (by kernel_rfl), (U133.b_eq (R := Res) (fun r0 => some (k133 r0)) a0 a1 a2 a3 a4 a5 a6 a7 a8 h1).imp fun N hN => Eq.trans (by kernel_rfl) hN⟩⟩
 ·cases h

def E108 : Env := mkE T md [(120, sp120), (61, sp61), (133, sp133)] [(2, [1, 2, 6, 7, 8])] [] []
def k108 (p : Bool) : Res := ⟨[.v false [.b p]], []⟩
def T108_2 (p0 : Bool) (p1 : Row) (p2 p3 p4 : Int) (p5 p6 p7 p8 : Row) (p9 : Int) (p10 p11 : Row) (p12 : Int) : List (Nat × Cel) := [(2, .v (.v false [.bp 0 0])), (4, .v (.v false [.b p0])), (12, .v (.v false [.sh 64 p1])), (14, .v (.v false [.i .i64 p2])), (16, .v (.v false [.i .i64 p3])), (1, .o (.box [.i .i64 p4, .sh 88 p5, .sh 9 p6, .sh 9 p7, .sh 144 p8, .i .i64 p9, .sh 64 p10, .sh 106 p11, .i .i64 p12]))]
def G108_2 {R : Type} (g : St -> Option R) (p0 : Bool) (p1 : Row) (p2 p3 p4 : Int) (p5 p6 p7 p8 : Row) (p9 : Int) (p10 p11 : Row) (p12 : Int) : Option R := g (tabl (T108_2 p0 p1 p2 p3 p4 p5 p6 p7 p8 p9 p10 p11 p12))
def K108_2_0 {R : Type} (K : Ex -> St -> Option R) (p0 : Bool) (p1 : Row) (p2 p3 p4 : Int) (p5 p6 p7 p8 : Row) (p9 : Int) (p10 p11 : Row) (p12 : Int) : Option R := K .ret (tabl (T108_2 p0 p1 p2 p3 p4 p5 p6 p7 p8 p9 p10 p11 p12))
def K108_2_1 {R : Type} (K : Ex -> St -> Option R) (p0 : Bool) (p1 : Row) (p2 p3 p4 : Int) (p5 p6 p7 p8 : Row) (p9 : Int) (p10 p11 : Row) (p12 : Int) : Option R := K (.exit 0) (tabl (T108_2 p0 p1 p2 p3 p4 p5 p6 p7 p8 p9 p10 p11 p12))
def H108 {R : Type} (N : Nat) (K : Ex -> St -> Option R) : List Leaf -> Option R
 | [.B x0, .R x1, .I x2, .I x3, .I x4, .R x5, .R x6, .R x7, .R x8, .I x9, .R x10, .R x11, .I x12] => U108.l2 N (K108_2_0 K) (K108_2_1 K) N x0 x1 x2 x3 x4 x5 x6 x7 x8 x9 x10 x11 x12
 | _ => none
def it108 (N : Nat) {R : Type} : It R := fun rid f cn L K => bif Nat.beq rid 2 then tell (T108_2 false [] 0 0 0 [] [] [] [] 0 [] [] 0) (H108 N K) L none else none
theorem e108_2 {R : Type} (N : Nat) (K : Ex -> St -> Option R) : ∀ n : Nat, G108_2 (fun s => iter (exc E108 (it108 N) (loopOf Tryz.f108 2)) (canon (E108.keep 2)) n s K) = U108.l2 N (K108_2_0 K) (K108_2_1 K) n := by
 intro n
 induction n with
 | zero => exact rfl
 | succ n ih =>
  funext x0 x1 x2 x3 x4 x5 x6 x7 x8 x9 x10 x11 x12
  have h : ∀ g, exc E108 (it108 N) (loopOf Tryz.f108 2) (tabl (T108_2 x0 x1 x2 x3 x4 x5 x6 x7 x8 x9 x10 x11 x12)) (iterK g (canon (E108.keep 2)) K) = U108.r2 N (G108_2 g) (K108_2_0 K) (K108_2_1 K) x0 x1 x2 x3 x4 x5 x6 x7 x8 x9 x10 x11 x12 := by intro g; kernel_rfl
  show iter _ _ (n + 1) _ K = _
  refine (iter_succ _ _ n _ K).trans ((h _).trans ?_)
  rw [ih]; rfl
theorem lo108_2 {R : Type} (N : Nat) : LoopOk E108 (it108 N (R := R)) (loopOf Tryz.f108 2) := by
 refine lo_one 2 (by kernel_rfl) (S := T108_2 false [] 0 0 0 [] [] [] [] 0 [] [] 0) (H := H108 N) (fun _ _ => rfl) fun K xs r h => ?_
 unfold H108 at h
 split at h
 ·rw [<- e108_2 N K N] at h; exact ⟨N, h⟩
 ·cases h
def sp108 : List Arg -> Option (Bool × Res)
 | [.v true [.i .i64 a0, .sh 88 a1, .sh 9 a2, .sh 9 a3, .sh 144 a4, .i .i64 a5, .sh 64 a6, .sh 106 a7, .i .i64 a8]] => some (U108.c a0 a1 a2 a3 a4 a5 a6 a7 a8, k108 (U108.v a0 a1 a2 a3 a4 a5 a6 a7 a8))
 | _ => none
theorem ok108 : FnOk Tryz.prog T 108 sp108 := by
 refine fn_loop (E := E108) hE (call_cons ok120 (call_cons ok61 (call_cons ok133 call_nil))) hM Tryz.func108 (code := Tryz.f108.body.getD .skip) (by kernel_rfl) (by kernel_rfl) (itf := fun N => it108 N) (l := [loopOf Tryz.f108 2]) (by kernel_rfl) (fun N => loops_cons (lo108_2 N) loops_nil) fun args r h => ?_
 unfold sp108 at h
 split at h
 ·obtain ⟨h1, rfl⟩ := sj h
  rename_i a0 a1 a2 a3 a4 a5 a6 a7 a8
  exact ⟨by kernel_rfl, fun hf => ⟨od (by kernel_rfl), (U108.b_eq (R := Res) (fun r0 => some (k108 r0)) a0 a1 a2 a3 a4 a5 a6 a7 a8 h1).imp fun N hN => Eq.trans (by kernel_rfl) hN⟩⟩
 ·cases h

def E109 : Env := mkE T md [(61, sp61), (120, sp120)] [(2, [1, 2, 6, 7, 8])] [] []
def k109 (p : Bool) : Res := ⟨[.v false [.b p]], []⟩
def T109_2 (p0 : Bool) (p1 : Row) (p2 p3 p4 : Int) (p5 p6 p7 p8 : Row) (p9 : Int) (p10 p11 : Row) (p12 : Int) : List (Nat × Cel) := [(2, .v (.v false [.bp 0 0])), (4, .v (.v false [.b p0])), (12, .v (.v false [.sh 106 p1])), (14, .v (.v false [.i .i64 p2])), (16, .v (.v false [.i .i64 p3])), (1, .o (.box [.i .i64 p4, .sh 88 p5, .sh 9 p6, .sh 9 p7, .sh 144 p8, .i .i64 p9, .sh 64 p10, .sh 106 p11, .i .i64 p12]))]
def G109_2 {R : Type} (g : St -> Option R) (p0 : Bool) (p1 : Row) (p2 p3 p4 : Int) (p5 p6 p7 p8 : Row) (p9 : Int) (p10 p11 : Row) (p12 : Int) : Option R := g (tabl (T109_2 p0 p1 p2 p3 p4 p5 p6 p7 p8 p9 p10 p11 p12))
def K109_2_0 {R : Type} (K : Ex -> St -> Option R) (p0 : Bool) (p1 : Row) (p2 p3 p4 : Int) (p5 p6 p7 p8 : Row) (p9 : Int) (p10 p11 : Row) (p12 : Int) : Option R := K .ret (tabl (T109_2 p0 p1 p2 p3 p4 p5 p6 p7 p8 p9 p10 p11 p12))
def K109_2_1 {R : Type} (K : Ex -> St -> Option R) (p0 : Bool) (p1 : Row) (p2 p3 p4 : Int) (p5 p6 p7 p8 : Row) (p9 : Int) (p10 p11 : Row) (p12 : Int) : Option R := K (.exit 0) (tabl (T109_2 p0 p1 p2 p3 p4 p5 p6 p7 p8 p9 p10 p11 p12))
def H109 {R : Type} (N : Nat) (K : Ex -> St -> Option R) : List Leaf -> Option R
 | [.B x0, .R x1, .I x2, .I x3, .I x4, .R x5, .R x6, .R x7, .R x8, .I x9, .R x10, .R x11, .I x12] => U109.l2 N (K109_2_0 K) (K109_2_1 K) N x0 x1 x2 x3 x4 x5 x6 x7 x8 x9 x10 x11 x12
 | _ => none
def it109 (N : Nat) {R : Type} : It R := fun rid f cn L K => bif Nat.beq rid 2 then tell (T109_2 false [] 0 0 0 [] [] [] [] 0 [] [] 0) (H109 N K) L none else none
theorem e109_2 {R : Type} (N : Nat) (K : Ex -> St -> Option R) : ∀ n : Nat, G109_2 (fun s => iter (exc E109 (it109 N) (loopOf Tryz.f109 2)) (canon (E109.keep 2)) n s K) = U109.l2 N (K109_2_0 K) (K109_2_1 K) n := by
 intro n
 induction n with
 | zero => exact rfl
 | succ n ih =>
  funext x0 x1 x2 x3 x4 x5 x6 x7 x8 x9 x10 x11 x12
  have h : ∀ g, exc E109 (it109 N) (loopOf Tryz.f109 2) (tabl (T109_2 x0 x1 x2 x3 x4 x5 x6 x7 x8 x9 x10 x11 x12)) (iterK g (canon (E109.keep 2)) K) = U109.r2 N (G109_2 g) (K109_2_0 K) (K109_2_1 K) x0 x1 x2 x3 x4 x5 x6 x7 x8 x9 x10 x11 x12 := by intro g; kernel_rfl
  show iter _ _ (n + 1) _ K = _
  refine (iter_succ _ _ n _ K).trans ((h _).trans ?_)
  rw [ih]; rfl
theorem lo109_2 {R : Type} (N : Nat) : LoopOk E109 (it109 N (R := R)) (loopOf Tryz.f109 2) := by
 refine lo_one 2 (by kernel_rfl) (S := T109_2 false [] 0 0 0 [] [] [] [] 0 [] [] 0) (H := H109 N) (fun _ _ => rfl) fun K xs r h => ?_
 unfold H109 at h
 split at h
 ·rw [<- e109_2 N K N] at h; exact ⟨N, h⟩
 ·cases h
def sp109 : List Arg -> Option (Bool × Res)
 | [.v true [.i .i64 a0, .sh 88 a1, .sh 9 a2, .sh 9 a3, .sh 144 a4, .i .i64 a5, .sh 64 a6, .sh 106 a7, .i .i64 a8]] => some (U109.c a0 a1 a2 a3 a4 a5 a6 a7 a8, k109 (U109.v a0 a1 a2 a3 a4 a5 a6 a7 a8))
 | _ => none
theorem ok109 : FnOk Tryz.prog T 109 sp109 := by
 refine fn_loop (E := E109) hE (call_cons ok61 (call_cons ok120 call_nil)) hM Tryz.func109 (code := Tryz.f109.body.getD .skip) (by kernel_rfl) (by kernel_rfl) (itf := fun N => it109 N) (l := [loopOf Tryz.f109 2]) (by kernel_rfl) (fun N => loops_cons (lo109_2 N) loops_nil) fun args r h => ?_
 unfold sp109 at h
 split at h
 ·obtain ⟨h1, rfl⟩ := sj h
  rename_i a0 a1 a2 a3 a4 a5 a6 a7 a8
  exact ⟨by kernel_rfl, fun hf => ⟨od (by kernel_rfl), (U109.b_eq (R := Res) (fun r0 => some (k109 r0)) a0 a1 a2 a3 a4 a5 a6 a7 a8 h1).imp fun N hN => Eq.trans (by kernel_rfl) hN⟩⟩
 ·cases h

def E74 : Env := mkE T md [(61, sp61), (107, sp107), (108, sp108), (109, sp109), (95, sp95)] [] [] []
def k74 (p : Bool) : Res := ⟨[.v false [.b p]], []⟩
def sp74 : List Arg -> Option (Bool × Res)
 | [.v true [.i .i64 a0, .sh 88 a1, .sh 9 a2, .sh 9 a3, .sh 144 a4, .i .i64 a5, .sh 64 a6, .sh 106 a7, .i .i64 a8]] => some (U74.c a0 a1 a2 a3 a4 a5 a6 a7 a8, k74 (U74.v a0 a1 a2 a3 a4 a5 a6 a7 a8))
 | _ => none
theorem ok74 : FnOk Tryz.prog T 74 sp74 := by
 refine fn_flat (E := E74) hE (call_cons ok61 (call_cons ok107 (call_cons ok108 (call_cons ok109 (call_cons ok95 call_nil))))) hM Tryz.func74 (code := Tryz.f74.body.getD .skip) (by kernel_rfl) (by kernel_rfl) (by kernel_rfl) fun args r h => ?_
 unfold sp74 at h
 split at h
 ·obtain ⟨h1, rfl⟩ := sj h
  rename_i a0 a1 a2 a3 a4 a5 a6 a7 a8
  exact ⟨by kernel_rfl, fun hf => ⟨od (by kernel_rfl), Eq.trans (by kernel_rfl) (U74.b_eq (R := Res) (fun r0 => some (k74 r0)) a0 a1 a2 a3 a4 a5 a6 a7 a8 h1)⟩⟩
 ·cases h

def E34 : Env := mkE T md [(74, sp74), (61, sp61)] [] [] []
def k34 (p : Bool) : Res := ⟨[.v false [.b p]], []⟩
def sp34 : List Arg -> Option (Bool × Res)
 | [.v true [.i .i64 a0, .sh 88 a1, .sh 9 a2, .sh 9 a3, .sh 144 a4, .i .i64 a5, .sh 64 a6, .sh 106 a7, .i .i64 a8], .v false [.i .i64 a9]] => some (U34.c a0 a1 a2 a3 a4 a5 a6 a7 a8 a9, k34 (U34.v a0 a1 a2 a3 a4 a5 a6 a7 a8 a9))
 | _ => none
theorem ok34 : FnOk Tryz.prog T 34 sp34 := by
 refine fn_flat (E := E34) hE (call_cons ok74 (call_cons ok61 call_nil)) hM Tryz.func34 (code := Tryz.f34.body.getD .skip) (by kernel_rfl) (by kernel_rfl) (by kernel_rfl) fun args r h => ?_
 unfold sp34 at h
 split at h
 ·obtain ⟨h1, rfl⟩ := sj h
  rename_i a0 a1 a2 a3 a4 a5 a6 a7 a8 a9
  exact ⟨by kernel_rfl, fun hf => ⟨od (by kernel_rfl), Eq.trans (by kernel_rfl) (U34.b_eq (R := Res) (fun r0 => some (k34 r0)) a0 a1 a2 a3 a4 a5 a6 a7 a8 a9 h1)⟩⟩
 ·cases h

def E85 : Env := mkE T md [] [] [] []
def k85 (p : Int × ByteArray × Row) : Res := ⟨[.v true [.i .i64 p.1, .s p.2.1, .ow 133 true p.2.2]], []⟩
def sp85 : List Arg -> Option (Bool × Res)
 | [.v true [.i .i64 a0, .s a1, .sh 133 a2]] => some (U85.c a0 a1 a2, k85 (U85.v a0 a1 a2))
 | _ => none
theorem ok85 : FnOk Tryz.prog T 85 sp85 := by
 refine fn_flat (E := E85) hE call_nil hM Tryz.func85 (code := Tryz.f85.body.getD .skip) (by kernel_rfl) (by kernel_rfl) (by kernel_rfl) fun args r h => ?_
 unfold sp85 at h
 split at h
 ·obtain ⟨h1, rfl⟩ := sj h
  rename_i a0 a1 a2
  exact ⟨by kernel_rfl, fun hf => ⟨od (by kernel_rfl), Eq.trans (by kernel_rfl) (U85.b_eq (R := Res) (fun r0 r1 r2 => some (k85 (r0, r1, r2))) a0 a1 a2 h1)⟩⟩
 ·cases h

def E86 : Env := mkE T md [(61, sp61)] [(2, [1, 2, 6, 7, 8])] [] []
def k86 (p : Bool) : Res := ⟨[.v false [.b p]], []⟩
def T86_2 (p0 : Bool) (p1 : Row) (p2 p3 p4 : Int) (p5 : ByteArray) (p6 : Row) : List (Nat × Cel) := [(2, .v (.v false [.bp 0 0])), (4, .v (.v false [.b p0])), (12, .v (.v false [.sh 133 p1])), (14, .v (.v false [.i .i64 p2])), (16, .v (.v false [.i .i64 p3])), (1, .o (.box [.i .i64 p4, .s p5, .sh 133 p6]))]
def G86_2 {R : Type} (g : St -> Option R) (p0 : Bool) (p1 : Row) (p2 p3 p4 : Int) (p5 : ByteArray) (p6 : Row) : Option R := g (tabl (T86_2 p0 p1 p2 p3 p4 p5 p6))
def K86_2_0 {R : Type} (K : Ex -> St -> Option R) (p0 : Bool) (p1 : Row) (p2 p3 p4 : Int) (p5 : ByteArray) (p6 : Row) : Option R := K .ret (tabl (T86_2 p0 p1 p2 p3 p4 p5 p6))
def K86_2_1 {R : Type} (K : Ex -> St -> Option R) (p0 : Bool) (p1 : Row) (p2 p3 p4 : Int) (p5 : ByteArray) (p6 : Row) : Option R := K (.exit 0) (tabl (T86_2 p0 p1 p2 p3 p4 p5 p6))
def H86 {R : Type} (N : Nat) (K : Ex -> St -> Option R) : List Leaf -> Option R
 | [.B x0, .R x1, .I x2, .I x3, .I x4, .S x5, .R x6] => U86.l2 N (K86_2_0 K) (K86_2_1 K) N x0 x1 x2 x3 x4 x5 x6
 | _ => none
def it86 (N : Nat) {R : Type} : It R := fun rid f cn L K => bif Nat.beq rid 2 then tell (T86_2 false [] 0 0 0 ⟨#[]⟩ []) (H86 N K) L none else none
theorem e86_2 {R : Type} (N : Nat) (K : Ex -> St -> Option R) : ∀ n : Nat, G86_2 (fun s => iter (exc E86 (it86 N) (loopOf Tryz.f86 2)) (canon (E86.keep 2)) n s K) = U86.l2 N (K86_2_0 K) (K86_2_1 K) n := by
 intro n
 induction n with
 | zero => exact rfl
 | succ n ih =>
  funext x0 x1 x2 x3 x4 x5 x6
  have h : ∀ g, exc E86 (it86 N) (loopOf Tryz.f86 2) (tabl (T86_2 x0 x1 x2 x3 x4 x5 x6)) (iterK g (canon (E86.keep 2)) K) = U86.r2 N (G86_2 g) (K86_2_0 K) (K86_2_1 K) x0 x1 x2 x3 x4 x5 x6 := by intro g; kernel_rfl
  show iter _ _ (n + 1) _ K = _
  refine (iter_succ _ _ n _ K).trans ((h _).trans ?_)
  rw [ih]; rfl
theorem lo86_2 {R : Type} (N : Nat) : LoopOk E86 (it86 N (R := R)) (loopOf Tryz.f86 2) := by
 refine lo_one 2 (by kernel_rfl) (S := T86_2 false [] 0 0 0 ⟨#[]⟩ []) (H := H86 N) (fun _ _ => rfl) fun K xs r h => ?_
 unfold H86 at h
 split at h
 ·rw [<- e86_2 N K N] at h; exact ⟨N, h⟩
 ·cases h
def sp86 : List Arg -> Option (Bool × Res)
 | [.v true [.i .i64 a0, .s a1, .sh 133 a2]] => some (true, k86 (U86.v a0 a1 a2))
 | _ => none
theorem ok86 : FnOk Tryz.prog T 86 sp86 := by
 refine fn_loop (E := E86) hE (call_cons ok61 call_nil) hM Tryz.func86 (code := Tryz.f86.body.getD .skip) (by kernel_rfl) (by kernel_rfl) (itf := fun N => it86 N) (l := [loopOf Tryz.f86 2]) (by kernel_rfl) (fun N => loops_cons (lo86_2 N) loops_nil) fun args r h => ?_
 unfold sp86 at h
 split at h
 ·obtain ⟨h1, rfl⟩ := sj h
  rename_i a0 a1 a2
  exact ⟨by kernel_rfl, fun hf => ⟨od (by kernel_rfl), (U86.b_eq (R := Res) (fun r0 => some (k86 r0)) a0 a1 a2 hf.1.2.1 hf.1.2.2.1).imp fun N hN => Eq.trans (by kernel_rfl) hN⟩⟩
 ·cases h

def E47 : Env := mkE T md [(85, sp85), (86, sp86), (61, sp61)] [] [] []
def k47 (p : Int × ByteArray × Row × Bool) : Res := ⟨[.v true [.i .i64 p.1, .s p.2.1, .ow 133 true p.2.2.1], .v false [.b p.2.2.2]], []⟩
def sp47 : List Arg -> Option (Bool × Res)
 | [.v true [.i .i64 a0, .s a1, .sh 133 a2], .v false [.s a3]] => some (U47.c a0 a1 a2 a3, k47 (U47.v a0 a1 a2 a3))
 | _ => none
theorem ok47 : FnOk Tryz.prog T 47 sp47 := by
 refine fn_flat (E := E47) hE (call_cons ok85 (call_cons ok86 (call_cons ok61 call_nil))) hM Tryz.func47 (code := Tryz.f47.body.getD .skip) (by kernel_rfl) (by kernel_rfl) (by kernel_rfl) fun args r h => ?_
 unfold sp47 at h
 split at h
 ·obtain ⟨h1, rfl⟩ := sj h
  rename_i a0 a1 a2 a3
  exact ⟨by kernel_rfl, fun hf => ⟨od (by kernel_rfl), Eq.trans (by kernel_rfl) (U47.b_eq (R := Res) (fun r0 r1 r2 r3 => some (k47 (r0, r1, r2, r3))) a0 a1 a2 a3 h1 hf.1.2.1 hf.1.2.2.1 hf.2.1.1)⟩⟩
 ·cases h

def E48 : Env := mkE T md [] [(1, [0, 1, 9, 10, 11])] [] []
def k48 (p : Int × Row × Row × Row × Row × Int × Row × Row × Int) : Res := ⟨[], [[.i .i64 p.1, .kp p.2.1, .kp p.2.2.1, .kp p.2.2.2.1, .kp p.2.2.2.2.1, .i .i64 p.2.2.2.2.2.1, .kp p.2.2.2.2.2.2.1, .kp p.2.2.2.2.2.2.2.1, .i .i64 p.2.2.2.2.2.2.2.2]]⟩
def T48_1 (p0 p1 p2 p3 p4 p5 : Int) (p6 p7 p8 p9 p10 p11 : Row) : List (Nat × Cel) := [(0, .v (.v false [.bp 900000900 0])), (2, .v (.v false [.i .i64 p0])), (18, .v (.v false [.own 900000007])), (20, .v (.v false [.i .i64 p1])), (22, .v (.v false [.i .i64 p2])), (1800001801, .o (.box [.i .i64 p3, .own 900000001, .own 900000002, .own 900000003, .own 900000004, .i .i64 p4, .own 900000006, .own 900000007, .i .i64 p5])), (1800000015, .o (.row 106 true p6)), (1800000003, .o (.row 88 true p7)), (1800000005, .o (.row 9 true p8)), (1800000007, .o (.row 9 true p9)), (1800000009, .o (.row 144 true p10)), (1800000013, .o (.row 64 true p11))]
def G48_1 {R : Type} (g : St -> Option R) (p0 p1 p2 p3 p4 p5 : Int) (p6 p7 p8 p9 p10 p11 : Row) : Option R := g (tabl (T48_1 p0 p1 p2 p3 p4 p5 p6 p7 p8 p9 p10 p11))
def K48_1_0 {R : Type} (K : Ex -> St -> Option R) (p0 p1 p2 p3 p4 p5 : Int) (p6 p7 p8 p9 p10 p11 : Row) : Option R := K (.exit 0) (tabl (T48_1 p0 p1 p2 p3 p4 p5 p6 p7 p8 p9 p10 p11))
def H48 {R : Type} (N : Nat) (K : Ex -> St -> Option R) : List Leaf -> Option R
 | [.I x0, .I x1, .I x2, .I x3, .I x4, .I x5, .R x6, .R x7, .R x8, .R x9, .R x10, .R x11] => U48.l1 N (K48_1_0 K) N x0 x1 x2 x3 x4 x5 x6 x7 x8 x9 x10 x11
 | _ => none
def it48 (N : Nat) {R : Type} : It R := fun rid f cn L K => bif Nat.beq rid 1 then tell (T48_1 0 0 0 0 0 0 [] [] [] [] [] []) (H48 N K) L none else none
theorem e48_1 {R : Type} (N : Nat) (K : Ex -> St -> Option R) : ∀ n : Nat, G48_1 (fun s => iter (exc E48 (it48 N) (loopOf Tryz.f48 1)) (canon (E48.keep 1)) n s K) = U48.l1 N (K48_1_0 K) n := by
 intro n
 induction n with
 | zero => exact rfl
 | succ n ih =>
  funext x0 x1 x2 x3 x4 x5 x6 x7 x8 x9 x10 x11
  have h : ∀ g, exc E48 (it48 N) (loopOf Tryz.f48 1) (tabl (T48_1 x0 x1 x2 x3 x4 x5 x6 x7 x8 x9 x10 x11)) (iterK g (canon (E48.keep 1)) K) = U48.r1 N (G48_1 g) (K48_1_0 K) x0 x1 x2 x3 x4 x5 x6 x7 x8 x9 x10 x11 := by intro g; kernel_rfl
  show iter _ _ (n + 1) _ K = _
  refine (iter_succ _ _ n _ K).trans ((h _).trans ?_)
  rw [ih]; rfl
theorem lo48_1 {R : Type} (N : Nat) : LoopOk E48 (it48 N (R := R)) (loopOf Tryz.f48 1) := by
 refine lo_one 1 (by kernel_rfl) (S := T48_1 0 0 0 0 0 0 [] [] [] [] [] []) (H := H48 N) (fun _ _ => rfl) fun K xs r h => ?_
 unfold H48 at h
 split at h
 ·rw [<- e48_1 N K N] at h; exact ⟨N, h⟩
 ·cases h
def sp48 : List Arg -> Option (Bool × Res)
 | [.pt [.i .i64 a0, .ow 88 true a1, .ow 9 true a2, .ow 9 true a3, .ow 144 true a4, .i .i64 a5, .ow 64 true a6, .ow 106 true a7, .i .i64 a8], .v false [.i .i64 a9]] => some (U48.c a0 a1 a2 a3 a4 a5 a6 a7 a8 a9, k48 (U48.v a0 a1 a2 a3 a4 a5 a6 a7 a8 a9))
 | _ => none
theorem ok48 : FnOk Tryz.prog T 48 sp48 := by
 refine fn_loop (E := E48) hE call_nil hM Tryz.func48 (code := Tryz.f48.body.getD .skip) (by kernel_rfl) (by kernel_rfl) (itf := fun N => it48 N) (l := [loopOf Tryz.f48 1]) (by kernel_rfl) (fun N => loops_cons (lo48_1 N) loops_nil) fun args r h => ?_
 unfold sp48 at h
 split at h
 ·obtain ⟨h1, rfl⟩ := sj h
  rename_i a0 a1 a2 a3 a4 a5 a6 a7 a8 a9
  exact ⟨by kernel_rfl, fun hf => ⟨od (by kernel_rfl), (U48.b_eq (R := Res) (fun r0 r1 r2 r3 r4 r5 r6 r7 r8 => some (k48 (r0, r1, r2, r3, r4, r5, r6, r7, r8))) a0 a1 a2 a3 a4 a5 a6 a7 a8 a9 h1).imp fun N hN => Eq.trans (by kernel_rfl) hN⟩⟩
 ·cases h

def E15 : Env := mkE T md [(33, sp33), (34, sp34), (47, sp47), (48, sp48)] [] [] []
def k15 (p : Int × Row × Row × Row × Row × Int × Row × Row × Int × Bool) : Res := ⟨[.v true [.i .i64 p.1, .ow 88 true p.2.1, .ow 9 true p.2.2.1, .ow 9 true p.2.2.2.1, .ow 144 true p.2.2.2.2.1, .i .i64 p.2.2.2.2.2.1, .ow 64 true p.2.2.2.2.2.2.1, .ow 106 true p.2.2.2.2.2.2.2.1, .i .i64 p.2.2.2.2.2.2.2.2.1], .v false [.b p.2.2.2.2.2.2.2.2.2]], []⟩
def sp15 : List Arg -> Option (Bool × Res)
 | [.v true [.i .i64 a0, .sh 88 a1, .sh 9 a2, .sh 9 a3, .sh 144 a4, .i .i64 a5, .sh 64 a6, .sh 106 a7, .i .i64 a8], .v false [.i .i64 a9], .v false [.s a10]] => some (U15.c a0 a1 a2 a3 a4 a5 a6 a7 a8 a9 a10, k15 (U15.v a0 a1 a2 a3 a4 a5 a6 a7 a8 a9 a10))
 | _ => none
theorem ok15 : FnOk Tryz.prog T 15 sp15 := by
 refine fn_flat (E := E15) hE (call_cons ok33 (call_cons ok34 (call_cons ok47 (call_cons ok48 call_nil)))) hM Tryz.func15 (code := Tryz.f15.body.getD .skip) (by kernel_rfl) (by kernel_rfl) (by kernel_rfl) fun args r h => ?_
 unfold sp15 at h
 split at h
 ·obtain ⟨h1, rfl⟩ := sj h
  rename_i a0 a1 a2 a3 a4 a5 a6 a7 a8 a9 a10
  exact ⟨by kernel_rfl, fun hf => ⟨od (by kernel_rfl), Eq.trans (by kernel_rfl) (U15.b_eq (R := Res) (fun r0 r1 r2 r3 r4 r5 r6 r7 r8 r9 => some (k15 (r0, r1, r2, r3, r4, r5, r6, r7, r8, r9))) a0 a1 a2 a3 a4 a5 a6 a7 a8 a9 a10 h1)⟩⟩
 ·cases h

def E58 : Env := mkE T md [] [] [] []
def k58 (p : Bool) : Res := ⟨[.v false [.b p]], []⟩
def sp58 : List Arg -> Option (Bool × Res)
 | [.v true [.s a0, .i .i64 a1, .i .i64 a2, .s a3], .v true [.s a4, .i .i64 a5, .i .i64 a6, .s a7]] => some (true, k58 (U58.v a0 a1 a2 a3 a4 a5 a6 a7))
 | _ => none
theorem ok58 : FnOk Tryz.prog T 58 sp58 := by
 refine fn_flat (E := E58) hE call_nil hM Tryz.func58 (code := Tryz.f58.body.getD .skip) (by kernel_rfl) (by kernel_rfl) (by kernel_rfl) fun args r h => ?_
 unfold sp58 at h
 split at h
 ·obtain ⟨h1, rfl⟩ := sj h
  rename_i a0 a1 a2 a3 a4 a5 a6 a7
  exact ⟨by kernel_rfl, fun hf => ⟨od (by kernel_rfl), Eq.trans (by kernel_rfl) (U58.b_eq (R := Res) (fun r0 => some (k58 r0)) a0 a1 a2 a3 a4 a5 a6 a7)⟩⟩
 ·cases h

def E20 : Env := mkE T md [(58, sp58)] [(4, [0, 1, 4, 5])] [] []
def k20 (p : Bool) : Res := ⟨[.v false [.b p]], []⟩
def T20_4 (p0 p1 : Row) (p2 : Bool) (p3 : Int) : List (Nat × Cel) := [(0, .v (.v false [.sh 88 p0])), (2, .v (.v false [.sh 88 p1])), (8, .v (.v false [.b p2])), (10, .v (.v false [.i .i64 p3]))]
def G20_4 {R : Type} (g : St -> Option R) (p0 p1 : Row) (p2 : Bool) (p3 : Int) : Option R := g (tabl (T20_4 p0 p1 p2 p3))
def K20_4_0 {R : Type} (K : Ex -> St -> Option R) (p0 p1 : Row) (p2 : Bool) (p3 : Int) : Option R := K .ret (tabl (T20_4 p0 p1 p2 p3))
def K20_4_1 {R : Type} (K : Ex -> St -> Option R) (p0 p1 : Row) (p2 : Bool) (p3 : Int) : Option R := K (.exit 0) (tabl (T20_4 p0 p1 p2 p3))
def H20 {R : Type} (N : Nat) (K : Ex -> St -> Option R) : List Leaf -> Option R
 | [.R x0, .R x1, .B x2, .I x3] => U20.l4 N (K20_4_0 K) (K20_4_1 K) N x0 x1 x2 x3
 | _ => none
def it20 (N : Nat) {R : Type} : It R := fun rid f cn L K => bif Nat.beq rid 4 then tell (T20_4 [] [] false 0) (H20 N K) L none else none
theorem e20_4 {R : Type} (N : Nat) (K : Ex -> St -> Option R) : ∀ n : Nat, G20_4 (fun s => iter (exc E20 (it20 N) (loopOf Tryz.f20 4)) (canon (E20.keep 4)) n s K) = U20.l4 N (K20_4_0 K) (K20_4_1 K) n := by
 intro n
 induction n with
 | zero => exact rfl
 | succ n ih =>
  funext x0 x1 x2 x3
  have h : ∀ g, exc E20 (it20 N) (loopOf Tryz.f20 4) (tabl (T20_4 x0 x1 x2 x3)) (iterK g (canon (E20.keep 4)) K) = U20.r4 N (G20_4 g) (K20_4_0 K) (K20_4_1 K) x0 x1 x2 x3 := by intro g; kernel_rfl
  show iter _ _ (n + 1) _ K = _
  refine (iter_succ _ _ n _ K).trans ((h _).trans ?_)
  rw [ih]; rfl
theorem lo20_4 {R : Type} (N : Nat) : LoopOk E20 (it20 N (R := R)) (loopOf Tryz.f20 4) := by
 refine lo_one 4 (by kernel_rfl) (S := T20_4 [] [] false 0) (H := H20 N) (fun _ _ => rfl) fun K xs r h => ?_
 unfold H20 at h
 split at h
 ·rw [<- e20_4 N K N] at h; exact ⟨N, h⟩
 ·cases h
def sp20 : List Arg -> Option (Bool × Res)
 | [.v false [.sh 88 a0], .v false [.sh 88 a1]] => some (U20.c a0 a1, k20 (U20.v a0 a1))
 | _ => none
theorem ok20 : FnOk Tryz.prog T 20 sp20 := by
 refine fn_loop (E := E20) hE (call_cons ok58 call_nil) hM Tryz.func20 (code := Tryz.f20.body.getD .skip) (by kernel_rfl) (by kernel_rfl) (itf := fun N => it20 N) (l := [loopOf Tryz.f20 4]) (by kernel_rfl) (fun N => loops_cons (lo20_4 N) loops_nil) fun args r h => ?_
 unfold sp20 at h
 split at h
 ·obtain ⟨h1, rfl⟩ := sj h
  rename_i a0 a1
  exact ⟨by kernel_rfl, fun hf => ⟨od (by kernel_rfl), (U20.b_eq (R := Res) (fun r0 => some (k20 r0)) a0 a1 h1).imp fun N hN => Eq.trans (by kernel_rfl) hN⟩⟩
 ·cases h

def E75 : Env := mkE T md [] [(4, [0, 1, 4, 5])] [] []
def k75 (p : Bool) : Res := ⟨[.v false [.b p]], []⟩
def T75_4 (p0 p1 : Row) (p2 : Bool) (p3 : Int) : List (Nat × Cel) := [(0, .v (.v false [.sh 9 p0])), (2, .v (.v false [.sh 9 p1])), (8, .v (.v false [.b p2])), (10, .v (.v false [.i .i64 p3]))]
def G75_4 {R : Type} (g : St -> Option R) (p0 p1 : Row) (p2 : Bool) (p3 : Int) : Option R := g (tabl (T75_4 p0 p1 p2 p3))
def K75_4_0 {R : Type} (K : Ex -> St -> Option R) (p0 p1 : Row) (p2 : Bool) (p3 : Int) : Option R := K .ret (tabl (T75_4 p0 p1 p2 p3))
def K75_4_1 {R : Type} (K : Ex -> St -> Option R) (p0 p1 : Row) (p2 : Bool) (p3 : Int) : Option R := K (.exit 0) (tabl (T75_4 p0 p1 p2 p3))
def H75 {R : Type} (N : Nat) (K : Ex -> St -> Option R) : List Leaf -> Option R
 | [.R x0, .R x1, .B x2, .I x3] => U75.l4 N (K75_4_0 K) (K75_4_1 K) N x0 x1 x2 x3
 | _ => none
def it75 (N : Nat) {R : Type} : It R := fun rid f cn L K => bif Nat.beq rid 4 then tell (T75_4 [] [] false 0) (H75 N K) L none else none
theorem e75_4 {R : Type} (N : Nat) (K : Ex -> St -> Option R) : ∀ n : Nat, G75_4 (fun s => iter (exc E75 (it75 N) (loopOf Tryz.f75 4)) (canon (E75.keep 4)) n s K) = U75.l4 N (K75_4_0 K) (K75_4_1 K) n := by
 intro n
 induction n with
 | zero => exact rfl
 | succ n ih =>
  funext x0 x1 x2 x3
  have h : ∀ g, exc E75 (it75 N) (loopOf Tryz.f75 4) (tabl (T75_4 x0 x1 x2 x3)) (iterK g (canon (E75.keep 4)) K) = U75.r4 N (G75_4 g) (K75_4_0 K) (K75_4_1 K) x0 x1 x2 x3 := by intro g; kernel_rfl
  show iter _ _ (n + 1) _ K = _
  refine (iter_succ _ _ n _ K).trans ((h _).trans ?_)
  rw [ih]; rfl
theorem lo75_4 {R : Type} (N : Nat) : LoopOk E75 (it75 N (R := R)) (loopOf Tryz.f75 4) := by
 refine lo_one 4 (by kernel_rfl) (S := T75_4 [] [] false 0) (H := H75 N) (fun _ _ => rfl) fun K xs r h => ?_
 unfold H75 at h
 split at h
 ·rw [<- e75_4 N K N] at h; exact ⟨N, h⟩
 ·cases h
def sp75 : List Arg -> Option (Bool × Res)
 | [.v false [.sh 9 a0], .v false [.sh 9 a1]] => some (U75.c a0 a1, k75 (U75.v a0 a1))
 | _ => none
theorem ok75 : FnOk Tryz.prog T 75 sp75 := by
 refine fn_loop (E := E75) hE call_nil hM Tryz.func75 (code := Tryz.f75.body.getD .skip) (by kernel_rfl) (by kernel_rfl) (itf := fun N => it75 N) (l := [loopOf Tryz.f75 4]) (by kernel_rfl) (fun N => loops_cons (lo75_4 N) loops_nil) fun args r h => ?_
 unfold sp75 at h
 split at h
 ·obtain ⟨h1, rfl⟩ := sj h
  rename_i a0 a1
  exact ⟨by kernel_rfl, fun hf => ⟨od (by kernel_rfl), (U75.b_eq (R := Res) (fun r0 => some (k75 r0)) a0 a1 h1).imp fun N hN => Eq.trans (by kernel_rfl) hN⟩⟩
 ·cases h

def E134 : Env := mkE T md [] [(4, [0, 1, 4, 5])] [] []
def k134 (p : Bool) : Res := ⟨[.v false [.b p]], []⟩
def T134_4 (p0 p1 : Row) (p2 : Bool) (p3 : Int) : List (Nat × Cel) := [(0, .v (.v false [.sh 3 p0])), (2, .v (.v false [.sh 3 p1])), (8, .v (.v false [.b p2])), (10, .v (.v false [.i .i64 p3]))]
def G134_4 {R : Type} (g : St -> Option R) (p0 p1 : Row) (p2 : Bool) (p3 : Int) : Option R := g (tabl (T134_4 p0 p1 p2 p3))
def K134_4_0 {R : Type} (K : Ex -> St -> Option R) (p0 p1 : Row) (p2 : Bool) (p3 : Int) : Option R := K .ret (tabl (T134_4 p0 p1 p2 p3))
def K134_4_1 {R : Type} (K : Ex -> St -> Option R) (p0 p1 : Row) (p2 : Bool) (p3 : Int) : Option R := K (.exit 0) (tabl (T134_4 p0 p1 p2 p3))
def H134 {R : Type} (N : Nat) (K : Ex -> St -> Option R) : List Leaf -> Option R
 | [.R x0, .R x1, .B x2, .I x3] => U134.l4 N (K134_4_0 K) (K134_4_1 K) N x0 x1 x2 x3
 | _ => none
def it134 (N : Nat) {R : Type} : It R := fun rid f cn L K => bif Nat.beq rid 4 then tell (T134_4 [] [] false 0) (H134 N K) L none else none
theorem e134_4 {R : Type} (N : Nat) (K : Ex -> St -> Option R) : ∀ n : Nat, G134_4 (fun s => iter (exc E134 (it134 N) (loopOf Tryz.f134 4)) (canon (E134.keep 4)) n s K) = U134.l4 N (K134_4_0 K) (K134_4_1 K) n := by
 intro n
 induction n with
 | zero => exact rfl
 | succ n ih =>
  funext x0 x1 x2 x3
  have h : ∀ g, exc E134 (it134 N) (loopOf Tryz.f134 4) (tabl (T134_4 x0 x1 x2 x3)) (iterK g (canon (E134.keep 4)) K) = U134.r4 N (G134_4 g) (K134_4_0 K) (K134_4_1 K) x0 x1 x2 x3 := by intro g; kernel_rfl
  show iter _ _ (n + 1) _ K = _
  refine (iter_succ _ _ n _ K).trans ((h _).trans ?_)
  rw [ih]; rfl
theorem lo134_4 {R : Type} (N : Nat) : LoopOk E134 (it134 N (R := R)) (loopOf Tryz.f134 4) := by
 refine lo_one 4 (by kernel_rfl) (S := T134_4 [] [] false 0) (H := H134 N) (fun _ _ => rfl) fun K xs r h => ?_
 unfold H134 at h
 split at h
 ·rw [<- e134_4 N K N] at h; exact ⟨N, h⟩
 ·cases h
def sp134 : List Arg -> Option (Bool × Res)
 | [.v false [.sh 3 a0], .v false [.sh 3 a1]] => some (true, k134 (U134.v a0 a1))
 | _ => none
theorem ok134 : FnOk Tryz.prog T 134 sp134 := by
 refine fn_loop (E := E134) hE call_nil hM Tryz.func134 (code := Tryz.f134.body.getD .skip) (by kernel_rfl) (by kernel_rfl) (itf := fun N => it134 N) (l := [loopOf Tryz.f134 4]) (by kernel_rfl) (fun N => loops_cons (lo134_4 N) loops_nil) fun args r h => ?_
 unfold sp134 at h
 split at h
 ·obtain ⟨h1, rfl⟩ := sj h
  rename_i a0 a1
  exact ⟨by kernel_rfl, fun hf => ⟨od (by kernel_rfl), (U134.b_eq (R := Res) (fun r0 => some (k134 r0)) a0 a1 hf.1.1 hf.2.1.1).imp fun N hN => Eq.trans (by kernel_rfl) hN⟩⟩
 ·cases h

def E110 : Env := mkE T md [(134, sp134)] [(4, [0, 1, 4, 5])] [] []
def k110 (p : Bool) : Res := ⟨[.v false [.b p]], []⟩
def T110_4 (p0 p1 : Row) (p2 : Bool) (p3 : Int) : List (Nat × Cel) := [(0, .v (.v false [.sh 144 p0])), (2, .v (.v false [.sh 144 p1])), (8, .v (.v false [.b p2])), (10, .v (.v false [.i .i64 p3]))]
def G110_4 {R : Type} (g : St -> Option R) (p0 p1 : Row) (p2 : Bool) (p3 : Int) : Option R := g (tabl (T110_4 p0 p1 p2 p3))
def K110_4_0 {R : Type} (K : Ex -> St -> Option R) (p0 p1 : Row) (p2 : Bool) (p3 : Int) : Option R := K .ret (tabl (T110_4 p0 p1 p2 p3))
def K110_4_1 {R : Type} (K : Ex -> St -> Option R) (p0 p1 : Row) (p2 : Bool) (p3 : Int) : Option R := K (.exit 0) (tabl (T110_4 p0 p1 p2 p3))
def H110 {R : Type} (N : Nat) (K : Ex -> St -> Option R) : List Leaf -> Option R
 | [.R x0, .R x1, .B x2, .I x3] => U110.l4 N (K110_4_0 K) (K110_4_1 K) N x0 x1 x2 x3
 | _ => none
def it110 (N : Nat) {R : Type} : It R := fun rid f cn L K => bif Nat.beq rid 4 then tell (T110_4 [] [] false 0) (H110 N K) L none else none
theorem e110_4 {R : Type} (N : Nat) (K : Ex -> St -> Option R) : ∀ n : Nat, G110_4 (fun s => iter (exc E110 (it110 N) (loopOf Tryz.f110 4)) (canon (E110.keep 4)) n s K) = U110.l4 N (K110_4_0 K) (K110_4_1 K) n := by
 intro n
 induction n with
 | zero => exact rfl
 | succ n ih =>
  funext x0 x1 x2 x3
  have h : ∀ g, exc E110 (it110 N) (loopOf Tryz.f110 4) (tabl (T110_4 x0 x1 x2 x3)) (iterK g (canon (E110.keep 4)) K) = U110.r4 N (G110_4 g) (K110_4_0 K) (K110_4_1 K) x0 x1 x2 x3 := by intro g; kernel_rfl
  show iter _ _ (n + 1) _ K = _
  refine (iter_succ _ _ n _ K).trans ((h _).trans ?_)
  rw [ih]; rfl
theorem lo110_4 {R : Type} (N : Nat) : LoopOk E110 (it110 N (R := R)) (loopOf Tryz.f110 4) := by
 refine lo_one 4 (by kernel_rfl) (S := T110_4 [] [] false 0) (H := H110 N) (fun _ _ => rfl) fun K xs r h => ?_
 unfold H110 at h
 split at h
 ·rw [<- e110_4 N K N] at h; exact ⟨N, h⟩
 ·cases h
def sp110 : List Arg -> Option (Bool × Res)
 | [.v false [.sh 144 a0], .v false [.sh 144 a1]] => some (U110.c a0 a1, k110 (U110.v a0 a1))
 | _ => none
theorem ok110 : FnOk Tryz.prog T 110 sp110 := by
 refine fn_loop (E := E110) hE (call_cons ok134 call_nil) hM Tryz.func110 (code := Tryz.f110.body.getD .skip) (by kernel_rfl) (by kernel_rfl) (itf := fun N => it110 N) (l := [loopOf Tryz.f110 4]) (by kernel_rfl) (fun N => loops_cons (lo110_4 N) loops_nil) fun args r h => ?_
 unfold sp110 at h
 split at h
 ·obtain ⟨h1, rfl⟩ := sj h
  rename_i a0 a1
  exact ⟨by kernel_rfl, fun hf => ⟨od (by kernel_rfl), (U110.b_eq (R := Res) (fun r0 => some (k110 r0)) a0 a1 h1).imp fun N hN => Eq.trans (by kernel_rfl) hN⟩⟩
 ·cases h

def E76 : Env := mkE T md [(110, sp110)] [] [] []
def k76 (p : Bool) : Res := ⟨[.v false [.b p]], []⟩
def sp76 : List Arg -> Option (Bool × Res)
 | [.v true [.sh 144 a0, .i .i64 a1], .v true [.sh 144 a2, .i .i64 a3]] => some (U76.c a0 a1 a2 a3, k76 (U76.v a0 a1 a2 a3))
 | _ => none
theorem ok76 : FnOk Tryz.prog T 76 sp76 := by
 refine fn_flat (E := E76) hE (call_cons ok110 call_nil) hM Tryz.func76 (code := Tryz.f76.body.getD .skip) (by kernel_rfl) (by kernel_rfl) (by kernel_rfl) fun args r h => ?_
 unfold sp76 at h
 split at h
 ·obtain ⟨h1, rfl⟩ := sj h
  rename_i a0 a1 a2 a3
  exact ⟨by kernel_rfl, fun hf => ⟨od (by kernel_rfl), Eq.trans (by kernel_rfl) (U76.b_eq (R := Res) (fun r0 => some (k76 r0)) a0 a1 a2 a3 h1)⟩⟩
 ·cases h

def E36 : Env := mkE T md [(75, sp75), (76, sp76)] [] [] []
def k36 (p : Bool) : Res := ⟨[.v false [.b p]], []⟩
def sp36 : List Arg -> Option (Bool × Res)
 | [.v true [.sh 9 a0, .sh 9 a1, .sh 144 a2, .i .i64 a3], .v true [.sh 9 a4, .sh 9 a5, .sh 144 a6, .i .i64 a7]] => some (U36.c a0 a1 a2 a3 a4 a5 a6 a7, k36 (U36.v a0 a1 a2 a3 a4 a5 a6 a7))
 | _ => none
theorem ok36 : FnOk Tryz.prog T 36 sp36 := by
 refine fn_flat (E := E36) hE (call_cons ok75 (call_cons ok76 call_nil)) hM Tryz.func36 (code := Tryz.f36.body.getD .skip) (by kernel_rfl) (by kernel_rfl) (by kernel_rfl) fun args r h => ?_
 unfold sp36 at h
 split at h
 ·obtain ⟨h1, rfl⟩ := sj h
  rename_i a0 a1 a2 a3 a4 a5 a6 a7
  exact ⟨by kernel_rfl, fun hf => ⟨od (by kernel_rfl), Eq.trans (by kernel_rfl) (U36.b_eq (R := Res) (fun r0 => some (k36 r0)) a0 a1 a2 a3 a4 a5 a6 a7 h1)⟩⟩
 ·cases h

def E77 : Env := mkE T md [] [] [] []
def k77 (p : Bool) : Res := ⟨[.v false [.b p]], []⟩
def sp77 : List Arg -> Option (Bool × Res)
 | [.v true [.s a0, .s a1, .i .i64 a2, .i .i64 a3, .i .i64 a4], .v true [.s a5, .s a6, .i .i64 a7, .i .i64 a8, .i .i64 a9]] => some (true, k77 (U77.v a0 a1 a2 a3 a4 a5 a6 a7 a8 a9))
 | _ => none
theorem ok77 : FnOk Tryz.prog T 77 sp77 := by
 refine fn_flat (E := E77) hE call_nil hM Tryz.func77 (code := Tryz.f77.body.getD .skip) (by kernel_rfl) (by kernel_rfl) (by kernel_rfl) fun args r h => ?_
 unfold sp77 at h
 split at h
 ·obtain ⟨h1, rfl⟩ := sj h
  rename_i a0 a1 a2 a3 a4 a5 a6 a7 a8 a9
  exact ⟨by kernel_rfl, fun hf => ⟨od (by kernel_rfl), Eq.trans (by kernel_rfl) (U77.b_eq (R := Res) (fun r0 => some (k77 r0)) a0 a1 a2 a3 a4 a5 a6 a7 a8 a9)⟩⟩
 ·cases h

def E37 : Env := mkE T md [(77, sp77)] [(4, [0, 1, 4, 5])] [] []
def k37 (p : Bool) : Res := ⟨[.v false [.b p]], []⟩
def T37_4 (p0 p1 : Row) (p2 : Bool) (p3 : Int) : List (Nat × Cel) := [(0, .v (.v false [.sh 64 p0])), (2, .v (.v false [.sh 64 p1])), (8, .v (.v false [.b p2])), (10, .v (.v false [.i .i64 p3]))]
def G37_4 {R : Type} (g : St -> Option R) (p0 p1 : Row) (p2 : Bool) (p3 : Int) : Option R := g (tabl (T37_4 p0 p1 p2 p3))
def K37_4_0 {R : Type} (K : Ex -> St -> Option R) (p0 p1 : Row) (p2 : Bool) (p3 : Int) : Option R := K .ret (tabl (T37_4 p0 p1 p2 p3))
def K37_4_1 {R : Type} (K : Ex -> St -> Option R) (p0 p1 : Row) (p2 : Bool) (p3 : Int) : Option R := K (.exit 0) (tabl (T37_4 p0 p1 p2 p3))
def H37 {R : Type} (N : Nat) (K : Ex -> St -> Option R) : List Leaf -> Option R
 | [.R x0, .R x1, .B x2, .I x3] => U37.l4 N (K37_4_0 K) (K37_4_1 K) N x0 x1 x2 x3
 | _ => none
def it37 (N : Nat) {R : Type} : It R := fun rid f cn L K => bif Nat.beq rid 4 then tell (T37_4 [] [] false 0) (H37 N K) L none else none
theorem e37_4 {R : Type} (N : Nat) (K : Ex -> St -> Option R) : ∀ n : Nat, G37_4 (fun s => iter (exc E37 (it37 N) (loopOf Tryz.f37 4)) (canon (E37.keep 4)) n s K) = U37.l4 N (K37_4_0 K) (K37_4_1 K) n := by
 intro n
 induction n with
 | zero => exact rfl
 | succ n ih =>
  funext x0 x1 x2 x3
  have h : ∀ g, exc E37 (it37 N) (loopOf Tryz.f37 4) (tabl (T37_4 x0 x1 x2 x3)) (iterK g (canon (E37.keep 4)) K) = U37.r4 N (G37_4 g) (K37_4_0 K) (K37_4_1 K) x0 x1 x2 x3 := by intro g; kernel_rfl
  show iter _ _ (n + 1) _ K = _
  refine (iter_succ _ _ n _ K).trans ((h _).trans ?_)
  rw [ih]; rfl
theorem lo37_4 {R : Type} (N : Nat) : LoopOk E37 (it37 N (R := R)) (loopOf Tryz.f37 4) := by
 refine lo_one 4 (by kernel_rfl) (S := T37_4 [] [] false 0) (H := H37 N) (fun _ _ => rfl) fun K xs r h => ?_
 unfold H37 at h
 split at h
 ·rw [<- e37_4 N K N] at h; exact ⟨N, h⟩
 ·cases h
def sp37 : List Arg -> Option (Bool × Res)
 | [.v false [.sh 64 a0], .v false [.sh 64 a1]] => some (U37.c a0 a1, k37 (U37.v a0 a1))
 | _ => none
theorem ok37 : FnOk Tryz.prog T 37 sp37 := by
 refine fn_loop (E := E37) hE (call_cons ok77 call_nil) hM Tryz.func37 (code := Tryz.f37.body.getD .skip) (by kernel_rfl) (by kernel_rfl) (itf := fun N => it37 N) (l := [loopOf Tryz.f37 4]) (by kernel_rfl) (fun N => loops_cons (lo37_4 N) loops_nil) fun args r h => ?_
 unfold sp37 at h
 split at h
 ·obtain ⟨h1, rfl⟩ := sj h
  rename_i a0 a1
  exact ⟨by kernel_rfl, fun hf => ⟨od (by kernel_rfl), (U37.b_eq (R := Res) (fun r0 => some (k37 r0)) a0 a1 h1).imp fun N hN => Eq.trans (by kernel_rfl) hN⟩⟩
 ·cases h

def E78 : Env := mkE T md [] [] [] []
def k78 (p : Bool) : Res := ⟨[.v false [.b p]], []⟩
def sp78 : List Arg -> Option (Bool × Res)
 | [.v true [.i .i64 a0, .s a1, .i .i64 a2, .i .i64 a3, .i .i64 a4, .s a5, .i .i64 a6], .v true [.i .i64 a7, .s a8, .i .i64 a9, .i .i64 a10, .i .i64 a11, .s a12, .i .i64 a13]] => some (true, k78 (U78.v a0 a1 a2 a3 a4 a5 a6 a7 a8 a9 a10 a11 a12 a13))
 | _ => none
theorem ok78 : FnOk Tryz.prog T 78 sp78 := by
 refine fn_flat (E := E78) hE call_nil hM Tryz.func78 (code := Tryz.f78.body.getD .skip) (by kernel_rfl) (by kernel_rfl) (by kernel_rfl) fun args r h => ?_
 unfold sp78 at h
 split at h
 ·obtain ⟨h1, rfl⟩ := sj h
  rename_i a0 a1 a2 a3 a4 a5 a6 a7 a8 a9 a10 a11 a12 a13
  exact ⟨by kernel_rfl, fun hf => ⟨od (by kernel_rfl), Eq.trans (by kernel_rfl) (U78.b_eq (R := Res) (fun r0 => some (k78 r0)) a0 a1 a2 a3 a4 a5 a6 a7 a8 a9 a10 a11 a12 a13)⟩⟩
 ·cases h

def E38 : Env := mkE T md [(78, sp78)] [(4, [0, 1, 4, 5])] [] []
def k38 (p : Bool) : Res := ⟨[.v false [.b p]], []⟩
def T38_4 (p0 p1 : Row) (p2 : Bool) (p3 : Int) : List (Nat × Cel) := [(0, .v (.v false [.sh 106 p0])), (2, .v (.v false [.sh 106 p1])), (8, .v (.v false [.b p2])), (10, .v (.v false [.i .i64 p3]))]
def G38_4 {R : Type} (g : St -> Option R) (p0 p1 : Row) (p2 : Bool) (p3 : Int) : Option R := g (tabl (T38_4 p0 p1 p2 p3))
def K38_4_0 {R : Type} (K : Ex -> St -> Option R) (p0 p1 : Row) (p2 : Bool) (p3 : Int) : Option R := K .ret (tabl (T38_4 p0 p1 p2 p3))
def K38_4_1 {R : Type} (K : Ex -> St -> Option R) (p0 p1 : Row) (p2 : Bool) (p3 : Int) : Option R := K (.exit 0) (tabl (T38_4 p0 p1 p2 p3))
def H38 {R : Type} (N : Nat) (K : Ex -> St -> Option R) : List Leaf -> Option R
 | [.R x0, .R x1, .B x2, .I x3] => U38.l4 N (K38_4_0 K) (K38_4_1 K) N x0 x1 x2 x3
 | _ => none
def it38 (N : Nat) {R : Type} : It R := fun rid f cn L K => bif Nat.beq rid 4 then tell (T38_4 [] [] false 0) (H38 N K) L none else none
theorem e38_4 {R : Type} (N : Nat) (K : Ex -> St -> Option R) : ∀ n : Nat, G38_4 (fun s => iter (exc E38 (it38 N) (loopOf Tryz.f38 4)) (canon (E38.keep 4)) n s K) = U38.l4 N (K38_4_0 K) (K38_4_1 K) n := by
 intro n
 induction n with
 | zero => exact rfl
 | succ n ih =>
  funext x0 x1 x2 x3
  have h : ∀ g, exc E38 (it38 N) (loopOf Tryz.f38 4) (tabl (T38_4 x0 x1 x2 x3)) (iterK g (canon (E38.keep 4)) K) = U38.r4 N (G38_4 g) (K38_4_0 K) (K38_4_1 K) x0 x1 x2 x3 := by intro g; kernel_rfl
  show iter _ _ (n + 1) _ K = _
  refine (iter_succ _ _ n _ K).trans ((h _).trans ?_)
  rw [ih]; rfl
theorem lo38_4 {R : Type} (N : Nat) : LoopOk E38 (it38 N (R := R)) (loopOf Tryz.f38 4) := by
 refine lo_one 4 (by kernel_rfl) (S := T38_4 [] [] false 0) (H := H38 N) (fun _ _ => rfl) fun K xs r h => ?_
 unfold H38 at h
 split at h
 ·rw [<- e38_4 N K N] at h; exact ⟨N, h⟩
 ·cases h
def sp38 : List Arg -> Option (Bool × Res)
 | [.v false [.sh 106 a0], .v false [.sh 106 a1]] => some (U38.c a0 a1, k38 (U38.v a0 a1))
 | _ => none
theorem ok38 : FnOk Tryz.prog T 38 sp38 := by
 refine fn_loop (E := E38) hE (call_cons ok78 call_nil) hM Tryz.func38 (code := Tryz.f38.body.getD .skip) (by kernel_rfl) (by kernel_rfl) (itf := fun N => it38 N) (l := [loopOf Tryz.f38 4]) (by kernel_rfl) (fun N => loops_cons (lo38_4 N) loops_nil) fun args r h => ?_
 unfold sp38 at h
 split at h
 ·obtain ⟨h1, rfl⟩ := sj h
  rename_i a0 a1
  exact ⟨by kernel_rfl, fun hf => ⟨od (by kernel_rfl), (U38.b_eq (R := Res) (fun r0 => some (k38 r0)) a0 a1 h1).imp fun N hN => Eq.trans (by kernel_rfl) hN⟩⟩
 ·cases h

def E11 : Env := mkE T md [(20, sp20), (36, sp36), (37, sp37), (38, sp38)] [] [] []
def k11 (p : Bool) : Res := ⟨[.v false [.b p]], []⟩
def sp11 : List Arg -> Option (Bool × Res)
 | [.v true [.i .i64 a0, .sh 88 a1, .sh 9 a2, .sh 9 a3, .sh 144 a4, .i .i64 a5, .sh 64 a6, .sh 106 a7, .i .i64 a8], .v true [.i .i64 a9, .sh 88 a10, .sh 9 a11, .sh 9 a12, .sh 144 a13, .i .i64 a14, .sh 64 a15, .sh 106 a16, .i .i64 a17]] => some (U11.c a0 a1 a2 a3 a4 a5 a6 a7 a8 a9 a10 a11 a12 a13 a14 a15 a16 a17, k11 (U11.v a0 a1 a2 a3 a4 a5 a6 a7 a8 a9 a10 a11 a12 a13 a14 a15 a16 a17))
 | _ => none
theorem ok11 : FnOk Tryz.prog T 11 sp11 := by
 refine fn_flat (E := E11) hE (call_cons ok20 (call_cons ok36 (call_cons ok37 (call_cons ok38 call_nil)))) hM Tryz.func11 (code := Tryz.f11.body.getD .skip) (by kernel_rfl) (by kernel_rfl) (by kernel_rfl) fun args r h => ?_
 unfold sp11 at h
 split at h
 ·obtain ⟨h1, rfl⟩ := sj h
  rename_i a0 a1 a2 a3 a4 a5 a6 a7 a8 a9 a10 a11 a12 a13 a14 a15 a16 a17
  exact ⟨by kernel_rfl, fun hf => ⟨od (by kernel_rfl), Eq.trans (by kernel_rfl) (U11.b_eq (R := Res) (fun r0 => some (k11 r0)) a0 a1 a2 a3 a4 a5 a6 a7 a8 a9 a10 a11 a12 a13 a14 a15 a16 a17 h1)⟩⟩
 ·cases h

def E59 : Env := mkE T md [] [(4, [0, 3])] [] []
def k59 (p : ByteArray) : Res := ⟨[.v false [.s p]], []⟩
def T59_4 (p0 : Int) (p1 : ByteArray) : List (Nat × Cel) := [(0, .v (.v false [.i .i64 p0])), (6, .v (.v false [.s p1]))]
def G59_4 {R : Type} (g : St -> Option R) (p0 : Int) (p1 : ByteArray) : Option R := g (tabl (T59_4 p0 p1))
def K59_4_0 {R : Type} (K : Ex -> St -> Option R) (p0 : Int) (p1 : ByteArray) : Option R := K (.exit 0) (tabl (T59_4 p0 p1))
def H59 {R : Type} (N : Nat) (K : Ex -> St -> Option R) : List Leaf -> Option R
 | [.I x0, .S x1] => U59.l4 N (K59_4_0 K) N x0 x1
 | _ => none
def it59 (N : Nat) {R : Type} : It R := fun rid f cn L K => bif Nat.beq rid 4 then tell (T59_4 0 ⟨#[]⟩) (H59 N K) L none else none
theorem e59_4 {R : Type} (N : Nat) (K : Ex -> St -> Option R) : ∀ n : Nat, G59_4 (fun s => iter (exc E59 (it59 N) (loopOf Tryz.f59 4)) (canon (E59.keep 4)) n s K) = U59.l4 N (K59_4_0 K) n := by
 intro n
 induction n with
 | zero => exact rfl
 | succ n ih =>
  funext x0 x1
  have h : ∀ g, exc E59 (it59 N) (loopOf Tryz.f59 4) (tabl (T59_4 x0 x1)) (iterK g (canon (E59.keep 4)) K) = U59.r4 N (G59_4 g) (K59_4_0 K) x0 x1 := by intro g; kernel_rfl
  show iter _ _ (n + 1) _ K = _
  refine (iter_succ _ _ n _ K).trans ((h _).trans ?_)
  rw [ih]; rfl
theorem lo59_4 {R : Type} (N : Nat) : LoopOk E59 (it59 N (R := R)) (loopOf Tryz.f59 4) := by
 refine lo_one 4 (by kernel_rfl) (S := T59_4 0 ⟨#[]⟩) (H := H59 N) (fun _ _ => rfl) fun K xs r h => ?_
 unfold H59 at h
 split at h
 ·rw [<- e59_4 N K N] at h; exact ⟨N, h⟩
 ·cases h
def sp59 : List Arg -> Option (Bool × Res)
 | [.v false [.i .i64 a0]] => some (U59.c a0, k59 (U59.v a0))
 | _ => none
theorem ok59 : FnOk Tryz.prog T 59 sp59 := by
 refine fn_loop (E := E59) hE call_nil hM Tryz.func59 (code := Tryz.f59.body.getD .skip) (by kernel_rfl) (by kernel_rfl) (itf := fun N => it59 N) (l := [loopOf Tryz.f59 4]) (by kernel_rfl) (fun N => loops_cons (lo59_4 N) loops_nil) fun args r h => ?_
 unfold sp59 at h
 split at h
 ·obtain ⟨h1, rfl⟩ := sj h
  rename_i a0
  exact ⟨by kernel_rfl, fun hf => ⟨od (by kernel_rfl), (U59.b_eq (R := Res) (fun r0 => some (k59 r0)) a0 h1).imp fun N hN => Eq.trans (by kernel_rfl) hN⟩⟩
 ·cases h

def E21 : Env := mkE T md [(59, sp59)] [(2, [0, 1, 5])] [] []
def k21 (p : Int × Row) : Res := ⟨[.v false [.i .i64 p.1]], [[.kp p.2]]⟩
def T21_2 (p0 p1 : Int) (p2 : Row) : List (Nat × Cel) := [(0, .v (.v false [.own 900000000])), (2, .v (.v false [.i .i64 p0])), (10, .v (.v false [.i .i64 p1])), (1800000001, .o (.row 88 true p2))]
def G21_2 {R : Type} (g : St -> Option R) (p0 p1 : Int) (p2 : Row) : Option R := g (tabl (T21_2 p0 p1 p2))
def K21_2_0 {R : Type} (K : Ex -> St -> Option R) (p0 p1 : Int) (p2 : Row) : Option R := K (.exit 0) (tabl (T21_2 p0 p1 p2))
def H21 {R : Type} (N : Nat) (K : Ex -> St -> Option R) : List Leaf -> Option R
 | [.I x0, .I x1, .R x2] => U21.l2 N (K21_2_0 K) N x0 x1 x2
 | _ => none
def it21 (N : Nat) {R : Type} : It R := fun rid f cn L K => bif Nat.beq rid 2 then tell (T21_2 0 0 []) (H21 N K) L none else none
theorem e21_2 {R : Type} (N : Nat) (K : Ex -> St -> Option R) : ∀ n : Nat, G21_2 (fun s => iter (exc E21 (it21 N) (loopOf Tryz.f21 2)) (canon (E21.keep 2)) n s K) = U21.l2 N (K21_2_0 K) n := by
 intro n
 induction n with
 | zero => exact rfl
 | succ n ih =>
  funext x0 x1 x2
  have h : ∀ g, exc E21 (it21 N) (loopOf Tryz.f21 2) (tabl (T21_2 x0 x1 x2)) (iterK g (canon (E21.keep 2)) K) = U21.r2 N (G21_2 g) (K21_2_0 K) x0 x1 x2 := by intro g; kernel_rfl
  show iter _ _ (n + 1) _ K = _
  refine (iter_succ _ _ n _ K).trans ((h _).trans ?_)
  rw [ih]; rfl
theorem lo21_2 {R : Type} (N : Nat) : LoopOk E21 (it21 N (R := R)) (loopOf Tryz.f21 2) := by
 refine lo_one 2 (by kernel_rfl) (S := T21_2 0 0 []) (H := H21 N) (fun _ _ => rfl) fun K xs r h => ?_
 unfold H21 at h
 split at h
 ·rw [<- e21_2 N K N] at h; exact ⟨N, h⟩
 ·cases h
def sp21 : List Arg -> Option (Bool × Res)
 | [.v false [.ow 88 true a0], .v false [.i .i64 a1]] => some (U21.c a0 a1, k21 (U21.v a0 a1))
 | _ => none
theorem ok21 : FnOk Tryz.prog T 21 sp21 := by
 refine fn_loop (E := E21) hE (call_cons ok59 call_nil) hM Tryz.func21 (code := Tryz.f21.body.getD .skip) (by kernel_rfl) (by kernel_rfl) (itf := fun N => it21 N) (l := [loopOf Tryz.f21 2]) (by kernel_rfl) (fun N => loops_cons (lo21_2 N) loops_nil) fun args r h => ?_
 unfold sp21 at h
 split at h
 ·obtain ⟨h1, rfl⟩ := sj h
  rename_i a0 a1
  exact ⟨by kernel_rfl, fun hf => ⟨od (by kernel_rfl), (U21.b_eq (R := Res) (fun r0 r1 => some (k21 (r0, r1))) a0 a1 h1).imp fun N hN => Eq.trans (by kernel_rfl) hN⟩⟩
 ·cases h

def E79 : Env := mkE T md [(59, sp59)] [(2, [0, 1, 5])] [] []
def k79 (p : Int × Row) : Res := ⟨[.v false [.i .i64 p.1]], [[.kp p.2]]⟩
def T79_2 (p0 p1 : Int) (p2 : Row) : List (Nat × Cel) := [(0, .v (.v false [.own 900000000])), (2, .v (.v false [.i .i64 p0])), (10, .v (.v false [.i .i64 p1])), (1800000001, .o (.row 9 true p2))]
def G79_2 {R : Type} (g : St -> Option R) (p0 p1 : Int) (p2 : Row) : Option R := g (tabl (T79_2 p0 p1 p2))
def K79_2_0 {R : Type} (K : Ex -> St -> Option R) (p0 p1 : Int) (p2 : Row) : Option R := K (.exit 0) (tabl (T79_2 p0 p1 p2))
def H79 {R : Type} (N : Nat) (K : Ex -> St -> Option R) : List Leaf -> Option R
 | [.I x0, .I x1, .R x2] => U79.l2 N (K79_2_0 K) N x0 x1 x2
 | _ => none
def it79 (N : Nat) {R : Type} : It R := fun rid f cn L K => bif Nat.beq rid 2 then tell (T79_2 0 0 []) (H79 N K) L none else none
theorem e79_2 {R : Type} (N : Nat) (K : Ex -> St -> Option R) : ∀ n : Nat, G79_2 (fun s => iter (exc E79 (it79 N) (loopOf Tryz.f79 2)) (canon (E79.keep 2)) n s K) = U79.l2 N (K79_2_0 K) n := by
 intro n
 induction n with
 | zero => exact rfl
 | succ n ih =>
  funext x0 x1 x2
  have h : ∀ g, exc E79 (it79 N) (loopOf Tryz.f79 2) (tabl (T79_2 x0 x1 x2)) (iterK g (canon (E79.keep 2)) K) = U79.r2 N (G79_2 g) (K79_2_0 K) x0 x1 x2 := by intro g; kernel_rfl
  show iter _ _ (n + 1) _ K = _
  refine (iter_succ _ _ n _ K).trans ((h _).trans ?_)
  rw [ih]; rfl
theorem lo79_2 {R : Type} (N : Nat) : LoopOk E79 (it79 N (R := R)) (loopOf Tryz.f79 2) := by
 refine lo_one 2 (by kernel_rfl) (S := T79_2 0 0 []) (H := H79 N) (fun _ _ => rfl) fun K xs r h => ?_
 unfold H79 at h
 split at h
 ·rw [<- e79_2 N K N] at h; exact ⟨N, h⟩
 ·cases h
def sp79 : List Arg -> Option (Bool × Res)
 | [.v false [.ow 9 true a0], .v false [.i .i64 a1]] => some (U79.c a0 a1, k79 (U79.v a0 a1))
 | _ => none
theorem ok79 : FnOk Tryz.prog T 79 sp79 := by
 refine fn_loop (E := E79) hE (call_cons ok59 call_nil) hM Tryz.func79 (code := Tryz.f79.body.getD .skip) (by kernel_rfl) (by kernel_rfl) (itf := fun N => it79 N) (l := [loopOf Tryz.f79 2]) (by kernel_rfl) (fun N => loops_cons (lo79_2 N) loops_nil) fun args r h => ?_
 unfold sp79 at h
 split at h
 ·obtain ⟨h1, rfl⟩ := sj h
  rename_i a0 a1
  exact ⟨by kernel_rfl, fun hf => ⟨od (by kernel_rfl), (U79.b_eq (R := Res) (fun r0 r1 => some (k79 (r0, r1))) a0 a1 h1).imp fun N hN => Eq.trans (by kernel_rfl) hN⟩⟩
 ·cases h

def E135 : Env := mkE T md [] [(2, [0, 1, 5])] [] []
def k135 (p : Int × Row) : Res := ⟨[.v false [.i .i64 p.1]], [[.kp p.2]]⟩
def T135_2 (p0 p1 : Int) (p2 : Row) : List (Nat × Cel) := [(0, .v (.v false [.own 900000000])), (2, .v (.v false [.i .i64 p0])), (10, .v (.v false [.i .i64 p1])), (1800000001, .o (.row 3 true p2))]
def G135_2 {R : Type} (g : St -> Option R) (p0 p1 : Int) (p2 : Row) : Option R := g (tabl (T135_2 p0 p1 p2))
def K135_2_0 {R : Type} (K : Ex -> St -> Option R) (p0 p1 : Int) (p2 : Row) : Option R := K (.exit 0) (tabl (T135_2 p0 p1 p2))
def H135 {R : Type} (N : Nat) (K : Ex -> St -> Option R) : List Leaf -> Option R
 | [.I x0, .I x1, .R x2] => U135.l2 N (K135_2_0 K) N x0 x1 x2
 | _ => none
def it135 (N : Nat) {R : Type} : It R := fun rid f cn L K => bif Nat.beq rid 2 then tell (T135_2 0 0 []) (H135 N K) L none else none
theorem e135_2 {R : Type} (N : Nat) (K : Ex -> St -> Option R) : ∀ n : Nat, G135_2 (fun s => iter (exc E135 (it135 N) (loopOf Tryz.f135 2)) (canon (E135.keep 2)) n s K) = U135.l2 N (K135_2_0 K) n := by
 intro n
 induction n with
 | zero => exact rfl
 | succ n ih =>
  funext x0 x1 x2
  have h : ∀ g, exc E135 (it135 N) (loopOf Tryz.f135 2) (tabl (T135_2 x0 x1 x2)) (iterK g (canon (E135.keep 2)) K) = U135.r2 N (G135_2 g) (K135_2_0 K) x0 x1 x2 := by intro g; kernel_rfl
  show iter _ _ (n + 1) _ K = _
  refine (iter_succ _ _ n _ K).trans ((h _).trans ?_)
  rw [ih]; rfl
theorem lo135_2 {R : Type} (N : Nat) : LoopOk E135 (it135 N (R := R)) (loopOf Tryz.f135 2) := by
 refine lo_one 2 (by kernel_rfl) (S := T135_2 0 0 []) (H := H135 N) (fun _ _ => rfl) fun K xs r h => ?_
 unfold H135 at h
 split at h
 ·rw [<- e135_2 N K N] at h; exact ⟨N, h⟩
 ·cases h
def sp135 : List Arg -> Option (Bool × Res)
 | [.v false [.ow 3 true a0], .v false [.i .i64 a1]] => some (U135.c a0 a1, k135 (U135.v a0 a1))
 | _ => none
theorem ok135 : FnOk Tryz.prog T 135 sp135 := by
 refine fn_loop (E := E135) hE call_nil hM Tryz.func135 (code := Tryz.f135.body.getD .skip) (by kernel_rfl) (by kernel_rfl) (itf := fun N => it135 N) (l := [loopOf Tryz.f135 2]) (by kernel_rfl) (fun N => loops_cons (lo135_2 N) loops_nil) fun args r h => ?_
 unfold sp135 at h
 split at h
 ·obtain ⟨h1, rfl⟩ := sj h
  rename_i a0 a1
  exact ⟨by kernel_rfl, fun hf => ⟨od (by kernel_rfl), (U135.b_eq (R := Res) (fun r0 r1 => some (k135 (r0, r1))) a0 a1 h1).imp fun N hN => Eq.trans (by kernel_rfl) hN⟩⟩
 ·cases h

def E111 : Env := mkE T md [(135, sp135)] [(2, [0, 1, 5])] [] []
def k111 (p : Int × Row) : Res := ⟨[.v false [.i .i64 p.1]], [[.kp p.2]]⟩
def T111_2 (p0 p1 : Int) (p2 : Row) : List (Nat × Cel) := [(0, .v (.v false [.own 900000000])), (2, .v (.v false [.i .i64 p0])), (10, .v (.v false [.i .i64 p1])), (1800000001, .o (.row 144 true p2))]
def G111_2 {R : Type} (g : St -> Option R) (p0 p1 : Int) (p2 : Row) : Option R := g (tabl (T111_2 p0 p1 p2))
def K111_2_0 {R : Type} (K : Ex -> St -> Option R) (p0 p1 : Int) (p2 : Row) : Option R := K (.exit 0) (tabl (T111_2 p0 p1 p2))
def H111 {R : Type} (N : Nat) (K : Ex -> St -> Option R) : List Leaf -> Option R
 | [.I x0, .I x1, .R x2] => U111.l2 N (K111_2_0 K) N x0 x1 x2
 | _ => none
def it111 (N : Nat) {R : Type} : It R := fun rid f cn L K => bif Nat.beq rid 2 then tell (T111_2 0 0 []) (H111 N K) L none else none
theorem e111_2 {R : Type} (N : Nat) (K : Ex -> St -> Option R) : ∀ n : Nat, G111_2 (fun s => iter (exc E111 (it111 N) (loopOf Tryz.f111 2)) (canon (E111.keep 2)) n s K) = U111.l2 N (K111_2_0 K) n := by
 intro n
 induction n with
 | zero => exact rfl
 | succ n ih =>
  funext x0 x1 x2
  have h : ∀ g, exc E111 (it111 N) (loopOf Tryz.f111 2) (tabl (T111_2 x0 x1 x2)) (iterK g (canon (E111.keep 2)) K) = U111.r2 N (G111_2 g) (K111_2_0 K) x0 x1 x2 := by intro g; kernel_rfl
  show iter _ _ (n + 1) _ K = _
  refine (iter_succ _ _ n _ K).trans ((h _).trans ?_)
  rw [ih]; rfl
theorem lo111_2 {R : Type} (N : Nat) : LoopOk E111 (it111 N (R := R)) (loopOf Tryz.f111 2) := by
 refine lo_one 2 (by kernel_rfl) (S := T111_2 0 0 []) (H := H111 N) (fun _ _ => rfl) fun K xs r h => ?_
 unfold H111 at h
 split at h
 ·rw [<- e111_2 N K N] at h; exact ⟨N, h⟩
 ·cases h
def sp111 : List Arg -> Option (Bool × Res)
 | [.v false [.ow 144 true a0], .v false [.i .i64 a1]] => some (U111.c a0 a1, k111 (U111.v a0 a1))
 | _ => none
theorem ok111 : FnOk Tryz.prog T 111 sp111 := by
 refine fn_loop (E := E111) hE (call_cons ok135 call_nil) hM Tryz.func111 (code := Tryz.f111.body.getD .skip) (by kernel_rfl) (by kernel_rfl) (itf := fun N => it111 N) (l := [loopOf Tryz.f111 2]) (by kernel_rfl) (fun N => loops_cons (lo111_2 N) loops_nil) fun args r h => ?_
 unfold sp111 at h
 split at h
 ·obtain ⟨h1, rfl⟩ := sj h
  rename_i a0 a1
  exact ⟨by kernel_rfl, fun hf => ⟨od (by kernel_rfl), (U111.b_eq (R := Res) (fun r0 r1 => some (k111 (r0, r1))) a0 a1 h1).imp fun N hN => Eq.trans (by kernel_rfl) hN⟩⟩
 ·cases h

def E80 : Env := mkE T md [(111, sp111)] [] [] []
def k80 (p : Int × Row) : Res := ⟨[.v false [.i .i64 p.1]], [[.kp p.2, .nl]]⟩
def sp80 : List Arg -> Option (Bool × Res)
 | [.v true [.ow 144 true a0, .i .i64 a1], .v false [.i .i64 a2]] => some (U80.c a0 a1 a2, k80 (U80.v a0 a1 a2))
 | _ => none
theorem ok80 : FnOk Tryz.prog T 80 sp80 := by
 refine fn_flat (E := E80) hE (call_cons ok111 call_nil) hM Tryz.func80 (code := Tryz.f80.body.getD .skip) (by kernel_rfl) (by kernel_rfl) (by kernel_rfl) fun args r h => ?_
 unfold sp80 at h
 split at h
 ·obtain ⟨h1, rfl⟩ := sj h
  rename_i a0 a1 a2
  exact ⟨by kernel_rfl, fun hf => ⟨od (by kernel_rfl), Eq.trans (by kernel_rfl) (U80.b_eq (R := Res) (fun r0 r1 => some (k80 (r0, r1))) a0 a1 a2 h1)⟩⟩
 ·cases h

def E39 : Env := mkE T md [(79, sp79), (80, sp80)] [] [] []
def k39 (p : Int × Row × Row × Row) : Res := ⟨[.v false [.i .i64 p.1]], [[.kp p.2.1, .kp p.2.2.1, .kp p.2.2.2, .nl]]⟩
def sp39 : List Arg -> Option (Bool × Res)
 | [.v true [.ow 9 true a0, .ow 9 true a1, .ow 144 true a2, .i .i64 a3], .v false [.i .i64 a4]] => some (U39.c a0 a1 a2 a3 a4, k39 (U39.v a0 a1 a2 a3 a4))
 | _ => none
theorem ok39 : FnOk Tryz.prog T 39 sp39 := by
 refine fn_flat (E := E39) hE (call_cons ok79 (call_cons ok80 call_nil)) hM Tryz.func39 (code := Tryz.f39.body.getD .skip) (by kernel_rfl) (by kernel_rfl) (by kernel_rfl) fun args r h => ?_
 unfold sp39 at h
 split at h
 ·obtain ⟨h1, rfl⟩ := sj h
  rename_i a0 a1 a2 a3 a4
  exact ⟨by kernel_rfl, fun hf => ⟨od (by kernel_rfl), Eq.trans (by kernel_rfl) (U39.b_eq (R := Res) (fun r0 r1 r2 r3 => some (k39 (r0, r1, r2, r3))) a0 a1 a2 a3 a4 h1)⟩⟩
 ·cases h

def E40 : Env := mkE T md [(59, sp59)] [(2, [0, 1, 5])] [] []
def k40 (p : Int × Row) : Res := ⟨[.v false [.i .i64 p.1]], [[.kp p.2]]⟩
def T40_2 (p0 p1 : Int) (p2 : Row) : List (Nat × Cel) := [(0, .v (.v false [.own 900000000])), (2, .v (.v false [.i .i64 p0])), (10, .v (.v false [.i .i64 p1])), (1800000001, .o (.row 64 true p2))]
def G40_2 {R : Type} (g : St -> Option R) (p0 p1 : Int) (p2 : Row) : Option R := g (tabl (T40_2 p0 p1 p2))
def K40_2_0 {R : Type} (K : Ex -> St -> Option R) (p0 p1 : Int) (p2 : Row) : Option R := K (.exit 0) (tabl (T40_2 p0 p1 p2))
def H40 {R : Type} (N : Nat) (K : Ex -> St -> Option R) : List Leaf -> Option R
 | [.I x0, .I x1, .R x2] => U40.l2 N (K40_2_0 K) N x0 x1 x2
 | _ => none
def it40 (N : Nat) {R : Type} : It R := fun rid f cn L K => bif Nat.beq rid 2 then tell (T40_2 0 0 []) (H40 N K) L none else none
theorem e40_2 {R : Type} (N : Nat) (K : Ex -> St -> Option R) : ∀ n : Nat, G40_2 (fun s => iter (exc E40 (it40 N) (loopOf Tryz.f40 2)) (canon (E40.keep 2)) n s K) = U40.l2 N (K40_2_0 K) n := by
 intro n
 induction n with
 | zero => exact rfl
 | succ n ih =>
  funext x0 x1 x2
  have h : ∀ g, exc E40 (it40 N) (loopOf Tryz.f40 2) (tabl (T40_2 x0 x1 x2)) (iterK g (canon (E40.keep 2)) K) = U40.r2 N (G40_2 g) (K40_2_0 K) x0 x1 x2 := by intro g; kernel_rfl
  show iter _ _ (n + 1) _ K = _
  refine (iter_succ _ _ n _ K).trans ((h _).trans ?_)
  rw [ih]; rfl
theorem lo40_2 {R : Type} (N : Nat) : LoopOk E40 (it40 N (R := R)) (loopOf Tryz.f40 2) := by
 refine lo_one 2 (by kernel_rfl) (S := T40_2 0 0 []) (H := H40 N) (fun _ _ => rfl) fun K xs r h => ?_
 unfold H40 at h
 split at h
 ·rw [<- e40_2 N K N] at h; exact ⟨N, h⟩
 ·cases h
def sp40 : List Arg -> Option (Bool × Res)
 | [.v false [.ow 64 true a0], .v false [.i .i64 a1]] => some (U40.c a0 a1, k40 (U40.v a0 a1))
 | _ => none
theorem ok40 : FnOk Tryz.prog T 40 sp40 := by
 refine fn_loop (E := E40) hE (call_cons ok59 call_nil) hM Tryz.func40 (code := Tryz.f40.body.getD .skip) (by kernel_rfl) (by kernel_rfl) (itf := fun N => it40 N) (l := [loopOf Tryz.f40 2]) (by kernel_rfl) (fun N => loops_cons (lo40_2 N) loops_nil) fun args r h => ?_
 unfold sp40 at h
 split at h
 ·obtain ⟨h1, rfl⟩ := sj h
  rename_i a0 a1
  exact ⟨by kernel_rfl, fun hf => ⟨od (by kernel_rfl), (U40.b_eq (R := Res) (fun r0 r1 => some (k40 (r0, r1))) a0 a1 h1).imp fun N hN => Eq.trans (by kernel_rfl) hN⟩⟩
 ·cases h

def E41 : Env := mkE T md [(59, sp59)] [(2, [0, 1, 5])] [] []
def k41 (p : Int × Row) : Res := ⟨[.v false [.i .i64 p.1]], [[.kp p.2]]⟩
def T41_2 (p0 p1 : Int) (p2 : Row) : List (Nat × Cel) := [(0, .v (.v false [.own 900000000])), (2, .v (.v false [.i .i64 p0])), (10, .v (.v false [.i .i64 p1])), (1800000001, .o (.row 106 true p2))]
def G41_2 {R : Type} (g : St -> Option R) (p0 p1 : Int) (p2 : Row) : Option R := g (tabl (T41_2 p0 p1 p2))
def K41_2_0 {R : Type} (K : Ex -> St -> Option R) (p0 p1 : Int) (p2 : Row) : Option R := K (.exit 0) (tabl (T41_2 p0 p1 p2))
def H41 {R : Type} (N : Nat) (K : Ex -> St -> Option R) : List Leaf -> Option R
 | [.I x0, .I x1, .R x2] => U41.l2 N (K41_2_0 K) N x0 x1 x2
 | _ => none
def it41 (N : Nat) {R : Type} : It R := fun rid f cn L K => bif Nat.beq rid 2 then tell (T41_2 0 0 []) (H41 N K) L none else none
theorem e41_2 {R : Type} (N : Nat) (K : Ex -> St -> Option R) : ∀ n : Nat, G41_2 (fun s => iter (exc E41 (it41 N) (loopOf Tryz.f41 2)) (canon (E41.keep 2)) n s K) = U41.l2 N (K41_2_0 K) n := by
 intro n
 induction n with
 | zero => exact rfl
 | succ n ih =>
  funext x0 x1 x2
  have h : ∀ g, exc E41 (it41 N) (loopOf Tryz.f41 2) (tabl (T41_2 x0 x1 x2)) (iterK g (canon (E41.keep 2)) K) = U41.r2 N (G41_2 g) (K41_2_0 K) x0 x1 x2 := by intro g; kernel_rfl
  show iter _ _ (n + 1) _ K = _
  refine (iter_succ _ _ n _ K).trans ((h _).trans ?_)
  rw [ih]; rfl
theorem lo41_2 {R : Type} (N : Nat) : LoopOk E41 (it41 N (R := R)) (loopOf Tryz.f41 2) := by
 refine lo_one 2 (by kernel_rfl) (S := T41_2 0 0 []) (H := H41 N) (fun _ _ => rfl) fun K xs r h => ?_
 unfold H41 at h
 split at h
 ·rw [<- e41_2 N K N] at h; exact ⟨N, h⟩
 ·cases h
def sp41 : List Arg -> Option (Bool × Res)
 | [.v false [.ow 106 true a0], .v false [.i .i64 a1]] => some (U41.c a0 a1, k41 (U41.v a0 a1))
 | _ => none
theorem ok41 : FnOk Tryz.prog T 41 sp41 := by
 refine fn_loop (E := E41) hE (call_cons ok59 call_nil) hM Tryz.func41 (code := Tryz.f41.body.getD .skip) (by kernel_rfl) (by kernel_rfl) (itf := fun N => it41 N) (l := [loopOf Tryz.f41 2]) (by kernel_rfl) (fun N => loops_cons (lo41_2 N) loops_nil) fun args r h => ?_
 unfold sp41 at h
 split at h
 ·obtain ⟨h1, rfl⟩ := sj h
  rename_i a0 a1
  exact ⟨by kernel_rfl, fun hf => ⟨od (by kernel_rfl), (U41.b_eq (R := Res) (fun r0 r1 => some (k41 (r0, r1))) a0 a1 h1).imp fun N hN => Eq.trans (by kernel_rfl) hN⟩⟩
 ·cases h

def E12 : Env := mkE T md [(21, sp21), (39, sp39), (40, sp40), (41, sp41)] [] [] []
def k12 (p : Int × Row × Row × Row × Row × Row × Row) : Res := ⟨[.v false [.i .i64 p.1]], [[.nl, .kp p.2.1, .kp p.2.2.1, .kp p.2.2.2.1, .kp p.2.2.2.2.1, .nl, .kp p.2.2.2.2.2.1, .kp p.2.2.2.2.2.2, .nl]]⟩
def sp12 : List Arg -> Option (Bool × Res)
 | [.v true [.i .i64 a0, .ow 88 true a1, .ow 9 true a2, .ow 9 true a3, .ow 144 true a4, .i .i64 a5, .ow 64 true a6, .ow 106 true a7, .i .i64 a8], .v false [.i .i64 a9]] => some (U12.c a0 a1 a2 a3 a4 a5 a6 a7 a8 a9, k12 (U12.v a0 a1 a2 a3 a4 a5 a6 a7 a8 a9))
 | _ => none
theorem ok12 : FnOk Tryz.prog T 12 sp12 := by
 refine fn_flat (E := E12) hE (call_cons ok21 (call_cons ok39 (call_cons ok40 (call_cons ok41 call_nil)))) hM Tryz.func12 (code := Tryz.f12.body.getD .skip) (by kernel_rfl) (by kernel_rfl) (by kernel_rfl) fun args r h => ?_
 unfold sp12 at h
 split at h
 ·obtain ⟨h1, rfl⟩ := sj h
  rename_i a0 a1 a2 a3 a4 a5 a6 a7 a8 a9
  exact ⟨by kernel_rfl, fun hf => ⟨od (by kernel_rfl), Eq.trans (by kernel_rfl) (U12.b_eq (R := Res) (fun r0 r1 r2 r3 r4 r5 r6 => some (k12 (r0, r1, r2, r3, r4, r5, r6))) a0 a1 a2 a3 a4 a5 a6 a7 a8 a9 h1)⟩⟩
 ·cases h

def E42 : Env := mkE T md [(59, sp59)] [(2, [0, 1, 4, 5])] [] []
def k42 (p : Int) : Res := ⟨[.v false [.i .i64 p]], []⟩
def T42_2 (p0 : Row) (p1 p2 p3 : Int) : List (Nat × Cel) := [(0, .v (.v false [.sh 88 p0])), (2, .v (.v false [.i .i64 p1])), (8, .v (.v false [.i .i64 p2])), (10, .v (.v false [.i .i64 p3]))]
def G42_2 {R : Type} (g : St -> Option R) (p0 : Row) (p1 p2 p3 : Int) : Option R := g (tabl (T42_2 p0 p1 p2 p3))
def K42_2_0 {R : Type} (K : Ex -> St -> Option R) (p0 : Row) (p1 p2 p3 : Int) : Option R := K .ret (tabl (T42_2 p0 p1 p2 p3))
def K42_2_1 {R : Type} (K : Ex -> St -> Option R) (p0 : Row) (p1 p2 p3 : Int) : Option R := K (.exit 0) (tabl (T42_2 p0 p1 p2 p3))
def H42 {R : Type} (N : Nat) (K : Ex -> St -> Option R) : List Leaf -> Option R
 | [.R x0, .I x1, .I x2, .I x3] => U42.l2 N (K42_2_0 K) (K42_2_1 K) N x0 x1 x2 x3
 | _ => none
def it42 (N : Nat) {R : Type} : It R := fun rid f cn L K => bif Nat.beq rid 2 then tell (T42_2 [] 0 0 0) (H42 N K) L none else none
theorem e42_2 {R : Type} (N : Nat) (K : Ex -> St -> Option R) : ∀ n : Nat, G42_2 (fun s => iter (exc E42 (it42 N) (loopOf Tryz.f42 2)) (canon (E42.keep 2)) n s K) = U42.l2 N (K42_2_0 K) (K42_2_1 K) n := by
 intro n
 induction n with
 | zero => exact rfl
 | succ n ih =>
  funext x0 x1 x2 x3
  have h : ∀ g, exc E42 (it42 N) (loopOf Tryz.f42 2) (tabl (T42_2 x0 x1 x2 x3)) (iterK g (canon (E42.keep 2)) K) = U42.r2 N (G42_2 g) (K42_2_0 K) (K42_2_1 K) x0 x1 x2 x3 := by intro g; kernel_rfl
  show iter _ _ (n + 1) _ K = _
  refine (iter_succ _ _ n _ K).trans ((h _).trans ?_)
  rw [ih]; rfl
theorem lo42_2 {R : Type} (N : Nat) : LoopOk E42 (it42 N (R := R)) (loopOf Tryz.f42 2) := by
 refine lo_one 2 (by kernel_rfl) (S := T42_2 [] 0 0 0) (H := H42 N) (fun _ _ => rfl) fun K xs r h => ?_
 unfold H42 at h
 split at h
 ·rw [<- e42_2 N K N] at h; exact ⟨N, h⟩
 ·cases h
def sp42 : List Arg -> Option (Bool × Res)
 | [.v false [.sh 88 a0], .v false [.i .i64 a1]] => some (U42.c a0 a1, k42 (U42.v a0 a1))
 | _ => none
theorem ok42 : FnOk Tryz.prog T 42 sp42 := by
 refine fn_loop (E := E42) hE (call_cons ok59 call_nil) hM Tryz.func42 (code := Tryz.f42.body.getD .skip) (by kernel_rfl) (by kernel_rfl) (itf := fun N => it42 N) (l := [loopOf Tryz.f42 2]) (by kernel_rfl) (fun N => loops_cons (lo42_2 N) loops_nil) fun args r h => ?_
 unfold sp42 at h
 split at h
 ·obtain ⟨h1, rfl⟩ := sj h
  rename_i a0 a1
  exact ⟨by kernel_rfl, fun hf => ⟨od (by kernel_rfl), (U42.b_eq (R := Res) (fun r0 => some (k42 r0)) a0 a1 h1).imp fun N hN => Eq.trans (by kernel_rfl) hN⟩⟩
 ·cases h

def E81 : Env := mkE T md [(59, sp59)] [(2, [0, 1, 4, 5])] [] []
def k81 (p : Int) : Res := ⟨[.v false [.i .i64 p]], []⟩
def T81_2 (p0 : Row) (p1 p2 p3 : Int) : List (Nat × Cel) := [(0, .v (.v false [.sh 9 p0])), (2, .v (.v false [.i .i64 p1])), (8, .v (.v false [.i .i64 p2])), (10, .v (.v false [.i .i64 p3]))]
def G81_2 {R : Type} (g : St -> Option R) (p0 : Row) (p1 p2 p3 : Int) : Option R := g (tabl (T81_2 p0 p1 p2 p3))
def K81_2_0 {R : Type} (K : Ex -> St -> Option R) (p0 : Row) (p1 p2 p3 : Int) : Option R := K .ret (tabl (T81_2 p0 p1 p2 p3))
def K81_2_1 {R : Type} (K : Ex -> St -> Option R) (p0 : Row) (p1 p2 p3 : Int) : Option R := K (.exit 0) (tabl (T81_2 p0 p1 p2 p3))
def H81 {R : Type} (N : Nat) (K : Ex -> St -> Option R) : List Leaf -> Option R
 | [.R x0, .I x1, .I x2, .I x3] => U81.l2 N (K81_2_0 K) (K81_2_1 K) N x0 x1 x2 x3
 | _ => none
def it81 (N : Nat) {R : Type} : It R := fun rid f cn L K => bif Nat.beq rid 2 then tell (T81_2 [] 0 0 0) (H81 N K) L none else none
theorem e81_2 {R : Type} (N : Nat) (K : Ex -> St -> Option R) : ∀ n : Nat, G81_2 (fun s => iter (exc E81 (it81 N) (loopOf Tryz.f81 2)) (canon (E81.keep 2)) n s K) = U81.l2 N (K81_2_0 K) (K81_2_1 K) n := by
 intro n
 induction n with
 | zero => exact rfl
 | succ n ih =>
  funext x0 x1 x2 x3
  have h : ∀ g, exc E81 (it81 N) (loopOf Tryz.f81 2) (tabl (T81_2 x0 x1 x2 x3)) (iterK g (canon (E81.keep 2)) K) = U81.r2 N (G81_2 g) (K81_2_0 K) (K81_2_1 K) x0 x1 x2 x3 := by intro g; kernel_rfl
  show iter _ _ (n + 1) _ K = _
  refine (iter_succ _ _ n _ K).trans ((h _).trans ?_)
  rw [ih]; rfl
theorem lo81_2 {R : Type} (N : Nat) : LoopOk E81 (it81 N (R := R)) (loopOf Tryz.f81 2) := by
 refine lo_one 2 (by kernel_rfl) (S := T81_2 [] 0 0 0) (H := H81 N) (fun _ _ => rfl) fun K xs r h => ?_
 unfold H81 at h
 split at h
 ·rw [<- e81_2 N K N] at h; exact ⟨N, h⟩
 ·cases h
def sp81 : List Arg -> Option (Bool × Res)
 | [.v false [.sh 9 a0], .v false [.i .i64 a1]] => some (U81.c a0 a1, k81 (U81.v a0 a1))
 | _ => none
theorem ok81 : FnOk Tryz.prog T 81 sp81 := by
 refine fn_loop (E := E81) hE (call_cons ok59 call_nil) hM Tryz.func81 (code := Tryz.f81.body.getD .skip) (by kernel_rfl) (by kernel_rfl) (itf := fun N => it81 N) (l := [loopOf Tryz.f81 2]) (by kernel_rfl) (fun N => loops_cons (lo81_2 N) loops_nil) fun args r h => ?_
 unfold sp81 at h
 split at h
 ·obtain ⟨h1, rfl⟩ := sj h
  rename_i a0 a1
  exact ⟨by kernel_rfl, fun hf => ⟨od (by kernel_rfl), (U81.b_eq (R := Res) (fun r0 => some (k81 r0)) a0 a1 h1).imp fun N hN => Eq.trans (by kernel_rfl) hN⟩⟩
 ·cases h

def E136 : Env := mkE T md [] [(2, [0, 1, 4, 5])] [] []
def k136 (p : Int) : Res := ⟨[.v false [.i .i64 p]], []⟩
def T136_2 (p0 : Row) (p1 p2 p3 : Int) : List (Nat × Cel) := [(0, .v (.v false [.sh 3 p0])), (2, .v (.v false [.i .i64 p1])), (8, .v (.v false [.i .i64 p2])), (10, .v (.v false [.i .i64 p3]))]
def G136_2 {R : Type} (g : St -> Option R) (p0 : Row) (p1 p2 p3 : Int) : Option R := g (tabl (T136_2 p0 p1 p2 p3))
def K136_2_0 {R : Type} (K : Ex -> St -> Option R) (p0 : Row) (p1 p2 p3 : Int) : Option R := K .ret (tabl (T136_2 p0 p1 p2 p3))
def K136_2_1 {R : Type} (K : Ex -> St -> Option R) (p0 : Row) (p1 p2 p3 : Int) : Option R := K (.exit 0) (tabl (T136_2 p0 p1 p2 p3))
def H136 {R : Type} (N : Nat) (K : Ex -> St -> Option R) : List Leaf -> Option R
 | [.R x0, .I x1, .I x2, .I x3] => U136.l2 N (K136_2_0 K) (K136_2_1 K) N x0 x1 x2 x3
 | _ => none
def it136 (N : Nat) {R : Type} : It R := fun rid f cn L K => bif Nat.beq rid 2 then tell (T136_2 [] 0 0 0) (H136 N K) L none else none
theorem e136_2 {R : Type} (N : Nat) (K : Ex -> St -> Option R) : ∀ n : Nat, G136_2 (fun s => iter (exc E136 (it136 N) (loopOf Tryz.f136 2)) (canon (E136.keep 2)) n s K) = U136.l2 N (K136_2_0 K) (K136_2_1 K) n := by
 intro n
 induction n with
 | zero => exact rfl
 | succ n ih =>
  funext x0 x1 x2 x3
  have h : ∀ g, exc E136 (it136 N) (loopOf Tryz.f136 2) (tabl (T136_2 x0 x1 x2 x3)) (iterK g (canon (E136.keep 2)) K) = U136.r2 N (G136_2 g) (K136_2_0 K) (K136_2_1 K) x0 x1 x2 x3 := by intro g; kernel_rfl
  show iter _ _ (n + 1) _ K = _
  refine (iter_succ _ _ n _ K).trans ((h _).trans ?_)
  rw [ih]; rfl
theorem lo136_2 {R : Type} (N : Nat) : LoopOk E136 (it136 N (R := R)) (loopOf Tryz.f136 2) := by
 refine lo_one 2 (by kernel_rfl) (S := T136_2 [] 0 0 0) (H := H136 N) (fun _ _ => rfl) fun K xs r h => ?_
 unfold H136 at h
 split at h
 ·rw [<- e136_2 N K N] at h; exact ⟨N, h⟩
 ·cases h
def sp136 : List Arg -> Option (Bool × Res)
 | [.v false [.sh 3 a0], .v false [.i .i64 a1]] => some (U136.c a0 a1, k136 (U136.v a0 a1))
 | _ => none
theorem ok136 : FnOk Tryz.prog T 136 sp136 := by
 refine fn_loop (E := E136) hE call_nil hM Tryz.func136 (code := Tryz.f136.body.getD .skip) (by kernel_rfl) (by kernel_rfl) (itf := fun N => it136 N) (l := [loopOf Tryz.f136 2]) (by kernel_rfl) (fun N => loops_cons (lo136_2 N) loops_nil) fun args r h => ?_
 unfold sp136 at h
 split at h
 ·obtain ⟨h1, rfl⟩ := sj h
  rename_i a0 a1
  exact ⟨by kernel_rfl, fun hf => ⟨od (by kernel_rfl), (U136.b_eq (R := Res) (fun r0 => some (k136 r0)) a0 a1 h1).imp fun N hN => Eq.trans (by kernel_rfl) hN⟩⟩
 ·cases h

def E112 : Env := mkE T md [(136, sp136)] [(2, [0, 1, 4, 5])] [] []
def k112 (p : Int) : Res := ⟨[.v false [.i .i64 p]], []⟩
def T112_2 (p0 : Row) (p1 p2 p3 : Int) : List (Nat × Cel) := [(0, .v (.v false [.sh 144 p0])), (2, .v (.v false [.i .i64 p1])), (8, .v (.v false [.i .i64 p2])), (10, .v (.v false [.i .i64 p3]))]
def G112_2 {R : Type} (g : St -> Option R) (p0 : Row) (p1 p2 p3 : Int) : Option R := g (tabl (T112_2 p0 p1 p2 p3))
def K112_2_0 {R : Type} (K : Ex -> St -> Option R) (p0 : Row) (p1 p2 p3 : Int) : Option R := K .ret (tabl (T112_2 p0 p1 p2 p3))
def K112_2_1 {R : Type} (K : Ex -> St -> Option R) (p0 : Row) (p1 p2 p3 : Int) : Option R := K (.exit 0) (tabl (T112_2 p0 p1 p2 p3))
def H112 {R : Type} (N : Nat) (K : Ex -> St -> Option R) : List Leaf -> Option R
 | [.R x0, .I x1, .I x2, .I x3] => U112.l2 N (K112_2_0 K) (K112_2_1 K) N x0 x1 x2 x3
 | _ => none
def it112 (N : Nat) {R : Type} : It R := fun rid f cn L K => bif Nat.beq rid 2 then tell (T112_2 [] 0 0 0) (H112 N K) L none else none
theorem e112_2 {R : Type} (N : Nat) (K : Ex -> St -> Option R) : ∀ n : Nat, G112_2 (fun s => iter (exc E112 (it112 N) (loopOf Tryz.f112 2)) (canon (E112.keep 2)) n s K) = U112.l2 N (K112_2_0 K) (K112_2_1 K) n := by
 intro n
 induction n with
 | zero => exact rfl
 | succ n ih =>
  funext x0 x1 x2 x3
  have h : ∀ g, exc E112 (it112 N) (loopOf Tryz.f112 2) (tabl (T112_2 x0 x1 x2 x3)) (iterK g (canon (E112.keep 2)) K) = U112.r2 N (G112_2 g) (K112_2_0 K) (K112_2_1 K) x0 x1 x2 x3 := by intro g; kernel_rfl
  show iter _ _ (n + 1) _ K = _
  refine (iter_succ _ _ n _ K).trans ((h _).trans ?_)
  rw [ih]; rfl
theorem lo112_2 {R : Type} (N : Nat) : LoopOk E112 (it112 N (R := R)) (loopOf Tryz.f112 2) := by
 refine lo_one 2 (by kernel_rfl) (S := T112_2 [] 0 0 0) (H := H112 N) (fun _ _ => rfl) fun K xs r h => ?_
 unfold H112 at h
 split at h
 ·rw [<- e112_2 N K N] at h; exact ⟨N, h⟩
 ·cases h
def sp112 : List Arg -> Option (Bool × Res)
 | [.v false [.sh 144 a0], .v false [.i .i64 a1]] => some (U112.c a0 a1, k112 (U112.v a0 a1))
 | _ => none
theorem ok112 : FnOk Tryz.prog T 112 sp112 := by
 refine fn_loop (E := E112) hE (call_cons ok136 call_nil) hM Tryz.func112 (code := Tryz.f112.body.getD .skip) (by kernel_rfl) (by kernel_rfl) (itf := fun N => it112 N) (l := [loopOf Tryz.f112 2]) (by kernel_rfl) (fun N => loops_cons (lo112_2 N) loops_nil) fun args r h => ?_
 unfold sp112 at h
 split at h
 ·obtain ⟨h1, rfl⟩ := sj h
  rename_i a0 a1
  exact ⟨by kernel_rfl, fun hf => ⟨od (by kernel_rfl), (U112.b_eq (R := Res) (fun r0 => some (k112 r0)) a0 a1 h1).imp fun N hN => Eq.trans (by kernel_rfl) hN⟩⟩
 ·cases h

def E82 : Env := mkE T md [(112, sp112)] [] [] []
def k82 (p : Int) : Res := ⟨[.v false [.i .i64 p]], []⟩
def sp82 : List Arg -> Option (Bool × Res)
 | [.v true [.sh 144 a0, .i .i64 a1], .v false [.i .i64 a2]] => some (U82.c a0 a1 a2, k82 (U82.v a0 a1 a2))
 | _ => none
theorem ok82 : FnOk Tryz.prog T 82 sp82 := by
 refine fn_flat (E := E82) hE (call_cons ok112 call_nil) hM Tryz.func82 (code := Tryz.f82.body.getD .skip) (by kernel_rfl) (by kernel_rfl) (by kernel_rfl) fun args r h => ?_
 unfold sp82 at h
 split at h
 ·obtain ⟨h1, rfl⟩ := sj h
  rename_i a0 a1 a2
  exact ⟨by kernel_rfl, fun hf => ⟨od (by kernel_rfl), Eq.trans (by kernel_rfl) (U82.b_eq (R := Res) (fun r0 => some (k82 r0)) a0 a1 a2 h1)⟩⟩
 ·cases h

def E43 : Env := mkE T md [(81, sp81), (82, sp82)] [] [] []
def k43 (p : Int) : Res := ⟨[.v false [.i .i64 p]], []⟩
def sp43 : List Arg -> Option (Bool × Res)
 | [.v true [.sh 9 a0, .sh 9 a1, .sh 144 a2, .i .i64 a3], .v false [.i .i64 a4]] => some (U43.c a0 a1 a2 a3 a4, k43 (U43.v a0 a1 a2 a3 a4))
 | _ => none
theorem ok43 : FnOk Tryz.prog T 43 sp43 := by
 refine fn_flat (E := E43) hE (call_cons ok81 (call_cons ok82 call_nil)) hM Tryz.func43 (code := Tryz.f43.body.getD .skip) (by kernel_rfl) (by kernel_rfl) (by kernel_rfl) fun args r h => ?_
 unfold sp43 at h
 split at h
 ·obtain ⟨h1, rfl⟩ := sj h
  rename_i a0 a1 a2 a3 a4
  exact ⟨by kernel_rfl, fun hf => ⟨od (by kernel_rfl), Eq.trans (by kernel_rfl) (U43.b_eq (R := Res) (fun r0 => some (k43 r0)) a0 a1 a2 a3 a4 h1)⟩⟩
 ·cases h

def E44 : Env := mkE T md [(59, sp59)] [(2, [0, 1, 4, 5])] [] []
def k44 (p : Int) : Res := ⟨[.v false [.i .i64 p]], []⟩
def T44_2 (p0 : Row) (p1 p2 p3 : Int) : List (Nat × Cel) := [(0, .v (.v false [.sh 64 p0])), (2, .v (.v false [.i .i64 p1])), (8, .v (.v false [.i .i64 p2])), (10, .v (.v false [.i .i64 p3]))]
def G44_2 {R : Type} (g : St -> Option R) (p0 : Row) (p1 p2 p3 : Int) : Option R := g (tabl (T44_2 p0 p1 p2 p3))
def K44_2_0 {R : Type} (K : Ex -> St -> Option R) (p0 : Row) (p1 p2 p3 : Int) : Option R := K .ret (tabl (T44_2 p0 p1 p2 p3))
def K44_2_1 {R : Type} (K : Ex -> St -> Option R) (p0 : Row) (p1 p2 p3 : Int) : Option R := K (.exit 0) (tabl (T44_2 p0 p1 p2 p3))
def H44 {R : Type} (N : Nat) (K : Ex -> St -> Option R) : List Leaf -> Option R
 | [.R x0, .I x1, .I x2, .I x3] => U44.l2 N (K44_2_0 K) (K44_2_1 K) N x0 x1 x2 x3
 | _ => none
def it44 (N : Nat) {R : Type} : It R := fun rid f cn L K => bif Nat.beq rid 2 then tell (T44_2 [] 0 0 0) (H44 N K) L none else none
theorem e44_2 {R : Type} (N : Nat) (K : Ex -> St -> Option R) : ∀ n : Nat, G44_2 (fun s => iter (exc E44 (it44 N) (loopOf Tryz.f44 2)) (canon (E44.keep 2)) n s K) = U44.l2 N (K44_2_0 K) (K44_2_1 K) n := by
 intro n
 induction n with
 | zero => exact rfl
 | succ n ih =>
  funext x0 x1 x2 x3
  have h : ∀ g, exc E44 (it44 N) (loopOf Tryz.f44 2) (tabl (T44_2 x0 x1 x2 x3)) (iterK g (canon (E44.keep 2)) K) = U44.r2 N (G44_2 g) (K44_2_0 K) (K44_2_1 K) x0 x1 x2 x3 := by intro g; kernel_rfl
  show iter _ _ (n + 1) _ K = _
  refine (iter_succ _ _ n _ K).trans ((h _).trans ?_)
  rw [ih]; rfl
theorem lo44_2 {R : Type} (N : Nat) : LoopOk E44 (it44 N (R := R)) (loopOf Tryz.f44 2) := by
 refine lo_one 2 (by kernel_rfl) (S := T44_2 [] 0 0 0) (H := H44 N) (fun _ _ => rfl) fun K xs r h => ?_
 unfold H44 at h
 split at h
 ·rw [<- e44_2 N K N] at h; exact ⟨N, h⟩
 ·cases h
def sp44 : List Arg -> Option (Bool × Res)
 | [.v false [.sh 64 a0], .v false [.i .i64 a1]] => some (U44.c a0 a1, k44 (U44.v a0 a1))
 | _ => none
theorem ok44 : FnOk Tryz.prog T 44 sp44 := by
 refine fn_loop (E := E44) hE (call_cons ok59 call_nil) hM Tryz.func44 (code := Tryz.f44.body.getD .skip) (by kernel_rfl) (by kernel_rfl) (itf := fun N => it44 N) (l := [loopOf Tryz.f44 2]) (by kernel_rfl) (fun N => loops_cons (lo44_2 N) loops_nil) fun args r h => ?_
 unfold sp44 at h
 split at h
 ·obtain ⟨h1, rfl⟩ := sj h
  rename_i a0 a1
  exact ⟨by kernel_rfl, fun hf => ⟨od (by kernel_rfl), (U44.b_eq (R := Res) (fun r0 => some (k44 r0)) a0 a1 h1).imp fun N hN => Eq.trans (by kernel_rfl) hN⟩⟩
 ·cases h

def E45 : Env := mkE T md [(59, sp59)] [(2, [0, 1, 4, 5])] [] []
def k45 (p : Int) : Res := ⟨[.v false [.i .i64 p]], []⟩
def T45_2 (p0 : Row) (p1 p2 p3 : Int) : List (Nat × Cel) := [(0, .v (.v false [.sh 106 p0])), (2, .v (.v false [.i .i64 p1])), (8, .v (.v false [.i .i64 p2])), (10, .v (.v false [.i .i64 p3]))]
def G45_2 {R : Type} (g : St -> Option R) (p0 : Row) (p1 p2 p3 : Int) : Option R := g (tabl (T45_2 p0 p1 p2 p3))
def K45_2_0 {R : Type} (K : Ex -> St -> Option R) (p0 : Row) (p1 p2 p3 : Int) : Option R := K .ret (tabl (T45_2 p0 p1 p2 p3))
def K45_2_1 {R : Type} (K : Ex -> St -> Option R) (p0 : Row) (p1 p2 p3 : Int) : Option R := K (.exit 0) (tabl (T45_2 p0 p1 p2 p3))
def H45 {R : Type} (N : Nat) (K : Ex -> St -> Option R) : List Leaf -> Option R
 | [.R x0, .I x1, .I x2, .I x3] => U45.l2 N (K45_2_0 K) (K45_2_1 K) N x0 x1 x2 x3
 | _ => none
def it45 (N : Nat) {R : Type} : It R := fun rid f cn L K => bif Nat.beq rid 2 then tell (T45_2 [] 0 0 0) (H45 N K) L none else none
theorem e45_2 {R : Type} (N : Nat) (K : Ex -> St -> Option R) : ∀ n : Nat, G45_2 (fun s => iter (exc E45 (it45 N) (loopOf Tryz.f45 2)) (canon (E45.keep 2)) n s K) = U45.l2 N (K45_2_0 K) (K45_2_1 K) n := by
 intro n
 induction n with
 | zero => exact rfl
 | succ n ih =>
  funext x0 x1 x2 x3
  have h : ∀ g, exc E45 (it45 N) (loopOf Tryz.f45 2) (tabl (T45_2 x0 x1 x2 x3)) (iterK g (canon (E45.keep 2)) K) = U45.r2 N (G45_2 g) (K45_2_0 K) (K45_2_1 K) x0 x1 x2 x3 := by intro g; kernel_rfl
  show iter _ _ (n + 1) _ K = _
  refine (iter_succ _ _ n _ K).trans ((h _).trans ?_)
  rw [ih]; rfl
theorem lo45_2 {R : Type} (N : Nat) : LoopOk E45 (it45 N (R := R)) (loopOf Tryz.f45 2) := by
 refine lo_one 2 (by kernel_rfl) (S := T45_2 [] 0 0 0) (H := H45 N) (fun _ _ => rfl) fun K xs r h => ?_
 unfold H45 at h
 split at h
 ·rw [<- e45_2 N K N] at h; exact ⟨N, h⟩
 ·cases h
def sp45 : List Arg -> Option (Bool × Res)
 | [.v false [.sh 106 a0], .v false [.i .i64 a1]] => some (U45.c a0 a1, k45 (U45.v a0 a1))
 | _ => none
theorem ok45 : FnOk Tryz.prog T 45 sp45 := by
 refine fn_loop (E := E45) hE (call_cons ok59 call_nil) hM Tryz.func45 (code := Tryz.f45.body.getD .skip) (by kernel_rfl) (by kernel_rfl) (itf := fun N => it45 N) (l := [loopOf Tryz.f45 2]) (by kernel_rfl) (fun N => loops_cons (lo45_2 N) loops_nil) fun args r h => ?_
 unfold sp45 at h
 split at h
 ·obtain ⟨h1, rfl⟩ := sj h
  rename_i a0 a1
  exact ⟨by kernel_rfl, fun hf => ⟨od (by kernel_rfl), (U45.b_eq (R := Res) (fun r0 => some (k45 r0)) a0 a1 h1).imp fun N hN => Eq.trans (by kernel_rfl) hN⟩⟩
 ·cases h

def E13 : Env := mkE T md [(42, sp42), (43, sp43), (44, sp44), (45, sp45)] [] [] []
def k13 (p : Int) : Res := ⟨[.v false [.i .i64 p]], []⟩
def sp13 : List Arg -> Option (Bool × Res)
 | [.v true [.i .i64 a0, .sh 88 a1, .sh 9 a2, .sh 9 a3, .sh 144 a4, .i .i64 a5, .sh 64 a6, .sh 106 a7, .i .i64 a8], .v false [.i .i64 a9]] => some (U13.c a0 a1 a2 a3 a4 a5 a6 a7 a8 a9, k13 (U13.v a0 a1 a2 a3 a4 a5 a6 a7 a8 a9))
 | _ => none
theorem ok13 : FnOk Tryz.prog T 13 sp13 := by
 refine fn_flat (E := E13) hE (call_cons ok42 (call_cons ok43 (call_cons ok44 (call_cons ok45 call_nil)))) hM Tryz.func13 (code := Tryz.f13.body.getD .skip) (by kernel_rfl) (by kernel_rfl) (by kernel_rfl) fun args r h => ?_
 unfold sp13 at h
 split at h
 ·obtain ⟨h1, rfl⟩ := sj h
  rename_i a0 a1 a2 a3 a4 a5 a6 a7 a8 a9
  exact ⟨by kernel_rfl, fun hf => ⟨od (by kernel_rfl), Eq.trans (by kernel_rfl) (U13.b_eq (R := Res) (fun r0 => some (k13 r0)) a0 a1 a2 a3 a4 a5 a6 a7 a8 a9 h1)⟩⟩
 ·cases h

def E4 : Env := mkE T md [(7, sp7), (9, sp9), (14, sp14), (15, sp15), (11, sp11), (12, sp12), (13, sp13)] [] [] []
def k4 (p : Bool) : Res := ⟨[.v false [.b p]], []⟩
def sp4 : List Arg -> Option (Bool × Res)
 | [.v true [.i .i64 a0, .sh 85 a1, .sh 9 a2, .sh 9 a3, .sh 144 a4, .i .i64 a5, .sh 100 a6, .sh 103 a7, .i .i64 a8], .v false [.i .i64 a9], .v false [.s a10]] => some (U4.c a0 a1 a2 a3 a4 a5 a6 a7 a8 a9 a10, k4 (U4.v a0 a1 a2 a3 a4 a5 a6 a7 a8 a9 a10))
 | _ => none
theorem ok4 : FnOk Tryz.prog T 4 sp4 := by
 refine fn_flat (E := E4) hE (call_cons ok7 (call_cons ok9 (call_cons ok14 (call_cons ok15 (call_cons ok11 (call_cons ok12 (call_cons ok13 call_nil))))))) hM Tryz.func4 (code := Tryz.f4.body.getD .skip) (by kernel_rfl) (by kernel_rfl) (by kernel_rfl) fun args r h => ?_
 unfold sp4 at h
 split at h
 ·obtain ⟨h1, rfl⟩ := sj h
  rename_i a0 a1 a2 a3 a4 a5 a6 a7 a8 a9 a10
  exact ⟨by kernel_rfl, fun hf => ⟨od (by kernel_rfl), Eq.trans (by kernel_rfl) (U4.b_eq (R := Res) (fun r0 => some (k4 r0)) a0 a1 a2 a3 a4 a5 a6 a7 a8 a9 a10 h1)⟩⟩
 ·cases h

end Go.FG.Se
