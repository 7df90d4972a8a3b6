/- Functions of the program: the evaluation of each, and that a call of it does what is told. No condition. -/
import Derived.Test.YtijidheebmbkcaaGreatTab
import Derived.Test.YtijidheebmbkcaaGreatPExactRestored
import Derived.Test.YtijidheebmbkcaaGreatIns
set_option linter.unusedVariables false
set_option linter.unusedSimpArgs false
set_option maxRecDepth 100000
namespace Go.FG.Se
open Go.Proofs
def E49 : Env := mkE T md [] [] [] []
def k49 (p : Int) : Res := ⟨[.v false [.i .i64 p]], []⟩
def sp49 : List Arg -> Option (Bool × Res)
 | [.v true [.s a0, .i .i64 a1, .i .i64 a2, .s a3], .v false [.i .i64 a4]] => some (true, k49 (U49.v a0 a1 a2 a3 a4))
 | _ => none
theorem ok49 : FnOk Tryz.prog T 49 sp49 := by
 refine fn_flat (E := E49) hE call_nil hM Tryz.func49 (code := Tryz.f49.body.getD .skip) (by kernel_rfl) (by kernel_rfl) (by kernel_rfl) fun args r h => ?_
 unfold sp49 at h
 split at h
 ·obtain ⟨h1, rfl⟩ := sj h
  rename_i a0 a1 a2 a3 a4
  exact ⟨by kernel_rfl, fun hf => ⟨od (by kernel_rfl), Eq.trans (by kernel_rfl) (U49.b_eq (R := Res) (fun r0 => some (k49 r0)) a0 a1 a2 a3 a4)⟩⟩
 ·cases h

def E16 : Env := mkE T md [(49, sp49)] [(5, [0, 1, 4, 5])] [] []
def k16 (p : Int) : Res := ⟨[.v false [.i .i64 p]], []⟩
def T16_5 (p0 : Row) (p1 p2 p3 : Int) : List (Nat × Cel) := [(0, .v (.v false [.sh 85 p0])), (2, .v (.v false [.i .i64 p1])), (8, .v (.v false [.i .i64 p2])), (10, .v (.v false [.i .i64 p3]))]
def G16_5 {R : Type} (g : St -> Option R) (p0 : Row) (p1 p2 p3 : Int) : Option R := g (tabl (T16_5 p0 p1 p2 p3))
def K16_5_0 {R : Type} (K : Ex -> St -> Option R) (p0 : Row) (p1 p2 p3 : Int) : Option R := K .ret (tabl (T16_5 p0 p1 p2 p3))
def K16_5_1 {R : Type} (K : Ex -> St -> Option R) (p0 : Row) (p1 p2 p3 : Int) : Option R := K (.exit 0) (tabl (T16_5 p0 p1 p2 p3))
def H16 {R : Type} (N : Nat) (K : Ex -> St -> Option R) : List Leaf -> Option R
 | [.R x0, .I x1, .I x2, .I x3] => U16.l5 N (K16_5_0 K) (K16_5_1 K) N x0 x1 x2 x3
 | _ => none
def it16 (N : Nat) {R : Type} : It R := fun rid f cn L K => bif Nat.beq rid 5 then tell (T16_5 [] 0 0 0) (H16 N K) L none else none
theorem e16_5 {R : Type} (N : Nat) (K : Ex -> St -> Option R) : ∀ n : Nat, G16_5 (fun s => iter (exc E16 (it16 N) (loopOf Tryz.f16 5)) (canon (E16.keep 5)) n s K) = U16.l5 N (K16_5_0 K) (K16_5_1 K) n := by
 intro n
 induction n with
 | zero => exact rfl
 | succ n ih =>
  funext x0 x1 x2 x3
  have h : ∀ g, exc E16 (it16 N) (loopOf Tryz.f16 5) (tabl (T16_5 x0 x1 x2 x3)) (iterK g (canon (E16.keep 5)) K) = U16.r5 N (G16_5 g) (K16_5_0 K) (K16_5_1 K) x0 x1 x2 x3 := by intro g; kernel_rfl
  show iter _ _ (n + 1) _ K = _
  refine (iter_succ _ _ n _ K).trans ((h _).trans ?_)
  rw [ih]; rfl
theorem lo16_5 {R : Type} (N : Nat) : LoopOk E16 (it16 N (R := R)) (loopOf Tryz.f16 5) := by
 refine lo_one 5 (by kernel_rfl) (S := T16_5 [] 0 0 0) (H := H16 N) (fun _ _ => rfl) fun K xs r h => ?_
 unfold H16 at h
 split at h
 ·rw [<- e16_5 N K N] at h; exact ⟨N, h⟩
 ·cases h
def sp16 : List Arg -> Option (Bool × Res)
 | [.v false [.sh 85 a0], .v false [.i .i64 a1]] => some (U16.c a0 a1, k16 (U16.v a0 a1))
 | _ => none
theorem ok16 : FnOk Tryz.prog T 16 sp16 := by
 refine fn_loop (E := E16) hE (call_cons ok49 call_nil) hM Tryz.func16 (code := Tryz.f16.body.getD .skip) (by kernel_rfl) (by kernel_rfl) (itf := fun N => it16 N) (l := [loopOf Tryz.f16 5]) (by kernel_rfl) (fun N => loops_cons (lo16_5 N) loops_nil) fun args r h => ?_
 unfold sp16 at h
 split at h
 ·obtain ⟨h1, rfl⟩ := sj h
  rename_i a0 a1
  exact ⟨by kernel_rfl, fun hf => ⟨od (by kernel_rfl), (U16.b_eq (R := Res) (fun r0 => some (k16 r0)) a0 a1 h1).imp fun N hN => Eq.trans (by kernel_rfl) hN⟩⟩
 ·cases h

def E54 : Env := mkE T md [] [] [] []
def k54 (p : ByteArray × Int × Int × ByteArray) : Res := ⟨[.v true [.s p.1, .i .i64 p.2.1, .i .i64 p.2.2.1, .s p.2.2.2]], []⟩
def sp54 : List Arg -> Option (Bool × Res)
 | [.v true [.s a0, .i .i64 a1, .i .i64 a2, .s a3]] => some (true, k54 (U54.v a0 a1 a2 a3))
 | _ => none
theorem ok54 : FnOk Tryz.prog T 54 sp54 := by
 refine fn_flat (E := E54) hE call_nil hM Tryz.func54 (code := Tryz.f54.body.getD .skip) (by kernel_rfl) (by kernel_rfl) (by kernel_rfl) fun args r h => ?_
 unfold sp54 at h
 split at h
 ·obtain ⟨h1, rfl⟩ := sj h
  rename_i a0 a1 a2 a3
  exact ⟨by kernel_rfl, fun hf => ⟨od (by kernel_rfl), Eq.trans (by kernel_rfl) (U54.b_eq (R := Res) (fun r0 r1 r2 r3 => some (k54 (r0, r1, r2, r3))) a0 a1 a2 a3)⟩⟩
 ·cases h

def E18 : Env := mkE T md [(54, sp54)] [(3, [0, 3, 4])] [] []
def k18 (p : Row) : Res := ⟨[.v false [.ow 88 true p]], []⟩
def T18_3 (p0 : Row) (p1 : Int) (p2 : Row) : List (Nat × Cel) := [(0, .v (.v false [.sh 85 p0])), (6, .v (.v false [.own 0])), (8, .v (.v false [.i .i64 p1])), (1, .o (.row 88 true p2))]
def G18_3 {R : Type} (g : St -> Option R) (p0 : Row) (p1 : Int) (p2 : Row) : Option R := g (tabl (T18_3 p0 p1 p2))
def K18_3_0 {R : Type} (K : Ex -> St -> Option R) (p0 : Row) (p1 : Int) (p2 : Row) : Option R := K (.exit 0) (tabl (T18_3 p0 p1 p2))
def H18 {R : Type} (N : Nat) (K : Ex -> St -> Option R) : List Leaf -> Option R
 | [.R x0, .I x1, .R x2] => U18.l3 N (K18_3_0 K) N x0 x1 x2
 | _ => none
def it18 (N : Nat) {R : Type} : It R := fun rid f cn L K => bif Nat.beq rid 3 then tell (T18_3 [] 0 []) (H18 N K) L none else none
theorem e18_3 {R : Type} (N : Nat) (K : Ex -> St -> Option R) : ∀ n : Nat, G18_3 (fun s => iter (exc E18 (it18 N) (loopOf Tryz.f18 3)) (canon (E18.keep 3)) n s K) = U18.l3 N (K18_3_0 K) n := by
 intro n
 induction n with
 | zero => exact rfl
 | succ n ih =>
  funext x0 x1 x2
  have h : ∀ g, exc E18 (it18 N) (loopOf Tryz.f18 3) (tabl (T18_3 x0 x1 x2)) (iterK g (canon (E18.keep 3)) K) = U18.r3 N (G18_3 g) (K18_3_0 K) x0 x1 x2 := by intro g; kernel_rfl
  show iter _ _ (n + 1) _ K = _
  refine (iter_succ _ _ n _ K).trans ((h _).trans ?_)
  rw [ih]; rfl
theorem lo18_3 {R : Type} (N : Nat) : LoopOk E18 (it18 N (R := R)) (loopOf Tryz.f18 3) := by
 refine lo_one 3 (by kernel_rfl) (S := T18_3 [] 0 []) (H := H18 N) (fun _ _ => rfl) fun K xs r h => ?_
 unfold H18 at h
 split at h
 ·rw [<- e18_3 N K N] at h; exact ⟨N, h⟩
 ·cases h
def sp18 : List Arg -> Option (Bool × Res)
 | [.v false [.sh 85 a0]] => some (U18.c a0, k18 (U18.v a0))
 | _ => none
theorem ok18 : FnOk Tryz.prog T 18 sp18 := by
 refine fn_loop (E := E18) hE (call_cons ok54 call_nil) hM Tryz.func18 (code := Tryz.f18.body.getD .skip) (by kernel_rfl) (by kernel_rfl) (itf := fun N => it18 N) (l := [loopOf Tryz.f18 3]) (by kernel_rfl) (fun N => loops_cons (lo18_3 N) loops_nil) fun args r h => ?_
 unfold sp18 at h
 split at h
 ·obtain ⟨h1, rfl⟩ := sj h
  rename_i a0
  exact ⟨by kernel_rfl, fun hf => ⟨od (by kernel_rfl), (U18.b_eq (R := Res) (fun r0 => some (k18 r0)) a0 h1).imp fun N hN => Eq.trans (by kernel_rfl) hN⟩⟩
 ·cases h

def E113 : Env := mkE T md [] [(3, [0, 1, 2])] [] []
def k113 (p : Row × Int) : Res := ⟨[.v true [.ow 144 true p.1, .i .i64 p.2]], []⟩
def T113_3 (p0 p1 p2 : Int) : List (Nat × Cel) := [(0, .v (.v false [.bp 0 0])), (2, .v (.v false [.bp 1 0])), (4, .v (.v false [.i .i64 p0])), (1, .o (.box [.nl, .i .i64 p1])), (3, .o (.box [.nl, .i .i64 p2]))]
def G113_3 {R : Type} (g : St -> Option R) (p0 p1 p2 : Int) : Option R := g (tabl (T113_3 p0 p1 p2))
def T113_3a (p0 p1 p2 : Int) (p3 : Row) : List (Nat × Cel) := [(0, .v (.v false [.bp 0 0])), (2, .v (.v false [.bp 1 0])), (4, .v (.v false [.i .i64 p0])), (1, .o (.box [.nl, .i .i64 p1])), (3, .o (.box [.own 2, .i .i64 p2])), (5, .o (.row 144 true p3))]
def G113_3a {R : Type} (g : St -> Option R) (p0 p1 p2 : Int) (p3 : Row) : Option R := g (tabl (T113_3a p0 p1 p2 p3))
def K113_3_0 {R : Type} (K : Ex -> St -> Option R) (p0 p1 p2 : Int) : Option R := K (.exit 0) (tabl (T113_3 p0 p1 p2))
def K113_3_1 {R : Type} (K : Ex -> St -> Option R) (p0 p1 p2 : Int) (p3 : Row) : Option R := K (.exit 0) (tabl (T113_3a p0 p1 p2 p3))
def it113 (N : Nat) {R : Type} : It R := fun rid f cn L K => bif Nat.beq rid 3 then tell (T113_3 0 0 0) (fun | [.I x0, .I x1, .I x2] => U113.l3 N (K113_3_0 K) (K113_3_1 K) N x0 x1 x2 | _ => none) L (tell (T113_3a 0 0 0 []) (fun | [.I x3, .I x4, .I x5, .R x6] => U113.l3a N (K113_3_0 K) (K113_3_1 K) N x3 x4 x5 x6 | _ => none) L none) else none
theorem e113_3 {R : Type} (N : Nat) (K : Ex -> St -> Option R) : ∀ n : Nat, G113_3 (fun s => iter (exc E113 (it113 N) (loopOf Tryz.f113 3)) (canon (E113.keep 3)) n s K) = U113.l3 N (K113_3_0 K) (K113_3_1 K) n /\ G113_3a (fun s => iter (exc E113 (it113 N) (loopOf Tryz.f113 3)) (canon (E113.keep 3)) n s K) = U113.l3a N (K113_3_0 K) (K113_3_1 K) n := by
 intro n
 induction n with
 | zero => exact ⟨rfl, rfl⟩
 | succ n ih =>
  obtain ⟨i0, i1⟩ := ih
  refine ⟨?_, ?_⟩
  ·funext x0 x1 x2
   have h : ∀ g, exc E113 (it113 N) (loopOf Tryz.f113 3) (tabl (T113_3 x0 x1 x2)) (iterK g (canon (E113.keep 3)) K) = U113.r3 N (G113_3 g) (G113_3a g) (K113_3_0 K) (K113_3_1 K) x0 x1 x2 := by intro g; kernel_rfl
   show iter _ _ (n + 1) _ K = _
   refine (iter_succ _ _ n _ K).trans ((h _).trans ?_)
   rw [i0, i1]; rfl
  ·funext x3 x4 x5 x6
   have h : ∀ g, exc E113 (it113 N) (loopOf Tryz.f113 3) (tabl (T113_3a x3 x4 x5 x6)) (iterK g (canon (E113.keep 3)) K) = U113.r3a N (G113_3 g) (G113_3a g) (K113_3_0 K) (K113_3_1 K) x3 x4 x5 x6 := by intro g; kernel_rfl
   show iter _ _ (n + 1) _ K = _
   refine (iter_succ _ _ n _ K).trans ((h _).trans ?_)
   rw [i0, i1]; rfl
theorem lo113_3 {R : Type} (N : Nat) : LoopOk E113 (it113 N (R := R)) (loopOf Tryz.f113 3) := by
 have e : firstRid (loopOf Tryz.f113 3) = 3 := by kernel_rfl
 intro L K r
 rw [e]
 intro h
 unfold it113 at h
 simp only [show Nat.beq 3 3 = true from rfl, cond_false, cond_true] at h
 refine tell_ok (Q := fun L => ∃ n, iter (exc E113 (it113 N) (loopOf Tryz.f113 3)) (canon (E113.keep 3)) n (tabl L) K = some r) h (fun xs h => ?_) fun h => ?_
 ·(try dsimp only at h)
  split at h
  ·rw [<- (e113_3 N K N).1] at h; exact ⟨N, h⟩
  ·cases h
 refine tell_ok (Q := fun L => ∃ n, iter (exc E113 (it113 N) (loopOf Tryz.f113 3)) (canon (E113.keep 3)) n (tabl L) K = some r) h (fun xs h => ?_) fun h => ?_
 ·(try dsimp only at h)
  split at h
  ·rw [<- (e113_3 N K N).2] at h; exact ⟨N, h⟩
  ·cases h
 cases h
def sp113 : List Arg -> Option (Bool × Res)
 | [] => some (U113.c, k113 U113.v)
 | _ => none
theorem ok113 : FnOk Tryz.prog T 113 sp113 := by
 refine fn_loop (E := E113) hE call_nil hM Tryz.func113 (code := Tryz.f113.body.getD .skip) (by kernel_rfl) (by kernel_rfl) (itf := fun N => it113 N) (l := [loopOf Tryz.f113 3]) (by kernel_rfl) (fun N => loops_cons (lo113_3 N) loops_nil) fun args r h => ?_
 unfold sp113 at h
 split at h
 ·obtain ⟨h1, rfl⟩ := sj h
  exact ⟨by kernel_rfl, fun hf => ⟨od (by kernel_rfl), (U113.b_eq (R := Res) (fun r0 r1 => some (k113 (r0, r1))) h1).imp fun N hN => Eq.trans (by kernel_rfl) hN⟩⟩
 ·cases h

def E87 : Env := mkE T md [(113, sp113)] [] [] []
def k87 (p : Row × Row × Row × Int) : Res := ⟨[.v true [.ow 9 true p.1, .ow 9 true p.2.1, .ow 144 true p.2.2.1, .i .i64 p.2.2.2]], []⟩
def sp87 : List Arg -> Option (Bool × Res)
 | [] => some (true, k87 U87.v)
 | _ => none
theorem ok87 : FnOk Tryz.prog T 87 sp87 := by
 refine fn_flat (E := E87) hE (call_cons ok113 call_nil) hM Tryz.func87 (code := Tryz.f87.body.getD .skip) (by kernel_rfl) (by kernel_rfl) (by kernel_rfl) fun args r h => ?_
 unfold sp87 at h
 split at h
 ·obtain ⟨h1, rfl⟩ := sj h
  exact ⟨by kernel_rfl, fun hf => ⟨od (by kernel_rfl), Eq.trans (by kernel_rfl) (U87.b_eq (R := Res) fun r0 r1 r2 r3 => some (k87 (r0, r1, r2, r3)))⟩⟩
 ·cases h

def E50 : Env := mkE T md [(87, sp87)] [] [] []
def k50 (p : Int × Row × Row × Row × Row × Int × Row × Row × Int) : Res := ⟨[.v true [.i .i64 p.1, .ow 88 true p.2.1, .ow 9 true p.2.2.1, .ow 9 true p.2.2.2.1, .ow 144 true p.2.2.2.2.1, .i .i64 p.2.2.2.2.2.1, .ow 64 true p.2.2.2.2.2.2.1, .ow 106 true p.2.2.2.2.2.2.2.1, .i .i64 p.2.2.2.2.2.2.2.2]], []⟩
def sp50 : List Arg -> Option (Bool × Res)
 | [] => some (true, k50 U50.v)
 | _ => none
theorem ok50 : FnOk Tryz.prog T 50 sp50 := by
 refine fn_flat (E := E50) hE (call_cons ok87 call_nil) hM Tryz.func50 (code := Tryz.f50.body.getD .skip) (by kernel_rfl) (by kernel_rfl) (by kernel_rfl) fun args r h => ?_
 unfold sp50 at h
 split at h
 ·obtain ⟨h1, rfl⟩ := sj h
  exact ⟨by kernel_rfl, fun hf => ⟨od (by kernel_rfl), Eq.trans (by kernel_rfl) (U50.b_eq (R := Res) fun r0 r1 r2 r3 r4 r5 r6 r7 r8 => some (k50 (r0, r1, r2, r3, r4, r5, r6, r7, r8)))⟩⟩
 ·cases h

def E60 : Env := mkE T md [] [] [] []
def k60 (p : Bool) : Res := ⟨[.v false [.b p]], []⟩
def sp60 : List Arg -> Option (Bool × Res)
 | [.v false [.i .i64 a0], .v false [.i .i64 a1], .v false [.i .i64 a2]] => some (true, k60 (U60.v a0 a1 a2))
 | _ => none
theorem ok60 : FnOk Tryz.prog T 60 sp60 := by
 refine fn_flat (E := E60) hE call_nil hM Tryz.func60 (code := Tryz.f60.body.getD .skip) (by kernel_rfl) (by kernel_rfl) (by kernel_rfl) fun args r h => ?_
 unfold sp60 at h
 split at h
 ·obtain ⟨h1, rfl⟩ := sj h
  rename_i a0 a1 a2
  exact ⟨by kernel_rfl, fun hf => ⟨od (by kernel_rfl), Eq.trans (by kernel_rfl) (U60.b_eq (R := Res) (fun r0 => some (k60 r0)) a0 a1 a2)⟩⟩
 ·cases h

def E88 : Env := mkE T md [(60, sp60)] [] [] []
def k88 (p : Bool) : Res := ⟨[.v false [.b p]], []⟩
def sp88 : List Arg -> Option (Bool × Res)
 | [.v false [.s a0]] => some (true, k88 (U88.v a0))
 | _ => none
theorem ok88 : FnOk Tryz.prog T 88 sp88 := by
 refine fn_flat (E := E88) hE (call_cons ok60 call_nil) hM Tryz.func88 (code := Tryz.f88.body.getD .skip) (by kernel_rfl) (by kernel_rfl) (by kernel_rfl) fun args r h => ?_
 unfold sp88 at h
 split at h
 ·obtain ⟨h1, rfl⟩ := sj h
  rename_i a0
  exact ⟨by kernel_rfl, fun hf => ⟨od (by kernel_rfl), Eq.trans (by kernel_rfl) (U88.b_eq (R := Res) (fun r0 => some (k88 r0)) a0)⟩⟩
 ·cases h

def E51 : Env := mkE T md [(88, sp88), (60, sp60)] [] [] []
def k51 (p : Bool) : Res := ⟨[.v false [.b p]], []⟩
def sp51 : List Arg -> Option (Bool × Res)
 | [.v true [.s a0, .i .i64 a1, .i .i64 a2, .s a3]] => some (true, k51 (U51.v a0 a1 a2 a3))
 | _ => none
theorem ok51 : FnOk Tryz.prog T 51 sp51 := by
 refine fn_flat (E := E51) hE (call_cons ok88 (call_cons ok60 call_nil)) hM Tryz.func51 (code := Tryz.f51.body.getD .skip) (by kernel_rfl) (by kernel_rfl) (by kernel_rfl) fun args r h => ?_
 unfold sp51 at h
 split at h
 ·obtain ⟨h1, rfl⟩ := sj h
  rename_i a0 a1 a2 a3
  exact ⟨by kernel_rfl, fun hf => ⟨od (by kernel_rfl), Eq.trans (by kernel_rfl) (U51.b_eq (R := Res) (fun r0 => some (k51 r0)) a0 a1 a2 a3)⟩⟩
 ·cases h

def E52 : Env := mkE T md [(51, sp51), (60, sp60)] [] [] []
def k52 (p : Bool) : Res := ⟨[.v false [.b p]], []⟩
def sp52 : List Arg -> Option (Bool × Res)
 | [.v true [.s a0, .i .i64 a1, .i .i64 a2, .s a3], .v false [.i .i64 a4]] => some (true, k52 (U52.v a0 a1 a2 a3 a4))
 | _ => none
theorem ok52 : FnOk Tryz.prog T 52 sp52 := by
 refine fn_flat (E := E52) hE (call_cons ok51 (call_cons ok60 call_nil)) hM Tryz.func52 (code := Tryz.f52.body.getD .skip) (by kernel_rfl) (by kernel_rfl) (by kernel_rfl) fun args r h => ?_
 unfold sp52 at h
 split at h
 ·obtain ⟨h1, rfl⟩ := sj h
  rename_i a0 a1 a2 a3 a4
  exact ⟨by kernel_rfl, fun hf => ⟨od (by kernel_rfl), Eq.trans (by kernel_rfl) (U52.b_eq (R := Res) (fun r0 => some (k52 r0)) a0 a1 a2 a3 a4)⟩⟩
 ·cases h

def E101 : Env := mkE T md [] [(3, [1, 2, 3, 4])] [] []
def k101 (p : Row × Int) : Res := ⟨[.v true [.ow 144 true p.1, .i .i64 p.2]], []⟩
def T101_3 (p0 : Int) (p1 : Row) (p2 p3 p4 : Int) : List (Nat × Cel) := [(2, .v (.v false [.bp 0 0])), (4, .v (.v false [.bp 1 0])), (6, .v (.v false [.bp 2 0])), (8, .v (.v false [.i .i64 p0])), (1, .o (.box [.sh 144 p1, .i .i64 p2])), (3, .o (.box [.nl, .i .i64 p3])), (5, .o (.box [.nl, .i .i64 p4]))]
def G101_3 {R : Type} (g : St -> Option R) (p0 : Int) (p1 : Row) (p2 p3 p4 : Int) : Option R := g (tabl (T101_3 p0 p1 p2 p3 p4))
def T101_3a (p0 : Int) (p1 : Row) (p2 p3 p4 : Int) (p5 : Row) : List (Nat × Cel) := [(2, .v (.v false [.bp 0 0])), (4, .v (.v false [.bp 1 0])), (6, .v (.v false [.bp 2 0])), (8, .v (.v false [.i .i64 p0])), (1, .o (.box [.sh 144 p1, .i .i64 p2])), (3, .o (.box [.nl, .i .i64 p3])), (5, .o (.box [.own 3, .i .i64 p4])), (7, .o (.row 144 true p5))]
def G101_3a {R : Type} (g : St -> Option R) (p0 : Int) (p1 : Row) (p2 p3 p4 : Int) (p5 : Row) : Option R := g (tabl (T101_3a p0 p1 p2 p3 p4 p5))
def K101_3_0 {R : Type} (K : Ex -> St -> Option R) (p0 : Int) (p1 : Row) (p2 p3 p4 : Int) : Option R := K (.exit 0) (tabl (T101_3 p0 p1 p2 p3 p4))
def K101_3_1 {R : Type} (K : Ex -> St -> Option R) (p0 : Int) (p1 : Row) (p2 p3 p4 : Int) (p5 : Row) : Option R := K (.exit 0) (tabl (T101_3a p0 p1 p2 p3 p4 p5))
def it101 (N : Nat) {R : Type} : It R := fun rid f cn L K => bif Nat.beq rid 3 then tell (T101_3 0 [] 0 0 0) (fun | [.I x0, .R x1, .I x2, .I x3, .I x4] => U101.l3 N (K101_3_0 K) (K101_3_1 K) N x0 x1 x2 x3 x4 | _ => none) L (tell (T101_3a 0 [] 0 0 0 []) (fun | [.I x5, .R x6, .I x7, .I x8, .I x9, .R x10] => U101.l3a N (K101_3_0 K) (K101_3_1 K) N x5 x6 x7 x8 x9 x10 | _ => none) L none) else none
theorem e101_3 {R : Type} (N : Nat) (K : Ex -> St -> Option R) : ∀ n : Nat, G101_3 (fun s => iter (exc E101 (it101 N) (loopOf Tryz.f101 3)) (canon (E101.keep 3)) n s K) = U101.l3 N (K101_3_0 K) (K101_3_1 K) n /\ G101_3a (fun s => iter (exc E101 (it101 N) (loopOf Tryz.f101 3)) (canon (E101.keep 3)) n s K) = U101.l3a N (K101_3_0 K) (K101_3_1 K) n := by
 intro n
 induction n with
 | zero => exact ⟨rfl, rfl⟩
 | succ n ih =>
  obtain ⟨i0, i1⟩ := ih
  refine ⟨?_, ?_⟩
  ·funext x0 x1 x2 x3 x4
   have h : ∀ g, exc E101 (it101 N) (loopOf Tryz.f101 3) (tabl (T101_3 x0 x1 x2 x3 x4)) (iterK g (canon (E101.keep 3)) K) = U101.r3 N (G101_3 g) (G101_3a g) (K101_3_0 K) (K101_3_1 K) x0 x1 x2 x3 x4 := by intro g; kernel_rfl
   show iter _ _ (n + 1) _ K = _
   refine (iter_succ _ _ n _ K).trans ((h _).trans ?_)
   rw [i0, i1]; rfl
  ·funext x5 x6 x7 x8 x9 x10
   have h : ∀ g, exc E101 (it101 N) (loopOf Tryz.f101 3) (tabl (T101_3a x5 x6 x7 x8 x9 x10)) (iterK g (canon (E101.keep 3)) K) = U101.r3a N (G101_3 g) (G101_3a g) (K101_3_0 K) (K101_3_1 K) x5 x6 x7 x8 x9 x10 := by intro g; kernel_rfl
   show iter _ _ (n + 1) _ K = _
   refine (iter_succ _ _ n _ K).trans ((h _).trans ?_)
   rw [i0, i1]; rfl
theorem lo101_3 {R : Type} (N : Nat) : LoopOk E101 (it101 N (R := R)) (loopOf Tryz.f101 3) := by
 have e : firstRid (loopOf Tryz.f101 3) = 3 := by kernel_rfl
 intro L K r
 rw [e]
 intro h
 unfold it101 at h
 simp only [show Nat.beq 3 3 = true from rfl, cond_false, cond_true] at h
 refine tell_ok (Q := fun L => ∃ n, iter (exc E101 (it101 N) (loopOf Tryz.f101 3)) (canon (E101.keep 3)) n (tabl L) K = some r) h (fun xs h => ?_) fun h => ?_
 ·(try dsimp only at h)
  split at h
  ·rw [<- (e101_3 N K N).1] at h; exact ⟨N, h⟩
  ·cases h
 refine tell_ok (Q := fun L => ∃ n, iter (exc E101 (it101 N) (loopOf Tryz.f101 3)) (canon (E101.keep 3)) n (tabl L) K = some r) h (fun xs h => ?_) fun h => ?_
 ·(try dsimp only at h)
  split at h
  ·rw [<- (e101_3 N K N).2] at h; exact ⟨N, h⟩
  ·cases h
 cases h
def sp101 : List Arg -> Option (Bool × Res)
 | [.v true [.sh 144 a0, .i .i64 a1]] => some (U101.c a0 a1, k101 (U101.v a0 a1))
 | _ => none
theorem ok101 : FnOk Tryz.prog T 101 sp101 := by
 refine fn_loop (E := E101) hE call_nil hM Tryz.func101 (code := Tryz.f101.body.getD .skip) (by kernel_rfl) (by kernel_rfl) (itf := fun N => it101 N) (l := [loopOf Tryz.f101 3]) (by kernel_rfl) (fun N => loops_cons (lo101_3 N) loops_nil) fun args r h => ?_
 unfold sp101 at h
 split at h
 ·obtain ⟨h1, rfl⟩ := sj h
  rename_i a0 a1
  exact ⟨by kernel_rfl, fun hf => ⟨od (by kernel_rfl), (U101.b_eq (R := Res) (fun r0 r1 => some (k101 (r0, r1))) a0 a1 h1).imp fun N hN => Eq.trans (by kernel_rfl) hN⟩⟩
 ·cases h

def E66 : Env := mkE T md [(101, sp101)] [] [] []
def k66 (p : Row × Row × Row × Int) : Res := ⟨[.v true [.ow 9 true p.1, .ow 9 true p.2.1, .ow 144 true p.2.2.1, .i .i64 p.2.2.2]], []⟩
def sp66 : List Arg -> Option (Bool × Res)
 | [.v true [.sh 9 a0, .sh 9 a1, .sh 144 a2, .i .i64 a3]] => some (U66.c a0 a1 a2 a3, k66 (U66.v a0 a1 a2 a3))
 | _ => none
theorem ok66 : FnOk Tryz.prog T 66 sp66 := by
 refine fn_flat (E := E66) hE (call_cons ok101 call_nil) hM Tryz.func66 (code := Tryz.f66.body.getD .skip) (by kernel_rfl) (by kernel_rfl) (by kernel_rfl) fun args r h => ?_
 unfold sp66 at h
 split at h
 ·obtain ⟨h1, rfl⟩ := sj h
  rename_i a0 a1 a2 a3
  exact ⟨by kernel_rfl, fun hf => ⟨od (by kernel_rfl), Eq.trans (by kernel_rfl) (U66.b_eq (R := Res) (fun r0 r1 r2 r3 => some (k66 (r0, r1, r2, r3))) a0 a1 a2 a3 h1)⟩⟩
 ·cases h

def E116 : Env := mkE T md [] [(2, [0, 1, 4, 5])] [] []
def k116 (p : Bool) : Res := ⟨[.v false [.b p]], []⟩
def T116_2 (p0 : Row) (p1 : ByteArray) (p2 : Bool) (p3 : Int) : List (Nat × Cel) := [(0, .v (.v false [.sh 9 p0])), (2, .v (.v false [.s p1])), (8, .v (.v false [.b p2])), (10, .v (.v false [.i .i64 p3]))]
def G116_2 {R : Type} (g : St -> Option R) (p0 : Row) (p1 : ByteArray) (p2 : Bool) (p3 : Int) : Option R := g (tabl (T116_2 p0 p1 p2 p3))
def K116_2_0 {R : Type} (K : Ex -> St -> Option R) (p0 : Row) (p1 : ByteArray) (p2 : Bool) (p3 : Int) : Option R := K .ret (tabl (T116_2 p0 p1 p2 p3))
def K116_2_1 {R : Type} (K : Ex -> St -> Option R) (p0 : Row) (p1 : ByteArray) (p2 : Bool) (p3 : Int) : Option R := K (.exit 0) (tabl (T116_2 p0 p1 p2 p3))
def H116 {R : Type} (N : Nat) (K : Ex -> St -> Option R) : List Leaf -> Option R
 | [.R x0, .S x1, .B x2, .I x3] => U116.l2 N (K116_2_0 K) (K116_2_1 K) N x0 x1 x2 x3
 | _ => none
def it116 (N : Nat) {R : Type} : It R := fun rid f cn L K => bif Nat.beq rid 2 then tell (T116_2 [] ⟨#[]⟩ false 0) (H116 N K) L none else none
theorem e116_2 {R : Type} (N : Nat) (K : Ex -> St -> Option R) : ∀ n : Nat, G116_2 (fun s => iter (exc E116 (it116 N) (loopOf Tryz.f116 2)) (canon (E116.keep 2)) n s K) = U116.l2 N (K116_2_0 K) (K116_2_1 K) n := by
 intro n
 induction n with
 | zero => exact rfl
 | succ n ih =>
  funext x0 x1 x2 x3
  have h : ∀ g, exc E116 (it116 N) (loopOf Tryz.f116 2) (tabl (T116_2 x0 x1 x2 x3)) (iterK g (canon (E116.keep 2)) K) = U116.r2 N (G116_2 g) (K116_2_0 K) (K116_2_1 K) x0 x1 x2 x3 := by intro g; kernel_rfl
  show iter _ _ (n + 1) _ K = _
  refine (iter_succ _ _ n _ K).trans ((h _).trans ?_)
  rw [ih]; rfl
theorem lo116_2 {R : Type} (N : Nat) : LoopOk E116 (it116 N (R := R)) (loopOf Tryz.f116 2) := by
 refine lo_one 2 (by kernel_rfl) (S := T116_2 [] ⟨#[]⟩ false 0) (H := H116 N) (fun _ _ => rfl) fun K xs r h => ?_
 unfold H116 at h
 split at h
 ·rw [<- e116_2 N K N] at h; exact ⟨N, h⟩
 ·cases h
def sp116 : List Arg -> Option (Bool × Res)
 | [.v false [.sh 9 a0], .v false [.s a1]] => some (U116.c a0 a1, k116 (U116.v a0 a1))
 | _ => none
theorem ok116 : FnOk Tryz.prog T 116 sp116 := by
 refine fn_loop (E := E116) hE call_nil hM Tryz.func116 (code := Tryz.f116.body.getD .skip) (by kernel_rfl) (by kernel_rfl) (itf := fun N => it116 N) (l := [loopOf Tryz.f116 2]) (by kernel_rfl) (fun N => loops_cons (lo116_2 N) loops_nil) fun args r h => ?_
 unfold sp116 at h
 split at h
 ·obtain ⟨h1, rfl⟩ := sj h
  rename_i a0 a1
  exact ⟨by kernel_rfl, fun hf => ⟨od (by kernel_rfl), (U116.b_eq (R := Res) (fun r0 => some (k116 r0)) a0 a1 h1).imp fun N hN => Eq.trans (by kernel_rfl) hN⟩⟩
 ·cases h

def E137 : Env := mkE T md [(60, sp60)] [(4, [1, 2, 3]), (9, [1, 2, 3, 4])] [] []
def k137 (p : Bool) : Res := ⟨[.v false [.b p]], []⟩
def T137_4 (p0 : Bool) (p1 : Int) (p2 : Row) (p3 : Int) : List (Nat × Cel) := [(2, .v (.v false [.bp 0 0])), (4, .v (.v false [.b p0])), (6, .v (.v false [.i .i64 p1])), (1, .o (.box [.sh 144 p2, .i .i64 p3]))]
def G137_4 {R : Type} (g : St -> Option R) (p0 : Bool) (p1 : Int) (p2 : Row) (p3 : Int) : Option R := g (tabl (T137_4 p0 p1 p2 p3))
def K137_4_0 {R : Type} (K : Ex -> St -> Option R) (p0 : Bool) (p1 : Int) (p2 : Row) (p3 : Int) : Option R := K .ret (tabl (T137_4 p0 p1 p2 p3))
def K137_4_1 {R : Type} (K : Ex -> St -> Option R) (p0 : Bool) (p1 : Int) (p2 : Row) (p3 : Int) : Option R := K (.exit 0) (tabl (T137_4 p0 p1 p2 p3))
def T137_9 (p0 : Bool) (p1 p2 : Int) (p3 : Row) (p4 : Int) : List (Nat × Cel) := [(2, .v (.v false [.bp 0 0])), (4, .v (.v false [.b p0])), (6, .v (.v false [.i .i64 p1])), (8, .v (.v false [.i .i64 p2])), (1, .o (.box [.sh 144 p3, .i .i64 p4]))]
def G137_9 {R : Type} (g : St -> Option R) (p0 : Bool) (p1 p2 : Int) (p3 : Row) (p4 : Int) : Option R := g (tabl (T137_9 p0 p1 p2 p3 p4))
def K137_9_0 {R : Type} (K : Ex -> St -> Option R) (p0 : Bool) (p1 p2 : Int) (p3 : Row) (p4 : Int) : Option R := K .ret (tabl (T137_9 p0 p1 p2 p3 p4))
def K137_9_1 {R : Type} (K : Ex -> St -> Option R) (p0 : Bool) (p1 p2 : Int) (p3 : Row) (p4 : Int) : Option R := K (.exit 2) (tabl (T137_9 p0 p1 p2 p3 p4))
def it137 (N : Nat) {R : Type} : It R := fun rid f cn L K => bif Nat.beq rid 4 then tell (T137_4 false 0 [] 0) (fun | [.B x0, .I x1, .R x2, .I x3] => U137.l4 N (K137_4_0 K) (K137_4_1 K) N x0 x1 x2 x3 | _ => none) L none else bif Nat.beq rid 9 then tell (T137_9 false 0 0 [] 0) (fun | [.B x4, .I x5, .I x6, .R x7, .I x8] => U137.l9 N (K137_9_0 K) (K137_9_1 K) N x4 x5 x6 x7 x8 | _ => none) L none else none
theorem e137_4 {R : Type} (N : Nat) (K : Ex -> St -> Option R) : ∀ n : Nat, G137_4 (fun s => iter (exc E137 (it137 N) (loopOf Tryz.f137 4)) (canon (E137.keep 4)) n s K) = U137.l4 N (K137_4_0 K) (K137_4_1 K) n := by
 intro n
 induction n with
 | zero => exact rfl
 | succ n ih =>
  funext x0 x1 x2 x3
  have h : ∀ g, exc E137 (it137 N) (loopOf Tryz.f137 4) (tabl (T137_4 x0 x1 x2 x3)) (iterK g (canon (E137.keep 4)) K) = U137.r4 N (G137_4 g) (K137_4_0 K) (K137_4_1 K) x0 x1 x2 x3 := by intro g; kernel_rfl
  show iter _ _ (n + 1) _ K = _
  refine (iter_succ _ _ n _ K).trans ((h _).trans ?_)
  rw [ih]; rfl
theorem lo137_4 {R : Type} (N : Nat) : LoopOk E137 (it137 N (R := R)) (loopOf Tryz.f137 4) := by
 have e : firstRid (loopOf Tryz.f137 4) = 4 := by kernel_rfl
 intro L K r
 rw [e]
 intro h
 unfold it137 at h
 simp only [show Nat.beq 4 4 = true from rfl, cond_false, cond_true] at h
 refine tell_ok (Q := fun L => ∃ n, iter (exc E137 (it137 N) (loopOf Tryz.f137 4)) (canon (E137.keep 4)) n (tabl L) K = some r) h (fun xs h => ?_) fun h => ?_
 ·(try dsimp only at h)
  split at h
  ·rw [<- (e137_4 N K N)] at h; exact ⟨N, h⟩
  ·cases h
 cases h
theorem e137_9 {R : Type} (N : Nat) (K : Ex -> St -> Option R) : ∀ n : Nat, G137_9 (fun s => iter (exc E137 (it137 N) (loopOf Tryz.f137 9)) (canon (E137.keep 9)) n s K) = U137.l9 N (K137_9_0 K) (K137_9_1 K) n := by
 intro n
 induction n with
 | zero => exact rfl
 | succ n ih =>
  funext x4 x5 x6 x7 x8
  have h : ∀ g, exc E137 (it137 N) (loopOf Tryz.f137 9) (tabl (T137_9 x4 x5 x6 x7 x8)) (iterK g (canon (E137.keep 9)) K) = U137.r9 N (G137_9 g) (K137_9_0 K) (K137_9_1 K) x4 x5 x6 x7 x8 := by intro g; kernel_rfl
  show iter _ _ (n + 1) _ K = _
  refine (iter_succ _ _ n _ K).trans ((h _).trans ?_)
  rw [ih]; rfl
theorem lo137_9 {R : Type} (N : Nat) : LoopOk E137 (it137 N (R := R)) (loopOf Tryz.f137 9) := by
 have e : firstRid (loopOf Tryz.f137 9) = 9 := by kernel_rfl
 intro L K r
 rw [e]
 intro h
 unfold it137 at h
 simp only [show Nat.beq 9 4 = false from rfl, show Nat.beq 9 9 = true from rfl, cond_false, cond_true] at h
 refine tell_ok (Q := fun L => ∃ n, iter (exc E137 (it137 N) (loopOf Tryz.f137 9)) (canon (E137.keep 9)) n (tabl L) K = some r) h (fun xs h => ?_) fun h => ?_
 ·(try dsimp only at h)
  split at h
  ·rw [<- (e137_9 N K N)] at h; exact ⟨N, h⟩
  ·cases h
 cases h
def sp137 : List Arg -> Option (Bool × Res)
 | [.v true [.sh 144 a0, .i .i64 a1]] => some (U137.c a0 a1, k137 (U137.v a0 a1))
 | _ => none
theorem ok137 : FnOk Tryz.prog T 137 sp137 := by
 refine fn_loop (E := E137) hE (call_cons ok60 call_nil) hM Tryz.func137 (code := Tryz.f137.body.getD .skip) (by kernel_rfl) (by kernel_rfl) (itf := fun N => it137 N) (l := [loopOf Tryz.f137 4, loopOf Tryz.f137 9]) (by kernel_rfl) (fun N => loops_cons (lo137_4 N) (loops_cons (lo137_9 N) loops_nil)) fun args r h => ?_
 unfold sp137 at h
 split at h
 ·obtain ⟨h1, rfl⟩ := sj h
  rename_i a0 a1
  exact ⟨by kernel_rfl, fun hf => ⟨od (by kernel_rfl), (U137.b_eq (R := Res) (fun r0 => some (k137 r0)) a0 a1 h1).imp fun N hN => Eq.trans (by kernel_rfl) hN⟩⟩
 ·cases h

def E114 : Env := mkE T md [(88, sp88), (116, sp116), (137, sp137)] [(3, [1, 2, 3, 4])] [] []
def k114 (p : Bool) : Res := ⟨[.v false [.b p]], []⟩
def T114_3 (p0 : Bool) (p1 : Int) (p2 p3 p4 : Row) (p5 : Int) (p6 : Row) : List (Nat × Cel) := [(2, .v (.v false [.bp 0 0])), (4, .v (.v false [.b p0])), (6, .v (.v false [.own 1])), (8, .v (.v false [.i .i64 p1])), (1, .o (.box [.sh 9 p2, .sh 9 p3, .sh 144 p4, .i .i64 p5])), (3, .o (.row 9 true p6))]
def G114_3 {R : Type} (g : St -> Option R) (p0 : Bool) (p1 : Int) (p2 p3 p4 : Row) (p5 : Int) (p6 : Row) : Option R := g (tabl (T114_3 p0 p1 p2 p3 p4 p5 p6))
def K114_3_0 {R : Type} (K : Ex -> St -> Option R) (p0 : Bool) (p1 : Int) (p2 p3 p4 : Row) (p5 : Int) (p6 : Row) : Option R := K .ret (tabl (T114_3 p0 p1 p2 p3 p4 p5 p6))
def K114_3_1 {R : Type} (K : Ex -> St -> Option R) (p0 : Bool) (p1 : Int) (p2 p3 p4 : Row) (p5 : Int) (p6 : Row) : Option R := K (.exit 0) (tabl (T114_3 p0 p1 p2 p3 p4 p5 p6))
def H114 {R : Type} (N : Nat) (K : Ex -> St -> Option R) : List Leaf -> Option R
 | [.B x0, .I x1, .R x2, .R x3, .R x4, .I x5, .R x6] => U114.l3 N (K114_3_0 K) (K114_3_1 K) N x0 x1 x2 x3 x4 x5 x6
 | _ => none
def it114 (N : Nat) {R : Type} : It R := fun rid f cn L K => bif Nat.beq rid 3 then tell (T114_3 false 0 [] [] [] 0 []) (H114 N K) L none else none
theorem e114_3 {R : Type} (N : Nat) (K : Ex -> St -> Option R) : ∀ n : Nat, G114_3 (fun s => iter (exc E114 (it114 N) (loopOf Tryz.f114 3)) (canon (E114.keep 3)) n s K) = U114.l3 N (K114_3_0 K) (K114_3_1 K) n := by
 intro n
 induction n with
 | zero => exact rfl
 | succ n ih =>
  funext x0 x1 x2 x3 x4 x5 x6
  have h : ∀ g, exc E114 (it114 N) (loopOf Tryz.f114 3) (tabl (T114_3 x0 x1 x2 x3 x4 x5 x6)) (iterK g (canon (E114.keep 3)) K) = U114.r3 N (G114_3 g) (K114_3_0 K) (K114_3_1 K) x0 x1 x2 x3 x4 x5 x6 := by intro g; kernel_rfl
  show iter _ _ (n + 1) _ K = _
  refine (iter_succ _ _ n _ K).trans ((h _).trans ?_)
  rw [ih]; rfl
theorem lo114_3 {R : Type} (N : Nat) : LoopOk E114 (it114 N (R := R)) (loopOf Tryz.f114 3) := by
 refine lo_one 3 (by kernel_rfl) (S := T114_3 false 0 [] [] [] 0 []) (H := H114 N) (fun _ _ => rfl) fun K xs r h => ?_
 unfold H114 at h
 split at h
 ·rw [<- e114_3 N K N] at h; exact ⟨N, h⟩
 ·cases h
def sp114 : List Arg -> Option (Bool × Res)
 | [.v true [.sh 9 a0, .sh 9 a1, .sh 144 a2, .i .i64 a3]] => some (U114.c a0 a1 a2 a3, k114 (U114.v a0 a1 a2 a3))
 | _ => none
theorem ok114 : FnOk Tryz.prog T 114 sp114 := by
 refine fn_loop (E := E114) hE (call_cons ok88 (call_cons ok116 (call_cons ok137 call_nil))) hM Tryz.func114 (code := Tryz.f114.body.getD .skip) (by kernel_rfl) (by kernel_rfl) (itf := fun N => it114 N) (l := [loopOf Tryz.f114 3]) (by kernel_rfl) (fun N => loops_cons (lo114_3 N) loops_nil) fun args r h => ?_
 unfold sp114 at h
 split at h
 ·obtain ⟨h1, rfl⟩ := sj h
  rename_i a0 a1 a2 a3
  exact ⟨by kernel_rfl, fun hf => ⟨od (by kernel_rfl), (U114.b_eq (R := Res) (fun r0 => some (k114 r0)) a0 a1 a2 a3 h1).imp fun N hN => Eq.trans (by kernel_rfl) hN⟩⟩
 ·cases h

def E156 : Env := mkE T md [] [(2, [0, 1, 5]), (6, [0, 1, 5, 6])] [] []
def k156 (p : Int) : Res := ⟨[.v false [.i .u32 p]], []⟩
def T156_2 (p0 : Int) (p1 : ByteArray) (p2 : Int) : List (Nat × Cel) := [(0, .v (.v false [.i .u32 p0])), (2, .v (.v false [.s p1])), (10, .v (.v false [.i .i64 p2]))]
def G156_2 {R : Type} (g : St -> Option R) (p0 : Int) (p1 : ByteArray) (p2 : Int) : Option R := g (tabl (T156_2 p0 p1 p2))
def K156_2_0 {R : Type} (K : Ex -> St -> Option R) (p0 : Int) (p1 : ByteArray) (p2 : Int) : Option R := K (.exit 0) (tabl (T156_2 p0 p1 p2))
def T156_6 (p0 : Int) (p1 : ByteArray) (p2 p3 : Int) : List (Nat × Cel) := [(0, .v (.v false [.i .u32 p0])), (2, .v (.v false [.s p1])), (10, .v (.v false [.i .i64 p2])), (12, .v (.v false [.i .i64 p3]))]
def G156_6 {R : Type} (g : St -> Option R) (p0 : Int) (p1 : ByteArray) (p2 p3 : Int) : Option R := g (tabl (T156_6 p0 p1 p2 p3))
def K156_6_0 {R : Type} (K : Ex -> St -> Option R) (p0 : Int) (p1 : ByteArray) (p2 p3 : Int) : Option R := K (.exit 2) (tabl (T156_6 p0 p1 p2 p3))
def it156 (N : Nat) {R : Type} : It R := fun rid f cn L K => bif Nat.beq rid 2 then tell (T156_2 0 ⟨#[]⟩ 0) (fun | [.I x0, .S x1, .I x2] => U156.l2 N (K156_2_0 K) N x0 x1 x2 | _ => none) L none else bif Nat.beq rid 6 then tell (T156_6 0 ⟨#[]⟩ 0 0) (fun | [.I x3, .S x4, .I x5, .I x6] => U156.l6 N (K156_6_0 K) N x3 x4 x5 x6 | _ => none) L none else none
theorem e156_2 {R : Type} (N : Nat) (K : Ex -> St -> Option R) : ∀ n : Nat, G156_2 (fun s => iter (exc E156 (it156 N) (loopOf Tryz.f156 2)) (canon (E156.keep 2)) n s K) = U156.l2 N (K156_2_0 K) n := by
 intro n
 induction n with
 | zero => exact rfl
 | succ n ih =>
  funext x0 x1 x2
  have h : ∀ g, exc E156 (it156 N) (loopOf Tryz.f156 2) (tabl (T156_2 x0 x1 x2)) (iterK g (canon (E156.keep 2)) K) = U156.r2 N (G156_2 g) (K156_2_0 K) x0 x1 x2 := by intro g; kernel_rfl
  show iter _ _ (n + 1) _ K = _
  refine (iter_succ _ _ n _ K).trans ((h _).trans ?_)
  rw [ih]; rfl
theorem lo156_2 {R : Type} (N : Nat) : LoopOk E156 (it156 N (R := R)) (loopOf Tryz.f156 2) := by
 have e : firstRid (loopOf Tryz.f156 2) = 2 := by kernel_rfl
 intro L K r
 rw [e]
 intro h
 unfold it156 at h
 simp only [show Nat.beq 2 2 = true from rfl, cond_false, cond_true] at h
 refine tell_ok (Q := fun L => ∃ n, iter (exc E156 (it156 N) (loopOf Tryz.f156 2)) (canon (E156.keep 2)) n (tabl L) K = some r) h (fun xs h => ?_) fun h => ?_
 ·(try dsimp only at h)
  split at h
  ·rw [<- (e156_2 N K N)] at h; exact ⟨N, h⟩
  ·cases h
 cases h
theorem e156_6 {R : Type} (N : Nat) (K : Ex -> St -> Option R) : ∀ n : Nat, G156_6 (fun s => iter (exc E156 (it156 N) (loopOf Tryz.f156 6)) (canon (E156.keep 6)) n s K) = U156.l6 N (K156_6_0 K) n := by
 intro n
 induction n with
 | zero => exact rfl
 | succ n ih =>
  funext x3 x4 x5 x6
  have h : ∀ g, exc E156 (it156 N) (loopOf Tryz.f156 6) (tabl (T156_6 x3 x4 x5 x6)) (iterK g (canon (E156.keep 6)) K) = U156.r6 N (G156_6 g) (K156_6_0 K) x3 x4 x5 x6 := by intro g; kernel_rfl
  show iter _ _ (n + 1) _ K = _
  refine (iter_succ _ _ n _ K).trans ((h _).trans ?_)
  rw [ih]; rfl
theorem lo156_6 {R : Type} (N : Nat) : LoopOk E156 (it156 N (R := R)) (loopOf Tryz.f156 6) := by
 have e : firstRid (loopOf Tryz.f156 6) = 6 := by kernel_rfl
 intro L K r
 rw [e]
 intro h
 unfold it156 at h
 simp only [show Nat.beq 6 2 = false from rfl, show Nat.beq 6 6 = true from rfl, cond_false, cond_true] at h
 refine tell_ok (Q := fun L => ∃ n, iter (exc E156 (it156 N) (loopOf Tryz.f156 6)) (canon (E156.keep 6)) n (tabl L) K = some r) h (fun xs h => ?_) fun h => ?_
 ·(try dsimp only at h)
  split at h
  ·rw [<- (e156_6 N K N)] at h; exact ⟨N, h⟩
  ·cases h
 cases h
def sp156 : List Arg -> Option (Bool × Res)
 | [.v false [.i .u32 a0], .v false [.s a1]] => some (U156.c a0 a1, k156 (U156.v a0 a1))
 | _ => none
theorem ok156 : FnOk Tryz.prog T 156 sp156 := by
 refine fn_loop (E := E156) hE call_nil hM Tryz.func156 (code := Tryz.f156.body.getD .skip) (by kernel_rfl) (by kernel_rfl) (itf := fun N => it156 N) (l := [loopOf Tryz.f156 2, loopOf Tryz.f156 6]) (by kernel_rfl) (fun N => loops_cons (lo156_2 N) (loops_cons (lo156_6 N) loops_nil)) fun args r h => ?_
 unfold sp156 at h
 split at h
 ·obtain ⟨h1, rfl⟩ := sj h
  rename_i a0 a1
  exact ⟨by kernel_rfl, fun hf => ⟨od (by kernel_rfl), (U156.b_eq (R := Res) (fun r0 => some (k156 r0)) a0 a1 h1).imp fun N hN => Eq.trans (by kernel_rfl) hN⟩⟩
 ·cases h

def E149 : Env := mkE T md [(156, sp156)] [] [] []
def k149 (p : Int) : Res := ⟨[.v false [.i .u32 p]], []⟩
def sp149 : List Arg -> Option (Bool × Res)
 | [.v false [.s a0]] => some (U149.c a0, k149 (U149.v a0))
 | _ => none
theorem ok149 : FnOk Tryz.prog T 149 sp149 := by
 refine fn_flat (E := E149) hE (call_cons ok156 call_nil) hM Tryz.func149 (code := Tryz.f149.body.getD .skip) (by kernel_rfl) (by kernel_rfl) (by kernel_rfl) fun args r h => ?_
 unfold sp149 at h
 split at h
 ·obtain ⟨h1, rfl⟩ := sj h
  rename_i a0
  exact ⟨by kernel_rfl, fun hf => ⟨od (by kernel_rfl), Eq.trans (by kernel_rfl) (U149.b_eq (R := Res) (fun r0 => some (k149 r0)) a0 h1)⟩⟩
 ·cases h

def E138 : Env := mkE T md [(149, sp149)] [] [] []
def k138 (p : Int) : Res := ⟨[.v false [.i .i64 p]], []⟩
def sp138 : List Arg -> Option (Bool × Res)
 | [.v false [.i .i64 a0], .v false [.s a1]] => some (U138.c a0 a1, k138 (U138.v a0 a1))
 | _ => none
theorem ok138 : FnOk Tryz.prog T 138 sp138 := by
 refine fn_flat (E := E138) hE (call_cons ok149 call_nil) hM Tryz.func138 (code := Tryz.f138.body.getD .skip) (by kernel_rfl) (by kernel_rfl) (by kernel_rfl) fun args r h => ?_
 unfold sp138 at h
 split at h
 ·obtain ⟨h1, rfl⟩ := sj h
  rename_i a0 a1
  exact ⟨by kernel_rfl, fun hf => ⟨od (by kernel_rfl), Eq.trans (by kernel_rfl) (U138.b_eq (R := Res) (fun r0 => some (k138 r0)) a0 a1 h1)⟩⟩
 ·cases h

def E115 : Env := mkE T md [(101, sp101), (137, sp137), (138, sp138)] [(5, [1, 4, 5, 6]), (14, [4, 5, 8]), (17, [4, 5, 8, 9])] [] []
def k115 (p : Row × Int) : Res := ⟨[.v true [.ow 144 true p.1, .i .i64 p.2]], []⟩
def T115_5 (p0 : ByteArray) (p1 p2 p3 : Int) (p4 : Row) : List (Nat × Cel) := [(2, .v (.v false [.s p0])), (8, .v (.v false [.bp 0 0])), (10, .v (.v false [.bp 1 0])), (12, .v (.v false [.i .i64 p1])), (1, .o (.box [.nl, .i .i64 p2])), (3, .o (.box [.own 2, .i .i64 p3])), (5, .o (.row 144 true p4))]
def G115_5 {R : Type} (g : St -> Option R) (p0 : ByteArray) (p1 p2 p3 : Int) (p4 : Row) : Option R := g (tabl (T115_5 p0 p1 p2 p3 p4))
def K115_5_0 {R : Type} (K : Ex -> St -> Option R) (p0 : ByteArray) (p1 p2 p3 : Int) (p4 : Row) : Option R := K (.exit 0) (tabl (T115_5 p0 p1 p2 p3 p4))
def T115_14 (p0 p1 p2 : Int) (p3 : Row) : List (Nat × Cel) := [(8, .v (.v false [.bp 0 0])), (10, .v (.v false [.bp 1 0])), (16, .v (.v false [.i .i64 p0])), (1, .o (.box [.nl, .i .i64 p1])), (3, .o (.box [.own 2, .i .i64 p2])), (5, .o (.row 144 true p3))]
def G115_14 {R : Type} (g : St -> Option R) (p0 p1 p2 : Int) (p3 : Row) : Option R := g (tabl (T115_14 p0 p1 p2 p3))
def K115_14_0 {R : Type} (K : Ex -> St -> Option R) (p0 p1 p2 : Int) (p3 : Row) : Option R := K (.exit 2) (tabl (T115_14 p0 p1 p2 p3))
def T115_17 (p0 p1 p2 p3 : Int) (p4 : Row) : List (Nat × Cel) := [(8, .v (.v false [.bp 0 0])), (10, .v (.v false [.bp 1 0])), (16, .v (.v false [.i .i64 p0])), (18, .v (.v false [.i .i64 p1])), (1, .o (.box [.nl, .i .i64 p2])), (3, .o (.box [.own 2, .i .i64 p3])), (5, .o (.row 144 true p4))]
def G115_17 {R : Type} (g : St -> Option R) (p0 p1 p2 p3 : Int) (p4 : Row) : Option R := g (tabl (T115_17 p0 p1 p2 p3 p4))
def K115_17_0 {R : Type} (K : Ex -> St -> Option R) (p0 p1 p2 p3 : Int) (p4 : Row) : Option R := K (.exit 4) (tabl (T115_17 p0 p1 p2 p3 p4))
def it115 (N : Nat) {R : Type} : It R := fun rid f cn L K => bif Nat.beq rid 5 then tell (T115_5 ⟨#[]⟩ 0 0 0 []) (fun | [.S x0, .I x1, .I x2, .I x3, .R x4] => U115.l5 N (K115_5_0 K) N x0 x1 x2 x3 x4 | _ => none) L none else bif Nat.beq rid 14 then tell (T115_14 0 0 0 []) (fun | [.I x10, .I x11, .I x12, .R x13] => U115.l14 N (K115_14_0 K) N x10 x11 x12 x13 | _ => none) L none else bif Nat.beq rid 17 then tell (T115_17 0 0 0 0 []) (fun | [.I x14, .I x15, .I x16, .I x17, .R x18] => U115.l17 N (K115_17_0 K) N x14 x15 x16 x17 x18 | _ => none) L none else none
theorem e115_5 {R : Type} (N : Nat) (K : Ex -> St -> Option R) : ∀ n : Nat, G115_5 (fun s => iter (exc E115 (it115 N) (loopOf Tryz.f115 5)) (canon (E115.keep 5)) n s K) = U115.l5 N (K115_5_0 K) n := by
 intro n
 induction n with
 | zero => exact rfl
 | succ n ih =>
  funext x0 x1 x2 x3 x4
  have h : ∀ g, exc E115 (it115 N) (loopOf Tryz.f115 5) (tabl (T115_5 x0 x1 x2 x3 x4)) (iterK g (canon (E115.keep 5)) K) = U115.r5 N (G115_5 g) (K115_5_0 K) x0 x1 x2 x3 x4 := by intro g; kernel_rfl
  show iter _ _ (n + 1) _ K = _
  refine (iter_succ _ _ n _ K).trans ((h _).trans ?_)
  rw [ih]; rfl
theorem lo115_5 {R : Type} (N : Nat) : LoopOk E115 (it115 N (R := R)) (loopOf Tryz.f115 5) := by
 have e : firstRid (loopOf Tryz.f115 5) = 5 := by kernel_rfl
 intro L K r
 rw [e]
 intro h
 unfold it115 at h
 simp only [show Nat.beq 5 5 = true from rfl, cond_false, cond_true] at h
 refine tell_ok (Q := fun L => ∃ n, iter (exc E115 (it115 N) (loopOf Tryz.f115 5)) (canon (E115.keep 5)) n (tabl L) K = some r) h (fun xs h => ?_) fun h => ?_
 ·(try dsimp only at h)
  split at h
  ·rw [<- (e115_5 N K N)] at h; exact ⟨N, h⟩
  ·cases h
 cases h
theorem e115_14 {R : Type} (N : Nat) (K : Ex -> St -> Option R) : ∀ n : Nat, G115_14 (fun s => iter (exc E115 (it115 N) (loopOf Tryz.f115 14)) (canon (E115.keep 14)) n s K) = U115.l14 N (K115_14_0 K) n := by
 intro n
 induction n with
 | zero => exact rfl
 | succ n ih =>
  funext x10 x11 x12 x13
  have h : ∀ g, exc E115 (it115 N) (loopOf Tryz.f115 14) (tabl (T115_14 x10 x11 x12 x13)) (iterK g (canon (E115.keep 14)) K) = U115.r14 N (G115_14 g) (K115_14_0 K) x10 x11 x12 x13 := by intro g; kernel_rfl
  show iter _ _ (n + 1) _ K = _
  refine (iter_succ _ _ n _ K).trans ((h _).trans ?_)
  rw [ih]; rfl
theorem lo115_14 {R : Type} (N : Nat) : LoopOk E115 (it115 N (R := R)) (loopOf Tryz.f115 14) := by
 have e : firstRid (loopOf Tryz.f115 14) = 14 := by kernel_rfl
 intro L K r
 rw [e]
 intro h
 unfold it115 at h
 simp only [show Nat.beq 14 5 = false from rfl, show Nat.beq 14 14 = true from rfl, cond_false, cond_true] at h
 refine tell_ok (Q := fun L => ∃ n, iter (exc E115 (it115 N) (loopOf Tryz.f115 14)) (canon (E115.keep 14)) n (tabl L) K = some r) h (fun xs h => ?_) fun h => ?_
 ·(try dsimp only at h)
  split at h
  ·rw [<- (e115_14 N K N)] at h; exact ⟨N, h⟩
  ·cases h
 cases h
theorem e115_17 {R : Type} (N : Nat) (K : Ex -> St -> Option R) : ∀ n : Nat, G115_17 (fun s => iter (exc E115 (it115 N) (loopOf Tryz.f115 17)) (canon (E115.keep 17)) n s K) = U115.l17 N (K115_17_0 K) n := by
 intro n
 induction n with
 | zero => exact rfl
 | succ n ih =>
  funext x14 x15 x16 x17 x18
  have h : ∀ g, exc E115 (it115 N) (loopOf Tryz.f115 17) (tabl (T115_17 x14 x15 x16 x17 x18)) (iterK g (canon (E115.keep 17)) K) = U115.r17 N (G115_17 g) (K115_17_0 K) x14 x15 x16 x17 x18 := by intro g; kernel_rfl
  show iter _ _ (n + 1) _ K = _
  refine (iter_succ _ _ n _ K).trans ((h _).trans ?_)
  rw [ih]; rfl
theorem lo115_17 {R : Type} (N : Nat) : LoopOk E115 (it115 N (R := R)) (loopOf Tryz.f115 17) := by
 have e : firstRid (loopOf Tryz.f115 17) = 17 := by kernel_rfl
 intro L K r
 rw [e]
 intro h
 unfold it115 at h
 simp only [show Nat.beq 17 5 = false from rfl, show Nat.beq 17 14 = false from rfl, show Nat.beq 17 17 = true from rfl, cond_false, cond_true] at h
 refine tell_ok (Q := fun L => ∃ n, iter (exc E115 (it115 N) (loopOf Tryz.f115 17)) (canon (E115.keep 17)) n (tabl L) K = some r) h (fun xs h => ?_) fun h => ?_
 ·(try dsimp only at h)
  split at h
  ·rw [<- (e115_17 N K N)] at h; exact ⟨N, h⟩
  ·cases h
 cases h
def sp115 : List Arg -> Option (Bool × Res)
 | [.v true [.sh 144 a0, .i .i64 a1], .v false [.s a2]] => some (U115.c a0 a1 a2, k115 (U115.v a0 a1 a2))
 | _ => none
theorem ok115 : FnOk Tryz.prog T 115 sp115 := by
 refine fn_loop (E := E115) hE (call_cons ok101 (call_cons ok137 (call_cons ok138 call_nil))) hM Tryz.func115 (code := Tryz.f115.body.getD .skip) (by kernel_rfl) (by kernel_rfl) (itf := fun N => it115 N) (l := [loopOf Tryz.f115 5, loopOf Tryz.f115 14, loopOf Tryz.f115 17]) (by kernel_rfl) (fun N => loops_cons (lo115_5 N) (loops_cons (lo115_14 N) (loops_cons (lo115_17 N) loops_nil))) fun args r h => ?_
 unfold sp115 at h
 split at h
 ·obtain ⟨h1, rfl⟩ := sj h
  rename_i a0 a1 a2
  exact ⟨by kernel_rfl, fun hf => ⟨od (by kernel_rfl), (U115.b_eq (R := Res) (fun r0 r1 => some (k115 (r0, r1))) a0 a1 a2 h1).imp fun N hN => Eq.trans (by kernel_rfl) hN⟩⟩
 ·cases h

def E117 : Env := mkE T md [] [(3, [0, 1, 5, 6])] [] []
def k117 (p : Row) : Res := ⟨[.v false [.ow 9 true p]], []⟩
def T117_3 (p0 : Row) (p1 : ByteArray) (p2 : Int) (p3 : Row) : List (Nat × Cel) := [(0, .v (.v false [.sh 9 p0])), (2, .v (.v false [.s p1])), (10, .v (.v false [.own 0])), (12, .v (.v false [.i .i64 p2])), (1, .o (.row 9 true p3))]
def G117_3 {R : Type} (g : St -> Option R) (p0 : Row) (p1 : ByteArray) (p2 : Int) (p3 : Row) : Option R := g (tabl (T117_3 p0 p1 p2 p3))
def K117_3_0 {R : Type} (K : Ex -> St -> Option R) (p0 : Row) (p1 : ByteArray) (p2 : Int) (p3 : Row) : Option R := K (.exit 0) (tabl (T117_3 p0 p1 p2 p3))
def H117 {R : Type} (N : Nat) (K : Ex -> St -> Option R) : List Leaf -> Option R
 | [.R x0, .S x1, .I x2, .R x3] => U117.l3 N (K117_3_0 K) N x0 x1 x2 x3
 | _ => none
def it117 (N : Nat) {R : Type} : It R := fun rid f cn L K => bif Nat.beq rid 3 then tell (T117_3 [] ⟨#[]⟩ 0 []) (H117 N K) L none else none
theorem e117_3 {R : Type} (N : Nat) (K : Ex -> St -> Option R) : ∀ n : Nat, G117_3 (fun s => iter (exc E117 (it117 N) (loopOf Tryz.f117 3)) (canon (E117.keep 3)) n s K) = U117.l3 N (K117_3_0 K) n := by
 intro n
 induction n with
 | zero => exact rfl
 | succ n ih =>
  funext x0 x1 x2 x3
  have h : ∀ g, exc E117 (it117 N) (loopOf Tryz.f117 3) (tabl (T117_3 x0 x1 x2 x3)) (iterK g (canon (E117.keep 3)) K) = U117.r3 N (G117_3 g) (K117_3_0 K) x0 x1 x2 x3 := by intro g; kernel_rfl
  show iter _ _ (n + 1) _ K = _
  refine (iter_succ _ _ n _ K).trans ((h _).trans ?_)
  rw [ih]; rfl
theorem lo117_3 {R : Type} (N : Nat) : LoopOk E117 (it117 N (R := R)) (loopOf Tryz.f117 3) := by
 refine lo_one 3 (by kernel_rfl) (S := T117_3 [] ⟨#[]⟩ 0 []) (H := H117 N) (fun _ _ => rfl) fun K xs r h => ?_
 unfold H117 at h
 split at h
 ·rw [<- e117_3 N K N] at h; exact ⟨N, h⟩
 ·cases h
def sp117 : List Arg -> Option (Bool × Res)
 | [.v false [.sh 9 a0], .v false [.s a1]] => some (U117.c a0 a1, k117 (U117.v a0 a1))
 | _ => none
theorem ok117 : FnOk Tryz.prog T 117 sp117 := by
 refine fn_loop (E := E117) hE call_nil hM Tryz.func117 (code := Tryz.f117.body.getD .skip) (by kernel_rfl) (by kernel_rfl) (itf := fun N => it117 N) (l := [loopOf Tryz.f117 3]) (by kernel_rfl) (fun N => loops_cons (lo117_3 N) loops_nil) fun args r h => ?_
 unfold sp117 at h
 split at h
 ·obtain ⟨h1, rfl⟩ := sj h
  rename_i a0 a1
  exact ⟨by kernel_rfl, fun hf => ⟨od (by kernel_rfl), (U117.b_eq (R := Res) (fun r0 => some (k117 r0)) a0 a1 h1).imp fun N hN => Eq.trans (by kernel_rfl) hN⟩⟩
 ·cases h

def E118 : Env := mkE T md [(137, sp137), (138, sp138)] [(5, [1, 2, 5, 6])] [] []
def k118 (p : Int) : Res := ⟨[.v false [.i .i64 p]], []⟩
def T118_5 (p0 : ByteArray) (p1 p2 : Int) (p3 : Row) (p4 : Int) : List (Nat × Cel) := [(2, .v (.v false [.s p0])), (4, .v (.v false [.bp 0 0])), (10, .v (.v false [.i .i64 p1])), (12, .v (.v false [.i .i64 p2])), (1, .o (.box [.sh 144 p3, .i .i64 p4]))]
def G118_5 {R : Type} (g : St -> Option R) (p0 : ByteArray) (p1 p2 : Int) (p3 : Row) (p4 : Int) : Option R := g (tabl (T118_5 p0 p1 p2 p3 p4))
def K118_5_0 {R : Type} (K : Ex -> St -> Option R) (p0 : ByteArray) (p1 p2 : Int) (p3 : Row) (p4 : Int) : Option R := K (.exit 0) (tabl (T118_5 p0 p1 p2 p3 p4))
def H118 {R : Type} (N : Nat) (K : Ex -> St -> Option R) : List Leaf -> Option R
 | [.S x0, .I x1, .I x2, .R x3, .I x4] => U118.l5 N (K118_5_0 K) N x0 x1 x2 x3 x4
 | _ => none
def it118 (N : Nat) {R : Type} : It R := fun rid f cn L K => bif Nat.beq rid 5 then tell (T118_5 ⟨#[]⟩ 0 0 [] 0) (H118 N K) L none else none
theorem e118_5 {R : Type} (N : Nat) (K : Ex -> St -> Option R) : ∀ n : Nat, G118_5 (fun s => iter (exc E118 (it118 N) (loopOf Tryz.f118 5)) (canon (E118.keep 5)) n s K) = U118.l5 N (K118_5_0 K) n := by
 intro n
 induction n with
 | zero => exact rfl
 | succ n ih =>
  funext x0 x1 x2 x3 x4
  have h : ∀ g, exc E118 (it118 N) (loopOf Tryz.f118 5) (tabl (T118_5 x0 x1 x2 x3 x4)) (iterK g (canon (E118.keep 5)) K) = U118.r5 N (G118_5 g) (K118_5_0 K) x0 x1 x2 x3 x4 := by intro g; kernel_rfl
  show iter _ _ (n + 1) _ K = _
  refine (iter_succ _ _ n _ K).trans ((h _).trans ?_)
  rw [ih]; rfl
theorem lo118_5 {R : Type} (N : Nat) : LoopOk E118 (it118 N (R := R)) (loopOf Tryz.f118 5) := by
 refine lo_one 5 (by kernel_rfl) (S := T118_5 ⟨#[]⟩ 0 0 [] 0) (H := H118 N) (fun _ _ => rfl) fun K xs r h => ?_
 unfold H118 at h
 split at h
 ·rw [<- e118_5 N K N] at h; exact ⟨N, h⟩
 ·cases h
def sp118 : List Arg -> Option (Bool × Res)
 | [.v true [.sh 144 a0, .i .i64 a1], .v false [.s a2]] => some (U118.c a0 a1 a2, k118 (U118.v a0 a1 a2))
 | _ => none
theorem ok118 : FnOk Tryz.prog T 118 sp118 := by
 refine fn_loop (E := E118) hE (call_cons ok137 (call_cons ok138 call_nil)) hM Tryz.func118 (code := Tryz.f118.body.getD .skip) (by kernel_rfl) (by kernel_rfl) (itf := fun N => it118 N) (l := [loopOf Tryz.f118 5]) (by kernel_rfl) (fun N => loops_cons (lo118_5 N) loops_nil) fun args r h => ?_
 unfold sp118 at h
 split at h
 ·obtain ⟨h1, rfl⟩ := sj h
  rename_i a0 a1 a2
  exact ⟨by kernel_rfl, fun hf => ⟨od (by kernel_rfl), (U118.b_eq (R := Res) (fun r0 => some (k118 r0)) a0 a1 a2 h1).imp fun N hN => Eq.trans (by kernel_rfl) hN⟩⟩
 ·cases h

def E89 : Env := mkE T md [(66, sp66), (114, sp114), (88, sp88), (115, sp115), (116, sp116), (117, sp117), (118, sp118)] [] [] []
def k89 (p : Row × Row × Row × Int × ByteArray) : Res := ⟨[.v true [.ow 9 true p.1, .ow 9 true p.2.1, .ow 144 true p.2.2.1, .i .i64 p.2.2.2.1], .v false [.s p.2.2.2.2]], []⟩
def sp89 : List Arg -> Option (Bool × Res)
 | [.v true [.sh 9 a0, .sh 9 a1, .sh 144 a2, .i .i64 a3], .v false [.s a4]] => some (U89.c a0 a1 a2 a3 a4, k89 (U89.v a0 a1 a2 a3 a4))
 | _ => none
theorem ok89 : FnOk Tryz.prog T 89 sp89 := by
 refine fn_flat (E := E89) hE (call_cons ok66 (call_cons ok114 (call_cons ok88 (call_cons ok115 (call_cons ok116 (call_cons ok117 (call_cons ok118 call_nil))))))) hM Tryz.func89 (code := Tryz.f89.body.getD .skip) (by kernel_rfl) (by kernel_rfl) (by kernel_rfl) fun args r h => ?_
 unfold sp89 at h
 split at h
 ·obtain ⟨h1, rfl⟩ := sj h
  rename_i a0 a1 a2 a3 a4
  exact ⟨by kernel_rfl, fun hf => ⟨od (by kernel_rfl), Eq.trans (by kernel_rfl) (U89.b_eq (R := Res) (fun r0 r1 r2 r3 r4 => some (k89 (r0, r1, r2, r3, r4))) a0 a1 a2 a3 a4 h1)⟩⟩
 ·cases h

def E90 : Env := mkE T md [] [(3, [0, 1, 5, 6])] [] []
def k90 (p : Row) : Res := ⟨[.v false [.ow 88 true p]], []⟩
def T90_3 (p0 : Row) (p1 : ByteArray) (p2 : Int) (p3 : Row) : List (Nat × Cel) := [(0, .v (.v false [.sh 88 p0])), (2, .v (.v false [.s p1])), (10, .v (.v false [.own 0])), (12, .v (.v false [.i .i64 p2])), (1, .o (.row 88 true p3))]
def G90_3 {R : Type} (g : St -> Option R) (p0 : Row) (p1 : ByteArray) (p2 : Int) (p3 : Row) : Option R := g (tabl (T90_3 p0 p1 p2 p3))
def K90_3_0 {R : Type} (K : Ex -> St -> Option R) (p0 : Row) (p1 : ByteArray) (p2 : Int) (p3 : Row) : Option R := K (.exit 0) (tabl (T90_3 p0 p1 p2 p3))
def H90 {R : Type} (N : Nat) (K : Ex -> St -> Option R) : List Leaf -> Option R
 | [.R x0, .S x1, .I x2, .R x3] => U90.l3 N (K90_3_0 K) N x0 x1 x2 x3
 | _ => none
def it90 (N : Nat) {R : Type} : It R := fun rid f cn L K => bif Nat.beq rid 3 then tell (T90_3 [] ⟨#[]⟩ 0 []) (H90 N K) L none else none
theorem e90_3 {R : Type} (N : Nat) (K : Ex -> St -> Option R) : ∀ n : Nat, G90_3 (fun s => iter (exc E90 (it90 N) (loopOf Tryz.f90 3)) (canon (E90.keep 3)) n s K) = U90.l3 N (K90_3_0 K) n := by
 intro n
 induction n with
 | zero => exact rfl
 | succ n ih =>
  funext x0 x1 x2 x3
  have h : ∀ g, exc E90 (it90 N) (loopOf Tryz.f90 3) (tabl (T90_3 x0 x1 x2 x3)) (iterK g (canon (E90.keep 3)) K) = U90.r3 N (G90_3 g) (K90_3_0 K) x0 x1 x2 x3 := by intro g; kernel_rfl
  show iter _ _ (n + 1) _ K = _
  refine (iter_succ _ _ n _ K).trans ((h _).trans ?_)
  rw [ih]; rfl
theorem lo90_3 {R : Type} (N : Nat) : LoopOk E90 (it90 N (R := R)) (loopOf Tryz.f90 3) := by
 refine lo_one 3 (by kernel_rfl) (S := T90_3 [] ⟨#[]⟩ 0 []) (H := H90 N) (fun _ _ => rfl) fun K xs r h => ?_
 unfold H90 at h
 split at h
 ·rw [<- e90_3 N K N] at h; exact ⟨N, h⟩
 ·cases h
def sp90 : List Arg -> Option (Bool × Res)
 | [.v false [.sh 88 a0], .v false [.s a1]] => some (U90.c a0 a1, k90 (U90.v a0 a1))
 | _ => none
theorem ok90 : FnOk Tryz.prog T 90 sp90 := by
 refine fn_loop (E := E90) hE call_nil hM Tryz.func90 (code := Tryz.f90.body.getD .skip) (by kernel_rfl) (by kernel_rfl) (itf := fun N => it90 N) (l := [loopOf Tryz.f90 3]) (by kernel_rfl) (fun N => loops_cons (lo90_3 N) loops_nil) fun args r h => ?_
 unfold sp90 at h
 split at h
 ·obtain ⟨h1, rfl⟩ := sj h
  rename_i a0 a1
  exact ⟨by kernel_rfl, fun hf => ⟨od (by kernel_rfl), (U90.b_eq (R := Res) (fun r0 => some (k90 r0)) a0 a1 h1).imp fun N hN => Eq.trans (by kernel_rfl) hN⟩⟩
 ·cases h

def E91 : Env := mkE T md [(116, sp116)] [] [] []
def k91 (p : Bool) : Res := ⟨[.v false [.b p]], []⟩
def sp91 : List Arg -> Option (Bool × Res)
 | [.v true [.sh 9 a0, .sh 9 a1, .sh 144 a2, .i .i64 a3], .v false [.s a4]] => some (U91.c a0 a1 a2 a3 a4, k91 (U91.v a0 a1 a2 a3 a4))
 | _ => none
theorem ok91 : FnOk Tryz.prog T 91 sp91 := by
 refine fn_flat (E := E91) hE (call_cons ok116 call_nil) hM Tryz.func91 (code := Tryz.f91.body.getD .skip) (by kernel_rfl) (by kernel_rfl) (by kernel_rfl) fun args r h => ?_
 unfold sp91 at h
 split at h
 ·obtain ⟨h1, rfl⟩ := sj h
  rename_i a0 a1 a2 a3 a4
  exact ⟨by kernel_rfl, fun hf => ⟨od (by kernel_rfl), Eq.trans (by kernel_rfl) (U91.b_eq (R := Res) (fun r0 => some (k91 r0)) a0 a1 a2 a3 a4 h1)⟩⟩
 ·cases h

def E92 : Env := mkE T md [] [(3, [0, 3, 5, 6]), (9, [0, 3, 5, 7])] [] []
def k92 (p : Row) : Res := ⟨[.v false [.ow 88 true p]], []⟩
def T92_3 (p0 : Row) (p1 : Int) (p2 : ByteArray) (p3 p4 : Int) (p5 : ByteArray) (p6 : Row) : List (Nat × Cel) := [(0, .v (.v false [.sh 88 p0])), (6, .v (.v false [.bp 0 0])), (10, .v (.v false [.own 1])), (12, .v (.v false [.i .i64 p1])), (1, .o (.box [.s p2, .i .i64 p3, .i .i64 p4, .s p5])), (3, .o (.row 88 true p6))]
def G92_3 {R : Type} (g : St -> Option R) (p0 : Row) (p1 : Int) (p2 : ByteArray) (p3 p4 : Int) (p5 : ByteArray) (p6 : Row) : Option R := g (tabl (T92_3 p0 p1 p2 p3 p4 p5 p6))
def K92_3_0 {R : Type} (K : Ex -> St -> Option R) (p0 : Row) (p1 : Int) (p2 : ByteArray) (p3 p4 : Int) (p5 : ByteArray) (p6 : Row) : Option R := K (.exit 0) (tabl (T92_3 p0 p1 p2 p3 p4 p5 p6))
def T92_9 (p0 : Row) (p1 : Int) (p2 : ByteArray) (p3 p4 : Int) (p5 : ByteArray) (p6 : Row) : List (Nat × Cel) := [(0, .v (.v false [.sh 88 p0])), (6, .v (.v false [.bp 0 0])), (10, .v (.v false [.own 1])), (14, .v (.v false [.i .i64 p1])), (1, .o (.box [.s p2, .i .i64 p3, .i .i64 p4, .s p5])), (3, .o (.row 88 true p6))]
def G92_9 {R : Type} (g : St -> Option R) (p0 : Row) (p1 : Int) (p2 : ByteArray) (p3 p4 : Int) (p5 : ByteArray) (p6 : Row) : Option R := g (tabl (T92_9 p0 p1 p2 p3 p4 p5 p6))
def K92_9_0 {R : Type} (K : Ex -> St -> Option R) (p0 : Row) (p1 : Int) (p2 : ByteArray) (p3 p4 : Int) (p5 : ByteArray) (p6 : Row) : Option R := K (.exit 2) (tabl (T92_9 p0 p1 p2 p3 p4 p5 p6))
def it92 (N : Nat) {R : Type} : It R := fun rid f cn L K => bif Nat.beq rid 3 then tell (T92_3 [] 0 ⟨#[]⟩ 0 0 ⟨#[]⟩ []) (fun | [.R x0, .I x1, .S x2, .I x3, .I x4, .S x5, .R x6] => U92.l3 N (K92_3_0 K) N x0 x1 x2 x3 x4 x5 x6 | _ => none) L none else bif Nat.beq rid 9 then tell (T92_9 [] 0 ⟨#[]⟩ 0 0 ⟨#[]⟩ []) (fun | [.R x14, .I x15, .S x16, .I x17, .I x18, .S x19, .R x20] => U92.l9 N (K92_9_0 K) N x14 x15 x16 x17 x18 x19 x20 | _ => none) L none else none
theorem e92_3 {R : Type} (N : Nat) (K : Ex -> St -> Option R) : ∀ n : Nat, G92_3 (fun s => iter (exc E92 (it92 N) (loopOf Tryz.f92 3)) (canon (E92.keep 3)) n s K) = U92.l3 N (K92_3_0 K) n := by
 intro n
 induction n with
 | zero => exact rfl
 | succ n ih =>
  funext x0 x1 x2 x3 x4 x5 x6
  have h : ∀ g, exc E92 (it92 N) (loopOf Tryz.f92 3) (tabl (T92_3 x0 x1 x2 x3 x4 x5 x6)) (iterK g (canon (E92.keep 3)) K) = U92.r3 N (G92_3 g) (K92_3_0 K) x0 x1 x2 x3 x4 x5 x6 := by intro g; kernel_rfl
  show iter _ _ (n + 1) _ K = _
  refine (iter_succ _ _ n _ K).trans ((h _).trans ?_)
  rw [ih]; rfl
theorem lo92_3 {R : Type} (N : Nat) : LoopOk E92 (it92 N (R := R)) (loopOf Tryz.f92 3) := by
 have e : firstRid (loopOf Tryz.f92 3) = 3 := by kernel_rfl
 intro L K r
 rw [e]
 intro h
 unfold it92 at h
 simp only [show Nat.beq 3 3 = true from rfl, cond_false, cond_true] at h
 refine tell_ok (Q := fun L => ∃ n, iter (exc E92 (it92 N) (loopOf Tryz.f92 3)) (canon (E92.keep 3)) n (tabl L) K = some r) h (fun xs h => ?_) fun h => ?_
 ·(try dsimp only at h)
  split at h
  ·rw [<- (e92_3 N K N)] at h; exact ⟨N, h⟩
  ·cases h
 cases h
theorem e92_9 {R : Type} (N : Nat) (K : Ex -> St -> Option R) : ∀ n : Nat, G92_9 (fun s => iter (exc E92 (it92 N) (loopOf Tryz.f92 9)) (canon (E92.keep 9)) n s K) = U92.l9 N (K92_9_0 K) n := by
 intro n
 induction n with
 | zero => exact rfl
 | succ n ih =>
  funext x14 x15 x16 x17 x18 x19 x20
  have h : ∀ g, exc E92 (it92 N) (loopOf Tryz.f92 9) (tabl (T92_9 x14 x15 x16 x17 x18 x19 x20)) (iterK g (canon (E92.keep 9)) K) = U92.r9 N (G92_9 g) (K92_9_0 K) x14 x15 x16 x17 x18 x19 x20 := by intro g; kernel_rfl
  show iter _ _ (n + 1) _ K = _
  refine (iter_succ _ _ n _ K).trans ((h _).trans ?_)
  rw [ih]; rfl
theorem lo92_9 {R : Type} (N : Nat) : LoopOk E92 (it92 N (R := R)) (loopOf Tryz.f92 9) := by
 have e : firstRid (loopOf Tryz.f92 9) = 9 := by kernel_rfl
 intro L K r
 rw [e]
 intro h
 unfold it92 at h
 simp only [show Nat.beq 9 3 = false from rfl, show Nat.beq 9 9 = true from rfl, cond_false, cond_true] at h
 refine tell_ok (Q := fun L => ∃ n, iter (exc E92 (it92 N) (loopOf Tryz.f92 9)) (canon (E92.keep 9)) n (tabl L) K = some r) h (fun xs h => ?_) fun h => ?_
 ·(try dsimp only at h)
  split at h
  ·rw [<- (e92_9 N K N)] at h; exact ⟨N, h⟩
  ·cases h
 cases h
def sp92 : List Arg -> Option (Bool × Res)
 | [.v false [.sh 88 a0], .v true [.s a1, .i .i64 a2, .i .i64 a3, .s a4]] => some (U92.c a0 a1 a2 a3 a4, k92 (U92.v a0 a1 a2 a3 a4))
 | _ => none
theorem ok92 : FnOk Tryz.prog T 92 sp92 := by
 refine fn_loop (E := E92) hE call_nil hM Tryz.func92 (code := Tryz.f92.body.getD .skip) (by kernel_rfl) (by kernel_rfl) (itf := fun N => it92 N) (l := [loopOf Tryz.f92 3, loopOf Tryz.f92 9]) (by kernel_rfl) (fun N => loops_cons (lo92_3 N) (loops_cons (lo92_9 N) loops_nil)) fun args r h => ?_
 unfold sp92 at h
 split at h
 ·obtain ⟨h1, rfl⟩ := sj h
  rename_i a0 a1 a2 a3 a4
  exact ⟨by kernel_rfl, fun hf => ⟨od (by kernel_rfl), (U92.b_eq (R := Res) (fun r0 => some (k92 r0)) a0 a1 a2 a3 a4 h1).imp fun N hN => Eq.trans (by kernel_rfl) hN⟩⟩
 ·cases h

def E53 : Env := mkE T md [(89, sp89), (90, sp90), (91, sp91), (92, sp92)] [] [] [(0, 1, Go.FG.Om.own 88)]
def k53 (p : Int × Row × Row × Row × Row × Int × Row × Row × Int) : Res := ⟨[], [[.i .i64 p.1, .ow 88 true p.2.1, .ow 9 true p.2.2.1, .ow 9 true p.2.2.2.1, .ow 144 true p.2.2.2.2.1, .i .i64 p.2.2.2.2.2.1, .kp p.2.2.2.2.2.2.1, .kp p.2.2.2.2.2.2.2.1, .i .i64 p.2.2.2.2.2.2.2.2]]⟩
def sp53 : List Arg -> Option (Bool × Res)
 | [.pt [.i .i64 a0, .ow 88 true a1, .ow 9 true a2, .ow 9 true a3, .ow 144 true a4, .i .i64 a5, .ow 64 true a6, .ow 106 true a7, .i .i64 a8], .v true [.s a9, .i .i64 a10, .i .i64 a11, .s a12]] => some (U53.c a0 a1 a2 a3 a4 a5 a6 a7 a8 a9 a10 a11 a12, k53 (U53.v a0 a1 a2 a3 a4 a5 a6 a7 a8 a9 a10 a11 a12))
 | _ => none
theorem ok53 : FnOk Tryz.prog T 53 sp53 := by
 refine fn_flat (E := E53) hE (call_cons ok89 (call_cons ok90 (call_cons ok91 (call_cons ok92 call_nil)))) hM Tryz.func53 (code := Tryz.f53.body.getD .skip) (by kernel_rfl) (by kernel_rfl) (by kernel_rfl) fun args r h => ?_
 unfold sp53 at h
 split at h
 ·obtain ⟨h1, rfl⟩ := sj h
  rename_i a0 a1 a2 a3 a4 a5 a6 a7 a8 a9 a10 a11 a12
  exact ⟨by kernel_rfl, fun hf => ⟨od (by kernel_rfl), Eq.trans (by kernel_rfl) (U53.b_eq (R := Res) (fun r0 r1 r2 r3 r4 r5 r6 r7 r8 => some (k53 (r0, r1, r2, r3, r4, r5, r6, r7, r8))) a0 a1 a2 a3 a4 a5 a6 a7 a8 a9 a10 a11 a12 h1)⟩⟩
 ·cases h

def E17 : Env := mkE T md [(50, sp50), (51, sp51), (52, sp52), (53, sp53)] [(4, [0, 1, 4, 5, 6])] [] []
def k17 (p : Int × Row × Row × Row × Row × Int × Row × Row × Int) : Res := ⟨[.v true [.i .i64 p.1, .ow 88 true p.2.1, .ow 9 true p.2.2.1, .ow 9 true p.2.2.2.1, .ow 144 true p.2.2.2.2.1, .i .i64 p.2.2.2.2.2.1, .ow 64 true p.2.2.2.2.2.2.1, .ow 106 true p.2.2.2.2.2.2.2.1, .i .i64 p.2.2.2.2.2.2.2.2]], []⟩
def T17_4 (p0 : Int) (p1 : Row) (p2 p3 p4 p5 p6 p7 p8 : Int) (p9 p10 p11 p12 p13 p14 : Row) : List (Nat × Cel) := [(0, .v (.v false [.i .i64 p0])), (2, .v (.v false [.sh 88 p1])), (8, .v (.v false [.bp 0 0])), (10, .v (.v false [.bp 1 0])), (12, .v (.v false [.i .i64 p2])), (1, .o (.box [.i .i64 p3, .nl, .nl, .nl, .nl, .i .i64 p4, .nl, .nl, .i .i64 p5])), (3, .o (.box [.i .i64 p6, .own 2, .own 3, .own 4, .own 5, .i .i64 p7, .own 6, .own 7, .i .i64 p8])), (5, .o (.row 88 true p9)), (7, .o (.row 9 true p10)), (9, .o (.row 9 true p11)), (11, .o (.row 144 true p12)), (13, .o (.row 64 true p13)), (15, .o (.row 106 true p14))]
def G17_4 {R : Type} (g : St -> Option R) (p0 : Int) (p1 : Row) (p2 p3 p4 p5 p6 p7 p8 : Int) (p9 p10 p11 p12 p13 p14 : Row) : Option R := g (tabl (T17_4 p0 p1 p2 p3 p4 p5 p6 p7 p8 p9 p10 p11 p12 p13 p14))
def K17_4_0 {R : Type} (K : Ex -> St -> Option R) (p0 : Int) (p1 : Row) (p2 p3 p4 p5 p6 p7 p8 : Int) (p9 p10 p11 p12 p13 p14 : Row) : Option R := K (.exit 0) (tabl (T17_4 p0 p1 p2 p3 p4 p5 p6 p7 p8 p9 p10 p11 p12 p13 p14))
def H17 {R : Type} (N : Nat) (K : Ex -> St -> Option R) : List Leaf -> Option R
 | [.I x0, .R x1, .I x2, .I x3, .I x4, .I x5, .I x6, .I x7, .I x8, .R x9, .R x10, .R x11, .R x12, .R x13, .R x14] => U17.l4 N (K17_4_0 K) N x0 x1 x2 x3 x4 x5 x6 x7 x8 x9 x10 x11 x12 x13 x14
 | _ => none
def it17 (N : Nat) {R : Type} : It R := fun rid f cn L K => bif Nat.beq rid 4 then tell (T17_4 0 [] 0 0 0 0 0 0 0 [] [] [] [] [] []) (H17 N K) L none else none
theorem e17_4 {R : Type} (N : Nat) (K : Ex -> St -> Option R) : ∀ n : Nat, G17_4 (fun s => iter (exc E17 (it17 N) (loopOf Tryz.f17 4)) (canon (E17.keep 4)) n s K) = U17.l4 N (K17_4_0 K) n := by
 intro n
 induction n with
 | zero => exact rfl
 | succ n ih =>
  funext x0 x1 x2 x3 x4 x5 x6 x7 x8 x9 x10 x11 x12 x13 x14
  have h : ∀ g, exc E17 (it17 N) (loopOf Tryz.f17 4) (tabl (T17_4 x0 x1 x2 x3 x4 x5 x6 x7 x8 x9 x10 x11 x12 x13 x14)) (iterK g (canon (E17.keep 4)) K) = U17.r4 N (G17_4 g) (K17_4_0 K) x0 x1 x2 x3 x4 x5 x6 x7 x8 x9 x10 x11 x12 x13 x14 := by intro g; kernel_rfl
  show iter _ _ (n + 1) _ K = _
  refine (iter_succ _ _ n _ K).trans ((h _).trans ?_)
  rw [ih]; rfl
theorem lo17_4 {R : Type} (N : Nat) : LoopOk E17 (it17 N (R := R)) (loopOf Tryz.f17 4) := by
 refine lo_one 4 (by kernel_rfl) (S := T17_4 0 [] 0 0 0 0 0 0 0 [] [] [] [] [] []) (H := H17 N) (fun _ _ => rfl) fun K xs r h => ?_
 unfold H17 at h
 split at h
 ·rw [<- e17_4 N K N] at h; exact ⟨N, h⟩
 ·cases h
def sp17 : List Arg -> Option (Bool × Res)
 | [.v false [.i .i64 a0], .v false [.sh 88 a1]] => some (U17.c a0 a1, k17 (U17.v a0 a1))
 | _ => none
theorem ok17 : FnOk Tryz.prog T 17 sp17 := by
 refine fn_loop (E := E17) hE (call_cons ok50 (call_cons ok51 (call_cons ok52 (call_cons ok53 call_nil)))) hM Tryz.func17 (code := Tryz.f17.body.getD .skip) (by kernel_rfl) (by kernel_rfl) (itf := fun N => it17 N) (l := [loopOf Tryz.f17 4]) (by kernel_rfl) (fun N => loops_cons (lo17_4 N) loops_nil) fun args r h => ?_
 unfold sp17 at h
 split at h
 ·obtain ⟨h1, rfl⟩ := sj h
  rename_i a0 a1
  exact ⟨by kernel_rfl, fun hf => ⟨od (by kernel_rfl), (U17.b_eq (R := Res) (fun r0 r1 r2 r3 r4 r5 r6 r7 r8 => some (k17 (r0, r1, r2, r3, r4, r5, r6, r7, r8))) a0 a1 h1).imp fun N hN => Eq.trans (by kernel_rfl) hN⟩⟩
 ·cases h

def E119 : Env := mkE T md [] [(3, [0, 1, 3])] [] []
def k119 (p : Row × Int) : Res := ⟨[.v true [.ow 144 true p.1, .i .i64 p.2]], []⟩
def T119_3 (p0 p1 p2 : Int) : List (Nat × Cel) := [(0, .v (.v false [.bp 0 0])), (2, .v (.v false [.bp 1 0])), (6, .v (.v false [.i .i64 p0])), (1, .o (.box [.nl, .i .i64 p1])), (3, .o (.box [.nl, .i .i64 p2]))]
def G119_3 {R : Type} (g : St -> Option R) (p0 p1 p2 : Int) : Option R := g (tabl (T119_3 p0 p1 p2))
def T119_3a (p0 p1 p2 : Int) (p3 : Row) : List (Nat × Cel) := [(0, .v (.v false [.bp 0 0])), (2, .v (.v false [.bp 1 0])), (6, .v (.v false [.i .i64 p0])), (1, .o (.box [.nl, .i .i64 p1])), (3, .o (.box [.own 2, .i .i64 p2])), (5, .o (.row 144 true p3))]
def G119_3a {R : Type} (g : St -> Option R) (p0 p1 p2 : Int) (p3 : Row) : Option R := g (tabl (T119_3a p0 p1 p2 p3))
def K119_3_0 {R : Type} (K : Ex -> St -> Option R) (p0 p1 p2 : Int) : Option R := K (.exit 0) (tabl (T119_3 p0 p1 p2))
def K119_3_1 {R : Type} (K : Ex -> St -> Option R) (p0 p1 p2 : Int) (p3 : Row) : Option R := K (.exit 0) (tabl (T119_3a p0 p1 p2 p3))
def it119 (N : Nat) {R : Type} : It R := fun rid f cn L K => bif Nat.beq rid 3 then tell (T119_3 0 0 0) (fun | [.I x0, .I x1, .I x2] => U119.l3 N (K119_3_0 K) (K119_3_1 K) N x0 x1 x2 | _ => none) L (tell (T119_3a 0 0 0 []) (fun | [.I x3, .I x4, .I x5, .R x6] => U119.l3a N (K119_3_0 K) (K119_3_1 K) N x3 x4 x5 x6 | _ => none) L none) else none
theorem e119_3 {R : Type} (N : Nat) (K : Ex -> St -> Option R) : ∀ n : Nat, G119_3 (fun s => iter (exc E119 (it119 N) (loopOf Tryz.f119 3)) (canon (E119.keep 3)) n s K) = U119.l3 N (K119_3_0 K) (K119_3_1 K) n /\ G119_3a (fun s => iter (exc E119 (it119 N) (loopOf Tryz.f119 3)) (canon (E119.keep 3)) n s K) = U119.l3a N (K119_3_0 K) (K119_3_1 K) n := by
 intro n
 induction n with
 | zero => exact ⟨rfl, rfl⟩
 | succ n ih =>
  obtain ⟨i0, i1⟩ := ih
  refine ⟨?_, ?_⟩
  ·funext x0 x1 x2
   have h : ∀ g, exc E119 (it119 N) (loopOf Tryz.f119 3) (tabl (T119_3 x0 x1 x2)) (iterK g (canon (E119.keep 3)) K) = U119.r3 N (G119_3 g) (G119_3a g) (K119_3_0 K) (K119_3_1 K) x0 x1 x2 := by intro g; kernel_rfl
   show iter _ _ (n + 1) _ K = _
   refine (iter_succ _ _ n _ K).trans ((h _).trans ?_)
   rw [i0, i1]; rfl
  ·funext x3 x4 x5 x6
   have h : ∀ g, exc E119 (it119 N) (loopOf Tryz.f119 3) (tabl (T119_3a x3 x4 x5 x6)) (iterK g (canon (E119.keep 3)) K) = U119.r3a N (G119_3 g) (G119_3a g) (K119_3_0 K) (K119_3_1 K) x3 x4 x5 x6 := by intro g; kernel_rfl
   show iter _ _ (n + 1) _ K = _
   refine (iter_succ _ _ n _ K).trans ((h _).trans ?_)
   rw [i0, i1]; rfl
theorem lo119_3 {R : Type} (N : Nat) : LoopOk E119 (it119 N (R := R)) (loopOf Tryz.f119 3) := by
 have e : firstRid (loopOf Tryz.f119 3) = 3 := by kernel_rfl
 intro L K r
 rw [e]
 intro h
 unfold it119 at h
 simp only [show Nat.beq 3 3 = true from rfl, cond_false, cond_true] at h
 refine tell_ok (Q := fun L => ∃ n, iter (exc E119 (it119 N) (loopOf Tryz.f119 3)) (canon (E119.keep 3)) n (tabl L) K = some r) h (fun xs h => ?_) fun h => ?_
 ·(try dsimp only at h)
  split at h
  ·rw [<- (e119_3 N K N).1] at h; exact ⟨N, h⟩
  ·cases h
 refine tell_ok (Q := fun L => ∃ n, iter (exc E119 (it119 N) (loopOf Tryz.f119 3)) (canon (E119.keep 3)) n (tabl L) K = some r) h (fun xs h => ?_) fun h => ?_
 ·(try dsimp only at h)
  split at h
  ·rw [<- (e119_3 N K N).2] at h; exact ⟨N, h⟩
  ·cases h
 cases h
def sp119 : List Arg -> Option (Bool × Res)
 | [] => some (U119.c, k119 U119.v)
 | _ => none
theorem ok119 : FnOk Tryz.prog T 119 sp119 := by
 refine fn_loop (E := E119) hE call_nil hM Tryz.func119 (code := Tryz.f119.body.getD .skip) (by kernel_rfl) (by kernel_rfl) (itf := fun N => it119 N) (l := [loopOf Tryz.f119 3]) (by kernel_rfl) (fun N => loops_cons (lo119_3 N) loops_nil) fun args r h => ?_
 unfold sp119 at h
 split at h
 ·obtain ⟨h1, rfl⟩ := sj h
  exact ⟨by kernel_rfl, fun hf => ⟨od (by kernel_rfl), (U119.b_eq (R := Res) (fun r0 r1 => some (k119 (r0, r1))) h1).imp fun N hN => Eq.trans (by kernel_rfl) hN⟩⟩
 ·cases h

def E93 : Env := mkE T md [(119, sp119)] [] [] []
def k93 (p : Row × Row × Row × Int) : Res := ⟨[.v true [.ow 9 true p.1, .ow 9 true p.2.1, .ow 144 true p.2.2.1, .i .i64 p.2.2.2]], []⟩
def sp93 : List Arg -> Option (Bool × Res)
 | [] => some (true, k93 U93.v)
 | _ => none
theorem ok93 : FnOk Tryz.prog T 93 sp93 := by
 refine fn_flat (E := E93) hE (call_cons ok119 call_nil) hM Tryz.func93 (code := Tryz.f93.body.getD .skip) (by kernel_rfl) (by kernel_rfl) (by kernel_rfl) fun args r h => ?_
 unfold sp93 at h
 split at h
 ·obtain ⟨h1, rfl⟩ := sj h
  exact ⟨by kernel_rfl, fun hf => ⟨od (by kernel_rfl), Eq.trans (by kernel_rfl) (U93.b_eq (R := Res) fun r0 r1 r2 r3 => some (k93 (r0, r1, r2, r3)))⟩⟩
 ·cases h

def E55 : Env := mkE T md [(93, sp93)] [] [] []
def k55 (p : Int × Row × Row × Row × Row × Int × Row × Row × Int) : Res := ⟨[.v true [.i .i64 p.1, .ow 88 true p.2.1, .ow 9 true p.2.2.1, .ow 9 true p.2.2.2.1, .ow 144 true p.2.2.2.2.1, .i .i64 p.2.2.2.2.2.1, .ow 64 true p.2.2.2.2.2.2.1, .ow 106 true p.2.2.2.2.2.2.2.1, .i .i64 p.2.2.2.2.2.2.2.2]], []⟩
def sp55 : List Arg -> Option (Bool × Res)
 | [] => some (true, k55 U55.v)
 | _ => none
theorem ok55 : FnOk Tryz.prog T 55 sp55 := by
 refine fn_flat (E := E55) hE (call_cons ok93 call_nil) hM Tryz.func55 (code := Tryz.f55.body.getD .skip) (by kernel_rfl) (by kernel_rfl) (by kernel_rfl) fun args r h => ?_
 unfold sp55 at h
 split at h
 ·obtain ⟨h1, rfl⟩ := sj h
  exact ⟨by kernel_rfl, fun hf => ⟨od (by kernel_rfl), Eq.trans (by kernel_rfl) (U55.b_eq (R := Res) fun r0 r1 r2 r3 r4 r5 r6 r7 r8 => some (k55 (r0, r1, r2, r3, r4, r5, r6, r7, r8)))⟩⟩
 ·cases h

def E61 : Env := mkE T md [] [] [] []
def k61 (p : Bool) : Res := ⟨[.v false [.b p]], []⟩
def sp61 : List Arg -> Option (Bool × Res)
 | [.v false [.i .i64 a0], .v false [.i .i64 a1], .v false [.i .i64 a2]] => some (true, k61 (U61.v a0 a1 a2))
 | _ => none
theorem ok61 : FnOk Tryz.prog T 61 sp61 := by
 refine fn_flat (E := E61) hE call_nil hM Tryz.func61 (code := Tryz.f61.body.getD .skip) (by kernel_rfl) (by kernel_rfl) (by kernel_rfl) fun args r h => ?_
 unfold sp61 at h
 split at h
 ·obtain ⟨h1, rfl⟩ := sj h
  rename_i a0 a1 a2
  exact ⟨by kernel_rfl, fun hf => ⟨od (by kernel_rfl), Eq.trans (by kernel_rfl) (U61.b_eq (R := Res) (fun r0 => some (k61 r0)) a0 a1 a2)⟩⟩
 ·cases h

def E120 : Env := mkE T md [(61, sp61)] [] [] []
def k120 (p : Bool) : Res := ⟨[.v false [.b p]], []⟩
def sp120 : List Arg -> Option (Bool × Res)
 | [.v false [.s a0]] => some (true, k120 (U120.v a0))
 | _ => none
theorem ok120 : FnOk Tryz.prog T 120 sp120 := by
 refine fn_flat (E := E120) hE (call_cons ok61 call_nil) hM Tryz.func120 (code := Tryz.f120.body.getD .skip) (by kernel_rfl) (by kernel_rfl) (by kernel_rfl) fun args r h => ?_
 unfold sp120 at h
 split at h
 ·obtain ⟨h1, rfl⟩ := sj h
  rename_i a0
  exact ⟨by kernel_rfl, fun hf => ⟨od (by kernel_rfl), Eq.trans (by kernel_rfl) (U120.b_eq (R := Res) (fun r0 => some (k120 r0)) a0)⟩⟩
 ·cases h

def E95 : Env := mkE T md [(61, sp61)] [] [] []
def k95 (p : Bool) : Res := ⟨[.v false [.b p]], []⟩
def sp95 : List Arg -> Option (Bool × Res)
 | [.v false [.i .i64 a0]] => some (true, k95 (U95.v a0))
 | _ => none
theorem ok95 : FnOk Tryz.prog T 95 sp95 := by
 refine fn_flat (E := E95) hE (call_cons ok61 call_nil) hM Tryz.func95 (code := Tryz.f95.body.getD .skip) (by kernel_rfl) (by kernel_rfl) (by kernel_rfl) fun args r h => ?_
 unfold sp95 at h
 split at h
 ·obtain ⟨h1, rfl⟩ := sj h
  rename_i a0
  exact ⟨by kernel_rfl, fun hf => ⟨od (by kernel_rfl), Eq.trans (by kernel_rfl) (U95.b_eq (R := Res) (fun r0 => some (k95 r0)) a0)⟩⟩
 ·cases h

def E94 : Env := mkE T md [(120, sp120), (95, sp95), (61, sp61)] [] [] []
def k94 (p : Bool) : Res := ⟨[.v false [.b p]], []⟩
def sp94 : List Arg -> Option (Bool × Res)
 | [.v true [.s a0, .i .i64 a1, .i .i64 a2, .s a3]] => some (true, k94 (U94.v a0 a1 a2 a3))
 | _ => none
theorem ok94 : FnOk Tryz.prog T 94 sp94 := by
 refine fn_flat (E := E94) hE (call_cons ok120 (call_cons ok95 (call_cons ok61 call_nil))) hM Tryz.func94 (code := Tryz.f94.body.getD .skip) (by kernel_rfl) (by kernel_rfl) (by kernel_rfl) fun args r h => ?_
 unfold sp94 at h
 split at h
 ·obtain ⟨h1, rfl⟩ := sj h
  rename_i a0 a1 a2 a3
  exact ⟨by kernel_rfl, fun hf => ⟨od (by kernel_rfl), Eq.trans (by kernel_rfl) (U94.b_eq (R := Res) (fun r0 => some (k94 r0)) a0 a1 a2 a3)⟩⟩
 ·cases h

def E56 : Env := mkE T md [(94, sp94), (95, sp95), (61, sp61)] [] [] []
def k56 (p : Bool) : Res := ⟨[.v false [.b p]], []⟩
def sp56 : List Arg -> Option (Bool × Res)
 | [.v true [.s a0, .i .i64 a1, .i .i64 a2, .s a3], .v false [.i .i64 a4]] => some (true, k56 (U56.v a0 a1 a2 a3 a4))
 | _ => none
theorem ok56 : FnOk Tryz.prog T 56 sp56 := by
 refine fn_flat (E := E56) hE (call_cons ok94 (call_cons ok95 (call_cons ok61 call_nil))) hM Tryz.func56 (code := Tryz.f56.body.getD .skip) (by kernel_rfl) (by kernel_rfl) (by kernel_rfl) fun args r h => ?_
 unfold sp56 at h
 split at h
 ·obtain ⟨h1, rfl⟩ := sj h
  rename_i a0 a1 a2 a3 a4
  exact ⟨by kernel_rfl, fun hf => ⟨od (by kernel_rfl), Eq.trans (by kernel_rfl) (U56.b_eq (R := Res) (fun r0 => some (k56 r0)) a0 a1 a2 a3 a4)⟩⟩
 ·cases h

def E105 : Env := mkE T md [] [] [] []
def k105 (p : Row) : Res := ⟨[.v false [.ow 9 true p]], []⟩
def sp105 : List Arg -> Option (Bool × Res)
 | [.v false [.sh 9 a0]] => some (U105.c a0, k105 (U105.v a0))
 | _ => none
theorem ok105 : FnOk Tryz.prog T 105 sp105 := by
 refine fn_flat (E := E105) hE call_nil hM Tryz.func105 (code := Tryz.f105.body.getD .skip) (by kernel_rfl) (by kernel_rfl) (by kernel_rfl) fun args r h => ?_
 unfold sp105 at h
 split at h
 ·obtain ⟨h1, rfl⟩ := sj h
  rename_i a0
  exact ⟨by kernel_rfl, fun hf => ⟨od (by kernel_rfl), Eq.trans (by kernel_rfl) (U105.b_eq (R := Res) (fun r0 => some (k105 r0)) a0 h1)⟩⟩
 ·cases h

def E132 : Env := mkE T md [] [] [] []
def k132 (p : Row) : Res := ⟨[.v false [.ow 3 true p]], []⟩
def sp132 : List Arg -> Option (Bool × Res)
 | [.v false [.sh 3 a0]] => some (U132.c a0, k132 (U132.v a0))
 | _ => none
theorem ok132 : FnOk Tryz.prog T 132 sp132 := by
 refine fn_flat (E := E132) hE call_nil hM Tryz.func132 (code := Tryz.f132.body.getD .skip) (by kernel_rfl) (by kernel_rfl) (by kernel_rfl) fun args r h => ?_
 unfold sp132 at h
 split at h
 ·obtain ⟨h1, rfl⟩ := sj h
  rename_i a0
  exact ⟨by kernel_rfl, fun hf => ⟨od (by kernel_rfl), Eq.trans (by kernel_rfl) (U132.b_eq (R := Res) (fun r0 => some (k132 r0)) a0 h1)⟩⟩
 ·cases h

def E106 : Env := mkE T md [(132, sp132)] [(3, [2, 3, 10, 11, 12])] [] []
def k106 (p : Row × Int) : Res := ⟨[.v true [.ow 144 true p.1, .i .i64 p.2]], []⟩
def T106_3 (p0 : Row) (p1 p2 p3 p4 : Int) : List (Nat × Cel) := [(4, .v (.v false [.bp 0 0])), (6, .v (.v false [.bp 1 0])), (20, .v (.v false [.sh 144 p0])), (22, .v (.v false [.i .i64 p1])), (24, .v (.v false [.i .i64 p2])), (1, .o (.box [.nl, .i .i64 p3])), (3, .o (.box [.nl, .i .i64 p4]))]
def G106_3 {R : Type} (g : St -> Option R) (p0 : Row) (p1 p2 p3 p4 : Int) : Option R := g (tabl (T106_3 p0 p1 p2 p3 p4))
def T106_3a (p0 : Row) (p1 p2 p3 p4 : Int) (p5 : Row) : List (Nat × Cel) := [(4, .v (.v false [.bp 0 0])), (6, .v (.v false [.bp 1 0])), (20, .v (.v false [.sh 144 p0])), (22, .v (.v false [.i .i64 p1])), (24, .v (.v false [.i .i64 p2])), (1, .o (.box [.nl, .i .i64 p3])), (3, .o (.box [.own 2, .i .i64 p4])), (5, .o (.row 144 true p5))]
def G106_3a {R : Type} (g : St -> Option R) (p0 : Row) (p1 p2 p3 p4 : Int) (p5 : Row) : Option R := g (tabl (T106_3a p0 p1 p2 p3 p4 p5))
def K106_3_0 {R : Type} (K : Ex -> St -> Option R) (p0 : Row) (p1 p2 p3 p4 : Int) : Option R := K (.exit 0) (tabl (T106_3 p0 p1 p2 p3 p4))
def K106_3_1 {R : Type} (K : Ex -> St -> Option R) (p0 : Row) (p1 p2 p3 p4 : Int) (p5 : Row) : Option R := K (.exit 0) (tabl (T106_3a p0 p1 p2 p3 p4 p5))
def it106 (N : Nat) {R : Type} : It R := fun rid f cn L K => bif Nat.beq rid 3 then tell (T106_3 [] 0 0 0 0) (fun | [.R x0, .I x1, .I x2, .I x3, .I x4] => U106.l3 N (K106_3_0 K) (K106_3_1 K) N x0 x1 x2 x3 x4 | _ => none) L (tell (T106_3a [] 0 0 0 0 []) (fun | [.R x5, .I x6, .I x7, .I x8, .I x9, .R x10] => U106.l3a N (K106_3_0 K) (K106_3_1 K) N x5 x6 x7 x8 x9 x10 | _ => none) L none) else none
theorem e106_3 {R : Type} (N : Nat) (K : Ex -> St -> Option R) : ∀ n : Nat, G106_3 (fun s => iter (exc E106 (it106 N) (loopOf Tryz.f106 3)) (canon (E106.keep 3)) n s K) = U106.l3 N (K106_3_0 K) (K106_3_1 K) n /\ G106_3a (fun s => iter (exc E106 (it106 N) (loopOf Tryz.f106 3)) (canon (E106.keep 3)) n s K) = U106.l3a N (K106_3_0 K) (K106_3_1 K) n := by
 intro n
 induction n with
 | zero => exact ⟨rfl, rfl⟩
 | succ n ih =>
  obtain ⟨i0, i1⟩ := ih
  refine ⟨?_, ?_⟩
  ·funext x0 x1 x2 x3 x4
   have h : ∀ g, exc E106 (it106 N) (loopOf Tryz.f106 3) (tabl (T106_3 x0 x1 x2 x3 x4)) (iterK g (canon (E106.keep 3)) K) = U106.r3 N (G106_3 g) (G106_3a g) (K106_3_0 K) (K106_3_1 K) x0 x1 x2 x3 x4 := by intro g; kernel_rfl
   show iter _ _ (n + 1) _ K = _
   refine (iter_succ _ _ n _ K).trans ((h _).trans ?_)
   rw [i0, i1]; rfl
  ·funext x5 x6 x7 x8 x9 x10
   have h : ∀ g, exc E106 (it106 N) (loopOf Tryz.f106 3) (tabl (T106_3a x5 x6 x7 x8 x9 x10)) (iterK g (canon (E106.keep 3)) K) = U106.r3a N (G106_3 g) (G106_3a g) (K106_3_0 K) (K106_3_1 K) x5 x6 x7 x8 x9 x10 := by intro g; kernel_rfl
   show iter _ _ (n + 1) _ K = _
   refine (iter_succ _ _ n _ K).trans ((h _).trans ?_)
   rw [i0, i1]; rfl
theorem lo106_3 {R : Type} (N : Nat) : LoopOk E106 (it106 N (R := R)) (loopOf Tryz.f106 3) := by
 have e : firstRid (loopOf Tryz.f106 3) = 3 := by kernel_rfl
 intro L K r
 rw [e]
 intro h
 unfold it106 at h
 simp only [show Nat.beq 3 3 = true from rfl, cond_false, cond_true] at h
 refine tell_ok (Q := fun L => ∃ n, iter (exc E106 (it106 N) (loopOf Tryz.f106 3)) (canon (E106.keep 3)) n (tabl L) K = some r) h (fun xs h => ?_) fun h => ?_
 ·(try dsimp only at h)
  split at h
  ·rw [<- (e106_3 N K N).1] at h; exact ⟨N, h⟩
  ·cases h
 refine tell_ok (Q := fun L => ∃ n, iter (exc E106 (it106 N) (loopOf Tryz.f106 3)) (canon (E106.keep 3)) n (tabl L) K = some r) h (fun xs h => ?_) fun h => ?_
 ·(try dsimp only at h)
  split at h
  ·rw [<- (e106_3 N K N).2] at h; exact ⟨N, h⟩
  ·cases h
 cases h
def sp106 : List Arg -> Option (Bool × Res)
 | [.v true [.sh 144 a0, .i .i64 a1]] => some (U106.c a0 a1, k106 (U106.v a0 a1))
 | _ => none
theorem ok106 : FnOk Tryz.prog T 106 sp106 := by
 refine fn_loop (E := E106) hE (call_cons ok132 call_nil) hM Tryz.func106 (code := Tryz.f106.body.getD .skip) (by kernel_rfl) (by kernel_rfl) (itf := fun N => it106 N) (l := [loopOf Tryz.f106 3]) (by kernel_rfl) (fun N => loops_cons (lo106_3 N) loops_nil) fun args r h => ?_
 unfold sp106 at h
 split at h
 ·obtain ⟨h1, rfl⟩ := sj h
  rename_i a0 a1
  exact ⟨by kernel_rfl, fun hf => ⟨od (by kernel_rfl), (U106.b_eq (R := Res) (fun r0 r1 => some (k106 (r0, r1))) a0 a1 h1).imp fun N hN => Eq.trans (by kernel_rfl) hN⟩⟩
 ·cases h

def E73 : Env := mkE T md [(105, sp105), (106, sp106)] [] [] []
def k73 (p : Row × Row × Row × Int) : Res := ⟨[.v true [.ow 9 true p.1, .ow 9 true p.2.1, .ow 144 true p.2.2.1, .i .i64 p.2.2.2]], []⟩
def sp73 : List Arg -> Option (Bool × Res)
 | [.v true [.sh 9 a0, .sh 9 a1, .sh 144 a2, .i .i64 a3]] => some (U73.c a0 a1 a2 a3, k73 (U73.v a0 a1 a2 a3))
 | _ => none
theorem ok73 : FnOk Tryz.prog T 73 sp73 := by
 refine fn_flat (E := E73) hE (call_cons ok105 (call_cons ok106 call_nil)) hM Tryz.func73 (code := Tryz.f73.body.getD .skip) (by kernel_rfl) (by kernel_rfl) (by kernel_rfl) fun args r h => ?_
 unfold sp73 at h
 split at h
 ·obtain ⟨h1, rfl⟩ := sj h
  rename_i a0 a1 a2 a3
  exact ⟨by kernel_rfl, fun hf => ⟨od (by kernel_rfl), Eq.trans (by kernel_rfl) (U73.b_eq (R := Res) (fun r0 r1 r2 r3 => some (k73 (r0, r1, r2, r3))) a0 a1 a2 a3 h1)⟩⟩
 ·cases h

def E152 : Env := mkE T md [] [] [] []
def k152 (p : Row) : Res := ⟨[.v false [.ow 9 true p]], []⟩
def sp152 : List Arg -> Option (Bool × Res)
 | [.v false [.nl], .v false [.i .i64 a0]] => some (U152.c a0, k152 (U152.v a0))
 | _ => none
theorem ok152 : FnOk Tryz.prog T 152 sp152 := by
 refine fn_flat (E := E152) hE call_nil hM Tryz.func152 (code := Tryz.f152.body.getD .skip) (by kernel_rfl) (by kernel_rfl) (by kernel_rfl) fun args r h => ?_
 unfold sp152 at h
 split at h
 ·obtain ⟨h1, rfl⟩ := sj h
  rename_i a0
  exact ⟨by kernel_rfl, fun hf => ⟨od (by kernel_rfl), Eq.trans (by kernel_rfl) (U152.b_eq (R := Res) (fun r0 => some (k152 r0)) a0 h1)⟩⟩
 ·cases h

def E145 : Env := mkE T md [(152, sp152)] [(3, [0, 3, 9, 10, 11]), (11, [6, 25, 26, 27])] [] []
def k145 (p : Row) : Res := ⟨[.v false [.ow 9 true p]], []⟩
def T145_3 (p0 : Row) (p1 : Int) (p2 : Row) (p3 p4 : Int) : List (Nat × Cel) := [(0, .v (.v false [.sh 23 p0])), (6, .v (.v false [.i .i64 p1])), (18, .v (.v false [.sh 23 p2])), (20, .v (.v false [.i .i64 p3])), (22, .v (.v false [.i .i64 p4]))]
def G145_3 {R : Type} (g : St -> Option R) (p0 : Row) (p1 : Int) (p2 : Row) (p3 p4 : Int) : Option R := g (tabl (T145_3 p0 p1 p2 p3 p4))
def K145_3_0 {R : Type} (K : Ex -> St -> Option R) (p0 : Row) (p1 : Int) (p2 : Row) (p3 p4 : Int) : Option R := K (.exit 0) (tabl (T145_3 p0 p1 p2 p3 p4))
def T145_11 (p0 : Row) (p1 p2 : Int) (p3 : Row) : List (Nat × Cel) := [(12, .v (.v false [.own 0])), (50, .v (.v false [.sh 23 p0])), (52, .v (.v false [.i .i64 p1])), (54, .v (.v false [.i .i64 p2])), (1, .o (.row 9 true p3))]
def G145_11 {R : Type} (g : St -> Option R) (p0 : Row) (p1 p2 : Int) (p3 : Row) : Option R := g (tabl (T145_11 p0 p1 p2 p3))
def K145_11_0 {R : Type} (K : Ex -> St -> Option R) (p0 : Row) (p1 p2 : Int) (p3 : Row) : Option R := K (.exit 2) (tabl (T145_11 p0 p1 p2 p3))
def it145 (N : Nat) {R : Type} : It R := fun rid f cn L K => bif Nat.beq rid 3 then tell (T145_3 [] 0 [] 0 0) (fun | [.R x0, .I x1, .R x2, .I x3, .I x4] => U145.l3 N (K145_3_0 K) N x0 x1 x2 x3 x4 | _ => none) L none else bif Nat.beq rid 11 then tell (T145_11 [] 0 0 []) (fun | [.R x10, .I x11, .I x12, .R x13] => U145.l11 N (K145_11_0 K) N x10 x11 x12 x13 | _ => none) L none else none
theorem e145_3 {R : Type} (N : Nat) (K : Ex -> St -> Option R) : ∀ n : Nat, G145_3 (fun s => iter (exc E145 (it145 N) (loopOf Tryz.f145 3)) (canon (E145.keep 3)) n s K) = U145.l3 N (K145_3_0 K) n := by
 intro n
 induction n with
 | zero => exact rfl
 | succ n ih =>
  funext x0 x1 x2 x3 x4
  have h : ∀ g, exc E145 (it145 N) (loopOf Tryz.f145 3) (tabl (T145_3 x0 x1 x2 x3 x4)) (iterK g (canon (E145.keep 3)) K) = U145.r3 N (G145_3 g) (K145_3_0 K) x0 x1 x2 x3 x4 := by intro g; kernel_rfl
  show iter _ _ (n + 1) _ K = _
  refine (iter_succ _ _ n _ K).trans ((h _).trans ?_)
  rw [ih]; rfl
theorem lo145_3 {R : Type} (N : Nat) : LoopOk E145 (it145 N (R := R)) (loopOf Tryz.f145 3) := by
 have e : firstRid (loopOf Tryz.f145 3) = 3 := by kernel_rfl
 intro L K r
 rw [e]
 intro h
 unfold it145 at h
 simp only [show Nat.beq 3 3 = true from rfl, cond_false, cond_true] at h
 refine tell_ok (Q := fun L => ∃ n, iter (exc E145 (it145 N) (loopOf Tryz.f145 3)) (canon (E145.keep 3)) n (tabl L) K = some r) h (fun xs h => ?_) fun h => ?_
 ·(try dsimp only at h)
  split at h
  ·rw [<- (e145_3 N K N)] at h; exact ⟨N, h⟩
  ·cases h
 cases h
theorem e145_11 {R : Type} (N : Nat) (K : Ex -> St -> Option R) : ∀ n : Nat, G145_11 (fun s => iter (exc E145 (it145 N) (loopOf Tryz.f145 11)) (canon (E145.keep 11)) n s K) = U145.l11 N (K145_11_0 K) n := by
 intro n
 induction n with
 | zero => exact rfl
 | succ n ih =>
  funext x10 x11 x12 x13
  have h : ∀ g, exc E145 (it145 N) (loopOf Tryz.f145 11) (tabl (T145_11 x10 x11 x12 x13)) (iterK g (canon (E145.keep 11)) K) = U145.r11 N (G145_11 g) (K145_11_0 K) x10 x11 x12 x13 := by intro g; kernel_rfl
  show iter _ _ (n + 1) _ K = _
  refine (iter_succ _ _ n _ K).trans ((h _).trans ?_)
  rw [ih]; rfl
theorem lo145_11 {R : Type} (N : Nat) : LoopOk E145 (it145 N (R := R)) (loopOf Tryz.f145 11) := by
 have e : firstRid (loopOf Tryz.f145 11) = 11 := by kernel_rfl
 intro L K r
 rw [e]
 intro h
 unfold it145 at h
 simp only [show Nat.beq 11 3 = false from rfl, show Nat.beq 11 11 = true from rfl, cond_false, cond_true] at h
 refine tell_ok (Q := fun L => ∃ n, iter (exc E145 (it145 N) (loopOf Tryz.f145 11)) (canon (E145.keep 11)) n (tabl L) K = some r) h (fun xs h => ?_) fun h => ?_
 ·(try dsimp only at h)
  split at h
  ·rw [<- (e145_11 N K N)] at h; exact ⟨N, h⟩
  ·cases h
 cases h
def sp145 : List Arg -> Option (Bool × Res)
 | [.v false [.sh 23 a0]] => some (U145.c a0, k145 (U145.v a0))
 | _ => none
theorem ok145 : FnOk Tryz.prog T 145 sp145 := by
 refine fn_loop (E := E145) hE (call_cons ok152 call_nil) hM Tryz.func145 (code := Tryz.f145.body.getD .skip) (by kernel_rfl) (by kernel_rfl) (itf := fun N => it145 N) (l := [loopOf Tryz.f145 3, loopOf Tryz.f145 11]) (by kernel_rfl) (fun N => loops_cons (lo145_3 N) (loops_cons (lo145_11 N) loops_nil)) fun args r h => ?_
 unfold sp145 at h
 split at h
 ·obtain ⟨h1, rfl⟩ := sj h
  rename_i a0
  exact ⟨by kernel_rfl, fun hf => ⟨od (by kernel_rfl), (U145.b_eq (R := Res) (fun r0 => some (k145 r0)) a0 h1).imp fun N hN => Eq.trans (by kernel_rfl) hN⟩⟩
 ·cases h

def E128 : Env := mkE T md [(145, sp145)] [] [] []
def k128 (p : Row) : Res := ⟨[.v false [.ow 9 true p]], []⟩
def sp128 : List Arg -> Option (Bool × Res)
 | [.v true [.sh 9 a0, .sh 9 a1, .sh 144 a2, .i .i64 a3]] => some (U128.c a0 a1 a2 a3, k128 (U128.v a0 a1 a2 a3))
 | _ => none
theorem ok128 : FnOk Tryz.prog T 128 sp128 := by
 refine fn_flat (E := E128) hE (call_cons ok145 call_nil) hM Tryz.func128 (code := Tryz.f128.body.getD .skip) (by kernel_rfl) (by kernel_rfl) (by kernel_rfl) fun args r h => ?_
 unfold sp128 at h
 split at h
 ·obtain ⟨h1, rfl⟩ := sj h
  rename_i a0 a1 a2 a3
  exact ⟨by kernel_rfl, fun hf => ⟨od (by kernel_rfl), Eq.trans (by kernel_rfl) (U128.b_eq (R := Res) (fun r0 => some (k128 r0)) a0 a1 a2 a3 h1)⟩⟩
 ·cases h

def E141 : Env := mkE T md [] [(2, [0, 1, 4, 7, 8])] [] []
def k141 (p : Int) : Res := ⟨[.v false [.i .i64 p]], []⟩
def T141_2 (p0 : Row) (p1 : ByteArray) (p2 p3 p4 : Int) : List (Nat × Cel) := [(0, .v (.v false [.sh 9 p0])), (2, .v (.v false [.s p1])), (8, .v (.v false [.i .i64 p2])), (14, .v (.v false [.i .i64 p3])), (16, .v (.v false [.i .i64 p4]))]
def G141_2 {R : Type} (g : St -> Option R) (p0 : Row) (p1 : ByteArray) (p2 p3 p4 : Int) : Option R := g (tabl (T141_2 p0 p1 p2 p3 p4))
def K141_2_0 {R : Type} (K : Ex -> St -> Option R) (p0 : Row) (p1 : ByteArray) (p2 p3 p4 : Int) : Option R := K .ret (tabl (T141_2 p0 p1 p2 p3 p4))
def K141_2_1 {R : Type} (K : Ex -> St -> Option R) (p0 : Row) (p1 : ByteArray) (p2 p3 p4 : Int) : Option R := K (.exit 0) (tabl (T141_2 p0 p1 p2 p3 p4))
def H141 {R : Type} (N : Nat) (K : Ex -> St -> Option R) : List Leaf -> Option R
 | [.R x0, .S x1, .I x2, .I x3, .I x4] => U141.l2 N (K141_2_0 K) (K141_2_1 K) N x0 x1 x2 x3 x4
 | _ => none
def it141 (N : Nat) {R : Type} : It R := fun rid f cn L K => bif Nat.beq rid 2 then tell (T141_2 [] ⟨#[]⟩ 0 0 0) (H141 N K) L none else none
theorem e141_2 {R : Type} (N : Nat) (K : Ex -> St -> Option R) : ∀ n : Nat, G141_2 (fun s => iter (exc E141 (it141 N) (loopOf Tryz.f141 2)) (canon (E141.keep 2)) n s K) = U141.l2 N (K141_2_0 K) (K141_2_1 K) n := by
 intro n
 induction n with
 | zero => exact rfl
 | succ n ih =>
  funext x0 x1 x2 x3 x4
  have h : ∀ g, exc E141 (it141 N) (loopOf Tryz.f141 2) (tabl (T141_2 x0 x1 x2 x3 x4)) (iterK g (canon (E141.keep 2)) K) = U141.r2 N (G141_2 g) (K141_2_0 K) (K141_2_1 K) x0 x1 x2 x3 x4 := by intro g; kernel_rfl
  show iter _ _ (n + 1) _ K = _
  refine (iter_succ _ _ n _ K).trans ((h _).trans ?_)
  rw [ih]; rfl
theorem lo141_2 {R : Type} (N : Nat) : LoopOk E141 (it141 N (R := R)) (loopOf Tryz.f141 2) := by
 refine lo_one 2 (by kernel_rfl) (S := T141_2 [] ⟨#[]⟩ 0 0 0) (H := H141 N) (fun _ _ => rfl) fun K xs r h => ?_
 unfold H141 at h
 split at h
 ·rw [<- e141_2 N K N] at h; exact ⟨N, h⟩
 ·cases h
def sp141 : List Arg -> Option (Bool × Res)
 | [.v false [.sh 9 a0], .v false [.s a1]] => some (U141.c a0 a1, k141 (U141.v a0 a1))
 | _ => none
theorem ok141 : FnOk Tryz.prog T 141 sp141 := by
 refine fn_loop (E := E141) hE call_nil hM Tryz.func141 (code := Tryz.f141.body.getD .skip) (by kernel_rfl) (by kernel_rfl) (itf := fun N => it141 N) (l := [loopOf Tryz.f141 2]) (by kernel_rfl) (fun N => loops_cons (lo141_2 N) loops_nil) fun args r h => ?_
 unfold sp141 at h
 split at h
 ·obtain ⟨h1, rfl⟩ := sj h
  rename_i a0 a1
  exact ⟨by kernel_rfl, fun hf => ⟨od (by kernel_rfl), (U141.b_eq (R := Res) (fun r0 => some (k141 r0)) a0 a1 h1).imp fun N hN => Eq.trans (by kernel_rfl) hN⟩⟩
 ·cases h

def E123 : Env := mkE T md [(141, sp141)] [] [] []
def k123 (p : Bool) : Res := ⟨[.v false [.b p]], []⟩
def sp123 : List Arg -> Option (Bool × Res)
 | [.v false [.sh 9 a0], .v false [.s a1]] => some (U123.c a0 a1, k123 (U123.v a0 a1))
 | _ => none
theorem ok123 : FnOk Tryz.prog T 123 sp123 := by
 refine fn_flat (E := E123) hE (call_cons ok141 call_nil) hM Tryz.func123 (code := Tryz.f123.body.getD .skip) (by kernel_rfl) (by kernel_rfl) (by kernel_rfl) fun args r h => ?_
 unfold sp123 at h
 split at h
 ·obtain ⟨h1, rfl⟩ := sj h
  rename_i a0 a1
  exact ⟨by kernel_rfl, fun hf => ⟨od (by kernel_rfl), Eq.trans (by kernel_rfl) (U123.b_eq (R := Res) (fun r0 => some (k123 r0)) a0 a1 h1)⟩⟩
 ·cases h

def E139 : Env := mkE T md [(61, sp61)] [(2, [1, 2, 8, 9, 10]), (5, [1, 2, 4, 8, 9, 10, 14, 15, 16])] [] []
def k139 (p : Bool) : Res := ⟨[.v false [.b p]], []⟩
def T139_2 (p0 : Bool) (p1 : Row) (p2 p3 : Int) (p4 : Row) (p5 : Int) : List (Nat × Cel) := [(2, .v (.v false [.bp 0 0])), (4, .v (.v false [.b p0])), (16, .v (.v false [.sh 144 p1])), (18, .v (.v false [.i .i64 p2])), (20, .v (.v false [.i .i64 p3])), (1, .o (.box [.sh 144 p4, .i .i64 p5]))]
def G139_2 {R : Type} (g : St -> Option R) (p0 : Bool) (p1 : Row) (p2 p3 : Int) (p4 : Row) (p5 : Int) : Option R := g (tabl (T139_2 p0 p1 p2 p3 p4 p5))
def K139_2_0 {R : Type} (K : Ex -> St -> Option R) (p0 : Bool) (p1 : Row) (p2 p3 : Int) (p4 : Row) (p5 : Int) : Option R := K .ret (tabl (T139_2 p0 p1 p2 p3 p4 p5))
def K139_2_1 {R : Type} (K : Ex -> St -> Option R) (p0 : Bool) (p1 : Row) (p2 p3 : Int) (p4 : Row) (p5 : Int) : Option R := K (.exit 0) (tabl (T139_2 p0 p1 p2 p3 p4 p5))
def T139_5 (p0 : Bool) (p1 p2 : Row) (p3 p4 : Int) (p5 : Row) (p6 p7 : Int) (p8 : Row) (p9 : Int) : List (Nat × Cel) := [(2, .v (.v false [.bp 0 0])), (4, .v (.v false [.b p0])), (8, .v (.v false [.sh 3 p1])), (16, .v (.v false [.sh 144 p2])), (18, .v (.v false [.i .i64 p3])), (20, .v (.v false [.i .i64 p4])), (28, .v (.v false [.sh 3 p5])), (30, .v (.v false [.i .i64 p6])), (32, .v (.v false [.i .i64 p7])), (1, .o (.box [.sh 144 p8, .i .i64 p9]))]
def G139_5 {R : Type} (g : St -> Option R) (p0 : Bool) (p1 p2 : Row) (p3 p4 : Int) (p5 : Row) (p6 p7 : Int) (p8 : Row) (p9 : Int) : Option R := g (tabl (T139_5 p0 p1 p2 p3 p4 p5 p6 p7 p8 p9))
def K139_5_0 {R : Type} (K : Ex -> St -> Option R) (p0 : Bool) (p1 p2 : Row) (p3 p4 : Int) (p5 : Row) (p6 p7 : Int) (p8 : Row) (p9 : Int) : Option R := K .ret (tabl (T139_5 p0 p1 p2 p3 p4 p5 p6 p7 p8 p9))
def K139_5_1 {R : Type} (K : Ex -> St -> Option R) (p0 : Bool) (p1 p2 : Row) (p3 p4 : Int) (p5 : Row) (p6 p7 : Int) (p8 : Row) (p9 : Int) : Option R := K (.exit 2) (tabl (T139_5 p0 p1 p2 p3 p4 p5 p6 p7 p8 p9))
def it139 (N : Nat) {R : Type} : It R := fun rid f cn L K => bif Nat.beq rid 2 then tell (T139_2 false [] 0 0 [] 0) (fun | [.B x0, .R x1, .I x2, .I x3, .R x4, .I x5] => U139.l2 N (K139_2_0 K) (K139_2_1 K) N x0 x1 x2 x3 x4 x5 | _ => none) L none else bif Nat.beq rid 5 then tell (T139_5 false [] [] 0 0 [] 0 0 [] 0) (fun | [.B x6, .R x7, .R x8, .I x9, .I x10, .R x11, .I x12, .I x13, .R x14, .I x15] => U139.l5 N (K139_5_0 K) (K139_5_1 K) N x6 x7 x8 x9 x10 x11 x12 x13 x14 x15 | _ => none) L none else none
theorem e139_2 {R : Type} (N : Nat) (K : Ex -> St -> Option R) : ∀ n : Nat, G139_2 (fun s => iter (exc E139 (it139 N) (loopOf Tryz.f139 2)) (canon (E139.keep 2)) n s K) = U139.l2 N (K139_2_0 K) (K139_2_1 K) n := by
 intro n
 induction n with
 | zero => exact rfl
 | succ n ih =>
  funext x0 x1 x2 x3 x4 x5
  have h : ∀ g, exc E139 (it139 N) (loopOf Tryz.f139 2) (tabl (T139_2 x0 x1 x2 x3 x4 x5)) (iterK g (canon (E139.keep 2)) K) = U139.r2 N (G139_2 g) (K139_2_0 K) (K139_2_1 K) x0 x1 x2 x3 x4 x5 := by intro g; kernel_rfl
  show iter _ _ (n + 1) _ K = _
  refine (iter_succ _ _ n _ K).trans ((h _).trans ?_)
  rw [ih]; rfl
theorem lo139_2 {R : Type} (N : Nat) : LoopOk E139 (it139 N (R := R)) (loopOf Tryz.f139 2) := by
 have e : firstRid (loopOf Tryz.f139 2) = 2 := by kernel_rfl
 intro L K r
 rw [e]
 intro h
 unfold it139 at h
 simp only [show Nat.beq 2 2 = true from rfl, cond_false, cond_true] at h
 refine tell_ok (Q := fun L => ∃ n, iter (exc E139 (it139 N) (loopOf Tryz.f139 2)) (canon (E139.keep 2)) n (tabl L) K = some r) h (fun xs h => ?_) fun h => ?_
 ·(try dsimp only at h)
  split at h
  ·rw [<- (e139_2 N K N)] at h; exact ⟨N, h⟩
  ·cases h
 cases h
theorem e139_5 {R : Type} (N : Nat) (K : Ex -> St -> Option R) : ∀ n : Nat, G139_5 (fun s => iter (exc E139 (it139 N) (loopOf Tryz.f139 5)) (canon (E139.keep 5)) n s K) = U139.l5 N (K139_5_0 K) (K139_5_1 K) n := by
 intro n
 induction n with
 | zero => exact rfl
 | succ n ih =>
  funext x6 x7 x8 x9 x10 x11 x12 x13 x14 x15
  have h : ∀ g, exc E139 (it139 N) (loopOf Tryz.f139 5) (tabl (T139_5 x6 x7 x8 x9 x10 x11 x12 x13 x14 x15)) (iterK g (canon (E139.keep 5)) K) = U139.r5 N (G139_5 g) (K139_5_0 K) (K139_5_1 K) x6 x7 x8 x9 x10 x11 x12 x13 x14 x15 := by intro g; kernel_rfl
  show iter _ _ (n + 1) _ K = _
  refine (iter_succ _ _ n _ K).trans ((h _).trans ?_)
  rw [ih]; rfl
theorem lo139_5 {R : Type} (N : Nat) : LoopOk E139 (it139 N (R := R)) (loopOf Tryz.f139 5) := by
 have e : firstRid (loopOf Tryz.f139 5) = 5 := by kernel_rfl
 intro L K r
 rw [e]
 intro h
 unfold it139 at h
 simp only [show Nat.beq 5 2 = false from rfl, show Nat.beq 5 5 = true from rfl, cond_false, cond_true] at h
 refine tell_ok (Q := fun L => ∃ n, iter (exc E139 (it139 N) (loopOf Tryz.f139 5)) (canon (E139.keep 5)) n (tabl L) K = some r) h (fun xs h => ?_) fun h => ?_
 ·(try dsimp only at h)
  split at h
  ·rw [<- (e139_5 N K N)] at h; exact ⟨N, h⟩
  ·cases h
 cases h
def sp139 : List Arg -> Option (Bool × Res)
 | [.v true [.sh 144 a0, .i .i64 a1]] => some (U139.c a0 a1, k139 (U139.v a0 a1))
 | _ => none
theorem ok139 : FnOk Tryz.prog T 139 sp139 := by
 refine fn_loop (E := E139) hE (call_cons ok61 call_nil) hM Tryz.func139 (code := Tryz.f139.body.getD .skip) (by kernel_rfl) (by kernel_rfl) (itf := fun N => it139 N) (l := [loopOf Tryz.f139 2, loopOf Tryz.f139 5]) (by kernel_rfl) (fun N => loops_cons (lo139_2 N) (loops_cons (lo139_5 N) loops_nil)) fun args r h => ?_
 unfold sp139 at h
 split at h
 ·obtain ⟨h1, rfl⟩ := sj h
  rename_i a0 a1
  exact ⟨by kernel_rfl, fun hf => ⟨od (by kernel_rfl), (U139.b_eq (R := Res) (fun r0 => some (k139 r0)) a0 a1 h1).imp fun N hN => Eq.trans (by kernel_rfl) hN⟩⟩
 ·cases h

def E121 : Env := mkE T md [(128, sp128), (120, sp120), (123, sp123), (139, sp139)] [(3, [1, 2, 3, 8, 9, 10])] [] []
def k121 (p : Bool) : Res := ⟨[.v false [.b p]], []⟩
def T121_3 (p0 : Bool) (p1 p2 : Int) (p3 p4 p5 : Row) (p6 : Int) (p7 : Row) : List (Nat × Cel) := [(2, .v (.v false [.bp 0 0])), (4, .v (.v false [.b p0])), (6, .v (.v false [.own 1])), (16, .v (.v false [.own 1])), (18, .v (.v false [.i .i64 p1])), (20, .v (.v false [.i .i64 p2])), (1, .o (.box [.sh 9 p3, .sh 9 p4, .sh 144 p5, .i .i64 p6])), (3, .o (.row 9 true p7))]
def G121_3 {R : Type} (g : St -> Option R) (p0 : Bool) (p1 p2 : Int) (p3 p4 p5 : Row) (p6 : Int) (p7 : Row) : Option R := g (tabl (T121_3 p0 p1 p2 p3 p4 p5 p6 p7))
def K121_3_0 {R : Type} (K : Ex -> St -> Option R) (p0 : Bool) (p1 p2 : Int) (p3 p4 p5 : Row) (p6 : Int) (p7 : Row) : Option R := K .ret (tabl (T121_3 p0 p1 p2 p3 p4 p5 p6 p7))
def K121_3_1 {R : Type} (K : Ex -> St -> Option R) (p0 : Bool) (p1 p2 : Int) (p3 p4 p5 : Row) (p6 : Int) (p7 : Row) : Option R := K (.exit 0) (tabl (T121_3 p0 p1 p2 p3 p4 p5 p6 p7))
def H121 {R : Type} (N : Nat) (K : Ex -> St -> Option R) : List Leaf -> Option R
 | [.B x0, .I x1, .I x2, .R x3, .R x4, .R x5, .I x6, .R x7] => U121.l3 N (K121_3_0 K) (K121_3_1 K) N x0 x1 x2 x3 x4 x5 x6 x7
 | _ => none
def it121 (N : Nat) {R : Type} : It R := fun rid f cn L K => bif Nat.beq rid 3 then tell (T121_3 false 0 0 [] [] [] 0 []) (H121 N K) L none else none
theorem e121_3 {R : Type} (N : Nat) (K : Ex -> St -> Option R) : ∀ n : Nat, G121_3 (fun s => iter (exc E121 (it121 N) (loopOf Tryz.f121 3)) (canon (E121.keep 3)) n s K) = U121.l3 N (K121_3_0 K) (K121_3_1 K) n := by
 intro n
 induction n with
 | zero => exact rfl
 | succ n ih =>
  funext x0 x1 x2 x3 x4 x5 x6 x7
  have h : ∀ g, exc E121 (it121 N) (loopOf Tryz.f121 3) (tabl (T121_3 x0 x1 x2 x3 x4 x5 x6 x7)) (iterK g (canon (E121.keep 3)) K) = U121.r3 N (G121_3 g) (K121_3_0 K) (K121_3_1 K) x0 x1 x2 x3 x4 x5 x6 x7 := by intro g; kernel_rfl
  show iter _ _ (n + 1) _ K = _
  refine (iter_succ _ _ n _ K).trans ((h _).trans ?_)
  rw [ih]; rfl
theorem lo121_3 {R : Type} (N : Nat) : LoopOk E121 (it121 N (R := R)) (loopOf Tryz.f121 3) := by
 refine lo_one 3 (by kernel_rfl) (S := T121_3 false 0 0 [] [] [] 0 []) (H := H121 N) (fun _ _ => rfl) fun K xs r h => ?_
 unfold H121 at h
 split at h
 ·rw [<- e121_3 N K N] at h; exact ⟨N, h⟩
 ·cases h
def sp121 : List Arg -> Option (Bool × Res)
 | [.v true [.sh 9 a0, .sh 9 a1, .sh 144 a2, .i .i64 a3]] => some (U121.c a0 a1 a2 a3, k121 (U121.v a0 a1 a2 a3))
 | _ => none
theorem ok121 : FnOk Tryz.prog T 121 sp121 := by
 refine fn_loop (E := E121) hE (call_cons ok128 (call_cons ok120 (call_cons ok123 (call_cons ok139 call_nil)))) hM Tryz.func121 (code := Tryz.f121.body.getD .skip) (by kernel_rfl) (by kernel_rfl) (itf := fun N => it121 N) (l := [loopOf Tryz.f121 3]) (by kernel_rfl) (fun N => loops_cons (lo121_3 N) loops_nil) fun args r h => ?_
 unfold sp121 at h
 split at h
 ·obtain ⟨h1, rfl⟩ := sj h
  rename_i a0 a1 a2 a3
  exact ⟨by kernel_rfl, fun hf => ⟨od (by kernel_rfl), (U121.b_eq (R := Res) (fun r0 => some (k121 r0)) a0 a1 a2 a3 h1).imp fun N hN => Eq.trans (by kernel_rfl) hN⟩⟩
 ·cases h

def E157 : Env := mkE T md [] [(2, [0, 1, 5]), (6, [0, 1, 5, 19])] [] []
def k157 (p : Int) : Res := ⟨[.v false [.i .u32 p]], []⟩
def T157_2 (p0 : Int) (p1 : ByteArray) (p2 : Int) : List (Nat × Cel) := [(0, .v (.v false [.i .u32 p0])), (2, .v (.v false [.s p1])), (10, .v (.v false [.i .i64 p2]))]
def G157_2 {R : Type} (g : St -> Option R) (p0 : Int) (p1 : ByteArray) (p2 : Int) : Option R := g (tabl (T157_2 p0 p1 p2))
def K157_2_0 {R : Type} (K : Ex -> St -> Option R) (p0 : Int) (p1 : ByteArray) (p2 : Int) : Option R := K (.exit 0) (tabl (T157_2 p0 p1 p2))
def T157_6 (p0 : Int) (p1 : ByteArray) (p2 p3 : Int) : List (Nat × Cel) := [(0, .v (.v false [.i .u32 p0])), (2, .v (.v false [.s p1])), (10, .v (.v false [.i .i64 p2])), (38, .v (.v false [.i .i64 p3]))]
def G157_6 {R : Type} (g : St -> Option R) (p0 : Int) (p1 : ByteArray) (p2 p3 : Int) : Option R := g (tabl (T157_6 p0 p1 p2 p3))
def K157_6_0 {R : Type} (K : Ex -> St -> Option R) (p0 : Int) (p1 : ByteArray) (p2 p3 : Int) : Option R := K (.exit 2) (tabl (T157_6 p0 p1 p2 p3))
def it157 (N : Nat) {R : Type} : It R := fun rid f cn L K => bif Nat.beq rid 2 then tell (T157_2 0 ⟨#[]⟩ 0) (fun | [.I x0, .S x1, .I x2] => U157.l2 N (K157_2_0 K) N x0 x1 x2 | _ => none) L none else bif Nat.beq rid 6 then tell (T157_6 0 ⟨#[]⟩ 0 0) (fun | [.I x3, .S x4, .I x5, .I x6] => U157.l6 N (K157_6_0 K) N x3 x4 x5 x6 | _ => none) L none else none
theorem e157_2 {R : Type} (N : Nat) (K : Ex -> St -> Option R) : ∀ n : Nat, G157_2 (fun s => iter (exc E157 (it157 N) (loopOf Tryz.f157 2)) (canon (E157.keep 2)) n s K) = U157.l2 N (K157_2_0 K) n := by
 intro n
 induction n with
 | zero => exact rfl
 | succ n ih =>
  funext x0 x1 x2
  have h : ∀ g, exc E157 (it157 N) (loopOf Tryz.f157 2) (tabl (T157_2 x0 x1 x2)) (iterK g (canon (E157.keep 2)) K) = U157.r2 N (G157_2 g) (K157_2_0 K) x0 x1 x2 := by intro g; kernel_rfl
  show iter _ _ (n + 1) _ K = _
  refine (iter_succ _ _ n _ K).trans ((h _).trans ?_)
  rw [ih]; rfl
theorem lo157_2 {R : Type} (N : Nat) : LoopOk E157 (it157 N (R := R)) (loopOf Tryz.f157 2) := by
 have e : firstRid (loopOf Tryz.f157 2) = 2 := by kernel_rfl
 intro L K r
 rw [e]
 intro h
 unfold it157 at h
 simp only [show Nat.beq 2 2 = true from rfl, cond_false, cond_true] at h
 refine tell_ok (Q := fun L => ∃ n, iter (exc E157 (it157 N) (loopOf Tryz.f157 2)) (canon (E157.keep 2)) n (tabl L) K = some r) h (fun xs h => ?_) fun h => ?_
 ·(try dsimp only at h)
  split at h
  ·rw [<- (e157_2 N K N)] at h; exact ⟨N, h⟩
  ·cases h
 cases h
theorem e157_6 {R : Type} (N : Nat) (K : Ex -> St -> Option R) : ∀ n : Nat, G157_6 (fun s => iter (exc E157 (it157 N) (loopOf Tryz.f157 6)) (canon (E157.keep 6)) n s K) = U157.l6 N (K157_6_0 K) n := by
 intro n
 induction n with
 | zero => exact rfl
 | succ n ih =>
  funext x3 x4 x5 x6
  have h : ∀ g, exc E157 (it157 N) (loopOf Tryz.f157 6) (tabl (T157_6 x3 x4 x5 x6)) (iterK g (canon (E157.keep 6)) K) = U157.r6 N (G157_6 g) (K157_6_0 K) x3 x4 x5 x6 := by intro g; kernel_rfl
  show iter _ _ (n + 1) _ K = _
  refine (iter_succ _ _ n _ K).trans ((h _).trans ?_)
  rw [ih]; rfl
theorem lo157_6 {R : Type} (N : Nat) : LoopOk E157 (it157 N (R := R)) (loopOf Tryz.f157 6) := by
 have e : firstRid (loopOf Tryz.f157 6) = 6 := by kernel_rfl
 intro L K r
 rw [e]
 intro h
 unfold it157 at h
 simp only [show Nat.beq 6 2 = false from rfl, show Nat.beq 6 6 = true from rfl, cond_false, cond_true] at h
 refine tell_ok (Q := fun L => ∃ n, iter (exc E157 (it157 N) (loopOf Tryz.f157 6)) (canon (E157.keep 6)) n (tabl L) K = some r) h (fun xs h => ?_) fun h => ?_
 ·(try dsimp only at h)
  split at h
  ·rw [<- (e157_6 N K N)] at h; exact ⟨N, h⟩
  ·cases h
 cases h
def sp157 : List Arg -> Option (Bool × Res)
 | [.v false [.i .u32 a0], .v false [.s a1]] => some (U157.c a0 a1, k157 (U157.v a0 a1))
 | _ => none
theorem ok157 : FnOk Tryz.prog T 157 sp157 := by
 refine fn_loop (E := E157) hE call_nil hM Tryz.func157 (code := Tryz.f157.body.getD .skip) (by kernel_rfl) (by kernel_rfl) (itf := fun N => it157 N) (l := [loopOf Tryz.f157 2, loopOf Tryz.f157 6]) (by kernel_rfl) (fun N => loops_cons (lo157_2 N) (loops_cons (lo157_6 N) loops_nil)) fun args r h => ?_
 unfold sp157 at h
 split at h
 ·obtain ⟨h1, rfl⟩ := sj h
  rename_i a0 a1
  exact ⟨by kernel_rfl, fun hf => ⟨od (by kernel_rfl), (U157.b_eq (R := Res) (fun r0 => some (k157 r0)) a0 a1 h1).imp fun N hN => Eq.trans (by kernel_rfl) hN⟩⟩
 ·cases h

def E150 : Env := mkE T md [(157, sp157)] [] [] []
def k150 (p : Int) : Res := ⟨[.v false [.i .u32 p]], []⟩
def sp150 : List Arg -> Option (Bool × Res)
 | [.v false [.s a0]] => some (U150.c a0, k150 (U150.v a0))
 | _ => none
theorem ok150 : FnOk Tryz.prog T 150 sp150 := by
 refine fn_flat (E := E150) hE (call_cons ok157 call_nil) hM Tryz.func150 (code := Tryz.f150.body.getD .skip) (by kernel_rfl) (by kernel_rfl) (by kernel_rfl) fun args r h => ?_
 unfold sp150 at h
 split at h
 ·obtain ⟨h1, rfl⟩ := sj h
  rename_i a0
  exact ⟨by kernel_rfl, fun hf => ⟨od (by kernel_rfl), Eq.trans (by kernel_rfl) (U150.b_eq (R := Res) (fun r0 => some (k150 r0)) a0 h1)⟩⟩
 ·cases h

def E140 : Env := mkE T md [(150, sp150)] [] [] []
def k140 (p : Int) : Res := ⟨[.v false [.i .i64 p]], []⟩
def sp140 : List Arg -> Option (Bool × Res)
 | [.v false [.i .i64 a0], .v false [.s a1]] => some (U140.c a0 a1, k140 (U140.v a0 a1))
 | _ => none
theorem ok140 : FnOk Tryz.prog T 140 sp140 := by
 refine fn_flat (E := E140) hE (call_cons ok150 call_nil) hM Tryz.func140 (code := Tryz.f140.body.getD .skip) (by kernel_rfl) (by kernel_rfl) (by kernel_rfl) fun args r h => ?_
 unfold sp140 at h
 split at h
 ·obtain ⟨h1, rfl⟩ := sj h
  rename_i a0 a1
  exact ⟨by kernel_rfl, fun hf => ⟨od (by kernel_rfl), Eq.trans (by kernel_rfl) (U140.b_eq (R := Res) (fun r0 => some (k140 r0)) a0 a1 h1)⟩⟩
 ·cases h

def E122 : Env := mkE T md [(106, sp106), (139, sp139), (140, sp140)] [(5, [1, 4, 5, 19, 20, 21]), (15, [4, 5, 49, 50, 51]), (18, [4, 5, 10, 49, 50, 51, 56, 57])] [] []
def k122 (p : Row × Int) : Res := ⟨[.v true [.ow 144 true p.1, .i .i64 p.2]], []⟩
def T122_5 (p0 : ByteArray) (p1 p2 p3 p4 : Int) (p5 : Row) : List (Nat × Cel) := [(2, .v (.v false [.s p0])), (8, .v (.v false [.bp 0 0])), (10, .v (.v false [.bp 1 0])), (38, .v (.v false [.own 2])), (40, .v (.v false [.i .i64 p1])), (42, .v (.v false [.i .i64 p2])), (1, .o (.box [.nl, .i .i64 p3])), (3, .o (.box [.own 2, .i .i64 p4])), (5, .o (.row 144 true p5))]
def G122_5 {R : Type} (g : St -> Option R) (p0 : ByteArray) (p1 p2 p3 p4 : Int) (p5 : Row) : Option R := g (tabl (T122_5 p0 p1 p2 p3 p4 p5))
def K122_5_0 {R : Type} (K : Ex -> St -> Option R) (p0 : ByteArray) (p1 p2 p3 p4 : Int) (p5 : Row) : Option R := K (.exit 0) (tabl (T122_5 p0 p1 p2 p3 p4 p5))
def T122_15 (p0 p1 p2 p3 : Int) (p4 : Row) : List (Nat × Cel) := [(8, .v (.v false [.bp 0 0])), (10, .v (.v false [.bp 1 0])), (98, .v (.v false [.own 2])), (100, .v (.v false [.i .i64 p0])), (102, .v (.v false [.i .i64 p1])), (1, .o (.box [.nl, .i .i64 p2])), (3, .o (.box [.own 2, .i .i64 p3])), (5, .o (.row 144 true p4))]
def G122_15 {R : Type} (g : St -> Option R) (p0 p1 p2 p3 : Int) (p4 : Row) : Option R := g (tabl (T122_15 p0 p1 p2 p3 p4))
def K122_15_0 {R : Type} (K : Ex -> St -> Option R) (p0 p1 p2 p3 : Int) (p4 : Row) : Option R := K (.exit 2) (tabl (T122_15 p0 p1 p2 p3 p4))
def T122_18 (p0 : Nat) (p1 p2 p3 p4 p5 p6 : Int) (p7 : Row) : List (Nat × Cel) := [(8, .v (.v false [.bp 0 0])), (10, .v (.v false [.bp 1 0])), (20, .v (.v false [.inn 2 p0 0])), (98, .v (.v false [.own 2])), (100, .v (.v false [.i .i64 p1])), (102, .v (.v false [.i .i64 p2])), (112, .v (.v false [.i .i64 p3])), (114, .v (.v false [.i .i64 p4])), (1, .o (.box [.nl, .i .i64 p5])), (3, .o (.box [.own 2, .i .i64 p6])), (5, .o (.row 144 true p7))]
def G122_18 {R : Type} (g : St -> Option R) (p0 : Nat) (p1 p2 p3 p4 p5 p6 : Int) (p7 : Row) : Option R := g (tabl (T122_18 p0 p1 p2 p3 p4 p5 p6 p7))
def K122_18_0 {R : Type} (K : Ex -> St -> Option R) (p0 : Nat) (p1 p2 p3 p4 p5 p6 : Int) (p7 : Row) : Option R := K (.exit 4) (tabl (T122_18 p0 p1 p2 p3 p4 p5 p6 p7))
def it122 (N : Nat) {R : Type} : It R := fun rid f cn L K => bif Nat.beq rid 5 then tell (T122_5 ⟨#[]⟩ 0 0 0 0 []) (fun | [.S x0, .I x1, .I x2, .I x3, .I x4, .R x5] => U122.l5 N (K122_5_0 K) N x0 x1 x2 x3 x4 x5 | _ => none) L none else bif Nat.beq rid 15 then tell (T122_15 0 0 0 0 []) (fun | [.I x12, .I x13, .I x14, .I x15, .R x16] => U122.l15 N (K122_15_0 K) N x12 x13 x14 x15 x16 | _ => none) L none else bif Nat.beq rid 18 then tell (T122_18 0 0 0 0 0 0 0 []) (fun | [.N x17, .I x18, .I x19, .I x20, .I x21, .I x22, .I x23, .R x24] => U122.l18 N (K122_18_0 K) N x17 x18 x19 x20 x21 x22 x23 x24 | _ => none) L none else none
theorem e122_5 {R : Type} (N : Nat) (K : Ex -> St -> Option R) : ∀ n : Nat, G122_5 (fun s => iter (exc E122 (it122 N) (loopOf Tryz.f122 5)) (canon (E122.keep 5)) n s K) = U122.l5 N (K122_5_0 K) n := by
 intro n
 induction n with
 | zero => exact rfl
 | succ n ih =>
  funext x0 x1 x2 x3 x4 x5
  have h : ∀ g, exc E122 (it122 N) (loopOf Tryz.f122 5) (tabl (T122_5 x0 x1 x2 x3 x4 x5)) (iterK g (canon (E122.keep 5)) K) = U122.r5 N (G122_5 g) (K122_5_0 K) x0 x1 x2 x3 x4 x5 := by intro g; kernel_rfl
  show iter _ _ (n + 1) _ K = _
  refine (iter_succ _ _ n _ K).trans ((h _).trans ?_)
  rw [ih]; rfl
theorem lo122_5 {R : Type} (N : Nat) : LoopOk E122 (it122 N (R := R)) (loopOf Tryz.f122 5) := by
 have e : firstRid (loopOf Tryz.f122 5) = 5 := by kernel_rfl
 intro L K r
 rw [e]
 intro h
 unfold it122 at h
 simp only [show Nat.beq 5 5 = true from rfl, cond_false, cond_true] at h
 refine tell_ok (Q := fun L => ∃ n, iter (exc E122 (it122 N) (loopOf Tryz.f122 5)) (canon (E122.keep 5)) n (tabl L) K = some r) h (fun xs h => ?_) fun h => ?_
 ·(try dsimp only at h)
  split at h
  ·rw [<- (e122_5 N K N)] at h; exact ⟨N, h⟩
  ·cases h
 cases h
theorem e122_15 {R : Type} (N : Nat) (K : Ex -> St -> Option R) : ∀ n : Nat, G122_15 (fun s => iter (exc E122 (it122 N) (loopOf Tryz.f122 15)) (canon (E122.keep 15)) n s K) = U122.l15 N (K122_15_0 K) n := by
 intro n
 induction n with
 | zero => exact rfl
 | succ n ih =>
  funext x12 x13 x14 x15 x16
  have h : ∀ g, exc E122 (it122 N) (loopOf Tryz.f122 15) (tabl (T122_15 x12 x13 x14 x15 x16)) (iterK g (canon (E122.keep 15)) K) = U122.r15 N (G122_15 g) (K122_15_0 K) x12 x13 x14 x15 x16 := by intro g; kernel_rfl
  show iter _ _ (n + 1) _ K = _
  refine (iter_succ _ _ n _ K).trans ((h _).trans ?_)
  rw [ih]; rfl
theorem lo122_15 {R : Type} (N : Nat) : LoopOk E122 (it122 N (R := R)) (loopOf Tryz.f122 15) := by
 have e : firstRid (loopOf Tryz.f122 15) = 15 := by kernel_rfl
 intro L K r
 rw [e]
 intro h
 unfold it122 at h
 simp only [show Nat.beq 15 5 = false from rfl, show Nat.beq 15 15 = true from rfl, cond_false, cond_true] at h
 refine tell_ok (Q := fun L => ∃ n, iter (exc E122 (it122 N) (loopOf Tryz.f122 15)) (canon (E122.keep 15)) n (tabl L) K = some r) h (fun xs h => ?_) fun h => ?_
 ·(try dsimp only at h)
  split at h
  ·rw [<- (e122_15 N K N)] at h; exact ⟨N, h⟩
  ·cases h
 cases h
theorem e122_18 {R : Type} (N : Nat) (K : Ex -> St -> Option R) : ∀ n : Nat, G122_18 (fun s => iter (exc E122 (it122 N) (loopOf Tryz.f122 18)) (canon (E122.keep 18)) n s K) = U122.l18 N (K122_18_0 K) n := by
 intro n
 induction n with
 | zero => exact rfl
 | succ n ih =>
  funext x17 x18 x19 x20 x21 x22 x23 x24
  have h : ∀ g, exc E122 (it122 N) (loopOf Tryz.f122 18) (tabl (T122_18 x17 x18 x19 x20 x21 x22 x23 x24)) (iterK g (canon (E122.keep 18)) K) = U122.r18 N (G122_18 g) (K122_18_0 K) x17 x18 x19 x20 x21 x22 x23 x24 := by intro g; kernel_rfl
  show iter _ _ (n + 1) _ K = _
  refine (iter_succ _ _ n _ K).trans ((h _).trans ?_)
  rw [ih]; rfl
theorem lo122_18 {R : Type} (N : Nat) : LoopOk E122 (it122 N (R := R)) (loopOf Tryz.f122 18) := by
 have e : firstRid (loopOf Tryz.f122 18) = 18 := by kernel_rfl
 intro L K r
 rw [e]
 intro h
 unfold it122 at h
 simp only [show Nat.beq 18 5 = false from rfl, show Nat.beq 18 15 = false from rfl, show Nat.beq 18 18 = true from rfl, cond_false, cond_true] at h
 refine tell_ok (Q := fun L => ∃ n, iter (exc E122 (it122 N) (loopOf Tryz.f122 18)) (canon (E122.keep 18)) n (tabl L) K = some r) h (fun xs h => ?_) fun h => ?_
 ·(try dsimp only at h)
  split at h
  ·rw [<- (e122_18 N K N)] at h; exact ⟨N, h⟩
  ·cases h
 cases h
def sp122 : List Arg -> Option (Bool × Res)
 | [.v true [.sh 144 a0, .i .i64 a1], .v false [.s a2]] => some (U122.c a0 a1 a2, k122 (U122.v a0 a1 a2))
 | _ => none
theorem ok122 : FnOk Tryz.prog T 122 sp122 := by
 refine fn_loop (E := E122) hE (call_cons ok106 (call_cons ok139 (call_cons ok140 call_nil))) hM Tryz.func122 (code := Tryz.f122.body.getD .skip) (by kernel_rfl) (by kernel_rfl) (itf := fun N => it122 N) (l := [loopOf Tryz.f122 5, loopOf Tryz.f122 15, loopOf Tryz.f122 18]) (by kernel_rfl) (fun N => loops_cons (lo122_5 N) (loops_cons (lo122_15 N) (loops_cons (lo122_18 N) loops_nil))) fun args r h => ?_
 unfold sp122 at h
 split at h
 ·obtain ⟨h1, rfl⟩ := sj h
  rename_i a0 a1 a2
  exact ⟨by kernel_rfl, fun hf => ⟨od (by kernel_rfl), (U122.b_eq (R := Res) (fun r0 r1 => some (k122 (r0, r1))) a0 a1 a2 h1).imp fun N hN => Eq.trans (by kernel_rfl) hN⟩⟩
 ·cases h

def E143 : Env := mkE T md [] [] [] []
def k143 (p : Bool) : Res := ⟨[.v false [.b p]], []⟩
def sp143 : List Arg -> Option (Bool × Res)
 | [.v false [.s a0], .fb [.s key1]] => some (true, k143 (U143.v a0 key1))
 | _ => none
theorem ok143 : FnOk Tryz.prog T 143 sp143 := by
 refine fn_flat (E := E143) hE call_nil hM Tryz.func143 (code := Tryz.f143.body.getD .skip) (by kernel_rfl) (by kernel_rfl) (by kernel_rfl) fun args r h => ?_
 unfold sp143 at h
 split at h
 ·obtain ⟨h1, rfl⟩ := sj h
  rename_i a0 key1
  exact ⟨by kernel_rfl, fun hf => ⟨od (by kernel_rfl), Eq.trans (by kernel_rfl) (U143.b_eq (R := Res) (fun r0 => some (k143 r0)) a0 key1)⟩⟩
 ·cases h

def E151 : Env := mkE T md [(143, sp143)] [(2, [0, 1, 4, 7, 8])] [] []
def k151 (p : Int) : Res := ⟨[.v false [.i .i64 p]], []⟩
def T151_2 (p0 : Row) (p1 : ByteArray) (p2 p3 p4 : Int) : List (Nat × Cel) := [(0, .v (.v false [.sh 9 p0])), (2, .v (.v false [.fn 143 [[.s p1]]])), (8, .v (.v false [.i .i64 p2])), (14, .v (.v false [.i .i64 p3])), (16, .v (.v false [.i .i64 p4]))]
def G151_2 {R : Type} (g : St -> Option R) (p0 : Row) (p1 : ByteArray) (p2 p3 p4 : Int) : Option R := g (tabl (T151_2 p0 p1 p2 p3 p4))
def K151_2_0 {R : Type} (K : Ex -> St -> Option R) (p0 : Row) (p1 : ByteArray) (p2 p3 p4 : Int) : Option R := K .ret (tabl (T151_2 p0 p1 p2 p3 p4))
def K151_2_1 {R : Type} (K : Ex -> St -> Option R) (p0 : Row) (p1 : ByteArray) (p2 p3 p4 : Int) : Option R := K (.exit 0) (tabl (T151_2 p0 p1 p2 p3 p4))
def H151 {R : Type} (N : Nat) (K : Ex -> St -> Option R) : List Leaf -> Option R
 | [.R x0, .S x1, .I x2, .I x3, .I x4] => U151.l2 N (K151_2_0 K) (K151_2_1 K) N x0 x1 x2 x3 x4
 | _ => none
def it151 (N : Nat) {R : Type} : It R := fun rid f cn L K => bif Nat.beq rid 2 then tell (T151_2 [] ⟨#[]⟩ 0 0 0) (H151 N K) L none else none
theorem e151_2 {R : Type} (N : Nat) (K : Ex -> St -> Option R) : ∀ n : Nat, G151_2 (fun s => iter (exc E151 (it151 N) (loopOf Tryz.f151 2)) (canon (E151.keep 2)) n s K) = U151.l2 N (K151_2_0 K) (K151_2_1 K) n := by
 intro n
 induction n with
 | zero => exact rfl
 | succ n ih =>
  funext x0 x1 x2 x3 x4
  have h : ∀ g, exc E151 (it151 N) (loopOf Tryz.f151 2) (tabl (T151_2 x0 x1 x2 x3 x4)) (iterK g (canon (E151.keep 2)) K) = U151.r2 N (G151_2 g) (K151_2_0 K) (K151_2_1 K) x0 x1 x2 x3 x4 := by intro g; kernel_rfl
  show iter _ _ (n + 1) _ K = _
  refine (iter_succ _ _ n _ K).trans ((h _).trans ?_)
  rw [ih]; rfl
theorem lo151_2 {R : Type} (N : Nat) : LoopOk E151 (it151 N (R := R)) (loopOf Tryz.f151 2) := by
 refine lo_one 2 (by kernel_rfl) (S := T151_2 [] ⟨#[]⟩ 0 0 0) (H := H151 N) (fun _ _ => rfl) fun K xs r h => ?_
 unfold H151 at h
 split at h
 ·rw [<- e151_2 N K N] at h; exact ⟨N, h⟩
 ·cases h
def sp151 : List Arg -> Option (Bool × Res)
 | [.v false [.sh 9 a0], .v false [.fn 143 [[.s key1]]]] => some (U151.c a0 key1, k151 (U151.v a0 key1))
 | _ => none
theorem ok151 : FnOk Tryz.prog T 151 sp151 := by
 refine fn_loop (E := E151) hE (call_cons ok143 call_nil) hM Tryz.func151 (code := Tryz.f151.body.getD .skip) (by kernel_rfl) (by kernel_rfl) (itf := fun N => it151 N) (l := [loopOf Tryz.f151 2]) (by kernel_rfl) (fun N => loops_cons (lo151_2 N) loops_nil) fun args r h => ?_
 unfold sp151 at h
 split at h
 ·obtain ⟨h1, rfl⟩ := sj h
  rename_i a0 key1
  exact ⟨by kernel_rfl, fun hf => ⟨od (by kernel_rfl), (U151.b_eq (R := Res) (fun r0 => some (k151 r0)) a0 key1 h1).imp fun N hN => Eq.trans (by kernel_rfl) hN⟩⟩
 ·cases h

def E142 : Env := mkE T md [(151, sp151), (143, sp143)] [(5, [0, 1, 5, 6])] [] []
def k142 (p : Row) : Res := ⟨[.v false [.ow 9 true p]], [[.nl]]⟩
def T142_5 (p0 : ByteArray) (p1 p2 : Int) (p3 : Row) : List (Nat × Cel) := [(0, .v (.v false [.own 900000000])), (2, .v (.v false [.fn 143 [[.s p0]]])), (10, .v (.v false [.i .i64 p1])), (12, .v (.v false [.i .i64 p2])), (1800000001, .o (.row 9 true p3))]
def G142_5 {R : Type} (g : St -> Option R) (p0 : ByteArray) (p1 p2 : Int) (p3 : Row) : Option R := g (tabl (T142_5 p0 p1 p2 p3))
def K142_5_0 {R : Type} (K : Ex -> St -> Option R) (p0 : ByteArray) (p1 p2 : Int) (p3 : Row) : Option R := K (.exit 0) (tabl (T142_5 p0 p1 p2 p3))
def H142 {R : Type} (N : Nat) (K : Ex -> St -> Option R) : List Leaf -> Option R
 | [.S x0, .I x1, .I x2, .R x3] => U142.l5 N (K142_5_0 K) N x0 x1 x2 x3
 | _ => none
def it142 (N : Nat) {R : Type} : It R := fun rid f cn L K => bif Nat.beq rid 5 then tell (T142_5 ⟨#[]⟩ 0 0 []) (H142 N K) L none else none
theorem e142_5 {R : Type} (N : Nat) (K : Ex -> St -> Option R) : ∀ n : Nat, G142_5 (fun s => iter (exc E142 (it142 N) (loopOf Tryz.f142 5)) (canon (E142.keep 5)) n s K) = U142.l5 N (K142_5_0 K) n := by
 intro n
 induction n with
 | zero => exact rfl
 | succ n ih =>
  funext x0 x1 x2 x3
  have h : ∀ g, exc E142 (it142 N) (loopOf Tryz.f142 5) (tabl (T142_5 x0 x1 x2 x3)) (iterK g (canon (E142.keep 5)) K) = U142.r5 N (G142_5 g) (K142_5_0 K) x0 x1 x2 x3 := by intro g; kernel_rfl
  show iter _ _ (n + 1) _ K = _
  refine (iter_succ _ _ n _ K).trans ((h _).trans ?_)
  rw [ih]; rfl
theorem lo142_5 {R : Type} (N : Nat) : LoopOk E142 (it142 N (R := R)) (loopOf Tryz.f142 5) := by
 refine lo_one 5 (by kernel_rfl) (S := T142_5 ⟨#[]⟩ 0 0 []) (H := H142 N) (fun _ _ => rfl) fun K xs r h => ?_
 unfold H142 at h
 split at h
 ·rw [<- e142_5 N K N] at h; exact ⟨N, h⟩
 ·cases h
def sp142 : List Arg -> Option (Bool × Res)
 | [.v false [.ow 9 true a0], .v false [.fn 143 [[.s key1]]]] => some (U142.c a0 key1, k142 (U142.v a0 key1))
 | _ => none
theorem ok142 : FnOk Tryz.prog T 142 sp142 := by
 refine fn_loop (E := E142) hE (call_cons ok151 (call_cons ok143 call_nil)) hM Tryz.func142 (code := Tryz.f142.body.getD .skip) (by kernel_rfl) (by kernel_rfl) (itf := fun N => it142 N) (l := [loopOf Tryz.f142 5]) (by kernel_rfl) (fun N => loops_cons (lo142_5 N) loops_nil) fun args r h => ?_
 unfold sp142 at h
 split at h
 ·obtain ⟨h1, rfl⟩ := sj h
  rename_i a0 key1
  exact ⟨by kernel_rfl, fun hf => ⟨od (by kernel_rfl), (U142.b_eq (R := Res) (fun r0 => some (k142 r0)) a0 key1 h1).imp fun N hN => Eq.trans (by kernel_rfl) hN⟩⟩
 ·cases h

def E124 : Env := mkE T md [(105, sp105), (142, sp142)] [] [] []
def k124 (p : Row) : Res := ⟨[.v false [.ow 9 true p]], []⟩
def sp124 : List Arg -> Option (Bool × Res)
 | [.v false [.sh 9 a0], .v false [.s a1]] => some (U124.c a0 a1, k124 (U124.v a0 a1))
 | _ => none
theorem ok124 : FnOk Tryz.prog T 124 sp124 := by
 refine fn_flat (E := E124) hE (call_cons ok105 (call_cons ok142 call_nil)) hM Tryz.func124 (code := Tryz.f124.body.getD .skip) (by kernel_rfl) (by kernel_rfl) (by kernel_rfl) fun args r h => ?_
 unfold sp124 at h
 split at h
 ·obtain ⟨h1, rfl⟩ := sj h
  rename_i a0 a1
  exact ⟨by kernel_rfl, fun hf => ⟨od (by kernel_rfl), Eq.trans (by kernel_rfl) (U124.b_eq (R := Res) (fun r0 => some (k124 r0)) a0 a1 h1)⟩⟩
 ·cases h

def E125 : Env := mkE T md [(139, sp139), (140, sp140)] [(5, [1, 5, 12, 13, 14])] [] []
def k125 (p : Int) : Res := ⟨[.v false [.i .i64 p]], []⟩
def T125_5 (p0 : ByteArray) (p1 : Int) (p2 : Row) (p3 p4 : Int) : List (Nat × Cel) := [(2, .v (.v false [.s p0])), (10, .v (.v false [.i .i64 p1])), (24, .v (.v false [.sh 144 p2])), (26, .v (.v false [.i .i64 p3])), (28, .v (.v false [.i .i64 p4]))]
def G125_5 {R : Type} (g : St -> Option R) (p0 : ByteArray) (p1 : Int) (p2 : Row) (p3 p4 : Int) : Option R := g (tabl (T125_5 p0 p1 p2 p3 p4))
def K125_5_0 {R : Type} (K : Ex -> St -> Option R) (p0 : ByteArray) (p1 : Int) (p2 : Row) (p3 p4 : Int) : Option R := K (.exit 0) (tabl (T125_5 p0 p1 p2 p3 p4))
def H125 {R : Type} (N : Nat) (K : Ex -> St -> Option R) : List Leaf -> Option R
 | [.S x0, .I x1, .R x2, .I x3, .I x4] => U125.l5 N (K125_5_0 K) N x0 x1 x2 x3 x4
 | _ => none
def it125 (N : Nat) {R : Type} : It R := fun rid f cn L K => bif Nat.beq rid 5 then tell (T125_5 ⟨#[]⟩ 0 [] 0 0) (H125 N K) L none else none
theorem e125_5 {R : Type} (N : Nat) (K : Ex -> St -> Option R) : ∀ n : Nat, G125_5 (fun s => iter (exc E125 (it125 N) (loopOf Tryz.f125 5)) (canon (E125.keep 5)) n s K) = U125.l5 N (K125_5_0 K) n := by
 intro n
 induction n with
 | zero => exact rfl
 | succ n ih =>
  funext x0 x1 x2 x3 x4
  have h : ∀ g, exc E125 (it125 N) (loopOf Tryz.f125 5) (tabl (T125_5 x0 x1 x2 x3 x4)) (iterK g (canon (E125.keep 5)) K) = U125.r5 N (G125_5 g) (K125_5_0 K) x0 x1 x2 x3 x4 := by intro g; kernel_rfl
  show iter _ _ (n + 1) _ K = _
  refine (iter_succ _ _ n _ K).trans ((h _).trans ?_)
  rw [ih]; rfl
theorem lo125_5 {R : Type} (N : Nat) : LoopOk E125 (it125 N (R := R)) (loopOf Tryz.f125 5) := by
 refine lo_one 5 (by kernel_rfl) (S := T125_5 ⟨#[]⟩ 0 [] 0 0) (H := H125 N) (fun _ _ => rfl) fun K xs r h => ?_
 unfold H125 at h
 split at h
 ·rw [<- e125_5 N K N] at h; exact ⟨N, h⟩
 ·cases h
def sp125 : List Arg -> Option (Bool × Res)
 | [.v true [.sh 144 a0, .i .i64 a1], .v false [.s a2]] => some (U125.c a0 a1 a2, k125 (U125.v a0 a1 a2))
 | _ => none
theorem ok125 : FnOk Tryz.prog T 125 sp125 := by
 refine fn_loop (E := E125) hE (call_cons ok139 (call_cons ok140 call_nil)) hM Tryz.func125 (code := Tryz.f125.body.getD .skip) (by kernel_rfl) (by kernel_rfl) (itf := fun N => it125 N) (l := [loopOf Tryz.f125 5]) (by kernel_rfl) (fun N => loops_cons (lo125_5 N) loops_nil) fun args r h => ?_
 unfold sp125 at h
 split at h
 ·obtain ⟨h1, rfl⟩ := sj h
  rename_i a0 a1 a2
  exact ⟨by kernel_rfl, fun hf => ⟨od (by kernel_rfl), (U125.b_eq (R := Res) (fun r0 => some (k125 r0)) a0 a1 a2 h1).imp fun N hN => Eq.trans (by kernel_rfl) hN⟩⟩
 ·cases h

def E96 : Env := mkE T md [(73, sp73), (121, sp121), (120, sp120), (122, sp122), (123, sp123), (124, sp124), (125, sp125)] [] [] []
def k96 (p : Row × Row × Row × Int × ByteArray) : Res := ⟨[.v true [.ow 9 true p.1, .ow 9 true p.2.1, .ow 144 true p.2.2.1, .i .i64 p.2.2.2.1], .v false [.s p.2.2.2.2]], []⟩
def sp96 : List Arg -> Option (Bool × Res)
 | [.v true [.sh 9 a0, .sh 9 a1, .sh 144 a2, .i .i64 a3], .v false [.s a4]] => some (U96.c a0 a1 a2 a3 a4, k96 (U96.v a0 a1 a2 a3 a4))
 | _ => none
theorem ok96 : FnOk Tryz.prog T 96 sp96 := by
 refine fn_flat (E := E96) hE (call_cons ok73 (call_cons ok121 (call_cons ok120 (call_cons ok122 (call_cons ok123 (call_cons ok124 (call_cons ok125 call_nil))))))) hM Tryz.func96 (code := Tryz.f96.body.getD .skip) (by kernel_rfl) (by kernel_rfl) (by kernel_rfl) fun args r h => ?_
 unfold sp96 at h
 split at h
 ·obtain ⟨h1, rfl⟩ := sj h
  rename_i a0 a1 a2 a3 a4
  exact ⟨by kernel_rfl, fun hf => ⟨od (by kernel_rfl), Eq.trans (by kernel_rfl) (U96.b_eq (R := Res) (fun r0 r1 r2 r3 r4 => some (k96 (r0, r1, r2, r3, r4))) a0 a1 a2 a3 a4 h1)⟩⟩
 ·cases h

def E72 : Env := mkE T md [] [] [] []
def k72 (p : Row) : Res := ⟨[.v false [.ow 88 true p]], []⟩
def sp72 : List Arg -> Option (Bool × Res)
 | [.v false [.sh 88 a0]] => some (U72.c a0, k72 (U72.v a0))
 | _ => none
theorem ok72 : FnOk Tryz.prog T 72 sp72 := by
 refine fn_flat (E := E72) hE call_nil hM Tryz.func72 (code := Tryz.f72.body.getD .skip) (by kernel_rfl) (by kernel_rfl) (by kernel_rfl) fun args r h => ?_
 unfold sp72 at h
 split at h
 ·obtain ⟨h1, rfl⟩ := sj h
  rename_i a0
  exact ⟨by kernel_rfl, fun hf => ⟨od (by kernel_rfl), Eq.trans (by kernel_rfl) (U72.b_eq (R := Res) (fun r0 => some (k72 r0)) a0 h1)⟩⟩
 ·cases h

def E127 : Env := mkE T md [] [] [] []
def k127 (p : Bool) : Res := ⟨[.v false [.b p]], []⟩
def sp127 : List Arg -> Option (Bool × Res)
 | [.v true [.s a0, .i .i64 a1, .i .i64 a2, .s a3], .fb [.s key1]] => some (true, k127 (U127.v a0 a1 a2 a3 key1))
 | _ => none
theorem ok127 : FnOk Tryz.prog T 127 sp127 := by
 refine fn_flat (E := E127) hE call_nil hM Tryz.func127 (code := Tryz.f127.body.getD .skip) (by kernel_rfl) (by kernel_rfl) (by kernel_rfl) fun args r h => ?_
 unfold sp127 at h
 split at h
 ·obtain ⟨h1, rfl⟩ := sj h
  rename_i a0 a1 a2 a3 key1
  exact ⟨by kernel_rfl, fun hf => ⟨od (by kernel_rfl), Eq.trans (by kernel_rfl) (U127.b_eq (R := Res) (fun r0 => some (k127 r0)) a0 a1 a2 a3 key1)⟩⟩
 ·cases h

def E144b : Env := mkE T md [(127, sp127)] [(2, [0, 1, 4, 7, 8])] [] []
def k144b (p : Int) : Res := ⟨[.v false [.i .i64 p]], []⟩
def T144b_2 (p0 : Row) (p1 : ByteArray) (p2 p3 p4 : Int) : List (Nat × Cel) := [(0, .v (.v false [.sh 88 p0])), (2, .v (.v false [.fn 127 [[.s p1]]])), (8, .v (.v false [.i .i64 p2])), (14, .v (.v false [.i .i64 p3])), (16, .v (.v false [.i .i64 p4]))]
def G144b_2 {R : Type} (g : St -> Option R) (p0 : Row) (p1 : ByteArray) (p2 p3 p4 : Int) : Option R := g (tabl (T144b_2 p0 p1 p2 p3 p4))
def K144b_2_0 {R : Type} (K : Ex -> St -> Option R) (p0 : Row) (p1 : ByteArray) (p2 p3 p4 : Int) : Option R := K .ret (tabl (T144b_2 p0 p1 p2 p3 p4))
def K144b_2_1 {R : Type} (K : Ex -> St -> Option R) (p0 : Row) (p1 : ByteArray) (p2 p3 p4 : Int) : Option R := K (.exit 0) (tabl (T144b_2 p0 p1 p2 p3 p4))
def H144b {R : Type} (N : Nat) (K : Ex -> St -> Option R) : List Leaf -> Option R
 | [.R x0, .S x1, .I x2, .I x3, .I x4] => U144b.l2 N (K144b_2_0 K) (K144b_2_1 K) N x0 x1 x2 x3 x4
 | _ => none
def it144b (N : Nat) {R : Type} : It R := fun rid f cn L K => bif Nat.beq rid 2 then tell (T144b_2 [] ⟨#[]⟩ 0 0 0) (H144b N K) L none else none
theorem e144b_2 {R : Type} (N : Nat) (K : Ex -> St -> Option R) : ∀ n : Nat, G144b_2 (fun s => iter (exc E144b (it144b N) (loopOf Tryz.f144 2)) (canon (E144b.keep 2)) n s K) = U144b.l2 N (K144b_2_0 K) (K144b_2_1 K) n := by
 intro n
 induction n with
 | zero => exact rfl
 | succ n ih =>
  funext x0 x1 x2 x3 x4
  have h : ∀ g, exc E144b (it144b N) (loopOf Tryz.f144 2) (tabl (T144b_2 x0 x1 x2 x3 x4)) (iterK g (canon (E144b.keep 2)) K) = U144b.r2 N (G144b_2 g) (K144b_2_0 K) (K144b_2_1 K) x0 x1 x2 x3 x4 := by intro g; kernel_rfl
  show iter _ _ (n + 1) _ K = _
  refine (iter_succ _ _ n _ K).trans ((h _).trans ?_)
  rw [ih]; rfl
theorem lo144b_2 {R : Type} (N : Nat) : LoopOk E144b (it144b N (R := R)) (loopOf Tryz.f144 2) := by
 refine lo_one 2 (by kernel_rfl) (S := T144b_2 [] ⟨#[]⟩ 0 0 0) (H := H144b N) (fun _ _ => rfl) fun K xs r h => ?_
 unfold H144b at h
 split at h
 ·rw [<- e144b_2 N K N] at h; exact ⟨N, h⟩
 ·cases h
def sp144b : List Arg -> Option (Bool × Res)
 | [.v false [.sh 88 a0], .v false [.fn 127 [[.s key1]]]] => some (U144b.c a0 key1, k144b (U144b.v a0 key1))
 | _ => none
theorem ok144b : FnOk Tryz.prog T 144 sp144b := by
 refine fn_loop (E := E144b) hE (call_cons ok127 call_nil) hM Tryz.func144 (code := Tryz.f144.body.getD .skip) (by kernel_rfl) (by kernel_rfl) (itf := fun N => it144b N) (l := [loopOf Tryz.f144 2]) (by kernel_rfl) (fun N => loops_cons (lo144b_2 N) loops_nil) fun args r h => ?_
 unfold sp144b at h
 split at h
 ·obtain ⟨h1, rfl⟩ := sj h
  rename_i a0 key1
  exact ⟨by kernel_rfl, fun hf => ⟨od (by kernel_rfl), (U144b.b_eq (R := Res) (fun r0 => some (k144b r0)) a0 key1 h1).imp fun N hN => Eq.trans (by kernel_rfl) hN⟩⟩
 ·cases h

def E126 : Env := mkE T md [(144, sp144b), (127, sp127)] [(5, [0, 1, 5, 6])] [] []
def k126 (p : Row) : Res := ⟨[.v false [.ow 88 true p]], [[.nl]]⟩
def T126_5 (p0 : ByteArray) (p1 p2 : Int) (p3 : Row) : List (Nat × Cel) := [(0, .v (.v false [.own 900000000])), (2, .v (.v false [.fn 127 [[.s p0]]])), (10, .v (.v false [.i .i64 p1])), (12, .v (.v false [.i .i64 p2])), (1800000001, .o (.row 88 true p3))]
def G126_5 {R : Type} (g : St -> Option R) (p0 : ByteArray) (p1 p2 : Int) (p3 : Row) : Option R := g (tabl (T126_5 p0 p1 p2 p3))
def K126_5_0 {R : Type} (K : Ex -> St -> Option R) (p0 : ByteArray) (p1 p2 : Int) (p3 : Row) : Option R := K (.exit 0) (tabl (T126_5 p0 p1 p2 p3))
def H126 {R : Type} (N : Nat) (K : Ex -> St -> Option R) : List Leaf -> Option R
 | [.S x0, .I x1, .I x2, .R x3] => U126.l5 N (K126_5_0 K) N x0 x1 x2 x3
 | _ => none
def it126 (N : Nat) {R : Type} : It R := fun rid f cn L K => bif Nat.beq rid 5 then tell (T126_5 ⟨#[]⟩ 0 0 []) (H126 N K) L none else none
theorem e126_5 {R : Type} (N : Nat) (K : Ex -> St -> Option R) : ∀ n : Nat, G126_5 (fun s => iter (exc E126 (it126 N) (loopOf Tryz.f126 5)) (canon (E126.keep 5)) n s K) = U126.l5 N (K126_5_0 K) n := by
 intro n
 induction n with
 | zero => exact rfl
 | succ n ih =>
  funext x0 x1 x2 x3
  have h : ∀ g, exc E126 (it126 N) (loopOf Tryz.f126 5) (tabl (T126_5 x0 x1 x2 x3)) (iterK g (canon (E126.keep 5)) K) = U126.r5 N (G126_5 g) (K126_5_0 K) x0 x1 x2 x3 := by intro g; kernel_rfl
  show iter _ _ (n + 1) _ K = _
  refine (iter_succ _ _ n _ K).trans ((h _).trans ?_)
  rw [ih]; rfl
theorem lo126_5 {R : Type} (N : Nat) : LoopOk E126 (it126 N (R := R)) (loopOf Tryz.f126 5) := by
 refine lo_one 5 (by kernel_rfl) (S := T126_5 ⟨#[]⟩ 0 0 []) (H := H126 N) (fun _ _ => rfl) fun K xs r h => ?_
 unfold H126 at h
 split at h
 ·rw [<- e126_5 N K N] at h; exact ⟨N, h⟩
 ·cases h
def sp126 : List Arg -> Option (Bool × Res)
 | [.v false [.ow 88 true a0], .v false [.fn 127 [[.s key1]]]] => some (U126.c a0 key1, k126 (U126.v a0 key1))
 | _ => none
theorem ok126 : FnOk Tryz.prog T 126 sp126 := by
 refine fn_loop (E := E126) hE (call_cons ok144b (call_cons ok127 call_nil)) hM Tryz.func126 (code := Tryz.f126.body.getD .skip) (by kernel_rfl) (by kernel_rfl) (itf := fun N => it126 N) (l := [loopOf Tryz.f126 5]) (by kernel_rfl) (fun N => loops_cons (lo126_5 N) loops_nil) fun args r h => ?_
 unfold sp126 at h
 split at h
 ·obtain ⟨h1, rfl⟩ := sj h
  rename_i a0 key1
  exact ⟨by kernel_rfl, fun hf => ⟨od (by kernel_rfl), (U126.b_eq (R := Res) (fun r0 => some (k126 r0)) a0 key1 h1).imp fun N hN => Eq.trans (by kernel_rfl) hN⟩⟩
 ·cases h

def E97 : Env := mkE T md [(72, sp72), (126, sp126)] [] [] []
def k97 (p : Row) : Res := ⟨[.v false [.ow 88 true p]], []⟩
def sp97 : List Arg -> Option (Bool × Res)
 | [.v false [.sh 88 a0], .v false [.s a1]] => some (U97.c a0 a1, k97 (U97.v a0 a1))
 | _ => none
theorem ok97 : FnOk Tryz.prog T 97 sp97 := by
 refine fn_flat (E := E97) hE (call_cons ok72 (call_cons ok126 call_nil)) hM Tryz.func97 (code := Tryz.f97.body.getD .skip) (by kernel_rfl) (by kernel_rfl) (by kernel_rfl) fun args r h => ?_
 unfold sp97 at h
 split at h
 ·obtain ⟨h1, rfl⟩ := sj h
  rename_i a0 a1
  exact ⟨by kernel_rfl, fun hf => ⟨od (by kernel_rfl), Eq.trans (by kernel_rfl) (U97.b_eq (R := Res) (fun r0 => some (k97 r0)) a0 a1 h1)⟩⟩
 ·cases h

def E98 : Env := mkE T md [(128, sp128), (123, sp123)] [] [] []
def k98 (p : Bool) : Res := ⟨[.v false [.b p]], []⟩
def sp98 : List Arg -> Option (Bool × Res)
 | [.v true [.sh 9 a0, .sh 9 a1, .sh 144 a2, .i .i64 a3], .v false [.s a4]] => some (U98.c a0 a1 a2 a3 a4, k98 (U98.v a0 a1 a2 a3 a4))
 | _ => none
theorem ok98 : FnOk Tryz.prog T 98 sp98 := by
 refine fn_flat (E := E98) hE (call_cons ok128 (call_cons ok123 call_nil)) hM Tryz.func98 (code := Tryz.f98.body.getD .skip) (by kernel_rfl) (by kernel_rfl) (by kernel_rfl) fun args r h => ?_
 unfold sp98 at h
 split at h
 ·obtain ⟨h1, rfl⟩ := sj h
  rename_i a0 a1 a2 a3 a4
  exact ⟨by kernel_rfl, fun hf => ⟨od (by kernel_rfl), Eq.trans (by kernel_rfl) (U98.b_eq (R := Res) (fun r0 => some (k98 r0)) a0 a1 a2 a3 a4 h1)⟩⟩
 ·cases h

def rho129 : Go.Shelf.Ren := ⟨fun n => bif Nat.beq n 22 then 129 else bif Nat.beq n 29 then 146 else 147, fun n => bif Nat.beq n 24 then 34 else bif Nat.beq n 9 then 88 else bif Nat.beq n 3 then 3 else bif Nat.beq n 4 then 4 else n, fun n => n⟩
def sp129 : List Arg -> Option (Bool × Res) := Ins.insSpec 88 48
theorem ins129 : Ins.L Tryz.prog rho129 "slices.Insert[[]loop.example/g00245/impl.Entry,loop.example/g00245/impl.Entry]" 4 where
 mixed := hM
 f22 := Tryz.func129.trans (by kernel_rfl)
 t3 := by kernel_rfl
 a3 := Ins.agg_false (P := Tryz.prog) (t := 3) (d := .int .i64) (by kernel_rfl) rfl
 t4 := by kernel_rfl
 a4 := Ins.agg_false (P := Tryz.prog) (t := 4) (d := .bool) (by kernel_rfl) rfl
 t24 := by kernel_rfl
 a24 := Ins.agg_false (P := Tryz.prog) (t := 34) (d := .slice 88) (by kernel_rfl) rfl
 z9 := Ins.size_of hE (t := 88) (ti := ⟨true, [.s, .i .i64, .i .i64, .s], 48⟩) (by kernel_rfl)
theorem ok129 : FnOk Tryz.prog T 129 sp129 :=
 Ins.insert_ok (e := 88) (te := ⟨true, [.s, .i .i64, .i .i64, .s], 48⟩) (by kernel_rfl) rfl (by kernel_rfl) hE ins129
  (fun args w => run_callFunc_extern (e := Extern.SlicesOverlaps.overlaps #[34, 34] #[4]) Tryz.func146 (by kernel_rfl) (by kernel_rfl) (by kernel_rfl) (by kernel_rfl) args w)
  ⟨_, Tryz.func129, by kernel_rfl, by kernel_rfl⟩

def E99 : Env := mkE T md [(97, sp97), (129, sp129)] [(3, [3, 5, 6])] [] []
def k99 (p : Row) : Res := ⟨[.v false [.ow 88 true p]], []⟩
def T99_3 (p0 : Int) (p1 : ByteArray) (p2 p3 : Int) (p4 : ByteArray) (p5 : Row) : List (Nat × Cel) := [(6, .v (.v false [.bp 0 0])), (10, .v (.v false [.own 1])), (12, .v (.v false [.i .i64 p0])), (1, .o (.box [.s p1, .i .i64 p2, .i .i64 p3, .s p4])), (3, .o (.row 88 true p5))]
def G99_3 {R : Type} (g : St -> Option R) (p0 : Int) (p1 : ByteArray) (p2 p3 : Int) (p4 : ByteArray) (p5 : Row) : Option R := g (tabl (T99_3 p0 p1 p2 p3 p4 p5))
def K99_3_0 {R : Type} (K : Ex -> St -> Option R) (p0 : Int) (p1 : ByteArray) (p2 p3 : Int) (p4 : ByteArray) (p5 : Row) : Option R := K (.exit 0) (tabl (T99_3 p0 p1 p2 p3 p4 p5))
def H99 {R : Type} (N : Nat) (K : Ex -> St -> Option R) : List Leaf -> Option R
 | [.I x0, .S x1, .I x2, .I x3, .S x4, .R x5] => U99.l3 N (K99_3_0 K) N x0 x1 x2 x3 x4 x5
 | _ => none
def it99 (N : Nat) {R : Type} : It R := fun rid f cn L K => bif Nat.beq rid 3 then tell (T99_3 0 ⟨#[]⟩ 0 0 ⟨#[]⟩ []) (H99 N K) L none else none
theorem e99_3 {R : Type} (N : Nat) (K : Ex -> St -> Option R) : ∀ n : Nat, G99_3 (fun s => iter (exc E99 (it99 N) (loopOf Tryz.f99 3)) (canon (E99.keep 3)) n s K) = U99.l3 N (K99_3_0 K) n := by
 intro n
 induction n with
 | zero => exact rfl
 | succ n ih =>
  funext x0 x1 x2 x3 x4 x5
  have h : ∀ g, exc E99 (it99 N) (loopOf Tryz.f99 3) (tabl (T99_3 x0 x1 x2 x3 x4 x5)) (iterK g (canon (E99.keep 3)) K) = U99.r3 N (G99_3 g) (K99_3_0 K) x0 x1 x2 x3 x4 x5 := by intro g; kernel_rfl
  show iter _ _ (n + 1) _ K = _
  refine (iter_succ _ _ n _ K).trans ((h _).trans ?_)
  rw [ih]; rfl
theorem lo99_3 {R : Type} (N : Nat) : LoopOk E99 (it99 N (R := R)) (loopOf Tryz.f99 3) := by
 refine lo_one 3 (by kernel_rfl) (S := T99_3 0 ⟨#[]⟩ 0 0 ⟨#[]⟩ []) (H := H99 N) (fun _ _ => rfl) fun K xs r h => ?_
 unfold H99 at h
 split at h
 ·rw [<- e99_3 N K N] at h; exact ⟨N, h⟩
 ·cases h
def sp99 : List Arg -> Option (Bool × Res)
 | [.v false [.sh 88 a0], .v true [.s a1, .i .i64 a2, .i .i64 a3, .s a4]] => some (U99.c a0 a1 a2 a3 a4, k99 (U99.v a0 a1 a2 a3 a4))
 | _ => none
theorem ok99 : FnOk Tryz.prog T 99 sp99 := by
 refine fn_loop (E := E99) hE (call_cons ok97 (call_cons ok129 call_nil)) hM Tryz.func99 (code := Tryz.f99.body.getD .skip) (by kernel_rfl) (by kernel_rfl) (itf := fun N => it99 N) (l := [loopOf Tryz.f99 3]) (by kernel_rfl) (fun N => loops_cons (lo99_3 N) loops_nil) fun args r h => ?_
 unfold sp99 at h
 split at h
 ·obtain ⟨h1, rfl⟩ := sj h
  rename_i a0 a1 a2 a3 a4
  exact ⟨by kernel_rfl, fun hf => ⟨od (by kernel_rfl), (U99.b_eq (R := Res) (fun r0 => some (k99 r0)) a0 a1 a2 a3 a4 h1).imp fun N hN => Eq.trans (by kernel_rfl) hN⟩⟩
 ·cases h

def E57 : Env := mkE T md [(96, sp96), (97, sp97), (98, sp98), (99, sp99)] [] [] []
def k57 (p : Int × Row × Row × Row × Row × Int × Row × Row × Int) : Res := ⟨[], [[.i .i64 p.1, .ow 88 true p.2.1, .ow 9 true p.2.2.1, .ow 9 true p.2.2.2.1, .ow 144 true p.2.2.2.2.1, .i .i64 p.2.2.2.2.2.1, .kp p.2.2.2.2.2.2.1, .kp p.2.2.2.2.2.2.2.1, .i .i64 p.2.2.2.2.2.2.2.2]]⟩
def sp57 : List Arg -> Option (Bool × Res)
 | [.pt [.i .i64 a0, .ow 88 true a1, .ow 9 true a2, .ow 9 true a3, .ow 144 true a4, .i .i64 a5, .ow 64 true a6, .ow 106 true a7, .i .i64 a8], .v true [.s a9, .i .i64 a10, .i .i64 a11, .s a12]] => some (U57.c a0 a1 a2 a3 a4 a5 a6 a7 a8 a9 a10 a11 a12, k57 (U57.v a0 a1 a2 a3 a4 a5 a6 a7 a8 a9 a10 a11 a12))
 | _ => none
theorem ok57 : FnOk Tryz.prog T 57 sp57 := by
 refine fn_flat (E := E57) hE (call_cons ok96 (call_cons ok97 (call_cons ok98 (call_cons ok99 call_nil)))) hM Tryz.func57 (code := Tryz.f57.body.getD .skip) (by kernel_rfl) (by kernel_rfl) (by kernel_rfl) fun args r h => ?_
 unfold sp57 at h
 split at h
 ·obtain ⟨h1, rfl⟩ := sj h
  rename_i a0 a1 a2 a3 a4 a5 a6 a7 a8 a9 a10 a11 a12
  exact ⟨by kernel_rfl, fun hf => ⟨od (by kernel_rfl), Eq.trans (by kernel_rfl) (U57.b_eq (R := Res) (fun r0 r1 r2 r3 r4 r5 r6 r7 r8 => some (k57 (r0, r1, r2, r3, r4, r5, r6, r7, r8))) a0 a1 a2 a3 a4 a5 a6 a7 a8 a9 a10 a11 a12 h1)⟩⟩
 ·cases h

def E19 : Env := mkE T md [(55, sp55), (56, sp56), (57, sp57)] [(4, [0, 4, 5, 11, 12, 13])] [] []
def k19 (p : Int × Row × Row × Row × Row × Int × Row × Row × Int) : Res := ⟨[.v true [.i .i64 p.1, .ow 88 true p.2.1, .ow 9 true p.2.2.1, .ow 9 true p.2.2.2.1, .ow 144 true p.2.2.2.2.1, .i .i64 p.2.2.2.2.2.1, .ow 64 true p.2.2.2.2.2.2.1, .ow 106 true p.2.2.2.2.2.2.2.1, .i .i64 p.2.2.2.2.2.2.2.2]], []⟩
def T19_4 (p0 : Int) (p1 : Row) (p2 p3 p4 p5 p6 p7 p8 p9 : Int) (p10 p11 p12 p13 p14 p15 : Row) : List (Nat × Cel) := [(0, .v (.v false [.i .i64 p0])), (8, .v (.v false [.bp 0 0])), (10, .v (.v false [.bp 1 0])), (22, .v (.v false [.sh 88 p1])), (24, .v (.v false [.i .i64 p2])), (26, .v (.v false [.i .i64 p3])), (1, .o (.box [.i .i64 p4, .nl, .nl, .nl, .nl, .i .i64 p5, .nl, .nl, .i .i64 p6])), (3, .o (.box [.i .i64 p7, .own 2, .own 3, .own 4, .own 5, .i .i64 p8, .own 6, .own 7, .i .i64 p9])), (5, .o (.row 88 true p10)), (7, .o (.row 9 true p11)), (9, .o (.row 9 true p12)), (11, .o (.row 144 true p13)), (13, .o (.row 64 true p14)), (15, .o (.row 106 true p15))]
def G19_4 {R : Type} (g : St -> Option R) (p0 : Int) (p1 : Row) (p2 p3 p4 p5 p6 p7 p8 p9 : Int) (p10 p11 p12 p13 p14 p15 : Row) : Option R := g (tabl (T19_4 p0 p1 p2 p3 p4 p5 p6 p7 p8 p9 p10 p11 p12 p13 p14 p15))
def K19_4_0 {R : Type} (K : Ex -> St -> Option R) (p0 : Int) (p1 : Row) (p2 p3 p4 p5 p6 p7 p8 p9 : Int) (p10 p11 p12 p13 p14 p15 : Row) : Option R := K (.exit 0) (tabl (T19_4 p0 p1 p2 p3 p4 p5 p6 p7 p8 p9 p10 p11 p12 p13 p14 p15))
def H19 {R : Type} (N : Nat) (K : Ex -> St -> Option R) : List Leaf -> Option R
 | [.I x0, .R x1, .I x2, .I x3, .I x4, .I x5, .I x6, .I x7, .I x8, .I x9, .R x10, .R x11, .R x12, .R x13, .R x14, .R x15] => U19.l4 N (K19_4_0 K) N x0 x1 x2 x3 x4 x5 x6 x7 x8 x9 x10 x11 x12 x13 x14 x15
 | _ => none
def it19 (N : Nat) {R : Type} : It R := fun rid f cn L K => bif Nat.beq rid 4 then tell (T19_4 0 [] 0 0 0 0 0 0 0 0 [] [] [] [] [] []) (H19 N K) L none else none
theorem e19_4 {R : Type} (N : Nat) (K : Ex -> St -> Option R) : ∀ n : Nat, G19_4 (fun s => iter (exc E19 (it19 N) (loopOf Tryz.f19 4)) (canon (E19.keep 4)) n s K) = U19.l4 N (K19_4_0 K) n := by
 intro n
 induction n with
 | zero => exact rfl
 | succ n ih =>
  funext x0 x1 x2 x3 x4 x5 x6 x7 x8 x9 x10 x11 x12 x13 x14 x15
  have h : ∀ g, exc E19 (it19 N) (loopOf Tryz.f19 4) (tabl (T19_4 x0 x1 x2 x3 x4 x5 x6 x7 x8 x9 x10 x11 x12 x13 x14 x15)) (iterK g (canon (E19.keep 4)) K) = U19.r4 N (G19_4 g) (K19_4_0 K) x0 x1 x2 x3 x4 x5 x6 x7 x8 x9 x10 x11 x12 x13 x14 x15 := by intro g; kernel_rfl
  show iter _ _ (n + 1) _ K = _
  refine (iter_succ _ _ n _ K).trans ((h _).trans ?_)
  rw [ih]; rfl
theorem lo19_4 {R : Type} (N : Nat) : LoopOk E19 (it19 N (R := R)) (loopOf Tryz.f19 4) := by
 refine lo_one 4 (by kernel_rfl) (S := T19_4 0 [] 0 0 0 0 0 0 0 0 [] [] [] [] [] []) (H := H19 N) (fun _ _ => rfl) fun K xs r h => ?_
 unfold H19 at h
 split at h
 ·rw [<- e19_4 N K N] at h; exact ⟨N, h⟩
 ·cases h
def sp19 : List Arg -> Option (Bool × Res)
 | [.v false [.i .i64 a0], .v false [.sh 88 a1]] => some (U19.c a0 a1, k19 (U19.v a0 a1))
 | _ => none
theorem ok19 : FnOk Tryz.prog T 19 sp19 := by
 refine fn_loop (E := E19) hE (call_cons ok55 (call_cons ok56 (call_cons ok57 call_nil))) hM Tryz.func19 (code := Tryz.f19.body.getD .skip) (by kernel_rfl) (by kernel_rfl) (itf := fun N => it19 N) (l := [loopOf Tryz.f19 4]) (by kernel_rfl) (fun N => loops_cons (lo19_4 N) loops_nil) fun args r h => ?_
 unfold sp19 at h
 split at h
 ·obtain ⟨h1, rfl⟩ := sj h
  rename_i a0 a1
  exact ⟨by kernel_rfl, fun hf => ⟨od (by kernel_rfl), (U19.b_eq (R := Res) (fun r0 r1 r2 r3 r4 r5 r6 r7 r8 => some (k19 (r0, r1, r2, r3, r4, r5, r6, r7, r8))) a0 a1 h1).imp fun N hN => Eq.trans (by kernel_rfl) hN⟩⟩
 ·cases h

def E58 : Env := mkE T md [] [] [] []
def k58 (p : Bool) : Res := ⟨[.v false [.b p]], []⟩
def sp58 : List Arg -> Option (Bool × Res)
 | [.v true [.s a0, .i .i64 a1, .i .i64 a2, .s a3], .v true [.s a4, .i .i64 a5, .i .i64 a6, .s a7]] => some (true, k58 (U58.v a0 a1 a2 a3 a4 a5 a6 a7))
 | _ => none
theorem ok58 : FnOk Tryz.prog T 58 sp58 := by
 refine fn_flat (E := E58) hE call_nil hM Tryz.func58 (code := Tryz.f58.body.getD .skip) (by kernel_rfl) (by kernel_rfl) (by kernel_rfl) fun args r h => ?_
 unfold sp58 at h
 split at h
 ·obtain ⟨h1, rfl⟩ := sj h
  rename_i a0 a1 a2 a3 a4 a5 a6 a7
  exact ⟨by kernel_rfl, fun hf => ⟨od (by kernel_rfl), Eq.trans (by kernel_rfl) (U58.b_eq (R := Res) (fun r0 => some (k58 r0)) a0 a1 a2 a3 a4 a5 a6 a7)⟩⟩
 ·cases h

def E20 : Env := mkE T md [(58, sp58)] [(4, [0, 1, 4, 5])] [] []
def k20 (p : Bool) : Res := ⟨[.v false [.b p]], []⟩
def T20_4 (p0 p1 : Row) (p2 : Bool) (p3 : Int) : List (Nat × Cel) := [(0, .v (.v false [.sh 88 p0])), (2, .v (.v false [.sh 88 p1])), (8, .v (.v false [.b p2])), (10, .v (.v false [.i .i64 p3]))]
def G20_4 {R : Type} (g : St -> Option R) (p0 p1 : Row) (p2 : Bool) (p3 : Int) : Option R := g (tabl (T20_4 p0 p1 p2 p3))
def K20_4_0 {R : Type} (K : Ex -> St -> Option R) (p0 p1 : Row) (p2 : Bool) (p3 : Int) : Option R := K .ret (tabl (T20_4 p0 p1 p2 p3))
def K20_4_1 {R : Type} (K : Ex -> St -> Option R) (p0 p1 : Row) (p2 : Bool) (p3 : Int) : Option R := K (.exit 0) (tabl (T20_4 p0 p1 p2 p3))
def H20 {R : Type} (N : Nat) (K : Ex -> St -> Option R) : List Leaf -> Option R
 | [.R x0, .R x1, .B x2, .I x3] => U20.l4 N (K20_4_0 K) (K20_4_1 K) N x0 x1 x2 x3
 | _ => none
def it20 (N : Nat) {R : Type} : It R := fun rid f cn L K => bif Nat.beq rid 4 then tell (T20_4 [] [] false 0) (H20 N K) L none else none
theorem e20_4 {R : Type} (N : Nat) (K : Ex -> St -> Option R) : ∀ n : Nat, G20_4 (fun s => iter (exc E20 (it20 N) (loopOf Tryz.f20 4)) (canon (E20.keep 4)) n s K) = U20.l4 N (K20_4_0 K) (K20_4_1 K) n := by
 intro n
 induction n with
 | zero => exact rfl
 | succ n ih =>
  funext x0 x1 x2 x3
  have h : ∀ g, exc E20 (it20 N) (loopOf Tryz.f20 4) (tabl (T20_4 x0 x1 x2 x3)) (iterK g (canon (E20.keep 4)) K) = U20.r4 N (G20_4 g) (K20_4_0 K) (K20_4_1 K) x0 x1 x2 x3 := by intro g; kernel_rfl
  show iter _ _ (n + 1) _ K = _
  refine (iter_succ _ _ n _ K).trans ((h _).trans ?_)
  rw [ih]; rfl
theorem lo20_4 {R : Type} (N : Nat) : LoopOk E20 (it20 N (R := R)) (loopOf Tryz.f20 4) := by
 refine lo_one 4 (by kernel_rfl) (S := T20_4 [] [] false 0) (H := H20 N) (fun _ _ => rfl) fun K xs r h => ?_
 unfold H20 at h
 split at h
 ·rw [<- e20_4 N K N] at h; exact ⟨N, h⟩
 ·cases h
def sp20 : List Arg -> Option (Bool × Res)
 | [.v false [.sh 88 a0], .v false [.sh 88 a1]] => some (U20.c a0 a1, k20 (U20.v a0 a1))
 | _ => none
theorem ok20 : FnOk Tryz.prog T 20 sp20 := by
 refine fn_loop (E := E20) hE (call_cons ok58 call_nil) hM Tryz.func20 (code := Tryz.f20.body.getD .skip) (by kernel_rfl) (by kernel_rfl) (itf := fun N => it20 N) (l := [loopOf Tryz.f20 4]) (by kernel_rfl) (fun N => loops_cons (lo20_4 N) loops_nil) fun args r h => ?_
 unfold sp20 at h
 split at h
 ·obtain ⟨h1, rfl⟩ := sj h
  rename_i a0 a1
  exact ⟨by kernel_rfl, fun hf => ⟨od (by kernel_rfl), (U20.b_eq (R := Res) (fun r0 => some (k20 r0)) a0 a1 h1).imp fun N hN => Eq.trans (by kernel_rfl) hN⟩⟩
 ·cases h

def E75 : Env := mkE T md [] [(4, [0, 1, 4, 5])] [] []
def k75 (p : Bool) : Res := ⟨[.v false [.b p]], []⟩
def T75_4 (p0 p1 : Row) (p2 : Bool) (p3 : Int) : List (Nat × Cel) := [(0, .v (.v false [.sh 9 p0])), (2, .v (.v false [.sh 9 p1])), (8, .v (.v false [.b p2])), (10, .v (.v false [.i .i64 p3]))]
def G75_4 {R : Type} (g : St -> Option R) (p0 p1 : Row) (p2 : Bool) (p3 : Int) : Option R := g (tabl (T75_4 p0 p1 p2 p3))
def K75_4_0 {R : Type} (K : Ex -> St -> Option R) (p0 p1 : Row) (p2 : Bool) (p3 : Int) : Option R := K .ret (tabl (T75_4 p0 p1 p2 p3))
def K75_4_1 {R : Type} (K : Ex -> St -> Option R) (p0 p1 : Row) (p2 : Bool) (p3 : Int) : Option R := K (.exit 0) (tabl (T75_4 p0 p1 p2 p3))
def H75 {R : Type} (N : Nat) (K : Ex -> St -> Option R) : List Leaf -> Option R
 | [.R x0, .R x1, .B x2, .I x3] => U75.l4 N (K75_4_0 K) (K75_4_1 K) N x0 x1 x2 x3
 | _ => none
def it75 (N : Nat) {R : Type} : It R := fun rid f cn L K => bif Nat.beq rid 4 then tell (T75_4 [] [] false 0) (H75 N K) L none else none
theorem e75_4 {R : Type} (N : Nat) (K : Ex -> St -> Option R) : ∀ n : Nat, G75_4 (fun s => iter (exc E75 (it75 N) (loopOf Tryz.f75 4)) (canon (E75.keep 4)) n s K) = U75.l4 N (K75_4_0 K) (K75_4_1 K) n := by
 intro n
 induction n with
 | zero => exact rfl
 | succ n ih =>
  funext x0 x1 x2 x3
  have h : ∀ g, exc E75 (it75 N) (loopOf Tryz.f75 4) (tabl (T75_4 x0 x1 x2 x3)) (iterK g (canon (E75.keep 4)) K) = U75.r4 N (G75_4 g) (K75_4_0 K) (K75_4_1 K) x0 x1 x2 x3 := by intro g; kernel_rfl
  show iter _ _ (n + 1) _ K = _
  refine (iter_succ _ _ n _ K).trans ((h _).trans ?_)
  rw [ih]; rfl
theorem lo75_4 {R : Type} (N : Nat) : LoopOk E75 (it75 N (R := R)) (loopOf Tryz.f75 4) := by
 refine lo_one 4 (by kernel_rfl) (S := T75_4 [] [] false 0) (H := H75 N) (fun _ _ => rfl) fun K xs r h => ?_
 unfold H75 at h
 split at h
 ·rw [<- e75_4 N K N] at h; exact ⟨N, h⟩
 ·cases h
def sp75 : List Arg -> Option (Bool × Res)
 | [.v false [.sh 9 a0], .v false [.sh 9 a1]] => some (U75.c a0 a1, k75 (U75.v a0 a1))
 | _ => none
theorem ok75 : FnOk Tryz.prog T 75 sp75 := by
 refine fn_loop (E := E75) hE call_nil hM Tryz.func75 (code := Tryz.f75.body.getD .skip) (by kernel_rfl) (by kernel_rfl) (itf := fun N => it75 N) (l := [loopOf Tryz.f75 4]) (by kernel_rfl) (fun N => loops_cons (lo75_4 N) loops_nil) fun args r h => ?_
 unfold sp75 at h
 split at h
 ·obtain ⟨h1, rfl⟩ := sj h
  rename_i a0 a1
  exact ⟨by kernel_rfl, fun hf => ⟨od (by kernel_rfl), (U75.b_eq (R := Res) (fun r0 => some (k75 r0)) a0 a1 h1).imp fun N hN => Eq.trans (by kernel_rfl) hN⟩⟩
 ·cases h

def E134 : Env := mkE T md [] [(4, [0, 1, 4, 5])] [] []
def k134 (p : Bool) : Res := ⟨[.v false [.b p]], []⟩
def T134_4 (p0 p1 : Row) (p2 : Bool) (p3 : Int) : List (Nat × Cel) := [(0, .v (.v false [.sh 3 p0])), (2, .v (.v false [.sh 3 p1])), (8, .v (.v false [.b p2])), (10, .v (.v false [.i .i64 p3]))]
def G134_4 {R : Type} (g : St -> Option R) (p0 p1 : Row) (p2 : Bool) (p3 : Int) : Option R := g (tabl (T134_4 p0 p1 p2 p3))
def K134_4_0 {R : Type} (K : Ex -> St -> Option R) (p0 p1 : Row) (p2 : Bool) (p3 : Int) : Option R := K .ret (tabl (T134_4 p0 p1 p2 p3))
def K134_4_1 {R : Type} (K : Ex -> St -> Option R) (p0 p1 : Row) (p2 : Bool) (p3 : Int) : Option R := K (.exit 0) (tabl (T134_4 p0 p1 p2 p3))
def H134 {R : Type} (N : Nat) (K : Ex -> St -> Option R) : List Leaf -> Option R
 | [.R x0, .R x1, .B x2, .I x3] => U134.l4 N (K134_4_0 K) (K134_4_1 K) N x0 x1 x2 x3
 | _ => none
def it134 (N : Nat) {R : Type} : It R := fun rid f cn L K => bif Nat.beq rid 4 then tell (T134_4 [] [] false 0) (H134 N K) L none else none
theorem e134_4 {R : Type} (N : Nat) (K : Ex -> St -> Option R) : ∀ n : Nat, G134_4 (fun s => iter (exc E134 (it134 N) (loopOf Tryz.f134 4)) (canon (E134.keep 4)) n s K) = U134.l4 N (K134_4_0 K) (K134_4_1 K) n := by
 intro n
 induction n with
 | zero => exact rfl
 | succ n ih =>
  funext x0 x1 x2 x3
  have h : ∀ g, exc E134 (it134 N) (loopOf Tryz.f134 4) (tabl (T134_4 x0 x1 x2 x3)) (iterK g (canon (E134.keep 4)) K) = U134.r4 N (G134_4 g) (K134_4_0 K) (K134_4_1 K) x0 x1 x2 x3 := by intro g; kernel_rfl
  show iter _ _ (n + 1) _ K = _
  refine (iter_succ _ _ n _ K).trans ((h _).trans ?_)
  rw [ih]; rfl
theorem lo134_4 {R : Type} (N : Nat) : LoopOk E134 (it134 N (R := R)) (loopOf Tryz.f134 4) := by
 refine lo_one 4 (by kernel_rfl) (S := T134_4 [] [] false 0) (H := H134 N) (fun _ _ => rfl) fun K xs r h => ?_
 unfold H134 at h
 split at h
 ·rw [<- e134_4 N K N] at h; exact ⟨N, h⟩
 ·cases h
def sp134 : List Arg -> Option (Bool × Res)
 | [.v false [.sh 3 a0], .v false [.sh 3 a1]] => some (true, k134 (U134.v a0 a1))
 | _ => none
theorem ok134 : FnOk Tryz.prog T 134 sp134 := by
 refine fn_loop (E := E134) hE call_nil hM Tryz.func134 (code := Tryz.f134.body.getD .skip) (by kernel_rfl) (by kernel_rfl) (itf := fun N => it134 N) (l := [loopOf Tryz.f134 4]) (by kernel_rfl) (fun N => loops_cons (lo134_4 N) loops_nil) fun args r h => ?_
 unfold sp134 at h
 split at h
 ·obtain ⟨h1, rfl⟩ := sj h
  rename_i a0 a1
  exact ⟨by kernel_rfl, fun hf => ⟨od (by kernel_rfl), (U134.b_eq (R := Res) (fun r0 => some (k134 r0)) a0 a1 hf.1.1 hf.2.1.1).imp fun N hN => Eq.trans (by kernel_rfl) hN⟩⟩
 ·cases h

def E110 : Env := mkE T md [(134, sp134)] [(4, [0, 1, 4, 5])] [] []
def k110 (p : Bool) : Res := ⟨[.v false [.b p]], []⟩
def T110_4 (p0 p1 : Row) (p2 : Bool) (p3 : Int) : List (Nat × Cel) := [(0, .v (.v false [.sh 144 p0])), (2, .v (.v false [.sh 144 p1])), (8, .v (.v false [.b p2])), (10, .v (.v false [.i .i64 p3]))]
def G110_4 {R : Type} (g : St -> Option R) (p0 p1 : Row) (p2 : Bool) (p3 : Int) : Option R := g (tabl (T110_4 p0 p1 p2 p3))
def K110_4_0 {R : Type} (K : Ex -> St -> Option R) (p0 p1 : Row) (p2 : Bool) (p3 : Int) : Option R := K .ret (tabl (T110_4 p0 p1 p2 p3))
def K110_4_1 {R : Type} (K : Ex -> St -> Option R) (p0 p1 : Row) (p2 : Bool) (p3 : Int) : Option R := K (.exit 0) (tabl (T110_4 p0 p1 p2 p3))
def H110 {R : Type} (N : Nat) (K : Ex -> St -> Option R) : List Leaf -> Option R
 | [.R x0, .R x1, .B x2, .I x3] => U110.l4 N (K110_4_0 K) (K110_4_1 K) N x0 x1 x2 x3
 | _ => none
def it110 (N : Nat) {R : Type} : It R := fun rid f cn L K => bif Nat.beq rid 4 then tell (T110_4 [] [] false 0) (H110 N K) L none else none
theorem e110_4 {R : Type} (N : Nat) (K : Ex -> St -> Option R) : ∀ n : Nat, G110_4 (fun s => iter (exc E110 (it110 N) (loopOf Tryz.f110 4)) (canon (E110.keep 4)) n s K) = U110.l4 N (K110_4_0 K) (K110_4_1 K) n := by
 intro n
 induction n with
 | zero => exact rfl
 | succ n ih =>
  funext x0 x1 x2 x3
  have h : ∀ g, exc E110 (it110 N) (loopOf Tryz.f110 4) (tabl (T110_4 x0 x1 x2 x3)) (iterK g (canon (E110.keep 4)) K) = U110.r4 N (G110_4 g) (K110_4_0 K) (K110_4_1 K) x0 x1 x2 x3 := by intro g; kernel_rfl
  show iter _ _ (n + 1) _ K = _
  refine (iter_succ _ _ n _ K).trans ((h _).trans ?_)
  rw [ih]; rfl
theorem lo110_4 {R : Type} (N : Nat) : LoopOk E110 (it110 N (R := R)) (loopOf Tryz.f110 4) := by
 refine lo_one 4 (by kernel_rfl) (S := T110_4 [] [] false 0) (H := H110 N) (fun _ _ => rfl) fun K xs r h => ?_
 unfold H110 at h
 split at h
 ·rw [<- e110_4 N K N] at h; exact ⟨N, h⟩
 ·cases h
def sp110 : List Arg -> Option (Bool × Res)
 | [.v false [.sh 144 a0], .v false [.sh 144 a1]] => some (U110.c a0 a1, k110 (U110.v a0 a1))
 | _ => none
theorem ok110 : FnOk Tryz.prog T 110 sp110 := by
 refine fn_loop (E := E110) hE (call_cons ok134 call_nil) hM Tryz.func110 (code := Tryz.f110.body.getD .skip) (by kernel_rfl) (by kernel_rfl) (itf := fun N => it110 N) (l := [loopOf Tryz.f110 4]) (by kernel_rfl) (fun N => loops_cons (lo110_4 N) loops_nil) fun args r h => ?_
 unfold sp110 at h
 split at h
 ·obtain ⟨h1, rfl⟩ := sj h
  rename_i a0 a1
  exact ⟨by kernel_rfl, fun hf => ⟨od (by kernel_rfl), (U110.b_eq (R := Res) (fun r0 => some (k110 r0)) a0 a1 h1).imp fun N hN => Eq.trans (by kernel_rfl) hN⟩⟩
 ·cases h

def E76 : Env := mkE T md [(110, sp110)] [] [] []
def k76 (p : Bool) : Res := ⟨[.v false [.b p]], []⟩
def sp76 : List Arg -> Option (Bool × Res)
 | [.v true [.sh 144 a0, .i .i64 a1], .v true [.sh 144 a2, .i .i64 a3]] => some (U76.c a0 a1 a2 a3, k76 (U76.v a0 a1 a2 a3))
 | _ => none
theorem ok76 : FnOk Tryz.prog T 76 sp76 := by
 refine fn_flat (E := E76) hE (call_cons ok110 call_nil) hM Tryz.func76 (code := Tryz.f76.body.getD .skip) (by kernel_rfl) (by kernel_rfl) (by kernel_rfl) fun args r h => ?_
 unfold sp76 at h
 split at h
 ·obtain ⟨h1, rfl⟩ := sj h
  rename_i a0 a1 a2 a3
  exact ⟨by kernel_rfl, fun hf => ⟨od (by kernel_rfl), Eq.trans (by kernel_rfl) (U76.b_eq (R := Res) (fun r0 => some (k76 r0)) a0 a1 a2 a3 h1)⟩⟩
 ·cases h

def E36 : Env := mkE T md [(75, sp75), (76, sp76)] [] [] []
def k36 (p : Bool) : Res := ⟨[.v false [.b p]], []⟩
def sp36 : List Arg -> Option (Bool × Res)
 | [.v true [.sh 9 a0, .sh 9 a1, .sh 144 a2, .i .i64 a3], .v true [.sh 9 a4, .sh 9 a5, .sh 144 a6, .i .i64 a7]] => some (U36.c a0 a1 a2 a3 a4 a5 a6 a7, k36 (U36.v a0 a1 a2 a3 a4 a5 a6 a7))
 | _ => none
theorem ok36 : FnOk Tryz.prog T 36 sp36 := by
 refine fn_flat (E := E36) hE (call_cons ok75 (call_cons ok76 call_nil)) hM Tryz.func36 (code := Tryz.f36.body.getD .skip) (by kernel_rfl) (by kernel_rfl) (by kernel_rfl) fun args r h => ?_
 unfold sp36 at h
 split at h
 ·obtain ⟨h1, rfl⟩ := sj h
  rename_i a0 a1 a2 a3 a4 a5 a6 a7
  exact ⟨by kernel_rfl, fun hf => ⟨od (by kernel_rfl), Eq.trans (by kernel_rfl) (U36.b_eq (R := Res) (fun r0 => some (k36 r0)) a0 a1 a2 a3 a4 a5 a6 a7 h1)⟩⟩
 ·cases h

def E77 : Env := mkE T md [] [] [] []
def k77 (p : Bool) : Res := ⟨[.v false [.b p]], []⟩
def sp77 : List Arg -> Option (Bool × Res)
 | [.v true [.s a0, .s a1, .i .i64 a2, .i .i64 a3, .i .i64 a4], .v true [.s a5, .s a6, .i .i64 a7, .i .i64 a8, .i .i64 a9]] => some (true, k77 (U77.v a0 a1 a2 a3 a4 a5 a6 a7 a8 a9))
 | _ => none
theorem ok77 : FnOk Tryz.prog T 77 sp77 := by
 refine fn_flat (E := E77) hE call_nil hM Tryz.func77 (code := Tryz.f77.body.getD .skip) (by kernel_rfl) (by kernel_rfl) (by kernel_rfl) fun args r h => ?_
 unfold sp77 at h
 split at h
 ·obtain ⟨h1, rfl⟩ := sj h
  rename_i a0 a1 a2 a3 a4 a5 a6 a7 a8 a9
  exact ⟨by kernel_rfl, fun hf => ⟨od (by kernel_rfl), Eq.trans (by kernel_rfl) (U77.b_eq (R := Res) (fun r0 => some (k77 r0)) a0 a1 a2 a3 a4 a5 a6 a7 a8 a9)⟩⟩
 ·cases h

def E37 : Env := mkE T md [(77, sp77)] [(4, [0, 1, 4, 5])] [] []
def k37 (p : Bool) : Res := ⟨[.v false [.b p]], []⟩
def T37_4 (p0 p1 : Row) (p2 : Bool) (p3 : Int) : List (Nat × Cel) := [(0, .v (.v false [.sh 64 p0])), (2, .v (.v false [.sh 64 p1])), (8, .v (.v false [.b p2])), (10, .v (.v false [.i .i64 p3]))]
def G37_4 {R : Type} (g : St -> Option R) (p0 p1 : Row) (p2 : Bool) (p3 : Int) : Option R := g (tabl (T37_4 p0 p1 p2 p3))
def K37_4_0 {R : Type} (K : Ex -> St -> Option R) (p0 p1 : Row) (p2 : Bool) (p3 : Int) : Option R := K .ret (tabl (T37_4 p0 p1 p2 p3))
def K37_4_1 {R : Type} (K : Ex -> St -> Option R) (p0 p1 : Row) (p2 : Bool) (p3 : Int) : Option R := K (.exit 0) (tabl (T37_4 p0 p1 p2 p3))
def H37 {R : Type} (N : Nat) (K : Ex -> St -> Option R) : List Leaf -> Option R
 | [.R x0, .R x1, .B x2, .I x3] => U37.l4 N (K37_4_0 K) (K37_4_1 K) N x0 x1 x2 x3
 | _ => none
def it37 (N : Nat) {R : Type} : It R := fun rid f cn L K => bif Nat.beq rid 4 then tell (T37_4 [] [] false 0) (H37 N K) L none else none
theorem e37_4 {R : Type} (N : Nat) (K : Ex -> St -> Option R) : ∀ n : Nat, G37_4 (fun s => iter (exc E37 (it37 N) (loopOf Tryz.f37 4)) (canon (E37.keep 4)) n s K) = U37.l4 N (K37_4_0 K) (K37_4_1 K) n := by
 intro n
 induction n with
 | zero => exact rfl
 | succ n ih =>
  funext x0 x1 x2 x3
  have h : ∀ g, exc E37 (it37 N) (loopOf Tryz.f37 4) (tabl (T37_4 x0 x1 x2 x3)) (iterK g (canon (E37.keep 4)) K) = U37.r4 N (G37_4 g) (K37_4_0 K) (K37_4_1 K) x0 x1 x2 x3 := by intro g; kernel_rfl
  show iter _ _ (n + 1) _ K = _
  refine (iter_succ _ _ n _ K).trans ((h _).trans ?_)
  rw [ih]; rfl
theorem lo37_4 {R : Type} (N : Nat) : LoopOk E37 (it37 N (R := R)) (loopOf Tryz.f37 4) := by
 refine lo_one 4 (by kernel_rfl) (S := T37_4 [] [] false 0) (H := H37 N) (fun _ _ => rfl) fun K xs r h => ?_
 unfold H37 at h
 split at h
 ·rw [<- e37_4 N K N] at h; exact ⟨N, h⟩
 ·cases h
def sp37 : List Arg -> Option (Bool × Res)
 | [.v false [.sh 64 a0], .v false [.sh 64 a1]] => some (U37.c a0 a1, k37 (U37.v a0 a1))
 | _ => none
theorem ok37 : FnOk Tryz.prog T 37 sp37 := by
 refine fn_loop (E := E37) hE (call_cons ok77 call_nil) hM Tryz.func37 (code := Tryz.f37.body.getD .skip) (by kernel_rfl) (by kernel_rfl) (itf := fun N => it37 N) (l := [loopOf Tryz.f37 4]) (by kernel_rfl) (fun N => loops_cons (lo37_4 N) loops_nil) fun args r h => ?_
 unfold sp37 at h
 split at h
 ·obtain ⟨h1, rfl⟩ := sj h
  rename_i a0 a1
  exact ⟨by kernel_rfl, fun hf => ⟨od (by kernel_rfl), (U37.b_eq (R := Res) (fun r0 => some (k37 r0)) a0 a1 h1).imp fun N hN => Eq.trans (by kernel_rfl) hN⟩⟩
 ·cases h

def E78 : Env := mkE T md [] [] [] []
def k78 (p : Bool) : Res := ⟨[.v false [.b p]], []⟩
def sp78 : List Arg -> Option (Bool × Res)
 | [.v true [.i .i64 a0, .s a1, .i .i64 a2, .i .i64 a3, .i .i64 a4, .s a5, .i .i64 a6], .v true [.i .i64 a7, .s a8, .i .i64 a9, .i .i64 a10, .i .i64 a11, .s a12, .i .i64 a13]] => some (true, k78 (U78.v a0 a1 a2 a3 a4 a5 a6 a7 a8 a9 a10 a11 a12 a13))
 | _ => none
theorem ok78 : FnOk Tryz.prog T 78 sp78 := by
 refine fn_flat (E := E78) hE call_nil hM Tryz.func78 (code := Tryz.f78.body.getD .skip) (by kernel_rfl) (by kernel_rfl) (by kernel_rfl) fun args r h => ?_
 unfold sp78 at h
 split at h
 ·obtain ⟨h1, rfl⟩ := sj h
  rename_i a0 a1 a2 a3 a4 a5 a6 a7 a8 a9 a10 a11 a12 a13
  exact ⟨by kernel_rfl, fun hf => ⟨od (by kernel_rfl), Eq.trans (by kernel_rfl) (U78.b_eq (R := Res) (fun r0 => some (k78 r0)) a0 a1 a2 a3 a4 a5 a6 a7 a8 a9 a10 a11 a12 a13)⟩⟩
 ·cases h

def E38 : Env := mkE T md [(78, sp78)] [(4, [0, 1, 4, 5])] [] []
def k38 (p : Bool) : Res := ⟨[.v false [.b p]], []⟩
def T38_4 (p0 p1 : Row) (p2 : Bool) (p3 : Int) : List (Nat × Cel) := [(0, .v (.v false [.sh 106 p0])), (2, .v (.v false [.sh 106 p1])), (8, .v (.v false [.b p2])), (10, .v (.v false [.i .i64 p3]))]
def G38_4 {R : Type} (g : St -> Option R) (p0 p1 : Row) (p2 : Bool) (p3 : Int) : Option R := g (tabl (T38_4 p0 p1 p2 p3))
def K38_4_0 {R : Type} (K : Ex -> St -> Option R) (p0 p1 : Row) (p2 : Bool) (p3 : Int) : Option R := K .ret (tabl (T38_4 p0 p1 p2 p3))
def K38_4_1 {R : Type} (K : Ex -> St -> Option R) (p0 p1 : Row) (p2 : Bool) (p3 : Int) : Option R := K (.exit 0) (tabl (T38_4 p0 p1 p2 p3))
def H38 {R : Type} (N : Nat) (K : Ex -> St -> Option R) : List Leaf -> Option R
 | [.R x0, .R x1, .B x2, .I x3] => U38.l4 N (K38_4_0 K) (K38_4_1 K) N x0 x1 x2 x3
 | _ => none
def it38 (N : Nat) {R : Type} : It R := fun rid f cn L K => bif Nat.beq rid 4 then tell (T38_4 [] [] false 0) (H38 N K) L none else none
theorem e38_4 {R : Type} (N : Nat) (K : Ex -> St -> Option R) : ∀ n : Nat, G38_4 (fun s => iter (exc E38 (it38 N) (loopOf Tryz.f38 4)) (canon (E38.keep 4)) n s K) = U38.l4 N (K38_4_0 K) (K38_4_1 K) n := by
 intro n
 induction n with
 | zero => exact rfl
 | succ n ih =>
  funext x0 x1 x2 x3
  have h : ∀ g, exc E38 (it38 N) (loopOf Tryz.f38 4) (tabl (T38_4 x0 x1 x2 x3)) (iterK g (canon (E38.keep 4)) K) = U38.r4 N (G38_4 g) (K38_4_0 K) (K38_4_1 K) x0 x1 x2 x3 := by intro g; kernel_rfl
  show iter _ _ (n + 1) _ K = _
  refine (iter_succ _ _ n _ K).trans ((h _).trans ?_)
  rw [ih]; rfl
theorem lo38_4 {R : Type} (N : Nat) : LoopOk E38 (it38 N (R := R)) (loopOf Tryz.f38 4) := by
 refine lo_one 4 (by kernel_rfl) (S := T38_4 [] [] false 0) (H := H38 N) (fun _ _ => rfl) fun K xs r h => ?_
 unfold H38 at h
 split at h
 ·rw [<- e38_4 N K N] at h; exact ⟨N, h⟩
 ·cases h
def sp38 : List Arg -> Option (Bool × Res)
 | [.v false [.sh 106 a0], .v false [.sh 106 a1]] => some (U38.c a0 a1, k38 (U38.v a0 a1))
 | _ => none
theorem ok38 : FnOk Tryz.prog T 38 sp38 := by
 refine fn_loop (E := E38) hE (call_cons ok78 call_nil) hM Tryz.func38 (code := Tryz.f38.body.getD .skip) (by kernel_rfl) (by kernel_rfl) (itf := fun N => it38 N) (l := [loopOf Tryz.f38 4]) (by kernel_rfl) (fun N => loops_cons (lo38_4 N) loops_nil) fun args r h => ?_
 unfold sp38 at h
 split at h
 ·obtain ⟨h1, rfl⟩ := sj h
  rename_i a0 a1
  exact ⟨by kernel_rfl, fun hf => ⟨od (by kernel_rfl), (U38.b_eq (R := Res) (fun r0 => some (k38 r0)) a0 a1 h1).imp fun N hN => Eq.trans (by kernel_rfl) hN⟩⟩
 ·cases h

def E11 : Env := mkE T md [(20, sp20), (36, sp36), (37, sp37), (38, sp38)] [] [] []
def k11 (p : Bool) : Res := ⟨[.v false [.b p]], []⟩
def sp11 : List Arg -> Option (Bool × Res)
 | [.v true [.i .i64 a0, .sh 88 a1, .sh 9 a2, .sh 9 a3, .sh 144 a4, .i .i64 a5, .sh 64 a6, .sh 106 a7, .i .i64 a8], .v true [.i .i64 a9, .sh 88 a10, .sh 9 a11, .sh 9 a12, .sh 144 a13, .i .i64 a14, .sh 64 a15, .sh 106 a16, .i .i64 a17]] => some (U11.c a0 a1 a2 a3 a4 a5 a6 a7 a8 a9 a10 a11 a12 a13 a14 a15 a16 a17, k11 (U11.v a0 a1 a2 a3 a4 a5 a6 a7 a8 a9 a10 a11 a12 a13 a14 a15 a16 a17))
 | _ => none
theorem ok11 : FnOk Tryz.prog T 11 sp11 := by
 refine fn_flat (E := E11) hE (call_cons ok20 (call_cons ok36 (call_cons ok37 (call_cons ok38 call_nil)))) hM Tryz.func11 (code := Tryz.f11.body.getD .skip) (by kernel_rfl) (by kernel_rfl) (by kernel_rfl) fun args r h => ?_
 unfold sp11 at h
 split at h
 ·obtain ⟨h1, rfl⟩ := sj h
  rename_i a0 a1 a2 a3 a4 a5 a6 a7 a8 a9 a10 a11 a12 a13 a14 a15 a16 a17
  exact ⟨by kernel_rfl, fun hf => ⟨od (by kernel_rfl), Eq.trans (by kernel_rfl) (U11.b_eq (R := Res) (fun r0 => some (k11 r0)) a0 a1 a2 a3 a4 a5 a6 a7 a8 a9 a10 a11 a12 a13 a14 a15 a16 a17 h1)⟩⟩
 ·cases h

def E59 : Env := mkE T md [] [(4, [0, 3])] [] []
def k59 (p : ByteArray) : Res := ⟨[.v false [.s p]], []⟩
def T59_4 (p0 : Int) (p1 : ByteArray) : List (Nat × Cel) := [(0, .v (.v false [.i .i64 p0])), (6, .v (.v false [.s p1]))]
def G59_4 {R : Type} (g : St -> Option R) (p0 : Int) (p1 : ByteArray) : Option R := g (tabl (T59_4 p0 p1))
def K59_4_0 {R : Type} (K : Ex -> St -> Option R) (p0 : Int) (p1 : ByteArray) : Option R := K (.exit 0) (tabl (T59_4 p0 p1))
def H59 {R : Type} (N : Nat) (K : Ex -> St -> Option R) : List Leaf -> Option R
 | [.I x0, .S x1] => U59.l4 N (K59_4_0 K) N x0 x1
 | _ => none
def it59 (N : Nat) {R : Type} : It R := fun rid f cn L K => bif Nat.beq rid 4 then tell (T59_4 0 ⟨#[]⟩) (H59 N K) L none else none
theorem e59_4 {R : Type} (N : Nat) (K : Ex -> St -> Option R) : ∀ n : Nat, G59_4 (fun s => iter (exc E59 (it59 N) (loopOf Tryz.f59 4)) (canon (E59.keep 4)) n s K) = U59.l4 N (K59_4_0 K) n := by
 intro n
 induction n with
 | zero => exact rfl
 | succ n ih =>
  funext x0 x1
  have h : ∀ g, exc E59 (it59 N) (loopOf Tryz.f59 4) (tabl (T59_4 x0 x1)) (iterK g (canon (E59.keep 4)) K) = U59.r4 N (G59_4 g) (K59_4_0 K) x0 x1 := by intro g; kernel_rfl
  show iter _ _ (n + 1) _ K = _
  refine (iter_succ _ _ n _ K).trans ((h _).trans ?_)
  rw [ih]; rfl
theorem lo59_4 {R : Type} (N : Nat) : LoopOk E59 (it59 N (R := R)) (loopOf Tryz.f59 4) := by
 refine lo_one 4 (by kernel_rfl) (S := T59_4 0 ⟨#[]⟩) (H := H59 N) (fun _ _ => rfl) fun K xs r h => ?_
 unfold H59 at h
 split at h
 ·rw [<- e59_4 N K N] at h; exact ⟨N, h⟩
 ·cases h
def sp59 : List Arg -> Option (Bool × Res)
 | [.v false [.i .i64 a0]] => some (U59.c a0, k59 (U59.v a0))
 | _ => none
theorem ok59 : FnOk Tryz.prog T 59 sp59 := by
 refine fn_loop (E := E59) hE call_nil hM Tryz.func59 (code := Tryz.f59.body.getD .skip) (by kernel_rfl) (by kernel_rfl) (itf := fun N => it59 N) (l := [loopOf Tryz.f59 4]) (by kernel_rfl) (fun N => loops_cons (lo59_4 N) loops_nil) fun args r h => ?_
 unfold sp59 at h
 split at h
 ·obtain ⟨h1, rfl⟩ := sj h
  rename_i a0
  exact ⟨by kernel_rfl, fun hf => ⟨od (by kernel_rfl), (U59.b_eq (R := Res) (fun r0 => some (k59 r0)) a0 h1).imp fun N hN => Eq.trans (by kernel_rfl) hN⟩⟩
 ·cases h

def E21 : Env := mkE T md [(59, sp59)] [(2, [0, 1, 5])] [] []
def k21 (p : Int × Row) : Res := ⟨[.v false [.i .i64 p.1]], [[.kp p.2]]⟩
def T21_2 (p0 p1 : Int) (p2 : Row) : List (Nat × Cel) := [(0, .v (.v false [.own 900000000])), (2, .v (.v false [.i .i64 p0])), (10, .v (.v false [.i .i64 p1])), (1800000001, .o (.row 88 true p2))]
def G21_2 {R : Type} (g : St -> Option R) (p0 p1 : Int) (p2 : Row) : Option R := g (tabl (T21_2 p0 p1 p2))
def K21_2_0 {R : Type} (K : Ex -> St -> Option R) (p0 p1 : Int) (p2 : Row) : Option R := K (.exit 0) (tabl (T21_2 p0 p1 p2))
def H21 {R : Type} (N : Nat) (K : Ex -> St -> Option R) : List Leaf -> Option R
 | [.I x0, .I x1, .R x2] => U21.l2 N (K21_2_0 K) N x0 x1 x2
 | _ => none
def it21 (N : Nat) {R : Type} : It R := fun rid f cn L K => bif Nat.beq rid 2 then tell (T21_2 0 0 []) (H21 N K) L none else none
theorem e21_2 {R : Type} (N : Nat) (K : Ex -> St -> Option R) : ∀ n : Nat, G21_2 (fun s => iter (exc E21 (it21 N) (loopOf Tryz.f21 2)) (canon (E21.keep 2)) n s K) = U21.l2 N (K21_2_0 K) n := by
 intro n
 induction n with
 | zero => exact rfl
 | succ n ih =>
  funext x0 x1 x2
  have h : ∀ g, exc E21 (it21 N) (loopOf Tryz.f21 2) (tabl (T21_2 x0 x1 x2)) (iterK g (canon (E21.keep 2)) K) = U21.r2 N (G21_2 g) (K21_2_0 K) x0 x1 x2 := by intro g; kernel_rfl
  show iter _ _ (n + 1) _ K = _
  refine (iter_succ _ _ n _ K).trans ((h _).trans ?_)
  rw [ih]; rfl
theorem lo21_2 {R : Type} (N : Nat) : LoopOk E21 (it21 N (R := R)) (loopOf Tryz.f21 2) := by
 refine lo_one 2 (by kernel_rfl) (S := T21_2 0 0 []) (H := H21 N) (fun _ _ => rfl) fun K xs r h => ?_
 unfold H21 at h
 split at h
 ·rw [<- e21_2 N K N] at h; exact ⟨N, h⟩
 ·cases h
def sp21 : List Arg -> Option (Bool × Res)
 | [.v false [.ow 88 true a0], .v false [.i .i64 a1]] => some (U21.c a0 a1, k21 (U21.v a0 a1))
 | _ => none
theorem ok21 : FnOk Tryz.prog T 21 sp21 := by
 refine fn_loop (E := E21) hE (call_cons ok59 call_nil) hM Tryz.func21 (code := Tryz.f21.body.getD .skip) (by kernel_rfl) (by kernel_rfl) (itf := fun N => it21 N) (l := [loopOf Tryz.f21 2]) (by kernel_rfl) (fun N => loops_cons (lo21_2 N) loops_nil) fun args r h => ?_
 unfold sp21 at h
 split at h
 ·obtain ⟨h1, rfl⟩ := sj h
  rename_i a0 a1
  exact ⟨by kernel_rfl, fun hf => ⟨od (by kernel_rfl), (U21.b_eq (R := Res) (fun r0 r1 => some (k21 (r0, r1))) a0 a1 h1).imp fun N hN => Eq.trans (by kernel_rfl) hN⟩⟩
 ·cases h

def E79 : Env := mkE T md [(59, sp59)] [(2, [0, 1, 5])] [] []
def k79 (p : Int × Row) : Res := ⟨[.v false [.i .i64 p.1]], [[.kp p.2]]⟩
def T79_2 (p0 p1 : Int) (p2 : Row) : List (Nat × Cel) := [(0, .v (.v false [.own 900000000])), (2, .v (.v false [.i .i64 p0])), (10, .v (.v false [.i .i64 p1])), (1800000001, .o (.row 9 true p2))]
def G79_2 {R : Type} (g : St -> Option R) (p0 p1 : Int) (p2 : Row) : Option R := g (tabl (T79_2 p0 p1 p2))
def K79_2_0 {R : Type} (K : Ex -> St -> Option R) (p0 p1 : Int) (p2 : Row) : Option R := K (.exit 0) (tabl (T79_2 p0 p1 p2))
def H79 {R : Type} (N : Nat) (K : Ex -> St -> Option R) : List Leaf -> Option R
 | [.I x0, .I x1, .R x2] => U79.l2 N (K79_2_0 K) N x0 x1 x2
 | _ => none
def it79 (N : Nat) {R : Type} : It R := fun rid f cn L K => bif Nat.beq rid 2 then tell (T79_2 0 0 []) (H79 N K) L none else none
theorem e79_2 {R : Type} (N : Nat) (K : Ex -> St -> Option R) : ∀ n : Nat, G79_2 (fun s => iter (exc E79 (it79 N) (loopOf Tryz.f79 2)) (canon (E79.keep 2)) n s K) = U79.l2 N (K79_2_0 K) n := by
 intro n
 induction n with
 | zero => exact rfl
 | succ n ih =>
  funext x0 x1 x2
  have h : ∀ g, exc E79 (it79 N) (loopOf Tryz.f79 2) (tabl (T79_2 x0 x1 x2)) (iterK g (canon (E79.keep 2)) K) = U79.r2 N (G79_2 g) (K79_2_0 K) x0 x1 x2 := by intro g; kernel_rfl
  show iter _ _ (n + 1) _ K = _
  refine (iter_succ _ _ n _ K).trans ((h _).trans ?_)
  rw [ih]; rfl
theorem lo79_2 {R : Type} (N : Nat) : LoopOk E79 (it79 N (R := R)) (loopOf Tryz.f79 2) := by
 refine lo_one 2 (by kernel_rfl) (S := T79_2 0 0 []) (H := H79 N) (fun _ _ => rfl) fun K xs r h => ?_
 unfold H79 at h
 split at h
 ·rw [<- e79_2 N K N] at h; exact ⟨N, h⟩
 ·cases h
def sp79 : List Arg -> Option (Bool × Res)
 | [.v false [.ow 9 true a0], .v false [.i .i64 a1]] => some (U79.c a0 a1, k79 (U79.v a0 a1))
 | _ => none
theorem ok79 : FnOk Tryz.prog T 79 sp79 := by
 refine fn_loop (E := E79) hE (call_cons ok59 call_nil) hM Tryz.func79 (code := Tryz.f79.body.getD .skip) (by kernel_rfl) (by kernel_rfl) (itf := fun N => it79 N) (l := [loopOf Tryz.f79 2]) (by kernel_rfl) (fun N => loops_cons (lo79_2 N) loops_nil) fun args r h => ?_
 unfold sp79 at h
 split at h
 ·obtain ⟨h1, rfl⟩ := sj h
  rename_i a0 a1
  exact ⟨by kernel_rfl, fun hf => ⟨od (by kernel_rfl), (U79.b_eq (R := Res) (fun r0 r1 => some (k79 (r0, r1))) a0 a1 h1).imp fun N hN => Eq.trans (by kernel_rfl) hN⟩⟩
 ·cases h

def E135 : Env := mkE T md [] [(2, [0, 1, 5])] [] []
def k135 (p : Int × Row) : Res := ⟨[.v false [.i .i64 p.1]], [[.kp p.2]]⟩
def T135_2 (p0 p1 : Int) (p2 : Row) : List (Nat × Cel) := [(0, .v (.v false [.own 900000000])), (2, .v (.v false [.i .i64 p0])), (10, .v (.v false [.i .i64 p1])), (1800000001, .o (.row 3 true p2))]
def G135_2 {R : Type} (g : St -> Option R) (p0 p1 : Int) (p2 : Row) : Option R := g (tabl (T135_2 p0 p1 p2))
def K135_2_0 {R : Type} (K : Ex -> St -> Option R) (p0 p1 : Int) (p2 : Row) : Option R := K (.exit 0) (tabl (T135_2 p0 p1 p2))
def H135 {R : Type} (N : Nat) (K : Ex -> St -> Option R) : List Leaf -> Option R
 | [.I x0, .I x1, .R x2] => U135.l2 N (K135_2_0 K) N x0 x1 x2
 | _ => none
def it135 (N : Nat) {R : Type} : It R := fun rid f cn L K => bif Nat.beq rid 2 then tell (T135_2 0 0 []) (H135 N K) L none else none
theorem e135_2 {R : Type} (N : Nat) (K : Ex -> St -> Option R) : ∀ n : Nat, G135_2 (fun s => iter (exc E135 (it135 N) (loopOf Tryz.f135 2)) (canon (E135.keep 2)) n s K) = U135.l2 N (K135_2_0 K) n := by
 intro n
 induction n with
 | zero => exact rfl
 | succ n ih =>
  funext x0 x1 x2
  have h : ∀ g, exc E135 (it135 N) (loopOf Tryz.f135 2) (tabl (T135_2 x0 x1 x2)) (iterK g (canon (E135.keep 2)) K) = U135.r2 N (G135_2 g) (K135_2_0 K) x0 x1 x2 := by intro g; kernel_rfl
  show iter _ _ (n + 1) _ K = _
  refine (iter_succ _ _ n _ K).trans ((h _).trans ?_)
  rw [ih]; rfl
theorem lo135_2 {R : Type} (N : Nat) : LoopOk E135 (it135 N (R := R)) (loopOf Tryz.f135 2) := by
 refine lo_one 2 (by kernel_rfl) (S := T135_2 0 0 []) (H := H135 N) (fun _ _ => rfl) fun K xs r h => ?_
 unfold H135 at h
 split at h
 ·rw [<- e135_2 N K N] at h; exact ⟨N, h⟩
 ·cases h
def sp135 : List Arg -> Option (Bool × Res)
 | [.v false [.ow 3 true a0], .v false [.i .i64 a1]] => some (U135.c a0 a1, k135 (U135.v a0 a1))
 | _ => none
theorem ok135 : FnOk Tryz.prog T 135 sp135 := by
 refine fn_loop (E := E135) hE call_nil hM Tryz.func135 (code := Tryz.f135.body.getD .skip) (by kernel_rfl) (by kernel_rfl) (itf := fun N => it135 N) (l := [loopOf Tryz.f135 2]) (by kernel_rfl) (fun N => loops_cons (lo135_2 N) loops_nil) fun args r h => ?_
 unfold sp135 at h
 split at h
 ·obtain ⟨h1, rfl⟩ := sj h
  rename_i a0 a1
  exact ⟨by kernel_rfl, fun hf => ⟨od (by kernel_rfl), (U135.b_eq (R := Res) (fun r0 r1 => some (k135 (r0, r1))) a0 a1 h1).imp fun N hN => Eq.trans (by kernel_rfl) hN⟩⟩
 ·cases h

def E111 : Env := mkE T md [(135, sp135)] [(2, [0, 1, 5])] [] []
def k111 (p : Int × Row) : Res := ⟨[.v false [.i .i64 p.1]], [[.kp p.2]]⟩
def T111_2 (p0 p1 : Int) (p2 : Row) : List (Nat × Cel) := [(0, .v (.v false [.own 900000000])), (2, .v (.v false [.i .i64 p0])), (10, .v (.v false [.i .i64 p1])), (1800000001, .o (.row 144 true p2))]
def G111_2 {R : Type} (g : St -> Option R) (p0 p1 : Int) (p2 : Row) : Option R := g (tabl (T111_2 p0 p1 p2))
def K111_2_0 {R : Type} (K : Ex -> St -> Option R) (p0 p1 : Int) (p2 : Row) : Option R := K (.exit 0) (tabl (T111_2 p0 p1 p2))
def H111 {R : Type} (N : Nat) (K : Ex -> St -> Option R) : List Leaf -> Option R
 | [.I x0, .I x1, .R x2] => U111.l2 N (K111_2_0 K) N x0 x1 x2
 | _ => none
def it111 (N : Nat) {R : Type} : It R := fun rid f cn L K => bif Nat.beq rid 2 then tell (T111_2 0 0 []) (H111 N K) L none else none
theorem e111_2 {R : Type} (N : Nat) (K : Ex -> St -> Option R) : ∀ n : Nat, G111_2 (fun s => iter (exc E111 (it111 N) (loopOf Tryz.f111 2)) (canon (E111.keep 2)) n s K) = U111.l2 N (K111_2_0 K) n := by
 intro n
 induction n with
 | zero => exact rfl
 | succ n ih =>
  funext x0 x1 x2
  have h : ∀ g, exc E111 (it111 N) (loopOf Tryz.f111 2) (tabl (T111_2 x0 x1 x2)) (iterK g (canon (E111.keep 2)) K) = U111.r2 N (G111_2 g) (K111_2_0 K) x0 x1 x2 := by intro g; kernel_rfl
  show iter _ _ (n + 1) _ K = _
  refine (iter_succ _ _ n _ K).trans ((h _).trans ?_)
  rw [ih]; rfl
theorem lo111_2 {R : Type} (N : Nat) : LoopOk E111 (it111 N (R := R)) (loopOf Tryz.f111 2) := by
 refine lo_one 2 (by kernel_rfl) (S := T111_2 0 0 []) (H := H111 N) (fun _ _ => rfl) fun K xs r h => ?_
 unfold H111 at h
 split at h
 ·rw [<- e111_2 N K N] at h; exact ⟨N, h⟩
 ·cases h
def sp111 : List Arg -> Option (Bool × Res)
 | [.v false [.ow 144 true a0], .v false [.i .i64 a1]] => some (U111.c a0 a1, k111 (U111.v a0 a1))
 | _ => none
theorem ok111 : FnOk Tryz.prog T 111 sp111 := by
 refine fn_loop (E := E111) hE (call_cons ok135 call_nil) hM Tryz.func111 (code := Tryz.f111.body.getD .skip) (by kernel_rfl) (by kernel_rfl) (itf := fun N => it111 N) (l := [loopOf Tryz.f111 2]) (by kernel_rfl) (fun N => loops_cons (lo111_2 N) loops_nil) fun args r h => ?_
 unfold sp111 at h
 split at h
 ·obtain ⟨h1, rfl⟩ := sj h
  rename_i a0 a1
  exact ⟨by kernel_rfl, fun hf => ⟨od (by kernel_rfl), (U111.b_eq (R := Res) (fun r0 r1 => some (k111 (r0, r1))) a0 a1 h1).imp fun N hN => Eq.trans (by kernel_rfl) hN⟩⟩
 ·cases h

def E80 : Env := mkE T md [(111, sp111)] [] [] []
def k80 (p : Int × Row) : Res := ⟨[.v false [.i .i64 p.1]], [[.kp p.2, .nl]]⟩
def sp80 : List Arg -> Option (Bool × Res)
 | [.v true [.ow 144 true a0, .i .i64 a1], .v false [.i .i64 a2]] => some (U80.c a0 a1 a2, k80 (U80.v a0 a1 a2))
 | _ => none
theorem ok80 : FnOk Tryz.prog T 80 sp80 := by
 refine fn_flat (E := E80) hE (call_cons ok111 call_nil) hM Tryz.func80 (code := Tryz.f80.body.getD .skip) (by kernel_rfl) (by kernel_rfl) (by kernel_rfl) fun args r h => ?_
 unfold sp80 at h
 split at h
 ·obtain ⟨h1, rfl⟩ := sj h
  rename_i a0 a1 a2
  exact ⟨by kernel_rfl, fun hf => ⟨od (by kernel_rfl), Eq.trans (by kernel_rfl) (U80.b_eq (R := Res) (fun r0 r1 => some (k80 (r0, r1))) a0 a1 a2 h1)⟩⟩
 ·cases h

def E39 : Env := mkE T md [(79, sp79), (80, sp80)] [] [] []
def k39 (p : Int × Row × Row × Row) : Res := ⟨[.v false [.i .i64 p.1]], [[.kp p.2.1, .kp p.2.2.1, .kp p.2.2.2, .nl]]⟩
def sp39 : List Arg -> Option (Bool × Res)
 | [.v true [.ow 9 true a0, .ow 9 true a1, .ow 144 true a2, .i .i64 a3], .v false [.i .i64 a4]] => some (U39.c a0 a1 a2 a3 a4, k39 (U39.v a0 a1 a2 a3 a4))
 | _ => none
theorem ok39 : FnOk Tryz.prog T 39 sp39 := by
 refine fn_flat (E := E39) hE (call_cons ok79 (call_cons ok80 call_nil)) hM Tryz.func39 (code := Tryz.f39.body.getD .skip) (by kernel_rfl) (by kernel_rfl) (by kernel_rfl) fun args r h => ?_
 unfold sp39 at h
 split at h
 ·obtain ⟨h1, rfl⟩ := sj h
  rename_i a0 a1 a2 a3 a4
  exact ⟨by kernel_rfl, fun hf => ⟨od (by kernel_rfl), Eq.trans (by kernel_rfl) (U39.b_eq (R := Res) (fun r0 r1 r2 r3 => some (k39 (r0, r1, r2, r3))) a0 a1 a2 a3 a4 h1)⟩⟩
 ·cases h

def E40 : Env := mkE T md [(59, sp59)] [(2, [0, 1, 5])] [] []
def k40 (p : Int × Row) : Res := ⟨[.v false [.i .i64 p.1]], [[.kp p.2]]⟩
def T40_2 (p0 p1 : Int) (p2 : Row) : List (Nat × Cel) := [(0, .v (.v false [.own 900000000])), (2, .v (.v false [.i .i64 p0])), (10, .v (.v false [.i .i64 p1])), (1800000001, .o (.row 64 true p2))]
def G40_2 {R : Type} (g : St -> Option R) (p0 p1 : Int) (p2 : Row) : Option R := g (tabl (T40_2 p0 p1 p2))
def K40_2_0 {R : Type} (K : Ex -> St -> Option R) (p0 p1 : Int) (p2 : Row) : Option R := K (.exit 0) (tabl (T40_2 p0 p1 p2))
def H40 {R : Type} (N : Nat) (K : Ex -> St -> Option R) : List Leaf -> Option R
 | [.I x0, .I x1, .R x2] => U40.l2 N (K40_2_0 K) N x0 x1 x2
 | _ => none
def it40 (N : Nat) {R : Type} : It R := fun rid f cn L K => bif Nat.beq rid 2 then tell (T40_2 0 0 []) (H40 N K) L none else none
theorem e40_2 {R : Type} (N : Nat) (K : Ex -> St -> Option R) : ∀ n : Nat, G40_2 (fun s => iter (exc E40 (it40 N) (loopOf Tryz.f40 2)) (canon (E40.keep 2)) n s K) = U40.l2 N (K40_2_0 K) n := by
 intro n
 induction n with
 | zero => exact rfl
 | succ n ih =>
  funext x0 x1 x2
  have h : ∀ g, exc E40 (it40 N) (loopOf Tryz.f40 2) (tabl (T40_2 x0 x1 x2)) (iterK g (canon (E40.keep 2)) K) = U40.r2 N (G40_2 g) (K40_2_0 K) x0 x1 x2 := by intro g; kernel_rfl
  show iter _ _ (n + 1) _ K = _
  refine (iter_succ _ _ n _ K).trans ((h _).trans ?_)
  rw [ih]; rfl
theorem lo40_2 {R : Type} (N : Nat) : LoopOk E40 (it40 N (R := R)) (loopOf Tryz.f40 2) := by
 refine lo_one 2 (by kernel_rfl) (S := T40_2 0 0 []) (H := H40 N) (fun _ _ => rfl) fun K xs r h => ?_
 unfold H40 at h
 split at h
 ·rw [<- e40_2 N K N] at h; exact ⟨N, h⟩
 ·cases h
def sp40 : List Arg -> Option (Bool × Res)
 | [.v false [.ow 64 true a0], .v false [.i .i64 a1]] => some (U40.c a0 a1, k40 (U40.v a0 a1))
 | _ => none
theorem ok40 : FnOk Tryz.prog T 40 sp40 := by
 refine fn_loop (E := E40) hE (call_cons ok59 call_nil) hM Tryz.func40 (code := Tryz.f40.body.getD .skip) (by kernel_rfl) (by kernel_rfl) (itf := fun N => it40 N) (l := [loopOf Tryz.f40 2]) (by kernel_rfl) (fun N => loops_cons (lo40_2 N) loops_nil) fun args r h => ?_
 unfold sp40 at h
 split at h
 ·obtain ⟨h1, rfl⟩ := sj h
  rename_i a0 a1
  exact ⟨by kernel_rfl, fun hf => ⟨od (by kernel_rfl), (U40.b_eq (R := Res) (fun r0 r1 => some (k40 (r0, r1))) a0 a1 h1).imp fun N hN => Eq.trans (by kernel_rfl) hN⟩⟩
 ·cases h

def E41 : Env := mkE T md [(59, sp59)] [(2, [0, 1, 5])] [] []
def k41 (p : Int × Row) : Res := ⟨[.v false [.i .i64 p.1]], [[.kp p.2]]⟩
def T41_2 (p0 p1 : Int) (p2 : Row) : List (Nat × Cel) := [(0, .v (.v false [.own 900000000])), (2, .v (.v false [.i .i64 p0])), (10, .v (.v false [.i .i64 p1])), (1800000001, .o (.row 106 true p2))]
def G41_2 {R : Type} (g : St -> Option R) (p0 p1 : Int) (p2 : Row) : Option R := g (tabl (T41_2 p0 p1 p2))
def K41_2_0 {R : Type} (K : Ex -> St -> Option R) (p0 p1 : Int) (p2 : Row) : Option R := K (.exit 0) (tabl (T41_2 p0 p1 p2))
def H41 {R : Type} (N : Nat) (K : Ex -> St -> Option R) : List Leaf -> Option R
 | [.I x0, .I x1, .R x2] => U41.l2 N (K41_2_0 K) N x0 x1 x2
 | _ => none
def it41 (N : Nat) {R : Type} : It R := fun rid f cn L K => bif Nat.beq rid 2 then tell (T41_2 0 0 []) (H41 N K) L none else none
theorem e41_2 {R : Type} (N : Nat) (K : Ex -> St -> Option R) : ∀ n : Nat, G41_2 (fun s => iter (exc E41 (it41 N) (loopOf Tryz.f41 2)) (canon (E41.keep 2)) n s K) = U41.l2 N (K41_2_0 K) n := by
 intro n
 induction n with
 | zero => exact rfl
 | succ n ih =>
  funext x0 x1 x2
  have h : ∀ g, exc E41 (it41 N) (loopOf Tryz.f41 2) (tabl (T41_2 x0 x1 x2)) (iterK g (canon (E41.keep 2)) K) = U41.r2 N (G41_2 g) (K41_2_0 K) x0 x1 x2 := by intro g; kernel_rfl
  show iter _ _ (n + 1) _ K = _
  refine (iter_succ _ _ n _ K).trans ((h _).trans ?_)
  rw [ih]; rfl
theorem lo41_2 {R : Type} (N : Nat) : LoopOk E41 (it41 N (R := R)) (loopOf Tryz.f41 2) := by
 refine lo_one 2 (by kernel_rfl) (S := T41_2 0 0 []) (H := H41 N) (fun _ _ => rfl) fun K xs r h => ?_
 unfold H41 at h
 split at h
 ·rw [<- e41_2 N K N] at h; exact ⟨N, h⟩
 ·cases h
def sp41 : List Arg -> Option (Bool × Res)
 | [.v false [.ow 106 true a0], .v false [.i .i64 a1]] => some (U41.c a0 a1, k41 (U41.v a0 a1))
 | _ => none
theorem ok41 : FnOk Tryz.prog T 41 sp41 := by
 refine fn_loop (E := E41) hE (call_cons ok59 call_nil) hM Tryz.func41 (code := Tryz.f41.body.getD .skip) (by kernel_rfl) (by kernel_rfl) (itf := fun N => it41 N) (l := [loopOf Tryz.f41 2]) (by kernel_rfl) (fun N => loops_cons (lo41_2 N) loops_nil) fun args r h => ?_
 unfold sp41 at h
 split at h
 ·obtain ⟨h1, rfl⟩ := sj h
  rename_i a0 a1
  exact ⟨by kernel_rfl, fun hf => ⟨od (by kernel_rfl), (U41.b_eq (R := Res) (fun r0 r1 => some (k41 (r0, r1))) a0 a1 h1).imp fun N hN => Eq.trans (by kernel_rfl) hN⟩⟩
 ·cases h

def E12 : Env := mkE T md [(21, sp21), (39, sp39), (40, sp40), (41, sp41)] [] [] []
def k12 (p : Int × Row × Row × Row × Row × Row × Row) : Res := ⟨[.v false [.i .i64 p.1]], [[.nl, .kp p.2.1, .kp p.2.2.1, .kp p.2.2.2.1, .kp p.2.2.2.2.1, .nl, .kp p.2.2.2.2.2.1, .kp p.2.2.2.2.2.2, .nl]]⟩
def sp12 : List Arg -> Option (Bool × Res)
 | [.v true [.i .i64 a0, .ow 88 true a1, .ow 9 true a2, .ow 9 true a3, .ow 144 true a4, .i .i64 a5, .ow 64 true a6, .ow 106 true a7, .i .i64 a8], .v false [.i .i64 a9]] => some (U12.c a0 a1 a2 a3 a4 a5 a6 a7 a8 a9, k12 (U12.v a0 a1 a2 a3 a4 a5 a6 a7 a8 a9))
 | _ => none
theorem ok12 : FnOk Tryz.prog T 12 sp12 := by
 refine fn_flat (E := E12) hE (call_cons ok21 (call_cons ok39 (call_cons ok40 (call_cons ok41 call_nil)))) hM Tryz.func12 (code := Tryz.f12.body.getD .skip) (by kernel_rfl) (by kernel_rfl) (by kernel_rfl) fun args r h => ?_
 unfold sp12 at h
 split at h
 ·obtain ⟨h1, rfl⟩ := sj h
  rename_i a0 a1 a2 a3 a4 a5 a6 a7 a8 a9
  exact ⟨by kernel_rfl, fun hf => ⟨od (by kernel_rfl), Eq.trans (by kernel_rfl) (U12.b_eq (R := Res) (fun r0 r1 r2 r3 r4 r5 r6 => some (k12 (r0, r1, r2, r3, r4, r5, r6))) a0 a1 a2 a3 a4 a5 a6 a7 a8 a9 h1)⟩⟩
 ·cases h

def E42 : Env := mkE T md [(59, sp59)] [(2, [0, 1, 4, 5])] [] []
def k42 (p : Int) : Res := ⟨[.v false [.i .i64 p]], []⟩
def T42_2 (p0 : Row) (p1 p2 p3 : Int) : List (Nat × Cel) := [(0, .v (.v false [.sh 88 p0])), (2, .v (.v false [.i .i64 p1])), (8, .v (.v false [.i .i64 p2])), (10, .v (.v false [.i .i64 p3]))]
def G42_2 {R : Type} (g : St -> Option R) (p0 : Row) (p1 p2 p3 : Int) : Option R := g (tabl (T42_2 p0 p1 p2 p3))
def K42_2_0 {R : Type} (K : Ex -> St -> Option R) (p0 : Row) (p1 p2 p3 : Int) : Option R := K .ret (tabl (T42_2 p0 p1 p2 p3))
def K42_2_1 {R : Type} (K : Ex -> St -> Option R) (p0 : Row) (p1 p2 p3 : Int) : Option R := K (.exit 0) (tabl (T42_2 p0 p1 p2 p3))
def H42 {R : Type} (N : Nat) (K : Ex -> St -> Option R) : List Leaf -> Option R
 | [.R x0, .I x1, .I x2, .I x3] => U42.l2 N (K42_2_0 K) (K42_2_1 K) N x0 x1 x2 x3
 | _ => none
def it42 (N : Nat) {R : Type} : It R := fun rid f cn L K => bif Nat.beq rid 2 then tell (T42_2 [] 0 0 0) (H42 N K) L none else none
theorem e42_2 {R : Type} (N : Nat) (K : Ex -> St -> Option R) : ∀ n : Nat, G42_2 (fun s => iter (exc E42 (it42 N) (loopOf Tryz.f42 2)) (canon (E42.keep 2)) n s K) = U42.l2 N (K42_2_0 K) (K42_2_1 K) n := by
 intro n
 induction n with
 | zero => exact rfl
 | succ n ih =>
  funext x0 x1 x2 x3
  have h : ∀ g, exc E42 (it42 N) (loopOf Tryz.f42 2) (tabl (T42_2 x0 x1 x2 x3)) (iterK g (canon (E42.keep 2)) K) = U42.r2 N (G42_2 g) (K42_2_0 K) (K42_2_1 K) x0 x1 x2 x3 := by intro g; kernel_rfl
  show iter _ _ (n + 1) _ K = _
  refine (iter_succ _ _ n _ K).trans ((h _).trans ?_)
  rw [ih]; rfl
theorem lo42_2 {R : Type} (N : Nat) : LoopOk E42 (it42 N (R := R)) (loopOf Tryz.f42 2) := by
 refine lo_one 2 (by kernel_rfl) (S := T42_2 [] 0 0 0) (H := H42 N) (fun _ _ => rfl) fun K xs r h => ?_
 unfold H42 at h
 split at h
 ·rw [<- e42_2 N K N] at h; exact ⟨N, h⟩
 ·cases h
def sp42 : List Arg -> Option (Bool × Res)
 | [.v false [.sh 88 a0], .v false [.i .i64 a1]] => some (U42.c a0 a1, k42 (U42.v a0 a1))
 | _ => none
theorem ok42 : FnOk Tryz.prog T 42 sp42 := by
 refine fn_loop (E := E42) hE (call_cons ok59 call_nil) hM Tryz.func42 (code := Tryz.f42.body.getD .skip) (by kernel_rfl) (by kernel_rfl) (itf := fun N => it42 N) (l := [loopOf Tryz.f42 2]) (by kernel_rfl) (fun N => loops_cons (lo42_2 N) loops_nil) fun args r h => ?_
 unfold sp42 at h
 split at h
 ·obtain ⟨h1, rfl⟩ := sj h
  rename_i a0 a1
  exact ⟨by kernel_rfl, fun hf => ⟨od (by kernel_rfl), (U42.b_eq (R := Res) (fun r0 => some (k42 r0)) a0 a1 h1).imp fun N hN => Eq.trans (by kernel_rfl) hN⟩⟩
 ·cases h

def E81 : Env := mkE T md [(59, sp59)] [(2, [0, 1, 4, 5])] [] []
def k81 (p : Int) : Res := ⟨[.v false [.i .i64 p]], []⟩
def T81_2 (p0 : Row) (p1 p2 p3 : Int) : List (Nat × Cel) := [(0, .v (.v false [.sh 9 p0])), (2, .v (.v false [.i .i64 p1])), (8, .v (.v false [.i .i64 p2])), (10, .v (.v false [.i .i64 p3]))]
def G81_2 {R : Type} (g : St -> Option R) (p0 : Row) (p1 p2 p3 : Int) : Option R := g (tabl (T81_2 p0 p1 p2 p3))
def K81_2_0 {R : Type} (K : Ex -> St -> Option R) (p0 : Row) (p1 p2 p3 : Int) : Option R := K .ret (tabl (T81_2 p0 p1 p2 p3))
def K81_2_1 {R : Type} (K : Ex -> St -> Option R) (p0 : Row) (p1 p2 p3 : Int) : Option R := K (.exit 0) (tabl (T81_2 p0 p1 p2 p3))
def H81 {R : Type} (N : Nat) (K : Ex -> St -> Option R) : List Leaf -> Option R
 | [.R x0, .I x1, .I x2, .I x3] => U81.l2 N (K81_2_0 K) (K81_2_1 K) N x0 x1 x2 x3
 | _ => none
def it81 (N : Nat) {R : Type} : It R := fun rid f cn L K => bif Nat.beq rid 2 then tell (T81_2 [] 0 0 0) (H81 N K) L none else none
theorem e81_2 {R : Type} (N : Nat) (K : Ex -> St -> Option R) : ∀ n : Nat, G81_2 (fun s => iter (exc E81 (it81 N) (loopOf Tryz.f81 2)) (canon (E81.keep 2)) n s K) = U81.l2 N (K81_2_0 K) (K81_2_1 K) n := by
 intro n
 induction n with
 | zero => exact rfl
 | succ n ih =>
  funext x0 x1 x2 x3
  have h : ∀ g, exc E81 (it81 N) (loopOf Tryz.f81 2) (tabl (T81_2 x0 x1 x2 x3)) (iterK g (canon (E81.keep 2)) K) = U81.r2 N (G81_2 g) (K81_2_0 K) (K81_2_1 K) x0 x1 x2 x3 := by intro g; kernel_rfl
  show iter _ _ (n + 1) _ K = _
  refine (iter_succ _ _ n _ K).trans ((h _).trans ?_)
  rw [ih]; rfl
theorem lo81_2 {R : Type} (N : Nat) : LoopOk E81 (it81 N (R := R)) (loopOf Tryz.f81 2) := by
 refine lo_one 2 (by kernel_rfl) (S := T81_2 [] 0 0 0) (H := H81 N) (fun _ _ => rfl) fun K xs r h => ?_
 unfold H81 at h
 split at h
 ·rw [<- e81_2 N K N] at h; exact ⟨N, h⟩
 ·cases h
def sp81 : List Arg -> Option (Bool × Res)
 | [.v false [.sh 9 a0], .v false [.i .i64 a1]] => some (U81.c a0 a1, k81 (U81.v a0 a1))
 | _ => none
theorem ok81 : FnOk Tryz.prog T 81 sp81 := by
 refine fn_loop (E := E81) hE (call_cons ok59 call_nil) hM Tryz.func81 (code := Tryz.f81.body.getD .skip) (by kernel_rfl) (by kernel_rfl) (itf := fun N => it81 N) (l := [loopOf Tryz.f81 2]) (by kernel_rfl) (fun N => loops_cons (lo81_2 N) loops_nil) fun args r h => ?_
 unfold sp81 at h
 split at h
 ·obtain ⟨h1, rfl⟩ := sj h
  rename_i a0 a1
  exact ⟨by kernel_rfl, fun hf => ⟨od (by kernel_rfl), (U81.b_eq (R := Res) (fun r0 => some (k81 r0)) a0 a1 h1).imp fun N hN => Eq.trans (by kernel_rfl) hN⟩⟩
 ·cases h

def E136 : Env := mkE T md [] [(2, [0, 1, 4, 5])] [] []
def k136 (p : Int) : Res := ⟨[.v false [.i .i64 p]], []⟩
def T136_2 (p0 : Row) (p1 p2 p3 : Int) : List (Nat × Cel) := [(0, .v (.v false [.sh 3 p0])), (2, .v (.v false [.i .i64 p1])), (8, .v (.v false [.i .i64 p2])), (10, .v (.v false [.i .i64 p3]))]
def G136_2 {R : Type} (g : St -> Option R) (p0 : Row) (p1 p2 p3 : Int) : Option R := g (tabl (T136_2 p0 p1 p2 p3))
def K136_2_0 {R : Type} (K : Ex -> St -> Option R) (p0 : Row) (p1 p2 p3 : Int) : Option R := K .ret (tabl (T136_2 p0 p1 p2 p3))
def K136_2_1 {R : Type} (K : Ex -> St -> Option R) (p0 : Row) (p1 p2 p3 : Int) : Option R := K (.exit 0) (tabl (T136_2 p0 p1 p2 p3))
def H136 {R : Type} (N : Nat) (K : Ex -> St -> Option R) : List Leaf -> Option R
 | [.R x0, .I x1, .I x2, .I x3] => U136.l2 N (K136_2_0 K) (K136_2_1 K) N x0 x1 x2 x3
 | _ => none
def it136 (N : Nat) {R : Type} : It R := fun rid f cn L K => bif Nat.beq rid 2 then tell (T136_2 [] 0 0 0) (H136 N K) L none else none
theorem e136_2 {R : Type} (N : Nat) (K : Ex -> St -> Option R) : ∀ n : Nat, G136_2 (fun s => iter (exc E136 (it136 N) (loopOf Tryz.f136 2)) (canon (E136.keep 2)) n s K) = U136.l2 N (K136_2_0 K) (K136_2_1 K) n := by
 intro n
 induction n with
 | zero => exact rfl
 | succ n ih =>
  funext x0 x1 x2 x3
  have h : ∀ g, exc E136 (it136 N) (loopOf Tryz.f136 2) (tabl (T136_2 x0 x1 x2 x3)) (iterK g (canon (E136.keep 2)) K) = U136.r2 N (G136_2 g) (K136_2_0 K) (K136_2_1 K) x0 x1 x2 x3 := by intro g; kernel_rfl
  show iter _ _ (n + 1) _ K = _
  refine (iter_succ _ _ n _ K).trans ((h _).trans ?_)
  rw [ih]; rfl
theorem lo136_2 {R : Type} (N : Nat) : LoopOk E136 (it136 N (R := R)) (loopOf Tryz.f136 2) := by
 refine lo_one 2 (by kernel_rfl) (S := T136_2 [] 0 0 0) (H := H136 N) (fun _ _ => rfl) fun K xs r h => ?_
 unfold H136 at h
 split at h
 ·rw [<- e136_2 N K N] at h; exact ⟨N, h⟩
 ·cases h
def sp136 : List Arg -> Option (Bool × Res)
 | [.v false [.sh 3 a0], .v false [.i .i64 a1]] => some (U136.c a0 a1, k136 (U136.v a0 a1))
 | _ => none
theorem ok136 : FnOk Tryz.prog T 136 sp136 := by
 refine fn_loop (E := E136) hE call_nil hM Tryz.func136 (code := Tryz.f136.body.getD .skip) (by kernel_rfl) (by kernel_rfl) (itf := fun N => it136 N) (l := [loopOf Tryz.f136 2]) (by kernel_rfl) (fun N => loops_cons (lo136_2 N) loops_nil) fun args r h => ?_
 unfold sp136 at h
 split at h
 ·obtain ⟨h1, rfl⟩ := sj h
  rename_i a0 a1
  exact ⟨by kernel_rfl, fun hf => ⟨od (by kernel_rfl), (U136.b_eq (R := Res) (fun r0 => some (k136 r0)) a0 a1 h1).imp fun N hN => Eq.trans (by kernel_rfl) hN⟩⟩
 ·cases h

def E112 : Env := mkE T md [(136, sp136)] [(2, [0, 1, 4, 5])] [] []
def k112 (p : Int) : Res := ⟨[.v false [.i .i64 p]], []⟩
def T112_2 (p0 : Row) (p1 p2 p3 : Int) : List (Nat × Cel) := [(0, .v (.v false [.sh 144 p0])), (2, .v (.v false [.i .i64 p1])), (8, .v (.v false [.i .i64 p2])), (10, .v (.v false [.i .i64 p3]))]
def G112_2 {R : Type} (g : St -> Option R) (p0 : Row) (p1 p2 p3 : Int) : Option R := g (tabl (T112_2 p0 p1 p2 p3))
def K112_2_0 {R : Type} (K : Ex -> St -> Option R) (p0 : Row) (p1 p2 p3 : Int) : Option R := K .ret (tabl (T112_2 p0 p1 p2 p3))
def K112_2_1 {R : Type} (K : Ex -> St -> Option R) (p0 : Row) (p1 p2 p3 : Int) : Option R := K (.exit 0) (tabl (T112_2 p0 p1 p2 p3))
def H112 {R : Type} (N : Nat) (K : Ex -> St -> Option R) : List Leaf -> Option R
 | [.R x0, .I x1, .I x2, .I x3] => U112.l2 N (K112_2_0 K) (K112_2_1 K) N x0 x1 x2 x3
 | _ => none
def it112 (N : Nat) {R : Type} : It R := fun rid f cn L K => bif Nat.beq rid 2 then tell (T112_2 [] 0 0 0) (H112 N K) L none else none
theorem e112_2 {R : Type} (N : Nat) (K : Ex -> St -> Option R) : ∀ n : Nat, G112_2 (fun s => iter (exc E112 (it112 N) (loopOf Tryz.f112 2)) (canon (E112.keep 2)) n s K) = U112.l2 N (K112_2_0 K) (K112_2_1 K) n := by
 intro n
 induction n with
 | zero => exact rfl
 | succ n ih =>
  funext x0 x1 x2 x3
  have h : ∀ g, exc E112 (it112 N) (loopOf Tryz.f112 2) (tabl (T112_2 x0 x1 x2 x3)) (iterK g (canon (E112.keep 2)) K) = U112.r2 N (G112_2 g) (K112_2_0 K) (K112_2_1 K) x0 x1 x2 x3 := by intro g; kernel_rfl
  show iter _ _ (n + 1) _ K = _
  refine (iter_succ _ _ n _ K).trans ((h _).trans ?_)
  rw [ih]; rfl
theorem lo112_2 {R : Type} (N : Nat) : LoopOk E112 (it112 N (R := R)) (loopOf Tryz.f112 2) := by
 refine lo_one 2 (by kernel_rfl) (S := T112_2 [] 0 0 0) (H := H112 N) (fun _ _ => rfl) fun K xs r h => ?_
 unfold H112 at h
 split at h
 ·rw [<- e112_2 N K N] at h; exact ⟨N, h⟩
 ·cases h
def sp112 : List Arg -> Option (Bool × Res)
 | [.v false [.sh 144 a0], .v false [.i .i64 a1]] => some (U112.c a0 a1, k112 (U112.v a0 a1))
 | _ => none
theorem ok112 : FnOk Tryz.prog T 112 sp112 := by
 refine fn_loop (E := E112) hE (call_cons ok136 call_nil) hM Tryz.func112 (code := Tryz.f112.body.getD .skip) (by kernel_rfl) (by kernel_rfl) (itf := fun N => it112 N) (l := [loopOf Tryz.f112 2]) (by kernel_rfl) (fun N => loops_cons (lo112_2 N) loops_nil) fun args r h => ?_
 unfold sp112 at h
 split at h
 ·obtain ⟨h1, rfl⟩ := sj h
  rename_i a0 a1
  exact ⟨by kernel_rfl, fun hf => ⟨od (by kernel_rfl), (U112.b_eq (R := Res) (fun r0 => some (k112 r0)) a0 a1 h1).imp fun N hN => Eq.trans (by kernel_rfl) hN⟩⟩
 ·cases h

def E82 : Env := mkE T md [(112, sp112)] [] [] []
def k82 (p : Int) : Res := ⟨[.v false [.i .i64 p]], []⟩
def sp82 : List Arg -> Option (Bool × Res)
 | [.v true [.sh 144 a0, .i .i64 a1], .v false [.i .i64 a2]] => some (U82.c a0 a1 a2, k82 (U82.v a0 a1 a2))
 | _ => none
theorem ok82 : FnOk Tryz.prog T 82 sp82 := by
 refine fn_flat (E := E82) hE (call_cons ok112 call_nil) hM Tryz.func82 (code := Tryz.f82.body.getD .skip) (by kernel_rfl) (by kernel_rfl) (by kernel_rfl) fun args r h => ?_
 unfold sp82 at h
 split at h
 ·obtain ⟨h1, rfl⟩ := sj h
  rename_i a0 a1 a2
  exact ⟨by kernel_rfl, fun hf => ⟨od (by kernel_rfl), Eq.trans (by kernel_rfl) (U82.b_eq (R := Res) (fun r0 => some (k82 r0)) a0 a1 a2 h1)⟩⟩
 ·cases h

def E43 : Env := mkE T md [(81, sp81), (82, sp82)] [] [] []
def k43 (p : Int) : Res := ⟨[.v false [.i .i64 p]], []⟩
def sp43 : List Arg -> Option (Bool × Res)
 | [.v true [.sh 9 a0, .sh 9 a1, .sh 144 a2, .i .i64 a3], .v false [.i .i64 a4]] => some (U43.c a0 a1 a2 a3 a4, k43 (U43.v a0 a1 a2 a3 a4))
 | _ => none
theorem ok43 : FnOk Tryz.prog T 43 sp43 := by
 refine fn_flat (E := E43) hE (call_cons ok81 (call_cons ok82 call_nil)) hM Tryz.func43 (code := Tryz.f43.body.getD .skip) (by kernel_rfl) (by kernel_rfl) (by kernel_rfl) fun args r h => ?_
 unfold sp43 at h
 split at h
 ·obtain ⟨h1, rfl⟩ := sj h
  rename_i a0 a1 a2 a3 a4
  exact ⟨by kernel_rfl, fun hf => ⟨od (by kernel_rfl), Eq.trans (by kernel_rfl) (U43.b_eq (R := Res) (fun r0 => some (k43 r0)) a0 a1 a2 a3 a4 h1)⟩⟩
 ·cases h

def E44 : Env := mkE T md [(59, sp59)] [(2, [0, 1, 4, 5])] [] []
def k44 (p : Int) : Res := ⟨[.v false [.i .i64 p]], []⟩
def T44_2 (p0 : Row) (p1 p2 p3 : Int) : List (Nat × Cel) := [(0, .v (.v false [.sh 64 p0])), (2, .v (.v false [.i .i64 p1])), (8, .v (.v false [.i .i64 p2])), (10, .v (.v false [.i .i64 p3]))]
def G44_2 {R : Type} (g : St -> Option R) (p0 : Row) (p1 p2 p3 : Int) : Option R := g (tabl (T44_2 p0 p1 p2 p3))
def K44_2_0 {R : Type} (K : Ex -> St -> Option R) (p0 : Row) (p1 p2 p3 : Int) : Option R := K .ret (tabl (T44_2 p0 p1 p2 p3))
def K44_2_1 {R : Type} (K : Ex -> St -> Option R) (p0 : Row) (p1 p2 p3 : Int) : Option R := K (.exit 0) (tabl (T44_2 p0 p1 p2 p3))
def H44 {R : Type} (N : Nat) (K : Ex -> St -> Option R) : List Leaf -> Option R
 | [.R x0, .I x1, .I x2, .I x3] => U44.l2 N (K44_2_0 K) (K44_2_1 K) N x0 x1 x2 x3
 | _ => none
def it44 (N : Nat) {R : Type} : It R := fun rid f cn L K => bif Nat.beq rid 2 then tell (T44_2 [] 0 0 0) (H44 N K) L none else none
theorem e44_2 {R : Type} (N : Nat) (K : Ex -> St -> Option R) : ∀ n : Nat, G44_2 (fun s => iter (exc E44 (it44 N) (loopOf Tryz.f44 2)) (canon (E44.keep 2)) n s K) = U44.l2 N (K44_2_0 K) (K44_2_1 K) n := by
 intro n
 induction n with
 | zero => exact rfl
 | succ n ih =>
  funext x0 x1 x2 x3
  have h : ∀ g, exc E44 (it44 N) (loopOf Tryz.f44 2) (tabl (T44_2 x0 x1 x2 x3)) (iterK g (canon (E44.keep 2)) K) = U44.r2 N (G44_2 g) (K44_2_0 K) (K44_2_1 K) x0 x1 x2 x3 := by intro g; kernel_rfl
  show iter _ _ (n + 1) _ K = _
  refine (iter_succ _ _ n _ K).trans ((h _).trans ?_)
  rw [ih]; rfl
theorem lo44_2 {R : Type} (N : Nat) : LoopOk E44 (it44 N (R := R)) (loopOf Tryz.f44 2) := by
 refine lo_one 2 (by kernel_rfl) (S := T44_2 [] 0 0 0) (H := H44 N) (fun _ _ => rfl) fun K xs r h => ?_
 unfold H44 at h
 split at h
 ·rw [<- e44_2 N K N] at h; exact ⟨N, h⟩
 ·cases h
def sp44 : List Arg -> Option (Bool × Res)
 | [.v false [.sh 64 a0], .v false [.i .i64 a1]] => some (U44.c a0 a1, k44 (U44.v a0 a1))
 | _ => none
theorem ok44 : FnOk Tryz.prog T 44 sp44 := by
 refine fn_loop (E := E44) hE (call_cons ok59 call_nil) hM Tryz.func44 (code := Tryz.f44.body.getD .skip) (by kernel_rfl) (by kernel_rfl) (itf := fun N => it44 N) (l := [loopOf Tryz.f44 2]) (by kernel_rfl) (fun N => loops_cons (lo44_2 N) loops_nil) fun args r h => ?_
 unfold sp44 at h
 split at h
 ·obtain ⟨h1, rfl⟩ := sj h
  rename_i a0 a1
  exact ⟨by kernel_rfl, fun hf => ⟨od (by kernel_rfl), (U44.b_eq (R := Res) (fun r0 => some (k44 r0)) a0 a1 h1).imp fun N hN => Eq.trans (by kernel_rfl) hN⟩⟩
 ·cases h

def E45 : Env := mkE T md [(59, sp59)] [(2, [0, 1, 4, 5])] [] []
def k45 (p : Int) : Res := ⟨[.v false [.i .i64 p]], []⟩
def T45_2 (p0 : Row) (p1 p2 p3 : Int) : List (Nat × Cel) := [(0, .v (.v false [.sh 106 p0])), (2, .v (.v false [.i .i64 p1])), (8, .v (.v false [.i .i64 p2])), (10, .v (.v false [.i .i64 p3]))]
def G45_2 {R : Type} (g : St -> Option R) (p0 : Row) (p1 p2 p3 : Int) : Option R := g (tabl (T45_2 p0 p1 p2 p3))
def K45_2_0 {R : Type} (K : Ex -> St -> Option R) (p0 : Row) (p1 p2 p3 : Int) : Option R := K .ret (tabl (T45_2 p0 p1 p2 p3))
def K45_2_1 {R : Type} (K : Ex -> St -> Option R) (p0 : Row) (p1 p2 p3 : Int) : Option R := K (.exit 0) (tabl (T45_2 p0 p1 p2 p3))
def H45 {R : Type} (N : Nat) (K : Ex -> St -> Option R) : List Leaf -> Option R
 | [.R x0, .I x1, .I x2, .I x3] => U45.l2 N (K45_2_0 K) (K45_2_1 K) N x0 x1 x2 x3
 | _ => none
def it45 (N : Nat) {R : Type} : It R := fun rid f cn L K => bif Nat.beq rid 2 then tell (T45_2 [] 0 0 0) (H45 N K) L none else none
theorem e45_2 {R : Type} (N : Nat) (K : Ex -> St -> Option R) : ∀ n : Nat, G45_2 (fun s => iter (exc E45 (it45 N) (loopOf Tryz.f45 2)) (canon (E45.keep 2)) n s K) = U45.l2 N (K45_2_0 K) (K45_2_1 K) n := by
 intro n
 induction n with
 | zero => exact rfl
 | succ n ih =>
  funext x0 x1 x2 x3
  have h : ∀ g, exc E45 (it45 N) (loopOf Tryz.f45 2) (tabl (T45_2 x0 x1 x2 x3)) (iterK g (canon (E45.keep 2)) K) = U45.r2 N (G45_2 g) (K45_2_0 K) (K45_2_1 K) x0 x1 x2 x3 := by intro g; kernel_rfl
  show iter _ _ (n + 1) _ K = _
  refine (iter_succ _ _ n _ K).trans ((h _).trans ?_)
  rw [ih]; rfl
theorem lo45_2 {R : Type} (N : Nat) : LoopOk E45 (it45 N (R := R)) (loopOf Tryz.f45 2) := by
 refine lo_one 2 (by kernel_rfl) (S := T45_2 [] 0 0 0) (H := H45 N) (fun _ _ => rfl) fun K xs r h => ?_
 unfold H45 at h
 split at h
 ·rw [<- e45_2 N K N] at h; exact ⟨N, h⟩
 ·cases h
def sp45 : List Arg -> Option (Bool × Res)
 | [.v false [.sh 106 a0], .v false [.i .i64 a1]] => some (U45.c a0 a1, k45 (U45.v a0 a1))
 | _ => none
theorem ok45 : FnOk Tryz.prog T 45 sp45 := by
 refine fn_loop (E := E45) hE (call_cons ok59 call_nil) hM Tryz.func45 (code := Tryz.f45.body.getD .skip) (by kernel_rfl) (by kernel_rfl) (itf := fun N => it45 N) (l := [loopOf Tryz.f45 2]) (by kernel_rfl) (fun N => loops_cons (lo45_2 N) loops_nil) fun args r h => ?_
 unfold sp45 at h
 split at h
 ·obtain ⟨h1, rfl⟩ := sj h
  rename_i a0 a1
  exact ⟨by kernel_rfl, fun hf => ⟨od (by kernel_rfl), (U45.b_eq (R := Res) (fun r0 => some (k45 r0)) a0 a1 h1).imp fun N hN => Eq.trans (by kernel_rfl) hN⟩⟩
 ·cases h

def E13 : Env := mkE T md [(42, sp42), (43, sp43), (44, sp44), (45, sp45)] [] [] []
def k13 (p : Int) : Res := ⟨[.v false [.i .i64 p]], []⟩
def sp13 : List Arg -> Option (Bool × Res)
 | [.v true [.i .i64 a0, .sh 88 a1, .sh 9 a2, .sh 9 a3, .sh 144 a4, .i .i64 a5, .sh 64 a6, .sh 106 a7, .i .i64 a8], .v false [.i .i64 a9]] => some (U13.c a0 a1 a2 a3 a4 a5 a6 a7 a8 a9, k13 (U13.v a0 a1 a2 a3 a4 a5 a6 a7 a8 a9))
 | _ => none
theorem ok13 : FnOk Tryz.prog T 13 sp13 := by
 refine fn_flat (E := E13) hE (call_cons ok42 (call_cons ok43 (call_cons ok44 (call_cons ok45 call_nil)))) hM Tryz.func13 (code := Tryz.f13.body.getD .skip) (by kernel_rfl) (by kernel_rfl) (by kernel_rfl) fun args r h => ?_
 unfold sp13 at h
 split at h
 ·obtain ⟨h1, rfl⟩ := sj h
  rename_i a0 a1 a2 a3 a4 a5 a6 a7 a8 a9
  exact ⟨by kernel_rfl, fun hf => ⟨od (by kernel_rfl), Eq.trans (by kernel_rfl) (U13.b_eq (R := Res) (fun r0 => some (k13 r0)) a0 a1 a2 a3 a4 a5 a6 a7 a8 a9 h1)⟩⟩
 ·cases h

def E5 : Env := mkE T md [(16, sp16), (18, sp18), (17, sp17), (19, sp19), (11, sp11), (20, sp20), (21, sp21), (12, sp12), (13, sp13)] [] [] []
def k5 (p : Bool) : Res := ⟨[.v false [.b p]], []⟩
def sp5 : List Arg -> Option (Bool × Res)
 | [.v false [.i .i64 a0], .v false [.sh 85 a1]] => some (U5.c a0 a1, k5 (U5.v a0 a1))
 | _ => none
theorem ok5 : FnOk Tryz.prog T 5 sp5 := by
 refine fn_flat (E := E5) hE (call_cons ok16 (call_cons ok18 (call_cons ok17 (call_cons ok19 (call_cons ok11 (call_cons ok20 (call_cons ok21 (call_cons ok12 (call_cons ok13 call_nil))))))))) hM Tryz.func5 (code := Tryz.f5.body.getD .skip) (by kernel_rfl) (by kernel_rfl) (by kernel_rfl) fun args r h => ?_
 unfold sp5 at h
 split at h
 ·obtain ⟨h1, rfl⟩ := sj h
  rename_i a0 a1
  exact ⟨by kernel_rfl, fun hf => ⟨od (by kernel_rfl), Eq.trans (by kernel_rfl) (U5.b_eq (R := Res) (fun r0 => some (k5 r0)) a0 a1 h1)⟩⟩
 ·cases h

def E102 : Env := mkE T md [(51, sp51), (91, sp91), (114, sp114)] [(2, [1, 2, 3])] [] []
def k102 (p : Bool) : Res := ⟨[.v false [.b p]], []⟩
def T102_2 (p0 : Bool) (p1 p2 : Int) (p3 p4 p5 p6 : Row) (p7 : Int) (p8 p9 : Row) (p10 : Int) : List (Nat × Cel) := [(2, .v (.v false [.bp 0 0])), (4, .v (.v false [.b p0])), (6, .v (.v false [.i .i64 p1])), (1, .o (.box [.i .i64 p2, .sh 88 p3, .sh 9 p4, .sh 9 p5, .sh 144 p6, .i .i64 p7, .sh 64 p8, .sh 106 p9, .i .i64 p10]))]
def G102_2 {R : Type} (g : St -> Option R) (p0 : Bool) (p1 p2 : Int) (p3 p4 p5 p6 : Row) (p7 : Int) (p8 p9 : Row) (p10 : Int) : Option R := g (tabl (T102_2 p0 p1 p2 p3 p4 p5 p6 p7 p8 p9 p10))
def K102_2_0 {R : Type} (K : Ex -> St -> Option R) (p0 : Bool) (p1 p2 : Int) (p3 p4 p5 p6 : Row) (p7 : Int) (p8 p9 : Row) (p10 : Int) : Option R := K .ret (tabl (T102_2 p0 p1 p2 p3 p4 p5 p6 p7 p8 p9 p10))
def K102_2_1 {R : Type} (K : Ex -> St -> Option R) (p0 : Bool) (p1 p2 : Int) (p3 p4 p5 p6 : Row) (p7 : Int) (p8 p9 : Row) (p10 : Int) : Option R := K (.exit 0) (tabl (T102_2 p0 p1 p2 p3 p4 p5 p6 p7 p8 p9 p10))
def H102 {R : Type} (N : Nat) (K : Ex -> St -> Option R) : List Leaf -> Option R
 | [.B x0, .I x1, .I x2, .R x3, .R x4, .R x5, .R x6, .I x7, .R x8, .R x9, .I x10] => U102.l2 N (K102_2_0 K) (K102_2_1 K) N x0 x1 x2 x3 x4 x5 x6 x7 x8 x9 x10
 | _ => none
def it102 (N : Nat) {R : Type} : It R := fun rid f cn L K => bif Nat.beq rid 2 then tell (T102_2 false 0 0 [] [] [] [] 0 [] [] 0) (H102 N K) L none else none
def sp102 : List Arg -> Option (Bool × Res)
 | [.v true [.i .i64 a0, .sh 88 a1, .sh 9 a2, .sh 9 a3, .sh 144 a4, .i .i64 a5, .sh 64 a6, .sh 106 a7, .i .i64 a8]] => some (U102.c a0 a1 a2 a3 a4 a5 a6 a7 a8, k102 (U102.v a0 a1 a2 a3 a4 a5 a6 a7 a8))
 | _ => none

def E103 : Env := mkE T md [(88, sp88), (60, sp60)] [(5, [1, 2, 4, 5, 6])] [] []
def k103 (p : Bool) : Res := ⟨[.v false [.b p]], []⟩
def T103_5 (p0 : Int) (p1 : Bool) (p2 p3 : Int) (p4 p5 p6 p7 : Row) (p8 : Int) (p9 p10 : Row) (p11 : Int) (p12 p13 : ByteArray) (p14 p15 p16 : Int) : List (Nat × Cel) := [(2, .v (.v false [.i .i64 p0])), (4, .v (.v false [.bp 0 0])), (8, .v (.v false [.b p1])), (10, .v (.v false [.bp 1 0])), (12, .v (.v false [.i .i64 p2])), (1, .o (.box [.i .i64 p3, .sh 88 p4, .sh 9 p5, .sh 9 p6, .sh 144 p7, .i .i64 p8, .sh 64 p9, .sh 106 p10, .i .i64 p11])), (3, .o (.box [.s p12, .s p13, .i .i64 p14, .i .i64 p15, .i .i64 p16]))]
def G103_5 {R : Type} (g : St -> Option R) (p0 : Int) (p1 : Bool) (p2 p3 : Int) (p4 p5 p6 p7 : Row) (p8 : Int) (p9 p10 : Row) (p11 : Int) (p12 p13 : ByteArray) (p14 p15 p16 : Int) : Option R := g (tabl (T103_5 p0 p1 p2 p3 p4 p5 p6 p7 p8 p9 p10 p11 p12 p13 p14 p15 p16))
def K103_5_0 {R : Type} (K : Ex -> St -> Option R) (p0 : Int) (p1 : Bool) (p2 p3 : Int) (p4 p5 p6 p7 : Row) (p8 : Int) (p9 p10 : Row) (p11 : Int) (p12 p13 : ByteArray) (p14 p15 p16 : Int) : Option R := K .ret (tabl (T103_5 p0 p1 p2 p3 p4 p5 p6 p7 p8 p9 p10 p11 p12 p13 p14 p15 p16))
def K103_5_1 {R : Type} (K : Ex -> St -> Option R) (p0 : Int) (p1 : Bool) (p2 p3 : Int) (p4 p5 p6 p7 : Row) (p8 : Int) (p9 p10 : Row) (p11 : Int) (p12 p13 : ByteArray) (p14 p15 p16 : Int) : Option R := K (.exit 0) (tabl (T103_5 p0 p1 p2 p3 p4 p5 p6 p7 p8 p9 p10 p11 p12 p13 p14 p15 p16))
def H103 {R : Type} (N : Nat) (K : Ex -> St -> Option R) : List Leaf -> Option R
 | [.I x0, .B x1, .I x2, .I x3, .R x4, .R x5, .R x6, .R x7, .I x8, .R x9, .R x10, .I x11, .S x12, .S x13, .I x14, .I x15, .I x16] => U103.l5 N (K103_5_0 K) (K103_5_1 K) N x0 x1 x2 x3 x4 x5 x6 x7 x8 x9 x10 x11 x12 x13 x14 x15 x16
 | _ => none
def it103 (N : Nat) {R : Type} : It R := fun rid f cn L K => bif Nat.beq rid 5 then tell (T103_5 0 false 0 0 [] [] [] [] 0 [] [] 0 ⟨#[]⟩ ⟨#[]⟩ 0 0 0) (H103 N K) L none else none
def sp103 : List Arg -> Option (Bool × Res)
 | [.v true [.i .i64 a0, .sh 88 a1, .sh 9 a2, .sh 9 a3, .sh 144 a4, .i .i64 a5, .sh 64 a6, .sh 106 a7, .i .i64 a8], .v false [.i .i64 a9]] => some (U103.c a0 a1 a2 a3 a4 a5 a6 a7 a8 a9, k103 (U103.v a0 a1 a2 a3 a4 a5 a6 a7 a8 a9))
 | _ => none

def E67 : Env := mkE T md [(60, sp60), (102, sp102), (103, sp103), (88, sp88)] [(4, [1, 2, 3]), (9, [1, 2, 4])] [] []
def k67 (p : Bool) : Res := ⟨[.v false [.b p]], []⟩
def T67_4 (p0 : Bool) (p1 p2 : Int) (p3 p4 p5 p6 : Row) (p7 : Int) (p8 p9 : Row) (p10 : Int) : List (Nat × Cel) := [(2, .v (.v false [.bp 0 0])), (4, .v (.v false [.b p0])), (6, .v (.v false [.i .i64 p1])), (1, .o (.box [.i .i64 p2, .sh 88 p3, .sh 9 p4, .sh 9 p5, .sh 144 p6, .i .i64 p7, .sh 64 p8, .sh 106 p9, .i .i64 p10]))]
def G67_4 {R : Type} (g : St -> Option R) (p0 : Bool) (p1 p2 : Int) (p3 p4 p5 p6 : Row) (p7 : Int) (p8 p9 : Row) (p10 : Int) : Option R := g (tabl (T67_4 p0 p1 p2 p3 p4 p5 p6 p7 p8 p9 p10))
def K67_4_0 {R : Type} (K : Ex -> St -> Option R) (p0 : Bool) (p1 p2 : Int) (p3 p4 p5 p6 : Row) (p7 : Int) (p8 p9 : Row) (p10 : Int) : Option R := K .ret (tabl (T67_4 p0 p1 p2 p3 p4 p5 p6 p7 p8 p9 p10))
def K67_4_1 {R : Type} (K : Ex -> St -> Option R) (p0 : Bool) (p1 p2 : Int) (p3 p4 p5 p6 : Row) (p7 : Int) (p8 p9 : Row) (p10 : Int) : Option R := K (.exit 0) (tabl (T67_4 p0 p1 p2 p3 p4 p5 p6 p7 p8 p9 p10))
def T67_9 (p0 : Bool) (p1 p2 : Int) (p3 p4 p5 p6 : Row) (p7 : Int) (p8 p9 : Row) (p10 : Int) : List (Nat × Cel) := [(2, .v (.v false [.bp 0 0])), (4, .v (.v false [.b p0])), (8, .v (.v false [.i .i64 p1])), (1, .o (.box [.i .i64 p2, .sh 88 p3, .sh 9 p4, .sh 9 p5, .sh 144 p6, .i .i64 p7, .sh 64 p8, .sh 106 p9, .i .i64 p10]))]
def G67_9 {R : Type} (g : St -> Option R) (p0 : Bool) (p1 p2 : Int) (p3 p4 p5 p6 : Row) (p7 : Int) (p8 p9 : Row) (p10 : Int) : Option R := g (tabl (T67_9 p0 p1 p2 p3 p4 p5 p6 p7 p8 p9 p10))
def K67_9_0 {R : Type} (K : Ex -> St -> Option R) (p0 : Bool) (p1 p2 : Int) (p3 p4 p5 p6 : Row) (p7 : Int) (p8 p9 : Row) (p10 : Int) : Option R := K .ret (tabl (T67_9 p0 p1 p2 p3 p4 p5 p6 p7 p8 p9 p10))
def K67_9_1 {R : Type} (K : Ex -> St -> Option R) (p0 : Bool) (p1 p2 : Int) (p3 p4 p5 p6 : Row) (p7 : Int) (p8 p9 : Row) (p10 : Int) : Option R := K (.exit 2) (tabl (T67_9 p0 p1 p2 p3 p4 p5 p6 p7 p8 p9 p10))
def it67 (N : Nat) {R : Type} : It R := fun rid f cn L K => bif Nat.beq rid 4 then tell (T67_4 false 0 0 [] [] [] [] 0 [] [] 0) (fun | [.B x0, .I x1, .I x2, .R x3, .R x4, .R x5, .R x6, .I x7, .R x8, .R x9, .I x10] => U67.l4 N (K67_4_0 K) (K67_4_1 K) N x0 x1 x2 x3 x4 x5 x6 x7 x8 x9 x10 | _ => none) L none else bif Nat.beq rid 9 then tell (T67_9 false 0 0 [] [] [] [] 0 [] [] 0) (fun | [.B x33, .I x34, .I x35, .R x36, .R x37, .R x38, .R x39, .I x40, .R x41, .R x42, .I x43] => U67.l9 N (K67_9_0 K) (K67_9_1 K) N x33 x34 x35 x36 x37 x38 x39 x40 x41 x42 x43 | _ => none) L none else none
def sp67 : List Arg -> Option (Bool × Res)
 | [.v true [.i .i64 a0, .sh 88 a1, .sh 9 a2, .sh 9 a3, .sh 144 a4, .i .i64 a5, .sh 64 a6, .sh 106 a7, .i .i64 a8]] => some (U67.c a0 a1 a2 a3 a4 a5 a6 a7 a8, k67 (U67.v a0 a1 a2 a3 a4 a5 a6 a7 a8))
 | _ => none

def E68 : Env := mkE T md [] [(3, [0, 3, 4])] [] []
def k68 (p : Row) : Res := ⟨[.v false [.ow 9 true p]], []⟩
def T68_3 (p0 : Row) (p1 : Int) (p2 : Row) : List (Nat × Cel) := [(0, .v (.v false [.sh 9 p0])), (6, .v (.v false [.own 0])), (8, .v (.v false [.i .i64 p1])), (1, .o (.row 9 true p2))]
def G68_3 {R : Type} (g : St -> Option R) (p0 : Row) (p1 : Int) (p2 : Row) : Option R := g (tabl (T68_3 p0 p1 p2))
def K68_3_0 {R : Type} (K : Ex -> St -> Option R) (p0 : Row) (p1 : Int) (p2 : Row) : Option R := K (.exit 0) (tabl (T68_3 p0 p1 p2))
def H68 {R : Type} (N : Nat) (K : Ex -> St -> Option R) : List Leaf -> Option R
 | [.R x0, .I x1, .R x2] => U68.l3 N (K68_3_0 K) N x0 x1 x2
 | _ => none
def it68 (N : Nat) {R : Type} : It R := fun rid f cn L K => bif Nat.beq rid 3 then tell (T68_3 [] 0 []) (H68 N K) L none else none
def sp68 : List Arg -> Option (Bool × Res)
 | [.v false [.sh 9 a0]] => some (U68.c a0, k68 (U68.v a0))
 | _ => none

def E131 : Env := mkE T md [] [(3, [0, 3, 4])] [] []
def k131 (p : Row) : Res := ⟨[.v false [.ow 3 true p]], []⟩
def T131_3 (p0 : Row) (p1 : Int) (p2 : Row) : List (Nat × Cel) := [(0, .v (.v false [.sh 3 p0])), (6, .v (.v false [.own 0])), (8, .v (.v false [.i .i64 p1])), (1, .o (.row 3 true p2))]
def G131_3 {R : Type} (g : St -> Option R) (p0 : Row) (p1 : Int) (p2 : Row) : Option R := g (tabl (T131_3 p0 p1 p2))
def K131_3_0 {R : Type} (K : Ex -> St -> Option R) (p0 : Row) (p1 : Int) (p2 : Row) : Option R := K (.exit 0) (tabl (T131_3 p0 p1 p2))
def H131 {R : Type} (N : Nat) (K : Ex -> St -> Option R) : List Leaf -> Option R
 | [.R x0, .I x1, .R x2] => U131.l3 N (K131_3_0 K) N x0 x1 x2
 | _ => none
def it131 (N : Nat) {R : Type} : It R := fun rid f cn L K => bif Nat.beq rid 3 then tell (T131_3 [] 0 []) (H131 N K) L none else none
def sp131 : List Arg -> Option (Bool × Res)
 | [.v false [.sh 3 a0]] => some (U131.c a0, k131 (U131.v a0))
 | _ => none

def E104 : Env := mkE T md [(131, sp131)] [(3, [0, 3, 4])] [] []
def k104 (p : Row) : Res := ⟨[.v false [.ow 144 true p]], []⟩
def T104_3 (p0 : Row) (p1 : Int) (p2 : Row) : List (Nat × Cel) := [(0, .v (.v false [.sh 144 p0])), (6, .v (.v false [.own 999])), (8, .v (.v false [.i .i64 p1])), (1999, .o (.row 144 true p2))]
def G104_3 {R : Type} (g : St -> Option R) (p0 : Row) (p1 : Int) (p2 : Row) : Option R := g (tabl (T104_3 p0 p1 p2))
def K104_3_0 {R : Type} (K : Ex -> St -> Option R) (p0 : Row) (p1 : Int) (p2 : Row) : Option R := K (.exit 0) (tabl (T104_3 p0 p1 p2))
def H104 {R : Type} (N : Nat) (K : Ex -> St -> Option R) : List Leaf -> Option R
 | [.R x0, .I x1, .R x2] => U104.l3 N (K104_3_0 K) N x0 x1 x2
 | _ => none
def it104 (N : Nat) {R : Type} : It R := fun rid f cn L K => bif Nat.beq rid 3 then tell (T104_3 [] 0 []) (H104 N K) L none else none
def sp104 : List Arg -> Option (Bool × Res)
 | [.v false [.sh 144 a0]] => some (U104.c a0, k104 (U104.v a0))
 | _ => none

def E69 : Env := mkE T md [(104, sp104)] [] [] []
def k69 (p : Row × Int) : Res := ⟨[.v true [.ow 144 true p.1, .i .i64 p.2]], []⟩
def sp69 : List Arg -> Option (Bool × Res)
 | [.v true [.sh 144 a0, .i .i64 a1]] => some (U69.c a0 a1, k69 (U69.v a0 a1))
 | _ => none

def E30 : Env := mkE T md [(68, sp68), (69, sp69)] [] [] []
def k30 (p : Row × Row × Row × Int) : Res := ⟨[.v true [.ow 9 true p.1, .ow 9 true p.2.1, .ow 144 true p.2.2.1, .i .i64 p.2.2.2]], []⟩
def sp30 : List Arg -> Option (Bool × Res)
 | [.v true [.sh 9 a0, .sh 9 a1, .sh 144 a2, .i .i64 a3]] => some (U30.c a0 a1 a2 a3, k30 (U30.v a0 a1 a2 a3))
 | _ => none

def E70 : Env := mkE T md [] [] [] []
def k70 (p : ByteArray × ByteArray × Int × Int × Int) : Res := ⟨[.v true [.s p.1, .s p.2.1, .i .i64 p.2.2.1, .i .i64 p.2.2.2.1, .i .i64 p.2.2.2.2]], []⟩
def sp70 : List Arg -> Option (Bool × Res)
 | [.v true [.s a0, .s a1, .i .i64 a2, .i .i64 a3, .i .i64 a4]] => some (true, k70 (U70.v a0 a1 a2 a3 a4))
 | _ => none

def E31 : Env := mkE T md [(70, sp70)] [(3, [0, 3, 4])] [] []
def k31 (p : Row) : Res := ⟨[.v false [.ow 64 true p]], []⟩
def T31_3 (p0 : Row) (p1 : Int) (p2 : Row) : List (Nat × Cel) := [(0, .v (.v false [.sh 100 p0])), (6, .v (.v false [.own 0])), (8, .v (.v false [.i .i64 p1])), (1, .o (.row 64 true p2))]
def G31_3 {R : Type} (g : St -> Option R) (p0 : Row) (p1 : Int) (p2 : Row) : Option R := g (tabl (T31_3 p0 p1 p2))
def K31_3_0 {R : Type} (K : Ex -> St -> Option R) (p0 : Row) (p1 : Int) (p2 : Row) : Option R := K (.exit 0) (tabl (T31_3 p0 p1 p2))
def H31 {R : Type} (N : Nat) (K : Ex -> St -> Option R) : List Leaf -> Option R
 | [.R x0, .I x1, .R x2] => U31.l3 N (K31_3_0 K) N x0 x1 x2
 | _ => none
def it31 (N : Nat) {R : Type} : It R := fun rid f cn L K => bif Nat.beq rid 3 then tell (T31_3 [] 0 []) (H31 N K) L none else none
def sp31 : List Arg -> Option (Bool × Res)
 | [.v false [.sh 100 a0]] => some (U31.c a0, k31 (U31.v a0))
 | _ => none

def E71 : Env := mkE T md [] [] [] []
def k71 (p : Int × ByteArray × Int × Int × Int × ByteArray × Int) : Res := ⟨[.v true [.i .i64 p.1, .s p.2.1, .i .i64 p.2.2.1, .i .i64 p.2.2.2.1, .i .i64 p.2.2.2.2.1, .s p.2.2.2.2.2.1, .i .i64 p.2.2.2.2.2.2]], []⟩
def sp71 : List Arg -> Option (Bool × Res)
 | [.v true [.i .i64 a0, .s a1, .i .i64 a2, .i .i64 a3, .i .i64 a4, .s a5, .i .i64 a6]] => some (true, k71 (U71.v a0 a1 a2 a3 a4 a5 a6))
 | _ => none

def E32 : Env := mkE T md [(71, sp71)] [(3, [0, 3, 4])] [] []
def k32 (p : Row) : Res := ⟨[.v false [.ow 106 true p]], []⟩
def T32_3 (p0 : Row) (p1 : Int) (p2 : Row) : List (Nat × Cel) := [(0, .v (.v false [.sh 103 p0])), (6, .v (.v false [.own 0])), (8, .v (.v false [.i .i64 p1])), (1, .o (.row 106 true p2))]
def G32_3 {R : Type} (g : St -> Option R) (p0 : Row) (p1 : Int) (p2 : Row) : Option R := g (tabl (T32_3 p0 p1 p2))
def K32_3_0 {R : Type} (K : Ex -> St -> Option R) (p0 : Row) (p1 : Int) (p2 : Row) : Option R := K (.exit 0) (tabl (T32_3 p0 p1 p2))
def H32 {R : Type} (N : Nat) (K : Ex -> St -> Option R) : List Leaf -> Option R
 | [.R x0, .I x1, .R x2] => U32.l3 N (K32_3_0 K) N x0 x1 x2
 | _ => none
def it32 (N : Nat) {R : Type} : It R := fun rid f cn L K => bif Nat.beq rid 3 then tell (T32_3 [] 0 []) (H32 N K) L none else none
def sp32 : List Arg -> Option (Bool × Res)
 | [.v false [.sh 103 a0]] => some (U32.c a0, k32 (U32.v a0))
 | _ => none

def E9 : Env := mkE T md [(18, sp18), (30, sp30), (31, sp31), (32, sp32)] [] [] []
def k9 (p : Int × Row × Row × Row × Row × Int × Row × Row × Int) : Res := ⟨[.v true [.i .i64 p.1, .ow 88 true p.2.1, .ow 9 true p.2.2.1, .ow 9 true p.2.2.2.1, .ow 144 true p.2.2.2.2.1, .i .i64 p.2.2.2.2.2.1, .ow 64 true p.2.2.2.2.2.2.1, .ow 106 true p.2.2.2.2.2.2.2.1, .i .i64 p.2.2.2.2.2.2.2.2]], []⟩
def sp9 : List Arg -> Option (Bool × Res)
 | [.v true [.i .i64 a0, .sh 85 a1, .sh 9 a2, .sh 9 a3, .sh 144 a4, .i .i64 a5, .sh 100 a6, .sh 103 a7, .i .i64 a8]] => some (U9.c a0 a1 a2 a3 a4 a5 a6 a7 a8, k9 (U9.v a0 a1 a2 a3 a4 a5 a6 a7 a8))
 | _ => none

def E130 : Env := mkE T md [] [] [] []
def k130 (p : Int) : Res := ⟨[.v false [.i .i64 p]], []⟩
def sp130 : List Arg -> Option (Bool × Res)
 | [.v false [.sh 3 a0], .v false [.i .i64 a1]] => some (true, k130 (U130.v a0 a1))
 | _ => none

def E100 : Env := mkE T md [(130, sp130)] [(5, [0, 1, 4, 5])] [] []
def k100 (p : Int) : Res := ⟨[.v false [.i .i64 p]], []⟩
def T100_5 (p0 : Row) (p1 p2 p3 : Int) : List (Nat × Cel) := [(0, .v (.v false [.sh 144 p0])), (2, .v (.v false [.i .i64 p1])), (8, .v (.v false [.i .i64 p2])), (10, .v (.v false [.i .i64 p3]))]
def G100_5 {R : Type} (g : St -> Option R) (p0 : Row) (p1 p2 p3 : Int) : Option R := g (tabl (T100_5 p0 p1 p2 p3))
def K100_5_0 {R : Type} (K : Ex -> St -> Option R) (p0 : Row) (p1 p2 p3 : Int) : Option R := K .ret (tabl (T100_5 p0 p1 p2 p3))
def K100_5_1 {R : Type} (K : Ex -> St -> Option R) (p0 : Row) (p1 p2 p3 : Int) : Option R := K (.exit 0) (tabl (T100_5 p0 p1 p2 p3))
def H100 {R : Type} (N : Nat) (K : Ex -> St -> Option R) : List Leaf -> Option R
 | [.R x0, .I x1, .I x2, .I x3] => U100.l5 N (K100_5_0 K) (K100_5_1 K) N x0 x1 x2 x3
 | _ => none
def it100 (N : Nat) {R : Type} : It R := fun rid f cn L K => bif Nat.beq rid 5 then tell (T100_5 [] 0 0 0) (H100 N K) L none else none
def sp100 : List Arg -> Option (Bool × Res)
 | [.v false [.sh 144 a0], .v false [.i .i64 a1]] => some (U100.c a0 a1, k100 (U100.v a0 a1))
 | _ => none

end Go.FG.Se
