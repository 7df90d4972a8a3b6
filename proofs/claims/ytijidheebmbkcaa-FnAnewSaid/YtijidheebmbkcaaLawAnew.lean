/- The law FnAnew: whatever it is called with, it answers true and leaves what was there as it was. No condition. -/
import Derived.Test.YtijidheebmbkcaaRows
import Derived.Test.YtijidheebmbkcaaSAnew
import Derived.Test.YtijidheebmbkcaaFAnew
import Derived.WalkKit
import Derived.ProofKit
import Derived.SizedLaws
set_option linter.unusedVariables false
set_option linter.unusedSimpArgs false
set_option maxRecDepth 100000
namespace Go.Proofs.Ytijidheebmbkcaa.fnAnew
open Go.FG Go.FG.Se
theorem own : ownKnob Try.prog.godebug = none := by kernel_rfl
theorem laidOut : laidOutB Try.prog = true := by kernel_rfl
theorem posB : rows.all (fun r => Nat.blt 0 r.ti.bytes) = true := by kernel_rfl
theorem claim : ∀ yss, TypedAll T [22] yss → sp3 (argsCV T [22] yss) = some (true, ⟨[.v false [.b true]], []⟩) := by
  intro yss hy
  have h0 := hy
  obtain ⟨ys0, yss0, rfl, ⟨ti0, ht0, hk0_0⟩, hf0_0, h1⟩ := typed_cons h0
  obtain rfl : _ = ti0 := Option.some.inj ((show T.ty 22 = some ⟨false, [.l 5], 24⟩ by kernel_rfl).symm.trans ht0)
  obtain ⟨y0_0, r0_0, rfl, q0_0, f0_0, hk0_1, hf0_1⟩ := kd_cons hk0_0 hf0_0
  obtain ⟨x0_0, rfl, wx0_0⟩ := kd_l q0_0 f0_0
  obtain rfl := kd_nil hk0_1
  obtain rfl := typed_nil h1
  show some (U3.c x0_0, (⟨[.v false [.b (U3.v x0_0)]], []⟩ : Res)) = _
  rw [U3.law x0_0 (Lib.fineR (T := T) rfl posB wx0_0), U3.lawc x0_0 (Lib.fineR (T := T) rfl posB wx0_0)]
theorem lifted (os : Os) (started : os.Started) (H : Type) (enc : TypeId × Value → H) :
    ReturnsInHanded {} Try.checked os 3 .any (Rows.fnAnewSpec.pre6 enc Try.prog Try.f3 Rows.fnAnewRow.domain false) (Rows.fnAnewSpec.post enc Try.prog Try.f3 false true false false) := by
  refine returnsInHanded_of_change_sized (C := Try.checked) own started (by kernel_rfl) Try.func3
    (ChangeSpec.witness6 (enc := enc) (C := Try.checked) false ⟨#[], #[.slice none 0 0], []⟩ 8 (by kernel_rfl) (by kernel_rfl) (by kernel_rfl) (by kernel_rfl)) ?_
  intro W base args ds gs before hval hW hcnd hsz _
  exact law_contract (C := Try.checked) (T := T) hE laidOut (n := 12) ok3 (by kernel_rfl) (by kernel_rfl) Try.underlying4 rfl (fun ds h => by match ds, h with | [d0], _ => rfl) claim W base args ds gs before hval hW hsz
theorem andI {a b : Bool} (ha : a = true) (hb : b = true) : (a && b) = true := by rw [ha, hb]; rfl
set_option maxHeartbeats 4000000 in
theorem closed : joinedFacts Try.pinned.checked.prog 3 Try.f3 Rows.fnAnewSpec Rows.fnAnewRow = true := by
  unfold joinedFacts
  repeat' with_reducible refine andI ?_ ?_
  all_goals as_aux_lemma => kernel_rfl
theorem over : Rows.fnAnewRow.holds Try.pinned (OpenSpec.ofChange Rows.fnAnewSpec) :=
  OpenClaim.holds_of_wide 3 Try.f3 rfl rfl rfl rfl rfl rfl rfl ⟨rfl, rfl, rfl, rfl, rfl⟩ rfl rfl rfl rfl rfl (by kernel_rfl) Try.func3 closed
    (of_decide_eq_true (by kernel_rfl)) (by unfold Func.isWrapper; first | (rw [if_pos (by decide +kernel)]; kernel_rfl) | (rw [if_neg (by decide +kernel)]; exact ⟨rfl, rfl⟩))
    (fun os started H enc _ => lifted os started H enc)
theorem proved : Rows.FnAnewSaid := over
end Go.Proofs.Ytijidheebmbkcaa.fnAnew
namespace Go.Proofs.Ytijidheebmbkcaa
/-- The row, under a short name, for the claim. -/
theorem fnAnew_holds : Rows.FnAnewSaid := fnAnew.proved
#print axioms fnAnew_holds
end Go.Proofs.Ytijidheebmbkcaa
