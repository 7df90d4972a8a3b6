/- The law FnExactKeepActs: whatever it is called with, it answers true and leaves what was there as it was. No condition. -/
import Derived.Test.YticmocblmmahkaaRows
import Derived.Test.YticmocblmmahkaaSExactKeepActs
import Derived.Test.YticmocblmmahkaaFExactKeepActs
import Derived.WalkKit
import Derived.ProofKit
import Derived.SizedLaws
set_option linter.unusedVariables false
set_option linter.unusedSimpArgs false
set_option maxRecDepth 100000
namespace Go.Proofs.Yticmocblmmahkaa.fnExactKeepActs
open Go.FG Go.FG.Se
theorem own : ownKnob Try.prog.godebug = none := by kernel_rfl
theorem laidOut : laidOutB Try.prog = true := by kernel_rfl
theorem claim : ∀ yss, TypedAll T [30] yss → sp4 (argsCV T [30] yss) = some (true, ⟨[.v false [.b true]], []⟩) := by
  intro yss hy
  have h0 := hy
  obtain ⟨ys0, yss0, rfl, ⟨ti0, ht0, hk0_0⟩, hf0_0, h1⟩ := typed_cons h0
  obtain rfl : _ = ti0 := Option.some.inj ((show T.ty 30 = some ⟨true, [.s, .i .i64, .i .i64, .s], 48⟩ by kernel_rfl).symm.trans ht0)
  obtain ⟨y0_0, r0_0, rfl, q0_0, f0_0, hk0_1, hf0_1⟩ := kd_cons hk0_0 hf0_0
  obtain ⟨x0_0, rfl, wx0_0⟩ := kd_s q0_0 f0_0
  obtain ⟨y0_1, r0_1, rfl, q0_1, f0_1, hk0_2, hf0_2⟩ := kd_cons hk0_1 hf0_1
  obtain ⟨x0_1, rfl, wx0_1⟩ := kd_i q0_1 f0_1
  obtain ⟨y0_2, r0_2, rfl, q0_2, f0_2, hk0_3, hf0_3⟩ := kd_cons hk0_2 hf0_2
  obtain ⟨x0_2, rfl, wx0_2⟩ := kd_i q0_2 f0_2
  obtain ⟨y0_3, r0_3, rfl, q0_3, f0_3, hk0_4, hf0_4⟩ := kd_cons hk0_3 hf0_3
  obtain ⟨x0_3, rfl, wx0_3⟩ := kd_s q0_3 f0_3
  obtain rfl := kd_nil hk0_4
  obtain rfl := typed_nil h1
  show some (Pu.laws_FnExactKeepActs.c x0_0 x0_1 x0_2 x0_3, (⟨[.v false [.b (Pu.laws_FnExactKeepActs.v x0_0 x0_1 x0_2 x0_3)]], []⟩ : Res)) = _
  rw [Pu.laws_FnExactKeepActs.law x0_0 x0_1 x0_2 x0_3 wx0_0 wx0_1 wx0_2 wx0_3, Pu.laws_FnExactKeepActs.lawc x0_0 x0_1 x0_2 x0_3 wx0_0 wx0_1 wx0_2 wx0_3]
theorem lifted (os : Os) (started : os.Started) (H : Type) (enc : TypeId × Value → H) :
    ReturnsInHanded {} Try.checked os 4 .any (Rows.fnExactKeepActsSpec.pre6 enc Try.prog Try.f4 Rows.fnExactKeepActsRow.domain false) (Rows.fnExactKeepActsSpec.post enc Try.prog Try.f4 false true false false) := by
  refine returnsInHanded_of_change_sized (C := Try.checked) own started (by kernel_rfl) Try.func4
    (ChangeSpec.witness6 (enc := enc) (C := Try.checked) false ⟨#[], #[.agg #[.string ByteArray.empty, .int .i64 0, .int .i64 0, .string ByteArray.empty]], []⟩ 8 (by kernel_rfl) (by kernel_rfl) (by kernel_rfl) (by kernel_rfl)) ?_
  intro W base args ds gs before hval hW hcnd hsz _
  exact law_contract (C := Try.checked) (T := T) hE laidOut (n := 12) ok4 (by kernel_rfl) (by kernel_rfl) Try.underlying4 rfl (fun ds h => by match ds, h with | [d0], _ => rfl) claim W base args ds gs before hval hW hsz
theorem over : Rows.fnExactKeepActsRow.holds Try.pinned (OpenSpec.ofChange Rows.fnExactKeepActsSpec) :=
  OpenClaim.holds_of_wide 4 Try.f4 rfl rfl rfl rfl rfl rfl rfl ⟨rfl, rfl, rfl, rfl, rfl⟩ rfl rfl rfl rfl rfl (by kernel_rfl) Try.func4 (by kernel_rfl)
    (of_decide_eq_true (by kernel_rfl)) (by unfold Func.isWrapper; first | (rw [if_pos (by decide +kernel)]; kernel_rfl) | (rw [if_neg (by decide +kernel)]; exact ⟨rfl, rfl⟩))
    (fun os started H enc _ => lifted os started H enc)
theorem proved : Rows.FnExactKeepActsSaid := over
end Go.Proofs.Yticmocblmmahkaa.fnExactKeepActs
namespace Go.Proofs.Yticmocblmmahkaa
/-- The row, under a short name, for the claim. -/
theorem fnExactKeepActs_holds : Rows.FnExactKeepActsSaid := fnExactKeepActs.proved
#print axioms fnExactKeepActs_holds
end Go.Proofs.Yticmocblmmahkaa
