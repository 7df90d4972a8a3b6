/- The law FnExactReadEntry: whatever it is called with, it answers true and leaves what was there as it was. No condition. -/
import Derived.Test.YtnhconmkdleomaaRows
import Derived.Test.YtnhconmkdleomaaSExactReadEntry
import Derived.WalkKit
import Derived.ProofKit
import Derived.SizedLaws
set_option linter.unusedVariables false
set_option linter.unusedSimpArgs false
set_option maxRecDepth 100000
namespace Go.Proofs.Ytnhconmkdleomaa.fnExactReadEntry
open Go.FG Go.FG.Se
theorem own : ownKnob Try.prog.godebug = none := by kernel_rfl
theorem laidOut : laidOutB Try.prog = true := by kernel_rfl
theorem claim : ∀ yss, TypedAll T [9] yss → sp9 (argsCV T [9] yss) = some (true, ⟨[.v false [.b true]], []⟩) := by
  intro yss hy
  have h0 := hy
  obtain ⟨ys0, yss0, rfl, ⟨ti0, ht0, hk0_0⟩, hf0_0, h1⟩ := typed_cons h0
  obtain rfl : _ = ti0 := Option.some.inj ((show T.ty 9 = some ⟨false, [.s], 16⟩ by kernel_rfl).symm.trans ht0)
  obtain ⟨y0_0, r0_0, rfl, q0_0, f0_0, hk0_1, hf0_1⟩ := kd_cons hk0_0 hf0_0
  obtain ⟨x0_0, rfl, wx0_0⟩ := kd_s q0_0 f0_0
  obtain rfl := kd_nil hk0_1
  obtain rfl := typed_nil h1
  show some (true, (⟨[.v false [.b (Pu.laws_FnExactReadEntry.v x0_0)]], []⟩ : Res)) = _
  rw [Pu.laws_FnExactReadEntry.law x0_0 wx0_0]
theorem lifted (os : Os) (started : os.Started) (H : Type) (enc : TypeId × Value → H) :
    ReturnsInHanded {} Try.checked os 9 .any (Rows.fnExactReadEntrySpec.pre6 enc Try.prog Try.f9 Rows.fnExactReadEntryRow.domain false) (Rows.fnExactReadEntrySpec.post enc Try.prog Try.f9 false true false false) := by
  refine returnsInHanded_of_change_sized (C := Try.checked) own started (by kernel_rfl) Try.func9
    (ChangeSpec.witness6 (enc := enc) (C := Try.checked) false ⟨#[], #[.string ByteArray.empty], []⟩ 8 (by kernel_rfl) (by kernel_rfl) (by kernel_rfl) (by kernel_rfl)) ?_
  intro W base args ds gs before hval hW hcnd hsz _
  exact law_contract (C := Try.checked) (T := T) hE laidOut (n := 12) ok9 (by kernel_rfl) (by kernel_rfl) Try.underlying4 rfl (fun ds h => by match ds, h with | [d0], _ => rfl) claim W base args ds gs before hval hW hsz
theorem over : Rows.fnExactReadEntryRow.holds Try.pinned (OpenSpec.ofChange Rows.fnExactReadEntrySpec) :=
  OpenClaim.holds_of_wide 9 Try.f9 rfl rfl rfl rfl rfl rfl rfl ⟨rfl, rfl, rfl, rfl, rfl⟩ rfl rfl rfl rfl rfl (by kernel_rfl) Try.func9 (by kernel_rfl)
    (of_decide_eq_true (by kernel_rfl)) (by unfold Func.isWrapper; first | (rw [if_pos (by decide +kernel)]; kernel_rfl) | (rw [if_neg (by decide +kernel)]; exact ⟨rfl, rfl⟩))
    (fun os started H enc _ => lifted os started H enc)
theorem proved : Rows.FnExactReadEntrySaid := over
end Go.Proofs.Ytnhconmkdleomaa.fnExactReadEntry
namespace Go.Proofs.Ytnhconmkdleomaa
/-- The row, under a short name, for the claim. -/
theorem fnExactReadEntry_holds : Rows.FnExactReadEntrySaid := fnExactReadEntry.proved
#print axioms fnExactReadEntry_holds
end Go.Proofs.Ytnhconmkdleomaa
