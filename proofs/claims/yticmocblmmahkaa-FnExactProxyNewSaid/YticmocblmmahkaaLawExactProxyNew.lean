/- The law FnExactProxyNew: whatever it is called with, it answers true and leaves what was there as it was. No condition. -/
import Derived.Test.YticmocblmmahkaaRows
import Derived.Test.YticmocblmmahkaaSExactProxyNew
import Derived.Test.YticmocblmmahkaaFExactProxyNew
import Derived.WalkKit
import Derived.ProofKit
import Derived.SizedLaws
set_option linter.unusedVariables false
set_option linter.unusedSimpArgs false
set_option maxRecDepth 100000
namespace Go.Proofs.Yticmocblmmahkaa.fnExactProxyNew
open Go.FG Go.FG.Se
theorem own : ownKnob Try.prog.godebug = none := by kernel_rfl
theorem laidOut : laidOutB Try.prog = true := by kernel_rfl
theorem claim : ∀ yss, TypedAll T [] yss → sp10 (argsCV T [] yss) = some (true, ⟨[.v false [.b true]], []⟩) := by
  intro yss hy
  have h0 := hy
  obtain rfl := typed_nil h0
  show some (true, (⟨[.v false [.b (Pu.laws_FnExactProxyNew.v )]], []⟩ : Res)) = _
  rw [Pu.laws_FnExactProxyNew.law  ]
theorem lifted (os : Os) (started : os.Started) (H : Type) (enc : TypeId × Value → H) :
    ReturnsInHanded {} Try.checked os 10 .any (Rows.fnExactProxyNewSpec.pre6 enc Try.prog Try.f10 Rows.fnExactProxyNewRow.domain false) (Rows.fnExactProxyNewSpec.post enc Try.prog Try.f10 false true false false) := by
  refine returnsInHanded_of_change_sized (C := Try.checked) own started (by kernel_rfl) Try.func10
    (ChangeSpec.witness6 (enc := enc) (C := Try.checked) false ⟨#[], #[], []⟩ 8 (by kernel_rfl) (by kernel_rfl) (by kernel_rfl) (by kernel_rfl)) ?_
  intro W base args ds gs before hval hW hcnd hsz _
  exact law_contract (C := Try.checked) (T := T) hE laidOut (n := 12) ok10 (by kernel_rfl) (by kernel_rfl) Try.underlying4 rfl (fun ds h => by match ds, h with | [], _ => rfl) claim W base args ds gs before hval hW hsz
theorem over : Rows.fnExactProxyNewRow.holds Try.pinned (OpenSpec.ofChange Rows.fnExactProxyNewSpec) :=
  OpenClaim.holds_of_wide 10 Try.f10 rfl rfl rfl rfl rfl rfl rfl ⟨rfl, rfl, rfl, rfl, rfl⟩ rfl rfl rfl rfl rfl (by kernel_rfl) Try.func10 (by kernel_rfl)
    (of_decide_eq_true (by kernel_rfl)) (by unfold Func.isWrapper; first | (rw [if_pos (by decide +kernel)]; kernel_rfl) | (rw [if_neg (by decide +kernel)]; exact ⟨rfl, rfl⟩))
    (fun os started H enc _ => lifted os started H enc)
theorem proved : Rows.FnExactProxyNewSaid := over
end Go.Proofs.Yticmocblmmahkaa.fnExactProxyNew
namespace Go.Proofs.Yticmocblmmahkaa
/-- The row, under a short name, for the claim. -/
theorem fnExactProxyNew_holds : Rows.FnExactProxyNewSaid := fnExactProxyNew.proved
#print axioms fnExactProxyNew_holds
end Go.Proofs.Yticmocblmmahkaa
