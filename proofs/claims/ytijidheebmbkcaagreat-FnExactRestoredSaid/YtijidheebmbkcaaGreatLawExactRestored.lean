/- The law FnExactRestored: whatever it is called with, it answers true and leaves what was there as it was. No condition. -/
import Derived.Test.YtijidheebmbkcaaGreatRows
import Derived.Test.YtijidheebmbkcaaGreatSExactRestored
import Derived.Test.YtijidheebmbkcaaGreatFExactRestored
import Derived.WalkKit
import Derived.ProofKit
import Derived.SizedLaws
set_option linter.unusedVariables false
set_option linter.unusedSimpArgs false
set_option maxRecDepth 100000
namespace Go.Proofs.YtijidheebmbkcaaGreat.fnExactRestored
open Go.FG Go.FG.Se
theorem own : ownKnob Tryz.prog.godebug = none := by kernel_rfl
theorem laidOut : laidOutB Tryz.prog = true := by kernel_rfl
theorem posB : rows.all (fun r => Nat.blt 0 r.ti.bytes) = true := by kernel_rfl
theorem claim : ∀ yss, TypedAll T [3, 22] yss → sp5 (argsCV T [3, 22] yss) = some (true, ⟨[.v false [.b true]], []⟩) := by
  intro yss hy
  have h0 := hy
  obtain ⟨ys0, yss0, rfl, ⟨ti0, ht0, hk0_0⟩, hf0_0, h1⟩ := typed_cons h0
  obtain rfl : _ = ti0 := Option.some.inj ((show T.ty 3 = some ⟨false, [.i .i64], 8⟩ by kernel_rfl).symm.trans ht0)
  obtain ⟨y0_0, r0_0, rfl, q0_0, f0_0, hk0_1, hf0_1⟩ := kd_cons hk0_0 hf0_0
  obtain ⟨x0_0, rfl, wx0_0⟩ := kd_i q0_0 f0_0
  obtain rfl := kd_nil hk0_1
  obtain ⟨ys1, yss1, rfl, ⟨ti1, ht1, hk1_0⟩, hf1_0, h2⟩ := typed_cons h1
  obtain rfl : _ = ti1 := Option.some.inj ((show T.ty 22 = some ⟨false, [.l 85], 24⟩ by kernel_rfl).symm.trans ht1)
  obtain ⟨y1_0, r1_0, rfl, q1_0, f1_0, hk1_1, hf1_1⟩ := kd_cons hk1_0 hf1_0
  obtain ⟨x1_0, rfl, wx1_0⟩ := kd_l q1_0 f1_0
  obtain rfl := kd_nil hk1_1
  obtain rfl := typed_nil h2
  show some (U5.c x0_0 x1_0, (⟨[.v false [.b (U5.v x0_0 x1_0)]], []⟩ : Res)) = _
  rw [U5.law x0_0 x1_0 wx0_0 (Lib.fineR (T := T) rfl posB wx1_0), U5.lawc x0_0 x1_0 wx0_0 (Lib.fineR (T := T) rfl posB wx1_0)]
theorem lifted (os : Os) (started : os.Started) (H : Type) (enc : TypeId × Value → H) :
    ReturnsInHanded {} Tryz.checked os 5 .any (Rows.fnExactRestoredSpec.pre6 enc Tryz.prog Tryz.f5 Rows.fnExactRestoredRow.domain false) (Rows.fnExactRestoredSpec.post enc Tryz.prog Tryz.f5 false true false false) := by
  refine returnsInHanded_of_change_sized (C := Tryz.checked) own started (by kernel_rfl) Tryz.func5
    (ChangeSpec.witness6 (enc := enc) (C := Tryz.checked) false ⟨#[], #[.int .i64 0, .slice none 0 0], []⟩ 8 (by kernel_rfl) (by kernel_rfl) (by kernel_rfl) (by kernel_rfl)) ?_
  intro W base args ds gs before hval hW hcnd hsz _
  exact law_contract (C := Tryz.checked) (T := T) hE laidOut (n := 12) ok5 (by kernel_rfl) (by kernel_rfl) Tryz.underlying4 rfl (fun ds h => by match ds, h with | [d0, d1], _ => rfl) claim W base args ds gs before hval hW hsz
theorem andI {a b : Bool} (ha : a = true) (hb : b = true) : (a && b) = true := by rw [ha, hb]; rfl
set_option maxHeartbeats 4000000 in
theorem closed : joinedFacts Tryz.pinned.checked.prog 5 Tryz.f5 Rows.fnExactRestoredSpec Rows.fnExactRestoredRow = true := by
  unfold joinedFacts
  repeat' with_reducible refine andI ?_ ?_
  all_goals as_aux_lemma => kernel_rfl
theorem over : Rows.fnExactRestoredRow.holds Tryz.pinned (OpenSpec.ofChange Rows.fnExactRestoredSpec) :=
  OpenClaim.holds_of_wide 5 Tryz.f5 rfl rfl rfl rfl rfl rfl rfl ⟨rfl, rfl, rfl, rfl, rfl⟩ rfl rfl rfl rfl rfl (by kernel_rfl) Tryz.func5 closed
    (of_decide_eq_true (by kernel_rfl)) (by unfold Func.isWrapper; first | (rw [if_pos (by decide +kernel)]; kernel_rfl) | (rw [if_neg (by decide +kernel)]; exact ⟨rfl, rfl⟩))
    (fun os started H enc _ => lifted os started H enc)
theorem proved : Rows.FnExactRestoredSaid := over
end Go.Proofs.YtijidheebmbkcaaGreat.fnExactRestored
namespace Go.Proofs.YtijidheebmbkcaaGreat
/-- The row, under a short name, for the claim. -/
theorem fnExactRestored_holds : Rows.FnExactRestoredSaid := fnExactRestored.proved
#print axioms fnExactRestored_holds
end Go.Proofs.YtijidheebmbkcaaGreat
