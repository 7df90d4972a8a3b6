/- The law FnExactPolicyTouch: whatever it is called with, it answers true and leaves what was there as it was. No condition. -/
import Derived.Test.YtijidheebmbkcaaRows
import Derived.Test.YtijidheebmbkcaaSExactPolicyTouchb
import Derived.Test.YtijidheebmbkcaaFExactPolicyTouch
import Derived.WalkKit
import Derived.ProofKit
import Derived.SizedLaws
set_option linter.unusedVariables false
set_option linter.unusedSimpArgs false
set_option maxRecDepth 100000
namespace Go.Proofs.Ytijidheebmbkcaa.fnExactPolicyTouch
open Go.FG Go.FG.Se
theorem own : ownKnob Try.prog.godebug = none := by kernel_rfl
theorem laidOut : laidOutB Try.prog = true := by kernel_rfl
theorem posB : rows.all (fun r => Nat.blt 0 r.ti.bytes) = true := by kernel_rfl
theorem claim : ∀ yss, TypedAll T [68, 9] yss → sp5 (argsCV T [68, 9] yss) = some (true, ⟨[.v false [.b true]], []⟩) := by
  intro yss hy
  have h0 := hy
  obtain ⟨ys0, yss0, rfl, ⟨ti0, ht0, hk0_0⟩, hf0_0, h1⟩ := typed_cons h0
  obtain rfl : _ = ti0 := Option.some.inj ((show T.ty 68 = some ⟨true, [.l 9, .l 9, .l 30, .i .i64], 80⟩ by kernel_rfl).symm.trans ht0)
  obtain ⟨y0_0, r0_0, rfl, q0_0, f0_0, hk0_1, hf0_1⟩ := kd_cons hk0_0 hf0_0
  obtain ⟨x0_0, rfl, wx0_0⟩ := kd_l q0_0 f0_0
  obtain ⟨y0_1, r0_1, rfl, q0_1, f0_1, hk0_2, hf0_2⟩ := kd_cons hk0_1 hf0_1
  obtain ⟨x0_1, rfl, wx0_1⟩ := kd_l q0_1 f0_1
  obtain ⟨y0_2, r0_2, rfl, q0_2, f0_2, hk0_3, hf0_3⟩ := kd_cons hk0_2 hf0_2
  obtain ⟨x0_2, rfl, wx0_2⟩ := kd_l q0_2 f0_2
  obtain ⟨y0_3, r0_3, rfl, q0_3, f0_3, hk0_4, hf0_4⟩ := kd_cons hk0_3 hf0_3
  obtain ⟨x0_3, rfl, wx0_3⟩ := kd_i q0_3 f0_3
  obtain rfl := kd_nil hk0_4
  obtain ⟨ys1, yss1, rfl, ⟨ti1, ht1, hk1_0⟩, hf1_0, h2⟩ := typed_cons h1
  obtain rfl : _ = ti1 := Option.some.inj ((show T.ty 9 = some ⟨false, [.s], 16⟩ by kernel_rfl).symm.trans ht1)
  obtain ⟨y1_0, r1_0, rfl, q1_0, f1_0, hk1_1, hf1_1⟩ := kd_cons hk1_0 hf1_0
  obtain ⟨x1_0, rfl, wx1_0⟩ := kd_s q1_0 f1_0
  obtain rfl := kd_nil hk1_1
  obtain rfl := typed_nil h2
  show some (Pu.laws_FnExactPolicyTouch.c x0_0 x0_1 x0_2 x0_3 x1_0, (⟨[.v false [.b (Pu.laws_FnExactPolicyTouch.v x0_0 x0_1 x0_2 x0_3 x1_0)]], []⟩ : Res)) = _
  rw [Pu.laws_FnExactPolicyTouch.law x0_0 x0_1 x0_2 x0_3 x1_0 (Lib.fineR (T := T) rfl posB wx0_0) (Lib.fineR (T := T) rfl posB wx0_1) (Lib.fineR (T := T) rfl posB wx0_2) wx0_3 wx1_0, Pu.laws_FnExactPolicyTouch.lawc x0_0 x0_1 x0_2 x0_3 x1_0 (Lib.fineR (T := T) rfl posB wx0_0) (Lib.fineR (T := T) rfl posB wx0_1) (Lib.fineR (T := T) rfl posB wx0_2) wx0_3 wx1_0]
theorem lifted (os : Os) (started : os.Started) (H : Type) (enc : TypeId × Value → H) :
    ReturnsInHanded {} Try.checked os 5 .any (Rows.fnExactPolicyTouchSpec.pre6 enc Try.prog Try.f5 Rows.fnExactPolicyTouchRow.domain false) (Rows.fnExactPolicyTouchSpec.post enc Try.prog Try.f5 false true false false) := by
  refine returnsInHanded_of_change_sized (C := Try.checked) own started (by kernel_rfl) Try.func5
    (ChangeSpec.witness6 (enc := enc) (C := Try.checked) false ⟨#[], #[.agg #[.slice none 0 0, .slice none 0 0, .slice none 0 0, .int .i64 0], .string ByteArray.empty], []⟩ 8 (by kernel_rfl) (by kernel_rfl) (by kernel_rfl) (by kernel_rfl)) ?_
  intro W base args ds gs before hval hW hcnd hsz _
  exact law_contract (C := Try.checked) (T := T) hE laidOut (n := 12) ok5 (by kernel_rfl) (by kernel_rfl) Try.underlying4 rfl (fun ds h => by match ds, h with | [d0, d1], _ => rfl) claim W base args ds gs before hval hW hsz
theorem andI {a b : Bool} (ha : a = true) (hb : b = true) : (a && b) = true := by rw [ha, hb]; rfl
set_option maxHeartbeats 4000000 in
theorem closed : joinedFacts Try.pinned.checked.prog 5 Try.f5 Rows.fnExactPolicyTouchSpec Rows.fnExactPolicyTouchRow = true := by
  unfold joinedFacts
  repeat' with_reducible refine andI ?_ ?_
  all_goals as_aux_lemma => kernel_rfl
theorem over : Rows.fnExactPolicyTouchRow.holds Try.pinned (OpenSpec.ofChange Rows.fnExactPolicyTouchSpec) :=
  OpenClaim.holds_of_wide 5 Try.f5 rfl rfl rfl rfl rfl rfl rfl ⟨rfl, rfl, rfl, rfl, rfl⟩ rfl rfl rfl rfl rfl (by kernel_rfl) Try.func5 closed
    (of_decide_eq_true (by kernel_rfl)) (by unfold Func.isWrapper; first | (rw [if_pos (by decide +kernel)]; kernel_rfl) | (rw [if_neg (by decide +kernel)]; exact ⟨rfl, rfl⟩))
    (fun os started H enc _ => lifted os started H enc)
theorem proved : Rows.FnExactPolicyTouchSaid := over
end Go.Proofs.Ytijidheebmbkcaa.fnExactPolicyTouch
namespace Go.Proofs.Ytijidheebmbkcaa
/-- The row, under a short name, for the claim. -/
theorem fnExactPolicyTouch_holds : Rows.FnExactPolicyTouchSaid := fnExactPolicyTouch.proved
#print axioms fnExactPolicyTouch_holds
end Go.Proofs.Ytijidheebmbkcaa
