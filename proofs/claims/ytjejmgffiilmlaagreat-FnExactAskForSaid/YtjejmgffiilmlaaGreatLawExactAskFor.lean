/- The law FnExactAskFor: whatever it is called with, it answers true and leaves what was there as it was. No condition. -/
import Derived.Test.YtjejmgffiilmlaaGreatRows
import Derived.Test.YtjejmgffiilmlaaGreatSExactAskFor
import Derived.Test.YtjejmgffiilmlaaGreatFExactAskForb
import Derived.WalkKit
import Derived.ProofKit
import Derived.SizedLaws
set_option linter.unusedVariables false
set_option linter.unusedSimpArgs false
set_option maxRecDepth 100000
namespace Go.Proofs.YtjejmgffiilmlaaGreat.fnExactAskFor
open Go.FG Go.FG.Se
theorem own : ownKnob Tryz.prog.godebug = none := by kernel_rfl
theorem laidOut : laidOutB Tryz.prog = true := by kernel_rfl
theorem posB : rows.all (fun r => Nat.blt 0 r.ti.bytes) = true := by kernel_rfl
theorem claim : ∀ yss, TypedAll T [32, 3, 9] yss → sp3 (argsCV T [32, 3, 9] yss) = some (true, ⟨[.v false [.b true]], []⟩) := by
  intro yss hy
  have h0 := hy
  obtain ⟨ys0, yss0, rfl, ⟨ti0, ht0, hk0_0⟩, hf0_0, h1⟩ := typed_cons h0
  obtain rfl : _ = ti0 := Option.some.inj ((show T.ty 32 = some ⟨true, [.i .i64, .l 157, .l 9, .l 9, .l 59, .i .i64, .l 161, .l 163, .i .i64], 168⟩ by kernel_rfl).symm.trans ht0)
  obtain ⟨y0_0, r0_0, rfl, q0_0, f0_0, hk0_1, hf0_1⟩ := kd_cons hk0_0 hf0_0
  obtain ⟨x0_0, rfl, wx0_0⟩ := kd_i q0_0 f0_0
  obtain ⟨y0_1, r0_1, rfl, q0_1, f0_1, hk0_2, hf0_2⟩ := kd_cons hk0_1 hf0_1
  obtain ⟨x0_1, rfl, wx0_1⟩ := kd_l q0_1 f0_1
  obtain ⟨y0_2, r0_2, rfl, q0_2, f0_2, hk0_3, hf0_3⟩ := kd_cons hk0_2 hf0_2
  obtain ⟨x0_2, rfl, wx0_2⟩ := kd_l q0_2 f0_2
  obtain ⟨y0_3, r0_3, rfl, q0_3, f0_3, hk0_4, hf0_4⟩ := kd_cons hk0_3 hf0_3
  obtain ⟨x0_3, rfl, wx0_3⟩ := kd_l q0_3 f0_3
  obtain ⟨y0_4, r0_4, rfl, q0_4, f0_4, hk0_5, hf0_5⟩ := kd_cons hk0_4 hf0_4
  obtain ⟨x0_4, rfl, wx0_4⟩ := kd_l q0_4 f0_4
  obtain ⟨y0_5, r0_5, rfl, q0_5, f0_5, hk0_6, hf0_6⟩ := kd_cons hk0_5 hf0_5
  obtain ⟨x0_5, rfl, wx0_5⟩ := kd_i q0_5 f0_5
  obtain ⟨y0_6, r0_6, rfl, q0_6, f0_6, hk0_7, hf0_7⟩ := kd_cons hk0_6 hf0_6
  obtain ⟨x0_6, rfl, wx0_6⟩ := kd_l q0_6 f0_6
  obtain ⟨y0_7, r0_7, rfl, q0_7, f0_7, hk0_8, hf0_8⟩ := kd_cons hk0_7 hf0_7
  obtain ⟨x0_7, rfl, wx0_7⟩ := kd_l q0_7 f0_7
  obtain ⟨y0_8, r0_8, rfl, q0_8, f0_8, hk0_9, hf0_9⟩ := kd_cons hk0_8 hf0_8
  obtain ⟨x0_8, rfl, wx0_8⟩ := kd_i q0_8 f0_8
  obtain rfl := kd_nil hk0_9
  obtain ⟨ys1, yss1, rfl, ⟨ti1, ht1, hk1_0⟩, hf1_0, h2⟩ := typed_cons h1
  obtain rfl : _ = ti1 := Option.some.inj ((show T.ty 3 = some ⟨false, [.i .i64], 8⟩ by kernel_rfl).symm.trans ht1)
  obtain ⟨y1_0, r1_0, rfl, q1_0, f1_0, hk1_1, hf1_1⟩ := kd_cons hk1_0 hf1_0
  obtain ⟨x1_0, rfl, wx1_0⟩ := kd_i q1_0 f1_0
  obtain rfl := kd_nil hk1_1
  obtain ⟨ys2, yss2, rfl, ⟨ti2, ht2, hk2_0⟩, hf2_0, h3⟩ := typed_cons h2
  obtain rfl : _ = ti2 := Option.some.inj ((show T.ty 9 = some ⟨false, [.s], 16⟩ by kernel_rfl).symm.trans ht2)
  obtain ⟨y2_0, r2_0, rfl, q2_0, f2_0, hk2_1, hf2_1⟩ := kd_cons hk2_0 hf2_0
  obtain ⟨x2_0, rfl, wx2_0⟩ := kd_s q2_0 f2_0
  obtain rfl := kd_nil hk2_1
  obtain rfl := typed_nil h3
  show some (U3.c x0_0 x0_1 x0_2 x0_3 x0_4 x0_5 x0_6 x0_7 x0_8 x1_0 x2_0, (⟨[.v false [.b (U3.v x0_0 x0_1 x0_2 x0_3 x0_4 x0_5 x0_6 x0_7 x0_8 x1_0 x2_0)]], []⟩ : Res)) = _
  rw [U3.law x0_0 x0_1 x0_2 x0_3 x0_4 x0_5 x0_6 x0_7 x0_8 x1_0 x2_0 wx0_0 (Lib.fineR (T := T) rfl posB wx0_1) (Lib.fineR (T := T) rfl posB wx0_2) (Lib.fineR (T := T) rfl posB wx0_3) (Lib.fineR (T := T) rfl posB wx0_4) wx0_5 (Lib.fineR (T := T) rfl posB wx0_6) (Lib.fineR (T := T) rfl posB wx0_7) wx0_8 wx1_0 wx2_0, U3.lawc x0_0 x0_1 x0_2 x0_3 x0_4 x0_5 x0_6 x0_7 x0_8 x1_0 x2_0 wx0_0 (Lib.fineR (T := T) rfl posB wx0_1) (Lib.fineR (T := T) rfl posB wx0_2) (Lib.fineR (T := T) rfl posB wx0_3) (Lib.fineR (T := T) rfl posB wx0_4) wx0_5 (Lib.fineR (T := T) rfl posB wx0_6) (Lib.fineR (T := T) rfl posB wx0_7) wx0_8 wx1_0 wx2_0]
theorem lifted (os : Os) (started : os.Started) (H : Type) (enc : TypeId × Value → H) :
    ReturnsInHanded {} Tryz.checked os 3 .any (Rows.fnExactAskForSpec.pre6 enc Tryz.prog Tryz.f3 Rows.fnExactAskForRow.domain false) (Rows.fnExactAskForSpec.post enc Tryz.prog Tryz.f3 false true false false) := by
  refine returnsInHanded_of_change_sized (C := Tryz.checked) own started (by kernel_rfl) Tryz.func3
    (ChangeSpec.witness6 (enc := enc) (C := Tryz.checked) false ⟨#[], #[.agg #[.int .i64 0, .slice none 0 0, .slice none 0 0, .slice none 0 0, .slice none 0 0, .int .i64 0, .slice none 0 0, .slice none 0 0, .int .i64 0], .int .i64 0, .string ByteArray.empty], []⟩ 8 (by kernel_rfl) (by kernel_rfl) (by kernel_rfl) (by kernel_rfl)) ?_
  intro W base args ds gs before hval hW hcnd hsz _
  exact law_contract (C := Tryz.checked) (T := T) hE laidOut (n := 12) ok3 (by kernel_rfl) (by kernel_rfl) Tryz.underlying4 rfl (fun ds h => by match ds, h with | [d0, d1, d2], _ => rfl) claim W base args ds gs before hval hW hsz
theorem andI {a b : Bool} (ha : a = true) (hb : b = true) : (a && b) = true := by rw [ha, hb]; rfl
set_option maxHeartbeats 4000000 in
theorem closed : joinedFacts Tryz.pinned.checked.prog 3 Tryz.f3 Rows.fnExactAskForSpec Rows.fnExactAskForRow = true := by
  unfold joinedFacts
  repeat' with_reducible refine andI ?_ ?_
  all_goals as_aux_lemma => kernel_rfl
theorem over : Rows.fnExactAskForRow.holds Tryz.pinned (OpenSpec.ofChange Rows.fnExactAskForSpec) :=
  OpenClaim.holds_of_wide 3 Tryz.f3 rfl rfl rfl rfl rfl rfl rfl ⟨rfl, rfl, rfl, rfl, rfl⟩ rfl rfl rfl rfl rfl (by kernel_rfl) Tryz.func3 closed
    (of_decide_eq_true (by kernel_rfl)) (by unfold Func.isWrapper; first | (rw [if_pos (by decide +kernel)]; kernel_rfl) | (rw [if_neg (by decide +kernel)]; exact ⟨rfl, rfl⟩))
    (fun os started H enc _ => lifted os started H enc)
theorem proved : Rows.FnExactAskForSaid := over
end Go.Proofs.YtjejmgffiilmlaaGreat.fnExactAskFor
namespace Go.Proofs.YtjejmgffiilmlaaGreat
/-- The row, under a short name, for the claim. -/
theorem fnExactAskFor_holds : Rows.FnExactAskForSaid := fnExactAskFor.proved
#print axioms fnExactAskFor_holds
end Go.Proofs.YtjejmgffiilmlaaGreat
