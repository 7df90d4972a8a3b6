/- The law FnExactSoundWorld: whatever it is called with, it answers true and leaves what was there as it was. No condition. -/
import Derived.Test.YtjejmgffiilmlaaGreatRows
import Derived.Test.YtjejmgffiilmlaaGreatSExactSoundWorld
import Derived.Test.YtjejmgffiilmlaaGreatFExactSoundWorld
import Derived.WalkKit
import Derived.ProofKit
import Derived.SizedLaws
set_option linter.unusedVariables false
set_option linter.unusedSimpArgs false
set_option maxRecDepth 100000
namespace Go.Proofs.YtjejmgffiilmlaaGreat.fnExactSoundWorld
open Go.FG Go.FG.Se
theorem own : ownKnob Tryz.prog.godebug = none := by kernel_rfl
theorem laidOut : laidOutB Tryz.prog = true := by kernel_rfl
theorem posB : rows.all (fun r => Nat.blt 0 r.ti.bytes) = true := by kernel_rfl
theorem claim : ∀ yss, TypedAll T [69] yss → sp6 (argsCV T [69] yss) = some (true, ⟨[.v false [.b true]], []⟩) := by
  intro yss hy
  have h0 := hy
  obtain ⟨ys0, yss0, rfl, ⟨ti0, ht0, hk0_0⟩, hf0_0, h1⟩ := typed_cons h0
  obtain rfl : _ = ti0 := Option.some.inj ((show T.ty 69 = some ⟨true, [.i .i64, .l 157, .l 9, .l 9, .l 59, .i .i64, .l 161, .l 163, .i .i64, .l 235, .l 3, .l 157], 240⟩ by kernel_rfl).symm.trans ht0)
  obtain ⟨y0_0, r0_0, rfl, q0_0, f0_0, hk0_1, hf0_1⟩ := kd_cons hk0_0 hf0_0
  obtain ⟨x0_0, rfl, wx0_0⟩ := kd_i q0_0 f0_0
  obtain ⟨y0_1, r0_1, rfl, q0_1, f0_1, hk0_2, hf0_2⟩ := kd_cons hk0_1 hf0_1
  obtain ⟨x0_1, rfl, wx0_1⟩ := kd_l q0_1 f0_1
  obtain ⟨y0_2, r0_2, rfl, q0_2, f0_2, hk0_3, hf0_3⟩ := kd_cons hk0_2 hf0_2
  obtain ⟨x0_2, rfl, wx0_2⟩ := kd_l q0_2 f0_2
  obtain ⟨y0_3, r0_3, rfl, q0_3, f0_3, hk0_4, hf0_4⟩ := kd_cons hk0_3 hf0_3
  obtain ⟨x0_3, rfl, wx0_3⟩ := kd_l q0_3 f0_3
  obtain ⟨y0_4, r0_4, rfl, q0_4, f0_4, hk0_5, hf0_5⟩ := kd_cons hk0_4 hf0_4
  obtain ⟨x0_4, rfl, wx0_4⟩ := kd_l q0_4 f0_4
  obtain ⟨y0_5, r0_5, rfl, q0_5, f0_5, hk0_6, hf0_6⟩ := kd_cons hk0_5 hf0_5
  obtain ⟨x0_5, rfl, wx0_5⟩ := kd_i q0_5 f0_5
  obtain ⟨y0_6, r0_6, rfl, q0_6, f0_6, hk0_7, hf0_7⟩ := kd_cons hk0_6 hf0_6
  obtain ⟨x0_6, rfl, wx0_6⟩ := kd_l q0_6 f0_6
  obtain ⟨y0_7, r0_7, rfl, q0_7, f0_7, hk0_8, hf0_8⟩ := kd_cons hk0_7 hf0_7
  obtain ⟨x0_7, rfl, wx0_7⟩ := kd_l q0_7 f0_7
  obtain ⟨y0_8, r0_8, rfl, q0_8, f0_8, hk0_9, hf0_9⟩ := kd_cons hk0_8 hf0_8
  obtain ⟨x0_8, rfl, wx0_8⟩ := kd_i q0_8 f0_8
  obtain ⟨y0_9, r0_9, rfl, q0_9, f0_9, hk0_10, hf0_10⟩ := kd_cons hk0_9 hf0_9
  obtain ⟨x0_9, rfl, wx0_9⟩ := kd_l q0_9 f0_9
  obtain ⟨y0_10, r0_10, rfl, q0_10, f0_10, hk0_11, hf0_11⟩ := kd_cons hk0_10 hf0_10
  obtain ⟨x0_10, rfl, wx0_10⟩ := kd_l q0_10 f0_10
  obtain ⟨y0_11, r0_11, rfl, q0_11, f0_11, hk0_12, hf0_12⟩ := kd_cons hk0_11 hf0_11
  obtain ⟨x0_11, rfl, wx0_11⟩ := kd_l q0_11 f0_11
  obtain rfl := kd_nil hk0_12
  obtain rfl := typed_nil h1
  show some (U6.c x0_0 x0_1 x0_2 x0_3 x0_4 x0_5 x0_6 x0_7 x0_8 x0_9 x0_10 x0_11, (⟨[.v false [.b (U6.v x0_0 x0_1 x0_2 x0_3 x0_4 x0_5 x0_6 x0_7 x0_8 x0_9 x0_10 x0_11)]], []⟩ : Res)) = _
  rw [U6.law x0_0 x0_1 x0_2 x0_3 x0_4 x0_5 x0_6 x0_7 x0_8 x0_9 x0_10 x0_11 wx0_0 (Lib.fineR (T := T) rfl posB wx0_1) (Lib.fineR (T := T) rfl posB wx0_2) (Lib.fineR (T := T) rfl posB wx0_3) (Lib.fineR (T := T) rfl posB wx0_4) wx0_5 (Lib.fineR (T := T) rfl posB wx0_6) (Lib.fineR (T := T) rfl posB wx0_7) wx0_8 (Lib.fineR (T := T) rfl posB wx0_9) (Lib.fineR (T := T) rfl posB wx0_10) (Lib.fineR (T := T) rfl posB wx0_11), U6.lawc x0_0 x0_1 x0_2 x0_3 x0_4 x0_5 x0_6 x0_7 x0_8 x0_9 x0_10 x0_11 wx0_0 (Lib.fineR (T := T) rfl posB wx0_1) (Lib.fineR (T := T) rfl posB wx0_2) (Lib.fineR (T := T) rfl posB wx0_3) (Lib.fineR (T := T) rfl posB wx0_4) wx0_5 (Lib.fineR (T := T) rfl posB wx0_6) (Lib.fineR (T := T) rfl posB wx0_7) wx0_8 (Lib.fineR (T := T) rfl posB wx0_9) (Lib.fineR (T := T) rfl posB wx0_10) (Lib.fineR (T := T) rfl posB wx0_11)]
theorem lifted (os : Os) (started : os.Started) (H : Type) (enc : TypeId × Value → H) :
    ReturnsInHanded {} Tryz.checked os 6 .any (Rows.fnExactSoundWorldSpec.pre6 enc Tryz.prog Tryz.f6 Rows.fnExactSoundWorldRow.domain false) (Rows.fnExactSoundWorldSpec.post enc Tryz.prog Tryz.f6 false true false false) := by
  refine returnsInHanded_of_change_sized (C := Tryz.checked) own started (by kernel_rfl) Tryz.func6
    (ChangeSpec.witness6 (enc := enc) (C := Tryz.checked) false ⟨#[], #[.agg #[.int .i64 0, .slice none 0 0, .slice none 0 0, .slice none 0 0, .slice none 0 0, .int .i64 0, .slice none 0 0, .slice none 0 0, .int .i64 0, .slice none 0 0, .slice none 0 0, .slice none 0 0]], []⟩ 8 (by kernel_rfl) (by kernel_rfl) (by kernel_rfl) (by kernel_rfl)) ?_
  intro W base args ds gs before hval hW hcnd hsz _
  exact law_contract (C := Tryz.checked) (T := T) hE laidOut (n := 12) ok6 (by kernel_rfl) (by kernel_rfl) Tryz.underlying4 rfl (fun ds h => by match ds, h with | [d0], _ => rfl) claim W base args ds gs before hval hW hsz
theorem andI {a b : Bool} (ha : a = true) (hb : b = true) : (a && b) = true := by rw [ha, hb]; rfl
set_option maxHeartbeats 4000000 in
theorem closed : joinedFacts Tryz.pinned.checked.prog 6 Tryz.f6 Rows.fnExactSoundWorldSpec Rows.fnExactSoundWorldRow = true := by
  unfold joinedFacts
  repeat' with_reducible refine andI ?_ ?_
  all_goals as_aux_lemma => kernel_rfl
theorem over : Rows.fnExactSoundWorldRow.holds Tryz.pinned (OpenSpec.ofChange Rows.fnExactSoundWorldSpec) :=
  OpenClaim.holds_of_wide 6 Tryz.f6 rfl rfl rfl rfl rfl rfl rfl ⟨rfl, rfl, rfl, rfl, rfl⟩ rfl rfl rfl rfl rfl (by kernel_rfl) Tryz.func6 closed
    (of_decide_eq_true (by kernel_rfl)) (by unfold Func.isWrapper; first | (rw [if_pos (by decide +kernel)]; kernel_rfl) | (rw [if_neg (by decide +kernel)]; exact ⟨rfl, rfl⟩))
    (fun os started H enc _ => lifted os started H enc)
theorem proved : Rows.FnExactSoundWorldSaid := over
end Go.Proofs.YtjejmgffiilmlaaGreat.fnExactSoundWorld
namespace Go.Proofs.YtjejmgffiilmlaaGreat
/-- The row, under a short name, for the claim. -/
theorem fnExactSoundWorld_holds : Rows.FnExactSoundWorldSaid := fnExactSoundWorld.proved
#print axioms fnExactSoundWorld_holds
end Go.Proofs.YtjejmgffiilmlaaGreat
