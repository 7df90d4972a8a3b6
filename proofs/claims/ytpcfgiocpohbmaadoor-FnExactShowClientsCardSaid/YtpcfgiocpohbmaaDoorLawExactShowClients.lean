/- The law FnExactShowClients: whatever it is called with, it answers true and leaves what was there as it was; the package's variables that the card lists hold what the program's own initialisers lay, as the given tie shows. No other condition. -/
import Derived.Test.YtpcfgiocpohbmaaDoorCards
import Derived.Test.YtpcfgiocpohbmaaDoorTie
import Derived.Test.YtpcfgiocpohbmaaDoorSExactShowClients
import Derived.Test.YtpcfgiocpohbmaaDoorFExactShowClients
import Derived.WalkKit
import Derived.ProofKit
import Derived.OpenShut
import Derived.Deep.DeepHandedRow
import Derived.Lib.LaidTab
import Derived.Stop.LaidErr
set_option linter.unusedVariables false
set_option linter.unusedSimpArgs false
set_option maxRecDepth 100000
namespace Go.Proofs.YtpcfgiocpohbmaaDoor.fnExactShowClients
open Go.ChangeShapes Go.WideShapes Go.ChangeAt Go.RowKit
open Go.FG Go.FG.Se
theorem own : ownKnob Tryd.prog.godebug = none := by kernel_rfl
theorem laidOut : laidOutB Tryd.prog = true := by kernel_rfl
theorem posB : rows.all (fun r => Nat.blt 0 r.ti.bytes) = true := by kernel_rfl
theorem ir7 {x : Row} (h : Fine T (.l 88 x)) : U3.IR x := by
  intro i
  cases h with
  | l _ _ ti ht _ hk hf =>
    obtain rfl : _ = ti := Option.some.inj ((show T.ty 88 = some ⟨true, [.i .i64, .s, .i .i64, .i .i64, .i .i64, .s, .i .i64], 72⟩ by kernel_rfl).symm.trans ht)
    have z : A_Show.okI 0 := by unfold A_Show.okI; omega
    by_cases hi : i < x.length
    · have hy := hk _ (List.getElem_mem hi)
      have hfy := hf _ (List.getElem_mem hi)
      unfold cellAt
      rw [show x.getD i [] = x[i] by simp [List.getD, hi]]
      have one : ∀ j : Nat, (x[i].map CV.kd)[j]? = some (.i .i64) → A_Show.okI (cvI (x[i].getD j (.b false))) := by
        intro j hj
        rw [List.getElem?_map] at hj
        cases hc : x[i][j]? with
        | none => rw [hc] at hj; cases hj
        | some u =>
          rw [hc] at hj
          have hu := hfy u (List.mem_of_getElem? hc)
          rw [show x[i].getD j (.b false) = u by rw [List.getD_eq_getElem?_getD, hc]; rfl]
          cases u with
          | i k n =>
            cases hj
            cases hu with
            | i _ _ hw =>
              have hw : (decide (IntKind.i64.min ≤ n) && decide (n ≤ IntKind.i64.max)) = true := hw
              simp only [Bool.and_eq_true, decide_eq_true_eq] at hw
              exact hw
          | b => cases hj
          | s => cases hj
          | l => cases hj
      exact ⟨one 0 (by rw [hy]; rfl), one 6 (by rw [hy]; rfl)⟩
    · unfold cellAt
      rw [show x.getD i [] = [] by rw [List.getD_eq_getElem?_getD, List.getElem?_eq_none (by omega)]; rfl]
      exact ⟨z, z⟩
def layC : DataW Unit → Array Value
  | .agg l => (l.map fun | .lit (.int k n) => Value.int k n | _ => .nilIface).toArray
  | _ => #[]
def layO (cs : Array Value) : Go.Obj → Go.Obj
  | .cells _ t fr => .cells cs t fr
  | o => o
theorem known {W : World} (hL : laidMetH Tryd.prog Rows.fnExactShowClientsRow.laid W) (_ : W.ShapedOpen Tryd.prog) : T.gp.f W (AllK W) := by
  have h : laidMet Tryd.prog Rows.fnExactShowClientsRow.laid W := hL
  have h3 : laidMet Tryd.prog [("internal/strconv.uint64pow10", Rows.laid_internal_strconv_uint64pow10)] W := laidMet.tail (laidMet.tail h)
  rw [show (Rows.laid_internal_strconv_uint64pow10 : DataW Unit) = Go.Lib.tabData .u64 Go.Lib.pow10Tab by kernel_rfl] at h3
  have t := Go.Lib.tabIs_of_head (g := 1) (t := 141) (e := 127) (n := 20) (rest := []) (by kernel_rfl) (by kernel_rfl) Tryd.underlying141 Tryd.underlying127 (by kernel_rfl) (by kernel_rfl) h3
  exact varInv_all (hg := by kernel_rfl) t rfl
theorem claim : ∀ yss, TypedAll T [32] yss → sp3 (argsCV T [32] yss) = some (true, ⟨[.v false [.b true]], []⟩) := by
  intro yss hy
  have h0 := hy
  obtain ⟨ys0, yss0, rfl, ⟨ti0, ht0, hk0_0⟩, hf0_0, h1⟩ := typed_cons h0
  obtain rfl : _ = ti0 := Option.some.inj ((show T.ty 32 = some ⟨true, [.i .i64, .l 81, .l 9, .l 9, .l 70, .i .i64, .l 86, .l 88, .i .i64], 168⟩ by kernel_rfl).symm.trans ht0)
  obtain ⟨y0_0, r0_0, rfl, q0_0, f0_0, hk0_1, hf0_1⟩ := kd_cons hk0_0 hf0_0
  obtain ⟨x0_0, rfl, wx0_0⟩ := kd_i q0_0 f0_0
  obtain ⟨y0_1, r0_1, rfl, q0_1, f0_1, hk0_2, hf0_2⟩ := kd_cons hk0_1 hf0_1
  obtain ⟨x0_1, rfl, wx0_1⟩ := kd_l q0_1 f0_1
  obtain ⟨y0_2, r0_2, rfl, q0_2, f0_2, hk0_3, hf0_3⟩ := kd_cons hk0_2 hf0_2
  obtain ⟨x0_2, rfl, wx0_2⟩ := kd_l q0_2 f0_2
  obtain ⟨y0_3, r0_3, rfl, q0_3, f0_3, hk0_4, hf0_4⟩ := kd_cons hk0_3 hf0_3
  obtain ⟨x0_3, rfl, wx0_3⟩ := kd_l q0_3 f0_3
  obtain ⟨y0_4, r0_4, rfl, q0_4, f0_4, hk0_5, hf0_5⟩ := kd_cons hk0_4 hf0_4
  obtain ⟨x0_4, rfl, wx0_4⟩ := kd_l q0_4 f0_4
  obtain ⟨y0_5, r0_5, rfl, q0_5, f0_5, hk0_6, hf0_6⟩ := kd_cons hk0_5 hf0_5
  obtain ⟨x0_5, rfl, wx0_5⟩ := kd_i q0_5 f0_5
  obtain ⟨y0_6, r0_6, rfl, q0_6, f0_6, hk0_7, hf0_7⟩ := kd_cons hk0_6 hf0_6
  obtain ⟨x0_6, rfl, wx0_6⟩ := kd_l q0_6 f0_6
  obtain ⟨y0_7, r0_7, rfl, q0_7, f0_7, hk0_8, hf0_8⟩ := kd_cons hk0_7 hf0_7
  obtain ⟨x0_7, rfl, wx0_7⟩ := kd_l q0_7 f0_7
  obtain ⟨y0_8, r0_8, rfl, q0_8, f0_8, hk0_9, hf0_9⟩ := kd_cons hk0_8 hf0_8
  obtain ⟨x0_8, rfl, wx0_8⟩ := kd_i q0_8 f0_8
  obtain rfl := kd_nil hk0_9
  obtain rfl := typed_nil h1
  show some (U3.c x0_0 x0_1 x0_2 x0_3 x0_4 x0_5 x0_6 x0_7 x0_8, (⟨[.v false [.b (U3.v x0_0 x0_1 x0_2 x0_3 x0_4 x0_5 x0_6 x0_7 x0_8)]], []⟩ : Res)) = _
  rw [U3.law x0_0 x0_1 x0_2 x0_3 x0_4 x0_5 x0_6 x0_7 x0_8 wx0_0 (Lib.fineR (T := T) rfl posB wx0_1) (Lib.fineR (T := T) rfl posB wx0_2) (Lib.fineR (T := T) rfl posB wx0_3) (Lib.fineR (T := T) rfl posB wx0_4) wx0_5 (Lib.fineR (T := T) rfl posB wx0_6) ⟨(Lib.fineR (T := T) rfl posB wx0_7), ir7 wx0_7⟩ wx0_8, U3.lawc x0_0 x0_1 x0_2 x0_3 x0_4 x0_5 x0_6 x0_7 x0_8 wx0_0 (Lib.fineR (T := T) rfl posB wx0_1) (Lib.fineR (T := T) rfl posB wx0_2) (Lib.fineR (T := T) rfl posB wx0_3) (Lib.fineR (T := T) rfl posB wx0_4) wx0_5 (Lib.fineR (T := T) rfl posB wx0_6) ⟨(Lib.fineR (T := T) rfl posB wx0_7), ir7 wx0_7⟩ wx0_8]
abbrev ag : Array Value := #[.agg #[.int .i64 0, .slice none 0 0, .slice none 0 0, .slice none 0 0, .slice none 0 0, .int .i64 0, .slice none 0 0, .slice none 0 0, .int .i64 0]]
/-- A world for the witness: the settled one, in which the listed variables hold what their initialisers lay. -/
noncomputable def laidWorld (os : Os) : World :=
  { World.holding Tryd.prog os ⟨#[], #[], []⟩ with heap := (((World.holding Tryd.prog os ⟨#[], #[], []⟩).heap.modify 6 (layO (layC Rows.laid_math_bits_deBruijn32tab))).modify 7 (layO (layC Rows.laid_math_bits_deBruijn64tab))).modify 1 (layO (layC Rows.laid_internal_strconv_uint64pow10)) }
theorem laid_met (os : Os) : laidMet Tryd.prog Rows.fnExactShowClientsRow.laid ((laidWorld os).forCall (fun _ _ => 0) ⟨#[], ag, []⟩).memory :=
  laidMet_of_run' 8 (by kernel_rfl) (by kernel_rfl)
theorem reads (os : Os) {H : Type} (enc : TypeId × Value → H) : ∃ ds places, DataW.whole enc Tryd.prog ((laidWorld os).forCall (fun _ _ => 0) ⟨#[], ag, []⟩).memory Tryd.f3.params.toList Rows.fnExactShowClientsSpec.vars false ag.toList 8 = some (ds, [], places) :=
  by
  have h : (DataW.whole enc Tryd.prog ((laidWorld os).forCall (fun _ _ => 0) ⟨#[], ag, []⟩).memory Tryd.f3.params.toList Rows.fnExactShowClientsSpec.vars false ag.toList 8).map (fun x => x.2.1) = some [] := by kernel_rfl
  obtain ⟨x, hx, h2⟩ := Option.map_eq_some_iff.1 h
  exact ⟨x.1, x.2.2, by rw [hx, ← h2]⟩
set_option maxHeartbeats 4000000 in
theorem lifted (os : Os) (started : os.Started) (H : Type) (enc : TypeId × Value → H) (F : Stop.Interp) :
    ReturnsInHanded {} Tryd.checked os 3 .any ((OpenSpec.ofChange Rows.fnExactShowClientsSpec).preRow enc Tryd.prog Tryd.f3 Rows.fnExactShowClientsRow.domain false Rows.fnExactShowClientsRow.laid) (((OpenSpec.ofChange Rows.fnExactShowClientsSpec).at F).post enc Tryd.prog Tryd.f3 false true false false) := by
  obtain ⟨ds, places, hx⟩ := reads os enc
  refine returnsInHanded_of_row (C := Tryd.checked) (s := OpenSpec.ofChange Rows.fnExactShowClientsSpec) own started (by kernel_rfl) Tryd.func3
    (witness_row_at (enc := enc) (C := Tryd.checked) false (laidWorld os) ag rfl (by kernel_rfl) (by kernel_rfl) (by kernel_rfl)
      (OpenSpec.preRow_of_cond 8 hx rfl (fun k hk => by cases hk) (by kernel_rfl) (laid_met os))) ?_
  intro W base args ds gs before hval hW _ _ hsz hL hsh _
  exact law_contract (C := Tryd.checked) (T := T) hE laidOut (n := 12) ok3 (by kernel_rfl) (by kernel_rfl) Tryd.underlying4 rfl (fun ds h => by match ds, h with | [d0], _ => rfl) claim W base args ds gs before hval hW hsz (known hL hsh)
theorem andI {a b : Bool} (ha : a = true) (hb : b = true) : (a && b) = true := by rw [ha, hb]; rfl
set_option maxHeartbeats 4000000 in
theorem closed : joinedFacts Tryd.pinned.checked.prog 3 Tryd.f3 Rows.fnExactShowClientsSpec Rows.fnExactShowClientsRow = true := by
  unfold joinedFacts
  repeat' with_reducible refine andI ?_ ?_
  all_goals as_aux_lemma => kernel_rfl
theorem said : Rows.FnExactShowClientsSaid :=
  OpenClaim.holds_of_cond 3 Tryd.f3 rfl rfl rfl rfl rfl rfl rfl ⟨rfl, rfl, rfl, rfl, rfl⟩ rfl rfl rfl rfl rfl (by kernel_rfl) Tryd.func3 closed
    (of_decide_eq_true (by kernel_rfl)) (by unfold Func.isWrapper; first | (rw [if_pos (by decide +kernel)]; kernel_rfl) | (rw [if_neg (by decide +kernel)]; exact ⟨rfl, rfl⟩))
    (fun os started H enc _ F => by rw [OpenClaim.pre_eq_preRow]; exact lifted os started H enc F)
theorem plain (f : FuncId) (fn : Func) (hf : Tryd.pinned.checked.prog.funcNamed Rows.fnExactShowClientsRow.func = some f) (hfn : Tryd.pinned.checked.prog.funcs[f]? = some fn) :
    true = Tryd.pinned.checked.prog.looks [] ∧ ∀ (j : Nat) t, fn.params[j]? = some t → Tryd.pinned.checked.prog.wantsStandIn t = false := by
  obtain rfl : f = 3 := Option.some.inj ((show Tryd.prog.funcNamed Rows.fnExactShowClientsRow.func = some 3 by kernel_rfl).symm.trans hf) |>.symm
  obtain rfl : fn = Tryd.f3 := (Option.some.inj (Tryd.func3.symm.trans hfn)).symm
  refine ⟨by kernel_rfl, fun j t ht => ?_⟩
  rw [Tryd.params3] at ht
  have hm : t ∈ [32] := by simpa using Array.mem_of_getElem? ht
  have hall : ([32].all fun u => !Tryd.prog.wantsStandIn u) = true := by kernel_rfl
  exact (show Tryd.prog.wantsStandIn t = false by simpa using List.all_eq_true.1 hall t hm)
theorem proved : Rows.FnExactShowClientsCardSaid :=
  Claim7.holds_tied_plain_at .later [] _ _ _ _ said (fun _ h => by cases h) (by kernel_rfl) (fun _ h => by cases h) fnExactShowClients_row_tie rfl ⟨rfl, rfl⟩ (by kernel_rfl) rfl plain (by kernel_rfl)
end Go.Proofs.YtpcfgiocpohbmaaDoor.fnExactShowClients
namespace Go.Proofs.YtpcfgiocpohbmaaDoor
/-- The card, under a short name, for the claim. -/
theorem fnExactShowClients_holds : Rows.FnExactShowClientsCardSaid := fnExactShowClients.proved
#print axioms fnExactShowClients_holds
end Go.Proofs.YtpcfgiocpohbmaaDoor
