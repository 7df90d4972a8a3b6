/- The law FnExactReadScript: whatever it is called with, it answers true and leaves what was there as it was; the package's variables that the card lists hold what the program's own initialisers lay, as the given tie shows. No other condition. -/
import Derived.Test.YtpcfgiocpohbmaaDoorCards
import Derived.Test.YtpcfgiocpohbmaaDoorTie
import Derived.Test.YtpcfgiocpohbmaaDoorSExactReadScript
import Derived.Test.YtpcfgiocpohbmaaDoorFExactReadScript
import Derived.WalkKit
import Derived.ProofKit
import Derived.OpenShut
import Derived.Deep.DeepHandedRow
import Derived.Lib.LaidTab
import Derived.Stop.LaidErr
set_option linter.unusedVariables false
set_option linter.unusedSimpArgs false
set_option maxRecDepth 100000
namespace Go.Proofs.YtpcfgiocpohbmaaDoor.fnExactReadScript
open Go.ChangeShapes Go.WideShapes Go.ChangeAt Go.RowKit
open Go.FG Go.FG.Se
theorem own : ownKnob Tryd.prog.godebug = none := by kernel_rfl
theorem laidOut : laidOutB Tryd.prog = true := by kernel_rfl
theorem posB : rows.all (fun r => Nat.blt 0 r.ti.bytes) = true := by kernel_rfl
def layC : Nat → DataW Unit → List Value
  | 0, _ => []
  | n + 1, .agg l => l.flatMap (layC n)
  | _, .lit (.int k n) => [Value.int k n]
  | _, _ => []
def layO (d : DataW Unit) : Go.Obj → Go.Obj
  | .cells _ t fr => .cells (layC 4 d).toArray t fr
  | o => o
def layE (b : Nat) : Go.Obj → Go.Obj
  | .cells _ t fr => .cells #[.iface 161 (.pointer (some ⟨b, 0, none⟩))] t fr
  | o => o
theorem star : "*" ++ "errors.errorString" = "*errors.errorString" := by decide
theorem row161 (u : TypeId) (h : Tryd.prog.typeName? 3 u = some "*errors.errorString") : u = 161 :=
  typeName_ptr_named (nm := "errors.errorString") (by rw [star]; kernel_rfl) (by kernel_rfl) (by decide) u (by rw [star]; exact h)
theorem known {W : World} (hL : laidMetH Tryd.prog Rows.fnExactReadScriptRow.laid W) (hsh : W.ShapedOpen Tryd.prog) : T.gp.f W (AllK W) := by
  have h : laidMet Tryd.prog Rows.fnExactReadScriptRow.laid W := hL
  have h3 : laidMet Tryd.prog (("internal/strconv.uint64pow10", Rows.laid_internal_strconv_uint64pow10) :: [("unicode/utf8.acceptRanges", Rows.laid_unicode_utf8_acceptRanges), ("strconv.ErrRange", Rows.laid_strconv_ErrRange), ("strconv.ErrSyntax", Rows.laid_strconv_ErrSyntax), ("unicode/utf8.first", Rows.laid_unicode_utf8_first)]) W := laidMet.tail (laidMet.tail h)
  have h5 : laidMet Tryd.prog (("strconv.ErrRange", Rows.laid_strconv_ErrRange) :: [("strconv.ErrSyntax", Rows.laid_strconv_ErrSyntax), ("unicode/utf8.first", Rows.laid_unicode_utf8_first)]) W := laidMet.tail (laidMet.tail h3)
  have h6 : laidMet Tryd.prog (("strconv.ErrSyntax", Rows.laid_strconv_ErrSyntax) :: [("unicode/utf8.first", Rows.laid_unicode_utf8_first)]) W := laidMet.tail h5
  rw [show (Rows.laid_internal_strconv_uint64pow10 : DataW Unit) = Go.Lib.tabData .u64 Go.Lib.pow10Tab by kernel_rfl] at h3
  have t := Go.Lib.tabIs_of_head (g := 1) (t := 141) (e := 127) (n := 20) (by kernel_rfl) (by kernel_rfl) Tryd.underlying141 Tryd.underlying127 (by kernel_rfl) (by kernel_rfl) h3
  obtain ⟨_, _, hr, _⟩ := laid_sentinel h5 (g := 5) (ti := 116) (tp := 161) (te := 163) (ts := 9) (by kernel_rfl) (by kernel_rfl) Tryd.underlying116 row161 Tryd.underlying161 Tryd.underlying163 rfl rfl Tryd.underlying9 (by kernel_rfl) (by kernel_rfl)
  obtain ⟨_, _, hs, _⟩ := laid_sentinel h6 (g := 4) (ti := 116) (tp := 161) (te := 163) (ts := 9) (by kernel_rfl) (by kernel_rfl) Tryd.underlying116 row161 Tryd.underlying161 Tryd.underlying163 rfl rfl Tryd.underlying9 (by kernel_rfl) (by kernel_rfl)
  obtain ⟨m, hm⟩ := Tryd.lays146.s1_3 W hsh
  exact ⟨⟨⟨varInv_all (hg := by kernel_rfl) t rfl, varInv_all (hg := by kernel_rfl) hs ⟨_, _, rfl⟩⟩, varInv_all (hg := by kernel_rfl) hr ⟨_, _, rfl⟩⟩, intInv_all hm⟩
abbrev textS : ByteArray := { data := #[105, 110, 118, 97, 108, 105, 100, 32, 115, 121, 110, 116, 97, 120] }
abbrev textR : ByteArray := { data := #[118, 97, 108, 117, 101, 32, 111, 117, 116, 32, 111, 102, 32, 114, 97, 110, 103, 101] }
noncomputable def low : Nat := (World.holding Tryd.prog default ⟨#[], #[], []⟩).heap.size
theorem claim : ∀ yss, TypedAll T [9] yss → sp4 (argsCV T [9] yss) = some (true, ⟨[.v false [.b true]], []⟩) := by
  intro yss hy
  have h0 := hy
  obtain ⟨ys0, yss0, rfl, ⟨ti0, ht0, hk0_0⟩, hf0_0, h1⟩ := typed_cons h0
  obtain rfl : _ = ti0 := Option.some.inj ((show T.ty 9 = some ⟨false, [.s], 16⟩ by kernel_rfl).symm.trans ht0)
  obtain ⟨y0_0, r0_0, rfl, q0_0, f0_0, hk0_1, hf0_1⟩ := kd_cons hk0_0 hf0_0
  obtain ⟨x0_0, rfl, wx0_0⟩ := kd_s q0_0 f0_0
  obtain rfl := kd_nil hk0_1
  obtain rfl := typed_nil h1
  show some (U4.c x0_0, (⟨[.v false [.b (U4.v x0_0)]], []⟩ : Res)) = _
  rw [U4.law x0_0 wx0_0, U4.lawc x0_0 wx0_0]
abbrev ag : Array Value := #[.string ByteArray.empty]
/-- A world for the witness: the settled one, in which the listed variables hold what their initialisers lay. -/
noncomputable def laidWorld (os : Os) : World :=
  { (World.holding Tryd.prog os ⟨#[.cells #[.string textS] 163, .cells #[.string textR] 163], #[], []⟩) with heap := ((((((((World.holding Tryd.prog os ⟨#[.cells #[.string textS] 163, .cells #[.string textR] 163], #[], []⟩).heap.modify 6 (layO Rows.laid_math_bits_deBruijn32tab)).modify 7 (layO Rows.laid_math_bits_deBruijn64tab)).modify 1 (layO Rows.laid_internal_strconv_uint64pow10)).modify 3 (layO Rows.laid_unicode_utf8_acceptRanges)).modify 2 (layO Rows.laid_unicode_utf8_first)).modify 4 (layE low)).modify 5 (layE (low + 1))) }
theorem laid_met (os : Os) : laidMet Tryd.prog Rows.fnExactReadScriptRow.laid ((laidWorld os).forCall (fun _ _ => 0) ⟨#[], ag, []⟩).memory :=
  laidMet_of_run' 8 (by kernel_rfl) (by kernel_rfl)
theorem reads (os : Os) {H : Type} (enc : TypeId × Value → H) : ∃ ds places, DataW.whole enc Tryd.prog ((laidWorld os).forCall (fun _ _ => 0) ⟨#[], ag, []⟩).memory Tryd.f4.params.toList Rows.fnExactReadScriptSpec.vars false ag.toList 8 = some (ds, [], places) :=
  by
  have h : (DataW.whole enc Tryd.prog ((laidWorld os).forCall (fun _ _ => 0) ⟨#[], ag, []⟩).memory Tryd.f4.params.toList Rows.fnExactReadScriptSpec.vars false ag.toList 8).map (fun x => x.2.1) = some [] := by kernel_rfl
  obtain ⟨x, hx, h2⟩ := Option.map_eq_some_iff.1 h
  exact ⟨x.1, x.2.2, by rw [hx, ← h2]⟩
set_option maxHeartbeats 4000000 in
theorem lifted (os : Os) (started : os.Started) (H : Type) (enc : TypeId × Value → H) (F : Stop.Interp) :
    ReturnsInHanded {} Tryd.checked os 4 .any ((OpenSpec.ofChange Rows.fnExactReadScriptSpec).preRow enc Tryd.prog Tryd.f4 Rows.fnExactReadScriptRow.domain false Rows.fnExactReadScriptRow.laid) (((OpenSpec.ofChange Rows.fnExactReadScriptSpec).at F).post enc Tryd.prog Tryd.f4 false true false false) := by
  obtain ⟨ds, places, hx⟩ := reads os enc
  refine returnsInHanded_of_row (C := Tryd.checked) (s := OpenSpec.ofChange Rows.fnExactReadScriptSpec) own started (by kernel_rfl) Tryd.func4
    (witness_row_at (enc := enc) (C := Tryd.checked) false (laidWorld os) ag rfl (by kernel_rfl) (by kernel_rfl) (by kernel_rfl)
      (OpenSpec.preRow_of_cond 8 hx rfl (fun k hk => by cases hk) (by kernel_rfl) (laid_met os))) ?_
  intro W base args ds gs before hval hW _ _ hsz hL hsh _
  exact law_contract (C := Tryd.checked) (T := T) hE laidOut (n := 12) ok4 (by kernel_rfl) (by kernel_rfl) Tryd.underlying4 rfl (fun ds h => by match ds, h with | [d0], _ => rfl) claim W base args ds gs before hval hW hsz (known hL hsh)
theorem andI {a b : Bool} (ha : a = true) (hb : b = true) : (a && b) = true := by rw [ha, hb]; rfl
set_option maxHeartbeats 4000000 in
theorem closed : joinedFacts Tryd.pinned.checked.prog 4 Tryd.f4 Rows.fnExactReadScriptSpec Rows.fnExactReadScriptRow = true := by
  unfold joinedFacts
  repeat' with_reducible refine andI ?_ ?_
  all_goals as_aux_lemma => kernel_rfl
theorem said : Rows.FnExactReadScriptSaid :=
  OpenClaim.holds_of_cond 4 Tryd.f4 rfl rfl rfl rfl rfl rfl rfl ⟨rfl, rfl, rfl, rfl, rfl⟩ rfl rfl rfl rfl rfl (by kernel_rfl) Tryd.func4 closed
    (of_decide_eq_true (by kernel_rfl)) (by unfold Func.isWrapper; first | (rw [if_pos (by decide +kernel)]; kernel_rfl) | (rw [if_neg (by decide +kernel)]; exact ⟨rfl, rfl⟩))
    (fun os started H enc _ F => by rw [OpenClaim.pre_eq_preRow]; exact lifted os started H enc F)
theorem plain (f : FuncId) (fn : Func) (hf : Tryd.pinned.checked.prog.funcNamed Rows.fnExactReadScriptRow.func = some f) (hfn : Tryd.pinned.checked.prog.funcs[f]? = some fn) :
    true = Tryd.pinned.checked.prog.looks [] ∧ ∀ (j : Nat) t, fn.params[j]? = some t → Tryd.pinned.checked.prog.wantsStandIn t = false := by
  obtain rfl : f = 4 := Option.some.inj ((show Tryd.prog.funcNamed Rows.fnExactReadScriptRow.func = some 4 by kernel_rfl).symm.trans hf) |>.symm
  obtain rfl : fn = Tryd.f4 := (Option.some.inj (Tryd.func4.symm.trans hfn)).symm
  refine ⟨by kernel_rfl, fun j t ht => ?_⟩
  rw [Tryd.params4] at ht
  have hm : t ∈ [9] := by simpa using Array.mem_of_getElem? ht
  have hall : ([9].all fun u => !Tryd.prog.wantsStandIn u) = true := by kernel_rfl
  exact (show Tryd.prog.wantsStandIn t = false by simpa using List.all_eq_true.1 hall t hm)
theorem proved : Rows.FnExactReadScriptCardSaid :=
  Claim7.holds_tied_plain_at .later [] _ _ _ _ said (fun _ h => by cases h) (by kernel_rfl) (fun _ h => by cases h) fnExactReadScript_row_tie rfl ⟨rfl, rfl⟩ (by kernel_rfl) rfl plain (by kernel_rfl)
end Go.Proofs.YtpcfgiocpohbmaaDoor.fnExactReadScript
namespace Go.Proofs.YtpcfgiocpohbmaaDoor
/-- The card, under a short name, for the claim. -/
theorem fnExactReadScript_holds : Rows.FnExactReadScriptCardSaid := fnExactReadScript.proved
#print axioms fnExactReadScript_holds
end Go.Proofs.YtpcfgiocpohbmaaDoor
