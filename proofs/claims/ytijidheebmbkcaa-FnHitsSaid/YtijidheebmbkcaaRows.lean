/-
  No cell of these rows narrows 'for every input' (looked for: loops, veiled, ifaces, maps, wideKeys, modest, calm, conditions, laid).
  DERIVED. THE GIVEN ROWS OF THIS SEAT. 8 by the template 'for every input the law returns true; each argument reads behind the call as it read before'; 0 by the template 'total and deterministic' (their statements: YtijidheebmbkcaaTotals.lean).
  GIVEN WITH THE SEED: the statements are not yours to turn. If you find one false, say at which input.
  Laid BY PROGRAM, IN A SANDBOX (cutbox-rows.mjs): the forced cells as the released guide's own fill.sh prints them over the translation 0a409431cf70af37… (all of the seat's roots in one cut). By AI agents, Wed Nov 11 2026. No macro, syntax, notation, axiom, sorry.
-/
import Derived.Test.YtijidheebmbkcaaChecked
import GoSem.Claim
import GoSem.ClaimJoined
import GoSem.ClaimMapViews
import Derived.JoinedTies
import Derived.KernelRfl
namespace Go.Proofs.Ytijidheebmbkcaa
/- THE CELL 'sum', in the pinned program and in every row, IS THE sha256 OF THE DUMP (.gsa) THAT YtijidheebmbkcaaProg.lean LOADS. Nothing in Lean hashes anything: it is a label: what it is worth is what the hold of that sum in a sandbox is worth. -/
noncomputable def Try.pinned : Pinned := { name := "ytijidheebmbkcaa", sum := "0a409431cf70af377cff9729f5dfc54619b8c02679cfc43de0339efe955bffd6", checked := Try.checked }
namespace Rows
def none {H : Type} : Left H := { results := [], args := [] }

/-- 'laws.FnAnew': WHATEVER THE INPUT: true; the input reads as it did. -/
def fnAnewSpec : ChangeSpec := { name := "fnAnew", fn := fun _ => fun
  | [d] => { results := [.lit (.bool true)], args := [d] }
  | _ => none }
def fnAnewRow : OpenClaim := { program := "ytijidheebmbkcaa", sum := "0a409431cf70af377cff9729f5dfc54619b8c02679cfc43de0339efe955bffd6", func := "loop.example/g00245/laws.FnAnew", spec := "fnAnew", inPlace := ["slices.overlaps[loop.example/g00245/impl.File]", "slices.overlaps[loop.example/g00245/impl.Entry]"], unfollowed := true, recurses := true, apart := false }
def FnAnewSaid : Prop := fnAnewRow.holds Try.pinned (OpenSpec.ofChange fnAnewSpec)

/-- ITS FALSE NEIGHBOUR: 'it returns false'. Refute it at one input. -/
def fnAnewWrong : ChangeSpec := { name := "fnAnew", fn := fun _ => fun
  | [d] => { results := [.lit (.bool false)], args := [d] }
  | _ => none }
def FnAnewWrongFalsely : Prop := fnAnewRow.holds Try.pinned (OpenSpec.ofChange fnAnewWrong)

/-- 'laws.FnHits': WHATEVER THE INPUT: true; the input reads as it did. -/
def fnHitsSpec : ChangeSpec := { name := "fnHits", fn := fun _ => fun
  | [d] => { results := [.lit (.bool true)], args := [d] }
  | _ => none }
def fnHitsRow : OpenClaim := { program := "ytijidheebmbkcaa", sum := "0a409431cf70af377cff9729f5dfc54619b8c02679cfc43de0339efe955bffd6", func := "loop.example/g00245/laws.FnHits", spec := "fnHits", inPlace := ["slices.overlaps[loop.example/g00245/impl.Client]", "slices.overlaps[loop.example/g00245/impl.Entry]"], unfollowed := true, recurses := true, apart := false }
def FnHitsSaid : Prop := fnHitsRow.holds Try.pinned (OpenSpec.ofChange fnHitsSpec)

/-- ITS FALSE NEIGHBOUR: 'it returns false'. Refute it at one input. -/
def fnHitsWrong : ChangeSpec := { name := "fnHits", fn := fun _ => fun
  | [d] => { results := [.lit (.bool false)], args := [d] }
  | _ => none }
def FnHitsWrongFalsely : Prop := fnHitsRow.holds Try.pinned (OpenSpec.ofChange fnHitsWrong)

/-- 'laws.FnExactPolicyTouch': WHATEVER THE INPUT: true; the input reads as it did. -/
def fnExactPolicyTouchSpec : ChangeSpec := { name := "fnExactPolicyTouch", fn := fun _ => fun
  | [d1, d2] => { results := [.lit (.bool true)], args := [d1, d2] }
  | _ => none }
def fnExactPolicyTouchRow : OpenClaim := { program := "ytijidheebmbkcaa", sum := "0a409431cf70af377cff9729f5dfc54619b8c02679cfc43de0339efe955bffd6", func := "loop.example/g00245/laws.FnExactPolicyTouch", spec := "fnExactPolicyTouch", unfollowed := true, recurses := true, apart := false }
def FnExactPolicyTouchSaid : Prop := fnExactPolicyTouchRow.holds Try.pinned (OpenSpec.ofChange fnExactPolicyTouchSpec)

/-- ITS FALSE NEIGHBOUR: 'it returns false'. Refute it at one input. -/
def fnExactPolicyTouchWrong : ChangeSpec := { name := "fnExactPolicyTouch", fn := fun _ => fun
  | [d1, d2] => { results := [.lit (.bool false)], args := [d1, d2] }
  | _ => none }
def FnExactPolicyTouchWrongFalsely : Prop := fnExactPolicyTouchRow.holds Try.pinned (OpenSpec.ofChange fnExactPolicyTouchWrong)

/-- 'laws.FnExactProxyOk': WHATEVER THE INPUT: true; the input reads as it did. -/
def fnExactProxyOkSpec : ChangeSpec := { name := "fnExactProxyOk", fn := fun _ => fun
  | [d] => { results := [.lit (.bool true)], args := [d] }
  | _ => none }
def fnExactProxyOkRow : OpenClaim := { program := "ytijidheebmbkcaa", sum := "0a409431cf70af377cff9729f5dfc54619b8c02679cfc43de0339efe955bffd6", func := "loop.example/g00245/laws.FnExactProxyOk", spec := "fnExactProxyOk", unfollowed := true, recurses := true, apart := false }
def FnExactProxyOkSaid : Prop := fnExactProxyOkRow.holds Try.pinned (OpenSpec.ofChange fnExactProxyOkSpec)

/-- ITS FALSE NEIGHBOUR: 'it returns false'. Refute it at one input. -/
def fnExactProxyOkWrong : ChangeSpec := { name := "fnExactProxyOk", fn := fun _ => fun
  | [d] => { results := [.lit (.bool false)], args := [d] }
  | _ => none }
def FnExactProxyOkWrongFalsely : Prop := fnExactProxyOkRow.holds Try.pinned (OpenSpec.ofChange fnExactProxyOkWrong)

/-- 'laws.FnKept': WHATEVER THE INPUT: true; the input reads as it did. -/
def fnKeptSpec : ChangeSpec := { name := "fnKept", fn := fun _ => fun
  | [d] => { results := [.lit (.bool true)], args := [d] }
  | _ => none }
def fnKeptRow : OpenClaim := { program := "ytijidheebmbkcaa", sum := "0a409431cf70af377cff9729f5dfc54619b8c02679cfc43de0339efe955bffd6", func := "loop.example/g00245/laws.FnKept", spec := "fnKept", inPlace := ["slices.overlaps[loop.example/g00245/impl.File]", "slices.overlaps[loop.example/g00245/impl.Entry]"], unfollowed := true, recurses := true, apart := false }
def FnKeptSaid : Prop := fnKeptRow.holds Try.pinned (OpenSpec.ofChange fnKeptSpec)

/-- ITS FALSE NEIGHBOUR: 'it returns false'. Refute it at one input. -/
def fnKeptWrong : ChangeSpec := { name := "fnKept", fn := fun _ => fun
  | [d] => { results := [.lit (.bool false)], args := [d] }
  | _ => none }
def FnKeptWrongFalsely : Prop := fnKeptRow.holds Try.pinned (OpenSpec.ofChange fnKeptWrong)

/-- 'laws.FnExactPassTime': WHATEVER THE INPUT: true; the input reads as it did. -/
def fnExactPassTimeSpec : ChangeSpec := { name := "fnExactPassTime", fn := fun _ => fun
  | [d1, d2] => { results := [.lit (.bool true)], args := [d1, d2] }
  | _ => none }
def fnExactPassTimeRow : OpenClaim := { program := "ytijidheebmbkcaa", sum := "0a409431cf70af377cff9729f5dfc54619b8c02679cfc43de0339efe955bffd6", func := "loop.example/g00245/laws.FnExactPassTime", spec := "fnExactPassTime", apart := false }
def FnExactPassTimeSaid : Prop := fnExactPassTimeRow.holds Try.pinned (OpenSpec.ofChange fnExactPassTimeSpec)

/-- ITS FALSE NEIGHBOUR: 'it returns false'. Refute it at one input. -/
def fnExactPassTimeWrong : ChangeSpec := { name := "fnExactPassTime", fn := fun _ => fun
  | [d1, d2] => { results := [.lit (.bool false)], args := [d1, d2] }
  | _ => none }
def FnExactPassTimeWrongFalsely : Prop := fnExactPassTimeRow.holds Try.pinned (OpenSpec.ofChange fnExactPassTimeWrong)

/-- 'laws.FnKeptCut': WHATEVER THE INPUT: true; the input reads as it did. -/
def fnKeptCutSpec : ChangeSpec := { name := "fnKeptCut", fn := fun _ => fun
  | [d] => { results := [.lit (.bool true)], args := [d] }
  | _ => none }
def fnKeptCutRow : OpenClaim := { program := "ytijidheebmbkcaa", sum := "0a409431cf70af377cff9729f5dfc54619b8c02679cfc43de0339efe955bffd6", func := "loop.example/g00245/laws.FnKeptCut", spec := "fnKeptCut", inPlace := ["slices.overlaps[loop.example/g00245/impl.File]", "slices.overlaps[loop.example/g00245/impl.Entry]"], unfollowed := true, recurses := true, apart := false }
def FnKeptCutSaid : Prop := fnKeptCutRow.holds Try.pinned (OpenSpec.ofChange fnKeptCutSpec)

/-- ITS FALSE NEIGHBOUR: 'it returns false'. Refute it at one input. -/
def fnKeptCutWrong : ChangeSpec := { name := "fnKeptCut", fn := fun _ => fun
  | [d] => { results := [.lit (.bool false)], args := [d] }
  | _ => none }
def FnKeptCutWrongFalsely : Prop := fnKeptCutRow.holds Try.pinned (OpenSpec.ofChange fnKeptCutWrong)

/-- 'laws.FnExactLeaveClient': WHATEVER THE INPUT: true; the input reads as it did. -/
def fnExactLeaveClientSpec : ChangeSpec := { name := "fnExactLeaveClient", fn := fun _ => fun
  | [d1, d2] => { results := [.lit (.bool true)], args := [d1, d2] }
  | _ => none }
def fnExactLeaveClientRow : OpenClaim := { program := "ytijidheebmbkcaa", sum := "0a409431cf70af377cff9729f5dfc54619b8c02679cfc43de0339efe955bffd6", func := "loop.example/g00245/laws.FnExactLeaveClient", spec := "fnExactLeaveClient", unfollowed := true, recurses := true, apart := false }
def FnExactLeaveClientSaid : Prop := fnExactLeaveClientRow.holds Try.pinned (OpenSpec.ofChange fnExactLeaveClientSpec)

/-- ITS FALSE NEIGHBOUR: 'it returns false'. Refute it at one input. -/
def fnExactLeaveClientWrong : ChangeSpec := { name := "fnExactLeaveClient", fn := fun _ => fun
  | [d1, d2] => { results := [.lit (.bool false)], args := [d1, d2] }
  | _ => none }
def FnExactLeaveClientWrongFalsely : Prop := fnExactLeaveClientRow.holds Try.pinned (OpenSpec.ofChange fnExactLeaveClientWrong)

/- THE SECOND FORM. 'bulk': how many values and letters a reading holds, each counted each time it is reached (what is shared counts as often as it is met; a slice's spare places count too). A statement '..UptoSaid' is the law's where the arguments, and the package variables that the reading takes, are together of bulk at most 1048576: NARROWER than '..Said'. Prove '..Said' where nothing that the law and all that it calls make is longer than what came in: it says more and counts as full. Else prove '..UptoSaid'. A law counts once. -/
mutual
def uptoBulk {H : Type} : DataW H → Nat
  | .lit (.string bytes) => bytes.length + 1
  | .lit _ => 1
  | .nil => 1
  | .ptr d => uptoBulk d + 1
  | .slice elems spare => uptoBulkAll elems + uptoBulkAll spare + 1
  | .agg parts => uptoBulkAll parts + 1
  | .iface _ d => uptoBulk d + 1
  | .map entries => uptoBulkEntries entries + 1
  | .held _ => 1
def uptoBulkAll {H : Type} : List (DataW H) → Nat
  | [] => 0
  | d :: r => uptoBulk d + uptoBulkAll r
def uptoBulkEntries {H : Type} : List (Lit × DataW H) → Nat
  | [] => 0
  | x :: r => uptoBulkEntry x + uptoBulkEntries r
def uptoBulkEntry {H : Type} : Lit × DataW H → Nat
  | (.string bytes, d) => bytes.length + uptoBulk d + 1
  | (_, d) => uptoBulk d + 1
 end
def uptoSmall : (H : Type) → List (DataW H) → Bool := fun _ ds => decide (uptoBulkAll ds ≤ 1048576)
def OpenSpec.upto (s : _root_.Go.ChangeSpec) : _root_.Go.OpenSpec := { _root_.Go.OpenSpec.ofChange s with cond := some uptoSmall }

/-- 'laws.FnAnew', WHERE WHAT IT READS IS OF BULK AT MOST 1048576: true; the input reads as it did. -/
def fnAnewUptoRow : OpenClaim := { program := "ytijidheebmbkcaa", sum := "0a409431cf70af377cff9729f5dfc54619b8c02679cfc43de0339efe955bffd6", func := "loop.example/g00245/laws.FnAnew", spec := "fnAnew", inPlace := ["slices.overlaps[loop.example/g00245/impl.File]", "slices.overlaps[loop.example/g00245/impl.Entry]"], unfollowed := true, recurses := true, apart := false, narrowed := true }
def FnAnewUptoSaid : Prop := fnAnewUptoRow.holds Try.pinned (OpenSpec.upto fnAnewSpec)

/-- 'laws.FnHits', WHERE WHAT IT READS IS OF BULK AT MOST 1048576: true; the input reads as it did. -/
def fnHitsUptoRow : OpenClaim := { program := "ytijidheebmbkcaa", sum := "0a409431cf70af377cff9729f5dfc54619b8c02679cfc43de0339efe955bffd6", func := "loop.example/g00245/laws.FnHits", spec := "fnHits", inPlace := ["slices.overlaps[loop.example/g00245/impl.Client]", "slices.overlaps[loop.example/g00245/impl.Entry]"], unfollowed := true, recurses := true, apart := false, narrowed := true }
def FnHitsUptoSaid : Prop := fnHitsUptoRow.holds Try.pinned (OpenSpec.upto fnHitsSpec)

/-- 'laws.FnExactPolicyTouch', WHERE WHAT IT READS IS OF BULK AT MOST 1048576: true; the input reads as it did. -/
def fnExactPolicyTouchUptoRow : OpenClaim := { program := "ytijidheebmbkcaa", sum := "0a409431cf70af377cff9729f5dfc54619b8c02679cfc43de0339efe955bffd6", func := "loop.example/g00245/laws.FnExactPolicyTouch", spec := "fnExactPolicyTouch", unfollowed := true, recurses := true, apart := false, narrowed := true }
def FnExactPolicyTouchUptoSaid : Prop := fnExactPolicyTouchUptoRow.holds Try.pinned (OpenSpec.upto fnExactPolicyTouchSpec)

/-- 'laws.FnExactProxyOk', WHERE WHAT IT READS IS OF BULK AT MOST 1048576: true; the input reads as it did. -/
def fnExactProxyOkUptoRow : OpenClaim := { program := "ytijidheebmbkcaa", sum := "0a409431cf70af377cff9729f5dfc54619b8c02679cfc43de0339efe955bffd6", func := "loop.example/g00245/laws.FnExactProxyOk", spec := "fnExactProxyOk", unfollowed := true, recurses := true, apart := false, narrowed := true }
def FnExactProxyOkUptoSaid : Prop := fnExactProxyOkUptoRow.holds Try.pinned (OpenSpec.upto fnExactProxyOkSpec)

/-- 'laws.FnKept', WHERE WHAT IT READS IS OF BULK AT MOST 1048576: true; the input reads as it did. -/
def fnKeptUptoRow : OpenClaim := { program := "ytijidheebmbkcaa", sum := "0a409431cf70af377cff9729f5dfc54619b8c02679cfc43de0339efe955bffd6", func := "loop.example/g00245/laws.FnKept", spec := "fnKept", inPlace := ["slices.overlaps[loop.example/g00245/impl.File]", "slices.overlaps[loop.example/g00245/impl.Entry]"], unfollowed := true, recurses := true, apart := false, narrowed := true }
def FnKeptUptoSaid : Prop := fnKeptUptoRow.holds Try.pinned (OpenSpec.upto fnKeptSpec)

/-- 'laws.FnExactPassTime', WHERE WHAT IT READS IS OF BULK AT MOST 1048576: true; the input reads as it did. -/
def fnExactPassTimeUptoRow : OpenClaim := { program := "ytijidheebmbkcaa", sum := "0a409431cf70af377cff9729f5dfc54619b8c02679cfc43de0339efe955bffd6", func := "loop.example/g00245/laws.FnExactPassTime", spec := "fnExactPassTime", apart := false, narrowed := true }
def FnExactPassTimeUptoSaid : Prop := fnExactPassTimeUptoRow.holds Try.pinned (OpenSpec.upto fnExactPassTimeSpec)

/-- 'laws.FnKeptCut', WHERE WHAT IT READS IS OF BULK AT MOST 1048576: true; the input reads as it did. -/
def fnKeptCutUptoRow : OpenClaim := { program := "ytijidheebmbkcaa", sum := "0a409431cf70af377cff9729f5dfc54619b8c02679cfc43de0339efe955bffd6", func := "loop.example/g00245/laws.FnKeptCut", spec := "fnKeptCut", inPlace := ["slices.overlaps[loop.example/g00245/impl.File]", "slices.overlaps[loop.example/g00245/impl.Entry]"], unfollowed := true, recurses := true, apart := false, narrowed := true }
def FnKeptCutUptoSaid : Prop := fnKeptCutUptoRow.holds Try.pinned (OpenSpec.upto fnKeptCutSpec)

/-- 'laws.FnExactLeaveClient', WHERE WHAT IT READS IS OF BULK AT MOST 1048576: true; the input reads as it did. -/
def fnExactLeaveClientUptoRow : OpenClaim := { program := "ytijidheebmbkcaa", sum := "0a409431cf70af377cff9729f5dfc54619b8c02679cfc43de0339efe955bffd6", func := "loop.example/g00245/laws.FnExactLeaveClient", spec := "fnExactLeaveClient", unfollowed := true, recurses := true, apart := false, narrowed := true }
def FnExactLeaveClientUptoSaid : Prop := fnExactLeaveClientUptoRow.holds Try.pinned (OpenSpec.upto fnExactLeaveClientSpec)

end Rows
end Go.Proofs.Ytijidheebmbkcaa
