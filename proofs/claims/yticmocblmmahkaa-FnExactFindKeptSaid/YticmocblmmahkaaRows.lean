/-
  No cell of these rows narrows 'for every input' (looked for: loops, veiled, ifaces, maps, wideKeys, modest, calm, conditions, laid).
  DERIVED. THE GIVEN ROWS OF THIS SEAT. 12 by the template 'for every input the law returns true; each argument reads behind the call as it read before'; 0 by the template 'total and deterministic' (their statements: YticmocblmmahkaaTotals.lean).
  GIVEN WITH THE SEED: the statements are not yours to turn. If you find one false, say at which input.
  Laid BY PROGRAM, IN A SANDBOX (cutbox-rows.mjs): the forced cells as the released guide's own fill.sh prints them over the translation 989906e5b63bdce5… (all of the seat's roots in one cut). By AI agents, Wed Nov 11 2026. No macro, syntax, notation, axiom, sorry.
-/
import Derived.Test.YticmocblmmahkaaChecked
import GoSem.Claim
import GoSem.ClaimJoined
import GoSem.ClaimMapViews
import Derived.JoinedTies
import Derived.KernelRfl
namespace Go.Proofs.Yticmocblmmahkaa
/- THE CELL 'sum', in the pinned program and in every row, IS THE sha256 OF THE DUMP (.gsa) THAT YticmocblmmahkaaProg.lean LOADS. Nothing in Lean hashes anything: it is a label: what it is worth is what the hold of that sum in a sandbox is worth. -/
noncomputable def Try.pinned : Pinned := { name := "yticmocblmmahkaa", sum := "989906e5b63bdce52cd62587f82f54998b7085966d9f6240e0af8ffd6a7b7771", checked := Try.checked }
namespace Rows
def none {H : Type} : Left H := { results := [], args := [] }

/-- 'laws.FnFresh': WHATEVER THE INPUT: true; the input reads as it did. -/
def fnFreshSpec : ChangeSpec := { name := "fnFresh", fn := fun _ => fun
  | [d] => { results := [.lit (.bool true)], args := [d] }
  | _ => none }
def fnFreshRow : OpenClaim := { program := "yticmocblmmahkaa", sum := "989906e5b63bdce52cd62587f82f54998b7085966d9f6240e0af8ffd6a7b7771", func := "loop.example/g00245/laws.FnFresh", spec := "fnFresh", apart := false }
def FnFreshSaid : Prop := fnFreshRow.holds Try.pinned (OpenSpec.ofChange fnFreshSpec)

/-- ITS FALSE NEIGHBOUR: 'it returns false'. Refute it at one input. -/
def fnFreshWrong : ChangeSpec := { name := "fnFresh", fn := fun _ => fun
  | [d] => { results := [.lit (.bool false)], args := [d] }
  | _ => none }
def FnFreshWrongFalsely : Prop := fnFreshRow.holds Try.pinned (OpenSpec.ofChange fnFreshWrong)

/-- 'laws.FnExactKeepActs': WHATEVER THE INPUT: true; the input reads as it did. -/
def fnExactKeepActsSpec : ChangeSpec := { name := "fnExactKeepActs", fn := fun _ => fun
  | [d] => { results := [.lit (.bool true)], args := [d] }
  | _ => none }
def fnExactKeepActsRow : OpenClaim := { program := "yticmocblmmahkaa", sum := "989906e5b63bdce52cd62587f82f54998b7085966d9f6240e0af8ffd6a7b7771", func := "loop.example/g00245/laws.FnExactKeepActs", spec := "fnExactKeepActs", apart := false }
def FnExactKeepActsSaid : Prop := fnExactKeepActsRow.holds Try.pinned (OpenSpec.ofChange fnExactKeepActsSpec)

/-- ITS FALSE NEIGHBOUR: 'it returns false'. Refute it at one input. -/
def fnExactKeepActsWrong : ChangeSpec := { name := "fnExactKeepActs", fn := fun _ => fun
  | [d] => { results := [.lit (.bool false)], args := [d] }
  | _ => none }
def FnExactKeepActsWrongFalsely : Prop := fnExactKeepActsRow.holds Try.pinned (OpenSpec.ofChange fnExactKeepActsWrong)

/-- 'laws.FnEntries': WHATEVER THE INPUT: true; the input reads as it did. -/
def fnEntriesSpec : ChangeSpec := { name := "fnEntries", fn := fun _ => fun
  | [d] => { results := [.lit (.bool true)], args := [d] }
  | _ => none }
def fnEntriesRow : OpenClaim := { program := "yticmocblmmahkaa", sum := "989906e5b63bdce52cd62587f82f54998b7085966d9f6240e0af8ffd6a7b7771", func := "loop.example/g00245/laws.FnEntries", spec := "fnEntries", apart := false }
def FnEntriesSaid : Prop := fnEntriesRow.holds Try.pinned (OpenSpec.ofChange fnEntriesSpec)

/-- ITS FALSE NEIGHBOUR: 'it returns false'. Refute it at one input. -/
def fnEntriesWrong : ChangeSpec := { name := "fnEntries", fn := fun _ => fun
  | [d] => { results := [.lit (.bool false)], args := [d] }
  | _ => none }
def FnEntriesWrongFalsely : Prop := fnEntriesRow.holds Try.pinned (OpenSpec.ofChange fnEntriesWrong)

/-- 'laws.FnEnded': WHATEVER THE INPUT: true; the input reads as it did. -/
def fnEndedSpec : ChangeSpec := { name := "fnEnded", fn := fun _ => fun
  | [d] => { results := [.lit (.bool true)], args := [d] }
  | _ => none }
def fnEndedRow : OpenClaim := { program := "yticmocblmmahkaa", sum := "989906e5b63bdce52cd62587f82f54998b7085966d9f6240e0af8ffd6a7b7771", func := "loop.example/g00245/laws.FnEnded", spec := "fnEnded", inPlace := ["slices.overlaps[loop.example/g00245/impl.Reader]"], unfollowed := true, recurses := true, apart := false }
def FnEndedSaid : Prop := fnEndedRow.holds Try.pinned (OpenSpec.ofChange fnEndedSpec)

/-- ITS FALSE NEIGHBOUR: 'it returns false'. Refute it at one input. -/
def fnEndedWrong : ChangeSpec := { name := "fnEnded", fn := fun _ => fun
  | [d] => { results := [.lit (.bool false)], args := [d] }
  | _ => none }
def FnEndedWrongFalsely : Prop := fnEndedRow.holds Try.pinned (OpenSpec.ofChange fnEndedWrong)

/-- 'laws.FnStreams': WHATEVER THE INPUT: true; the input reads as it did. -/
def fnStreamsSpec : ChangeSpec := { name := "fnStreams", fn := fun _ => fun
  | [d] => { results := [.lit (.bool true)], args := [d] }
  | _ => none }
def fnStreamsRow : OpenClaim := { program := "yticmocblmmahkaa", sum := "989906e5b63bdce52cd62587f82f54998b7085966d9f6240e0af8ffd6a7b7771", func := "loop.example/g00245/laws.FnStreams", spec := "fnStreams", inPlace := ["slices.overlaps[loop.example/g00245/impl.Reader]"], unfollowed := true, recurses := true, apart := false }
def FnStreamsSaid : Prop := fnStreamsRow.holds Try.pinned (OpenSpec.ofChange fnStreamsSpec)

/-- ITS FALSE NEIGHBOUR: 'it returns false'. Refute it at one input. -/
def fnStreamsWrong : ChangeSpec := { name := "fnStreams", fn := fun _ => fun
  | [d] => { results := [.lit (.bool false)], args := [d] }
  | _ => none }
def FnStreamsWrongFalsely : Prop := fnStreamsRow.holds Try.pinned (OpenSpec.ofChange fnStreamsWrong)

/-- 'laws.FnStreamsTold': WHATEVER THE INPUT: true; the input reads as it did. -/
def fnStreamsToldSpec : ChangeSpec := { name := "fnStreamsTold", fn := fun _ => fun
  | [d] => { results := [.lit (.bool true)], args := [d] }
  | _ => none }
def fnStreamsToldRow : OpenClaim := { program := "yticmocblmmahkaa", sum := "989906e5b63bdce52cd62587f82f54998b7085966d9f6240e0af8ffd6a7b7771", func := "loop.example/g00245/laws.FnStreamsTold", spec := "fnStreamsTold", inPlace := ["slices.overlaps[loop.example/g00245/impl.Reader]"], unfollowed := true, recurses := true, apart := false }
def FnStreamsToldSaid : Prop := fnStreamsToldRow.holds Try.pinned (OpenSpec.ofChange fnStreamsToldSpec)

/-- ITS FALSE NEIGHBOUR: 'it returns false'. Refute it at one input. -/
def fnStreamsToldWrong : ChangeSpec := { name := "fnStreamsTold", fn := fun _ => fun
  | [d] => { results := [.lit (.bool false)], args := [d] }
  | _ => none }
def FnStreamsToldWrongFalsely : Prop := fnStreamsToldRow.holds Try.pinned (OpenSpec.ofChange fnStreamsToldWrong)

/-- 'laws.FnExactStreamJoin': WHATEVER THE INPUT: true; the input reads as it did. -/
def fnExactStreamJoinSpec : ChangeSpec := { name := "fnExactStreamJoin", fn := fun _ => fun
  | [d1, d2] => { results := [.lit (.bool true)], args := [d1, d2] }
  | _ => none }
def fnExactStreamJoinRow : OpenClaim := { program := "yticmocblmmahkaa", sum := "989906e5b63bdce52cd62587f82f54998b7085966d9f6240e0af8ffd6a7b7771", func := "loop.example/g00245/laws.FnExactStreamJoin", spec := "fnExactStreamJoin", inPlace := ["slices.overlaps[loop.example/g00245/impl.Reader]"], unfollowed := true, recurses := true, apart := false }
def FnExactStreamJoinSaid : Prop := fnExactStreamJoinRow.holds Try.pinned (OpenSpec.ofChange fnExactStreamJoinSpec)

/-- ITS FALSE NEIGHBOUR: 'it returns false'. Refute it at one input. -/
def fnExactStreamJoinWrong : ChangeSpec := { name := "fnExactStreamJoin", fn := fun _ => fun
  | [d1, d2] => { results := [.lit (.bool false)], args := [d1, d2] }
  | _ => none }
def FnExactStreamJoinWrongFalsely : Prop := fnExactStreamJoinRow.holds Try.pinned (OpenSpec.ofChange fnExactStreamJoinWrong)

/-- 'laws.FnExactProxyNew': WHATEVER THE INPUT: true; the input reads as it did. -/
def fnExactProxyNewSpec : ChangeSpec := { name := "fnExactProxyNew", fn := fun _ => fun
  | [] => { results := [.lit (.bool true)], args := [] }
  | _ => none }
def fnExactProxyNewRow : OpenClaim := { program := "yticmocblmmahkaa", sum := "989906e5b63bdce52cd62587f82f54998b7085966d9f6240e0af8ffd6a7b7771", func := "loop.example/g00245/laws.FnExactProxyNew", spec := "fnExactProxyNew", apart := false }
def FnExactProxyNewSaid : Prop := fnExactProxyNewRow.holds Try.pinned (OpenSpec.ofChange fnExactProxyNewSpec)

/-- ITS FALSE NEIGHBOUR: 'it returns false'. Refute it at one input. -/
def fnExactProxyNewWrong : ChangeSpec := { name := "fnExactProxyNew", fn := fun _ => fun
  | [] => { results := [.lit (.bool false)], args := [] }
  | _ => none }
def FnExactProxyNewWrongFalsely : Prop := fnExactProxyNewRow.holds Try.pinned (OpenSpec.ofChange fnExactProxyNewWrong)

/-- 'laws.FnExactOneEach': WHATEVER THE INPUT: true; the input reads as it did. -/
def fnExactOneEachSpec : ChangeSpec := { name := "fnExactOneEach", fn := fun _ => fun
  | [d] => { results := [.lit (.bool true)], args := [d] }
  | _ => none }
def fnExactOneEachRow : OpenClaim := { program := "yticmocblmmahkaa", sum := "989906e5b63bdce52cd62587f82f54998b7085966d9f6240e0af8ffd6a7b7771", func := "loop.example/g00245/laws.FnExactOneEach", spec := "fnExactOneEach", unfollowed := true, recurses := true, apart := false }
def FnExactOneEachSaid : Prop := fnExactOneEachRow.holds Try.pinned (OpenSpec.ofChange fnExactOneEachSpec)

/-- ITS FALSE NEIGHBOUR: 'it returns false'. Refute it at one input. -/
def fnExactOneEachWrong : ChangeSpec := { name := "fnExactOneEach", fn := fun _ => fun
  | [d] => { results := [.lit (.bool false)], args := [d] }
  | _ => none }
def FnExactOneEachWrongFalsely : Prop := fnExactOneEachRow.holds Try.pinned (OpenSpec.ofChange fnExactOneEachWrong)

/-- 'laws.FnExactAnewActs': WHATEVER THE INPUT: true; the input reads as it did. -/
def fnExactAnewActsSpec : ChangeSpec := { name := "fnExactAnewActs", fn := fun _ => fun
  | [d1, d2] => { results := [.lit (.bool true)], args := [d1, d2] }
  | _ => none }
def fnExactAnewActsRow : OpenClaim := { program := "yticmocblmmahkaa", sum := "989906e5b63bdce52cd62587f82f54998b7085966d9f6240e0af8ffd6a7b7771", func := "loop.example/g00245/laws.FnExactAnewActs", spec := "fnExactAnewActs", unfollowed := true, recurses := true, apart := false }
def FnExactAnewActsSaid : Prop := fnExactAnewActsRow.holds Try.pinned (OpenSpec.ofChange fnExactAnewActsSpec)

/-- ITS FALSE NEIGHBOUR: 'it returns false'. Refute it at one input. -/
def fnExactAnewActsWrong : ChangeSpec := { name := "fnExactAnewActs", fn := fun _ => fun
  | [d1, d2] => { results := [.lit (.bool false)], args := [d1, d2] }
  | _ => none }
def FnExactAnewActsWrongFalsely : Prop := fnExactAnewActsRow.holds Try.pinned (OpenSpec.ofChange fnExactAnewActsWrong)

/-- 'laws.FnExactStoredRight': WHATEVER THE INPUT: true; the input reads as it did. -/
def fnExactStoredRightSpec : ChangeSpec := { name := "fnExactStoredRight", fn := fun _ => fun
  | [d] => { results := [.lit (.bool true)], args := [d] }
  | _ => none }
def fnExactStoredRightRow : OpenClaim := { program := "yticmocblmmahkaa", sum := "989906e5b63bdce52cd62587f82f54998b7085966d9f6240e0af8ffd6a7b7771", func := "loop.example/g00245/laws.FnExactStoredRight", spec := "fnExactStoredRight", apart := false }
def FnExactStoredRightSaid : Prop := fnExactStoredRightRow.holds Try.pinned (OpenSpec.ofChange fnExactStoredRightSpec)

/-- ITS FALSE NEIGHBOUR: 'it returns false'. Refute it at one input. -/
def fnExactStoredRightWrong : ChangeSpec := { name := "fnExactStoredRight", fn := fun _ => fun
  | [d] => { results := [.lit (.bool false)], args := [d] }
  | _ => none }
def FnExactStoredRightWrongFalsely : Prop := fnExactStoredRightRow.holds Try.pinned (OpenSpec.ofChange fnExactStoredRightWrong)

/-- 'laws.FnExactFindKept': WHATEVER THE INPUT: true; the input reads as it did. -/
def fnExactFindKeptSpec : ChangeSpec := { name := "fnExactFindKept", fn := fun _ => fun
  | [d] => { results := [.lit (.bool true)], args := [d] }
  | _ => none }
def fnExactFindKeptRow : OpenClaim := { program := "yticmocblmmahkaa", sum := "989906e5b63bdce52cd62587f82f54998b7085966d9f6240e0af8ffd6a7b7771", func := "loop.example/g00245/laws.FnExactFindKept", spec := "fnExactFindKept", inPlace := ["slices.overlaps[loop.example/g00245/impl.Entry]"], unfollowed := true, recurses := true, apart := false }
def FnExactFindKeptSaid : Prop := fnExactFindKeptRow.holds Try.pinned (OpenSpec.ofChange fnExactFindKeptSpec)

/-- ITS FALSE NEIGHBOUR: 'it returns false'. Refute it at one input. -/
def fnExactFindKeptWrong : ChangeSpec := { name := "fnExactFindKept", fn := fun _ => fun
  | [d] => { results := [.lit (.bool false)], args := [d] }
  | _ => none }
def FnExactFindKeptWrongFalsely : Prop := fnExactFindKeptRow.holds Try.pinned (OpenSpec.ofChange fnExactFindKeptWrong)

/- THE SECOND FORM. 'bulk': how many values and letters a reading holds, each counted each time it is reached (what is shared counts as often as it is met; a slice's spare places count too). A statement '..UptoSaid' is the law's where the arguments, and the package variables that the reading takes, are together of bulk at most 1048576: NARROWER than '..Said'. Prove '..Said' where nothing that the law and all that it calls make is longer than what came in: it says more and counts as full. Else prove '..UptoSaid'. A law counts once. -/
mutual
def uptoBulk {H : Type} : DataW H → Nat
  | .lit (.string bytes) => bytes.length + 1
  | .lit _ => 1
  | .nil => 1
  | .ptr d => uptoBulk d + 1
  | .slice elems spare => uptoBulkAll elems + uptoBulkAll spare + 1
  | .agg parts => uptoBulkAll parts + 1
  | .iface _ d => uptoBulk d + 1
  | .map entries => uptoBulkEntries entries + 1
  | .held _ => 1
def uptoBulkAll {H : Type} : List (DataW H) → Nat
  | [] => 0
  | d :: r => uptoBulk d + uptoBulkAll r
def uptoBulkEntries {H : Type} : List (Lit × DataW H) → Nat
  | [] => 0
  | x :: r => uptoBulkEntry x + uptoBulkEntries r
def uptoBulkEntry {H : Type} : Lit × DataW H → Nat
  | (.string bytes, d) => bytes.length + uptoBulk d + 1
  | (_, d) => uptoBulk d + 1
 end
def uptoSmall : (H : Type) → List (DataW H) → Bool := fun _ ds => decide (uptoBulkAll ds ≤ 1048576)
def OpenSpec.upto (s : _root_.Go.ChangeSpec) : _root_.Go.OpenSpec := { _root_.Go.OpenSpec.ofChange s with cond := some uptoSmall }

/-- 'laws.FnFresh', WHERE WHAT IT READS IS OF BULK AT MOST 1048576: true; the input reads as it did. -/
def fnFreshUptoRow : OpenClaim := { program := "yticmocblmmahkaa", sum := "989906e5b63bdce52cd62587f82f54998b7085966d9f6240e0af8ffd6a7b7771", func := "loop.example/g00245/laws.FnFresh", spec := "fnFresh", apart := false, narrowed := true }
def FnFreshUptoSaid : Prop := fnFreshUptoRow.holds Try.pinned (OpenSpec.upto fnFreshSpec)

/-- 'laws.FnExactKeepActs', WHERE WHAT IT READS IS OF BULK AT MOST 1048576: true; the input reads as it did. -/
def fnExactKeepActsUptoRow : OpenClaim := { program := "yticmocblmmahkaa", sum := "989906e5b63bdce52cd62587f82f54998b7085966d9f6240e0af8ffd6a7b7771", func := "loop.example/g00245/laws.FnExactKeepActs", spec := "fnExactKeepActs", apart := false, narrowed := true }
def FnExactKeepActsUptoSaid : Prop := fnExactKeepActsUptoRow.holds Try.pinned (OpenSpec.upto fnExactKeepActsSpec)

/-- 'laws.FnEntries', WHERE WHAT IT READS IS OF BULK AT MOST 1048576: true; the input reads as it did. -/
def fnEntriesUptoRow : OpenClaim := { program := "yticmocblmmahkaa", sum := "989906e5b63bdce52cd62587f82f54998b7085966d9f6240e0af8ffd6a7b7771", func := "loop.example/g00245/laws.FnEntries", spec := "fnEntries", apart := false, narrowed := true }
def FnEntriesUptoSaid : Prop := fnEntriesUptoRow.holds Try.pinned (OpenSpec.upto fnEntriesSpec)

/-- 'laws.FnEnded', WHERE WHAT IT READS IS OF BULK AT MOST 1048576: true; the input reads as it did. -/
def fnEndedUptoRow : OpenClaim := { program := "yticmocblmmahkaa", sum := "989906e5b63bdce52cd62587f82f54998b7085966d9f6240e0af8ffd6a7b7771", func := "loop.example/g00245/laws.FnEnded", spec := "fnEnded", inPlace := ["slices.overlaps[loop.example/g00245/impl.Reader]"], unfollowed := true, recurses := true, apart := false, narrowed := true }
def FnEndedUptoSaid : Prop := fnEndedUptoRow.holds Try.pinned (OpenSpec.upto fnEndedSpec)

/-- 'laws.FnStreams', WHERE WHAT IT READS IS OF BULK AT MOST 1048576: true; the input reads as it did. -/
def fnStreamsUptoRow : OpenClaim := { program := "yticmocblmmahkaa", sum := "989906e5b63bdce52cd62587f82f54998b7085966d9f6240e0af8ffd6a7b7771", func := "loop.example/g00245/laws.FnStreams", spec := "fnStreams", inPlace := ["slices.overlaps[loop.example/g00245/impl.Reader]"], unfollowed := true, recurses := true, apart := false, narrowed := true }
def FnStreamsUptoSaid : Prop := fnStreamsUptoRow.holds Try.pinned (OpenSpec.upto fnStreamsSpec)

/-- 'laws.FnStreamsTold', WHERE WHAT IT READS IS OF BULK AT MOST 1048576: true; the input reads as it did. -/
def fnStreamsToldUptoRow : OpenClaim := { program := "yticmocblmmahkaa", sum := "989906e5b63bdce52cd62587f82f54998b7085966d9f6240e0af8ffd6a7b7771", func := "loop.example/g00245/laws.FnStreamsTold", spec := "fnStreamsTold", inPlace := ["slices.overlaps[loop.example/g00245/impl.Reader]"], unfollowed := true, recurses := true, apart := false, narrowed := true }
def FnStreamsToldUptoSaid : Prop := fnStreamsToldUptoRow.holds Try.pinned (OpenSpec.upto fnStreamsToldSpec)

/-- 'laws.FnExactStreamJoin', WHERE WHAT IT READS IS OF BULK AT MOST 1048576: true; the input reads as it did. -/
def fnExactStreamJoinUptoRow : OpenClaim := { program := "yticmocblmmahkaa", sum := "989906e5b63bdce52cd62587f82f54998b7085966d9f6240e0af8ffd6a7b7771", func := "loop.example/g00245/laws.FnExactStreamJoin", spec := "fnExactStreamJoin", inPlace := ["slices.overlaps[loop.example/g00245/impl.Reader]"], unfollowed := true, recurses := true, apart := false, narrowed := true }
def FnExactStreamJoinUptoSaid : Prop := fnExactStreamJoinUptoRow.holds Try.pinned (OpenSpec.upto fnExactStreamJoinSpec)

/-- 'laws.FnExactProxyNew', WHERE WHAT IT READS IS OF BULK AT MOST 1048576: true; the input reads as it did. -/
def fnExactProxyNewUptoRow : OpenClaim := { program := "yticmocblmmahkaa", sum := "989906e5b63bdce52cd62587f82f54998b7085966d9f6240e0af8ffd6a7b7771", func := "loop.example/g00245/laws.FnExactProxyNew", spec := "fnExactProxyNew", apart := false, narrowed := true }
def FnExactProxyNewUptoSaid : Prop := fnExactProxyNewUptoRow.holds Try.pinned (OpenSpec.upto fnExactProxyNewSpec)

/-- 'laws.FnExactOneEach', WHERE WHAT IT READS IS OF BULK AT MOST 1048576: true; the input reads as it did. -/
def fnExactOneEachUptoRow : OpenClaim := { program := "yticmocblmmahkaa", sum := "989906e5b63bdce52cd62587f82f54998b7085966d9f6240e0af8ffd6a7b7771", func := "loop.example/g00245/laws.FnExactOneEach", spec := "fnExactOneEach", unfollowed := true, recurses := true, apart := false, narrowed := true }
def FnExactOneEachUptoSaid : Prop := fnExactOneEachUptoRow.holds Try.pinned (OpenSpec.upto fnExactOneEachSpec)

/-- 'laws.FnExactAnewActs', WHERE WHAT IT READS IS OF BULK AT MOST 1048576: true; the input reads as it did. -/
def fnExactAnewActsUptoRow : OpenClaim := { program := "yticmocblmmahkaa", sum := "989906e5b63bdce52cd62587f82f54998b7085966d9f6240e0af8ffd6a7b7771", func := "loop.example/g00245/laws.FnExactAnewActs", spec := "fnExactAnewActs", unfollowed := true, recurses := true, apart := false, narrowed := true }
def FnExactAnewActsUptoSaid : Prop := fnExactAnewActsUptoRow.holds Try.pinned (OpenSpec.upto fnExactAnewActsSpec)

/-- 'laws.FnExactStoredRight', WHERE WHAT IT READS IS OF BULK AT MOST 1048576: true; the input reads as it did. -/
def fnExactStoredRightUptoRow : OpenClaim := { program := "yticmocblmmahkaa", sum := "989906e5b63bdce52cd62587f82f54998b7085966d9f6240e0af8ffd6a7b7771", func := "loop.example/g00245/laws.FnExactStoredRight", spec := "fnExactStoredRight", apart := false, narrowed := true }
def FnExactStoredRightUptoSaid : Prop := fnExactStoredRightUptoRow.holds Try.pinned (OpenSpec.upto fnExactStoredRightSpec)

/-- 'laws.FnExactFindKept', WHERE WHAT IT READS IS OF BULK AT MOST 1048576: true; the input reads as it did. -/
def fnExactFindKeptUptoRow : OpenClaim := { program := "yticmocblmmahkaa", sum := "989906e5b63bdce52cd62587f82f54998b7085966d9f6240e0af8ffd6a7b7771", func := "loop.example/g00245/laws.FnExactFindKept", spec := "fnExactFindKept", inPlace := ["slices.overlaps[loop.example/g00245/impl.Entry]"], unfollowed := true, recurses := true, apart := false, narrowed := true }
def FnExactFindKeptUptoSaid : Prop := fnExactFindKeptUptoRow.holds Try.pinned (OpenSpec.upto fnExactFindKeptSpec)

end Rows
end Go.Proofs.Yticmocblmmahkaa
