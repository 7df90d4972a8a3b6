/-
  No cell of these rows narrows 'for every input' (looked for: loops, veiled, ifaces, maps, wideKeys, modest, calm, conditions, laid).
  DERIVED. THE GIVEN ROWS OF THIS SEAT. 12 by the template 'for every input the law returns true; each argument reads behind the call as it read before'; 0 by the template 'total and deterministic' (their statements: YtnhconmkdleomaaTotals.lean).
  GIVEN WITH THE SEED: the statements are not yours to turn. If you find one false, say at which input.
  Laid BY PROGRAM, IN A SANDBOX (cutbox-rows.mjs): the forced cells as the released guide's own fill.sh prints them over the translation 520178d3b4e755e4… (all of the seat's roots in one cut). By AI agents, Wed Nov 11 2026. No macro, syntax, notation, axiom, sorry.
-/
import Derived.Test.YtnhconmkdleomaaChecked
import GoSem.Claim
import GoSem.ClaimJoined
import GoSem.ClaimMapViews
import Derived.JoinedTies
import Derived.KernelRfl
namespace Go.Proofs.Ytnhconmkdleomaa
/- THE CELL 'sum', in the pinned program and in every row, IS THE sha256 OF THE DUMP (.gsa) THAT YtnhconmkdleomaaProg.lean LOADS. Nothing in Lean hashes anything: it is a label: what it is worth is what the hold of that sum in a sandbox is worth. -/
noncomputable def Try.pinned : Pinned := { name := "ytnhconmkdleomaa", sum := "520178d3b4e755e4be6703b06f6b22b29c3e2289c9c22980cc9ace30c8faca03", checked := Try.checked }
namespace Rows
def none {H : Type} : Left H := { results := [], args := [] }

/-- 'laws.FnExactEntryOk': WHATEVER THE INPUT: true; the input reads as it did. -/
def fnExactEntryOkSpec : ChangeSpec := { name := "fnExactEntryOk", fn := fun _ => fun
  | [d] => { results := [.lit (.bool true)], args := [d] }
  | _ => none }
def fnExactEntryOkRow : OpenClaim := { program := "ytnhconmkdleomaa", sum := "520178d3b4e755e4be6703b06f6b22b29c3e2289c9c22980cc9ace30c8faca03", func := "loop.example/g00245/laws.FnExactEntryOk", spec := "fnExactEntryOk", apart := false }
def FnExactEntryOkSaid : Prop := fnExactEntryOkRow.holds Try.pinned (OpenSpec.ofChange fnExactEntryOkSpec)

/-- ITS FALSE NEIGHBOUR: 'it returns false'. Refute it at one input. -/
def fnExactEntryOkWrong : ChangeSpec := { name := "fnExactEntryOk", fn := fun _ => fun
  | [d] => { results := [.lit (.bool false)], args := [d] }
  | _ => none }
def FnExactEntryOkWrongFalsely : Prop := fnExactEntryOkRow.holds Try.pinned (OpenSpec.ofChange fnExactEntryOkWrong)

/-- 'laws.FnExactFreshAt': WHATEVER THE INPUT: true; the input reads as it did. -/
def fnExactFreshAtSpec : ChangeSpec := { name := "fnExactFreshAt", fn := fun _ => fun
  | [d1, d2] => { results := [.lit (.bool true)], args := [d1, d2] }
  | _ => none }
def fnExactFreshAtRow : OpenClaim := { program := "ytnhconmkdleomaa", sum := "520178d3b4e755e4be6703b06f6b22b29c3e2289c9c22980cc9ace30c8faca03", func := "loop.example/g00245/laws.FnExactFreshAt", spec := "fnExactFreshAt", apart := false }
def FnExactFreshAtSaid : Prop := fnExactFreshAtRow.holds Try.pinned (OpenSpec.ofChange fnExactFreshAtSpec)

/-- ITS FALSE NEIGHBOUR: 'it returns false'. Refute it at one input. -/
def fnExactFreshAtWrong : ChangeSpec := { name := "fnExactFreshAt", fn := fun _ => fun
  | [d1, d2] => { results := [.lit (.bool false)], args := [d1, d2] }
  | _ => none }
def FnExactFreshAtWrongFalsely : Prop := fnExactFreshAtRow.holds Try.pinned (OpenSpec.ofChange fnExactFreshAtWrong)

/-- 'laws.FnExactStreamNew': WHATEVER THE INPUT: true; the input reads as it did. -/
def fnExactStreamNewSpec : ChangeSpec := { name := "fnExactStreamNew", fn := fun _ => fun
  | [] => { results := [.lit (.bool true)], args := [] }
  | _ => none }
def fnExactStreamNewRow : OpenClaim := { program := "ytnhconmkdleomaa", sum := "520178d3b4e755e4be6703b06f6b22b29c3e2289c9c22980cc9ace30c8faca03", func := "loop.example/g00245/laws.FnExactStreamNew", spec := "fnExactStreamNew", apart := false }
def FnExactStreamNewSaid : Prop := fnExactStreamNewRow.holds Try.pinned (OpenSpec.ofChange fnExactStreamNewSpec)

/-- ITS FALSE NEIGHBOUR: 'it returns false'. Refute it at one input. -/
def fnExactStreamNewWrong : ChangeSpec := { name := "fnExactStreamNew", fn := fun _ => fun
  | [] => { results := [.lit (.bool false)], args := [] }
  | _ => none }
def FnExactStreamNewWrongFalsely : Prop := fnExactStreamNewRow.holds Try.pinned (OpenSpec.ofChange fnExactStreamNewWrong)

/-- 'laws.FnExactEventOk': WHATEVER THE INPUT: true; the input reads as it did. -/
def fnExactEventOkSpec : ChangeSpec := { name := "fnExactEventOk", fn := fun _ => fun
  | [d] => { results := [.lit (.bool true)], args := [d] }
  | _ => none }
def fnExactEventOkRow : OpenClaim := { program := "ytnhconmkdleomaa", sum := "520178d3b4e755e4be6703b06f6b22b29c3e2289c9c22980cc9ace30c8faca03", func := "loop.example/g00245/laws.FnExactEventOk", spec := "fnExactEventOk", apart := false }
def FnExactEventOkSaid : Prop := fnExactEventOkRow.holds Try.pinned (OpenSpec.ofChange fnExactEventOkSpec)

/-- ITS FALSE NEIGHBOUR: 'it returns false'. Refute it at one input. -/
def fnExactEventOkWrong : ChangeSpec := { name := "fnExactEventOk", fn := fun _ => fun
  | [d] => { results := [.lit (.bool false)], args := [d] }
  | _ => none }
def FnExactEventOkWrongFalsely : Prop := fnExactEventOkRow.holds Try.pinned (OpenSpec.ofChange fnExactEventOkWrong)

/-- 'laws.FnExactEntryText': WHATEVER THE INPUT: true; the input reads as it did. -/
def fnExactEntryTextSpec : ChangeSpec := { name := "fnExactEntryText", fn := fun _ => fun
  | [d] => { results := [.lit (.bool true)], args := [d] }
  | _ => none }
def fnExactEntryTextRow : OpenClaim := { program := "ytnhconmkdleomaa", sum := "520178d3b4e755e4be6703b06f6b22b29c3e2289c9c22980cc9ace30c8faca03", func := "loop.example/g00245/laws.FnExactEntryText", spec := "fnExactEntryText", apart := false }
def FnExactEntryTextSaid : Prop := fnExactEntryTextRow.holds Try.pinned (OpenSpec.ofChange fnExactEntryTextSpec)

/-- ITS FALSE NEIGHBOUR: 'it returns false'. Refute it at one input. -/
def fnExactEntryTextWrong : ChangeSpec := { name := "fnExactEntryText", fn := fun _ => fun
  | [d] => { results := [.lit (.bool false)], args := [d] }
  | _ => none }
def FnExactEntryTextWrongFalsely : Prop := fnExactEntryTextRow.holds Try.pinned (OpenSpec.ofChange fnExactEntryTextWrong)

/-- 'laws.FnExactStreamOk': WHATEVER THE INPUT: true; the input reads as it did. -/
def fnExactStreamOkSpec : ChangeSpec := { name := "fnExactStreamOk", fn := fun _ => fun
  | [d] => { results := [.lit (.bool true)], args := [d] }
  | _ => none }
def fnExactStreamOkRow : OpenClaim := { program := "ytnhconmkdleomaa", sum := "520178d3b4e755e4be6703b06f6b22b29c3e2289c9c22980cc9ace30c8faca03", func := "loop.example/g00245/laws.FnExactStreamOk", spec := "fnExactStreamOk", apart := false }
def FnExactStreamOkSaid : Prop := fnExactStreamOkRow.holds Try.pinned (OpenSpec.ofChange fnExactStreamOkSpec)

/-- ITS FALSE NEIGHBOUR: 'it returns false'. Refute it at one input. -/
def fnExactStreamOkWrong : ChangeSpec := { name := "fnExactStreamOk", fn := fun _ => fun
  | [d] => { results := [.lit (.bool false)], args := [d] }
  | _ => none }
def FnExactStreamOkWrongFalsely : Prop := fnExactStreamOkRow.holds Try.pinned (OpenSpec.ofChange fnExactStreamOkWrong)

/-- 'laws.FnExactReadEntry': WHATEVER THE INPUT: true; the input reads as it did. -/
def fnExactReadEntrySpec : ChangeSpec := { name := "fnExactReadEntry", fn := fun _ => fun
  | [d] => { results := [.lit (.bool true)], args := [d] }
  | _ => none }
def fnExactReadEntryRow : OpenClaim := { program := "ytnhconmkdleomaa", sum := "520178d3b4e755e4be6703b06f6b22b29c3e2289c9c22980cc9ace30c8faca03", func := "loop.example/g00245/laws.FnExactReadEntry", spec := "fnExactReadEntry", apart := false }
def FnExactReadEntrySaid : Prop := fnExactReadEntryRow.holds Try.pinned (OpenSpec.ofChange fnExactReadEntrySpec)

/-- ITS FALSE NEIGHBOUR: 'it returns false'. Refute it at one input. -/
def fnExactReadEntryWrong : ChangeSpec := { name := "fnExactReadEntry", fn := fun _ => fun
  | [d] => { results := [.lit (.bool false)], args := [d] }
  | _ => none }
def FnExactReadEntryWrongFalsely : Prop := fnExactReadEntryRow.holds Try.pinned (OpenSpec.ofChange fnExactReadEntryWrong)

/-- 'laws.FnExactStreamLeave': WHATEVER THE INPUT: true; the input reads as it did. -/
def fnExactStreamLeaveSpec : ChangeSpec := { name := "fnExactStreamLeave", fn := fun _ => fun
  | [d1, d2] => { results := [.lit (.bool true)], args := [d1, d2] }
  | _ => none }
def fnExactStreamLeaveRow : OpenClaim := { program := "ytnhconmkdleomaa", sum := "520178d3b4e755e4be6703b06f6b22b29c3e2289c9c22980cc9ace30c8faca03", func := "loop.example/g00245/laws.FnExactStreamLeave", spec := "fnExactStreamLeave", unfollowed := true, recurses := true, apart := false }
def FnExactStreamLeaveSaid : Prop := fnExactStreamLeaveRow.holds Try.pinned (OpenSpec.ofChange fnExactStreamLeaveSpec)

/-- ITS FALSE NEIGHBOUR: 'it returns false'. Refute it at one input. -/
def fnExactStreamLeaveWrong : ChangeSpec := { name := "fnExactStreamLeave", fn := fun _ => fun
  | [d1, d2] => { results := [.lit (.bool false)], args := [d1, d2] }
  | _ => none }
def FnExactStreamLeaveWrongFalsely : Prop := fnExactStreamLeaveRow.holds Try.pinned (OpenSpec.ofChange fnExactStreamLeaveWrong)

/-- 'laws.FnExactStreamPut': WHATEVER THE INPUT: true; the input reads as it did. -/
def fnExactStreamPutSpec : ChangeSpec := { name := "fnExactStreamPut", fn := fun _ => fun
  | [d1, d2] => { results := [.lit (.bool true)], args := [d1, d2] }
  | _ => none }
def fnExactStreamPutRow : OpenClaim := { program := "ytnhconmkdleomaa", sum := "520178d3b4e755e4be6703b06f6b22b29c3e2289c9c22980cc9ace30c8faca03", func := "loop.example/g00245/laws.FnExactStreamPut", spec := "fnExactStreamPut", apart := false }
def FnExactStreamPutSaid : Prop := fnExactStreamPutRow.holds Try.pinned (OpenSpec.ofChange fnExactStreamPutSpec)

/-- ITS FALSE NEIGHBOUR: 'it returns false'. Refute it at one input. -/
def fnExactStreamPutWrong : ChangeSpec := { name := "fnExactStreamPut", fn := fun _ => fun
  | [d1, d2] => { results := [.lit (.bool false)], args := [d1, d2] }
  | _ => none }
def FnExactStreamPutWrongFalsely : Prop := fnExactStreamPutRow.holds Try.pinned (OpenSpec.ofChange fnExactStreamPutWrong)

/-- 'laws.FnExactStreamEnd': WHATEVER THE INPUT: true; the input reads as it did. -/
def fnExactStreamEndSpec : ChangeSpec := { name := "fnExactStreamEnd", fn := fun _ => fun
  | [d1, d2] => { results := [.lit (.bool true)], args := [d1, d2] }
  | _ => none }
def fnExactStreamEndRow : OpenClaim := { program := "ytnhconmkdleomaa", sum := "520178d3b4e755e4be6703b06f6b22b29c3e2289c9c22980cc9ace30c8faca03", func := "loop.example/g00245/laws.FnExactStreamEnd", spec := "fnExactStreamEnd", apart := false }
def FnExactStreamEndSaid : Prop := fnExactStreamEndRow.holds Try.pinned (OpenSpec.ofChange fnExactStreamEndSpec)

/-- ITS FALSE NEIGHBOUR: 'it returns false'. Refute it at one input. -/
def fnExactStreamEndWrong : ChangeSpec := { name := "fnExactStreamEnd", fn := fun _ => fun
  | [d1, d2] => { results := [.lit (.bool false)], args := [d1, d2] }
  | _ => none }
def FnExactStreamEndWrongFalsely : Prop := fnExactStreamEndRow.holds Try.pinned (OpenSpec.ofChange fnExactStreamEndWrong)

/-- 'laws.FnExactStreamRead': WHATEVER THE INPUT: true; the input reads as it did. -/
def fnExactStreamReadSpec : ChangeSpec := { name := "fnExactStreamRead", fn := fun _ => fun
  | [d1, d2, d3] => { results := [.lit (.bool true)], args := [d1, d2, d3] }
  | _ => none }
def fnExactStreamReadRow : OpenClaim := { program := "ytnhconmkdleomaa", sum := "520178d3b4e755e4be6703b06f6b22b29c3e2289c9c22980cc9ace30c8faca03", func := "loop.example/g00245/laws.FnExactStreamRead", spec := "fnExactStreamRead", unfollowed := true, recurses := true, apart := false }
def FnExactStreamReadSaid : Prop := fnExactStreamReadRow.holds Try.pinned (OpenSpec.ofChange fnExactStreamReadSpec)

/-- ITS FALSE NEIGHBOUR: 'it returns false'. Refute it at one input. -/
def fnExactStreamReadWrong : ChangeSpec := { name := "fnExactStreamRead", fn := fun _ => fun
  | [d1, d2, d3] => { results := [.lit (.bool false)], args := [d1, d2, d3] }
  | _ => none }
def FnExactStreamReadWrongFalsely : Prop := fnExactStreamReadRow.holds Try.pinned (OpenSpec.ofChange fnExactStreamReadWrong)

/-- 'laws.FnExactStreamJoin': WHATEVER THE INPUT: true; the input reads as it did. -/
def fnExactStreamJoinSpec : ChangeSpec := { name := "fnExactStreamJoin", fn := fun _ => fun
  | [d1, d2] => { results := [.lit (.bool true)], args := [d1, d2] }
  | _ => none }
def fnExactStreamJoinRow : OpenClaim := { program := "ytnhconmkdleomaa", sum := "520178d3b4e755e4be6703b06f6b22b29c3e2289c9c22980cc9ace30c8faca03", func := "loop.example/g00245/laws.FnExactStreamJoin", spec := "fnExactStreamJoin", inPlace := ["slices.overlaps[loop.example/g00245/impl.Reader]"], unfollowed := true, recurses := true, apart := false }
def FnExactStreamJoinSaid : Prop := fnExactStreamJoinRow.holds Try.pinned (OpenSpec.ofChange fnExactStreamJoinSpec)

/-- ITS FALSE NEIGHBOUR: 'it returns false'. Refute it at one input. -/
def fnExactStreamJoinWrong : ChangeSpec := { name := "fnExactStreamJoin", fn := fun _ => fun
  | [d1, d2] => { results := [.lit (.bool false)], args := [d1, d2] }
  | _ => none }
def FnExactStreamJoinWrongFalsely : Prop := fnExactStreamJoinRow.holds Try.pinned (OpenSpec.ofChange fnExactStreamJoinWrong)

/- THE SECOND FORM. 'bulk': how many values and letters a reading holds, each counted each time it is reached (what is shared counts as often as it is met; a slice's spare places count too). A statement '..UptoSaid' is the law's where the arguments, and the package variables that the reading takes, are together of bulk at most 1048576: NARROWER than '..Said'. Prove '..Said' where nothing that the law and all that it calls make is longer than what came in: it says more and counts as full. Else prove '..UptoSaid'. A law counts once. -/
mutual
def uptoBulk {H : Type} : DataW H → Nat
  | .lit (.string bytes) => bytes.length + 1
  | .lit _ => 1
  | .nil => 1
  | .ptr d => uptoBulk d + 1
  | .slice elems spare => uptoBulkAll elems + uptoBulkAll spare + 1
  | .agg parts => uptoBulkAll parts + 1
  | .iface _ d => uptoBulk d + 1
  | .map entries => uptoBulkEntries entries + 1
  | .held _ => 1
def uptoBulkAll {H : Type} : List (DataW H) → Nat
  | [] => 0
  | d :: r => uptoBulk d + uptoBulkAll r
def uptoBulkEntries {H : Type} : List (Lit × DataW H) → Nat
  | [] => 0
  | x :: r => uptoBulkEntry x + uptoBulkEntries r
def uptoBulkEntry {H : Type} : Lit × DataW H → Nat
  | (.string bytes, d) => bytes.length + uptoBulk d + 1
  | (_, d) => uptoBulk d + 1
 end
def uptoSmall : (H : Type) → List (DataW H) → Bool := fun _ ds => decide (uptoBulkAll ds ≤ 1048576)
def OpenSpec.upto (s : _root_.Go.ChangeSpec) : _root_.Go.OpenSpec := { _root_.Go.OpenSpec.ofChange s with cond := some uptoSmall }

/-- 'laws.FnExactEntryOk', WHERE WHAT IT READS IS OF BULK AT MOST 1048576: true; the input reads as it did. -/
def fnExactEntryOkUptoRow : OpenClaim := { program := "ytnhconmkdleomaa", sum := "520178d3b4e755e4be6703b06f6b22b29c3e2289c9c22980cc9ace30c8faca03", func := "loop.example/g00245/laws.FnExactEntryOk", spec := "fnExactEntryOk", apart := false, narrowed := true }
def FnExactEntryOkUptoSaid : Prop := fnExactEntryOkUptoRow.holds Try.pinned (OpenSpec.upto fnExactEntryOkSpec)

/-- 'laws.FnExactFreshAt', WHERE WHAT IT READS IS OF BULK AT MOST 1048576: true; the input reads as it did. -/
def fnExactFreshAtUptoRow : OpenClaim := { program := "ytnhconmkdleomaa", sum := "520178d3b4e755e4be6703b06f6b22b29c3e2289c9c22980cc9ace30c8faca03", func := "loop.example/g00245/laws.FnExactFreshAt", spec := "fnExactFreshAt", apart := false, narrowed := true }
def FnExactFreshAtUptoSaid : Prop := fnExactFreshAtUptoRow.holds Try.pinned (OpenSpec.upto fnExactFreshAtSpec)

/-- 'laws.FnExactStreamNew', WHERE WHAT IT READS IS OF BULK AT MOST 1048576: true; the input reads as it did. -/
def fnExactStreamNewUptoRow : OpenClaim := { program := "ytnhconmkdleomaa", sum := "520178d3b4e755e4be6703b06f6b22b29c3e2289c9c22980cc9ace30c8faca03", func := "loop.example/g00245/laws.FnExactStreamNew", spec := "fnExactStreamNew", apart := false, narrowed := true }
def FnExactStreamNewUptoSaid : Prop := fnExactStreamNewUptoRow.holds Try.pinned (OpenSpec.upto fnExactStreamNewSpec)

/-- 'laws.FnExactEventOk', WHERE WHAT IT READS IS OF BULK AT MOST 1048576: true; the input reads as it did. -/
def fnExactEventOkUptoRow : OpenClaim := { program := "ytnhconmkdleomaa", sum := "520178d3b4e755e4be6703b06f6b22b29c3e2289c9c22980cc9ace30c8faca03", func := "loop.example/g00245/laws.FnExactEventOk", spec := "fnExactEventOk", apart := false, narrowed := true }
def FnExactEventOkUptoSaid : Prop := fnExactEventOkUptoRow.holds Try.pinned (OpenSpec.upto fnExactEventOkSpec)

/-- 'laws.FnExactEntryText', WHERE WHAT IT READS IS OF BULK AT MOST 1048576: true; the input reads as it did. -/
def fnExactEntryTextUptoRow : OpenClaim := { program := "ytnhconmkdleomaa", sum := "520178d3b4e755e4be6703b06f6b22b29c3e2289c9c22980cc9ace30c8faca03", func := "loop.example/g00245/laws.FnExactEntryText", spec := "fnExactEntryText", apart := false, narrowed := true }
def FnExactEntryTextUptoSaid : Prop := fnExactEntryTextUptoRow.holds Try.pinned (OpenSpec.upto fnExactEntryTextSpec)

/-- 'laws.FnExactStreamOk', WHERE WHAT IT READS IS OF BULK AT MOST 1048576: true; the input reads as it did. -/
def fnExactStreamOkUptoRow : OpenClaim := { program := "ytnhconmkdleomaa", sum := "520178d3b4e755e4be6703b06f6b22b29c3e2289c9c22980cc9ace30c8faca03", func := "loop.example/g00245/laws.FnExactStreamOk", spec := "fnExactStreamOk", apart := false, narrowed := true }
def FnExactStreamOkUptoSaid : Prop := fnExactStreamOkUptoRow.holds Try.pinned (OpenSpec.upto fnExactStreamOkSpec)

/-- 'laws.FnExactReadEntry', WHERE WHAT IT READS IS OF BULK AT MOST 1048576: true; the input reads as it did. -/
def fnExactReadEntryUptoRow : OpenClaim := { program := "ytnhconmkdleomaa", sum := "520178d3b4e755e4be6703b06f6b22b29c3e2289c9c22980cc9ace30c8faca03", func := "loop.example/g00245/laws.FnExactReadEntry", spec := "fnExactReadEntry", apart := false, narrowed := true }
def FnExactReadEntryUptoSaid : Prop := fnExactReadEntryUptoRow.holds Try.pinned (OpenSpec.upto fnExactReadEntrySpec)

/-- 'laws.FnExactStreamLeave', WHERE WHAT IT READS IS OF BULK AT MOST 1048576: true; the input reads as it did. -/
def fnExactStreamLeaveUptoRow : OpenClaim := { program := "ytnhconmkdleomaa", sum := "520178d3b4e755e4be6703b06f6b22b29c3e2289c9c22980cc9ace30c8faca03", func := "loop.example/g00245/laws.FnExactStreamLeave", spec := "fnExactStreamLeave", unfollowed := true, recurses := true, apart := false, narrowed := true }
def FnExactStreamLeaveUptoSaid : Prop := fnExactStreamLeaveUptoRow.holds Try.pinned (OpenSpec.upto fnExactStreamLeaveSpec)

/-- 'laws.FnExactStreamPut', WHERE WHAT IT READS IS OF BULK AT MOST 1048576: true; the input reads as it did. -/
def fnExactStreamPutUptoRow : OpenClaim := { program := "ytnhconmkdleomaa", sum := "520178d3b4e755e4be6703b06f6b22b29c3e2289c9c22980cc9ace30c8faca03", func := "loop.example/g00245/laws.FnExactStreamPut", spec := "fnExactStreamPut", apart := false, narrowed := true }
def FnExactStreamPutUptoSaid : Prop := fnExactStreamPutUptoRow.holds Try.pinned (OpenSpec.upto fnExactStreamPutSpec)

/-- 'laws.FnExactStreamEnd', WHERE WHAT IT READS IS OF BULK AT MOST 1048576: true; the input reads as it did. -/
def fnExactStreamEndUptoRow : OpenClaim := { program := "ytnhconmkdleomaa", sum := "520178d3b4e755e4be6703b06f6b22b29c3e2289c9c22980cc9ace30c8faca03", func := "loop.example/g00245/laws.FnExactStreamEnd", spec := "fnExactStreamEnd", apart := false, narrowed := true }
def FnExactStreamEndUptoSaid : Prop := fnExactStreamEndUptoRow.holds Try.pinned (OpenSpec.upto fnExactStreamEndSpec)

/-- 'laws.FnExactStreamRead', WHERE WHAT IT READS IS OF BULK AT MOST 1048576: true; the input reads as it did. -/
def fnExactStreamReadUptoRow : OpenClaim := { program := "ytnhconmkdleomaa", sum := "520178d3b4e755e4be6703b06f6b22b29c3e2289c9c22980cc9ace30c8faca03", func := "loop.example/g00245/laws.FnExactStreamRead", spec := "fnExactStreamRead", unfollowed := true, recurses := true, apart := false, narrowed := true }
def FnExactStreamReadUptoSaid : Prop := fnExactStreamReadUptoRow.holds Try.pinned (OpenSpec.upto fnExactStreamReadSpec)

/-- 'laws.FnExactStreamJoin', WHERE WHAT IT READS IS OF BULK AT MOST 1048576: true; the input reads as it did. -/
def fnExactStreamJoinUptoRow : OpenClaim := { program := "ytnhconmkdleomaa", sum := "520178d3b4e755e4be6703b06f6b22b29c3e2289c9c22980cc9ace30c8faca03", func := "loop.example/g00245/laws.FnExactStreamJoin", spec := "fnExactStreamJoin", inPlace := ["slices.overlaps[loop.example/g00245/impl.Reader]"], unfollowed := true, recurses := true, apart := false, narrowed := true }
def FnExactStreamJoinUptoSaid : Prop := fnExactStreamJoinUptoRow.holds Try.pinned (OpenSpec.upto fnExactStreamJoinSpec)

end Rows
end Go.Proofs.Ytnhconmkdleomaa
