/-
  No cell of these rows narrows 'for every input' (looked for: loops, veiled, ifaces, maps, wideKeys, modest, calm, conditions, laid).
  DERIVED. THE GIVEN ROWS OF THIS SEAT. 4 by the template 'for every input the law returns true; each argument reads behind the call as it read before'; 0 by the template 'total and deterministic' (their statements: YtijidheebmbkcaaGreatTotals.lean).
  GIVEN WITH THE SEED: the statements are not yours to turn. If you find one false, say at which input.
  Laid BY PROGRAM, IN A SANDBOX (cutbox-rows.mjs): the forced cells as the released guide's own fill.sh prints them over the translation 25cc61e60aa8829c… (all of the seat's roots in one cut). By AI agents, Wed Nov 11 2026. No macro, syntax, notation, axiom, sorry.
-/
import Derived.Test.YtijidheebmbkcaaGreatChecked
import GoSem.Claim
import GoSem.ClaimJoined
import GoSem.ClaimMapViews
import Derived.JoinedTies
import Derived.KernelRfl
namespace Go.Proofs.YtijidheebmbkcaaGreat
/- THE CELL 'sum', in the pinned program and in every row, IS THE sha256 OF THE DUMP (.gsa) THAT YtijidheebmbkcaaGreatProg.lean LOADS. Nothing in Lean hashes anything: it is a label: what it is worth is what the hold of that sum in a sandbox is worth. -/
noncomputable def Tryz.pinned : Pinned := { name := "ytijidheebmbkcaagreat", sum := "25cc61e60aa8829c282f3a372bcaa49000664a6639fa2abd915a8f35cec0f9df", checked := Tryz.checked }
namespace Rows
def none {H : Type} : Left H := { results := [], args := [] }

/-- 'laws.FnExactBreakFetch': WHATEVER THE INPUT: true; the input reads as it did. -/
def fnExactBreakFetchSpec : ChangeSpec := { name := "fnExactBreakFetch", fn := fun _ => fun
  | [d1, d2] => { results := [.lit (.bool true)], args := [d1, d2] }
  | _ => none }
def fnExactBreakFetchRow : OpenClaim := { program := "ytijidheebmbkcaagreat", sum := "25cc61e60aa8829c282f3a372bcaa49000664a6639fa2abd915a8f35cec0f9df", func := "loop.example/g00245/laws.FnExactBreakFetch", spec := "fnExactBreakFetch", unfollowed := true, recurses := true, apart := false }
def FnExactBreakFetchSaid : Prop := fnExactBreakFetchRow.holds Tryz.pinned (OpenSpec.ofChange fnExactBreakFetchSpec)

/-- ITS FALSE NEIGHBOUR: 'it returns false'. Refute it at one input. -/
def fnExactBreakFetchWrong : ChangeSpec := { name := "fnExactBreakFetch", fn := fun _ => fun
  | [d1, d2] => { results := [.lit (.bool false)], args := [d1, d2] }
  | _ => none }
def FnExactBreakFetchWrongFalsely : Prop := fnExactBreakFetchRow.holds Tryz.pinned (OpenSpec.ofChange fnExactBreakFetchWrong)

/-- 'laws.FnExactPartOf': WHATEVER THE INPUT: true; the input reads as it did. -/
def fnExactPartOfSpec : ChangeSpec := { name := "fnExactPartOf", fn := fun _ => fun
  | [d1, d2, d3] => { results := [.lit (.bool true)], args := [d1, d2, d3] }
  | _ => none }
def fnExactPartOfRow : OpenClaim := { program := "ytijidheebmbkcaagreat", sum := "25cc61e60aa8829c282f3a372bcaa49000664a6639fa2abd915a8f35cec0f9df", func := "loop.example/g00245/laws.FnExactPartOf", spec := "fnExactPartOf", unfollowed := true, recurses := true, apart := false }
def FnExactPartOfSaid : Prop := fnExactPartOfRow.holds Tryz.pinned (OpenSpec.ofChange fnExactPartOfSpec)

/-- ITS FALSE NEIGHBOUR: 'it returns false'. Refute it at one input. -/
def fnExactPartOfWrong : ChangeSpec := { name := "fnExactPartOf", fn := fun _ => fun
  | [d1, d2, d3] => { results := [.lit (.bool false)], args := [d1, d2, d3] }
  | _ => none }
def FnExactPartOfWrongFalsely : Prop := fnExactPartOfRow.holds Tryz.pinned (OpenSpec.ofChange fnExactPartOfWrong)

/-- 'laws.FnExactRestored': WHATEVER THE INPUT: true; the input reads as it did. -/
def fnExactRestoredSpec : ChangeSpec := { name := "fnExactRestored", fn := fun _ => fun
  | [d1, d2] => { results := [.lit (.bool true)], args := [d1, d2] }
  | _ => none }
def fnExactRestoredRow : OpenClaim := { program := "ytijidheebmbkcaagreat", sum := "25cc61e60aa8829c282f3a372bcaa49000664a6639fa2abd915a8f35cec0f9df", func := "loop.example/g00245/laws.FnExactRestored", spec := "fnExactRestored", inPlace := ["slices.overlaps[loop.example/g00245/impl.Entry]"], unfollowed := true, recurses := true, apart := false }
def FnExactRestoredSaid : Prop := fnExactRestoredRow.holds Tryz.pinned (OpenSpec.ofChange fnExactRestoredSpec)

/-- ITS FALSE NEIGHBOUR: 'it returns false'. Refute it at one input. -/
def fnExactRestoredWrong : ChangeSpec := { name := "fnExactRestored", fn := fun _ => fun
  | [d1, d2] => { results := [.lit (.bool false)], args := [d1, d2] }
  | _ => none }
def FnExactRestoredWrongFalsely : Prop := fnExactRestoredRow.holds Tryz.pinned (OpenSpec.ofChange fnExactRestoredWrong)

/-- 'laws.FnExactCloseFetch': WHATEVER THE INPUT: true; the input reads as it did. -/
def fnExactCloseFetchSpec : ChangeSpec := { name := "fnExactCloseFetch", fn := fun _ => fun
  | [d1, d2, d3] => { results := [.lit (.bool true)], args := [d1, d2, d3] }
  | _ => none }
def fnExactCloseFetchRow : OpenClaim := { program := "ytijidheebmbkcaagreat", sum := "25cc61e60aa8829c282f3a372bcaa49000664a6639fa2abd915a8f35cec0f9df", func := "loop.example/g00245/laws.FnExactCloseFetch", spec := "fnExactCloseFetch", inPlace := ["slices.overlaps[loop.example/g00245/impl.Entry]"], unfollowed := true, recurses := true, apart := false }
def FnExactCloseFetchSaid : Prop := fnExactCloseFetchRow.holds Tryz.pinned (OpenSpec.ofChange fnExactCloseFetchSpec)

/-- ITS FALSE NEIGHBOUR: 'it returns false'. Refute it at one input. -/
def fnExactCloseFetchWrong : ChangeSpec := { name := "fnExactCloseFetch", fn := fun _ => fun
  | [d1, d2, d3] => { results := [.lit (.bool false)], args := [d1, d2, d3] }
  | _ => none }
def FnExactCloseFetchWrongFalsely : Prop := fnExactCloseFetchRow.holds Tryz.pinned (OpenSpec.ofChange fnExactCloseFetchWrong)

/- THE SECOND FORM. 'bulk': how many values and letters a reading holds, each counted each time it is reached (what is shared counts as often as it is met; a slice's spare places count too). A statement '..UptoSaid' is the law's where the arguments, and the package variables that the reading takes, are together of bulk at most 1048576: NARROWER than '..Said'. Prove '..Said' where nothing that the law and all that it calls make is longer than what came in: it says more and counts as full. Else prove '..UptoSaid'. A law counts once. -/
mutual
def uptoBulk {H : Type} : DataW H → Nat
  | .lit (.string bytes) => bytes.length + 1
  | .lit _ => 1
  | .nil => 1
  | .ptr d => uptoBulk d + 1
  | .slice elems spare => uptoBulkAll elems + uptoBulkAll spare + 1
  | .agg parts => uptoBulkAll parts + 1
  | .iface _ d => uptoBulk d + 1
  | .map entries => uptoBulkEntries entries + 1
  | .held _ => 1
def uptoBulkAll {H : Type} : List (DataW H) → Nat
  | [] => 0
  | d :: r => uptoBulk d + uptoBulkAll r
def uptoBulkEntries {H : Type} : List (Lit × DataW H) → Nat
  | [] => 0
  | x :: r => uptoBulkEntry x + uptoBulkEntries r
def uptoBulkEntry {H : Type} : Lit × DataW H → Nat
  | (.string bytes, d) => bytes.length + uptoBulk d + 1
  | (_, d) => uptoBulk d + 1
 end
def uptoSmall : (H : Type) → List (DataW H) → Bool := fun _ ds => decide (uptoBulkAll ds ≤ 1048576)
def OpenSpec.upto (s : _root_.Go.ChangeSpec) : _root_.Go.OpenSpec := { _root_.Go.OpenSpec.ofChange s with cond := some uptoSmall }

/-- 'laws.FnExactBreakFetch', WHERE WHAT IT READS IS OF BULK AT MOST 1048576: true; the input reads as it did. -/
def fnExactBreakFetchUptoRow : OpenClaim := { program := "ytijidheebmbkcaagreat", sum := "25cc61e60aa8829c282f3a372bcaa49000664a6639fa2abd915a8f35cec0f9df", func := "loop.example/g00245/laws.FnExactBreakFetch", spec := "fnExactBreakFetch", unfollowed := true, recurses := true, apart := false, narrowed := true }
def FnExactBreakFetchUptoSaid : Prop := fnExactBreakFetchUptoRow.holds Tryz.pinned (OpenSpec.upto fnExactBreakFetchSpec)

/-- 'laws.FnExactPartOf', WHERE WHAT IT READS IS OF BULK AT MOST 1048576: true; the input reads as it did. -/
def fnExactPartOfUptoRow : OpenClaim := { program := "ytijidheebmbkcaagreat", sum := "25cc61e60aa8829c282f3a372bcaa49000664a6639fa2abd915a8f35cec0f9df", func := "loop.example/g00245/laws.FnExactPartOf", spec := "fnExactPartOf", unfollowed := true, recurses := true, apart := false, narrowed := true }
def FnExactPartOfUptoSaid : Prop := fnExactPartOfUptoRow.holds Tryz.pinned (OpenSpec.upto fnExactPartOfSpec)

/-- 'laws.FnExactRestored', WHERE WHAT IT READS IS OF BULK AT MOST 1048576: true; the input reads as it did. -/
def fnExactRestoredUptoRow : OpenClaim := { program := "ytijidheebmbkcaagreat", sum := "25cc61e60aa8829c282f3a372bcaa49000664a6639fa2abd915a8f35cec0f9df", func := "loop.example/g00245/laws.FnExactRestored", spec := "fnExactRestored", inPlace := ["slices.overlaps[loop.example/g00245/impl.Entry]"], unfollowed := true, recurses := true, apart := false, narrowed := true }
def FnExactRestoredUptoSaid : Prop := fnExactRestoredUptoRow.holds Tryz.pinned (OpenSpec.upto fnExactRestoredSpec)

/-- 'laws.FnExactCloseFetch', WHERE WHAT IT READS IS OF BULK AT MOST 1048576: true; the input reads as it did. -/
def fnExactCloseFetchUptoRow : OpenClaim := { program := "ytijidheebmbkcaagreat", sum := "25cc61e60aa8829c282f3a372bcaa49000664a6639fa2abd915a8f35cec0f9df", func := "loop.example/g00245/laws.FnExactCloseFetch", spec := "fnExactCloseFetch", inPlace := ["slices.overlaps[loop.example/g00245/impl.Entry]"], unfollowed := true, recurses := true, apart := false, narrowed := true }
def FnExactCloseFetchUptoSaid : Prop := fnExactCloseFetchUptoRow.holds Tryz.pinned (OpenSpec.upto fnExactCloseFetchSpec)

end Rows
end Go.Proofs.YtijidheebmbkcaaGreat
