/-
  No cell of these rows narrows 'for every input' (looked for: loops, veiled, ifaces, maps, wideKeys, modest, calm, conditions, laid).
  DERIVED. THE GIVEN ROWS OF THIS SEAT. 5 by the template 'for every input the law returns true; each argument reads behind the call as it read before'; 0 by the template 'total and deterministic' (their statements: YtilcgpcemjeaeaaGreatTotals.lean).
  GIVEN WITH THE SEED: the statements are not yours to turn. If you find one false, say at which input.
  Laid BY PROGRAM, IN A SANDBOX (cutbox-rows.mjs): the forced cells as the released guide's own fill.sh prints them over the translation c55dd419d3cfff6c… (all of the seat's roots in one cut). By AI agents, Wed Nov 11 2026. No macro, syntax, notation, axiom, sorry.
-/
import Derived.Test.YtilcgpcemjeaeaaGreatChecked
import GoSem.Claim
import GoSem.ClaimJoined
import GoSem.ClaimMapViews
import Derived.JoinedTies
import Derived.KernelRfl
namespace Go.Proofs.YtilcgpcemjeaeaaGreat
/- THE CELL 'sum', in the pinned program and in every row, IS THE sha256 OF THE DUMP (.gsa) THAT YtilcgpcemjeaeaaGreatProg.lean LOADS. Nothing in Lean hashes anything: it is a label: what it is worth is what the hold of that sum in a sandbox is worth. -/
noncomputable def Tryz.pinned : Pinned := { name := "ytilcgpcemjeaeaagreat", sum := "c55dd419d3cfff6c1442bb4f256e8db54f69568da6ebe0b9da6bbc028801513f", checked := Tryz.checked }
namespace Rows
def none {H : Type} : Left H := { results := [], args := [] }

/-- 'laws.FnFallen': WHATEVER THE INPUT: true; the input reads as it did. -/
def fnFallenSpec : ChangeSpec := { name := "fnFallen", fn := fun _ => fun
  | [d] => { results := [.lit (.bool true)], args := [d] }
  | _ => none }
def fnFallenRow : OpenClaim := { program := "ytilcgpcemjeaeaagreat", sum := "c55dd419d3cfff6c1442bb4f256e8db54f69568da6ebe0b9da6bbc028801513f", func := "loop.example/g00245/laws.FnFallen", spec := "fnFallen", inPlace := ["slices.overlaps[loop.example/g00245/impl.Client]", "slices.overlaps[loop.example/g00245/impl.Entry]", "slices.overlaps[loop.example/g00245/impl.File]"], unfollowed := true, recurses := true, apart := false }
def FnFallenSaid : Prop := fnFallenRow.holds Tryz.pinned (OpenSpec.ofChange fnFallenSpec)

/-- ITS FALSE NEIGHBOUR: 'it returns false'. Refute it at one input. -/
def fnFallenWrong : ChangeSpec := { name := "fnFallen", fn := fun _ => fun
  | [d] => { results := [.lit (.bool false)], args := [d] }
  | _ => none }
def FnFallenWrongFalsely : Prop := fnFallenRow.holds Tryz.pinned (OpenSpec.ofChange fnFallenWrong)

/-- 'laws.FnTop': WHATEVER THE INPUT: true; the input reads as it did. -/
def fnTopSpec : ChangeSpec := { name := "fnTop", fn := fun _ => fun
  | [d] => { results := [.lit (.bool true)], args := [d] }
  | _ => none }
def fnTopRow : OpenClaim := { program := "ytilcgpcemjeaeaagreat", sum := "c55dd419d3cfff6c1442bb4f256e8db54f69568da6ebe0b9da6bbc028801513f", func := "loop.example/g00245/laws.FnTop", spec := "fnTop", inPlace := ["slices.overlaps[loop.example/g00245/impl.Client]", "slices.overlaps[loop.example/g00245/impl.Entry]", "slices.overlaps[loop.example/g00245/impl.File]"], unfollowed := true, recurses := true, apart := false }
def FnTopSaid : Prop := fnTopRow.holds Tryz.pinned (OpenSpec.ofChange fnTopSpec)

/-- ITS FALSE NEIGHBOUR: 'it returns false'. Refute it at one input. -/
def fnTopWrong : ChangeSpec := { name := "fnTop", fn := fun _ => fun
  | [d] => { results := [.lit (.bool false)], args := [d] }
  | _ => none }
def FnTopWrongFalsely : Prop := fnTopRow.holds Tryz.pinned (OpenSpec.ofChange fnTopWrong)

/-- 'laws.FnExactRunLife': WHATEVER THE INPUT: true; the input reads as it did. -/
def fnExactRunLifeSpec : ChangeSpec := { name := "fnExactRunLife", fn := fun _ => fun
  | [d] => { results := [.lit (.bool true)], args := [d] }
  | _ => none }
def fnExactRunLifeRow : OpenClaim := { program := "ytilcgpcemjeaeaagreat", sum := "c55dd419d3cfff6c1442bb4f256e8db54f69568da6ebe0b9da6bbc028801513f", func := "loop.example/g00245/laws.FnExactRunLife", spec := "fnExactRunLife", inPlace := ["slices.overlaps[loop.example/g00245/impl.Client]", "slices.overlaps[loop.example/g00245/impl.Entry]", "slices.overlaps[loop.example/g00245/impl.File]"], unfollowed := true, recurses := true, apart := false }
def FnExactRunLifeSaid : Prop := fnExactRunLifeRow.holds Tryz.pinned (OpenSpec.ofChange fnExactRunLifeSpec)

/-- ITS FALSE NEIGHBOUR: 'it returns false'. Refute it at one input. -/
def fnExactRunLifeWrong : ChangeSpec := { name := "fnExactRunLife", fn := fun _ => fun
  | [d] => { results := [.lit (.bool false)], args := [d] }
  | _ => none }
def FnExactRunLifeWrongFalsely : Prop := fnExactRunLifeRow.holds Tryz.pinned (OpenSpec.ofChange fnExactRunLifeWrong)

/-- 'laws.FnLives': WHATEVER THE INPUT: true; the input reads as it did. -/
def fnLivesSpec : ChangeSpec := { name := "fnLives", fn := fun _ => fun
  | [d] => { results := [.lit (.bool true)], args := [d] }
  | _ => none }
def fnLivesRow : OpenClaim := { program := "ytilcgpcemjeaeaagreat", sum := "c55dd419d3cfff6c1442bb4f256e8db54f69568da6ebe0b9da6bbc028801513f", func := "loop.example/g00245/laws.FnLives", spec := "fnLives", inPlace := ["slices.overlaps[loop.example/g00245/impl.Client]", "slices.overlaps[loop.example/g00245/impl.Entry]", "slices.overlaps[loop.example/g00245/impl.File]"], unfollowed := true, recurses := true, apart := false }
def FnLivesSaid : Prop := fnLivesRow.holds Tryz.pinned (OpenSpec.ofChange fnLivesSpec)

/-- ITS FALSE NEIGHBOUR: 'it returns false'. Refute it at one input. -/
def fnLivesWrong : ChangeSpec := { name := "fnLives", fn := fun _ => fun
  | [d] => { results := [.lit (.bool false)], args := [d] }
  | _ => none }
def FnLivesWrongFalsely : Prop := fnLivesRow.holds Tryz.pinned (OpenSpec.ofChange fnLivesWrong)

/-- 'laws.FnGot': WHATEVER THE INPUT: true; the input reads as it did. -/
def fnGotSpec : ChangeSpec := { name := "fnGot", fn := fun _ => fun
  | [d] => { results := [.lit (.bool true)], args := [d] }
  | _ => none }
def fnGotRow : OpenClaim := { program := "ytilcgpcemjeaeaagreat", sum := "c55dd419d3cfff6c1442bb4f256e8db54f69568da6ebe0b9da6bbc028801513f", func := "loop.example/g00245/laws.FnGot", spec := "fnGot", inPlace := ["slices.overlaps[loop.example/g00245/impl.Client]", "slices.overlaps[loop.example/g00245/impl.Entry]", "slices.overlaps[loop.example/g00245/impl.File]"], unfollowed := true, recurses := true, apart := false }
def FnGotSaid : Prop := fnGotRow.holds Tryz.pinned (OpenSpec.ofChange fnGotSpec)

/-- ITS FALSE NEIGHBOUR: 'it returns false'. Refute it at one input. -/
def fnGotWrong : ChangeSpec := { name := "fnGot", fn := fun _ => fun
  | [d] => { results := [.lit (.bool false)], args := [d] }
  | _ => none }
def FnGotWrongFalsely : Prop := fnGotRow.holds Tryz.pinned (OpenSpec.ofChange fnGotWrong)

/- THE SECOND FORM. 'bulk': how many values and letters a reading holds, each counted each time it is reached (what is shared counts as often as it is met; a slice's spare places count too). A statement '..UptoSaid' is the law's where the arguments, and the package variables that the reading takes, are together of bulk at most 1048576: NARROWER than '..Said'. Prove '..Said' where nothing that the law and all that it calls make is longer than what came in: it says more and counts as full. Else prove '..UptoSaid'. A law counts once. -/
mutual
def uptoBulk {H : Type} : DataW H → Nat
  | .lit (.string bytes) => bytes.length + 1
  | .lit _ => 1
  | .nil => 1
  | .ptr d => uptoBulk d + 1
  | .slice elems spare => uptoBulkAll elems + uptoBulkAll spare + 1
  | .agg parts => uptoBulkAll parts + 1
  | .iface _ d => uptoBulk d + 1
  | .map entries => uptoBulkEntries entries + 1
  | .held _ => 1
def uptoBulkAll {H : Type} : List (DataW H) → Nat
  | [] => 0
  | d :: r => uptoBulk d + uptoBulkAll r
def uptoBulkEntries {H : Type} : List (Lit × DataW H) → Nat
  | [] => 0
  | x :: r => uptoBulkEntry x + uptoBulkEntries r
def uptoBulkEntry {H : Type} : Lit × DataW H → Nat
  | (.string bytes, d) => bytes.length + uptoBulk d + 1
  | (_, d) => uptoBulk d + 1
 end
def uptoSmall : (H : Type) → List (DataW H) → Bool := fun _ ds => decide (uptoBulkAll ds ≤ 1048576)
def OpenSpec.upto (s : _root_.Go.ChangeSpec) : _root_.Go.OpenSpec := { _root_.Go.OpenSpec.ofChange s with cond := some uptoSmall }

/-- 'laws.FnFallen', WHERE WHAT IT READS IS OF BULK AT MOST 1048576: true; the input reads as it did. -/
def fnFallenUptoRow : OpenClaim := { program := "ytilcgpcemjeaeaagreat", sum := "c55dd419d3cfff6c1442bb4f256e8db54f69568da6ebe0b9da6bbc028801513f", func := "loop.example/g00245/laws.FnFallen", spec := "fnFallen", inPlace := ["slices.overlaps[loop.example/g00245/impl.Client]", "slices.overlaps[loop.example/g00245/impl.Entry]", "slices.overlaps[loop.example/g00245/impl.File]"], unfollowed := true, recurses := true, apart := false, narrowed := true }
def FnFallenUptoSaid : Prop := fnFallenUptoRow.holds Tryz.pinned (OpenSpec.upto fnFallenSpec)

/-- 'laws.FnTop', WHERE WHAT IT READS IS OF BULK AT MOST 1048576: true; the input reads as it did. -/
def fnTopUptoRow : OpenClaim := { program := "ytilcgpcemjeaeaagreat", sum := "c55dd419d3cfff6c1442bb4f256e8db54f69568da6ebe0b9da6bbc028801513f", func := "loop.example/g00245/laws.FnTop", spec := "fnTop", inPlace := ["slices.overlaps[loop.example/g00245/impl.Client]", "slices.overlaps[loop.example/g00245/impl.Entry]", "slices.overlaps[loop.example/g00245/impl.File]"], unfollowed := true, recurses := true, apart := false, narrowed := true }
def FnTopUptoSaid : Prop := fnTopUptoRow.holds Tryz.pinned (OpenSpec.upto fnTopSpec)

/-- 'laws.FnExactRunLife', WHERE WHAT IT READS IS OF BULK AT MOST 1048576: true; the input reads as it did. -/
def fnExactRunLifeUptoRow : OpenClaim := { program := "ytilcgpcemjeaeaagreat", sum := "c55dd419d3cfff6c1442bb4f256e8db54f69568da6ebe0b9da6bbc028801513f", func := "loop.example/g00245/laws.FnExactRunLife", spec := "fnExactRunLife", inPlace := ["slices.overlaps[loop.example/g00245/impl.Client]", "slices.overlaps[loop.example/g00245/impl.Entry]", "slices.overlaps[loop.example/g00245/impl.File]"], unfollowed := true, recurses := true, apart := false, narrowed := true }
def FnExactRunLifeUptoSaid : Prop := fnExactRunLifeUptoRow.holds Tryz.pinned (OpenSpec.upto fnExactRunLifeSpec)

/-- 'laws.FnLives', WHERE WHAT IT READS IS OF BULK AT MOST 1048576: true; the input reads as it did. -/
def fnLivesUptoRow : OpenClaim := { program := "ytilcgpcemjeaeaagreat", sum := "c55dd419d3cfff6c1442bb4f256e8db54f69568da6ebe0b9da6bbc028801513f", func := "loop.example/g00245/laws.FnLives", spec := "fnLives", inPlace := ["slices.overlaps[loop.example/g00245/impl.Client]", "slices.overlaps[loop.example/g00245/impl.Entry]", "slices.overlaps[loop.example/g00245/impl.File]"], unfollowed := true, recurses := true, apart := false, narrowed := true }
def FnLivesUptoSaid : Prop := fnLivesUptoRow.holds Tryz.pinned (OpenSpec.upto fnLivesSpec)

/-- 'laws.FnGot', WHERE WHAT IT READS IS OF BULK AT MOST 1048576: true; the input reads as it did. -/
def fnGotUptoRow : OpenClaim := { program := "ytilcgpcemjeaeaagreat", sum := "c55dd419d3cfff6c1442bb4f256e8db54f69568da6ebe0b9da6bbc028801513f", func := "loop.example/g00245/laws.FnGot", spec := "fnGot", inPlace := ["slices.overlaps[loop.example/g00245/impl.Client]", "slices.overlaps[loop.example/g00245/impl.Entry]", "slices.overlaps[loop.example/g00245/impl.File]"], unfollowed := true, recurses := true, apart := false, narrowed := true }
def FnGotUptoSaid : Prop := fnGotUptoRow.holds Tryz.pinned (OpenSpec.upto fnGotSpec)

end Rows
end Go.Proofs.YtilcgpcemjeaeaaGreat
