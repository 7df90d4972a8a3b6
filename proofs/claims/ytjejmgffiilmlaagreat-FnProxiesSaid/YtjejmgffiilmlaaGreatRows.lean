/-
  No cell of these rows narrows 'for every input' (looked for: loops, veiled, ifaces, maps, wideKeys, modest, calm, conditions, laid).
  DERIVED. THE GIVEN ROWS OF THIS SEAT. 5 by the template 'for every input the law returns true; each argument reads behind the call as it read before'; 0 by the template 'total and deterministic' (their statements: YtjejmgffiilmlaaGreatTotals.lean).
  GIVEN WITH THE SEED: the statements are not yours to turn. If you find one false, say at which input.
  Laid BY PROGRAM, IN A SANDBOX (cutbox-rows.mjs): the forced cells as the released guide's own fill.sh prints them over the translation 842de87d671ba85f… (all of the seat's roots in one cut). By AI agents, Wed Nov 11 2026. No macro, syntax, notation, axiom, sorry.
-/
import Derived.Test.YtjejmgffiilmlaaGreatChecked
import GoSem.Claim
import GoSem.ClaimJoined
import GoSem.ClaimMapViews
import Derived.JoinedTies
import Derived.KernelRfl
namespace Go.Proofs.YtjejmgffiilmlaaGreat
/- THE CELL 'sum', in the pinned program and in every row, IS THE sha256 OF THE DUMP (.gsa) THAT YtjejmgffiilmlaaGreatProg.lean LOADS. Nothing in Lean hashes anything: it is a label: what it is worth is what the hold of that sum in a sandbox is worth. -/
noncomputable def Tryz.pinned : Pinned := { name := "ytjejmgffiilmlaagreat", sum := "842de87d671ba85fad92006c1b204386483bbd83cc687a0b069cf54bee442cba", checked := Tryz.checked }
namespace Rows
def none {H : Type} : Left H := { results := [], args := [] }

/-- 'laws.FnExactAskFor': WHATEVER THE INPUT: true; the input reads as it did. -/
def fnExactAskForSpec : ChangeSpec := { name := "fnExactAskFor", fn := fun _ => fun
  | [d1, d2, d3] => { results := [.lit (.bool true)], args := [d1, d2, d3] }
  | _ => none }
def fnExactAskForRow : OpenClaim := { program := "ytjejmgffiilmlaagreat", sum := "842de87d671ba85fad92006c1b204386483bbd83cc687a0b069cf54bee442cba", func := "loop.example/g00245/laws.FnExactAskFor", spec := "fnExactAskFor", inPlace := ["slices.overlaps[loop.example/g00245/impl.Client]"], unfollowed := true, recurses := true, apart := false }
def FnExactAskForSaid : Prop := fnExactAskForRow.holds Tryz.pinned (OpenSpec.ofChange fnExactAskForSpec)

/-- ITS FALSE NEIGHBOUR: 'it returns false'. Refute it at one input. -/
def fnExactAskForWrong : ChangeSpec := { name := "fnExactAskFor", fn := fun _ => fun
  | [d1, d2, d3] => { results := [.lit (.bool false)], args := [d1, d2, d3] }
  | _ => none }
def FnExactAskForWrongFalsely : Prop := fnExactAskForRow.holds Tryz.pinned (OpenSpec.ofChange fnExactAskForWrong)

/-- 'laws.FnTimes': WHATEVER THE INPUT: true; the input reads as it did. -/
def fnTimesSpec : ChangeSpec := { name := "fnTimes", fn := fun _ => fun
  | [d] => { results := [.lit (.bool true)], args := [d] }
  | _ => none }
def fnTimesRow : OpenClaim := { program := "ytjejmgffiilmlaagreat", sum := "842de87d671ba85fad92006c1b204386483bbd83cc687a0b069cf54bee442cba", func := "loop.example/g00245/laws.FnTimes", spec := "fnTimes", unfollowed := true, recurses := true, apart := false }
def FnTimesSaid : Prop := fnTimesRow.holds Tryz.pinned (OpenSpec.ofChange fnTimesSpec)

/-- ITS FALSE NEIGHBOUR: 'it returns false'. Refute it at one input. -/
def fnTimesWrong : ChangeSpec := { name := "fnTimes", fn := fun _ => fun
  | [d] => { results := [.lit (.bool false)], args := [d] }
  | _ => none }
def FnTimesWrongFalsely : Prop := fnTimesRow.holds Tryz.pinned (OpenSpec.ofChange fnTimesWrong)

/-- 'laws.FnOnce': WHATEVER THE INPUT: true; the input reads as it did. -/
def fnOnceSpec : ChangeSpec := { name := "fnOnce", fn := fun _ => fun
  | [d] => { results := [.lit (.bool true)], args := [d] }
  | _ => none }
def fnOnceRow : OpenClaim := { program := "ytjejmgffiilmlaagreat", sum := "842de87d671ba85fad92006c1b204386483bbd83cc687a0b069cf54bee442cba", func := "loop.example/g00245/laws.FnOnce", spec := "fnOnce", inPlace := ["slices.overlaps[loop.example/g00245/impl.Client]", "slices.overlaps[loop.example/g00245/impl.Entry]"], unfollowed := true, recurses := true, apart := false }
def FnOnceSaid : Prop := fnOnceRow.holds Tryz.pinned (OpenSpec.ofChange fnOnceSpec)

/-- ITS FALSE NEIGHBOUR: 'it returns false'. Refute it at one input. -/
def fnOnceWrong : ChangeSpec := { name := "fnOnce", fn := fun _ => fun
  | [d] => { results := [.lit (.bool false)], args := [d] }
  | _ => none }
def FnOnceWrongFalsely : Prop := fnOnceRow.holds Tryz.pinned (OpenSpec.ofChange fnOnceWrong)

/-- 'laws.FnExactSoundWorld': WHATEVER THE INPUT: true; the input reads as it did. -/
def fnExactSoundWorldSpec : ChangeSpec := { name := "fnExactSoundWorld", fn := fun _ => fun
  | [d] => { results := [.lit (.bool true)], args := [d] }
  | _ => none }
def fnExactSoundWorldRow : OpenClaim := { program := "ytjejmgffiilmlaagreat", sum := "842de87d671ba85fad92006c1b204386483bbd83cc687a0b069cf54bee442cba", func := "loop.example/g00245/laws.FnExactSoundWorld", spec := "fnExactSoundWorld", inPlace := ["slices.overlaps[loop.example/g00245/impl.Entry]"], unfollowed := true, recurses := true, apart := false }
def FnExactSoundWorldSaid : Prop := fnExactSoundWorldRow.holds Tryz.pinned (OpenSpec.ofChange fnExactSoundWorldSpec)

/-- ITS FALSE NEIGHBOUR: 'it returns false'. Refute it at one input. -/
def fnExactSoundWorldWrong : ChangeSpec := { name := "fnExactSoundWorld", fn := fun _ => fun
  | [d] => { results := [.lit (.bool false)], args := [d] }
  | _ => none }
def FnExactSoundWorldWrongFalsely : Prop := fnExactSoundWorldRow.holds Tryz.pinned (OpenSpec.ofChange fnExactSoundWorldWrong)

/-- 'laws.FnProxies': WHATEVER THE INPUT: true; the input reads as it did. -/
def fnProxiesSpec : ChangeSpec := { name := "fnProxies", fn := fun _ => fun
  | [d] => { results := [.lit (.bool true)], args := [d] }
  | _ => none }
def fnProxiesRow : OpenClaim := { program := "ytjejmgffiilmlaagreat", sum := "842de87d671ba85fad92006c1b204386483bbd83cc687a0b069cf54bee442cba", func := "loop.example/g00245/laws.FnProxies", spec := "fnProxies", inPlace := ["slices.overlaps[loop.example/g00245/impl.Client]", "slices.overlaps[loop.example/g00245/impl.Entry]"], unfollowed := true, recurses := true, apart := false }
def FnProxiesSaid : Prop := fnProxiesRow.holds Tryz.pinned (OpenSpec.ofChange fnProxiesSpec)

/-- ITS FALSE NEIGHBOUR: 'it returns false'. Refute it at one input. -/
def fnProxiesWrong : ChangeSpec := { name := "fnProxies", fn := fun _ => fun
  | [d] => { results := [.lit (.bool false)], args := [d] }
  | _ => none }
def FnProxiesWrongFalsely : Prop := fnProxiesRow.holds Tryz.pinned (OpenSpec.ofChange fnProxiesWrong)

/- THE SECOND FORM. 'bulk': how many values and letters a reading holds, each counted each time it is reached (what is shared counts as often as it is met; a slice's spare places count too). A statement '..UptoSaid' is the law's where the arguments, and the package variables that the reading takes, are together of bulk at most 1048576: NARROWER than '..Said'. Prove '..Said' where nothing that the law and all that it calls make is longer than what came in: it says more and counts as full. Else prove '..UptoSaid'. A law counts once. -/
mutual
def uptoBulk {H : Type} : DataW H → Nat
  | .lit (.string bytes) => bytes.length + 1
  | .lit _ => 1
  | .nil => 1
  | .ptr d => uptoBulk d + 1
  | .slice elems spare => uptoBulkAll elems + uptoBulkAll spare + 1
  | .agg parts => uptoBulkAll parts + 1
  | .iface _ d => uptoBulk d + 1
  | .map entries => uptoBulkEntries entries + 1
  | .held _ => 1
def uptoBulkAll {H : Type} : List (DataW H) → Nat
  | [] => 0
  | d :: r => uptoBulk d + uptoBulkAll r
def uptoBulkEntries {H : Type} : List (Lit × DataW H) → Nat
  | [] => 0
  | x :: r => uptoBulkEntry x + uptoBulkEntries r
def uptoBulkEntry {H : Type} : Lit × DataW H → Nat
  | (.string bytes, d) => bytes.length + uptoBulk d + 1
  | (_, d) => uptoBulk d + 1
 end
def uptoSmall : (H : Type) → List (DataW H) → Bool := fun _ ds => decide (uptoBulkAll ds ≤ 1048576)
def OpenSpec.upto (s : _root_.Go.ChangeSpec) : _root_.Go.OpenSpec := { _root_.Go.OpenSpec.ofChange s with cond := some uptoSmall }

/-- 'laws.FnExactAskFor', WHERE WHAT IT READS IS OF BULK AT MOST 1048576: true; the input reads as it did. -/
def fnExactAskForUptoRow : OpenClaim := { program := "ytjejmgffiilmlaagreat", sum := "842de87d671ba85fad92006c1b204386483bbd83cc687a0b069cf54bee442cba", func := "loop.example/g00245/laws.FnExactAskFor", spec := "fnExactAskFor", inPlace := ["slices.overlaps[loop.example/g00245/impl.Client]"], unfollowed := true, recurses := true, apart := false, narrowed := true }
def FnExactAskForUptoSaid : Prop := fnExactAskForUptoRow.holds Tryz.pinned (OpenSpec.upto fnExactAskForSpec)

/-- 'laws.FnTimes', WHERE WHAT IT READS IS OF BULK AT MOST 1048576: true; the input reads as it did. -/
def fnTimesUptoRow : OpenClaim := { program := "ytjejmgffiilmlaagreat", sum := "842de87d671ba85fad92006c1b204386483bbd83cc687a0b069cf54bee442cba", func := "loop.example/g00245/laws.FnTimes", spec := "fnTimes", unfollowed := true, recurses := true, apart := false, narrowed := true }
def FnTimesUptoSaid : Prop := fnTimesUptoRow.holds Tryz.pinned (OpenSpec.upto fnTimesSpec)

/-- 'laws.FnOnce', WHERE WHAT IT READS IS OF BULK AT MOST 1048576: true; the input reads as it did. -/
def fnOnceUptoRow : OpenClaim := { program := "ytjejmgffiilmlaagreat", sum := "842de87d671ba85fad92006c1b204386483bbd83cc687a0b069cf54bee442cba", func := "loop.example/g00245/laws.FnOnce", spec := "fnOnce", inPlace := ["slices.overlaps[loop.example/g00245/impl.Client]", "slices.overlaps[loop.example/g00245/impl.Entry]"], unfollowed := true, recurses := true, apart := false, narrowed := true }
def FnOnceUptoSaid : Prop := fnOnceUptoRow.holds Tryz.pinned (OpenSpec.upto fnOnceSpec)

/-- 'laws.FnExactSoundWorld', WHERE WHAT IT READS IS OF BULK AT MOST 1048576: true; the input reads as it did. -/
def fnExactSoundWorldUptoRow : OpenClaim := { program := "ytjejmgffiilmlaagreat", sum := "842de87d671ba85fad92006c1b204386483bbd83cc687a0b069cf54bee442cba", func := "loop.example/g00245/laws.FnExactSoundWorld", spec := "fnExactSoundWorld", inPlace := ["slices.overlaps[loop.example/g00245/impl.Entry]"], unfollowed := true, recurses := true, apart := false, narrowed := true }
def FnExactSoundWorldUptoSaid : Prop := fnExactSoundWorldUptoRow.holds Tryz.pinned (OpenSpec.upto fnExactSoundWorldSpec)

/-- 'laws.FnProxies', WHERE WHAT IT READS IS OF BULK AT MOST 1048576: true; the input reads as it did. -/
def fnProxiesUptoRow : OpenClaim := { program := "ytjejmgffiilmlaagreat", sum := "842de87d671ba85fad92006c1b204386483bbd83cc687a0b069cf54bee442cba", func := "loop.example/g00245/laws.FnProxies", spec := "fnProxies", inPlace := ["slices.overlaps[loop.example/g00245/impl.Client]", "slices.overlaps[loop.example/g00245/impl.Entry]"], unfollowed := true, recurses := true, apart := false, narrowed := true }
def FnProxiesUptoSaid : Prop := fnProxiesUptoRow.holds Tryz.pinned (OpenSpec.upto fnProxiesSpec)

end Rows
end Go.Proofs.YtjejmgffiilmlaaGreat
