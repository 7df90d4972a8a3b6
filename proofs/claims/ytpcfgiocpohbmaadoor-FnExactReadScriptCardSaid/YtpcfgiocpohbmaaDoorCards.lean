/-
  DERIVED. GIVEN WITH THE SEED: THE CARDS: each row of YtpcfgiocpohbmaaDoorRows.lean that lists a variable, with what it lists TIED to the program's text (the seventh form; the later family's looks); each row that meets fmt, with fmt's text TOLD by the authors' own Lean function (tested against real Go, not proved from fmt's source: count such statements apart). THE CARD IS WHAT COUNTS. Prove the row's statement (the work); the ties are given (YtpcfgiocpohbmaaDoorTie.lean); close each card by the builder's one call (the guide's Derived/Test/ToyasCard.lean, 'card_holds'). Laid BY PROGRAM, IN A SANDBOX (cutbox-door.mjs). By AI agents, Wed Nov 11 2026. No macro, syntax, notation, axiom, sorry.
-/
import Derived.Test.YtpcfgiocpohbmaaDoorRows
import GoSem.ClaimSeven
namespace Go.Proofs.YtpcfgiocpohbmaaDoor
namespace Rows

/-- THE TIED CARD OF 'laws.FnExactShowClients'. -/
def fnExactShowClientsCard : Claim7 := { stood := { row := fnExactShowClientsRow, standIns := [], harness := (true, "1efcf709100a7ce6415d702bbaa1012a38a2a3369fe5135c5d890e06903fb86a"), looks := true }, kinds := [], alts := [], laidByText := true, laidKinds := [.data, .data, .data], laidTests := true, laidLooks := .later }
def FnExactShowClientsCardSaid : Prop := Claim7.holds Tryd.pinned (.plain (OpenSpec.ofChange fnExactShowClientsSpec)) fnExactShowClientsCard

/-- THE TIED CARD OF 'laws.FnExactReadScript'. -/
def fnExactReadScriptCard : Claim7 := { stood := { row := fnExactReadScriptRow, standIns := [], harness := (true, "1efcf709100a7ce6415d702bbaa1012a38a2a3369fe5135c5d890e06903fb86a"), looks := true }, kinds := [], alts := [], laidByText := true, laidKinds := [.data, .data, .data, .data, .sentinel, .sentinel, .pinned], laidTests := true, laidLooks := .later }
def FnExactReadScriptCardSaid : Prop := Claim7.holds Tryd.pinned (.plain (OpenSpec.ofChange fnExactReadScriptSpec)) fnExactReadScriptCard

/-- THE SECOND FORM's CARD OF 'laws.FnExactShowClients'. -/
def fnExactShowClientsUptoCard : Claim7 := { stood := { row := fnExactShowClientsUptoRow, standIns := [], harness := (true, "1efcf709100a7ce6415d702bbaa1012a38a2a3369fe5135c5d890e06903fb86a"), looks := true }, kinds := [], alts := [], laidByText := true, laidKinds := [.data, .data, .data], laidTests := true, laidLooks := .later }
def FnExactShowClientsUptoCardSaid : Prop := Claim7.holds Tryd.pinned (.plain (OpenSpec.upto fnExactShowClientsSpec)) fnExactShowClientsUptoCard

/-- THE SECOND FORM's CARD OF 'laws.FnExactReadScript'. -/
def fnExactReadScriptUptoCard : Claim7 := { stood := { row := fnExactReadScriptUptoRow, standIns := [], harness := (true, "1efcf709100a7ce6415d702bbaa1012a38a2a3369fe5135c5d890e06903fb86a"), looks := true }, kinds := [], alts := [], laidByText := true, laidKinds := [.data, .data, .data, .data, .sentinel, .sentinel, .pinned], laidTests := true, laidLooks := .later }
def FnExactReadScriptUptoCardSaid : Prop := Claim7.holds Tryd.pinned (.plain (OpenSpec.upto fnExactReadScriptSpec)) fnExactReadScriptUptoCard
end Rows
end Go.Proofs.YtpcfgiocpohbmaaDoor
