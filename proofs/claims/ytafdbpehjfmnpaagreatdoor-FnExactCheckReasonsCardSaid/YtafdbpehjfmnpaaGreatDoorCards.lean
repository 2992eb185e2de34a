/-
  DERIVED. GIVEN WITH THE SEED: THE CARDS: each row of YtafdbpehjfmnpaaGreatDoorRows.lean that lists a variable, with what it lists TIED to the program's text (the seventh form; the later family's looks); each row that meets fmt, with fmt's text TOLD by the authors' own Lean function (tested against real Go, not proved from fmt's source: count such statements apart). THE CARD IS WHAT COUNTS. Prove the row's statement (the work); the ties are given (YtafdbpehjfmnpaaGreatDoorTie.lean); close each card by the builder's one call (the guide's Derived/Test/ToyasCard.lean, 'card_holds'). Laid BY PROGRAM, IN A SANDBOX (cutbox-door.mjs). By AI agents, Wed Nov 11 2026. No macro, syntax, notation, axiom, sorry.
-/
import Derived.Test.YtafdbpehjfmnpaaGreatDoorRows
import GoSem.ClaimSeven
namespace Go.Proofs.YtafdbpehjfmnpaaGreatDoor
namespace Rows

/-- THE TIED CARD OF 'laws.FnExactDirectReason'. -/
def fnExactDirectReasonCard : Claim7 := { stood := { row := fnExactDirectReasonRow, standIns := [], harness := (true, "e7b8413365a9de7ad3bdf9332ce082c8e18796d0d3b25a6471c5896eec1e5d12"), looks := true }, kinds := [], alts := [], laidByText := true, laidKinds := [.data, .data, .data, .data, .sentinel, .sentinel, .data, .pinned], laidTests := true, laidLooks := .later }
def FnExactDirectReasonCardSaid : Prop := Claim7.holds Tryz.pinned (.plain (OpenSpec.ofChange fnExactDirectReasonSpec)) fnExactDirectReasonCard

/-- THE TIED CARD OF 'laws.FnExactCheckReasons'. -/
def fnExactCheckReasonsCard : Claim7 := { stood := { row := fnExactCheckReasonsRow, standIns := [], harness := (true, "e7b8413365a9de7ad3bdf9332ce082c8e18796d0d3b25a6471c5896eec1e5d12"), looks := true }, kinds := [], alts := [], laidByText := true, laidKinds := [.data, .data, .data, .data, .sentinel, .sentinel, .data, .pinned], laidTests := true, laidLooks := .later }
def FnExactCheckReasonsCardSaid : Prop := Claim7.holds Tryz.pinned (.plain (OpenSpec.ofChange fnExactCheckReasonsSpec)) fnExactCheckReasonsCard

/-- THE SECOND FORM's CARD OF 'laws.FnExactDirectReason'. -/
def fnExactDirectReasonUptoCard : Claim7 := { stood := { row := fnExactDirectReasonUptoRow, standIns := [], harness := (true, "e7b8413365a9de7ad3bdf9332ce082c8e18796d0d3b25a6471c5896eec1e5d12"), looks := true }, kinds := [], alts := [], laidByText := true, laidKinds := [.data, .data, .data, .data, .sentinel, .sentinel, .data, .pinned], laidTests := true, laidLooks := .later }
def FnExactDirectReasonUptoCardSaid : Prop := Claim7.holds Tryz.pinned (.plain (OpenSpec.upto fnExactDirectReasonSpec)) fnExactDirectReasonUptoCard

/-- THE SECOND FORM's CARD OF 'laws.FnExactCheckReasons'. -/
def fnExactCheckReasonsUptoCard : Claim7 := { stood := { row := fnExactCheckReasonsUptoRow, standIns := [], harness := (true, "e7b8413365a9de7ad3bdf9332ce082c8e18796d0d3b25a6471c5896eec1e5d12"), looks := true }, kinds := [], alts := [], laidByText := true, laidKinds := [.data, .data, .data, .data, .sentinel, .sentinel, .data, .pinned], laidTests := true, laidLooks := .later }
def FnExactCheckReasonsUptoCardSaid : Prop := Claim7.holds Tryz.pinned (.plain (OpenSpec.upto fnExactCheckReasonsSpec)) fnExactCheckReasonsUptoCard
end Rows
end Go.Proofs.YtafdbpehjfmnpaaGreatDoor
