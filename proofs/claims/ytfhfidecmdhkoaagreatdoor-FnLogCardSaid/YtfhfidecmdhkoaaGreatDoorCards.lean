/-
  DERIVED. GIVEN WITH THE SEED: THE CARDS: each row of YtfhfidecmdhkoaaGreatDoorRows.lean that lists a variable, with what it lists TIED to the program's text (the seventh form; the later family's looks); each row that meets fmt, with fmt's text TOLD by the authors' own Lean function (tested against real Go, not proved from fmt's source: count such statements apart). THE CARD IS WHAT COUNTS. Prove the row's statement (the work); the ties are given (YtfhfidecmdhkoaaGreatDoorTie.lean); close each card by the builder's one call (the guide's Derived/Test/ToyasCard.lean, 'card_holds'). Laid BY PROGRAM, IN A SANDBOX (cutbox-door.mjs). By AI agents, Wed Nov 11 2026. No macro, syntax, notation, axiom, sorry.
-/
import Derived.Test.YtfhfidecmdhkoaaGreatDoorRows
import GoSem.ClaimSeven
namespace Go.Proofs.YtfhfidecmdhkoaaGreatDoor
namespace Rows

/-- THE TIED CARD OF 'laws.FnExactAppendEntry'. -/
def fnExactAppendEntryCard : Claim7 := { stood := { row := fnExactAppendEntryRow, standIns := [], harness := (true, "0f5da29d48cfd890efb9e0cafcb31fd95b5a34632cf037ef33be82bf584b020a"), looks := true }, kinds := [], alts := [], laidByText := true, laidKinds := [.data, .data, .data, .data, .sentinel, .sentinel, .pinned], laidTests := true, laidLooks := .later }
def FnExactAppendEntryCardSaid : Prop := Claim7.holds Tryz.pinned (.plain (OpenSpec.ofChange fnExactAppendEntrySpec)) fnExactAppendEntryCard

/-- THE TIED CARD OF 'laws.FnExactScanLog'. -/
def fnExactScanLogCard : Claim7 := { stood := { row := fnExactScanLogRow, standIns := [], harness := (true, "0f5da29d48cfd890efb9e0cafcb31fd95b5a34632cf037ef33be82bf584b020a"), looks := true }, kinds := [], alts := [], laidByText := true, laidKinds := [.data, .data, .data, .data, .sentinel, .sentinel, .pinned], laidTests := true, laidLooks := .later }
def FnExactScanLogCardSaid : Prop := Claim7.holds Tryz.pinned (.plain (OpenSpec.ofChange fnExactScanLogSpec)) fnExactScanLogCard

/-- THE TIED CARD OF 'laws.FnLog'. -/
def fnLogCard : Claim7 := { stood := { row := fnLogRow, standIns := [], harness := (true, "0f5da29d48cfd890efb9e0cafcb31fd95b5a34632cf037ef33be82bf584b020a"), looks := true }, kinds := [], alts := [], laidByText := true, laidKinds := [.data, .data, .data, .data, .sentinel, .sentinel, .pinned], laidTests := true, laidLooks := .later }
def FnLogCardSaid : Prop := Claim7.holds Tryz.pinned (.plain (OpenSpec.ofChange fnLogSpec)) fnLogCard

/-- THE SECOND FORM's CARD OF 'laws.FnExactAppendEntry'. -/
def fnExactAppendEntryUptoCard : Claim7 := { stood := { row := fnExactAppendEntryUptoRow, standIns := [], harness := (true, "0f5da29d48cfd890efb9e0cafcb31fd95b5a34632cf037ef33be82bf584b020a"), looks := true }, kinds := [], alts := [], laidByText := true, laidKinds := [.data, .data, .data, .data, .sentinel, .sentinel, .pinned], laidTests := true, laidLooks := .later }
def FnExactAppendEntryUptoCardSaid : Prop := Claim7.holds Tryz.pinned (.plain (OpenSpec.upto fnExactAppendEntrySpec)) fnExactAppendEntryUptoCard

/-- THE SECOND FORM's CARD OF 'laws.FnExactScanLog'. -/
def fnExactScanLogUptoCard : Claim7 := { stood := { row := fnExactScanLogUptoRow, standIns := [], harness := (true, "0f5da29d48cfd890efb9e0cafcb31fd95b5a34632cf037ef33be82bf584b020a"), looks := true }, kinds := [], alts := [], laidByText := true, laidKinds := [.data, .data, .data, .data, .sentinel, .sentinel, .pinned], laidTests := true, laidLooks := .later }
def FnExactScanLogUptoCardSaid : Prop := Claim7.holds Tryz.pinned (.plain (OpenSpec.upto fnExactScanLogSpec)) fnExactScanLogUptoCard

/-- THE SECOND FORM's CARD OF 'laws.FnLog'. -/
def fnLogUptoCard : Claim7 := { stood := { row := fnLogUptoRow, standIns := [], harness := (true, "0f5da29d48cfd890efb9e0cafcb31fd95b5a34632cf037ef33be82bf584b020a"), looks := true }, kinds := [], alts := [], laidByText := true, laidKinds := [.data, .data, .data, .data, .sentinel, .sentinel, .pinned], laidTests := true, laidLooks := .later }
def FnLogUptoCardSaid : Prop := Claim7.holds Tryz.pinned (.plain (OpenSpec.upto fnLogSpec)) fnLogUptoCard
end Rows
end Go.Proofs.YtfhfidecmdhkoaaGreatDoor
