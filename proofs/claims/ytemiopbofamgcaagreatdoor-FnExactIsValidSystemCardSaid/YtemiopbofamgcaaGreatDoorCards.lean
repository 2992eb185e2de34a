/-
  DERIVED. GIVEN WITH THE SEED: THE CARDS: each row of YtemiopbofamgcaaGreatDoorRows.lean that lists a variable, with what it lists TIED to the program's text (the seventh form; the later family's looks); each row that meets fmt, with fmt's text TOLD by the authors' own Lean function (tested against real Go, not proved from fmt's source: count such statements apart). THE CARD IS WHAT COUNTS. Prove the row's statement (the work); the ties are given (YtemiopbofamgcaaGreatDoorTie.lean); close each card by the builder's one call (the guide's Derived/Test/ToyasCard.lean, 'card_holds'). Laid BY PROGRAM, IN A SANDBOX (cutbox-door.mjs). By AI agents, Wed Nov 11 2026. No macro, syntax, notation, axiom, sorry.
-/
import Derived.Test.YtemiopbofamgcaaGreatDoorRows
import GoSem.ClaimSeven
namespace Go.Proofs.YtemiopbofamgcaaGreatDoor
namespace Rows

/-- THE TIED CARD OF 'laws.FnExactIsValidSystem'. -/
def fnExactIsValidSystemCard : Claim7 := { stood := { row := fnExactIsValidSystemRow, standIns := [], harness := (true, "636d39117b37561fb10a476e63b40264e85cd8d2673377a17250a488789280ac"), looks := true }, kinds := [], alts := [], laidByText := true, laidKinds := [.data, .data, .data, .data, .sentinel, .sentinel, .data, .pinned], laidTests := true, laidLooks := .later }
def FnExactIsValidSystemCardSaid : Prop := Claim7.holds Tryz.pinned (.plain (OpenSpec.ofChange fnExactIsValidSystemSpec)) fnExactIsValidSystemCard

/-- THE SECOND FORM's CARD OF 'laws.FnExactIsValidSystem'. -/
def fnExactIsValidSystemUptoCard : Claim7 := { stood := { row := fnExactIsValidSystemUptoRow, standIns := [], harness := (true, "636d39117b37561fb10a476e63b40264e85cd8d2673377a17250a488789280ac"), looks := true }, kinds := [], alts := [], laidByText := true, laidKinds := [.data, .data, .data, .data, .sentinel, .sentinel, .data, .pinned], laidTests := true, laidLooks := .later }
def FnExactIsValidSystemUptoCardSaid : Prop := Claim7.holds Tryz.pinned (.plain (OpenSpec.upto fnExactIsValidSystemSpec)) fnExactIsValidSystemUptoCard
end Rows
end Go.Proofs.YtemiopbofamgcaaGreatDoor
