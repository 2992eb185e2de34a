/-
  DERIVED. GIVEN WITH THE SEED: THE CARDS: each row of YtnlkiflcbknaaaaGreatDoorRows.lean that lists a variable, with what it lists TIED to the program's text (the seventh form; the later family's looks); each row that meets fmt, with fmt's text TOLD by the authors' own Lean function (tested against real Go, not proved from fmt's source: count such statements apart). THE CARD IS WHAT COUNTS. Prove the row's statement (the work); the ties are given (YtnlkiflcbknaaaaGreatDoorTie.lean); close each card by the builder's one call (the guide's Derived/Test/ToyasCard.lean, 'card_holds'). Laid BY PROGRAM, IN A SANDBOX (cutbox-door.mjs). By AI agents, Wed Nov 11 2026. No macro, syntax, notation, axiom, sorry.
-/
import Derived.Test.YtnlkiflcbknaaaaGreatDoorRows
import GoSem.ClaimSeven
namespace Go.Proofs.YtnlkiflcbknaaaaGreatDoor
namespace Rows

/-- THE TIED CARD OF 'laws.FnExactComparedPairs'. -/
def fnExactComparedPairsCard : Claim7 := { stood := { row := fnExactComparedPairsRow, standIns := [], harness := (true, "a27e831b2717ebbfce6cc3713edcf6d33139d7b462a3fe08e1756429b08a67b7"), looks := true }, kinds := [], alts := [], laidByText := true, laidKinds := [.data, .data, .data, .data, .sentinel, .sentinel, .data, .pinned], laidTests := true, laidLooks := .later }
def FnExactComparedPairsCardSaid : Prop := Claim7.holds Tryz.pinned (.plain (OpenSpec.ofChange fnExactComparedPairsSpec)) fnExactComparedPairsCard

/-- THE TIED CARD OF 'laws.FnExactMatchingPairs'. -/
def fnExactMatchingPairsCard : Claim7 := { stood := { row := fnExactMatchingPairsRow, standIns := [], harness := (true, "a27e831b2717ebbfce6cc3713edcf6d33139d7b462a3fe08e1756429b08a67b7"), looks := true }, kinds := [], alts := [], laidByText := true, laidKinds := [.data, .data, .data, .data, .sentinel, .sentinel, .data, .pinned], laidTests := true, laidLooks := .later }
def FnExactMatchingPairsCardSaid : Prop := Claim7.holds Tryz.pinned (.plain (OpenSpec.ofChange fnExactMatchingPairsSpec)) fnExactMatchingPairsCard

/-- THE SECOND FORM's CARD OF 'laws.FnExactComparedPairs'. -/
def fnExactComparedPairsUptoCard : Claim7 := { stood := { row := fnExactComparedPairsUptoRow, standIns := [], harness := (true, "a27e831b2717ebbfce6cc3713edcf6d33139d7b462a3fe08e1756429b08a67b7"), looks := true }, kinds := [], alts := [], laidByText := true, laidKinds := [.data, .data, .data, .data, .sentinel, .sentinel, .data, .pinned], laidTests := true, laidLooks := .later }
def FnExactComparedPairsUptoCardSaid : Prop := Claim7.holds Tryz.pinned (.plain (OpenSpec.upto fnExactComparedPairsSpec)) fnExactComparedPairsUptoCard

/-- THE SECOND FORM's CARD OF 'laws.FnExactMatchingPairs'. -/
def fnExactMatchingPairsUptoCard : Claim7 := { stood := { row := fnExactMatchingPairsUptoRow, standIns := [], harness := (true, "a27e831b2717ebbfce6cc3713edcf6d33139d7b462a3fe08e1756429b08a67b7"), looks := true }, kinds := [], alts := [], laidByText := true, laidKinds := [.data, .data, .data, .data, .sentinel, .sentinel, .data, .pinned], laidTests := true, laidLooks := .later }
def FnExactMatchingPairsUptoCardSaid : Prop := Claim7.holds Tryz.pinned (.plain (OpenSpec.upto fnExactMatchingPairsSpec)) fnExactMatchingPairsUptoCard
end Rows
end Go.Proofs.YtnlkiflcbknaaaaGreatDoor
