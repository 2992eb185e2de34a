/-
  DERIVED. GIVEN WITH THE SEED: THE CARDS: each row of YtigjbamofhdchaaGreatDoorRows.lean that lists a variable, with what it lists TIED to the program's text (the seventh form; the later family's looks); each row that meets fmt, with fmt's text TOLD by the authors' own Lean function (tested against real Go, not proved from fmt's source: count such statements apart). THE CARD IS WHAT COUNTS. Prove the row's statement (the work); the ties are given (YtigjbamofhdchaaGreatDoorTie.lean); close each card by the builder's one call (the guide's Derived/Test/ToyasCard.lean, 'card_holds'). Laid BY PROGRAM, IN A SANDBOX (cutbox-door.mjs). By AI agents, Wed Nov 11 2026. No macro, syntax, notation, axiom, sorry.
-/
import Derived.Test.YtigjbamofhdchaaGreatDoorRows
import GoSem.ClaimSeven
namespace Go.Proofs.YtigjbamofhdchaaGreatDoor
namespace Rows

/-- THE TIED CARD OF 'laws.FnExactBlockingVerdict'. -/
def fnExactBlockingVerdictCard : Claim7 := { stood := { row := fnExactBlockingVerdictRow, standIns := [], harness := (true, "732babcc3216006d223933e31707c0573a3bc017e01dd89bff32464a000f4f21"), looks := true }, kinds := [], alts := [], laidByText := true, laidKinds := [.data, .data, .data, .data, .sentinel, .sentinel, .data, .pinned], laidTests := true, laidLooks := .later }
def FnExactBlockingVerdictCardSaid : Prop := Claim7.holds Tryz.pinned (.plain (OpenSpec.ofChange fnExactBlockingVerdictSpec)) fnExactBlockingVerdictCard

/-- THE SECOND FORM's CARD OF 'laws.FnExactBlockingVerdict'. -/
def fnExactBlockingVerdictUptoCard : Claim7 := { stood := { row := fnExactBlockingVerdictUptoRow, standIns := [], harness := (true, "732babcc3216006d223933e31707c0573a3bc017e01dd89bff32464a000f4f21"), looks := true }, kinds := [], alts := [], laidByText := true, laidKinds := [.data, .data, .data, .data, .sentinel, .sentinel, .data, .pinned], laidTests := true, laidLooks := .later }
def FnExactBlockingVerdictUptoCardSaid : Prop := Claim7.holds Tryz.pinned (.plain (OpenSpec.upto fnExactBlockingVerdictSpec)) fnExactBlockingVerdictUptoCard
end Rows
end Go.Proofs.YtigjbamofhdchaaGreatDoor
