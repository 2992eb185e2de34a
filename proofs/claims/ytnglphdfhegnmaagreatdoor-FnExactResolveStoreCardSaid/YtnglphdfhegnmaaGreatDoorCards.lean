/-
  DERIVED. GIVEN WITH THE SEED: THE CARDS: each row of YtnglphdfhegnmaaGreatDoorRows.lean that lists a variable, with what it lists TIED to the program's text (the seventh form; the later family's looks); each row that meets fmt, with fmt's text TOLD by the authors' own Lean function (tested against real Go, not proved from fmt's source: count such statements apart). THE CARD IS WHAT COUNTS. Prove the row's statement (the work); the ties are given (YtnglphdfhegnmaaGreatDoorTie.lean); close each card by the builder's one call (the guide's Derived/Test/ToyasCard.lean, 'card_holds'). Laid BY PROGRAM, IN A SANDBOX (cutbox-door.mjs). By AI agents, Wed Nov 11 2026. No macro, syntax, notation, axiom, sorry.
-/
import Derived.Test.YtnglphdfhegnmaaGreatDoorRows
import GoSem.ClaimSeven
namespace Go.Proofs.YtnglphdfhegnmaaGreatDoor
namespace Rows

/-- THE TIED CARD OF 'laws.FnExactResolveStore'. -/
def fnExactResolveStoreCard : Claim7 := { stood := { row := fnExactResolveStoreRow, standIns := [], harness := (true, "7ecda4f4c7ca99b4ea2a6213517c0daaaa76e779c9f39f7dde6123be3471e3db"), looks := true }, kinds := [], alts := [], laidByText := true, laidKinds := [.data, .data, .data, .data, .sentinel, .sentinel, .data, .pinned], laidTests := true, laidLooks := .later }
def FnExactResolveStoreCardSaid : Prop := Claim7.holds Tryz.pinned (.plain (OpenSpec.ofChange fnExactResolveStoreSpec)) fnExactResolveStoreCard

/-- THE SECOND FORM's CARD OF 'laws.FnExactResolveStore'. -/
def fnExactResolveStoreUptoCard : Claim7 := { stood := { row := fnExactResolveStoreUptoRow, standIns := [], harness := (true, "7ecda4f4c7ca99b4ea2a6213517c0daaaa76e779c9f39f7dde6123be3471e3db"), looks := true }, kinds := [], alts := [], laidByText := true, laidKinds := [.data, .data, .data, .data, .sentinel, .sentinel, .data, .pinned], laidTests := true, laidLooks := .later }
def FnExactResolveStoreUptoCardSaid : Prop := Claim7.holds Tryz.pinned (.plain (OpenSpec.upto fnExactResolveStoreSpec)) fnExactResolveStoreUptoCard
end Rows
end Go.Proofs.YtnglphdfhegnmaaGreatDoor
