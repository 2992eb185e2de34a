/-
  DERIVED. GIVEN WITH THE SEED: THE CARDS: each row of YtdgpbgpapcldeaaDoorRows.lean that lists a variable, with what it lists TIED to the program's text (the seventh form; the later family's looks); each row that meets fmt, with fmt's text TOLD by the authors' own Lean function (tested against real Go, not proved from fmt's source: count such statements apart). THE CARD IS WHAT COUNTS. Prove the row's statement (the work); the ties are given (YtdgpbgpapcldeaaDoorTie.lean); close each card by the builder's one call (the guide's Derived/Test/ToyasCard.lean, 'card_holds'). Laid BY PROGRAM, IN A SANDBOX (cutbox-door.mjs). By AI agents, Wed Nov 11 2026. No macro, syntax, notation, axiom, sorry.
-/
import Derived.Test.YtdgpbgpapcldeaaDoorRows
import GoSem.ClaimSeven
namespace Go.Proofs.YtdgpbgpapcldeaaDoor
namespace Rows

/-- THE TIED CARD OF 'laws.FnExactFormatHits'. -/
def fnExactFormatHitsCard : Claim7 := { stood := { row := fnExactFormatHitsRow, standIns := [], harness := (true, "c781fce86f66dfe17741cdf2c151ce2356f1ebe514910a5d1eb01f8d1f8c17ba"), looks := false }, kinds := [], alts := [], laidByText := true, laidKinds := [.data, .data, .data], laidTests := true, laidLooks := .later }
def FnExactFormatHitsCardSaid : Prop := Claim7.holds Tryd.pinned (.plain (OpenSpec.ofChange fnExactFormatHitsSpec)) fnExactFormatHitsCard

/-- THE TIED CARD OF 'laws.FnExactFormatReasons'. -/
def fnExactFormatReasonsCard : Claim7 := { stood := { row := fnExactFormatReasonsRow, standIns := [], harness := (true, "c781fce86f66dfe17741cdf2c151ce2356f1ebe514910a5d1eb01f8d1f8c17ba"), looks := false }, kinds := [], alts := [], laidByText := true, laidKinds := [.data, .data, .data], laidTests := true, laidLooks := .later }
def FnExactFormatReasonsCardSaid : Prop := Claim7.holds Tryd.pinned (.plain (OpenSpec.ofChange fnExactFormatReasonsSpec)) fnExactFormatReasonsCard

/-- THE SECOND FORM's CARD OF 'laws.FnExactFormatHits'. -/
def fnExactFormatHitsUptoCard : Claim7 := { stood := { row := fnExactFormatHitsUptoRow, standIns := [], harness := (true, "c781fce86f66dfe17741cdf2c151ce2356f1ebe514910a5d1eb01f8d1f8c17ba"), looks := false }, kinds := [], alts := [], laidByText := true, laidKinds := [.data, .data, .data], laidTests := true, laidLooks := .later }
def FnExactFormatHitsUptoCardSaid : Prop := Claim7.holds Tryd.pinned (.plain (OpenSpec.upto fnExactFormatHitsSpec)) fnExactFormatHitsUptoCard

/-- THE SECOND FORM's CARD OF 'laws.FnExactFormatReasons'. -/
def fnExactFormatReasonsUptoCard : Claim7 := { stood := { row := fnExactFormatReasonsUptoRow, standIns := [], harness := (true, "c781fce86f66dfe17741cdf2c151ce2356f1ebe514910a5d1eb01f8d1f8c17ba"), looks := false }, kinds := [], alts := [], laidByText := true, laidKinds := [.data, .data, .data], laidTests := true, laidLooks := .later }
def FnExactFormatReasonsUptoCardSaid : Prop := Claim7.holds Tryd.pinned (.plain (OpenSpec.upto fnExactFormatReasonsSpec)) fnExactFormatReasonsUptoCard
end Rows
end Go.Proofs.YtdgpbgpapcldeaaDoor
