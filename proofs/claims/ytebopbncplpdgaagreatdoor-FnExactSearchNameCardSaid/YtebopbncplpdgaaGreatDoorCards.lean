/-
  DERIVED. GIVEN WITH THE SEED: THE CARDS: each row of YtebopbncplpdgaaGreatDoorRows.lean that lists a variable, with what it lists TIED to the program's text (the seventh form; the later family's looks); each row that meets fmt, with fmt's text TOLD by the authors' own Lean function (tested against real Go, not proved from fmt's source: count such statements apart). THE CARD IS WHAT COUNTS. Prove the row's statement (the work); the ties are given (YtebopbncplpdgaaGreatDoorTie.lean); close each card by the builder's one call (the guide's Derived/Test/ToyasCard.lean, 'card_holds'). Laid BY PROGRAM, IN A SANDBOX (cutbox-door.mjs). By AI agents, Wed Nov 11 2026. No macro, syntax, notation, axiom, sorry.
-/
import Derived.Test.YtebopbncplpdgaaGreatDoorRows
import GoSem.ClaimSeven
namespace Go.Proofs.YtebopbncplpdgaaGreatDoor
namespace Rows

/-- THE TIED CARD OF 'laws.FnExactEntityRecords'. -/
def fnExactEntityRecordsCard : Claim7 := { stood := { row := fnExactEntityRecordsRow, standIns := [], harness := (true, "e039863b44890f8c09478317e7ae31adbaeb78a91ac3e1e26dae1eff069ad342"), looks := true }, kinds := [], alts := [], laidByText := true, laidKinds := [.pinned, .data, .data, .sentinel, .sentinel, .data, .data, .data], laidTests := true, laidLooks := .later }
def FnExactEntityRecordsCardSaid : Prop := Claim7.holds Tryz.pinned (.plain (OpenSpec.ofChange fnExactEntityRecordsSpec)) fnExactEntityRecordsCard

/-- THE TIED CARD OF 'laws.FnExactSearchPhone'. -/
def fnExactSearchPhoneCard : Claim7 := { stood := { row := fnExactSearchPhoneRow, standIns := [], harness := (true, "e039863b44890f8c09478317e7ae31adbaeb78a91ac3e1e26dae1eff069ad342"), looks := true }, kinds := [], alts := [], laidByText := true, laidKinds := [.pinned, .data, .data, .sentinel, .sentinel, .data, .data, .data], laidTests := true, laidLooks := .later }
def FnExactSearchPhoneCardSaid : Prop := Claim7.holds Tryz.pinned (.plain (OpenSpec.ofChange fnExactSearchPhoneSpec)) fnExactSearchPhoneCard

/-- THE TIED CARD OF 'laws.FnExactMatchRecord'. -/
def fnExactMatchRecordCard : Claim7 := { stood := { row := fnExactMatchRecordRow, standIns := [], harness := (true, "e039863b44890f8c09478317e7ae31adbaeb78a91ac3e1e26dae1eff069ad342"), looks := true }, kinds := [], alts := [], laidByText := true, laidKinds := [.pinned, .data, .data, .sentinel, .sentinel, .data, .data, .data], laidTests := true, laidLooks := .later }
def FnExactMatchRecordCardSaid : Prop := Claim7.holds Tryz.pinned (.plain (OpenSpec.ofChange fnExactMatchRecordSpec)) fnExactMatchRecordCard

/-- THE TIED CARD OF 'laws.FnExactSearchName'. -/
def fnExactSearchNameCard : Claim7 := { stood := { row := fnExactSearchNameRow, standIns := [], harness := (true, "e039863b44890f8c09478317e7ae31adbaeb78a91ac3e1e26dae1eff069ad342"), looks := true }, kinds := [], alts := [], laidByText := true, laidKinds := [.pinned, .data, .data, .sentinel, .sentinel, .data, .data, .data], laidTests := true, laidLooks := .later }
def FnExactSearchNameCardSaid : Prop := Claim7.holds Tryz.pinned (.plain (OpenSpec.ofChange fnExactSearchNameSpec)) fnExactSearchNameCard

/-- THE TIED CARD OF 'laws.FnExactGoldenOf'. -/
def fnExactGoldenOfCard : Claim7 := { stood := { row := fnExactGoldenOfRow, standIns := [], harness := (true, "e039863b44890f8c09478317e7ae31adbaeb78a91ac3e1e26dae1eff069ad342"), looks := true }, kinds := [], alts := [], laidByText := true, laidKinds := [.pinned, .data, .data, .sentinel, .sentinel, .data, .data, .data], laidTests := true, laidLooks := .later }
def FnExactGoldenOfCardSaid : Prop := Claim7.holds Tryz.pinned (.plain (OpenSpec.ofChange fnExactGoldenOfSpec)) fnExactGoldenOfCard

/-- THE SECOND FORM's CARD OF 'laws.FnExactEntityRecords'. -/
def fnExactEntityRecordsUptoCard : Claim7 := { stood := { row := fnExactEntityRecordsUptoRow, standIns := [], harness := (true, "e039863b44890f8c09478317e7ae31adbaeb78a91ac3e1e26dae1eff069ad342"), looks := true }, kinds := [], alts := [], laidByText := true, laidKinds := [.pinned, .data, .data, .sentinel, .sentinel, .data, .data, .data], laidTests := true, laidLooks := .later }
def FnExactEntityRecordsUptoCardSaid : Prop := Claim7.holds Tryz.pinned (.plain (OpenSpec.upto fnExactEntityRecordsSpec)) fnExactEntityRecordsUptoCard

/-- THE SECOND FORM's CARD OF 'laws.FnExactSearchPhone'. -/
def fnExactSearchPhoneUptoCard : Claim7 := { stood := { row := fnExactSearchPhoneUptoRow, standIns := [], harness := (true, "e039863b44890f8c09478317e7ae31adbaeb78a91ac3e1e26dae1eff069ad342"), looks := true }, kinds := [], alts := [], laidByText := true, laidKinds := [.pinned, .data, .data, .sentinel, .sentinel, .data, .data, .data], laidTests := true, laidLooks := .later }
def FnExactSearchPhoneUptoCardSaid : Prop := Claim7.holds Tryz.pinned (.plain (OpenSpec.upto fnExactSearchPhoneSpec)) fnExactSearchPhoneUptoCard

/-- THE SECOND FORM's CARD OF 'laws.FnExactMatchRecord'. -/
def fnExactMatchRecordUptoCard : Claim7 := { stood := { row := fnExactMatchRecordUptoRow, standIns := [], harness := (true, "e039863b44890f8c09478317e7ae31adbaeb78a91ac3e1e26dae1eff069ad342"), looks := true }, kinds := [], alts := [], laidByText := true, laidKinds := [.pinned, .data, .data, .sentinel, .sentinel, .data, .data, .data], laidTests := true, laidLooks := .later }
def FnExactMatchRecordUptoCardSaid : Prop := Claim7.holds Tryz.pinned (.plain (OpenSpec.upto fnExactMatchRecordSpec)) fnExactMatchRecordUptoCard

/-- THE SECOND FORM's CARD OF 'laws.FnExactSearchName'. -/
def fnExactSearchNameUptoCard : Claim7 := { stood := { row := fnExactSearchNameUptoRow, standIns := [], harness := (true, "e039863b44890f8c09478317e7ae31adbaeb78a91ac3e1e26dae1eff069ad342"), looks := true }, kinds := [], alts := [], laidByText := true, laidKinds := [.pinned, .data, .data, .sentinel, .sentinel, .data, .data, .data], laidTests := true, laidLooks := .later }
def FnExactSearchNameUptoCardSaid : Prop := Claim7.holds Tryz.pinned (.plain (OpenSpec.upto fnExactSearchNameSpec)) fnExactSearchNameUptoCard

/-- THE SECOND FORM's CARD OF 'laws.FnExactGoldenOf'. -/
def fnExactGoldenOfUptoCard : Claim7 := { stood := { row := fnExactGoldenOfUptoRow, standIns := [], harness := (true, "e039863b44890f8c09478317e7ae31adbaeb78a91ac3e1e26dae1eff069ad342"), looks := true }, kinds := [], alts := [], laidByText := true, laidKinds := [.pinned, .data, .data, .sentinel, .sentinel, .data, .data, .data], laidTests := true, laidLooks := .later }
def FnExactGoldenOfUptoCardSaid : Prop := Claim7.holds Tryz.pinned (.plain (OpenSpec.upto fnExactGoldenOfSpec)) fnExactGoldenOfUptoCard
end Rows
end Go.Proofs.YtebopbncplpdgaaGreatDoor
