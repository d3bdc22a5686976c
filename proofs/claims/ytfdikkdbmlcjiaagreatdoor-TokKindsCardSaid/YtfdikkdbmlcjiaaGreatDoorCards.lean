/-
  DERIVED. GIVEN WITH THE SEED: THE CARDS: each row of YtfdikkdbmlcjiaaGreatDoorRows.lean that lists a variable, with what it lists TIED to the program's text (the seventh form; the later family's looks); each row that meets fmt, with fmt's text TOLD by the authors' own Lean function (tested against real Go, not proved from fmt's source: count such statements apart). THE CARD IS WHAT COUNTS. Prove the row's statement (the work); the ties are given (YtfdikkdbmlcjiaaGreatDoorTie.lean); close each card by the builder's one call (the guide's Derived/Test/ToyasCard.lean, 'card_holds'). Laid BY PROGRAM, IN A SANDBOX (cutbox-door.mjs). By AI agents, Wed Nov 11 2026. No macro, syntax, notation, axiom, sorry.
-/
import Derived.Test.YtfdikkdbmlcjiaaGreatDoorRows
import GoSem.ClaimSeven
namespace Go.Proofs.YtfdikkdbmlcjiaaGreatDoor
namespace Rows

/-- THE TIED CARD OF 'hornbooklaw04.TokBack'. -/
def tokBackCard : Claim7 := { stood := { row := tokBackRow, standIns := [], harness := (true, "7d2f2c49f26663f233dbc861660cac6b02df47310ed9da4de6c3ca3d616622b4"), looks := true }, kinds := [], alts := [], laidByText := true, laidKinds := [.data, .data, .data, .data, .sentinel, .sentinel, .pinned], laidTests := true, laidLooks := .later }
def TokBackCardSaid : Prop := Claim7.holds Tryz.pinned (.plain (OpenSpec.ofChange tokBackSpec)) tokBackCard

/-- THE TIED CARD OF 'hornbooklaw04.TokPlaces'. -/
def tokPlacesCard : Claim7 := { stood := { row := tokPlacesRow, standIns := [], harness := (true, "7d2f2c49f26663f233dbc861660cac6b02df47310ed9da4de6c3ca3d616622b4"), looks := true }, kinds := [], alts := [], laidByText := true, laidKinds := [.data, .data, .data, .data, .sentinel, .sentinel, .pinned], laidTests := true, laidLooks := .later }
def TokPlacesCardSaid : Prop := Claim7.holds Tryz.pinned (.plain (OpenSpec.ofChange tokPlacesSpec)) tokPlacesCard

/-- THE TIED CARD OF 'hornbooklaw04.TokStrings'. -/
def tokStringsCard : Claim7 := { stood := { row := tokStringsRow, standIns := [], harness := (true, "7d2f2c49f26663f233dbc861660cac6b02df47310ed9da4de6c3ca3d616622b4"), looks := true }, kinds := [], alts := [], laidByText := true, laidKinds := [.data, .data, .data, .data, .sentinel, .sentinel, .pinned], laidTests := true, laidLooks := .later }
def TokStringsCardSaid : Prop := Claim7.holds Tryz.pinned (.plain (OpenSpec.ofChange tokStringsSpec)) tokStringsCard

/-- THE TIED CARD OF 'hornbooklaw04.TokKinds'. -/
def tokKindsCard : Claim7 := { stood := { row := tokKindsRow, standIns := [], harness := (true, "7d2f2c49f26663f233dbc861660cac6b02df47310ed9da4de6c3ca3d616622b4"), looks := true }, kinds := [], alts := [], laidByText := true, laidKinds := [.data, .data, .data, .data, .sentinel, .sentinel, .pinned], laidTests := true, laidLooks := .later }
def TokKindsCardSaid : Prop := Claim7.holds Tryz.pinned (.plain (OpenSpec.ofChange tokKindsSpec)) tokKindsCard

/-- THE TIED CARD OF 'hornbooklaw04.TokErrors'. -/
def tokErrorsCard : Claim7 := { stood := { row := tokErrorsRow, standIns := [], harness := (true, "7d2f2c49f26663f233dbc861660cac6b02df47310ed9da4de6c3ca3d616622b4"), looks := true }, kinds := [], alts := [], laidByText := true, laidKinds := [.data, .data, .data, .data, .sentinel, .sentinel, .pinned], laidTests := true, laidLooks := .later }
def TokErrorsCardSaid : Prop := Claim7.holds Tryz.pinned (.plain (OpenSpec.ofChange tokErrorsSpec)) tokErrorsCard

/-- THE SECOND FORM's CARD OF 'hornbooklaw04.TokBack'. -/
def tokBackUptoCard : Claim7 := { stood := { row := tokBackUptoRow, standIns := [], harness := (true, "7d2f2c49f26663f233dbc861660cac6b02df47310ed9da4de6c3ca3d616622b4"), looks := true }, kinds := [], alts := [], laidByText := true, laidKinds := [.data, .data, .data, .data, .sentinel, .sentinel, .pinned], laidTests := true, laidLooks := .later }
def TokBackUptoCardSaid : Prop := Claim7.holds Tryz.pinned (.plain (OpenSpec.upto tokBackSpec)) tokBackUptoCard

/-- THE SECOND FORM's CARD OF 'hornbooklaw04.TokPlaces'. -/
def tokPlacesUptoCard : Claim7 := { stood := { row := tokPlacesUptoRow, standIns := [], harness := (true, "7d2f2c49f26663f233dbc861660cac6b02df47310ed9da4de6c3ca3d616622b4"), looks := true }, kinds := [], alts := [], laidByText := true, laidKinds := [.data, .data, .data, .data, .sentinel, .sentinel, .pinned], laidTests := true, laidLooks := .later }
def TokPlacesUptoCardSaid : Prop := Claim7.holds Tryz.pinned (.plain (OpenSpec.upto tokPlacesSpec)) tokPlacesUptoCard

/-- THE SECOND FORM's CARD OF 'hornbooklaw04.TokStrings'. -/
def tokStringsUptoCard : Claim7 := { stood := { row := tokStringsUptoRow, standIns := [], harness := (true, "7d2f2c49f26663f233dbc861660cac6b02df47310ed9da4de6c3ca3d616622b4"), looks := true }, kinds := [], alts := [], laidByText := true, laidKinds := [.data, .data, .data, .data, .sentinel, .sentinel, .pinned], laidTests := true, laidLooks := .later }
def TokStringsUptoCardSaid : Prop := Claim7.holds Tryz.pinned (.plain (OpenSpec.upto tokStringsSpec)) tokStringsUptoCard

/-- THE SECOND FORM's CARD OF 'hornbooklaw04.TokKinds'. -/
def tokKindsUptoCard : Claim7 := { stood := { row := tokKindsUptoRow, standIns := [], harness := (true, "7d2f2c49f26663f233dbc861660cac6b02df47310ed9da4de6c3ca3d616622b4"), looks := true }, kinds := [], alts := [], laidByText := true, laidKinds := [.data, .data, .data, .data, .sentinel, .sentinel, .pinned], laidTests := true, laidLooks := .later }
def TokKindsUptoCardSaid : Prop := Claim7.holds Tryz.pinned (.plain (OpenSpec.upto tokKindsSpec)) tokKindsUptoCard

/-- THE SECOND FORM's CARD OF 'hornbooklaw04.TokErrors'. -/
def tokErrorsUptoCard : Claim7 := { stood := { row := tokErrorsUptoRow, standIns := [], harness := (true, "7d2f2c49f26663f233dbc861660cac6b02df47310ed9da4de6c3ca3d616622b4"), looks := true }, kinds := [], alts := [], laidByText := true, laidKinds := [.data, .data, .data, .data, .sentinel, .sentinel, .pinned], laidTests := true, laidLooks := .later }
def TokErrorsUptoCardSaid : Prop := Claim7.holds Tryz.pinned (.plain (OpenSpec.upto tokErrorsSpec)) tokErrorsUptoCard
end Rows
end Go.Proofs.YtfdikkdbmlcjiaaGreatDoor
