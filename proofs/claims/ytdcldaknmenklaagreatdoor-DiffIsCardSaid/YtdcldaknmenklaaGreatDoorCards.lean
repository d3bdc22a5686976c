/-
  DERIVED. GIVEN WITH THE SEED: THE CARDS: each row of YtdcldaknmenklaaGreatDoorRows.lean that lists a variable, with what it lists TIED to the program's text (the seventh form; the later family's looks); each row that meets fmt, with fmt's text TOLD by the authors' own Lean function (tested against real Go, not proved from fmt's source: count such statements apart). THE CARD IS WHAT COUNTS. Prove the row's statement (the work); the ties are given (YtdcldaknmenklaaGreatDoorTie.lean); close each card by the builder's one call (the guide's Derived/Test/ToyasCard.lean, 'card_holds'). Laid BY PROGRAM, IN A SANDBOX (cutbox-door.mjs). By AI agents, Wed Nov 11 2026. No macro, syntax, notation, axiom, sorry.
-/
import Derived.Test.YtdcldaknmenklaaGreatDoorRows
import GoSem.ClaimSeven
namespace Go.Proofs.YtdcldaknmenklaaGreatDoor
namespace Rows

/-- THE TIED CARD OF 'hornbooklaw17.DiffLast'. -/
def diffLastCard : Claim7 := { stood := { row := diffLastRow, standIns := [], harness := (true, "0afd4bafc3317950a78f067166de83fbf789a8e3cacd5b6c49203b0034216e5a"), looks := true }, kinds := [], alts := [], laidByText := true, laidKinds := [.data, .data, .data, .data, .sentinel, .sentinel, .listed, .data, .pinned], laidTests := true, laidLooks := .later }
def DiffLastCardSaid : Prop := Claim7.holds Tryz.pinned (.plain (OpenSpec.ofChange diffLastSpec)) diffLastCard

/-- THE TIED CARD OF 'hornbooklaw17.DiffErrors'. -/
def diffErrorsCard : Claim7 := { stood := { row := diffErrorsRow, standIns := [], harness := (true, "0afd4bafc3317950a78f067166de83fbf789a8e3cacd5b6c49203b0034216e5a"), looks := true }, kinds := [], alts := [], laidByText := true, laidKinds := [.data, .data, .data, .data, .sentinel, .sentinel, .listed, .data, .pinned], laidTests := true, laidLooks := .later }
def DiffErrorsCardSaid : Prop := Claim7.holds Tryz.pinned (.plain (OpenSpec.ofChange diffErrorsSpec)) diffErrorsCard

/-- THE TIED CARD OF 'hornbooklaw17.DiffParts'. -/
def diffPartsCard : Claim7 := { stood := { row := diffPartsRow, standIns := [], harness := (true, "0afd4bafc3317950a78f067166de83fbf789a8e3cacd5b6c49203b0034216e5a"), looks := true }, kinds := [], alts := [], laidByText := true, laidKinds := [.data, .data, .data, .data, .sentinel, .sentinel, .listed, .data, .pinned], laidTests := true, laidLooks := .later }
def DiffPartsCardSaid : Prop := Claim7.holds Tryz.pinned (.plain (OpenSpec.ofChange diffPartsSpec)) diffPartsCard

/-- THE TIED CARD OF 'hornbooklaw17.DiffIs'. -/
def diffIsCard : Claim7 := { stood := { row := diffIsRow, standIns := [], harness := (true, "0afd4bafc3317950a78f067166de83fbf789a8e3cacd5b6c49203b0034216e5a"), looks := true }, kinds := [], alts := [], laidByText := true, laidKinds := [.data, .data, .data, .data, .sentinel, .sentinel, .listed, .data, .pinned], laidTests := true, laidLooks := .later }
def DiffIsCardSaid : Prop := Claim7.holds Tryz.pinned (.plain (OpenSpec.ofChange diffIsSpec)) diffIsCard

/-- THE TIED CARD OF 'hornbooklaw17.DiffBack'. -/
def diffBackCard : Claim7 := { stood := { row := diffBackRow, standIns := [], harness := (true, "0afd4bafc3317950a78f067166de83fbf789a8e3cacd5b6c49203b0034216e5a"), looks := true }, kinds := [], alts := [], laidByText := true, laidKinds := [.data, .data, .data, .data, .sentinel, .sentinel, .listed, .data, .pinned], laidTests := true, laidLooks := .later }
def DiffBackCardSaid : Prop := Claim7.holds Tryz.pinned (.plain (OpenSpec.ofChange diffBackSpec)) diffBackCard

/-- THE TIED CARD OF 'hornbooklaw17.DiffTexts'. -/
def diffTextsCard : Claim7 := { stood := { row := diffTextsRow, standIns := [], harness := (true, "0afd4bafc3317950a78f067166de83fbf789a8e3cacd5b6c49203b0034216e5a"), looks := true }, kinds := [], alts := [], laidByText := true, laidKinds := [.data, .data, .data, .data, .sentinel, .sentinel, .listed, .data, .pinned], laidTests := true, laidLooks := .later }
def DiffTextsCardSaid : Prop := Claim7.holds Tryz.pinned (.plain (OpenSpec.ofChange diffTextsSpec)) diffTextsCard

/-- THE SECOND FORM's CARD OF 'hornbooklaw17.DiffLast'. -/
def diffLastUptoCard : Claim7 := { stood := { row := diffLastUptoRow, standIns := [], harness := (true, "0afd4bafc3317950a78f067166de83fbf789a8e3cacd5b6c49203b0034216e5a"), looks := true }, kinds := [], alts := [], laidByText := true, laidKinds := [.data, .data, .data, .data, .sentinel, .sentinel, .listed, .data, .pinned], laidTests := true, laidLooks := .later }
def DiffLastUptoCardSaid : Prop := Claim7.holds Tryz.pinned (.plain (OpenSpec.upto diffLastSpec)) diffLastUptoCard

/-- THE SECOND FORM's CARD OF 'hornbooklaw17.DiffErrors'. -/
def diffErrorsUptoCard : Claim7 := { stood := { row := diffErrorsUptoRow, standIns := [], harness := (true, "0afd4bafc3317950a78f067166de83fbf789a8e3cacd5b6c49203b0034216e5a"), looks := true }, kinds := [], alts := [], laidByText := true, laidKinds := [.data, .data, .data, .data, .sentinel, .sentinel, .listed, .data, .pinned], laidTests := true, laidLooks := .later }
def DiffErrorsUptoCardSaid : Prop := Claim7.holds Tryz.pinned (.plain (OpenSpec.upto diffErrorsSpec)) diffErrorsUptoCard

/-- THE SECOND FORM's CARD OF 'hornbooklaw17.DiffParts'. -/
def diffPartsUptoCard : Claim7 := { stood := { row := diffPartsUptoRow, standIns := [], harness := (true, "0afd4bafc3317950a78f067166de83fbf789a8e3cacd5b6c49203b0034216e5a"), looks := true }, kinds := [], alts := [], laidByText := true, laidKinds := [.data, .data, .data, .data, .sentinel, .sentinel, .listed, .data, .pinned], laidTests := true, laidLooks := .later }
def DiffPartsUptoCardSaid : Prop := Claim7.holds Tryz.pinned (.plain (OpenSpec.upto diffPartsSpec)) diffPartsUptoCard

/-- THE SECOND FORM's CARD OF 'hornbooklaw17.DiffIs'. -/
def diffIsUptoCard : Claim7 := { stood := { row := diffIsUptoRow, standIns := [], harness := (true, "0afd4bafc3317950a78f067166de83fbf789a8e3cacd5b6c49203b0034216e5a"), looks := true }, kinds := [], alts := [], laidByText := true, laidKinds := [.data, .data, .data, .data, .sentinel, .sentinel, .listed, .data, .pinned], laidTests := true, laidLooks := .later }
def DiffIsUptoCardSaid : Prop := Claim7.holds Tryz.pinned (.plain (OpenSpec.upto diffIsSpec)) diffIsUptoCard

/-- THE SECOND FORM's CARD OF 'hornbooklaw17.DiffBack'. -/
def diffBackUptoCard : Claim7 := { stood := { row := diffBackUptoRow, standIns := [], harness := (true, "0afd4bafc3317950a78f067166de83fbf789a8e3cacd5b6c49203b0034216e5a"), looks := true }, kinds := [], alts := [], laidByText := true, laidKinds := [.data, .data, .data, .data, .sentinel, .sentinel, .listed, .data, .pinned], laidTests := true, laidLooks := .later }
def DiffBackUptoCardSaid : Prop := Claim7.holds Tryz.pinned (.plain (OpenSpec.upto diffBackSpec)) diffBackUptoCard

/-- THE SECOND FORM's CARD OF 'hornbooklaw17.DiffTexts'. -/
def diffTextsUptoCard : Claim7 := { stood := { row := diffTextsUptoRow, standIns := [], harness := (true, "0afd4bafc3317950a78f067166de83fbf789a8e3cacd5b6c49203b0034216e5a"), looks := true }, kinds := [], alts := [], laidByText := true, laidKinds := [.data, .data, .data, .data, .sentinel, .sentinel, .listed, .data, .pinned], laidTests := true, laidLooks := .later }
def DiffTextsUptoCardSaid : Prop := Claim7.holds Tryz.pinned (.plain (OpenSpec.upto diffTextsSpec)) diffTextsUptoCard
end Rows
end Go.Proofs.YtdcldaknmenklaaGreatDoor
