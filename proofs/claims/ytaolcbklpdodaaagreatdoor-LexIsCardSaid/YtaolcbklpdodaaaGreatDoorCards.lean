/-
  DERIVED. GIVEN WITH THE SEED: THE CARDS: each row of YtaolcbklpdodaaaGreatDoorRows.lean that lists a variable, with what it lists TIED to the program's text (the seventh form; the later family's looks); each row that meets fmt, with fmt's text TOLD by the authors' own Lean function (tested against real Go, not proved from fmt's source: count such statements apart). THE CARD IS WHAT COUNTS. Prove the row's statement (the work); the ties are given (YtaolcbklpdodaaaGreatDoorTie.lean); close each card by the builder's one call (the guide's Derived/Test/ToyasCard.lean, 'card_holds'). Laid BY PROGRAM, IN A SANDBOX (cutbox-door.mjs). By AI agents, Wed Nov 11 2026. No macro, syntax, notation, axiom, sorry.
-/
import Derived.Test.YtaolcbklpdodaaaGreatDoorRows
import GoSem.ClaimSeven
namespace Go.Proofs.YtaolcbklpdodaaaGreatDoor
namespace Rows

/-- THE TIED CARD OF 'hornbooklaw03.LexIs'. -/
def lexIsCard : Claim7 := { stood := { row := lexIsRow, standIns := [], harness := (true, "783b23bd9c8d43b003b2ac2dab22dbc6fa747227fdd11b1d32b717d557685532"), looks := true }, kinds := [], alts := [], laidByText := true, laidKinds := [.data, .data, .data, .data, .sentinel, .sentinel, .pinned], laidTests := true, laidLooks := .later }
def LexIsCardSaid : Prop := Claim7.holds Tryz.pinned (.plain (OpenSpec.ofChange lexIsSpec)) lexIsCard

/-- THE SECOND FORM's CARD OF 'hornbooklaw03.LexIs'. -/
def lexIsUptoCard : Claim7 := { stood := { row := lexIsUptoRow, standIns := [], harness := (true, "783b23bd9c8d43b003b2ac2dab22dbc6fa747227fdd11b1d32b717d557685532"), looks := true }, kinds := [], alts := [], laidByText := true, laidKinds := [.data, .data, .data, .data, .sentinel, .sentinel, .pinned], laidTests := true, laidLooks := .later }
def LexIsUptoCardSaid : Prop := Claim7.holds Tryz.pinned (.plain (OpenSpec.upto lexIsSpec)) lexIsUptoCard
end Rows
end Go.Proofs.YtaolcbklpdodaaaGreatDoor
