/-
  DERIVED. GIVEN WITH THE SEED: THE CARDS: each row of YtjplnhdplpiogaaGreatDoorRows.lean that lists a variable, with what it lists TIED to the program's text (the seventh form; the later family's looks); each row that meets fmt, with fmt's text TOLD by the authors' own Lean function (tested against real Go, not proved from fmt's source: count such statements apart). THE CARD IS WHAT COUNTS. Prove the row's statement (the work); the ties are given (YtjplnhdplpiogaaGreatDoorTie.lean); close each card by the builder's one call (the guide's Derived/Test/ToyasCard.lean, 'card_holds'). Laid BY PROGRAM, IN A SANDBOX (cutbox-door.mjs). By AI agents, Wed Nov 11 2026. No macro, syntax, notation, axiom, sorry.
-/
import Derived.Test.YtjplnhdplpiogaaGreatDoorRows
import GoSem.ClaimSeven
namespace Go.Proofs.YtjplnhdplpiogaaGreatDoor
namespace Rows

/-- THE TIED CARD OF 'hornbooklaw05.SynIs'. -/
def synIsCard : Claim7 := { stood := { row := synIsRow, standIns := [], harness := (true, "4e55956983aa73bdb1e4d865d2dcbe5cb817dcd8c2639282ff6b9f4ed72e1efa"), looks := true }, kinds := [], alts := [], laidByText := true, laidKinds := [.data, .data, .data, .data, .sentinel, .sentinel, .pinned], laidTests := true, laidLooks := .later }
def SynIsCardSaid : Prop := Claim7.holds Tryz.pinned (.plain (OpenSpec.ofChange synIsSpec)) synIsCard

/-- THE TIED CARD OF 'hornbooklaw05.SynReads'. -/
def synReadsCard : Claim7 := { stood := { row := synReadsRow, standIns := [], harness := (true, "4e55956983aa73bdb1e4d865d2dcbe5cb817dcd8c2639282ff6b9f4ed72e1efa"), looks := true }, kinds := [], alts := [], laidByText := true, laidKinds := [.data, .data, .data, .data, .sentinel, .sentinel, .pinned], laidTests := true, laidLooks := .later }
def SynReadsCardSaid : Prop := Claim7.holds Tryz.pinned (.plain (OpenSpec.ofChange synReadsSpec)) synReadsCard

/-- THE TIED CARD OF 'hornbooklaw05.SynSound'. -/
def synSoundCard : Claim7 := { stood := { row := synSoundRow, standIns := [], harness := (true, "4e55956983aa73bdb1e4d865d2dcbe5cb817dcd8c2639282ff6b9f4ed72e1efa"), looks := true }, kinds := [], alts := [], laidByText := true, laidKinds := [.data, .data, .data, .data, .sentinel, .sentinel, .pinned], laidTests := true, laidLooks := .later }
def SynSoundCardSaid : Prop := Claim7.holds Tryz.pinned (.plain (OpenSpec.ofChange synSoundSpec)) synSoundCard

/-- THE TIED CARD OF 'hornbooklaw05.SynCounts'. -/
def synCountsCard : Claim7 := { stood := { row := synCountsRow, standIns := [], harness := (true, "4e55956983aa73bdb1e4d865d2dcbe5cb817dcd8c2639282ff6b9f4ed72e1efa"), looks := true }, kinds := [], alts := [], laidByText := true, laidKinds := [.data, .data, .data, .data, .sentinel, .sentinel, .pinned], laidTests := true, laidLooks := .later }
def SynCountsCardSaid : Prop := Claim7.holds Tryz.pinned (.plain (OpenSpec.ofChange synCountsSpec)) synCountsCard

/-- THE TIED CARD OF 'hornbooklaw05.SynDeep'. -/
def synDeepCard : Claim7 := { stood := { row := synDeepRow, standIns := [], harness := (true, "4e55956983aa73bdb1e4d865d2dcbe5cb817dcd8c2639282ff6b9f4ed72e1efa"), looks := true }, kinds := [], alts := [], laidByText := true, laidKinds := [.data, .data, .data, .data, .sentinel, .sentinel, .pinned], laidTests := true, laidLooks := .later }
def SynDeepCardSaid : Prop := Claim7.holds Tryz.pinned (.plain (OpenSpec.ofChange synDeepSpec)) synDeepCard

/-- THE SECOND FORM's CARD OF 'hornbooklaw05.SynIs'. -/
def synIsUptoCard : Claim7 := { stood := { row := synIsUptoRow, standIns := [], harness := (true, "4e55956983aa73bdb1e4d865d2dcbe5cb817dcd8c2639282ff6b9f4ed72e1efa"), looks := true }, kinds := [], alts := [], laidByText := true, laidKinds := [.data, .data, .data, .data, .sentinel, .sentinel, .pinned], laidTests := true, laidLooks := .later }
def SynIsUptoCardSaid : Prop := Claim7.holds Tryz.pinned (.plain (OpenSpec.upto synIsSpec)) synIsUptoCard

/-- THE SECOND FORM's CARD OF 'hornbooklaw05.SynReads'. -/
def synReadsUptoCard : Claim7 := { stood := { row := synReadsUptoRow, standIns := [], harness := (true, "4e55956983aa73bdb1e4d865d2dcbe5cb817dcd8c2639282ff6b9f4ed72e1efa"), looks := true }, kinds := [], alts := [], laidByText := true, laidKinds := [.data, .data, .data, .data, .sentinel, .sentinel, .pinned], laidTests := true, laidLooks := .later }
def SynReadsUptoCardSaid : Prop := Claim7.holds Tryz.pinned (.plain (OpenSpec.upto synReadsSpec)) synReadsUptoCard

/-- THE SECOND FORM's CARD OF 'hornbooklaw05.SynSound'. -/
def synSoundUptoCard : Claim7 := { stood := { row := synSoundUptoRow, standIns := [], harness := (true, "4e55956983aa73bdb1e4d865d2dcbe5cb817dcd8c2639282ff6b9f4ed72e1efa"), looks := true }, kinds := [], alts := [], laidByText := true, laidKinds := [.data, .data, .data, .data, .sentinel, .sentinel, .pinned], laidTests := true, laidLooks := .later }
def SynSoundUptoCardSaid : Prop := Claim7.holds Tryz.pinned (.plain (OpenSpec.upto synSoundSpec)) synSoundUptoCard

/-- THE SECOND FORM's CARD OF 'hornbooklaw05.SynCounts'. -/
def synCountsUptoCard : Claim7 := { stood := { row := synCountsUptoRow, standIns := [], harness := (true, "4e55956983aa73bdb1e4d865d2dcbe5cb817dcd8c2639282ff6b9f4ed72e1efa"), looks := true }, kinds := [], alts := [], laidByText := true, laidKinds := [.data, .data, .data, .data, .sentinel, .sentinel, .pinned], laidTests := true, laidLooks := .later }
def SynCountsUptoCardSaid : Prop := Claim7.holds Tryz.pinned (.plain (OpenSpec.upto synCountsSpec)) synCountsUptoCard

/-- THE SECOND FORM's CARD OF 'hornbooklaw05.SynDeep'. -/
def synDeepUptoCard : Claim7 := { stood := { row := synDeepUptoRow, standIns := [], harness := (true, "4e55956983aa73bdb1e4d865d2dcbe5cb817dcd8c2639282ff6b9f4ed72e1efa"), looks := true }, kinds := [], alts := [], laidByText := true, laidKinds := [.data, .data, .data, .data, .sentinel, .sentinel, .pinned], laidTests := true, laidLooks := .later }
def SynDeepUptoCardSaid : Prop := Claim7.holds Tryz.pinned (.plain (OpenSpec.upto synDeepSpec)) synDeepUptoCard
end Rows
end Go.Proofs.YtjplnhdplpiogaaGreatDoor
