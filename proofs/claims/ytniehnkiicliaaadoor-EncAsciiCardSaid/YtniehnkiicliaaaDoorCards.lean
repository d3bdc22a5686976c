/-
  DERIVED. GIVEN WITH THE SEED: THE CARDS: each row of YtniehnkiicliaaaDoorRows.lean that lists a variable, with what it lists TIED to the program's text (the seventh form; the later family's looks); each row that meets fmt, with fmt's text TOLD by the authors' own Lean function (tested against real Go, not proved from fmt's source: count such statements apart). THE CARD IS WHAT COUNTS. Prove the row's statement (the work); the ties are given (YtniehnkiicliaaaDoorTie.lean); close each card by the builder's one call (the guide's Derived/Test/ToyasCard.lean, 'card_holds'). Laid BY PROGRAM, IN A SANDBOX (cutbox-door.mjs). By AI agents, Wed Nov 11 2026. No macro, syntax, notation, axiom, sorry.
-/
import Derived.Test.YtniehnkiicliaaaDoorRows
import GoSem.ClaimSeven
namespace Go.Proofs.YtniehnkiicliaaaDoor
namespace Rows

/-- THE TIED CARD OF 'hornbooklaw15.EncIs'. -/
def encIsCard : Claim7 := { stood := { row := encIsRow, standIns := [], harness := (true, "5f9ff1a42316a4d4725f9c01a666ae2751b9b31bcc55bdfc676b0087572aa2e8"), looks := true }, kinds := [], alts := [], laidByText := true, laidKinds := [.data, .data, .data, .sentinel, .sentinel, .listed, .data], laidTests := true, laidLooks := .later }
def EncIsCardSaid : Prop := Claim7.holds Tryd.pinned (.plain (OpenSpec.ofChange encIsSpec)) encIsCard

/-- THE TIED CARD OF 'hornbooklaw15.EncAll'. -/
def encAllCard : Claim7 := { stood := { row := encAllRow, standIns := [], harness := (true, "5f9ff1a42316a4d4725f9c01a666ae2751b9b31bcc55bdfc676b0087572aa2e8"), looks := true }, kinds := [], alts := [], laidByText := true, laidKinds := [.data, .data, .data, .sentinel, .sentinel, .listed, .data], laidTests := true, laidLooks := .later }
def EncAllCardSaid : Prop := Claim7.holds Tryd.pinned (.plain (OpenSpec.ofChange encAllSpec)) encAllCard

/-- THE TIED CARD OF 'hornbooklaw15.EncBack'. -/
def encBackCard : Claim7 := { stood := { row := encBackRow, standIns := [], harness := (true, "5f9ff1a42316a4d4725f9c01a666ae2751b9b31bcc55bdfc676b0087572aa2e8"), looks := true }, kinds := [], alts := [], laidByText := true, laidKinds := [.data, .data, .data, .sentinel, .sentinel, .listed, .data], laidTests := true, laidLooks := .later }
def EncBackCardSaid : Prop := Claim7.holds Tryd.pinned (.plain (OpenSpec.ofChange encBackSpec)) encBackCard

/-- THE TIED CARD OF 'hornbooklaw14.GlyphIs'. -/
def glyphIsCard : Claim7 := { stood := { row := glyphIsRow, standIns := [], harness := (true, "5f9ff1a42316a4d4725f9c01a666ae2751b9b31bcc55bdfc676b0087572aa2e8"), looks := true }, kinds := [], alts := [], laidByText := true, laidKinds := [.data, .data, .data, .data, .sentinel, .sentinel, .listed, .data, .pinned], laidTests := true, laidLooks := .later }
def GlyphIsCardSaid : Prop := Claim7.holds Tryd.pinned (.plain (OpenSpec.ofChange glyphIsSpec)) glyphIsCard

/-- THE TIED CARD OF 'hornbooklaw14.GlyphBack'. -/
def glyphBackCard : Claim7 := { stood := { row := glyphBackRow, standIns := [], harness := (true, "5f9ff1a42316a4d4725f9c01a666ae2751b9b31bcc55bdfc676b0087572aa2e8"), looks := true }, kinds := [], alts := [], laidByText := true, laidKinds := [.data, .data, .data, .data, .sentinel, .sentinel, .listed, .data, .pinned], laidTests := true, laidLooks := .later }
def GlyphBackCardSaid : Prop := Claim7.holds Tryd.pinned (.plain (OpenSpec.ofChange glyphBackSpec)) glyphBackCard

/-- THE TIED CARD OF 'hornbooklaw14.GlyphNames'. -/
def glyphNamesCard : Claim7 := { stood := { row := glyphNamesRow, standIns := [], harness := (true, "5f9ff1a42316a4d4725f9c01a666ae2751b9b31bcc55bdfc676b0087572aa2e8"), looks := true }, kinds := [], alts := [], laidByText := true, laidKinds := [.data, .data, .data, .data, .sentinel, .sentinel, .listed, .data, .pinned], laidTests := true, laidLooks := .later }
def GlyphNamesCardSaid : Prop := Claim7.holds Tryd.pinned (.plain (OpenSpec.ofChange glyphNamesSpec)) glyphNamesCard

/-- THE TIED CARD OF 'hornbooklaw14.GlyphAscii'. -/
def glyphAsciiCard : Claim7 := { stood := { row := glyphAsciiRow, standIns := [], harness := (true, "5f9ff1a42316a4d4725f9c01a666ae2751b9b31bcc55bdfc676b0087572aa2e8"), looks := true }, kinds := [], alts := [], laidByText := true, laidKinds := [.data, .data, .data, .data, .sentinel, .sentinel, .listed, .data, .pinned], laidTests := true, laidLooks := .later }
def GlyphAsciiCardSaid : Prop := Claim7.holds Tryd.pinned (.plain (OpenSpec.ofChange glyphAsciiSpec)) glyphAsciiCard

/-- THE TIED CARD OF 'hornbooklaw15.EncAscii'. -/
def encAsciiCard : Claim7 := { stood := { row := encAsciiRow, standIns := [], harness := (true, "5f9ff1a42316a4d4725f9c01a666ae2751b9b31bcc55bdfc676b0087572aa2e8"), looks := true }, kinds := [], alts := [], laidByText := true, laidKinds := [.data, .data, .data, .data, .sentinel, .sentinel, .listed, .data, .pinned], laidTests := true, laidLooks := .later }
def EncAsciiCardSaid : Prop := Claim7.holds Tryd.pinned (.plain (OpenSpec.ofChange encAsciiSpec)) encAsciiCard

/-- THE TIED CARD OF 'hornbooklaw15.EncNames'. -/
def encNamesCard : Claim7 := { stood := { row := encNamesRow, standIns := [], harness := (true, "5f9ff1a42316a4d4725f9c01a666ae2751b9b31bcc55bdfc676b0087572aa2e8"), looks := true }, kinds := [], alts := [], laidByText := true, laidKinds := [.data, .data, .data, .data, .sentinel, .sentinel, .listed, .data, .pinned], laidTests := true, laidLooks := .later }
def EncNamesCardSaid : Prop := Claim7.holds Tryd.pinned (.plain (OpenSpec.ofChange encNamesSpec)) encNamesCard

/-- THE SECOND FORM's CARD OF 'hornbooklaw15.EncIs'. -/
def encIsUptoCard : Claim7 := { stood := { row := encIsUptoRow, standIns := [], harness := (true, "5f9ff1a42316a4d4725f9c01a666ae2751b9b31bcc55bdfc676b0087572aa2e8"), looks := true }, kinds := [], alts := [], laidByText := true, laidKinds := [.data, .data, .data, .sentinel, .sentinel, .listed, .data], laidTests := true, laidLooks := .later }
def EncIsUptoCardSaid : Prop := Claim7.holds Tryd.pinned (.plain (OpenSpec.upto encIsSpec)) encIsUptoCard

/-- THE SECOND FORM's CARD OF 'hornbooklaw15.EncAll'. -/
def encAllUptoCard : Claim7 := { stood := { row := encAllUptoRow, standIns := [], harness := (true, "5f9ff1a42316a4d4725f9c01a666ae2751b9b31bcc55bdfc676b0087572aa2e8"), looks := true }, kinds := [], alts := [], laidByText := true, laidKinds := [.data, .data, .data, .sentinel, .sentinel, .listed, .data], laidTests := true, laidLooks := .later }
def EncAllUptoCardSaid : Prop := Claim7.holds Tryd.pinned (.plain (OpenSpec.upto encAllSpec)) encAllUptoCard

/-- THE SECOND FORM's CARD OF 'hornbooklaw15.EncBack'. -/
def encBackUptoCard : Claim7 := { stood := { row := encBackUptoRow, standIns := [], harness := (true, "5f9ff1a42316a4d4725f9c01a666ae2751b9b31bcc55bdfc676b0087572aa2e8"), looks := true }, kinds := [], alts := [], laidByText := true, laidKinds := [.data, .data, .data, .sentinel, .sentinel, .listed, .data], laidTests := true, laidLooks := .later }
def EncBackUptoCardSaid : Prop := Claim7.holds Tryd.pinned (.plain (OpenSpec.upto encBackSpec)) encBackUptoCard

/-- THE SECOND FORM's CARD OF 'hornbooklaw14.GlyphIs'. -/
def glyphIsUptoCard : Claim7 := { stood := { row := glyphIsUptoRow, standIns := [], harness := (true, "5f9ff1a42316a4d4725f9c01a666ae2751b9b31bcc55bdfc676b0087572aa2e8"), looks := true }, kinds := [], alts := [], laidByText := true, laidKinds := [.data, .data, .data, .data, .sentinel, .sentinel, .listed, .data, .pinned], laidTests := true, laidLooks := .later }
def GlyphIsUptoCardSaid : Prop := Claim7.holds Tryd.pinned (.plain (OpenSpec.upto glyphIsSpec)) glyphIsUptoCard

/-- THE SECOND FORM's CARD OF 'hornbooklaw14.GlyphBack'. -/
def glyphBackUptoCard : Claim7 := { stood := { row := glyphBackUptoRow, standIns := [], harness := (true, "5f9ff1a42316a4d4725f9c01a666ae2751b9b31bcc55bdfc676b0087572aa2e8"), looks := true }, kinds := [], alts := [], laidByText := true, laidKinds := [.data, .data, .data, .data, .sentinel, .sentinel, .listed, .data, .pinned], laidTests := true, laidLooks := .later }
def GlyphBackUptoCardSaid : Prop := Claim7.holds Tryd.pinned (.plain (OpenSpec.upto glyphBackSpec)) glyphBackUptoCard

/-- THE SECOND FORM's CARD OF 'hornbooklaw14.GlyphNames'. -/
def glyphNamesUptoCard : Claim7 := { stood := { row := glyphNamesUptoRow, standIns := [], harness := (true, "5f9ff1a42316a4d4725f9c01a666ae2751b9b31bcc55bdfc676b0087572aa2e8"), looks := true }, kinds := [], alts := [], laidByText := true, laidKinds := [.data, .data, .data, .data, .sentinel, .sentinel, .listed, .data, .pinned], laidTests := true, laidLooks := .later }
def GlyphNamesUptoCardSaid : Prop := Claim7.holds Tryd.pinned (.plain (OpenSpec.upto glyphNamesSpec)) glyphNamesUptoCard

/-- THE SECOND FORM's CARD OF 'hornbooklaw14.GlyphAscii'. -/
def glyphAsciiUptoCard : Claim7 := { stood := { row := glyphAsciiUptoRow, standIns := [], harness := (true, "5f9ff1a42316a4d4725f9c01a666ae2751b9b31bcc55bdfc676b0087572aa2e8"), looks := true }, kinds := [], alts := [], laidByText := true, laidKinds := [.data, .data, .data, .data, .sentinel, .sentinel, .listed, .data, .pinned], laidTests := true, laidLooks := .later }
def GlyphAsciiUptoCardSaid : Prop := Claim7.holds Tryd.pinned (.plain (OpenSpec.upto glyphAsciiSpec)) glyphAsciiUptoCard

/-- THE SECOND FORM's CARD OF 'hornbooklaw15.EncAscii'. -/
def encAsciiUptoCard : Claim7 := { stood := { row := encAsciiUptoRow, standIns := [], harness := (true, "5f9ff1a42316a4d4725f9c01a666ae2751b9b31bcc55bdfc676b0087572aa2e8"), looks := true }, kinds := [], alts := [], laidByText := true, laidKinds := [.data, .data, .data, .data, .sentinel, .sentinel, .listed, .data, .pinned], laidTests := true, laidLooks := .later }
def EncAsciiUptoCardSaid : Prop := Claim7.holds Tryd.pinned (.plain (OpenSpec.upto encAsciiSpec)) encAsciiUptoCard

/-- THE SECOND FORM's CARD OF 'hornbooklaw15.EncNames'. -/
def encNamesUptoCard : Claim7 := { stood := { row := encNamesUptoRow, standIns := [], harness := (true, "5f9ff1a42316a4d4725f9c01a666ae2751b9b31bcc55bdfc676b0087572aa2e8"), looks := true }, kinds := [], alts := [], laidByText := true, laidKinds := [.data, .data, .data, .data, .sentinel, .sentinel, .listed, .data, .pinned], laidTests := true, laidLooks := .later }
def EncNamesUptoCardSaid : Prop := Claim7.holds Tryd.pinned (.plain (OpenSpec.upto encNamesSpec)) encNamesUptoCard
end Rows
end Go.Proofs.YtniehnkiicliaaaDoor
