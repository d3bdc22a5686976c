/-
  DERIVED. GIVEN WITH THE SEED: THE CARDS: each row of YtdbadfcekomomaaDoorRows.lean that lists a variable, with what it lists TIED to the program's text (the seventh form; the later family's looks); each row that meets fmt, with fmt's text TOLD by the authors' own Lean function (tested against real Go, not proved from fmt's source: count such statements apart). THE CARD IS WHAT COUNTS. Prove the row's statement (the work); the ties are given (YtdbadfcekomomaaDoorTie.lean); close each card by the builder's one call (the guide's Derived/Test/ToyasCard.lean, 'card_holds'). Laid BY PROGRAM, IN A SANDBOX (cutbox-door.mjs). By AI agents, Wed Nov 11 2026. No macro, syntax, notation, axiom, sorry.
-/
import Derived.Test.YtdbadfcekomomaaDoorRows
import GoSem.ClaimSeven
namespace Go.Proofs.YtdbadfcekomomaaDoor
namespace Rows

/-- THE TIED CARD OF 'hornbooklaw14.GlyphIs'. -/
def glyphIsCard : Claim7 := { stood := { row := glyphIsRow, standIns := [], harness := (true, "c5423f193754e5c1b4786623e676175ec33b4a5b946deba5d2643119b74fcdaa"), looks := true }, kinds := [], alts := [], laidByText := true, laidKinds := [.data, .data, .data, .data, .sentinel, .sentinel, .listed, .data, .pinned], laidTests := true, laidLooks := .later }
def GlyphIsCardSaid : Prop := Claim7.holds Tryd.pinned (.plain (OpenSpec.ofChange glyphIsSpec)) glyphIsCard

/-- THE TIED CARD OF 'hornbooklaw14.GlyphNames'. -/
def glyphNamesCard : Claim7 := { stood := { row := glyphNamesRow, standIns := [], harness := (true, "c5423f193754e5c1b4786623e676175ec33b4a5b946deba5d2643119b74fcdaa"), looks := true }, kinds := [], alts := [], laidByText := true, laidKinds := [.data, .data, .data, .data, .sentinel, .sentinel, .listed, .data, .pinned], laidTests := true, laidLooks := .later }
def GlyphNamesCardSaid : Prop := Claim7.holds Tryd.pinned (.plain (OpenSpec.ofChange glyphNamesSpec)) glyphNamesCard

/-- THE TIED CARD OF 'hornbooklaw14.GlyphAscii'. -/
def glyphAsciiCard : Claim7 := { stood := { row := glyphAsciiRow, standIns := [], harness := (true, "c5423f193754e5c1b4786623e676175ec33b4a5b946deba5d2643119b74fcdaa"), looks := true }, kinds := [], alts := [], laidByText := true, laidKinds := [.data, .data, .data, .data, .sentinel, .sentinel, .listed, .data, .pinned], laidTests := true, laidLooks := .later }
def GlyphAsciiCardSaid : Prop := Claim7.holds Tryd.pinned (.plain (OpenSpec.ofChange glyphAsciiSpec)) glyphAsciiCard

/-- THE SECOND FORM's CARD OF 'hornbooklaw14.GlyphIs'. -/
def glyphIsUptoCard : Claim7 := { stood := { row := glyphIsUptoRow, standIns := [], harness := (true, "c5423f193754e5c1b4786623e676175ec33b4a5b946deba5d2643119b74fcdaa"), looks := true }, kinds := [], alts := [], laidByText := true, laidKinds := [.data, .data, .data, .data, .sentinel, .sentinel, .listed, .data, .pinned], laidTests := true, laidLooks := .later }
def GlyphIsUptoCardSaid : Prop := Claim7.holds Tryd.pinned (.plain (OpenSpec.upto glyphIsSpec)) glyphIsUptoCard

/-- THE SECOND FORM's CARD OF 'hornbooklaw14.GlyphNames'. -/
def glyphNamesUptoCard : Claim7 := { stood := { row := glyphNamesUptoRow, standIns := [], harness := (true, "c5423f193754e5c1b4786623e676175ec33b4a5b946deba5d2643119b74fcdaa"), looks := true }, kinds := [], alts := [], laidByText := true, laidKinds := [.data, .data, .data, .data, .sentinel, .sentinel, .listed, .data, .pinned], laidTests := true, laidLooks := .later }
def GlyphNamesUptoCardSaid : Prop := Claim7.holds Tryd.pinned (.plain (OpenSpec.upto glyphNamesSpec)) glyphNamesUptoCard

/-- THE SECOND FORM's CARD OF 'hornbooklaw14.GlyphAscii'. -/
def glyphAsciiUptoCard : Claim7 := { stood := { row := glyphAsciiUptoRow, standIns := [], harness := (true, "c5423f193754e5c1b4786623e676175ec33b4a5b946deba5d2643119b74fcdaa"), looks := true }, kinds := [], alts := [], laidByText := true, laidKinds := [.data, .data, .data, .data, .sentinel, .sentinel, .listed, .data, .pinned], laidTests := true, laidLooks := .later }
def GlyphAsciiUptoCardSaid : Prop := Claim7.holds Tryd.pinned (.plain (OpenSpec.upto glyphAsciiSpec)) glyphAsciiUptoCard
end Rows
end Go.Proofs.YtdbadfcekomomaaDoor
