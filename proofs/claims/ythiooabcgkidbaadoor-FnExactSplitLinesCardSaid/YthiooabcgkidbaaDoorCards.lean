/-
  DERIVED. GIVEN WITH THE SEED: THE CARDS: each row of YthiooabcgkidbaaDoorRows.lean that lists a variable, with what it lists TIED to the program's text (the seventh form; the later family's looks); each row that meets fmt, with fmt's text TOLD by the authors' own Lean function (tested against real Go, not proved from fmt's source: count such statements apart). THE CARD IS WHAT COUNTS. Prove the row's statement (the work); the ties are given (YthiooabcgkidbaaDoorTie.lean); close each card by the builder's one call (the guide's Derived/Test/ToyasCard.lean, 'card_holds'). Laid BY PROGRAM, IN A SANDBOX (cutbox-door.mjs). By AI agents, Wed Nov 11 2026. No macro, syntax, notation, axiom, sorry.
-/
import Derived.Test.YthiooabcgkidbaaDoorRows
import GoSem.ClaimSeven
namespace Go.Proofs.YthiooabcgkidbaaDoor
namespace Rows

/-- THE TIED CARD OF 'laws.FnExactTrimText'. -/
def fnExactTrimTextCard : Claim7 := { stood := { row := fnExactTrimTextRow, standIns := [], harness := (true, "00943135cbdc4477795988c1d94a181286cec24e042f67fb68018a7b4620f85c"), looks := false }, kinds := [], alts := [], laidByText := true, laidKinds := [.data, .pinned], laidTests := true, laidLooks := .later }
def FnExactTrimTextCardSaid : Prop := Claim7.holds Tryd.pinned (.plain (OpenSpec.ofChange fnExactTrimTextSpec)) fnExactTrimTextCard

/-- THE TIED CARD OF 'laws.FnExactQuoteText'. -/
def fnExactQuoteTextCard : Claim7 := { stood := { row := fnExactQuoteTextRow, standIns := [], harness := (true, "00943135cbdc4477795988c1d94a181286cec24e042f67fb68018a7b4620f85c"), looks := false }, kinds := [], alts := [], laidByText := true, laidKinds := [.data, .pinned], laidTests := true, laidLooks := .later }
def FnExactQuoteTextCardSaid : Prop := Claim7.holds Tryd.pinned (.plain (OpenSpec.ofChange fnExactQuoteTextSpec)) fnExactQuoteTextCard

/-- THE TIED CARD OF 'laws.FnExactIsBlankLine'. -/
def fnExactIsBlankLineCard : Claim7 := { stood := { row := fnExactIsBlankLineRow, standIns := [], harness := (true, "00943135cbdc4477795988c1d94a181286cec24e042f67fb68018a7b4620f85c"), looks := false }, kinds := [], alts := [], laidByText := true, laidKinds := [.data, .pinned], laidTests := true, laidLooks := .later }
def FnExactIsBlankLineCardSaid : Prop := Claim7.holds Tryd.pinned (.plain (OpenSpec.ofChange fnExactIsBlankLineSpec)) fnExactIsBlankLineCard

/-- THE TIED CARD OF 'laws.FnExactSplitLines'. -/
def fnExactSplitLinesCard : Claim7 := { stood := { row := fnExactSplitLinesRow, standIns := [], harness := (true, "00943135cbdc4477795988c1d94a181286cec24e042f67fb68018a7b4620f85c"), looks := false }, kinds := [], alts := [], laidByText := true, laidKinds := [.data, .pinned], laidTests := true, laidLooks := .later }
def FnExactSplitLinesCardSaid : Prop := Claim7.holds Tryd.pinned (.plain (OpenSpec.ofChange fnExactSplitLinesSpec)) fnExactSplitLinesCard

/-- THE SECOND FORM's CARD OF 'laws.FnExactTrimText'. -/
def fnExactTrimTextUptoCard : Claim7 := { stood := { row := fnExactTrimTextUptoRow, standIns := [], harness := (true, "00943135cbdc4477795988c1d94a181286cec24e042f67fb68018a7b4620f85c"), looks := false }, kinds := [], alts := [], laidByText := true, laidKinds := [.data, .pinned], laidTests := true, laidLooks := .later }
def FnExactTrimTextUptoCardSaid : Prop := Claim7.holds Tryd.pinned (.plain (OpenSpec.upto fnExactTrimTextSpec)) fnExactTrimTextUptoCard

/-- THE SECOND FORM's CARD OF 'laws.FnExactQuoteText'. -/
def fnExactQuoteTextUptoCard : Claim7 := { stood := { row := fnExactQuoteTextUptoRow, standIns := [], harness := (true, "00943135cbdc4477795988c1d94a181286cec24e042f67fb68018a7b4620f85c"), looks := false }, kinds := [], alts := [], laidByText := true, laidKinds := [.data, .pinned], laidTests := true, laidLooks := .later }
def FnExactQuoteTextUptoCardSaid : Prop := Claim7.holds Tryd.pinned (.plain (OpenSpec.upto fnExactQuoteTextSpec)) fnExactQuoteTextUptoCard

/-- THE SECOND FORM's CARD OF 'laws.FnExactIsBlankLine'. -/
def fnExactIsBlankLineUptoCard : Claim7 := { stood := { row := fnExactIsBlankLineUptoRow, standIns := [], harness := (true, "00943135cbdc4477795988c1d94a181286cec24e042f67fb68018a7b4620f85c"), looks := false }, kinds := [], alts := [], laidByText := true, laidKinds := [.data, .pinned], laidTests := true, laidLooks := .later }
def FnExactIsBlankLineUptoCardSaid : Prop := Claim7.holds Tryd.pinned (.plain (OpenSpec.upto fnExactIsBlankLineSpec)) fnExactIsBlankLineUptoCard

/-- THE SECOND FORM's CARD OF 'laws.FnExactSplitLines'. -/
def fnExactSplitLinesUptoCard : Claim7 := { stood := { row := fnExactSplitLinesUptoRow, standIns := [], harness := (true, "00943135cbdc4477795988c1d94a181286cec24e042f67fb68018a7b4620f85c"), looks := false }, kinds := [], alts := [], laidByText := true, laidKinds := [.data, .pinned], laidTests := true, laidLooks := .later }
def FnExactSplitLinesUptoCardSaid : Prop := Claim7.holds Tryd.pinned (.plain (OpenSpec.upto fnExactSplitLinesSpec)) fnExactSplitLinesUptoCard
end Rows
end Go.Proofs.YthiooabcgkidbaaDoor
