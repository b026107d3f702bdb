/-
  DERIVED. GIVEN WITH THE SEED: THE CARDS: each row of YtpomdenbgdgbhaaDoorRows.lean that lists a variable, with what it lists TIED to the program's text (the seventh form; the later family's looks); each row that meets fmt, with fmt's text TOLD by the authors' own Lean function (tested against real Go, not proved from fmt's source: count such statements apart). THE CARD IS WHAT COUNTS. Prove the row's statement (the work); the ties are given (YtpomdenbgdgbhaaDoorTie.lean); close each card by the builder's one call (the guide's Derived/Test/ToyasCard.lean, 'card_holds'). Laid BY PROGRAM, IN A SANDBOX (cutbox-door.mjs). By AI agents, Wed Nov 11 2026. No macro, syntax, notation, axiom, sorry.
-/
import Derived.Test.YtpomdenbgdgbhaaDoorRows
import GoSem.ClaimSeven
namespace Go.Proofs.YtpomdenbgdgbhaaDoor
namespace Rows

/-- THE TIED CARD OF 'sealskinlaw11.LinesFinds'. -/
def linesFindsCard : Claim7 := { stood := { row := linesFindsRow, standIns := [], harness := (true, "5ae05c47fa095ba68d0c11c71257f85266cea412dac92a69d3432037d189ce38"), looks := false }, kinds := [], alts := [], laidByText := true, laidKinds := [.data, .pinned], laidTests := true, laidLooks := .later }
def LinesFindsCardSaid : Prop := Claim7.holds Tryd.pinned (.plain (OpenSpec.ofChange linesFindsSpec)) linesFindsCard

/-- THE TIED CARD OF 'sealskinlaw11.LinesMoves'. -/
def linesMovesCard : Claim7 := { stood := { row := linesMovesRow, standIns := [], harness := (true, "5ae05c47fa095ba68d0c11c71257f85266cea412dac92a69d3432037d189ce38"), looks := false }, kinds := [], alts := [], laidByText := true, laidKinds := [.data, .pinned], laidTests := true, laidLooks := .later }
def LinesMovesCardSaid : Prop := Claim7.holds Tryd.pinned (.plain (OpenSpec.ofChange linesMovesSpec)) linesMovesCard

/-- THE TIED CARD OF 'sealskinlaw11.LinesTurned'. -/
def linesTurnedCard : Claim7 := { stood := { row := linesTurnedRow, standIns := [], harness := (true, "5ae05c47fa095ba68d0c11c71257f85266cea412dac92a69d3432037d189ce38"), looks := false }, kinds := [], alts := [], laidByText := true, laidKinds := [.data, .pinned], laidTests := true, laidLooks := .later }
def LinesTurnedCardSaid : Prop := Claim7.holds Tryd.pinned (.plain (OpenSpec.ofChange linesTurnedSpec)) linesTurnedCard

/-- THE TIED CARD OF 'sealskinlaw11.LinesTells'. -/
def linesTellsCard : Claim7 := { stood := { row := linesTellsRow, standIns := [], harness := (true, "5ae05c47fa095ba68d0c11c71257f85266cea412dac92a69d3432037d189ce38"), looks := false }, kinds := [], alts := [], laidByText := true, laidKinds := [.data, .pinned], laidTests := true, laidLooks := .later }
def LinesTellsCardSaid : Prop := Claim7.holds Tryd.pinned (.plain (OpenSpec.ofChange linesTellsSpec)) linesTellsCard

/-- THE TIED CARD OF 'sealskinlaw11.LinesWords'. -/
def linesWordsCard : Claim7 := { stood := { row := linesWordsRow, standIns := [], harness := (true, "5ae05c47fa095ba68d0c11c71257f85266cea412dac92a69d3432037d189ce38"), looks := false }, kinds := [], alts := [], laidByText := true, laidKinds := [.data, .pinned], laidTests := true, laidLooks := .later }
def LinesWordsCardSaid : Prop := Claim7.holds Tryd.pinned (.plain (OpenSpec.ofChange linesWordsSpec)) linesWordsCard

/-- THE TIED CARD OF 'sealskinlaw11.LinesNobody'. -/
def linesNobodyCard : Claim7 := { stood := { row := linesNobodyRow, standIns := [], harness := (true, "5ae05c47fa095ba68d0c11c71257f85266cea412dac92a69d3432037d189ce38"), looks := false }, kinds := [], alts := [], laidByText := true, laidKinds := [.data, .pinned], laidTests := true, laidLooks := .later }
def LinesNobodyCardSaid : Prop := Claim7.holds Tryd.pinned (.plain (OpenSpec.ofChange linesNobodySpec)) linesNobodyCard

/-- THE TIED CARD OF 'sealskinlaw11.LinesWhole'. -/
def linesWholeCard : Claim7 := { stood := { row := linesWholeRow, standIns := [], harness := (true, "5ae05c47fa095ba68d0c11c71257f85266cea412dac92a69d3432037d189ce38"), looks := false }, kinds := [], alts := [], laidByText := true, laidKinds := [.data, .pinned], laidTests := true, laidLooks := .later }
def LinesWholeCardSaid : Prop := Claim7.holds Tryd.pinned (.plain (OpenSpec.ofChange linesWholeSpec)) linesWholeCard

/-- THE TIED CARD OF 'sealskinlaw11.LinesSwaps'. -/
def linesSwapsCard : Claim7 := { stood := { row := linesSwapsRow, standIns := [], harness := (true, "5ae05c47fa095ba68d0c11c71257f85266cea412dac92a69d3432037d189ce38"), looks := false }, kinds := [], alts := [], laidByText := true, laidKinds := [.data, .pinned], laidTests := true, laidLooks := .later }
def LinesSwapsCardSaid : Prop := Claim7.holds Tryd.pinned (.plain (OpenSpec.ofChange linesSwapsSpec)) linesSwapsCard

/-- THE TIED CARD OF 'sealskinlaw12.MatchFinds'. -/
def matchFindsCard : Claim7 := { stood := { row := matchFindsRow, standIns := [], harness := (true, "5ae05c47fa095ba68d0c11c71257f85266cea412dac92a69d3432037d189ce38"), looks := false }, kinds := [], alts := [], laidByText := true, laidKinds := [.data, .pinned], laidTests := true, laidLooks := .later }
def MatchFindsCardSaid : Prop := Claim7.holds Tryd.pinned (.plain (OpenSpec.ofChange matchFindsSpec)) matchFindsCard

/-- THE TIED CARD OF 'sealskinlaw12.MatchSwaps'. -/
def matchSwapsCard : Claim7 := { stood := { row := matchSwapsRow, standIns := [], harness := (true, "5ae05c47fa095ba68d0c11c71257f85266cea412dac92a69d3432037d189ce38"), looks := false }, kinds := [], alts := [], laidByText := true, laidKinds := [.data, .pinned], laidTests := true, laidLooks := .later }
def MatchSwapsCardSaid : Prop := Claim7.holds Tryd.pinned (.plain (OpenSpec.ofChange matchSwapsSpec)) matchSwapsCard

/-- THE TIED CARD OF 'sealskinlaw12.MatchSame'. -/
def matchSameCard : Claim7 := { stood := { row := matchSameRow, standIns := [], harness := (true, "5ae05c47fa095ba68d0c11c71257f85266cea412dac92a69d3432037d189ce38"), looks := false }, kinds := [], alts := [], laidByText := true, laidKinds := [.data, .pinned], laidTests := true, laidLooks := .later }
def MatchSameCardSaid : Prop := Claim7.holds Tryd.pinned (.plain (OpenSpec.ofChange matchSameSpec)) matchSameCard

/-- THE TIED CARD OF 'sealskinlaw12.MatchCompiles'. -/
def matchCompilesCard : Claim7 := { stood := { row := matchCompilesRow, standIns := [], harness := (true, "5ae05c47fa095ba68d0c11c71257f85266cea412dac92a69d3432037d189ce38"), looks := false }, kinds := [], alts := [], laidByText := true, laidKinds := [.data, .pinned], laidTests := true, laidLooks := .later }
def MatchCompilesCardSaid : Prop := Claim7.holds Tryd.pinned (.plain (OpenSpec.ofChange matchCompilesSpec)) matchCompilesCard

/-- THE TIED CARD OF 'sealskinlaw12.MatchNobody'. -/
def matchNobodyCard : Claim7 := { stood := { row := matchNobodyRow, standIns := [], harness := (true, "5ae05c47fa095ba68d0c11c71257f85266cea412dac92a69d3432037d189ce38"), looks := false }, kinds := [], alts := [], laidByText := true, laidKinds := [.data, .pinned], laidTests := true, laidLooks := .later }
def MatchNobodyCardSaid : Prop := Claim7.holds Tryd.pinned (.plain (OpenSpec.ofChange matchNobodySpec)) matchNobodyCard

/-- THE TIED CARD OF 'sealskinlaw12.MatchAll'. -/
def matchAllCard : Claim7 := { stood := { row := matchAllRow, standIns := [], harness := (true, "5ae05c47fa095ba68d0c11c71257f85266cea412dac92a69d3432037d189ce38"), looks := false }, kinds := [], alts := [], laidByText := true, laidKinds := [.data, .pinned], laidTests := true, laidLooks := .later }
def MatchAllCardSaid : Prop := Claim7.holds Tryd.pinned (.plain (OpenSpec.ofChange matchAllSpec)) matchAllCard

/-- THE SECOND FORM's CARD OF 'sealskinlaw11.LinesFinds'. -/
def linesFindsUptoCard : Claim7 := { stood := { row := linesFindsUptoRow, standIns := [], harness := (true, "5ae05c47fa095ba68d0c11c71257f85266cea412dac92a69d3432037d189ce38"), looks := false }, kinds := [], alts := [], laidByText := true, laidKinds := [.data, .pinned], laidTests := true, laidLooks := .later }
def LinesFindsUptoCardSaid : Prop := Claim7.holds Tryd.pinned (.plain (OpenSpec.upto linesFindsSpec)) linesFindsUptoCard

/-- THE SECOND FORM's CARD OF 'sealskinlaw11.LinesMoves'. -/
def linesMovesUptoCard : Claim7 := { stood := { row := linesMovesUptoRow, standIns := [], harness := (true, "5ae05c47fa095ba68d0c11c71257f85266cea412dac92a69d3432037d189ce38"), looks := false }, kinds := [], alts := [], laidByText := true, laidKinds := [.data, .pinned], laidTests := true, laidLooks := .later }
def LinesMovesUptoCardSaid : Prop := Claim7.holds Tryd.pinned (.plain (OpenSpec.upto linesMovesSpec)) linesMovesUptoCard

/-- THE SECOND FORM's CARD OF 'sealskinlaw11.LinesTurned'. -/
def linesTurnedUptoCard : Claim7 := { stood := { row := linesTurnedUptoRow, standIns := [], harness := (true, "5ae05c47fa095ba68d0c11c71257f85266cea412dac92a69d3432037d189ce38"), looks := false }, kinds := [], alts := [], laidByText := true, laidKinds := [.data, .pinned], laidTests := true, laidLooks := .later }
def LinesTurnedUptoCardSaid : Prop := Claim7.holds Tryd.pinned (.plain (OpenSpec.upto linesTurnedSpec)) linesTurnedUptoCard

/-- THE SECOND FORM's CARD OF 'sealskinlaw11.LinesTells'. -/
def linesTellsUptoCard : Claim7 := { stood := { row := linesTellsUptoRow, standIns := [], harness := (true, "5ae05c47fa095ba68d0c11c71257f85266cea412dac92a69d3432037d189ce38"), looks := false }, kinds := [], alts := [], laidByText := true, laidKinds := [.data, .pinned], laidTests := true, laidLooks := .later }
def LinesTellsUptoCardSaid : Prop := Claim7.holds Tryd.pinned (.plain (OpenSpec.upto linesTellsSpec)) linesTellsUptoCard

/-- THE SECOND FORM's CARD OF 'sealskinlaw11.LinesWords'. -/
def linesWordsUptoCard : Claim7 := { stood := { row := linesWordsUptoRow, standIns := [], harness := (true, "5ae05c47fa095ba68d0c11c71257f85266cea412dac92a69d3432037d189ce38"), looks := false }, kinds := [], alts := [], laidByText := true, laidKinds := [.data, .pinned], laidTests := true, laidLooks := .later }
def LinesWordsUptoCardSaid : Prop := Claim7.holds Tryd.pinned (.plain (OpenSpec.upto linesWordsSpec)) linesWordsUptoCard

/-- THE SECOND FORM's CARD OF 'sealskinlaw11.LinesNobody'. -/
def linesNobodyUptoCard : Claim7 := { stood := { row := linesNobodyUptoRow, standIns := [], harness := (true, "5ae05c47fa095ba68d0c11c71257f85266cea412dac92a69d3432037d189ce38"), looks := false }, kinds := [], alts := [], laidByText := true, laidKinds := [.data, .pinned], laidTests := true, laidLooks := .later }
def LinesNobodyUptoCardSaid : Prop := Claim7.holds Tryd.pinned (.plain (OpenSpec.upto linesNobodySpec)) linesNobodyUptoCard

/-- THE SECOND FORM's CARD OF 'sealskinlaw11.LinesWhole'. -/
def linesWholeUptoCard : Claim7 := { stood := { row := linesWholeUptoRow, standIns := [], harness := (true, "5ae05c47fa095ba68d0c11c71257f85266cea412dac92a69d3432037d189ce38"), looks := false }, kinds := [], alts := [], laidByText := true, laidKinds := [.data, .pinned], laidTests := true, laidLooks := .later }
def LinesWholeUptoCardSaid : Prop := Claim7.holds Tryd.pinned (.plain (OpenSpec.upto linesWholeSpec)) linesWholeUptoCard

/-- THE SECOND FORM's CARD OF 'sealskinlaw11.LinesSwaps'. -/
def linesSwapsUptoCard : Claim7 := { stood := { row := linesSwapsUptoRow, standIns := [], harness := (true, "5ae05c47fa095ba68d0c11c71257f85266cea412dac92a69d3432037d189ce38"), looks := false }, kinds := [], alts := [], laidByText := true, laidKinds := [.data, .pinned], laidTests := true, laidLooks := .later }
def LinesSwapsUptoCardSaid : Prop := Claim7.holds Tryd.pinned (.plain (OpenSpec.upto linesSwapsSpec)) linesSwapsUptoCard

/-- THE SECOND FORM's CARD OF 'sealskinlaw12.MatchFinds'. -/
def matchFindsUptoCard : Claim7 := { stood := { row := matchFindsUptoRow, standIns := [], harness := (true, "5ae05c47fa095ba68d0c11c71257f85266cea412dac92a69d3432037d189ce38"), looks := false }, kinds := [], alts := [], laidByText := true, laidKinds := [.data, .pinned], laidTests := true, laidLooks := .later }
def MatchFindsUptoCardSaid : Prop := Claim7.holds Tryd.pinned (.plain (OpenSpec.upto matchFindsSpec)) matchFindsUptoCard

/-- THE SECOND FORM's CARD OF 'sealskinlaw12.MatchSwaps'. -/
def matchSwapsUptoCard : Claim7 := { stood := { row := matchSwapsUptoRow, standIns := [], harness := (true, "5ae05c47fa095ba68d0c11c71257f85266cea412dac92a69d3432037d189ce38"), looks := false }, kinds := [], alts := [], laidByText := true, laidKinds := [.data, .pinned], laidTests := true, laidLooks := .later }
def MatchSwapsUptoCardSaid : Prop := Claim7.holds Tryd.pinned (.plain (OpenSpec.upto matchSwapsSpec)) matchSwapsUptoCard

/-- THE SECOND FORM's CARD OF 'sealskinlaw12.MatchSame'. -/
def matchSameUptoCard : Claim7 := { stood := { row := matchSameUptoRow, standIns := [], harness := (true, "5ae05c47fa095ba68d0c11c71257f85266cea412dac92a69d3432037d189ce38"), looks := false }, kinds := [], alts := [], laidByText := true, laidKinds := [.data, .pinned], laidTests := true, laidLooks := .later }
def MatchSameUptoCardSaid : Prop := Claim7.holds Tryd.pinned (.plain (OpenSpec.upto matchSameSpec)) matchSameUptoCard

/-- THE SECOND FORM's CARD OF 'sealskinlaw12.MatchCompiles'. -/
def matchCompilesUptoCard : Claim7 := { stood := { row := matchCompilesUptoRow, standIns := [], harness := (true, "5ae05c47fa095ba68d0c11c71257f85266cea412dac92a69d3432037d189ce38"), looks := false }, kinds := [], alts := [], laidByText := true, laidKinds := [.data, .pinned], laidTests := true, laidLooks := .later }
def MatchCompilesUptoCardSaid : Prop := Claim7.holds Tryd.pinned (.plain (OpenSpec.upto matchCompilesSpec)) matchCompilesUptoCard

/-- THE SECOND FORM's CARD OF 'sealskinlaw12.MatchNobody'. -/
def matchNobodyUptoCard : Claim7 := { stood := { row := matchNobodyUptoRow, standIns := [], harness := (true, "5ae05c47fa095ba68d0c11c71257f85266cea412dac92a69d3432037d189ce38"), looks := false }, kinds := [], alts := [], laidByText := true, laidKinds := [.data, .pinned], laidTests := true, laidLooks := .later }
def MatchNobodyUptoCardSaid : Prop := Claim7.holds Tryd.pinned (.plain (OpenSpec.upto matchNobodySpec)) matchNobodyUptoCard

/-- THE SECOND FORM's CARD OF 'sealskinlaw12.MatchAll'. -/
def matchAllUptoCard : Claim7 := { stood := { row := matchAllUptoRow, standIns := [], harness := (true, "5ae05c47fa095ba68d0c11c71257f85266cea412dac92a69d3432037d189ce38"), looks := false }, kinds := [], alts := [], laidByText := true, laidKinds := [.data, .pinned], laidTests := true, laidLooks := .later }
def MatchAllUptoCardSaid : Prop := Claim7.holds Tryd.pinned (.plain (OpenSpec.upto matchAllSpec)) matchAllUptoCard
end Rows
end Go.Proofs.YtpomdenbgdgbhaaDoor
