/-
  NARROWER THAN 'FOR EVERY INPUT', by the rows' own cells (each row's printed sentence says how): LinesFinds: laid · LinesMoves: laid · LinesTurned: laid · LinesTells: laid · LinesWords: laid · LinesNobody: laid · LinesWhole: laid · LinesSwaps: laid · MatchFinds: laid · MatchSwaps: laid · MatchSame: laid · MatchCompiles: laid · MatchNobody: laid · MatchAll: laid.
  DERIVED. THE GIVEN ROWS OF THIS SEAT. 14 by the template 'for every input the law returns true; each argument reads behind the call as it read before'; 0 by the template 'total and deterministic' (their statements: YtpomdenbgdgbhaaDoorTotals.lean).
  GIVEN WITH THE SEED: the statements are not yours to turn. If you find one false, say at which input.
  Laid BY PROGRAM, IN A SANDBOX (cutbox-rows.mjs): the forced cells as the released guide's own fill.sh prints them over the translation 4ecec1031f7ef87c… (all of the seat's roots in one cut). By AI agents, Wed Nov 11 2026. No macro, syntax, notation, axiom, sorry.
-/
import Derived.Test.YtpomdenbgdgbhaaDoorChecked
import GoSem.PinnedTables
import GoSem.Claim
import GoSem.ClaimJoined
import GoSem.ClaimMapViews
import Derived.JoinedTies
import Derived.KernelRfl
namespace Go.Proofs.YtpomdenbgdgbhaaDoor
/- THE CELL 'sum', in the pinned program and in every row, IS THE sha256 OF THE DUMP (.gsa) THAT YtpomdenbgdgbhaaDoorProg.lean LOADS. Nothing in Lean hashes anything: it is a label: what it is worth is what the hold of that sum in a sandbox is worth. -/
noncomputable def Tryd.pinned : Pinned := { name := "ytpomdenbgdgbhaadoor", sum := "4ecec1031f7ef87c4330743e5a8c727d1b3c84edcb38f5587a8e2fc1590ead61", checked := Tryd.checked }
namespace Rows
def none {H : Type} : Left H := { results := [], args := [] }

/- WHAT THE LISTED PACKAGE-LEVEL VARIABLES READ AS WHEN THE CALL BEGINS. Each datum BY PROGRAM (the guide's laid-datum.mjs) off the statement by which the dump's own 'gosem.cut.vars' lays the variable. In a bare row this is a premise. The card (YtpomdenbgdgbhaaDoorCards.lean) ties it to the program's text. -/
def laid_unicode_utf8_acceptRanges {H : Type} : DataW H := .agg [.agg [.lit (.int .u8 128), .lit (.int .u8 191)], .agg [.lit (.int .u8 160), .lit (.int .u8 191)], .agg [.lit (.int .u8 128), .lit (.int .u8 159)], .agg [.lit (.int .u8 144), .lit (.int .u8 191)], .agg [.lit (.int .u8 128), .lit (.int .u8 143)], .agg [.lit (.int .u8 0), .lit (.int .u8 0)], .agg [.lit (.int .u8 0), .lit (.int .u8 0)], .agg [.lit (.int .u8 0), .lit (.int .u8 0)], .agg [.lit (.int .u8 0), .lit (.int .u8 0)], .agg [.lit (.int .u8 0), .lit (.int .u8 0)], .agg [.lit (.int .u8 0), .lit (.int .u8 0)], .agg [.lit (.int .u8 0), .lit (.int .u8 0)], .agg [.lit (.int .u8 0), .lit (.int .u8 0)], .agg [.lit (.int .u8 0), .lit (.int .u8 0)], .agg [.lit (.int .u8 0), .lit (.int .u8 0)], .agg [.lit (.int .u8 0), .lit (.int .u8 0)]]
/-- One of Go's own tables, pinned by name: the form's constant. -/
def laid_unicode_utf8_first : DataW Unit := Go.Pinned.utf8First

/-- 'sealskinlaw11.LinesFinds': WHATEVER THE INPUT: true; the input reads as it did. -/
def linesFindsSpec : ChangeSpec := { name := "linesFinds", fn := fun _ => fun
  | [d1, d2] => { results := [.lit (.bool true)], args := [d1, d2] }
  | _ => none }
def linesFindsRow : OpenClaim := { program := "ytpomdenbgdgbhaadoor", sum := "4ecec1031f7ef87c4330743e5a8c727d1b3c84edcb38f5587a8e2fc1590ead61", func := "sealskin/sealskinlaw11.LinesFinds", spec := "linesFinds", unfollowed := true, recurses := true, named := ["unicode/utf8.first", "unicode/utf8.acceptRanges"], plainKeys := false, apart := false, laid := [("unicode/utf8.acceptRanges", laid_unicode_utf8_acceptRanges), ("unicode/utf8.first", laid_unicode_utf8_first)] }
def LinesFindsSaid : Prop := linesFindsRow.holds Tryd.pinned (OpenSpec.ofChange linesFindsSpec)

/-- ITS FALSE NEIGHBOUR: 'it returns false'. Refute it at one input. -/
def linesFindsWrong : ChangeSpec := { name := "linesFinds", fn := fun _ => fun
  | [d1, d2] => { results := [.lit (.bool false)], args := [d1, d2] }
  | _ => none }
def LinesFindsWrongFalsely : Prop := linesFindsRow.holds Tryd.pinned (OpenSpec.ofChange linesFindsWrong)

/-- 'sealskinlaw11.LinesMoves': WHATEVER THE INPUT: true; the input reads as it did. -/
def linesMovesSpec : ChangeSpec := { name := "linesMoves", fn := fun _ => fun
  | [d1, d2, d3, d4] => { results := [.lit (.bool true)], args := [d1, d2, d3, d4] }
  | _ => none }
def linesMovesRow : OpenClaim := { program := "ytpomdenbgdgbhaadoor", sum := "4ecec1031f7ef87c4330743e5a8c727d1b3c84edcb38f5587a8e2fc1590ead61", func := "sealskin/sealskinlaw11.LinesMoves", spec := "linesMoves", unfollowed := true, recurses := true, named := ["unicode/utf8.first", "unicode/utf8.acceptRanges"], plainKeys := false, apart := false, laid := [("unicode/utf8.acceptRanges", laid_unicode_utf8_acceptRanges), ("unicode/utf8.first", laid_unicode_utf8_first)] }
def LinesMovesSaid : Prop := linesMovesRow.holds Tryd.pinned (OpenSpec.ofChange linesMovesSpec)

/-- ITS FALSE NEIGHBOUR: 'it returns false'. Refute it at one input. -/
def linesMovesWrong : ChangeSpec := { name := "linesMoves", fn := fun _ => fun
  | [d1, d2, d3, d4] => { results := [.lit (.bool false)], args := [d1, d2, d3, d4] }
  | _ => none }
def LinesMovesWrongFalsely : Prop := linesMovesRow.holds Tryd.pinned (OpenSpec.ofChange linesMovesWrong)

/-- 'sealskinlaw11.LinesTurned': WHATEVER THE INPUT: true; the input reads as it did. -/
def linesTurnedSpec : ChangeSpec := { name := "linesTurned", fn := fun _ => fun
  | [d1, d2] => { results := [.lit (.bool true)], args := [d1, d2] }
  | _ => none }
def linesTurnedRow : OpenClaim := { program := "ytpomdenbgdgbhaadoor", sum := "4ecec1031f7ef87c4330743e5a8c727d1b3c84edcb38f5587a8e2fc1590ead61", func := "sealskin/sealskinlaw11.LinesTurned", spec := "linesTurned", unfollowed := true, recurses := true, named := ["unicode/utf8.first", "unicode/utf8.acceptRanges"], plainKeys := false, apart := false, laid := [("unicode/utf8.acceptRanges", laid_unicode_utf8_acceptRanges), ("unicode/utf8.first", laid_unicode_utf8_first)] }
def LinesTurnedSaid : Prop := linesTurnedRow.holds Tryd.pinned (OpenSpec.ofChange linesTurnedSpec)

/-- ITS FALSE NEIGHBOUR: 'it returns false'. Refute it at one input. -/
def linesTurnedWrong : ChangeSpec := { name := "linesTurned", fn := fun _ => fun
  | [d1, d2] => { results := [.lit (.bool false)], args := [d1, d2] }
  | _ => none }
def LinesTurnedWrongFalsely : Prop := linesTurnedRow.holds Tryd.pinned (OpenSpec.ofChange linesTurnedWrong)

/-- 'sealskinlaw11.LinesTells': WHATEVER THE INPUT: true; the input reads as it did. -/
def linesTellsSpec : ChangeSpec := { name := "linesTells", fn := fun _ => fun
  | [d1, d2, d3, d4] => { results := [.lit (.bool true)], args := [d1, d2, d3, d4] }
  | _ => none }
def linesTellsRow : OpenClaim := { program := "ytpomdenbgdgbhaadoor", sum := "4ecec1031f7ef87c4330743e5a8c727d1b3c84edcb38f5587a8e2fc1590ead61", func := "sealskin/sealskinlaw11.LinesTells", spec := "linesTells", unfollowed := true, recurses := true, named := ["unicode/utf8.first", "unicode/utf8.acceptRanges"], plainKeys := false, apart := false, laid := [("unicode/utf8.acceptRanges", laid_unicode_utf8_acceptRanges), ("unicode/utf8.first", laid_unicode_utf8_first)] }
def LinesTellsSaid : Prop := linesTellsRow.holds Tryd.pinned (OpenSpec.ofChange linesTellsSpec)

/-- ITS FALSE NEIGHBOUR: 'it returns false'. Refute it at one input. -/
def linesTellsWrong : ChangeSpec := { name := "linesTells", fn := fun _ => fun
  | [d1, d2, d3, d4] => { results := [.lit (.bool false)], args := [d1, d2, d3, d4] }
  | _ => none }
def LinesTellsWrongFalsely : Prop := linesTellsRow.holds Tryd.pinned (OpenSpec.ofChange linesTellsWrong)

/-- 'sealskinlaw11.LinesWords': WHATEVER THE INPUT: true; the input reads as it did. -/
def linesWordsSpec : ChangeSpec := { name := "linesWords", fn := fun _ => fun
  | [d1, d2] => { results := [.lit (.bool true)], args := [d1, d2] }
  | _ => none }
def linesWordsRow : OpenClaim := { program := "ytpomdenbgdgbhaadoor", sum := "4ecec1031f7ef87c4330743e5a8c727d1b3c84edcb38f5587a8e2fc1590ead61", func := "sealskin/sealskinlaw11.LinesWords", spec := "linesWords", unfollowed := true, recurses := true, named := ["unicode/utf8.first", "unicode/utf8.acceptRanges"], plainKeys := false, apart := false, laid := [("unicode/utf8.acceptRanges", laid_unicode_utf8_acceptRanges), ("unicode/utf8.first", laid_unicode_utf8_first)] }
def LinesWordsSaid : Prop := linesWordsRow.holds Tryd.pinned (OpenSpec.ofChange linesWordsSpec)

/-- ITS FALSE NEIGHBOUR: 'it returns false'. Refute it at one input. -/
def linesWordsWrong : ChangeSpec := { name := "linesWords", fn := fun _ => fun
  | [d1, d2] => { results := [.lit (.bool false)], args := [d1, d2] }
  | _ => none }
def LinesWordsWrongFalsely : Prop := linesWordsRow.holds Tryd.pinned (OpenSpec.ofChange linesWordsWrong)

/-- 'sealskinlaw11.LinesNobody': WHATEVER THE INPUT: true; the input reads as it did. -/
def linesNobodySpec : ChangeSpec := { name := "linesNobody", fn := fun _ => fun
  | [d1, d2, d3, d4] => { results := [.lit (.bool true)], args := [d1, d2, d3, d4] }
  | _ => none }
def linesNobodyRow : OpenClaim := { program := "ytpomdenbgdgbhaadoor", sum := "4ecec1031f7ef87c4330743e5a8c727d1b3c84edcb38f5587a8e2fc1590ead61", func := "sealskin/sealskinlaw11.LinesNobody", spec := "linesNobody", unfollowed := true, recurses := true, named := ["unicode/utf8.first", "unicode/utf8.acceptRanges"], plainKeys := false, apart := false, laid := [("unicode/utf8.acceptRanges", laid_unicode_utf8_acceptRanges), ("unicode/utf8.first", laid_unicode_utf8_first)] }
def LinesNobodySaid : Prop := linesNobodyRow.holds Tryd.pinned (OpenSpec.ofChange linesNobodySpec)

/-- ITS FALSE NEIGHBOUR: 'it returns false'. Refute it at one input. -/
def linesNobodyWrong : ChangeSpec := { name := "linesNobody", fn := fun _ => fun
  | [d1, d2, d3, d4] => { results := [.lit (.bool false)], args := [d1, d2, d3, d4] }
  | _ => none }
def LinesNobodyWrongFalsely : Prop := linesNobodyRow.holds Tryd.pinned (OpenSpec.ofChange linesNobodyWrong)

/-- 'sealskinlaw11.LinesWhole': WHATEVER THE INPUT: true; the input reads as it did. -/
def linesWholeSpec : ChangeSpec := { name := "linesWhole", fn := fun _ => fun
  | [d] => { results := [.lit (.bool true)], args := [d] }
  | _ => none }
def linesWholeRow : OpenClaim := { program := "ytpomdenbgdgbhaadoor", sum := "4ecec1031f7ef87c4330743e5a8c727d1b3c84edcb38f5587a8e2fc1590ead61", func := "sealskin/sealskinlaw11.LinesWhole", spec := "linesWhole", inPlace := ["internal/bytealg.IndexByteString", "internal/bytealg.IndexString", "internal/abi.NoEscape", "internal/bytealg.MakeNoZero"], unfollowed := true, recurses := true, named := ["unicode/utf8.first", "unicode/utf8.acceptRanges", "internal/bytealg.MaxLen"], plainKeys := false, apart := false, laid := [("unicode/utf8.acceptRanges", laid_unicode_utf8_acceptRanges), ("unicode/utf8.first", laid_unicode_utf8_first)] }
def LinesWholeSaid : Prop := linesWholeRow.holds Tryd.pinned (OpenSpec.ofChange linesWholeSpec)

/-- ITS FALSE NEIGHBOUR: 'it returns false'. Refute it at one input. -/
def linesWholeWrong : ChangeSpec := { name := "linesWhole", fn := fun _ => fun
  | [d] => { results := [.lit (.bool false)], args := [d] }
  | _ => none }
def LinesWholeWrongFalsely : Prop := linesWholeRow.holds Tryd.pinned (OpenSpec.ofChange linesWholeWrong)

/-- 'sealskinlaw11.LinesSwaps': WHATEVER THE INPUT: true; the input reads as it did. -/
def linesSwapsSpec : ChangeSpec := { name := "linesSwaps", fn := fun _ => fun
  | [d1, d2, d3] => { results := [.lit (.bool true)], args := [d1, d2, d3] }
  | _ => none }
def linesSwapsRow : OpenClaim := { program := "ytpomdenbgdgbhaadoor", sum := "4ecec1031f7ef87c4330743e5a8c727d1b3c84edcb38f5587a8e2fc1590ead61", func := "sealskin/sealskinlaw11.LinesSwaps", spec := "linesSwaps", inPlace := ["internal/bytealg.CountString", "internal/bytealg.IndexByteString", "internal/bytealg.IndexString", "internal/abi.NoEscape", "internal/bytealg.MakeNoZero"], unfollowed := true, recurses := true, named := ["unicode/utf8.first", "unicode/utf8.acceptRanges", "internal/bytealg.MaxLen"], plainKeys := false, apart := false, laid := [("unicode/utf8.acceptRanges", laid_unicode_utf8_acceptRanges), ("unicode/utf8.first", laid_unicode_utf8_first)] }
def LinesSwapsSaid : Prop := linesSwapsRow.holds Tryd.pinned (OpenSpec.ofChange linesSwapsSpec)

/-- ITS FALSE NEIGHBOUR: 'it returns false'. Refute it at one input. -/
def linesSwapsWrong : ChangeSpec := { name := "linesSwaps", fn := fun _ => fun
  | [d1, d2, d3] => { results := [.lit (.bool false)], args := [d1, d2, d3] }
  | _ => none }
def LinesSwapsWrongFalsely : Prop := linesSwapsRow.holds Tryd.pinned (OpenSpec.ofChange linesSwapsWrong)

/-- 'sealskinlaw12.MatchFinds': WHATEVER THE INPUT: true; the input reads as it did. -/
def matchFindsSpec : ChangeSpec := { name := "matchFinds", fn := fun _ => fun
  | [d1, d2, d3] => { results := [.lit (.bool true)], args := [d1, d2, d3] }
  | _ => none }
def matchFindsRow : OpenClaim := { program := "ytpomdenbgdgbhaadoor", sum := "4ecec1031f7ef87c4330743e5a8c727d1b3c84edcb38f5587a8e2fc1590ead61", func := "sealskin/sealskinlaw12.MatchFinds", spec := "matchFinds", unfollowed := true, recurses := true, named := ["unicode/utf8.first", "unicode/utf8.acceptRanges"], plainKeys := false, apart := false, laid := [("unicode/utf8.acceptRanges", laid_unicode_utf8_acceptRanges), ("unicode/utf8.first", laid_unicode_utf8_first)] }
def MatchFindsSaid : Prop := matchFindsRow.holds Tryd.pinned (OpenSpec.ofChange matchFindsSpec)

/-- ITS FALSE NEIGHBOUR: 'it returns false'. Refute it at one input. -/
def matchFindsWrong : ChangeSpec := { name := "matchFinds", fn := fun _ => fun
  | [d1, d2, d3] => { results := [.lit (.bool false)], args := [d1, d2, d3] }
  | _ => none }
def MatchFindsWrongFalsely : Prop := matchFindsRow.holds Tryd.pinned (OpenSpec.ofChange matchFindsWrong)

/-- 'sealskinlaw12.MatchSwaps': WHATEVER THE INPUT: true; the input reads as it did. -/
def matchSwapsSpec : ChangeSpec := { name := "matchSwaps", fn := fun _ => fun
  | [d1, d2, d3] => { results := [.lit (.bool true)], args := [d1, d2, d3] }
  | _ => none }
def matchSwapsRow : OpenClaim := { program := "ytpomdenbgdgbhaadoor", sum := "4ecec1031f7ef87c4330743e5a8c727d1b3c84edcb38f5587a8e2fc1590ead61", func := "sealskin/sealskinlaw12.MatchSwaps", spec := "matchSwaps", unfollowed := true, recurses := true, named := ["unicode/utf8.first", "unicode/utf8.acceptRanges"], plainKeys := false, apart := false, laid := [("unicode/utf8.acceptRanges", laid_unicode_utf8_acceptRanges), ("unicode/utf8.first", laid_unicode_utf8_first)] }
def MatchSwapsSaid : Prop := matchSwapsRow.holds Tryd.pinned (OpenSpec.ofChange matchSwapsSpec)

/-- ITS FALSE NEIGHBOUR: 'it returns false'. Refute it at one input. -/
def matchSwapsWrong : ChangeSpec := { name := "matchSwaps", fn := fun _ => fun
  | [d1, d2, d3] => { results := [.lit (.bool false)], args := [d1, d2, d3] }
  | _ => none }
def MatchSwapsWrongFalsely : Prop := matchSwapsRow.holds Tryd.pinned (OpenSpec.ofChange matchSwapsWrong)

/-- 'sealskinlaw12.MatchSame': WHATEVER THE INPUT: true; the input reads as it did. -/
def matchSameSpec : ChangeSpec := { name := "matchSame", fn := fun _ => fun
  | [d1, d2] => { results := [.lit (.bool true)], args := [d1, d2] }
  | _ => none }
def matchSameRow : OpenClaim := { program := "ytpomdenbgdgbhaadoor", sum := "4ecec1031f7ef87c4330743e5a8c727d1b3c84edcb38f5587a8e2fc1590ead61", func := "sealskin/sealskinlaw12.MatchSame", spec := "matchSame", unfollowed := true, recurses := true, named := ["unicode/utf8.first", "unicode/utf8.acceptRanges"], plainKeys := false, apart := false, laid := [("unicode/utf8.acceptRanges", laid_unicode_utf8_acceptRanges), ("unicode/utf8.first", laid_unicode_utf8_first)] }
def MatchSameSaid : Prop := matchSameRow.holds Tryd.pinned (OpenSpec.ofChange matchSameSpec)

/-- ITS FALSE NEIGHBOUR: 'it returns false'. Refute it at one input. -/
def matchSameWrong : ChangeSpec := { name := "matchSame", fn := fun _ => fun
  | [d1, d2] => { results := [.lit (.bool false)], args := [d1, d2] }
  | _ => none }
def MatchSameWrongFalsely : Prop := matchSameRow.holds Tryd.pinned (OpenSpec.ofChange matchSameWrong)

/-- 'sealskinlaw12.MatchCompiles': WHATEVER THE INPUT: true; the input reads as it did. -/
def matchCompilesSpec : ChangeSpec := { name := "matchCompiles", fn := fun _ => fun
  | [d] => { results := [.lit (.bool true)], args := [d] }
  | _ => none }
def matchCompilesRow : OpenClaim := { program := "ytpomdenbgdgbhaadoor", sum := "4ecec1031f7ef87c4330743e5a8c727d1b3c84edcb38f5587a8e2fc1590ead61", func := "sealskin/sealskinlaw12.MatchCompiles", spec := "matchCompiles", unfollowed := true, recurses := true, named := ["unicode/utf8.first", "unicode/utf8.acceptRanges"], plainKeys := false, apart := false, laid := [("unicode/utf8.acceptRanges", laid_unicode_utf8_acceptRanges), ("unicode/utf8.first", laid_unicode_utf8_first)] }
def MatchCompilesSaid : Prop := matchCompilesRow.holds Tryd.pinned (OpenSpec.ofChange matchCompilesSpec)

/-- ITS FALSE NEIGHBOUR: 'it returns false'. Refute it at one input. -/
def matchCompilesWrong : ChangeSpec := { name := "matchCompiles", fn := fun _ => fun
  | [d] => { results := [.lit (.bool false)], args := [d] }
  | _ => none }
def MatchCompilesWrongFalsely : Prop := matchCompilesRow.holds Tryd.pinned (OpenSpec.ofChange matchCompilesWrong)

/-- 'sealskinlaw12.MatchNobody': WHATEVER THE INPUT: true; the input reads as it did. -/
def matchNobodySpec : ChangeSpec := { name := "matchNobody", fn := fun _ => fun
  | [d1, d2, d3] => { results := [.lit (.bool true)], args := [d1, d2, d3] }
  | _ => none }
def matchNobodyRow : OpenClaim := { program := "ytpomdenbgdgbhaadoor", sum := "4ecec1031f7ef87c4330743e5a8c727d1b3c84edcb38f5587a8e2fc1590ead61", func := "sealskin/sealskinlaw12.MatchNobody", spec := "matchNobody", unfollowed := true, recurses := true, named := ["unicode/utf8.first", "unicode/utf8.acceptRanges"], plainKeys := false, apart := false, laid := [("unicode/utf8.acceptRanges", laid_unicode_utf8_acceptRanges), ("unicode/utf8.first", laid_unicode_utf8_first)] }
def MatchNobodySaid : Prop := matchNobodyRow.holds Tryd.pinned (OpenSpec.ofChange matchNobodySpec)

/-- ITS FALSE NEIGHBOUR: 'it returns false'. Refute it at one input. -/
def matchNobodyWrong : ChangeSpec := { name := "matchNobody", fn := fun _ => fun
  | [d1, d2, d3] => { results := [.lit (.bool false)], args := [d1, d2, d3] }
  | _ => none }
def MatchNobodyWrongFalsely : Prop := matchNobodyRow.holds Tryd.pinned (OpenSpec.ofChange matchNobodyWrong)

/-- 'sealskinlaw12.MatchAll': WHATEVER THE INPUT: true; the input reads as it did. -/
def matchAllSpec : ChangeSpec := { name := "matchAll", fn := fun _ => fun
  | [d1, d2] => { results := [.lit (.bool true)], args := [d1, d2] }
  | _ => none }
def matchAllRow : OpenClaim := { program := "ytpomdenbgdgbhaadoor", sum := "4ecec1031f7ef87c4330743e5a8c727d1b3c84edcb38f5587a8e2fc1590ead61", func := "sealskin/sealskinlaw12.MatchAll", spec := "matchAll", unfollowed := true, recurses := true, named := ["unicode/utf8.first", "unicode/utf8.acceptRanges"], plainKeys := false, apart := false, laid := [("unicode/utf8.acceptRanges", laid_unicode_utf8_acceptRanges), ("unicode/utf8.first", laid_unicode_utf8_first)] }
def MatchAllSaid : Prop := matchAllRow.holds Tryd.pinned (OpenSpec.ofChange matchAllSpec)

/-- ITS FALSE NEIGHBOUR: 'it returns false'. Refute it at one input. -/
def matchAllWrong : ChangeSpec := { name := "matchAll", fn := fun _ => fun
  | [d1, d2] => { results := [.lit (.bool false)], args := [d1, d2] }
  | _ => none }
def MatchAllWrongFalsely : Prop := matchAllRow.holds Tryd.pinned (OpenSpec.ofChange matchAllWrong)

/- THE SECOND FORM. 'bulk': how many values and letters a reading holds, each counted each time it is reached (what is shared counts as often as it is met; a slice's spare places count too). A statement '..UptoSaid' is the law's where the arguments, and the package variables that the reading takes, are together of bulk at most 1048576: NARROWER than '..Said'. Prove '..Said' where nothing that the law and all that it calls make is longer than what came in: it says more and counts as full. Else prove '..UptoSaid'. A law counts once. -/
mutual
def uptoBulk {H : Type} : DataW H → Nat
  | .lit (.string bytes) => bytes.length + 1
  | .lit _ => 1
  | .nil => 1
  | .ptr d => uptoBulk d + 1
  | .slice elems spare => uptoBulkAll elems + uptoBulkAll spare + 1
  | .agg parts => uptoBulkAll parts + 1
  | .iface _ d => uptoBulk d + 1
  | .map entries => uptoBulkEntries entries + 1
  | .held _ => 1
def uptoBulkAll {H : Type} : List (DataW H) → Nat
  | [] => 0
  | d :: r => uptoBulk d + uptoBulkAll r
def uptoBulkEntries {H : Type} : List (Lit × DataW H) → Nat
  | [] => 0
  | x :: r => uptoBulkEntry x + uptoBulkEntries r
def uptoBulkEntry {H : Type} : Lit × DataW H → Nat
  | (.string bytes, d) => bytes.length + uptoBulk d + 1
  | (_, d) => uptoBulk d + 1
 end
def uptoSmall : (H : Type) → List (DataW H) → Bool := fun _ ds => decide (uptoBulkAll ds ≤ 1048576)
def OpenSpec.upto (s : _root_.Go.ChangeSpec) : _root_.Go.OpenSpec := { _root_.Go.OpenSpec.ofChange s with cond := some uptoSmall }

/-- 'sealskinlaw11.LinesFinds', WHERE WHAT IT READS IS OF BULK AT MOST 1048576: true; the input reads as it did. -/
def linesFindsUptoRow : OpenClaim := { program := "ytpomdenbgdgbhaadoor", sum := "4ecec1031f7ef87c4330743e5a8c727d1b3c84edcb38f5587a8e2fc1590ead61", func := "sealskin/sealskinlaw11.LinesFinds", spec := "linesFinds", unfollowed := true, recurses := true, named := ["unicode/utf8.first", "unicode/utf8.acceptRanges"], plainKeys := false, apart := false, laid := [("unicode/utf8.acceptRanges", laid_unicode_utf8_acceptRanges), ("unicode/utf8.first", laid_unicode_utf8_first)], narrowed := true }
def LinesFindsUptoSaid : Prop := linesFindsUptoRow.holds Tryd.pinned (OpenSpec.upto linesFindsSpec)

/-- 'sealskinlaw11.LinesMoves', WHERE WHAT IT READS IS OF BULK AT MOST 1048576: true; the input reads as it did. -/
def linesMovesUptoRow : OpenClaim := { program := "ytpomdenbgdgbhaadoor", sum := "4ecec1031f7ef87c4330743e5a8c727d1b3c84edcb38f5587a8e2fc1590ead61", func := "sealskin/sealskinlaw11.LinesMoves", spec := "linesMoves", unfollowed := true, recurses := true, named := ["unicode/utf8.first", "unicode/utf8.acceptRanges"], plainKeys := false, apart := false, laid := [("unicode/utf8.acceptRanges", laid_unicode_utf8_acceptRanges), ("unicode/utf8.first", laid_unicode_utf8_first)], narrowed := true }
def LinesMovesUptoSaid : Prop := linesMovesUptoRow.holds Tryd.pinned (OpenSpec.upto linesMovesSpec)

/-- 'sealskinlaw11.LinesTurned', WHERE WHAT IT READS IS OF BULK AT MOST 1048576: true; the input reads as it did. -/
def linesTurnedUptoRow : OpenClaim := { program := "ytpomdenbgdgbhaadoor", sum := "4ecec1031f7ef87c4330743e5a8c727d1b3c84edcb38f5587a8e2fc1590ead61", func := "sealskin/sealskinlaw11.LinesTurned", spec := "linesTurned", unfollowed := true, recurses := true, named := ["unicode/utf8.first", "unicode/utf8.acceptRanges"], plainKeys := false, apart := false, laid := [("unicode/utf8.acceptRanges", laid_unicode_utf8_acceptRanges), ("unicode/utf8.first", laid_unicode_utf8_first)], narrowed := true }
def LinesTurnedUptoSaid : Prop := linesTurnedUptoRow.holds Tryd.pinned (OpenSpec.upto linesTurnedSpec)

/-- 'sealskinlaw11.LinesTells', WHERE WHAT IT READS IS OF BULK AT MOST 1048576: true; the input reads as it did. -/
def linesTellsUptoRow : OpenClaim := { program := "ytpomdenbgdgbhaadoor", sum := "4ecec1031f7ef87c4330743e5a8c727d1b3c84edcb38f5587a8e2fc1590ead61", func := "sealskin/sealskinlaw11.LinesTells", spec := "linesTells", unfollowed := true, recurses := true, named := ["unicode/utf8.first", "unicode/utf8.acceptRanges"], plainKeys := false, apart := false, laid := [("unicode/utf8.acceptRanges", laid_unicode_utf8_acceptRanges), ("unicode/utf8.first", laid_unicode_utf8_first)], narrowed := true }
def LinesTellsUptoSaid : Prop := linesTellsUptoRow.holds Tryd.pinned (OpenSpec.upto linesTellsSpec)

/-- 'sealskinlaw11.LinesWords', WHERE WHAT IT READS IS OF BULK AT MOST 1048576: true; the input reads as it did. -/
def linesWordsUptoRow : OpenClaim := { program := "ytpomdenbgdgbhaadoor", sum := "4ecec1031f7ef87c4330743e5a8c727d1b3c84edcb38f5587a8e2fc1590ead61", func := "sealskin/sealskinlaw11.LinesWords", spec := "linesWords", unfollowed := true, recurses := true, named := ["unicode/utf8.first", "unicode/utf8.acceptRanges"], plainKeys := false, apart := false, laid := [("unicode/utf8.acceptRanges", laid_unicode_utf8_acceptRanges), ("unicode/utf8.first", laid_unicode_utf8_first)], narrowed := true }
def LinesWordsUptoSaid : Prop := linesWordsUptoRow.holds Tryd.pinned (OpenSpec.upto linesWordsSpec)

/-- 'sealskinlaw11.LinesNobody', WHERE WHAT IT READS IS OF BULK AT MOST 1048576: true; the input reads as it did. -/
def linesNobodyUptoRow : OpenClaim := { program := "ytpomdenbgdgbhaadoor", sum := "4ecec1031f7ef87c4330743e5a8c727d1b3c84edcb38f5587a8e2fc1590ead61", func := "sealskin/sealskinlaw11.LinesNobody", spec := "linesNobody", unfollowed := true, recurses := true, named := ["unicode/utf8.first", "unicode/utf8.acceptRanges"], plainKeys := false, apart := false, laid := [("unicode/utf8.acceptRanges", laid_unicode_utf8_acceptRanges), ("unicode/utf8.first", laid_unicode_utf8_first)], narrowed := true }
def LinesNobodyUptoSaid : Prop := linesNobodyUptoRow.holds Tryd.pinned (OpenSpec.upto linesNobodySpec)

/-- 'sealskinlaw11.LinesWhole', WHERE WHAT IT READS IS OF BULK AT MOST 1048576: true; the input reads as it did. -/
def linesWholeUptoRow : OpenClaim := { program := "ytpomdenbgdgbhaadoor", sum := "4ecec1031f7ef87c4330743e5a8c727d1b3c84edcb38f5587a8e2fc1590ead61", func := "sealskin/sealskinlaw11.LinesWhole", spec := "linesWhole", inPlace := ["internal/bytealg.IndexByteString", "internal/bytealg.IndexString", "internal/abi.NoEscape", "internal/bytealg.MakeNoZero"], unfollowed := true, recurses := true, named := ["unicode/utf8.first", "unicode/utf8.acceptRanges", "internal/bytealg.MaxLen"], plainKeys := false, apart := false, laid := [("unicode/utf8.acceptRanges", laid_unicode_utf8_acceptRanges), ("unicode/utf8.first", laid_unicode_utf8_first)], narrowed := true }
def LinesWholeUptoSaid : Prop := linesWholeUptoRow.holds Tryd.pinned (OpenSpec.upto linesWholeSpec)

/-- 'sealskinlaw11.LinesSwaps', WHERE WHAT IT READS IS OF BULK AT MOST 1048576: true; the input reads as it did. -/
def linesSwapsUptoRow : OpenClaim := { program := "ytpomdenbgdgbhaadoor", sum := "4ecec1031f7ef87c4330743e5a8c727d1b3c84edcb38f5587a8e2fc1590ead61", func := "sealskin/sealskinlaw11.LinesSwaps", spec := "linesSwaps", inPlace := ["internal/bytealg.CountString", "internal/bytealg.IndexByteString", "internal/bytealg.IndexString", "internal/abi.NoEscape", "internal/bytealg.MakeNoZero"], unfollowed := true, recurses := true, named := ["unicode/utf8.first", "unicode/utf8.acceptRanges", "internal/bytealg.MaxLen"], plainKeys := false, apart := false, laid := [("unicode/utf8.acceptRanges", laid_unicode_utf8_acceptRanges), ("unicode/utf8.first", laid_unicode_utf8_first)], narrowed := true }
def LinesSwapsUptoSaid : Prop := linesSwapsUptoRow.holds Tryd.pinned (OpenSpec.upto linesSwapsSpec)

/-- 'sealskinlaw12.MatchFinds', WHERE WHAT IT READS IS OF BULK AT MOST 1048576: true; the input reads as it did. -/
def matchFindsUptoRow : OpenClaim := { program := "ytpomdenbgdgbhaadoor", sum := "4ecec1031f7ef87c4330743e5a8c727d1b3c84edcb38f5587a8e2fc1590ead61", func := "sealskin/sealskinlaw12.MatchFinds", spec := "matchFinds", unfollowed := true, recurses := true, named := ["unicode/utf8.first", "unicode/utf8.acceptRanges"], plainKeys := false, apart := false, laid := [("unicode/utf8.acceptRanges", laid_unicode_utf8_acceptRanges), ("unicode/utf8.first", laid_unicode_utf8_first)], narrowed := true }
def MatchFindsUptoSaid : Prop := matchFindsUptoRow.holds Tryd.pinned (OpenSpec.upto matchFindsSpec)

/-- 'sealskinlaw12.MatchSwaps', WHERE WHAT IT READS IS OF BULK AT MOST 1048576: true; the input reads as it did. -/
def matchSwapsUptoRow : OpenClaim := { program := "ytpomdenbgdgbhaadoor", sum := "4ecec1031f7ef87c4330743e5a8c727d1b3c84edcb38f5587a8e2fc1590ead61", func := "sealskin/sealskinlaw12.MatchSwaps", spec := "matchSwaps", unfollowed := true, recurses := true, named := ["unicode/utf8.first", "unicode/utf8.acceptRanges"], plainKeys := false, apart := false, laid := [("unicode/utf8.acceptRanges", laid_unicode_utf8_acceptRanges), ("unicode/utf8.first", laid_unicode_utf8_first)], narrowed := true }
def MatchSwapsUptoSaid : Prop := matchSwapsUptoRow.holds Tryd.pinned (OpenSpec.upto matchSwapsSpec)

/-- 'sealskinlaw12.MatchSame', WHERE WHAT IT READS IS OF BULK AT MOST 1048576: true; the input reads as it did. -/
def matchSameUptoRow : OpenClaim := { program := "ytpomdenbgdgbhaadoor", sum := "4ecec1031f7ef87c4330743e5a8c727d1b3c84edcb38f5587a8e2fc1590ead61", func := "sealskin/sealskinlaw12.MatchSame", spec := "matchSame", unfollowed := true, recurses := true, named := ["unicode/utf8.first", "unicode/utf8.acceptRanges"], plainKeys := false, apart := false, laid := [("unicode/utf8.acceptRanges", laid_unicode_utf8_acceptRanges), ("unicode/utf8.first", laid_unicode_utf8_first)], narrowed := true }
def MatchSameUptoSaid : Prop := matchSameUptoRow.holds Tryd.pinned (OpenSpec.upto matchSameSpec)

/-- 'sealskinlaw12.MatchCompiles', WHERE WHAT IT READS IS OF BULK AT MOST 1048576: true; the input reads as it did. -/
def matchCompilesUptoRow : OpenClaim := { program := "ytpomdenbgdgbhaadoor", sum := "4ecec1031f7ef87c4330743e5a8c727d1b3c84edcb38f5587a8e2fc1590ead61", func := "sealskin/sealskinlaw12.MatchCompiles", spec := "matchCompiles", unfollowed := true, recurses := true, named := ["unicode/utf8.first", "unicode/utf8.acceptRanges"], plainKeys := false, apart := false, laid := [("unicode/utf8.acceptRanges", laid_unicode_utf8_acceptRanges), ("unicode/utf8.first", laid_unicode_utf8_first)], narrowed := true }
def MatchCompilesUptoSaid : Prop := matchCompilesUptoRow.holds Tryd.pinned (OpenSpec.upto matchCompilesSpec)

/-- 'sealskinlaw12.MatchNobody', WHERE WHAT IT READS IS OF BULK AT MOST 1048576: true; the input reads as it did. -/
def matchNobodyUptoRow : OpenClaim := { program := "ytpomdenbgdgbhaadoor", sum := "4ecec1031f7ef87c4330743e5a8c727d1b3c84edcb38f5587a8e2fc1590ead61", func := "sealskin/sealskinlaw12.MatchNobody", spec := "matchNobody", unfollowed := true, recurses := true, named := ["unicode/utf8.first", "unicode/utf8.acceptRanges"], plainKeys := false, apart := false, laid := [("unicode/utf8.acceptRanges", laid_unicode_utf8_acceptRanges), ("unicode/utf8.first", laid_unicode_utf8_first)], narrowed := true }
def MatchNobodyUptoSaid : Prop := matchNobodyUptoRow.holds Tryd.pinned (OpenSpec.upto matchNobodySpec)

/-- 'sealskinlaw12.MatchAll', WHERE WHAT IT READS IS OF BULK AT MOST 1048576: true; the input reads as it did. -/
def matchAllUptoRow : OpenClaim := { program := "ytpomdenbgdgbhaadoor", sum := "4ecec1031f7ef87c4330743e5a8c727d1b3c84edcb38f5587a8e2fc1590ead61", func := "sealskin/sealskinlaw12.MatchAll", spec := "matchAll", unfollowed := true, recurses := true, named := ["unicode/utf8.first", "unicode/utf8.acceptRanges"], plainKeys := false, apart := false, laid := [("unicode/utf8.acceptRanges", laid_unicode_utf8_acceptRanges), ("unicode/utf8.first", laid_unicode_utf8_first)], narrowed := true }
def MatchAllUptoSaid : Prop := matchAllUptoRow.holds Tryd.pinned (OpenSpec.upto matchAllSpec)

end Rows
end Go.Proofs.YtpomdenbgdgbhaaDoor
