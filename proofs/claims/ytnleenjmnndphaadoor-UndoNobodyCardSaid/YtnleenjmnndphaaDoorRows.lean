/-
  NARROWER THAN 'FOR EVERY INPUT', by the rows' own cells (each row's printed sentence says how): DiffDiffs: laid · DiffOne: laid · DiffLeads: laid · DiffShort: laid · DiffLong: laid · DiffKept: laid · DiffEither: laid · UndoBack: laid · UndoOthers: laid · UndoAll: laid · UndoFits: laid · UndoMost: laid · UndoPlays: laid · UndoNobody: laid.
  DERIVED. THE GIVEN ROWS OF THIS SEAT. 14 by the template 'for every input the law returns true; each argument reads behind the call as it read before'; 0 by the template 'total and deterministic' (their statements: YtnleenjmnndphaaDoorTotals.lean).
  GIVEN WITH THE SEED: the statements are not yours to turn. If you find one false, say at which input.
  Laid BY PROGRAM, IN A SANDBOX (cutbox-rows.mjs): the forced cells as the released guide's own fill.sh prints them over the translation 5d8597af493ef76e… (all of the seat's roots in one cut). By AI agents, Wed Nov 11 2026. No macro, syntax, notation, axiom, sorry.
-/
import Derived.Test.YtnleenjmnndphaaDoorChecked
import GoSem.PinnedTables
import GoSem.Claim
import GoSem.ClaimJoined
import GoSem.ClaimMapViews
import Derived.JoinedTies
import Derived.KernelRfl
namespace Go.Proofs.YtnleenjmnndphaaDoor
/- THE CELL 'sum', in the pinned program and in every row, IS THE sha256 OF THE DUMP (.gsa) THAT YtnleenjmnndphaaDoorProg.lean LOADS. Nothing in Lean hashes anything: it is a label: what it is worth is what the hold of that sum in a sandbox is worth. -/
noncomputable def Tryd.pinned : Pinned := { name := "ytnleenjmnndphaadoor", sum := "5d8597af493ef76e0cc6592920ac964e6e1a2dff474312bafd00a266bce9da9a", checked := Tryd.checked }
namespace Rows
def none {H : Type} : Left H := { results := [], args := [] }

/- WHAT THE LISTED PACKAGE-LEVEL VARIABLES READ AS WHEN THE CALL BEGINS. Each datum BY PROGRAM (the guide's laid-datum.mjs) off the statement by which the dump's own 'gosem.cut.vars' lays the variable. In a bare row this is a premise. The card (YtnleenjmnndphaaDoorCards.lean) ties it to the program's text. -/
def laid_unicode_utf8_acceptRanges {H : Type} : DataW H := .agg [.agg [.lit (.int .u8 128), .lit (.int .u8 191)], .agg [.lit (.int .u8 160), .lit (.int .u8 191)], .agg [.lit (.int .u8 128), .lit (.int .u8 159)], .agg [.lit (.int .u8 144), .lit (.int .u8 191)], .agg [.lit (.int .u8 128), .lit (.int .u8 143)], .agg [.lit (.int .u8 0), .lit (.int .u8 0)], .agg [.lit (.int .u8 0), .lit (.int .u8 0)], .agg [.lit (.int .u8 0), .lit (.int .u8 0)], .agg [.lit (.int .u8 0), .lit (.int .u8 0)], .agg [.lit (.int .u8 0), .lit (.int .u8 0)], .agg [.lit (.int .u8 0), .lit (.int .u8 0)], .agg [.lit (.int .u8 0), .lit (.int .u8 0)], .agg [.lit (.int .u8 0), .lit (.int .u8 0)], .agg [.lit (.int .u8 0), .lit (.int .u8 0)], .agg [.lit (.int .u8 0), .lit (.int .u8 0)], .agg [.lit (.int .u8 0), .lit (.int .u8 0)]]
/-- One of Go's own tables, pinned by name: the form's constant. -/
def laid_unicode_utf8_first : DataW Unit := Go.Pinned.utf8First

/-- 'sealskinlaw10.DiffDiffs': WHATEVER THE INPUT: true; the input reads as it did. -/
def diffDiffsSpec : ChangeSpec := { name := "diffDiffs", fn := fun _ => fun
  | [d1, d2] => { results := [.lit (.bool true)], args := [d1, d2] }
  | _ => none }
def diffDiffsRow : OpenClaim := { program := "ytnleenjmnndphaadoor", sum := "5d8597af493ef76e0cc6592920ac964e6e1a2dff474312bafd00a266bce9da9a", func := "sealskin/sealskinlaw10.DiffDiffs", spec := "diffDiffs", unfollowed := true, recurses := true, named := ["unicode/utf8.first", "unicode/utf8.acceptRanges"], apart := false, laid := [("unicode/utf8.acceptRanges", laid_unicode_utf8_acceptRanges), ("unicode/utf8.first", laid_unicode_utf8_first)] }
def DiffDiffsSaid : Prop := diffDiffsRow.holds Tryd.pinned (OpenSpec.ofChange diffDiffsSpec)

/-- ITS FALSE NEIGHBOUR: 'it returns false'. Refute it at one input. -/
def diffDiffsWrong : ChangeSpec := { name := "diffDiffs", fn := fun _ => fun
  | [d1, d2] => { results := [.lit (.bool false)], args := [d1, d2] }
  | _ => none }
def DiffDiffsWrongFalsely : Prop := diffDiffsRow.holds Tryd.pinned (OpenSpec.ofChange diffDiffsWrong)

/-- 'sealskinlaw10.DiffOne': WHATEVER THE INPUT: true; the input reads as it did. -/
def diffOneSpec : ChangeSpec := { name := "diffOne", fn := fun _ => fun
  | [d1, d2] => { results := [.lit (.bool true)], args := [d1, d2] }
  | _ => none }
def diffOneRow : OpenClaim := { program := "ytnleenjmnndphaadoor", sum := "5d8597af493ef76e0cc6592920ac964e6e1a2dff474312bafd00a266bce9da9a", func := "sealskin/sealskinlaw10.DiffOne", spec := "diffOne", unfollowed := true, recurses := true, named := ["unicode/utf8.first", "unicode/utf8.acceptRanges"], apart := false, laid := [("unicode/utf8.acceptRanges", laid_unicode_utf8_acceptRanges), ("unicode/utf8.first", laid_unicode_utf8_first)] }
def DiffOneSaid : Prop := diffOneRow.holds Tryd.pinned (OpenSpec.ofChange diffOneSpec)

/-- ITS FALSE NEIGHBOUR: 'it returns false'. Refute it at one input. -/
def diffOneWrong : ChangeSpec := { name := "diffOne", fn := fun _ => fun
  | [d1, d2] => { results := [.lit (.bool false)], args := [d1, d2] }
  | _ => none }
def DiffOneWrongFalsely : Prop := diffOneRow.holds Tryd.pinned (OpenSpec.ofChange diffOneWrong)

/-- 'sealskinlaw10.DiffLeads': WHATEVER THE INPUT: true; the input reads as it did. -/
def diffLeadsSpec : ChangeSpec := { name := "diffLeads", fn := fun _ => fun
  | [d1, d2] => { results := [.lit (.bool true)], args := [d1, d2] }
  | _ => none }
def diffLeadsRow : OpenClaim := { program := "ytnleenjmnndphaadoor", sum := "5d8597af493ef76e0cc6592920ac964e6e1a2dff474312bafd00a266bce9da9a", func := "sealskin/sealskinlaw10.DiffLeads", spec := "diffLeads", unfollowed := true, recurses := true, named := ["unicode/utf8.first", "unicode/utf8.acceptRanges"], apart := false, laid := [("unicode/utf8.acceptRanges", laid_unicode_utf8_acceptRanges), ("unicode/utf8.first", laid_unicode_utf8_first)] }
def DiffLeadsSaid : Prop := diffLeadsRow.holds Tryd.pinned (OpenSpec.ofChange diffLeadsSpec)

/-- ITS FALSE NEIGHBOUR: 'it returns false'. Refute it at one input. -/
def diffLeadsWrong : ChangeSpec := { name := "diffLeads", fn := fun _ => fun
  | [d1, d2] => { results := [.lit (.bool false)], args := [d1, d2] }
  | _ => none }
def DiffLeadsWrongFalsely : Prop := diffLeadsRow.holds Tryd.pinned (OpenSpec.ofChange diffLeadsWrong)

/-- 'sealskinlaw10.DiffShort': WHATEVER THE INPUT: true; the input reads as it did. -/
def diffShortSpec : ChangeSpec := { name := "diffShort", fn := fun _ => fun
  | [d1, d2] => { results := [.lit (.bool true)], args := [d1, d2] }
  | _ => none }
def diffShortRow : OpenClaim := { program := "ytnleenjmnndphaadoor", sum := "5d8597af493ef76e0cc6592920ac964e6e1a2dff474312bafd00a266bce9da9a", func := "sealskin/sealskinlaw10.DiffShort", spec := "diffShort", unfollowed := true, recurses := true, named := ["unicode/utf8.first", "unicode/utf8.acceptRanges"], apart := false, laid := [("unicode/utf8.acceptRanges", laid_unicode_utf8_acceptRanges), ("unicode/utf8.first", laid_unicode_utf8_first)] }
def DiffShortSaid : Prop := diffShortRow.holds Tryd.pinned (OpenSpec.ofChange diffShortSpec)

/-- ITS FALSE NEIGHBOUR: 'it returns false'. Refute it at one input. -/
def diffShortWrong : ChangeSpec := { name := "diffShort", fn := fun _ => fun
  | [d1, d2] => { results := [.lit (.bool false)], args := [d1, d2] }
  | _ => none }
def DiffShortWrongFalsely : Prop := diffShortRow.holds Tryd.pinned (OpenSpec.ofChange diffShortWrong)

/-- 'sealskinlaw10.DiffLong': WHATEVER THE INPUT: true; the input reads as it did. -/
def diffLongSpec : ChangeSpec := { name := "diffLong", fn := fun _ => fun
  | [d1, d2, d3] => { results := [.lit (.bool true)], args := [d1, d2, d3] }
  | _ => none }
def diffLongRow : OpenClaim := { program := "ytnleenjmnndphaadoor", sum := "5d8597af493ef76e0cc6592920ac964e6e1a2dff474312bafd00a266bce9da9a", func := "sealskin/sealskinlaw10.DiffLong", spec := "diffLong", unfollowed := true, recurses := true, named := ["unicode/utf8.first", "unicode/utf8.acceptRanges"], apart := false, laid := [("unicode/utf8.acceptRanges", laid_unicode_utf8_acceptRanges), ("unicode/utf8.first", laid_unicode_utf8_first)] }
def DiffLongSaid : Prop := diffLongRow.holds Tryd.pinned (OpenSpec.ofChange diffLongSpec)

/-- ITS FALSE NEIGHBOUR: 'it returns false'. Refute it at one input. -/
def diffLongWrong : ChangeSpec := { name := "diffLong", fn := fun _ => fun
  | [d1, d2, d3] => { results := [.lit (.bool false)], args := [d1, d2, d3] }
  | _ => none }
def DiffLongWrongFalsely : Prop := diffLongRow.holds Tryd.pinned (OpenSpec.ofChange diffLongWrong)

/-- 'sealskinlaw10.DiffKept': WHATEVER THE INPUT: true; the input reads as it did. -/
def diffKeptSpec : ChangeSpec := { name := "diffKept", fn := fun _ => fun
  | [d1, d2] => { results := [.lit (.bool true)], args := [d1, d2] }
  | _ => none }
def diffKeptRow : OpenClaim := { program := "ytnleenjmnndphaadoor", sum := "5d8597af493ef76e0cc6592920ac964e6e1a2dff474312bafd00a266bce9da9a", func := "sealskin/sealskinlaw10.DiffKept", spec := "diffKept", unfollowed := true, recurses := true, named := ["unicode/utf8.first", "unicode/utf8.acceptRanges"], apart := false, laid := [("unicode/utf8.acceptRanges", laid_unicode_utf8_acceptRanges), ("unicode/utf8.first", laid_unicode_utf8_first)] }
def DiffKeptSaid : Prop := diffKeptRow.holds Tryd.pinned (OpenSpec.ofChange diffKeptSpec)

/-- ITS FALSE NEIGHBOUR: 'it returns false'. Refute it at one input. -/
def diffKeptWrong : ChangeSpec := { name := "diffKept", fn := fun _ => fun
  | [d1, d2] => { results := [.lit (.bool false)], args := [d1, d2] }
  | _ => none }
def DiffKeptWrongFalsely : Prop := diffKeptRow.holds Tryd.pinned (OpenSpec.ofChange diffKeptWrong)

/-- 'sealskinlaw10.DiffEither': WHATEVER THE INPUT: true; the input reads as it did. -/
def diffEitherSpec : ChangeSpec := { name := "diffEither", fn := fun _ => fun
  | [d1, d2, d3] => { results := [.lit (.bool true)], args := [d1, d2, d3] }
  | _ => none }
def diffEitherRow : OpenClaim := { program := "ytnleenjmnndphaadoor", sum := "5d8597af493ef76e0cc6592920ac964e6e1a2dff474312bafd00a266bce9da9a", func := "sealskin/sealskinlaw10.DiffEither", spec := "diffEither", unfollowed := true, recurses := true, named := ["unicode/utf8.first", "unicode/utf8.acceptRanges"], apart := false, laid := [("unicode/utf8.acceptRanges", laid_unicode_utf8_acceptRanges), ("unicode/utf8.first", laid_unicode_utf8_first)] }
def DiffEitherSaid : Prop := diffEitherRow.holds Tryd.pinned (OpenSpec.ofChange diffEitherSpec)

/-- ITS FALSE NEIGHBOUR: 'it returns false'. Refute it at one input. -/
def diffEitherWrong : ChangeSpec := { name := "diffEither", fn := fun _ => fun
  | [d1, d2, d3] => { results := [.lit (.bool false)], args := [d1, d2, d3] }
  | _ => none }
def DiffEitherWrongFalsely : Prop := diffEitherRow.holds Tryd.pinned (OpenSpec.ofChange diffEitherWrong)

/-- 'sealskinlaw17.UndoBack': WHATEVER THE INPUT: true; the input reads as it did. -/
def undoBackSpec : ChangeSpec := { name := "undoBack", fn := fun _ => fun
  | [d1, d2, d3] => { results := [.lit (.bool true)], args := [d1, d2, d3] }
  | _ => none }
def undoBackRow : OpenClaim := { program := "ytnleenjmnndphaadoor", sum := "5d8597af493ef76e0cc6592920ac964e6e1a2dff474312bafd00a266bce9da9a", func := "sealskin/sealskinlaw17.UndoBack", spec := "undoBack", recurses := true, named := ["unicode/utf8.first", "unicode/utf8.acceptRanges"], apart := false, laid := [("unicode/utf8.acceptRanges", laid_unicode_utf8_acceptRanges), ("unicode/utf8.first", laid_unicode_utf8_first)] }
def UndoBackSaid : Prop := undoBackRow.holds Tryd.pinned (OpenSpec.ofChange undoBackSpec)

/-- ITS FALSE NEIGHBOUR: 'it returns false'. Refute it at one input. -/
def undoBackWrong : ChangeSpec := { name := "undoBack", fn := fun _ => fun
  | [d1, d2, d3] => { results := [.lit (.bool false)], args := [d1, d2, d3] }
  | _ => none }
def UndoBackWrongFalsely : Prop := undoBackRow.holds Tryd.pinned (OpenSpec.ofChange undoBackWrong)

/-- 'sealskinlaw17.UndoOthers': WHATEVER THE INPUT: true; the input reads as it did. -/
def undoOthersSpec : ChangeSpec := { name := "undoOthers", fn := fun _ => fun
  | [d1, d2, d3] => { results := [.lit (.bool true)], args := [d1, d2, d3] }
  | _ => none }
def undoOthersRow : OpenClaim := { program := "ytnleenjmnndphaadoor", sum := "5d8597af493ef76e0cc6592920ac964e6e1a2dff474312bafd00a266bce9da9a", func := "sealskin/sealskinlaw17.UndoOthers", spec := "undoOthers", recurses := true, named := ["unicode/utf8.first", "unicode/utf8.acceptRanges"], apart := false, laid := [("unicode/utf8.acceptRanges", laid_unicode_utf8_acceptRanges), ("unicode/utf8.first", laid_unicode_utf8_first)] }
def UndoOthersSaid : Prop := undoOthersRow.holds Tryd.pinned (OpenSpec.ofChange undoOthersSpec)

/-- ITS FALSE NEIGHBOUR: 'it returns false'. Refute it at one input. -/
def undoOthersWrong : ChangeSpec := { name := "undoOthers", fn := fun _ => fun
  | [d1, d2, d3] => { results := [.lit (.bool false)], args := [d1, d2, d3] }
  | _ => none }
def UndoOthersWrongFalsely : Prop := undoOthersRow.holds Tryd.pinned (OpenSpec.ofChange undoOthersWrong)

/-- 'sealskinlaw17.UndoAll': WHATEVER THE INPUT: true; the input reads as it did. -/
def undoAllSpec : ChangeSpec := { name := "undoAll", fn := fun _ => fun
  | [d1, d2] => { results := [.lit (.bool true)], args := [d1, d2] }
  | _ => none }
def undoAllRow : OpenClaim := { program := "ytnleenjmnndphaadoor", sum := "5d8597af493ef76e0cc6592920ac964e6e1a2dff474312bafd00a266bce9da9a", func := "sealskin/sealskinlaw17.UndoAll", spec := "undoAll", recurses := true, named := ["unicode/utf8.first", "unicode/utf8.acceptRanges"], apart := false, laid := [("unicode/utf8.acceptRanges", laid_unicode_utf8_acceptRanges), ("unicode/utf8.first", laid_unicode_utf8_first)] }
def UndoAllSaid : Prop := undoAllRow.holds Tryd.pinned (OpenSpec.ofChange undoAllSpec)

/-- ITS FALSE NEIGHBOUR: 'it returns false'. Refute it at one input. -/
def undoAllWrong : ChangeSpec := { name := "undoAll", fn := fun _ => fun
  | [d1, d2] => { results := [.lit (.bool false)], args := [d1, d2] }
  | _ => none }
def UndoAllWrongFalsely : Prop := undoAllRow.holds Tryd.pinned (OpenSpec.ofChange undoAllWrong)

/-- 'sealskinlaw17.UndoFits': WHATEVER THE INPUT: true; the input reads as it did. -/
def undoFitsSpec : ChangeSpec := { name := "undoFits", fn := fun _ => fun
  | [d1, d2] => { results := [.lit (.bool true)], args := [d1, d2] }
  | _ => none }
def undoFitsRow : OpenClaim := { program := "ytnleenjmnndphaadoor", sum := "5d8597af493ef76e0cc6592920ac964e6e1a2dff474312bafd00a266bce9da9a", func := "sealskin/sealskinlaw17.UndoFits", spec := "undoFits", recurses := true, named := ["unicode/utf8.first", "unicode/utf8.acceptRanges"], apart := false, laid := [("unicode/utf8.acceptRanges", laid_unicode_utf8_acceptRanges), ("unicode/utf8.first", laid_unicode_utf8_first)] }
def UndoFitsSaid : Prop := undoFitsRow.holds Tryd.pinned (OpenSpec.ofChange undoFitsSpec)

/-- ITS FALSE NEIGHBOUR: 'it returns false'. Refute it at one input. -/
def undoFitsWrong : ChangeSpec := { name := "undoFits", fn := fun _ => fun
  | [d1, d2] => { results := [.lit (.bool false)], args := [d1, d2] }
  | _ => none }
def UndoFitsWrongFalsely : Prop := undoFitsRow.holds Tryd.pinned (OpenSpec.ofChange undoFitsWrong)

/-- 'sealskinlaw17.UndoMost': WHATEVER THE INPUT: true; the input reads as it did. -/
def undoMostSpec : ChangeSpec := { name := "undoMost", fn := fun _ => fun
  | [d] => { results := [.lit (.bool true)], args := [d] }
  | _ => none }
def undoMostRow : OpenClaim := { program := "ytnleenjmnndphaadoor", sum := "5d8597af493ef76e0cc6592920ac964e6e1a2dff474312bafd00a266bce9da9a", func := "sealskin/sealskinlaw17.UndoMost", spec := "undoMost", recurses := true, named := ["unicode/utf8.first", "unicode/utf8.acceptRanges"], apart := false, laid := [("unicode/utf8.acceptRanges", laid_unicode_utf8_acceptRanges), ("unicode/utf8.first", laid_unicode_utf8_first)] }
def UndoMostSaid : Prop := undoMostRow.holds Tryd.pinned (OpenSpec.ofChange undoMostSpec)

/-- ITS FALSE NEIGHBOUR: 'it returns false'. Refute it at one input. -/
def undoMostWrong : ChangeSpec := { name := "undoMost", fn := fun _ => fun
  | [d] => { results := [.lit (.bool false)], args := [d] }
  | _ => none }
def UndoMostWrongFalsely : Prop := undoMostRow.holds Tryd.pinned (OpenSpec.ofChange undoMostWrong)

/-- 'sealskinlaw17.UndoPlays': WHATEVER THE INPUT: true; the input reads as it did. -/
def undoPlaysSpec : ChangeSpec := { name := "undoPlays", fn := fun _ => fun
  | [d1, d2] => { results := [.lit (.bool true)], args := [d1, d2] }
  | _ => none }
def undoPlaysRow : OpenClaim := { program := "ytnleenjmnndphaadoor", sum := "5d8597af493ef76e0cc6592920ac964e6e1a2dff474312bafd00a266bce9da9a", func := "sealskin/sealskinlaw17.UndoPlays", spec := "undoPlays", recurses := true, named := ["unicode/utf8.first", "unicode/utf8.acceptRanges"], apart := false, laid := [("unicode/utf8.acceptRanges", laid_unicode_utf8_acceptRanges), ("unicode/utf8.first", laid_unicode_utf8_first)] }
def UndoPlaysSaid : Prop := undoPlaysRow.holds Tryd.pinned (OpenSpec.ofChange undoPlaysSpec)

/-- ITS FALSE NEIGHBOUR: 'it returns false'. Refute it at one input. -/
def undoPlaysWrong : ChangeSpec := { name := "undoPlays", fn := fun _ => fun
  | [d1, d2] => { results := [.lit (.bool false)], args := [d1, d2] }
  | _ => none }
def UndoPlaysWrongFalsely : Prop := undoPlaysRow.holds Tryd.pinned (OpenSpec.ofChange undoPlaysWrong)

/-- 'sealskinlaw17.UndoNobody': WHATEVER THE INPUT: true; the input reads as it did. -/
def undoNobodySpec : ChangeSpec := { name := "undoNobody", fn := fun _ => fun
  | [d1, d2, d3] => { results := [.lit (.bool true)], args := [d1, d2, d3] }
  | _ => none }
def undoNobodyRow : OpenClaim := { program := "ytnleenjmnndphaadoor", sum := "5d8597af493ef76e0cc6592920ac964e6e1a2dff474312bafd00a266bce9da9a", func := "sealskin/sealskinlaw17.UndoNobody", spec := "undoNobody", recurses := true, named := ["unicode/utf8.first", "unicode/utf8.acceptRanges"], apart := false, laid := [("unicode/utf8.acceptRanges", laid_unicode_utf8_acceptRanges), ("unicode/utf8.first", laid_unicode_utf8_first)] }
def UndoNobodySaid : Prop := undoNobodyRow.holds Tryd.pinned (OpenSpec.ofChange undoNobodySpec)

/-- ITS FALSE NEIGHBOUR: 'it returns false'. Refute it at one input. -/
def undoNobodyWrong : ChangeSpec := { name := "undoNobody", fn := fun _ => fun
  | [d1, d2, d3] => { results := [.lit (.bool false)], args := [d1, d2, d3] }
  | _ => none }
def UndoNobodyWrongFalsely : Prop := undoNobodyRow.holds Tryd.pinned (OpenSpec.ofChange undoNobodyWrong)

/- THE SECOND FORM. 'bulk': how many values and letters a reading holds, each counted each time it is reached (what is shared counts as often as it is met; a slice's spare places count too). A statement '..UptoSaid' is the law's where the arguments, and the package variables that the reading takes, are together of bulk at most 1048576: NARROWER than '..Said'. Prove '..Said' where nothing that the law and all that it calls make is longer than what came in: it says more and counts as full. Else prove '..UptoSaid'. A law counts once. -/
mutual
def uptoBulk {H : Type} : DataW H → Nat
  | .lit (.string bytes) => bytes.length + 1
  | .lit _ => 1
  | .nil => 1
  | .ptr d => uptoBulk d + 1
  | .slice elems spare => uptoBulkAll elems + uptoBulkAll spare + 1
  | .agg parts => uptoBulkAll parts + 1
  | .iface _ d => uptoBulk d + 1
  | .map entries => uptoBulkEntries entries + 1
  | .held _ => 1
def uptoBulkAll {H : Type} : List (DataW H) → Nat
  | [] => 0
  | d :: r => uptoBulk d + uptoBulkAll r
def uptoBulkEntries {H : Type} : List (Lit × DataW H) → Nat
  | [] => 0
  | x :: r => uptoBulkEntry x + uptoBulkEntries r
def uptoBulkEntry {H : Type} : Lit × DataW H → Nat
  | (.string bytes, d) => bytes.length + uptoBulk d + 1
  | (_, d) => uptoBulk d + 1
 end
def uptoSmall : (H : Type) → List (DataW H) → Bool := fun _ ds => decide (uptoBulkAll ds ≤ 1048576)
def OpenSpec.upto (s : _root_.Go.ChangeSpec) : _root_.Go.OpenSpec := { _root_.Go.OpenSpec.ofChange s with cond := some uptoSmall }

/-- 'sealskinlaw10.DiffDiffs', WHERE WHAT IT READS IS OF BULK AT MOST 1048576: true; the input reads as it did. -/
def diffDiffsUptoRow : OpenClaim := { program := "ytnleenjmnndphaadoor", sum := "5d8597af493ef76e0cc6592920ac964e6e1a2dff474312bafd00a266bce9da9a", func := "sealskin/sealskinlaw10.DiffDiffs", spec := "diffDiffs", unfollowed := true, recurses := true, named := ["unicode/utf8.first", "unicode/utf8.acceptRanges"], apart := false, laid := [("unicode/utf8.acceptRanges", laid_unicode_utf8_acceptRanges), ("unicode/utf8.first", laid_unicode_utf8_first)], narrowed := true }
def DiffDiffsUptoSaid : Prop := diffDiffsUptoRow.holds Tryd.pinned (OpenSpec.upto diffDiffsSpec)

/-- 'sealskinlaw10.DiffOne', WHERE WHAT IT READS IS OF BULK AT MOST 1048576: true; the input reads as it did. -/
def diffOneUptoRow : OpenClaim := { program := "ytnleenjmnndphaadoor", sum := "5d8597af493ef76e0cc6592920ac964e6e1a2dff474312bafd00a266bce9da9a", func := "sealskin/sealskinlaw10.DiffOne", spec := "diffOne", unfollowed := true, recurses := true, named := ["unicode/utf8.first", "unicode/utf8.acceptRanges"], apart := false, laid := [("unicode/utf8.acceptRanges", laid_unicode_utf8_acceptRanges), ("unicode/utf8.first", laid_unicode_utf8_first)], narrowed := true }
def DiffOneUptoSaid : Prop := diffOneUptoRow.holds Tryd.pinned (OpenSpec.upto diffOneSpec)

/-- 'sealskinlaw10.DiffLeads', WHERE WHAT IT READS IS OF BULK AT MOST 1048576: true; the input reads as it did. -/
def diffLeadsUptoRow : OpenClaim := { program := "ytnleenjmnndphaadoor", sum := "5d8597af493ef76e0cc6592920ac964e6e1a2dff474312bafd00a266bce9da9a", func := "sealskin/sealskinlaw10.DiffLeads", spec := "diffLeads", unfollowed := true, recurses := true, named := ["unicode/utf8.first", "unicode/utf8.acceptRanges"], apart := false, laid := [("unicode/utf8.acceptRanges", laid_unicode_utf8_acceptRanges), ("unicode/utf8.first", laid_unicode_utf8_first)], narrowed := true }
def DiffLeadsUptoSaid : Prop := diffLeadsUptoRow.holds Tryd.pinned (OpenSpec.upto diffLeadsSpec)

/-- 'sealskinlaw10.DiffShort', WHERE WHAT IT READS IS OF BULK AT MOST 1048576: true; the input reads as it did. -/
def diffShortUptoRow : OpenClaim := { program := "ytnleenjmnndphaadoor", sum := "5d8597af493ef76e0cc6592920ac964e6e1a2dff474312bafd00a266bce9da9a", func := "sealskin/sealskinlaw10.DiffShort", spec := "diffShort", unfollowed := true, recurses := true, named := ["unicode/utf8.first", "unicode/utf8.acceptRanges"], apart := false, laid := [("unicode/utf8.acceptRanges", laid_unicode_utf8_acceptRanges), ("unicode/utf8.first", laid_unicode_utf8_first)], narrowed := true }
def DiffShortUptoSaid : Prop := diffShortUptoRow.holds Tryd.pinned (OpenSpec.upto diffShortSpec)

/-- 'sealskinlaw10.DiffLong', WHERE WHAT IT READS IS OF BULK AT MOST 1048576: true; the input reads as it did. -/
def diffLongUptoRow : OpenClaim := { program := "ytnleenjmnndphaadoor", sum := "5d8597af493ef76e0cc6592920ac964e6e1a2dff474312bafd00a266bce9da9a", func := "sealskin/sealskinlaw10.DiffLong", spec := "diffLong", unfollowed := true, recurses := true, named := ["unicode/utf8.first", "unicode/utf8.acceptRanges"], apart := false, laid := [("unicode/utf8.acceptRanges", laid_unicode_utf8_acceptRanges), ("unicode/utf8.first", laid_unicode_utf8_first)], narrowed := true }
def DiffLongUptoSaid : Prop := diffLongUptoRow.holds Tryd.pinned (OpenSpec.upto diffLongSpec)

/-- 'sealskinlaw10.DiffKept', WHERE WHAT IT READS IS OF BULK AT MOST 1048576: true; the input reads as it did. -/
def diffKeptUptoRow : OpenClaim := { program := "ytnleenjmnndphaadoor", sum := "5d8597af493ef76e0cc6592920ac964e6e1a2dff474312bafd00a266bce9da9a", func := "sealskin/sealskinlaw10.DiffKept", spec := "diffKept", unfollowed := true, recurses := true, named := ["unicode/utf8.first", "unicode/utf8.acceptRanges"], apart := false, laid := [("unicode/utf8.acceptRanges", laid_unicode_utf8_acceptRanges), ("unicode/utf8.first", laid_unicode_utf8_first)], narrowed := true }
def DiffKeptUptoSaid : Prop := diffKeptUptoRow.holds Tryd.pinned (OpenSpec.upto diffKeptSpec)

/-- 'sealskinlaw10.DiffEither', WHERE WHAT IT READS IS OF BULK AT MOST 1048576: true; the input reads as it did. -/
def diffEitherUptoRow : OpenClaim := { program := "ytnleenjmnndphaadoor", sum := "5d8597af493ef76e0cc6592920ac964e6e1a2dff474312bafd00a266bce9da9a", func := "sealskin/sealskinlaw10.DiffEither", spec := "diffEither", unfollowed := true, recurses := true, named := ["unicode/utf8.first", "unicode/utf8.acceptRanges"], apart := false, laid := [("unicode/utf8.acceptRanges", laid_unicode_utf8_acceptRanges), ("unicode/utf8.first", laid_unicode_utf8_first)], narrowed := true }
def DiffEitherUptoSaid : Prop := diffEitherUptoRow.holds Tryd.pinned (OpenSpec.upto diffEitherSpec)

/-- 'sealskinlaw17.UndoBack', WHERE WHAT IT READS IS OF BULK AT MOST 1048576: true; the input reads as it did. -/
def undoBackUptoRow : OpenClaim := { program := "ytnleenjmnndphaadoor", sum := "5d8597af493ef76e0cc6592920ac964e6e1a2dff474312bafd00a266bce9da9a", func := "sealskin/sealskinlaw17.UndoBack", spec := "undoBack", recurses := true, named := ["unicode/utf8.first", "unicode/utf8.acceptRanges"], apart := false, laid := [("unicode/utf8.acceptRanges", laid_unicode_utf8_acceptRanges), ("unicode/utf8.first", laid_unicode_utf8_first)], narrowed := true }
def UndoBackUptoSaid : Prop := undoBackUptoRow.holds Tryd.pinned (OpenSpec.upto undoBackSpec)

/-- 'sealskinlaw17.UndoOthers', WHERE WHAT IT READS IS OF BULK AT MOST 1048576: true; the input reads as it did. -/
def undoOthersUptoRow : OpenClaim := { program := "ytnleenjmnndphaadoor", sum := "5d8597af493ef76e0cc6592920ac964e6e1a2dff474312bafd00a266bce9da9a", func := "sealskin/sealskinlaw17.UndoOthers", spec := "undoOthers", recurses := true, named := ["unicode/utf8.first", "unicode/utf8.acceptRanges"], apart := false, laid := [("unicode/utf8.acceptRanges", laid_unicode_utf8_acceptRanges), ("unicode/utf8.first", laid_unicode_utf8_first)], narrowed := true }
def UndoOthersUptoSaid : Prop := undoOthersUptoRow.holds Tryd.pinned (OpenSpec.upto undoOthersSpec)

/-- 'sealskinlaw17.UndoAll', WHERE WHAT IT READS IS OF BULK AT MOST 1048576: true; the input reads as it did. -/
def undoAllUptoRow : OpenClaim := { program := "ytnleenjmnndphaadoor", sum := "5d8597af493ef76e0cc6592920ac964e6e1a2dff474312bafd00a266bce9da9a", func := "sealskin/sealskinlaw17.UndoAll", spec := "undoAll", recurses := true, named := ["unicode/utf8.first", "unicode/utf8.acceptRanges"], apart := false, laid := [("unicode/utf8.acceptRanges", laid_unicode_utf8_acceptRanges), ("unicode/utf8.first", laid_unicode_utf8_first)], narrowed := true }
def UndoAllUptoSaid : Prop := undoAllUptoRow.holds Tryd.pinned (OpenSpec.upto undoAllSpec)

/-- 'sealskinlaw17.UndoFits', WHERE WHAT IT READS IS OF BULK AT MOST 1048576: true; the input reads as it did. -/
def undoFitsUptoRow : OpenClaim := { program := "ytnleenjmnndphaadoor", sum := "5d8597af493ef76e0cc6592920ac964e6e1a2dff474312bafd00a266bce9da9a", func := "sealskin/sealskinlaw17.UndoFits", spec := "undoFits", recurses := true, named := ["unicode/utf8.first", "unicode/utf8.acceptRanges"], apart := false, laid := [("unicode/utf8.acceptRanges", laid_unicode_utf8_acceptRanges), ("unicode/utf8.first", laid_unicode_utf8_first)], narrowed := true }
def UndoFitsUptoSaid : Prop := undoFitsUptoRow.holds Tryd.pinned (OpenSpec.upto undoFitsSpec)

/-- 'sealskinlaw17.UndoMost', WHERE WHAT IT READS IS OF BULK AT MOST 1048576: true; the input reads as it did. -/
def undoMostUptoRow : OpenClaim := { program := "ytnleenjmnndphaadoor", sum := "5d8597af493ef76e0cc6592920ac964e6e1a2dff474312bafd00a266bce9da9a", func := "sealskin/sealskinlaw17.UndoMost", spec := "undoMost", recurses := true, named := ["unicode/utf8.first", "unicode/utf8.acceptRanges"], apart := false, laid := [("unicode/utf8.acceptRanges", laid_unicode_utf8_acceptRanges), ("unicode/utf8.first", laid_unicode_utf8_first)], narrowed := true }
def UndoMostUptoSaid : Prop := undoMostUptoRow.holds Tryd.pinned (OpenSpec.upto undoMostSpec)

/-- 'sealskinlaw17.UndoPlays', WHERE WHAT IT READS IS OF BULK AT MOST 1048576: true; the input reads as it did. -/
def undoPlaysUptoRow : OpenClaim := { program := "ytnleenjmnndphaadoor", sum := "5d8597af493ef76e0cc6592920ac964e6e1a2dff474312bafd00a266bce9da9a", func := "sealskin/sealskinlaw17.UndoPlays", spec := "undoPlays", recurses := true, named := ["unicode/utf8.first", "unicode/utf8.acceptRanges"], apart := false, laid := [("unicode/utf8.acceptRanges", laid_unicode_utf8_acceptRanges), ("unicode/utf8.first", laid_unicode_utf8_first)], narrowed := true }
def UndoPlaysUptoSaid : Prop := undoPlaysUptoRow.holds Tryd.pinned (OpenSpec.upto undoPlaysSpec)

/-- 'sealskinlaw17.UndoNobody', WHERE WHAT IT READS IS OF BULK AT MOST 1048576: true; the input reads as it did. -/
def undoNobodyUptoRow : OpenClaim := { program := "ytnleenjmnndphaadoor", sum := "5d8597af493ef76e0cc6592920ac964e6e1a2dff474312bafd00a266bce9da9a", func := "sealskin/sealskinlaw17.UndoNobody", spec := "undoNobody", recurses := true, named := ["unicode/utf8.first", "unicode/utf8.acceptRanges"], apart := false, laid := [("unicode/utf8.acceptRanges", laid_unicode_utf8_acceptRanges), ("unicode/utf8.first", laid_unicode_utf8_first)], narrowed := true }
def UndoNobodyUptoSaid : Prop := undoNobodyUptoRow.holds Tryd.pinned (OpenSpec.upto undoNobodySpec)

end Rows
end Go.Proofs.YtnleenjmnndphaaDoor
