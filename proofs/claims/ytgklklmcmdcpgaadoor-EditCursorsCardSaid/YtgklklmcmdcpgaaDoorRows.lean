/-
  NARROWER THAN 'FOR EVERY INPUT', by the rows' own cells (each row's printed sentence says how): EditReplaces: laid · EditChecks: laid · EditWeighs: laid · EditApplies: laid · EditCursors: laid · EditBack: laid · EditNorms: laid · EditComposes: laid · EditDiamond: laid · EditSquare: laid · EditRow: laid · EditAnyWay: laid · EditOrder: laid · EditNothing: laid · EditForm: laid · EditThrough: laid · EditGo: laid.
  DERIVED. THE GIVEN ROWS OF THIS SEAT. 17 by the template 'for every input the law returns true; each argument reads behind the call as it read before'; 0 by the template 'total and deterministic' (their statements: YtgklklmcmdcpgaaDoorTotals.lean).
  GIVEN WITH THE SEED: the statements are not yours to turn. If you find one false, say at which input.
  Laid BY PROGRAM, IN A SANDBOX (cutbox-rows.mjs): the forced cells as the released guide's own fill.sh prints them over the translation ccc1e990f88cdd3e… (all of the seat's roots in one cut). By AI agents, Wed Nov 11 2026. No macro, syntax, notation, axiom, sorry.
-/
import Derived.Test.YtgklklmcmdcpgaaDoorChecked
import GoSem.PinnedTables
import GoSem.Claim
import GoSem.ClaimJoined
import GoSem.ClaimMapViews
import Derived.JoinedTies
import Derived.KernelRfl
namespace Go.Proofs.YtgklklmcmdcpgaaDoor
/- THE CELL 'sum', in the pinned program and in every row, IS THE sha256 OF THE DUMP (.gsa) THAT YtgklklmcmdcpgaaDoorProg.lean LOADS. Nothing in Lean hashes anything: it is a label: what it is worth is what the hold of that sum in a sandbox is worth. -/
noncomputable def Tryd.pinned : Pinned := { name := "ytgklklmcmdcpgaadoor", sum := "ccc1e990f88cdd3e00114e37dd8578e8a63e96ec28c38a54823dbbe86c2ba6bf", checked := Tryd.checked }
namespace Rows
def none {H : Type} : Left H := { results := [], args := [] }

/- WHAT THE LISTED PACKAGE-LEVEL VARIABLES READ AS WHEN THE CALL BEGINS. Each datum BY PROGRAM (the guide's laid-datum.mjs) off the statement by which the dump's own 'gosem.cut.vars' lays the variable. In a bare row this is a premise. The card (YtgklklmcmdcpgaaDoorCards.lean) ties it to the program's text. -/
def laid_unicode_utf8_acceptRanges {H : Type} : DataW H := .agg [.agg [.lit (.int .u8 128), .lit (.int .u8 191)], .agg [.lit (.int .u8 160), .lit (.int .u8 191)], .agg [.lit (.int .u8 128), .lit (.int .u8 159)], .agg [.lit (.int .u8 144), .lit (.int .u8 191)], .agg [.lit (.int .u8 128), .lit (.int .u8 143)], .agg [.lit (.int .u8 0), .lit (.int .u8 0)], .agg [.lit (.int .u8 0), .lit (.int .u8 0)], .agg [.lit (.int .u8 0), .lit (.int .u8 0)], .agg [.lit (.int .u8 0), .lit (.int .u8 0)], .agg [.lit (.int .u8 0), .lit (.int .u8 0)], .agg [.lit (.int .u8 0), .lit (.int .u8 0)], .agg [.lit (.int .u8 0), .lit (.int .u8 0)], .agg [.lit (.int .u8 0), .lit (.int .u8 0)], .agg [.lit (.int .u8 0), .lit (.int .u8 0)], .agg [.lit (.int .u8 0), .lit (.int .u8 0)], .agg [.lit (.int .u8 0), .lit (.int .u8 0)]]
/-- One of Go's own tables, pinned by name: the form's constant. -/
def laid_unicode_utf8_first : DataW Unit := Go.Pinned.utf8First

/-- 'sealskinlaw03.EditReplaces': WHATEVER THE INPUT: true; the input reads as it did. -/
def editReplacesSpec : ChangeSpec := { name := "editReplaces", fn := fun _ => fun
  | [d1, d2, d3, d4] => { results := [.lit (.bool true)], args := [d1, d2, d3, d4] }
  | _ => none }
def editReplacesRow : OpenClaim := { program := "ytgklklmcmdcpgaadoor", sum := "ccc1e990f88cdd3e00114e37dd8578e8a63e96ec28c38a54823dbbe86c2ba6bf", func := "sealskin/sealskinlaw03.EditReplaces", spec := "editReplaces", recurses := true, named := ["unicode/utf8.first", "unicode/utf8.acceptRanges"], apart := false, laid := [("unicode/utf8.acceptRanges", laid_unicode_utf8_acceptRanges), ("unicode/utf8.first", laid_unicode_utf8_first)] }
def EditReplacesSaid : Prop := editReplacesRow.holds Tryd.pinned (OpenSpec.ofChange editReplacesSpec)

/-- ITS FALSE NEIGHBOUR: 'it returns false'. Refute it at one input. -/
def editReplacesWrong : ChangeSpec := { name := "editReplaces", fn := fun _ => fun
  | [d1, d2, d3, d4] => { results := [.lit (.bool false)], args := [d1, d2, d3, d4] }
  | _ => none }
def EditReplacesWrongFalsely : Prop := editReplacesRow.holds Tryd.pinned (OpenSpec.ofChange editReplacesWrong)

/-- 'sealskinlaw03.EditChecks': WHATEVER THE INPUT: true; the input reads as it did. -/
def editChecksSpec : ChangeSpec := { name := "editChecks", fn := fun _ => fun
  | [d1, d2] => { results := [.lit (.bool true)], args := [d1, d2] }
  | _ => none }
def editChecksRow : OpenClaim := { program := "ytgklklmcmdcpgaadoor", sum := "ccc1e990f88cdd3e00114e37dd8578e8a63e96ec28c38a54823dbbe86c2ba6bf", func := "sealskin/sealskinlaw03.EditChecks", spec := "editChecks", recurses := true, named := ["unicode/utf8.first", "unicode/utf8.acceptRanges"], apart := false, laid := [("unicode/utf8.acceptRanges", laid_unicode_utf8_acceptRanges), ("unicode/utf8.first", laid_unicode_utf8_first)] }
def EditChecksSaid : Prop := editChecksRow.holds Tryd.pinned (OpenSpec.ofChange editChecksSpec)

/-- ITS FALSE NEIGHBOUR: 'it returns false'. Refute it at one input. -/
def editChecksWrong : ChangeSpec := { name := "editChecks", fn := fun _ => fun
  | [d1, d2] => { results := [.lit (.bool false)], args := [d1, d2] }
  | _ => none }
def EditChecksWrongFalsely : Prop := editChecksRow.holds Tryd.pinned (OpenSpec.ofChange editChecksWrong)

/-- 'sealskinlaw03.EditWeighs': WHATEVER THE INPUT: true; the input reads as it did. -/
def editWeighsSpec : ChangeSpec := { name := "editWeighs", fn := fun _ => fun
  | [d] => { results := [.lit (.bool true)], args := [d] }
  | _ => none }
def editWeighsRow : OpenClaim := { program := "ytgklklmcmdcpgaadoor", sum := "ccc1e990f88cdd3e00114e37dd8578e8a63e96ec28c38a54823dbbe86c2ba6bf", func := "sealskin/sealskinlaw03.EditWeighs", spec := "editWeighs", recurses := true, named := ["unicode/utf8.first", "unicode/utf8.acceptRanges"], apart := false, laid := [("unicode/utf8.acceptRanges", laid_unicode_utf8_acceptRanges), ("unicode/utf8.first", laid_unicode_utf8_first)] }
def EditWeighsSaid : Prop := editWeighsRow.holds Tryd.pinned (OpenSpec.ofChange editWeighsSpec)

/-- ITS FALSE NEIGHBOUR: 'it returns false'. Refute it at one input. -/
def editWeighsWrong : ChangeSpec := { name := "editWeighs", fn := fun _ => fun
  | [d] => { results := [.lit (.bool false)], args := [d] }
  | _ => none }
def EditWeighsWrongFalsely : Prop := editWeighsRow.holds Tryd.pinned (OpenSpec.ofChange editWeighsWrong)

/-- 'sealskinlaw03.EditApplies': WHATEVER THE INPUT: true; the input reads as it did. -/
def editAppliesSpec : ChangeSpec := { name := "editApplies", fn := fun _ => fun
  | [d1, d2] => { results := [.lit (.bool true)], args := [d1, d2] }
  | _ => none }
def editAppliesRow : OpenClaim := { program := "ytgklklmcmdcpgaadoor", sum := "ccc1e990f88cdd3e00114e37dd8578e8a63e96ec28c38a54823dbbe86c2ba6bf", func := "sealskin/sealskinlaw03.EditApplies", spec := "editApplies", recurses := true, named := ["unicode/utf8.first", "unicode/utf8.acceptRanges"], apart := false, laid := [("unicode/utf8.acceptRanges", laid_unicode_utf8_acceptRanges), ("unicode/utf8.first", laid_unicode_utf8_first)] }
def EditAppliesSaid : Prop := editAppliesRow.holds Tryd.pinned (OpenSpec.ofChange editAppliesSpec)

/-- ITS FALSE NEIGHBOUR: 'it returns false'. Refute it at one input. -/
def editAppliesWrong : ChangeSpec := { name := "editApplies", fn := fun _ => fun
  | [d1, d2] => { results := [.lit (.bool false)], args := [d1, d2] }
  | _ => none }
def EditAppliesWrongFalsely : Prop := editAppliesRow.holds Tryd.pinned (OpenSpec.ofChange editAppliesWrong)

/-- 'sealskinlaw03.EditCursors': WHATEVER THE INPUT: true; the input reads as it did. -/
def editCursorsSpec : ChangeSpec := { name := "editCursors", fn := fun _ => fun
  | [d1, d2, d3] => { results := [.lit (.bool true)], args := [d1, d2, d3] }
  | _ => none }
def editCursorsRow : OpenClaim := { program := "ytgklklmcmdcpgaadoor", sum := "ccc1e990f88cdd3e00114e37dd8578e8a63e96ec28c38a54823dbbe86c2ba6bf", func := "sealskin/sealskinlaw03.EditCursors", spec := "editCursors", recurses := true, named := ["unicode/utf8.first", "unicode/utf8.acceptRanges"], apart := false, laid := [("unicode/utf8.acceptRanges", laid_unicode_utf8_acceptRanges), ("unicode/utf8.first", laid_unicode_utf8_first)] }
def EditCursorsSaid : Prop := editCursorsRow.holds Tryd.pinned (OpenSpec.ofChange editCursorsSpec)

/-- ITS FALSE NEIGHBOUR: 'it returns false'. Refute it at one input. -/
def editCursorsWrong : ChangeSpec := { name := "editCursors", fn := fun _ => fun
  | [d1, d2, d3] => { results := [.lit (.bool false)], args := [d1, d2, d3] }
  | _ => none }
def EditCursorsWrongFalsely : Prop := editCursorsRow.holds Tryd.pinned (OpenSpec.ofChange editCursorsWrong)

/-- 'sealskinlaw03.EditBack': WHATEVER THE INPUT: true; the input reads as it did. -/
def editBackSpec : ChangeSpec := { name := "editBack", fn := fun _ => fun
  | [d1, d2] => { results := [.lit (.bool true)], args := [d1, d2] }
  | _ => none }
def editBackRow : OpenClaim := { program := "ytgklklmcmdcpgaadoor", sum := "ccc1e990f88cdd3e00114e37dd8578e8a63e96ec28c38a54823dbbe86c2ba6bf", func := "sealskin/sealskinlaw03.EditBack", spec := "editBack", recurses := true, named := ["unicode/utf8.first", "unicode/utf8.acceptRanges"], apart := false, laid := [("unicode/utf8.acceptRanges", laid_unicode_utf8_acceptRanges), ("unicode/utf8.first", laid_unicode_utf8_first)] }
def EditBackSaid : Prop := editBackRow.holds Tryd.pinned (OpenSpec.ofChange editBackSpec)

/-- ITS FALSE NEIGHBOUR: 'it returns false'. Refute it at one input. -/
def editBackWrong : ChangeSpec := { name := "editBack", fn := fun _ => fun
  | [d1, d2] => { results := [.lit (.bool false)], args := [d1, d2] }
  | _ => none }
def EditBackWrongFalsely : Prop := editBackRow.holds Tryd.pinned (OpenSpec.ofChange editBackWrong)

/-- 'sealskinlaw03.EditNorms': WHATEVER THE INPUT: true; the input reads as it did. -/
def editNormsSpec : ChangeSpec := { name := "editNorms", fn := fun _ => fun
  | [d] => { results := [.lit (.bool true)], args := [d] }
  | _ => none }
def editNormsRow : OpenClaim := { program := "ytgklklmcmdcpgaadoor", sum := "ccc1e990f88cdd3e00114e37dd8578e8a63e96ec28c38a54823dbbe86c2ba6bf", func := "sealskin/sealskinlaw03.EditNorms", spec := "editNorms", recurses := true, named := ["unicode/utf8.first", "unicode/utf8.acceptRanges"], apart := false, laid := [("unicode/utf8.acceptRanges", laid_unicode_utf8_acceptRanges), ("unicode/utf8.first", laid_unicode_utf8_first)] }
def EditNormsSaid : Prop := editNormsRow.holds Tryd.pinned (OpenSpec.ofChange editNormsSpec)

/-- ITS FALSE NEIGHBOUR: 'it returns false'. Refute it at one input. -/
def editNormsWrong : ChangeSpec := { name := "editNorms", fn := fun _ => fun
  | [d] => { results := [.lit (.bool false)], args := [d] }
  | _ => none }
def EditNormsWrongFalsely : Prop := editNormsRow.holds Tryd.pinned (OpenSpec.ofChange editNormsWrong)

/-- 'sealskinlaw03.EditComposes': WHATEVER THE INPUT: true; the input reads as it did. -/
def editComposesSpec : ChangeSpec := { name := "editComposes", fn := fun _ => fun
  | [d1, d2] => { results := [.lit (.bool true)], args := [d1, d2] }
  | _ => none }
def editComposesRow : OpenClaim := { program := "ytgklklmcmdcpgaadoor", sum := "ccc1e990f88cdd3e00114e37dd8578e8a63e96ec28c38a54823dbbe86c2ba6bf", func := "sealskin/sealskinlaw03.EditComposes", spec := "editComposes", recurses := true, named := ["unicode/utf8.first", "unicode/utf8.acceptRanges"], apart := false, laid := [("unicode/utf8.acceptRanges", laid_unicode_utf8_acceptRanges), ("unicode/utf8.first", laid_unicode_utf8_first)] }
def EditComposesSaid : Prop := editComposesRow.holds Tryd.pinned (OpenSpec.ofChange editComposesSpec)

/-- ITS FALSE NEIGHBOUR: 'it returns false'. Refute it at one input. -/
def editComposesWrong : ChangeSpec := { name := "editComposes", fn := fun _ => fun
  | [d1, d2] => { results := [.lit (.bool false)], args := [d1, d2] }
  | _ => none }
def EditComposesWrongFalsely : Prop := editComposesRow.holds Tryd.pinned (OpenSpec.ofChange editComposesWrong)

/-- 'sealskinlaw03.EditDiamond': WHATEVER THE INPUT: true; the input reads as it did. -/
def editDiamondSpec : ChangeSpec := { name := "editDiamond", fn := fun _ => fun
  | [d1, d2, d3] => { results := [.lit (.bool true)], args := [d1, d2, d3] }
  | _ => none }
def editDiamondRow : OpenClaim := { program := "ytgklklmcmdcpgaadoor", sum := "ccc1e990f88cdd3e00114e37dd8578e8a63e96ec28c38a54823dbbe86c2ba6bf", func := "sealskin/sealskinlaw03.EditDiamond", spec := "editDiamond", recurses := true, named := ["unicode/utf8.first", "unicode/utf8.acceptRanges"], apart := false, laid := [("unicode/utf8.acceptRanges", laid_unicode_utf8_acceptRanges), ("unicode/utf8.first", laid_unicode_utf8_first)] }
def EditDiamondSaid : Prop := editDiamondRow.holds Tryd.pinned (OpenSpec.ofChange editDiamondSpec)

/-- ITS FALSE NEIGHBOUR: 'it returns false'. Refute it at one input. -/
def editDiamondWrong : ChangeSpec := { name := "editDiamond", fn := fun _ => fun
  | [d1, d2, d3] => { results := [.lit (.bool false)], args := [d1, d2, d3] }
  | _ => none }
def EditDiamondWrongFalsely : Prop := editDiamondRow.holds Tryd.pinned (OpenSpec.ofChange editDiamondWrong)

/-- 'sealskinlaw03.EditSquare': WHATEVER THE INPUT: true; the input reads as it did. -/
def editSquareSpec : ChangeSpec := { name := "editSquare", fn := fun _ => fun
  | [d1, d2] => { results := [.lit (.bool true)], args := [d1, d2] }
  | _ => none }
def editSquareRow : OpenClaim := { program := "ytgklklmcmdcpgaadoor", sum := "ccc1e990f88cdd3e00114e37dd8578e8a63e96ec28c38a54823dbbe86c2ba6bf", func := "sealskin/sealskinlaw03.EditSquare", spec := "editSquare", recurses := true, named := ["unicode/utf8.first", "unicode/utf8.acceptRanges"], apart := false, laid := [("unicode/utf8.acceptRanges", laid_unicode_utf8_acceptRanges), ("unicode/utf8.first", laid_unicode_utf8_first)] }
def EditSquareSaid : Prop := editSquareRow.holds Tryd.pinned (OpenSpec.ofChange editSquareSpec)

/-- ITS FALSE NEIGHBOUR: 'it returns false'. Refute it at one input. -/
def editSquareWrong : ChangeSpec := { name := "editSquare", fn := fun _ => fun
  | [d1, d2] => { results := [.lit (.bool false)], args := [d1, d2] }
  | _ => none }
def EditSquareWrongFalsely : Prop := editSquareRow.holds Tryd.pinned (OpenSpec.ofChange editSquareWrong)

/-- 'sealskinlaw03.EditRow': WHATEVER THE INPUT: true; the input reads as it did. -/
def editRowSpec : ChangeSpec := { name := "editRow", fn := fun _ => fun
  | [d1, d2, d3] => { results := [.lit (.bool true)], args := [d1, d2, d3] }
  | _ => none }
def editRowRow : OpenClaim := { program := "ytgklklmcmdcpgaadoor", sum := "ccc1e990f88cdd3e00114e37dd8578e8a63e96ec28c38a54823dbbe86c2ba6bf", func := "sealskin/sealskinlaw03.EditRow", spec := "editRow", recurses := true, named := ["unicode/utf8.first", "unicode/utf8.acceptRanges"], apart := false, laid := [("unicode/utf8.acceptRanges", laid_unicode_utf8_acceptRanges), ("unicode/utf8.first", laid_unicode_utf8_first)] }
def EditRowSaid : Prop := editRowRow.holds Tryd.pinned (OpenSpec.ofChange editRowSpec)

/-- ITS FALSE NEIGHBOUR: 'it returns false'. Refute it at one input. -/
def editRowWrong : ChangeSpec := { name := "editRow", fn := fun _ => fun
  | [d1, d2, d3] => { results := [.lit (.bool false)], args := [d1, d2, d3] }
  | _ => none }
def EditRowWrongFalsely : Prop := editRowRow.holds Tryd.pinned (OpenSpec.ofChange editRowWrong)

/-- 'sealskinlaw03.EditAnyWay': WHATEVER THE INPUT: true; the input reads as it did. -/
def editAnyWaySpec : ChangeSpec := { name := "editAnyWay", fn := fun _ => fun
  | [d1, d2, d3] => { results := [.lit (.bool true)], args := [d1, d2, d3] }
  | _ => none }
def editAnyWayRow : OpenClaim := { program := "ytgklklmcmdcpgaadoor", sum := "ccc1e990f88cdd3e00114e37dd8578e8a63e96ec28c38a54823dbbe86c2ba6bf", func := "sealskin/sealskinlaw03.EditAnyWay", spec := "editAnyWay", recurses := true, named := ["unicode/utf8.first", "unicode/utf8.acceptRanges"], apart := false, laid := [("unicode/utf8.acceptRanges", laid_unicode_utf8_acceptRanges), ("unicode/utf8.first", laid_unicode_utf8_first)] }
def EditAnyWaySaid : Prop := editAnyWayRow.holds Tryd.pinned (OpenSpec.ofChange editAnyWaySpec)

/-- ITS FALSE NEIGHBOUR: 'it returns false'. Refute it at one input. -/
def editAnyWayWrong : ChangeSpec := { name := "editAnyWay", fn := fun _ => fun
  | [d1, d2, d3] => { results := [.lit (.bool false)], args := [d1, d2, d3] }
  | _ => none }
def EditAnyWayWrongFalsely : Prop := editAnyWayRow.holds Tryd.pinned (OpenSpec.ofChange editAnyWayWrong)

/-- 'sealskinlaw03.EditOrder': WHATEVER THE INPUT: true; the input reads as it did. -/
def editOrderSpec : ChangeSpec := { name := "editOrder", fn := fun _ => fun
  | [d1, d2, d3] => { results := [.lit (.bool true)], args := [d1, d2, d3] }
  | _ => none }
def editOrderRow : OpenClaim := { program := "ytgklklmcmdcpgaadoor", sum := "ccc1e990f88cdd3e00114e37dd8578e8a63e96ec28c38a54823dbbe86c2ba6bf", func := "sealskin/sealskinlaw03.EditOrder", spec := "editOrder", recurses := true, named := ["unicode/utf8.first", "unicode/utf8.acceptRanges"], apart := false, laid := [("unicode/utf8.acceptRanges", laid_unicode_utf8_acceptRanges), ("unicode/utf8.first", laid_unicode_utf8_first)] }
def EditOrderSaid : Prop := editOrderRow.holds Tryd.pinned (OpenSpec.ofChange editOrderSpec)

/-- ITS FALSE NEIGHBOUR: 'it returns false'. Refute it at one input. -/
def editOrderWrong : ChangeSpec := { name := "editOrder", fn := fun _ => fun
  | [d1, d2, d3] => { results := [.lit (.bool false)], args := [d1, d2, d3] }
  | _ => none }
def EditOrderWrongFalsely : Prop := editOrderRow.holds Tryd.pinned (OpenSpec.ofChange editOrderWrong)

/-- 'sealskinlaw03.EditNothing': WHATEVER THE INPUT: true; the input reads as it did. -/
def editNothingSpec : ChangeSpec := { name := "editNothing", fn := fun _ => fun
  | [d] => { results := [.lit (.bool true)], args := [d] }
  | _ => none }
def editNothingRow : OpenClaim := { program := "ytgklklmcmdcpgaadoor", sum := "ccc1e990f88cdd3e00114e37dd8578e8a63e96ec28c38a54823dbbe86c2ba6bf", func := "sealskin/sealskinlaw03.EditNothing", spec := "editNothing", recurses := true, named := ["unicode/utf8.first", "unicode/utf8.acceptRanges"], apart := false, laid := [("unicode/utf8.acceptRanges", laid_unicode_utf8_acceptRanges), ("unicode/utf8.first", laid_unicode_utf8_first)] }
def EditNothingSaid : Prop := editNothingRow.holds Tryd.pinned (OpenSpec.ofChange editNothingSpec)

/-- ITS FALSE NEIGHBOUR: 'it returns false'. Refute it at one input. -/
def editNothingWrong : ChangeSpec := { name := "editNothing", fn := fun _ => fun
  | [d] => { results := [.lit (.bool false)], args := [d] }
  | _ => none }
def EditNothingWrongFalsely : Prop := editNothingRow.holds Tryd.pinned (OpenSpec.ofChange editNothingWrong)

/-- 'sealskinlaw03.EditForm': WHATEVER THE INPUT: true; the input reads as it did. -/
def editFormSpec : ChangeSpec := { name := "editForm", fn := fun _ => fun
  | [d1, d2] => { results := [.lit (.bool true)], args := [d1, d2] }
  | _ => none }
def editFormRow : OpenClaim := { program := "ytgklklmcmdcpgaadoor", sum := "ccc1e990f88cdd3e00114e37dd8578e8a63e96ec28c38a54823dbbe86c2ba6bf", func := "sealskin/sealskinlaw03.EditForm", spec := "editForm", recurses := true, named := ["unicode/utf8.first", "unicode/utf8.acceptRanges"], apart := false, laid := [("unicode/utf8.acceptRanges", laid_unicode_utf8_acceptRanges), ("unicode/utf8.first", laid_unicode_utf8_first)] }
def EditFormSaid : Prop := editFormRow.holds Tryd.pinned (OpenSpec.ofChange editFormSpec)

/-- ITS FALSE NEIGHBOUR: 'it returns false'. Refute it at one input. -/
def editFormWrong : ChangeSpec := { name := "editForm", fn := fun _ => fun
  | [d1, d2] => { results := [.lit (.bool false)], args := [d1, d2] }
  | _ => none }
def EditFormWrongFalsely : Prop := editFormRow.holds Tryd.pinned (OpenSpec.ofChange editFormWrong)

/-- 'sealskinlaw03.EditThrough': WHATEVER THE INPUT: true; the input reads as it did. -/
def editThroughSpec : ChangeSpec := { name := "editThrough", fn := fun _ => fun
  | [d1, d2, d3] => { results := [.lit (.bool true)], args := [d1, d2, d3] }
  | _ => none }
def editThroughRow : OpenClaim := { program := "ytgklklmcmdcpgaadoor", sum := "ccc1e990f88cdd3e00114e37dd8578e8a63e96ec28c38a54823dbbe86c2ba6bf", func := "sealskin/sealskinlaw03.EditThrough", spec := "editThrough", recurses := true, named := ["unicode/utf8.first", "unicode/utf8.acceptRanges"], apart := false, laid := [("unicode/utf8.acceptRanges", laid_unicode_utf8_acceptRanges), ("unicode/utf8.first", laid_unicode_utf8_first)] }
def EditThroughSaid : Prop := editThroughRow.holds Tryd.pinned (OpenSpec.ofChange editThroughSpec)

/-- ITS FALSE NEIGHBOUR: 'it returns false'. Refute it at one input. -/
def editThroughWrong : ChangeSpec := { name := "editThrough", fn := fun _ => fun
  | [d1, d2, d3] => { results := [.lit (.bool false)], args := [d1, d2, d3] }
  | _ => none }
def EditThroughWrongFalsely : Prop := editThroughRow.holds Tryd.pinned (OpenSpec.ofChange editThroughWrong)

/-- 'sealskinlaw03.EditGo': WHATEVER THE INPUT: true; the input reads as it did. -/
def editGoSpec : ChangeSpec := { name := "editGo", fn := fun _ => fun
  | [d1, d2, d3, d4] => { results := [.lit (.bool true)], args := [d1, d2, d3, d4] }
  | _ => none }
def editGoRow : OpenClaim := { program := "ytgklklmcmdcpgaadoor", sum := "ccc1e990f88cdd3e00114e37dd8578e8a63e96ec28c38a54823dbbe86c2ba6bf", func := "sealskin/sealskinlaw03.EditGo", spec := "editGo", recurses := true, named := ["unicode/utf8.first", "unicode/utf8.acceptRanges"], apart := false, laid := [("unicode/utf8.acceptRanges", laid_unicode_utf8_acceptRanges), ("unicode/utf8.first", laid_unicode_utf8_first)] }
def EditGoSaid : Prop := editGoRow.holds Tryd.pinned (OpenSpec.ofChange editGoSpec)

/-- ITS FALSE NEIGHBOUR: 'it returns false'. Refute it at one input. -/
def editGoWrong : ChangeSpec := { name := "editGo", fn := fun _ => fun
  | [d1, d2, d3, d4] => { results := [.lit (.bool false)], args := [d1, d2, d3, d4] }
  | _ => none }
def EditGoWrongFalsely : Prop := editGoRow.holds Tryd.pinned (OpenSpec.ofChange editGoWrong)

/- THE SECOND FORM. 'bulk': how many values and letters a reading holds, each counted each time it is reached (what is shared counts as often as it is met; a slice's spare places count too). A statement '..UptoSaid' is the law's where the arguments, and the package variables that the reading takes, are together of bulk at most 1048576: NARROWER than '..Said'. Prove '..Said' where nothing that the law and all that it calls make is longer than what came in: it says more and counts as full. Else prove '..UptoSaid'. A law counts once. -/
mutual
def uptoBulk {H : Type} : DataW H → Nat
  | .lit (.string bytes) => bytes.length + 1
  | .lit _ => 1
  | .nil => 1
  | .ptr d => uptoBulk d + 1
  | .slice elems spare => uptoBulkAll elems + uptoBulkAll spare + 1
  | .agg parts => uptoBulkAll parts + 1
  | .iface _ d => uptoBulk d + 1
  | .map entries => uptoBulkEntries entries + 1
  | .held _ => 1
def uptoBulkAll {H : Type} : List (DataW H) → Nat
  | [] => 0
  | d :: r => uptoBulk d + uptoBulkAll r
def uptoBulkEntries {H : Type} : List (Lit × DataW H) → Nat
  | [] => 0
  | x :: r => uptoBulkEntry x + uptoBulkEntries r
def uptoBulkEntry {H : Type} : Lit × DataW H → Nat
  | (.string bytes, d) => bytes.length + uptoBulk d + 1
  | (_, d) => uptoBulk d + 1
 end
def uptoSmall : (H : Type) → List (DataW H) → Bool := fun _ ds => decide (uptoBulkAll ds ≤ 1048576)
def OpenSpec.upto (s : _root_.Go.ChangeSpec) : _root_.Go.OpenSpec := { _root_.Go.OpenSpec.ofChange s with cond := some uptoSmall }

/-- 'sealskinlaw03.EditReplaces', WHERE WHAT IT READS IS OF BULK AT MOST 1048576: true; the input reads as it did. -/
def editReplacesUptoRow : OpenClaim := { program := "ytgklklmcmdcpgaadoor", sum := "ccc1e990f88cdd3e00114e37dd8578e8a63e96ec28c38a54823dbbe86c2ba6bf", func := "sealskin/sealskinlaw03.EditReplaces", spec := "editReplaces", recurses := true, named := ["unicode/utf8.first", "unicode/utf8.acceptRanges"], apart := false, laid := [("unicode/utf8.acceptRanges", laid_unicode_utf8_acceptRanges), ("unicode/utf8.first", laid_unicode_utf8_first)], narrowed := true }
def EditReplacesUptoSaid : Prop := editReplacesUptoRow.holds Tryd.pinned (OpenSpec.upto editReplacesSpec)

/-- 'sealskinlaw03.EditChecks', WHERE WHAT IT READS IS OF BULK AT MOST 1048576: true; the input reads as it did. -/
def editChecksUptoRow : OpenClaim := { program := "ytgklklmcmdcpgaadoor", sum := "ccc1e990f88cdd3e00114e37dd8578e8a63e96ec28c38a54823dbbe86c2ba6bf", func := "sealskin/sealskinlaw03.EditChecks", spec := "editChecks", recurses := true, named := ["unicode/utf8.first", "unicode/utf8.acceptRanges"], apart := false, laid := [("unicode/utf8.acceptRanges", laid_unicode_utf8_acceptRanges), ("unicode/utf8.first", laid_unicode_utf8_first)], narrowed := true }
def EditChecksUptoSaid : Prop := editChecksUptoRow.holds Tryd.pinned (OpenSpec.upto editChecksSpec)

/-- 'sealskinlaw03.EditWeighs', WHERE WHAT IT READS IS OF BULK AT MOST 1048576: true; the input reads as it did. -/
def editWeighsUptoRow : OpenClaim := { program := "ytgklklmcmdcpgaadoor", sum := "ccc1e990f88cdd3e00114e37dd8578e8a63e96ec28c38a54823dbbe86c2ba6bf", func := "sealskin/sealskinlaw03.EditWeighs", spec := "editWeighs", recurses := true, named := ["unicode/utf8.first", "unicode/utf8.acceptRanges"], apart := false, laid := [("unicode/utf8.acceptRanges", laid_unicode_utf8_acceptRanges), ("unicode/utf8.first", laid_unicode_utf8_first)], narrowed := true }
def EditWeighsUptoSaid : Prop := editWeighsUptoRow.holds Tryd.pinned (OpenSpec.upto editWeighsSpec)

/-- 'sealskinlaw03.EditApplies', WHERE WHAT IT READS IS OF BULK AT MOST 1048576: true; the input reads as it did. -/
def editAppliesUptoRow : OpenClaim := { program := "ytgklklmcmdcpgaadoor", sum := "ccc1e990f88cdd3e00114e37dd8578e8a63e96ec28c38a54823dbbe86c2ba6bf", func := "sealskin/sealskinlaw03.EditApplies", spec := "editApplies", recurses := true, named := ["unicode/utf8.first", "unicode/utf8.acceptRanges"], apart := false, laid := [("unicode/utf8.acceptRanges", laid_unicode_utf8_acceptRanges), ("unicode/utf8.first", laid_unicode_utf8_first)], narrowed := true }
def EditAppliesUptoSaid : Prop := editAppliesUptoRow.holds Tryd.pinned (OpenSpec.upto editAppliesSpec)

/-- 'sealskinlaw03.EditCursors', WHERE WHAT IT READS IS OF BULK AT MOST 1048576: true; the input reads as it did. -/
def editCursorsUptoRow : OpenClaim := { program := "ytgklklmcmdcpgaadoor", sum := "ccc1e990f88cdd3e00114e37dd8578e8a63e96ec28c38a54823dbbe86c2ba6bf", func := "sealskin/sealskinlaw03.EditCursors", spec := "editCursors", recurses := true, named := ["unicode/utf8.first", "unicode/utf8.acceptRanges"], apart := false, laid := [("unicode/utf8.acceptRanges", laid_unicode_utf8_acceptRanges), ("unicode/utf8.first", laid_unicode_utf8_first)], narrowed := true }
def EditCursorsUptoSaid : Prop := editCursorsUptoRow.holds Tryd.pinned (OpenSpec.upto editCursorsSpec)

/-- 'sealskinlaw03.EditBack', WHERE WHAT IT READS IS OF BULK AT MOST 1048576: true; the input reads as it did. -/
def editBackUptoRow : OpenClaim := { program := "ytgklklmcmdcpgaadoor", sum := "ccc1e990f88cdd3e00114e37dd8578e8a63e96ec28c38a54823dbbe86c2ba6bf", func := "sealskin/sealskinlaw03.EditBack", spec := "editBack", recurses := true, named := ["unicode/utf8.first", "unicode/utf8.acceptRanges"], apart := false, laid := [("unicode/utf8.acceptRanges", laid_unicode_utf8_acceptRanges), ("unicode/utf8.first", laid_unicode_utf8_first)], narrowed := true }
def EditBackUptoSaid : Prop := editBackUptoRow.holds Tryd.pinned (OpenSpec.upto editBackSpec)

/-- 'sealskinlaw03.EditNorms', WHERE WHAT IT READS IS OF BULK AT MOST 1048576: true; the input reads as it did. -/
def editNormsUptoRow : OpenClaim := { program := "ytgklklmcmdcpgaadoor", sum := "ccc1e990f88cdd3e00114e37dd8578e8a63e96ec28c38a54823dbbe86c2ba6bf", func := "sealskin/sealskinlaw03.EditNorms", spec := "editNorms", recurses := true, named := ["unicode/utf8.first", "unicode/utf8.acceptRanges"], apart := false, laid := [("unicode/utf8.acceptRanges", laid_unicode_utf8_acceptRanges), ("unicode/utf8.first", laid_unicode_utf8_first)], narrowed := true }
def EditNormsUptoSaid : Prop := editNormsUptoRow.holds Tryd.pinned (OpenSpec.upto editNormsSpec)

/-- 'sealskinlaw03.EditComposes', WHERE WHAT IT READS IS OF BULK AT MOST 1048576: true; the input reads as it did. -/
def editComposesUptoRow : OpenClaim := { program := "ytgklklmcmdcpgaadoor", sum := "ccc1e990f88cdd3e00114e37dd8578e8a63e96ec28c38a54823dbbe86c2ba6bf", func := "sealskin/sealskinlaw03.EditComposes", spec := "editComposes", recurses := true, named := ["unicode/utf8.first", "unicode/utf8.acceptRanges"], apart := false, laid := [("unicode/utf8.acceptRanges", laid_unicode_utf8_acceptRanges), ("unicode/utf8.first", laid_unicode_utf8_first)], narrowed := true }
def EditComposesUptoSaid : Prop := editComposesUptoRow.holds Tryd.pinned (OpenSpec.upto editComposesSpec)

/-- 'sealskinlaw03.EditDiamond', WHERE WHAT IT READS IS OF BULK AT MOST 1048576: true; the input reads as it did. -/
def editDiamondUptoRow : OpenClaim := { program := "ytgklklmcmdcpgaadoor", sum := "ccc1e990f88cdd3e00114e37dd8578e8a63e96ec28c38a54823dbbe86c2ba6bf", func := "sealskin/sealskinlaw03.EditDiamond", spec := "editDiamond", recurses := true, named := ["unicode/utf8.first", "unicode/utf8.acceptRanges"], apart := false, laid := [("unicode/utf8.acceptRanges", laid_unicode_utf8_acceptRanges), ("unicode/utf8.first", laid_unicode_utf8_first)], narrowed := true }
def EditDiamondUptoSaid : Prop := editDiamondUptoRow.holds Tryd.pinned (OpenSpec.upto editDiamondSpec)

/-- 'sealskinlaw03.EditSquare', WHERE WHAT IT READS IS OF BULK AT MOST 1048576: true; the input reads as it did. -/
def editSquareUptoRow : OpenClaim := { program := "ytgklklmcmdcpgaadoor", sum := "ccc1e990f88cdd3e00114e37dd8578e8a63e96ec28c38a54823dbbe86c2ba6bf", func := "sealskin/sealskinlaw03.EditSquare", spec := "editSquare", recurses := true, named := ["unicode/utf8.first", "unicode/utf8.acceptRanges"], apart := false, laid := [("unicode/utf8.acceptRanges", laid_unicode_utf8_acceptRanges), ("unicode/utf8.first", laid_unicode_utf8_first)], narrowed := true }
def EditSquareUptoSaid : Prop := editSquareUptoRow.holds Tryd.pinned (OpenSpec.upto editSquareSpec)

/-- 'sealskinlaw03.EditRow', WHERE WHAT IT READS IS OF BULK AT MOST 1048576: true; the input reads as it did. -/
def editRowUptoRow : OpenClaim := { program := "ytgklklmcmdcpgaadoor", sum := "ccc1e990f88cdd3e00114e37dd8578e8a63e96ec28c38a54823dbbe86c2ba6bf", func := "sealskin/sealskinlaw03.EditRow", spec := "editRow", recurses := true, named := ["unicode/utf8.first", "unicode/utf8.acceptRanges"], apart := false, laid := [("unicode/utf8.acceptRanges", laid_unicode_utf8_acceptRanges), ("unicode/utf8.first", laid_unicode_utf8_first)], narrowed := true }
def EditRowUptoSaid : Prop := editRowUptoRow.holds Tryd.pinned (OpenSpec.upto editRowSpec)

/-- 'sealskinlaw03.EditAnyWay', WHERE WHAT IT READS IS OF BULK AT MOST 1048576: true; the input reads as it did. -/
def editAnyWayUptoRow : OpenClaim := { program := "ytgklklmcmdcpgaadoor", sum := "ccc1e990f88cdd3e00114e37dd8578e8a63e96ec28c38a54823dbbe86c2ba6bf", func := "sealskin/sealskinlaw03.EditAnyWay", spec := "editAnyWay", recurses := true, named := ["unicode/utf8.first", "unicode/utf8.acceptRanges"], apart := false, laid := [("unicode/utf8.acceptRanges", laid_unicode_utf8_acceptRanges), ("unicode/utf8.first", laid_unicode_utf8_first)], narrowed := true }
def EditAnyWayUptoSaid : Prop := editAnyWayUptoRow.holds Tryd.pinned (OpenSpec.upto editAnyWaySpec)

/-- 'sealskinlaw03.EditOrder', WHERE WHAT IT READS IS OF BULK AT MOST 1048576: true; the input reads as it did. -/
def editOrderUptoRow : OpenClaim := { program := "ytgklklmcmdcpgaadoor", sum := "ccc1e990f88cdd3e00114e37dd8578e8a63e96ec28c38a54823dbbe86c2ba6bf", func := "sealskin/sealskinlaw03.EditOrder", spec := "editOrder", recurses := true, named := ["unicode/utf8.first", "unicode/utf8.acceptRanges"], apart := false, laid := [("unicode/utf8.acceptRanges", laid_unicode_utf8_acceptRanges), ("unicode/utf8.first", laid_unicode_utf8_first)], narrowed := true }
def EditOrderUptoSaid : Prop := editOrderUptoRow.holds Tryd.pinned (OpenSpec.upto editOrderSpec)

/-- 'sealskinlaw03.EditNothing', WHERE WHAT IT READS IS OF BULK AT MOST 1048576: true; the input reads as it did. -/
def editNothingUptoRow : OpenClaim := { program := "ytgklklmcmdcpgaadoor", sum := "ccc1e990f88cdd3e00114e37dd8578e8a63e96ec28c38a54823dbbe86c2ba6bf", func := "sealskin/sealskinlaw03.EditNothing", spec := "editNothing", recurses := true, named := ["unicode/utf8.first", "unicode/utf8.acceptRanges"], apart := false, laid := [("unicode/utf8.acceptRanges", laid_unicode_utf8_acceptRanges), ("unicode/utf8.first", laid_unicode_utf8_first)], narrowed := true }
def EditNothingUptoSaid : Prop := editNothingUptoRow.holds Tryd.pinned (OpenSpec.upto editNothingSpec)

/-- 'sealskinlaw03.EditForm', WHERE WHAT IT READS IS OF BULK AT MOST 1048576: true; the input reads as it did. -/
def editFormUptoRow : OpenClaim := { program := "ytgklklmcmdcpgaadoor", sum := "ccc1e990f88cdd3e00114e37dd8578e8a63e96ec28c38a54823dbbe86c2ba6bf", func := "sealskin/sealskinlaw03.EditForm", spec := "editForm", recurses := true, named := ["unicode/utf8.first", "unicode/utf8.acceptRanges"], apart := false, laid := [("unicode/utf8.acceptRanges", laid_unicode_utf8_acceptRanges), ("unicode/utf8.first", laid_unicode_utf8_first)], narrowed := true }
def EditFormUptoSaid : Prop := editFormUptoRow.holds Tryd.pinned (OpenSpec.upto editFormSpec)

/-- 'sealskinlaw03.EditThrough', WHERE WHAT IT READS IS OF BULK AT MOST 1048576: true; the input reads as it did. -/
def editThroughUptoRow : OpenClaim := { program := "ytgklklmcmdcpgaadoor", sum := "ccc1e990f88cdd3e00114e37dd8578e8a63e96ec28c38a54823dbbe86c2ba6bf", func := "sealskin/sealskinlaw03.EditThrough", spec := "editThrough", recurses := true, named := ["unicode/utf8.first", "unicode/utf8.acceptRanges"], apart := false, laid := [("unicode/utf8.acceptRanges", laid_unicode_utf8_acceptRanges), ("unicode/utf8.first", laid_unicode_utf8_first)], narrowed := true }
def EditThroughUptoSaid : Prop := editThroughUptoRow.holds Tryd.pinned (OpenSpec.upto editThroughSpec)

/-- 'sealskinlaw03.EditGo', WHERE WHAT IT READS IS OF BULK AT MOST 1048576: true; the input reads as it did. -/
def editGoUptoRow : OpenClaim := { program := "ytgklklmcmdcpgaadoor", sum := "ccc1e990f88cdd3e00114e37dd8578e8a63e96ec28c38a54823dbbe86c2ba6bf", func := "sealskin/sealskinlaw03.EditGo", spec := "editGo", recurses := true, named := ["unicode/utf8.first", "unicode/utf8.acceptRanges"], apart := false, laid := [("unicode/utf8.acceptRanges", laid_unicode_utf8_acceptRanges), ("unicode/utf8.first", laid_unicode_utf8_first)], narrowed := true }
def EditGoUptoSaid : Prop := editGoUptoRow.holds Tryd.pinned (OpenSpec.upto editGoSpec)

end Rows
end Go.Proofs.YtgklklmcmdcpgaaDoor
