/-
  DERIVED. GIVEN WITH THE SEED: THE CARDS: each row of YtgklklmcmdcpgaaDoorRows.lean that lists a variable, with what it lists TIED to the program's text (the seventh form; the later family's looks); each row that meets fmt, with fmt's text TOLD by the authors' own Lean function (tested against real Go, not proved from fmt's source: count such statements apart). THE CARD IS WHAT COUNTS. Prove the row's statement (the work); the ties are given (YtgklklmcmdcpgaaDoorTie.lean); close each card by the builder's one call (the guide's Derived/Test/ToyasCard.lean, 'card_holds'). Laid BY PROGRAM, IN A SANDBOX (cutbox-door.mjs). By AI agents, Wed Nov 11 2026. No macro, syntax, notation, axiom, sorry.
-/
import Derived.Test.YtgklklmcmdcpgaaDoorRows
import GoSem.ClaimSeven
namespace Go.Proofs.YtgklklmcmdcpgaaDoor
namespace Rows

/-- THE TIED CARD OF 'sealskinlaw03.EditReplaces'. -/
def editReplacesCard : Claim7 := { stood := { row := editReplacesRow, standIns := [], harness := (true, "ee487009e57c67d5a43e09ff757eb099842cd13883ae38e2a0f9c8305a9ea181"), looks := false }, kinds := [], alts := [], laidByText := true, laidKinds := [.data, .pinned], laidTests := true, laidLooks := .later }
def EditReplacesCardSaid : Prop := Claim7.holds Tryd.pinned (.plain (OpenSpec.ofChange editReplacesSpec)) editReplacesCard

/-- THE TIED CARD OF 'sealskinlaw03.EditChecks'. -/
def editChecksCard : Claim7 := { stood := { row := editChecksRow, standIns := [], harness := (true, "ee487009e57c67d5a43e09ff757eb099842cd13883ae38e2a0f9c8305a9ea181"), looks := false }, kinds := [], alts := [], laidByText := true, laidKinds := [.data, .pinned], laidTests := true, laidLooks := .later }
def EditChecksCardSaid : Prop := Claim7.holds Tryd.pinned (.plain (OpenSpec.ofChange editChecksSpec)) editChecksCard

/-- THE TIED CARD OF 'sealskinlaw03.EditWeighs'. -/
def editWeighsCard : Claim7 := { stood := { row := editWeighsRow, standIns := [], harness := (true, "ee487009e57c67d5a43e09ff757eb099842cd13883ae38e2a0f9c8305a9ea181"), looks := false }, kinds := [], alts := [], laidByText := true, laidKinds := [.data, .pinned], laidTests := true, laidLooks := .later }
def EditWeighsCardSaid : Prop := Claim7.holds Tryd.pinned (.plain (OpenSpec.ofChange editWeighsSpec)) editWeighsCard

/-- THE TIED CARD OF 'sealskinlaw03.EditApplies'. -/
def editAppliesCard : Claim7 := { stood := { row := editAppliesRow, standIns := [], harness := (true, "ee487009e57c67d5a43e09ff757eb099842cd13883ae38e2a0f9c8305a9ea181"), looks := false }, kinds := [], alts := [], laidByText := true, laidKinds := [.data, .pinned], laidTests := true, laidLooks := .later }
def EditAppliesCardSaid : Prop := Claim7.holds Tryd.pinned (.plain (OpenSpec.ofChange editAppliesSpec)) editAppliesCard

/-- THE TIED CARD OF 'sealskinlaw03.EditCursors'. -/
def editCursorsCard : Claim7 := { stood := { row := editCursorsRow, standIns := [], harness := (true, "ee487009e57c67d5a43e09ff757eb099842cd13883ae38e2a0f9c8305a9ea181"), looks := false }, kinds := [], alts := [], laidByText := true, laidKinds := [.data, .pinned], laidTests := true, laidLooks := .later }
def EditCursorsCardSaid : Prop := Claim7.holds Tryd.pinned (.plain (OpenSpec.ofChange editCursorsSpec)) editCursorsCard

/-- THE TIED CARD OF 'sealskinlaw03.EditBack'. -/
def editBackCard : Claim7 := { stood := { row := editBackRow, standIns := [], harness := (true, "ee487009e57c67d5a43e09ff757eb099842cd13883ae38e2a0f9c8305a9ea181"), looks := false }, kinds := [], alts := [], laidByText := true, laidKinds := [.data, .pinned], laidTests := true, laidLooks := .later }
def EditBackCardSaid : Prop := Claim7.holds Tryd.pinned (.plain (OpenSpec.ofChange editBackSpec)) editBackCard

/-- THE TIED CARD OF 'sealskinlaw03.EditNorms'. -/
def editNormsCard : Claim7 := { stood := { row := editNormsRow, standIns := [], harness := (true, "ee487009e57c67d5a43e09ff757eb099842cd13883ae38e2a0f9c8305a9ea181"), looks := false }, kinds := [], alts := [], laidByText := true, laidKinds := [.data, .pinned], laidTests := true, laidLooks := .later }
def EditNormsCardSaid : Prop := Claim7.holds Tryd.pinned (.plain (OpenSpec.ofChange editNormsSpec)) editNormsCard

/-- THE TIED CARD OF 'sealskinlaw03.EditComposes'. -/
def editComposesCard : Claim7 := { stood := { row := editComposesRow, standIns := [], harness := (true, "ee487009e57c67d5a43e09ff757eb099842cd13883ae38e2a0f9c8305a9ea181"), looks := false }, kinds := [], alts := [], laidByText := true, laidKinds := [.data, .pinned], laidTests := true, laidLooks := .later }
def EditComposesCardSaid : Prop := Claim7.holds Tryd.pinned (.plain (OpenSpec.ofChange editComposesSpec)) editComposesCard

/-- THE TIED CARD OF 'sealskinlaw03.EditDiamond'. -/
def editDiamondCard : Claim7 := { stood := { row := editDiamondRow, standIns := [], harness := (true, "ee487009e57c67d5a43e09ff757eb099842cd13883ae38e2a0f9c8305a9ea181"), looks := false }, kinds := [], alts := [], laidByText := true, laidKinds := [.data, .pinned], laidTests := true, laidLooks := .later }
def EditDiamondCardSaid : Prop := Claim7.holds Tryd.pinned (.plain (OpenSpec.ofChange editDiamondSpec)) editDiamondCard

/-- THE TIED CARD OF 'sealskinlaw03.EditSquare'. -/
def editSquareCard : Claim7 := { stood := { row := editSquareRow, standIns := [], harness := (true, "ee487009e57c67d5a43e09ff757eb099842cd13883ae38e2a0f9c8305a9ea181"), looks := false }, kinds := [], alts := [], laidByText := true, laidKinds := [.data, .pinned], laidTests := true, laidLooks := .later }
def EditSquareCardSaid : Prop := Claim7.holds Tryd.pinned (.plain (OpenSpec.ofChange editSquareSpec)) editSquareCard

/-- THE TIED CARD OF 'sealskinlaw03.EditRow'. -/
def editRowCard : Claim7 := { stood := { row := editRowRow, standIns := [], harness := (true, "ee487009e57c67d5a43e09ff757eb099842cd13883ae38e2a0f9c8305a9ea181"), looks := false }, kinds := [], alts := [], laidByText := true, laidKinds := [.data, .pinned], laidTests := true, laidLooks := .later }
def EditRowCardSaid : Prop := Claim7.holds Tryd.pinned (.plain (OpenSpec.ofChange editRowSpec)) editRowCard

/-- THE TIED CARD OF 'sealskinlaw03.EditAnyWay'. -/
def editAnyWayCard : Claim7 := { stood := { row := editAnyWayRow, standIns := [], harness := (true, "ee487009e57c67d5a43e09ff757eb099842cd13883ae38e2a0f9c8305a9ea181"), looks := false }, kinds := [], alts := [], laidByText := true, laidKinds := [.data, .pinned], laidTests := true, laidLooks := .later }
def EditAnyWayCardSaid : Prop := Claim7.holds Tryd.pinned (.plain (OpenSpec.ofChange editAnyWaySpec)) editAnyWayCard

/-- THE TIED CARD OF 'sealskinlaw03.EditOrder'. -/
def editOrderCard : Claim7 := { stood := { row := editOrderRow, standIns := [], harness := (true, "ee487009e57c67d5a43e09ff757eb099842cd13883ae38e2a0f9c8305a9ea181"), looks := false }, kinds := [], alts := [], laidByText := true, laidKinds := [.data, .pinned], laidTests := true, laidLooks := .later }
def EditOrderCardSaid : Prop := Claim7.holds Tryd.pinned (.plain (OpenSpec.ofChange editOrderSpec)) editOrderCard

/-- THE TIED CARD OF 'sealskinlaw03.EditNothing'. -/
def editNothingCard : Claim7 := { stood := { row := editNothingRow, standIns := [], harness := (true, "ee487009e57c67d5a43e09ff757eb099842cd13883ae38e2a0f9c8305a9ea181"), looks := false }, kinds := [], alts := [], laidByText := true, laidKinds := [.data, .pinned], laidTests := true, laidLooks := .later }
def EditNothingCardSaid : Prop := Claim7.holds Tryd.pinned (.plain (OpenSpec.ofChange editNothingSpec)) editNothingCard

/-- THE TIED CARD OF 'sealskinlaw03.EditForm'. -/
def editFormCard : Claim7 := { stood := { row := editFormRow, standIns := [], harness := (true, "ee487009e57c67d5a43e09ff757eb099842cd13883ae38e2a0f9c8305a9ea181"), looks := false }, kinds := [], alts := [], laidByText := true, laidKinds := [.data, .pinned], laidTests := true, laidLooks := .later }
def EditFormCardSaid : Prop := Claim7.holds Tryd.pinned (.plain (OpenSpec.ofChange editFormSpec)) editFormCard

/-- THE TIED CARD OF 'sealskinlaw03.EditThrough'. -/
def editThroughCard : Claim7 := { stood := { row := editThroughRow, standIns := [], harness := (true, "ee487009e57c67d5a43e09ff757eb099842cd13883ae38e2a0f9c8305a9ea181"), looks := false }, kinds := [], alts := [], laidByText := true, laidKinds := [.data, .pinned], laidTests := true, laidLooks := .later }
def EditThroughCardSaid : Prop := Claim7.holds Tryd.pinned (.plain (OpenSpec.ofChange editThroughSpec)) editThroughCard

/-- THE TIED CARD OF 'sealskinlaw03.EditGo'. -/
def editGoCard : Claim7 := { stood := { row := editGoRow, standIns := [], harness := (true, "ee487009e57c67d5a43e09ff757eb099842cd13883ae38e2a0f9c8305a9ea181"), looks := false }, kinds := [], alts := [], laidByText := true, laidKinds := [.data, .pinned], laidTests := true, laidLooks := .later }
def EditGoCardSaid : Prop := Claim7.holds Tryd.pinned (.plain (OpenSpec.ofChange editGoSpec)) editGoCard

/-- THE SECOND FORM's CARD OF 'sealskinlaw03.EditReplaces'. -/
def editReplacesUptoCard : Claim7 := { stood := { row := editReplacesUptoRow, standIns := [], harness := (true, "ee487009e57c67d5a43e09ff757eb099842cd13883ae38e2a0f9c8305a9ea181"), looks := false }, kinds := [], alts := [], laidByText := true, laidKinds := [.data, .pinned], laidTests := true, laidLooks := .later }
def EditReplacesUptoCardSaid : Prop := Claim7.holds Tryd.pinned (.plain (OpenSpec.upto editReplacesSpec)) editReplacesUptoCard

/-- THE SECOND FORM's CARD OF 'sealskinlaw03.EditChecks'. -/
def editChecksUptoCard : Claim7 := { stood := { row := editChecksUptoRow, standIns := [], harness := (true, "ee487009e57c67d5a43e09ff757eb099842cd13883ae38e2a0f9c8305a9ea181"), looks := false }, kinds := [], alts := [], laidByText := true, laidKinds := [.data, .pinned], laidTests := true, laidLooks := .later }
def EditChecksUptoCardSaid : Prop := Claim7.holds Tryd.pinned (.plain (OpenSpec.upto editChecksSpec)) editChecksUptoCard

/-- THE SECOND FORM's CARD OF 'sealskinlaw03.EditWeighs'. -/
def editWeighsUptoCard : Claim7 := { stood := { row := editWeighsUptoRow, standIns := [], harness := (true, "ee487009e57c67d5a43e09ff757eb099842cd13883ae38e2a0f9c8305a9ea181"), looks := false }, kinds := [], alts := [], laidByText := true, laidKinds := [.data, .pinned], laidTests := true, laidLooks := .later }
def EditWeighsUptoCardSaid : Prop := Claim7.holds Tryd.pinned (.plain (OpenSpec.upto editWeighsSpec)) editWeighsUptoCard

/-- THE SECOND FORM's CARD OF 'sealskinlaw03.EditApplies'. -/
def editAppliesUptoCard : Claim7 := { stood := { row := editAppliesUptoRow, standIns := [], harness := (true, "ee487009e57c67d5a43e09ff757eb099842cd13883ae38e2a0f9c8305a9ea181"), looks := false }, kinds := [], alts := [], laidByText := true, laidKinds := [.data, .pinned], laidTests := true, laidLooks := .later }
def EditAppliesUptoCardSaid : Prop := Claim7.holds Tryd.pinned (.plain (OpenSpec.upto editAppliesSpec)) editAppliesUptoCard

/-- THE SECOND FORM's CARD OF 'sealskinlaw03.EditCursors'. -/
def editCursorsUptoCard : Claim7 := { stood := { row := editCursorsUptoRow, standIns := [], harness := (true, "ee487009e57c67d5a43e09ff757eb099842cd13883ae38e2a0f9c8305a9ea181"), looks := false }, kinds := [], alts := [], laidByText := true, laidKinds := [.data, .pinned], laidTests := true, laidLooks := .later }
def EditCursorsUptoCardSaid : Prop := Claim7.holds Tryd.pinned (.plain (OpenSpec.upto editCursorsSpec)) editCursorsUptoCard

/-- THE SECOND FORM's CARD OF 'sealskinlaw03.EditBack'. -/
def editBackUptoCard : Claim7 := { stood := { row := editBackUptoRow, standIns := [], harness := (true, "ee487009e57c67d5a43e09ff757eb099842cd13883ae38e2a0f9c8305a9ea181"), looks := false }, kinds := [], alts := [], laidByText := true, laidKinds := [.data, .pinned], laidTests := true, laidLooks := .later }
def EditBackUptoCardSaid : Prop := Claim7.holds Tryd.pinned (.plain (OpenSpec.upto editBackSpec)) editBackUptoCard

/-- THE SECOND FORM's CARD OF 'sealskinlaw03.EditNorms'. -/
def editNormsUptoCard : Claim7 := { stood := { row := editNormsUptoRow, standIns := [], harness := (true, "ee487009e57c67d5a43e09ff757eb099842cd13883ae38e2a0f9c8305a9ea181"), looks := false }, kinds := [], alts := [], laidByText := true, laidKinds := [.data, .pinned], laidTests := true, laidLooks := .later }
def EditNormsUptoCardSaid : Prop := Claim7.holds Tryd.pinned (.plain (OpenSpec.upto editNormsSpec)) editNormsUptoCard

/-- THE SECOND FORM's CARD OF 'sealskinlaw03.EditComposes'. -/
def editComposesUptoCard : Claim7 := { stood := { row := editComposesUptoRow, standIns := [], harness := (true, "ee487009e57c67d5a43e09ff757eb099842cd13883ae38e2a0f9c8305a9ea181"), looks := false }, kinds := [], alts := [], laidByText := true, laidKinds := [.data, .pinned], laidTests := true, laidLooks := .later }
def EditComposesUptoCardSaid : Prop := Claim7.holds Tryd.pinned (.plain (OpenSpec.upto editComposesSpec)) editComposesUptoCard

/-- THE SECOND FORM's CARD OF 'sealskinlaw03.EditDiamond'. -/
def editDiamondUptoCard : Claim7 := { stood := { row := editDiamondUptoRow, standIns := [], harness := (true, "ee487009e57c67d5a43e09ff757eb099842cd13883ae38e2a0f9c8305a9ea181"), looks := false }, kinds := [], alts := [], laidByText := true, laidKinds := [.data, .pinned], laidTests := true, laidLooks := .later }
def EditDiamondUptoCardSaid : Prop := Claim7.holds Tryd.pinned (.plain (OpenSpec.upto editDiamondSpec)) editDiamondUptoCard

/-- THE SECOND FORM's CARD OF 'sealskinlaw03.EditSquare'. -/
def editSquareUptoCard : Claim7 := { stood := { row := editSquareUptoRow, standIns := [], harness := (true, "ee487009e57c67d5a43e09ff757eb099842cd13883ae38e2a0f9c8305a9ea181"), looks := false }, kinds := [], alts := [], laidByText := true, laidKinds := [.data, .pinned], laidTests := true, laidLooks := .later }
def EditSquareUptoCardSaid : Prop := Claim7.holds Tryd.pinned (.plain (OpenSpec.upto editSquareSpec)) editSquareUptoCard

/-- THE SECOND FORM's CARD OF 'sealskinlaw03.EditRow'. -/
def editRowUptoCard : Claim7 := { stood := { row := editRowUptoRow, standIns := [], harness := (true, "ee487009e57c67d5a43e09ff757eb099842cd13883ae38e2a0f9c8305a9ea181"), looks := false }, kinds := [], alts := [], laidByText := true, laidKinds := [.data, .pinned], laidTests := true, laidLooks := .later }
def EditRowUptoCardSaid : Prop := Claim7.holds Tryd.pinned (.plain (OpenSpec.upto editRowSpec)) editRowUptoCard

/-- THE SECOND FORM's CARD OF 'sealskinlaw03.EditAnyWay'. -/
def editAnyWayUptoCard : Claim7 := { stood := { row := editAnyWayUptoRow, standIns := [], harness := (true, "ee487009e57c67d5a43e09ff757eb099842cd13883ae38e2a0f9c8305a9ea181"), looks := false }, kinds := [], alts := [], laidByText := true, laidKinds := [.data, .pinned], laidTests := true, laidLooks := .later }
def EditAnyWayUptoCardSaid : Prop := Claim7.holds Tryd.pinned (.plain (OpenSpec.upto editAnyWaySpec)) editAnyWayUptoCard

/-- THE SECOND FORM's CARD OF 'sealskinlaw03.EditOrder'. -/
def editOrderUptoCard : Claim7 := { stood := { row := editOrderUptoRow, standIns := [], harness := (true, "ee487009e57c67d5a43e09ff757eb099842cd13883ae38e2a0f9c8305a9ea181"), looks := false }, kinds := [], alts := [], laidByText := true, laidKinds := [.data, .pinned], laidTests := true, laidLooks := .later }
def EditOrderUptoCardSaid : Prop := Claim7.holds Tryd.pinned (.plain (OpenSpec.upto editOrderSpec)) editOrderUptoCard

/-- THE SECOND FORM's CARD OF 'sealskinlaw03.EditNothing'. -/
def editNothingUptoCard : Claim7 := { stood := { row := editNothingUptoRow, standIns := [], harness := (true, "ee487009e57c67d5a43e09ff757eb099842cd13883ae38e2a0f9c8305a9ea181"), looks := false }, kinds := [], alts := [], laidByText := true, laidKinds := [.data, .pinned], laidTests := true, laidLooks := .later }
def EditNothingUptoCardSaid : Prop := Claim7.holds Tryd.pinned (.plain (OpenSpec.upto editNothingSpec)) editNothingUptoCard

/-- THE SECOND FORM's CARD OF 'sealskinlaw03.EditForm'. -/
def editFormUptoCard : Claim7 := { stood := { row := editFormUptoRow, standIns := [], harness := (true, "ee487009e57c67d5a43e09ff757eb099842cd13883ae38e2a0f9c8305a9ea181"), looks := false }, kinds := [], alts := [], laidByText := true, laidKinds := [.data, .pinned], laidTests := true, laidLooks := .later }
def EditFormUptoCardSaid : Prop := Claim7.holds Tryd.pinned (.plain (OpenSpec.upto editFormSpec)) editFormUptoCard

/-- THE SECOND FORM's CARD OF 'sealskinlaw03.EditThrough'. -/
def editThroughUptoCard : Claim7 := { stood := { row := editThroughUptoRow, standIns := [], harness := (true, "ee487009e57c67d5a43e09ff757eb099842cd13883ae38e2a0f9c8305a9ea181"), looks := false }, kinds := [], alts := [], laidByText := true, laidKinds := [.data, .pinned], laidTests := true, laidLooks := .later }
def EditThroughUptoCardSaid : Prop := Claim7.holds Tryd.pinned (.plain (OpenSpec.upto editThroughSpec)) editThroughUptoCard

/-- THE SECOND FORM's CARD OF 'sealskinlaw03.EditGo'. -/
def editGoUptoCard : Claim7 := { stood := { row := editGoUptoRow, standIns := [], harness := (true, "ee487009e57c67d5a43e09ff757eb099842cd13883ae38e2a0f9c8305a9ea181"), looks := false }, kinds := [], alts := [], laidByText := true, laidKinds := [.data, .pinned], laidTests := true, laidLooks := .later }
def EditGoUptoCardSaid : Prop := Claim7.holds Tryd.pinned (.plain (OpenSpec.upto editGoSpec)) editGoUptoCard
end Rows
end Go.Proofs.YtgklklmcmdcpgaaDoor
