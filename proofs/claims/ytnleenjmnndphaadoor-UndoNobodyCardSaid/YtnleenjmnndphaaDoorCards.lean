/-
  DERIVED. GIVEN WITH THE SEED: THE CARDS: each row of YtnleenjmnndphaaDoorRows.lean that lists a variable, with what it lists TIED to the program's text (the seventh form; the later family's looks); each row that meets fmt, with fmt's text TOLD by the authors' own Lean function (tested against real Go, not proved from fmt's source: count such statements apart). THE CARD IS WHAT COUNTS. Prove the row's statement (the work); the ties are given (YtnleenjmnndphaaDoorTie.lean); close each card by the builder's one call (the guide's Derived/Test/ToyasCard.lean, 'card_holds'). Laid BY PROGRAM, IN A SANDBOX (cutbox-door.mjs). By AI agents, Wed Nov 11 2026. No macro, syntax, notation, axiom, sorry.
-/
import Derived.Test.YtnleenjmnndphaaDoorRows
import GoSem.ClaimSeven
namespace Go.Proofs.YtnleenjmnndphaaDoor
namespace Rows

/-- THE TIED CARD OF 'sealskinlaw10.DiffDiffs'. -/
def diffDiffsCard : Claim7 := { stood := { row := diffDiffsRow, standIns := [], harness := (true, "65ec252b9a90d1ca2d1098ced44eb5311315135dd94a95723a72ae290f864112"), looks := false }, kinds := [], alts := [], laidByText := true, laidKinds := [.data, .pinned], laidTests := true, laidLooks := .later }
def DiffDiffsCardSaid : Prop := Claim7.holds Tryd.pinned (.plain (OpenSpec.ofChange diffDiffsSpec)) diffDiffsCard

/-- THE TIED CARD OF 'sealskinlaw10.DiffOne'. -/
def diffOneCard : Claim7 := { stood := { row := diffOneRow, standIns := [], harness := (true, "65ec252b9a90d1ca2d1098ced44eb5311315135dd94a95723a72ae290f864112"), looks := false }, kinds := [], alts := [], laidByText := true, laidKinds := [.data, .pinned], laidTests := true, laidLooks := .later }
def DiffOneCardSaid : Prop := Claim7.holds Tryd.pinned (.plain (OpenSpec.ofChange diffOneSpec)) diffOneCard

/-- THE TIED CARD OF 'sealskinlaw10.DiffLeads'. -/
def diffLeadsCard : Claim7 := { stood := { row := diffLeadsRow, standIns := [], harness := (true, "65ec252b9a90d1ca2d1098ced44eb5311315135dd94a95723a72ae290f864112"), looks := false }, kinds := [], alts := [], laidByText := true, laidKinds := [.data, .pinned], laidTests := true, laidLooks := .later }
def DiffLeadsCardSaid : Prop := Claim7.holds Tryd.pinned (.plain (OpenSpec.ofChange diffLeadsSpec)) diffLeadsCard

/-- THE TIED CARD OF 'sealskinlaw10.DiffShort'. -/
def diffShortCard : Claim7 := { stood := { row := diffShortRow, standIns := [], harness := (true, "65ec252b9a90d1ca2d1098ced44eb5311315135dd94a95723a72ae290f864112"), looks := false }, kinds := [], alts := [], laidByText := true, laidKinds := [.data, .pinned], laidTests := true, laidLooks := .later }
def DiffShortCardSaid : Prop := Claim7.holds Tryd.pinned (.plain (OpenSpec.ofChange diffShortSpec)) diffShortCard

/-- THE TIED CARD OF 'sealskinlaw10.DiffLong'. -/
def diffLongCard : Claim7 := { stood := { row := diffLongRow, standIns := [], harness := (true, "65ec252b9a90d1ca2d1098ced44eb5311315135dd94a95723a72ae290f864112"), looks := false }, kinds := [], alts := [], laidByText := true, laidKinds := [.data, .pinned], laidTests := true, laidLooks := .later }
def DiffLongCardSaid : Prop := Claim7.holds Tryd.pinned (.plain (OpenSpec.ofChange diffLongSpec)) diffLongCard

/-- THE TIED CARD OF 'sealskinlaw10.DiffKept'. -/
def diffKeptCard : Claim7 := { stood := { row := diffKeptRow, standIns := [], harness := (true, "65ec252b9a90d1ca2d1098ced44eb5311315135dd94a95723a72ae290f864112"), looks := false }, kinds := [], alts := [], laidByText := true, laidKinds := [.data, .pinned], laidTests := true, laidLooks := .later }
def DiffKeptCardSaid : Prop := Claim7.holds Tryd.pinned (.plain (OpenSpec.ofChange diffKeptSpec)) diffKeptCard

/-- THE TIED CARD OF 'sealskinlaw10.DiffEither'. -/
def diffEitherCard : Claim7 := { stood := { row := diffEitherRow, standIns := [], harness := (true, "65ec252b9a90d1ca2d1098ced44eb5311315135dd94a95723a72ae290f864112"), looks := false }, kinds := [], alts := [], laidByText := true, laidKinds := [.data, .pinned], laidTests := true, laidLooks := .later }
def DiffEitherCardSaid : Prop := Claim7.holds Tryd.pinned (.plain (OpenSpec.ofChange diffEitherSpec)) diffEitherCard

/-- THE TIED CARD OF 'sealskinlaw17.UndoBack'. -/
def undoBackCard : Claim7 := { stood := { row := undoBackRow, standIns := [], harness := (true, "65ec252b9a90d1ca2d1098ced44eb5311315135dd94a95723a72ae290f864112"), looks := false }, kinds := [], alts := [], laidByText := true, laidKinds := [.data, .pinned], laidTests := true, laidLooks := .later }
def UndoBackCardSaid : Prop := Claim7.holds Tryd.pinned (.plain (OpenSpec.ofChange undoBackSpec)) undoBackCard

/-- THE TIED CARD OF 'sealskinlaw17.UndoOthers'. -/
def undoOthersCard : Claim7 := { stood := { row := undoOthersRow, standIns := [], harness := (true, "65ec252b9a90d1ca2d1098ced44eb5311315135dd94a95723a72ae290f864112"), looks := false }, kinds := [], alts := [], laidByText := true, laidKinds := [.data, .pinned], laidTests := true, laidLooks := .later }
def UndoOthersCardSaid : Prop := Claim7.holds Tryd.pinned (.plain (OpenSpec.ofChange undoOthersSpec)) undoOthersCard

/-- THE TIED CARD OF 'sealskinlaw17.UndoAll'. -/
def undoAllCard : Claim7 := { stood := { row := undoAllRow, standIns := [], harness := (true, "65ec252b9a90d1ca2d1098ced44eb5311315135dd94a95723a72ae290f864112"), looks := false }, kinds := [], alts := [], laidByText := true, laidKinds := [.data, .pinned], laidTests := true, laidLooks := .later }
def UndoAllCardSaid : Prop := Claim7.holds Tryd.pinned (.plain (OpenSpec.ofChange undoAllSpec)) undoAllCard

/-- THE TIED CARD OF 'sealskinlaw17.UndoFits'. -/
def undoFitsCard : Claim7 := { stood := { row := undoFitsRow, standIns := [], harness := (true, "65ec252b9a90d1ca2d1098ced44eb5311315135dd94a95723a72ae290f864112"), looks := false }, kinds := [], alts := [], laidByText := true, laidKinds := [.data, .pinned], laidTests := true, laidLooks := .later }
def UndoFitsCardSaid : Prop := Claim7.holds Tryd.pinned (.plain (OpenSpec.ofChange undoFitsSpec)) undoFitsCard

/-- THE TIED CARD OF 'sealskinlaw17.UndoMost'. -/
def undoMostCard : Claim7 := { stood := { row := undoMostRow, standIns := [], harness := (true, "65ec252b9a90d1ca2d1098ced44eb5311315135dd94a95723a72ae290f864112"), looks := false }, kinds := [], alts := [], laidByText := true, laidKinds := [.data, .pinned], laidTests := true, laidLooks := .later }
def UndoMostCardSaid : Prop := Claim7.holds Tryd.pinned (.plain (OpenSpec.ofChange undoMostSpec)) undoMostCard

/-- THE TIED CARD OF 'sealskinlaw17.UndoPlays'. -/
def undoPlaysCard : Claim7 := { stood := { row := undoPlaysRow, standIns := [], harness := (true, "65ec252b9a90d1ca2d1098ced44eb5311315135dd94a95723a72ae290f864112"), looks := false }, kinds := [], alts := [], laidByText := true, laidKinds := [.data, .pinned], laidTests := true, laidLooks := .later }
def UndoPlaysCardSaid : Prop := Claim7.holds Tryd.pinned (.plain (OpenSpec.ofChange undoPlaysSpec)) undoPlaysCard

/-- THE TIED CARD OF 'sealskinlaw17.UndoNobody'. -/
def undoNobodyCard : Claim7 := { stood := { row := undoNobodyRow, standIns := [], harness := (true, "65ec252b9a90d1ca2d1098ced44eb5311315135dd94a95723a72ae290f864112"), looks := false }, kinds := [], alts := [], laidByText := true, laidKinds := [.data, .pinned], laidTests := true, laidLooks := .later }
def UndoNobodyCardSaid : Prop := Claim7.holds Tryd.pinned (.plain (OpenSpec.ofChange undoNobodySpec)) undoNobodyCard

/-- THE SECOND FORM's CARD OF 'sealskinlaw10.DiffDiffs'. -/
def diffDiffsUptoCard : Claim7 := { stood := { row := diffDiffsUptoRow, standIns := [], harness := (true, "65ec252b9a90d1ca2d1098ced44eb5311315135dd94a95723a72ae290f864112"), looks := false }, kinds := [], alts := [], laidByText := true, laidKinds := [.data, .pinned], laidTests := true, laidLooks := .later }
def DiffDiffsUptoCardSaid : Prop := Claim7.holds Tryd.pinned (.plain (OpenSpec.upto diffDiffsSpec)) diffDiffsUptoCard

/-- THE SECOND FORM's CARD OF 'sealskinlaw10.DiffOne'. -/
def diffOneUptoCard : Claim7 := { stood := { row := diffOneUptoRow, standIns := [], harness := (true, "65ec252b9a90d1ca2d1098ced44eb5311315135dd94a95723a72ae290f864112"), looks := false }, kinds := [], alts := [], laidByText := true, laidKinds := [.data, .pinned], laidTests := true, laidLooks := .later }
def DiffOneUptoCardSaid : Prop := Claim7.holds Tryd.pinned (.plain (OpenSpec.upto diffOneSpec)) diffOneUptoCard

/-- THE SECOND FORM's CARD OF 'sealskinlaw10.DiffLeads'. -/
def diffLeadsUptoCard : Claim7 := { stood := { row := diffLeadsUptoRow, standIns := [], harness := (true, "65ec252b9a90d1ca2d1098ced44eb5311315135dd94a95723a72ae290f864112"), looks := false }, kinds := [], alts := [], laidByText := true, laidKinds := [.data, .pinned], laidTests := true, laidLooks := .later }
def DiffLeadsUptoCardSaid : Prop := Claim7.holds Tryd.pinned (.plain (OpenSpec.upto diffLeadsSpec)) diffLeadsUptoCard

/-- THE SECOND FORM's CARD OF 'sealskinlaw10.DiffShort'. -/
def diffShortUptoCard : Claim7 := { stood := { row := diffShortUptoRow, standIns := [], harness := (true, "65ec252b9a90d1ca2d1098ced44eb5311315135dd94a95723a72ae290f864112"), looks := false }, kinds := [], alts := [], laidByText := true, laidKinds := [.data, .pinned], laidTests := true, laidLooks := .later }
def DiffShortUptoCardSaid : Prop := Claim7.holds Tryd.pinned (.plain (OpenSpec.upto diffShortSpec)) diffShortUptoCard

/-- THE SECOND FORM's CARD OF 'sealskinlaw10.DiffLong'. -/
def diffLongUptoCard : Claim7 := { stood := { row := diffLongUptoRow, standIns := [], harness := (true, "65ec252b9a90d1ca2d1098ced44eb5311315135dd94a95723a72ae290f864112"), looks := false }, kinds := [], alts := [], laidByText := true, laidKinds := [.data, .pinned], laidTests := true, laidLooks := .later }
def DiffLongUptoCardSaid : Prop := Claim7.holds Tryd.pinned (.plain (OpenSpec.upto diffLongSpec)) diffLongUptoCard

/-- THE SECOND FORM's CARD OF 'sealskinlaw10.DiffKept'. -/
def diffKeptUptoCard : Claim7 := { stood := { row := diffKeptUptoRow, standIns := [], harness := (true, "65ec252b9a90d1ca2d1098ced44eb5311315135dd94a95723a72ae290f864112"), looks := false }, kinds := [], alts := [], laidByText := true, laidKinds := [.data, .pinned], laidTests := true, laidLooks := .later }
def DiffKeptUptoCardSaid : Prop := Claim7.holds Tryd.pinned (.plain (OpenSpec.upto diffKeptSpec)) diffKeptUptoCard

/-- THE SECOND FORM's CARD OF 'sealskinlaw10.DiffEither'. -/
def diffEitherUptoCard : Claim7 := { stood := { row := diffEitherUptoRow, standIns := [], harness := (true, "65ec252b9a90d1ca2d1098ced44eb5311315135dd94a95723a72ae290f864112"), looks := false }, kinds := [], alts := [], laidByText := true, laidKinds := [.data, .pinned], laidTests := true, laidLooks := .later }
def DiffEitherUptoCardSaid : Prop := Claim7.holds Tryd.pinned (.plain (OpenSpec.upto diffEitherSpec)) diffEitherUptoCard

/-- THE SECOND FORM's CARD OF 'sealskinlaw17.UndoBack'. -/
def undoBackUptoCard : Claim7 := { stood := { row := undoBackUptoRow, standIns := [], harness := (true, "65ec252b9a90d1ca2d1098ced44eb5311315135dd94a95723a72ae290f864112"), looks := false }, kinds := [], alts := [], laidByText := true, laidKinds := [.data, .pinned], laidTests := true, laidLooks := .later }
def UndoBackUptoCardSaid : Prop := Claim7.holds Tryd.pinned (.plain (OpenSpec.upto undoBackSpec)) undoBackUptoCard

/-- THE SECOND FORM's CARD OF 'sealskinlaw17.UndoOthers'. -/
def undoOthersUptoCard : Claim7 := { stood := { row := undoOthersUptoRow, standIns := [], harness := (true, "65ec252b9a90d1ca2d1098ced44eb5311315135dd94a95723a72ae290f864112"), looks := false }, kinds := [], alts := [], laidByText := true, laidKinds := [.data, .pinned], laidTests := true, laidLooks := .later }
def UndoOthersUptoCardSaid : Prop := Claim7.holds Tryd.pinned (.plain (OpenSpec.upto undoOthersSpec)) undoOthersUptoCard

/-- THE SECOND FORM's CARD OF 'sealskinlaw17.UndoAll'. -/
def undoAllUptoCard : Claim7 := { stood := { row := undoAllUptoRow, standIns := [], harness := (true, "65ec252b9a90d1ca2d1098ced44eb5311315135dd94a95723a72ae290f864112"), looks := false }, kinds := [], alts := [], laidByText := true, laidKinds := [.data, .pinned], laidTests := true, laidLooks := .later }
def UndoAllUptoCardSaid : Prop := Claim7.holds Tryd.pinned (.plain (OpenSpec.upto undoAllSpec)) undoAllUptoCard

/-- THE SECOND FORM's CARD OF 'sealskinlaw17.UndoFits'. -/
def undoFitsUptoCard : Claim7 := { stood := { row := undoFitsUptoRow, standIns := [], harness := (true, "65ec252b9a90d1ca2d1098ced44eb5311315135dd94a95723a72ae290f864112"), looks := false }, kinds := [], alts := [], laidByText := true, laidKinds := [.data, .pinned], laidTests := true, laidLooks := .later }
def UndoFitsUptoCardSaid : Prop := Claim7.holds Tryd.pinned (.plain (OpenSpec.upto undoFitsSpec)) undoFitsUptoCard

/-- THE SECOND FORM's CARD OF 'sealskinlaw17.UndoMost'. -/
def undoMostUptoCard : Claim7 := { stood := { row := undoMostUptoRow, standIns := [], harness := (true, "65ec252b9a90d1ca2d1098ced44eb5311315135dd94a95723a72ae290f864112"), looks := false }, kinds := [], alts := [], laidByText := true, laidKinds := [.data, .pinned], laidTests := true, laidLooks := .later }
def UndoMostUptoCardSaid : Prop := Claim7.holds Tryd.pinned (.plain (OpenSpec.upto undoMostSpec)) undoMostUptoCard

/-- THE SECOND FORM's CARD OF 'sealskinlaw17.UndoPlays'. -/
def undoPlaysUptoCard : Claim7 := { stood := { row := undoPlaysUptoRow, standIns := [], harness := (true, "65ec252b9a90d1ca2d1098ced44eb5311315135dd94a95723a72ae290f864112"), looks := false }, kinds := [], alts := [], laidByText := true, laidKinds := [.data, .pinned], laidTests := true, laidLooks := .later }
def UndoPlaysUptoCardSaid : Prop := Claim7.holds Tryd.pinned (.plain (OpenSpec.upto undoPlaysSpec)) undoPlaysUptoCard

/-- THE SECOND FORM's CARD OF 'sealskinlaw17.UndoNobody'. -/
def undoNobodyUptoCard : Claim7 := { stood := { row := undoNobodyUptoRow, standIns := [], harness := (true, "65ec252b9a90d1ca2d1098ced44eb5311315135dd94a95723a72ae290f864112"), looks := false }, kinds := [], alts := [], laidByText := true, laidKinds := [.data, .pinned], laidTests := true, laidLooks := .later }
def UndoNobodyUptoCardSaid : Prop := Claim7.holds Tryd.pinned (.plain (OpenSpec.upto undoNobodySpec)) undoNobodyUptoCard
end Rows
end Go.Proofs.YtnleenjmnndphaaDoor
