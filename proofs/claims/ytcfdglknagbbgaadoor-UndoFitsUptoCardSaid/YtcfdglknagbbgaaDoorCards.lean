/-
  DERIVED. GIVEN WITH THE SEED: THE CARDS: each row of YtcfdglknagbbgaaDoorRows.lean that lists a variable, with what it lists TIED to the program's text (the seventh form; the later family's looks); each row that meets fmt, with fmt's text TOLD by the authors' own Lean function (tested against real Go, not proved from fmt's source: count such statements apart). THE CARD IS WHAT COUNTS. Prove the row's statement (the work); the ties are given (YtcfdglknagbbgaaDoorTie.lean); close each card by the builder's one call (the guide's Derived/Test/ToyasCard.lean, 'card_holds'). Laid BY PROGRAM, IN A SANDBOX (cutbox-door.mjs). By AI agents, Wed Nov 11 2026. No macro, syntax, notation, axiom, sorry.
-/
import Derived.Test.YtcfdglknagbbgaaDoorRows
import GoSem.ClaimSeven
namespace Go.Proofs.YtcfdglknagbbgaaDoor
namespace Rows

/-- THE TIED CARD OF 'sealskinlaw17.UndoBack'. -/
def undoBackCard : Claim7 := { stood := { row := undoBackRow, standIns := [], harness := (true, "87a8c82a7ac1a3222eee662c0f1da945f908202a6ae4c1e21b5a8ab972ffc2f8"), looks := false }, kinds := [], alts := [], laidByText := true, laidKinds := [.data, .pinned], laidTests := true, laidLooks := .later }
def UndoBackCardSaid : Prop := Claim7.holds Tryd.pinned (.plain (OpenSpec.ofChange undoBackSpec)) undoBackCard

/-- THE TIED CARD OF 'sealskinlaw17.UndoOthers'. -/
def undoOthersCard : Claim7 := { stood := { row := undoOthersRow, standIns := [], harness := (true, "87a8c82a7ac1a3222eee662c0f1da945f908202a6ae4c1e21b5a8ab972ffc2f8"), looks := false }, kinds := [], alts := [], laidByText := true, laidKinds := [.data, .pinned], laidTests := true, laidLooks := .later }
def UndoOthersCardSaid : Prop := Claim7.holds Tryd.pinned (.plain (OpenSpec.ofChange undoOthersSpec)) undoOthersCard

/-- THE TIED CARD OF 'sealskinlaw17.UndoAll'. -/
def undoAllCard : Claim7 := { stood := { row := undoAllRow, standIns := [], harness := (true, "87a8c82a7ac1a3222eee662c0f1da945f908202a6ae4c1e21b5a8ab972ffc2f8"), looks := false }, kinds := [], alts := [], laidByText := true, laidKinds := [.data, .pinned], laidTests := true, laidLooks := .later }
def UndoAllCardSaid : Prop := Claim7.holds Tryd.pinned (.plain (OpenSpec.ofChange undoAllSpec)) undoAllCard

/-- THE TIED CARD OF 'sealskinlaw17.UndoFits'. -/
def undoFitsCard : Claim7 := { stood := { row := undoFitsRow, standIns := [], harness := (true, "87a8c82a7ac1a3222eee662c0f1da945f908202a6ae4c1e21b5a8ab972ffc2f8"), looks := false }, kinds := [], alts := [], laidByText := true, laidKinds := [.data, .pinned], laidTests := true, laidLooks := .later }
def UndoFitsCardSaid : Prop := Claim7.holds Tryd.pinned (.plain (OpenSpec.ofChange undoFitsSpec)) undoFitsCard

/-- THE SECOND FORM's CARD OF 'sealskinlaw17.UndoBack'. -/
def undoBackUptoCard : Claim7 := { stood := { row := undoBackUptoRow, standIns := [], harness := (true, "87a8c82a7ac1a3222eee662c0f1da945f908202a6ae4c1e21b5a8ab972ffc2f8"), looks := false }, kinds := [], alts := [], laidByText := true, laidKinds := [.data, .pinned], laidTests := true, laidLooks := .later }
def UndoBackUptoCardSaid : Prop := Claim7.holds Tryd.pinned (.plain (OpenSpec.upto undoBackSpec)) undoBackUptoCard

/-- THE SECOND FORM's CARD OF 'sealskinlaw17.UndoOthers'. -/
def undoOthersUptoCard : Claim7 := { stood := { row := undoOthersUptoRow, standIns := [], harness := (true, "87a8c82a7ac1a3222eee662c0f1da945f908202a6ae4c1e21b5a8ab972ffc2f8"), looks := false }, kinds := [], alts := [], laidByText := true, laidKinds := [.data, .pinned], laidTests := true, laidLooks := .later }
def UndoOthersUptoCardSaid : Prop := Claim7.holds Tryd.pinned (.plain (OpenSpec.upto undoOthersSpec)) undoOthersUptoCard

/-- THE SECOND FORM's CARD OF 'sealskinlaw17.UndoAll'. -/
def undoAllUptoCard : Claim7 := { stood := { row := undoAllUptoRow, standIns := [], harness := (true, "87a8c82a7ac1a3222eee662c0f1da945f908202a6ae4c1e21b5a8ab972ffc2f8"), looks := false }, kinds := [], alts := [], laidByText := true, laidKinds := [.data, .pinned], laidTests := true, laidLooks := .later }
def UndoAllUptoCardSaid : Prop := Claim7.holds Tryd.pinned (.plain (OpenSpec.upto undoAllSpec)) undoAllUptoCard

/-- THE SECOND FORM's CARD OF 'sealskinlaw17.UndoFits'. -/
def undoFitsUptoCard : Claim7 := { stood := { row := undoFitsUptoRow, standIns := [], harness := (true, "87a8c82a7ac1a3222eee662c0f1da945f908202a6ae4c1e21b5a8ab972ffc2f8"), looks := false }, kinds := [], alts := [], laidByText := true, laidKinds := [.data, .pinned], laidTests := true, laidLooks := .later }
def UndoFitsUptoCardSaid : Prop := Claim7.holds Tryd.pinned (.plain (OpenSpec.upto undoFitsSpec)) undoFitsUptoCard
end Rows
end Go.Proofs.YtcfdglknagbbgaaDoor
