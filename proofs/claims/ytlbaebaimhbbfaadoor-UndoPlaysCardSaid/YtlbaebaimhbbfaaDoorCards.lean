/-
  DERIVED. GIVEN WITH THE SEED: THE CARDS: each row of YtlbaebaimhbbfaaDoorRows.lean that lists a variable, with what it lists TIED to the program's text (the seventh form; the later family's looks); each row that meets fmt, with fmt's text TOLD by the authors' own Lean function (tested against real Go, not proved from fmt's source: count such statements apart). THE CARD IS WHAT COUNTS. Prove the row's statement (the work); the ties are given (YtlbaebaimhbbfaaDoorTie.lean); close each card by the builder's one call (the guide's Derived/Test/ToyasCard.lean, 'card_holds'). Laid BY PROGRAM, IN A SANDBOX (cutbox-door.mjs). By AI agents, Wed Nov 11 2026. No macro, syntax, notation, axiom, sorry.
-/
import Derived.Test.YtlbaebaimhbbfaaDoorRows
import GoSem.ClaimSeven
namespace Go.Proofs.YtlbaebaimhbbfaaDoor
namespace Rows

/-- THE TIED CARD OF 'sealskinlaw17.UndoPlays'. -/
def undoPlaysCard : Claim7 := { stood := { row := undoPlaysRow, standIns := [], harness := (true, "e7b1356341c799a801a3a8e92aff0b7bf6486ae821a384a074359c6fc74de527"), looks := false }, kinds := [], alts := [], laidByText := true, laidKinds := [.data, .pinned], laidTests := true, laidLooks := .later }
def UndoPlaysCardSaid : Prop := Claim7.holds Tryd.pinned (.plain (OpenSpec.ofChange undoPlaysSpec)) undoPlaysCard

/-- THE SECOND FORM's CARD OF 'sealskinlaw17.UndoPlays'. -/
def undoPlaysUptoCard : Claim7 := { stood := { row := undoPlaysUptoRow, standIns := [], harness := (true, "e7b1356341c799a801a3a8e92aff0b7bf6486ae821a384a074359c6fc74de527"), looks := false }, kinds := [], alts := [], laidByText := true, laidKinds := [.data, .pinned], laidTests := true, laidLooks := .later }
def UndoPlaysUptoCardSaid : Prop := Claim7.holds Tryd.pinned (.plain (OpenSpec.upto undoPlaysSpec)) undoPlaysUptoCard
end Rows
end Go.Proofs.YtlbaebaimhbbfaaDoor
