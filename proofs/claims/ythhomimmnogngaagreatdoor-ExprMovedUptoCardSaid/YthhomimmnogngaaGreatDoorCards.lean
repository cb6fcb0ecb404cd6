/-
  DERIVED. GIVEN WITH THE SEED: THE CARDS: each row of YthhomimmnogngaaGreatDoorRows.lean that lists a variable, with what it lists TIED to the program's text (the seventh form; the later family's looks); each row that meets fmt, with fmt's text TOLD by the authors' own Lean function (tested against real Go, not proved from fmt's source: count such statements apart). THE CARD IS WHAT COUNTS. Prove the row's statement (the work); the ties are given (YthhomimmnogngaaGreatDoorTie.lean); close each card by the builder's one call (the guide's Derived/Test/ToyasCard.lean, 'card_holds'). Laid BY PROGRAM, IN A SANDBOX (cutbox-door.mjs). By AI agents, Wed Nov 11 2026. No macro, syntax, notation, axiom, sorry.
-/
import Derived.Test.YthhomimmnogngaaGreatDoorRows
import GoSem.ClaimSeven
namespace Go.Proofs.YthhomimmnogngaaGreatDoor
namespace Rows

/-- THE TIED CARD OF 'colonnadelaw14.ExprMoved'. -/
def exprMovedCard : Claim7 := { stood := { row := exprMovedRow, standIns := [], harness := (true, "91b8f28c3124f02a591d75ee275c7147cca0ee1b97c62b879b373df58a1ae9c5"), looks := true }, kinds := [], alts := [], laidByText := true, laidKinds := [.data, .data, .data, .data, .sentinel, .sentinel, .pinned], laidTests := true, laidLooks := .later }
def ExprMovedCardSaid : Prop := Claim7.holds Tryz.pinned (.plain (OpenSpec.ofChange exprMovedSpec)) exprMovedCard

/-- THE SECOND FORM's CARD OF 'colonnadelaw14.ExprMoved'. -/
def exprMovedUptoCard : Claim7 := { stood := { row := exprMovedUptoRow, standIns := [], harness := (true, "91b8f28c3124f02a591d75ee275c7147cca0ee1b97c62b879b373df58a1ae9c5"), looks := true }, kinds := [], alts := [], laidByText := true, laidKinds := [.data, .data, .data, .data, .sentinel, .sentinel, .pinned], laidTests := true, laidLooks := .later }
def ExprMovedUptoCardSaid : Prop := Claim7.holds Tryz.pinned (.plain (OpenSpec.upto exprMovedSpec)) exprMovedUptoCard
end Rows
end Go.Proofs.YthhomimmnogngaaGreatDoor
