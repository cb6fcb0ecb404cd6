/-
  DERIVED. GIVEN WITH THE SEED: THE CARDS: each row of YtfohenhmlfiijaaGreatDoorRows.lean that lists a variable, with what it lists TIED to the program's text (the seventh form; the later family's looks); each row that meets fmt, with fmt's text TOLD by the authors' own Lean function (tested against real Go, not proved from fmt's source: count such statements apart). THE CARD IS WHAT COUNTS. Prove the row's statement (the work); the ties are given (YtfohenhmlfiijaaGreatDoorTie.lean); close each card by the builder's one call (the guide's Derived/Test/ToyasCard.lean, 'card_holds'). Laid BY PROGRAM, IN A SANDBOX (cutbox-door.mjs). By AI agents, Wed Nov 11 2026. No macro, syntax, notation, axiom, sorry.
-/
import Derived.Test.YtfohenhmlfiijaaGreatDoorRows
import GoSem.ClaimSeven
namespace Go.Proofs.YtfohenhmlfiijaaGreatDoor
namespace Rows

/-- THE TIED CARD OF 'colonnadelaw14.ExprTyped'. -/
def exprTypedCard : Claim7 := { stood := { row := exprTypedRow, standIns := [], harness := (true, "645a69249a1f36f742eacec2741052294ac208ee0599f81e5ee087eecadf3baa"), looks := true }, kinds := [], alts := [], laidByText := true, laidKinds := [.data, .data, .data, .data, .sentinel, .sentinel, .pinned], laidTests := true, laidLooks := .later }
def ExprTypedCardSaid : Prop := Claim7.holds Tryz.pinned (.plain (OpenSpec.ofChange exprTypedSpec)) exprTypedCard

/-- THE TIED CARD OF 'colonnadelaw14.ExprShifts'. -/
def exprShiftsCard : Claim7 := { stood := { row := exprShiftsRow, standIns := [], harness := (true, "645a69249a1f36f742eacec2741052294ac208ee0599f81e5ee087eecadf3baa"), looks := true }, kinds := [], alts := [], laidByText := true, laidKinds := [.data, .data, .data, .data, .sentinel, .sentinel, .pinned], laidTests := true, laidLooks := .later }
def ExprShiftsCardSaid : Prop := Claim7.holds Tryz.pinned (.plain (OpenSpec.ofChange exprShiftsSpec)) exprShiftsCard

/-- THE TIED CARD OF 'colonnadelaw14.ExprSafe'. -/
def exprSafeCard : Claim7 := { stood := { row := exprSafeRow, standIns := [], harness := (true, "645a69249a1f36f742eacec2741052294ac208ee0599f81e5ee087eecadf3baa"), looks := true }, kinds := [], alts := [], laidByText := true, laidKinds := [.data, .data, .data, .data, .sentinel, .sentinel, .pinned], laidTests := true, laidLooks := .later }
def ExprSafeCardSaid : Prop := Claim7.holds Tryz.pinned (.plain (OpenSpec.ofChange exprSafeSpec)) exprSafeCard

/-- THE SECOND FORM's CARD OF 'colonnadelaw14.ExprTyped'. -/
def exprTypedUptoCard : Claim7 := { stood := { row := exprTypedUptoRow, standIns := [], harness := (true, "645a69249a1f36f742eacec2741052294ac208ee0599f81e5ee087eecadf3baa"), looks := true }, kinds := [], alts := [], laidByText := true, laidKinds := [.data, .data, .data, .data, .sentinel, .sentinel, .pinned], laidTests := true, laidLooks := .later }
def ExprTypedUptoCardSaid : Prop := Claim7.holds Tryz.pinned (.plain (OpenSpec.upto exprTypedSpec)) exprTypedUptoCard

/-- THE SECOND FORM's CARD OF 'colonnadelaw14.ExprShifts'. -/
def exprShiftsUptoCard : Claim7 := { stood := { row := exprShiftsUptoRow, standIns := [], harness := (true, "645a69249a1f36f742eacec2741052294ac208ee0599f81e5ee087eecadf3baa"), looks := true }, kinds := [], alts := [], laidByText := true, laidKinds := [.data, .data, .data, .data, .sentinel, .sentinel, .pinned], laidTests := true, laidLooks := .later }
def ExprShiftsUptoCardSaid : Prop := Claim7.holds Tryz.pinned (.plain (OpenSpec.upto exprShiftsSpec)) exprShiftsUptoCard

/-- THE SECOND FORM's CARD OF 'colonnadelaw14.ExprSafe'. -/
def exprSafeUptoCard : Claim7 := { stood := { row := exprSafeUptoRow, standIns := [], harness := (true, "645a69249a1f36f742eacec2741052294ac208ee0599f81e5ee087eecadf3baa"), looks := true }, kinds := [], alts := [], laidByText := true, laidKinds := [.data, .data, .data, .data, .sentinel, .sentinel, .pinned], laidTests := true, laidLooks := .later }
def ExprSafeUptoCardSaid : Prop := Claim7.holds Tryz.pinned (.plain (OpenSpec.upto exprSafeSpec)) exprSafeUptoCard
end Rows
end Go.Proofs.YtfohenhmlfiijaaGreatDoor
