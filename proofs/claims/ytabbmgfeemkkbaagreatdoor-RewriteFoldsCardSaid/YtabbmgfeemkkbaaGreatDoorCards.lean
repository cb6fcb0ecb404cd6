/-
  DERIVED. GIVEN WITH THE SEED: THE CARDS: each row of YtabbmgfeemkkbaaGreatDoorRows.lean that lists a variable, with what it lists TIED to the program's text (the seventh form; the later family's looks); each row that meets fmt, with fmt's text TOLD by the authors' own Lean function (tested against real Go, not proved from fmt's source: count such statements apart). THE CARD IS WHAT COUNTS. Prove the row's statement (the work); the ties are given (YtabbmgfeemkkbaaGreatDoorTie.lean); close each card by the builder's one call (the guide's Derived/Test/ToyasCard.lean, 'card_holds'). Laid BY PROGRAM, IN A SANDBOX (cutbox-door.mjs). By AI agents, Wed Nov 11 2026. No macro, syntax, notation, axiom, sorry.
-/
import Derived.Test.YtabbmgfeemkkbaaGreatDoorRows
import GoSem.ClaimSeven
namespace Go.Proofs.YtabbmgfeemkkbaaGreatDoor
namespace Rows

/-- THE TIED CARD OF 'colonnadelaw20.RewriteFolds'. -/
def rewriteFoldsCard : Claim7 := { stood := { row := rewriteFoldsRow, standIns := [], harness := (true, "909a184bc5a7548390d2735e8d8e0144e8ab06b17aa8f0347a2959e470db1e80"), looks := true }, kinds := [], alts := [], laidByText := true, laidKinds := [.data, .data, .data, .data, .sentinel, .sentinel, .pinned], laidTests := true, laidLooks := .later }
def RewriteFoldsCardSaid : Prop := Claim7.holds Tryz.pinned (.plain (OpenSpec.ofChange rewriteFoldsSpec)) rewriteFoldsCard

/-- THE TIED CARD OF 'colonnadelaw20.RewriteValues'. -/
def rewriteValuesCard : Claim7 := { stood := { row := rewriteValuesRow, standIns := [], harness := (true, "909a184bc5a7548390d2735e8d8e0144e8ab06b17aa8f0347a2959e470db1e80"), looks := true }, kinds := [], alts := [], laidByText := true, laidKinds := [.data, .data, .data, .data, .sentinel, .sentinel, .pinned], laidTests := true, laidLooks := .later }
def RewriteValuesCardSaid : Prop := Claim7.holds Tryz.pinned (.plain (OpenSpec.ofChange rewriteValuesSpec)) rewriteValuesCard

/-- THE SECOND FORM's CARD OF 'colonnadelaw20.RewriteFolds'. -/
def rewriteFoldsUptoCard : Claim7 := { stood := { row := rewriteFoldsUptoRow, standIns := [], harness := (true, "909a184bc5a7548390d2735e8d8e0144e8ab06b17aa8f0347a2959e470db1e80"), looks := true }, kinds := [], alts := [], laidByText := true, laidKinds := [.data, .data, .data, .data, .sentinel, .sentinel, .pinned], laidTests := true, laidLooks := .later }
def RewriteFoldsUptoCardSaid : Prop := Claim7.holds Tryz.pinned (.plain (OpenSpec.upto rewriteFoldsSpec)) rewriteFoldsUptoCard

/-- THE SECOND FORM's CARD OF 'colonnadelaw20.RewriteValues'. -/
def rewriteValuesUptoCard : Claim7 := { stood := { row := rewriteValuesUptoRow, standIns := [], harness := (true, "909a184bc5a7548390d2735e8d8e0144e8ab06b17aa8f0347a2959e470db1e80"), looks := true }, kinds := [], alts := [], laidByText := true, laidKinds := [.data, .data, .data, .data, .sentinel, .sentinel, .pinned], laidTests := true, laidLooks := .later }
def RewriteValuesUptoCardSaid : Prop := Claim7.holds Tryz.pinned (.plain (OpenSpec.upto rewriteValuesSpec)) rewriteValuesUptoCard
end Rows
end Go.Proofs.YtabbmgfeemkkbaaGreatDoor
