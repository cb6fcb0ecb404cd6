/-
  DERIVED. GIVEN WITH THE SEED: THE CARDS: each row of YtckihdaalmgbiaaGreatDoorRows.lean that lists a variable, with what it lists TIED to the program's text (the seventh form; the later family's looks); each row that meets fmt, with fmt's text TOLD by the authors' own Lean function (tested against real Go, not proved from fmt's source: count such statements apart). THE CARD IS WHAT COUNTS. Prove the row's statement (the work); the ties are given (YtckihdaalmgbiaaGreatDoorTie.lean); close each card by the builder's one call (the guide's Derived/Test/ToyasCard.lean, 'card_holds'). Laid BY PROGRAM, IN A SANDBOX (cutbox-door.mjs). By AI agents, Wed Nov 11 2026. No macro, syntax, notation, axiom, sorry.
-/
import Derived.Test.YtckihdaalmgbiaaGreatDoorRows
import GoSem.ClaimSeven
namespace Go.Proofs.YtckihdaalmgbiaaGreatDoor
namespace Rows

/-- THE TIED CARD OF 'colonnadelaw20.RewriteFolds'. -/
def rewriteFoldsCard : Claim7 := { stood := { row := rewriteFoldsRow, standIns := [], harness := (true, "ce515e8baf55b097f31cd550922b173c914f8cedaf38e68cceeb1a61e5e1ef00"), looks := true }, kinds := [], alts := [], laidByText := true, laidKinds := [.data, .data, .data, .data, .sentinel, .sentinel, .pinned], laidTests := true, laidLooks := .later }
def RewriteFoldsCardSaid : Prop := Claim7.holds Tryz.pinned (.plain (OpenSpec.ofChange rewriteFoldsSpec)) rewriteFoldsCard

/-- THE TIED CARD OF 'colonnadelaw20.RewriteValues'. -/
def rewriteValuesCard : Claim7 := { stood := { row := rewriteValuesRow, standIns := [], harness := (true, "ce515e8baf55b097f31cd550922b173c914f8cedaf38e68cceeb1a61e5e1ef00"), looks := true }, kinds := [], alts := [], laidByText := true, laidKinds := [.data, .data, .data, .data, .sentinel, .sentinel, .pinned], laidTests := true, laidLooks := .later }
def RewriteValuesCardSaid : Prop := Claim7.holds Tryz.pinned (.plain (OpenSpec.ofChange rewriteValuesSpec)) rewriteValuesCard

/-- THE TIED CARD OF 'colonnadelaw20.RewriteParts'. -/
def rewritePartsCard : Claim7 := { stood := { row := rewritePartsRow, standIns := [], harness := (true, "ce515e8baf55b097f31cd550922b173c914f8cedaf38e68cceeb1a61e5e1ef00"), looks := true }, kinds := [], alts := [], laidByText := true, laidKinds := [.data, .data, .data, .data, .sentinel, .sentinel, .pinned], laidTests := true, laidLooks := .later }
def RewritePartsCardSaid : Prop := Claim7.holds Tryz.pinned (.plain (OpenSpec.ofChange rewritePartsSpec)) rewritePartsCard

/-- THE SECOND FORM's CARD OF 'colonnadelaw20.RewriteFolds'. -/
def rewriteFoldsUptoCard : Claim7 := { stood := { row := rewriteFoldsUptoRow, standIns := [], harness := (true, "ce515e8baf55b097f31cd550922b173c914f8cedaf38e68cceeb1a61e5e1ef00"), looks := true }, kinds := [], alts := [], laidByText := true, laidKinds := [.data, .data, .data, .data, .sentinel, .sentinel, .pinned], laidTests := true, laidLooks := .later }
def RewriteFoldsUptoCardSaid : Prop := Claim7.holds Tryz.pinned (.plain (OpenSpec.upto rewriteFoldsSpec)) rewriteFoldsUptoCard

/-- THE SECOND FORM's CARD OF 'colonnadelaw20.RewriteValues'. -/
def rewriteValuesUptoCard : Claim7 := { stood := { row := rewriteValuesUptoRow, standIns := [], harness := (true, "ce515e8baf55b097f31cd550922b173c914f8cedaf38e68cceeb1a61e5e1ef00"), looks := true }, kinds := [], alts := [], laidByText := true, laidKinds := [.data, .data, .data, .data, .sentinel, .sentinel, .pinned], laidTests := true, laidLooks := .later }
def RewriteValuesUptoCardSaid : Prop := Claim7.holds Tryz.pinned (.plain (OpenSpec.upto rewriteValuesSpec)) rewriteValuesUptoCard

/-- THE SECOND FORM's CARD OF 'colonnadelaw20.RewriteParts'. -/
def rewritePartsUptoCard : Claim7 := { stood := { row := rewritePartsUptoRow, standIns := [], harness := (true, "ce515e8baf55b097f31cd550922b173c914f8cedaf38e68cceeb1a61e5e1ef00"), looks := true }, kinds := [], alts := [], laidByText := true, laidKinds := [.data, .data, .data, .data, .sentinel, .sentinel, .pinned], laidTests := true, laidLooks := .later }
def RewritePartsUptoCardSaid : Prop := Claim7.holds Tryz.pinned (.plain (OpenSpec.upto rewritePartsSpec)) rewritePartsUptoCard
end Rows
end Go.Proofs.YtckihdaalmgbiaaGreatDoor
