/-
  DERIVED. GIVEN WITH THE SEED: THE CARDS: each row of YtmieillgepoaeaaGreatDoorRows.lean that lists a variable, with what it lists TIED to the program's text (the seventh form; the later family's looks); each row that meets fmt, with fmt's text TOLD by the authors' own Lean function (tested against real Go, not proved from fmt's source: count such statements apart). THE CARD IS WHAT COUNTS. Prove the row's statement (the work); the ties are given (YtmieillgepoaeaaGreatDoorTie.lean); close each card by the builder's one call (the guide's Derived/Test/ToyasCard.lean, 'card_holds'). Laid BY PROGRAM, IN A SANDBOX (cutbox-door.mjs). By AI agents, Wed Nov 11 2026. No macro, syntax, notation, axiom, sorry.
-/
import Derived.Test.YtmieillgepoaeaaGreatDoorRows
import GoSem.ClaimSeven
namespace Go.Proofs.YtmieillgepoaeaaGreatDoor
namespace Rows

/-- THE TIED CARD OF 'colonnadelaw18.PlanOver'. -/
def planOverCard : Claim7 := { stood := { row := planOverRow, standIns := [], harness := (true, "8e5d2daa42cba3f87cb29a8a4160dfcd54c5a5f81485e41dc6451a9ebb0b8d11"), looks := false }, kinds := [], alts := [], laidByText := true, laidKinds := [.data, .data, .data, .data, .pinned], laidTests := true, laidLooks := .later }
def PlanOverCardSaid : Prop := Claim7.holds Tryz.pinned (.plain (OpenSpec.ofChange planOverSpec)) planOverCard

/-- THE TIED CARD OF 'colonnadelaw18.PlanSplits'. -/
def planSplitsCard : Claim7 := { stood := { row := planSplitsRow, standIns := [], harness := (true, "8e5d2daa42cba3f87cb29a8a4160dfcd54c5a5f81485e41dc6451a9ebb0b8d11"), looks := false }, kinds := [], alts := [], laidByText := true, laidKinds := [.data, .data, .data, .data, .pinned], laidTests := true, laidLooks := .later }
def PlanSplitsCardSaid : Prop := Claim7.holds Tryz.pinned (.plain (OpenSpec.ofChange planSplitsSpec)) planSplitsCard

/-- THE SECOND FORM's CARD OF 'colonnadelaw18.PlanOver'. -/
def planOverUptoCard : Claim7 := { stood := { row := planOverUptoRow, standIns := [], harness := (true, "8e5d2daa42cba3f87cb29a8a4160dfcd54c5a5f81485e41dc6451a9ebb0b8d11"), looks := false }, kinds := [], alts := [], laidByText := true, laidKinds := [.data, .data, .data, .data, .pinned], laidTests := true, laidLooks := .later }
def PlanOverUptoCardSaid : Prop := Claim7.holds Tryz.pinned (.plain (OpenSpec.upto planOverSpec)) planOverUptoCard

/-- THE SECOND FORM's CARD OF 'colonnadelaw18.PlanSplits'. -/
def planSplitsUptoCard : Claim7 := { stood := { row := planSplitsUptoRow, standIns := [], harness := (true, "8e5d2daa42cba3f87cb29a8a4160dfcd54c5a5f81485e41dc6451a9ebb0b8d11"), looks := false }, kinds := [], alts := [], laidByText := true, laidKinds := [.data, .data, .data, .data, .pinned], laidTests := true, laidLooks := .later }
def PlanSplitsUptoCardSaid : Prop := Claim7.holds Tryz.pinned (.plain (OpenSpec.upto planSplitsSpec)) planSplitsUptoCard
end Rows
end Go.Proofs.YtmieillgepoaeaaGreatDoor
