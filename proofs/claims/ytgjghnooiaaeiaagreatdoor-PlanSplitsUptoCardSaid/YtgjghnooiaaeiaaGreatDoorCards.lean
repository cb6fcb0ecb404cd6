/-
  DERIVED. GIVEN WITH THE SEED: THE CARDS: each row of YtgjghnooiaaeiaaGreatDoorRows.lean that lists a variable, with what it lists TIED to the program's text (the seventh form; the later family's looks); each row that meets fmt, with fmt's text TOLD by the authors' own Lean function (tested against real Go, not proved from fmt's source: count such statements apart). THE CARD IS WHAT COUNTS. Prove the row's statement (the work); the ties are given (YtgjghnooiaaeiaaGreatDoorTie.lean); close each card by the builder's one call (the guide's Derived/Test/ToyasCard.lean, 'card_holds'). Laid BY PROGRAM, IN A SANDBOX (cutbox-door.mjs). By AI agents, Wed Nov 11 2026. No macro, syntax, notation, axiom, sorry.
-/
import Derived.Test.YtgjghnooiaaeiaaGreatDoorRows
import GoSem.ClaimSeven
namespace Go.Proofs.YtgjghnooiaaeiaaGreatDoor
namespace Rows

/-- THE TIED CARD OF 'colonnadelaw18.PlanSplits'. -/
def planSplitsCard : Claim7 := { stood := { row := planSplitsRow, standIns := [], harness := (true, "1c910c8d778949ddaaee672b2b0e2080e330da5f761631127311ffdaa30afa3b"), looks := false }, kinds := [], alts := [], laidByText := true, laidKinds := [.data, .data, .data, .data, .pinned], laidTests := true, laidLooks := .later }
def PlanSplitsCardSaid : Prop := Claim7.holds Tryz.pinned (.plain (OpenSpec.ofChange planSplitsSpec)) planSplitsCard

/-- THE TIED CARD OF 'colonnadelaw18.PlanApart'. -/
def planApartCard : Claim7 := { stood := { row := planApartRow, standIns := [], harness := (true, "1c910c8d778949ddaaee672b2b0e2080e330da5f761631127311ffdaa30afa3b"), looks := false }, kinds := [], alts := [], laidByText := true, laidKinds := [.data, .data, .data, .data, .pinned], laidTests := true, laidLooks := .later }
def PlanApartCardSaid : Prop := Claim7.holds Tryz.pinned (.plain (OpenSpec.ofChange planApartSpec)) planApartCard

/-- THE SECOND FORM's CARD OF 'colonnadelaw18.PlanSplits'. -/
def planSplitsUptoCard : Claim7 := { stood := { row := planSplitsUptoRow, standIns := [], harness := (true, "1c910c8d778949ddaaee672b2b0e2080e330da5f761631127311ffdaa30afa3b"), looks := false }, kinds := [], alts := [], laidByText := true, laidKinds := [.data, .data, .data, .data, .pinned], laidTests := true, laidLooks := .later }
def PlanSplitsUptoCardSaid : Prop := Claim7.holds Tryz.pinned (.plain (OpenSpec.upto planSplitsSpec)) planSplitsUptoCard

/-- THE SECOND FORM's CARD OF 'colonnadelaw18.PlanApart'. -/
def planApartUptoCard : Claim7 := { stood := { row := planApartUptoRow, standIns := [], harness := (true, "1c910c8d778949ddaaee672b2b0e2080e330da5f761631127311ffdaa30afa3b"), looks := false }, kinds := [], alts := [], laidByText := true, laidKinds := [.data, .data, .data, .data, .pinned], laidTests := true, laidLooks := .later }
def PlanApartUptoCardSaid : Prop := Claim7.holds Tryz.pinned (.plain (OpenSpec.upto planApartSpec)) planApartUptoCard
end Rows
end Go.Proofs.YtgjghnooiaaeiaaGreatDoor
