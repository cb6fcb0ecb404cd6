/- A part of the proof: contracts of functions, by a verified generator of conditions; no condition of its own. -/
import Derived.Test.YtgjghnooiaaeiaaGreatDoorL16a
namespace Go.Proofs.YtgjghnooiaaeiaaGreatDoor
open Go Go.Dm Go.Ex Go.Proofs.Tryz
open Go.ChangeShapes Go.WideShapes Go.ChangeAt Go.RowKit
set_option maxRecDepth 100000
theorem cd1 : RW.wfByText (Rows.OpenSpec.upto Rows.planSplitsSpec) = true := by kernel_rfl
theorem cd2 : PP.mainIs = some (true, "1c910c8d778949ddaaee672b2b0e2080e330da5f761631127311ffdaa30afa3b".toList) := by kernel_rfl
theorem cd3 : Tryz.prog.funcNamed "colonnade/colonnadelaw18.PlanSplits" = some 3 := by kernel_rfl
theorem cd4 : false = PP.looks [] := by kernel_rfl
theorem cd5 : PP.wantsStandIn 28 = false := by kernel_rfl
theorem cd6 : PP.wantsStandIn 29 = false := by kernel_rfl
theorem cd7 : false = RW.goesBy PP := by kernel_rfl
theorem cd8 : ∀ f fn, PP.funcNamed RW.func = some f → PP.funcs[f]? = some fn → false = PP.looks [] ∧ ∀ (j : Nat) t, fn.params[j]? = some t → PP.wantsStandIn t = false := fun f fn hf hfn => by
 obtain rfl : f = 3 := Option.some.inj (cd3.symm.trans hf) |>.symm
 obtain rfl : fn = Tryz.f3 := (Option.some.inj (Tryz.func3.symm.trans hfn)).symm
 refine ⟨cd4, fun j t ht => ?_⟩
 rw [Tryz.params3] at ht
 have h3 : t = 28 ∨ t = 29 := by
   rcases j with _ | _ | _ | j
   · exact .inl (by simpa using ht.symm)
   · exact .inr (by simpa using ht.symm)
   · exact .inr (by simpa using ht.symm)
   · simp at ht
 rcases h3 with rfl | rfl
 · exact cd5
 · exact cd6
theorem plan_splits : Rows.PlanSplitsUptoCardSaid :=
 Claim7.holds_tied_plain_at .later [] [.data, .data, .data, .data, .pinned] true (true, "1c910c8d778949ddaaee672b2b0e2080e330da5f761631127311ffdaa30afa3b") false
   splits_said (fun _ h => by cases h) cd1 (fun _ h => by cases h) planSplitsUpto_row_tie rfl ⟨rfl, rfl⟩ cd2 rfl cd8 cd7
#print axioms plan_splits
end Go.Proofs.YtgjghnooiaaeiaaGreatDoor
