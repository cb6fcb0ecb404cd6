/- A part of the proof: contracts of functions, by a verified generator of conditions; no condition of its own. -/
import Derived.Test.YtgjghnooiaaeiaaGreatDoorS10
import Derived.Test.YtgjghnooiaaeiaaGreatDoorDt4
import Derived.Test.YtgjghnooiaaeiaaGreatDoorRows
import Derived.Test.YtgjghnooiaaeiaaGreatDoorTie
import Derived.Test.YtgjghnooiaaeiaaGreatDoorCards
import Derived.SevenTiedAt
import Derived.LaidMore
import Derived.Stop.Joined
import Derived.Lib.LaidU8
import Derived.JoinedCond
import Derived.Deep.DeepHandedRow
import Derived.Deep.DeepWitnessRowRef
namespace Go.Proofs.YtgjghnooiaaeiaaGreatDoor
open Go Go.Dm Go.Ex Go.Proofs.Tryz
open Go.ChangeShapes Go.WideShapes Go.ChangeAt Go.RowKit
set_option maxRecDepth 100000
def gl0 : Nat → Option Obj := fun _ => none
theorem dty : dataTyB Tryz.prog [2, 3, 4, 9, 23, 25, 26, 28, 29] = true := by kernel_rfl
theorem dna : noArrB Tryz.prog [2, 3, 4, 9, 23, 25, 26, 28, 29] = true := by kernel_rfl
theorem bulkOk (H : Type) : BulkOk (Rows.uptoBulk (H := H)) (Rows.uptoBulkAll (H := H)) where
 one d := by
   cases d with
   | lit l => cases l <;> simp [Rows.uptoBulk]
   | nil => simp [Rows.uptoBulk]
   | ptr d => simp [Rows.uptoBulk]
   | slice elems spare => simp [Rows.uptoBulk]
   | agg parts => simp [Rows.uptoBulk]
   | iface t d => simp [Rows.uptoBulk]
   | map entries => simp [Rows.uptoBulk]
   | held h => simp [Rows.uptoBulk]
 agg ps := by simp only [Rows.uptoBulk]; omega
 sl es sp := by simp only [Rows.uptoBulk]; omega
 nil := by simp only [Rows.uptoBulkAll]
 cons d r := by simp only [Rows.uptoBulkAll]
noncomputable def laidWorld (os : Os) : World :=
 let w0 := World.doorLaid Tryz.prog 72 os
 { w0 with heap := w0.heap.modify 2 fun
     | .cells _ t frozen => .cells (Lib.firstTab.map fun z => Value.int .u8 z).toArray t frozen
     | o => o }
theorem laid_met (os : Os) (args : Array Value) : laidMetH Tryz.prog Rows.planSplitsUptoRow.laid ((laidWorld os).forCall (fun _ _ => 0) ⟨#[], args, []⟩).memory :=
 laidMetH_of_parts3 (fuel := 8) (laidMet_of_run' 8 (by kernel_rfl) (by kernel_rfl)) (by kernel_rfl) (by kernel_rfl)
theorem splits_ct (rs : List R) (n : Nat) (hn : n ≤ 1048576) (h : TyArgsN Tryz.prog Tryz.f3.params.toList rs n) : Ct Tryz.prog gl0 3 rs (gives [.d (.v (.bool true))]) := by
 rw [Tryz.params3] at h
 cases h with
 | cons h0 r0 s0 h =>
 cases h with
 | cons h1 r1 s1 h =>
 cases h with
 | cons h2 r2 s2 h =>
 cases h
 obtain ⟨x, rfl, hx⟩ := expr_data _ _ (Nat.lt_succ_self _) h0
 obtain ⟨es1, hes1, rfl, hy⟩ := h1.sl_inv Tryz.underlying29
 obtain ⟨l, rfl⟩ := types_data hy
 obtain ⟨es2, hes2, rfl, hz⟩ := h2.sl_inv Tryz.underlying29
 obtain ⟨r, rfl⟩ := types_data hz
 unfold asR at r0 r1 r2
 rw [Tryz.underlying28] at r0
 rw [Tryz.underlying29] at r1 r2
 have r0 : _ = R.agg _ := r0
 subst r0
 obtain ⟨d, e, rfl⟩ := r1
 cases e
 obtain ⟨d, e, rfl⟩ := r2
 cases e
 have k0 := size_dsz x
 have k1 := len_types l
 have k2 := len_types r
 simp only [dszL, dsz] at s0 s1 s2
 exact law_10 l r (by omega) x hx (by omega)
theorem splits_lifted (os : Os) (started : os.Started) (H : Type) (enc : TypeId × Value → H) (F : Stop.Interp) :
   ReturnsInHanded {} Tryz.checked os 3 .any ((Rows.OpenSpec.upto Rows.planSplitsSpec).preRow enc Tryz.prog Tryz.f3 Rows.planSplitsUptoRow.domain false Rows.planSplitsUptoRow.laid) (((Rows.OpenSpec.upto Rows.planSplitsSpec).at F).post enc Tryz.prog Tryz.f3 false true false false) := by
 refine returnsInHanded_of_row (C := Tryz.checked) (s := Rows.OpenSpec.upto Rows.planSplitsSpec) own started (by kernel_rfl) Tryz.func3
   (witness_row_atRef (enc := enc) (C := Tryz.checked) false (laidWorld os) #[.agg #[.int .i64 0, .int .i64 0, .int .i64 0, .int .i64 0, .int .i64 0, .int .i64 0, .bool false, .int .i64 0, .string ⟨#[]⟩, .slice none 0 0], .slice none 0 0, .slice none 0 0] rfl (by kernel_rfl) (by kernel_rfl) (by kernel_rfl)
     (OpenSpec.preRow_of_cond 8 (x := ([.agg [.lit (.int .i64 0), .lit (.int .i64 0), .agg [.lit (.int .i64 0), .lit (.int .i64 0)], .agg [.agg [.lit (.int .i64 0), .lit (.int .i64 0)], .lit (.bool false), .lit (.int .i64 0), .lit (.string [])], .nil], .nil, .nil], [], [])) (by kernel_rfl) (by kernel_rfl) (fun k hk => by cases hk; kernel_rfl) (by kernel_rfl) (laid_met os _))) ?_
 intro W base args ds gs before hval0 hW _ hcond hsz _ _ _
 have hsm : Rows.uptoSmall H (ds ++ gs) = true := hcond _ rfl
 have hsm : Rows.uptoBulkAll (ds ++ gs) ≤ 1048576 := of_decide_eq_true hsm
 refine upto_contract (bulkOk H) (S := [2, 3, 4, 9, 23, 25, 26, 28, 29]) (tb := 4) dty dna laidOut (by kernel_rfl) (by kernel_rfl) (by kernel_rfl) Tryz.underlying4 rfl (fun ds hl => ?_) splits_ct W (fun b o h => by cases h) base args ds gs before hval0 hW hsz hsm
 have hl : ds.length = 3 := by rw [hl, Tryz.params3]; rfl
 match ds, hl with
 | [d0, d1, d2], _ => rfl
noncomputable abbrev PP : Program := Tryz.pinned.checked.prog
abbrev RW : OpenClaim := Rows.planSplitsUptoRow
abbrev SB : ChangeSpec := (Rows.OpenSpec.upto Rows.planSplitsSpec).bare
theorem fa1 : (RW.inPlace == PP.inPlace 3) = true := by kernel_rfl
theorem fa2 : (RW.unfollowed == PP.unfollowed 3) = true := by kernel_rfl
theorem fa3 : (RW.recurses == PP.recurses 3) = true := by kernel_rfl
theorem fa4 : (RW.named == PP.varsNamed 3) = true := by kernel_rfl
theorem fa5 : laidOutB PP = true := by kernel_rfl
theorem fa6 : mapsRowed PP = true := by kernel_rfl
theorem fa7 : RW.wf (OpenSpec.ofChange SB) = true := by kernel_rfl
theorem facts : joinedFacts PP 3 Tryz.f3 SB RW = true := by
 unfold joinedFacts
 rw [fa1, fa2, fa3, fa4, fa5, fa6, fa7]
 kernel_rfl
theorem fnamed : PP.funcNamed RW.func = some 3 := by kernel_rfl
theorem finst : Tryz.f3.isInstance PP RW.origin RW.targs := of_decide_eq_true (by kernel_rfl)
theorem fwrap : Tryz.f3.isWrapper PP RW.wrapper RW.mainSum := by
 unfold Func.isWrapper; first | (rw [if_pos (by decide +kernel)]; kernel_rfl) | (rw [if_neg (by decide +kernel)]; exact ⟨rfl, rfl⟩)
theorem splits_said : Rows.PlanSplitsUptoSaid :=
 OpenClaim.holds_of_cond 3 Tryz.f3 rfl rfl rfl rfl rfl rfl rfl ⟨rfl, rfl, rfl, rfl, rfl⟩ rfl rfl rfl rfl rfl fnamed Tryz.func3 facts finst fwrap
   (fun os started H enc _ F => by rw [OpenClaim.pre_eq_preRow]; exact splits_lifted os started H enc F)
end Go.Proofs.YtgjghnooiaaeiaaGreatDoor
