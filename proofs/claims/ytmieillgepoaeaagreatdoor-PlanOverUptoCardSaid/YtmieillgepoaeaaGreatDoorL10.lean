/- For all aggregates, windows and columns the law PlanOver of layer 18 gives true where what it reads is of bulk at most 1048576, and leaves what it is handed as it was; condition: package-level variables hold what the program's text lays. -/
import Derived.Test.YtmieillgepoaeaaGreatDoorDt3
import Derived.Test.YtmieillgepoaeaaGreatDoorRows
import Derived.Test.YtmieillgepoaeaaGreatDoorTie
import Derived.Test.YtmieillgepoaeaaGreatDoorCards
import Derived.SevenTiedAt
import Derived.LaidMore
import Derived.Stop.Joined
import Derived.Lib.LaidU8
import Derived.JoinedCond
import Derived.Deep.DeepHandedRow
import Derived.Deep.DeepWitnessRowRef
namespace Go.Proofs.YtmieillgepoaeaaGreatDoor
open Go Go.Dm Go.Ex Go.Proofs.Tryz
open Go.ChangeShapes Go.WideShapes Go.ChangeAt Go.RowKit
set_option maxRecDepth 100000
def gl0 : Nat → Option Obj := fun _ => none
theorem dty : dataTyB Tryz.prog [2, 3, 4, 9, 31, 41, 22, 43, 29, 23, 24, 25, 26, 27, 28, 100, 101] = true := by kernel_rfl
theorem dna : noArrB Tryz.prog [2, 3, 4, 9, 31, 41, 22, 43, 29, 23, 24, 25, 26, 27, 28, 100, 101] = true := by kernel_rfl
theorem bulkOk (H : Type) : BulkOk (Rows.uptoBulk (H := H)) (Rows.uptoBulkAll (H := H)) where
  one d := by
    cases d with
    | lit l => cases l <;> simp [Rows.uptoBulk]
    | nil => simp [Rows.uptoBulk]
    | ptr d => simp [Rows.uptoBulk]
    | slice elems spare => simp [Rows.uptoBulk]
    | agg parts => simp [Rows.uptoBulk]
    | iface t d => simp [Rows.uptoBulk]
    | map entries => simp [Rows.uptoBulk]
    | held h => simp [Rows.uptoBulk]
  agg ps := by simp only [Rows.uptoBulk]; omega
  sl es sp := by simp only [Rows.uptoBulk]; omega
  nil := by simp only [Rows.uptoBulkAll]
  cons d r := by simp only [Rows.uptoBulkAll]
/-- A world in which the listed variables hold what they are said to hold. -/
noncomputable def laidWorld (os : Os) : World :=
  let w0 := World.doorLaid Tryz.prog 72 os
  { w0 with heap := w0.heap.modify 2 fun
      | .cells _ t frozen => .cells (Lib.firstTab.map fun z => Value.int .u8 z).toArray t frozen
      | o => o }
theorem laid_met (os : Os) (args : Array Value) : laidMetH Tryz.prog Rows.planOverUptoRow.laid ((laidWorld os).forCall (fun _ _ => 0) ⟨#[], args, []⟩).memory :=
  laidMetH_of_parts3 (fuel := 8) (laidMet_of_run' 8 (by kernel_rfl) (by kernel_rfl)) (by kernel_rfl) (by kernel_rfl)
theorem over_ct (rs : List R) (n : Nat) (hn : n ≤ 1048576) (h : TyArgsN Tryz.prog Tryz.f3.params.toList rs n) : Ct Tryz.prog gl0 3 rs (gives [.d (.v (.bool true))]) := by
  rw [Tryz.params3] at h
  cases h with
  | cons h0 r0 s0 h =>
  cases h with
  | cons h1 r1 s1 h =>
  cases h with
  | cons h2 r2 s2 h =>
  cases h
  obtain ⟨k, d, l, rfl, hl⟩ := agg_data h0
  obtain ⟨w, rfl, hw⟩ := win_data h1
  obtain ⟨es2, hes2, rfl, hz⟩ := h2.sl_inv Tryz.underlying29
  obtain ⟨cols, rfl⟩ := types_data hz
  unfold asR at r0 r1 r2
  rw [Tryz.underlying24] at r0
  rw [Tryz.underlying28] at r1
  rw [Tryz.underlying29] at r2
  have r0 : _ = R.agg _ := r0
  subst r0
  have r1 : _ = R.agg _ := r1
  subst r1
  obtain ⟨d, e, rfl⟩ := r2
  cases e
  have b23 : Tryz.prog.bytesOf 31 = 16 := by kernel_rfl
  have rb : reachBytes = 140737488351232 := rfl
  rw [b23, rb, List.length_map] at hes2
  have k1 := size_dszL w.arg
  have k2 := len_size w.arg
  have k3 := size_dszL w.part
  have k4 := len_size w.part
  have k5 := size_dszL w.keys
  have k6 := len_size w.keys
  have k7 := len_bounds w.frame
  have k8 := len_types cols
  have k9 := allW_len w
  simp only [dszL, dsz] at s0 s1 s2
  exact law_9 k _ l w cols hl (by omega) (by omega) hw (by omega)
theorem over_lifted (os : Os) (started : os.Started) (H : Type) (enc : TypeId × Value → H) (F : Stop.Interp) :
    ReturnsInHanded {} Tryz.checked os 3 .any ((Rows.OpenSpec.upto Rows.planOverSpec).preRow enc Tryz.prog Tryz.f3 Rows.planOverUptoRow.domain false Rows.planOverUptoRow.laid) (((Rows.OpenSpec.upto Rows.planOverSpec).at F).post enc Tryz.prog Tryz.f3 false true false false) := by
  refine returnsInHanded_of_row (C := Tryz.checked) (s := Rows.OpenSpec.upto Rows.planOverSpec) own started (by kernel_rfl) Tryz.func3
    (witness_row_atRef (enc := enc) (C := Tryz.checked) false (laidWorld os) #[.agg #[.int .i64 0, .bool false, .slice none 0 0], .agg #[.int .i64 0, .slice none 0 0, .slice none 0 0, .slice none 0 0, .slice none 0 0, .slice none 0 0, .int .i64 0], .slice none 0 0] rfl (by kernel_rfl) (by kernel_rfl) (by kernel_rfl)
      (OpenSpec.preRow_of_cond 8 (x := ([.agg [.lit (.int .i64 0), .lit (.bool false), .nil], .agg [.lit (.int .i64 0), .nil, .nil, .nil, .nil, .nil, .lit (.int .i64 0)], .nil], [], [])) (by kernel_rfl) (by kernel_rfl) (fun k hk => by cases hk; kernel_rfl) (by kernel_rfl) (laid_met os _))) ?_
  intro W base args ds gs before hval0 hW _ hcond hsz _ _ _
  have hsm : Rows.uptoSmall H (ds ++ gs) = true := hcond _ rfl
  have hsm : Rows.uptoBulkAll (ds ++ gs) ≤ 1048576 := of_decide_eq_true hsm
  refine upto_contract (bulkOk H) (S := [2, 3, 4, 9, 31, 41, 22, 43, 29, 23, 24, 25, 26, 27, 28, 100, 101]) (tb := 4) dty dna laidOut (by kernel_rfl) (by kernel_rfl) (by kernel_rfl) Tryz.underlying4 rfl (fun ds hl => ?_) over_ct W (fun b o h => by cases h) base args ds gs before hval0 hW hsz hsm
  have hl : ds.length = 3 := by rw [hl, Tryz.params3]; rfl
  match ds, hl with
  | [d0, d1, d2], _ => rfl
noncomputable abbrev PP : Program := Tryz.pinned.checked.prog
abbrev RW : OpenClaim := Rows.planOverUptoRow
abbrev SB : ChangeSpec := (Rows.OpenSpec.upto Rows.planOverSpec).bare
theorem fa1 : (RW.inPlace == PP.inPlace 3) = true := by kernel_rfl
theorem fa2 : (RW.unfollowed == PP.unfollowed 3) = true := by kernel_rfl
theorem fa3 : (RW.recurses == PP.recurses 3) = true := by kernel_rfl
theorem fa4 : (RW.named == PP.varsNamed 3) = true := by kernel_rfl
theorem fa5 : laidOutB PP = true := by kernel_rfl
theorem fa6 : mapsRowed PP = true := by kernel_rfl
theorem fa7 : RW.wf (OpenSpec.ofChange SB) = true := by kernel_rfl
theorem facts : joinedFacts PP 3 Tryz.f3 SB RW = true := by
  unfold joinedFacts
  rw [fa1, fa2, fa3, fa4, fa5, fa6, fa7]
  kernel_rfl
theorem fnamed : PP.funcNamed RW.func = some 3 := by kernel_rfl
theorem finst : Tryz.f3.isInstance PP RW.origin RW.targs := of_decide_eq_true (by kernel_rfl)
theorem fwrap : Tryz.f3.isWrapper PP RW.wrapper RW.mainSum := by
  unfold Func.isWrapper; first | (rw [if_pos (by decide +kernel)]; kernel_rfl) | (rw [if_neg (by decide +kernel)]; exact ⟨rfl, rfl⟩)
theorem over_said : Rows.PlanOverUptoSaid :=
  OpenClaim.holds_of_cond 3 Tryz.f3 rfl rfl rfl rfl rfl rfl rfl ⟨rfl, rfl, rfl, rfl, rfl⟩ rfl rfl rfl rfl rfl fnamed Tryz.func3 facts finst fwrap
    (fun os started H enc _ F => by rw [OpenClaim.pre_eq_preRow]; exact over_lifted os started H enc F)
theorem plan_over : Rows.PlanOverUptoCardSaid :=
  Claim7.holds_tied_plain_at .later [] [.data, .data, .data, .data, .pinned] true (true, "8e5d2daa42cba3f87cb29a8a4160dfcd54c5a5f81485e41dc6451a9ebb0b8d11") false
    over_said (fun _ h => by cases h) (by kernel_rfl) (fun _ h => by cases h) planOverUpto_row_tie rfl ⟨rfl, rfl⟩ (by kernel_rfl) rfl
    (fun f fn hf hfn => by
      obtain rfl : f = 3 := Option.some.inj ((show Tryz.prog.funcNamed "colonnade/colonnadelaw18.PlanOver" = some 3 by kernel_rfl).symm.trans hf) |>.symm
      obtain rfl : fn = Tryz.f3 := (Option.some.inj (Tryz.func3.symm.trans hfn)).symm
      exact ⟨by kernel_rfl, fun j t ht => by
        rw [Tryz.params3] at ht
        have h3 : t = 24 ∨ t = 28 ∨ t = 29 := by
          rcases j with _ | _ | _ | j
          · exact .inl (by simpa using ht.symm)
          · exact .inr (.inl (by simpa using ht.symm))
          · exact .inr (.inr (by simpa using ht.symm))
          · simp at ht
        rcases h3 with rfl | rfl | rfl
        · exact (show Tryz.prog.wantsStandIn 24 = false by kernel_rfl)
        · exact (show Tryz.prog.wantsStandIn 28 = false by kernel_rfl)
        · exact (show Tryz.prog.wantsStandIn 29 = false by kernel_rfl)⟩)
    (by kernel_rfl)
#print axioms plan_over
end Go.Proofs.YtmieillgepoaeaaGreatDoor
