/- For all expressions and columns the law RewriteParts of layer 20 gives true where what it reads is of bulk at most 1048576, and leaves what it is handed as it was; condition: package-level variables hold what the program's text lays. -/
import Derived.Test.YtckihdaalmgbiaaGreatDoorDt2
import Derived.Test.YtckihdaalmgbiaaGreatDoorRows
import Derived.Test.YtckihdaalmgbiaaGreatDoorTie
import Derived.Test.YtckihdaalmgbiaaGreatDoorCards
import Derived.SevenTiedAt
import Derived.LaidMore
import Derived.Stop.Joined
import Derived.Lib.LaidU8
import Derived.JoinedCond
import Derived.Deep.DeepHandedRow
import Derived.Deep.DeepWitnessRowRef
namespace Go.Proofs.YtckihdaalmgbiaaGreatDoor
open Go Go.Dm Go.Ex Go.Proofs.Tryz
open Go.ChangeShapes Go.WideShapes Go.ChangeAt Go.RowKit
set_option maxRecDepth 100000
def gl0 : Nat → Option Obj := fun _ => none
theorem dty : dataTyB Tryz.prog [2, 3, 4, 9, 23, 25, 26, 28, 29] = true := by kernel_rfl
theorem dna : noArrB Tryz.prog [2, 3, 4, 9, 23, 25, 26, 28, 29] = true := by kernel_rfl
theorem bulkOk (H : Type) : BulkOk (Rows.uptoBulk (H := H)) (Rows.uptoBulkAll (H := H)) where
  one d := by
    cases d with
    | lit l => cases l <;> simp [Rows.uptoBulk]
    | nil => simp [Rows.uptoBulk]
    | ptr d => simp [Rows.uptoBulk]
    | slice elems spare => simp [Rows.uptoBulk]
    | agg parts => simp [Rows.uptoBulk]
    | iface t d => simp [Rows.uptoBulk]
    | map entries => simp [Rows.uptoBulk]
    | held h => simp [Rows.uptoBulk]
  agg ps := by simp only [Rows.uptoBulk]; omega
  sl es sp := by simp only [Rows.uptoBulk]; omega
  nil := by simp only [Rows.uptoBulkAll]
  cons d r := by simp only [Rows.uptoBulkAll]
/-- A world in which the listed variables hold what they are said to hold. -/
noncomputable def laidWorld (os : Os) : World :=
  let w0 := World.doorLaid Tryz.prog 72 os
  { w0 with heap := w0.heap.modify 0 fun
      | .cells _ t frozen => .cells (Lib.firstTab.map fun z => Value.int .u8 z).toArray t frozen
      | o => o }
theorem laid_met (os : Os) (args : Array Value) : laidMetH Tryz.prog Rows.rewritePartsUptoRow.laid ((laidWorld os).forCall (fun _ _ => 0) ⟨#[], args, []⟩).memory :=
  laidMetH_of_parts3 (fuel := 8) (laidMet_of_run' 8 (by kernel_rfl) (by kernel_rfl)) (by kernel_rfl) (by kernel_rfl)
theorem parts_ct (rs : List R) (n : Nat) (hn : n ≤ 1048576) (h : TyArgsN Tryz.prog Tryz.f5.params.toList rs n) : Ct Tryz.prog gl0 5 rs (gives [.d (.v (.bool true))]) := by
  rw [Tryz.params5] at h
  cases h with
  | cons h0 r0 s0 h =>
  cases h with
  | cons h1 r1 s1 h =>
  cases h with
  | cons h2 r2 s2 h =>
  cases h
  obtain ⟨x, rfl, hx⟩ := expr_data _ _ (Nat.lt_succ_self _) h0
  obtain ⟨es, hes, rfl, hy⟩ := h1.sl_inv Tryz.underlying26
  obtain ⟨l, rfl, hl⟩ := exprs_of (es := es) fun r hr => expr_data _ r (Nat.lt_succ_self _) (hy r hr)
  obtain ⟨es2, hes2, rfl, hz⟩ := h2.sl_inv Tryz.underlying29
  obtain ⟨cols, rfl⟩ := types_data hz
  unfold asR at r0 r1 r2
  rw [Tryz.underlying28] at r0
  rw [Tryz.underlying26] at r1
  rw [Tryz.underlying29] at r2
  have r0 : _ = R.agg _ := r0
  subst r0
  obtain ⟨d, e, rfl⟩ := r1
  cases e
  obtain ⟨d, e, rfl⟩ := r2
  cases e
  have b23 : Tryz.prog.bytesOf 23 = 16 := by kernel_rfl
  have rb : reachBytes = 140737488351232 := rfl
  rw [b23, rb, List.length_map] at hes2
  have k0 := size_dsz x
  have k1 := size_dszL l
  have k2 := len_size l
  have k3 := len_types cols
  simp only [dszL, dsz] at s1 s2
  exact law_8 x l cols hx (by omega) hl (by omega) (by omega)
theorem parts_lifted (os : Os) (started : os.Started) (H : Type) (enc : TypeId × Value → H) (F : Stop.Interp) :
    ReturnsInHanded {} Tryz.checked os 5 .any ((Rows.OpenSpec.upto Rows.rewritePartsSpec).preRow enc Tryz.prog Tryz.f5 Rows.rewritePartsUptoRow.domain false Rows.rewritePartsUptoRow.laid) (((Rows.OpenSpec.upto Rows.rewritePartsSpec).at F).post enc Tryz.prog Tryz.f5 false true false false) := by
  refine returnsInHanded_of_row (C := Tryz.checked) (s := Rows.OpenSpec.upto Rows.rewritePartsSpec) own started (by kernel_rfl) Tryz.func5
    (witness_row_atRef (enc := enc) (C := Tryz.checked) false (laidWorld os) #[.agg #[.int .i64 0, .int .i64 0, .int .i64 0, .int .i64 0, .int .i64 0, .int .i64 0, .bool false, .int .i64 0, .string ⟨#[]⟩, .slice none 0 0], .slice none 0 0, .slice none 0 0] rfl (by kernel_rfl) (by kernel_rfl) (by kernel_rfl)
      (OpenSpec.preRow_of_cond 8 (x := ([.agg [.lit (.int .i64 0), .lit (.int .i64 0), .agg [.lit (.int .i64 0), .lit (.int .i64 0)], .agg [.agg [.lit (.int .i64 0), .lit (.int .i64 0)], .lit (.bool false), .lit (.int .i64 0), .lit (.string [])], .nil], .nil, .nil], [], [])) (by kernel_rfl) (by kernel_rfl) (fun k hk => by cases hk; kernel_rfl) (by kernel_rfl) (laid_met os _))) ?_
  intro W base args ds gs before hval0 hW _ hcond hsz _ _ _
  have hsm : Rows.uptoSmall H (ds ++ gs) = true := hcond _ rfl
  have hsm : Rows.uptoBulkAll (ds ++ gs) ≤ 1048576 := of_decide_eq_true hsm
  refine upto_contract (bulkOk H) (S := [2, 3, 4, 9, 23, 25, 26, 28, 29]) (tb := 4) dty dna laidOut (by kernel_rfl) (by kernel_rfl) (by kernel_rfl) Tryz.underlying4 rfl (fun ds hl => ?_) parts_ct W (fun b o h => by cases h) base args ds gs before hval0 hW hsz hsm
  have hl : ds.length = 3 := by rw [hl, Tryz.params5]; rfl
  match ds, hl with
  | [d0, d1, d2], _ => rfl
theorem parts_said : Rows.RewritePartsUptoSaid :=
  OpenClaim.holds_of_cond 5 Tryz.f5 rfl rfl rfl rfl rfl rfl rfl ⟨rfl, rfl, rfl, rfl, rfl⟩ rfl rfl rfl rfl rfl (by kernel_rfl) Tryz.func5 (by kernel_rfl)
    (of_decide_eq_true (by kernel_rfl)) (by unfold Func.isWrapper; first | (rw [if_pos (by decide +kernel)]; kernel_rfl) | (rw [if_neg (by decide +kernel)]; exact ⟨rfl, rfl⟩))
    (fun os started H enc _ F => by rw [OpenClaim.pre_eq_preRow]; exact parts_lifted os started H enc F)
theorem rewrite_parts : Rows.RewritePartsUptoCardSaid :=
  Claim7.holds_tied_plain_at .later [] [.data, .data, .data, .data, .sentinel, .sentinel, .pinned] true (true, "ce515e8baf55b097f31cd550922b173c914f8cedaf38e68cceeb1a61e5e1ef00") true
    parts_said (fun _ h => by cases h) (by kernel_rfl) (fun _ h => by cases h) rewritePartsUpto_row_tie rfl ⟨rfl, rfl⟩ (by kernel_rfl) rfl
    (fun f fn hf hfn => by
      obtain rfl : f = 5 := Option.some.inj ((show Tryz.prog.funcNamed "colonnade/colonnadelaw20.RewriteParts" = some 5 by kernel_rfl).symm.trans hf) |>.symm
      obtain rfl : fn = Tryz.f5 := (Option.some.inj (Tryz.func5.symm.trans hfn)).symm
      exact ⟨by kernel_rfl, fun j t ht => by
        rw [Tryz.params5] at ht
        have h3 : t = 28 ∨ t = 26 ∨ t = 29 := by
          rcases j with _ | _ | _ | j
          · exact .inl (by simpa using ht.symm)
          · exact .inr (.inl (by simpa using ht.symm))
          · exact .inr (.inr (by simpa using ht.symm))
          · simp at ht
        rcases h3 with rfl | rfl | rfl
        · exact (show Tryz.prog.wantsStandIn 28 = false by kernel_rfl)
        · exact (show Tryz.prog.wantsStandIn 26 = false by kernel_rfl)
        · exact (show Tryz.prog.wantsStandIn 29 = false by kernel_rfl)⟩)
    (by kernel_rfl)
#print axioms rewrite_parts
end Go.Proofs.YtckihdaalmgbiaaGreatDoor
