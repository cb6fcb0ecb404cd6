/- For all expressions and columns the law ExprShifts of layer 14 gives true, and leaves what it is handed as it was; condition: package-level variables hold what the program's text lays. -/
import Derived.Test.YtfohenhmlfiijaaGreatDoorDt
import Derived.Test.YtfohenhmlfiijaaGreatDoorRows
import Derived.Test.YtfohenhmlfiijaaGreatDoorTie
import Derived.Test.YtfohenhmlfiijaaGreatDoorCards
import Derived.SevenTiedAt
import Derived.LaidMore
import Derived.Stop.Joined
import Derived.Lib.LaidU8
namespace Go.Proofs.YtfohenhmlfiijaaGreatDoor
open Go Go.Dm Go.Ex Go.Proofs.Tryz
open Go.ChangeShapes Go.WideShapes Go.ChangeAt Go.RowKit
set_option maxRecDepth 100000
def gl0 : Nat → Option Obj := fun _ => none
theorem dty : dataTyB Tryz.prog [2, 3, 4, 9, 23, 25, 26, 28, 40] = true := by kernel_rfl
/-- A world in which the listed variables hold what they are said to hold. -/
noncomputable def laidWorld (os : Os) : World :=
  let w0 := World.doorLaid Tryz.prog 72 os
  { w0 with heap := w0.heap.modify 2 fun
      | .cells _ t frozen => .cells (Lib.firstTab.map fun z => Value.int .u8 z).toArray t frozen
      | o => o }
theorem laid_met (os : Os) (args : Array Value) : laidMetH Tryz.prog Rows.exprShiftsRow.laid ((laidWorld os).forCall (fun _ _ => 0) ⟨#[], args, []⟩).memory :=
  laidMetH_of_parts3 (fuel := 8) (laidMet_of_run' 8 (by kernel_rfl) (by kernel_rfl)) (by kernel_rfl) (by kernel_rfl)
theorem shifts_ct (rs : List R) (h : TyArgs Tryz.prog Tryz.f4.params.toList rs) : Ct Tryz.prog gl0 4 rs (gives [.d (.v (.bool true))]) := by
  rw [Tryz.params4] at h
  cases h with
  | cons h0 r0 h =>
  cases h with
  | cons h1 r1 h =>
  cases h with
  | cons h2 r2 h =>
  cases h
  obtain ⟨x, rfl, hx⟩ := expr_data _ _ (Nat.lt_succ_self _) h0
  obtain ⟨y, rfl, hy⟩ := expr_data _ _ (Nat.lt_succ_self _) h1
  obtain ⟨es, hes, rfl, hz⟩ := h2.sl_inv Tryz.underlying40
  obtain ⟨to, rfl, hto⟩ := ints_data hz
  unfold asR at r0 r1 r2
  rw [Tryz.underlying28] at r0 r1
  rw [Tryz.underlying40] at r2
  have r0 : _ = R.agg _ := r0
  have r1 : _ = R.agg _ := r1
  subst r0; subst r1
  obtain ⟨d, e, rfl⟩ := r2
  cases e
  have b3 : Tryz.prog.bytesOf 3 = 8 := by kernel_rfl
  have rb : reachBytes = 140737488351232 := rfl
  have hl : (encI to).length = to.length := by simp [encI]
  rw [b3, rb, hl] at hes
  exact ct6 x y to hx hy hto (by omega)
theorem shifts_lifted (os : Os) (started : os.Started) (H : Type) (enc : TypeId × Value → H) :
    ReturnsInHanded {} Tryz.checked os 4 .any (fun w args => (Rows.exprShiftsSpec.pre enc Tryz.prog Tryz.f4 [] false w args ∧ laidMetH Tryz.prog Rows.exprShiftsRow.laid w) ∧ sizedMet enc Tryz.prog Tryz.f4 (OpenSpec.ofChange Rows.exprShiftsSpec) false w args)
      (Rows.exprShiftsSpec.post enc Tryz.prog Tryz.f4 false true false false) := by
  refine returnsInHanded_of_change_and (C := Tryz.checked) (X := fun w _ => laidMetH Tryz.prog Rows.exprShiftsRow.laid w) (fun _ _ _ hh h => h.of_heap hh) own started (by kernel_rfl) Tryz.func4
    (ChangeSpec.witness_shaped (enc := enc) (C := Tryz.checked) (os := os) (X := fun w _ => laidMetH Tryz.prog Rows.exprShiftsRow.laid w) false (laidWorld os) #[.agg #[.int .i64 0, .int .i64 0, .int .i64 0, .int .i64 0, .int .i64 0, .int .i64 0, .bool false, .int .i64 0, .string ⟨#[]⟩, .slice none 0 0], .agg #[.int .i64 0, .int .i64 0, .int .i64 0, .int .i64 0, .int .i64 0, .int .i64 0, .bool false, .int .i64 0, .string ⟨#[]⟩, .slice none 0 0], .slice none 0 0] 8 rfl (World.shaped_of_RefB (by kernel_rfl) (by kernel_rfl)) (by kernel_rfl) (by kernel_rfl) (by kernel_rfl) (laid_met os _)) ?_
  intro W base args ds gs before hval0 hW _ hsz _ _
  refine said_contract (S := [2, 3, 4, 9, 23, 25, 26, 28, 40]) (tb := 4) dty laidOut (by kernel_rfl) (by kernel_rfl) (by kernel_rfl) Tryz.underlying4 rfl (fun ds hl => ?_) shifts_ct W (fun b o h => by cases h) base args ds gs before hval0 hW hsz
  have hl : ds.length = 3 := by rw [hl, Tryz.params4]; rfl
  match ds, hl with
  | [d0, d1, d2], _ => rfl
theorem shifts_said : Rows.ExprShiftsSaid :=
  OpenClaim.holds_of_wide 4 Tryz.f4 rfl rfl rfl rfl rfl rfl rfl ⟨rfl, rfl, rfl, rfl, rfl⟩ rfl rfl rfl rfl rfl (by kernel_rfl) Tryz.func4 (by kernel_rfl)
    (of_decide_eq_true (by kernel_rfl)) (by unfold Func.isWrapper; first | (rw [if_pos (by decide +kernel)]; kernel_rfl) | (rw [if_neg (by decide +kernel)]; exact ⟨rfl, rfl⟩))
    (fun os started H enc _ => shifts_lifted os started H enc)
theorem expr_shifts : Rows.ExprShiftsCardSaid :=
  Claim7.holds_tied_plain_at .later [] [.data, .data, .data, .data, .sentinel, .sentinel, .pinned] true (true, "645a69249a1f36f742eacec2741052294ac208ee0599f81e5ee087eecadf3baa") true
    shifts_said (fun _ h => by cases h) (by kernel_rfl) (fun _ h => by cases h) exprShifts_row_tie rfl ⟨rfl, rfl⟩ (by kernel_rfl) rfl
    (fun f fn hf hfn => by
      obtain rfl : f = 4 := Option.some.inj ((show Tryz.prog.funcNamed "colonnade/colonnadelaw14.ExprShifts" = some 4 by kernel_rfl).symm.trans hf) |>.symm
      obtain rfl : fn = Tryz.f4 := (Option.some.inj (Tryz.func4.symm.trans hfn)).symm
      exact ⟨by kernel_rfl, fun j t ht => by
        rw [Tryz.params4] at ht
        have h3 : t = 28 ∨ t = 40 := by
          rcases j with _ | _ | _ | j
          · exact .inl (by simpa using ht.symm)
          · exact .inl (by simpa using ht.symm)
          · exact .inr (by simpa using ht.symm)
          · simp at ht
        rcases h3 with rfl | rfl
        · exact (show Tryz.prog.wantsStandIn 28 = false by kernel_rfl)
        · exact (show Tryz.prog.wantsStandIn 40 = false by kernel_rfl)⟩)
    (by kernel_rfl)
#print axioms expr_shifts
end Go.Proofs.YtfohenhmlfiijaaGreatDoor
