/- For every kind, type, row of values and stretches the law WindowTrees of layer 24 gives true, and leaves what it is handed as it was; no condition. -/
import Derived.Test.YtlacgjmbabghaaaM15
import Derived.Test.YtlacgjmbabghaaaGl
import Derived.Test.YtlacgjmbabghaaaRows
namespace Go.Proofs.Ytlacgjmbabghaaa
open Go Go.Dm Go.Proofs.Try
open Go.ChangeShapes Go.WideShapes Go.ChangeAt Go.RowKit
set_option maxRecDepth 100000

theorem own : ownKnob Try.prog.godebug = none := by kernel_rfl
theorem laidOut : laidOutB Try.prog = true := by kernel_rfl
theorem dty : dataTyB Try.prog [2, 3, 4, 5, 9, 23, 24, 25, 34, 37, 44] = true := by kernel_rfl

theorem in64_of {n : Int} (h : IntKind.i64.min ≤ n ∧ n ≤ IntKind.i64.max) : in64 n := by
  have h1 : IntKind.i64.min = -9223372036854775808 := rfl
  have h2 : IntKind.i64.max = 9223372036854775807 := rfl
  rw [h1, h2] at h
  exact ⟨h.1, by omega⟩
theorem typ_data {ds : List D} (h : TyD Try.prog 23 ds) : ∃ k sc : Int, ds = [.v (.int .i64 k), .v (.int .i64 sc)] ∧ in64 k ∧ in64 sc := by
  obtain ⟨hl, _⟩ := h.struct_inv Try.underlying23
  have hl : ds.length = 2 := hl.trans (by kernel_rfl)
  match ds, hl with
  | [d0, d1], _ =>
    obtain ⟨k, hk, e0⟩ := (h.fld Try.underlying23 0 rfl (n := 1) (by kernel_rfl)).int_inv Try.underlying3
    obtain ⟨sc, hs, e1⟩ := (h.fld Try.underlying23 1 rfl (n := 1) (by kernel_rfl)).int_inv Try.underlying3
    simp at e0 e1
    subst e0; subst e1
    exact ⟨k, sc, rfl, in64_of hk, in64_of hs⟩
theorem val_data {ds : List D} (h : TyD Try.prog 37 ds) : ∃ v : AV, ds = v.cs ∧ in64 v.n := by
  obtain ⟨hl, _⟩ := h.struct_inv Try.underlying37
  have hl : ds.length = 5 := hl.trans (by kernel_rfl)
  match ds, hl with
  | [d0, d1, d2, d3, d4], _ =>
    obtain ⟨k, sc, e0, _, _⟩ := typ_data (h.fld Try.underlying37 0 rfl (n := 2) (by kernel_rfl))
    obtain ⟨b, e2⟩ := (h.fld Try.underlying37 1 rfl (n := 1) (by kernel_rfl)).bool_inv Try.underlying4
    obtain ⟨n, hn, e3⟩ := (h.fld Try.underlying37 2 rfl (n := 1) (by kernel_rfl)).int_inv Try.underlying2
    obtain ⟨s, hs, e4⟩ := (h.fld Try.underlying37 3 rfl (n := 1) (by kernel_rfl)).str_inv Try.underlying9
    simp at e0 e2 e3 e4
    obtain ⟨rfl, rfl⟩ := e0
    subst e2; subst e3; subst e4
    exact ⟨⟨k, sc, b, n, s⟩, rfl, in64_of hn⟩
theorem vals_data : ∀ {es : List (List D)}, (∀ r ∈ es, TyD Try.prog 37 r) → ∃ vs : List AV, es = vs.map AV.cs ∧ ∀ v ∈ vs, in64 v.n
  | [], _ => ⟨[], rfl, by simp⟩
  | r :: es, h => by
    obtain ⟨v, rfl, hv⟩ := val_data (h r (by simp))
    obtain ⟨vs, rfl, hvs⟩ := vals_data (es := es) (fun r hr => h r (List.mem_cons_of_mem _ hr))
    refine ⟨v :: vs, rfl, fun x hx => ?_⟩
    cases hx with
    | head => exact hv
    | tail _ hx => exact hvs x hx
theorem span_data : ∀ {es : List (List D)}, (∀ r ∈ es, TyD Try.prog 34 r) → ∃ sp : List (Int × Int), es = spD sp ∧ ∀ p ∈ sp, in64 p.1 ∧ in64 p.2
  | [], _ => ⟨[], rfl, by simp⟩
  | r :: es, h => by
    obtain ⟨sp, rfl, hsp⟩ := span_data (es := es) (fun r hr => h r (List.mem_cons_of_mem _ hr))
    obtain ⟨hl, hx⟩ := (h r (by simp)).arr_inv Try.underlying34
    have hl : r.length = 2 := hl.trans (by kernel_rfl)
    have c3 : Try.prog.cellsOf 3 = 1 := by kernel_rfl
    match r, hl with
    | [d0, d1], _ =>
      have h0 := hx 0 (by decide)
      have h1 := hx 1 (by decide)
      rw [c3] at h0 h1
      obtain ⟨a, ha, e0⟩ := h0.int_inv Try.underlying3
      obtain ⟨b, hb, e1⟩ := h1.int_inv Try.underlying3
      simp at e0 e1
      subst e0; subst e1
      refine ⟨(a, b) :: sp, rfl, fun x hx => ?_⟩
      cases hx with
      | head => exact ⟨in64_of ha, in64_of hb⟩
      | tail _ hx => exact hsp x hx

theorem trees_ct (rs : List R) (h : TyArgs Try.prog Try.f3.params.toList rs) : Ct Try.prog 3 rs (gives [.d (.v (.bool true))]) := by
  rw [Try.params3] at h
  cases h with
  | cons h0 r0 h =>
  cases h with
  | cons h1 r1 h =>
  cases h with
  | cons h2 r2 h =>
  cases h with
  | cons h3 r3 h =>
  cases h
  obtain ⟨kd, _, rfl⟩ := h0.int_inv Try.underlying3
  obtain ⟨k, sc, rfl, _, _⟩ := typ_data h1
  obtain ⟨es, hes, rfl, hx⟩ := h2.sl_inv Try.underlying24
  obtain ⟨vs, rfl, hvs⟩ := vals_data hx
  obtain ⟨es, hsp, rfl, hx⟩ := h3.sl_inv Try.underlying25
  obtain ⟨sp, rfl, hsps⟩ := span_data hx
  unfold asR at r0 r1 r2 r3
  rw [Try.underlying3] at r0
  rw [Try.underlying23] at r1
  rw [Try.underlying24] at r2
  rw [Try.underlying25] at r3
  obtain ⟨d, e, rfl⟩ := r0
  cases e
  have r1 : _ = R.agg _ := r1
  subst r1
  obtain ⟨d, e, rfl⟩ := r2
  cases e
  obtain ⟨d, e, rfl⟩ := r3
  cases e
  have b37 : Try.prog.bytesOf 37 = 48 := by kernel_rfl
  have b34 : Try.prog.bytesOf 34 = 16 := by kernel_rfl
  have rb : reachBytes = 140737488351232 := rfl
  rw [b37, rb, List.length_map] at hes
  rw [b34, rb] at hsp
  have hsl : (spD sp).length = sp.length := by simp [spD]
  rw [hsl] at hsp
  exact ct3 kd k sc vs sp (by omega) hvs (by omega) hsps

theorem trees_lifted (os : Os) (started : os.Started) (H : Type) (enc : TypeId × Value → H) :
    ReturnsInHanded {} Try.checked os 3 .any (Rows.windowTreesSpec.pre6 enc Try.prog Try.f3 Rows.windowTreesRow.domain false) (Rows.windowTreesSpec.post enc Try.prog Try.f3 false true false false) := by
  refine returnsInHanded_of_change_sized (C := Try.checked) own started (by kernel_rfl) Try.func3
    (ChangeSpec.witness6 (enc := enc) (C := Try.checked) false ⟨#[], #[.int .i64 0, .agg #[.int .i64 0, .int .i64 0], .slice none 0 0, .slice none 0 0], []⟩ 8 (by kernel_rfl) (by kernel_rfl) (by kernel_rfl) (by kernel_rfl)) ?_
  intro W base args ds gs before hval hW _ hsz _
  refine said_contract (S := [2, 3, 4, 5, 9, 23, 24, 25, 34, 37, 44]) (tb := 4) dty laidOut (by kernel_rfl) (by kernel_rfl) (by kernel_rfl) Try.underlying4 rfl (fun ds hl => ?_) trees_ct W base args ds gs before hval hW hsz
  have hl : ds.length = 4 := by rw [hl, Try.params3]; rfl
  match ds, hl with
  | [d0, d1, d2, d3], _ => rfl

theorem trees_over : Rows.windowTreesRow.holds Try.pinned (OpenSpec.ofChange Rows.windowTreesSpec) :=
  OpenClaim.holds_of_wide 3 Try.f3 rfl rfl rfl rfl rfl rfl rfl ⟨rfl, rfl, rfl, rfl, rfl⟩ rfl rfl rfl rfl rfl (by kernel_rfl) Try.func3 (by kernel_rfl)
    (of_decide_eq_true (by kernel_rfl)) (by unfold Func.isWrapper; first | (rw [if_pos (by decide +kernel)]; kernel_rfl) | (rw [if_neg (by decide +kernel)]; exact ⟨rfl, rfl⟩))
    (fun os started H enc _ => trees_lifted os started H enc)

theorem window_trees : Rows.WindowTreesSaid := trees_over
#print axioms window_trees
end Go.Proofs.Ytlacgjmbabghaaa
