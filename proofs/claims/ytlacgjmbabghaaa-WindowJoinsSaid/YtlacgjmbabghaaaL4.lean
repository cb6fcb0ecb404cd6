/- For every kind, row of whole numbers and three cuts the law WindowJoins of layer 24 gives true, and leaves what it is handed as it was; no condition. -/
import Derived.Test.YtlacgjmbabghaaaM16
import Derived.Test.YtlacgjmbabghaaaL3
namespace Go.Proofs.Ytlacgjmbabghaaa
open Go Go.Dm Go.Proofs.Try
open Go.ChangeShapes Go.WideShapes Go.ChangeAt Go.RowKit
set_option maxRecDepth 100000

theorem ints_data : ∀ {es : List (List D)}, (∀ r ∈ es, TyD Try.prog 2 r) → ∃ l : List Int, es = iD l ∧ ∀ n ∈ l, in64 n
  | [], _ => ⟨[], rfl, by simp⟩
  | r :: es, h => by
    obtain ⟨n, hn, rfl⟩ := (h r (List.mem_cons_self ..)).int_inv Try.underlying2
    obtain ⟨l, rfl, hl⟩ := ints_data (es := es) (fun r hr => h r (List.mem_cons_of_mem _ hr))
    refine ⟨n :: l, rfl, fun x hx => ?_⟩
    cases hx with
    | head => exact in64_of hn
    | tail _ hx => exact hl x hx
theorem u8_of {n : Int} (h : IntKind.u8.min ≤ n ∧ n ≤ IntKind.u8.max) : 0 ≤ n ∧ n ≤ 255 := h

theorem joins_ct (rs : List R) (h : TyArgs Try.prog Try.f4.params.toList rs) : Ct Try.prog 4 rs (gives [.d (.v (.bool true))]) := by
  rw [Try.params4] at h
  cases h with
  | cons h0 r0 h =>
  cases h with
  | cons h1 r1 h =>
  cases h with
  | cons h2 r2 h =>
  cases h with
  | cons h3 r3 h =>
  cases h with
  | cons h4 r4 h =>
  cases h
  obtain ⟨kd, _, rfl⟩ := h0.int_inv Try.underlying3
  obtain ⟨es, _, rfl, hx⟩ := h1.sl_inv Try.underlying44
  obtain ⟨l, rfl, hl⟩ := ints_data hx
  obtain ⟨a, ha, rfl⟩ := h2.int_inv Try.underlying5
  obtain ⟨b, hb, rfl⟩ := h3.int_inv Try.underlying5
  obtain ⟨c, hc, rfl⟩ := h4.int_inv Try.underlying5
  unfold asR at r0 r1 r2 r3 r4
  rw [Try.underlying3] at r0
  rw [Try.underlying44] at r1
  rw [Try.underlying5] at r2 r3 r4
  obtain ⟨d, e, rfl⟩ := r0
  cases e
  obtain ⟨d, e, rfl⟩ := r1
  cases e
  obtain ⟨d, e, rfl⟩ := r2
  cases e
  obtain ⟨d, e, rfl⟩ := r3
  cases e
  obtain ⟨d, e, rfl⟩ := r4
  cases e
  exact ct4 kd l a b c hl (u8_of ha) (u8_of hb) (u8_of hc)

theorem joins_lifted (os : Os) (started : os.Started) (H : Type) (enc : TypeId × Value → H) :
    ReturnsInHanded {} Try.checked os 4 .any (Rows.windowJoinsSpec.pre6 enc Try.prog Try.f4 Rows.windowJoinsRow.domain false) (Rows.windowJoinsSpec.post enc Try.prog Try.f4 false true false false) := by
  refine returnsInHanded_of_change_sized (C := Try.checked) own started (by kernel_rfl) Try.func4
    (ChangeSpec.witness6 (enc := enc) (C := Try.checked) false ⟨#[], #[.int .i64 0, .slice none 0 0, .int .u8 0, .int .u8 0, .int .u8 0], []⟩ 8 (by kernel_rfl) (by kernel_rfl) (by kernel_rfl) (by kernel_rfl)) ?_
  intro W base args ds gs before hval hW _ hsz _
  refine said_contract (S := [2, 3, 4, 5, 9, 23, 24, 25, 34, 37, 44]) (tb := 4) dty laidOut (by kernel_rfl) (by kernel_rfl) (by kernel_rfl) Try.underlying4 rfl (fun ds hl => ?_) joins_ct W base args ds gs before hval hW hsz
  have hl : ds.length = 5 := by rw [hl, Try.params4]; rfl
  match ds, hl with
  | [d0, d1, d2, d3, d4], _ => rfl

theorem joins_over : Rows.windowJoinsRow.holds Try.pinned (OpenSpec.ofChange Rows.windowJoinsSpec) :=
  OpenClaim.holds_of_wide 4 Try.f4 rfl rfl rfl rfl rfl rfl rfl ⟨rfl, rfl, rfl, rfl, rfl⟩ rfl rfl rfl rfl rfl (by kernel_rfl) Try.func4 (by kernel_rfl)
    (of_decide_eq_true (by kernel_rfl)) (by unfold Func.isWrapper; first | (rw [if_pos (by decide +kernel)]; kernel_rfl) | (rw [if_neg (by decide +kernel)]; exact ⟨rfl, rfl⟩))
    (fun os started H enc _ => joins_lifted os started H enc)

theorem window_joins : Rows.WindowJoinsSaid := joins_over
#print axioms window_joins
end Go.Proofs.Ytlacgjmbabghaaa
