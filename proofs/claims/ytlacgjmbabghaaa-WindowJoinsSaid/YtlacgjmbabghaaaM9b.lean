/- A part of the proof: contracts of functions, by a verified generator of conditions; no condition of its own. -/
import Derived.Test.YtlacgjmbabghaaaM9
namespace Go.Proofs.Try
open Go Go.Dm
set_option maxRecDepth 100000
theorem ex5 (kd k sc : Int) (vs : List AV) (hin : ∀ v ∈ vs, in64 v.n) : ∃ res fin, ntQ kd k sc vs res fin := by
  by_cases h1 : argBad kd k sc = true
  · exact ⟨_, _, rfl, .inl ⟨h1, rfl⟩⟩
  have h1 : argBad kd k sc = false := by simpa using h1
  by_cases h2 : vs.any (badV k sc) = true
  · exact ⟨_, _, rfl, .inr (.inl ⟨h1, h2, rfl⟩)⟩
  have h2 : vs.any (badV k sc) = false := by simpa using h2
  by_cases h3 : vs.length ≤ 65536
  · obtain ⟨lvls, h4, h5⟩ := tree_ex kd h3 (any_good hin h2)
    exact ⟨_, _, rfl, .inr (.inr (.inr ⟨h1, h2, h3, lvls, h4, h5, rfl⟩))⟩
  · exact ⟨_, _, rfl, .inr (.inr (.inl ⟨h1, h2, by omega, rfl⟩))⟩
theorem ct5 (kd k sc : Int) (vs : List AV) (hl : vs.length < 4611686018427387904) (hin : ∀ v ∈ vs, in64 v.n) :
    Ct prog 5 [.d (.v (.int .i64 kd)), .agg [.v (.int .i64 k), .v (.int .i64 sc)], .d (.sl (vs.map AV.cs))] (ntQ kd k sc vs) :=
  ct_of_pf E_5_ok C_b12_ok I_5_ok it_5 mixed (fn := f5) (body := f5.body.getD .skip) (by kernel_rfl) (by kernel_rfl) (by kernel_rfl) (fi := fx_5 kd k sc vs) (by kernel_rfl) (by kernel_rfl) (ex5 kd k sc vs hin) (vq5 kd k sc vs hl hin)
end Go.Proofs.Try
