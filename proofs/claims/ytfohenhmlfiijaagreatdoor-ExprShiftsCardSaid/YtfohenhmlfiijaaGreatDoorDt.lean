/- What reads as an expression, a value or a type is data of it. -/
import Derived.Test.YtfohenhmlfiijaaGreatDoorB13
import Derived.Test.YtfohenhmlfiijaaGreatDoorGl
namespace Go.Proofs.Tryz
open Go Go.Dm Go.Ex
set_option maxRecDepth 100000
theorem own : ownKnob Tryz.prog.godebug = none := by kernel_rfl
theorem laidOut : laidOutB Tryz.prog = true := by kernel_rfl
theorem in64_of {n : Int} (h : IntKind.i64.min ≤ n ∧ n ≤ IntKind.i64.max) : in64 n := by
  have h1 : IntKind.i64.min = -9223372036854775808 := rfl
  have h2 : IntKind.i64.max = 9223372036854775807 := rfl
  rw [h1, h2] at h
  exact ⟨h.1, by omega⟩
theorem typ_data {ds : List D} (h : TyD Tryz.prog 23 ds) : ∃ t : Ty, ds = t.cs ∧ in64 t.k ∧ in64 t.sc := by
  obtain ⟨hl, _⟩ := h.struct_inv Tryz.underlying23
  have hl : ds.length = 2 := hl.trans (by kernel_rfl)
  match ds, hl with
  | [d0, d1], _ =>
    obtain ⟨k, hk, e0⟩ := (h.fld Tryz.underlying23 0 rfl (n := 1) (by kernel_rfl)).int_inv Tryz.underlying3
    obtain ⟨sc, hs, e1⟩ := (h.fld Tryz.underlying23 1 rfl (n := 1) (by kernel_rfl)).int_inv Tryz.underlying3
    simp at e0 e1
    subst e0; subst e1
    exact ⟨⟨k, sc⟩, rfl, in64_of hk, in64_of hs⟩
theorem val_data {ds : List D} (h : TyD Tryz.prog 25 ds) : ∃ v : Go.Ex.AV, ds = v.cs ∧ in64 v.t.k ∧ in64 v.t.sc ∧ in64 v.n ∧ v.s.size ≤ reachBytes := by
  obtain ⟨hl, _⟩ := h.struct_inv Tryz.underlying25
  have hl : ds.length = 5 := hl.trans (by kernel_rfl)
  match ds, hl with
  | [d0, d1, d2, d3, d4], _ =>
    obtain ⟨t, e0, h1, h2⟩ := typ_data (h.fld Tryz.underlying25 0 rfl (n := 2) (by kernel_rfl))
    obtain ⟨b, e2⟩ := (h.fld Tryz.underlying25 1 rfl (n := 1) (by kernel_rfl)).bool_inv Tryz.underlying4
    obtain ⟨n, hn, e3⟩ := (h.fld Tryz.underlying25 2 rfl (n := 1) (by kernel_rfl)).int_inv Tryz.underlying2
    obtain ⟨s, hs, e4⟩ := (h.fld Tryz.underlying25 3 rfl (n := 1) (by kernel_rfl)).str_inv Tryz.underlying9
    simp at e0 e2 e3 e4
    obtain ⟨rfl, rfl⟩ := e0
    subst e2; subst e3; subst e4
    exact ⟨⟨t, b, n, s⟩, rfl, h1, h2, in64_of hn, hs⟩
theorem exprs_of : ∀ {es : List (List D)}, (∀ r ∈ es, ∃ e : EX, r = cells e ∧ fits e) → ∃ l : List EX, es = cellsL l ∧ fitsL l
  | [], _ => ⟨[], by simp only [cellsL], by simp only [fitsL]⟩
  | r :: es, h => by
    obtain ⟨e, rfl, h1⟩ := h r (by simp)
    obtain ⟨l, rfl, h2⟩ := exprs_of (es := es) (fun r hr => h r (List.mem_cons_of_mem _ hr))
    exact ⟨e :: l, by simp only [cellsL], by simp only [fitsL]; exact ⟨h1, h2⟩⟩
theorem expr_data : ∀ (n : Nat) (ds : List D), SizeOf.sizeOf ds < n → TyD Tryz.prog 28 ds → ∃ e : EX, ds = cells e ∧ fits e
  | 0, _, h, _ => absurd h (Nat.not_lt_zero _)
  | n + 1, ds, hs, h => by
    obtain ⟨hl, _⟩ := h.struct_inv Tryz.underlying28
    have hl : ds.length = 10 := hl.trans (by kernel_rfl)
    match ds, hl, hs with
    | [d0, d1, d2, d3, d4, d5, d6, d7, d8, d9], _, hs =>
      obtain ⟨op, hop, e0⟩ := (h.fld Tryz.underlying28 0 rfl (n := 1) (by kernel_rfl)).int_inv Tryz.underlying3
      obtain ⟨sub, hsub, e1⟩ := (h.fld Tryz.underlying28 1 rfl (n := 1) (by kernel_rfl)).int_inv Tryz.underlying3
      obtain ⟨t, e2, h1, h2⟩ := typ_data (h.fld Tryz.underlying28 2 rfl (n := 2) (by kernel_rfl))
      obtain ⟨v, e3, h3, h4, h5, h6⟩ := val_data (h.fld Tryz.underlying28 3 rfl (n := 5) (by kernel_rfl))
      obtain ⟨es, hes, e4, hx⟩ := (h.fld Tryz.underlying28 4 rfl (n := 1) (by kernel_rfl)).sl_inv Tryz.underlying26
      simp at e0 e1 e2 e3 e4
      obtain ⟨rfl, rfl⟩ := e2
      obtain ⟨rfl, rfl, rfl, rfl, rfl⟩ := e3
      subst e0; subst e1; subst e4
      obtain ⟨l, rfl, hll⟩ := exprs_of (es := es) fun r hr => expr_data n r (by
        have := List.sizeOf_lt_of_mem hr
        simp only [List.cons.sizeOf_spec, D.sl.sizeOf_spec] at hs
        omega) (hx r hr)
      refine ⟨.mk op sub t v l, by simp only [cells], ?_⟩
      simp only [fits]
      have b28 : Tryz.prog.bytesOf 28 = 104 := by kernel_rfl
      have rb : reachBytes = 140737488351232 := rfl
      rw [b28, rb, cellsL_len] at hes
      exact ⟨⟨in64_of hop, in64_of hsub, h1, h2, h3, h4, h5⟩, by omega, hll⟩
theorem ints_data : ∀ {es : List (List D)}, (∀ r ∈ es, TyD Tryz.prog 3 r) → ∃ l : List Int, es = encI l ∧ ∀ s ∈ l, in64 s
  | [], _ => ⟨[], rfl, by simp⟩
  | r :: es, h => by
    obtain ⟨n, hn, rfl⟩ := (h r (by simp)).int_inv Tryz.underlying3
    obtain ⟨l, rfl, hl⟩ := ints_data (es := es) (fun r hr => h r (List.mem_cons_of_mem _ hr))
    refine ⟨n :: l, rfl, fun x hx => ?_⟩
    cases hx with
    | head => exact in64_of hn
    | tail _ hx => exact hl x hx
end Go.Proofs.Tryz
