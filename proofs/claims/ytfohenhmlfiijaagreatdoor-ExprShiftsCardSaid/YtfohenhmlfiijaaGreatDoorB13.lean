/- A part of the proof: contracts of functions, by a verified generator of conditions; no condition of its own. -/
import Derived.Test.YtfohenhmlfiijaaGreatDoorB12
namespace Go.Proofs.Tryz
open Go Go.Dm Go.Ex
set_option maxRecDepth 100000
variable {gl : Nat → Option Obj}
def c_27g (a : List R) (K : List R → List (List D) → Prop) : Prop := match a with
  | [.agg x, .agg y] => ∃ a b : EX, x = cells a ∧ y = cells b ∧ fits a ∧ fits b ∧ K [.d (.v (.bool (sameE a b)))] []
  | _ => False
theorem c_27g_ok (a : List R) (K : List R → List (List D) → Prop) (h : c_27g a K) : Ct prog gl 14 a K := by
  unfold c_27g at h
  split at h
  · obtain ⟨a, b, rfl, rfl, h1, h2, h3⟩ := h
    exact (ct27 (size a + 1) a b (Nat.lt_succ_self _) h1 h2).gives h3
  · exact h.elim
theorem c_22g_ok (a : List R) (K : List R → List (List D) → Prop) (h : c_27g a K) : Ct prog gl 13 a K := by
  unfold c_27g at h
  split at h
  · obtain ⟨a, b, rfl, rfl, h1, h2, h3⟩ := h
    exact (ct22 (size a + 1) a b (Nat.lt_succ_self _) h1 h2).gives h3
  · exact h.elim
/-- What a shift gives: an expression, and an error. -/
def emptyE : EX := .mk 0 0 ⟨0, 0⟩ zeroV []
def shR (o : Option EX) : EX × Int := match o with
  | some e => (e, 0)
  | none => (emptyE, 140)
theorem encO_shR (o : Option EX) : encO o = [.agg (cells (shR o).1), .d (.v (.int .i64 (shR o).2))] := by
  cases o with
  | none => simp only [encO, shR, emptyE, cells, cellsL, zeroV]
  | some e => rfl
def c_25g (a : List R) (K : List R → List (List D) → Prop) : Prop := match a with
  | [.agg x, .d (.sl y)] => ∃ (e : EX) (to : List Int), x = cells e ∧ y = encI to ∧ fits e ∧ to.length ≤ 17592186043904 ∧ ∀ (op sub : Int) (t : Ty) (v : Go.Ex.AV) (args : List EX), (shR (shiftE to e)).1 = .mk op sub t v args → K [.agg (encX op sub t v (cellsL args)), .d (.v (.int .i64 (shR (shiftE to e)).2))] []
  | _ => False
theorem c_25g_ok (a : List R) (K : List R → List (List D) → Prop) (h : c_25g a K) : Ct prog gl 11 a K := by
  unfold c_25g at h
  split at h
  · obtain ⟨e, to, rfl, rfl, h1, h2, h3⟩ := h
    refine (ct25 (size e + 1) e to (Nat.lt_succ_self _) h1 h2).gives ?_
    rw [encO_shR]
    rcases hx : (shR (shiftE to e)).1 with ⟨op, sub, t, v, args⟩
    rw [cells_mk]
    exact h3 op sub t v args hx
  · exact h.elim
theorem c_26g_ok (a : List R) (K : List R → List (List D) → Prop) (h : c_25g a K) : Ct prog gl 12 a K := by
  unfold c_25g at h
  split at h
  · obtain ⟨e, to, rfl, rfl, h1, h2, h3⟩ := h
    refine (ct26 (size e + 1) e to (Nat.lt_succ_self _) h1 h2).gives ?_
    rw [encO_shR]
    rcases hx : (shR (shiftE to e)).1 with ⟨op, sub, t, v, args⟩
    rw [cells_mk]
    exact h3 op sub t v args hx
  · exact h.elim
def C_h5 : CallT := addC (addC (addC (addC (addC C_n 9 c_17) 14 c_27g) 13 c_27g) 11 c_25g) 12 c_25g
theorem C_h5_ok : CallsOk prog gl C_h5 := addC_ok (addC_ok (addC_ok (addC_ok (addC_ok C_n_ok c_17_ok) c_27g_ok) c_22g_ok) c_25g_ok) c_26g_ok
theorem vc6 (op sub : Int) (t : Ty) (v : Go.Ex.AV) (args : List EX) (op' sub' : Int) (t' : Ty) (v' : Go.Ex.AV) (args' : List EX) (x : List (List D)) (Q : List R → List (List D) → Prop) : vc E_0 C_h5 noI fi4 (f4.body.getD .skip) f4.results.toList [.agg (encX op sub t v (cellsL args)), .agg (encX op' sub' t' v' (cellsL args')), .d (.sl x)] Q = (
  ∃ (e : EX), ∃ (to : List Int), [D.v (Value.int IntKind.i64 op), D.v (Value.int IntKind.i64 sub), D.v (Value.int IntKind.i64 t.1), D.v (Value.int
  IntKind.i64 t.2), D.v (Value.int IntKind.i64 v.1.1), D.v (Value.int IntKind.i64 v.1.2), D.v (Value.bool v.2), D.v (Value.int IntKind.i64 v.3), D.v
  (Value.string v.4), D.sl (cellsL args)] = cells e ∧ x = List.map (fun (n : Int) => [D.v (Value.int IntKind.i64 n)]) to ∧ fits e ∧ to.length ≤
  (17592186043904 : Nat) ∧ ∀ (op_1 sub_1 : Int) (t_1 : Ty) (v_1 : AV) (args_1 : List EX), (shR (shiftE to e)).1 = EX.mk op_1 sub_1 t_1 v_1 args_1 → ∃
  (e_1 : EX), ∃ (to_1 : List Int), [D.v (Value.int IntKind.i64 op), D.v (Value.int IntKind.i64 sub), D.v (Value.int IntKind.i64 t.1), D.v (Value.int
  IntKind.i64 t.2), D.v (Value.int IntKind.i64 v.1.1), D.v (Value.int IntKind.i64 v.1.2), D.v (Value.bool v.2), D.v (Value.int IntKind.i64 v.3), D.v
  (Value.string v.4), D.sl (cellsL args)] = cells e_1 ∧ x = List.map (fun (n : Int) => [D.v (Value.int IntKind.i64 n)]) to_1 ∧ fits e_1 ∧ to_1.length ≤
  (17592186043904 : Nat) ∧ ∀ (op_2 sub_2 : Int) (t_2 : Ty) (v_2 : AV) (args_2 : List EX), (shR (shiftE to_1 e_1)).1 = EX.mk op_2 sub_2 t_2 v_2 args_2 →
  ∃ (a : EX), ∃ (b : EX), [D.v (Value.int IntKind.i64 op_1), D.v (Value.int IntKind.i64 sub_1), D.v (Value.int IntKind.i64 t_1.1), D.v (Value.int
  IntKind.i64 t_1.2), D.v (Value.int IntKind.i64 v_1.1.1), D.v (Value.int IntKind.i64 v_1.1.2), D.v (Value.bool v_1.2), D.v (Value.int IntKind.i64
  v_1.3), D.v (Value.string v_1.4), D.sl (cellsL args_1)] = cells a ∧ [D.v (Value.int IntKind.i64 op_2), D.v (Value.int IntKind.i64 sub_2), D.v
  (Value.int IntKind.i64 t_2.1), D.v (Value.int IntKind.i64 t_2.2), D.v (Value.int IntKind.i64 v_2.1.1), D.v (Value.int IntKind.i64 v_2.1.2), D.v
  (Value.bool v_2.2), D.v (Value.int IntKind.i64 v_2.3), D.v (Value.string v_2.4), D.sl (cellsL args_2)] = cells b ∧ fits a ∧ fits b ∧ ∃ (a_1 : EX), ∃
  (b_1 : EX), [D.v (Value.int IntKind.i64 op), D.v (Value.int IntKind.i64 sub), D.v (Value.int IntKind.i64 t.1), D.v (Value.int IntKind.i64 t.2), D.v
  (Value.int IntKind.i64 v.1.1), D.v (Value.int IntKind.i64 v.1.2), D.v (Value.bool v.2), D.v (Value.int IntKind.i64 v.3), D.v (Value.string v.4), D.sl
  (cellsL args)] = cells a_1 ∧ [D.v (Value.int IntKind.i64 op'), D.v (Value.int IntKind.i64 sub'), D.v (Value.int IntKind.i64 t'.1), D.v (Value.int
  IntKind.i64 t'.2), D.v (Value.int IntKind.i64 v'.1.1), D.v (Value.int IntKind.i64 v'.1.2), D.v (Value.bool v'.2), D.v (Value.int IntKind.i64 v'.3),
  D.v (Value.string v'.4), D.sl (cellsL args')] = cells b_1 ∧ fits a_1 ∧ fits b_1 ∧ ∃ (a_2 : EX), ∃ (b_2 : EX), [D.v (Value.int IntKind.i64 op), D.v
  (Value.int IntKind.i64 sub), D.v (Value.int IntKind.i64 t.1), D.v (Value.int IntKind.i64 t.2), D.v (Value.int IntKind.i64 v.1.1), D.v (Value.int
  IntKind.i64 v.1.2), D.v (Value.bool v.2), D.v (Value.int IntKind.i64 v.3), D.v (Value.string v.4), D.sl (cellsL args)] = cells a_2 ∧ [D.v (Value.int
  IntKind.i64 op'), D.v (Value.int IntKind.i64 sub'), D.v (Value.int IntKind.i64 t'.1), D.v (Value.int IntKind.i64 t'.2), D.v (Value.int IntKind.i64
  v'.1.1), D.v (Value.int IntKind.i64 v'.1.2), D.v (Value.bool v'.2), D.v (Value.int IntKind.i64 v'.3), D.v (Value.string v'.4), D.sl (cellsL args')] =
  cells b_2 ∧ fits a_2 ∧ fits b_2 ∧ ∃ (a_3 : EX), ∃ (b_3 : EX), [D.v (Value.int IntKind.i64 op), D.v (Value.int IntKind.i64 sub), D.v (Value.int
  IntKind.i64 t.1), D.v (Value.int IntKind.i64 t.2), D.v (Value.int IntKind.i64 v.1.1), D.v (Value.int IntKind.i64 v.1.2), D.v (Value.bool v.2), D.v
  (Value.int IntKind.i64 v.3), D.v (Value.string v.4), D.sl (cellsL args)] = cells a_3 ∧ [D.v (Value.int IntKind.i64 op), D.v (Value.int IntKind.i64
  sub), D.v (Value.int IntKind.i64 t.1), D.v (Value.int IntKind.i64 t.2), D.v (Value.int IntKind.i64 v.1.1), D.v (Value.int IntKind.i64 v.1.2), D.v
  (Value.bool v.2), D.v (Value.int IntKind.i64 v.3), D.v (Value.string v.4), D.sl (cellsL args)] = cells b_3 ∧ fits a_3 ∧ fits b_3 ∧ Q [R.d (D.v
  (Value.bool (bif bif bif bif true then sameE a b else false then (shR (shiftE to e)).2 == (shR (shiftE to_1 e_1)).2 else false then sameE a_1 b_1 ==
  sameE a_2 b_2 else false then sameE a_3 b_3 else false)))] []) := by kernel_rfl
theorem newSub_in {to : List Int} {op sub s : Int} (hs : in64 sub) (ht : ∀ x ∈ to, in64 x) (h : newSub to op sub = some s) : in64 s := by
  unfold newSub at h
  split at h
  · split at h
    · cases h
    · split at h
      · cases h
      · rename_i x hx
        split at h
        · cases h
        · simp only [Option.some.injEq] at h
          subst h
          exact ht _ (List.mem_of_getElem? hx)
  · simp only [Option.some.injEq] at h
    subst h; exact hs
mutual
theorem fits_shift {to : List Int} (ht : ∀ x ∈ to, in64 x) : ∀ {e r : EX}, fits e → shiftE to e = some r → fits r
  | .mk op sub t v args, r, hf, h => by
    obtain ⟨⟨u1, u2, u3, u4, u5, u6, u7⟩, u8, u9⟩ := fits_mk hf
    simp only [shiftE] at h
    rcases hs : newSub to op sub with _ | s
    · rw [hs] at h; cases h
    · rw [hs] at h
      rcases hl : shiftL to args with _ | l
      · rw [hl] at h; cases h
      · rw [hl] at h
        simp only [Option.some.injEq] at h
        subst h
        obtain ⟨g1, g2⟩ := fitsL_shift ht u9 hl
        simp only [fits]
        exact ⟨⟨u1, newSub_in u2 ht hs, u3, u4, u5, u6, u7⟩, by omega, g1⟩
theorem fitsL_shift {to : List Int} (ht : ∀ x ∈ to, in64 x) : ∀ {l r : List EX}, fitsL l → shiftL to l = some r → fitsL r ∧ r.length = l.length
  | [], r, _, h => by
    simp only [shiftL, Option.some.injEq] at h
    subst h
    exact ⟨by simp only [fitsL], rfl⟩
  | a :: l, r, hf, h => by
    simp only [fitsL] at hf
    simp only [shiftL] at h
    rcases ha : shiftE to a with _ | x
    · rw [ha] at h; cases h
    · rw [ha] at h
      rcases hl : shiftL to l with _ | q
      · rw [hl] at h; cases h
      · rw [hl] at h
        simp only [Option.some.injEq] at h
        subst h
        obtain ⟨g1, g2⟩ := fitsL_shift ht hf.2 hl
        exact ⟨by simp only [fitsL]; exact ⟨fits_shift ht hf.1 ha, g1⟩, by simp [g2]⟩
end
theorem fits_empty : fits emptyE := by
  simp only [emptyE, fits, zeroV, fitsL, in64, List.length_nil]
  refine ⟨⟨?_, ?_, ?_, ?_, ?_, ?_, ?_⟩, ?_, trivial⟩ <;> simp
theorem fits_shR {to : List Int} (ht : ∀ x ∈ to, in64 x) {e : EX} (hf : fits e) : fits (shR (shiftE to e)).1 := by
  rcases h : shiftE to e with _ | r
  · exact fits_empty
  · exact fits_shift ht hf h
theorem same_self (a : EX) : sameE a a = true := by simp [sameE]
/-- The law. -/
theorem ct6 : ∀ (x y : EX) (to : List Int), fits x → fits y → (∀ s ∈ to, in64 s) → to.length ≤ 17592186043904 → Ct prog gl 4 [.agg (cells x), .agg (cells y), .d (.sl (encI to))] (gives [.d (.v (.bool true))])
  | .mk op sub t v args, .mk op' sub' t' v' args', to, hf, hf', ht, hl => by
    have hc : encX op sub t v (cellsL args) = cells (.mk op sub t v args) := (cells_mk _ _ _ _ _).symm
    have hc' : encX op' sub' t' v' (cellsL args') = cells (.mk op' sub' t' v' args') := (cells_mk _ _ _ _ _).symm
    rw [cells_mk, cells_mk]
    refine ct_of_vc E_ok C_h5_ok ioK_no it_ok mixed (fn := f4) (body := f4.body.getD .skip) (by kernel_rfl) (by kernel_rfl) (by kernel_rfl) (fi := fi4) (by kernel_rfl) (by kernel_rfl) ⟨_, _, rfl, rfl⟩ ?_
    rw [vc6]
    refine ⟨.mk op sub t v args, to, hc, rfl, hf, hl, fun op1 sub1 t1 v1 args1 h1 => ⟨.mk op sub t v args, to, hc, rfl, hf, hl, fun op2 sub2 t2 v2 args2 h2 => ?_⟩⟩
    have hr := fits_shR ht hf
    have e := h1.symm.trans h2
    refine ⟨.mk op1 sub1 t1 v1 args1, .mk op2 sub2 t2 v2 args2, (cells_mk _ _ _ _ _).symm, (cells_mk _ _ _ _ _).symm, h1 ▸ hr, h2 ▸ hr, .mk op sub t v args, .mk op' sub' t' v' args', hc, hc', hf, hf', .mk op sub t v args, .mk op' sub' t' v' args', hc, hc', hf, hf', .mk op sub t v args, .mk op sub t v args, hc, hc, hf, hf, ?_, rfl⟩
    rw [e, same_self, same_self]
    simp
end Go.Proofs.Tryz
