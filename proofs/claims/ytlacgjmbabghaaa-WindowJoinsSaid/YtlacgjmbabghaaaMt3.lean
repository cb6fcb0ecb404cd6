/- The tree is made level by level. -/
import Derived.Test.YtlacgjmbabghaaaMt2
import Derived.Test.YtlacgjmbabghaaaM8
namespace Go.Proofs.Try
open Go Go.Dm

theorem seg_end (vs : List AV) {a b : Nat} (h : vs.length ≤ a) : seg vs a b = [] := by
  unfold seg
  rw [List.drop_eq_nil_of_le (by simp; omega)]; rfl
theorem seg_one (vs : List AV) {i : Nat} (h : i < vs.length) : seg vs i (i + 1) = [vs[i]].filter fun v => !v.nul := by
  unfold seg
  congr 1
  rw [List.take_add_one, List.getElem?_eq_getElem h, List.drop_append_of_le_length (by simp; omega), List.drop_eq_nil_of_le (by simp; omega)]
  rfl

/-- The levels that are there, and that the last covers all. -/
structure TreeB (kd k sc : Int) (vs : List AV) (lvls : List (List Sm)) (lv : List Sm) : Prop extends TreePre kd k sc vs lvls where
  ne : 1 ≤ lvls.length
  last : lvls[lvls.length - 1]? = some lv
  cov : ∀ (j : Nat) (l : List Sm), lvls[j]? = some l → vs.length ≤ l.length * 2 ^ j

/-- The node over two. -/
def pr (kd : Int) (l : List Sm) (p : Nat) : Sm := match l[p * 2]?, l[p * 2 + 1]? with
  | some a, some b => joinS kd a b
  | some a, none => a
  | none, _ => ⟨0, 0, zeroV⟩

variable {kd k sc : Int} {vs : List AV} {lvls : List (List Sm)} {lv : List Sm}

theorem pow_two (p j : Nat) : p * 2 * 2 ^ j = p * 2 ^ (j + 1) := by rw [Nat.pow_succ, Nat.mul_comm (2 ^ j) 2, Nat.mul_assoc]

theorem TreeB.pr_jok (h : TreeB kd k sc vs lvls lv) {p : Nat} {a b : Sm} (ha : lv[p * 2]? = some a) (hb : lv[p * 2 + 1]? = some b) : JOk a b := by
  have r1 := h.node _ _ _ _ h.last ha
  have r2 := h.node _ _ _ _ h.last hb
  refine r1.jok r2 ?_
  have := h.n
  have e1 := seg_length vs (p * 2 * 2 ^ (lvls.length - 1)) ((p * 2 + 1) * 2 ^ (lvls.length - 1))
  have e2 := seg_length vs ((p * 2 + 1) * 2 ^ (lvls.length - 1)) ((p * 2 + 1 + 1) * 2 ^ (lvls.length - 1))
  omega

theorem TreeB.pr_rep (h : TreeB kd k sc vs lvls lv) {p : Nat} (hp : p * 2 < lv.length) : Rep kd k sc (pr kd lv p) (seg vs (p * 2 ^ lvls.length) ((p + 1) * 2 ^ lvls.length)) := by
  obtain ⟨j, hj⟩ : ∃ j, lvls.length = j + 1 := ⟨lvls.length - 1, by have := h.ne; omega⟩
  have hl := h.last
  rw [hj, Nat.add_sub_cancel] at hl
  rw [hj]
  have ha : lv[p * 2]? = some lv[p * 2] := List.getElem?_eq_getElem hp
  have r1 := h.node _ _ _ _ hl ha
  have e0 : (p + 1) * 2 ^ (j + 1) = (p * 2 + 1 + 1) * 2 ^ j := by rw [← pow_two, Nat.add_mul, Nat.one_mul]
  have hsplit : seg vs (p * 2 * 2 ^ j) ((p * 2 + 1) * 2 ^ j) ++ seg vs ((p * 2 + 1) * 2 ^ j) ((p * 2 + 1 + 1) * 2 ^ j) = seg vs (p * 2 ^ (j + 1)) ((p + 1) * 2 ^ (j + 1)) := by
    rw [e0, ← pow_two]
    exact seg_append vs (Nat.mul_le_mul_right _ (by omega)) (Nat.mul_le_mul_right _ (by omega))
  rw [← hsplit]
  unfold pr
  rw [ha]
  cases hb : lv[p * 2 + 1]? with
  | some b => exact r1.join (h.node _ _ _ _ hl hb)
  | none =>
    have hlen : lv.length ≤ p * 2 + 1 := List.getElem?_eq_none_iff.1 hb
    have hc := h.cov _ _ hl
    rw [seg_end vs (a := (p * 2 + 1) * 2 ^ j) (Nat.le_trans hc (Nat.mul_le_mul_right _ hlen)), List.append_nil]
    exact r1

/-- One level more. -/
theorem TreeB.push (h : TreeB kd k sc vs lvls lv) (h2 : 2 ≤ lv.length) : TreeB kd k sc vs (lvls ++ [(List.range ((lv.length + 1) / 2)).map (pr kd lv)]) ((List.range ((lv.length + 1) / 2)).map (pr kd lv)) := by
  have hne := h.ne
  have get : ∀ (j : Nat) (l : List Sm), (lvls ++ [(List.range ((lv.length + 1) / 2)).map (pr kd lv)])[j]? = some l → lvls[j]? = some l ∨ (j = lvls.length ∧ l = (List.range ((lv.length + 1) / 2)).map (pr kd lv)) := by
    intro j l hl
    rw [List.getElem?_append] at hl
    split at hl
    · exact .inl hl
    · rename_i hge
      have : j - lvls.length = 0 := by
        cases hc : j - lvls.length with
        | zero => rfl
        | succ n => rw [hc] at hl; simp at hl
      rw [this] at hl
      simp at hl
      exact .inr ⟨by omega, hl.symm⟩
  have lt : ∀ (j : Nat) (l : List Sm), lvls[j]? = some l → j < lvls.length := fun j l hl => (List.getElem?_eq_some_iff.1 hl).1
  refine ⟨⟨h.n, h.gv, ?_, fun j l l' hl hl' => ?_, fun j l hl hj => ?_, fun j l i s hl hs => ?_⟩, by simp, by simp, fun j l hl => ?_⟩
  · obtain ⟨l, e1, e2⟩ := h.l0
    exact ⟨l, by rw [List.getElem?_append_left (by omega)]; exact e1, e2⟩
  · rcases get _ _ hl' with hl' | ⟨e, rfl⟩
    · have := lt _ _ hl'
      rcases get _ _ hl with hl | ⟨e, rfl⟩
      · exact h.sz j l l' hl hl'
      · omega
    · rcases get _ _ hl with hl | ⟨e', rfl⟩
      · have : j = lvls.length - 1 := by omega
        subst this
        rw [h.last] at hl; cases hl
        simp
      · omega
  · simp only [List.length_append, List.length_cons, List.length_nil] at hj
    rcases get _ _ hl with hl | ⟨e', rfl⟩
    · by_cases e : j + 1 < lvls.length
      · exact h.top1 j l hl e
      · have : j = lvls.length - 1 := by have := lt _ _ hl; omega
        subst this
        rw [h.last] at hl; cases hl
        exact h2
    · omega
  · rcases get _ _ hl with hl | ⟨e', rfl⟩
    · exact h.node j l i s hl hs
    · subst e'
      have hi : i < (lv.length + 1) / 2 := by
        have := (List.getElem?_eq_some_iff.1 hs).1; simpa using this
      have : s = pr kd lv i := by
        simp [hi] at hs; exact hs.symm
      subst this
      exact h.pr_rep (by omega)
  · rcases get _ _ hl with hl | ⟨e', rfl⟩
    · exact h.cov j l hl
    · subst e'
      obtain ⟨j, hj⟩ : ∃ j, lvls.length = j + 1 := ⟨lvls.length - 1, by omega⟩
      have hl := h.last
      rw [hj, Nat.add_sub_cancel] at hl
      have := h.cov _ _ hl
      rw [hj, ← pow_two]
      simp only [List.length_map, List.length_range]
      exact Nat.le_trans this (Nat.mul_le_mul_right _ (by omega))

theorem treeB_zero (hn : vs.length ≤ 65536) (hg : ∀ v ∈ vs, v.nul = false → goodV k sc v) : TreeB kd k sc vs [vs.map leaf] (vs.map leaf) := by
  have get : ∀ (j : Nat) (l : List Sm), ([vs.map leaf] : List (List Sm))[j]? = some l → j = 0 ∧ l = vs.map leaf := by
    intro j l hl
    cases j with
    | zero => simp at hl; exact ⟨rfl, hl.symm⟩
    | succ j => simp at hl
  refine ⟨⟨hn, hg, ⟨_, rfl, by simp⟩, fun j l l' hl hl' => ?_, fun j l hl hj => ?_, fun j l i s hl hs => ?_⟩, by simp, rfl, fun j l hl => ?_⟩
  · have := (get _ _ hl').1; omega
  · simp at hj
  · obtain ⟨rfl, rfl⟩ := get _ _ hl
    have hi : i < vs.length := by have := (List.getElem?_eq_some_iff.1 hs).1; simpa using this
    have : s = leaf vs[i] := by simp [hi] at hs; exact hs.symm
    subst this
    rw [Nat.pow_zero, Nat.mul_one, Nat.mul_one, seg_one vs hi]
    exact leaf_rep (hg _ (List.getElem_mem hi))
  · obtain ⟨rfl, rfl⟩ := get _ _ hl
    simp

theorem TreeB.small (h : TreeB kd k sc vs lvls lv) : lvls.length ≤ 18 := by
  by_cases h2 : 2 ≤ lvls.length
  · have e := h.height h2
    have := h.n
    apply Classical.byContradiction
    intro hn
    have : 2 ^ 17 ≤ 2 ^ (lvls.length - 2) := Nat.pow_le_pow_right (by decide) (by omega)
    have e17 : (2 : Nat) ^ 17 = 131072 := by decide
    omega
  · omega
theorem TreeB.done (h : TreeB kd k sc vs lvls lv) (hl : lv.length ≤ 1) : TreeOk kd k sc vs lvls :=
  ⟨h.toTreePre, fun j l hj h2 => by
    have hlt := (List.getElem?_eq_some_iff.1 hj).1
    apply Classical.byContradiction
    intro hn
    have : j = lvls.length - 1 := by omega
    subst this
    rw [h.last] at hj; cases hj
    omega⟩

theorem tree_ex (kd : Int) (hn : vs.length ≤ 65536) (hg : ∀ v ∈ vs, v.nul = false → goodV k sc v) : ∃ lvls, TreeOk kd k sc vs lvls ∧ lvls.length ≤ 18 := by
  have key : ∀ (m : Nat) (lvls : List (List Sm)) (lv : List Sm), lv.length ≤ m → TreeB kd k sc vs lvls lv → ∃ lvls, TreeOk kd k sc vs lvls ∧ lvls.length ≤ 18 := by
    intro m
    induction m with
    | zero => intro lvls lv hm h; exact ⟨lvls, h.done (by omega), h.small⟩
    | succ m ih =>
      intro lvls lv hm h
      by_cases h2 : 2 ≤ lv.length
      · exact ih _ _ (by simp; omega) (h.push h2)
      · exact ⟨lvls, h.done (by omega), h.small⟩
  exact key _ _ _ (Nat.le_refl _) (treeB_zero hn hg)

theorem s15_spec {k sc : Int} : s15_0 k sc = 0 ↔ (1 ≤ k ∧ k ≤ 5 ∧ 0 ≤ sc ∧ sc ≤ 18 ∧ (k ≠ 3 → sc = 0)) := by
  unfold s15_0 s32_0
  by_cases a1 : k < 1
  · simp [a1]; omega
  by_cases a2 : k > 5
  · have : ¬ k ≤ 5 := by omega
    simp [a2, this]
  by_cases a3 : sc ≥ 0
  rotate_left
  · have : ¬ 0 ≤ sc := by omega
    simp [a3, this]
  by_cases a4 : sc ≤ 18
  rotate_left
  · simp [a4]
  by_cases a5 : sc = 0
  · simp [a1, a2, a5]; omega
  by_cases a6 : k = 3
  · simp [a6, a3, a4, a5]
  · have e1 : (sc != 0) = true := by simpa using a5
    have e2 : (k != 3) = true := by simpa using a6
    simp [a1, a2, a3, a4, e1, e2, a5, a6]
theorem s18_good {k sc : Int} {v : AV} (hk : v.k = k) (hs : v.sc = sc) (hin : in64 v.n) (h : s18_0 v.k v.sc v.nul v.n v.s = 0) (hn : v.nul = false) : goodV k sc v := by
  rw [hk, hs, hn] at h
  have h15 : s15_0 k sc = 0 := by
    apply Classical.byContradiction
    intro hne
    simp only [s18_0] at h
    rw [show (s15_0 k sc != 0) = true by simpa using hne] at h
    exact hne h
  obtain ⟨k1, k5, _⟩ := s15_spec.1 h15
  simp only [s18_0, h15, bne_self_eq_false, cond_false, bbeq] at h
  refine ⟨hk, hs, hn, hin, k1, k5, fun e => ?_, fun e => ?_⟩
  · subst e
    have h : (bif !bif v.n == (0 : Int) then decide ((v.s.size : Int) ≤ 256) else false then (20 : Int) else 0) = 0 := h
    apply Classical.byContradiction
    intro hne
    rw [show (v.n == 0) = false by simpa using hne] at h
    cases h
  · apply Classical.byContradiction
    intro hne
    have hne : decide (v.s = { data := { toList := [] } }) = false := by simpa using hne
    have e4 : (k == 4) = false := by simpa using e
    rw [hne, e4] at h
    cases k == 1 <;> cases k == 3 <;> cases k == 5 <;> simp at h
theorem any_good {k sc : Int} {vs : List AV} (hin : ∀ v ∈ vs, in64 v.n) (h : vs.any (badV k sc) = false) : ∀ v ∈ vs, v.nul = false → goodV k sc v := by
  intro v hv hn
  rw [List.any_eq_false] at h
  have hb : badV k sc v = false := by have := h v hv; cases hb : badV k sc v <;> simp_all
  unfold badV at hb
  rw [Bool.or_eq_false_iff] at hb
  obtain ⟨h1, h2⟩ := hb
  have h1 : v.k = k ∧ v.sc = sc := by simpa using h1
  exact s18_good h1.1 h1.2 (hin v hv) (by simpa using h2) hn
end Go.Proofs.Try
