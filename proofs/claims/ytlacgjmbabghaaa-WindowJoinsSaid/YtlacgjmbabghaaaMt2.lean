/- The tree over a list of values, and the walk over a stretch. -/
import Derived.Test.YtlacgjmbabghaaaMt
namespace Go.Proofs.Try
open Go Go.Dm

/-- The values that are there, from a on, ahead of b. -/
def seg (vs : List AV) (a b : Nat) : List AV := ((vs.take b).drop a).filter fun v => !v.nul
theorem seg_self (vs : List AV) (a : Nat) : seg vs a a = [] := by
  unfold seg
  rw [List.drop_eq_nil_of_le (by simp; omega)]; rfl
theorem seg_append (vs : List AV) {a b c : Nat} (h1 : a ≤ b) (h2 : b ≤ c) : seg vs a b ++ seg vs b c = seg vs a c := by
  unfold seg
  rw [← List.filter_append]
  congr 1
  have e1 : vs.take b = (vs.take c).take b := by rw [List.take_take, Nat.min_eq_left h2]
  rw [e1]
  generalize vs.take c = m
  have e2 : (m.take b).drop a = (m.drop a).take (b - a) := by rw [List.drop_take]
  have e3 : m.drop b = (m.drop a).drop (b - a) := by rw [List.drop_drop]; congr 1; omega
  rw [e2, e3, List.take_append_drop]
theorem seg_length (vs : List AV) (a b : Nat) : (seg vs a b).length ≤ vs.length := by
  unfold seg
  refine Nat.le_trans (List.length_filter_le _ _) ?_
  simp; omega
theorem seg_good {k sc : Int} {vs : List AV} (h : ∀ v ∈ vs, v.nul = false → goodV k sc v) (a b : Nat) : ∀ v ∈ seg vs a b, goodV k sc v := by
  intro v hv
  unfold seg at hv
  rw [List.mem_filter] at hv
  exact h v (List.mem_of_mem_take (List.mem_of_mem_drop hv.1)) (by simpa using hv.2)

/-- A tree that is being made. -/
structure TreePre (kd k sc : Int) (vs : List AV) (lvls : List (List Sm)) : Prop where
  n : vs.length ≤ 65536
  gv : ∀ v ∈ vs, v.nul = false → goodV k sc v
  l0 : ∃ l, lvls[0]? = some l ∧ l.length = vs.length
  sz : ∀ (j : Nat) (l l' : List Sm), lvls[j]? = some l → lvls[j + 1]? = some l' → l'.length = (l.length + 1) / 2
  top1 : ∀ (j : Nat) (l : List Sm), lvls[j]? = some l → j + 1 < lvls.length → 2 ≤ l.length
  node : ∀ (j : Nat) (l : List Sm) (i : Nat) (s : Sm), lvls[j]? = some l → l[i]? = some s → Rep kd k sc s (seg vs (i * 2 ^ j) ((i + 1) * 2 ^ j))

structure TreeOk (kd k sc : Int) (vs : List AV) (lvls : List (List Sm)) : Prop extends TreePre kd k sc vs lvls where
  top2 : ∀ (j : Nat) (l : List Sm), lvls[j]? = some l → 2 ≤ l.length → j + 1 < lvls.length
theorem TreeOk.top {kd k sc : Int} {vs : List AV} {lvls : List (List Sm)} (h : TreeOk kd k sc vs lvls) (j : Nat) (l : List Sm) (hl : lvls[j]? = some l) : 2 ≤ l.length ↔ j + 1 < lvls.length := ⟨h.top2 j l hl, h.top1 j l hl⟩

/-- The lengths go down fast. -/
theorem TreePre.pow {kd k sc : Int} {vs : List AV} {lvls : List (List Sm)} (h : TreePre kd k sc vs lvls) : ∀ (j : Nat) (l : List Sm), lvls[j]? = some l → (l.length - 1) * 2 ^ j < vs.length ∨ l.length = 0 := by
  intro j
  induction j with
  | zero =>
    intro l hl
    obtain ⟨l', e1, e2⟩ := h.l0
    rw [hl] at e1; cases e1
    rw [e2, Nat.pow_zero, Nat.mul_one]; omega
  | succ j ih =>
    intro l hl
    have hlt : j + 1 < lvls.length := (List.getElem?_eq_some_iff.1 hl).1
    obtain ⟨l', hl'⟩ : ∃ l', lvls[j]? = some l' := ⟨lvls[j], List.getElem?_eq_getElem (by omega)⟩
    have e := h.sz j l' l hl' hl
    rcases ih l' hl' with h1 | h1
    · left
      rw [e, Nat.pow_succ]
      have : ((l'.length + 1) / 2 - 1) * 2 ≤ l'.length - 1 := by omega
      calc ((l'.length + 1) / 2 - 1) * (2 ^ j * 2) = ((l'.length + 1) / 2 - 1) * 2 * 2 ^ j := by rw [Nat.mul_assoc, Nat.mul_comm (2 ^ j) 2]
        _ ≤ (l'.length - 1) * 2 ^ j := Nat.mul_le_mul_right _ this
        _ < vs.length := h1
    · right; omega
theorem TreePre.height {kd k sc : Int} {vs : List AV} {lvls : List (List Sm)} (h : TreePre kd k sc vs lvls) (h2 : 2 ≤ lvls.length) : 2 ^ (lvls.length - 2) < vs.length := by
  have hl : lvls[lvls.length - 2]? = some lvls[lvls.length - 2] := List.getElem?_eq_getElem (by omega)
  have h3 := h.top1 _ _ hl (by omega)
  rcases h.pow _ _ hl with h1 | h1
  · refine Nat.lt_of_le_of_lt ?_ h1
    exact Nat.le_mul_of_pos_left _ (by omega)
  · omega

structure OX where
  fr : Int
  to : Int
  s : Sm
  lev : Int
  lk : Int

/-- Between two rounds, and within one. -/
structure InvO (kd k sc : Int) (vs : List AV) (lvls : List (List Sm)) (A B : Nat) (lk0 : Int) (d : Int) (x : OX) : Prop where
  f0 : 0 ≤ x.fr
  ft : x.fr ≤ x.to + 1
  tb : x.to ≤ 65536
  l0 : 0 ≤ x.lev
  ll : x.lev ≤ lvls.length
  nl : x.fr ≤ x.to → ∃ l, lvls[x.lev.toNat]? = some l ∧ x.to < l.length
  rep : ∃ l, Rep kd k sc x.s l ∧ (l ++ seg vs (x.fr.toNat * 2 ^ x.lev.toNat) ((x.to + 1).toNat * 2 ^ x.lev.toNat)).Perm (seg vs A B)
  lk1 : lk0 ≤ x.lk
  lk2 : x.lk ≤ lk0 + 2 * x.lev + d

variable {kd k sc : Int} {vs : List AV} {lvls : List (List Sm)} {A B : Nat} {lk0 d : Int} {x : OX}

/-- The one at the left is taken. -/
theorem InvO.left (hT : TreeOk kd k sc vs lvls) (h : InvO kd k sc vs lvls A B lk0 d x) (hle : x.fr ≤ x.to) :
    ∃ l sm, lvls[x.lev.toNat]? = some l ∧ l[x.fr.toNat]? = some sm ∧ JOk x.s sm ∧ x.lev < lvls.length ∧ x.fr < l.length ∧ InvO kd k sc vs lvls A B lk0 (d + 1) ⟨x.fr + 1, x.to, joinS kd x.s sm, x.lev, x.lk + 1⟩ := by
  obtain ⟨l, hl, hlt⟩ := h.nl hle
  obtain ⟨r, hr, hp⟩ := h.rep
  have hf := h.f0
  have hi : x.fr.toNat < l.length := by omega
  have hsm : l[x.fr.toNat]? = some l[x.fr.toNat] := List.getElem?_eq_getElem hi
  have hn := hT.node _ _ _ _ hl hsm
  have hlev := (List.getElem?_eq_some_iff.1 hl).1
  have h0 := h.l0
  have hsplit : seg vs (x.fr.toNat * 2 ^ x.lev.toNat) ((x.fr.toNat + 1) * 2 ^ x.lev.toNat) ++ seg vs ((x.fr.toNat + 1) * 2 ^ x.lev.toNat) ((x.to + 1).toNat * 2 ^ x.lev.toNat) = seg vs (x.fr.toNat * 2 ^ x.lev.toNat) ((x.to + 1).toNat * 2 ^ x.lev.toNat) :=
    seg_append vs (Nat.mul_le_mul_right _ (by omega)) (Nat.mul_le_mul_right _ (by omega))
  have hlen : r.length + (seg vs (x.fr.toNat * 2 ^ x.lev.toNat) ((x.fr.toNat + 1) * 2 ^ x.lev.toNat)).length ≤ 1048576 := by
    have e1 := hp.length_eq
    have e2 := seg_length vs A B
    have e3 := hT.n
    rw [← hsplit] at e1
    simp only [List.length_append] at e1
    omega
  refine ⟨l, l[x.fr.toNat], hl, hsm, hr.jok hn hlen, by omega, by omega, ⟨by dsimp only; omega, by dsimp only; omega, h.tb, h0, h.ll, fun _ => ⟨l, hl, hlt⟩, ⟨_, hr.join hn, ?_⟩, by have := h.lk1; dsimp only; omega, by have := h.lk2; dsimp only; omega⟩⟩
  have e : (x.fr + 1).toNat = x.fr.toNat + 1 := by omega
  dsimp only
  rw [e, List.append_assoc, hsplit]
  exact hp

/-- The one at the right. -/
theorem InvO.right (hT : TreeOk kd k sc vs lvls) (h : InvO kd k sc vs lvls A B lk0 d x) (hle : x.fr ≤ x.to) :
    ∃ l sm, lvls[x.lev.toNat]? = some l ∧ l[x.to.toNat]? = some sm ∧ JOk x.s sm ∧ x.lev < lvls.length ∧ x.to < l.length ∧ InvO kd k sc vs lvls A B lk0 (d + 1) ⟨x.fr, x.to - 1, joinS kd x.s sm, x.lev, x.lk + 1⟩ := by
  obtain ⟨l, hl, hlt⟩ := h.nl hle
  obtain ⟨r, hr, hp⟩ := h.rep
  have hf := h.f0
  have hi : x.to.toNat < l.length := by omega
  have hsm : l[x.to.toNat]? = some l[x.to.toNat] := List.getElem?_eq_getElem hi
  have hn := hT.node _ _ _ _ hl hsm
  have hlev := (List.getElem?_eq_some_iff.1 hl).1
  have h0 := h.l0
  have e1 : (x.to + 1).toNat = x.to.toNat + 1 := by omega
  have hsplit : seg vs (x.fr.toNat * 2 ^ x.lev.toNat) (x.to.toNat * 2 ^ x.lev.toNat) ++ seg vs (x.to.toNat * 2 ^ x.lev.toNat) ((x.to.toNat + 1) * 2 ^ x.lev.toNat) = seg vs (x.fr.toNat * 2 ^ x.lev.toNat) ((x.to + 1).toNat * 2 ^ x.lev.toNat) := by
    rw [e1]
    exact seg_append vs (Nat.mul_le_mul_right _ (by omega)) (Nat.mul_le_mul_right _ (by omega))
  have hlen : r.length + (seg vs (x.to.toNat * 2 ^ x.lev.toNat) ((x.to.toNat + 1) * 2 ^ x.lev.toNat)).length ≤ 1048576 := by
    have e1 := hp.length_eq
    have e2 := seg_length vs A B
    have e3 := hT.n
    rw [← hsplit] at e1
    simp only [List.length_append] at e1
    omega
  refine ⟨l, l[x.to.toNat], hl, hsm, hr.jok hn hlen, by omega, by omega, ⟨hf, by dsimp only; omega, by have := h.tb; dsimp only; omega, h0, h.ll, fun _ => ⟨l, hl, by dsimp only; omega⟩, ⟨_, hr.join hn, ?_⟩, by have := h.lk1; dsimp only; omega, by have := h.lk2; dsimp only; omega⟩⟩
  have e : (x.to - 1 + 1).toNat = x.to.toNat := by omega
  dsimp only
  rw [e]
  refine List.Perm.trans ?_ hp
  rw [← hsplit, List.append_assoc]
  exact List.Perm.append_left _ List.perm_append_comm

/-- One level up. -/
theorem InvO.up (hT : TreeOk kd k sc vs lvls) (h : InvO kd k sc vs lvls A B lk0 d x) (hd : d ≤ 2) (hlev : x.lev < lvls.length) (hl : ∃ l, lvls[x.lev.toNat]? = some l ∧ x.to < l.length) (he : x.fr % 2 = 0) (ho : x.to % 2 = 1 ∨ x.to < x.fr) :
    InvO kd k sc vs lvls A B lk0 0 ⟨x.fr / 2, (x.to + 1) / 2 - 1, x.s, x.lev + 1, x.lk⟩ := by
  obtain ⟨r, hr, hp⟩ := h.rep
  obtain ⟨l, hl, hlt⟩ := hl
  have hf := h.f0
  have h0 := h.l0
  have hft := h.ft
  have htb := h.tb
  have hT1 : (x.to + 1) % 2 = 0 := by rcases ho with ho | ho <;> omega
  refine ⟨by dsimp only; omega, by dsimp only; omega, by dsimp only; omega, by dsimp only; omega, by dsimp only; omega, fun hle => ?_, ⟨r, hr, ?_⟩, h.lk1, by have := h.lk2; dsimp only; omega⟩
  · dsimp only at hle ⊢
    have h2 : 2 ≤ l.length := by omega
    have h3 := (hT.top _ _ hl).1 h2
    have e : (x.lev + 1).toNat = x.lev.toNat + 1 := by omega
    have hl2 : lvls[x.lev.toNat + 1]? = some lvls[x.lev.toNat + 1] := List.getElem?_eq_getElem h3
    refine ⟨lvls[x.lev.toNat + 1], by rw [e]; exact hl2, ?_⟩
    rw [hT.sz _ _ _ hl hl2]
    omega
  · dsimp only
    have e : (x.lev + 1).toNat = x.lev.toNat + 1 := by omega
    have e1 : (x.fr / 2).toNat * 2 ^ (x.lev.toNat + 1) = x.fr.toNat * 2 ^ x.lev.toNat := by
      rw [Nat.pow_succ, Nat.mul_comm (2 ^ x.lev.toNat) 2, ← Nat.mul_assoc]; congr 1; omega
    have e2 : ((x.to + 1) / 2 - 1 + 1).toNat * 2 ^ (x.lev.toNat + 1) = (x.to + 1).toNat * 2 ^ x.lev.toNat := by
      rw [Nat.pow_succ, Nat.mul_comm (2 ^ x.lev.toNat) 2, ← Nat.mul_assoc]; congr 1; omega
    rw [e, e1, e2]
    exact hp

theorem zero_rep (kd k sc : Int) : Rep kd k sc ⟨0, 0, zeroV⟩ [] := ⟨by simp, rfl, rfl, fun h => (h rfl).elim, fun h => (h rfl).elim, fun h => (h rfl).elim⟩
/-- The sum of one value. -/
def leaf (v : AV) : Sm := if v.nul then ⟨0, 0, zeroV⟩ else ⟨1, v.n, v⟩
theorem leaf_rep {kd k sc : Int} {v : AV} (h : v.nul = false → goodV k sc v) : Rep kd k sc (leaf v) ([v].filter fun v => !v.nul) := by
  unfold leaf
  cases hn : v.nul with
  | true => simpa [hn] using zero_rep kd k sc
  | false =>
    have hg := h hn
    have : [v].filter (fun v => !v.nul) = [v] := by simp [hn]
    rw [this]
    refine ⟨by simpa using hg, by simp, by simp, by simp, fun _ _ x hx => ?_, fun _ _ x hx => ?_⟩
    · simp at hx; subst hx; exact lt4_irrefl _ _
    · simp at hx; subst hx; exact lt4_irrefl _ _
theorem rep_ex (kd k sc : Int) (l : List AV) (h : ∀ v ∈ l, goodV k sc v) : ∃ s, Rep kd k sc s l := by
  induction l with
  | nil => exact ⟨_, zero_rep kd k sc⟩
  | cons v l ih =>
    obtain ⟨s, hs⟩ := ih fun x hx => h x (by simp [hx])
    have hv := leaf_rep (kd := kd) (fun _ => h v (by simp))
    have : [v].filter (fun v => !v.nul) = [v] := by simp [(h v (by simp)).nl]
    rw [this] at hv
    exact ⟨_, hv.join hs⟩
end Go.Proofs.Try
