/- Regions that draw their order: an operation that only reads may be taken first, so long as what may run before it leaves alone what it read. -/
import Derived.Test.YtfohenhmlfiijaaGreatDoorDm13
import Derived.OrdersHeld
namespace Go.Dm

variable {P : Program} {ops : Array Oper} {Q : Exit → Act → World → Prop}

abbrev md : Region.Mode := .any

/-- 'i' waits for 'q', by one edge or several. -/
def waitsT (ops : Array Oper) : Nat → Nat → Nat → Bool
  | 0, _, _ => false
  | n + 1, i, q =>
    match ops[i]? with
    | none => false
    | some o => o.after.any fun e => Region.binds md e && (e.on == q || waitsT ops n e.on q)

def Waits (ops : Array Oper) (i q : Nat) : Prop := ∃ n, waitsT ops n i q = true

/-- What is listed has what it waits for listed. -/
def Down (ops : Array Oper) (listed : Array Bool) : Prop :=
  ∀ p o, ops[p]? = some o → listed.getD p false = true → ∀ e ∈ o.after, Region.binds md e = true → listed.getD e.on false = true

theorem getD_iff (listed : Array Bool) (i : Nat) (h : listed.getD i true = false) : listed.getD i false = false := by
  rw [Array.getD_eq_getD_getElem?] at *
  cases he : listed[i]? with
  | none => rw [he] at h; cases h
  | some b => rw [he] at h; simpa using h

theorem Down.waits {listed : Array Bool} (hd : Down ops listed) : ∀ (n i q : Nat), listed.getD i false = true → waitsT ops n i q = true → listed.getD q false = true := by
  intro n
  induction n with
  | zero => intro i q _ h; cases h
  | succ n ih =>
    intro i q hi h
    unfold waitsT at h
    split at h
    · cases h
    rename_i o ho
    rw [Array.any_eq_true'] at h
    obtain ⟨e, he, h⟩ := h
    simp only [Bool.and_eq_true, Bool.or_eq_true, beq_iff_eq] at h
    have hl := hd i o ho hi e he h.1
    rcases h.2 with h2 | h2
    · rw [← h2]; exact hl
    · exact ih e.on q hl h2

theorem ready_waits {listed : Array Bool} (hd : Down ops listed) {j i : Nat} (hj : j ∈ Region.ready md ops listed) (hw : Waits ops j i) : listed.getD i false = true := by
  obtain ⟨n, hw⟩ := hw
  obtain ⟨_, oj, hoj, hall⟩ := mem_ready.1 hj
  cases n with
  | zero => cases hw
  | succ n =>
    unfold waitsT at hw
    rw [hoj] at hw
    simp only at hw
    rw [Array.any_eq_true'] at hw
    obtain ⟨e, he, h⟩ := hw
    simp only [Bool.and_eq_true, Bool.or_eq_true, beq_iff_eq] at h
    have hl := hall e he h.1
    rcases h.2 with h2 | h2
    · rw [← h2]; exact hl
    · exact hd.waits n e.on i hl h2

theorem getD_set_self {listed : Array Bool} {i : Nat} (h : listed.getD i true = false) : (listed.setIfInBounds i true).getD i false = true := by
  have hlt : i < listed.size := by
    rcases Nat.lt_or_ge i listed.size with h' | h'
    · exact h'
    · rw [Array.getD_eq_getD_getElem?, Array.getElem?_eq_none h'] at h; cases h
  simp [Array.getD_eq_getD_getElem?, hlt]

theorem getD_set_mono {listed : Array Bool} {i j : Nat} (h : listed.getD j false = true) : (listed.setIfInBounds i true).getD j false = true := by
  by_cases e : i = j
  · subst e
    rw [Array.getD_eq_getD_getElem?] at *
    rcases Nat.lt_or_ge i listed.size with h' | h'
    · simp [h']
    · rw [Array.getElem?_eq_none h'] at h; cases h
  · rw [getD_set_ne false e]; exact h

theorem Down.add {listed : Array Bool} (hd : Down ops listed) {j : Nat} (hj : j ∈ Region.ready md ops listed) : Down ops (listed.setIfInBounds j true) := by
  intro p o ho hp e he hb
  obtain ⟨hun, oj, hoj, hall⟩ := mem_ready.1 hj
  by_cases h : j = p
  · subst h
    rw [hoj] at ho
    simp only [Option.some.injEq] at ho; subst ho
    exact getD_set_mono (hall e he hb)
  · rw [getD_set_ne false h] at hp
    exact getD_set_mono (hd p o ho hp e he hb)

/-- What each operation that was taken first asks of the world, till it has come up. -/
abbrev Conds := Nat → (World → Prop) → Prop

def Conds.past (ops : Array Oper) (j : Nat) (𝒞 : Conds) : Conds := fun q S => 𝒞 q S ∧ ¬ Waits ops j q
def Conds.add (𝒞 : Conds) (i : Nat) (S : World → Prop) : Conds := fun q T => 𝒞 q T ∨ (q = i ∧ T = S)

def wpAnyM (P : Program) (ops : Array Oper) (Q : Exit → Act → World → Prop) : Nat → Conds → Array Bool → Act → World → Prop
  | 0, _, listed, a, w => Region.ready md ops listed = [] ∧ Q .normal a w
  | fuel + 1, 𝒞, listed, a, w =>
    (Region.ready md ops listed = [] → Q .normal a w) ∧
    ∀ j ∈ Region.ready md ops listed, wpOp P ops Q j (fun a' w' => (∀ q S, 𝒞.past ops j q S → S w') ∧ wpAnyM P ops Q fuel (𝒞.past ops j) (listed.setIfInBounds j true) a' w') a w

theorem wpAnyM_any : ∀ (fuel : Nat) (𝒞 : Conds) (listed : Array Bool) (a : Act) (w : World), wpAnyM P ops Q fuel 𝒞 listed a w → wpAny P md ops Q fuel listed a w
  | 0, _, _, _, _, h => h
  | fuel + 1, _, _, _, _, h => ⟨h.1, fun i hi => wpOp_mono (fun a' w' h' => wpAnyM_any fuel _ _ a' w' h'.2) (h.2 i hi)⟩

theorem wpAnyM_mono : ∀ (fuel : Nat) (𝒞 𝒞' : Conds) (listed : Array Bool) (a : Act) (w : World), (∀ q S, 𝒞' q S → 𝒞 q S) → wpAnyM P ops Q fuel 𝒞 listed a w → wpAnyM P ops Q fuel 𝒞' listed a w
  | 0, _, _, _, _, _, _, h => h
  | fuel + 1, _, _, _, _, _, hs, h => ⟨h.1, fun i hi => wpOp_mono (fun a' w' h' => ⟨fun q S hq => h'.1 q S ⟨hs _ _ hq.1, hq.2⟩, wpAnyM_mono fuel _ _ _ a' w' (fun q S hq => ⟨hs _ _ hq.1, hq.2⟩) h'.2⟩) (h.2 i hi)⟩

theorem wpAnyM_first {i : Nat} {oi : Oper} {v : Value} {S : World → Prop} (hi : ops[i]? = some oi) (hsel : ∀ (j : Nat) (o : Oper) cs b, ops[j]? = some o → o.op ≠ .select cs b)
    (hQ : ∀ c a w, ¬ Q (.panic c) a w) :
    ∀ (fuel : Nat) (𝒞 : Conds) (listed : Array Bool) (a : Act) (w : World), Down ops listed →
      (∀ j oj, ops[j]? = some oj → j ≠ i → listed.getD j true = false → (∀ e ∈ oj.after, Region.binds md e = true → e.on ≠ i) → oi.apart ops oj = true) →
      i ∈ Region.ready md ops listed → YieldsIf P ops S oi v a → S w → (∀ q T, 𝒞 q T → T w) →
      wpAnyM P ops Q fuel (𝒞.add i S) (listed.setIfInBounds i true) (a.put oi.dst v) w → wpAnyM P ops Q (fuel + 1) 𝒞 listed a w := by
  have hQ' : ∀ c a w, Q (.panic c) (Act.put a oi.dst v) w → Q (.panic c) a w := fun c a w h => (hQ c _ w h).elim
  have hit : ∀ (fuel : Nat) (𝒞 : Conds) (listed : Array Bool) (a : Act) (w : World), YieldsIf P ops S oi v a → S w → (∀ q T, 𝒞 q T → T w) →
      wpAnyM P ops Q fuel (𝒞.add i S) (listed.setIfInBounds i true) (a.put oi.dst v) w →
      wpOp P ops Q i (fun a' w' => (∀ q S, 𝒞.past ops i q S → S w') ∧ wpAnyM P ops Q fuel (𝒞.past ops i) (listed.setIfInBounds i true) a' w') a w := fun fuel 𝒞 listed a w hy hS hC H =>
    hy.wpOp hi hS ⟨fun q T hq => hC q T hq.1, wpAnyM_mono fuel _ _ _ _ _ (fun q T hq => .inl hq.1) H⟩
  intro fuel
  induction fuel with
  | zero =>
    intro 𝒞 listed a w hd _ hr hy hS hC H
    refine ⟨fun h => (by rw [h] at hr; cases hr), fun j hj => ?_⟩
    by_cases hji : j = i
    · subst hji; exact hit 0 𝒞 listed a w hy hS hC H
    · have := ready_mono hj hji
      rw [H.1] at this
      cases this
  | succ fuel ih =>
    intro 𝒞 listed a w hd hfree hr hy hS hC H
    refine ⟨fun h => (by rw [h] at hr; cases hr), fun j hj => ?_⟩
    by_cases hji : j = i
    · subst hji; exact hit _ 𝒞 listed a w hy hS hC H
    · have h1 := H.2 j (ready_mono hj hji)
      obtain ⟨hjun, oj, hoj, hall⟩ := mem_ready.1 hj
      have hiun : listed.getD i false = false := getD_iff listed i (mem_ready.1 hr).1
      have hnw : ¬ Waits ops j i := fun hw => by
        have := ready_waits hd hj hw
        rw [hiun] at this; cases this
      have hnot : ∀ e ∈ oj.after, Region.binds md e = true → e.on ≠ i := fun e he hb heq => by
        have h1 := hall e he hb
        rw [heq, hiun] at h1; cases h1
      have h2 := wpOp_putIf hoj (hfree j oj hoj hji hjun hnot) (fun cs b => hsel i oi cs b hi) (fun cs b => hsel j oj cs b hoj) hQ' hy h1
      have hfree' : ∀ k ok, ops[k]? = some ok → k ≠ i → (listed.setIfInBounds j true).getD k true = false →
          (∀ e ∈ ok.after, Region.binds md e = true → e.on ≠ i) → oi.apart ops ok = true := fun k ok hk hki hun hno => by
        refine hfree k ok hk hki ?_ hno
        by_cases hjk : j = k
        · subst hjk; exact hjun
        · rw [getD_set_ne true hjk] at hun; exact hun
      refine wpOp_mono (fun a' w' h3 => ?_) h2
      obtain ⟨hy', hc', hM⟩ := h3
      have hSw : S w' := hc' i S ⟨.inr ⟨rfl, rfl⟩, hnw⟩
      have hCw : ∀ q T, 𝒞.past ops j q T → T w' := fun q T hq => hc' q T ⟨.inl hq.1, hq.2⟩
      refine ⟨hCw, ih (𝒞.past ops j) (listed.setIfInBounds j true) a' w' (hd.add hj) hfree' (ready_mono hr (Ne.symm hji)) hy' hSw hCw ?_⟩
      rw [Array.setIfInBounds_comm _ _ hji]
      refine wpAnyM_mono fuel _ _ _ _ _ (fun q T hq => ?_) hM
      rcases hq with hq | ⟨rfl, rfl⟩
      · exact ⟨.inl hq.1, hq.2⟩
      · exact ⟨.inr ⟨rfl, rfl⟩, hnw⟩

theorem wpAnyM_done {𝒞 : Conds} {listed : Array Bool} {a : Act} {w : World} (hr : Region.ready md ops listed = []) (h : Q .normal a w) :
    ∀ fuel, wpAnyM P ops Q fuel 𝒞 listed a w
  | 0 => ⟨hr, h⟩
  | _ + 1 => ⟨fun _ => h, by rw [hr]; simp⟩

theorem down_nil (n : Nat) : Down ops (Array.replicate n false) := by
  intro p o _ h
  rw [Array.getD_eq_getD_getElem?, Array.getElem?_replicate] at h
  split at h <;> cases h

end Go.Dm
