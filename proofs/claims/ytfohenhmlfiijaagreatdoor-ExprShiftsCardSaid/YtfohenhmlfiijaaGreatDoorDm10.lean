/- Temporaries that are written; guards; contracts of calls. -/
import Derived.Test.YtfohenhmlfiijaaGreatDoorDm9
namespace Go.Dm

variable {P : Program} {E : Env}
variable {B0 : Nat} {bx : List Nat} {W0 : World} {ok0 : Nat → Prop} {Z : Zr} {N : Nat}
variable {ok : Nat → Prop} {φ : Nat → Value} {s : St} {a : Act} {w : World}

theorem put_getD (a : Act) (d t : Nat) (v : Value) (hd : d < a.tmps.size) : (a.put (some d) v).tmps.getD t undef = if t = d then v else a.tmps.getD t undef := by
  simp only [Act.put, Array.getD_eq_getD_getElem?, Array.getElem?_setIfInBounds]
  by_cases h : d = t
  · subst h; simp [hd]
  · simp [h, Ne.symm h]

theorem lk_gclr (gd : List (Nat × (Nat × Bool × V))) (k t : Nat) : ∀ t' w' x, lk (gclr gd k) t = some (t', w', x) → (∃ x0, lk gd t = some (t', w', x0) ∧ (x = .dead ∨ (x = x0 ∧ t' ≠ k ∧ t ≠ k))) := by
  induction gd with
  | nil => intro t' w' x h; simp [gclr, lk] at h
  | cons p r ih =>
    obtain ⟨a, u, w, y⟩ := p
    intro t' w' x h
    simp only [gclr] at h
    by_cases ha : a = t
    · subst ha
      have e : Nat.beq a a = true := by simp
      split at h
      · rename_i h1 h2
        simp only [lk, e, Option.some.injEq, Prod.mk.injEq] at h ⊢
        obtain ⟨rfl, rfl, rfl⟩ := h
        exact ⟨y, ⟨rfl, rfl, rfl⟩, .inr ⟨rfl, beq_false.1 h1, beq_false.1 h2⟩⟩
      · simp only [lk, e, Option.some.injEq, Prod.mk.injEq] at h ⊢
        obtain ⟨rfl, rfl, rfl⟩ := h
        exact ⟨y, ⟨rfl, rfl, rfl⟩, .inl rfl⟩
    · have e : Nat.beq a t = false := beq_false.2 ha
      split at h <;> (simp only [lk, e] at h ⊢; exact ih t' w' x h)

theorem Rel.put (r : Rel B0 bx W0 ok0 Z N ok φ s a w) {d : Nat} (hd : d < N) {v : V} {v' : Value} (hv : VR ok φ s.hp w v v') : Rel B0 bx W0 ok0 Z N ok φ (s.put d v) (a.put (some d) v') w := by
  have hd' : d < a.tmps.size := by rw [r.sz]; exact hd
  exact {
    sz := by simp [Act.put, r.sz]
    tm := fun t x h => by
      simp only [St.put] at h
      rw [lk_pt] at h
      rw [put_getD a d t v' hd']
      by_cases e : d = t
      · subst e; simp at h; subst h; rw [if_pos rfl]; exact hv
      · rw [if_neg e] at h; rw [if_neg (Ne.symm e)]; exact r.tm t x h
    gd := fun t t' w' x h hw => by
      obtain ⟨x0, h0, h1⟩ := lk_gclr s.gd d t t' w' x h
      rcases h1 with rfl | ⟨rfl, h2, h3⟩
      · exact .dead _
      · rw [put_getD a d t' v' hd', if_neg h2] at hw
        rw [put_getD a d t v' hd', if_neg h3]
        exact r.gd t t' w' x h0 hw
    gu := fun t t' w' b h hw => by
      obtain ⟨x0, h0, h1⟩ := lk_gclr s.gd d t t' w' _ h
      rcases h1 with h1 | ⟨h1, h2, h3⟩
      · cases h1
      · subst h1
        rw [put_getD a d t' v' hd', if_neg h2] at hw
        rw [put_getD a d t v' hd', if_neg h3]
        exact r.gu t t' w' b h0 hw
    kn := fun t b h => by
      simp only [St.put] at h
      rw [lk_rm] at h
      by_cases e : d = t
      · rw [if_pos e] at h; cases h
      · rw [if_neg e] at h; rw [put_getD a d t v' hd', if_neg (Ne.symm e)]; exact r.kn t b h
    hp := r.hp, act := r.act, inj := r.inj, one := r.one, okl := r.okl, oks := r.oks, ok0 := r.ok0, upd := r.upd, b0 := r.b0, df := by simpa [Act.put] using r.df, kz := r.kz, zs := r.zs, rt := r.rt, pin := r.pin }

/-- A temporary of which nothing is known any more. -/
theorem Rel.kill (r : Rel B0 bx W0 ok0 Z N ok φ s a w) {d : Nat} (hd : d < N) (v' : Value) : Rel B0 bx W0 ok0 Z N ok φ (s.kill d) (a.put (some d) v') w := by
  have h := r.put hd (.dead v')
  exact { h with
    tm := fun t x hx => by
      simp only [St.kill] at hx
      rw [lk_rm] at hx
      by_cases e : d = t
      · rw [if_pos e] at hx; cases hx
      · rw [if_neg e] at hx
        exact h.tm t x (by simp only [St.put]; rw [lk_pt, if_neg e]; exact hx) }

theorem Rel.killSame (r : Rel B0 bx W0 ok0 Z N ok φ s a w) (d : Nat) : Rel B0 bx W0 ok0 Z N ok φ (s.kill d) a w := by
  exact { r with
    tm := fun t x hx => by
      simp only [St.kill] at hx
      rw [lk_rm] at hx
      by_cases e : d = t
      · rw [if_pos e] at hx; cases hx
      · rw [if_neg e] at hx; exact r.tm t x hx
    gd := fun t t' w' x h hw => by
      obtain ⟨x0, h0, h1⟩ := lk_gclr s.gd d t t' w' x h
      rcases h1 with rfl | ⟨rfl, h2, h3⟩
      · exact .dead _
      · exact r.gd t t' w' x h0 hw
    gu := fun t t' w' b h hw => by
      obtain ⟨x0, h0, h1⟩ := lk_gclr s.gd d t t' w' _ h
      rcases h1 with h1 | ⟨h1, h2, h3⟩
      · cases h1
      · subst h1; exact r.gu t t' w' b h0 hw
    kn := fun t b h => by
      simp only [St.kill] at h
      rw [lk_rm] at h
      by_cases e : d = t
      · rw [if_pos e] at h; cases h
      · rw [if_neg e] at h; exact r.kn t b h }

theorem Rel.putO (r : Rel B0 bx W0 ok0 Z N ok φ s a w) {d : Option Nat} (hd : ∀ k, d = some k → k < N) {v : V} {v' : Value} (hv : VR ok φ s.hp w v v') : Rel B0 bx W0 ok0 Z N ok φ (Dm.putO s d v) (a.put d v') w := by
  cases d with
  | none => exact r
  | some d =>
    cases v <;> first | exact r.kill (hd d rfl) v' | exact r.put (hd d rfl) hv

/-- A value under a guard that is not decided: the operation was carried out, or it was not and 'undef' was laid. -/
theorem Rel.putG (r : Rel B0 bx W0 ok0 Z N ok φ s a w) {d : Nat} (hd : d < N) {t : Nat} {want : Bool} {v : V} {v' : Value}
    (hv : (a.tmps.getD t undef = .bool want ∧ VR ok φ s.hp w v v') ∨ (a.tmps.getD t undef ≠ .bool want ∧ v' = undef)) : Rel B0 bx W0 ok0 Z N ok φ (s.putG d (t, want) v) (a.put (some d) v') w := by
  have hd' : d < a.tmps.size := by rw [r.sz]; exact hd
  have hk := r.kill hd v'
  unfold St.putG
  by_cases e0 : t = d
  · have : Nat.beq t d = true := by simp [e0]
    simp only [this]
    exact { hk with }
  · have e1 : Nat.beq t d = false := beq_false.2 e0
    simp only [e1]
    exact { hk with
      gd := fun u u' w' x h hw => by
        rw [lk_pt] at h
        by_cases e : d = u
        · subst e
          rw [if_pos rfl] at h
          simp only [Option.some.injEq, Prod.mk.injEq] at h
          obtain ⟨rfl, rfl, rfl⟩ := h
          rw [put_getD a d t v' hd', if_neg e0] at hw
          rw [put_getD a d d v' hd', if_pos rfl]
          rcases hv with ⟨_, hv⟩ | ⟨hn, _⟩
          · exact hv
          · exact (hn hw).elim
        · rw [if_neg e] at h
          exact hk.gd u u' w' x h hw
      gu := fun u u' w' b h hw => by
        rw [lk_pt] at h
        by_cases e : d = u
        · subst e
          rw [if_pos rfl] at h
          simp only [Option.some.injEq, Prod.mk.injEq] at h
          obtain ⟨rfl, rfl, rfl⟩ := h
          rw [put_getD a d t v' hd', if_neg e0] at hw
          rw [put_getD a d d v' hd', if_pos rfl]
          rcases hv with ⟨hy, _⟩ | ⟨_, hn⟩
          · exact (hw hy).elim
          · exact hn
        · rw [if_neg e] at h
          exact hk.gu u u' w' b h hw }

theorem Rel.putGO (r : Rel B0 bx W0 ok0 Z N ok φ s a w) {d : Option Nat} (hd : ∀ k, d = some k → k < N) {t : Nat} {want : Bool} {v : V} {v' : Value}
    (hv : (a.tmps.getD t undef = .bool want ∧ VR ok φ s.hp w v v') ∨ (a.tmps.getD t undef ≠ .bool want ∧ v' = undef)) : Rel B0 bx W0 ok0 Z N ok φ (Dm.putGO s d (t, want) v) (a.put d v') w := by
  cases d with
  | none => exact r
  | some d =>
    cases v <;> first | exact r.kill (hd d rfl) v' | exact r.putG (hd d rfl) hv

theorem Rel.know (r : Rel B0 bx W0 ok0 Z N ok φ s a w) {t : Nat} {b : Bool} (h : a.tmps.getD t undef = .bool b) : Rel B0 bx W0 ok0 Z N ok φ (s.know t b) a w :=
  { r with
    kn := fun u c hc => by
      simp only [St.know] at hc
      rw [lk_pt] at hc
      by_cases e : t = u
      · subst e; simp at hc; subst hc; exact h
      · rw [if_neg e] at hc; exact r.kn u c hc }

theorem Rel.clearG (r : Rel B0 bx W0 ok0 Z N ok φ s a w) : Rel B0 bx W0 ok0 Z N ok φ { s with gd := [] } a w :=
  { r with gd := fun t t' w' x h => by simp [lk] at h, gu := fun t t' w' b h => by simp [lk] at h }

theorem Rel.killL (keep : List Nat) (l : List Nat) : ∀ {s : St}, Rel B0 bx W0 ok0 Z N ok φ s a w → Rel B0 bx W0 ok0 Z N ok φ (Dm.killL keep l s) a w := by
  induction l with
  | nil => intro s r; exact r
  | cons d l ih =>
    intro s r
    simp only [Dm.killL]
    split
    · exact ih r
    · exact ih (r.killSame d)

theorem Rel.endRegion (r : Rel B0 bx W0 ok0 Z N ok φ s a w) (keep : List Nat) (ops : List Oper) : Rel B0 bx W0 ok0 Z N ok φ (Dm.endRegion keep ops s) a w :=
  (Rel.killL keep (dsts ops) r).clearG

/-- A decided guard. -/
theorem splitG_sound (n : Nat) : ∀ {s : St} {t : Nat} {want : Bool} {Y M : St → Prop}, Rel B0 bx W0 ok0 Z N ok φ s a w → splitG n s t want Y M →
    (a.tmps.getD t undef = .bool want ∧ ∃ s', Y s' ∧ Rel B0 bx W0 ok0 Z N ok φ s' a w ∧ s'.hp = s.hp) ∨ (a.tmps.getD t undef ≠ .bool want ∧ ∃ s', M s' ∧ Rel B0 bx W0 ok0 Z N ok φ s' a w ∧ s'.hp = s.hp) := by
  induction n with
  | zero => intro s t want Y M r h; exact h.elim
  | succ n ih =>
    intro s t want Y M r h
    unfold splitG at h
    have fin : ∀ (b : Bool), a.tmps.getD t undef = .bool b → ∀ s1 : St, Rel B0 bx W0 ok0 Z N ok φ s1 a w → s1.hp = s.hp → (b = want → Y (s1.know t want)) ∧ (b = !want → M (s1.know t (!want))) →
        (a.tmps.getD t undef = .bool want ∧ ∃ s', Y s' ∧ Rel B0 bx W0 ok0 Z N ok φ s' a w ∧ s'.hp = s.hp) ∨ (a.tmps.getD t undef ≠ .bool want ∧ ∃ s', M s' ∧ Rel B0 bx W0 ok0 Z N ok φ s' a w ∧ s'.hp = s.hp) := by
      intro b hb s1 r1 hs1 ⟨h1, h2⟩
      by_cases e : b = want
      · subst e; exact .inl ⟨hb, _, h1 rfl, r1.know hb, hs1⟩
      · have e' : b = !want := by cases b <;> cases want <;> simp_all
        refine .inr ⟨by rw [hb]; simpa using e, _, h2 e', r1.know (by rw [hb, e']), hs1⟩
    split at h
    · rename_i b hb
      have hk := r.kn t b hb
      split at h
      · exact .inl ⟨hk, s, h, r, rfl⟩
      · exact .inl ⟨hk, s, h, r, rfl⟩
      · rename_i h1 h2
        refine .inr ⟨?_, s, h, r, rfl⟩
        rw [hk]
        cases b <;> cases want <;> simp_all
    · split at h
      · rename_i b hb
        exact fin b (vr_v (r.tm t _ hb)) s r rfl h
      · exact h.elim
      · split at h
        · rename_i t' w' b hg
          rcases ih r h with ⟨h1, s', h2, h3, h4⟩ | ⟨h1, s', h2, h3, h4⟩
          · exact fin b (vr_v (r.gd t t' w' _ hg h1)) s' h3 h4 h2
          · exact .inr ⟨by rw [r.gu t t' w' b hg h1]; simp [undef], s', h2, h3, h4⟩
        · exact h.elim

end Go.Dm
