/- The code of a function. -/
import Derived.Test.YtfohenhmlfiijaaGreatDoorDm16
namespace Go.Dm

variable {P : Program} {E : Env} {C : CallT} {I : Nat → List V → List V → St → (V → St → Prop) → Prop}
variable {B0 : Nat} {bx : List Nat} {W0 : World} {ok0 : Nat → Prop} {Z : Zr} {N : Nat}

def dstB (N : Nat) (ops : Array Oper) : Bool := ops.all fun o => match o.dst with | some k => decide (k < N) | none => true

def noDefB (ops : Array Oper) : Bool := ops.all fun o => match o.op with | .defer _ => false | _ => true
theorem noDefB_spec {ops : Array Oper} (h : noDefB ops = true) : ∀ (i : Nat) (o : Oper), ops[i]? = some o → ∀ c, o.op ≠ .defer c := by
  intro i o ho c hc
  have := Array.all_eq_true_iff_forall_mem.1 h o (Array.mem_of_getElem? ho)
  rw [hc] at this
  simp at this

/-- What is looked at in the code ahead. -/
def codeB (N : Nat) (sc : List (Nat × Sched)) (inR : Bool) : Code → Bool
  | .region _ ops false => dstB N ops && noDefB ops
  | .region id ops true => dstB N ops && noDefB ops && Region.noSelect ops && (match lk sc id with | none => false | some sch => schedB ops sch ops.size true (Array.replicate ops.size false))
  | .seq a b => codeB N sc inR a && codeB N sc inR b
  | .cond _ a b => codeB N sc inR a && codeB N sc inR b
  | .block _ b => codeB N sc inR b
  | .loop b => codeB N sc inR b
  | .rangeFunc _ ps a b => !inR && ps.all (fun p => decide (p < N)) && codeB N sc true a && codeB N sc true b
  | _ => true

theorem dstB_spec {ops : Array Oper} (h : dstB N ops = true) : ∀ (i : Nat) (o : Oper), ops[i]? = some o → ∀ k, o.dst = some k → k < N := by
  intro i o ho k hk
  have := Array.all_eq_true_iff_forall_mem.1 h o (Array.mem_of_getElem? ho)
  rw [hk] at this
  simpa using this

def Qof (B0 : Nat) (bx : List Nat) (W0 : World) (ok0 : Nat → Prop) (Z : Zr) (N : Nat) (K : Ex → St → Prop) (e : Exit) (a : Act) (w : World) : Prop :=
  ∃ ok φ s, Rel B0 bx W0 ok0 Z N ok φ s a w ∧ match e with | .normal => K .normal s | .exit i => K (.exit i) s | .ret => K .ret s | _ => False

theorem aCond_sound {ok : Nat → Prop} {φ : Nat → Value} {s : St} {a : Act} {w : World} (r : Rel B0 bx W0 ok0 Z N ok φ s a w) {c : Operand} {X Y : St → Prop} (h : aCond s c X Y) :
    ∃ b, a.eval c = .bool b ∧ ∃ s', Rel B0 bx W0 ok0 Z N ok φ s' a w ∧ (if b then X s' else Y s') := by
  unfold aCond at h
  split at h
  · rename_i t
    split at h
    · rename_i hk; exact ⟨true, r.kn t _ hk, s, r, h⟩
    · rename_i hk; exact ⟨false, r.kn t _ hk, s, r, h⟩
    · split at h
      · rename_i b hb
        have hb' : a.tmps.getD t undef = .bool b := vr_v (r.tm t _ hb)
        refine ⟨b, hb', s.know t b, r.know hb', ?_⟩
        cases b
        · exact h.2 rfl
        · exact h.1 rfl
      · exact h.elim
  · exact ⟨true, rfl, s, r, h⟩
  · exact ⟨false, rfl, s, r, h⟩
  · exact h.elim

theorem least {p : Nat → Prop} (h : ∃ n, p n) : ∃ n, p n ∧ ∀ m, p m → n ≤ m := by
  obtain ⟨n, hn⟩ := h
  induction n using Nat.strongRecOn with
  | _ n ih =>
    by_cases hx : ∃ m, m < n ∧ p m
    · obtain ⟨m, hm, hp⟩ := hx; exact ih m hm hp
    · exact ⟨n, hn, fun m hp => Nat.le_of_not_lt fun hlt => hx ⟨m, hlt, hp⟩⟩

open Classical in
noncomputable def least? (p : Nat → Prop) : Nat := if h : ∃ n, p n then (least h).choose else 0
theorem least?_spec {p : Nat → Prop} (h : ∃ n, p n) : p (least? p) ∧ ∀ m, p m → least? p ≤ m := by
  unfold least?
  rw [dif_pos h]
  exact (least h).choose_spec

theorem Rel.drop {ok : Nat → Prop} {φ : Nat → Value} {s : St} {a : Act} {w : World} (r : Rel B0 bx W0 ok0 Z N ok φ s a w) {k : Nat} (hk : k < 100000) : Rel B0 bx W0 ok0 Z N ok φ (s.drop k) a w := by
  have rs := r.strike k
  have hnn := noName_strike s k
  have hne : ∀ j, k ≠ j → lk (rm (s.strike k).hp k) j = lk (s.strike k).hp j := fun j h => by rw [lk_rm, if_neg h]
  have hsome : ∀ j b, lk (rm (s.strike k).hp k) j = some b → k ≠ j ∧ lk (s.strike k).hp j = some b := fun j b h => by
    rw [lk_rm] at h
    split at h
    · cases h
    · rename_i e; exact ⟨e, h⟩
  have h4 : ∀ j, ¬ (j = k) → Sim (s.strike k).hp (rm (s.strike k).hp k) j := fun j hj => by
    unfold Sim; rw [hne j (Ne.symm hj)]; exact Sim.refl _ j
  have := rs.step' (fun _ h => h) (φ' := φ) (w' := w) (ok' := ok) (hp' := rm (s.strike k).hp k) (fun j => j = k) (fun j hj => by cases hj; exact hnn) (fun _ h => h) (fun _ _ => rfl) (fun _ _ _ => rfl) h4
    (fun j b hb => by
      obtain ⟨e, hb'⟩ := hsome j b hb
      exact (rs.hp j b hb').keep (fun i => i = k) (fun i cs hi hbox => by cases hi; subst hbox; exact hnn.hp j cs hb') (fun _ h => h) (fun _ _ => rfl) (fun _ _ _ => rfl) h4 (fun _ _ _ => rfl))
    (fun j b g hb => rs.act j b g (hsome j b hb).2) (fun j j' b b' g hn hb hb' => rs.inj j j' b b' g hn (hsome j b hb).2 (hsome j' b' hb').2) rs.one rs.okl rs.oks (Upd.refl _ _ _)
    (fun i g hi => by
      obtain ⟨e1, cs, e2⟩ := rs.pin i g hi
      exact ⟨e1, cs, by rw [hne _ (by omega)]; exact e2⟩)
  exact this

theorem Rel.dropL (l : List Nat) : ∀ {ok : Nat → Prop} {φ : Nat → Value} {s : St} {a : Act} {w : World}, Rel B0 bx W0 ok0 Z N ok φ s a w → Rel B0 bx W0 ok0 Z N ok φ (Dm.dropL l s) a w := by
  induction l with
  | nil => intro ok φ s a w r; exact r
  | cons k l ih =>
    intro ok φ s a w r
    simp only [Dm.dropL]
    split
    · exact ih r
    · rename_i h
      exact ih (r.drop (by
        rcases Nat.lt_or_ge k 100000 with h' | h'
        · exact h'
        · rw [Nat.ble_eq_true_of_le h'] at h; cases h))

theorem lk_killBut (live : List Nat) (tm : List (Nat × V)) (t : Nat) (x : V) (h : lk (killBut live tm) t = some x) : lk tm t = some x := by
  have hnone : ∀ tm : List (Nat × V), mem live t = false → lk (killBut live tm) t = none := by
    intro tm hm
    induction tm with
    | nil => rfl
    | cons p r ih =>
      obtain ⟨a, y⟩ := p
      simp only [killBut]
      split
      · rename_i hm'
        have : a ≠ t := by rintro rfl; rw [hm] at hm'; cases hm'
        simp only [lk, beq_false.2 this]; exact ih
      · exact ih
  have hsame : mem live t = true → ∀ tm : List (Nat × V), lk (killBut live tm) t = lk tm t := by
    intro hm tm
    induction tm with
    | nil => rfl
    | cons p r ih =>
      obtain ⟨a, y⟩ := p
      simp only [killBut]
      by_cases e : a = t
      · subst e; rw [hm]; simp [lk]
      · split
        · simp only [lk, beq_false.2 e]; exact ih
        · simp only [lk, beq_false.2 e]; exact ih
  cases hm : mem live t
  · rw [hnone tm hm] at h; cases h
  · rw [hsame hm tm] at h; exact h

theorem Rel.clean {ok : Nat → Prop} {φ : Nat → Value} {s : St} {a : Act} {w : World} (r : Rel B0 bx W0 ok0 Z N ok φ s a w) (live dk : List Nat) : Rel B0 bx W0 ok0 Z N ok φ (Dm.clean live dk s) a w := by
  have h := r.dropL dk
  exact { h with
    tm := fun t x hx => h.tm t x (lk_killBut live _ t x hx)
    gd := fun t t' w' x hx => by simp [Dm.clean, lk] at hx
    gu := fun t t' w' b hx => by simp [Dm.clean, lk] at hx
    kn := fun t b hx => by simp [Dm.clean, lk] at hx }

theorem setAt_eq {α : Type} (n : Nat) (y : α) (l : List α) : setAt n y l = l.set n y := by
  induction l generalizing n with
  | nil => cases n <;> rfl
  | cons x r ih => cases n with
    | zero => rfl
    | succ n => simp [setAt, ih]

theorem sim_ne (hp : List (Nat × B)) {b k : Nat} (x : B) (e : b ≠ k) : Sim hp (pt hp b x) k := by
  have : lk (pt hp b x) k = lk hp k := by rw [lk_pt, if_neg e]
  unfold Sim
  rw [this]
  exact Sim.refl hp k

theorem Rel.own0 {ok : Nat → Prop} {φ : Nat → Value} {s : St} {a : Act} {w : World} (r : Rel B0 bx W0 ok0 Z N ok φ s a w) {key e sz : Nat} (hk : lk s.hp key = none) (hsz : 0 < sz) :
    Rel B0 bx W0 ok0 Z N ok (updF φ key (.slice none 0 0)) (s.setB key (.lst e sz [])) a w ∧
    (∀ c v, VR ok φ s.hp w c v → VR ok (updF φ key (.slice none 0 0)) (pt s.hp key (.lst e sz [])) w c v) := by
  have h3 : ∀ k, ¬ False → lk s.hp k ≠ none → updF φ key (.slice none 0 0) k = φ k := fun k _ hn => by simp only [updF]; rw [if_neg (by rintro rfl; exact hn hk)]
  have h4 : ∀ k, ¬ False → Sim s.hp (pt s.hp key (.lst e sz [])) k := fun k _ => by
    unfold Sim
    rw [lk_pt]
    by_cases h : key = k
    · subst h; rw [hk]; trivial
    · rw [if_neg h]; exact Sim.refl s.hp k
  refine ⟨r.step (fun _ => False) (fun _ h => h.elim) (fun _ h => h) (fun _ _ => rfl) h3 h4 (fun k b' hb => ?_) (fun k b' g hb ha hg => ?_) (fun k k' b1 b2 g hne' hb1 hb2 ha1 ha2 hg1 hg2 => ?_) (fun k => ?_) r.okl r.oks (Upd.refl _ _ _),
    fun c v h => h.mono (fun _ h => h) (fun _ _ => rfl) (fun k _ hn => h3 k id hn) (fun k _ => h4 k id)⟩
  · rw [lk_pt] at hb
    by_cases h : key = k
    · subst h
      rw [if_pos rfl] at hb
      simp only [Option.some.injEq] at hb; subst hb
      simp only [updF, if_true]
      exact ⟨hsz, by simp, [], World.ownsRow_nil w B0 e sz, by simp⟩
    · rw [if_neg h] at hb
      have : updF φ key (.slice none 0 0) k = φ k := by simp [updF, Ne.symm h]
      rw [this]
      exact (r.hp k b' hb).keep (fun _ => False) (fun _ _ h => h.elim) (fun _ h => h) (fun _ _ => rfl) h3 h4 (fun _ _ _ => rfl)
  · rw [lk_pt] at hb
    by_cases h : key = k
    · subst h
      simp [updF, blockOf] at hg
    · rw [if_neg h] at hb
      simp only [updF, if_neg (Ne.symm h)] at hg
      exact r.act k b' g hb ha hg
  · rw [lk_pt] at hb1 hb2
    by_cases h : key = k
    · subst h
      simp [updF, blockOf] at hg1
    · rw [if_neg h] at hb1
      simp only [updF, if_neg (Ne.symm h)] at hg1
      by_cases h' : key = k'
      · subst h'
        simp [updF, blockOf] at hg2
      · rw [if_neg h'] at hb2
        simp only [updF, if_neg (Ne.symm h')] at hg2
        exact r.inj k k' b1 b2 g hne' hb1 hb2 ha1 ha2 hg1 hg2
  · simp only [updF]; split
    · rfl
    · exact r.one k

theorem lk_subT (k : Nat) (es : List (List D)) (t : Nat) (tm : List (Nat × V)) : lk (subT k es tm) t = (lk tm t).map (subV k es) := by
  induction tm with
  | nil => simp [subT, lk]
  | cons p r ih =>
    obtain ⟨x, b⟩ := p
    simp only [subT, lk]
    split
    · rfl
    · exact ih
theorem lk_subH (k : Nat) (es : List (List D)) (j : Nat) (hp : List (Nat × B)) : lk (subH k es hp) j = (lk hp j).map fun b => match b with | .box cs => .box (subL k es cs) | b => b := by
  induction hp with
  | nil => simp [subH, lk]
  | cons p r ih =>
    obtain ⟨x, b⟩ := p
    simp only [subH, lk]
    split
    · rfl
    · exact ih
theorem nth_subR (k : Nat) (es : List (List D)) (d : Nat) (rt : List (List (Nat × V))) : nth (subR k es rt) d = (nth rt d).map (subT k es) := by
  induction rt generalizing d with
  | nil => simp [subR, nth]
  | cons l r ih => cases d with
    | zero => rfl
    | succ d => exact ih d
theorem subL_get (k : Nat) (es : List (List D)) (cs : List V) (i : Nat) (c : V) (h : (subL k es cs)[i]? = some c) : ∃ c0, cs[i]? = some c0 ∧ c = subV k es c0 := by
  induction cs generalizing i with
  | nil => simp [subL] at h
  | cons x r ih =>
    cases i with
    | zero => simp [subL] at h; exact ⟨x, rfl, h.symm⟩
    | succ i => exact ih i (by simpa [subL] using h)
theorem subL_length (k : Nat) (es : List (List D)) (cs : List V) : (subL k es cs).length = cs.length := by
  induction cs with
  | nil => rfl
  | cons x r ih => simp [subL, ih]
theorem sim_sub (k : Nat) (es : List (List D)) (j : Nat) (hp : List (Nat × B)) : Sim hp (subH k es hp) j := by
  unfold Sim
  split
  · trivial
  · rename_i cs h; exact ⟨subL k es cs, by rw [lk_subH, h]; rfl⟩
  · rename_i e sz es' h; exact ⟨es', .inl ⟨e, by rw [lk_subH, h]; rfl⟩⟩
  · rename_i sz es' h; exact ⟨es', .inr (by rw [lk_subH, h]; rfl)⟩

theorem Rel.deFro {ok : Nat → Prop} {φ : Nat → Value} {s : St} {a : Act} {w : World} (r : Rel B0 bx W0 ok0 Z N ok φ s a w) {k sz : Nat} {es : List (List D)} (hk : k < 100000) (hf : lk s.hp k = some (.fro sz es)) : Rel B0 bx W0 ok0 Z N ok φ (s.deFro k es) a w := by
  have hrd : Rd ok w (φ k) (.sl es) := (r.hp k _ hf).2.2.1
  have hm : ∀ {c : V} {v : Value}, VR ok φ s.hp w c v → VR ok φ (subH k es s.hp) w (subV k es c) v := fun {c v} h => by
    have h' : VR ok φ (subH k es s.hp) w c v := h.mono (fun _ h => h) (fun _ _ => rfl) (fun _ _ _ => rfl) (fun j _ => sim_sub k es j s.hp)
    cases c with
    | own j =>
      simp only [subV]
      split
      · rename_i e
        have : j = k := Nat.eq_of_beq_eq_true e
        subst this
        cases h with
        | own hb hφ => subst hφ; exact .d hrd
      · exact h'
    | _ => exact h'
  have hb : ∀ j b, lk (subH k es s.hp) j = some b → ∃ b0, lk s.hp j = some b0 ∧ b0.active = b.active ∧ BR B0 ok φ (subH k es s.hp) w (φ j) b := by
    intro j b h
    rw [lk_subH] at h
    cases h0 : lk s.hp j with
    | none => rw [h0] at h; cases h
    | some b0 =>
      rw [h0] at h
      simp only [Option.map_some, Option.some.injEq] at h
      refine ⟨b0, rfl, by subst h; cases b0 <;> rfl, ?_⟩
      have hB := r.hp j b0 h0
      cases b0 with
      | box cs =>
        subst h
        obtain ⟨g, arr, T, h1, h2, h3, h4⟩ := hB
        refine ⟨g, arr, T, h1, h2, by rw [subL_length]; exact h3, fun i c x hc hx => ?_⟩
        obtain ⟨c0, hc0, rfl⟩ := subL_get k es cs i c hc
        exact hm (h4 i c0 x hc0 hx)
      | lst e sz es => subst h; exact hB
      | fro sz es => subst h; exact hB
  have r1 : Rel B0 bx W0 ok0 Z N ok φ { tm := subT k es s.tm, hp := subH k es s.hp, kn := s.kn, gd := [], rt := subR k es s.rt } a w := {
    sz := r.sz
    tm := fun t x h => by
      dsimp only at h
      rw [lk_subT] at h
      cases h0 : lk s.tm t with
      | none => rw [h0] at h; cases h
      | some y =>
        rw [h0] at h
        simp only [Option.map_some, Option.some.injEq] at h
        subst h
        exact hm (r.tm t y h0)
    rt := fun d l t x hl h => by
      dsimp only at hl
      rw [nth_subR] at hl
      cases hd : nth s.rt d with
      | none => rw [hd] at hl; cases hl
      | some l0 =>
        rw [hd] at hl
        simp only [Option.map_some, Option.some.injEq] at hl
        subst hl
        rw [lk_subT] at h
        cases h0 : lk l0 t with
        | none => rw [h0] at h; cases h
        | some y =>
          rw [h0] at h
          simp only [Option.map_some, Option.some.injEq] at h
          subst h
          exact hm (r.rt d l0 t y hd h0)
    gd := fun t t' w' x h => by simp [lk] at h
    gu := fun t t' w' b h => by simp [lk] at h
    kn := r.kn
    hp := fun j b h => let ⟨_, _, _, h3⟩ := hb j b h; h3
    act := fun j b g h ha hg => by
      obtain ⟨b0, h1, h2, _⟩ := hb j b h
      exact r.act j b0 g h1 (by rw [h2]; exact ha) hg
    inj := fun j j' b b' g hne h h' ha ha' hg hg' => by
      obtain ⟨b0, h1, h2, _⟩ := hb j b h
      obtain ⟨b1, h3, h4, _⟩ := hb j' b' h'
      exact r.inj j j' b0 b1 g hne h1 h3 (by rw [h2]; exact ha) (by rw [h4]; exact ha') hg hg'
    one := r.one
    okl := r.okl
    oks := r.oks
    ok0 := r.ok0
    upd := r.upd
    b0 := r.b0
    df := r.df
    kz := r.kz
    zs := r.zs
    pin := fun i g h => by
      obtain ⟨e1, cs, e2⟩ := r.pin i g h
      exact ⟨e1, (sim_sub k es _ s.hp).box e2⟩ }
  exact r1.drop hk

theorem Rel.nilOwn (l : List Cv) : ∀ {φ : Nat → Value} {ok : Nat → Prop} {s : St} {a : Act} {w : World}, Rel B0 bx W0 ok0 Z N ok φ s a w → ∃ φ', Rel B0 bx W0 ok0 Z N ok φ' (Dm.nilOwn l s) a w := by
  induction l with
  | nil => intro φ ok s a w r; exact ⟨φ, r⟩
  | cons c l ih =>
    intro φ ok s a w r
    simp only [Dm.nilOwn]
    split
    · rename_i hsz hk
      obtain ⟨r1, hm⟩ := r.own0 (e := c.e) (sz := c.sz) hk (Nat.le_of_ble_eq_true hsz)
      have hkey : VR ok (updF φ c.key (.slice none 0 0)) (pt s.hp c.key (.lst c.e c.sz [])) w (.own c.key) (.slice none 0 0) :=
        .own (sz := c.sz) (es := []) (.inl ⟨c.e, by simp [lk_pt]⟩) (by simp [updF])
      split
      · split
        · rename_i htm
          refine ih (φ := updF φ c.key (.slice none 0 0)) (s := { s with tm := pt s.tm c.ix (.own c.key), hp := pt s.hp c.key (.lst c.e c.sz []) }) ?_
          have hv := r.tm c.ix _ htm
          generalize hx : a.tmps.getD c.ix undef = x at hv
          cases hv
          exact { r1 with
            tm := fun u y hy => by
              dsimp only at hy
              rw [lk_pt] at hy
              by_cases e : c.ix = u
              · subst e; simp at hy; subst hy; rw [hx]; exact hkey
              · rw [if_neg e] at hy; exact r1.tm u y hy }
        · exact ih r
      · rename_i b hbx
        split
        · rename_i cs hb
          split
          · rename_i hn
            rw [nth_get] at hn
            have hne : c.key ≠ b := by rintro e; rw [e, hb] at hk; cases hk
            have hb1 : lk (s.setB c.key (.lst c.e c.sz [])).hp b = some (.box cs) := by simp only [St.setB]; rw [lk_pt, if_neg hne]; exact hb
            obtain ⟨g, arr, T, h1, h2, h3, h4⟩ := r1.hp b _ hb1
            refine ih (φ := updF φ c.key (.slice none 0 0)) (s := { s with hp := pt (pt s.hp c.key (.lst c.e c.sz [])) b (.box (setAt c.ix (.own c.key) cs)) }) ?_
            have h4' : ∀ k, ¬ False → Sim (pt s.hp c.key (.lst c.e c.sz [])) (pt (pt s.hp c.key (.lst c.e c.sz [])) b (.box (setAt c.ix (.own c.key) cs))) k := fun k _ => by
              by_cases e : b = k
              · subst e; exact sim_box hb1
              · exact sim_ne _ _ e
            have back : ∀ k b', lk (pt (pt s.hp c.key (.lst c.e c.sz [])) b (.box (setAt c.ix (.own c.key) cs))) k = some b' → b'.active = true → ∃ b0, lk (s.setB c.key (.lst c.e c.sz [])).hp k = some b0 ∧ b0.active = true := fun k b' hb' ha => by
              rw [lk_pt] at hb'
              by_cases e : b = k
              · subst e; exact ⟨_, hb1, rfl⟩
              · rw [if_neg e] at hb'; exact ⟨b', hb', ha⟩
            refine r1.step (hp' := pt (pt s.hp c.key (.lst c.e c.sz [])) b (.box (setAt c.ix (.own c.key) cs))) (w' := w) (ok' := ok) (fun _ => False) (fun _ h => h.elim) (fun _ h => h) (fun _ _ => rfl) (fun _ _ _ => rfl) h4' (fun k b' hb' => ?_) (fun k b' g hb' ha hg => ?_) (fun k k' b1 b2 g hne' hb1' hb2' ha1 ha2 hg1 hg2 => ?_) r1.one r1.okl r1.oks (Upd.refl _ _ _)
            · rw [lk_pt] at hb'
              by_cases e : b = k
              · subst e
                rw [if_pos rfl] at hb'
                simp only [Option.some.injEq] at hb'; subst hb'
                refine ⟨g, arr, T, h1, h2, by rw [setAt_eq, List.length_set]; exact h3, fun i c' x hc hx => ?_⟩
                rw [setAt_eq, List.getElem?_set] at hc
                have tr : ∀ (c0 : V) (v : Value), VR ok (updF φ c.key (.slice none 0 0)) (pt s.hp c.key (.lst c.e c.sz [])) w c0 v → VR ok (updF φ c.key (.slice none 0 0)) (pt (pt s.hp c.key (.lst c.e c.sz [])) b (.box (setAt c.ix (.own c.key) cs))) w c0 v := fun c0 v h => h.mono (fun _ h => h) (fun _ _ => rfl) (fun _ _ _ => rfl) (fun k _ => h4' k id)
                by_cases hi : c.ix = i
                · subst hi
                  rw [if_pos rfl] at hc
                  split at hc
                  · simp only [Option.some.injEq] at hc; subst hc
                    have hv := h4 c.ix _ x hn hx
                    cases hv
                    exact tr _ _ hkey
                  · cases hc
                · rw [if_neg hi] at hc
                  exact tr _ _ (h4 i c' x hc hx)
              · rw [if_neg e] at hb'
                exact (r1.hp k b' hb').keep (fun _ => False) (fun _ _ h => h.elim) (fun _ h => h) (fun _ _ => rfl) (fun _ _ _ => rfl) h4' (fun _ _ _ => rfl)
            · obtain ⟨b0, e1, e2⟩ := back k b' hb' ha
              exact r1.act k b0 g e1 e2 hg
            · obtain ⟨b3, e1, e2⟩ := back k b1 hb1' ha1
              obtain ⟨b4, e3, e4⟩ := back k' b2 hb2' ha2
              exact r1.inj k k' b3 b4 g hne' e1 e3 e2 e4 hg1 hg2
          · exact ih r
        · exact ih r
    · rename_i sz' es hsz hk
      split
      · exact ih r
      · rename_i hlt
        refine ih (r.deFro ?_ hk)
        rcases Nat.lt_or_ge c.key 100000 with h' | h'
        · exact h'
        · rw [Nat.ble_eq_true_of_le h'] at hlt; cases hlt
    · exact ih r

end Go.Dm
