/- Contracts of calls. -/
import Derived.Test.YtfohenhmlfiijaaGreatDoorDm10
namespace Go.Dm

variable {P : Program} {E : Env}
variable {B0 : Nat} {bx : List Nat} {W0 : World} {ok0 : Nat → Prop} {Z : Zr} {N : Nat}
variable {ok : Nat → Prop} {φ : Nat → Value} {s : St} {a : Act} {w : World}

/-- A row of cells that reads as data. -/
def RowRd (ok : Nat → Prop) (w : World) (n : Nat) (cs : List D) : Prop :=
  ∃ arr T, w.heap[n]? = some (.cells arr T (0, 0)) ∧ arr.size = cs.length ∧ ∀ (i : Nat) (x : D) (v : Value), cs[i]? = some x → arr[i]? = some v → Rd ok w v x

/-- Arguments, or results: what they read as, and the blocks of the pointers among them. -/
inductive ArgsR (ok : Nat → Prop) (w : World) : List Nat → List R → List Value → Prop
  | nil : ArgsR ok w [] [] []
  | d {bs rs vs x v} (h : Rd ok w v x) (r : ArgsR ok w bs rs vs) : ArgsR ok w bs (.d x :: rs) (v :: vs)
  | agg {bs rs vs cs} {xs : Array Value} (hs : xs.size = cs.length) (h : ∀ (i : Nat) (x : D) (v : Value), cs[i]? = some x → xs[i]? = some v → Rd ok w v x) (r : ArgsR ok w bs rs vs) : ArgsR ok w bs (.agg cs :: rs) (.agg xs :: vs)
  | ptr {bs rs vs cs v} (h : VR ok (fun _ => .int .i64 0) [] w (.dptr cs) v) (r : ArgsR ok w bs rs vs) : ArgsR ok w bs (.ptr cs :: rs) (v :: vs)
  | fn {bs rs vs f caps v} (h : VR ok (fun _ => .int .i64 0) [] w (.fn f (cpV caps)) v) (r : ArgsR ok w bs rs vs) : ArgsR ok w bs (.fn f caps :: rs) (v :: vs)
  | box {bs rs vs cs n} (h : RowRd ok w n cs) (r : ArgsR ok w bs rs vs) : ArgsR ok w (n :: bs) (.box cs :: rs) (.pointer (some ⟨n, 0, none⟩) :: vs)

/-- A value that names no own block. -/
theorem VR.bare {ok ok' : Nat → Prop} {φ' : Nat → Value} {hp' : List (Nat × B)} {w w' : World} {c : V} {v : Value} (h : VR ok (fun _ => .int .i64 0) [] w c v) (h1 : ∀ b, ok b → ok' b) (h2 : ∀ b, ok b → w'.heap[b]? = w.heap[b]?) : VR ok' φ' hp' w' c v :=
  h.mono h1 h2 (fun k _ hn => (hn rfl).elim) (fun k _ => by unfold Sim; simp [lk])
theorem VR.toBare {ok : Nat → Prop} {φ : Nat → Value} {hp : List (Nat × B)} {w : World} {c : V} {v : Value} (h : VR ok φ hp w c v) (hn : ∀ k, V.names k c = false) : VR ok (fun _ => .int .i64 0) [] w c v :=
  h.mono (fun _ h => h) (fun _ _ => rfl) (fun k hk => by rw [hn k] at hk; cases hk) (fun k hk => by rw [hn k] at hk; cases hk)
theorem cpV_names (l : List Cp) (k : Nat) : V.namesL k (cpV l) = false := by
  induction l with
  | nil => rfl
  | cons c r ih => cases c <;> simp [cpV, V.namesL, V.names, ih]
theorem toCps_eq {l : List V} {m : List Cp} (h : toCps l = some m) : cpV m = l := by
  induction l generalizing m with
  | nil => simp [toCps] at h; subst h; rfl
  | cons c r ih =>
    cases c <;> simp only [toCps] at h <;> first | (cases h; done) | skip
    all_goals
      split at h
      · rename_i l hl
        simp only [Option.some.injEq] at h
        subst h
        simp [cpV, ih hl]
      · cases h

theorem ArgsR.mono {ok ok' : Nat → Prop} {w : World} {bs : List Nat} {rs : List R} {vs : List Value} (h : ArgsR ok w bs rs vs) (h1 : ∀ b, ok b → ok' b) : ArgsR ok' w bs rs vs := by
  induction h with
  | nil => exact .nil
  | d h r ih => exact .d (h.mono h1 (fun _ _ => rfl)) ih
  | agg hs h r ih => exact .agg hs (fun i x v a b => (h i x v a b).mono h1 (fun _ _ => rfl)) ih
  | ptr h r ih => exact .ptr (h.bare h1 (fun _ _ => rfl)) ih
  | fn h r ih => exact .fn (h.bare h1 (fun _ _ => rfl)) ih
  | box h r ih =>
    obtain ⟨arr, T, e1, e2, e3⟩ := h
    exact .box ⟨arr, T, e1, e2, fun i x v a b => (e3 i x v a b).mono h1 (fun _ _ => rfl)⟩ ih

/-- What handed over blocks hold. -/
def FinR (ok : Nat → Prop) (w : World) (bs : List Nat) (fin : List (List D)) : Prop :=
  bs.length = fin.length ∧ ∀ (i n : Nat) (cs : List D), bs[i]? = some n → fin[i]? = some cs → RowRd ok w n cs

/-- A function with a body, called by name. -/
def FnOk (P : Program) (f : Nat) : Prop := ∃ fn, P.funcs[f]? = some fn ∧ (fn.name == "runtime.NumGoroutine") = false ∧ fn.body.isNone = false

/-- One result, or several. -/
def tupled : List Value → Value
  | [v] => v
  | vs => .tuple vs.toArray

/-- What a call leaves. -/
def CtPost (ok : Nat → Prop) (bs : List Nat) (w : World) (Q : List R → List (List D) → Prop) (e : Ending) (w' : World) : Prop :=
  ∃ res fin vs ok' bn, e = .returned (tupled vs) ∧ Q res fin ∧ (∀ b, ok b → ok' b) ∧ (∀ b, ok' b → ok b ∨ w.heap.size ≤ b) ∧ (∀ b, ok' b → b < w'.heap.size) ∧
    Upd bs w.heap.size w w' ∧ ArgsR ok' w' bn res vs ∧ bn.Nodup ∧ (∀ b ∈ bn, w.heap.size ≤ b ∧ ¬ ok' b) ∧ FinR ok' w' bs fin

/-- The contract of a call: with these arguments, whatever the memory, it comes back, and Q holds. -/
structure Ct (P : Program) (gl : Nat → Option Obj) (f : Nat) (args : List R) (Q : List R → List (List D) → Prop) : Prop where
  fn : FnOk P f
  ex : ∃ res fin, Q res fin
  run : ∀ (w : World) (ok : Nat → Prop) (vs : List Value) (bs : List Nat), (∀ b o, gl b = some o → ok b ∧ w.heap[b]? = some o) → (∀ b, ok b → b < w.heap.size) → (∀ b ∈ bs, b < w.heap.size ∧ ¬ ok b) → bs.Nodup → ArgsR ok w bs args vs →
    Calls P f vs.toArray w (CtPost ok bs w Q)

theorem Ct.mono {gl : Nat → Option Obj} {f : Nat} {args : List R} {Q Q' : List R → List (List D) → Prop} (h : Ct P gl f args Q) (hq : ∀ r c, Q r c → Q' r c) : Ct P gl f args Q' :=
  ⟨h.fn, let ⟨r, c, h⟩ := h.ex; ⟨r, c, hq _ _ h⟩, fun w ok vs bs h0 h1 h2 h3 h4 => (h.run w ok vs bs h0 h1 h2 h3 h4).mono fun e w' ⟨res, fin, vs, ok', bn, h5, h6, h7⟩ => ⟨res, fin, vs, ok', bn, h5, hq _ _ h6, h7⟩⟩

/-- A table of calls that holds. -/
def CallsOk (P : Program) (gl : Nat → Option Obj) (C : CallT) : Prop := ∀ f args Q, C f args Q → Ct P gl f args Q

def blk (φ : Nat → Value) (k : Nat) : Nat := match φ k with | .pointer (some a) => a.block | _ => 0

def keyBs (φ : Nat → Value) : Option Nat → List Nat
  | some k => [blk φ k]
  | none => []

theorem toR_sound (r : Rel B0 bx W0 ok0 Z N ok φ s a w) {c : V} {v : Value} (hv : VR ok φ s.hp w c v) {x : R} {k : Option Nat} {s' : St} (h : toR s c = some (x, k, s')) :
    ∃ ok', Rel B0 bx W0 ok0 Z N ok' φ s' a w ∧ (∀ b, ok b → ok' b) ∧ (∀ j, Sim s.hp s'.hp j) ∧ (∀ bs rs vs, ArgsR ok' w bs rs vs → ArgsR ok' w (keyBs φ k ++ bs) (x :: rs) (v :: vs)) ∧
      (∀ j, k = some j → (∃ cs, lk s'.hp j = some (.box cs)) ∧ ∃ g, φ j = .pointer (some ⟨g, 0, none⟩)) := by
  have viaD : ∀ (y : D) (s1 : St), toD s c = some (y, s1) → x = .d y → k = none → s' = s1 →
      ∃ ok', Rel B0 bx W0 ok0 Z N ok' φ s' a w ∧ (∀ b, ok b → ok' b) ∧ (∀ j, Sim s.hp s'.hp j) ∧ (∀ bs rs vs, ArgsR ok' w bs rs vs → ArgsR ok' w (keyBs φ k ++ bs) (x :: rs) (v :: vs)) ∧
      (∀ j, k = some j → (∃ cs, lk s'.hp j = some (.box cs)) ∧ ∃ g, φ j = .pointer (some ⟨g, 0, none⟩)) := by
    intro y s1 hy hx hk hs
    subst hx; subst hk; subst hs
    obtain ⟨ok', r', hrd, h1, h2⟩ := toD_sound r hv hy
    exact ⟨ok', r', h1, h2, fun bs rs vs h => .d hrd h, fun j h => by cases h⟩
  have other : (toD s c).map (fun p => (R.d p.1, (none : Option Nat), p.2)) = some (x, k, s') → ∃ ok', Rel B0 bx W0 ok0 Z N ok' φ s' a w ∧ (∀ b, ok b → ok' b) ∧ (∀ j, Sim s.hp s'.hp j) ∧ (∀ bs rs vs, ArgsR ok' w bs rs vs → ArgsR ok' w (keyBs φ k ++ bs) (x :: rs) (v :: vs)) ∧
      (∀ j, k = some j → (∃ cs, lk s'.hp j = some (.box cs)) ∧ ∃ g, φ j = .pointer (some ⟨g, 0, none⟩)) := by
    intro h
    cases hd : toD s c with
    | none => rw [hd] at h; cases h
    | some p =>
      rw [hd] at h
      simp only [Option.map_some, Option.some.injEq, Prod.mk.injEq] at h
      exact viaD p.1 p.2 hd h.1.symm h.2.1.symm h.2.2.symm
  cases c with
  | agg cs =>
    cases hv
    rename_i xs hs hr
    simp only [toR] at h
    split at h
    · cases h
    rename_i ds s1 hds
    simp only [Option.some.injEq, Prod.mk.injEq] at h
    obtain ⟨rfl, rfl, rfl⟩ := h
    obtain ⟨ok', r', hl, hrd, h1, h2⟩ := toDs_sound (vs := xs.toList) r (by simpa using hs) (fun i c y hc hy => hr i c y hc (by simpa using hy)) hds
    exact ⟨ok', r', h1, h2, fun bs rs vs h => .agg (by omega) (fun i x v a b => hrd i x v a (by simpa using b)) h, fun j h => by cases h⟩
  | ref k0 off =>
    cases off with
    | zero =>
      cases hv
      rename_i g cs0 hb0 hφ
      simp only [toR] at h
      split at h
      rotate_left
      · cases h
      rename_i cs hb
      split at h
      · cases h
      rename_i ds s1 hds
      simp only [Option.some.injEq, Prod.mk.injEq] at h
      obtain ⟨rfl, rfl, rfl⟩ := h
      obtain ⟨g', arr, T, hp, hh, hs, hr⟩ := r.hp k0 _ hb
      rw [hφ] at hp; simp at hp; subst hp
      obtain ⟨ok', r', hl, hrd, h1, h2⟩ := toDs_sound (vs := arr.toList) r (by simpa using hs) (fun i c y hc hy => hr i c y hc (by simpa using hy)) hds
      refine ⟨ok', r', h1, h2, fun bs rs vs h => ?_, fun j hj => ?_⟩
      · have : blk φ k0 = g := by simp [blk, hφ]
        simp only [keyBs, this, List.singleton_append]
        exact .box ⟨arr, T, hh, by omega, fun i x v a b => hrd i x v a (by simpa using b)⟩ h
      · simp only [Option.some.injEq] at hj; subst hj
        exact ⟨(h2 k0).box hb, g, hφ⟩
    | succ n => simp [toR, toD] at h
  | dptr cs =>
    simp only [toR, Option.some.injEq, Prod.mk.injEq] at h
    obtain ⟨rfl, rfl, rfl⟩ := h
    exact ⟨ok, r, fun _ h => h, Sim.refl _, fun bs rs vs h => .ptr (hv.toBare (fun k => rfl)) h, fun j h => by cases h⟩
  | fn f caps =>
    simp only [toR] at h
    split at h
    · rename_i l hl
      simp only [Option.some.injEq, Prod.mk.injEq] at h
      obtain ⟨rfl, rfl, rfl⟩ := h
      have hc := toCps_eq hl
      subst hc
      exact ⟨ok, r, fun _ h => h, Sim.refl _, fun bs rs vs h => .fn (hv.toBare (fun k => by simp [V.names, cpV_names])) h, fun j h => by cases h⟩
    · cases h
  | _ => exact other (by
      simp only [toR] at h
      split at h
      · cases h
      · rename_i hd; simp only [hd, Option.map_some]; exact h)

theorem toRs_sound {vs : List Value} : ∀ {cs : List V} {ok : Nat → Prop} {s s' : St} {xs : List R} {ks : List Nat}, Rel B0 bx W0 ok0 Z N ok φ s a w → vs.length = cs.length →
    (∀ (i : Nat) (c : V) (x : Value), cs[i]? = some c → vs[i]? = some x → VR ok φ s.hp w c x) → toRs s cs = some (xs, ks, s') →
    ∃ ok', Rel B0 bx W0 ok0 Z N ok' φ s' a w ∧ (∀ b, ok b → ok' b) ∧ (∀ j, Sim s.hp s'.hp j) ∧ ArgsR ok' w (ks.map (blk φ)) xs vs ∧
      (∀ j ∈ ks, (∃ cs, lk s'.hp j = some (.box cs)) ∧ ∃ g, φ j = .pointer (some ⟨g, 0, none⟩)) := by
  induction vs with
  | nil =>
    intro cs ok s s' xs ks r hl hv h
    cases cs with
    | nil => simp [toRs] at h; obtain ⟨rfl, rfl, rfl⟩ := h; exact ⟨ok, r, fun _ h => h, Sim.refl _, .nil, fun j h => by cases h⟩
    | cons c cs => simp at hl
  | cons v vs ih =>
    intro cs ok s s' xs ks r hl hv h
    cases cs with
    | nil => simp at hl
    | cons c cs =>
      simp only [toRs] at h
      split at h
      · cases h
      rename_i x k s1 hx
      split at h
      · cases h
      rename_i xs1 ks1 s2 hxs
      simp only [Option.some.injEq, Prod.mk.injEq] at h
      obtain ⟨rfl, rfl, rfl⟩ := h
      obtain ⟨ok1, r1, h1, hs1, hA, hb1⟩ := toR_sound r (hv 0 c v rfl rfl) hx
      obtain ⟨ok2, r2, h2, hs2, hA2, hb2⟩ := ih r1 (by simpa using hl) (fun i c x hc hx => (hv (i + 1) c x (by simpa using hc) (by simpa using hx)).mono h1 (fun _ _ => rfl) (fun _ _ _ => rfl) (fun j _ => hs1 j)) hxs
      refine ⟨ok2, r2, fun b hb => h2 b (h1 b hb), fun j => (hs1 j).trans (hs2 j), ?_, ?_⟩
      · have h0 := (hA [] [] [] .nil).mono h2
        cases k with
        | none =>
          simp only [keyBs, List.nil_append] at h0 ⊢
          cases h0 with
          | d h _ => exact .d h hA2
          | agg hs h _ => exact .agg hs h hA2
          | ptr h _ => exact .ptr h hA2
          | fn h _ => exact .fn h hA2
        | some k =>
          simp only [keyBs, List.append_nil, List.map_cons] at h0 ⊢
          cases h0 with
          | box h _ => exact .box h hA2
          | d h h' => cases h'
          | agg hs h h' => cases h'
          | ptr h h' => cases h'
          | fn h h' => cases h'
      · intro j hj
        cases k with
        | none => exact hb2 j hj
        | some k =>
          rcases List.mem_cons.1 hj with rfl | hj
          · obtain ⟨⟨cs', hc⟩, hg⟩ := hb1 j rfl
            exact ⟨(hs2 j).box hc, hg⟩
          · exact hb2 j hj

theorem mem_iff (l : List Nat) (k : Nat) : mem l k = true ↔ k ∈ l := by
  induction l with
  | nil => simp [mem]
  | cons x r ih =>
    simp only [mem]
    by_cases h : x = k
    · subst h; simp
    · have : Nat.beq x k = false := beq_false.2 h
      simp [this, ih, Ne.symm h]
theorem nodupB_iff (l : List Nat) : nodupB l = true → l.Nodup := by
  induction l with
  | nil => simp
  | cons x r ih =>
    intro h
    simp only [nodupB] at h
    split at h
    · cases h
    · rename_i hm
      refine List.nodup_cons.2 ⟨fun hx => ?_, ih h⟩
      rw [← mem_iff] at hx; rw [hx] at hm; cases hm

theorem blk_nodup (r : Rel B0 bx W0 ok0 Z N ok φ s a w) {ks : List Nat} (hk : ∀ j ∈ ks, (∃ cs, lk s.hp j = some (.box cs)) ∧ ∃ g, φ j = .pointer (some ⟨g, 0, none⟩)) (hn : ks.Nodup) : (ks.map (blk φ)).Nodup := by
  induction ks with
  | nil => simp
  | cons k ks ih =>
    obtain ⟨h1, h2⟩ := List.nodup_cons.1 hn
    refine List.nodup_cons.2 ⟨fun hm => ?_, ih (fun j hj => hk j (by simp [hj])) h2⟩
    obtain ⟨j, hj, he⟩ := List.mem_map.1 hm
    obtain ⟨⟨cs, hc⟩, g, hg⟩ := hk k (by simp)
    obtain ⟨⟨cs', hc'⟩, g', hg'⟩ := hk j (by simp [hj])
    have e1 : blk φ k = g := by simp [blk, hg]
    have e2 : blk φ j = g' := by simp [blk, hg']
    rw [e1, e2] at he
    subst he
    exact r.inj k j _ _ g' (by rintro rfl; exact h1 hj) hc hc' rfl rfl (by rw [hg]; rfl) (by rw [hg']; rfl)

/-- Behind a call: own blocks that were not handed over are what they were; those that were hold what the call left. -/
theorem Rel.called (r : Rel B0 bx W0 ok0 Z N ok φ s a w) {w' : World} {ok' : Nat → Prop} {ks : List Nat} {fin : List (List D)} {s' : St} (hk : ∀ j ∈ ks, (∃ cs, lk s.hp j = some (.box cs)) ∧ ∃ g, φ j = .pointer (some ⟨g, 0, none⟩)) (hnd : ks.Nodup)
    (h1 : ∀ b, ok b → ok' b) (h2 : ∀ b, ok' b → ok b ∨ w.heap.size ≤ b) (h3 : ∀ b, ok' b → b < w'.heap.size) (hu : Upd (ks.map (blk φ)) w.heap.size w w') (hf : FinR ok' w' (ks.map (blk φ)) fin) (hs : setBoxes s ks fin = some s') :
    Rel B0 bx W0 ok0 Z N ok' φ s' a w' ∧ (∀ k, lk s.hp k = none → lk s'.hp k = none) ∧ (∀ k b g, lk s'.hp k = some b → b.active = true → blockOf (φ k) = some g → g < w.heap.size) := by
  -- the heap behind
  have hsb : ∀ (ks : List Nat) (fin : List (List D)) (s s' : St), setBoxes s ks fin = some s' → ks.Nodup → s' = { s with hp := s'.hp } ∧ ks.length = fin.length ∧
      (∀ j, j ∉ ks → lk s'.hp j = lk s.hp j) ∧ ∀ (i j : Nat) (cs : List D), ks[i]? = some j → fin[i]? = some cs → lk s'.hp j = some (.box (vd cs)) := by
    intro ks
    induction ks with
    | nil =>
      intro fin s s' h _
      cases fin with
      | nil => simp [setBoxes] at h; subst h; exact ⟨rfl, rfl, fun _ _ => rfl, fun i j cs h => by simp at h⟩
      | cons c r => simp [setBoxes] at h
    | cons k ks ih =>
      intro fin s s' h hn
      cases fin with
      | nil => simp [setBoxes] at h
      | cons c fin =>
        simp only [setBoxes] at h
        obtain ⟨hn1, hn2⟩ := List.nodup_cons.1 hn
        obtain ⟨e1, e2, e3, e4⟩ := ih fin _ s' h hn2
        refine ⟨by rw [e1]; rfl, by simp [e2], fun j hj => ?_, fun i j cs hi hc => ?_⟩
        · have hj' : j ≠ k ∧ j ∉ ks := by simpa using hj
          rw [e3 j hj'.2]; simp only [St.setB]; rw [lk_pt, if_neg (Ne.symm hj'.1)]
        · cases i with
          | zero =>
            simp at hi hc; subst hi; subst hc
            rw [e3 k hn1]; simp only [St.setB]; rw [lk_pt, if_pos rfl]
          | succ i => exact e4 i j cs (by simpa using hi) (by simpa using hc)
  obtain ⟨e1, e2, e3, e4⟩ := hsb ks fin s s' hs hnd
  have hokb : ∀ b, ok b → b ∉ ks.map (blk φ) := by
    intro b hb hm
    obtain ⟨j, hj, rfl⟩ := List.mem_map.1 hm
    obtain ⟨⟨cs, hc⟩, g, hg⟩ := hk j hj
    have : blk φ j = g := by simp [blk, hg]
    rw [this] at hb
    exact (r.act j _ g hc rfl (by rw [hg]; rfl)).1 hb
  have hw : ∀ b, ok b → w'.heap[b]? = w.heap[b]? := fun b hb => hu.block b (r.okl b hb) (hokb b hb)
  have hin : ∀ j ∈ ks, ∃ cs, lk s'.hp j = some (.box (vd cs)) ∧ RowRd ok' w' (blk φ j) cs := by
    intro j hj
    obtain ⟨i, hi⟩ := List.getElem?_of_mem hj
    have hlt : i < fin.length := by rw [← e2]; exact (List.getElem?_eq_some_iff.1 hi).1
    refine ⟨fin[i], e4 i j _ hi (List.getElem?_eq_getElem hlt), hf.2 i _ _ ?_ (List.getElem?_eq_getElem hlt)⟩
    rw [List.getElem?_map, hi]; rfl
  have h4 : ∀ j, Sim s.hp s'.hp j := by
    intro j
    by_cases hj : j ∈ ks
    · obtain ⟨⟨cs, hc⟩, _⟩ := hk j hj
      obtain ⟨cs', hc', _⟩ := hin j hj
      unfold Sim; rw [hc]; exact ⟨_, hc'⟩
    · unfold Sim; rw [e3 j hj]; exact Sim.refl _ j
  have hlt : ∀ k b g, lk s'.hp k = some b → b.active = true → blockOf (φ k) = some g → g < w.heap.size := by
    intro k b g hb ha hg
    by_cases hj : k ∈ ks
    · obtain ⟨⟨cs, hc⟩, _⟩ := hk k hj
      exact (r.hp k _ hc).block_lt rfl hg
    · rw [e3 k hj] at hb; exact (r.hp k b hb).block_lt ha hg
  have act0 : ∀ k b, lk s'.hp k = some b → b.active = true → ∃ b0, lk s.hp k = some b0 ∧ b0.active = true := by
    intro k b hb ha
    by_cases hj : k ∈ ks
    · obtain ⟨⟨cs, hc⟩, _⟩ := hk k hj; exact ⟨_, hc, rfl⟩
    · rw [e3 k hj] at hb; exact ⟨b, hb, ha⟩
  refine ⟨?_, fun k hn => ?_, hlt⟩
  · rw [e1]
    refine r.step (fun _ => False) (fun _ h => h.elim) h1 hw (fun _ _ _ => rfl) (fun j _ => h4 j) (fun j b hb => ?_) (fun j b g hb ha hg => ?_) (fun j j' b1 b2 g hne hb1 hb2 ha1 ha2 hg1 hg2 => ?_) r.one h3 (fun b hb => ?_) ?_
    · by_cases hj : j ∈ ks
      · obtain ⟨cs, hc, arr, T, hh, hsz, hrd⟩ := hin j hj
        obtain ⟨_, g, hg⟩ := hk j hj
        have hbg : blk φ j = g := by simp [blk, hg]
        rw [hc] at hb
        simp only [Option.some.injEq] at hb; subst hb
        refine ⟨g, arr, T, hg, by rw [← hbg]; exact hh, by rw [vd_length]; exact hsz, fun i c x hci hx => ?_⟩
        rw [vd_get] at hci
        cases hcs : cs[i]? with
        | none => rw [hcs] at hci; cases hci
        | some d => rw [hcs] at hci; simp at hci; subst hci; exact .d (hrd i d x hcs hx)
      · rw [e3 j hj] at hb
        refine (r.hp j b hb).keep (fun _ => False) (fun _ _ h => h.elim) h1 hw (fun _ _ _ => rfl) (fun j _ => h4 j) (fun ha g hg => hu.block g ((r.hp j b hb).block_lt ha hg) (fun hm => ?_))
        obtain ⟨j', hj', he⟩ := List.mem_map.1 hm
        obtain ⟨⟨cs, hc⟩, g', hg'⟩ := hk j' hj'
        have hbg : blk φ j' = g' := by simp [blk, hg']
        rw [hbg] at he; subst he
        exact r.inj j j' b _ g' (by rintro rfl; exact hj hj') hb hc ha rfl hg (by rw [hg']; rfl)
    · obtain ⟨b0, hb0, ha0⟩ := act0 j b hb ha
      have hact := r.act j b0 g hb0 ha0 hg
      refine ⟨fun ho => ?_, hact.2⟩
      rcases h2 g ho with ho | ho
      · exact hact.1 ho
      · have := hlt j b g hb ha hg; omega
    · obtain ⟨b3, hb3, ha3⟩ := act0 j b1 hb1 ha1
      obtain ⟨b4, hb4, ha4⟩ := act0 j' b2 hb2 ha2
      exact r.inj j j' b3 b4 g hne hb3 hb4 ha3 ha4 hg1 hg2
    · rcases h2 b hb with hb | hb
      · exact r.oks b hb
      · exact .inr (Nat.le_trans r.b0 hb)
    · refine ⟨hu.os, hu.tape, hu.output, hu.size, fun k hk0 hkb => hu.block k (Nat.lt_of_lt_of_le hk0 r.b0) (fun hm => ?_)⟩
      obtain ⟨j, hj, rfl⟩ := List.mem_map.1 hm
      obtain ⟨⟨cs, hc⟩, g, hg⟩ := hk j hj
      have hbg : blk φ j = g := by simp [blk, hg]
      rw [hbg] at hk0 hkb
      rcases (r.act j _ g hc rfl (by rw [hg]; rfl)).2 with h | h
      · omega
      · exact hkb h
  · by_cases hj : k ∈ ks
    · obtain ⟨⟨cs, hc⟩, _⟩ := hk k hj
      rw [hn] at hc; cases hc
    · rw [e3 k hj]; exact hn

end Go.Dm
