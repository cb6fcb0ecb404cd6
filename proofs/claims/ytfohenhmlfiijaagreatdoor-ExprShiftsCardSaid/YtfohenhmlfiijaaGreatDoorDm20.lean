/- The code of a function: in a frame of its own, or in a round of a range over a function. -/
import Derived.Test.YtfohenhmlfiijaaGreatDoorDm19
namespace Go.Dm

variable {P : Program} {E : Env} {C : CallT} {I : Nat → List V → List V → St → (V → St → Prop) → Prop}
variable {B0 : Nat} {bx : List Nat} {W0 : World} {ok0 : Nat → Prop} {N : Nat}

/-- A fence that lets everything through. -/
def FW (F : Fence) : Prop := F = Fence.wide ∨ ∃ l, F = Fence.wide.inRound l
theorem FW.fn {F : Fence} (h : FW F) (f : Nat) : F.fn f := by rcases h with rfl | ⟨l, rfl⟩ <;> trivial
theorem FW.depth {F : Fence} (h : FW F) {p : Prop} : F.depth.isSome = true → p := by rcases h with rfl | ⟨l, rfl⟩ <;> (intro h; simp [Fence.wide, Fence.inRound] at h)
theorem FW.calls {F : Fence} (h : FW F) {n f : Nat} {args : Array Value} {w : World} {R : Ending → World → Prop} (hc : Calls P f args w R) : CallsIn F n P f args w R := by
  rcases h with rfl | ⟨l, rfl⟩
  · exact callsIn_wide.2 hc
  · exact (callsIn_wide (n := n)).2 hc
theorem FW.rows {F : Fence} (h : FW F) {n : Nat} {row : String} {args : Array Value} {w : World} {R : Value → World → Prop} (hc : Rows P row args w R) : RowsIn F n P row args w R := by
  intro c cs _
  obtain ⟨v, w', h1, h2⟩ := hc c cs
  refine ⟨v, w', h1, ?_⟩
  rcases h with rfl | ⟨l, rfl⟩
  · exact stepsIn_wide.2 h2
  · exact stepsIn_wide.2 h2

theorem upon_in {F : Fence} (hF : FW F) {o : Oper} {a : Act} {next next' : Act → World → Prop} {Q : Exit → Act → World → Prop} (hn : ∀ a w, next a w → next' a w) (hl : ¬ LetsOut Q) {r : Result Next} (h : o.upon P a next Q r) : o.uponIn F 0 P a next' Q r := by
  cases r with
  | halt x w' =>
    cases x <;> first | exact h | exact (h : False).elim
  | ok x w' =>
    cases x with
    | value v => exact hn _ _ h
    | skip => exact hn _ _ h
    | defer d => exact hn _ _ h
    | enter f args =>
      refine ⟨hF.depth, hF.calls ((h : Calls P f args w' _).mono fun e w'' h => ?_)⟩
      cases e with
      | returned v => exact hn _ _ h
      | panicked c => exact h
      | outgrown => exact h
    | row row args => exact ⟨hF.depth, hF.rows ((h : Rows P row args w' _).mono fun v w'' h => hn _ _ h)⟩
    | _ => exact (h : False).elim

theorem ops_in {F : Fence} (hF : FW F) {Q : Exit → Act → World → Prop} (hl : ¬ LetsOut Q) {ops : Array Oper} (hnd : ∀ (i : Nat) (o : Oper), ops[i]? = some o → ∀ c, o.op ≠ .defer c) :
    ∀ (l : List Nat) (a : Act) (w : World), wpOps P ops Q l a w → wpOpsIn F 0 P ops Q l a w := by
  intro l
  induction l with
  | nil => intro a w h; exact h
  | cons i rest ih =>
    intro a w h
    unfold wpOps at h
    unfold wpOpsIn
    cases ho : ops[i]? with
    | none => rw [ho] at h; exact ih a w h
    | some o =>
      rw [ho] at h
      simp only at h ⊢
      split
      · rename_i hw
        rw [if_pos hw] at h
        rcases h with h | h
        · refine ⟨fun f _ => hF.fn f, ?_⟩
          have e : o.semAt F.round a.eval = execOp a.eval o := by
            cases hr : F.round with
            | none => rfl
            | some l => exact Oper.semAt_eq _ _ _ (hnd i o ho)
          rw [e]
          exact upon_in hF ih hl h
        · exact (hl h.2).elim
      · rename_i hw
        rw [if_neg hw] at h
        exact ⟨fun f _ => hF.fn f, ih _ _ h⟩

/-- A call of yield. -/
def YieldAt (P : Program) (l : Nat) (y : Value) (W : World) (R : Bool → World → Prop) : Prop :=
  ∃ fn tmps assign body, (Instr.yield l #[y]).run P W = .ok (.round l fn tmps assign body) W ∧ RoundIn Fence.wide 0 P l fn tmps assign body W (fun e W' => ∃ b, e = .returned (.bool b) ∧ R b W')

/-- What an iterator hands over, one after another, and that it ends when it is told to. -/
def Its (P : Program) (f : Nat) (cps : List Cp) (xs : List R) : Prop :=
  FnOk P f ∧ ∀ (w : World) (ok : Nat → Prop) (vs : List Value) (l : Nat), (∀ b, ok b → b < w.heap.size) → vs.length = (cpV cps).length → (∀ (i : Nat) (c : V) (x : Value), (cpV cps)[i]? = some c → vs[i]? = some x → VR ok (fun _ => .int .i64 0) [] w c x) →
    ∀ (J : Nat → World → Prop) (X : World → Prop), J 0 w → (∀ i W n, J i W → J i { W with drawn := n }) → (∀ W n, X W → X { W with drawn := n }) →
    (∀ i x W y, xs[i]? = some x → J i W → (∀ b, ok b → W.heap[b]? = w.heap[b]?) → ArgsR ok W [] [x] [y] → YieldAt P l y W (fun b W' => (∀ b, ok b → W'.heap[b]? = W.heap[b]?) ∧ (b = true → J (i + 1) W') ∧ (b = false → X W'))) →
    Calls P f (#[.func (.yield l) #[] #[]] ++ vs.toArray) w (fun e W => (∃ v, e = .returned v) ∧ (J xs.length W ∨ X W))

def ItOk (P : Program) (E : Env) : Prop := ∀ f cps K, E.it f cps K → ∃ xs, Its P f cps xs ∧ K xs

theorem wpIn_act {F : Fence} {n : Nat} {c : Code} {Q : Exit → Act → World → Prop} {a a' : Act} {w : World} (e : a = a') (h : c.wpIn F n P Q a' w) : c.wpIn F n P Q a w := e ▸ h

theorem not_lets {Z : Zr} (K : Ex → St → Prop) : ¬ LetsOut (Qof B0 bx W0 ok0 Z N K) := fun ⟨_, _, _, _, _, _, h⟩ => h

theorem mark_inj {Ds Ds' : List Nat} (h : Ds.map mark = Ds'.map mark) : Ds = Ds' := by
  induction Ds generalizing Ds' with
  | nil => cases Ds' with
    | nil => rfl
    | cons d r => simp at h
  | cons d r ih => cases Ds' with
    | nil => simp at h
    | cons d' r' =>
      simp only [List.map_cons, List.cons.injEq] at h
      rw [ih h.2]
      have := h.1
      simp [mark] at this
      rw [this]

open Classical in
theorem awp_sound {gl : Nat → Option Obj} (hE : EnvOk P E) (hC : CallsOk P gl C) (hI : IOk P gl I) (hT : ItOk P E) (hm : P.follows .mixedOrders = true) (fi : Fi) : ∀ (c : Code) (inR : Bool), codeB N fi.sc inR c = true → ∀ (F : Fence), (F = Fence.wide ∨ (inR = true ∧ ∃ l, F = Fence.wide.inRound l)) →
    ∀ (Z : Zr), Z.gl = gl → ∀ (K : Ex → St → Prop) (ok : Nat → Prop) (φ : Nat → Value) (s : St) (a : Act) (w : World),
    Rel B0 bx W0 ok0 Z N ok φ s a w → awp E C I fi c s K → c.wpIn F 0 P (Qof B0 bx W0 ok0 Z N K) a w := by
  intro c
  induction c with
  | skip => intro _ _ F hF Z _ K ok φ s a w r h; exact wpIn_skip ⟨ok, φ, s, r, h⟩
  | exit id => intro _ _ F hF Z _ K ok φ s a w r h; exact wpIn_exit ⟨ok, φ, s, r, h⟩
  | ret => intro _ _ F hF Z _ K ok φ s a w r h; exact wpIn_ret ⟨ok, φ, s, r, h⟩
  | region id ops d =>
    intro inR hc F hF Z hgl K ok φ s a w r h
    subst hgl
    have hFW : FW F := hF.imp (fun h => h) (fun h => h.2)
    cases d with
    | false =>
      simp only [codeB, Bool.and_eq_true] at hc
      simp only [awp] at h
      have := aOps_sound (Q := Qof B0 bx W0 ok0 Z N K) hE hC hI (dstB_spec hc.1) (fun ok φ s a w r h => ⟨ok, φ, _, r.endRegion fi.keep ops.toList, h⟩) ops.toList 0 (fun j => by simp) ok φ s a w r h
      refine wpIn_region (ops_in hFW (not_lets K) (noDefB_spec hc.2) _ _ _ ?_)
      rw [List.range_eq_range']
      simpa using this
    | true =>
      simp only [codeB, Bool.and_eq_true] at hc
      simp only [awp] at h
      obtain ⟨⟨⟨h1, h0⟩, h2⟩, h3⟩ := hc
      split at h
      · exact h.elim
      rename_i sch hsch
      rw [hsch] at h3
      refine wpIn_region_draw fun t => ops_in hFW (not_lets K) (noDefB_spec h0) _ _ _ ?_
      exact region_any hE hC hI hm h2 (dstB_spec h1) (fun ok φ s a w r h => ⟨ok, φ, _, r.endRegion fi.keep ops.toList, h⟩) (fun c a w ⟨_, _, _, _, h⟩ => h) h3 r h t
  | seq x y ih1 ih2 =>
    intro inR hc F hF Z hgl K ok φ s a w r h
    subst hgl
    simp only [codeB, Bool.and_eq_true] at hc
    simp only [awp] at h
    refine wpIn_seq (wpIn_mono (ih1 inR hc.1 F hF Z rfl _ ok φ s a w r h) fun e a' w' hq => ?_)
    obtain ⟨ok', φ', s', r', hk⟩ := hq
    cases e <;> simp only [Exit.then] at hk ⊢
    · exact ih2 inR hc.2 F hF Z rfl K ok' φ' s' a' w' r' hk
    · exact ⟨ok', φ', s', r', hk⟩
    · exact ⟨ok', φ', s', r', hk⟩
  | cond c x y ih1 ih2 =>
    intro inR hc F hF Z hgl K ok φ s a w r h
    subst hgl
    simp only [codeB, Bool.and_eq_true] at hc
    simp only [awp] at h
    obtain ⟨b, hb, s', r', hk⟩ := aCond_sound r h
    refine wpIn_cond_split hb (fun e => ?_) (fun e => ?_)
    · subst e; exact ih1 inR hc.1 F hF Z rfl K ok φ s' a w r' (by simpa using hk)
    · subst e; exact ih2 inR hc.2 F hF Z rfl K ok φ s' a w r' (by simpa using hk)
  | block id b ih =>
    intro inR hc F hF Z hgl K ok φ s a w r h
    subst hgl
    simp only [codeB] at hc
    simp only [awp] at h
    refine wpIn_block (wpIn_mono (ih inR hc F hF Z rfl _ ok φ s a w r h) fun e a' w' hq => ?_)
    obtain ⟨ok', φ', s', r', hk⟩ := hq
    cases e with
    | exit i =>
      simp only [Exit.inBlock]
      dsimp only at hk
      split at hk
      · rename_i he
        rw [if_pos (Nat.eq_of_beq_eq_true he)]
        exact ⟨ok', φ', s', r', hk⟩
      · rename_i he
        rw [if_neg (fun h => by subst h; simp at he)]
        exact ⟨ok', φ', s', r', hk⟩
    | normal => exact ⟨ok', φ', s', r', hk⟩
    | ret => exact ⟨ok', φ', s', r', hk⟩
    | goto l => exact hk.elim
    | panic ch => exact hk.elim
    | outgrown => exact hk.elim
  | loop b ih =>
    intro inR hc F hF Z hgl K ok φ s a w r h
    subst hgl
    simp only [codeB] at hc
    simp only [awp] at h
    split at h
    · exact h.elim
    rename_i live dk hlp
    have go : ∀ (J : Nat → St → Prop) (Kp : Nat → Ex → St → Prop), (∃ n, J n (nilOwn (match lk fi.cv (codeId b) with | some cv => cv | none => []) (clean live dk s))) →
        (∀ n e s'', Kp n e s'' → match e with | .normal => ∃ m, m < n ∧ J m (nilOwn (match lk fi.cv (codeId b) with | some cv => cv | none => []) (clean live dk s'')) | e => K e s'') →
        (∀ n s', J n s' → awp E C I fi b s' (Kp n)) → (Code.loop b).wpIn F 0 P (Qof B0 bx W0 ok0 Z N K) a w := by
      intro J Kp ⟨n0, h0⟩ hKp hstep
      let p : Act → World → Nat → Prop := fun a w n => ∃ ok φ s, J n s ∧ Rel B0 bx W0 ok0 Z N ok φ s a w
      refine wpIn_loop (fun a w => ∃ n, p a w n) (fun a w => least? (p a w)) (by obtain ⟨φc, rc⟩ := Rel.nilOwn (match lk fi.cv (codeId b) with | some cv => cv | none => []) (r.clean live dk); exact ⟨n0, ok, φc, _, h0, rc⟩) fun a' w' hp => ?_
      obtain ⟨⟨ok1, φ1, s1, hj, r1⟩, _⟩ := least?_spec hp
      refine wpIn_mono (ih inR hc F hF Z rfl _ ok1 φ1 s1 a' w' r1 (hstep _ _ hj)) fun e a2 w2 hq => ?_
      obtain ⟨ok2, φ2, s2, r2, hk⟩ := hq
      cases e with
      | normal =>
        simp only [Exit.then]
        dsimp only at hk
        obtain ⟨m, hm', hJ⟩ := hKp _ _ _ hk
        have hp2 : p a2 w2 m := by
          obtain ⟨φc, rc⟩ := Rel.nilOwn (match lk fi.cv (codeId b) with | some cv => cv | none => []) (r2.clean live dk)
          exact ⟨ok2, φc, _, hJ, rc⟩
        exact ⟨⟨m, hp2⟩, Nat.lt_of_le_of_lt ((least?_spec ⟨m, hp2⟩).2 m hp2) hm'⟩
      | exit i => exact ⟨ok2, φ2, s2, r2, hKp _ _ _ hk⟩
      | ret => exact ⟨ok2, φ2, s2, r2, hKp _ _ _ hk⟩
      | goto l => exact hk.elim
      | panic ch => exact hk.elim
      | outgrown => exact hk.elim
    split at h
    · obtain ⟨J, h0, hstep⟩ := h
      exact go J _ h0 (fun n e s'' hk => hk) (fun n s' hj => hstep n s' hj)
    · rename_i l hl
      obtain ⟨x0, ⟨h1, n, h2⟩, h3⟩ := h
      refine go (fun n s => ∃ x, s = l.sh x ∧ l.P x0 n x) (fun n e s'' => match e with | .normal => ∃ m x', m < n ∧ nilOwn (match lk fi.cv (codeId b) with | some cv => cv | none => []) (clean live dk s'') = l.sh x' ∧ l.P x0 m x' | e => K e s'') ⟨n, x0, h1, h2⟩ (fun n e s'' hk => ?_) ?_
      · cases e with
        | normal => obtain ⟨m, x', h4, h5, h6⟩ := hk; exact ⟨m, h4, x', h5, h6⟩
        | exit id => exact hk
        | ret => exact hk
      · rintro n s' ⟨x, rfl, hp⟩
        exact h3 n x hp
  | rangeFunc g ps assign body ih1 ih2 =>
    intro inR hc F hF Z hgl K ok φ s a w r h
    subst hgl
    simp only [codeB, Bool.and_eq_true, Bool.not_eq_true'] at hc
    obtain ⟨⟨⟨hinR, hps⟩, hca⟩, hcb⟩ := hc
    have hFw : F = Fence.wide := by
      rcases hF with hF | ⟨h, _⟩
      · exact hF
      · rw [hinR] at h; cases h
    subst hFw
    simp only [awp] at h
    split at h
    rotate_left
    · exact h.elim
    rename_i p live dk f caps hpl hlp hfe
    have hps' : ps = #[p] := by rw [← hpl]
    subst hps'
    have hpN : p < N := by simpa using hps
    split at h
    · exact h.elim
    rename_i cps s1 hfz
    have hvg := vr_ev r (g := []) (fun t b h => by cases h) g
    rw [hfe] at hvg
    generalize hav : a.eval g = gv at hvg
    cases hvg
    rename_i lb hlb hvl
    obtain ⟨ok1, r1, hok1, hcl, hcv⟩ := frzCaps_sound (vs := lb.toList) r (by simpa using hlb) (fun i c x h1 h2 => hvl i c x h1 (by simpa using h2)) hfz
    obtain ⟨xs, hits, hxs⟩ := hT _ _ _ h
    have hxs' : ∃ (J : Nat → St → Prop) (Ka : Nat → Ex → St → Prop) (Kb : Nat → Ex → St → Prop), J 0 (nilOwn (match lk fi.cv (codeId assign) with | some cv => cv | none => []) (clean live dk s1)) ∧
        (∀ (i : Nat) (x : R) (s' : St), xs[i]? = some x → J i s' → match ofX x with | none => False | some v => awp E C I fi assign (rnd s' p v) (Ka i)) ∧
        (∀ i e s1, Ka i e s1 → match e with | .normal => awp E C I fi body s1 (Kb i) | _ => False) ∧
        (∀ i e s2, Kb i e s2 → match e with | .normal => J (i + 1) (nilOwn (match lk fi.cv (codeId assign) with | some cv => cv | none => []) (clean live dk (bak s2))) | e => K e (clean live dk (bak s2))) ∧
        ∀ s', J xs.length s' → K .normal s' := by
      split at hxs
      · obtain ⟨J, hJ0, hJr, hJe⟩ := hxs
        exact ⟨J, _, _, hJ0, fun i x s' h1 h2 => hJr i x s' h1 h2, fun i e s1 hk => hk, fun i e s2 hk => hk, hJe⟩
      · rename_i l hl
        obtain ⟨x0, ⟨h1, h2⟩, hel, h3, h4⟩ := hxs
        refine ⟨fun i s => ∃ x, s = l.sh x ∧ l.P x0 i x,
          fun i e s1 => match e with | .normal => awp E C I fi body s1 (fun e s2 => match e with | .normal => ∃ x', nilOwn (match lk fi.cv (codeId assign) with | some cv => cv | none => []) (clean live dk (bak s2)) = l.sh x' ∧ l.P x0 (i + 1) x' | e => K e (clean live dk (bak s2))) | _ => False,
          fun i e s2 => match e with | .normal => ∃ x', nilOwn (match lk fi.cv (codeId assign) with | some cv => cv | none => []) (clean live dk (bak s2)) = l.sh x' ∧ l.P x0 (i + 1) x' | e => K e (clean live dk (bak s2)),
          ⟨x0, h1, h2⟩, ?_, fun i e s1 hk => by cases e <;> exact hk, fun i e s2 hk => by cases e <;> exact hk, ?_⟩
        · rintro i y s' hy ⟨x, rfl, hp⟩
          obtain ⟨z, rfl⟩ := hel i y hy
          have := h3 i z x hy hp
          cases hof : ofX (l.el z) with
          | none => rw [hof] at this; exact this.elim
          | some v => rw [hof] at this; exact this
        · rintro s' ⟨x, rfl, hp⟩
          exact h4 x hp
    obtain ⟨J, Ka, Kb, hJ0, hJr, hKa, hKb, hJe⟩ := hxs'
    obtain ⟨Ds, hDn, hDd, hDl⟩ := r1.df
    refine wpIn_rangeFunc ?_
    intro fn hfn
    obtain ⟨rec, hrec⟩ : ∃ rec : LoopState → Option Code → Loop, rec = fun st pe => { state := st, pending := pe, fn, tmps := a.tmps, params := #[p], assign, body, defers := w.heap.size } := ⟨_, rfl⟩
    obtain ⟨W1, hW1⟩ : ∃ W1, (w.alloc (.deferred (some []))).alloc (.loop (rec .ready none)) = W1 := ⟨_, rfl⟩
    have hsz : W1.heap.size = w.heap.size + 2 := by rw [← hW1]; simp
    have hL1 : W1.heap[w.heap.size + 1]? = some (.loop (rec .ready none)) := by
      rw [← hW1]; have := World.alloc_heap_new (w.alloc (.deferred (some []))) (.loop (rec .ready none)); rwa [World.size_alloc] at this
    have hold : ∀ b, b < w.heap.size → W1.heap[b]? = w.heap[b]? := fun b hb => by
      rw [← hW1]; exact (heap_alloc_old _ _ b (by simp; omega)).trans (heap_alloc_old w _ b hb)
    have hK1 : W1.heap[w.heap.size]? = some (.deferred (some [])) := by
      rw [← hW1]; exact (heap_alloc_old _ _ _ (by simp)).trans (World.alloc_heap_new w _)
    have hUp : Upd [] w.heap.size w W1 := ⟨by rw [← hW1]; rfl, by rw [← hW1]; rfl, by rw [← hW1]; rfl, by omega, fun k hk _ => hold k hk⟩
    have hBw := r.b0
    have rW := r1.later hUp
    let ok2 : Nat → Prop := fun b => ok1 b ∨ b = w.heap.size ∨ b = w.heap.size + 1
    have rW2 : Rel B0 bx W0 ok0 Z N ok2 φ s1 a W1 := rW.addOk (fun b hb => .inl hb) (fun b hb => by
        rcases hb with hb | rfl | rfl
        · exact rW.okl b hb
        · omega
        · omega) (fun b hb => by
        rcases hb with hb | rfl | rfl
        · exact rW.oks b hb
        · exact .inr hBw
        · exact .inr (by omega)) (fun k b g' hk ha hg => by
        have h1 := (rW.act k b g' hk ha hg).1
        have h2 := (r1.hp k b hk).block_lt ha hg
        rintro (hx | rfl | rfl)
        · exact h1 hx
        · omega
        · omega)
    let J' : Nat → World → Prop := fun i W => ∃ ok' φ' s', J i s' ∧ Rel B0 bx W0 ok0 Z N ok' φ' s' a W ∧ (∀ b, ok2 b → ok' b) ∧ W.heap[w.heap.size + 1]? = some (.loop (rec .ready none)) ∧ W.heap[w.heap.size]? = some (.deferred (some [])) ∧
      ∀ D ∈ Ds, W.heap[D]? = some (.deferred (some []))
    let X' : World → Prop := fun W => ∃ c ok' φ' s', Rel B0 bx W0 ok0 Z N ok' φ' s' a W ∧ ((c = Code.ret ∧ K .ret s') ∨ ∃ id, c = Code.exit id ∧ K (.exit id) s') ∧ (∀ b, ok2 b → ok' b) ∧ W.heap[w.heap.size + 1]? = some (.loop (rec .done (some c))) ∧ W.heap[w.heap.size]? = some (.deferred (some [])) ∧
      ∀ D ∈ Ds, W.heap[D]? = some (.deferred (some []))
    have hZL : ∀ o, Z.z (w.heap.size + 1) ≠ some o := fun o hz => by
      have := (Array.getElem?_eq_some_iff.1 (r.kz _ o hz).2).1; omega
    have hDlt : ∀ D ∈ Ds, D < w.heap.size := fun D hD => (Array.getElem?_eq_some_iff.1 (hDl D hD).2.2).1
    have hcall := hits.2 W1 ok1 lb.toList (w.heap.size + 1) (fun b hb => rW.okl b hb) hcl.symm (fun i c x h1 h2 => (hcv i c x h1 h2).bare (fun _ h => h) (fun b hb => hold b (r1.okl b hb))) J' X' ?_ ?_ ?_ ?_
    · refine ⟨w.heap.size + 1, [mark w.heap.size], W1, { target := .fn (.func f) lb, args := #[.func (.yield (w.heap.size + 1)) #[] #[]] }, W1, f,
        #[.func (.yield (w.heap.size + 1)) #[] #[]] ++ lb, W1, ?_, ?_, fun _ _ => trivial, ?_, fun h => by simp [Fence.wide] at h, ?_⟩
      · rw [← hW1, hrec]; exact run_enterLoop_outer _ _ _ _ _
      · simp only [resolve, hav, Sem.run_bind, Deferred.ofValue, Sem.run_pure, Result.andThen_ok]
        simp [Act.eval]
      · simp only [invoke]
        rw [run_callFunc hits.1]
      · refine (callsIn_wide.2 hcall).mono ?_
        rintro e W ⟨⟨v, rfl⟩, hW⟩
        have fin : ∀ (ok' : Nat → Prop) (φ' : Nat → Value) (s' : St) (st : LoopState) (pe : Option Code), Rel B0 bx W0 ok0 Z N ok' φ' s' a W → (∀ b, ok2 b → ok' b) → W.heap[w.heap.size + 1]? = some (.loop (rec st pe)) → W.heap[w.heap.size]? = some (.deferred (some [])) →
            (∀ D ∈ Ds, W.heap[D]? = some (.deferred (some []))) → Rel B0 bx W0 ok0 Z N ok' φ' s' { a with defers := [mark w.heap.size] ++ a.defers } (W.putObj (w.heap.size + 1) (.loop { rec st pe with state := .exhausted })) := by
          intro ok' φ' s' st pe r' hok' hL hD hDs
          refine r'.turn hL rfl rfl (by omega) Z (fun b o hz => ?_) rfl (by exact r'.zs) rfl ⟨w.heap.size :: Ds, List.nodup_cons.2 ⟨fun hm => by have := hDlt _ hm; omega, hDn⟩, by simp [hDd], fun D hD' => ?_⟩
          · have hne : b ≠ w.heap.size + 1 := by rintro rfl; exact hZL o hz
            exact ⟨(r'.kz b o hz).1, (World.putObj_heap_other hne).trans (r'.kz b o hz).2⟩
          · rcases List.mem_cons.1 hD' with rfl | hD'
            · exact ⟨⟨hBw, r.zs⟩, hok' _ (.inr (.inl rfl)), (World.putObj_heap_other (by omega)).trans hD⟩
            · have := hDlt D hD'
              exact ⟨(hDl D hD').1, hok' _ (.inl (hDl D hD').2.1), (World.putObj_heap_other (by omega)).trans (hDs D hD')⟩
        have he : ∀ st pe, st ≠ LoopState.busy → W.heap[w.heap.size + 1]? = some (.loop (rec st pe)) → (Instr.endLoop (w.heap.size + 1)).run P W = .ok pe (W.putObj (w.heap.size + 1) (.loop { rec st pe with state := .exhausted })) := by
          intro st pe hst hL
          have := run_endLoop (P := P) hL (by rw [hrec]; exact hst)
          rw [hrec] at this ⊢; exact this
        rcases hW with ⟨ok', φ', s', hJ', r', hok', hL, hD, hDs⟩ | ⟨c, ok', φ', s', r', hc', hok', hL, hD, hDs⟩
        · exact ⟨none, _, he _ _ (by simp) hL, ok', φ', s', fin ok' φ' s' _ _ r' hok' hL hD hDs, hJe s' hJ'⟩
        · refine ⟨some c, _, he _ _ (by simp) hL, ?_⟩
          have rf := fin ok' φ' s' _ _ r' hok' hL hD hDs
          rcases hc' with ⟨rfl, hk⟩ | ⟨id, rfl, hk⟩
          · exact wpIn_ret ⟨ok', φ', s', rf, hk⟩
          · exact wpIn_exit ⟨ok', φ', s', rf, hk⟩
    · obtain ⟨φc, rc⟩ := Rel.nilOwn (match lk fi.cv (codeId assign) with | some cv => cv | none => []) (rW2.clean live dk)
      exact ⟨ok2, φc, _, hJ0, rc, fun _ h => h, hL1, hK1, fun D hD => (hold D (hDlt D hD)).trans (hDl D hD).2.2⟩
    · rintro i W n ⟨ok', φ', s', h1, h2, h3⟩
      exact ⟨ok', φ', s', h1, h2.later ⟨rfl, rfl, rfl, Nat.le_refl _, fun _ _ _ => rfl⟩, h3⟩
    · rintro W n ⟨c, ok', φ', s', h1, h2, h3⟩
      exact ⟨c, ok', φ', s', h1.later ⟨rfl, rfl, rfl, Nat.le_refl _, fun _ _ _ => rfl⟩, h2, h3⟩
    · rintro i x W y hx ⟨ok', φ', s', hJi, r', hok', hL, hD, hDs⟩ hsame hA
      have hround := hJr i x s' hx hJi
      split at hround
      · exact hround.elim
      rename_i v hv
      have hyv : VR ok' φ' s'.hp W v y := by
        cases hA with
        | d h _ => simp only [ofX, Option.some.injEq] at hv; subst hv; exact .d (h.mono (fun b hb => hok' b (.inl hb)) (fun _ _ => rfl))
        | agg hs h _ =>
          simp only [ofX, Option.some.injEq] at hv; subst hv
          exact vd_agg hs (fun i d x hc hx => (h i d x hc hx).mono (fun b hb => hok' b (.inl hb)) (fun _ _ => rfl))
        | ptr h _ => cases hv
        | fn h _ => cases hv
      have hy := run_yield (P := P) (args := #[y]) hL (by rw [hrec]; rfl)
      rw [hrec] at hy
      refine ⟨fn, _, assign, body, hy, ?_⟩
      -- the round's frame
      let Z1 : Zr := { n := W.heap.size, z := fun b => if ok' b then W.heap[b]? else none, ro := fun d t => (match d with | 0 => a.tmps.getD t undef | d + 1 => Z.ro d t), gl := Z.gl, sub := fun b o h => (if_pos (r'.kz b o (Z.sub b o h)).1).trans (r'.kz b o (Z.sub b o h)).2 }
      have hZ1 : ∀ b o, Z1.z b = some o → ok' b ∧ W.heap[b]? = some o := fun b o h => by
        simp only [Z1] at h
        split at h
        · rename_i hb; exact ⟨hb, h⟩
        · cases h
      have hpa : p < a.tmps.size := by rw [r'.sz]; exact hpN
      have rR : Rel B0 bx W0 ok0 Z1 N ok' φ' (rnd s' p v) { tmps := (a.put (some p) y).tmps, defers := [] } W := by
        refine r'.reZ Z1 hZ1 (Nat.le_refl _) rfl rfl ?_ (fun t u hu => ?_) (fun t b hb => by simp [rnd, lk] at hb) (fun d l t u hd hu => ?_) ⟨[], by simp, rfl, by simp⟩
        · simp only [Act.put, Array.size_setIfInBounds]; exact r'.sz
        · simp only [rnd] at hu
          rw [lk_pt] at hu
          rw [put_getD a p t y hpa]
          by_cases e : p = t
          · subst e
            rw [if_pos rfl] at hu ⊢
            simp only [Option.some.injEq] at hu
            subst hu; exact hyv
          · rw [if_neg e] at hu
            rw [if_neg (Ne.symm e)]
            exact r'.tm t u hu
        · cases d with
          | zero => simp only [rnd, nth, Option.some.injEq] at hd; subst hd; exact r'.tm t u hu
          | succ d => exact r'.rt d l t u hd hu
      have hFr : ∀ l, (Fence.wide.inRound l = Fence.wide ∨ (true = true ∧ ∃ l', Fence.wide.inRound l = Fence.wide.inRound l')) := fun l => .inr ⟨rfl, l, rfl⟩
      have hasg := ih1 true hca _ (hFr (w.heap.size + 1)) Z1 rfl _ ok' φ' _ _ W rR hround
      refine roundIn_of_wpIn (n := 0) trivial ?_
      refine wpIn_act (a' := { tmps := (a.put (some p) y).tmps, defers := [] }) (by simp [Act.put]) (wpIn_mono hasg ?_)
      rintro e a3 W3 ⟨ok3, φ3, s3, r3, hk3⟩
      cases e <;> simp only [Exit.then] at hk3 ⊢ <;> first | exact hk3.elim | exact (hKa _ _ _ hk3).elim | skip
      have hk3 := hKa _ _ _ hk3
      dsimp only at hk3
      have hkeep3 : ∀ b, ok' b → b < W.heap.size → ok3 b ∧ W3.heap[b]? = W.heap[b]? := fun b hb hlt => by
        have hz : Z1.z b = some W.heap[b] := by
          simp only [Z1]; rw [if_pos hb]; simp [hlt]
        obtain ⟨e1, e2⟩ := r3.kz b _ hz
        exact ⟨e1, by rw [e2]; simp [hlt]⟩
      have hLok : ok' (w.heap.size + 1) := hok' _ (.inr (.inr rfl))
      have hDok : ok' w.heap.size := hok' _ (.inr (.inl rfl))
      have hL3 : W3.heap[w.heap.size + 1]? = some (.loop (rec .ready none)) := (hkeep3 _ hLok (r'.okl _ hLok)).2.trans hL
      refine ⟨_, run_beginRound hL3 (by rw [hrec]), ?_⟩
      obtain ⟨W4, hW4⟩ : ∃ W4, W3.putObj (w.heap.size + 1) (.loop { rec .ready none with state := .busy }) = W4 := ⟨_, rfl⟩
      rw [hW4]
      have hL4 : W4.heap[w.heap.size + 1]? = some (.loop { rec .ready none with state := .busy }) := by rw [← hW4]; exact World.putObj_heap_same (Array.getElem?_eq_some_iff.1 hL3).1
      let Z2 : Zr := { n := W.heap.size, z := fun b => if b = w.heap.size + 1 then some (.loop { rec .ready none with state := .busy }) else if ok' b then W.heap[b]? else none, ro := Z1.ro, gl := Z.gl, sub := fun b o h => (if_neg (by have := (Array.getElem?_eq_some_iff.1 (r.kz b o (Z.sub b o h)).2).1; omega)).trans ((if_pos (r'.kz b o (Z.sub b o h)).1).trans (r'.kz b o (Z.sub b o h)).2) }
      have r4 : Rel B0 bx W0 ok0 Z2 N ok3 φ3 s3 a3 W4 := by
        rw [← hW4]
        refine r3.turn hL3 rfl rfl (by omega) Z2 (fun b o hz => ?_) rfl (by exact r3.zs) rfl ?_
        · simp only [Z2] at hz
          split at hz
          · rename_i hb; subst hb
            exact ⟨(hkeep3 _ hLok (r'.okl _ hLok)).1, by rw [hW4, hL4]; exact hz⟩
          · rename_i hb
            split at hz
            · rename_i hb'
              obtain ⟨e1, e2⟩ := hkeep3 b hb' (r'.okl b hb')
              exact ⟨e1, (World.putObj_heap_other hb).trans (e2.trans hz)⟩
            · cases hz
        · obtain ⟨Ds3, e1, e2, e3⟩ := r3.df
          refine ⟨Ds3, e1, e2, fun D hD => ⟨(e3 D hD).1, (e3 D hD).2.1, ?_⟩⟩
          rw [World.putObj_heap_other (by rintro rfl; have := (e3 _ hD).2.2; rw [hL3] at this; cases this)]
          exact (e3 D hD).2.2
      refine wpIn_mono (ih2 true hcb _ (hFr (w.heap.size + 1)) Z2 rfl _ ok3 φ3 s3 a3 W4 r4 hk3) ?_
      rintro e a5 W5 ⟨ok5, φ5, s5, r5, hk5'⟩
      have hL5 : W5.heap[w.heap.size + 1]? = some (.loop { rec .ready none with state := .busy }) := (r5.kz (w.heap.size + 1) (.loop { rec .ready none with state := .busy }) (by simp [Z2])).2
      have hLok5 : ok5 (w.heap.size + 1) := (r5.kz (w.heap.size + 1) (.loop { rec .ready none with state := .busy }) (by simp [Z2])).1
      have hkeep5 : ∀ b, ok' b → b ≠ w.heap.size + 1 → ok5 b ∧ W5.heap[b]? = W.heap[b]? := fun b hb hne => by
        have hlt := r'.okl b hb
        have hz : Z2.z b = some W.heap[b] := by
          simp only [Z2]; rw [if_neg hne, if_pos hb]; simp [hlt]
        obtain ⟨e1, e2⟩ := r5.kz b _ hz
        exact ⟨e1, by rw [e2]; simp [hlt]⟩
      have back : ∀ (o' : Loop), Rel B0 bx W0 ok0 Z N ok5 φ5 (bak s5) a (W5.putObj (w.heap.size + 1) (.loop o')) ∧ (∀ b, ok2 b → ok5 b) ∧ (W5.putObj (w.heap.size + 1) (.loop o')).heap[w.heap.size + 1]? = some (.loop o') ∧
          (W5.putObj (w.heap.size + 1) (.loop o')).heap[w.heap.size]? = some (.deferred (some [])) ∧ (∀ D ∈ Ds, (W5.putObj (w.heap.size + 1) (.loop o')).heap[D]? = some (.deferred (some []))) ∧
          ∀ b, ok1 b → (W5.putObj (w.heap.size + 1) (.loop o')).heap[b]? = W.heap[b]? := fun o' => by
        have hDs5 : ∀ D ∈ Ds, (W5.putObj (w.heap.size + 1) (.loop o')).heap[D]? = some (.deferred (some [])) := fun D hD => by
          have := hDlt D hD
          rw [World.putObj_heap_other (by omega), (hkeep5 D (hok' D (.inl (hDl D hD).2.1)) (by omega)).2]
          exact hDs D hD
        have ht : Rel B0 bx W0 ok0 ⟨W.heap.size, fun _ => none, Z1.ro, fun _ => none, fun _ _ h => h⟩ N ok5 φ5 s5 a5 (W5.putObj (w.heap.size + 1) (.loop o')) := by
          refine r5.turn hL5 rfl rfl (by omega) ⟨W.heap.size, fun _ => none, Z1.ro, fun _ => none, fun _ _ h => h⟩ (fun b o hz => by cases hz) rfl (by exact r5.zs) rfl ?_
          obtain ⟨Ds3, e1, e2, e3⟩ := r5.df
          refine ⟨Ds3, e1, e2, fun D hD => ⟨(e3 D hD).1, (e3 D hD).2.1, ?_⟩⟩
          rw [World.putObj_heap_other (by rintro rfl; have := (e3 _ hD).2.2; rw [hL5] at this; cases this)]
          exact (e3 D hD).2.2
        refine ⟨?_, fun b hb => ?_, World.putObj_heap_same (Array.getElem?_eq_some_iff.1 hL5).1, ?_, hDs5, fun b hb => ?_⟩
        · refine ht.reZ Z (fun b o hz => ?_) ?_ ?_ ?_ r'.sz (fun t u hu => ?_) (fun t b hb => ?_) (fun d l t u hd hu => ?_) ⟨Ds, hDn, hDd, fun D hD => ⟨(hDl D hD).1, ?_, hDs5 D hD⟩⟩
          · obtain ⟨e1, e2⟩ := r'.kz b o hz
            have hne : b ≠ w.heap.size + 1 := by rintro rfl; exact hZL o hz
            obtain ⟨e3, e4⟩ := hkeep5 b e1 hne
            exact ⟨e3, (World.putObj_heap_other hne).trans (e4.trans e2)⟩
          · exact Nat.le_trans r'.zs (by simpa using r5.zs)
          · unfold bak; split <;> rfl
          · unfold bak; split <;> rfl
          · unfold bak at hu
            split at hu
            · rename_i tm rt hrt
              exact ht.rt 0 tm t u (by rw [hrt]; rfl) hu
            · simp [lk] at hu
          · unfold bak at hb
            split at hb <;> simp [lk] at hb
          · unfold bak at hd
            split at hd
            · rename_i tm rt hrt
              exact ht.rt (d + 1) l t u (by rw [hrt]; exact hd) hu
            · simp [nth] at hd
          · have := hDlt D hD
            exact (hkeep5 D (hok' D (.inl (hDl D hD).2.1)) (by omega)).1
        · by_cases e : b = w.heap.size + 1
          · subst e; exact hLok5
          · exact (hkeep5 b (hok' b hb) e).1
        · rw [World.putObj_heap_other (by omega), (hkeep5 _ hDok (by omega)).2]; exact hD
        · have hlt := r1.okl b hb
          rw [World.putObj_heap_other (by omega), (hkeep5 b (hok' b (.inl hb)) (by omega)).2]
      have hk5 : (match e with | .normal => J (i + 1) (nilOwn (match lk fi.cv (codeId assign) with | some cv => cv | none => []) (clean live dk (bak s5))) | .exit i => K (.exit i) (clean live dk (bak s5)) | .ret => K .ret (clean live dk (bak s5)) | _ => False) := by
        cases e <;> first | exact hk5'.elim | exact hKb _ _ _ hk5'
      cases e with
      | normal =>
        have he := run_endRound (P := P) none hL5
        obtain ⟨b1, b2, b3, b4, b5, b6⟩ := back { { rec .ready none with state := .busy } with state := .ready, pending := none }
        refine ⟨_, _, he, true, rfl, b6, fun _ => ?_, fun h => by cases h⟩
        obtain ⟨φc, rc⟩ := Rel.nilOwn (match lk fi.cv (codeId assign) with | some cv => cv | none => []) (b1.clean live dk)
        exact ⟨ok5, φc, _, hk5, rc, b2, by rw [hrec] at b3 ⊢; exact b3, b4, b5⟩
      | ret =>
        have he := run_endRound (P := P) (some .ret) hL5
        obtain ⟨b1, b2, b3, b4, b5, b6⟩ := back { { rec .ready none with state := .busy } with state := .done, pending := some .ret }
        exact ⟨_, _, he, false, rfl, b6, fun h => (by cases h), fun _ => ⟨.ret, ok5, φ5, _, b1.clean live dk, .inl ⟨rfl, hk5⟩, b2, by rw [hrec] at b3 ⊢; exact b3, b4, b5⟩⟩
      | exit id =>
        have he := run_endRound (P := P) (some (.exit id)) hL5
        obtain ⟨b1, b2, b3, b4, b5, b6⟩ := back { { rec .ready none with state := .busy } with state := .done, pending := some (.exit id) }
        exact ⟨_, _, he, false, rfl, b6, fun h => (by cases h), fun _ => ⟨.exit id, ok5, φ5, _, b1.clean live dk, .inr ⟨id, rfl, hk5⟩, b2, by rw [hrec] at b3 ⊢; exact b3, b4, b5⟩⟩
      | goto l => exact hk5.elim
      | panic ch => exact hk5.elim
      | outgrown => exact hk5.elim
  | _ => intro _ _ F hF Z _ K ok φ s a w r h; exact h.elim

end Go.Dm
