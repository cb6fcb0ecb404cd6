/- Regions. -/
import Derived.Test.YtfohenhmlfiijaaGreatDoorDm15
namespace Go.Dm

variable {P : Program} {E : Env} {C : CallT} {I : Nat → List V → List V → St → (V → St → Prop) → Prop}
variable {B0 : Nat} {bx : List Nat} {W0 : World} {ok0 : Nat → Prop} {Z : Zr} {N : Nat}

/-- The operations of a region, one after another. -/
theorem aOps_sound (hE : EnvOk P E) (hC : CallsOk P Z.gl C) (hI : IOk P Z.gl I) {ops : Array Oper} (hd : ∀ (i : Nat) (o : Oper), ops[i]? = some o → ∀ k, o.dst = some k → k < N) {Q : Exit → Act → World → Prop} {K : St → Prop}
    (hQ : ∀ ok φ s a w, Rel B0 bx W0 ok0 Z N ok φ s a w → K s → Q .normal a w) :
    ∀ (rest : List Oper) (i : Nat), (∀ j, rest[j]? = ops[i + j]?) → ∀ (ok : Nat → Prop) (φ : Nat → Value) (s : St) (a : Act) (w : World), Rel B0 bx W0 ok0 Z N ok φ s a w → aOps E C I ops.toList rest s K →
      wpOps P ops Q (List.range' i rest.length) a w := by
  intro rest
  induction rest with
  | nil => intro i _ ok φ s a w r h; exact hQ ok φ s a w r h
  | cons o rest ih =>
    intro i hi ok φ s a w r h
    have ho : ops[i]? = some o := by simpa using (hi 0).symm
    have hnext : ∀ v' w', After B0 bx W0 ok0 Z N o a φ s w (fun _ s => aOps E C I ops.toList rest s K) v' w' → wpOps P ops Q (List.range' (i + 1) rest.length) (a.put o.dst v') w' := fun v' w' ⟨_, s', ok', φ', h1, h2, _⟩ =>
      ih (i + 1) (fun j => by have := hi (j + 1); simpa [Nat.add_assoc, Nat.add_comm 1 j] using this) ok' φ' s' _ w' h2 h1
    simp only [List.length_cons, List.range'_succ]
    unfold wpOps
    rw [ho]
    simp only
    rcases aStep_sound hE hC hI (hd i o ho) r h with ⟨hw, hrun⟩ | ⟨hw, hrun⟩
    · rw [if_pos hw]
      exact .inl (hrun.wp hnext)
    · rw [if_neg (by rw [hw]; simp)]
      exact hnext _ _ hrun

/-- What an operation that only reads leaves, in every world that agrees where it reads. -/
def QPost (P : Program) (B0 : Nat) (bx : List Nat) (W0 : World) (ok0 : Nat → Prop) (Z : Zr) (N : Nat) (ops : Array Oper) (o : Oper) (ok : Nat → Prop) (φ : Nat → Value) (s : St) (a : Act) (w : World) (next : List Nat → St → Prop) : Prop :=
  ∃ v', ∃ X : Nat → Prop, ((Region.wanted o (yielded ops a.tmps) = true ∧ ∀ w₂, (∀ b, X b → w₂.heap[b]? = w.heap[b]?) → (execOp a.eval o).run P w₂ = .ok (.value v') w₂) ∨ (Region.wanted o (yielded ops a.tmps) = false ∧ v' = undef)) ∧
      ∃ ks s', next ks s' ∧ Rel B0 bx W0 ok0 Z N ok φ s' (a.put o.dst v') w ∧ s'.hp = s.hp ∧ ∀ b, X b → b < w.heap.size ∧ ∀ k b', lk s.hp k = some b' → b'.active = true → blockOf (φ k) = some b → k ∈ ks

/-- An operation that only reads: what it leaves, in every world that agrees where it reads. -/
theorem aStep_quiet (hE : EnvOk P E) {ops : Array Oper} {o : Oper} (hd : ∀ k, o.dst = some k → k < N) (hq : quietB o.op = true) {ok : Nat → Prop} {φ : Nat → Value} {s : St} {a : Act} {w : World} (r : Rel B0 bx W0 ok0 Z N ok φ s a w) {next : List Nat → St → Prop}
    (h : aStep E C I ops.toList o s next) :
    QPost P B0 bx W0 ok0 Z N ops o ok φ s a w next := by
  have exec : ∀ (s1 : St), Rel B0 bx W0 ok0 Z N ok φ s1 a w → s1.hp = s.hp → ∀ g, Holds a g → Region.wanted o (yielded ops a.tmps) = true → (aOp E C I s1 g o fun v s' => next (useKeys E s1 g o.op) (putO s' o.dst v)) →
    QPost P B0 bx W0 ok0 Z N ops o ok φ s a w next := by
    intro s1 r1 hs1 g hg hw h
    obtain ⟨v, v', s', X, h1, h2, h3, h4, h5, h6⟩ := aOp_quiet hE r1 hg hq h
    exact ⟨v', X, .inl ⟨hw, h1⟩, _, _, h2, h3.putO hd h4, by rw [hp_putO, h5, hs1], fun b hb => by rw [← hs1]; exact h6 b hb⟩
  have skip : ∀ (s1 : St), Rel B0 bx W0 ok0 Z N ok φ s1 a w → s1.hp = s.hp → Region.wanted o (yielded ops a.tmps) = false → next [] (putO s1 o.dst .dead) →
    QPost P B0 bx W0 ok0 Z N ops o ok φ s a w next := by
    intro s1 r1 hs1 hw h
    exact ⟨undef, fun _ => False, .inr ⟨hw, rfl⟩, _, _, h, r1.putO hd (.dead _), by rw [hp_putO, hs1], fun b hb => hb.elim⟩
  unfold aStep at h
  split at h
  · rename_i hg
    exact exec s r rfl [] (fun _ _ h => by cases h) (by unfold Region.wanted; rw [hg]) h
  · rename_i j want hg
    split at h
    · exact h.elim
    rename_i t ht
    have hw := wanted_iff hg ht a
    have hwf : a.tmps.getD t undef ≠ .bool want → Region.wanted o (yielded ops a.tmps) = false := fun hn => by
      cases hc : Region.wanted o (yielded ops a.tmps)
      · rfl
      · exact (hn (hw.1 hc)).elim
    have hgd : a.tmps.getD t undef = .bool want → Holds a [(t, want)] := fun hc u b hm => by simp at hm; obtain ⟨rfl, rfl⟩ := hm; exact hc
    have split4 : splitG 4 s t want (fun s1 => aOp E C I s1 [(t, want)] o fun v s' => next (useKeys E s1 [(t, want)] o.op) (putO s' o.dst v)) (fun s1 => next [] (putO s1 o.dst .dead)) → QPost P B0 bx W0 ok0 Z N ops o ok φ s a w next := fun h => by
      rcases splitG_sound 4 r h with ⟨h1, s1, h2, h3, h4⟩ | ⟨h1, s1, h2, h3, h4⟩
      · exact exec s1 h3 h4 _ (hgd h1) (hw.2 h1) h2
      · exact skip s1 h3 h4 (hwf h1) h2
    split at h
    · rename_i b hb
      have hk := r.kn t b hb
      split at h
      · exact exec s r rfl _ (hgd hk) (hw.2 hk) h
      · exact exec s r rfl _ (hgd hk) (hw.2 hk) h
      · rename_i h1 h2
        refine skip s r rfl (hwf ?_) h
        rw [hk]
        cases b <;> cases want <;> simp_all
    · split at h
      · rename_i hspec
        split at h
        · rename_i c x y hop
          split at h
          · rename_i bx' by' bz' h1 h2 h3
            by_cases hc : a.tmps.getD t undef = .bool want
            · have e1 := ev_int r (hgd hc) h1
              have hpk : ∀ (b z : Bool) (e : Operand), bx' = b → aStep.evPick s (t, want) c b e = .d (.v (.bool z)) → a.eval e = .bool z := fun b z e hb he => by
                unfold aStep.evPick at he
                split at he
                · rename_i u
                  refine ev_int r (fun u' b' hm => ?_) he
                  rcases List.mem_cons.1 hm with hm | hm
                  · simp at hm; obtain ⟨rfl, rfl⟩ := hm; rw [← hb]; exact e1
                  · exact hgd hc u' b' hm
                · exact ev_int r (hgd hc) he
              refine ⟨.bool (cond bx' by' bz'), fun _ => False, .inl ⟨hw.2 hc, fun w₂ _ => ?_⟩, _, _, h, r.putGO hd (.inl ⟨hc, vr_bool _⟩), by rw [hp_putGO], fun b hb => hb.elim⟩
              unfold execOp
              rw [hop]
              have := run_pick (P := P) (x := x) (y := y) e1 w₂
              refine this.trans ?_
              cases bx'
              · simp [hpk false bz' y rfl h3]
              · simp [hpk true by' x rfl h2]
            · exact ⟨undef, fun _ => False, .inr ⟨hwf hc, rfl⟩, _, _, h, r.putGO hd (.inr ⟨hc, rfl⟩), by rw [hp_putGO], fun b hb => hb.elim⟩
          · exact split4 h
        · rename_i hnp
          obtain ⟨v0, hv0⟩ := aVal_ex hspec (fun x y z h' => hnp x y z h') h
          by_cases hc : a.tmps.getD t undef = .bool want
          · obtain ⟨v, v', X, h1, h2, h3, h4⟩ := aVal_quiet hE r (hgd hc) (o := o) h
            exact ⟨v', X, .inl ⟨hw.2 hc, h1⟩, _, _, h2, r.putGO hd (.inl ⟨hc, h3⟩), by rw [hp_putGO], h4⟩
          · exact ⟨undef, fun _ => False, .inr ⟨hwf hc, rfl⟩, _, _, hv0, r.putGO hd (.inr ⟨hc, rfl⟩), by rw [hp_putGO], fun b hb => hb.elim⟩
      · rename_i hspec
        split at h
        · rename_i f args tys hop
          rw [hop] at hq; cases hq
        · exact split4 h

/-! ### Regions that draw their order -/

def altIs : Sched → List Nat
  | .one i _ _ => [i]
  | .alt i _ _ rest => i :: altIs rest
  | _ => []

def opB (ops : Array Oper) (i : Nat) : Bool := match ops[i]? with | some o => quietB o.op | none => false

/-- The orders are those that there are. -/
def schedB (ops : Array Oper) : Sched → Nat → Bool → Array Bool → Bool
  | .done, _, top, listed => top && (Region.ready md ops listed).isEmpty
  | .q _ _, 0, _, _ => false
  | .q i k, n + 1, top, listed => top && opB ops i && Region.free md ops listed i && (Region.ready md ops listed).contains i && schedB ops k n true (listed.setIfInBounds i true)
  | .one _ _ _, 0, _, _ => false
  | .one i drop k, n + 1, top, listed => (!top || (Region.ready md ops listed).all fun j => j == i) && (Region.ready md ops listed).contains i && drop.all (fun q => waitsT ops ops.size i q) && schedB ops k n true (listed.setIfInBounds i true)
  | .alt _ _ _ _, 0, _, _ => false
  | .alt i drop k rest, n + 1, top, listed => (!top || (Region.ready md ops listed).all fun j => (i :: altIs rest).contains j) && (Region.ready md ops listed).contains i && drop.all (fun q => waitsT ops ops.size i q) && schedB ops k n true (listed.setIfInBounds i true) && schedB ops rest (n + 1) false listed

/-- What is asked of the world is asked of blocks that stood, whose keys are listed. -/
def InvR (𝒞 : Conds) (rs : List (Nat × List Nat)) (φ : Nat → Value) (s : St) (w : World) : Prop :=
  ∀ q S, 𝒞 q S → ∃ ks, ∃ X : Nat → Prop, (q, ks) ∈ rs ∧ (∀ w₂, (∀ b, X b → w₂.heap[b]? = w.heap[b]?) → S w₂) ∧ ∀ b, X b → b < w.heap.size ∧ ∀ k b', lk s.hp k = some b' → b'.active = true → blockOf (φ k) = some b → k ∈ ks

theorem mem_dropR {drop : List Nat} {rs : List (Nat × List Nat)} {q : Nat} {ks : List Nat} (h : (q, ks) ∈ rs) (hn : q ∉ drop) : (q, ks) ∈ dropR drop rs := by
  induction rs with
  | nil => cases h
  | cons p r ih =>
    obtain ⟨q', ks'⟩ := p
    simp only [dropR]
    split
    · rename_i hm
      rw [mem_iff] at hm
      rcases List.mem_cons.1 h with h | h
      · simp at h; obtain ⟨rfl, _⟩ := h; exact (hn hm).elim
      · exact ih h
    · rcases List.mem_cons.1 h with h | h
      · rw [h]; exact List.mem_cons_self
      · exact List.mem_cons_of_mem _ (ih h)

theorem disjL_spec {ks l : List Nat} (h : disjL ks l = true) : ∀ k ∈ ks, k ∉ l := by
  induction ks with
  | nil => intro k hk; cases hk
  | cons x r ih =>
    intro k hk hl
    simp only [disjL] at h
    split at h
    · cases h
    · rename_i hm
      rcases List.mem_cons.1 hk with rfl | hk
      · rw [← mem_iff] at hl; rw [hl] at hm; cases hm
      · exact ih h k hk hl
theorem disj_spec {ks : List Nat} {rs : List (Nat × List Nat)} (h : disj ks rs = true) : ∀ q l, (q, l) ∈ rs → ∀ k ∈ ks, k ∉ l := by
  induction rs with
  | nil => intro q l hm; cases hm
  | cons p r ih =>
    obtain ⟨q', l'⟩ := p
    intro q l hm
    simp only [disj] at h
    split at h
    · rename_i h1
      rcases List.mem_cons.1 hm with hm | hm
      · simp at hm; obtain ⟨rfl, rfl⟩ := hm; exact disjL_spec h1
      · exact ih h q l hm
    · cases h

/-- Behind an operation that was carried out. -/
theorem InvR.step {ops : Array Oper} {i : Nat} {𝒞 : Conds} {rs : List (Nat × List Nat)} {drop ks : List Nat} {φ φ' : Nat → Value} {s s' : St} {w w' : World} (h : InvR 𝒞 rs φ s w) (hdrop : ∀ q ∈ drop, Waits ops i q)
    (hd : disj ks (dropR drop rs) = true) (hF : Frm ks φ s w φ' s' w') : InvR (𝒞.past ops i) (dropR drop rs) φ' s' w' ∧ ∀ q S, 𝒞.past ops i q S → S w' := by
  have key : ∀ q S, 𝒞.past ops i q S → ∃ l, ∃ X : Nat → Prop, (q, l) ∈ dropR drop rs ∧ (∀ w₂, (∀ b, X b → w₂.heap[b]? = w.heap[b]?) → S w₂) ∧ (∀ b, X b → b < w.heap.size ∧ ∀ k b', lk s.hp k = some b' → b'.active = true → blockOf (φ k) = some b → k ∈ l) ∧
      ∀ b, X b → w'.heap[b]? = w.heap[b]? := by
    intro q S hq
    obtain ⟨l, X, h1, h2, h3⟩ := h q S hq.1
    have hm := mem_dropR h1 (fun hm => hq.2 (hdrop q hm))
    refine ⟨l, X, hm, h2, h3, fun b hb => hF.same b (h3 b hb).1 fun k b' hk hb' ha he => ?_⟩
    exact disj_spec hd q l hm k hk ((h3 b hb).2 k b' hb' ha he)
  refine ⟨fun q S hq => ?_, fun q S hq => ?_⟩
  · obtain ⟨l, X, h1, h2, h3, h4⟩ := key q S hq
    refine ⟨l, X, h1, fun w₂ hw => h2 w₂ fun b hb => (hw b hb).trans (h4 b hb), fun b hb => ⟨Nat.lt_of_lt_of_le (h3 b hb).1 hF.size, fun k b' hk ha he => ?_⟩⟩
    obtain ⟨k0, b0, e1, e2, e3, e4⟩ := hF.own k b' b hk ha he (h3 b hb).1
    have hl := (h3 b hb).2 k0 b0 e1 e2 e3
    rcases e4 with rfl | e4
    · exact hl
    · exact (disj_spec hd q l h1 k0 e4 hl).elim
  · obtain ⟨l, X, h1, h2, h3, h4⟩ := key q S hq
    exact h2 w' h4

/-- One that comes up. -/
theorem aOne_sound (hE : EnvOk P E) (hC : CallsOk P Z.gl C) (hI : IOk P Z.gl I) {ops : Array Oper} (hd : ∀ (i : Nat) (o : Oper), ops[i]? = some o → ∀ k, o.dst = some k → k < N) {Q : Exit → Act → World → Prop} {K : St → Prop}
    {i : Nat} {drop : List Nat} {k : Sched} {listed : Array Bool} {𝒞 : Conds} {rs : List (Nat × List Nat)} {ok : Nat → Prop} {φ : Nat → Value} {s : St} {a : Act} {w : World} (hdn : Down ops listed) (hinv : InvR 𝒞 rs φ s w) (r : Rel B0 bx W0 ok0 Z N ok φ s a w)
    (h : (match nth ops.toList i with
      | none => False
      | some o => aStep E C I ops.toList o s fun ks s => match disj ks (dropR drop rs) with | true => aAny E C I ops.toList K k (dropR drop rs) s | false => False))
    (n : Nat) (ih : ∀ (𝒞 : Conds) (rs : List (Nat × List Nat)) (ok : Nat → Prop) (φ : Nat → Value) (s : St) (a : Act) (w : World), Down ops (listed.setIfInBounds i true) → InvR 𝒞 rs φ s w →
      Rel B0 bx W0 ok0 Z N ok φ s a w → aAny E C I ops.toList K k rs s → wpAnyM P ops Q n 𝒞 (listed.setIfInBounds i true) a w)
    (hdrop : ∀ q ∈ drop, Waits ops i q) (hready : i ∈ Region.ready md ops listed) :
    wpOp P ops Q i (fun a' w' => (∀ q S, 𝒞.past ops i q S → S w') ∧ wpAnyM P ops Q n (𝒞.past ops i) (listed.setIfInBounds i true) a' w') a w := by
  split at h
  · exact h.elim
  rename_i o ho
  rw [nth_get] at ho
  have ho : ops[i]? = some o := by simpa using ho
  have hnext : ∀ v' w', After B0 bx W0 ok0 Z N o a φ s w (fun ks s => match disj ks (dropR drop rs) with | true => aAny E C I ops.toList K k (dropR drop rs) s | false => False) v' w' →
      (∀ q S, 𝒞.past ops i q S → S w') ∧ wpAnyM P ops Q n (𝒞.past ops i) (listed.setIfInBounds i true) (a.put o.dst v') w' := fun v' w' ⟨ks, s', ok', φ', h1, h2, h3⟩ => by
    dsimp only at h1
    split at h1
    · rename_i hdis
      obtain ⟨i1, i2⟩ := hinv.step hdrop hdis h3
      exact ⟨i2, ih _ _ ok' φ' s' _ w' (hdn.add hready) i1 h2 h1⟩
    · exact h1.elim
  unfold wpOp
  rw [ho]
  simp only
  rcases aStep_sound hE hC hI (hd i o ho) r h with ⟨hw, hrun⟩ | ⟨hw, hrun⟩
  · rw [if_pos hw]
    exact .inl (hrun.wp hnext)
  · rw [if_neg (by rw [hw]; simp)]
    exact hnext _ _ hrun

theorem Rd.drew {ok : Nat → Prop} {w : World} {v : Value} {d : D} (h : Rd ok w v d) (n : Nat) : Rd ok { w with drawn := n } v d := h.mono (fun _ h => h) (fun _ _ => rfl)

theorem Rel.drew {ok : Nat → Prop} {φ : Nat → Value} {s : St} {a : Act} {w : World} (r : Rel B0 bx W0 ok0 Z N ok φ s a w) : Rel B0 bx W0 ok0 Z N ok φ s a { w with drawn := w.drawn + 1 } := by
  have := r.step (w' := { w with drawn := w.drawn + 1 }) (φ' := φ) (ok' := ok) (hp' := s.hp) (fun _ => False) (fun _ h => h.elim) (fun _ h => h) (fun _ _ => rfl) (fun _ _ _ => rfl) (fun k _ => Sim.refl _ k)
    (fun k b hb => (r.hp k b hb).keep (fun _ => False) (fun _ _ h => h.elim) (fun _ h => h) (fun _ _ => rfl) (fun _ _ _ => rfl) (fun k _ => Sim.refl _ k) (fun _ _ _ => rfl)) r.act r.inj r.one r.okl r.oks ⟨rfl, rfl, rfl, Nat.le_refl _, fun _ _ _ => rfl⟩
  exact this

theorem aAny_sound (hE : EnvOk P E) (hC : CallsOk P Z.gl C) (hI : IOk P Z.gl I) {ops : Array Oper} (hsel : Region.noSelect ops = true) (hd : ∀ (i : Nat) (o : Oper), ops[i]? = some o → ∀ k, o.dst = some k → k < N) {Q : Exit → Act → World → Prop} {K : St → Prop}
    (hQ : ∀ ok φ s a w, Rel B0 bx W0 ok0 Z N ok φ s a w → K s → Q .normal a w) (hQp : ∀ c a w, ¬ Q (.panic c) a w) :
    ∀ (sch : Sched) (n : Nat) (listed : Array Bool) (𝒞 : Conds) (rs : List (Nat × List Nat)) (ok : Nat → Prop) (φ : Nat → Value) (s : St) (a : Act) (w : World), Down ops listed → InvR 𝒞 rs φ s w →
      Rel B0 bx W0 ok0 Z N ok φ s a w → aAny E C I ops.toList K sch rs s →
      (schedB ops sch n true listed = true → wpAnyM P ops Q n 𝒞 listed a w) ∧
      (schedB ops sch n false listed = true → ∃ m, n = m + 1 ∧ ∀ i ∈ altIs sch, i ∈ Region.ready md ops listed → wpOp P ops Q i (fun a' w' => (∀ q S, 𝒞.past ops i q S → S w') ∧ wpAnyM P ops Q m (𝒞.past ops i) (listed.setIfInBounds i true) a' w') a w) := by
  intro sch
  induction sch with
  | done =>
    intro n listed 𝒞 rs ok φ s a w hdn hinv r h
    refine ⟨fun hs => ?_, fun hs => by simp [schedB] at hs⟩
    simp only [schedB, Bool.true_and, List.isEmpty_iff] at hs
    exact wpAnyM_done hs (hQ ok φ s a w r h) n
  | q i k ih =>
    intro n listed 𝒞 rs ok φ s a w hdn hinv r h
    cases n with
    | zero => exact ⟨fun hs => by simp [schedB] at hs, fun hs => by simp [schedB] at hs⟩
    | succ n =>
      refine ⟨fun hs => ?_, fun hs => by simp [schedB] at hs⟩
      simp only [schedB, Bool.true_and, Bool.and_eq_true] at hs
      obtain ⟨⟨⟨hq, hf⟩, hr⟩, hk⟩ := hs
      simp only [aAny] at h
      split at h
      · exact h.elim
      rename_i o ho
      rw [nth_get] at ho
      have ho : ops[i]? = some o := by simpa using ho
      have hq : quietB o.op = true := by unfold opB at hq; rw [ho] at hq; exact hq
      obtain ⟨v', X, hy, ks, s', h1, h2, h3, h4⟩ := aStep_quiet hE (hd i o ho) hq r h
      have hready : i ∈ Region.ready md ops listed := by simpa using hr
      refine wpAnyM_first (S := fun w₂ => ∀ b, X b → w₂.heap[b]? = w.heap[b]?) ho (Region.noSelect_spec hsel) hQp n 𝒞 listed a w hdn (Region.free_spec ho hf) hready hy (fun _ _ => rfl) (fun q T hq' => ?_) ?_
      · obtain ⟨_, _, _, e, _⟩ := hinv q T hq'
        exact e w fun _ _ => rfl
      · refine (ih n _ _ ((i, ks) :: rs) ok φ s' _ w (hdn.add hready) (fun q T hq' => ?_) h2 h1).1 hk
        rcases hq' with hq' | ⟨rfl, rfl⟩
        · obtain ⟨l, Y, e1, e2, e3⟩ := hinv q T hq'
          exact ⟨l, Y, List.mem_cons_of_mem _ e1, e2, by rw [h3]; exact e3⟩
        · exact ⟨ks, X, List.mem_cons_self, fun w₂ hw => hw, by rw [h3]; exact h4⟩
  | one i drop k ih =>
    intro n listed 𝒞 rs ok φ s a w hdn hinv r h
    cases n with
    | zero => exact ⟨fun hs => by simp [schedB] at hs, fun hs => by simp [schedB] at hs⟩
    | succ n =>
      have step := fun hk => aOne_sound (Q := Q) (K := K) (drop := drop) (k := k) hE hC hI hd hdn hinv r h n (fun 𝒞 rs ok φ s a w h1 h2 h3 h4 => (ih n _ 𝒞 rs ok φ s a w h1 h2 h3 h4).1 hk)
      refine ⟨fun hs => ?_, fun hs => ⟨n, rfl, fun j hj hready => ?_⟩⟩
      · simp only [schedB, Bool.not_true, Bool.false_or, Bool.and_eq_true, List.all_eq_true, beq_iff_eq] at hs
        obtain ⟨⟨⟨h1, h0⟩, h2⟩, h3⟩ := hs
        refine ⟨fun he => ?_, fun j hj => ?_⟩
        · rw [he] at h0; simp at h0
        · have := h1 j hj
          subst this
          exact step h3 (fun q hq => ⟨_, h2 q hq⟩) hj
      · simp only [schedB, Bool.not_false, Bool.true_or, Bool.true_and, Bool.and_eq_true, List.all_eq_true] at hs
        simp only [altIs, List.mem_singleton] at hj
        subst hj
        exact step hs.2 (fun q hq => ⟨_, hs.1.2 q hq⟩) hready
  | alt i drop k rest ih1 ih2 =>
    intro n listed 𝒞 rs ok φ s a w hdn hinv r h
    cases n with
    | zero => exact ⟨fun hs => by simp [schedB] at hs, fun hs => by simp [schedB] at hs⟩
    | succ n =>
      have step := fun hk => aOne_sound (Q := Q) (K := K) (drop := drop) (k := k) hE hC hI hd hdn hinv r h.1 n (fun 𝒞 rs ok φ s a w h1 h2 h3 h4 => (ih1 n _ 𝒞 rs ok φ s a w h1 h2 h3 h4).1 hk)
      have all : schedB ops k n true (listed.setIfInBounds i true) = true → (∀ q ∈ drop, waitsT ops ops.size i q = true) → schedB ops rest (n + 1) false listed = true → ∀ j ∈ i :: altIs rest, j ∈ Region.ready md ops listed →
          wpOp P ops Q j (fun a' w' => (∀ q S, 𝒞.past ops j q S → S w') ∧ wpAnyM P ops Q n (𝒞.past ops j) (listed.setIfInBounds j true) a' w') a w := by
        intro h1 h2 h3 j hj hready
        rcases List.mem_cons.1 hj with rfl | hj
        · exact step h1 (fun q hq => ⟨_, h2 q hq⟩) hready
        · obtain ⟨m, hm, hall⟩ := (ih2 (n + 1) listed 𝒞 rs ok φ s a w hdn hinv r h.2).2 h3
          simp only [Nat.add_right_cancel_iff] at hm
          subst hm
          exact hall j hj hready
      refine ⟨fun hs => ?_, fun hs => ⟨n, rfl, fun j hj hready => ?_⟩⟩
      · simp only [schedB, Bool.not_true, Bool.false_or, Bool.and_eq_true, List.all_eq_true] at hs
        obtain ⟨⟨⟨⟨h1, h0⟩, h2⟩, h3⟩, h4⟩ := hs
        refine ⟨fun he => ?_, fun j hj => ?_⟩
        · rw [he] at h0; simp at h0
        · exact all h3 h2 h4 j (by have := h1 j hj; rw [List.contains_iff_mem] at this; exact this) hj
      · simp only [schedB, Bool.not_false, Bool.true_or, Bool.true_and, Bool.and_eq_true, List.all_eq_true] at hs
        exact all hs.1.2 hs.1.1.2 hs.2 j hj hready

/-- A region that draws its order. -/
theorem region_any (hE : EnvOk P E) (hC : CallsOk P Z.gl C) (hI : IOk P Z.gl I) (hm : P.follows .mixedOrders = true) {ops : Array Oper} (hsel : Region.noSelect ops = true) (hd : ∀ (i : Nat) (o : Oper), ops[i]? = some o → ∀ k, o.dst = some k → k < N) {Q : Exit → Act → World → Prop} {K : St → Prop}
    (hQ : ∀ ok φ s a w, Rel B0 bx W0 ok0 Z N ok φ s a w → K s → Q .normal a w) (hQp : ∀ c a w, ¬ Q (.panic c) a w) {sch : Sched} (hs : schedB ops sch ops.size true (Array.replicate ops.size false) = true)
    {ok : Nat → Prop} {φ : Nat → Value} {s : St} {a : Act} {w : World} (r : Rel B0 bx W0 ok0 Z N ok φ s a w) (h : aAny E C I ops.toList K sch [] s) (t : Nat) : wpOps P ops Q (Region.schedule (P.follows .mixedOrders) ops t) a { w with drawn := w.drawn + 1 } := by
  have r' : Rel B0 bx W0 ok0 Z N ok φ s a { w with drawn := w.drawn + 1 } := r.drew
  simp only [Region.schedule, hm, Bool.true_or, if_true]
  exact wpAny_sound ops.size t _ a _ (wpAnyM_any _ (fun _ _ => False) _ _ _ ((aAny_sound hE hC hI hsel hd hQ hQp sch ops.size _ _ [] ok φ s a _ (down_nil _) (fun q S h => h.elim) r' h).1 hs))

end Go.Dm
