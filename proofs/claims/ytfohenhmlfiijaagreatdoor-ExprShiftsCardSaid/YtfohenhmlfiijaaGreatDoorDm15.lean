/- The operations of a region. -/
import Derived.Test.YtfohenhmlfiijaaGreatDoorDm14
namespace Go.Dm

variable {P : Program} {E : Env} {C : CallT} {I : Nat → List V → List V → St → (V → St → Prop) → Prop}
variable {B0 : Nat} {bx : List Nat} {W0 : World} {ok0 : Nat → Prop} {Z : Zr} {N : Nat}
variable {ok : Nat → Prop} {φ : Nat → Value} {s : St} {a : Act} {w : World}

theorem run_pick {x y c : Operand} {b : Bool} (h : a.eval c = .bool b) (w : World) :
    (do pure (.value (if ← asBool (a.eval c) then a.eval x else a.eval y)) : Sem Next).run P w = .ok (.value (if b then a.eval x else a.eval y)) w := by
  simp only [h, asBool, Sem.run_bind, Sem.run_pure, Result.andThen_ok]

theorem aOp_sound (hE : EnvOk P E) (hC : CallsOk P Z.gl C) (hI : IOk P Z.gl I) (r : Rel B0 bx W0 ok0 Z N ok φ s a w) {g : List (Nat × Bool)} (hg : Holds a g) {o : Oper} {K : V → St → Prop} (h : aOp E C I s g o K) :
    OpRun P (execOp a.eval o) w (Pst B0 bx W0 ok0 Z N a (Frm (opKeys E s g o.op) φ s w) K) := by
  unfold aOp at h
  split at h
  · rename_i c x y hop
    obtain ⟨b, hb, v, s', h1, h2, h3, h4⟩ := aPick_sound r hg h
    refine OpRun.of_run (v := if b then a.eval x else a.eval y) (w' := w) ?_ ⟨v, s', ok, φ, h1, h2, h3, Frm.same_hp h4⟩
    unfold execOp
    rw [hop]
    exact run_pick hb w
  all_goals first | exact aHeap_sound hE hC hI r hg h | exact opRun_val hE r hg h

def quietB : Op → Bool
  | .alloc .. | .box .. | .store .. | .buildSlice .. | .makeSlice .. => false
  | .call { callee := .builtin .append, .. } => false
  | .call { callee := .value _, .. } => false
  | _ => true

/-- Whose block is read. -/
theorem load_own (r : Rel B0 bx W0 ok0 Z N ok φ s a w) {ti : TI} (hpos : 0 < ti.ck.length) {c : V} {y : Value} (hv : VR ok φ s.hp w c y) {K : V → Prop} (h : aLoad ti s c K) {b : Nat} (hb : blockOf y = some b) :
    b < w.heap.size ∧ ∀ k b', lk s.hp k = some b' → b'.active = true → blockOf (φ k) = some b → k ∈ addrKey c := by
  have viaOk : ok b → b < w.heap.size ∧ ∀ k b', lk s.hp k = some b' → b'.active = true → blockOf (φ k) = some b → k ∈ addrKey c :=
    fun ho => ⟨r.okl b ho, fun k b' h1 h2 h3 => ((r.act k b' b h1 h2 h3).1 ho).elim⟩
  have viaKey : ∀ j bj, lk s.hp j = some bj → bj.active = true → blockOf (φ j) = some b → j ∈ addrKey c → b < w.heap.size ∧ ∀ k b', lk s.hp k = some b' → b'.active = true → blockOf (φ k) = some b → k ∈ addrKey c := by
    intro j bj h1 h2 h3 h4
    refine ⟨(r.hp j bj h1).block_lt h2 h3, fun k b' h5 h6 h7 => ?_⟩
    by_cases e : j = k
    · subst e; exact h4
    · exact (r.inj j k bj b' b e h1 h5 h2 h6 h3 h7).elim
  cases hv with
  | @ref k off g cs0 hb0 hφ =>
    simp [blockOf] at hb; subst hb
    exact viaKey k _ hb0 rfl (by rw [hφ]; rfl) (by simp [addrKey])
  | @optr k i off g n cap sz es hb' hφ =>
    simp [blockOf] at hb; subst hb
    rcases hb' with ⟨e, hb'⟩ | hb'
    · exact viaKey k _ hb' rfl (by rw [hφ]; rfl) (by simp [addrKey])
    · simp only [aLoad] at h
      rw [hb'] at h
      obtain ⟨cells, hi, _⟩ := h
      obtain ⟨_, _, hrd, _⟩ := r.hp k _ hb'
      rw [hφ] at hrd
      have hlt := (List.getElem?_eq_some_iff.1 hi).1
      cases hrd with
      | nul => simp at hlt
      | sl sz x hcap hok hsz hc hr => exact viaOk (hok (by rintro rfl; simp at hlt))
  | @dptr b' off cs x hok hc hr =>
    simp [blockOf] at hb; subst hb
    simp only [aLoad] at h
    obtain ⟨l, hl, hcut, _⟩ := exK_some h
    obtain ⟨hlen, _⟩ := cut_some hcut
    exact viaOk (hok (by intro hcs; rw [hcs] at hlen; simp only [List.length_nil] at hlen; omega))
  | _ => exact (h : False).elim

/-- What an operation that only reads leaves, in every world that agrees where it reads. -/
theorem aVal_quiet (hE : EnvOk P E) (r : Rel B0 bx W0 ok0 Z N ok φ s a w) {g : List (Nat × Bool)} (hg : Holds a g) {o : Oper} {K : V → Prop} (h : aVal E s g o.op K) :
    ∃ v v', ∃ X : Nat → Prop, (∀ w₂, (∀ b, X b → w₂.heap[b]? = w.heap[b]?) → (execOp a.eval o).run P w₂ = .ok (.value v') w₂) ∧ K v ∧ VR ok φ s.hp w v v' ∧
      ∀ b, X b → b < w.heap.size ∧ ∀ k b', lk s.hp k = some b' → b'.active = true → blockOf (φ k) = some b → k ∈ useKeys E s g o.op := by
  by_cases hl : ∃ t x, o.op = .load t x
  · obtain ⟨t, x, hl⟩ := hl
    obtain ⟨v, v', h1, h2, h3⟩ := aVal_sound hE r hg (o := o) (A := fun w₂ => ∀ b, blockOf (a.eval x) = some b → w₂.heap[b]? = w.heap[b]?) (fun t' x' h' w₂ hw => by rw [hl] at h'; simp at h'; rw [← h'.2]; exact hw) h
    refine ⟨v, v', fun b => blockOf (a.eval x) = some b, h1, h2, h3, fun b hb => ?_⟩
    rw [hl] at h
    simp only [aVal] at h
    split at h
    · rename_i ti hti
      have := load_own r (hE.ti hti).pos (vr_ev r hg x) h hb
      rw [hl]
      exact this
    · exact h.elim
  · obtain ⟨v, v', h1, h2, h3⟩ := aVal_sound hE r hg (o := o) (A := fun _ => True) (fun t x h' => (hl ⟨t, x, h'⟩).elim) h
    exact ⟨v, v', fun _ => False, fun w₂ _ => h1 w₂ trivial, h2, h3, fun b hb => hb.elim⟩

theorem aOp_quiet (hE : EnvOk P E) (r : Rel B0 bx W0 ok0 Z N ok φ s a w) {g : List (Nat × Bool)} (hg : Holds a g) {o : Oper} (hq : quietB o.op = true) {K : V → St → Prop} (h : aOp E C I s g o K) :
    ∃ v v' s', ∃ X : Nat → Prop, (∀ w₂, (∀ b, X b → w₂.heap[b]? = w.heap[b]?) → (execOp a.eval o).run P w₂ = .ok (.value v') w₂) ∧ K v s' ∧ Rel B0 bx W0 ok0 Z N ok φ s' a w ∧ VR ok φ s'.hp w v v' ∧ s'.hp = s.hp ∧
      ∀ b, X b → b < w.heap.size ∧ ∀ k b', lk s.hp k = some b' → b'.active = true → blockOf (φ k) = some b → k ∈ useKeys E s g o.op := by
  unfold aOp at h
  split at h
  · rename_i c x y hop
    obtain ⟨b, hb, v, s', h1, h2, h3, h4⟩ := aPick_sound r hg h
    refine ⟨v, if b then a.eval x else a.eval y, s', fun _ => False, fun w₂ _ => ?_, h1, h2, h3, h4, fun b hb => hb.elim⟩
    unfold execOp
    rw [hop]
    exact run_pick hb w₂
  all_goals first
    | (rename_i hop; rw [hop] at hq; cases hq; done)
    | skip
  · obtain ⟨v, v', X, h1, h2, h3, h4⟩ := aVal_quiet hE r hg h
    exact ⟨v, v', s, X, h1, h2, r, h3, rfl, h4⟩

/-- What is held behind an operation of a region. -/
def After (B0 : Nat) (bx : List Nat) (W0 : World) (ok0 : Nat → Prop) (Z : Zr) (N : Nat) (o : Oper) (a : Act) (φ : Nat → Value) (s : St) (w : World) (next : List Nat → St → Prop) (v' : Value) (w' : World) : Prop :=
  ∃ ks s' ok' φ', next ks s' ∧ Rel B0 bx W0 ok0 Z N ok' φ' s' (a.put o.dst v') w' ∧ Frm ks φ s w φ' s' w'

theorem hp_putO (s : St) (d : Option Nat) (v : V) : (putO s d v).hp = s.hp := by
  cases d with
  | none => rfl
  | some d => cases v <;> rfl
theorem hp_putGO (s : St) (d : Option Nat) (g : Nat × Bool) (v : V) : (putGO s d g v).hp = s.hp := by
  cases d with
  | none => rfl
  | some d => cases v <;> rfl

theorem Frm.hp_eq {T : List Nat} {φ' : Nat → Value} {s0 s' s'' : St} {w' : World} (h : Frm T φ s0 w φ' s' w') (e : s''.hp = s'.hp) : Frm T φ s0 w φ' s'' w' :=
  ⟨h.size, h.same, fun k b' g h1 => h.own k b' g (by rw [← e]; exact h1)⟩
theorem Frm.from_eq {T : List Nat} {φ' : Nat → Value} {s0 s1 s' : St} {w' : World} (h : Frm T φ s1 w φ' s' w') (e : s1.hp = s0.hp) : Frm T φ s0 w φ' s' w' :=
  ⟨h.size, fun g hg hn => h.same g hg (fun k b hk hb => hn k b hk (by rw [← e]; exact hb)), fun k b' g h1 h2 h3 h4 => by
    obtain ⟨k0, b, e1, e2⟩ := h.own k b' g h1 h2 h3 h4
    exact ⟨k0, b, by rw [← e]; exact e1, e2⟩⟩

theorem opKeys_sub (s : St) (g : List (Nat × Bool)) (op : Op) : ∀ k ∈ opKeys E s g op, k ∈ useKeys E s g op := by
  intro k hk
  cases op <;> first | exact hk | (simp [opKeys] at hk)

theorem wanted_iff {ops : Array Oper} {o : Oper} {j t : Nat} {want : Bool} (hg : o.guard = some (j, want)) (ht : guardSlot ops.toList j = some t) (a : Act) :
    Region.wanted o (yielded ops a.tmps) = true ↔ a.tmps.getD t undef = .bool want := by
  have h1 : (ops[j]?).bind (·.dst) = some t := by
    unfold guardSlot at ht
    rw [nth_get] at ht
    simp only [Array.getElem?_toList] at ht
    split at ht
    · rename_i o' ho; rw [ho]; exact ht
    · cases ht
  unfold Region.wanted
  rw [hg]
  simp only [yielded, h1, Option.bind_some]
  rw [Array.getD_eq_getD_getElem?]
  cases he : a.tmps[t]? with
  | none => simp [undef]
  | some v => cases v <;> simp

/-- An operation that is carried out, and its temporary written. -/
theorem run_put (hE : EnvOk P E) (hC : CallsOk P Z.gl C) (hI : IOk P Z.gl I) {o : Oper} (hd : ∀ k, o.dst = some k → k < N) {s1 : St} (r : Rel B0 bx W0 ok0 Z N ok φ s1 a w) (hs1 : s1.hp = s.hp) {g : List (Nat × Bool)} (hg : Holds a g) {next : List Nat → St → Prop}
    (h : aOp E C I s1 g o fun v s' => next (useKeys E s1 g o.op) (putO s' o.dst v)) : OpRun P (execOp a.eval o) w (After B0 bx W0 ok0 Z N o a φ s w next) := by
  refine (aOp_sound hE hC hI r hg h).mono fun v' w' hp => ?_
  obtain ⟨v, s', ok', φ', h1, h2, h3, h4⟩ := hp
  exact ⟨_, _, ok', φ', h1, h2.putO hd h3, ((h4.mono (opKeys_sub s1 g o.op)).hp_eq (hp_putO _ _ _)).from_eq hs1⟩

theorem loadC_ex {ti : TI} {cells : List D} {off : Nat} {K : V → Prop} (h : loadC ti cells off K) : ∃ v, K v := by
  obtain ⟨l, _, _, hk⟩ := exK_some h
  split at hk
  · exact ⟨_, hk⟩
  · exact hk.elim

theorem aInt_ex {op : BinOp} {k : IntKind} {x y : Int} {K : V → Prop} (h : aInt op k x y K) : ∃ v, K v := by
  cases op <;> simp only [aInt] at h <;> first | exact ⟨_, h⟩ | exact ⟨_, h.2⟩ | exact h.elim

theorem aBin_ex {op : BinOp} {t : Nat} {x y : V} {K : V → Prop} (h : aBin E op t x y K) : ∃ v, K v := by
  unfold aBin at h
  split at h
  · split at h
    · exact aInt_ex h
    · exact aInt_ex h
    · exact aInt_ex h
    · exact h.elim
  all_goals (repeat' split at h) <;> first | exact ⟨_, h⟩ | exact ⟨_, h.2⟩ | exact h.elim

theorem aLoad_ex {ti : TI} {c : V} {K : V → Prop} (h : aLoad ti s c K) : ∃ v, K v := by
  unfold aLoad at h
  split at h
  · repeat' split at h
    all_goals first | exact ⟨_, h⟩ | exact h.elim
  · split at h
    · obtain ⟨_, _, h⟩ := h; exact loadC_ex h
    · obtain ⟨_, _, h⟩ := h; exact loadC_ex h
    · exact h.elim
  · exact loadC_ex h
  · exact h.elim

theorem aList_ex {c : V} {K : List (List D) → Prop} (h : aList c s K) : ∃ v, K v := by
  unfold aList at h
  split at h
  · exact ⟨_, h⟩
  · split at h
    · exact ⟨_, h⟩
    · exact ⟨_, h⟩
    · exact h.elim
  · obtain ⟨_, _, h⟩ := h; exact ⟨_, h⟩
  · exact h.elim

theorem aVal_ex {g : List (Nat × Bool)} {op : Op} (hs : specOp op = true) (hp : ∀ x y z, op ≠ .pick x y z) {K : V → Prop} (h : aVal E s g op K) : ∃ v, K v := by
  cases op with
  | pick x y z => exact (hp x y z rfl).elim
  | move x => exact ⟨_, h⟩
  | assign x => exact ⟨_, h⟩
  | load t x => simp only [aVal] at h; split at h; exact aLoad_ex h; exact h.elim
  | binOp op t x y u => exact aBin_ex h
  | nilCheck x => simp only [aVal] at h; split at h <;> first | exact ⟨_, h⟩ | exact h.elim
  | unOp op t x => simp only [aVal] at h; split at h <;> first | exact ⟨_, h⟩ | exact h.elim
  | extract x i => simp only [aVal] at h; (repeat' split at h) <;> first | exact ⟨_, h⟩ | exact h.elim
  | fieldAddr t x f => simp only [aVal] at h; (repeat' split at h) <;> first | exact ⟨_, h⟩ | exact h.elim
  | field t x f => simp only [aVal] at h; (repeat' split at h) <;> first | exact ⟨_, h⟩ | exact h.elim
  | call c =>
    obtain ⟨callee, args, tys⟩ := c
    cases callee with
    | value f => exact (h : False).elim
    | invoke x m => exact (h : False).elim
    | builtin b =>
      cases b <;> first | exact (h : False).elim | (simp only [specOp] at hs; cases hs; done) | skip
      replace h : (match args.toList, tys.toList with
           | [x], [t] =>
             (match ev s g x, E.ti t with
              | .d (.v (.string b)), some { ck := [.str], td := .plain, .. } => K (.d (.v (.int .i64 b.size)))
              | v, some { td := .slice _, .. } => aList v s fun es => K (.d (.v (.int .i64 es.length)))
              | _, _ => False)
           | _, _ => False) := h
      split at h
      · split at h
        · exact ⟨_, h⟩
        · obtain ⟨_, h⟩ := aList_ex h; exact ⟨_, h⟩
        · exact h.elim
      · exact h.elim
  | _ => exact (by simp only [specOp] at hs; cases hs)

theorem aStep_sound (hE : EnvOk P E) (hC : CallsOk P Z.gl C) (hI : IOk P Z.gl I) {ops : Array Oper} {o : Oper} (hd : ∀ k, o.dst = some k → k < N) (r : Rel B0 bx W0 ok0 Z N ok φ s a w) {next : List Nat → St → Prop}
    (h : aStep E C I ops.toList o s next) :
    (Region.wanted o (yielded ops a.tmps) = true ∧ OpRun P (execOp a.eval o) w (After B0 bx W0 ok0 Z N o a φ s w next)) ∨
    (Region.wanted o (yielded ops a.tmps) = false ∧ After B0 bx W0 ok0 Z N o a φ s w next undef w) := by
  unfold aStep at h
  split at h
  · rename_i hg
    exact .inl ⟨by unfold Region.wanted; rw [hg], run_put hE hC hI hd r rfl (fun _ _ h => by cases h) h⟩
  · rename_i j want hg
    split at h
    · exact h.elim
    rename_i t ht
    have hw := wanted_iff hg ht a
    have hwf : a.tmps.getD t undef ≠ .bool want → Region.wanted o (yielded ops a.tmps) = false := fun hn => by
      cases hc : Region.wanted o (yielded ops a.tmps)
      · rfl
      · exact (hn (hw.1 hc)).elim
    have yes : ∀ s1 : St, Rel B0 bx W0 ok0 Z N ok φ s1 a w → s1.hp = s.hp → a.tmps.getD t undef = .bool want → (aOp E C I s1 [(t, want)] o fun v s' => next (useKeys E s1 [(t, want)] o.op) (putO s' o.dst v)) →
        (Region.wanted o (yielded ops a.tmps) = true ∧ OpRun P (execOp a.eval o) w (After B0 bx W0 ok0 Z N o a φ s w next)) ∨
        (Region.wanted o (yielded ops a.tmps) = false ∧ After B0 bx W0 ok0 Z N o a φ s w next undef w) := fun s1 r1 hs1 ht h =>
      .inl ⟨hw.2 ht, run_put hE hC hI hd r1 hs1 (fun u b hm => by simp at hm; obtain ⟨rfl, rfl⟩ := hm; exact ht) h⟩
    have no : ∀ s1 : St, Rel B0 bx W0 ok0 Z N ok φ s1 a w → s1.hp = s.hp → a.tmps.getD t undef ≠ .bool want → next [] (putO s1 o.dst .dead) →
        (Region.wanted o (yielded ops a.tmps) = true ∧ OpRun P (execOp a.eval o) w (After B0 bx W0 ok0 Z N o a φ s w next)) ∨
        (Region.wanted o (yielded ops a.tmps) = false ∧ After B0 bx W0 ok0 Z N o a φ s w next undef w) := fun s1 r1 hs1 ht h =>
      .inr ⟨hwf ht, _, _, ok, φ, h, r1.putO hd (.dead _), Frm.same_hp (by rw [hp_putO, hs1])⟩
    have split4 : splitG 4 s t want (fun s1 => aOp E C I s1 [(t, want)] o fun v s' => next (useKeys E s1 [(t, want)] o.op) (putO s' o.dst v)) (fun s1 => next [] (putO s1 o.dst .dead)) →
        (Region.wanted o (yielded ops a.tmps) = true ∧ OpRun P (execOp a.eval o) w (After B0 bx W0 ok0 Z N o a φ s w next)) ∨
        (Region.wanted o (yielded ops a.tmps) = false ∧ After B0 bx W0 ok0 Z N o a φ s w next undef w) := fun h => by
      rcases splitG_sound 4 r h with ⟨h1, s1, h2, h3, h4⟩ | ⟨h1, s1, h2, h3, h4⟩
      · exact yes s1 h3 h4 h1 h2
      · exact no s1 h3 h4 h1 h2
    split at h
    · rename_i b hb
      have hk := r.kn t b hb
      split at h
      · exact yes s r rfl hk h
      · exact yes s r rfl hk h
      · rename_i h1 h2
        refine no s r rfl ?_ h
        rw [hk]
        cases b <;> cases want <;> simp_all
    · split at h
      · rename_i hspec
        split at h
        · rename_i c x y hop
          split at h
          · rename_i bx' by' bz' h1 h2 h3
            by_cases hc : a.tmps.getD t undef = .bool want
            · refine .inl ⟨hw.2 hc, ?_⟩
              have hgd : Holds a [(t, want)] := fun u b hm => by simp at hm; obtain ⟨rfl, rfl⟩ := hm; exact hc
              have e1 := ev_int r hgd h1
              have hpk : ∀ (b z : Bool) (e : Operand), bx' = b → aStep.evPick s (t, want) c b e = .d (.v (.bool z)) → a.eval e = .bool z := fun b z e hb he => by
                unfold aStep.evPick at he
                split at he
                · rename_i u
                  refine ev_int r (fun u' b' hm => ?_) he
                  rcases List.mem_cons.1 hm with hm | hm
                  · simp at hm; obtain ⟨rfl, rfl⟩ := hm; rw [← hb]; exact e1
                  · exact hgd u' b' hm
                · exact ev_int r hgd he
              refine OpRun.of_run (v := .bool (cond bx' by' bz')) (w' := w) ?_ ⟨_, _, ok, φ, h, r.putGO hd (.inl ⟨hc, vr_bool _⟩), Frm.same_hp (by rw [hp_putGO])⟩
              unfold execOp
              rw [hop]
              have := run_pick (P := P) (x := x) (y := y) e1 w
              refine this.trans ?_
              cases bx'
              · simp [hpk false bz' y rfl h3]
              · simp [hpk true by' x rfl h2]
            · exact .inr ⟨hwf hc, _, _, ok, φ, h, r.putGO hd (.inr ⟨hc, rfl⟩), Frm.same_hp (by rw [hp_putGO])⟩
          · exact split4 h
        · rename_i hnp
          obtain ⟨v0, hv0⟩ := aVal_ex hspec (fun x y z h' => hnp x y z h') h
          by_cases hc : a.tmps.getD t undef = .bool want
          · refine .inl ⟨hw.2 hc, ?_⟩
            have hgd : Holds a [(t, want)] := fun u b hm => by simp at hm; obtain ⟨rfl, rfl⟩ := hm; exact hc
            obtain ⟨v, v', h1, h2, h3⟩ := aVal_sound hE r hgd (o := o) (A := fun w₂ => w₂ = w) (fun _ _ _ w₂ hw _ _ => by rw [hw]) h
            exact OpRun.of_run (h1 w rfl) ⟨_, _, ok, φ, h2, r.putGO hd (.inl ⟨hc, h3⟩), Frm.same_hp (by rw [hp_putGO])⟩
          · exact .inr ⟨hwf hc, _, _, ok, φ, hv0, r.putGO hd (.inr ⟨hc, rfl⟩), Frm.same_hp (by rw [hp_putGO])⟩
      · rename_i hspec
        split at h
        · rename_i f args tys hop
          split at h
          · obtain ⟨hfn, ⟨v0, hv0⟩, hcall⟩ := aCallB_sound hC r h
            by_cases hc : a.tmps.getD t undef = .bool want
            · refine .inl ⟨hw.2 hc, ?_⟩
              have hgd : Holds a [(t, want)] := fun u b hm => by simp at hm; obtain ⟨rfl, rfl⟩ := hm; exact hc
              have hl : (args.map a.eval).toList.length = (evs s [(t, want)] args.toList).length := by rw [evs_length]; simp
              have h2 := hcall (args.map a.eval).toList hl (fun i c x h1 h2 => vr_evs r hgd args.toList i c x h1 (by simpa using h2))
              unfold OpRun execOp
              rw [hop]
              simp only
              rw [run_call_value hfn rfl]
              have e0 : (args.map a.eval).toList.toArray = args.map a.eval ++ #[] := by simp only [Array.toArray_toList, Array.append_empty]
              rw [e0] at h2
              refine h2.mono fun e w'' ⟨v', he, v, hK, hR, hV, hF⟩ => ⟨v', he, _, _, ok, φ, hK, hR.putGO hd (.inl ⟨hc, hV⟩), hF.hp_eq (hp_putGO _ _ _ _)⟩
            · exact .inr ⟨hwf hc, _, _, ok, φ, hv0, r.putGO hd (.inr ⟨hc, rfl⟩), Frm.same_hp (by rw [hp_putGO])⟩
          split at h
          · obtain ⟨hfn, ⟨v0, hv0⟩, hcall⟩ := aCallPure_sound hC r h
            by_cases hc : a.tmps.getD t undef = .bool want
            · refine .inl ⟨hw.2 hc, ?_⟩
              have hgd : Holds a [(t, want)] := fun u b hm => by simp at hm; obtain ⟨rfl, rfl⟩ := hm; exact hc
              have hl : (args.map a.eval).toList.length = (evs s [(t, want)] args.toList).length := by rw [evs_length]; simp
              have h2 := hcall (args.map a.eval).toList hl (fun i c x h1 h2 => vr_evs r hgd args.toList i c x h1 (by simpa using h2))
              unfold OpRun execOp
              rw [hop]
              simp only
              rw [run_call_value hfn rfl]
              have e0 : (args.map a.eval).toList.toArray = args.map a.eval ++ #[] := by simp only [Array.toArray_toList, Array.append_empty]
              rw [e0] at h2
              refine h2.mono fun e w'' ⟨v', he, v, ok', φ', hK, hR, hV, hF⟩ => ⟨v', he, _, _, ok', φ', hK, hR.putGO hd (.inl ⟨hc, hV⟩), hF.hp_eq (hp_putGO _ _ _ _)⟩
            · exact .inr ⟨hwf hc, _, _, ok, φ, hv0, r.putGO hd (.inr ⟨hc, rfl⟩), Frm.same_hp (by rw [hp_putGO])⟩
          · exact split4 h
        · exact split4 h

end Go.Dm
