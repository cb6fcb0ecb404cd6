/- slices.Grow at nil: an own slice with nothing in it, and room. -/
import Derived.Test.YtckihdaalmgbiaaGreatDoorDm25
namespace Go.Dm

variable {P : Program} {E : Env}
variable {B0 : Nat} {bx : List Nat} {W0 : World} {ok0 : Nat → Prop} {Z : Zr} {N : Nat}
variable {ok : Nat → Prop} {φ : Nat → Value} {s : St} {a : Act} {w : World}

/-- A new row in a world that has grown is an own slice. -/
theorem own_new (r : Rel B0 bx W0 ok0 Z N ok φ s a w) {key : Nat} (hk : lk s.hp key = none) {e sz : Nat} (hpos : 0 < sz) {v' : Value} {w' : World} {es : List (List D)} {news : List Value}
    (hown : w'.ownsRow w.heap.size e sz v' es.length news) (hgr : w.grownBy w' none) (hblk : ∀ g, blockOf v' = some g → g = w.heap.size ∧ g < w'.heap.size) (hall : ∀ c ∈ es, c.length = sz)
    (hrd : ∀ i j, i < es.length → j < sz → Rd ok w (news.getD (i * sz + j) undef) ((es.getD i []).getD j default)) :
    Rel B0 bx W0 ok0 Z N ok (updF φ key v') (s.setB key (.lst e sz es)) a w' ∧ VR ok (updF φ key v') (s.setB key (.lst e sz es)).hp w' (.own key) v' ∧ Frm [] φ s w (updF φ key v') (s.setB key (.lst e sz es)) w' := by
  have hgr' : ∀ b, b < w.heap.size → w'.heap[b]? = w.heap[b]? := fun b hb => hgr.block b hb (by simp)
  have hv1 : v'.oneCell' = true := by
    rcases hown.2 with ⟨rfl, _⟩ | ⟨g, cap, cur, rfl, _⟩ <;> rfl
  have h2 : ∀ b, ok b → w'.heap[b]? = w.heap[b]? := fun b hb => hgr' b (r.okl b hb)
  have h3 : ∀ k, ¬ False → lk s.hp k ≠ none → updF φ key v' k = φ k := fun k _ hn => by simp only [updF]; rw [if_neg (by rintro rfl; exact hn hk)]
  have h4 : ∀ k, ¬ False → Sim s.hp (pt s.hp key (.lst e sz es)) k := fun k _ => by
    unfold Sim
    rw [lk_pt]
    by_cases h : key = k
    · subst h; rw [hk]; trivial
    · rw [if_neg h]; exact Sim.refl s.hp k
  refine ⟨?_, .own (sz := sz) (es := es) (.inl ⟨e, by simp [St.setB, lk_pt]⟩) (by simp [updF]), ⟨hgr.size, fun g hg _ => hgr' g hg, fun k b' g hb ha hg hlt => ?_⟩⟩
  rotate_left
  · simp only [St.setB] at hb
    rw [lk_pt] at hb
    by_cases e : key = k
    · subst e
      simp only [updF, if_true] at hg
      have := hblk g hg; omega
    · rw [if_neg e] at hb
      simp only [updF, if_neg (Ne.symm e)] at hg
      exact ⟨k, b', hb, ha, hg, .inl rfl⟩
  refine r.step (fun _ => False) (fun _ h => h.elim) (fun _ h => h) h2 h3 h4 (fun k b' hb => ?_) (fun k b' g hb ha hg => ?_) (fun k k' b1 b2 g hne hb1 hb2 ha1 ha2 hg1 hg2 => ?_) (fun k => ?_) (fun b hb => Nat.lt_of_lt_of_le (r.okl b hb) hgr.size) r.oks ?_
  · rw [lk_pt] at hb
    by_cases h : key = k
    · subst h
      rw [if_pos rfl] at hb
      simp only [Option.some.injEq] at hb; subst hb
      simp only [updF, if_true]
      refine ⟨hpos, hall, news, ⟨hown.1, ?_⟩, fun i j hi hj => (hrd i j hi hj).mono (fun _ h => h) h2⟩
      rcases hown.2 with hnil | ⟨g, cap, cur, rfl, hb, rest⟩
      · exact .inl hnil
      · exact .inr ⟨g, cap, cur, rfl, Nat.le_trans r.b0 hb, rest⟩
    · rw [if_neg h] at hb
      have : updF φ key v' k = φ k := by simp [updF, Ne.symm h]
      rw [this]
      exact (r.hp k b' hb).keep (fun _ => False) (fun _ _ h => h.elim) (fun _ h => h) h2 h3 h4 (fun ha g hg => hgr' g ((r.hp k b' hb).block_lt ha hg))
  · rw [lk_pt] at hb
    by_cases h : key = k
    · subst h
      simp only [updF, if_true] at hg
      have := hblk g hg
      exact ⟨fun hok => by have := r.okl _ hok; omega, .inl (by have := r.b0; omega)⟩
    · rw [if_neg h] at hb
      simp only [updF, if_neg (Ne.symm h)] at hg
      exact r.act k b' g hb ha hg
  · rw [lk_pt] at hb1 hb2
    by_cases h : key = k
    · subst h
      rw [if_neg hne] at hb2
      simp only [updF, if_true] at hg1
      simp only [updF, if_neg (Ne.symm hne)] at hg2
      have := hblk g hg1
      have := (r.hp k' b2 hb2).block_lt ha2 hg2
      omega
    · rw [if_neg h] at hb1
      simp only [updF, if_neg (Ne.symm h)] at hg1
      by_cases h' : key = k'
      · subst h'
        simp only [updF, if_true] at hg2
        have := hblk g hg2
        have := (r.hp k b1 hb1).block_lt ha1 hg1
        omega
      · rw [if_neg h'] at hb2
        simp only [updF, if_neg (Ne.symm h')] at hg2
        exact r.inj k k' b1 b2 g hne hb1 hb2 ha1 ha2 hg1 hg2
  · simp only [updF]; split
    · exact hv1
    · exact r.one k
  · exact ⟨hgr.os, hgr.tape, hgr.output, hgr.size, fun k hk _ => hgr' k (Nat.lt_of_lt_of_le hk r.b0)⟩

/-- slices.Grow of nil, walked in place. -/
def growI (I : Nat → List V → List V → St → (V → St → Prop) → Prop) (g e sz by_ key : Nat) (f : Nat) (args caps : List V) (s : St) (K : V → St → Prop) : Prop :=
  match Nat.beq f g with
  | true =>
    (match args, caps with
     | [.nil, .d (.v (.int .i64 n))], [] => 0 ≤ n ∧ n * by_ ≤ 140737488355328 ∧ n ≤ 4611686018427387904 ∧ (n = 0 → K .nil s) ∧ (n ≠ 0 → K (.own (freshK s.hp key)) (s.setB (freshK s.hp key) (.lst e sz [])))
     | _, _ => False)
  | false => I f args caps s K

theorem nextKey_lt : ∀ {hp : List (Nat × B)} {n : Nat}, (∀ k b, lk hp k = some b → k < nextKey hp n) ∧ n ≤ nextKey hp n
  | [], n => ⟨fun k b h => (by simp [lk] at h), Nat.le_refl _⟩
  | (a, x) :: r, n => by
    have ih := fun m => nextKey_lt (hp := r) (n := m)
    simp only [nextKey]
    split
    · rename_i h
      have h := Nat.le_of_ble_eq_true h
      refine ⟨fun k b hb => ?_, Nat.le_trans (Nat.le_succ_of_le h) (ih _).2⟩
      simp only [lk] at hb
      split at hb
      · rename_i e
        have := Nat.eq_of_beq_eq_true e
        subst this
        exact (ih _).2
      · exact (ih _).1 k b hb
    · rename_i h
      have h : ¬ n ≤ a := fun hle => by rw [Nat.ble_eq_true_of_le hle] at h; cases h
      refine ⟨fun k b hb => ?_, (ih _).2⟩
      simp only [lk] at hb
      split at hb
      · rename_i e
        have := Nat.eq_of_beq_eq_true e
        subst this
        exact Nat.lt_of_lt_of_le (Nat.lt_of_not_le h) (ih _).2
      · exact (ih _).1 k b hb
theorem freshK_none (hp : List (Nat × B)) (k : Nat) : lk hp (freshK hp k) = none := by
  unfold freshK
  split
  · assumption
  · cases h : lk hp (nextKey hp k) with
    | none => rfl
    | some b => exact absurd ((nextKey_lt (hp := hp) (n := k)).1 _ b h) (Nat.lt_irrefl _)

theorem growI_ok {gl : Nat → Option Obj} {I : Nat → List V → List V → St → (V → St → Prop) → Prop} (hI : IOk P gl I) {g e sz by_ key : Nat} (hpos : 0 < sz) (hf : FnOk P g)
    (h0 : ∀ w, Calls P g #[.slice none 0 0, .int .i64 (0 : Nat)] w fun e w' => e = .returned (.slice none 0 0) ∧ w' = w)
    (hn : ∀ (n : Nat) (w : World), 0 < n → n * by_ ≤ 140737488355328 → n ≤ 4611686018427387904 → Calls P g #[.slice none 0 0, .int .i64 n] w fun en w' => ∃ cap cells, n ≤ cap ∧ cap ≤ maxLen ∧ cells.size = cap * sz ∧
      en = .returned (.slice (some ⟨w.heap.size, 0, none⟩) 0 cap) ∧ w' = w.drew.alloc (.cells cells e)) : IOk P gl (growI I g e sz by_ key) := by
  intro B0 bx W0 ok0 Z N ok φ s a w f args caps K vs cs hgl r h hl hv hlc hc
  unfold growI at h
  split at h
  rotate_left
  · exact hI B0 bx W0 ok0 Z N ok φ s a w f args caps K vs cs hgl r h hl hv hlc hc
  rename_i hb
  have := Nat.eq_of_beq_eq_true hb
  subst this
  split at h
  rotate_left
  · exact h.elim
  rename_i n
  obtain ⟨h1, h2, h3, h4, h5⟩ := h
  refine ⟨hf, ?_⟩
  obtain ⟨x, y, rfl⟩ : ∃ x y, vs = [x, y] := by
    match vs, hl with
    | [x, y], _ => exact ⟨x, y, rfl⟩
  have : cs = [] := List.eq_nil_of_length_eq_zero (by simpa using hlc)
  subst this
  have hx := hv 0 _ x rfl rfl
  have hy := hv 1 _ y rfl rfl
  cases hx
  cases hy; rename_i hy
  cases hy
  obtain ⟨m, rfl⟩ := Int.eq_ofNat_of_zero_le h1
  have harr : ([Value.slice none 0 0, Value.int .i64 (m : Int)] ++ []).toArray = #[.slice none 0 0, .int .i64 (m : Int)] := rfl
  rw [harr]
  by_cases hm : m = 0
  · subst hm
    refine (h0 w).mono fun en w' ⟨e1, e2⟩ => ?_
    subst e2
    exact ⟨_, e1, .nil, s, ok, φ, h4 rfl, r, .nil, Frm.same_hp rfl⟩
  · refine (hn m w (by omega) (by rw [← Int.natCast_mul] at h2; omega) (by omega)).mono fun en w' ⟨cap, cells, e1, e2, e3, e4, e5⟩ => ?_
    subst e5
    obtain ⟨f1, f2, f3⟩ := own_new r (freshK_none s.hp key) (e := e) (sz := sz) hpos (v' := .slice (some ⟨w.heap.size, 0, none⟩) 0 cap) (w' := w.drew.alloc (.cells cells e)) (es := []) (news := [])
      ⟨by simp, .inr ⟨w.heap.size, cap, cells, rfl, Nat.le_refl _, heap_alloc_new w.drew _, Nat.zero_le _, e2, e3, by simp⟩⟩ ⟨rfl, rfl, rfl, by simp, fun k hk _ => heap_alloc_old w.drew _ k hk⟩
      (fun g hg => by simp [blockOf] at hg; subst hg; exact ⟨rfl, by simp⟩) (by simp) (by simp)
    exact ⟨_, e4, .own _, _, ok, _, h5 (by omega), f1, f2, f3.mono (by intro k hk; cases hk)⟩

/-- What is told of a type. -/
def tiAt (te : List (Nat × TI)) (t : Nat) : TI := match lk te t with | some x => x | none => default
end Go.Dm
/- Lists of lists, as slices of slices. -/
namespace Go.Ex
open Go.Dm
/-- Slices as elements of a slice. -/
def encL2 (ls : List (List (List D))) : List (List D) := ls.map fun l => [.sl l]
def tot (ls : List (List (List D))) : Nat := (ls.map List.length).sum
/-- Not too much. -/
def okTot (ls : List (List (List D))) (b : Nat) : Prop := ls.length ≤ 1353245080300 ∧ tot ls * b ≤ 140737488355328 ∧ tot ls ≤ 140737488355328
theorem encL2_len (ls : List (List (List D))) : (encL2 ls).length = ls.length := by simp [encL2]
theorem encL2_get {ls : List (List (List D))} {i : Nat} (h : i < ls.length) : (encL2 ls)[i]? = some [.sl ls[i]] := by simp [encL2, h]
theorem take_succ_get {α : Type} (l : List α) {i : Nat} (h : i < l.length) : l.take (i + 1) = l.take i ++ [l[i]] := by rw [List.take_add_one, List.getElem?_eq_getElem h]; rfl
theorem tot_next {ls : List (List (List D))} {i : Nat} (h : i < ls.length) : tot (ls.take (i + 1)) = tot (ls.take i) + ls[i].length := by
  simp only [tot, take_succ_get ls h, List.map_append, List.sum_append, List.map_cons, List.map_nil, List.sum_cons, List.sum_nil, Nat.add_zero]
theorem tot_le (ls : List (List (List D))) (i : Nat) : tot (ls.take i) ≤ tot ls := by
  have : tot ls = tot (ls.take i) + tot (ls.drop i) := by
    simp only [tot]
    rw [← List.sum_append, ← List.map_append, List.take_append_drop]
  omega
theorem flat_next {ls : List (List (List D))} {i : Nat} (h : i < ls.length) : (ls.take (i + 1)).flatten = (ls.take i).flatten ++ ls[i] := by
  rw [take_succ_get ls h, List.flatten_append, List.flatten_cons, List.flatten_nil, List.append_nil]
theorem flat_len (ls : List (List (List D))) : ls.flatten.length = tot ls := by simp [tot, List.length_flatten]
theorem wrap64_of {n : Int} (h0 : -9223372036854775808 ≤ n) (h1 : n < 9223372036854775808) : IntKind.i64.wrap n = n := by
  simp [IntKind.wrap, IntKind.signed, IntKind.bits]
  split <;> omega
end Go.Ex
