/- The operations that make or turn own blocks. -/
import Derived.Test.YtfohenhmlfiijaaGreatDoorDm7
import Derived.Maps.AppendAt
namespace Go.Dm

variable {P : Program} {E : Env}
variable {B0 : Nat} {bx : List Nat} {W0 : World} {ok0 : Nat → Prop} {Z : Zr} {N : Nat}
variable {ok : Nat → Prop} {φ : Nat → Value} {s : St} {a : Act} {w : World}

/-- What an operation has turned: nothing that stood but the blocks of the keys T; own blocks that stood are whose they were. -/
structure Frm (T : List Nat) (φ : Nat → Value) (s : St) (w : World) (φ' : Nat → Value) (s' : St) (w' : World) : Prop where
  size : w.heap.size ≤ w'.heap.size
  same : ∀ g, g < w.heap.size → (∀ k b, k ∈ T → lk s.hp k = some b → b.active = true → blockOf (φ k) ≠ some g) → w'.heap[g]? = w.heap[g]?
  own : ∀ k b' g, lk s'.hp k = some b' → b'.active = true → blockOf (φ' k) = some g → g < w.heap.size → ∃ k0 b, lk s.hp k0 = some b ∧ b.active = true ∧ blockOf (φ k0) = some g ∧ (k0 = k ∨ k0 ∈ T)

theorem Frm.mono {T T' : List Nat} {φ' : Nat → Value} {s' : St} {w' : World} (h : Frm T φ s w φ' s' w') (hT : ∀ k ∈ T, k ∈ T') : Frm T' φ s w φ' s' w' :=
  ⟨h.size, fun g hg hn => h.same g hg fun k b hk => hn k b (hT k hk), fun k b' g h1 h2 h3 h4 => let ⟨k0, b, e1, e2, e3, e4⟩ := h.own k b' g h1 h2 h3 h4; ⟨k0, b, e1, e2, e3, e4.imp id (hT k0)⟩⟩

/-- Blocks that are active were so. -/
def ActSub (s s' : St) : Prop := ∀ k b, lk s'.hp k = some b → b.active = true → ∃ b0, lk s.hp k = some b0 ∧ b0.active = true
theorem ActSub.refl (s : St) : ActSub s s := fun _ b h ha => ⟨b, h, ha⟩
theorem ActSub.trans {s s' s'' : St} (h : ActSub s s') (h' : ActSub s' s'') : ActSub s s'' := fun k b hb ha =>
  let ⟨b1, h1, h2⟩ := h' k b hb ha; h k b1 h1 h2
theorem actSub_toD {c : V} {x : D} {s s' : St} (h : toD s c = some (x, s')) : ActSub s s' := by
  unfold toD at h
  split at h
  · simp at h; obtain ⟨_, rfl⟩ := h; exact .refl _
  · simp at h; obtain ⟨_, rfl⟩ := h; exact .refl _
  · split at h
    · rename_i k e sz es hb
      simp only [Option.some.injEq, Prod.mk.injEq] at h
      obtain ⟨_, rfl⟩ := h
      intro j b hj ha
      simp only [St.setB] at hj
      rw [lk_pt] at hj
      split at hj
      · simp at hj; subst hj; cases ha
      · exact ⟨b, hj, ha⟩
    · simp at h; obtain ⟨_, rfl⟩ := h; exact .refl _
    · cases h
  · cases h
theorem actSub_toDs {cs : List V} : ∀ {s s' : St} {xs : List D}, toDs s cs = some (xs, s') → ActSub s s' := by
  induction cs with
  | nil => intro s s' xs h; simp [toDs] at h; obtain ⟨_, rfl⟩ := h; exact .refl _
  | cons c cs ih =>
    intro s s' xs h
    simp only [toDs] at h
    split at h
    · cases h
    rename_i x s1 hx
    split at h
    · cases h
    rename_i xs1 s2 hxs
    simp only [Option.some.injEq, Prod.mk.injEq] at h
    obtain ⟨_, rfl⟩ := h
    exact (actSub_toD hx).trans (ih hxs)

theorem Frm.fresh {s1 : St} (hs : ActSub s s1) (key : Nat) (b : B) (v : Value) (o : Obj) (hv : ∀ g, blockOf v = some g → w.heap.size ≤ g) : Frm [] φ s w (updF φ key v) (s1.setB key b) (w.alloc o) where
  size := by have : (w.alloc o).heap.size = w.heap.size + 1 := Array.size_push ..; omega
  same := fun g hg _ => heap_alloc_old w o g hg
  own := fun k b' g hb ha hg hlt => by
    simp only [St.setB] at hb
    rw [lk_pt] at hb
    by_cases e : key = k
    · subst e
      simp only [updF, if_true] at hg
      have := hv g hg; omega
    · rw [if_neg e] at hb
      simp only [updF, if_neg (Ne.symm e)] at hg
      obtain ⟨b0, h1, h2⟩ := hs k b' hb ha
      exact ⟨k, b0, h1, h2, hg, .inl rfl⟩

theorem Frm.written {s1 : St} (hs : ActSub s s1) {k g : Nat} {b0 : B} (b : B) (arr : Array Value) (hb : lk s.hp k = some b0) (ha : b0.active = true) (hg : blockOf (φ k) = some g) : Frm [k] φ s w φ (s1.setB k b) (w.setRow g arr) where
  size := by simp [World.setRow]
  same := fun g' _ hn => setRow_other w g g' arr (by rintro rfl; exact hn k b0 (by simp) hb ha hg)
  own := fun j b' g' hb' ha' hg' _ => by
    simp only [St.setB] at hb'
    rw [lk_pt] at hb'
    by_cases e : k = j
    · subst e; exact ⟨k, b0, hb, ha, hg', .inl rfl⟩
    · rw [if_neg e] at hb'
      obtain ⟨b1, h1, h2⟩ := hs j b' hb' ha'
      exact ⟨j, b1, h1, h2, hg', .inl rfl⟩

/-- What is held behind an operation: some value and state for which K holds. -/
def Pst (B0 : Nat) (bx : List Nat) (W0 : World) (ok0 : Nat → Prop) (Z : Zr) (N : Nat) (a : Act) (F : (Nat → Value) → St → World → Prop) (K : V → St → Prop) (v' : Value) (w' : World) : Prop :=
  ∃ v s' ok' φ', K v s' ∧ Rel B0 bx W0 ok0 Z N ok' φ' s' a w' ∧ VR ok' φ' s'.hp w' v v' ∧ F φ' s' w'

theorem VR.fresh (r : Rel B0 bx W0 ok0 Z N ok φ s a w) {key : Nat} (hk : lk s.hp key = none) {c : V} {v : Value} (h : VR ok φ s.hp w c v) (o : Obj) (b : B) (u : Value) :
    VR ok (updF φ key u) (pt s.hp key b) (w.alloc o) c v :=
  h.mono (fun _ h => h) (fun b hb => heap_alloc_old w o b (r.okl b hb)) (fun k _ hn => by simp only [updF]; rw [if_neg (by rintro rfl; exact hn hk)]) (fun k _ => by
    unfold Sim
    rw [lk_pt]
    by_cases h : key = k
    · subst h; rw [hk]; trivial
    · rw [if_neg h]; exact Sim.refl s.hp k)

theorem fresh_box (r : Rel B0 bx W0 ok0 Z N ok φ s a w) {key : Nat} (hk : lk s.hp key = none) {cs : List V} {xs : Array Value} (T : TypeId) (hs : xs.size = cs.length)
    (h : ∀ (i : Nat) (c : V) (x : Value), cs[i]? = some c → xs[i]? = some x → VR ok φ s.hp w c x) :
    Rel B0 bx W0 ok0 Z N ok (updF φ key (.pointer (some ⟨w.heap.size, 0, none⟩))) (s.setB key (.box cs)) a (w.alloc (.cells xs T)) ∧
    VR ok (updF φ key (.pointer (some ⟨w.heap.size, 0, none⟩))) (s.setB key (.box cs)).hp (w.alloc (.cells xs T)) (.ref key 0) (.pointer (some ⟨w.heap.size, 0, none⟩)) := by
  refine ⟨r.fresh hk _ _ _ rfl (by simp [blockOf]) ⟨w.heap.size, xs, T, rfl, heap_alloc_new w _, hs, fun i c x hc hx => VR.fresh r hk (h i c x hc hx) _ _ _⟩, ?_⟩
  exact .ref (cs := cs) (by simp [St.setB, lk_pt]) (by simp [updF])

theorem aAlloc_sound {t : Nat} {ti : TI} (hT : TIok P t ti) (r : Rel B0 bx W0 ok0 Z N ok φ s a w) {key : Nat} (hk : lk s.hp key = none) {K : V → St → Prop} (h : K (.ref key 0) (s.setB key (.box (zeros ti.ck)))) :
    ∃ v' w', (Instr.alloc t true (.tuple #[])).run P w = .ok v' w' ∧ Pst B0 bx W0 ok0 Z N a (Frm [] φ s w) K v' w' := by
  obtain ⟨inf, z, hi, hsz, _, hz, hzB, _⟩ := hT.info
  obtain ⟨hzl, hzr⟩ := zB_vr (ok := ok) (φ := φ) (w := w) (hp := s.hp) hzB
  obtain ⟨h1, h2⟩ := fresh_box r hk t (xs := z.cells) (cs := zeros ti.ck) (by rw [zeros_length]; simpa using hzl) (fun i c x hc hx => hzr i c x hc (by simpa using hx))
  refine ⟨.pointer (some ⟨w.heap.size, 0, none⟩), w.alloc (.cells z.cells t), ?_, ⟨_, _, _, _, h, h1, h2, Frm.fresh (.refl _) _ _ _ _ (by simp [blockOf])⟩⟩
  simp [Instr.alloc, zeroValue, typeInfo, hi, hz, newVar, newRow, newObj, Sem.run, World.alloc_eq]

theorem aBox_sound {t : Nat} (r : Rel B0 bx W0 ok0 Z N ok φ s a w) {key : Nat} (hk : lk s.hp key = none) {c : V} {v : Value} {cs : List V} (hv : VR ok φ s.hp w c v) (hc : cellsOf c = some cs)
    {K : V → St → Prop} (h : K (.ref key 0) (s.setB key (.box cs))) :
    ∃ v' w', (Instr.box t v).run P w = .ok v' w' ∧ Pst B0 bx W0 ok0 Z N a (Frm [] φ s w) K v' w' := by
  obtain ⟨h1, h2⟩ := cells_of_vr hv hc r.one
  obtain ⟨h3, h4⟩ := fresh_box r hk t h1 h2
  refine ⟨.pointer (some ⟨w.heap.size, 0, none⟩), w.alloc (.cells v.cells t), ?_, ⟨_, _, _, _, h, h3, h4, Frm.fresh (.refl _) _ _ _ _ (by simp [blockOf])⟩⟩
  simp [Instr.box, newVar, newRow, newObj, Sem.run, World.alloc_eq]

theorem run_storeVar_at {t : Nat} {ti : TI} (hT : TIok P t ti) {v : Value} (hv : v.cells.size = ti.ck.length) (h1 : ∀ x ∈ v.cells.toList, x.oneCell' = true) {g o : Nat} {cur : Array Value} {T : TypeId}
    (hg : w.heap[g]? = some (.cells cur T (0, 0))) (hl : o + v.cells.size ≤ cur.size) :
    (storeVar t ⟨g, o, none⟩ v).run P w = .ok () (w.setRow g (cur.toList.take o ++ v.cells.toList ++ cur.toList.drop (o + v.cells.size)).toArray) := by
  unfold storeVar
  simp only [Sem.run_bind, hT.size_run, Result.andThen_ok]
  rw [if_neg (by simp [hv])]
  have := run_storeCells_at (P := P) g o T v.cells.toList 0 cur w hg (by simpa using hl) h1
  simpa using this

theorem cellVs_all {cs : List V} (h : cellVs cs = true) : ∀ c ∈ cs, cellV c = true := by
  induction cs with
  | nil => simp
  | cons c r ih =>
    simp only [cellVs] at h
    split at h
    · rename_i h0
      intro x hx
      rcases List.mem_cons.1 hx with rfl | hx
      · exact h0
      · exact ih h x hx
    · cases h

theorem ones_of (r : Rel B0 bx W0 ok0 Z N ok φ s a w) {cs : List V} {xs : Array Value} (hc : cellVs cs = true) (hs : xs.size = cs.length)
    (h : ∀ (i : Nat) (c : V) (x : Value), cs[i]? = some c → xs[i]? = some x → VR ok φ s.hp w c x) : ∀ x ∈ xs.toList, x.oneCell' = true := by
  intro x hx
  obtain ⟨i, hi⟩ := List.getElem?_of_mem hx
  have hlt : i < cs.length := by
    have := (List.getElem?_eq_some_iff.1 hi).1
    simp at this; omega
  exact (h i cs[i] x (List.getElem?_eq_getElem hlt) (by simpa using hi)).one (cellVs_all hc _ (List.getElem_mem hlt)) r.one

theorem VR.written (r : Rel B0 bx W0 ok0 Z N ok φ s a w) {k g : Nat} {b b' : B} (hb : lk s.hp k = some b) (ha : b.active = true) (hg : blockOf (φ k) = some g) (arr : Array Value)
    (hsim : Sim s.hp (pt s.hp k b') k) {c : V} {v : Value} (h : VR ok φ s.hp w c v) : VR ok φ (pt s.hp k b') (w.setRow g arr) c v := by
  have hact := r.act k b g hb ha hg
  refine h.mono (fun _ h => h) (fun b hb => setRow_other w g b arr (by rintro rfl; exact hact.1 hb)) (fun _ _ _ => rfl) (fun j _ => ?_)
  by_cases h : k = j
  · subst h; exact hsim
  · unfold Sim; rw [lk_pt, if_neg h]; exact Sim.refl s.hp j

theorem sim_box {hp : List (Nat × B)} {k : Nat} {cs cs' : List V} (hb : lk hp k = some (.box cs)) : Sim hp (pt hp k (.box cs')) k := by
  unfold Sim; rw [hb]; exact ⟨cs', by rw [lk_pt, if_pos rfl]⟩
theorem sim_lst {hp : List (Nat × B)} {k e e' sz : Nat} {es es' : List (List D)} (hb : lk hp k = some (.lst e sz es)) : Sim hp (pt hp k (.lst e' sz es')) k := by
  unfold Sim; rw [hb]; exact ⟨es', .inl ⟨e', by rw [lk_pt, if_pos rfl]⟩⟩

theorem splice_get? {α : Type} (l v : List α) (o i : Nat) (h : o + v.length ≤ l.length) :
    (l.take o ++ v ++ l.drop (o + v.length))[i]? = if i < o then l[i]? else if i < o + v.length then v[i - o]? else l[i]? := by
  have e1 : (l.take o).length = o := by simp; omega
  split
  · rw [List.append_assoc, List.getElem?_append_left (by omega), List.getElem?_take, if_pos (by assumption)]
  · split
    · rw [List.append_assoc, List.getElem?_append_right (by omega), e1, List.getElem?_append_left (by omega)]
    · rw [List.getElem?_append_right (by simp; omega), List.getElem?_drop]
      simp only [List.length_append, e1]
      congr 1; omega

theorem take_splice {α : Type} (l v : List α) (o n : Nat) (h : o + v.length ≤ n) (h2 : n ≤ l.length) :
    (l.take o ++ v ++ l.drop (o + v.length)).take n = (l.take n).take o ++ v ++ (l.take n).drop (o + v.length) := by
  apply List.ext_getElem?
  intro i
  rw [List.getElem?_take, splice_get? l v o i (by omega), splice_get? (l.take n) v o i (by simp; omega)]
  simp only [List.getElem?_take]
  by_cases c1 : i < o
  · have : i < n := by omega
    simp [c1, this]
  · by_cases c2 : i < o + v.length
    · have : i < n := by omega
      simp [c1, c2, this]
    · simp [c1, c2]

theorem aStore_sound {t : Nat} {ti : TI} (hT : TIok P t ti) (r : Rel B0 bx W0 ok0 Z N ok φ s a w) {av xv : V} {x y : Value} (ha : VR ok φ s.hp w av x) (hx : VR ok φ s.hp w xv y) {K : St → Prop} (h : aStore ti s av xv K) :
    ∃ w', (Instr.storeAt t x y).run P w = .ok () w' ∧ ∃ s' ok' φ', K s' ∧ Rel B0 bx W0 ok0 Z N ok' φ' s' a w' ∧ Frm (addrKey av) φ s w φ' s' w' := by
  unfold aStore at h
  split at h
  · exact h.elim
  rename_i xs hxs
  split at h
  · exact h.elim
  · exact h.elim
  rename_i hcv hbeq
  have hlen : xs.length = ti.ck.length := Nat.eq_of_beq_eq_true hbeq
  obtain ⟨hys, hyr⟩ := cells_of_vr hx hxs r.one
  have hone := ones_of r hcv hys hyr
  unfold Instr.storeAt
  split at h
  · -- a box
    rename_i k off
    cases ha
    rename_i g cs0 hb0 hφ
    split at h
    rotate_left
    · exact h.elim
    rename_i cs hb
    split at h
    rotate_left
    · exact h.elim
    rename_i cs' hov
    obtain ⟨g', arr, T, hp, hh, hs, hr⟩ := r.hp k _ hb
    rw [hφ] at hp; simp at hp; subst hp
    obtain ⟨hle, _⟩ := over_some hov
    obtain ⟨h1, h2⟩ := vr_over (ys := y.cells.toList) (zs := arr.toList) hov (by simpa using hys) (by simpa using hs) (fun i c y hc hy => hyr i c y hc (by simpa using hy)) (fun i c y hc hy => hr i c y hc (by simpa using hy))
    have hrun := run_storeVar_at (w := w) (o := off) hT (by rw [hys, hlen]) hone hh (by rw [hys, hs]; exact hle)
    refine ⟨_, by simp only [Sem.run_bind, Instr.sureAddr, Sem.run_pure, Result.andThen_ok]; exact hrun, _, ok, φ, h, ?_, Frm.written (.refl _) _ _ hb rfl (by rw [hφ]; rfl)⟩
    refine r.written hb rfl rfl (by rw [hφ]; rfl) _ (sim_box hb) ?_
    refine ⟨g, _, T, hφ, setRow_heap w g arr _ T _ hh, by simp; omega, fun i c z hc hz => ?_⟩
    have h3 := h2 i c z hc (by simpa using hz)
    exact VR.written r hb rfl (by rw [hφ]; rfl) _ (sim_box hb) h3
  · -- an element of an own slice
    rename_i k i off
    split at h
    · exact h.elim
    rename_i ds s1 hds
    obtain ⟨ok1, r1, hdl, hdr, hok1, hsim1⟩ := toDs_sound (vs := y.cells.toList) r (by simpa using hys) (fun i c y hc hy => hyr i c y hc (by simpa using hy)) hds
    cases ha
    rename_i g n cap sz0 es0 hb0 hφ
    split at h
    rotate_left
    · exact h.elim
    rename_i e sz es hb
    obtain ⟨cells, hcell, cells', hov, hk⟩ := h
    obtain ⟨hle, hc'⟩ := over_some hov
    obtain ⟨hpos, hall, ys, hown, hr⟩ := r1.hp k _ hb
    have hlt : i < es.length := (List.getElem?_eq_some_iff.1 hcell).1
    have hcl : cells.length = sz := hall _ (List.mem_of_getElem? hcell)
    -- the element's size is what it was
    have hszeq : sz0 = sz := by
      obtain ⟨es', h1⟩ := (hsim1 k).lst hb0
      rcases h1 with ⟨e', h1⟩ | h1
      · rw [hb] at h1; simp only [Option.some.injEq, B.lst.injEq] at h1; exact h1.2.1.symm
      · rw [hb] at h1; cases h1
    subst hszeq
    rcases hown.2 with ⟨hn, hz⟩ | ⟨g', cap', cur, hs, hbase, hh, hnc, hml, hcs, htk⟩
    · omega
    rw [hφ] at hs
    simp only [Value.slice.injEq, Option.some.injEq, Addr.mk.injEq, true_and, and_true] at hs
    obtain ⟨rfl, rfl, rfl⟩ := hs
    have hle2 : i * sz0 + off + ds.length ≤ es.length * sz0 := by
      calc i * sz0 + off + ds.length ≤ i * sz0 + sz0 := by omega
        _ = (i + 1) * sz0 := by rw [Nat.add_mul]; omega
        _ ≤ es.length * sz0 := Nat.mul_le_mul_right _ hlt
    have hle3 : es.length * sz0 ≤ cap * sz0 := Nat.mul_le_mul_right _ hnc
    have hdy : y.cells.size = ds.length := by rw [hys, hdl]
    have hblk : blockOf (φ k) = some g := by rw [hφ]; rfl
    have hfr : ∀ (b : B) (arr : Array Value), Frm [k] φ s w φ (s1.setB k b) (w.setRow g arr) := fun b arr => by
      obtain ⟨b0, h1, h2⟩ := actSub_toDs hds k _ hb rfl
      exact Frm.written (actSub_toDs hds) b arr h1 h2 hblk
    have hrun := run_storeVar_at (w := w) (o := i * sz0 + off) hT (by rw [hys, hlen]) hone hh (by rw [hdy, hcs]; omega)
    refine ⟨_, by simp only [Sem.run_bind, Instr.sureAddr, Sem.run_pure, Result.andThen_ok]; exact hrun, _, ok1, φ, hk, ?_, hfr _ _⟩
    have hactg := r1.act k _ g hb rfl hblk
    refine r1.written hb rfl rfl hblk _ (sim_lst hb) ?_
    refine ⟨hpos, ?_, (ys.take (i * sz0 + off) ++ y.cells.toList ++ ys.drop (i * sz0 + off + y.cells.size)), ⟨?_, .inr ⟨g, cap, _, ?_, hbase, setRow_heap w g cur _ e _ hh, ?_, hml, ?_, ?_⟩⟩, ?_⟩
    · intro c hc
      rcases List.mem_or_eq_of_mem_set hc with hc | rfl
      · exact hall c hc
      · rw [hc']; simp; omega
    · simp only [List.length_append, List.length_take, List.length_drop, Array.length_toList, List.length_set, hown.1]; omega
    · rw [hφ]; simp
    · simp; exact hnc
    · simp only [List.size_toArray, List.length_append, List.length_take, List.length_drop, Array.length_toList, hcs]; omega
    · simp only [List.length_set]
      rw [← htk]
      have hyl : y.cells.size = y.cells.toList.length := by simp
      rw [hyl]
      exact take_splice cur.toList y.cells.toList (i * sz0 + off) (es.length * sz0) (by rw [← hyl, hdy]; omega) (by simp only [Array.length_toList, hcs]; omega)
    · intro i' j' hi' hj'
      simp only [List.length_set] at hi'
      have hyl : y.cells.size = y.cells.toList.length := by simp
      have h2w : ∀ b, ok1 b → (w.setRow g (cur.toList.take (i * sz0 + off) ++ y.cells.toList ++ cur.toList.drop (i * sz0 + off + y.cells.size)).toArray).heap[b]? = w.heap[b]? :=
        fun b hb => setRow_other w g b _ (by rintro rfl; exact hactg.1 hb)
      have hold := hr i' j' hi' hj'
      have hys2 : i * sz0 + off + y.cells.toList.length ≤ ys.length := by rw [← hyl, hdy, hown.1]; omega
      rw [List.getD_eq_getElem?_getD, hyl, splice_get? ys y.cells.toList _ _ hys2]
      by_cases hii : i' = i
      · subst hii
        have hset : (es.set i' cells').getD i' [] = cells' := by
          rw [List.getD_eq_getElem?_getD, List.getElem?_set_self (by omega)]; rfl
        have hgetc : es.getD i' [] = cells := by rw [List.getD_eq_getElem?_getD, hcell]; rfl
        rw [hset, hc', List.getD_eq_getElem?_getD, splice_get? cells ds off j' (by omega)]
        rw [hgetc] at hold
        by_cases c1 : j' < off
        · rw [if_pos (by omega), if_pos c1]
          rw [List.getD_eq_getElem?_getD, List.getD_eq_getElem?_getD] at hold
          exact hold.mono (fun _ h => h) h2w
        · by_cases c2 : j' < off + ds.length
          · rw [if_neg (by omega), if_pos (by rw [← hyl, hdy]; omega), if_neg c1, if_pos c2]
            have e1 : i' * sz0 + j' - (i' * sz0 + off) = j' - off := by omega
            rw [e1]
            have hl1 : j' - off < ds.length := by omega
            have hl2 : j' - off < y.cells.toList.length := by rw [← hyl, hdy]; exact hl1
            rw [List.getElem?_eq_getElem hl1, List.getElem?_eq_getElem hl2]
            exact (hdr (j' - off) _ _ (List.getElem?_eq_getElem hl1) (List.getElem?_eq_getElem hl2)).mono (fun _ h => h) h2w
          · rw [if_neg (by omega), if_neg (by rw [← hyl, hdy]; omega), if_neg c1, if_neg c2]
            rw [List.getD_eq_getElem?_getD, List.getD_eq_getElem?_getD] at hold
            exact hold.mono (fun _ h => h) h2w
      · have hset : (es.set i cells').getD i' [] = es.getD i' [] := by
          rw [List.getD_eq_getElem?_getD, List.getElem?_set_ne (Ne.symm hii), List.getD_eq_getElem?_getD]
        rw [hset]
        have hout : i' * sz0 + j' < i * sz0 + off ∨ i * sz0 + off + ds.length ≤ i' * sz0 + j' := by
          rcases Nat.lt_or_gt_of_ne hii with hlt' | hgt
          · left
            have : (i' + 1) * sz0 ≤ i * sz0 := Nat.mul_le_mul_right _ hlt'
            rw [Nat.add_mul] at this; omega
          · right
            have : (i + 1) * sz0 ≤ i' * sz0 := Nat.mul_le_mul_right _ hgt
            rw [Nat.add_mul] at this; omega
        rw [List.getD_eq_getElem?_getD] at hold
        rcases hout with c1 | c1
        · rw [if_pos c1]; exact hold.mono (fun _ h => h) h2w
        · rw [if_neg (by omega), if_neg (by rw [← hyl, hdy]; omega)]; exact hold.mono (fun _ h => h) h2w
  · exact h.elim

end Go.Dm
