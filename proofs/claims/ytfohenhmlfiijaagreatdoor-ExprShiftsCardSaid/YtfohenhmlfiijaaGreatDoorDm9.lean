/- Own slices that are made, and appended to. -/
import Derived.Test.YtfohenhmlfiijaaGreatDoorDm8
namespace Go.Dm

variable {P : Program} {E : Env}
variable {B0 : Nat} {bx : List Nat} {W0 : World} {ok0 : Nat → Prop} {Z : Zr} {N : Nat}
variable {ok : Nat → Prop} {φ : Nat → Value} {s : St} {a : Act} {w : World}

theorem app_eq {α : Type} (x y : List α) : app x y = x ++ y := by
  induction x with
  | nil => rfl
  | cons a r ih => simp [app, ih]

theorem rep_length {α : Type} (n : Nat) (l : List α) : (rep n l).length = n * l.length := by
  induction n with
  | zero => simp [rep]
  | succ n ih => simp [rep, app_eq, ih, Nat.add_mul]; omega

theorem rep_get {α : Type} (n : Nat) (l : List α) (i : Nat) (h : i < n * l.length) : (rep n l)[i]? = l[i % l.length]? := by
  induction n generalizing i with
  | zero => simp at h
  | succ n ih =>
    simp only [rep, app_eq]
    by_cases hi : i < l.length
    · rw [List.getElem?_append_left hi, Nat.mod_eq_of_lt hi]
    · rw [List.getElem?_append_right (by omega), ih (i - l.length) (by rw [Nat.add_mul] at h; omega)]
      congr 1
      rw [Nat.mod_eq_sub_mod (by omega : i ≥ l.length)]

theorem chunks_some {α : Type} [Inhabited α] {sz n : Nat} {l : List α} {es : List (List α)} (h : chunks sz n l = some es) :
    es.length = n ∧ l.length = n * sz ∧ (∀ c ∈ es, c.length = sz) ∧ ∀ i j, i < n → j < sz → (es.getD i []).getD j default = l.getD (i * sz + j) default := by
  induction n generalizing l es with
  | zero =>
    cases l with
    | nil => simp [chunks] at h; subst h; simp
    | cons x r => simp [chunks] at h
  | succ n ih =>
    simp only [chunks] at h
    split at h
    · cases h
    rename_i c hc
    split at h
    · cases h
    rename_i r hr
    simp only [Option.some.injEq] at h
    subst h
    obtain ⟨h1, h2⟩ := cut_some hc
    obtain ⟨h3, h4, h5, h6⟩ := ih hr
    simp only [Nat.zero_add] at h1
    simp only [List.drop_zero] at h2
    have hcl : c.length = sz := by rw [h2]; simp; omega
    have hdl : l.length = (l.drop sz).length + sz := by simp; omega
    refine ⟨by simp [h3], by rw [hdl, h4, Nat.add_mul]; omega, ?_, ?_⟩
    · intro x hx
      rcases List.mem_cons.1 hx with rfl | hx
      · exact hcl
      · exact h5 x hx
    · intro i j hi hj
      cases i with
      | zero =>
        simp only [List.getD_cons_zero, Nat.zero_mul, Nat.zero_add]
        rw [h2, List.getD_eq_getElem?_getD, List.getElem?_take, if_pos hj, List.getD_eq_getElem?_getD]
      | succ i =>
        simp only [List.getD_cons_succ]
        rw [h6 i j (by omega) hj, List.getD_eq_getElem?_getD, List.getElem?_drop, List.getD_eq_getElem?_getD]
        congr 2
        rw [Nat.add_mul]; omega

theorem toD_none {c : V} {x : D} {s' : St} {key : Nat} (h : toD s c = some (x, s')) (hk : lk s.hp key = none) : lk s'.hp key = none := by
  unfold toD at h
  split at h
  · simp at h; rw [← h.2]; exact hk
  · simp at h; rw [← h.2]; exact hk
  · split at h
    · rename_i k _ _ _ hb
      simp at h; rw [← h.2]
      simp only [St.setB]
      rw [lk_pt]
      split
      · rename_i e; subst e; rw [hb] at hk; cases hk
      · exact hk
    · simp at h; rw [← h.2]; exact hk
    · cases h
  · cases h
theorem toDs_none {cs : List V} : ∀ {s : St} {xs : List D} {s' : St} {key : Nat}, toDs s cs = some (xs, s') → lk s.hp key = none → lk s'.hp key = none := by
  induction cs with
  | nil => intro s xs s' key h hk; simp [toDs] at h; rw [← h.2]; exact hk
  | cons c cs ih =>
    intro s xs s' key h hk
    simp only [toDs] at h
    split at h
    · cases h
    rename_i x s1 hx
    split at h
    · cases h
    rename_i xs1 s2 hxs
    simp at h
    rw [← h.2]
    exact ih hxs (toD_none hx hk)

/-- A new row becomes an own slice. -/
theorem fresh_lst (r : Rel B0 bx W0 ok0 Z N ok φ s a w) {key : Nat} (hk : lk s.hp key = none) {e sz n cap : Nat} {cells : Array Value} {es : List (List D)} (hpos : 0 < sz) (hcs : cells.size = cap * sz) (hnc : n ≤ cap) (hml : cap ≤ maxLen)
    (hes : es.length = n) (hall : ∀ c ∈ es, c.length = sz) (hr : ∀ i j, i < n → j < sz → Rd ok w (cells.toList.getD (i * sz + j) undef) ((es.getD i []).getD j default)) :
    Rel B0 bx W0 ok0 Z N ok (updF φ key (.slice (some ⟨w.heap.size, 0, none⟩) n cap)) (s.setB key (.lst e sz es)) a (w.alloc (.cells cells e)) ∧
    VR ok (updF φ key (.slice (some ⟨w.heap.size, 0, none⟩) n cap)) (s.setB key (.lst e sz es)).hp (w.alloc (.cells cells e)) (.own key) (.slice (some ⟨w.heap.size, 0, none⟩) n cap) := by
  subst hes
  have hle : es.length * sz ≤ cap * sz := Nat.mul_le_mul_right _ hnc
  refine ⟨r.fresh hk _ _ _ rfl (by simp [blockOf]) ⟨hpos, hall, cells.toList.take (es.length * sz), ⟨by simp; omega, .inr ⟨w.heap.size, cap, cells, rfl, r.b0, heap_alloc_new w _, hnc, hml, hcs, rfl⟩⟩, fun i j hi hj => ?_⟩, ?_⟩
  · have hidx : i * sz + j < es.length * sz := by
      calc i * sz + j < i * sz + sz := by omega
        _ = (i + 1) * sz := by rw [Nat.add_mul]; omega
        _ ≤ es.length * sz := Nat.mul_le_mul_right _ (by omega)
    have := hr i j (by omega) hj
    rw [List.getD_eq_getElem?_getD] at this
    rw [List.getD_eq_getElem?_getD, List.getElem?_take, if_pos hidx]
    exact this.mono (fun _ h => h) (fun b hb => heap_alloc_old w _ b (r.okl b hb))
  · exact .own (sz := sz) (es := es) (.inl ⟨e, by simp [St.setB, lk_pt]⟩) (by simp [updF])

theorem aBuildSlice_sound {t e len : Nat} {ti ei : TI} (hT : TIok P t ti) (htd : ti.td = .slice e) (hTe : TIok P e ei) (r : Rel B0 bx W0 ok0 Z N ok φ s a w) {g : List (Nat × Bool)} (hg : Holds a g) {key : Nat} (hk : lk s.hp key = none)
    {parts : Array (Nat × Operand)} {cs : List V} (hle : len * ei.ck.length ≤ 16777216) (hfill : aVal.fillA s g ei.ck.length (rep len (zeros ei.ck)) parts.toList = some cs) {ds : List D} {s1 : St} (hds : toDs s cs = some (ds, s1))
    {es : List (List D)} (hes : chunks ei.ck.length len ds = some es) {K : V → St → Prop} (h : K (.own key) (s1.setB key (.lst e ei.ck.length es))) :
    ∃ v' w', (Instr.buildSlice t len (parts.map fun (i, x) => (i, a.eval x))).run P w = .ok v' w' ∧ Pst B0 bx W0 ok0 Z N a (Frm [] φ s w) K v' w' := by
  obtain ⟨hu, _⟩ := hT.slice_und htd
  obtain ⟨inf, z, hi, hsz, _, hz, hzB, _⟩ := hTe.info
  obtain ⟨hzl, hzr⟩ := zB_vr (ok := ok) (φ := φ) (w := w) (hp := s.hp) hzB
  have hpos := hTe.pos
  have hzs : z.cells.size = ei.ck.length := by simpa using hzl
  obtain ⟨zs', e1, e2, e3, e4⟩ := fillA_sound r hg parts.toList (rep len (zeros ei.ck)) cs (madeCells z.cells (len * ei.ck.length)) hfill
    (by rw [rep_length, zeros_length, size_madeCells]) (fun i c x h1 h2 => by
      have hlt : i < len * ei.ck.length := by
        have := (Array.getElem?_eq_some_iff.1 h2).1
        simpa [size_madeCells] using this
      have hm : i % ei.ck.length < ei.ck.length := Nat.mod_lt _ hpos
      rw [rep_get _ _ _ (by rw [zeros_length]; exact hlt), zeros_length] at h1
      refine hzr (i % ei.ck.length) c x h1 ?_
      have : x = z.cells[i % z.cells.size]! := by
        simp [madeCells, hlt] at h2; exact h2.symm
      rw [this, hzs]
      have hlt2 : i % ei.ck.length < z.cells.size := by rw [hzs]; exact hm
      rw [getElem!_pos z.cells _ hlt2]
      simp [hlt2])
  obtain ⟨ok1, r1, hdl, hdr, hok1, _⟩ := toDs_sound (vs := zs'.toList) r (by simpa using e2) (fun i c y hc hy => e4 i c y hc (by simpa using hy)) hds
  obtain ⟨h3, h4, h5, h6⟩ := chunks_some hes
  have hzlen : zs'.size = len * ei.ck.length := by rw [e2, e3, rep_length, zeros_length]
  have hlen : len ≤ len * ei.ck.length := Nat.le_mul_of_pos_right _ hpos
  obtain ⟨f1, f2⟩ := fresh_lst r1 (toDs_none hds hk) (e := e) hpos hzlen (Nat.le_refl _) (by unfold maxLen; omega) h3 h5 (fun i j hi hj => by
    rw [h6 i j hi hj]
    have hidx : i * ei.ck.length + j < ds.length := by
      rw [h4]
      calc i * ei.ck.length + j < i * ei.ck.length + ei.ck.length := by omega
        _ = (i + 1) * ei.ck.length := by rw [Nat.add_mul]; omega
        _ ≤ len * ei.ck.length := Nat.mul_le_mul_right _ (by omega)
    have hidx2 : i * ei.ck.length + j < zs'.toList.length := by simp; omega
    rw [List.getD_eq_getElem?_getD, List.getD_eq_getElem?_getD, List.getElem?_eq_getElem hidx, List.getElem?_eq_getElem hidx2]
    exact hdr _ _ _ (List.getElem?_eq_getElem hidx) (List.getElem?_eq_getElem hidx2))
  refine ⟨_, _, ?_, ⟨_, _, _, _, h, f1, f2, Frm.fresh (actSub_toDs hds) _ _ _ _ (by simp [blockOf])⟩⟩
  unfold Instr.buildSlice
  simp only [Sem.run_bind, run_underlying hu, Result.andThen_ok, hTe.size_run]
  rw [if_neg (by omega)]
  have e1' : Instr.fill (fun i => some (i * ei.ck.length, ei.ck.length)) ((Array.range (len * ei.ck.length)).map (z.cells[· % z.cells.size]!)) (parts.map fun (i, x) => (i, a.eval x)).toList = some zs' := by
    rw [Array.toList_map]; exact e1
  by_cases hz0 : len * ei.ck.length = 0
  · rw [if_pos hz0]
    simp only [Sem.run_bind, Sem.run_pure, Result.andThen_ok]
    have hr0 : (Array.range (len * ei.ck.length)).map ((#[] : Array Value)[· % (#[] : Array Value).size]!) = (Array.range (len * ei.ck.length)).map (z.cells[· % z.cells.size]!) := by
      rw [hz0]; simp
    rw [hr0, e1']
    simp [newRow, newObj, Sem.run, World.alloc_eq]
  · rw [if_neg hz0]
    have hzv : (zeroValue e).run P w = .ok z w := by simp [zeroValue, typeInfo, hi, hz]
    simp only [Sem.run_bind, hzv, Result.andThen_ok, Sem.run_pure]
    rw [e1']
    simp [newRow, newObj, Sem.run, World.alloc_eq]

theorem aMakeSlice_sound {t e : Nat} {ti ei : TI} (hT : TIok P t ti) (htd : ti.td = .slice e) (hTe : TIok P e ei) (r : Rel B0 bx W0 ok0 Z N ok φ s a w) {key : Nat} (hk : lk s.hp key = none)
    {n c : Int} (h0 : 0 ≤ n) (hnc : n ≤ c) (hby : c * ei.bytes ≤ 140737488355328) (hc : c ≤ 140737488355328) {z : List D} (hz : dZeros ei.ck = some z)
    {K : V → St → Prop} (h : K (.own key) (s.setB key (.lst e ei.ck.length (List.replicate n.toNat z)))) (k1 k2 : IntKind) :
    ∃ v' w', (Instr.makeSlice t (.int k1 n) (.int k2 c)).run P w = .ok v' w' ∧ Pst B0 bx W0 ok0 Z N a (Frm [] φ s w) K v' w' := by
  obtain ⟨hu, _⟩ := hT.slice_und htd
  obtain ⟨inf, zv, hi, hsz, hbi, hzz, hzB, _⟩ := hTe.info
  have hpos := hTe.pos
  have hrun := run_make (P := P) w t e inf zv hu hi hzz k1 k2 n c h0 hnc (by rw [hbi, Int.mul_comm]; omega) (by omega)
  have hzl : z.length = ei.ck.length ∧ ∀ (j : Nat) (v : Value) (d : D), zv.cells.toList[j]? = some v → z[j]? = some d → Rd ok w v d := by
    clear h hrun
    revert hz hzB
    generalize zv.cells.toList = l
    generalize ei.ck = ck
    intro hz hzB
    induction ck generalizing l z with
    | nil => simp [dZeros] at hz; subst hz; simp
    | cons c r ih =>
      cases l with
      | nil => simp [zB] at hzB
      | cons v l =>
        simp only [zB, Bool.and_eq_true] at hzB
        have key : ∀ (x : D) (l2 : List D), dZeros r = some l2 → z = x :: l2 → Rd ok w v x → z.length = (c :: r).length ∧ ∀ (j : Nat) (v' : Value) (d : D), (v :: l)[j]? = some v' → z[j]? = some d → Rd ok w v' d := by
          intro x l2 h1 h2 h3
          subst h2
          obtain ⟨h4, h5⟩ := ih l h1 hzB.2
          refine ⟨by simp [h4], fun j v' d hv hd => ?_⟩
          cases j with
          | zero => simp at hv hd; subst hv; subst hd; exact h3
          | succ j => exact h5 j v' d (by simpa using hv) (by simpa using hd)
        have h0 := hzB.1
        have hvr : VR ok φ s.hp w (ckZero c) v := by
          have := (zB_vr (ok := ok) (φ := φ) (w := w) (hp := s.hp) (ck := [c]) (xs := [v]) (by simp [zB, h0])).2 0 (ckZero c) v rfl rfl
          exact this
        simp only [dZeros] at hz
        split at hz
        · rename_i x l2 hx hl2
          simp only [Option.some.injEq] at hz
          rw [hx] at hvr
          cases hvr; rename_i hrd
          exact key x l2 hl2 hz.symm hrd
        · rename_i l2 hx hl2
          simp only [Option.some.injEq] at hz
          rw [hx] at hvr
          cases hvr
          exact key (.sl []) l2 hl2 hz.symm .nil
        · cases hz
  have hcells : (madeCells zv.cells (c.toNat * inf.size)).size = c.toNat * ei.ck.length := by rw [size_madeCells, hsz]
  have hzs : zv.cells.size = ei.ck.length := by simpa using (zB_vr (ok := ok) (φ := φ) (w := w) (hp := s.hp) hzB).1
  obtain ⟨f1, f2⟩ := fresh_lst r hk (e := e) (n := n.toNat) (es := List.replicate n.toNat z) hpos hcells (by omega) (by unfold maxLen; omega) (by simp) (fun x hx => by rw [List.eq_of_mem_replicate hx]; exact hzl.1) (fun i j hi hj => by
    have hg : (List.replicate n.toNat z).getD i [] = z := by
      rw [List.getD_eq_getElem?_getD, List.getElem?_replicate, if_pos hi]; rfl
    rw [hg]
    have hlt : i * ei.ck.length + j < c.toNat * ei.ck.length := by
      calc i * ei.ck.length + j < i * ei.ck.length + ei.ck.length := by omega
        _ = (i + 1) * ei.ck.length := by rw [Nat.add_mul]; omega
        _ ≤ c.toNat * ei.ck.length := Nat.mul_le_mul_right _ (by omega)
    have hj2 : j < zv.cells.size := by omega
    have hmod : (i * ei.ck.length + j) % zv.cells.size = j := by
      rw [hzs, Nat.add_comm, Nat.add_mul_mod_self_right, Nat.mod_eq_of_lt hj]
    have hget : (madeCells zv.cells (c.toNat * inf.size)).toList.getD (i * ei.ck.length + j) undef = zv.cells[j] := by
      rw [List.getD_eq_getElem?_getD]
      simp only [madeCells, hsz, Array.toList_map, Array.toList_range, List.getElem?_map, List.getElem?_range hlt, Option.map_some, Option.getD_some]
      rw [hmod, getElem!_pos zv.cells _ hj2]
    rw [hget]
    have hj3 : j < z.length := by rw [hzl.1]; exact hj
    have := hzl.2 j zv.cells[j] z[j] (by simp [hj2]) (List.getElem?_eq_getElem hj3)
    rw [List.getD_eq_getElem?_getD, List.getElem?_eq_getElem hj3]; exact this)
  exact ⟨_, _, hrun, ⟨_, _, _, _, h, f1, f2, Frm.fresh (.refl _) _ _ _ _ (by simp [blockOf])⟩⟩

/-- The values that are appended. -/
theorem news_of {ad : Option Addr} {new : List (List D)} {sz : Nat} (hpos : 0 < sz) (hC : CellsAt ok w ad new) (hall : ∀ c ∈ new, c.length = sz) (hne : new ≠ []) :
    ∃ b off, ad = some ⟨b, off, none⟩ ∧ ∃ news : List Value, news.length = new.length * sz ∧ (∀ j u, news[j]? = some u → w.cell? ((⟨b, off, none⟩ : Addr).add j) = some u) ∧
      (∀ u ∈ news, u.oneCell' = true) ∧ ∀ i j, i < new.length → j < sz → Rd ok w (news.getD (i * sz + j) undef) ((new.getD i []).getD j default) := by
  obtain ⟨b, off, sz', rfl, hall', hc⟩ := hC hne
  have hs : sz' = sz := by
    obtain ⟨x, hx⟩ := List.exists_mem_of_ne_nil _ hne
    rw [← hall' x hx, hall x hx]
  subst hs
  have hch : ∃ f : Nat → Value, ∀ i j, i < new.length → j < sz' → w.cell? ⟨b, off + (i * sz' + j), none⟩ = some (f (i * sz' + j)) ∧ Rd ok w (f (i * sz' + j)) ((new.getD i []).getD j default) := by
    refine ⟨fun n => if h : n / sz' < new.length ∧ n % sz' < sz' then (hc (n / sz') (n % sz') h.1 h.2).choose else undef, fun i j hi hj => ?_⟩
    have e1 : (i * sz' + j) / sz' = i := by
      rw [Nat.add_comm, Nat.add_mul_div_right _ _ hpos, Nat.div_eq_of_lt hj]; omega
    have e2 : (i * sz' + j) % sz' = j := by
      rw [Nat.add_comm, Nat.add_mul_mod_self_right, Nat.mod_eq_of_lt hj]
    have h : (i * sz' + j) / sz' < new.length ∧ (i * sz' + j) % sz' < sz' := by rw [e1, e2]; exact ⟨hi, hj⟩
    simp only [h, and_self, dif_pos]
    have := (hc ((i * sz' + j) / sz') ((i * sz' + j) % sz') h.1 h.2).choose_spec
    generalize (hc ((i * sz' + j) / sz') ((i * sz' + j) % sz') h.1 h.2).choose = y at this ⊢
    rw [e1, e2] at this
    exact this
  obtain ⟨f, hf⟩ := hch
  have split : ∀ n, n < new.length * sz' → n = (n / sz') * sz' + n % sz' ∧ n / sz' < new.length ∧ n % sz' < sz' := by
    intro n hn
    refine ⟨by rw [Nat.mul_comm]; exact (Nat.div_add_mod n sz').symm, ?_, Nat.mod_lt _ hpos⟩
    exact Nat.div_lt_of_lt_mul (by rw [Nat.mul_comm]; exact hn)
  have hget : ∀ n u, ((List.range (new.length * sz')).map f)[n]? = some u → n < new.length * sz' ∧ u = f n := by
    intro n u h
    have hlt : n < new.length * sz' := by have := (List.getElem?_eq_some_iff.1 h).1; simpa using this
    simp [hlt] at h
    exact ⟨hlt, h.symm⟩
  refine ⟨b, off, rfl, (List.range (new.length * sz')).map f, by simp, fun j u h => ?_, fun u hu => ?_, fun i j hi hj => ?_⟩
  · obtain ⟨hlt, rfl⟩ := hget j u h
    obtain ⟨e, h1, h2⟩ := split j hlt
    rw [addr_add]
    have := (hf _ _ h1 h2).1
    rwa [← e] at this
  · obtain ⟨n, hn⟩ := List.getElem?_of_mem hu
    obtain ⟨hlt, rfl⟩ := hget n u hn
    obtain ⟨e, h1, h2⟩ := split n hlt
    have := (hf _ _ h1 h2).2
    rw [← e] at this
    exact this.one
  · have hlt : i * sz' + j < new.length * sz' := by
      calc i * sz' + j < i * sz' + sz' := by omega
        _ = (i + 1) * sz' := by rw [Nat.add_mul]; omega
        _ ≤ new.length * sz' := Nat.mul_le_mul_right _ (by omega)
    rw [List.getD_eq_getElem?_getD]
    simp only [List.getElem?_map, List.getElem?_range hlt, Option.map_some, Option.getD_some]
    exact (hf i j hi hj).2

theorem run_append_list {t e : Nat} {ti ei : TI} (hT : TIok P t ti) (htd : ti.td = .slice e) (hTe : TIok P e ei) {base : Nat} (hbase : base ≤ w.heap.size) {v : Value} {n : Nat} {xs : List Value} (hown : w.ownsRow base e ei.ck.length v n xs)
    {ad : Option Addr} {cap : Nat} {new : List (List D)} (hC : CellsAt ok w ad new) (hn : ad = none → (Value.slice ad new.length cap) = .slice none 0 0) (hsp : True) (hall : ∀ c ∈ new, c.length = ei.ck.length) (ty : TypeId) (hby : (n + new.length) * ei.bytes ≤ 140737488355328) (h63 : n + new.length ≤ maxLen) :
    ∃ v' w' news, (Builtin.append_ #[t, t] ty #[v, .slice ad new.length cap]).run P w = .ok v' w' ∧ w'.ownsRow base e ei.ck.length v' (n + new.length) (xs ++ news) ∧ w.grownBy w' v.ownBlock ∧
      (v'.ownBlock = v.ownBlock ∨ v'.ownBlock = some w.heap.size) ∧ news.length = new.length * ei.ck.length ∧
      ∀ i j, i < new.length → j < ei.ck.length → Rd ok w (news.getD (i * ei.ck.length + j) undef) ((new.getD i []).getD j default) := by
  obtain ⟨hu, _⟩ := hT.slice_und htd
  obtain ⟨inf, z, hi, hsz, hbi, hz, hzB, _⟩ := hTe.info
  have hzs : z.cells.size = ei.ck.length := by simpa using (zB_vr (ok := ok) (φ := fun _ => undef) (w := w) (hp := []) hzB).1
  cases ad with
  | none =>
    have h0 := hn rfl
    simp only [Value.slice.injEq, true_and] at h0
    have hnew : new = [] := List.eq_nil_of_length_eq_zero h0.1
    subst hnew
    have hr := run_append_owned_none (P := P) w base t ty e inf ei.ck.length hu hi v n xs hown
    refine ⟨v, w, [], by rw [h0.2]; exact hr, by simpa using hown, ⟨rfl, rfl, rfl, Nat.le_refl _, fun _ _ _ => rfl⟩, .inl rfl, by simp, by simp⟩
  | some x =>
    by_cases hne : new = []
    · subst hne
      obtain ⟨v', w', h1, h2, h3, _, h4⟩ := run_append_own_at (P := P) w base t ty e inf z ei.ck.length ei.bytes hu hi hz hsz hbi hzs hTe.pos v n xs hown x 0 cap [] (by simp) (by simp) (by simp) (by simpa using h63) (by simpa using hby) hbase
      exact ⟨v', w', [], h1, h2, h3, h4, by simp, by simp⟩
    · obtain ⟨b, off, hx, news, hl, hc, hone, hrd⟩ := news_of hTe.pos hC hall hne
      simp only [Option.some.injEq] at hx
      subst hx
      obtain ⟨v', w', h1, h2, h3, _, h4⟩ := run_append_own_at (P := P) w base t ty e inf z ei.ck.length ei.bytes hu hi hz hsz hbi hzs hTe.pos v n xs hown ⟨b, off, none⟩ new.length cap news hl hc hone h63 hby hbase
      exact ⟨v', w', news, h1, h2, h3, h4, hl, hrd⟩

theorem joined_rd {sz : Nat} {xs ys : List Value} {es new : List (List D)} {ok' : Nat → Prop} {w' : World} (hx : xs.length = es.length * sz)
    (h1 : ∀ i j, i < es.length → j < sz → Rd ok' w' (xs.getD (i * sz + j) undef) ((es.getD i []).getD j default))
    (h2 : ∀ i j, i < new.length → j < sz → Rd ok' w' (ys.getD (i * sz + j) undef) ((new.getD i []).getD j default)) :
    ∀ i j, i < (es ++ new).length → j < sz → Rd ok' w' ((xs ++ ys).getD (i * sz + j) undef) (((es ++ new).getD i []).getD j default) := by
  intro i j hi hj
  by_cases hl : i < es.length
  · have hidx : i * sz + j < xs.length := by
      rw [hx]
      calc i * sz + j < i * sz + sz := by omega
        _ = (i + 1) * sz := by rw [Nat.add_mul]; omega
        _ ≤ es.length * sz := Nat.mul_le_mul_right _ hl
    have := h1 i j hl hj
    rw [List.getD_eq_getElem?_getD, List.getElem?_append_left hidx, ← List.getD_eq_getElem?_getD]
    rw [List.getD_eq_getElem?_getD (l := es ++ new), List.getElem?_append_left hl, ← List.getD_eq_getElem?_getD]
    exact this
  · have e1 : i * sz + j - xs.length = (i - es.length) * sz + j := by
      rw [hx, Nat.sub_mul]
      have : es.length * sz ≤ i * sz := Nat.mul_le_mul_right _ (by omega)
      omega
    have hge : xs.length ≤ i * sz + j := by
      rw [hx]
      have : es.length * sz ≤ i * sz := Nat.mul_le_mul_right _ (by omega)
      omega
    have := h2 (i - es.length) j (by simp at hi; omega) hj
    rw [List.getD_eq_getElem?_getD, List.getElem?_append_right hge, e1, ← List.getD_eq_getElem?_getD]
    rw [List.getD_eq_getElem?_getD (l := es ++ new), List.getElem?_append_right (by omega), ← List.getD_eq_getElem?_getD]
    exact this

/-- An append to nil. -/
theorem aAppendNil_sound {t e : Nat} {ti ei : TI} (hT : TIok P t ti) (htd : ti.td = .slice e) (hTe : TIok P e ei) (r : Rel B0 bx W0 ok0 Z N ok φ s a w) {key : Nat} (hk : lk s.hp key = none)
    {ad : Option Addr} {cap : Nat} {new : List (List D)} (hC : CellsAt ok w ad new) (hn : ad = none → (Value.slice ad new.length cap) = .slice none 0 0) (hsp : True) (hall : ∀ c ∈ new, c.length = ei.ck.length) (ty : TypeId)
    (hby : new.length * ei.bytes ≤ 140737488355328) (h63 : new.length ≤ maxLen) {K : V → St → Prop} (h : K (.own key) (s.setB key (.lst e ei.ck.length new))) :
    ∃ v' w', (Builtin.append_ #[t, t] ty #[.slice none 0 0, .slice ad new.length cap]).run P w = .ok v' w' ∧ Pst B0 bx W0 ok0 Z N a (Frm [] φ s w) K v' w' := by
  have hpos := hTe.pos
  obtain ⟨v', w', news, hrun, hown, hgr, hblk, hl, hrd⟩ := run_append_list (P := P) hT htd hTe (Nat.le_refl w.heap.size) (World.ownsRow_nil w w.heap.size e ei.ck.length) hC hn hsp hall ty (by simpa using hby) (by simpa using h63)
  simp only [Nat.zero_add, List.nil_append] at hown
  have hgr' : ∀ b, b < w.heap.size → w'.heap[b]? = w.heap[b]? := fun b hb => hgr.block b hb (by simp [Value.ownBlock])
  have hv1 : v'.oneCell' = true := by
    rcases hown.2 with ⟨rfl, _⟩ | ⟨g, cap, cur, rfl, _⟩ <;> rfl
  have hblk' : ∀ g, blockOf v' = some g → g = w.heap.size ∧ g < w'.heap.size := by
    intro g hg
    rcases hown.2 with ⟨rfl, _⟩ | ⟨g', cap, cur, rfl, hb, hh, _⟩
    · simp [blockOf] at hg
    · simp [blockOf] at hg; subst hg
      simp [Value.ownBlock] at hblk
      exact ⟨hblk, (Array.getElem?_eq_some_iff.1 hh).1⟩
  have h2 : ∀ b, ok b → w'.heap[b]? = w.heap[b]? := fun b hb => hgr' b (r.okl b hb)
  have h3 : ∀ k, ¬ False → lk s.hp k ≠ none → updF φ key v' k = φ k := fun k _ hn => by simp only [updF]; rw [if_neg (by rintro rfl; exact hn hk)]
  have h4 : ∀ k, ¬ False → Sim s.hp (pt s.hp key (.lst e ei.ck.length new)) k := fun k _ => by
    unfold Sim
    rw [lk_pt]
    by_cases h : key = k
    · subst h; rw [hk]; trivial
    · rw [if_neg h]; exact Sim.refl s.hp k
  refine ⟨v', w', hrun, .own key, _, ok, updF φ key v', h, ?_, .own (sz := ei.ck.length) (es := new) (.inl ⟨e, by simp [St.setB, lk_pt]⟩) (by simp [updF]), ⟨hgr.size, fun g hg _ => hgr' g hg, fun k b' g hb ha hg hlt => ?_⟩⟩
  rotate_left
  · simp only [St.setB] at hb
    rw [lk_pt] at hb
    by_cases e : key = k
    · subst e
      simp only [updF, if_true] at hg
      have := hblk' g hg; omega
    · rw [if_neg e] at hb
      simp only [updF, if_neg (Ne.symm e)] at hg
      exact ⟨k, b', hb, ha, hg, .inl rfl⟩
  refine r.step (fun _ => False) (fun _ h => h.elim) (fun _ h => h) h2 h3 h4 (fun k b' hb => ?_) (fun k b' g hb ha hg => ?_) (fun k k' b1 b2 g hne hb1 hb2 ha1 ha2 hg1 hg2 => ?_) (fun k => ?_) (fun b hb => Nat.lt_of_lt_of_le (r.okl b hb) hgr.size) r.oks ?_
  · rw [lk_pt] at hb
    by_cases h : key = k
    · subst h
      rw [if_pos rfl] at hb
      simp only [Option.some.injEq] at hb; subst hb
      simp only [updF, if_true]
      refine ⟨hpos, hall, news, ⟨hown.1, ?_⟩, fun i j hi hj => (hrd i j hi hj).mono (fun _ h => h) h2⟩
      rcases hown.2 with hnil | ⟨g, cap, cur, rfl, hb, rest⟩
      · exact .inl hnil
      · exact .inr ⟨g, cap, cur, rfl, Nat.le_trans r.b0 hb, rest⟩
    · rw [if_neg h] at hb
      have : updF φ key v' k = φ k := by simp [updF, Ne.symm h]
      rw [this]
      exact (r.hp k b' hb).keep (fun _ => False) (fun _ _ h => h.elim) (fun _ h => h) h2 h3 h4 (fun ha g hg => hgr' g ((r.hp k b' hb).block_lt ha hg))
  · rw [lk_pt] at hb
    by_cases h : key = k
    · subst h
      simp only [updF, if_true] at hg
      have := hblk' g hg
      exact ⟨fun hok => by have := r.okl _ hok; omega, .inl (by have := r.b0; omega)⟩
    · rw [if_neg h] at hb
      simp only [updF, if_neg (Ne.symm h)] at hg
      exact r.act k b' g hb ha hg
  · rw [lk_pt] at hb1 hb2
    by_cases h : key = k
    · subst h
      rw [if_neg hne] at hb2
      simp only [updF, if_true] at hg1
      simp only [updF, if_neg (Ne.symm hne)] at hg2
      have := hblk' g hg1
      have := (r.hp k' b2 hb2).block_lt ha2 hg2
      omega
    · rw [if_neg h] at hb1
      simp only [updF, if_neg (Ne.symm h)] at hg1
      by_cases h' : key = k'
      · subst h'
        simp only [updF, if_true] at hg2
        have := hblk' g hg2
        have := (r.hp k b1 hb1).block_lt ha1 hg1
        omega
      · rw [if_neg h'] at hb2
        simp only [updF, if_neg (Ne.symm h')] at hg2
        exact r.inj k k' b1 b2 g hne hb1 hb2 ha1 ha2 hg1 hg2
  · simp only [updF]; split
    · exact hv1
    · exact r.one k
  · exact ⟨hgr.os, hgr.tape, hgr.output, hgr.size, fun k hk _ => hgr' k (Nat.lt_of_lt_of_le hk r.b0)⟩

/-- An append to an own slice; nothing else names it any more. -/
theorem aAppendOwn_sound {t e : Nat} {ti ei : TI} (hT : TIok P t ti) (htd : ti.td = .slice e) (hTe : TIok P e ei) (r : Rel B0 bx W0 ok0 Z N ok φ s a w) {k : Nat} {es : List (List D)} (hb : lk s.hp k = some (.lst e ei.ck.length es))
    {ad : Option Addr} {cap : Nat} {new : List (List D)} (hC : CellsAt ok w ad new) (hn : ad = none → (Value.slice ad new.length cap) = .slice none 0 0) (hsp : True) (hall : ∀ c ∈ new, c.length = ei.ck.length) (ty : TypeId)
    (hby : (es.length + new.length) * ei.bytes ≤ 140737488355328) (h63 : es.length + new.length ≤ maxLen) {K : V → St → Prop} (h : K (.own k) ((s.strike k).setB k (.lst e ei.ck.length (es ++ new)))) :
    ∃ v' w', (Builtin.append_ #[t, t] ty #[φ k, .slice ad new.length cap]).run P w = .ok v' w' ∧ Pst B0 bx W0 ok0 Z N a (Frm [k] φ s w) K v' w' := by
  have hpos := hTe.pos
  have rs := r.strike k
  have hnn := noName_strike s k
  have hbs : lk (s.strike k).hp k = some (.lst e ei.ck.length es) := by simp only [St.strike]; rw [lk_strikeH, hb]; rfl
  obtain ⟨_, hall0, xs, hown0, hrd0⟩ := rs.hp k _ hbs
  obtain ⟨v', w', news, hrun, hown, hgr, hblk, hl, hrd⟩ := run_append_list (P := P) hT htd hTe r.b0 hown0 hC hn hsp hall ty hby h63
  have hoB : ∀ g, blockOf (φ k) = some g → ¬ ok g ∧ (B0 ≤ g ∨ g ∈ bx) := fun g hg => r.act k _ g hb rfl hg
  have hownb : ∀ b, (φ k).ownBlock ≠ some b → b < w.heap.size → w'.heap[b]? = w.heap[b]? := fun b hne hb => hgr.block b hb (fun e => hne e.symm)
  have hsame : (φ k).ownBlock = blockOf (φ k) := by
    rcases hown0.2 with ⟨hv, _⟩ | ⟨g, cap, cur, hv, _⟩ <;> rw [hv] <;> rfl
  have hv1 : v'.oneCell' = true := by
    rcases hown.2 with ⟨rfl, _⟩ | ⟨g, cap, cur, rfl, _⟩ <;> rfl
  have hvsame : v'.ownBlock = blockOf v' := by
    rcases hown.2 with ⟨rfl, _⟩ | ⟨g, cap, cur, rfl, _⟩ <;> rfl
  rw [hsame, hvsame] at hblk
  rw [hsame] at hownb
  have h2 : ∀ b, ok b → w'.heap[b]? = w.heap[b]? := fun b hb => hownb b (fun e => (hoB b e).1 hb) (r.okl b hb)
  let X : Nat → Prop := fun j => j = k
  have hX : ∀ j, X j → NoName (s.strike k) j := fun j hj => by cases hj; exact hnn
  have h3 : ∀ j, ¬ X j → lk (s.strike k).hp j ≠ none → updF φ k v' j = φ j := fun j hj _ => by simp only [updF]; rw [if_neg hj]
  have h4 : ∀ j, ¬ X j → Sim (s.strike k).hp (pt (s.strike k).hp k (.lst e ei.ck.length (es ++ new))) j := fun j hj => by
    unfold Sim
    rw [lk_pt, if_neg (fun e => hj e.symm)]; exact Sim.refl _ j
  have hB0' : ∀ g, blockOf v' = some g → ¬ ok g ∧ (B0 ≤ g ∨ g ∈ bx) := by
    intro g hg
    rcases hblk with e | e
    · exact hoB g (by rw [← e]; exact hg)
    · rw [hg] at e
      simp only [Option.some.injEq] at e
      subst e
      exact ⟨fun ho => by have := r.okl _ ho; omega, .inl r.b0⟩
  have hdis : ∀ j b g, j ≠ k → lk (s.strike k).hp j = some b → b.active = true → blockOf (φ j) = some g → blockOf v' ≠ some g := by
    intro j b g hj hb' ha hg hg'
    rcases hblk with e | e
    · exact rs.inj j k b _ g hj hb' hbs ha rfl hg (by rw [← e]; exact hg')
    · rw [hg'] at e
      simp only [Option.some.injEq] at e
      have := (rs.hp j b hb').block_lt ha hg
      omega
  refine ⟨v', w', hrun, .own k, _, ok, updF φ k v', h, ?_, .own (sz := ei.ck.length) (es := es ++ new) (.inl ⟨e, by simp [St.setB, lk_pt]⟩) (by simp [updF]), ⟨hgr.size, fun g hg hn => hownb g (fun e => hn k _ (by simp) hb rfl e) hg, fun j b' g hb' ha hg hlt => ?_⟩⟩
  rotate_left
  · simp only [St.setB] at hb'
    rw [lk_pt] at hb'
    by_cases e : k = j
    · subst e
      simp only [updF, if_true] at hg
      rcases hblk with e | e
      · exact ⟨_, _, hb, rfl, by rw [← e]; exact hg, .inl rfl⟩
      · rw [hg] at e; simp at e; omega
    · rw [if_neg e] at hb'
      simp only [updF, if_neg (Ne.symm e)] at hg
      simp only [St.strike] at hb'
      rw [lk_strikeH] at hb'
      cases hb0 : lk s.hp j with
      | none => rw [hb0] at hb'; cases hb'
      | some b0 =>
        rw [hb0] at hb'
        refine ⟨j, b0, hb0, ?_, hg, .inl rfl⟩
        simp only [Option.map_some, Option.some.injEq] at hb'
        subst hb'
        cases b0 <;> first | rfl | exact ha
  refine rs.step X hX (hXp := fun j hj cs => by cases hj; rw [hbs]; simp) (fun _ h => h) h2 h3 h4 (fun j b' hb' => ?_) (fun j b' g hb' ha hg => ?_) (fun j j' b1 b2 g hne hb1 hb2 ha1 ha2 hg1 hg2 => ?_) (fun j => ?_) (fun b hb => Nat.lt_of_lt_of_le (r.okl b hb) hgr.size) r.oks ?_
  · rw [lk_pt] at hb'
    by_cases h : k = j
    · subst h
      rw [if_pos rfl] at hb'
      simp only [Option.some.injEq] at hb'; subst hb'
      simp only [updF, if_true]
      refine ⟨hpos, ?_, xs ++ news, by simpa using hown, ?_⟩
      · intro c hc
        rcases List.mem_append.1 hc with hc | hc
        · exact hall0 c hc
        · exact hall c hc
      · exact joined_rd hown0.1 (fun i j hi hj => (hrd0 i j hi hj).mono (fun _ h => h) h2) (fun i j hi hj => (hrd i j hi hj).mono (fun _ h => h) h2)
    · rw [if_neg h] at hb'
      have : updF φ k v' j = φ j := by simp [updF, Ne.symm h]
      rw [this]
      refine (rs.hp j b' hb').keep X (fun i cs hi hbox => by cases hi; subst hbox; exact hnn.hp j cs hb') (fun _ h => h) h2 h3 h4 (fun ha g hg => hownb g ?_ ((rs.hp j b' hb').block_lt ha hg))
      exact fun e => rs.inj j k b' _ g (Ne.symm h) hb' hbs ha rfl hg e
  · rw [lk_pt] at hb'
    by_cases h : k = j
    · subst h
      simp only [updF, if_true] at hg
      exact hB0' g hg
    · rw [if_neg h] at hb'
      simp only [updF, if_neg (Ne.symm h)] at hg
      exact rs.act j b' g hb' ha hg
  · rw [lk_pt] at hb1 hb2
    by_cases h : k = j
    · subst h
      rw [if_neg hne] at hb2
      simp only [updF, if_true] at hg1
      simp only [updF, if_neg (Ne.symm hne)] at hg2
      exact hdis j' b2 g (Ne.symm hne) hb2 ha2 hg2 hg1
    · rw [if_neg h] at hb1
      simp only [updF, if_neg (Ne.symm h)] at hg1
      by_cases h' : k = j'
      · subst h'
        simp only [updF, if_true] at hg2
        exact hdis j b1 g hne hb1 ha1 hg1 hg2
      · rw [if_neg h'] at hb2
        simp only [updF, if_neg (Ne.symm h')] at hg2
        exact rs.inj j j' b1 b2 g hne hb1 hb2 ha1 ha2 hg1 hg2
  · simp only [updF]; split
    · exact hv1
    · exact r.one j
  · refine ⟨hgr.os, hgr.tape, hgr.output, hgr.size, fun i hi hbx => hownb i ?_ (Nat.lt_of_lt_of_le hi r.b0)⟩
    intro e
    rcases (hoB i e).2 with h | h
    · omega
    · exact hbx h

end Go.Dm
