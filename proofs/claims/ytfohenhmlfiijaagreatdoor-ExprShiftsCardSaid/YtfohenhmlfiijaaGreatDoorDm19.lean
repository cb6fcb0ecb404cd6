/- Blocks that hold no cells may turn; blocks let in; captured boxes become data; the frame of a round. -/
import Derived.Test.YtfohenhmlfiijaaGreatDoorDm17
import Derived.RangeFuncLeaves
import Derived.RangeFuncRecord
namespace Go.Dm

variable {P : Program} {E : Env} {C : CallT} {I : Nat → List V → List V → St → (V → St → Prop) → Prop}
variable {B0 : Nat} {bx : List Nat} {W0 : World} {ok0 : Nat → Prop} {Z : Zr} {N : Nat}

theorem vd_agg {ok : Nat → Prop} {φ : Nat → Value} {s : St} {w : World} {xs : Array Value} {cs : List D} (hs : xs.size = cs.length) (h : ∀ (i : Nat) (x : D) (v : Value), cs[i]? = some x → xs[i]? = some v → Rd ok w v x) : VR ok φ s.hp w (.agg (vd cs)) (.agg xs) :=
  .agg (by rw [vd_length]; exact hs) fun i c x hc hx => by
    rw [vd_get] at hc
    cases hcs : cs[i]? with
    | none => rw [hcs] at hc; cases hc
    | some d => rw [hcs] at hc; simp at hc; subst hc; exact .d (h i d x hcs hx)


def isCl : Obj → Bool
  | .cells .. => true
  | _ => false

theorem cell_turn {w : World} {L : Nat} {o o' : Obj} (hL : w.heap[L]? = some o) (ho : isCl o = false) (ho' : isCl o' = false) (a : Addr) : (w.putObj L o').cell? a = w.cell? a := by
  by_cases e : a.block = L
  · have h1 : (w.putObj L o').heap[a.block]? = some o' := by rw [e]; exact World.putObj_heap_same (Array.getElem?_eq_some_iff.1 hL).1
    have h2 : w.heap[a.block]? = some o := by rw [e]; exact hL
    unfold World.cell?
    rw [h1, h2]
    cases o <;> cases o' <;> first | rfl | (simp [isCl] at ho; done) | (simp [isCl] at ho'; done)
  · exact World.cell?_of_block (World.putObj_heap_other e)

theorem Rd.cmono {ok ok' : Nat → Prop} {w w' : World} {v : Value} {d : D} (h : Rd ok w v d) (h1 : ∀ b, ok b → ok' b) (hc : ∀ a, w'.cell? a = w.cell? a) : Rd ok' w' v d := by
  induction h with
  | v h => exact .v h
  | nil => exact .nil
  | nul => exact .nul
  | @sl b off cap es sz x hcap hok hsz hcc hr ih =>
    exact .sl sz x hcap (fun h => h1 _ (hok h)) hsz (fun i j hi hj => by rw [hc]; exact hcc i j hi hj) (fun i j hi hj => ih i j hi hj)

theorem VR.cmono {ok ok' : Nat → Prop} {φ : Nat → Value} {hp : List (Nat × B)} {w w' : World} {c : V} {v : Value} (h : VR ok φ hp w c v) (h1 : ∀ b, ok b → ok' b) (hc : ∀ a, w'.cell? a = w.cell? a) : VR ok' φ hp w' c v := by
  induction h with
  | dead v => exact .dead v
  | d h => exact .d (h.cmono h1 hc)
  | nil => exact .nil
  | agg hs h ih => exact .agg hs ih
  | tup hs h ih => exact .tup hs ih
  | ref hb h => exact .ref hb h
  | own hb h => exact .own hb h
  | optr hb h => exact .optr hb h
  | dptr x hok hcc hr => exact .dptr x (fun h => h1 _ (hok h)) (fun j hj => by rw [hc]; exact hcc j hj) (fun j hj => (hr j hj).cmono h1 hc)
  | fn hs h ih => exact .fn hs ih
  | yld => exact .yld

theorem owns_turn {w : World} {base : Nat} {e : TypeId} {size : Nat} {v : Value} {k : Nat} {xs : List Value} (h : w.ownsRow base e size v k xs) {L : Nat} {o o' : Obj} (hL : w.heap[L]? = some o) (ho : isCl o = false) : (w.putObj L o').ownsRow base e size v k xs := by
  refine h.kept (row := some L) ⟨rfl, rfl, rfl, by simp, fun k _ hk => World.putObj_heap_other (fun e => hk (by rw [e]))⟩ ?_
  rcases h.2 with ⟨rfl, _⟩ | ⟨g, cap, cur, rfl, _, hgb, _⟩
  · exact .inl rfl
  · refine .inr fun e' => ?_
    obtain rfl : g = L := by simpa [Value.ownBlock] using e'
    rw [hgb] at hL; cases hL; cases ho

theorem BR.turn {ok : Nat → Prop} {φ : Nat → Value} {hp : List (Nat × B)} {w : World} {v : Value} {b : B} (h : BR B0 ok φ hp w v b) {L : Nat} {o o' : Obj} (hL : w.heap[L]? = some o) (ho : isCl o = false) (ho' : isCl o' = false) : BR B0 ok φ hp (w.putObj L o') v b := by
  have hc := cell_turn hL ho ho'
  cases b with
  | box cs =>
    obtain ⟨g, arr, T, h1, h2, h3, h4⟩ := h
    refine ⟨g, arr, T, h1, ?_, h3, fun j c x a b => (h4 j c x a b).cmono (fun _ h => h) hc⟩
    rw [World.putObj_heap_other (by rintro rfl; rw [h2] at hL; cases hL; cases ho)]
    exact h2
  | lst e sz es =>
    obtain ⟨h1, h2, xs, h3, h4⟩ := h
    exact ⟨h1, h2, xs, owns_turn h3 hL ho, fun i j a b => (h4 i j a b).cmono (fun _ h => h) hc⟩
  | fro sz es =>
    obtain ⟨h1, h2, h3, h4⟩ := h
    exact ⟨h1, h2, h3.cmono (fun _ h => h) hc, h4⟩

/-- A block that holds no cells turns. -/
theorem Rel.turn {ok : Nat → Prop} {φ : Nat → Value} {s : St} {a : Act} {w : World} (r : Rel B0 bx W0 ok0 Z N ok φ s a w) {L : Nat} {o o' : Obj} (hL : w.heap[L]? = some o) (ho : isCl o = false) (ho' : isCl o' = false)
    (hB : B0 ≤ L) (Z' : Zr) (hz : ∀ b o, Z'.z b = some o → ok b ∧ (w.putObj L o').heap[b]? = some o) (hro : Z'.ro = Z.ro) (hn : Z'.n ≤ w.heap.size)
    {a' : Act} (hta : a'.tmps = a.tmps) (hdf : ∃ Ds : List Nat, Ds.Nodup ∧ a'.defers = Ds.map mark ∧ ∀ D ∈ Ds, (B0 ≤ D ∧ Z'.n ≤ D) ∧ ok D ∧ (w.putObj L o').heap[D]? = some (.deferred (some []))) :
    Rel B0 bx W0 ok0 Z' N ok φ s a' (w.putObj L o') := by
  have hc := cell_turn hL ho ho'
  exact {
    sz := by rw [hta]; exact r.sz
    tm := fun t x h => by rw [hta]; exact (r.tm t x h).cmono (fun _ h => h) hc
    gd := fun t t' w' x h hw => by rw [hta] at hw ⊢; exact (r.gd t t' w' x h hw).cmono (fun _ h => h) hc
    gu := fun t t' w' b h hw => by rw [hta] at hw ⊢; exact r.gu t t' w' b h hw
    kn := fun t b h => by rw [hta]; exact r.kn t b h
    rt := fun d l t x hl h => by rw [hro]; exact (r.rt d l t x hl h).cmono (fun _ h => h) hc
    hp := fun k b h => (r.hp k b h).turn hL ho ho'
    act := r.act
    inj := r.inj
    one := r.one
    okl := fun b h => by simpa using r.okl b h
    oks := r.oks
    ok0 := r.ok0
    upd := r.upd.trans ⟨rfl, rfl, rfl, by simp, fun k hk _ => World.putObj_heap_other (by omega)⟩
    b0 := by simpa using r.b0
    df := hdf
    zs := by simpa using hn
    kz := hz
    pin := r.pin }

/-- What must lie is told anew, and the frame. -/
theorem Rel.reZ {ok : Nat → Prop} {φ : Nat → Value} {s : St} {a : Act} {w : World} (r : Rel B0 bx W0 ok0 Z N ok φ s a w) (Z' : Zr) (hz : ∀ b o, Z'.z b = some o → ok b ∧ w.heap[b]? = some o) (hn : Z'.n ≤ w.heap.size) {N' : Nat} {s' : St} {a' : Act}
    (hhp : s'.hp = s.hp) (hgd : s'.gd = []) (hsz : a'.tmps.size = N') (htm : ∀ t x, lk s'.tm t = some x → VR ok φ s.hp w x (a'.tmps.getD t undef)) (hkn : ∀ t b, lk s'.kn t = some b → a'.tmps.getD t undef = .bool b)
    (hrt : ∀ d l t x, nth s'.rt d = some l → lk l t = some x → VR ok φ s.hp w x (Z'.ro d t))
    (hdf : ∃ Ds : List Nat, Ds.Nodup ∧ a'.defers = Ds.map mark ∧ ∀ D ∈ Ds, (B0 ≤ D ∧ Z'.n ≤ D) ∧ ok D ∧ w.heap[D]? = some (.deferred (some []))) :
    Rel B0 bx W0 ok0 Z' N' ok φ s' a' w := {
    sz := hsz
    tm := by rw [hhp]; exact htm
    gd := fun t t' w' x h => by rw [hgd] at h; simp [lk] at h
    gu := fun t t' w' b h => by rw [hgd] at h; simp [lk] at h
    kn := hkn
    rt := by rw [hhp]; exact hrt
    hp := by rw [hhp]; exact r.hp
    act := by rw [hhp]; exact r.act
    inj := by rw [hhp]; exact r.inj
    one := r.one
    okl := r.okl
    oks := r.oks
    ok0 := r.ok0
    upd := r.upd
    b0 := r.b0
    df := hdf
    zs := hn
    kz := hz
    pin := by rw [hhp]; exact r.pin }

/-- Blocks are let in. -/
theorem Rel.addOk {ok ok' : Nat → Prop} {φ : Nat → Value} {s : St} {a : Act} {w : World} (r : Rel B0 bx W0 ok0 Z N ok φ s a w) (h1 : ∀ b, ok b → ok' b) (hl : ∀ b, ok' b → b < w.heap.size) (hs : ∀ b, ok' b → ok0 b ∨ B0 ≤ b)
    (ha : ∀ k b g, lk s.hp k = some b → b.active = true → blockOf (φ k) = some g → ¬ ok' g) : Rel B0 bx W0 ok0 Z N ok' φ s a w := {
    sz := r.sz
    tm := fun t x h => (r.tm t x h).cmono h1 (fun _ => rfl)
    gd := fun t t' w' x h hw => (r.gd t t' w' x h hw).cmono h1 (fun _ => rfl)
    gu := r.gu
    kn := r.kn
    rt := fun d l t x hl h => (r.rt d l t x hl h).cmono h1 (fun _ => rfl)
    hp := fun k b h => (r.hp k b h).keep (fun _ => False) (fun _ _ h => h.elim) h1 (fun _ _ => rfl) (fun _ _ _ => rfl) (fun k _ => Sim.refl _ k) (fun _ _ _ => rfl)
    act := fun k b g h h2 h3 => ⟨ha k b g h h2 h3, (r.act k b g h h2 h3).2⟩
    inj := r.inj
    one := r.one
    okl := hl
    oks := hs
    ok0 := fun b h => h1 b (r.ok0 b h)
    upd := r.upd
    b0 := r.b0
    df := by
      obtain ⟨Ds, e1, e2, e3⟩ := r.df
      exact ⟨Ds, e1, e2, fun D hD => ⟨(e3 D hD).1, h1 D (e3 D hD).2.1, (e3 D hD).2.2⟩⟩
    zs := r.zs
    kz := fun b o h => ⟨h1 b (r.kz b o h).1, (r.kz b o h).2⟩
    pin := r.pin }

theorem cpV_append (l m : List Cp) : cpV (l ++ m) = cpV l ++ cpV m := by
  induction l with
  | nil => rfl
  | cons c l ih => cases c <;> simp [cpV, ih]

/-- Captured variables become data. -/
theorem frzCaps_sound : ∀ {caps : List V} {ok : Nat → Prop} {φ : Nat → Value} {s s' : St} {a : Act} {w : World} {cps : List Cp} {vs : List Value}, Rel B0 bx W0 ok0 Z N ok φ s a w → vs.length = caps.length →
    (∀ (i : Nat) (c : V) (x : Value), caps[i]? = some c → vs[i]? = some x → VR ok φ s.hp w c x) → frzCaps s caps = some (cps, s') →
    ∃ ok', Rel B0 bx W0 ok0 Z N ok' φ s' a w ∧ (∀ b, ok b → ok' b) ∧ (cpV cps).length = vs.length ∧ (∀ (i : Nat) (c : V) (x : Value), (cpV cps)[i]? = some c → vs[i]? = some x → VR ok' (fun _ => .int .i64 0) [] w c x) := by
  intro caps
  induction caps with
  | nil =>
    intro ok φ s s' a w cps vs r hl hv h
    simp only [frzCaps, Option.some.injEq, Prod.mk.injEq] at h
    obtain ⟨rfl, rfl⟩ := h
    exact ⟨ok, r, fun _ h => h, by simp at hl; simp [cpV, hl], fun i c x h => by simp [cpV] at h⟩
  | cons c0 caps ih =>
    intro ok φ s s' a w cps vs r hl hv h
    cases vs with
    | nil => simp at hl
    | cons v0 vs =>
    have hl' : vs.length = caps.length := by simpa using hl
    have hv0 := hv 0 c0 v0 rfl rfl
    have hvr : ∀ (i : Nat) (c : V) (x : Value), caps[i]? = some c → vs[i]? = some x → VR ok φ s.hp w c x := fun i c x h1 h2 => hv (i + 1) c x (by simpa using h1) (by simpa using h2)
    have fin : ∀ {ok1 : Nat → Prop} {s1 : St} {c : Cp} {l : List Cp}, (∀ b, ok b → ok1 b) → Rel B0 bx W0 ok0 Z N ok1 φ s1 a w → (∀ (i : Nat) (c : V) (x : Value), caps[i]? = some c → vs[i]? = some x → VR ok1 φ s1.hp w c x) →
        VR ok1 (fun _ => .int .i64 0) [] w (cpV [c]).head! v0 → frzCaps s1 caps = some (l, s') → cps = c :: l →
        ∃ ok', Rel B0 bx W0 ok0 Z N ok' φ s' a w ∧ (∀ b, ok b → ok' b) ∧ (cpV cps).length = (v0 :: vs).length ∧ (∀ (i : Nat) (c : V) (x : Value), (cpV cps)[i]? = some c → (v0 :: vs)[i]? = some x → VR ok' (fun _ => .int .i64 0) [] w c x) := by
      intro ok1 s1 c l h1 r1 hv1 hc hf he
      subst he
      obtain ⟨ok2, r2, h2, hl2, hv2⟩ := ih r1 hl' hv1 hf
      have e : cpV (c :: l) = (cpV [c]).head! :: cpV l := by cases c <;> rfl
      refine ⟨ok2, r2, fun b hb => h2 b (h1 b hb), by rw [e]; simp [hl2], fun i c' x h3 h4 => ?_⟩
      rw [e] at h3
      cases i with
      | zero => simp at h3 h4; subst h3; subst h4; exact hc.cmono h2 (fun _ => rfl)
      | succ i => exact hv2 i c' x (by simpa using h3) (by simpa using h4)
    have viaD : (∀ cs, c0 ≠ .dptr cs) → (∀ k, c0 ≠ .ref k 0) → ∃ ok', Rel B0 bx W0 ok0 Z N ok' φ s' a w ∧ (∀ b, ok b → ok' b) ∧ (cpV cps).length = (v0 :: vs).length ∧ (∀ (i : Nat) (c : V) (x : Value), (cpV cps)[i]? = some c → (v0 :: vs)[i]? = some x → VR ok' (fun _ => .int .i64 0) [] w c x) := by
      intro n1 n2
      have h' : (match toD s c0 with | some (x, s) => (match frzCaps s caps with | some (l, s) => some (Cp.d x :: l, s) | none => none) | none => none) = some (cps, s') := by
        rw [← h]
        cases c0 with
        | dptr cs => exact (n1 cs rfl).elim
        | ref k off => cases off with
          | zero => exact (n2 k rfl).elim
          | succ n => rfl
        | _ => rfl
      split at h'
      · rename_i x s1 hd
        split at h'
        · rename_i l s2 hf
          simp only [Option.some.injEq, Prod.mk.injEq] at h'
          obtain ⟨rfl, rfl⟩ := h'
          obtain ⟨ok1, r1, hrd, h1, hs1⟩ := toD_sound r hv0 hd
          exact fin h1 r1 (fun i c x h2 h3 => (hvr i c x h2 h3).mono h1 (fun _ _ => rfl) (fun _ _ _ => rfl) (fun j _ => hs1 j)) (.d hrd) hf rfl
        · cases h'
      · cases h'
    cases c0 with
    | dptr cs =>
      simp only [frzCaps] at h
      split at h
      · rename_i l s1 hf
        simp only [Option.some.injEq, Prod.mk.injEq] at h
        obtain ⟨rfl, rfl⟩ := h
        exact fin (c := .ptr cs) (fun _ h => h) r hvr (hv0.toBare (fun k => rfl)) hf rfl
      · cases h
    | ref k off =>
      cases off with
      | succ n => exact viaD (fun _ h => by cases h) (fun _ h => by cases h)
      | zero =>
        simp only [frzCaps] at h
        split at h
        rotate_left
        · cases h
        rename_i cs hk hnn hb
        split at h
        rotate_left
        · cases h
        rename_i ds s1 hds
        split at h
        rotate_left
        · cases h
        rename_i l s2 hf
        simp only [Option.some.injEq, Prod.mk.injEq] at h
        obtain ⟨rfl, rfl⟩ := h
        have hlt : k < 100000 := by
          rcases Nat.lt_or_ge k 100000 with h' | h'
          · exact h'
          · rw [Nat.ble_eq_true_of_le h'] at hk; cases hk
        cases hv0
        rename_i g cs' hb' hφ
        obtain ⟨g', arr, T, hp, hh, hs, hr⟩ := r.hp k _ hb
        rw [hφ] at hp; simp at hp; subst hp
        obtain ⟨ok1, r1, hl1, hrd, h1, hs1⟩ := toDs_sound (vs := arr.toList) r (by simpa using hs) (fun i c y hc hy => hr i c y hc (by simpa using hy)) hds
        have hbx1 := (hs1 k).box hb
        obtain ⟨cs1, hb1⟩ := hbx1
        have hg : blockOf (φ k) = some g := by rw [hφ]; rfl
        obtain ⟨hno, hB⟩ := r1.act k _ g hb1 rfl hg
        have hB' : B0 ≤ g := by
          rcases hB with hB | hB
          · exact hB
          · obtain ⟨i, hi⟩ := List.getElem?_of_mem hB
            obtain ⟨p1, cs2, p2⟩ := r1.pin i g hi
            exact (r1.inj k (100000 + i) _ _ g (by omega) hb1 p2 rfl rfl hg (by rw [p1]; rfl)).elim
        have r2 := r1.drop hlt
        have hdrop : ∀ j b, lk (s1.drop k).hp j = some b → k ≠ j ∧ ∃ b', lk s1.hp j = some b' ∧ b'.active = b.active := fun j b h => by
          simp only [St.drop] at h
          rw [lk_rm] at h
          split at h
          · cases h
          · rename_i e
            rw [lk_strikeH] at h
            cases h0 : lk s1.hp j with
            | none => rw [h0] at h; cases h
            | some b0 =>
              rw [h0] at h
              simp only [Option.map_some, Option.some.injEq] at h
              subst h
              exact ⟨e, b0, rfl, by cases b0 <;> rfl⟩
        have r3 : Rel B0 bx W0 ok0 Z N (fun b => ok1 b ∨ b = g) φ (s1.drop k) a w := r2.addOk (fun b hb => .inl hb) (fun b hb => by
            rcases hb with hb | rfl
            · exact r1.okl b hb
            · exact (Array.getElem?_eq_some_iff.1 hh).1) (fun b hb => by
            rcases hb with hb | rfl
            · exact r1.oks b hb
            · exact .inr hB') (fun j b g' hj ha hg' => by
            obtain ⟨e1, b', e2, e3⟩ := hdrop j b hj
            rintro (hx | rfl)
            · exact (r1.act j b' g' e2 (by rw [e3]; exact ha) hg').1 hx
            · exact r1.inj k j _ b' g' e1 hb1 e2 rfl (by rw [e3]; exact ha) hg hg')
        have hl1' : ds.length = arr.size := hl1.trans hs.symm
        refine fin (c := .ptr ds) (ok1 := fun b => ok1 b ∨ b = g) (fun b hb => .inl (h1 b hb)) r3 (fun i c x h2 h3 => ?_) ?_ hf rfl
        · have hnk : V.names k c = false := (namesL_iff k caps).1 hnn c (List.mem_of_getElem? h2)
          have := (hvr i c x h2 h3).mono h1 (fun _ _ => rfl) (fun _ _ _ => rfl) (fun j _ => hs1 j)
          refine this.mono (fun b hb => .inl hb) (fun _ _ => rfl) (fun _ _ _ => rfl) (fun j hj => ?_)
          have hne : k ≠ j := by rintro rfl; rw [hnk] at hj; cases hj
          have := sim_strike k j s1.hp
          unfold Sim at this ⊢
          simp only [St.drop]
          rw [lk_rm, if_neg hne]
          exact this
        · have hcell : ∀ j, j < ds.length → w.cell? ⟨g, 0 + j, none⟩ = some (arr.getD j undef) := fun j hj => by
            have hj' : j < arr.size := by omega
            simp [World.cell?, hh, hj']
          refine .dptr (fun j => arr.getD j undef) (fun _ => .inr rfl) hcell (fun j hj => ?_)
          have hj' : j < arr.size := by omega
          have e1 : arr.getD j undef = arr[j] := by simp [hj']
          rw [e1]
          refine (hrd j (ds.getD j default) arr[j] (by simp [hj]) (by simp [hj'])).cmono (fun b hb => .inl hb) (fun _ => rfl)
    | _ => exact viaD (fun _ h => by cases h) (fun _ h => by cases h)

end Go.Dm
