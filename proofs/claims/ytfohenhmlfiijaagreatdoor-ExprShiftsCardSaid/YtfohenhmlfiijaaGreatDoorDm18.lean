/- A function's contract from what its code asks. -/
import Derived.Test.YtfohenhmlfiijaaGreatDoorDm20
namespace Go.Dm

variable {P : Program} {E : Env} {C : CallT} {I : Nat → List V → List V → St → (V → St → Prop) → Prop}
variable {B0 : Nat} {bx : List Nat} {W0 : World} {ok0 : Nat → Prop} {Z : Zr} {N : Nat}
variable {ok : Nat → Prop} {φ : Nat → Value} {s : St} {a : Act} {w : World}

theorem Rel.lay (r : Rel B0 bx W0 ok0 Z N ok φ s a w) (t : Nat) {x : V} (h : VR ok φ s.hp w x (a.tmps.getD t undef)) : Rel B0 bx W0 ok0 Z N ok φ { s with tm := pt s.tm t x } a w :=
  { r with
    tm := fun u y hy => by
      dsimp only at hy
      rw [lk_pt] at hy
      by_cases e : t = u
      · subst e; simp at hy; subst hy; exact h
      · rw [if_neg e] at hy; exact r.tm u y hy }

theorem argsSt_rel {rs : List R} {vs : List Value} {bs : List Nat} (hA : ArgsR ok w bs rs vs) : ∀ (t : Nat) (pre : List Nat) (φ : Nat → Value) (s : St), (pre ++ bs).Nodup → (∀ b ∈ bs, b < B0 ∧ ¬ ok b) →
    (∀ (i : Nat) (v : Value), vs[i]? = some v → a.tmps.getD (t + i) undef = v) → (∀ k, 100000 + pre.length ≤ k → lk s.hp k = none) →
    (∀ k b g, lk s.hp k = some b → blockOf (φ k) = some g → g ∈ pre) → Rel B0 pre W0 ok0 Z N ok φ s a w → ∃ φ', Rel B0 (pre ++ bs) W0 ok0 Z N ok φ' (argsSt rs t (100000 + pre.length) s) a w := by
  induction hA with
  | nil => intro t pre φ s _ _ _ _ _ r; exact ⟨φ, by simpa [argsSt] using r⟩
  | @d bs rs vs x v hrd hA ih =>
    intro t pre φ s hn hb hv hk hg r
    have h0 := hv 0 v rfl
    exact ih (t + 1) pre φ _ hn hb (fun i v h => by rw [Nat.add_assoc, Nat.add_comm 1 i]; exact hv (i + 1) v (by simpa using h)) hk hg (r.lay t (x := .d x) (by rw [Nat.add_zero] at h0; rw [h0]; exact .d hrd))
  | @agg bs rs vs cs xs hs hrd hA ih =>
    intro t pre φ s hn hb hv hk hg r
    have h0 := hv 0 _ rfl
    exact ih (t + 1) pre φ _ hn hb (fun i v h => by rw [Nat.add_assoc, Nat.add_comm 1 i]; exact hv (i + 1) v (by simpa using h)) hk hg (r.lay t (x := .agg (vd cs)) (by rw [Nat.add_zero] at h0; rw [h0]; exact vd_agg hs hrd))
  | @ptr bs rs vs cs v hrd hA ih =>
    intro t pre φ s hn hb hv hk hg r
    have h0 := hv 0 v rfl
    exact ih (t + 1) pre φ _ hn hb (fun i v h => by rw [Nat.add_assoc, Nat.add_comm 1 i]; exact hv (i + 1) v (by simpa using h)) hk hg (r.lay t (x := .dptr cs) (by rw [Nat.add_zero] at h0; rw [h0]; exact hrd.bare (fun _ h => h) (fun _ _ => rfl)))
  | @fn bs rs vs f caps v hrd hA ih =>
    intro t pre φ s hn hb hv hk hg r
    have h0 := hv 0 v rfl
    exact ih (t + 1) pre φ _ hn hb (fun i v h => by rw [Nat.add_assoc, Nat.add_comm 1 i]; exact hv (i + 1) v (by simpa using h)) hk hg (r.lay t (x := .fn f (cpV caps)) (by rw [Nat.add_zero] at h0; rw [h0]; exact hrd.bare (fun _ h => h) (fun _ _ => rfl)))
  | @box bs rs vs cs n hrow hA ih =>
    intro t pre φ s hn hb hv hk hg r
    have h0 := hv 0 _ rfl
    rw [Nat.add_zero] at h0
    have hnn : n ∉ pre := fun hm => by
      have := List.nodup_append.1 hn
      exact this.2.2 n hm n (by simp) rfl
    have hne : ∀ k b, lk s.hp k = some b → b.active = true → blockOf (φ k) ≠ some n := fun k b h1 _ h2 => hnn (hg k b n h1 h2)
    have hkey := hk (100000 + pre.length) (Nat.le_refl _)
    obtain ⟨r1, hm⟩ := r.adopt' (bx' := pre ++ [n]) (fun g hg => by simp [hg]) (key := 100000 + pre.length) (n := n) (cs := cs) hkey (hb n (by simp)).2 (.inr (by simp)) hne hrow (fun i g hi => by
      rw [List.getElem?_append] at hi
      split at hi
      · rename_i hlt
        obtain ⟨e1, cs', e2⟩ := r.pin i g hi
        have hne' : 100000 + pre.length ≠ 100000 + i := by omega
        exact ⟨by simp only [updF]; rw [if_neg (Ne.symm hne')]; exact e1, cs', by rw [lk_pt, if_neg hne']; exact e2⟩
      · rename_i hge
        have hi0 : i - pre.length = 0 := by
          cases hc : i - pre.length with
          | zero => rfl
          | succ m => rw [hc] at hi; simp at hi
        rw [hi0] at hi
        simp at hi; subst hi
        have : i = pre.length := by omega
        subst this
        exact ⟨by simp [updF], vd cs, by simp [lk_pt]⟩)
    have r2 := r1.lay t (x := .ref (100000 + pre.length) 0) (by
      rw [h0]
      exact .ref (cs := vd cs) (by simp [St.setB, lk_pt]) (by simp [updF]))
    have hn' : ((pre ++ [n]) ++ bs).Nodup := by simpa using hn
    have hlen : 100000 + (pre ++ [n]).length = 100000 + pre.length + 1 := by simp; omega
    obtain ⟨φ', r3⟩ := ih (t + 1) (pre ++ [n]) _ _ hn' (fun b h => hb b (by simp [h])) (fun i v h => by rw [Nat.add_assoc, Nat.add_comm 1 i]; exact hv (i + 1) v (by simpa using h)) (fun k hk' => by
      simp only [St.setB]
      rw [lk_pt, if_neg (by omega)]
      exact hk k (by omega)) (fun k b g h1 h2 => by
      simp only [St.setB] at h1
      rw [lk_pt] at h1
      by_cases e : 100000 + pre.length = k
      · subst e
        simp only [updF, if_true, blockOf, Option.some.injEq] at h2
        simp [h2]
      · rw [if_neg e] at h1
        simp only [updF, if_neg (Ne.symm e)] at h2
        simp [hg k b g h1 h2]) r2
    refine ⟨φ', ?_⟩
    rw [hlen] at r3
    simpa [argsSt, List.append_assoc, St.setB] using r3

theorem boxKeys_eq {rs : List R} {vs : List Value} {bs : List Nat} (hA : ArgsR ok w bs rs vs) : ∀ key, boxKeys rs key = List.range' key bs.length := by
  induction hA with
  | nil => intro key; rfl
  | d _ _ ih => intro key; exact ih key
  | agg _ _ _ ih => intro key; exact ih key
  | ptr _ _ ih => intro key; exact ih key
  | fn _ _ ih => intro key; exact ih key
  | box _ _ ih => intro key; simp only [boxKeys, List.length_cons, List.range'_succ]; rw [ih]

/-- The results are what they are. -/
def ResRun (P : Program) (tmps : Array Value) (w : World) (rs : List ResultVar) (ys : List Value) : Prop :=
  ∀ f : ResultVar → Sem Value, (∀ u, f (.tmp u) = pure (tmps.getD u undef)) → (∀ p t, f (.cell p t) = (do loadVar t (← asAddr (tmps.getD p undef)))) → (rs.mapM f).run P w = .ok ys w

theorem resV_sound (hE : EnvOk P E) (r : Rel B0 bx W0 ok0 Z N ok φ s a w) :
    ∀ (rs : List ResultVar) (vs : List V), resV E s rs = some vs → ∃ ys : List Value, ResRun P a.tmps w rs ys ∧ ys.length = vs.length ∧ ∀ (i : Nat) (c : V) (x : Value), vs[i]? = some c → ys[i]? = some x → VR ok φ s.hp w c x := by
  intro rs
  induction rs with
  | nil => intro vs h; simp [resV] at h; subst h; exact ⟨[], fun f _ _ => by simp, rfl, fun i c x h => by simp at h⟩
  | cons rv rs ih =>
    intro vs h
    have cons : ∀ (v : V) (l : List V) (y : Value), (∀ f : ResultVar → Sem Value, (∀ u, f (.tmp u) = pure (a.tmps.getD u undef)) → (∀ p t, f (.cell p t) = (do loadVar t (← asAddr (a.tmps.getD p undef)))) → (f rv).run P w = .ok y w) → VR ok φ s.hp w v y → resV E s rs = some l → vs = v :: l →
        ∃ ys : List Value, ResRun P a.tmps w (rv :: rs) ys ∧ ys.length = vs.length ∧ ∀ (i : Nat) (c : V) (x : Value), vs[i]? = some c → ys[i]? = some x → VR ok φ s.hp w c x := by
      intro v l y h1 h2 h3 h4
      subst h4
      obtain ⟨ys, e1, e2, e3⟩ := ih l h3
      refine ⟨y :: ys, fun f hf hc => by rw [List.mapM_cons]; simp [h1 f hf hc, e1 f hf hc], by simp [e2], fun i c x hc hx => ?_⟩
      cases i with
      | zero => simp at hc hx; subst hc; subst hx; exact h2
      | succ i => exact e3 i c x (by simpa using hc) (by simpa using hx)
    cases rv with
    | tmp t =>
      simp only [resV] at h
      split at h
      · rename_i v l h1 h2
        simp only [Option.some.injEq] at h
        exact cons v l _ (fun f hf _ => by rw [hf]; rfl) (r.tm t v h1) h2 h.symm
      · cases h
    | cell p t =>
      simp only [resV] at h
      split at h
      rotate_left
      · cases h
      rename_i ti k off hti htm
      split at h
      rotate_left
      · cases h
      rename_i cs hb
      split at h
      rotate_left
      · cases h
      rename_i l hcut
      split at h
      rotate_left
      · cases h
      rename_i v vs' hof hrs
      simp only [Option.some.injEq] at h
      have hp := r.tm p _ htm
      obtain ⟨v', y, h1, h2, h3⟩ := aLoad_sound (hE.ti hti) r hp (K := fun u => u = v) (by simp only [aLoad, hb, hcut, hof])
      subst h2
      refine cons v' vs' y (fun f _ hc => ?_) h3 hrs h.symm
      rw [hc]
      have h1 := h1 w (fun _ _ => rfl)
      generalize a.tmps.getD p undef = x at hp h1
      cases hp
      simp only [Instr.loadAt, Instr.sureAddr, Sem.run_bind, Sem.run_pure, Result.andThen_ok] at h1
      simp only [asAddr, Sem.run_bind, Sem.run_pure, Result.andThen_ok]
      exact h1

theorem finals_sound : ∀ (bk : List Nat) {ok : Nat → Prop} {s : St} {fin : List (List D)} {s' : St}, Rel B0 bx W0 ok0 Z N ok φ s a w → finals s bk = some (fin, s') →
    ∃ ok', Rel B0 bx W0 ok0 Z N ok' φ s' a w ∧ FinR ok' w (bk.map (blk φ)) fin ∧ (∀ b, ok b → ok' b) ∧ (∀ j, Sim s.hp s'.hp j) ∧ ∀ j ∈ bk, ∃ cs, lk s.hp j = some (.box cs) := by
  intro bk
  induction bk with
  | nil =>
    intro ok s fin s' r h
    simp [finals] at h; obtain ⟨rfl, rfl⟩ := h
    exact ⟨ok, r, ⟨rfl, fun i n cs h => by simp at h⟩, fun _ h => h, Sim.refl _, fun j h => by cases h⟩
  | cons k bk ih =>
    intro ok s fin s' r h
    simp only [finals] at h
    split at h
    rotate_left
    · cases h
    rename_i cs hb
    split at h
    rotate_left
    · cases h
    rename_i xs s1 hds
    split at h
    rotate_left
    · cases h
    rename_i l s2 hl
    simp only [Option.some.injEq, Prod.mk.injEq] at h
    obtain ⟨rfl, rfl⟩ := h
    obtain ⟨g, arr, T, hp, hh, hs, hr⟩ := r.hp k _ hb
    obtain ⟨ok1, r1, hl1, hrd, h1, hs1⟩ := toDs_sound (vs := arr.toList) r (by simpa using hs) (fun i c y hc hy => hr i c y hc (by simpa using hy)) hds
    obtain ⟨ok2, r2, ⟨hf1, hf2⟩, h2, hs2, hbx⟩ := ih r1 hl
    refine ⟨ok2, r2, ⟨by simp [← hf1], fun i n cs' hi hc => ?_⟩, fun b hb => h2 b (h1 b hb), fun j => (hs1 j).trans (hs2 j), fun j hj => ?_⟩
    · cases i with
      | zero =>
        simp at hi hc; subst hi; subst hc
        have : blk φ k = g := by simp [blk, hp]
        rw [this]
        exact ⟨arr, T, hh, by omega, fun i x v hx hv => (hrd i x v hx (by simpa using hv)).mono h2 (fun _ _ => rfl)⟩
      | succ i => exact hf2 i n cs' (by simpa using hi) (by simpa using hc)
    · rcases List.mem_cons.1 hj with rfl | hj
      · exact ⟨cs, hb⟩
      · obtain ⟨cs', hc'⟩ := hbx j hj
        -- a box in s1 was a box in s
        cases h0 : lk s.hp j with
        | none => rw [toDs_none hds h0] at hc'; cases hc'
        | some b =>
          cases b with
          | box cs0 => exact ⟨cs0, rfl⟩
          | lst e sz es =>
            obtain ⟨es', h3⟩ := (hs1 j).lst (.inl ⟨e, h0⟩)
            rcases h3 with ⟨_, h3⟩ | h3 <;> (rw [h3] at hc'; cases hc')
          | fro sz es =>
            obtain ⟨es', h3⟩ := (hs1 j).lst (.inr h0)
            rcases h3 with ⟨_, h3⟩ | h3 <;> (rw [h3] at hc'; cases hc')

theorem run_results {fn : Func} {tmps : Array Value} {ys : List Value} (h : ResRun P tmps w fn.results.toList ys) : (results fn tmps).run P w = .ok (tupled ys) w := by
  unfold results
  have e : fn.results = fn.results.toList.toArray := by simp
  rw [e, List.mapM_toArray]
  simp only [Sem.run_bind, Sem.run_map]
  unfold ResRun at h
  rw [h]
  · simp only [Result.andThen_ok]
    match ys with
    | [] => rfl
    | [y] => rfl
    | x :: y :: l => rfl
  · intro u; rfl
  · intro p t; rfl

/-- On the way out the marks are come to. -/
theorem leaves_marks {fn : Func} {R : Ending → World → Prop} {Z : Zr} (hz : ∀ b o, Z.z b = some o → b < Z.n) {tmps : Array Value} (hend : ∀ (a : Act) (w : World), Rel B0 bx W0 ok0 Z N ok φ s a w → a.tmps = tmps → a.defers = [] → ∃ v, (results fn tmps).run P w = .ok v w ∧ R (.returned v) w) :
    ∀ (Ds : List Nat) (a : Act) (w : World), Rel B0 bx W0 ok0 Z N ok φ s a w → a.tmps = tmps → a.defers = Ds.map mark → LeavesInM Fence.wide 0 P fn tmps R (Ds.map mark) .returning w := by
  intro Ds
  induction Ds with
  | nil => intro a w r ht hd; exact hend a w r ht hd
  | cons D Ds ih =>
    intro a w r ht hd
    obtain ⟨Ds', e1, e2, e3⟩ := r.df
    have hDs : Ds' = D :: Ds := (mark_inj (e2.symm.trans hd))
    subst hDs
    obtain ⟨f1, f2, f3⟩ := e3 D (by simp)
    obtain ⟨n1, n2⟩ := List.nodup_cons.1 e1
    refine ⟨by simp, .inl ⟨D, _, rfl, run_takeDeferred f3, ?_⟩⟩
    refine ih { a with defers := Ds.map mark } _ (r.turn f3 rfl rfl f1.1 Z (fun b o h => ⟨(r.kz b o h).1, (World.putObj_heap_other (by rintro rfl; have := hz _ o h; have := f1.2; omega)).trans (r.kz b o h).2⟩) rfl r.zs rfl ⟨Ds, n2, rfl, fun D' hD' => ?_⟩) ht rfl
    obtain ⟨g1, g2, g3⟩ := e3 D' (by simp [hD'])
    exact ⟨g1, g2, (World.putObj_heap_other (by rintro rfl; exact n1 hD')).trans g3⟩

/-- **A contract from what the code asks.** -/
theorem ct_of_vc {gl : Nat → Option Obj} (hE : EnvOk P E) (hC : CallsOk P gl C) (hI : IOk P gl I) (hT : ItOk P E) (hm : P.follows .mixedOrders = true) {f : Nat} {fn : Func} {body : Code} (hf : P.funcs[f]? = some fn) (hb : fn.body = some body) (hname : (fn.name == "runtime.NumGoroutine") = false)
    {fi : Fi} {args : List R} (hN : Nat.ble args.length fn.ntmps = true) (hcode : codeB fn.ntmps fi.sc false body = true) {Q : List R → List (List D) → Prop} (hex : ∃ res fin, Q res fin)
    (h : vc E C I fi body fn.results.toList args Q) : Ct P gl f args Q := by
  refine ⟨⟨fn, hf, hname, by rw [hb]; rfl⟩, hex, fun w ok vs bs hgl hok hbs hnd hA => ?_⟩
  refine callsIn_wide.1 (callsIn_of_wp_marks (F := Fence.wide) (n := 0) hf hb trivial ?_)
  have hlen : args.length = vs.length := argsR_length hA
  have hle : args.length ≤ fn.ntmps := Nat.le_of_ble_eq_true hN
  have htm : ∀ (i : Nat) (v : Value), vs[i]? = some v → (vs.toArray ++ Array.replicate (fn.ntmps - vs.toArray.size) undef).getD (0 + i) undef = v := by
    intro i v hv
    have hlt := (List.getElem?_eq_some_iff.1 hv).1
    rw [Nat.zero_add, Array.getD_eq_getD_getElem?, Array.getElem?_append_left (by simpa using hlt)]
    simp [hv]
  have r0 : Rel w.heap.size [] w ok ⟨w.heap.size, gl, fun _ _ => undef, gl, fun _ _ h => h⟩ fn.ntmps ok (fun _ => .int .i64 0) { tm := [], hp := [], kn := [], gd := [] } { tmps := vs.toArray ++ Array.replicate (fn.ntmps - vs.toArray.size) undef, defers := [] } w := {
    sz := by simp; omega
    tm := fun t x h => by simp [lk] at h
    gd := fun t t' w' x h => by simp [lk] at h
    gu := fun t t' w' b h => by simp [lk] at h
    kn := fun t b h => by simp [lk] at h
    hp := fun k b h => by simp [lk] at h
    act := fun k b g h => by simp [lk] at h
    inj := fun k k' b b' g _ h => by simp [lk] at h
    one := fun k => rfl
    okl := hok
    oks := fun b h => .inl h
    ok0 := fun b h => h
    upd := .refl _ _ _
    b0 := Nat.le_refl _
    rt := fun d l t x h => by simp [nth] at h
    df := ⟨[], by simp, rfl, by simp⟩
    zs := Nat.le_refl _
    kz := hgl
    pin := fun i g h => by simp at h }
  obtain ⟨φ1, r1⟩ := argsSt_rel (B0 := w.heap.size) (W0 := w) (ok0 := ok) hA 0 [] _ _ (by simpa using hnd) hbs htm (fun k _ => by simp [lk]) (fun k b g h => by simp [lk] at h) r0
  simp only [List.nil_append, List.length_nil, Nat.add_zero] at r1
  refine wpIn_mono (awp_sound hE hC hI hT hm fi body false hcode Fence.wide (.inl rfl) _ rfl _ ok φ1 _ _ w r1 h) fun e a' w' hq => ?_
  obtain ⟨ok', φ', s', r', hk⟩ := hq
  have key : finK E fn.results.toList (boxKeys args 100000) Q .normal s' → LeavesInM Fence.wide 0 P fn a'.tmps (CtPost ok bs w Q) a'.defers .returning w' := by
    intro hk
    obtain ⟨Ds, _, hDd, _⟩ := r'.df
    rw [hDd]
    refine leaves_marks (fun b o h => hok b (hgl b o h).1) (fun a'' w' r' hta hde => ?_) Ds a' w' r' rfl hDd
    simp only [finK] at hk
    split at hk
    · exact hk.elim
    rename_i vs1 hres
    split at hk
    · exact hk.elim
    rename_i rs ks s1 hrs
    split at hk
    rotate_left
    · exact hk.elim
    rename_i fin s2 hnd2 hfin
    obtain ⟨ys, hrun, hyl, hyr⟩ := resV_sound hE r' _ _ hres
    obtain ⟨ok1, r2, h1, hs1, hA1, hkb⟩ := toRs_sound r' hyl hyr hrs
    obtain ⟨ok2, r3, hF, h2, hs2, hbox⟩ := finals_sound _ r2 hfin
    have hnd3 := nodupB_iff _ hnd2
    rw [app_eq] at hnd3
    obtain ⟨hn1, hn2, hn3⟩ := List.nodup_append.1 hnd3
    have hbk : boxKeys args 100000 = List.range' 100000 bs.length := boxKeys_eq hA 100000
    have hkb3 : ∀ j ∈ ks, (∃ cs, lk s2.hp j = some (.box cs)) ∧ ∃ g, φ' j = .pointer (some ⟨g, 0, none⟩) := fun j hj => by
      obtain ⟨⟨cs, hc⟩, hg⟩ := hkb j hj
      exact ⟨(hs2 j).box hc, hg⟩
    have hbs' : (boxKeys args 100000).map (blk φ') = bs := by
      rw [hbk]
      apply List.ext_getElem?
      intro i
      rw [List.getElem?_map]
      by_cases hlt : i < bs.length
      · rw [List.getElem?_range' hlt]
        have hi : bs[i]? = some bs[i] := List.getElem?_eq_getElem hlt
        obtain ⟨e1, _⟩ := r3.pin i bs[i] hi
        rw [hi]
        simp [blk, e1]
      · rw [List.getElem?_eq_none (l := bs) (by omega), List.getElem?_eq_none (by simp; omega)]
        rfl
    rw [hta] at hrun
    refine ⟨tupled ys, run_results hrun, rs, fin, ys, ok2, ks.map (blk φ'), rfl, hk, r3.ok0, fun b hb => r3.oks b hb, r3.okl, r3.upd, hA1.mono h2, blk_nodup r3 hkb3 hn1, fun b hb => ?_, by rw [hbs'] at hF; exact hF⟩
    obtain ⟨j, hj, rfl⟩ := List.mem_map.1 hb
    obtain ⟨⟨cs, hc⟩, g, hg⟩ := hkb3 j hj
    have hblk : blk φ' j = g := by simp [blk, hg]
    rw [hblk]
    obtain ⟨e1, e2⟩ := r3.act j _ g hc rfl (by rw [hg]; rfl)
    refine ⟨?_, e1⟩
    rcases e2 with e2 | e2
    · exact e2
    · obtain ⟨i, hi⟩ := List.getElem?_of_mem e2
      obtain ⟨p1, cs', p2⟩ := r3.pin i g hi
      have hlt := (List.getElem?_eq_some_iff.1 hi).1
      have hm : 100000 + i ∈ boxKeys args 100000 := by
        rw [hbk, List.mem_range'_1]; omega
      exact (r3.inj j (100000 + i) _ _ g (fun e => hn3 j hj _ hm e) hc p2 rfl rfl (by rw [hg]; rfl) (by rw [p1]; rfl)).elim
  cases e with
  | normal => exact key hk
  | ret => exact key hk
  | exit i => exact hk.elim
  | goto l => exact hk.elim
  | panic ch => exact hk.elim
  | outgrown => exact hk.elim

/-- A statement that is kept shut. -/
structure Pf (p : Prop) : Prop where
  h : p
theorem ct_of_pf {gl : Nat → Option Obj} (hE : EnvOk P E) (hC : CallsOk P gl C) (hI : IOk P gl I) (hT : ItOk P E) (hm : P.follows .mixedOrders = true) {f : Nat} {fn : Func} {body : Code} (hf : P.funcs[f]? = some fn) (hb : fn.body = some body) (hname : (fn.name == "runtime.NumGoroutine") = false)
    {fi : Fi} {args : List R} (hN : Nat.ble args.length fn.ntmps = true) (hcode : codeB fn.ntmps fi.sc false body = true) {Q : List R → List (List D) → Prop} (hex : ∃ res fin, Q res fin)
    (h : Pf (vc E C I fi body fn.results.toList args Q)) : Ct P gl f args Q := ct_of_vc hE hC hI hT hm hf hb hname hN hcode hex h.h

/-- One more function in a table of calls. -/
def addC (C : CallT) (f0 : Nat) (c : List R → (List R → List (List D) → Prop) → Prop) : CallT :=
  fun f a K => match Nat.beq f f0 with | true => c a K | false => C f a K
theorem addC_ok {P : Program} {gl : Nat → Option Obj} {C : CallT} {f0 : Nat} {c : List R → (List R → List (List D) → Prop) → Prop} (h : CallsOk P gl C) (hc : ∀ a K, c a K → Ct P gl f0 a K) : CallsOk P gl (addC C f0 c) := by
  intro f a K hk
  unfold addC at hk
  split at hk
  · rename_i e
    have : f = f0 := Nat.eq_of_beq_eq_true e
    subst this
    exact hc a K hk
  · exact h f a K hk
/-- The condition 'these results, and nothing else'. -/
def gives (r : List R) : List R → List (List D) → Prop := fun r' c => r' = r ∧ c = []
theorem Ct.gives {P : Program} {gl : Nat → Option Obj} {f : Nat} {a r : List R} {K : List R → List (List D) → Prop} (h : Ct P gl f a (gives r)) (hk : K r []) : Ct P gl f a K :=
  h.mono fun r' c ⟨h1, h2⟩ => by subst h1; subst h2; exact hk

theorem gsplit {c : Bool} {A B : Prop} (h1 : c = true → A) (h2 : c = false → B) : (c = true → A) ∧ (c = false → B) := ⟨h1, h2⟩

end Go.Dm
