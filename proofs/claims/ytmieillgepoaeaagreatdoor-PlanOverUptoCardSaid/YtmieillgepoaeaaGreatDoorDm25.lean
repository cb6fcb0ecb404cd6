/- Functions at known data: whole functions, one within the other. -/
import Derived.Test.YtmieillgepoaeaaGreatDoorDm24
import Derived.Test.YtmieillgepoaeaaGreatDoorLists
namespace Go.Dm

/-- The end of a function. -/
def xFin (E : Env) (res : List ResultVar) (bk : List Nat) (e : Ex) (s : St) : M (List R × List (List D)) :=
  match e with
  | .exit _ => .no 400
  | _ =>
    match resV E s res with
    | none => .no 401
    | some vs =>
      match toRsO s vs with
      | none => .no 402
      | some (rs, ks, s) => match nodupB (app ks bk), finals s bk with | true, some (fin, s') => (match actAll s'.hp ks with | true => .ok (rs, fin) | false => .no 406) | _, _ => .no 403
theorem xFin_sound {E : Env} {res : List ResultVar} {bk : List Nat} {e : Ex} {s : St} {r : List R × List (List D)} {Q : List R → List (List D) → Prop} (h : xFin E res bk e s = .ok r) (hq : Q r.1 r.2) : finKO E res bk Q e s := by
  unfold xFin at h
  have key : (match resV E s res with | none => M.no 401 | some vs => match toRsO s vs with | none => .no 402 | some (rs, ks, s) => match nodupB (app ks bk), finals s bk with | true, some (fin, s') => (match actAll s'.hp ks with | true => .ok (rs, fin) | false => .no 406) | _, _ => .no 403) = M.ok r →
      (match resV E s res with | none => False | some vs => match toRsO s vs with | none => False | some (rs, ks, s) => match nodupB (app ks bk), finals s bk with | true, some (fin, s') => (match actAll s'.hp ks with | true => Q rs fin | false => False) | _, _ => False) := fun h => by
    split at h
    · cases h
    rename_i vs hvs
    split at h
    · cases h
    rename_i rs ks s1 hrs
    split at h
    · rename_i h1 h2
      split at h
      · rename_i h3
        simp only [M.ok.injEq] at h; subst h
        first | exact hq | (simp only [h1, h2, h3]; exact hq)
      · cases h
    · cases h
  cases e with
  | exit i => cases h
  | normal => exact key h
  | ret => exact key h

def sR : R → R → Bool
  | .d a, .d b => seqD a b
  | .agg a, .agg b => seqDL a b
  | .box a, .box b => seqDL a b
  | .ptr a, .ptr b => seqDL a b
  | .lst e z a, .lst e' z' b => (match Nat.beq e e', Nat.beq z z' with | true, true => seqDLL a b | _, _ => false)
  | _, _ => false
theorem sR_sound {a b : R} (h : sR a b = true) : a = b := by
  cases a <;> cases b <;> simp only [sR, reduceCtorEq] at h
  · rw [seqD_sound h]
  · rw [seqDL_sound h]
  · rw [seqDL_sound h]
  · rw [seqDL_sound h]
  · split at h
    · rename_i h1 h2; rw [Nat.eq_of_beq_eq_true h1, Nat.eq_of_beq_eq_true h2, seqDLL_sound h]
    · cases h
def sRs : List R → List R → Bool
  | [], [] => true
  | a :: l, b :: r => (match sR a b with | true => sRs l r | false => false)
  | _, _ => false
theorem sRs_sound : ∀ {a b : List R}, sRs a b = true → a = b
  | [], [], _ => rfl
  | a :: l, b :: r, h => by
    simp only [sRs] at h
    split at h
    · rename_i h1; rw [sR_sound h1, sRs_sound h]
    · cases h
  | [], _ :: _, h => by simp only [sRs, reduceCtorEq] at h
  | _ :: _, [], h => by simp only [sRs, reduceCtorEq] at h

/-- All ways come to the same. -/
def xFins (E : Env) (res : List ResultVar) (bk : List Nat) : List (Ex × St) → M (List R × List (List D))
  | [] => .no 404
  | [(e, s)] => xFin E res bk e s
  | (e, s) :: r => match xFin E res bk e s with
    | .no w => .no w
    | .ok a => (match xFins E res bk r with
      | .no w => .no w
      | .ok b => (match sRs a.1 b.1, seqDLL a.2 b.2 with | true, true => .ok a | _, _ => .no 405))
theorem xFins_sound {E : Env} {res : List ResultVar} {bk : List Nat} : ∀ {l : List (Ex × St)} {r : List R × List (List D)}, xFins E res bk l = .ok r → ∀ x ∈ l, xFin E res bk x.1 x.2 = .ok r
  | [(e, s)], r, h, x, hx => by rcases List.mem_singleton.1 hx with rfl; exact h
  | (e, s) :: y :: q, r, h, x, hx => by
    simp only [xFins] at h
    split at h
    · cases h
    rename_i a ha
    split at h
    · cases h
    rename_i b hb
    split at h
    rotate_left
    · cases h
    rename_i h1 h2
    simp only [M.ok.injEq] at h; subst h
    rcases List.mem_cons.1 hx with rfl | hx
    · exact ha
    · have := xFins_sound hb x hx
      rw [this]
      obtain ⟨a1, a2⟩ := a
      obtain ⟨b1, b2⟩ := b
      have e1 := sRs_sound h1
      have e2 := seqDLL_sound h2
      simp only at e1 e2
      rw [e1, e2]

def backTo (s0 : St) (E : Env) (res : List ResultVar) : List (Ex × St) → M (List (V × St))
  | [] => .ok []
  | (e, s') :: r => match e with
    | .exit _ => .no 410
    | _ => (match resV E s' res, backTo s0 E res r with
      | some vs, .ok l => .ok ((oneV vs, { tm := (bak s').tm, hp := s'.hp, kn := s0.kn, gd := [], rt := (bak s').rt }) :: l)
      | none, _ => .no 411
      | _, .no w => .no w)

/-- Where a run stops: the function's number, and why. -/
def tagNo (f w : Nat) : Nat := match Nat.ble w 999 with | true => 1000 * f + w | false => w

/-- Contracts of the library, at known data. -/
abbrev XL := Nat → List R → Option (List R × List (List D))
def LibOk (P : Program) (gl : Nat → Option Obj) (lib : XL) : Prop := ∀ f args r, lib f args = some r → Ct P gl f args (fun a b => a = r.1 ∧ b = r.2)

/-- slices.Grow of nil, walked in place: the function; its element's type, cells, bytes. -/
abbrev GrowT := List (Nat × (Nat × Nat × Nat))
def GrowOk (P : Program) (gw : GrowT) : Prop := ∀ f e sz by_, lk gw f = some (e, sz, by_) → 0 < sz ∧ FnOk P f ∧
  (∀ w, Calls P f #[.slice none 0 0, .int .i64 (0 : Nat)] w fun e w' => e = .returned (.slice none 0 0) ∧ w' = w) ∧
  (∀ (n : Nat) (w : World), 0 < n → n * by_ ≤ 140737488355328 → n ≤ 4611686018427387904 → Calls P f #[.slice none 0 0, .int .i64 n] w fun en w' => ∃ cap cells, n ≤ cap ∧ cap ≤ maxLen ∧ cells.size = cap * sz ∧
      en = .returned (.slice (some ⟨w.heap.size, 0, none⟩) 0 cap) ∧ w' = w.drew.alloc (.cells cells e))
theorem growOk_no {P : Program} : GrowOk P [] := fun _ _ _ _ h => by cases h
theorem GrowOk.cons {P : Program} {gw : GrowT} {f e sz by_ : Nat} (h : GrowOk P gw) (hpos : 0 < sz) (hf : FnOk P f)
    (h0 : ∀ w, Calls P f #[.slice none 0 0, .int .i64 (0 : Nat)] w fun e w' => e = .returned (.slice none 0 0) ∧ w' = w)
    (hn : ∀ (n : Nat) (w : World), 0 < n → n * by_ ≤ 140737488355328 → n ≤ 4611686018427387904 → Calls P f #[.slice none 0 0, .int .i64 n] w fun en w' => ∃ cap cells, n ≤ cap ∧ cap ≤ maxLen ∧ cells.size = cap * sz ∧
      en = .returned (.slice (some ⟨w.heap.size, 0, none⟩) 0 cap) ∧ w' = w.drew.alloc (.cells cells e)) : GrowOk P ((f, (e, sz, by_)) :: gw) := fun f' e' sz' by' hk => by
  simp only [lk] at hk
  split at hk
  · rename_i he
    have := Nat.eq_of_beq_eq_true he
    subst this
    simp only [Option.some.injEq, Prod.mk.injEq] at hk
    obtain ⟨rfl, rfl, rfl⟩ := hk
    exact ⟨hpos, hf, h0, hn⟩
  · exact h _ _ _ _ hk
def xGrow (e sz by_ key : Nat) (args caps : List V) (s : St) : M (List (V × St)) :=
  match args, caps with
  | [.nil, .d (.v (.int .i64 (.ofNat n)))], [] =>
    (match Nat.ble (n * by_) 140737488355328, Nat.ble n 4611686018427387904 with
     | true, true => (match n with
       | 0 => .ok [(.nil, s)]
       | _ + 1 => .ok [(.own (freshK s.hp key), s.setB (freshK s.hp key) (.lst e sz []))])
     | _, _ => .no 424)
  | _, _ => .no 425
theorem xGrow_sound {e sz by_ key f : Nat} {args caps : List V} {s : St} {l : List (V × St)} {K : V → St → Prop} (h : xGrow e sz by_ key args caps s = .ok l) (hk : ∀ o ∈ l, K o.1 o.2) : growI noI f e sz by_ key f args caps s K := by
  unfold xGrow at h
  unfold growI
  rw [show Nat.beq f f = true from Nat.beq_refl f]
  split at h
  rotate_left
  · cases h
  rename_i n
  split at h
  rotate_left
  · cases h
  rename_i h1 h2
  have h1 := Nat.le_of_ble_eq_true h1
  have h2 := Nat.le_of_ble_eq_true h2
  refine ⟨Int.natCast_nonneg _, by simp only [Int.ofNat_eq_natCast]; rw [← Int.natCast_mul]; omega, by simp only [Int.ofNat_eq_natCast]; omega, fun e0 => ?_, fun e0 => ?_⟩
  · have : n = 0 := by simp only [Int.ofNat_eq_natCast] at e0; omega
    subst this
    simp only [M.ok.injEq] at h; subst h
    exact hk _ (List.mem_singleton.2 rfl)
  · cases n with
    | zero => exact (e0 rfl).elim
    | succ n =>
      simp only [M.ok.injEq] at h; subst h
      exact hk _ (List.mem_singleton.2 rfl)

def xBoth (E : Env) (lib : XL) (gw : GrowT) (fis : Fis) : Nat → XC × XI
  | 0 => (fun _ _ => .no 420, fun _ _ _ _ => .no 421)
  | n + 1 => (
    fun f args => match lib f args with
      | some r => .ok r
      | none => match lk fis f with
        | none => .no (100000 + f)
        | some (_, nt, body, res, fi) => match Nat.ble args.length nt with
          | false => .no 422
          | true => match xCode n E (xBoth E lib gw fis n).1 (xBoth E lib gw fis n).2 fi body (argsSt args 0 100000 { tm := [], hp := [], kn := [], gd := [] }) with
            | .no w => .no (tagNo f w)
            | .ok l => (match xFins E res (boxKeys args 100000) l with | .ok r => .ok r | .no w => .no (tagNo f w)),
    fun f args caps s => match lk gw f with
    | some (e, sz, by_) => xGrow e sz by_ 60000 args caps s
    | none => match lk fis f with
      | none => .no (100000 + f)
      | some (off, nt, body, res, fi) => match Nat.ble (lenV (app args caps)) nt with
        | false => .no 423
        | true => match xCode n { E with off := off } (xBoth E lib gw fis n).1 (xBoth E lib gw fis n).2 fi body { tm := numV 0 (app args caps), hp := s.hp, kn := [], gd := [], rt := s.tm :: s.rt } with
          | .no w => .no (tagNo f w)
          | .ok l => (match backTo s E res l with | .ok r => .ok r | .no w => .no (tagNo f w)))

theorem backTo_sound {s0 : St} {E : Env} {res : List ResultVar} : ∀ {l : List (Ex × St)} {r : List (V × St)}, backTo s0 E res l = .ok r → ∀ x ∈ l, (match x.1 with | .exit _ => False | _ => True) ∧ ∃ vs, resV E x.2 res = some vs ∧ (oneV vs, { tm := (bak x.2).tm, hp := x.2.hp, kn := s0.kn, gd := [], rt := (bak x.2).rt }) ∈ r
  | [], r, h, x, hx => by cases hx
  | (e, s') :: q, r, h, x, hx => by
    simp only [backTo] at h
    split at h
    · cases h
    rename_i hne
    split at h
    · rename_i vs l hv hl
      simp only [M.ok.injEq] at h; subst h
      rcases List.mem_cons.1 hx with rfl | hx
      · refine ⟨?_, vs, hv, List.mem_cons_self⟩
        cases e with
        | exit i => exact (hne i rfl).elim
        | _ => trivial
      · obtain ⟨h1, vs', h2, h3⟩ := backTo_sound hl x hx
        exact ⟨h1, vs', h2, List.mem_cons_of_mem _ h3⟩
    · cases h
    · cases h

variable {P : Program} {gl : Nat → Option Obj} {E : Env} {lib : XL} {gw : GrowT} {fis : Fis}

theorem IOk.of {I I' : Nat → List V → List V → St → (V → St → Prop) → Prop} (h : IOk P gl I) (hi : ∀ f args caps s K, I' f args caps s K → I f args caps s K) : IOk P gl I' :=
  fun B0 bx W0 ok0 Z N ok φ s a w f args caps K vs cs h1 h2 h3 => h B0 bx W0 ok0 Z N ok φ s a w f args caps K vs cs h1 h2 (hi _ _ _ _ _ h3)

/-- slices.Grow, or what else is walked in place. -/
def growOr (gw : GrowT) (I : Nat → List V → List V → St → (V → St → Prop) → Prop) (f : Nat) (args caps : List V) (s : St) (K : V → St → Prop) : Prop :=
  match lk gw f with
  | some (e, sz, by_) => growI noI f e sz by_ 60000 f args caps s K
  | none => I f args caps s K
theorem growOr_ok (hG : GrowOk P gw) {I : Nat → List V → List V → St → (V → St → Prop) → Prop} (hI : IOk P gl I) : IOk P gl (growOr gw I) := by
  intro B0 bx W0 ok0 Z N ok φ s a w f args caps K vs cs hgl r h
  unfold growOr at h
  split at h
  · rename_i e sz by_ hlk
    obtain ⟨h1, h2, h3, h4⟩ := hG _ _ _ _ hlk
    exact growI_ok ioK_no h1 h2 h3 h4 B0 bx W0 ok0 Z N ok φ s a w f args caps K vs cs hgl r h
  · exact hI B0 bx W0 ok0 Z N ok φ s a w f args caps K vs cs hgl r h

theorem xBoth_ok (hE : EnvOk P E) (hlib : LibOk P gl lib) (hT : ItOk P E) (hm : P.follows .mixedOrders = true) (hF : FisOk P fis) (hG : GrowOk P gw) : ∀ n, CallsOk P gl (CX (xBoth E lib gw fis n).1) ∧ IOk P gl (IX (xBoth E lib gw fis n).2)
  | 0 => ⟨fun f args K ⟨r, h, _⟩ => (by cases h), fun B0 bx W0 ok0 Z N ok φ s a w f args caps K vs cs h1 h2 ⟨l, h, _⟩ => (by cases h)⟩
  | n + 1 => by
    obtain ⟨hC, hI⟩ := xBoth_ok hE hlib hT hm hF hG n
    refine ⟨fun f args K ⟨r, h, hk⟩ => ?_, (growOr_ok hG (ioK_inl hE hC hI hT hm hF)).of fun f args caps s K ⟨l, h, hk⟩ => ?_⟩
    · simp only [xBoth] at h
      split at h
      · rename_i r' hr
        simp only [M.ok.injEq] at h; subst h
        exact (hlib f args _ hr).mono fun a b ⟨e1, e2⟩ => by subst e1; subst e2; exact hk
      split at h
      · cases h
      rename_i off nt body res fi hlk
      split at h
      · cases h
      rename_i hle
      split at h
      · cases h
      rename_i l hl
      split at h
      rotate_left
      · cases h
      rename_i r0 hr0
      simp only [M.ok.injEq] at h; subst h
      obtain ⟨fn, h1, h2, h3, h4, h5, h6⟩ := hF _ _ _ _ _ _ hlk
      subst h3; subst h4
      refine ct_of_vcO hE hC hI hT hm h1 h2 h5 hle h6 (fi := fi) ⟨_, _, hk⟩ ?_
      exact xCode_sound body hl fun x hx => xFin_sound (xFins_sound hr0 x hx) hk
    · simp only [xBoth] at h
      unfold growOr
      split at h
      · exact xGrow_sound h hk
      unfold inl
      split at h
      · cases h
      rename_i off nt body res fi hlk
      simp only [hlk]
      split at h
      · cases h
      rename_i hle
      simp only [hle]
      split at h
      · cases h
      rename_i r hr
      split at h
      rotate_left
      · cases h
      rename_i l0 hl0
      simp only [M.ok.injEq] at h; subst h
      refine xCode_sound body hr fun x hx => ?_
      obtain ⟨h1, vs, h2, h3⟩ := backTo_sound hl0 x hx
      obtain ⟨e, s'⟩ := x
      have := hk _ h3
      simp only at this h2
      cases e with
      | exit i => exact h1.elim
      | normal => simp only [h2]; exact this
      | ret => simp only [h2]; exact this

/-- **A run at known data is a contract.** -/
theorem ct_run (hE : EnvOk P E) (hlib : LibOk P gl lib) (hT : ItOk P E) (hm : P.follows .mixedOrders = true) (hF : FisOk P fis) (hG : GrowOk P gw) (n : Nat) {f : Nat} {args : List R} {r : List R} (h : (xBoth E lib gw fis n).1 f args = .ok (r, [])) : Ct P gl f args (gives r) :=
  (xBoth_ok hE hlib hT hm hF hG n).1 f args (gives r) ⟨_, h, rfl, rfl⟩

/-- A function's orders, no block being let go at a loop's head. -/
def noDkL : List (Nat × (List Nat × List Nat)) → List (Nat × (List Nat × List Nat))
  | [] => []
  | (i, (l, _)) :: r => (i, (l, [])) :: noDkL r
def noDk (fi : Fi) : Fi := { fi with lp := noDkL fi.lp, cv := [], lx := [] }

/-- Did a run come to this one truth? -/
def runsTrue (x : M (List R × List (List D))) : Bool := match x with | .ok ([.d (.v (.bool true))], []) => true | _ => false
theorem runsTrue_sound {x : M (List R × List (List D))} (h : runsTrue x = true) : x = .ok ([.d (.v (.bool true))], []) := by
  unfold runsTrue at h
  split at h
  · rfl
  · cases h
theorem libOk_no : LibOk P gl (fun _ _ => none) := fun f args r h => by cases h

end Go.Dm
