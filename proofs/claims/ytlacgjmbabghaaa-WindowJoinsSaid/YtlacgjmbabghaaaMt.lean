/- What a sum over a stretch stands for. -/
import Derived.Test.YtlacgjmbabghaaaM6
namespace Go.Proofs.Try
open Go Go.Dm

theorem bl_irrefl (x : List UInt8) : Op.bytesLess x x = false := by
  induction x with
  | nil => rfl
  | cons a x ih => simp [Op.bytesLess, ih]
theorem bl_trans {x y z : List UInt8} (h1 : Op.bytesLess x y = true) (h2 : Op.bytesLess y z = true) : Op.bytesLess x z = true := by
  induction x generalizing y z with
  | nil =>
    cases z with
    | nil => cases y <;> simp [Op.bytesLess] at h2
    | cons c z => rfl
  | cons a x ih =>
    cases y with
    | nil => simp [Op.bytesLess] at h1
    | cons b y =>
      cases z with
      | nil => simp [Op.bytesLess] at h2
      | cons c z =>
        simp only [Op.bytesLess, Bool.or_eq_true, decide_eq_true_eq, Bool.and_eq_true, beq_iff_eq] at h1 h2 ⊢
        rcases h1 with h1 | ⟨rfl, h1⟩ <;> rcases h2 with h2 | ⟨rfl, h2⟩
        · exact .inl (UInt8.lt_trans h1 h2)
        · exact .inl h1
        · exact .inl h2
        · exact .inr ⟨rfl, ih h1 h2⟩
theorem bl_total {x y : List UInt8} (h1 : Op.bytesLess x y = false) (h2 : Op.bytesLess y x = false) : x = y := by
  induction x generalizing y with
  | nil => cases y with
    | nil => rfl
    | cons b y => simp [Op.bytesLess] at h1
  | cons a x ih =>
    cases y with
    | nil => simp [Op.bytesLess] at h2
    | cons b y =>
      simp only [Op.bytesLess, Bool.or_eq_false_iff, decide_eq_false_iff_not, Bool.and_eq_false_iff, beq_eq_false_iff_ne] at h1 h2
      have hab : a = b := by
        rcases UInt8.lt_or_lt_of_ne (a := a) (b := b) |> fun f => Classical.em (a = b) with e | e
        · exact e
        · rcases UInt8.lt_or_lt_of_ne e with h | h
          · exact (h1.1 h).elim
          · exact (h2.1 h).elim
      subst hab
      rw [ih (h1.2.resolve_left (fun h => h rfl)) (h2.2.resolve_left (fun h => h rfl))]

def lt4 (k : Int) (a b : AV) : Prop := if k = 4 then Op.bytesLess a.s.toList b.s.toList = true else a.n < b.n
theorem lt4_irrefl (k : Int) (a : AV) : ¬ lt4 k a a := by
  unfold lt4; split
  · rw [bl_irrefl]; simp
  · omega
theorem lt4_trans {k : Int} {a b c : AV} (h1 : lt4 k a b) (h2 : lt4 k b c) : lt4 k a c := by
  unfold lt4 at *; split at h1
  · rename_i e; rw [if_pos e] at *; exact bl_trans h1 h2
  · rename_i e; rw [if_neg e] at *; omega
theorem ba_toList_inj {a b : ByteArray} (h : a.toList = b.toList) : a = b := by
  have h1 : (a == b) = true := by rw [beq_toListBytes, h]; simp
  rw [bbeq] at h1; simpa using h1
theorem lt4_total {k : Int} {a b : AV} (h1 : ¬ lt4 k a b) (h2 : ¬ lt4 k b a) : (k = 4 → a.s = b.s) ∧ (k ≠ 4 → a.n = b.n) := by
  unfold lt4 at *
  refine ⟨fun e => ?_, fun e => ?_⟩
  · rw [if_pos e] at h1 h2
    exact ba_toList_inj (bl_total (by simpa using h1) (by simpa using h2))
  · rw [if_neg e] at h1 h2; omega
/-- Not below stands through. -/
theorem ge4_trans {k : Int} {a b c : AV} (h1 : ¬ lt4 k b a) (h2 : ¬ lt4 k c b) : ¬ lt4 k c a := by
  intro h
  by_cases hab : lt4 k a b
  · exact h2 (lt4_trans h hab)
  · obtain ⟨e1, e2⟩ := lt4_total hab h1
    unfold lt4 at *
    by_cases e : k = 4
    · rw [if_pos e] at *; rw [← e1 e] at h2; exact h2 h
    · rw [if_neg e] at *; rw [← e2 e] at h2; exact h2 h

theorem ord_neg {k : Int} {a b : AV} : ordV k a.n a.s b.n b.s < 0 ↔ lt4 k a b := by
  unfold ordV lt4 cmpS cmpI
  split
  · split
    · simp [*]
    · split
      · rename_i e; rw [e, bl_irrefl]; simp
      · simp [*]
  · split
    · simp [*]
    · split <;> simp [*]
theorem ord_pos {k : Int} {a b : AV} : ordV k a.n a.s b.n b.s > 0 ↔ lt4 k b a := by
  unfold ordV lt4 cmpS cmpI
  split
  · split
    · rename_i h
      simp only [Int.reduceNeg, gt_iff_lt, Int.reduceLT, false_iff]
      intro h'
      have := bl_trans h h'
      rw [bl_irrefl] at this; cases this
    · rename_i h
      split
      · rename_i e; rw [e, bl_irrefl]; simp
      · rename_i e
        simp only [gt_iff_lt, Int.zero_lt_one, true_iff]
        apply Classical.byContradiction
        intro h'
        exact e (ba_toList_inj (bl_total (by simpa using h) (by simpa using h')))
  · split
    · rename_i h; simp; omega
    · split
      · rename_i e; simp [e]
      · simp; omega

structure goodV (k sc : Int) (v : AV) : Prop where
  ek : v.k = k
  es : v.sc = sc
  nl : v.nul = false
  hn : in64 v.n
  k1 : 1 ≤ k
  k5 : k ≤ 5
  tn : k = 4 → v.n = 0
  ts : k ≠ 4 → v.s = ⟨#[]⟩

theorem goodV.eq {k sc : Int} {a b : AV} (ha : goodV k sc a) (hb : goodV k sc b) (h1 : ¬ lt4 k a b) (h2 : ¬ lt4 k b a) : a = b := by
  obtain ⟨e1, e2⟩ := lt4_total h1 h2
  have hn : a.n = b.n := by
    by_cases e : k = 4
    · rw [ha.tn e, hb.tn e]
    · exact e2 e
  have hs : a.s = b.s := by
    by_cases e : k = 4
    · exact e1 e
    · rw [ha.ts e, hb.ts e]
  cases a; cases b
  have := ha.ek; have := hb.ek; have := ha.es; have := hb.es; have := ha.nl; have := hb.nl
  simp_all

/-- The sum s stands for the values l. -/
structure Rep (kd k sc : Int) (s : Sm) (l : List AV) : Prop where
  g : ∀ x ∈ l, goodV k sc x
  ec : s.c = l.length
  et : s.t = (l.map (·.n)).sum
  eb : l ≠ [] → s.b ∈ l
  mn : l ≠ [] → kd = 3 → ∀ x ∈ l, ¬ lt4 k x s.b
  mx : l ≠ [] → kd = 4 → ∀ x ∈ l, ¬ lt4 k s.b x

theorem perm_sum {l l' : List Int} (p : l.Perm l') : l.sum = l'.sum := by
  induction p with
  | nil => rfl
  | cons x _ ih => simp [ih]
  | swap x y l => simp; omega
  | trans _ _ h1 h2 => exact h1.trans h2

theorem Rep.perm {kd k sc : Int} {s : Sm} {l l' : List AV} (h : Rep kd k sc s l) (p : l.Perm l') : Rep kd k sc s l' where
  g := fun x hx => h.g x (p.mem_iff.2 hx)
  ec := by rw [h.ec, p.length_eq]
  et := by rw [h.et]; exact perm_sum (p.map _)
  eb := fun hn => p.mem_iff.1 (h.eb (fun e => hn (by subst e; exact p.nil_eq.symm)))
  mn := fun hn e x hx => h.mn (fun e => hn (by subst e; exact p.nil_eq.symm)) e x (p.mem_iff.2 hx)
  mx := fun hn e x hx => h.mx (fun e => hn (by subst e; exact p.nil_eq.symm)) e x (p.mem_iff.2 hx)

theorem sum_bound {k sc : Int} {l : List AV} (h : ∀ x ∈ l, goodV k sc x) : -((l.length : Int) * 9223372036854775808) ≤ (l.map (·.n)).sum ∧ (l.map (·.n)).sum ≤ (l.length : Int) * 9223372036854775808 := by
  induction l with
  | nil => simp
  | cons x l ih =>
    have h1 := (h x (by simp)).hn
    have h2 := ih (fun y hy => h y (by simp [hy]))
    unfold in64 at h1
    simp only [List.map_cons, List.sum_cons, List.length_cons]
    push_cast
    omega

theorem Rep.jok {kd k sc : Int} {s s' : Sm} {l l' : List AV} (h : Rep kd k sc s l) (h' : Rep kd k sc s' l') (hl : l.length + l'.length ≤ 1048576) : JOk s s' := by
  intro hc hc'
  have hne : l ≠ [] := fun e => hc (by rw [h.ec, e]; rfl)
  have hne' : l' ≠ [] := fun e => hc' (by rw [h'.ec, e]; rfl)
  have ga := h.g _ (h.eb hne)
  have gb := h'.g _ (h'.eb hne')
  have b1 := sum_bound h.g
  have b2 := sum_bound h'.g
  rw [← h.et] at b1
  rw [← h'.et] at b2
  have e1 := h.ec
  have e2 := h'.ec
  refine ⟨⟨by omega, by omega⟩, ⟨by omega, by omega⟩, ⟨by omega, by omega⟩, ⟨by omega, by omega⟩, by rw [ga.ek, gb.ek], by rw [ga.es, gb.es], gb.hn, ga.hn, gb.nl, ga.nl, by rw [gb.ek]; exact gb.k1, by rw [gb.ek]; exact gb.k5⟩

theorem Rep.join {kd k sc : Int} {s s' : Sm} {l l' : List AV} (h : Rep kd k sc s l) (h' : Rep kd k sc s' l') : Rep kd k sc (joinS kd s s') (l ++ l') := by
  unfold joinS
  by_cases hc : s.c = 0
  · have : l = [] := List.eq_nil_of_length_eq_zero (by have := h.ec; omega)
    subst this
    rw [if_pos hc]; exact h'
  by_cases hc' : s'.c = 0
  · have : l' = [] := List.eq_nil_of_length_eq_zero (by have := h'.ec; omega)
    subst this
    rw [if_neg hc, if_pos hc', List.append_nil]; exact h
  rw [if_neg hc, if_neg hc']
  have hne : l ≠ [] := fun e => hc (by rw [h.ec, e]; rfl)
  have hne' : l' ≠ [] := fun e => hc' (by rw [h'.ec, e]; rfl)
  have ga := h.g _ (h.eb hne)
  have gb := h'.g _ (h'.eb hne')
  refine ⟨fun x hx => ?_, ?_, ?_, fun _ => ?_, fun _ e x hx => ?_, fun _ e x hx => ?_⟩
  · rcases List.mem_append.1 hx with hx | hx
    · exact h.g x hx
    · exact h'.g x hx
  · simp [h.ec, h'.ec]
  · simp [h.et, h'.et]
  · dsimp only
    split
    · exact List.mem_append.2 (.inr (h'.eb hne'))
    · exact List.mem_append.2 (.inl (h.eb hne))
  · subst e
    have hb : better 3 s'.b s.b = true ↔ lt4 k s'.b s.b := by
      unfold better
      rw [gb.ek]
      simp only [beq_self_eq_true, Bool.true_and, Bool.or_eq_true, decide_eq_true_eq, Bool.and_eq_true, beq_iff_eq]
      rw [ord_neg]
      simp
    dsimp only
    split
    · rename_i hbt
      have hlt := hb.1 hbt
      rcases List.mem_append.1 hx with hx | hx
      · exact ge4_trans (fun h => lt4_irrefl k _ (lt4_trans hlt h)) (h.mn hne rfl x hx)
      · exact h'.mn hne' rfl x hx
    · rename_i hbt
      have hnl : ¬ lt4 k s'.b s.b := fun h => hbt (hb.2 h)
      rcases List.mem_append.1 hx with hx | hx
      · exact h.mn hne rfl x hx
      · exact ge4_trans hnl (h'.mn hne' rfl x hx)
  · subst e
    have hb : better 4 s'.b s.b = true ↔ lt4 k s.b s'.b := by
      unfold better
      rw [gb.ek]
      simp only [beq_self_eq_true, Bool.true_and, Bool.or_eq_true, decide_eq_true_eq, Bool.and_eq_true, beq_iff_eq]
      rw [ord_pos]
      simp
    dsimp only
    split
    · rename_i hbt
      have hlt := hb.1 hbt
      rcases List.mem_append.1 hx with hx | hx
      · exact ge4_trans (h.mx hne rfl x hx) (fun h => lt4_irrefl k _ (lt4_trans hlt h))
      · exact h'.mx hne' rfl x hx
    · rename_i hbt
      have hnl : ¬ lt4 k s.b s'.b := fun h => hbt (hb.2 h)
      rcases List.mem_append.1 hx with hx | hx
      · exact h.mx hne rfl x hx
      · exact ge4_trans (h'.mx hne' rfl x hx) hnl
end Go.Proofs.Try
