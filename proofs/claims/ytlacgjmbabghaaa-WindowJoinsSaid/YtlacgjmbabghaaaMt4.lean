/- What a tree says over a stretch and over its two parts: plain law. -/
import Derived.Test.YtlacgjmbabghaaaM15
namespace Go.Proofs.Try
open Go Go.Dm
set_option maxRecDepth 100000

/-- Whole numbers that are not great. -/
structure Ints (vs : List AV) : Prop where
  all : ∀ v ∈ vs, v = ofInt v.n ∧ -36028797018963968 ≤ v.n ∧ v.n ≤ 36028797018963968
  len : vs.length ≤ 200

theorem Ints.seg {vs : List AV} (h : Ints vs) (a b : Nat) : Ints (seg vs a b) ∧ (b ≤ vs.length → (seg vs a b).length = b - a) := by
  have e : Go.Proofs.Try.seg vs a b = (vs.take b).drop a := by
    unfold Go.Proofs.Try.seg
    rw [List.filter_eq_self]
    intro v hv
    have := (h.all v (List.mem_of_mem_take (List.mem_of_mem_drop hv))).1
    rw [this]; rfl
  rw [e]
  refine ⟨⟨fun v hv => h.all v (List.mem_of_mem_take (List.mem_of_mem_drop hv)), ?_⟩, fun hb => ?_⟩
  · have := h.len
    rw [List.length_drop, List.length_take]; omega
  · rw [List.length_drop, List.length_take]; omega

theorem sum_small {l : List AV} (h : ∀ v ∈ l, -36028797018963968 ≤ v.n ∧ v.n ≤ 36028797018963968) : -36028797018963968 * (l.length : Int) ≤ (l.map (·.n)).sum ∧ (l.map (·.n)).sum ≤ 36028797018963968 * (l.length : Int) := by
  induction l with
  | nil => simp
  | cons v r ih =>
    obtain ⟨a, b⟩ := ih (fun x hx => h x (List.mem_cons_of_mem _ hx))
    obtain ⟨c, d⟩ := h v (List.mem_cons_self ..)
    simp only [List.map_cons, List.sum_cons, List.length_cons]
    omega

theorem s18_int (t : Int) : s18_0 2 0 false t ⟨#[]⟩ = 0 := by
  have e0 : (({ data := #[] } : ByteArray) == { data := { toList := [] } }) = true := by rw [bbeq]; simp
  have g3 : s15_0 2 0 = 0 := by kernel_rfl
  simp only [s18_0, g3]
  rw [e0]
  simp

/-- What a stretch comes to. -/
def ovI (kd : Int) (l : List AV) (v : AV) : Prop :=
  (kd = 1 ∧ v = ofInt l.length) ∨ (kd ≠ 1 ∧ l = [] ∧ v = noneV 2 0) ∨ (kd = 2 ∧ l ≠ [] ∧ v = ofInt (l.map (·.n)).sum) ∨
  (kd = 3 ∧ v ∈ l ∧ ∀ x ∈ l, v.n ≤ x.n) ∨ (kd = 4 ∧ v ∈ l ∧ ∀ x ∈ l, x.n ≤ v.n)

theorem kd_of {kd : Int} (ha : argBad kd 2 0 = false) : kd = 1 ∨ kd = 2 ∨ kd = 3 ∨ kd = 4 := by
  unfold argBad at ha
  by_cases g1 : kd < 1
  · rw [decide_eq_true g1] at ha; cases ha
  by_cases g2 : kd > 4
  · rw [decide_eq_false g1, decide_eq_true g2] at ha; cases ha
  omega

theorem ov_val {kd : Int} {vs : List AV} {fr to : Int} {v : AV} {e : Int} (hI : Ints vs) (ha : argBad kd 2 0 = false) (hok : okS vs.length fr to) (h : ovL kd 2 0 vs fr to v e) :
    e = 0 ∧ ovI kd (seg vs fr.toNat (to + 1).toNat) v := by
  obtain ⟨g, _⟩ | ⟨_, s, hs, rfl, rfl⟩ := h
  · exact absurd hok g
  obtain ⟨hS, _⟩ := hI.seg fr.toNat (to + 1).toNat
  generalize seg vs fr.toNat (to + 1).toNat = l at hs hS
  have hc : s.c = 0 ↔ l = [] := by rw [hs.ec]; simp
  unfold outV outE ovI
  by_cases e1 : kd = 1
  · rw [if_pos e1, if_pos e1, hs.ec]
    exact ⟨rfl, .inl ⟨e1, rfl⟩⟩
  rw [if_neg e1, if_neg e1]
  by_cases e2 : l = []
  · rw [if_pos (hc.2 e2), if_pos (hc.2 e2)]
    exact ⟨rfl, .inr (.inl ⟨e1, e2, rfl⟩)⟩
  have e2' : ¬ s.c = 0 := fun h => e2 (hc.1 h)
  rw [if_neg e2', if_neg e2']
  have hb := hs.eb e2
  by_cases e3 : kd = 2
  · rw [if_neg (show ¬ kd ≠ 2 from fun h => h e3), if_neg (show ¬ kd ≠ 2 from fun h => h e3)]
    obtain ⟨b1, b2⟩ := sum_small (fun v hv => (hS.all v hv).2)
    have hl := hS.len
    have hi : in64 s.t ∧ s18_0 2 0 false s.t ⟨#[]⟩ = 0 := by
      refine ⟨?_, s18_int _⟩
      rw [hs.et]
      exact ⟨by omega, by omega⟩
    rw [if_pos hi, if_pos hi, hs.et]
    exact ⟨rfl, .inr (.inr (.inl ⟨e3, e2, rfl⟩))⟩
  · rw [if_pos e3, if_pos e3]
    refine ⟨rfl, ?_⟩
    rcases kd_of ha with h | h | h | h
    · exact absurd h e1
    · exact absurd h e3
    · refine .inr (.inr (.inr (.inl ⟨h, hb, fun x hx => ?_⟩)))
      have := hs.mn e2 h x hx
      unfold lt4 at this
      rw [if_neg (by decide)] at this
      omega
    · refine .inr (.inr (.inr (.inr ⟨h, hb, fun x hx => ?_⟩)))
      have := hs.mx e2 h x hx
      unfold lt4 at this
      rw [if_neg (by decide)] at this
      omega

theorem joins {kd : Int} {vs : List AV} {p q r : Int} {v v1 v2 : AV} {e e1 e2 : Int} (hI : Ints vs) (ha : argBad kd 2 0 = false) (h0 : 0 ≤ p) (h1 : p ≤ q) (h2 : q ≤ r) (h3 : r < vs.length)
    (g : ovL kd 2 0 vs p q v e) (g1 : ovL kd 2 0 vs (q + 1) r v1 e1) (g2 : ovL kd 2 0 vs p r v2 e2) :
    (e = 0 ∧ e1 = 0 ∧ e2 = 0) ∧ (v1.nul = true → v2 = v) ∧ (v1.nul = false → (kd = 3 → v2.n = if v1.n < v.n then v1.n else v.n) ∧ (kd = 4 → v2.n = if v1.n > v.n then v1.n else v.n) ∧ (kd ≠ 3 → kd ≠ 4 → v2.n = IntKind.i64.wrap (v.n + v1.n))) := by
  obtain ⟨a, b⟩ := ov_val hI ha ⟨by omega, by omega, by omega⟩ g
  obtain ⟨a1, b1⟩ := ov_val hI ha ⟨by omega, by omega, by omega⟩ g1
  obtain ⟨a2, b2⟩ := ov_val hI ha ⟨by omega, by omega, by omega⟩ g2
  have happ := seg_append vs (a := p.toNat) (b := (q + 1).toNat) (c := (r + 1).toNat) (by omega) (by omega)
  obtain ⟨hS, hl⟩ := hI.seg p.toNat (q + 1).toNat
  obtain ⟨hS1, hl1⟩ := hI.seg (q + 1).toNat (r + 1).toNat
  obtain ⟨hS2, hl2⟩ := hI.seg p.toNat (r + 1).toNat
  have hl := hl (by omega)
  have hl1 := hl1 (by omega)
  have hl2 := hl2 (by omega)
  have hmem : ∀ x, x ∈ seg vs p.toNat (r + 1).toNat ↔ x ∈ seg vs p.toNat (q + 1).toNat ∨ x ∈ seg vs (q + 1).toNat (r + 1).toNat := by intro x; rw [← happ, List.mem_append]
  have hsum : ((seg vs p.toNat (r + 1).toNat).map (·.n)).sum = ((seg vs p.toNat (q + 1).toNat).map (·.n)).sum + ((seg vs (q + 1).toNat (r + 1).toNat).map (·.n)).sum := by
    rw [← happ, List.map_append, List.sum_append]
  have hsame : seg vs (q + 1).toNat (r + 1).toNat = [] → seg vs p.toNat (r + 1).toNat = seg vs p.toNat (q + 1).toNat := by
    intro h; rw [← happ, h, List.append_nil]
  generalize seg vs p.toNat (q + 1).toNat = l at *
  generalize seg vs (q + 1).toNat (r + 1).toNat = l1 at *
  generalize seg vs p.toNat (r + 1).toNat = l2 at *
  have hne : l ≠ [] := by intro h; rw [h] at hl; simp at hl; omega
  have hne2 : l2 ≠ [] := by intro h; rw [h] at hl2; simp at hl2; omega
  have hn1 : ∀ x ∈ l1, x.nul = false := fun x hx => by rw [(hS1.all x hx).1]; rfl
  refine ⟨⟨a, a1, a2⟩, fun hn => ?_, fun hn => ⟨fun hk => ?_, fun hk => ?_, fun hk hk' => ?_⟩⟩
  · obtain ⟨rfl, rfl⟩ | ⟨k1, hl1', rfl⟩ | ⟨_, _, rfl⟩ | ⟨_, hm, _⟩ | ⟨_, hm, _⟩ := b1
    · cases hn
    · have hs := hsame hl1'
      subst hs
      unfold ovI at b b2
      obtain ⟨k, rfl⟩ | ⟨_, k, _⟩ | ⟨k, _, rfl⟩ | ⟨k, m1, m2⟩ | ⟨k, m1, m2⟩ := b
      · exact absurd k k1
      · exact absurd k hne
      · obtain ⟨k', rfl⟩ | ⟨_, k', _⟩ | ⟨k', _, rfl⟩ | ⟨k', n1, n2⟩ | ⟨k', n1, n2⟩ := b2
        · omega
        · exact absurd k' hne
        · rfl
        · omega
        · omega
      · obtain ⟨k', rfl⟩ | ⟨_, k', _⟩ | ⟨k', _, rfl⟩ | ⟨k', n1, n2⟩ | ⟨k', n1, n2⟩ := b2
        · omega
        · exact absurd k' hne
        · omega
        · have := m2 v2 n1
          have := n2 v m1
          rw [(hS.all v m1).1, (hS.all v2 n1).1, show v2.n = v.n by omega]
        · omega
      · obtain ⟨k', rfl⟩ | ⟨_, k', _⟩ | ⟨k', _, rfl⟩ | ⟨k', n1, n2⟩ | ⟨k', n1, n2⟩ := b2
        · omega
        · exact absurd k' hne
        · omega
        · omega
        · have := m2 v2 n1
          have := n2 v m1
          rw [(hS.all v m1).1, (hS.all v2 n1).1, show v2.n = v.n by omega]
    · cases hn
    · rw [hn1 _ hm] at hn; cases hn
    · rw [hn1 _ hm] at hn; cases hn
  · obtain ⟨k', _⟩ | ⟨_, _, rfl⟩ | ⟨k', _, _⟩ | ⟨_, m1, m2⟩ | ⟨k', _, _⟩ := b1
    · omega
    · cases hn
    · omega
    · obtain ⟨k', _⟩ | ⟨_, k', _⟩ | ⟨k', _, _⟩ | ⟨_, n1, n2⟩ | ⟨k', _, _⟩ := b
      · omega
      · exact absurd k' hne
      · omega
      · obtain ⟨k', _⟩ | ⟨_, k', _⟩ | ⟨k', _, _⟩ | ⟨_, o1, o2⟩ | ⟨k', _, _⟩ := b2
        · omega
        · exact absurd k' hne2
        · omega
        · have x1 := o2 v ((hmem v).2 (.inl n1))
          have x2 := o2 v1 ((hmem v1).2 (.inr m1))
          rcases (hmem v2).1 o1 with y | y
          · have := n2 v2 y; split <;> omega
          · have := m2 v2 y; split <;> omega
        · omega
      · omega
    · omega
  · obtain ⟨k', _⟩ | ⟨_, _, rfl⟩ | ⟨k', _, _⟩ | ⟨k', _, _⟩ | ⟨_, m1, m2⟩ := b1
    · omega
    · cases hn
    · omega
    · omega
    · obtain ⟨k', _⟩ | ⟨_, k', _⟩ | ⟨k', _, _⟩ | ⟨k', _, _⟩ | ⟨_, n1, n2⟩ := b
      · omega
      · exact absurd k' hne
      · omega
      · omega
      · obtain ⟨k', _⟩ | ⟨_, k', _⟩ | ⟨k', _, _⟩ | ⟨k', _, _⟩ | ⟨_, o1, o2⟩ := b2
        · omega
        · exact absurd k' hne2
        · omega
        · omega
        · have x1 := o2 v ((hmem v).2 (.inl n1))
          have x2 := o2 v1 ((hmem v1).2 (.inr m1))
          rcases (hmem v2).1 o1 with y | y
          · have := n2 v2 y; split <;> omega
          · have := m2 v2 y; split <;> omega
  · have hl200 := hS.len
    have hl201 := hS1.len
    have hl202 := hS2.len
    obtain ⟨c1, c2⟩ := sum_small (fun v hv => (hS2.all v hv).2)
    obtain ⟨k, rfl⟩ | ⟨_, _, rfl⟩ | ⟨k, _, rfl⟩ | ⟨k', _, _⟩ | ⟨k', _, _⟩ := b1
    · obtain ⟨_, rfl⟩ | ⟨k', _, _⟩ | ⟨k', _, _⟩ | ⟨k', _, _⟩ | ⟨k', _, _⟩ := b
      · obtain ⟨_, rfl⟩ | ⟨k', _, _⟩ | ⟨k', _, _⟩ | ⟨k', _, _⟩ | ⟨k', _, _⟩ := b2
        · show (l2.length : Int) = IntKind.i64.wrap ((l.length : Int) + (l1.length : Int))
          rw [wrap_i64_of (by omega) (by omega)]
          omega
        all_goals omega
      all_goals omega
    · cases hn
    · obtain ⟨k', _⟩ | ⟨_, k', _⟩ | ⟨_, _, rfl⟩ | ⟨k', _, _⟩ | ⟨k', _, _⟩ := b
      · omega
      · exact absurd k' hne
      · obtain ⟨k', _⟩ | ⟨_, k', _⟩ | ⟨_, _, rfl⟩ | ⟨k', _, _⟩ | ⟨k', _, _⟩ := b2
        · omega
        · exact absurd k' hne2
        · show (l2.map (·.n)).sum = IntKind.i64.wrap ((l.map (·.n)).sum + (l1.map (·.n)).sum)
          rw [← hsum, wrap_i64_of (by omega) (by omega)]
        all_goals omega
      all_goals omega
    · omega
    · omega
end Go.Proofs.Try
