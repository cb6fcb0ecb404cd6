/- From what a statement says of its arguments to a contract's arguments: whatever reads as a plain datum is data of its type. -/
import Derived.Test.YtfohenhmlfiijaaGreatDoorDm21
import Derived.WalkKit
import Derived.ProofKit
import Derived.OpenShut
import Derived.ShutString
import Derived.ChangeOld
import Derived.Below
import Derived.SizedLaws
import Derived.Deep.Slices
import Derived.Test.YtfohenhmlfiijaaGreatDoorB13
import Derived.Test.YtfohenhmlfiijaaGreatDoorB1
namespace Go.Dm

/-- A row of data of a type. -/
inductive TyD (P : Program) : TypeId → List D → Prop
  | bool {t : TypeId} {b : Bool} (h : P.underlying t = some .bool) : TyD P t [.v (.bool b)]
  | int {t : TypeId} {k : IntKind} {n : Int} (h : P.underlying t = some (.int k)) (hn : k.min ≤ n ∧ n ≤ k.max) : TyD P t [.v (.int k n)]
  | str {t : TypeId} {s : ByteArray} (h : P.underlying t = some .string) (hs : s.size ≤ reachBytes) : TyD P t [.v (.string s)]
  | sl {t e : TypeId} {es : List (List D)} (h : P.underlying t = some (.slice e)) (hs : es.length * P.bytesOf e ≤ reachBytes) (hx : ∀ r ∈ es, TyD P e r) : TyD P t [.sl es]
  | struct {t : TypeId} {fs : Array Field} {ds : List D} (h : P.underlying t = some (.struct fs)) (hl : ds.length = P.cellsOf t)
      (hx : ∀ x ∈ fs.toList, TyD P x.type ((ds.drop x.offset).take (P.cellsOf x.type))) : TyD P t ds
  | arr {t e : TypeId} {n : Nat} {ds : List D} (h : P.underlying t = some (.array n e)) (hl : ds.length = P.cellsOf t)
      (hx : ∀ i, i < n → TyD P e ((ds.drop (i * P.cellsOf e)).take (P.cellsOf e))) : TyD P t ds

theorem TyD.bool_inv {P : Program} {t : TypeId} {ds : List D} (h : TyD P t ds) (ht : P.underlying t = some .bool) : ∃ b, ds = [.v (.bool b)] := by
  cases h <;> simp_all
theorem TyD.int_inv {P : Program} {t : TypeId} {ds : List D} {k : IntKind} (h : TyD P t ds) (ht : P.underlying t = some (.int k)) : ∃ n, (k.min ≤ n ∧ n ≤ k.max) ∧ ds = [.v (.int k n)] := by
  cases h with
  | int h hn => rw [h] at ht; cases ht; exact ⟨_, hn, rfl⟩
  | _ => simp_all
theorem TyD.str_inv {P : Program} {t : TypeId} {ds : List D} (h : TyD P t ds) (ht : P.underlying t = some .string) : ∃ s, s.size ≤ reachBytes ∧ ds = [.v (.string s)] := by
  cases h with
  | str h hn => exact ⟨_, hn, rfl⟩
  | _ => simp_all
theorem TyD.sl_inv {P : Program} {t e : TypeId} {ds : List D} (h : TyD P t ds) (ht : P.underlying t = some (.slice e)) : ∃ es : List (List D), es.length * P.bytesOf e ≤ reachBytes ∧ ds = [.sl es] ∧ ∀ r ∈ es, TyD P e r := by
  cases h with
  | sl h hn hx => rw [h] at ht; cases ht; exact ⟨_, hn, rfl, hx⟩
  | _ => simp_all
theorem TyD.struct_inv {P : Program} {t : TypeId} {fs : Array Field} {ds : List D} (h : TyD P t ds) (ht : P.underlying t = some (.struct fs)) : ds.length = P.cellsOf t ∧ ∀ x ∈ fs.toList, TyD P x.type ((ds.drop x.offset).take (P.cellsOf x.type)) := by
  cases h with
  | struct h hl hx => rw [h] at ht; cases ht; exact ⟨hl, hx⟩
  | _ => simp_all

theorem TyD.fld {P : Program} {t : TypeId} {fs : Array Field} {ds : List D} (h : TyD P t ds) (ht : P.underlying t = some (.struct fs)) (i : Nat) {x : Field} (hx : fs.toList[i]? = some x) {n : Nat} (hn : P.cellsOf x.type = n) : TyD P x.type ((ds.drop x.offset).take n) := by
  rw [← hn]
  exact (h.struct_inv ht).2 x (List.mem_of_getElem? hx)

/-- Fields that lie one behind the other. -/
def tileB (P : Program) (tot : Nat) : Nat → List Field → Bool
  | off, [] => off == tot
  | off, f :: r => f.offset == off && tileB P tot (off + P.cellsOf f.type) r
/-- Types of plain data alone. -/
def dataTyB (P : Program) (S : List TypeId) : Bool := S.all fun t => match P.underlying t with
  | some .bool => true
  | some (.int _) => true
  | some .string => true
  | some (.slice e) => S.contains e && P.cellsOf e != 0
  | some (.struct fs) => tileB P (P.cellsOf t) 0 fs.toList && fs.toList.all fun f => S.contains f.type
  | some (.array n e) => S.contains e && n * P.cellsOf e == P.cellsOf t
  | _ => false

/-- A row of values that reads as a row of data. -/
inductive RdL (ok : Nat → Prop) (w : World) : List Value → List D → Prop
  | nil : RdL ok w [] []
  | cons {v : Value} {d : D} {vs : List Value} {ds : List D} (h : Rd ok w v d) (r : RdL ok w vs ds) : RdL ok w (v :: vs) (d :: ds)

theorem RdL.length {ok : Nat → Prop} {w : World} {vs : List Value} {ds : List D} (h : RdL ok w vs ds) : vs.length = ds.length := by
  induction h with
  | nil => rfl
  | cons h r ih => simp [ih]
theorem RdL.append {ok : Nat → Prop} {w : World} {vs vs' : List Value} {ds ds' : List D} (h : RdL ok w vs ds) (h' : RdL ok w vs' ds') : RdL ok w (vs ++ vs') (ds ++ ds') := by
  induction h with
  | nil => exact h'
  | cons h r ih => exact .cons h ih
theorem RdL.get {ok : Nat → Prop} {w : World} {vs : List Value} {ds : List D} (h : RdL ok w vs ds) : ∀ (i : Nat) (x : D) (v : Value), ds[i]? = some x → vs[i]? = some v → Rd ok w v x := by
  induction h with
  | nil => intro i x v h; simp at h
  | cons h r ih =>
    intro i x v h1 h2
    cases i with
    | zero => simp at h1 h2; subst h1; subst h2; exact h
    | succ i => simp at h1 h2; exact ih i x v h1 h2

section
variable {H : Type} {enc : TypeId × Value → H} {P : Program} {w : World} {base : Nat} {held : Bool}

theorem weightsAll_mem {e : TypeId} {l : List (DataW H)} {d : DataW H} (h : d ∈ l) {x : Nat} (hx : x ∈ d.weights P e) : x ∈ DataW.weightsAll P e l := by
  induction l with
  | nil => cases h
  | cons y r ih =>
    simp only [DataW.weightsAll, List.mem_append]
    cases h with
    | head => exact .inl hx
    | tail _ h => exact .inr (ih h)
theorem weightsEach_mem : ∀ {ts : List TypeId} {l : List (DataW H)} {i : Nat} {t : TypeId} {d : DataW H}, ts[i]? = some t → l[i]? = some d → ∀ {x : Nat}, x ∈ d.weights P t → x ∈ DataW.weightsEach P ts l
  | [], _, i, _, _, h, _, _, _ => by simp at h
  | _ :: _, [], i, _, _, _, h, _, _ => by simp at h
  | _ :: ts, _ :: l, 0, _, _, h1, h2, x, hx => by
    simp at h1 h2; subst h1; subst h2
    simp only [DataW.weightsEach, List.mem_append]; exact .inl hx
  | _ :: ts, _ :: l, i + 1, _, _, h1, h2, x, hx => by
    simp at h1 h2
    simp only [DataW.weightsEach, List.mem_append]; exact .inr (weightsEach_mem h1 h2 hx)

/-- Small: each weight within the reach. -/
def Small (P : Program) (t : TypeId) (d : DataW H) : Prop := ∀ x ∈ d.weights P t, x ≤ reachBytes

/-- One field's worth of a row, then the rest. -/
theorem fields_typed {cs : List Value} {tot : Nat} (hcs : cs.length = tot) {ok : Nat → Prop} : ∀ (fs : List Field) (off : Nat), tileB P tot off fs = true → off ≤ tot →
    (∀ f ∈ fs, ∃ ds, RdL ok w ((cs.drop f.offset).take (P.cellsOf f.type)) ds ∧ TyD P f.type ds) →
    (∀ f ∈ fs, f.offset + P.cellsOf f.type ≤ tot) →
    ∃ ds, RdL ok w (cs.drop off) ds ∧ ∀ f ∈ fs, off ≤ f.offset ∧ TyD P f.type ((ds.drop (f.offset - off)).take (P.cellsOf f.type))
  | [], off, ht, ho, _, _ => by
    simp only [tileB, beq_iff_eq] at ht
    refine ⟨[], ?_, by simp⟩
    rw [List.drop_eq_nil_of_le (by omega)]
    exact .nil
  | f :: r, off, ht, ho, hf, hle => by
    simp only [tileB, Bool.and_eq_true, beq_iff_eq] at ht
    obtain ⟨h1, h2⟩ := ht
    have hle1 := hle f (by simp)
    obtain ⟨d1, a1, a2⟩ := hf f (by simp)
    obtain ⟨d2, b1, b2⟩ := fields_typed hcs r (off + P.cellsOf f.type) h2 (by omega) (fun g hg => hf g (by simp [hg])) (fun g hg => hle g (by simp [hg]))
    have hl1 : d1.length = P.cellsOf f.type := by
      rw [← a1.length, List.length_take, List.length_drop]; omega
    refine ⟨d1 ++ d2, ?_, ?_⟩
    · have : cs.drop off = (cs.drop f.offset).take (P.cellsOf f.type) ++ cs.drop (off + P.cellsOf f.type) := by
        rw [h1, ← List.drop_drop, List.take_append_drop]
      rw [this]
      exact a1.append b1
    · intro g hg
      cases hg with
      | head =>
        refine ⟨by omega, ?_⟩
        rw [h1, Nat.sub_self, List.drop_zero, List.take_append_of_le_length (by omega), List.take_of_length_le (by omega)]
        exact a2
      | tail _ hg =>
        obtain ⟨c1, c2⟩ := b2 g hg
        refine ⟨by omega, ?_⟩
        have : (d1 ++ d2).drop (g.offset - off) = d2.drop (g.offset - (off + P.cellsOf f.type)) := by
          rw [List.drop_append, List.drop_eq_nil_of_le (by omega), List.nil_append, hl1]
          congr 1
          omega
        rw [this]
        exact c2

theorem elems_typed {cs : List Value} {c n : Nat} (hcs : cs.length = n * c) {ok : Nat → Prop} {e : TypeId}
    (hx : ∀ i, i < n → ∃ ds, RdL ok w ((cs.drop (i * c)).take c) ds ∧ TyD P e ds) : ∀ k, k ≤ n → ∃ ds, RdL ok w (cs.take (k * c)) ds ∧ ∀ i, i < k → TyD P e ((ds.drop (i * c)).take c)
  | 0, _ => ⟨[], by simp; exact .nil, fun i h => by omega⟩
  | k + 1, hk => by
    obtain ⟨d1, a1, a2⟩ := elems_typed hcs hx k (by omega)
    obtain ⟨d2, b1, b2⟩ := hx k (by omega)
    have hmul : (k + 1) * c ≤ n * c := Nat.mul_le_mul_right _ hk
    have hm : (k + 1) * c = k * c + c := Nat.succ_mul k c
    have hl1 : d1.length = k * c := by rw [← a1.length, List.length_take]; omega
    have hl2 : d2.length = c := by rw [← b1.length, List.length_take, List.length_drop]; omega
    refine ⟨d1 ++ d2, ?_, fun i hi => ?_⟩
    · have : cs.take ((k + 1) * c) = cs.take (k * c) ++ (cs.drop (k * c)).take c := by rw [hm, List.take_add]
      rw [this]
      exact a1.append b1
    · by_cases h : i < k
      · have hi2 : (i + 1) * c ≤ k * c := Nat.mul_le_mul_right _ h
        have hi3 : (i + 1) * c = i * c + c := Nat.succ_mul i c
        have : ((d1 ++ d2).drop (i * c)).take c = (d1.drop (i * c)).take c := by
          rw [List.drop_append_of_le_length (by omega), List.take_append_of_le_length (by rw [List.length_drop]; omega)]
        rw [this]
        exact a2 i h
      · have : i = k := by omega
        subst this
        rw [← hl1, List.drop_left, List.take_of_length_le (by omega)]
        exact b2

theorem tile_le {tot : Nat} : ∀ (fs : List Field) (off : Nat), tileB P tot off fs = true → off ≤ tot ∧ ∀ f ∈ fs, f.offset + P.cellsOf f.type ≤ tot
  | [], off, h => by simp only [tileB, beq_iff_eq] at h; exact ⟨by omega, by simp⟩
  | f :: r, off, h => by
    simp only [tileB, Bool.and_eq_true, beq_iff_eq] at h
    obtain ⟨a, b⟩ := tile_le r _ h.2
    refine ⟨by omega, fun g hg => ?_⟩
    cases hg with
    | head => omega
    | tail _ hg => exact b g hg

/-- Whatever reads as a datum of a type of plain data is data of that type. -/
theorem trod_typed {S : List TypeId} (hS : dataTyB P S = true) : ∀ (n : Nat) (t : TypeId) (cs : List Value) (x : DataW H × List MemPlace), t ∈ S →
    DataW.trod enc P w base (fun _ => true) held n t cs = some x → Small P t x.1 → ∃ ds, RdL (fun b => b < w.heap.size) w cs ds ∧ TyD P t ds := by
  intro n
  induction n with
  | zero => intro t cs x _ h; simp [DataW.trod] at h
  | succ n ih =>
    intro t cs x ht h hsm
    have hb := List.all_eq_true.1 hS t ht
    split at hb
    · rename_i hu
      obtain ⟨b, rfl, _⟩ := DataW.trod_bool hu h
      exact ⟨[.v (.bool b)], .cons (.v rfl) .nil, .bool hu⟩
    · rename_i k hu
      obtain ⟨m, rfl, _, hw⟩ := DataW.trod_int hu h
      refine ⟨[.v (.int k m)], .cons (.v rfl) .nil, .int hu ?_⟩
      simpa [Lit.wf] using hw
    · rename_i hu
      obtain ⟨s, rfl, hx, hs⟩ := DataW.trod_string hu h
      refine ⟨[.v (.string s)], .cons (.v rfl) .nil, .str hu ?_⟩
      subst hx
      exact hsm _ (by simp [DataW.weights])
    · rename_i e hu
      simp only [Bool.and_eq_true, List.contains_iff_mem, bne_iff_ne, ne_eq] at hb
      obtain ⟨he, hc0⟩ := hb
      rcases DataW.trod_slice hu h with ⟨rfl, _⟩ | ⟨a, len, cap, elems, rest, m, hm, rfl, rfl, hb, hl, hcm, hlen, hel, _, _⟩
      · exact ⟨[.sl []], .cons .nil .nil, .sl hu (by simp) (by simp)⟩
      · cases hm
        have hw : ∀ y ∈ DataW.weightsAll P e (elems.map (·.1)), y ≤ reachBytes := fun y hy => hsm y (by
          show y ∈ DataW.weights P t (.slice (elems.map (·.1)) (rest.map (·.1)))
          unfold DataW.weights
          rw [hu]
          simp [hy])
        have hwl : elems.length * P.bytesOf e ≤ reachBytes := by
          have := hsm ((elems.length + rest.length) * P.bytesOf e) (by
            show _ ∈ DataW.weights P t (.slice (elems.map (·.1)) (rest.map (·.1)))
            unfold DataW.weights
            rw [hu]
            simp)
          exact Nat.le_trans (Nat.mul_le_mul_right _ (by omega)) this
        have each : ∀ i, i < len → ∃ cs' ds, w.cells? base (a.add (i * P.cellsOf e)) (P.cellsOf e) = some cs' ∧ RdL (fun b => b < w.heap.size) w cs' ds ∧ TyD P e ds := by
          intro i hi
          have h1 := hel i hi
          rw [List.getElem?_eq_getElem (by omega), Option.bind_eq_some_iff] at h1
          obtain ⟨cs', h2, h3⟩ := h1
          obtain ⟨ds, h4, h5⟩ := ih e cs' _ he h3 (fun y hy => hw y (weightsAll_mem (List.mem_map.2 ⟨elems[i]'(by omega), List.getElem_mem _, rfl⟩) hy))
          exact ⟨cs', ds, h2, h4, h5⟩
        by_cases hl0 : len = 0
        · subst hl0
          exact ⟨[.sl []], .cons .nul .nil, .sl hu (by simp) (by simp)⟩
        · let es : List (List D) := (List.range len).map fun i => if hi : i < len then (each i hi).choose_spec.choose else []
          have hes : es.length = len := by simp [es]
          have heg : ∀ i (hi : i < len), es.getD i [] = (each i hi).choose_spec.choose := by
            intro i hi
            simp [es, List.getD_eq_getElem?_getD, hi]
          have hlenc : ∀ (cs' : List Value) (ad : Addr), w.cells? base ad (P.cellsOf e) = some cs' → cs'.length = P.cellsOf e := by
            intro cs' ad h1
            unfold World.cells? at h1
            split at h1
            · have := mapM_some_length h1; simpa using this
            · cases h1
          have hcell : ∀ (cs' : List Value) (ad : Addr), w.cells? base ad (P.cellsOf e) = some cs' → ∀ j, j < P.cellsOf e → w.cell? (ad.add j) = cs'[j]? := by
            intro cs' ad h1 j hj
            unfold World.cells? at h1
            split at h1
            · exact mapM_some_get h1 j j (by simp [hj])
            · cases h1
          obtain ⟨spot0, hblk⟩ : a.spot = none ∧ a.block < w.heap.size := by
            obtain ⟨h1, h2, _⟩ := (each 0 (by omega)).choose_spec.choose_spec
            have h3 := hcell _ _ h1 0 (by omega)
            rw [List.getElem?_eq_getElem (by rw [hlenc _ _ h1]; omega)] at h3
            have e0 : (a.add (0 * P.cellsOf e)).add 0 = a := by simp [Addr.add]
            rw [e0] at h3
            unfold World.cell? at h3
            constructor
            · split at h3
              · split at h3
                · cases h3
                · rename_i hs; simpa using hs
              · cases h3
            · split at h3
              · rename_i c hcc; exact (Array.getElem?_eq_some_iff.1 hcc).1
              · cases h3
          obtain ⟨b, off, sp⟩ := a
          subst spot0
          have hadd : ∀ i j : Nat, ((⟨b, off, none⟩ : Addr).add i).add j = ⟨b, off + (i + j), none⟩ := by
            intro i j
            rw [addr_add, addr_add, Nat.add_assoc]
          refine ⟨[.sl es], .cons ?_ .nil, .sl hu (by rw [hes, ← hlen]; exact hwl) ?_⟩
          · have := Rd.sl (ok := fun b => b < w.heap.size) (w := w) (b := b) (off := off) (cap := cap) (es := es) (P.cellsOf e) (fun i j => (w.cell? ⟨b, off + (i * P.cellsOf e + j), none⟩).getD default) (by rw [hes]; exact hl) (fun _ => hblk) ?_ ?_ ?_
            · rw [hes] at this; exact this
            · intro c hc
              obtain ⟨i, hi, rfl⟩ := List.getElem_of_mem hc
              rw [hes] at hi
              have h0 := heg i hi
              rw [List.getD_eq_getElem?_getD, List.getElem?_eq_getElem (by rw [hes]; exact hi)] at h0
              simp only [Option.getD_some] at h0
              rw [h0]
              obtain ⟨h1, h2, h3⟩ := (each i hi).choose_spec.choose_spec
              rw [← h2.length]
              exact hlenc _ _ h1
            · intro i j hi hj
              rw [hes] at hi
              obtain ⟨h1, h2, h3⟩ := (each i hi).choose_spec.choose_spec
              have h4 := hcell _ _ h1 j hj
              rw [hadd] at h4
              rw [h4, List.getElem?_eq_getElem (by rw [hlenc _ _ h1]; exact hj)]
              rfl
            · intro i j hi hj
              rw [hes] at hi
              rw [heg i hi]
              obtain ⟨h1, h2, h3⟩ := (each i hi).choose_spec.choose_spec
              have h4 := hcell _ _ h1 j hj
              rw [hadd] at h4
              have hl' := hlenc _ _ h1
              refine h2.get j _ ((w.cell? ⟨b, off + (i * P.cellsOf e + j), none⟩).getD default) ?_ ?_
              · have hlt : j < (each i hi).choose_spec.choose.length := by rw [← h2.length, hl']; exact hj
                rw [List.getD_eq_getElem?_getD, List.getElem?_eq_getElem hlt]; rfl
              · rw [h4, List.getElem?_eq_getElem (by rw [hl']; exact hj)]; rfl
          · intro r hr
            obtain ⟨i, hi, rfl⟩ := List.getElem_of_mem hr
            rw [hes] at hi
            have h0 := heg i hi
            rw [List.getD_eq_getElem?_getD, List.getElem?_eq_getElem (by rw [hes]; exact hi)] at h0
            simp only [Option.getD_some] at h0
            rw [h0]
            exact (each i hi).choose_spec.choose_spec.2.2
    · rename_i fs hu
      simp only [Bool.and_eq_true, List.all_eq_true, List.contains_iff_mem] at hb
      obtain ⟨htile, hmem⟩ := hb
      obtain ⟨xs, m, hm, rfl, hl, hxl, hx⟩ := DataW.trod_struct hu h
      cases hm
      have hle := tile_le _ _ htile
      obtain ⟨ds, h1, h2⟩ := fields_typed (w := w) (P := P) hl (ok := fun b => b < w.heap.size) fs.toList 0 htile (Nat.zero_le _) (by
        intro f hf
        obtain ⟨i, hi, rfl⟩ := List.getElem_of_mem hf
        have hi' : i < fs.size := by simpa using hi
        have h1 := hx i (fs.toList[i]) (by simp [hi'])
        rw [List.getElem?_eq_getElem (by omega)] at h1
        refine ih _ _ _ (hmem _ hf) h1 (fun y hy => hsm y ?_)
        show y ∈ DataW.weights P t (.agg (xs.map (·.1)))
        unfold DataW.weights
        rw [hu]
        exact weightsEach_mem (i := i) (t := fs.toList[i].type) (d := xs[i].1) (by simp [hi']) (by simp [hxl, hi']) hy) hle.2
      rw [List.drop_zero] at h1
      refine ⟨ds, h1, .struct hu (by rw [← h1.length]; exact hl) fun f hf => ?_⟩
      have := (h2 f hf).2
      rwa [Nat.sub_zero] at this
    · rename_i k e hu
      simp only [Bool.and_eq_true, List.contains_iff_mem, beq_iff_eq] at hb
      obtain ⟨he, hc⟩ := hb
      obtain ⟨xs, m, hm, rfl, hl, hxl, hx⟩ := DataW.trod_array hu h
      cases hm
      obtain ⟨ds, h1, h2⟩ := elems_typed (w := w) (P := P) (cs := cs) (c := P.cellsOf e) (n := k) (by rw [hl, hc]) (ok := fun b => b < w.heap.size) (e := e) (by
        intro i hi
        have h1 := hx i hi
        rw [List.getElem?_eq_getElem (by omega)] at h1
        refine ih _ _ _ he h1 (fun y hy => hsm y ?_)
        show y ∈ DataW.weights P t (.agg (xs.map (·.1)))
        unfold DataW.weights
        rw [hu]
        exact weightsAll_mem (List.mem_map.2 ⟨xs[i]'(by omega), List.getElem_mem _, rfl⟩) hy) k (Nat.le_refl _)
      rw [List.take_of_length_le (by omega)] at h1
      exact ⟨ds, h1, .arr hu (by rw [← h1.length]; exact hl) h2⟩
    · cases hb

/-- How an argument of a type stands as data: a struct or an array as its cells. -/
def asR (P : Program) (t : TypeId) (ds : List D) (r : R) : Prop := match P.underlying t with
  | some (.struct _) | some (.array _ _) => r = .agg ds
  | _ => ∃ d, ds = [d] ∧ r = .d d

/-- Arguments of plain data. -/
inductive TyArgs (P : Program) : List TypeId → List R → Prop
  | nil : TyArgs P [] []
  | cons {t : TypeId} {ts : List TypeId} {ds : List D} {r : R} {rs : List R} (h : TyD P t ds) (hr : asR P t ds r) (k : TyArgs P ts rs) : TyArgs P (t :: ts) (r :: rs)


theorem args_typed {S : List TypeId} (hS : dataTyB P S = true) : ∀ {ts : List TypeId} {vs : List Value} {ds : List (DataW H)} {ps : List MemPlace}, (∀ t ∈ ts, t ∈ S) →
    (∀ (j : Nat) t v, ts[j]? = some t → vs[j]? = some v → Value.okWide P w .any base t v) →
    DataW.TrodAll enc P w 0 (fun _ => true) held ts vs ds ps → (∀ x ∈ DataW.weightsEach P ts ds, x ≤ reachBytes) →
    ∃ rs, ArgsR (fun b => b < w.heap.size) w [] rs vs ∧ TyArgs P ts rs
  | [], [], [], _, _, _, _, _ => ⟨[], .nil, .nil⟩
  | t :: ts, v :: vs, d :: ds, ps, hm, hv, h, hw => by
    obtain ⟨p, q, h1, h2, _⟩ := h
    obtain ⟨rs, a1, a2⟩ := args_typed hS (fun t' ht' => hm t' (by simp [ht'])) (fun j t' v' e1 e2 => hv (j + 1) t' v' (by simpa using e1) (by simpa using e2)) h2
      (fun x hx => hw x (by simp only [DataW.weightsEach, List.mem_append]; exact .inr hx))
    obtain ⟨n, hn⟩ := h1
    obtain ⟨es, b1, b2⟩ := trod_typed hS n t v.cells.toList (d, p) (hm t (by simp)) hn (fun x hx => hw x (by simp only [DataW.weightsEach, List.mem_append]; exact .inl hx))
    have hval := hv 0 t v rfl rfl
    have hb := List.all_eq_true.1 hS t (hm t (by simp))
    have plainCase : (∀ fs, P.underlying t ≠ some (.struct fs)) → (∀ k e, P.underlying t ≠ some (.array k e)) → ∃ rs, ArgsR (fun b => b < w.heap.size) w [] rs (v :: vs) ∧ TyArgs P (t :: ts) rs := by
      intro n1 n2
      obtain ⟨d', rfl⟩ : ∃ d', es = [d'] := by
        cases b2 with
        | struct h => exact (n1 _ h).elim
        | arr h => exact (n2 _ _ h).elim
        | _ => exact ⟨_, rfl⟩
      have hcs : v.cells.toList = [v] := by
        have hl := b1.length
        generalize hcc : v.cells.toList = cc at b1 hl
        cases v <;> first | (simp [Value.cells] at hcc; exact hcc.symm) | skip
        all_goals
          exfalso
          unfold Value.okWide at hval
          cases b2 with
          | struct h => exact (n1 _ h).elim
          | arr h => exact (n2 _ _ h).elim
          | bool h => rw [h] at hval; simp [Cell.okWide, Cell.ok, h] at hval
          | int h => rw [h] at hval; simp [Cell.okWide, Cell.ok, h] at hval
          | str h => rw [h] at hval; simp [Cell.okWide, Cell.ok, h] at hval
          | sl h => rw [h] at hval; simp [Cell.okWide, Cell.ok, h] at hval
      rw [hcs] at b1
      cases b1 with
      | cons hr _ =>
        refine ⟨.d d' :: rs, .d hr a1, .cons b2 ?_ a2⟩
        unfold asR
        split
        · rename_i h; exact (n1 _ h).elim
        · rename_i h; exact (n2 _ _ h).elim
        · exact ⟨d', rfl, rfl⟩
    have aggCase : (∃ cs, v = .agg cs) → asR P t es (.agg es) → ∃ rs, ArgsR (fun b => b < w.heap.size) w [] rs (v :: vs) ∧ TyArgs P (t :: ts) rs := by
      rintro ⟨cs, rfl⟩ ha
      simp only [Value.cells] at b1
      refine ⟨.agg es :: rs, .agg (by simpa using b1.length) (fun i x v h1 h2 => b1.get i x v h1 (by simpa using h2)) a1, .cons b2 ha a2⟩
    split at hb
    · exact plainCase (by simp_all) (by simp_all)
    · exact plainCase (by simp_all) (by simp_all)
    · exact plainCase (by simp_all) (by simp_all)
    · exact plainCase (by simp_all) (by simp_all)
    · rename_i fs hu
      refine aggCase ?_ (by unfold asR; rw [hu])
      unfold Value.okWide at hval
      rw [hu] at hval
      obtain ⟨cs, h, _⟩ := hval
      exact ⟨cs, h⟩
    · rename_i k e hu
      refine aggCase ?_ (by unfold asR; rw [hu])
      unfold Value.okWide at hval
      rw [hu] at hval
      obtain ⟨cs, h, _⟩ := hval
      exact ⟨cs, h⟩
    · cases hb
  | [], _ :: _, _, _, _, _, h, _ => by cases ‹List (DataW H)› <;> exact h.elim
  | [], [], _ :: _, _, _, _, h, _ => h.elim
  | _ :: _, [], _, _, _, _, h, _ => by cases ‹List (DataW H)› <;> exact h.elim
  | _ :: _, _ :: _, [], _, _, _, h, _ => h.elim

end

section
open Go.ChangeShapes Go.WideShapes Go.ChangeAt Go.RowKit
variable {H : Type} {enc : TypeId × Value → H} {P : Program}

theorem trodAll_below (hl : laidOutB P = true) {W W' : World} (hb : Below W.heap.size W W') : ∀ {ts : List TypeId} {vs : List Value} {ds : List (DataW H)} {ps : List MemPlace}, ts.all (fun t => P.readableRec t && decide (t < P.types.size)) = true →
    DataW.TrodAll enc P W 0 (fun _ => true) true ts vs ds ps → DataW.TrodAll enc P W' 0 (fun b => decide (b < W.heap.size)) true ts vs ds ps
  | [], [], [], _, _, h => h
  | [], [], _ :: _, _, _, h => h.elim
  | [], _ :: _, [], _, _, h => h.elim
  | [], _ :: _, _ :: _, _, _, h => h.elim
  | _ :: _, [], [], _, _, h => h.elim
  | _ :: _, [], _ :: _, _, _, h => h.elim
  | _ :: _, _ :: _, [], _, _, h => h.elim
  | t :: ts, v :: vs, d :: ds, ps, ht, h => by
    simp only [List.all_cons, Bool.and_eq_true, decide_eq_true_eq] at ht
    obtain ⟨p, q, h1, h2, rfl⟩ := h
    refine ⟨p, q, Below.trod hl ht.1.1 ht.1.2 h1 hb (fun x hx => ?_), trodAll_below hl hb (by simpa using ht.2) h2, rfl⟩
    obtain ⟨m, hm⟩ := h1
    exact DataW.trod_lt m _ _ _ hm x hx

/-- From a contract over every argument of the types to what a law's statement asks. -/
theorem said_contract {f : Nat} {fn : Func} {s : ChangeSpec} {S : List TypeId} {tb : TypeId} (hS : dataTyB P S = true) (hl : laidOutB P = true)
    (hps : fn.params.toList.all (fun t => S.contains t) = true) (hrd : fn.params.toList.all (fun t => P.readableRec t && decide (t < P.types.size)) = true)
    (hres : fn.resultTypes = #[tb]) (hbool : P.underlying tb = some .bool) (hvars : s.vars = [])
    (hspec : ∀ ds : List (DataW H), ds.length = fn.params.size → s.fn H (ds ++ []) = { results := [.lit (.bool true)], args := ds })
    {gl : Nat → Option Obj} (hct : ∀ rs, TyArgs P fn.params.toList rs → Ct P gl f rs (gives [.d (.v (.bool true))]))
    (W : World) (hgl : ∀ b o, gl b = some o → W.heap[b]? = some o) (base : Nat) (args : Array Value) (ds gs : List (DataW H)) (before : List MemPlace)
    (hval : ∀ (j : Nat) t v, fn.params[j]? = some t → args[j]? = some v → Value.okWide P W .any base t v)
    (hW : DataW.Whole enc P fn.params.toList s.vars false W args.toList ds gs before)
    (hsz : (DataW.weightsEach P (fn.params.toList ++ s.plain.varTypes P) (ds ++ gs)).all (· ≤ reachBytes) = true) :
    Calls P f args W fun e W' => ∃ v, e = .returned v ∧ s.post enc P fn false true false false W args v W' := by
  have hW' := hW
  obtain ⟨p, q, hA, hV, rfl, hfz, hnd⟩ := hW
  rw [hvars] at hV
  have hgs : gs = [] ∧ q = [] := by
    cases gs with
    | nil => exact ⟨rfl, hV⟩
    | cons => exact hV.elim
  obtain ⟨rfl, rfl⟩ := hgs
  have hlen : ds.length = fn.params.size := by
    have : ∀ {ts : List TypeId} {vs : List Value} {ds : List (DataW H)} {ps : List MemPlace}, DataW.TrodAll enc P W 0 (fun _ => true) true ts vs ds ps → ds.length = ts.length := by
      intro ts
      induction ts with
      | nil => intro vs ds ps h; cases vs <;> cases ds <;> first | rfl | exact h.elim
      | cons t ts ih =>
        intro vs ds ps h
        cases vs with
        | nil => cases ds <;> exact h.elim
        | cons v vs =>
          cases ds with
          | nil => exact h.elim
          | cons d ds => obtain ⟨p, q, _, h2, _⟩ := h; simp [ih h2]
    simpa using this hA
  have hvt : s.plain.varTypes P = [] := by
    unfold DataSpec.varTypes ChangeSpec.plain
    rw [hvars]; rfl
  rw [hvt, List.append_nil, List.append_nil] at hsz
  simp only [List.all_eq_true, decide_eq_true_eq, List.contains_iff_mem] at hsz hps
  obtain ⟨rs, hR, hT⟩ := args_typed (base := base) hS hps (fun j t v h1 h2 => hval j t v (by simpa using h1) (by simpa using h2)) hA hsz
  have hcall := (hct rs hT).run W (fun b => b < W.heap.size) args.toList [] (fun b o hb => ⟨by have := hgl b o hb; rcases Array.getElem?_eq_some_iff.1 this with ⟨h, _⟩; exact h, hgl b o hb⟩) (fun _ h => h) (by simp) (by simp) hR
  rw [Array.toArray_toList] at hcall
  refine hcall.mono ?_
  rintro e W' ⟨res, fin, vs, ok', bn, rfl, ⟨rfl, rfl⟩, _, _, _, hU, hAR, _, _, _⟩
  have hvs : vs = [.bool true] := by
    cases hAR with
    | d h r =>
      cases r
      cases h
      rfl
  subst hvs
  have bel : Below W.heap.size W W' := ⟨hU.os, hU.tape, hU.output, hU.size, fun k hk => hU.block k hk (by simp)⟩
  refine ⟨.bool true, rfl, ds, [], p ++ [], [], p, [], hW', ?_, ?_, ?_, bel.frame _, fun h => by cases h⟩
  · rw [hspec ds hlen, hres]
    exact trodAll_mk1 (shut_bool hbool _)
  · rw [hspec ds hlen]
    exact trodAll_below hl bel hrd hA
  · rw [hspec ds hlen, hvars]
    rfl
end
end Go.Dm
/- What reads as an expression, a value or a type is data of it. -/
namespace Go.Proofs.Tryz
open Go Go.Dm Go.Ex
set_option maxRecDepth 100000
theorem own : ownKnob Tryz.prog.godebug = none := by kernel_rfl
theorem laidOut : laidOutB Tryz.prog = true := by kernel_rfl
theorem in64_of {n : Int} (h : IntKind.i64.min ≤ n ∧ n ≤ IntKind.i64.max) : in64 n := by
  have h1 : IntKind.i64.min = -9223372036854775808 := rfl
  have h2 : IntKind.i64.max = 9223372036854775807 := rfl
  rw [h1, h2] at h
  exact ⟨h.1, by omega⟩
theorem typ_data {ds : List D} (h : TyD Tryz.prog 23 ds) : ∃ t : Ty, ds = t.cs ∧ in64 t.k ∧ in64 t.sc := by
  obtain ⟨hl, _⟩ := h.struct_inv Tryz.underlying23
  have hl : ds.length = 2 := hl.trans (by kernel_rfl)
  match ds, hl with
  | [d0, d1], _ =>
    obtain ⟨k, hk, e0⟩ := (h.fld Tryz.underlying23 0 rfl (n := 1) (by kernel_rfl)).int_inv Tryz.underlying3
    obtain ⟨sc, hs, e1⟩ := (h.fld Tryz.underlying23 1 rfl (n := 1) (by kernel_rfl)).int_inv Tryz.underlying3
    simp at e0 e1
    subst e0; subst e1
    exact ⟨⟨k, sc⟩, rfl, in64_of hk, in64_of hs⟩
theorem val_data {ds : List D} (h : TyD Tryz.prog 25 ds) : ∃ v : Go.Ex.AV, ds = v.cs ∧ in64 v.t.k ∧ in64 v.t.sc ∧ in64 v.n ∧ v.s.size ≤ reachBytes := by
  obtain ⟨hl, _⟩ := h.struct_inv Tryz.underlying25
  have hl : ds.length = 5 := hl.trans (by kernel_rfl)
  match ds, hl with
  | [d0, d1, d2, d3, d4], _ =>
    obtain ⟨t, e0, h1, h2⟩ := typ_data (h.fld Tryz.underlying25 0 rfl (n := 2) (by kernel_rfl))
    obtain ⟨b, e2⟩ := (h.fld Tryz.underlying25 1 rfl (n := 1) (by kernel_rfl)).bool_inv Tryz.underlying4
    obtain ⟨n, hn, e3⟩ := (h.fld Tryz.underlying25 2 rfl (n := 1) (by kernel_rfl)).int_inv Tryz.underlying2
    obtain ⟨s, hs, e4⟩ := (h.fld Tryz.underlying25 3 rfl (n := 1) (by kernel_rfl)).str_inv Tryz.underlying9
    simp at e0 e2 e3 e4
    obtain ⟨rfl, rfl⟩ := e0
    subst e2; subst e3; subst e4
    exact ⟨⟨t, b, n, s⟩, rfl, h1, h2, in64_of hn, hs⟩
theorem exprs_of : ∀ {es : List (List D)}, (∀ r ∈ es, ∃ e : EX, r = cells e ∧ fits e) → ∃ l : List EX, es = cellsL l ∧ fitsL l
  | [], _ => ⟨[], by simp only [cellsL], by simp only [fitsL]⟩
  | r :: es, h => by
    obtain ⟨e, rfl, h1⟩ := h r (by simp)
    obtain ⟨l, rfl, h2⟩ := exprs_of (es := es) (fun r hr => h r (List.mem_cons_of_mem _ hr))
    exact ⟨e :: l, by simp only [cellsL], by simp only [fitsL]; exact ⟨h1, h2⟩⟩
theorem expr_data : ∀ (n : Nat) (ds : List D), SizeOf.sizeOf ds < n → TyD Tryz.prog 28 ds → ∃ e : EX, ds = cells e ∧ fits e
  | 0, _, h, _ => absurd h (Nat.not_lt_zero _)
  | n + 1, ds, hs, h => by
    obtain ⟨hl, _⟩ := h.struct_inv Tryz.underlying28
    have hl : ds.length = 10 := hl.trans (by kernel_rfl)
    match ds, hl, hs with
    | [d0, d1, d2, d3, d4, d5, d6, d7, d8, d9], _, hs =>
      obtain ⟨op, hop, e0⟩ := (h.fld Tryz.underlying28 0 rfl (n := 1) (by kernel_rfl)).int_inv Tryz.underlying3
      obtain ⟨sub, hsub, e1⟩ := (h.fld Tryz.underlying28 1 rfl (n := 1) (by kernel_rfl)).int_inv Tryz.underlying3
      obtain ⟨t, e2, h1, h2⟩ := typ_data (h.fld Tryz.underlying28 2 rfl (n := 2) (by kernel_rfl))
      obtain ⟨v, e3, h3, h4, h5, h6⟩ := val_data (h.fld Tryz.underlying28 3 rfl (n := 5) (by kernel_rfl))
      obtain ⟨es, hes, e4, hx⟩ := (h.fld Tryz.underlying28 4 rfl (n := 1) (by kernel_rfl)).sl_inv Tryz.underlying26
      simp at e0 e1 e2 e3 e4
      obtain ⟨rfl, rfl⟩ := e2
      obtain ⟨rfl, rfl, rfl, rfl, rfl⟩ := e3
      subst e0; subst e1; subst e4
      obtain ⟨l, rfl, hll⟩ := exprs_of (es := es) fun r hr => expr_data n r (by
        have := List.sizeOf_lt_of_mem hr
        simp only [List.cons.sizeOf_spec, D.sl.sizeOf_spec] at hs
        omega) (hx r hr)
      refine ⟨.mk op sub t v l, by simp only [cells], ?_⟩
      simp only [fits]
      have b28 : Tryz.prog.bytesOf 28 = 104 := by kernel_rfl
      have rb : reachBytes = 140737488351232 := rfl
      rw [b28, rb, cellsL_len] at hes
      exact ⟨⟨in64_of hop, in64_of hsub, h1, h2, h3, h4, h5⟩, by omega, hll⟩
end Go.Proofs.Tryz
/- A product of numbers of 64 bits, as the program makes it of halves, is the product. -/
namespace Go.Ex
open Go Go.Dm
abbrev B32 : Int := 4294967296
abbrev B64 : Int := 18446744073709551616
theorem u64_wrap (n : Int) : IntKind.u64.wrap n = n % B64 := by
  simp [IntKind.wrap, IntKind.signed, IntKind.bits, B64]
theorem i64_wrap (n : Int) : IntKind.i64.wrap n = if n % B64 < 9223372036854775808 then n % B64 else n % B64 - B64 := by
  simp [IntKind.wrap, IntKind.signed, IntKind.bits, B64]
  split <;> split <;> omega
theorem and_half {x : Int} (h0 : 0 ≤ x) (h1 : x < B64) : aInt.bits .and .u64 x 4294967295 = x % B32 := by
  obtain ⟨n, rfl⟩ := Int.eq_ofNat_of_zero_le h0
  have h1 : n < 18446744073709551616 := by have : (n : Int) < 18446744073709551616 := h1; omega
  have hb : aInt.bits .and .u64 (n : Int) 4294967295 = IntKind.u64.wrap (((BitVec.ofInt 64 (n : Int) &&& BitVec.ofInt 64 4294967295).toNat : Nat) : Int) := rfl
  rw [hb, u64_wrap]
  have e : (BitVec.ofInt 64 (n : Int) &&& BitVec.ofInt 64 4294967295).toNat = n % 4294967296 := by
    rw [BitVec.toNat_and, BitVec.toNat_ofInt, BitVec.toNat_ofInt]
    have e1 : ((n : Int) % ((2 ^ 64 : Nat) : Int)).toNat = n := by
      rw [Int.emod_eq_of_lt (by omega) (by simpa using (show (n : Int) < 18446744073709551616 by omega))]; omega
    have e2 : ((4294967295 : Int) % ((2 ^ 64 : Nat) : Int)).toNat = 2 ^ 32 - 1 := by decide
    rw [e1, e2, Nat.and_two_pow_sub_one_eq_mod]
  rw [e]
  have h2 : n % 4294967296 < 4294967296 := Nat.mod_lt _ (by decide)
  rw [Int.emod_eq_of_lt (by omega) (by simp only [B64]; omega)]
  simp only [B32]; omega
theorem shr_half {x : Int} (h0 : 0 ≤ x) : aInt.shr .u64 x 32 = x / B32 := by
  have hb : aInt.shr .u64 x 32 = x.fdiv 4294967296 := rfl
  rw [hb, Int.fdiv_eq_ediv_of_nonneg _ (by decide)]
theorem or_half {x y : Int} (h0 : 0 ≤ x) (h1 : x < B32) (h2 : 0 ≤ y) (h3 : y < B32) : aInt.bits .or .u64 (x * B32) y = x * B32 + y := by
  obtain ⟨n, rfl⟩ := Int.eq_ofNat_of_zero_le h0
  obtain ⟨m, rfl⟩ := Int.eq_ofNat_of_zero_le h2
  have h1 : n < 4294967296 := by have : (n : Int) < 4294967296 := h1; omega
  have h3 : m < 4294967296 := by have : (m : Int) < 4294967296 := h3; omega
  have hb : aInt.bits .or .u64 ((n : Int) * B32) (m : Int) = IntKind.u64.wrap (((BitVec.ofInt 64 ((n : Int) * B32) ||| BitVec.ofInt 64 (m : Int)).toNat : Nat) : Int) := rfl
  rw [hb, u64_wrap]
  have e : (BitVec.ofInt 64 ((n : Int) * B32) ||| BitVec.ofInt 64 (m : Int)).toNat = n * 4294967296 + m := by
    rw [BitVec.toNat_or, BitVec.toNat_ofInt, BitVec.toNat_ofInt]
    have e1 : (((n : Int) * B32) % ((2 ^ 64 : Nat) : Int)).toNat = 2 ^ 32 * n := by
      rw [Int.emod_eq_of_lt (by simp only [B32]; omega) (by simp only [B32]; have : ((2 ^ 64 : Nat) : Int) = 18446744073709551616 := rfl; omega)]
      simp only [B32]; omega
    have e2 : ((m : Int) % ((2 ^ 64 : Nat) : Int)).toNat = m := by
      rw [Int.emod_eq_of_lt (by omega) (by have : ((2 ^ 64 : Nat) : Int) = 18446744073709551616 := rfl; omega)]; omega
    rw [e1, e2, ← Nat.two_pow_add_eq_or_of_lt (by simpa using h3)]
    omega
  rw [e, Int.emod_eq_of_lt (by omega) (by simp only [B64]; omega)]
  simp only [B32]; omega
def xlo (x : Int) : Int := aInt.bits .and .u64 x 4294967295
def xhi (x : Int) : Int := aInt.shr .u64 x 32
def mP (x y : Int) : Int := IntKind.u64.wrap (xlo x * xlo y)
def mQ (x y : Int) : Int := IntKind.u64.wrap (IntKind.u64.wrap (xhi x * xlo y) + xhi (mP x y))
def mR (x y : Int) : Int := IntKind.u64.wrap (IntKind.u64.wrap (xlo x * xhi y) + xlo (mQ x y))
def mH (x y : Int) : Int := IntKind.u64.wrap (IntKind.u64.wrap (IntKind.u64.wrap (xhi x * xhi y) + xhi (mQ x y)) + xhi (mR x y))
def mL (x y : Int) : Int := aInt.bits .or .u64 (aInt.shl .u64 (mR x y) 32) (xlo (mP x y))
/-- The two words of a product. -/
def wideLo (a b : Int) : Int := mL (IntKind.u64.wrap a) (IntKind.u64.wrap b)
def wideHi (a b : Int) : Int :=
  let h := IntKind.i64.wrap (mH (IntKind.u64.wrap a) (IntKind.u64.wrap b))
  let h := bif decide (a < 0) then IntKind.i64.wrap (h - b) else h
  bif decide (b < 0) then IntKind.i64.wrap (h - a) else h
def narrowP (h l : Int) : Int × Int := bif h != aInt.shr .i64 (IntKind.i64.wrap l) 63 then (0, 10) else (IntKind.i64.wrap l, 0)
def mulP (a b : Int) : Int × Int := narrowP (wideHi a b) (wideLo a b)
theorem prod_le {a b : Int} (ha : 0 ≤ a) (ha' : a ≤ 4294967295) (hb : 0 ≤ b) (hb' : b ≤ 4294967295) : 0 ≤ a * b ∧ a * b ≤ 18446744065119617025 := by
  refine ⟨Int.mul_nonneg ha hb, ?_⟩
  have h1 := Int.mul_le_mul ha' hb' hb (by decide : (0 : Int) ≤ 4294967295)
  exact h1
theorem words {x y : Int} (hx : 0 ≤ x) (hx' : x < B64) (hy : 0 ≤ y) (hy' : y < B64) : mH x y * B64 + mL x y = x * y ∧ 0 ≤ mL x y ∧ mL x y < B64 ∧ 0 ≤ mH x y ∧ mH x y < B64 := by
  simp only [B64] at hx' hy'
  have xl : xlo x = x % B32 := and_half hx hx'
  have yl : xlo y = y % B32 := and_half hy hy'
  have xh : xhi x = x / B32 := shr_half hx
  have yh : xhi y = y / B32 := shr_half hy
  generalize hxl : x % B32 = a at xl
  generalize hyl : y % B32 = c at yl
  generalize hxh : x / B32 = b at xh
  generalize hyh : y / B32 = d at yh
  simp only [B32] at hxl hyl hxh hyh
  have ex : x = b * 4294967296 + a := by omega
  have ey : y = d * 4294967296 + c := by omega
  have p1 := prod_le (a := a) (b := c) (by omega) (by omega) (by omega) (by omega)
  have p2 := prod_le (a := b) (b := c) (by omega) (by omega) (by omega) (by omega)
  have p3 := prod_le (a := a) (b := d) (by omega) (by omega) (by omega) (by omega)
  have p4 := prod_le (a := b) (b := d) (by omega) (by omega) (by omega) (by omega)
  have e : x * y = b * d * 18446744073709551616 + (b * c + a * d) * 4294967296 + a * c := by
    rw [ex, ey]; grind
  have eP : mP x y = a * c := by
    unfold mP; rw [xl, yl, u64_wrap, Int.emod_eq_of_lt p1.1 (by simp only [B64]; omega)]
  have lP : xlo (mP x y) = a * c % B32 := by rw [eP]; exact and_half p1.1 (by simp only [B64]; omega)
  have hP : xhi (mP x y) = a * c / B32 := by rw [eP]; exact shr_half p1.1
  have eQ : mQ x y = b * c + a * c / B32 := by
    unfold mQ; rw [hP, xh, yl, u64_wrap, u64_wrap, Int.emod_eq_of_lt p2.1 (by simp only [B64]; omega), Int.emod_eq_of_lt (by simp only [B32]; omega) (by simp only [B64, B32]; omega)]
  have bQ : 0 ≤ mQ x y ∧ mQ x y < B64 := by rw [eQ]; simp only [B64, B32]; omega
  have lQ : xlo (mQ x y) = mQ x y % B32 := and_half bQ.1 bQ.2
  have hQ : xhi (mQ x y) = mQ x y / B32 := shr_half bQ.1
  have eR : mR x y = a * d + mQ x y % B32 := by
    unfold mR; rw [lQ, xl, yh, u64_wrap, u64_wrap, Int.emod_eq_of_lt p3.1 (by simp only [B64]; omega), Int.emod_eq_of_lt (by simp only [B32]; omega) (by simp only [B64, B32]; omega)]
  have bR : 0 ≤ mR x y ∧ mR x y < B64 := by rw [eR]; simp only [B64, B32]; omega
  have hR : xhi (mR x y) = mR x y / B32 := shr_half bR.1
  have eH : mH x y = b * d + mQ x y / B32 + mR x y / B32 := by
    unfold mH; rw [hQ, hR, xh, yh, u64_wrap, u64_wrap, u64_wrap, Int.emod_eq_of_lt p4.1 (by simp only [B64]; omega), Int.emod_eq_of_lt (a := b * d + _) (by simp only [B32]; omega) (by simp only [B64, B32] at *; omega), Int.emod_eq_of_lt (by simp only [B32]; omega) (by simp only [B64, B32] at *; omega)]
  have eL : mL x y = mR x y % B32 * B32 + a * c % B32 := by
    unfold mL
    have hs : aInt.shl .u64 (mR x y) 32 = IntKind.u64.wrap (mR x y * 4294967296) := rfl
    rw [hs, lP, u64_wrap, show mR x y * 4294967296 % B64 = mR x y % B32 * B32 by simp only [B64, B32]; omega]
    exact or_half (by simp only [B32]; omega) (by simp only [B32]; omega) (by simp only [B32]; omega) (by simp only [B32]; omega)
  rw [eH, eL]
  generalize a * c = ac at *
  generalize b * c = bc at *
  generalize a * d = ad at *
  generalize b * d = bd at *
  simp only [B64, B32] at *
  refine ⟨?_, ?_, ?_, ?_, ?_⟩ <;> omega
theorem mul_bound {a b : Int} (ha : in64 a) (hb : in64 b) : -85070591730234615865843651857942052864 ≤ a * b ∧ a * b ≤ 85070591730234615865843651857942052864 := by
  have h1 : a.natAbs ≤ 9223372036854775808 := by have := ha.1; have := ha.2; omega
  have h2 : b.natAbs ≤ 9223372036854775808 := by have := hb.1; have := hb.2; omega
  have h := Nat.mul_le_mul h1 h2
  rw [← Int.natAbs_mul] at h
  generalize a * b = p at h
  omega
open Classical in
/-- A product that fits, or an error. -/
theorem mulP_eq {a b : Int} (ha : in64 a) (hb : in64 b) : mulP a b = if in64 (a * b) then (a * b, 0) else (0, 10) := by
  have hp := mul_bound ha hb
  obtain ⟨ha1, ha2⟩ := ha
  obtain ⟨hb1, hb2⟩ := hb
  have wa : IntKind.u64.wrap a = if a < 0 then a + B64 else a := by rw [u64_wrap]; simp only [B64]; split <;> omega
  have wb : IntKind.u64.wrap b = if b < 0 then b + B64 else b := by rw [u64_wrap]; simp only [B64]; split <;> omega
  have hx : 0 ≤ IntKind.u64.wrap a ∧ IntKind.u64.wrap a < B64 := by rw [u64_wrap]; simp only [B64]; omega
  have hy : 0 ≤ IntKind.u64.wrap b ∧ IntKind.u64.wrap b < B64 := by rw [u64_wrap]; simp only [B64]; omega
  obtain ⟨e, l0, l1, h0, h1⟩ := words hx.1 hx.2 hy.1 hy.2
  have exy : IntKind.u64.wrap a * IntKind.u64.wrap b = a * b + B64 * ((if a < 0 then b else 0) + (if b < 0 then a else 0)) + (if a < 0 ∧ b < 0 then B64 * B64 else 0) := by
    rw [wa, wb]
    by_cases h1 : a < 0 <;> by_cases h2 : b < 0 <;> simp only [h1, h2, if_true, if_false, and_true, and_false] <;> grind
  rw [exy] at e
  have key : wideHi a b * B64 + mL (IntKind.u64.wrap a) (IntKind.u64.wrap b) = a * b := by
    unfold wideHi
    generalize mH (IntKind.u64.wrap a) (IntKind.u64.wrap b) = H at *
    generalize mL (IntKind.u64.wrap a) (IntKind.u64.wrap b) = L at *
    generalize a * b = p at *
    simp only [i64_wrap, B64] at *
    by_cases g1 : a < 0 <;> by_cases g2 : b < 0 <;> simp only [g1, g2, if_true, if_false, and_true, and_false, decide_true, decide_false, cond_true, cond_false] at e ⊢ <;> (repeat' split) <;> omega
  unfold mulP narrowP wideLo
  have hs : aInt.shr .i64 (IntKind.i64.wrap (mL (IntKind.u64.wrap a) (IntKind.u64.wrap b))) 63 = (IntKind.i64.wrap (mL (IntKind.u64.wrap a) (IntKind.u64.wrap b))).fdiv 9223372036854775808 := rfl
  rw [hs, Int.fdiv_eq_ediv_of_nonneg _ (by decide)]
  generalize mL (IntKind.u64.wrap a) (IntKind.u64.wrap b) = L at *
  generalize wideHi a b = h at *
  generalize a * b = p at *
  simp only [i64_wrap, B64] at *
  by_cases g : in64 p
  · rw [if_pos g]
    obtain ⟨g1, g2⟩ := g
    have : (h != (if L % 18446744073709551616 < 9223372036854775808 then L % 18446744073709551616 else L % 18446744073709551616 - 18446744073709551616) / 9223372036854775808) = false := by
      simp only [bne_eq_false_iff_eq]
      split <;> omega
    rw [this, cond_false, Prod.mk.injEq]
    refine ⟨?_, rfl⟩
    split <;> omega
  · rw [if_neg g]
    have : (h != (if L % 18446744073709551616 < 9223372036854775808 then L % 18446744073709551616 else L % 18446744073709551616 - 18446744073709551616) / 9223372036854775808) = true := by
      simp only [bne_iff_ne, ne_eq]
      intro hh
      apply g
      unfold in64
      split at hh <;> omega
    rw [this, cond_true]
end Go.Ex
namespace Go.Proofs.Tryz
open Go Go.Dm Go.Ex
set_option maxRecDepth 100000
variable {gl : Nat → Option Obj}
/-- The empty text. -/
abbrev eB : ByteArray := { data := { toList := [] : Array UInt8 } : ByteArray }
def c_198 (a : List R) (K : List R → List (List D) → Prop) : Prop := match a with
  | [.d (.v (.int .i64 k)), .d (.v (.int .i64 sc)), .d (.v (.int .i64 n)), .d (.v (.string s))] => K [.agg [.v (.int .i64 k), .v (.int .i64 sc), .v (.bool false), .v (.int .i64 n), .v (.string s)]] []
  | _ => False
theorem vc198 (k sc n : Int) (s : ByteArray) (Q : List R → List (List D) → Prop) : vc E_0 C_g6 noI fi65 (f65.body.getD .skip) f65.results.toList [.d (.v (.int .i64 k)), .d (.v (.int .i64 sc)), .d (.v (.int .i64 n)), .d (.v (.string s))] Q = ( Q [.agg [.i k, .i sc, .v (.bool false), .i n, .v (.string s)]] []) := by kernel_rfl
theorem ct198 (k sc n : Int) (s : ByteArray) : Ct prog gl 65 [.d (.v (.int .i64 k)), .d (.v (.int .i64 sc)), .d (.v (.int .i64 n)), .d (.v (.string s))] (gives [.agg [.v (.int .i64 k), .v (.int .i64 sc), .v (.bool false), .v (.int .i64 n), .v (.string s)]]) :=
  ct_of_vc E_ok C_g6_ok ioK_no it_ok mixed (fn := f65) (body := f65.body.getD .skip) (by kernel_rfl) (by kernel_rfl) (by kernel_rfl) (fi := fi65) (by kernel_rfl) (by kernel_rfl) ⟨_, _, rfl, rfl⟩ (by
    rw [vc198]; exact ⟨rfl, rfl⟩)
theorem c_198_ok (a : List R) (K : List R → List (List D) → Prop) (h : c_198 a K) : Ct prog gl 65 a K := by
  unfold c_198 at h
  split at h
  · exact (ct198 _ _ _ _).gives h
  · exact h.elim
def C_k1 : CallT := addC C_g6 65 c_198
theorem C_k1_ok : CallsOk prog gl C_k1 := addC_ok C_g6_ok c_198_ok
def boolV (b : Bool) : Go.Ex.AV := ⟨⟨1, 0⟩, false, bif b then 1 else 0, eB⟩
def noneV (t : Ty) : Go.Ex.AV := ⟨t, true, 0, eB⟩
def textV (s : ByteArray) : Go.Ex.AV := ⟨⟨4, 0⟩, false, 0, s⟩
theorem vc121 (b : Bool) (Q : List R → List (List D) → Prop) : vc E_0 C_k1 noI fi42 (f42.body.getD .skip) f42.results.toList [.d (.v (.bool b))] Q = ( (b = true → Q [.agg [.i 1, .i 0, .v (.bool false), .i 1, .v (.string ⟨⟨[]⟩⟩)]] []) ∧ (b = false → Q [.agg [.i 1, .i 0, .v (.bool false), .i 0, .v (.string ⟨⟨[]⟩⟩)]] [])) := by kernel_rfl
theorem ct121 (b : Bool) : Ct prog gl 42 [.d (.v (.bool b))] (gives [.agg (boolV b).cs]) :=
  ct_of_vc E_ok C_k1_ok ioK_no it_ok mixed (fn := f42) (body := f42.body.getD .skip) (by kernel_rfl) (by kernel_rfl) (by kernel_rfl) (fi := fi42) (by kernel_rfl) (by kernel_rfl) ⟨_, _, rfl, rfl⟩ (by
    rw [vc121]
    refine ⟨fun h => ?_, fun h => ?_⟩ <;> (subst h; exact ⟨rfl, rfl⟩))
def c_121 (a : List R) (K : List R → List (List D) → Prop) : Prop := match a with
  | [.d (.v (.bool b))] => K [.agg (boolV b).cs] []
  | _ => False
theorem c_121_ok (a : List R) (K : List R → List (List D) → Prop) (h : c_121 a K) : Ct prog gl 42 a K := by
  unfold c_121 at h
  split at h
  · exact (ct121 _).gives h
  · exact h.elim
theorem vc200 (s : ByteArray) (Q : List R → List (List D) → Prop) : vc E_0 C_k1 noI fi67 (f67.body.getD .skip) f67.results.toList [.d (.v (.string s))] Q = ( Q [.agg [.i 4, .i 0, .v (.bool false), .i 0, .v (.string s)]] []) := by kernel_rfl
theorem ct200 (s : ByteArray) : Ct prog gl 67 [.d (.v (.string s))] (gives [.agg (textV s).cs]) :=
  ct_of_vc E_ok C_k1_ok ioK_no it_ok mixed (fn := f67) (body := f67.body.getD .skip) (by kernel_rfl) (by kernel_rfl) (by kernel_rfl) (fi := fi67) (by kernel_rfl) (by kernel_rfl) ⟨_, _, rfl, rfl⟩ (by
    rw [vc200]; exact ⟨rfl, rfl⟩)
def c_200 (a : List R) (K : List R → List (List D) → Prop) : Prop := match a with
  | [.d (.v (.string s))] => K [.agg (textV s).cs] []
  | _ => False
theorem c_200_ok (a : List R) (K : List R → List (List D) → Prop) (h : c_200 a K) : Ct prog gl 67 a K := by
  unfold c_200 at h
  split at h
  · exact (ct200 _).gives h
  · exact h.elim
theorem vc201 (n : Int) (Q : List R → List (List D) → Prop) : vc E_0 C_k1 noI fi68 (f68.body.getD .skip) f68.results.toList [.d (.v (.int .i64 n))] Q = ( Q [.agg [.i 2, .i 0, .v (.bool false), .i n, .v (.string ⟨⟨[]⟩⟩)]] []) := by kernel_rfl
theorem ct201 (n : Int) : Ct prog gl 68 [.d (.v (.int .i64 n))] (gives [.agg (ofI n).cs]) :=
  ct_of_vc E_ok C_k1_ok ioK_no it_ok mixed (fn := f68) (body := f68.body.getD .skip) (by kernel_rfl) (by kernel_rfl) (by kernel_rfl) (fi := fi68) (by kernel_rfl) (by kernel_rfl) ⟨_, _, rfl, rfl⟩ (by
    rw [vc201]; exact ⟨rfl, rfl⟩)
def c_201 (a : List R) (K : List R → List (List D) → Prop) : Prop := match a with
  | [.d (.v (.int .i64 n))] => K [.agg (ofI n).cs] []
  | _ => False
theorem c_201_ok (a : List R) (K : List R → List (List D) → Prop) (h : c_201 a K) : Ct prog gl 68 a K := by
  unfold c_201 at h
  split at h
  · exact (ct201 _).gives h
  · exact h.elim
def C_k2 : CallT := addC (addC (addC C_k1 42 c_121) 67 c_200) 68 c_201
theorem C_k2_ok : CallsOk prog gl C_k2 := addC_ok (addC_ok (addC_ok C_k1_ok c_121_ok) c_200_ok) c_201_ok
/-- A truth as a value. -/
def liftV (n : Int) : Go.Ex.AV := bif n == 2 then noneV ⟨1, 0⟩ else boolV (n == 1)
theorem vc117 (n : Int) (Q : List R → List (List D) → Prop) : vc E_0 C_k2 noI fi38 (f38.body.getD .skip) f38.results.toList [.d (.v (.int .i64 n))] Q = ( ((n == 2) = true → Q [.agg [.i 1, .i 0, .v (.bool true), .i 0, .v (.string ⟨⟨[]⟩⟩)]] []) ∧ ((n == 2) = false → Q [.agg [.i 1, .i 0, .v (.bool false), .i (bif n == 1 then (1 : Int) else (0 : Int)), .v (.string eB)]] [])) := by kernel_rfl
theorem ct117 (n : Int) : Ct prog gl 38 [.d (.v (.int .i64 n))] (gives [.agg (liftV n).cs]) :=
  ct_of_vc E_ok C_k2_ok ioK_no it_ok mixed (fn := f38) (body := f38.body.getD .skip) (by kernel_rfl) (by kernel_rfl) (by kernel_rfl) (fi := fi38) (by kernel_rfl) (by kernel_rfl) ⟨_, _, rfl, rfl⟩ (by
    rw [vc117]
    refine ⟨fun h => ?_, fun h => ?_⟩ <;> (unfold liftV; rw [h]; exact ⟨rfl, rfl⟩))
def c_117 (a : List R) (K : List R → List (List D) → Prop) : Prop := match a with
  | [.d (.v (.int .i64 n))] => K [.agg (liftV n).cs] []
  | _ => False
theorem c_117_ok (a : List R) (K : List R → List (List D) → Prop) (h : c_117 a K) : Ct prog gl 38 a K := by
  unfold c_117 at h
  split at h
  · exact (ct117 _).gives h
  · exact h.elim
/-- A rest. -/
def remP (a b : Int) : Int × Int := bif b == 0 then (0, 11) else bif b == -1 then (0, 0) else (a.tmod b, 0)
theorem vc206 (a b : Int) (Q : List R → List (List D) → Prop) : vc E_0 C_g6 noI fi73 (f73.body.getD .skip) f73.results.toList [.d (.v (.int .i64 a)), .d (.v (.int .i64 b))] Q = ( ((b == 0) = true → Q [.d (.i 0), .d (.i 11)] []) ∧ ((b == 0) = false → ((b == (-1 : Int)) = true → Q [.d (.i 0), .d (.i 0)] []) ∧ ((b == (-1 : Int)) = false → b ≠ (0 : Int) ∧ Q [.d (.i (a.tmod b)), .d (.i 0)] []))) := by kernel_rfl
theorem ct206 (a b : Int) : Ct prog gl 73 [.d (.v (.int .i64 a)), .d (.v (.int .i64 b))] (gives [.d (.v (.int .i64 (remP a b).1)), .d (.v (.int .i64 (remP a b).2))]) :=
  ct_of_vc E_ok C_g6_ok ioK_no it_ok mixed (fn := f73) (body := f73.body.getD .skip) (by kernel_rfl) (by kernel_rfl) (by kernel_rfl) (fi := fi73) (by kernel_rfl) (by kernel_rfl) ⟨_, _, rfl, rfl⟩ (by
    rw [vc206]
    refine ⟨fun h => ?_, fun h => ⟨fun h2 => ?_, fun h2 => ⟨by simpa using h, ?_⟩⟩⟩ <;> (simp only [remP, *, cond_true, cond_false]; exact ⟨rfl, rfl⟩))
def c_206 (a : List R) (K : List R → List (List D) → Prop) : Prop := match a with
  | [.d (.v (.int .i64 a)), .d (.v (.int .i64 b))] => K [.d (.v (.int .i64 (remP a b).1)), .d (.v (.int .i64 (remP a b).2))] []
  | _ => False
theorem c_206_ok (a : List R) (K : List R → List (List D) → Prop) (h : c_206 a K) : Ct prog gl 73 a K := by
  unfold c_206 at h
  split at h
  · exact (ct206 _ _).gives h
  · exact h.elim
theorem vc273 (a b : Int) (Q : List R → List (List D) → Prop) : vc E_0 C_g6 noI fi90 (f90.body.getD .skip) f90.results.toList [.d (.v (.int .i64 a)), .d (.v (.int .i64 b))] Q = ( (0 : Int) ≤ 32 ∧ (0 : Int) ≤ 32 ∧ (0 : Int) ≤ 32 ∧ (0 : Int) ≤ 32 ∧ (0 : Int) ≤ 32 ∧ (0 : Int) ≤ 32 ∧ (0 : Int) ≤ 32 ∧ (0 : Int) ≤ 32 ∧ (decide (a < 0) = true → (decide (b < 0) = true → Q [.agg [.i (IntKind.i64.wrap (IntKind.i64.wrap (IntKind.i64.wrap (IntKind.u64.wrap (IntKind.u64.wrap (IntKind.u64.wrap (aInt.shr IntKind.u64 (IntKind.u64.wrap a) (32 : Int) * aInt.shr IntKind.u64 (IntKind.u64.wrap b) (32 : Int)) + aInt.shr IntKind.u64 (IntKind.u64.wrap (IntKind.u64.wrap (aInt.shr IntKind.u64 (IntKind.u64.wrap a) (32 : Int) * aInt.bits BinOp.and IntKind.u64 (IntKind.u64.wrap b) (4294967295 : Int)) + aInt.shr IntKind.u64 (IntKind.u64.wrap (aInt.bits BinOp.and IntKind.u64 (IntKind.u64.wrap a) (4294967295 : Int) * aInt.bits BinOp.and IntKind.u64 (IntKind.u64.wrap b) (4294967295 : Int))) (32 : Int))) (32 : Int)) + aInt.shr IntKind.u64 (IntKind.u64.wrap (IntKind.u64.wrap (aInt.bits BinOp.and IntKind.u64 (IntKind.u64.wrap a) (4294967295 : Int) * aInt.shr IntKind.u64 (IntKind.u64.wrap b) (32 : Int)) + aInt.bits BinOp.and IntKind.u64 (IntKind.u64.wrap (IntKind.u64.wrap (aInt.shr IntKind.u64 (IntKind.u64.wrap a) (32 : Int) * aInt.bits BinOp.and IntKind.u64 (IntKind.u64.wrap b) (4294967295 : Int)) + aInt.shr IntKind.u64 (IntKind.u64.wrap (aInt.bits BinOp.and IntKind.u64 (IntKind.u64.wrap a) (4294967295 : Int) * aInt.bits BinOp.and IntKind.u64 (IntKind.u64.wrap b) (4294967295 : Int))) (32 : Int))) (4294967295 : Int))) (32 : Int))) - b) - a)), .v (.int .u64 (aInt.bits BinOp.or IntKind.u64 (aInt.shl IntKind.u64 (IntKind.u64.wrap (IntKind.u64.wrap (aInt.bits BinOp.and IntKind.u64 (IntKind.u64.wrap a) (4294967295 : Int) * aInt.shr IntKind.u64 (IntKind.u64.wrap b) (32 : Int)) + aInt.bits BinOp.and IntKind.u64 (IntKind.u64.wrap (IntKind.u64.wrap (aInt.shr IntKind.u64 (IntKind.u64.wrap a) (32 : Int) * aInt.bits BinOp.and IntKind.u64 (IntKind.u64.wrap b) (4294967295 : Int)) + aInt.shr IntKind.u64 (IntKind.u64.wrap (aInt.bits BinOp.and IntKind.u64 (IntKind.u64.wrap a) (4294967295 : Int) * aInt.bits BinOp.and IntKind.u64 (IntKind.u64.wrap b) (4294967295 : Int))) (32 : Int))) (4294967295 : Int))) (32 : Int)) (aInt.bits BinOp.and IntKind.u64 (IntKind.u64.wrap (aInt.bits BinOp.and IntKind.u64 (IntKind.u64.wrap a) (4294967295 : Int) * aInt.bits BinOp.and IntKind.u64 (IntKind.u64.wrap b) (4294967295 : Int))) (4294967295 : Int))))]] []) ∧ (decide (b < 0) = false → Q [.agg [.i (IntKind.i64.wrap (IntKind.i64.wrap (IntKind.u64.wrap (IntKind.u64.wrap (IntKind.u64.wrap (aInt.shr IntKind.u64 (IntKind.u64.wrap a) (32 : Int) * aInt.shr IntKind.u64 (IntKind.u64.wrap b) (32 : Int)) + aInt.shr IntKind.u64 (IntKind.u64.wrap (IntKind.u64.wrap (aInt.shr IntKind.u64 (IntKind.u64.wrap a) (32 : Int) * aInt.bits BinOp.and IntKind.u64 (IntKind.u64.wrap b) (4294967295 : Int)) + aInt.shr IntKind.u64 (IntKind.u64.wrap (aInt.bits BinOp.and IntKind.u64 (IntKind.u64.wrap a) (4294967295 : Int) * aInt.bits BinOp.and IntKind.u64 (IntKind.u64.wrap b) (4294967295 : Int))) (32 : Int))) (32 : Int)) + aInt.shr IntKind.u64 (IntKind.u64.wrap (IntKind.u64.wrap (aInt.bits BinOp.and IntKind.u64 (IntKind.u64.wrap a) (4294967295 : Int) * aInt.shr IntKind.u64 (IntKind.u64.wrap b) (32 : Int)) + aInt.bits BinOp.and IntKind.u64 (IntKind.u64.wrap (IntKind.u64.wrap (aInt.shr IntKind.u64 (IntKind.u64.wrap a) (32 : Int) * aInt.bits BinOp.and IntKind.u64 (IntKind.u64.wrap b) (4294967295 : Int)) + aInt.shr IntKind.u64 (IntKind.u64.wrap (aInt.bits BinOp.and IntKind.u64 (IntKind.u64.wrap a) (4294967295 : Int) * aInt.bits BinOp.and IntKind.u64 (IntKind.u64.wrap b) (4294967295 : Int))) (32 : Int))) (4294967295 : Int))) (32 : Int))) - b)), .v (.int .u64 (aInt.bits BinOp.or IntKind.u64 (aInt.shl IntKind.u64 (IntKind.u64.wrap (IntKind.u64.wrap (aInt.bits BinOp.and IntKind.u64 (IntKind.u64.wrap a) (4294967295 : Int) * aInt.shr IntKind.u64 (IntKind.u64.wrap b) (32 : Int)) + aInt.bits BinOp.and IntKind.u64 (IntKind.u64.wrap (IntKind.u64.wrap (aInt.shr IntKind.u64 (IntKind.u64.wrap a) (32 : Int) * aInt.bits BinOp.and IntKind.u64 (IntKind.u64.wrap b) (4294967295 : Int)) + aInt.shr IntKind.u64 (IntKind.u64.wrap (aInt.bits BinOp.and IntKind.u64 (IntKind.u64.wrap a) (4294967295 : Int) * aInt.bits BinOp.and IntKind.u64 (IntKind.u64.wrap b) (4294967295 : Int))) (32 : Int))) (4294967295 : Int))) (32 : Int)) (aInt.bits BinOp.and IntKind.u64 (IntKind.u64.wrap (aInt.bits BinOp.and IntKind.u64 (IntKind.u64.wrap a) (4294967295 : Int) * aInt.bits BinOp.and IntKind.u64 (IntKind.u64.wrap b) (4294967295 : Int))) (4294967295 : Int))))]] [])) ∧ (decide (a < 0) = false → (decide (b < 0) = true → Q [.agg [.i (IntKind.i64.wrap (IntKind.i64.wrap (IntKind.u64.wrap (IntKind.u64.wrap (IntKind.u64.wrap (aInt.shr IntKind.u64 (IntKind.u64.wrap a) (32 : Int) * aInt.shr IntKind.u64 (IntKind.u64.wrap b) (32 : Int)) + aInt.shr IntKind.u64 (IntKind.u64.wrap (IntKind.u64.wrap (aInt.shr IntKind.u64 (IntKind.u64.wrap a) (32 : Int) * aInt.bits BinOp.and IntKind.u64 (IntKind.u64.wrap b) (4294967295 : Int)) + aInt.shr IntKind.u64 (IntKind.u64.wrap (aInt.bits BinOp.and IntKind.u64 (IntKind.u64.wrap a) (4294967295 : Int) * aInt.bits BinOp.and IntKind.u64 (IntKind.u64.wrap b) (4294967295 : Int))) (32 : Int))) (32 : Int)) + aInt.shr IntKind.u64 (IntKind.u64.wrap (IntKind.u64.wrap (aInt.bits BinOp.and IntKind.u64 (IntKind.u64.wrap a) (4294967295 : Int) * aInt.shr IntKind.u64 (IntKind.u64.wrap b) (32 : Int)) + aInt.bits BinOp.and IntKind.u64 (IntKind.u64.wrap (IntKind.u64.wrap (aInt.shr IntKind.u64 (IntKind.u64.wrap a) (32 : Int) * aInt.bits BinOp.and IntKind.u64 (IntKind.u64.wrap b) (4294967295 : Int)) + aInt.shr IntKind.u64 (IntKind.u64.wrap (aInt.bits BinOp.and IntKind.u64 (IntKind.u64.wrap a) (4294967295 : Int) * aInt.bits BinOp.and IntKind.u64 (IntKind.u64.wrap b) (4294967295 : Int))) (32 : Int))) (4294967295 : Int))) (32 : Int))) - a)), .v (.int .u64 (aInt.bits BinOp.or IntKind.u64 (aInt.shl IntKind.u64 (IntKind.u64.wrap (IntKind.u64.wrap (aInt.bits BinOp.and IntKind.u64 (IntKind.u64.wrap a) (4294967295 : Int) * aInt.shr IntKind.u64 (IntKind.u64.wrap b) (32 : Int)) + aInt.bits BinOp.and IntKind.u64 (IntKind.u64.wrap (IntKind.u64.wrap (aInt.shr IntKind.u64 (IntKind.u64.wrap a) (32 : Int) * aInt.bits BinOp.and IntKind.u64 (IntKind.u64.wrap b) (4294967295 : Int)) + aInt.shr IntKind.u64 (IntKind.u64.wrap (aInt.bits BinOp.and IntKind.u64 (IntKind.u64.wrap a) (4294967295 : Int) * aInt.bits BinOp.and IntKind.u64 (IntKind.u64.wrap b) (4294967295 : Int))) (32 : Int))) (4294967295 : Int))) (32 : Int)) (aInt.bits BinOp.and IntKind.u64 (IntKind.u64.wrap (aInt.bits BinOp.and IntKind.u64 (IntKind.u64.wrap a) (4294967295 : Int) * aInt.bits BinOp.and IntKind.u64 (IntKind.u64.wrap b) (4294967295 : Int))) (4294967295 : Int))))]] []) ∧ (decide (b < 0) = false → Q [.agg [.i (IntKind.i64.wrap (IntKind.u64.wrap (IntKind.u64.wrap (IntKind.u64.wrap (aInt.shr IntKind.u64 (IntKind.u64.wrap a) (32 : Int) * aInt.shr IntKind.u64 (IntKind.u64.wrap b) (32 : Int)) + aInt.shr IntKind.u64 (IntKind.u64.wrap (IntKind.u64.wrap (aInt.shr IntKind.u64 (IntKind.u64.wrap a) (32 : Int) * aInt.bits BinOp.and IntKind.u64 (IntKind.u64.wrap b) (4294967295 : Int)) + aInt.shr IntKind.u64 (IntKind.u64.wrap (aInt.bits BinOp.and IntKind.u64 (IntKind.u64.wrap a) (4294967295 : Int) * aInt.bits BinOp.and IntKind.u64 (IntKind.u64.wrap b) (4294967295 : Int))) (32 : Int))) (32 : Int)) + aInt.shr IntKind.u64 (IntKind.u64.wrap (IntKind.u64.wrap (aInt.bits BinOp.and IntKind.u64 (IntKind.u64.wrap a) (4294967295 : Int) * aInt.shr IntKind.u64 (IntKind.u64.wrap b) (32 : Int)) + aInt.bits BinOp.and IntKind.u64 (IntKind.u64.wrap (IntKind.u64.wrap (aInt.shr IntKind.u64 (IntKind.u64.wrap a) (32 : Int) * aInt.bits BinOp.and IntKind.u64 (IntKind.u64.wrap b) (4294967295 : Int)) + aInt.shr IntKind.u64 (IntKind.u64.wrap (aInt.bits BinOp.and IntKind.u64 (IntKind.u64.wrap a) (4294967295 : Int) * aInt.bits BinOp.and IntKind.u64 (IntKind.u64.wrap b) (4294967295 : Int))) (32 : Int))) (4294967295 : Int))) (32 : Int)))), .v (.int .u64 (aInt.bits BinOp.or IntKind.u64 (aInt.shl IntKind.u64 (IntKind.u64.wrap (IntKind.u64.wrap (aInt.bits BinOp.and IntKind.u64 (IntKind.u64.wrap a) (4294967295 : Int) * aInt.shr IntKind.u64 (IntKind.u64.wrap b) (32 : Int)) + aInt.bits BinOp.and IntKind.u64 (IntKind.u64.wrap (IntKind.u64.wrap (aInt.shr IntKind.u64 (IntKind.u64.wrap a) (32 : Int) * aInt.bits BinOp.and IntKind.u64 (IntKind.u64.wrap b) (4294967295 : Int)) + aInt.shr IntKind.u64 (IntKind.u64.wrap (aInt.bits BinOp.and IntKind.u64 (IntKind.u64.wrap a) (4294967295 : Int) * aInt.bits BinOp.and IntKind.u64 (IntKind.u64.wrap b) (4294967295 : Int))) (32 : Int))) (4294967295 : Int))) (32 : Int)) (aInt.bits BinOp.and IntKind.u64 (IntKind.u64.wrap (aInt.bits BinOp.and IntKind.u64 (IntKind.u64.wrap a) (4294967295 : Int) * aInt.bits BinOp.and IntKind.u64 (IntKind.u64.wrap b) (4294967295 : Int))) (4294967295 : Int))))]] []))) := by kernel_rfl
theorem ct273 (a b : Int) : Ct prog gl 90 [.d (.v (.int .i64 a)), .d (.v (.int .i64 b))] (gives [.agg [.v (.int .i64 (wideHi a b)), .v (.int .u64 (wideLo a b))]]) :=
  ct_of_vc E_ok C_g6_ok ioK_no it_ok mixed (fn := f90) (body := f90.body.getD .skip) (by kernel_rfl) (by kernel_rfl) (by kernel_rfl) (fi := fi90) (by kernel_rfl) (by kernel_rfl) ⟨_, _, rfl, rfl⟩ (by
    rw [vc273]
    refine ⟨by decide, by decide, by decide, by decide, by decide, by decide, by decide, by decide, fun h => ⟨fun h2 => ?_, fun h2 => ?_⟩, fun h => ⟨fun h2 => ?_, fun h2 => ?_⟩⟩ <;> (unfold wideHi; rw [h, h2]; exact ⟨rfl, rfl⟩))
def c_273 (a : List R) (K : List R → List (List D) → Prop) : Prop := match a with
  | [.d (.v (.int .i64 a)), .d (.v (.int .i64 b))] => K [.agg [.v (.int .i64 (wideHi a b)), .v (.int .u64 (wideLo a b))]] []
  | _ => False
theorem c_273_ok (a : List R) (K : List R → List (List D) → Prop) (h : c_273 a K) : Ct prog gl 90 a K := by
  unfold c_273 at h
  split at h
  · exact (ct273 _ _).gives h
  · exact h.elim
theorem vc272 (h l : Int) (Q : List R → List (List D) → Prop) : vc E_0 C_g6 noI fi89 (f89.body.getD .skip) f89.results.toList [.agg [.v (.int .i64 h), .v (.int .u64 l)]] Q = ( (0 : Int) ≤ 63 ∧ ((h != aInt.shr IntKind.i64 (IntKind.i64.wrap l) (63 : Int)) = true → Q [.d (.i 0), .d (.i 10)] []) ∧ ((h != aInt.shr IntKind.i64 (IntKind.i64.wrap l) (63 : Int)) = false → Q [.d (.i (IntKind.i64.wrap l)), .d (.i 0)] [])) := by kernel_rfl
theorem ct272 (h l : Int) : Ct prog gl 89 [.agg [.v (.int .i64 h), .v (.int .u64 l)]] (gives [.d (.v (.int .i64 (narrowP h l).1)), .d (.v (.int .i64 (narrowP h l).2))]) :=
  ct_of_vc E_ok C_g6_ok ioK_no it_ok mixed (fn := f89) (body := f89.body.getD .skip) (by kernel_rfl) (by kernel_rfl) (by kernel_rfl) (fi := fi89) (by kernel_rfl) (by kernel_rfl) ⟨_, _, rfl, rfl⟩ (by
    rw [vc272]
    refine ⟨by decide, fun h => ?_, fun h => ?_⟩ <;> (unfold narrowP; rw [h]; exact ⟨rfl, rfl⟩))
def c_272 (a : List R) (K : List R → List (List D) → Prop) : Prop := match a with
  | [.agg [.v (.int .i64 h), .v (.int .u64 l)]] => K [.d (.v (.int .i64 (narrowP h l).1)), .d (.v (.int .i64 (narrowP h l).2))] []
  | _ => False
theorem c_272_ok (a : List R) (K : List R → List (List D) → Prop) (h : c_272 a K) : Ct prog gl 89 a K := by
  unfold c_272 at h
  split at h
  · exact (ct272 _ _).gives h
  · exact h.elim
def st_329 (n : Int) (x : Nat) : St := { tm := [(2, .d (.v (.int .i64 0))), (3, .d (.v (.int .i64 0))), (4, .d (.v (.int .i64 ((10 ^ x : Nat) : Int)))), (8, .d (.v (.int .i64 n))), (9, .d (.v (.int .i64 (x : Int))))], hp := [], kn := [], gd := [] }
def inv_329 (n : Int) (m : Nat) (x : Nat) : Prop := (x : Int) ≤ n ∧ n ≤ 18 ∧ m = n.toNat - x
def fx_329 (n : Int) : Fi := { fi104 with lx := [(5, { X := Nat, sh := st_329 n, P := fun _ => inv_329 n })] }
theorem vc329 (n : Int) (Q : List R → List (List D) → Prop) : vc E_0 C_g6 noI (fx_329 n) (f104.body.getD .skip) f104.results.toList [.d (.v (.int .i64 n))] Q = ( ((!s276_0 n) = true → Q [.d (.i 0), .d (.i 1)] []) ∧ ((!s276_0 n) = false → ∃ (x0 : Nat), ({ tm := [(2, .i 0), (3, .i 0), (4, .i 1), (8, .i n), (9, .i 0)], hp := [], kn := [], gd := [] : St } = { tm := [(2, .i 0), (3, .i 0), (4, .i (↑((10 : Nat) ^ x0) : Int)), (8, .i n), (9, .i (↑x0 : Int))], hp := [], kn := [], gd := [] : St } ∧ ∃ (n_1 : Nat), inv_329 n n_1 x0) ∧ ∀ (n_1 : Nat) (x : Nat), inv_329 n n_1 x → (decide ((↑x : Int) < n) = true → ∃ (m x' : Nat), m < n_1 ∧ { tm := [(2, .i 0), (3, .i 0), (4, .i (IntKind.i64.wrap ((↑((10 : Nat) ^ x) : Int) * (10 : Int)))), (8, .i n), (9, .i (IntKind.i64.wrap ((↑x : Int) + 1)))], hp := [], kn := [], gd := [] : St } = { tm := [(2, .i 0), (3, .i 0), (4, .i (↑((10 : Nat) ^ x') : Int)), (8, .i n), (9, .i (↑x' : Int))], hp := [], kn := [], gd := [] : St } ∧ inv_329 n m x') ∧ (decide ((↑x : Int) < n) = false → Q [.d (.i (↑((10 : Nat) ^ x) : Int)), .d (.i 0)] []))) := by kernel_rfl
/-- A power of ten. -/
def powP (n : Int) : Int × Int := bif !s276_0 n then (0, 1) else (((10 ^ n.toNat : Nat) : Int), 0)
theorem pow_le {x : Nat} (h : x ≤ 18) : 10 ^ x ≤ 1000000000000000000 := Nat.pow_le_pow_right (by decide) h
theorem ct329 (n : Int) : Ct prog gl 104 [.d (.v (.int .i64 n))] (gives [.d (.v (.int .i64 (powP n).1)), .d (.v (.int .i64 (powP n).2))]) :=
  ct_of_vc E_ok C_g6_ok ioK_no it_ok mixed (fn := f104) (body := f104.body.getD .skip) (by kernel_rfl) (by kernel_rfl) (by kernel_rfl) (fi := fx_329 n) (by kernel_rfl) (by kernel_rfl) ⟨_, _, rfl, rfl⟩ (by
    rw [vc329]
    refine ⟨fun h => ?_, fun h => ?_⟩
    · unfold powP; rw [h]; exact ⟨rfl, rfl⟩
    · have hn : 0 ≤ n ∧ n ≤ 18 := by
        revert h
        unfold s276_0
        by_cases h1 : n ≥ 0 <;> by_cases h2 : n ≤ 18 <;> simp [h1, h2]
      refine ⟨(0 : Nat), ⟨rfl, n.toNat, hn.1, hn.2, by omega⟩, fun m (x : Nat) hx => ⟨fun hi => ?_, fun hi => ?_⟩⟩
      · obtain ⟨h1, h2, h3⟩ := hx
        have hi := of_decide_eq_true hi
        refine ⟨n.toNat - (x + 1), x + 1, by omega, ?_, by omega, h2, by omega⟩
        have := pow_le (x := x + 1) (by omega)
        have e : (((10 ^ (x + 1) : Nat)) : Int) = ((10 ^ x : Nat) : Int) * 10 := by rw [Nat.pow_succ]; rfl
        have hp : 0 ≤ ((10 ^ x : Nat) : Int) := Int.natCast_nonneg _
        have hq : (((10 ^ (x + 1) : Nat)) : Int) ≤ 1000000000000000000 := Int.ofNat_le.2 this
        rw [e] at hq ⊢
        rw [wrap_next (by omega)]
        generalize ((10 ^ x : Nat) : Int) = p at *
        rw [wrap_i64_of (by omega) (by omega)]
      · obtain ⟨h1, h2, h3⟩ := hx
        have hi := of_decide_eq_false hi
        unfold powP
        rw [h, show n.toNat = x by omega]
        exact ⟨rfl, rfl⟩)
def c_329 (a : List R) (K : List R → List (List D) → Prop) : Prop := match a with
  | [.d (.v (.int .i64 n))] => K [.d (.v (.int .i64 (powP n).1)), .d (.v (.int .i64 (powP n).2))] []
  | _ => False
theorem c_329_ok (a : List R) (K : List R → List (List D) → Prop) (h : c_329 a K) : Ct prog gl 104 a K := by
  unfold c_329 at h
  split at h
  · exact (ct329 _).gives h
  · exact h.elim
def C_k4 : CallT := addC (addC (addC (addC (addC C_k2 38 c_117) 73 c_206) 90 c_273) 89 c_272) 104 c_329
theorem C_k4_ok : CallsOk prog gl C_k4 := addC_ok (addC_ok (addC_ok (addC_ok (addC_ok C_k2_ok c_117_ok) c_206_ok) c_273_ok) c_272_ok) c_329_ok
theorem vc204 (a b : Int) (Q : List R → List (List D) → Prop) : vc E_0 C_k4 noI fi71 (f71.body.getD .skip) f71.results.toList [.d (.v (.int .i64 a)), .d (.v (.int .i64 b))] Q = ( Q [.d (.v (.int .i64 (narrowP (wideHi a b) (wideLo a b)).1)), .d (.v (.int .i64 (narrowP (wideHi a b) (wideLo a b)).2))] []) := by kernel_rfl
theorem ct204 (a b : Int) : Ct prog gl 71 [.d (.v (.int .i64 a)), .d (.v (.int .i64 b))] (gives [.d (.v (.int .i64 (mulP a b).1)), .d (.v (.int .i64 (mulP a b).2))]) :=
  ct_of_vc E_ok C_k4_ok ioK_no it_ok mixed (fn := f71) (body := f71.body.getD .skip) (by kernel_rfl) (by kernel_rfl) (by kernel_rfl) (fi := fi71) (by kernel_rfl) (by kernel_rfl) ⟨_, _, rfl, rfl⟩ (by
    rw [vc204]; exact ⟨rfl, rfl⟩)
def c_204 (a : List R) (K : List R → List (List D) → Prop) : Prop := match a with
  | [.d (.v (.int .i64 a)), .d (.v (.int .i64 b))] => K [.d (.v (.int .i64 (mulP a b).1)), .d (.v (.int .i64 (mulP a b).2))] []
  | _ => False
theorem c_204_ok (a : List R) (K : List R → List (List D) → Prop) (h : c_204 a K) : Ct prog gl 71 a K := by
  unfold c_204 at h
  split at h
  · exact (ct204 _ _).gives h
  · exact h.elim
def C_k5 : CallT := addC C_k4 71 c_204
theorem C_k5_ok : CallsOk prog gl C_k5 := addC_ok C_k4_ok c_204_ok
/-- A decimal of another number of digits. -/
def scaleP (v f t : Int) : Int × Int :=
  bif (bif !s276_0 f then true else !s276_0 t) then (0, 1) else bif !s114_0 v then (0, 10) else
  bif decide (t ≥ f) then (bif (bif (mulP v (powP (IntKind.i64.wrap (t - f))).1).2 != 0 then true else !s114_0 (mulP v (powP (IntKind.i64.wrap (t - f))).1).1) then (0, 10) else ((mulP v (powP (IntKind.i64.wrap (t - f))).1).1, 0))
  else bif decide (v.tmod (powP (IntKind.i64.wrap (f - t))).1 ≥ IntKind.i64.wrap ((powP (IntKind.i64.wrap (f - t))).1 - v.tmod (powP (IntKind.i64.wrap (f - t))).1)) then (IntKind.i64.wrap (IntKind.i64.wrap (v.tdiv (powP (IntKind.i64.wrap (f - t))).1) + 1), 0)
  else bif decide (IntKind.i64.wrap (0 - v.tmod (powP (IntKind.i64.wrap (f - t))).1) ≥ IntKind.i64.wrap ((powP (IntKind.i64.wrap (f - t))).1 + v.tmod (powP (IntKind.i64.wrap (f - t))).1)) then (IntKind.i64.wrap (IntKind.i64.wrap (v.tdiv (powP (IntKind.i64.wrap (f - t))).1) - 1), 0)
  else (IntKind.i64.wrap (v.tdiv (powP (IntKind.i64.wrap (f - t))).1), 0)
theorem s276_iff {n : Int} : s276_0 n = true ↔ 0 ≤ n ∧ n ≤ 18 := by
  unfold s276_0
  by_cases h1 : n ≥ 0 <;> by_cases h2 : n ≤ 18 <;> simp [h1, h2] <;> omega
theorem powP_ne {n : Int} (h : 0 ≤ n ∧ n ≤ 18) : (powP n).1 = ((10 ^ n.toNat : Nat) : Int) := by
  unfold powP
  rw [s276_iff.2 h]
  rfl
theorem vc269 (v f t : Int) (Q : List R → List (List D) → Prop) : vc E_0 C_k5 noI fi86 (f86.body.getD .skip) f86.results.toList [.d (.v (.int .i64 v)), .d (.v (.int .i64 f)), .d (.v (.int .i64 t))] Q = ( ((bif !s276_0 f then true else !s276_0 t) = true → Q [.d (.i 0), .d (.i 1)] []) ∧ ((bif !s276_0 f then true else !s276_0 t) = false → ((!s114_0 v) = true → Q [.d (.i 0), .d (.i 10)] []) ∧ ((!s114_0 v) = false → (decide (t ≥ f) = true → ((bif (mulP v (powP (IntKind.i64.wrap (t - f))).1).2 != (0 : Int) then true else !s114_0 (mulP v (powP (IntKind.i64.wrap (t - f))).1).1) = true → Q [.d (.i 0), .d (.i 10)] []) ∧ ((bif (mulP v (powP (IntKind.i64.wrap (t - f))).1).2 != (0 : Int) then true else !s114_0 (mulP v (powP (IntKind.i64.wrap (t - f))).1).1) = false → Q [.d (.v (.int .i64 (mulP v (powP (IntKind.i64.wrap (t - f))).1).1)), .d (.i 0)] [])) ∧ (decide (t ≥ f) = false → (powP (IntKind.i64.wrap (f - t))).1 ≠ (0 : Int) ∧ (powP (IntKind.i64.wrap (f - t))).1 ≠ (0 : Int) ∧ (decide (v.tmod (powP (IntKind.i64.wrap (f - t))).1 ≥ IntKind.i64.wrap ((powP (IntKind.i64.wrap (f - t))).1 - v.tmod (powP (IntKind.i64.wrap (f - t))).1)) = true → Q [.d (.i (IntKind.i64.wrap (IntKind.i64.wrap (v.tdiv (powP (IntKind.i64.wrap (f - t))).1) + (1 : Int)))), .d (.i 0)] []) ∧ (decide (v.tmod (powP (IntKind.i64.wrap (f - t))).1 ≥ IntKind.i64.wrap ((powP (IntKind.i64.wrap (f - t))).1 - v.tmod (powP (IntKind.i64.wrap (f - t))).1)) = false → (decide (IntKind.i64.wrap ((0 : Int) - v.tmod (powP (IntKind.i64.wrap (f - t))).1) ≥ IntKind.i64.wrap ((powP (IntKind.i64.wrap (f - t))).1 + v.tmod (powP (IntKind.i64.wrap (f - t))).1)) = true → Q [.d (.i (IntKind.i64.wrap (IntKind.i64.wrap (v.tdiv (powP (IntKind.i64.wrap (f - t))).1) - (1 : Int)))), .d (.i 0)] []) ∧ (decide (IntKind.i64.wrap ((0 : Int) - v.tmod (powP (IntKind.i64.wrap (f - t))).1) ≥ IntKind.i64.wrap ((powP (IntKind.i64.wrap (f - t))).1 + v.tmod (powP (IntKind.i64.wrap (f - t))).1)) = false → Q [.d (.i (IntKind.i64.wrap (v.tdiv (powP (IntKind.i64.wrap (f - t))).1))), .d (.i 0)] [])))))) := by kernel_rfl
theorem ct269 (v f t : Int) : Ct prog gl 86 [.d (.v (.int .i64 v)), .d (.v (.int .i64 f)), .d (.v (.int .i64 t))] (gives [.d (.v (.int .i64 (scaleP v f t).1)), .d (.v (.int .i64 (scaleP v f t).2))]) :=
  ct_of_vc E_ok C_k5_ok ioK_no it_ok mixed (fn := f86) (body := f86.body.getD .skip) (by kernel_rfl) (by kernel_rfl) (by kernel_rfl) (fi := fi86) (by kernel_rfl) (by kernel_rfl) ⟨_, _, rfl, rfl⟩ (by
    rw [vc269]
    refine ⟨fun h => ?_, fun h1 => ⟨fun h => ?_, fun h2 => ⟨fun h3 => ⟨fun h => ?_, fun h => ?_⟩, fun h3 => ?_⟩⟩⟩
    · unfold scaleP; rw [h]; exact ⟨rfl, rfl⟩
    · unfold scaleP; rw [h1, h]; exact ⟨rfl, rfl⟩
    · unfold scaleP; rw [h1, h2, h3, cond_false, cond_false, cond_true, h]; exact ⟨rfl, rfl⟩
    · unfold scaleP; rw [h1, h2, h3, cond_false, cond_false, cond_true, h]; exact ⟨rfl, rfl⟩
    · have hne : (powP (IntKind.i64.wrap (f - t))).1 ≠ 0 := by
        have hft : (0 ≤ f ∧ f ≤ 18) ∧ (0 ≤ t ∧ t ≤ 18) := by
          rw [← s276_iff, ← s276_iff]
          revert h1
          cases s276_0 f <;> cases s276_0 t <;> simp
        have := of_decide_eq_false h3
        rw [wrap_i64_of (by omega) (by omega), powP_ne (by omega)]
        have : 0 < 10 ^ (f - t).toNat := Nat.pow_pos (by decide)
        generalize 10 ^ (f - t).toNat = p at *
        omega
      refine ⟨hne, hne, fun h => ?_, fun h => ⟨fun h4 => ?_, fun h4 => ?_⟩⟩
      · unfold scaleP; rw [h1, h2, h3, cond_false, cond_false, cond_false, h]; exact ⟨rfl, rfl⟩
      · unfold scaleP; rw [h1, h2, h3, cond_false, cond_false, cond_false, h, cond_false, h4]; exact ⟨rfl, rfl⟩
      · unfold scaleP; rw [h1, h2, h3, cond_false, cond_false, cond_false, h, cond_false, h4]; exact ⟨rfl, rfl⟩)
def c_269 (a : List R) (K : List R → List (List D) → Prop) : Prop := match a with
  | [.d (.v (.int .i64 v)), .d (.v (.int .i64 f)), .d (.v (.int .i64 t))] => K [.d (.v (.int .i64 (scaleP v f t).1)), .d (.v (.int .i64 (scaleP v f t).2))] []
  | _ => False
theorem c_269_ok (a : List R) (K : List R → List (List D) → Prop) (h : c_269 a K) : Ct prog gl 86 a K := by
  unfold c_269 at h
  split at h
  · exact (ct269 _ _ _).gives h
  · exact h.elim
/-- A number in units of so many digits. -/
def wideV (v : Go.Ex.AV) (n : Int) : Int × Int := (wideHi v.n (powP (IntKind.i64.wrap (n - s270_0 v.t.k v.t.sc v.nul v.n v.s))).1, wideLo v.n (powP (IntKind.i64.wrap (n - s270_0 v.t.k v.t.sc v.nul v.n v.s))).1)
theorem vc332 (v : Go.Ex.AV) (n : Int) (Q : List R → List (List D) → Prop) : vc E_0 C_k5 noI fi107 (f107.body.getD .skip) f107.results.toList [.agg v.cs, .d (.v (.int .i64 n))] Q = ( Q [.agg [.i (wideHi v.3 (powP (IntKind.i64.wrap (n - s270_0 v.1.1 v.1.2 v.2 v.3 v.4))).1), .v (.int .u64 (wideLo v.3 (powP (IntKind.i64.wrap (n - s270_0 v.1.1 v.1.2 v.2 v.3 v.4))).1))]] []) := by kernel_rfl
theorem ct332 (v : Go.Ex.AV) (n : Int) : Ct prog gl 107 [.agg v.cs, .d (.v (.int .i64 n))] (gives [.agg [.v (.int .i64 (wideV v n).1), .v (.int .u64 (wideV v n).2)]]) :=
  ct_of_vc E_ok C_k5_ok ioK_no it_ok mixed (fn := f107) (body := f107.body.getD .skip) (by kernel_rfl) (by kernel_rfl) (by kernel_rfl) (fi := fi107) (by kernel_rfl) (by kernel_rfl) ⟨_, _, rfl, rfl⟩ (by
    rw [vc332]; exact ⟨rfl, rfl⟩)
def c_332 (a : List R) (K : List R → List (List D) → Prop) : Prop := match a with
  | [.agg [.v (.int .i64 k), .v (.int .i64 sc), .v (.bool b), .v (.int .i64 m), .v (.string s)], .d (.v (.int .i64 n))] => K [.agg [.v (.int .i64 (wideV ⟨⟨k, sc⟩, b, m, s⟩ n).1), .v (.int .u64 (wideV ⟨⟨k, sc⟩, b, m, s⟩ n).2)]] []
  | _ => False
theorem c_332_ok (a : List R) (K : List R → List (List D) → Prop) (h : c_332 a K) : Ct prog gl 107 a K := by
  unfold c_332 at h
  split at h
  · exact (ct332 _ _).gives h
  · exact h.elim
theorem vc330 (a b : ByteArray) (Q : List R → List (List D) → Prop) : vc E_0 C_k5 noI fi105 (f105.body.getD .skip) f105.results.toList [.d (.v (.string a)), .d (.v (.string b))] Q = ( (Op.bytesLess a.toList b.toList = true → Q [.d (.i (-1))] []) ∧ (Op.bytesLess a.toList b.toList = false → ((!(Op.bytesLess a.toList b.toList || a == b)) = true → Q [.d (.i 1)] []) ∧ ((!(Op.bytesLess a.toList b.toList || a == b)) = false → Q [.d (.i 0)] []))) := by kernel_rfl
def threeS (a b : ByteArray) : Int := bif Op.bytesLess a.toList b.toList then -1 else bif !(Op.bytesLess a.toList b.toList || a == b) then 1 else 0
theorem ct330 (a b : ByteArray) : Ct prog gl 105 [.d (.v (.string a)), .d (.v (.string b))] (gives [.d (.v (.int .i64 (threeS a b)))]) :=
  ct_of_vc E_ok C_k5_ok ioK_no it_ok mixed (fn := f105) (body := f105.body.getD .skip) (by kernel_rfl) (by kernel_rfl) (by kernel_rfl) (fi := fi105) (by kernel_rfl) (by kernel_rfl) ⟨_, _, rfl, rfl⟩ (by
    rw [vc330]
    refine ⟨fun h => ?_, fun h => ⟨fun h2 => ?_, fun h2 => ?_⟩⟩
    · unfold threeS; rw [h]; exact ⟨rfl, rfl⟩
    · unfold threeS; rw [h2, h]; exact ⟨rfl, rfl⟩
    · unfold threeS; rw [h2, h]; exact ⟨rfl, rfl⟩)
def c_330 (a : List R) (K : List R → List (List D) → Prop) : Prop := match a with
  | [.d (.v (.string a)), .d (.v (.string b))] => K [.d (.v (.int .i64 (threeS a b)))] []
  | _ => False
theorem c_330_ok (a : List R) (K : List R → List (List D) → Prop) (h : c_330 a K) : Ct prog gl 105 a K := by
  unfold c_330 at h
  split at h
  · exact (ct330 _ _).gives h
  · exact h.elim
def C_k6 : CallT := addC (addC (addC C_k5 86 c_269) 107 c_332) 105 c_330
theorem C_k6_ok : CallsOk prog gl C_k6 := addC_ok (addC_ok (addC_ok C_k5_ok c_269_ok) c_332_ok) c_330_ok
end Go.Proofs.Tryz
