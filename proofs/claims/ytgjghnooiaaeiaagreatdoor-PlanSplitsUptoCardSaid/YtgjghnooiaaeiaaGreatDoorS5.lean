/- A part of the proof: contracts of functions, by a verified generator of conditions; no condition of its own. -/
import Derived.Test.YtgjghnooiaaeiaaGreatDoorS4
namespace Go.Proofs.Tryz
open Go Go.Dm Go.Ex
set_option maxRecDepth 100000
variable {gl : Nat → Option Obj}
def withinE (lo hi : Int) (e : EX) : Bool := !(colsE e).isEmpty && (colsE e).all fun x => decide (lo ≤ x) && decide (x < hi)
def sideE (n : Int) (e : EX) : Int := bif (colsE e).isEmpty then 2 else bif (colsE e).all (fun x => decide (x < n)) then 0 else bif (colsE e).all (fun x => decide (n ≤ x)) then 1 else 2
def C_s91 : CallT := addC C_0 51 c_177
def Zez (a0 : List Int) (k : Int → Prop) : Prop := Zeu a0 fun es => Zey (0 : Int) es fun cells => Zf0 cells (1 : Nat) fun n => k n
def Zb6 (a0 : List Int) (k : Int → Prop) : Prop := Zeu a0 fun es => Zeu a0 fun es_1 => Zbv es es_1 (1 : Nat) fun cells => Zds cells fun n => k n
def Zc8 (a0 : List Int) (a1 : KT) (a2 : Int) : Prop := Zb6 a0 fun n => a1 [.d (.v (.bool (decide (n < a2))))] []
theorem vc91 (op sub : Int) (t : Ty) (v : Go.Ex.AV) (args : List EX) (lo hi : Int) (Q : KT) : vc E_9s C_s91 noI fi18 (f18.body.getD .skip) f18.results.toList [.agg (encX op sub t v (cellsL args)), .d (.v (.int .i64 lo)), .d (.v (.int .i64 hi))] Q = ( ∃ (e : EX), ∃ (N : Nat), Zbm op sub t v args e (N ≤ (17592186044416 : Nat) ∧ (∀ (y : Int), y ∈ colsE e → 0 ≤ y ∧ y < (↑N : Int)) ∧ ∀ (L : List Int), List.Pairwise (fun (x1 x2 : Int) => x1 ≤ x2) L → (∀ (y : Int), y ∈ L ↔ y ∈ colsE e) → L.length ≤ N → Zeu L fun es => (decide ((↑es.length : Int) > 0) = true → Zez L fun n => (decide (n ≥ lo) = true → Zc8 L Q hi) ∧ (decide (n ≥ lo) = !true → Zcr Q)) ∧ (decide ((↑es.length : Int) > 0) = !true → (false = true → Zc8 L Q hi) ∧ (false = !true → Zcr Q)))) := by kernel_rfl
def C_s95 : CallT := addC C_0 52 c_178g
theorem vc95 (op sub : Int) (t : Ty) (v : Go.Ex.AV) (args : List EX) (n : Int) (Q : KT) : vc E_9s C_s95 noI fi23 (f23.body.getD .skip) f23.results.toList [.agg (encX op sub t v (cellsL args)), .d (.v (.int .i64 n))] Q = ( Zbx op sub t v args fun e => Ze9 e fun L es => (((↑es.length : Int) == 0) = true → Q [.d (.i 2)] []) ∧ (((↑es.length : Int) == 0) = false → Zb6 L fun n_1 => (decide (n_1 < n) = true → Q [.d (.i 0)] []) ∧ (decide (n_1 < n) = false → Zez L fun n_2 => (decide (n_2 ≥ n) = true → Q [.d (.i 1)] []) ∧ (decide (n_2 ≥ n) = false → Q [.d (.i 2)] [])))) := by kernel_rfl
theorem first_le {L : List Int} (h : L.Pairwise (· ≤ ·)) (h0 : 0 < L.length) : ∀ x ∈ L, L[0] ≤ x := by
 intro x hx
 obtain ⟨i, hi, rfl⟩ := List.getElem_of_mem hx
 by_cases e : i = 0
 · subst e; exact Int.le_refl _
 · exact (List.pairwise_iff_getElem.1 h) 0 i h0 hi (by omega)
theorem last_ge {L : List Int} (h : L.Pairwise (· ≤ ·)) (h0 : L.length - 1 < L.length) : ∀ x ∈ L, x ≤ L[L.length - 1] := by
 intro x hx
 obtain ⟨i, hi, rfl⟩ := List.getElem_of_mem hx
 by_cases e : i = L.length - 1
 · subst e; exact Int.le_refl _
 · exact (List.pairwise_iff_getElem.1 h) i (L.length - 1) hi h0 (by omega)
theorem ends_get {L : List Int} (h0 : 0 < L.length) (hb : L.length ≤ 17592186044416) : ((0 : Int) ≤ IntKind.i64.wrap ((L.length : Int) - 1) ∧ IntKind.i64.wrap ((L.length : Int) - 1) < (L.length : Int)) ∧ (intsD L)[(IntKind.i64.wrap ((L.length : Int) - 1)).toNat]? = some [D.v (.int .i64 L[L.length - 1])] := by
 have e : IntKind.i64.wrap ((L.length : Int) - 1) = ((L.length - 1 : Nat) : Int) := by
   rw [wrap64_of (by omega) (by omega)]; omega
 rw [e]
 exact ⟨⟨by omega, by omega⟩, ints_get (by omega)⟩
theorem within_eq {L : List Int} {e : EX} {lo hi : Int} (hp : L.Pairwise (· ≤ ·)) (hm : ∀ y, y ∈ L ↔ y ∈ colsE e) (h0 : 0 < L.length) : withinE lo hi e = (decide (L[0] ≥ lo) && decide (L[L.length - 1] < hi)) := by
 have hne : (colsE e).isEmpty = false := by
   cases hc : colsE e with
   | nil => have := (hm L[0]).1 (List.getElem_mem h0); rw [hc] at this; cases this
   | cons a r => rfl
 unfold withinE
 rw [hne, Bool.eq_iff_iff]
 simp only [Bool.not_false, Bool.true_and, List.all_eq_true, Bool.and_eq_true, decide_eq_true_eq]
 constructor
 · intro h
   exact ⟨(h _ ((hm _).1 (List.getElem_mem h0))).1, (h _ ((hm _).1 (List.getElem_mem (show L.length - 1 < L.length by omega)))).2⟩
 · rintro ⟨h1, h2⟩ x hx
   have hx := (hm x).2 hx
   have a := first_le hp h0 x hx
   have b := last_ge hp (by omega) x hx
   omega
theorem within_no {L : List Int} {e : EX} {lo hi : Int} (hm : ∀ y, y ∈ L ↔ y ∈ colsE e) (h0 : ¬ 0 < L.length) : withinE lo hi e = false := by
 have : colsE e = [] := by
   cases hc : colsE e with
   | nil => rfl
   | cons a r =>
     have := (hm a).2 (by rw [hc]; simp)
     have := List.length_pos_of_mem this
     omega
 unfold withinE
 rw [this]; rfl
theorem ct91 (N : Nat) (hN : N ≤ 17592186044416) (lo hi : Int) : ∀ e : EX, fits e → (∀ y ∈ colsE e, 0 ≤ y ∧ y < N) → Ct prog gl 18 [.agg (cells e), .d (.v (.int .i64 lo)), .d (.v (.int .i64 hi))] (gives [.d (.v (.bool (withinE lo hi e)))])
 | .mk op sub t v args, hf, hc => by
   have hC : CallsOk prog gl C_s91 := addC_ok C_0_ok c_177_ok
   have hcc : encX op sub t v (cellsL args) = cells (.mk op sub t v args) := (cells_mk _ _ _ _ _).symm
   rw [cells_mk]
   refine ct_of_vc (E := E_9s) ⟨E_ok.te⟩ hC ioK_no (fun _ _ _ h => h.elim) mixed (fn := f18) (body := f18.body.getD .skip) (by kernel_rfl) (by kernel_rfl) (by kernel_rfl) (fi := fi18) (by kernel_rfl) (by kernel_rfl) ⟨_, _, rfl, rfl⟩ ?_
   rw [vc91]; dsimp -eta -iota -proj only [Zbm, Z2, Zz, Zeu, Zbt, Zez, Zey, Zf0, Zds, Zc8, Zb6, Zbv, Zcr]
   refine ⟨.mk op sub t v args, N, hcc, hf, hN, hc, fun L h1 h2 h3 => ⟨_, rfl, fun h0 => ?_, fun h0 => ⟨fun h => (by cases h), fun _ => ?_⟩⟩⟩
   · have h0 := of_decide_eq_true h0
     rw [List.length_map] at h0
     have h0 : 0 < L.length := by omega
     have he := ends_get h0 (by omega)
     refine ⟨_, rfl, ⟨by omega, by rw [List.length_map]; omega⟩, _, ints_get h0, rfl, L[0], rfl, fun h4 => ⟨_, rfl, _, rfl, ?_, [D.v (.int .i64 L[L.length - 1])], ?_, rfl, L[L.length - 1], rfl, ?_⟩, fun h4 => ?_⟩
     · rw [List.length_map]; exact he.1
     · rw [List.length_map]; exact he.2
     · rw [within_eq h1 h2 h0, h4, Bool.true_and]; exact ⟨rfl, rfl⟩
     · rw [within_eq h1 h2 h0, show decide (L[0] ≥ lo) = false from h4, Bool.false_and]; exact ⟨rfl, rfl⟩
   · have h0 : ¬ 0 < L.length := by
       have h0 : decide (((intsD L).length : Int) > 0) = false := h0
       have h0 := of_decide_eq_false h0
       rw [List.length_map] at h0
       omega
     rw [within_no h2 h0]; exact ⟨rfl, rfl⟩
theorem side_eq {L : List Int} {e : EX} {n : Int} (hp : L.Pairwise (· ≤ ·)) (hm : ∀ y, y ∈ L ↔ y ∈ colsE e) (h0 : 0 < L.length) : sideE n e = bif decide (L[L.length - 1] < n) then 0 else bif decide (L[0] ≥ n) then 1 else 2 := by
 have hne : (colsE e).isEmpty = false := by
   cases hc : colsE e with
   | nil => have := (hm L[0]).1 (List.getElem_mem h0); rw [hc] at this; cases this
   | cons a r => rfl
 have e1 : (colsE e).all (fun x => decide (x < n)) = decide (L[L.length - 1] < n) := by
   rw [Bool.eq_iff_iff]
   simp only [List.all_eq_true, decide_eq_true_eq]
   constructor
   · intro h; exact h _ ((hm _).1 (List.getElem_mem (show L.length - 1 < L.length by omega)))
   · intro h x hx
     have := last_ge hp (by omega) x ((hm x).2 hx)
     omega
 have e2 : (colsE e).all (fun x => decide (n ≤ x)) = decide (L[0] ≥ n) := by
   rw [Bool.eq_iff_iff]
   simp only [List.all_eq_true, decide_eq_true_eq]
   constructor
   · intro h; exact h _ ((hm _).1 (List.getElem_mem h0))
   · intro h x hx
     have := first_le hp h0 x ((hm x).2 hx)
     omega
 unfold sideE
 rw [hne, e1, e2]; rfl
theorem side_no {L : List Int} {e : EX} {n : Int} (hm : ∀ y, y ∈ L ↔ y ∈ colsE e) (h0 : L.length = 0) : sideE n e = 2 := by
 have : colsE e = [] := by
   cases hc : colsE e with
   | nil => rfl
   | cons a r =>
     have := (hm a).2 (by rw [hc]; simp)
     have := List.length_pos_of_mem this
     omega
 unfold sideE
 rw [this]; rfl
theorem ct95 (n : Int) : ∀ e : EX, fits e → size e ≤ 1000000000 → Ct prog gl 23 [.agg (cells e), .d (.v (.int .i64 n))] (gives [.d (.v (.int .i64 (sideE n e)))])
 | .mk op sub t v args, hf, hs => by
   have hC : CallsOk prog gl C_s95 := addC_ok C_0_ok c_178g_ok
   have hcc : encX op sub t v (cellsL args) = cells (.mk op sub t v args) := (cells_mk _ _ _ _ _).symm
   rw [cells_mk]
   refine ct_of_vc (E := E_9s) ⟨E_ok.te⟩ hC ioK_no (fun _ _ _ h => h.elim) mixed (fn := f23) (body := f23.body.getD .skip) (by kernel_rfl) (by kernel_rfl) (by kernel_rfl) (fi := fi23) (by kernel_rfl) (by kernel_rfl) ⟨_, _, rfl, rfl⟩ ?_
   rw [vc95]; dsimp -eta -iota -proj only [Zbx, Zbm, Z2, Zz, Ze9, Zeu, Zbt, Zb6, Zbv, Zds, Zez, Zey, Zf0]
   refine ⟨.mk op sub t v args, hcc, hf, hs, fun L h1 h2 h3 => ⟨_, rfl, fun h0 => ?_, fun h0 => ?_⟩⟩
   · have h0 : L.length = 0 := by
       rw [List.length_map] at h0
       simpa using h0
     rw [side_no h2 h0]; exact ⟨rfl, rfl⟩
   · have h0 : 0 < L.length := by
       rw [List.length_map] at h0
       have : ¬ (L.length : Int) = 0 := by simpa using h0
       omega
     have h1 : L.Pairwise (· ≤ ·) := h1.imp fun h => by omega
     have he := ends_get h0 (by omega)
     refine ⟨_, rfl, _, rfl, ?_, [D.v (.int .i64 L[L.length - 1])], ?_, rfl, L[L.length - 1], rfl, fun h4 => ?_, fun h4 => ⟨_, rfl, ⟨by omega, by rw [List.length_map]; omega⟩, _, ints_get h0, rfl, L[0], rfl, fun h5 => ?_, fun h5 => ?_⟩⟩
     · rw [List.length_map]; exact he.1
     · rw [List.length_map]; exact he.2
     · rw [side_eq h1 h2 h0, h4]; exact ⟨rfl, rfl⟩
     · rw [side_eq h1 h2 h0, h4, h5]; exact ⟨rfl, rfl⟩
     · rw [side_eq h1 h2 h0, h4, h5]; exact ⟨rfl, rfl⟩
def c_91 (a : List R) (K : KT) : Prop := match a with
 | [.agg x, .d (.v (.int .i64 lo)), .d (.v (.int .i64 hi))] => ∃ (e : EX) (N : Nat), x = cells e ∧ fits e ∧ N ≤ 17592186044416 ∧ (∀ y ∈ colsE e, 0 ≤ y ∧ y < N) ∧ K [.d (.v (.bool (withinE lo hi e)))] []
 | _ => False
theorem c_91_ok (a : List R) (K : KT) (h : c_91 a K) : Ct prog gl 18 a K := by
 unfold c_91 at h
 split at h
 · obtain ⟨e, N, rfl, h1, h2, h3, h4⟩ := h
   exact (ct91 N h2 _ _ e h1 h3).gives h4
 · exact h.elim
def c_95 (a : List R) (K : KT) : Prop := match a with
 | [.agg x, .d (.v (.int .i64 n))] => ∃ e : EX, x = cells e ∧ fits e ∧ size e ≤ 1000000000 ∧ K [.d (.v (.int .i64 (sideE n e)))] []
 | _ => False
theorem c_95_ok (a : List R) (K : KT) (h : c_95 a K) : Ct prog gl 23 a K := by
 unfold c_95 at h
 split at h
 · obtain ⟨e, rfl, h1, h2, h3⟩ := h
   exact (ct95 _ e h1 h2).gives h3
 · exact h.elim
end Go.Proofs.Tryz
namespace Go.Proofs.Tryz
open Go Go.Dm Go.Ex
set_option maxRecDepth 100000
mutual
theorem nodes_size : ∀ e : EX, size e ≤ 1000000000 → nodes e = (size e : Int)
 | .mk op sub t v args, h => by
   simp only [size] at h
   simp only [nodes, size]
   rw [nodesL_size args 1 (by omega) (by omega)]; omega
theorem nodesL_size : ∀ (l : List EX) (n : Int), 0 ≤ n → n + (sizeL l : Int) ≤ 1000000000 → nodesL n l = n + (sizeL l : Int)
 | [], n, _, _ => by simp [nodesL, sizeL]
 | e :: r, n, h0, h => by
   simp only [sizeL] at h
   simp only [nodesL, sizeL]
   rw [nodes_size e (by omega), wrap64_of (by omega) (by omega), nodesL_size r _ (by omega) (by omega)]
   omega
end
mutual
theorem deep_size : ∀ e : EX, size e ≤ 1000000000 → 0 ≤ deep e ∧ deep e ≤ (size e : Int)
 | .mk op sub t v args, h => by
   simp only [size] at h
   obtain ⟨a1, a2, a3⟩ := deepL_size args 0 (Int.le_refl _) (by omega)
   simp only [deep, size]
   have hm : deepL 0 args ≤ (sizeL args : Int) := by omega
   rw [wrap64_of (by omega) (by omega)]; omega
theorem deepL_size : ∀ (l : List EX) (n : Int), 0 ≤ n → sizeL l ≤ 1000000000 → n ≤ deepL n l ∧ (deepL n l ≤ n ∨ deepL n l ≤ (sizeL l : Int)) ∧ ∀ a ∈ l, deep a ≤ deepL n l
 | [], n, h0, _ => by simp [deepL]
 | e :: r, n, h0, h => by
   simp only [sizeL] at h
   simp only [deepL, sizeL]
   obtain ⟨d1, d2⟩ := deep_size e (by omega)
   by_cases hd : n < deep e
   · rw [if_pos hd]
     obtain ⟨a1, a2, a3⟩ := deepL_size r (deep e) (by omega) (by omega)
     refine ⟨by omega, by omega, fun a ha => ?_⟩
     rcases List.mem_cons.1 ha with rfl | ha
     · exact a1
     · exact a3 a ha
   · rw [if_neg hd]
     obtain ⟨a1, a2, a3⟩ := deepL_size r n h0 (by omega)
     refine ⟨a1, by omega, fun a ha => ?_⟩
     rcases List.mem_cons.1 ha with rfl | ha
     · omega
     · exact a3 a ha
end
theorem deep_arg {op sub : Int} {t : Ty} {v : Go.Ex.AV} {args : List EX} {a : EX} (h : size (.mk op sub t v args) ≤ 1000000000) (ha : a ∈ args) : deep a ≤ deep (.mk op sub t v args) := by
 simp only [size] at h
 obtain ⟨a1, a2, a3⟩ := deepL_size args 0 (Int.le_refl _) (by omega)
 have := a3 a ha
 simp only [deep]
 rw [wrap64_of (by omega) (by omega)]; omega
theorem check_iff {cols : List Ty} {e : EX} : (checkE cols e).2 = 0 ↔ cols.any badT = false ∧ nodes e ≤ 256 ∧ deep e ≤ 24 ∧ mayE cols.length e = true ∧ (typedE cols e).2 = true := by
 unfold checkE
 cases h1 : cols.any badT
 · by_cases h2 : nodes e > 256
   · simp [h2]; omega
   · by_cases h3 : deep e > 24
     · simp [h2, h3]; omega
     · cases h4 : mayE (cols.length : Int) e <;> cases h5 : (typedE cols e).2 <;> simp [h2, h3] <;> omega
 · simp
theorem typedL_of {cols : List Ty} : ∀ {l : List EX} {tl : List Ty}, typedL cols l = some tl → ∀ a ∈ l, (typedE cols a).2 = true
 | [], _, _, a, ha => by cases ha
 | e :: r, tl, h, a, ha => by
   simp only [typedL] at h
   rcases he : typedE cols e with ⟨t, b⟩
   rcases hr : typedL cols r with _ | l2
   · rw [he, hr] at h; cases b <;> simp at h
   · rw [he, hr] at h
     cases b
     · simp at h
     · rcases List.mem_cons.1 ha with rfl | ha
       · rw [he]
       · exact typedL_of hr a ha
theorem typed_args {cols : List Ty} {op sub : Int} {t : Ty} {v : Go.Ex.AV} {args : List EX} (h : (typedE cols (.mk op sub t v args)).2 = true) : ∃ tl, typedL cols args = some tl := by
 rcases hl : typedL cols args with _ | tl
 · rw [typedE_none hl] at h; cases h
 · exact ⟨tl, rfl⟩
theorem mayL_all2 {c : Int} : ∀ {l : List EX}, mayL c l = true → ∀ a ∈ l, mayE c a = true
 | [], _, a, ha => by cases ha
 | e :: r, h, a, ha => by
   simp only [mayL, Bool.and_eq_true] at h
   rcases List.mem_cons.1 ha with rfl | ha
   · exact h.1
   · exact mayL_all2 h.2 a ha
theorem check_arg {cols : List Ty} {op sub : Int} {t : Ty} {v : Go.Ex.AV} {args : List EX} {a : EX} (hs : size (.mk op sub t v args) ≤ 1000000000) (h : (checkE cols (.mk op sub t v args)).2 = 0) (ha : a ∈ args) : (checkE cols a).2 = 0 := by
 obtain ⟨h1, h2, h3, h4, h5⟩ := check_iff.1 h
 have hsm := size_mem ha
 have hd := deep_arg hs ha
 rw [nodes_size _ hs] at h2
 simp only [size] at hs h2
 obtain ⟨_, m2⟩ := may_mk2 h4
 obtain ⟨tl, htl⟩ := typed_args h5
 refine check_iff.2 ⟨h1, ?_, by omega, mayL_all2 m2 a ha, typedL_of htl a ha⟩
 rw [nodes_size a (by omega)]; omega
mutual
theorem may_cols {c : Int} : ∀ (e : EX), mayE c e = true → ∀ x ∈ colsE e, 0 ≤ x ∧ x < c
 | .mk op sub t v args, h, x, hx => by
   obtain ⟨m1, m2⟩ := may_mk2 h
   simp only [colsE, List.mem_append] at hx
   rcases hx with hx | hx
   · by_cases ho : op = 1
     · subst ho
       have := may_col m1
       simp only [if_true, List.mem_singleton] at hx
       subst hx
       exact this
     · rw [if_neg ho] at hx; cases hx
   · exact may_colsL args m2 x hx
theorem may_colsL {c : Int} : ∀ (l : List EX), mayL c l = true → ∀ x ∈ colsL l, 0 ≤ x ∧ x < c
 | [], _, x, hx => by simp [colsL] at hx
 | e :: r, h, x, hx => by
   simp only [mayL, Bool.and_eq_true] at h
   simp only [colsL, List.mem_append] at hx
   rcases hx with hx | hx
   · exact may_cols e h.1 x hx
   · exact may_colsL r h.2 x hx
end
structure PartOk (cols : List Ty) (e : EX) : Prop where
 fit : fits e
 size : Go.Ex.size e ≤ 1000000000
 chk : (checkE cols e).2 = 0
theorem PartOk.arg {cols : List Ty} {op sub : Int} {t : Ty} {v : Go.Ex.AV} {args : List EX} {a : EX} (h : PartOk cols (.mk op sub t v args)) (ha : a ∈ args) : PartOk cols a :=
 ⟨fitsL_mem (fits_mk h.fit).2.2 ha, by have := size_arg (op := op) (sub := sub) (ty := t) (v := v) ha; have := h.size; omega, check_arg h.size h.chk ha⟩
theorem PartOk.cols {cols : List Ty} {e : EX} (h : PartOk cols e) : ∀ x ∈ colsE e, 0 ≤ x ∧ x < (cols.length : Nat) := may_cols e (check_iff.1 h.chk).2.2.2.1
theorem PartOk.may {cols : List Ty} {e : EX} (h : PartOk cols e) : mayE (cols.length : Int) e = true := (check_iff.1 h.chk).2.2.2.1
theorem PartOk.good {cols : List Ty} {e : EX} (h : PartOk cols e) : goodT (checkE cols e).1 := by
 obtain ⟨h1, h2, h3, h4, h5⟩ := check_iff.1 h.chk
 have : (checkE cols e).1 = (typedE cols e).1 := by
   unfold checkE
   have c1 : decide (nodes e > 256) = false := decide_eq_false (by omega)
   have c2 : decide (deep e > 24) = false := decide_eq_false (by omega)
   rw [h1, c1, c2, h4, h5]; rfl
 rw [this]
 exact typedE_good (good_all h1) e h4 _ (by rw [← h5])
mutual
theorem parts_ok {cols : List Ty} : ∀ (e : EX), PartOk cols e → ∀ p ∈ partsE e, PartOk cols p
 | .mk op sub t v args, h, p, hp => by
   simp only [partsE] at hp
   split at hp
   · exact partsL_ok args (fun a ha => h.arg ha) p hp
   · rw [List.mem_singleton.1 hp]; exact h
theorem partsL_ok {cols : List Ty} : ∀ (l : List EX), (∀ a ∈ l, PartOk cols a) → ∀ p ∈ partsL l, PartOk cols p
 | [], _, p, hp => by simp [partsL] at hp
 | e :: r, h, p, hp => by
   simp only [partsL, List.mem_append] at hp
   rcases hp with hp | hp
   · exact parts_ok e (h e (by simp)) p hp
   · exact partsL_ok r (fun a ha => h a (by simp [ha])) p hp
end
theorem cmp_args {cols : List Ty} {sub : Int} {t : Ty} {v : Go.Ex.AV} {args : List EX} (h : PartOk cols (.mk 9 sub t v args)) : ∃ a b, args = [a, b] ∧ PartOk cols a ∧ PartOk cols b := by
 obtain ⟨m1, _⟩ := may_mk2 h.may
 have := may_two m1
 match args, this with
 | [a, b], _ => exact ⟨a, b, rfl, h.arg (by simp), h.arg (by simp)⟩
 | [], h => simp at h
 | [a], h => simp at h
 | a :: b :: c :: r, h => simp at h; omega
def emptyE : EX := .mk 0 0 ⟨0, 0⟩ ⟨⟨0, 0⟩, false, 0, { data := { toList := [] : Array UInt8 } : ByteArray }⟩ []
def shR (o : Option EX) : EX × Int := match o with
 | some e => (e, 0)
 | none => (emptyE, 140)
def restE (x : EX) : List EX → List EX
 | [] => [x]
 | y :: _ => [andE y x]
structure SP where
 a : List EX
 b : List EX
 rest : List EX
def toP (n x len : Nat) : List Int := (List.range len).map fun i => if n ≤ i ∧ i < x then ((i - n : Nat) : Int) else 0
def sidesE (n : Int) : EX → Option (EX × EX)
 | .mk 9 1 _ _ [x, y] => if sideE n x = 0 ∧ sideE n y = 1 then some (x, y) else if sideE n x = 1 ∧ sideE n y = 0 then some (y, x) else none
 | _ => none
def stepS (cols : List Ty) (n : Nat) (s : SP) (x : EX) : SP :=
 match sidesE n x with
 | none => { s with rest := restE x s.rest }
 | some (p, q) =>
   bif (cfold (checkE cols p).1 [(checkE cols q).1]).2 then
     ⟨s.a ++ [asE p (checkE cols p).1 (cfold (checkE cols p).1 [(checkE cols q).1]).1], s.b ++ [asE (shR (shiftE (toP n cols.length cols.length) q)).1 (checkE cols q).1 (cfold (checkE cols p).1 [(checkE cols q).1]).1], s.rest⟩
   else { s with rest := restE x s.rest }
def splitE (l r : List Ty) (e : EX) : SP :=
 bif (checkE (l ++ r) e).2 == 0 then (partsE e).foldl (stepS (l ++ r) l.length) ⟨[], [], []⟩ else ⟨[], [], [e]⟩
end Go.Proofs.Tryz
namespace Go.Proofs.Tryz
open Go Go.Dm Go.Ex
set_option maxRecDepth 100000
variable {gl : Nat → Option Obj}
theorem encO_shR (o : Option EX) : encO o = [.agg (cells (shR o).1), .d (.v (.int .i64 (shR o).2))] := by
 cases o with
 | none => simp only [encO, shR, emptyE, cells, cellsL]
 | some e => rfl
def c_25g (a : List R) (K : KT) : Prop := match a with
 | [.agg x, .d (.sl y)] => ∃ (e : EX) (to : List Int), x = cells e ∧ y = intsD to ∧ fits e ∧ to.length ≤ 17592186043904 ∧ ∀ (op sub : Int) (t : Ty) (v : Go.Ex.AV) (args : List EX) (f : Int), shR (shiftE to e) = (.mk op sub t v args, f) → K [.agg (encX op sub t v (cellsL args)), .d (.v (.int .i64 f))] []
 | _ => False
theorem c_25g_ok (a : List R) (K : KT) (h : c_25g a K) : Ct prog gl 20 a K := by
 unfold c_25g at h
 split at h
 · obtain ⟨e, to, rfl, rfl, h1, h2, h3⟩ := h
   refine (ct25 (size e + 1) e to (Nat.lt_succ_self _) h1 h2).gives ?_
   rw [encO_shR]
   rcases hx : shR (shiftE to e) with ⟨⟨op, sub, t, v, args⟩, f⟩
   rw [cells_mk]
   exact h3 op sub t v args f hx
 · exact h.elim
theorem c_26g_ok (a : List R) (K : KT) (h : c_25g a K) : Ct prog gl 25 a K := by
 unfold c_25g at h
 split at h
 · obtain ⟨e, to, rfl, rfl, h1, h2, h3⟩ := h
   refine (ct26 (size e + 1) e to (Nat.lt_succ_self _) h1 h2).gives ?_
   rw [encO_shR]
   rcases hx : shR (shiftE to e) with ⟨⟨op, sub, t, v, args⟩, f⟩
   rw [cells_mk]
   exact h3 op sub t v args f hx
 · exact h.elim
def c_89t (a : List R) (K : KT) : Prop := match a with
 | [.d (.sl x)] => ∃ l r : List Ty, x = [[.sl (l.map Ty.cs)], [.sl (r.map Ty.cs)]] ∧ l.length + r.length ≤ 8796093022208 ∧ K [.lst 23 2 ((l ++ r).map Ty.cs)] []
 | _ => False
theorem c_89t_ok (a : List R) (K : KT) (h : c_89t a K) : Ct prog gl 15 a K := by
 unfold c_89t at h
 split at h
 · obtain ⟨l, r, rfl, h1, h2⟩ := h
   refine c_89_ok _ _ ⟨[l.map Ty.cs, r.map Ty.cs], rfl, ?_, ?_, ?_⟩
   · unfold okTot tot
     simp only [List.map_cons, List.map_nil, List.sum_cons, List.sum_nil, List.length_map, List.length_cons, List.length_nil]
     omega
   · intro k hk c hc
     have : ∃ t : Ty, c = t.cs := by
       rcases List.mem_cons.1 hk with rfl | hk
       · obtain ⟨t, _, rfl⟩ := List.mem_map.1 hc; exact ⟨t, rfl⟩
       · rcases List.mem_cons.1 hk with rfl | hk
         · obtain ⟨t, _, rfl⟩ := List.mem_map.1 hc; exact ⟨t, rfl⟩
         · cases hk
     obtain ⟨t, rfl⟩ := this
     rfl
   · simpa using h2
 · exact h.elim
def C_s42 : CallT := addC (addC (addC (addC (addC (addC (addC C_0 15 c_89t) 16 c_15) 17 c_90g) 18 c_91) 19 c_92) 20 c_25g) 21 c_93
def st_42a (op sub : Int) (t : Ty) (v : Go.Ex.AV) (args : List EX) (l r : List Ty) (x : Nat) : St := { tm := [(3, .ref 3 0), (6, .nil), (7, .nil), (8, .nil), (9, .d (.sl ((l ++ r).map Ty.cs))), (10, .d (.v (.int .i64 ((l.map Ty.cs).length : Int)))), (13, .own 46), (14, .d (.v (.int .i64 (x : Int))))], hp := [(3, .box [.d (.v (.int .i64 op)), .d (.v (.int .i64 sub)), .d (.v (.int .i64 t.k)), .d (.v (.int .i64 t.sc)), .d (.v (.int .i64 v.t.k)), .d (.v (.int .i64 v.t.sc)), .d (.v (.bool v.nul)), .d (.v (.int .i64 v.n)), .d (.v (.string v.s)), .d (.sl (cellsL args))]), (46, .lst 3 1 (intsD (toP l.length x (l ++ r).length)))], kn := [], gd := [] }
def inv_42a (l r : List Ty) (m : Nat) (x : Nat) : Prop := l.length ≤ x ∧ x ≤ l.length + r.length ∧ m = l.length + r.length - x
structure SX42 where
 i : Nat
 a : List EX
 b : List EX
 rest : List EX
def st_42b (op sub : Int) (t : Ty) (v : Go.Ex.AV) (args : List EX) (l r : List Ty) (x : SX42) : St := { tm := [(6, .nil), (7, .nil), (8, .nil), (9, .d (.sl ((l ++ r).map Ty.cs))), (10, .d (.v (.int .i64 ((l.map Ty.cs).length : Int)))), (13, .d (.sl (intsD (toP l.length (l ++ r).length (l ++ r).length)))), (15, .own 50015), (16, .own 50016), (17, .d (.sl (cellsL x.rest))), (61, .d (.sl (cellsL (partsE (.mk op sub t v args))))), (62, .d (.v (.int .i64 ((cellsL (partsE (.mk op sub t v args))).length : Int)))), (63, .d (.v (.int .i64 (x.i : Int))))], hp := [(50015, .lst 28 10 (cellsL x.a)), (50016, .lst 28 10 (cellsL x.b))], kn := [], gd := [] }
def inv_42b (cols : List Ty) (n : Nat) (ps : List EX) (m : Nat) (x : SX42) : Prop := x.i ≤ ps.length ∧ m = ps.length - x.i ∧ (⟨x.a, x.b, x.rest⟩ : SP) = (ps.take x.i).foldl (stepS cols n) ⟨[], [], []⟩ ∧ x.a.length ≤ x.i ∧ x.b.length ≤ x.i
def fx_42 (op sub : Int) (t : Ty) (v : Go.Ex.AV) (args : List EX) (l r : List Ty) : Fi := { fi5 with lp := [(8, ([3, 6, 7, 8, 9, 10, 13, 14], [11, 30])), (13, ([6, 7, 8, 9, 10, 13, 15, 16, 17, 61, 62, 63], [3, 19, 20, 21, 22, 24, 26, 85, 91, 97, 103, 104, 111, 118, 123, 130, 131, 132, 137, 138, 139, 147]))], cv := [(8, [⟨none, 0, 31, 0, 0⟩]), (13, [⟨none, 0, 46, 0, 0⟩, ⟨none, 0, 61, 0, 0⟩, ⟨none, 15, 50015, 28, 10⟩, ⟨none, 16, 50016, 28, 10⟩, ⟨none, 17, 50017, 28, 10⟩, ⟨none, 0, 50017, 0, 0⟩, ⟨none, 0, 150, 0, 0⟩])], lx := [(8, { X := Nat, sh := st_42a op sub t v args l r, P := fun _ => inv_42a l r }), (13, { X := SX42, sh := st_42b op sub t v args l r, P := fun _ => inv_42b (l ++ r) l.length (partsE (.mk op sub t v args)) })] }
def Zfj (a0 a1 a2 : List Ty) (a3 : EX) (k : Ty → Int → Prop) : Prop := List.map Ty.cs (a0 ++ a1) = List.map Ty.cs a2 ∧ Zef a3 a2 fun t_1 f => k t_1 f
def Zfl (a0 a1 : Int) (a2 : Ty) (a3 : Go.Ex.AV) (a4 : List EX) : List R := [.d (.sl []), .d (.sl []), .d (.sl [(Zz a0 a1 a2 a3 a4)])]
def Zc2 (a0 a1 : List Ty) (a2 : Nat) (a3 a4 : Int) (a5 : Ty) (a6 : Go.Ex.AV) (a7 : List EX) : St := { tm := [(3, .ref 3 0), (6, .nil), (7, .nil), (8, .nil), (9, .d (.sl (List.map Ty.cs (a0 ++ a1)))), (10, .i (↑(List.map Ty.cs a0).length : Int)), (13, .own 46), (14, .i (↑a2 : Int))], hp := [(3, .box [.i a3, .i a4, .i a5.1, .i a5.2, .i a6.1.1, .i a6.1.2, .d (.v (.bool a6.2)), .i a6.3, .d (.v (.string a6.4)), .d (.sl (cellsL a7))]), (46, .lst 3 1 (intsD (toP a0.length a2 (a0 ++ a1).length)))], kn := [], gd := [] : St }
def Zfg (a0 : Nat) (a1 : List (List D)) (a2 a3 : Int) (a4 : Ty) (a5 : Go.Ex.AV) (a6 : List EX) (k : EX → SX42 → Prop) : Prop := Zdp a0 a1 (∃ (e : EX), ∃ (c : Int), Zbm a2 a3 a4 a5 a6 e (mayE c e = true ∧ size e ≤ (1000000000 : Nat) ∧ ∃ (x0 : SX42), k e x0))
def Zbs (a0 a1 : List Ty) (a2 : SX42) (a3 a4 : Int) (a5 : Ty) (a6 : Go.Ex.AV) (a7 : List EX) : St := { tm := [(6, .nil), (7, .nil), (8, .nil), (9, .d (.sl (List.map Ty.cs (a0 ++ a1)))), (10, .i (↑(List.map Ty.cs a0).length : Int)), (13, .d (.sl (intsD (toP a0.length (a0 ++ a1).length (a0 ++ a1).length)))), (15, .own 50015), (16, .own 50016), (17, .d (.sl (cellsL a2.4))), (61, .d (.sl (cellsL (partsE (EX.mk a3 a4 a5 a6 a7))))), (62, .i (↑(cellsL (partsE (EX.mk a3 a4 a5 a6 a7))).length : Int)), (63, .i (↑a2.1 : Int))], hp := [(50015, .lst 28 10 (cellsL a2.2)), (50016, .lst 28 10 (cellsL a2.3))], kn := [], gd := [] : St }
def Zfz (a0 a1 : List Ty) (a2 a3 : Int) (a4 : Ty) (a5 : Go.Ex.AV) (a6 : List EX) (a7 : Nat) (a8 : SX42) : Prop := inv_42b (a0 ++ a1) a0.length (partsE (EX.mk a2 a3 a4 a5 a6)) a7 a8
def Zdx (a0 a1 : Int) (a2 : Ty) (a3 : Go.Ex.AV) (a4 : List EX) (a5 : SX42) (k : Int → Int → Int → Int → Int → Int → Bool → Int → ByteArray → (List (List D)) → Prop) : Prop := Zbt fun es => D.sl (cellsL (partsE (EX.mk a0 a1 a2 a3 a4))) = D.sl es ∧ (0 ≤ (↑a5.1 : Int) ∧ (↑a5.1 : Int) < (↑es.length : Int)) ∧ ∃ (cells : List D), es[(↑a5.1 : Int).toNat]? = some cells ∧ Zk cells fun n_1 n_2 n_3 n_4 n_5 n_6 b n_7 b_1 es => k n_1 n_2 n_3 n_4 n_5 n_6 b n_7 b_1 es
def Zy (a0 : List (List D)) (a1 : Int) (k : Int → Int → Int → Int → Int → Int → Bool → Int → ByteArray → (List (List D)) → Prop) : Prop := Zbt fun es_1 => D.sl a0 = D.sl es_1 ∧ Zu a1 es_1 fun n_8 n_9 n_10 n_11 n_12 n_13 b_2 n_14 b_3 es_2 => k n_8 n_9 n_10 n_11 n_12 n_13 b_2 n_14 b_3 es_2
def Z9 (a0 : List (List D)) (a1 a2 : Int) (k : Int → Int → Int → Int → Int → Int → Bool → Int → ByteArray → (List (List D)) → Int → Int → Int → Int → Int → Int → Bool → Int → ByteArray → (List (List D)) → Prop) : Prop := Zy a0 a1 fun n_8 n_9 n_10 n_11 n_12 n_13 b_2 n_14 b_3 es_2 => Zy a0 a2 fun n_15 n_16 n_17 n_18 n_19 n_20 b_4 n_21 b_5 es_4 => k n_8 n_9 n_10 n_11 n_12 n_13 b_2 n_14 b_3 es_2 n_15 n_16 n_17 n_18 n_19 n_20 b_4 n_21 b_5 es_4
def Ze5 (a0 a1 a2 a3 a4 a5 : Int) (a6 : Bool) (a7 : Int) (a8 : ByteArray) (a9 : List (List D)) (a10 : EX) (k : Prop) : Prop := Z4 a0 a1 a2 a3 a4 a5 a6 a7 a8 a9 a10 (fits a10 ∧ k)
def Zb (a0 a1 a2 a3 a4 a5 : Int) (a6 : Bool) (a7 : Int) (a8 : ByteArray) (a9 : List (List D)) (a10 a11 : List Ty) (a12 a13 a14 a15 a16 a17 : Int) (a18 : Bool) (a19 : Int) (a20 : ByteArray) (a21 : List (List D)) (a22 : SX42) (a23 : Nat) (a24 a25 : Int) (a26 : Ty) (a27 : Go.Ex.AV) (a28 : List EX) (a29 a30 a31 a32 a33 a34 : Int) (a35 : Bool) (a36 : Int) (a37 : ByteArray) (a38 : List (List D)) : Prop := ∃ (e : EX), ∃ (cols : List Ty), [D.i a0, D.i a1, D.i a2, D.i a3, D.i a4, D.i a5, D.v (.bool a6), D.i a7, D.v (.string a8), D.sl a9] = Ex.cells e ∧ List.map Ty.cs (a10 ++ a11) = List.map Ty.cs cols ∧ fits e ∧ cols.length ≤ 8796093022208 ∧ ∀ (t_2 : Ty) (f : Int), checkE cols e = (t_2, f) → ∃ (e : EX), ∃ (cols : List Ty), [D.i a12, D.i a13, D.i a14, D.i a15, D.i a16, D.i a17, D.v (.bool a18), D.i a19, D.v (.string a20), D.sl a21] = Ex.cells e ∧ List.map Ty.cs (a10 ++ a11) = List.map Ty.cs cols ∧ fits e ∧ cols.length ≤ 8796093022208 ∧ ∀ (t_3 : Ty) (f : Int), checkE cols e = (t_3, f) → ∃ (s t_4 : Ty), [[D.i t_2.1, D.i t_2.2], [D.i t_3.1, D.i t_3.2]] = [s.cs, t_4.cs] ∧ goodT s ∧ goodT t_4 ∧ ∀ (u : Ty) (ok : Bool), ok = (cfold s [t_4]).2 → (ok = true → u = (cfold s [t_4]).1) → (ok = true → ∃ (e : EX), ∃ (N : Nat), [D.i a0, D.i a1, D.i a2, D.i a3, D.i a4, D.i a5, D.v (.bool a6), D.i a7, D.v (.string a8), D.sl a9] = Ex.cells e ∧ fits e ∧ N ≤ (17592186044416 : Nat) ∧ (∀ (y : Int), y ∈ colsE e → 0 ≤ y ∧ y < (↑N : Int)) ∧ (withinE (0 : Int) (↑(List.map Ty.cs a10).length : Int) e = true → ∃ (es_5 : List (List D)), D.sl (List.map Ty.cs (a10 ++ a11)) = D.sl es_5 ∧ ∃ (e : EX), ∃ (N : Nat), [D.i a12, D.i a13, D.i a14, D.i a15, D.i a16, D.i a17, D.v (.bool a18), D.i a19, D.v (.string a20), D.sl a21] = Ex.cells e ∧ fits e ∧ N ≤ (17592186044416 : Nat) ∧ (∀ (y : Int), y ∈ colsE e → 0 ≤ y ∧ y < (↑N : Int)) ∧ (withinE (↑(List.map Ty.cs a10).length : Int) (↑es_5.length : Int) e = true → ∃ (e : EX), ∃ (to : List Int), [D.i a12, D.i a13, D.i a14, D.i a15, D.i a16, D.i a17, D.v (.bool a18), D.i a19, D.v (.string a20), D.sl a21] = Ex.cells e ∧ intsD (toP a10.length (a10 ++ a11).length (a10 ++ a11).length) = intsD to ∧ fits e ∧ to.length ≤ 17592186043904 ∧ ∀ (op_1 sub_1 : Int) (t_5 : Ty) (v_1 : AV) (args_1 : List EX) (f : Int), shR (shiftE to e) = (EX.mk op_1 sub_1 t_5 v_1 args_1, f) → ∃ (e : EX), ∃ (a b : Ty), [D.i a0, D.i a1, D.i a2, D.i a3, D.i a4, D.i a5, D.v (.bool a6), D.i a7, D.v (.string a8), D.sl a9] = Ex.cells e ∧ [D.i t_2.1, D.i t_2.2] = a.cs ∧ [D.i u.1, D.i u.2] = b.cs ∧ ∀ (op_2 sub_2 : Int) (t_6 : Ty) (v_2 : AV) (l_2 : List EX), asE e a b = EX.mk op_2 sub_2 t_6 v_2 l_2 → (∀ (c : List D), c ∈ [[D.i op_2, D.i sub_2, D.i t_6.1, D.i t_6.2, D.i v_2.1.1, D.i v_2.1.2, D.v (.bool v_2.2), D.i v_2.3, D.v (.string v_2.4), D.sl (cellsL l_2)]] → c.length = 10) ∧ (28 : Nat) = (28 : Nat) ∧ (10 : Nat) = (10 : Nat) ∧ (↑(cellsL a22.2).length.succ : Int) * (↑(104 : Nat) : Int) ≤ 140737488355328 ∧ ∃ (e : EX), ∃ (a b : Ty), [D.i op_1, D.i sub_1, D.i t_5.1, D.i t_5.2, D.i v_1.1.1, D.i v_1.1.2, D.v (.bool v_1.2), D.i v_1.3, D.v (.string v_1.4), D.sl (cellsL args_1)] = Ex.cells e ∧ [D.i t_3.1, D.i t_3.2] = a.cs ∧ [D.i u.1, D.i u.2] = b.cs ∧ ∀ (op_3 sub_3 : Int) (t_7 : Ty) (v_3 : AV) (l_3 : List EX), asE e a b = EX.mk op_3 sub_3 t_7 v_3 l_3 → (∀ (c : List D), c ∈ [[D.i op_3, D.i sub_3, D.i t_7.1, D.i t_7.2, D.i v_3.1.1, D.i v_3.1.2, D.v (.bool v_3.2), D.i v_3.3, D.v (.string v_3.4), D.sl (cellsL l_3)]] → c.length = 10) ∧ (28 : Nat) = (28 : Nat) ∧ (10 : Nat) = (10 : Nat) ∧ (↑(cellsL a22.3).length.succ : Int) * (↑(104 : Nat) : Int) ≤ 140737488355328 ∧ ∃ (m : Nat), ∃ (x' : SX42), m < a23 ∧ { tm := [(6, .nil), (7, .nil), (8, .nil), (9, .d (.sl (List.map Ty.cs (a10 ++ a11)))), (10, .i (↑(List.map Ty.cs a10).length : Int)), (13, .d (.sl (intsD (toP a10.length (a10 ++ a11).length (a10 ++ a11).length)))), (15, .own 50015), (16, .own 50016), (17, .d (.sl (cellsL a22.4))), (61, .d (.sl (cellsL (partsE (EX.mk a24 a25 a26 a27 a28))))), (62, .i (↑(cellsL (partsE (EX.mk a24 a25 a26 a27 a28))).length : Int)), (63, .i (IntKind.i64.wrap ((↑a22.1 : Int) + 1)))], hp := [(50015, .lst 28 10 (cellsL a22.2 ++ [[.i op_2, .i sub_2, .i t_6.1, .i t_6.2, .i v_2.1.1, .i v_2.1.2, .v (.bool v_2.2), .i v_2.3, .v (.string v_2.4), .sl (cellsL l_2)]])), (50016, .lst 28 10 (cellsL a22.3 ++ [[.i op_3, .i sub_3, .i t_7.1, .i t_7.2, .i v_3.1.1, .i v_3.1.2, .v (.bool v_3.2), .i v_3.3, .v (.string v_3.4), .sl (cellsL l_3)]]))], kn := [], gd := [] : St } = { tm := [(6, .nil), (7, .nil), (8, .nil), (9, .d (.sl (List.map Ty.cs (a10 ++ a11)))), (10, .i (↑(List.map Ty.cs a10).length : Int)), (13, .d (.sl (intsD (toP a10.length (a10 ++ a11).length (a10 ++ a11).length)))), (15, .own 50015), (16, .own 50016), (17, .d (.sl (cellsL x'.4))), (61, .d (.sl (cellsL (partsE (EX.mk a24 a25 a26 a27 a28))))), (62, .i (↑(cellsL (partsE (EX.mk a24 a25 a26 a27 a28))).length : Int)), (63, .i (↑x'.1 : Int))], hp := [(50015, .lst 28 10 (cellsL x'.2)), (50016, .lst 28 10 (cellsL x'.3))], kn := [], gd := [] : St } ∧ inv_42b (a10 ++ a11) a10.length (partsE (EX.mk a24 a25 a26 a27 a28)) m x') ∧ (withinE (↑(List.map Ty.cs a10).length : Int) (↑es_5.length : Int) e = false → ∃ (es_6 : List (List D)), D.sl (cellsL a22.4) = D.sl es_6 ∧ (decide ((↑es_6.length : Int) > 0) = true → ∃ (es_7 : List (List D)), D.sl (cellsL a22.4) = D.sl es_7 ∧ ((0 : Int) ≤ 0 ∧ 0 < (↑es_7.length : Int)) ∧ ∃ (cells : List D), es_7[Int.toNat (0 : Int)]? = some cells ∧ cells.length = 10 ∧ ∃ (n_22 n_23 n_24 n_25 n_26 n_27 : Int), ∃ (b_6 : Bool), ∃ (n_28 : Int), ∃ (b_7 : ByteArray), ∃ (es_8 : List (List D)), cut 0 10 cells = some [D.i n_22, D.i n_23, D.i n_24, D.i n_25, D.i n_26, D.i n_27, D.v (.bool b_6), D.i n_28, D.v (.string b_7), D.sl es_8] ∧ ∃ (m : Nat), ∃ (x' : SX42), m < a23 ∧ { tm := [(6, .nil), (7, .nil), (8, .nil), (9, .d (.sl (List.map Ty.cs (a10 ++ a11)))), (10, .i (↑(List.map Ty.cs a10).length : Int)), (13, .d (.sl (intsD (toP a10.length (a10 ++ a11).length (a10 ++ a11).length)))), (15, .own 50015), (16, .own 50016), (17, .d (.sl [[.i 10, .i 0, .i 0, .i 0, .i 0, .i 0, .v (.bool false), .i 0, .v (.string ⟨⟨[]⟩⟩), .sl [[.i n_22, .i n_23, .i n_24, .i n_25, .i n_26, .i n_27, .v (.bool b_6), .i n_28, .v (.string b_7), .sl es_8], [.i a29, .i a30, .i a31, .i a32, .i a33, .i a34, .v (.bool a35), .i a36, .v (.string a37), .sl a38]]]])), (61, .d (.sl (cellsL (partsE (EX.mk a24 a25 a26 a27 a28))))), (62, .i (↑(cellsL (partsE (EX.mk a24 a25 a26 a27 a28))).length : Int)), (63, .i (IntKind.i64.wrap ((↑a22.1 : Int) + 1)))], hp := [(50015, .lst 28 10 (cellsL a22.2)), (50016, .lst 28 10 (cellsL a22.3))], kn := [], gd := [] : St } = { tm := [(6, .nil), (7, .nil), (8, .nil), (9, .d (.sl (List.map Ty.cs (a10 ++ a11)))), (10, .i (↑(List.map Ty.cs a10).length : Int)), (13, .d (.sl (intsD (toP a10.length (a10 ++ a11).length (a10 ++ a11).length)))), (15, .own 50015), (16, .own 50016), (17, .d (.sl (cellsL x'.4))), (61, .d (.sl (cellsL (partsE (EX.mk a24 a25 a26 a27 a28))))), (62, .i (↑(cellsL (partsE (EX.mk a24 a25 a26 a27 a28))).length : Int)), (63, .i (↑x'.1 : Int))], hp := [(50015, .lst 28 10 (cellsL x'.2)), (50016, .lst 28 10 (cellsL x'.3))], kn := [], gd := [] : St } ∧ inv_42b (a10 ++ a11) a10.length (partsE (EX.mk a24 a25 a26 a27 a28)) m x') ∧ (decide ((↑es_6.length : Int) > 0) = false → ∃ (m : Nat), ∃ (x' : SX42), m < a23 ∧ { tm := [(6, .nil), (7, .nil), (8, .nil), (9, .d (.sl (List.map Ty.cs (a10 ++ a11)))), (10, .i (↑(List.map Ty.cs a10).length : Int)), (13, .d (.sl (intsD (toP a10.length (a10 ++ a11).length (a10 ++ a11).length)))), (15, .own 50015), (16, .own 50016), (17, .d (.sl [[.i a29, .i a30, .i a31, .i a32, .i a33, .i a34, .v (.bool a35), .i a36, .v (.string a37), .sl a38]])), (61, .d (.sl (cellsL (partsE (EX.mk a24 a25 a26 a27 a28))))), (62, .i (↑(cellsL (partsE (EX.mk a24 a25 a26 a27 a28))).length : Int)), (63, .i (IntKind.i64.wrap ((↑a22.1 : Int) + 1)))], hp := [(50015, .lst 28 10 (cellsL a22.2)), (50016, .lst 28 10 (cellsL a22.3))], kn := [], gd := [] : St } = { tm := [(6, .nil), (7, .nil), (8, .nil), (9, .d (.sl (List.map Ty.cs (a10 ++ a11)))), (10, .i (↑(List.map Ty.cs a10).length : Int)), (13, .d (.sl (intsD (toP a10.length (a10 ++ a11).length (a10 ++ a11).length)))), (15, .own 50015), (16, .own 50016), (17, .d (.sl (cellsL x'.4))), (61, .d (.sl (cellsL (partsE (EX.mk a24 a25 a26 a27 a28))))), (62, .i (↑(cellsL (partsE (EX.mk a24 a25 a26 a27 a28))).length : Int)), (63, .i (↑x'.1 : Int))], hp := [(50015, .lst 28 10 (cellsL x'.2)), (50016, .lst 28 10 (cellsL x'.3))], kn := [], gd := [] : St } ∧ inv_42b (a10 ++ a11) a10.length (partsE (EX.mk a24 a25 a26 a27 a28)) m x'))) ∧ (withinE (0 : Int) (↑(List.map Ty.cs a10).length : Int) e = !true → (false = true → ∃ (e : EX), ∃ (to : List Int), [D.i a12, D.i a13, D.i a14, D.i a15, D.i a16, D.i a17, D.v (.bool a18), D.i a19, D.v (.string a20), D.sl a21] = Ex.cells e ∧ intsD (toP a10.length (a10 ++ a11).length (a10 ++ a11).length) = intsD to ∧ fits e ∧ to.length ≤ 17592186043904 ∧ ∀ (op_1 sub_1 : Int) (t_5 : Ty) (v_1 : AV) (args_1 : List EX) (f : Int), shR (shiftE to e) = (EX.mk op_1 sub_1 t_5 v_1 args_1, f) → ∃ (e : EX), ∃ (a b : Ty), [D.i a0, D.i a1, D.i a2, D.i a3, D.i a4, D.i a5, D.v (.bool a6), D.i a7, D.v (.string a8), D.sl a9] = Ex.cells e ∧ [D.i t_2.1, D.i t_2.2] = a.cs ∧ [D.i u.1, D.i u.2] = b.cs ∧ ∀ (op_2 sub_2 : Int) (t_6 : Ty) (v_2 : AV) (l_2 : List EX), asE e a b = EX.mk op_2 sub_2 t_6 v_2 l_2 → (∀ (c : List D), c ∈ [[D.i op_2, D.i sub_2, D.i t_6.1, D.i t_6.2, D.i v_2.1.1, D.i v_2.1.2, D.v (.bool v_2.2), D.i v_2.3, D.v (.string v_2.4), D.sl (cellsL l_2)]] → c.length = 10) ∧ (28 : Nat) = (28 : Nat) ∧ (10 : Nat) = (10 : Nat) ∧ (↑(cellsL a22.2).length.succ : Int) * (↑(104 : Nat) : Int) ≤ 140737488355328 ∧ ∃ (e : EX), ∃ (a b : Ty), [D.i op_1, D.i sub_1, D.i t_5.1, D.i t_5.2, D.i v_1.1.1, D.i v_1.1.2, D.v (.bool v_1.2), D.i v_1.3, D.v (.string v_1.4), D.sl (cellsL args_1)] = Ex.cells e ∧ [D.i t_3.1, D.i t_3.2] = a.cs ∧ [D.i u.1, D.i u.2] = b.cs ∧ ∀ (op_3 sub_3 : Int) (t_7 : Ty) (v_3 : AV) (l_3 : List EX), asE e a b = EX.mk op_3 sub_3 t_7 v_3 l_3 → (∀ (c : List D), c ∈ [[D.i op_3, D.i sub_3, D.i t_7.1, D.i t_7.2, D.i v_3.1.1, D.i v_3.1.2, D.v (.bool v_3.2), D.i v_3.3, D.v (.string v_3.4), D.sl (cellsL l_3)]] → c.length = 10) ∧ (28 : Nat) = (28 : Nat) ∧ (10 : Nat) = (10 : Nat) ∧ (↑(cellsL a22.3).length.succ : Int) * (↑(104 : Nat) : Int) ≤ 140737488355328 ∧ ∃ (m : Nat), ∃ (x' : SX42), m < a23 ∧ { tm := [(6, .nil), (7, .nil), (8, .nil), (9, .d (.sl (List.map Ty.cs (a10 ++ a11)))), (10, .i (↑(List.map Ty.cs a10).length : Int)), (13, .d (.sl (intsD (toP a10.length (a10 ++ a11).length (a10 ++ a11).length)))), (15, .own 50015), (16, .own 50016), (17, .d (.sl (cellsL a22.4))), (61, .d (.sl (cellsL (partsE (EX.mk a24 a25 a26 a27 a28))))), (62, .i (↑(cellsL (partsE (EX.mk a24 a25 a26 a27 a28))).length : Int)), (63, .i (IntKind.i64.wrap ((↑a22.1 : Int) + 1)))], hp := [(50015, .lst 28 10 (cellsL a22.2 ++ [[.i op_2, .i sub_2, .i t_6.1, .i t_6.2, .i v_2.1.1, .i v_2.1.2, .v (.bool v_2.2), .i v_2.3, .v (.string v_2.4), .sl (cellsL l_2)]])), (50016, .lst 28 10 (cellsL a22.3 ++ [[.i op_3, .i sub_3, .i t_7.1, .i t_7.2, .i v_3.1.1, .i v_3.1.2, .v (.bool v_3.2), .i v_3.3, .v (.string v_3.4), .sl (cellsL l_3)]]))], kn := [], gd := [] : St } = { tm := [(6, .nil), (7, .nil), (8, .nil), (9, .d (.sl (List.map Ty.cs (a10 ++ a11)))), (10, .i (↑(List.map Ty.cs a10).length : Int)), (13, .d (.sl (intsD (toP a10.length (a10 ++ a11).length (a10 ++ a11).length)))), (15, .own 50015), (16, .own 50016), (17, .d (.sl (cellsL x'.4))), (61, .d (.sl (cellsL (partsE (EX.mk a24 a25 a26 a27 a28))))), (62, .i (↑(cellsL (partsE (EX.mk a24 a25 a26 a27 a28))).length : Int)), (63, .i (↑x'.1 : Int))], hp := [(50015, .lst 28 10 (cellsL x'.2)), (50016, .lst 28 10 (cellsL x'.3))], kn := [], gd := [] : St } ∧ inv_42b (a10 ++ a11) a10.length (partsE (EX.mk a24 a25 a26 a27 a28)) m x') ∧ (false = false → ∃ (es_5 : List (List D)), D.sl (cellsL a22.4) = D.sl es_5 ∧ (decide ((↑es_5.length : Int) > 0) = true → ∃ (es_6 : List (List D)), D.sl (cellsL a22.4) = D.sl es_6 ∧ ((0 : Int) ≤ 0 ∧ 0 < (↑es_6.length : Int)) ∧ ∃ (cells : List D), es_6[Int.toNat (0 : Int)]? = some cells ∧ cells.length = 10 ∧ ∃ (n_22 n_23 n_24 n_25 n_26 n_27 : Int), ∃ (b_6 : Bool), ∃ (n_28 : Int), ∃ (b_7 : ByteArray), ∃ (es_7 : List (List D)), cut 0 10 cells = some [D.i n_22, D.i n_23, D.i n_24, D.i n_25, D.i n_26, D.i n_27, D.v (.bool b_6), D.i n_28, D.v (.string b_7), D.sl es_7] ∧ ∃ (m : Nat), ∃ (x' : SX42), m < a23 ∧ { tm := [(6, .nil), (7, .nil), (8, .nil), (9, .d (.sl (List.map Ty.cs (a10 ++ a11)))), (10, .i (↑(List.map Ty.cs a10).length : Int)), (13, .d (.sl (intsD (toP a10.length (a10 ++ a11).length (a10 ++ a11).length)))), (15, .own 50015), (16, .own 50016), (17, .d (.sl [[.i 10, .i 0, .i 0, .i 0, .i 0, .i 0, .v (.bool false), .i 0, .v (.string ⟨⟨[]⟩⟩), .sl [[.i n_22, .i n_23, .i n_24, .i n_25, .i n_26, .i n_27, .v (.bool b_6), .i n_28, .v (.string b_7), .sl es_7], [.i a29, .i a30, .i a31, .i a32, .i a33, .i a34, .v (.bool a35), .i a36, .v (.string a37), .sl a38]]]])), (61, .d (.sl (cellsL (partsE (EX.mk a24 a25 a26 a27 a28))))), (62, .i (↑(cellsL (partsE (EX.mk a24 a25 a26 a27 a28))).length : Int)), (63, .i (IntKind.i64.wrap ((↑a22.1 : Int) + 1)))], hp := [(50015, .lst 28 10 (cellsL a22.2)), (50016, .lst 28 10 (cellsL a22.3))], kn := [], gd := [] : St } = { tm := [(6, .nil), (7, .nil), (8, .nil), (9, .d (.sl (List.map Ty.cs (a10 ++ a11)))), (10, .i (↑(List.map Ty.cs a10).length : Int)), (13, .d (.sl (intsD (toP a10.length (a10 ++ a11).length (a10 ++ a11).length)))), (15, .own 50015), (16, .own 50016), (17, .d (.sl (cellsL x'.4))), (61, .d (.sl (cellsL (partsE (EX.mk a24 a25 a26 a27 a28))))), (62, .i (↑(cellsL (partsE (EX.mk a24 a25 a26 a27 a28))).length : Int)), (63, .i (↑x'.1 : Int))], hp := [(50015, .lst 28 10 (cellsL x'.2)), (50016, .lst 28 10 (cellsL x'.3))], kn := [], gd := [] : St } ∧ inv_42b (a10 ++ a11) a10.length (partsE (EX.mk a24 a25 a26 a27 a28)) m x') ∧ (decide ((↑es_5.length : Int) > 0) = false → ∃ (m : Nat), ∃ (x' : SX42), m < a23 ∧ { tm := [(6, .nil), (7, .nil), (8, .nil), (9, .d (.sl (List.map Ty.cs (a10 ++ a11)))), (10, .i (↑(List.map Ty.cs a10).length : Int)), (13, .d (.sl (intsD (toP a10.length (a10 ++ a11).length (a10 ++ a11).length)))), (15, .own 50015), (16, .own 50016), (17, .d (.sl [[.i a29, .i a30, .i a31, .i a32, .i a33, .i a34, .v (.bool a35), .i a36, .v (.string a37), .sl a38]])), (61, .d (.sl (cellsL (partsE (EX.mk a24 a25 a26 a27 a28))))), (62, .i (↑(cellsL (partsE (EX.mk a24 a25 a26 a27 a28))).length : Int)), (63, .i (IntKind.i64.wrap ((↑a22.1 : Int) + 1)))], hp := [(50015, .lst 28 10 (cellsL a22.2)), (50016, .lst 28 10 (cellsL a22.3))], kn := [], gd := [] : St } = { tm := [(6, .nil), (7, .nil), (8, .nil), (9, .d (.sl (List.map Ty.cs (a10 ++ a11)))), (10, .i (↑(List.map Ty.cs a10).length : Int)), (13, .d (.sl (intsD (toP a10.length (a10 ++ a11).length (a10 ++ a11).length)))), (15, .own 50015), (16, .own 50016), (17, .d (.sl (cellsL x'.4))), (61, .d (.sl (cellsL (partsE (EX.mk a24 a25 a26 a27 a28))))), (62, .i (↑(cellsL (partsE (EX.mk a24 a25 a26 a27 a28))).length : Int)), (63, .i (↑x'.1 : Int))], hp := [(50015, .lst 28 10 (cellsL x'.2)), (50016, .lst 28 10 (cellsL x'.3))], kn := [], gd := [] : St } ∧ inv_42b (a10 ++ a11) a10.length (partsE (EX.mk a24 a25 a26 a27 a28)) m x')))) ∧ (ok = !true → (false = true → ∃ (es_5 : List (List D)), D.sl (List.map Ty.cs (a10 ++ a11)) = D.sl es_5 ∧ ∃ (e : EX), ∃ (N : Nat), [D.i a12, D.i a13, D.i a14, D.i a15, D.i a16, D.i a17, D.v (.bool a18), D.i a19, D.v (.string a20), D.sl a21] = Ex.cells e ∧ fits e ∧ N ≤ (17592186044416 : Nat) ∧ (∀ (y : Int), y ∈ colsE e → 0 ≤ y ∧ y < (↑N : Int)) ∧ (withinE (↑(List.map Ty.cs a10).length : Int) (↑es_5.length : Int) e = true → ∃ (e : EX), ∃ (to : List Int), [D.i a12, D.i a13, D.i a14, D.i a15, D.i a16, D.i a17, D.v (.bool a18), D.i a19, D.v (.string a20), D.sl a21] = Ex.cells e ∧ intsD (toP a10.length (a10 ++ a11).length (a10 ++ a11).length) = intsD to ∧ fits e ∧ to.length ≤ 17592186043904 ∧ ∀ (op_1 sub_1 : Int) (t_5 : Ty) (v_1 : AV) (args_1 : List EX) (f : Int), shR (shiftE to e) = (EX.mk op_1 sub_1 t_5 v_1 args_1, f) → ∃ (e : EX), ∃ (a b : Ty), [D.i a0, D.i a1, D.i a2, D.i a3, D.i a4, D.i a5, D.v (.bool a6), D.i a7, D.v (.string a8), D.sl a9] = Ex.cells e ∧ [D.i t_2.1, D.i t_2.2] = a.cs ∧ [D.i u.1, D.i u.2] = b.cs ∧ ∀ (op_2 sub_2 : Int) (t_6 : Ty) (v_2 : AV) (l_2 : List EX), asE e a b = EX.mk op_2 sub_2 t_6 v_2 l_2 → (∀ (c : List D), c ∈ [[D.i op_2, D.i sub_2, D.i t_6.1, D.i t_6.2, D.i v_2.1.1, D.i v_2.1.2, D.v (.bool v_2.2), D.i v_2.3, D.v (.string v_2.4), D.sl (cellsL l_2)]] → c.length = 10) ∧ (28 : Nat) = (28 : Nat) ∧ (10 : Nat) = (10 : Nat) ∧ (↑(cellsL a22.2).length.succ : Int) * (↑(104 : Nat) : Int) ≤ 140737488355328 ∧ ∃ (e : EX), ∃ (a b : Ty), [D.i op_1, D.i sub_1, D.i t_5.1, D.i t_5.2, D.i v_1.1.1, D.i v_1.1.2, D.v (.bool v_1.2), D.i v_1.3, D.v (.string v_1.4), D.sl (cellsL args_1)] = Ex.cells e ∧ [D.i t_3.1, D.i t_3.2] = a.cs ∧ [D.i u.1, D.i u.2] = b.cs ∧ ∀ (op_3 sub_3 : Int) (t_7 : Ty) (v_3 : AV) (l_3 : List EX), asE e a b = EX.mk op_3 sub_3 t_7 v_3 l_3 → (∀ (c : List D), c ∈ [[D.i op_3, D.i sub_3, D.i t_7.1, D.i t_7.2, D.i v_3.1.1, D.i v_3.1.2, D.v (.bool v_3.2), D.i v_3.3, D.v (.string v_3.4), D.sl (cellsL l_3)]] → c.length = 10) ∧ (28 : Nat) = (28 : Nat) ∧ (10 : Nat) = (10 : Nat) ∧ (↑(cellsL a22.3).length.succ : Int) * (↑(104 : Nat) : Int) ≤ 140737488355328 ∧ ∃ (m : Nat), ∃ (x' : SX42), m < a23 ∧ { tm := [(6, .nil), (7, .nil), (8, .nil), (9, .d (.sl (List.map Ty.cs (a10 ++ a11)))), (10, .i (↑(List.map Ty.cs a10).length : Int)), (13, .d (.sl (intsD (toP a10.length (a10 ++ a11).length (a10 ++ a11).length)))), (15, .own 50015), (16, .own 50016), (17, .d (.sl (cellsL a22.4))), (61, .d (.sl (cellsL (partsE (EX.mk a24 a25 a26 a27 a28))))), (62, .i (↑(cellsL (partsE (EX.mk a24 a25 a26 a27 a28))).length : Int)), (63, .i (IntKind.i64.wrap ((↑a22.1 : Int) + 1)))], hp := [(50015, .lst 28 10 (cellsL a22.2 ++ [[.i op_2, .i sub_2, .i t_6.1, .i t_6.2, .i v_2.1.1, .i v_2.1.2, .v (.bool v_2.2), .i v_2.3, .v (.string v_2.4), .sl (cellsL l_2)]])), (50016, .lst 28 10 (cellsL a22.3 ++ [[.i op_3, .i sub_3, .i t_7.1, .i t_7.2, .i v_3.1.1, .i v_3.1.2, .v (.bool v_3.2), .i v_3.3, .v (.string v_3.4), .sl (cellsL l_3)]]))], kn := [], gd := [] : St } = { tm := [(6, .nil), (7, .nil), (8, .nil), (9, .d (.sl (List.map Ty.cs (a10 ++ a11)))), (10, .i (↑(List.map Ty.cs a10).length : Int)), (13, .d (.sl (intsD (toP a10.length (a10 ++ a11).length (a10 ++ a11).length)))), (15, .own 50015), (16, .own 50016), (17, .d (.sl (cellsL x'.4))), (61, .d (.sl (cellsL (partsE (EX.mk a24 a25 a26 a27 a28))))), (62, .i (↑(cellsL (partsE (EX.mk a24 a25 a26 a27 a28))).length : Int)), (63, .i (↑x'.1 : Int))], hp := [(50015, .lst 28 10 (cellsL x'.2)), (50016, .lst 28 10 (cellsL x'.3))], kn := [], gd := [] : St } ∧ inv_42b (a10 ++ a11) a10.length (partsE (EX.mk a24 a25 a26 a27 a28)) m x') ∧ (withinE (↑(List.map Ty.cs a10).length : Int) (↑es_5.length : Int) e = false → ∃ (es_6 : List (List D)), D.sl (cellsL a22.4) = D.sl es_6 ∧ (decide ((↑es_6.length : Int) > 0) = true → ∃ (es_7 : List (List D)), D.sl (cellsL a22.4) = D.sl es_7 ∧ ((0 : Int) ≤ 0 ∧ 0 < (↑es_7.length : Int)) ∧ ∃ (cells : List D), es_7[Int.toNat (0 : Int)]? = some cells ∧ cells.length = 10 ∧ ∃ (n_22 n_23 n_24 n_25 n_26 n_27 : Int), ∃ (b_6 : Bool), ∃ (n_28 : Int), ∃ (b_7 : ByteArray), ∃ (es_8 : List (List D)), cut 0 10 cells = some [D.i n_22, D.i n_23, D.i n_24, D.i n_25, D.i n_26, D.i n_27, D.v (.bool b_6), D.i n_28, D.v (.string b_7), D.sl es_8] ∧ ∃ (m : Nat), ∃ (x' : SX42), m < a23 ∧ { tm := [(6, .nil), (7, .nil), (8, .nil), (9, .d (.sl (List.map Ty.cs (a10 ++ a11)))), (10, .i (↑(List.map Ty.cs a10).length : Int)), (13, .d (.sl (intsD (toP a10.length (a10 ++ a11).length (a10 ++ a11).length)))), (15, .own 50015), (16, .own 50016), (17, .d (.sl [[.i 10, .i 0, .i 0, .i 0, .i 0, .i 0, .v (.bool false), .i 0, .v (.string ⟨⟨[]⟩⟩), .sl [[.i n_22, .i n_23, .i n_24, .i n_25, .i n_26, .i n_27, .v (.bool b_6), .i n_28, .v (.string b_7), .sl es_8], [.i a29, .i a30, .i a31, .i a32, .i a33, .i a34, .v (.bool a35), .i a36, .v (.string a37), .sl a38]]]])), (61, .d (.sl (cellsL (partsE (EX.mk a24 a25 a26 a27 a28))))), (62, .i (↑(cellsL (partsE (EX.mk a24 a25 a26 a27 a28))).length : Int)), (63, .i (IntKind.i64.wrap ((↑a22.1 : Int) + 1)))], hp := [(50015, .lst 28 10 (cellsL a22.2)), (50016, .lst 28 10 (cellsL a22.3))], kn := [], gd := [] : St } = { tm := [(6, .nil), (7, .nil), (8, .nil), (9, .d (.sl (List.map Ty.cs (a10 ++ a11)))), (10, .i (↑(List.map Ty.cs a10).length : Int)), (13, .d (.sl (intsD (toP a10.length (a10 ++ a11).length (a10 ++ a11).length)))), (15, .own 50015), (16, .own 50016), (17, .d (.sl (cellsL x'.4))), (61, .d (.sl (cellsL (partsE (EX.mk a24 a25 a26 a27 a28))))), (62, .i (↑(cellsL (partsE (EX.mk a24 a25 a26 a27 a28))).length : Int)), (63, .i (↑x'.1 : Int))], hp := [(50015, .lst 28 10 (cellsL x'.2)), (50016, .lst 28 10 (cellsL x'.3))], kn := [], gd := [] : St } ∧ inv_42b (a10 ++ a11) a10.length (partsE (EX.mk a24 a25 a26 a27 a28)) m x') ∧ (decide ((↑es_6.length : Int) > 0) = false → ∃ (m : Nat), ∃ (x' : SX42), m < a23 ∧ { tm := [(6, .nil), (7, .nil), (8, .nil), (9, .d (.sl (List.map Ty.cs (a10 ++ a11)))), (10, .i (↑(List.map Ty.cs a10).length : Int)), (13, .d (.sl (intsD (toP a10.length (a10 ++ a11).length (a10 ++ a11).length)))), (15, .own 50015), (16, .own 50016), (17, .d (.sl [[.i a29, .i a30, .i a31, .i a32, .i a33, .i a34, .v (.bool a35), .i a36, .v (.string a37), .sl a38]])), (61, .d (.sl (cellsL (partsE (EX.mk a24 a25 a26 a27 a28))))), (62, .i (↑(cellsL (partsE (EX.mk a24 a25 a26 a27 a28))).length : Int)), (63, .i (IntKind.i64.wrap ((↑a22.1 : Int) + 1)))], hp := [(50015, .lst 28 10 (cellsL a22.2)), (50016, .lst 28 10 (cellsL a22.3))], kn := [], gd := [] : St } = { tm := [(6, .nil), (7, .nil), (8, .nil), (9, .d (.sl (List.map Ty.cs (a10 ++ a11)))), (10, .i (↑(List.map Ty.cs a10).length : Int)), (13, .d (.sl (intsD (toP a10.length (a10 ++ a11).length (a10 ++ a11).length)))), (15, .own 50015), (16, .own 50016), (17, .d (.sl (cellsL x'.4))), (61, .d (.sl (cellsL (partsE (EX.mk a24 a25 a26 a27 a28))))), (62, .i (↑(cellsL (partsE (EX.mk a24 a25 a26 a27 a28))).length : Int)), (63, .i (↑x'.1 : Int))], hp := [(50015, .lst 28 10 (cellsL x'.2)), (50016, .lst 28 10 (cellsL x'.3))], kn := [], gd := [] : St } ∧ inv_42b (a10 ++ a11) a10.length (partsE (EX.mk a24 a25 a26 a27 a28)) m x'))) ∧ (false = !true → (false = true → ∃ (e : EX), ∃ (to : List Int), [D.i a12, D.i a13, D.i a14, D.i a15, D.i a16, D.i a17, D.v (.bool a18), D.i a19, D.v (.string a20), D.sl a21] = Ex.cells e ∧ intsD (toP a10.length (a10 ++ a11).length (a10 ++ a11).length) = intsD to ∧ fits e ∧ to.length ≤ 17592186043904 ∧ ∀ (op_1 sub_1 : Int) (t_5 : Ty) (v_1 : AV) (args_1 : List EX) (f : Int), shR (shiftE to e) = (EX.mk op_1 sub_1 t_5 v_1 args_1, f) → ∃ (e : EX), ∃ (a b : Ty), [D.i a0, D.i a1, D.i a2, D.i a3, D.i a4, D.i a5, D.v (.bool a6), D.i a7, D.v (.string a8), D.sl a9] = Ex.cells e ∧ [D.i t_2.1, D.i t_2.2] = a.cs ∧ [D.i u.1, D.i u.2] = b.cs ∧ ∀ (op_2 sub_2 : Int) (t_6 : Ty) (v_2 : AV) (l_2 : List EX), asE e a b = EX.mk op_2 sub_2 t_6 v_2 l_2 → (∀ (c : List D), c ∈ [[D.i op_2, D.i sub_2, D.i t_6.1, D.i t_6.2, D.i v_2.1.1, D.i v_2.1.2, D.v (.bool v_2.2), D.i v_2.3, D.v (.string v_2.4), D.sl (cellsL l_2)]] → c.length = 10) ∧ (28 : Nat) = (28 : Nat) ∧ (10 : Nat) = (10 : Nat) ∧ (↑(cellsL a22.2).length.succ : Int) * (↑(104 : Nat) : Int) ≤ 140737488355328 ∧ ∃ (e : EX), ∃ (a b : Ty), [D.i op_1, D.i sub_1, D.i t_5.1, D.i t_5.2, D.i v_1.1.1, D.i v_1.1.2, D.v (.bool v_1.2), D.i v_1.3, D.v (.string v_1.4), D.sl (cellsL args_1)] = Ex.cells e ∧ [D.i t_3.1, D.i t_3.2] = a.cs ∧ [D.i u.1, D.i u.2] = b.cs ∧ ∀ (op_3 sub_3 : Int) (t_7 : Ty) (v_3 : AV) (l_3 : List EX), asE e a b = EX.mk op_3 sub_3 t_7 v_3 l_3 → (∀ (c : List D), c ∈ [[D.i op_3, D.i sub_3, D.i t_7.1, D.i t_7.2, D.i v_3.1.1, D.i v_3.1.2, D.v (.bool v_3.2), D.i v_3.3, D.v (.string v_3.4), D.sl (cellsL l_3)]] → c.length = 10) ∧ (28 : Nat) = (28 : Nat) ∧ (10 : Nat) = (10 : Nat) ∧ (↑(cellsL a22.3).length.succ : Int) * (↑(104 : Nat) : Int) ≤ 140737488355328 ∧ ∃ (m : Nat), ∃ (x' : SX42), m < a23 ∧ { tm := [(6, .nil), (7, .nil), (8, .nil), (9, .d (.sl (List.map Ty.cs (a10 ++ a11)))), (10, .i (↑(List.map Ty.cs a10).length : Int)), (13, .d (.sl (intsD (toP a10.length (a10 ++ a11).length (a10 ++ a11).length)))), (15, .own 50015), (16, .own 50016), (17, .d (.sl (cellsL a22.4))), (61, .d (.sl (cellsL (partsE (EX.mk a24 a25 a26 a27 a28))))), (62, .i (↑(cellsL (partsE (EX.mk a24 a25 a26 a27 a28))).length : Int)), (63, .i (IntKind.i64.wrap ((↑a22.1 : Int) + 1)))], hp := [(50015, .lst 28 10 (cellsL a22.2 ++ [[.i op_2, .i sub_2, .i t_6.1, .i t_6.2, .i v_2.1.1, .i v_2.1.2, .v (.bool v_2.2), .i v_2.3, .v (.string v_2.4), .sl (cellsL l_2)]])), (50016, .lst 28 10 (cellsL a22.3 ++ [[.i op_3, .i sub_3, .i t_7.1, .i t_7.2, .i v_3.1.1, .i v_3.1.2, .v (.bool v_3.2), .i v_3.3, .v (.string v_3.4), .sl (cellsL l_3)]]))], kn := [], gd := [] : St } = { tm := [(6, .nil), (7, .nil), (8, .nil), (9, .d (.sl (List.map Ty.cs (a10 ++ a11)))), (10, .i (↑(List.map Ty.cs a10).length : Int)), (13, .d (.sl (intsD (toP a10.length (a10 ++ a11).length (a10 ++ a11).length)))), (15, .own 50015), (16, .own 50016), (17, .d (.sl (cellsL x'.4))), (61, .d (.sl (cellsL (partsE (EX.mk a24 a25 a26 a27 a28))))), (62, .i (↑(cellsL (partsE (EX.mk a24 a25 a26 a27 a28))).length : Int)), (63, .i (↑x'.1 : Int))], hp := [(50015, .lst 28 10 (cellsL x'.2)), (50016, .lst 28 10 (cellsL x'.3))], kn := [], gd := [] : St } ∧ inv_42b (a10 ++ a11) a10.length (partsE (EX.mk a24 a25 a26 a27 a28)) m x') ∧ (false = false → ∃ (es_5 : List (List D)), D.sl (cellsL a22.4) = D.sl es_5 ∧ (decide ((↑es_5.length : Int) > 0) = true → ∃ (es_6 : List (List D)), D.sl (cellsL a22.4) = D.sl es_6 ∧ ((0 : Int) ≤ 0 ∧ 0 < (↑es_6.length : Int)) ∧ ∃ (cells : List D), es_6[Int.toNat (0 : Int)]? = some cells ∧ cells.length = 10 ∧ ∃ (n_22 n_23 n_24 n_25 n_26 n_27 : Int), ∃ (b_6 : Bool), ∃ (n_28 : Int), ∃ (b_7 : ByteArray), ∃ (es_7 : List (List D)), cut 0 10 cells = some [D.i n_22, D.i n_23, D.i n_24, D.i n_25, D.i n_26, D.i n_27, D.v (.bool b_6), D.i n_28, D.v (.string b_7), D.sl es_7] ∧ ∃ (m : Nat), ∃ (x' : SX42), m < a23 ∧ { tm := [(6, .nil), (7, .nil), (8, .nil), (9, .d (.sl (List.map Ty.cs (a10 ++ a11)))), (10, .i (↑(List.map Ty.cs a10).length : Int)), (13, .d (.sl (intsD (toP a10.length (a10 ++ a11).length (a10 ++ a11).length)))), (15, .own 50015), (16, .own 50016), (17, .d (.sl [[.i 10, .i 0, .i 0, .i 0, .i 0, .i 0, .v (.bool false), .i 0, .v (.string ⟨⟨[]⟩⟩), .sl [[.i n_22, .i n_23, .i n_24, .i n_25, .i n_26, .i n_27, .v (.bool b_6), .i n_28, .v (.string b_7), .sl es_7], [.i a29, .i a30, .i a31, .i a32, .i a33, .i a34, .v (.bool a35), .i a36, .v (.string a37), .sl a38]]]])), (61, .d (.sl (cellsL (partsE (EX.mk a24 a25 a26 a27 a28))))), (62, .i (↑(cellsL (partsE (EX.mk a24 a25 a26 a27 a28))).length : Int)), (63, .i (IntKind.i64.wrap ((↑a22.1 : Int) + 1)))], hp := [(50015, .lst 28 10 (cellsL a22.2)), (50016, .lst 28 10 (cellsL a22.3))], kn := [], gd := [] : St } = { tm := [(6, .nil), (7, .nil), (8, .nil), (9, .d (.sl (List.map Ty.cs (a10 ++ a11)))), (10, .i (↑(List.map Ty.cs a10).length : Int)), (13, .d (.sl (intsD (toP a10.length (a10 ++ a11).length (a10 ++ a11).length)))), (15, .own 50015), (16, .own 50016), (17, .d (.sl (cellsL x'.4))), (61, .d (.sl (cellsL (partsE (EX.mk a24 a25 a26 a27 a28))))), (62, .i (↑(cellsL (partsE (EX.mk a24 a25 a26 a27 a28))).length : Int)), (63, .i (↑x'.1 : Int))], hp := [(50015, .lst 28 10 (cellsL x'.2)), (50016, .lst 28 10 (cellsL x'.3))], kn := [], gd := [] : St } ∧ inv_42b (a10 ++ a11) a10.length (partsE (EX.mk a24 a25 a26 a27 a28)) m x') ∧ (decide ((↑es_5.length : Int) > 0) = false → ∃ (m : Nat), ∃ (x' : SX42), m < a23 ∧ { tm := [(6, .nil), (7, .nil), (8, .nil), (9, .d (.sl (List.map Ty.cs (a10 ++ a11)))), (10, .i (↑(List.map Ty.cs a10).length : Int)), (13, .d (.sl (intsD (toP a10.length (a10 ++ a11).length (a10 ++ a11).length)))), (15, .own 50015), (16, .own 50016), (17, .d (.sl [[.i a29, .i a30, .i a31, .i a32, .i a33, .i a34, .v (.bool a35), .i a36, .v (.string a37), .sl a38]])), (61, .d (.sl (cellsL (partsE (EX.mk a24 a25 a26 a27 a28))))), (62, .i (↑(cellsL (partsE (EX.mk a24 a25 a26 a27 a28))).length : Int)), (63, .i (IntKind.i64.wrap ((↑a22.1 : Int) + 1)))], hp := [(50015, .lst 28 10 (cellsL a22.2)), (50016, .lst 28 10 (cellsL a22.3))], kn := [], gd := [] : St } = { tm := [(6, .nil), (7, .nil), (8, .nil), (9, .d (.sl (List.map Ty.cs (a10 ++ a11)))), (10, .i (↑(List.map Ty.cs a10).length : Int)), (13, .d (.sl (intsD (toP a10.length (a10 ++ a11).length (a10 ++ a11).length)))), (15, .own 50015), (16, .own 50016), (17, .d (.sl (cellsL x'.4))), (61, .d (.sl (cellsL (partsE (EX.mk a24 a25 a26 a27 a28))))), (62, .i (↑(cellsL (partsE (EX.mk a24 a25 a26 a27 a28))).length : Int)), (63, .i (↑x'.1 : Int))], hp := [(50015, .lst 28 10 (cellsL x'.2)), (50016, .lst 28 10 (cellsL x'.3))], kn := [], gd := [] : St } ∧ inv_42b (a10 ++ a11) a10.length (partsE (EX.mk a24 a25 a26 a27 a28)) m x'))))
def Zc (a0 a1 a2 a3 a4 a5 : Int) (a6 : Bool) (a7 : Int) (a8 : ByteArray) (a9 : List (List D)) (a10 a11 : List Ty) (a12 a13 a14 a15 a16 a17 : Int) (a18 : Bool) (a19 : Int) (a20 : ByteArray) (a21 : List (List D)) (a22 : SX42) (a23 : Nat) (a24 a25 : Int) (a26 : Ty) (a27 : Go.Ex.AV) (a28 : List EX) (a29 a30 a31 a32 a33 a34 : Int) (a35 : Bool) (a36 : Int) (a37 : ByteArray) (a38 : List (List D)) : Prop := ∃ (e : EX), ∃ (N : Nat), Ze5 a0 a1 a2 a3 a4 a5 a6 a7 a8 a9 e (N ≤ (17592186044416 : Nat) ∧ (∀ (y : Int), y ∈ colsE e → 0 ≤ y ∧ y < (↑N : Int)) ∧ (withinE (0 : Int) (↑(List.map Ty.cs a10).length : Int) e = true → Zb a0 a1 a2 a3 a4 a5 a6 a7 a8 a9 a10 a11 a12 a13 a14 a15 a16 a17 a18 a19 a20 a21 a22 a23 a24 a25 a26 a27 a28 a29 a30 a31 a32 a33 a34 a35 a36 a37 a38) ∧ (withinE (0 : Int) (↑(List.map Ty.cs a10).length : Int) e = false → Zb a12 a13 a14 a15 a16 a17 a18 a19 a20 a21 a10 a11 a0 a1 a2 a3 a4 a5 a6 a7 a8 a9 a22 a23 a24 a25 a26 a27 a28 a29 a30 a31 a32 a33 a34 a35 a36 a37 a38))
def Zd (a0 : List (List D)) (a1 a2 : List Ty) (a3 : SX42) (a4 : Nat) (a5 a6 : Int) (a7 : Ty) (a8 : Go.Ex.AV) (a9 : List EX) (a10 a11 a12 a13 a14 a15 : Int) (a16 : Bool) (a17 : Int) (a18 : ByteArray) : Prop := Z9 a0 (0 : Int) (1 : Int) fun n_8 n_9 n_10 n_11 n_12 n_13 b_2 n_14 b_3 es_2 n_15 n_16 n_17 n_18 n_19 n_20 b_4 n_21 b_5 es_4 => (Zc n_15 n_16 n_17 n_18 n_19 n_20 b_4 n_21 b_5 es_4 a1 a2 n_8 n_9 n_10 n_11 n_12 n_13 b_2 n_14 b_3 es_2 a3 a4 a5 a6 a7 a8 a9 a10 a11 a12 a13 a14 a15 a16 a17 a18 a0) ∧ Zc n_15 n_16 n_17 n_18 n_19 n_20 b_4 n_21 b_5 es_4 a1 a2 n_8 n_9 n_10 n_11 n_12 n_13 b_2 n_14 b_3 es_2 a3 a4 a5 a6 a7 a8 a9 a10 a11 a12 a13 a14 a15 a16 a17 a18 a0
def Zdb (a0 : SX42) (k : Int → Int → Int → Int → Int → Int → Bool → Int → ByteArray → (List (List D)) → Prop) : Prop := Zbt fun es_2 => D.sl (cellsL a0.4) = D.sl es_2 ∧ Zu (0 : Int) es_2 fun n_8 n_9 n_10 n_11 n_12 n_13 b_2 n_14 b_3 es_3 => k n_8 n_9 n_10 n_11 n_12 n_13 b_2 n_14 b_3 es_3
def Zdc (a0 : SX42) (k : Int → Int → Int → Int → Int → Int → Bool → Int → ByteArray → (List (List D)) → Nat → SX42 → Prop) : Prop := Zdb a0 fun n_8 n_9 n_10 n_11 n_12 n_13 b_2 n_14 b_3 es_3 => ∃ (m : Nat), ∃ (x' : SX42), k n_8 n_9 n_10 n_11 n_12 n_13 b_2 n_14 b_3 es_3 m x'
def Zdd (a0 : SX42) (a1 : Nat) (k : Int → Int → Int → Int → Int → Int → Bool → Int → ByteArray → (List (List D)) → Nat → SX42 → Prop) : Prop := Zdc a0 fun n_8 n_9 n_10 n_11 n_12 n_13 b_2 n_14 b_3 es_3 m x' => m < a1 ∧ k n_8 n_9 n_10 n_11 n_12 n_13 b_2 n_14 b_3 es_3 m x'
def Zw (a0 : SX42) (a1 : Nat) (a2 a3 : List Ty) (a4 a5 a6 a7 a8 a9 : Int) (a10 : Bool) (a11 : Int) (a12 : ByteArray) (a13 : List (List D)) (a14 a15 : Int) (a16 : Ty) (a17 : Go.Ex.AV) (a18 : List EX) : Prop := Zbt fun es_1 => D.sl (cellsL a0.4) = D.sl es_1 ∧ (decide ((↑es_1.length : Int) > 0) = true → Zdd a0 a1 fun n_8 n_9 n_10 n_11 n_12 n_13 b_2 n_14 b_3 es_3 m x' => { tm := [(6, .nil), (7, .nil), (8, .nil), (9, .d (.sl (List.map Ty.cs (a2 ++ a3)))), (10, .i (↑(List.map Ty.cs a2).length : Int)), (13, .d (.sl (intsD (toP a2.length (a2 ++ a3).length (a2 ++ a3).length)))), (15, .own 50015), (16, .own 50016), (17, .d (.sl [[.i 10, .i 0, .i 0, .i 0, .i 0, .i 0, .v (.bool false), .i 0, .v (.string ⟨⟨[]⟩⟩), .sl [(Z1 n_8 n_9 n_10 n_11 n_12 n_13 b_2 n_14 b_3 es_3), (Z1 a4 a5 a6 a7 a8 a9 a10 a11 a12 a13)]]])), (61, .d (.sl (cellsL (partsE (EX.mk a14 a15 a16 a17 a18))))), (62, .i (↑(cellsL (partsE (EX.mk a14 a15 a16 a17 a18))).length : Int)), (63, .i (IntKind.i64.wrap ((↑a0.1 : Int) + 1)))], hp := [(50015, .lst 28 10 (cellsL a0.2)), (50016, .lst 28 10 (cellsL a0.3))], kn := [], gd := [] : St } = (Zbs a2 a3 x' a14 a15 a16 a17 a18) ∧ Zfz a2 a3 a14 a15 a16 a17 a18 m x') ∧ (decide ((↑es_1.length : Int) > 0) = false → ∃ (m : Nat), ∃ (x' : SX42), m < a1 ∧ { tm := [(6, .nil), (7, .nil), (8, .nil), (9, .d (.sl (List.map Ty.cs (a2 ++ a3)))), (10, .i (↑(List.map Ty.cs a2).length : Int)), (13, .d (.sl (intsD (toP a2.length (a2 ++ a3).length (a2 ++ a3).length)))), (15, .own 50015), (16, .own 50016), (17, .d (.sl [(Z1 a4 a5 a6 a7 a8 a9 a10 a11 a12 a13)])), (61, .d (.sl (cellsL (partsE (EX.mk a14 a15 a16 a17 a18))))), (62, .i (↑(cellsL (partsE (EX.mk a14 a15 a16 a17 a18))).length : Int)), (63, .i (IntKind.i64.wrap ((↑a0.1 : Int) + 1)))], hp := [(50015, .lst 28 10 (cellsL a0.2)), (50016, .lst 28 10 (cellsL a0.3))], kn := [], gd := [] : St } = (Zbs a2 a3 x' a14 a15 a16 a17 a18) ∧ Zfz a2 a3 a14 a15 a16 a17 a18 m x')
theorem vc42 (op sub : Int) (t : Ty) (v : Go.Ex.AV) (args : List EX) (l r : List Ty) (Q : KT) : vc E_9s C_s42 noI (fx_42 op sub t v args l r) (f5.body.getD .skip) f5.results.toList [.agg (encX op sub t v (cellsL args)), .d (.sl (l.map Ty.cs)), .d (.sl (r.map Ty.cs))] Q = ( ∃ (l_1 r_1 : List Ty), [[D.sl (List.map Ty.cs l)], [D.sl (List.map Ty.cs r)]] = [[D.sl (List.map Ty.cs l_1)], [D.sl (List.map Ty.cs r_1)]] ∧ l_1.length.add r_1.length ≤ 8796093022208 ∧ Zbh l fun es => Zc1 op sub t v args fun e cols => Zfj l_1 r_1 cols e fun _ f => ((f != (0 : Int)) = true → Q (Zfl op sub t v args) []) ∧ ((f != (0 : Int)) = false → 0 ≤ (↑(List.map Ty.cs (l_1 ++ r_1)).length : Int) ∧ (↑(List.map Ty.cs (l_1 ++ r_1)).length : Int) ≤ (↑(List.map Ty.cs (l_1 ++ r_1)).length : Int) ∧ (↑(List.map Ty.cs (l_1 ++ r_1)).length : Int) * (↑(8 : Nat) : Int) ≤ 140737488355328 ∧ (↑(List.map Ty.cs (l_1 ++ r_1)).length : Int) ≤ 140737488355328 ∧ ∃ (x0 : Nat), ({ tm := [(3, .ref 3 0), (6, .nil), (7, .nil), (8, .nil), (9, .d (.sl (List.map Ty.cs (l_1 ++ r_1)))), (10, .i (↑es.length : Int)), (13, .own 46), (14, .i (↑es.length : Int))], hp := [(3, .box [.i op, .i sub, .i t.1, .i t.2, .i v.1.1, .i v.1.2, .d (.v (.bool v.2)), .i v.3, .d (.v (.string v.4)), .d (.sl (cellsL args))]), (46, .lst 3 1 (List.replicate (↑(List.map Ty.cs (l_1 ++ r_1)).length : Int).toNat [.i 0]))], kn := [], gd := [] : St } = (Zc2 l r x0 op sub t v args) ∧ ∃ (n : Nat), inv_42a l r n x0) ∧ ∀ (n : Nat) (x : Nat), inv_42a l r n x → Zbt fun es => D.sl (List.map Ty.cs (l ++ r)) = D.sl es ∧ (Zec x es ((0 ≤ (↑x : Int) ∧ (↑x : Int) < (↑(intsD (toP l.length x (l ++ r).length)).length : Int)) ∧ (1 : Nat) = (1 : Nat) ∧ ∃ (cells : List D), (intsD (toP l.length x (l ++ r).length))[(↑x : Int).toNat]? = some cells ∧ ∃ (cells' : List D), over (0 : Nat) [D.i (IntKind.i64.wrap ((↑x : Int) - (↑(List.map Ty.cs l).length : Int)))] cells = some cells' ∧ Zdq n fun m x' => { tm := [(3, .ref 3 0), (6, .nil), (7, .nil), (8, .nil), (9, .d (.sl (List.map Ty.cs (l ++ r)))), (10, .i (↑(List.map Ty.cs l).length : Int)), (13, .own 46), (14, .i (IntKind.i64.wrap ((↑x : Int) + 1)))], hp := [(3, .box [.i op, .i sub, .i t.1, .i t.2, .i v.1.1, .i v.1.2, .d (.v (.bool v.2)), .i v.3, .d (.v (.string v.4)), .d (.sl (cellsL args))]), (46, .lst 3 1 ((intsD (toP l.length x (l ++ r).length)).set (↑x : Int).toNat cells'))], kn := [], gd := [] : St } = (Zc2 l r x' op sub t v args) ∧ inv_42a l r m x')) ∧ (Zfg x es op sub t v args fun e x0 => ({ tm := [(6, .nil), (7, .nil), (8, .nil), (9, .d (.sl (List.map Ty.cs (l ++ r)))), (10, .i (↑(List.map Ty.cs l).length : Int)), (13, .d (.sl (intsD (toP l.length x (l ++ r).length)))), (15, .own 50015), (16, .own 50016), (17, .d (.sl [])), (61, .d (.sl (cellsL (partsE e)))), (62, .i (↑(cellsL (partsE e)).length : Int)), (63, .i 0)], hp := [(50015, .lst 28 10 []), (50016, .lst 28 10 [])], kn := [], gd := [] : St } = (Zbs l r x0 op sub t v args) ∧ ∃ (n : Nat), Zfz l r op sub t v args n x0) ∧ ∀ (n : Nat) (x : SX42), inv_42b (l ++ r) l.length (partsE (EX.mk op sub t v args)) n x → (decide ((↑x.1 : Int) < (↑(cellsL (partsE (EX.mk op sub t v args))).length : Int)) = true → Zdx op sub t v args x fun n_1 n_2 n_3 n_4 n_5 n_6 b n_7 b_1 es => ((n_1 == 9) = true → ((n_2 == 1) = true → Zd es l r x n op sub t v args n_1 n_2 n_3 n_4 n_5 n_6 b n_7 b_1) ∧ ((n_2 == 1) = false → Zw x n l r n_1 n_2 n_3 n_4 n_5 n_6 b n_7 b_1 es op sub t v args)) ∧ ((n_1 == 9) = !true → (false = true → Zd es l r x n op sub t v args n_1 n_2 n_3 n_4 n_5 n_6 b n_7 b_1) ∧ (false = false → Zw x n l r n_1 n_2 n_3 n_4 n_5 n_6 b n_7 b_1 es op sub t v args))) ∧ (decide ((↑x.1 : Int) < (↑(cellsL (partsE (EX.mk op sub t v args))).length : Int)) = false → Q [.d (.sl (cellsL x.2)), .d (.sl (cellsL x.3)), .d (.sl (cellsL x.4))] [])))) := by kernel_rfl
end Go.Proofs.Tryz
