/- A part of the proof: contracts of functions, by a verified generator of conditions; no condition of its own. -/
import Derived.Test.YtlacgjmbabghaaaM10
namespace Go.Proofs.Try
open Go Go.Dm
set_option maxRecDepth 100000
def c_72 (a : List R) (K : List R → List (List D) → Prop) : Prop := match a with
  | [.d (.sl es)] => ∃ ts : List Int, es = ts.map wc ∧ ts.length < 4611686018427387904 ∧ (∀ t ∈ ts, fitW t) ∧ (∀ i, fitW (ts.take i).sum) ∧ K [.agg (wc ts.sum)] []
  | _ => False
theorem c_72_ok (a : List R) (K : List R → List (List D) → Prop) (h : c_72 a K) : Ct prog 72 a K := by
  unfold c_72 at h
  split at h
  · obtain ⟨ts, rfl, h1, h2, h3, h4⟩ := h
    exact (ct72 ts h1 h2 h3).gives h4
  · exact h.elim
def C_b14 : CallT := addC C_b13 72 c_72
theorem C_b14_ok : CallsOk prog C_b14 := addC_ok C_b13_ok c_72_ok
def st_57 (es : List (List D)) (x : Int × List (List D)) : St := { tm := [(0, .d (.sl es)), (2, .d (.v (.int .i64 0))), (3, .d (.v (.bool false))), (4, .own 50004), (5, .d (.v (.int .i64 x.1)))], hp := [(50004, .lst 59 2 x.2)], kn := [], gd := [] }
def inv_57 (vs : List AV) (m : Nat) (x : Int × List (List D)) : Prop := ∃ i : Nat, x.1 = i ∧ i ≤ vs.length ∧ x.2 = ((vs.take i).map (·.n)).map wc ∧ m = vs.length - i
def fx_57 (vs : List AV) : Fi := { fi57 with cv := [(3, [⟨none, 4, 50004, 59, 2⟩])], lx := [(3, { X := Int × List (List D), sh := st_57 (vs.map AV.cs), P := fun _ => inv_57 vs })] }
theorem vc57 (vs : List AV) (Q : List R → List (List D) → Prop) : vc E_0 C_b14 noI (fx_57 vs) (f57.body.getD .skip) f57.results.toList [.d (.sl (vs.map AV.cs))] Q = (
  ∃ x0, ({ tm := [((0 : Nat), V.d (D.sl (List.map AV.cs vs))), ((2 : Nat), V.d (D.v (Value.int IntKind.i64 (0 : Int)))), ((3 : Nat), V.d (D.v (Value.bool false))), ((4 : Nat), V.own ((50004 : Nat))), ((5 : Nat), V.d (D.v (Value.int IntKind.i64 (0 : Int))))], hp := [((50004 : Nat), B.lst ((59 : Nat)) ((2 : Nat)) [])], kn := [], gd := [] : St }
  = { tm := [((0 : Nat), V.d (D.sl (List.map AV.cs vs))), ((2 : Nat), V.d (D.v (Value.int IntKind.i64 (0 : Int)))), ((3 : Nat), V.d (D.v (Value.bool false))), ((4 : Nat), V.own ((50004 : Nat))), ((5 : Nat), V.d (D.v (Value.int IntKind.i64 x0.1)))], hp := [((50004 : Nat), B.lst ((59 : Nat)) ((2 : Nat)) x0.2)], kn := [], gd := [] : St }
  ∧ ∃ n, inv_57 vs n x0) ∧ ∀ (n : Nat) (x : { X := Int × List (List D), sh := st_57 (List.map AV.cs vs), P := fun x => inv_57 vs : LX }.X), inv_57 vs n
  x → ∃ es, D.sl (List.map AV.cs vs) = D.sl es ∧ (decide (x.1 < ↑es.length) = true → ∃ es, D.sl (List.map AV.cs vs) = D.sl es ∧ ((0 : Int) ≤ x.1 ∧ x.1
  < ↑es.length) ∧ ∃ cells, es[x.1.toNat]? = some cells ∧ cells.length = (5 : Nat) ∧ ∃ n_1, cut ((0 : Nat)) ((1 : Nat)) (dropN ((3 : Nat)) cells) = some
  [D.v (Value.int IntKind.i64 n_1)] ∧ (∀ (c : List D), c ∈ [[D.v (Value.int IntKind.i64 (s70_0 n_1)), D.v (Value.int IntKind.u64 (s70_1 n_1))]] →
  c.length = (2 : Nat)) ∧ (59 : Nat) = (59 : Nat) ∧ (2 : Nat) = (2 : Nat) ∧ ↑x.2.length.succ * ↑((16 : Nat)) ≤ (140737488355328 : Int) ∧ ∃ m x', m < n
  ∧ { tm := [((0 : Nat), V.d (D.sl (List.map AV.cs vs))), ((2 : Nat), V.d (D.v (Value.int IntKind.i64 (0 : Int)))), ((3 : Nat), V.d (D.v (Value.bool false))), ((4 : Nat), V.own ((50004 : Nat))), ((5 : Nat), V.d (D.v (Value.int IntKind.i64 (IntKind.i64.wrap (x.1 + (1 : Int))))))], hp := [((50004 : Nat), B.lst ((59 : Nat)) ((2 : Nat)) (x.2 ++ [[D.v (Value.int IntKind.i64 (s70_0 n_1)), D.v (Value.int IntKind.u64 (s70_1 n_1))]]))], kn := [], gd := [] : St }
  = { tm := [((0 : Nat), V.d (D.sl (List.map AV.cs vs))), ((2 : Nat), V.d (D.v (Value.int IntKind.i64 (0 : Int)))), ((3 : Nat), V.d (D.v (Value.bool false))), ((4 : Nat), V.own ((50004 : Nat))), ((5 : Nat), V.d (D.v (Value.int IntKind.i64 x'.1)))], hp := [((50004 : Nat), B.lst ((59 : Nat)) ((2 : Nat)) x'.2)], kn := [], gd := [] : St }
  ∧ inv_57 vs m x') ∧ (decide (x.1 < ↑es.length) = false → ∃ ts, x.2 = List.map wc ts ∧ ts.length < (4611686018427387904 : Nat) ∧ (∀ (t : Int), t ∈ ts
  → (-85070591730234615865843651857942052864 : Int) ≤ t ∧ t < (85070591730234615865843651857942052864 : Int)) ∧ (∀ (i : Nat),
  (-85070591730234615865843651857942052864 : Int) ≤ (List.take i ts).sum ∧ (List.take i ts).sum < (85070591730234615865843651857942052864 : Int)) ∧
  ((s71_1 (hiW ts.sum) (loW ts.sum) == (0 : Int)) = true → ∃ es, D.sl (List.map AV.cs vs) = D.sl es ∧ ((0 : Int) ≤ (0 : Int) ∧ (0 : Int) < ↑es.length)
  ∧ ∃ cells, es[Int.toNat (0 : Int)]? = some cells ∧ cells.length = (5 : Nat) ∧ ∃ n, cut ((0 : Nat)) ((1 : Nat)) cells = some [D.v (Value.int
  IntKind.i64 n)] ∧ Q [R.d (D.v (Value.int IntKind.i64 (s71_0 (hiW ts.sum) (loW ts.sum)))), R.d (D.v (Value.bool (bif n != (3 : Int) then true else
  s38_0 (s71_0 (hiW ts.sum) (loW ts.sum)))))] []) ∧ ((s71_1 (hiW ts.sum) (loW ts.sum) == (0 : Int)) = !true → Q [R.d (D.v (Value.int IntKind.i64 (s71_0
  (hiW ts.sum) (loW ts.sum)))), R.d (D.v (Value.bool false))] []))) := by kernel_rfl
/-- A sum, and whether it may be. -/
def sumX (vs : List AV) : Int := if in64 (vs.map (·.n)).sum then (vs.map (·.n)).sum else 0
def sumK (k : Int) (vs : List AV) : Bool := if in64 (vs.map (·.n)).sum then (bif k != 3 then true else s38_0 (vs.map (·.n)).sum) else false
theorem s71_spec (t : Int) : s71_0 (hiW t) (loW t) = (if in64 t then t else 0) ∧ (s71_1 (hiW t) (loW t) == 0) = decide (in64 t) := by
  have e : (s70_0 (IntKind.i64.wrap (loW t)) == hiW t && (s70_1 (IntKind.i64.wrap (loW t)) == loW t && true)) = decide (in64 t) := by
    unfold s70_0 s70_1
    rw [wrap_u64, wrap_i64]
    unfold hiW loW in64
    rw [Bool.eq_iff_iff]
    simp only [Bool.and_eq_true, beq_iff_eq, decide_eq_true_eq, cond_eq_ite, Bool.and_true]
    constructor
    · rintro ⟨h1, h2⟩
      split at h1 <;> split at h1 <;> omega
    · rintro ⟨h1, h2⟩
      refine ⟨?_, ?_⟩ <;> split <;> (try split) <;> omega
  unfold s71_0 s71_1
  rw [e]
  by_cases h : in64 t
  · rw [decide_eq_true h]
    simp only [Bool.not_true, cond_false, if_pos h]
    refine ⟨?_, rfl⟩
    rw [wrap_i64]; unfold loW; unfold in64 at h; split <;> omega
  · rw [decide_eq_false h]
    simp only [Bool.not_false, cond_true, if_neg h]
    exact ⟨trivial, rfl⟩
theorem s70_wc {n : Int} (h : in64 n) : [D.v (.int .i64 (s70_0 n)), D.v (.int .u64 (s70_1 n))] = wc n := by
  unfold wc s70_0 s70_1
  rw [wrap_u64]
  have : (bif decide (n < 0) then (-1 : Int) else 0) = hiW n := by
    unfold hiW; unfold in64 at h
    by_cases hn : n < 0
    · rw [decide_eq_true hn]; show (-1 : Int) = _; omega
    · rw [decide_eq_false hn]; show (0 : Int) = _; omega
  rw [this]
theorem ct57 (k sc : Int) (vs : List AV) (hne : vs ≠ []) (hl : vs.length ≤ 65536) (hg : ∀ v ∈ vs, goodV k sc v) : Ct prog 57 [.d (.sl (vs.map AV.cs))] (gives [.d (.v (.int .i64 (sumX vs))), .d (.v (.bool (sumK k vs)))]) :=
  ct_of_vc E_ok C_b14_ok ioK_no it_ok mixed (fn := f57) (body := f57.body.getD .skip) (by kernel_rfl) (by kernel_rfl) (by kernel_rfl) (fi := fx_57 vs) (by kernel_rfl) (by kernel_rfl) ⟨_, _, rfl, rfl⟩ (by
    rw [vc57]
    refine ⟨(0, []), ⟨rfl, vs.length, 0, rfl, by omega, by simp, rfl⟩, ?_⟩
    rintro m ⟨i', ls⟩ ⟨i, a1, a2, a3, a4⟩
    dsimp only at a1 a3 ⊢
    subst a1; subst a3
    refine ⟨_, rfl, fun hi => ?_, fun hi => ?_⟩
    · have hi : i < vs.length := by simpa using hi
      have hget : (vs.map AV.cs)[(i : Int).toNat]? = some (vs[i]).cs := by simp [hi]
      have hin := (hg _ (List.getElem_mem hi)).hn
      have e1 : ((vs.take (i + 1)).map (·.n)).map wc = ((vs.take i).map (·.n)).map wc ++ [wc (vs[i]).n] := by rw [List.take_add_one, List.getElem?_eq_getElem hi, Option.toList_some, List.map_append, List.map_append]; rfl
      have hle : (((vs.take i).map (·.n)).map wc).length = i := by simp; omega
      refine ⟨_, rfl, ⟨by omega, by simpa using hi⟩, _, hget, rfl, _, rfl, by simp, rfl, rfl, by rw [hle]; push_cast; omega, vs.length - (i + 1), (((i + 1 : Nat) : Int), ((vs.take (i + 1)).map (·.n)).map wc), by omega, ?_, i + 1, rfl, hi, rfl, rfl⟩
      rw [wrap_i64_of (n := (i : Int) + 1) (by omega) (by omega), e1, s70_wc hin]
      rfl
    · have hi : ¬ i < vs.length := by simpa using hi
      rw [List.take_of_length_le (by omega)]
      have hfit : ∀ t ∈ vs.map (·.n), fitW t := by
        intro t ht
        obtain ⟨v, hv, rfl⟩ := List.mem_map.1 ht
        have := (hg v hv).hn
        unfold in64 at this; unfold fitW; omega
      have hpre : ∀ j, fitW ((vs.map (·.n)).take j).sum := by
        intro j
        rw [← List.map_take]
        have := sum_bound (k := k) (sc := sc) (l := vs.take j) (fun x hx => hg x (List.mem_of_mem_take hx))
        have h2 : (vs.take j).length ≤ 65536 := by simp; omega
        unfold fitW; omega
      obtain ⟨q1, q2⟩ := s71_spec (vs.map (·.n)).sum
      obtain ⟨v, tl, hv⟩ : ∃ v tl, vs = v :: tl := by cases vs with
        | nil => exact (hne rfl).elim
        | cons v tl => exact ⟨v, tl, rfl⟩
      refine ⟨vs.map (·.n), rfl, by rw [List.length_map]; omega, hfit, hpre, fun h => ⟨_, rfl, ⟨by decide, by rw [hv]; simp <;> omega⟩, v.cs, by rw [hv]; rfl, rfl, _, rfl, ?_⟩, fun h => ?_⟩
      · rw [q2] at h
        have h : in64 (vs.map (·.n)).sum := by simpa using h
        have hk : v.k = k := (hg v (by rw [hv]; simp)).ek
        have e1 : s71_0 (hiW (vs.map (·.n)).sum) (loW (vs.map (·.n)).sum) = sumX vs := q1
        have e2 : sumK k vs = bif v.k != 3 then true else s38_0 (sumX vs) := by unfold sumK sumX; rw [if_pos h, if_pos h, hk]
        rw [e1, e2]; exact ⟨rfl, rfl⟩
      · rw [q2] at h
        have h : ¬ in64 (vs.map (·.n)).sum := by simpa using h
        have e1 : s71_0 (hiW (vs.map (·.n)).sum) (loW (vs.map (·.n)).sum) = sumX vs := q1
        have e2 : sumK k vs = false := by unfold sumK; rw [if_neg h]
        rw [e1, e2]; exact ⟨rfl, rfl⟩)
def c_57 (a : List R) (K : List R → List (List D) → Prop) : Prop := match a with
  | [.d (.sl es)] => ∃ (vs : List AV) (k sc : Int), es = vs.map AV.cs ∧ vs ≠ [] ∧ vs.length ≤ 65536 ∧ (∀ v ∈ vs, goodV k sc v) ∧ K [.d (.v (.int .i64 (sumX vs))), .d (.v (.bool (sumK k vs)))] []
  | _ => False
theorem c_57_ok (a : List R) (K : List R → List (List D) → Prop) (h : c_57 a K) : Ct prog 57 a K := by
  unfold c_57 at h
  split at h
  · obtain ⟨vs, k, sc, rfl, h1, h2, h3, h4⟩ := h
    exact (ct57 k sc vs h1 h2 h3).gives h4
  · exact h.elim
def C_b15 : CallT := addC C_b14 57 c_57
theorem C_b15_ok : CallsOk prog C_b15 := addC_ok C_b14_ok c_57_ok
def st_42 (kd k sc : Int) (es : List (List D)) (x : AV × Int) : St := { tm := [(0, .d (.v (.int .i64 kd))), (1, .d (.sl es)), (6, .ref 6 0), (7, .d (.v (.bool false))), (10, .ref 10 0), (11, .d (.v (.int .i64 x.2)))], hp := [(5, .box [.d (.v (.int .i64 k)), .d (.v (.int .i64 sc))]), (6, .box [.d (.v (.int .i64 0)), .d (.v (.int .i64 0)), .d (.v (.bool false)), .d (.v (.int .i64 0)), .d (.v (.string ⟨#[]⟩))]), (10, .box [.d (.v (.int .i64 x.1.k)), .d (.v (.int .i64 x.1.sc)), .d (.v (.bool x.1.nul)), .d (.v (.int .i64 x.1.n)), .d (.v (.string x.1.s))])], kn := [], gd := [] }
def inv_42 (kd k sc : Int) (vs : List AV) (m : Nat) (x : AV × Int) : Prop := ∃ i : Nat, x.2 = i ∧ 1 ≤ i ∧ i ≤ vs.length ∧ Rep kd k sc ⟨i, ((vs.take i).map (·.n)).sum, x.1⟩ (vs.take i) ∧ m = vs.length - i
def fx_42 (kd k sc : Int) (vs : List AV) : Fi := { fi42 with lx := [(10, { X := AV × Int, sh := st_42 kd k sc (vs.map AV.cs), P := fun _ => inv_42 kd k sc vs })] }
theorem vc42 (kd k sc : Int) (vs : List AV) (Q : List R → List (List D) → Prop) : vc E_0 C_b15 noI (fx_42 kd k sc vs) (f42.body.getD .skip) f42.results.toList [.d (.v (.int .i64 kd)), .d (.sl (vs.map AV.cs)), .agg [.v (.int .i64 k), .v (.int .i64 sc)]] Q = (
  ((kd == (1 : Int)) = true → ∃ es, D.sl (List.map AV.cs vs) = D.sl es ∧ Q [R.agg [D.v (Value.int IntKind.i64 (2 : Int)), D.v (Value.int IntKind.i64 (0 :
  Int)), D.v (Value.bool false), D.v (Value.int IntKind.i64 ↑es.length), D.v (Value.string { data := { toList := [] : Array UInt8 } : ByteArray })],
  R.d (D.v (Value.bool true))] []) ∧ ((kd == (1 : Int)) = false → ∃ es, D.sl (List.map AV.cs vs) = D.sl es ∧ ((↑es.length == (0 : Int)) = true → Q
  [R.agg [D.v (Value.int IntKind.i64 k), D.v (Value.int IntKind.i64 sc), D.v (Value.bool true), D.v (Value.int IntKind.i64 (0 : Int)), D.v
  (Value.string { data := { toList := [] : Array UInt8 } : ByteArray })], R.d (D.v (Value.bool true))] []) ∧ ((↑es.length == (0 : Int)) = false → ((kd
  == (2 : Int)) = true → ∃ vs_1 k_1 sc_1, List.map AV.cs vs = List.map AV.cs vs_1 ∧ vs_1 ≠ [] ∧ vs_1.length ≤ (65536 : Nat) ∧ (∀ (v : AV), v ∈ vs_1 →
  goodV k_1 sc_1 v) ∧ Q [R.agg [D.v (Value.int IntKind.i64 k), D.v (Value.int IntKind.i64 sc), D.v (Value.bool false), D.v (Value.int IntKind.i64 (sumX
  vs_1)), D.v (Value.string { data := { toList := [] : Array UInt8 } : ByteArray })], R.d (D.v (Value.bool (sumK k_1 vs_1)))] []) ∧ ((kd == (2 : Int))
  = false → ∃ es, D.sl (List.map AV.cs vs) = D.sl es ∧ ((0 : Int) ≤ (0 : Int) ∧ (0 : Int) < ↑es.length) ∧ ∃ cells, es[Int.toNat (0 : Int)]? = some
  cells ∧ cells.length = (5 : Nat) ∧ ∃ n n_1 b n_2 b_1, cut ((0 : Nat)) ((5 : Nat)) cells = some [D.v (Value.int IntKind.i64 n), D.v (Value.int
  IntKind.i64 n_1), D.v (Value.bool b), D.v (Value.int IntKind.i64 n_2), D.v (Value.string b_1)] ∧ ∃ x0, ({ tm := [((0 : Nat), V.d (D.v (Value.int IntKind.i64 kd))), ((1 : Nat), V.d (D.sl (List.map AV.cs vs))), ((6 : Nat), V.ref ((6 : Nat)) ((0 : Nat))), ((7 : Nat), V.d (D.v (Value.bool false))), ((10 : Nat), V.ref ((10 : Nat)) ((0 : Nat))), ((11 : Nat), V.d (D.v (Value.int IntKind.i64 (1 : Int))))], hp := [((5 : Nat), B.box [V.d (D.v (Value.int IntKind.i64 k)), V.d (D.v (Value.int IntKind.i64 sc))]), ((6 : Nat), B.box [V.d (D.v (Value.int IntKind.i64 (0 : Int))), V.d (D.v (Value.int IntKind.i64 (0 : Int))), V.d (D.v (Value.bool false)), V.d (D.v (Value.int IntKind.i64 (0 : Int))), V.d (D.v (Value.string { data := { toList := [] : Array UInt8 } : ByteArray }))]), ((10 : Nat), B.box [V.d (D.v (Value.int IntKind.i64 n)), V.d (D.v (Value.int IntKind.i64 n_1)), V.d (D.v (Value.bool b)), V.d (D.v (Value.int IntKind.i64 n_2)), V.d (D.v (Value.string b_1))])], kn := [], gd := [] : St }
  = { tm := [((0 : Nat), V.d (D.v (Value.int IntKind.i64 kd))), ((1 : Nat), V.d (D.sl (List.map AV.cs vs))), ((6 : Nat), V.ref ((6 : Nat)) ((0 : Nat))), ((7 : Nat), V.d (D.v (Value.bool false))), ((10 : Nat), V.ref ((10 : Nat)) ((0 : Nat))), ((11 : Nat), V.d (D.v (Value.int IntKind.i64 x0.2)))], hp := [((5 : Nat), B.box [V.d (D.v (Value.int IntKind.i64 k)), V.d (D.v (Value.int IntKind.i64 sc))]), ((6 : Nat), B.box [V.d (D.v (Value.int IntKind.i64 (0 : Int))), V.d (D.v (Value.int IntKind.i64 (0 : Int))), V.d (D.v (Value.bool false)), V.d (D.v (Value.int IntKind.i64 (0 : Int))), V.d (D.v (Value.string { data := { toList := [] : Array UInt8 } : ByteArray }))]), ((10 : Nat), B.box [V.d (D.v (Value.int IntKind.i64 x0.1.1)), V.d (D.v (Value.int IntKind.i64 x0.1.2)), V.d (D.v (Value.bool x0.1.3)), V.d (D.v (Value.int IntKind.i64 x0.1.4)), V.d (D.v (Value.string x0.1.5))])], kn := [], gd := [] : St }
  ∧ ∃ n, inv_42 kd k sc vs n x0) ∧ ∀ (n : Nat) (x : { X := AV × Int, sh := st_42 kd k sc (List.map AV.cs vs), P := fun x => inv_42 kd k sc vs : LX }.X),
  inv_42 kd k sc vs n x → ∃ es, D.sl (List.map AV.cs vs) = D.sl es ∧ (decide (x.2 < ↑es.length) = true → ∃ es, D.sl (List.map AV.cs vs) = D.sl es ∧ ((0
  : Int) ≤ x.2 ∧ x.2 < ↑es.length) ∧ ∃ cells, es[x.2.toNat]? = some cells ∧ cells.length = (5 : Nat) ∧ ∃ n_3 n_4 b n_5 b_2, cut ((0 : Nat)) ((5 : Nat))
  cells = some [D.v (Value.int IntKind.i64 n_3), D.v (Value.int IntKind.i64 n_4), D.v (Value.bool b), D.v (Value.int IntKind.i64 n_5), D.v
  (Value.string b_2)] ∧ (x.1.1 = n_3 ∧ x.1.2 = n_4 ∧ in64 n_5 ∧ in64 x.1.4 ∧ b = false ∧ x.1.3 = false ∧ (1 : Int) ≤ n_3 ∧ n_3 ≤ (5 : Int)) ∧ ((bif bif
  kd == (3 : Int) then decide (ordV n_3 n_5 b_2 x.1.4 x.1.5 < (0 : Int)) else false then true else bif kd == (4 : Int) then decide (ordV n_3 n_5 b_2
  x.1.4 x.1.5 > (0 : Int)) else false) = true → ∃ es, D.sl (List.map AV.cs vs) = D.sl es ∧ ((0 : Int) ≤ x.2 ∧ x.2 < ↑es.length) ∧ ∃ cells,
  es[x.2.toNat]? = some cells ∧ cells.length = (5 : Nat) ∧ ∃ n_6 n_7 b n_8 b_3, cut ((0 : Nat)) ((5 : Nat)) cells = some [D.v (Value.int IntKind.i64
  n_6), D.v (Value.int IntKind.i64 n_7), D.v (Value.bool b), D.v (Value.int IntKind.i64 n_8), D.v (Value.string b_3)] ∧ ∃ m x', m < n ∧ { tm := [((0 : Nat), V.d (D.v (Value.int IntKind.i64 kd))), ((1 : Nat), V.d (D.sl (List.map AV.cs vs))), ((6 : Nat), V.ref ((6 : Nat)) ((0 : Nat))), ((7 : Nat), V.d (D.v (Value.bool false))), ((10 : Nat), V.ref ((10 : Nat)) ((0 : Nat))), ((11 : Nat), V.d (D.v (Value.int IntKind.i64 (IntKind.i64.wrap (x.2 + (1 : Int))))))], hp := [((5 : Nat), B.box [V.d (D.v (Value.int IntKind.i64 k)), V.d (D.v (Value.int IntKind.i64 sc))]), ((6 : Nat), B.box [V.d (D.v (Value.int IntKind.i64 (0 : Int))), V.d (D.v (Value.int IntKind.i64 (0 : Int))), V.d (D.v (Value.bool false)), V.d (D.v (Value.int IntKind.i64 (0 : Int))), V.d (D.v (Value.string { data := { toList := [] : Array UInt8 } : ByteArray }))]), ((10 : Nat), B.box [V.d (D.v (Value.int IntKind.i64 n_6)), V.d (D.v (Value.int IntKind.i64 n_7)), V.d (D.v (Value.bool b)), V.d (D.v (Value.int IntKind.i64 n_8)), V.d (D.v (Value.string b_3))])], kn := [], gd := [] : St }
  = { tm := [((0 : Nat), V.d (D.v (Value.int IntKind.i64 kd))), ((1 : Nat), V.d (D.sl (List.map AV.cs vs))), ((6 : Nat), V.ref ((6 : Nat)) ((0 : Nat))), ((7 : Nat), V.d (D.v (Value.bool false))), ((10 : Nat), V.ref ((10 : Nat)) ((0 : Nat))), ((11 : Nat), V.d (D.v (Value.int IntKind.i64 x'.2)))], hp := [((5 : Nat), B.box [V.d (D.v (Value.int IntKind.i64 k)), V.d (D.v (Value.int IntKind.i64 sc))]), ((6 : Nat), B.box [V.d (D.v (Value.int IntKind.i64 (0 : Int))), V.d (D.v (Value.int IntKind.i64 (0 : Int))), V.d (D.v (Value.bool false)), V.d (D.v (Value.int IntKind.i64 (0 : Int))), V.d (D.v (Value.string { data := { toList := [] : Array UInt8 } : ByteArray }))]), ((10 : Nat), B.box [V.d (D.v (Value.int IntKind.i64 x'.1.1)), V.d (D.v (Value.int IntKind.i64 x'.1.2)), V.d (D.v (Value.bool x'.1.3)), V.d (D.v (Value.int IntKind.i64 x'.1.4)), V.d (D.v (Value.string x'.1.5))])], kn := [], gd := [] : St }
  ∧ inv_42 kd k sc vs m x') ∧ ((bif bif kd == (3 : Int) then decide (ordV n_3 n_5 b_2 x.1.4 x.1.5 < (0 : Int)) else false then true else bif kd == (4 :
  Int) then decide (ordV n_3 n_5 b_2 x.1.4 x.1.5 > (0 : Int)) else false) = false → ∃ m x', m < n ∧ { tm := [((0 : Nat), V.d (D.v (Value.int IntKind.i64 kd))), ((1 : Nat), V.d (D.sl (List.map AV.cs vs))), ((6 : Nat), V.ref ((6 : Nat)) ((0 : Nat))), ((7 : Nat), V.d (D.v (Value.bool false))), ((10 : Nat), V.ref ((10 : Nat)) ((0 : Nat))), ((11 : Nat), V.d (D.v (Value.int IntKind.i64 (IntKind.i64.wrap (x.2 + (1 : Int))))))], hp := [((5 : Nat), B.box [V.d (D.v (Value.int IntKind.i64 k)), V.d (D.v (Value.int IntKind.i64 sc))]), ((6 : Nat), B.box [V.d (D.v (Value.int IntKind.i64 (0 : Int))), V.d (D.v (Value.int IntKind.i64 (0 : Int))), V.d (D.v (Value.bool false)), V.d (D.v (Value.int IntKind.i64 (0 : Int))), V.d (D.v (Value.string { data := { toList := [] : Array UInt8 } : ByteArray }))]), ((10 : Nat), B.box [V.d (D.v (Value.int IntKind.i64 x.1.1)), V.d (D.v (Value.int IntKind.i64 x.1.2)), V.d (D.v (Value.bool x.1.3)), V.d (D.v (Value.int IntKind.i64 x.1.4)), V.d (D.v (Value.string x.1.5))])], kn := [], gd := [] : St }
  = { tm := [((0 : Nat), V.d (D.v (Value.int IntKind.i64 kd))), ((1 : Nat), V.d (D.sl (List.map AV.cs vs))), ((6 : Nat), V.ref ((6 : Nat)) ((0 : Nat))), ((7 : Nat), V.d (D.v (Value.bool false))), ((10 : Nat), V.ref ((10 : Nat)) ((0 : Nat))), ((11 : Nat), V.d (D.v (Value.int IntKind.i64 x'.2)))], hp := [((5 : Nat), B.box [V.d (D.v (Value.int IntKind.i64 k)), V.d (D.v (Value.int IntKind.i64 sc))]), ((6 : Nat), B.box [V.d (D.v (Value.int IntKind.i64 (0 : Int))), V.d (D.v (Value.int IntKind.i64 (0 : Int))), V.d (D.v (Value.bool false)), V.d (D.v (Value.int IntKind.i64 (0 : Int))), V.d (D.v (Value.string { data := { toList := [] : Array UInt8 } : ByteArray }))]), ((10 : Nat), B.box [V.d (D.v (Value.int IntKind.i64 x'.1.1)), V.d (D.v (Value.int IntKind.i64 x'.1.2)), V.d (D.v (Value.bool x'.1.3)), V.d (D.v (Value.int IntKind.i64 x'.1.4)), V.d (D.v (Value.string x'.1.5))])], kn := [], gd := [] : St }
  ∧ inv_42 kd k sc vs m x')) ∧ (decide (x.2 < ↑es.length) = false → Q [R.agg [D.v (Value.int IntKind.i64 x.1.1), D.v (Value.int IntKind.i64 x.1.2), D.v
  (Value.bool x.1.3), D.v (Value.int IntKind.i64 x.1.4), D.v (Value.string x.1.5)], R.d (D.v (Value.bool true))] []))))) := by kernel_rfl
/-- The document's value over values that are there. -/
def refV (kd k sc : Int) (s : Sm) (vs : List AV) : AV := if kd = 1 then ofInt vs.length else if vs = [] then noneV k sc else if kd = 2 then ⟨k, sc, false, sumX vs, ⟨#[]⟩⟩ else s.b
def refB (kd k sc : Int) (vs : List AV) : Bool := if kd = 1 then true else if vs = [] then true else if kd = 2 then sumK k vs else true
def q42 (kd k sc : Int) (vs : List AV) (res : List R) (fin : List (List D)) : Prop := fin = [] ∧ ∃ s, Rep kd k sc s vs ∧ res = [.agg (refV kd k sc s vs).cs, .d (.v (.bool (refB kd k sc vs)))]
theorem better_eq (kd : Int) (b a : AV) : (bif bif kd == (3 : Int) then decide (ordV b.k b.n b.s a.n a.s < (0 : Int)) else false then true else bif kd == (4 : Int) then decide (ordV b.k b.n b.s a.n a.s > (0 : Int)) else false) = better kd b a := by
  unfold better
  cases kd == 3 <;> cases kd == 4 <;> simp
theorem ct42 (kd k sc : Int) (vs : List AV) (hl : vs.length ≤ 65536) (hg : ∀ v ∈ vs, goodV k sc v) : Ct prog 42 [.d (.v (.int .i64 kd)), .d (.sl (vs.map AV.cs)), .agg [.v (.int .i64 k), .v (.int .i64 sc)]] (q42 kd k sc vs) :=
  ct_of_vc E_ok C_b15_ok ioK_no it_ok mixed (fn := f42) (body := f42.body.getD .skip) (by kernel_rfl) (by kernel_rfl) (by kernel_rfl) (fi := fx_42 kd k sc vs) (by kernel_rfl) (by kernel_rfl) (let ⟨s, hs⟩ := rep_ex kd k sc vs hg; ⟨_, _, rfl, s, hs, rfl⟩) (by
    rw [vc42]
    obtain ⟨s0, hs0⟩ := rep_ex kd k sc vs hg
    refine ⟨fun h => ⟨_, rfl, rfl, s0, hs0, ?_⟩, fun h => ⟨_, rfl, fun h2 => ⟨rfl, s0, hs0, ?_⟩, fun h2 => ⟨fun h3 => ?_, fun h3 => ?_⟩⟩⟩
    · have h : kd = 1 := by simpa using h
      simp only [refV, refB, h, if_true, List.length_map]; rfl
    · have h : ¬ kd = 1 := by simpa using h
      have h2 : vs = [] := by simpa using h2
      simp only [refV, refB, if_neg h, if_pos h2]; rfl
    · have h : ¬ kd = 1 := by simpa using h
      have h2 : ¬ vs = [] := by simpa using h2
      have h3 : kd = 2 := by simpa using h3
      refine ⟨vs, k, sc, rfl, h2, hl, hg, rfl, s0, hs0, ?_⟩
      simp only [refV, refB, if_neg h, if_neg h2, if_pos h3]
    · have h : ¬ kd = 1 := by simpa using h
      have h2 : ¬ vs = [] := by simpa using h2
      have h3 : ¬ kd = 2 := by simpa using h3
      obtain ⟨v, tl, hv⟩ : ∃ v tl, vs = v :: tl := by cases vs with
        | nil => exact (h2 rfl).elim
        | cons v tl => exact ⟨v, tl, rfl⟩
      have hg0 := hg v (by rw [hv]; simp)
      have hlf := leaf_rep (kd := kd) (v := v) (fun _ => hg0)
      have hf1 : [v].filter (fun v => !v.nul) = [v] := by simp [hg0.nl]
      have hlv : leaf v = ⟨1, v.n, v⟩ := by simp [leaf, hg0.nl]
      refine ⟨_, rfl, ⟨by decide, by rw [hv]; simp <;> omega⟩, v.cs, by rw [hv]; rfl, rfl, _, _, _, _, _, rfl, (v, 1), ⟨rfl, vs.length - 1, 1, rfl, by omega, by rw [hv]; simp, ?_, rfl⟩, ?_⟩
      · rw [hf1, hlv] at hlf
        rw [hv]; simpa using hlf
      · rintro m ⟨b, i'⟩ ⟨i, a1, a2, a3, a4, a5⟩
        dsimp only at a1 a4 ⊢
        subst a1
        refine ⟨_, rfl, fun hi => ?_, fun hi => ?_⟩
        · have hi : i < vs.length := by simpa using hi
          have hget : (vs.map AV.cs)[(i : Int).toNat]? = some (vs[i]).cs := by simp [hi]
          have hgi := hg _ (List.getElem_mem hi)
          have hne : vs.take i ≠ [] := by
            intro e
            have := congrArg List.length e
            rw [List.length_take] at this
            simp only [List.length_nil] at this
            omega
          have hgb := hg _ (List.mem_of_mem_take (a4.eb hne))
          dsimp only at hgb
          have hlf := leaf_rep (kd := kd) (v := vs[i]) (fun _ => hgi)
          rw [show [vs[i]].filter (fun v => !v.nul) = [vs[i]] by simp [hgi.nl], show leaf vs[i] = ⟨1, (vs[i]).n, vs[i]⟩ by simp [leaf, hgi.nl]] at hlf
          have hj := a4.join hlf
          have htk : vs.take i ++ [vs[i]] = vs.take (i + 1) := by rw [List.take_add_one, List.getElem?_eq_getElem hi]; rfl
          rw [htk] at hj
          have hjs : joinS kd ⟨i, ((vs.take i).map (·.n)).sum, b⟩ ⟨1, (vs[i]).n, vs[i]⟩ = ⟨((i + 1 : Nat) : Int), ((vs.take (i + 1)).map (·.n)).sum, if better kd vs[i] b then vs[i] else b⟩ := by
            unfold joinS
            have hs : ((vs.take (i + 1)).map (·.n)).sum = ((vs.take i).map (·.n)).sum + (vs[i]).n := by rw [← htk, List.map_append, List.sum_append]; simp
            rw [if_neg (by dsimp only; omega), if_neg (by dsimp only; omega), hs]
            push_cast
            rfl
          rw [hjs] at hj
          have hbd : (0 : Int) ≤ (i : Int) ∧ (i : Int) < ((vs.map AV.cs).length : Int) := ⟨by omega, by simpa using hi⟩
          refine ⟨_, rfl, hbd, _, hget, rfl, _, _, _, _, _, rfl, ⟨by rw [hgb.ek, hgi.ek], by rw [hgb.es, hgi.es], hgi.hn, hgb.hn, hgi.nl, hgb.nl, by rw [hgi.ek]; exact hgi.k1, by rw [hgi.ek]; exact hgi.k5⟩, fun hbt => ?_, fun hbt => ?_⟩
          · rw [better_eq] at hbt
            rw [hbt, if_pos rfl] at hj
            refine ⟨_, rfl, hbd, _, hget, rfl, _, _, _, _, _, rfl, vs.length - (i + 1), (vs[i], ((i + 1 : Nat) : Int)), by omega, ?_, i + 1, rfl, by omega, hi, hj, rfl⟩
            rw [wrap_i64_of (n := (i : Int) + 1) (by omega) (by omega)]; rfl
          · rw [better_eq] at hbt
            rw [hbt, if_neg (by simp)] at hj
            refine ⟨vs.length - (i + 1), (b, ((i + 1 : Nat) : Int)), by omega, ?_, i + 1, rfl, by omega, hi, hj, rfl⟩
            rw [wrap_i64_of (n := (i : Int) + 1) (by omega) (by omega)]; rfl
        · have hi : ¬ i < vs.length := by simpa using hi
          rw [List.take_of_length_le (by omega)] at a4
          refine ⟨rfl, _, a4, ?_⟩
          simp only [refV, refB, if_neg h, if_neg h2, if_neg h3])
end Go.Proofs.Try
