/- A part of the proof: contracts of functions, by a verified generator of conditions; no condition of its own. -/
import Derived.Test.YtlacgjmbabghaaaM11
namespace Go.Proofs.Try
open Go Go.Dm
set_option maxRecDepth 100000
def c_42 (a : List R) (K : List R → List (List D) → Prop) : Prop := match a with
  | [.d (.v (.int .i64 kd)), .d (.sl es), .agg [.v (.int .i64 k), .v (.int .i64 sc)]] => ∃ vs : List AV, es = vs.map AV.cs ∧ vs.length ≤ 65536 ∧ (∀ v ∈ vs, goodV k sc v) ∧ ∀ s, Rep kd k sc s vs → K [.agg (refV kd k sc s vs).cs, .d (.v (.bool (refB kd k sc vs)))] []
  | _ => False
theorem c_42_ok (a : List R) (K : List R → List (List D) → Prop) (h : c_42 a K) : Ct prog 42 a K := by
  unfold c_42 at h
  split at h
  · obtain ⟨vs, rfl, h1, h2, h3⟩ := h
    exact (ct42 _ _ _ vs h1 h2).mono fun res fin ⟨e1, s, e2, e3⟩ => by subst e1; subst e3; exact h3 s e2
  · exact h.elim
def C_b16 : CallT := addC C_b15 42 c_42
theorem C_b16_ok : CallsOk prog C_b16 := addC_ok C_b15_ok c_42_ok
theorem vc28 (kd k sc : Int) (es : List (List D)) (Q : List R → List (List D) → Prop) : vc E_0 C_b16 noI fi28 (f28.body.getD .skip) f28.results.toList [.d (.v (.int .i64 kd)), .d (.sl es), .agg [.v (.int .i64 k), .v (.int .i64 sc)]] Q = (
  ∃ vs, es = List.map AV.cs vs ∧ vs.length ≤ (65536 : Nat) ∧ (∀ (v : AV), v ∈ vs → goodV k sc v) ∧ ∀ (s : Sm), Rep kd k sc s vs → Q [R.agg [D.v
  (Value.int IntKind.i64 (refV kd k sc s vs).1), D.v (Value.int IntKind.i64 (refV kd k sc s vs).2), D.v (Value.bool (refV kd k sc s vs).3), D.v
  (Value.int IntKind.i64 (refV kd k sc s vs).4), D.v (Value.string (refV kd k sc s vs).5)], R.d (D.v (Value.bool (refB kd k sc vs)))] []) := by kernel_rfl
theorem c_28_ok (a : List R) (K : List R → List (List D) → Prop) (h : c_42 a K) : Ct prog 28 a K := by
  unfold c_42 at h
  split at h
  · rename_i kd es k sc
    obtain ⟨vs, rfl, h1, h2, h3⟩ := h
    refine Ct.mono (Q := q42 kd k sc vs) (ct_of_vc E_ok C_b16_ok ioK_no it_ok mixed (fn := f28) (body := f28.body.getD .skip) (by kernel_rfl) (by kernel_rfl) (by kernel_rfl) (fi := fi28) (by kernel_rfl) (by kernel_rfl) (let ⟨s, hs⟩ := rep_ex kd k sc vs h2; ⟨_, _, rfl, s, hs, rfl⟩) ?_) fun res fin ⟨e1, s, e2, e3⟩ => by subst e1; subst e3; exact h3 s e2
    rw [vc28]
    exact ⟨vs, rfl, h1, h2, fun s hs => ⟨rfl, s, hs, rfl⟩⟩
  · exact h.elim
def C_b17 : CallT := addC C_b16 28 c_42
theorem C_b17_ok : CallsOk prog C_b17 := addC_ok C_b16_ok c_28_ok
def st_10 (kd k sc to : Int) (vs : List AV) (x : Int × List AV) : St := { tm := [(0, .dptr [.v (.int .i64 kd), .v (.int .i64 k), .v (.int .i64 sc), .sl (vs.map AV.cs)]), (2, .d (.v (.int .i64 to))), (6, .ref 6 0), (7, .d (.v (.int .i64 0))), (8, .own 50008), (9, .d (.v (.int .i64 x.1)))], hp := [(6, .box [.d (.v (.int .i64 0)), .d (.v (.int .i64 0)), .d (.v (.bool false)), .d (.v (.int .i64 0)), .d (.v (.string ⟨#[]⟩))]), (50008, .lst 37 5 (x.2.map AV.cs))], kn := [], gd := [] }
def inv_10 (vs : List AV) (fr to : Int) (m : Nat) (x : Int × List AV) : Prop := fr ≤ x.1 ∧ x.1 ≤ to + 1 ∧ x.2 = seg vs fr.toNat x.1.toNat ∧ m = (to + 1 - x.1).toNat
def fx_10 (kd k sc : Int) (vs : List AV) (fr to : Int) : Fi := { fi10 with cv := [(5, [⟨none, 8, 50008, 37, 5⟩])], lx := [(5, { X := Int × List AV, sh := st_10 kd k sc to vs, P := fun _ => inv_10 vs fr to })] }
theorem vc10 (kd k sc : Int) (vs : List AV) (fr to : Int) (Q : List R → List (List D) → Prop) : vc E_0 C_b17 noI (fx_10 kd k sc vs fr to) (f10.body.getD .skip) f10.results.toList [.ptr [.v (.int .i64 kd), .v (.int .i64 k), .v (.int .i64 sc), .sl (vs.map AV.cs)], .d (.v (.int .i64 fr)), .d (.v (.int .i64 to))] Q = (
  ∃ es, some [D.sl (List.map AV.cs vs)] = some [D.sl es] ∧ ∃ es_1, D.sl es = D.sl es_1 ∧ ((bif bif decide (fr < (0 : Int)) then true else decide (to ≥
  ↑es_1.length) then true else bif decide (fr > to) then IntKind.i64.wrap (fr - (1 : Int)) != to else false) = true → Q [R.agg [D.v (Value.int
  IntKind.i64 (0 : Int)), D.v (Value.int IntKind.i64 (0 : Int)), D.v (Value.bool false), D.v (Value.int IntKind.i64 (0 : Int)), D.v (Value.string { data := { toList := [] : Array UInt8 } : ByteArray })],
  R.d (D.v (Value.int IntKind.i64 (240 : Int)))] []) ∧ ((bif bif decide (fr < (0 : Int)) then true else decide (to ≥ ↑es_1.length) then true else bif
  decide (fr > to) then IntKind.i64.wrap (fr - (1 : Int)) != to else false) = false → ∃ x0, ({ tm := [((0 : Nat), V.dptr [D.v (Value.int IntKind.i64 kd), D.v (Value.int IntKind.i64 k), D.v (Value.int IntKind.i64 sc), D.sl (List.map AV.cs vs)]), ((2 : Nat), V.d (D.v (Value.int IntKind.i64 to))), ((6 : Nat), V.ref ((6 : Nat)) ((0 : Nat))), ((7 : Nat), V.d (D.v (Value.int IntKind.i64 (0 : Int)))), ((8 : Nat), V.own ((50008 : Nat))), ((9 : Nat), V.d (D.v (Value.int IntKind.i64 fr)))], hp := [((6 : Nat), B.box [V.d (D.v (Value.int IntKind.i64 (0 : Int))), V.d (D.v (Value.int IntKind.i64 (0 : Int))), V.d (D.v (Value.bool false)), V.d (D.v (Value.int IntKind.i64 (0 : Int))), V.d (D.v (Value.string { data := { toList := [] : Array UInt8 } : ByteArray }))]), ((50008 : Nat), B.lst ((37 : Nat)) ((5 : Nat)) [])], kn := [], gd := [] : St }
  = { tm := [((0 : Nat), V.dptr [D.v (Value.int IntKind.i64 kd), D.v (Value.int IntKind.i64 k), D.v (Value.int IntKind.i64 sc), D.sl (List.map AV.cs vs)]), ((2 : Nat), V.d (D.v (Value.int IntKind.i64 to))), ((6 : Nat), V.ref ((6 : Nat)) ((0 : Nat))), ((7 : Nat), V.d (D.v (Value.int IntKind.i64 (0 : Int)))), ((8 : Nat), V.own ((50008 : Nat))), ((9 : Nat), V.d (D.v (Value.int IntKind.i64 x0.1)))], hp := [((6 : Nat), B.box [V.d (D.v (Value.int IntKind.i64 (0 : Int))), V.d (D.v (Value.int IntKind.i64 (0 : Int))), V.d (D.v (Value.bool false)), V.d (D.v (Value.int IntKind.i64 (0 : Int))), V.d (D.v (Value.string { data := { toList := [] : Array UInt8 } : ByteArray }))]), ((50008 : Nat), B.lst ((37 : Nat)) ((5 : Nat)) (List.map AV.cs x0.2))], kn := [], gd := [] : St }
  ∧ ∃ n, inv_10 vs fr to n x0) ∧ ∀ (n : Nat) (x : { X := Int × List AV, sh := st_10 kd k sc to vs, P := fun x => inv_10 vs fr to : LX }.X), inv_10 vs
  fr to n x → (decide (x.1 ≤ to) = true → ∃ es, some [D.sl (List.map AV.cs vs)] = some [D.sl es] ∧ ∃ es_2, D.sl es = D.sl es_2 ∧ ((0 : Int) ≤ x.1 ∧ x.1
  < ↑es_2.length) ∧ ∃ cells, es_2[x.1.toNat]? = some cells ∧ cells.length = (5 : Nat) ∧ ∃ b, cut ((0 : Nat)) ((1 : Nat)) (dropN ((2 : Nat)) cells) =
  some [D.v (Value.bool b)] ∧ ((!b) = true → ∃ es, some [D.sl (List.map AV.cs vs)] = some [D.sl es] ∧ ∃ es_3, D.sl es = D.sl es_3 ∧ ((0 : Int) ≤ x.1 ∧
  x.1 < ↑es_3.length) ∧ ∃ cells, es_3[x.1.toNat]? = some cells ∧ cells.length = (5 : Nat) ∧ ∃ n_1 n_2 b n_3 b_1, cut ((0 : Nat)) ((5 : Nat)) cells =
  some [D.v (Value.int IntKind.i64 n_1), D.v (Value.int IntKind.i64 n_2), D.v (Value.bool b), D.v (Value.int IntKind.i64 n_3), D.v (Value.string b_1)]
  ∧ (∀ (c : List D), c ∈ [[D.v (Value.int IntKind.i64 n_1), D.v (Value.int IntKind.i64 n_2), D.v (Value.bool b), D.v (Value.int IntKind.i64 n_3), D.v
  (Value.string b_1)]] → c.length = (5 : Nat)) ∧ (37 : Nat) = (37 : Nat) ∧ (5 : Nat) = (5 : Nat) ∧ ↑(List.map AV.cs x.2).length.succ * ↑((48 : Nat)) ≤
  (140737488355328 : Int) ∧ ∃ m x', m < n ∧ { tm := [((0 : Nat), V.dptr [D.v (Value.int IntKind.i64 kd), D.v (Value.int IntKind.i64 k), D.v (Value.int IntKind.i64 sc), D.sl (List.map AV.cs vs)]), ((2 : Nat), V.d (D.v (Value.int IntKind.i64 to))), ((6 : Nat), V.ref ((6 : Nat)) ((0 : Nat))), ((7 : Nat), V.d (D.v (Value.int IntKind.i64 (0 : Int)))), ((8 : Nat), V.own ((50008 : Nat))), ((9 : Nat), V.d (D.v (Value.int IntKind.i64 (IntKind.i64.wrap (x.1 + (1 : Int))))))], hp := [((6 : Nat), B.box [V.d (D.v (Value.int IntKind.i64 (0 : Int))), V.d (D.v (Value.int IntKind.i64 (0 : Int))), V.d (D.v (Value.bool false)), V.d (D.v (Value.int IntKind.i64 (0 : Int))), V.d (D.v (Value.string { data := { toList := [] : Array UInt8 } : ByteArray }))]), ((50008 : Nat), B.lst ((37 : Nat)) ((5 : Nat)) (List.map AV.cs x.2 ++ [[D.v (Value.int IntKind.i64 n_1), D.v (Value.int IntKind.i64 n_2), D.v (Value.bool b), D.v (Value.int IntKind.i64 n_3), D.v (Value.string b_1)]]))], kn := [], gd := [] : St }
  = { tm := [((0 : Nat), V.dptr [D.v (Value.int IntKind.i64 kd), D.v (Value.int IntKind.i64 k), D.v (Value.int IntKind.i64 sc), D.sl (List.map AV.cs vs)]), ((2 : Nat), V.d (D.v (Value.int IntKind.i64 to))), ((6 : Nat), V.ref ((6 : Nat)) ((0 : Nat))), ((7 : Nat), V.d (D.v (Value.int IntKind.i64 (0 : Int)))), ((8 : Nat), V.own ((50008 : Nat))), ((9 : Nat), V.d (D.v (Value.int IntKind.i64 x'.1)))], hp := [((6 : Nat), B.box [V.d (D.v (Value.int IntKind.i64 (0 : Int))), V.d (D.v (Value.int IntKind.i64 (0 : Int))), V.d (D.v (Value.bool false)), V.d (D.v (Value.int IntKind.i64 (0 : Int))), V.d (D.v (Value.string { data := { toList := [] : Array UInt8 } : ByteArray }))]), ((50008 : Nat), B.lst ((37 : Nat)) ((5 : Nat)) (List.map AV.cs x'.2))], kn := [], gd := [] : St }
  ∧ inv_10 vs fr to m x') ∧ ((!b) = false → ∃ m x', m < n ∧ { tm := [((0 : Nat), V.dptr [D.v (Value.int IntKind.i64 kd), D.v (Value.int IntKind.i64 k), D.v (Value.int IntKind.i64 sc), D.sl (List.map AV.cs vs)]), ((2 : Nat), V.d (D.v (Value.int IntKind.i64 to))), ((6 : Nat), V.ref ((6 : Nat)) ((0 : Nat))), ((7 : Nat), V.d (D.v (Value.int IntKind.i64 (0 : Int)))), ((8 : Nat), V.own ((50008 : Nat))), ((9 : Nat), V.d (D.v (Value.int IntKind.i64 (IntKind.i64.wrap (x.1 + (1 : Int))))))], hp := [((6 : Nat), B.box [V.d (D.v (Value.int IntKind.i64 (0 : Int))), V.d (D.v (Value.int IntKind.i64 (0 : Int))), V.d (D.v (Value.bool false)), V.d (D.v (Value.int IntKind.i64 (0 : Int))), V.d (D.v (Value.string { data := { toList := [] : Array UInt8 } : ByteArray }))]), ((50008 : Nat), B.lst ((37 : Nat)) ((5 : Nat)) (List.map AV.cs x.2))], kn := [], gd := [] : St }
  = { tm := [((0 : Nat), V.dptr [D.v (Value.int IntKind.i64 kd), D.v (Value.int IntKind.i64 k), D.v (Value.int IntKind.i64 sc), D.sl (List.map AV.cs vs)]), ((2 : Nat), V.d (D.v (Value.int IntKind.i64 to))), ((6 : Nat), V.ref ((6 : Nat)) ((0 : Nat))), ((7 : Nat), V.d (D.v (Value.int IntKind.i64 (0 : Int)))), ((8 : Nat), V.own ((50008 : Nat))), ((9 : Nat), V.d (D.v (Value.int IntKind.i64 x'.1)))], hp := [((6 : Nat), B.box [V.d (D.v (Value.int IntKind.i64 (0 : Int))), V.d (D.v (Value.int IntKind.i64 (0 : Int))), V.d (D.v (Value.bool false)), V.d (D.v (Value.int IntKind.i64 (0 : Int))), V.d (D.v (Value.string { data := { toList := [] : Array UInt8 } : ByteArray }))]), ((50008 : Nat), B.lst ((37 : Nat)) ((5 : Nat)) (List.map AV.cs x'.2))], kn := [], gd := [] : St }
  ∧ inv_10 vs fr to m x')) ∧ (decide (x.1 ≤ to) = false → ∃ n, some [D.v (Value.int IntKind.i64 kd)] = some [D.v (Value.int IntKind.i64 n)] ∧ ∃ n_1
  n_2, some [D.v (Value.int IntKind.i64 k), D.v (Value.int IntKind.i64 sc)] = some [D.v (Value.int IntKind.i64 n_1), D.v (Value.int IntKind.i64 n_2)] ∧
  (∃ vs, List.map AV.cs x.2 = List.map AV.cs vs ∧ vs.length ≤ (65536 : Nat) ∧ (∀ (v : AV), v ∈ vs → goodV n_1 n_2 v) ∧ ∀ (s : Sm), Rep n n_1 n_2 s vs →
  ((!refB n n_1 n_2 vs) = true → Q [R.agg [D.v (Value.int IntKind.i64 (0 : Int)), D.v (Value.int IntKind.i64 (0 : Int)), D.v (Value.bool false), D.v
  (Value.int IntKind.i64 (0 : Int)), D.v (Value.string { data := { toList := [] : Array UInt8 } : ByteArray })], R.d (D.v (Value.int IntKind.i64 (141 :
  Int)))] []) ∧ ((!refB n n_1 n_2 vs) = false → Q [R.agg [D.v (Value.int IntKind.i64 (refV n n_1 n_2 s vs).1), D.v (Value.int IntKind.i64 (refV n n_1
  n_2 s vs).2), D.v (Value.bool (refV n n_1 n_2 s vs).3), D.v (Value.int IntKind.i64 (refV n n_1 n_2 s vs).4), D.v (Value.string (refV n n_1 n_2 s
  vs).5)], R.d (D.v (Value.int IntKind.i64 (0 : Int)))] [])) ∧ ∃ vs, List.map AV.cs x.2 = List.map AV.cs vs ∧ vs.length ≤ (65536 : Nat) ∧ (∀ (v : AV),
  v ∈ vs → goodV n_1 n_2 v) ∧ ∀ (s : Sm), Rep n n_1 n_2 s vs → ((!refB n n_1 n_2 vs) = true → Q [R.agg [D.v (Value.int IntKind.i64 (0 : Int)), D.v
  (Value.int IntKind.i64 (0 : Int)), D.v (Value.bool false), D.v (Value.int IntKind.i64 (0 : Int)), D.v (Value.string { data := { toList := [] : Array UInt8 } : ByteArray })],
  R.d (D.v (Value.int IntKind.i64 (141 : Int)))] []) ∧ ((!refB n n_1 n_2 vs) = false → Q [R.agg [D.v (Value.int IntKind.i64 (refV n n_1 n_2 s vs).1),
  D.v (Value.int IntKind.i64 (refV n n_1 n_2 s vs).2), D.v (Value.bool (refV n n_1 n_2 s vs).3), D.v (Value.int IntKind.i64 (refV n n_1 n_2 s vs).4),
  D.v (Value.string (refV n n_1 n_2 s vs).5)], R.d (D.v (Value.int IntKind.i64 (0 : Int)))] [])))) := by kernel_rfl
def q10 (kd k sc : Int) (vs : List AV) (fr to : Int) (res : List R) (fin : List (List D)) : Prop := fin = [] ∧
  ((¬ (0 ≤ fr ∧ to < vs.length ∧ fr ≤ to + 1) ∧ res = [.agg zeroV.cs, .d (.v (.int .i64 240))]) ∨
   ((0 ≤ fr ∧ to < vs.length ∧ fr ≤ to + 1) ∧ ∃ s, Rep kd k sc s (seg vs fr.toNat (to + 1).toNat) ∧
     res = if refB kd k sc (seg vs fr.toNat (to + 1).toNat) = true then [.agg (refV kd k sc s (seg vs fr.toNat (to + 1).toNat)).cs, .d (.v (.int .i64 0))] else [.agg zeroV.cs, .d (.v (.int .i64 141))]))
theorem spanB {fr to : Int} {n : Nat} (hf : in64 fr) (ht : in64 to) (hn : n ≤ 65536) (b : Bool) : (bif bif decide (fr < (0 : Int)) then true else decide (to ≥ (n : Int)) then true else bif decide (fr > to) then IntKind.i64.wrap (fr - (1 : Int)) != to else false) = b → (b = true ↔ ¬ (0 ≤ fr ∧ to < n ∧ fr ≤ to + 1)) := by
  unfold in64 at hf ht
  intro h
  subst h
  by_cases g1 : fr < 0
  · rw [decide_eq_true g1]; simp; omega
  by_cases g2 : to ≥ (n : Int)
  · rw [decide_eq_false g1, decide_eq_true g2]; simp; omega
  rw [decide_eq_false g1, decide_eq_false g2]
  by_cases g3 : fr > to
  · rw [decide_eq_true g3, wrap_i64_of (by omega) (by omega)]
    simp only [cond_false, cond_true, bne_iff_ne, ne_eq]
    omega
  · rw [decide_eq_false g3]
    simp only [cond_false, Bool.false_eq_true, false_iff, Classical.not_not]
    omega
theorem ct10 (kd k sc : Int) (vs : List AV) (fr to : Int) (hl : vs.length ≤ 65536) (hg : ∀ v ∈ vs, v.nul = false → goodV k sc v) (hf : in64 fr) (ht : in64 to) :
    Ct prog 10 [.ptr [.v (.int .i64 kd), .v (.int .i64 k), .v (.int .i64 sc), .sl (vs.map AV.cs)], .d (.v (.int .i64 fr)), .d (.v (.int .i64 to))] (q10 kd k sc vs fr to) :=
  ct_of_vc E_ok C_b17_ok ioK_no it_ok mixed (fn := f10) (body := f10.body.getD .skip) (by kernel_rfl) (by kernel_rfl) (by kernel_rfl) (fi := fx_10 kd k sc vs fr to) (by kernel_rfl) (by kernel_rfl) (by
    by_cases hv : 0 ≤ fr ∧ to < vs.length ∧ fr ≤ to + 1
    · obtain ⟨s, hs⟩ := rep_ex kd k sc (seg vs fr.toNat (to + 1).toNat) (seg_good hg _ _)
      exact ⟨_, _, rfl, .inr ⟨hv, s, hs, rfl⟩⟩
    · exact ⟨_, _, rfl, .inl ⟨hv, rfl⟩⟩) (by
    rw [vc10]
    refine ⟨_, rfl, _, rfl, fun h => ?_, fun h => ?_⟩
    · rw [List.length_map] at h
      exact ⟨rfl, .inl ⟨(spanB hf ht hl _ h).1 rfl, rfl⟩⟩
    · rw [List.length_map] at h
      have hv : 0 ≤ fr ∧ to < vs.length ∧ fr ≤ to + 1 := by
        apply Classical.byContradiction
        intro hn
        have := (spanB hf ht hl _ h).2 hn
        cases this
      obtain ⟨v1, v2, v3⟩ := hv
      unfold in64 at hf ht
      refine ⟨(fr, []), ⟨rfl, (to + 1 - fr).toNat, by dsimp only; omega, v3, by dsimp only; rw [seg_self], rfl⟩, ?_⟩
      rintro m ⟨i, l⟩ ⟨a1, a2, a3, a4⟩
      dsimp only at a1 a2 a3 a4 ⊢
      subst a3
      refine ⟨fun hi => ?_, fun hi => ?_⟩
      · have hi : i ≤ to := by simpa using hi
        have hlt : i.toNat < vs.length := by omega
        have hget : (vs.map AV.cs)[i.toNat]? = some (vs[i.toNat]).cs := by simp [hlt]
        have hbd : (0 : Int) ≤ i ∧ i < ((vs.map AV.cs).length : Int) := ⟨by omega, by rw [List.length_map]; omega⟩
        have e0 : (i + 1).toNat = i.toNat + 1 := by omega
        have hseg : seg vs fr.toNat (i + 1).toNat = seg vs fr.toNat i.toNat ++ ([vs[i.toNat]].filter fun v => !v.nul) := by
          rw [e0, ← seg_one vs hlt, seg_append vs (by omega) (by omega)]
        have hsl := seg_length vs fr.toNat i.toNat
        refine ⟨_, rfl, _, rfl, hbd, _, hget, rfl, _, rfl, fun hz => ?_, fun hz => ?_⟩
        · have hz : (vs[i.toNat]).nul = false := by simpa using hz
          refine ⟨_, rfl, _, rfl, hbd, _, hget, rfl, _, _, _, _, _, rfl, by simp, rfl, rfl, by rw [List.length_map]; push_cast; omega, (to + 1 - (i + 1)).toNat, (i + 1, seg vs fr.toNat (i + 1).toNat), by omega, ?_, by dsimp only; omega, by dsimp only; omega, rfl, rfl⟩
          rw [wrap_i64_of (n := i + 1) (by omega) (by omega), hseg, show [vs[i.toNat]].filter (fun v => !v.nul) = [vs[i.toNat]] by simp [hz]]
          simp only [st_10, List.map_append, List.map_cons, List.map_nil]
        · have hz : (vs[i.toNat]).nul = true := by simpa using hz
          refine ⟨(to + 1 - (i + 1)).toNat, (i + 1, seg vs fr.toNat (i + 1).toNat), by omega, ?_, by dsimp only; omega, by dsimp only; omega, rfl, rfl⟩
          rw [wrap_i64_of (n := i + 1) (by omega) (by omega), hseg, show [vs[i.toNat]].filter (fun v => !v.nul) = [] by simp [hz], List.append_nil]
      · have hi : ¬ i ≤ to := by simpa using hi
        have : i = to + 1 := by omega
        subst this
        have hsl := seg_length vs fr.toNat (to + 1).toNat
        have hfin : ∀ s, Rep kd k sc s (seg vs fr.toNat (to + 1).toNat) → ((!refB kd k sc (seg vs fr.toNat (to + 1).toNat)) = true → q10 kd k sc vs fr to [.agg zeroV.cs, .d (.v (.int .i64 141))] []) ∧ ((!refB kd k sc (seg vs fr.toNat (to + 1).toNat)) = false → q10 kd k sc vs fr to [.agg (refV kd k sc s (seg vs fr.toNat (to + 1).toNat)).cs, .d (.v (.int .i64 0))] []) := by
          intro s hs
          refine ⟨fun h => ⟨rfl, .inr ⟨⟨v1, v2, v3⟩, s, hs, ?_⟩⟩, fun h => ⟨rfl, .inr ⟨⟨v1, v2, v3⟩, s, hs, ?_⟩⟩⟩
          · rw [if_neg (by cases hb : refB kd k sc (seg vs fr.toNat (to + 1).toNat) <;> simp_all)]
          · rw [if_pos (by cases hb : refB kd k sc (seg vs fr.toNat (to + 1).toNat) <;> simp_all)]
        exact ⟨kd, rfl, k, sc, rfl, ⟨_, rfl, by omega, seg_good hg _ _, hfin⟩, ⟨_, rfl, by omega, seg_good hg _ _, hfin⟩⟩)
theorem sum_agree {kd k sc : Int} {l : List AV} {s s' : Sm} (h : Rep kd k sc s l) (h' : Rep kd k sc s' l) (ha : argBad kd k sc = false) :
    (refB kd k sc l = true ∧ outV kd k sc s' = refV kd k sc s l ∧ outE kd k sc s' = 0) ∨ (refB kd k sc l = false ∧ outV kd k sc s' = zeroV ∧ outE kd k sc s' = 141) := by
  have hc : s'.c = 0 ↔ l = [] := by rw [h'.ec]; simp
  have hkd : ¬ kd < 1 ∧ ¬ kd > 4 ∧ s15_0 k sc = 0 ∧ (kd = 2 → k = 2 ∨ k = 3) := by
    unfold argBad at ha
    by_cases g1 : kd < 1
    · rw [decide_eq_true g1] at ha; cases ha
    by_cases g2 : kd > 4
    · rw [decide_eq_false g1, decide_eq_true g2] at ha; cases ha
    rw [decide_eq_false g1, decide_eq_false g2] at ha
    by_cases g3 : s15_0 k sc = 0
    · rw [g3] at ha
      refine ⟨g1, g2, g3, fun e => ?_⟩
      subst e
      by_cases g4 : k = 2
      · exact .inl g4
      by_cases g5 : k = 3
      · exact .inr g5
      rw [show (k != 2) = true by simpa using g4, show (k != 3) = true by simpa using g5] at ha
      cases ha
    · rw [show (s15_0 k sc != 0) = true by simpa using g3] at ha; cases ha
  obtain ⟨g1, g2, g3, g4⟩ := hkd
  unfold outV outE refV refB
  by_cases e1 : kd = 1
  · left
    simp only [if_pos e1, h'.ec]
    exact ⟨trivial, trivial, trivial⟩
  by_cases e2 : l = []
  · left
    simp only [if_neg e1, if_pos e2, if_pos (hc.2 e2)]
    exact ⟨trivial, trivial, trivial⟩
  have e2' : ¬ s'.c = 0 := fun h => e2 (hc.1 h)
  by_cases e3 : kd = 2
  · have hk := g4 e3
    simp only [if_neg e1, if_neg e2, if_pos e3, if_neg e2', if_neg (show ¬ kd ≠ 2 from fun h => h e3)]
    have ht : s'.t = (l.map (·.n)).sum := h'.et
    have hx : s18_0 k sc false s'.t ⟨#[]⟩ = 0 ↔ (bif k != 3 then true else s38_0 s'.t) = true := by
      have e0 : (({ data := #[] } : ByteArray) == { data := { toList := [] } }) = true := by rw [bbeq]; simp
      rcases hk with rfl | rfl
      · simp only [s18_0, g3]
        rw [e0]
        simp
      · simp only [s18_0, g3]
        rw [e0]
        have : s38_0 s'.t = s34_0 s'.t := rfl
        rw [this]
        cases s34_0 s'.t <;> simp
    by_cases hi : in64 s'.t
    · by_cases hb : (bif k != 3 then true else s38_0 s'.t) = true
      · left
        rw [if_pos ⟨hi, hx.2 hb⟩, if_pos ⟨hi, hx.2 hb⟩]
        unfold sumK sumX
        rw [← ht, if_pos hi, if_pos hi]
        exact ⟨hb, rfl, rfl⟩
      · right
        have hn : ¬ (in64 s'.t ∧ s18_0 k sc false s'.t ⟨#[]⟩ = 0) := fun h => hb (hx.1 h.2)
        rw [if_neg hn, if_neg hn]
        unfold sumK
        rw [← ht, if_pos hi]
        exact ⟨by simpa using hb, rfl, rfl⟩
    · right
      have hn : ¬ (in64 s'.t ∧ s18_0 k sc false s'.t ⟨#[]⟩ = 0) := fun h => hi h.1
      rw [if_neg hn, if_neg hn]
      unfold sumK
      rw [← ht, if_neg hi]
      exact ⟨rfl, rfl, rfl⟩
  · left
    simp only [if_neg e1, if_neg e2, if_neg e3, if_neg e2', if_pos (show kd ≠ 2 from e3)]
    refine ⟨trivial, ?_, trivial⟩
    have m1 := h.eb e2
    have m2 := h'.eb e2
    by_cases e4 : kd = 3
    · exact (h.g _ m2).eq (h.g _ m1) (h.mn e2 e4 _ m2) (h'.mn e2 e4 _ m1)
    · have e5 : kd = 4 := by omega
      exact (h.g _ m2).eq (h.g _ m1) (h'.mx e2 e5 _ m1) (h.mx e2 e5 _ m2)
end Go.Proofs.Try
