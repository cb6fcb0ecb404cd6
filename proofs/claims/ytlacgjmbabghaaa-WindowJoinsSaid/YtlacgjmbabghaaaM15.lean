/- A part of the proof: contracts of functions, by a verified generator of conditions; no condition of its own. -/
import Derived.Test.YtlacgjmbabghaaaM14
namespace Go.Proofs.Try
open Go Go.Dm
set_option maxRecDepth 100000
def c_7 (a : List R) (K : List R → List (List D) → Prop) : Prop := match a with
  | [] => K [.d (.v (.bool true))] []
  | _ => False
theorem c_7_ok (a : List R) (K : List R → List (List D) → Prop) (h : c_7 a K) : Ct prog 7 a K := by
  unfold c_7 at h
  split at h
  · exact ct7.gives h
  · exact h.elim
/-- What the tree's 'Over' tells. -/
def ovL (kd k sc : Int) (vs : List AV) (fr to : Int) (v : AV) (e : Int) : Prop :=
  (¬ okS vs.length fr to ∧ v = zeroV ∧ e = 240) ∨ (okS vs.length fr to ∧ ∃ s, Rep kd k sc s (seg vs fr.toNat (to + 1).toNat) ∧ v = outV kd k sc s ∧ e = outE kd k sc s)
/-- What the reference's 'Over' tells. -/
def ovF (kd k sc : Int) (vs : List AV) (fr to : Int) (v : AV) (e : Int) : Prop :=
  (¬ okS vs.length fr to ∧ v = zeroV ∧ e = 240) ∨ (okS vs.length fr to ∧ ∃ s, Rep kd k sc s (seg vs fr.toNat (to + 1).toNat) ∧
    ((refB kd k sc (seg vs fr.toNat (to + 1).toNat) = true ∧ v = refV kd k sc s (seg vs fr.toNat (to + 1).toNat) ∧ e = 0) ∨
     (refB kd k sc (seg vs fr.toNat (to + 1).toNat) = false ∧ v = zeroV ∧ e = 141)))
theorem ov_agree {kd k sc : Int} {vs : List AV} {fr to : Int} {v w : AV} {e f : Int} (h : ovL kd k sc vs fr to v e) (h' : ovF kd k sc vs fr to w f) (ha : argBad kd k sc = false) : v = w ∧ e = f := by
  obtain ⟨g, rfl, rfl⟩ | ⟨g, s, hs, rfl, rfl⟩ := h
  · obtain ⟨_, rfl, rfl⟩ | ⟨g', _⟩ := h'
    · exact ⟨rfl, rfl⟩
    · exact absurd g' g
  · obtain ⟨g', _⟩ | ⟨_, s', hs', h2⟩ := h'
    · exact absurd g g'
    · obtain ⟨a1, a2, a3⟩ | ⟨a1, a2, a3⟩ := sum_agree hs' hs ha <;> obtain ⟨b1, rfl, rfl⟩ | ⟨b1, rfl, rfl⟩ := h2
      · exact ⟨a2, a3⟩
      · rw [a1] at b1; cases b1
      · rw [a1] at b1; cases b1
      · exact ⟨a2, a3⟩
def c_9y (a : List R) (K : List R → List (List D) → Prop) : Prop := match a with
  | [.box [.v (.int .i64 kd), .v (.int .i64 k), .v (.int .i64 sc), .sl lv, .v (.int .i64 lk)], .d (.v (.int .i64 fr)), .d (.v (.int .i64 to))] =>
    ∃ vs lvls, lv = lvD lvls ∧ TreeOk kd k sc vs lvls ∧ kd ≠ 0 ∧ lvls.length ≤ 64 ∧ (0 ≤ lk ∧ lk ≤ 4611686018427387904) ∧ in64 fr ∧ in64 to ∧
      (∀ v e lk', ovL kd k sc vs fr to v e → lk ≤ lk' → lk' ≤ lk + 2 * lvls.length → K [.agg v.cs, .d (.v (.int .i64 e))] [[.v (.int .i64 kd), .v (.int .i64 k), .v (.int .i64 sc), .sl (lvD lvls), .v (.int .i64 lk')]])
  | _ => False
theorem c_9y_ok (a : List R) (K : List R → List (List D) → Prop) (h : c_9y a K) : Ct prog 9 a K := by
  unfold c_9y at h
  split at h
  · obtain ⟨vs, lvls, rfl, h1, h2, h3, h4, h5, h6, h7⟩ := h
    refine (ct9 _ _ _ vs lvls _ _ _ h1 h2 h3 h4.1 h4.2 h5 h6).mono fun res fin hq => ?_
    obtain ⟨g, rfl, rfl⟩ | ⟨g, s, lk', g1, g2, g3, rfl, rfl⟩ := hq
    · exact h7 _ _ _ (.inl ⟨g, rfl, rfl⟩) (by omega) (by omega)
    · exact h7 _ _ lk' (.inr ⟨g, s, g1, rfl, rfl⟩) g2 g3
  · exact h.elim
def c_10y (a : List R) (K : List R → List (List D) → Prop) : Prop := match a with
  | [.ptr [.v (.int .i64 kd), .v (.int .i64 k), .v (.int .i64 sc), .sl es], .d (.v (.int .i64 fr)), .d (.v (.int .i64 to))] =>
    ∃ vs : List AV, es = vs.map AV.cs ∧ vs.length ≤ 65536 ∧ (∀ v ∈ vs, v.nul = false → goodV k sc v) ∧ in64 fr ∧ in64 to ∧
      (∀ v e, ovF kd k sc vs fr to v e → K [.agg v.cs, .d (.v (.int .i64 e))] [])
  | _ => False
theorem c_10y_ok (a : List R) (K : List R → List (List D) → Prop) (h : c_10y a K) : Ct prog 10 a K := by
  unfold c_10y at h
  split at h
  · rename_i kd k sc es fr to
    obtain ⟨vs, rfl, h1, h2, h3, h4, h5⟩ := h
    refine (ct10 _ _ _ vs _ _ h1 h2 h3 h4).mono fun res fin hq => ?_
    obtain ⟨rfl, ⟨g, rfl⟩ | ⟨g, s, g1, rfl⟩⟩ := hq
    · exact h5 _ _ (.inl ⟨g, rfl, rfl⟩)
    · by_cases g2 : refB kd k sc (seg vs fr.toNat (to + 1).toNat) = true
      · rw [if_pos g2]; exact h5 _ _ (.inr ⟨g, s, g1, .inl ⟨g2, rfl, rfl⟩⟩)
      · rw [if_neg g2]; exact h5 _ _ (.inr ⟨g, s, g1, .inr ⟨by simpa using g2, rfl, rfl⟩⟩)
  · exact h.elim
def c_5g (a : List R) (K : List R → List (List D) → Prop) : Prop := match a with
  | [.d (.v (.int .i64 kd)), .agg [.v (.int .i64 k), .v (.int .i64 sc)], .d (.sl es)] =>
    ∃ vs : List AV, es = vs.map AV.cs ∧ vs.length < 4611686018427387904 ∧ (∀ v ∈ vs, in64 v.n) ∧ ntErr kd k sc vs = 0 ∧
      (∀ lvls, TreeOk kd k sc vs lvls → lvls.length ≤ 18 → K [.box [.v (.int .i64 kd), .v (.int .i64 k), .v (.int .i64 sc), .sl (lvD lvls), .v (.int .i64 0)], .d (.v (.int .i64 0))] [])
  | _ => False
theorem c_5g_ok (a : List R) (K : List R → List (List D) → Prop) (h : c_5g a K) : Ct prog 5 a K := by
  unfold c_5g at h
  split at h
  · obtain ⟨vs, h0, h1, h2, h3, h4⟩ := h
    exact c_5_ok _ _ ⟨vs, h0, h1, h2, fun h => (h h3).elim, fun _ => h4⟩
  · exact h.elim
def c_6g (a : List R) (K : List R → List (List D) → Prop) : Prop := match a with
  | [.d (.v (.int .i64 kd)), .agg [.v (.int .i64 k), .v (.int .i64 sc)], .d (.sl es)] =>
    ∃ vs : List AV, es = vs.map AV.cs ∧ vs.length < 4611686018427387904 ∧ ntErr kd k sc vs = 0 ∧
      K [.box [.v (.int .i64 kd), .v (.int .i64 k), .v (.int .i64 sc), .sl (vs.map AV.cs)], .d (.v (.int .i64 0))] []
  | _ => False
theorem c_6g_ok (a : List R) (K : List R → List (List D) → Prop) (h : c_6g a K) : Ct prog 6 a K := by
  unfold c_6g at h
  split at h
  · obtain ⟨vs, h0, h1, h3, h4⟩ := h
    exact c_6_ok _ _ ⟨vs, h0, h1, fun h => (h h3).elim, fun _ => h4⟩
  · exact h.elim
def c_5e (a : List R) (K : List R → List (List D) → Prop) : Prop := match a with
  | [.d (.v (.int .i64 kd)), .agg [.v (.int .i64 k), .v (.int .i64 sc)], .d (.sl es)] =>
    ∃ vs : List AV, es = vs.map AV.cs ∧ vs.length < 4611686018427387904 ∧ (∀ v ∈ vs, in64 v.n) ∧ ntErr kd k sc vs ≠ 0 ∧
      K [.d (.v (.pointer none)), .d (.v (.int .i64 (ntErr kd k sc vs)))] []
  | _ => False
theorem c_5e_ok (a : List R) (K : List R → List (List D) → Prop) (h : c_5e a K) : Ct prog 5 a K := by
  unfold c_5e at h
  split at h
  · obtain ⟨vs, h0, h1, h2, h3, h4⟩ := h
    exact c_5_ok _ _ ⟨vs, h0, h1, h2, fun _ => h4, fun h => (h3 h).elim⟩
  · exact h.elim
def c_6e (a : List R) (K : List R → List (List D) → Prop) : Prop := match a with
  | [.d (.v (.int .i64 kd)), .agg [.v (.int .i64 k), .v (.int .i64 sc)], .d (.sl es)] =>
    ∃ vs : List AV, es = vs.map AV.cs ∧ vs.length < 4611686018427387904 ∧ ntErr kd k sc vs ≠ 0 ∧
      K [.d (.v (.pointer none)), .d (.v (.int .i64 (ntErr kd k sc vs)))] []
  | _ => False
theorem c_6e_ok (a : List R) (K : List R → List (List D) → Prop) (h : c_6e a K) : Ct prog 6 a K := by
  unfold c_6e at h
  split at h
  · obtain ⟨vs, h0, h1, h3, h4⟩ := h
    exact c_6_ok _ _ ⟨vs, h0, h1, fun _ => h4, fun h => (h3 h).elim⟩
  · exact h.elim
def C_b20 : CallT := addC (addC (addC C_b19 7 c_7) 9 c_9y) 10 c_10y
theorem C_b20_ok : CallsOk prog C_b20 := addC_ok (addC_ok (addC_ok C_b19_ok c_7_ok) c_9y_ok) c_10y_ok
def C_g : CallT := addC (addC C_b20 5 c_5g) 6 c_6g
theorem C_g_ok : CallsOk prog C_g := addC_ok (addC_ok C_b20_ok c_5g_ok) c_6g_ok
def C_e : CallT := addC (addC C_b20 5 c_5e) 6 c_6e
theorem C_e_ok : CallsOk prog C_e := addC_ok (addC_ok C_b20_ok c_5e_ok) c_6e_ok
def spD (sp : List (Int × Int)) : List (List D) := sp.map fun p => [.v (.int .i64 p.1), .v (.int .i64 p.2)]
def st_3 (kd k sc : Int) (vs : List AV) (sp : List (Int × Int)) (x : Int × Int × List (List Sm)) : St := { tm := [(2, .d (.sl (vs.map AV.cs))), (8, .d (.v (.bool false))), (9, .ref 24 0), (11, .ref 31 0), (50, .d (.sl (spD sp))), (51, .d (.v (.int .i64 ((spD sp).length : Int)))), (52, .d (.v (.int .i64 x.1)))], hp := [(5, .box [.d (.v (.int .i64 k)), .d (.v (.int .i64 sc))]), (24, .box [.d (.v (.int .i64 kd)), .d (.v (.int .i64 k)), .d (.v (.int .i64 sc)), .d (.sl (lvD x.2.2)), .d (.v (.int .i64 x.2.1))]), (31, .box [.d (.v (.int .i64 kd)), .d (.v (.int .i64 k)), .d (.v (.int .i64 sc)), .d (.sl (vs.map AV.cs))])], kn := [], gd := [] }
def inv_3 (kd k sc : Int) (vs : List AV) (sp : List (Int × Int)) (m : Nat) (x : Int × Int × List (List Sm)) : Prop := ∃ i : Nat, x.1 = i ∧ i ≤ sp.length ∧ 0 ≤ x.2.1 ∧ x.2.1 ≤ 36 * i ∧ TreeOk kd k sc vs x.2.2 ∧ x.2.2.length ≤ 18 ∧ m = sp.length - i
def fx_3 (kd k sc : Int) (vs : List AV) (sp : List (Int × Int)) : Fi := { fi3 with lx := [(8, { X := Int × Int × List (List Sm), sh := st_3 kd k sc vs sp, P := fun _ => inv_3 kd k sc vs sp })] }
def fy_3 : Fi := { fi3 with lp := [] }
theorem vc3g (kd k sc : Int) (vs : List AV) (sp : List (Int × Int)) (Q : List R → List (List D) → Prop) : vc E_3 C_g noI (fx_3 kd k sc vs sp) (f3.body.getD .skip) f3.results.toList [.d (.v (.int .i64 kd)), .agg [.v (.int .i64 k), .v (.int .i64 sc)], .d (.sl (vs.map AV.cs)), .d (.sl (spD sp))] Q = (
  ∃ vs_1, List.map AV.cs vs = List.map AV.cs vs_1 ∧ vs_1.length < (4611686018427387904 : Nat) ∧ (∀ (v : AV), v ∈ vs_1 → in64 v.4) ∧ ntErr kd k sc vs_1 =
  (0 : Int) ∧ ∀ (lvls : List (List Sm)), TreeOk kd k sc vs_1 lvls → lvls.length ≤ (18 : Nat) → ∃ vs_2, List.map AV.cs vs = List.map AV.cs vs_2 ∧
  vs_2.length < (4611686018427387904 : Nat) ∧ ntErr kd k sc vs_2 = (0 : Int) ∧ ((bif bif !true then true else (0 : Int) != (0 : Int) then true else
  !false == false) = true → Q [R.d (D.v (Value.bool false))] []) ∧ ((bif bif !true then true else (0 : Int) != (0 : Int) then true else !false ==
  false) = false → (false = true → Q [R.d (D.v (Value.bool true))] []) ∧ (false = false → ∃ es, D.sl (spD sp) = D.sl es ∧ ∃ x0, ({ tm := [((2 : Nat), V.d (D.sl (List.map AV.cs vs))), ((8 : Nat), V.d (D.v (Value.bool false))), ((9 : Nat), V.ref ((24 : Nat)) ((0 : Nat))), ((11 : Nat), V.ref ((31 : Nat)) ((0 : Nat))), ((50 : Nat), V.d (D.sl (spD sp))), ((51 : Nat), V.d (D.v (Value.int IntKind.i64 (es.length : Int)))), ((52 : Nat), V.d (D.v (Value.int IntKind.i64 (0 : Int))))], hp := [((5 : Nat), B.box [V.d (D.v (Value.int IntKind.i64 k)), V.d (D.v (Value.int IntKind.i64 sc))]), ((24 : Nat), B.box [V.d (D.v (Value.int IntKind.i64 kd)), V.d (D.v (Value.int IntKind.i64 k)), V.d (D.v (Value.int IntKind.i64 sc)), V.d (D.sl (lvD lvls)), V.d (D.v (Value.int IntKind.i64 (0 : Int)))]), ((31 : Nat), B.box [V.d (D.v (Value.int IntKind.i64 kd)), V.d (D.v (Value.int IntKind.i64 k)), V.d (D.v (Value.int IntKind.i64 sc)), V.d (D.sl (List.map AV.cs vs_2))])], kn := [], gd := [] : St }
  = { tm := [((2 : Nat), V.d (D.sl (List.map AV.cs vs))), ((8 : Nat), V.d (D.v (Value.bool false))), ((9 : Nat), V.ref ((24 : Nat)) ((0 : Nat))), ((11 : Nat), V.ref ((31 : Nat)) ((0 : Nat))), ((50 : Nat), V.d (D.sl (spD sp))), ((51 : Nat), V.d (D.v (Value.int IntKind.i64 ((spD sp).length : Int)))), ((52 : Nat), V.d (D.v (Value.int IntKind.i64 x0.1)))], hp := [((5 : Nat), B.box [V.d (D.v (Value.int IntKind.i64 k)), V.d (D.v (Value.int IntKind.i64 sc))]), ((24 : Nat), B.box [V.d (D.v (Value.int IntKind.i64 kd)), V.d (D.v (Value.int IntKind.i64 k)), V.d (D.v (Value.int IntKind.i64 sc)), V.d (D.sl (lvD x0.2.2)), V.d (D.v (Value.int IntKind.i64 x0.2.1))]), ((31 : Nat), B.box [V.d (D.v (Value.int IntKind.i64 kd)), V.d (D.v (Value.int IntKind.i64 k)), V.d (D.v (Value.int IntKind.i64 sc)), V.d (D.sl (List.map AV.cs vs))])], kn := [], gd := [] : St }
  ∧ ∃ n, inv_3 kd k sc vs sp n x0) ∧ ∀ (n : Nat) (x : { X := Int × Int × List (List Sm), sh := st_3 kd k sc vs sp, P := fun x => inv_3 kd k sc vs sp : LX }.X),
  inv_3 kd k sc vs sp n x → (decide (x.1 < ((spD sp).length : Int)) = true → ∃ es, D.sl (spD sp) = D.sl es ∧ ((0 : Int) ≤ x.1 ∧ x.1 < (es.length :
  Int)) ∧ ∃ cells, es[x.1.toNat]? = some cells ∧ cells.length = (2 : Nat) ∧ ∃ n_1 n_2, cut ((0 : Nat)) ((2 : Nat)) cells = some [D.v (Value.int
  IntKind.i64 n_1), D.v (Value.int IntKind.i64 n_2)] ∧ kd ≠ (0 : Int) ∧ ((0 : Int) ≤ (0 : Int) ∧ (0 : Int) < ↑((2 : Nat))) ∧ ((0 : Int) ≤ (1 : Int) ∧
  (1 : Int) < ↑((2 : Nat))) ∧ ∃ vs_3 lvls, lvD x.2.2 = lvD lvls ∧ TreeOk kd k sc vs_3 lvls ∧ kd ≠ (0 : Int) ∧ lvls.length ≤ (64 : Nat) ∧ ((0 : Int) ≤
  x.2.1 ∧ x.2.1 ≤ (4611686018427387904 : Int)) ∧ in64 n_1 ∧ in64 n_2 ∧ ∀ (v : AV) (e lk' : Int), ovL kd k sc vs_3 n_1 n_2 v e → x.2.1 ≤ lk' → lk' ≤
  x.2.1 + (2 : Int) * (lvls.length : Int) → ((0 : Int) ≤ (0 : Int) ∧ (0 : Int) < ↑((2 : Nat))) ∧ ((0 : Int) ≤ (1 : Int) ∧ (1 : Int) < ↑((2 : Nat))) ∧ ∃
  vs_4, List.map AV.cs vs = List.map AV.cs vs_4 ∧ vs_4.length ≤ (65536 : Nat) ∧ (∀ (v : AV), v ∈ vs_4 → v.3 = false → goodV k sc v) ∧ in64 n_1 ∧ in64
  n_2 ∧ ∀ (v_1 : AV) (e_1 : Int), ovF kd k sc vs_4 n_1 n_2 v_1 e_1 → kd ≠ (0 : Int) ∧ ∃ es, D.sl (List.map AV.cs vs) = D.sl es ∧ ((bif !(v.1 == v_1.1
  && (v.2 == v_1.2 && (v.3 == v_1.3 && (v.4 == v_1.4 && (v.5 == v_1.5 && true))))) then true else e != e_1) = false → ((0 : Int) ≤ IntKind.u64.wrap
  (es.length : Int) ∧ IntKind.u64.wrap (es.length : Int) ≤ (65536 : Int)) ∧ ∀ (L : Nat), L ≤ (64 : Nat) → (IntKind.u64.wrap (es.length : Int)).toNat <
  (2 : Nat) ^ L → kd ≠ (0 : Int) ∧ ((bif decide (IntKind.i64.wrap (lk' - x.2.1) > IntKind.i64.wrap ((4 : Int) * IntKind.i64.wrap ((1 : Int) + ↑L)))
  then true else decide (lk' < x.2.1)) = true → Q [R.d (D.v (Value.bool false))] []) ∧ ((bif decide (IntKind.i64.wrap (lk' - x.2.1) > IntKind.i64.wrap
  ((4 : Int) * IntKind.i64.wrap ((1 : Int) + ↑L))) then true else decide (lk' < x.2.1)) = false → ∃ m x', m < n ∧ { tm := [((2 : Nat), V.d (D.sl (List.map AV.cs vs))), ((8 : Nat), V.d (D.v (Value.bool false))), ((9 : Nat), V.ref ((24 : Nat)) ((0 : Nat))), ((11 : Nat), V.ref ((31 : Nat)) ((0 : Nat))), ((50 : Nat), V.d (D.sl (spD sp))), ((51 : Nat), V.d (D.v (Value.int IntKind.i64 ((spD sp).length : Int)))), ((52 : Nat), V.d (D.v (Value.int IntKind.i64 (IntKind.i64.wrap (x.1 + (1 : Int))))))], hp := [((5 : Nat), B.box [V.d (D.v (Value.int IntKind.i64 k)), V.d (D.v (Value.int IntKind.i64 sc))]), ((24 : Nat), B.box [V.d (D.v (Value.int IntKind.i64 kd)), V.d (D.v (Value.int IntKind.i64 k)), V.d (D.v (Value.int IntKind.i64 sc)), V.d (D.sl (lvD lvls)), V.d (D.v (Value.int IntKind.i64 lk'))]), ((31 : Nat), B.box [V.d (D.v (Value.int IntKind.i64 kd)), V.d (D.v (Value.int IntKind.i64 k)), V.d (D.v (Value.int IntKind.i64 sc)), V.d (D.sl (List.map AV.cs vs))])], kn := [], gd := [] : St }
  = { tm := [((2 : Nat), V.d (D.sl (List.map AV.cs vs))), ((8 : Nat), V.d (D.v (Value.bool false))), ((9 : Nat), V.ref ((24 : Nat)) ((0 : Nat))), ((11 : Nat), V.ref ((31 : Nat)) ((0 : Nat))), ((50 : Nat), V.d (D.sl (spD sp))), ((51 : Nat), V.d (D.v (Value.int IntKind.i64 ((spD sp).length : Int)))), ((52 : Nat), V.d (D.v (Value.int IntKind.i64 x'.1)))], hp := [((5 : Nat), B.box [V.d (D.v (Value.int IntKind.i64 k)), V.d (D.v (Value.int IntKind.i64 sc))]), ((24 : Nat), B.box [V.d (D.v (Value.int IntKind.i64 kd)), V.d (D.v (Value.int IntKind.i64 k)), V.d (D.v (Value.int IntKind.i64 sc)), V.d (D.sl (lvD x'.2.2)), V.d (D.v (Value.int IntKind.i64 x'.2.1))]), ((31 : Nat), B.box [V.d (D.v (Value.int IntKind.i64 kd)), V.d (D.v (Value.int IntKind.i64 k)), V.d (D.v (Value.int IntKind.i64 sc)), V.d (D.sl (List.map AV.cs vs))])], kn := [], gd := [] : St }
  ∧ inv_3 kd k sc vs sp m x')) ∧ ((bif !(v.1 == v_1.1 && (v.2 == v_1.2 && (v.3 == v_1.3 && (v.4 == v_1.4 && (v.5 == v_1.5 && true))))) then true else e
  != e_1) = !false → kd ≠ (0 : Int) ∧ ((bif true then true else decide (lk' < x.2.1)) = true → Q [R.d (D.v (Value.bool false))] []) ∧ ((bif true then
  true else decide (lk' < x.2.1)) = false → ∃ m x', m < n ∧ { tm := [((2 : Nat), V.d (D.sl (List.map AV.cs vs))), ((8 : Nat), V.d (D.v (Value.bool false))), ((9 : Nat), V.ref ((24 : Nat)) ((0 : Nat))), ((11 : Nat), V.ref ((31 : Nat)) ((0 : Nat))), ((50 : Nat), V.d (D.sl (spD sp))), ((51 : Nat), V.d (D.v (Value.int IntKind.i64 ((spD sp).length : Int)))), ((52 : Nat), V.d (D.v (Value.int IntKind.i64 (IntKind.i64.wrap (x.1 + (1 : Int))))))], hp := [((5 : Nat), B.box [V.d (D.v (Value.int IntKind.i64 k)), V.d (D.v (Value.int IntKind.i64 sc))]), ((24 : Nat), B.box [V.d (D.v (Value.int IntKind.i64 kd)), V.d (D.v (Value.int IntKind.i64 k)), V.d (D.v (Value.int IntKind.i64 sc)), V.d (D.sl (lvD lvls)), V.d (D.v (Value.int IntKind.i64 lk'))]), ((31 : Nat), B.box [V.d (D.v (Value.int IntKind.i64 kd)), V.d (D.v (Value.int IntKind.i64 k)), V.d (D.v (Value.int IntKind.i64 sc)), V.d (D.sl (List.map AV.cs vs))])], kn := [], gd := [] : St }
  = { tm := [((2 : Nat), V.d (D.sl (List.map AV.cs vs))), ((8 : Nat), V.d (D.v (Value.bool false))), ((9 : Nat), V.ref ((24 : Nat)) ((0 : Nat))), ((11 : Nat), V.ref ((31 : Nat)) ((0 : Nat))), ((50 : Nat), V.d (D.sl (spD sp))), ((51 : Nat), V.d (D.v (Value.int IntKind.i64 ((spD sp).length : Int)))), ((52 : Nat), V.d (D.v (Value.int IntKind.i64 x'.1)))], hp := [((5 : Nat), B.box [V.d (D.v (Value.int IntKind.i64 k)), V.d (D.v (Value.int IntKind.i64 sc))]), ((24 : Nat), B.box [V.d (D.v (Value.int IntKind.i64 kd)), V.d (D.v (Value.int IntKind.i64 k)), V.d (D.v (Value.int IntKind.i64 sc)), V.d (D.sl (lvD x'.2.2)), V.d (D.v (Value.int IntKind.i64 x'.2.1))]), ((31 : Nat), B.box [V.d (D.v (Value.int IntKind.i64 kd)), V.d (D.v (Value.int IntKind.i64 k)), V.d (D.v (Value.int IntKind.i64 sc)), V.d (D.sl (List.map AV.cs vs))])], kn := [], gd := [] : St }
  ∧ inv_3 kd k sc vs sp m x'))) ∧ (decide (x.1 < ((spD sp).length : Int)) = false → ∃ l0, kd ≠ (0 : Int) ∧ (lvD x.2.2)[(0 : Nat)]? = some [D.sl l0] ∧ ∃
  es, D.sl (List.map AV.cs vs) = D.sl es ∧ Q [R.d (D.v (Value.bool ((l0.length : Int) == (es.length : Int))))] [])))) := by kernel_rfl
theorem vc3e (kd k sc : Int) (vs : List AV) (sp : List (Int × Int)) (Q : List R → List (List D) → Prop) : vc E_3 C_e noI fy_3 (f3.body.getD .skip) f3.results.toList [.d (.v (.int .i64 kd)), .agg [.v (.int .i64 k), .v (.int .i64 sc)], .d (.sl (vs.map AV.cs)), .d (.sl (spD sp))] Q = (
  ∃ vs_1, List.map AV.cs vs = List.map AV.cs vs_1 ∧ vs_1.length < (4611686018427387904 : Nat) ∧ (∀ (v : AV), v ∈ vs_1 → in64 v.4) ∧ ntErr kd k sc vs_1 ≠
  (0 : Int) ∧ ∃ vs_2, List.map AV.cs vs = List.map AV.cs vs_2 ∧ vs_2.length < (4611686018427387904 : Nat) ∧ ntErr kd k sc vs_2 ≠ (0 : Int) ∧ ((bif bif
  !true then true else ntErr kd k sc vs_1 != ntErr kd k sc vs_2 then true else !true == true) = true → Q [R.d (D.v (Value.bool false))] []) ∧ ((bif bif
  !true then true else ntErr kd k sc vs_1 != ntErr kd k sc vs_2 then true else !true == true) = false → (true = true → Q [R.d (D.v (Value.bool true))]
  []) ∧ (true = false → ∃ es, D.sl (spD sp) = D.sl es ∧ False))) := by kernel_rfl
theorem wrap_u64_of {n : Int} (h1 : 0 ≤ n) (h2 : n < 18446744073709551616) : IntKind.u64.wrap n = n := by
  simp [IntKind.wrap, IntKind.signed, IntKind.bits]; omega
theorem ba_beq (s : ByteArray) : (s == s) = true := by
  rcases s with ⟨d⟩
  show (d == d) = true
  simp
theorem ct3 (kd k sc : Int) (vs : List AV) (sp : List (Int × Int)) (hv : vs.length < 4611686018427387904) (hin : ∀ v ∈ vs, in64 v.n) (hs : sp.length ≤ 72057594037927936) (hsp : ∀ p ∈ sp, in64 p.1 ∧ in64 p.2) :
    Ct prog 3 [.d (.v (.int .i64 kd)), .agg [.v (.int .i64 k), .v (.int .i64 sc)], .d (.sl (vs.map AV.cs)), .d (.sl (spD sp))] (gives [.d (.v (.bool true))]) := by
  by_cases he : ntErr kd k sc vs = 0
  · refine ct_of_vc E_3_ok C_g_ok ioK_no it_3 mixed (fn := f3) (body := f3.body.getD .skip) (by kernel_rfl) (by kernel_rfl) (by kernel_rfl) (fi := fx_3 kd k sc vs sp) (by kernel_rfl) (by kernel_rfl) ⟨_, _, rfl, rfl⟩ ?_
    rw [vc3g]
    obtain ⟨hb, hany, hn⟩ := ntErr_ok he
    have hgood := any_good hin hany
    have hkd : kd ≠ 0 := by
      rintro rfl
      unfold argBad at hb
      simp at hb
    refine ⟨vs, rfl, hv, hin, he, fun lvls hT hl => ⟨vs, rfl, hv, he, fun h => (by cases h), fun _ => ⟨fun h => (by cases h), fun _ => ⟨spD sp, rfl, (0, 0, lvls), ⟨rfl, sp.length, 0, rfl, Nat.zero_le _, Int.le_refl _, Int.le_refl _, hT, hl, rfl⟩, fun m x hx => ⟨fun hi => ?_, fun _ => ?_⟩⟩⟩⟩⟩
    · obtain ⟨xi, lk, lv⟩ := x
      obtain ⟨i, a1, a2, a3, a4, a5, a6, a7⟩ := hx
      dsimp only at a1 a3 a4 a5 a6 hi ⊢
      subst a1
      have hi : i < sp.length := by simpa [spD] using hi
      have hp := hsp sp[i] (List.getElem_mem hi)
      have hget : (spD sp)[(i : Int).toNat]? = some [.v (.int .i64 sp[i].1), .v (.int .i64 sp[i].2)] := by simp [spD, hi]
      refine ⟨spD sp, rfl, ⟨by omega, by simpa [spD] using hi⟩, _, hget, rfl, sp[i].1, sp[i].2, rfl, hkd, ⟨by decide, by decide⟩, ⟨by decide, by decide⟩, vs, lv, rfl, a5, hkd, by omega, ⟨a3, by omega⟩, hp.1, hp.2, fun v e lk' h1 h2 h3 => ⟨⟨by decide, by decide⟩, ⟨by decide, by decide⟩, vs, rfl, a5.n, a5.gv, hp.1, hp.2, fun w f h4 => ?_⟩⟩
      obtain ⟨rfl, rfl⟩ := ov_agree h1 h4 hb
      refine ⟨hkd, vs.map AV.cs, rfl, fun _ => ?_, fun h => ?_⟩
      · have hlen : IntKind.u64.wrap (((vs.map AV.cs).length : Nat) : Int) = (vs.length : Int) := by
          rw [List.length_map]
          exact wrap_u64_of (by omega) (by omega)
        rw [hlen]
        refine ⟨⟨by omega, by omega⟩, fun L hL h6 => ?_⟩
        have h6 : vs.length < 2 ^ L := by simpa using h6
        have hd : lk' - lk ≤ 4 * (1 + (L : Int)) := by
          by_cases h2l : 2 ≤ lv.length
          · have := a5.toTreePre.height h2l
            have h7 : 2 ^ (lv.length - 2) < 2 ^ L := Nat.lt_trans this h6
            have h8 : lv.length - 2 < L := (Nat.pow_lt_pow_iff_right (by decide)).1 h7
            omega
          · omega
        have w1 : IntKind.i64.wrap (lk' - lk) = lk' - lk := wrap_i64_of (by omega) (by omega)
        have w2 : IntKind.i64.wrap (1 + (L : Int)) = 1 + L := wrap_i64_of (by omega) (by omega)
        have w3 : IntKind.i64.wrap (4 * (1 + (L : Int))) = 4 * (1 + L) := wrap_i64_of (by omega) (by omega)
        have w4 : IntKind.i64.wrap ((i : Int) + 1) = ((i + 1 : Nat) : Int) := by rw [wrap_i64_of (by omega) (by omega)]; omega
        have hc : (bif decide (lk' - lk > 4 * (1 + (L : Int))) then true else decide (lk' < lk)) = false := by
          rw [decide_eq_false (by omega), decide_eq_false (by omega)]; rfl
        rw [w1, w2, w3, hc]
        refine ⟨hkd, fun h => (by cases h), fun _ => ⟨sp.length - (i + 1), (((i + 1 : Nat) : Int), lk', lv), by omega, by rw [w4], i + 1, rfl, by omega, by dsimp only; omega, by dsimp only; omega, a5, a6, rfl⟩⟩
      · exfalso
        have hc : (bif !(v.k == v.k && (v.sc == v.sc && (v.nul == v.nul && (v.n == v.n && (v.s == v.s && true))))) then true else e != e) = false := by
          simp [ba_beq]
        have h' : (bif !(v.k == v.k && (v.sc == v.sc && (v.nul == v.nul && (v.n == v.n && (v.s == v.s && true))))) then true else e != e) = !false := h
        rw [hc] at h'
        cases h'
    · obtain ⟨xi, lk, lv⟩ := x
      obtain ⟨i, a1, a2, a3, a4, a5, a6, a7⟩ := hx
      obtain ⟨l, h5, h6⟩ := a5.l0
      refine ⟨l.map Sm.cs, hkd, lvD_get h5, vs.map AV.cs, rfl, ?_, rfl⟩
      rw [List.length_map, List.length_map, h6]
      simp
  · refine ct_of_vc E_3_ok C_e_ok ioK_no it_3 mixed (fn := f3) (body := f3.body.getD .skip) (by kernel_rfl) (by kernel_rfl) (by kernel_rfl) (fi := fy_3) (by kernel_rfl) (by kernel_rfl) ⟨_, _, rfl, rfl⟩ ?_
    rw [vc3e]
    refine ⟨vs, rfl, hv, hin, he, vs, rfl, hv, he, fun h => ?_, fun _ => ⟨fun _ => ⟨rfl, rfl⟩, fun h => (by cases h)⟩⟩
    exfalso
    simp at h
end Go.Proofs.Try
