/- A part of the proof: contracts of functions, by a verified generator of conditions; no condition of its own. -/
import Derived.Test.YtlacgjmbabghaaaM7
namespace Go.Proofs.Try
open Go Go.Dm
set_option maxRecDepth 100000
def badV (k sc : Int) (v : AV) : Bool := !(v.k == k && (v.sc == sc && true)) || s18_0 v.k v.sc v.nul v.n v.s != 0
theorem vc17 (k sc : Int) (v : AV) (Q : List R → List (List D) → Prop) : vc E_0 C_b9 noI fi17 (f17.body.getD .skip) f17.results.toList [.agg v.cs, .ptr [.v (.int .i64 k), .v (.int .i64 sc)]] Q = (
  ∃ n n_1, some [D.v (Value.int IntKind.i64 k), D.v (Value.int IntKind.i64 sc)] = some [D.v (Value.int IntKind.i64 n), D.v (Value.int IntKind.i64 n_1)] ∧
  Q [R.d (D.v (Value.bool (bif !(v.1 == n && (v.2 == n_1 && true)) then true else s18_0 v.1 v.2 v.3 v.4 v.5 != (0 : Int))))] []) := by kernel_rfl
def c_17 (a : List R) (K : List R → List (List D) → Prop) : Prop := match a with
  | [.agg x, .ptr [.v (.int .i64 k), .v (.int .i64 sc)]] => ∃ v : AV, x = v.cs ∧ K [.d (.v (.bool (badV k sc v)))] []
  | _ => False
theorem c_17_ok (a : List R) (K : List R → List (List D) → Prop) (h : c_17 a K) : Ct prog 17 a K := by
  unfold c_17 at h
  split at h
  · rename_i x k sc
    obtain ⟨v, rfl, h⟩ := h
    refine Ct.gives (r := [.d (.v (.bool (badV k sc v)))]) (ct_of_vc E_ok C_b9_ok ioK_no it_ok mixed (fn := f17) (body := f17.body.getD .skip) (by kernel_rfl) (by kernel_rfl) (by kernel_rfl) (fi := fi17) (by kernel_rfl) (by kernel_rfl) ⟨_, _, rfl, rfl⟩ ?_) h
    rw [vc17]
    refine ⟨k, sc, rfl, ?_⟩
    have : (bif !(v.k == k && (v.sc == sc && true)) then true else s18_0 v.k v.sc v.nul v.n v.s != 0) = badV k sc v := by
      unfold badV; cases !(v.k == k && (v.sc == sc && true)) <;> rfl
    rw [this]; exact ⟨rfl, rfl⟩
  · exact h.elim
def C_b10 : CallT := addC C_b9 17 c_17
theorem C_b10_ok : CallsOk prog C_b10 := addC_ok C_b9_ok c_17_ok
def st_33 (k sc : Int) (vs : List AV) (x : Int × Int) : St := { tm := [(0, .d (.sl (vs.map AV.cs))), (1, .fn 17 [.dptr [.v (.int .i64 k), .v (.int .i64 sc)]]), (4, .d (.v (.int .i64 0))), (7, .d (.v (.int .i64 (vs.map AV.cs).length))), (8, .d (.v (.int .i64 x.1)))], hp := [], kn := [], gd := [] }
def inv_33 (k sc : Int) (vs : List AV) (m : Nat) (x : Int × Int) : Prop := ∃ i : Nat, x.1 = i ∧ i ≤ vs.length ∧ (∀ v ∈ vs.take i, badV k sc v = false) ∧ m = vs.length - i
def fx_33 (k sc : Int) (vs : List AV) : Fi := { fi33 with lx := [(2, { X := Int × Int, sh := st_33 k sc vs, P := fun _ => inv_33 k sc vs })] }
theorem vc33 (k sc : Int) (vs : List AV) (Q : List R → List (List D) → Prop) : vc E_0 C_b10 noI (fx_33 k sc vs) (f33.body.getD .skip) f33.results.toList [.d (.sl (vs.map AV.cs)), .fn 17 [.ptr [.v (.int .i64 k), .v (.int .i64 sc)]]] Q = (
  ∃ es, D.sl (List.map AV.cs vs) = D.sl es ∧ ∃ x0, ({ tm := [((0 : Nat), V.d (D.sl (List.map AV.cs vs))), ((1 : Nat), V.fn ((17 : Nat)) [V.dptr [D.v (Value.int IntKind.i64 k), D.v (Value.int IntKind.i64 sc)]]), ((4 : Nat), V.d (D.v (Value.int IntKind.i64 (0 : Int)))), ((7 : Nat), V.d (D.v (Value.int IntKind.i64 ↑es.length))), ((8 : Nat), V.d (D.v (Value.int IntKind.i64 (0 : Int))))], hp := [], kn := [], gd := [] : St }
  = { tm := [((0 : Nat), V.d (D.sl (List.map AV.cs vs))), ((1 : Nat), V.fn ((17 : Nat)) [V.dptr [D.v (Value.int IntKind.i64 k), D.v (Value.int IntKind.i64 sc)]]), ((4 : Nat), V.d (D.v (Value.int IntKind.i64 (0 : Int)))), ((7 : Nat), V.d (D.v (Value.int IntKind.i64 ↑(List.map AV.cs vs).length))), ((8 : Nat), V.d (D.v (Value.int IntKind.i64 x0.1)))], hp := [], kn := [], gd := [] : St }
  ∧ ∃ n, inv_33 k sc vs n x0) ∧ ∀ (n : Nat) (x : { X := Int × Int, sh := st_33 k sc vs, P := fun x => inv_33 k sc vs : LX }.X), inv_33 k sc vs n x →
  (decide (x.1 < ↑(List.map AV.cs vs).length) = true → ∃ es, D.sl (List.map AV.cs vs) = D.sl es ∧ ((0 : Int) ≤ x.1 ∧ x.1 < ↑es.length) ∧ ∃ cells,
  es[x.1.toNat]? = some cells ∧ cells.length = (5 : Nat) ∧ ∃ n_1 n_2 b n_3 b_1, cut ((0 : Nat)) ((5 : Nat)) cells = some [D.v (Value.int IntKind.i64
  n_1), D.v (Value.int IntKind.i64 n_2), D.v (Value.bool b), D.v (Value.int IntKind.i64 n_3), D.v (Value.string b_1)] ∧ ∃ v, [D.v (Value.int
  IntKind.i64 n_1), D.v (Value.int IntKind.i64 n_2), D.v (Value.bool b), D.v (Value.int IntKind.i64 n_3), D.v (Value.string b_1)] = v.cs ∧ (badV k sc v
  = true → Q [R.d (D.v (Value.int IntKind.i64 x.1))] []) ∧ (badV k sc v = false → ∃ m x', m < n ∧ { tm := [((0 : Nat), V.d (D.sl (List.map AV.cs vs))), ((1 : Nat), V.fn ((17 : Nat)) [V.dptr [D.v (Value.int IntKind.i64 k), D.v (Value.int IntKind.i64 sc)]]), ((4 : Nat), V.d (D.v (Value.int IntKind.i64 (0 : Int)))), ((7 : Nat), V.d (D.v (Value.int IntKind.i64 ↑(List.map AV.cs vs).length))), ((8 : Nat), V.d (D.v (Value.int IntKind.i64 (IntKind.i64.wrap (x.1 + (1 : Int))))))], hp := [], kn := [], gd := [] : St }
  = { tm := [((0 : Nat), V.d (D.sl (List.map AV.cs vs))), ((1 : Nat), V.fn ((17 : Nat)) [V.dptr [D.v (Value.int IntKind.i64 k), D.v (Value.int IntKind.i64 sc)]]), ((4 : Nat), V.d (D.v (Value.int IntKind.i64 (0 : Int)))), ((7 : Nat), V.d (D.v (Value.int IntKind.i64 ↑(List.map AV.cs vs).length))), ((8 : Nat), V.d (D.v (Value.int IntKind.i64 x'.1)))], hp := [], kn := [], gd := [] : St }
  ∧ inv_33 k sc vs m x')) ∧ (decide (x.1 < ↑(List.map AV.cs vs).length) = false → Q [R.d (D.v (Value.int IntKind.i64 (-1 : Int)))] [])) := by kernel_rfl
theorem ct33 (k sc : Int) (vs : List AV) (hl : vs.length < 4611686018427387904) : Ct prog 33 [.d (.sl (vs.map AV.cs)), .fn 17 [.ptr [.v (.int .i64 k), .v (.int .i64 sc)]]] (fun res fin => fin = [] ∧ ∃ r : Int, res = [.d (.v (.int .i64 r))] ∧ decide (r ≥ 0) = vs.any (badV k sc)) :=
  ct_of_vc E_ok C_b10_ok ioK_no it_ok mixed (fn := f33) (body := f33.body.getD .skip) (by kernel_rfl) (by kernel_rfl) (by kernel_rfl) (fi := fx_33 k sc vs) (by kernel_rfl) (by kernel_rfl) (by
    cases h : vs.any (badV k sc)
    · exact ⟨_, _, rfl, -1, rfl, rfl⟩
    · exact ⟨_, _, rfl, 0, rfl, rfl⟩) (by
    rw [vc33]
    refine ⟨_, rfl, (0, 0), ⟨rfl, vs.length, 0, rfl, by omega, by simp, rfl⟩, ?_⟩
    rintro m ⟨i', j⟩ ⟨i, a1, a2, a3, a4⟩
    dsimp only at a1 ⊢
    subst a1
    refine ⟨fun hi => ?_, fun hi => ?_⟩
    · have hi : i < vs.length := by simpa using hi
      have hg : (vs.map AV.cs)[(i : Int).toNat]? = some (vs[i]).cs := by simp [hi]
      refine ⟨_, rfl, ⟨by omega, by simpa using hi⟩, _, hg, rfl, _, _, _, _, _, rfl, vs[i], rfl, fun hb => ?_, fun hb => ?_⟩
      · refine ⟨rfl, i, rfl, ?_⟩
        rw [decide_eq_true (by omega)]
        exact (List.any_eq_true.2 ⟨vs[i], List.getElem_mem hi, hb⟩).symm
      · refine ⟨vs.length - (i + 1), (((i + 1 : Nat) : Int), 0), by omega, ?_, i + 1, rfl, hi, fun v hv => ?_, rfl⟩
        · rw [wrap_i64_of (n := (i : Int) + 1) (by omega) (by omega)]; rfl
        · rw [List.take_add_one, List.getElem?_eq_getElem hi] at hv
          rcases List.mem_append.1 hv with hv | hv
          · exact a3 v hv
          · simp at hv; subst hv; exact hb
    · have hi : ¬ i < vs.length := by simpa using hi
      rw [List.take_of_length_le (by omega)] at a3
      refine ⟨rfl, -1, rfl, ?_⟩
      have : vs.any (badV k sc) = false := by
        rw [List.any_eq_false]; intro v hv; rw [a3 v hv]; simp
      rw [this]; rfl)
def c_33 (a : List R) (K : List R → List (List D) → Prop) : Prop := match a with
  | [.d (.sl es), .fn 17 [.ptr [.v (.int .i64 k), .v (.int .i64 sc)]]] => ∃ vs : List AV, es = vs.map AV.cs ∧ vs.length < 4611686018427387904 ∧ ∀ r : Int, decide (r ≥ 0) = vs.any (badV k sc) → K [.d (.v (.int .i64 r))] []
  | _ => False
theorem c_33_ok (a : List R) (K : List R → List (List D) → Prop) (h : c_33 a K) : Ct prog 33 a K := by
  unfold c_33 at h
  split at h
  · rename_i es k sc
    obtain ⟨vs, rfl, h1, h2⟩ := h
    exact (ct33 k sc vs h1).mono fun res fin ⟨e1, r, e2, e3⟩ => by subst e1; subst e2; exact h2 r e3
  · exact h.elim
def C_b11 : CallT := addC C_b10 33 c_33
theorem C_b11_ok : CallsOk prog C_b11 := addC_ok C_b10_ok c_33_ok
theorem vc16 (k sc : Int) (es : List (List D)) (Q : List R → List (List D) → Prop) : vc E_0 C_b11 noI fi16 (f16.body.getD .skip) f16.results.toList [.d (.sl es), .fn 17 [.ptr [.v (.int .i64 k), .v (.int .i64 sc)]]] Q = (
  ∃ vs, es = List.map AV.cs vs ∧ vs.length < (4611686018427387904 : Nat) ∧ ∀ (r : Int), decide (r ≥ (0 : Int)) = vs.any (badV k sc) → Q [R.d (D.v
  (Value.bool (decide (r ≥ (0 : Int)))))] []) := by kernel_rfl
def c_16 (a : List R) (K : List R → List (List D) → Prop) : Prop := match a with
  | [.d (.sl es), .fn 17 [.ptr [.v (.int .i64 k), .v (.int .i64 sc)]]] => ∃ vs : List AV, es = vs.map AV.cs ∧ vs.length < 4611686018427387904 ∧ K [.d (.v (.bool (vs.any (badV k sc))))] []
  | _ => False
theorem c_16_ok (a : List R) (K : List R → List (List D) → Prop) (h : c_16 a K) : Ct prog 16 a K := by
  unfold c_16 at h
  split at h
  · rename_i es k sc
    obtain ⟨vs, rfl, h1, h2⟩ := h
    refine Ct.gives (r := [.d (.v (.bool (vs.any (badV k sc))))]) (ct_of_vc E_ok C_b11_ok ioK_no it_ok mixed (fn := f16) (body := f16.body.getD .skip) (by kernel_rfl) (by kernel_rfl) (by kernel_rfl) (fi := fi16) (by kernel_rfl) (by kernel_rfl) ⟨_, _, rfl, rfl⟩ ?_) h2
    rw [vc16]
    exact ⟨vs, rfl, h1, fun r hr => by rw [hr]; exact ⟨rfl, rfl⟩⟩
  · exact h.elim
def C_b12 : CallT := addC (addC C_b11 16 c_16) 19 c_19
theorem C_b12_ok : CallsOk prog C_b12 := addC_ok (addC_ok C_b11_ok c_16_ok) c_19_ok
end Go.Proofs.Try
