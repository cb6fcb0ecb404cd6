/- A part of the proof: contracts of functions, by a verified generator of conditions; no condition of its own. -/
import Derived.Test.YtlacgjmbabghaaaAu
import Derived.Test.YtlacgjmbabghaaaAr
namespace Go.Proofs.Try
open Go Go.Dm
set_option maxRecDepth 100000
/-- A sum of wide numbers: its two words. -/
abbrev hiW (t : Int) : Int := t / 18446744073709551616
abbrev loW (t : Int) : Int := t % 18446744073709551616
abbrev in64 (n : Int) : Prop := -9223372036854775808 ≤ n ∧ n < 9223372036854775808
theorem vc19 (a0 : Int) (Q : List R → List (List D) → Prop) : vc E_0 C_26 noI fi19 (f19.body.getD .skip) f19.results.toList [.d (.v (.int .i64 a0))] Q = (
  (0 : Int) ≤ (63 : Int) ∧ Q [R.agg [D.v (Value.int IntKind.i64 (aInt.shr IntKind.i64 a0 (63 : Int))), D.v (Value.int IntKind.u64 (IntKind.u64.wrap
  a0))]] []) := by kernel_rfl
theorem ct19 (n : Int) (h : in64 n) : Ct prog 19 [.d (.v (.int .i64 n))] (gives [.agg [.v (.int .i64 (hiW n)), .v (.int .u64 (loW n))]]) :=
  ct_of_vc E_ok C_26_ok ioK_no it_ok mixed (fn := f19) (body := f19.body.getD .skip) (by kernel_rfl) (by kernel_rfl) (by kernel_rfl) (fi := fi19) (by kernel_rfl) (by kernel_rfl) ⟨_, _, rfl, rfl⟩ (by
    rw [vc19]
    refine ⟨by decide, ?_, rfl⟩
    rw [shr63, wrap_u64]
    have : n / 9223372036854775808 = hiW n := by unfold hiW; unfold in64 at h; omega
    rw [this])
def c_19 (a : List R) (K : List R → List (List D) → Prop) : Prop := match a with | [.d (.v (.int .i64 n))] => in64 n ∧ K [.agg [.v (.int .i64 (hiW n)), .v (.int .u64 (loW n))]] [] | _ => False
theorem c_19_ok (a : List R) (K : List R → List (List D) → Prop) (h : c_19 a K) : Ct prog 19 a K := by
  unfold c_19 at h
  split at h
  · exact (ct19 _ h.1).gives h.2
  · exact h.elim
theorem vc41 (a0 a1 : Int) (Q : List R → List (List D) → Prop) : vc E_0 C_26 noI fi41 (f41.body.getD .skip) f41.results.toList [.agg [.v (.int .i64 a0), .v (.int .u64 a1)]] Q = (
  (0 : Int) ≤ (63 : Int) ∧ ((a0 != aInt.shr IntKind.i64 (IntKind.i64.wrap a1) (63 : Int)) = true → Q [R.d (D.v (Value.int IntKind.i64 (0 : Int))), R.d
  (D.v (Value.int IntKind.i64 (10 : Int)))] []) ∧ ((a0 != aInt.shr IntKind.i64 (IntKind.i64.wrap a1) (63 : Int)) = false → Q [R.d (D.v (Value.int
  IntKind.i64 (IntKind.i64.wrap a1))), R.d (D.v (Value.int IntKind.i64 (0 : Int)))] [])) := by kernel_rfl
theorem ct41 (t : Int) : Ct prog 41 [.agg [.v (.int .i64 (hiW t)), .v (.int .u64 (loW t))]] (gives [.d (.v (.int .i64 (if in64 t then t else 0))), .d (.v (.int .i64 (if in64 t then 0 else 10)))]) :=
  ct_of_vc E_ok C_26_ok ioK_no it_ok mixed (fn := f41) (body := f41.body.getD .skip) (by kernel_rfl) (by kernel_rfl) (by kernel_rfl) (fi := fi41) (by kernel_rfl) (by kernel_rfl) ⟨_, _, rfl, rfl⟩ (by
    rw [vc41]
    refine ⟨by decide, fun h => ?_, fun h => ?_⟩
    · rw [shr63, wrap_i64] at h
      have hn : ¬ in64 t := by
        intro hi
        unfold hiW loW at h; unfold in64 at hi
        have : t / 18446744073709551616 = (if t % 18446744073709551616 % 18446744073709551616 ≥ 9223372036854775808 then t % 18446744073709551616 % 18446744073709551616 - 18446744073709551616 else t % 18446744073709551616 % 18446744073709551616) / 9223372036854775808 := by split <;> omega
        rw [this] at h
        simp at h
      rw [if_neg hn, if_neg hn]
      exact ⟨rfl, rfl⟩
    · rw [shr63, wrap_i64] at h
      have h : hiW t = (if loW t % 18446744073709551616 ≥ 9223372036854775808 then loW t % 18446744073709551616 - 18446744073709551616 else loW t % 18446744073709551616) / 9223372036854775808 := by simpa using h
      have hi : in64 t := by unfold hiW loW at h; unfold in64; split at h <;> omega
      have : IntKind.i64.wrap (loW t) = t := by rw [wrap_i64]; unfold loW; unfold in64 at hi; split <;> omega
      rw [if_pos hi, if_pos hi, this]
      exact ⟨rfl, rfl⟩)
def c_41 (a : List R) (K : List R → List (List D) → Prop) : Prop := match a with | [.agg [.v (.int .i64 h), .v (.int .u64 l)]] => ∃ t, h = hiW t ∧ l = loW t ∧ K [.d (.v (.int .i64 (if in64 t then t else 0))), .d (.v (.int .i64 (if in64 t then 0 else 10)))] [] | _ => False
theorem c_41_ok (a : List R) (K : List R → List (List D) → Prop) (h : c_41 a K) : Ct prog 41 a K := by
  unfold c_41 at h
  split at h
  · obtain ⟨t, rfl, rfl, h⟩ := h
    exact (ct41 t).gives h
  · exact h.elim
theorem vc56 (a0 a1 a2 : Int) (a3 : ByteArray) (Q : List R → List (List D) → Prop) : vc E_0 C_26 noI fi56 (f56.body.getD .skip) f56.results.toList [.d (.v (.int .i64 a0)), .d (.v (.int .i64 a1)), .d (.v (.int .i64 a2)), .d (.v (.string a3))] Q = (
  Q [R.agg [D.v (Value.int IntKind.i64 a0), D.v (Value.int IntKind.i64 a1), D.v (Value.bool false), D.v (Value.int IntKind.i64 a2), D.v (Value.string
  a3)]] []) := by kernel_rfl
def c_56 (a : List R) (K : List R → List (List D) → Prop) : Prop := match a with | [.d (.v (.int .i64 a0)), .d (.v (.int .i64 a1)), .d (.v (.int .i64 a2)), .d (.v (.string a3))] => K [.agg [.v (.int .i64 a0), .v (.int .i64 a1), .v (.bool false), .v (.int .i64 a2), .v (.string a3)]] [] | _ => False
theorem c_56_ok (a : List R) (K : List R → List (List D) → Prop) (h : c_56 a K) : Ct prog 56 a K := by
  unfold c_56 at h
  split at h
  · refine Ct.gives (r := _) (ct_of_vc E_ok C_26_ok ioK_no it_ok mixed (fn := f56) (body := f56.body.getD .skip) (by kernel_rfl) (by kernel_rfl) (by kernel_rfl) (fi := fi56) (by kernel_rfl) (by kernel_rfl) ⟨_, _, rfl, rfl⟩ ?_) h
    rw [vc56]
    exact ⟨rfl, rfl⟩
  · exact h.elim
/-- Texts in order. -/
def cmpS (a b : ByteArray) : Int := if Op.bytesLess a.toList b.toList = true then -1 else if a = b then 0 else 1
def cmpI (a b : Int) : Int := if a < b then -1 else if a = b then 0 else 1
theorem vc65 (a0 a1 : ByteArray) (Q : List R → List (List D) → Prop) : vc E_0 C_26 noI fi65 (f65.body.getD .skip) f65.results.toList [.d (.v (.string a0)), .d (.v (.string a1))] Q = (
  (Op.bytesLess a0.toList a1.toList = true → Q [R.d (D.v (Value.int IntKind.i64 (-1 : Int)))] []) ∧ (Op.bytesLess a0.toList a1.toList = false →
  ((!(Op.bytesLess a0.toList a1.toList || a0 == a1)) = true → Q [R.d (D.v (Value.int IntKind.i64 (1 : Int)))] []) ∧ ((!(Op.bytesLess a0.toList
  a1.toList || a0 == a1)) = false → Q [R.d (D.v (Value.int IntKind.i64 (0 : Int)))] []))) := by kernel_rfl
def c_65 (a : List R) (K : List R → List (List D) → Prop) : Prop := match a with | [.d (.v (.string a)), .d (.v (.string b))] => K [.d (.v (.int .i64 (cmpS a b)))] [] | _ => False
theorem c_65_ok (a : List R) (K : List R → List (List D) → Prop) (h : c_65 a K) : Ct prog 65 a K := by
  unfold c_65 at h
  split at h
  · rename_i a b
    refine Ct.gives (r := [.d (.v (.int .i64 (cmpS a b)))]) (ct_of_vc E_ok C_26_ok ioK_no it_ok mixed (fn := f65) (body := f65.body.getD .skip) (by kernel_rfl) (by kernel_rfl) (by kernel_rfl) (fi := fi65) (by kernel_rfl) (by kernel_rfl) ⟨_, _, rfl, rfl⟩ ?_) h
    rw [vc65]
    simp only [bbeq]
    refine ⟨fun h => ?_, fun h => ⟨fun h2 => ?_, fun h2 => ?_⟩⟩
    · simp [cmpS, h, gives]
    · rw [h] at h2
      have : ¬ a = b := by rintro rfl; simp at h2
      simp [cmpS, h, this, gives]
    · rw [h] at h2
      have : a = b := by simpa using h2
      subst this
      simp [cmpS, h, gives]
  · exact h.elim
def st_78 (n : Int) (x : Int × Int) : St := { tm := [(2, .d (.v (.int .i64 0))), (3, .d (.v (.int .i64 0))), (4, .d (.v (.int .i64 x.1))), (8, .d (.v (.int .i64 n))), (9, .d (.v (.int .i64 x.2)))], hp := [], kn := [], gd := [] }
def inv_78 (n : Int) (m : Nat) (x : Int × Int) : Prop := 0 ≤ x.2 ∧ x.2 ≤ n ∧ x.1 = 10 ^ x.2.toNat ∧ m = (n - x.2).toNat
def fx_78 (n : Int) : Fi := { fi78 with lx := [(5, { X := Int × Int, sh := st_78 n, P := fun _ => inv_78 n })] }
theorem vc78 (n : Int) (Q : List R → List (List D) → Prop) : vc E_0 C_26 noI (fx_78 n) (f78.body.getD .skip) f78.results.toList [.d (.v (.int .i64 n))] Q = (
  ((!s84_0 n) = true → Q [R.d (D.v (Value.int IntKind.i64 (0 : Int))), R.d (D.v (Value.int IntKind.i64 (1 : Int)))] []) ∧ ((!s84_0 n) = false → ∃ x0, ({ tm := [((2 : Nat), V.d (D.v (Value.int IntKind.i64 (0 : Int)))), ((3 : Nat), V.d (D.v (Value.int IntKind.i64 (0 : Int)))), ((4 : Nat), V.d (D.v (Value.int IntKind.i64 (1 : Int)))), ((8 : Nat), V.d (D.v (Value.int IntKind.i64 n))), ((9 : Nat), V.d (D.v (Value.int IntKind.i64 (0 : Int))))], hp := [], kn := [], gd := [] : St }
  = { tm := [((2 : Nat), V.d (D.v (Value.int IntKind.i64 (0 : Int)))), ((3 : Nat), V.d (D.v (Value.int IntKind.i64 (0 : Int)))), ((4 : Nat), V.d (D.v (Value.int IntKind.i64 x0.1))), ((8 : Nat), V.d (D.v (Value.int IntKind.i64 n))), ((9 : Nat), V.d (D.v (Value.int IntKind.i64 x0.2)))], hp := [], kn := [], gd := [] : St }
  ∧ ∃ n_1, inv_78 n n_1 x0) ∧ ∀ (n_1 : Nat) (x : { X := Int × Int, sh := st_78 n, P := fun x => inv_78 n : LX }.X), inv_78 n n_1 x → (decide (x.2 < n)
  = true → ∃ m x', m < n_1 ∧ { tm := [((2 : Nat), V.d (D.v (Value.int IntKind.i64 (0 : Int)))), ((3 : Nat), V.d (D.v (Value.int IntKind.i64 (0 : Int)))), ((4 : Nat), V.d (D.v (Value.int IntKind.i64 (IntKind.i64.wrap (x.1 * (10 : Int)))))), ((8 : Nat), V.d (D.v (Value.int IntKind.i64 n))), ((9 : Nat), V.d (D.v (Value.int IntKind.i64 (IntKind.i64.wrap (x.2 + (1 : Int))))))], hp := [], kn := [], gd := [] : St }
  = { tm := [((2 : Nat), V.d (D.v (Value.int IntKind.i64 (0 : Int)))), ((3 : Nat), V.d (D.v (Value.int IntKind.i64 (0 : Int)))), ((4 : Nat), V.d (D.v (Value.int IntKind.i64 x'.1))), ((8 : Nat), V.d (D.v (Value.int IntKind.i64 n))), ((9 : Nat), V.d (D.v (Value.int IntKind.i64 x'.2)))], hp := [], kn := [], gd := [] : St }
  ∧ inv_78 n m x') ∧ (decide (x.2 < n) = false → Q [R.d (D.v (Value.int IntKind.i64 x.1)), R.d (D.v (Value.int IntKind.i64 (0 : Int)))] []))) := by kernel_rfl
theorem pow10_lt {n : Int} (h1 : 0 ≤ n) (h2 : n ≤ 18) : (1 : Int) ≤ 10 ^ n.toNat ∧ (10 : Int) ^ n.toNat ≤ 1000000000000000000 := by
  have hn : n.toNat ≤ 18 := by omega
  have e : (10 : Int) ^ n.toNat = ((10 ^ n.toNat : Nat) : Int) := by simp
  have a1 : 1 ≤ 10 ^ n.toNat := Nat.one_le_pow _ _ (by decide)
  have a2 : 10 ^ n.toNat ≤ 10 ^ 18 := Nat.pow_le_pow_right (by decide) hn
  have a3 : (10 : Nat) ^ 18 = 1000000000000000000 := by decide
  rw [e]; omega
theorem pow10_step {n : Int} (h1 : 0 ≤ n) : (10 : Int) ^ n.toNat * 10 = 10 ^ (n + 1).toNat := by
  have : (n + 1).toNat = n.toNat + 1 := by omega
  rw [this, Int.pow_succ]
theorem ct78 (n : Int) (h1 : 0 ≤ n) (h2 : n ≤ 18) : Ct prog 78 [.d (.v (.int .i64 n))] (gives [.d (.v (.int .i64 (10 ^ n.toNat))), .d (.v (.int .i64 0))]) :=
  ct_of_vc E_ok C_26_ok ioK_no it_ok mixed (fn := f78) (body := f78.body.getD .skip) (by kernel_rfl) (by kernel_rfl) (by kernel_rfl) (fi := fx_78 n) (by kernel_rfl) (by kernel_rfl) ⟨_, _, rfl, rfl⟩ (by
    rw [vc78]
    have hs : s84_0 n = true := by simp [s84_0, h1, h2]
    rw [hs]
    refine ⟨fun h => (by cases h), fun _ => ⟨(1, 0), ⟨rfl, n.toNat, by simp [inv_78, h1]⟩, ?_⟩⟩
    rintro m ⟨p, i⟩ ⟨a1, a2, a3, a4⟩
    dsimp only at a1 a2 a3 a4 ⊢
    refine ⟨fun h => ?_, fun h => ?_⟩
    · have h : i < n := by simpa using h
      have e := pow10_lt (n := i + 1) (by omega) (by omega)
      have e2 := pow10_step a1
      refine ⟨(n - (i + 1)).toNat, (10 ^ (i + 1).toNat, i + 1), by omega, ?_, by omega, by omega, rfl, rfl⟩
      rw [a3, e2, wrap_i64_of (by omega) (by omega), wrap_i64_of (by omega) (by omega)]
    · have h : ¬ i < n := by simpa using h
      have : i = n := by omega
      subst this
      rw [a3]; exact ⟨rfl, rfl⟩)
def c_78 (a : List R) (K : List R → List (List D) → Prop) : Prop := match a with | [.d (.v (.int .i64 n))] => (0 ≤ n ∧ n ≤ 18) ∧ K [.d (.v (.int .i64 (10 ^ n.toNat))), .d (.v (.int .i64 0))] [] | _ => False
theorem c_78_ok (a : List R) (K : List R → List (List D) → Prop) (h : c_78 a K) : Ct prog 78 a K := by
  unfold c_78 at h
  split at h
  · exact (ct78 _ h.1.1 h.1.2).gives h.2
  · exact h.elim
def st_81 (n : Int) (x : Int × Int) : St := { tm := [(0, .d (.v (.int .i64 n))), (2, .d (.v (.int .i64 0))), (3, .d (.v (.int .i64 0))), (4, .d (.v (.int .i64 x.1))), (5, .d (.v (.int .i64 x.2)))], hp := [], kn := [], gd := [] }
def fx_81 (n : Int) : Fi := { fi81 with lx := [(5, { X := Int × Int, sh := st_81 n, P := fun _ => inv_78 n })] }
theorem vc81 (n : Int) (Q : List R → List (List D) → Prop) : vc E_0 C_26 noI (fx_81 n) (f81.body.getD .skip) f81.results.toList [.d (.v (.int .i64 n))] Q = (
  ((bif decide (n < (0 : Int)) then true else decide (n > (18 : Int))) = true → Q [R.d (D.v (Value.int IntKind.i64 (0 : Int))), R.d (D.v (Value.int
  IntKind.i64 (1 : Int)))] []) ∧ ((bif decide (n < (0 : Int)) then true else decide (n > (18 : Int))) = false → ∃ x0, ({ tm := [((0 : Nat), V.d (D.v (Value.int IntKind.i64 n))), ((2 : Nat), V.d (D.v (Value.int IntKind.i64 (0 : Int)))), ((3 : Nat), V.d (D.v (Value.int IntKind.i64 (0 : Int)))), ((4 : Nat), V.d (D.v (Value.int IntKind.i64 (1 : Int)))), ((5 : Nat), V.d (D.v (Value.int IntKind.i64 (0 : Int))))], hp := [], kn := [], gd := [] : St }
  = { tm := [((0 : Nat), V.d (D.v (Value.int IntKind.i64 n))), ((2 : Nat), V.d (D.v (Value.int IntKind.i64 (0 : Int)))), ((3 : Nat), V.d (D.v (Value.int IntKind.i64 (0 : Int)))), ((4 : Nat), V.d (D.v (Value.int IntKind.i64 x0.1))), ((5 : Nat), V.d (D.v (Value.int IntKind.i64 x0.2)))], hp := [], kn := [], gd := [] : St }
  ∧ ∃ n_1, inv_78 n n_1 x0) ∧ ∀ (n_1 : Nat) (x : { X := Int × Int, sh := st_81 n, P := fun x => inv_78 n : LX }.X), inv_78 n n_1 x → (decide (x.2 < n)
  = true → ∃ m x', m < n_1 ∧ { tm := [((0 : Nat), V.d (D.v (Value.int IntKind.i64 n))), ((2 : Nat), V.d (D.v (Value.int IntKind.i64 (0 : Int)))), ((3 : Nat), V.d (D.v (Value.int IntKind.i64 (0 : Int)))), ((4 : Nat), V.d (D.v (Value.int IntKind.i64 (IntKind.i64.wrap (x.1 * (10 : Int)))))), ((5 : Nat), V.d (D.v (Value.int IntKind.i64 (IntKind.i64.wrap (x.2 + (1 : Int))))))], hp := [], kn := [], gd := [] : St }
  = { tm := [((0 : Nat), V.d (D.v (Value.int IntKind.i64 n))), ((2 : Nat), V.d (D.v (Value.int IntKind.i64 (0 : Int)))), ((3 : Nat), V.d (D.v (Value.int IntKind.i64 (0 : Int)))), ((4 : Nat), V.d (D.v (Value.int IntKind.i64 x'.1))), ((5 : Nat), V.d (D.v (Value.int IntKind.i64 x'.2)))], hp := [], kn := [], gd := [] : St }
  ∧ inv_78 n m x') ∧ (decide (x.2 < n) = false → Q [R.d (D.v (Value.int IntKind.i64 x.1)), R.d (D.v (Value.int IntKind.i64 (0 : Int)))] []))) := by kernel_rfl
theorem ct81 (n : Int) (h1 : 0 ≤ n) (h2 : n ≤ 18) : Ct prog 81 [.d (.v (.int .i64 n))] (gives [.d (.v (.int .i64 (10 ^ n.toNat))), .d (.v (.int .i64 0))]) :=
  ct_of_vc E_ok C_26_ok ioK_no it_ok mixed (fn := f81) (body := f81.body.getD .skip) (by kernel_rfl) (by kernel_rfl) (by kernel_rfl) (fi := fx_81 n) (by kernel_rfl) (by kernel_rfl) ⟨_, _, rfl, rfl⟩ (by
    rw [vc81]
    have hs : (bif decide (n < (0 : Int)) then true else decide (n > (18 : Int))) = false := by
      rw [decide_eq_false (show ¬ n < 0 by omega)]
      exact decide_eq_false (by omega)
    rw [hs]
    refine ⟨fun h => (by cases h), fun _ => ⟨(1, 0), ⟨rfl, n.toNat, by simp [inv_78, h1]⟩, ?_⟩⟩
    rintro m ⟨p, i⟩ ⟨a1, a2, a3, a4⟩
    dsimp only at a1 a2 a3 a4 ⊢
    refine ⟨fun h => ?_, fun h => ?_⟩
    · have h : i < n := by simpa using h
      have e := pow10_lt (n := i + 1) (by omega) (by omega)
      have e2 := pow10_step a1
      refine ⟨(n - (i + 1)).toNat, (10 ^ (i + 1).toNat, i + 1), by omega, ?_, by omega, by omega, rfl, rfl⟩
      rw [a3, e2, wrap_i64_of (by omega) (by omega), wrap_i64_of (by omega) (by omega)]
    · have h : ¬ i < n := by simpa using h
      have : i = n := by omega
      subst this
      rw [a3]; exact ⟨rfl, rfl⟩)
def c_81 (a : List R) (K : List R → List (List D) → Prop) : Prop := match a with | [.d (.v (.int .i64 n))] => (0 ≤ n ∧ n ≤ 18) ∧ K [.d (.v (.int .i64 (10 ^ n.toNat))), .d (.v (.int .i64 0))] [] | _ => False
theorem c_81_ok (a : List R) (K : List R → List (List D) → Prop) (h : c_81 a K) : Ct prog 81 a K := by
  unfold c_81 at h
  split at h
  · exact (ct81 _ h.1.1 h.1.2).gives h.2
  · exact h.elim
theorem vc79 (a0 : Int) (Q : List R → List (List D) → Prop) : vc E_0 C_26 noI fi79 (f79.body.getD .skip) f79.results.toList [.d (.v (.int .i64 a0)), .d (.v (.int .i64 1))] Q = (
  (0 : Int) ≤ (32 : Int) ∧ (0 : Int) ≤ (32 : Int) ∧ (0 : Int) ≤ (32 : Int) ∧ (0 : Int) ≤ (32 : Int) ∧ (0 : Int) ≤ (32 : Int) ∧ (0 : Int) ≤ (32 : Int) ∧
  (0 : Int) ≤ (32 : Int) ∧ (0 : Int) ≤ (32 : Int) ∧ (decide (a0 < (0 : Int)) = true → (decide ((1 : Int) < (0 : Int)) = true → Q [R.agg [D.v (Value.int
  IntKind.i64 (IntKind.i64.wrap (IntKind.i64.wrap (IntKind.i64.wrap (IntKind.u64.wrap (IntKind.u64.wrap (IntKind.u64.wrap (aInt.shr IntKind.u64
  (IntKind.u64.wrap a0) (32 : Int) * aInt.shr IntKind.u64 (IntKind.u64.wrap (1 : Int)) (32 : Int)) + aInt.shr IntKind.u64 (IntKind.u64.wrap
  (IntKind.u64.wrap (aInt.shr IntKind.u64 (IntKind.u64.wrap a0) (32 : Int) * aInt.bits BinOp.and IntKind.u64 (IntKind.u64.wrap (1 : Int)) (4294967295 :
  Int)) + aInt.shr IntKind.u64 (IntKind.u64.wrap (aInt.bits BinOp.and IntKind.u64 (IntKind.u64.wrap a0) (4294967295 : Int) * aInt.bits BinOp.and
  IntKind.u64 (IntKind.u64.wrap (1 : Int)) (4294967295 : Int))) (32 : Int))) (32 : Int)) + aInt.shr IntKind.u64 (IntKind.u64.wrap (IntKind.u64.wrap
  (aInt.bits BinOp.and IntKind.u64 (IntKind.u64.wrap a0) (4294967295 : Int) * aInt.shr IntKind.u64 (IntKind.u64.wrap (1 : Int)) (32 : Int)) + aInt.bits
  BinOp.and IntKind.u64 (IntKind.u64.wrap (IntKind.u64.wrap (aInt.shr IntKind.u64 (IntKind.u64.wrap a0) (32 : Int) * aInt.bits BinOp.and IntKind.u64
  (IntKind.u64.wrap (1 : Int)) (4294967295 : Int)) + aInt.shr IntKind.u64 (IntKind.u64.wrap (aInt.bits BinOp.and IntKind.u64 (IntKind.u64.wrap a0)
  (4294967295 : Int) * aInt.bits BinOp.and IntKind.u64 (IntKind.u64.wrap (1 : Int)) (4294967295 : Int))) (32 : Int))) (4294967295 : Int))) (32 : Int)))
  - (1 : Int)) - a0))), D.v (Value.int IntKind.u64 (aInt.bits BinOp.or IntKind.u64 (aInt.shl IntKind.u64 (IntKind.u64.wrap (IntKind.u64.wrap (aInt.bits
  BinOp.and IntKind.u64 (IntKind.u64.wrap a0) (4294967295 : Int) * aInt.shr IntKind.u64 (IntKind.u64.wrap (1 : Int)) (32 : Int)) + aInt.bits BinOp.and
  IntKind.u64 (IntKind.u64.wrap (IntKind.u64.wrap (aInt.shr IntKind.u64 (IntKind.u64.wrap a0) (32 : Int) * aInt.bits BinOp.and IntKind.u64
  (IntKind.u64.wrap (1 : Int)) (4294967295 : Int)) + aInt.shr IntKind.u64 (IntKind.u64.wrap (aInt.bits BinOp.and IntKind.u64 (IntKind.u64.wrap a0)
  (4294967295 : Int) * aInt.bits BinOp.and IntKind.u64 (IntKind.u64.wrap (1 : Int)) (4294967295 : Int))) (32 : Int))) (4294967295 : Int))) (32 : Int))
  (aInt.bits BinOp.and IntKind.u64 (IntKind.u64.wrap (aInt.bits BinOp.and IntKind.u64 (IntKind.u64.wrap a0) (4294967295 : Int) * aInt.bits BinOp.and
  IntKind.u64 (IntKind.u64.wrap (1 : Int)) (4294967295 : Int))) (4294967295 : Int))))]] []) ∧ (decide ((1 : Int) < (0 : Int)) = false → Q [R.agg [D.v
  (Value.int IntKind.i64 (IntKind.i64.wrap (IntKind.i64.wrap (IntKind.u64.wrap (IntKind.u64.wrap (IntKind.u64.wrap (aInt.shr IntKind.u64
  (IntKind.u64.wrap a0) (32 : Int) * aInt.shr IntKind.u64 (IntKind.u64.wrap (1 : Int)) (32 : Int)) + aInt.shr IntKind.u64 (IntKind.u64.wrap
  (IntKind.u64.wrap (aInt.shr IntKind.u64 (IntKind.u64.wrap a0) (32 : Int) * aInt.bits BinOp.and IntKind.u64 (IntKind.u64.wrap (1 : Int)) (4294967295 :
  Int)) + aInt.shr IntKind.u64 (IntKind.u64.wrap (aInt.bits BinOp.and IntKind.u64 (IntKind.u64.wrap a0) (4294967295 : Int) * aInt.bits BinOp.and
  IntKind.u64 (IntKind.u64.wrap (1 : Int)) (4294967295 : Int))) (32 : Int))) (32 : Int)) + aInt.shr IntKind.u64 (IntKind.u64.wrap (IntKind.u64.wrap
  (aInt.bits BinOp.and IntKind.u64 (IntKind.u64.wrap a0) (4294967295 : Int) * aInt.shr IntKind.u64 (IntKind.u64.wrap (1 : Int)) (32 : Int)) + aInt.bits
  BinOp.and IntKind.u64 (IntKind.u64.wrap (IntKind.u64.wrap (aInt.shr IntKind.u64 (IntKind.u64.wrap a0) (32 : Int) * aInt.bits BinOp.and IntKind.u64
  (IntKind.u64.wrap (1 : Int)) (4294967295 : Int)) + aInt.shr IntKind.u64 (IntKind.u64.wrap (aInt.bits BinOp.and IntKind.u64 (IntKind.u64.wrap a0)
  (4294967295 : Int) * aInt.bits BinOp.and IntKind.u64 (IntKind.u64.wrap (1 : Int)) (4294967295 : Int))) (32 : Int))) (4294967295 : Int))) (32 : Int)))
  - (1 : Int)))), D.v (Value.int IntKind.u64 (aInt.bits BinOp.or IntKind.u64 (aInt.shl IntKind.u64 (IntKind.u64.wrap (IntKind.u64.wrap (aInt.bits
  BinOp.and IntKind.u64 (IntKind.u64.wrap a0) (4294967295 : Int) * aInt.shr IntKind.u64 (IntKind.u64.wrap (1 : Int)) (32 : Int)) + aInt.bits BinOp.and
  IntKind.u64 (IntKind.u64.wrap (IntKind.u64.wrap (aInt.shr IntKind.u64 (IntKind.u64.wrap a0) (32 : Int) * aInt.bits BinOp.and IntKind.u64
  (IntKind.u64.wrap (1 : Int)) (4294967295 : Int)) + aInt.shr IntKind.u64 (IntKind.u64.wrap (aInt.bits BinOp.and IntKind.u64 (IntKind.u64.wrap a0)
  (4294967295 : Int) * aInt.bits BinOp.and IntKind.u64 (IntKind.u64.wrap (1 : Int)) (4294967295 : Int))) (32 : Int))) (4294967295 : Int))) (32 : Int))
  (aInt.bits BinOp.and IntKind.u64 (IntKind.u64.wrap (aInt.bits BinOp.and IntKind.u64 (IntKind.u64.wrap a0) (4294967295 : Int) * aInt.bits BinOp.and
  IntKind.u64 (IntKind.u64.wrap (1 : Int)) (4294967295 : Int))) (4294967295 : Int))))]] [])) ∧ (decide (a0 < (0 : Int)) = false → (decide ((1 : Int) <
  (0 : Int)) = true → Q [R.agg [D.v (Value.int IntKind.i64 (IntKind.i64.wrap (IntKind.i64.wrap (IntKind.u64.wrap (IntKind.u64.wrap (IntKind.u64.wrap
  (aInt.shr IntKind.u64 (IntKind.u64.wrap a0) (32 : Int) * aInt.shr IntKind.u64 (IntKind.u64.wrap (1 : Int)) (32 : Int)) + aInt.shr IntKind.u64
  (IntKind.u64.wrap (IntKind.u64.wrap (aInt.shr IntKind.u64 (IntKind.u64.wrap a0) (32 : Int) * aInt.bits BinOp.and IntKind.u64 (IntKind.u64.wrap (1 :
  Int)) (4294967295 : Int)) + aInt.shr IntKind.u64 (IntKind.u64.wrap (aInt.bits BinOp.and IntKind.u64 (IntKind.u64.wrap a0) (4294967295 : Int) *
  aInt.bits BinOp.and IntKind.u64 (IntKind.u64.wrap (1 : Int)) (4294967295 : Int))) (32 : Int))) (32 : Int)) + aInt.shr IntKind.u64 (IntKind.u64.wrap
  (IntKind.u64.wrap (aInt.bits BinOp.and IntKind.u64 (IntKind.u64.wrap a0) (4294967295 : Int) * aInt.shr IntKind.u64 (IntKind.u64.wrap (1 : Int)) (32 :
  Int)) + aInt.bits BinOp.and IntKind.u64 (IntKind.u64.wrap (IntKind.u64.wrap (aInt.shr IntKind.u64 (IntKind.u64.wrap a0) (32 : Int) * aInt.bits
  BinOp.and IntKind.u64 (IntKind.u64.wrap (1 : Int)) (4294967295 : Int)) + aInt.shr IntKind.u64 (IntKind.u64.wrap (aInt.bits BinOp.and IntKind.u64
  (IntKind.u64.wrap a0) (4294967295 : Int) * aInt.bits BinOp.and IntKind.u64 (IntKind.u64.wrap (1 : Int)) (4294967295 : Int))) (32 : Int))) (4294967295
  : Int))) (32 : Int))) - a0))), D.v (Value.int IntKind.u64 (aInt.bits BinOp.or IntKind.u64 (aInt.shl IntKind.u64 (IntKind.u64.wrap (IntKind.u64.wrap
  (aInt.bits BinOp.and IntKind.u64 (IntKind.u64.wrap a0) (4294967295 : Int) * aInt.shr IntKind.u64 (IntKind.u64.wrap (1 : Int)) (32 : Int)) + aInt.bits
  BinOp.and IntKind.u64 (IntKind.u64.wrap (IntKind.u64.wrap (aInt.shr IntKind.u64 (IntKind.u64.wrap a0) (32 : Int) * aInt.bits BinOp.and IntKind.u64
  (IntKind.u64.wrap (1 : Int)) (4294967295 : Int)) + aInt.shr IntKind.u64 (IntKind.u64.wrap (aInt.bits BinOp.and IntKind.u64 (IntKind.u64.wrap a0)
  (4294967295 : Int) * aInt.bits BinOp.and IntKind.u64 (IntKind.u64.wrap (1 : Int)) (4294967295 : Int))) (32 : Int))) (4294967295 : Int))) (32 : Int))
  (aInt.bits BinOp.and IntKind.u64 (IntKind.u64.wrap (aInt.bits BinOp.and IntKind.u64 (IntKind.u64.wrap a0) (4294967295 : Int) * aInt.bits BinOp.and
  IntKind.u64 (IntKind.u64.wrap (1 : Int)) (4294967295 : Int))) (4294967295 : Int))))]] []) ∧ (decide ((1 : Int) < (0 : Int)) = false → Q [R.agg [D.v
  (Value.int IntKind.i64 (IntKind.i64.wrap (IntKind.u64.wrap (IntKind.u64.wrap (IntKind.u64.wrap (aInt.shr IntKind.u64 (IntKind.u64.wrap a0) (32 : Int)
  * aInt.shr IntKind.u64 (IntKind.u64.wrap (1 : Int)) (32 : Int)) + aInt.shr IntKind.u64 (IntKind.u64.wrap (IntKind.u64.wrap (aInt.shr IntKind.u64
  (IntKind.u64.wrap a0) (32 : Int) * aInt.bits BinOp.and IntKind.u64 (IntKind.u64.wrap (1 : Int)) (4294967295 : Int)) + aInt.shr IntKind.u64
  (IntKind.u64.wrap (aInt.bits BinOp.and IntKind.u64 (IntKind.u64.wrap a0) (4294967295 : Int) * aInt.bits BinOp.and IntKind.u64 (IntKind.u64.wrap (1 :
  Int)) (4294967295 : Int))) (32 : Int))) (32 : Int)) + aInt.shr IntKind.u64 (IntKind.u64.wrap (IntKind.u64.wrap (aInt.bits BinOp.and IntKind.u64
  (IntKind.u64.wrap a0) (4294967295 : Int) * aInt.shr IntKind.u64 (IntKind.u64.wrap (1 : Int)) (32 : Int)) + aInt.bits BinOp.and IntKind.u64
  (IntKind.u64.wrap (IntKind.u64.wrap (aInt.shr IntKind.u64 (IntKind.u64.wrap a0) (32 : Int) * aInt.bits BinOp.and IntKind.u64 (IntKind.u64.wrap (1 :
  Int)) (4294967295 : Int)) + aInt.shr IntKind.u64 (IntKind.u64.wrap (aInt.bits BinOp.and IntKind.u64 (IntKind.u64.wrap a0) (4294967295 : Int) *
  aInt.bits BinOp.and IntKind.u64 (IntKind.u64.wrap (1 : Int)) (4294967295 : Int))) (32 : Int))) (4294967295 : Int))) (32 : Int))))), D.v (Value.int
  IntKind.u64 (aInt.bits BinOp.or IntKind.u64 (aInt.shl IntKind.u64 (IntKind.u64.wrap (IntKind.u64.wrap (aInt.bits BinOp.and IntKind.u64
  (IntKind.u64.wrap a0) (4294967295 : Int) * aInt.shr IntKind.u64 (IntKind.u64.wrap (1 : Int)) (32 : Int)) + aInt.bits BinOp.and IntKind.u64
  (IntKind.u64.wrap (IntKind.u64.wrap (aInt.shr IntKind.u64 (IntKind.u64.wrap a0) (32 : Int) * aInt.bits BinOp.and IntKind.u64 (IntKind.u64.wrap (1 :
  Int)) (4294967295 : Int)) + aInt.shr IntKind.u64 (IntKind.u64.wrap (aInt.bits BinOp.and IntKind.u64 (IntKind.u64.wrap a0) (4294967295 : Int) *
  aInt.bits BinOp.and IntKind.u64 (IntKind.u64.wrap (1 : Int)) (4294967295 : Int))) (32 : Int))) (4294967295 : Int))) (32 : Int)) (aInt.bits BinOp.and
  IntKind.u64 (IntKind.u64.wrap (aInt.bits BinOp.and IntKind.u64 (IntKind.u64.wrap a0) (4294967295 : Int) * aInt.bits BinOp.and IntKind.u64
  (IntKind.u64.wrap (1 : Int)) (4294967295 : Int))) (4294967295 : Int))))]] []))) := by kernel_rfl
theorem ct79 (n : Int) (h : in64 n) : Ct prog 79 [.d (.v (.int .i64 n)), .d (.v (.int .i64 1))] (gives [.agg [.v (.int .i64 (hiW n)), .v (.int .u64 (loW n))]]) :=
  ct_of_vc E_ok C_26_ok ioK_no it_ok mixed (fn := f79) (body := f79.body.getD .skip) (by kernel_rfl) (by kernel_rfl) (by kernel_rfl) (fi := fi79) (by kernel_rfl) (by kernel_rfl) ⟨_, _, rfl, rfl⟩ (by
    rw [vc79]
    have w1 : IntKind.u64.wrap 1 = 1 := by decide
    have w2 : IntKind.u64.wrap 0 = 0 := by decide
    have s1 : aInt.shr .u64 1 32 = 0 := by decide
    have s0 : aInt.shr .u64 0 32 = 0 := by decide
    have b1 : aInt.bits .and .u64 1 4294967295 = 1 := by decide
    have hx : ∀ x : Int, IntKind.u64.wrap (IntKind.u64.wrap x) = IntKind.u64.wrap x := fun x => by simp only [wrap_u64]; omega
    have b2 : aInt.bits .and .u64 (IntKind.u64.wrap n) 4294967295 = IntKind.u64.wrap n % 4294967296 := and_half _ (by rw [wrap_u64]; omega) (by rw [wrap_u64]; omega)
    have u1 : IntKind.u64.wrap (IntKind.u64.wrap n % 4294967296) = IntKind.u64.wrap n % 4294967296 := by simp only [wrap_u64]; omega
    have u2 : IntKind.u64.wrap (IntKind.u64.wrap n / 4294967296) = IntKind.u64.wrap n / 4294967296 := by simp only [wrap_u64]; omega
    have z1 : (IntKind.u64.wrap n % 4294967296) / 4294967296 = 0 := by omega
    have z2 : (IntKind.u64.wrap n / 4294967296) / 4294967296 = 0 := by simp only [wrap_u64]; omega
    have b3 : aInt.bits .and .u64 (IntKind.u64.wrap n / 4294967296) 4294967295 = IntKind.u64.wrap n / 4294967296 := by
      rw [and_half _ (by rw [wrap_u64]; omega) (by rw [wrap_u64]; omega)]; rw [wrap_u64]; omega
    have b4 : aInt.bits .and .u64 (IntKind.u64.wrap n % 4294967296) 4294967295 = IntKind.u64.wrap n % 4294967296 := by
      rw [and_half _ (by rw [wrap_u64]; omega) (by rw [wrap_u64]; omega)]; rw [wrap_u64]; omega
    have o1 : aInt.bits .or .u64 (aInt.shl .u64 (IntKind.u64.wrap n / 4294967296) 32) (IntKind.u64.wrap n % 4294967296) = loW n := by
      rw [shl32u, or_add _ _ (by omega) (by omega) (by rw [wrap_u64]; omega) (by rw [wrap_u64]; omega) (by rw [wrap_u64]; omega)]
      rw [wrap_u64]; unfold loW; omega
    have i0 : IntKind.i64.wrap 0 = 0 := by decide
    have h0 : n < 0 → IntKind.i64.wrap (0 - 1) = hiW n := fun hn => by rw [wrap_i64_of (by omega) (by omega)]; unfold hiW; unfold in64 at h; omega
    have h1 : ¬ n < 0 → (0 : Int) = hiW n := fun hn => by unfold hiW; unfold in64 at h; omega
    have d0 : decide ((1 : Int) < 0) = false := by decide
    simp only [w1, w2, s1, s0, b1, shr32u, Int.mul_zero, Int.mul_one, Int.zero_add, Int.add_zero, b2, u1, u2, z1, z2, b3, b4, o1, i0, hx, d0]
    refine ⟨by decide, by decide, by decide, by decide, by decide, by decide, by decide, by decide, fun hn => ⟨fun h => (by cases h), fun _ => ?_⟩, fun hn => ⟨fun h => (by cases h), fun _ => ?_⟩⟩
    · rw [h0 (by simpa using hn)]; exact ⟨rfl, rfl⟩
    · rw [← h1 (by simpa using hn)]; exact ⟨rfl, rfl⟩)
def c_79 (a : List R) (K : List R → List (List D) → Prop) : Prop := match a with | [.d (.v (.int .i64 n)), .d (.v (.int .i64 x))] => x = 1 ∧ in64 n ∧ K [.agg [.v (.int .i64 (hiW n)), .v (.int .u64 (loW n))]] [] | _ => False
theorem c_79_ok (a : List R) (K : List R → List (List D) → Prop) (h : c_79 a K) : Ct prog 79 a K := by
  unfold c_79 at h
  split at h
  · obtain ⟨rfl, h1, h2⟩ := h
    exact (ct79 _ h1).gives h2
  · exact h.elim
def C_b1 : CallT := addC (addC (addC (addC (addC (addC (addC C_26 19 c_19) 41 c_41) 56 c_56) 65 c_65) 78 c_78) 81 c_81) 79 c_79
theorem C_b1_ok : CallsOk prog C_b1 := addC_ok (addC_ok (addC_ok (addC_ok (addC_ok (addC_ok (addC_ok C_26_ok c_19_ok) c_41_ok) c_56_ok) c_65_ok) c_78_ok) c_81_ok) c_79_ok
end Go.Proofs.Try
