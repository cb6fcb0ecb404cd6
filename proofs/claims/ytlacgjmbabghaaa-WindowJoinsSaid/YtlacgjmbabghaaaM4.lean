/- A part of the proof: contracts of functions, by a verified generator of conditions; no condition of its own. -/
import Derived.Test.YtlacgjmbabghaaaM3
namespace Go.Proofs.Try
open Go Go.Dm
set_option maxRecDepth 100000
theorem vc68 (k sc : Int) (nul : Bool) (n : Int) (s : ByteArray) (d : Int) (Q : List R → List (List D) → Prop) : vc E_0 C_b1 noI fi68 (f68.body.getD .skip) f68.results.toList [.agg [.v (.int .i64 k), .v (.int .i64 sc), .v (.bool nul), .v (.int .i64 n), .v (.string s)], .d (.v (.int .i64 d))] Q = (
  ((0 : Int) ≤ IntKind.i64.wrap (d - s66_0 k sc nul n s) ∧ IntKind.i64.wrap (d - s66_0 k sc nul n s) ≤ (18 : Int)) ∧ (10 : Int) ^ (IntKind.i64.wrap (d -
  s66_0 k sc nul n s)).toNat = (1 : Int) ∧ in64 n ∧ Q [R.agg [D.v (Value.int IntKind.i64 (hiW n)), D.v (Value.int IntKind.u64 (loW n))]] []) := by kernel_rfl
def c_68 (a : List R) (K : List R → List (List D) → Prop) : Prop := match a with
  | [.agg [.v (.int .i64 k), .v (.int .i64 sc), .v (.bool nul), .v (.int .i64 n), .v (.string s)], .d (.v (.int .i64 d))] => d = s66_0 k sc nul n s ∧ in64 n ∧ K [.agg [.v (.int .i64 (hiW n)), .v (.int .u64 (loW n))]] []
  | _ => False
theorem c_68_ok (a : List R) (K : List R → List (List D) → Prop) (h : c_68 a K) : Ct prog 68 a K := by
  unfold c_68 at h
  split at h
  · rename_i k sc nul n s d
    obtain ⟨rfl, h1, h2⟩ := h
    refine Ct.gives (r := _) (ct_of_vc E_ok C_b1_ok ioK_no it_ok mixed (fn := f68) (body := f68.body.getD .skip) (by kernel_rfl) (by kernel_rfl) (by kernel_rfl) (fi := fi68) (by kernel_rfl) (by kernel_rfl) ⟨_, _, rfl, rfl⟩ ?_) h2
    rw [vc68, Int.sub_self]
    exact ⟨by decide, by decide, h1, rfl, rfl⟩
  · exact h.elim
theorem vc85 (n : Int) (Q : List R → List (List D) → Prop) : vc E_0 C_b1 noI fi85 (f85.body.getD .skip) f85.results.toList [.d (.v (.int .u64 n)), .d (.v (.int .u64 1))] Q = (
  (0 : Int) ≤ (32 : Int) ∧ (0 : Int) ≤ (32 : Int) ∧ (0 : Int) ≤ (32 : Int) ∧ (0 : Int) ≤ (32 : Int) ∧ (0 : Int) ≤ (32 : Int) ∧ (0 : Int) ≤ (32 : Int) ∧
  (0 : Int) ≤ (32 : Int) ∧ (0 : Int) ≤ (32 : Int) ∧ Q [R.d (D.v (Value.int IntKind.u64 (IntKind.u64.wrap (IntKind.u64.wrap (IntKind.u64.wrap (aInt.shr
  IntKind.u64 n (32 : Int) * aInt.shr IntKind.u64 (1 : Int) (32 : Int)) + aInt.shr IntKind.u64 (IntKind.u64.wrap (IntKind.u64.wrap (aInt.shr
  IntKind.u64 n (32 : Int) * aInt.bits BinOp.and IntKind.u64 (1 : Int) (4294967295 : Int)) + aInt.shr IntKind.u64 (IntKind.u64.wrap (aInt.bits
  BinOp.and IntKind.u64 n (4294967295 : Int) * aInt.bits BinOp.and IntKind.u64 (1 : Int) (4294967295 : Int))) (32 : Int))) (32 : Int)) + aInt.shr
  IntKind.u64 (IntKind.u64.wrap (IntKind.u64.wrap (aInt.bits BinOp.and IntKind.u64 n (4294967295 : Int) * aInt.shr IntKind.u64 (1 : Int) (32 : Int)) +
  aInt.bits BinOp.and IntKind.u64 (IntKind.u64.wrap (IntKind.u64.wrap (aInt.shr IntKind.u64 n (32 : Int) * aInt.bits BinOp.and IntKind.u64 (1 : Int)
  (4294967295 : Int)) + aInt.shr IntKind.u64 (IntKind.u64.wrap (aInt.bits BinOp.and IntKind.u64 n (4294967295 : Int) * aInt.bits BinOp.and IntKind.u64
  (1 : Int) (4294967295 : Int))) (32 : Int))) (4294967295 : Int))) (32 : Int))))), R.d (D.v (Value.int IntKind.u64 (aInt.bits BinOp.or IntKind.u64
  (aInt.shl IntKind.u64 (IntKind.u64.wrap (IntKind.u64.wrap (aInt.bits BinOp.and IntKind.u64 n (4294967295 : Int) * aInt.shr IntKind.u64 (1 : Int) (32
  : Int)) + aInt.bits BinOp.and IntKind.u64 (IntKind.u64.wrap (IntKind.u64.wrap (aInt.shr IntKind.u64 n (32 : Int) * aInt.bits BinOp.and IntKind.u64 (1
  : Int) (4294967295 : Int)) + aInt.shr IntKind.u64 (IntKind.u64.wrap (aInt.bits BinOp.and IntKind.u64 n (4294967295 : Int) * aInt.bits BinOp.and
  IntKind.u64 (1 : Int) (4294967295 : Int))) (32 : Int))) (4294967295 : Int))) (32 : Int)) (aInt.bits BinOp.and IntKind.u64 (IntKind.u64.wrap
  (aInt.bits BinOp.and IntKind.u64 n (4294967295 : Int) * aInt.bits BinOp.and IntKind.u64 (1 : Int) (4294967295 : Int))) (4294967295 : Int)))))] []) := by kernel_rfl
def c_85 (a : List R) (K : List R → List (List D) → Prop) : Prop := match a with
  | [.d (.v (.int .u64 n)), .d (.v (.int .u64 x))] => x = 1 ∧ (0 ≤ n ∧ n < 18446744073709551616) ∧ K [.d (.v (.int .u64 0)), .d (.v (.int .u64 n))] []
  | _ => False
theorem c_85_ok (a : List R) (K : List R → List (List D) → Prop) (h : c_85 a K) : Ct prog 85 a K := by
  unfold c_85 at h
  split at h
  · rename_i n x
    obtain ⟨rfl, ⟨h0, h1⟩, h2⟩ := h
    refine Ct.gives (r := [.d (.v (.int .u64 0)), .d (.v (.int .u64 n))]) (ct_of_vc E_ok C_b1_ok ioK_no it_ok mixed (fn := f85) (body := f85.body.getD .skip) (by kernel_rfl) (by kernel_rfl) (by kernel_rfl) (fi := fi85) (by kernel_rfl) (by kernel_rfl) ⟨_, _, rfl, rfl⟩ ?_) h2
    rw [vc85]
    have w1 : IntKind.u64.wrap 1 = 1 := by decide
    have w2 : IntKind.u64.wrap 0 = 0 := by decide
    have s1 : aInt.shr .u64 1 32 = 0 := by decide
    have s0 : aInt.shr .u64 0 32 = 0 := by decide
    have b1 : aInt.bits .and .u64 1 4294967295 = 1 := by decide
    have b2 : aInt.bits .and .u64 n 4294967295 = n % 4294967296 := and_half _ h0 h1
    have u1 : IntKind.u64.wrap (n % 4294967296) = n % 4294967296 := by simp only [wrap_u64]; omega
    have u2 : IntKind.u64.wrap (n / 4294967296) = n / 4294967296 := by simp only [wrap_u64]; omega
    have z1 : (n % 4294967296) / 4294967296 = 0 := by omega
    have z2 : (n / 4294967296) / 4294967296 = 0 := by omega
    have b3 : aInt.bits .and .u64 (n / 4294967296) 4294967295 = n / 4294967296 := by
      rw [and_half _ (by omega) (by omega)]; omega
    have b4 : aInt.bits .and .u64 (n % 4294967296) 4294967295 = n % 4294967296 := by
      rw [and_half _ (by omega) (by omega)]; omega
    have o1 : aInt.bits .or .u64 (aInt.shl .u64 (n / 4294967296) 32) (n % 4294967296) = n := by
      rw [shl32u, or_add _ _ (by omega) (by omega) (by omega) (by omega) (by omega)]; omega
    simp only [w1, w2, s1, s0, b1, shr32u, Int.mul_zero, Int.mul_one, Int.zero_add, Int.add_zero, b2, u1, u2, z1, z2, b3, b4, o1]
    exact ⟨by decide, by decide, by decide, by decide, by decide, by decide, by decide, by decide, rfl, rfl⟩
  · exact h.elim
def C_b2 : CallT := addC (addC C_b1 68 c_68) 85 c_85
theorem C_b2_ok : CallsOk prog C_b2 := addC_ok (addC_ok C_b1_ok c_68_ok) c_85_ok
theorem vc83 (n : Int) (Q : List R → List (List D) → Prop) : vc E_0 C_b2 noI fi83 (f83.body.getD .skip) f83.results.toList [.d (.v (.int .i64 n)), .d (.v (.int .i64 1))] Q = (
  s86_0 (1 : Int) = (1 : Int) ∧ ((0 : Int) ≤ s86_0 n ∧ s86_0 n < (18446744073709551616 : Int)) ∧ ((decide (n < (0 : Int)) == decide ((1 : Int) < (0 :
  Int))) = true → Q [R.agg [D.v (Value.int IntKind.i64 (IntKind.i64.wrap (0 : Int))), D.v (Value.int IntKind.u64 (s86_0 n))]] []) ∧ ((decide (n < (0 :
  Int)) == decide ((1 : Int) < (0 : Int))) = false → ((IntKind.u64.wrap ((0 : Int) - s86_0 n) == (0 : Int)) = true → Q [R.agg [D.v (Value.int
  IntKind.i64 (IntKind.i64.wrap (IntKind.u64.wrap (aInt.bits BinOp.xor IntKind.u64 (if IntKind.u64.signed = true then (-1 : Int) else IntKind.u64.max)
  (0 : Int) + (1 : Int))))), D.v (Value.int IntKind.u64 (IntKind.u64.wrap ((0 : Int) - s86_0 n)))]] []) ∧ ((IntKind.u64.wrap ((0 : Int) - s86_0 n) ==
  (0 : Int)) = false → Q [R.agg [D.v (Value.int IntKind.i64 (IntKind.i64.wrap (aInt.bits BinOp.xor IntKind.u64 (if IntKind.u64.signed = true then (-1 :
  Int) else IntKind.u64.max) (0 : Int)))), D.v (Value.int IntKind.u64 (IntKind.u64.wrap ((0 : Int) - s86_0 n)))]] []))) := by kernel_rfl
def c_83 (a : List R) (K : List R → List (List D) → Prop) : Prop := match a with
  | [.d (.v (.int .i64 n)), .d (.v (.int .i64 x))] => x = 1 ∧ in64 n ∧ K [.agg [.v (.int .i64 (hiW n)), .v (.int .u64 (loW n))]] []
  | _ => False
theorem c_83_ok (a : List R) (K : List R → List (List D) → Prop) (h : c_83 a K) : Ct prog 83 a K := by
  unfold c_83 at h
  split at h
  · rename_i n x
    obtain ⟨rfl, h1, h2⟩ := h
    refine Ct.gives (r := [.agg [.v (.int .i64 (hiW n)), .v (.int .u64 (loW n))]]) (ct_of_vc E_ok C_b2_ok ioK_no it_ok mixed (fn := f83) (body := f83.body.getD .skip) (by kernel_rfl) (by kernel_rfl) (by kernel_rfl) (fi := fi83) (by kernel_rfl) (by kernel_rfl) ⟨_, _, rfl, rfl⟩ ?_) h2
    rw [vc83]
    unfold in64 at h1
    have d1 : decide ((1 : Int) < 0) = false := by decide
    have hx : IntKind.i64.wrap (aInt.bits BinOp.xor IntKind.u64 (if IntKind.u64.signed = true then (-1 : Int) else IntKind.u64.max) (0 : Int)) = -1 := by decide
    refine ⟨by decide, ?_, fun h => ?_, fun h => ?_⟩
    · by_cases hn : n < 0
      · simp only [s86_0, decide_eq_true hn, cond_true, wrap_u64]; omega
      · simp only [s86_0, decide_eq_false hn, cond_false, wrap_u64]; omega
    · have hn : ¬ n < 0 := by rw [d1] at h; simpa using h
      have e1 : s86_0 n = loW n := by simp only [s86_0, decide_eq_false hn, cond_false, wrap_u64]
      have e2 : IntKind.i64.wrap 0 = hiW n := by rw [wrap_i64_of (by omega) (by omega)]; unfold hiW; omega
      rw [e1, e2]; exact ⟨rfl, rfl⟩
    · have hn : n < 0 := by rw [d1] at h; simpa using h
      have e1 : IntKind.u64.wrap (0 - s86_0 n) = loW n := by simp only [s86_0, decide_eq_true hn, cond_true, wrap_u64]; unfold loW; omega
      refine ⟨fun h2 => ?_, fun h2 => ?_⟩
      · rw [e1] at h2
        have h2 : loW n = 0 := by simpa using h2
        unfold loW at h2; omega
      · rw [e1, hx]
        have e2 : (-1 : Int) = hiW n := by unfold hiW; omega
        rw [e2]; exact ⟨rfl, rfl⟩
  · exact h.elim
/-- Two words, as cells. -/
abbrev wc (t : Int) : List D := [.v (.int .i64 (hiW t)), .v (.int .u64 (loW t))]
abbrev fitW (t : Int) : Prop := -85070591730234615865843651857942052864 ≤ t ∧ t < 85070591730234615865843651857942052864
def st_36 (ws : List (List D)) (x : Int × Int × Int) : St := { tm := [(2, .ref 2 0), (3, .ref 3 0), (6, .d (.sl ws)), (7, .d (.v (.int .i64 (ws.length : Int)))), (8, .d (.v (.int .i64 x.1)))], hp := [(2, .box [.d (.v (.int .i64 0)), .d (.v (.int .u64 0))]), (3, .box [.d (.v (.int .i64 x.2.1)), .d (.v (.int .u64 x.2.2))])], kn := [], gd := [] }
def inv_36 (ts : List Int) (m : Nat) (x : Int × Int × Int) : Prop := ∃ i : Nat, x.1 = i ∧ i ≤ ts.length ∧ x.2.1 = hiW (ts.take i).sum ∧ x.2.2 = loW (ts.take i).sum ∧ m = ts.length - i
def fx_36 (ts : List Int) : Fi := { fi36 with lx := [(3, { X := Int × Int × Int, sh := st_36 (ts.map wc), P := fun _ => inv_36 ts })] }
theorem vc36 (ts : List Int) (Q : List R → List (List D) → Prop) : vc E_0 C_b1 noI (fx_36 ts) (f36.body.getD .skip) f36.results.toList [.d (.sl (ts.map wc))] Q = (
  ∃ es, D.sl (List.map wc ts) = D.sl es ∧ ∃ x0, ({ tm := [((2 : Nat), V.ref ((2 : Nat)) ((0 : Nat))), ((3 : Nat), V.ref ((3 : Nat)) ((0 : Nat))), ((6 : Nat), V.d (D.sl (List.map wc ts))), ((7 : Nat), V.d (D.v (Value.int IntKind.i64 ↑es.length))), ((8 : Nat), V.d (D.v (Value.int IntKind.i64 (0 : Int))))], hp := [((2 : Nat), B.box [V.d (D.v (Value.int IntKind.i64 (0 : Int))), V.d (D.v (Value.int IntKind.u64 (0 : Int)))]), ((3 : Nat), B.box [V.d (D.v (Value.int IntKind.i64 (0 : Int))), V.d (D.v (Value.int IntKind.u64 (0 : Int)))])], kn := [], gd := [] : St }
  = { tm := [((2 : Nat), V.ref ((2 : Nat)) ((0 : Nat))), ((3 : Nat), V.ref ((3 : Nat)) ((0 : Nat))), ((6 : Nat), V.d (D.sl (List.map wc ts))), ((7 : Nat), V.d (D.v (Value.int IntKind.i64 ↑(List.map wc ts).length))), ((8 : Nat), V.d (D.v (Value.int IntKind.i64 x0.1)))], hp := [((2 : Nat), B.box [V.d (D.v (Value.int IntKind.i64 (0 : Int))), V.d (D.v (Value.int IntKind.u64 (0 : Int)))]), ((3 : Nat), B.box [V.d (D.v (Value.int IntKind.i64 x0.2.1)), V.d (D.v (Value.int IntKind.u64 x0.2.2))])], kn := [], gd := [] : St }
  ∧ ∃ n, inv_36 ts n x0) ∧ ∀ (n : Nat) (x : { X := Int × Int × Int, sh := st_36 (List.map wc ts), P := fun x => inv_36 ts : LX }.X), inv_36 ts n x →
  (decide (x.1 < ↑(List.map wc ts).length) = true → ∃ es, D.sl (List.map wc ts) = D.sl es ∧ ((0 : Int) ≤ x.1 ∧ x.1 < ↑es.length) ∧ ∃ cells,
  es[x.1.toNat]? = some cells ∧ cells.length = (2 : Nat) ∧ ∃ n_1 n_2, cut ((0 : Nat)) ((2 : Nat)) cells = some [D.v (Value.int IntKind.i64 n_1), D.v
  (Value.int IntKind.u64 n_2)] ∧ (decide (IntKind.u64.wrap (x.2.2 + n_2) < n_2) = true → ∃ m x', m < n ∧ { tm := [((2 : Nat), V.ref ((2 : Nat)) ((0 : Nat))), ((3 : Nat), V.ref ((3 : Nat)) ((0 : Nat))), ((6 : Nat), V.d (D.sl (List.map wc ts))), ((7 : Nat), V.d (D.v (Value.int IntKind.i64 ↑(List.map wc ts).length))), ((8 : Nat), V.d (D.v (Value.int IntKind.i64 (IntKind.i64.wrap (x.1 + (1 : Int))))))], hp := [((2 : Nat), B.box [V.d (D.v (Value.int IntKind.i64 (0 : Int))), V.d (D.v (Value.int IntKind.u64 (0 : Int)))]), ((3 : Nat), B.box [V.d (D.v (Value.int IntKind.i64 (IntKind.i64.wrap (IntKind.i64.wrap (x.2.1 + n_1) + (1 : Int))))), V.d (D.v (Value.int IntKind.u64 (IntKind.u64.wrap (x.2.2 + n_2))))])], kn := [], gd := [] : St }
  = { tm := [((2 : Nat), V.ref ((2 : Nat)) ((0 : Nat))), ((3 : Nat), V.ref ((3 : Nat)) ((0 : Nat))), ((6 : Nat), V.d (D.sl (List.map wc ts))), ((7 : Nat), V.d (D.v (Value.int IntKind.i64 ↑(List.map wc ts).length))), ((8 : Nat), V.d (D.v (Value.int IntKind.i64 x'.1)))], hp := [((2 : Nat), B.box [V.d (D.v (Value.int IntKind.i64 (0 : Int))), V.d (D.v (Value.int IntKind.u64 (0 : Int)))]), ((3 : Nat), B.box [V.d (D.v (Value.int IntKind.i64 x'.2.1)), V.d (D.v (Value.int IntKind.u64 x'.2.2))])], kn := [], gd := [] : St }
  ∧ inv_36 ts m x') ∧ (decide (IntKind.u64.wrap (x.2.2 + n_2) < n_2) = false → ∃ m x', m < n ∧ { tm := [((2 : Nat), V.ref ((2 : Nat)) ((0 : Nat))), ((3 : Nat), V.ref ((3 : Nat)) ((0 : Nat))), ((6 : Nat), V.d (D.sl (List.map wc ts))), ((7 : Nat), V.d (D.v (Value.int IntKind.i64 ↑(List.map wc ts).length))), ((8 : Nat), V.d (D.v (Value.int IntKind.i64 (IntKind.i64.wrap (x.1 + (1 : Int))))))], hp := [((2 : Nat), B.box [V.d (D.v (Value.int IntKind.i64 (0 : Int))), V.d (D.v (Value.int IntKind.u64 (0 : Int)))]), ((3 : Nat), B.box [V.d (D.v (Value.int IntKind.i64 (IntKind.i64.wrap (x.2.1 + n_1)))), V.d (D.v (Value.int IntKind.u64 (IntKind.u64.wrap (x.2.2 + n_2))))])], kn := [], gd := [] : St }
  = { tm := [((2 : Nat), V.ref ((2 : Nat)) ((0 : Nat))), ((3 : Nat), V.ref ((3 : Nat)) ((0 : Nat))), ((6 : Nat), V.d (D.sl (List.map wc ts))), ((7 : Nat), V.d (D.v (Value.int IntKind.i64 ↑(List.map wc ts).length))), ((8 : Nat), V.d (D.v (Value.int IntKind.i64 x'.1)))], hp := [((2 : Nat), B.box [V.d (D.v (Value.int IntKind.i64 (0 : Int))), V.d (D.v (Value.int IntKind.u64 (0 : Int)))]), ((3 : Nat), B.box [V.d (D.v (Value.int IntKind.i64 x'.2.1)), V.d (D.v (Value.int IntKind.u64 x'.2.2))])], kn := [], gd := [] : St }
  ∧ inv_36 ts m x')) ∧ (decide (x.1 < ↑(List.map wc ts).length) = false → Q [R.agg [D.v (Value.int IntKind.i64 x.2.1), D.v (Value.int IntKind.u64
  x.2.2)]] [])) := by kernel_rfl
theorem wadd_carry {s t : Int} (hs : fitW s) (ht : fitW t) (h : IntKind.u64.wrap (loW s + loW t) < loW t) : IntKind.i64.wrap (IntKind.i64.wrap (hiW s + hiW t) + 1) = hiW (s + t) ∧ IntKind.u64.wrap (loW s + loW t) = loW (s + t) := by
  rw [wrap_u64] at h ⊢
  unfold hiW loW at *
  unfold fitW at hs ht
  rw [wrap_i64_of (n := s / 18446744073709551616 + t / 18446744073709551616) (by omega) (by omega), wrap_i64_of (by omega) (by omega)]
  omega
theorem wadd_none {s t : Int} (hs : fitW s) (ht : fitW t) (h : ¬ IntKind.u64.wrap (loW s + loW t) < loW t) : IntKind.i64.wrap (hiW s + hiW t) = hiW (s + t) ∧ IntKind.u64.wrap (loW s + loW t) = loW (s + t) := by
  rw [wrap_u64] at h ⊢
  unfold hiW loW at *
  unfold fitW at hs ht
  rw [wrap_i64_of (n := s / 18446744073709551616 + t / 18446744073709551616) (by omega) (by omega)]
  omega
theorem ct36 (ts : List Int) (hl : ts.length < 4611686018427387904) (hf : ∀ t ∈ ts, fitW t) (hp : ∀ i, fitW (ts.take i).sum) : Ct prog 36 [.d (.sl (ts.map wc))] (gives [.agg (wc ts.sum)]) :=
  ct_of_vc E_ok C_b1_ok ioK_no it_ok mixed (fn := f36) (body := f36.body.getD .skip) (by kernel_rfl) (by kernel_rfl) (by kernel_rfl) (fi := fx_36 ts) (by kernel_rfl) (by kernel_rfl) ⟨_, _, rfl, rfl⟩ (by
    rw [vc36]
    refine ⟨_, rfl, (0, 0, 0), ⟨rfl, ts.length, 0, rfl, by simp, by simp, by simp, rfl⟩, ?_⟩
    rintro m ⟨i', h, l⟩ ⟨i, a1, a2, a3, a4, a5⟩
    dsimp only at a1 a3 a4 ⊢
    subst a1; subst a3; subst a4
    refine ⟨fun hi => ⟨_, rfl, ?_⟩, fun hi => ?_⟩
    · have hi : i < ts.length := by simpa using hi
      have hget : (ts.map wc)[(i : Int).toNat]? = some (wc ts[i]) := by simp [hi]
      have hsum : (ts.take (i + 1)).sum = (ts.take i).sum + ts[i] := by rw [List.take_add_one, List.sum_append, List.getElem?_eq_getElem hi]; simp
      refine ⟨⟨by omega, by simpa using hi⟩, _, hget, rfl, _, _, rfl, fun hc => ?_, fun hc => ?_⟩
      · obtain ⟨e1, e2⟩ := wadd_carry (hp i) (hf _ (List.getElem_mem hi)) (by simpa using hc)
        refine ⟨ts.length - (i + 1), (((i + 1 : Nat) : Int), hiW (ts.take (i + 1)).sum, loW (ts.take (i + 1)).sum), by omega, ?_, i + 1, rfl, hi, rfl, rfl, rfl⟩
        rw [e1, e2, ← hsum, wrap_i64_of (n := (i : Int) + 1) (by omega) (by omega)]
        rfl
      · obtain ⟨e1, e2⟩ := wadd_none (hp i) (hf _ (List.getElem_mem hi)) (by simpa using hc)
        refine ⟨ts.length - (i + 1), (((i + 1 : Nat) : Int), hiW (ts.take (i + 1)).sum, loW (ts.take (i + 1)).sum), by omega, ?_, i + 1, rfl, hi, rfl, rfl, rfl⟩
        rw [e1, e2, ← hsum, wrap_i64_of (n := (i : Int) + 1) (by omega) (by omega)]
        rfl
    · have hi : ¬ i < ts.length := by simpa using hi
      have : ts.take i = ts := List.take_of_length_le (by omega)
      rw [this]; exact ⟨rfl, rfl⟩)
/-- Of two wide numbers. -/
def c_36 (a : List R) (K : List R → List (List D) → Prop) : Prop := match a with
  | [.d (.sl [[.v (.int .i64 h1), .v (.int .u64 l1)], [.v (.int .i64 h2), .v (.int .u64 l2)]])] => ∃ s t, h1 = hiW s ∧ l1 = loW s ∧ h2 = hiW t ∧ l2 = loW t ∧ fitW s ∧ fitW t ∧ fitW (s + t) ∧ K [.agg (wc (s + t))] []
  | _ => False
theorem c_36_ok (a : List R) (K : List R → List (List D) → Prop) (h : c_36 a K) : Ct prog 36 a K := by
  unfold c_36 at h
  split at h
  · obtain ⟨s, t, rfl, rfl, rfl, rfl, h1, h2, h3, h⟩ := h
    refine (ct36 [s, t] (by simp) (fun x hx => by simp at hx; rcases hx with rfl | rfl <;> assumption) (fun i => ?_)).gives (by simpa using h)
    match i with
    | 0 => simp [fitW]
    | 1 => simpa using h1
    | i + 2 => simpa using h3
  · exact h.elim
def C_b3 : CallT := addC (addC C_b2 83 c_83) 36 c_36
theorem C_b3_ok : CallsOk prog C_b3 := addC_ok (addC_ok C_b2_ok c_83_ok) c_36_ok
end Go.Proofs.Try
