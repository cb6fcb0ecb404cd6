/- A part of the proof: contracts of functions, by a verified generator of conditions; no condition of its own. -/
import Derived.Test.YtlacgjmbabghaaaM4
namespace Go.Proofs.Try
open Go Go.Dm
set_option maxRecDepth 100000
/-- How two values of one type stand. -/
def ordV (k : Int) (n : Int) (s : ByteArray) (n2 : Int) (s2 : ByteArray) : Int := if k = 4 then cmpS s s2 else cmpI n n2
theorem s67_cmp {n m : Int} (hn : in64 n) (hm : in64 m) : s67_0 (hiW n) (loW n) (hiW m) (loW m) = cmpI n m := by
  unfold in64 at hn hm
  simp only [s67_0, cmpI, hiW, loW, Bool.and_true, Bool.and_eq_true, beq_iff_eq, cond_eq_ite, decide_eq_true_eq, Bool.if_true_left, Bool.if_false_right, Bool.or_eq_true]
  split <;> split <;> (try split) <;> omega
theorem s82_cmp {n m : Int} (hn : in64 n) (hm : in64 m) : s82_0 (hiW n) (loW n) (hiW m) (loW m) = cmpI n m := by
  unfold in64 at hn hm
  simp only [s82_0, cmpI, hiW, loW, Bool.and_true, Bool.and_eq_true, beq_iff_eq, cond_eq_ite, decide_eq_true_eq, Bool.if_true_left, Bool.if_false_right, Bool.or_eq_true]
  split <;> split <;> (try split) <;> omega
theorem s69_cmp (n m : Int) : s69_0 n m = cmpI n m := by
  rcases Int.lt_trichotomy n m with h | h | h
  · simp [s69_0, cmpI, h]
  · subst h; simp [s69_0, cmpI]
  · have h1 : ¬ n < m := by omega
    have h2 : ¬ n = m := by omega
    simp [s69_0, cmpI, h, h1, h2]
theorem vc53 (k sc : Int) (nul : Bool) (n : Int) (s : ByteArray) (nul2 : Bool) (n2 : Int) (s2 : ByteArray) (Q : List R → List (List D) → Prop) : vc E_0 C_b3 noI fi53 (f53.body.getD .skip) f53.results.toList [.agg [.v (.int .i64 k), .v (.int .i64 sc), .v (.bool nul), .v (.int .i64 n), .v (.string s)], .agg [.v (.int .i64 k), .v (.int .i64 sc), .v (.bool nul2), .v (.int .i64 n2), .v (.string s2)]] Q = (
  ((k == (4 : Int)) = true → Q [R.d (D.v (Value.int IntKind.i64 (cmpS s s2)))] []) ∧ ((k == (4 : Int)) = false → ((k == (2 : Int)) = true → (if s66_0 k
  sc nul2 n2 s2 > s66_0 k sc nul n s then s66_0 k sc nul2 n2 s2 else s66_0 k sc nul n s) = s66_0 k sc nul n s ∧ in64 n ∧ (if s66_0 k sc nul2 n2 s2 >
  s66_0 k sc nul n s then s66_0 k sc nul2 n2 s2 else s66_0 k sc nul n s) = s66_0 k sc nul2 n2 s2 ∧ in64 n2 ∧ Q [R.d (D.v (Value.int IntKind.i64 (s67_0
  (hiW n) (loW n) (hiW n2) (loW n2))))] []) ∧ ((k == (2 : Int)) = false → ((k == (3 : Int)) = true → (if s66_0 k sc nul2 n2 s2 > s66_0 k sc nul n s
  then s66_0 k sc nul2 n2 s2 else s66_0 k sc nul n s) = s66_0 k sc nul n s ∧ in64 n ∧ (if s66_0 k sc nul2 n2 s2 > s66_0 k sc nul n s then s66_0 k sc
  nul2 n2 s2 else s66_0 k sc nul n s) = s66_0 k sc nul2 n2 s2 ∧ in64 n2 ∧ Q [R.d (D.v (Value.int IntKind.i64 (s67_0 (hiW n) (loW n) (hiW n2) (loW
  n2))))] []) ∧ ((k == (3 : Int)) = false → Q [R.d (D.v (Value.int IntKind.i64 (s69_0 n n2)))] [])))) := by kernel_rfl
def c_53 (a : List R) (K : List R → List (List D) → Prop) : Prop := match a with
  | [.agg [.v (.int .i64 k), .v (.int .i64 sc), .v (.bool nul), .v (.int .i64 n), .v (.string s)], .agg [.v (.int .i64 k2), .v (.int .i64 sc2), .v (.bool nul2), .v (.int .i64 n2), .v (.string s2)]] => (k2 = k ∧ sc2 = sc ∧ in64 n ∧ in64 n2) ∧ K [.d (.v (.int .i64 (ordV k n s n2 s2)))] []
  | _ => False
theorem c_53_ok (a : List R) (K : List R → List (List D) → Prop) (h : c_53 a K) : Ct prog 53 a K := by
  unfold c_53 at h
  split at h
  · rename_i k sc nul n s k2 sc2 nul2 n2 s2
    obtain ⟨⟨rfl, rfl, h1, h2⟩, h3⟩ := h
    refine Ct.gives (r := [.d (.v (.int .i64 (ordV k2 n s n2 s2)))]) (ct_of_vc E_ok C_b3_ok ioK_no it_ok mixed (fn := f53) (body := f53.body.getD .skip) (by kernel_rfl) (by kernel_rfl) (by kernel_rfl) (fi := fi53) (by kernel_rfl) (by kernel_rfl) ⟨_, _, rfl, rfl⟩ ?_) h3
    rw [vc53]
    have e66 : s66_0 k2 sc2 nul2 n2 s2 = s66_0 k2 sc2 nul n s := rfl
    rw [e66, s67_cmp h1 h2, s69_cmp]
    have hk : k2 ≠ 4 → ordV k2 n s n2 s2 = cmpI n n2 := fun h => by simp [ordV, h]
    refine ⟨fun h => ?_, fun h => ⟨fun h' => ⟨by simp, h1, by simp, h2, ?_⟩, fun h' => ⟨fun h'' => ⟨by simp, h1, by simp, h2, ?_⟩, fun h'' => ?_⟩⟩⟩
    · have : k2 = 4 := by simpa using h
      rw [show ordV k2 n s n2 s2 = cmpS s s2 by simp [ordV, this]]; exact ⟨rfl, rfl⟩
    all_goals (rw [hk (by simpa using h)]; exact ⟨rfl, rfl⟩)
  · exact h.elim
def C_b4 : CallT := addC C_b3 53 c_53
theorem C_b4_ok : CallsOk prog C_b4 := addC_ok C_b3_ok c_53_ok
theorem vc37 (k sc : Int) (n : Int) (s : ByteArray) (n2 : Int) (s2 : ByteArray) (Q : List R → List (List D) → Prop) : vc E_0 C_b4 noI fi37 (f37.body.getD .skip) f37.results.toList [.agg [.v (.int .i64 k), .v (.int .i64 sc), .v (.bool false), .v (.int .i64 n), .v (.string s)], .agg [.v (.int .i64 k), .v (.int .i64 sc), .v (.bool false), .v (.int .i64 n2), .v (.string s2)]] Q = (
  ((bif false then false else false) = true → Q [R.d (D.v (Value.int IntKind.i64 (0 : Int)))] []) ∧ ((bif false then false else false) = false → (false =
  true → Q [R.d (D.v (Value.int IntKind.i64 (-1 : Int)))] []) ∧ (false = false → (false = true → Q [R.d (D.v (Value.int IntKind.i64 (1 : Int)))] []) ∧
  (false = false → (s52_0 k sc k sc = true → (k = k ∧ sc = sc ∧ in64 n ∧ in64 n2) ∧ Q [R.d (D.v (Value.int IntKind.i64 (ordV k n s n2 s2)))] []) ∧
  (s52_0 k sc k sc = false → Q [R.d (D.v (Value.int IntKind.i64 (s54_0 (s55_0 k) (s55_0 k))))] []))))) := by kernel_rfl
def c_37 (a : List R) (K : List R → List (List D) → Prop) : Prop := match a with
  | [.agg [.v (.int .i64 k), .v (.int .i64 sc), .v (.bool nul), .v (.int .i64 n), .v (.string s)], .agg [.v (.int .i64 k2), .v (.int .i64 sc2), .v (.bool nul2), .v (.int .i64 n2), .v (.string s2)]] => (k2 = k ∧ sc2 = sc ∧ in64 n ∧ in64 n2 ∧ nul = false ∧ nul2 = false ∧ 1 ≤ k ∧ k ≤ 5) ∧ K [.d (.v (.int .i64 (ordV k n s n2 s2)))] []
  | _ => False
theorem c_37_ok (a : List R) (K : List R → List (List D) → Prop) (h : c_37 a K) : Ct prog 37 a K := by
  unfold c_37 at h
  split at h
  · rename_i k sc nul n s k2 sc2 nul2 n2 s2
    obtain ⟨⟨rfl, rfl, h1, h2, rfl, rfl, h5, h6⟩, h3⟩ := h
    refine Ct.gives (r := [.d (.v (.int .i64 (ordV k2 n s n2 s2)))]) (ct_of_vc E_ok C_b4_ok ioK_no it_ok mixed (fn := f37) (body := f37.body.getD .skip) (by kernel_rfl) (by kernel_rfl) (by kernel_rfl) (fi := fi37) (by kernel_rfl) (by kernel_rfl) ⟨_, _, rfl, rfl⟩ ?_) h3
    rw [vc37]
    have hs : s52_0 k2 sc2 k2 sc2 = true := by simp [s52_0, h5, h6]
    rw [hs]
    exact ⟨fun h => (by cases h), fun _ => ⟨fun h => (by cases h), fun _ => ⟨fun h => (by cases h), fun _ => ⟨fun _ => ⟨⟨rfl, rfl, h1, h2⟩, rfl, rfl⟩, fun h => (by cases h)⟩⟩⟩⟩
  · exact h.elim
theorem vc75 (k sc : Int) (nul : Bool) (n : Int) (s : ByteArray) (nul2 : Bool) (n2 : Int) (s2 : ByteArray) (Q : List R → List (List D) → Prop) : vc E_0 C_b4 noI fi75 (f75.body.getD .skip) f75.results.toList [.agg [.v (.int .i64 k), .v (.int .i64 sc), .v (.bool nul), .v (.int .i64 n), .v (.string s)], .agg [.v (.int .i64 k), .v (.int .i64 sc), .v (.bool nul2), .v (.int .i64 n2), .v (.string s2)]] Q = (
  ((k == (4 : Int)) = true → Q [R.d (D.v (Value.int IntKind.i64 (s73_0 (Op.bytesLess s.toList s2.toList) !(Op.bytesLess s.toList s2.toList || s ==
  s2))))] []) ∧ ((k == (4 : Int)) = false → ((0 : Int) ≤ IntKind.i64.wrap ((if s80_0 k sc nul2 n2 s2 > s80_0 k sc nul n s then s80_0 k sc nul2 n2 s2
  else s80_0 k sc nul n s) - s80_0 k sc nul n s) ∧ IntKind.i64.wrap ((if s80_0 k sc nul2 n2 s2 > s80_0 k sc nul n s then s80_0 k sc nul2 n2 s2 else
  s80_0 k sc nul n s) - s80_0 k sc nul n s) ≤ (18 : Int)) ∧ ((0 : Int) ≤ IntKind.i64.wrap ((if s80_0 k sc nul2 n2 s2 > s80_0 k sc nul n s then s80_0 k
  sc nul2 n2 s2 else s80_0 k sc nul n s) - s80_0 k sc nul2 n2 s2) ∧ IntKind.i64.wrap ((if s80_0 k sc nul2 n2 s2 > s80_0 k sc nul n s then s80_0 k sc
  nul2 n2 s2 else s80_0 k sc nul n s) - s80_0 k sc nul2 n2 s2) ≤ (18 : Int)) ∧ (10 : Int) ^ (IntKind.i64.wrap ((if s80_0 k sc nul2 n2 s2 > s80_0 k sc
  nul n s then s80_0 k sc nul2 n2 s2 else s80_0 k sc nul n s) - s80_0 k sc nul n s)).toNat = (1 : Int) ∧ in64 n ∧ (10 : Int) ^ (IntKind.i64.wrap ((if
  s80_0 k sc nul2 n2 s2 > s80_0 k sc nul n s then s80_0 k sc nul2 n2 s2 else s80_0 k sc nul n s) - s80_0 k sc nul2 n2 s2)).toNat = (1 : Int) ∧ in64 n2
  ∧ Q [R.d (D.v (Value.int IntKind.i64 (s82_0 (hiW n) (loW n) (hiW n2) (loW n2))))] [])) := by kernel_rfl
theorem c_75_ok (a : List R) (K : List R → List (List D) → Prop) (h : c_53 a K) : Ct prog 75 a K := by
  unfold c_53 at h
  split at h
  · rename_i k sc nul n s k2 sc2 nul2 n2 s2
    obtain ⟨⟨rfl, rfl, h1, h2⟩, h3⟩ := h
    refine Ct.gives (r := [.d (.v (.int .i64 (ordV k2 n s n2 s2)))]) (ct_of_vc E_ok C_b4_ok ioK_no it_ok mixed (fn := f75) (body := f75.body.getD .skip) (by kernel_rfl) (by kernel_rfl) (by kernel_rfl) (fi := fi75) (by kernel_rfl) (by kernel_rfl) ⟨_, _, rfl, rfl⟩ ?_) h3
    rw [vc75]
    have e80 : s80_0 k2 sc2 nul2 n2 s2 = s80_0 k2 sc2 nul n s := rfl
    rw [e80, s82_cmp h1 h2, bbeq]
    simp only [gt_iff_lt, Int.lt_irrefl, if_false, Int.sub_self]
    refine ⟨fun h => ?_, fun h => ⟨by decide, by decide, by decide, h1, by decide, h2, ?_⟩⟩
    · have : k2 = 4 := by simpa using h
      have e : s73_0 (Op.bytesLess s.toList s2.toList) (!(Op.bytesLess s.toList s2.toList || decide (s = s2))) = ordV k2 n s n2 s2 := by
        simp only [ordV, this, if_true, s73_0, cmpS]
        cases Op.bytesLess s.toList s2.toList <;> by_cases hh : s = s2 <;> simp [hh]
      rw [e]; exact ⟨rfl, rfl⟩
    · have : k2 ≠ 4 := by simpa using h
      rw [show ordV k2 n s n2 s2 = cmpI n n2 by simp [ordV, this]]; exact ⟨rfl, rfl⟩
  · exact h.elim
def C_b5 : CallT := addC (addC C_b4 37 c_37) 75 c_53
theorem C_b5_ok : CallsOk prog C_b5 := addC_ok (addC_ok C_b4_ok c_37_ok) c_75_ok
theorem vc58 (k sc : Int) (n : Int) (s : ByteArray) (n2 : Int) (s2 : ByteArray) (Q : List R → List (List D) → Prop) : vc E_0 C_b5 noI fi58 (f58.body.getD .skip) f58.results.toList [.agg [.v (.int .i64 k), .v (.int .i64 sc), .v (.bool false), .v (.int .i64 n), .v (.string s)], .agg [.v (.int .i64 k), .v (.int .i64 sc), .v (.bool false), .v (.int .i64 n2), .v (.string s2)]] Q = (
  ((bif false then true else false) = true → Q [R.d (D.v (Value.int IntKind.i64 (s73_0 (bif false then !false else false) (bif !false then false else
  false))))] []) ∧ ((bif false then true else false) = false → (s74_0 k sc k sc = true → (k = k ∧ sc = sc ∧ in64 n ∧ in64 n2) ∧ Q [R.d (D.v (Value.int
  IntKind.i64 (ordV k n s n2 s2)))] []) ∧ (s74_0 k sc k sc = false → Q [R.d (D.v (Value.int IntKind.i64 (s73_0 (decide (s76_0 k < s76_0 k)) (decide
  (s76_0 k > s76_0 k)))))] []))) := by kernel_rfl
theorem c_58_ok (a : List R) (K : List R → List (List D) → Prop) (h : c_37 a K) : Ct prog 58 a K := by
  unfold c_37 at h
  split at h
  · rename_i k sc nul n s k2 sc2 nul2 n2 s2
    obtain ⟨⟨rfl, rfl, h1, h2, rfl, rfl, h5, h6⟩, h3⟩ := h
    refine Ct.gives (r := [.d (.v (.int .i64 (ordV k2 n s n2 s2)))]) (ct_of_vc E_ok C_b5_ok ioK_no it_ok mixed (fn := f58) (body := f58.body.getD .skip) (by kernel_rfl) (by kernel_rfl) (by kernel_rfl) (fi := fi58) (by kernel_rfl) (by kernel_rfl) ⟨_, _, rfl, rfl⟩ ?_) h3
    rw [vc58]
    have hs : s74_0 k2 sc2 k2 sc2 = true := by simp [s74_0, h5, h6]
    rw [hs]
    exact ⟨fun h => (by cases h), fun _ => ⟨fun _ => ⟨⟨rfl, rfl, h1, h2⟩, rfl, rfl⟩, fun h => (by cases h)⟩⟩
  · exact h.elim
def C_b6 : CallT := addC C_b5 58 c_37
theorem C_b6_ok : CallsOk prog C_b6 := addC_ok C_b5_ok c_58_ok
end Go.Proofs.Try
