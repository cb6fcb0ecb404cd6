/- A part of the proof: contracts of functions, by a verified generator of conditions; no condition of its own. -/
import Derived.Test.YtlacgjmbabghaaaTe
namespace Go.Proofs.Try
open Go Go.Dm
set_option maxRecDepth 100000
def C_0 : CallT := fun _ _ _ => False
theorem C_0_ok : CallsOk prog C_0 := fun _ _ _ h => h.elim
theorem vc13 (a0 : Int) (Q : List R → List (List D) → Prop) : vc E_0 C_0 noI fi13 (f13.body.getD .skip) f13.results.toList [.d (.v (.int .i64 a0))] Q = (
Q
  [R.agg
      [D.v (Value.int IntKind.i64 (2 : Int)), D.v (Value.int IntKind.i64 (0 : Int)), D.v (Value.bool false),
        D.v (Value.int IntKind.i64 a0), D.v (Value.string { data := { toList := [] } })]]
  []) := by kernel_rfl
theorem ct13 (a0 : Int) : Ct prog 13 [.d (.v (.int .i64 a0))] (gives [R.agg
    [D.v (Value.int IntKind.i64 (2 : Int)), D.v (Value.int IntKind.i64 (0 : Int)), D.v (Value.bool false),
      D.v (Value.int IntKind.i64 a0), D.v (Value.string { data := { toList := [] } })]]) :=
  ct_of_vc E_ok C_0_ok ioK_no it_ok mixed (fn := f13) (body := f13.body.getD .skip) (by kernel_rfl) (by kernel_rfl) (by kernel_rfl) (fi := fi13) (by kernel_rfl) (by kernel_rfl) ⟨_, _, rfl, rfl⟩ (by
    rw [vc13]
    (repeat' first | exact ⟨rfl, rfl⟩ | apply gsplit <;> intro h)
    all_goals (refine ⟨?_, rfl⟩; simp only [*, cond_true, cond_false]))
def c_13 (a : List R) (K : List R → List (List D) → Prop) : Prop := match a with | [.d (.v (.int .i64 a0))] => K [R.agg
    [D.v (Value.int IntKind.i64 (2 : Int)), D.v (Value.int IntKind.i64 (0 : Int)), D.v (Value.bool false),
      D.v (Value.int IntKind.i64 a0), D.v (Value.string { data := { toList := [] } })]] [] | _ => False
theorem c_13_ok (a : List R) (K : List R → List (List D) → Prop) (h : c_13 a K) : Ct prog 13 a K := by
  unfold c_13 at h
  split at h
  · exact (ct13 _).gives h
  · exact h.elim
def C_1 : CallT := addC C_0 13 c_13
theorem C_1_ok : CallsOk prog C_1 := addC_ok C_0_ok c_13_ok
theorem vc22 (a0 : Int) (a1 : Int) (Q : List R → List (List D) → Prop) : vc E_0 C_0 noI fi22 (f22.body.getD .skip) f22.results.toList [.agg [.v (.int .i64 a0), .v (.int .i64 a1)]] Q = (
((bif
          bif
              bif bif decide (a0 < (1 : Int)) then true else decide (a0 > (5 : Int)) then true
              else decide (a1 < (0 : Int)) then
            true
          else decide (a1 > (18 : Int)) then
        true
      else bif a0 != (3 : Int) then a1 != (0 : Int) else false) =
      true →
    Q [R.d (D.v (Value.int IntKind.i64 (21 : Int)))] []) ∧
  ((bif
          bif
              bif bif decide (a0 < (1 : Int)) then true else decide (a0 > (5 : Int)) then true
              else decide (a1 < (0 : Int)) then
            true
          else decide (a1 > (18 : Int)) then
        true
      else bif a0 != (3 : Int) then a1 != (0 : Int) else false) =
      false →
    Q [R.d (D.v (Value.int IntKind.i64 (0 : Int)))] [])) := by kernel_rfl
def s22_0 (a0 : Int) (a1 : Int) : Int := bif
    bif
        bif
            bif bif decide (a0 < (1 : Int)) then true else decide (a0 > (5 : Int)) then true
            else decide (a1 < (0 : Int)) then
          true
        else decide (a1 > (18 : Int)) then
      true
    else bif a0 != (3 : Int) then a1 != (0 : Int) else false then
  (21 : Int)
else (0 : Int)
theorem ct22 (a0 : Int) (a1 : Int) : Ct prog 22 [.agg [.v (.int .i64 a0), .v (.int .i64 a1)]] (gives [R.d (D.v (Value.int IntKind.i64 (s22_0 a0 a1)))]) :=
  ct_of_vc E_ok C_0_ok ioK_no it_ok mixed (fn := f22) (body := f22.body.getD .skip) (by kernel_rfl) (by kernel_rfl) (by kernel_rfl) (fi := fi22) (by kernel_rfl) (by kernel_rfl) ⟨_, _, rfl, rfl⟩ (by
    rw [vc22]
    (repeat' first | exact ⟨rfl, rfl⟩ | apply gsplit <;> intro h)
    all_goals (refine ⟨?_, rfl⟩; simp only [s22_0, *, cond_true, cond_false]))
def c_22 (a : List R) (K : List R → List (List D) → Prop) : Prop := match a with | [.agg [.v (.int .i64 a0), .v (.int .i64 a1)]] => K [R.d (D.v (Value.int IntKind.i64 (s22_0 a0 a1)))] [] | _ => False
theorem c_22_ok (a : List R) (K : List R → List (List D) → Prop) (h : c_22 a K) : Ct prog 22 a K := by
  unfold c_22 at h
  split at h
  · exact (ct22 _ _).gives h
  · exact h.elim
def C_2 : CallT := addC C_1 22 c_22
theorem C_2_ok : CallsOk prog C_2 := addC_ok C_1_ok c_22_ok
theorem vc24 (a0 : Int) (a1 : Int) (Q : List R → List (List D) → Prop) : vc E_0 C_0 noI fi24 (f24.body.getD .skip) f24.results.toList [.agg [.v (.int .i64 a0), .v (.int .i64 a1)]] Q = (
Q
  [R.agg
      [D.v (Value.int IntKind.i64 a0), D.v (Value.int IntKind.i64 a1), D.v (Value.bool true),
        D.v (Value.int IntKind.i64 (0 : Int)), D.v (Value.string { data := { toList := [] } })]]
  []) := by kernel_rfl
theorem ct24 (a0 : Int) (a1 : Int) : Ct prog 24 [.agg [.v (.int .i64 a0), .v (.int .i64 a1)]] (gives [R.agg
    [D.v (Value.int IntKind.i64 a0), D.v (Value.int IntKind.i64 a1), D.v (Value.bool true),
      D.v (Value.int IntKind.i64 (0 : Int)), D.v (Value.string { data := { toList := [] } })]]) :=
  ct_of_vc E_ok C_0_ok ioK_no it_ok mixed (fn := f24) (body := f24.body.getD .skip) (by kernel_rfl) (by kernel_rfl) (by kernel_rfl) (fi := fi24) (by kernel_rfl) (by kernel_rfl) ⟨_, _, rfl, rfl⟩ (by
    rw [vc24]
    (repeat' first | exact ⟨rfl, rfl⟩ | apply gsplit <;> intro h)
    all_goals (refine ⟨?_, rfl⟩; simp only [*, cond_true, cond_false]))
def c_24 (a : List R) (K : List R → List (List D) → Prop) : Prop := match a with | [.agg [.v (.int .i64 a0), .v (.int .i64 a1)]] => K [R.agg
    [D.v (Value.int IntKind.i64 a0), D.v (Value.int IntKind.i64 a1), D.v (Value.bool true),
      D.v (Value.int IntKind.i64 (0 : Int)), D.v (Value.string { data := { toList := [] } })]] [] | _ => False
theorem c_24_ok (a : List R) (K : List R → List (List D) → Prop) (h : c_24 a K) : Ct prog 24 a K := by
  unfold c_24 at h
  split at h
  · exact (ct24 _ _).gives h
  · exact h.elim
def C_3 : CallT := addC C_2 24 c_24
theorem C_3_ok : CallsOk prog C_3 := addC_ok C_2_ok c_24_ok
theorem vc32 (a0 : Int) (Q : List R → List (List D) → Prop) : vc E_0 C_0 noI fi32 (f32.body.getD .skip) f32.results.toList [.d (.v (.int .i64 a0))] Q = (
Q [R.d (D.v (Value.bool (bif decide (a0 ≥ (0 : Int)) then decide (a0 ≤ (18 : Int)) else false)))] []) := by kernel_rfl
def s32_0 (a0 : Int) : Bool := bif decide (a0 ≥ (0 : Int)) then decide (a0 ≤ (18 : Int)) else false
theorem ct32 (a0 : Int) : Ct prog 32 [.d (.v (.int .i64 a0))] (gives [R.d (D.v (Value.bool (s32_0 a0)))]) :=
  ct_of_vc E_ok C_0_ok ioK_no it_ok mixed (fn := f32) (body := f32.body.getD .skip) (by kernel_rfl) (by kernel_rfl) (by kernel_rfl) (fi := fi32) (by kernel_rfl) (by kernel_rfl) ⟨_, _, rfl, rfl⟩ (by
    rw [vc32]
    (repeat' first | exact ⟨rfl, rfl⟩ | apply gsplit <;> intro h)
    all_goals (refine ⟨?_, rfl⟩; simp only [s32_0, *, cond_true, cond_false]))
def c_32 (a : List R) (K : List R → List (List D) → Prop) : Prop := match a with | [.d (.v (.int .i64 a0))] => K [R.d (D.v (Value.bool (s32_0 a0)))] [] | _ => False
theorem c_32_ok (a : List R) (K : List R → List (List D) → Prop) (h : c_32 a K) : Ct prog 32 a K := by
  unfold c_32 at h
  split at h
  · exact (ct32 _).gives h
  · exact h.elim
def C_4 : CallT := addC C_3 32 c_32
theorem C_4_ok : CallsOk prog C_4 := addC_ok C_3_ok c_32_ok
theorem vc34 (a0 : Int) (Q : List R → List (List D) → Prop) : vc E_0 C_0 noI fi34 (f34.body.getD .skip) f34.results.toList [.d (.v (.int .i64 a0))] Q = (
Q
  [R.d
      (D.v
        (Value.bool
          (bif decide ((-999999999999999999 : Int) ≤ a0) then decide (a0 ≤ (999999999999999999 : Int)) else false)))]
  []) := by kernel_rfl
def s34_0 (a0 : Int) : Bool := bif decide ((-999999999999999999 : Int) ≤ a0) then decide (a0 ≤ (999999999999999999 : Int)) else false
theorem ct34 (a0 : Int) : Ct prog 34 [.d (.v (.int .i64 a0))] (gives [R.d (D.v (Value.bool (s34_0 a0)))]) :=
  ct_of_vc E_ok C_0_ok ioK_no it_ok mixed (fn := f34) (body := f34.body.getD .skip) (by kernel_rfl) (by kernel_rfl) (by kernel_rfl) (fi := fi34) (by kernel_rfl) (by kernel_rfl) ⟨_, _, rfl, rfl⟩ (by
    rw [vc34]
    (repeat' first | exact ⟨rfl, rfl⟩ | apply gsplit <;> intro h)
    all_goals (refine ⟨?_, rfl⟩; simp only [s34_0, *, cond_true, cond_false]))
def c_34 (a : List R) (K : List R → List (List D) → Prop) : Prop := match a with | [.d (.v (.int .i64 a0))] => K [R.d (D.v (Value.bool (s34_0 a0)))] [] | _ => False
theorem c_34_ok (a : List R) (K : List R → List (List D) → Prop) (h : c_34 a K) : Ct prog 34 a K := by
  unfold c_34 at h
  split at h
  · exact (ct34 _).gives h
  · exact h.elim
def C_5 : CallT := addC C_4 34 c_34
theorem C_5_ok : CallsOk prog C_5 := addC_ok C_4_ok c_34_ok
theorem vc38 (a0 : Int) (Q : List R → List (List D) → Prop) : vc E_0 C_0 noI fi38 (f38.body.getD .skip) f38.results.toList [.d (.v (.int .i64 a0))] Q = (
Q
  [R.d
      (D.v
        (Value.bool
          (bif decide (a0 ≥ (-999999999999999999 : Int)) then decide (a0 ≤ (999999999999999999 : Int)) else false)))]
  []) := by kernel_rfl
def s38_0 (a0 : Int) : Bool := bif decide (a0 ≥ (-999999999999999999 : Int)) then decide (a0 ≤ (999999999999999999 : Int)) else false
theorem ct38 (a0 : Int) : Ct prog 38 [.d (.v (.int .i64 a0))] (gives [R.d (D.v (Value.bool (s38_0 a0)))]) :=
  ct_of_vc E_ok C_0_ok ioK_no it_ok mixed (fn := f38) (body := f38.body.getD .skip) (by kernel_rfl) (by kernel_rfl) (by kernel_rfl) (fi := fi38) (by kernel_rfl) (by kernel_rfl) ⟨_, _, rfl, rfl⟩ (by
    rw [vc38]
    (repeat' first | exact ⟨rfl, rfl⟩ | apply gsplit <;> intro h)
    all_goals (refine ⟨?_, rfl⟩; simp only [s38_0, *, cond_true, cond_false]))
def c_38 (a : List R) (K : List R → List (List D) → Prop) : Prop := match a with | [.d (.v (.int .i64 a0))] => K [R.d (D.v (Value.bool (s38_0 a0)))] [] | _ => False
theorem c_38_ok (a : List R) (K : List R → List (List D) → Prop) (h : c_38 a K) : Ct prog 38 a K := by
  unfold c_38 at h
  split at h
  · exact (ct38 _).gives h
  · exact h.elim
def C_6 : CallT := addC C_5 38 c_38
theorem C_6_ok : CallsOk prog C_6 := addC_ok C_5_ok c_38_ok
theorem vc40 (a0 : Int) (a1 : Int) (Q : List R → List (List D) → Prop) : vc E_0 C_0 noI fi40 (f40.body.getD .skip) f40.results.toList [.agg [.v (.int .i64 a0), .v (.int .i64 a1)]] Q = (
Q
  [R.agg
      [D.v (Value.int IntKind.i64 a0), D.v (Value.int IntKind.i64 a1), D.v (Value.bool true),
        D.v (Value.int IntKind.i64 (0 : Int)), D.v (Value.string { data := { toList := [] } })]]
  []) := by kernel_rfl
theorem ct40 (a0 : Int) (a1 : Int) : Ct prog 40 [.agg [.v (.int .i64 a0), .v (.int .i64 a1)]] (gives [R.agg
    [D.v (Value.int IntKind.i64 a0), D.v (Value.int IntKind.i64 a1), D.v (Value.bool true),
      D.v (Value.int IntKind.i64 (0 : Int)), D.v (Value.string { data := { toList := [] } })]]) :=
  ct_of_vc E_ok C_0_ok ioK_no it_ok mixed (fn := f40) (body := f40.body.getD .skip) (by kernel_rfl) (by kernel_rfl) (by kernel_rfl) (fi := fi40) (by kernel_rfl) (by kernel_rfl) ⟨_, _, rfl, rfl⟩ (by
    rw [vc40]
    (repeat' first | exact ⟨rfl, rfl⟩ | apply gsplit <;> intro h)
    all_goals (refine ⟨?_, rfl⟩; simp only [*, cond_true, cond_false]))
def c_40 (a : List R) (K : List R → List (List D) → Prop) : Prop := match a with | [.agg [.v (.int .i64 a0), .v (.int .i64 a1)]] => K [R.agg
    [D.v (Value.int IntKind.i64 a0), D.v (Value.int IntKind.i64 a1), D.v (Value.bool true),
      D.v (Value.int IntKind.i64 (0 : Int)), D.v (Value.string { data := { toList := [] } })]] [] | _ => False
theorem c_40_ok (a : List R) (K : List R → List (List D) → Prop) (h : c_40 a K) : Ct prog 40 a K := by
  unfold c_40 at h
  split at h
  · exact (ct40 _ _).gives h
  · exact h.elim
def C_7 : CallT := addC C_6 40 c_40
theorem C_7_ok : CallsOk prog C_7 := addC_ok C_6_ok c_40_ok
theorem vc54 (a0 : Int) (a1 : Int) (Q : List R → List (List D) → Prop) : vc E_0 C_0 noI fi54 (f54.body.getD .skip) f54.results.toList [.d (.v (.int .i64 a0)), .d (.v (.int .i64 a1))] Q = (
(decide (a0 < a1) = true → Q [R.d (D.v (Value.int IntKind.i64 (-1 : Int)))] []) ∧
  (decide (a0 < a1) = false →
    (decide (a0 > a1) = true → Q [R.d (D.v (Value.int IntKind.i64 (1 : Int)))] []) ∧
      (decide (a0 > a1) = false → Q [R.d (D.v (Value.int IntKind.i64 (0 : Int)))] []))) := by kernel_rfl
def s54_0 (a0 : Int) (a1 : Int) : Int := bif decide (a0 < a1) then (-1 : Int) else bif decide (a0 > a1) then (1 : Int) else (0 : Int)
theorem ct54 (a0 : Int) (a1 : Int) : Ct prog 54 [.d (.v (.int .i64 a0)), .d (.v (.int .i64 a1))] (gives [R.d (D.v (Value.int IntKind.i64 (s54_0 a0 a1)))]) :=
  ct_of_vc E_ok C_0_ok ioK_no it_ok mixed (fn := f54) (body := f54.body.getD .skip) (by kernel_rfl) (by kernel_rfl) (by kernel_rfl) (fi := fi54) (by kernel_rfl) (by kernel_rfl) ⟨_, _, rfl, rfl⟩ (by
    rw [vc54]
    (repeat' first | exact ⟨rfl, rfl⟩ | apply gsplit <;> intro h)
    all_goals (refine ⟨?_, rfl⟩; simp only [s54_0, *, cond_true, cond_false]))
def c_54 (a : List R) (K : List R → List (List D) → Prop) : Prop := match a with | [.d (.v (.int .i64 a0)), .d (.v (.int .i64 a1))] => K [R.d (D.v (Value.int IntKind.i64 (s54_0 a0 a1)))] [] | _ => False
theorem c_54_ok (a : List R) (K : List R → List (List D) → Prop) (h : c_54 a K) : Ct prog 54 a K := by
  unfold c_54 at h
  split at h
  · exact (ct54 _ _).gives h
  · exact h.elim
def C_8 : CallT := addC C_7 54 c_54
theorem C_8_ok : CallsOk prog C_8 := addC_ok C_7_ok c_54_ok
theorem vc55 (a0 : Int) (Q : List R → List (List D) → Prop) : vc E_0 C_0 noI fi55 (f55.body.getD .skip) f55.results.toList [.d (.v (.int .i64 a0))] Q = (
((a0 == (3 : Int)) = true → Q [R.d (D.v (Value.int IntKind.i64 (2 : Int)))] []) ∧
  ((a0 == (3 : Int)) = false → Q [R.d (D.v (Value.int IntKind.i64 a0))] [])) := by kernel_rfl
def s55_0 (a0 : Int) : Int := bif a0 == (3 : Int) then (2 : Int) else a0
theorem ct55 (a0 : Int) : Ct prog 55 [.d (.v (.int .i64 a0))] (gives [R.d (D.v (Value.int IntKind.i64 (s55_0 a0)))]) :=
  ct_of_vc E_ok C_0_ok ioK_no it_ok mixed (fn := f55) (body := f55.body.getD .skip) (by kernel_rfl) (by kernel_rfl) (by kernel_rfl) (fi := fi55) (by kernel_rfl) (by kernel_rfl) ⟨_, _, rfl, rfl⟩ (by
    rw [vc55]
    (repeat' first | exact ⟨rfl, rfl⟩ | apply gsplit <;> intro h)
    all_goals (refine ⟨?_, rfl⟩; simp only [s55_0, *, cond_true, cond_false]))
def c_55 (a : List R) (K : List R → List (List D) → Prop) : Prop := match a with | [.d (.v (.int .i64 a0))] => K [R.d (D.v (Value.int IntKind.i64 (s55_0 a0)))] [] | _ => False
theorem c_55_ok (a : List R) (K : List R → List (List D) → Prop) (h : c_55 a K) : Ct prog 55 a K := by
  unfold c_55 at h
  split at h
  · exact (ct55 _).gives h
  · exact h.elim
def C_9 : CallT := addC C_8 55 c_55
theorem C_9_ok : CallsOk prog C_9 := addC_ok C_8_ok c_55_ok
theorem vc64 (a0 : Int) (Q : List R → List (List D) → Prop) : vc E_0 C_0 noI fi64 (f64.body.getD .skip) f64.results.toList [.d (.v (.int .i64 a0))] Q = (
Q [R.d (D.v (Value.bool (a0 != a0)))] []) := by kernel_rfl
def s64_0 (a0 : Int) : Bool := a0 != a0
theorem ct64 (a0 : Int) : Ct prog 64 [.d (.v (.int .i64 a0))] (gives [R.d (D.v (Value.bool (s64_0 a0)))]) :=
  ct_of_vc E_ok C_0_ok ioK_no it_ok mixed (fn := f64) (body := f64.body.getD .skip) (by kernel_rfl) (by kernel_rfl) (by kernel_rfl) (fi := fi64) (by kernel_rfl) (by kernel_rfl) ⟨_, _, rfl, rfl⟩ (by
    rw [vc64]
    (repeat' first | exact ⟨rfl, rfl⟩ | apply gsplit <;> intro h)
    all_goals (refine ⟨?_, rfl⟩; simp only [s64_0, *, cond_true, cond_false]))
def c_64 (a : List R) (K : List R → List (List D) → Prop) : Prop := match a with | [.d (.v (.int .i64 a0))] => K [R.d (D.v (Value.bool (s64_0 a0)))] [] | _ => False
theorem c_64_ok (a : List R) (K : List R → List (List D) → Prop) (h : c_64 a K) : Ct prog 64 a K := by
  unfold c_64 at h
  split at h
  · exact (ct64 _).gives h
  · exact h.elim
def C_10 : CallT := addC C_9 64 c_64
theorem C_10_ok : CallsOk prog C_10 := addC_ok C_9_ok c_64_ok
theorem vc66 (a0 : Int) (a1 : Int) (a2 : Bool) (a3 : Int) (a4 : ByteArray) (Q : List R → List (List D) → Prop) : vc E_0 C_0 noI fi66 (f66.body.getD .skip) f66.results.toList [.agg [.v (.int .i64 a0), .v (.int .i64 a1), .v (.bool a2), .v (.int .i64 a3), .v (.string a4)]] Q = (
((a0 != (3 : Int)) = true → Q [R.d (D.v (Value.int IntKind.i64 (0 : Int)))] []) ∧
  ((a0 != (3 : Int)) = false →
    Q
      [R.d
          (D.v
            (Value.int IntKind.i64
              (if (18 : Int) < if (0 : Int) > a1 then (0 : Int) else a1 then (18 : Int)
              else if (0 : Int) > a1 then (0 : Int) else a1)))]
      [])) := by kernel_rfl
def s66_0 (a0 : Int) (a1 : Int) (a2 : Bool) (a3 : Int) (a4 : ByteArray) : Int := bif a0 != (3 : Int) then (0 : Int)
else
  if (18 : Int) < if (0 : Int) > a1 then (0 : Int) else a1 then (18 : Int) else if (0 : Int) > a1 then (0 : Int) else a1
theorem ct66 (a0 : Int) (a1 : Int) (a2 : Bool) (a3 : Int) (a4 : ByteArray) : Ct prog 66 [.agg [.v (.int .i64 a0), .v (.int .i64 a1), .v (.bool a2), .v (.int .i64 a3), .v (.string a4)]] (gives [R.d (D.v (Value.int IntKind.i64 (s66_0 a0 a1 a2 a3 a4)))]) :=
  ct_of_vc E_ok C_0_ok ioK_no it_ok mixed (fn := f66) (body := f66.body.getD .skip) (by kernel_rfl) (by kernel_rfl) (by kernel_rfl) (fi := fi66) (by kernel_rfl) (by kernel_rfl) ⟨_, _, rfl, rfl⟩ (by
    rw [vc66]
    (repeat' first | exact ⟨rfl, rfl⟩ | apply gsplit <;> intro h)
    all_goals (refine ⟨?_, rfl⟩; simp only [s66_0, *, cond_true, cond_false]))
def c_66 (a : List R) (K : List R → List (List D) → Prop) : Prop := match a with | [.agg [.v (.int .i64 a0), .v (.int .i64 a1), .v (.bool a2), .v (.int .i64 a3), .v (.string a4)]] => K [R.d (D.v (Value.int IntKind.i64 (s66_0 a0 a1 a2 a3 a4)))] [] | _ => False
theorem c_66_ok (a : List R) (K : List R → List (List D) → Prop) (h : c_66 a K) : Ct prog 66 a K := by
  unfold c_66 at h
  split at h
  · exact (ct66 _ _ _ _ _).gives h
  · exact h.elim
def C_11 : CallT := addC C_10 66 c_66
theorem C_11_ok : CallsOk prog C_11 := addC_ok C_10_ok c_66_ok
theorem vc67 (a0 : Int) (a1 : Int) (a2 : Int) (a3 : Int) (Q : List R → List (List D) → Prop) : vc E_0 C_0 noI fi67 (f67.body.getD .skip) f67.results.toList [.agg [.v (.int .i64 a0), .v (.int .u64 a1)], .agg [.v (.int .i64 a2), .v (.int .u64 a3)]] Q = (
((a0 == a2 && (a1 == a3 && true)) = true → Q [R.d (D.v (Value.int IntKind.i64 (0 : Int)))] []) ∧
  ((a0 == a2 && (a1 == a3 && true)) = false →
    ((bif decide (a0 < a2) then true else bif a0 == a2 then decide (a1 < a3) else false) = true →
        Q [R.d (D.v (Value.int IntKind.i64 (-1 : Int)))] []) ∧
      ((bif decide (a0 < a2) then true else bif a0 == a2 then decide (a1 < a3) else false) = false →
        Q [R.d (D.v (Value.int IntKind.i64 (1 : Int)))] []))) := by kernel_rfl
def s67_0 (a0 : Int) (a1 : Int) (a2 : Int) (a3 : Int) : Int := bif a0 == a2 && (a1 == a3 && true) then (0 : Int)
else
  bif bif decide (a0 < a2) then true else bif a0 == a2 then decide (a1 < a3) else false then (-1 : Int) else (1 : Int)
theorem ct67 (a0 : Int) (a1 : Int) (a2 : Int) (a3 : Int) : Ct prog 67 [.agg [.v (.int .i64 a0), .v (.int .u64 a1)], .agg [.v (.int .i64 a2), .v (.int .u64 a3)]] (gives [R.d (D.v (Value.int IntKind.i64 (s67_0 a0 a1 a2 a3)))]) :=
  ct_of_vc E_ok C_0_ok ioK_no it_ok mixed (fn := f67) (body := f67.body.getD .skip) (by kernel_rfl) (by kernel_rfl) (by kernel_rfl) (fi := fi67) (by kernel_rfl) (by kernel_rfl) ⟨_, _, rfl, rfl⟩ (by
    rw [vc67]
    (repeat' first | exact ⟨rfl, rfl⟩ | apply gsplit <;> intro h)
    all_goals (refine ⟨?_, rfl⟩; simp only [s67_0, *, cond_true, cond_false]))
def c_67 (a : List R) (K : List R → List (List D) → Prop) : Prop := match a with | [.agg [.v (.int .i64 a0), .v (.int .u64 a1)], .agg [.v (.int .i64 a2), .v (.int .u64 a3)]] => K [R.d (D.v (Value.int IntKind.i64 (s67_0 a0 a1 a2 a3)))] [] | _ => False
theorem c_67_ok (a : List R) (K : List R → List (List D) → Prop) (h : c_67 a K) : Ct prog 67 a K := by
  unfold c_67 at h
  split at h
  · exact (ct67 _ _ _ _).gives h
  · exact h.elim
def C_12 : CallT := addC C_11 67 c_67
theorem C_12_ok : CallsOk prog C_12 := addC_ok C_11_ok c_67_ok
theorem vc69 (a0 : Int) (a1 : Int) (Q : List R → List (List D) → Prop) : vc E_0 C_0 noI fi69 (f69.body.getD .skip) f69.results.toList [.d (.v (.int .i64 a0)), .d (.v (.int .i64 a1))] Q = (
(decide (a0 < a1) = true → Q [R.d (D.v (Value.int IntKind.i64 (-1 : Int)))] []) ∧
  (decide (a0 < a1) = false →
    (decide (a0 > a1) = true → Q [R.d (D.v (Value.int IntKind.i64 (1 : Int)))] []) ∧
      (decide (a0 > a1) = false → Q [R.d (D.v (Value.int IntKind.i64 (0 : Int)))] []))) := by kernel_rfl
def s69_0 (a0 : Int) (a1 : Int) : Int := bif decide (a0 < a1) then (-1 : Int) else bif decide (a0 > a1) then (1 : Int) else (0 : Int)
theorem ct69 (a0 : Int) (a1 : Int) : Ct prog 69 [.d (.v (.int .i64 a0)), .d (.v (.int .i64 a1))] (gives [R.d (D.v (Value.int IntKind.i64 (s69_0 a0 a1)))]) :=
  ct_of_vc E_ok C_0_ok ioK_no it_ok mixed (fn := f69) (body := f69.body.getD .skip) (by kernel_rfl) (by kernel_rfl) (by kernel_rfl) (fi := fi69) (by kernel_rfl) (by kernel_rfl) ⟨_, _, rfl, rfl⟩ (by
    rw [vc69]
    (repeat' first | exact ⟨rfl, rfl⟩ | apply gsplit <;> intro h)
    all_goals (refine ⟨?_, rfl⟩; simp only [s69_0, *, cond_true, cond_false]))
def c_69 (a : List R) (K : List R → List (List D) → Prop) : Prop := match a with | [.d (.v (.int .i64 a0)), .d (.v (.int .i64 a1))] => K [R.d (D.v (Value.int IntKind.i64 (s69_0 a0 a1)))] [] | _ => False
theorem c_69_ok (a : List R) (K : List R → List (List D) → Prop) (h : c_69 a K) : Ct prog 69 a K := by
  unfold c_69 at h
  split at h
  · exact (ct69 _ _).gives h
  · exact h.elim
def C_13 : CallT := addC C_12 69 c_69
theorem C_13_ok : CallsOk prog C_13 := addC_ok C_12_ok c_69_ok
theorem vc70 (a0 : Int) (Q : List R → List (List D) → Prop) : vc E_0 C_0 noI fi70 (f70.body.getD .skip) f70.results.toList [.d (.v (.int .i64 a0))] Q = (
(decide (a0 < (0 : Int)) = true →
    Q [R.agg [D.v (Value.int IntKind.i64 (-1 : Int)), D.v (Value.int IntKind.u64 (IntKind.u64.wrap a0))]] []) ∧
  (decide (a0 < (0 : Int)) = false →
    Q [R.agg [D.v (Value.int IntKind.i64 (0 : Int)), D.v (Value.int IntKind.u64 (IntKind.u64.wrap a0))]] [])) := by kernel_rfl
def s70_0 (a0 : Int) : Int := bif decide (a0 < (0 : Int)) then (-1 : Int) else (0 : Int)
def s70_1 (a0 : Int) : Int := IntKind.u64.wrap a0
theorem ct70 (a0 : Int) : Ct prog 70 [.d (.v (.int .i64 a0))] (gives [R.agg [D.v (Value.int IntKind.i64 (s70_0 a0)), D.v (Value.int IntKind.u64 (s70_1 a0))]]) :=
  ct_of_vc E_ok C_0_ok ioK_no it_ok mixed (fn := f70) (body := f70.body.getD .skip) (by kernel_rfl) (by kernel_rfl) (by kernel_rfl) (fi := fi70) (by kernel_rfl) (by kernel_rfl) ⟨_, _, rfl, rfl⟩ (by
    rw [vc70]
    (repeat' first | exact ⟨rfl, rfl⟩ | apply gsplit <;> intro h)
    all_goals (refine ⟨?_, rfl⟩; simp only [s70_0, s70_1, *, cond_true, cond_false]))
def c_70 (a : List R) (K : List R → List (List D) → Prop) : Prop := match a with | [.d (.v (.int .i64 a0))] => K [R.agg [D.v (Value.int IntKind.i64 (s70_0 a0)), D.v (Value.int IntKind.u64 (s70_1 a0))]] [] | _ => False
theorem c_70_ok (a : List R) (K : List R → List (List D) → Prop) (h : c_70 a K) : Ct prog 70 a K := by
  unfold c_70 at h
  split at h
  · exact (ct70 _).gives h
  · exact h.elim
def C_14 : CallT := addC C_13 70 c_70
theorem C_14_ok : CallsOk prog C_14 := addC_ok C_13_ok c_70_ok
theorem vc73 (a0 : Bool) (a1 : Bool) (Q : List R → List (List D) → Prop) : vc E_0 C_0 noI fi73 (f73.body.getD .skip) f73.results.toList [.d (.v (.bool a0)), .d (.v (.bool a1))] Q = (
(a0 = true → Q [R.d (D.v (Value.int IntKind.i64 (-1 : Int)))] []) ∧
  (a0 = false →
    (a1 = true → Q [R.d (D.v (Value.int IntKind.i64 (1 : Int)))] []) ∧
      (a1 = false → Q [R.d (D.v (Value.int IntKind.i64 (0 : Int)))] []))) := by kernel_rfl
def s73_0 (a0 : Bool) (a1 : Bool) : Int := bif a0 then (-1 : Int) else bif a1 then (1 : Int) else (0 : Int)
theorem ct73 (a0 : Bool) (a1 : Bool) : Ct prog 73 [.d (.v (.bool a0)), .d (.v (.bool a1))] (gives [R.d (D.v (Value.int IntKind.i64 (s73_0 a0 a1)))]) :=
  ct_of_vc E_ok C_0_ok ioK_no it_ok mixed (fn := f73) (body := f73.body.getD .skip) (by kernel_rfl) (by kernel_rfl) (by kernel_rfl) (fi := fi73) (by kernel_rfl) (by kernel_rfl) ⟨_, _, rfl, rfl⟩ (by
    rw [vc73]
    (repeat' first | exact ⟨rfl, rfl⟩ | apply gsplit <;> intro h)
    all_goals (refine ⟨?_, rfl⟩; simp only [s73_0, *, cond_true, cond_false]))
def c_73 (a : List R) (K : List R → List (List D) → Prop) : Prop := match a with | [.d (.v (.bool a0)), .d (.v (.bool a1))] => K [R.d (D.v (Value.int IntKind.i64 (s73_0 a0 a1)))] [] | _ => False
theorem c_73_ok (a : List R) (K : List R → List (List D) → Prop) (h : c_73 a K) : Ct prog 73 a K := by
  unfold c_73 at h
  split at h
  · exact (ct73 _ _).gives h
  · exact h.elim
def C_15 : CallT := addC C_14 73 c_73
theorem C_15_ok : CallsOk prog C_15 := addC_ok C_14_ok c_73_ok
theorem vc76 (a0 : Int) (Q : List R → List (List D) → Prop) : vc E_0 C_0 noI fi76 (f76.body.getD .skip) f76.results.toList [.d (.v (.int .i64 a0))] Q = (
((a0 == (3 : Int)) = true → Q [R.d (D.v (Value.int IntKind.i64 (2 : Int)))] []) ∧
  ((a0 == (3 : Int)) = false → Q [R.d (D.v (Value.int IntKind.i64 a0))] [])) := by kernel_rfl
def s76_0 (a0 : Int) : Int := bif a0 == (3 : Int) then (2 : Int) else a0
theorem ct76 (a0 : Int) : Ct prog 76 [.d (.v (.int .i64 a0))] (gives [R.d (D.v (Value.int IntKind.i64 (s76_0 a0)))]) :=
  ct_of_vc E_ok C_0_ok ioK_no it_ok mixed (fn := f76) (body := f76.body.getD .skip) (by kernel_rfl) (by kernel_rfl) (by kernel_rfl) (fi := fi76) (by kernel_rfl) (by kernel_rfl) ⟨_, _, rfl, rfl⟩ (by
    rw [vc76]
    (repeat' first | exact ⟨rfl, rfl⟩ | apply gsplit <;> intro h)
    all_goals (refine ⟨?_, rfl⟩; simp only [s76_0, *, cond_true, cond_false]))
def c_76 (a : List R) (K : List R → List (List D) → Prop) : Prop := match a with | [.d (.v (.int .i64 a0))] => K [R.d (D.v (Value.int IntKind.i64 (s76_0 a0)))] [] | _ => False
theorem c_76_ok (a : List R) (K : List R → List (List D) → Prop) (h : c_76 a K) : Ct prog 76 a K := by
  unfold c_76 at h
  split at h
  · exact (ct76 _).gives h
  · exact h.elim
def C_16 : CallT := addC C_15 76 c_76
theorem C_16_ok : CallsOk prog C_16 := addC_ok C_15_ok c_76_ok
theorem vc80 (a0 : Int) (a1 : Int) (a2 : Bool) (a3 : Int) (a4 : ByteArray) (Q : List R → List (List D) → Prop) : vc E_0 C_0 noI fi80 (f80.body.getD .skip) f80.results.toList [.agg [.v (.int .i64 a0), .v (.int .i64 a1), .v (.bool a2), .v (.int .i64 a3), .v (.string a4)]] Q = (
((a0 != (3 : Int)) = true → Q [R.d (D.v (Value.int IntKind.i64 (0 : Int)))] []) ∧
  ((a0 != (3 : Int)) = false →
    Q
      [R.d
          (D.v
            (Value.int IntKind.i64
              (if (18 : Int) < if (0 : Int) > a1 then (0 : Int) else a1 then (18 : Int)
              else if (0 : Int) > a1 then (0 : Int) else a1)))]
      [])) := by kernel_rfl
def s80_0 (a0 : Int) (a1 : Int) (a2 : Bool) (a3 : Int) (a4 : ByteArray) : Int := bif a0 != (3 : Int) then (0 : Int)
else
  if (18 : Int) < if (0 : Int) > a1 then (0 : Int) else a1 then (18 : Int) else if (0 : Int) > a1 then (0 : Int) else a1
theorem ct80 (a0 : Int) (a1 : Int) (a2 : Bool) (a3 : Int) (a4 : ByteArray) : Ct prog 80 [.agg [.v (.int .i64 a0), .v (.int .i64 a1), .v (.bool a2), .v (.int .i64 a3), .v (.string a4)]] (gives [R.d (D.v (Value.int IntKind.i64 (s80_0 a0 a1 a2 a3 a4)))]) :=
  ct_of_vc E_ok C_0_ok ioK_no it_ok mixed (fn := f80) (body := f80.body.getD .skip) (by kernel_rfl) (by kernel_rfl) (by kernel_rfl) (fi := fi80) (by kernel_rfl) (by kernel_rfl) ⟨_, _, rfl, rfl⟩ (by
    rw [vc80]
    (repeat' first | exact ⟨rfl, rfl⟩ | apply gsplit <;> intro h)
    all_goals (refine ⟨?_, rfl⟩; simp only [s80_0, *, cond_true, cond_false]))
def c_80 (a : List R) (K : List R → List (List D) → Prop) : Prop := match a with | [.agg [.v (.int .i64 a0), .v (.int .i64 a1), .v (.bool a2), .v (.int .i64 a3), .v (.string a4)]] => K [R.d (D.v (Value.int IntKind.i64 (s80_0 a0 a1 a2 a3 a4)))] [] | _ => False
theorem c_80_ok (a : List R) (K : List R → List (List D) → Prop) (h : c_80 a K) : Ct prog 80 a K := by
  unfold c_80 at h
  split at h
  · exact (ct80 _ _ _ _ _).gives h
  · exact h.elim
def C_17 : CallT := addC C_16 80 c_80
theorem C_17_ok : CallsOk prog C_17 := addC_ok C_16_ok c_80_ok
theorem vc82 (a0 : Int) (a1 : Int) (a2 : Int) (a3 : Int) (Q : List R → List (List D) → Prop) : vc E_0 C_0 noI fi82 (f82.body.getD .skip) f82.results.toList [.agg [.v (.int .i64 a0), .v (.int .u64 a1)], .agg [.v (.int .i64 a2), .v (.int .u64 a3)]] Q = (
((bif decide (a0 < a2) then true else bif a0 == a2 then decide (a1 < a3) else false) = true →
    Q [R.d (D.v (Value.int IntKind.i64 (-1 : Int)))] []) ∧
  ((bif decide (a0 < a2) then true else bif a0 == a2 then decide (a1 < a3) else false) = false →
    ((a0 == a2 && (a1 == a3 && true)) = true → Q [R.d (D.v (Value.int IntKind.i64 (0 : Int)))] []) ∧
      ((a0 == a2 && (a1 == a3 && true)) = false → Q [R.d (D.v (Value.int IntKind.i64 (1 : Int)))] []))) := by kernel_rfl
def s82_0 (a0 : Int) (a1 : Int) (a2 : Int) (a3 : Int) : Int := bif bif decide (a0 < a2) then true else bif a0 == a2 then decide (a1 < a3) else false then (-1 : Int)
else bif a0 == a2 && (a1 == a3 && true) then (0 : Int) else (1 : Int)
theorem ct82 (a0 : Int) (a1 : Int) (a2 : Int) (a3 : Int) : Ct prog 82 [.agg [.v (.int .i64 a0), .v (.int .u64 a1)], .agg [.v (.int .i64 a2), .v (.int .u64 a3)]] (gives [R.d (D.v (Value.int IntKind.i64 (s82_0 a0 a1 a2 a3)))]) :=
  ct_of_vc E_ok C_0_ok ioK_no it_ok mixed (fn := f82) (body := f82.body.getD .skip) (by kernel_rfl) (by kernel_rfl) (by kernel_rfl) (fi := fi82) (by kernel_rfl) (by kernel_rfl) ⟨_, _, rfl, rfl⟩ (by
    rw [vc82]
    (repeat' first | exact ⟨rfl, rfl⟩ | apply gsplit <;> intro h)
    all_goals (refine ⟨?_, rfl⟩; simp only [s82_0, *, cond_true, cond_false]))
def c_82 (a : List R) (K : List R → List (List D) → Prop) : Prop := match a with | [.agg [.v (.int .i64 a0), .v (.int .u64 a1)], .agg [.v (.int .i64 a2), .v (.int .u64 a3)]] => K [R.d (D.v (Value.int IntKind.i64 (s82_0 a0 a1 a2 a3)))] [] | _ => False
theorem c_82_ok (a : List R) (K : List R → List (List D) → Prop) (h : c_82 a K) : Ct prog 82 a K := by
  unfold c_82 at h
  split at h
  · exact (ct82 _ _ _ _).gives h
  · exact h.elim
def C_18 : CallT := addC C_17 82 c_82
theorem C_18_ok : CallsOk prog C_18 := addC_ok C_17_ok c_82_ok
theorem vc84 (a0 : Int) (Q : List R → List (List D) → Prop) : vc E_0 C_0 noI fi84 (f84.body.getD .skip) f84.results.toList [.d (.v (.int .i64 a0))] Q = (
Q [R.d (D.v (Value.bool (bif decide (a0 ≥ (0 : Int)) then decide (a0 ≤ (18 : Int)) else false)))] []) := by kernel_rfl
def s84_0 (a0 : Int) : Bool := bif decide (a0 ≥ (0 : Int)) then decide (a0 ≤ (18 : Int)) else false
theorem ct84 (a0 : Int) : Ct prog 84 [.d (.v (.int .i64 a0))] (gives [R.d (D.v (Value.bool (s84_0 a0)))]) :=
  ct_of_vc E_ok C_0_ok ioK_no it_ok mixed (fn := f84) (body := f84.body.getD .skip) (by kernel_rfl) (by kernel_rfl) (by kernel_rfl) (fi := fi84) (by kernel_rfl) (by kernel_rfl) ⟨_, _, rfl, rfl⟩ (by
    rw [vc84]
    (repeat' first | exact ⟨rfl, rfl⟩ | apply gsplit <;> intro h)
    all_goals (refine ⟨?_, rfl⟩; simp only [s84_0, *, cond_true, cond_false]))
def c_84 (a : List R) (K : List R → List (List D) → Prop) : Prop := match a with | [.d (.v (.int .i64 a0))] => K [R.d (D.v (Value.bool (s84_0 a0)))] [] | _ => False
theorem c_84_ok (a : List R) (K : List R → List (List D) → Prop) (h : c_84 a K) : Ct prog 84 a K := by
  unfold c_84 at h
  split at h
  · exact (ct84 _).gives h
  · exact h.elim
def C_19 : CallT := addC C_18 84 c_84
theorem C_19_ok : CallsOk prog C_19 := addC_ok C_18_ok c_84_ok
theorem vc86 (a0 : Int) (Q : List R → List (List D) → Prop) : vc E_0 C_0 noI fi86 (f86.body.getD .skip) f86.results.toList [.d (.v (.int .i64 a0))] Q = (
(decide (a0 < (0 : Int)) = true →
    Q [R.d (D.v (Value.int IntKind.u64 (IntKind.u64.wrap ((0 : Int) - IntKind.u64.wrap a0))))] []) ∧
  (decide (a0 < (0 : Int)) = false → Q [R.d (D.v (Value.int IntKind.u64 (IntKind.u64.wrap a0)))] [])) := by kernel_rfl
def s86_0 (a0 : Int) : Int := bif decide (a0 < (0 : Int)) then IntKind.u64.wrap ((0 : Int) - IntKind.u64.wrap a0) else IntKind.u64.wrap a0
theorem ct86 (a0 : Int) : Ct prog 86 [.d (.v (.int .i64 a0))] (gives [R.d (D.v (Value.int IntKind.u64 (s86_0 a0)))]) :=
  ct_of_vc E_ok C_0_ok ioK_no it_ok mixed (fn := f86) (body := f86.body.getD .skip) (by kernel_rfl) (by kernel_rfl) (by kernel_rfl) (fi := fi86) (by kernel_rfl) (by kernel_rfl) ⟨_, _, rfl, rfl⟩ (by
    rw [vc86]
    (repeat' first | exact ⟨rfl, rfl⟩ | apply gsplit <;> intro h)
    all_goals (refine ⟨?_, rfl⟩; simp only [s86_0, *, cond_true, cond_false]))
def c_86 (a : List R) (K : List R → List (List D) → Prop) : Prop := match a with | [.d (.v (.int .i64 a0))] => K [R.d (D.v (Value.int IntKind.u64 (s86_0 a0)))] [] | _ => False
theorem c_86_ok (a : List R) (K : List R → List (List D) → Prop) (h : c_86 a K) : Ct prog 86 a K := by
  unfold c_86 at h
  split at h
  · exact (ct86 _).gives h
  · exact h.elim
def C_20 : CallT := addC C_19 86 c_86
theorem C_20_ok : CallsOk prog C_20 := addC_ok C_19_ok c_86_ok
theorem vc15 (a0 : Int) (a1 : Int) (Q : List R → List (List D) → Prop) : vc E_0 C_20 noI fi15 (f15.body.getD .skip) f15.results.toList [.agg [.v (.int .i64 a0), .v (.int .i64 a1)]] Q = (
((bif bif bif decide (a0 < (1 : Int)) then true else decide (a0 > (5 : Int)) then true else !s32_0 a1 then true
      else bif a1 != (0 : Int) then a0 != (3 : Int) else false) =
      true →
    Q [R.d (D.v (Value.int IntKind.i64 (21 : Int)))] []) ∧
  ((bif bif bif decide (a0 < (1 : Int)) then true else decide (a0 > (5 : Int)) then true else !s32_0 a1 then true
      else bif a1 != (0 : Int) then a0 != (3 : Int) else false) =
      false →
    Q [R.d (D.v (Value.int IntKind.i64 (0 : Int)))] [])) := by kernel_rfl
def s15_0 (a0 : Int) (a1 : Int) : Int := bif
    bif bif bif decide (a0 < (1 : Int)) then true else decide (a0 > (5 : Int)) then true else !s32_0 a1 then true
    else bif a1 != (0 : Int) then a0 != (3 : Int) else false then
  (21 : Int)
else (0 : Int)
theorem ct15 (a0 : Int) (a1 : Int) : Ct prog 15 [.agg [.v (.int .i64 a0), .v (.int .i64 a1)]] (gives [R.d (D.v (Value.int IntKind.i64 (s15_0 a0 a1)))]) :=
  ct_of_vc E_ok C_20_ok ioK_no it_ok mixed (fn := f15) (body := f15.body.getD .skip) (by kernel_rfl) (by kernel_rfl) (by kernel_rfl) (fi := fi15) (by kernel_rfl) (by kernel_rfl) ⟨_, _, rfl, rfl⟩ (by
    rw [vc15]
    (repeat' first | exact ⟨rfl, rfl⟩ | apply gsplit <;> intro h)
    all_goals (refine ⟨?_, rfl⟩; simp only [s15_0, *, cond_true, cond_false]))
def c_15 (a : List R) (K : List R → List (List D) → Prop) : Prop := match a with | [.agg [.v (.int .i64 a0), .v (.int .i64 a1)]] => K [R.d (D.v (Value.int IntKind.i64 (s15_0 a0 a1)))] [] | _ => False
theorem c_15_ok (a : List R) (K : List R → List (List D) → Prop) (h : c_15 a K) : Ct prog 15 a K := by
  unfold c_15 at h
  split at h
  · exact (ct15 _ _).gives h
  · exact h.elim
def C_21 : CallT := addC C_20 15 c_15
theorem C_21_ok : CallsOk prog C_21 := addC_ok C_20_ok c_15_ok
theorem vc49 (a0 : Int) (a1 : Int) (Q : List R → List (List D) → Prop) : vc E_0 C_20 noI fi49 (f49.body.getD .skip) f49.results.toList [.d (.v (.int .i64 a0)), .d (.v (.int .i64 a1))] Q = (
Q [R.d (D.v (Value.bool (bif bif s64_0 a0 then !s64_0 a1 else false then true else decide (a0 < a1))))] []) := by kernel_rfl
def s49_0 (a0 : Int) (a1 : Int) : Bool := bif bif s64_0 a0 then !s64_0 a1 else false then true else decide (a0 < a1)
theorem ct49 (a0 : Int) (a1 : Int) : Ct prog 49 [.d (.v (.int .i64 a0)), .d (.v (.int .i64 a1))] (gives [R.d (D.v (Value.bool (s49_0 a0 a1)))]) :=
  ct_of_vc E_ok C_20_ok ioK_no it_ok mixed (fn := f49) (body := f49.body.getD .skip) (by kernel_rfl) (by kernel_rfl) (by kernel_rfl) (fi := fi49) (by kernel_rfl) (by kernel_rfl) ⟨_, _, rfl, rfl⟩ (by
    rw [vc49]
    (repeat' first | exact ⟨rfl, rfl⟩ | apply gsplit <;> intro h)
    all_goals (refine ⟨?_, rfl⟩; simp only [s49_0, *, cond_true, cond_false]))
def c_49 (a : List R) (K : List R → List (List D) → Prop) : Prop := match a with | [.d (.v (.int .i64 a0)), .d (.v (.int .i64 a1))] => K [R.d (D.v (Value.bool (s49_0 a0 a1)))] [] | _ => False
theorem c_49_ok (a : List R) (K : List R → List (List D) → Prop) (h : c_49 a K) : Ct prog 49 a K := by
  unfold c_49 at h
  split at h
  · exact (ct49 _ _).gives h
  · exact h.elim
def C_22 : CallT := addC C_21 49 c_49
theorem C_22_ok : CallsOk prog C_22 := addC_ok C_21_ok c_49_ok
theorem vc52 (a0 : Int) (a1 : Int) (a2 : Int) (a3 : Int) (Q : List R → List (List D) → Prop) : vc E_0 C_20 noI fi52 (f52.body.getD .skip) f52.results.toList [.agg [.v (.int .i64 a0), .v (.int .i64 a1)], .agg [.v (.int .i64 a2), .v (.int .i64 a3)]] Q = (
Q
  [R.d
      (D.v
        (Value.bool
          (bif bif decide (a0 ≥ (1 : Int)) then decide (a0 ≤ (5 : Int)) else false then s55_0 a0 == s55_0 a2
          else false)))]
  []) := by kernel_rfl
def s52_0 (a0 : Int) (a1 : Int) (a2 : Int) (a3 : Int) : Bool := bif bif decide (a0 ≥ (1 : Int)) then decide (a0 ≤ (5 : Int)) else false then s55_0 a0 == s55_0 a2 else false
theorem ct52 (a0 : Int) (a1 : Int) (a2 : Int) (a3 : Int) : Ct prog 52 [.agg [.v (.int .i64 a0), .v (.int .i64 a1)], .agg [.v (.int .i64 a2), .v (.int .i64 a3)]] (gives [R.d (D.v (Value.bool (s52_0 a0 a1 a2 a3)))]) :=
  ct_of_vc E_ok C_20_ok ioK_no it_ok mixed (fn := f52) (body := f52.body.getD .skip) (by kernel_rfl) (by kernel_rfl) (by kernel_rfl) (fi := fi52) (by kernel_rfl) (by kernel_rfl) ⟨_, _, rfl, rfl⟩ (by
    rw [vc52]
    (repeat' first | exact ⟨rfl, rfl⟩ | apply gsplit <;> intro h)
    all_goals (refine ⟨?_, rfl⟩; simp only [s52_0, *, cond_true, cond_false]))
def c_52 (a : List R) (K : List R → List (List D) → Prop) : Prop := match a with | [.agg [.v (.int .i64 a0), .v (.int .i64 a1)], .agg [.v (.int .i64 a2), .v (.int .i64 a3)]] => K [R.d (D.v (Value.bool (s52_0 a0 a1 a2 a3)))] [] | _ => False
theorem c_52_ok (a : List R) (K : List R → List (List D) → Prop) (h : c_52 a K) : Ct prog 52 a K := by
  unfold c_52 at h
  split at h
  · exact (ct52 _ _ _ _).gives h
  · exact h.elim
def C_23 : CallT := addC C_22 52 c_52
theorem C_23_ok : CallsOk prog C_23 := addC_ok C_22_ok c_52_ok
theorem vc71 (a0 : Int) (a1 : Int) (Q : List R → List (List D) → Prop) : vc E_0 C_20 noI fi71 (f71.body.getD .skip) f71.results.toList [.agg [.v (.int .i64 a0), .v (.int .u64 a1)]] Q = (
((!(s70_0 (IntKind.i64.wrap a1) == a0 && (s70_1 (IntKind.i64.wrap a1) == a1 && true))) = true →
    Q [R.d (D.v (Value.int IntKind.i64 (0 : Int))), R.d (D.v (Value.int IntKind.i64 (10 : Int)))] []) ∧
  ((!(s70_0 (IntKind.i64.wrap a1) == a0 && (s70_1 (IntKind.i64.wrap a1) == a1 && true))) = false →
    Q [R.d (D.v (Value.int IntKind.i64 (IntKind.i64.wrap a1))), R.d (D.v (Value.int IntKind.i64 (0 : Int)))] [])) := by kernel_rfl
def s71_0 (a0 : Int) (a1 : Int) : Int := bif !(s70_0 (IntKind.i64.wrap a1) == a0 && (s70_1 (IntKind.i64.wrap a1) == a1 && true)) then (0 : Int)
else IntKind.i64.wrap a1
def s71_1 (a0 : Int) (a1 : Int) : Int := bif !(s70_0 (IntKind.i64.wrap a1) == a0 && (s70_1 (IntKind.i64.wrap a1) == a1 && true)) then (10 : Int) else (0 : Int)
theorem ct71 (a0 : Int) (a1 : Int) : Ct prog 71 [.agg [.v (.int .i64 a0), .v (.int .u64 a1)]] (gives [R.d (D.v (Value.int IntKind.i64 (s71_0 a0 a1))), R.d (D.v (Value.int IntKind.i64 (s71_1 a0 a1)))]) :=
  ct_of_vc E_ok C_20_ok ioK_no it_ok mixed (fn := f71) (body := f71.body.getD .skip) (by kernel_rfl) (by kernel_rfl) (by kernel_rfl) (fi := fi71) (by kernel_rfl) (by kernel_rfl) ⟨_, _, rfl, rfl⟩ (by
    rw [vc71]
    (repeat' first | exact ⟨rfl, rfl⟩ | apply gsplit <;> intro h)
    all_goals (refine ⟨?_, rfl⟩; simp only [s71_0, s71_1, *, cond_true, cond_false]))
def c_71 (a : List R) (K : List R → List (List D) → Prop) : Prop := match a with | [.agg [.v (.int .i64 a0), .v (.int .u64 a1)]] => K [R.d (D.v (Value.int IntKind.i64 (s71_0 a0 a1))), R.d (D.v (Value.int IntKind.i64 (s71_1 a0 a1)))] [] | _ => False
theorem c_71_ok (a : List R) (K : List R → List (List D) → Prop) (h : c_71 a K) : Ct prog 71 a K := by
  unfold c_71 at h
  split at h
  · exact (ct71 _ _).gives h
  · exact h.elim
def C_24 : CallT := addC C_23 71 c_71
theorem C_24_ok : CallsOk prog C_24 := addC_ok C_23_ok c_71_ok
theorem vc74 (a0 : Int) (a1 : Int) (a2 : Int) (a3 : Int) (Q : List R → List (List D) → Prop) : vc E_0 C_20 noI fi74 (f74.body.getD .skip) f74.results.toList [.agg [.v (.int .i64 a0), .v (.int .i64 a1)], .agg [.v (.int .i64 a2), .v (.int .i64 a3)]] Q = (
Q
  [R.d
      (D.v
        (Value.bool
          (bif bif s76_0 a0 == s76_0 a2 then decide (a0 ≥ (1 : Int)) else false then decide (a0 ≤ (5 : Int))
          else false)))]
  []) := by kernel_rfl
def s74_0 (a0 : Int) (a1 : Int) (a2 : Int) (a3 : Int) : Bool := bif bif s76_0 a0 == s76_0 a2 then decide (a0 ≥ (1 : Int)) else false then decide (a0 ≤ (5 : Int)) else false
theorem ct74 (a0 : Int) (a1 : Int) (a2 : Int) (a3 : Int) : Ct prog 74 [.agg [.v (.int .i64 a0), .v (.int .i64 a1)], .agg [.v (.int .i64 a2), .v (.int .i64 a3)]] (gives [R.d (D.v (Value.bool (s74_0 a0 a1 a2 a3)))]) :=
  ct_of_vc E_ok C_20_ok ioK_no it_ok mixed (fn := f74) (body := f74.body.getD .skip) (by kernel_rfl) (by kernel_rfl) (by kernel_rfl) (fi := fi74) (by kernel_rfl) (by kernel_rfl) ⟨_, _, rfl, rfl⟩ (by
    rw [vc74]
    (repeat' first | exact ⟨rfl, rfl⟩ | apply gsplit <;> intro h)
    all_goals (refine ⟨?_, rfl⟩; simp only [s74_0, *, cond_true, cond_false]))
def c_74 (a : List R) (K : List R → List (List D) → Prop) : Prop := match a with | [.agg [.v (.int .i64 a0), .v (.int .i64 a1)], .agg [.v (.int .i64 a2), .v (.int .i64 a3)]] => K [R.d (D.v (Value.bool (s74_0 a0 a1 a2 a3)))] [] | _ => False
theorem c_74_ok (a : List R) (K : List R → List (List D) → Prop) (h : c_74 a K) : Ct prog 74 a K := by
  unfold c_74 at h
  split at h
  · exact (ct74 _ _ _ _).gives h
  · exact h.elim
def C_25 : CallT := addC C_24 74 c_74
theorem C_25_ok : CallsOk prog C_25 := addC_ok C_24_ok c_74_ok
theorem vc18 (a0 : Int) (a1 : Int) (a2 : Bool) (a3 : Int) (a4 : ByteArray) (Q : List R → List (List D) → Prop) : vc E_0 C_25 noI fi18 (f18.body.getD .skip) f18.results.toList [.agg [.v (.int .i64 a0), .v (.int .i64 a1), .v (.bool a2), .v (.int .i64 a3), .v (.string a4)]] Q = (
((s15_0 a0 a1 != (0 : Int)) = true → Q [R.d (D.v (Value.int IntKind.i64 (s15_0 a0 a1)))] []) ∧
  ((s15_0 a0 a1 != (0 : Int)) = false →
    (a2 = true →
        ((!bif a4 == { data := { toList := [] } } then a3 == (0 : Int) else false) = true →
            Q [R.d (D.v (Value.int IntKind.i64 (20 : Int)))] []) ∧
          ((!bif a4 == { data := { toList := [] } } then a3 == (0 : Int) else false) = false →
            Q [R.d (D.v (Value.int IntKind.i64 (0 : Int)))] [])) ∧
      (a2 = false →
        ((a0 == (1 : Int)) = true →
            ((!bif a4 == { data := { toList := [] } } then bif a3 == (0 : Int) then true else a3 == (1 : Int)
                    else false) =
                  true →
                Q [R.d (D.v (Value.int IntKind.i64 (20 : Int)))] []) ∧
              ((!bif a4 == { data := { toList := [] } } then bif a3 == (0 : Int) then true else a3 == (1 : Int)
                    else false) =
                  false →
                Q [R.d (D.v (Value.int IntKind.i64 (0 : Int)))] [])) ∧
          ((a0 == (1 : Int)) = false →
            ((a0 == (3 : Int)) = true →
                ((!bif a4 == { data := { toList := [] } } then s34_0 a3 else false) = true →
                    Q [R.d (D.v (Value.int IntKind.i64 (20 : Int)))] []) ∧
                  ((!bif a4 == { data := { toList := [] } } then s34_0 a3 else false) = false →
                    Q [R.d (D.v (Value.int IntKind.i64 (0 : Int)))] [])) ∧
              ((a0 == (3 : Int)) = false →
                ((a0 == (5 : Int)) = true →
                    ((!bif bif a4 == { data := { toList := [] } } then decide (a3 ≥ (-719162 : Int)) else false then
                              decide (a3 ≤ (2932896 : Int))
                            else false) =
                          true →
                        Q [R.d (D.v (Value.int IntKind.i64 (20 : Int)))] []) ∧
                      ((!bif bif a4 == { data := { toList := [] } } then decide (a3 ≥ (-719162 : Int)) else false then
                              decide (a3 ≤ (2932896 : Int))
                            else false) =
                          false →
                        Q [R.d (D.v (Value.int IntKind.i64 (0 : Int)))] [])) ∧
                  ((a0 == (5 : Int)) = false →
                    ((a0 == (4 : Int)) = true →
                        ((!bif a3 == (0 : Int) then decide (↑a4.size ≤ (256 : Int)) else false) = true →
                            Q [R.d (D.v (Value.int IntKind.i64 (20 : Int)))] []) ∧
                          ((!bif a3 == (0 : Int) then decide (↑a4.size ≤ (256 : Int)) else false) = false →
                            Q [R.d (D.v (Value.int IntKind.i64 (0 : Int)))] [])) ∧
                      ((a0 == (4 : Int)) = false →
                        ((!a4 == { data := { toList := [] } }) = true →
                            Q [R.d (D.v (Value.int IntKind.i64 (20 : Int)))] []) ∧
                          ((!a4 == { data := { toList := [] } }) = false →
                            Q [R.d (D.v (Value.int IntKind.i64 (0 : Int)))] [])))))))) := by kernel_rfl
def s18_0 (a0 : Int) (a1 : Int) (a2 : Bool) (a3 : Int) (a4 : ByteArray) : Int := bif s15_0 a0 a1 != (0 : Int) then s15_0 a0 a1
else
  bif a2 then bif !bif a4 == { data := { toList := [] } } then a3 == (0 : Int) else false then (20 : Int) else (0 : Int)
  else
    bif a0 == (1 : Int) then
      bif
          !bif a4 == { data := { toList := [] } } then bif a3 == (0 : Int) then true else a3 == (1 : Int)
            else false then
        (20 : Int)
      else (0 : Int)
    else
      bif a0 == (3 : Int) then
        bif !bif a4 == { data := { toList := [] } } then s34_0 a3 else false then (20 : Int) else (0 : Int)
      else
        bif a0 == (5 : Int) then
          bif
              !bif bif a4 == { data := { toList := [] } } then decide (a3 ≥ (-719162 : Int)) else false then
                  decide (a3 ≤ (2932896 : Int))
                else false then
            (20 : Int)
          else (0 : Int)
        else
          bif a0 == (4 : Int) then
            bif !bif a3 == (0 : Int) then decide (↑a4.size ≤ (256 : Int)) else false then (20 : Int) else (0 : Int)
          else bif !a4 == { data := { toList := [] } } then (20 : Int) else (0 : Int)
theorem ct18 (a0 : Int) (a1 : Int) (a2 : Bool) (a3 : Int) (a4 : ByteArray) : Ct prog 18 [.agg [.v (.int .i64 a0), .v (.int .i64 a1), .v (.bool a2), .v (.int .i64 a3), .v (.string a4)]] (gives [R.d (D.v (Value.int IntKind.i64 (s18_0 a0 a1 a2 a3 a4)))]) :=
  ct_of_vc E_ok C_25_ok ioK_no it_ok mixed (fn := f18) (body := f18.body.getD .skip) (by kernel_rfl) (by kernel_rfl) (by kernel_rfl) (fi := fi18) (by kernel_rfl) (by kernel_rfl) ⟨_, _, rfl, rfl⟩ (by
    rw [vc18]
    (repeat' first | exact ⟨rfl, rfl⟩ | apply gsplit <;> intro h)
    all_goals (refine ⟨?_, rfl⟩; simp only [s18_0, *, cond_true, cond_false]))
def c_18 (a : List R) (K : List R → List (List D) → Prop) : Prop := match a with | [.agg [.v (.int .i64 a0), .v (.int .i64 a1), .v (.bool a2), .v (.int .i64 a3), .v (.string a4)]] => K [R.d (D.v (Value.int IntKind.i64 (s18_0 a0 a1 a2 a3 a4)))] [] | _ => False
theorem c_18_ok (a : List R) (K : List R → List (List D) → Prop) (h : c_18 a K) : Ct prog 18 a K := by
  unfold c_18 at h
  split at h
  · exact (ct18 _ _ _ _ _).gives h
  · exact h.elim
def C_26 : CallT := addC C_25 18 c_18
theorem C_26_ok : CallsOk prog C_26 := addC_ok C_25_ok c_18_ok

end Go.Proofs.Try
