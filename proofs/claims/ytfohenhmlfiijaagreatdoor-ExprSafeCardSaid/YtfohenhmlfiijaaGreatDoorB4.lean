/- A part of the proof: contracts of functions, by a verified generator of conditions; no condition of its own. -/
import Derived.Test.YtfohenhmlfiijaaGreatDoorB1
namespace Go.Proofs.Tryz
open Go Go.Dm
set_option maxRecDepth 100000
variable {gl : Nat → Option Obj}
def C_0 : CallT := fun _ _ _ => False
theorem C_0_ok : CallsOk prog gl C_0 := fun _ _ _ h => h.elim
def C_1 : CallT := C_0
theorem C_1_ok : CallsOk prog gl C_1 := C_0_ok
theorem vc65 (a0 : Int) (Q : List R → List (List D) → Prop) : vc E_0 C_0 noI fi28 (f28.body.getD .skip) f28.results.toList [.d (.v (.int .i64 a0))] Q = ( Q [.agg [.i 2, .i 0, .v (.bool false), .i a0, .v (.string ⟨⟨[]⟩⟩)]] []) := by kernel_rfl
theorem ct65 (a0 : Int) : Ct prog gl 28 [.d (.v (.int .i64 a0))] (gives [R.agg
    [D.v (Value.int IntKind.i64 (2 : Int)), D.v (Value.int IntKind.i64 (0 : Int)), D.v (Value.bool false),
      D.v (Value.int IntKind.i64 a0), D.v (Value.string { data := { toList := [] : Array UInt8 } : ByteArray })]]) :=
  ct_of_vc E_ok C_0_ok ioK_no it_ok mixed (fn := f28) (body := f28.body.getD .skip) (by kernel_rfl) (by kernel_rfl) (by kernel_rfl) (fi := fi28) (by kernel_rfl) (by kernel_rfl) ⟨_, _, rfl, rfl⟩ (by
    rw [vc65]
    (repeat' first | exact ⟨rfl, rfl⟩ | apply gsplit <;> intro h)
    all_goals (refine ⟨?_, rfl⟩; simp only [*, cond_true, cond_false]))
def c_65 (a : List R) (K : List R → List (List D) → Prop) : Prop := match a with | [.d (.v (.int .i64 a0))] => K [R.agg
    [D.v (Value.int IntKind.i64 (2 : Int)), D.v (Value.int IntKind.i64 (0 : Int)), D.v (Value.bool false),
      D.v (Value.int IntKind.i64 a0), D.v (Value.string { data := { toList := [] : Array UInt8 } : ByteArray })]] [] | _ => False
theorem c_65_ok (a : List R) (K : List R → List (List D) → Prop) (h : c_65 a K) : Ct prog gl 28 a K := by
  unfold c_65 at h
  split at h
  · exact (ct65 _).gives h
  · exact h.elim
def C_2 : CallT := addC C_1 28 c_65
theorem C_2_ok : CallsOk prog gl C_2 := addC_ok C_1_ok c_65_ok
theorem vc67 (a0 : Int) (a1 : Int) (Q : List R → List (List D) → Prop) : vc E_0 C_0 noI fi30 (f30.body.getD .skip) f30.results.toList [.agg [.v (.int .i64 a0), .v (.int .i64 a1)]] Q = ( ((bif bif bif bif decide (a0 < 1) then true else decide (a0 > 5) then true else decide (a1 < 0) then true else decide (a1 > 18) then true else bif a0 != (3 : Int) then a1 != (0 : Int) else false) = true → Q [.d (.i 21)] []) ∧ ((bif bif bif bif decide (a0 < 1) then true else decide (a0 > 5) then true else decide (a1 < 0) then true else decide (a1 > 18) then true else bif a0 != (3 : Int) then a1 != (0 : Int) else false) = false → Q [.d (.i 0)] [])) := by kernel_rfl
def s67_0 (a0 : Int) (a1 : Int) : Int := bif
    bif
        bif
            bif bif decide (a0 < (1 : Int)) then true else decide (a0 > (5 : Int)) then true
            else decide (a1 < (0 : Int)) then
          true
        else decide (a1 > (18 : Int)) then
      true
    else bif a0 != (3 : Int) then a1 != (0 : Int) else false then
  (21 : Int)
else (0 : Int)
theorem ct67 (a0 : Int) (a1 : Int) : Ct prog gl 30 [.agg [.v (.int .i64 a0), .v (.int .i64 a1)]] (gives [R.d (D.v (Value.int IntKind.i64 (s67_0 a0 a1)))]) :=
  ct_of_vc E_ok C_0_ok ioK_no it_ok mixed (fn := f30) (body := f30.body.getD .skip) (by kernel_rfl) (by kernel_rfl) (by kernel_rfl) (fi := fi30) (by kernel_rfl) (by kernel_rfl) ⟨_, _, rfl, rfl⟩ (by
    rw [vc67]
    (repeat' first | exact ⟨rfl, rfl⟩ | apply gsplit <;> intro h)
    all_goals (refine ⟨?_, rfl⟩; simp only [s67_0, *, cond_true, cond_false]))
def c_67 (a : List R) (K : List R → List (List D) → Prop) : Prop := match a with | [.agg [.v (.int .i64 a0), .v (.int .i64 a1)]] => K [R.d (D.v (Value.int IntKind.i64 (s67_0 a0 a1)))] [] | _ => False
theorem c_67_ok (a : List R) (K : List R → List (List D) → Prop) (h : c_67 a K) : Ct prog gl 30 a K := by
  unfold c_67 at h
  split at h
  · exact (ct67 _ _).gives h
  · exact h.elim
def C_3 : CallT := addC C_2 30 c_67
theorem C_3_ok : CallsOk prog gl C_3 := addC_ok C_2_ok c_67_ok
theorem vc68 (a0 : Int) (Q : List R → List (List D) → Prop) : vc E_0 C_0 noI fi31 (f31.body.getD .skip) f31.results.toList [.d (.v (.int .i64 a0))] Q = ( Q [.d (.v (.bool (bif decide (a0 ≥ (-999999999999999999 : Int)) then decide (a0 ≤ 999999999999999999) else false)))] []) := by kernel_rfl
def s68_0 (a0 : Int) : Bool := bif decide (a0 ≥ (-999999999999999999 : Int)) then decide (a0 ≤ (999999999999999999 : Int)) else false
theorem ct68 (a0 : Int) : Ct prog gl 31 [.d (.v (.int .i64 a0))] (gives [R.d (D.v (Value.bool (s68_0 a0)))]) :=
  ct_of_vc E_ok C_0_ok ioK_no it_ok mixed (fn := f31) (body := f31.body.getD .skip) (by kernel_rfl) (by kernel_rfl) (by kernel_rfl) (fi := fi31) (by kernel_rfl) (by kernel_rfl) ⟨_, _, rfl, rfl⟩ (by
    rw [vc68]
    (repeat' first | exact ⟨rfl, rfl⟩ | apply gsplit <;> intro h)
    all_goals (refine ⟨?_, rfl⟩; simp only [s68_0, *, cond_true, cond_false]))
def c_68 (a : List R) (K : List R → List (List D) → Prop) : Prop := match a with | [.d (.v (.int .i64 a0))] => K [R.d (D.v (Value.bool (s68_0 a0)))] [] | _ => False
theorem c_68_ok (a : List R) (K : List R → List (List D) → Prop) (h : c_68 a K) : Ct prog gl 31 a K := by
  unfold c_68 at h
  split at h
  · exact (ct68 _).gives h
  · exact h.elim
def C_4 : CallT := addC C_3 31 c_68
theorem C_4_ok : CallsOk prog gl C_4 := addC_ok C_3_ok c_68_ok
def C_5 : CallT := C_4
theorem C_5_ok : CallsOk prog gl C_5 := C_4_ok
def C_6 : CallT := C_5
theorem C_6_ok : CallsOk prog gl C_6 := C_5_ok
def C_7 : CallT := C_6
theorem C_7_ok : CallsOk prog gl C_7 := C_6_ok
def C_8 : CallT := C_7
theorem C_8_ok : CallsOk prog gl C_8 := C_7_ok
def C_9 : CallT := C_8
theorem C_9_ok : CallsOk prog gl C_9 := C_8_ok
theorem vc114 (a0 : Int) (Q : List R → List (List D) → Prop) : vc E_0 C_0 noI fi35 (f35.body.getD .skip) f35.results.toList [.d (.v (.int .i64 a0))] Q = ( Q [.d (.v (.bool (bif decide ((-999999999999999999 : Int) ≤ a0) then decide (a0 ≤ 999999999999999999) else false)))] []) := by kernel_rfl
def s114_0 (a0 : Int) : Bool := bif decide ((-999999999999999999 : Int) ≤ a0) then decide (a0 ≤ (999999999999999999 : Int)) else false
theorem ct114 (a0 : Int) : Ct prog gl 35 [.d (.v (.int .i64 a0))] (gives [R.d (D.v (Value.bool (s114_0 a0)))]) :=
  ct_of_vc E_ok C_0_ok ioK_no it_ok mixed (fn := f35) (body := f35.body.getD .skip) (by kernel_rfl) (by kernel_rfl) (by kernel_rfl) (fi := fi35) (by kernel_rfl) (by kernel_rfl) ⟨_, _, rfl, rfl⟩ (by
    rw [vc114]
    (repeat' first | exact ⟨rfl, rfl⟩ | apply gsplit <;> intro h)
    all_goals (refine ⟨?_, rfl⟩; simp only [s114_0, *, cond_true, cond_false]))
def c_114 (a : List R) (K : List R → List (List D) → Prop) : Prop := match a with | [.d (.v (.int .i64 a0))] => K [R.d (D.v (Value.bool (s114_0 a0)))] [] | _ => False
theorem c_114_ok (a : List R) (K : List R → List (List D) → Prop) (h : c_114 a K) : Ct prog gl 35 a K := by
  unfold c_114 at h
  split at h
  · exact (ct114 _).gives h
  · exact h.elim
def C_10 : CallT := addC C_9 35 c_114
theorem C_10_ok : CallsOk prog gl C_10 := addC_ok C_9_ok c_114_ok
theorem vc118 (a0 : Int) (Q : List R → List (List D) → Prop) : vc E_0 C_0 noI fi39 (f39.body.getD .skip) f39.results.toList [.d (.v (.int .i64 a0))] Q = ( ((a0 == 0) = true → Q [.d (.i 1)] []) ∧ ((a0 == 0) = false → ((a0 == 1) = true → Q [.d (.i 0)] []) ∧ ((a0 == 1) = false → Q [.d (.i 2)] []))) := by kernel_rfl
def s118_0 (a0 : Int) : Int := bif a0 == (0 : Int) then (1 : Int) else bif a0 == (1 : Int) then (0 : Int) else (2 : Int)
theorem ct118 (a0 : Int) : Ct prog gl 39 [.d (.v (.int .i64 a0))] (gives [R.d (D.v (Value.int IntKind.i64 (s118_0 a0)))]) :=
  ct_of_vc E_ok C_0_ok ioK_no it_ok mixed (fn := f39) (body := f39.body.getD .skip) (by kernel_rfl) (by kernel_rfl) (by kernel_rfl) (fi := fi39) (by kernel_rfl) (by kernel_rfl) ⟨_, _, rfl, rfl⟩ (by
    rw [vc118]
    (repeat' first | exact ⟨rfl, rfl⟩ | apply gsplit <;> intro h)
    all_goals (refine ⟨?_, rfl⟩; simp only [s118_0, *, cond_true, cond_false]))
def c_118 (a : List R) (K : List R → List (List D) → Prop) : Prop := match a with | [.d (.v (.int .i64 a0))] => K [R.d (D.v (Value.int IntKind.i64 (s118_0 a0)))] [] | _ => False
theorem c_118_ok (a : List R) (K : List R → List (List D) → Prop) (h : c_118 a K) : Ct prog gl 39 a K := by
  unfold c_118 at h
  split at h
  · exact (ct118 _).gives h
  · exact h.elim
def C_11 : CallT := addC C_10 39 c_118
theorem C_11_ok : CallsOk prog gl C_11 := addC_ok C_10_ok c_118_ok
theorem vc120 (a0 : Int) (a1 : Int) (Q : List R → List (List D) → Prop) : vc E_0 C_0 noI fi41 (f41.body.getD .skip) f41.results.toList [.agg [.v (.int .i64 a0), .v (.int .i64 a1)]] Q = ( Q [.agg [.i a0, .i a1, .v (.bool true), .i 0, .v (.string ⟨⟨[]⟩⟩)]] []) := by kernel_rfl
theorem ct120 (a0 : Int) (a1 : Int) : Ct prog gl 41 [.agg [.v (.int .i64 a0), .v (.int .i64 a1)]] (gives [R.agg
    [D.v (Value.int IntKind.i64 a0), D.v (Value.int IntKind.i64 a1), D.v (Value.bool true),
      D.v (Value.int IntKind.i64 (0 : Int)), D.v (Value.string { data := { toList := [] : Array UInt8 } : ByteArray })]]) :=
  ct_of_vc E_ok C_0_ok ioK_no it_ok mixed (fn := f41) (body := f41.body.getD .skip) (by kernel_rfl) (by kernel_rfl) (by kernel_rfl) (fi := fi41) (by kernel_rfl) (by kernel_rfl) ⟨_, _, rfl, rfl⟩ (by
    rw [vc120]
    (repeat' first | exact ⟨rfl, rfl⟩ | apply gsplit <;> intro h)
    all_goals (refine ⟨?_, rfl⟩; simp only [*, cond_true, cond_false]))
def c_120 (a : List R) (K : List R → List (List D) → Prop) : Prop := match a with | [.agg [.v (.int .i64 a0), .v (.int .i64 a1)]] => K [R.agg
    [D.v (Value.int IntKind.i64 a0), D.v (Value.int IntKind.i64 a1), D.v (Value.bool true),
      D.v (Value.int IntKind.i64 (0 : Int)), D.v (Value.string { data := { toList := [] : Array UInt8 } : ByteArray })]] [] | _ => False
theorem c_120_ok (a : List R) (K : List R → List (List D) → Prop) (h : c_120 a K) : Ct prog gl 41 a K := by
  unfold c_120 at h
  split at h
  · exact (ct120 _ _).gives h
  · exact h.elim
def C_12 : CallT := addC C_11 41 c_120
theorem C_12_ok : CallsOk prog gl C_12 := addC_ok C_11_ok c_120_ok
theorem vc124 (a0 : Int) (Q : List R → List (List D) → Prop) : vc E_0 C_0 noI fi45 (f45.body.getD .skip) f45.results.toList [.d (.v (.int .i64 a0))] Q = ( Q [.d (.v (.bool (bif decide (a0 ≥ 0) then decide (a0 ≤ 18) else false)))] []) := by kernel_rfl
def s124_0 (a0 : Int) : Bool := bif decide (a0 ≥ (0 : Int)) then decide (a0 ≤ (18 : Int)) else false
theorem ct124 (a0 : Int) : Ct prog gl 45 [.d (.v (.int .i64 a0))] (gives [R.d (D.v (Value.bool (s124_0 a0)))]) :=
  ct_of_vc E_ok C_0_ok ioK_no it_ok mixed (fn := f45) (body := f45.body.getD .skip) (by kernel_rfl) (by kernel_rfl) (by kernel_rfl) (fi := fi45) (by kernel_rfl) (by kernel_rfl) ⟨_, _, rfl, rfl⟩ (by
    rw [vc124]
    (repeat' first | exact ⟨rfl, rfl⟩ | apply gsplit <;> intro h)
    all_goals (refine ⟨?_, rfl⟩; simp only [s124_0, *, cond_true, cond_false]))
def c_124 (a : List R) (K : List R → List (List D) → Prop) : Prop := match a with | [.d (.v (.int .i64 a0))] => K [R.d (D.v (Value.bool (s124_0 a0)))] [] | _ => False
theorem c_124_ok (a : List R) (K : List R → List (List D) → Prop) (h : c_124 a K) : Ct prog gl 45 a K := by
  unfold c_124 at h
  split at h
  · exact (ct124 _).gives h
  · exact h.elim
def C_13 : CallT := addC C_12 45 c_124
theorem C_13_ok : CallsOk prog gl C_13 := addC_ok C_12_ok c_124_ok
theorem vc130 (a0 : Int) (a1 : Int) (Q : List R → List (List D) → Prop) : vc E_0 C_0 noI fi51 (f51.body.getD .skip) f51.results.toList [.agg [.v (.int .i64 a0), .v (.int .i64 a1)]] Q = ( Q [.d (.v (.bool (bif a0 == 2 then true else a0 == 3)))] []) := by kernel_rfl
def s130_0 (a0 : Int) (a1 : Int) : Bool := bif a0 == (2 : Int) then true else a0 == (3 : Int)
theorem ct130 (a0 : Int) (a1 : Int) : Ct prog gl 51 [.agg [.v (.int .i64 a0), .v (.int .i64 a1)]] (gives [R.d (D.v (Value.bool (s130_0 a0 a1)))]) :=
  ct_of_vc E_ok C_0_ok ioK_no it_ok mixed (fn := f51) (body := f51.body.getD .skip) (by kernel_rfl) (by kernel_rfl) (by kernel_rfl) (fi := fi51) (by kernel_rfl) (by kernel_rfl) ⟨_, _, rfl, rfl⟩ (by
    rw [vc130]
    (repeat' first | exact ⟨rfl, rfl⟩ | apply gsplit <;> intro h)
    all_goals (refine ⟨?_, rfl⟩; simp only [s130_0, *, cond_true, cond_false]))
def c_130 (a : List R) (K : List R → List (List D) → Prop) : Prop := match a with | [.agg [.v (.int .i64 a0), .v (.int .i64 a1)]] => K [R.d (D.v (Value.bool (s130_0 a0 a1)))] [] | _ => False
theorem c_130_ok (a : List R) (K : List R → List (List D) → Prop) (h : c_130 a K) : Ct prog gl 51 a K := by
  unfold c_130 at h
  split at h
  · exact (ct130 _ _).gives h
  · exact h.elim
def C_14 : CallT := addC C_13 51 c_130
theorem C_14_ok : CallsOk prog gl C_14 := addC_ok C_13_ok c_130_ok
def C_15 : CallT := C_14
theorem C_15_ok : CallsOk prog gl C_15 := C_14_ok
def C_16 : CallT := C_15
theorem C_16_ok : CallsOk prog gl C_16 := C_15_ok
def C_17 : CallT := C_16
theorem C_17_ok : CallsOk prog gl C_17 := C_16_ok
def C_18 : CallT := C_17
theorem C_18_ok : CallsOk prog gl C_18 := C_17_ok
def C_19 : CallT := C_18
theorem C_19_ok : CallsOk prog gl C_19 := C_18_ok
def C_20 : CallT := C_19
theorem C_20_ok : CallsOk prog gl C_20 := C_19_ok
def C_21 : CallT := C_20
theorem C_21_ok : CallsOk prog gl C_21 := C_20_ok
def C_22 : CallT := C_21
theorem C_22_ok : CallsOk prog gl C_22 := C_21_ok
def C_23 : CallT := C_22
theorem C_23_ok : CallsOk prog gl C_23 := C_22_ok
def C_24 : CallT := C_23
theorem C_24_ok : CallsOk prog gl C_24 := C_23_ok
theorem vc194 (a0 : Int) (a1 : Int) (Q : List R → List (List D) → Prop) : vc E_0 C_0 noI fi61 (f61.body.getD .skip) f61.results.toList [.d (.v (.int .i64 a0)), .d (.v (.int .i64 a1))] Q = ( ((bif a0 == 0 then true else a1 == 0) = true → Q [.d (.i 0)] []) ∧ ((bif a0 == 0 then true else a1 == 0) = false → ((bif a0 == 1 then a1 == 1 else false) = true → Q [.d (.i 1)] []) ∧ ((bif a0 == 1 then a1 == 1 else false) = false → Q [.d (.i 2)] []))) := by kernel_rfl
def s194_0 (a0 : Int) (a1 : Int) : Int := bif bif a0 == (0 : Int) then true else a1 == (0 : Int) then (0 : Int)
else bif bif a0 == (1 : Int) then a1 == (1 : Int) else false then (1 : Int) else (2 : Int)
theorem ct194 (a0 : Int) (a1 : Int) : Ct prog gl 61 [.d (.v (.int .i64 a0)), .d (.v (.int .i64 a1))] (gives [R.d (D.v (Value.int IntKind.i64 (s194_0 a0 a1)))]) :=
  ct_of_vc E_ok C_0_ok ioK_no it_ok mixed (fn := f61) (body := f61.body.getD .skip) (by kernel_rfl) (by kernel_rfl) (by kernel_rfl) (fi := fi61) (by kernel_rfl) (by kernel_rfl) ⟨_, _, rfl, rfl⟩ (by
    rw [vc194]
    (repeat' first | exact ⟨rfl, rfl⟩ | apply gsplit <;> intro h)
    all_goals (refine ⟨?_, rfl⟩; simp only [s194_0, *, cond_true, cond_false]))
def c_194 (a : List R) (K : List R → List (List D) → Prop) : Prop := match a with | [.d (.v (.int .i64 a0)), .d (.v (.int .i64 a1))] => K [R.d (D.v (Value.int IntKind.i64 (s194_0 a0 a1)))] [] | _ => False
theorem c_194_ok (a : List R) (K : List R → List (List D) → Prop) (h : c_194 a K) : Ct prog gl 61 a K := by
  unfold c_194 at h
  split at h
  · exact (ct194 _ _).gives h
  · exact h.elim
def C_25 : CallT := addC C_24 61 c_194
theorem C_25_ok : CallsOk prog gl C_25 := addC_ok C_24_ok c_194_ok
theorem vc195 (a0 : Int) (a1 : Int) (Q : List R → List (List D) → Prop) : vc E_0 C_0 noI fi62 (f62.body.getD .skip) f62.results.toList [.d (.v (.int .i64 a0)), .d (.v (.int .i64 a1))] Q = ( ((bif a0 == 1 then true else a1 == 1) = true → Q [.d (.i 1)] []) ∧ ((bif a0 == 1 then true else a1 == 1) = false → ((bif a0 == 0 then a1 == 0 else false) = true → Q [.d (.i 0)] []) ∧ ((bif a0 == 0 then a1 == 0 else false) = false → Q [.d (.i 2)] []))) := by kernel_rfl
def s195_0 (a0 : Int) (a1 : Int) : Int := bif bif a0 == (1 : Int) then true else a1 == (1 : Int) then (1 : Int)
else bif bif a0 == (0 : Int) then a1 == (0 : Int) else false then (0 : Int) else (2 : Int)
theorem ct195 (a0 : Int) (a1 : Int) : Ct prog gl 62 [.d (.v (.int .i64 a0)), .d (.v (.int .i64 a1))] (gives [R.d (D.v (Value.int IntKind.i64 (s195_0 a0 a1)))]) :=
  ct_of_vc E_ok C_0_ok ioK_no it_ok mixed (fn := f62) (body := f62.body.getD .skip) (by kernel_rfl) (by kernel_rfl) (by kernel_rfl) (fi := fi62) (by kernel_rfl) (by kernel_rfl) ⟨_, _, rfl, rfl⟩ (by
    rw [vc195]
    (repeat' first | exact ⟨rfl, rfl⟩ | apply gsplit <;> intro h)
    all_goals (refine ⟨?_, rfl⟩; simp only [s195_0, *, cond_true, cond_false]))
def c_195 (a : List R) (K : List R → List (List D) → Prop) : Prop := match a with | [.d (.v (.int .i64 a0)), .d (.v (.int .i64 a1))] => K [R.d (D.v (Value.int IntKind.i64 (s195_0 a0 a1)))] [] | _ => False
theorem c_195_ok (a : List R) (K : List R → List (List D) → Prop) (h : c_195 a K) : Ct prog gl 62 a K := by
  unfold c_195 at h
  split at h
  · exact (ct195 _ _).gives h
  · exact h.elim
def C_26 : CallT := addC C_25 62 c_195
theorem C_26_ok : CallsOk prog gl C_26 := addC_ok C_25_ok c_195_ok
theorem vc196 (a0 : Int) (a1 : Int) (a2 : Bool) (a3 : Int) (a4 : ByteArray) (Q : List R → List (List D) → Prop) : vc E_0 C_0 noI fi63 (f63.body.getD .skip) f63.results.toList [.agg [.v (.int .i64 a0), .v (.int .i64 a1), .v (.bool a2), .v (.int .i64 a3), .v (.string a4)]] Q = ( ((a0 != (1 : Int)) = true → Q [.d (.i 0), .d (.i 21)] []) ∧ ((a0 != (1 : Int)) = false → (a2 = true → Q [.d (.i 2), .d (.i 0)] []) ∧ (a2 = false → ((a3 == 0) = true → Q [.d (.i 0), .d (.i 0)] []) ∧ ((a3 == 0) = false → Q [.d (.i 1), .d (.i 0)] [])))) := by kernel_rfl
def s196_0 (a0 : Int) (a1 : Int) (a2 : Bool) (a3 : Int) (a4 : ByteArray) : Int := bif a0 != (1 : Int) then (0 : Int) else bif a2 then (2 : Int) else bif a3 == (0 : Int) then (0 : Int) else (1 : Int)
def s196_1 (a0 : Int) (a1 : Int) (a2 : Bool) (a3 : Int) (a4 : ByteArray) : Int := bif a0 != (1 : Int) then (21 : Int) else (0 : Int)
theorem ct196 (a0 : Int) (a1 : Int) (a2 : Bool) (a3 : Int) (a4 : ByteArray) : Ct prog gl 63 [.agg [.v (.int .i64 a0), .v (.int .i64 a1), .v (.bool a2), .v (.int .i64 a3), .v (.string a4)]] (gives [R.d (D.v (Value.int IntKind.i64 (s196_0 a0 a1 a2 a3 a4))), R.d (D.v (Value.int IntKind.i64 (s196_1 a0 a1 a2 a3 a4)))]) :=
  ct_of_vc E_ok C_0_ok ioK_no it_ok mixed (fn := f63) (body := f63.body.getD .skip) (by kernel_rfl) (by kernel_rfl) (by kernel_rfl) (fi := fi63) (by kernel_rfl) (by kernel_rfl) ⟨_, _, rfl, rfl⟩ (by
    rw [vc196]
    (repeat' first | exact ⟨rfl, rfl⟩ | apply gsplit <;> intro h)
    all_goals (refine ⟨?_, rfl⟩; simp only [s196_0, s196_1, *, cond_true, cond_false]))
def c_196 (a : List R) (K : List R → List (List D) → Prop) : Prop := match a with | [.agg [.v (.int .i64 a0), .v (.int .i64 a1), .v (.bool a2), .v (.int .i64 a3), .v (.string a4)]] => K [R.d (D.v (Value.int IntKind.i64 (s196_0 a0 a1 a2 a3 a4))), R.d (D.v (Value.int IntKind.i64 (s196_1 a0 a1 a2 a3 a4)))] [] | _ => False
theorem c_196_ok (a : List R) (K : List R → List (List D) → Prop) (h : c_196 a K) : Ct prog gl 63 a K := by
  unfold c_196 at h
  split at h
  · exact (ct196 _ _ _ _ _).gives h
  · exact h.elim
def C_27 : CallT := addC C_26 63 c_196
theorem C_27_ok : CallsOk prog gl C_27 := addC_ok C_26_ok c_196_ok
theorem vc202 (a0 : Int) (a1 : Int) (Q : List R → List (List D) → Prop) : vc E_0 C_0 noI fi69 (f69.body.getD .skip) f69.results.toList [.d (.v (.int .i64 a0)), .d (.v (.int .i64 a1))] Q = ( ((decide (IntKind.i64.wrap (a0 + a1) > a0) == decide (a1 > 0)) = true → Q [.d (.i (IntKind.i64.wrap (a0 + a1))), .d (.i 0)] []) ∧ ((decide (IntKind.i64.wrap (a0 + a1) > a0) == decide (a1 > 0)) = false → Q [.d (.i 0), .d (.i 10)] [])) := by kernel_rfl
def s202_0 (a0 : Int) (a1 : Int) : Int := bif decide (IntKind.i64.wrap (a0 + a1) > a0) == decide (a1 > (0 : Int)) then IntKind.i64.wrap (a0 + a1) else (0 : Int)
def s202_1 (a0 : Int) (a1 : Int) : Int := bif decide (IntKind.i64.wrap (a0 + a1) > a0) == decide (a1 > (0 : Int)) then (0 : Int) else (10 : Int)
theorem ct202 (a0 : Int) (a1 : Int) : Ct prog gl 69 [.d (.v (.int .i64 a0)), .d (.v (.int .i64 a1))] (gives [R.d (D.v (Value.int IntKind.i64 (s202_0 a0 a1))), R.d (D.v (Value.int IntKind.i64 (s202_1 a0 a1)))]) :=
  ct_of_vc E_ok C_0_ok ioK_no it_ok mixed (fn := f69) (body := f69.body.getD .skip) (by kernel_rfl) (by kernel_rfl) (by kernel_rfl) (fi := fi69) (by kernel_rfl) (by kernel_rfl) ⟨_, _, rfl, rfl⟩ (by
    rw [vc202]
    (repeat' first | exact ⟨rfl, rfl⟩ | apply gsplit <;> intro h)
    all_goals (refine ⟨?_, rfl⟩; simp only [s202_0, s202_1, *, cond_true, cond_false]))
def c_202 (a : List R) (K : List R → List (List D) → Prop) : Prop := match a with | [.d (.v (.int .i64 a0)), .d (.v (.int .i64 a1))] => K [R.d (D.v (Value.int IntKind.i64 (s202_0 a0 a1))), R.d (D.v (Value.int IntKind.i64 (s202_1 a0 a1)))] [] | _ => False
theorem c_202_ok (a : List R) (K : List R → List (List D) → Prop) (h : c_202 a K) : Ct prog gl 69 a K := by
  unfold c_202 at h
  split at h
  · exact (ct202 _ _).gives h
  · exact h.elim
def C_28 : CallT := addC C_27 69 c_202
theorem C_28_ok : CallsOk prog gl C_28 := addC_ok C_27_ok c_202_ok
theorem vc203 (a0 : Int) (a1 : Int) (Q : List R → List (List D) → Prop) : vc E_0 C_0 noI fi70 (f70.body.getD .skip) f70.results.toList [.d (.v (.int .i64 a0)), .d (.v (.int .i64 a1))] Q = ( ((decide (IntKind.i64.wrap (a0 - a1) < a0) == decide (a1 > 0)) = true → Q [.d (.i (IntKind.i64.wrap (a0 - a1))), .d (.i 0)] []) ∧ ((decide (IntKind.i64.wrap (a0 - a1) < a0) == decide (a1 > 0)) = false → Q [.d (.i 0), .d (.i 10)] [])) := by kernel_rfl
def s203_0 (a0 : Int) (a1 : Int) : Int := bif decide (IntKind.i64.wrap (a0 - a1) < a0) == decide (a1 > (0 : Int)) then IntKind.i64.wrap (a0 - a1) else (0 : Int)
def s203_1 (a0 : Int) (a1 : Int) : Int := bif decide (IntKind.i64.wrap (a0 - a1) < a0) == decide (a1 > (0 : Int)) then (0 : Int) else (10 : Int)
theorem ct203 (a0 : Int) (a1 : Int) : Ct prog gl 70 [.d (.v (.int .i64 a0)), .d (.v (.int .i64 a1))] (gives [R.d (D.v (Value.int IntKind.i64 (s203_0 a0 a1))), R.d (D.v (Value.int IntKind.i64 (s203_1 a0 a1)))]) :=
  ct_of_vc E_ok C_0_ok ioK_no it_ok mixed (fn := f70) (body := f70.body.getD .skip) (by kernel_rfl) (by kernel_rfl) (by kernel_rfl) (fi := fi70) (by kernel_rfl) (by kernel_rfl) ⟨_, _, rfl, rfl⟩ (by
    rw [vc203]
    (repeat' first | exact ⟨rfl, rfl⟩ | apply gsplit <;> intro h)
    all_goals (refine ⟨?_, rfl⟩; simp only [s203_0, s203_1, *, cond_true, cond_false]))
def c_203 (a : List R) (K : List R → List (List D) → Prop) : Prop := match a with | [.d (.v (.int .i64 a0)), .d (.v (.int .i64 a1))] => K [R.d (D.v (Value.int IntKind.i64 (s203_0 a0 a1))), R.d (D.v (Value.int IntKind.i64 (s203_1 a0 a1)))] [] | _ => False
theorem c_203_ok (a : List R) (K : List R → List (List D) → Prop) (h : c_203 a K) : Ct prog gl 70 a K := by
  unfold c_203 at h
  split at h
  · exact (ct203 _ _).gives h
  · exact h.elim
def C_29 : CallT := addC C_28 70 c_203
theorem C_29_ok : CallsOk prog gl C_29 := addC_ok C_28_ok c_203_ok
theorem vc209 (a0 : Int) (Q : List R → List (List D) → Prop) : vc E_0 C_0 noI fi76 (f76.body.getD .skip) f76.results.toList [.d (.v (.int .i64 a0))] Q = ( ((a0 == 3) = true → Q [.d (.i 2)] []) ∧ ((a0 == 3) = false → Q [.d (.i a0)] [])) := by kernel_rfl
def s209_0 (a0 : Int) : Int := bif a0 == (3 : Int) then (2 : Int) else a0
theorem ct209 (a0 : Int) : Ct prog gl 76 [.d (.v (.int .i64 a0))] (gives [R.d (D.v (Value.int IntKind.i64 (s209_0 a0)))]) :=
  ct_of_vc E_ok C_0_ok ioK_no it_ok mixed (fn := f76) (body := f76.body.getD .skip) (by kernel_rfl) (by kernel_rfl) (by kernel_rfl) (fi := fi76) (by kernel_rfl) (by kernel_rfl) ⟨_, _, rfl, rfl⟩ (by
    rw [vc209]
    (repeat' first | exact ⟨rfl, rfl⟩ | apply gsplit <;> intro h)
    all_goals (refine ⟨?_, rfl⟩; simp only [s209_0, *, cond_true, cond_false]))
def c_209 (a : List R) (K : List R → List (List D) → Prop) : Prop := match a with | [.d (.v (.int .i64 a0))] => K [R.d (D.v (Value.int IntKind.i64 (s209_0 a0)))] [] | _ => False
theorem c_209_ok (a : List R) (K : List R → List (List D) → Prop) (h : c_209 a K) : Ct prog gl 76 a K := by
  unfold c_209 at h
  split at h
  · exact (ct209 _).gives h
  · exact h.elim
def C_30 : CallT := addC C_29 76 c_209
theorem C_30_ok : CallsOk prog gl C_30 := addC_ok C_29_ok c_209_ok
def C_31 : CallT := C_30
theorem C_31_ok : CallsOk prog gl C_31 := C_30_ok
def C_32 : CallT := C_31
theorem C_32_ok : CallsOk prog gl C_32 := C_31_ok
theorem vc270 (a0 : Int) (a1 : Int) (a2 : Bool) (a3 : Int) (a4 : ByteArray) (Q : List R → List (List D) → Prop) : vc E_0 C_0 noI fi87 (f87.body.getD .skip) f87.results.toList [.agg [.v (.int .i64 a0), .v (.int .i64 a1), .v (.bool a2), .v (.int .i64 a3), .v (.string a4)]] Q = ( ((a0 != (3 : Int)) = true → Q [.d (.i 0)] []) ∧ ((a0 != (3 : Int)) = false → Q [.d (.i (if (18 : Int) < if (0 : Int) > a1 then (0 : Int) else a1 then (18 : Int) else if (0 : Int) > a1 then (0 : Int) else a1))] [])) := by kernel_rfl
def s270_0 (a0 : Int) (a1 : Int) (a2 : Bool) (a3 : Int) (a4 : ByteArray) : Int := bif a0 != (3 : Int) then (0 : Int)
else
  if (18 : Int) < if (0 : Int) > a1 then (0 : Int) else a1 then (18 : Int) else if (0 : Int) > a1 then (0 : Int) else a1
theorem ct270 (a0 : Int) (a1 : Int) (a2 : Bool) (a3 : Int) (a4 : ByteArray) : Ct prog gl 87 [.agg [.v (.int .i64 a0), .v (.int .i64 a1), .v (.bool a2), .v (.int .i64 a3), .v (.string a4)]] (gives [R.d (D.v (Value.int IntKind.i64 (s270_0 a0 a1 a2 a3 a4)))]) :=
  ct_of_vc E_ok C_0_ok ioK_no it_ok mixed (fn := f87) (body := f87.body.getD .skip) (by kernel_rfl) (by kernel_rfl) (by kernel_rfl) (fi := fi87) (by kernel_rfl) (by kernel_rfl) ⟨_, _, rfl, rfl⟩ (by
    rw [vc270]
    (repeat' first | exact ⟨rfl, rfl⟩ | apply gsplit <;> intro h)
    all_goals (refine ⟨?_, rfl⟩; simp only [s270_0, *, cond_true, cond_false]))
def c_270 (a : List R) (K : List R → List (List D) → Prop) : Prop := match a with | [.agg [.v (.int .i64 a0), .v (.int .i64 a1), .v (.bool a2), .v (.int .i64 a3), .v (.string a4)]] => K [R.d (D.v (Value.int IntKind.i64 (s270_0 a0 a1 a2 a3 a4)))] [] | _ => False
theorem c_270_ok (a : List R) (K : List R → List (List D) → Prop) (h : c_270 a K) : Ct prog gl 87 a K := by
  unfold c_270 at h
  split at h
  · exact (ct270 _ _ _ _ _).gives h
  · exact h.elim
def C_33 : CallT := addC C_32 87 c_270
theorem C_33_ok : CallsOk prog gl C_33 := addC_ok C_32_ok c_270_ok
theorem vc276 (a0 : Int) (Q : List R → List (List D) → Prop) : vc E_0 C_0 noI fi93 (f93.body.getD .skip) f93.results.toList [.d (.v (.int .i64 a0))] Q = ( Q [.d (.v (.bool (bif decide (a0 ≥ 0) then decide (a0 ≤ 18) else false)))] []) := by kernel_rfl
def s276_0 (a0 : Int) : Bool := bif decide (a0 ≥ (0 : Int)) then decide (a0 ≤ (18 : Int)) else false
theorem ct276 (a0 : Int) : Ct prog gl 93 [.d (.v (.int .i64 a0))] (gives [R.d (D.v (Value.bool (s276_0 a0)))]) :=
  ct_of_vc E_ok C_0_ok ioK_no it_ok mixed (fn := f93) (body := f93.body.getD .skip) (by kernel_rfl) (by kernel_rfl) (by kernel_rfl) (fi := fi93) (by kernel_rfl) (by kernel_rfl) ⟨_, _, rfl, rfl⟩ (by
    rw [vc276]
    (repeat' first | exact ⟨rfl, rfl⟩ | apply gsplit <;> intro h)
    all_goals (refine ⟨?_, rfl⟩; simp only [s276_0, *, cond_true, cond_false]))
def c_276 (a : List R) (K : List R → List (List D) → Prop) : Prop := match a with | [.d (.v (.int .i64 a0))] => K [R.d (D.v (Value.bool (s276_0 a0)))] [] | _ => False
theorem c_276_ok (a : List R) (K : List R → List (List D) → Prop) (h : c_276 a K) : Ct prog gl 93 a K := by
  unfold c_276 at h
  split at h
  · exact (ct276 _).gives h
  · exact h.elim
def C_34 : CallT := addC C_33 93 c_276
theorem C_34_ok : CallsOk prog gl C_34 := addC_ok C_33_ok c_276_ok
def C_35 : CallT := C_34
theorem C_35_ok : CallsOk prog gl C_35 := C_34_ok
def C_36 : CallT := C_35
theorem C_36_ok : CallsOk prog gl C_36 := C_35_ok
theorem vc331 (a0 : Int) (a1 : Int) (a2 : Int) (a3 : Int) (Q : List R → List (List D) → Prop) : vc E_0 C_0 noI fi106 (f106.body.getD .skip) f106.results.toList [.agg [.v (.int .i64 a0), .v (.int .u64 a1)], .agg [.v (.int .i64 a2), .v (.int .u64 a3)]] Q = ( ((a0 == a2 && (a1 == a3 && true)) = true → Q [.d (.i 0)] []) ∧ ((a0 == a2 && (a1 == a3 && true)) = false → ((bif decide (a0 < a2) then true else bif a0 == a2 then decide (a1 < a3) else false) = true → Q [.d (.i (-1))] []) ∧ ((bif decide (a0 < a2) then true else bif a0 == a2 then decide (a1 < a3) else false) = false → Q [.d (.i 1)] []))) := by kernel_rfl
def s331_0 (a0 : Int) (a1 : Int) (a2 : Int) (a3 : Int) : Int := bif a0 == a2 && (a1 == a3 && true) then (0 : Int)
else
  bif bif decide (a0 < a2) then true else bif a0 == a2 then decide (a1 < a3) else false then (-1 : Int) else (1 : Int)
theorem ct331 (a0 : Int) (a1 : Int) (a2 : Int) (a3 : Int) : Ct prog gl 106 [.agg [.v (.int .i64 a0), .v (.int .u64 a1)], .agg [.v (.int .i64 a2), .v (.int .u64 a3)]] (gives [R.d (D.v (Value.int IntKind.i64 (s331_0 a0 a1 a2 a3)))]) :=
  ct_of_vc E_ok C_0_ok ioK_no it_ok mixed (fn := f106) (body := f106.body.getD .skip) (by kernel_rfl) (by kernel_rfl) (by kernel_rfl) (fi := fi106) (by kernel_rfl) (by kernel_rfl) ⟨_, _, rfl, rfl⟩ (by
    rw [vc331]
    (repeat' first | exact ⟨rfl, rfl⟩ | apply gsplit <;> intro h)
    all_goals (refine ⟨?_, rfl⟩; simp only [s331_0, *, cond_true, cond_false]))
def c_331 (a : List R) (K : List R → List (List D) → Prop) : Prop := match a with | [.agg [.v (.int .i64 a0), .v (.int .u64 a1)], .agg [.v (.int .i64 a2), .v (.int .u64 a3)]] => K [R.d (D.v (Value.int IntKind.i64 (s331_0 a0 a1 a2 a3)))] [] | _ => False
theorem c_331_ok (a : List R) (K : List R → List (List D) → Prop) (h : c_331 a K) : Ct prog gl 106 a K := by
  unfold c_331 at h
  split at h
  · exact (ct331 _ _ _ _).gives h
  · exact h.elim
def C_37 : CallT := addC C_36 106 c_331
theorem C_37_ok : CallsOk prog gl C_37 := addC_ok C_36_ok c_331_ok
theorem vc333 (a0 : Int) (a1 : Int) (Q : List R → List (List D) → Prop) : vc E_0 C_0 noI fi108 (f108.body.getD .skip) f108.results.toList [.d (.v (.int .i64 a0)), .d (.v (.int .i64 a1))] Q = ( (decide (a0 < a1) = true → Q [.d (.i (-1))] []) ∧ (decide (a0 < a1) = false → (decide (a0 > a1) = true → Q [.d (.i 1)] []) ∧ (decide (a0 > a1) = false → Q [.d (.i 0)] []))) := by kernel_rfl
def s333_0 (a0 : Int) (a1 : Int) : Int := bif decide (a0 < a1) then (-1 : Int) else bif decide (a0 > a1) then (1 : Int) else (0 : Int)
theorem ct333 (a0 : Int) (a1 : Int) : Ct prog gl 108 [.d (.v (.int .i64 a0)), .d (.v (.int .i64 a1))] (gives [R.d (D.v (Value.int IntKind.i64 (s333_0 a0 a1)))]) :=
  ct_of_vc E_ok C_0_ok ioK_no it_ok mixed (fn := f108) (body := f108.body.getD .skip) (by kernel_rfl) (by kernel_rfl) (by kernel_rfl) (fi := fi108) (by kernel_rfl) (by kernel_rfl) ⟨_, _, rfl, rfl⟩ (by
    rw [vc333]
    (repeat' first | exact ⟨rfl, rfl⟩ | apply gsplit <;> intro h)
    all_goals (refine ⟨?_, rfl⟩; simp only [s333_0, *, cond_true, cond_false]))
def c_333 (a : List R) (K : List R → List (List D) → Prop) : Prop := match a with | [.d (.v (.int .i64 a0)), .d (.v (.int .i64 a1))] => K [R.d (D.v (Value.int IntKind.i64 (s333_0 a0 a1)))] [] | _ => False
theorem c_333_ok (a : List R) (K : List R → List (List D) → Prop) (h : c_333 a K) : Ct prog gl 108 a K := by
  unfold c_333 at h
  split at h
  · exact (ct333 _ _).gives h
  · exact h.elim
def C_38 : CallT := addC C_37 108 c_333
theorem C_38_ok : CallsOk prog gl C_38 := addC_ok C_37_ok c_333_ok
def C_39 : CallT := C_38
theorem C_39_ok : CallsOk prog gl C_39 := C_38_ok
theorem vc376 (a0 : Int) (Q : List R → List (List D) → Prop) : vc E_0 C_0 noI fi124 (f124.body.getD .skip) f124.results.toList [.d (.v (.int .i32 a0))] Q = ( ((bif decide (a0 ≥ 97) then decide (a0 ≤ 122) else false) = true → Q [.d (.v (.int .i32 (IntKind.i32.wrap (a0 - 32))))] []) ∧ ((bif decide (a0 ≥ 97) then decide (a0 ≤ 122) else false) = false → Q [.d (.v (.int .i32 a0))] [])) := by kernel_rfl
def s376_0 (a0 : Int) : Int := bif bif decide (a0 ≥ (97 : Int)) then decide (a0 ≤ (122 : Int)) else false then IntKind.i32.wrap (a0 - (32 : Int))
else a0
theorem ct376 (a0 : Int) : Ct prog gl 124 [.d (.v (.int .i32 a0))] (gives [R.d (D.v (Value.int IntKind.i32 (s376_0 a0)))]) :=
  ct_of_vc E_ok C_0_ok ioK_no it_ok mixed (fn := f124) (body := f124.body.getD .skip) (by kernel_rfl) (by kernel_rfl) (by kernel_rfl) (fi := fi124) (by kernel_rfl) (by kernel_rfl) ⟨_, _, rfl, rfl⟩ (by
    rw [vc376]
    (repeat' first | exact ⟨rfl, rfl⟩ | apply gsplit <;> intro h)
    all_goals (refine ⟨?_, rfl⟩; simp only [s376_0, *, cond_true, cond_false]))
def c_376 (a : List R) (K : List R → List (List D) → Prop) : Prop := match a with | [.d (.v (.int .i32 a0))] => K [R.d (D.v (Value.int IntKind.i32 (s376_0 a0)))] [] | _ => False
theorem c_376_ok (a : List R) (K : List R → List (List D) → Prop) (h : c_376 a K) : Ct prog gl 124 a K := by
  unfold c_376 at h
  split at h
  · exact (ct376 _).gives h
  · exact h.elim
def C_40 : CallT := addC C_39 124 c_376
theorem C_40_ok : CallsOk prog gl C_40 := addC_ok C_39_ok c_376_ok
theorem vc385 (a0 : Bool) (Q : List R → List (List D) → Prop) : vc E_0 C_0 noI fi133 (f133.body.getD .skip) f133.results.toList [.d (.v (.bool a0))] Q = ( (a0 = true → Q [.d (.i 1)] []) ∧ (a0 = false → Q [.d (.i 0)] [])) := by kernel_rfl
def s385_0 (a0 : Bool) : Int := bif a0 then (1 : Int) else (0 : Int)
theorem ct385 (a0 : Bool) : Ct prog gl 133 [.d (.v (.bool a0))] (gives [R.d (D.v (Value.int IntKind.i64 (s385_0 a0)))]) :=
  ct_of_vc E_ok C_0_ok ioK_no it_ok mixed (fn := f133) (body := f133.body.getD .skip) (by kernel_rfl) (by kernel_rfl) (by kernel_rfl) (fi := fi133) (by kernel_rfl) (by kernel_rfl) ⟨_, _, rfl, rfl⟩ (by
    rw [vc385]
    (repeat' first | exact ⟨rfl, rfl⟩ | apply gsplit <;> intro h)
    all_goals (refine ⟨?_, rfl⟩; simp only [s385_0, *, cond_true, cond_false]))
def c_385 (a : List R) (K : List R → List (List D) → Prop) : Prop := match a with | [.d (.v (.bool a0))] => K [R.d (D.v (Value.int IntKind.i64 (s385_0 a0)))] [] | _ => False
theorem c_385_ok (a : List R) (K : List R → List (List D) → Prop) (h : c_385 a K) : Ct prog gl 133 a K := by
  unfold c_385 at h
  split at h
  · exact (ct385 _).gives h
  · exact h.elim
def C_41 : CallT := addC C_40 133 c_385
theorem C_41_ok : CallsOk prog gl C_41 := addC_ok C_40_ok c_385_ok
theorem vc386 (a0 : Int) (Q : List R → List (List D) → Prop) : vc E_0 C_0 noI fi134 (f134.body.getD .skip) f134.results.toList [.d (.v (.int .i64 a0))] Q = ( Q [.d (.v (.bool (aInt.bits BinOp.and IntKind.i64 a0 (IntKind.i64.wrap (a0 - 1)) == (0 : Int))))] []) := by kernel_rfl
def s386_0 (a0 : Int) : Bool := aInt.bits BinOp.and IntKind.i64 a0 (IntKind.i64.wrap (a0 - (1 : Int))) == (0 : Int)
theorem ct386 (a0 : Int) : Ct prog gl 134 [.d (.v (.int .i64 a0))] (gives [R.d (D.v (Value.bool (s386_0 a0)))]) :=
  ct_of_vc E_ok C_0_ok ioK_no it_ok mixed (fn := f134) (body := f134.body.getD .skip) (by kernel_rfl) (by kernel_rfl) (by kernel_rfl) (fi := fi134) (by kernel_rfl) (by kernel_rfl) ⟨_, _, rfl, rfl⟩ (by
    rw [vc386]
    (repeat' first | exact ⟨rfl, rfl⟩ | apply gsplit <;> intro h)
    all_goals (refine ⟨?_, rfl⟩; simp only [s386_0, *, cond_true, cond_false]))
def c_386 (a : List R) (K : List R → List (List D) → Prop) : Prop := match a with | [.d (.v (.int .i64 a0))] => K [R.d (D.v (Value.bool (s386_0 a0)))] [] | _ => False
theorem c_386_ok (a : List R) (K : List R → List (List D) → Prop) (h : c_386 a K) : Ct prog gl 134 a K := by
  unfold c_386 at h
  split at h
  · exact (ct386 _).gives h
  · exact h.elim
def C_42 : CallT := addC C_41 134 c_386
theorem C_42_ok : CallsOk prog gl C_42 := addC_ok C_41_ok c_386_ok
def C_43 : CallT := C_42
theorem C_43_ok : CallsOk prog gl C_43 := C_42_ok
def C_44 : CallT := C_43
theorem C_44_ok : CallsOk prog gl C_44 := C_43_ok
def C_45 : CallT := C_44
theorem C_45_ok : CallsOk prog gl C_45 := C_44_ok
theorem vc421 (a0 : Int) (Q : List R → List (List D) → Prop) : vc E_0 C_0 noI fi145 (f145.body.getD .skip) f145.results.toList [.d (.v (.int .i32 a0))] Q = ( (decide (a0 < 0) = true → Q [.d (.i (-1))] []) ∧ (decide (a0 < 0) = false → (decide (a0 ≤ 127) = true → Q [.d (.i 1)] []) ∧ (decide (a0 ≤ 127) = false → (decide (a0 ≤ 2047) = true → Q [.d (.i 2)] []) ∧ (decide (a0 ≤ 2047) = false → ((bif decide ((55296 : Int) ≤ a0) then decide (a0 ≤ 57343) else false) = true → Q [.d (.i (-1))] []) ∧ ((bif decide ((55296 : Int) ≤ a0) then decide (a0 ≤ 57343) else false) = false → (decide (a0 ≤ 65535) = true → Q [.d (.i 3)] []) ∧ (decide (a0 ≤ 65535) = false → (decide (a0 ≤ 1114111) = true → Q [.d (.i 4)] []) ∧ (decide (a0 ≤ 1114111) = false → Q [.d (.i (-1))] []))))))) := by kernel_rfl
def s421_0 (a0 : Int) : Int := bif decide (a0 < (0 : Int)) then (-1 : Int)
else
  bif decide (a0 ≤ (127 : Int)) then (1 : Int)
  else
    bif decide (a0 ≤ (2047 : Int)) then (2 : Int)
    else
      bif bif decide ((55296 : Int) ≤ a0) then decide (a0 ≤ (57343 : Int)) else false then (-1 : Int)
      else
        bif decide (a0 ≤ (65535 : Int)) then (3 : Int)
        else bif decide (a0 ≤ (1114111 : Int)) then (4 : Int) else (-1 : Int)
theorem ct421 (a0 : Int) : Ct prog gl 145 [.d (.v (.int .i32 a0))] (gives [R.d (D.v (Value.int IntKind.i64 (s421_0 a0)))]) :=
  ct_of_vc E_ok C_0_ok ioK_no it_ok mixed (fn := f145) (body := f145.body.getD .skip) (by kernel_rfl) (by kernel_rfl) (by kernel_rfl) (fi := fi145) (by kernel_rfl) (by kernel_rfl) ⟨_, _, rfl, rfl⟩ (by
    rw [vc421]
    (repeat' first | exact ⟨rfl, rfl⟩ | apply gsplit <;> intro h)
    all_goals (refine ⟨?_, rfl⟩; simp only [s421_0, *, cond_true, cond_false]))
def c_421 (a : List R) (K : List R → List (List D) → Prop) : Prop := match a with | [.d (.v (.int .i32 a0))] => K [R.d (D.v (Value.int IntKind.i64 (s421_0 a0)))] [] | _ => False
theorem c_421_ok (a : List R) (K : List R → List (List D) → Prop) (h : c_421 a K) : Ct prog gl 145 a K := by
  unfold c_421 at h
  split at h
  · exact (ct421 _).gives h
  · exact h.elim
def C_46 : CallT := addC C_45 145 c_421
theorem C_46_ok : CallsOk prog gl C_46 := addC_ok C_45_ok c_421_ok
def C_47 : CallT := C_46
theorem C_47_ok : CallsOk prog gl C_47 := C_46_ok
theorem vc467 (a0 : Int) (Q : List R → List (List D) → Prop) : vc E_0 C_0 noI fi182 (f182.body.getD .skip) f182.results.toList [.d (.v (.int .u8 a0))] Q = ( Q [.d (.v (.int .u8 (aInt.bits BinOp.or IntKind.u8 a0 (32 : Int))))] []) := by kernel_rfl
def s467_0 (a0 : Int) : Int := aInt.bits BinOp.or IntKind.u8 a0 (32 : Int)
theorem ct467 (a0 : Int) : Ct prog gl 182 [.d (.v (.int .u8 a0))] (gives [R.d (D.v (Value.int IntKind.u8 (s467_0 a0)))]) :=
  ct_of_vc E_ok C_0_ok ioK_no it_ok mixed (fn := f182) (body := f182.body.getD .skip) (by kernel_rfl) (by kernel_rfl) (by kernel_rfl) (fi := fi182) (by kernel_rfl) (by kernel_rfl) ⟨_, _, rfl, rfl⟩ (by
    rw [vc467]
    (repeat' first | exact ⟨rfl, rfl⟩ | apply gsplit <;> intro h)
    all_goals (refine ⟨?_, rfl⟩; simp only [s467_0, *, cond_true, cond_false]))
def c_467 (a : List R) (K : List R → List (List D) → Prop) : Prop := match a with | [.d (.v (.int .u8 a0))] => K [R.d (D.v (Value.int IntKind.u8 (s467_0 a0)))] [] | _ => False
theorem c_467_ok (a : List R) (K : List R → List (List D) → Prop) (h : c_467 a K) : Ct prog gl 182 a K := by
  unfold c_467 at h
  split at h
  · exact (ct467 _).gives h
  · exact h.elim
def C_48 : CallT := addC C_47 182 c_467
theorem C_48_ok : CallsOk prog gl C_48 := addC_ok C_47_ok c_467_ok
theorem vc473 (a0 : Int) (Q : List R → List (List D) → Prop) : vc E_0 C_0 noI fi187 (f187.body.getD .skip) f187.results.toList [.d (.v (.int .u8 a0))] Q = ( Q [.d (.v (.bool (aInt.bits BinOp.and IntKind.u8 a0 (192 : Int) != (128 : Int))))] []) := by kernel_rfl
def s473_0 (a0 : Int) : Bool := aInt.bits BinOp.and IntKind.u8 a0 (192 : Int) != (128 : Int)
theorem ct473 (a0 : Int) : Ct prog gl 187 [.d (.v (.int .u8 a0))] (gives [R.d (D.v (Value.bool (s473_0 a0)))]) :=
  ct_of_vc E_ok C_0_ok ioK_no it_ok mixed (fn := f187) (body := f187.body.getD .skip) (by kernel_rfl) (by kernel_rfl) (by kernel_rfl) (fi := fi187) (by kernel_rfl) (by kernel_rfl) ⟨_, _, rfl, rfl⟩ (by
    rw [vc473]
    (repeat' first | exact ⟨rfl, rfl⟩ | apply gsplit <;> intro h)
    all_goals (refine ⟨?_, rfl⟩; simp only [s473_0, *, cond_true, cond_false]))
def c_473 (a : List R) (K : List R → List (List D) → Prop) : Prop := match a with | [.d (.v (.int .u8 a0))] => K [R.d (D.v (Value.bool (s473_0 a0)))] [] | _ => False
theorem c_473_ok (a : List R) (K : List R → List (List D) → Prop) (h : c_473 a K) : Ct prog gl 187 a K := by
  unfold c_473 at h
  split at h
  · exact (ct473 _).gives h
  · exact h.elim
def C_49 : CallT := addC C_48 187 c_473
theorem C_49_ok : CallsOk prog gl C_49 := addC_ok C_48_ok c_473_ok
theorem vc476 (a0 : Int) (Q : List R → List (List D) → Prop) : vc E_0 C_0 noI fi189 (f189.body.getD .skip) f189.results.toList [.d (.v (.int .i32 a0))] Q = ( ((bif decide ((0 : Int) ≤ a0) then decide (a0 < 55296) else false) = true → Q [.d (.v (.bool true))] []) ∧ ((bif decide ((0 : Int) ≤ a0) then decide (a0 < 55296) else false) = false → ((bif decide ((57343 : Int) < a0) then decide (a0 ≤ 1114111) else false) = true → Q [.d (.v (.bool true))] []) ∧ ((bif decide ((57343 : Int) < a0) then decide (a0 ≤ 1114111) else false) = false → Q [.d (.v (.bool false))] []))) := by kernel_rfl
def s476_0 (a0 : Int) : Bool := bif bif decide ((0 : Int) ≤ a0) then decide (a0 < (55296 : Int)) else false then true
else bif bif decide ((57343 : Int) < a0) then decide (a0 ≤ (1114111 : Int)) else false then true else false
theorem ct476 (a0 : Int) : Ct prog gl 189 [.d (.v (.int .i32 a0))] (gives [R.d (D.v (Value.bool (s476_0 a0)))]) :=
  ct_of_vc E_ok C_0_ok ioK_no it_ok mixed (fn := f189) (body := f189.body.getD .skip) (by kernel_rfl) (by kernel_rfl) (by kernel_rfl) (fi := fi189) (by kernel_rfl) (by kernel_rfl) ⟨_, _, rfl, rfl⟩ (by
    rw [vc476]
    (repeat' first | exact ⟨rfl, rfl⟩ | apply gsplit <;> intro h)
    all_goals (refine ⟨?_, rfl⟩; simp only [s476_0, *, cond_true, cond_false]))
def c_476 (a : List R) (K : List R → List (List D) → Prop) : Prop := match a with | [.d (.v (.int .i32 a0))] => K [R.d (D.v (Value.bool (s476_0 a0)))] [] | _ => False
theorem c_476_ok (a : List R) (K : List R → List (List D) → Prop) (h : c_476 a K) : Ct prog gl 189 a K := by
  unfold c_476 at h
  split at h
  · exact (ct476 _).gives h
  · exact h.elim
def C_50 : CallT := addC C_49 189 c_476
theorem C_50_ok : CallsOk prog gl C_50 := addC_ok C_49_ok c_476_ok
def C_51 : CallT := C_50
theorem C_51_ok : CallsOk prog gl C_51 := C_50_ok
def C_52 : CallT := C_51
theorem C_52_ok : CallsOk prog gl C_52 := C_51_ok
theorem vc60 (a0 : Int) (a1 : Int) (Q : List R → List (List D) → Prop) : vc E_0 C_52 noI fi23 (f23.body.getD .skip) f23.results.toList [.agg [.v (.int .i64 a0), .v (.int .i64 a1)]] Q = ( ((bif bif bif decide (a0 < 1) then true else decide (a0 > 5) then true else !s124_0 a1 then true else bif a1 != (0 : Int) then a0 != (3 : Int) else false) = true → Q [.d (.i 21)] []) ∧ ((bif bif bif decide (a0 < 1) then true else decide (a0 > 5) then true else !s124_0 a1 then true else bif a1 != (0 : Int) then a0 != (3 : Int) else false) = false → Q [.d (.i 0)] [])) := by kernel_rfl
def s60_0 (a0 : Int) (a1 : Int) : Int := bif
    bif bif bif decide (a0 < (1 : Int)) then true else decide (a0 > (5 : Int)) then true else !s124_0 a1 then true
    else bif a1 != (0 : Int) then a0 != (3 : Int) else false then
  (21 : Int)
else (0 : Int)
theorem ct60 (a0 : Int) (a1 : Int) : Ct prog gl 23 [.agg [.v (.int .i64 a0), .v (.int .i64 a1)]] (gives [R.d (D.v (Value.int IntKind.i64 (s60_0 a0 a1)))]) :=
  ct_of_vc E_ok C_52_ok ioK_no it_ok mixed (fn := f23) (body := f23.body.getD .skip) (by kernel_rfl) (by kernel_rfl) (by kernel_rfl) (fi := fi23) (by kernel_rfl) (by kernel_rfl) ⟨_, _, rfl, rfl⟩ (by
    rw [vc60]
    (repeat' first | exact ⟨rfl, rfl⟩ | apply gsplit <;> intro h)
    all_goals (refine ⟨?_, rfl⟩; simp only [s60_0, *, cond_true, cond_false]))
def c_60 (a : List R) (K : List R → List (List D) → Prop) : Prop := match a with | [.agg [.v (.int .i64 a0), .v (.int .i64 a1)]] => K [R.d (D.v (Value.int IntKind.i64 (s60_0 a0 a1)))] [] | _ => False
theorem c_60_ok (a : List R) (K : List R → List (List D) → Prop) (h : c_60 a K) : Ct prog gl 23 a K := by
  unfold c_60 at h
  split at h
  · exact (ct60 _ _).gives h
  · exact h.elim
def C_53 : CallT := addC C_52 23 c_60
theorem C_53_ok : CallsOk prog gl C_53 := addC_ok C_52_ok c_60_ok
def C_54 : CallT := C_53
theorem C_54_ok : CallsOk prog gl C_54 := C_53_ok
theorem vc129 (a0 : Int) (a1 : Int) (a2 : Int) (a3 : Int) (Q : List R → List (List D) → Prop) : vc E_0 C_52 noI fi50 (f50.body.getD .skip) f50.results.toList [.agg [.v (.int .i64 a0), .v (.int .i64 a1)], .agg [.v (.int .i64 a2), .v (.int .i64 a3)]] Q = ( Q [.d (.v (.bool (bif bif decide (a0 ≥ 1) then decide (a0 ≤ 5) else false then s209_0 a0 == s209_0 a2 else false)))] []) := by kernel_rfl
def s129_0 (a0 : Int) (a1 : Int) (a2 : Int) (a3 : Int) : Bool := bif bif decide (a0 ≥ (1 : Int)) then decide (a0 ≤ (5 : Int)) else false then s209_0 a0 == s209_0 a2 else false
theorem ct129 (a0 : Int) (a1 : Int) (a2 : Int) (a3 : Int) : Ct prog gl 50 [.agg [.v (.int .i64 a0), .v (.int .i64 a1)], .agg [.v (.int .i64 a2), .v (.int .i64 a3)]] (gives [R.d (D.v (Value.bool (s129_0 a0 a1 a2 a3)))]) :=
  ct_of_vc E_ok C_52_ok ioK_no it_ok mixed (fn := f50) (body := f50.body.getD .skip) (by kernel_rfl) (by kernel_rfl) (by kernel_rfl) (fi := fi50) (by kernel_rfl) (by kernel_rfl) ⟨_, _, rfl, rfl⟩ (by
    rw [vc129]
    (repeat' first | exact ⟨rfl, rfl⟩ | apply gsplit <;> intro h)
    all_goals (refine ⟨?_, rfl⟩; simp only [s129_0, *, cond_true, cond_false]))
def c_129 (a : List R) (K : List R → List (List D) → Prop) : Prop := match a with | [.agg [.v (.int .i64 a0), .v (.int .i64 a1)], .agg [.v (.int .i64 a2), .v (.int .i64 a3)]] => K [R.d (D.v (Value.bool (s129_0 a0 a1 a2 a3)))] [] | _ => False
theorem c_129_ok (a : List R) (K : List R → List (List D) → Prop) (h : c_129 a K) : Ct prog gl 50 a K := by
  unfold c_129 at h
  split at h
  · exact (ct129 _ _ _ _).gives h
  · exact h.elim
def C_55 : CallT := addC C_54 50 c_129
theorem C_55_ok : CallsOk prog gl C_55 := addC_ok C_54_ok c_129_ok
def C_56 : CallT := C_55
theorem C_56_ok : CallsOk prog gl C_56 := C_55_ok
def C_57 : CallT := C_56
theorem C_57_ok : CallsOk prog gl C_57 := C_56_ok
def C_58 : CallT := C_57
theorem C_58_ok : CallsOk prog gl C_58 := C_57_ok
theorem vc207 (a0 : Int) (Q : List R → List (List D) → Prop) : vc E_0 C_52 noI fi74 (f74.body.getD .skip) f74.results.toList [.d (.v (.int .i64 a0))] Q = ( Q [.d (.i (s203_0 (0 : Int) a0)), .d (.i (s203_1 (0 : Int) a0))] []) := by kernel_rfl
def s207_0 (a0 : Int) : Int := s203_0 (0 : Int) a0
def s207_1 (a0 : Int) : Int := s203_1 (0 : Int) a0
theorem ct207 (a0 : Int) : Ct prog gl 74 [.d (.v (.int .i64 a0))] (gives [R.d (D.v (Value.int IntKind.i64 (s207_0 a0))), R.d (D.v (Value.int IntKind.i64 (s207_1 a0)))]) :=
  ct_of_vc E_ok C_52_ok ioK_no it_ok mixed (fn := f74) (body := f74.body.getD .skip) (by kernel_rfl) (by kernel_rfl) (by kernel_rfl) (fi := fi74) (by kernel_rfl) (by kernel_rfl) ⟨_, _, rfl, rfl⟩ (by
    rw [vc207]
    (repeat' first | exact ⟨rfl, rfl⟩ | apply gsplit <;> intro h)
    all_goals (refine ⟨?_, rfl⟩; simp only [s207_0, s207_1, *, cond_true, cond_false]))
def c_207 (a : List R) (K : List R → List (List D) → Prop) : Prop := match a with | [.d (.v (.int .i64 a0))] => K [R.d (D.v (Value.int IntKind.i64 (s207_0 a0))), R.d (D.v (Value.int IntKind.i64 (s207_1 a0)))] [] | _ => False
theorem c_207_ok (a : List R) (K : List R → List (List D) → Prop) (h : c_207 a K) : Ct prog gl 74 a K := by
  unfold c_207 at h
  split at h
  · exact (ct207 _).gives h
  · exact h.elim
def C_59 : CallT := addC C_58 74 c_207
theorem C_59_ok : CallsOk prog gl C_59 := addC_ok C_58_ok c_207_ok
def C_60 : CallT := C_59
theorem C_60_ok : CallsOk prog gl C_60 := C_59_ok
def C_61 : CallT := C_60
theorem C_61_ok : CallsOk prog gl C_61 := C_60_ok
def C_62 : CallT := C_61
theorem C_62_ok : CallsOk prog gl C_62 := C_61_ok
def C_63 : CallT := C_62
theorem C_63_ok : CallsOk prog gl C_63 := C_62_ok
theorem vc56 (a0 : Int) (a1 : Int) (a2 : Bool) (a3 : Int) (a4 : ByteArray) (Q : List R → List (List D) → Prop) : vc E_0 C_63 noI fi19 (f19.body.getD .skip) f19.results.toList [.agg [.v (.int .i64 a0), .v (.int .i64 a1), .v (.bool a2), .v (.int .i64 a3), .v (.string a4)]] Q = ( ((s60_0 a0 a1 != (0 : Int)) = true → Q [.d (.i (s60_0 a0 a1))] []) ∧ ((s60_0 a0 a1 != (0 : Int)) = false → (a2 = true → ((!bif a4 == { data := { toList := [] : Array UInt8 } : ByteArray } then a3 == 0 else false) = true → Q [.d (.i 20)] []) ∧ ((!bif a4 == { data := { toList := [] : Array UInt8 } : ByteArray } then a3 == 0 else false) = false → Q [.d (.i 0)] [])) ∧ (a2 = false → ((a0 == 1) = true → ((!bif a4 == { data := { toList := [] : Array UInt8 } : ByteArray } then bif a3 == 0 then true else a3 == 1 else false) = true → Q [.d (.i 20)] []) ∧ ((!bif a4 == { data := { toList := [] : Array UInt8 } : ByteArray } then bif a3 == 0 then true else a3 == 1 else false) = false → Q [.d (.i 0)] [])) ∧ ((a0 == 1) = false → ((a0 == 3) = true → ((!bif a4 == { data := { toList := [] : Array UInt8 } : ByteArray } then s114_0 a3 else false) = true → Q [.d (.i 20)] []) ∧ ((!bif a4 == { data := { toList := [] : Array UInt8 } : ByteArray } then s114_0 a3 else false) = false → Q [.d (.i 0)] [])) ∧ ((a0 == 3) = false → ((a0 == 5) = true → ((!bif bif a4 == { data := { toList := [] : Array UInt8 } : ByteArray } then decide (a3 ≥ (-719162 : Int)) else false then decide (a3 ≤ 2932896) else false) = true → Q [.d (.i 20)] []) ∧ ((!bif bif a4 == { data := { toList := [] : Array UInt8 } : ByteArray } then decide (a3 ≥ (-719162 : Int)) else false then decide (a3 ≤ 2932896) else false) = false → Q [.d (.i 0)] [])) ∧ ((a0 == 5) = false → ((a0 == 4) = true → ((!bif a3 == 0 then decide ((↑a4.size : Int) ≤ 256) else false) = true → Q [.d (.i 20)] []) ∧ ((!bif a3 == 0 then decide ((↑a4.size : Int) ≤ 256) else false) = false → Q [.d (.i 0)] [])) ∧ ((a0 == 4) = false → ((!a4 == { data := { toList := [] : Array UInt8 } : ByteArray }) = true → Q [.d (.i 20)] []) ∧ ((!a4 == { data := { toList := [] : Array UInt8 } : ByteArray }) = false → Q [.d (.i 0)] [])))))))) := by kernel_rfl
def s56_0 (a0 : Int) (a1 : Int) (a2 : Bool) (a3 : Int) (a4 : ByteArray) : Int := bif s60_0 a0 a1 != (0 : Int) then s60_0 a0 a1
else
  bif a2 then
    bif !bif a4 == { data := { toList := [] : Array UInt8 } : ByteArray } then a3 == (0 : Int) else false then
      (20 : Int)
    else (0 : Int)
  else
    bif a0 == (1 : Int) then
      bif
          !bif a4 == { data := { toList := [] : Array UInt8 } : ByteArray } then
              bif a3 == (0 : Int) then true else a3 == (1 : Int)
            else false then
        (20 : Int)
      else (0 : Int)
    else
      bif a0 == (3 : Int) then
        bif !bif a4 == { data := { toList := [] : Array UInt8 } : ByteArray } then s114_0 a3 else false then (20 : Int)
        else (0 : Int)
      else
        bif a0 == (5 : Int) then
          bif
              !bif
                    bif a4 == { data := { toList := [] : Array UInt8 } : ByteArray } then decide (a3 ≥ (-719162 : Int))
                    else false then
                  decide (a3 ≤ (2932896 : Int))
                else false then
            (20 : Int)
          else (0 : Int)
        else
          bif a0 == (4 : Int) then
            bif !bif a3 == (0 : Int) then decide ((↑a4.size : Int) ≤ (256 : Int)) else false then (20 : Int)
            else (0 : Int)
          else bif !a4 == { data := { toList := [] : Array UInt8 } : ByteArray } then (20 : Int) else (0 : Int)
theorem ct56 (a0 : Int) (a1 : Int) (a2 : Bool) (a3 : Int) (a4 : ByteArray) : Ct prog gl 19 [.agg [.v (.int .i64 a0), .v (.int .i64 a1), .v (.bool a2), .v (.int .i64 a3), .v (.string a4)]] (gives [R.d (D.v (Value.int IntKind.i64 (s56_0 a0 a1 a2 a3 a4)))]) :=
  ct_of_vc E_ok C_63_ok ioK_no it_ok mixed (fn := f19) (body := f19.body.getD .skip) (by kernel_rfl) (by kernel_rfl) (by kernel_rfl) (fi := fi19) (by kernel_rfl) (by kernel_rfl) ⟨_, _, rfl, rfl⟩ (by
    rw [vc56]
    (repeat' first | exact ⟨rfl, rfl⟩ | apply gsplit <;> intro h)
    all_goals (refine ⟨?_, rfl⟩; simp only [s56_0, *, cond_true, cond_false]))
def c_56 (a : List R) (K : List R → List (List D) → Prop) : Prop := match a with | [.agg [.v (.int .i64 a0), .v (.int .i64 a1), .v (.bool a2), .v (.int .i64 a3), .v (.string a4)]] => K [R.d (D.v (Value.int IntKind.i64 (s56_0 a0 a1 a2 a3 a4)))] [] | _ => False
theorem c_56_ok (a : List R) (K : List R → List (List D) → Prop) (h : c_56 a K) : Ct prog gl 19 a K := by
  unfold c_56 at h
  split at h
  · exact (ct56 _ _ _ _ _).gives h
  · exact h.elim
def C_64 : CallT := addC C_63 19 c_56
theorem C_64_ok : CallsOk prog gl C_64 := addC_ok C_63_ok c_56_ok
theorem vc59 (a0 : Int) (a1 : Int) (Q : List R → List (List D) → Prop) : vc E_0 C_63 noI fi22 (f22.body.getD .skip) f22.results.toList [.agg [.v (.int .i64 a0), .v (.int .i64 a1)]] Q = ( Q [.d (.v (.bool (s60_0 a0 a1 != (0 : Int))))] []) := by kernel_rfl
def s59_0 (a0 : Int) (a1 : Int) : Bool := s60_0 a0 a1 != (0 : Int)
theorem ct59 (a0 : Int) (a1 : Int) : Ct prog gl 22 [.agg [.v (.int .i64 a0), .v (.int .i64 a1)]] (gives [R.d (D.v (Value.bool (s59_0 a0 a1)))]) :=
  ct_of_vc E_ok C_63_ok ioK_no it_ok mixed (fn := f22) (body := f22.body.getD .skip) (by kernel_rfl) (by kernel_rfl) (by kernel_rfl) (fi := fi22) (by kernel_rfl) (by kernel_rfl) ⟨_, _, rfl, rfl⟩ (by
    rw [vc59]
    (repeat' first | exact ⟨rfl, rfl⟩ | apply gsplit <;> intro h)
    all_goals (refine ⟨?_, rfl⟩; simp only [s59_0, *, cond_true, cond_false]))
def c_59 (a : List R) (K : List R → List (List D) → Prop) : Prop := match a with | [.agg [.v (.int .i64 a0), .v (.int .i64 a1)]] => K [R.d (D.v (Value.bool (s59_0 a0 a1)))] [] | _ => False
theorem c_59_ok (a : List R) (K : List R → List (List D) → Prop) (h : c_59 a K) : Ct prog gl 22 a K := by
  unfold c_59 at h
  split at h
  · exact (ct59 _ _).gives h
  · exact h.elim
def C_65 : CallT := addC C_64 22 c_59
theorem C_65_ok : CallsOk prog gl C_65 := addC_ok C_64_ok c_59_ok
theorem vc55 (a0 : Int) (a1 : Int) (a2 : Bool) (a3 : Int) (a4 : ByteArray) (Q : List R → List (List D) → Prop) : vc E_0 C_65 noI fi18 (f18.body.getD .skip) f18.results.toList [.agg [.v (.int .i64 a0), .v (.int .i64 a1), .v (.bool a2), .v (.int .i64 a3), .v (.string a4)]] Q = ( Q [.d (.v (.bool (s56_0 a0 a1 a2 a3 a4 != (0 : Int))))] []) := by kernel_rfl
def s55_0 (a0 : Int) (a1 : Int) (a2 : Bool) (a3 : Int) (a4 : ByteArray) : Bool := s56_0 a0 a1 a2 a3 a4 != (0 : Int)
theorem ct55 (a0 : Int) (a1 : Int) (a2 : Bool) (a3 : Int) (a4 : ByteArray) : Ct prog gl 18 [.agg [.v (.int .i64 a0), .v (.int .i64 a1), .v (.bool a2), .v (.int .i64 a3), .v (.string a4)]] (gives [R.d (D.v (Value.bool (s55_0 a0 a1 a2 a3 a4)))]) :=
  ct_of_vc E_ok C_65_ok ioK_no it_ok mixed (fn := f18) (body := f18.body.getD .skip) (by kernel_rfl) (by kernel_rfl) (by kernel_rfl) (fi := fi18) (by kernel_rfl) (by kernel_rfl) ⟨_, _, rfl, rfl⟩ (by
    rw [vc55]
    (repeat' first | exact ⟨rfl, rfl⟩ | apply gsplit <;> intro h)
    all_goals (refine ⟨?_, rfl⟩; simp only [s55_0, *, cond_true, cond_false]))
def c_55 (a : List R) (K : List R → List (List D) → Prop) : Prop := match a with | [.agg [.v (.int .i64 a0), .v (.int .i64 a1), .v (.bool a2), .v (.int .i64 a3), .v (.string a4)]] => K [R.d (D.v (Value.bool (s55_0 a0 a1 a2 a3 a4)))] [] | _ => False
theorem c_55_ok (a : List R) (K : List R → List (List D) → Prop) (h : c_55 a K) : Ct prog gl 18 a K := by
  unfold c_55 at h
  split at h
  · exact (ct55 _ _ _ _ _).gives h
  · exact h.elim
def C_66 : CallT := addC C_65 18 c_55
theorem C_66_ok : CallsOk prog gl C_66 := addC_ok C_65_ok c_55_ok
end Go.Proofs.Tryz
namespace Go.Proofs.Tryz
open Go Go.Dm Go.Ex
set_option maxRecDepth 100000
variable {gl : Nat → Option Obj}
end Go.Proofs.Tryz
namespace Go.Proofs.Tryz
open Go Go.Dm Go.Ex
set_option maxRecDepth 100000
variable {gl : Nat → Option Obj}
end Go.Proofs.Tryz
namespace Go.Proofs.Tryz
open Go Go.Dm Go.Ex
set_option maxRecDepth 100000
variable {gl : Nat → Option Obj}
theorem vc128 (a b k : Int) (Q : List R → List (List D) → Prop) : vc E_0 C_66 noI fi49 (f49.body.getD .skip) f49.results.toList [.agg [.v (.int .i64 a), .v (.int .i64 b)], .ptr [.v (.int .i64 k)]] Q = ( ∃ (n : Int), some [D.i k] = some [D.i n] ∧ Q [.d (.v (.bool (a != n)))] []) := by kernel_rfl
def c_128 (a : List R) (K : List R → List (List D) → Prop) : Prop := match a with
  | [.agg [.v (.int .i64 a), .v (.int .i64 b)], .ptr [.v (.int .i64 k)]] => K [.d (.v (.bool (a != k)))] []
  | _ => False
theorem c_128_ok (a : List R) (K : List R → List (List D) → Prop) (h : c_128 a K) : Ct prog gl 49 a K := by
  unfold c_128 at h
  split at h
  · rename_i a b k
    refine Ct.gives (r := [.d (.v (.bool (a != k)))]) (ct_of_vc E_ok C_66_ok ioK_no it_ok mixed (fn := f49) (body := f49.body.getD .skip) (by kernel_rfl) (by kernel_rfl) (by kernel_rfl) (fi := fi49) (by kernel_rfl) (by kernel_rfl) ⟨_, _, rfl, rfl⟩ ?_) h
    rw [vc128]
    exact ⟨k, rfl, rfl, rfl⟩
  · exact h.elim
def C_4a : CallT := addC C_66 49 c_128
theorem C_4a_ok : CallsOk prog gl C_4a := addC_ok C_66_ok c_128_ok
theorem any_take {α : Type} {p : α → Bool} {l : List α} {i : Nat} (hi : i < l.length) (h : ∀ v ∈ l.take i, p v = false) (hb : p l[i] = false) : ∀ v ∈ l.take (i + 1), p v = false := by
  intro v hv
  rw [List.take_add_one, List.getElem?_eq_getElem hi] at hv
  rcases List.mem_append.1 hv with hv | hv
  · exact h v hv
  · simp at hv; subst hv; exact hb
theorem any_none {α : Type} {p : α → Bool} {l : List α} (h : ∀ v ∈ l, p v = false) : l.any p = false := by
  rw [List.any_eq_false]; intro v hv; rw [h v hv]; simp
def badT (t : Ty) : Bool := s59_0 t.k t.sc
def offK (k : Int) (t : Ty) : Bool := t.k != k
def badV (v : Go.Ex.AV) : Bool := s55_0 v.t.k v.t.sc v.nul v.n v.s
def st_123a (l : List Ty) (x : Nat) : St := { tm := [(0, .d (.sl (l.map Ty.cs))), (1, .fn 22 []), (4, .d (.v (.int .i64 0))), (7, .d (.v (.int .i64 ((l.map Ty.cs).length : Int)))), (8, .d (.v (.int .i64 (x : Int))))], hp := [], kn := [], gd := [] }
def inv_123a (l : List Ty) (m : Nat) (x : Nat) : Prop := (x ≤ l.length ∧ m = l.length - x) ∧ ∀ v ∈ l.take x, badT v = false
def fx_123a (l : List Ty) : Fi := { fi44 with lx := [(2, { X := Nat, sh := st_123a l, P := fun _ => inv_123a l })] }
theorem vc123a (l : List Ty) (Q : List R → List (List D) → Prop) : vc E_0 C_4a noI (fx_123a l) (f44.body.getD .skip) f44.results.toList [.d (.sl (l.map Ty.cs)), .fn 22 []] Q = ( ∃ (es : List (List D)), D.sl (List.map Ty.cs l) = D.sl es ∧ ∃ (x0 : Nat), ({ tm := [(0, .d (.sl (List.map Ty.cs l))), (1, .fn (22 : Nat) []), (4, .i 0), (7, .i (↑es.length : Int)), (8, .i 0)], hp := [], kn := [], gd := [] : St } = { tm := [(0, .d (.sl (List.map Ty.cs l))), (1, .fn (22 : Nat) []), (4, .i 0), (7, .i (↑(List.map Ty.cs l).length : Int)), (8, .i (↑x0 : Int))], hp := [], kn := [], gd := [] : St } ∧ ∃ (n : Nat), inv_123a l n x0) ∧ ∀ (n : Nat) (x : Nat), inv_123a l n x → (decide ((↑x : Int) < (↑(List.map Ty.cs l).length : Int)) = true → ∃ (es : List (List D)), D.sl (List.map Ty.cs l) = D.sl es ∧ (0 ≤ (↑x : Int) ∧ (↑x : Int) < (↑es.length : Int)) ∧ ∃ (cells : List D), es[(↑x : Int).toNat]? = some cells ∧ cells.length = 2 ∧ ∃ (n_1 n_2 : Int), cut 0 2 cells = some [D.i n_1, D.i n_2] ∧ (s59_0 n_1 n_2 = true → Q [.d (.i (↑x : Int))] []) ∧ (s59_0 n_1 n_2 = false → ∃ (m x' : Nat), m < n ∧ { tm := [(0, .d (.sl (List.map Ty.cs l))), (1, .fn (22 : Nat) []), (4, .i 0), (7, .i (↑(List.map Ty.cs l).length : Int)), (8, .i (IntKind.i64.wrap ((↑x : Int) + 1)))], hp := [], kn := [], gd := [] : St } = { tm := [(0, .d (.sl (List.map Ty.cs l))), (1, .fn (22 : Nat) []), (4, .i 0), (7, .i (↑(List.map Ty.cs l).length : Int)), (8, .i (↑x' : Int))], hp := [], kn := [], gd := [] : St } ∧ inv_123a l m x')) ∧ (decide ((↑x : Int) < (↑(List.map Ty.cs l).length : Int)) = false → Q [.d (.i (-1))] [])) := by kernel_rfl
theorem ct123a (l : List Ty) (hl : l.length < 4611686018427387904) : Ct prog gl 44 [.d (.sl (l.map Ty.cs)), .fn 22 []] (fun res fin => fin = [] ∧ ∃ r : Int, res = [.d (.v (.int .i64 r))] ∧ decide (r ≥ 0) = l.any (badT)) :=
  ct_of_vc E_ok C_4a_ok ioK_no it_ok mixed (fn := f44) (body := f44.body.getD .skip) (by kernel_rfl) (by kernel_rfl) (by kernel_rfl) (fi := fx_123a l) (by kernel_rfl) (by kernel_rfl) (by
    cases h : l.any (badT)
    · exact ⟨_, _, rfl, -1, rfl, rfl⟩
    · exact ⟨_, _, rfl, 0, rfl, rfl⟩) (by
    rw [vc123a]
    refine ⟨_, rfl, (0 : Nat), ⟨rfl, l.length, ⟨Nat.zero_le _, rfl⟩, by simp⟩, fun m (x : Nat) hx => ⟨fun hi => ?_, fun hi => ?_⟩⟩
    · have hi : x < l.length := by simpa using hi
      have hg : (l.map Ty.cs)[((x : Nat) : Int).toNat]? = some (Ty.cs l[x]) := by simp [hi]
      have hm := hx.1.2
      refine ⟨_, rfl, ⟨by omega, by simpa using hi⟩, _, hg, rfl, _, _, rfl, fun hb => ?_, fun hb => ?_⟩
      · refine ⟨rfl, (x : Int), rfl, ?_⟩
        rw [decide_eq_true (by omega)]
        exact (List.any_eq_true.2 ⟨l[x], List.getElem_mem hi, hb⟩).symm
      · exact ⟨l.length - (x + 1), x + 1, by omega, by rw [wrap_next (by omega)], ⟨hi, rfl⟩, any_take hi hx.2 hb⟩
    · have hi : ¬ x < l.length := by simpa using hi
      have h := hx.2
      rw [List.take_of_length_le (by omega)] at h
      refine ⟨rfl, -1, rfl, ?_⟩
      rw [any_none h]; rfl)
def st_123b (k : Int) (l : List Ty) (x : Nat) : St := { tm := [(0, .d (.sl (l.map Ty.cs))), (1, .fn 49 [.dptr [.v (.int .i64 k)]]), (4, .d (.v (.int .i64 0))), (7, .d (.v (.int .i64 ((l.map Ty.cs).length : Int)))), (8, .d (.v (.int .i64 (x : Int))))], hp := [], kn := [], gd := [] }
def inv_123b (k : Int) (l : List Ty) (m : Nat) (x : Nat) : Prop := (x ≤ l.length ∧ m = l.length - x) ∧ ∀ v ∈ l.take x, offK k v = false
def fx_123b (k : Int) (l : List Ty) : Fi := { fi44 with lx := [(2, { X := Nat, sh := st_123b k l, P := fun _ => inv_123b k l })] }
theorem vc123b (k : Int) (l : List Ty) (Q : List R → List (List D) → Prop) : vc E_0 C_4a noI (fx_123b k l) (f44.body.getD .skip) f44.results.toList [.d (.sl (l.map Ty.cs)), .fn 49 [.ptr [.v (.int .i64 k)]]] Q = ( ∃ (es : List (List D)), D.sl (List.map Ty.cs l) = D.sl es ∧ ∃ (x0 : Nat), ({ tm := [(0, .d (.sl (List.map Ty.cs l))), (1, .fn (49 : Nat) [.dptr [.i k]]), (4, .i 0), (7, .i (↑es.length : Int)), (8, .i 0)], hp := [], kn := [], gd := [] : St } = { tm := [(0, .d (.sl (List.map Ty.cs l))), (1, .fn (49 : Nat) [.dptr [.i k]]), (4, .i 0), (7, .i (↑(List.map Ty.cs l).length : Int)), (8, .i (↑x0 : Int))], hp := [], kn := [], gd := [] : St } ∧ ∃ (n : Nat), inv_123b k l n x0) ∧ ∀ (n : Nat) (x : Nat), inv_123b k l n x → (decide ((↑x : Int) < (↑(List.map Ty.cs l).length : Int)) = true → ∃ (es : List (List D)), D.sl (List.map Ty.cs l) = D.sl es ∧ (0 ≤ (↑x : Int) ∧ (↑x : Int) < (↑es.length : Int)) ∧ ∃ (cells : List D), es[(↑x : Int).toNat]? = some cells ∧ cells.length = 2 ∧ ∃ (n_1 n_2 : Int), cut 0 2 cells = some [D.i n_1, D.i n_2] ∧ ((n_1 != k) = true → Q [.d (.i (↑x : Int))] []) ∧ ((n_1 != k) = false → ∃ (m x' : Nat), m < n ∧ { tm := [(0, .d (.sl (List.map Ty.cs l))), (1, .fn (49 : Nat) [.dptr [.i k]]), (4, .i 0), (7, .i (↑(List.map Ty.cs l).length : Int)), (8, .i (IntKind.i64.wrap ((↑x : Int) + 1)))], hp := [], kn := [], gd := [] : St } = { tm := [(0, .d (.sl (List.map Ty.cs l))), (1, .fn (49 : Nat) [.dptr [.i k]]), (4, .i 0), (7, .i (↑(List.map Ty.cs l).length : Int)), (8, .i (↑x' : Int))], hp := [], kn := [], gd := [] : St } ∧ inv_123b k l m x')) ∧ (decide ((↑x : Int) < (↑(List.map Ty.cs l).length : Int)) = false → Q [.d (.i (-1))] [])) := by kernel_rfl
theorem ct123b (k : Int) (l : List Ty) (hl : l.length < 4611686018427387904) : Ct prog gl 44 [.d (.sl (l.map Ty.cs)), .fn 49 [.ptr [.v (.int .i64 k)]]] (fun res fin => fin = [] ∧ ∃ r : Int, res = [.d (.v (.int .i64 r))] ∧ decide (r ≥ 0) = l.any (offK k)) :=
  ct_of_vc E_ok C_4a_ok ioK_no it_ok mixed (fn := f44) (body := f44.body.getD .skip) (by kernel_rfl) (by kernel_rfl) (by kernel_rfl) (fi := fx_123b k l) (by kernel_rfl) (by kernel_rfl) (by
    cases h : l.any (offK k)
    · exact ⟨_, _, rfl, -1, rfl, rfl⟩
    · exact ⟨_, _, rfl, 0, rfl, rfl⟩) (by
    rw [vc123b]
    refine ⟨_, rfl, (0 : Nat), ⟨rfl, l.length, ⟨Nat.zero_le _, rfl⟩, by simp⟩, fun m (x : Nat) hx => ⟨fun hi => ?_, fun hi => ?_⟩⟩
    · have hi : x < l.length := by simpa using hi
      have hg : (l.map Ty.cs)[((x : Nat) : Int).toNat]? = some (Ty.cs l[x]) := by simp [hi]
      have hm := hx.1.2
      refine ⟨_, rfl, ⟨by omega, by simpa using hi⟩, _, hg, rfl, _, _, rfl, fun hb => ?_, fun hb => ?_⟩
      · refine ⟨rfl, (x : Int), rfl, ?_⟩
        rw [decide_eq_true (by omega)]
        exact (List.any_eq_true.2 ⟨l[x], List.getElem_mem hi, hb⟩).symm
      · exact ⟨l.length - (x + 1), x + 1, by omega, by rw [wrap_next (by omega)], ⟨hi, rfl⟩, any_take hi hx.2 hb⟩
    · have hi : ¬ x < l.length := by simpa using hi
      have h := hx.2
      rw [List.take_of_length_le (by omega)] at h
      refine ⟨rfl, -1, rfl, ?_⟩
      rw [any_none h]; rfl)
def c_123 (a : List R) (K : List R → List (List D) → Prop) : Prop := match a with
  | [.d (.sl x), .fn 22 []] => ∃ l : List Ty, x = l.map Ty.cs ∧ l.length < 4611686018427387904 ∧ ∀ r : Int, decide (r ≥ 0) = l.any (badT) → K [.d (.v (.int .i64 r))] []
  | [.d (.sl x), .fn 49 [.ptr [.v (.int .i64 k)]]] => ∃ l : List Ty, x = l.map Ty.cs ∧ l.length < 4611686018427387904 ∧ ∀ r : Int, decide (r ≥ 0) = l.any (offK k) → K [.d (.v (.int .i64 r))] []
  | _ => False
theorem c_123_ok (a : List R) (K : List R → List (List D) → Prop) (h : c_123 a K) : Ct prog gl 44 a K := by
  unfold c_123 at h
  split at h
  · obtain ⟨l, rfl, h1, h2⟩ := h
    exact (ct123a l h1).mono fun res fin ⟨e1, r, e2, e3⟩ => by subst e1; subst e2; exact h2 r e3
  · obtain ⟨l, rfl, h1, h2⟩ := h
    exact (ct123b _ l h1).mono fun res fin ⟨e1, r, e2, e3⟩ => by subst e1; subst e2; exact h2 r e3
  · exact h.elim
def C_4b : CallT := addC C_4a 44 c_123
theorem C_4b_ok : CallsOk prog gl C_4b := addC_ok C_4a_ok c_123_ok
theorem vc58a (x : List (List D)) (Q : List R → List (List D) → Prop) : vc E_0 C_4b noI fi21 (f21.body.getD .skip) f21.results.toList [.d (.sl x), .fn 22 []] Q = ( ∃ (l : List Ty), x = List.map Ty.cs l ∧ l.length < 4611686018427387904 ∧ ∀ (r : Int), decide (r ≥ 0) = l.any badT → Q [.d (.v (.bool (decide (r ≥ 0))))] []) := by kernel_rfl
theorem vc58b (k : Int) (x : List (List D)) (Q : List R → List (List D) → Prop) : vc E_0 C_4b noI fi21 (f21.body.getD .skip) f21.results.toList [.d (.sl x), .fn 49 [.ptr [.v (.int .i64 k)]]] Q = ( ∃ (l : List Ty), x = List.map Ty.cs l ∧ l.length < 4611686018427387904 ∧ ∀ (r : Int), decide (r ≥ 0) = l.any (offK k) → Q [.d (.v (.bool (decide (r ≥ 0))))] []) := by kernel_rfl
def c_58 (a : List R) (K : List R → List (List D) → Prop) : Prop := match a with
  | [.d (.sl x), .fn 22 []] => ∃ l : List Ty, x = l.map Ty.cs ∧ l.length < 4611686018427387904 ∧ K [.d (.v (.bool (l.any (badT))))] []
  | [.d (.sl x), .fn 49 [.ptr [.v (.int .i64 k)]]] => ∃ l : List Ty, x = l.map Ty.cs ∧ l.length < 4611686018427387904 ∧ K [.d (.v (.bool (l.any (offK k))))] []
  | _ => False
theorem c_58_ok (a : List R) (K : List R → List (List D) → Prop) (h : c_58 a K) : Ct prog gl 21 a K := by
  unfold c_58 at h
  split at h
  · obtain ⟨l, rfl, h1, h2⟩ := h
    refine Ct.gives (r := [.d (.v (.bool (l.any (badT))))]) (ct_of_vc E_ok C_4b_ok ioK_no it_ok mixed (fn := f21) (body := f21.body.getD .skip) (by kernel_rfl) (by kernel_rfl) (by kernel_rfl) (fi := fi21) (by kernel_rfl) (by kernel_rfl) ⟨_, _, rfl, rfl⟩ ?_) h2
    rw [vc58a]
    exact ⟨l, rfl, h1, fun r hr => ⟨by rw [hr], rfl⟩⟩
  · rename_i x k
    obtain ⟨l, rfl, h1, h2⟩ := h
    refine Ct.gives (r := [.d (.v (.bool (l.any (offK k))))]) (ct_of_vc E_ok C_4b_ok ioK_no it_ok mixed (fn := f21) (body := f21.body.getD .skip) (by kernel_rfl) (by kernel_rfl) (by kernel_rfl) (fi := fi21) (by kernel_rfl) (by kernel_rfl) ⟨_, _, rfl, rfl⟩ ?_) h2
    rw [vc58b]
    exact ⟨l, rfl, h1, fun r hr => ⟨by rw [hr], rfl⟩⟩
  · exact h.elim
def C_4c : CallT := addC C_4b 21 c_58
theorem C_4c_ok : CallsOk prog gl C_4c := addC_ok C_4b_ok c_58_ok
def st_113 (l : List Go.Ex.AV) (x : Nat) : St := { tm := [(0, .d (.sl (l.map Go.Ex.AV.cs))), (1, .fn 18 []), (4, .d (.v (.int .i64 0))), (7, .d (.v (.int .i64 ((l.map Go.Ex.AV.cs).length : Int)))), (8, .d (.v (.int .i64 (x : Int))))], hp := [], kn := [], gd := [] }
def inv_113 (l : List Go.Ex.AV) (m : Nat) (x : Nat) : Prop := (x ≤ l.length ∧ m = l.length - x) ∧ ∀ v ∈ l.take x, badV v = false
def fx_113 (l : List Go.Ex.AV) : Fi := { fi34 with lx := [(2, { X := Nat, sh := st_113 l, P := fun _ => inv_113 l })] }
theorem vc113 (l : List Go.Ex.AV) (Q : List R → List (List D) → Prop) : vc E_0 C_4c noI (fx_113 l) (f34.body.getD .skip) f34.results.toList [.d (.sl (l.map Go.Ex.AV.cs)), .fn 18 []] Q = ( ∃ (es : List (List D)), D.sl (List.map AV.cs l) = D.sl es ∧ ∃ (x0 : Nat), ({ tm := [(0, .d (.sl (List.map AV.cs l))), (1, .fn (18 : Nat) []), (4, .i 0), (7, .i (↑es.length : Int)), (8, .i 0)], hp := [], kn := [], gd := [] : St } = { tm := [(0, .d (.sl (List.map AV.cs l))), (1, .fn (18 : Nat) []), (4, .i 0), (7, .i (↑(List.map AV.cs l).length : Int)), (8, .i (↑x0 : Int))], hp := [], kn := [], gd := [] : St } ∧ ∃ (n : Nat), inv_113 l n x0) ∧ ∀ (n : Nat) (x : Nat), inv_113 l n x → (decide ((↑x : Int) < (↑(List.map AV.cs l).length : Int)) = true → ∃ (es : List (List D)), D.sl (List.map AV.cs l) = D.sl es ∧ (0 ≤ (↑x : Int) ∧ (↑x : Int) < (↑es.length : Int)) ∧ ∃ (cells : List D), es[(↑x : Int).toNat]? = some cells ∧ cells.length = 5 ∧ ∃ (n_1 n_2 : Int), ∃ (b : Bool), ∃ (n_3 : Int), ∃ (b_1 : ByteArray), cut 0 5 cells = some [D.i n_1, D.i n_2, D.v (.bool b), D.i n_3, D.v (.string b_1)] ∧ (s55_0 n_1 n_2 b n_3 b_1 = true → Q [.d (.i (↑x : Int))] []) ∧ (s55_0 n_1 n_2 b n_3 b_1 = false → ∃ (m x' : Nat), m < n ∧ { tm := [(0, .d (.sl (List.map AV.cs l))), (1, .fn (18 : Nat) []), (4, .i 0), (7, .i (↑(List.map AV.cs l).length : Int)), (8, .i (IntKind.i64.wrap ((↑x : Int) + 1)))], hp := [], kn := [], gd := [] : St } = { tm := [(0, .d (.sl (List.map AV.cs l))), (1, .fn (18 : Nat) []), (4, .i 0), (7, .i (↑(List.map AV.cs l).length : Int)), (8, .i (↑x' : Int))], hp := [], kn := [], gd := [] : St } ∧ inv_113 l m x')) ∧ (decide ((↑x : Int) < (↑(List.map AV.cs l).length : Int)) = false → Q [.d (.i (-1))] [])) := by kernel_rfl
theorem ct113 (l : List Go.Ex.AV) (hl : l.length < 4611686018427387904) : Ct prog gl 34 [.d (.sl (l.map Go.Ex.AV.cs)), .fn 18 []] (fun res fin => fin = [] ∧ ∃ r : Int, res = [.d (.v (.int .i64 r))] ∧ decide (r ≥ 0) = l.any (badV)) :=
  ct_of_vc E_ok C_4c_ok ioK_no it_ok mixed (fn := f34) (body := f34.body.getD .skip) (by kernel_rfl) (by kernel_rfl) (by kernel_rfl) (fi := fx_113 l) (by kernel_rfl) (by kernel_rfl) (by
    cases h : l.any (badV)
    · exact ⟨_, _, rfl, -1, rfl, rfl⟩
    · exact ⟨_, _, rfl, 0, rfl, rfl⟩) (by
    rw [vc113]
    refine ⟨_, rfl, (0 : Nat), ⟨rfl, l.length, ⟨Nat.zero_le _, rfl⟩, by simp⟩, fun m (x : Nat) hx => ⟨fun hi => ?_, fun hi => ?_⟩⟩
    · have hi : x < l.length := by simpa using hi
      have hg : (l.map Go.Ex.AV.cs)[((x : Nat) : Int).toNat]? = some (Go.Ex.AV.cs l[x]) := by simp [hi]
      have hm := hx.1.2
      refine ⟨_, rfl, ⟨by omega, by simpa using hi⟩, _, hg, rfl, _, _, _, _, _, rfl, fun hb => ?_, fun hb => ?_⟩
      · refine ⟨rfl, (x : Int), rfl, ?_⟩
        rw [decide_eq_true (by omega)]
        exact (List.any_eq_true.2 ⟨l[x], List.getElem_mem hi, hb⟩).symm
      · exact ⟨l.length - (x + 1), x + 1, by omega, by rw [wrap_next (by omega)], ⟨hi, rfl⟩, any_take hi hx.2 hb⟩
    · have hi : ¬ x < l.length := by simpa using hi
      have h := hx.2
      rw [List.take_of_length_le (by omega)] at h
      refine ⟨rfl, -1, rfl, ?_⟩
      rw [any_none h]; rfl)
def c_113 (a : List R) (K : List R → List (List D) → Prop) : Prop := match a with
  | [.d (.sl x), .fn 18 []] => ∃ l : List Go.Ex.AV, x = l.map Go.Ex.AV.cs ∧ l.length < 4611686018427387904 ∧ ∀ r : Int, decide (r ≥ 0) = l.any (badV) → K [.d (.v (.int .i64 r))] []
  | _ => False
theorem c_113_ok (a : List R) (K : List R → List (List D) → Prop) (h : c_113 a K) : Ct prog gl 34 a K := by
  unfold c_113 at h
  split at h
  · obtain ⟨l, rfl, h1, h2⟩ := h
    exact (ct113 l h1).mono fun res fin ⟨e1, r, e2, e3⟩ => by subst e1; subst e2; exact h2 r e3
  · exact h.elim
def C_4d : CallT := addC C_4c 34 c_113
theorem C_4d_ok : CallsOk prog gl C_4d := addC_ok C_4c_ok c_113_ok
theorem vc54 (x : List (List D)) (Q : List R → List (List D) → Prop) : vc E_0 C_4d noI fi17 (f17.body.getD .skip) f17.results.toList [.d (.sl x), .fn 18 []] Q = ( ∃ (l : List AV), x = List.map AV.cs l ∧ l.length < 4611686018427387904 ∧ ∀ (r : Int), decide (r ≥ 0) = l.any badV → Q [.d (.v (.bool (decide (r ≥ 0))))] []) := by kernel_rfl
def c_54 (a : List R) (K : List R → List (List D) → Prop) : Prop := match a with
  | [.d (.sl x), .fn 18 []] => ∃ l : List Go.Ex.AV, x = l.map Go.Ex.AV.cs ∧ l.length < 4611686018427387904 ∧ K [.d (.v (.bool (l.any (badV))))] []
  | _ => False
theorem c_54_ok (a : List R) (K : List R → List (List D) → Prop) (h : c_54 a K) : Ct prog gl 17 a K := by
  unfold c_54 at h
  split at h
  · obtain ⟨l, rfl, h1, h2⟩ := h
    refine Ct.gives (r := [.d (.v (.bool (l.any (badV))))]) (ct_of_vc E_ok C_4d_ok ioK_no it_ok mixed (fn := f17) (body := f17.body.getD .skip) (by kernel_rfl) (by kernel_rfl) (by kernel_rfl) (fi := fi17) (by kernel_rfl) (by kernel_rfl) ⟨_, _, rfl, rfl⟩ ?_) h2
    rw [vc54]
    exact ⟨l, rfl, h1, fun r hr => ⟨by rw [hr], rfl⟩⟩
  · exact h.elim
def C_4e : CallT := addC C_4d 17 c_54
theorem C_4e_ok : CallsOk prog gl C_4e := addC_ok C_4d_ok c_54_ok
end Go.Proofs.Tryz
