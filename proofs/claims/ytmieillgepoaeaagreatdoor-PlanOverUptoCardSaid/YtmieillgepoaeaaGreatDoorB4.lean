/- A part of the proof: contracts of functions, by a verified generator of conditions; no condition of its own. -/
import Derived.Test.YtmieillgepoaeaaGreatDoorB1
namespace Go.Proofs.Tryz
open Go Go.Dm
set_option maxRecDepth 100000
variable {gl : Nat → Option Obj}
def C_0 : CallT := fun _ _ _ => False
theorem C_0_ok : CallsOk prog gl C_0 := fun _ _ _ h => h.elim
def C_1 : CallT := C_0
theorem C_1_ok : CallsOk prog gl C_1 := C_0_ok
theorem vc65 (a0 : Int) (Q : List R → List (List D) → Prop) : vc E_0 C_0 noI fi303 (f303.body.getD .skip) f303.results.toList [.d (.v (.int .i64 a0))] Q = ( Q [.agg [.v (.int .i64 2), .v (.int .i64 0), .v (.bool false), .v (.int .i64 a0), .v (.string ⟨⟨[]⟩⟩)]] []) := by kernel_rfl
theorem ct65 (a0 : Int) : Ct prog gl 303 [.d (.v (.int .i64 a0))] (gives [R.agg
    [D.v (Value.int IntKind.i64 (2 : Int)), D.v (Value.int IntKind.i64 (0 : Int)), D.v (Value.bool false),
      D.v (Value.int IntKind.i64 a0), D.v (Value.string { data := { toList := [] : Array UInt8 } : ByteArray })]]) :=
  ct_of_vc E_ok C_0_ok ioK_no it_ok mixed (fn := f303) (body := f303.body.getD .skip) (by kernel_rfl) (by kernel_rfl) (by kernel_rfl) (fi := fi303) (by kernel_rfl) (by kernel_rfl) ⟨_, _, rfl, rfl⟩ (by
    rw [vc65]
    (repeat' first | exact ⟨rfl, rfl⟩ | apply gsplit <;> intro h)
    all_goals (refine ⟨?_, rfl⟩; simp only [*, cond_true, cond_false]))
def c_65 (a : List R) (K : List R → List (List D) → Prop) : Prop := match a with | [.d (.v (.int .i64 a0))] => K [R.agg
    [D.v (Value.int IntKind.i64 (2 : Int)), D.v (Value.int IntKind.i64 (0 : Int)), D.v (Value.bool false),
      D.v (Value.int IntKind.i64 a0), D.v (Value.string { data := { toList := [] : Array UInt8 } : ByteArray })]] [] | _ => False
theorem c_65_ok (a : List R) (K : List R → List (List D) → Prop) (h : c_65 a K) : Ct prog gl 303 a K := by
  unfold c_65 at h
  split at h
  · exact (ct65 _).gives h
  · exact h.elim
def C_2 : CallT := addC C_1 303 c_65
theorem C_2_ok : CallsOk prog gl C_2 := addC_ok C_1_ok c_65_ok
theorem vc67 (a0 : Int) (a1 : Int) (Q : List R → List (List D) → Prop) : vc E_0 C_0 noI fi45 (f45.body.getD .skip) f45.results.toList [.agg [.v (.int .i64 a0), .v (.int .i64 a1)]] Q = ( ((bif bif bif bif decide (a0 < (1 : Int)) then true else decide (a0 > (5 : Int)) then true else decide (a1 < (0 : Int)) then true else decide (a1 > (18 : Int)) then true else bif a0 != (3 : Int) then a1 != (0 : Int) else false) = true → Q [.d (.v (.int .i64 21))] []) ∧ ((bif bif bif bif decide (a0 < (1 : Int)) then true else decide (a0 > (5 : Int)) then true else decide (a1 < (0 : Int)) then true else decide (a1 > (18 : Int)) then true else bif a0 != (3 : Int) then a1 != (0 : Int) else false) = false → Q [.d (.v (.int .i64 0))] [])) := by kernel_rfl
def s67_0 (a0 : Int) (a1 : Int) : Int := bif
    bif
        bif
            bif bif decide (a0 < (1 : Int)) then true else decide (a0 > (5 : Int)) then true
            else decide (a1 < (0 : Int)) then
          true
        else decide (a1 > (18 : Int)) then
      true
    else bif a0 != (3 : Int) then a1 != (0 : Int) else false then
  (21 : Int)
else (0 : Int)
theorem ct67 (a0 : Int) (a1 : Int) : Ct prog gl 45 [.agg [.v (.int .i64 a0), .v (.int .i64 a1)]] (gives [R.d (D.v (Value.int IntKind.i64 (s67_0 a0 a1)))]) :=
  ct_of_vc E_ok C_0_ok ioK_no it_ok mixed (fn := f45) (body := f45.body.getD .skip) (by kernel_rfl) (by kernel_rfl) (by kernel_rfl) (fi := fi45) (by kernel_rfl) (by kernel_rfl) ⟨_, _, rfl, rfl⟩ (by
    rw [vc67]
    (repeat' first | exact ⟨rfl, rfl⟩ | apply gsplit <;> intro h)
    all_goals (refine ⟨?_, rfl⟩; simp only [s67_0, *, cond_true, cond_false]))
def c_67 (a : List R) (K : List R → List (List D) → Prop) : Prop := match a with | [.agg [.v (.int .i64 a0), .v (.int .i64 a1)]] => K [R.d (D.v (Value.int IntKind.i64 (s67_0 a0 a1)))] [] | _ => False
theorem c_67_ok (a : List R) (K : List R → List (List D) → Prop) (h : c_67 a K) : Ct prog gl 45 a K := by
  unfold c_67 at h
  split at h
  · exact (ct67 _ _).gives h
  · exact h.elim
def C_3 : CallT := addC C_2 45 c_67
theorem C_3_ok : CallsOk prog gl C_3 := addC_ok C_2_ok c_67_ok
theorem vc68 (a0 : Int) (Q : List R → List (List D) → Prop) : vc E_0 C_0 noI fi123 (f123.body.getD .skip) f123.results.toList [.d (.v (.int .i64 a0))] Q = ( Q [.d (.v (.bool (bif decide (a0 ≥ (-999999999999999999 : Int)) then decide (a0 ≤ (999999999999999999 : Int)) else false)))] []) := by kernel_rfl
def s68_0 (a0 : Int) : Bool := bif decide (a0 ≥ (-999999999999999999 : Int)) then decide (a0 ≤ (999999999999999999 : Int)) else false
theorem ct68 (a0 : Int) : Ct prog gl 123 [.d (.v (.int .i64 a0))] (gives [R.d (D.v (Value.bool (s68_0 a0)))]) :=
  ct_of_vc E_ok C_0_ok ioK_no it_ok mixed (fn := f123) (body := f123.body.getD .skip) (by kernel_rfl) (by kernel_rfl) (by kernel_rfl) (fi := fi123) (by kernel_rfl) (by kernel_rfl) ⟨_, _, rfl, rfl⟩ (by
    rw [vc68]
    (repeat' first | exact ⟨rfl, rfl⟩ | apply gsplit <;> intro h)
    all_goals (refine ⟨?_, rfl⟩; simp only [s68_0, *, cond_true, cond_false]))
def c_68 (a : List R) (K : List R → List (List D) → Prop) : Prop := match a with | [.d (.v (.int .i64 a0))] => K [R.d (D.v (Value.bool (s68_0 a0)))] [] | _ => False
theorem c_68_ok (a : List R) (K : List R → List (List D) → Prop) (h : c_68 a K) : Ct prog gl 123 a K := by
  unfold c_68 at h
  split at h
  · exact (ct68 _).gives h
  · exact h.elim
def C_4 : CallT := addC C_3 123 c_68
theorem C_4_ok : CallsOk prog gl C_4 := addC_ok C_3_ok c_68_ok
theorem vc72 (a0 : Bool) (Q : List R → List (List D) → Prop) : vc E_0 C_0 noI fi308 (f308.body.getD .skip) f308.results.toList [.d (.v (.bool a0))] Q = ( (a0 = true → Q [.agg [.v (.int .i64 1), .v (.int .i64 0), .v (.bool false), .v (.int .i64 1), .v (.string ⟨⟨[]⟩⟩)]] []) ∧ (a0 = false → Q [.agg [.v (.int .i64 1), .v (.int .i64 0), .v (.bool false), .v (.int .i64 0), .v (.string ⟨⟨[]⟩⟩)]] [])) := by kernel_rfl
def s72_0 (a0 : Bool) : Int := bif a0 then (1 : Int) else (0 : Int)
theorem ct72 (a0 : Bool) : Ct prog gl 308 [.d (.v (.bool a0))] (gives [R.agg
    [D.v (Value.int IntKind.i64 (1 : Int)), D.v (Value.int IntKind.i64 (0 : Int)), D.v (Value.bool false),
      D.v (Value.int IntKind.i64 (s72_0 a0)), D.v (Value.string { data := { toList := [] : Array UInt8 } : ByteArray })]]) :=
  ct_of_vc E_ok C_0_ok ioK_no it_ok mixed (fn := f308) (body := f308.body.getD .skip) (by kernel_rfl) (by kernel_rfl) (by kernel_rfl) (fi := fi308) (by kernel_rfl) (by kernel_rfl) ⟨_, _, rfl, rfl⟩ (by
    rw [vc72]
    (repeat' first | exact ⟨rfl, rfl⟩ | apply gsplit <;> intro h)
    all_goals (refine ⟨?_, rfl⟩; simp only [s72_0, *, cond_true, cond_false]))
def c_72 (a : List R) (K : List R → List (List D) → Prop) : Prop := match a with | [.d (.v (.bool a0))] => K [R.agg
    [D.v (Value.int IntKind.i64 (1 : Int)), D.v (Value.int IntKind.i64 (0 : Int)), D.v (Value.bool false),
      D.v (Value.int IntKind.i64 (s72_0 a0)), D.v (Value.string { data := { toList := [] : Array UInt8 } : ByteArray })]] [] | _ => False
theorem c_72_ok (a : List R) (K : List R → List (List D) → Prop) (h : c_72 a K) : Ct prog gl 308 a K := by
  unfold c_72 at h
  split at h
  · exact (ct72 _).gives h
  · exact h.elim
def C_5 : CallT := addC C_4 308 c_72
theorem C_5_ok : CallsOk prog gl C_5 := addC_ok C_4_ok c_72_ok
theorem vc81  (Q : List R → List (List D) → Prop) : vc E_0 C_0 noI fi13 (f13.body.getD .skip) f13.results.toList [] Q = ( Q [.agg [.v (.int .i64 2), .v (.int .i64 0)]] []) := by kernel_rfl
theorem ct81  : Ct prog gl 13 [] (gives [R.agg [D.v (Value.int IntKind.i64 (2 : Int)), D.v (Value.int IntKind.i64 (0 : Int))]]) :=
  ct_of_vc E_ok C_0_ok ioK_no it_ok mixed (fn := f13) (body := f13.body.getD .skip) (by kernel_rfl) (by kernel_rfl) (by kernel_rfl) (fi := fi13) (by kernel_rfl) (by kernel_rfl) ⟨_, _, rfl, rfl⟩ (by
    rw [vc81]
    (repeat' first | exact ⟨rfl, rfl⟩ | apply gsplit <;> intro h)
    all_goals (refine ⟨?_, rfl⟩; simp only [*, cond_true, cond_false]))
def c_81 (a : List R) (K : List R → List (List D) → Prop) : Prop := match a with | [] => K [R.agg [D.v (Value.int IntKind.i64 (2 : Int)), D.v (Value.int IntKind.i64 (0 : Int))]] [] | _ => False
theorem c_81_ok (a : List R) (K : List R → List (List D) → Prop) (h : c_81 a K) : Ct prog gl 13 a K := by
  unfold c_81 at h
  split at h
  · exact (ct81 ).gives h
  · exact h.elim
def C_6 : CallT := addC C_5 13 c_81
theorem C_6_ok : CallsOk prog gl C_6 := addC_ok C_5_ok c_81_ok
theorem vc82 (a0 : Int) (a1 : Int) (Q : List R → List (List D) → Prop) : vc E_0 C_0 noI fi15 (f15.body.getD .skip) f15.results.toList [.agg [.v (.int .i64 a0), .v (.int .i64 a1)]] Q = ( Q [.d (.v (.bool (bif a0 == (2 : Int) then true else a0 == (3 : Int))))] []) := by kernel_rfl
def s82_0 (a0 : Int) (a1 : Int) : Bool := bif a0 == (2 : Int) then true else a0 == (3 : Int)
theorem ct82 (a0 : Int) (a1 : Int) : Ct prog gl 15 [.agg [.v (.int .i64 a0), .v (.int .i64 a1)]] (gives [R.d (D.v (Value.bool (s82_0 a0 a1)))]) :=
  ct_of_vc E_ok C_0_ok ioK_no it_ok mixed (fn := f15) (body := f15.body.getD .skip) (by kernel_rfl) (by kernel_rfl) (by kernel_rfl) (fi := fi15) (by kernel_rfl) (by kernel_rfl) ⟨_, _, rfl, rfl⟩ (by
    rw [vc82]
    (repeat' first | exact ⟨rfl, rfl⟩ | apply gsplit <;> intro h)
    all_goals (refine ⟨?_, rfl⟩; simp only [s82_0, *, cond_true, cond_false]))
def c_82 (a : List R) (K : List R → List (List D) → Prop) : Prop := match a with | [.agg [.v (.int .i64 a0), .v (.int .i64 a1)]] => K [R.d (D.v (Value.bool (s82_0 a0 a1)))] [] | _ => False
theorem c_82_ok (a : List R) (K : List R → List (List D) → Prop) (h : c_82 a K) : Ct prog gl 15 a K := by
  unfold c_82 at h
  split at h
  · exact (ct82 _ _).gives h
  · exact h.elim
def C_7 : CallT := addC C_6 15 c_82
theorem C_7_ok : CallsOk prog gl C_7 := addC_ok C_6_ok c_82_ok
theorem vc83 (a0 : Int) (a1 : Int) (Q : List R → List (List D) → Prop) : vc E_0 C_0 noI fi17 (f17.body.getD .skip) f17.results.toList [.agg [.v (.int .i64 a0), .v (.int .i64 a1)]] Q = ( Q [.d (.v (.bool (bif a0 == (2 : Int) then true else a0 == (3 : Int))))] []) := by kernel_rfl
def s83_0 (a0 : Int) (a1 : Int) : Bool := bif a0 == (2 : Int) then true else a0 == (3 : Int)
theorem ct83 (a0 : Int) (a1 : Int) : Ct prog gl 17 [.agg [.v (.int .i64 a0), .v (.int .i64 a1)]] (gives [R.d (D.v (Value.bool (s83_0 a0 a1)))]) :=
  ct_of_vc E_ok C_0_ok ioK_no it_ok mixed (fn := f17) (body := f17.body.getD .skip) (by kernel_rfl) (by kernel_rfl) (by kernel_rfl) (fi := fi17) (by kernel_rfl) (by kernel_rfl) ⟨_, _, rfl, rfl⟩ (by
    rw [vc83]
    (repeat' first | exact ⟨rfl, rfl⟩ | apply gsplit <;> intro h)
    all_goals (refine ⟨?_, rfl⟩; simp only [s83_0, *, cond_true, cond_false]))
def c_83 (a : List R) (K : List R → List (List D) → Prop) : Prop := match a with | [.agg [.v (.int .i64 a0), .v (.int .i64 a1)]] => K [R.d (D.v (Value.bool (s83_0 a0 a1)))] [] | _ => False
theorem c_83_ok (a : List R) (K : List R → List (List D) → Prop) (h : c_83 a K) : Ct prog gl 17 a K := by
  unfold c_83 at h
  split at h
  · exact (ct83 _ _).gives h
  · exact h.elim
def C_8 : CallT := addC C_7 17 c_83
theorem C_8_ok : CallsOk prog gl C_8 := addC_ok C_7_ok c_83_ok
def C_9 : CallT := C_8
theorem C_9_ok : CallsOk prog gl C_9 := C_8_ok
theorem vc114 (a0 : Int) (Q : List R → List (List D) → Prop) : vc E_0 C_0 noI fi120 (f120.body.getD .skip) f120.results.toList [.d (.v (.int .i64 a0))] Q = ( Q [.d (.v (.bool (bif decide ((-999999999999999999 : Int) ≤ a0) then decide (a0 ≤ (999999999999999999 : Int)) else false)))] []) := by kernel_rfl
def s114_0 (a0 : Int) : Bool := bif decide ((-999999999999999999 : Int) ≤ a0) then decide (a0 ≤ (999999999999999999 : Int)) else false
theorem ct114 (a0 : Int) : Ct prog gl 120 [.d (.v (.int .i64 a0))] (gives [R.d (D.v (Value.bool (s114_0 a0)))]) :=
  ct_of_vc E_ok C_0_ok ioK_no it_ok mixed (fn := f120) (body := f120.body.getD .skip) (by kernel_rfl) (by kernel_rfl) (by kernel_rfl) (fi := fi120) (by kernel_rfl) (by kernel_rfl) ⟨_, _, rfl, rfl⟩ (by
    rw [vc114]
    (repeat' first | exact ⟨rfl, rfl⟩ | apply gsplit <;> intro h)
    all_goals (refine ⟨?_, rfl⟩; simp only [s114_0, *, cond_true, cond_false]))
def c_114 (a : List R) (K : List R → List (List D) → Prop) : Prop := match a with | [.d (.v (.int .i64 a0))] => K [R.d (D.v (Value.bool (s114_0 a0)))] [] | _ => False
theorem c_114_ok (a : List R) (K : List R → List (List D) → Prop) (h : c_114 a K) : Ct prog gl 120 a K := by
  unfold c_114 at h
  split at h
  · exact (ct114 _).gives h
  · exact h.elim
def C_10 : CallT := addC C_9 120 c_114
theorem C_10_ok : CallsOk prog gl C_10 := addC_ok C_9_ok c_114_ok
def C_11 : CallT := C_10
theorem C_11_ok : CallsOk prog gl C_11 := C_10_ok
def C_12 : CallT := C_11
theorem C_12_ok : CallsOk prog gl C_12 := C_11_ok
theorem vc124 (a0 : Int) (Q : List R → List (List D) → Prop) : vc E_0 C_0 noI fi71 (f71.body.getD .skip) f71.results.toList [.d (.v (.int .i64 a0))] Q = ( Q [.d (.v (.bool (bif decide (a0 ≥ (0 : Int)) then decide (a0 ≤ (18 : Int)) else false)))] []) := by kernel_rfl
def s124_0 (a0 : Int) : Bool := bif decide (a0 ≥ (0 : Int)) then decide (a0 ≤ (18 : Int)) else false
theorem ct124 (a0 : Int) : Ct prog gl 71 [.d (.v (.int .i64 a0))] (gives [R.d (D.v (Value.bool (s124_0 a0)))]) :=
  ct_of_vc E_ok C_0_ok ioK_no it_ok mixed (fn := f71) (body := f71.body.getD .skip) (by kernel_rfl) (by kernel_rfl) (by kernel_rfl) (fi := fi71) (by kernel_rfl) (by kernel_rfl) ⟨_, _, rfl, rfl⟩ (by
    rw [vc124]
    (repeat' first | exact ⟨rfl, rfl⟩ | apply gsplit <;> intro h)
    all_goals (refine ⟨?_, rfl⟩; simp only [s124_0, *, cond_true, cond_false]))
def c_124 (a : List R) (K : List R → List (List D) → Prop) : Prop := match a with | [.d (.v (.int .i64 a0))] => K [R.d (D.v (Value.bool (s124_0 a0)))] [] | _ => False
theorem c_124_ok (a : List R) (K : List R → List (List D) → Prop) (h : c_124 a K) : Ct prog gl 71 a K := by
  unfold c_124 at h
  split at h
  · exact (ct124 _).gives h
  · exact h.elim
def C_13 : CallT := addC C_12 71 c_124
theorem C_13_ok : CallsOk prog gl C_13 := addC_ok C_12_ok c_124_ok
theorem vc130 (a0 : Int) (a1 : Int) (Q : List R → List (List D) → Prop) : vc E_0 C_0 noI fi78 (f78.body.getD .skip) f78.results.toList [.agg [.v (.int .i64 a0), .v (.int .i64 a1)]] Q = ( Q [.d (.v (.bool (bif a0 == (2 : Int) then true else a0 == (3 : Int))))] []) := by kernel_rfl
def s130_0 (a0 : Int) (a1 : Int) : Bool := bif a0 == (2 : Int) then true else a0 == (3 : Int)
theorem ct130 (a0 : Int) (a1 : Int) : Ct prog gl 78 [.agg [.v (.int .i64 a0), .v (.int .i64 a1)]] (gives [R.d (D.v (Value.bool (s130_0 a0 a1)))]) :=
  ct_of_vc E_ok C_0_ok ioK_no it_ok mixed (fn := f78) (body := f78.body.getD .skip) (by kernel_rfl) (by kernel_rfl) (by kernel_rfl) (fi := fi78) (by kernel_rfl) (by kernel_rfl) ⟨_, _, rfl, rfl⟩ (by
    rw [vc130]
    (repeat' first | exact ⟨rfl, rfl⟩ | apply gsplit <;> intro h)
    all_goals (refine ⟨?_, rfl⟩; simp only [s130_0, *, cond_true, cond_false]))
def c_130 (a : List R) (K : List R → List (List D) → Prop) : Prop := match a with | [.agg [.v (.int .i64 a0), .v (.int .i64 a1)]] => K [R.d (D.v (Value.bool (s130_0 a0 a1)))] [] | _ => False
theorem c_130_ok (a : List R) (K : List R → List (List D) → Prop) (h : c_130 a K) : Ct prog gl 78 a K := by
  unfold c_130 at h
  split at h
  · exact (ct130 _ _).gives h
  · exact h.elim
def C_14 : CallT := addC C_13 78 c_130
theorem C_14_ok : CallsOk prog gl C_14 := addC_ok C_13_ok c_130_ok
def C_15 : CallT := C_14
theorem C_15_ok : CallsOk prog gl C_15 := C_14_ok
theorem vc150 (a0 : Int) (Q : List R → List (List D) → Prop) : vc E_0 C_0 noI fi84 (f84.body.getD .skip) f84.results.toList [.d (.v (.int .i64 a0))] Q = ( Q [.agg [.v (.int .i64 a0), .v (.int .i64 0)]] []) := by kernel_rfl
theorem ct150 (a0 : Int) : Ct prog gl 84 [.d (.v (.int .i64 a0))] (gives [R.agg [D.v (Value.int IntKind.i64 a0), D.v (Value.int IntKind.i64 (0 : Int))]]) :=
  ct_of_vc E_ok C_0_ok ioK_no it_ok mixed (fn := f84) (body := f84.body.getD .skip) (by kernel_rfl) (by kernel_rfl) (by kernel_rfl) (fi := fi84) (by kernel_rfl) (by kernel_rfl) ⟨_, _, rfl, rfl⟩ (by
    rw [vc150]
    (repeat' first | exact ⟨rfl, rfl⟩ | apply gsplit <;> intro h)
    all_goals (refine ⟨?_, rfl⟩; simp only [*, cond_true, cond_false]))
def c_150 (a : List R) (K : List R → List (List D) → Prop) : Prop := match a with | [.d (.v (.int .i64 a0))] => K [R.agg [D.v (Value.int IntKind.i64 a0), D.v (Value.int IntKind.i64 (0 : Int))]] [] | _ => False
theorem c_150_ok (a : List R) (K : List R → List (List D) → Prop) (h : c_150 a K) : Ct prog gl 84 a K := by
  unfold c_150 at h
  split at h
  · exact (ct150 _).gives h
  · exact h.elim
def C_16 : CallT := addC C_15 84 c_150
theorem C_16_ok : CallsOk prog gl C_16 := addC_ok C_15_ok c_150_ok
theorem vc158 (a0 : Int) (a1 : Int) (Q : List R → List (List D) → Prop) : vc E_0 C_0 noI fi309 (f309.body.getD .skip) f309.results.toList [.agg [.v (.int .i64 a0), .v (.int .i64 a1)]] Q = ( Q [.agg [.v (.int .i64 a0), .v (.int .i64 a1), .v (.bool true), .v (.int .i64 0), .v (.string ⟨⟨[]⟩⟩)]] []) := by kernel_rfl
theorem ct158 (a0 : Int) (a1 : Int) : Ct prog gl 309 [.agg [.v (.int .i64 a0), .v (.int .i64 a1)]] (gives [R.agg
    [D.v (Value.int IntKind.i64 a0), D.v (Value.int IntKind.i64 a1), D.v (Value.bool true),
      D.v (Value.int IntKind.i64 (0 : Int)), D.v (Value.string { data := { toList := [] : Array UInt8 } : ByteArray })]]) :=
  ct_of_vc E_ok C_0_ok ioK_no it_ok mixed (fn := f309) (body := f309.body.getD .skip) (by kernel_rfl) (by kernel_rfl) (by kernel_rfl) (fi := fi309) (by kernel_rfl) (by kernel_rfl) ⟨_, _, rfl, rfl⟩ (by
    rw [vc158]
    (repeat' first | exact ⟨rfl, rfl⟩ | apply gsplit <;> intro h)
    all_goals (refine ⟨?_, rfl⟩; simp only [*, cond_true, cond_false]))
def c_158 (a : List R) (K : List R → List (List D) → Prop) : Prop := match a with | [.agg [.v (.int .i64 a0), .v (.int .i64 a1)]] => K [R.agg
    [D.v (Value.int IntKind.i64 a0), D.v (Value.int IntKind.i64 a1), D.v (Value.bool true),
      D.v (Value.int IntKind.i64 (0 : Int)), D.v (Value.string { data := { toList := [] : Array UInt8 } : ByteArray })]] [] | _ => False
theorem c_158_ok (a : List R) (K : List R → List (List D) → Prop) (h : c_158 a K) : Ct prog gl 309 a K := by
  unfold c_158 at h
  split at h
  · exact (ct158 _ _).gives h
  · exact h.elim
def C_17 : CallT := addC C_16 309 c_158
theorem C_17_ok : CallsOk prog gl C_17 := addC_ok C_16_ok c_158_ok
def C_18 : CallT := C_17
theorem C_18_ok : CallsOk prog gl C_18 := C_17_ok
theorem vc167 (a0 : Int) (a1 : Int) (Q : List R → List (List D) → Prop) : vc E_0 C_0 noI fi51 (f51.body.getD .skip) f51.results.toList [.agg [.v (.int .i64 a0), .v (.int .i64 a1)]] Q = ( Q [.d (.v (.bool (bif bif bif decide (a0 < (1 : Int)) then true else decide (a0 > (5 : Int)) then true else decide (a1 < (0 : Int)) then true else bif bif decide (a1 > (0 : Int)) then a0 != (2 : Int) else false then a0 != (4 : Int) else false)))] []) := by kernel_rfl
def s167_0 (a0 : Int) (a1 : Int) : Bool := bif bif bif decide (a0 < (1 : Int)) then true else decide (a0 > (5 : Int)) then true else decide (a1 < (0 : Int)) then
  true
else bif bif decide (a1 > (0 : Int)) then a0 != (2 : Int) else false then a0 != (4 : Int) else false
theorem ct167 (a0 : Int) (a1 : Int) : Ct prog gl 51 [.agg [.v (.int .i64 a0), .v (.int .i64 a1)]] (gives [R.d (D.v (Value.bool (s167_0 a0 a1)))]) :=
  ct_of_vc E_ok C_0_ok ioK_no it_ok mixed (fn := f51) (body := f51.body.getD .skip) (by kernel_rfl) (by kernel_rfl) (by kernel_rfl) (fi := fi51) (by kernel_rfl) (by kernel_rfl) ⟨_, _, rfl, rfl⟩ (by
    rw [vc167]
    (repeat' first | exact ⟨rfl, rfl⟩ | apply gsplit <;> intro h)
    all_goals (refine ⟨?_, rfl⟩; simp only [s167_0, *, cond_true, cond_false]))
def c_167 (a : List R) (K : List R → List (List D) → Prop) : Prop := match a with | [.agg [.v (.int .i64 a0), .v (.int .i64 a1)]] => K [R.d (D.v (Value.bool (s167_0 a0 a1)))] [] | _ => False
theorem c_167_ok (a : List R) (K : List R → List (List D) → Prop) (h : c_167 a K) : Ct prog gl 51 a K := by
  unfold c_167 at h
  split at h
  · exact (ct167 _ _).gives h
  · exact h.elim
def C_19 : CallT := addC C_18 51 c_167
theorem C_19_ok : CallsOk prog gl C_19 := addC_ok C_18_ok c_167_ok
theorem vc179 (a0 : Int) (a1 : Int) (Q : List R → List (List D) → Prop) : vc E_0 C_0 noI fi69 (f69.body.getD .skip) f69.results.toList [.agg [.v (.int .i64 a0), .v (.int .i64 a1)]] Q = ( Q [.d (.v (.bool (bif a0 == (2 : Int) then true else a0 == (3 : Int))))] []) := by kernel_rfl
def s179_0 (a0 : Int) (a1 : Int) : Bool := bif a0 == (2 : Int) then true else a0 == (3 : Int)
theorem ct179 (a0 : Int) (a1 : Int) : Ct prog gl 69 [.agg [.v (.int .i64 a0), .v (.int .i64 a1)]] (gives [R.d (D.v (Value.bool (s179_0 a0 a1)))]) :=
  ct_of_vc E_ok C_0_ok ioK_no it_ok mixed (fn := f69) (body := f69.body.getD .skip) (by kernel_rfl) (by kernel_rfl) (by kernel_rfl) (fi := fi69) (by kernel_rfl) (by kernel_rfl) ⟨_, _, rfl, rfl⟩ (by
    rw [vc179]
    (repeat' first | exact ⟨rfl, rfl⟩ | apply gsplit <;> intro h)
    all_goals (refine ⟨?_, rfl⟩; simp only [s179_0, *, cond_true, cond_false]))
def c_179 (a : List R) (K : List R → List (List D) → Prop) : Prop := match a with | [.agg [.v (.int .i64 a0), .v (.int .i64 a1)]] => K [R.d (D.v (Value.bool (s179_0 a0 a1)))] [] | _ => False
theorem c_179_ok (a : List R) (K : List R → List (List D) → Prop) (h : c_179 a K) : Ct prog gl 69 a K := by
  unfold c_179 at h
  split at h
  · exact (ct179 _ _).gives h
  · exact h.elim
def C_20 : CallT := addC C_19 69 c_179
theorem C_20_ok : CallsOk prog gl C_20 := addC_ok C_19_ok c_179_ok
theorem vc188 (a0 : Int) (Q : List R → List (List D) → Prop) : vc E_0 C_0 noI fi124 (f124.body.getD .skip) f124.results.toList [.d (.v (.int .i64 a0))] Q = ( ((a0 == (3 : Int)) = true → Q [.d (.v (.int .i64 2))] []) ∧ ((a0 == (3 : Int)) = false → Q [.d (.v (.int .i64 a0))] [])) := by kernel_rfl
def s188_0 (a0 : Int) : Int := bif a0 == (3 : Int) then (2 : Int) else a0
theorem ct188 (a0 : Int) : Ct prog gl 124 [.d (.v (.int .i64 a0))] (gives [R.d (D.v (Value.int IntKind.i64 (s188_0 a0)))]) :=
  ct_of_vc E_ok C_0_ok ioK_no it_ok mixed (fn := f124) (body := f124.body.getD .skip) (by kernel_rfl) (by kernel_rfl) (by kernel_rfl) (fi := fi124) (by kernel_rfl) (by kernel_rfl) ⟨_, _, rfl, rfl⟩ (by
    rw [vc188]
    (repeat' first | exact ⟨rfl, rfl⟩ | apply gsplit <;> intro h)
    all_goals (refine ⟨?_, rfl⟩; simp only [s188_0, *, cond_true, cond_false]))
def c_188 (a : List R) (K : List R → List (List D) → Prop) : Prop := match a with | [.d (.v (.int .i64 a0))] => K [R.d (D.v (Value.int IntKind.i64 (s188_0 a0)))] [] | _ => False
theorem c_188_ok (a : List R) (K : List R → List (List D) → Prop) (h : c_188 a K) : Ct prog gl 124 a K := by
  unfold c_188 at h
  split at h
  · exact (ct188 _).gives h
  · exact h.elim
def C_21 : CallT := addC C_20 124 c_188
theorem C_21_ok : CallsOk prog gl C_21 := addC_ok C_20_ok c_188_ok
def C_22 : CallT := C_21
theorem C_22_ok : CallsOk prog gl C_22 := C_21_ok
def C_23 : CallT := C_22
theorem C_23_ok : CallsOk prog gl C_23 := C_22_ok
def C_24 : CallT := C_23
theorem C_24_ok : CallsOk prog gl C_24 := C_23_ok
def C_25 : CallT := C_24
theorem C_25_ok : CallsOk prog gl C_25 := C_24_ok
def C_26 : CallT := C_25
theorem C_26_ok : CallsOk prog gl C_26 := C_25_ok
def C_27 : CallT := C_26
theorem C_27_ok : CallsOk prog gl C_27 := C_26_ok
def C_28 : CallT := C_27
theorem C_28_ok : CallsOk prog gl C_28 := C_27_ok
def C_29 : CallT := C_28
theorem C_29_ok : CallsOk prog gl C_29 := C_28_ok
theorem vc209 (a0 : Int) (Q : List R → List (List D) → Prop) : vc E_0 C_0 noI fi122 (f122.body.getD .skip) f122.results.toList [.d (.v (.int .i64 a0))] Q = ( ((a0 == (3 : Int)) = true → Q [.d (.v (.int .i64 2))] []) ∧ ((a0 == (3 : Int)) = false → Q [.d (.v (.int .i64 a0))] [])) := by kernel_rfl
def s209_0 (a0 : Int) : Int := bif a0 == (3 : Int) then (2 : Int) else a0
theorem ct209 (a0 : Int) : Ct prog gl 122 [.d (.v (.int .i64 a0))] (gives [R.d (D.v (Value.int IntKind.i64 (s209_0 a0)))]) :=
  ct_of_vc E_ok C_0_ok ioK_no it_ok mixed (fn := f122) (body := f122.body.getD .skip) (by kernel_rfl) (by kernel_rfl) (by kernel_rfl) (fi := fi122) (by kernel_rfl) (by kernel_rfl) ⟨_, _, rfl, rfl⟩ (by
    rw [vc209]
    (repeat' first | exact ⟨rfl, rfl⟩ | apply gsplit <;> intro h)
    all_goals (refine ⟨?_, rfl⟩; simp only [s209_0, *, cond_true, cond_false]))
def c_209 (a : List R) (K : List R → List (List D) → Prop) : Prop := match a with | [.d (.v (.int .i64 a0))] => K [R.d (D.v (Value.int IntKind.i64 (s209_0 a0)))] [] | _ => False
theorem c_209_ok (a : List R) (K : List R → List (List D) → Prop) (h : c_209 a K) : Ct prog gl 122 a K := by
  unfold c_209 at h
  split at h
  · exact (ct209 _).gives h
  · exact h.elim
def C_30 : CallT := addC C_29 122 c_209
theorem C_30_ok : CallsOk prog gl C_30 := addC_ok C_29_ok c_209_ok
def C_31 : CallT := C_30
theorem C_31_ok : CallsOk prog gl C_31 := C_30_ok
def C_32 : CallT := C_31
theorem C_32_ok : CallsOk prog gl C_32 := C_31_ok
def C_33 : CallT := C_32
theorem C_33_ok : CallsOk prog gl C_33 := C_32_ok
theorem vc276 (a0 : Int) (Q : List R → List (List D) → Prop) : vc E_0 C_0 noI fi206 (f206.body.getD .skip) f206.results.toList [.d (.v (.int .i64 a0))] Q = ( Q [.d (.v (.bool (bif decide (a0 ≥ (0 : Int)) then decide (a0 ≤ (18 : Int)) else false)))] []) := by kernel_rfl
def s276_0 (a0 : Int) : Bool := bif decide (a0 ≥ (0 : Int)) then decide (a0 ≤ (18 : Int)) else false
theorem ct276 (a0 : Int) : Ct prog gl 206 [.d (.v (.int .i64 a0))] (gives [R.d (D.v (Value.bool (s276_0 a0)))]) :=
  ct_of_vc E_ok C_0_ok ioK_no it_ok mixed (fn := f206) (body := f206.body.getD .skip) (by kernel_rfl) (by kernel_rfl) (by kernel_rfl) (fi := fi206) (by kernel_rfl) (by kernel_rfl) ⟨_, _, rfl, rfl⟩ (by
    rw [vc276]
    (repeat' first | exact ⟨rfl, rfl⟩ | apply gsplit <;> intro h)
    all_goals (refine ⟨?_, rfl⟩; simp only [s276_0, *, cond_true, cond_false]))
def c_276 (a : List R) (K : List R → List (List D) → Prop) : Prop := match a with | [.d (.v (.int .i64 a0))] => K [R.d (D.v (Value.bool (s276_0 a0)))] [] | _ => False
theorem c_276_ok (a : List R) (K : List R → List (List D) → Prop) (h : c_276 a K) : Ct prog gl 206 a K := by
  unfold c_276 at h
  split at h
  · exact (ct276 _).gives h
  · exact h.elim
def C_34 : CallT := addC C_33 206 c_276
theorem C_34_ok : CallsOk prog gl C_34 := addC_ok C_33_ok c_276_ok
def C_35 : CallT := C_34
theorem C_35_ok : CallsOk prog gl C_35 := C_34_ok
def C_36 : CallT := C_35
theorem C_36_ok : CallsOk prog gl C_36 := C_35_ok
def C_37 : CallT := C_36
theorem C_37_ok : CallsOk prog gl C_37 := C_36_ok
def C_38 : CallT := C_37
theorem C_38_ok : CallsOk prog gl C_38 := C_37_ok
theorem vc354 (a0 : Int) (a1 : Bool) (Q : List R → List (List D) → Prop) : vc E_0 C_0 noI fi231 (f231.body.getD .skip) f231.results.toList [.d (.v (.int .u64 a0)), .d (.v (.bool a1))] Q = ( ((bif a1 then decide (a0 ≤ (9223372036854775808 : Int)) else false) = true → Q [.d (.v (.int .i64 (IntKind.i64.wrap (IntKind.u64.wrap ((0 : Int) - a0))))), .d (.v (.int .i64 0))] []) ∧ ((bif a1 then decide (a0 ≤ (9223372036854775808 : Int)) else false) = false → (decide (a0 > (9223372036854775807 : Int)) = true → Q [.d (.v (.int .i64 0)), .d (.v (.int .i64 10))] []) ∧ (decide (a0 > (9223372036854775807 : Int)) = false → Q [.d (.v (.int .i64 (IntKind.i64.wrap a0))), .d (.v (.int .i64 0))] []))) := by kernel_rfl
def s354_0 (a0 : Int) (a1 : Bool) : Int := bif bif a1 then decide (a0 ≤ (9223372036854775808 : Int)) else false then
  IntKind.i64.wrap (IntKind.u64.wrap ((0 : Int) - a0))
else bif decide (a0 > (9223372036854775807 : Int)) then (0 : Int) else IntKind.i64.wrap a0
def s354_1 (a0 : Int) (a1 : Bool) : Int := bif bif a1 then decide (a0 ≤ (9223372036854775808 : Int)) else false then (0 : Int)
else bif decide (a0 > (9223372036854775807 : Int)) then (10 : Int) else (0 : Int)
theorem ct354 (a0 : Int) (a1 : Bool) : Ct prog gl 231 [.d (.v (.int .u64 a0)), .d (.v (.bool a1))] (gives [R.d (D.v (Value.int IntKind.i64 (s354_0 a0 a1))), R.d (D.v (Value.int IntKind.i64 (s354_1 a0 a1)))]) :=
  ct_of_vc E_ok C_0_ok ioK_no it_ok mixed (fn := f231) (body := f231.body.getD .skip) (by kernel_rfl) (by kernel_rfl) (by kernel_rfl) (fi := fi231) (by kernel_rfl) (by kernel_rfl) ⟨_, _, rfl, rfl⟩ (by
    rw [vc354]
    (repeat' first | exact ⟨rfl, rfl⟩ | apply gsplit <;> intro h)
    all_goals (refine ⟨?_, rfl⟩; simp only [s354_0, s354_1, *, cond_true, cond_false]))
def c_354 (a : List R) (K : List R → List (List D) → Prop) : Prop := match a with | [.d (.v (.int .u64 a0)), .d (.v (.bool a1))] => K [R.d (D.v (Value.int IntKind.i64 (s354_0 a0 a1))), R.d (D.v (Value.int IntKind.i64 (s354_1 a0 a1)))] [] | _ => False
theorem c_354_ok (a : List R) (K : List R → List (List D) → Prop) (h : c_354 a K) : Ct prog gl 231 a K := by
  unfold c_354 at h
  split at h
  · exact (ct354 _ _).gives h
  · exact h.elim
def C_39 : CallT := addC C_38 231 c_354
theorem C_39_ok : CallsOk prog gl C_39 := addC_ok C_38_ok c_354_ok
def C_40 : CallT := C_39
theorem C_40_ok : CallsOk prog gl C_40 := C_39_ok
theorem vc385 (a0 : Bool) (Q : List R → List (List D) → Prop) : vc E_0 C_0 noI fi252 (f252.body.getD .skip) f252.results.toList [.d (.v (.bool a0))] Q = ( (a0 = true → Q [.d (.v (.int .i64 1))] []) ∧ (a0 = false → Q [.d (.v (.int .i64 0))] [])) := by kernel_rfl
def s385_0 (a0 : Bool) : Int := bif a0 then (1 : Int) else (0 : Int)
theorem ct385 (a0 : Bool) : Ct prog gl 252 [.d (.v (.bool a0))] (gives [R.d (D.v (Value.int IntKind.i64 (s385_0 a0)))]) :=
  ct_of_vc E_ok C_0_ok ioK_no it_ok mixed (fn := f252) (body := f252.body.getD .skip) (by kernel_rfl) (by kernel_rfl) (by kernel_rfl) (fi := fi252) (by kernel_rfl) (by kernel_rfl) ⟨_, _, rfl, rfl⟩ (by
    rw [vc385]
    (repeat' first | exact ⟨rfl, rfl⟩ | apply gsplit <;> intro h)
    all_goals (refine ⟨?_, rfl⟩; simp only [s385_0, *, cond_true, cond_false]))
def c_385 (a : List R) (K : List R → List (List D) → Prop) : Prop := match a with | [.d (.v (.bool a0))] => K [R.d (D.v (Value.int IntKind.i64 (s385_0 a0)))] [] | _ => False
theorem c_385_ok (a : List R) (K : List R → List (List D) → Prop) (h : c_385 a K) : Ct prog gl 252 a K := by
  unfold c_385 at h
  split at h
  · exact (ct385 _).gives h
  · exact h.elim
def C_41 : CallT := addC C_40 252 c_385
theorem C_41_ok : CallsOk prog gl C_41 := addC_ok C_40_ok c_385_ok
theorem vc386 (a0 : Int) (Q : List R → List (List D) → Prop) : vc E_0 C_0 noI fi253 (f253.body.getD .skip) f253.results.toList [.d (.v (.int .i64 a0))] Q = ( Q [.d (.v (.bool (aInt.bits BinOp.and IntKind.i64 a0 (IntKind.i64.wrap (a0 - (1 : Int))) == (0 : Int))))] []) := by kernel_rfl
def s386_0 (a0 : Int) : Bool := aInt.bits BinOp.and IntKind.i64 a0 (IntKind.i64.wrap (a0 - (1 : Int))) == (0 : Int)
theorem ct386 (a0 : Int) : Ct prog gl 253 [.d (.v (.int .i64 a0))] (gives [R.d (D.v (Value.bool (s386_0 a0)))]) :=
  ct_of_vc E_ok C_0_ok ioK_no it_ok mixed (fn := f253) (body := f253.body.getD .skip) (by kernel_rfl) (by kernel_rfl) (by kernel_rfl) (fi := fi253) (by kernel_rfl) (by kernel_rfl) ⟨_, _, rfl, rfl⟩ (by
    rw [vc386]
    (repeat' first | exact ⟨rfl, rfl⟩ | apply gsplit <;> intro h)
    all_goals (refine ⟨?_, rfl⟩; simp only [s386_0, *, cond_true, cond_false]))
def c_386 (a : List R) (K : List R → List (List D) → Prop) : Prop := match a with | [.d (.v (.int .i64 a0))] => K [R.d (D.v (Value.bool (s386_0 a0)))] [] | _ => False
theorem c_386_ok (a : List R) (K : List R → List (List D) → Prop) (h : c_386 a K) : Ct prog gl 253 a K := by
  unfold c_386 at h
  split at h
  · exact (ct386 _).gives h
  · exact h.elim
def C_42 : CallT := addC C_41 253 c_386
theorem C_42_ok : CallsOk prog gl C_42 := addC_ok C_41_ok c_386_ok
theorem vc401 (a0 : Int) (Q : List R → List (List D) → Prop) : vc E_0 C_0 noI fi220 (f220.body.getD .skip) f220.results.toList [.d (.v (.int .u8 a0))] Q = ( Q [.d (.v (.bool (bif bif bif a0 == (9 : Int) then true else a0 == (10 : Int) then true else a0 == (13 : Int) then true else a0 == (32 : Int))))] []) := by kernel_rfl
def s401_0 (a0 : Int) : Bool := bif bif bif a0 == (9 : Int) then true else a0 == (10 : Int) then true else a0 == (13 : Int) then true
else a0 == (32 : Int)
theorem ct401 (a0 : Int) : Ct prog gl 220 [.d (.v (.int .u8 a0))] (gives [R.d (D.v (Value.bool (s401_0 a0)))]) :=
  ct_of_vc E_ok C_0_ok ioK_no it_ok mixed (fn := f220) (body := f220.body.getD .skip) (by kernel_rfl) (by kernel_rfl) (by kernel_rfl) (fi := fi220) (by kernel_rfl) (by kernel_rfl) ⟨_, _, rfl, rfl⟩ (by
    rw [vc401]
    (repeat' first | exact ⟨rfl, rfl⟩ | apply gsplit <;> intro h)
    all_goals (refine ⟨?_, rfl⟩; simp only [s401_0, *, cond_true, cond_false]))
def c_401 (a : List R) (K : List R → List (List D) → Prop) : Prop := match a with | [.d (.v (.int .u8 a0))] => K [R.d (D.v (Value.bool (s401_0 a0)))] [] | _ => False
theorem c_401_ok (a : List R) (K : List R → List (List D) → Prop) (h : c_401 a K) : Ct prog gl 220 a K := by
  unfold c_401 at h
  split at h
  · exact (ct401 _).gives h
  · exact h.elim
def C_43 : CallT := addC C_42 220 c_401
theorem C_43_ok : CallsOk prog gl C_43 := addC_ok C_42_ok c_401_ok
theorem vc403 (a0 : Int) (Q : List R → List (List D) → Prop) : vc E_0 C_0 noI fi222 (f222.body.getD .skip) f222.results.toList [.d (.v (.int .u8 a0))] Q = ( Q [.d (.v (.bool (bif bif bif decide (a0 ≥ (97 : Int)) then decide (a0 ≤ (122 : Int)) else false then true else bif decide (a0 ≥ (65 : Int)) then decide (a0 ≤ (90 : Int)) else false then true else a0 == (95 : Int))))] []) := by kernel_rfl
def s403_0 (a0 : Int) : Bool := bif
    bif bif decide (a0 ≥ (97 : Int)) then decide (a0 ≤ (122 : Int)) else false then true
    else bif decide (a0 ≥ (65 : Int)) then decide (a0 ≤ (90 : Int)) else false then
  true
else a0 == (95 : Int)
theorem ct403 (a0 : Int) : Ct prog gl 222 [.d (.v (.int .u8 a0))] (gives [R.d (D.v (Value.bool (s403_0 a0)))]) :=
  ct_of_vc E_ok C_0_ok ioK_no it_ok mixed (fn := f222) (body := f222.body.getD .skip) (by kernel_rfl) (by kernel_rfl) (by kernel_rfl) (fi := fi222) (by kernel_rfl) (by kernel_rfl) ⟨_, _, rfl, rfl⟩ (by
    rw [vc403]
    (repeat' first | exact ⟨rfl, rfl⟩ | apply gsplit <;> intro h)
    all_goals (refine ⟨?_, rfl⟩; simp only [s403_0, *, cond_true, cond_false]))
def c_403 (a : List R) (K : List R → List (List D) → Prop) : Prop := match a with | [.d (.v (.int .u8 a0))] => K [R.d (D.v (Value.bool (s403_0 a0)))] [] | _ => False
theorem c_403_ok (a : List R) (K : List R → List (List D) → Prop) (h : c_403 a K) : Ct prog gl 222 a K := by
  unfold c_403 at h
  split at h
  · exact (ct403 _).gives h
  · exact h.elim
def C_44 : CallT := addC C_43 222 c_403
theorem C_44_ok : CallsOk prog gl C_44 := addC_ok C_43_ok c_403_ok
theorem vc405 (a0 : Int) (Q : List R → List (List D) → Prop) : vc E_0 C_0 noI fi224 (f224.body.getD .skip) f224.results.toList [.d (.v (.int .u8 a0))] Q = ( Q [.d (.v (.bool (bif decide (a0 ≥ (48 : Int)) then decide (a0 ≤ (57 : Int)) else false)))] []) := by kernel_rfl
def s405_0 (a0 : Int) : Bool := bif decide (a0 ≥ (48 : Int)) then decide (a0 ≤ (57 : Int)) else false
theorem ct405 (a0 : Int) : Ct prog gl 224 [.d (.v (.int .u8 a0))] (gives [R.d (D.v (Value.bool (s405_0 a0)))]) :=
  ct_of_vc E_ok C_0_ok ioK_no it_ok mixed (fn := f224) (body := f224.body.getD .skip) (by kernel_rfl) (by kernel_rfl) (by kernel_rfl) (fi := fi224) (by kernel_rfl) (by kernel_rfl) ⟨_, _, rfl, rfl⟩ (by
    rw [vc405]
    (repeat' first | exact ⟨rfl, rfl⟩ | apply gsplit <;> intro h)
    all_goals (refine ⟨?_, rfl⟩; simp only [s405_0, *, cond_true, cond_false]))
def c_405 (a : List R) (K : List R → List (List D) → Prop) : Prop := match a with | [.d (.v (.int .u8 a0))] => K [R.d (D.v (Value.bool (s405_0 a0)))] [] | _ => False
theorem c_405_ok (a : List R) (K : List R → List (List D) → Prop) (h : c_405 a K) : Ct prog gl 224 a K := by
  unfold c_405 at h
  split at h
  · exact (ct405 _).gives h
  · exact h.elim
def C_45 : CallT := addC C_44 224 c_405
theorem C_45_ok : CallsOk prog gl C_45 := addC_ok C_44_ok c_405_ok
def C_46 : CallT := C_45
theorem C_46_ok : CallsOk prog gl C_46 := C_45_ok
theorem vc445 (a0 : Int) (Q : List R → List (List D) → Prop) : vc E_0 C_0 noI fi285 (f285.body.getD .skip) f285.results.toList [.d (.v (.int .i64 a0))] Q = ( Q [.d (.v (.bool (a0 != a0)))] []) := by kernel_rfl
def s445_0 (a0 : Int) : Bool := a0 != a0
theorem ct445 (a0 : Int) : Ct prog gl 285 [.d (.v (.int .i64 a0))] (gives [R.d (D.v (Value.bool (s445_0 a0)))]) :=
  ct_of_vc E_ok C_0_ok ioK_no it_ok mixed (fn := f285) (body := f285.body.getD .skip) (by kernel_rfl) (by kernel_rfl) (by kernel_rfl) (fi := fi285) (by kernel_rfl) (by kernel_rfl) ⟨_, _, rfl, rfl⟩ (by
    rw [vc445]
    (repeat' first | exact ⟨rfl, rfl⟩ | apply gsplit <;> intro h)
    all_goals (refine ⟨?_, rfl⟩; simp only [s445_0, *, cond_true, cond_false]))
def c_445 (a : List R) (K : List R → List (List D) → Prop) : Prop := match a with | [.d (.v (.int .i64 a0))] => K [R.d (D.v (Value.bool (s445_0 a0)))] [] | _ => False
theorem c_445_ok (a : List R) (K : List R → List (List D) → Prop) (h : c_445 a K) : Ct prog gl 285 a K := by
  unfold c_445 at h
  split at h
  · exact (ct445 _).gives h
  · exact h.elim
def C_47 : CallT := addC C_46 285 c_445
theorem C_47_ok : CallsOk prog gl C_47 := addC_ok C_46_ok c_445_ok
def C_48 : CallT := C_47
theorem C_48_ok : CallsOk prog gl C_48 := C_47_ok
def C_49 : CallT := C_48
theorem C_49_ok : CallsOk prog gl C_49 := C_48_ok
def C_50 : CallT := C_49
theorem C_50_ok : CallsOk prog gl C_50 := C_49_ok
theorem vc481 (a0 : Int) (a1 : Int) (Q : List R → List (List D) → Prop) : vc E_0 C_0 noI fi305 (f305.body.getD .skip) f305.results.toList [.d (.v (.int .i64 a0)), .d (.v (.int .i64 a1))] Q = ( Q [.agg [.v (.int .i64 3), .v (.int .i64 a1), .v (.bool false), .v (.int .i64 a0), .v (.string ⟨⟨[]⟩⟩)]] []) := by kernel_rfl
theorem ct481 (a0 : Int) (a1 : Int) : Ct prog gl 305 [.d (.v (.int .i64 a0)), .d (.v (.int .i64 a1))] (gives [R.agg
    [D.v (Value.int IntKind.i64 (3 : Int)), D.v (Value.int IntKind.i64 a1), D.v (Value.bool false),
      D.v (Value.int IntKind.i64 a0), D.v (Value.string { data := { toList := [] : Array UInt8 } : ByteArray })]]) :=
  ct_of_vc E_ok C_0_ok ioK_no it_ok mixed (fn := f305) (body := f305.body.getD .skip) (by kernel_rfl) (by kernel_rfl) (by kernel_rfl) (fi := fi305) (by kernel_rfl) (by kernel_rfl) ⟨_, _, rfl, rfl⟩ (by
    rw [vc481]
    (repeat' first | exact ⟨rfl, rfl⟩ | apply gsplit <;> intro h)
    all_goals (refine ⟨?_, rfl⟩; simp only [*, cond_true, cond_false]))
def c_481 (a : List R) (K : List R → List (List D) → Prop) : Prop := match a with | [.d (.v (.int .i64 a0)), .d (.v (.int .i64 a1))] => K [R.agg
    [D.v (Value.int IntKind.i64 (3 : Int)), D.v (Value.int IntKind.i64 a1), D.v (Value.bool false),
      D.v (Value.int IntKind.i64 a0), D.v (Value.string { data := { toList := [] : Array UInt8 } : ByteArray })]] [] | _ => False
theorem c_481_ok (a : List R) (K : List R → List (List D) → Prop) (h : c_481 a K) : Ct prog gl 305 a K := by
  unfold c_481 at h
  split at h
  · exact (ct481 _ _).gives h
  · exact h.elim
def C_51 : CallT := addC C_50 305 c_481
theorem C_51_ok : CallsOk prog gl C_51 := addC_ok C_50_ok c_481_ok
theorem vc487 (a0 : Int) (Q : List R → List (List D) → Prop) : vc E_0 C_0 noI fi314 (f314.body.getD .skip) f314.results.toList [.d (.v (.int .i64 a0))] Q = ( Q [.agg [.v (.int .i64 5), .v (.int .i64 0), .v (.bool false), .v (.int .i64 a0), .v (.string ⟨⟨[]⟩⟩)]] []) := by kernel_rfl
theorem ct487 (a0 : Int) : Ct prog gl 314 [.d (.v (.int .i64 a0))] (gives [R.agg
    [D.v (Value.int IntKind.i64 (5 : Int)), D.v (Value.int IntKind.i64 (0 : Int)), D.v (Value.bool false),
      D.v (Value.int IntKind.i64 a0), D.v (Value.string { data := { toList := [] : Array UInt8 } : ByteArray })]]) :=
  ct_of_vc E_ok C_0_ok ioK_no it_ok mixed (fn := f314) (body := f314.body.getD .skip) (by kernel_rfl) (by kernel_rfl) (by kernel_rfl) (fi := fi314) (by kernel_rfl) (by kernel_rfl) ⟨_, _, rfl, rfl⟩ (by
    rw [vc487]
    (repeat' first | exact ⟨rfl, rfl⟩ | apply gsplit <;> intro h)
    all_goals (refine ⟨?_, rfl⟩; simp only [*, cond_true, cond_false]))
def c_487 (a : List R) (K : List R → List (List D) → Prop) : Prop := match a with | [.d (.v (.int .i64 a0))] => K [R.agg
    [D.v (Value.int IntKind.i64 (5 : Int)), D.v (Value.int IntKind.i64 (0 : Int)), D.v (Value.bool false),
      D.v (Value.int IntKind.i64 a0), D.v (Value.string { data := { toList := [] : Array UInt8 } : ByteArray })]] [] | _ => False
theorem c_487_ok (a : List R) (K : List R → List (List D) → Prop) (h : c_487 a K) : Ct prog gl 314 a K := by
  unfold c_487 at h
  split at h
  · exact (ct487 _).gives h
  · exact h.elim
def C_52 : CallT := addC C_51 314 c_487
theorem C_52_ok : CallsOk prog gl C_52 := addC_ok C_51_ok c_487_ok
theorem vc60 (a0 : Int) (a1 : Int) (Q : List R → List (List D) → Prop) : vc E_0 C_52 noI fi40 (f40.body.getD .skip) f40.results.toList [.agg [.v (.int .i64 a0), .v (.int .i64 a1)]] Q = ( ((bif bif bif decide (a0 < (1 : Int)) then true else decide (a0 > (5 : Int)) then true else !s124_0 a1 then true else bif a1 != (0 : Int) then a0 != (3 : Int) else false) = true → Q [.d (.v (.int .i64 21))] []) ∧ ((bif bif bif decide (a0 < (1 : Int)) then true else decide (a0 > (5 : Int)) then true else !s124_0 a1 then true else bif a1 != (0 : Int) then a0 != (3 : Int) else false) = false → Q [.d (.v (.int .i64 0))] [])) := by kernel_rfl
def s60_0 (a0 : Int) (a1 : Int) : Int := bif
    bif bif bif decide (a0 < (1 : Int)) then true else decide (a0 > (5 : Int)) then true else !s124_0 a1 then true
    else bif a1 != (0 : Int) then a0 != (3 : Int) else false then
  (21 : Int)
else (0 : Int)
theorem ct60 (a0 : Int) (a1 : Int) : Ct prog gl 40 [.agg [.v (.int .i64 a0), .v (.int .i64 a1)]] (gives [R.d (D.v (Value.int IntKind.i64 (s60_0 a0 a1)))]) :=
  ct_of_vc E_ok C_52_ok ioK_no it_ok mixed (fn := f40) (body := f40.body.getD .skip) (by kernel_rfl) (by kernel_rfl) (by kernel_rfl) (fi := fi40) (by kernel_rfl) (by kernel_rfl) ⟨_, _, rfl, rfl⟩ (by
    rw [vc60]
    (repeat' first | exact ⟨rfl, rfl⟩ | apply gsplit <;> intro h)
    all_goals (refine ⟨?_, rfl⟩; simp only [s60_0, *, cond_true, cond_false]))
def c_60 (a : List R) (K : List R → List (List D) → Prop) : Prop := match a with | [.agg [.v (.int .i64 a0), .v (.int .i64 a1)]] => K [R.d (D.v (Value.int IntKind.i64 (s60_0 a0 a1)))] [] | _ => False
theorem c_60_ok (a : List R) (K : List R → List (List D) → Prop) (h : c_60 a K) : Ct prog gl 40 a K := by
  unfold c_60 at h
  split at h
  · exact (ct60 _ _).gives h
  · exact h.elim
def C_53 : CallT := addC C_52 40 c_60
theorem C_53_ok : CallsOk prog gl C_53 := addC_ok C_52_ok c_60_ok
theorem vc111 (a0 : Int) (a1 : Int) (a2 : Int) (a3 : Int) (Q : List R → List (List D) → Prop) : vc E_0 C_52 noI fi85 (f85.body.getD .skip) f85.results.toList [.agg [.v (.int .i64 a0), .v (.int .i64 a1)], .agg [.v (.int .i64 a2), .v (.int .i64 a3)]] Q = ( Q [.d (.v (.bool (bif bif s188_0 a0 == s188_0 a2 then decide (a0 ≥ (1 : Int)) else false then decide (a0 ≤ (5 : Int)) else false)))] []) := by kernel_rfl
def s111_0 (a0 : Int) (a1 : Int) (a2 : Int) (a3 : Int) : Bool := bif bif s188_0 a0 == s188_0 a2 then decide (a0 ≥ (1 : Int)) else false then decide (a0 ≤ (5 : Int)) else false
theorem ct111 (a0 : Int) (a1 : Int) (a2 : Int) (a3 : Int) : Ct prog gl 85 [.agg [.v (.int .i64 a0), .v (.int .i64 a1)], .agg [.v (.int .i64 a2), .v (.int .i64 a3)]] (gives [R.d (D.v (Value.bool (s111_0 a0 a1 a2 a3)))]) :=
  ct_of_vc E_ok C_52_ok ioK_no it_ok mixed (fn := f85) (body := f85.body.getD .skip) (by kernel_rfl) (by kernel_rfl) (by kernel_rfl) (fi := fi85) (by kernel_rfl) (by kernel_rfl) ⟨_, _, rfl, rfl⟩ (by
    rw [vc111]
    (repeat' first | exact ⟨rfl, rfl⟩ | apply gsplit <;> intro h)
    all_goals (refine ⟨?_, rfl⟩; simp only [s111_0, *, cond_true, cond_false]))
def c_111 (a : List R) (K : List R → List (List D) → Prop) : Prop := match a with | [.agg [.v (.int .i64 a0), .v (.int .i64 a1)], .agg [.v (.int .i64 a2), .v (.int .i64 a3)]] => K [R.d (D.v (Value.bool (s111_0 a0 a1 a2 a3)))] [] | _ => False
theorem c_111_ok (a : List R) (K : List R → List (List D) → Prop) (h : c_111 a K) : Ct prog gl 85 a K := by
  unfold c_111 at h
  split at h
  · exact (ct111 _ _ _ _).gives h
  · exact h.elim
def C_54 : CallT := addC C_53 85 c_111
theorem C_54_ok : CallsOk prog gl C_54 := addC_ok C_53_ok c_111_ok
theorem vc129 (a0 : Int) (a1 : Int) (a2 : Int) (a3 : Int) (Q : List R → List (List D) → Prop) : vc E_0 C_52 noI fi77 (f77.body.getD .skip) f77.results.toList [.agg [.v (.int .i64 a0), .v (.int .i64 a1)], .agg [.v (.int .i64 a2), .v (.int .i64 a3)]] Q = ( Q [.d (.v (.bool (bif bif decide (a0 ≥ (1 : Int)) then decide (a0 ≤ (5 : Int)) else false then s209_0 a0 == s209_0 a2 else false)))] []) := by kernel_rfl
def s129_0 (a0 : Int) (a1 : Int) (a2 : Int) (a3 : Int) : Bool := bif bif decide (a0 ≥ (1 : Int)) then decide (a0 ≤ (5 : Int)) else false then s209_0 a0 == s209_0 a2 else false
theorem ct129 (a0 : Int) (a1 : Int) (a2 : Int) (a3 : Int) : Ct prog gl 77 [.agg [.v (.int .i64 a0), .v (.int .i64 a1)], .agg [.v (.int .i64 a2), .v (.int .i64 a3)]] (gives [R.d (D.v (Value.bool (s129_0 a0 a1 a2 a3)))]) :=
  ct_of_vc E_ok C_52_ok ioK_no it_ok mixed (fn := f77) (body := f77.body.getD .skip) (by kernel_rfl) (by kernel_rfl) (by kernel_rfl) (fi := fi77) (by kernel_rfl) (by kernel_rfl) ⟨_, _, rfl, rfl⟩ (by
    rw [vc129]
    (repeat' first | exact ⟨rfl, rfl⟩ | apply gsplit <;> intro h)
    all_goals (refine ⟨?_, rfl⟩; simp only [s129_0, *, cond_true, cond_false]))
def c_129 (a : List R) (K : List R → List (List D) → Prop) : Prop := match a with | [.agg [.v (.int .i64 a0), .v (.int .i64 a1)], .agg [.v (.int .i64 a2), .v (.int .i64 a3)]] => K [R.d (D.v (Value.bool (s129_0 a0 a1 a2 a3)))] [] | _ => False
theorem c_129_ok (a : List R) (K : List R → List (List D) → Prop) (h : c_129 a K) : Ct prog gl 77 a K := by
  unfold c_129 at h
  split at h
  · exact (ct129 _ _ _ _).gives h
  · exact h.elim
def C_55 : CallT := addC C_54 77 c_129
theorem C_55_ok : CallsOk prog gl C_55 := addC_ok C_54_ok c_129_ok
theorem vc153 (a0 : Int) (a1 : Int) (a2 : Int) (Q : List R → List (List D) → Prop) : vc E_0 C_52 noI fi88 (f88.body.getD .skip) f88.results.toList [.agg [.v (.int .i64 a0), .v (.int .i64 a1)], .d (.v (.int .i64 a2))] Q = ( Q [.d (.v (.bool (bif bif bif a0 == a2 then true else a0 == (4 : Int) then true else a2 == (4 : Int) then true else bif s179_0 a0 a1 then bif a2 == (2 : Int) then true else a2 == (3 : Int) else false)))] []) := by kernel_rfl
def s153_0 (a0 : Int) (a1 : Int) (a2 : Int) : Bool := bif bif bif a0 == a2 then true else a0 == (4 : Int) then true else a2 == (4 : Int) then true
else bif s179_0 a0 a1 then bif a2 == (2 : Int) then true else a2 == (3 : Int) else false
theorem ct153 (a0 : Int) (a1 : Int) (a2 : Int) : Ct prog gl 88 [.agg [.v (.int .i64 a0), .v (.int .i64 a1)], .d (.v (.int .i64 a2))] (gives [R.d (D.v (Value.bool (s153_0 a0 a1 a2)))]) :=
  ct_of_vc E_ok C_52_ok ioK_no it_ok mixed (fn := f88) (body := f88.body.getD .skip) (by kernel_rfl) (by kernel_rfl) (by kernel_rfl) (fi := fi88) (by kernel_rfl) (by kernel_rfl) ⟨_, _, rfl, rfl⟩ (by
    rw [vc153]
    (repeat' first | exact ⟨rfl, rfl⟩ | apply gsplit <;> intro h)
    all_goals (refine ⟨?_, rfl⟩; simp only [s153_0, *, cond_true, cond_false]))
def c_153 (a : List R) (K : List R → List (List D) → Prop) : Prop := match a with | [.agg [.v (.int .i64 a0), .v (.int .i64 a1)], .d (.v (.int .i64 a2))] => K [R.d (D.v (Value.bool (s153_0 a0 a1 a2)))] [] | _ => False
theorem c_153_ok (a : List R) (K : List R → List (List D) → Prop) (h : c_153 a K) : Ct prog gl 88 a K := by
  unfold c_153 at h
  split at h
  · exact (ct153 _ _ _).gives h
  · exact h.elim
def C_56 : CallT := addC C_55 88 c_153
theorem C_56_ok : CallsOk prog gl C_56 := addC_ok C_55_ok c_153_ok
def C_57 : CallT := C_56
theorem C_57_ok : CallsOk prog gl C_57 := C_56_ok
def C_58 : CallT := C_57
theorem C_58_ok : CallsOk prog gl C_58 := C_57_ok
def C_59 : CallT := C_58
theorem C_59_ok : CallsOk prog gl C_59 := C_58_ok
def C_60 : CallT := C_59
theorem C_60_ok : CallsOk prog gl C_60 := C_59_ok
def C_61 : CallT := C_60
theorem C_61_ok : CallsOk prog gl C_61 := C_60_ok
def C_62 : CallT := C_61
theorem C_62_ok : CallsOk prog gl C_62 := C_61_ok
theorem vc416 (a0 : Int) (a1 : Int) (Q : List R → List (List D) → Prop) : vc E_0 C_52 noI fi261 (f261.body.getD .skip) f261.results.toList [.d (.v (.int .i64 a0)), .d (.v (.int .i64 a1))] Q = ( Q [.d (.v (.bool (bif bif s445_0 a0 then !s445_0 a1 else false then true else decide (a0 < a1))))] []) := by kernel_rfl
def s416_0 (a0 : Int) (a1 : Int) : Bool := bif bif s445_0 a0 then !s445_0 a1 else false then true else decide (a0 < a1)
theorem ct416 (a0 : Int) (a1 : Int) : Ct prog gl 261 [.d (.v (.int .i64 a0)), .d (.v (.int .i64 a1))] (gives [R.d (D.v (Value.bool (s416_0 a0 a1)))]) :=
  ct_of_vc E_ok C_52_ok ioK_no it_ok mixed (fn := f261) (body := f261.body.getD .skip) (by kernel_rfl) (by kernel_rfl) (by kernel_rfl) (fi := fi261) (by kernel_rfl) (by kernel_rfl) ⟨_, _, rfl, rfl⟩ (by
    rw [vc416]
    (repeat' first | exact ⟨rfl, rfl⟩ | apply gsplit <;> intro h)
    all_goals (refine ⟨?_, rfl⟩; simp only [s416_0, *, cond_true, cond_false]))
def c_416 (a : List R) (K : List R → List (List D) → Prop) : Prop := match a with | [.d (.v (.int .i64 a0)), .d (.v (.int .i64 a1))] => K [R.d (D.v (Value.bool (s416_0 a0 a1)))] [] | _ => False
theorem c_416_ok (a : List R) (K : List R → List (List D) → Prop) (h : c_416 a K) : Ct prog gl 261 a K := by
  unfold c_416 at h
  split at h
  · exact (ct416 _ _).gives h
  · exact h.elim
def C_63 : CallT := addC C_62 261 c_416
theorem C_63_ok : CallsOk prog gl C_63 := addC_ok C_62_ok c_416_ok
theorem vc56 (a0 : Int) (a1 : Int) (a2 : Bool) (a3 : Int) (a4 : ByteArray) (Q : List R → List (List D) → Prop) : vc E_0 C_63 noI fi72 (f72.body.getD .skip) f72.results.toList [.agg [.v (.int .i64 a0), .v (.int .i64 a1), .v (.bool a2), .v (.int .i64 a3), .v (.string a4)]] Q = ( ((s60_0 a0 a1 != (0 : Int)) = true → Q [.d (.v (.int .i64 (s60_0 a0 a1)))] []) ∧ ((s60_0 a0 a1 != (0 : Int)) = false → (a2 = true → ((!bif a4 == { data := { toList := [] : Array UInt8 } : ByteArray } then a3 == (0 : Int) else false) = true → Q [.d (.v (.int .i64 20))] []) ∧ ((!bif a4 == { data := { toList := [] : Array UInt8 } : ByteArray } then a3 == (0 : Int) else false) = false → Q [.d (.v (.int .i64 0))] [])) ∧ (a2 = false → ((a0 == (1 : Int)) = true → ((!bif a4 == { data := { toList := [] : Array UInt8 } : ByteArray } then bif a3 == (0 : Int) then true else a3 == (1 : Int) else false) = true → Q [.d (.v (.int .i64 20))] []) ∧ ((!bif a4 == { data := { toList := [] : Array UInt8 } : ByteArray } then bif a3 == (0 : Int) then true else a3 == (1 : Int) else false) = false → Q [.d (.v (.int .i64 0))] [])) ∧ ((a0 == (1 : Int)) = false → ((a0 == (3 : Int)) = true → ((!bif a4 == { data := { toList := [] : Array UInt8 } : ByteArray } then s114_0 a3 else false) = true → Q [.d (.v (.int .i64 20))] []) ∧ ((!bif a4 == { data := { toList := [] : Array UInt8 } : ByteArray } then s114_0 a3 else false) = false → Q [.d (.v (.int .i64 0))] [])) ∧ ((a0 == (3 : Int)) = false → ((a0 == (5 : Int)) = true → ((!bif bif a4 == { data := { toList := [] : Array UInt8 } : ByteArray } then decide (a3 ≥ (-719162 : Int)) else false then decide (a3 ≤ (2932896 : Int)) else false) = true → Q [.d (.v (.int .i64 20))] []) ∧ ((!bif bif a4 == { data := { toList := [] : Array UInt8 } : ByteArray } then decide (a3 ≥ (-719162 : Int)) else false then decide (a3 ≤ (2932896 : Int)) else false) = false → Q [.d (.v (.int .i64 0))] [])) ∧ ((a0 == (5 : Int)) = false → ((a0 == (4 : Int)) = true → ((!bif a3 == (0 : Int) then decide ((↑a4.size : Int) ≤ (256 : Int)) else false) = true → Q [.d (.v (.int .i64 20))] []) ∧ ((!bif a3 == (0 : Int) then decide ((↑a4.size : Int) ≤ (256 : Int)) else false) = false → Q [.d (.v (.int .i64 0))] [])) ∧ ((a0 == (4 : Int)) = false → ((!a4 == { data := { toList := [] : Array UInt8 } : ByteArray }) = true → Q [.d (.v (.int .i64 20))] []) ∧ ((!a4 == { data := { toList := [] : Array UInt8 } : ByteArray }) = false → Q [.d (.v (.int .i64 0))] [])))))))) := by kernel_rfl
def s56_0 (a0 : Int) (a1 : Int) (a2 : Bool) (a3 : Int) (a4 : ByteArray) : Int := bif s60_0 a0 a1 != (0 : Int) then s60_0 a0 a1
else
  bif a2 then
    bif !bif a4 == { data := { toList := [] : Array UInt8 } : ByteArray } then a3 == (0 : Int) else false then
      (20 : Int)
    else (0 : Int)
  else
    bif a0 == (1 : Int) then
      bif
          !bif a4 == { data := { toList := [] : Array UInt8 } : ByteArray } then
              bif a3 == (0 : Int) then true else a3 == (1 : Int)
            else false then
        (20 : Int)
      else (0 : Int)
    else
      bif a0 == (3 : Int) then
        bif !bif a4 == { data := { toList := [] : Array UInt8 } : ByteArray } then s114_0 a3 else false then (20 : Int)
        else (0 : Int)
      else
        bif a0 == (5 : Int) then
          bif
              !bif
                    bif a4 == { data := { toList := [] : Array UInt8 } : ByteArray } then decide (a3 ≥ (-719162 : Int))
                    else false then
                  decide (a3 ≤ (2932896 : Int))
                else false then
            (20 : Int)
          else (0 : Int)
        else
          bif a0 == (4 : Int) then
            bif !bif a3 == (0 : Int) then decide ((↑a4.size : Int) ≤ (256 : Int)) else false then (20 : Int)
            else (0 : Int)
          else bif !a4 == { data := { toList := [] : Array UInt8 } : ByteArray } then (20 : Int) else (0 : Int)
theorem ct56 (a0 : Int) (a1 : Int) (a2 : Bool) (a3 : Int) (a4 : ByteArray) : Ct prog gl 72 [.agg [.v (.int .i64 a0), .v (.int .i64 a1), .v (.bool a2), .v (.int .i64 a3), .v (.string a4)]] (gives [R.d (D.v (Value.int IntKind.i64 (s56_0 a0 a1 a2 a3 a4)))]) :=
  ct_of_vc E_ok C_63_ok ioK_no it_ok mixed (fn := f72) (body := f72.body.getD .skip) (by kernel_rfl) (by kernel_rfl) (by kernel_rfl) (fi := fi72) (by kernel_rfl) (by kernel_rfl) ⟨_, _, rfl, rfl⟩ (by
    rw [vc56]
    (repeat' first | exact ⟨rfl, rfl⟩ | apply gsplit <;> intro h)
    all_goals (refine ⟨?_, rfl⟩; simp only [s56_0, *, cond_true, cond_false]))
def c_56 (a : List R) (K : List R → List (List D) → Prop) : Prop := match a with | [.agg [.v (.int .i64 a0), .v (.int .i64 a1), .v (.bool a2), .v (.int .i64 a3), .v (.string a4)]] => K [R.d (D.v (Value.int IntKind.i64 (s56_0 a0 a1 a2 a3 a4)))] [] | _ => False
theorem c_56_ok (a : List R) (K : List R → List (List D) → Prop) (h : c_56 a K) : Ct prog gl 72 a K := by
  unfold c_56 at h
  split at h
  · exact (ct56 _ _ _ _ _).gives h
  · exact h.elim
def C_64 : CallT := addC C_63 72 c_56
theorem C_64_ok : CallsOk prog gl C_64 := addC_ok C_63_ok c_56_ok
theorem vc59 (a0 : Int) (a1 : Int) (Q : List R → List (List D) → Prop) : vc E_0 C_63 noI fi39 (f39.body.getD .skip) f39.results.toList [.agg [.v (.int .i64 a0), .v (.int .i64 a1)]] Q = ( Q [.d (.v (.bool (s60_0 a0 a1 != (0 : Int))))] []) := by kernel_rfl
def s59_0 (a0 : Int) (a1 : Int) : Bool := s60_0 a0 a1 != (0 : Int)
theorem ct59 (a0 : Int) (a1 : Int) : Ct prog gl 39 [.agg [.v (.int .i64 a0), .v (.int .i64 a1)]] (gives [R.d (D.v (Value.bool (s59_0 a0 a1)))]) :=
  ct_of_vc E_ok C_63_ok ioK_no it_ok mixed (fn := f39) (body := f39.body.getD .skip) (by kernel_rfl) (by kernel_rfl) (by kernel_rfl) (fi := fi39) (by kernel_rfl) (by kernel_rfl) ⟨_, _, rfl, rfl⟩ (by
    rw [vc59]
    (repeat' first | exact ⟨rfl, rfl⟩ | apply gsplit <;> intro h)
    all_goals (refine ⟨?_, rfl⟩; simp only [s59_0, *, cond_true, cond_false]))
def c_59 (a : List R) (K : List R → List (List D) → Prop) : Prop := match a with | [.agg [.v (.int .i64 a0), .v (.int .i64 a1)]] => K [R.d (D.v (Value.bool (s59_0 a0 a1)))] [] | _ => False
theorem c_59_ok (a : List R) (K : List R → List (List D) → Prop) (h : c_59 a K) : Ct prog gl 39 a K := by
  unfold c_59 at h
  split at h
  · exact (ct59 _ _).gives h
  · exact h.elim
def C_65 : CallT := addC C_64 39 c_59
theorem C_65_ok : CallsOk prog gl C_65 := addC_ok C_64_ok c_59_ok
def C_66 : CallT := C_65
theorem C_66_ok : CallsOk prog gl C_66 := C_65_ok
end Go.Proofs.Tryz
namespace Go.Proofs.Tryz
open Go Go.Dm Go.Ex
set_option maxRecDepth 100000
variable {gl : Nat → Option Obj}
end Go.Proofs.Tryz
namespace Go.Proofs.Tryz
open Go Go.Dm Go.Ex
set_option maxRecDepth 100000
variable {gl : Nat → Option Obj}
end Go.Proofs.Tryz
namespace Go.Proofs.Tryz
open Go Go.Dm Go.Ex
set_option maxRecDepth 100000
variable {gl : Nat → Option Obj}
theorem vc128 (a b k : Int) (Q : List R → List (List D) → Prop) : vc E_0 C_66 noI fi76 (f76.body.getD .skip) f76.results.toList [.agg [.v (.int .i64 a), .v (.int .i64 b)], .ptr [.v (.int .i64 k)]] Q = ( ∃ (n : Int), some [D.v (Value.int .i64 k)] = some [D.v (Value.int .i64 n)] ∧ Q [.d (.v (.bool (a != n)))] []) := by kernel_rfl
def c_128 (a : List R) (K : List R → List (List D) → Prop) : Prop := match a with
  | [.agg [.v (.int .i64 a), .v (.int .i64 b)], .ptr [.v (.int .i64 k)]] => K [.d (.v (.bool (a != k)))] []
  | _ => False
theorem c_128_ok (a : List R) (K : List R → List (List D) → Prop) (h : c_128 a K) : Ct prog gl 76 a K := by
  unfold c_128 at h
  split at h
  · rename_i a b k
    refine Ct.gives (r := [.d (.v (.bool (a != k)))]) (ct_of_vc E_ok C_66_ok ioK_no it_ok mixed (fn := f76) (body := f76.body.getD .skip) (by kernel_rfl) (by kernel_rfl) (by kernel_rfl) (fi := fi76) (by kernel_rfl) (by kernel_rfl) ⟨_, _, rfl, rfl⟩ ?_) h
    rw [vc128]
    exact ⟨k, rfl, rfl, rfl⟩
  · exact h.elim
def C_4a : CallT := addC C_66 76 c_128
theorem C_4a_ok : CallsOk prog gl C_4a := addC_ok C_66_ok c_128_ok
theorem any_take {α : Type} {p : α → Bool} {l : List α} {i : Nat} (hi : i < l.length) (h : ∀ v ∈ l.take i, p v = false) (hb : p l[i] = false) : ∀ v ∈ l.take (i + 1), p v = false := by
  intro v hv
  rw [List.take_add_one, List.getElem?_eq_getElem hi] at hv
  rcases List.mem_append.1 hv with hv | hv
  · exact h v hv
  · simp at hv; subst hv; exact hb
theorem any_none {α : Type} {p : α → Bool} {l : List α} (h : ∀ v ∈ l, p v = false) : l.any p = false := by
  rw [List.any_eq_false]; intro v hv; rw [h v hv]; simp
def badT (t : Ty) : Bool := s59_0 t.k t.sc
def offK (k : Int) (t : Ty) : Bool := t.k != k
def st_123a (l : List Ty) (x : Nat) : St := { tm := [(0, .d (.sl (l.map Ty.cs))), (1, .fn 39 []), (4, .d (.v (.int .i64 0))), (7, .d (.v (.int .i64 ((l.map Ty.cs).length : Int)))), (8, .d (.v (.int .i64 (x : Int))))], hp := [], kn := [], gd := [] }
def inv_123a (l : List Ty) (m : Nat) (x : Nat) : Prop := (x ≤ l.length ∧ m = l.length - x) ∧ ∀ v ∈ l.take x, badT v = false
def fx_123a (l : List Ty) : Fi := { fi70 with lx := [(2, { X := Nat, sh := st_123a l, P := fun _ => inv_123a l })] }
theorem vc123a (l : List Ty) (Q : List R → List (List D) → Prop) : vc E_0 C_4a noI (fx_123a l) (f70.body.getD .skip) f70.results.toList [.d (.sl (l.map Ty.cs)), .fn 39 []] Q = ( ∃ (es : List (List D)), D.sl (List.map Ty.cs l) = D.sl es ∧ ∃ (x0 : { X := Nat, sh := st_123a l, P := fun (x : Nat) => inv_123a l : LX }.X), ({ tm := [((0 : Nat), V.d (D.sl (List.map Ty.cs l))), ((1 : Nat), V.fn ((39 : Nat)) []), ((4 : Nat), V.d (D.v (Value.int .i64 0))), ((7 : Nat), V.d (D.v (Value.int .i64 (↑es.length : Int)))), ((8 : Nat), V.d (D.v (Value.int .i64 0)))], hp := [], kn := [], gd := [] : St } = { tm := [((0 : Nat), V.d (D.sl (List.map Ty.cs l))), ((1 : Nat), V.fn ((39 : Nat)) []), ((4 : Nat), V.d (D.v (Value.int .i64 0))), ((7 : Nat), V.d (D.v (Value.int .i64 (↑(List.map Ty.cs l).length : Int)))), ((8 : Nat), V.d (D.v (Value.int .i64 (↑x0 : Int))))], hp := [], kn := [], gd := [] : St } ∧ ∃ (n : Nat), inv_123a l n x0) ∧ ∀ (n : Nat) (x : { X := Nat, sh := st_123a l, P := fun (x : Nat) => inv_123a l : LX }.X), inv_123a l n x → (decide ((↑x : Int) < (↑(List.map Ty.cs l).length : Int)) = true → ∃ (es : List (List D)), D.sl (List.map Ty.cs l) = D.sl es ∧ ((0 : Int) ≤ (↑x : Int) ∧ (↑x : Int) < (↑es.length : Int)) ∧ ∃ (cells : List D), es[(↑x : Int).toNat]? = some cells ∧ cells.length = (2 : Nat) ∧ ∃ (n_1 : Int), ∃ (n_2 : Int), cut ((0 : Nat)) ((2 : Nat)) cells = some [D.v (Value.int .i64 n_1), D.v (Value.int .i64 n_2)] ∧ (s59_0 n_1 n_2 = true → Q [.d (.v (.int .i64 (↑x : Int)))] []) ∧ (s59_0 n_1 n_2 = false → ∃ (m : Nat), ∃ (x' : { X := Nat, sh := st_123a l, P := fun (x : Nat) => inv_123a l : LX }.X), m < n ∧ { tm := [((0 : Nat), V.d (D.sl (List.map Ty.cs l))), ((1 : Nat), V.fn ((39 : Nat)) []), ((4 : Nat), V.d (D.v (Value.int .i64 0))), ((7 : Nat), V.d (D.v (Value.int .i64 (↑(List.map Ty.cs l).length : Int)))), ((8 : Nat), V.d (D.v (Value.int .i64 (IntKind.i64.wrap ((↑x : Int) + (1 : Int))))))], hp := [], kn := [], gd := [] : St } = { tm := [((0 : Nat), V.d (D.sl (List.map Ty.cs l))), ((1 : Nat), V.fn ((39 : Nat)) []), ((4 : Nat), V.d (D.v (Value.int .i64 0))), ((7 : Nat), V.d (D.v (Value.int .i64 (↑(List.map Ty.cs l).length : Int)))), ((8 : Nat), V.d (D.v (Value.int .i64 (↑x' : Int))))], hp := [], kn := [], gd := [] : St } ∧ inv_123a l m x')) ∧ (decide ((↑x : Int) < (↑(List.map Ty.cs l).length : Int)) = false → Q [.d (.v (.int .i64 (-1)))] [])) := by kernel_rfl
theorem ct123a (l : List Ty) (hl : l.length < 4611686018427387904) : Ct prog gl 70 [.d (.sl (l.map Ty.cs)), .fn 39 []] (fun res fin => fin = [] ∧ ∃ r : Int, res = [.d (.v (.int .i64 r))] ∧ decide (r ≥ 0) = l.any (badT)) :=
  ct_of_vc E_ok C_4a_ok ioK_no it_ok mixed (fn := f70) (body := f70.body.getD .skip) (by kernel_rfl) (by kernel_rfl) (by kernel_rfl) (fi := fx_123a l) (by kernel_rfl) (by kernel_rfl) (by
    cases h : l.any (badT)
    · exact ⟨_, _, rfl, -1, rfl, rfl⟩
    · exact ⟨_, _, rfl, 0, rfl, rfl⟩) (by
    rw [vc123a]
    refine ⟨_, rfl, (0 : Nat), ⟨rfl, l.length, ⟨Nat.zero_le _, rfl⟩, by simp⟩, fun m (x : Nat) hx => ⟨fun hi => ?_, fun hi => ?_⟩⟩
    · have hi : x < l.length := by simpa using hi
      have hg : (l.map Ty.cs)[((x : Nat) : Int).toNat]? = some (Ty.cs l[x]) := by simp [hi]
      have hm := hx.1.2
      refine ⟨_, rfl, ⟨by omega, by simpa using hi⟩, _, hg, rfl, _, _, rfl, fun hb => ?_, fun hb => ?_⟩
      · refine ⟨rfl, (x : Int), rfl, ?_⟩
        rw [decide_eq_true (by omega)]
        exact (List.any_eq_true.2 ⟨l[x], List.getElem_mem hi, hb⟩).symm
      · exact ⟨l.length - (x + 1), x + 1, by omega, by rw [wrap_next (by omega)], ⟨hi, rfl⟩, any_take hi hx.2 hb⟩
    · have hi : ¬ x < l.length := by simpa using hi
      have h := hx.2
      rw [List.take_of_length_le (by omega)] at h
      refine ⟨rfl, -1, rfl, ?_⟩
      rw [any_none h]; rfl)
def st_123b (k : Int) (l : List Ty) (x : Nat) : St := { tm := [(0, .d (.sl (l.map Ty.cs))), (1, .fn 76 [.dptr [.v (.int .i64 k)]]), (4, .d (.v (.int .i64 0))), (7, .d (.v (.int .i64 ((l.map Ty.cs).length : Int)))), (8, .d (.v (.int .i64 (x : Int))))], hp := [], kn := [], gd := [] }
def inv_123b (k : Int) (l : List Ty) (m : Nat) (x : Nat) : Prop := (x ≤ l.length ∧ m = l.length - x) ∧ ∀ v ∈ l.take x, offK k v = false
def fx_123b (k : Int) (l : List Ty) : Fi := { fi70 with lx := [(2, { X := Nat, sh := st_123b k l, P := fun _ => inv_123b k l })] }
theorem vc123b (k : Int) (l : List Ty) (Q : List R → List (List D) → Prop) : vc E_0 C_4a noI (fx_123b k l) (f70.body.getD .skip) f70.results.toList [.d (.sl (l.map Ty.cs)), .fn 76 [.ptr [.v (.int .i64 k)]]] Q = ( ∃ (es : List (List D)), D.sl (List.map Ty.cs l) = D.sl es ∧ ∃ (x0 : { X := Nat, sh := st_123b k l, P := fun (x : Nat) => inv_123b k l : LX }.X), ({ tm := [((0 : Nat), V.d (D.sl (List.map Ty.cs l))), ((1 : Nat), V.fn ((76 : Nat)) [V.dptr [D.v (Value.int .i64 k)]]), ((4 : Nat), V.d (D.v (Value.int .i64 0))), ((7 : Nat), V.d (D.v (Value.int .i64 (↑es.length : Int)))), ((8 : Nat), V.d (D.v (Value.int .i64 0)))], hp := [], kn := [], gd := [] : St } = { tm := [((0 : Nat), V.d (D.sl (List.map Ty.cs l))), ((1 : Nat), V.fn ((76 : Nat)) [V.dptr [D.v (Value.int .i64 k)]]), ((4 : Nat), V.d (D.v (Value.int .i64 0))), ((7 : Nat), V.d (D.v (Value.int .i64 (↑(List.map Ty.cs l).length : Int)))), ((8 : Nat), V.d (D.v (Value.int .i64 (↑x0 : Int))))], hp := [], kn := [], gd := [] : St } ∧ ∃ (n : Nat), inv_123b k l n x0) ∧ ∀ (n : Nat) (x : { X := Nat, sh := st_123b k l, P := fun (x : Nat) => inv_123b k l : LX }.X), inv_123b k l n x → (decide ((↑x : Int) < (↑(List.map Ty.cs l).length : Int)) = true → ∃ (es : List (List D)), D.sl (List.map Ty.cs l) = D.sl es ∧ ((0 : Int) ≤ (↑x : Int) ∧ (↑x : Int) < (↑es.length : Int)) ∧ ∃ (cells : List D), es[(↑x : Int).toNat]? = some cells ∧ cells.length = (2 : Nat) ∧ ∃ (n_1 : Int), ∃ (n_2 : Int), cut ((0 : Nat)) ((2 : Nat)) cells = some [D.v (Value.int .i64 n_1), D.v (Value.int .i64 n_2)] ∧ ((n_1 != k) = true → Q [.d (.v (.int .i64 (↑x : Int)))] []) ∧ ((n_1 != k) = false → ∃ (m : Nat), ∃ (x' : { X := Nat, sh := st_123b k l, P := fun (x : Nat) => inv_123b k l : LX }.X), m < n ∧ { tm := [((0 : Nat), V.d (D.sl (List.map Ty.cs l))), ((1 : Nat), V.fn ((76 : Nat)) [V.dptr [D.v (Value.int .i64 k)]]), ((4 : Nat), V.d (D.v (Value.int .i64 0))), ((7 : Nat), V.d (D.v (Value.int .i64 (↑(List.map Ty.cs l).length : Int)))), ((8 : Nat), V.d (D.v (Value.int .i64 (IntKind.i64.wrap ((↑x : Int) + (1 : Int))))))], hp := [], kn := [], gd := [] : St } = { tm := [((0 : Nat), V.d (D.sl (List.map Ty.cs l))), ((1 : Nat), V.fn ((76 : Nat)) [V.dptr [D.v (Value.int .i64 k)]]), ((4 : Nat), V.d (D.v (Value.int .i64 0))), ((7 : Nat), V.d (D.v (Value.int .i64 (↑(List.map Ty.cs l).length : Int)))), ((8 : Nat), V.d (D.v (Value.int .i64 (↑x' : Int))))], hp := [], kn := [], gd := [] : St } ∧ inv_123b k l m x')) ∧ (decide ((↑x : Int) < (↑(List.map Ty.cs l).length : Int)) = false → Q [.d (.v (.int .i64 (-1)))] [])) := by kernel_rfl
theorem ct123b (k : Int) (l : List Ty) (hl : l.length < 4611686018427387904) : Ct prog gl 70 [.d (.sl (l.map Ty.cs)), .fn 76 [.ptr [.v (.int .i64 k)]]] (fun res fin => fin = [] ∧ ∃ r : Int, res = [.d (.v (.int .i64 r))] ∧ decide (r ≥ 0) = l.any (offK k)) :=
  ct_of_vc E_ok C_4a_ok ioK_no it_ok mixed (fn := f70) (body := f70.body.getD .skip) (by kernel_rfl) (by kernel_rfl) (by kernel_rfl) (fi := fx_123b k l) (by kernel_rfl) (by kernel_rfl) (by
    cases h : l.any (offK k)
    · exact ⟨_, _, rfl, -1, rfl, rfl⟩
    · exact ⟨_, _, rfl, 0, rfl, rfl⟩) (by
    rw [vc123b]
    refine ⟨_, rfl, (0 : Nat), ⟨rfl, l.length, ⟨Nat.zero_le _, rfl⟩, by simp⟩, fun m (x : Nat) hx => ⟨fun hi => ?_, fun hi => ?_⟩⟩
    · have hi : x < l.length := by simpa using hi
      have hg : (l.map Ty.cs)[((x : Nat) : Int).toNat]? = some (Ty.cs l[x]) := by simp [hi]
      have hm := hx.1.2
      refine ⟨_, rfl, ⟨by omega, by simpa using hi⟩, _, hg, rfl, _, _, rfl, fun hb => ?_, fun hb => ?_⟩
      · refine ⟨rfl, (x : Int), rfl, ?_⟩
        rw [decide_eq_true (by omega)]
        exact (List.any_eq_true.2 ⟨l[x], List.getElem_mem hi, hb⟩).symm
      · exact ⟨l.length - (x + 1), x + 1, by omega, by rw [wrap_next (by omega)], ⟨hi, rfl⟩, any_take hi hx.2 hb⟩
    · have hi : ¬ x < l.length := by simpa using hi
      have h := hx.2
      rw [List.take_of_length_le (by omega)] at h
      refine ⟨rfl, -1, rfl, ?_⟩
      rw [any_none h]; rfl)
def c_123 (a : List R) (K : List R → List (List D) → Prop) : Prop := match a with
  | [.d (.sl x), .fn 39 []] => ∃ l : List Ty, x = l.map Ty.cs ∧ l.length < 4611686018427387904 ∧ ∀ r : Int, decide (r ≥ 0) = l.any (badT) → K [.d (.v (.int .i64 r))] []
  | [.d (.sl x), .fn 76 [.ptr [.v (.int .i64 k)]]] => ∃ l : List Ty, x = l.map Ty.cs ∧ l.length < 4611686018427387904 ∧ ∀ r : Int, decide (r ≥ 0) = l.any (offK k) → K [.d (.v (.int .i64 r))] []
  | _ => False
theorem c_123_ok (a : List R) (K : List R → List (List D) → Prop) (h : c_123 a K) : Ct prog gl 70 a K := by
  unfold c_123 at h
  split at h
  · obtain ⟨l, rfl, h1, h2⟩ := h
    exact (ct123a l h1).mono fun res fin ⟨e1, r, e2, e3⟩ => by subst e1; subst e2; exact h2 r e3
  · obtain ⟨l, rfl, h1, h2⟩ := h
    exact (ct123b _ l h1).mono fun res fin ⟨e1, r, e2, e3⟩ => by subst e1; subst e2; exact h2 r e3
  · exact h.elim
def C_4b : CallT := addC C_4a 70 c_123
theorem C_4b_ok : CallsOk prog gl C_4b := addC_ok C_4a_ok c_123_ok
theorem vc58a (x : List (List D)) (Q : List R → List (List D) → Prop) : vc E_0 C_4b noI fi38 (f38.body.getD .skip) f38.results.toList [.d (.sl x), .fn 39 []] Q = ( ∃ (l : List Ty), x = List.map Ty.cs l ∧ l.length < (4611686018427387904 : Nat) ∧ ∀ (r : Int), decide (r ≥ (0 : Int)) = l.any badT → Q [.d (.v (.bool (decide (r ≥ (0 : Int)))))] []) := by kernel_rfl
theorem vc58b (k : Int) (x : List (List D)) (Q : List R → List (List D) → Prop) : vc E_0 C_4b noI fi38 (f38.body.getD .skip) f38.results.toList [.d (.sl x), .fn 76 [.ptr [.v (.int .i64 k)]]] Q = ( ∃ (l : List Ty), x = List.map Ty.cs l ∧ l.length < (4611686018427387904 : Nat) ∧ ∀ (r : Int), decide (r ≥ (0 : Int)) = l.any (offK k) → Q [.d (.v (.bool (decide (r ≥ (0 : Int)))))] []) := by kernel_rfl
def c_58 (a : List R) (K : List R → List (List D) → Prop) : Prop := match a with
  | [.d (.sl x), .fn 39 []] => ∃ l : List Ty, x = l.map Ty.cs ∧ l.length < 4611686018427387904 ∧ K [.d (.v (.bool (l.any (badT))))] []
  | [.d (.sl x), .fn 76 [.ptr [.v (.int .i64 k)]]] => ∃ l : List Ty, x = l.map Ty.cs ∧ l.length < 4611686018427387904 ∧ K [.d (.v (.bool (l.any (offK k))))] []
  | _ => False
theorem c_58_ok (a : List R) (K : List R → List (List D) → Prop) (h : c_58 a K) : Ct prog gl 38 a K := by
  unfold c_58 at h
  split at h
  · obtain ⟨l, rfl, h1, h2⟩ := h
    refine Ct.gives (r := [.d (.v (.bool (l.any (badT))))]) (ct_of_vc E_ok C_4b_ok ioK_no it_ok mixed (fn := f38) (body := f38.body.getD .skip) (by kernel_rfl) (by kernel_rfl) (by kernel_rfl) (fi := fi38) (by kernel_rfl) (by kernel_rfl) ⟨_, _, rfl, rfl⟩ ?_) h2
    rw [vc58a]
    exact ⟨l, rfl, h1, fun r hr => ⟨by rw [hr], rfl⟩⟩
  · rename_i x k
    obtain ⟨l, rfl, h1, h2⟩ := h
    refine Ct.gives (r := [.d (.v (.bool (l.any (offK k))))]) (ct_of_vc E_ok C_4b_ok ioK_no it_ok mixed (fn := f38) (body := f38.body.getD .skip) (by kernel_rfl) (by kernel_rfl) (by kernel_rfl) (fi := fi38) (by kernel_rfl) (by kernel_rfl) ⟨_, _, rfl, rfl⟩ ?_) h2
    rw [vc58b]
    exact ⟨l, rfl, h1, fun r hr => ⟨by rw [hr], rfl⟩⟩
  · exact h.elim
def C_4c : CallT := addC C_4b 38 c_58
theorem C_4c_ok : CallsOk prog gl C_4c := addC_ok C_4b_ok c_58_ok
def C_4e : CallT := C_4c
theorem C_4e_ok : CallsOk prog gl C_4e := C_4c_ok
end Go.Proofs.Tryz
