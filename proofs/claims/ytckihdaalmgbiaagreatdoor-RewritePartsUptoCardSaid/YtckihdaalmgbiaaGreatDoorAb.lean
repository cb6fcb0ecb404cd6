/- A part of the proof: contracts of functions, by a verified generator of conditions; no condition of its own. -/
import Derived.Test.YtckihdaalmgbiaaGreatDoorB1
namespace Go.Proofs.Tryz
open Go Go.Dm
set_option maxRecDepth 100000
variable {gl : Nat → Option Obj}
def C_0 : CallT := fun _ _ _ => False
theorem C_0_ok : CallsOk prog gl C_0 := fun _ _ _ h => h.elim
theorem vc50 (a0 : Int) (a1 : Int) (Q : List R → List (List D) → Prop) : vc E_0 C_0 noI fi101 (f101.body.getD .skip) f101.results.toList [.d (.v (.int .i64 a0)), .d (.v (.int .i64 a1))] Q = (
  ((bif a0 == (0 : Int) then true else a1 == (0 : Int)) = true → Q [R.d (D.v (Value.int IntKind.i64 (0 : Int)))] []) ∧ ((bif a0 == (0 : Int) then true
  else a1 == (0 : Int)) = false → ((bif a0 == (1 : Int) then a1 == (1 : Int) else false) = true → Q [R.d (D.v (Value.int IntKind.i64 (1 : Int)))] []) ∧
  ((bif a0 == (1 : Int) then a1 == (1 : Int) else false) = false → Q [R.d (D.v (Value.int IntKind.i64 (2 : Int)))] []))) := by kernel_rfl
def s50_0 (a0 : Int) (a1 : Int) : Int := bif bif a0 == (0 : Int) then true else a1 == (0 : Int) then (0 : Int)
else bif bif a0 == (1 : Int) then a1 == (1 : Int) else false then (1 : Int) else (2 : Int)
theorem ct50 (a0 : Int) (a1 : Int) : Ct prog gl 101 [.d (.v (.int .i64 a0)), .d (.v (.int .i64 a1))] (gives [R.d (D.v (Value.int IntKind.i64 (s50_0 a0 a1)))]) :=
  ct_of_vc E_ok C_0_ok ioK_no it_ok mixed (fn := f101) (body := f101.body.getD .skip) (by kernel_rfl) (by kernel_rfl) (by kernel_rfl) (fi := fi101) (by kernel_rfl) (by kernel_rfl) ⟨_, _, rfl, rfl⟩ (by
    rw [vc50]
    (repeat' first | exact ⟨rfl, rfl⟩ | apply gsplit <;> intro h)
    all_goals (refine ⟨?_, rfl⟩; simp only [s50_0, *, cond_true, cond_false]))
def c_50 (a : List R) (K : List R → List (List D) → Prop) : Prop := match a with | [.d (.v (.int .i64 a0)), .d (.v (.int .i64 a1))] => K [R.d (D.v (Value.int IntKind.i64 (s50_0 a0 a1)))] [] | _ => False
theorem c_50_ok (a : List R) (K : List R → List (List D) → Prop) (h : c_50 a K) : Ct prog gl 101 a K := by
  unfold c_50 at h
  split at h
  · exact (ct50 _ _).gives h
  · exact h.elim
def C_1 : CallT := addC C_0 101 c_50
theorem C_1_ok : CallsOk prog gl C_1 := addC_ok C_0_ok c_50_ok
theorem vc65 (a0 : Int) (Q : List R → List (List D) → Prop) : vc E_0 C_0 noI fi52 (f52.body.getD .skip) f52.results.toList [.d (.v (.int .i64 a0))] Q = (
  Q [R.agg [D.v (Value.int IntKind.i64 (2 : Int)), D.v (Value.int IntKind.i64 (0 : Int)), D.v (Value.bool false), D.v (Value.int IntKind.i64 a0), D.v
  (Value.string { data := { toList := [] : Array UInt8 } : ByteArray })]] []) := by kernel_rfl
theorem ct65 (a0 : Int) : Ct prog gl 52 [.d (.v (.int .i64 a0))] (gives [R.agg
    [D.v (Value.int IntKind.i64 (2 : Int)), D.v (Value.int IntKind.i64 (0 : Int)), D.v (Value.bool false),
      D.v (Value.int IntKind.i64 a0), D.v (Value.string { data := { toList := [] : Array UInt8 } : ByteArray })]]) :=
  ct_of_vc E_ok C_0_ok ioK_no it_ok mixed (fn := f52) (body := f52.body.getD .skip) (by kernel_rfl) (by kernel_rfl) (by kernel_rfl) (fi := fi52) (by kernel_rfl) (by kernel_rfl) ⟨_, _, rfl, rfl⟩ (by
    rw [vc65]
    (repeat' first | exact ⟨rfl, rfl⟩ | apply gsplit <;> intro h)
    all_goals (refine ⟨?_, rfl⟩; simp only [*, cond_true, cond_false]))
def c_65 (a : List R) (K : List R → List (List D) → Prop) : Prop := match a with | [.d (.v (.int .i64 a0))] => K [R.agg
    [D.v (Value.int IntKind.i64 (2 : Int)), D.v (Value.int IntKind.i64 (0 : Int)), D.v (Value.bool false),
      D.v (Value.int IntKind.i64 a0), D.v (Value.string { data := { toList := [] : Array UInt8 } : ByteArray })]] [] | _ => False
theorem c_65_ok (a : List R) (K : List R → List (List D) → Prop) (h : c_65 a K) : Ct prog gl 52 a K := by
  unfold c_65 at h
  split at h
  · exact (ct65 _).gives h
  · exact h.elim
def C_2 : CallT := addC C_1 52 c_65
theorem C_2_ok : CallsOk prog gl C_2 := addC_ok C_1_ok c_65_ok
theorem vc67 (a0 : Int) (a1 : Int) (Q : List R → List (List D) → Prop) : vc E_0 C_0 noI fi27 (f27.body.getD .skip) f27.results.toList [.agg [.v (.int .i64 a0), .v (.int .i64 a1)]] Q = (
  ((bif bif bif bif decide (a0 < (1 : Int)) then true else decide (a0 > (5 : Int)) then true else decide (a1 < (0 : Int)) then true else decide (a1 > (18
  : Int)) then true else bif a0 != (3 : Int) then a1 != (0 : Int) else false) = true → Q [R.d (D.v (Value.int IntKind.i64 (21 : Int)))] []) ∧ ((bif bif
  bif bif decide (a0 < (1 : Int)) then true else decide (a0 > (5 : Int)) then true else decide (a1 < (0 : Int)) then true else decide (a1 > (18 : Int))
  then true else bif a0 != (3 : Int) then a1 != (0 : Int) else false) = false → Q [R.d (D.v (Value.int IntKind.i64 (0 : Int)))] [])) := by kernel_rfl
def s67_0 (a0 : Int) (a1 : Int) : Int := bif
    bif
        bif
            bif bif decide (a0 < (1 : Int)) then true else decide (a0 > (5 : Int)) then true
            else decide (a1 < (0 : Int)) then
          true
        else decide (a1 > (18 : Int)) then
      true
    else bif a0 != (3 : Int) then a1 != (0 : Int) else false then
  (21 : Int)
else (0 : Int)
theorem ct67 (a0 : Int) (a1 : Int) : Ct prog gl 27 [.agg [.v (.int .i64 a0), .v (.int .i64 a1)]] (gives [R.d (D.v (Value.int IntKind.i64 (s67_0 a0 a1)))]) :=
  ct_of_vc E_ok C_0_ok ioK_no it_ok mixed (fn := f27) (body := f27.body.getD .skip) (by kernel_rfl) (by kernel_rfl) (by kernel_rfl) (fi := fi27) (by kernel_rfl) (by kernel_rfl) ⟨_, _, rfl, rfl⟩ (by
    rw [vc67]
    (repeat' first | exact ⟨rfl, rfl⟩ | apply gsplit <;> intro h)
    all_goals (refine ⟨?_, rfl⟩; simp only [s67_0, *, cond_true, cond_false]))
def c_67 (a : List R) (K : List R → List (List D) → Prop) : Prop := match a with | [.agg [.v (.int .i64 a0), .v (.int .i64 a1)]] => K [R.d (D.v (Value.int IntKind.i64 (s67_0 a0 a1)))] [] | _ => False
theorem c_67_ok (a : List R) (K : List R → List (List D) → Prop) (h : c_67 a K) : Ct prog gl 27 a K := by
  unfold c_67 at h
  split at h
  · exact (ct67 _ _).gives h
  · exact h.elim
def C_3 : CallT := addC C_2 27 c_67
theorem C_3_ok : CallsOk prog gl C_3 := addC_ok C_2_ok c_67_ok
theorem vc68 (a0 : Int) (Q : List R → List (List D) → Prop) : vc E_0 C_0 noI fi63 (f63.body.getD .skip) f63.results.toList [.d (.v (.int .i64 a0))] Q = (
  Q [R.d (D.v (Value.bool (bif decide (a0 ≥ (-999999999999999999 : Int)) then decide (a0 ≤ (999999999999999999 : Int)) else false)))] []) := by kernel_rfl
def s68_0 (a0 : Int) : Bool := bif decide (a0 ≥ (-999999999999999999 : Int)) then decide (a0 ≤ (999999999999999999 : Int)) else false
theorem ct68 (a0 : Int) : Ct prog gl 63 [.d (.v (.int .i64 a0))] (gives [R.d (D.v (Value.bool (s68_0 a0)))]) :=
  ct_of_vc E_ok C_0_ok ioK_no it_ok mixed (fn := f63) (body := f63.body.getD .skip) (by kernel_rfl) (by kernel_rfl) (by kernel_rfl) (fi := fi63) (by kernel_rfl) (by kernel_rfl) ⟨_, _, rfl, rfl⟩ (by
    rw [vc68]
    (repeat' first | exact ⟨rfl, rfl⟩ | apply gsplit <;> intro h)
    all_goals (refine ⟨?_, rfl⟩; simp only [s68_0, *, cond_true, cond_false]))
def c_68 (a : List R) (K : List R → List (List D) → Prop) : Prop := match a with | [.d (.v (.int .i64 a0))] => K [R.d (D.v (Value.bool (s68_0 a0)))] [] | _ => False
theorem c_68_ok (a : List R) (K : List R → List (List D) → Prop) (h : c_68 a K) : Ct prog gl 63 a K := by
  unfold c_68 at h
  split at h
  · exact (ct68 _).gives h
  · exact h.elim
def C_4 : CallT := addC C_3 63 c_68
theorem C_4_ok : CallsOk prog gl C_4 := addC_ok C_3_ok c_68_ok
theorem vc72 (a0 : Bool) (Q : List R → List (List D) → Prop) : vc E_0 C_0 noI fi25 (f25.body.getD .skip) f25.results.toList [.d (.v (.bool a0))] Q = (
  (a0 = true → Q [R.agg [D.v (Value.int IntKind.i64 (1 : Int)), D.v (Value.int IntKind.i64 (0 : Int)), D.v (Value.bool false), D.v (Value.int IntKind.i64
  (1 : Int)), D.v (Value.string { data := { toList := [] : Array UInt8 } : ByteArray })]] []) ∧ (a0 = false → Q [R.agg [D.v (Value.int IntKind.i64 (1 :
  Int)), D.v (Value.int IntKind.i64 (0 : Int)), D.v (Value.bool false), D.v (Value.int IntKind.i64 (0 : Int)), D.v (Value.string { data := { toList := [] : Array UInt8 } : ByteArray })]]
  [])) := by kernel_rfl
def s72_0 (a0 : Bool) : Int := bif a0 then (1 : Int) else (0 : Int)
theorem ct72 (a0 : Bool) : Ct prog gl 25 [.d (.v (.bool a0))] (gives [R.agg
    [D.v (Value.int IntKind.i64 (1 : Int)), D.v (Value.int IntKind.i64 (0 : Int)), D.v (Value.bool false),
      D.v (Value.int IntKind.i64 (s72_0 a0)), D.v (Value.string { data := { toList := [] : Array UInt8 } : ByteArray })]]) :=
  ct_of_vc E_ok C_0_ok ioK_no it_ok mixed (fn := f25) (body := f25.body.getD .skip) (by kernel_rfl) (by kernel_rfl) (by kernel_rfl) (fi := fi25) (by kernel_rfl) (by kernel_rfl) ⟨_, _, rfl, rfl⟩ (by
    rw [vc72]
    (repeat' first | exact ⟨rfl, rfl⟩ | apply gsplit <;> intro h)
    all_goals (refine ⟨?_, rfl⟩; simp only [s72_0, *, cond_true, cond_false]))
def c_72 (a : List R) (K : List R → List (List D) → Prop) : Prop := match a with | [.d (.v (.bool a0))] => K [R.agg
    [D.v (Value.int IntKind.i64 (1 : Int)), D.v (Value.int IntKind.i64 (0 : Int)), D.v (Value.bool false),
      D.v (Value.int IntKind.i64 (s72_0 a0)), D.v (Value.string { data := { toList := [] : Array UInt8 } : ByteArray })]] [] | _ => False
theorem c_72_ok (a : List R) (K : List R → List (List D) → Prop) (h : c_72 a K) : Ct prog gl 25 a K := by
  unfold c_72 at h
  split at h
  · exact (ct72 _).gives h
  · exact h.elim
def C_5 : CallT := addC C_4 25 c_72
theorem C_5_ok : CallsOk prog gl C_5 := addC_ok C_4_ok c_72_ok
def C_6 : CallT := C_5
theorem C_6_ok : CallsOk prog gl C_6 := C_5_ok
def C_7 : CallT := C_6
theorem C_7_ok : CallsOk prog gl C_7 := C_6_ok
def C_8 : CallT := C_7
theorem C_8_ok : CallsOk prog gl C_8 := C_7_ok
theorem vc110 (a0 : Int) (a1 : Int) (a2 : Bool) (a3 : Int) (a4 : ByteArray) (Q : List R → List (List D) → Prop) : vc E_0 C_0 noI fi104 (f104.body.getD .skip) f104.results.toList [.agg [.v (.int .i64 a0), .v (.int .i64 a1), .v (.bool a2), .v (.int .i64 a3), .v (.string a4)]] Q = (
  ((a0 != (1 : Int)) = true → Q [R.d (D.v (Value.int IntKind.i64 (0 : Int))), R.d (D.v (Value.int IntKind.i64 (21 : Int)))] []) ∧ ((a0 != (1 : Int)) =
  false → (a2 = true → Q [R.d (D.v (Value.int IntKind.i64 (2 : Int))), R.d (D.v (Value.int IntKind.i64 (0 : Int)))] []) ∧ (a2 = false → ((a3 == (0 :
  Int)) = true → Q [R.d (D.v (Value.int IntKind.i64 (0 : Int))), R.d (D.v (Value.int IntKind.i64 (0 : Int)))] []) ∧ ((a3 == (0 : Int)) = false → Q [R.d
  (D.v (Value.int IntKind.i64 (1 : Int))), R.d (D.v (Value.int IntKind.i64 (0 : Int)))] [])))) := by kernel_rfl
def s110_0 (a0 : Int) (a1 : Int) (a2 : Bool) (a3 : Int) (a4 : ByteArray) : Int := bif a0 != (1 : Int) then (0 : Int) else bif a2 then (2 : Int) else bif a3 == (0 : Int) then (0 : Int) else (1 : Int)
def s110_1 (a0 : Int) (a1 : Int) (a2 : Bool) (a3 : Int) (a4 : ByteArray) : Int := bif a0 != (1 : Int) then (21 : Int) else (0 : Int)
theorem ct110 (a0 : Int) (a1 : Int) (a2 : Bool) (a3 : Int) (a4 : ByteArray) : Ct prog gl 104 [.agg [.v (.int .i64 a0), .v (.int .i64 a1), .v (.bool a2), .v (.int .i64 a3), .v (.string a4)]] (gives [R.d (D.v (Value.int IntKind.i64 (s110_0 a0 a1 a2 a3 a4))), R.d (D.v (Value.int IntKind.i64 (s110_1 a0 a1 a2 a3 a4)))]) :=
  ct_of_vc E_ok C_0_ok ioK_no it_ok mixed (fn := f104) (body := f104.body.getD .skip) (by kernel_rfl) (by kernel_rfl) (by kernel_rfl) (fi := fi104) (by kernel_rfl) (by kernel_rfl) ⟨_, _, rfl, rfl⟩ (by
    rw [vc110]
    (repeat' first | exact ⟨rfl, rfl⟩ | apply gsplit <;> intro h)
    all_goals (refine ⟨?_, rfl⟩; simp only [s110_0, s110_1, *, cond_true, cond_false]))
def c_110 (a : List R) (K : List R → List (List D) → Prop) : Prop := match a with | [.agg [.v (.int .i64 a0), .v (.int .i64 a1), .v (.bool a2), .v (.int .i64 a3), .v (.string a4)]] => K [R.d (D.v (Value.int IntKind.i64 (s110_0 a0 a1 a2 a3 a4))), R.d (D.v (Value.int IntKind.i64 (s110_1 a0 a1 a2 a3 a4)))] [] | _ => False
theorem c_110_ok (a : List R) (K : List R → List (List D) → Prop) (h : c_110 a K) : Ct prog gl 104 a K := by
  unfold c_110 at h
  split at h
  · exact (ct110 _ _ _ _ _).gives h
  · exact h.elim
def C_9 : CallT := addC C_8 104 c_110
theorem C_9_ok : CallsOk prog gl C_9 := addC_ok C_8_ok c_110_ok
theorem vc114 (a0 : Int) (Q : List R → List (List D) → Prop) : vc E_0 C_0 noI fi108 (f108.body.getD .skip) f108.results.toList [.d (.v (.int .i64 a0))] Q = (
  Q [R.d (D.v (Value.bool (bif decide ((-999999999999999999 : Int) ≤ a0) then decide (a0 ≤ (999999999999999999 : Int)) else false)))] []) := by kernel_rfl
def s114_0 (a0 : Int) : Bool := bif decide ((-999999999999999999 : Int) ≤ a0) then decide (a0 ≤ (999999999999999999 : Int)) else false
theorem ct114 (a0 : Int) : Ct prog gl 108 [.d (.v (.int .i64 a0))] (gives [R.d (D.v (Value.bool (s114_0 a0)))]) :=
  ct_of_vc E_ok C_0_ok ioK_no it_ok mixed (fn := f108) (body := f108.body.getD .skip) (by kernel_rfl) (by kernel_rfl) (by kernel_rfl) (fi := fi108) (by kernel_rfl) (by kernel_rfl) ⟨_, _, rfl, rfl⟩ (by
    rw [vc114]
    (repeat' first | exact ⟨rfl, rfl⟩ | apply gsplit <;> intro h)
    all_goals (refine ⟨?_, rfl⟩; simp only [s114_0, *, cond_true, cond_false]))
def c_114 (a : List R) (K : List R → List (List D) → Prop) : Prop := match a with | [.d (.v (.int .i64 a0))] => K [R.d (D.v (Value.bool (s114_0 a0)))] [] | _ => False
theorem c_114_ok (a : List R) (K : List R → List (List D) → Prop) (h : c_114 a K) : Ct prog gl 108 a K := by
  unfold c_114 at h
  split at h
  · exact (ct114 _).gives h
  · exact h.elim
def C_10 : CallT := addC C_9 108 c_114
theorem C_10_ok : CallsOk prog gl C_10 := addC_ok C_9_ok c_114_ok
theorem vc118 (a0 : Int) (Q : List R → List (List D) → Prop) : vc E_0 C_0 noI fi114 (f114.body.getD .skip) f114.results.toList [.d (.v (.int .i64 a0))] Q = (
  ((a0 == (0 : Int)) = true → Q [R.d (D.v (Value.int IntKind.i64 (1 : Int)))] []) ∧ ((a0 == (0 : Int)) = false → ((a0 == (1 : Int)) = true → Q [R.d (D.v
  (Value.int IntKind.i64 (0 : Int)))] []) ∧ ((a0 == (1 : Int)) = false → Q [R.d (D.v (Value.int IntKind.i64 (2 : Int)))] []))) := by kernel_rfl
def s118_0 (a0 : Int) : Int := bif a0 == (0 : Int) then (1 : Int) else bif a0 == (1 : Int) then (0 : Int) else (2 : Int)
theorem ct118 (a0 : Int) : Ct prog gl 114 [.d (.v (.int .i64 a0))] (gives [R.d (D.v (Value.int IntKind.i64 (s118_0 a0)))]) :=
  ct_of_vc E_ok C_0_ok ioK_no it_ok mixed (fn := f114) (body := f114.body.getD .skip) (by kernel_rfl) (by kernel_rfl) (by kernel_rfl) (fi := fi114) (by kernel_rfl) (by kernel_rfl) ⟨_, _, rfl, rfl⟩ (by
    rw [vc118]
    (repeat' first | exact ⟨rfl, rfl⟩ | apply gsplit <;> intro h)
    all_goals (refine ⟨?_, rfl⟩; simp only [s118_0, *, cond_true, cond_false]))
def c_118 (a : List R) (K : List R → List (List D) → Prop) : Prop := match a with | [.d (.v (.int .i64 a0))] => K [R.d (D.v (Value.int IntKind.i64 (s118_0 a0)))] [] | _ => False
theorem c_118_ok (a : List R) (K : List R → List (List D) → Prop) (h : c_118 a K) : Ct prog gl 114 a K := by
  unfold c_118 at h
  split at h
  · exact (ct118 _).gives h
  · exact h.elim
def C_11 : CallT := addC C_10 114 c_118
theorem C_11_ok : CallsOk prog gl C_11 := addC_ok C_10_ok c_118_ok
theorem vc120 (a0 : Int) (a1 : Int) (Q : List R → List (List D) → Prop) : vc E_0 C_0 noI fi116 (f116.body.getD .skip) f116.results.toList [.agg [.v (.int .i64 a0), .v (.int .i64 a1)]] Q = (
  Q [R.agg [D.v (Value.int IntKind.i64 a0), D.v (Value.int IntKind.i64 a1), D.v (Value.bool true), D.v (Value.int IntKind.i64 (0 : Int)), D.v
  (Value.string { data := { toList := [] : Array UInt8 } : ByteArray })]] []) := by kernel_rfl
theorem ct120 (a0 : Int) (a1 : Int) : Ct prog gl 116 [.agg [.v (.int .i64 a0), .v (.int .i64 a1)]] (gives [R.agg
    [D.v (Value.int IntKind.i64 a0), D.v (Value.int IntKind.i64 a1), D.v (Value.bool true),
      D.v (Value.int IntKind.i64 (0 : Int)), D.v (Value.string { data := { toList := [] : Array UInt8 } : ByteArray })]]) :=
  ct_of_vc E_ok C_0_ok ioK_no it_ok mixed (fn := f116) (body := f116.body.getD .skip) (by kernel_rfl) (by kernel_rfl) (by kernel_rfl) (fi := fi116) (by kernel_rfl) (by kernel_rfl) ⟨_, _, rfl, rfl⟩ (by
    rw [vc120]
    (repeat' first | exact ⟨rfl, rfl⟩ | apply gsplit <;> intro h)
    all_goals (refine ⟨?_, rfl⟩; simp only [*, cond_true, cond_false]))
def c_120 (a : List R) (K : List R → List (List D) → Prop) : Prop := match a with | [.agg [.v (.int .i64 a0), .v (.int .i64 a1)]] => K [R.agg
    [D.v (Value.int IntKind.i64 a0), D.v (Value.int IntKind.i64 a1), D.v (Value.bool true),
      D.v (Value.int IntKind.i64 (0 : Int)), D.v (Value.string { data := { toList := [] : Array UInt8 } : ByteArray })]] [] | _ => False
theorem c_120_ok (a : List R) (K : List R → List (List D) → Prop) (h : c_120 a K) : Ct prog gl 116 a K := by
  unfold c_120 at h
  split at h
  · exact (ct120 _ _).gives h
  · exact h.elim
def C_12 : CallT := addC C_11 116 c_120
theorem C_12_ok : CallsOk prog gl C_12 := addC_ok C_11_ok c_120_ok
theorem vc124 (a0 : Int) (Q : List R → List (List D) → Prop) : vc E_0 C_0 noI fi74 (f74.body.getD .skip) f74.results.toList [.d (.v (.int .i64 a0))] Q = (
  Q [R.d (D.v (Value.bool (bif decide (a0 ≥ (0 : Int)) then decide (a0 ≤ (18 : Int)) else false)))] []) := by kernel_rfl
def s124_0 (a0 : Int) : Bool := bif decide (a0 ≥ (0 : Int)) then decide (a0 ≤ (18 : Int)) else false
theorem ct124 (a0 : Int) : Ct prog gl 74 [.d (.v (.int .i64 a0))] (gives [R.d (D.v (Value.bool (s124_0 a0)))]) :=
  ct_of_vc E_ok C_0_ok ioK_no it_ok mixed (fn := f74) (body := f74.body.getD .skip) (by kernel_rfl) (by kernel_rfl) (by kernel_rfl) (fi := fi74) (by kernel_rfl) (by kernel_rfl) ⟨_, _, rfl, rfl⟩ (by
    rw [vc124]
    (repeat' first | exact ⟨rfl, rfl⟩ | apply gsplit <;> intro h)
    all_goals (refine ⟨?_, rfl⟩; simp only [s124_0, *, cond_true, cond_false]))
def c_124 (a : List R) (K : List R → List (List D) → Prop) : Prop := match a with | [.d (.v (.int .i64 a0))] => K [R.d (D.v (Value.bool (s124_0 a0)))] [] | _ => False
theorem c_124_ok (a : List R) (K : List R → List (List D) → Prop) (h : c_124 a K) : Ct prog gl 74 a K := by
  unfold c_124 at h
  split at h
  · exact (ct124 _).gives h
  · exact h.elim
def C_13 : CallT := addC C_12 74 c_124
theorem C_13_ok : CallsOk prog gl C_13 := addC_ok C_12_ok c_124_ok
theorem vc130 (a0 : Int) (a1 : Int) (Q : List R → List (List D) → Prop) : vc E_0 C_0 noI fi80 (f80.body.getD .skip) f80.results.toList [.agg [.v (.int .i64 a0), .v (.int .i64 a1)]] Q = (
  Q [R.d (D.v (Value.bool (bif a0 == (2 : Int) then true else a0 == (3 : Int))))] []) := by kernel_rfl
def s130_0 (a0 : Int) (a1 : Int) : Bool := bif a0 == (2 : Int) then true else a0 == (3 : Int)
theorem ct130 (a0 : Int) (a1 : Int) : Ct prog gl 80 [.agg [.v (.int .i64 a0), .v (.int .i64 a1)]] (gives [R.d (D.v (Value.bool (s130_0 a0 a1)))]) :=
  ct_of_vc E_ok C_0_ok ioK_no it_ok mixed (fn := f80) (body := f80.body.getD .skip) (by kernel_rfl) (by kernel_rfl) (by kernel_rfl) (fi := fi80) (by kernel_rfl) (by kernel_rfl) ⟨_, _, rfl, rfl⟩ (by
    rw [vc130]
    (repeat' first | exact ⟨rfl, rfl⟩ | apply gsplit <;> intro h)
    all_goals (refine ⟨?_, rfl⟩; simp only [s130_0, *, cond_true, cond_false]))
def c_130 (a : List R) (K : List R → List (List D) → Prop) : Prop := match a with | [.agg [.v (.int .i64 a0), .v (.int .i64 a1)]] => K [R.d (D.v (Value.bool (s130_0 a0 a1)))] [] | _ => False
theorem c_130_ok (a : List R) (K : List R → List (List D) → Prop) (h : c_130 a K) : Ct prog gl 80 a K := by
  unfold c_130 at h
  split at h
  · exact (ct130 _ _).gives h
  · exact h.elim
def C_14 : CallT := addC C_13 80 c_130
theorem C_14_ok : CallsOk prog gl C_14 := addC_ok C_13_ok c_130_ok
theorem vc139 (a0 : Int) (a1 : Int) (a2 : Int) (a3 : Int) (a4 : Int) (a5 : Int) (a6 : Bool) (a7 : Int) (a8 : ByteArray) (a9 : List (List D)) (Q : List R → List (List D) → Prop) : vc E_0 C_0 noI fi44 (f44.body.getD .skip) f44.results.toList [.agg [.v (.int .i64 a0), .v (.int .i64 a1), .v (.int .i64 a2), .v (.int .i64 a3), .v (.int .i64 a4), .v (.int .i64 a5), .v (.bool a6), .v (.int .i64 a7), .v (.string a8), .sl a9]] Q = (
  Q [R.d (D.v (Value.bool (a0 != (2 : Int))))] []) := by kernel_rfl
def s139_0 (a0 : Int) (a1 : Int) (a2 : Int) (a3 : Int) (a4 : Int) (a5 : Int) (a6 : Bool) (a7 : Int) (a8 : ByteArray) (a9 : List (List D)) : Bool := a0 != (2 : Int)
theorem ct139 (a0 : Int) (a1 : Int) (a2 : Int) (a3 : Int) (a4 : Int) (a5 : Int) (a6 : Bool) (a7 : Int) (a8 : ByteArray) (a9 : List (List D)) : Ct prog gl 44 [.agg [.v (.int .i64 a0), .v (.int .i64 a1), .v (.int .i64 a2), .v (.int .i64 a3), .v (.int .i64 a4), .v (.int .i64 a5), .v (.bool a6), .v (.int .i64 a7), .v (.string a8), .sl a9]] (gives [R.d (D.v (Value.bool (s139_0 a0 a1 a2 a3 a4 a5 a6 a7 a8 a9)))]) :=
  ct_of_vc E_ok C_0_ok ioK_no it_ok mixed (fn := f44) (body := f44.body.getD .skip) (by kernel_rfl) (by kernel_rfl) (by kernel_rfl) (fi := fi44) (by kernel_rfl) (by kernel_rfl) ⟨_, _, rfl, rfl⟩ (by
    rw [vc139]
    (repeat' first | exact ⟨rfl, rfl⟩ | apply gsplit <;> intro h)
    all_goals (refine ⟨?_, rfl⟩; simp only [s139_0, *, cond_true, cond_false]))
def c_139 (a : List R) (K : List R → List (List D) → Prop) : Prop := match a with | [.agg [.v (.int .i64 a0), .v (.int .i64 a1), .v (.int .i64 a2), .v (.int .i64 a3), .v (.int .i64 a4), .v (.int .i64 a5), .v (.bool a6), .v (.int .i64 a7), .v (.string a8), .sl a9]] => K [R.d (D.v (Value.bool (s139_0 a0 a1 a2 a3 a4 a5 a6 a7 a8 a9)))] [] | _ => False
theorem c_139_ok (a : List R) (K : List R → List (List D) → Prop) (h : c_139 a K) : Ct prog gl 44 a K := by
  unfold c_139 at h
  split at h
  · exact (ct139 _ _ _ _ _ _ _ _ _ _).gives h
  · exact h.elim
def C_15 : CallT := addC C_14 44 c_139
theorem C_15_ok : CallsOk prog gl C_15 := addC_ok C_14_ok c_139_ok
theorem vc150 (a0 : Int) (Q : List R → List (List D) → Prop) : vc E_0 C_0 noI fi57 (f57.body.getD .skip) f57.results.toList [.d (.v (.int .i64 a0))] Q = (
  Q [R.agg [D.v (Value.int IntKind.i64 a0), D.v (Value.int IntKind.i64 (0 : Int))]] []) := by kernel_rfl
theorem ct150 (a0 : Int) : Ct prog gl 57 [.d (.v (.int .i64 a0))] (gives [R.agg [D.v (Value.int IntKind.i64 a0), D.v (Value.int IntKind.i64 (0 : Int))]]) :=
  ct_of_vc E_ok C_0_ok ioK_no it_ok mixed (fn := f57) (body := f57.body.getD .skip) (by kernel_rfl) (by kernel_rfl) (by kernel_rfl) (fi := fi57) (by kernel_rfl) (by kernel_rfl) ⟨_, _, rfl, rfl⟩ (by
    rw [vc150]
    (repeat' first | exact ⟨rfl, rfl⟩ | apply gsplit <;> intro h)
    all_goals (refine ⟨?_, rfl⟩; simp only [*, cond_true, cond_false]))
def c_150 (a : List R) (K : List R → List (List D) → Prop) : Prop := match a with | [.d (.v (.int .i64 a0))] => K [R.agg [D.v (Value.int IntKind.i64 a0), D.v (Value.int IntKind.i64 (0 : Int))]] [] | _ => False
theorem c_150_ok (a : List R) (K : List R → List (List D) → Prop) (h : c_150 a K) : Ct prog gl 57 a K := by
  unfold c_150 at h
  split at h
  · exact (ct150 _).gives h
  · exact h.elim
def C_16 : CallT := addC C_15 57 c_150
theorem C_16_ok : CallsOk prog gl C_16 := addC_ok C_15_ok c_150_ok
theorem vc158 (a0 : Int) (a1 : Int) (Q : List R → List (List D) → Prop) : vc E_0 C_0 noI fi67 (f67.body.getD .skip) f67.results.toList [.agg [.v (.int .i64 a0), .v (.int .i64 a1)]] Q = (
  Q [R.agg [D.v (Value.int IntKind.i64 a0), D.v (Value.int IntKind.i64 a1), D.v (Value.bool true), D.v (Value.int IntKind.i64 (0 : Int)), D.v
  (Value.string { data := { toList := [] : Array UInt8 } : ByteArray })]] []) := by kernel_rfl
theorem ct158 (a0 : Int) (a1 : Int) : Ct prog gl 67 [.agg [.v (.int .i64 a0), .v (.int .i64 a1)]] (gives [R.agg
    [D.v (Value.int IntKind.i64 a0), D.v (Value.int IntKind.i64 a1), D.v (Value.bool true),
      D.v (Value.int IntKind.i64 (0 : Int)), D.v (Value.string { data := { toList := [] : Array UInt8 } : ByteArray })]]) :=
  ct_of_vc E_ok C_0_ok ioK_no it_ok mixed (fn := f67) (body := f67.body.getD .skip) (by kernel_rfl) (by kernel_rfl) (by kernel_rfl) (fi := fi67) (by kernel_rfl) (by kernel_rfl) ⟨_, _, rfl, rfl⟩ (by
    rw [vc158]
    (repeat' first | exact ⟨rfl, rfl⟩ | apply gsplit <;> intro h)
    all_goals (refine ⟨?_, rfl⟩; simp only [*, cond_true, cond_false]))
def c_158 (a : List R) (K : List R → List (List D) → Prop) : Prop := match a with | [.agg [.v (.int .i64 a0), .v (.int .i64 a1)]] => K [R.agg
    [D.v (Value.int IntKind.i64 a0), D.v (Value.int IntKind.i64 a1), D.v (Value.bool true),
      D.v (Value.int IntKind.i64 (0 : Int)), D.v (Value.string { data := { toList := [] : Array UInt8 } : ByteArray })]] [] | _ => False
theorem c_158_ok (a : List R) (K : List R → List (List D) → Prop) (h : c_158 a K) : Ct prog gl 67 a K := by
  unfold c_158 at h
  split at h
  · exact (ct158 _ _).gives h
  · exact h.elim
def C_17 : CallT := addC C_16 67 c_158
theorem C_17_ok : CallsOk prog gl C_17 := addC_ok C_16_ok c_158_ok
theorem vc160 (a0 : Int) (Q : List R → List (List D) → Prop) : vc E_0 C_0 noI fi69 (f69.body.getD .skip) f69.results.toList [.d (.v (.int .i64 a0))] Q = (
  ((a0 == (0 : Int)) = true → Q [R.d (D.v (Value.int IntKind.i64 (1 : Int)))] []) ∧ ((a0 == (0 : Int)) = false → ((a0 == (1 : Int)) = true → Q [R.d (D.v
  (Value.int IntKind.i64 (0 : Int)))] []) ∧ ((a0 == (1 : Int)) = false → Q [R.d (D.v (Value.int IntKind.i64 (2 : Int)))] []))) := by kernel_rfl
def s160_0 (a0 : Int) : Int := bif a0 == (0 : Int) then (1 : Int) else bif a0 == (1 : Int) then (0 : Int) else (2 : Int)
theorem ct160 (a0 : Int) : Ct prog gl 69 [.d (.v (.int .i64 a0))] (gives [R.d (D.v (Value.int IntKind.i64 (s160_0 a0)))]) :=
  ct_of_vc E_ok C_0_ok ioK_no it_ok mixed (fn := f69) (body := f69.body.getD .skip) (by kernel_rfl) (by kernel_rfl) (by kernel_rfl) (fi := fi69) (by kernel_rfl) (by kernel_rfl) ⟨_, _, rfl, rfl⟩ (by
    rw [vc160]
    (repeat' first | exact ⟨rfl, rfl⟩ | apply gsplit <;> intro h)
    all_goals (refine ⟨?_, rfl⟩; simp only [s160_0, *, cond_true, cond_false]))
def c_160 (a : List R) (K : List R → List (List D) → Prop) : Prop := match a with | [.d (.v (.int .i64 a0))] => K [R.d (D.v (Value.int IntKind.i64 (s160_0 a0)))] [] | _ => False
theorem c_160_ok (a : List R) (K : List R → List (List D) → Prop) (h : c_160 a K) : Ct prog gl 69 a K := by
  unfold c_160 at h
  split at h
  · exact (ct160 _).gives h
  · exact h.elim
def C_18 : CallT := addC C_17 69 c_160
theorem C_18_ok : CallsOk prog gl C_18 := addC_ok C_17_ok c_160_ok
def C_19 : CallT := C_18
theorem C_19_ok : CallsOk prog gl C_19 := C_18_ok
theorem vc179 (a0 : Int) (a1 : Int) (Q : List R → List (List D) → Prop) : vc E_0 C_0 noI fi100 (f100.body.getD .skip) f100.results.toList [.agg [.v (.int .i64 a0), .v (.int .i64 a1)]] Q = (
  Q [R.d (D.v (Value.bool (bif a0 == (2 : Int) then true else a0 == (3 : Int))))] []) := by kernel_rfl
def s179_0 (a0 : Int) (a1 : Int) : Bool := bif a0 == (2 : Int) then true else a0 == (3 : Int)
theorem ct179 (a0 : Int) (a1 : Int) : Ct prog gl 100 [.agg [.v (.int .i64 a0), .v (.int .i64 a1)]] (gives [R.d (D.v (Value.bool (s179_0 a0 a1)))]) :=
  ct_of_vc E_ok C_0_ok ioK_no it_ok mixed (fn := f100) (body := f100.body.getD .skip) (by kernel_rfl) (by kernel_rfl) (by kernel_rfl) (fi := fi100) (by kernel_rfl) (by kernel_rfl) ⟨_, _, rfl, rfl⟩ (by
    rw [vc179]
    (repeat' first | exact ⟨rfl, rfl⟩ | apply gsplit <;> intro h)
    all_goals (refine ⟨?_, rfl⟩; simp only [s179_0, *, cond_true, cond_false]))
def c_179 (a : List R) (K : List R → List (List D) → Prop) : Prop := match a with | [.agg [.v (.int .i64 a0), .v (.int .i64 a1)]] => K [R.d (D.v (Value.bool (s179_0 a0 a1)))] [] | _ => False
theorem c_179_ok (a : List R) (K : List R → List (List D) → Prop) (h : c_179 a K) : Ct prog gl 100 a K := by
  unfold c_179 at h
  split at h
  · exact (ct179 _ _).gives h
  · exact h.elim
def C_20 : CallT := addC C_19 100 c_179
theorem C_20_ok : CallsOk prog gl C_20 := addC_ok C_19_ok c_179_ok
theorem vc188 (a0 : Int) (Q : List R → List (List D) → Prop) : vc E_0 C_0 noI fi97 (f97.body.getD .skip) f97.results.toList [.d (.v (.int .i64 a0))] Q = (
  ((a0 == (3 : Int)) = true → Q [R.d (D.v (Value.int IntKind.i64 (2 : Int)))] []) ∧ ((a0 == (3 : Int)) = false → Q [R.d (D.v (Value.int IntKind.i64 a0))]
  [])) := by kernel_rfl
def s188_0 (a0 : Int) : Int := bif a0 == (3 : Int) then (2 : Int) else a0
theorem ct188 (a0 : Int) : Ct prog gl 97 [.d (.v (.int .i64 a0))] (gives [R.d (D.v (Value.int IntKind.i64 (s188_0 a0)))]) :=
  ct_of_vc E_ok C_0_ok ioK_no it_ok mixed (fn := f97) (body := f97.body.getD .skip) (by kernel_rfl) (by kernel_rfl) (by kernel_rfl) (fi := fi97) (by kernel_rfl) (by kernel_rfl) ⟨_, _, rfl, rfl⟩ (by
    rw [vc188]
    (repeat' first | exact ⟨rfl, rfl⟩ | apply gsplit <;> intro h)
    all_goals (refine ⟨?_, rfl⟩; simp only [s188_0, *, cond_true, cond_false]))
def c_188 (a : List R) (K : List R → List (List D) → Prop) : Prop := match a with | [.d (.v (.int .i64 a0))] => K [R.d (D.v (Value.int IntKind.i64 (s188_0 a0)))] [] | _ => False
theorem c_188_ok (a : List R) (K : List R → List (List D) → Prop) (h : c_188 a K) : Ct prog gl 97 a K := by
  unfold c_188 at h
  split at h
  · exact (ct188 _).gives h
  · exact h.elim
def C_21 : CallT := addC C_20 97 c_188
theorem C_21_ok : CallsOk prog gl C_21 := addC_ok C_20_ok c_188_ok
theorem vc189 (a0 : Bool) (a1 : Bool) (Q : List R → List (List D) → Prop) : vc E_0 C_0 noI fi153 (f153.body.getD .skip) f153.results.toList [.d (.v (.bool a0)), .d (.v (.bool a1))] Q = (
  (a0 = true → Q [R.d (D.v (Value.int IntKind.i64 (-1 : Int)))] []) ∧ (a0 = false → (a1 = true → Q [R.d (D.v (Value.int IntKind.i64 (1 : Int)))] []) ∧
  (a1 = false → Q [R.d (D.v (Value.int IntKind.i64 (0 : Int)))] []))) := by kernel_rfl
def s189_0 (a0 : Bool) (a1 : Bool) : Int := bif a0 then (-1 : Int) else bif a1 then (1 : Int) else (0 : Int)
theorem ct189 (a0 : Bool) (a1 : Bool) : Ct prog gl 153 [.d (.v (.bool a0)), .d (.v (.bool a1))] (gives [R.d (D.v (Value.int IntKind.i64 (s189_0 a0 a1)))]) :=
  ct_of_vc E_ok C_0_ok ioK_no it_ok mixed (fn := f153) (body := f153.body.getD .skip) (by kernel_rfl) (by kernel_rfl) (by kernel_rfl) (fi := fi153) (by kernel_rfl) (by kernel_rfl) ⟨_, _, rfl, rfl⟩ (by
    rw [vc189]
    (repeat' first | exact ⟨rfl, rfl⟩ | apply gsplit <;> intro h)
    all_goals (refine ⟨?_, rfl⟩; simp only [s189_0, *, cond_true, cond_false]))
def c_189 (a : List R) (K : List R → List (List D) → Prop) : Prop := match a with | [.d (.v (.bool a0)), .d (.v (.bool a1))] => K [R.d (D.v (Value.int IntKind.i64 (s189_0 a0 a1)))] [] | _ => False
theorem c_189_ok (a : List R) (K : List R → List (List D) → Prop) (h : c_189 a K) : Ct prog gl 153 a K := by
  unfold c_189 at h
  split at h
  · exact (ct189 _ _).gives h
  · exact h.elim
def C_22 : CallT := addC C_21 153 c_189
theorem C_22_ok : CallsOk prog gl C_22 := addC_ok C_21_ok c_189_ok
theorem vc190 (a0 : Int) (a1 : Int) (a2 : Bool) (a3 : Int) (a4 : ByteArray) (Q : List R → List (List D) → Prop) : vc E_0 C_0 noI fi124 (f124.body.getD .skip) f124.results.toList [.agg [.v (.int .i64 a0), .v (.int .i64 a1), .v (.bool a2), .v (.int .i64 a3), .v (.string a4)]] Q = (
  ((a0 != (3 : Int)) = true → Q [R.d (D.v (Value.int IntKind.i64 (0 : Int)))] []) ∧ ((a0 != (3 : Int)) = false → Q [R.d (D.v (Value.int IntKind.i64 (if
  (18 : Int) < if (0 : Int) > a1 then (0 : Int) else a1 then (18 : Int) else if (0 : Int) > a1 then (0 : Int) else a1)))] [])) := by kernel_rfl
def s190_0 (a0 : Int) (a1 : Int) (a2 : Bool) (a3 : Int) (a4 : ByteArray) : Int := bif a0 != (3 : Int) then (0 : Int)
else
  if (18 : Int) < if (0 : Int) > a1 then (0 : Int) else a1 then (18 : Int) else if (0 : Int) > a1 then (0 : Int) else a1
theorem ct190 (a0 : Int) (a1 : Int) (a2 : Bool) (a3 : Int) (a4 : ByteArray) : Ct prog gl 124 [.agg [.v (.int .i64 a0), .v (.int .i64 a1), .v (.bool a2), .v (.int .i64 a3), .v (.string a4)]] (gives [R.d (D.v (Value.int IntKind.i64 (s190_0 a0 a1 a2 a3 a4)))]) :=
  ct_of_vc E_ok C_0_ok ioK_no it_ok mixed (fn := f124) (body := f124.body.getD .skip) (by kernel_rfl) (by kernel_rfl) (by kernel_rfl) (fi := fi124) (by kernel_rfl) (by kernel_rfl) ⟨_, _, rfl, rfl⟩ (by
    rw [vc190]
    (repeat' first | exact ⟨rfl, rfl⟩ | apply gsplit <;> intro h)
    all_goals (refine ⟨?_, rfl⟩; simp only [s190_0, *, cond_true, cond_false]))
def c_190 (a : List R) (K : List R → List (List D) → Prop) : Prop := match a with | [.agg [.v (.int .i64 a0), .v (.int .i64 a1), .v (.bool a2), .v (.int .i64 a3), .v (.string a4)]] => K [R.d (D.v (Value.int IntKind.i64 (s190_0 a0 a1 a2 a3 a4)))] [] | _ => False
theorem c_190_ok (a : List R) (K : List R → List (List D) → Prop) (h : c_190 a K) : Ct prog gl 124 a K := by
  unfold c_190 at h
  split at h
  · exact (ct190 _ _ _ _ _).gives h
  · exact h.elim
def C_23 : CallT := addC C_22 124 c_190
theorem C_23_ok : CallsOk prog gl C_23 := addC_ok C_22_ok c_190_ok
theorem vc192 (a0 : Int) (a1 : Int) (a2 : Int) (a3 : Int) (Q : List R → List (List D) → Prop) : vc E_0 C_0 noI fi154 (f154.body.getD .skip) f154.results.toList [.agg [.v (.int .i64 a0), .v (.int .u64 a1)], .agg [.v (.int .i64 a2), .v (.int .u64 a3)]] Q = (
  ((bif decide (a0 < a2) then true else bif a0 == a2 then decide (a1 < a3) else false) = true → Q [R.d (D.v (Value.int IntKind.i64 (-1 : Int)))] []) ∧
  ((bif decide (a0 < a2) then true else bif a0 == a2 then decide (a1 < a3) else false) = false → ((a0 == a2 && (a1 == a3 && true)) = true → Q [R.d (D.v
  (Value.int IntKind.i64 (0 : Int)))] []) ∧ ((a0 == a2 && (a1 == a3 && true)) = false → Q [R.d (D.v (Value.int IntKind.i64 (1 : Int)))] []))) := by kernel_rfl
def s192_0 (a0 : Int) (a1 : Int) (a2 : Int) (a3 : Int) : Int := bif bif decide (a0 < a2) then true else bif a0 == a2 then decide (a1 < a3) else false then (-1 : Int)
else bif a0 == a2 && (a1 == a3 && true) then (0 : Int) else (1 : Int)
theorem ct192 (a0 : Int) (a1 : Int) (a2 : Int) (a3 : Int) : Ct prog gl 154 [.agg [.v (.int .i64 a0), .v (.int .u64 a1)], .agg [.v (.int .i64 a2), .v (.int .u64 a3)]] (gives [R.d (D.v (Value.int IntKind.i64 (s192_0 a0 a1 a2 a3)))]) :=
  ct_of_vc E_ok C_0_ok ioK_no it_ok mixed (fn := f154) (body := f154.body.getD .skip) (by kernel_rfl) (by kernel_rfl) (by kernel_rfl) (fi := fi154) (by kernel_rfl) (by kernel_rfl) ⟨_, _, rfl, rfl⟩ (by
    rw [vc192]
    (repeat' first | exact ⟨rfl, rfl⟩ | apply gsplit <;> intro h)
    all_goals (refine ⟨?_, rfl⟩; simp only [s192_0, *, cond_true, cond_false]))
def c_192 (a : List R) (K : List R → List (List D) → Prop) : Prop := match a with | [.agg [.v (.int .i64 a0), .v (.int .u64 a1)], .agg [.v (.int .i64 a2), .v (.int .u64 a3)]] => K [R.d (D.v (Value.int IntKind.i64 (s192_0 a0 a1 a2 a3)))] [] | _ => False
theorem c_192_ok (a : List R) (K : List R → List (List D) → Prop) (h : c_192 a K) : Ct prog gl 154 a K := by
  unfold c_192 at h
  split at h
  · exact (ct192 _ _ _ _).gives h
  · exact h.elim
def C_24 : CallT := addC C_23 154 c_192
theorem C_24_ok : CallsOk prog gl C_24 := addC_ok C_23_ok c_192_ok
theorem vc194 (a0 : Int) (a1 : Int) (Q : List R → List (List D) → Prop) : vc E_0 C_0 noI fi132 (f132.body.getD .skip) f132.results.toList [.d (.v (.int .i64 a0)), .d (.v (.int .i64 a1))] Q = (
  ((bif a0 == (0 : Int) then true else a1 == (0 : Int)) = true → Q [R.d (D.v (Value.int IntKind.i64 (0 : Int)))] []) ∧ ((bif a0 == (0 : Int) then true
  else a1 == (0 : Int)) = false → ((bif a0 == (1 : Int) then a1 == (1 : Int) else false) = true → Q [R.d (D.v (Value.int IntKind.i64 (1 : Int)))] []) ∧
  ((bif a0 == (1 : Int) then a1 == (1 : Int) else false) = false → Q [R.d (D.v (Value.int IntKind.i64 (2 : Int)))] []))) := by kernel_rfl
def s194_0 (a0 : Int) (a1 : Int) : Int := bif bif a0 == (0 : Int) then true else a1 == (0 : Int) then (0 : Int)
else bif bif a0 == (1 : Int) then a1 == (1 : Int) else false then (1 : Int) else (2 : Int)
theorem ct194 (a0 : Int) (a1 : Int) : Ct prog gl 132 [.d (.v (.int .i64 a0)), .d (.v (.int .i64 a1))] (gives [R.d (D.v (Value.int IntKind.i64 (s194_0 a0 a1)))]) :=
  ct_of_vc E_ok C_0_ok ioK_no it_ok mixed (fn := f132) (body := f132.body.getD .skip) (by kernel_rfl) (by kernel_rfl) (by kernel_rfl) (fi := fi132) (by kernel_rfl) (by kernel_rfl) ⟨_, _, rfl, rfl⟩ (by
    rw [vc194]
    (repeat' first | exact ⟨rfl, rfl⟩ | apply gsplit <;> intro h)
    all_goals (refine ⟨?_, rfl⟩; simp only [s194_0, *, cond_true, cond_false]))
def c_194 (a : List R) (K : List R → List (List D) → Prop) : Prop := match a with | [.d (.v (.int .i64 a0)), .d (.v (.int .i64 a1))] => K [R.d (D.v (Value.int IntKind.i64 (s194_0 a0 a1)))] [] | _ => False
theorem c_194_ok (a : List R) (K : List R → List (List D) → Prop) (h : c_194 a K) : Ct prog gl 132 a K := by
  unfold c_194 at h
  split at h
  · exact (ct194 _ _).gives h
  · exact h.elim
def C_25 : CallT := addC C_24 132 c_194
theorem C_25_ok : CallsOk prog gl C_25 := addC_ok C_24_ok c_194_ok
theorem vc195 (a0 : Int) (a1 : Int) (Q : List R → List (List D) → Prop) : vc E_0 C_0 noI fi133 (f133.body.getD .skip) f133.results.toList [.d (.v (.int .i64 a0)), .d (.v (.int .i64 a1))] Q = (
  ((bif a0 == (1 : Int) then true else a1 == (1 : Int)) = true → Q [R.d (D.v (Value.int IntKind.i64 (1 : Int)))] []) ∧ ((bif a0 == (1 : Int) then true
  else a1 == (1 : Int)) = false → ((bif a0 == (0 : Int) then a1 == (0 : Int) else false) = true → Q [R.d (D.v (Value.int IntKind.i64 (0 : Int)))] []) ∧
  ((bif a0 == (0 : Int) then a1 == (0 : Int) else false) = false → Q [R.d (D.v (Value.int IntKind.i64 (2 : Int)))] []))) := by kernel_rfl
def s195_0 (a0 : Int) (a1 : Int) : Int := bif bif a0 == (1 : Int) then true else a1 == (1 : Int) then (1 : Int)
else bif bif a0 == (0 : Int) then a1 == (0 : Int) else false then (0 : Int) else (2 : Int)
theorem ct195 (a0 : Int) (a1 : Int) : Ct prog gl 133 [.d (.v (.int .i64 a0)), .d (.v (.int .i64 a1))] (gives [R.d (D.v (Value.int IntKind.i64 (s195_0 a0 a1)))]) :=
  ct_of_vc E_ok C_0_ok ioK_no it_ok mixed (fn := f133) (body := f133.body.getD .skip) (by kernel_rfl) (by kernel_rfl) (by kernel_rfl) (fi := fi133) (by kernel_rfl) (by kernel_rfl) ⟨_, _, rfl, rfl⟩ (by
    rw [vc195]
    (repeat' first | exact ⟨rfl, rfl⟩ | apply gsplit <;> intro h)
    all_goals (refine ⟨?_, rfl⟩; simp only [s195_0, *, cond_true, cond_false]))
def c_195 (a : List R) (K : List R → List (List D) → Prop) : Prop := match a with | [.d (.v (.int .i64 a0)), .d (.v (.int .i64 a1))] => K [R.d (D.v (Value.int IntKind.i64 (s195_0 a0 a1)))] [] | _ => False
theorem c_195_ok (a : List R) (K : List R → List (List D) → Prop) (h : c_195 a K) : Ct prog gl 133 a K := by
  unfold c_195 at h
  split at h
  · exact (ct195 _ _).gives h
  · exact h.elim
def C_26 : CallT := addC C_25 133 c_195
theorem C_26_ok : CallsOk prog gl C_26 := addC_ok C_25_ok c_195_ok
theorem vc196 (a0 : Int) (a1 : Int) (a2 : Bool) (a3 : Int) (a4 : ByteArray) (Q : List R → List (List D) → Prop) : vc E_0 C_0 noI fi134 (f134.body.getD .skip) f134.results.toList [.agg [.v (.int .i64 a0), .v (.int .i64 a1), .v (.bool a2), .v (.int .i64 a3), .v (.string a4)]] Q = (
  ((a0 != (1 : Int)) = true → Q [R.d (D.v (Value.int IntKind.i64 (0 : Int))), R.d (D.v (Value.int IntKind.i64 (21 : Int)))] []) ∧ ((a0 != (1 : Int)) =
  false → (a2 = true → Q [R.d (D.v (Value.int IntKind.i64 (2 : Int))), R.d (D.v (Value.int IntKind.i64 (0 : Int)))] []) ∧ (a2 = false → ((a3 == (0 :
  Int)) = true → Q [R.d (D.v (Value.int IntKind.i64 (0 : Int))), R.d (D.v (Value.int IntKind.i64 (0 : Int)))] []) ∧ ((a3 == (0 : Int)) = false → Q [R.d
  (D.v (Value.int IntKind.i64 (1 : Int))), R.d (D.v (Value.int IntKind.i64 (0 : Int)))] [])))) := by kernel_rfl
def s196_0 (a0 : Int) (a1 : Int) (a2 : Bool) (a3 : Int) (a4 : ByteArray) : Int := bif a0 != (1 : Int) then (0 : Int) else bif a2 then (2 : Int) else bif a3 == (0 : Int) then (0 : Int) else (1 : Int)
def s196_1 (a0 : Int) (a1 : Int) (a2 : Bool) (a3 : Int) (a4 : ByteArray) : Int := bif a0 != (1 : Int) then (21 : Int) else (0 : Int)
theorem ct196 (a0 : Int) (a1 : Int) (a2 : Bool) (a3 : Int) (a4 : ByteArray) : Ct prog gl 134 [.agg [.v (.int .i64 a0), .v (.int .i64 a1), .v (.bool a2), .v (.int .i64 a3), .v (.string a4)]] (gives [R.d (D.v (Value.int IntKind.i64 (s196_0 a0 a1 a2 a3 a4))), R.d (D.v (Value.int IntKind.i64 (s196_1 a0 a1 a2 a3 a4)))]) :=
  ct_of_vc E_ok C_0_ok ioK_no it_ok mixed (fn := f134) (body := f134.body.getD .skip) (by kernel_rfl) (by kernel_rfl) (by kernel_rfl) (fi := fi134) (by kernel_rfl) (by kernel_rfl) ⟨_, _, rfl, rfl⟩ (by
    rw [vc196]
    (repeat' first | exact ⟨rfl, rfl⟩ | apply gsplit <;> intro h)
    all_goals (refine ⟨?_, rfl⟩; simp only [s196_0, s196_1, *, cond_true, cond_false]))
def c_196 (a : List R) (K : List R → List (List D) → Prop) : Prop := match a with | [.agg [.v (.int .i64 a0), .v (.int .i64 a1), .v (.bool a2), .v (.int .i64 a3), .v (.string a4)]] => K [R.d (D.v (Value.int IntKind.i64 (s196_0 a0 a1 a2 a3 a4))), R.d (D.v (Value.int IntKind.i64 (s196_1 a0 a1 a2 a3 a4)))] [] | _ => False
theorem c_196_ok (a : List R) (K : List R → List (List D) → Prop) (h : c_196 a K) : Ct prog gl 134 a K := by
  unfold c_196 at h
  split at h
  · exact (ct196 _ _ _ _ _).gives h
  · exact h.elim
def C_27 : CallT := addC C_26 134 c_196
theorem C_27_ok : CallsOk prog gl C_27 := addC_ok C_26_ok c_196_ok
theorem vc202 (a0 : Int) (a1 : Int) (Q : List R → List (List D) → Prop) : vc E_0 C_0 noI fi139 (f139.body.getD .skip) f139.results.toList [.d (.v (.int .i64 a0)), .d (.v (.int .i64 a1))] Q = (
  ((decide (IntKind.i64.wrap (a0 + a1) > a0) == decide (a1 > (0 : Int))) = true → Q [R.d (D.v (Value.int IntKind.i64 (IntKind.i64.wrap (a0 + a1)))), R.d
  (D.v (Value.int IntKind.i64 (0 : Int)))] []) ∧ ((decide (IntKind.i64.wrap (a0 + a1) > a0) == decide (a1 > (0 : Int))) = false → Q [R.d (D.v
  (Value.int IntKind.i64 (0 : Int))), R.d (D.v (Value.int IntKind.i64 (10 : Int)))] [])) := by kernel_rfl
def s202_0 (a0 : Int) (a1 : Int) : Int := bif decide (IntKind.i64.wrap (a0 + a1) > a0) == decide (a1 > (0 : Int)) then IntKind.i64.wrap (a0 + a1) else (0 : Int)
def s202_1 (a0 : Int) (a1 : Int) : Int := bif decide (IntKind.i64.wrap (a0 + a1) > a0) == decide (a1 > (0 : Int)) then (0 : Int) else (10 : Int)
theorem ct202 (a0 : Int) (a1 : Int) : Ct prog gl 139 [.d (.v (.int .i64 a0)), .d (.v (.int .i64 a1))] (gives [R.d (D.v (Value.int IntKind.i64 (s202_0 a0 a1))), R.d (D.v (Value.int IntKind.i64 (s202_1 a0 a1)))]) :=
  ct_of_vc E_ok C_0_ok ioK_no it_ok mixed (fn := f139) (body := f139.body.getD .skip) (by kernel_rfl) (by kernel_rfl) (by kernel_rfl) (fi := fi139) (by kernel_rfl) (by kernel_rfl) ⟨_, _, rfl, rfl⟩ (by
    rw [vc202]
    (repeat' first | exact ⟨rfl, rfl⟩ | apply gsplit <;> intro h)
    all_goals (refine ⟨?_, rfl⟩; simp only [s202_0, s202_1, *, cond_true, cond_false]))
def c_202 (a : List R) (K : List R → List (List D) → Prop) : Prop := match a with | [.d (.v (.int .i64 a0)), .d (.v (.int .i64 a1))] => K [R.d (D.v (Value.int IntKind.i64 (s202_0 a0 a1))), R.d (D.v (Value.int IntKind.i64 (s202_1 a0 a1)))] [] | _ => False
theorem c_202_ok (a : List R) (K : List R → List (List D) → Prop) (h : c_202 a K) : Ct prog gl 139 a K := by
  unfold c_202 at h
  split at h
  · exact (ct202 _ _).gives h
  · exact h.elim
def C_28 : CallT := addC C_27 139 c_202
theorem C_28_ok : CallsOk prog gl C_28 := addC_ok C_27_ok c_202_ok
theorem vc203 (a0 : Int) (a1 : Int) (Q : List R → List (List D) → Prop) : vc E_0 C_0 noI fi140 (f140.body.getD .skip) f140.results.toList [.d (.v (.int .i64 a0)), .d (.v (.int .i64 a1))] Q = (
  ((decide (IntKind.i64.wrap (a0 - a1) < a0) == decide (a1 > (0 : Int))) = true → Q [R.d (D.v (Value.int IntKind.i64 (IntKind.i64.wrap (a0 - a1)))), R.d
  (D.v (Value.int IntKind.i64 (0 : Int)))] []) ∧ ((decide (IntKind.i64.wrap (a0 - a1) < a0) == decide (a1 > (0 : Int))) = false → Q [R.d (D.v
  (Value.int IntKind.i64 (0 : Int))), R.d (D.v (Value.int IntKind.i64 (10 : Int)))] [])) := by kernel_rfl
def s203_0 (a0 : Int) (a1 : Int) : Int := bif decide (IntKind.i64.wrap (a0 - a1) < a0) == decide (a1 > (0 : Int)) then IntKind.i64.wrap (a0 - a1) else (0 : Int)
def s203_1 (a0 : Int) (a1 : Int) : Int := bif decide (IntKind.i64.wrap (a0 - a1) < a0) == decide (a1 > (0 : Int)) then (0 : Int) else (10 : Int)
theorem ct203 (a0 : Int) (a1 : Int) : Ct prog gl 140 [.d (.v (.int .i64 a0)), .d (.v (.int .i64 a1))] (gives [R.d (D.v (Value.int IntKind.i64 (s203_0 a0 a1))), R.d (D.v (Value.int IntKind.i64 (s203_1 a0 a1)))]) :=
  ct_of_vc E_ok C_0_ok ioK_no it_ok mixed (fn := f140) (body := f140.body.getD .skip) (by kernel_rfl) (by kernel_rfl) (by kernel_rfl) (fi := fi140) (by kernel_rfl) (by kernel_rfl) ⟨_, _, rfl, rfl⟩ (by
    rw [vc203]
    (repeat' first | exact ⟨rfl, rfl⟩ | apply gsplit <;> intro h)
    all_goals (refine ⟨?_, rfl⟩; simp only [s203_0, s203_1, *, cond_true, cond_false]))
def c_203 (a : List R) (K : List R → List (List D) → Prop) : Prop := match a with | [.d (.v (.int .i64 a0)), .d (.v (.int .i64 a1))] => K [R.d (D.v (Value.int IntKind.i64 (s203_0 a0 a1))), R.d (D.v (Value.int IntKind.i64 (s203_1 a0 a1)))] [] | _ => False
theorem c_203_ok (a : List R) (K : List R → List (List D) → Prop) (h : c_203 a K) : Ct prog gl 140 a K := by
  unfold c_203 at h
  split at h
  · exact (ct203 _ _).gives h
  · exact h.elim
def C_29 : CallT := addC C_28 140 c_203
theorem C_29_ok : CallsOk prog gl C_29 := addC_ok C_28_ok c_203_ok
theorem vc209 (a0 : Int) (Q : List R → List (List D) → Prop) : vc E_0 C_0 noI fi109 (f109.body.getD .skip) f109.results.toList [.d (.v (.int .i64 a0))] Q = (
  ((a0 == (3 : Int)) = true → Q [R.d (D.v (Value.int IntKind.i64 (2 : Int)))] []) ∧ ((a0 == (3 : Int)) = false → Q [R.d (D.v (Value.int IntKind.i64 a0))]
  [])) := by kernel_rfl
def s209_0 (a0 : Int) : Int := bif a0 == (3 : Int) then (2 : Int) else a0
theorem ct209 (a0 : Int) : Ct prog gl 109 [.d (.v (.int .i64 a0))] (gives [R.d (D.v (Value.int IntKind.i64 (s209_0 a0)))]) :=
  ct_of_vc E_ok C_0_ok ioK_no it_ok mixed (fn := f109) (body := f109.body.getD .skip) (by kernel_rfl) (by kernel_rfl) (by kernel_rfl) (fi := fi109) (by kernel_rfl) (by kernel_rfl) ⟨_, _, rfl, rfl⟩ (by
    rw [vc209]
    (repeat' first | exact ⟨rfl, rfl⟩ | apply gsplit <;> intro h)
    all_goals (refine ⟨?_, rfl⟩; simp only [s209_0, *, cond_true, cond_false]))
def c_209 (a : List R) (K : List R → List (List D) → Prop) : Prop := match a with | [.d (.v (.int .i64 a0))] => K [R.d (D.v (Value.int IntKind.i64 (s209_0 a0)))] [] | _ => False
theorem c_209_ok (a : List R) (K : List R → List (List D) → Prop) (h : c_209 a K) : Ct prog gl 109 a K := by
  unfold c_209 at h
  split at h
  · exact (ct209 _).gives h
  · exact h.elim
def C_30 : CallT := addC C_29 109 c_209
theorem C_30_ok : CallsOk prog gl C_30 := addC_ok C_29_ok c_209_ok
theorem vc219 (a0 : Int) (Q : List R → List (List D) → Prop) : vc E_0 C_0 noI fi92 (f92.body.getD .skip) f92.results.toList [.d (.v (.int .i64 a0))] Q = (
  ((a0 == (1 : Int)) = true → Q [R.d (D.v (Value.int IntKind.i64 (2 : Int)))] []) ∧ ((a0 == (1 : Int)) = false → ((a0 == (2 : Int)) = true → Q [R.d (D.v
  (Value.int IntKind.i64 (1 : Int)))] []) ∧ ((a0 == (2 : Int)) = false → ((a0 == (3 : Int)) = true → Q [R.d (D.v (Value.int IntKind.i64 (6 : Int)))]
  []) ∧ ((a0 == (3 : Int)) = false → ((a0 == (6 : Int)) = true → Q [R.d (D.v (Value.int IntKind.i64 (3 : Int)))] []) ∧ ((a0 == (6 : Int)) = false →
  ((a0 == (4 : Int)) = true → Q [R.d (D.v (Value.int IntKind.i64 (5 : Int)))] []) ∧ ((a0 == (4 : Int)) = false → Q [R.d (D.v (Value.int IntKind.i64 (4
  : Int)))] [])))))) := by kernel_rfl
def s219_0 (a0 : Int) : Int := bif a0 == (1 : Int) then (2 : Int)
else
  bif a0 == (2 : Int) then (1 : Int)
  else
    bif a0 == (3 : Int) then (6 : Int)
    else bif a0 == (6 : Int) then (3 : Int) else bif a0 == (4 : Int) then (5 : Int) else (4 : Int)
theorem ct219 (a0 : Int) : Ct prog gl 92 [.d (.v (.int .i64 a0))] (gives [R.d (D.v (Value.int IntKind.i64 (s219_0 a0)))]) :=
  ct_of_vc E_ok C_0_ok ioK_no it_ok mixed (fn := f92) (body := f92.body.getD .skip) (by kernel_rfl) (by kernel_rfl) (by kernel_rfl) (fi := fi92) (by kernel_rfl) (by kernel_rfl) ⟨_, _, rfl, rfl⟩ (by
    rw [vc219]
    (repeat' first | exact ⟨rfl, rfl⟩ | apply gsplit <;> intro h)
    all_goals (refine ⟨?_, rfl⟩; simp only [s219_0, *, cond_true, cond_false]))
def c_219 (a : List R) (K : List R → List (List D) → Prop) : Prop := match a with | [.d (.v (.int .i64 a0))] => K [R.d (D.v (Value.int IntKind.i64 (s219_0 a0)))] [] | _ => False
theorem c_219_ok (a : List R) (K : List R → List (List D) → Prop) (h : c_219 a K) : Ct prog gl 92 a K := by
  unfold c_219 at h
  split at h
  · exact (ct219 _).gives h
  · exact h.elim
def C_31 : CallT := addC C_30 92 c_219
theorem C_31_ok : CallsOk prog gl C_31 := addC_ok C_30_ok c_219_ok
theorem vc221 (a0 : Int) (Q : List R → List (List D) → Prop) : vc E_0 C_0 noI fi94 (f94.body.getD .skip) f94.results.toList [.d (.v (.int .i64 a0))] Q = (
  (decide (a0 < (0 : Int)) = true → Q [R.d (D.v (Value.int IntKind.u64 (IntKind.u64.wrap ((0 : Int) - IntKind.u64.wrap a0))))] []) ∧ (decide (a0 < (0 :
  Int)) = false → Q [R.d (D.v (Value.int IntKind.u64 (IntKind.u64.wrap a0)))] [])) := by kernel_rfl
def s221_0 (a0 : Int) : Int := bif decide (a0 < (0 : Int)) then IntKind.u64.wrap ((0 : Int) - IntKind.u64.wrap a0) else IntKind.u64.wrap a0
theorem ct221 (a0 : Int) : Ct prog gl 94 [.d (.v (.int .i64 a0))] (gives [R.d (D.v (Value.int IntKind.u64 (s221_0 a0)))]) :=
  ct_of_vc E_ok C_0_ok ioK_no it_ok mixed (fn := f94) (body := f94.body.getD .skip) (by kernel_rfl) (by kernel_rfl) (by kernel_rfl) (fi := fi94) (by kernel_rfl) (by kernel_rfl) ⟨_, _, rfl, rfl⟩ (by
    rw [vc221]
    (repeat' first | exact ⟨rfl, rfl⟩ | apply gsplit <;> intro h)
    all_goals (refine ⟨?_, rfl⟩; simp only [s221_0, *, cond_true, cond_false]))
def c_221 (a : List R) (K : List R → List (List D) → Prop) : Prop := match a with | [.d (.v (.int .i64 a0))] => K [R.d (D.v (Value.int IntKind.u64 (s221_0 a0)))] [] | _ => False
theorem c_221_ok (a : List R) (K : List R → List (List D) → Prop) (h : c_221 a K) : Ct prog gl 94 a K := by
  unfold c_221 at h
  split at h
  · exact (ct221 _).gives h
  · exact h.elim
def C_32 : CallT := addC C_31 94 c_221
theorem C_32_ok : CallsOk prog gl C_32 := addC_ok C_31_ok c_221_ok
theorem vc270 (a0 : Int) (a1 : Int) (a2 : Bool) (a3 : Int) (a4 : ByteArray) (Q : List R → List (List D) → Prop) : vc E_0 C_0 noI fi160 (f160.body.getD .skip) f160.results.toList [.agg [.v (.int .i64 a0), .v (.int .i64 a1), .v (.bool a2), .v (.int .i64 a3), .v (.string a4)]] Q = (
  ((a0 != (3 : Int)) = true → Q [R.d (D.v (Value.int IntKind.i64 (0 : Int)))] []) ∧ ((a0 != (3 : Int)) = false → Q [R.d (D.v (Value.int IntKind.i64 (if
  (18 : Int) < if (0 : Int) > a1 then (0 : Int) else a1 then (18 : Int) else if (0 : Int) > a1 then (0 : Int) else a1)))] [])) := by kernel_rfl
def s270_0 (a0 : Int) (a1 : Int) (a2 : Bool) (a3 : Int) (a4 : ByteArray) : Int := bif a0 != (3 : Int) then (0 : Int)
else
  if (18 : Int) < if (0 : Int) > a1 then (0 : Int) else a1 then (18 : Int) else if (0 : Int) > a1 then (0 : Int) else a1
theorem ct270 (a0 : Int) (a1 : Int) (a2 : Bool) (a3 : Int) (a4 : ByteArray) : Ct prog gl 160 [.agg [.v (.int .i64 a0), .v (.int .i64 a1), .v (.bool a2), .v (.int .i64 a3), .v (.string a4)]] (gives [R.d (D.v (Value.int IntKind.i64 (s270_0 a0 a1 a2 a3 a4)))]) :=
  ct_of_vc E_ok C_0_ok ioK_no it_ok mixed (fn := f160) (body := f160.body.getD .skip) (by kernel_rfl) (by kernel_rfl) (by kernel_rfl) (fi := fi160) (by kernel_rfl) (by kernel_rfl) ⟨_, _, rfl, rfl⟩ (by
    rw [vc270]
    (repeat' first | exact ⟨rfl, rfl⟩ | apply gsplit <;> intro h)
    all_goals (refine ⟨?_, rfl⟩; simp only [s270_0, *, cond_true, cond_false]))
def c_270 (a : List R) (K : List R → List (List D) → Prop) : Prop := match a with | [.agg [.v (.int .i64 a0), .v (.int .i64 a1), .v (.bool a2), .v (.int .i64 a3), .v (.string a4)]] => K [R.d (D.v (Value.int IntKind.i64 (s270_0 a0 a1 a2 a3 a4)))] [] | _ => False
theorem c_270_ok (a : List R) (K : List R → List (List D) → Prop) (h : c_270 a K) : Ct prog gl 160 a K := by
  unfold c_270 at h
  split at h
  · exact (ct270 _ _ _ _ _).gives h
  · exact h.elim
def C_33 : CallT := addC C_32 160 c_270
theorem C_33_ok : CallsOk prog gl C_33 := addC_ok C_32_ok c_270_ok
theorem vc276 (a0 : Int) (Q : List R → List (List D) → Prop) : vc E_0 C_0 noI fi173 (f173.body.getD .skip) f173.results.toList [.d (.v (.int .i64 a0))] Q = (
  Q [R.d (D.v (Value.bool (bif decide (a0 ≥ (0 : Int)) then decide (a0 ≤ (18 : Int)) else false)))] []) := by kernel_rfl
def s276_0 (a0 : Int) : Bool := bif decide (a0 ≥ (0 : Int)) then decide (a0 ≤ (18 : Int)) else false
theorem ct276 (a0 : Int) : Ct prog gl 173 [.d (.v (.int .i64 a0))] (gives [R.d (D.v (Value.bool (s276_0 a0)))]) :=
  ct_of_vc E_ok C_0_ok ioK_no it_ok mixed (fn := f173) (body := f173.body.getD .skip) (by kernel_rfl) (by kernel_rfl) (by kernel_rfl) (fi := fi173) (by kernel_rfl) (by kernel_rfl) ⟨_, _, rfl, rfl⟩ (by
    rw [vc276]
    (repeat' first | exact ⟨rfl, rfl⟩ | apply gsplit <;> intro h)
    all_goals (refine ⟨?_, rfl⟩; simp only [s276_0, *, cond_true, cond_false]))
def c_276 (a : List R) (K : List R → List (List D) → Prop) : Prop := match a with | [.d (.v (.int .i64 a0))] => K [R.d (D.v (Value.bool (s276_0 a0)))] [] | _ => False
theorem c_276_ok (a : List R) (K : List R → List (List D) → Prop) (h : c_276 a K) : Ct prog gl 173 a K := by
  unfold c_276 at h
  split at h
  · exact (ct276 _).gives h
  · exact h.elim
def C_34 : CallT := addC C_33 173 c_276
theorem C_34_ok : CallsOk prog gl C_34 := addC_ok C_33_ok c_276_ok
theorem vc288 (a0 : Int) (a1 : Int) (Q : List R → List (List D) → Prop) : vc E_0 C_0 noI fi126 (f126.body.getD .skip) f126.results.toList [.d (.v (.int .i64 a0)), .d (.v (.int .i64 a1))] Q = (
  ((bif bif decide (a1 > (0 : Int)) then decide (a0 > IntKind.i64.wrap ((9223372036854775807 : Int) - a1)) else false then true else bif decide (a1 < (0
  : Int)) then decide (a0 < IntKind.i64.wrap ((-9223372036854775808 : Int) - a1)) else false) = true → Q [R.d (D.v (Value.int IntKind.i64 (0 : Int))),
  R.d (D.v (Value.int IntKind.i64 (10 : Int)))] []) ∧ ((bif bif decide (a1 > (0 : Int)) then decide (a0 > IntKind.i64.wrap ((9223372036854775807 : Int)
  - a1)) else false then true else bif decide (a1 < (0 : Int)) then decide (a0 < IntKind.i64.wrap ((-9223372036854775808 : Int) - a1)) else false) =
  false → Q [R.d (D.v (Value.int IntKind.i64 (IntKind.i64.wrap (a0 + a1)))), R.d (D.v (Value.int IntKind.i64 (0 : Int)))] [])) := by kernel_rfl
def s288_0 (a0 : Int) (a1 : Int) : Int := bif
    bif
        bif decide (a1 > (0 : Int)) then decide (a0 > IntKind.i64.wrap ((9223372036854775807 : Int) - a1))
        else false then
      true
    else
      bif decide (a1 < (0 : Int)) then decide (a0 < IntKind.i64.wrap ((-9223372036854775808 : Int) - a1))
      else false then
  (0 : Int)
else IntKind.i64.wrap (a0 + a1)
def s288_1 (a0 : Int) (a1 : Int) : Int := bif
    bif
        bif decide (a1 > (0 : Int)) then decide (a0 > IntKind.i64.wrap ((9223372036854775807 : Int) - a1))
        else false then
      true
    else
      bif decide (a1 < (0 : Int)) then decide (a0 < IntKind.i64.wrap ((-9223372036854775808 : Int) - a1))
      else false then
  (10 : Int)
else (0 : Int)
theorem ct288 (a0 : Int) (a1 : Int) : Ct prog gl 126 [.d (.v (.int .i64 a0)), .d (.v (.int .i64 a1))] (gives [R.d (D.v (Value.int IntKind.i64 (s288_0 a0 a1))), R.d (D.v (Value.int IntKind.i64 (s288_1 a0 a1)))]) :=
  ct_of_vc E_ok C_0_ok ioK_no it_ok mixed (fn := f126) (body := f126.body.getD .skip) (by kernel_rfl) (by kernel_rfl) (by kernel_rfl) (fi := fi126) (by kernel_rfl) (by kernel_rfl) ⟨_, _, rfl, rfl⟩ (by
    rw [vc288]
    (repeat' first | exact ⟨rfl, rfl⟩ | apply gsplit <;> intro h)
    all_goals (refine ⟨?_, rfl⟩; simp only [s288_0, s288_1, *, cond_true, cond_false]))
def c_288 (a : List R) (K : List R → List (List D) → Prop) : Prop := match a with | [.d (.v (.int .i64 a0)), .d (.v (.int .i64 a1))] => K [R.d (D.v (Value.int IntKind.i64 (s288_0 a0 a1))), R.d (D.v (Value.int IntKind.i64 (s288_1 a0 a1)))] [] | _ => False
theorem c_288_ok (a : List R) (K : List R → List (List D) → Prop) (h : c_288 a K) : Ct prog gl 126 a K := by
  unfold c_288 at h
  split at h
  · exact (ct288 _ _).gives h
  · exact h.elim
def C_35 : CallT := addC C_34 126 c_288
theorem C_35_ok : CallsOk prog gl C_35 := addC_ok C_34_ok c_288_ok
theorem vc289 (a0 : Int) (a1 : Int) (Q : List R → List (List D) → Prop) : vc E_0 C_0 noI fi127 (f127.body.getD .skip) f127.results.toList [.d (.v (.int .i64 a0)), .d (.v (.int .i64 a1))] Q = (
  ((bif bif decide (a1 < (0 : Int)) then decide (a0 > IntKind.i64.wrap ((9223372036854775807 : Int) + a1)) else false then true else bif decide (a1 > (0
  : Int)) then decide (a0 < IntKind.i64.wrap ((-9223372036854775808 : Int) + a1)) else false) = true → Q [R.d (D.v (Value.int IntKind.i64 (0 : Int))),
  R.d (D.v (Value.int IntKind.i64 (10 : Int)))] []) ∧ ((bif bif decide (a1 < (0 : Int)) then decide (a0 > IntKind.i64.wrap ((9223372036854775807 : Int)
  + a1)) else false then true else bif decide (a1 > (0 : Int)) then decide (a0 < IntKind.i64.wrap ((-9223372036854775808 : Int) + a1)) else false) =
  false → Q [R.d (D.v (Value.int IntKind.i64 (IntKind.i64.wrap (a0 - a1)))), R.d (D.v (Value.int IntKind.i64 (0 : Int)))] [])) := by kernel_rfl
def s289_0 (a0 : Int) (a1 : Int) : Int := bif
    bif
        bif decide (a1 < (0 : Int)) then decide (a0 > IntKind.i64.wrap ((9223372036854775807 : Int) + a1))
        else false then
      true
    else
      bif decide (a1 > (0 : Int)) then decide (a0 < IntKind.i64.wrap ((-9223372036854775808 : Int) + a1))
      else false then
  (0 : Int)
else IntKind.i64.wrap (a0 - a1)
def s289_1 (a0 : Int) (a1 : Int) : Int := bif
    bif
        bif decide (a1 < (0 : Int)) then decide (a0 > IntKind.i64.wrap ((9223372036854775807 : Int) + a1))
        else false then
      true
    else
      bif decide (a1 > (0 : Int)) then decide (a0 < IntKind.i64.wrap ((-9223372036854775808 : Int) + a1))
      else false then
  (10 : Int)
else (0 : Int)
theorem ct289 (a0 : Int) (a1 : Int) : Ct prog gl 127 [.d (.v (.int .i64 a0)), .d (.v (.int .i64 a1))] (gives [R.d (D.v (Value.int IntKind.i64 (s289_0 a0 a1))), R.d (D.v (Value.int IntKind.i64 (s289_1 a0 a1)))]) :=
  ct_of_vc E_ok C_0_ok ioK_no it_ok mixed (fn := f127) (body := f127.body.getD .skip) (by kernel_rfl) (by kernel_rfl) (by kernel_rfl) (fi := fi127) (by kernel_rfl) (by kernel_rfl) ⟨_, _, rfl, rfl⟩ (by
    rw [vc289]
    (repeat' first | exact ⟨rfl, rfl⟩ | apply gsplit <;> intro h)
    all_goals (refine ⟨?_, rfl⟩; simp only [s289_0, s289_1, *, cond_true, cond_false]))
def c_289 (a : List R) (K : List R → List (List D) → Prop) : Prop := match a with | [.d (.v (.int .i64 a0)), .d (.v (.int .i64 a1))] => K [R.d (D.v (Value.int IntKind.i64 (s289_0 a0 a1))), R.d (D.v (Value.int IntKind.i64 (s289_1 a0 a1)))] [] | _ => False
theorem c_289_ok (a : List R) (K : List R → List (List D) → Prop) (h : c_289 a K) : Ct prog gl 127 a K := by
  unfold c_289 at h
  split at h
  · exact (ct289 _ _).gives h
  · exact h.elim
def C_36 : CallT := addC C_35 127 c_289
theorem C_36_ok : CallsOk prog gl C_36 := addC_ok C_35_ok c_289_ok
theorem vc331 (a0 : Int) (a1 : Int) (a2 : Int) (a3 : Int) (Q : List R → List (List D) → Prop) : vc E_0 C_0 noI fi176 (f176.body.getD .skip) f176.results.toList [.agg [.v (.int .i64 a0), .v (.int .u64 a1)], .agg [.v (.int .i64 a2), .v (.int .u64 a3)]] Q = (
  ((a0 == a2 && (a1 == a3 && true)) = true → Q [R.d (D.v (Value.int IntKind.i64 (0 : Int)))] []) ∧ ((a0 == a2 && (a1 == a3 && true)) = false → ((bif
  decide (a0 < a2) then true else bif a0 == a2 then decide (a1 < a3) else false) = true → Q [R.d (D.v (Value.int IntKind.i64 (-1 : Int)))] []) ∧ ((bif
  decide (a0 < a2) then true else bif a0 == a2 then decide (a1 < a3) else false) = false → Q [R.d (D.v (Value.int IntKind.i64 (1 : Int)))] []))) := by kernel_rfl
def s331_0 (a0 : Int) (a1 : Int) (a2 : Int) (a3 : Int) : Int := bif a0 == a2 && (a1 == a3 && true) then (0 : Int)
else
  bif bif decide (a0 < a2) then true else bif a0 == a2 then decide (a1 < a3) else false then (-1 : Int) else (1 : Int)
theorem ct331 (a0 : Int) (a1 : Int) (a2 : Int) (a3 : Int) : Ct prog gl 176 [.agg [.v (.int .i64 a0), .v (.int .u64 a1)], .agg [.v (.int .i64 a2), .v (.int .u64 a3)]] (gives [R.d (D.v (Value.int IntKind.i64 (s331_0 a0 a1 a2 a3)))]) :=
  ct_of_vc E_ok C_0_ok ioK_no it_ok mixed (fn := f176) (body := f176.body.getD .skip) (by kernel_rfl) (by kernel_rfl) (by kernel_rfl) (fi := fi176) (by kernel_rfl) (by kernel_rfl) ⟨_, _, rfl, rfl⟩ (by
    rw [vc331]
    (repeat' first | exact ⟨rfl, rfl⟩ | apply gsplit <;> intro h)
    all_goals (refine ⟨?_, rfl⟩; simp only [s331_0, *, cond_true, cond_false]))
def c_331 (a : List R) (K : List R → List (List D) → Prop) : Prop := match a with | [.agg [.v (.int .i64 a0), .v (.int .u64 a1)], .agg [.v (.int .i64 a2), .v (.int .u64 a3)]] => K [R.d (D.v (Value.int IntKind.i64 (s331_0 a0 a1 a2 a3)))] [] | _ => False
theorem c_331_ok (a : List R) (K : List R → List (List D) → Prop) (h : c_331 a K) : Ct prog gl 176 a K := by
  unfold c_331 at h
  split at h
  · exact (ct331 _ _ _ _).gives h
  · exact h.elim
def C_37 : CallT := addC C_36 176 c_331
theorem C_37_ok : CallsOk prog gl C_37 := addC_ok C_36_ok c_331_ok
theorem vc333 (a0 : Int) (a1 : Int) (Q : List R → List (List D) → Prop) : vc E_0 C_0 noI fi178 (f178.body.getD .skip) f178.results.toList [.d (.v (.int .i64 a0)), .d (.v (.int .i64 a1))] Q = (
  (decide (a0 < a1) = true → Q [R.d (D.v (Value.int IntKind.i64 (-1 : Int)))] []) ∧ (decide (a0 < a1) = false → (decide (a0 > a1) = true → Q [R.d (D.v
  (Value.int IntKind.i64 (1 : Int)))] []) ∧ (decide (a0 > a1) = false → Q [R.d (D.v (Value.int IntKind.i64 (0 : Int)))] []))) := by kernel_rfl
def s333_0 (a0 : Int) (a1 : Int) : Int := bif decide (a0 < a1) then (-1 : Int) else bif decide (a0 > a1) then (1 : Int) else (0 : Int)
theorem ct333 (a0 : Int) (a1 : Int) : Ct prog gl 178 [.d (.v (.int .i64 a0)), .d (.v (.int .i64 a1))] (gives [R.d (D.v (Value.int IntKind.i64 (s333_0 a0 a1)))]) :=
  ct_of_vc E_ok C_0_ok ioK_no it_ok mixed (fn := f178) (body := f178.body.getD .skip) (by kernel_rfl) (by kernel_rfl) (by kernel_rfl) (fi := fi178) (by kernel_rfl) (by kernel_rfl) ⟨_, _, rfl, rfl⟩ (by
    rw [vc333]
    (repeat' first | exact ⟨rfl, rfl⟩ | apply gsplit <;> intro h)
    all_goals (refine ⟨?_, rfl⟩; simp only [s333_0, *, cond_true, cond_false]))
def c_333 (a : List R) (K : List R → List (List D) → Prop) : Prop := match a with | [.d (.v (.int .i64 a0)), .d (.v (.int .i64 a1))] => K [R.d (D.v (Value.int IntKind.i64 (s333_0 a0 a1)))] [] | _ => False
theorem c_333_ok (a : List R) (K : List R → List (List D) → Prop) (h : c_333 a K) : Ct prog gl 178 a K := by
  unfold c_333 at h
  split at h
  · exact (ct333 _ _).gives h
  · exact h.elim
def C_38 : CallT := addC C_37 178 c_333
theorem C_38_ok : CallsOk prog gl C_38 := addC_ok C_37_ok c_333_ok
theorem vc354 (a0 : Int) (a1 : Bool) (Q : List R → List (List D) → Prop) : vc E_0 C_0 noI fi152 (f152.body.getD .skip) f152.results.toList [.d (.v (.int .u64 a0)), .d (.v (.bool a1))] Q = (
  ((bif a1 then decide (a0 ≤ (9223372036854775808 : Int)) else false) = true → Q [R.d (D.v (Value.int IntKind.i64 (IntKind.i64.wrap (IntKind.u64.wrap ((0
  : Int) - a0))))), R.d (D.v (Value.int IntKind.i64 (0 : Int)))] []) ∧ ((bif a1 then decide (a0 ≤ (9223372036854775808 : Int)) else false) = false →
  (decide (a0 > (9223372036854775807 : Int)) = true → Q [R.d (D.v (Value.int IntKind.i64 (0 : Int))), R.d (D.v (Value.int IntKind.i64 (10 : Int)))] [])
  ∧ (decide (a0 > (9223372036854775807 : Int)) = false → Q [R.d (D.v (Value.int IntKind.i64 (IntKind.i64.wrap a0))), R.d (D.v (Value.int IntKind.i64 (0
  : Int)))] []))) := by kernel_rfl
def s354_0 (a0 : Int) (a1 : Bool) : Int := bif bif a1 then decide (a0 ≤ (9223372036854775808 : Int)) else false then
  IntKind.i64.wrap (IntKind.u64.wrap ((0 : Int) - a0))
else bif decide (a0 > (9223372036854775807 : Int)) then (0 : Int) else IntKind.i64.wrap a0
def s354_1 (a0 : Int) (a1 : Bool) : Int := bif bif a1 then decide (a0 ≤ (9223372036854775808 : Int)) else false then (0 : Int)
else bif decide (a0 > (9223372036854775807 : Int)) then (10 : Int) else (0 : Int)
theorem ct354 (a0 : Int) (a1 : Bool) : Ct prog gl 152 [.d (.v (.int .u64 a0)), .d (.v (.bool a1))] (gives [R.d (D.v (Value.int IntKind.i64 (s354_0 a0 a1))), R.d (D.v (Value.int IntKind.i64 (s354_1 a0 a1)))]) :=
  ct_of_vc E_ok C_0_ok ioK_no it_ok mixed (fn := f152) (body := f152.body.getD .skip) (by kernel_rfl) (by kernel_rfl) (by kernel_rfl) (fi := fi152) (by kernel_rfl) (by kernel_rfl) ⟨_, _, rfl, rfl⟩ (by
    rw [vc354]
    (repeat' first | exact ⟨rfl, rfl⟩ | apply gsplit <;> intro h)
    all_goals (refine ⟨?_, rfl⟩; simp only [s354_0, s354_1, *, cond_true, cond_false]))
def c_354 (a : List R) (K : List R → List (List D) → Prop) : Prop := match a with | [.d (.v (.int .u64 a0)), .d (.v (.bool a1))] => K [R.d (D.v (Value.int IntKind.i64 (s354_0 a0 a1))), R.d (D.v (Value.int IntKind.i64 (s354_1 a0 a1)))] [] | _ => False
theorem c_354_ok (a : List R) (K : List R → List (List D) → Prop) (h : c_354 a K) : Ct prog gl 152 a K := by
  unfold c_354 at h
  split at h
  · exact (ct354 _ _).gives h
  · exact h.elim
def C_39 : CallT := addC C_38 152 c_354
theorem C_39_ok : CallsOk prog gl C_39 := addC_ok C_38_ok c_354_ok
theorem vc376 (a0 : Int) (Q : List R → List (List D) → Prop) : vc E_0 C_0 noI fi184 (f184.body.getD .skip) f184.results.toList [.d (.v (.int .i32 a0))] Q = (
  ((bif decide (a0 ≥ (97 : Int)) then decide (a0 ≤ (122 : Int)) else false) = true → Q [R.d (D.v (Value.int IntKind.i32 (IntKind.i32.wrap (a0 - (32 :
  Int)))))] []) ∧ ((bif decide (a0 ≥ (97 : Int)) then decide (a0 ≤ (122 : Int)) else false) = false → Q [R.d (D.v (Value.int IntKind.i32 a0))] [])) := by kernel_rfl
def s376_0 (a0 : Int) : Int := bif bif decide (a0 ≥ (97 : Int)) then decide (a0 ≤ (122 : Int)) else false then IntKind.i32.wrap (a0 - (32 : Int))
else a0
theorem ct376 (a0 : Int) : Ct prog gl 184 [.d (.v (.int .i32 a0))] (gives [R.d (D.v (Value.int IntKind.i32 (s376_0 a0)))]) :=
  ct_of_vc E_ok C_0_ok ioK_no it_ok mixed (fn := f184) (body := f184.body.getD .skip) (by kernel_rfl) (by kernel_rfl) (by kernel_rfl) (fi := fi184) (by kernel_rfl) (by kernel_rfl) ⟨_, _, rfl, rfl⟩ (by
    rw [vc376]
    (repeat' first | exact ⟨rfl, rfl⟩ | apply gsplit <;> intro h)
    all_goals (refine ⟨?_, rfl⟩; simp only [s376_0, *, cond_true, cond_false]))
def c_376 (a : List R) (K : List R → List (List D) → Prop) : Prop := match a with | [.d (.v (.int .i32 a0))] => K [R.d (D.v (Value.int IntKind.i32 (s376_0 a0)))] [] | _ => False
theorem c_376_ok (a : List R) (K : List R → List (List D) → Prop) (h : c_376 a K) : Ct prog gl 184 a K := by
  unfold c_376 at h
  split at h
  · exact (ct376 _).gives h
  · exact h.elim
def C_40 : CallT := addC C_39 184 c_376
theorem C_40_ok : CallsOk prog gl C_40 := addC_ok C_39_ok c_376_ok
theorem vc385 (a0 : Bool) (Q : List R → List (List D) → Prop) : vc E_0 C_0 noI fi263 (f263.body.getD .skip) f263.results.toList [.d (.v (.bool a0))] Q = (
  (a0 = true → Q [R.d (D.v (Value.int IntKind.i64 (1 : Int)))] []) ∧ (a0 = false → Q [R.d (D.v (Value.int IntKind.i64 (0 : Int)))] [])) := by kernel_rfl
def s385_0 (a0 : Bool) : Int := bif a0 then (1 : Int) else (0 : Int)
theorem ct385 (a0 : Bool) : Ct prog gl 263 [.d (.v (.bool a0))] (gives [R.d (D.v (Value.int IntKind.i64 (s385_0 a0)))]) :=
  ct_of_vc E_ok C_0_ok ioK_no it_ok mixed (fn := f263) (body := f263.body.getD .skip) (by kernel_rfl) (by kernel_rfl) (by kernel_rfl) (fi := fi263) (by kernel_rfl) (by kernel_rfl) ⟨_, _, rfl, rfl⟩ (by
    rw [vc385]
    (repeat' first | exact ⟨rfl, rfl⟩ | apply gsplit <;> intro h)
    all_goals (refine ⟨?_, rfl⟩; simp only [s385_0, *, cond_true, cond_false]))
def c_385 (a : List R) (K : List R → List (List D) → Prop) : Prop := match a with | [.d (.v (.bool a0))] => K [R.d (D.v (Value.int IntKind.i64 (s385_0 a0)))] [] | _ => False
theorem c_385_ok (a : List R) (K : List R → List (List D) → Prop) (h : c_385 a K) : Ct prog gl 263 a K := by
  unfold c_385 at h
  split at h
  · exact (ct385 _).gives h
  · exact h.elim
def C_41 : CallT := addC C_40 263 c_385
theorem C_41_ok : CallsOk prog gl C_41 := addC_ok C_40_ok c_385_ok
theorem vc386 (a0 : Int) (Q : List R → List (List D) → Prop) : vc E_0 C_0 noI fi264 (f264.body.getD .skip) f264.results.toList [.d (.v (.int .i64 a0))] Q = (
  Q [R.d (D.v (Value.bool (aInt.bits BinOp.and IntKind.i64 a0 (IntKind.i64.wrap (a0 - (1 : Int))) == (0 : Int))))] []) := by kernel_rfl
def s386_0 (a0 : Int) : Bool := aInt.bits BinOp.and IntKind.i64 a0 (IntKind.i64.wrap (a0 - (1 : Int))) == (0 : Int)
theorem ct386 (a0 : Int) : Ct prog gl 264 [.d (.v (.int .i64 a0))] (gives [R.d (D.v (Value.bool (s386_0 a0)))]) :=
  ct_of_vc E_ok C_0_ok ioK_no it_ok mixed (fn := f264) (body := f264.body.getD .skip) (by kernel_rfl) (by kernel_rfl) (by kernel_rfl) (fi := fi264) (by kernel_rfl) (by kernel_rfl) ⟨_, _, rfl, rfl⟩ (by
    rw [vc386]
    (repeat' first | exact ⟨rfl, rfl⟩ | apply gsplit <;> intro h)
    all_goals (refine ⟨?_, rfl⟩; simp only [s386_0, *, cond_true, cond_false]))
def c_386 (a : List R) (K : List R → List (List D) → Prop) : Prop := match a with | [.d (.v (.int .i64 a0))] => K [R.d (D.v (Value.bool (s386_0 a0)))] [] | _ => False
theorem c_386_ok (a : List R) (K : List R → List (List D) → Prop) (h : c_386 a K) : Ct prog gl 264 a K := by
  unfold c_386 at h
  split at h
  · exact (ct386 _).gives h
  · exact h.elim
def C_42 : CallT := addC C_41 264 c_386
theorem C_42_ok : CallsOk prog gl C_42 := addC_ok C_41_ok c_386_ok
def C_43 : CallT := C_42
theorem C_43_ok : CallsOk prog gl C_43 := C_42_ok
def C_44 : CallT := C_43
theorem C_44_ok : CallsOk prog gl C_44 := C_43_ok
def C_45 : CallT := C_44
theorem C_45_ok : CallsOk prog gl C_45 := C_44_ok
theorem vc421 (a0 : Int) (Q : List R → List (List D) → Prop) : vc E_0 C_0 noI fi198 (f198.body.getD .skip) f198.results.toList [.d (.v (.int .i32 a0))] Q = (
  (decide (a0 < (0 : Int)) = true → Q [R.d (D.v (Value.int IntKind.i64 (-1 : Int)))] []) ∧ (decide (a0 < (0 : Int)) = false → (decide (a0 ≤ (127 : Int))
  = true → Q [R.d (D.v (Value.int IntKind.i64 (1 : Int)))] []) ∧ (decide (a0 ≤ (127 : Int)) = false → (decide (a0 ≤ (2047 : Int)) = true → Q [R.d (D.v
  (Value.int IntKind.i64 (2 : Int)))] []) ∧ (decide (a0 ≤ (2047 : Int)) = false → ((bif decide ((55296 : Int) ≤ a0) then decide (a0 ≤ (57343 : Int))
  else false) = true → Q [R.d (D.v (Value.int IntKind.i64 (-1 : Int)))] []) ∧ ((bif decide ((55296 : Int) ≤ a0) then decide (a0 ≤ (57343 : Int)) else
  false) = false → (decide (a0 ≤ (65535 : Int)) = true → Q [R.d (D.v (Value.int IntKind.i64 (3 : Int)))] []) ∧ (decide (a0 ≤ (65535 : Int)) = false →
  (decide (a0 ≤ (1114111 : Int)) = true → Q [R.d (D.v (Value.int IntKind.i64 (4 : Int)))] []) ∧ (decide (a0 ≤ (1114111 : Int)) = false → Q [R.d (D.v
  (Value.int IntKind.i64 (-1 : Int)))] []))))))) := by kernel_rfl
def s421_0 (a0 : Int) : Int := bif decide (a0 < (0 : Int)) then (-1 : Int)
else
  bif decide (a0 ≤ (127 : Int)) then (1 : Int)
  else
    bif decide (a0 ≤ (2047 : Int)) then (2 : Int)
    else
      bif bif decide ((55296 : Int) ≤ a0) then decide (a0 ≤ (57343 : Int)) else false then (-1 : Int)
      else
        bif decide (a0 ≤ (65535 : Int)) then (3 : Int)
        else bif decide (a0 ≤ (1114111 : Int)) then (4 : Int) else (-1 : Int)
theorem ct421 (a0 : Int) : Ct prog gl 198 [.d (.v (.int .i32 a0))] (gives [R.d (D.v (Value.int IntKind.i64 (s421_0 a0)))]) :=
  ct_of_vc E_ok C_0_ok ioK_no it_ok mixed (fn := f198) (body := f198.body.getD .skip) (by kernel_rfl) (by kernel_rfl) (by kernel_rfl) (fi := fi198) (by kernel_rfl) (by kernel_rfl) ⟨_, _, rfl, rfl⟩ (by
    rw [vc421]
    (repeat' first | exact ⟨rfl, rfl⟩ | apply gsplit <;> intro h)
    all_goals (refine ⟨?_, rfl⟩; simp only [s421_0, *, cond_true, cond_false]))
def c_421 (a : List R) (K : List R → List (List D) → Prop) : Prop := match a with | [.d (.v (.int .i32 a0))] => K [R.d (D.v (Value.int IntKind.i64 (s421_0 a0)))] [] | _ => False
theorem c_421_ok (a : List R) (K : List R → List (List D) → Prop) (h : c_421 a K) : Ct prog gl 198 a K := by
  unfold c_421 at h
  split at h
  · exact (ct421 _).gives h
  · exact h.elim
def C_46 : CallT := addC C_45 198 c_421
theorem C_46_ok : CallsOk prog gl C_46 := addC_ok C_45_ok c_421_ok
def C_47 : CallT := C_46
theorem C_47_ok : CallsOk prog gl C_47 := C_46_ok
theorem vc467 (a0 : Int) (Q : List R → List (List D) → Prop) : vc E_0 C_0 noI fi253 (f253.body.getD .skip) f253.results.toList [.d (.v (.int .u8 a0))] Q = (
  Q [R.d (D.v (Value.int IntKind.u8 (aInt.bits BinOp.or IntKind.u8 a0 (32 : Int))))] []) := by kernel_rfl
def s467_0 (a0 : Int) : Int := aInt.bits BinOp.or IntKind.u8 a0 (32 : Int)
theorem ct467 (a0 : Int) : Ct prog gl 253 [.d (.v (.int .u8 a0))] (gives [R.d (D.v (Value.int IntKind.u8 (s467_0 a0)))]) :=
  ct_of_vc E_ok C_0_ok ioK_no it_ok mixed (fn := f253) (body := f253.body.getD .skip) (by kernel_rfl) (by kernel_rfl) (by kernel_rfl) (fi := fi253) (by kernel_rfl) (by kernel_rfl) ⟨_, _, rfl, rfl⟩ (by
    rw [vc467]
    (repeat' first | exact ⟨rfl, rfl⟩ | apply gsplit <;> intro h)
    all_goals (refine ⟨?_, rfl⟩; simp only [s467_0, *, cond_true, cond_false]))
def c_467 (a : List R) (K : List R → List (List D) → Prop) : Prop := match a with | [.d (.v (.int .u8 a0))] => K [R.d (D.v (Value.int IntKind.u8 (s467_0 a0)))] [] | _ => False
theorem c_467_ok (a : List R) (K : List R → List (List D) → Prop) (h : c_467 a K) : Ct prog gl 253 a K := by
  unfold c_467 at h
  split at h
  · exact (ct467 _).gives h
  · exact h.elim
def C_48 : CallT := addC C_47 253 c_467
theorem C_48_ok : CallsOk prog gl C_48 := addC_ok C_47_ok c_467_ok
theorem vc473 (a0 : Int) (Q : List R → List (List D) → Prop) : vc E_0 C_0 noI fi269 (f269.body.getD .skip) f269.results.toList [.d (.v (.int .u8 a0))] Q = (
  Q [R.d (D.v (Value.bool (aInt.bits BinOp.and IntKind.u8 a0 (192 : Int) != (128 : Int))))] []) := by kernel_rfl
def s473_0 (a0 : Int) : Bool := aInt.bits BinOp.and IntKind.u8 a0 (192 : Int) != (128 : Int)
theorem ct473 (a0 : Int) : Ct prog gl 269 [.d (.v (.int .u8 a0))] (gives [R.d (D.v (Value.bool (s473_0 a0)))]) :=
  ct_of_vc E_ok C_0_ok ioK_no it_ok mixed (fn := f269) (body := f269.body.getD .skip) (by kernel_rfl) (by kernel_rfl) (by kernel_rfl) (fi := fi269) (by kernel_rfl) (by kernel_rfl) ⟨_, _, rfl, rfl⟩ (by
    rw [vc473]
    (repeat' first | exact ⟨rfl, rfl⟩ | apply gsplit <;> intro h)
    all_goals (refine ⟨?_, rfl⟩; simp only [s473_0, *, cond_true, cond_false]))
def c_473 (a : List R) (K : List R → List (List D) → Prop) : Prop := match a with | [.d (.v (.int .u8 a0))] => K [R.d (D.v (Value.bool (s473_0 a0)))] [] | _ => False
theorem c_473_ok (a : List R) (K : List R → List (List D) → Prop) (h : c_473 a K) : Ct prog gl 269 a K := by
  unfold c_473 at h
  split at h
  · exact (ct473 _).gives h
  · exact h.elim
def C_49 : CallT := addC C_48 269 c_473
theorem C_49_ok : CallsOk prog gl C_49 := addC_ok C_48_ok c_473_ok
theorem vc476 (a0 : Int) (Q : List R → List (List D) → Prop) : vc E_0 C_0 noI fi275 (f275.body.getD .skip) f275.results.toList [.d (.v (.int .i32 a0))] Q = (
  ((bif decide ((0 : Int) ≤ a0) then decide (a0 < (55296 : Int)) else false) = true → Q [R.d (D.v (Value.bool true))] []) ∧ ((bif decide ((0 : Int) ≤ a0)
  then decide (a0 < (55296 : Int)) else false) = false → ((bif decide ((57343 : Int) < a0) then decide (a0 ≤ (1114111 : Int)) else false) = true → Q
  [R.d (D.v (Value.bool true))] []) ∧ ((bif decide ((57343 : Int) < a0) then decide (a0 ≤ (1114111 : Int)) else false) = false → Q [R.d (D.v
  (Value.bool false))] []))) := by kernel_rfl
def s476_0 (a0 : Int) : Bool := bif bif decide ((0 : Int) ≤ a0) then decide (a0 < (55296 : Int)) else false then true
else bif bif decide ((57343 : Int) < a0) then decide (a0 ≤ (1114111 : Int)) else false then true else false
theorem ct476 (a0 : Int) : Ct prog gl 275 [.d (.v (.int .i32 a0))] (gives [R.d (D.v (Value.bool (s476_0 a0)))]) :=
  ct_of_vc E_ok C_0_ok ioK_no it_ok mixed (fn := f275) (body := f275.body.getD .skip) (by kernel_rfl) (by kernel_rfl) (by kernel_rfl) (fi := fi275) (by kernel_rfl) (by kernel_rfl) ⟨_, _, rfl, rfl⟩ (by
    rw [vc476]
    (repeat' first | exact ⟨rfl, rfl⟩ | apply gsplit <;> intro h)
    all_goals (refine ⟨?_, rfl⟩; simp only [s476_0, *, cond_true, cond_false]))
def c_476 (a : List R) (K : List R → List (List D) → Prop) : Prop := match a with | [.d (.v (.int .i32 a0))] => K [R.d (D.v (Value.bool (s476_0 a0)))] [] | _ => False
theorem c_476_ok (a : List R) (K : List R → List (List D) → Prop) (h : c_476 a K) : Ct prog gl 275 a K := by
  unfold c_476 at h
  split at h
  · exact (ct476 _).gives h
  · exact h.elim
def C_50 : CallT := addC C_49 275 c_476
theorem C_50_ok : CallsOk prog gl C_50 := addC_ok C_49_ok c_476_ok
def C_51 : CallT := C_50
theorem C_51_ok : CallsOk prog gl C_51 := C_50_ok
def C_52 : CallT := C_51
theorem C_52_ok : CallsOk prog gl C_52 := C_51_ok
theorem vc60 (a0 : Int) (a1 : Int) (Q : List R → List (List D) → Prop) : vc E_0 C_52 noI fi37 (f37.body.getD .skip) f37.results.toList [.agg [.v (.int .i64 a0), .v (.int .i64 a1)]] Q = (
  ((bif bif bif decide (a0 < (1 : Int)) then true else decide (a0 > (5 : Int)) then true else !s124_0 a1 then true else bif a1 != (0 : Int) then a0 != (3
  : Int) else false) = true → Q [R.d (D.v (Value.int IntKind.i64 (21 : Int)))] []) ∧ ((bif bif bif decide (a0 < (1 : Int)) then true else decide (a0 >
  (5 : Int)) then true else !s124_0 a1 then true else bif a1 != (0 : Int) then a0 != (3 : Int) else false) = false → Q [R.d (D.v (Value.int IntKind.i64
  (0 : Int)))] [])) := by kernel_rfl
def s60_0 (a0 : Int) (a1 : Int) : Int := bif
    bif bif bif decide (a0 < (1 : Int)) then true else decide (a0 > (5 : Int)) then true else !s124_0 a1 then true
    else bif a1 != (0 : Int) then a0 != (3 : Int) else false then
  (21 : Int)
else (0 : Int)
theorem ct60 (a0 : Int) (a1 : Int) : Ct prog gl 37 [.agg [.v (.int .i64 a0), .v (.int .i64 a1)]] (gives [R.d (D.v (Value.int IntKind.i64 (s60_0 a0 a1)))]) :=
  ct_of_vc E_ok C_52_ok ioK_no it_ok mixed (fn := f37) (body := f37.body.getD .skip) (by kernel_rfl) (by kernel_rfl) (by kernel_rfl) (fi := fi37) (by kernel_rfl) (by kernel_rfl) ⟨_, _, rfl, rfl⟩ (by
    rw [vc60]
    (repeat' first | exact ⟨rfl, rfl⟩ | apply gsplit <;> intro h)
    all_goals (refine ⟨?_, rfl⟩; simp only [s60_0, *, cond_true, cond_false]))
def c_60 (a : List R) (K : List R → List (List D) → Prop) : Prop := match a with | [.agg [.v (.int .i64 a0), .v (.int .i64 a1)]] => K [R.d (D.v (Value.int IntKind.i64 (s60_0 a0 a1)))] [] | _ => False
theorem c_60_ok (a : List R) (K : List R → List (List D) → Prop) (h : c_60 a K) : Ct prog gl 37 a K := by
  unfold c_60 at h
  split at h
  · exact (ct60 _ _).gives h
  · exact h.elim
def C_53 : CallT := addC C_52 37 c_60
theorem C_53_ok : CallsOk prog gl C_53 := addC_ok C_52_ok c_60_ok
theorem vc111 (a0 : Int) (a1 : Int) (a2 : Int) (a3 : Int) (Q : List R → List (List D) → Prop) : vc E_0 C_52 noI fi58 (f58.body.getD .skip) f58.results.toList [.agg [.v (.int .i64 a0), .v (.int .i64 a1)], .agg [.v (.int .i64 a2), .v (.int .i64 a3)]] Q = (
  Q [R.d (D.v (Value.bool (bif bif s188_0 a0 == s188_0 a2 then decide (a0 ≥ (1 : Int)) else false then decide (a0 ≤ (5 : Int)) else false)))] []) := by kernel_rfl
def s111_0 (a0 : Int) (a1 : Int) (a2 : Int) (a3 : Int) : Bool := bif bif s188_0 a0 == s188_0 a2 then decide (a0 ≥ (1 : Int)) else false then decide (a0 ≤ (5 : Int)) else false
theorem ct111 (a0 : Int) (a1 : Int) (a2 : Int) (a3 : Int) : Ct prog gl 58 [.agg [.v (.int .i64 a0), .v (.int .i64 a1)], .agg [.v (.int .i64 a2), .v (.int .i64 a3)]] (gives [R.d (D.v (Value.bool (s111_0 a0 a1 a2 a3)))]) :=
  ct_of_vc E_ok C_52_ok ioK_no it_ok mixed (fn := f58) (body := f58.body.getD .skip) (by kernel_rfl) (by kernel_rfl) (by kernel_rfl) (fi := fi58) (by kernel_rfl) (by kernel_rfl) ⟨_, _, rfl, rfl⟩ (by
    rw [vc111]
    (repeat' first | exact ⟨rfl, rfl⟩ | apply gsplit <;> intro h)
    all_goals (refine ⟨?_, rfl⟩; simp only [s111_0, *, cond_true, cond_false]))
def c_111 (a : List R) (K : List R → List (List D) → Prop) : Prop := match a with | [.agg [.v (.int .i64 a0), .v (.int .i64 a1)], .agg [.v (.int .i64 a2), .v (.int .i64 a3)]] => K [R.d (D.v (Value.bool (s111_0 a0 a1 a2 a3)))] [] | _ => False
theorem c_111_ok (a : List R) (K : List R → List (List D) → Prop) (h : c_111 a K) : Ct prog gl 58 a K := by
  unfold c_111 at h
  split at h
  · exact (ct111 _ _ _ _).gives h
  · exact h.elim
def C_54 : CallT := addC C_53 58 c_111
theorem C_54_ok : CallsOk prog gl C_54 := addC_ok C_53_ok c_111_ok
theorem vc129 (a0 : Int) (a1 : Int) (a2 : Int) (a3 : Int) (Q : List R → List (List D) → Prop) : vc E_0 C_52 noI fi79 (f79.body.getD .skip) f79.results.toList [.agg [.v (.int .i64 a0), .v (.int .i64 a1)], .agg [.v (.int .i64 a2), .v (.int .i64 a3)]] Q = (
  Q [R.d (D.v (Value.bool (bif bif decide (a0 ≥ (1 : Int)) then decide (a0 ≤ (5 : Int)) else false then s209_0 a0 == s209_0 a2 else false)))] []) := by kernel_rfl
def s129_0 (a0 : Int) (a1 : Int) (a2 : Int) (a3 : Int) : Bool := bif bif decide (a0 ≥ (1 : Int)) then decide (a0 ≤ (5 : Int)) else false then s209_0 a0 == s209_0 a2 else false
theorem ct129 (a0 : Int) (a1 : Int) (a2 : Int) (a3 : Int) : Ct prog gl 79 [.agg [.v (.int .i64 a0), .v (.int .i64 a1)], .agg [.v (.int .i64 a2), .v (.int .i64 a3)]] (gives [R.d (D.v (Value.bool (s129_0 a0 a1 a2 a3)))]) :=
  ct_of_vc E_ok C_52_ok ioK_no it_ok mixed (fn := f79) (body := f79.body.getD .skip) (by kernel_rfl) (by kernel_rfl) (by kernel_rfl) (fi := fi79) (by kernel_rfl) (by kernel_rfl) ⟨_, _, rfl, rfl⟩ (by
    rw [vc129]
    (repeat' first | exact ⟨rfl, rfl⟩ | apply gsplit <;> intro h)
    all_goals (refine ⟨?_, rfl⟩; simp only [s129_0, *, cond_true, cond_false]))
def c_129 (a : List R) (K : List R → List (List D) → Prop) : Prop := match a with | [.agg [.v (.int .i64 a0), .v (.int .i64 a1)], .agg [.v (.int .i64 a2), .v (.int .i64 a3)]] => K [R.d (D.v (Value.bool (s129_0 a0 a1 a2 a3)))] [] | _ => False
theorem c_129_ok (a : List R) (K : List R → List (List D) → Prop) (h : c_129 a K) : Ct prog gl 79 a K := by
  unfold c_129 at h
  split at h
  · exact (ct129 _ _ _ _).gives h
  · exact h.elim
def C_55 : CallT := addC C_54 79 c_129
theorem C_55_ok : CallsOk prog gl C_55 := addC_ok C_54_ok c_129_ok
theorem vc153 (a0 : Int) (a1 : Int) (a2 : Int) (Q : List R → List (List D) → Prop) : vc E_0 C_52 noI fi61 (f61.body.getD .skip) f61.results.toList [.agg [.v (.int .i64 a0), .v (.int .i64 a1)], .d (.v (.int .i64 a2))] Q = (
  Q [R.d (D.v (Value.bool (bif bif bif a0 == a2 then true else a0 == (4 : Int) then true else a2 == (4 : Int) then true else bif s179_0 a0 a1 then bif a2
  == (2 : Int) then true else a2 == (3 : Int) else false)))] []) := by kernel_rfl
def s153_0 (a0 : Int) (a1 : Int) (a2 : Int) : Bool := bif bif bif a0 == a2 then true else a0 == (4 : Int) then true else a2 == (4 : Int) then true
else bif s179_0 a0 a1 then bif a2 == (2 : Int) then true else a2 == (3 : Int) else false
theorem ct153 (a0 : Int) (a1 : Int) (a2 : Int) : Ct prog gl 61 [.agg [.v (.int .i64 a0), .v (.int .i64 a1)], .d (.v (.int .i64 a2))] (gives [R.d (D.v (Value.bool (s153_0 a0 a1 a2)))]) :=
  ct_of_vc E_ok C_52_ok ioK_no it_ok mixed (fn := f61) (body := f61.body.getD .skip) (by kernel_rfl) (by kernel_rfl) (by kernel_rfl) (fi := fi61) (by kernel_rfl) (by kernel_rfl) ⟨_, _, rfl, rfl⟩ (by
    rw [vc153]
    (repeat' first | exact ⟨rfl, rfl⟩ | apply gsplit <;> intro h)
    all_goals (refine ⟨?_, rfl⟩; simp only [s153_0, *, cond_true, cond_false]))
def c_153 (a : List R) (K : List R → List (List D) → Prop) : Prop := match a with | [.agg [.v (.int .i64 a0), .v (.int .i64 a1)], .d (.v (.int .i64 a2))] => K [R.d (D.v (Value.bool (s153_0 a0 a1 a2)))] [] | _ => False
theorem c_153_ok (a : List R) (K : List R → List (List D) → Prop) (h : c_153 a K) : Ct prog gl 61 a K := by
  unfold c_153 at h
  split at h
  · exact (ct153 _ _ _).gives h
  · exact h.elim
def C_56 : CallT := addC C_55 61 c_153
theorem C_56_ok : CallsOk prog gl C_56 := addC_ok C_55_ok c_153_ok
theorem vc159 (a0 : Int) (Q : List R → List (List D) → Prop) : vc E_0 C_52 noI fi68 (f68.body.getD .skip) f68.results.toList [.d (.v (.int .i64 a0))] Q = (
  ((a0 == (2 : Int)) = true → Q [R.agg [D.v (Value.int IntKind.i64 (1 : Int)), D.v (Value.int IntKind.i64 (0 : Int)), D.v (Value.bool true), D.v
  (Value.int IntKind.i64 (0 : Int)), D.v (Value.string { data := { toList := [] : Array UInt8 } : ByteArray })]] []) ∧ ((a0 == (2 : Int)) = false → Q
  [R.agg [D.v (Value.int IntKind.i64 (1 : Int)), D.v (Value.int IntKind.i64 (0 : Int)), D.v (Value.bool false), D.v (Value.int IntKind.i64 (s72_0 (a0
  == (1 : Int)))), D.v (Value.string { data := { toList := [] : Array UInt8 } : ByteArray })]] [])) := by kernel_rfl
def s159_0 (a0 : Int) : Bool := bif a0 == (2 : Int) then true else false
def s159_1 (a0 : Int) : Int := bif a0 == (2 : Int) then (0 : Int) else s72_0 (a0 == (1 : Int))
theorem ct159 (a0 : Int) : Ct prog gl 68 [.d (.v (.int .i64 a0))] (gives [R.agg
    [D.v (Value.int IntKind.i64 (1 : Int)), D.v (Value.int IntKind.i64 (0 : Int)), D.v (Value.bool (s159_0 a0)),
      D.v (Value.int IntKind.i64 (s159_1 a0)), D.v (Value.string { data := { toList := [] : Array UInt8 } : ByteArray })]]) :=
  ct_of_vc E_ok C_52_ok ioK_no it_ok mixed (fn := f68) (body := f68.body.getD .skip) (by kernel_rfl) (by kernel_rfl) (by kernel_rfl) (fi := fi68) (by kernel_rfl) (by kernel_rfl) ⟨_, _, rfl, rfl⟩ (by
    rw [vc159]
    (repeat' first | exact ⟨rfl, rfl⟩ | apply gsplit <;> intro h)
    all_goals (refine ⟨?_, rfl⟩; simp only [s159_0, s159_1, *, cond_true, cond_false]))
def c_159 (a : List R) (K : List R → List (List D) → Prop) : Prop := match a with | [.d (.v (.int .i64 a0))] => K [R.agg
    [D.v (Value.int IntKind.i64 (1 : Int)), D.v (Value.int IntKind.i64 (0 : Int)), D.v (Value.bool (s159_0 a0)),
      D.v (Value.int IntKind.i64 (s159_1 a0)), D.v (Value.string { data := { toList := [] : Array UInt8 } : ByteArray })]] [] | _ => False
theorem c_159_ok (a : List R) (K : List R → List (List D) → Prop) (h : c_159 a K) : Ct prog gl 68 a K := by
  unfold c_159 at h
  split at h
  · exact (ct159 _).gives h
  · exact h.elim
def C_57 : CallT := addC C_56 68 c_159
theorem C_57_ok : CallsOk prog gl C_57 := addC_ok C_56_ok c_159_ok
theorem vc161 (a0 : Int) (a1 : Int) (a2 : Bool) (a3 : Int) (a4 : ByteArray) (Q : List R → List (List D) → Prop) : vc E_0 C_52 noI fi70 (f70.body.getD .skip) f70.results.toList [.agg [.v (.int .i64 a0), .v (.int .i64 a1), .v (.bool a2), .v (.int .i64 a3), .v (.string a4)]] Q = (
  Q [R.d (D.v (Value.int IntKind.i64 (s110_0 a0 a1 a2 a3 a4)))] []) := by kernel_rfl
def s161_0 (a0 : Int) (a1 : Int) (a2 : Bool) (a3 : Int) (a4 : ByteArray) : Int := s110_0 a0 a1 a2 a3 a4
theorem ct161 (a0 : Int) (a1 : Int) (a2 : Bool) (a3 : Int) (a4 : ByteArray) : Ct prog gl 70 [.agg [.v (.int .i64 a0), .v (.int .i64 a1), .v (.bool a2), .v (.int .i64 a3), .v (.string a4)]] (gives [R.d (D.v (Value.int IntKind.i64 (s161_0 a0 a1 a2 a3 a4)))]) :=
  ct_of_vc E_ok C_52_ok ioK_no it_ok mixed (fn := f70) (body := f70.body.getD .skip) (by kernel_rfl) (by kernel_rfl) (by kernel_rfl) (fi := fi70) (by kernel_rfl) (by kernel_rfl) ⟨_, _, rfl, rfl⟩ (by
    rw [vc161]
    (repeat' first | exact ⟨rfl, rfl⟩ | apply gsplit <;> intro h)
    all_goals (refine ⟨?_, rfl⟩; simp only [s161_0, *, cond_true, cond_false]))
def c_161 (a : List R) (K : List R → List (List D) → Prop) : Prop := match a with | [.agg [.v (.int .i64 a0), .v (.int .i64 a1), .v (.bool a2), .v (.int .i64 a3), .v (.string a4)]] => K [R.d (D.v (Value.int IntKind.i64 (s161_0 a0 a1 a2 a3 a4)))] [] | _ => False
theorem c_161_ok (a : List R) (K : List R → List (List D) → Prop) (h : c_161 a K) : Ct prog gl 70 a K := by
  unfold c_161 at h
  split at h
  · exact (ct161 _ _ _ _ _).gives h
  · exact h.elim
def C_58 : CallT := addC C_57 70 c_161
theorem C_58_ok : CallsOk prog gl C_58 := addC_ok C_57_ok c_161_ok
theorem vc207 (a0 : Int) (Q : List R → List (List D) → Prop) : vc E_0 C_52 noI fi144 (f144.body.getD .skip) f144.results.toList [.d (.v (.int .i64 a0))] Q = (
  Q [R.d (D.v (Value.int IntKind.i64 (s203_0 (0 : Int) a0))), R.d (D.v (Value.int IntKind.i64 (s203_1 (0 : Int) a0)))] []) := by kernel_rfl
def s207_0 (a0 : Int) : Int := s203_0 (0 : Int) a0
def s207_1 (a0 : Int) : Int := s203_1 (0 : Int) a0
theorem ct207 (a0 : Int) : Ct prog gl 144 [.d (.v (.int .i64 a0))] (gives [R.d (D.v (Value.int IntKind.i64 (s207_0 a0))), R.d (D.v (Value.int IntKind.i64 (s207_1 a0)))]) :=
  ct_of_vc E_ok C_52_ok ioK_no it_ok mixed (fn := f144) (body := f144.body.getD .skip) (by kernel_rfl) (by kernel_rfl) (by kernel_rfl) (fi := fi144) (by kernel_rfl) (by kernel_rfl) ⟨_, _, rfl, rfl⟩ (by
    rw [vc207]
    (repeat' first | exact ⟨rfl, rfl⟩ | apply gsplit <;> intro h)
    all_goals (refine ⟨?_, rfl⟩; simp only [s207_0, s207_1, *, cond_true, cond_false]))
def c_207 (a : List R) (K : List R → List (List D) → Prop) : Prop := match a with | [.d (.v (.int .i64 a0))] => K [R.d (D.v (Value.int IntKind.i64 (s207_0 a0))), R.d (D.v (Value.int IntKind.i64 (s207_1 a0)))] [] | _ => False
theorem c_207_ok (a : List R) (K : List R → List (List D) → Prop) (h : c_207 a K) : Ct prog gl 144 a K := by
  unfold c_207 at h
  split at h
  · exact (ct207 _).gives h
  · exact h.elim
def C_59 : CallT := addC C_58 144 c_207
theorem C_59_ok : CallsOk prog gl C_59 := addC_ok C_58_ok c_207_ok
theorem vc225 (a0 : Int) (a1 : Int) (Q : List R → List (List D) → Prop) : vc E_0 C_52 noI fi102 (f102.body.getD .skip) f102.results.toList [.d (.v (.int .i64 a0)), .d (.v (.int .i64 a1))] Q = (
  Q [R.d (D.v (Value.int IntKind.i64 (s160_0 (s50_0 (s160_0 a0) (s160_0 a1)))))] []) := by kernel_rfl
def s225_0 (a0 : Int) (a1 : Int) : Int := s160_0 (s50_0 (s160_0 a0) (s160_0 a1))
theorem ct225 (a0 : Int) (a1 : Int) : Ct prog gl 102 [.d (.v (.int .i64 a0)), .d (.v (.int .i64 a1))] (gives [R.d (D.v (Value.int IntKind.i64 (s225_0 a0 a1)))]) :=
  ct_of_vc E_ok C_52_ok ioK_no it_ok mixed (fn := f102) (body := f102.body.getD .skip) (by kernel_rfl) (by kernel_rfl) (by kernel_rfl) (fi := fi102) (by kernel_rfl) (by kernel_rfl) ⟨_, _, rfl, rfl⟩ (by
    rw [vc225]
    (repeat' first | exact ⟨rfl, rfl⟩ | apply gsplit <;> intro h)
    all_goals (refine ⟨?_, rfl⟩; simp only [s225_0, *, cond_true, cond_false]))
def c_225 (a : List R) (K : List R → List (List D) → Prop) : Prop := match a with | [.d (.v (.int .i64 a0)), .d (.v (.int .i64 a1))] => K [R.d (D.v (Value.int IntKind.i64 (s225_0 a0 a1)))] [] | _ => False
theorem c_225_ok (a : List R) (K : List R → List (List D) → Prop) (h : c_225 a K) : Ct prog gl 102 a K := by
  unfold c_225 at h
  split at h
  · exact (ct225 _ _).gives h
  · exact h.elim
def C_60 : CallT := addC C_59 102 c_225
theorem C_60_ok : CallsOk prog gl C_60 := addC_ok C_59_ok c_225_ok
theorem vc285 (a0 : Int) (a1 : Int) (Q : List R → List (List D) → Prop) : vc E_0 C_52 noI fi121 (f121.body.getD .skip) f121.results.toList [.d (.v (.int .i64 a0)), .d (.v (.int .i64 a1))] Q = (
  Q [R.d (D.v (Value.bool (bif bif decide (a0 ≥ (1 : Int)) then decide (a0 ≤ (5 : Int)) else false then bif bif bif a0 == a1 then true else a1 == (4 :
  Int) then true else a0 == (4 : Int) then true else s188_0 a0 == s188_0 a1 else false)))] []) := by kernel_rfl
def s285_0 (a0 : Int) (a1 : Int) : Bool := bif bif decide (a0 ≥ (1 : Int)) then decide (a0 ≤ (5 : Int)) else false then
  bif bif bif a0 == a1 then true else a1 == (4 : Int) then true else a0 == (4 : Int) then true
  else s188_0 a0 == s188_0 a1
else false
theorem ct285 (a0 : Int) (a1 : Int) : Ct prog gl 121 [.d (.v (.int .i64 a0)), .d (.v (.int .i64 a1))] (gives [R.d (D.v (Value.bool (s285_0 a0 a1)))]) :=
  ct_of_vc E_ok C_52_ok ioK_no it_ok mixed (fn := f121) (body := f121.body.getD .skip) (by kernel_rfl) (by kernel_rfl) (by kernel_rfl) (fi := fi121) (by kernel_rfl) (by kernel_rfl) ⟨_, _, rfl, rfl⟩ (by
    rw [vc285]
    (repeat' first | exact ⟨rfl, rfl⟩ | apply gsplit <;> intro h)
    all_goals (refine ⟨?_, rfl⟩; simp only [s285_0, *, cond_true, cond_false]))
def c_285 (a : List R) (K : List R → List (List D) → Prop) : Prop := match a with | [.d (.v (.int .i64 a0)), .d (.v (.int .i64 a1))] => K [R.d (D.v (Value.bool (s285_0 a0 a1)))] [] | _ => False
theorem c_285_ok (a : List R) (K : List R → List (List D) → Prop) (h : c_285 a K) : Ct prog gl 121 a K := by
  unfold c_285 at h
  split at h
  · exact (ct285 _ _).gives h
  · exact h.elim
def C_61 : CallT := addC C_60 121 c_285
theorem C_61_ok : CallsOk prog gl C_61 := addC_ok C_60_ok c_285_ok
theorem vc293 (a0 : Int) (Q : List R → List (List D) → Prop) : vc E_0 C_52 noI fi131 (f131.body.getD .skip) f131.results.toList [.d (.v (.int .i64 a0))] Q = (
  Q [R.d (D.v (Value.int IntKind.i64 (s289_0 (0 : Int) a0))), R.d (D.v (Value.int IntKind.i64 (s289_1 (0 : Int) a0)))] []) := by kernel_rfl
def s293_0 (a0 : Int) : Int := s289_0 (0 : Int) a0
def s293_1 (a0 : Int) : Int := s289_1 (0 : Int) a0
theorem ct293 (a0 : Int) : Ct prog gl 131 [.d (.v (.int .i64 a0))] (gives [R.d (D.v (Value.int IntKind.i64 (s293_0 a0))), R.d (D.v (Value.int IntKind.i64 (s293_1 a0)))]) :=
  ct_of_vc E_ok C_52_ok ioK_no it_ok mixed (fn := f131) (body := f131.body.getD .skip) (by kernel_rfl) (by kernel_rfl) (by kernel_rfl) (fi := fi131) (by kernel_rfl) (by kernel_rfl) ⟨_, _, rfl, rfl⟩ (by
    rw [vc293]
    (repeat' first | exact ⟨rfl, rfl⟩ | apply gsplit <;> intro h)
    all_goals (refine ⟨?_, rfl⟩; simp only [s293_0, s293_1, *, cond_true, cond_false]))
def c_293 (a : List R) (K : List R → List (List D) → Prop) : Prop := match a with | [.d (.v (.int .i64 a0))] => K [R.d (D.v (Value.int IntKind.i64 (s293_0 a0))), R.d (D.v (Value.int IntKind.i64 (s293_1 a0)))] [] | _ => False
theorem c_293_ok (a : List R) (K : List R → List (List D) → Prop) (h : c_293 a K) : Ct prog gl 131 a K := by
  unfold c_293 at h
  split at h
  · exact (ct293 _).gives h
  · exact h.elim
def C_62 : CallT := addC C_61 131 c_293
theorem C_62_ok : CallsOk prog gl C_62 := addC_ok C_61_ok c_293_ok
def C_63 : CallT := C_62
theorem C_63_ok : CallsOk prog gl C_63 := C_62_ok
theorem vc56 (a0 : Int) (a1 : Int) (a2 : Bool) (a3 : Int) (a4 : ByteArray) (Q : List R → List (List D) → Prop) : vc E_0 C_63 noI fi75 (f75.body.getD .skip) f75.results.toList [.agg [.v (.int .i64 a0), .v (.int .i64 a1), .v (.bool a2), .v (.int .i64 a3), .v (.string a4)]] Q = (
  ((s60_0 a0 a1 != (0 : Int)) = true → Q [R.d (D.v (Value.int IntKind.i64 (s60_0 a0 a1)))] []) ∧ ((s60_0 a0 a1 != (0 : Int)) = false → (a2 = true →
  ((!bif a4 == { data := { toList := [] : Array UInt8 } : ByteArray } then a3 == (0 : Int) else false) = true → Q [R.d (D.v (Value.int IntKind.i64 (20
  : Int)))] []) ∧ ((!bif a4 == { data := { toList := [] : Array UInt8 } : ByteArray } then a3 == (0 : Int) else false) = false → Q [R.d (D.v (Value.int
  IntKind.i64 (0 : Int)))] [])) ∧ (a2 = false → ((a0 == (1 : Int)) = true → ((!bif a4 == { data := { toList := [] : Array UInt8 } : ByteArray } then
  bif a3 == (0 : Int) then true else a3 == (1 : Int) else false) = true → Q [R.d (D.v (Value.int IntKind.i64 (20 : Int)))] []) ∧ ((!bif a4 == { data := { toList := [] : Array UInt8 } : ByteArray }
  then bif a3 == (0 : Int) then true else a3 == (1 : Int) else false) = false → Q [R.d (D.v (Value.int IntKind.i64 (0 : Int)))] [])) ∧ ((a0 == (1 :
  Int)) = false → ((a0 == (3 : Int)) = true → ((!bif a4 == { data := { toList := [] : Array UInt8 } : ByteArray } then s114_0 a3 else false) = true → Q
  [R.d (D.v (Value.int IntKind.i64 (20 : Int)))] []) ∧ ((!bif a4 == { data := { toList := [] : Array UInt8 } : ByteArray } then s114_0 a3 else false) =
  false → Q [R.d (D.v (Value.int IntKind.i64 (0 : Int)))] [])) ∧ ((a0 == (3 : Int)) = false → ((a0 == (5 : Int)) = true → ((!bif bif a4 == { data := { toList := [] : Array UInt8 } : ByteArray }
  then decide (a3 ≥ (-719162 : Int)) else false then decide (a3 ≤ (2932896 : Int)) else false) = true → Q [R.d (D.v (Value.int IntKind.i64 (20 :
  Int)))] []) ∧ ((!bif bif a4 == { data := { toList := [] : Array UInt8 } : ByteArray } then decide (a3 ≥ (-719162 : Int)) else false then decide (a3 ≤
  (2932896 : Int)) else false) = false → Q [R.d (D.v (Value.int IntKind.i64 (0 : Int)))] [])) ∧ ((a0 == (5 : Int)) = false → ((a0 == (4 : Int)) = true
  → ((!bif a3 == (0 : Int) then decide ((↑a4.size : Int) ≤ (256 : Int)) else false) = true → Q [R.d (D.v (Value.int IntKind.i64 (20 : Int)))] []) ∧
  ((!bif a3 == (0 : Int) then decide ((↑a4.size : Int) ≤ (256 : Int)) else false) = false → Q [R.d (D.v (Value.int IntKind.i64 (0 : Int)))] [])) ∧ ((a0
  == (4 : Int)) = false → ((!a4 == { data := { toList := [] : Array UInt8 } : ByteArray }) = true → Q [R.d (D.v (Value.int IntKind.i64 (20 : Int)))]
  []) ∧ ((!a4 == { data := { toList := [] : Array UInt8 } : ByteArray }) = false → Q [R.d (D.v (Value.int IntKind.i64 (0 : Int)))] [])))))))) := by kernel_rfl
def s56_0 (a0 : Int) (a1 : Int) (a2 : Bool) (a3 : Int) (a4 : ByteArray) : Int := bif s60_0 a0 a1 != (0 : Int) then s60_0 a0 a1
else
  bif a2 then
    bif !bif a4 == { data := { toList := [] : Array UInt8 } : ByteArray } then a3 == (0 : Int) else false then
      (20 : Int)
    else (0 : Int)
  else
    bif a0 == (1 : Int) then
      bif
          !bif a4 == { data := { toList := [] : Array UInt8 } : ByteArray } then
              bif a3 == (0 : Int) then true else a3 == (1 : Int)
            else false then
        (20 : Int)
      else (0 : Int)
    else
      bif a0 == (3 : Int) then
        bif !bif a4 == { data := { toList := [] : Array UInt8 } : ByteArray } then s114_0 a3 else false then (20 : Int)
        else (0 : Int)
      else
        bif a0 == (5 : Int) then
          bif
              !bif
                    bif a4 == { data := { toList := [] : Array UInt8 } : ByteArray } then decide (a3 ≥ (-719162 : Int))
                    else false then
                  decide (a3 ≤ (2932896 : Int))
                else false then
            (20 : Int)
          else (0 : Int)
        else
          bif a0 == (4 : Int) then
            bif !bif a3 == (0 : Int) then decide ((↑a4.size : Int) ≤ (256 : Int)) else false then (20 : Int)
            else (0 : Int)
          else bif !a4 == { data := { toList := [] : Array UInt8 } : ByteArray } then (20 : Int) else (0 : Int)
theorem ct56 (a0 : Int) (a1 : Int) (a2 : Bool) (a3 : Int) (a4 : ByteArray) : Ct prog gl 75 [.agg [.v (.int .i64 a0), .v (.int .i64 a1), .v (.bool a2), .v (.int .i64 a3), .v (.string a4)]] (gives [R.d (D.v (Value.int IntKind.i64 (s56_0 a0 a1 a2 a3 a4)))]) :=
  ct_of_vc E_ok C_63_ok ioK_no it_ok mixed (fn := f75) (body := f75.body.getD .skip) (by kernel_rfl) (by kernel_rfl) (by kernel_rfl) (fi := fi75) (by kernel_rfl) (by kernel_rfl) ⟨_, _, rfl, rfl⟩ (by
    rw [vc56]
    (repeat' first | exact ⟨rfl, rfl⟩ | apply gsplit <;> intro h)
    all_goals (refine ⟨?_, rfl⟩; simp only [s56_0, *, cond_true, cond_false]))
def c_56 (a : List R) (K : List R → List (List D) → Prop) : Prop := match a with | [.agg [.v (.int .i64 a0), .v (.int .i64 a1), .v (.bool a2), .v (.int .i64 a3), .v (.string a4)]] => K [R.d (D.v (Value.int IntKind.i64 (s56_0 a0 a1 a2 a3 a4)))] [] | _ => False
theorem c_56_ok (a : List R) (K : List R → List (List D) → Prop) (h : c_56 a K) : Ct prog gl 75 a K := by
  unfold c_56 at h
  split at h
  · exact (ct56 _ _ _ _ _).gives h
  · exact h.elim
def C_64 : CallT := addC C_63 75 c_56
theorem C_64_ok : CallsOk prog gl C_64 := addC_ok C_63_ok c_56_ok
theorem vc59 (a0 : Int) (a1 : Int) (Q : List R → List (List D) → Prop) : vc E_0 C_63 noI fi36 (f36.body.getD .skip) f36.results.toList [.agg [.v (.int .i64 a0), .v (.int .i64 a1)]] Q = (
  Q [R.d (D.v (Value.bool (s60_0 a0 a1 != (0 : Int))))] []) := by kernel_rfl
def s59_0 (a0 : Int) (a1 : Int) : Bool := s60_0 a0 a1 != (0 : Int)
theorem ct59 (a0 : Int) (a1 : Int) : Ct prog gl 36 [.agg [.v (.int .i64 a0), .v (.int .i64 a1)]] (gives [R.d (D.v (Value.bool (s59_0 a0 a1)))]) :=
  ct_of_vc E_ok C_63_ok ioK_no it_ok mixed (fn := f36) (body := f36.body.getD .skip) (by kernel_rfl) (by kernel_rfl) (by kernel_rfl) (fi := fi36) (by kernel_rfl) (by kernel_rfl) ⟨_, _, rfl, rfl⟩ (by
    rw [vc59]
    (repeat' first | exact ⟨rfl, rfl⟩ | apply gsplit <;> intro h)
    all_goals (refine ⟨?_, rfl⟩; simp only [s59_0, *, cond_true, cond_false]))
def c_59 (a : List R) (K : List R → List (List D) → Prop) : Prop := match a with | [.agg [.v (.int .i64 a0), .v (.int .i64 a1)]] => K [R.d (D.v (Value.bool (s59_0 a0 a1)))] [] | _ => False
theorem c_59_ok (a : List R) (K : List R → List (List D) → Prop) (h : c_59 a K) : Ct prog gl 36 a K := by
  unfold c_59 at h
  split at h
  · exact (ct59 _ _).gives h
  · exact h.elim
def C_65 : CallT := addC C_64 36 c_59
theorem C_65_ok : CallsOk prog gl C_65 := addC_ok C_64_ok c_59_ok
theorem vc55 (a0 : Int) (a1 : Int) (a2 : Bool) (a3 : Int) (a4 : ByteArray) (Q : List R → List (List D) → Prop) : vc E_0 C_65 noI fi87 (f87.body.getD .skip) f87.results.toList [.agg [.v (.int .i64 a0), .v (.int .i64 a1), .v (.bool a2), .v (.int .i64 a3), .v (.string a4)]] Q = (
  Q [R.d (D.v (Value.bool (s56_0 a0 a1 a2 a3 a4 != (0 : Int))))] []) := by kernel_rfl
def s55_0 (a0 : Int) (a1 : Int) (a2 : Bool) (a3 : Int) (a4 : ByteArray) : Bool := s56_0 a0 a1 a2 a3 a4 != (0 : Int)
theorem ct55 (a0 : Int) (a1 : Int) (a2 : Bool) (a3 : Int) (a4 : ByteArray) : Ct prog gl 87 [.agg [.v (.int .i64 a0), .v (.int .i64 a1), .v (.bool a2), .v (.int .i64 a3), .v (.string a4)]] (gives [R.d (D.v (Value.bool (s55_0 a0 a1 a2 a3 a4)))]) :=
  ct_of_vc E_ok C_65_ok ioK_no it_ok mixed (fn := f87) (body := f87.body.getD .skip) (by kernel_rfl) (by kernel_rfl) (by kernel_rfl) (fi := fi87) (by kernel_rfl) (by kernel_rfl) ⟨_, _, rfl, rfl⟩ (by
    rw [vc55]
    (repeat' first | exact ⟨rfl, rfl⟩ | apply gsplit <;> intro h)
    all_goals (refine ⟨?_, rfl⟩; simp only [s55_0, *, cond_true, cond_false]))
def c_55 (a : List R) (K : List R → List (List D) → Prop) : Prop := match a with | [.agg [.v (.int .i64 a0), .v (.int .i64 a1), .v (.bool a2), .v (.int .i64 a3), .v (.string a4)]] => K [R.d (D.v (Value.bool (s55_0 a0 a1 a2 a3 a4)))] [] | _ => False
theorem c_55_ok (a : List R) (K : List R → List (List D) → Prop) (h : c_55 a K) : Ct prog gl 87 a K := by
  unfold c_55 at h
  split at h
  · exact (ct55 _ _ _ _ _).gives h
  · exact h.elim
def C_66 : CallT := addC C_65 87 c_55
theorem C_66_ok : CallsOk prog gl C_66 := addC_ok C_65_ok c_55_ok
end Go.Proofs.Tryz
