/- A part of the proof: contracts of functions, by a verified generator of conditions; no condition of its own. -/
import Derived.Test.YtgjghnooiaaeiaaGreatDoorB1
namespace Go.Proofs.Tryz
open Go Go.Dm
set_option maxRecDepth 100000
variable {gl : Nat → Option Obj}
def C_0 : CallT := fun _ _ _ => False
theorem C_0_ok : CallsOk prog gl C_0 := fun _ _ _ h => h.elim
theorem vc50 (a0 : Int) (a1 : Int) (Q : KT) : vc E_0 C_0 noI fi14 (f14.body.getD .skip) f14.results.toList [.d (.v (.int .i64 a0)), .d (.v (.int .i64 a1))] Q = ( ((bif a0 == 0 then true else a1 == 0) = true → Q [.d (.i 0)] []) ∧ ((bif a0 == 0 then true else a1 == 0) = false → ((bif a0 == 1 then a1 == 1 else false) = true → Q [.d (.i 1)] []) ∧ ((bif a0 == 1 then a1 == 1 else false) = false → Q [.d (.i 2)] []))) := by kernel_rfl
def s50_0 (a0 : Int) (a1 : Int) : Int := bif bif a0 == (0 : Int) then true else a1 == (0 : Int) then (0 : Int)
else bif bif a0 == (1 : Int) then a1 == (1 : Int) else false then (1 : Int) else (2 : Int)
theorem ct50 (a0 : Int) (a1 : Int) : Ct prog gl 14 [.d (.v (.int .i64 a0)), .d (.v (.int .i64 a1))] (gives [R.d (D.v (Value.int IntKind.i64 (s50_0 a0 a1)))]) :=
 ctv C_0_ok f14 fi14 ⟨_, _, rfl, rfl⟩ (by
   rw [vc50]
   (repeat' first | exact ⟨rfl, rfl⟩ | apply gsplit <;> intro h)
   all_goals (refine ⟨?_, rfl⟩; simp only [s50_0, *, cond_true, cond_false]))
def c_50 (a : List R) (K : KT) : Prop := match a with | [.d (.v (.int .i64 a0)), .d (.v (.int .i64 a1))] => K [R.d (D.v (Value.int IntKind.i64 (s50_0 a0 a1)))] [] | _ => False
theorem c_50_ok (a : List R) (K : KT) (h : c_50 a K) : Ct prog gl 14 a K := by
 unfold c_50 at h
 split at h
 · exact (ct50 _ _).gives h
 · exact h.elim
def C_1 : CallT := addC C_0 14 c_50
theorem C_1_ok : CallsOk prog gl C_1 := addC_ok C_0_ok c_50_ok
def Zfu (a0' a1 : Int) : List R := [.agg [.i a0', .i 0, .v (.bool false), .i a1, .v (.string ⟨⟨[]⟩⟩)]]
theorem vc65 (a0 : Int) (Q : KT) : vc E_0 C_0 noI fi134 (f134.body.getD .skip) f134.results.toList [.d (.v (.int .i64 a0))] Q = ( Q (Zfu (2 : Int) a0) []) := by kernel_rfl
theorem ct65 (a0 : Int) : Ct prog gl 134 [.d (.v (.int .i64 a0))] (gives [R.agg
   [D.v (Value.int IntKind.i64 (2 : Int)), D.v (Value.int IntKind.i64 (0 : Int)), D.v (Value.bool false),
     D.v (Value.int IntKind.i64 a0), D.v (Value.string { data := { toList := [] : Array UInt8 } : ByteArray })]]) :=
 ctv C_0_ok f134 fi134 ⟨_, _, rfl, rfl⟩ (by
   rw [vc65]; dsimp -eta -iota -proj only [Zfu]
   (repeat' first | exact ⟨rfl, rfl⟩ | apply gsplit <;> intro h)
   all_goals (refine ⟨?_, rfl⟩; simp only [*, cond_true, cond_false]))
def c_65 (a : List R) (K : KT) : Prop := match a with | [.d (.v (.int .i64 a0))] => K [R.agg
 [D.v (Value.int IntKind.i64 (2 : Int)), D.v (Value.int IntKind.i64 (0 : Int)), D.v (Value.bool false),
   D.v (Value.int IntKind.i64 a0), D.v (Value.string { data := { toList := [] : Array UInt8 } : ByteArray })]] [] | _ => False
theorem c_65_ok (a : List R) (K : KT) (h : c_65 a K) : Ct prog gl 134 a K := by
 unfold c_65 at h
 split at h
 · exact (ct65 _).gives h
 · exact h.elim
def C_2 : CallT := addC C_1 134 c_65
theorem C_2_ok : CallsOk prog gl C_2 := addC_ok C_1_ok c_65_ok
theorem vc67 (a0 : Int) (a1 : Int) (Q : KT) : vc E_0 C_0 noI fi32 (f32.body.getD .skip) f32.results.toList [.agg [.v (.int .i64 a0), .v (.int .i64 a1)]] Q = ( ((bif bif bif bif decide (a0 < 1) then true else decide (a0 > 5) then true else decide (a1 < 0) then true else decide (a1 > 18) then true else bif a0 != (3 : Int) then a1 != (0 : Int) else false) = true → Q [.d (.i 21)] []) ∧ ((bif bif bif bif decide (a0 < 1) then true else decide (a0 > 5) then true else decide (a1 < 0) then true else decide (a1 > 18) then true else bif a0 != (3 : Int) then a1 != (0 : Int) else false) = false → Q [.d (.i 0)] [])) := by kernel_rfl
def s67_0 (a0 : Int) (a1 : Int) : Int := bif
   bif
       bif
           bif bif decide (a0 < (1 : Int)) then true else decide (a0 > (5 : Int)) then true
           else decide (a1 < (0 : Int)) then
         true
       else decide (a1 > (18 : Int)) then
     true
   else bif a0 != (3 : Int) then a1 != (0 : Int) else false then
 (21 : Int)
else (0 : Int)
theorem ct67 (a0 : Int) (a1 : Int) : Ct prog gl 32 [.agg [.v (.int .i64 a0), .v (.int .i64 a1)]] (gives [R.d (D.v (Value.int IntKind.i64 (s67_0 a0 a1)))]) :=
 ctv C_0_ok f32 fi32 ⟨_, _, rfl, rfl⟩ (by
   rw [vc67]
   (repeat' first | exact ⟨rfl, rfl⟩ | apply gsplit <;> intro h)
   all_goals (refine ⟨?_, rfl⟩; simp only [s67_0, *, cond_true, cond_false]))
def c_67 (a : List R) (K : KT) : Prop := match a with | [.agg [.v (.int .i64 a0), .v (.int .i64 a1)]] => K [R.d (D.v (Value.int IntKind.i64 (s67_0 a0 a1)))] [] | _ => False
theorem c_67_ok (a : List R) (K : KT) (h : c_67 a K) : Ct prog gl 32 a K := by
 unfold c_67 at h
 split at h
 · exact (ct67 _ _).gives h
 · exact h.elim
def C_3 : CallT := addC C_2 32 c_67
theorem C_3_ok : CallsOk prog gl C_3 := addC_ok C_2_ok c_67_ok
theorem vc68 (a0 : Int) (Q : KT) : vc E_0 C_0 noI fi72 (f72.body.getD .skip) f72.results.toList [.d (.v (.int .i64 a0))] Q = ( Q [.d (.v (.bool (bif decide (a0 ≥ (-999999999999999999 : Int)) then decide (a0 ≤ 999999999999999999) else false)))] []) := by kernel_rfl
def s68_0 (a0 : Int) : Bool := bif decide (a0 ≥ (-999999999999999999 : Int)) then decide (a0 ≤ (999999999999999999 : Int)) else false
theorem ct68 (a0 : Int) : Ct prog gl 72 [.d (.v (.int .i64 a0))] (gives [R.d (D.v (Value.bool (s68_0 a0)))]) :=
 ctv C_0_ok f72 fi72 ⟨_, _, rfl, rfl⟩ (by
   rw [vc68]
   (repeat' first | exact ⟨rfl, rfl⟩ | apply gsplit <;> intro h)
   all_goals (refine ⟨?_, rfl⟩; simp only [s68_0, *, cond_true, cond_false]))
def c_68 (a : List R) (K : KT) : Prop := match a with | [.d (.v (.int .i64 a0))] => K [R.d (D.v (Value.bool (s68_0 a0)))] [] | _ => False
theorem c_68_ok (a : List R) (K : KT) (h : c_68 a K) : Ct prog gl 72 a K := by
 unfold c_68 at h
 split at h
 · exact (ct68 _).gives h
 · exact h.elim
def C_4 : CallT := addC C_3 72 c_68
theorem C_4_ok : CallsOk prog gl C_4 := addC_ok C_3_ok c_68_ok
def Zfi (a0 : Int) : List R := [.agg [.i 1, .i 0, .v (.bool false), .i a0, .v (.string ⟨⟨[]⟩⟩)]]
theorem vc72 (a0 : Bool) (Q : KT) : vc E_0 C_0 noI fi80 (f80.body.getD .skip) f80.results.toList [.d (.v (.bool a0))] Q = ( (a0 = true → Q (Zfi (1 : Int)) []) ∧ (a0 = false → Q (Zfi (0 : Int)) [])) := by kernel_rfl
def s72_0 (a0 : Bool) : Int := bif a0 then (1 : Int) else (0 : Int)
theorem ct72 (a0 : Bool) : Ct prog gl 80 [.d (.v (.bool a0))] (gives [R.agg
   [D.v (Value.int IntKind.i64 (1 : Int)), D.v (Value.int IntKind.i64 (0 : Int)), D.v (Value.bool false),
     D.v (Value.int IntKind.i64 (s72_0 a0)), D.v (Value.string { data := { toList := [] : Array UInt8 } : ByteArray })]]) :=
 ctv C_0_ok f80 fi80 ⟨_, _, rfl, rfl⟩ (by
   rw [vc72]; dsimp -eta -iota -proj only [Zfi]
   (repeat' first | exact ⟨rfl, rfl⟩ | apply gsplit <;> intro h)
   all_goals (refine ⟨?_, rfl⟩; simp only [s72_0, *, cond_true, cond_false]))
def c_72 (a : List R) (K : KT) : Prop := match a with | [.d (.v (.bool a0))] => K [R.agg
 [D.v (Value.int IntKind.i64 (1 : Int)), D.v (Value.int IntKind.i64 (0 : Int)), D.v (Value.bool false),
   D.v (Value.int IntKind.i64 (s72_0 a0)), D.v (Value.string { data := { toList := [] : Array UInt8 } : ByteArray })]] [] | _ => False
theorem c_72_ok (a : List R) (K : KT) (h : c_72 a K) : Ct prog gl 80 a K := by
 unfold c_72 at h
 split at h
 · exact (ct72 _).gives h
 · exact h.elim
def C_5 : CallT := addC C_4 80 c_72
theorem C_5_ok : CallsOk prog gl C_5 := addC_ok C_4_ok c_72_ok
def Zda (a0 : Int) : List D := [.i a0, .i 0]
theorem vc81  (Q : KT) : vc E_0 C_0 noI fi282 (f282.body.getD .skip) f282.results.toList [] Q = ( Q [.agg (Zda (2 : Int))] []) := by kernel_rfl
theorem ct81  : Ct prog gl 282 [] (gives [R.agg [D.v (Value.int IntKind.i64 (2 : Int)), D.v (Value.int IntKind.i64 (0 : Int))]]) :=
 ctv C_0_ok f282 fi282 ⟨_, _, rfl, rfl⟩ (by
   rw [vc81]; dsimp -eta -iota -proj only [Zda]
   (repeat' first | exact ⟨rfl, rfl⟩ | apply gsplit <;> intro h)
   all_goals (refine ⟨?_, rfl⟩; simp only [*, cond_true, cond_false]))
def c_81 (a : List R) (K : KT) : Prop := match a with | [] => K [R.agg [D.v (Value.int IntKind.i64 (2 : Int)), D.v (Value.int IntKind.i64 (0 : Int))]] [] | _ => False
theorem c_81_ok (a : List R) (K : KT) (h : c_81 a K) : Ct prog gl 282 a K := by
 unfold c_81 at h
 split at h
 · exact (ct81 ).gives h
 · exact h.elim
def C_6 : CallT := addC C_5 282 c_81
theorem C_6_ok : CallsOk prog gl C_6 := addC_ok C_5_ok c_81_ok
def Zf2 (a0' : Int) : List R := [.d (.v (.bool (bif a0' == (2 : Int) then true else a0' == (3 : Int))))]
theorem vc82 (a0 : Int) (a1 : Int) (Q : KT) : vc E_0 C_0 noI fi283 (f283.body.getD .skip) f283.results.toList [.agg [.v (.int .i64 a0), .v (.int .i64 a1)]] Q = ( Q (Zf2 a0) []) := by kernel_rfl
def s82_0 (a0 : Int) (a1 : Int) : Bool := bif a0 == (2 : Int) then true else a0 == (3 : Int)
theorem ct82 (a0 : Int) (a1 : Int) : Ct prog gl 283 [.agg [.v (.int .i64 a0), .v (.int .i64 a1)]] (gives [R.d (D.v (Value.bool (s82_0 a0 a1)))]) :=
 ctv C_0_ok f283 fi283 ⟨_, _, rfl, rfl⟩ (by
   rw [vc82]; dsimp -eta -iota -proj only [Zf2]
   (repeat' first | exact ⟨rfl, rfl⟩ | apply gsplit <;> intro h)
   all_goals (refine ⟨?_, rfl⟩; simp only [s82_0, *, cond_true, cond_false]))
def c_82 (a : List R) (K : KT) : Prop := match a with | [.agg [.v (.int .i64 a0), .v (.int .i64 a1)]] => K [R.d (D.v (Value.bool (s82_0 a0 a1)))] [] | _ => False
theorem c_82_ok (a : List R) (K : KT) (h : c_82 a K) : Ct prog gl 283 a K := by
 unfold c_82 at h
 split at h
 · exact (ct82 _ _).gives h
 · exact h.elim
def C_7 : CallT := addC C_6 283 c_82
theorem C_7_ok : CallsOk prog gl C_7 := addC_ok C_6_ok c_82_ok
def C_8 : CallT := C_7
theorem C_8_ok : CallsOk prog gl C_8 := C_7_ok
def Zfk (a0 a1 : Int) : List R := [.d (.i a0), .d (.i a1)]
def Zf1 (a0 : KT) (a1 a2 : Int) : Prop := a0 (Zfk a1 a2) []
theorem vc110 (a0 : Int) (a1 : Int) (a2 : Bool) (a3 : Int) (a4 : ByteArray) (Q : KT) : vc E_0 C_0 noI fi37 (f37.body.getD .skip) f37.results.toList [.agg [.v (.int .i64 a0), .v (.int .i64 a1), .v (.bool a2), .v (.int .i64 a3), .v (.string a4)]] Q = ( ((a0 != (1 : Int)) = true → Zf1 Q (0 : Int) (21 : Int)) ∧ ((a0 != (1 : Int)) = false → (a2 = true → Zf1 Q (2 : Int) (0 : Int)) ∧ (a2 = false → ((a3 == 0) = true → Zf1 Q (0 : Int) (0 : Int)) ∧ ((a3 == 0) = false → Zf1 Q (1 : Int) (0 : Int))))) := by kernel_rfl
def s110_0 (a0 : Int) (a1 : Int) (a2 : Bool) (a3 : Int) (a4 : ByteArray) : Int := bif a0 != (1 : Int) then (0 : Int) else bif a2 then (2 : Int) else bif a3 == (0 : Int) then (0 : Int) else (1 : Int)
def s110_1 (a0 : Int) (a1 : Int) (a2 : Bool) (a3 : Int) (a4 : ByteArray) : Int := bif a0 != (1 : Int) then (21 : Int) else (0 : Int)
theorem ct110 (a0 : Int) (a1 : Int) (a2 : Bool) (a3 : Int) (a4 : ByteArray) : Ct prog gl 37 [.agg [.v (.int .i64 a0), .v (.int .i64 a1), .v (.bool a2), .v (.int .i64 a3), .v (.string a4)]] (gives [R.d (D.v (Value.int IntKind.i64 (s110_0 a0 a1 a2 a3 a4))), R.d (D.v (Value.int IntKind.i64 (s110_1 a0 a1 a2 a3 a4)))]) :=
 ctv C_0_ok f37 fi37 ⟨_, _, rfl, rfl⟩ (by
   rw [vc110]; dsimp -eta -iota -proj only [Zf1, Zfk]
   (repeat' first | exact ⟨rfl, rfl⟩ | apply gsplit <;> intro h)
   all_goals (refine ⟨?_, rfl⟩; simp only [s110_0, s110_1, *, cond_true, cond_false]))
def c_110 (a : List R) (K : KT) : Prop := match a with | [.agg [.v (.int .i64 a0), .v (.int .i64 a1), .v (.bool a2), .v (.int .i64 a3), .v (.string a4)]] => K [R.d (D.v (Value.int IntKind.i64 (s110_0 a0 a1 a2 a3 a4))), R.d (D.v (Value.int IntKind.i64 (s110_1 a0 a1 a2 a3 a4)))] [] | _ => False
theorem c_110_ok (a : List R) (K : KT) (h : c_110 a K) : Ct prog gl 37 a K := by
 unfold c_110 at h
 split at h
 · exact (ct110 _ _ _ _ _).gives h
 · exact h.elim
def C_9 : CallT := addC C_8 37 c_110
theorem C_9_ok : CallsOk prog gl C_9 := addC_ok C_8_ok c_110_ok
theorem vc114 (a0 : Int) (Q : KT) : vc E_0 C_0 noI fi138 (f138.body.getD .skip) f138.results.toList [.d (.v (.int .i64 a0))] Q = ( Q [.d (.v (.bool (bif decide ((-999999999999999999 : Int) ≤ a0) then decide (a0 ≤ 999999999999999999) else false)))] []) := by kernel_rfl
def s114_0 (a0 : Int) : Bool := bif decide ((-999999999999999999 : Int) ≤ a0) then decide (a0 ≤ (999999999999999999 : Int)) else false
theorem ct114 (a0 : Int) : Ct prog gl 138 [.d (.v (.int .i64 a0))] (gives [R.d (D.v (Value.bool (s114_0 a0)))]) :=
 ctv C_0_ok f138 fi138 ⟨_, _, rfl, rfl⟩ (by
   rw [vc114]
   (repeat' first | exact ⟨rfl, rfl⟩ | apply gsplit <;> intro h)
   all_goals (refine ⟨?_, rfl⟩; simp only [s114_0, *, cond_true, cond_false]))
def c_114 (a : List R) (K : KT) : Prop := match a with | [.d (.v (.int .i64 a0))] => K [R.d (D.v (Value.bool (s114_0 a0)))] [] | _ => False
theorem c_114_ok (a : List R) (K : KT) (h : c_114 a K) : Ct prog gl 138 a K := by
 unfold c_114 at h
 split at h
 · exact (ct114 _).gives h
 · exact h.elim
def C_10 : CallT := addC C_9 138 c_114
theorem C_10_ok : CallsOk prog gl C_10 := addC_ok C_9_ok c_114_ok
def C_11 : CallT := C_10
theorem C_11_ok : CallsOk prog gl C_11 := C_10_ok
def C_12 : CallT := C_11
theorem C_12_ok : CallsOk prog gl C_12 := C_11_ok
theorem vc124 (a0 : Int) (Q : KT) : vc E_0 C_0 noI fi89 (f89.body.getD .skip) f89.results.toList [.d (.v (.int .i64 a0))] Q = ( Q [.d (.v (.bool (bif decide (a0 ≥ 0) then decide (a0 ≤ 18) else false)))] []) := by kernel_rfl
def s124_0 (a0 : Int) : Bool := bif decide (a0 ≥ (0 : Int)) then decide (a0 ≤ (18 : Int)) else false
theorem ct124 (a0 : Int) : Ct prog gl 89 [.d (.v (.int .i64 a0))] (gives [R.d (D.v (Value.bool (s124_0 a0)))]) :=
 ctv C_0_ok f89 fi89 ⟨_, _, rfl, rfl⟩ (by
   rw [vc124]
   (repeat' first | exact ⟨rfl, rfl⟩ | apply gsplit <;> intro h)
   all_goals (refine ⟨?_, rfl⟩; simp only [s124_0, *, cond_true, cond_false]))
def c_124 (a : List R) (K : KT) : Prop := match a with | [.d (.v (.int .i64 a0))] => K [R.d (D.v (Value.bool (s124_0 a0)))] [] | _ => False
theorem c_124_ok (a : List R) (K : KT) (h : c_124 a K) : Ct prog gl 89 a K := by
 unfold c_124 at h
 split at h
 · exact (ct124 _).gives h
 · exact h.elim
def C_13 : CallT := addC C_12 89 c_124
theorem C_13_ok : CallsOk prog gl C_13 := addC_ok C_12_ok c_124_ok
theorem vc130 (a0 : Int) (a1 : Int) (Q : KT) : vc E_0 C_0 noI fi96 (f96.body.getD .skip) f96.results.toList [.agg [.v (.int .i64 a0), .v (.int .i64 a1)]] Q = ( Q (Zf2 a0) []) := by kernel_rfl
def s130_0 (a0 : Int) (a1 : Int) : Bool := bif a0 == (2 : Int) then true else a0 == (3 : Int)
theorem ct130 (a0 : Int) (a1 : Int) : Ct prog gl 96 [.agg [.v (.int .i64 a0), .v (.int .i64 a1)]] (gives [R.d (D.v (Value.bool (s130_0 a0 a1)))]) :=
 ctv C_0_ok f96 fi96 ⟨_, _, rfl, rfl⟩ (by
   rw [vc130]; dsimp -eta -iota -proj only [Zf2]
   (repeat' first | exact ⟨rfl, rfl⟩ | apply gsplit <;> intro h)
   all_goals (refine ⟨?_, rfl⟩; simp only [s130_0, *, cond_true, cond_false]))
def c_130 (a : List R) (K : KT) : Prop := match a with | [.agg [.v (.int .i64 a0), .v (.int .i64 a1)]] => K [R.d (D.v (Value.bool (s130_0 a0 a1)))] [] | _ => False
theorem c_130_ok (a : List R) (K : KT) (h : c_130 a K) : Ct prog gl 96 a K := by
 unfold c_130 at h
 split at h
 · exact (ct130 _ _).gives h
 · exact h.elim
def C_14 : CallT := addC C_13 96 c_130
theorem C_14_ok : CallsOk prog gl C_14 := addC_ok C_13_ok c_130_ok
def C_15 : CallT := C_14
theorem C_15_ok : CallsOk prog gl C_15 := C_14_ok
theorem vc150 (a0 : Int) (Q : KT) : vc E_0 C_0 noI fi67 (f67.body.getD .skip) f67.results.toList [.d (.v (.int .i64 a0))] Q = ( Q [.agg [.i a0, .i 0]] []) := by kernel_rfl
theorem ct150 (a0 : Int) : Ct prog gl 67 [.d (.v (.int .i64 a0))] (gives [R.agg [D.v (Value.int IntKind.i64 a0), D.v (Value.int IntKind.i64 (0 : Int))]]) :=
 ctv C_0_ok f67 fi67 ⟨_, _, rfl, rfl⟩ (by
   rw [vc150]
   (repeat' first | exact ⟨rfl, rfl⟩ | apply gsplit <;> intro h)
   all_goals (refine ⟨?_, rfl⟩; simp only [*, cond_true, cond_false]))
def c_150 (a : List R) (K : KT) : Prop := match a with | [.d (.v (.int .i64 a0))] => K [R.agg [D.v (Value.int IntKind.i64 a0), D.v (Value.int IntKind.i64 (0 : Int))]] [] | _ => False
theorem c_150_ok (a : List R) (K : KT) (h : c_150 a K) : Ct prog gl 67 a K := by
 unfold c_150 at h
 split at h
 · exact (ct150 _).gives h
 · exact h.elim
def C_16 : CallT := addC C_15 67 c_150
theorem C_16_ok : CallsOk prog gl C_16 := addC_ok C_15_ok c_150_ok
theorem vc158 (a0 : Int) (a1 : Int) (Q : KT) : vc E_0 C_0 noI fi76 (f76.body.getD .skip) f76.results.toList [.agg [.v (.int .i64 a0), .v (.int .i64 a1)]] Q = ( Q [.agg [.i a0, .i a1, .v (.bool true), .i 0, .v (.string ⟨⟨[]⟩⟩)]] []) := by kernel_rfl
theorem ct158 (a0 : Int) (a1 : Int) : Ct prog gl 76 [.agg [.v (.int .i64 a0), .v (.int .i64 a1)]] (gives [R.agg
   [D.v (Value.int IntKind.i64 a0), D.v (Value.int IntKind.i64 a1), D.v (Value.bool true),
     D.v (Value.int IntKind.i64 (0 : Int)), D.v (Value.string { data := { toList := [] : Array UInt8 } : ByteArray })]]) :=
 ctv C_0_ok f76 fi76 ⟨_, _, rfl, rfl⟩ (by
   rw [vc158]
   (repeat' first | exact ⟨rfl, rfl⟩ | apply gsplit <;> intro h)
   all_goals (refine ⟨?_, rfl⟩; simp only [*, cond_true, cond_false]))
def c_158 (a : List R) (K : KT) : Prop := match a with | [.agg [.v (.int .i64 a0), .v (.int .i64 a1)]] => K [R.agg
 [D.v (Value.int IntKind.i64 a0), D.v (Value.int IntKind.i64 a1), D.v (Value.bool true),
   D.v (Value.int IntKind.i64 (0 : Int)), D.v (Value.string { data := { toList := [] : Array UInt8 } : ByteArray })]] [] | _ => False
theorem c_158_ok (a : List R) (K : KT) (h : c_158 a K) : Ct prog gl 76 a K := by
 unfold c_158 at h
 split at h
 · exact (ct158 _ _).gives h
 · exact h.elim
def C_17 : CallT := addC C_16 76 c_158
theorem C_17_ok : CallsOk prog gl C_17 := addC_ok C_16_ok c_158_ok
theorem vc160 (a0 : Int) (Q : KT) : vc E_0 C_0 noI fi78 (f78.body.getD .skip) f78.results.toList [.d (.v (.int .i64 a0))] Q = ( ((a0 == 0) = true → Q [.d (.i 1)] []) ∧ ((a0 == 0) = false → ((a0 == 1) = true → Q [.d (.i 0)] []) ∧ ((a0 == 1) = false → Q [.d (.i 2)] []))) := by kernel_rfl
def s160_0 (a0 : Int) : Int := bif a0 == (0 : Int) then (1 : Int) else bif a0 == (1 : Int) then (0 : Int) else (2 : Int)
theorem ct160 (a0 : Int) : Ct prog gl 78 [.d (.v (.int .i64 a0))] (gives [R.d (D.v (Value.int IntKind.i64 (s160_0 a0)))]) :=
 ctv C_0_ok f78 fi78 ⟨_, _, rfl, rfl⟩ (by
   rw [vc160]
   (repeat' first | exact ⟨rfl, rfl⟩ | apply gsplit <;> intro h)
   all_goals (refine ⟨?_, rfl⟩; simp only [s160_0, *, cond_true, cond_false]))
def c_160 (a : List R) (K : KT) : Prop := match a with | [.d (.v (.int .i64 a0))] => K [R.d (D.v (Value.int IntKind.i64 (s160_0 a0)))] [] | _ => False
theorem c_160_ok (a : List R) (K : KT) (h : c_160 a K) : Ct prog gl 78 a K := by
 unfold c_160 at h
 split at h
 · exact (ct160 _).gives h
 · exact h.elim
def C_18 : CallT := addC C_17 78 c_160
theorem C_18_ok : CallsOk prog gl C_18 := addC_ok C_17_ok c_160_ok
theorem vc167 (a0 : Int) (a1 : Int) (Q : KT) : vc E_0 C_0 noI fi316 (f316.body.getD .skip) f316.results.toList [.agg [.v (.int .i64 a0), .v (.int .i64 a1)]] Q = ( Q [.d (.v (.bool (bif bif bif decide (a0 < 1) then true else decide (a0 > 5) then true else decide (a1 < 0) then true else bif bif decide (a1 > 0) then a0 != (2 : Int) else false then a0 != (4 : Int) else false)))] []) := by kernel_rfl
def s167_0 (a0 : Int) (a1 : Int) : Bool := bif bif bif decide (a0 < (1 : Int)) then true else decide (a0 > (5 : Int)) then true else decide (a1 < (0 : Int)) then
 true
else bif bif decide (a1 > (0 : Int)) then a0 != (2 : Int) else false then a0 != (4 : Int) else false
theorem ct167 (a0 : Int) (a1 : Int) : Ct prog gl 316 [.agg [.v (.int .i64 a0), .v (.int .i64 a1)]] (gives [R.d (D.v (Value.bool (s167_0 a0 a1)))]) :=
 ctv C_0_ok f316 fi316 ⟨_, _, rfl, rfl⟩ (by
   rw [vc167]
   (repeat' first | exact ⟨rfl, rfl⟩ | apply gsplit <;> intro h)
   all_goals (refine ⟨?_, rfl⟩; simp only [s167_0, *, cond_true, cond_false]))
def c_167 (a : List R) (K : KT) : Prop := match a with | [.agg [.v (.int .i64 a0), .v (.int .i64 a1)]] => K [R.d (D.v (Value.bool (s167_0 a0 a1)))] [] | _ => False
theorem c_167_ok (a : List R) (K : KT) (h : c_167 a K) : Ct prog gl 316 a K := by
 unfold c_167 at h
 split at h
 · exact (ct167 _ _).gives h
 · exact h.elim
def C_19 : CallT := addC C_18 316 c_167
theorem C_19_ok : CallsOk prog gl C_19 := addC_ok C_18_ok c_167_ok
theorem vc179 (a0 : Int) (a1 : Int) (Q : KT) : vc E_0 C_0 noI fi53 (f53.body.getD .skip) f53.results.toList [.agg [.v (.int .i64 a0), .v (.int .i64 a1)]] Q = ( Q (Zf2 a0) []) := by kernel_rfl
def s179_0 (a0 : Int) (a1 : Int) : Bool := bif a0 == (2 : Int) then true else a0 == (3 : Int)
theorem ct179 (a0 : Int) (a1 : Int) : Ct prog gl 53 [.agg [.v (.int .i64 a0), .v (.int .i64 a1)]] (gives [R.d (D.v (Value.bool (s179_0 a0 a1)))]) :=
 ctv C_0_ok f53 fi53 ⟨_, _, rfl, rfl⟩ (by
   rw [vc179]; dsimp -eta -iota -proj only [Zf2]
   (repeat' first | exact ⟨rfl, rfl⟩ | apply gsplit <;> intro h)
   all_goals (refine ⟨?_, rfl⟩; simp only [s179_0, *, cond_true, cond_false]))
def c_179 (a : List R) (K : KT) : Prop := match a with | [.agg [.v (.int .i64 a0), .v (.int .i64 a1)]] => K [R.d (D.v (Value.bool (s179_0 a0 a1)))] [] | _ => False
theorem c_179_ok (a : List R) (K : KT) (h : c_179 a K) : Ct prog gl 53 a K := by
 unfold c_179 at h
 split at h
 · exact (ct179 _ _).gives h
 · exact h.elim
def C_20 : CallT := addC C_19 53 c_179
theorem C_20_ok : CallsOk prog gl C_20 := addC_ok C_19_ok c_179_ok
theorem vc188 (a0 : Int) (Q : KT) : vc E_0 C_0 noI fi82 (f82.body.getD .skip) f82.results.toList [.d (.v (.int .i64 a0))] Q = ( ((a0 == 3) = true → Q [.d (.i 2)] []) ∧ ((a0 == 3) = false → Q [.d (.i a0)] [])) := by kernel_rfl
def s188_0 (a0 : Int) : Int := bif a0 == (3 : Int) then (2 : Int) else a0
theorem ct188 (a0 : Int) : Ct prog gl 82 [.d (.v (.int .i64 a0))] (gives [R.d (D.v (Value.int IntKind.i64 (s188_0 a0)))]) :=
 ctv C_0_ok f82 fi82 ⟨_, _, rfl, rfl⟩ (by
   rw [vc188]
   (repeat' first | exact ⟨rfl, rfl⟩ | apply gsplit <;> intro h)
   all_goals (refine ⟨?_, rfl⟩; simp only [s188_0, *, cond_true, cond_false]))
def c_188 (a : List R) (K : KT) : Prop := match a with | [.d (.v (.int .i64 a0))] => K [R.d (D.v (Value.int IntKind.i64 (s188_0 a0)))] [] | _ => False
theorem c_188_ok (a : List R) (K : KT) (h : c_188 a K) : Ct prog gl 82 a K := by
 unfold c_188 at h
 split at h
 · exact (ct188 _).gives h
 · exact h.elim
def C_21 : CallT := addC C_20 82 c_188
theorem C_21_ok : CallsOk prog gl C_21 := addC_ok C_20_ok c_188_ok
def Zfq : List R := [.d (.i (-1))]
theorem vc189 (a0 : Bool) (a1 : Bool) (Q : KT) : vc E_0 C_0 noI fi83 (f83.body.getD .skip) f83.results.toList [.d (.v (.bool a0)), .d (.v (.bool a1))] Q = ( (a0 = true → Q Zfq []) ∧ (a0 = false → (a1 = true → Q [.d (.i 1)] []) ∧ (a1 = false → Q [.d (.i 0)] []))) := by kernel_rfl
def s189_0 (a0 : Bool) (a1 : Bool) : Int := bif a0 then (-1 : Int) else bif a1 then (1 : Int) else (0 : Int)
theorem ct189 (a0 : Bool) (a1 : Bool) : Ct prog gl 83 [.d (.v (.bool a0)), .d (.v (.bool a1))] (gives [R.d (D.v (Value.int IntKind.i64 (s189_0 a0 a1)))]) :=
 ctv C_0_ok f83 fi83 ⟨_, _, rfl, rfl⟩ (by
   rw [vc189]; dsimp -eta -iota -proj only [Zfq]
   (repeat' first | exact ⟨rfl, rfl⟩ | apply gsplit <;> intro h)
   all_goals (refine ⟨?_, rfl⟩; simp only [s189_0, *, cond_true, cond_false]))
def c_189 (a : List R) (K : KT) : Prop := match a with | [.d (.v (.bool a0)), .d (.v (.bool a1))] => K [R.d (D.v (Value.int IntKind.i64 (s189_0 a0 a1)))] [] | _ => False
theorem c_189_ok (a : List R) (K : KT) (h : c_189 a K) : Ct prog gl 83 a K := by
 unfold c_189 at h
 split at h
 · exact (ct189 _ _).gives h
 · exact h.elim
def C_22 : CallT := addC C_21 83 c_189
theorem C_22_ok : CallsOk prog gl C_22 := addC_ok C_21_ok c_189_ok
theorem vc190 (a0 : Int) (a1 : Int) (a2 : Bool) (a3 : Int) (a4 : ByteArray) (Q : KT) : vc E_0 C_0 noI fi84 (f84.body.getD .skip) f84.results.toList [.agg [.v (.int .i64 a0), .v (.int .i64 a1), .v (.bool a2), .v (.int .i64 a3), .v (.string a4)]] Q = ( ((a0 != (3 : Int)) = true → Q [.d (.i 0)] []) ∧ ((a0 != (3 : Int)) = false → Q [.d (.i (if (18 : Int) < if (0 : Int) > a1 then (0 : Int) else a1 then (18 : Int) else if (0 : Int) > a1 then (0 : Int) else a1))] [])) := by kernel_rfl
def s190_0 (a0 : Int) (a1 : Int) (a2 : Bool) (a3 : Int) (a4 : ByteArray) : Int := bif a0 != (3 : Int) then (0 : Int)
else
 if (18 : Int) < if (0 : Int) > a1 then (0 : Int) else a1 then (18 : Int) else if (0 : Int) > a1 then (0 : Int) else a1
theorem ct190 (a0 : Int) (a1 : Int) (a2 : Bool) (a3 : Int) (a4 : ByteArray) : Ct prog gl 84 [.agg [.v (.int .i64 a0), .v (.int .i64 a1), .v (.bool a2), .v (.int .i64 a3), .v (.string a4)]] (gives [R.d (D.v (Value.int IntKind.i64 (s190_0 a0 a1 a2 a3 a4)))]) :=
 ctv C_0_ok f84 fi84 ⟨_, _, rfl, rfl⟩ (by
   rw [vc190]
   (repeat' first | exact ⟨rfl, rfl⟩ | apply gsplit <;> intro h)
   all_goals (refine ⟨?_, rfl⟩; simp only [s190_0, *, cond_true, cond_false]))
def c_190 (a : List R) (K : KT) : Prop := match a with | [.agg [.v (.int .i64 a0), .v (.int .i64 a1), .v (.bool a2), .v (.int .i64 a3), .v (.string a4)]] => K [R.d (D.v (Value.int IntKind.i64 (s190_0 a0 a1 a2 a3 a4)))] [] | _ => False
theorem c_190_ok (a : List R) (K : KT) (h : c_190 a K) : Ct prog gl 84 a K := by
 unfold c_190 at h
 split at h
 · exact (ct190 _ _ _ _ _).gives h
 · exact h.elim
def C_23 : CallT := addC C_22 84 c_190
theorem C_23_ok : CallsOk prog gl C_23 := addC_ok C_22_ok c_190_ok
theorem vc192 (a0 : Int) (a1 : Int) (a2 : Int) (a3 : Int) (Q : KT) : vc E_0 C_0 noI fi86 (f86.body.getD .skip) f86.results.toList [.agg [.v (.int .i64 a0), .v (.int .u64 a1)], .agg [.v (.int .i64 a2), .v (.int .u64 a3)]] Q = ( ((bif decide (a0 < a2) then true else bif a0 == a2 then decide (a1 < a3) else false) = true → Q Zfq []) ∧ ((bif decide (a0 < a2) then true else bif a0 == a2 then decide (a1 < a3) else false) = false → ((a0 == a2 && (a1 == a3 && true)) = true → Q [.d (.i 0)] []) ∧ ((a0 == a2 && (a1 == a3 && true)) = false → Q [.d (.i 1)] []))) := by kernel_rfl
def s192_0 (a0 : Int) (a1 : Int) (a2 : Int) (a3 : Int) : Int := bif bif decide (a0 < a2) then true else bif a0 == a2 then decide (a1 < a3) else false then (-1 : Int)
else bif a0 == a2 && (a1 == a3 && true) then (0 : Int) else (1 : Int)
theorem ct192 (a0 : Int) (a1 : Int) (a2 : Int) (a3 : Int) : Ct prog gl 86 [.agg [.v (.int .i64 a0), .v (.int .u64 a1)], .agg [.v (.int .i64 a2), .v (.int .u64 a3)]] (gives [R.d (D.v (Value.int IntKind.i64 (s192_0 a0 a1 a2 a3)))]) :=
 ctv C_0_ok f86 fi86 ⟨_, _, rfl, rfl⟩ (by
   rw [vc192]; dsimp -eta -iota -proj only [Zfq]
   (repeat' first | exact ⟨rfl, rfl⟩ | apply gsplit <;> intro h)
   all_goals (refine ⟨?_, rfl⟩; simp only [s192_0, *, cond_true, cond_false]))
def c_192 (a : List R) (K : KT) : Prop := match a with | [.agg [.v (.int .i64 a0), .v (.int .u64 a1)], .agg [.v (.int .i64 a2), .v (.int .u64 a3)]] => K [R.d (D.v (Value.int IntKind.i64 (s192_0 a0 a1 a2 a3)))] [] | _ => False
theorem c_192_ok (a : List R) (K : KT) (h : c_192 a K) : Ct prog gl 86 a K := by
 unfold c_192 at h
 split at h
 · exact (ct192 _ _ _ _).gives h
 · exact h.elim
def C_24 : CallT := addC C_23 86 c_192
theorem C_24_ok : CallsOk prog gl C_24 := addC_ok C_23_ok c_192_ok
def C_25 : CallT := C_24
theorem C_25_ok : CallsOk prog gl C_25 := C_24_ok
def C_26 : CallT := C_25
theorem C_26_ok : CallsOk prog gl C_26 := C_25_ok
def C_27 : CallT := C_26
theorem C_27_ok : CallsOk prog gl C_27 := C_26_ok
def C_28 : CallT := C_27
theorem C_28_ok : CallsOk prog gl C_28 := C_27_ok
def C_29 : CallT := C_28
theorem C_29_ok : CallsOk prog gl C_29 := C_28_ok
theorem vc209 (a0 : Int) (Q : KT) : vc E_0 C_0 noI fi140 (f140.body.getD .skip) f140.results.toList [.d (.v (.int .i64 a0))] Q = ( ((a0 == 3) = true → Q [.d (.i 2)] []) ∧ ((a0 == 3) = false → Q [.d (.i a0)] [])) := by kernel_rfl
def s209_0 (a0 : Int) : Int := bif a0 == (3 : Int) then (2 : Int) else a0
theorem ct209 (a0 : Int) : Ct prog gl 140 [.d (.v (.int .i64 a0))] (gives [R.d (D.v (Value.int IntKind.i64 (s209_0 a0)))]) :=
 ctv C_0_ok f140 fi140 ⟨_, _, rfl, rfl⟩ (by
   rw [vc209]
   (repeat' first | exact ⟨rfl, rfl⟩ | apply gsplit <;> intro h)
   all_goals (refine ⟨?_, rfl⟩; simp only [s209_0, *, cond_true, cond_false]))
def c_209 (a : List R) (K : KT) : Prop := match a with | [.d (.v (.int .i64 a0))] => K [R.d (D.v (Value.int IntKind.i64 (s209_0 a0)))] [] | _ => False
theorem c_209_ok (a : List R) (K : KT) (h : c_209 a K) : Ct prog gl 140 a K := by
 unfold c_209 at h
 split at h
 · exact (ct209 _).gives h
 · exact h.elim
def C_30 : CallT := addC C_29 140 c_209
theorem C_30_ok : CallsOk prog gl C_30 := addC_ok C_29_ok c_209_ok
def C_31 : CallT := C_30
theorem C_31_ok : CallsOk prog gl C_31 := C_30_ok
theorem vc221 (a0 : Int) (Q : KT) : vc E_0 C_0 noI fi137 (f137.body.getD .skip) f137.results.toList [.d (.v (.int .i64 a0))] Q = ( (decide (a0 < 0) = true → Q [.d (.v (.int .u64 (IntKind.u64.wrap ((0 : Int) - IntKind.u64.wrap a0))))] []) ∧ (decide (a0 < 0) = false → Q [.d (.v (.int .u64 (IntKind.u64.wrap a0)))] [])) := by kernel_rfl
def s221_0 (a0 : Int) : Int := bif decide (a0 < (0 : Int)) then IntKind.u64.wrap ((0 : Int) - IntKind.u64.wrap a0) else IntKind.u64.wrap a0
theorem ct221 (a0 : Int) : Ct prog gl 137 [.d (.v (.int .i64 a0))] (gives [R.d (D.v (Value.int IntKind.u64 (s221_0 a0)))]) :=
 ctv C_0_ok f137 fi137 ⟨_, _, rfl, rfl⟩ (by
   rw [vc221]
   (repeat' first | exact ⟨rfl, rfl⟩ | apply gsplit <;> intro h)
   all_goals (refine ⟨?_, rfl⟩; simp only [s221_0, *, cond_true, cond_false]))
def c_221 (a : List R) (K : KT) : Prop := match a with | [.d (.v (.int .i64 a0))] => K [R.d (D.v (Value.int IntKind.u64 (s221_0 a0)))] [] | _ => False
theorem c_221_ok (a : List R) (K : KT) (h : c_221 a K) : Ct prog gl 137 a K := by
 unfold c_221 at h
 split at h
 · exact (ct221 _).gives h
 · exact h.elim
def C_32 : CallT := addC C_31 137 c_221
theorem C_32_ok : CallsOk prog gl C_32 := addC_ok C_31_ok c_221_ok
def C_33 : CallT := C_32
theorem C_33_ok : CallsOk prog gl C_33 := C_32_ok
theorem vc276 (a0 : Int) (Q : KT) : vc E_0 C_0 noI fi237 (f237.body.getD .skip) f237.results.toList [.d (.v (.int .i64 a0))] Q = ( Q [.d (.v (.bool (bif decide (a0 ≥ 0) then decide (a0 ≤ 18) else false)))] []) := by kernel_rfl
def s276_0 (a0 : Int) : Bool := bif decide (a0 ≥ (0 : Int)) then decide (a0 ≤ (18 : Int)) else false
theorem ct276 (a0 : Int) : Ct prog gl 237 [.d (.v (.int .i64 a0))] (gives [R.d (D.v (Value.bool (s276_0 a0)))]) :=
 ctv C_0_ok f237 fi237 ⟨_, _, rfl, rfl⟩ (by
   rw [vc276]
   (repeat' first | exact ⟨rfl, rfl⟩ | apply gsplit <;> intro h)
   all_goals (refine ⟨?_, rfl⟩; simp only [s276_0, *, cond_true, cond_false]))
def c_276 (a : List R) (K : KT) : Prop := match a with | [.d (.v (.int .i64 a0))] => K [R.d (D.v (Value.bool (s276_0 a0)))] [] | _ => False
theorem c_276_ok (a : List R) (K : KT) (h : c_276 a K) : Ct prog gl 237 a K := by
 unfold c_276 at h
 split at h
 · exact (ct276 _).gives h
 · exact h.elim
def C_34 : CallT := addC C_33 237 c_276
theorem C_34_ok : CallsOk prog gl C_34 := addC_ok C_33_ok c_276_ok
theorem vc288 (a0 : Int) (a1 : Int) (Q : KT) : vc E_0 C_0 noI fi182 (f182.body.getD .skip) f182.results.toList [.d (.v (.int .i64 a0)), .d (.v (.int .i64 a1))] Q = ( ((bif bif decide (a1 > 0) then decide (a0 > IntKind.i64.wrap ((9223372036854775807 : Int) - a1)) else false then true else bif decide (a1 < 0) then decide (a0 < IntKind.i64.wrap ((-9223372036854775808 : Int) - a1)) else false) = true → Zf1 Q (0 : Int) (10 : Int)) ∧ ((bif bif decide (a1 > 0) then decide (a0 > IntKind.i64.wrap ((9223372036854775807 : Int) - a1)) else false then true else bif decide (a1 < 0) then decide (a0 < IntKind.i64.wrap ((-9223372036854775808 : Int) - a1)) else false) = false → Q [.d (.i (IntKind.i64.wrap (a0 + a1))), .d (.i 0)] [])) := by kernel_rfl
def s288_0 (a0 : Int) (a1 : Int) : Int := bif
   bif
       bif decide (a1 > (0 : Int)) then decide (a0 > IntKind.i64.wrap ((9223372036854775807 : Int) - a1))
       else false then
     true
   else
     bif decide (a1 < (0 : Int)) then decide (a0 < IntKind.i64.wrap ((-9223372036854775808 : Int) - a1))
     else false then
 (0 : Int)
else IntKind.i64.wrap (a0 + a1)
def s288_1 (a0 : Int) (a1 : Int) : Int := bif
   bif
       bif decide (a1 > (0 : Int)) then decide (a0 > IntKind.i64.wrap ((9223372036854775807 : Int) - a1))
       else false then
     true
   else
     bif decide (a1 < (0 : Int)) then decide (a0 < IntKind.i64.wrap ((-9223372036854775808 : Int) - a1))
     else false then
 (10 : Int)
else (0 : Int)
theorem ct288 (a0 : Int) (a1 : Int) : Ct prog gl 182 [.d (.v (.int .i64 a0)), .d (.v (.int .i64 a1))] (gives [R.d (D.v (Value.int IntKind.i64 (s288_0 a0 a1))), R.d (D.v (Value.int IntKind.i64 (s288_1 a0 a1)))]) :=
 ctv C_0_ok f182 fi182 ⟨_, _, rfl, rfl⟩ (by
   rw [vc288]; dsimp -eta -iota -proj only [Zf1, Zfk]
   (repeat' first | exact ⟨rfl, rfl⟩ | apply gsplit <;> intro h)
   all_goals (refine ⟨?_, rfl⟩; simp only [s288_0, s288_1, *, cond_true, cond_false]))
def c_288 (a : List R) (K : KT) : Prop := match a with | [.d (.v (.int .i64 a0)), .d (.v (.int .i64 a1))] => K [R.d (D.v (Value.int IntKind.i64 (s288_0 a0 a1))), R.d (D.v (Value.int IntKind.i64 (s288_1 a0 a1)))] [] | _ => False
theorem c_288_ok (a : List R) (K : KT) (h : c_288 a K) : Ct prog gl 182 a K := by
 unfold c_288 at h
 split at h
 · exact (ct288 _ _).gives h
 · exact h.elim
def C_35 : CallT := addC C_34 182 c_288
theorem C_35_ok : CallsOk prog gl C_35 := addC_ok C_34_ok c_288_ok
theorem vc289 (a0 : Int) (a1 : Int) (Q : KT) : vc E_0 C_0 noI fi183 (f183.body.getD .skip) f183.results.toList [.d (.v (.int .i64 a0)), .d (.v (.int .i64 a1))] Q = ( ((bif bif decide (a1 < 0) then decide (a0 > IntKind.i64.wrap ((9223372036854775807 : Int) + a1)) else false then true else bif decide (a1 > 0) then decide (a0 < IntKind.i64.wrap ((-9223372036854775808 : Int) + a1)) else false) = true → Zf1 Q (0 : Int) (10 : Int)) ∧ ((bif bif decide (a1 < 0) then decide (a0 > IntKind.i64.wrap ((9223372036854775807 : Int) + a1)) else false then true else bif decide (a1 > 0) then decide (a0 < IntKind.i64.wrap ((-9223372036854775808 : Int) + a1)) else false) = false → Q [.d (.i (IntKind.i64.wrap (a0 - a1))), .d (.i 0)] [])) := by kernel_rfl
def s289_0 (a0 : Int) (a1 : Int) : Int := bif
   bif
       bif decide (a1 < (0 : Int)) then decide (a0 > IntKind.i64.wrap ((9223372036854775807 : Int) + a1))
       else false then
     true
   else
     bif decide (a1 > (0 : Int)) then decide (a0 < IntKind.i64.wrap ((-9223372036854775808 : Int) + a1))
     else false then
 (0 : Int)
else IntKind.i64.wrap (a0 - a1)
def s289_1 (a0 : Int) (a1 : Int) : Int := bif
   bif
       bif decide (a1 < (0 : Int)) then decide (a0 > IntKind.i64.wrap ((9223372036854775807 : Int) + a1))
       else false then
     true
   else
     bif decide (a1 > (0 : Int)) then decide (a0 < IntKind.i64.wrap ((-9223372036854775808 : Int) + a1))
     else false then
 (10 : Int)
else (0 : Int)
theorem ct289 (a0 : Int) (a1 : Int) : Ct prog gl 183 [.d (.v (.int .i64 a0)), .d (.v (.int .i64 a1))] (gives [R.d (D.v (Value.int IntKind.i64 (s289_0 a0 a1))), R.d (D.v (Value.int IntKind.i64 (s289_1 a0 a1)))]) :=
 ctv C_0_ok f183 fi183 ⟨_, _, rfl, rfl⟩ (by
   rw [vc289]; dsimp -eta -iota -proj only [Zf1, Zfk]
   (repeat' first | exact ⟨rfl, rfl⟩ | apply gsplit <;> intro h)
   all_goals (refine ⟨?_, rfl⟩; simp only [s289_0, s289_1, *, cond_true, cond_false]))
def c_289 (a : List R) (K : KT) : Prop := match a with | [.d (.v (.int .i64 a0)), .d (.v (.int .i64 a1))] => K [R.d (D.v (Value.int IntKind.i64 (s289_0 a0 a1))), R.d (D.v (Value.int IntKind.i64 (s289_1 a0 a1)))] [] | _ => False
theorem c_289_ok (a : List R) (K : KT) (h : c_289 a K) : Ct prog gl 183 a K := by
 unfold c_289 at h
 split at h
 · exact (ct289 _ _).gives h
 · exact h.elim
def C_36 : CallT := addC C_35 183 c_289
theorem C_36_ok : CallsOk prog gl C_36 := addC_ok C_35_ok c_289_ok
def C_37 : CallT := C_36
theorem C_37_ok : CallsOk prog gl C_37 := C_36_ok
def C_38 : CallT := C_37
theorem C_38_ok : CallsOk prog gl C_38 := C_37_ok
theorem vc354 (a0 : Int) (a1 : Bool) (Q : KT) : vc E_0 C_0 noI fi254 (f254.body.getD .skip) f254.results.toList [.d (.v (.int .u64 a0)), .d (.v (.bool a1))] Q = ( ((bif a1 then decide (a0 ≤ 9223372036854775808) else false) = true → Q [.d (.i (IntKind.i64.wrap (IntKind.u64.wrap ((0 : Int) - a0)))), .d (.i 0)] []) ∧ ((bif a1 then decide (a0 ≤ 9223372036854775808) else false) = false → (decide (a0 > 9223372036854775807) = true → Zf1 Q (0 : Int) (10 : Int)) ∧ (decide (a0 > 9223372036854775807) = false → Q [.d (.i (IntKind.i64.wrap a0)), .d (.i 0)] []))) := by kernel_rfl
def s354_0 (a0 : Int) (a1 : Bool) : Int := bif bif a1 then decide (a0 ≤ (9223372036854775808 : Int)) else false then
 IntKind.i64.wrap (IntKind.u64.wrap ((0 : Int) - a0))
else bif decide (a0 > (9223372036854775807 : Int)) then (0 : Int) else IntKind.i64.wrap a0
def s354_1 (a0 : Int) (a1 : Bool) : Int := bif bif a1 then decide (a0 ≤ (9223372036854775808 : Int)) else false then (0 : Int)
else bif decide (a0 > (9223372036854775807 : Int)) then (10 : Int) else (0 : Int)
theorem ct354 (a0 : Int) (a1 : Bool) : Ct prog gl 254 [.d (.v (.int .u64 a0)), .d (.v (.bool a1))] (gives [R.d (D.v (Value.int IntKind.i64 (s354_0 a0 a1))), R.d (D.v (Value.int IntKind.i64 (s354_1 a0 a1)))]) :=
 ctv C_0_ok f254 fi254 ⟨_, _, rfl, rfl⟩ (by
   rw [vc354]; dsimp -eta -iota -proj only [Zf1, Zfk]
   (repeat' first | exact ⟨rfl, rfl⟩ | apply gsplit <;> intro h)
   all_goals (refine ⟨?_, rfl⟩; simp only [s354_0, s354_1, *, cond_true, cond_false]))
def c_354 (a : List R) (K : KT) : Prop := match a with | [.d (.v (.int .u64 a0)), .d (.v (.bool a1))] => K [R.d (D.v (Value.int IntKind.i64 (s354_0 a0 a1))), R.d (D.v (Value.int IntKind.i64 (s354_1 a0 a1)))] [] | _ => False
theorem c_354_ok (a : List R) (K : KT) (h : c_354 a K) : Ct prog gl 254 a K := by
 unfold c_354 at h
 split at h
 · exact (ct354 _ _).gives h
 · exact h.elim
def C_39 : CallT := addC C_38 254 c_354
theorem C_39_ok : CallsOk prog gl C_39 := addC_ok C_38_ok c_354_ok
def C_40 : CallT := C_39
theorem C_40_ok : CallsOk prog gl C_40 := C_39_ok
theorem vc385 (a0 : Bool) (Q : KT) : vc E_0 C_0 noI fi299 (f299.body.getD .skip) f299.results.toList [.d (.v (.bool a0))] Q = ( (a0 = true → Q [.d (.i 1)] []) ∧ (a0 = false → Q [.d (.i 0)] [])) := by kernel_rfl
def s385_0 (a0 : Bool) : Int := bif a0 then (1 : Int) else (0 : Int)
theorem ct385 (a0 : Bool) : Ct prog gl 299 [.d (.v (.bool a0))] (gives [R.d (D.v (Value.int IntKind.i64 (s385_0 a0)))]) :=
 ctv C_0_ok f299 fi299 ⟨_, _, rfl, rfl⟩ (by
   rw [vc385]
   (repeat' first | exact ⟨rfl, rfl⟩ | apply gsplit <;> intro h)
   all_goals (refine ⟨?_, rfl⟩; simp only [s385_0, *, cond_true, cond_false]))
def c_385 (a : List R) (K : KT) : Prop := match a with | [.d (.v (.bool a0))] => K [R.d (D.v (Value.int IntKind.i64 (s385_0 a0)))] [] | _ => False
theorem c_385_ok (a : List R) (K : KT) (h : c_385 a K) : Ct prog gl 299 a K := by
 unfold c_385 at h
 split at h
 · exact (ct385 _).gives h
 · exact h.elim
def C_41 : CallT := addC C_40 299 c_385
theorem C_41_ok : CallsOk prog gl C_41 := addC_ok C_40_ok c_385_ok
theorem vc386 (a0 : Int) (Q : KT) : vc E_0 C_0 noI fi300 (f300.body.getD .skip) f300.results.toList [.d (.v (.int .i64 a0))] Q = ( Q [.d (.v (.bool (aInt.bits BinOp.and IntKind.i64 a0 (IntKind.i64.wrap (a0 - 1)) == (0 : Int))))] []) := by kernel_rfl
def s386_0 (a0 : Int) : Bool := aInt.bits BinOp.and IntKind.i64 a0 (IntKind.i64.wrap (a0 - (1 : Int))) == (0 : Int)
theorem ct386 (a0 : Int) : Ct prog gl 300 [.d (.v (.int .i64 a0))] (gives [R.d (D.v (Value.bool (s386_0 a0)))]) :=
 ctv C_0_ok f300 fi300 ⟨_, _, rfl, rfl⟩ (by
   rw [vc386]
   (repeat' first | exact ⟨rfl, rfl⟩ | apply gsplit <;> intro h)
   all_goals (refine ⟨?_, rfl⟩; simp only [s386_0, *, cond_true, cond_false]))
def c_386 (a : List R) (K : KT) : Prop := match a with | [.d (.v (.int .i64 a0))] => K [R.d (D.v (Value.bool (s386_0 a0)))] [] | _ => False
theorem c_386_ok (a : List R) (K : KT) (h : c_386 a K) : Ct prog gl 300 a K := by
 unfold c_386 at h
 split at h
 · exact (ct386 _).gives h
 · exact h.elim
def C_42 : CallT := addC C_41 300 c_386
theorem C_42_ok : CallsOk prog gl C_42 := addC_ok C_41_ok c_386_ok
theorem vc401 (a0 : Int) (Q : KT) : vc E_0 C_0 noI fi266 (f266.body.getD .skip) f266.results.toList [.d (.v (.int .u8 a0))] Q = ( Q [.d (.v (.bool (bif bif bif a0 == 9 then true else a0 == 10 then true else a0 == 13 then true else a0 == 32)))] []) := by kernel_rfl
def s401_0 (a0 : Int) : Bool := bif bif bif a0 == (9 : Int) then true else a0 == (10 : Int) then true else a0 == (13 : Int) then true
else a0 == (32 : Int)
theorem ct401 (a0 : Int) : Ct prog gl 266 [.d (.v (.int .u8 a0))] (gives [R.d (D.v (Value.bool (s401_0 a0)))]) :=
 ctv C_0_ok f266 fi266 ⟨_, _, rfl, rfl⟩ (by
   rw [vc401]
   (repeat' first | exact ⟨rfl, rfl⟩ | apply gsplit <;> intro h)
   all_goals (refine ⟨?_, rfl⟩; simp only [s401_0, *, cond_true, cond_false]))
def c_401 (a : List R) (K : KT) : Prop := match a with | [.d (.v (.int .u8 a0))] => K [R.d (D.v (Value.bool (s401_0 a0)))] [] | _ => False
theorem c_401_ok (a : List R) (K : KT) (h : c_401 a K) : Ct prog gl 266 a K := by
 unfold c_401 at h
 split at h
 · exact (ct401 _).gives h
 · exact h.elim
def C_43 : CallT := addC C_42 266 c_401
theorem C_43_ok : CallsOk prog gl C_43 := addC_ok C_42_ok c_401_ok
theorem vc403 (a0 : Int) (Q : KT) : vc E_0 C_0 noI fi268 (f268.body.getD .skip) f268.results.toList [.d (.v (.int .u8 a0))] Q = ( Q [.d (.v (.bool (bif bif bif decide (a0 ≥ 97) then decide (a0 ≤ 122) else false then true else bif decide (a0 ≥ 65) then decide (a0 ≤ 90) else false then true else a0 == 95)))] []) := by kernel_rfl
def s403_0 (a0 : Int) : Bool := bif
   bif bif decide (a0 ≥ (97 : Int)) then decide (a0 ≤ (122 : Int)) else false then true
   else bif decide (a0 ≥ (65 : Int)) then decide (a0 ≤ (90 : Int)) else false then
 true
else a0 == (95 : Int)
theorem ct403 (a0 : Int) : Ct prog gl 268 [.d (.v (.int .u8 a0))] (gives [R.d (D.v (Value.bool (s403_0 a0)))]) :=
 ctv C_0_ok f268 fi268 ⟨_, _, rfl, rfl⟩ (by
   rw [vc403]
   (repeat' first | exact ⟨rfl, rfl⟩ | apply gsplit <;> intro h)
   all_goals (refine ⟨?_, rfl⟩; simp only [s403_0, *, cond_true, cond_false]))
def c_403 (a : List R) (K : KT) : Prop := match a with | [.d (.v (.int .u8 a0))] => K [R.d (D.v (Value.bool (s403_0 a0)))] [] | _ => False
theorem c_403_ok (a : List R) (K : KT) (h : c_403 a K) : Ct prog gl 268 a K := by
 unfold c_403 at h
 split at h
 · exact (ct403 _).gives h
 · exact h.elim
def C_44 : CallT := addC C_43 268 c_403
theorem C_44_ok : CallsOk prog gl C_44 := addC_ok C_43_ok c_403_ok
theorem vc405 (a0 : Int) (Q : KT) : vc E_0 C_0 noI fi270 (f270.body.getD .skip) f270.results.toList [.d (.v (.int .u8 a0))] Q = ( Q [.d (.v (.bool (bif decide (a0 ≥ 48) then decide (a0 ≤ 57) else false)))] []) := by kernel_rfl
def s405_0 (a0 : Int) : Bool := bif decide (a0 ≥ (48 : Int)) then decide (a0 ≤ (57 : Int)) else false
theorem ct405 (a0 : Int) : Ct prog gl 270 [.d (.v (.int .u8 a0))] (gives [R.d (D.v (Value.bool (s405_0 a0)))]) :=
 ctv C_0_ok f270 fi270 ⟨_, _, rfl, rfl⟩ (by
   rw [vc405]
   (repeat' first | exact ⟨rfl, rfl⟩ | apply gsplit <;> intro h)
   all_goals (refine ⟨?_, rfl⟩; simp only [s405_0, *, cond_true, cond_false]))
def c_405 (a : List R) (K : KT) : Prop := match a with | [.d (.v (.int .u8 a0))] => K [R.d (D.v (Value.bool (s405_0 a0)))] [] | _ => False
theorem c_405_ok (a : List R) (K : KT) (h : c_405 a K) : Ct prog gl 270 a K := by
 unfold c_405 at h
 split at h
 · exact (ct405 _).gives h
 · exact h.elim
def C_45 : CallT := addC C_44 270 c_405
theorem C_45_ok : CallsOk prog gl C_45 := addC_ok C_44_ok c_405_ok
def C_46 : CallT := C_45
theorem C_46_ok : CallsOk prog gl C_46 := C_45_ok
theorem vc445 (a0 : Int) (Q : KT) : vc E_0 C_0 noI fi310 (f310.body.getD .skip) f310.results.toList [.d (.v (.int .i64 a0))] Q = ( Q [.d (.v (.bool (a0 != a0)))] []) := by kernel_rfl
def s445_0 (a0 : Int) : Bool := a0 != a0
theorem ct445 (a0 : Int) : Ct prog gl 310 [.d (.v (.int .i64 a0))] (gives [R.d (D.v (Value.bool (s445_0 a0)))]) :=
 ctv C_0_ok f310 fi310 ⟨_, _, rfl, rfl⟩ (by
   rw [vc445]
   (repeat' first | exact ⟨rfl, rfl⟩ | apply gsplit <;> intro h)
   all_goals (refine ⟨?_, rfl⟩; simp only [s445_0, *, cond_true, cond_false]))
def c_445 (a : List R) (K : KT) : Prop := match a with | [.d (.v (.int .i64 a0))] => K [R.d (D.v (Value.bool (s445_0 a0)))] [] | _ => False
theorem c_445_ok (a : List R) (K : KT) (h : c_445 a K) : Ct prog gl 310 a K := by
 unfold c_445 at h
 split at h
 · exact (ct445 _).gives h
 · exact h.elim
def C_47 : CallT := addC C_46 310 c_445
theorem C_47_ok : CallsOk prog gl C_47 := addC_ok C_46_ok c_445_ok
def C_48 : CallT := C_47
theorem C_48_ok : CallsOk prog gl C_48 := C_47_ok
def C_49 : CallT := C_48
theorem C_49_ok : CallsOk prog gl C_49 := C_48_ok
def C_50 : CallT := C_49
theorem C_50_ok : CallsOk prog gl C_50 := C_49_ok
theorem vc481 (a0 : Int) (a1 : Int) (Q : KT) : vc E_0 C_0 noI fi348 (f348.body.getD .skip) f348.results.toList [.d (.v (.int .i64 a0)), .d (.v (.int .i64 a1))] Q = ( Q [.agg [.i 3, .i a1, .v (.bool false), .i a0, .v (.string ⟨⟨[]⟩⟩)]] []) := by kernel_rfl
theorem ct481 (a0 : Int) (a1 : Int) : Ct prog gl 348 [.d (.v (.int .i64 a0)), .d (.v (.int .i64 a1))] (gives [R.agg
   [D.v (Value.int IntKind.i64 (3 : Int)), D.v (Value.int IntKind.i64 a1), D.v (Value.bool false),
     D.v (Value.int IntKind.i64 a0), D.v (Value.string { data := { toList := [] : Array UInt8 } : ByteArray })]]) :=
 ctv C_0_ok f348 fi348 ⟨_, _, rfl, rfl⟩ (by
   rw [vc481]
   (repeat' first | exact ⟨rfl, rfl⟩ | apply gsplit <;> intro h)
   all_goals (refine ⟨?_, rfl⟩; simp only [*, cond_true, cond_false]))
def c_481 (a : List R) (K : KT) : Prop := match a with | [.d (.v (.int .i64 a0)), .d (.v (.int .i64 a1))] => K [R.agg
 [D.v (Value.int IntKind.i64 (3 : Int)), D.v (Value.int IntKind.i64 a1), D.v (Value.bool false),
   D.v (Value.int IntKind.i64 a0), D.v (Value.string { data := { toList := [] : Array UInt8 } : ByteArray })]] [] | _ => False
theorem c_481_ok (a : List R) (K : KT) (h : c_481 a K) : Ct prog gl 348 a K := by
 unfold c_481 at h
 split at h
 · exact (ct481 _ _).gives h
 · exact h.elim
def C_51 : CallT := addC C_50 348 c_481
theorem C_51_ok : CallsOk prog gl C_51 := addC_ok C_50_ok c_481_ok
theorem vc487 (a0 : Int) (Q : KT) : vc E_0 C_0 noI fi354 (f354.body.getD .skip) f354.results.toList [.d (.v (.int .i64 a0))] Q = ( Q (Zfu (5 : Int) a0) []) := by kernel_rfl
theorem ct487 (a0 : Int) : Ct prog gl 354 [.d (.v (.int .i64 a0))] (gives [R.agg
   [D.v (Value.int IntKind.i64 (5 : Int)), D.v (Value.int IntKind.i64 (0 : Int)), D.v (Value.bool false),
     D.v (Value.int IntKind.i64 a0), D.v (Value.string { data := { toList := [] : Array UInt8 } : ByteArray })]]) :=
 ctv C_0_ok f354 fi354 ⟨_, _, rfl, rfl⟩ (by
   rw [vc487]; dsimp -eta -iota -proj only [Zfu]
   (repeat' first | exact ⟨rfl, rfl⟩ | apply gsplit <;> intro h)
   all_goals (refine ⟨?_, rfl⟩; simp only [*, cond_true, cond_false]))
def c_487 (a : List R) (K : KT) : Prop := match a with | [.d (.v (.int .i64 a0))] => K [R.agg
 [D.v (Value.int IntKind.i64 (5 : Int)), D.v (Value.int IntKind.i64 (0 : Int)), D.v (Value.bool false),
   D.v (Value.int IntKind.i64 a0), D.v (Value.string { data := { toList := [] : Array UInt8 } : ByteArray })]] [] | _ => False
theorem c_487_ok (a : List R) (K : KT) (h : c_487 a K) : Ct prog gl 354 a K := by
 unfold c_487 at h
 split at h
 · exact (ct487 _).gives h
 · exact h.elim
def C_52 : CallT := addC C_51 354 c_487
theorem C_52_ok : CallsOk prog gl C_52 := addC_ok C_51_ok c_487_ok
theorem vc60 (a0 : Int) (a1 : Int) (Q : KT) : vc E_0 C_52 noI fi45 (f45.body.getD .skip) f45.results.toList [.agg [.v (.int .i64 a0), .v (.int .i64 a1)]] Q = ( ((bif bif bif decide (a0 < 1) then true else decide (a0 > 5) then true else !s124_0 a1 then true else bif a1 != (0 : Int) then a0 != (3 : Int) else false) = true → Q [.d (.i 21)] []) ∧ ((bif bif bif decide (a0 < 1) then true else decide (a0 > 5) then true else !s124_0 a1 then true else bif a1 != (0 : Int) then a0 != (3 : Int) else false) = false → Q [.d (.i 0)] [])) := by kernel_rfl
def s60_0 (a0 : Int) (a1 : Int) : Int := bif
   bif bif bif decide (a0 < (1 : Int)) then true else decide (a0 > (5 : Int)) then true else !s124_0 a1 then true
   else bif a1 != (0 : Int) then a0 != (3 : Int) else false then
 (21 : Int)
else (0 : Int)
theorem ct60 (a0 : Int) (a1 : Int) : Ct prog gl 45 [.agg [.v (.int .i64 a0), .v (.int .i64 a1)]] (gives [R.d (D.v (Value.int IntKind.i64 (s60_0 a0 a1)))]) :=
 ctv C_52_ok f45 fi45 ⟨_, _, rfl, rfl⟩ (by
   rw [vc60]
   (repeat' first | exact ⟨rfl, rfl⟩ | apply gsplit <;> intro h)
   all_goals (refine ⟨?_, rfl⟩; simp only [s60_0, *, cond_true, cond_false]))
def c_60 (a : List R) (K : KT) : Prop := match a with | [.agg [.v (.int .i64 a0), .v (.int .i64 a1)]] => K [R.d (D.v (Value.int IntKind.i64 (s60_0 a0 a1)))] [] | _ => False
theorem c_60_ok (a : List R) (K : KT) (h : c_60 a K) : Ct prog gl 45 a K := by
 unfold c_60 at h
 split at h
 · exact (ct60 _ _).gives h
 · exact h.elim
def C_53 : CallT := addC C_52 45 c_60
theorem C_53_ok : CallsOk prog gl C_53 := addC_ok C_52_ok c_60_ok
theorem vc111 (a0 : Int) (a1 : Int) (a2 : Int) (a3 : Int) (Q : KT) : vc E_0 C_52 noI fi40 (f40.body.getD .skip) f40.results.toList [.agg [.v (.int .i64 a0), .v (.int .i64 a1)], .agg [.v (.int .i64 a2), .v (.int .i64 a3)]] Q = ( Q [.d (.v (.bool (bif bif s188_0 a0 == s188_0 a2 then decide (a0 ≥ 1) else false then decide (a0 ≤ 5) else false)))] []) := by kernel_rfl
def s111_0 (a0 : Int) (a1 : Int) (a2 : Int) (a3 : Int) : Bool := bif bif s188_0 a0 == s188_0 a2 then decide (a0 ≥ (1 : Int)) else false then decide (a0 ≤ (5 : Int)) else false
theorem ct111 (a0 : Int) (a1 : Int) (a2 : Int) (a3 : Int) : Ct prog gl 40 [.agg [.v (.int .i64 a0), .v (.int .i64 a1)], .agg [.v (.int .i64 a2), .v (.int .i64 a3)]] (gives [R.d (D.v (Value.bool (s111_0 a0 a1 a2 a3)))]) :=
 ctv C_52_ok f40 fi40 ⟨_, _, rfl, rfl⟩ (by
   rw [vc111]
   (repeat' first | exact ⟨rfl, rfl⟩ | apply gsplit <;> intro h)
   all_goals (refine ⟨?_, rfl⟩; simp only [s111_0, *, cond_true, cond_false]))
def c_111 (a : List R) (K : KT) : Prop := match a with | [.agg [.v (.int .i64 a0), .v (.int .i64 a1)], .agg [.v (.int .i64 a2), .v (.int .i64 a3)]] => K [R.d (D.v (Value.bool (s111_0 a0 a1 a2 a3)))] [] | _ => False
theorem c_111_ok (a : List R) (K : KT) (h : c_111 a K) : Ct prog gl 40 a K := by
 unfold c_111 at h
 split at h
 · exact (ct111 _ _ _ _).gives h
 · exact h.elim
def C_54 : CallT := addC C_53 40 c_111
theorem C_54_ok : CallsOk prog gl C_54 := addC_ok C_53_ok c_111_ok
theorem vc129 (a0 : Int) (a1 : Int) (a2 : Int) (a3 : Int) (Q : KT) : vc E_0 C_52 noI fi95 (f95.body.getD .skip) f95.results.toList [.agg [.v (.int .i64 a0), .v (.int .i64 a1)], .agg [.v (.int .i64 a2), .v (.int .i64 a3)]] Q = ( Q [.d (.v (.bool (bif bif decide (a0 ≥ 1) then decide (a0 ≤ 5) else false then s209_0 a0 == s209_0 a2 else false)))] []) := by kernel_rfl
def s129_0 (a0 : Int) (a1 : Int) (a2 : Int) (a3 : Int) : Bool := bif bif decide (a0 ≥ (1 : Int)) then decide (a0 ≤ (5 : Int)) else false then s209_0 a0 == s209_0 a2 else false
theorem ct129 (a0 : Int) (a1 : Int) (a2 : Int) (a3 : Int) : Ct prog gl 95 [.agg [.v (.int .i64 a0), .v (.int .i64 a1)], .agg [.v (.int .i64 a2), .v (.int .i64 a3)]] (gives [R.d (D.v (Value.bool (s129_0 a0 a1 a2 a3)))]) :=
 ctv C_52_ok f95 fi95 ⟨_, _, rfl, rfl⟩ (by
   rw [vc129]
   (repeat' first | exact ⟨rfl, rfl⟩ | apply gsplit <;> intro h)
   all_goals (refine ⟨?_, rfl⟩; simp only [s129_0, *, cond_true, cond_false]))
def c_129 (a : List R) (K : KT) : Prop := match a with | [.agg [.v (.int .i64 a0), .v (.int .i64 a1)], .agg [.v (.int .i64 a2), .v (.int .i64 a3)]] => K [R.d (D.v (Value.bool (s129_0 a0 a1 a2 a3)))] [] | _ => False
theorem c_129_ok (a : List R) (K : KT) (h : c_129 a K) : Ct prog gl 95 a K := by
 unfold c_129 at h
 split at h
 · exact (ct129 _ _ _ _).gives h
 · exact h.elim
def C_55 : CallT := addC C_54 95 c_129
theorem C_55_ok : CallsOk prog gl C_55 := addC_ok C_54_ok c_129_ok
theorem vc153 (a0 : Int) (a1 : Int) (a2 : Int) (Q : KT) : vc E_0 C_52 noI fi70 (f70.body.getD .skip) f70.results.toList [.agg [.v (.int .i64 a0), .v (.int .i64 a1)], .d (.v (.int .i64 a2))] Q = ( Q [.d (.v (.bool (bif bif bif a0 == a2 then true else a0 == 4 then true else a2 == 4 then true else bif s179_0 a0 a1 then bif a2 == 2 then true else a2 == 3 else false)))] []) := by kernel_rfl
def s153_0 (a0 : Int) (a1 : Int) (a2 : Int) : Bool := bif bif bif a0 == a2 then true else a0 == (4 : Int) then true else a2 == (4 : Int) then true
else bif s179_0 a0 a1 then bif a2 == (2 : Int) then true else a2 == (3 : Int) else false
theorem ct153 (a0 : Int) (a1 : Int) (a2 : Int) : Ct prog gl 70 [.agg [.v (.int .i64 a0), .v (.int .i64 a1)], .d (.v (.int .i64 a2))] (gives [R.d (D.v (Value.bool (s153_0 a0 a1 a2)))]) :=
 ctv C_52_ok f70 fi70 ⟨_, _, rfl, rfl⟩ (by
   rw [vc153]
   (repeat' first | exact ⟨rfl, rfl⟩ | apply gsplit <;> intro h)
   all_goals (refine ⟨?_, rfl⟩; simp only [s153_0, *, cond_true, cond_false]))
def c_153 (a : List R) (K : KT) : Prop := match a with | [.agg [.v (.int .i64 a0), .v (.int .i64 a1)], .d (.v (.int .i64 a2))] => K [R.d (D.v (Value.bool (s153_0 a0 a1 a2)))] [] | _ => False
theorem c_153_ok (a : List R) (K : KT) (h : c_153 a K) : Ct prog gl 70 a K := by
 unfold c_153 at h
 split at h
 · exact (ct153 _ _ _).gives h
 · exact h.elim
def C_56 : CallT := addC C_55 70 c_153
theorem C_56_ok : CallsOk prog gl C_56 := addC_ok C_55_ok c_153_ok
theorem vc159 (a0 : Int) (Q : KT) : vc E_0 C_52 noI fi77 (f77.body.getD .skip) f77.results.toList [.d (.v (.int .i64 a0))] Q = ( ((a0 == 2) = true → Q [.agg [.i 1, .i 0, .v (.bool true), .i 0, .v (.string ⟨⟨[]⟩⟩)]] []) ∧ ((a0 == 2) = false → Q [.agg [.i 1, .i 0, .v (.bool false), .i (s72_0 (a0 == 1)), .v (.string ⟨⟨[]⟩⟩)]] [])) := by kernel_rfl
def s159_0 (a0 : Int) : Bool := bif a0 == (2 : Int) then true else false
def s159_1 (a0 : Int) : Int := bif a0 == (2 : Int) then (0 : Int) else s72_0 (a0 == (1 : Int))
theorem ct159 (a0 : Int) : Ct prog gl 77 [.d (.v (.int .i64 a0))] (gives [R.agg
   [D.v (Value.int IntKind.i64 (1 : Int)), D.v (Value.int IntKind.i64 (0 : Int)), D.v (Value.bool (s159_0 a0)),
     D.v (Value.int IntKind.i64 (s159_1 a0)), D.v (Value.string { data := { toList := [] : Array UInt8 } : ByteArray })]]) :=
 ctv C_52_ok f77 fi77 ⟨_, _, rfl, rfl⟩ (by
   rw [vc159]
   (repeat' first | exact ⟨rfl, rfl⟩ | apply gsplit <;> intro h)
   all_goals (refine ⟨?_, rfl⟩; simp only [s159_0, s159_1, *, cond_true, cond_false]))
def c_159 (a : List R) (K : KT) : Prop := match a with | [.d (.v (.int .i64 a0))] => K [R.agg
 [D.v (Value.int IntKind.i64 (1 : Int)), D.v (Value.int IntKind.i64 (0 : Int)), D.v (Value.bool (s159_0 a0)),
   D.v (Value.int IntKind.i64 (s159_1 a0)), D.v (Value.string { data := { toList := [] : Array UInt8 } : ByteArray })]] [] | _ => False
theorem c_159_ok (a : List R) (K : KT) (h : c_159 a K) : Ct prog gl 77 a K := by
 unfold c_159 at h
 split at h
 · exact (ct159 _).gives h
 · exact h.elim
def C_57 : CallT := addC C_56 77 c_159
theorem C_57_ok : CallsOk prog gl C_57 := addC_ok C_56_ok c_159_ok
theorem vc161 (a0 : Int) (a1 : Int) (a2 : Bool) (a3 : Int) (a4 : ByteArray) (Q : KT) : vc E_0 C_52 noI fi79 (f79.body.getD .skip) f79.results.toList [.agg [.v (.int .i64 a0), .v (.int .i64 a1), .v (.bool a2), .v (.int .i64 a3), .v (.string a4)]] Q = ( Q [.d (.i (s110_0 a0 a1 a2 a3 a4))] []) := by kernel_rfl
def s161_0 (a0 : Int) (a1 : Int) (a2 : Bool) (a3 : Int) (a4 : ByteArray) : Int := s110_0 a0 a1 a2 a3 a4
theorem ct161 (a0 : Int) (a1 : Int) (a2 : Bool) (a3 : Int) (a4 : ByteArray) : Ct prog gl 79 [.agg [.v (.int .i64 a0), .v (.int .i64 a1), .v (.bool a2), .v (.int .i64 a3), .v (.string a4)]] (gives [R.d (D.v (Value.int IntKind.i64 (s161_0 a0 a1 a2 a3 a4)))]) :=
 ctv C_52_ok f79 fi79 ⟨_, _, rfl, rfl⟩ (by
   rw [vc161]
   (repeat' first | exact ⟨rfl, rfl⟩ | apply gsplit <;> intro h)
   all_goals (refine ⟨?_, rfl⟩; simp only [s161_0, *, cond_true, cond_false]))
def c_161 (a : List R) (K : KT) : Prop := match a with | [.agg [.v (.int .i64 a0), .v (.int .i64 a1), .v (.bool a2), .v (.int .i64 a3), .v (.string a4)]] => K [R.d (D.v (Value.int IntKind.i64 (s161_0 a0 a1 a2 a3 a4)))] [] | _ => False
theorem c_161_ok (a : List R) (K : KT) (h : c_161 a K) : Ct prog gl 79 a K := by
 unfold c_161 at h
 split at h
 · exact (ct161 _ _ _ _ _).gives h
 · exact h.elim
def C_58 : CallT := addC C_57 79 c_161
theorem C_58_ok : CallsOk prog gl C_58 := addC_ok C_57_ok c_161_ok
def C_59 : CallT := C_58
theorem C_59_ok : CallsOk prog gl C_59 := C_58_ok
theorem vc225 (a0 : Int) (a1 : Int) (Q : KT) : vc E_0 C_52 noI fi131 (f131.body.getD .skip) f131.results.toList [.d (.v (.int .i64 a0)), .d (.v (.int .i64 a1))] Q = ( Q [.d (.i (s160_0 (s50_0 (s160_0 a0) (s160_0 a1))))] []) := by kernel_rfl
def s225_0 (a0 : Int) (a1 : Int) : Int := s160_0 (s50_0 (s160_0 a0) (s160_0 a1))
theorem ct225 (a0 : Int) (a1 : Int) : Ct prog gl 131 [.d (.v (.int .i64 a0)), .d (.v (.int .i64 a1))] (gives [R.d (D.v (Value.int IntKind.i64 (s225_0 a0 a1)))]) :=
 ctv C_52_ok f131 fi131 ⟨_, _, rfl, rfl⟩ (by
   rw [vc225]
   (repeat' first | exact ⟨rfl, rfl⟩ | apply gsplit <;> intro h)
   all_goals (refine ⟨?_, rfl⟩; simp only [s225_0, *, cond_true, cond_false]))
def c_225 (a : List R) (K : KT) : Prop := match a with | [.d (.v (.int .i64 a0)), .d (.v (.int .i64 a1))] => K [R.d (D.v (Value.int IntKind.i64 (s225_0 a0 a1)))] [] | _ => False
theorem c_225_ok (a : List R) (K : KT) (h : c_225 a K) : Ct prog gl 131 a K := by
 unfold c_225 at h
 split at h
 · exact (ct225 _ _).gives h
 · exact h.elim
def C_60 : CallT := addC C_59 131 c_225
theorem C_60_ok : CallsOk prog gl C_60 := addC_ok C_59_ok c_225_ok
theorem vc285 (a0 : Int) (a1 : Int) (Q : KT) : vc E_0 C_52 noI fi178 (f178.body.getD .skip) f178.results.toList [.d (.v (.int .i64 a0)), .d (.v (.int .i64 a1))] Q = ( Q [.d (.v (.bool (bif bif decide (a0 ≥ 1) then decide (a0 ≤ 5) else false then bif bif bif a0 == a1 then true else a1 == 4 then true else a0 == 4 then true else s188_0 a0 == s188_0 a1 else false)))] []) := by kernel_rfl
def s285_0 (a0 : Int) (a1 : Int) : Bool := bif bif decide (a0 ≥ (1 : Int)) then decide (a0 ≤ (5 : Int)) else false then
 bif bif bif a0 == a1 then true else a1 == (4 : Int) then true else a0 == (4 : Int) then true
 else s188_0 a0 == s188_0 a1
else false
theorem ct285 (a0 : Int) (a1 : Int) : Ct prog gl 178 [.d (.v (.int .i64 a0)), .d (.v (.int .i64 a1))] (gives [R.d (D.v (Value.bool (s285_0 a0 a1)))]) :=
 ctv C_52_ok f178 fi178 ⟨_, _, rfl, rfl⟩ (by
   rw [vc285]
   (repeat' first | exact ⟨rfl, rfl⟩ | apply gsplit <;> intro h)
   all_goals (refine ⟨?_, rfl⟩; simp only [s285_0, *, cond_true, cond_false]))
def c_285 (a : List R) (K : KT) : Prop := match a with | [.d (.v (.int .i64 a0)), .d (.v (.int .i64 a1))] => K [R.d (D.v (Value.bool (s285_0 a0 a1)))] [] | _ => False
theorem c_285_ok (a : List R) (K : KT) (h : c_285 a K) : Ct prog gl 178 a K := by
 unfold c_285 at h
 split at h
 · exact (ct285 _ _).gives h
 · exact h.elim
def C_61 : CallT := addC C_60 178 c_285
theorem C_61_ok : CallsOk prog gl C_61 := addC_ok C_60_ok c_285_ok
theorem vc293 (a0 : Int) (Q : KT) : vc E_0 C_52 noI fi187 (f187.body.getD .skip) f187.results.toList [.d (.v (.int .i64 a0))] Q = ( Q [.d (.i (s289_0 (0 : Int) a0)), .d (.i (s289_1 (0 : Int) a0))] []) := by kernel_rfl
def s293_0 (a0 : Int) : Int := s289_0 (0 : Int) a0
def s293_1 (a0 : Int) : Int := s289_1 (0 : Int) a0
theorem ct293 (a0 : Int) : Ct prog gl 187 [.d (.v (.int .i64 a0))] (gives [R.d (D.v (Value.int IntKind.i64 (s293_0 a0))), R.d (D.v (Value.int IntKind.i64 (s293_1 a0)))]) :=
 ctv C_52_ok f187 fi187 ⟨_, _, rfl, rfl⟩ (by
   rw [vc293]
   (repeat' first | exact ⟨rfl, rfl⟩ | apply gsplit <;> intro h)
   all_goals (refine ⟨?_, rfl⟩; simp only [s293_0, s293_1, *, cond_true, cond_false]))
def c_293 (a : List R) (K : KT) : Prop := match a with | [.d (.v (.int .i64 a0))] => K [R.d (D.v (Value.int IntKind.i64 (s293_0 a0))), R.d (D.v (Value.int IntKind.i64 (s293_1 a0)))] [] | _ => False
theorem c_293_ok (a : List R) (K : KT) (h : c_293 a K) : Ct prog gl 187 a K := by
 unfold c_293 at h
 split at h
 · exact (ct293 _).gives h
 · exact h.elim
def C_62 : CallT := addC C_61 187 c_293
theorem C_62_ok : CallsOk prog gl C_62 := addC_ok C_61_ok c_293_ok
theorem vc416 (a0 : Int) (a1 : Int) (Q : KT) : vc E_0 C_52 noI fi261 (f261.body.getD .skip) f261.results.toList [.d (.v (.int .i64 a0)), .d (.v (.int .i64 a1))] Q = ( Q [.d (.v (.bool (bif bif s445_0 a0 then !s445_0 a1 else false then true else decide (a0 < a1))))] []) := by kernel_rfl
def s416_0 (a0 : Int) (a1 : Int) : Bool := bif bif s445_0 a0 then !s445_0 a1 else false then true else decide (a0 < a1)
theorem ct416 (a0 : Int) (a1 : Int) : Ct prog gl 261 [.d (.v (.int .i64 a0)), .d (.v (.int .i64 a1))] (gives [R.d (D.v (Value.bool (s416_0 a0 a1)))]) :=
 ctv C_52_ok f261 fi261 ⟨_, _, rfl, rfl⟩ (by
   rw [vc416]
   (repeat' first | exact ⟨rfl, rfl⟩ | apply gsplit <;> intro h)
   all_goals (refine ⟨?_, rfl⟩; simp only [s416_0, *, cond_true, cond_false]))
def c_416 (a : List R) (K : KT) : Prop := match a with | [.d (.v (.int .i64 a0)), .d (.v (.int .i64 a1))] => K [R.d (D.v (Value.bool (s416_0 a0 a1)))] [] | _ => False
theorem c_416_ok (a : List R) (K : KT) (h : c_416 a K) : Ct prog gl 261 a K := by
 unfold c_416 at h
 split at h
 · exact (ct416 _ _).gives h
 · exact h.elim
def C_63 : CallT := addC C_62 261 c_416
theorem C_63_ok : CallsOk prog gl C_63 := addC_ok C_62_ok c_416_ok
theorem vc56 (a0 : Int) (a1 : Int) (a2 : Bool) (a3 : Int) (a4 : ByteArray) (Q : KT) : vc E_0 C_63 noI fi90 (f90.body.getD .skip) f90.results.toList [.agg [.v (.int .i64 a0), .v (.int .i64 a1), .v (.bool a2), .v (.int .i64 a3), .v (.string a4)]] Q = ( ((s60_0 a0 a1 != (0 : Int)) = true → Q [.d (.i (s60_0 a0 a1))] []) ∧ ((s60_0 a0 a1 != (0 : Int)) = false → (a2 = true → ((!bif a4 == { data := { toList := [] : Array UInt8 } : ByteArray } then a3 == 0 else false) = true → Q [.d (.i 20)] []) ∧ ((!bif a4 == { data := { toList := [] : Array UInt8 } : ByteArray } then a3 == 0 else false) = false → Q [.d (.i 0)] [])) ∧ (a2 = false → ((a0 == 1) = true → ((!bif a4 == { data := { toList := [] : Array UInt8 } : ByteArray } then bif a3 == 0 then true else a3 == 1 else false) = true → Q [.d (.i 20)] []) ∧ ((!bif a4 == { data := { toList := [] : Array UInt8 } : ByteArray } then bif a3 == 0 then true else a3 == 1 else false) = false → Q [.d (.i 0)] [])) ∧ ((a0 == 1) = false → ((a0 == 3) = true → ((!bif a4 == { data := { toList := [] : Array UInt8 } : ByteArray } then s114_0 a3 else false) = true → Q [.d (.i 20)] []) ∧ ((!bif a4 == { data := { toList := [] : Array UInt8 } : ByteArray } then s114_0 a3 else false) = false → Q [.d (.i 0)] [])) ∧ ((a0 == 3) = false → ((a0 == 5) = true → ((!bif bif a4 == { data := { toList := [] : Array UInt8 } : ByteArray } then decide (a3 ≥ (-719162 : Int)) else false then decide (a3 ≤ 2932896) else false) = true → Q [.d (.i 20)] []) ∧ ((!bif bif a4 == { data := { toList := [] : Array UInt8 } : ByteArray } then decide (a3 ≥ (-719162 : Int)) else false then decide (a3 ≤ 2932896) else false) = false → Q [.d (.i 0)] [])) ∧ ((a0 == 5) = false → ((a0 == 4) = true → ((!bif a3 == 0 then decide ((↑a4.size : Int) ≤ 256) else false) = true → Q [.d (.i 20)] []) ∧ ((!bif a3 == 0 then decide ((↑a4.size : Int) ≤ 256) else false) = false → Q [.d (.i 0)] [])) ∧ ((a0 == 4) = false → ((!a4 == { data := { toList := [] : Array UInt8 } : ByteArray }) = true → Q [.d (.i 20)] []) ∧ ((!a4 == { data := { toList := [] : Array UInt8 } : ByteArray }) = false → Q [.d (.i 0)] [])))))))) := by kernel_rfl
def s56_0 (a0 : Int) (a1 : Int) (a2 : Bool) (a3 : Int) (a4 : ByteArray) : Int := bif s60_0 a0 a1 != (0 : Int) then s60_0 a0 a1
else
 bif a2 then
   bif !bif a4 == { data := { toList := [] : Array UInt8 } : ByteArray } then a3 == (0 : Int) else false then
     (20 : Int)
   else (0 : Int)
 else
   bif a0 == (1 : Int) then
     bif
         !bif a4 == { data := { toList := [] : Array UInt8 } : ByteArray } then
             bif a3 == (0 : Int) then true else a3 == (1 : Int)
           else false then
       (20 : Int)
     else (0 : Int)
   else
     bif a0 == (3 : Int) then
       bif !bif a4 == { data := { toList := [] : Array UInt8 } : ByteArray } then s114_0 a3 else false then (20 : Int)
       else (0 : Int)
     else
       bif a0 == (5 : Int) then
         bif
             !bif
                   bif a4 == { data := { toList := [] : Array UInt8 } : ByteArray } then decide (a3 ≥ (-719162 : Int))
                   else false then
                 decide (a3 ≤ (2932896 : Int))
               else false then
           (20 : Int)
         else (0 : Int)
       else
         bif a0 == (4 : Int) then
           bif !bif a3 == (0 : Int) then decide ((↑a4.size : Int) ≤ (256 : Int)) else false then (20 : Int)
           else (0 : Int)
         else bif !a4 == { data := { toList := [] : Array UInt8 } : ByteArray } then (20 : Int) else (0 : Int)
theorem ct56 (a0 : Int) (a1 : Int) (a2 : Bool) (a3 : Int) (a4 : ByteArray) : Ct prog gl 90 [.agg [.v (.int .i64 a0), .v (.int .i64 a1), .v (.bool a2), .v (.int .i64 a3), .v (.string a4)]] (gives [R.d (D.v (Value.int IntKind.i64 (s56_0 a0 a1 a2 a3 a4)))]) :=
 ctv C_63_ok f90 fi90 ⟨_, _, rfl, rfl⟩ (by
   rw [vc56]
   (repeat' first | exact ⟨rfl, rfl⟩ | apply gsplit <;> intro h)
   all_goals (refine ⟨?_, rfl⟩; simp only [s56_0, *, cond_true, cond_false]))
def c_56 (a : List R) (K : KT) : Prop := match a with | [.agg [.v (.int .i64 a0), .v (.int .i64 a1), .v (.bool a2), .v (.int .i64 a3), .v (.string a4)]] => K [R.d (D.v (Value.int IntKind.i64 (s56_0 a0 a1 a2 a3 a4)))] [] | _ => False
theorem c_56_ok (a : List R) (K : KT) (h : c_56 a K) : Ct prog gl 90 a K := by
 unfold c_56 at h
 split at h
 · exact (ct56 _ _ _ _ _).gives h
 · exact h.elim
def C_64 : CallT := addC C_63 90 c_56
theorem C_64_ok : CallsOk prog gl C_64 := addC_ok C_63_ok c_56_ok
theorem vc59 (a0 : Int) (a1 : Int) (Q : KT) : vc E_0 C_63 noI fi44 (f44.body.getD .skip) f44.results.toList [.agg [.v (.int .i64 a0), .v (.int .i64 a1)]] Q = ( Q [.d (.v (.bool (s60_0 a0 a1 != (0 : Int))))] []) := by kernel_rfl
def s59_0 (a0 : Int) (a1 : Int) : Bool := s60_0 a0 a1 != (0 : Int)
theorem ct59 (a0 : Int) (a1 : Int) : Ct prog gl 44 [.agg [.v (.int .i64 a0), .v (.int .i64 a1)]] (gives [R.d (D.v (Value.bool (s59_0 a0 a1)))]) :=
 ctv C_63_ok f44 fi44 ⟨_, _, rfl, rfl⟩ (by
   rw [vc59]
   (repeat' first | exact ⟨rfl, rfl⟩ | apply gsplit <;> intro h)
   all_goals (refine ⟨?_, rfl⟩; simp only [s59_0, *, cond_true, cond_false]))
def c_59 (a : List R) (K : KT) : Prop := match a with | [.agg [.v (.int .i64 a0), .v (.int .i64 a1)]] => K [R.d (D.v (Value.bool (s59_0 a0 a1)))] [] | _ => False
theorem c_59_ok (a : List R) (K : KT) (h : c_59 a K) : Ct prog gl 44 a K := by
 unfold c_59 at h
 split at h
 · exact (ct59 _ _).gives h
 · exact h.elim
def C_65 : CallT := addC C_64 44 c_59
theorem C_65_ok : CallsOk prog gl C_65 := addC_ok C_64_ok c_59_ok
def C_66 : CallT := C_65
theorem C_66_ok : CallsOk prog gl C_66 := C_65_ok
end Go.Proofs.Tryz
namespace Go.Proofs.Tryz
open Go Go.Dm Go.Ex
set_option maxRecDepth 100000
variable {gl : Nat → Option Obj}
def encI (l : List Int) : List (List D) := l.map fun n => [.v (.int .i64 n)]
def c_27 (n : Nat) (a : List R) (K : KT) : Prop := match a with
 | [.agg x, .agg y] => ∃ a b : EX, x = cells a ∧ y = cells b ∧ size a < n ∧ fits a ∧ fits b ∧ K [.d (.v (.bool (sameE a b)))] []
 | _ => False
def inv_33 (l r : List EX) (m : Nat) (x : Nat) : Prop := (x ≤ l.length ∧ m = l.length - x) ∧ l.take x = r.take x
def c_22 (n : Nat) (a : List R) (K : KT) : Prop := match a with
 | [.agg x, .agg y] => ∃ a b : EX, x = cells a ∧ y = cells b ∧ size a < n ∧ fits a ∧ fits b ∧ K [.d (.v (.bool (sameE a b)))] []
 | _ => False
def C_f22 (n : Nat) : CallT := addC C_66 31 (c_22 n)
def st_22 (op sub : Int) (t : Ty) (v : Go.Ex.AV) (args : List EX) (op' sub' : Int) (t' : Ty) (v' : Go.Ex.AV) (args' : List EX) (x : Nat) : St := { tm := [(2, .ref 2 0), (3, .ref 3 0), (4, .d (.v (.bool false))), (5, .d (.v (.int .i64 (x : Int))))], hp := [(2, .box [.d (.v (.int .i64 op)), .d (.v (.int .i64 sub)), .d (.v (.int .i64 t.k)), .d (.v (.int .i64 t.sc)), .d (.v (.int .i64 v.t.k)), .d (.v (.int .i64 v.t.sc)), .d (.v (.bool v.nul)), .d (.v (.int .i64 v.n)), .d (.v (.string v.s)), .d (.sl (cellsL args))]), (3, .box [.d (.v (.int .i64 op')), .d (.v (.int .i64 sub')), .d (.v (.int .i64 t'.k)), .d (.v (.int .i64 t'.sc)), .d (.v (.int .i64 v'.t.k)), .d (.v (.int .i64 v'.t.sc)), .d (.v (.bool v'.nul)), .d (.v (.int .i64 v'.n)), .d (.v (.string v'.s)), .d (.sl (cellsL args'))])], kn := [], gd := [] }
def fx_22 (op sub : Int) (t : Ty) (v : Go.Ex.AV) (args : List EX) (op' sub' : Int) (t' : Ty) (v' : Go.Ex.AV) (args' : List EX) : Fi := { fi31 with lx := [(4, { X := Nat, sh := st_22 op sub t v args op' sub' t' v' args', P := fun _ => inv_33 args args' })] }
def Zcr (a0 : KT) : Prop := a0 [.d (.v (.bool false))] []
def Zc5 (a0 : Nat) (a1 a2 : Int) (a3 : Ty) (a4 : Go.Ex.AV) (a5 : List EX) (a6 a7 : Int) (a8 : Ty) (a9 : Go.Ex.AV) (a10 : List EX) : St := { tm := [(2, .ref 2 0), (3, .ref 3 0), (4, .d (.v (.bool false))), (5, .i (↑a0 : Int))], hp := [(2, .box [.i a1, .i a2, .i a3.1, .i a3.2, .i a4.1.1, .i a4.1.2, .d (.v (.bool a4.2)), .i a4.3, .d (.v (.string a4.4)), .d (.sl (cellsL a5))]), (3, .box [.i a6, .i a7, .i a8.1, .i a8.2, .i a9.1.1, .i a9.1.2, .d (.v (.bool a9.2)), .i a9.3, .d (.v (.string a9.4)), .d (.sl (cellsL a10))])], kn := [], gd := [] : St }
def Zec (a0 : Nat) (a1 : List (List D)) (k : Prop) : Prop := decide ((↑a0 : Int) < (↑a1.length : Int)) = true → k
def Zdg (a0 : Nat) (a1 : List (List D)) (a2 : List EX) (k : Int → Int → Int → Int → Int → Int → Bool → Int → ByteArray → (List (List D)) → Prop) : Prop := Zec a0 a1 (Zv a2 a0 fun n_2 n_3 n_4 n_5 n_6 n_7 b n_8 b_1 es => k n_2 n_3 n_4 n_5 n_6 n_7 b n_8 b_1 es)
def Zcg (a0 : List EX) (a1 : Nat) (a2 a3 a4 a5 a6 a7 : Int) (a8 : Bool) (a9 : Int) (a10 : ByteArray) (a11 : List (List D)) (k : EX → EX → Prop) : Prop := Zbz a0 a1 fun n_9 n_10 n_11 n_12 n_13 n_14 b_2 n_15 b_3 es_3 a => ∃ (b_4 : EX), Z4 a2 a3 a4 a5 a6 a7 a8 a9 a10 a11 a (Z4 n_9 n_10 n_11 n_12 n_13 n_14 b_2 n_15 b_3 es_3 b_4 (k a b_4))
def Zdp (a0 : Nat) (a1 : List (List D)) (k : Prop) : Prop := decide ((↑a0 : Int) < (↑a1.length : Int)) = false → k
def Ze2 (a0 : Nat) (a1 : List (List D)) (a2 : KT) : Prop := (Zdp a0 a1 (a2 [.d (.v (.bool true))] []))
theorem vc22 (n : Nat) (op sub : Int) (t : Ty) (v : Go.Ex.AV) (args : List EX) (op' sub' : Int) (t' : Ty) (v' : Go.Ex.AV) (args' : List EX) (Q : KT) : vc E_0 (C_f22 n) noI (fx_22 op sub t v args op' sub' t' v' args') (f31.body.getD .skip) f31.results.toList [.agg (encX op sub t v (cellsL args)), .agg (encX op' sub' t' v' (cellsL args'))] Q = ( Zby args fun es => Zby args' fun es_1 => ((bif bif bif bif op != op' then true else sub != sub' then true else !(t.1 == t'.1 && (t.2 == t'.2 && true)) then true else !(v.1.1 == v'.1.1 && (v.1.2 == v'.1.2 && (v.2 == v'.2 && (v.3 == v'.3 && (v.4 == v'.4 && true))))) then true else (↑es.length : Int) != (↑es_1.length : Int)) = true → Zcr Q) ∧ ((bif bif bif bif op != op' then true else sub != sub' then true else !(t.1 == t'.1 && (t.2 == t'.2 && true)) then true else !(v.1.1 == v'.1.1 && (v.1.2 == v'.1.2 && (v.2 == v'.2 && (v.3 == v'.3 && (v.4 == v'.4 && true))))) then true else (↑es.length : Int) != (↑es_1.length : Int)) = false → ∃ (x0 : Nat), ({ tm := [(2, .ref 2 0), (3, .ref 3 0), (4, .d (.v (.bool false))), (5, .i 0)], hp := [(2, .box [.i op, .i sub, .i t.1, .i t.2, .i v.1.1, .i v.1.2, .d (.v (.bool v.2)), .i v.3, .d (.v (.string v.4)), .d (.sl (cellsL args))]), (3, .box [.i op', .i sub', .i t'.1, .i t'.2, .i v'.1.1, .i v'.1.2, .d (.v (.bool v'.2)), .i v'.3, .d (.v (.string v'.4)), .d (.sl (cellsL args'))])], kn := [], gd := [] : St } = (Zc5 x0 op sub t v args op' sub' t' v' args') ∧ ∃ (n : Nat), inv_33 args args' n x0) ∧ ∀ (n_1 : Nat) (x : Nat), inv_33 args args' n_1 x → Zby args fun es => (Zdg x es args fun n_2 n_3 n_4 n_5 n_6 n_7 b n_8 b_1 es => Zcg args' x n_2 n_3 n_4 n_5 n_6 n_7 b n_8 b_1 es fun a b_4 => size a < n ∧ fits a ∧ fits b_4 ∧ ((!sameE a b_4) = true → Zcr Q) ∧ ((!sameE a b_4) = false → Zdq n_1 fun m x' => { tm := [(2, .ref 2 0), (3, .ref 3 0), (4, .d (.v (.bool false))), (5, .i (IntKind.i64.wrap ((↑x : Int) + 1)))], hp := [(2, .box [.i op, .i sub, .i t.1, .i t.2, .i v.1.1, .i v.1.2, .d (.v (.bool v.2)), .i v.3, .d (.v (.string v.4)), .d (.sl (cellsL args))]), (3, .box [.i op', .i sub', .i t'.1, .i t'.2, .i v'.1.1, .i v'.1.2, .d (.v (.bool v'.2)), .i v'.3, .d (.v (.string v'.4)), .d (.sl (cellsL args'))])], kn := [], gd := [] : St } = (Zc5 x' op sub t v args op' sub' t' v' args') ∧ inv_33 args args' m x')) ∧ Ze2 x es Q)) := by kernel_rfl
theorem hdr_eq (op op' sub sub' : Int) (t t' : Ty) (v v' : Go.Ex.AV) : (bif bif bif op == op' then sub == sub' else false then t.1 == t'.1 && (t.2 == t'.2 && true) else false then v.1.1 == v'.1.1 && (v.1.2 == v'.1.2 && (v.2 == v'.2 && (v.3 == v'.3 && (v.4 == v'.4 && true)))) else false) = true ↔ op = op' ∧ sub = sub' ∧ t = t' ∧ v = v' := by
 have e : ∀ a b : ByteArray, (a == b) = decide (a = b) := fun a b => by
   rcases a with ⟨a⟩; rcases b with ⟨b⟩
   have : ((⟨a⟩ : ByteArray) == ⟨b⟩) = (a == b) := rfl
   rw [this, Bool.eq_iff_iff]
   simp
 rcases t with ⟨tk, ts⟩; rcases t' with ⟨tk', ts'⟩; rcases v with ⟨⟨vk, vs⟩, vn, vv, vb⟩; rcases v' with ⟨⟨vk', vs'⟩, vn', vv', vb'⟩
 simp only [e, Bool.cond_eq_ite, Bool.and_true]
 by_cases h1 : op = op' <;> by_cases h2 : sub = sub' <;> simp [h1, h2, and_assoc]
theorem hdr_ne (op op' sub sub' : Int) (t t' : Ty) (v v' : Go.Ex.AV) (n m : Nat) : (bif bif bif bif op != op' then true else sub != sub' then true else !(t.1 == t'.1 && (t.2 == t'.2 && true)) then true else !(v.1.1 == v'.1.1 && (v.1.2 == v'.1.2 && (v.2 == v'.2 && (v.3 == v'.3 && (v.4 == v'.4 && true))))) then true else ((n : Nat) : Int) != ((m : Nat) : Int)) = false ↔ (op = op' ∧ sub = sub' ∧ t = t' ∧ v = v') ∧ n = m := by
 rw [← hdr_eq]
 simp only [bne]
 generalize (op == op') = x1
 generalize (sub == sub') = x2
 generalize (t.1 == t'.1 && (t.2 == t'.2 && true)) = x3
 generalize (v.1.1 == v'.1.1 && (v.1.2 == v'.1.2 && (v.2 == v'.2 && (v.3 == v'.3 && (v.4 == v'.4 && true))))) = x4
 have e : (((n : Nat) : Int) == ((m : Nat) : Int)) = decide (n = m) := by
   rw [Bool.eq_iff_iff]; simp; omega
 rw [e]
 cases x1 <;> cases x2 <;> cases x3 <;> cases x4 <;> simp
theorem sameE_true {a b : EX} : sameE a b = true ↔ a = b := by simp [sameE]
theorem sameE_mk (op op' sub sub' : Int) (t t' : Ty) (v v' : Go.Ex.AV) (a a' : List EX) : sameE (.mk op sub t v a) (.mk op' sub' t' v' a') = true ↔ (op = op' ∧ sub = sub' ∧ t = t' ∧ v = v') ∧ a = a' := by
 rw [sameE_true, EX.mk.injEq]
 constructor
 · rintro ⟨h1, h2, h3, h4, h5⟩; exact ⟨⟨h1, h2, h3, h4⟩, h5⟩
 · rintro ⟨⟨h1, h2, h3, h4⟩, h5⟩; exact ⟨h1, h2, h3, h4, h5⟩
theorem take_next {l r : List EX} {x : Nat} (h : l.take x = r.take x) (h1 : x < l.length) (h2 : x < r.length) : l.take (x + 1) = r.take (x + 1) ↔ l[x] = r[x] := by
 have a1 : l.take (x + 1) = l.take x ++ [l[x]] := by rw [List.take_add_one, List.getElem?_eq_getElem h1]; rfl
 have a2 : r.take (x + 1) = r.take x ++ [r[x]] := by rw [List.take_add_one, List.getElem?_eq_getElem h2]; rfl
 rw [a1, a2, h]
 exact ⟨fun e => List.head_eq_of_cons_eq (List.append_cancel_left e), fun e => by rw [e]⟩
theorem ct22 : ∀ (n : Nat) (a b : EX), size a < n → fits a → fits b → Ct prog gl 31 [.agg (cells a), .agg (cells b)] (gives [.d (.v (.bool (sameE a b)))])
 | 0, _, _, h, _, _ => absurd h (Nat.not_lt_zero _)
 | n + 1, .mk op sub t v args, .mk op' sub' t' v' args', hs, hf, hf' => by
   have hC : CallsOk prog gl (C_f22 n) := addC_ok C_66_ok (fun a K hk => by
     unfold c_22 at hk
     split at hk
     · obtain ⟨a, b, rfl, rfl, h1, h2, h3, h4⟩ := hk
       exact (ct22 n a b h1 h2 h3).gives h4
     · exact hk.elim)
   rw [cells_mk, cells_mk]
   refine ct_of_vc E_ok hC ioK_no it_ok mixed (fn := f31) (body := f31.body.getD .skip) (by kernel_rfl) (by kernel_rfl) (by kernel_rfl) (fi := fx_22 op sub t v args op' sub' t' v' args') (by kernel_rfl) (by kernel_rfl) ⟨_, _, rfl, rfl⟩ ?_
   rw [vc22]; dsimp -eta -iota -proj only [Zby, Zbt, Zcr, Zc5, Zdg, Zec, Zv, Zk, Z1, Zcg, Zbz, Z4, Zdq, Ze2, Zdp]
   obtain ⟨_, hl, hfl⟩ := fits_mk hf
   obtain ⟨_, hl', hfl'⟩ := fits_mk hf'
   simp only [size] at hs
   refine ⟨cellsL args, rfl, cellsL args', rfl, fun h => ?_, fun h => ⟨(0 : Nat), ⟨rfl, args.length, ⟨⟨Nat.zero_le _, rfl⟩, rfl⟩⟩, fun m (x : Nat) hx => ⟨cellsL args, rfl, fun hi => ?_, fun hi => ?_⟩⟩⟩
   · have : sameE (.mk op sub t v args) (.mk op' sub' t' v' args') = false := by
       rw [← Bool.not_eq_true, sameE_mk]
       rintro ⟨hh, he⟩
       rw [cellsL_len, cellsL_len, (hdr_ne _ _ _ _ _ _ _ _ _ _).2 ⟨hh, by rw [he]⟩] at h; cases h
     rw [this]; exact ⟨rfl, rfl⟩
   · rw [cellsL_len, cellsL_len] at h
     obtain ⟨hh, h⟩ := (hdr_ne _ _ _ _ _ _ _ _ _ _).1 h
     have hi : x < args.length := by simpa [cellsL_len] using hi
     have hi' : x < args'.length := by omega
     obtain ⟨op1, sub1, t1, v1, a1, e1, g1⟩ := arg_get hi
     obtain ⟨op2, sub2, t2, v2, a2, e2, g2⟩ := arg_get hi'
     have hm := hx.1.2
     have hsz := size_mem (List.getElem_mem hi)
     refine ⟨cellsL args, rfl, ⟨by omega, by rw [cellsL_len]; omega⟩, _, g1, rfl, op1, sub1, t1.k, t1.sc, v1.t.k, v1.t.sc, v1.nul, v1.n, v1.s, cellsL a1, rfl, cellsL args', rfl, ⟨by omega, by rw [cellsL_len]; omega⟩, _, g2, rfl, op2, sub2, t2.k, t2.sc, v2.t.k, v2.t.sc, v2.nul, v2.n, v2.s, cellsL a2, rfl, args[x], args'[x], by rw [e1, cells_mk]; rfl, by rw [e2, cells_mk]; rfl, by omega, fitsL_mem hfl (List.getElem_mem hi), fitsL_mem hfl' (List.getElem_mem hi'), fun hc => ?_, fun hc => ?_⟩
     · have hne : ¬ args = args' := by
         rintro rfl
         have : sameE args[x] args[x] = true := sameE_true.2 rfl
         rw [this] at hc; cases hc
       have : sameE (.mk op sub t v args) (.mk op' sub' t' v' args') = false := by
         rw [← Bool.not_eq_true, sameE_mk]
         exact fun z => hne z.2
       rw [this]; exact ⟨rfl, rfl⟩
     · have hs2 : args[x] = args'[x] := sameE_true.1 (by simpa using hc)
       refine ⟨args.length - (x + 1), x + 1, by omega, by rw [wrap_next (by omega)], ⟨hi, rfl⟩, (take_next hx.2 hi hi').2 hs2⟩
   · rw [cellsL_len, cellsL_len] at h
     obtain ⟨hh, h⟩ := (hdr_ne _ _ _ _ _ _ _ _ _ _).1 h
     have hi : ¬ x < args.length := by simpa [cellsL_len] using hi
     have := hx.2
     rw [List.take_of_length_le (by omega), List.take_of_length_le (by omega)] at this
     have : sameE (.mk op sub t v args) (.mk op' sub' t' v' args') = true := (sameE_mk _ _ _ _ _ _ _ _ _ _).2 ⟨hh, this⟩
     rw [this]; exact ⟨rfl, rfl⟩
end Go.Proofs.Tryz
