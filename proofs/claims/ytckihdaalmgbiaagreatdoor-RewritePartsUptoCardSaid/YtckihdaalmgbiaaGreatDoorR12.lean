/- A part of the proof: contracts of functions, by a verified generator of conditions; no condition of its own. -/
import Derived.Test.YtckihdaalmgbiaaGreatDoorB1
import Derived.Test.YtckihdaalmgbiaaGreatDoorDm25
import Derived.Test.YtckihdaalmgbiaaGreatDoorR11
namespace Go.Proofs.Tryz
open Go Go.Dm
set_option maxRecDepth 100000
def EX_bg20 : Env := { te := te_0, inl := [], bw := [21, 25, 26, 35, 36, 37, 38, 39, 40, 41, 43, 44, 46, 52, 53, 54, 55, 73, 74, 75, 76, 77, 78, 79, 83, 84, 86, 89, 93, 94, 109, 110, 118, 139], con := true }
theorem EX_bg20_ok : EnvOk prog EX_bg20 := ⟨E_ok.te⟩
noncomputable def fis_bg20_0 : Fis := []
theorem fis_bg20_0_ok : FisOk prog fis_bg20_0 := fisOk_nil
noncomputable def fis_bg20_1 : Fis := (6, (0, f6.ntmps, f6.body.getD .skip, f6.results.toList, noDk fi6)) :: fis_bg20_0
theorem fis_bg20_1_ok : FisOk prog fis_bg20_1 := fis_bg20_0_ok.cons (f := 6) (fn := f6) (by kernel_rfl) (by kernel_rfl) (by kernel_rfl) (by kernel_rfl)
noncomputable def fis_bg20_2 : Fis := (8, (0, f8.ntmps, f8.body.getD .skip, f8.results.toList, noDk fi8)) :: fis_bg20_1
theorem fis_bg20_2_ok : FisOk prog fis_bg20_2 := fis_bg20_1_ok.cons (f := 8) (fn := f8) (by kernel_rfl) (by kernel_rfl) (by kernel_rfl) (by kernel_rfl)
noncomputable def fis_bg20_3 : Fis := (21, (0, f21.ntmps, f21.body.getD .skip, f21.results.toList, noDk fi21)) :: fis_bg20_2
theorem fis_bg20_3_ok : FisOk prog fis_bg20_3 := fis_bg20_2_ok.cons (f := 21) (fn := f21) (by kernel_rfl) (by kernel_rfl) (by kernel_rfl) (by kernel_rfl)
noncomputable def fis_bg20_4 : Fis := (22, (0, f22.ntmps, f22.body.getD .skip, f22.results.toList, noDk fi22)) :: fis_bg20_3
theorem fis_bg20_4_ok : FisOk prog fis_bg20_4 := fis_bg20_3_ok.cons (f := 22) (fn := f22) (by kernel_rfl) (by kernel_rfl) (by kernel_rfl) (by kernel_rfl)
noncomputable def fis_bg20_5 : Fis := (24, (0, f24.ntmps, f24.body.getD .skip, f24.results.toList, noDk fi24)) :: fis_bg20_4
theorem fis_bg20_5_ok : FisOk prog fis_bg20_5 := fis_bg20_4_ok.cons (f := 24) (fn := f24) (by kernel_rfl) (by kernel_rfl) (by kernel_rfl) (by kernel_rfl)
noncomputable def fis_bg20_6 : Fis := (25, (0, f25.ntmps, f25.body.getD .skip, f25.results.toList, noDk fi25)) :: fis_bg20_5
theorem fis_bg20_6_ok : FisOk prog fis_bg20_6 := fis_bg20_5_ok.cons (f := 25) (fn := f25) (by kernel_rfl) (by kernel_rfl) (by kernel_rfl) (by kernel_rfl)
noncomputable def fis_bg20_7 : Fis := (26, (0, f26.ntmps, f26.body.getD .skip, f26.results.toList, noDk fi26)) :: fis_bg20_6
theorem fis_bg20_7_ok : FisOk prog fis_bg20_7 := fis_bg20_6_ok.cons (f := 26) (fn := f26) (by kernel_rfl) (by kernel_rfl) (by kernel_rfl) (by kernel_rfl)
noncomputable def fis_bg20_8 : Fis := (35, (0, f35.ntmps, f35.body.getD .skip, f35.results.toList, noDk fi35)) :: fis_bg20_7
theorem fis_bg20_8_ok : FisOk prog fis_bg20_8 := fis_bg20_7_ok.cons (f := 35) (fn := f35) (by kernel_rfl) (by kernel_rfl) (by kernel_rfl) (by kernel_rfl)
noncomputable def fis_bg20_9 : Fis := (36, (0, f36.ntmps, f36.body.getD .skip, f36.results.toList, noDk fi36)) :: fis_bg20_8
theorem fis_bg20_9_ok : FisOk prog fis_bg20_9 := fis_bg20_8_ok.cons (f := 36) (fn := f36) (by kernel_rfl) (by kernel_rfl) (by kernel_rfl) (by kernel_rfl)
noncomputable def fis_bg20_10 : Fis := (37, (0, f37.ntmps, f37.body.getD .skip, f37.results.toList, noDk fi37)) :: fis_bg20_9
theorem fis_bg20_10_ok : FisOk prog fis_bg20_10 := fis_bg20_9_ok.cons (f := 37) (fn := f37) (by kernel_rfl) (by kernel_rfl) (by kernel_rfl) (by kernel_rfl)
noncomputable def fis_bg20_11 : Fis := (38, (0, f38.ntmps, f38.body.getD .skip, f38.results.toList, noDk fi38)) :: fis_bg20_10
theorem fis_bg20_11_ok : FisOk prog fis_bg20_11 := fis_bg20_10_ok.cons (f := 38) (fn := f38) (by kernel_rfl) (by kernel_rfl) (by kernel_rfl) (by kernel_rfl)
noncomputable def fis_bg20_12 : Fis := (39, (0, f39.ntmps, f39.body.getD .skip, f39.results.toList, noDk fi39)) :: fis_bg20_11
theorem fis_bg20_12_ok : FisOk prog fis_bg20_12 := fis_bg20_11_ok.cons (f := 39) (fn := f39) (by kernel_rfl) (by kernel_rfl) (by kernel_rfl) (by kernel_rfl)
noncomputable def fis_bg20_13 : Fis := (40, (0, f40.ntmps, f40.body.getD .skip, f40.results.toList, noDk fi40)) :: fis_bg20_12
theorem fis_bg20_13_ok : FisOk prog fis_bg20_13 := fis_bg20_12_ok.cons (f := 40) (fn := f40) (by kernel_rfl) (by kernel_rfl) (by kernel_rfl) (by kernel_rfl)
noncomputable def fis_bg20_14 : Fis := (41, (0, f41.ntmps, f41.body.getD .skip, f41.results.toList, noDk fi41)) :: fis_bg20_13
theorem fis_bg20_14_ok : FisOk prog fis_bg20_14 := fis_bg20_13_ok.cons (f := 41) (fn := f41) (by kernel_rfl) (by kernel_rfl) (by kernel_rfl) (by kernel_rfl)
noncomputable def fis_bg20_15 : Fis := (42, (0, f42.ntmps, f42.body.getD .skip, f42.results.toList, noDk fi42)) :: fis_bg20_14
theorem fis_bg20_15_ok : FisOk prog fis_bg20_15 := fis_bg20_14_ok.cons (f := 42) (fn := f42) (by kernel_rfl) (by kernel_rfl) (by kernel_rfl) (by kernel_rfl)
noncomputable def fis_bg20_16 : Fis := (43, (0, f43.ntmps, f43.body.getD .skip, f43.results.toList, noDk fi43)) :: fis_bg20_15
theorem fis_bg20_16_ok : FisOk prog fis_bg20_16 := fis_bg20_15_ok.cons (f := 43) (fn := f43) (by kernel_rfl) (by kernel_rfl) (by kernel_rfl) (by kernel_rfl)
noncomputable def fis_bg20_17 : Fis := (44, (0, f44.ntmps, f44.body.getD .skip, f44.results.toList, noDk fi44)) :: fis_bg20_16
theorem fis_bg20_17_ok : FisOk prog fis_bg20_17 := fis_bg20_16_ok.cons (f := 44) (fn := f44) (by kernel_rfl) (by kernel_rfl) (by kernel_rfl) (by kernel_rfl)
noncomputable def fis_bg20_18 : Fis := (45, (0, f45.ntmps, f45.body.getD .skip, f45.results.toList, noDk fi45)) :: fis_bg20_17
theorem fis_bg20_18_ok : FisOk prog fis_bg20_18 := fis_bg20_17_ok.cons (f := 45) (fn := f45) (by kernel_rfl) (by kernel_rfl) (by kernel_rfl) (by kernel_rfl)
noncomputable def fis_bg20_19 : Fis := (46, (0, f46.ntmps, f46.body.getD .skip, f46.results.toList, noDk fi46)) :: fis_bg20_18
theorem fis_bg20_19_ok : FisOk prog fis_bg20_19 := fis_bg20_18_ok.cons (f := 46) (fn := f46) (by kernel_rfl) (by kernel_rfl) (by kernel_rfl) (by kernel_rfl)
noncomputable def fis_bg20_20 : Fis := (52, (0, f52.ntmps, f52.body.getD .skip, f52.results.toList, noDk fi52)) :: fis_bg20_19
theorem fis_bg20_20_ok : FisOk prog fis_bg20_20 := fis_bg20_19_ok.cons (f := 52) (fn := f52) (by kernel_rfl) (by kernel_rfl) (by kernel_rfl) (by kernel_rfl)
noncomputable def fis_bg20_21 : Fis := (53, (0, f53.ntmps, f53.body.getD .skip, f53.results.toList, noDk fi53)) :: fis_bg20_20
theorem fis_bg20_21_ok : FisOk prog fis_bg20_21 := fis_bg20_20_ok.cons (f := 53) (fn := f53) (by kernel_rfl) (by kernel_rfl) (by kernel_rfl) (by kernel_rfl)
noncomputable def fis_bg20_22 : Fis := (54, (0, f54.ntmps, f54.body.getD .skip, f54.results.toList, noDk fi54)) :: fis_bg20_21
theorem fis_bg20_22_ok : FisOk prog fis_bg20_22 := fis_bg20_21_ok.cons (f := 54) (fn := f54) (by kernel_rfl) (by kernel_rfl) (by kernel_rfl) (by kernel_rfl)
noncomputable def fis_bg20_23 : Fis := (55, (0, f55.ntmps, f55.body.getD .skip, f55.results.toList, noDk fi55)) :: fis_bg20_22
theorem fis_bg20_23_ok : FisOk prog fis_bg20_23 := fis_bg20_22_ok.cons (f := 55) (fn := f55) (by kernel_rfl) (by kernel_rfl) (by kernel_rfl) (by kernel_rfl)
noncomputable def fis_bg20_24 : Fis := (73, (0, f73.ntmps, f73.body.getD .skip, f73.results.toList, noDk fi73)) :: fis_bg20_23
theorem fis_bg20_24_ok : FisOk prog fis_bg20_24 := fis_bg20_23_ok.cons (f := 73) (fn := f73) (by kernel_rfl) (by kernel_rfl) (by kernel_rfl) (by kernel_rfl)
noncomputable def fis_bg20_25 : Fis := (74, (0, f74.ntmps, f74.body.getD .skip, f74.results.toList, noDk fi74)) :: fis_bg20_24
theorem fis_bg20_25_ok : FisOk prog fis_bg20_25 := fis_bg20_24_ok.cons (f := 74) (fn := f74) (by kernel_rfl) (by kernel_rfl) (by kernel_rfl) (by kernel_rfl)
noncomputable def fis_bg20_26 : Fis := (75, (0, f75.ntmps, f75.body.getD .skip, f75.results.toList, noDk fi75)) :: fis_bg20_25
theorem fis_bg20_26_ok : FisOk prog fis_bg20_26 := fis_bg20_25_ok.cons (f := 75) (fn := f75) (by kernel_rfl) (by kernel_rfl) (by kernel_rfl) (by kernel_rfl)
noncomputable def fis_bg20_27 : Fis := (76, (0, f76.ntmps, f76.body.getD .skip, f76.results.toList, noDk fi76)) :: fis_bg20_26
theorem fis_bg20_27_ok : FisOk prog fis_bg20_27 := fis_bg20_26_ok.cons (f := 76) (fn := f76) (by kernel_rfl) (by kernel_rfl) (by kernel_rfl) (by kernel_rfl)
noncomputable def fis_bg20_28 : Fis := (77, (0, f77.ntmps, f77.body.getD .skip, f77.results.toList, noDk fi77)) :: fis_bg20_27
theorem fis_bg20_28_ok : FisOk prog fis_bg20_28 := fis_bg20_27_ok.cons (f := 77) (fn := f77) (by kernel_rfl) (by kernel_rfl) (by kernel_rfl) (by kernel_rfl)
noncomputable def fis_bg20_29 : Fis := (78, (0, f78.ntmps, f78.body.getD .skip, f78.results.toList, noDk fi78)) :: fis_bg20_28
theorem fis_bg20_29_ok : FisOk prog fis_bg20_29 := fis_bg20_28_ok.cons (f := 78) (fn := f78) (by kernel_rfl) (by kernel_rfl) (by kernel_rfl) (by kernel_rfl)
noncomputable def fis_bg20_30 : Fis := (79, (0, f79.ntmps, f79.body.getD .skip, f79.results.toList, noDk fi79)) :: fis_bg20_29
theorem fis_bg20_30_ok : FisOk prog fis_bg20_30 := fis_bg20_29_ok.cons (f := 79) (fn := f79) (by kernel_rfl) (by kernel_rfl) (by kernel_rfl) (by kernel_rfl)
noncomputable def fis_bg20_31 : Fis := (83, (0, f83.ntmps, f83.body.getD .skip, f83.results.toList, noDk fi83)) :: fis_bg20_30
theorem fis_bg20_31_ok : FisOk prog fis_bg20_31 := fis_bg20_30_ok.cons (f := 83) (fn := f83) (by kernel_rfl) (by kernel_rfl) (by kernel_rfl) (by kernel_rfl)
noncomputable def fis_bg20_32 : Fis := (84, (0, f84.ntmps, f84.body.getD .skip, f84.results.toList, noDk fi84)) :: fis_bg20_31
theorem fis_bg20_32_ok : FisOk prog fis_bg20_32 := fis_bg20_31_ok.cons (f := 84) (fn := f84) (by kernel_rfl) (by kernel_rfl) (by kernel_rfl) (by kernel_rfl)
noncomputable def fis_bg20_33 : Fis := (85, (0, f85.ntmps, f85.body.getD .skip, f85.results.toList, noDk fi85)) :: fis_bg20_32
theorem fis_bg20_33_ok : FisOk prog fis_bg20_33 := fis_bg20_32_ok.cons (f := 85) (fn := f85) (by kernel_rfl) (by kernel_rfl) (by kernel_rfl) (by kernel_rfl)
noncomputable def fis_bg20_34 : Fis := (86, (0, f86.ntmps, f86.body.getD .skip, f86.results.toList, noDk fi86)) :: fis_bg20_33
theorem fis_bg20_34_ok : FisOk prog fis_bg20_34 := fis_bg20_33_ok.cons (f := 86) (fn := f86) (by kernel_rfl) (by kernel_rfl) (by kernel_rfl) (by kernel_rfl)
noncomputable def fis_bg20_35 : Fis := (88, (0, f88.ntmps, f88.body.getD .skip, f88.results.toList, noDk fi88)) :: fis_bg20_34
theorem fis_bg20_35_ok : FisOk prog fis_bg20_35 := fis_bg20_34_ok.cons (f := 88) (fn := f88) (by kernel_rfl) (by kernel_rfl) (by kernel_rfl) (by kernel_rfl)
noncomputable def fis_bg20_36 : Fis := (89, (0, f89.ntmps, f89.body.getD .skip, f89.results.toList, noDk fi89)) :: fis_bg20_35
theorem fis_bg20_36_ok : FisOk prog fis_bg20_36 := fis_bg20_35_ok.cons (f := 89) (fn := f89) (by kernel_rfl) (by kernel_rfl) (by kernel_rfl) (by kernel_rfl)
noncomputable def fis_bg20_37 : Fis := (93, (0, f93.ntmps, f93.body.getD .skip, f93.results.toList, noDk fi93)) :: fis_bg20_36
theorem fis_bg20_37_ok : FisOk prog fis_bg20_37 := fis_bg20_36_ok.cons (f := 93) (fn := f93) (by kernel_rfl) (by kernel_rfl) (by kernel_rfl) (by kernel_rfl)
noncomputable def fis_bg20_38 : Fis := (94, (0, f94.ntmps, f94.body.getD .skip, f94.results.toList, noDk fi94)) :: fis_bg20_37
theorem fis_bg20_38_ok : FisOk prog fis_bg20_38 := fis_bg20_37_ok.cons (f := 94) (fn := f94) (by kernel_rfl) (by kernel_rfl) (by kernel_rfl) (by kernel_rfl)
noncomputable def fis_bg20_39 : Fis := (109, (0, f109.ntmps, f109.body.getD .skip, f109.results.toList, noDk fi109)) :: fis_bg20_38
theorem fis_bg20_39_ok : FisOk prog fis_bg20_39 := fis_bg20_38_ok.cons (f := 109) (fn := f109) (by kernel_rfl) (by kernel_rfl) (by kernel_rfl) (by kernel_rfl)
noncomputable def fis_bg20_40 : Fis := (110, (0, f110.ntmps, f110.body.getD .skip, f110.results.toList, noDk fi110)) :: fis_bg20_39
theorem fis_bg20_40_ok : FisOk prog fis_bg20_40 := fis_bg20_39_ok.cons (f := 110) (fn := f110) (by kernel_rfl) (by kernel_rfl) (by kernel_rfl) (by kernel_rfl)
noncomputable def fis_bg20_41 : Fis := (117, (0, f117.ntmps, f117.body.getD .skip, f117.results.toList, noDk fi117)) :: fis_bg20_40
theorem fis_bg20_41_ok : FisOk prog fis_bg20_41 := fis_bg20_40_ok.cons (f := 117) (fn := f117) (by kernel_rfl) (by kernel_rfl) (by kernel_rfl) (by kernel_rfl)
noncomputable def fis_bg20_42 : Fis := (118, (0, f118.ntmps, f118.body.getD .skip, f118.results.toList, noDk fi118)) :: fis_bg20_41
theorem fis_bg20_42_ok : FisOk prog fis_bg20_42 := fis_bg20_41_ok.cons (f := 118) (fn := f118) (by kernel_rfl) (by kernel_rfl) (by kernel_rfl) (by kernel_rfl)
noncomputable def fis_bg20_43 : Fis := (139, (0, f139.ntmps, f139.body.getD .skip, f139.results.toList, noDk fi139)) :: fis_bg20_42
theorem fis_bg20_43_ok : FisOk prog fis_bg20_43 := fis_bg20_42_ok.cons (f := 139) (fn := f139) (by kernel_rfl) (by kernel_rfl) (by kernel_rfl) (by kernel_rfl)
theorem run_bg20 (gl : Nat → Option Obj) : Ct prog gl 8 [] (gives [.d (.v (.bool true))]) :=
  ct_run EX_bg20_ok libOk_no (fun _ _ _ h => h.elim) mixed fis_bg20_43_ok 1000 (runsTrue_sound (by kernel_rfl))
end Go.Proofs.Tryz
namespace Go.Proofs.Tryz
open Go Go.Dm Go.Ex
set_option maxRecDepth 100000
variable {gl : Nat → Option Obj}
def c_27g (a : List R) (K : List R → List (List D) → Prop) : Prop := match a with
  | [.agg x, .agg y] => ∃ a b : EX, x = cells a ∧ y = cells b ∧ fits a ∧ fits b ∧ K [.d (.v (.bool (sameE a b)))] []
  | _ => False
theorem c_22g_ok (a : List R) (K : List R → List (List D) → Prop) (h : c_27g a K) : Ct prog gl 9 a K := by
  unfold c_27g at h
  split at h
  · obtain ⟨a, b, rfl, rfl, h1, h2, h3⟩ := h
    exact (ct22 (size a + 1) a b (Nat.lt_succ_self _) h1 h2).gives h3
  · exact h.elim
def C_33w : CallT := addC C_n 9 c_27g
def st_33w (l r : List EX) (x : Nat) : St := { tm := [(1, .d (.sl (cellsL r))), (2, .fn 9 []), (6, .d (.v (.bool false))), (15, .d (.sl (cellsL l))), (16, .d (.v (.int .i64 ((cellsL l).length : Int)))), (17, .d (.v (.int .i64 (x : Int))))], hp := [], kn := [], gd := [] }
def fx_33w (l r : List EX) : Fi := { fi17 with lp := [(4, ([1, 2, 6, 15, 16, 17], [8, 9, 29]))], lx := [(4, { X := Nat, sh := st_33w l r, P := fun _ => inv_33 l r })] }
theorem vc33 (l r : List EX) (Q : List R → List (List D) → Prop) : vc E_0 C_33w noI (fx_33w l r) (f17.body.getD .skip) f17.results.toList [.d (.sl (cellsL l)), .d (.sl (cellsL r)), .fn 9 []] Q = (
  ∃ (es : List (List D)), D.sl (cellsL l) = D.sl es ∧ ∃ (es_1 : List (List D)), D.sl (cellsL r) = D.sl es_1 ∧ (((↑es.length : Int) != (↑es_1.length :
  Int)) = true → Q [R.d (D.v (Value.bool false))] []) ∧ (((↑es.length : Int) != (↑es_1.length : Int)) = false → ∃ (es : List (List D)), D.sl (cellsL l)
  = D.sl es ∧ ∃ (x0 : { X := Nat, sh := st_33w l r, P := fun (x : Nat) => inv_33 l r : LX }.X), ({ tm := [((1 : Nat), V.d (D.sl (cellsL r))), ((2 : Nat), V.fn ((9 : Nat)) []), ((6 : Nat), V.d (D.v (Value.bool false))), ((15 : Nat), V.d (D.sl (cellsL l))), ((16 : Nat), V.d (D.v (Value.int IntKind.i64 (↑es.length : Int)))), ((17 : Nat), V.d (D.v (Value.int IntKind.i64 (0 : Int))))], hp := [], kn := [], gd := [] : St }
  = { tm := [((1 : Nat), V.d (D.sl (cellsL r))), ((2 : Nat), V.fn ((9 : Nat)) []), ((6 : Nat), V.d (D.v (Value.bool false))), ((15 : Nat), V.d (D.sl (cellsL l))), ((16 : Nat), V.d (D.v (Value.int IntKind.i64 (↑(cellsL l).length : Int)))), ((17 : Nat), V.d (D.v (Value.int IntKind.i64 (↑x0 : Int))))], hp := [], kn := [], gd := [] : St }
  ∧ ∃ (n : Nat), inv_33 l r n x0) ∧ ∀ (n : Nat) (x : { X := Nat, sh := st_33w l r, P := fun (x : Nat) => inv_33 l r : LX }.X), inv_33 l r n x → (decide
  ((↑x : Int) < (↑(cellsL l).length : Int)) = true → ∃ (es : List (List D)), D.sl (cellsL l) = D.sl es ∧ ((0 : Int) ≤ (↑x : Int) ∧ (↑x : Int) <
  (↑es.length : Int)) ∧ ∃ (cells : List D), es[(↑x : Int).toNat]? = some cells ∧ cells.length = (10 : Nat) ∧ ∃ (n_1 : Int), ∃ (n_2 : Int), ∃ (n_3 :
  Int), ∃ (n_4 : Int), ∃ (n_5 : Int), ∃ (n_6 : Int), ∃ (b : Bool), ∃ (n_7 : Int), ∃ (b_1 : ByteArray), ∃ (es : List (List D)), cut ((0 : Nat)) ((10 :
  Nat)) cells = some [D.v (Value.int IntKind.i64 n_1), D.v (Value.int IntKind.i64 n_2), D.v (Value.int IntKind.i64 n_3), D.v (Value.int IntKind.i64
  n_4), D.v (Value.int IntKind.i64 n_5), D.v (Value.int IntKind.i64 n_6), D.v (Value.bool b), D.v (Value.int IntKind.i64 n_7), D.v (Value.string b_1),
  D.sl es] ∧ ∃ (es_2 : List (List D)), D.sl (cellsL r) = D.sl es_2 ∧ ((0 : Int) ≤ (↑x : Int) ∧ (↑x : Int) < (↑es_2.length : Int)) ∧ ∃ (cells : List D),
  es_2[(↑x : Int).toNat]? = some cells ∧ cells.length = (10 : Nat) ∧ ∃ (n_8 : Int), ∃ (n_9 : Int), ∃ (n_10 : Int), ∃ (n_11 : Int), ∃ (n_12 : Int), ∃
  (n_13 : Int), ∃ (b_2 : Bool), ∃ (n_14 : Int), ∃ (b_3 : ByteArray), ∃ (es_3 : List (List D)), cut ((0 : Nat)) ((10 : Nat)) cells = some [D.v
  (Value.int IntKind.i64 n_8), D.v (Value.int IntKind.i64 n_9), D.v (Value.int IntKind.i64 n_10), D.v (Value.int IntKind.i64 n_11), D.v (Value.int
  IntKind.i64 n_12), D.v (Value.int IntKind.i64 n_13), D.v (Value.bool b_2), D.v (Value.int IntKind.i64 n_14), D.v (Value.string b_3), D.sl es_3] ∧ ∃
  (a : EX), ∃ (b_4 : EX), [D.v (Value.int IntKind.i64 n_1), D.v (Value.int IntKind.i64 n_2), D.v (Value.int IntKind.i64 n_3), D.v (Value.int
  IntKind.i64 n_4), D.v (Value.int IntKind.i64 n_5), D.v (Value.int IntKind.i64 n_6), D.v (Value.bool b), D.v (Value.int IntKind.i64 n_7), D.v
  (Value.string b_1), D.sl es] = Ex.cells a ∧ [D.v (Value.int IntKind.i64 n_8), D.v (Value.int IntKind.i64 n_9), D.v (Value.int IntKind.i64 n_10), D.v
  (Value.int IntKind.i64 n_11), D.v (Value.int IntKind.i64 n_12), D.v (Value.int IntKind.i64 n_13), D.v (Value.bool b_2), D.v (Value.int IntKind.i64
  n_14), D.v (Value.string b_3), D.sl es_3] = Ex.cells b_4 ∧ fits a ∧ fits b_4 ∧ ((!sameE a b_4) = true → Q [R.d (D.v (Value.bool false))] []) ∧
  ((!sameE a b_4) = false → ∃ (m : Nat), ∃ (x' : { X := Nat, sh := st_33w l r, P := fun (x : Nat) => inv_33 l r : LX }.X), m < n ∧ { tm := [((1 : Nat), V.d (D.sl (cellsL r))), ((2 : Nat), V.fn ((9 : Nat)) []), ((6 : Nat), V.d (D.v (Value.bool false))), ((15 : Nat), V.d (D.sl (cellsL l))), ((16 : Nat), V.d (D.v (Value.int IntKind.i64 (↑(cellsL l).length : Int)))), ((17 : Nat), V.d (D.v (Value.int IntKind.i64 (IntKind.i64.wrap ((↑x : Int) + (1 : Int))))))], hp := [], kn := [], gd := [] : St }
  = { tm := [((1 : Nat), V.d (D.sl (cellsL r))), ((2 : Nat), V.fn ((9 : Nat)) []), ((6 : Nat), V.d (D.v (Value.bool false))), ((15 : Nat), V.d (D.sl (cellsL l))), ((16 : Nat), V.d (D.v (Value.int IntKind.i64 (↑(cellsL l).length : Int)))), ((17 : Nat), V.d (D.v (Value.int IntKind.i64 (↑x' : Int))))], hp := [], kn := [], gd := [] : St }
  ∧ inv_33 l r m x')) ∧ (decide ((↑x : Int) < (↑(cellsL l).length : Int)) = false → Q [R.d (D.v (Value.bool true))] []))) := by kernel_rfl
theorem ct33 (l r : List EX) (hl : l.length ≤ 1353245080300) (hf : fitsL l) (hf' : fitsL r) :
    Ct prog gl 17 [.d (.sl (cellsL l)), .d (.sl (cellsL r)), .fn 9 []] (gives [.d (.v (.bool (sameL l r)))]) := by
  have hC : CallsOk prog gl C_33w := addC_ok C_n_ok c_22g_ok
  refine ct_of_vc E_ok hC ioK_no it_ok mixed (fn := f17) (body := f17.body.getD .skip) (by kernel_rfl) (by kernel_rfl) (by kernel_rfl) (fi := fx_33w l r) (by kernel_rfl) (by kernel_rfl) ⟨_, _, rfl, rfl⟩ ?_
  rw [vc33]
  refine ⟨cellsL l, rfl, cellsL r, rfl, fun h => ?_, fun h => ⟨cellsL l, rfl, (0 : Nat), ⟨rfl, l.length, ⟨⟨Nat.zero_le _, rfl⟩, rfl⟩⟩, fun m (x : Nat) hx => ⟨fun hi => ?_, fun hi => ?_⟩⟩⟩
  · have h : l.length ≠ r.length := by rw [cellsL_len, cellsL_len] at h; intro e; rw [e] at h; simp at h
    have : sameL l r = false := by
      rw [← Bool.not_eq_true, sameL_true]; rintro rfl; exact h rfl
    rw [this]; exact ⟨rfl, rfl⟩
  · have h : l.length = r.length := by
      rw [cellsL_len, cellsL_len] at h
      have h : ((l.length : Nat) : Int) = ((r.length : Nat) : Int) := by simpa using h
      omega
    have hi : x < l.length := by simpa [cellsL_len] using hi
    have hi' : x < r.length := by omega
    obtain ⟨op1, sub1, t1, v1, a1, e1, g1⟩ := arg_get hi
    obtain ⟨op2, sub2, t2, v2, a2, e2, g2⟩ := arg_get hi'
    have hm := hx.1.2
    have hsz := size_mem (List.getElem_mem hi)
    refine ⟨cellsL l, rfl, ⟨by omega, by rw [cellsL_len]; omega⟩, _, g1, rfl, op1, sub1, t1.k, t1.sc, v1.t.k, v1.t.sc, v1.nul, v1.n, v1.s, cellsL a1, rfl, cellsL r, rfl, ⟨by omega, by rw [cellsL_len]; omega⟩, _, g2, rfl, op2, sub2, t2.k, t2.sc, v2.t.k, v2.t.sc, v2.nul, v2.n, v2.s, cellsL a2, rfl, l[x], r[x], by rw [e1, cells_mk]; rfl, by rw [e2, cells_mk]; rfl, fitsL_mem hf (List.getElem_mem hi), fitsL_mem hf' (List.getElem_mem hi'), fun hc => ?_, fun hc => ?_⟩
    · have : ¬ l = r := by
        rintro rfl
        have : sameE l[x] l[x] = true := sameE_true.2 rfl
        rw [this] at hc; cases hc
      have : sameL l r = false := by rw [← Bool.not_eq_true, sameL_true]; exact this
      rw [this]; exact ⟨rfl, rfl⟩
    · have hs2 : l[x] = r[x] := sameE_true.1 (by simpa using hc)
      refine ⟨l.length - (x + 1), x + 1, by omega, by rw [wrap_next (by omega)], ⟨hi, rfl⟩, (take_next hx.2 hi hi').2 hs2⟩
  · have h : l.length = r.length := by
      rw [cellsL_len, cellsL_len] at h
      have h : ((l.length : Nat) : Int) = ((r.length : Nat) : Int) := by simpa using h
      omega
    have hi : ¬ x < l.length := by simpa [cellsL_len] using hi
    have := hx.2
    rw [List.take_of_length_le (by omega), List.take_of_length_le (by omega)] at this
    have : sameL l r = true := sameL_true.2 this
    rw [this]; exact ⟨rfl, rfl⟩
def c_33w (a : List R) (K : List R → List (List D) → Prop) : Prop := match a with
  | [.d (.sl x), .d (.sl y), .fn 9 []] => ∃ l r : List EX, x = cellsL l ∧ y = cellsL r ∧ l.length ≤ 1353245080300 ∧ fitsL l ∧ fitsL r ∧ K [.d (.v (.bool (sameL l r)))] []
  | _ => False
theorem c_33w_ok (a : List R) (K : List R → List (List D) → Prop) (h : c_33w a K) : Ct prog gl 17 a K := by
  unfold c_33w at h
  split at h
  · obtain ⟨l, r, rfl, rfl, h1, h2, h3, h4⟩ := h
    exact (ct33 l r h1 h2 h3).gives h4
  · exact h.elim
def st_36 (l : List EX) (x : Nat) : St := { tm := [(0, .d (.sl (wsD l))), (1, .d (.sl (wsD l))), (4, .d (.v (.bool false))), (12, .d (.v (.int .i64 ((wsD l).length : Int)))), (13, .d (.v (.int .i64 (x : Int))))], hp := [], kn := [], gd := [] }
def fx_36 (l : List EX) : Fi := { fi20 with lx := [(4, { X := Nat, sh := st_36 l, P := fun _ => inv_m l })] }
theorem vc36 (l : List EX) (Q : List R → List (List D) → Prop) : vc E_0 C_n noI (fx_36 l) (f20.body.getD .skip) f20.results.toList [.d (.sl (wsD l)), .d (.sl (wsD l))] Q = (
  ∃ (es : List (List D)), D.sl (wsD l) = D.sl es ∧ ∃ (es_1 : List (List D)), D.sl (wsD l) = D.sl es_1 ∧ (((↑es.length : Int) != (↑es_1.length : Int)) =
  true → Q [R.d (D.v (Value.bool false))] []) ∧ (((↑es.length : Int) != (↑es_1.length : Int)) = false → ∃ (es : List (List D)), D.sl (wsD l) = D.sl es
  ∧ ∃ (x0 : { X := Nat, sh := st_36 l, P := fun (x : Nat) => inv_m l : LX }.X), ({ tm := [((0 : Nat), V.d (D.sl (wsD l))), ((1 : Nat), V.d (D.sl (wsD l))), ((4 : Nat), V.d (D.v (Value.bool false))), ((12 : Nat), V.d (D.v (Value.int IntKind.i64 (↑es.length : Int)))), ((13 : Nat), V.d (D.v (Value.int IntKind.i64 (0 : Int))))], hp := [], kn := [], gd := [] : St }
  = { tm := [((0 : Nat), V.d (D.sl (wsD l))), ((1 : Nat), V.d (D.sl (wsD l))), ((4 : Nat), V.d (D.v (Value.bool false))), ((12 : Nat), V.d (D.v (Value.int IntKind.i64 (↑(wsD l).length : Int)))), ((13 : Nat), V.d (D.v (Value.int IntKind.i64 (↑x0 : Int))))], hp := [], kn := [], gd := [] : St }
  ∧ ∃ (n : Nat), inv_m l n x0) ∧ ∀ (n : Nat) (x : { X := Nat, sh := st_36 l, P := fun (x : Nat) => inv_m l : LX }.X), inv_m l n x → (decide ((↑x : Int)
  < (↑(wsD l).length : Int)) = true → ∃ (es : List (List D)), D.sl (wsD l) = D.sl es ∧ ((0 : Int) ≤ (↑x : Int) ∧ (↑x : Int) < (↑es.length : Int)) ∧ ∃
  (cells : List D), es[(↑x : Int).toNat]? = some cells ∧ cells.length = (7 : Nat) ∧ ∃ (n_1 : Int), ∃ (n_2 : Int), ∃ (n_3 : Int), ∃ (n_4 : Int), ∃ (b :
  Bool), ∃ (n_5 : Int), ∃ (b_1 : ByteArray), cut ((0 : Nat)) ((7 : Nat)) cells = some [D.v (Value.int IntKind.i64 n_1), D.v (Value.int IntKind.i64
  n_2), D.v (Value.int IntKind.i64 n_3), D.v (Value.int IntKind.i64 n_4), D.v (Value.bool b), D.v (Value.int IntKind.i64 n_5), D.v (Value.string b_1)]
  ∧ ∃ (es : List (List D)), D.sl (wsD l) = D.sl es ∧ ((0 : Int) ≤ (↑x : Int) ∧ (↑x : Int) < (↑es.length : Int)) ∧ ∃ (cells : List D), es[(↑x :
  Int).toNat]? = some cells ∧ cells.length = (7 : Nat) ∧ ∃ (n_6 : Int), ∃ (n_7 : Int), ∃ (n_8 : Int), ∃ (n_9 : Int), ∃ (b_2 : Bool), ∃ (n_10 : Int), ∃
  (b_3 : ByteArray), cut ((0 : Nat)) ((7 : Nat)) cells = some [D.v (Value.int IntKind.i64 n_6), D.v (Value.int IntKind.i64 n_7), D.v (Value.int
  IntKind.i64 n_8), D.v (Value.int IntKind.i64 n_9), D.v (Value.bool b_2), D.v (Value.int IntKind.i64 n_10), D.v (Value.string b_3)] ∧ ((!(n_1 == n_6
  && (n_2 == n_7 && (n_3 == n_8 && (n_4 == n_9 && (b == b_2 && (n_5 == n_10 && (b_1 == b_3 && true)))))))) = true → Q [R.d (D.v (Value.bool false))]
  []) ∧ ((!(n_1 == n_6 && (n_2 == n_7 && (n_3 == n_8 && (n_4 == n_9 && (b == b_2 && (n_5 == n_10 && (b_1 == b_3 && true)))))))) = false → ∃ (m : Nat),
  ∃ (x' : { X := Nat, sh := st_36 l, P := fun (x : Nat) => inv_m l : LX }.X), m < n ∧ { tm := [((0 : Nat), V.d (D.sl (wsD l))), ((1 : Nat), V.d (D.sl (wsD l))), ((4 : Nat), V.d (D.v (Value.bool false))), ((12 : Nat), V.d (D.v (Value.int IntKind.i64 (↑(wsD l).length : Int)))), ((13 : Nat), V.d (D.v (Value.int IntKind.i64 (IntKind.i64.wrap ((↑x : Int) + (1 : Int))))))], hp := [], kn := [], gd := [] : St }
  = { tm := [((0 : Nat), V.d (D.sl (wsD l))), ((1 : Nat), V.d (D.sl (wsD l))), ((4 : Nat), V.d (D.v (Value.bool false))), ((12 : Nat), V.d (D.v (Value.int IntKind.i64 (↑(wsD l).length : Int)))), ((13 : Nat), V.d (D.v (Value.int IntKind.i64 (↑x' : Int))))], hp := [], kn := [], gd := [] : St }
  ∧ inv_m l m x')) ∧ (decide ((↑x : Int) < (↑(wsD l).length : Int)) = false → Q [R.d (D.v (Value.bool true))] []))) := by kernel_rfl
theorem wsD_len (l : List EX) : (wsD l).length = l.length := by simp [wsD]
theorem wsD_get {l : List EX} {x : Nat} (h : x < l.length) : (wsD l)[x]? = some (wcells l[x]) := by simp [wsD, h]
theorem ct36 (l : List EX) (hl : l.length ≤ 1353245080300) : Ct prog gl 20 [.d (.sl (wsD l)), .d (.sl (wsD l))] (gives [.d (.v (.bool true))]) := by
  refine ct_of_vc E_ok C_n_ok ioK_no it_ok mixed (fn := f20) (body := f20.body.getD .skip) (by kernel_rfl) (by kernel_rfl) (by kernel_rfl) (fi := fx_36 l) (by kernel_rfl) (by kernel_rfl) ⟨_, _, rfl, rfl⟩ ?_
  rw [vc36]
  refine ⟨_, rfl, _, rfl, fun h => ?_, fun _ => ⟨_, rfl, (0 : Nat), ⟨rfl, l.length, Nat.zero_le _, rfl⟩, fun m (x : Nat) hx => ⟨fun hi => ?_, fun hi => ?_⟩⟩⟩
  · simp at h
  · have hi : x < l.length := by simpa [wsD_len] using hi
    have hm := hx.2
    refine ⟨_, rfl, ⟨by omega, by rw [wsD_len]; omega⟩, _, wsD_get hi, rfl, _, _, _, _, _, _, _, rfl, _, rfl, ⟨by omega, by rw [wsD_len]; omega⟩, _, wsD_get hi, rfl, _, _, _, _, _, _, _, rfl, fun h => ?_, fun h => ⟨l.length - (x + 1), x + 1, by omega, ?_, hi, rfl⟩⟩
    · exfalso
      rw [ba_refl] at h
      simp at h
    · rw [wrap_next (by omega)]
  · exact ⟨rfl, rfl⟩
def c_36 (a : List R) (K : List R → List (List D) → Prop) : Prop := match a with
  | [.d (.sl x), .d (.sl y)] => ∃ l : List EX, x = wsD l ∧ y = wsD l ∧ l.length ≤ 1353245080300 ∧ K [.d (.v (.bool true))] []
  | _ => False
theorem c_36_ok (a : List R) (K : List R → List (List D) → Prop) (h : c_36 a K) : Ct prog gl 20 a K := by
  unfold c_36 at h
  split at h
  · obtain ⟨l, rfl, rfl, h1, h2⟩ := h
    exact (ct36 l h1).gives h2
  · exact h.elim
def c_29 (a : List R) (K : List R → List (List D) → Prop) : Prop := match a with
  | [.d (.sl x)] => ∃ l : List EX, x = cellsL l ∧ l.length ≤ 1000000000 ∧ ∀ (op sub : Int) (t : Ty) (v : Go.Ex.AV) (args : List EX), bothE l = .mk op sub t v args → K [.agg (encX op sub t v (cellsL args)), .d (.v (.bool (decide ((l.length : Int) > 0))))] []
  | _ => False
theorem c_29_ok (a : List R) (K : List R → List (List D) → Prop) (h : c_29 a K) : Ct prog gl 13 a K := by
  unfold c_29 at h
  split at h
  · obtain ⟨l, rfl, h1, h2⟩ := h
    refine (ct29 l h1).gives ?_
    rcases hx : bothE l with ⟨op, sub, t, v, args⟩
    rw [cells_mk]
    exact h2 op sub t v args hx
  · exact h.elim
theorem c_30_ok (a : List R) (K : List R → List (List D) → Prop) (h : c_29 a K) : Ct prog gl 14 a K := by
  unfold c_29 at h
  split at h
  · obtain ⟨l, rfl, h1, h2⟩ := h
    refine (ct30 l h1).gives ?_
    rcases hx : bothE l with ⟨op, sub, t, v, args⟩
    rw [cells_mk]
    exact h2 op sub t v args hx
  · exact h.elim
def c_21 (a : List R) (K : List R → List (List D) → Prop) : Prop := match a with
  | [] => K [.d (.v (.bool true))] []
  | _ => False
theorem c_21_ok (a : List R) (K : List R → List (List D) → Prop) (h : c_21 a K) : Ct prog gl 8 a K := by
  unfold c_21 at h
  split at h
  · exact (run_bg20 gl).gives h
  · exact h.elim
theorem wheresP_ws (cols : List Ty) (e : EX) : ∃ l : List EX, (wheresP cols e).1 = wsD l ∧ l.length ≤ size e := by
  unfold wheresP
  cases (bif (checkE cols e).2 != 0 then true else (checkE cols e).1.k != 1)
  · cases (partsE e).all isW
    · exact ⟨[], rfl, Nat.zero_le _⟩
    · exact ⟨partsE e, rfl, partsE_len e⟩
  · exact ⟨[], rfl, Nat.zero_le _⟩
def C_8w : CallT := addC (addC (addC (addC (addC (addC (addC (addC (addC (addC C_n 8 c_21) 13 c_29) 14 c_29) 15 c_31) 16 c_31) 17 c_33w) 18 c_34g) 19 c_34g) 20 c_36) 9 c_27g
theorem C_8w_ok : CallsOk prog gl C_8w := addC_ok (addC_ok (addC_ok (addC_ok (addC_ok (addC_ok (addC_ok (addC_ok (addC_ok (addC_ok C_n_ok c_21_ok) c_29_ok) c_30_ok) c_31_ok) c_32_ok) c_33w_ok) c_34g_ok) c_35g_ok) c_36_ok) c_22g_ok
def E_w : Env := { E_0 with con := true }
theorem vc8 (op sub : Int) (t : Ty) (v : Go.Ex.AV) (args : List EX) (l : List EX) (cols : List Ty) (Q : List R → List (List D) → Prop) : vc E_w C_8w noI fi5 (f5.body.getD .skip) f5.results.toList [.agg (encX op sub t v (cellsL args)), .d (.sl (cellsL l)), .d (.sl (cols.map Ty.cs))] Q = (
  ∃ (l_1 : List EX), cellsL l = cellsL l_1 ∧ l_1.length ≤ (1000000000 : Nat) ∧ ∀ (op_1 sub_1 : Int) (t_1 : Ty) (v_1 : AV) (args_1 : List EX), bothE l_1 =
  EX.mk op_1 sub_1 t_1 v_1 args_1 → ∃ (l_2 : List EX), cellsL l = cellsL l_2 ∧ l_2.length ≤ (1000000000 : Nat) ∧ ∀ (op_2 sub_2 : Int) (t_2 : Ty) (v_2 :
  AV) (args_2 : List EX), bothE l_2 = EX.mk op_2 sub_2 t_2 v_2 args_2 → ∃ (e : EX), ∃ (cols_1 : List Ty), [D.v (Value.int IntKind.i64 op), D.v
  (Value.int IntKind.i64 sub), D.v (Value.int IntKind.i64 t.1), D.v (Value.int IntKind.i64 t.2), D.v (Value.int IntKind.i64 v.1.1), D.v (Value.int
  IntKind.i64 v.1.2), D.v (Value.bool v.2), D.v (Value.int IntKind.i64 v.3), D.v (Value.string v.4), D.sl (cellsL args)] = cells e ∧ List.map Ty.cs
  cols = List.map Ty.cs cols_1 ∧ fits e ∧ size e ≤ (1000000000 : Nat) ∧ cols_1.length ≤ (1353245080300 : Nat) ∧ ∃ (e_1 : EX), ∃ (cols_2 : List Ty),
  [D.v (Value.int IntKind.i64 op), D.v (Value.int IntKind.i64 sub), D.v (Value.int IntKind.i64 t.1), D.v (Value.int IntKind.i64 t.2), D.v (Value.int
  IntKind.i64 v.1.1), D.v (Value.int IntKind.i64 v.1.2), D.v (Value.bool v.2), D.v (Value.int IntKind.i64 v.3), D.v (Value.string v.4), D.sl (cellsL
  args)] = cells e_1 ∧ List.map Ty.cs cols = List.map Ty.cs cols_2 ∧ fits e_1 ∧ size e_1 ≤ (1000000000 : Nat) ∧ cols_2.length ≤ (1353245080300 : Nat) ∧
  (true = true → ∃ (e_2 : EX), [D.v (Value.int IntKind.i64 op), D.v (Value.int IntKind.i64 sub), D.v (Value.int IntKind.i64 t.1), D.v (Value.int
  IntKind.i64 t.2), D.v (Value.int IntKind.i64 v.1.1), D.v (Value.int IntKind.i64 v.1.2), D.v (Value.bool v.2), D.v (Value.int IntKind.i64 v.3), D.v
  (Value.string v.4), D.sl (cellsL args)] = cells e_2 ∧ fits e_2 ∧ size e_2 ≤ (1000000000 : Nat) ∧ ∃ (e_3 : EX), [D.v (Value.int IntKind.i64 op), D.v
  (Value.int IntKind.i64 sub), D.v (Value.int IntKind.i64 t.1), D.v (Value.int IntKind.i64 t.2), D.v (Value.int IntKind.i64 v.1.1), D.v (Value.int
  IntKind.i64 v.1.2), D.v (Value.bool v.2), D.v (Value.int IntKind.i64 v.3), D.v (Value.string v.4), D.sl (cellsL args)] = cells e_3 ∧ fits e_3 ∧ size
  e_3 ≤ (1000000000 : Nat) ∧ ∃ (l : List EX), ∃ (r : List EX), cellsL (partsE e_2) = cellsL l ∧ cellsL (partsE e_3) = cellsL r ∧ l.length ≤
  (1353245080300 : Nat) ∧ fitsL l ∧ fitsL r ∧ (sameL l r = true → ∃ (a : EX), ∃ (b : EX), [D.v (Value.int IntKind.i64 op_1), D.v (Value.int IntKind.i64
  sub_1), D.v (Value.int IntKind.i64 t_1.1), D.v (Value.int IntKind.i64 t_1.2), D.v (Value.int IntKind.i64 v_1.1.1), D.v (Value.int IntKind.i64
  v_1.1.2), D.v (Value.bool v_1.2), D.v (Value.int IntKind.i64 v_1.3), D.v (Value.string v_1.4), D.sl (cellsL args_1)] = cells a ∧ [D.v (Value.int
  IntKind.i64 op_2), D.v (Value.int IntKind.i64 sub_2), D.v (Value.int IntKind.i64 t_2.1), D.v (Value.int IntKind.i64 t_2.2), D.v (Value.int
  IntKind.i64 v_2.1.1), D.v (Value.int IntKind.i64 v_2.1.2), D.v (Value.bool v_2.2), D.v (Value.int IntKind.i64 v_2.3), D.v (Value.string v_2.4), D.sl
  (cellsL args_2)] = cells b ∧ fits a ∧ fits b ∧ (sameE a b = true → ((decide ((↑l_1.length : Int) > (0 : Int)) == decide ((↑l_2.length : Int) > (0 :
  Int))) = true → ∃ (l : List EX), (wheresP cols_1 e).1 = wsD l ∧ (wheresP cols_2 e_1).1 = wsD l ∧ l.length ≤ (1353245080300 : Nat) ∧ (true = true → Q
  [R.d (D.v (Value.bool ((wheresP cols_1 e).2 == (wheresP cols_2 e_1).2)))] []) ∧ (true = !true → Q [R.d (D.v (Value.bool false))] [])) ∧ ((decide
  ((↑l_1.length : Int) > (0 : Int)) == decide ((↑l_2.length : Int) > (0 : Int))) = !true → (false = true → Q [R.d (D.v (Value.bool ((wheresP cols_1
  e).2 == (wheresP cols_2 e_1).2)))] []) ∧ (false = !true → Q [R.d (D.v (Value.bool false))] []))) ∧ (sameE a b = !true → (false = true → ∃ (l : List
  EX), (wheresP cols_1 e).1 = wsD l ∧ (wheresP cols_2 e_1).1 = wsD l ∧ l.length ≤ (1353245080300 : Nat) ∧ (true = true → Q [R.d (D.v (Value.bool
  ((wheresP cols_1 e).2 == (wheresP cols_2 e_1).2)))] []) ∧ (true = !true → Q [R.d (D.v (Value.bool false))] [])) ∧ (false = !true → (false = true → Q
  [R.d (D.v (Value.bool ((wheresP cols_1 e).2 == (wheresP cols_2 e_1).2)))] []) ∧ (false = !true → Q [R.d (D.v (Value.bool false))] [])))) ∧ (sameL l r
  = !true → (false = true → ((decide ((↑l_1.length : Int) > (0 : Int)) == decide ((↑l_2.length : Int) > (0 : Int))) = true → ∃ (l : List EX), (wheresP
  cols_1 e).1 = wsD l ∧ (wheresP cols_2 e_1).1 = wsD l ∧ l.length ≤ (1353245080300 : Nat) ∧ (true = true → Q [R.d (D.v (Value.bool ((wheresP cols_1
  e).2 == (wheresP cols_2 e_1).2)))] []) ∧ (true = !true → Q [R.d (D.v (Value.bool false))] [])) ∧ ((decide ((↑l_1.length : Int) > (0 : Int)) == decide
  ((↑l_2.length : Int) > (0 : Int))) = !true → (false = true → Q [R.d (D.v (Value.bool ((wheresP cols_1 e).2 == (wheresP cols_2 e_1).2)))] []) ∧ (false
  = !true → Q [R.d (D.v (Value.bool false))] []))) ∧ (false = !true → (false = true → ∃ (l : List EX), (wheresP cols_1 e).1 = wsD l ∧ (wheresP cols_2
  e_1).1 = wsD l ∧ l.length ≤ (1353245080300 : Nat) ∧ (true = true → Q [R.d (D.v (Value.bool ((wheresP cols_1 e).2 == (wheresP cols_2 e_1).2)))] []) ∧
  (true = !true → Q [R.d (D.v (Value.bool false))] [])) ∧ (false = !true → (false = true → Q [R.d (D.v (Value.bool ((wheresP cols_1 e).2 == (wheresP
  cols_2 e_1).2)))] []) ∧ (false = !true → Q [R.d (D.v (Value.bool false))] []))))) ∧ (true = !true → (false = true → ∃ (a : EX), ∃ (b : EX), [D.v
  (Value.int IntKind.i64 op_1), D.v (Value.int IntKind.i64 sub_1), D.v (Value.int IntKind.i64 t_1.1), D.v (Value.int IntKind.i64 t_1.2), D.v (Value.int
  IntKind.i64 v_1.1.1), D.v (Value.int IntKind.i64 v_1.1.2), D.v (Value.bool v_1.2), D.v (Value.int IntKind.i64 v_1.3), D.v (Value.string v_1.4), D.sl
  (cellsL args_1)] = cells a ∧ [D.v (Value.int IntKind.i64 op_2), D.v (Value.int IntKind.i64 sub_2), D.v (Value.int IntKind.i64 t_2.1), D.v (Value.int
  IntKind.i64 t_2.2), D.v (Value.int IntKind.i64 v_2.1.1), D.v (Value.int IntKind.i64 v_2.1.2), D.v (Value.bool v_2.2), D.v (Value.int IntKind.i64
  v_2.3), D.v (Value.string v_2.4), D.sl (cellsL args_2)] = cells b ∧ fits a ∧ fits b ∧ (sameE a b = true → ((decide ((↑l_1.length : Int) > (0 : Int))
  == decide ((↑l_2.length : Int) > (0 : Int))) = true → ∃ (l : List EX), (wheresP cols_1 e).1 = wsD l ∧ (wheresP cols_2 e_1).1 = wsD l ∧ l.length ≤
  (1353245080300 : Nat) ∧ (true = true → Q [R.d (D.v (Value.bool ((wheresP cols_1 e).2 == (wheresP cols_2 e_1).2)))] []) ∧ (true = !true → Q [R.d (D.v
  (Value.bool false))] [])) ∧ ((decide ((↑l_1.length : Int) > (0 : Int)) == decide ((↑l_2.length : Int) > (0 : Int))) = !true → (false = true → Q [R.d
  (D.v (Value.bool ((wheresP cols_1 e).2 == (wheresP cols_2 e_1).2)))] []) ∧ (false = !true → Q [R.d (D.v (Value.bool false))] []))) ∧ (sameE a b =
  !true → (false = true → ∃ (l : List EX), (wheresP cols_1 e).1 = wsD l ∧ (wheresP cols_2 e_1).1 = wsD l ∧ l.length ≤ (1353245080300 : Nat) ∧ (true =
  true → Q [R.d (D.v (Value.bool ((wheresP cols_1 e).2 == (wheresP cols_2 e_1).2)))] []) ∧ (true = !true → Q [R.d (D.v (Value.bool false))] [])) ∧
  (false = !true → (false = true → Q [R.d (D.v (Value.bool ((wheresP cols_1 e).2 == (wheresP cols_2 e_1).2)))] []) ∧ (false = !true → Q [R.d (D.v
  (Value.bool false))] [])))) ∧ (false = !true → (false = true → ((decide ((↑l_1.length : Int) > (0 : Int)) == decide ((↑l_2.length : Int) > (0 :
  Int))) = true → ∃ (l : List EX), (wheresP cols_1 e).1 = wsD l ∧ (wheresP cols_2 e_1).1 = wsD l ∧ l.length ≤ (1353245080300 : Nat) ∧ (true = true → Q
  [R.d (D.v (Value.bool ((wheresP cols_1 e).2 == (wheresP cols_2 e_1).2)))] []) ∧ (true = !true → Q [R.d (D.v (Value.bool false))] [])) ∧ ((decide
  ((↑l_1.length : Int) > (0 : Int)) == decide ((↑l_2.length : Int) > (0 : Int))) = !true → (false = true → Q [R.d (D.v (Value.bool ((wheresP cols_1
  e).2 == (wheresP cols_2 e_1).2)))] []) ∧ (false = !true → Q [R.d (D.v (Value.bool false))] []))) ∧ (false = !true → (false = true → ∃ (l : List EX),
  (wheresP cols_1 e).1 = wsD l ∧ (wheresP cols_2 e_1).1 = wsD l ∧ l.length ≤ (1353245080300 : Nat) ∧ (true = true → Q [R.d (D.v (Value.bool ((wheresP
  cols_1 e).2 == (wheresP cols_2 e_1).2)))] []) ∧ (true = !true → Q [R.d (D.v (Value.bool false))] [])) ∧ (false = !true → (false = true → Q [R.d (D.v
  (Value.bool ((wheresP cols_1 e).2 == (wheresP cols_2 e_1).2)))] []) ∧ (false = !true → Q [R.d (D.v (Value.bool false))] [])))))) := by kernel_rfl
theorem zero_fits : fits zeroE := by
  simp only [zeroE, fits, fitsL]
  exact ⟨⟨by unfold in64; decide, by unfold in64; decide, by unfold in64; decide, by unfold in64; decide, by unfold in64; decide, by unfold in64; decide, by unfold in64; decide⟩, by simp, trivial⟩
theorem and_fits {a b : EX} (ha : fits a) (hb : fits b) : fits (andE a b) := by
  simp only [andE, fits, fitsL]
  exact ⟨⟨by unfold in64; decide, by unfold in64; decide, by unfold in64; decide, by unfold in64; decide, by unfold in64; decide, by unfold in64; decide, by unfold in64; decide⟩, by simp, ha, hb, trivial⟩
theorem both_fits : ∀ {l : List EX}, fitsL l → fits (bothE l)
  | [], _ => zero_fits
  | e :: r, h => by
    simp only [fitsL] at h
    have key : ∀ (r : List EX) (a : EX), fits a → fitsL r → fits (r.foldl andE a) := by
      intro r
      induction r with
      | nil => intro a ha _; exact ha
      | cons b r ih =>
        intro a ha hr
        simp only [fitsL] at hr
        exact ih _ (and_fits ha hr.1) hr.2
    exact key r e h.1 h.2
/-- The law, over data. -/
theorem law_8 : ∀ (e : EX) (l : List EX) (cols : List Ty), fits e → size e ≤ 1000000000 → fitsL l → l.length ≤ 1000000000 → cols.length ≤ 1353245080300 → Ct prog gl 5 [.agg (cells e), .d (.sl (cellsL l)), .d (.sl (cols.map Ty.cs))] (gives [.d (.v (.bool true))])
  | .mk op sub t v args, l, cols, hf, hs, hfl, hl, hcl => by
    have hc : encX op sub t v (cellsL args) = cells (.mk op sub t v args) := (cells_mk _ _ _ _ _).symm
    rw [hc.symm]
    refine ct_of_vc (E := E_w) ⟨E_ok.te⟩ C_8w_ok ioK_no (fun _ _ _ h => h.elim) mixed (fn := f5) (body := f5.body.getD .skip) (by kernel_rfl) (by kernel_rfl) (by kernel_rfl) (fi := fi5) (by kernel_rfl) (by kernel_rfl) ⟨_, _, rfl, rfl⟩ ?_
    rw [vc8]
    have hp := partsE_len (.mk op sub t v args)
    have hpf := partsE_fits _ hf
    have hbf := both_fits hfl
    obtain ⟨ws, hw, hwl⟩ := wheresP_ws cols (.mk op sub t v args)
    refine ⟨l, rfl, hl, fun op1 sub1 t1 v1 a1 h1 => ⟨l, rfl, hl, fun op2 sub2 t2 v2 a2 h2 => ⟨.mk op sub t v args, cols, hc, rfl, hf, hs, hcl, .mk op sub t v args, cols, hc, rfl, hf, hs, hcl, fun _ => ⟨.mk op sub t v args, hc, hf, hs, .mk op sub t v args, hc, hf, hs, partsE (.mk op sub t v args), partsE (.mk op sub t v args), rfl, rfl, by omega, hpf, hpf, fun _ => ⟨bothE l, bothE l, by rw [h1, cells_mk]; rfl, by rw [h2, cells_mk]; rfl, hbf, hbf, fun _ => ⟨fun _ => ⟨ws, hw, hw, by omega, fun _ => ?_, fun h => absurd h (by decide)⟩, fun h => absurd h (by simp)⟩, fun h => ?_⟩, fun h => ?_⟩, fun h => absurd h (by decide)⟩⟩⟩
    · have : ((wheresP cols (.mk op sub t v args)).2 == (wheresP cols (.mk op sub t v args)).2) = true := by simp
      rw [this]; exact ⟨rfl, rfl⟩
    · have : sameE (bothE l) (bothE l) = true := sameE_true.2 rfl
      rw [this] at h; cases h
    · have : sameL (partsE (.mk op sub t v args)) (partsE (.mk op sub t v args)) = true := sameL_true.2 rfl
      rw [this] at h; cases h
end Go.Proofs.Tryz
