/- A run at known data: the functions that are met. -/
import Derived.Test.YtmieillgepoaeaaGreatDoorB1
import Derived.Test.YtmieillgepoaeaaGreatDoorDm27
import Derived.Test.YtmieillgepoaeaaGreatDoorSb
import Derived.Test.YtmieillgepoaeaaGreatDoorGrowI
import Derived.Test.YtmieillgepoaeaaGreatDoorR5
namespace Go.Proofs.Tryz
open Go Go.Dm
set_option maxRecDepth 100000
def EX_Yt : Env := { te := te_0, inl := [105, 143, 177, 178, 182, 184], bw := [5, 13, 14, 24, 38, 39, 40, 41, 42, 43, 44, 59, 70, 71, 72, 73, 74, 77, 99, 102, 107, 108, 121, 122, 128, 129, 135, 150, 151, 152, 163, 164, 172, 173, 179, 180, 181, 188, 189, 191, 192, 193, 194, 195, 196, 198, 199, 220, 221, 222, 223, 224, 225, 227, 229, 230, 231, 232, 234, 235, 239, 240, 266, 267, 268, 303], con := true }
theorem EX_Yt_ok : EnvOk prog EX_Yt := ⟨E_ok.te⟩
noncomputable def fis_Yt_0 : Fis := []
theorem fis_Yt_0_ok : FisOk prog fis_Yt_0 := fisOk_nil
noncomputable def fis_Yt_1 : Fis := (5, (0, f5.ntmps, f5.body.getD .skip, f5.results.toList, noDk fi5)) :: fis_Yt_0
theorem fis_Yt_1_ok : FisOk prog fis_Yt_1 := fis_Yt_0_ok.cons (f := 5) (fn := f5) (by kernel_rfl) (by kernel_rfl) (by kernel_rfl) (by kernel_rfl)
noncomputable def fis_Yt_2 : Fis := (9, (0, f9.ntmps, f9.body.getD .skip, f9.results.toList, noDk fi9)) :: fis_Yt_1
theorem fis_Yt_2_ok : FisOk prog fis_Yt_2 := fis_Yt_1_ok.cons (f := 9) (fn := f9) (by kernel_rfl) (by kernel_rfl) (by kernel_rfl) (by kernel_rfl)
noncomputable def fis_Yt_3 : Fis := (13, (0, f13.ntmps, f13.body.getD .skip, f13.results.toList, noDk fi13)) :: fis_Yt_2
theorem fis_Yt_3_ok : FisOk prog fis_Yt_3 := fis_Yt_2_ok.cons (f := 13) (fn := f13) (by kernel_rfl) (by kernel_rfl) (by kernel_rfl) (by kernel_rfl)
noncomputable def fis_Yt_4 : Fis := (14, (0, f14.ntmps, f14.body.getD .skip, f14.results.toList, noDk fi14)) :: fis_Yt_3
theorem fis_Yt_4_ok : FisOk prog fis_Yt_4 := fis_Yt_3_ok.cons (f := 14) (fn := f14) (by kernel_rfl) (by kernel_rfl) (by kernel_rfl) (by kernel_rfl)
noncomputable def fis_Yt_5 : Fis := (19, (0, f19.ntmps, f19.body.getD .skip, f19.results.toList, noDk fi19)) :: fis_Yt_4
theorem fis_Yt_5_ok : FisOk prog fis_Yt_5 := fis_Yt_4_ok.cons (f := 19) (fn := f19) (by kernel_rfl) (by kernel_rfl) (by kernel_rfl) (by kernel_rfl)
noncomputable def fis_Yt_6 : Fis := (22, (0, f22.ntmps, f22.body.getD .skip, f22.results.toList, noDk fi22)) :: fis_Yt_5
theorem fis_Yt_6_ok : FisOk prog fis_Yt_6 := fis_Yt_5_ok.cons (f := 22) (fn := f22) (by kernel_rfl) (by kernel_rfl) (by kernel_rfl) (by kernel_rfl)
noncomputable def fis_Yt_7 : Fis := (23, (0, f23.ntmps, f23.body.getD .skip, f23.results.toList, noDk fi23)) :: fis_Yt_6
theorem fis_Yt_7_ok : FisOk prog fis_Yt_7 := fis_Yt_6_ok.cons (f := 23) (fn := f23) (by kernel_rfl) (by kernel_rfl) (by kernel_rfl) (by kernel_rfl)
noncomputable def fis_Yt_8 : Fis := (24, (0, f24.ntmps, f24.body.getD .skip, f24.results.toList, noDk fi24)) :: fis_Yt_7
theorem fis_Yt_8_ok : FisOk prog fis_Yt_8 := fis_Yt_7_ok.cons (f := 24) (fn := f24) (by kernel_rfl) (by kernel_rfl) (by kernel_rfl) (by kernel_rfl)
noncomputable def fis_Yt_9 : Fis := (25, (0, f25.ntmps, f25.body.getD .skip, f25.results.toList, noDk fi25)) :: fis_Yt_8
theorem fis_Yt_9_ok : FisOk prog fis_Yt_9 := fis_Yt_8_ok.cons (f := 25) (fn := f25) (by kernel_rfl) (by kernel_rfl) (by kernel_rfl) (by kernel_rfl)
noncomputable def fis_Yt_10 : Fis := (38, (0, f38.ntmps, f38.body.getD .skip, f38.results.toList, noDk fi38)) :: fis_Yt_9
theorem fis_Yt_10_ok : FisOk prog fis_Yt_10 := fis_Yt_9_ok.cons (f := 38) (fn := f38) (by kernel_rfl) (by kernel_rfl) (by kernel_rfl) (by kernel_rfl)
noncomputable def fis_Yt_11 : Fis := (39, (0, f39.ntmps, f39.body.getD .skip, f39.results.toList, noDk fi39)) :: fis_Yt_10
theorem fis_Yt_11_ok : FisOk prog fis_Yt_11 := fis_Yt_10_ok.cons (f := 39) (fn := f39) (by kernel_rfl) (by kernel_rfl) (by kernel_rfl) (by kernel_rfl)
noncomputable def fis_Yt_12 : Fis := (40, (0, f40.ntmps, f40.body.getD .skip, f40.results.toList, noDk fi40)) :: fis_Yt_11
theorem fis_Yt_12_ok : FisOk prog fis_Yt_12 := fis_Yt_11_ok.cons (f := 40) (fn := f40) (by kernel_rfl) (by kernel_rfl) (by kernel_rfl) (by kernel_rfl)
noncomputable def fis_Yt_13 : Fis := (41, (0, f41.ntmps, f41.body.getD .skip, f41.results.toList, noDk fi41)) :: fis_Yt_12
theorem fis_Yt_13_ok : FisOk prog fis_Yt_13 := fis_Yt_12_ok.cons (f := 41) (fn := f41) (by kernel_rfl) (by kernel_rfl) (by kernel_rfl) (by kernel_rfl)
noncomputable def fis_Yt_14 : Fis := (42, (0, f42.ntmps, f42.body.getD .skip, f42.results.toList, noDk fi42)) :: fis_Yt_13
theorem fis_Yt_14_ok : FisOk prog fis_Yt_14 := fis_Yt_13_ok.cons (f := 42) (fn := f42) (by kernel_rfl) (by kernel_rfl) (by kernel_rfl) (by kernel_rfl)
noncomputable def fis_Yt_15 : Fis := (43, (0, f43.ntmps, f43.body.getD .skip, f43.results.toList, noDk fi43)) :: fis_Yt_14
theorem fis_Yt_15_ok : FisOk prog fis_Yt_15 := fis_Yt_14_ok.cons (f := 43) (fn := f43) (by kernel_rfl) (by kernel_rfl) (by kernel_rfl) (by kernel_rfl)
noncomputable def fis_Yt_16 : Fis := (44, (0, f44.ntmps, f44.body.getD .skip, f44.results.toList, noDk fi44)) :: fis_Yt_15
theorem fis_Yt_16_ok : FisOk prog fis_Yt_16 := fis_Yt_15_ok.cons (f := 44) (fn := f44) (by kernel_rfl) (by kernel_rfl) (by kernel_rfl) (by kernel_rfl)
noncomputable def fis_Yt_17 : Fis := (54, (0, f54.ntmps, f54.body.getD .skip, f54.results.toList, noDk fi54)) :: fis_Yt_16
theorem fis_Yt_17_ok : FisOk prog fis_Yt_17 := fis_Yt_16_ok.cons (f := 54) (fn := f54) (by kernel_rfl) (by kernel_rfl) (by kernel_rfl) (by kernel_rfl)
noncomputable def fis_Yt_18 : Fis := (55, (0, f55.ntmps, f55.body.getD .skip, f55.results.toList, noDk fi55)) :: fis_Yt_17
theorem fis_Yt_18_ok : FisOk prog fis_Yt_18 := fis_Yt_17_ok.cons (f := 55) (fn := f55) (by kernel_rfl) (by kernel_rfl) (by kernel_rfl) (by kernel_rfl)
noncomputable def fis_Yt_19 : Fis := (56, (0, f56.ntmps, f56.body.getD .skip, f56.results.toList, noDk fi56)) :: fis_Yt_18
theorem fis_Yt_19_ok : FisOk prog fis_Yt_19 := fis_Yt_18_ok.cons (f := 56) (fn := f56) (by kernel_rfl) (by kernel_rfl) (by kernel_rfl) (by kernel_rfl)
noncomputable def fis_Yt_20 : Fis := (57, (0, f57.ntmps, f57.body.getD .skip, f57.results.toList, noDk fi57)) :: fis_Yt_19
theorem fis_Yt_20_ok : FisOk prog fis_Yt_20 := fis_Yt_19_ok.cons (f := 57) (fn := f57) (by kernel_rfl) (by kernel_rfl) (by kernel_rfl) (by kernel_rfl)
noncomputable def fis_Yt_21 : Fis := (58, (0, f58.ntmps, f58.body.getD .skip, f58.results.toList, noDk fi58)) :: fis_Yt_20
theorem fis_Yt_21_ok : FisOk prog fis_Yt_21 := fis_Yt_20_ok.cons (f := 58) (fn := f58) (by kernel_rfl) (by kernel_rfl) (by kernel_rfl) (by kernel_rfl)
noncomputable def fis_Yt_22 : Fis := (59, (0, f59.ntmps, f59.body.getD .skip, f59.results.toList, noDk fi59)) :: fis_Yt_21
theorem fis_Yt_22_ok : FisOk prog fis_Yt_22 := fis_Yt_21_ok.cons (f := 59) (fn := f59) (by kernel_rfl) (by kernel_rfl) (by kernel_rfl) (by kernel_rfl)
noncomputable def fis_Yt_23 : Fis := (60, (0, f60.ntmps, f60.body.getD .skip, f60.results.toList, noDk fi60)) :: fis_Yt_22
theorem fis_Yt_23_ok : FisOk prog fis_Yt_23 := fis_Yt_22_ok.cons (f := 60) (fn := f60) (by kernel_rfl) (by kernel_rfl) (by kernel_rfl) (by kernel_rfl)
noncomputable def fis_Yt_24 : Fis := (61, (0, f61.ntmps, f61.body.getD .skip, f61.results.toList, noDk fi61)) :: fis_Yt_23
theorem fis_Yt_24_ok : FisOk prog fis_Yt_24 := fis_Yt_23_ok.cons (f := 61) (fn := f61) (by kernel_rfl) (by kernel_rfl) (by kernel_rfl) (by kernel_rfl)
noncomputable def fis_Yt_25 : Fis := (62, (0, f62.ntmps, f62.body.getD .skip, f62.results.toList, noDk fi62)) :: fis_Yt_24
theorem fis_Yt_25_ok : FisOk prog fis_Yt_25 := fis_Yt_24_ok.cons (f := 62) (fn := f62) (by kernel_rfl) (by kernel_rfl) (by kernel_rfl) (by kernel_rfl)
noncomputable def fis_Yt_26 : Fis := (64, (0, f64.ntmps, f64.body.getD .skip, f64.results.toList, noDk fi64)) :: fis_Yt_25
theorem fis_Yt_26_ok : FisOk prog fis_Yt_26 := fis_Yt_25_ok.cons (f := 64) (fn := f64) (by kernel_rfl) (by kernel_rfl) (by kernel_rfl) (by kernel_rfl)
noncomputable def fis_Yt_27 : Fis := (70, (0, f70.ntmps, f70.body.getD .skip, f70.results.toList, noDk fi70)) :: fis_Yt_26
theorem fis_Yt_27_ok : FisOk prog fis_Yt_27 := fis_Yt_26_ok.cons (f := 70) (fn := f70) (by kernel_rfl) (by kernel_rfl) (by kernel_rfl) (by kernel_rfl)
noncomputable def fis_Yt_28 : Fis := (71, (0, f71.ntmps, f71.body.getD .skip, f71.results.toList, noDk fi71)) :: fis_Yt_27
theorem fis_Yt_28_ok : FisOk prog fis_Yt_28 := fis_Yt_27_ok.cons (f := 71) (fn := f71) (by kernel_rfl) (by kernel_rfl) (by kernel_rfl) (by kernel_rfl)
noncomputable def fis_Yt_29 : Fis := (72, (0, f72.ntmps, f72.body.getD .skip, f72.results.toList, noDk fi72)) :: fis_Yt_28
theorem fis_Yt_29_ok : FisOk prog fis_Yt_29 := fis_Yt_28_ok.cons (f := 72) (fn := f72) (by kernel_rfl) (by kernel_rfl) (by kernel_rfl) (by kernel_rfl)
noncomputable def fis_Yt_30 : Fis := (73, (0, f73.ntmps, f73.body.getD .skip, f73.results.toList, noDk fi73)) :: fis_Yt_29
theorem fis_Yt_30_ok : FisOk prog fis_Yt_30 := fis_Yt_29_ok.cons (f := 73) (fn := f73) (by kernel_rfl) (by kernel_rfl) (by kernel_rfl) (by kernel_rfl)
noncomputable def fis_Yt_31 : Fis := (74, (0, f74.ntmps, f74.body.getD .skip, f74.results.toList, noDk fi74)) :: fis_Yt_30
theorem fis_Yt_31_ok : FisOk prog fis_Yt_31 := fis_Yt_30_ok.cons (f := 74) (fn := f74) (by kernel_rfl) (by kernel_rfl) (by kernel_rfl) (by kernel_rfl)
noncomputable def fis_Yt_32 : Fis := (77, (0, f77.ntmps, f77.body.getD .skip, f77.results.toList, noDk fi77)) :: fis_Yt_31
theorem fis_Yt_32_ok : FisOk prog fis_Yt_32 := fis_Yt_31_ok.cons (f := 77) (fn := f77) (by kernel_rfl) (by kernel_rfl) (by kernel_rfl) (by kernel_rfl)
noncomputable def fis_Yt_33 : Fis := (91, (0, f91.ntmps, f91.body.getD .skip, f91.results.toList, noDk fi91)) :: fis_Yt_32
theorem fis_Yt_33_ok : FisOk prog fis_Yt_33 := fis_Yt_32_ok.cons (f := 91) (fn := f91) (by kernel_rfl) (by kernel_rfl) (by kernel_rfl) (by kernel_rfl)
noncomputable def fis_Yt_34 : Fis := (92, (0, f92.ntmps, f92.body.getD .skip, f92.results.toList, noDk fi92)) :: fis_Yt_33
theorem fis_Yt_34_ok : FisOk prog fis_Yt_34 := fis_Yt_33_ok.cons (f := 92) (fn := f92) (by kernel_rfl) (by kernel_rfl) (by kernel_rfl) (by kernel_rfl)
noncomputable def fis_Yt_35 : Fis := (93, (0, f93.ntmps, f93.body.getD .skip, f93.results.toList, noDk fi93)) :: fis_Yt_34
theorem fis_Yt_35_ok : FisOk prog fis_Yt_35 := fis_Yt_34_ok.cons (f := 93) (fn := f93) (by kernel_rfl) (by kernel_rfl) (by kernel_rfl) (by kernel_rfl)
noncomputable def fis_Yt_36 : Fis := (95, (0, f95.ntmps, f95.body.getD .skip, f95.results.toList, noDk fi95)) :: fis_Yt_35
theorem fis_Yt_36_ok : FisOk prog fis_Yt_36 := fis_Yt_35_ok.cons (f := 95) (fn := f95) (by kernel_rfl) (by kernel_rfl) (by kernel_rfl) (by kernel_rfl)
noncomputable def fis_Yt_37 : Fis := (97, (0, f97.ntmps, f97.body.getD .skip, f97.results.toList, noDk fi97)) :: fis_Yt_36
theorem fis_Yt_37_ok : FisOk prog fis_Yt_37 := fis_Yt_36_ok.cons (f := 97) (fn := f97) (by kernel_rfl) (by kernel_rfl) (by kernel_rfl) (by kernel_rfl)
noncomputable def fis_Yt_38 : Fis := (99, (0, f99.ntmps, f99.body.getD .skip, f99.results.toList, noDk fi99)) :: fis_Yt_37
theorem fis_Yt_38_ok : FisOk prog fis_Yt_38 := fis_Yt_37_ok.cons (f := 99) (fn := f99) (by kernel_rfl) (by kernel_rfl) (by kernel_rfl) (by kernel_rfl)
noncomputable def fis_Yt_39 : Fis := (100, (0, f100.ntmps, f100.body.getD .skip, f100.results.toList, noDk fi100)) :: fis_Yt_38
theorem fis_Yt_39_ok : FisOk prog fis_Yt_39 := fis_Yt_38_ok.cons (f := 100) (fn := f100) (by kernel_rfl) (by kernel_rfl) (by kernel_rfl) (by kernel_rfl)
noncomputable def fis_Yt_40 : Fis := (102, (0, f102.ntmps, f102.body.getD .skip, f102.results.toList, noDk fi102)) :: fis_Yt_39
theorem fis_Yt_40_ok : FisOk prog fis_Yt_40 := fis_Yt_39_ok.cons (f := 102) (fn := f102) (by kernel_rfl) (by kernel_rfl) (by kernel_rfl) (by kernel_rfl)
noncomputable def fis_Yt_41 : Fis := (103, (0, f103.ntmps, f103.body.getD .skip, f103.results.toList, noDk fi103)) :: fis_Yt_40
theorem fis_Yt_41_ok : FisOk prog fis_Yt_41 := fis_Yt_40_ok.cons (f := 103) (fn := f103) (by kernel_rfl) (by kernel_rfl) (by kernel_rfl) (by kernel_rfl)
noncomputable def fis_Yt_42 : Fis := (105, (0, f105.ntmps, f105.body.getD .skip, f105.results.toList, noDk fi105)) :: fis_Yt_41
theorem fis_Yt_42_ok : FisOk prog fis_Yt_42 := fis_Yt_41_ok.cons (f := 105) (fn := f105) (by kernel_rfl) (by kernel_rfl) (by kernel_rfl) (by kernel_rfl)
noncomputable def fis_Yt_43 : Fis := (106, (0, f106.ntmps, f106.body.getD .skip, f106.results.toList, noDk fi106)) :: fis_Yt_42
theorem fis_Yt_43_ok : FisOk prog fis_Yt_43 := fis_Yt_42_ok.cons (f := 106) (fn := f106) (by kernel_rfl) (by kernel_rfl) (by kernel_rfl) (by kernel_rfl)
noncomputable def fis_Yt_44 : Fis := (107, (0, f107.ntmps, f107.body.getD .skip, f107.results.toList, noDk fi107)) :: fis_Yt_43
theorem fis_Yt_44_ok : FisOk prog fis_Yt_44 := fis_Yt_43_ok.cons (f := 107) (fn := f107) (by kernel_rfl) (by kernel_rfl) (by kernel_rfl) (by kernel_rfl)
noncomputable def fis_Yt_45 : Fis := (108, (0, f108.ntmps, f108.body.getD .skip, f108.results.toList, noDk fi108)) :: fis_Yt_44
theorem fis_Yt_45_ok : FisOk prog fis_Yt_45 := fis_Yt_44_ok.cons (f := 108) (fn := f108) (by kernel_rfl) (by kernel_rfl) (by kernel_rfl) (by kernel_rfl)
noncomputable def fis_Yt_46 : Fis := (109, (0, f109.ntmps, f109.body.getD .skip, f109.results.toList, noDk fi109)) :: fis_Yt_45
theorem fis_Yt_46_ok : FisOk prog fis_Yt_46 := fis_Yt_45_ok.cons (f := 109) (fn := f109) (by kernel_rfl) (by kernel_rfl) (by kernel_rfl) (by kernel_rfl)
noncomputable def fis_Yt_47 : Fis := (110, (0, f110.ntmps, f110.body.getD .skip, f110.results.toList, noDk fi110)) :: fis_Yt_46
theorem fis_Yt_47_ok : FisOk prog fis_Yt_47 := fis_Yt_46_ok.cons (f := 110) (fn := f110) (by kernel_rfl) (by kernel_rfl) (by kernel_rfl) (by kernel_rfl)
noncomputable def fis_Yt_48 : Fis := (111, (0, f111.ntmps, f111.body.getD .skip, f111.results.toList, noDk fi111)) :: fis_Yt_47
theorem fis_Yt_48_ok : FisOk prog fis_Yt_48 := fis_Yt_47_ok.cons (f := 111) (fn := f111) (by kernel_rfl) (by kernel_rfl) (by kernel_rfl) (by kernel_rfl)
noncomputable def fis_Yt_49 : Fis := (121, (0, f121.ntmps, f121.body.getD .skip, f121.results.toList, noDk fi121)) :: fis_Yt_48
theorem fis_Yt_49_ok : FisOk prog fis_Yt_49 := fis_Yt_48_ok.cons (f := 121) (fn := f121) (by kernel_rfl) (by kernel_rfl) (by kernel_rfl) (by kernel_rfl)
noncomputable def fis_Yt_50 : Fis := (122, (0, f122.ntmps, f122.body.getD .skip, f122.results.toList, noDk fi122)) :: fis_Yt_49
theorem fis_Yt_50_ok : FisOk prog fis_Yt_50 := fis_Yt_49_ok.cons (f := 122) (fn := f122) (by kernel_rfl) (by kernel_rfl) (by kernel_rfl) (by kernel_rfl)
noncomputable def fis_Yt_51 : Fis := (126, (0, f126.ntmps, f126.body.getD .skip, f126.results.toList, noDk fi126)) :: fis_Yt_50
theorem fis_Yt_51_ok : FisOk prog fis_Yt_51 := fis_Yt_50_ok.cons (f := 126) (fn := f126) (by kernel_rfl) (by kernel_rfl) (by kernel_rfl) (by kernel_rfl)
noncomputable def fis_Yt_52 : Fis := (128, (0, f128.ntmps, f128.body.getD .skip, f128.results.toList, noDk fi128)) :: fis_Yt_51
theorem fis_Yt_52_ok : FisOk prog fis_Yt_52 := fis_Yt_51_ok.cons (f := 128) (fn := f128) (by kernel_rfl) (by kernel_rfl) (by kernel_rfl) (by kernel_rfl)
noncomputable def fis_Yt_53 : Fis := (129, (0, f129.ntmps, f129.body.getD .skip, f129.results.toList, noDk fi129)) :: fis_Yt_52
theorem fis_Yt_53_ok : FisOk prog fis_Yt_53 := fis_Yt_52_ok.cons (f := 129) (fn := f129) (by kernel_rfl) (by kernel_rfl) (by kernel_rfl) (by kernel_rfl)
noncomputable def fis_Yt_54 : Fis := (130, (0, f130.ntmps, f130.body.getD .skip, f130.results.toList, noDk fi130)) :: fis_Yt_53
theorem fis_Yt_54_ok : FisOk prog fis_Yt_54 := fis_Yt_53_ok.cons (f := 130) (fn := f130) (by kernel_rfl) (by kernel_rfl) (by kernel_rfl) (by kernel_rfl)
noncomputable def fis_Yt_55 : Fis := (131, (0, f131.ntmps, f131.body.getD .skip, f131.results.toList, noDk fi131)) :: fis_Yt_54
theorem fis_Yt_55_ok : FisOk prog fis_Yt_55 := fis_Yt_54_ok.cons (f := 131) (fn := f131) (by kernel_rfl) (by kernel_rfl) (by kernel_rfl) (by kernel_rfl)
noncomputable def fis_Yt_56 : Fis := (132, (0, f132.ntmps, f132.body.getD .skip, f132.results.toList, noDk fi132)) :: fis_Yt_55
theorem fis_Yt_56_ok : FisOk prog fis_Yt_56 := fis_Yt_55_ok.cons (f := 132) (fn := f132) (by kernel_rfl) (by kernel_rfl) (by kernel_rfl) (by kernel_rfl)
noncomputable def fis_Yt_57 : Fis := (134, (0, f134.ntmps, f134.body.getD .skip, f134.results.toList, noDk fi134)) :: fis_Yt_56
theorem fis_Yt_57_ok : FisOk prog fis_Yt_57 := fis_Yt_56_ok.cons (f := 134) (fn := f134) (by kernel_rfl) (by kernel_rfl) (by kernel_rfl) (by kernel_rfl)
noncomputable def fis_Yt_58 : Fis := (135, (0, f135.ntmps, f135.body.getD .skip, f135.results.toList, noDk fi135)) :: fis_Yt_57
theorem fis_Yt_58_ok : FisOk prog fis_Yt_58 := fis_Yt_57_ok.cons (f := 135) (fn := f135) (by kernel_rfl) (by kernel_rfl) (by kernel_rfl) (by kernel_rfl)
noncomputable def fis_Yt_59 : Fis := (137, (0, f137.ntmps, f137.body.getD .skip, f137.results.toList, noDk fi137)) :: fis_Yt_58
theorem fis_Yt_59_ok : FisOk prog fis_Yt_59 := fis_Yt_58_ok.cons (f := 137) (fn := f137) (by kernel_rfl) (by kernel_rfl) (by kernel_rfl) (by kernel_rfl)
noncomputable def fis_Yt_60 : Fis := (138, (0, f138.ntmps, f138.body.getD .skip, f138.results.toList, noDk fi138)) :: fis_Yt_59
theorem fis_Yt_60_ok : FisOk prog fis_Yt_60 := fis_Yt_59_ok.cons (f := 138) (fn := f138) (by kernel_rfl) (by kernel_rfl) (by kernel_rfl) (by kernel_rfl)
noncomputable def fis_Yt_61 : Fis := (139, (0, f139.ntmps, f139.body.getD .skip, f139.results.toList, noDk fi139)) :: fis_Yt_60
theorem fis_Yt_61_ok : FisOk prog fis_Yt_61 := fis_Yt_60_ok.cons (f := 139) (fn := f139) (by kernel_rfl) (by kernel_rfl) (by kernel_rfl) (by kernel_rfl)
noncomputable def fis_Yt_62 : Fis := (140, (0, f140.ntmps, f140.body.getD .skip, f140.results.toList, noDk fi140)) :: fis_Yt_61
theorem fis_Yt_62_ok : FisOk prog fis_Yt_62 := fis_Yt_61_ok.cons (f := 140) (fn := f140) (by kernel_rfl) (by kernel_rfl) (by kernel_rfl) (by kernel_rfl)
noncomputable def fis_Yt_63 : Fis := (141, (0, f141.ntmps, f141.body.getD .skip, f141.results.toList, noDk fi141)) :: fis_Yt_62
theorem fis_Yt_63_ok : FisOk prog fis_Yt_63 := fis_Yt_62_ok.cons (f := 141) (fn := f141) (by kernel_rfl) (by kernel_rfl) (by kernel_rfl) (by kernel_rfl)
noncomputable def fis_Yt_64 : Fis := (142, (0, f142.ntmps, f142.body.getD .skip, f142.results.toList, noDk fi142)) :: fis_Yt_63
theorem fis_Yt_64_ok : FisOk prog fis_Yt_64 := fis_Yt_63_ok.cons (f := 142) (fn := f142) (by kernel_rfl) (by kernel_rfl) (by kernel_rfl) (by kernel_rfl)
noncomputable def fis_Yt_65 : Fis := (143, (0, f143.ntmps, f143.body.getD .skip, f143.results.toList, noDk fi143)) :: fis_Yt_64
theorem fis_Yt_65_ok : FisOk prog fis_Yt_65 := fis_Yt_64_ok.cons (f := 143) (fn := f143) (by kernel_rfl) (by kernel_rfl) (by kernel_rfl) (by kernel_rfl)
noncomputable def fis_Yt_66 : Fis := (144, (0, f144.ntmps, f144.body.getD .skip, f144.results.toList, noDk fi144)) :: fis_Yt_65
theorem fis_Yt_66_ok : FisOk prog fis_Yt_66 := fis_Yt_65_ok.cons (f := 144) (fn := f144) (by kernel_rfl) (by kernel_rfl) (by kernel_rfl) (by kernel_rfl)
noncomputable def fis_Yt_67 : Fis := (149, (0, f149.ntmps, f149.body.getD .skip, f149.results.toList, noDk fi149)) :: fis_Yt_66
theorem fis_Yt_67_ok : FisOk prog fis_Yt_67 := fis_Yt_66_ok.cons (f := 149) (fn := f149) (by kernel_rfl) (by kernel_rfl) (by kernel_rfl) (by kernel_rfl)
noncomputable def fis_Yt_68 : Fis := (150, (0, f150.ntmps, f150.body.getD .skip, f150.results.toList, noDk fi150)) :: fis_Yt_67
theorem fis_Yt_68_ok : FisOk prog fis_Yt_68 := fis_Yt_67_ok.cons (f := 150) (fn := f150) (by kernel_rfl) (by kernel_rfl) (by kernel_rfl) (by kernel_rfl)
noncomputable def fis_Yt_69 : Fis := (151, (0, f151.ntmps, f151.body.getD .skip, f151.results.toList, noDk fi151)) :: fis_Yt_68
theorem fis_Yt_69_ok : FisOk prog fis_Yt_69 := fis_Yt_68_ok.cons (f := 151) (fn := f151) (by kernel_rfl) (by kernel_rfl) (by kernel_rfl) (by kernel_rfl)
noncomputable def fis_Yt_70 : Fis := (152, (0, f152.ntmps, f152.body.getD .skip, f152.results.toList, noDk fi152)) :: fis_Yt_69
theorem fis_Yt_70_ok : FisOk prog fis_Yt_70 := fis_Yt_69_ok.cons (f := 152) (fn := f152) (by kernel_rfl) (by kernel_rfl) (by kernel_rfl) (by kernel_rfl)
noncomputable def fis_Yt_71 : Fis := (153, (0, f153.ntmps, f153.body.getD .skip, f153.results.toList, noDk fi153)) :: fis_Yt_70
theorem fis_Yt_71_ok : FisOk prog fis_Yt_71 := fis_Yt_70_ok.cons (f := 153) (fn := f153) (by kernel_rfl) (by kernel_rfl) (by kernel_rfl) (by kernel_rfl)
noncomputable def fis_Yt_72 : Fis := (163, (0, f163.ntmps, f163.body.getD .skip, f163.results.toList, noDk fi163)) :: fis_Yt_71
theorem fis_Yt_72_ok : FisOk prog fis_Yt_72 := fis_Yt_71_ok.cons (f := 163) (fn := f163) (by kernel_rfl) (by kernel_rfl) (by kernel_rfl) (by kernel_rfl)
noncomputable def fis_Yt_73 : Fis := (164, (0, f164.ntmps, f164.body.getD .skip, f164.results.toList, noDk fi164)) :: fis_Yt_72
theorem fis_Yt_73_ok : FisOk prog fis_Yt_73 := fis_Yt_72_ok.cons (f := 164) (fn := f164) (by kernel_rfl) (by kernel_rfl) (by kernel_rfl) (by kernel_rfl)
noncomputable def fis_Yt_74 : Fis := (165, (0, f165.ntmps, f165.body.getD .skip, f165.results.toList, noDk fi165)) :: fis_Yt_73
theorem fis_Yt_74_ok : FisOk prog fis_Yt_74 := fis_Yt_73_ok.cons (f := 165) (fn := f165) (by kernel_rfl) (by kernel_rfl) (by kernel_rfl) (by kernel_rfl)
noncomputable def fis_Yt_75 : Fis := (166, (0, f166.ntmps, f166.body.getD .skip, f166.results.toList, noDk fi166)) :: fis_Yt_74
theorem fis_Yt_75_ok : FisOk prog fis_Yt_75 := fis_Yt_74_ok.cons (f := 166) (fn := f166) (by kernel_rfl) (by kernel_rfl) (by kernel_rfl) (by kernel_rfl)
noncomputable def fis_Yt_76 : Fis := (167, (0, f167.ntmps, f167.body.getD .skip, f167.results.toList, noDk fi167)) :: fis_Yt_75
theorem fis_Yt_76_ok : FisOk prog fis_Yt_76 := fis_Yt_75_ok.cons (f := 167) (fn := f167) (by kernel_rfl) (by kernel_rfl) (by kernel_rfl) (by kernel_rfl)
noncomputable def fis_Yt_77 : Fis := (168, (0, f168.ntmps, f168.body.getD .skip, f168.results.toList, noDk fi168)) :: fis_Yt_76
theorem fis_Yt_77_ok : FisOk prog fis_Yt_77 := fis_Yt_76_ok.cons (f := 168) (fn := f168) (by kernel_rfl) (by kernel_rfl) (by kernel_rfl) (by kernel_rfl)
noncomputable def fis_Yt_78 : Fis := (169, (0, f169.ntmps, f169.body.getD .skip, f169.results.toList, noDk fi169)) :: fis_Yt_77
theorem fis_Yt_78_ok : FisOk prog fis_Yt_78 := fis_Yt_77_ok.cons (f := 169) (fn := f169) (by kernel_rfl) (by kernel_rfl) (by kernel_rfl) (by kernel_rfl)
noncomputable def fis_Yt_79 : Fis := (170, (0, f170.ntmps, f170.body.getD .skip, f170.results.toList, noDk fi170)) :: fis_Yt_78
theorem fis_Yt_79_ok : FisOk prog fis_Yt_79 := fis_Yt_78_ok.cons (f := 170) (fn := f170) (by kernel_rfl) (by kernel_rfl) (by kernel_rfl) (by kernel_rfl)
noncomputable def fis_Yt_80 : Fis := (171, (0, f171.ntmps, f171.body.getD .skip, f171.results.toList, noDk fi171)) :: fis_Yt_79
theorem fis_Yt_80_ok : FisOk prog fis_Yt_80 := fis_Yt_79_ok.cons (f := 171) (fn := f171) (by kernel_rfl) (by kernel_rfl) (by kernel_rfl) (by kernel_rfl)
noncomputable def fis_Yt_81 : Fis := (172, (0, f172.ntmps, f172.body.getD .skip, f172.results.toList, noDk fi172)) :: fis_Yt_80
theorem fis_Yt_81_ok : FisOk prog fis_Yt_81 := fis_Yt_80_ok.cons (f := 172) (fn := f172) (by kernel_rfl) (by kernel_rfl) (by kernel_rfl) (by kernel_rfl)
noncomputable def fis_Yt_82 : Fis := (173, (0, f173.ntmps, f173.body.getD .skip, f173.results.toList, noDk fi173)) :: fis_Yt_81
theorem fis_Yt_82_ok : FisOk prog fis_Yt_82 := fis_Yt_81_ok.cons (f := 173) (fn := f173) (by kernel_rfl) (by kernel_rfl) (by kernel_rfl) (by kernel_rfl)
noncomputable def fis_Yt_83 : Fis := (174, (0, f174.ntmps, f174.body.getD .skip, f174.results.toList, noDk fi174)) :: fis_Yt_82
theorem fis_Yt_83_ok : FisOk prog fis_Yt_83 := fis_Yt_82_ok.cons (f := 174) (fn := f174) (by kernel_rfl) (by kernel_rfl) (by kernel_rfl) (by kernel_rfl)
noncomputable def fis_Yt_84 : Fis := (175, (0, f175.ntmps, f175.body.getD .skip, f175.results.toList, noDk fi175)) :: fis_Yt_83
theorem fis_Yt_84_ok : FisOk prog fis_Yt_84 := fis_Yt_83_ok.cons (f := 175) (fn := f175) (by kernel_rfl) (by kernel_rfl) (by kernel_rfl) (by kernel_rfl)
noncomputable def fis_Yt_85 : Fis := (177, (0, f177.ntmps, f177.body.getD .skip, f177.results.toList, noDk fi177)) :: fis_Yt_84
theorem fis_Yt_85_ok : FisOk prog fis_Yt_85 := fis_Yt_84_ok.cons (f := 177) (fn := f177) (by kernel_rfl) (by kernel_rfl) (by kernel_rfl) (by kernel_rfl)
noncomputable def fis_Yt_86 : Fis := (178, (0, f178.ntmps, f178.body.getD .skip, f178.results.toList, noDk fi178)) :: fis_Yt_85
theorem fis_Yt_86_ok : FisOk prog fis_Yt_86 := fis_Yt_85_ok.cons (f := 178) (fn := f178) (by kernel_rfl) (by kernel_rfl) (by kernel_rfl) (by kernel_rfl)
noncomputable def fis_Yt_87 : Fis := (179, (0, f179.ntmps, f179.body.getD .skip, f179.results.toList, noDk fi179)) :: fis_Yt_86
theorem fis_Yt_87_ok : FisOk prog fis_Yt_87 := fis_Yt_86_ok.cons (f := 179) (fn := f179) (by kernel_rfl) (by kernel_rfl) (by kernel_rfl) (by kernel_rfl)
noncomputable def fis_Yt_88 : Fis := (180, (0, f180.ntmps, f180.body.getD .skip, f180.results.toList, noDk fi180)) :: fis_Yt_87
theorem fis_Yt_88_ok : FisOk prog fis_Yt_88 := fis_Yt_87_ok.cons (f := 180) (fn := f180) (by kernel_rfl) (by kernel_rfl) (by kernel_rfl) (by kernel_rfl)
noncomputable def fis_Yt_89 : Fis := (181, (0, f181.ntmps, f181.body.getD .skip, f181.results.toList, noDk fi181)) :: fis_Yt_88
theorem fis_Yt_89_ok : FisOk prog fis_Yt_89 := fis_Yt_88_ok.cons (f := 181) (fn := f181) (by kernel_rfl) (by kernel_rfl) (by kernel_rfl) (by kernel_rfl)
noncomputable def fis_Yt_90 : Fis := (182, (0, f182.ntmps, f182.body.getD .skip, f182.results.toList, noDk fi182)) :: fis_Yt_89
theorem fis_Yt_90_ok : FisOk prog fis_Yt_90 := fis_Yt_89_ok.cons (f := 182) (fn := f182) (by kernel_rfl) (by kernel_rfl) (by kernel_rfl) (by kernel_rfl)
noncomputable def fis_Yt_91 : Fis := (183, (0, f183.ntmps, f183.body.getD .skip, f183.results.toList, noDk fi183)) :: fis_Yt_90
theorem fis_Yt_91_ok : FisOk prog fis_Yt_91 := fis_Yt_90_ok.cons (f := 183) (fn := f183) (by kernel_rfl) (by kernel_rfl) (by kernel_rfl) (by kernel_rfl)
noncomputable def fis_Yt_92 : Fis := (188, (0, f188.ntmps, f188.body.getD .skip, f188.results.toList, noDk fi188)) :: fis_Yt_91
theorem fis_Yt_92_ok : FisOk prog fis_Yt_92 := fis_Yt_91_ok.cons (f := 188) (fn := f188) (by kernel_rfl) (by kernel_rfl) (by kernel_rfl) (by kernel_rfl)
noncomputable def fis_Yt_93 : Fis := (189, (0, f189.ntmps, f189.body.getD .skip, f189.results.toList, noDk fi189)) :: fis_Yt_92
theorem fis_Yt_93_ok : FisOk prog fis_Yt_93 := fis_Yt_92_ok.cons (f := 189) (fn := f189) (by kernel_rfl) (by kernel_rfl) (by kernel_rfl) (by kernel_rfl)
noncomputable def fis_Yt_94 : Fis := (190, (0, f190.ntmps, f190.body.getD .skip, f190.results.toList, noDk fi190)) :: fis_Yt_93
theorem fis_Yt_94_ok : FisOk prog fis_Yt_94 := fis_Yt_93_ok.cons (f := 190) (fn := f190) (by kernel_rfl) (by kernel_rfl) (by kernel_rfl) (by kernel_rfl)
noncomputable def fis_Yt_95 : Fis := (191, (0, f191.ntmps, f191.body.getD .skip, f191.results.toList, noDk fi191)) :: fis_Yt_94
theorem fis_Yt_95_ok : FisOk prog fis_Yt_95 := fis_Yt_94_ok.cons (f := 191) (fn := f191) (by kernel_rfl) (by kernel_rfl) (by kernel_rfl) (by kernel_rfl)
noncomputable def fis_Yt_96 : Fis := (192, (0, f192.ntmps, f192.body.getD .skip, f192.results.toList, noDk fi192)) :: fis_Yt_95
theorem fis_Yt_96_ok : FisOk prog fis_Yt_96 := fis_Yt_95_ok.cons (f := 192) (fn := f192) (by kernel_rfl) (by kernel_rfl) (by kernel_rfl) (by kernel_rfl)
noncomputable def fis_Yt_97 : Fis := (193, (0, f193.ntmps, f193.body.getD .skip, f193.results.toList, noDk fi193)) :: fis_Yt_96
theorem fis_Yt_97_ok : FisOk prog fis_Yt_97 := fis_Yt_96_ok.cons (f := 193) (fn := f193) (by kernel_rfl) (by kernel_rfl) (by kernel_rfl) (by kernel_rfl)
noncomputable def fis_Yt_98 : Fis := (194, (0, f194.ntmps, f194.body.getD .skip, f194.results.toList, noDk fi194)) :: fis_Yt_97
theorem fis_Yt_98_ok : FisOk prog fis_Yt_98 := fis_Yt_97_ok.cons (f := 194) (fn := f194) (by kernel_rfl) (by kernel_rfl) (by kernel_rfl) (by kernel_rfl)
noncomputable def fis_Yt_99 : Fis := (195, (0, f195.ntmps, f195.body.getD .skip, f195.results.toList, noDk fi195)) :: fis_Yt_98
theorem fis_Yt_99_ok : FisOk prog fis_Yt_99 := fis_Yt_98_ok.cons (f := 195) (fn := f195) (by kernel_rfl) (by kernel_rfl) (by kernel_rfl) (by kernel_rfl)
noncomputable def fis_Yt_100 : Fis := (196, (0, f196.ntmps, f196.body.getD .skip, f196.results.toList, noDk fi196)) :: fis_Yt_99
theorem fis_Yt_100_ok : FisOk prog fis_Yt_100 := fis_Yt_99_ok.cons (f := 196) (fn := f196) (by kernel_rfl) (by kernel_rfl) (by kernel_rfl) (by kernel_rfl)
noncomputable def fis_Yt_101 : Fis := (198, (0, f198.ntmps, f198.body.getD .skip, f198.results.toList, noDk fi198)) :: fis_Yt_100
theorem fis_Yt_101_ok : FisOk prog fis_Yt_101 := fis_Yt_100_ok.cons (f := 198) (fn := f198) (by kernel_rfl) (by kernel_rfl) (by kernel_rfl) (by kernel_rfl)
noncomputable def fis_Yt_102 : Fis := (199, (0, f199.ntmps, f199.body.getD .skip, f199.results.toList, noDk fi199)) :: fis_Yt_101
theorem fis_Yt_102_ok : FisOk prog fis_Yt_102 := fis_Yt_101_ok.cons (f := 199) (fn := f199) (by kernel_rfl) (by kernel_rfl) (by kernel_rfl) (by kernel_rfl)
noncomputable def fis_Yt_103 : Fis := (200, (0, f200.ntmps, f200.body.getD .skip, f200.results.toList, noDk fi200)) :: fis_Yt_102
theorem fis_Yt_103_ok : FisOk prog fis_Yt_103 := fis_Yt_102_ok.cons (f := 200) (fn := f200) (by kernel_rfl) (by kernel_rfl) (by kernel_rfl) (by kernel_rfl)
noncomputable def fis_Yt_104 : Fis := (220, (0, f220.ntmps, f220.body.getD .skip, f220.results.toList, noDk fi220)) :: fis_Yt_103
theorem fis_Yt_104_ok : FisOk prog fis_Yt_104 := fis_Yt_103_ok.cons (f := 220) (fn := f220) (by kernel_rfl) (by kernel_rfl) (by kernel_rfl) (by kernel_rfl)
noncomputable def fis_Yt_105 : Fis := (221, (0, f221.ntmps, f221.body.getD .skip, f221.results.toList, noDk fi221)) :: fis_Yt_104
theorem fis_Yt_105_ok : FisOk prog fis_Yt_105 := fis_Yt_104_ok.cons (f := 221) (fn := f221) (by kernel_rfl) (by kernel_rfl) (by kernel_rfl) (by kernel_rfl)
noncomputable def fis_Yt_106 : Fis := (222, (0, f222.ntmps, f222.body.getD .skip, f222.results.toList, noDk fi222)) :: fis_Yt_105
theorem fis_Yt_106_ok : FisOk prog fis_Yt_106 := fis_Yt_105_ok.cons (f := 222) (fn := f222) (by kernel_rfl) (by kernel_rfl) (by kernel_rfl) (by kernel_rfl)
noncomputable def fis_Yt_107 : Fis := (223, (0, f223.ntmps, f223.body.getD .skip, f223.results.toList, noDk fi223)) :: fis_Yt_106
theorem fis_Yt_107_ok : FisOk prog fis_Yt_107 := fis_Yt_106_ok.cons (f := 223) (fn := f223) (by kernel_rfl) (by kernel_rfl) (by kernel_rfl) (by kernel_rfl)
noncomputable def fis_Yt_108 : Fis := (224, (0, f224.ntmps, f224.body.getD .skip, f224.results.toList, noDk fi224)) :: fis_Yt_107
theorem fis_Yt_108_ok : FisOk prog fis_Yt_108 := fis_Yt_107_ok.cons (f := 224) (fn := f224) (by kernel_rfl) (by kernel_rfl) (by kernel_rfl) (by kernel_rfl)
noncomputable def fis_Yt_109 : Fis := (225, (0, f225.ntmps, f225.body.getD .skip, f225.results.toList, noDk fi225)) :: fis_Yt_108
theorem fis_Yt_109_ok : FisOk prog fis_Yt_109 := fis_Yt_108_ok.cons (f := 225) (fn := f225) (by kernel_rfl) (by kernel_rfl) (by kernel_rfl) (by kernel_rfl)
noncomputable def fis_Yt_110 : Fis := (227, (0, f227.ntmps, f227.body.getD .skip, f227.results.toList, noDk fi227)) :: fis_Yt_109
theorem fis_Yt_110_ok : FisOk prog fis_Yt_110 := fis_Yt_109_ok.cons (f := 227) (fn := f227) (by kernel_rfl) (by kernel_rfl) (by kernel_rfl) (by kernel_rfl)
noncomputable def fis_Yt_111 : Fis := (228, (0, f228.ntmps, f228.body.getD .skip, f228.results.toList, noDk fi228)) :: fis_Yt_110
theorem fis_Yt_111_ok : FisOk prog fis_Yt_111 := fis_Yt_110_ok.cons (f := 228) (fn := f228) (by kernel_rfl) (by kernel_rfl) (by kernel_rfl) (by kernel_rfl)
noncomputable def fis_Yt_112 : Fis := (229, (0, f229.ntmps, f229.body.getD .skip, f229.results.toList, noDk fi229)) :: fis_Yt_111
theorem fis_Yt_112_ok : FisOk prog fis_Yt_112 := fis_Yt_111_ok.cons (f := 229) (fn := f229) (by kernel_rfl) (by kernel_rfl) (by kernel_rfl) (by kernel_rfl)
noncomputable def fis_Yt_113 : Fis := (230, (0, f230.ntmps, f230.body.getD .skip, f230.results.toList, noDk fi230)) :: fis_Yt_112
theorem fis_Yt_113_ok : FisOk prog fis_Yt_113 := fis_Yt_112_ok.cons (f := 230) (fn := f230) (by kernel_rfl) (by kernel_rfl) (by kernel_rfl) (by kernel_rfl)
noncomputable def fis_Yt_114 : Fis := (231, (0, f231.ntmps, f231.body.getD .skip, f231.results.toList, noDk fi231)) :: fis_Yt_113
theorem fis_Yt_114_ok : FisOk prog fis_Yt_114 := fis_Yt_113_ok.cons (f := 231) (fn := f231) (by kernel_rfl) (by kernel_rfl) (by kernel_rfl) (by kernel_rfl)
noncomputable def fis_Yt_115 : Fis := (232, (0, f232.ntmps, f232.body.getD .skip, f232.results.toList, noDk fi232)) :: fis_Yt_114
theorem fis_Yt_115_ok : FisOk prog fis_Yt_115 := fis_Yt_114_ok.cons (f := 232) (fn := f232) (by kernel_rfl) (by kernel_rfl) (by kernel_rfl) (by kernel_rfl)
noncomputable def fis_Yt_116 : Fis := (234, (0, f234.ntmps, f234.body.getD .skip, f234.results.toList, noDk fi234)) :: fis_Yt_115
theorem fis_Yt_116_ok : FisOk prog fis_Yt_116 := fis_Yt_115_ok.cons (f := 234) (fn := f234) (by kernel_rfl) (by kernel_rfl) (by kernel_rfl) (by kernel_rfl)
noncomputable def fis_Yt_117 : Fis := (235, (0, f235.ntmps, f235.body.getD .skip, f235.results.toList, noDk fi235)) :: fis_Yt_116
theorem fis_Yt_117_ok : FisOk prog fis_Yt_117 := fis_Yt_116_ok.cons (f := 235) (fn := f235) (by kernel_rfl) (by kernel_rfl) (by kernel_rfl) (by kernel_rfl)
noncomputable def fis_Yt_118 : Fis := (239, (0, f239.ntmps, f239.body.getD .skip, f239.results.toList, noDk fi239)) :: fis_Yt_117
theorem fis_Yt_118_ok : FisOk prog fis_Yt_118 := fis_Yt_117_ok.cons (f := 239) (fn := f239) (by kernel_rfl) (by kernel_rfl) (by kernel_rfl) (by kernel_rfl)
noncomputable def fis_Yt_119 : Fis := (240, (0, f240.ntmps, f240.body.getD .skip, f240.results.toList, noDk fi240)) :: fis_Yt_118
theorem fis_Yt_119_ok : FisOk prog fis_Yt_119 := fis_Yt_118_ok.cons (f := 240) (fn := f240) (by kernel_rfl) (by kernel_rfl) (by kernel_rfl) (by kernel_rfl)
noncomputable def fis_Yt_120 : Fis := (265, (0, f265.ntmps, f265.body.getD .skip, f265.results.toList, noDk fi265)) :: fis_Yt_119
theorem fis_Yt_120_ok : FisOk prog fis_Yt_120 := fis_Yt_119_ok.cons (f := 265) (fn := f265) (by kernel_rfl) (by kernel_rfl) (by kernel_rfl) (by kernel_rfl)
noncomputable def fis_Yt_121 : Fis := (266, (0, f266.ntmps, f266.body.getD .skip, f266.results.toList, noDk fi266)) :: fis_Yt_120
theorem fis_Yt_121_ok : FisOk prog fis_Yt_121 := fis_Yt_120_ok.cons (f := 266) (fn := f266) (by kernel_rfl) (by kernel_rfl) (by kernel_rfl) (by kernel_rfl)
noncomputable def fis_Yt_122 : Fis := (267, (0, f267.ntmps, f267.body.getD .skip, f267.results.toList, noDk fi267)) :: fis_Yt_121
theorem fis_Yt_122_ok : FisOk prog fis_Yt_122 := fis_Yt_121_ok.cons (f := 267) (fn := f267) (by kernel_rfl) (by kernel_rfl) (by kernel_rfl) (by kernel_rfl)
noncomputable def fis_Yt_123 : Fis := (268, (0, f268.ntmps, f268.body.getD .skip, f268.results.toList, noDk fi268)) :: fis_Yt_122
theorem fis_Yt_123_ok : FisOk prog fis_Yt_123 := fis_Yt_122_ok.cons (f := 268) (fn := f268) (by kernel_rfl) (by kernel_rfl) (by kernel_rfl) (by kernel_rfl)
noncomputable def fis_Yt_124 : Fis := (286, (0, f286.ntmps, f286.body.getD .skip, f286.results.toList, noDk fi286)) :: fis_Yt_123
theorem fis_Yt_124_ok : FisOk prog fis_Yt_124 := fis_Yt_123_ok.cons (f := 286) (fn := f286) (by kernel_rfl) (by kernel_rfl) (by kernel_rfl) (by kernel_rfl)
noncomputable def fis_Yt_125 : Fis := (294, (0, f294.ntmps, f294.body.getD .skip, f294.results.toList, noDk fi294)) :: fis_Yt_124
theorem fis_Yt_125_ok : FisOk prog fis_Yt_125 := fis_Yt_124_ok.cons (f := 294) (fn := f294) (by kernel_rfl) (by kernel_rfl) (by kernel_rfl) (by kernel_rfl)
noncomputable def fis_Yt_126 : Fis := (297, (0, f297.ntmps, f297.body.getD .skip, f297.results.toList, noDk fi297)) :: fis_Yt_125
theorem fis_Yt_126_ok : FisOk prog fis_Yt_126 := fis_Yt_125_ok.cons (f := 297) (fn := f297) (by kernel_rfl) (by kernel_rfl) (by kernel_rfl) (by kernel_rfl)
noncomputable def fis_Yt_127 : Fis := (298, (0, f298.ntmps, f298.body.getD .skip, f298.results.toList, noDk fi298)) :: fis_Yt_126
theorem fis_Yt_127_ok : FisOk prog fis_Yt_127 := fis_Yt_126_ok.cons (f := 298) (fn := f298) (by kernel_rfl) (by kernel_rfl) (by kernel_rfl) (by kernel_rfl)
noncomputable def fis_Yt_128 : Fis := (299, (0, f299.ntmps, f299.body.getD .skip, f299.results.toList, noDk fi299)) :: fis_Yt_127
theorem fis_Yt_128_ok : FisOk prog fis_Yt_128 := fis_Yt_127_ok.cons (f := 299) (fn := f299) (by kernel_rfl) (by kernel_rfl) (by kernel_rfl) (by kernel_rfl)
noncomputable def fis_Yt_129 : Fis := (300, (0, f300.ntmps, f300.body.getD .skip, f300.results.toList, noDk fi300)) :: fis_Yt_128
theorem fis_Yt_129_ok : FisOk prog fis_Yt_129 := fis_Yt_128_ok.cons (f := 300) (fn := f300) (by kernel_rfl) (by kernel_rfl) (by kernel_rfl) (by kernel_rfl)
noncomputable def fis_Yt_130 : Fis := (302, (0, f302.ntmps, f302.body.getD .skip, f302.results.toList, noDk fi302)) :: fis_Yt_129
theorem fis_Yt_130_ok : FisOk prog fis_Yt_130 := fis_Yt_129_ok.cons (f := 302) (fn := f302) (by kernel_rfl) (by kernel_rfl) (by kernel_rfl) (by kernel_rfl)
noncomputable def fis_Yt_131 : Fis := (303, (0, f303.ntmps, f303.body.getD .skip, f303.results.toList, noDk fi303)) :: fis_Yt_130
theorem fis_Yt_131_ok : FisOk prog fis_Yt_131 := fis_Yt_130_ok.cons (f := 303) (fn := f303) (by kernel_rfl) (by kernel_rfl) (by kernel_rfl) (by kernel_rfl)
noncomputable def fis_Yt_132 : Fis := (306, (0, f306.ntmps, f306.body.getD .skip, f306.results.toList, noDk fi306)) :: fis_Yt_131
theorem fis_Yt_132_ok : FisOk prog fis_Yt_132 := fis_Yt_131_ok.cons (f := 306) (fn := f306) (by kernel_rfl) (by kernel_rfl) (by kernel_rfl) (by kernel_rfl)
def gw_Yt_0 : GrowT := []
theorem gw_Yt_0_ok : GrowOk prog gw_Yt_0 := growOk_no
def gw_Yt_1 : GrowT := (184, (167, 16, 216)) :: gw_Yt_0
theorem gw_Yt_1_ok : GrowOk prog gw_Yt_1 := gw_Yt_0_ok.lay (ρ := grow184_ren) grow184 EX_Yt_ok (e := 167) (ei := tiAt te_0 167) rfl rfl (by kernel_rfl) (by kernel_rfl) (by kernel_rfl) (fnOk_of (f := 184) (fn := f184) (by kernel_rfl) (by kernel_rfl) (by kernel_rfl))
end Go.Proofs.Tryz
