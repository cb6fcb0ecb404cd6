/- A run at known data: calls. -/
import Derived.Test.YtmieillgepoaeaaGreatDoorBg182
namespace Go.Proofs.Tryz
open Go Go.Dm
set_option maxRecDepth 100000
def ca_Yt_55 : List R := []
def cr_Yt_55 : List R := [.lst 9 1 [[.v (.string ⟨⟨[97, 108, 108]⟩⟩)], [.v (.string ⟨⟨[97, 110, 100]⟩⟩)], [.v (.string ⟨⟨[97, 110, 116, 105]⟩⟩)], [.v (.string ⟨⟨[97, 115]⟩⟩)], [.v (.string ⟨⟨[97, 115, 99]⟩⟩)], [.v (.string ⟨⟨[98, 101, 103, 105, 110]⟩⟩)], [.v (.string ⟨⟨[98, 101, 116, 119, 101, 101, 110]⟩⟩)], [.v (.string ⟨⟨[98, 111, 111, 108]⟩⟩)], [.v (.string ⟨⟨[98, 121]⟩⟩)], [.v (.string ⟨⟨[99, 97, 115, 101]⟩⟩)], [.v (.string ⟨⟨[99, 97, 115, 116]⟩⟩)], [.v (.string ⟨⟨[99, 104, 101, 99, 107, 112, 111, 105, 110, 116]⟩⟩)], [.v (.string ⟨⟨[99, 111, 97, 108, 101, 115, 99, 101]⟩⟩)], [.v (.string ⟨⟨[99, 111, 109, 109, 105, 116]⟩⟩)], [.v (.string ⟨⟨[99, 111, 117, 110, 116]⟩⟩)], [.v (.string ⟨⟨[99, 114, 101, 97, 116, 101]⟩⟩)], [.v (.string ⟨⟨[99, 117, 114, 114, 101, 110, 116]⟩⟩)], [.v (.string ⟨⟨[100, 97, 116, 101]⟩⟩)], [.v (.string ⟨⟨[100, 101, 99, 105, 109, 97, 108]⟩⟩)], [.v (.string ⟨⟨[100, 101, 108, 101, 116, 101]⟩⟩)], [.v (.string ⟨⟨[100, 101, 110, 115, 101, 95, 114, 97, 110, 107]⟩⟩)], [.v (.string ⟨⟨[100, 101, 115, 99]⟩⟩)], [.v (.string ⟨⟨[100, 105, 115, 116, 105, 110, 99, 116]⟩⟩)], [.v (.string ⟨⟨[100, 114, 111, 112]⟩⟩)], [.v (.string ⟨⟨[101, 108, 115, 101]⟩⟩)], [.v (.string ⟨⟨[101, 110, 100]⟩⟩)], [.v (.string ⟨⟨[102, 97, 108, 115, 101]⟩⟩)], [.v (.string ⟨⟨[102, 111, 108, 108, 111, 119, 105, 110, 103]⟩⟩)], [.v (.string ⟨⟨[102, 114, 111, 109]⟩⟩)], [.v (.string ⟨⟨[103, 114, 111, 117, 112]⟩⟩)], [.v (.string ⟨⟨[104, 97, 118, 105, 110, 103]⟩⟩)], [.v (.string ⟨⟨[105, 110, 110, 101, 114]⟩⟩)], [.v (.string ⟨⟨[105, 110, 115, 101, 114, 116]⟩⟩)], [.v (.string ⟨⟨[105, 110, 116]⟩⟩)], [.v (.string ⟨⟨[105, 110, 116, 111]⟩⟩)], [.v (.string ⟨⟨[105, 115]⟩⟩)], [.v (.string ⟨⟨[106, 111, 105, 110]⟩⟩)], [.v (.string ⟨⟨[108, 97, 103]⟩⟩)], [.v (.string ⟨⟨[108, 101, 97, 100]⟩⟩)], [.v (.string ⟨⟨[108, 101, 102, 116]⟩⟩)], [.v (.string ⟨⟨[108, 101, 110, 103, 116, 104]⟩⟩)], [.v (.string ⟨⟨[108, 105, 109, 105, 116]⟩⟩)], [.v (.string ⟨⟨[109, 97, 120]⟩⟩)], [.v (.string ⟨⟨[109, 105, 110]⟩⟩)], [.v (.string ⟨⟨[110, 111, 116]⟩⟩)], [.v (.string ⟨⟨[110, 117, 108, 108]⟩⟩)], [.v (.string ⟨⟨[111, 110]⟩⟩)], [.v (.string ⟨⟨[111, 114]⟩⟩)], [.v (.string ⟨⟨[111, 114, 100, 101, 114]⟩⟩)], [.v (.string ⟨⟨[111, 118, 101, 114]⟩⟩)], [.v (.string ⟨⟨[112, 97, 114, 116, 105, 116, 105, 111, 110]⟩⟩)], [.v (.string ⟨⟨[112, 114, 101, 99, 101, 100, 105, 110, 103]⟩⟩)], [.v (.string ⟨⟨[114, 97, 110, 107]⟩⟩)], [.v (.string ⟨⟨[114, 111, 108, 108, 98, 97, 99, 107]⟩⟩)], [.v (.string ⟨⟨[114, 111, 119]⟩⟩)], [.v (.string ⟨⟨[114, 111, 119, 95, 110, 117, 109, 98, 101, 114]⟩⟩)], [.v (.string ⟨⟨[114, 111, 119, 115]⟩⟩)], [.v (.string ⟨⟨[115, 101, 108, 101, 99, 116]⟩⟩)], [.v (.string ⟨⟨[115, 101, 109, 105]⟩⟩)], [.v (.string ⟨⟨[115, 101, 116]⟩⟩)], [.v (.string ⟨⟨[115, 117, 109]⟩⟩)], [.v (.string ⟨⟨[116, 97, 98, 108, 101]⟩⟩)], [.v (.string ⟨⟨[116, 101, 120, 116]⟩⟩)], [.v (.string ⟨⟨[116, 104, 101, 110]⟩⟩)], [.v (.string ⟨⟨[116, 114, 117, 101]⟩⟩)], [.v (.string ⟨⟨[117, 110, 98, 111, 117, 110, 100, 101, 100]⟩⟩)], [.v (.string ⟨⟨[117, 110, 105, 111, 110]⟩⟩)], [.v (.string ⟨⟨[117, 112, 100, 97, 116, 101]⟩⟩)], [.v (.string ⟨⟨[118, 97, 108, 117, 101, 115]⟩⟩)], [.v (.string ⟨⟨[119, 104, 101, 110]⟩⟩)], [.v (.string ⟨⟨[119, 104, 101, 114, 101]⟩⟩)]]]
theorem cut_Yt_55 (gl : Nat → Option Obj) : Ct prog gl 165 ca_Yt_55 (gives cr_Yt_55) :=
  ct_run (lib := cl_Yt_54) EX_Yt_ok (cl_Yt_54_ok gl) (fun _ _ _ h => h.elim) mixed fis_Yt_132_ok gw_Yt_1_ok 3000 (runsTo_sound (by kernel_rfl))
def cl_Yt_55 : XL := libAdd cl_Yt_54 165 ca_Yt_55 cr_Yt_55
theorem cl_Yt_55_ok (gl : Nat → Option Obj) : LibOk prog gl cl_Yt_55 := libAdd_ok (cl_Yt_54_ok gl) (cut_Yt_55 gl)
def ca_Yt_56 : List R := [.d (.v (.string ⟨⟨[115, 101, 108, 101, 99, 116]⟩⟩))]
def cr_Yt_56 : List R := [.d (.v (.bool true))]
theorem cut_Yt_56 (gl : Nat → Option Obj) : Ct prog gl 129 ca_Yt_56 (gives cr_Yt_56) :=
  ct_run (lib := cl_Yt_55) EX_Yt_ok (cl_Yt_55_ok gl) (fun _ _ _ h => h.elim) mixed fis_Yt_132_ok gw_Yt_1_ok 3000 (runsTo_sound (by kernel_rfl))
def cl_Yt_56 : XL := libAdd cl_Yt_55 129 ca_Yt_56 cr_Yt_56
theorem cl_Yt_56_ok (gl : Nat → Option Obj) : LibOk prog gl cl_Yt_56 := libAdd_ok (cl_Yt_55_ok gl) (cut_Yt_56 gl)
def ca_Yt_57 : List R := [.d (.v (.string ⟨⟨[98]⟩⟩))]
def cr_Yt_57 : List R := [.d (.v (.bool false))]
theorem cut_Yt_57 (gl : Nat → Option Obj) : Ct prog gl 129 ca_Yt_57 (gives cr_Yt_57) :=
  ct_run (lib := cl_Yt_56) EX_Yt_ok (cl_Yt_56_ok gl) (fun _ _ _ h => h.elim) mixed fis_Yt_132_ok gw_Yt_1_ok 3000 (runsTo_sound (by kernel_rfl))
def cl_Yt_57 : XL := libAdd cl_Yt_56 129 ca_Yt_57 cr_Yt_57
theorem cl_Yt_57_ok (gl : Nat → Option Obj) : LibOk prog gl cl_Yt_57 := libAdd_ok (cl_Yt_56_ok gl) (cut_Yt_57 gl)
def ca_Yt_58 : List R := [.d (.v (.string ⟨⟨[99, 111, 117, 110, 116]⟩⟩))]
def cr_Yt_58 : List R := [.d (.v (.bool true))]
theorem cut_Yt_58 (gl : Nat → Option Obj) : Ct prog gl 129 ca_Yt_58 (gives cr_Yt_58) :=
  ct_run (lib := cl_Yt_57) EX_Yt_ok (cl_Yt_57_ok gl) (fun _ _ _ h => h.elim) mixed fis_Yt_132_ok gw_Yt_1_ok 3000 (runsTo_sound (by kernel_rfl))
def cl_Yt_58 : XL := libAdd cl_Yt_57 129 ca_Yt_58 cr_Yt_58
theorem cl_Yt_58_ok (gl : Nat → Option Obj) : LibOk prog gl cl_Yt_58 := libAdd_ok (cl_Yt_57_ok gl) (cut_Yt_58 gl)
def ca_Yt_59 : List R := [.d (.v (.string ⟨⟨[97, 115]⟩⟩))]
def cr_Yt_59 : List R := [.d (.v (.bool true))]
theorem cut_Yt_59 (gl : Nat → Option Obj) : Ct prog gl 129 ca_Yt_59 (gives cr_Yt_59) :=
  ct_run (lib := cl_Yt_58) EX_Yt_ok (cl_Yt_58_ok gl) (fun _ _ _ h => h.elim) mixed fis_Yt_132_ok gw_Yt_1_ok 3000 (runsTo_sound (by kernel_rfl))
def cl_Yt_59 : XL := libAdd cl_Yt_58 129 ca_Yt_59 cr_Yt_59
theorem cl_Yt_59_ok (gl : Nat → Option Obj) : LibOk prog gl cl_Yt_59 := libAdd_ok (cl_Yt_58_ok gl) (cut_Yt_59 gl)
def ca_Yt_60 : List R := [.d (.v (.string ⟨⟨[110]⟩⟩))]
def cr_Yt_60 : List R := [.d (.v (.bool false))]
theorem cut_Yt_60 (gl : Nat → Option Obj) : Ct prog gl 129 ca_Yt_60 (gives cr_Yt_60) :=
  ct_run (lib := cl_Yt_59) EX_Yt_ok (cl_Yt_59_ok gl) (fun _ _ _ h => h.elim) mixed fis_Yt_132_ok gw_Yt_1_ok 3000 (runsTo_sound (by kernel_rfl))
def cl_Yt_60 : XL := libAdd cl_Yt_59 129 ca_Yt_60 cr_Yt_60
theorem cl_Yt_60_ok (gl : Nat → Option Obj) : LibOk prog gl cl_Yt_60 := libAdd_ok (cl_Yt_59_ok gl) (cut_Yt_60 gl)
def ca_Yt_61 : List R := [.d (.v (.string ⟨⟨[102, 114, 111, 109]⟩⟩))]
def cr_Yt_61 : List R := [.d (.v (.bool true))]
theorem cut_Yt_61 (gl : Nat → Option Obj) : Ct prog gl 129 ca_Yt_61 (gives cr_Yt_61) :=
  ct_run (lib := cl_Yt_60) EX_Yt_ok (cl_Yt_60_ok gl) (fun _ _ _ h => h.elim) mixed fis_Yt_132_ok gw_Yt_1_ok 3000 (runsTo_sound (by kernel_rfl))
def cl_Yt_61 : XL := libAdd cl_Yt_60 129 ca_Yt_61 cr_Yt_61
theorem cl_Yt_61_ok (gl : Nat → Option Obj) : LibOk prog gl cl_Yt_61 := libAdd_ok (cl_Yt_60_ok gl) (cut_Yt_61 gl)
def ca_Yt_62 : List R := [.d (.v (.string ⟨⟨[116]⟩⟩))]
def cr_Yt_62 : List R := [.d (.v (.bool false))]
theorem cut_Yt_62 (gl : Nat → Option Obj) : Ct prog gl 129 ca_Yt_62 (gives cr_Yt_62) :=
  ct_run (lib := cl_Yt_61) EX_Yt_ok (cl_Yt_61_ok gl) (fun _ _ _ h => h.elim) mixed fis_Yt_132_ok gw_Yt_1_ok 3000 (runsTo_sound (by kernel_rfl))
def cl_Yt_62 : XL := libAdd cl_Yt_61 129 ca_Yt_62 cr_Yt_62
theorem cl_Yt_62_ok (gl : Nat → Option Obj) : LibOk prog gl cl_Yt_62 := libAdd_ok (cl_Yt_61_ok gl) (cut_Yt_62 gl)
def ca_Yt_63 : List R := [.d (.v (.string ⟨⟨[119, 104, 101, 114, 101]⟩⟩))]
def cr_Yt_63 : List R := [.d (.v (.bool true))]
theorem cut_Yt_63 (gl : Nat → Option Obj) : Ct prog gl 129 ca_Yt_63 (gives cr_Yt_63) :=
  ct_run (lib := cl_Yt_62) EX_Yt_ok (cl_Yt_62_ok gl) (fun _ _ _ h => h.elim) mixed fis_Yt_132_ok gw_Yt_1_ok 3000 (runsTo_sound (by kernel_rfl))
def cl_Yt_63 : XL := libAdd cl_Yt_62 129 ca_Yt_63 cr_Yt_63
theorem cl_Yt_63_ok (gl : Nat → Option Obj) : LibOk prog gl cl_Yt_63 := libAdd_ok (cl_Yt_62_ok gl) (cut_Yt_63 gl)
def ca_Yt_64 : List R := [.d (.v (.string ⟨⟨[97]⟩⟩))]
def cr_Yt_64 : List R := [.d (.v (.bool false))]
theorem cut_Yt_64 (gl : Nat → Option Obj) : Ct prog gl 129 ca_Yt_64 (gives cr_Yt_64) :=
  ct_run (lib := cl_Yt_63) EX_Yt_ok (cl_Yt_63_ok gl) (fun _ _ _ h => h.elim) mixed fis_Yt_132_ok gw_Yt_1_ok 3000 (runsTo_sound (by kernel_rfl))
def cl_Yt_64 : XL := libAdd cl_Yt_63 129 ca_Yt_64 cr_Yt_64
theorem cl_Yt_64_ok (gl : Nat → Option Obj) : LibOk prog gl cl_Yt_64 := libAdd_ok (cl_Yt_63_ok gl) (cut_Yt_64 gl)
def ca_Yt_65 : List R := [.d (.v (.string ⟨⟨[103, 114, 111, 117, 112]⟩⟩))]
def cr_Yt_65 : List R := [.d (.v (.bool true))]
theorem cut_Yt_65 (gl : Nat → Option Obj) : Ct prog gl 129 ca_Yt_65 (gives cr_Yt_65) :=
  ct_run (lib := cl_Yt_64) EX_Yt_ok (cl_Yt_64_ok gl) (fun _ _ _ h => h.elim) mixed fis_Yt_132_ok gw_Yt_1_ok 3000 (runsTo_sound (by kernel_rfl))
def cl_Yt_65 : XL := libAdd cl_Yt_64 129 ca_Yt_65 cr_Yt_65
theorem cl_Yt_65_ok (gl : Nat → Option Obj) : LibOk prog gl cl_Yt_65 := libAdd_ok (cl_Yt_64_ok gl) (cut_Yt_65 gl)
def ca_Yt_66 : List R := [.d (.v (.string ⟨⟨[98, 121]⟩⟩))]
def cr_Yt_66 : List R := [.d (.v (.bool true))]
theorem cut_Yt_66 (gl : Nat → Option Obj) : Ct prog gl 129 ca_Yt_66 (gives cr_Yt_66) :=
  ct_run (lib := cl_Yt_65) EX_Yt_ok (cl_Yt_65_ok gl) (fun _ _ _ h => h.elim) mixed fis_Yt_132_ok gw_Yt_1_ok 3000 (runsTo_sound (by kernel_rfl))
def cl_Yt_66 : XL := libAdd cl_Yt_65 129 ca_Yt_66 cr_Yt_66
theorem cl_Yt_66_ok (gl : Nat → Option Obj) : LibOk prog gl cl_Yt_66 := libAdd_ok (cl_Yt_65_ok gl) (cut_Yt_66 gl)
def ca_Yt_67 : List R := [.d (.v (.string ⟨⟨[104, 97, 118, 105, 110, 103]⟩⟩))]
def cr_Yt_67 : List R := [.d (.v (.bool true))]
theorem cut_Yt_67 (gl : Nat → Option Obj) : Ct prog gl 129 ca_Yt_67 (gives cr_Yt_67) :=
  ct_run (lib := cl_Yt_66) EX_Yt_ok (cl_Yt_66_ok gl) (fun _ _ _ h => h.elim) mixed fis_Yt_132_ok gw_Yt_1_ok 3000 (runsTo_sound (by kernel_rfl))
def cl_Yt_67 : XL := libAdd cl_Yt_66 129 ca_Yt_67 cr_Yt_67
theorem cl_Yt_67_ok (gl : Nat → Option Obj) : LibOk prog gl cl_Yt_67 := libAdd_ok (cl_Yt_66_ok gl) (cut_Yt_67 gl)
end Go.Proofs.Tryz
