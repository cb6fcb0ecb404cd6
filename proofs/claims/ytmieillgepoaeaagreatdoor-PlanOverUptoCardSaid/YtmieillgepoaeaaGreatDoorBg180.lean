/- A run at known data: calls. -/
import Derived.Test.YtmieillgepoaeaaGreatDoorBg18a
namespace Go.Proofs.Tryz
open Go Go.Dm
set_option maxRecDepth 100000
def ca_Yt_0 : List R := [.d (.v (.string ⟨⟨[115, 101, 108, 101, 99, 116, 32, 98, 44, 32, 99, 111, 117, 110, 116, 40, 42, 41, 32, 97, 115, 32, 110, 32, 102, 114, 111, 109, 32, 116, 32, 119, 104, 101, 114, 101, 32, 97, 32, 62, 32, 49, 32, 103, 114, 111, 117, 112, 32, 98, 121, 32, 98, 32, 104, 97, 118, 105, 110, 103, 32, 99, 111, 117, 110, 116, 40, 42, 41, 32, 62, 32, 50]⟩⟩)), .d (.v (.int .i64 (0)))]
def cr_Yt_0 : List R := [.d (.v (.int .i64 (0)))]
theorem cut_Yt_0 (gl : Nat → Option Obj) : Ct prog gl 163 ca_Yt_0 (gives cr_Yt_0) :=
  ct_run (lib := (fun _ _ => none)) EX_Yt_ok (libOk_no) (fun _ _ _ h => h.elim) mixed fis_Yt_132_ok gw_Yt_1_ok 3000 (runsTo_sound (by kernel_rfl))
def cl_Yt_0 : XL := libAdd (fun _ _ => none) 163 ca_Yt_0 cr_Yt_0
theorem cl_Yt_0_ok (gl : Nat → Option Obj) : LibOk prog gl cl_Yt_0 := libAdd_ok (libOk_no) (cut_Yt_0 gl)
def ca_Yt_1 : List R := [.d (.v (.string ⟨⟨[115, 101, 108, 101, 99, 116, 32, 98, 44, 32, 99, 111, 117, 110, 116, 40, 42, 41, 32, 97, 115, 32, 110, 32, 102, 114, 111, 109, 32, 116, 32, 119, 104, 101, 114, 101, 32, 97, 32, 62, 32, 49, 32, 103, 114, 111, 117, 112, 32, 98, 121, 32, 98, 32, 104, 97, 118, 105, 110, 103, 32, 99, 111, 117, 110, 116, 40, 42, 41, 32, 62, 32, 50]⟩⟩)), .d (.v (.int .i64 (0)))]
def cr_Yt_1 : List R := [.agg [.v (.int .i64 (1)), .v (.string ⟨⟨[115, 101, 108, 101, 99, 116]⟩⟩), .v (.int .i64 (0))], .d (.v (.int .i64 (6))), .d (.v (.bool true))]
theorem cut_Yt_1 (gl : Nat → Option Obj) : Ct prog gl 164 ca_Yt_1 (gives cr_Yt_1) :=
  ct_run (lib := cl_Yt_0) EX_Yt_ok (cl_Yt_0_ok gl) (fun _ _ _ h => h.elim) mixed fis_Yt_132_ok gw_Yt_1_ok 3000 (runsTo_sound (by kernel_rfl))
def cl_Yt_1 : XL := libAdd cl_Yt_0 164 ca_Yt_1 cr_Yt_1
theorem cl_Yt_1_ok (gl : Nat → Option Obj) : LibOk prog gl cl_Yt_1 := libAdd_ok (cl_Yt_0_ok gl) (cut_Yt_1 gl)
def ca_Yt_2 : List R := [.d (.v (.string ⟨⟨[115, 101, 108, 101, 99, 116, 32, 98, 44, 32, 99, 111, 117, 110, 116, 40, 42, 41, 32, 97, 115, 32, 110, 32, 102, 114, 111, 109, 32, 116, 32, 119, 104, 101, 114, 101, 32, 97, 32, 62, 32, 49, 32, 103, 114, 111, 117, 112, 32, 98, 121, 32, 98, 32, 104, 97, 118, 105, 110, 103, 32, 99, 111, 117, 110, 116, 40, 42, 41, 32, 62, 32, 50]⟩⟩)), .d (.v (.int .i64 (6)))]
def cr_Yt_2 : List R := [.d (.v (.int .i64 (7)))]
theorem cut_Yt_2 (gl : Nat → Option Obj) : Ct prog gl 163 ca_Yt_2 (gives cr_Yt_2) :=
  ct_run (lib := cl_Yt_1) EX_Yt_ok (cl_Yt_1_ok gl) (fun _ _ _ h => h.elim) mixed fis_Yt_132_ok gw_Yt_1_ok 3000 (runsTo_sound (by kernel_rfl))
def cl_Yt_2 : XL := libAdd cl_Yt_1 163 ca_Yt_2 cr_Yt_2
theorem cl_Yt_2_ok (gl : Nat → Option Obj) : LibOk prog gl cl_Yt_2 := libAdd_ok (cl_Yt_1_ok gl) (cut_Yt_2 gl)
def ca_Yt_3 : List R := [.d (.v (.string ⟨⟨[115, 101, 108, 101, 99, 116, 32, 98, 44, 32, 99, 111, 117, 110, 116, 40, 42, 41, 32, 97, 115, 32, 110, 32, 102, 114, 111, 109, 32, 116, 32, 119, 104, 101, 114, 101, 32, 97, 32, 62, 32, 49, 32, 103, 114, 111, 117, 112, 32, 98, 121, 32, 98, 32, 104, 97, 118, 105, 110, 103, 32, 99, 111, 117, 110, 116, 40, 42, 41, 32, 62, 32, 50]⟩⟩)), .d (.v (.int .i64 (7)))]
def cr_Yt_3 : List R := [.agg [.v (.int .i64 (1)), .v (.string ⟨⟨[98]⟩⟩), .v (.int .i64 (7))], .d (.v (.int .i64 (8))), .d (.v (.bool true))]
theorem cut_Yt_3 (gl : Nat → Option Obj) : Ct prog gl 164 ca_Yt_3 (gives cr_Yt_3) :=
  ct_run (lib := cl_Yt_2) EX_Yt_ok (cl_Yt_2_ok gl) (fun _ _ _ h => h.elim) mixed fis_Yt_132_ok gw_Yt_1_ok 3000 (runsTo_sound (by kernel_rfl))
def cl_Yt_3 : XL := libAdd cl_Yt_2 164 ca_Yt_3 cr_Yt_3
theorem cl_Yt_3_ok (gl : Nat → Option Obj) : LibOk prog gl cl_Yt_3 := libAdd_ok (cl_Yt_2_ok gl) (cut_Yt_3 gl)
def ca_Yt_4 : List R := [.d (.v (.string ⟨⟨[115, 101, 108, 101, 99, 116, 32, 98, 44, 32, 99, 111, 117, 110, 116, 40, 42, 41, 32, 97, 115, 32, 110, 32, 102, 114, 111, 109, 32, 116, 32, 119, 104, 101, 114, 101, 32, 97, 32, 62, 32, 49, 32, 103, 114, 111, 117, 112, 32, 98, 121, 32, 98, 32, 104, 97, 118, 105, 110, 103, 32, 99, 111, 117, 110, 116, 40, 42, 41, 32, 62, 32, 50]⟩⟩)), .d (.v (.int .i64 (8)))]
def cr_Yt_4 : List R := [.d (.v (.int .i64 (8)))]
theorem cut_Yt_4 (gl : Nat → Option Obj) : Ct prog gl 163 ca_Yt_4 (gives cr_Yt_4) :=
  ct_run (lib := cl_Yt_3) EX_Yt_ok (cl_Yt_3_ok gl) (fun _ _ _ h => h.elim) mixed fis_Yt_132_ok gw_Yt_1_ok 3000 (runsTo_sound (by kernel_rfl))
def cl_Yt_4 : XL := libAdd cl_Yt_3 163 ca_Yt_4 cr_Yt_4
theorem cl_Yt_4_ok (gl : Nat → Option Obj) : LibOk prog gl cl_Yt_4 := libAdd_ok (cl_Yt_3_ok gl) (cut_Yt_4 gl)
def ca_Yt_5 : List R := [.d (.v (.string ⟨⟨[115, 101, 108, 101, 99, 116, 32, 98, 44, 32, 99, 111, 117, 110, 116, 40, 42, 41, 32, 97, 115, 32, 110, 32, 102, 114, 111, 109, 32, 116, 32, 119, 104, 101, 114, 101, 32, 97, 32, 62, 32, 49, 32, 103, 114, 111, 117, 112, 32, 98, 121, 32, 98, 32, 104, 97, 118, 105, 110, 103, 32, 99, 111, 117, 110, 116, 40, 42, 41, 32, 62, 32, 50]⟩⟩)), .d (.v (.int .i64 (8)))]
def cr_Yt_5 : List R := [.agg [.v (.int .i64 (4)), .v (.string ⟨⟨[44]⟩⟩), .v (.int .i64 (8))], .d (.v (.int .i64 (9))), .d (.v (.bool true))]
theorem cut_Yt_5 (gl : Nat → Option Obj) : Ct prog gl 164 ca_Yt_5 (gives cr_Yt_5) :=
  ct_run (lib := cl_Yt_4) EX_Yt_ok (cl_Yt_4_ok gl) (fun _ _ _ h => h.elim) mixed fis_Yt_132_ok gw_Yt_1_ok 3000 (runsTo_sound (by kernel_rfl))
def cl_Yt_5 : XL := libAdd cl_Yt_4 164 ca_Yt_5 cr_Yt_5
theorem cl_Yt_5_ok (gl : Nat → Option Obj) : LibOk prog gl cl_Yt_5 := libAdd_ok (cl_Yt_4_ok gl) (cut_Yt_5 gl)
def ca_Yt_6 : List R := [.d (.v (.string ⟨⟨[115, 101, 108, 101, 99, 116, 32, 98, 44, 32, 99, 111, 117, 110, 116, 40, 42, 41, 32, 97, 115, 32, 110, 32, 102, 114, 111, 109, 32, 116, 32, 119, 104, 101, 114, 101, 32, 97, 32, 62, 32, 49, 32, 103, 114, 111, 117, 112, 32, 98, 121, 32, 98, 32, 104, 97, 118, 105, 110, 103, 32, 99, 111, 117, 110, 116, 40, 42, 41, 32, 62, 32, 50]⟩⟩)), .d (.v (.int .i64 (9)))]
def cr_Yt_6 : List R := [.d (.v (.int .i64 (10)))]
theorem cut_Yt_6 (gl : Nat → Option Obj) : Ct prog gl 163 ca_Yt_6 (gives cr_Yt_6) :=
  ct_run (lib := cl_Yt_5) EX_Yt_ok (cl_Yt_5_ok gl) (fun _ _ _ h => h.elim) mixed fis_Yt_132_ok gw_Yt_1_ok 3000 (runsTo_sound (by kernel_rfl))
def cl_Yt_6 : XL := libAdd cl_Yt_5 163 ca_Yt_6 cr_Yt_6
theorem cl_Yt_6_ok (gl : Nat → Option Obj) : LibOk prog gl cl_Yt_6 := libAdd_ok (cl_Yt_5_ok gl) (cut_Yt_6 gl)
def ca_Yt_7 : List R := [.d (.v (.string ⟨⟨[115, 101, 108, 101, 99, 116, 32, 98, 44, 32, 99, 111, 117, 110, 116, 40, 42, 41, 32, 97, 115, 32, 110, 32, 102, 114, 111, 109, 32, 116, 32, 119, 104, 101, 114, 101, 32, 97, 32, 62, 32, 49, 32, 103, 114, 111, 117, 112, 32, 98, 121, 32, 98, 32, 104, 97, 118, 105, 110, 103, 32, 99, 111, 117, 110, 116, 40, 42, 41, 32, 62, 32, 50]⟩⟩)), .d (.v (.int .i64 (10)))]
def cr_Yt_7 : List R := [.agg [.v (.int .i64 (1)), .v (.string ⟨⟨[99, 111, 117, 110, 116]⟩⟩), .v (.int .i64 (10))], .d (.v (.int .i64 (15))), .d (.v (.bool true))]
theorem cut_Yt_7 (gl : Nat → Option Obj) : Ct prog gl 164 ca_Yt_7 (gives cr_Yt_7) :=
  ct_run (lib := cl_Yt_6) EX_Yt_ok (cl_Yt_6_ok gl) (fun _ _ _ h => h.elim) mixed fis_Yt_132_ok gw_Yt_1_ok 3000 (runsTo_sound (by kernel_rfl))
def cl_Yt_7 : XL := libAdd cl_Yt_6 164 ca_Yt_7 cr_Yt_7
theorem cl_Yt_7_ok (gl : Nat → Option Obj) : LibOk prog gl cl_Yt_7 := libAdd_ok (cl_Yt_6_ok gl) (cut_Yt_7 gl)
def ca_Yt_8 : List R := [.d (.v (.string ⟨⟨[115, 101, 108, 101, 99, 116, 32, 98, 44, 32, 99, 111, 117, 110, 116, 40, 42, 41, 32, 97, 115, 32, 110, 32, 102, 114, 111, 109, 32, 116, 32, 119, 104, 101, 114, 101, 32, 97, 32, 62, 32, 49, 32, 103, 114, 111, 117, 112, 32, 98, 121, 32, 98, 32, 104, 97, 118, 105, 110, 103, 32, 99, 111, 117, 110, 116, 40, 42, 41, 32, 62, 32, 50]⟩⟩)), .d (.v (.int .i64 (15)))]
def cr_Yt_8 : List R := [.d (.v (.int .i64 (15)))]
theorem cut_Yt_8 (gl : Nat → Option Obj) : Ct prog gl 163 ca_Yt_8 (gives cr_Yt_8) :=
  ct_run (lib := cl_Yt_7) EX_Yt_ok (cl_Yt_7_ok gl) (fun _ _ _ h => h.elim) mixed fis_Yt_132_ok gw_Yt_1_ok 3000 (runsTo_sound (by kernel_rfl))
def cl_Yt_8 : XL := libAdd cl_Yt_7 163 ca_Yt_8 cr_Yt_8
theorem cl_Yt_8_ok (gl : Nat → Option Obj) : LibOk prog gl cl_Yt_8 := libAdd_ok (cl_Yt_7_ok gl) (cut_Yt_8 gl)
def ca_Yt_9 : List R := [.d (.v (.string ⟨⟨[115, 101, 108, 101, 99, 116, 32, 98, 44, 32, 99, 111, 117, 110, 116, 40, 42, 41, 32, 97, 115, 32, 110, 32, 102, 114, 111, 109, 32, 116, 32, 119, 104, 101, 114, 101, 32, 97, 32, 62, 32, 49, 32, 103, 114, 111, 117, 112, 32, 98, 121, 32, 98, 32, 104, 97, 118, 105, 110, 103, 32, 99, 111, 117, 110, 116, 40, 42, 41, 32, 62, 32, 50]⟩⟩)), .d (.v (.int .i64 (15)))]
def cr_Yt_9 : List R := [.agg [.v (.int .i64 (4)), .v (.string ⟨⟨[40]⟩⟩), .v (.int .i64 (15))], .d (.v (.int .i64 (16))), .d (.v (.bool true))]
theorem cut_Yt_9 (gl : Nat → Option Obj) : Ct prog gl 164 ca_Yt_9 (gives cr_Yt_9) :=
  ct_run (lib := cl_Yt_8) EX_Yt_ok (cl_Yt_8_ok gl) (fun _ _ _ h => h.elim) mixed fis_Yt_132_ok gw_Yt_1_ok 3000 (runsTo_sound (by kernel_rfl))
def cl_Yt_9 : XL := libAdd cl_Yt_8 164 ca_Yt_9 cr_Yt_9
theorem cl_Yt_9_ok (gl : Nat → Option Obj) : LibOk prog gl cl_Yt_9 := libAdd_ok (cl_Yt_8_ok gl) (cut_Yt_9 gl)
def ca_Yt_10 : List R := [.d (.v (.string ⟨⟨[115, 101, 108, 101, 99, 116, 32, 98, 44, 32, 99, 111, 117, 110, 116, 40, 42, 41, 32, 97, 115, 32, 110, 32, 102, 114, 111, 109, 32, 116, 32, 119, 104, 101, 114, 101, 32, 97, 32, 62, 32, 49, 32, 103, 114, 111, 117, 112, 32, 98, 121, 32, 98, 32, 104, 97, 118, 105, 110, 103, 32, 99, 111, 117, 110, 116, 40, 42, 41, 32, 62, 32, 50]⟩⟩)), .d (.v (.int .i64 (16)))]
def cr_Yt_10 : List R := [.d (.v (.int .i64 (16)))]
theorem cut_Yt_10 (gl : Nat → Option Obj) : Ct prog gl 163 ca_Yt_10 (gives cr_Yt_10) :=
  ct_run (lib := cl_Yt_9) EX_Yt_ok (cl_Yt_9_ok gl) (fun _ _ _ h => h.elim) mixed fis_Yt_132_ok gw_Yt_1_ok 3000 (runsTo_sound (by kernel_rfl))
def cl_Yt_10 : XL := libAdd cl_Yt_9 163 ca_Yt_10 cr_Yt_10
theorem cl_Yt_10_ok (gl : Nat → Option Obj) : LibOk prog gl cl_Yt_10 := libAdd_ok (cl_Yt_9_ok gl) (cut_Yt_10 gl)
def ca_Yt_11 : List R := [.d (.v (.string ⟨⟨[115, 101, 108, 101, 99, 116, 32, 98, 44, 32, 99, 111, 117, 110, 116, 40, 42, 41, 32, 97, 115, 32, 110, 32, 102, 114, 111, 109, 32, 116, 32, 119, 104, 101, 114, 101, 32, 97, 32, 62, 32, 49, 32, 103, 114, 111, 117, 112, 32, 98, 121, 32, 98, 32, 104, 97, 118, 105, 110, 103, 32, 99, 111, 117, 110, 116, 40, 42, 41, 32, 62, 32, 50]⟩⟩)), .d (.v (.int .i64 (16)))]
def cr_Yt_11 : List R := [.agg [.v (.int .i64 (4)), .v (.string ⟨⟨[42]⟩⟩), .v (.int .i64 (16))], .d (.v (.int .i64 (17))), .d (.v (.bool true))]
theorem cut_Yt_11 (gl : Nat → Option Obj) : Ct prog gl 164 ca_Yt_11 (gives cr_Yt_11) :=
  ct_run (lib := cl_Yt_10) EX_Yt_ok (cl_Yt_10_ok gl) (fun _ _ _ h => h.elim) mixed fis_Yt_132_ok gw_Yt_1_ok 3000 (runsTo_sound (by kernel_rfl))
def cl_Yt_11 : XL := libAdd cl_Yt_10 164 ca_Yt_11 cr_Yt_11
theorem cl_Yt_11_ok (gl : Nat → Option Obj) : LibOk prog gl cl_Yt_11 := libAdd_ok (cl_Yt_10_ok gl) (cut_Yt_11 gl)
def ca_Yt_12 : List R := [.d (.v (.string ⟨⟨[115, 101, 108, 101, 99, 116, 32, 98, 44, 32, 99, 111, 117, 110, 116, 40, 42, 41, 32, 97, 115, 32, 110, 32, 102, 114, 111, 109, 32, 116, 32, 119, 104, 101, 114, 101, 32, 97, 32, 62, 32, 49, 32, 103, 114, 111, 117, 112, 32, 98, 121, 32, 98, 32, 104, 97, 118, 105, 110, 103, 32, 99, 111, 117, 110, 116, 40, 42, 41, 32, 62, 32, 50]⟩⟩)), .d (.v (.int .i64 (17)))]
def cr_Yt_12 : List R := [.d (.v (.int .i64 (17)))]
theorem cut_Yt_12 (gl : Nat → Option Obj) : Ct prog gl 163 ca_Yt_12 (gives cr_Yt_12) :=
  ct_run (lib := cl_Yt_11) EX_Yt_ok (cl_Yt_11_ok gl) (fun _ _ _ h => h.elim) mixed fis_Yt_132_ok gw_Yt_1_ok 3000 (runsTo_sound (by kernel_rfl))
def cl_Yt_12 : XL := libAdd cl_Yt_11 163 ca_Yt_12 cr_Yt_12
theorem cl_Yt_12_ok (gl : Nat → Option Obj) : LibOk prog gl cl_Yt_12 := libAdd_ok (cl_Yt_11_ok gl) (cut_Yt_12 gl)
def ca_Yt_13 : List R := [.d (.v (.string ⟨⟨[115, 101, 108, 101, 99, 116, 32, 98, 44, 32, 99, 111, 117, 110, 116, 40, 42, 41, 32, 97, 115, 32, 110, 32, 102, 114, 111, 109, 32, 116, 32, 119, 104, 101, 114, 101, 32, 97, 32, 62, 32, 49, 32, 103, 114, 111, 117, 112, 32, 98, 121, 32, 98, 32, 104, 97, 118, 105, 110, 103, 32, 99, 111, 117, 110, 116, 40, 42, 41, 32, 62, 32, 50]⟩⟩)), .d (.v (.int .i64 (17)))]
def cr_Yt_13 : List R := [.agg [.v (.int .i64 (4)), .v (.string ⟨⟨[41]⟩⟩), .v (.int .i64 (17))], .d (.v (.int .i64 (18))), .d (.v (.bool true))]
theorem cut_Yt_13 (gl : Nat → Option Obj) : Ct prog gl 164 ca_Yt_13 (gives cr_Yt_13) :=
  ct_run (lib := cl_Yt_12) EX_Yt_ok (cl_Yt_12_ok gl) (fun _ _ _ h => h.elim) mixed fis_Yt_132_ok gw_Yt_1_ok 3000 (runsTo_sound (by kernel_rfl))
def cl_Yt_13 : XL := libAdd cl_Yt_12 164 ca_Yt_13 cr_Yt_13
theorem cl_Yt_13_ok (gl : Nat → Option Obj) : LibOk prog gl cl_Yt_13 := libAdd_ok (cl_Yt_12_ok gl) (cut_Yt_13 gl)
def ca_Yt_14 : List R := [.d (.v (.string ⟨⟨[115, 101, 108, 101, 99, 116, 32, 98, 44, 32, 99, 111, 117, 110, 116, 40, 42, 41, 32, 97, 115, 32, 110, 32, 102, 114, 111, 109, 32, 116, 32, 119, 104, 101, 114, 101, 32, 97, 32, 62, 32, 49, 32, 103, 114, 111, 117, 112, 32, 98, 121, 32, 98, 32, 104, 97, 118, 105, 110, 103, 32, 99, 111, 117, 110, 116, 40, 42, 41, 32, 62, 32, 50]⟩⟩)), .d (.v (.int .i64 (18)))]
def cr_Yt_14 : List R := [.d (.v (.int .i64 (19)))]
theorem cut_Yt_14 (gl : Nat → Option Obj) : Ct prog gl 163 ca_Yt_14 (gives cr_Yt_14) :=
  ct_run (lib := cl_Yt_13) EX_Yt_ok (cl_Yt_13_ok gl) (fun _ _ _ h => h.elim) mixed fis_Yt_132_ok gw_Yt_1_ok 3000 (runsTo_sound (by kernel_rfl))
def cl_Yt_14 : XL := libAdd cl_Yt_13 163 ca_Yt_14 cr_Yt_14
theorem cl_Yt_14_ok (gl : Nat → Option Obj) : LibOk prog gl cl_Yt_14 := libAdd_ok (cl_Yt_13_ok gl) (cut_Yt_14 gl)
def ca_Yt_15 : List R := [.d (.v (.string ⟨⟨[115, 101, 108, 101, 99, 116, 32, 98, 44, 32, 99, 111, 117, 110, 116, 40, 42, 41, 32, 97, 115, 32, 110, 32, 102, 114, 111, 109, 32, 116, 32, 119, 104, 101, 114, 101, 32, 97, 32, 62, 32, 49, 32, 103, 114, 111, 117, 112, 32, 98, 121, 32, 98, 32, 104, 97, 118, 105, 110, 103, 32, 99, 111, 117, 110, 116, 40, 42, 41, 32, 62, 32, 50]⟩⟩)), .d (.v (.int .i64 (19)))]
def cr_Yt_15 : List R := [.agg [.v (.int .i64 (1)), .v (.string ⟨⟨[97, 115]⟩⟩), .v (.int .i64 (19))], .d (.v (.int .i64 (21))), .d (.v (.bool true))]
theorem cut_Yt_15 (gl : Nat → Option Obj) : Ct prog gl 164 ca_Yt_15 (gives cr_Yt_15) :=
  ct_run (lib := cl_Yt_14) EX_Yt_ok (cl_Yt_14_ok gl) (fun _ _ _ h => h.elim) mixed fis_Yt_132_ok gw_Yt_1_ok 3000 (runsTo_sound (by kernel_rfl))
def cl_Yt_15 : XL := libAdd cl_Yt_14 164 ca_Yt_15 cr_Yt_15
theorem cl_Yt_15_ok (gl : Nat → Option Obj) : LibOk prog gl cl_Yt_15 := libAdd_ok (cl_Yt_14_ok gl) (cut_Yt_15 gl)
def ca_Yt_16 : List R := [.d (.v (.string ⟨⟨[115, 101, 108, 101, 99, 116, 32, 98, 44, 32, 99, 111, 117, 110, 116, 40, 42, 41, 32, 97, 115, 32, 110, 32, 102, 114, 111, 109, 32, 116, 32, 119, 104, 101, 114, 101, 32, 97, 32, 62, 32, 49, 32, 103, 114, 111, 117, 112, 32, 98, 121, 32, 98, 32, 104, 97, 118, 105, 110, 103, 32, 99, 111, 117, 110, 116, 40, 42, 41, 32, 62, 32, 50]⟩⟩)), .d (.v (.int .i64 (21)))]
def cr_Yt_16 : List R := [.d (.v (.int .i64 (22)))]
theorem cut_Yt_16 (gl : Nat → Option Obj) : Ct prog gl 163 ca_Yt_16 (gives cr_Yt_16) :=
  ct_run (lib := cl_Yt_15) EX_Yt_ok (cl_Yt_15_ok gl) (fun _ _ _ h => h.elim) mixed fis_Yt_132_ok gw_Yt_1_ok 3000 (runsTo_sound (by kernel_rfl))
def cl_Yt_16 : XL := libAdd cl_Yt_15 163 ca_Yt_16 cr_Yt_16
theorem cl_Yt_16_ok (gl : Nat → Option Obj) : LibOk prog gl cl_Yt_16 := libAdd_ok (cl_Yt_15_ok gl) (cut_Yt_16 gl)
def ca_Yt_17 : List R := [.d (.v (.string ⟨⟨[115, 101, 108, 101, 99, 116, 32, 98, 44, 32, 99, 111, 117, 110, 116, 40, 42, 41, 32, 97, 115, 32, 110, 32, 102, 114, 111, 109, 32, 116, 32, 119, 104, 101, 114, 101, 32, 97, 32, 62, 32, 49, 32, 103, 114, 111, 117, 112, 32, 98, 121, 32, 98, 32, 104, 97, 118, 105, 110, 103, 32, 99, 111, 117, 110, 116, 40, 42, 41, 32, 62, 32, 50]⟩⟩)), .d (.v (.int .i64 (22)))]
def cr_Yt_17 : List R := [.agg [.v (.int .i64 (1)), .v (.string ⟨⟨[110]⟩⟩), .v (.int .i64 (22))], .d (.v (.int .i64 (23))), .d (.v (.bool true))]
theorem cut_Yt_17 (gl : Nat → Option Obj) : Ct prog gl 164 ca_Yt_17 (gives cr_Yt_17) :=
  ct_run (lib := cl_Yt_16) EX_Yt_ok (cl_Yt_16_ok gl) (fun _ _ _ h => h.elim) mixed fis_Yt_132_ok gw_Yt_1_ok 3000 (runsTo_sound (by kernel_rfl))
def cl_Yt_17 : XL := libAdd cl_Yt_16 164 ca_Yt_17 cr_Yt_17
theorem cl_Yt_17_ok (gl : Nat → Option Obj) : LibOk prog gl cl_Yt_17 := libAdd_ok (cl_Yt_16_ok gl) (cut_Yt_17 gl)
def ca_Yt_18 : List R := [.d (.v (.string ⟨⟨[115, 101, 108, 101, 99, 116, 32, 98, 44, 32, 99, 111, 117, 110, 116, 40, 42, 41, 32, 97, 115, 32, 110, 32, 102, 114, 111, 109, 32, 116, 32, 119, 104, 101, 114, 101, 32, 97, 32, 62, 32, 49, 32, 103, 114, 111, 117, 112, 32, 98, 121, 32, 98, 32, 104, 97, 118, 105, 110, 103, 32, 99, 111, 117, 110, 116, 40, 42, 41, 32, 62, 32, 50]⟩⟩)), .d (.v (.int .i64 (23)))]
def cr_Yt_18 : List R := [.d (.v (.int .i64 (24)))]
theorem cut_Yt_18 (gl : Nat → Option Obj) : Ct prog gl 163 ca_Yt_18 (gives cr_Yt_18) :=
  ct_run (lib := cl_Yt_17) EX_Yt_ok (cl_Yt_17_ok gl) (fun _ _ _ h => h.elim) mixed fis_Yt_132_ok gw_Yt_1_ok 3000 (runsTo_sound (by kernel_rfl))
def cl_Yt_18 : XL := libAdd cl_Yt_17 163 ca_Yt_18 cr_Yt_18
theorem cl_Yt_18_ok (gl : Nat → Option Obj) : LibOk prog gl cl_Yt_18 := libAdd_ok (cl_Yt_17_ok gl) (cut_Yt_18 gl)
def ca_Yt_19 : List R := [.d (.v (.string ⟨⟨[115, 101, 108, 101, 99, 116, 32, 98, 44, 32, 99, 111, 117, 110, 116, 40, 42, 41, 32, 97, 115, 32, 110, 32, 102, 114, 111, 109, 32, 116, 32, 119, 104, 101, 114, 101, 32, 97, 32, 62, 32, 49, 32, 103, 114, 111, 117, 112, 32, 98, 121, 32, 98, 32, 104, 97, 118, 105, 110, 103, 32, 99, 111, 117, 110, 116, 40, 42, 41, 32, 62, 32, 50]⟩⟩)), .d (.v (.int .i64 (24)))]
def cr_Yt_19 : List R := [.agg [.v (.int .i64 (1)), .v (.string ⟨⟨[102, 114, 111, 109]⟩⟩), .v (.int .i64 (24))], .d (.v (.int .i64 (28))), .d (.v (.bool true))]
theorem cut_Yt_19 (gl : Nat → Option Obj) : Ct prog gl 164 ca_Yt_19 (gives cr_Yt_19) :=
  ct_run (lib := cl_Yt_18) EX_Yt_ok (cl_Yt_18_ok gl) (fun _ _ _ h => h.elim) mixed fis_Yt_132_ok gw_Yt_1_ok 3000 (runsTo_sound (by kernel_rfl))
def cl_Yt_19 : XL := libAdd cl_Yt_18 164 ca_Yt_19 cr_Yt_19
theorem cl_Yt_19_ok (gl : Nat → Option Obj) : LibOk prog gl cl_Yt_19 := libAdd_ok (cl_Yt_18_ok gl) (cut_Yt_19 gl)
def ca_Yt_20 : List R := [.d (.v (.string ⟨⟨[115, 101, 108, 101, 99, 116, 32, 98, 44, 32, 99, 111, 117, 110, 116, 40, 42, 41, 32, 97, 115, 32, 110, 32, 102, 114, 111, 109, 32, 116, 32, 119, 104, 101, 114, 101, 32, 97, 32, 62, 32, 49, 32, 103, 114, 111, 117, 112, 32, 98, 121, 32, 98, 32, 104, 97, 118, 105, 110, 103, 32, 99, 111, 117, 110, 116, 40, 42, 41, 32, 62, 32, 50]⟩⟩)), .d (.v (.int .i64 (28)))]
def cr_Yt_20 : List R := [.d (.v (.int .i64 (29)))]
theorem cut_Yt_20 (gl : Nat → Option Obj) : Ct prog gl 163 ca_Yt_20 (gives cr_Yt_20) :=
  ct_run (lib := cl_Yt_19) EX_Yt_ok (cl_Yt_19_ok gl) (fun _ _ _ h => h.elim) mixed fis_Yt_132_ok gw_Yt_1_ok 3000 (runsTo_sound (by kernel_rfl))
def cl_Yt_20 : XL := libAdd cl_Yt_19 163 ca_Yt_20 cr_Yt_20
theorem cl_Yt_20_ok (gl : Nat → Option Obj) : LibOk prog gl cl_Yt_20 := libAdd_ok (cl_Yt_19_ok gl) (cut_Yt_20 gl)
def ca_Yt_21 : List R := [.d (.v (.string ⟨⟨[115, 101, 108, 101, 99, 116, 32, 98, 44, 32, 99, 111, 117, 110, 116, 40, 42, 41, 32, 97, 115, 32, 110, 32, 102, 114, 111, 109, 32, 116, 32, 119, 104, 101, 114, 101, 32, 97, 32, 62, 32, 49, 32, 103, 114, 111, 117, 112, 32, 98, 121, 32, 98, 32, 104, 97, 118, 105, 110, 103, 32, 99, 111, 117, 110, 116, 40, 42, 41, 32, 62, 32, 50]⟩⟩)), .d (.v (.int .i64 (29)))]
def cr_Yt_21 : List R := [.agg [.v (.int .i64 (1)), .v (.string ⟨⟨[116]⟩⟩), .v (.int .i64 (29))], .d (.v (.int .i64 (30))), .d (.v (.bool true))]
theorem cut_Yt_21 (gl : Nat → Option Obj) : Ct prog gl 164 ca_Yt_21 (gives cr_Yt_21) :=
  ct_run (lib := cl_Yt_20) EX_Yt_ok (cl_Yt_20_ok gl) (fun _ _ _ h => h.elim) mixed fis_Yt_132_ok gw_Yt_1_ok 3000 (runsTo_sound (by kernel_rfl))
def cl_Yt_21 : XL := libAdd cl_Yt_20 164 ca_Yt_21 cr_Yt_21
theorem cl_Yt_21_ok (gl : Nat → Option Obj) : LibOk prog gl cl_Yt_21 := libAdd_ok (cl_Yt_20_ok gl) (cut_Yt_21 gl)
def ca_Yt_22 : List R := [.d (.v (.string ⟨⟨[115, 101, 108, 101, 99, 116, 32, 98, 44, 32, 99, 111, 117, 110, 116, 40, 42, 41, 32, 97, 115, 32, 110, 32, 102, 114, 111, 109, 32, 116, 32, 119, 104, 101, 114, 101, 32, 97, 32, 62, 32, 49, 32, 103, 114, 111, 117, 112, 32, 98, 121, 32, 98, 32, 104, 97, 118, 105, 110, 103, 32, 99, 111, 117, 110, 116, 40, 42, 41, 32, 62, 32, 50]⟩⟩)), .d (.v (.int .i64 (30)))]
def cr_Yt_22 : List R := [.d (.v (.int .i64 (31)))]
theorem cut_Yt_22 (gl : Nat → Option Obj) : Ct prog gl 163 ca_Yt_22 (gives cr_Yt_22) :=
  ct_run (lib := cl_Yt_21) EX_Yt_ok (cl_Yt_21_ok gl) (fun _ _ _ h => h.elim) mixed fis_Yt_132_ok gw_Yt_1_ok 3000 (runsTo_sound (by kernel_rfl))
def cl_Yt_22 : XL := libAdd cl_Yt_21 163 ca_Yt_22 cr_Yt_22
theorem cl_Yt_22_ok (gl : Nat → Option Obj) : LibOk prog gl cl_Yt_22 := libAdd_ok (cl_Yt_21_ok gl) (cut_Yt_22 gl)
def ca_Yt_23 : List R := [.d (.v (.string ⟨⟨[115, 101, 108, 101, 99, 116, 32, 98, 44, 32, 99, 111, 117, 110, 116, 40, 42, 41, 32, 97, 115, 32, 110, 32, 102, 114, 111, 109, 32, 116, 32, 119, 104, 101, 114, 101, 32, 97, 32, 62, 32, 49, 32, 103, 114, 111, 117, 112, 32, 98, 121, 32, 98, 32, 104, 97, 118, 105, 110, 103, 32, 99, 111, 117, 110, 116, 40, 42, 41, 32, 62, 32, 50]⟩⟩)), .d (.v (.int .i64 (31)))]
def cr_Yt_23 : List R := [.agg [.v (.int .i64 (1)), .v (.string ⟨⟨[119, 104, 101, 114, 101]⟩⟩), .v (.int .i64 (31))], .d (.v (.int .i64 (36))), .d (.v (.bool true))]
theorem cut_Yt_23 (gl : Nat → Option Obj) : Ct prog gl 164 ca_Yt_23 (gives cr_Yt_23) :=
  ct_run (lib := cl_Yt_22) EX_Yt_ok (cl_Yt_22_ok gl) (fun _ _ _ h => h.elim) mixed fis_Yt_132_ok gw_Yt_1_ok 3000 (runsTo_sound (by kernel_rfl))
def cl_Yt_23 : XL := libAdd cl_Yt_22 164 ca_Yt_23 cr_Yt_23
theorem cl_Yt_23_ok (gl : Nat → Option Obj) : LibOk prog gl cl_Yt_23 := libAdd_ok (cl_Yt_22_ok gl) (cut_Yt_23 gl)
def ca_Yt_24 : List R := [.d (.v (.string ⟨⟨[115, 101, 108, 101, 99, 116, 32, 98, 44, 32, 99, 111, 117, 110, 116, 40, 42, 41, 32, 97, 115, 32, 110, 32, 102, 114, 111, 109, 32, 116, 32, 119, 104, 101, 114, 101, 32, 97, 32, 62, 32, 49, 32, 103, 114, 111, 117, 112, 32, 98, 121, 32, 98, 32, 104, 97, 118, 105, 110, 103, 32, 99, 111, 117, 110, 116, 40, 42, 41, 32, 62, 32, 50]⟩⟩)), .d (.v (.int .i64 (36)))]
def cr_Yt_24 : List R := [.d (.v (.int .i64 (37)))]
theorem cut_Yt_24 (gl : Nat → Option Obj) : Ct prog gl 163 ca_Yt_24 (gives cr_Yt_24) :=
  ct_run (lib := cl_Yt_23) EX_Yt_ok (cl_Yt_23_ok gl) (fun _ _ _ h => h.elim) mixed fis_Yt_132_ok gw_Yt_1_ok 3000 (runsTo_sound (by kernel_rfl))
def cl_Yt_24 : XL := libAdd cl_Yt_23 163 ca_Yt_24 cr_Yt_24
theorem cl_Yt_24_ok (gl : Nat → Option Obj) : LibOk prog gl cl_Yt_24 := libAdd_ok (cl_Yt_23_ok gl) (cut_Yt_24 gl)
def ca_Yt_25 : List R := [.d (.v (.string ⟨⟨[115, 101, 108, 101, 99, 116, 32, 98, 44, 32, 99, 111, 117, 110, 116, 40, 42, 41, 32, 97, 115, 32, 110, 32, 102, 114, 111, 109, 32, 116, 32, 119, 104, 101, 114, 101, 32, 97, 32, 62, 32, 49, 32, 103, 114, 111, 117, 112, 32, 98, 121, 32, 98, 32, 104, 97, 118, 105, 110, 103, 32, 99, 111, 117, 110, 116, 40, 42, 41, 32, 62, 32, 50]⟩⟩)), .d (.v (.int .i64 (37)))]
def cr_Yt_25 : List R := [.agg [.v (.int .i64 (1)), .v (.string ⟨⟨[97]⟩⟩), .v (.int .i64 (37))], .d (.v (.int .i64 (38))), .d (.v (.bool true))]
theorem cut_Yt_25 (gl : Nat → Option Obj) : Ct prog gl 164 ca_Yt_25 (gives cr_Yt_25) :=
  ct_run (lib := cl_Yt_24) EX_Yt_ok (cl_Yt_24_ok gl) (fun _ _ _ h => h.elim) mixed fis_Yt_132_ok gw_Yt_1_ok 3000 (runsTo_sound (by kernel_rfl))
def cl_Yt_25 : XL := libAdd cl_Yt_24 164 ca_Yt_25 cr_Yt_25
theorem cl_Yt_25_ok (gl : Nat → Option Obj) : LibOk prog gl cl_Yt_25 := libAdd_ok (cl_Yt_24_ok gl) (cut_Yt_25 gl)
def ca_Yt_26 : List R := [.d (.v (.string ⟨⟨[115, 101, 108, 101, 99, 116, 32, 98, 44, 32, 99, 111, 117, 110, 116, 40, 42, 41, 32, 97, 115, 32, 110, 32, 102, 114, 111, 109, 32, 116, 32, 119, 104, 101, 114, 101, 32, 97, 32, 62, 32, 49, 32, 103, 114, 111, 117, 112, 32, 98, 121, 32, 98, 32, 104, 97, 118, 105, 110, 103, 32, 99, 111, 117, 110, 116, 40, 42, 41, 32, 62, 32, 50]⟩⟩)), .d (.v (.int .i64 (38)))]
def cr_Yt_26 : List R := [.d (.v (.int .i64 (39)))]
theorem cut_Yt_26 (gl : Nat → Option Obj) : Ct prog gl 163 ca_Yt_26 (gives cr_Yt_26) :=
  ct_run (lib := cl_Yt_25) EX_Yt_ok (cl_Yt_25_ok gl) (fun _ _ _ h => h.elim) mixed fis_Yt_132_ok gw_Yt_1_ok 3000 (runsTo_sound (by kernel_rfl))
def cl_Yt_26 : XL := libAdd cl_Yt_25 163 ca_Yt_26 cr_Yt_26
theorem cl_Yt_26_ok (gl : Nat → Option Obj) : LibOk prog gl cl_Yt_26 := libAdd_ok (cl_Yt_25_ok gl) (cut_Yt_26 gl)
def ca_Yt_27 : List R := [.d (.v (.string ⟨⟨[115, 101, 108, 101, 99, 116, 32, 98, 44, 32, 99, 111, 117, 110, 116, 40, 42, 41, 32, 97, 115, 32, 110, 32, 102, 114, 111, 109, 32, 116, 32, 119, 104, 101, 114, 101, 32, 97, 32, 62, 32, 49, 32, 103, 114, 111, 117, 112, 32, 98, 121, 32, 98, 32, 104, 97, 118, 105, 110, 103, 32, 99, 111, 117, 110, 116, 40, 42, 41, 32, 62, 32, 50]⟩⟩)), .d (.v (.int .i64 (39)))]
def cr_Yt_27 : List R := [.agg [.v (.int .i64 (4)), .v (.string ⟨⟨[62]⟩⟩), .v (.int .i64 (39))], .d (.v (.int .i64 (40))), .d (.v (.bool true))]
theorem cut_Yt_27 (gl : Nat → Option Obj) : Ct prog gl 164 ca_Yt_27 (gives cr_Yt_27) :=
  ct_run (lib := cl_Yt_26) EX_Yt_ok (cl_Yt_26_ok gl) (fun _ _ _ h => h.elim) mixed fis_Yt_132_ok gw_Yt_1_ok 3000 (runsTo_sound (by kernel_rfl))
def cl_Yt_27 : XL := libAdd cl_Yt_26 164 ca_Yt_27 cr_Yt_27
theorem cl_Yt_27_ok (gl : Nat → Option Obj) : LibOk prog gl cl_Yt_27 := libAdd_ok (cl_Yt_26_ok gl) (cut_Yt_27 gl)
def ca_Yt_28 : List R := [.d (.v (.string ⟨⟨[115, 101, 108, 101, 99, 116, 32, 98, 44, 32, 99, 111, 117, 110, 116, 40, 42, 41, 32, 97, 115, 32, 110, 32, 102, 114, 111, 109, 32, 116, 32, 119, 104, 101, 114, 101, 32, 97, 32, 62, 32, 49, 32, 103, 114, 111, 117, 112, 32, 98, 121, 32, 98, 32, 104, 97, 118, 105, 110, 103, 32, 99, 111, 117, 110, 116, 40, 42, 41, 32, 62, 32, 50]⟩⟩)), .d (.v (.int .i64 (40)))]
def cr_Yt_28 : List R := [.d (.v (.int .i64 (41)))]
theorem cut_Yt_28 (gl : Nat → Option Obj) : Ct prog gl 163 ca_Yt_28 (gives cr_Yt_28) :=
  ct_run (lib := cl_Yt_27) EX_Yt_ok (cl_Yt_27_ok gl) (fun _ _ _ h => h.elim) mixed fis_Yt_132_ok gw_Yt_1_ok 3000 (runsTo_sound (by kernel_rfl))
def cl_Yt_28 : XL := libAdd cl_Yt_27 163 ca_Yt_28 cr_Yt_28
theorem cl_Yt_28_ok (gl : Nat → Option Obj) : LibOk prog gl cl_Yt_28 := libAdd_ok (cl_Yt_27_ok gl) (cut_Yt_28 gl)
def ca_Yt_29 : List R := [.d (.v (.string ⟨⟨[115, 101, 108, 101, 99, 116, 32, 98, 44, 32, 99, 111, 117, 110, 116, 40, 42, 41, 32, 97, 115, 32, 110, 32, 102, 114, 111, 109, 32, 116, 32, 119, 104, 101, 114, 101, 32, 97, 32, 62, 32, 49, 32, 103, 114, 111, 117, 112, 32, 98, 121, 32, 98, 32, 104, 97, 118, 105, 110, 103, 32, 99, 111, 117, 110, 116, 40, 42, 41, 32, 62, 32, 50]⟩⟩)), .d (.v (.int .i64 (42)))]
def cr_Yt_29 : List R := [.d (.v (.int .u8 (32)))]
theorem cut_Yt_29 (gl : Nat → Option Obj) : Ct prog gl 221 ca_Yt_29 (gives cr_Yt_29) :=
  ct_run (lib := cl_Yt_28) EX_Yt_ok (cl_Yt_28_ok gl) (fun _ _ _ h => h.elim) mixed fis_Yt_132_ok gw_Yt_1_ok 3000 (runsTo_sound (by kernel_rfl))
def cl_Yt_29 : XL := libAdd cl_Yt_28 221 ca_Yt_29 cr_Yt_29
theorem cl_Yt_29_ok (gl : Nat → Option Obj) : LibOk prog gl cl_Yt_29 := libAdd_ok (cl_Yt_28_ok gl) (cut_Yt_29 gl)
def ca_Yt_30 : List R := [.d (.v (.string ⟨⟨[115, 101, 108, 101, 99, 116, 32, 98, 44, 32, 99, 111, 117, 110, 116, 40, 42, 41, 32, 97, 115, 32, 110, 32, 102, 114, 111, 109, 32, 116, 32, 119, 104, 101, 114, 101, 32, 97, 32, 62, 32, 49, 32, 103, 114, 111, 117, 112, 32, 98, 121, 32, 98, 32, 104, 97, 118, 105, 110, 103, 32, 99, 111, 117, 110, 116, 40, 42, 41, 32, 62, 32, 50]⟩⟩)), .d (.v (.int .i64 (41)))]
def cr_Yt_30 : List R := [.agg [.v (.int .i64 (2)), .v (.string ⟨⟨[49]⟩⟩), .v (.int .i64 (41))], .d (.v (.int .i64 (42))), .d (.v (.bool true))]
theorem cut_Yt_30 (gl : Nat → Option Obj) : Ct prog gl 164 ca_Yt_30 (gives cr_Yt_30) :=
  ct_run (lib := cl_Yt_29) EX_Yt_ok (cl_Yt_29_ok gl) (fun _ _ _ h => h.elim) mixed fis_Yt_132_ok gw_Yt_1_ok 3000 (runsTo_sound (by kernel_rfl))
def cl_Yt_30 : XL := libAdd cl_Yt_29 164 ca_Yt_30 cr_Yt_30
theorem cl_Yt_30_ok (gl : Nat → Option Obj) : LibOk prog gl cl_Yt_30 := libAdd_ok (cl_Yt_29_ok gl) (cut_Yt_30 gl)
def ca_Yt_31 : List R := [.d (.v (.string ⟨⟨[115, 101, 108, 101, 99, 116, 32, 98, 44, 32, 99, 111, 117, 110, 116, 40, 42, 41, 32, 97, 115, 32, 110, 32, 102, 114, 111, 109, 32, 116, 32, 119, 104, 101, 114, 101, 32, 97, 32, 62, 32, 49, 32, 103, 114, 111, 117, 112, 32, 98, 121, 32, 98, 32, 104, 97, 118, 105, 110, 103, 32, 99, 111, 117, 110, 116, 40, 42, 41, 32, 62, 32, 50]⟩⟩)), .d (.v (.int .i64 (42)))]
def cr_Yt_31 : List R := [.d (.v (.int .i64 (43)))]
theorem cut_Yt_31 (gl : Nat → Option Obj) : Ct prog gl 163 ca_Yt_31 (gives cr_Yt_31) :=
  ct_run (lib := cl_Yt_30) EX_Yt_ok (cl_Yt_30_ok gl) (fun _ _ _ h => h.elim) mixed fis_Yt_132_ok gw_Yt_1_ok 3000 (runsTo_sound (by kernel_rfl))
def cl_Yt_31 : XL := libAdd cl_Yt_30 163 ca_Yt_31 cr_Yt_31
theorem cl_Yt_31_ok (gl : Nat → Option Obj) : LibOk prog gl cl_Yt_31 := libAdd_ok (cl_Yt_30_ok gl) (cut_Yt_31 gl)
def ca_Yt_32 : List R := [.d (.v (.string ⟨⟨[115, 101, 108, 101, 99, 116, 32, 98, 44, 32, 99, 111, 117, 110, 116, 40, 42, 41, 32, 97, 115, 32, 110, 32, 102, 114, 111, 109, 32, 116, 32, 119, 104, 101, 114, 101, 32, 97, 32, 62, 32, 49, 32, 103, 114, 111, 117, 112, 32, 98, 121, 32, 98, 32, 104, 97, 118, 105, 110, 103, 32, 99, 111, 117, 110, 116, 40, 42, 41, 32, 62, 32, 50]⟩⟩)), .d (.v (.int .i64 (43)))]
def cr_Yt_32 : List R := [.agg [.v (.int .i64 (1)), .v (.string ⟨⟨[103, 114, 111, 117, 112]⟩⟩), .v (.int .i64 (43))], .d (.v (.int .i64 (48))), .d (.v (.bool true))]
theorem cut_Yt_32 (gl : Nat → Option Obj) : Ct prog gl 164 ca_Yt_32 (gives cr_Yt_32) :=
  ct_run (lib := cl_Yt_31) EX_Yt_ok (cl_Yt_31_ok gl) (fun _ _ _ h => h.elim) mixed fis_Yt_132_ok gw_Yt_1_ok 3000 (runsTo_sound (by kernel_rfl))
def cl_Yt_32 : XL := libAdd cl_Yt_31 164 ca_Yt_32 cr_Yt_32
theorem cl_Yt_32_ok (gl : Nat → Option Obj) : LibOk prog gl cl_Yt_32 := libAdd_ok (cl_Yt_31_ok gl) (cut_Yt_32 gl)
def ca_Yt_33 : List R := [.d (.v (.string ⟨⟨[115, 101, 108, 101, 99, 116, 32, 98, 44, 32, 99, 111, 117, 110, 116, 40, 42, 41, 32, 97, 115, 32, 110, 32, 102, 114, 111, 109, 32, 116, 32, 119, 104, 101, 114, 101, 32, 97, 32, 62, 32, 49, 32, 103, 114, 111, 117, 112, 32, 98, 121, 32, 98, 32, 104, 97, 118, 105, 110, 103, 32, 99, 111, 117, 110, 116, 40, 42, 41, 32, 62, 32, 50]⟩⟩)), .d (.v (.int .i64 (48)))]
def cr_Yt_33 : List R := [.d (.v (.int .i64 (49)))]
theorem cut_Yt_33 (gl : Nat → Option Obj) : Ct prog gl 163 ca_Yt_33 (gives cr_Yt_33) :=
  ct_run (lib := cl_Yt_32) EX_Yt_ok (cl_Yt_32_ok gl) (fun _ _ _ h => h.elim) mixed fis_Yt_132_ok gw_Yt_1_ok 3000 (runsTo_sound (by kernel_rfl))
def cl_Yt_33 : XL := libAdd cl_Yt_32 163 ca_Yt_33 cr_Yt_33
theorem cl_Yt_33_ok (gl : Nat → Option Obj) : LibOk prog gl cl_Yt_33 := libAdd_ok (cl_Yt_32_ok gl) (cut_Yt_33 gl)
def ca_Yt_34 : List R := [.d (.v (.string ⟨⟨[115, 101, 108, 101, 99, 116, 32, 98, 44, 32, 99, 111, 117, 110, 116, 40, 42, 41, 32, 97, 115, 32, 110, 32, 102, 114, 111, 109, 32, 116, 32, 119, 104, 101, 114, 101, 32, 97, 32, 62, 32, 49, 32, 103, 114, 111, 117, 112, 32, 98, 121, 32, 98, 32, 104, 97, 118, 105, 110, 103, 32, 99, 111, 117, 110, 116, 40, 42, 41, 32, 62, 32, 50]⟩⟩)), .d (.v (.int .i64 (49)))]
def cr_Yt_34 : List R := [.agg [.v (.int .i64 (1)), .v (.string ⟨⟨[98, 121]⟩⟩), .v (.int .i64 (49))], .d (.v (.int .i64 (51))), .d (.v (.bool true))]
theorem cut_Yt_34 (gl : Nat → Option Obj) : Ct prog gl 164 ca_Yt_34 (gives cr_Yt_34) :=
  ct_run (lib := cl_Yt_33) EX_Yt_ok (cl_Yt_33_ok gl) (fun _ _ _ h => h.elim) mixed fis_Yt_132_ok gw_Yt_1_ok 3000 (runsTo_sound (by kernel_rfl))
def cl_Yt_34 : XL := libAdd cl_Yt_33 164 ca_Yt_34 cr_Yt_34
theorem cl_Yt_34_ok (gl : Nat → Option Obj) : LibOk prog gl cl_Yt_34 := libAdd_ok (cl_Yt_33_ok gl) (cut_Yt_34 gl)
def ca_Yt_35 : List R := [.d (.v (.string ⟨⟨[115, 101, 108, 101, 99, 116, 32, 98, 44, 32, 99, 111, 117, 110, 116, 40, 42, 41, 32, 97, 115, 32, 110, 32, 102, 114, 111, 109, 32, 116, 32, 119, 104, 101, 114, 101, 32, 97, 32, 62, 32, 49, 32, 103, 114, 111, 117, 112, 32, 98, 121, 32, 98, 32, 104, 97, 118, 105, 110, 103, 32, 99, 111, 117, 110, 116, 40, 42, 41, 32, 62, 32, 50]⟩⟩)), .d (.v (.int .i64 (51)))]
def cr_Yt_35 : List R := [.d (.v (.int .i64 (52)))]
theorem cut_Yt_35 (gl : Nat → Option Obj) : Ct prog gl 163 ca_Yt_35 (gives cr_Yt_35) :=
  ct_run (lib := cl_Yt_34) EX_Yt_ok (cl_Yt_34_ok gl) (fun _ _ _ h => h.elim) mixed fis_Yt_132_ok gw_Yt_1_ok 3000 (runsTo_sound (by kernel_rfl))
def cl_Yt_35 : XL := libAdd cl_Yt_34 163 ca_Yt_35 cr_Yt_35
theorem cl_Yt_35_ok (gl : Nat → Option Obj) : LibOk prog gl cl_Yt_35 := libAdd_ok (cl_Yt_34_ok gl) (cut_Yt_35 gl)
def ca_Yt_36 : List R := [.d (.v (.string ⟨⟨[115, 101, 108, 101, 99, 116, 32, 98, 44, 32, 99, 111, 117, 110, 116, 40, 42, 41, 32, 97, 115, 32, 110, 32, 102, 114, 111, 109, 32, 116, 32, 119, 104, 101, 114, 101, 32, 97, 32, 62, 32, 49, 32, 103, 114, 111, 117, 112, 32, 98, 121, 32, 98, 32, 104, 97, 118, 105, 110, 103, 32, 99, 111, 117, 110, 116, 40, 42, 41, 32, 62, 32, 50]⟩⟩)), .d (.v (.int .i64 (52)))]
def cr_Yt_36 : List R := [.agg [.v (.int .i64 (1)), .v (.string ⟨⟨[98]⟩⟩), .v (.int .i64 (52))], .d (.v (.int .i64 (53))), .d (.v (.bool true))]
theorem cut_Yt_36 (gl : Nat → Option Obj) : Ct prog gl 164 ca_Yt_36 (gives cr_Yt_36) :=
  ct_run (lib := cl_Yt_35) EX_Yt_ok (cl_Yt_35_ok gl) (fun _ _ _ h => h.elim) mixed fis_Yt_132_ok gw_Yt_1_ok 3000 (runsTo_sound (by kernel_rfl))
def cl_Yt_36 : XL := libAdd cl_Yt_35 164 ca_Yt_36 cr_Yt_36
theorem cl_Yt_36_ok (gl : Nat → Option Obj) : LibOk prog gl cl_Yt_36 := libAdd_ok (cl_Yt_35_ok gl) (cut_Yt_36 gl)
def ca_Yt_37 : List R := [.d (.v (.string ⟨⟨[115, 101, 108, 101, 99, 116, 32, 98, 44, 32, 99, 111, 117, 110, 116, 40, 42, 41, 32, 97, 115, 32, 110, 32, 102, 114, 111, 109, 32, 116, 32, 119, 104, 101, 114, 101, 32, 97, 32, 62, 32, 49, 32, 103, 114, 111, 117, 112, 32, 98, 121, 32, 98, 32, 104, 97, 118, 105, 110, 103, 32, 99, 111, 117, 110, 116, 40, 42, 41, 32, 62, 32, 50]⟩⟩)), .d (.v (.int .i64 (53)))]
def cr_Yt_37 : List R := [.d (.v (.int .i64 (54)))]
theorem cut_Yt_37 (gl : Nat → Option Obj) : Ct prog gl 163 ca_Yt_37 (gives cr_Yt_37) :=
  ct_run (lib := cl_Yt_36) EX_Yt_ok (cl_Yt_36_ok gl) (fun _ _ _ h => h.elim) mixed fis_Yt_132_ok gw_Yt_1_ok 3000 (runsTo_sound (by kernel_rfl))
def cl_Yt_37 : XL := libAdd cl_Yt_36 163 ca_Yt_37 cr_Yt_37
theorem cl_Yt_37_ok (gl : Nat → Option Obj) : LibOk prog gl cl_Yt_37 := libAdd_ok (cl_Yt_36_ok gl) (cut_Yt_37 gl)
def ca_Yt_38 : List R := [.d (.v (.string ⟨⟨[115, 101, 108, 101, 99, 116, 32, 98, 44, 32, 99, 111, 117, 110, 116, 40, 42, 41, 32, 97, 115, 32, 110, 32, 102, 114, 111, 109, 32, 116, 32, 119, 104, 101, 114, 101, 32, 97, 32, 62, 32, 49, 32, 103, 114, 111, 117, 112, 32, 98, 121, 32, 98, 32, 104, 97, 118, 105, 110, 103, 32, 99, 111, 117, 110, 116, 40, 42, 41, 32, 62, 32, 50]⟩⟩)), .d (.v (.int .i64 (54)))]
def cr_Yt_38 : List R := [.agg [.v (.int .i64 (1)), .v (.string ⟨⟨[104, 97, 118, 105, 110, 103]⟩⟩), .v (.int .i64 (54))], .d (.v (.int .i64 (60))), .d (.v (.bool true))]
theorem cut_Yt_38 (gl : Nat → Option Obj) : Ct prog gl 164 ca_Yt_38 (gives cr_Yt_38) :=
  ct_run (lib := cl_Yt_37) EX_Yt_ok (cl_Yt_37_ok gl) (fun _ _ _ h => h.elim) mixed fis_Yt_132_ok gw_Yt_1_ok 3000 (runsTo_sound (by kernel_rfl))
def cl_Yt_38 : XL := libAdd cl_Yt_37 164 ca_Yt_38 cr_Yt_38
theorem cl_Yt_38_ok (gl : Nat → Option Obj) : LibOk prog gl cl_Yt_38 := libAdd_ok (cl_Yt_37_ok gl) (cut_Yt_38 gl)
def ca_Yt_39 : List R := [.d (.v (.string ⟨⟨[115, 101, 108, 101, 99, 116, 32, 98, 44, 32, 99, 111, 117, 110, 116, 40, 42, 41, 32, 97, 115, 32, 110, 32, 102, 114, 111, 109, 32, 116, 32, 119, 104, 101, 114, 101, 32, 97, 32, 62, 32, 49, 32, 103, 114, 111, 117, 112, 32, 98, 121, 32, 98, 32, 104, 97, 118, 105, 110, 103, 32, 99, 111, 117, 110, 116, 40, 42, 41, 32, 62, 32, 50]⟩⟩)), .d (.v (.int .i64 (60)))]
def cr_Yt_39 : List R := [.d (.v (.int .i64 (61)))]
theorem cut_Yt_39 (gl : Nat → Option Obj) : Ct prog gl 163 ca_Yt_39 (gives cr_Yt_39) :=
  ct_run (lib := cl_Yt_38) EX_Yt_ok (cl_Yt_38_ok gl) (fun _ _ _ h => h.elim) mixed fis_Yt_132_ok gw_Yt_1_ok 3000 (runsTo_sound (by kernel_rfl))
def cl_Yt_39 : XL := libAdd cl_Yt_38 163 ca_Yt_39 cr_Yt_39
theorem cl_Yt_39_ok (gl : Nat → Option Obj) : LibOk prog gl cl_Yt_39 := libAdd_ok (cl_Yt_38_ok gl) (cut_Yt_39 gl)
def ca_Yt_40 : List R := [.d (.v (.string ⟨⟨[115, 101, 108, 101, 99, 116, 32, 98, 44, 32, 99, 111, 117, 110, 116, 40, 42, 41, 32, 97, 115, 32, 110, 32, 102, 114, 111, 109, 32, 116, 32, 119, 104, 101, 114, 101, 32, 97, 32, 62, 32, 49, 32, 103, 114, 111, 117, 112, 32, 98, 121, 32, 98, 32, 104, 97, 118, 105, 110, 103, 32, 99, 111, 117, 110, 116, 40, 42, 41, 32, 62, 32, 50]⟩⟩)), .d (.v (.int .i64 (61)))]
def cr_Yt_40 : List R := [.agg [.v (.int .i64 (1)), .v (.string ⟨⟨[99, 111, 117, 110, 116]⟩⟩), .v (.int .i64 (61))], .d (.v (.int .i64 (66))), .d (.v (.bool true))]
theorem cut_Yt_40 (gl : Nat → Option Obj) : Ct prog gl 164 ca_Yt_40 (gives cr_Yt_40) :=
  ct_run (lib := cl_Yt_39) EX_Yt_ok (cl_Yt_39_ok gl) (fun _ _ _ h => h.elim) mixed fis_Yt_132_ok gw_Yt_1_ok 3000 (runsTo_sound (by kernel_rfl))
def cl_Yt_40 : XL := libAdd cl_Yt_39 164 ca_Yt_40 cr_Yt_40
theorem cl_Yt_40_ok (gl : Nat → Option Obj) : LibOk prog gl cl_Yt_40 := libAdd_ok (cl_Yt_39_ok gl) (cut_Yt_40 gl)
def ca_Yt_41 : List R := [.d (.v (.string ⟨⟨[115, 101, 108, 101, 99, 116, 32, 98, 44, 32, 99, 111, 117, 110, 116, 40, 42, 41, 32, 97, 115, 32, 110, 32, 102, 114, 111, 109, 32, 116, 32, 119, 104, 101, 114, 101, 32, 97, 32, 62, 32, 49, 32, 103, 114, 111, 117, 112, 32, 98, 121, 32, 98, 32, 104, 97, 118, 105, 110, 103, 32, 99, 111, 117, 110, 116, 40, 42, 41, 32, 62, 32, 50]⟩⟩)), .d (.v (.int .i64 (66)))]
def cr_Yt_41 : List R := [.d (.v (.int .i64 (66)))]
theorem cut_Yt_41 (gl : Nat → Option Obj) : Ct prog gl 163 ca_Yt_41 (gives cr_Yt_41) :=
  ct_run (lib := cl_Yt_40) EX_Yt_ok (cl_Yt_40_ok gl) (fun _ _ _ h => h.elim) mixed fis_Yt_132_ok gw_Yt_1_ok 3000 (runsTo_sound (by kernel_rfl))
def cl_Yt_41 : XL := libAdd cl_Yt_40 163 ca_Yt_41 cr_Yt_41
theorem cl_Yt_41_ok (gl : Nat → Option Obj) : LibOk prog gl cl_Yt_41 := libAdd_ok (cl_Yt_40_ok gl) (cut_Yt_41 gl)
def ca_Yt_42 : List R := [.d (.v (.string ⟨⟨[115, 101, 108, 101, 99, 116, 32, 98, 44, 32, 99, 111, 117, 110, 116, 40, 42, 41, 32, 97, 115, 32, 110, 32, 102, 114, 111, 109, 32, 116, 32, 119, 104, 101, 114, 101, 32, 97, 32, 62, 32, 49, 32, 103, 114, 111, 117, 112, 32, 98, 121, 32, 98, 32, 104, 97, 118, 105, 110, 103, 32, 99, 111, 117, 110, 116, 40, 42, 41, 32, 62, 32, 50]⟩⟩)), .d (.v (.int .i64 (66)))]
def cr_Yt_42 : List R := [.agg [.v (.int .i64 (4)), .v (.string ⟨⟨[40]⟩⟩), .v (.int .i64 (66))], .d (.v (.int .i64 (67))), .d (.v (.bool true))]
theorem cut_Yt_42 (gl : Nat → Option Obj) : Ct prog gl 164 ca_Yt_42 (gives cr_Yt_42) :=
  ct_run (lib := cl_Yt_41) EX_Yt_ok (cl_Yt_41_ok gl) (fun _ _ _ h => h.elim) mixed fis_Yt_132_ok gw_Yt_1_ok 3000 (runsTo_sound (by kernel_rfl))
def cl_Yt_42 : XL := libAdd cl_Yt_41 164 ca_Yt_42 cr_Yt_42
theorem cl_Yt_42_ok (gl : Nat → Option Obj) : LibOk prog gl cl_Yt_42 := libAdd_ok (cl_Yt_41_ok gl) (cut_Yt_42 gl)
def ca_Yt_43 : List R := [.d (.v (.string ⟨⟨[115, 101, 108, 101, 99, 116, 32, 98, 44, 32, 99, 111, 117, 110, 116, 40, 42, 41, 32, 97, 115, 32, 110, 32, 102, 114, 111, 109, 32, 116, 32, 119, 104, 101, 114, 101, 32, 97, 32, 62, 32, 49, 32, 103, 114, 111, 117, 112, 32, 98, 121, 32, 98, 32, 104, 97, 118, 105, 110, 103, 32, 99, 111, 117, 110, 116, 40, 42, 41, 32, 62, 32, 50]⟩⟩)), .d (.v (.int .i64 (67)))]
def cr_Yt_43 : List R := [.d (.v (.int .i64 (67)))]
theorem cut_Yt_43 (gl : Nat → Option Obj) : Ct prog gl 163 ca_Yt_43 (gives cr_Yt_43) :=
  ct_run (lib := cl_Yt_42) EX_Yt_ok (cl_Yt_42_ok gl) (fun _ _ _ h => h.elim) mixed fis_Yt_132_ok gw_Yt_1_ok 3000 (runsTo_sound (by kernel_rfl))
def cl_Yt_43 : XL := libAdd cl_Yt_42 163 ca_Yt_43 cr_Yt_43
theorem cl_Yt_43_ok (gl : Nat → Option Obj) : LibOk prog gl cl_Yt_43 := libAdd_ok (cl_Yt_42_ok gl) (cut_Yt_43 gl)
def ca_Yt_44 : List R := [.d (.v (.string ⟨⟨[115, 101, 108, 101, 99, 116, 32, 98, 44, 32, 99, 111, 117, 110, 116, 40, 42, 41, 32, 97, 115, 32, 110, 32, 102, 114, 111, 109, 32, 116, 32, 119, 104, 101, 114, 101, 32, 97, 32, 62, 32, 49, 32, 103, 114, 111, 117, 112, 32, 98, 121, 32, 98, 32, 104, 97, 118, 105, 110, 103, 32, 99, 111, 117, 110, 116, 40, 42, 41, 32, 62, 32, 50]⟩⟩)), .d (.v (.int .i64 (67)))]
def cr_Yt_44 : List R := [.agg [.v (.int .i64 (4)), .v (.string ⟨⟨[42]⟩⟩), .v (.int .i64 (67))], .d (.v (.int .i64 (68))), .d (.v (.bool true))]
theorem cut_Yt_44 (gl : Nat → Option Obj) : Ct prog gl 164 ca_Yt_44 (gives cr_Yt_44) :=
  ct_run (lib := cl_Yt_43) EX_Yt_ok (cl_Yt_43_ok gl) (fun _ _ _ h => h.elim) mixed fis_Yt_132_ok gw_Yt_1_ok 3000 (runsTo_sound (by kernel_rfl))
def cl_Yt_44 : XL := libAdd cl_Yt_43 164 ca_Yt_44 cr_Yt_44
theorem cl_Yt_44_ok (gl : Nat → Option Obj) : LibOk prog gl cl_Yt_44 := libAdd_ok (cl_Yt_43_ok gl) (cut_Yt_44 gl)
def ca_Yt_45 : List R := [.d (.v (.string ⟨⟨[115, 101, 108, 101, 99, 116, 32, 98, 44, 32, 99, 111, 117, 110, 116, 40, 42, 41, 32, 97, 115, 32, 110, 32, 102, 114, 111, 109, 32, 116, 32, 119, 104, 101, 114, 101, 32, 97, 32, 62, 32, 49, 32, 103, 114, 111, 117, 112, 32, 98, 121, 32, 98, 32, 104, 97, 118, 105, 110, 103, 32, 99, 111, 117, 110, 116, 40, 42, 41, 32, 62, 32, 50]⟩⟩)), .d (.v (.int .i64 (68)))]
def cr_Yt_45 : List R := [.d (.v (.int .i64 (68)))]
theorem cut_Yt_45 (gl : Nat → Option Obj) : Ct prog gl 163 ca_Yt_45 (gives cr_Yt_45) :=
  ct_run (lib := cl_Yt_44) EX_Yt_ok (cl_Yt_44_ok gl) (fun _ _ _ h => h.elim) mixed fis_Yt_132_ok gw_Yt_1_ok 3000 (runsTo_sound (by kernel_rfl))
def cl_Yt_45 : XL := libAdd cl_Yt_44 163 ca_Yt_45 cr_Yt_45
theorem cl_Yt_45_ok (gl : Nat → Option Obj) : LibOk prog gl cl_Yt_45 := libAdd_ok (cl_Yt_44_ok gl) (cut_Yt_45 gl)
def ca_Yt_46 : List R := [.d (.v (.string ⟨⟨[115, 101, 108, 101, 99, 116, 32, 98, 44, 32, 99, 111, 117, 110, 116, 40, 42, 41, 32, 97, 115, 32, 110, 32, 102, 114, 111, 109, 32, 116, 32, 119, 104, 101, 114, 101, 32, 97, 32, 62, 32, 49, 32, 103, 114, 111, 117, 112, 32, 98, 121, 32, 98, 32, 104, 97, 118, 105, 110, 103, 32, 99, 111, 117, 110, 116, 40, 42, 41, 32, 62, 32, 50]⟩⟩)), .d (.v (.int .i64 (68)))]
def cr_Yt_46 : List R := [.agg [.v (.int .i64 (4)), .v (.string ⟨⟨[41]⟩⟩), .v (.int .i64 (68))], .d (.v (.int .i64 (69))), .d (.v (.bool true))]
theorem cut_Yt_46 (gl : Nat → Option Obj) : Ct prog gl 164 ca_Yt_46 (gives cr_Yt_46) :=
  ct_run (lib := cl_Yt_45) EX_Yt_ok (cl_Yt_45_ok gl) (fun _ _ _ h => h.elim) mixed fis_Yt_132_ok gw_Yt_1_ok 3000 (runsTo_sound (by kernel_rfl))
def cl_Yt_46 : XL := libAdd cl_Yt_45 164 ca_Yt_46 cr_Yt_46
theorem cl_Yt_46_ok (gl : Nat → Option Obj) : LibOk prog gl cl_Yt_46 := libAdd_ok (cl_Yt_45_ok gl) (cut_Yt_46 gl)
def ca_Yt_47 : List R := [.d (.v (.string ⟨⟨[115, 101, 108, 101, 99, 116, 32, 98, 44, 32, 99, 111, 117, 110, 116, 40, 42, 41, 32, 97, 115, 32, 110, 32, 102, 114, 111, 109, 32, 116, 32, 119, 104, 101, 114, 101, 32, 97, 32, 62, 32, 49, 32, 103, 114, 111, 117, 112, 32, 98, 121, 32, 98, 32, 104, 97, 118, 105, 110, 103, 32, 99, 111, 117, 110, 116, 40, 42, 41, 32, 62, 32, 50]⟩⟩)), .d (.v (.int .i64 (69)))]
def cr_Yt_47 : List R := [.d (.v (.int .i64 (70)))]
theorem cut_Yt_47 (gl : Nat → Option Obj) : Ct prog gl 163 ca_Yt_47 (gives cr_Yt_47) :=
  ct_run (lib := cl_Yt_46) EX_Yt_ok (cl_Yt_46_ok gl) (fun _ _ _ h => h.elim) mixed fis_Yt_132_ok gw_Yt_1_ok 3000 (runsTo_sound (by kernel_rfl))
def cl_Yt_47 : XL := libAdd cl_Yt_46 163 ca_Yt_47 cr_Yt_47
theorem cl_Yt_47_ok (gl : Nat → Option Obj) : LibOk prog gl cl_Yt_47 := libAdd_ok (cl_Yt_46_ok gl) (cut_Yt_47 gl)
def ca_Yt_48 : List R := [.d (.v (.string ⟨⟨[115, 101, 108, 101, 99, 116, 32, 98, 44, 32, 99, 111, 117, 110, 116, 40, 42, 41, 32, 97, 115, 32, 110, 32, 102, 114, 111, 109, 32, 116, 32, 119, 104, 101, 114, 101, 32, 97, 32, 62, 32, 49, 32, 103, 114, 111, 117, 112, 32, 98, 121, 32, 98, 32, 104, 97, 118, 105, 110, 103, 32, 99, 111, 117, 110, 116, 40, 42, 41, 32, 62, 32, 50]⟩⟩)), .d (.v (.int .i64 (70)))]
def cr_Yt_48 : List R := [.agg [.v (.int .i64 (4)), .v (.string ⟨⟨[62]⟩⟩), .v (.int .i64 (70))], .d (.v (.int .i64 (71))), .d (.v (.bool true))]
theorem cut_Yt_48 (gl : Nat → Option Obj) : Ct prog gl 164 ca_Yt_48 (gives cr_Yt_48) :=
  ct_run (lib := cl_Yt_47) EX_Yt_ok (cl_Yt_47_ok gl) (fun _ _ _ h => h.elim) mixed fis_Yt_132_ok gw_Yt_1_ok 3000 (runsTo_sound (by kernel_rfl))
def cl_Yt_48 : XL := libAdd cl_Yt_47 164 ca_Yt_48 cr_Yt_48
theorem cl_Yt_48_ok (gl : Nat → Option Obj) : LibOk prog gl cl_Yt_48 := libAdd_ok (cl_Yt_47_ok gl) (cut_Yt_48 gl)
def ca_Yt_49 : List R := [.d (.v (.string ⟨⟨[115, 101, 108, 101, 99, 116, 32, 98, 44, 32, 99, 111, 117, 110, 116, 40, 42, 41, 32, 97, 115, 32, 110, 32, 102, 114, 111, 109, 32, 116, 32, 119, 104, 101, 114, 101, 32, 97, 32, 62, 32, 49, 32, 103, 114, 111, 117, 112, 32, 98, 121, 32, 98, 32, 104, 97, 118, 105, 110, 103, 32, 99, 111, 117, 110, 116, 40, 42, 41, 32, 62, 32, 50]⟩⟩)), .d (.v (.int .i64 (71)))]
def cr_Yt_49 : List R := [.d (.v (.int .i64 (72)))]
theorem cut_Yt_49 (gl : Nat → Option Obj) : Ct prog gl 163 ca_Yt_49 (gives cr_Yt_49) :=
  ct_run (lib := cl_Yt_48) EX_Yt_ok (cl_Yt_48_ok gl) (fun _ _ _ h => h.elim) mixed fis_Yt_132_ok gw_Yt_1_ok 3000 (runsTo_sound (by kernel_rfl))
def cl_Yt_49 : XL := libAdd cl_Yt_48 163 ca_Yt_49 cr_Yt_49
theorem cl_Yt_49_ok (gl : Nat → Option Obj) : LibOk prog gl cl_Yt_49 := libAdd_ok (cl_Yt_48_ok gl) (cut_Yt_49 gl)
def ca_Yt_50 : List R := [.d (.v (.string ⟨⟨[115, 101, 108, 101, 99, 116, 32, 98, 44, 32, 99, 111, 117, 110, 116, 40, 42, 41, 32, 97, 115, 32, 110, 32, 102, 114, 111, 109, 32, 116, 32, 119, 104, 101, 114, 101, 32, 97, 32, 62, 32, 49, 32, 103, 114, 111, 117, 112, 32, 98, 121, 32, 98, 32, 104, 97, 118, 105, 110, 103, 32, 99, 111, 117, 110, 116, 40, 42, 41, 32, 62, 32, 50]⟩⟩)), .d (.v (.int .i64 (73)))]
def cr_Yt_50 : List R := [.d (.v (.int .u8 (0)))]
theorem cut_Yt_50 (gl : Nat → Option Obj) : Ct prog gl 221 ca_Yt_50 (gives cr_Yt_50) :=
  ct_run (lib := cl_Yt_49) EX_Yt_ok (cl_Yt_49_ok gl) (fun _ _ _ h => h.elim) mixed fis_Yt_132_ok gw_Yt_1_ok 3000 (runsTo_sound (by kernel_rfl))
def cl_Yt_50 : XL := libAdd cl_Yt_49 221 ca_Yt_50 cr_Yt_50
theorem cl_Yt_50_ok (gl : Nat → Option Obj) : LibOk prog gl cl_Yt_50 := libAdd_ok (cl_Yt_49_ok gl) (cut_Yt_50 gl)
def ca_Yt_51 : List R := [.d (.v (.string ⟨⟨[115, 101, 108, 101, 99, 116, 32, 98, 44, 32, 99, 111, 117, 110, 116, 40, 42, 41, 32, 97, 115, 32, 110, 32, 102, 114, 111, 109, 32, 116, 32, 119, 104, 101, 114, 101, 32, 97, 32, 62, 32, 49, 32, 103, 114, 111, 117, 112, 32, 98, 121, 32, 98, 32, 104, 97, 118, 105, 110, 103, 32, 99, 111, 117, 110, 116, 40, 42, 41, 32, 62, 32, 50]⟩⟩)), .d (.v (.int .i64 (72)))]
def cr_Yt_51 : List R := [.agg [.v (.int .i64 (2)), .v (.string ⟨⟨[50]⟩⟩), .v (.int .i64 (72))], .d (.v (.int .i64 (73))), .d (.v (.bool true))]
theorem cut_Yt_51 (gl : Nat → Option Obj) : Ct prog gl 164 ca_Yt_51 (gives cr_Yt_51) :=
  ct_run (lib := cl_Yt_50) EX_Yt_ok (cl_Yt_50_ok gl) (fun _ _ _ h => h.elim) mixed fis_Yt_132_ok gw_Yt_1_ok 3000 (runsTo_sound (by kernel_rfl))
def cl_Yt_51 : XL := libAdd cl_Yt_50 164 ca_Yt_51 cr_Yt_51
theorem cl_Yt_51_ok (gl : Nat → Option Obj) : LibOk prog gl cl_Yt_51 := libAdd_ok (cl_Yt_50_ok gl) (cut_Yt_51 gl)
def ca_Yt_52 : List R := [.d (.v (.string ⟨⟨[115, 101, 108, 101, 99, 116, 32, 98, 44, 32, 99, 111, 117, 110, 116, 40, 42, 41, 32, 97, 115, 32, 110, 32, 102, 114, 111, 109, 32, 116, 32, 119, 104, 101, 114, 101, 32, 97, 32, 62, 32, 49, 32, 103, 114, 111, 117, 112, 32, 98, 121, 32, 98, 32, 104, 97, 118, 105, 110, 103, 32, 99, 111, 117, 110, 116, 40, 42, 41, 32, 62, 32, 50]⟩⟩)), .d (.v (.int .i64 (73)))]
def cr_Yt_52 : List R := [.d (.v (.int .i64 (73)))]
theorem cut_Yt_52 (gl : Nat → Option Obj) : Ct prog gl 163 ca_Yt_52 (gives cr_Yt_52) :=
  ct_run (lib := cl_Yt_51) EX_Yt_ok (cl_Yt_51_ok gl) (fun _ _ _ h => h.elim) mixed fis_Yt_132_ok gw_Yt_1_ok 3000 (runsTo_sound (by kernel_rfl))
def cl_Yt_52 : XL := libAdd cl_Yt_51 163 ca_Yt_52 cr_Yt_52
theorem cl_Yt_52_ok (gl : Nat → Option Obj) : LibOk prog gl cl_Yt_52 := libAdd_ok (cl_Yt_51_ok gl) (cut_Yt_52 gl)
end Go.Proofs.Tryz
