/- A part of the proof: contracts of functions, by a verified generator of conditions; no condition of its own. -/
import Derived.Test.YtgjghnooiaaeiaaGreatDoorBg185
namespace Go.Proofs.Tryz
open Go Go.Dm
set_option maxRecDepth 100000
def ca_Yt_70 : List R := [.d (.i 0), .d (.i 10)]
def cr_Yt_70 : List R := [.d (.v (.string ⟨⟨[48]⟩⟩))]
theorem cut_Yt_70 (gl : Nat → Option Obj) : Ct prog gl 126 ca_Yt_70 (gives cr_Yt_70) :=
 fmt_ct 0 (by decide) _ (by rw [Go.Lib.decDigits]; rfl)
def cl_Yt_70 : XL := libAdd cl_Yt_69 126 ca_Yt_70 cr_Yt_70
theorem cl_Yt_70_ok (gl : Nat → Option Obj) : LibOk prog gl cl_Yt_70 := libAdd_ok (cl_Yt_69_ok gl) (cut_Yt_70 gl)
def ca_Yt_71 : List R := [.d (.i 1), .d (.i 10)]
def cr_Yt_71 : List R := [.d (.v (.string ⟨⟨[49]⟩⟩))]
theorem cut_Yt_71 (gl : Nat → Option Obj) : Ct prog gl 126 ca_Yt_71 (gives cr_Yt_71) :=
 fmt_ct 1 (by decide) _ (by rw [Go.Lib.decDigits]; rfl)
def cl_Yt_71 : XL := libAdd cl_Yt_70 126 ca_Yt_71 cr_Yt_71
theorem cl_Yt_71_ok (gl : Nat → Option Obj) : LibOk prog gl cl_Yt_71 := libAdd_ok (cl_Yt_70_ok gl) (cut_Yt_71 gl)
def ca_Yt_72 : List R := [.d (.i 2), .d (.i 10)]
def cr_Yt_72 : List R := [.d (.v (.string ⟨⟨[50]⟩⟩))]
theorem cut_Yt_72 (gl : Nat → Option Obj) : Ct prog gl 126 ca_Yt_72 (gives cr_Yt_72) :=
 fmt_ct 2 (by decide) _ (by rw [Go.Lib.decDigits]; rfl)
def cl_Yt_72 : XL := libAdd cl_Yt_71 126 ca_Yt_72 cr_Yt_72
theorem cl_Yt_72_ok (gl : Nat → Option Obj) : LibOk prog gl cl_Yt_72 := libAdd_ok (cl_Yt_71_ok gl) (cut_Yt_72 gl)
def ca_Yt_73 : List R := [.d (.sl [[.v (.string ⟨⟨[62]⟩⟩)], [.v (.string ⟨⟨[36, 49]⟩⟩)], [.v (.string ⟨⟨[50]⟩⟩)]]), .d (.v (.string y8z))]
def cr_Yt_73 : List R := [.d (.v (.string ⟨⟨[62, 32, 36, 49, 32, 50]⟩⟩))]
theorem cut_Yt_73 (gl : Nat → Option Obj) : Ct prog gl 65 ca_Yt_73 (gives cr_Yt_73) :=
 join_ct [⟨⟨[62]⟩⟩, ⟨⟨[36, 49]⟩⟩, ⟨⟨[50]⟩⟩] y8z _ (by simp) (by decide) rfl (by decide)
def cl_Yt_73 : XL := libAdd cl_Yt_72 65 ca_Yt_73 cr_Yt_73
theorem cl_Yt_73_ok (gl : Nat → Option Obj) : LibOk prog gl cl_Yt_73 := libAdd_ok (cl_Yt_72_ok gl) (cut_Yt_73 gl)
def ca_Yt_74 : List R := [.d (.sl [[.v (.string y13z)]]), .d (.v (.string y8z))]
def cr_Yt_74 : List R := [.d (.v (.string y13z))]
theorem cut_Yt_74 (gl : Nat → Option Obj) : Ct prog gl 65 ca_Yt_74 (gives cr_Yt_74) :=
 join_ct [y13z] y8z _ (by simp) (by decide) rfl (by decide)
def cl_Yt_74 : XL := libAdd cl_Yt_73 65 ca_Yt_74 cr_Yt_74
theorem cl_Yt_74_ok (gl : Nat → Option Obj) : LibOk prog gl cl_Yt_74 := libAdd_ok (cl_Yt_73_ok gl) (cut_Yt_74 gl)
def ca_Yt_75 : List R := [.d (.sl [[.v (.string ⟨⟨[62]⟩⟩)], [.v (.string ⟨⟨[36, 48]⟩⟩)], [.v (.string ⟨⟨[49]⟩⟩)]]), .d (.v (.string y8z))]
def cr_Yt_75 : List R := [.d (.v (.string ⟨⟨[62, 32, 36, 48, 32, 49]⟩⟩))]
theorem cut_Yt_75 (gl : Nat → Option Obj) : Ct prog gl 65 ca_Yt_75 (gives cr_Yt_75) :=
 join_ct [⟨⟨[62]⟩⟩, ⟨⟨[36, 48]⟩⟩, ⟨⟨[49]⟩⟩] y8z _ (by simp) (by decide) rfl (by decide)
def cl_Yt_75 : XL := libAdd cl_Yt_74 65 ca_Yt_75 cr_Yt_75
theorem cl_Yt_75_ok (gl : Nat → Option Obj) : LibOk prog gl cl_Yt_75 := libAdd_ok (cl_Yt_74_ok gl) (cut_Yt_75 gl)
def ca_Yt_76 : List R := [.d (.sl [[.v (.string ⟨⟨[115, 99, 97, 110]⟩⟩)], [.v (.string y6z)]]), .d (.v (.string y8z))]
def cr_Yt_76 : List R := [.d (.v (.string ⟨⟨[115, 99, 97, 110, 32, 116]⟩⟩))]
theorem cut_Yt_76 (gl : Nat → Option Obj) : Ct prog gl 65 ca_Yt_76 (gives cr_Yt_76) :=
 join_ct [⟨⟨[115, 99, 97, 110]⟩⟩, y6z] y8z _ (by simp) (by decide) rfl (by decide)
def cl_Yt_76 : XL := libAdd cl_Yt_75 65 ca_Yt_76 cr_Yt_76
theorem cl_Yt_76_ok (gl : Nat → Option Obj) : LibOk prog gl cl_Yt_76 := libAdd_ok (cl_Yt_75_ok gl) (cut_Yt_76 gl)
def ca_Yt_77 : List R := [.d (.sl [[.v (.string y0z)], [.v (.string ⟨⟨[40, 62, 32, 36, 48, 32, 49, 41]⟩⟩)], [.v (.string ⟨⟨[40, 115, 99, 97, 110, 32, 116, 41]⟩⟩)]]), .d (.v (.string y8z))]
def cr_Yt_77 : List R := [.d (.v (.string ⟨⟨[102, 105, 108, 116, 101, 114, 32, 40, 62, 32, 36, 48, 32, 49, 41, 32, 40, 115, 99, 97, 110, 32, 116, 41]⟩⟩))]
theorem cut_Yt_77 (gl : Nat → Option Obj) : Ct prog gl 65 ca_Yt_77 (gives cr_Yt_77) :=
 join_ct [y0z, ⟨⟨[40, 62, 32, 36, 48, 32, 49, 41]⟩⟩, ⟨⟨[40, 115, 99, 97, 110, 32, 116, 41]⟩⟩] y8z _ (by simp) (by decide) rfl (by decide)
def cl_Yt_77 : XL := libAdd cl_Yt_76 65 ca_Yt_77 cr_Yt_77
theorem cl_Yt_77_ok (gl : Nat → Option Obj) : LibOk prog gl cl_Yt_77 := libAdd_ok (cl_Yt_76_ok gl) (cut_Yt_77 gl)
def ca_Yt_78 : List R := [.d (.sl [[.v (.string y2z)], [.v (.string ⟨⟨[36, 49]⟩⟩)], [.v (.string ⟨⟨[91, 99, 111, 117, 110, 116, 93]⟩⟩)], [.v (.string y9z)]]), .d (.v (.string y8z))]
def cr_Yt_78 : List R := [.d (.v (.string ⟨⟨[103, 114, 111, 117, 112, 32, 36, 49, 32, 91, 99, 111, 117, 110, 116, 93, 32, 40, 102, 105, 108, 116, 101, 114, 32, 40, 62, 32, 36, 48, 32, 49, 41, 32, 40, 115, 99, 97, 110, 32, 116, 41, 41]⟩⟩))]
theorem cut_Yt_78 (gl : Nat → Option Obj) : Ct prog gl 65 ca_Yt_78 (gives cr_Yt_78) :=
 join_ct [y2z, ⟨⟨[36, 49]⟩⟩, ⟨⟨[91, 99, 111, 117, 110, 116, 93]⟩⟩, y9z] y8z _ (by simp) (by decide) rfl (by decide)
def cl_Yt_78 : XL := libAdd cl_Yt_77 65 ca_Yt_78 cr_Yt_78
theorem cl_Yt_78_ok (gl : Nat → Option Obj) : LibOk prog gl cl_Yt_78 := libAdd_ok (cl_Yt_77_ok gl) (cut_Yt_78 gl)
def ca_Yt_79 : List R := [.d (.sl [[.v (.string y0z)], [.v (.string ⟨⟨[40, 62, 32, 36, 49, 32, 50, 41]⟩⟩)], [.v (.string y11z)]]), .d (.v (.string y8z))]
def cr_Yt_79 : List R := [.d (.v (.string ⟨⟨[102, 105, 108, 116, 101, 114, 32, 40, 62, 32, 36, 49, 32, 50, 41, 32, 40, 103, 114, 111, 117, 112, 32, 36, 49, 32, 91, 99, 111, 117, 110, 116, 93, 32, 40, 102, 105, 108, 116, 101, 114, 32, 40, 62, 32, 36, 48, 32, 49, 41, 32, 40, 115, 99, 97, 110, 32, 116, 41, 41, 41]⟩⟩))]
theorem cut_Yt_79 (gl : Nat → Option Obj) : Ct prog gl 65 ca_Yt_79 (gives cr_Yt_79) :=
 join_ct [y0z, ⟨⟨[40, 62, 32, 36, 49, 32, 50, 41]⟩⟩, y11z] y8z _ (by simp) (by decide) rfl (by decide)
def cl_Yt_79 : XL := libAdd cl_Yt_78 65 ca_Yt_79 cr_Yt_79
theorem cl_Yt_79_ok (gl : Nat → Option Obj) : LibOk prog gl cl_Yt_79 := libAdd_ok (cl_Yt_78_ok gl) (cut_Yt_79 gl)
def ca_Yt_80 : List R := [.d (.sl [[.v (.string ⟨⟨[112, 114, 111, 106, 101, 99, 116]⟩⟩)], [.v (.string ⟨⟨[36, 48]⟩⟩)], [.v (.string ⟨⟨[36, 49]⟩⟩)], [.v (.string y10z)]]), .d (.v (.string y8z))]
def cr_Yt_80 : List R := [.d (.v (.string ⟨⟨[112, 114, 111, 106, 101, 99, 116, 32, 36, 48, 32, 36, 49, 32, 40, 102, 105, 108, 116, 101, 114, 32, 40, 62, 32, 36, 49, 32, 50, 41, 32, 40, 103, 114, 111, 117, 112, 32, 36, 49, 32, 91, 99, 111, 117, 110, 116, 93, 32, 40, 102, 105, 108, 116, 101, 114, 32, 40, 62, 32, 36, 48, 32, 49, 41, 32, 40, 115, 99, 97, 110, 32, 116, 41, 41, 41, 41]⟩⟩))]
theorem cut_Yt_80 (gl : Nat → Option Obj) : Ct prog gl 65 ca_Yt_80 (gives cr_Yt_80) :=
 join_ct [⟨⟨[112, 114, 111, 106, 101, 99, 116]⟩⟩, ⟨⟨[36, 48]⟩⟩, ⟨⟨[36, 49]⟩⟩, y10z] y8z _ (by simp) (by decide) rfl (by decide)
def cl_Yt_80 : XL := libAdd cl_Yt_79 65 ca_Yt_80 cr_Yt_80
theorem cl_Yt_80_ok (gl : Nat → Option Obj) : LibOk prog gl cl_Yt_80 := libAdd_ok (cl_Yt_79_ok gl) (cut_Yt_80 gl)
end Go.Proofs.Tryz
