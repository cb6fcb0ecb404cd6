/- A part of the proof: contracts of functions, by a verified generator of conditions; no condition of its own. -/
import Derived.Test.YtgjghnooiaaeiaaGreatDoorBg182
namespace Go.Proofs.Tryz
open Go Go.Dm
set_option maxRecDepth 100000
def cl_Yt_55 := libAdd cl_Yt_54 193 [] [.lst 9 1 [[.v (.string ⟨⟨[97, 108, 108]⟩⟩)], [.v (.string ⟨⟨[97, 110, 100]⟩⟩)], [.v (.string ⟨⟨[97, 110, 116, 105]⟩⟩)], [.v (.string ⟨⟨[97, 115]⟩⟩)], [.v (.string ⟨⟨[97, 115, 99]⟩⟩)], [.v (.string ⟨⟨[98, 101, 103, 105, 110]⟩⟩)], [.v (.string ⟨⟨[98, 101, 116, 119, 101, 101, 110]⟩⟩)], [.v (.string ⟨⟨[98, 111, 111, 108]⟩⟩)], [.v (.string ⟨⟨[98, 121]⟩⟩)], [.v (.string ⟨⟨[99, 97, 115, 101]⟩⟩)], [.v (.string ⟨⟨[99, 97, 115, 116]⟩⟩)], [.v (.string ⟨⟨[99, 104, 101, 99, 107, 112, 111, 105, 110, 116]⟩⟩)], [.v (.string ⟨⟨[99, 111, 97, 108, 101, 115, 99, 101]⟩⟩)], [.v (.string ⟨⟨[99, 111, 109, 109, 105, 116]⟩⟩)], [.v (.string y13z)], [.v (.string ⟨⟨[99, 114, 101, 97, 116, 101]⟩⟩)], [.v (.string ⟨⟨[99, 117, 114, 114, 101, 110, 116]⟩⟩)], [.v (.string ⟨⟨[100, 97, 116, 101]⟩⟩)], [.v (.string ⟨⟨[100, 101, 99, 105, 109, 97, 108]⟩⟩)], [.v (.string ⟨⟨[100, 101, 108, 101, 116, 101]⟩⟩)], [.v (.string ⟨⟨[100, 101, 110, 115, 101, 95, 114, 97, 110, 107]⟩⟩)], [.v (.string ⟨⟨[100, 101, 115, 99]⟩⟩)], [.v (.string ⟨⟨[100, 105, 115, 116, 105, 110, 99, 116]⟩⟩)], [.v (.string ⟨⟨[100, 114, 111, 112]⟩⟩)], [.v (.string ⟨⟨[101, 108, 115, 101]⟩⟩)], [.v (.string ⟨⟨[101, 110, 100]⟩⟩)], [.v (.string ⟨⟨[102, 97, 108, 115, 101]⟩⟩)], [.v (.string ⟨⟨[102, 111, 108, 108, 111, 119, 105, 110, 103]⟩⟩)], [.v (.string y1z)], [.v (.string y2z)], [.v (.string y3z)], [.v (.string ⟨⟨[105, 110, 110, 101, 114]⟩⟩)], [.v (.string ⟨⟨[105, 110, 115, 101, 114, 116]⟩⟩)], [.v (.string ⟨⟨[105, 110, 116]⟩⟩)], [.v (.string ⟨⟨[105, 110, 116, 111]⟩⟩)], [.v (.string ⟨⟨[105, 115]⟩⟩)], [.v (.string ⟨⟨[106, 111, 105, 110]⟩⟩)], [.v (.string ⟨⟨[108, 97, 103]⟩⟩)], [.v (.string ⟨⟨[108, 101, 97, 100]⟩⟩)], [.v (.string ⟨⟨[108, 101, 102, 116]⟩⟩)], [.v (.string ⟨⟨[108, 101, 110, 103, 116, 104]⟩⟩)], [.v (.string ⟨⟨[108, 105, 109, 105, 116]⟩⟩)], [.v (.string ⟨⟨[109, 97, 120]⟩⟩)], [.v (.string ⟨⟨[109, 105, 110]⟩⟩)], [.v (.string ⟨⟨[110, 111, 116]⟩⟩)], [.v (.string ⟨⟨[110, 117, 108, 108]⟩⟩)], [.v (.string ⟨⟨[111, 110]⟩⟩)], [.v (.string ⟨⟨[111, 114]⟩⟩)], [.v (.string ⟨⟨[111, 114, 100, 101, 114]⟩⟩)], [.v (.string ⟨⟨[111, 118, 101, 114]⟩⟩)], [.v (.string ⟨⟨[112, 97, 114, 116, 105, 116, 105, 111, 110]⟩⟩)], [.v (.string ⟨⟨[112, 114, 101, 99, 101, 100, 105, 110, 103]⟩⟩)], [.v (.string ⟨⟨[114, 97, 110, 107]⟩⟩)], [.v (.string ⟨⟨[114, 111, 108, 108, 98, 97, 99, 107]⟩⟩)], [.v (.string ⟨⟨[114, 111, 119]⟩⟩)], [.v (.string ⟨⟨[114, 111, 119, 95, 110, 117, 109, 98, 101, 114]⟩⟩)], [.v (.string ⟨⟨[114, 111, 119, 115]⟩⟩)], [.v (.string y5z)], [.v (.string ⟨⟨[115, 101, 109, 105]⟩⟩)], [.v (.string ⟨⟨[115, 101, 116]⟩⟩)], [.v (.string ⟨⟨[115, 117, 109]⟩⟩)], [.v (.string ⟨⟨[116, 97, 98, 108, 101]⟩⟩)], [.v (.string ⟨⟨[116, 101, 120, 116]⟩⟩)], [.v (.string ⟨⟨[116, 104, 101, 110]⟩⟩)], [.v (.string ⟨⟨[116, 114, 117, 101]⟩⟩)], [.v (.string ⟨⟨[117, 110, 98, 111, 117, 110, 100, 101, 100]⟩⟩)], [.v (.string ⟨⟨[117, 110, 105, 111, 110]⟩⟩)], [.v (.string ⟨⟨[117, 112, 100, 97, 116, 101]⟩⟩)], [.v (.string ⟨⟨[118, 97, 108, 117, 101, 115]⟩⟩)], [.v (.string ⟨⟨[119, 104, 101, 110]⟩⟩)], [.v (.string y7z)]]]
theorem cl_Yt_55_ok (gl : Nat → Option Obj) : LibOk prog gl cl_Yt_55 := cuto (cl_Yt_54_ok gl)
def cl_Yt_56 := libAdd cl_Yt_55 147 [.d (.v (.string y5z))] [.d (.v (.bool true))]
theorem cl_Yt_56_ok (gl : Nat → Option Obj) : LibOk prog gl cl_Yt_56 := cuto (cl_Yt_55_ok gl)
def cl_Yt_57 := libAdd cl_Yt_56 147 [.d (.v (.string y12z))] [.d (.v (.bool false))]
theorem cl_Yt_57_ok (gl : Nat → Option Obj) : LibOk prog gl cl_Yt_57 := cuto (cl_Yt_56_ok gl)
def cl_Yt_58 := libAdd cl_Yt_57 147 [.d (.v (.string y13z))] [.d (.v (.bool true))]
theorem cl_Yt_58_ok (gl : Nat → Option Obj) : LibOk prog gl cl_Yt_58 := cuto (cl_Yt_57_ok gl)
def cl_Yt_59 := libAdd cl_Yt_58 147 [.d (.v (.string ⟨⟨[97, 115]⟩⟩))] [.d (.v (.bool true))]
theorem cl_Yt_59_ok (gl : Nat → Option Obj) : LibOk prog gl cl_Yt_59 := cuto (cl_Yt_58_ok gl)
def cl_Yt_60 := libAdd cl_Yt_59 147 [.d (.v (.string ⟨⟨[110]⟩⟩))] [.d (.v (.bool false))]
theorem cl_Yt_60_ok (gl : Nat → Option Obj) : LibOk prog gl cl_Yt_60 := cuto (cl_Yt_59_ok gl)
def cl_Yt_61 := libAdd cl_Yt_60 147 [.d (.v (.string y1z))] [.d (.v (.bool true))]
theorem cl_Yt_61_ok (gl : Nat → Option Obj) : LibOk prog gl cl_Yt_61 := cuto (cl_Yt_60_ok gl)
def cl_Yt_62 := libAdd cl_Yt_61 147 [.d (.v (.string y6z))] [.d (.v (.bool false))]
theorem cl_Yt_62_ok (gl : Nat → Option Obj) : LibOk prog gl cl_Yt_62 := cuto (cl_Yt_61_ok gl)
def cl_Yt_63 := libAdd cl_Yt_62 147 [.d (.v (.string y7z))] [.d (.v (.bool true))]
theorem cl_Yt_63_ok (gl : Nat → Option Obj) : LibOk prog gl cl_Yt_63 := cuto (cl_Yt_62_ok gl)
def cl_Yt_64 := libAdd cl_Yt_63 147 [.d (.v (.string ⟨⟨[97]⟩⟩))] [.d (.v (.bool false))]
theorem cl_Yt_64_ok (gl : Nat → Option Obj) : LibOk prog gl cl_Yt_64 := cuto (cl_Yt_63_ok gl)
def cl_Yt_65 := libAdd cl_Yt_64 147 [.d (.v (.string y2z))] [.d (.v (.bool true))]
theorem cl_Yt_65_ok (gl : Nat → Option Obj) : LibOk prog gl cl_Yt_65 := cuto (cl_Yt_64_ok gl)
def cl_Yt_66 := libAdd cl_Yt_65 147 [.d (.v (.string ⟨⟨[98, 121]⟩⟩))] [.d (.v (.bool true))]
theorem cl_Yt_66_ok (gl : Nat → Option Obj) : LibOk prog gl cl_Yt_66 := cuto (cl_Yt_65_ok gl)
def cl_Yt_67 := libAdd cl_Yt_66 147 [.d (.v (.string y3z))] [.d (.v (.bool true))]
theorem cl_Yt_67_ok (gl : Nat → Option Obj) : LibOk prog gl cl_Yt_67 := cuto (cl_Yt_66_ok gl)
end Go.Proofs.Tryz
