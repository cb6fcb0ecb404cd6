/- A part of the proof: contracts of functions, by a verified generator of conditions; no condition of its own. -/
import Derived.Test.YtgjghnooiaaeiaaGreatDoorBg180
namespace Go.Proofs.Tryz
open Go Go.Dm
set_option maxRecDepth 100000
def cl_Yt_53 := libAdd cl_Yt_52 144 [.d (.v (.string y4z))] [.lst 226 3 [[.i 1, .v (.string y5z), .i 0], [.i 1, .v (.string y12z), .i 7], [.i 4, .v (.string ⟨⟨[44]⟩⟩), .i 8], [.i 1, .v (.string y13z), .i 10], [.i 4, .v (.string ⟨⟨[40]⟩⟩), .i 15], [.i 4, .v (.string ⟨⟨[42]⟩⟩), .i 16], [.i 4, .v (.string ⟨⟨[41]⟩⟩), .i 17], [.i 1, .v (.string ⟨⟨[97, 115]⟩⟩), .i 19], [.i 1, .v (.string ⟨⟨[110]⟩⟩), .i 22], [.i 1, .v (.string y1z), .i 24], [.i 1, .v (.string y6z), .i 29], [.i 1, .v (.string y7z), .i 31], [.i 1, .v (.string ⟨⟨[97]⟩⟩), .i 37], [.i 4, .v (.string ⟨⟨[62]⟩⟩), .i 39], [.i 2, .v (.string ⟨⟨[49]⟩⟩), .i 41], [.i 1, .v (.string y2z), .i 43], [.i 1, .v (.string ⟨⟨[98, 121]⟩⟩), .i 49], [.i 1, .v (.string y12z), .i 52], [.i 1, .v (.string y3z), .i 54], [.i 1, .v (.string y13z), .i 61], [.i 4, .v (.string ⟨⟨[40]⟩⟩), .i 66], [.i 4, .v (.string ⟨⟨[42]⟩⟩), .i 67], [.i 4, .v (.string ⟨⟨[41]⟩⟩), .i 68], [.i 4, .v (.string ⟨⟨[62]⟩⟩), .i 70], [.i 2, .v (.string ⟨⟨[50]⟩⟩), .i 72]], .d (.i 0), .d (.v (.bool true))]
theorem cl_Yt_53_ok (gl : Nat → Option Obj) : LibOk prog gl cl_Yt_53 := cuto (cl_Yt_52_ok gl)
end Go.Proofs.Tryz
