/- A part of the proof: contracts of functions, by a verified generator of conditions; no condition of its own. -/
import Derived.Test.YtgjghnooiaaeiaaGreatDoorBg187
namespace Go.Proofs.Tryz
open Go Go.Dm
set_option maxRecDepth 100000
theorem run_Yt (gl : Nat → Option Obj) : Ct prog gl 7 [] (gives [.d (.v (.bool true))]) :=
 ct_run (lib := cl_Yt_81) EX_Yt_ok (cl_Yt_81_ok gl) (fun _ _ _ h => h.elim) mixed fis_Yt_132_ok gw_Yt_1_ok 1000 (runsTrue_sound (by kernel_rfl))
end Go.Proofs.Tryz
