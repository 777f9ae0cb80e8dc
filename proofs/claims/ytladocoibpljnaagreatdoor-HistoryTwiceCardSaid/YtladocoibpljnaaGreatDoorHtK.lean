/- A part of the proof: HTw2. -/
import Derived.Test.YtladocoibpljnaaGreatDoorHtI
set_option linter.unusedVariables false
set_option maxRecDepth 100000
namespace Go.Proofs.YtladocoibpljnaaGreatDoor
open Go.AE Go.RowKit
theorem tw_2 : AE.isTrue (xCall (hTab Tryz.prog) (xRunK (hTab Tryz.prog) 100000) 5 [.int .i64 2] AW.start) = true := by kernel_rfl
theorem tw_5 : AE.isTrue (xCall (hTab Tryz.prog) (xRunK (hTab Tryz.prog) 100000) 5 [.int .i64 5] AW.start) = true := by kernel_rfl
end Go.Proofs.YtladocoibpljnaaGreatDoor
