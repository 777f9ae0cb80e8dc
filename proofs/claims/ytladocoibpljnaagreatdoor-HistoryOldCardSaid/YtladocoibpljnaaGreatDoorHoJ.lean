/- A part of the proof: HOld1. -/
import Derived.Test.YtladocoibpljnaaGreatDoorHoI
set_option linter.unusedVariables false
set_option maxRecDepth 100000
namespace Go.Proofs.YtladocoibpljnaaGreatDoor
open Go.AE Go.RowKit
theorem old_m5_true : AE.isTrue (xCall (hTab Tryz.prog) (xRunK (hTab Tryz.prog) 100000) 4 [.int .i64 (-5), .bool true] AW.start) = true := by kernel_rfl
theorem old_m3_true : AE.isTrue (xCall (hTab Tryz.prog) (xRunK (hTab Tryz.prog) 100000) 4 [.int .i64 (-3), .bool true] AW.start) = true := by kernel_rfl
theorem old_m1_true : AE.isTrue (xCall (hTab Tryz.prog) (xRunK (hTab Tryz.prog) 100000) 4 [.int .i64 (-1), .bool true] AW.start) = true := by kernel_rfl
theorem old_p1_true : AE.isTrue (xCall (hTab Tryz.prog) (xRunK (hTab Tryz.prog) 100000) 4 [.int .i64 (1), .bool true] AW.start) = true := by kernel_rfl
theorem old_p3_true : AE.isTrue (xCall (hTab Tryz.prog) (xRunK (hTab Tryz.prog) 100000) 4 [.int .i64 (3), .bool true] AW.start) = true := by kernel_rfl
theorem old_p5_true : AE.isTrue (xCall (hTab Tryz.prog) (xRunK (hTab Tryz.prog) 100000) 4 [.int .i64 (5), .bool true] AW.start) = true := by kernel_rfl
end Go.Proofs.YtladocoibpljnaaGreatDoor
