/- A part of the proof: HOld3. -/
import Derived.Test.YtladocoibpljnaaGreatDoorHoI
set_option linter.unusedVariables false
set_option maxRecDepth 100000
namespace Go.Proofs.YtladocoibpljnaaGreatDoor
open Go.AE Go.RowKit
theorem old_m4_true : AE.isTrue (xCall (hTab Tryz.prog) (xRunK (hTab Tryz.prog) 100000) 4 [.int .i64 (-4), .bool true] AW.start) = true := by kernel_rfl
theorem old_m2_true : AE.isTrue (xCall (hTab Tryz.prog) (xRunK (hTab Tryz.prog) 100000) 4 [.int .i64 (-2), .bool true] AW.start) = true := by kernel_rfl
theorem old_p0_true : AE.isTrue (xCall (hTab Tryz.prog) (xRunK (hTab Tryz.prog) 100000) 4 [.int .i64 (0), .bool true] AW.start) = true := by kernel_rfl
theorem old_p2_true : AE.isTrue (xCall (hTab Tryz.prog) (xRunK (hTab Tryz.prog) 100000) 4 [.int .i64 (2), .bool true] AW.start) = true := by kernel_rfl
theorem old_p4_true : AE.isTrue (xCall (hTab Tryz.prog) (xRunK (hTab Tryz.prog) 100000) 4 [.int .i64 (4), .bool true] AW.start) = true := by kernel_rfl
end Go.Proofs.YtladocoibpljnaaGreatDoor
