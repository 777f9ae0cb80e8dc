/- A part of the proof: C1, C2, C3. -/
import Derived.Test.YtjidefnbancmfaaRows
import Derived.Test.YtjidefnbancmfaaKpE
set_option maxRecDepth 100000
set_option linter.unusedVariables false
namespace Go.Proofs.Ytjidefnbancmfaa
open Go.AE
/-! delphi/delphilaw0.Names -/
/-! delphi/delphilaw9.CheckRules -/
/-! delphi/delphilaw9.CheckVars -/
/-! delphi/delphilaw7.LexScan -/
/-! delphi/delphilaw7.LexLong -/
/-! delphi/delphilaw7.LexApart -/
/-! delphi/delphilaw12.PlanAll -/
def k_law12_PlanAll_p0 : ACode := (.seq (.region [⟨some 4, none, .mov (.const (.bool false))⟩])
 .ret)
def k_law12_PlanAll_p1 : ACode := (.seq (.region [⟨some 4, none, .mov (.const (.bool false))⟩])
 .ret)
def k_law12_PlanAll_p2 : ACode := (.seq (.region [⟨some 4, none, .mov (.const (.bool false))⟩])
 .ret)
def k_law12_PlanAll_p3 : ACode := (.seq (.region [⟨some 86, none, .fieldAddr 0 (.tmp 9)⟩,
  ⟨some 87, none, .load 1 false (.tmp 86)⟩,
  ⟨some 88, none, .mov (.tmp 14)⟩,
  ⟨some 89, none, .indexAddr 1 (.tmp 87) (.tmp 88)⟩,
  ⟨some 90, none, .load 1 false (.tmp 89)⟩,
  ⟨some 91, none, .mov (.tmp 11)⟩,
  ⟨some 92, none, .mov (.tmp 14)⟩,
  ⟨some 93, none, .indexAddr 1 (.tmp 91) (.tmp 92)⟩,
  ⟨some 94, none, .load 1 false (.tmp 93)⟩,
  ⟨some 95, none, .bin .neq (.tmp 90) (.tmp 94)⟩])
 (.cond (.tmp 95) k_law12_PlanAll_p2 .skip))
def k_law12_PlanAll_p4 : ACode := (.seq (.seq (.region [⟨some 80, none, .mov (.tmp 14)⟩,
  ⟨some 81, none, .mov (.tmp 11)⟩,
  ⟨some 82, none, .lenSl (.tmp 81)⟩,
  ⟨some 83, none, .bin .lss (.tmp 80) (.tmp 82)⟩])
 (.cond (.tmp 83) .skip (.exit 4)))
 (.seq (.block 5 k_law12_PlanAll_p3)
 (.region [⟨some 84, none, .mov (.tmp 14)⟩,
  ⟨some 85, none, .bin .add (.tmp 84) (.const (.int .i64 1))⟩,
  ⟨some 14, none, .mov (.tmp 85)⟩])))
def k_law12_PlanAll_p5 : ACode := (.seq (.region [⟨some 4, none, .mov (.const (.bool false))⟩])
 .ret)
def k_law12_PlanAll_p6 : ACode := (.seq (.region [⟨some 102, none, .fieldAddr 1 (.tmp 9)⟩,
  ⟨some 103, none, .load 1 false (.tmp 102)⟩,
  ⟨some 104, none, .mov (.tmp 15)⟩,
  ⟨some 105, none, .indexAddr 1 (.tmp 103) (.tmp 104)⟩,
  ⟨some 106, none, .load 1 false (.tmp 105)⟩,
  ⟨some 107, none, .mov (.tmp 12)⟩,
  ⟨some 108, none, .mov (.tmp 15)⟩,
  ⟨some 109, none, .indexAddr 1 (.tmp 107) (.tmp 108)⟩,
  ⟨some 110, none, .load 1 false (.tmp 109)⟩,
  ⟨some 111, none, .bin .neq (.tmp 106) (.tmp 110)⟩])
 (.cond (.tmp 111) k_law12_PlanAll_p5 .skip))
def k_law12_PlanAll_p7 : ACode := (.seq (.seq (.region [⟨some 96, none, .mov (.tmp 15)⟩,
  ⟨some 97, none, .mov (.tmp 12)⟩,
  ⟨some 98, none, .lenSl (.tmp 97)⟩,
  ⟨some 99, none, .bin .lss (.tmp 96) (.tmp 98)⟩])
 (.cond (.tmp 99) .skip (.exit 6)))
 (.seq (.block 7 k_law12_PlanAll_p6)
 (.region [⟨some 100, none, .mov (.tmp 15)⟩,
  ⟨some 101, none, .bin .add (.tmp 100) (.const (.int .i64 1))⟩,
  ⟨some 15, none, .mov (.tmp 101)⟩])))
def k_law12_PlanAll_p8 : ACode := (.seq (.seq (.region [⟨some 61, none, .mov (.tmp 10)⟩,
  ⟨some 62, none, .mov (.tmp 13)⟩,
  ⟨some 63, none, .eqv true .bool (.tmp 61) (.tmp 62)⟩,
  ⟨some 64, none, .mov (.tmp 63)⟩,
  ⟨some 65, (some (64, false)), .fieldAddr 0 (.tmp 9)⟩,
  ⟨some 66, (some (64, false)), .load 1 false (.tmp 65)⟩,
  ⟨some 67, (some (64, false)), .lenSl (.tmp 66)⟩,
  ⟨some 68, (some (64, false)), .mov (.tmp 11)⟩,
  ⟨some 69, (some (64, false)), .lenSl (.tmp 68)⟩,
  ⟨some 70, (some (64, false)), .bin .neq (.tmp 67) (.tmp 69)⟩,
  ⟨some 71, none, .pick (.tmp 64) (.const (.bool true)) (.tmp 70)⟩,
  ⟨some 72, none, .mov (.tmp 71)⟩,
  ⟨some 73, (some (72, false)), .fieldAddr 1 (.tmp 9)⟩,
  ⟨some 74, (some (72, false)), .load 1 false (.tmp 73)⟩,
  ⟨some 75, (some (72, false)), .lenSl (.tmp 74)⟩,
  ⟨some 76, (some (72, false)), .mov (.tmp 12)⟩,
  ⟨some 77, (some (72, false)), .lenSl (.tmp 76)⟩,
  ⟨some 78, (some (72, false)), .bin .neq (.tmp 75) (.tmp 77)⟩,
  ⟨some 79, none, .pick (.tmp 72) (.const (.bool true)) (.tmp 78)⟩])
 (.cond (.tmp 79) k_law12_PlanAll_p1 .skip))
 (.seq (.seq (.region [⟨some 14, none, .mov (.const (.int .i64 0))⟩])
 (.block 4 (.loop k_law12_PlanAll_p4)))
 (.seq (.region [⟨some 15, none, .mov (.const (.int .i64 0))⟩])
 (.block 6 (.loop k_law12_PlanAll_p7)))))
def k_law12_PlanAll_p9 : ACode := (.seq (.region [⟨some 52, none, .mov (.tmp 6)⟩,
  ⟨some 53, none, .mov (.tmp 7)⟩,
  ⟨some 54, none, .indexAddr 4 (.tmp 52) (.tmp 53)⟩,
  ⟨some 55, none, .load 4 true (.tmp 54)⟩,
  ⟨some 56, none, .mov (.tmp 8)⟩,
  ⟨some 57, none, .call (.const (.func (.func n_ref8_Plan) [] [])) [(.tmp 55), (.tmp 56)]⟩,
  ⟨some 51, none, .mov (.tmp 57)⟩,
  ⟨some 58, none, .extract 0 (.tmp 51)⟩,
  ⟨some 59, none, .extract 1 (.tmp 51)⟩,
  ⟨some 60, none, .extract 2 (.tmp 51)⟩,
  ⟨some 11, none, .mov (.tmp 58)⟩,
  ⟨some 12, none, .mov (.tmp 59)⟩,
  ⟨some 13, none, .mov (.tmp 60)⟩])
 k_law12_PlanAll_p8)
def k_law12_PlanAll_p10 : ACode := (.seq (.region [⟨some 43, none, .mov (.tmp 6)⟩,
  ⟨some 44, none, .mov (.tmp 7)⟩,
  ⟨some 45, none, .indexAddr 4 (.tmp 43) (.tmp 44)⟩,
  ⟨some 46, none, .load 4 true (.tmp 45)⟩,
  ⟨some 47, none, .mov (.tmp 8)⟩,
  ⟨some 48, none, .call (.const (.func (.func n_plan_Make) [] [])) [(.tmp 46), (.tmp 47)]⟩,
  ⟨some 42, none, .mov (.tmp 48)⟩,
  ⟨some 49, none, .extract 0 (.tmp 42)⟩,
  ⟨some 50, none, .extract 1 (.tmp 42)⟩,
  ⟨some 9, none, .alloc [.nilslice, .nilslice]⟩,
  ⟨none, none, .store 2 (.tmp 9) (.tmp 49)⟩,
  ⟨some 10, none, .mov (.tmp 50)⟩])
 k_law12_PlanAll_p9)
def k_law12_PlanAll_p11 : ACode := (.seq (.seq (.region [⟨some 32, none, .mov (.tmp 8)⟩,
  ⟨some 33, none, .mov (.tmp 6)⟩,
  ⟨some 34, none, .mov (.tmp 7)⟩,
  ⟨some 35, none, .indexAddr 4 (.tmp 33) (.tmp 34)⟩,
  ⟨some 36, none, .fieldAddr 3 (.tmp 35)⟩,
  ⟨some 37, none, .load 1 false (.tmp 36)⟩,
  ⟨some 38, none, .lenSl (.tmp 37)⟩,
  ⟨some 39, none, .bin .leq (.tmp 32) (.tmp 38)⟩])
 (.cond (.tmp 39) .skip (.exit 2)))
 (.seq (.block 3 k_law12_PlanAll_p10)
 (.region [⟨some 40, none, .mov (.tmp 8)⟩,
  ⟨some 41, none, .bin .add (.tmp 40) (.const (.int .i64 1))⟩,
  ⟨some 8, none, .mov (.tmp 41)⟩])))
def k_law12_PlanAll_p12 : ACode := (.seq (.region [⟨some 4, none, .mov (.const (.bool false))⟩])
 .ret)
def k_law12_PlanAll_p13 : ACode := (.seq (.region [⟨some 122, none, .mov (.tmp 6)⟩,
  ⟨some 123, none, .mov (.tmp 7)⟩,
  ⟨some 124, none, .indexAddr 4 (.tmp 122) (.tmp 123)⟩,
  ⟨some 125, none, .load 4 true (.tmp 124)⟩,
  ⟨some 126, none, .mov (.tmp 1)⟩,
  ⟨some 127, none, .call (.const (.func (.func n_ref8_Plan) [] [])) [(.tmp 125), (.tmp 126)]⟩,
  ⟨some 121, none, .mov (.tmp 127)⟩,
  ⟨some 128, none, .extract 0 (.tmp 121)⟩,
  ⟨some 129, none, .extract 1 (.tmp 121)⟩,
  ⟨some 130, none, .extract 2 (.tmp 121)⟩,
  ⟨some 18, none, .mov (.tmp 128)⟩,
  ⟨some 19, none, .mov (.tmp 129)⟩,
  ⟨some 20, none, .mov (.tmp 130)⟩])
 (.seq (.region [⟨some 131, none, .mov (.tmp 17)⟩,
  ⟨some 132, none, .mov (.tmp 20)⟩,
  ⟨some 133, none, .eqv true .bool (.tmp 131) (.tmp 132)⟩])
 (.cond (.tmp 133) k_law12_PlanAll_p12 .skip)))
def k_law12_PlanAll_p14 : ACode := (.seq (.region [⟨some 113, none, .mov (.tmp 6)⟩,
  ⟨some 114, none, .mov (.tmp 7)⟩,
  ⟨some 115, none, .indexAddr 4 (.tmp 113) (.tmp 114)⟩,
  ⟨some 116, none, .load 4 true (.tmp 115)⟩,
  ⟨some 117, none, .mov (.tmp 1)⟩,
  ⟨some 118, none, .call (.const (.func (.func n_plan_Make) [] [])) [(.tmp 116), (.tmp 117)]⟩,
  ⟨some 112, none, .mov (.tmp 118)⟩,
  ⟨some 119, none, .extract 0 (.tmp 112)⟩,
  ⟨some 120, none, .extract 1 (.tmp 112)⟩,
  ⟨some 16, none, .alloc [.nilslice, .nilslice]⟩,
  ⟨none, none, .store 2 (.tmp 16) (.tmp 119)⟩,
  ⟨some 17, none, .mov (.tmp 120)⟩])
 k_law12_PlanAll_p13)
def k_law12_PlanAll_p15 : ACode := (.seq (.block 1 (.seq (.seq (.region [⟨some 8, none, .mov (.const (.int .i64 (-2)))⟩])
 (.block 2 (.loop k_law12_PlanAll_p11)))
 k_law12_PlanAll_p14))
 (.region [⟨some 30, none, .mov (.tmp 7)⟩,
  ⟨some 31, none, .bin .add (.tmp 30) (.const (.int .i64 1))⟩,
  ⟨some 7, none, .mov (.tmp 31)⟩]))
def k_law12_PlanAll_p16 : ACode := (.seq (.seq (.region [⟨some 26, none, .mov (.tmp 7)⟩,
  ⟨some 27, none, .mov (.tmp 6)⟩,
  ⟨some 28, none, .lenSl (.tmp 27)⟩,
  ⟨some 29, none, .bin .lss (.tmp 26) (.tmp 28)⟩])
 (.cond (.tmp 29) .skip (.exit 0)))
 k_law12_PlanAll_p15)
def k_law12_PlanAll_p17 : ACode := (.seq (.region [⟨some 24, none, .mov (.tmp 0)⟩,
  ⟨some 25, none, .call (.const (.func (.func n_law9_Rules) [] [])) [(.tmp 24)]⟩,
  ⟨some 6, none, .mov (.tmp 25)⟩])
 (.seq (.seq (.region [⟨some 7, none, .mov (.const (.int .i64 0))⟩])
 (.block 0 (.loop k_law12_PlanAll_p16)))
 (.seq (.region [⟨some 4, none, .mov (.const (.bool true))⟩])
 .ret)))
def k_law12_PlanAll : AFun := ⟨134, [.tmp 4], (.seq (.region [⟨some 4, none, .mov (.const (.bool false))⟩])
 (.seq (.region [⟨some 21, none, .call (.const (.func (.func n_law12_begun) [] [])) []⟩,
  ⟨some 5, none, .mov (.tmp 21)⟩])
 (.seq (.seq (.region [⟨some 22, none, .mov (.tmp 5)⟩,
  ⟨some 23, none, .un .not (.tmp 22)⟩])
 (.cond (.tmp 23) k_law12_PlanAll_p0 .skip))
 k_law12_PlanAll_p17)))⟩
theorem c_law12_PlanAll : (XTab.of Try.prog).code 9 = some k_law12_PlanAll := by kernel_rfl

/-! delphi/delphilaw11.RelationAll -/
end Go.Proofs.Ytjidefnbancmfaa

set_option maxRecDepth 100000
set_option linter.unusedVariables false
namespace Go.Proofs.Ytjidefnbancmfaa
open Go.AE
/-! delphi/delphilaw11.RelationNone -/

/-! delphi/delphilaw11.RelationMany -/
/-! delphi/delphilaw9.begun -/

/-! delphi/delphilaw9.Rules -/
def k_law9_Rules_p0 : ACode := (.seq (.region [⟨some 6, none, .mov (.tmp 0)⟩,
  ⟨some 7, none, .call (.const (.func (.func n_law1_Cut) [] [])) [(.tmp 6), (.const (.int .i64 1200))]⟩,
  ⟨some 8, none, .call (.const (.func (.func n_ref8_Program) [] [])) [(.tmp 7)]⟩,
  ⟨some 5, none, .mov (.tmp 8)⟩,
  ⟨some 9, none, .extract 0 (.tmp 5)⟩,
  ⟨some 10, none, .extract 1 (.tmp 5)⟩,
  ⟨some 3, none, .mov (.tmp 9)⟩,
  ⟨some 4, none, .mov (.tmp 10)⟩])
 (.seq (.region [⟨some 11, none, .mov (.tmp 3)⟩,
  ⟨some 2, none, .mov (.tmp 11)⟩])
 .ret))
def k_law9_Rules : AFun := ⟨12, [.tmp 2], (.seq (.region [⟨some 2, none, .mov (.const .nilslice)⟩])
 k_law9_Rules_p0)⟩
theorem c_law9_Rules : (XTab.of Try.prog).code 14 = some k_law9_Rules := by kernel_rfl

/-! delphi/check.Safe -/
def k_check_Safe_p0 : ACode := (.seq (.region [⟨some 26, none, .mov (.tmp 4)⟩,
  ⟨some 27, none, .fieldAddr 2 (.tmp 6)⟩,
  ⟨some 28, none, .load 1 false (.tmp 27)⟩,
  ⟨some 29, none, .call (.const (.func (.func n_check_Vars) [] [])) [(.tmp 28)]⟩,
  ⟨some 30, none, .append 1 16 (.tmp 26) (.tmp 29)⟩,
  ⟨some 4, none, .mov (.tmp 30)⟩])
 (.exit 1))
def k_check_Safe_p1 : ACode := (.region [⟨some 39, none, .mov (.tmp 3)⟩,
  ⟨some 40, none, .mov (.tmp 8)⟩,
  ⟨some 41, none, .lookup (.scalar .str) (.int .i64 0) false (.tmp 39) (.tmp 40)⟩,
  ⟨some 42, none, .bin .add (.tmp 41) (.const (.int .i64 1))⟩,
  ⟨none, none, .mapUpdate (.scalar .str) (.tmp 39) (.tmp 40) (.tmp 42)⟩])
def k_check_Safe_p2 : ACode := (.seq (.block 3 (.seq (.region [⟨some 37, none, .indexAddr 1 (.tmp 33) (.tmp 35)⟩,
  ⟨some 38, none, .load 1 false (.tmp 37)⟩,
  ⟨some 8, none, .mov (.tmp 38)⟩])
 k_check_Safe_p1))
 (.region [⟨some 43, none, .bin .add (.tmp 35) (.const (.int .i64 1))⟩,
  ⟨some 35, none, .mov (.tmp 43)⟩]))
def k_check_Safe_p3 : ACode := (.seq (.region [⟨some 36, none, .bin .lss (.tmp 35) (.tmp 34)⟩])
 (.seq (.cond (.tmp 36) .skip (.exit 2))
 k_check_Safe_p2))
def k_check_Safe_p4 : ACode := (.seq (.region [⟨some 31, none, .fieldAddr 2 (.tmp 6)⟩,
  ⟨some 32, none, .load 1 false (.tmp 31)⟩,
  ⟨some 33, none, .call (.const (.func (.func n_check_Vars) [] [])) [(.tmp 32)]⟩,
  ⟨some 34, none, .lenSl (.tmp 33)⟩,
  ⟨some 35, none, .mov (.const (.int .i64 0))⟩])
 (.block 2 (.loop k_check_Safe_p3)))
def k_check_Safe_p5 : ACode := (.seq (.region [⟨some 21, none, .indexAddr 3 (.tmp 17) (.tmp 19)⟩,
  ⟨some 22, none, .load 3 true (.tmp 21)⟩,
  ⟨some 6, none, .alloc [(.int .i64 0), (.str []), .nilslice]⟩,
  ⟨none, none, .store 3 (.tmp 6) (.tmp 22)⟩])
 (.seq (.seq (.region [⟨some 23, none, .fieldAddr 0 (.tmp 6)⟩,
  ⟨some 24, none, .load 1 false (.tmp 23)⟩,
  ⟨some 25, none, .bin .neq (.tmp 24) (.const (.int .i64 1))⟩])
 (.cond (.tmp 25) k_check_Safe_p0 .skip))
 k_check_Safe_p4))
def k_check_Safe_p6 : ACode := (.seq (.region [⟨some 20, none, .bin .lss (.tmp 19) (.tmp 18)⟩])
 (.seq (.cond (.tmp 20) .skip (.exit 0))
 (.seq (.block 1 k_check_Safe_p5)
 (.region [⟨some 44, none, .bin .add (.tmp 19) (.const (.int .i64 1))⟩,
  ⟨some 19, none, .mov (.tmp 44)⟩]))))
def k_check_Safe_p7 : ACode := (.seq (.region [⟨some 2, none, .mov (.const (.bool false))⟩])
 .ret)
def k_check_Safe_p8 : ACode := (.seq (.region [⟨some 51, none, .mov (.tmp 3)⟩,
  ⟨some 52, none, .mov (.tmp 10)⟩,
  ⟨some 53, none, .lookup (.scalar .str) (.int .i64 0) false (.tmp 51) (.tmp 52)⟩,
  ⟨some 54, none, .bin .eql (.tmp 53) (.const (.int .i64 0))⟩])
 (.cond (.tmp 54) k_check_Safe_p7 .skip))
def k_check_Safe_p9 : ACode := (.seq (.block 5 (.seq (.region [⟨some 49, none, .indexAddr 1 (.tmp 45) (.tmp 47)⟩,
  ⟨some 50, none, .load 1 false (.tmp 49)⟩,
  ⟨some 10, none, .mov (.tmp 50)⟩])
 k_check_Safe_p8))
 (.region [⟨some 55, none, .bin .add (.tmp 47) (.const (.int .i64 1))⟩,
  ⟨some 47, none, .mov (.tmp 55)⟩]))
def k_check_Safe_p10 : ACode := (.seq (.region [⟨some 48, none, .bin .lss (.tmp 47) (.tmp 46)⟩])
 (.seq (.cond (.tmp 48) .skip (.exit 4))
 k_check_Safe_p9))
def k_check_Safe_p11 : ACode := (.seq (.seq (.region [⟨some 16, none, .fieldAddr 3 (.tmp 1)⟩,
  ⟨some 17, none, .load 1 false (.tmp 16)⟩,
  ⟨some 18, none, .lenSl (.tmp 17)⟩,
  ⟨some 19, none, .mov (.const (.int .i64 0))⟩])
 (.block 0 (.loop k_check_Safe_p6)))
 (.seq (.seq (.region [⟨some 45, none, .mov (.tmp 4)⟩,
  ⟨some 46, none, .lenSl (.tmp 45)⟩,
  ⟨some 47, none, .mov (.const (.int .i64 0))⟩])
 (.block 4 (.loop k_check_Safe_p10)))
 (.seq (.region [⟨some 2, none, .mov (.const (.bool true))⟩])
 .ret)))
def k_check_Safe_p12 : ACode := (.seq (.region [⟨some 12, none, .fieldAddr 0 (.tmp 1)⟩,
  ⟨some 13, none, .fieldAddr 2 (.tmp 12)⟩,
  ⟨some 14, none, .load 1 false (.tmp 13)⟩,
  ⟨some 15, none, .call (.const (.func (.func n_check_Vars) [] [])) [(.tmp 14)]⟩,
  ⟨some 4, none, .mov (.tmp 15)⟩])
 k_check_Safe_p11)
def k_check_Safe : AFun := ⟨56, [.tmp 2], (.seq (.region [⟨some 1, none, .box (.tmp 0)⟩,
  ⟨some 2, none, .mov (.const (.bool false))⟩])
 (.seq (.region [⟨some 11, none, .mkMap⟩,
  ⟨some 3, none, .mov (.tmp 11)⟩])
 k_check_Safe_p12))⟩
theorem c_check_Safe : (XTab.of Try.prog).code 15 = some k_check_Safe := by kernel_rfl

/-! delphi/delphiref8.Safe -/
def k_ref8_Safe_p0 : ACode := (.seq (.region [⟨some 2, none, .mov (.const (.bool false))⟩])
 .ret)
def k_ref8_Safe_p1 : ACode := (.seq (.region [⟨some 28, none, .mov (.tmp 3)⟩,
  ⟨some 29, none, .mov (.tmp 4)⟩,
  ⟨some 30, none, .indexAddr 3 (.tmp 28) (.tmp 29)⟩,
  ⟨some 31, none, .fieldAddr 2 (.tmp 30)⟩,
  ⟨some 32, none, .load 1 false (.tmp 31)⟩,
  ⟨some 33, none, .mov (.tmp 5)⟩,
  ⟨some 34, none, .indexAddr 3 (.tmp 32) (.tmp 33)⟩,
  ⟨some 35, none, .fieldAddr 0 (.tmp 34)⟩,
  ⟨some 36, none, .load 1 false (.tmp 35)⟩,
  ⟨some 37, none, .bin .eql (.tmp 36) (.const (.int .i64 1))⟩,
  ⟨some 38, none, .mov (.tmp 37)⟩,
  ⟨some 39, (some (38, true)), .mov (.tmp 4)⟩,
  ⟨some 40, (some (38, true)), .bin .eql (.tmp 39) (.const (.int .i64 0))⟩,
  ⟨some 41, (some (38, true)), .mov (.tmp 40)⟩,
  ⟨some 42, (some (41, false)), .mov (.tmp 3)⟩,
  ⟨some 43, (some (41, false)), .mov (.tmp 4)⟩,
  ⟨some 44, (some (41, false)), .indexAddr 3 (.tmp 42) (.tmp 43)⟩,
  ⟨some 45, (some (41, false)), .fieldAddr 0 (.tmp 44)⟩,
  ⟨some 46, (some (41, false)), .load 1 false (.tmp 45)⟩,
  ⟨some 47, (some (41, false)), .bin .neq (.tmp 46) (.const (.int .i64 1))⟩,
  ⟨some 48, (some (38, true)), .pick (.tmp 41) (.const (.bool true)) (.tmp 47)⟩,
  ⟨some 49, none, .pick (.tmp 38) (.tmp 48) (.const (.bool false))⟩,
  ⟨some 50, none, .mov (.tmp 49)⟩,
  ⟨some 51, (some (50, true)), .load 4 true (.tmp 1)⟩,
  ⟨some 52, (some (50, true)), .mov (.tmp 3)⟩,
  ⟨some 53, (some (50, true)), .mov (.tmp 4)⟩,
  ⟨some 54, (some (50, true)), .indexAddr 3 (.tmp 52) (.tmp 53)⟩,
  ⟨some 55, (some (50, true)), .fieldAddr 2 (.tmp 54)⟩,
  ⟨some 56, (some (50, true)), .load 1 false (.tmp 55)⟩,
  ⟨some 57, (some (50, true)), .mov (.tmp 5)⟩,
  ⟨some 58, (some (50, true)), .indexAddr 3 (.tmp 56) (.tmp 57)⟩,
  ⟨some 59, (some (50, true)), .fieldAddr 1 (.tmp 58)⟩,
  ⟨some 60, (some (50, true)), .load 1 false (.tmp 59)⟩,
  ⟨some 61, (some (50, true)), .call (.const (.func (.func n_ref8_binds) [] [])) [(.tmp 51), (.tmp 60)]⟩,
  ⟨some 62, (some (50, true)), .un .not (.tmp 61)⟩,
  ⟨some 63, none, .pick (.tmp 50) (.tmp 62) (.const (.bool false))⟩])
 (.cond (.tmp 63) k_ref8_Safe_p0 .skip))
def k_ref8_Safe_p2 : ACode := (.seq (.seq (.region [⟨some 18, none, .mov (.tmp 5)⟩,
  ⟨some 19, none, .mov (.tmp 3)⟩,
  ⟨some 20, none, .mov (.tmp 4)⟩,
  ⟨some 21, none, .indexAddr 3 (.tmp 19) (.tmp 20)⟩,
  ⟨some 22, none, .fieldAddr 2 (.tmp 21)⟩,
  ⟨some 23, none, .load 1 false (.tmp 22)⟩,
  ⟨some 24, none, .lenSl (.tmp 23)⟩,
  ⟨some 25, none, .bin .lss (.tmp 18) (.tmp 24)⟩])
 (.cond (.tmp 25) .skip (.exit 2)))
 (.seq (.block 3 k_ref8_Safe_p1)
 (.region [⟨some 26, none, .mov (.tmp 5)⟩,
  ⟨some 27, none, .bin .add (.tmp 26) (.const (.int .i64 1))⟩,
  ⟨some 5, none, .mov (.tmp 27)⟩])))
def k_ref8_Safe_p3 : ACode := (.seq (.seq (.region [⟨some 12, none, .mov (.tmp 4)⟩,
  ⟨some 13, none, .mov (.tmp 3)⟩,
  ⟨some 14, none, .lenSl (.tmp 13)⟩,
  ⟨some 15, none, .bin .lss (.tmp 12) (.tmp 14)⟩])
 (.cond (.tmp 15) .skip (.exit 0)))
 (.seq (.block 1 (.seq (.region [⟨some 5, none, .mov (.const (.int .i64 0))⟩])
 (.block 2 (.loop k_ref8_Safe_p2))))
 (.region [⟨some 16, none, .mov (.tmp 4)⟩,
  ⟨some 17, none, .bin .add (.tmp 16) (.const (.int .i64 1))⟩,
  ⟨some 4, none, .mov (.tmp 17)⟩])))
def k_ref8_Safe_p4 : ACode := (.seq (.region [⟨some 6, none, .fieldAddr 0 (.tmp 1)⟩,
  ⟨some 7, none, .load 3 true (.tmp 6)⟩,
  ⟨some 8, none, .buildSlice 1 [(.int .i64 0), (.str []), .nilslice] [(0, 3, (.tmp 7))]⟩,
  ⟨some 9, none, .fieldAddr 3 (.tmp 1)⟩,
  ⟨some 10, none, .load 1 false (.tmp 9)⟩,
  ⟨some 11, none, .append 3 48 (.tmp 8) (.tmp 10)⟩,
  ⟨some 3, none, .mov (.tmp 11)⟩])
 (.seq (.seq (.region [⟨some 4, none, .mov (.const (.int .i64 0))⟩])
 (.block 0 (.loop k_ref8_Safe_p3)))
 (.seq (.region [⟨some 2, none, .mov (.const (.bool true))⟩])
 .ret)))
def k_ref8_Safe : AFun := ⟨64, [.tmp 2], (.seq (.region [⟨some 1, none, .box (.tmp 0)⟩,
  ⟨some 2, none, .mov (.const (.bool false))⟩])
 k_ref8_Safe_p4)⟩
theorem c_ref8_Safe : (XTab.of Try.prog).code 16 = some k_ref8_Safe := by kernel_rfl

/-! delphi/check.Arities -/
/-! delphi/delphiref8.Preds -/
/-! delphi/check.Defined -/
/-! delphi/delphiref8.Defined -/
/-! delphi/delphilaw9.CheckVars$1 -/
/-! delphi/delphilaw9.CheckVars$2 -/
/-! delphi/delphilaw7.begun -/

/-! delphi/delphilaw1.Cut -/

def k_law1_Cut : AFun := ⟨13, [.tmp 4], (.seq (.region [⟨some 4, none, .mov (.const (.str []))⟩])
 (.seq (.seq (.region [⟨some 5, none, .mov (.tmp 0)⟩,
  ⟨some 6, none, .lenStr (.tmp 5)⟩,
  ⟨some 7, none, .mov (.tmp 1)⟩,
  ⟨some 8, none, .bin .gtr (.tmp 6) (.tmp 7)⟩])
 (.cond (.tmp 8) (.seq (.region [⟨some 9, none, .mov (.tmp 0)⟩,
  ⟨some 10, none, .mov (.tmp 1)⟩,
  ⟨some 11, none, .sliceStr (.tmp 9) none (some (.tmp 10))⟩,
  ⟨some 4, none, .mov (.tmp 11)⟩])
 .ret) .skip))
 (.seq (.region [⟨some 12, none, .mov (.tmp 0)⟩,
  ⟨some 4, none, .mov (.tmp 12)⟩])
 .ret)))⟩
theorem c_law1_Cut : (XTab.of Try.prog).code 24 = some k_law1_Cut := by kernel_rfl

/-! delphi/lex.Scan -/

/-! delphi/delphiref8.Scan -/
def k_ref8_Scan_p0 : ACode := (.seq (.seq (.region [⟨some 72, none, .mov (.tmp 5)⟩,
  ⟨some 73, none, .mov (.tmp 0)⟩,
  ⟨some 74, none, .lenStr (.tmp 73)⟩,
  ⟨some 75, none, .bin .lss (.tmp 72) (.tmp 74)⟩,
  ⟨some 76, none, .mov (.tmp 75)⟩,
  ⟨some 77, (some (76, true)), .mov (.tmp 0)⟩,
  ⟨some 78, (some (76, true)), .mov (.tmp 5)⟩,
  ⟨some 79, (some (76, true)), .indexStr (.tmp 77) (.tmp 78)⟩,
  ⟨some 80, (some (76, true)), .bin .neq (.tmp 79) (.const (.int .u8 10))⟩,
  ⟨some 81, none, .pick (.tmp 76) (.tmp 80) (.const (.bool false))⟩])
 (.cond (.tmp 81) .skip (.exit 3)))
 (.block 4 (.region [⟨some 82, none, .mov (.tmp 5)⟩,
  ⟨some 83, none, .bin .add (.tmp 82) (.const (.int .i64 1))⟩,
  ⟨some 5, none, .mov (.tmp 83)⟩])))
def k_ref8_Scan_p1 : ACode := (.seq (.region [⟨some 20, none, .mov (.tmp 0)⟩,
  ⟨some 21, none, .mov (.tmp 5)⟩,
  ⟨some 22, none, .sliceStr (.tmp 20) (some (.tmp 21)) none⟩,
  ⟨some 23, none, .call (.const (.func (.func n_ref8_word) [] [])) [(.tmp 22)]⟩,
  ⟨some 19, none, .mov (.tmp 23)⟩,
  ⟨some 24, none, .extract 0 (.tmp 19)⟩,
  ⟨some 25, none, .extract 1 (.tmp 19)⟩,
  ⟨some 7, none, .mov (.tmp 24)⟩,
  ⟨some 8, none, .mov (.tmp 25)⟩])
 (.seq (.seq (.region [⟨some 26, none, .mov (.tmp 7)⟩,
  ⟨some 27, none, .bin .eql (.tmp 26) (.const (.int .i64 0))⟩,
  ⟨some 28, none, .mov (.tmp 27)⟩,
  ⟨some 29, (some (28, false)), .mov (.tmp 8)⟩,
  ⟨some 30, (some (28, false)), .bin .lss (.tmp 29) (.const (.int .i64 4))⟩,
  ⟨some 31, (some (28, false)), .mov (.tmp 30)⟩,
  ⟨some 32, (some (31, true)), .mov (.tmp 7)⟩,
  ⟨some 33, (some (31, true)), .bin .gtr (.tmp 32) (.const (.int .i64 16))⟩,
  ⟨some 34, (some (28, false)), .pick (.tmp 31) (.tmp 33) (.const (.bool false))⟩,
  ⟨some 35, none, .pick (.tmp 28) (.const (.bool true)) (.tmp 34)⟩])
 (.cond (.tmp 35) (.seq (.region [⟨some 36, none, .mov (.tmp 4)⟩,
  ⟨some 2, none, .mov (.tmp 36)⟩,
  ⟨some 3, none, .mov (.const (.int .i64 4))⟩])
 .ret) .skip))
 (.seq (.region [⟨some 37, none, .mov (.tmp 4)⟩,
  ⟨some 38, none, .mov (.tmp 8)⟩,
  ⟨some 39, none, .mov (.tmp 0)⟩,
  ⟨some 40, none, .mov (.tmp 5)⟩,
  ⟨some 41, none, .mov (.tmp 5)⟩,
  ⟨some 42, none, .mov (.tmp 7)⟩,
  ⟨some 43, none, .bin .add (.tmp 41) (.tmp 42)⟩,
  ⟨some 44, none, .sliceStr (.tmp 39) (some (.tmp 40)) (some (.tmp 43))⟩,
  ⟨some 45, none, .mov (.tmp 5)⟩,
  ⟨some 46, none, .build [(.int .i64 0), (.str []), (.int .i64 0)] [(0, 1, (.tmp 38)), (1, 1, (.tmp 44)), (2, 1, (.tmp 45))]⟩,
  ⟨some 47, none, .buildSlice 1 [(.int .i64 0), (.str []), (.int .i64 0)] [(0, 3, (.tmp 46))]⟩,
  ⟨some 48, none, .append 3 32 (.tmp 37) (.tmp 47)⟩,
  ⟨some 4, none, .mov (.tmp 48)⟩])
 (.region [⟨some 49, none, .mov (.tmp 5)⟩,
  ⟨some 50, none, .mov (.tmp 7)⟩,
  ⟨some 51, none, .bin .add (.tmp 49) (.tmp 50)⟩,
  ⟨some 5, none, .mov (.tmp 51)⟩]))))
def k_ref8_Scan_p2 : ACode := (.seq (.region [⟨some 53, none, .mov (.tmp 6)⟩,
  ⟨some 54, none, .bin .eql (.tmp 53) (.const (.int .u8 32))⟩,
  ⟨some 55, none, .mov (.tmp 54)⟩,
  ⟨some 56, (some (55, false)), .mov (.tmp 6)⟩,
  ⟨some 57, (some (55, false)), .bin .eql (.tmp 56) (.const (.int .u8 9))⟩,
  ⟨some 58, none, .pick (.tmp 55) (.const (.bool true)) (.tmp 57)⟩,
  ⟨some 59, none, .mov (.tmp 58)⟩,
  ⟨some 60, (some (59, false)), .mov (.tmp 6)⟩,
  ⟨some 61, (some (59, false)), .bin .eql (.tmp 60) (.const (.int .u8 10))⟩,
  ⟨some 62, none, .pick (.tmp 59) (.const (.bool true)) (.tmp 61)⟩,
  ⟨some 63, none, .mov (.tmp 62)⟩,
  ⟨some 64, (some (63, false)), .mov (.tmp 6)⟩,
  ⟨some 65, (some (63, false)), .bin .eql (.tmp 64) (.const (.int .u8 13))⟩,
  ⟨some 66, none, .pick (.tmp 63) (.const (.bool true)) (.tmp 65)⟩,
  ⟨some 52, none, .mov (.tmp 66)⟩])
 (.cond (.tmp 52) (.region [⟨some 67, none, .mov (.tmp 5)⟩,
  ⟨some 68, none, .bin .add (.tmp 67) (.const (.int .i64 1))⟩,
  ⟨some 5, none, .mov (.tmp 68)⟩]) (.seq (.region [⟨some 70, none, .mov (.tmp 6)⟩,
  ⟨some 71, none, .bin .eql (.tmp 70) (.const (.int .u8 37))⟩,
  ⟨some 69, none, .mov (.tmp 71)⟩])
 (.cond (.tmp 69) (.block 3 (.loop k_ref8_Scan_p0)) k_ref8_Scan_p1))))
def k_ref8_Scan_p3 : ACode := (.seq (.seq (.region [⟨some 12, none, .mov (.tmp 5)⟩,
  ⟨some 13, none, .mov (.tmp 0)⟩,
  ⟨some 14, none, .lenStr (.tmp 13)⟩,
  ⟨some 15, none, .bin .lss (.tmp 12) (.tmp 14)⟩])
 (.cond (.tmp 15) .skip (.exit 0)))
 (.block 1 (.seq (.region [⟨some 16, none, .mov (.tmp 0)⟩,
  ⟨some 17, none, .mov (.tmp 5)⟩,
  ⟨some 18, none, .indexStr (.tmp 16) (.tmp 17)⟩,
  ⟨some 6, none, .mov (.tmp 18)⟩])
 (.block 2 k_ref8_Scan_p2))))
def k_ref8_Scan : AFun := ⟨85, [.tmp 2, .tmp 3], (.seq (.region [⟨some 2, none, .mov (.const .nilslice)⟩,
  ⟨some 3, none, .mov (.const (.int .i64 0))⟩])
 (.seq (.seq (.region [⟨some 9, none, .mov (.tmp 0)⟩,
  ⟨some 10, none, .lenStr (.tmp 9)⟩,
  ⟨some 11, none, .bin .gtr (.tmp 10) (.const (.int .i64 4000))⟩])
 (.cond (.tmp 11) (.seq (.region [⟨some 2, none, .mov (.const .nilslice)⟩,
  ⟨some 3, none, .mov (.const (.int .i64 8))⟩])
 .ret) .skip))
 (.seq (.region [⟨some 4, none, .mov (.const .nilslice)⟩])
 (.seq (.seq (.region [⟨some 5, none, .mov (.const (.int .i64 0))⟩])
 (.block 0 (.loop k_ref8_Scan_p3)))
 (.seq (.region [⟨some 84, none, .mov (.tmp 4)⟩,
  ⟨some 2, none, .mov (.tmp 84)⟩,
  ⟨some 3, none, .mov (.const (.int .i64 0))⟩])
 .ret)))))⟩
theorem c_ref8_Scan : (XTab.of Try.prog).code 26 = some k_ref8_Scan := by kernel_rfl

/-! delphi/delphilaw12.begun -/

end Go.Proofs.Ytjidefnbancmfaa

set_option maxRecDepth 100000
set_option linter.unusedVariables false
namespace Go.Proofs.Ytjidefnbancmfaa
open Go.AE
/-! delphi/plan.Make -/
def k_plan_Make_p0 : ACode := (.seq (.region [⟨some 34, none, .build [.nilslice, .nilslice] []⟩,
  ⟨none, none, .store 2 (.tmp 4) (.tmp 34)⟩,
  ⟨some 5, none, .mov (.const (.bool false))⟩])
 .ret)
def k_plan_Make_p1 : ACode := (.region [⟨some 43, none, .mov (.tmp 6)⟩,
  ⟨some 44, none, .mov (.tmp 1)⟩,
  ⟨some 45, none, .call (.const (.func (.func n_plan_work_take) [] [])) [(.tmp 43), (.tmp 44)]⟩])
def k_plan_Make_p2 : ACode := (.seq (.seq (.region [⟨some 46, none, .mov (.tmp 6)⟩,
  ⟨some 47, none, .nilCheck (.tmp 46)⟩,
  ⟨some 48, none, .fieldAddr 3 (.tmp 47)⟩,
  ⟨some 49, none, .fieldAddr 0 (.tmp 48)⟩,
  ⟨some 50, none, .load 1 false (.tmp 49)⟩,
  ⟨some 51, none, .lenSl (.tmp 50)⟩,
  ⟨some 52, none, .fieldAddr 3 (.tmp 2)⟩,
  ⟨some 53, none, .load 1 false (.tmp 52)⟩,
  ⟨some 54, none, .lenSl (.tmp 53)⟩,
  ⟨some 55, none, .bin .lss (.tmp 51) (.tmp 54)⟩])
 (.cond (.tmp 55) .skip (.exit 0)))
 (.block 1 (.region [⟨some 56, none, .mov (.tmp 6)⟩,
  ⟨some 57, none, .mov (.tmp 6)⟩,
  ⟨some 58, none, .call (.const (.func (.func n_plan_work_best) [] [])) [(.tmp 57)]⟩,
  ⟨some 59, none, .call (.const (.func (.func n_plan_work_take) [] [])) [(.tmp 56), (.tmp 58)]⟩])))
def k_plan_Make_p3 : ACode := (.seq (.region [⟨some 60, none, .mov (.tmp 6)⟩,
  ⟨some 61, none, .nilCheck (.tmp 60)⟩,
  ⟨some 62, none, .fieldAddr 3 (.tmp 61)⟩,
  ⟨some 63, none, .load 2 true (.tmp 62)⟩,
  ⟨none, none, .store 2 (.tmp 4) (.tmp 63)⟩,
  ⟨some 5, none, .mov (.const (.bool true))⟩])
 .ret)
def k_plan_Make_p4 : ACode := (.seq (.region [⟨some 35, none, .fieldAddr 3 (.tmp 2)⟩,
  ⟨some 36, none, .load 1 false (.tmp 35)⟩,
  ⟨some 37, none, .mkMap⟩,
  ⟨some 38, none, .mkMap⟩,
  ⟨some 39, none, .build [.nilslice, .nilmap, .nilmap, .nilslice, .nilslice] [(0, 1, (.tmp 36)), (1, 1, (.tmp 37)), (2, 1, (.tmp 38))]⟩,
  ⟨some 40, none, .box (.tmp 39)⟩,
  ⟨some 6, none, .mov (.tmp 40)⟩])
 (.seq (.seq (.region [⟨some 41, none, .mov (.tmp 1)⟩,
  ⟨some 42, none, .bin .geq (.tmp 41) (.const (.int .i64 0))⟩])
 (.cond (.tmp 42) k_plan_Make_p1 .skip))
 (.seq (.block 0 (.loop k_plan_Make_p2))
 k_plan_Make_p3)))
def k_plan_Make_p5 : ACode := (.seq (.seq (.region [⟨some 7, none, .load 4 true (.tmp 2)⟩,
  ⟨some 8, none, .call (.const (.func (.func n_check_Safe) [] [])) [(.tmp 7)]⟩,
  ⟨some 9, none, .un .not (.tmp 8)⟩,
  ⟨some 10, none, .mov (.tmp 9)⟩,
  ⟨some 11, (some (10, false)), .mov (.tmp 1)⟩,
  ⟨some 12, (some (10, false)), .bin .lss (.tmp 11) (.const (.int .i64 (-1)))⟩,
  ⟨some 13, none, .pick (.tmp 10) (.const (.bool true)) (.tmp 12)⟩,
  ⟨some 14, none, .mov (.tmp 13)⟩,
  ⟨some 15, (some (14, false)), .mov (.tmp 1)⟩,
  ⟨some 16, (some (14, false)), .fieldAddr 3 (.tmp 2)⟩,
  ⟨some 17, (some (14, false)), .load 1 false (.tmp 16)⟩,
  ⟨some 18, (some (14, false)), .lenSl (.tmp 17)⟩,
  ⟨some 19, (some (14, false)), .bin .geq (.tmp 15) (.tmp 18)⟩,
  ⟨some 20, none, .pick (.tmp 14) (.const (.bool true)) (.tmp 19)⟩,
  ⟨some 21, none, .mov (.tmp 20)⟩,
  ⟨some 22, (some (21, false)), .mov (.tmp 1)⟩,
  ⟨some 23, (some (21, false)), .bin .geq (.tmp 22) (.const (.int .i64 0))⟩,
  ⟨some 24, (some (21, false)), .mov (.tmp 23)⟩,
  ⟨some 25, (some (24, true)), .fieldAddr 3 (.tmp 2)⟩,
  ⟨some 26, (some (24, true)), .load 1 false (.tmp 25)⟩,
  ⟨some 27, (some (24, true)), .mov (.tmp 1)⟩,
  ⟨some 28, (some (24, true)), .indexAddr 3 (.tmp 26) (.tmp 27)⟩,
  ⟨some 29, (some (24, true)), .fieldAddr 0 (.tmp 28)⟩,
  ⟨some 30, (some (24, true)), .load 1 false (.tmp 29)⟩,
  ⟨some 31, (some (24, true)), .bin .neq (.tmp 30) (.const (.int .i64 1))⟩,
  ⟨some 32, (some (21, false)), .pick (.tmp 24) (.tmp 31) (.const (.bool false))⟩,
  ⟨some 33, none, .pick (.tmp 21) (.const (.bool true)) (.tmp 32)⟩])
 (.cond (.tmp 33) k_plan_Make_p0 .skip))
 k_plan_Make_p4)
def k_plan_Make : AFun := ⟨64, [.cell 4 2 true, .tmp 5], (.seq (.region [⟨some 2, none, .box (.tmp 0)⟩,
  ⟨some 4, none, .alloc [.nilslice, .nilslice]⟩,
  ⟨some 5, none, .mov (.const (.bool false))⟩])
 k_plan_Make_p5)⟩
theorem c_plan_Make : (XTab.of Try.prog).code 28 = some k_plan_Make := by kernel_rfl

/-! delphi/delphiref8.Plan -/
def k_ref8_Plan_p0 : ACode := (.seq (.region [⟨some 4, none, .mov (.const .nilslice)⟩,
  ⟨some 5, none, .mov (.const .nilslice)⟩,
  ⟨some 6, none, .mov (.const (.bool false))⟩])
 .ret)
def k_ref8_Plan_p1 : ACode := (.region [⟨some 56, none, .mov (.tmp 8)⟩,
  ⟨some 57, none, .fieldAddr 3 (.tmp 2)⟩,
  ⟨some 58, none, .load 1 false (.tmp 57)⟩,
  ⟨some 59, none, .mov (.tmp 1)⟩,
  ⟨some 60, none, .indexAddr 3 (.tmp 58) (.tmp 59)⟩,
  ⟨some 61, none, .load 3 true (.tmp 60)⟩,
  ⟨some 62, none, .mov (.tmp 8)⟩,
  ⟨some 63, none, .call (.const (.func (.func n_ref8_vars) [] [])) [(.tmp 61), (.tmp 62)]⟩,
  ⟨some 64, none, .append 1 16 (.tmp 56) (.tmp 63)⟩,
  ⟨some 8, none, .mov (.tmp 64)⟩])
def k_ref8_Plan_p2 : ACode := (.seq (.region [⟨some 49, none, .mov (.tmp 7)⟩,
  ⟨some 50, none, .mov (.tmp 1)⟩,
  ⟨some 51, none, .buildSlice 1 [(.int .i64 0)] [(0, 1, (.tmp 50))]⟩,
  ⟨some 52, none, .append 1 8 (.tmp 49) (.tmp 51)⟩,
  ⟨some 7, none, .mov (.tmp 52)⟩])
 (.seq (.region [⟨some 53, none, .mov (.tmp 9)⟩,
  ⟨some 54, none, .mov (.tmp 1)⟩,
  ⟨some 55, none, .indexAddr 1 (.tmp 53) (.tmp 54)⟩,
  ⟨none, none, .store 1 (.tmp 55) (.const (.bool true))⟩])
 k_ref8_Plan_p1))
def k_ref8_Plan_p3 : ACode := (.seq (.region [⟨some 97, none, .mov (.tmp 12)⟩,
  ⟨some 10, none, .mov (.tmp 97)⟩])
 (.exit 2))
def k_ref8_Plan_p4 : ACode := (.seq (.seq (.drawn [⟨⟨some 90, none, .load 3 true (.tmp 13)⟩, false, [], []⟩,
  ⟨⟨some 91, none, .mov (.tmp 8)⟩, false, [], []⟩,
  ⟨⟨some 92, none, .call (.const (.func (.func n_ref8_bound) [] [])) [(.tmp 90), (.tmp 91)]⟩, true, [0, 1], []⟩,
  ⟨⟨some 93, none, .fieldAddr 2 (.tmp 13)⟩, false, [], []⟩,
  ⟨⟨some 94, none, .load 1 false (.tmp 93)⟩, false, [3], []⟩,
  ⟨⟨some 95, none, .lenSl (.tmp 94)⟩, false, [3, 4], []⟩,
  ⟨⟨some 96, none, .bin .eql (.tmp 92) (.tmp 95)⟩, false, [1, 0, 2, 4, 3, 5], []⟩])
 (.cond (.tmp 96) k_ref8_Plan_p3 .skip))
 (.exit 3))
def k_ref8_Plan_p5 : ACode := (.region [⟨some 103, none, .mov (.tmp 12)⟩,
  ⟨some 104, none, .load 3 true (.tmp 13)⟩,
  ⟨some 105, none, .mov (.tmp 8)⟩,
  ⟨some 106, none, .call (.const (.func (.func n_ref8_bound) [] [])) [(.tmp 104), (.tmp 105)]⟩,
  ⟨some 10, none, .mov (.tmp 103)⟩,
  ⟨some 11, none, .mov (.tmp 106)⟩])
def k_ref8_Plan_p6 : ACode := (.seq (.region [⟨some 98, none, .load 3 true (.tmp 13)⟩,
  ⟨some 99, none, .mov (.tmp 8)⟩,
  ⟨some 100, none, .call (.const (.func (.func n_ref8_bound) [] [])) [(.tmp 98), (.tmp 99)]⟩,
  ⟨some 101, none, .mov (.tmp 11)⟩,
  ⟨some 102, none, .bin .gtr (.tmp 100) (.tmp 101)⟩])
 (.cond (.tmp 102) k_ref8_Plan_p5 .skip))
def k_ref8_Plan_p7 : ACode := (.seq (.seq (.region [⟨some 83, none, .mov (.tmp 9)⟩,
  ⟨some 84, none, .mov (.tmp 12)⟩,
  ⟨some 85, none, .indexAddr 1 (.tmp 83) (.tmp 84)⟩,
  ⟨some 86, none, .load 1 false (.tmp 85)⟩])
 (.cond (.tmp 86) (.exit 3) .skip))
 (.seq (.seq (.region [⟨some 87, none, .fieldAddr 0 (.tmp 13)⟩,
  ⟨some 88, none, .load 1 false (.tmp 87)⟩,
  ⟨some 89, none, .bin .neq (.tmp 88) (.const (.int .i64 1))⟩])
 (.cond (.tmp 89) k_ref8_Plan_p4 .skip))
 k_ref8_Plan_p6))
def k_ref8_Plan_p8 : ACode := (.seq (.region [⟨some 78, none, .fieldAddr 3 (.tmp 2)⟩,
  ⟨some 79, none, .load 1 false (.tmp 78)⟩,
  ⟨some 80, none, .mov (.tmp 12)⟩,
  ⟨some 81, none, .indexAddr 3 (.tmp 79) (.tmp 80)⟩,
  ⟨some 82, none, .load 3 true (.tmp 81)⟩,
  ⟨some 13, none, .alloc [(.int .i64 0), (.str []), .nilslice]⟩,
  ⟨none, none, .store 3 (.tmp 13) (.tmp 82)⟩])
 k_ref8_Plan_p7)
def k_ref8_Plan_p9 : ACode := (.seq (.seq (.region [⟨some 71, none, .mov (.tmp 12)⟩,
  ⟨some 72, none, .fieldAddr 3 (.tmp 2)⟩,
  ⟨some 73, none, .load 1 false (.tmp 72)⟩,
  ⟨some 74, none, .lenSl (.tmp 73)⟩,
  ⟨some 75, none, .bin .lss (.tmp 71) (.tmp 74)⟩])
 (.cond (.tmp 75) .skip (.exit 2)))
 (.seq (.block 3 k_ref8_Plan_p8)
 (.region [⟨some 76, none, .mov (.tmp 12)⟩,
  ⟨some 77, none, .bin .add (.tmp 76) (.const (.int .i64 1))⟩,
  ⟨some 12, none, .mov (.tmp 77)⟩])))
def k_ref8_Plan_p10 : ACode := (.seq (.region [⟨some 138, none, .mov (.tmp 14)⟩,
  ⟨some 10, none, .mov (.tmp 138)⟩])
 (.exit 4))
def k_ref8_Plan_p11 : ACode := (.seq (.drawn [⟨⟨some 119, none, .mov (.tmp 9)⟩, false, [], []⟩,
  ⟨⟨some 120, none, .mov (.tmp 14)⟩, false, [], []⟩,
  ⟨⟨some 121, none, .indexAddr 1 (.tmp 119) (.tmp 120)⟩, false, [0, 1], []⟩,
  ⟨⟨some 122, none, .load 1 false (.tmp 121)⟩, false, [1, 0, 2], []⟩,
  ⟨⟨some 123, none, .un .not (.tmp 122)⟩, false, [2, 0, 1, 3], []⟩,
  ⟨⟨some 124, none, .mov (.tmp 123)⟩, false, [3, 1, 0, 2, 4], []⟩,
  ⟨⟨some 125, (some (124, true)), .fieldAddr 0 (.tmp 15)⟩, false, [4, 2, 0, 1, 3, 5], []⟩,
  ⟨⟨some 126, (some (124, true)), .load 1 false (.tmp 125)⟩, false, [6, 4, 2, 0, 1, 3, 5], []⟩,
  ⟨⟨some 127, (some (124, true)), .bin .neq (.tmp 126) (.const (.int .i64 1))⟩, false, [6, 7, 4, 2, 0, 1, 3, 5], []⟩,
  ⟨⟨some 128, none, .pick (.tmp 124) (.tmp 127) (.const (.bool false))⟩, false, [5, 3, 1, 0, 2, 4, 7, 6, 8], []⟩,
  ⟨⟨some 129, none, .mov (.tmp 128)⟩, false, [8, 6, 7, 9, 4, 2, 0, 1, 3, 5], []⟩,
  ⟨⟨some 130, (some (129, true)), .load 3 true (.tmp 15)⟩, false, [5, 3, 1, 0, 2, 4, 9, 7, 6, 8, 10], []⟩,
  ⟨⟨some 131, (some (129, true)), .mov (.tmp 8)⟩, false, [5, 3, 1, 0, 2, 4, 9, 7, 6, 8, 10], []⟩,
  ⟨⟨some 132, (some (129, true)), .call (.const (.func (.func n_ref8_bound) [] [])) [(.tmp 130), (.tmp 131)]⟩, true, [11, 12, 5, 3, 1, 0, 2, 4, 9, 7, 6, 8, 10], []⟩,
  ⟨⟨some 133, (some (129, true)), .fieldAddr 2 (.tmp 15)⟩, false, [5, 3, 1, 0, 2, 4, 9, 7, 6, 8, 10], []⟩,
  ⟨⟨some 134, (some (129, true)), .load 1 false (.tmp 133)⟩, false, [14, 5, 3, 1, 0, 2, 4, 9, 7, 6, 8, 10], []⟩,
  ⟨⟨some 135, (some (129, true)), .lenSl (.tmp 134)⟩, false, [14, 15, 5, 3, 1, 0, 2, 4, 9, 7, 6, 8, 10], []⟩,
  ⟨⟨some 136, (some (129, true)), .bin .eql (.tmp 132) (.tmp 135)⟩, false, [12, 11, 13, 15, 14, 16, 5, 3, 1, 0, 2, 4, 9, 7, 6, 8, 10], []⟩,
  ⟨⟨some 137, none, .pick (.tmp 129) (.tmp 136) (.const (.bool false))⟩, false, [10, 8, 6, 7, 9, 4, 2, 0, 1, 3, 5, 16, 14, 15, 13, 11, 12, 17], []⟩])
 (.cond (.tmp 137) k_ref8_Plan_p10 .skip))
def k_ref8_Plan_p12 : ACode := (.seq (.region [⟨some 114, none, .fieldAddr 3 (.tmp 2)⟩,
  ⟨some 115, none, .load 1 false (.tmp 114)⟩,
  ⟨some 116, none, .mov (.tmp 14)⟩,
  ⟨some 117, none, .indexAddr 3 (.tmp 115) (.tmp 116)⟩,
  ⟨some 118, none, .load 3 true (.tmp 117)⟩,
  ⟨some 15, none, .alloc [(.int .i64 0), (.str []), .nilslice]⟩,
  ⟨none, none, .store 3 (.tmp 15) (.tmp 118)⟩])
 k_ref8_Plan_p11)
def k_ref8_Plan_p13 : ACode := (.seq (.seq (.region [⟨some 107, none, .mov (.tmp 14)⟩,
  ⟨some 108, none, .fieldAddr 3 (.tmp 2)⟩,
  ⟨some 109, none, .load 1 false (.tmp 108)⟩,
  ⟨some 110, none, .lenSl (.tmp 109)⟩,
  ⟨some 111, none, .bin .lss (.tmp 107) (.tmp 110)⟩])
 (.cond (.tmp 111) .skip (.exit 4)))
 (.seq (.block 5 k_ref8_Plan_p12)
 (.region [⟨some 112, none, .mov (.tmp 14)⟩,
  ⟨some 113, none, .bin .add (.tmp 112) (.const (.int .i64 1))⟩,
  ⟨some 14, none, .mov (.tmp 113)⟩])))
def k_ref8_Plan_p14 : ACode := (.region [⟨some 146, none, .mov (.tmp 8)⟩,
  ⟨some 147, none, .fieldAddr 3 (.tmp 2)⟩,
  ⟨some 148, none, .load 1 false (.tmp 147)⟩,
  ⟨some 149, none, .mov (.tmp 10)⟩,
  ⟨some 150, none, .indexAddr 3 (.tmp 148) (.tmp 149)⟩,
  ⟨some 151, none, .load 3 true (.tmp 150)⟩,
  ⟨some 152, none, .mov (.tmp 8)⟩,
  ⟨some 153, none, .call (.const (.func (.func n_ref8_vars) [] [])) [(.tmp 151), (.tmp 152)]⟩,
  ⟨some 154, none, .append 1 16 (.tmp 146) (.tmp 153)⟩,
  ⟨some 8, none, .mov (.tmp 154)⟩])
def k_ref8_Plan_p15 : ACode := (.seq (.region [⟨some 139, none, .mov (.tmp 7)⟩,
  ⟨some 140, none, .mov (.tmp 10)⟩,
  ⟨some 141, none, .buildSlice 1 [(.int .i64 0)] [(0, 1, (.tmp 140))]⟩,
  ⟨some 142, none, .append 1 8 (.tmp 139) (.tmp 141)⟩,
  ⟨some 7, none, .mov (.tmp 142)⟩])
 (.seq (.region [⟨some 143, none, .mov (.tmp 9)⟩,
  ⟨some 144, none, .mov (.tmp 10)⟩,
  ⟨some 145, none, .indexAddr 1 (.tmp 143) (.tmp 144)⟩,
  ⟨none, none, .store 1 (.tmp 145) (.const (.bool true))⟩])
 k_ref8_Plan_p14))
def k_ref8_Plan_p16 : ACode := (.seq (.region [⟨some 10, none, .mov (.const (.int .i64 (-1)))⟩,
  ⟨some 11, none, .mov (.const (.int .i64 (-1)))⟩])
 (.seq (.seq (.region [⟨some 12, none, .mov (.const (.int .i64 0))⟩])
 (.block 2 (.loop k_ref8_Plan_p9)))
 (.seq (.seq (.region [⟨some 14, none, .mov (.const (.int .i64 0))⟩])
 (.block 4 (.loop k_ref8_Plan_p13)))
 k_ref8_Plan_p15)))
def k_ref8_Plan_p17 : ACode := (.seq (.seq (.region [⟨some 65, none, .mov (.tmp 7)⟩,
  ⟨some 66, none, .lenSl (.tmp 65)⟩,
  ⟨some 67, none, .fieldAddr 3 (.tmp 2)⟩,
  ⟨some 68, none, .load 1 false (.tmp 67)⟩,
  ⟨some 69, none, .lenSl (.tmp 68)⟩,
  ⟨some 70, none, .bin .lss (.tmp 66) (.tmp 69)⟩])
 (.cond (.tmp 70) .skip (.exit 0)))
 (.block 1 k_ref8_Plan_p16))
def k_ref8_Plan_p18 : ACode := (.seq (.seq (.region [⟨some 47, none, .mov (.tmp 1)⟩,
  ⟨some 48, none, .bin .geq (.tmp 47) (.const (.int .i64 0))⟩])
 (.cond (.tmp 48) k_ref8_Plan_p2 .skip))
 (.seq (.block 0 (.loop k_ref8_Plan_p17))
 (.seq (.region [⟨some 155, none, .mov (.tmp 7)⟩,
  ⟨some 156, none, .mov (.tmp 8)⟩,
  ⟨some 4, none, .mov (.tmp 155)⟩,
  ⟨some 5, none, .mov (.tmp 156)⟩,
  ⟨some 6, none, .mov (.const (.bool true))⟩])
 .ret)))
def k_ref8_Plan_p19 : ACode := (.seq (.region [⟨some 8, none, .mov (.const .nilslice)⟩])
 (.seq (.region [⟨some 43, none, .fieldAddr 3 (.tmp 2)⟩,
  ⟨some 44, none, .load 1 false (.tmp 43)⟩,
  ⟨some 45, none, .lenSl (.tmp 44)⟩,
  ⟨some 46, none, .mkSlice 1 1 [(.bool false)] (.tmp 45) (.tmp 45)⟩,
  ⟨some 9, none, .mov (.tmp 46)⟩])
 k_ref8_Plan_p18))
def k_ref8_Plan_p20 : ACode := (.seq (.seq (.region [⟨some 16, none, .load 4 true (.tmp 2)⟩,
  ⟨some 17, none, .call (.const (.func (.func n_ref8_Safe) [] [])) [(.tmp 16)]⟩,
  ⟨some 18, none, .un .not (.tmp 17)⟩,
  ⟨some 19, none, .mov (.tmp 18)⟩,
  ⟨some 20, (some (19, false)), .mov (.tmp 1)⟩,
  ⟨some 21, (some (19, false)), .bin .lss (.tmp 20) (.const (.int .i64 (-1)))⟩,
  ⟨some 22, none, .pick (.tmp 19) (.const (.bool true)) (.tmp 21)⟩,
  ⟨some 23, none, .mov (.tmp 22)⟩,
  ⟨some 24, (some (23, false)), .mov (.tmp 1)⟩,
  ⟨some 25, (some (23, false)), .fieldAddr 3 (.tmp 2)⟩,
  ⟨some 26, (some (23, false)), .load 1 false (.tmp 25)⟩,
  ⟨some 27, (some (23, false)), .lenSl (.tmp 26)⟩,
  ⟨some 28, (some (23, false)), .bin .geq (.tmp 24) (.tmp 27)⟩,
  ⟨some 29, none, .pick (.tmp 23) (.const (.bool true)) (.tmp 28)⟩,
  ⟨some 30, none, .mov (.tmp 29)⟩,
  ⟨some 31, (some (30, false)), .mov (.tmp 1)⟩,
  ⟨some 32, (some (30, false)), .bin .geq (.tmp 31) (.const (.int .i64 0))⟩,
  ⟨some 33, (some (30, false)), .mov (.tmp 32)⟩,
  ⟨some 34, (some (33, true)), .fieldAddr 3 (.tmp 2)⟩,
  ⟨some 35, (some (33, true)), .load 1 false (.tmp 34)⟩,
  ⟨some 36, (some (33, true)), .mov (.tmp 1)⟩,
  ⟨some 37, (some (33, true)), .indexAddr 3 (.tmp 35) (.tmp 36)⟩,
  ⟨some 38, (some (33, true)), .fieldAddr 0 (.tmp 37)⟩,
  ⟨some 39, (some (33, true)), .load 1 false (.tmp 38)⟩,
  ⟨some 40, (some (33, true)), .bin .neq (.tmp 39) (.const (.int .i64 1))⟩,
  ⟨some 41, (some (30, false)), .pick (.tmp 33) (.tmp 40) (.const (.bool false))⟩,
  ⟨some 42, none, .pick (.tmp 30) (.const (.bool true)) (.tmp 41)⟩])
 (.cond (.tmp 42) k_ref8_Plan_p0 .skip))
 (.seq (.region [⟨some 7, none, .mov (.const .nilslice)⟩])
 k_ref8_Plan_p19))
def k_ref8_Plan : AFun := ⟨157, [.tmp 4, .tmp 5, .tmp 6], (.seq (.region [⟨some 2, none, .box (.tmp 0)⟩,
  ⟨some 4, none, .mov (.const .nilslice)⟩,
  ⟨some 5, none, .mov (.const .nilslice)⟩,
  ⟨some 6, none, .mov (.const (.bool false))⟩])
 k_ref8_Plan_p20)⟩
theorem c_ref8_Plan : (XTab.of Try.prog).code 29 = some k_ref8_Plan := by kernel_rfl

/-! delphi/delphilaw11.begun -/

/-! delphi/relation.New -/

/-! delphi/delphilaw11.eq -/
/-! (*delphi/relation.Set).Add -/

/-! (*delphi/relation.Set).Remove -/

/-! (*delphi/relation.Set).Has -/

/-! delphi/delphilaw11.rows -/
/-! (*delphi/relation.Set).Match -/
/-! (*delphi/relation.Set).Copy -/

/-! (*delphi/relation.Set).All -/

/-! (*delphi/relation.Set).Len -/

/-! delphi/delphilaw11.less -/
/-! delphi/delphiref8.Program -/
def k_ref8_Program_p0 : ACode := (.seq (.region [⟨some 17, none, .mov (.tmp 5)⟩,
  ⟨some 2, none, .mov (.const .nilslice)⟩,
  ⟨some 3, none, .mov (.tmp 17)⟩])
 .ret)
def k_ref8_Program_p1 : ACode := (.region [⟨some 75, none, .mov (.tmp 6)⟩,
  ⟨some 76, none, .call (.const (.func (.func n_ref8_P_bad) [] [])) [(.tmp 75), (.const (.int .i64 8))]⟩])
def k_ref8_Program_p2 : ACode := (.region [⟨some 86, none, .mov (.tmp 6)⟩,
  ⟨some 87, none, .nilCheck (.tmp 86)⟩,
  ⟨some 88, none, .fieldAddr 1 (.tmp 87)⟩,
  ⟨some 89, none, .load 1 false (.tmp 88)⟩,
  ⟨some 90, none, .bin .add (.tmp 89) (.const (.int .i64 1))⟩,
  ⟨some 91, none, .nilCheck (.tmp 86)⟩,
  ⟨some 92, none, .fieldAddr 1 (.tmp 91)⟩,
  ⟨none, none, .store 1 (.tmp 92) (.tmp 90)⟩])
def k_ref8_Program_p3 : ACode := (.seq (.region [⟨some 77, none, .fieldAddr 3 (.tmp 8)⟩,
  ⟨some 78, none, .load 1 false (.tmp 77)⟩,
  ⟨some 79, none, .load 3 true (.tmp 9)⟩,
  ⟨some 80, none, .buildSlice 1 [(.int .i64 0), (.str []), .nilslice] [(0, 3, (.tmp 79))]⟩,
  ⟨some 81, none, .append 3 48 (.tmp 78) (.tmp 80)⟩,
  ⟨some 82, none, .fieldAddr 3 (.tmp 8)⟩,
  ⟨none, none, .store 1 (.tmp 82) (.tmp 81)⟩])
 (.seq (.seq (.region [⟨some 83, none, .mov (.tmp 6)⟩,
  ⟨some 84, none, .call (.const (.func (.func n_ref8_P_sign) [] [])) [(.tmp 83), (.const (.str [44]))]⟩,
  ⟨some 85, none, .un .not (.tmp 84)⟩])
 (.cond (.tmp 85) (.exit 2) .skip))
 k_ref8_Program_p2))
def k_ref8_Program_p4 : ACode := (.seq (.seq (.region [⟨some 64, none, .mov (.tmp 6)⟩,
  ⟨some 65, none, .nilCheck (.tmp 64)⟩,
  ⟨some 66, none, .fieldAddr 2 (.tmp 65)⟩,
  ⟨some 67, none, .load 1 false (.tmp 66)⟩,
  ⟨some 68, none, .bin .eql (.tmp 67) (.const (.int .i64 0))⟩,
  ⟨some 69, none, .mov (.tmp 68)⟩,
  ⟨some 70, (some (69, true)), .fieldAddr 3 (.tmp 8)⟩,
  ⟨some 71, (some (69, true)), .load 1 false (.tmp 70)⟩,
  ⟨some 72, (some (69, true)), .lenSl (.tmp 71)⟩,
  ⟨some 73, (some (69, true)), .bin .eql (.tmp 72) (.const (.int .i64 6))⟩,
  ⟨some 74, none, .pick (.tmp 69) (.tmp 73) (.const (.bool false))⟩])
 (.cond (.tmp 74) k_ref8_Program_p1 .skip))
 k_ref8_Program_p3)
def k_ref8_Program_p5 : ACode := (.seq (.seq (.region [⟨some 57, none, .mov (.tmp 6)⟩,
  ⟨some 58, none, .nilCheck (.tmp 57)⟩,
  ⟨some 59, none, .fieldAddr 2 (.tmp 58)⟩,
  ⟨some 60, none, .load 1 false (.tmp 59)⟩,
  ⟨some 61, none, .bin .eql (.tmp 60) (.const (.int .i64 0))⟩])
 (.cond (.tmp 61) .skip (.exit 2)))
 (.block 3 (.seq (.region [⟨some 62, none, .mov (.tmp 6)⟩,
  ⟨some 63, none, .call (.const (.func (.func n_ref8_P_literal) [] [])) [(.tmp 62)]⟩,
  ⟨some 9, none, .alloc [(.int .i64 0), (.str []), .nilslice]⟩,
  ⟨none, none, .store 3 (.tmp 9) (.tmp 63)⟩])
 k_ref8_Program_p4)))
def k_ref8_Program_p6 : ACode := (.seq (.region [⟨some 50, none, .mov (.tmp 6)⟩,
  ⟨some 51, none, .nilCheck (.tmp 50)⟩,
  ⟨some 52, none, .fieldAddr 1 (.tmp 51)⟩,
  ⟨some 53, none, .load 1 false (.tmp 52)⟩,
  ⟨some 54, none, .bin .add (.tmp 53) (.const (.int .i64 1))⟩,
  ⟨some 55, none, .nilCheck (.tmp 50)⟩,
  ⟨some 56, none, .fieldAddr 1 (.tmp 55)⟩,
  ⟨none, none, .store 1 (.tmp 56) (.tmp 54)⟩])
 (.block 2 (.loop k_ref8_Program_p5)))
def k_ref8_Program_p7 : ACode := (.region [⟨some 105, none, .mov (.tmp 6)⟩,
  ⟨some 106, none, .call (.const (.func (.func n_ref8_P_bad) [] [])) [(.tmp 105), (.const (.int .i64 8))]⟩])
def k_ref8_Program_p8 : ACode := (.region [⟨some 107, none, .mov (.tmp 7)⟩,
  ⟨some 108, none, .load 4 true (.tmp 8)⟩,
  ⟨some 109, none, .buildSlice 1 [(.int .i64 0), (.str []), .nilslice, .nilslice] [(0, 4, (.tmp 108))]⟩,
  ⟨some 110, none, .append 4 72 (.tmp 107) (.tmp 109)⟩,
  ⟨some 7, none, .mov (.tmp 110)⟩])
def k_ref8_Program_p9 : ACode := (.seq (.seq (.region [⟨some 95, none, .mov (.tmp 6)⟩,
  ⟨some 96, none, .nilCheck (.tmp 95)⟩,
  ⟨some 97, none, .fieldAddr 2 (.tmp 96)⟩,
  ⟨some 98, none, .load 1 false (.tmp 97)⟩,
  ⟨some 99, none, .bin .eql (.tmp 98) (.const (.int .i64 0))⟩,
  ⟨some 100, none, .mov (.tmp 99)⟩,
  ⟨some 101, (some (100, true)), .mov (.tmp 7)⟩,
  ⟨some 102, (some (100, true)), .lenSl (.tmp 101)⟩,
  ⟨some 103, (some (100, true)), .bin .eql (.tmp 102) (.const (.int .i64 30))⟩,
  ⟨some 104, none, .pick (.tmp 100) (.tmp 103) (.const (.bool false))⟩])
 (.cond (.tmp 104) k_ref8_Program_p7 .skip))
 k_ref8_Program_p8)
def k_ref8_Program_p10 : ACode := (.seq (.seq (.region [⟨some 41, none, .mov (.tmp 6)⟩,
  ⟨some 42, none, .call (.const (.func (.func n_ref8_P_sign) [] [])) [(.tmp 41), (.const (.str [58, 45]))]⟩,
  ⟨some 43, none, .mov (.tmp 42)⟩,
  ⟨some 44, (some (43, true)), .mov (.tmp 6)⟩,
  ⟨some 45, (some (43, true)), .nilCheck (.tmp 44)⟩,
  ⟨some 46, (some (43, true)), .fieldAddr 2 (.tmp 45)⟩,
  ⟨some 47, (some (43, true)), .load 1 false (.tmp 46)⟩,
  ⟨some 48, (some (43, true)), .bin .eql (.tmp 47) (.const (.int .i64 0))⟩,
  ⟨some 49, none, .pick (.tmp 43) (.tmp 48) (.const (.bool false))⟩])
 (.cond (.tmp 49) k_ref8_Program_p6 .skip))
 (.seq (.region [⟨some 93, none, .mov (.tmp 6)⟩,
  ⟨some 94, none, .call (.const (.func (.func n_ref8_P_eat) [] [])) [(.tmp 93), (.const (.str [46]))]⟩])
 k_ref8_Program_p9))
def k_ref8_Program_p11 : ACode := (.seq (.region [⟨some 38, none, .mov (.tmp 6)⟩,
  ⟨some 39, none, .call (.const (.func (.func n_ref8_P_atom) [] [])) [(.tmp 38)]⟩,
  ⟨some 40, none, .build [(.int .i64 0), (.str []), .nilslice, .nilslice] [(0, 3, (.tmp 39))]⟩,
  ⟨some 8, none, .alloc [(.int .i64 0), (.str []), .nilslice, .nilslice]⟩,
  ⟨none, none, .store 4 (.tmp 8) (.tmp 40)⟩])
 k_ref8_Program_p10)
def k_ref8_Program_p12 : ACode := (.seq (.seq (.region [⟨some 21, none, .mov (.tmp 6)⟩,
  ⟨some 22, none, .nilCheck (.tmp 21)⟩,
  ⟨some 23, none, .fieldAddr 2 (.tmp 22)⟩,
  ⟨some 24, none, .load 1 false (.tmp 23)⟩,
  ⟨some 25, none, .bin .eql (.tmp 24) (.const (.int .i64 0))⟩,
  ⟨some 26, none, .mov (.tmp 25)⟩,
  ⟨some 27, (some (26, true)), .mov (.tmp 6)⟩,
  ⟨some 28, (some (26, true)), .nilCheck (.tmp 27)⟩,
  ⟨some 29, (some (26, true)), .fieldAddr 1 (.tmp 28)⟩,
  ⟨some 30, (some (26, true)), .load 1 false (.tmp 29)⟩,
  ⟨some 31, (some (26, true)), .mov (.tmp 6)⟩,
  ⟨some 32, (some (26, true)), .nilCheck (.tmp 31)⟩,
  ⟨some 33, (some (26, true)), .fieldAddr 0 (.tmp 32)⟩,
  ⟨some 34, (some (26, true)), .load 1 false (.tmp 33)⟩,
  ⟨some 35, (some (26, true)), .lenSl (.tmp 34)⟩,
  ⟨some 36, (some (26, true)), .bin .lss (.tmp 30) (.tmp 35)⟩,
  ⟨some 37, none, .pick (.tmp 26) (.tmp 36) (.const (.bool false))⟩])
 (.cond (.tmp 37) .skip (.exit 0)))
 (.block 1 k_ref8_Program_p11))
def k_ref8_Program_p13 : ACode := (.seq (.region [⟨some 119, none, .mov (.tmp 6)⟩,
  ⟨some 120, none, .nilCheck (.tmp 119)⟩,
  ⟨some 121, none, .fieldAddr 2 (.tmp 120)⟩,
  ⟨some 122, none, .load 1 false (.tmp 121)⟩,
  ⟨some 2, none, .mov (.const .nilslice)⟩,
  ⟨some 3, none, .mov (.tmp 122)⟩])
 .ret)
def k_ref8_Program_p14 : ACode := (.seq (.seq (.region [⟨some 114, none, .mov (.tmp 6)⟩,
  ⟨some 115, none, .nilCheck (.tmp 114)⟩,
  ⟨some 116, none, .fieldAddr 2 (.tmp 115)⟩,
  ⟨some 117, none, .load 1 false (.tmp 116)⟩,
  ⟨some 118, none, .bin .neq (.tmp 117) (.const (.int .i64 0))⟩])
 (.cond (.tmp 118) k_ref8_Program_p13 .skip))
 (.seq (.region [⟨some 123, none, .mov (.tmp 7)⟩,
  ⟨some 2, none, .mov (.tmp 123)⟩,
  ⟨some 3, none, .mov (.const (.int .i64 0))⟩])
 .ret))
def k_ref8_Program_p15 : ACode := (.seq (.region [⟨some 7, none, .mov (.const .nilslice)⟩])
 (.seq (.block 0 (.loop k_ref8_Program_p12))
 (.seq (.region [⟨some 111, none, .mov (.tmp 6)⟩,
  ⟨some 112, none, .mov (.tmp 5)⟩,
  ⟨some 113, none, .call (.const (.func (.func n_ref8_P_bad) [] [])) [(.tmp 111), (.tmp 112)]⟩])
 k_ref8_Program_p14)))
def k_ref8_Program_p16 : ACode := (.seq (.seq (.region [⟨some 15, none, .mov (.tmp 5)⟩,
  ⟨some 16, none, .bin .eql (.tmp 15) (.const (.int .i64 8))⟩])
 (.cond (.tmp 16) k_ref8_Program_p0 .skip))
 (.seq (.region [⟨some 18, none, .mov (.tmp 4)⟩,
  ⟨some 19, none, .build [.nilslice, (.int .i64 0), (.int .i64 0)] [(0, 1, (.tmp 18))]⟩,
  ⟨some 20, none, .box (.tmp 19)⟩,
  ⟨some 6, none, .mov (.tmp 20)⟩])
 k_ref8_Program_p15))
def k_ref8_Program_p17 : ACode := (.seq (.region [⟨some 11, none, .mov (.tmp 0)⟩,
  ⟨some 12, none, .call (.const (.func (.func n_ref8_Scan) [] [])) [(.tmp 11)]⟩,
  ⟨some 10, none, .mov (.tmp 12)⟩,
  ⟨some 13, none, .extract 0 (.tmp 10)⟩,
  ⟨some 14, none, .extract 1 (.tmp 10)⟩,
  ⟨some 4, none, .mov (.tmp 13)⟩,
  ⟨some 5, none, .mov (.tmp 14)⟩])
 k_ref8_Program_p16)
def k_ref8_Program : AFun := ⟨124, [.tmp 2, .tmp 3], (.seq (.region [⟨some 2, none, .mov (.const .nilslice)⟩,
  ⟨some 3, none, .mov (.const (.int .i64 0))⟩])
 k_ref8_Program_p17)⟩
theorem c_ref8_Program : (XTab.of Try.prog).code 42 = some k_ref8_Program := by kernel_rfl

/-! delphi/check.Vars -/
def k_check_Vars_p0 : ACode := (.region [⟨some 27, none, .mov (.tmp 3)⟩,
  ⟨some 28, none, .fieldAddr 1 (.tmp 6)⟩,
  ⟨some 29, none, .load 1 false (.tmp 28)⟩,
  ⟨some 30, none, .buildSlice 1 [(.str [])] [(0, 1, (.tmp 29))]⟩,
  ⟨some 31, none, .append 1 16 (.tmp 27) (.tmp 30)⟩,
  ⟨some 3, none, .mov (.tmp 31)⟩])
def k_check_Vars_p1 : ACode := (.seq (.region [⟨some 22, none, .mov (.tmp 4)⟩,
  ⟨some 23, none, .fieldAddr 1 (.tmp 6)⟩,
  ⟨some 24, none, .load 1 false (.tmp 23)⟩,
  ⟨some 25, none, .lookup (.scalar .str) (.int .i64 0) false (.tmp 22) (.tmp 24)⟩,
  ⟨some 26, none, .bin .eql (.tmp 25) (.const (.int .i64 1))⟩])
 (.cond (.tmp 26) k_check_Vars_p0 .skip))
def k_check_Vars_p2 : ACode := (.seq (.region [⟨some 17, none, .mov (.tmp 4)⟩,
  ⟨some 18, none, .fieldAddr 1 (.tmp 6)⟩,
  ⟨some 19, none, .load 1 false (.tmp 18)⟩,
  ⟨some 20, none, .lookup (.scalar .str) (.int .i64 0) false (.tmp 17) (.tmp 19)⟩,
  ⟨some 21, none, .bin .add (.tmp 20) (.const (.int .i64 1))⟩,
  ⟨none, none, .mapUpdate (.scalar .str) (.tmp 17) (.tmp 19) (.tmp 21)⟩])
 k_check_Vars_p1)
def k_check_Vars_p3 : ACode := (.seq (.region [⟨some 12, none, .indexAddr 3 (.tmp 8) (.tmp 10)⟩,
  ⟨some 13, none, .load 3 true (.tmp 12)⟩,
  ⟨some 6, none, .alloc [(.int .i64 0), (.str []), (.int .i64 0)]⟩,
  ⟨none, none, .store 3 (.tmp 6) (.tmp 13)⟩])
 (.seq (.region [⟨some 14, none, .fieldAddr 0 (.tmp 6)⟩,
  ⟨some 15, none, .load 1 false (.tmp 14)⟩,
  ⟨some 16, none, .bin .eql (.tmp 15) (.const (.int .i64 1))⟩])
 (.cond (.tmp 16) k_check_Vars_p2 .skip)))
def k_check_Vars_p4 : ACode := (.seq (.region [⟨some 11, none, .bin .lss (.tmp 10) (.tmp 9)⟩])
 (.seq (.cond (.tmp 11) .skip (.exit 0))
 (.seq (.block 1 k_check_Vars_p3)
 (.region [⟨some 32, none, .bin .add (.tmp 10) (.const (.int .i64 1))⟩,
  ⟨some 10, none, .mov (.tmp 32)⟩]))))
def k_check_Vars_p5 : ACode := (.seq (.seq (.region [⟨some 8, none, .mov (.tmp 0)⟩,
  ⟨some 9, none, .lenSl (.tmp 8)⟩,
  ⟨some 10, none, .mov (.const (.int .i64 0))⟩])
 (.block 0 (.loop k_check_Vars_p4)))
 (.seq (.region [⟨some 33, none, .mov (.tmp 3)⟩,
  ⟨some 2, none, .mov (.tmp 33)⟩])
 .ret))
def k_check_Vars : AFun := ⟨34, [.tmp 2], (.seq (.region [⟨some 2, none, .mov (.const .nilslice)⟩])
 (.seq (.region [⟨some 3, none, .mov (.const .nilslice)⟩])
 (.seq (.region [⟨some 7, none, .mkMap⟩,
  ⟨some 4, none, .mov (.tmp 7)⟩])
 k_check_Vars_p5)))⟩
theorem c_check_Vars : (XTab.of Try.prog).code 43 = some k_check_Vars := by kernel_rfl

/-! delphi/delphiref8.binds -/
def k_ref8_binds_p0 : ACode := (.seq (.region [⟨some 4, none, .mov (.const (.bool true))⟩])
 .ret)
def k_ref8_binds_p1 : ACode := (.seq (.region [⟨some 34, none, .fieldAddr 3 (.tmp 2)⟩,
  ⟨some 35, none, .load 1 false (.tmp 34)⟩,
  ⟨some 36, none, .mov (.tmp 5)⟩,
  ⟨some 37, none, .indexAddr 3 (.tmp 35) (.tmp 36)⟩,
  ⟨some 38, none, .fieldAddr 2 (.tmp 37)⟩,
  ⟨some 39, none, .load 1 false (.tmp 38)⟩,
  ⟨some 40, none, .mov (.tmp 6)⟩,
  ⟨some 41, none, .indexAddr 3 (.tmp 39) (.tmp 40)⟩,
  ⟨some 42, none, .fieldAddr 0 (.tmp 41)⟩,
  ⟨some 43, none, .load 1 false (.tmp 42)⟩,
  ⟨some 44, none, .bin .eql (.tmp 43) (.const (.int .i64 1))⟩,
  ⟨some 45, none, .mov (.tmp 44)⟩,
  ⟨some 46, (some (45, true)), .fieldAddr 3 (.tmp 2)⟩,
  ⟨some 47, (some (45, true)), .load 1 false (.tmp 46)⟩,
  ⟨some 48, (some (45, true)), .mov (.tmp 5)⟩,
  ⟨some 49, (some (45, true)), .indexAddr 3 (.tmp 47) (.tmp 48)⟩,
  ⟨some 50, (some (45, true)), .fieldAddr 2 (.tmp 49)⟩,
  ⟨some 51, (some (45, true)), .load 1 false (.tmp 50)⟩,
  ⟨some 52, (some (45, true)), .mov (.tmp 6)⟩,
  ⟨some 53, (some (45, true)), .indexAddr 3 (.tmp 51) (.tmp 52)⟩,
  ⟨some 54, (some (45, true)), .fieldAddr 1 (.tmp 53)⟩,
  ⟨some 55, (some (45, true)), .load 1 false (.tmp 54)⟩,
  ⟨some 56, (some (45, true)), .mov (.tmp 1)⟩,
  ⟨some 57, (some (45, true)), .bin .eql (.tmp 55) (.tmp 56)⟩,
  ⟨some 58, none, .pick (.tmp 45) (.tmp 57) (.const (.bool false))⟩])
 (.cond (.tmp 58) k_ref8_binds_p0 .skip))
def k_ref8_binds_p2 : ACode := (.seq (.seq (.region [⟨some 14, none, .fieldAddr 3 (.tmp 2)⟩,
  ⟨some 15, none, .load 1 false (.tmp 14)⟩,
  ⟨some 16, none, .mov (.tmp 5)⟩,
  ⟨some 17, none, .indexAddr 3 (.tmp 15) (.tmp 16)⟩,
  ⟨some 18, none, .fieldAddr 0 (.tmp 17)⟩,
  ⟨some 19, none, .load 1 false (.tmp 18)⟩,
  ⟨some 20, none, .bin .eql (.tmp 19) (.const (.int .i64 1))⟩,
  ⟨some 21, none, .mov (.tmp 20)⟩,
  ⟨some 22, (some (21, true)), .mov (.tmp 6)⟩,
  ⟨some 23, (some (21, true)), .fieldAddr 3 (.tmp 2)⟩,
  ⟨some 24, (some (21, true)), .load 1 false (.tmp 23)⟩,
  ⟨some 25, (some (21, true)), .mov (.tmp 5)⟩,
  ⟨some 26, (some (21, true)), .indexAddr 3 (.tmp 24) (.tmp 25)⟩,
  ⟨some 27, (some (21, true)), .fieldAddr 2 (.tmp 26)⟩,
  ⟨some 28, (some (21, true)), .load 1 false (.tmp 27)⟩,
  ⟨some 29, (some (21, true)), .lenSl (.tmp 28)⟩,
  ⟨some 30, (some (21, true)), .bin .lss (.tmp 22) (.tmp 29)⟩,
  ⟨some 31, none, .pick (.tmp 21) (.tmp 30) (.const (.bool false))⟩])
 (.cond (.tmp 31) .skip (.exit 2)))
 (.seq (.block 3 k_ref8_binds_p1)
 (.region [⟨some 32, none, .mov (.tmp 6)⟩,
  ⟨some 33, none, .bin .add (.tmp 32) (.const (.int .i64 1))⟩,
  ⟨some 6, none, .mov (.tmp 33)⟩])))
def k_ref8_binds_p3 : ACode := (.seq (.seq (.region [⟨some 7, none, .mov (.tmp 5)⟩,
  ⟨some 8, none, .fieldAddr 3 (.tmp 2)⟩,
  ⟨some 9, none, .load 1 false (.tmp 8)⟩,
  ⟨some 10, none, .lenSl (.tmp 9)⟩,
  ⟨some 11, none, .bin .lss (.tmp 7) (.tmp 10)⟩])
 (.cond (.tmp 11) .skip (.exit 0)))
 (.seq (.block 1 (.seq (.region [⟨some 6, none, .mov (.const (.int .i64 0))⟩])
 (.block 2 (.loop k_ref8_binds_p2))))
 (.region [⟨some 12, none, .mov (.tmp 5)⟩,
  ⟨some 13, none, .bin .add (.tmp 12) (.const (.int .i64 1))⟩,
  ⟨some 5, none, .mov (.tmp 13)⟩])))
def k_ref8_binds : AFun := ⟨59, [.tmp 4], (.seq (.region [⟨some 2, none, .box (.tmp 0)⟩,
  ⟨some 4, none, .mov (.const (.bool false))⟩])
 (.seq (.seq (.region [⟨some 5, none, .mov (.const (.int .i64 0))⟩])
 (.block 0 (.loop k_ref8_binds_p3)))
 (.seq (.region [⟨some 4, none, .mov (.const (.bool false))⟩])
 .ret)))⟩
theorem c_ref8_binds : (XTab.of Try.prog).code 44 = some k_ref8_binds := by kernel_rfl

/-! delphi/check.Arities$1 -/
/-! delphi/delphiref8.pred -/
/-! delphi/lex.Front -/
/-! delphi/delphiref8.word -/
def k_ref8_word_p0 : ACode := (.seq (.seq (.region [⟨some 11, none, .mov (.tmp 4)⟩,
  ⟨some 12, none, .mov (.tmp 0)⟩,
  ⟨some 13, none, .lenStr (.tmp 12)⟩,
  ⟨some 14, none, .bin .lss (.tmp 11) (.tmp 13)⟩,
  ⟨some 15, none, .mov (.tmp 14)⟩,
  ⟨some 16, (some (15, true)), .mov (.tmp 0)⟩,
  ⟨some 17, (some (15, true)), .mov (.tmp 4)⟩,
  ⟨some 18, (some (15, true)), .indexStr (.tmp 16) (.tmp 17)⟩,
  ⟨some 19, (some (15, true)), .call (.const (.func (.func n_ref8_small) [] [])) [(.tmp 18)]⟩,
  ⟨some 20, (some (15, true)), .mov (.tmp 19)⟩,
  ⟨some 21, (some (20, false)), .mov (.tmp 0)⟩,
  ⟨some 22, (some (20, false)), .mov (.tmp 4)⟩,
  ⟨some 23, (some (20, false)), .indexStr (.tmp 21) (.tmp 22)⟩,
  ⟨some 24, (some (20, false)), .call (.const (.func (.func n_ref8_digit) [] [])) [(.tmp 23)]⟩,
  ⟨some 25, (some (15, true)), .pick (.tmp 20) (.const (.bool true)) (.tmp 24)⟩,
  ⟨some 26, (some (15, true)), .mov (.tmp 25)⟩,
  ⟨some 27, (some (26, false)), .mov (.tmp 0)⟩,
  ⟨some 28, (some (26, false)), .mov (.tmp 4)⟩,
  ⟨some 29, (some (26, false)), .indexStr (.tmp 27) (.tmp 28)⟩,
  ⟨some 30, (some (26, false)), .bin .eql (.tmp 29) (.const (.int .u8 95))⟩,
  ⟨some 31, (some (15, true)), .pick (.tmp 26) (.const (.bool true)) (.tmp 30)⟩,
  ⟨some 32, none, .pick (.tmp 15) (.tmp 31) (.const (.bool false))⟩])
 (.cond (.tmp 32) .skip (.exit 1)))
 (.block 2 (.region [⟨some 33, none, .mov (.tmp 4)⟩,
  ⟨some 34, none, .bin .add (.tmp 33) (.const (.int .i64 1))⟩,
  ⟨some 4, none, .mov (.tmp 34)⟩])))
def k_ref8_word_p1 : ACode := (.seq (.seq (.region [⟨some 40, none, .mov (.tmp 4)⟩,
  ⟨some 41, none, .mov (.tmp 0)⟩,
  ⟨some 42, none, .lenStr (.tmp 41)⟩,
  ⟨some 43, none, .bin .lss (.tmp 40) (.tmp 42)⟩,
  ⟨some 44, none, .mov (.tmp 43)⟩,
  ⟨some 45, (some (44, true)), .mov (.tmp 0)⟩,
  ⟨some 46, (some (44, true)), .mov (.tmp 4)⟩,
  ⟨some 47, (some (44, true)), .indexStr (.tmp 45) (.tmp 46)⟩,
  ⟨some 48, (some (44, true)), .call (.const (.func (.func n_ref8_small) [] [])) [(.tmp 47)]⟩,
  ⟨some 49, (some (44, true)), .mov (.tmp 48)⟩,
  ⟨some 50, (some (49, false)), .mov (.tmp 0)⟩,
  ⟨some 51, (some (49, false)), .mov (.tmp 4)⟩,
  ⟨some 52, (some (49, false)), .indexStr (.tmp 50) (.tmp 51)⟩,
  ⟨some 53, (some (49, false)), .call (.const (.func (.func n_ref8_great) [] [])) [(.tmp 52)]⟩,
  ⟨some 54, (some (44, true)), .pick (.tmp 49) (.const (.bool true)) (.tmp 53)⟩,
  ⟨some 55, (some (44, true)), .mov (.tmp 54)⟩,
  ⟨some 56, (some (55, false)), .mov (.tmp 0)⟩,
  ⟨some 57, (some (55, false)), .mov (.tmp 4)⟩,
  ⟨some 58, (some (55, false)), .indexStr (.tmp 56) (.tmp 57)⟩,
  ⟨some 59, (some (55, false)), .call (.const (.func (.func n_ref8_digit) [] [])) [(.tmp 58)]⟩,
  ⟨some 60, (some (44, true)), .pick (.tmp 55) (.const (.bool true)) (.tmp 59)⟩,
  ⟨some 61, (some (44, true)), .mov (.tmp 60)⟩,
  ⟨some 62, (some (61, false)), .mov (.tmp 0)⟩,
  ⟨some 63, (some (61, false)), .mov (.tmp 4)⟩,
  ⟨some 64, (some (61, false)), .indexStr (.tmp 62) (.tmp 63)⟩,
  ⟨some 65, (some (61, false)), .bin .eql (.tmp 64) (.const (.int .u8 95))⟩,
  ⟨some 66, (some (44, true)), .pick (.tmp 61) (.const (.bool true)) (.tmp 65)⟩,
  ⟨some 67, none, .pick (.tmp 44) (.tmp 66) (.const (.bool false))⟩])
 (.cond (.tmp 67) .skip (.exit 3)))
 (.block 4 (.region [⟨some 68, none, .mov (.tmp 4)⟩,
  ⟨some 69, none, .bin .add (.tmp 68) (.const (.int .i64 1))⟩,
  ⟨some 4, none, .mov (.tmp 69)⟩])))
def k_ref8_word_p2 : ACode := (.seq (.seq (.region [⟨some 93, none, .mov (.tmp 0)⟩,
  ⟨some 94, none, .indexStr (.tmp 93) (.const (.int .i64 1))⟩,
  ⟨some 95, none, .bin .eql (.tmp 94) (.const (.int .u8 48))⟩])
 (.cond (.tmp 95) (.seq (.region [⟨some 2, none, .mov (.const (.int .i64 0))⟩,
  ⟨some 3, none, .mov (.const (.int .i64 0))⟩])
 .ret) .skip))
 (.region [⟨some 4, none, .mov (.const (.int .i64 2))⟩]))
def k_ref8_word_p3 : ACode := (.seq (.seq (.region [⟨some 99, none, .mov (.tmp 4)⟩,
  ⟨some 100, none, .mov (.tmp 0)⟩,
  ⟨some 101, none, .lenStr (.tmp 100)⟩,
  ⟨some 102, none, .bin .lss (.tmp 99) (.tmp 101)⟩,
  ⟨some 103, none, .mov (.tmp 102)⟩,
  ⟨some 104, (some (103, true)), .mov (.tmp 0)⟩,
  ⟨some 105, (some (103, true)), .mov (.tmp 4)⟩,
  ⟨some 106, (some (103, true)), .indexStr (.tmp 104) (.tmp 105)⟩,
  ⟨some 107, (some (103, true)), .call (.const (.func (.func n_ref8_digit) [] [])) [(.tmp 106)]⟩,
  ⟨some 108, none, .pick (.tmp 103) (.tmp 107) (.const (.bool false))⟩])
 (.cond (.tmp 108) .skip (.exit 5)))
 (.block 6 (.region [⟨some 109, none, .mov (.tmp 4)⟩,
  ⟨some 110, none, .bin .add (.tmp 109) (.const (.int .i64 1))⟩,
  ⟨some 4, none, .mov (.tmp 110)⟩])))
def k_ref8_word_p4 : ACode := (.seq (.seq (.region [⟨some 90, none, .mov (.tmp 0)⟩,
  ⟨some 91, none, .indexStr (.tmp 90) (.const (.int .i64 0))⟩,
  ⟨some 92, none, .bin .eql (.tmp 91) (.const (.int .u8 45))⟩])
 (.cond (.tmp 92) k_ref8_word_p2 .skip))
 (.seq (.seq (.region [⟨some 96, none, .mov (.tmp 0)⟩,
  ⟨some 97, none, .indexStr (.tmp 96) (.const (.int .i64 0))⟩,
  ⟨some 98, none, .bin .eql (.tmp 97) (.const (.int .u8 48))⟩])
 (.cond (.tmp 98) (.seq (.region [⟨some 2, none, .mov (.const (.int .i64 1))⟩,
  ⟨some 3, none, .mov (.const (.int .i64 3))⟩])
 .ret) .skip))
 (.seq (.block 5 (.loop k_ref8_word_p3))
 (.seq (.region [⟨some 111, none, .mov (.tmp 4)⟩,
  ⟨some 2, none, .mov (.tmp 111)⟩,
  ⟨some 3, none, .mov (.const (.int .i64 3))⟩])
 .ret))))
def k_ref8_word_p5 : ACode := (.seq (.region [⟨some 72, none, .mov (.tmp 0)⟩,
  ⟨some 73, none, .indexStr (.tmp 72) (.const (.int .i64 0))⟩,
  ⟨some 74, none, .call (.const (.func (.func n_ref8_digit) [] [])) [(.tmp 73)]⟩,
  ⟨some 75, none, .mov (.tmp 74)⟩,
  ⟨some 76, (some (75, false)), .mov (.tmp 0)⟩,
  ⟨some 77, (some (75, false)), .indexStr (.tmp 76) (.const (.int .i64 0))⟩,
  ⟨some 78, (some (75, false)), .bin .eql (.tmp 77) (.const (.int .u8 45))⟩,
  ⟨some 79, (some (75, false)), .mov (.tmp 78)⟩,
  ⟨some 80, (some (79, true)), .mov (.tmp 0)⟩,
  ⟨some 81, (some (79, true)), .lenStr (.tmp 80)⟩,
  ⟨some 82, (some (79, true)), .bin .gtr (.tmp 81) (.const (.int .i64 1))⟩,
  ⟨some 83, (some (75, false)), .pick (.tmp 79) (.tmp 82) (.const (.bool false))⟩,
  ⟨some 84, (some (75, false)), .mov (.tmp 83)⟩,
  ⟨some 85, (some (84, true)), .mov (.tmp 0)⟩,
  ⟨some 86, (some (84, true)), .indexStr (.tmp 85) (.const (.int .i64 1))⟩,
  ⟨some 87, (some (84, true)), .call (.const (.func (.func n_ref8_digit) [] [])) [(.tmp 86)]⟩,
  ⟨some 88, (some (75, false)), .pick (.tmp 84) (.tmp 87) (.const (.bool false))⟩,
  ⟨some 89, none, .pick (.tmp 75) (.const (.bool true)) (.tmp 88)⟩,
  ⟨some 71, none, .mov (.tmp 89)⟩])
 (.cond (.tmp 71) k_ref8_word_p4 .skip))
def k_ref8_word_p6 : ACode := (.seq (.region [⟨some 37, none, .mov (.tmp 0)⟩,
  ⟨some 38, none, .indexStr (.tmp 37) (.const (.int .i64 0))⟩,
  ⟨some 39, none, .call (.const (.func (.func n_ref8_great) [] [])) [(.tmp 38)]⟩,
  ⟨some 36, none, .mov (.tmp 39)⟩])
 (.cond (.tmp 36) (.seq (.block 3 (.loop k_ref8_word_p1))
 (.seq (.region [⟨some 70, none, .mov (.tmp 4)⟩,
  ⟨some 2, none, .mov (.tmp 70)⟩,
  ⟨some 3, none, .mov (.const (.int .i64 2))⟩])
 .ret)) k_ref8_word_p5))
def k_ref8_word_p7 : ACode := (.seq (.region [⟨some 8, none, .mov (.tmp 0)⟩,
  ⟨some 9, none, .indexStr (.tmp 8) (.const (.int .i64 0))⟩,
  ⟨some 10, none, .call (.const (.func (.func n_ref8_small) [] [])) [(.tmp 9)]⟩,
  ⟨some 7, none, .mov (.tmp 10)⟩])
 (.cond (.tmp 7) (.seq (.block 1 (.loop k_ref8_word_p0))
 (.seq (.region [⟨some 35, none, .mov (.tmp 4)⟩,
  ⟨some 2, none, .mov (.tmp 35)⟩,
  ⟨some 3, none, .mov (.const (.int .i64 1))⟩])
 .ret)) k_ref8_word_p6))
def k_ref8_word_p8 : ACode := (.seq (.region [⟨some 117, none, .mov (.tmp 0)⟩,
  ⟨some 118, none, .lenStr (.tmp 117)⟩,
  ⟨some 119, none, .bin .geq (.tmp 118) (.const (.int .i64 2))⟩,
  ⟨some 120, none, .mov (.tmp 119)⟩,
  ⟨some 121, (some (120, true)), .mov (.tmp 0)⟩,
  ⟨some 122, (some (120, true)), .sliceStr (.tmp 121) none (some (.const (.int .i64 2)))⟩,
  ⟨some 123, (some (120, true)), .mov (.tmp 5)⟩,
  ⟨some 124, (some (120, true)), .mov (.tmp 6)⟩,
  ⟨some 125, (some (120, true)), .indexAddr 1 (.tmp 123) (.tmp 124)⟩,
  ⟨some 126, (some (120, true)), .load 1 false (.tmp 125)⟩,
  ⟨some 127, (some (120, true)), .bin .eql (.tmp 122) (.tmp 126)⟩,
  ⟨some 128, none, .pick (.tmp 120) (.tmp 127) (.const (.bool false))⟩])
 (.cond (.tmp 128) (.seq (.region [⟨some 2, none, .mov (.const (.int .i64 2))⟩,
  ⟨some 3, none, .mov (.const (.int .i64 4))⟩])
 .ret) .skip))
def k_ref8_word_p9 : ACode := (.seq (.seq (.region [⟨some 113, none, .mov (.tmp 6)⟩,
  ⟨some 114, none, .bin .lss (.tmp 113) (.const (.int .i64 3))⟩])
 (.cond (.tmp 114) .skip (.exit 7)))
 (.seq (.block 8 k_ref8_word_p8)
 (.region [⟨some 115, none, .mov (.tmp 6)⟩,
  ⟨some 116, none, .bin .add (.tmp 115) (.const (.int .i64 1))⟩,
  ⟨some 6, none, .mov (.tmp 116)⟩])))
def k_ref8_word_p10 : ACode := (.seq (.region [⟨some 137, none, .bin .eql (.tmp 130) (.const (.int .u8 61))⟩,
  ⟨some 131, none, .mov (.tmp 137)⟩])
 (.cond (.tmp 131) .skip (.region [⟨some 138, none, .bin .eql (.tmp 130) (.const (.int .u8 60))⟩,
  ⟨some 131, none, .mov (.tmp 138)⟩])))
def k_ref8_word_p11 : ACode := (.seq (.region [⟨some 135, none, .bin .eql (.tmp 130) (.const (.int .u8 46))⟩,
  ⟨some 131, none, .mov (.tmp 135)⟩])
 (.cond (.tmp 131) .skip (.seq (.region [⟨some 136, none, .bin .eql (.tmp 130) (.const (.int .u8 33))⟩,
  ⟨some 131, none, .mov (.tmp 136)⟩])
 (.cond (.tmp 131) .skip k_ref8_word_p10))))
def k_ref8_word_p12 : ACode := (.seq (.region [⟨some 133, none, .bin .eql (.tmp 130) (.const (.int .u8 41))⟩,
  ⟨some 131, none, .mov (.tmp 133)⟩])
 (.cond (.tmp 131) .skip (.seq (.region [⟨some 134, none, .bin .eql (.tmp 130) (.const (.int .u8 44))⟩,
  ⟨some 131, none, .mov (.tmp 134)⟩])
 (.cond (.tmp 131) .skip k_ref8_word_p11))))
def k_ref8_word_p13 : ACode := (.seq (.seq (.region [⟨some 132, none, .bin .eql (.tmp 130) (.const (.int .u8 40))⟩,
  ⟨some 131, none, .mov (.tmp 132)⟩])
 (.cond (.tmp 131) .skip k_ref8_word_p12))
 (.cond (.tmp 131) (.seq (.region [⟨some 2, none, .mov (.const (.int .i64 1))⟩,
  ⟨some 3, none, .mov (.const (.int .i64 4))⟩])
 .ret) .skip))
def k_ref8_word : AFun := ⟨139, [.tmp 2, .tmp 3], (.seq (.region [⟨some 2, none, .mov (.const (.int .i64 0))⟩,
  ⟨some 3, none, .mov (.const (.int .i64 0))⟩])
 (.seq (.region [⟨some 4, none, .mov (.const (.int .i64 1))⟩])
 (.seq (.block 0 k_ref8_word_p7)
 (.seq (.region [⟨some 112, none, .buildSlice 3 [(.str []), (.str []), (.str [])] [(0, 1, (.const (.str [58, 45]))), (1, 1, (.const (.str [33, 61]))), (2, 1, (.const (.str [60, 61])))]⟩,
  ⟨some 5, none, .mov (.tmp 112)⟩])
 (.seq (.seq (.region [⟨some 6, none, .mov (.const (.int .i64 0))⟩])
 (.block 7 (.loop k_ref8_word_p9)))
 (.seq (.seq (.region [⟨some 129, none, .mov (.tmp 0)⟩,
  ⟨some 130, none, .indexStr (.tmp 129) (.const (.int .i64 0))⟩])
 (.block 9 k_ref8_word_p13))
 (.seq (.region [⟨some 2, none, .mov (.const (.int .i64 0))⟩,
  ⟨some 3, none, .mov (.const (.int .i64 0))⟩])
 .ret)))))))⟩
theorem c_ref8_word : (XTab.of Try.prog).code 48 = some k_ref8_word := by kernel_rfl

end Go.Proofs.Ytjidefnbancmfaa
