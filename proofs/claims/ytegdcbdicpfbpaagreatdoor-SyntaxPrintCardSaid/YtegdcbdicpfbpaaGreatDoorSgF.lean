/- A part of the proof: C2, C3, C4. -/
import Derived.Test.YtegdcbdicpfbpaaGreatDoorSgE
set_option maxRecDepth 100000
set_option linter.unusedVariables false
namespace Go.Proofs.YtegdcbdicpfbpaaGreatDoor
open Go.AE
def k_law8_begun_p0 : ACode := (.seq (.region [⟨some 19, none, .mov (.tmp 2)⟩,
  ⟨some 20, none, .bin .eql (.tmp 19) (.const (.int .i64 0))⟩,
  ⟨some 21, none, .mov (.tmp 20)⟩,
  ⟨some 22, (some (21, true)), .mov (.tmp 1)⟩,
  ⟨some 23, (some (21, true)), .lenSl (.tmp 22)⟩,
  ⟨some 24, (some (21, true)), .bin .eql (.tmp 23) (.const (.int .i64 1))⟩,
  ⟨some 25, none, .pick (.tmp 21) (.tmp 24) (.const (.bool false))⟩,
  ⟨some 26, none, .mov (.tmp 25)⟩,
  ⟨some 27, (some (26, true)), .mov (.tmp 1)⟩,
  ⟨some 28, (some (26, true)), .indexAddr 4 (.tmp 27) (.const (.int .i64 0))⟩,
  ⟨some 29, (some (26, true)), .load 4 true (.tmp 28)⟩,
  ⟨some 30, (some (26, true)), .call (.const (.func (.func n_syntax_Print) [] [])) [(.tmp 29)]⟩,
  ⟨some 31, (some (26, true)), .bin .eql (.tmp 30) (.const (.str [112, 40, 88, 41, 32, 58, 45, 32, 113, 40, 88, 44, 32, 51, 41, 44, 32, 33, 114, 40, 88, 41, 44, 32, 88, 32, 33, 61, 32, 97, 46]))⟩,
  ⟨some 32, none, .pick (.tmp 26) (.tmp 31) (.const (.bool false))⟩,
  ⟨some 33, none, .mov (.tmp 32)⟩,
  ⟨some 34, (some (33, true)), .mov (.tmp 4)⟩,
  ⟨some 35, (some (33, true)), .bin .eql (.tmp 34) (.const (.int .i64 0))⟩,
  ⟨some 36, none, .pick (.tmp 33) (.tmp 35) (.const (.bool false))⟩,
  ⟨some 37, none, .mov (.tmp 36)⟩,
  ⟨some 38, (some (37, true)), .fieldAddr 1 (.tmp 3)⟩,
  ⟨some 39, (some (37, true)), .load 1 false (.tmp 38)⟩,
  ⟨some 40, (some (37, true)), .lenSl (.tmp 39)⟩,
  ⟨some 41, (some (37, true)), .bin .eql (.tmp 40) (.const (.int .i64 2))⟩,
  ⟨some 42, none, .pick (.tmp 37) (.tmp 41) (.const (.bool false))⟩,
  ⟨some 43, none, .mov (.tmp 42)⟩,
  ⟨some 44, (some (43, true)), .fieldAddr 1 (.tmp 3)⟩,
  ⟨some 45, (some (43, true)), .load 1 false (.tmp 44)⟩,
  ⟨some 46, (some (43, true)), .indexAddr 3 (.tmp 45) (.const (.int .i64 1))⟩,
  ⟨some 47, (some (43, true)), .fieldAddr 2 (.tmp 46)⟩,
  ⟨some 48, (some (43, true)), .load 1 false (.tmp 47)⟩,
  ⟨some 49, (some (43, true)), .bin .eql (.tmp 48) (.const (.int .i64 (-3)))⟩,
  ⟨some 50, none, .pick (.tmp 43) (.tmp 49) (.const (.bool false))⟩,
  ⟨some 51, none, .mov (.tmp 50)⟩,
  ⟨some 52, (some (51, true)), .mov (.tmp 6)⟩,
  ⟨some 53, (some (51, true)), .bin .eql (.tmp 52) (.const (.int .i64 4))⟩,
  ⟨some 54, none, .pick (.tmp 51) (.tmp 53) (.const (.bool false))⟩,
  ⟨some 0, none, .mov (.tmp 54)⟩])
 .ret)
def k_law8_begun_p1 : ACode := (.seq (.region [⟨some 16, none, .call (.const (.func (.func n_syntax_Fact) [] [])) [(.const (.str [113, 40, 88, 41]))]⟩,
  ⟨some 15, none, .mov (.tmp 16)⟩,
  ⟨some 17, none, .extract 0 (.tmp 15)⟩,
  ⟨some 18, none, .extract 1 (.tmp 15)⟩,
  ⟨some 5, none, .alloc [(.str []), .nilslice]⟩,
  ⟨none, none, .store 2 (.tmp 5) (.tmp 17)⟩,
  ⟨some 6, none, .mov (.tmp 18)⟩])
 k_law8_begun_p0)
def k_law8_begun_p2 : ACode := (.seq (.region [⟨some 12, none, .call (.const (.func (.func n_syntax_Fact) [] [])) [(.const (.str [113, 40, 97, 44, 32, 45, 51, 41, 46]))]⟩,
  ⟨some 11, none, .mov (.tmp 12)⟩,
  ⟨some 13, none, .extract 0 (.tmp 11)⟩,
  ⟨some 14, none, .extract 1 (.tmp 11)⟩,
  ⟨some 3, none, .alloc [(.str []), .nilslice]⟩,
  ⟨none, none, .store 2 (.tmp 3) (.tmp 13)⟩,
  ⟨some 4, none, .mov (.tmp 14)⟩])
 k_law8_begun_p1)
def k_law8_begun_p3 : ACode := (.seq (.region [⟨some 8, none, .call (.const (.func (.func n_syntax_Program) [] [])) [(.const (.str [112, 40, 88, 41, 32, 58, 45, 32, 113, 40, 88, 44, 32, 51, 41, 44, 32, 33, 114, 40, 88, 41, 44, 32, 88, 32, 33, 61, 32, 97, 46]))]⟩,
  ⟨some 7, none, .mov (.tmp 8)⟩,
  ⟨some 9, none, .extract 0 (.tmp 7)⟩,
  ⟨some 10, none, .extract 1 (.tmp 7)⟩,
  ⟨some 1, none, .mov (.tmp 9)⟩,
  ⟨some 2, none, .mov (.tmp 10)⟩])
 k_law8_begun_p2)
def k_law8_begun : AFun := ⟨55, [.tmp 0], (.seq (.region [⟨some 0, none, .mov (.const (.bool false))⟩])
 k_law8_begun_p3)⟩
theorem c_law8_begun : (XTab.of Tryz.prog).code 19 = some k_law8_begun := by kernel_rfl
def k_ref8_Program_p0 : ACode := (.seq (.region [⟨some 17, none, .mov (.tmp 5)⟩,
  ⟨some 2, none, .mov (.const .nilslice)⟩,
  ⟨some 3, none, .mov (.tmp 17)⟩])
 .ret)
def k_ref8_Program_p1 : ACode := (.region [⟨some 75, none, .mov (.tmp 6)⟩,
  ⟨some 76, none, .call (.const (.func (.func n_ref8_P_bad) [] [])) [(.tmp 75), (.const (.int .i64 8))]⟩])
def k_ref8_Program_p2 : ACode := (.region [⟨some 86, none, .mov (.tmp 6)⟩,
  ⟨some 87, none, .nilCheck (.tmp 86)⟩,
  ⟨some 88, none, .fieldAddr 1 (.tmp 87)⟩,
  ⟨some 89, none, .load 1 false (.tmp 88)⟩,
  ⟨some 90, none, .bin .add (.tmp 89) (.const (.int .i64 1))⟩,
  ⟨some 91, none, .nilCheck (.tmp 86)⟩,
  ⟨some 92, none, .fieldAddr 1 (.tmp 91)⟩,
  ⟨none, none, .store 1 (.tmp 92) (.tmp 90)⟩])
def k_ref8_Program_p3 : ACode := (.seq (.region [⟨some 77, none, .fieldAddr 3 (.tmp 8)⟩,
  ⟨some 78, none, .load 1 false (.tmp 77)⟩,
  ⟨some 79, none, .load 3 true (.tmp 9)⟩,
  ⟨some 80, none, .buildSlice 1 [(.int .i64 0), (.str []), .nilslice] [(0, 3, (.tmp 79))]⟩,
  ⟨some 81, none, .append 3 48 (.tmp 78) (.tmp 80)⟩,
  ⟨some 82, none, .fieldAddr 3 (.tmp 8)⟩,
  ⟨none, none, .store 1 (.tmp 82) (.tmp 81)⟩])
 (.seq (.seq (.region [⟨some 83, none, .mov (.tmp 6)⟩,
  ⟨some 84, none, .call (.const (.func (.func n_ref8_P_sign) [] [])) [(.tmp 83), (.const (.str [44]))]⟩,
  ⟨some 85, none, .un .not (.tmp 84)⟩])
 (.cond (.tmp 85) (.exit 2) .skip))
 k_ref8_Program_p2))
def k_ref8_Program_p4 : ACode := (.seq (.seq (.region [⟨some 64, none, .mov (.tmp 6)⟩,
  ⟨some 65, none, .nilCheck (.tmp 64)⟩,
  ⟨some 66, none, .fieldAddr 2 (.tmp 65)⟩,
  ⟨some 67, none, .load 1 false (.tmp 66)⟩,
  ⟨some 68, none, .bin .eql (.tmp 67) (.const (.int .i64 0))⟩,
  ⟨some 69, none, .mov (.tmp 68)⟩,
  ⟨some 70, (some (69, true)), .fieldAddr 3 (.tmp 8)⟩,
  ⟨some 71, (some (69, true)), .load 1 false (.tmp 70)⟩,
  ⟨some 72, (some (69, true)), .lenSl (.tmp 71)⟩,
  ⟨some 73, (some (69, true)), .bin .eql (.tmp 72) (.const (.int .i64 6))⟩,
  ⟨some 74, none, .pick (.tmp 69) (.tmp 73) (.const (.bool false))⟩])
 (.cond (.tmp 74) k_ref8_Program_p1 .skip))
 k_ref8_Program_p3)
def k_ref8_Program_p5 : ACode := (.seq (.seq (.region [⟨some 57, none, .mov (.tmp 6)⟩,
  ⟨some 58, none, .nilCheck (.tmp 57)⟩,
  ⟨some 59, none, .fieldAddr 2 (.tmp 58)⟩,
  ⟨some 60, none, .load 1 false (.tmp 59)⟩,
  ⟨some 61, none, .bin .eql (.tmp 60) (.const (.int .i64 0))⟩])
 (.cond (.tmp 61) .skip (.exit 2)))
 (.block 3 (.seq (.region [⟨some 62, none, .mov (.tmp 6)⟩,
  ⟨some 63, none, .call (.const (.func (.func n_ref8_P_literal) [] [])) [(.tmp 62)]⟩,
  ⟨some 9, none, .alloc [(.int .i64 0), (.str []), .nilslice]⟩,
  ⟨none, none, .store 3 (.tmp 9) (.tmp 63)⟩])
 k_ref8_Program_p4)))
def k_ref8_Program_p6 : ACode := (.seq (.region [⟨some 50, none, .mov (.tmp 6)⟩,
  ⟨some 51, none, .nilCheck (.tmp 50)⟩,
  ⟨some 52, none, .fieldAddr 1 (.tmp 51)⟩,
  ⟨some 53, none, .load 1 false (.tmp 52)⟩,
  ⟨some 54, none, .bin .add (.tmp 53) (.const (.int .i64 1))⟩,
  ⟨some 55, none, .nilCheck (.tmp 50)⟩,
  ⟨some 56, none, .fieldAddr 1 (.tmp 55)⟩,
  ⟨none, none, .store 1 (.tmp 56) (.tmp 54)⟩])
 (.block 2 (.loop k_ref8_Program_p5)))
def k_ref8_Program_p7 : ACode := (.region [⟨some 105, none, .mov (.tmp 6)⟩,
  ⟨some 106, none, .call (.const (.func (.func n_ref8_P_bad) [] [])) [(.tmp 105), (.const (.int .i64 8))]⟩])
def k_ref8_Program_p8 : ACode := (.region [⟨some 107, none, .mov (.tmp 7)⟩,
  ⟨some 108, none, .load 4 true (.tmp 8)⟩,
  ⟨some 109, none, .buildSlice 1 [(.int .i64 0), (.str []), .nilslice, .nilslice] [(0, 4, (.tmp 108))]⟩,
  ⟨some 110, none, .append 4 72 (.tmp 107) (.tmp 109)⟩,
  ⟨some 7, none, .mov (.tmp 110)⟩])
def k_ref8_Program_p9 : ACode := (.seq (.seq (.region [⟨some 95, none, .mov (.tmp 6)⟩,
  ⟨some 96, none, .nilCheck (.tmp 95)⟩,
  ⟨some 97, none, .fieldAddr 2 (.tmp 96)⟩,
  ⟨some 98, none, .load 1 false (.tmp 97)⟩,
  ⟨some 99, none, .bin .eql (.tmp 98) (.const (.int .i64 0))⟩,
  ⟨some 100, none, .mov (.tmp 99)⟩,
  ⟨some 101, (some (100, true)), .mov (.tmp 7)⟩,
  ⟨some 102, (some (100, true)), .lenSl (.tmp 101)⟩,
  ⟨some 103, (some (100, true)), .bin .eql (.tmp 102) (.const (.int .i64 30))⟩,
  ⟨some 104, none, .pick (.tmp 100) (.tmp 103) (.const (.bool false))⟩])
 (.cond (.tmp 104) k_ref8_Program_p7 .skip))
 k_ref8_Program_p8)
def k_ref8_Program_p10 : ACode := (.seq (.seq (.region [⟨some 41, none, .mov (.tmp 6)⟩,
  ⟨some 42, none, .call (.const (.func (.func n_ref8_P_sign) [] [])) [(.tmp 41), (.const (.str [58, 45]))]⟩,
  ⟨some 43, none, .mov (.tmp 42)⟩,
  ⟨some 44, (some (43, true)), .mov (.tmp 6)⟩,
  ⟨some 45, (some (43, true)), .nilCheck (.tmp 44)⟩,
  ⟨some 46, (some (43, true)), .fieldAddr 2 (.tmp 45)⟩,
  ⟨some 47, (some (43, true)), .load 1 false (.tmp 46)⟩,
  ⟨some 48, (some (43, true)), .bin .eql (.tmp 47) (.const (.int .i64 0))⟩,
  ⟨some 49, none, .pick (.tmp 43) (.tmp 48) (.const (.bool false))⟩])
 (.cond (.tmp 49) k_ref8_Program_p6 .skip))
 (.seq (.region [⟨some 93, none, .mov (.tmp 6)⟩,
  ⟨some 94, none, .call (.const (.func (.func n_ref8_P_eat) [] [])) [(.tmp 93), (.const (.str [46]))]⟩])
 k_ref8_Program_p9))
def k_ref8_Program_p11 : ACode := (.seq (.region [⟨some 38, none, .mov (.tmp 6)⟩,
  ⟨some 39, none, .call (.const (.func (.func n_ref8_P_atom) [] [])) [(.tmp 38)]⟩,
  ⟨some 40, none, .build [(.int .i64 0), (.str []), .nilslice, .nilslice] [(0, 3, (.tmp 39))]⟩,
  ⟨some 8, none, .alloc [(.int .i64 0), (.str []), .nilslice, .nilslice]⟩,
  ⟨none, none, .store 4 (.tmp 8) (.tmp 40)⟩])
 k_ref8_Program_p10)
def k_ref8_Program_p12 : ACode := (.seq (.seq (.region [⟨some 21, none, .mov (.tmp 6)⟩,
  ⟨some 22, none, .nilCheck (.tmp 21)⟩,
  ⟨some 23, none, .fieldAddr 2 (.tmp 22)⟩,
  ⟨some 24, none, .load 1 false (.tmp 23)⟩,
  ⟨some 25, none, .bin .eql (.tmp 24) (.const (.int .i64 0))⟩,
  ⟨some 26, none, .mov (.tmp 25)⟩,
  ⟨some 27, (some (26, true)), .mov (.tmp 6)⟩,
  ⟨some 28, (some (26, true)), .nilCheck (.tmp 27)⟩,
  ⟨some 29, (some (26, true)), .fieldAddr 1 (.tmp 28)⟩,
  ⟨some 30, (some (26, true)), .load 1 false (.tmp 29)⟩,
  ⟨some 31, (some (26, true)), .mov (.tmp 6)⟩,
  ⟨some 32, (some (26, true)), .nilCheck (.tmp 31)⟩,
  ⟨some 33, (some (26, true)), .fieldAddr 0 (.tmp 32)⟩,
  ⟨some 34, (some (26, true)), .load 1 false (.tmp 33)⟩,
  ⟨some 35, (some (26, true)), .lenSl (.tmp 34)⟩,
  ⟨some 36, (some (26, true)), .bin .lss (.tmp 30) (.tmp 35)⟩,
  ⟨some 37, none, .pick (.tmp 26) (.tmp 36) (.const (.bool false))⟩])
 (.cond (.tmp 37) .skip (.exit 0)))
 (.block 1 k_ref8_Program_p11))
def k_ref8_Program_p13 : ACode := (.seq (.region [⟨some 119, none, .mov (.tmp 6)⟩,
  ⟨some 120, none, .nilCheck (.tmp 119)⟩,
  ⟨some 121, none, .fieldAddr 2 (.tmp 120)⟩,
  ⟨some 122, none, .load 1 false (.tmp 121)⟩,
  ⟨some 2, none, .mov (.const .nilslice)⟩,
  ⟨some 3, none, .mov (.tmp 122)⟩])
 .ret)
def k_ref8_Program_p14 : ACode := (.seq (.seq (.region [⟨some 114, none, .mov (.tmp 6)⟩,
  ⟨some 115, none, .nilCheck (.tmp 114)⟩,
  ⟨some 116, none, .fieldAddr 2 (.tmp 115)⟩,
  ⟨some 117, none, .load 1 false (.tmp 116)⟩,
  ⟨some 118, none, .bin .neq (.tmp 117) (.const (.int .i64 0))⟩])
 (.cond (.tmp 118) k_ref8_Program_p13 .skip))
 (.seq (.region [⟨some 123, none, .mov (.tmp 7)⟩,
  ⟨some 2, none, .mov (.tmp 123)⟩,
  ⟨some 3, none, .mov (.const (.int .i64 0))⟩])
 .ret))
def k_ref8_Program_p15 : ACode := (.seq (.region [⟨some 7, none, .mov (.const .nilslice)⟩])
 (.seq (.block 0 (.loop k_ref8_Program_p12))
 (.seq (.region [⟨some 111, none, .mov (.tmp 6)⟩,
  ⟨some 112, none, .mov (.tmp 5)⟩,
  ⟨some 113, none, .call (.const (.func (.func n_ref8_P_bad) [] [])) [(.tmp 111), (.tmp 112)]⟩])
 k_ref8_Program_p14)))
def k_ref8_Program_p16 : ACode := (.seq (.seq (.region [⟨some 15, none, .mov (.tmp 5)⟩,
  ⟨some 16, none, .bin .eql (.tmp 15) (.const (.int .i64 8))⟩])
 (.cond (.tmp 16) k_ref8_Program_p0 .skip))
 (.seq (.region [⟨some 18, none, .mov (.tmp 4)⟩,
  ⟨some 19, none, .build [.nilslice, (.int .i64 0), (.int .i64 0)] [(0, 1, (.tmp 18))]⟩,
  ⟨some 20, none, .box (.tmp 19)⟩,
  ⟨some 6, none, .mov (.tmp 20)⟩])
 k_ref8_Program_p15))
def k_ref8_Program_p17 : ACode := (.seq (.region [⟨some 11, none, .mov (.tmp 0)⟩,
  ⟨some 12, none, .call (.const (.func (.func n_ref8_Scan) [] [])) [(.tmp 11)]⟩,
  ⟨some 10, none, .mov (.tmp 12)⟩,
  ⟨some 13, none, .extract 0 (.tmp 10)⟩,
  ⟨some 14, none, .extract 1 (.tmp 10)⟩,
  ⟨some 4, none, .mov (.tmp 13)⟩,
  ⟨some 5, none, .mov (.tmp 14)⟩])
 k_ref8_Program_p16)
def k_ref8_Program : AFun := ⟨124, [.tmp 2, .tmp 3], (.seq (.region [⟨some 2, none, .mov (.const .nilslice)⟩,
  ⟨some 3, none, .mov (.const (.int .i64 0))⟩])
 k_ref8_Program_p17)⟩
theorem c_ref8_Program : (XTab.of Tryz.prog).code 20 = some k_ref8_Program := by kernel_rfl
def k_law1_Cut : AFun := ⟨13, [.tmp 4], (.seq (.region [⟨some 4, none, .mov (.const (.str []))⟩])
 (.seq (.seq (.region [⟨some 5, none, .mov (.tmp 0)⟩,
  ⟨some 6, none, .lenStr (.tmp 5)⟩,
  ⟨some 7, none, .mov (.tmp 1)⟩,
  ⟨some 8, none, .bin .gtr (.tmp 6) (.tmp 7)⟩])
 (.cond (.tmp 8) (.seq (.region [⟨some 9, none, .mov (.tmp 0)⟩,
  ⟨some 10, none, .mov (.tmp 1)⟩,
  ⟨some 11, none, .sliceStr (.tmp 9) none (some (.tmp 10))⟩,
  ⟨some 4, none, .mov (.tmp 11)⟩])
 .ret) .skip))
 (.seq (.region [⟨some 12, none, .mov (.tmp 0)⟩,
  ⟨some 4, none, .mov (.tmp 12)⟩])
 .ret)))⟩
theorem c_law1_Cut : (XTab.of Tryz.prog).code 21 = some k_law1_Cut := by kernel_rfl
def k_syntax_Print_p0 : ACode := (.region [⟨some 14, none, .mov (.tmp 3)⟩,
  ⟨some 15, none, .load 3 true (.tmp 5)⟩,
  ⟨some 16, none, .call (.const (.func (.func n_syntax_literal) [] [])) [(.tmp 15)]⟩,
  ⟨some 17, none, .buildSlice 1 [(.str [])] [(0, 1, (.tmp 16))]⟩,
  ⟨some 18, none, .append 1 16 (.tmp 14) (.tmp 17)⟩,
  ⟨some 3, none, .mov (.tmp 18)⟩])
def k_syntax_Print_p1 : ACode := (.seq (.block 1 (.seq (.region [⟨some 12, none, .indexAddr 3 (.tmp 8) (.tmp 10)⟩,
  ⟨some 13, none, .load 3 true (.tmp 12)⟩,
  ⟨some 5, none, .alloc [(.int .i64 0), (.str []), .nilslice]⟩,
  ⟨none, none, .store 3 (.tmp 5) (.tmp 13)⟩])
 k_syntax_Print_p0))
 (.region [⟨some 19, none, .bin .add (.tmp 10) (.const (.int .i64 1))⟩,
  ⟨some 10, none, .mov (.tmp 19)⟩]))
def k_syntax_Print_p2 : ACode := (.seq (.region [⟨some 11, none, .bin .lss (.tmp 10) (.tmp 9)⟩])
 (.seq (.cond (.tmp 11) .skip (.exit 0))
 k_syntax_Print_p1))
def k_syntax_Print_p3 : ACode := (.region [⟨some 26, none, .mov (.tmp 6)⟩,
  ⟨some 27, none, .mov (.tmp 3)⟩,
  ⟨some 28, none, .call (.const (.func (.func n_strings_Join) [] [])) [(.tmp 27), (.const (.str [44, 32]))]⟩,
  ⟨some 29, none, .bin .add (.const (.str [32, 58, 45, 32])) (.tmp 28)⟩,
  ⟨some 30, none, .bin .add (.tmp 26) (.tmp 29)⟩,
  ⟨some 6, none, .mov (.tmp 30)⟩])
def k_syntax_Print_p4 : ACode := (.seq (.seq (.region [⟨some 23, none, .mov (.tmp 3)⟩,
  ⟨some 24, none, .lenSl (.tmp 23)⟩,
  ⟨some 25, none, .bin .gtr (.tmp 24) (.const (.int .i64 0))⟩])
 (.cond (.tmp 25) k_syntax_Print_p3 .skip))
 (.seq (.region [⟨some 31, none, .mov (.tmp 6)⟩,
  ⟨some 32, none, .bin .add (.tmp 31) (.const (.str [46]))⟩,
  ⟨some 2, none, .mov (.tmp 32)⟩])
 .ret))
def k_syntax_Print_p5 : ACode := (.seq (.seq (.region [⟨some 7, none, .fieldAddr 3 (.tmp 1)⟩,
  ⟨some 8, none, .load 1 false (.tmp 7)⟩,
  ⟨some 9, none, .lenSl (.tmp 8)⟩,
  ⟨some 10, none, .mov (.const (.int .i64 0))⟩])
 (.block 0 (.loop k_syntax_Print_p2)))
 (.seq (.region [⟨some 20, none, .fieldAddr 0 (.tmp 1)⟩,
  ⟨some 21, none, .load 3 true (.tmp 20)⟩,
  ⟨some 22, none, .call (.const (.func (.func n_syntax_literal) [] [])) [(.tmp 21)]⟩,
  ⟨some 6, none, .mov (.tmp 22)⟩])
 k_syntax_Print_p4))
def k_syntax_Print : AFun := ⟨33, [.tmp 2], (.seq (.region [⟨some 1, none, .box (.tmp 0)⟩,
  ⟨some 2, none, .mov (.const (.str []))⟩])
 (.seq (.region [⟨some 3, none, .mov (.const .nilslice)⟩])
 k_syntax_Print_p5))⟩
theorem c_syntax_Print : (XTab.of Tryz.prog).code 22 = some k_syntax_Print := by kernel_rfl
def k_ref8_PrintRule_p0 : ACode := (.region [⟨some 22, none, .mov (.tmp 3)⟩,
  ⟨some 23, none, .bin .add (.tmp 22) (.const (.str [32, 58, 45, 32]))⟩,
  ⟨some 3, none, .mov (.tmp 23)⟩])
def k_ref8_PrintRule_p1 : ACode := (.region [⟨some 24, none, .mov (.tmp 3)⟩,
  ⟨some 25, none, .bin .add (.tmp 24) (.const (.str [44, 32]))⟩,
  ⟨some 3, none, .mov (.tmp 25)⟩])
def k_ref8_PrintRule_p2 : ACode := (.region [⟨some 63, none, .mov (.tmp 3)⟩,
  ⟨some 64, none, .fieldAddr 1 (.tmp 5)⟩,
  ⟨some 65, none, .load 1 false (.tmp 64)⟩,
  ⟨some 66, none, .fieldAddr 2 (.tmp 5)⟩,
  ⟨some 67, none, .load 1 false (.tmp 66)⟩,
  ⟨some 68, none, .call (.const (.func (.func n_ref8_Atom) [] [])) [(.tmp 65), (.tmp 67)]⟩,
  ⟨some 69, none, .bin .add (.const (.str [33])) (.tmp 68)⟩,
  ⟨some 70, none, .bin .add (.tmp 63) (.tmp 69)⟩,
  ⟨some 3, none, .mov (.tmp 70)⟩])
def k_ref8_PrintRule_p3 : ACode := (.drawn [⟨⟨some 33, none, .mov (.tmp 3)⟩, false, [], []⟩,
  ⟨⟨some 34, none, .fieldAddr 2 (.tmp 5)⟩, false, [], []⟩,
  ⟨⟨some 35, none, .load 1 false (.tmp 34)⟩, false, [1], []⟩,
  ⟨⟨some 36, none, .indexAddr 3 (.tmp 35) (.const (.int .i64 0))⟩, false, [2, 1], []⟩,
  ⟨⟨some 37, none, .load 3 true (.tmp 36)⟩, false, [3, 2, 1], []⟩,
  ⟨⟨some 38, none, .call (.const (.func (.func n_ref8_Print) [] [])) [(.tmp 37)]⟩, true, [4, 3, 2, 1], []⟩,
  ⟨⟨some 39, none, .bin .add (.tmp 38) (.const (.str [32]))⟩, false, [5, 4, 3, 2, 1], []⟩,
  ⟨⟨some 40, none, .fieldAddr 0 (.tmp 5)⟩, false, [], []⟩,
  ⟨⟨some 41, none, .load 1 false (.tmp 40)⟩, false, [7], []⟩,
  ⟨⟨some 42, none, .call (.const (.func (.func n_ref8_sign) [] [])) [(.tmp 41)]⟩, true, [8, 7, 5, 4, 3, 2, 1], []⟩,
  ⟨⟨some 43, none, .bin .add (.tmp 39) (.tmp 42)⟩, false, [9, 8, 7, 6, 5, 4, 3, 2, 1], []⟩,
  ⟨⟨some 44, none, .bin .add (.tmp 43) (.const (.str [32]))⟩, false, [10, 9, 8, 7, 6, 5, 4, 3, 2, 1], []⟩,
  ⟨⟨some 45, none, .fieldAddr 2 (.tmp 5)⟩, false, [], []⟩,
  ⟨⟨some 46, none, .load 1 false (.tmp 45)⟩, false, [12], []⟩,
  ⟨⟨some 47, none, .indexAddr 3 (.tmp 46) (.const (.int .i64 1))⟩, false, [13, 12], []⟩,
  ⟨⟨some 48, none, .load 3 true (.tmp 47)⟩, false, [14, 13, 12], []⟩,
  ⟨⟨some 49, none, .call (.const (.func (.func n_ref8_Print) [] [])) [(.tmp 48)]⟩, true, [15, 14, 13, 12, 9, 8, 7, 5, 4, 3, 2, 1], []⟩,
  ⟨⟨some 50, none, .bin .add (.tmp 44) (.tmp 49)⟩, false, [16, 15, 14, 13, 12, 11, 10, 9, 8, 7, 6, 5, 4, 3, 2, 1], []⟩,
  ⟨⟨some 51, none, .bin .add (.tmp 33) (.tmp 50)⟩, false, [17, 16, 15, 14, 13, 12, 11, 10, 9, 8, 7, 6, 5, 4, 3, 2, 1, 0], []⟩,
  ⟨⟨some 3, none, .mov (.tmp 51)⟩, false, [18, 17, 16, 15, 14, 13, 12, 11, 10, 9, 8, 7, 6, 5, 4, 3, 2, 1, 0], []⟩])
def k_ref8_PrintRule_p4 : ACode := (.region [⟨some 54, none, .mov (.tmp 3)⟩,
  ⟨some 55, none, .fieldAddr 1 (.tmp 5)⟩,
  ⟨some 56, none, .load 1 false (.tmp 55)⟩,
  ⟨some 57, none, .fieldAddr 2 (.tmp 5)⟩,
  ⟨some 58, none, .load 1 false (.tmp 57)⟩,
  ⟨some 59, none, .call (.const (.func (.func n_ref8_Atom) [] [])) [(.tmp 56), (.tmp 58)]⟩,
  ⟨some 60, none, .bin .add (.tmp 54) (.tmp 59)⟩,
  ⟨some 3, none, .mov (.tmp 60)⟩])
def k_ref8_PrintRule_p5 : ACode := (.seq (.region [⟨some 62, none, .bin .eql (.tmp 32) (.const (.int .i64 2))⟩,
  ⟨some 61, none, .mov (.tmp 62)⟩])
 (.cond (.tmp 61) k_ref8_PrintRule_p2 k_ref8_PrintRule_p3))
def k_ref8_PrintRule_p6 : ACode := (.seq (.region [⟨some 31, none, .fieldAddr 0 (.tmp 5)⟩,
  ⟨some 32, none, .load 1 false (.tmp 31)⟩])
 (.block 2 (.seq (.region [⟨some 53, none, .bin .eql (.tmp 32) (.const (.int .i64 1))⟩,
  ⟨some 52, none, .mov (.tmp 53)⟩])
 (.cond (.tmp 52) k_ref8_PrintRule_p4 k_ref8_PrintRule_p5))))
def k_ref8_PrintRule_p7 : ACode := (.seq (.region [⟨some 26, none, .fieldAddr 3 (.tmp 1)⟩,
  ⟨some 27, none, .load 1 false (.tmp 26)⟩,
  ⟨some 28, none, .mov (.tmp 4)⟩,
  ⟨some 29, none, .indexAddr 3 (.tmp 27) (.tmp 28)⟩,
  ⟨some 30, none, .load 3 true (.tmp 29)⟩,
  ⟨some 5, none, .alloc [(.int .i64 0), (.str []), .nilslice]⟩,
  ⟨none, none, .store 3 (.tmp 5) (.tmp 30)⟩])
 k_ref8_PrintRule_p6)
def k_ref8_PrintRule_p8 : ACode := (.seq (.block 1 (.seq (.seq (.region [⟨some 20, none, .mov (.tmp 4)⟩,
  ⟨some 21, none, .bin .eql (.tmp 20) (.const (.int .i64 0))⟩])
 (.cond (.tmp 21) k_ref8_PrintRule_p0 k_ref8_PrintRule_p1))
 k_ref8_PrintRule_p7))
 (.region [⟨some 18, none, .mov (.tmp 4)⟩,
  ⟨some 19, none, .bin .add (.tmp 18) (.const (.int .i64 1))⟩,
  ⟨some 4, none, .mov (.tmp 19)⟩]))
def k_ref8_PrintRule_p9 : ACode := (.seq (.seq (.region [⟨some 13, none, .mov (.tmp 4)⟩,
  ⟨some 14, none, .fieldAddr 3 (.tmp 1)⟩,
  ⟨some 15, none, .load 1 false (.tmp 14)⟩,
  ⟨some 16, none, .lenSl (.tmp 15)⟩,
  ⟨some 17, none, .bin .lss (.tmp 13) (.tmp 16)⟩])
 (.cond (.tmp 17) .skip (.exit 0)))
 k_ref8_PrintRule_p8)
def k_ref8_PrintRule_p10 : ACode := (.seq (.region [⟨some 6, none, .fieldAddr 0 (.tmp 1)⟩,
  ⟨some 7, none, .fieldAddr 1 (.tmp 6)⟩,
  ⟨some 8, none, .load 1 false (.tmp 7)⟩,
  ⟨some 9, none, .fieldAddr 0 (.tmp 1)⟩,
  ⟨some 10, none, .fieldAddr 2 (.tmp 9)⟩,
  ⟨some 11, none, .load 1 false (.tmp 10)⟩,
  ⟨some 12, none, .call (.const (.func (.func n_ref8_Atom) [] [])) [(.tmp 8), (.tmp 11)]⟩,
  ⟨some 3, none, .mov (.tmp 12)⟩])
 (.seq (.seq (.region [⟨some 4, none, .mov (.const (.int .i64 0))⟩])
 (.block 0 (.loop k_ref8_PrintRule_p9)))
 (.seq (.region [⟨some 71, none, .mov (.tmp 3)⟩,
  ⟨some 72, none, .bin .add (.tmp 71) (.const (.str [46]))⟩,
  ⟨some 2, none, .mov (.tmp 72)⟩])
 .ret)))
def k_ref8_PrintRule : AFun := ⟨73, [.tmp 2], (.seq (.region [⟨some 1, none, .box (.tmp 0)⟩,
  ⟨some 2, none, .mov (.const (.str []))⟩])
 k_ref8_PrintRule_p10)⟩
theorem c_ref8_PrintRule : (XTab.of Tryz.prog).code 23 = some k_ref8_PrintRule := by kernel_rfl
def k_syntax_Program_p0 : ACode := (.region [⟨some 26, none, .mov (.tmp 4)⟩,
  ⟨some 27, none, .call (.const (.func (.func n_syntax_parser_fail) [] [])) [(.tmp 26), (.const (.int .i64 8))]⟩])
def k_syntax_Program_p1 : ACode := (.seq (.region [⟨some 18, none, .mov (.tmp 5)⟩,
  ⟨some 19, none, .mov (.tmp 4)⟩,
  ⟨some 20, none, .call (.const (.func (.func n_syntax_parser_clause) [] [])) [(.tmp 19)]⟩,
  ⟨some 21, none, .buildSlice 1 [(.int .i64 0), (.str []), .nilslice, .nilslice] [(0, 4, (.tmp 20))]⟩,
  ⟨some 22, none, .append 4 72 (.tmp 18) (.tmp 21)⟩,
  ⟨some 5, none, .mov (.tmp 22)⟩])
 (.seq (.region [⟨some 23, none, .mov (.tmp 5)⟩,
  ⟨some 24, none, .lenSl (.tmp 23)⟩,
  ⟨some 25, none, .bin .gtr (.tmp 24) (.const (.int .i64 30))⟩])
 (.cond (.tmp 25) k_syntax_Program_p0 .skip)))
def k_syntax_Program_p2 : ACode := (.seq (.seq (.region [⟨some 8, none, .mov (.tmp 4)⟩,
  ⟨some 9, none, .nilCheck (.tmp 8)⟩,
  ⟨some 10, none, .fieldAddr 2 (.tmp 9)⟩,
  ⟨some 11, none, .load 1 false (.tmp 10)⟩,
  ⟨some 12, none, .bin .eql (.tmp 11) (.const (.int .i64 0))⟩,
  ⟨some 13, none, .mov (.tmp 12)⟩,
  ⟨some 14, (some (13, true)), .mov (.tmp 4)⟩,
  ⟨some 15, (some (13, true)), .call (.const (.func (.func n_syntax_parser_end) [] [])) [(.tmp 14)]⟩,
  ⟨some 16, (some (13, true)), .un .not (.tmp 15)⟩,
  ⟨some 17, none, .pick (.tmp 13) (.tmp 16) (.const (.bool false))⟩])
 (.cond (.tmp 17) .skip (.exit 0)))
 (.block 1 k_syntax_Program_p1))
def k_syntax_Program_p3 : ACode := (.seq (.region [⟨some 33, none, .mov (.tmp 4)⟩,
  ⟨some 34, none, .nilCheck (.tmp 33)⟩,
  ⟨some 35, none, .fieldAddr 2 (.tmp 34)⟩,
  ⟨some 36, none, .load 1 false (.tmp 35)⟩,
  ⟨some 2, none, .mov (.const .nilslice)⟩,
  ⟨some 3, none, .mov (.tmp 36)⟩])
 .ret)
def k_syntax_Program_p4 : ACode := (.seq (.seq (.region [⟨some 28, none, .mov (.tmp 4)⟩,
  ⟨some 29, none, .nilCheck (.tmp 28)⟩,
  ⟨some 30, none, .fieldAddr 2 (.tmp 29)⟩,
  ⟨some 31, none, .load 1 false (.tmp 30)⟩,
  ⟨some 32, none, .bin .neq (.tmp 31) (.const (.int .i64 0))⟩])
 (.cond (.tmp 32) k_syntax_Program_p3 .skip))
 (.seq (.region [⟨some 37, none, .mov (.tmp 5)⟩,
  ⟨some 2, none, .mov (.tmp 37)⟩,
  ⟨some 3, none, .mov (.const (.int .i64 0))⟩])
 .ret))
def k_syntax_Program_p5 : ACode := (.seq (.region [⟨some 6, none, .mov (.tmp 0)⟩,
  ⟨some 7, none, .call (.const (.func (.func n_syntax_open) [] [])) [(.tmp 6)]⟩,
  ⟨some 4, none, .mov (.tmp 7)⟩])
 (.seq (.region [⟨some 5, none, .mov (.const .nilslice)⟩])
 (.seq (.block 0 (.loop k_syntax_Program_p2))
 k_syntax_Program_p4)))
def k_syntax_Program : AFun := ⟨38, [.tmp 2, .tmp 3], (.seq (.region [⟨some 2, none, .mov (.const .nilslice)⟩,
  ⟨some 3, none, .mov (.const (.int .i64 0))⟩])
 k_syntax_Program_p5)⟩
theorem c_syntax_Program : (XTab.of Tryz.prog).code 24 = some k_syntax_Program := by kernel_rfl
def k_ref8_EqRules_p0 : ACode := (.seq (.region [⟨some 4, none, .mov (.const (.bool false))⟩])
 .ret)
def k_ref8_EqRules_p1 : ACode := (.seq (.region [⟨some 4, none, .mov (.const (.bool false))⟩])
 .ret)
def k_ref8_EqRules_p2 : ACode := (.seq (.region [⟨some 17, none, .mov (.tmp 0)⟩,
  ⟨some 18, none, .mov (.tmp 5)⟩,
  ⟨some 19, none, .indexAddr 4 (.tmp 17) (.tmp 18)⟩,
  ⟨some 20, none, .load 4 true (.tmp 19)⟩,
  ⟨some 21, none, .mov (.tmp 1)⟩,
  ⟨some 22, none, .mov (.tmp 5)⟩,
  ⟨some 23, none, .indexAddr 4 (.tmp 21) (.tmp 22)⟩,
  ⟨some 24, none, .load 4 true (.tmp 23)⟩,
  ⟨some 25, none, .call (.const (.func (.func n_ref8_EqRule) [] [])) [(.tmp 20), (.tmp 24)]⟩,
  ⟨some 26, none, .un .not (.tmp 25)⟩])
 (.cond (.tmp 26) k_ref8_EqRules_p1 .skip))
def k_ref8_EqRules_p3 : ACode := (.seq (.seq (.region [⟨some 11, none, .mov (.tmp 5)⟩,
  ⟨some 12, none, .mov (.tmp 0)⟩,
  ⟨some 13, none, .lenSl (.tmp 12)⟩,
  ⟨some 14, none, .bin .lss (.tmp 11) (.tmp 13)⟩])
 (.cond (.tmp 14) .skip (.exit 0)))
 (.seq (.block 1 k_ref8_EqRules_p2)
 (.region [⟨some 15, none, .mov (.tmp 5)⟩,
  ⟨some 16, none, .bin .add (.tmp 15) (.const (.int .i64 1))⟩,
  ⟨some 5, none, .mov (.tmp 16)⟩])))
def k_ref8_EqRules_p4 : ACode := (.seq (.seq (.region [⟨some 6, none, .mov (.tmp 0)⟩,
  ⟨some 7, none, .lenSl (.tmp 6)⟩,
  ⟨some 8, none, .mov (.tmp 1)⟩,
  ⟨some 9, none, .lenSl (.tmp 8)⟩,
  ⟨some 10, none, .bin .neq (.tmp 7) (.tmp 9)⟩])
 (.cond (.tmp 10) k_ref8_EqRules_p0 .skip))
 (.seq (.seq (.region [⟨some 5, none, .mov (.const (.int .i64 0))⟩])
 (.block 0 (.loop k_ref8_EqRules_p3)))
 (.seq (.region [⟨some 4, none, .mov (.const (.bool true))⟩])
 .ret)))
def k_ref8_EqRules : AFun := ⟨27, [.tmp 4], (.seq (.region [⟨some 4, none, .mov (.const (.bool false))⟩])
 k_ref8_EqRules_p4)⟩
theorem c_ref8_EqRules : (XTab.of Tryz.prog).code 25 = some k_ref8_EqRules := by kernel_rfl
end Go.Proofs.YtegdcbdicpfbpaaGreatDoor
set_option maxRecDepth 100000
set_option linter.unusedVariables false
namespace Go.Proofs.YtegdcbdicpfbpaaGreatDoor
open Go.AE
def k_syntax_Fact_p0 : ACode := (.seq (.region [⟨some 15, none, .build [(.str []), .nilslice] []⟩,
  ⟨some 16, none, .mov (.tmp 5)⟩,
  ⟨none, none, .store 2 (.tmp 2) (.tmp 15)⟩,
  ⟨some 3, none, .mov (.tmp 16)⟩])
 .ret)
def k_syntax_Fact_p1 : ACode := (.seq (.region [⟨some 27, none, .build [(.str []), .nilslice] []⟩,
  ⟨none, none, .store 2 (.tmp 2) (.tmp 27)⟩,
  ⟨some 3, none, .mov (.const (.int .i64 4))⟩])
 .ret)
def k_syntax_Fact_p2 : ACode := (.seq (.region [⟨some 22, none, .indexAddr 3 (.tmp 18) (.tmp 20)⟩,
  ⟨some 23, none, .load 3 true (.tmp 22)⟩,
  ⟨some 7, none, .alloc [(.int .i64 0), (.str []), (.int .i64 0)]⟩,
  ⟨none, none, .store 3 (.tmp 7) (.tmp 23)⟩])
 (.seq (.region [⟨some 24, none, .fieldAddr 0 (.tmp 7)⟩,
  ⟨some 25, none, .load 1 false (.tmp 24)⟩,
  ⟨some 26, none, .bin .eql (.tmp 25) (.const (.int .i64 1))⟩])
 (.cond (.tmp 26) k_syntax_Fact_p1 .skip)))
def k_syntax_Fact_p3 : ACode := (.seq (.region [⟨some 21, none, .bin .lss (.tmp 20) (.tmp 19)⟩])
 (.seq (.cond (.tmp 21) .skip (.exit 0))
 (.seq (.block 1 k_syntax_Fact_p2)
 (.region [⟨some 28, none, .bin .add (.tmp 20) (.const (.int .i64 1))⟩,
  ⟨some 20, none, .mov (.tmp 28)⟩]))))
def k_syntax_Fact_p4 : ACode := (.seq (.region [⟨some 29, none, .fieldAddr 1 (.tmp 4)⟩,
  ⟨some 30, none, .load 1 false (.tmp 29)⟩,
  ⟨some 31, none, .fieldAddr 2 (.tmp 4)⟩,
  ⟨some 32, none, .load 1 false (.tmp 31)⟩,
  ⟨some 33, none, .build [(.str []), .nilslice] [(0, 1, (.tmp 30)), (1, 1, (.tmp 32))]⟩,
  ⟨none, none, .store 2 (.tmp 2) (.tmp 33)⟩,
  ⟨some 3, none, .mov (.const (.int .i64 0))⟩])
 .ret)
def k_syntax_Fact_p5 : ACode := (.seq (.seq (.region [⟨some 13, none, .mov (.tmp 5)⟩,
  ⟨some 14, none, .bin .neq (.tmp 13) (.const (.int .i64 0))⟩])
 (.cond (.tmp 14) k_syntax_Fact_p0 .skip))
 (.seq (.seq (.region [⟨some 17, none, .fieldAddr 2 (.tmp 4)⟩,
  ⟨some 18, none, .load 1 false (.tmp 17)⟩,
  ⟨some 19, none, .lenSl (.tmp 18)⟩,
  ⟨some 20, none, .mov (.const (.int .i64 0))⟩])
 (.block 0 (.loop k_syntax_Fact_p3)))
 k_syntax_Fact_p4))
def k_syntax_Fact_p6 : ACode := (.seq (.region [⟨some 9, none, .mov (.tmp 0)⟩,
  ⟨some 10, none, .call (.const (.func (.func n_syntax_single) [] [])) [(.tmp 9)]⟩,
  ⟨some 8, none, .mov (.tmp 10)⟩,
  ⟨some 11, none, .extract 0 (.tmp 8)⟩,
  ⟨some 12, none, .extract 1 (.tmp 8)⟩,
  ⟨some 4, none, .alloc [(.int .i64 0), (.str []), .nilslice]⟩,
  ⟨none, none, .store 3 (.tmp 4) (.tmp 11)⟩,
  ⟨some 5, none, .mov (.tmp 12)⟩])
 k_syntax_Fact_p5)
def k_syntax_Fact : AFun := ⟨34, [.cell 2 2 true, .tmp 3], (.seq (.region [⟨some 2, none, .alloc [(.str []), .nilslice]⟩,
  ⟨some 3, none, .mov (.const (.int .i64 0))⟩])
 k_syntax_Fact_p6)⟩
theorem c_syntax_Fact : (XTab.of Tryz.prog).code 38 = some k_syntax_Fact := by kernel_rfl
def k_ref8_Scan_p0 : ACode := (.seq (.seq (.region [⟨some 72, none, .mov (.tmp 5)⟩,
  ⟨some 73, none, .mov (.tmp 0)⟩,
  ⟨some 74, none, .lenStr (.tmp 73)⟩,
  ⟨some 75, none, .bin .lss (.tmp 72) (.tmp 74)⟩,
  ⟨some 76, none, .mov (.tmp 75)⟩,
  ⟨some 77, (some (76, true)), .mov (.tmp 0)⟩,
  ⟨some 78, (some (76, true)), .mov (.tmp 5)⟩,
  ⟨some 79, (some (76, true)), .indexStr (.tmp 77) (.tmp 78)⟩,
  ⟨some 80, (some (76, true)), .bin .neq (.tmp 79) (.const (.int .u8 10))⟩,
  ⟨some 81, none, .pick (.tmp 76) (.tmp 80) (.const (.bool false))⟩])
 (.cond (.tmp 81) .skip (.exit 3)))
 (.block 4 (.region [⟨some 82, none, .mov (.tmp 5)⟩,
  ⟨some 83, none, .bin .add (.tmp 82) (.const (.int .i64 1))⟩,
  ⟨some 5, none, .mov (.tmp 83)⟩])))
def k_ref8_Scan_p1 : ACode := (.seq (.region [⟨some 20, none, .mov (.tmp 0)⟩,
  ⟨some 21, none, .mov (.tmp 5)⟩,
  ⟨some 22, none, .sliceStr (.tmp 20) (some (.tmp 21)) none⟩,
  ⟨some 23, none, .call (.const (.func (.func n_ref8_word) [] [])) [(.tmp 22)]⟩,
  ⟨some 19, none, .mov (.tmp 23)⟩,
  ⟨some 24, none, .extract 0 (.tmp 19)⟩,
  ⟨some 25, none, .extract 1 (.tmp 19)⟩,
  ⟨some 7, none, .mov (.tmp 24)⟩,
  ⟨some 8, none, .mov (.tmp 25)⟩])
 (.seq (.seq (.region [⟨some 26, none, .mov (.tmp 7)⟩,
  ⟨some 27, none, .bin .eql (.tmp 26) (.const (.int .i64 0))⟩,
  ⟨some 28, none, .mov (.tmp 27)⟩,
  ⟨some 29, (some (28, false)), .mov (.tmp 8)⟩,
  ⟨some 30, (some (28, false)), .bin .lss (.tmp 29) (.const (.int .i64 4))⟩,
  ⟨some 31, (some (28, false)), .mov (.tmp 30)⟩,
  ⟨some 32, (some (31, true)), .mov (.tmp 7)⟩,
  ⟨some 33, (some (31, true)), .bin .gtr (.tmp 32) (.const (.int .i64 16))⟩,
  ⟨some 34, (some (28, false)), .pick (.tmp 31) (.tmp 33) (.const (.bool false))⟩,
  ⟨some 35, none, .pick (.tmp 28) (.const (.bool true)) (.tmp 34)⟩])
 (.cond (.tmp 35) (.seq (.region [⟨some 36, none, .mov (.tmp 4)⟩,
  ⟨some 2, none, .mov (.tmp 36)⟩,
  ⟨some 3, none, .mov (.const (.int .i64 4))⟩])
 .ret) .skip))
 (.seq (.region [⟨some 37, none, .mov (.tmp 4)⟩,
  ⟨some 38, none, .mov (.tmp 8)⟩,
  ⟨some 39, none, .mov (.tmp 0)⟩,
  ⟨some 40, none, .mov (.tmp 5)⟩,
  ⟨some 41, none, .mov (.tmp 5)⟩,
  ⟨some 42, none, .mov (.tmp 7)⟩,
  ⟨some 43, none, .bin .add (.tmp 41) (.tmp 42)⟩,
  ⟨some 44, none, .sliceStr (.tmp 39) (some (.tmp 40)) (some (.tmp 43))⟩,
  ⟨some 45, none, .mov (.tmp 5)⟩,
  ⟨some 46, none, .build [(.int .i64 0), (.str []), (.int .i64 0)] [(0, 1, (.tmp 38)), (1, 1, (.tmp 44)), (2, 1, (.tmp 45))]⟩,
  ⟨some 47, none, .buildSlice 1 [(.int .i64 0), (.str []), (.int .i64 0)] [(0, 3, (.tmp 46))]⟩,
  ⟨some 48, none, .append 3 32 (.tmp 37) (.tmp 47)⟩,
  ⟨some 4, none, .mov (.tmp 48)⟩])
 (.region [⟨some 49, none, .mov (.tmp 5)⟩,
  ⟨some 50, none, .mov (.tmp 7)⟩,
  ⟨some 51, none, .bin .add (.tmp 49) (.tmp 50)⟩,
  ⟨some 5, none, .mov (.tmp 51)⟩]))))
def k_ref8_Scan_p2 : ACode := (.seq (.region [⟨some 53, none, .mov (.tmp 6)⟩,
  ⟨some 54, none, .bin .eql (.tmp 53) (.const (.int .u8 32))⟩,
  ⟨some 55, none, .mov (.tmp 54)⟩,
  ⟨some 56, (some (55, false)), .mov (.tmp 6)⟩,
  ⟨some 57, (some (55, false)), .bin .eql (.tmp 56) (.const (.int .u8 9))⟩,
  ⟨some 58, none, .pick (.tmp 55) (.const (.bool true)) (.tmp 57)⟩,
  ⟨some 59, none, .mov (.tmp 58)⟩,
  ⟨some 60, (some (59, false)), .mov (.tmp 6)⟩,
  ⟨some 61, (some (59, false)), .bin .eql (.tmp 60) (.const (.int .u8 10))⟩,
  ⟨some 62, none, .pick (.tmp 59) (.const (.bool true)) (.tmp 61)⟩,
  ⟨some 63, none, .mov (.tmp 62)⟩,
  ⟨some 64, (some (63, false)), .mov (.tmp 6)⟩,
  ⟨some 65, (some (63, false)), .bin .eql (.tmp 64) (.const (.int .u8 13))⟩,
  ⟨some 66, none, .pick (.tmp 63) (.const (.bool true)) (.tmp 65)⟩,
  ⟨some 52, none, .mov (.tmp 66)⟩])
 (.cond (.tmp 52) (.region [⟨some 67, none, .mov (.tmp 5)⟩,
  ⟨some 68, none, .bin .add (.tmp 67) (.const (.int .i64 1))⟩,
  ⟨some 5, none, .mov (.tmp 68)⟩]) (.seq (.region [⟨some 70, none, .mov (.tmp 6)⟩,
  ⟨some 71, none, .bin .eql (.tmp 70) (.const (.int .u8 37))⟩,
  ⟨some 69, none, .mov (.tmp 71)⟩])
 (.cond (.tmp 69) (.block 3 (.loop k_ref8_Scan_p0)) k_ref8_Scan_p1))))
def k_ref8_Scan_p3 : ACode := (.seq (.seq (.region [⟨some 12, none, .mov (.tmp 5)⟩,
  ⟨some 13, none, .mov (.tmp 0)⟩,
  ⟨some 14, none, .lenStr (.tmp 13)⟩,
  ⟨some 15, none, .bin .lss (.tmp 12) (.tmp 14)⟩])
 (.cond (.tmp 15) .skip (.exit 0)))
 (.block 1 (.seq (.region [⟨some 16, none, .mov (.tmp 0)⟩,
  ⟨some 17, none, .mov (.tmp 5)⟩,
  ⟨some 18, none, .indexStr (.tmp 16) (.tmp 17)⟩,
  ⟨some 6, none, .mov (.tmp 18)⟩])
 (.block 2 k_ref8_Scan_p2))))
def k_ref8_Scan : AFun := ⟨85, [.tmp 2, .tmp 3], (.seq (.region [⟨some 2, none, .mov (.const .nilslice)⟩,
  ⟨some 3, none, .mov (.const (.int .i64 0))⟩])
 (.seq (.seq (.region [⟨some 9, none, .mov (.tmp 0)⟩,
  ⟨some 10, none, .lenStr (.tmp 9)⟩,
  ⟨some 11, none, .bin .gtr (.tmp 10) (.const (.int .i64 4000))⟩])
 (.cond (.tmp 11) (.seq (.region [⟨some 2, none, .mov (.const .nilslice)⟩,
  ⟨some 3, none, .mov (.const (.int .i64 8))⟩])
 .ret) .skip))
 (.seq (.region [⟨some 4, none, .mov (.const .nilslice)⟩])
 (.seq (.seq (.region [⟨some 5, none, .mov (.const (.int .i64 0))⟩])
 (.block 0 (.loop k_ref8_Scan_p3)))
 (.seq (.region [⟨some 84, none, .mov (.tmp 4)⟩,
  ⟨some 2, none, .mov (.tmp 84)⟩,
  ⟨some 3, none, .mov (.const (.int .i64 0))⟩])
 .ret)))))⟩
theorem c_ref8_Scan : (XTab.of Tryz.prog).code 39 = some k_ref8_Scan := by kernel_rfl
def k_ref8_P_atom_p0 : ACode := (.seq (.region [⟨some 36, none, .mov (.tmp 0)⟩,
  ⟨some 37, none, .call (.const (.func (.func n_ref8_P_bad) [] [])) [(.tmp 36), (.const (.int .i64 4))]⟩])
 (.seq (.region [⟨some 38, none, .build [(.int .i64 0), (.str []), .nilslice] []⟩,
  ⟨none, none, .store 3 (.tmp 2) (.tmp 38)⟩])
 .ret))
def k_ref8_P_atom_p1 : ACode := (.seq (.region [⟨some 74, none, .mov (.tmp 0)⟩,
  ⟨some 75, none, .call (.const (.func (.func n_ref8_P_term) [] [])) [(.tmp 74)]⟩,
  ⟨some 4, none, .alloc [(.int .i64 0), (.str []), (.int .i64 0)]⟩,
  ⟨none, none, .store 3 (.tmp 4) (.tmp 75)⟩])
 (.seq (.seq (.region [⟨some 76, none, .mov (.tmp 0)⟩,
  ⟨some 77, none, .nilCheck (.tmp 76)⟩,
  ⟨some 78, none, .fieldAddr 2 (.tmp 77)⟩,
  ⟨some 79, none, .load 1 false (.tmp 78)⟩,
  ⟨some 80, none, .bin .eql (.tmp 79) (.const (.int .i64 0))⟩,
  ⟨some 81, none, .mov (.tmp 80)⟩,
  ⟨some 82, (some (81, true)), .fieldAddr 2 (.tmp 3)⟩,
  ⟨some 83, (some (81, true)), .load 1 false (.tmp 82)⟩,
  ⟨some 84, (some (81, true)), .lenSl (.tmp 83)⟩,
  ⟨some 85, (some (81, true)), .bin .eql (.tmp 84) (.const (.int .i64 4))⟩,
  ⟨some 86, none, .pick (.tmp 81) (.tmp 85) (.const (.bool false))⟩])
 (.cond (.tmp 86) (.region [⟨some 87, none, .mov (.tmp 0)⟩,
  ⟨some 88, none, .call (.const (.func (.func n_ref8_P_bad) [] [])) [(.tmp 87), (.const (.int .i64 8))]⟩]) .skip))
 (.seq (.region [⟨some 89, none, .fieldAddr 2 (.tmp 3)⟩,
  ⟨some 90, none, .load 1 false (.tmp 89)⟩,
  ⟨some 91, none, .load 3 true (.tmp 4)⟩,
  ⟨some 92, none, .buildSlice 1 [(.int .i64 0), (.str []), (.int .i64 0)] [(0, 3, (.tmp 91))]⟩,
  ⟨some 93, none, .append 3 32 (.tmp 90) (.tmp 92)⟩,
  ⟨some 94, none, .fieldAddr 2 (.tmp 3)⟩,
  ⟨none, none, .store 1 (.tmp 94) (.tmp 93)⟩])
 (.seq (.seq (.region [⟨some 95, none, .mov (.tmp 0)⟩,
  ⟨some 96, none, .call (.const (.func (.func n_ref8_P_sign) [] [])) [(.tmp 95), (.const (.str [44]))]⟩,
  ⟨some 97, none, .un .not (.tmp 96)⟩])
 (.cond (.tmp 97) (.exit 0) .skip))
 (.region [⟨some 98, none, .mov (.tmp 0)⟩,
  ⟨some 99, none, .nilCheck (.tmp 98)⟩,
  ⟨some 100, none, .fieldAddr 1 (.tmp 99)⟩,
  ⟨some 101, none, .load 1 false (.tmp 100)⟩,
  ⟨some 102, none, .bin .add (.tmp 101) (.const (.int .i64 1))⟩,
  ⟨some 103, none, .nilCheck (.tmp 98)⟩,
  ⟨some 104, none, .fieldAddr 1 (.tmp 103)⟩,
  ⟨none, none, .store 1 (.tmp 104) (.tmp 102)⟩])))))
def k_ref8_P_atom_p2 : ACode := (.seq (.seq (.region [⟨some 69, none, .mov (.tmp 0)⟩,
  ⟨some 70, none, .nilCheck (.tmp 69)⟩,
  ⟨some 71, none, .fieldAddr 2 (.tmp 70)⟩,
  ⟨some 72, none, .load 1 false (.tmp 71)⟩,
  ⟨some 73, none, .bin .eql (.tmp 72) (.const (.int .i64 0))⟩])
 (.cond (.tmp 73) .skip (.exit 0)))
 (.block 1 k_ref8_P_atom_p1))
def k_ref8_P_atom : AFun := ⟨108, [.cell 2 3 true], (.seq (.region [⟨some 2, none, .alloc [(.int .i64 0), (.str []), .nilslice]⟩])
 (.seq (.seq (.region [⟨some 5, none, .mov (.tmp 0)⟩,
  ⟨some 6, none, .nilCheck (.tmp 5)⟩,
  ⟨some 7, none, .fieldAddr 2 (.tmp 6)⟩,
  ⟨some 8, none, .load 1 false (.tmp 7)⟩,
  ⟨some 9, none, .bin .neq (.tmp 8) (.const (.int .i64 0))⟩,
  ⟨some 10, none, .mov (.tmp 9)⟩,
  ⟨some 11, (some (10, false)), .mov (.tmp 0)⟩,
  ⟨some 12, (some (10, false)), .nilCheck (.tmp 11)⟩,
  ⟨some 13, (some (10, false)), .fieldAddr 1 (.tmp 12)⟩,
  ⟨some 14, (some (10, false)), .load 1 false (.tmp 13)⟩,
  ⟨some 15, (some (10, false)), .mov (.tmp 0)⟩,
  ⟨some 16, (some (10, false)), .nilCheck (.tmp 15)⟩,
  ⟨some 17, (some (10, false)), .fieldAddr 0 (.tmp 16)⟩,
  ⟨some 18, (some (10, false)), .load 1 false (.tmp 17)⟩,
  ⟨some 19, (some (10, false)), .lenSl (.tmp 18)⟩,
  ⟨some 20, (some (10, false)), .bin .geq (.tmp 14) (.tmp 19)⟩,
  ⟨some 21, none, .pick (.tmp 10) (.const (.bool true)) (.tmp 20)⟩,
  ⟨some 22, none, .mov (.tmp 21)⟩,
  ⟨some 23, (some (22, false)), .mov (.tmp 0)⟩,
  ⟨some 24, (some (22, false)), .nilCheck (.tmp 23)⟩,
  ⟨some 25, (some (22, false)), .fieldAddr 0 (.tmp 24)⟩,
  ⟨some 26, (some (22, false)), .load 1 false (.tmp 25)⟩,
  ⟨some 27, (some (22, false)), .mov (.tmp 0)⟩,
  ⟨some 28, (some (22, false)), .nilCheck (.tmp 27)⟩,
  ⟨some 29, (some (22, false)), .fieldAddr 1 (.tmp 28)⟩,
  ⟨some 30, (some (22, false)), .load 1 false (.tmp 29)⟩,
  ⟨some 31, (some (22, false)), .indexAddr 3 (.tmp 26) (.tmp 30)⟩,
  ⟨some 32, (some (22, false)), .fieldAddr 0 (.tmp 31)⟩,
  ⟨some 33, (some (22, false)), .load 1 false (.tmp 32)⟩,
  ⟨some 34, (some (22, false)), .bin .neq (.tmp 33) (.const (.int .i64 1))⟩,
  ⟨some 35, none, .pick (.tmp 22) (.const (.bool true)) (.tmp 34)⟩])
 (.cond (.tmp 35) k_ref8_P_atom_p0 .skip))
 (.seq (.drawn [⟨⟨some 39, none, .mov (.tmp 0)⟩, false, [], []⟩,
  ⟨⟨some 40, none, .nilCheck (.tmp 39)⟩, false, [0], []⟩,
  ⟨⟨some 41, none, .fieldAddr 0 (.tmp 40)⟩, false, [1, 0], []⟩,
  ⟨⟨some 42, none, .load 1 false (.tmp 41)⟩, false, [2, 1, 0], []⟩,
  ⟨⟨some 43, none, .mov (.tmp 0)⟩, false, [], []⟩,
  ⟨⟨some 44, none, .nilCheck (.tmp 43)⟩, false, [4], []⟩,
  ⟨⟨some 45, none, .fieldAddr 1 (.tmp 44)⟩, false, [5, 4], []⟩,
  ⟨⟨some 46, none, .load 1 false (.tmp 45)⟩, false, [6, 5, 4], []⟩,
  ⟨⟨some 47, none, .indexAddr 3 (.tmp 42) (.tmp 46)⟩, false, [7, 6, 5, 4, 3, 2, 1, 0], []⟩,
  ⟨⟨some 48, none, .fieldAddr 1 (.tmp 47)⟩, false, [8, 7, 6, 5, 4, 3, 2, 1, 0], []⟩,
  ⟨⟨some 49, none, .load 1 false (.tmp 48)⟩, false, [9, 8, 7, 6, 5, 4, 3, 2, 1, 0], []⟩,
  ⟨⟨some 50, none, .build [(.int .i64 0), (.str []), .nilslice] [(0, 1, (.const (.int .i64 1))), (1, 1, (.tmp 49))]⟩, false, [10, 9, 8, 7, 6, 5, 4, 3, 2, 1, 0], []⟩,
  ⟨⟨some 3, none, .alloc [(.int .i64 0), (.str []), .nilslice]⟩, true, [], []⟩,
  ⟨⟨none, none, .store 3 (.tmp 3) (.tmp 50)⟩, true, [12, 11, 10, 9, 8, 7, 6, 5, 4, 3, 2, 1, 0], []⟩])
 (.seq (.region [⟨some 51, none, .mov (.tmp 0)⟩,
  ⟨some 52, none, .nilCheck (.tmp 51)⟩,
  ⟨some 53, none, .fieldAddr 1 (.tmp 52)⟩,
  ⟨some 54, none, .load 1 false (.tmp 53)⟩,
  ⟨some 55, none, .bin .add (.tmp 54) (.const (.int .i64 1))⟩,
  ⟨some 56, none, .nilCheck (.tmp 51)⟩,
  ⟨some 57, none, .fieldAddr 1 (.tmp 56)⟩,
  ⟨none, none, .store 1 (.tmp 57) (.tmp 55)⟩])
 (.seq (.seq (.region [⟨some 58, none, .mov (.tmp 0)⟩,
  ⟨some 59, none, .call (.const (.func (.func n_ref8_P_sign) [] [])) [(.tmp 58), (.const (.str [40]))]⟩,
  ⟨some 60, none, .un .not (.tmp 59)⟩])
 (.cond (.tmp 60) (.seq (.region [⟨some 61, none, .load 3 true (.tmp 3)⟩,
  ⟨none, none, .store 3 (.tmp 2) (.tmp 61)⟩])
 .ret) .skip))
 (.seq (.region [⟨some 62, none, .mov (.tmp 0)⟩,
  ⟨some 63, none, .nilCheck (.tmp 62)⟩,
  ⟨some 64, none, .fieldAddr 1 (.tmp 63)⟩,
  ⟨some 65, none, .load 1 false (.tmp 64)⟩,
  ⟨some 66, none, .bin .add (.tmp 65) (.const (.int .i64 1))⟩,
  ⟨some 67, none, .nilCheck (.tmp 62)⟩,
  ⟨some 68, none, .fieldAddr 1 (.tmp 67)⟩,
  ⟨none, none, .store 1 (.tmp 68) (.tmp 66)⟩])
 (.seq (.block 0 (.loop k_ref8_P_atom_p2))
 (.seq (.region [⟨some 105, none, .mov (.tmp 0)⟩,
  ⟨some 106, none, .call (.const (.func (.func n_ref8_P_eat) [] [])) [(.tmp 105), (.const (.str [41]))]⟩])
 (.seq (.region [⟨some 107, none, .load 3 true (.tmp 3)⟩,
  ⟨none, none, .store 3 (.tmp 2) (.tmp 107)⟩])
 .ret)))))))))⟩
theorem c_ref8_P_atom : (XTab.of Tryz.prog).code 40 = some k_ref8_P_atom := by kernel_rfl
def k_ref8_P_sign : AFun := ⟨44, [.tmp 4], (.seq (.region [⟨some 4, none, .mov (.const (.bool false))⟩])
 (.seq (.region [⟨some 5, none, .mov (.tmp 0)⟩,
  ⟨some 6, none, .nilCheck (.tmp 5)⟩,
  ⟨some 7, none, .fieldAddr 1 (.tmp 6)⟩,
  ⟨some 8, none, .load 1 false (.tmp 7)⟩,
  ⟨some 9, none, .mov (.tmp 0)⟩,
  ⟨some 10, none, .nilCheck (.tmp 9)⟩,
  ⟨some 11, none, .fieldAddr 0 (.tmp 10)⟩,
  ⟨some 12, none, .load 1 false (.tmp 11)⟩,
  ⟨some 13, none, .lenSl (.tmp 12)⟩,
  ⟨some 14, none, .bin .lss (.tmp 8) (.tmp 13)⟩,
  ⟨some 15, none, .mov (.tmp 14)⟩,
  ⟨some 16, (some (15, true)), .mov (.tmp 0)⟩,
  ⟨some 17, (some (15, true)), .nilCheck (.tmp 16)⟩,
  ⟨some 18, (some (15, true)), .fieldAddr 0 (.tmp 17)⟩,
  ⟨some 19, (some (15, true)), .load 1 false (.tmp 18)⟩,
  ⟨some 20, (some (15, true)), .mov (.tmp 0)⟩,
  ⟨some 21, (some (15, true)), .nilCheck (.tmp 20)⟩,
  ⟨some 22, (some (15, true)), .fieldAddr 1 (.tmp 21)⟩,
  ⟨some 23, (some (15, true)), .load 1 false (.tmp 22)⟩,
  ⟨some 24, (some (15, true)), .indexAddr 3 (.tmp 19) (.tmp 23)⟩,
  ⟨some 25, (some (15, true)), .fieldAddr 0 (.tmp 24)⟩,
  ⟨some 26, (some (15, true)), .load 1 false (.tmp 25)⟩,
  ⟨some 27, (some (15, true)), .bin .eql (.tmp 26) (.const (.int .i64 4))⟩,
  ⟨some 28, none, .pick (.tmp 15) (.tmp 27) (.const (.bool false))⟩,
  ⟨some 29, none, .mov (.tmp 28)⟩,
  ⟨some 30, (some (29, true)), .mov (.tmp 0)⟩,
  ⟨some 31, (some (29, true)), .nilCheck (.tmp 30)⟩,
  ⟨some 32, (some (29, true)), .fieldAddr 0 (.tmp 31)⟩,
  ⟨some 33, (some (29, true)), .load 1 false (.tmp 32)⟩,
  ⟨some 34, (some (29, true)), .mov (.tmp 0)⟩,
  ⟨some 35, (some (29, true)), .nilCheck (.tmp 34)⟩,
  ⟨some 36, (some (29, true)), .fieldAddr 1 (.tmp 35)⟩,
  ⟨some 37, (some (29, true)), .load 1 false (.tmp 36)⟩,
  ⟨some 38, (some (29, true)), .indexAddr 3 (.tmp 33) (.tmp 37)⟩,
  ⟨some 39, (some (29, true)), .fieldAddr 1 (.tmp 38)⟩,
  ⟨some 40, (some (29, true)), .load 1 false (.tmp 39)⟩,
  ⟨some 41, (some (29, true)), .mov (.tmp 1)⟩,
  ⟨some 42, (some (29, true)), .bin .eql (.tmp 40) (.tmp 41)⟩,
  ⟨some 43, none, .pick (.tmp 29) (.tmp 42) (.const (.bool false))⟩,
  ⟨some 4, none, .mov (.tmp 43)⟩])
 .ret))⟩
theorem c_ref8_P_sign : (XTab.of Tryz.prog).code 41 = some k_ref8_P_sign := by kernel_rfl
def k_ref8_P_literal_p0 : ACode := (.seq (.region [⟨some 16, none, .mov (.tmp 0)⟩,
  ⟨some 17, none, .call (.const (.func (.func n_ref8_P_atom) [] [])) [(.tmp 16)]⟩,
  ⟨some 3, none, .alloc [(.int .i64 0), (.str []), .nilslice]⟩,
  ⟨none, none, .store 3 (.tmp 3) (.tmp 17)⟩])
 (.seq (.region [⟨some 18, none, .fieldAddr 0 (.tmp 3)⟩,
  ⟨none, none, .store 1 (.tmp 18) (.const (.int .i64 2))⟩])
 (.seq (.region [⟨some 19, none, .load 3 true (.tmp 3)⟩,
  ⟨none, none, .store 3 (.tmp 2) (.tmp 19)⟩])
 .ret)))
def k_ref8_P_literal_p1 : ACode := (.seq (.region [⟨some 9, none, .mov (.tmp 0)⟩,
  ⟨some 10, none, .nilCheck (.tmp 9)⟩,
  ⟨some 11, none, .fieldAddr 1 (.tmp 10)⟩,
  ⟨some 12, none, .load 1 false (.tmp 11)⟩,
  ⟨some 13, none, .bin .add (.tmp 12) (.const (.int .i64 1))⟩,
  ⟨some 14, none, .nilCheck (.tmp 9)⟩,
  ⟨some 15, none, .fieldAddr 1 (.tmp 14)⟩,
  ⟨none, none, .store 1 (.tmp 15) (.tmp 13)⟩])
 k_ref8_P_literal_p0)
def k_ref8_P_literal_p2 : ACode := (.seq (.region [⟨some 89, none, .mov (.tmp 0)⟩,
  ⟨some 90, none, .call (.const (.func (.func n_ref8_P_atom) [] [])) [(.tmp 89)]⟩,
  ⟨none, none, .store 3 (.tmp 2) (.tmp 90)⟩])
 .ret)
def k_ref8_P_literal_p3 : ACode := (.seq (.region [⟨some 139, none, .mov (.tmp 0)⟩,
  ⟨some 140, none, .call (.const (.func (.func n_ref8_P_bad) [] [])) [(.tmp 139), (.const (.int .i64 4))]⟩])
 (.seq (.region [⟨some 141, none, .build [(.int .i64 0), (.str []), .nilslice] []⟩,
  ⟨none, none, .store 3 (.tmp 2) (.tmp 141)⟩])
 .ret))
def k_ref8_P_literal_p4 : ACode := (.seq (.region [⟨some 163, none, .mov (.tmp 5)⟩,
  ⟨some 164, none, .load 3 true (.tmp 4)⟩,
  ⟨some 165, none, .load 3 true (.tmp 6)⟩,
  ⟨some 166, none, .buildSlice 2 [(.int .i64 0), (.str []), (.int .i64 0), (.int .i64 0), (.str []), (.int .i64 0)] [(0, 3, (.tmp 164)), (3, 3, (.tmp 165))]⟩,
  ⟨some 167, none, .build [(.int .i64 0), (.str []), .nilslice] [(0, 1, (.tmp 163)), (2, 1, (.tmp 166))]⟩,
  ⟨none, none, .store 3 (.tmp 2) (.tmp 167)⟩])
 .ret)
def k_ref8_P_literal_p5 : ACode := (.seq (.region [⟨some 154, none, .mov (.tmp 0)⟩,
  ⟨some 155, none, .nilCheck (.tmp 154)⟩,
  ⟨some 156, none, .fieldAddr 1 (.tmp 155)⟩,
  ⟨some 157, none, .load 1 false (.tmp 156)⟩,
  ⟨some 158, none, .bin .add (.tmp 157) (.const (.int .i64 1))⟩,
  ⟨some 159, none, .nilCheck (.tmp 154)⟩,
  ⟨some 160, none, .fieldAddr 1 (.tmp 159)⟩,
  ⟨none, none, .store 1 (.tmp 160) (.tmp 158)⟩])
 (.seq (.region [⟨some 161, none, .mov (.tmp 0)⟩,
  ⟨some 162, none, .call (.const (.func (.func n_ref8_P_term) [] [])) [(.tmp 161)]⟩,
  ⟨some 6, none, .alloc [(.int .i64 0), (.str []), (.int .i64 0)]⟩,
  ⟨none, none, .store 3 (.tmp 6) (.tmp 162)⟩])
 k_ref8_P_literal_p4))
def k_ref8_P_literal_p6 : ACode := (.seq (.region [⟨some 142, none, .mov (.tmp 0)⟩,
  ⟨some 143, none, .nilCheck (.tmp 142)⟩,
  ⟨some 144, none, .fieldAddr 0 (.tmp 143)⟩,
  ⟨some 145, none, .load 1 false (.tmp 144)⟩,
  ⟨some 146, none, .mov (.tmp 0)⟩,
  ⟨some 147, none, .nilCheck (.tmp 146)⟩,
  ⟨some 148, none, .fieldAddr 1 (.tmp 147)⟩,
  ⟨some 149, none, .load 1 false (.tmp 148)⟩,
  ⟨some 150, none, .indexAddr 3 (.tmp 145) (.tmp 149)⟩,
  ⟨some 151, none, .fieldAddr 1 (.tmp 150)⟩,
  ⟨some 152, none, .load 1 false (.tmp 151)⟩,
  ⟨some 153, none, .call (.const (.func (.func n_ref8_compare) [] [])) [(.tmp 152)]⟩,
  ⟨some 5, none, .mov (.tmp 153)⟩])
 k_ref8_P_literal_p5)
def k_ref8_P_literal_p7 : ACode := (.seq (.seq (.region [⟨some 93, none, .mov (.tmp 0)⟩,
  ⟨some 94, none, .nilCheck (.tmp 93)⟩,
  ⟨some 95, none, .fieldAddr 2 (.tmp 94)⟩,
  ⟨some 96, none, .load 1 false (.tmp 95)⟩,
  ⟨some 97, none, .bin .neq (.tmp 96) (.const (.int .i64 0))⟩,
  ⟨some 98, none, .mov (.tmp 97)⟩,
  ⟨some 99, (some (98, false)), .mov (.tmp 0)⟩,
  ⟨some 100, (some (98, false)), .nilCheck (.tmp 99)⟩,
  ⟨some 101, (some (98, false)), .fieldAddr 1 (.tmp 100)⟩,
  ⟨some 102, (some (98, false)), .load 1 false (.tmp 101)⟩,
  ⟨some 103, (some (98, false)), .mov (.tmp 0)⟩,
  ⟨some 104, (some (98, false)), .nilCheck (.tmp 103)⟩,
  ⟨some 105, (some (98, false)), .fieldAddr 0 (.tmp 104)⟩,
  ⟨some 106, (some (98, false)), .load 1 false (.tmp 105)⟩,
  ⟨some 107, (some (98, false)), .lenSl (.tmp 106)⟩,
  ⟨some 108, (some (98, false)), .bin .geq (.tmp 102) (.tmp 107)⟩,
  ⟨some 109, none, .pick (.tmp 98) (.const (.bool true)) (.tmp 108)⟩,
  ⟨some 110, none, .mov (.tmp 109)⟩,
  ⟨some 111, (some (110, false)), .mov (.tmp 0)⟩,
  ⟨some 112, (some (110, false)), .nilCheck (.tmp 111)⟩,
  ⟨some 113, (some (110, false)), .fieldAddr 0 (.tmp 112)⟩,
  ⟨some 114, (some (110, false)), .load 1 false (.tmp 113)⟩,
  ⟨some 115, (some (110, false)), .mov (.tmp 0)⟩,
  ⟨some 116, (some (110, false)), .nilCheck (.tmp 115)⟩,
  ⟨some 117, (some (110, false)), .fieldAddr 1 (.tmp 116)⟩,
  ⟨some 118, (some (110, false)), .load 1 false (.tmp 117)⟩,
  ⟨some 119, (some (110, false)), .indexAddr 3 (.tmp 114) (.tmp 118)⟩,
  ⟨some 120, (some (110, false)), .fieldAddr 0 (.tmp 119)⟩,
  ⟨some 121, (some (110, false)), .load 1 false (.tmp 120)⟩,
  ⟨some 122, (some (110, false)), .bin .neq (.tmp 121) (.const (.int .i64 4))⟩,
  ⟨some 123, none, .pick (.tmp 110) (.const (.bool true)) (.tmp 122)⟩,
  ⟨some 124, none, .mov (.tmp 123)⟩,
  ⟨some 125, (some (124, false)), .mov (.tmp 0)⟩,
  ⟨some 126, (some (124, false)), .nilCheck (.tmp 125)⟩,
  ⟨some 127, (some (124, false)), .fieldAddr 0 (.tmp 126)⟩,
  ⟨some 128, (some (124, false)), .load 1 false (.tmp 127)⟩,
  ⟨some 129, (some (124, false)), .mov (.tmp 0)⟩,
  ⟨some 130, (some (124, false)), .nilCheck (.tmp 129)⟩,
  ⟨some 131, (some (124, false)), .fieldAddr 1 (.tmp 130)⟩,
  ⟨some 132, (some (124, false)), .load 1 false (.tmp 131)⟩,
  ⟨some 133, (some (124, false)), .indexAddr 3 (.tmp 128) (.tmp 132)⟩,
  ⟨some 134, (some (124, false)), .fieldAddr 1 (.tmp 133)⟩,
  ⟨some 135, (some (124, false)), .load 1 false (.tmp 134)⟩,
  ⟨some 136, (some (124, false)), .call (.const (.func (.func n_ref8_compare) [] [])) [(.tmp 135)]⟩,
  ⟨some 137, (some (124, false)), .bin .eql (.tmp 136) (.const (.int .i64 0))⟩,
  ⟨some 138, none, .pick (.tmp 124) (.const (.bool true)) (.tmp 137)⟩])
 (.cond (.tmp 138) k_ref8_P_literal_p3 .skip))
 k_ref8_P_literal_p6)
def k_ref8_P_literal_p8 : ACode := (.seq (.seq (.region [⟨some 20, none, .mov (.tmp 0)⟩,
  ⟨some 21, none, .nilCheck (.tmp 20)⟩,
  ⟨some 22, none, .fieldAddr 1 (.tmp 21)⟩,
  ⟨some 23, none, .load 1 false (.tmp 22)⟩,
  ⟨some 24, none, .mov (.tmp 0)⟩,
  ⟨some 25, none, .nilCheck (.tmp 24)⟩,
  ⟨some 26, none, .fieldAddr 0 (.tmp 25)⟩,
  ⟨some 27, none, .load 1 false (.tmp 26)⟩,
  ⟨some 28, none, .lenSl (.tmp 27)⟩,
  ⟨some 29, none, .bin .lss (.tmp 23) (.tmp 28)⟩,
  ⟨some 30, none, .mov (.tmp 29)⟩,
  ⟨some 31, (some (30, true)), .mov (.tmp 0)⟩,
  ⟨some 32, (some (30, true)), .nilCheck (.tmp 31)⟩,
  ⟨some 33, (some (30, true)), .fieldAddr 0 (.tmp 32)⟩,
  ⟨some 34, (some (30, true)), .load 1 false (.tmp 33)⟩,
  ⟨some 35, (some (30, true)), .mov (.tmp 0)⟩,
  ⟨some 36, (some (30, true)), .nilCheck (.tmp 35)⟩,
  ⟨some 37, (some (30, true)), .fieldAddr 1 (.tmp 36)⟩,
  ⟨some 38, (some (30, true)), .load 1 false (.tmp 37)⟩,
  ⟨some 39, (some (30, true)), .indexAddr 3 (.tmp 34) (.tmp 38)⟩,
  ⟨some 40, (some (30, true)), .fieldAddr 0 (.tmp 39)⟩,
  ⟨some 41, (some (30, true)), .load 1 false (.tmp 40)⟩,
  ⟨some 42, (some (30, true)), .bin .eql (.tmp 41) (.const (.int .i64 1))⟩,
  ⟨some 43, none, .pick (.tmp 30) (.tmp 42) (.const (.bool false))⟩,
  ⟨some 44, none, .mov (.tmp 43)⟩,
  ⟨some 45, (some (44, true)), .mov (.tmp 0)⟩,
  ⟨some 46, (some (44, true)), .nilCheck (.tmp 45)⟩,
  ⟨some 47, (some (44, true)), .fieldAddr 1 (.tmp 46)⟩,
  ⟨some 48, (some (44, true)), .load 1 false (.tmp 47)⟩,
  ⟨some 49, (some (44, true)), .bin .add (.tmp 48) (.const (.int .i64 1))⟩,
  ⟨some 50, (some (44, true)), .mov (.tmp 0)⟩,
  ⟨some 51, (some (44, true)), .nilCheck (.tmp 50)⟩,
  ⟨some 52, (some (44, true)), .fieldAddr 0 (.tmp 51)⟩,
  ⟨some 53, (some (44, true)), .load 1 false (.tmp 52)⟩,
  ⟨some 54, (some (44, true)), .lenSl (.tmp 53)⟩,
  ⟨some 55, (some (44, true)), .bin .lss (.tmp 49) (.tmp 54)⟩,
  ⟨some 56, (some (44, true)), .mov (.tmp 55)⟩,
  ⟨some 57, (some (56, true)), .mov (.tmp 0)⟩,
  ⟨some 58, (some (56, true)), .nilCheck (.tmp 57)⟩,
  ⟨some 59, (some (56, true)), .fieldAddr 0 (.tmp 58)⟩,
  ⟨some 60, (some (56, true)), .load 1 false (.tmp 59)⟩,
  ⟨some 61, (some (56, true)), .mov (.tmp 0)⟩,
  ⟨some 62, (some (56, true)), .nilCheck (.tmp 61)⟩,
  ⟨some 63, (some (56, true)), .fieldAddr 1 (.tmp 62)⟩,
  ⟨some 64, (some (56, true)), .load 1 false (.tmp 63)⟩,
  ⟨some 65, (some (56, true)), .bin .add (.tmp 64) (.const (.int .i64 1))⟩,
  ⟨some 66, (some (56, true)), .indexAddr 3 (.tmp 60) (.tmp 65)⟩,
  ⟨some 67, (some (56, true)), .fieldAddr 0 (.tmp 66)⟩,
  ⟨some 68, (some (56, true)), .load 1 false (.tmp 67)⟩,
  ⟨some 69, (some (56, true)), .bin .eql (.tmp 68) (.const (.int .i64 4))⟩,
  ⟨some 70, (some (44, true)), .pick (.tmp 56) (.tmp 69) (.const (.bool false))⟩,
  ⟨some 71, (some (44, true)), .mov (.tmp 70)⟩,
  ⟨some 72, (some (71, true)), .mov (.tmp 0)⟩,
  ⟨some 73, (some (71, true)), .nilCheck (.tmp 72)⟩,
  ⟨some 74, (some (71, true)), .fieldAddr 0 (.tmp 73)⟩,
  ⟨some 75, (some (71, true)), .load 1 false (.tmp 74)⟩,
  ⟨some 76, (some (71, true)), .mov (.tmp 0)⟩,
  ⟨some 77, (some (71, true)), .nilCheck (.tmp 76)⟩,
  ⟨some 78, (some (71, true)), .fieldAddr 1 (.tmp 77)⟩,
  ⟨some 79, (some (71, true)), .load 1 false (.tmp 78)⟩,
  ⟨some 80, (some (71, true)), .bin .add (.tmp 79) (.const (.int .i64 1))⟩,
  ⟨some 81, (some (71, true)), .indexAddr 3 (.tmp 75) (.tmp 80)⟩,
  ⟨some 82, (some (71, true)), .fieldAddr 1 (.tmp 81)⟩,
  ⟨some 83, (some (71, true)), .load 1 false (.tmp 82)⟩,
  ⟨some 84, (some (71, true)), .call (.const (.func (.func n_ref8_compare) [] [])) [(.tmp 83)]⟩,
  ⟨some 85, (some (71, true)), .bin .gtr (.tmp 84) (.const (.int .i64 0))⟩,
  ⟨some 86, (some (44, true)), .pick (.tmp 71) (.tmp 85) (.const (.bool false))⟩,
  ⟨some 87, (some (44, true)), .un .not (.tmp 86)⟩,
  ⟨some 88, none, .pick (.tmp 44) (.tmp 87) (.const (.bool false))⟩])
 (.cond (.tmp 88) k_ref8_P_literal_p2 .skip))
 (.seq (.region [⟨some 91, none, .mov (.tmp 0)⟩,
  ⟨some 92, none, .call (.const (.func (.func n_ref8_P_term) [] [])) [(.tmp 91)]⟩,
  ⟨some 4, none, .alloc [(.int .i64 0), (.str []), (.int .i64 0)]⟩,
  ⟨none, none, .store 3 (.tmp 4) (.tmp 92)⟩])
 k_ref8_P_literal_p7))
def k_ref8_P_literal : AFun := ⟨168, [.cell 2 3 true], (.seq (.region [⟨some 2, none, .alloc [(.int .i64 0), (.str []), .nilslice]⟩])
 (.seq (.seq (.region [⟨some 7, none, .mov (.tmp 0)⟩,
  ⟨some 8, none, .call (.const (.func (.func n_ref8_P_sign) [] [])) [(.tmp 7), (.const (.str [33]))]⟩])
 (.cond (.tmp 8) k_ref8_P_literal_p1 .skip))
 k_ref8_P_literal_p8))⟩
theorem c_ref8_P_literal : (XTab.of Tryz.prog).code 42 = some k_ref8_P_literal := by kernel_rfl
def k_ref8_P_bad : AFun := ⟨13, [], (.seq (.region [⟨some 4, none, .mov (.tmp 0)⟩,
  ⟨some 5, none, .nilCheck (.tmp 4)⟩,
  ⟨some 6, none, .fieldAddr 2 (.tmp 5)⟩,
  ⟨some 7, none, .load 1 false (.tmp 6)⟩,
  ⟨some 8, none, .bin .eql (.tmp 7) (.const (.int .i64 0))⟩])
 (.cond (.tmp 8) (.region [⟨some 9, none, .mov (.tmp 0)⟩,
  ⟨some 10, none, .mov (.tmp 1)⟩,
  ⟨some 11, none, .nilCheck (.tmp 9)⟩,
  ⟨some 12, none, .fieldAddr 2 (.tmp 11)⟩,
  ⟨none, none, .store 1 (.tmp 12) (.tmp 10)⟩]) .skip))⟩
theorem c_ref8_P_bad : (XTab.of Tryz.prog).code 43 = some k_ref8_P_bad := by kernel_rfl
def k_ref8_P_eat : AFun := ⟨22, [], (.seq (.seq (.region [⟨some 4, none, .mov (.tmp 0)⟩,
  ⟨some 5, none, .nilCheck (.tmp 4)⟩,
  ⟨some 6, none, .fieldAddr 2 (.tmp 5)⟩,
  ⟨some 7, none, .load 1 false (.tmp 6)⟩,
  ⟨some 8, none, .bin .neq (.tmp 7) (.const (.int .i64 0))⟩])
 (.cond (.tmp 8) .ret .skip))
 (.seq (.seq (.region [⟨some 9, none, .mov (.tmp 0)⟩,
  ⟨some 10, none, .mov (.tmp 1)⟩,
  ⟨some 11, none, .call (.const (.func (.func n_ref8_P_sign) [] [])) [(.tmp 9), (.tmp 10)]⟩,
  ⟨some 12, none, .un .not (.tmp 11)⟩])
 (.cond (.tmp 12) (.seq (.region [⟨some 13, none, .mov (.tmp 0)⟩,
  ⟨some 14, none, .call (.const (.func (.func n_ref8_P_bad) [] [])) [(.tmp 13), (.const (.int .i64 4))]⟩])
 .ret) .skip))
 (.region [⟨some 15, none, .mov (.tmp 0)⟩,
  ⟨some 16, none, .nilCheck (.tmp 15)⟩,
  ⟨some 17, none, .fieldAddr 1 (.tmp 16)⟩,
  ⟨some 18, none, .load 1 false (.tmp 17)⟩,
  ⟨some 19, none, .bin .add (.tmp 18) (.const (.int .i64 1))⟩,
  ⟨some 20, none, .nilCheck (.tmp 15)⟩,
  ⟨some 21, none, .fieldAddr 1 (.tmp 20)⟩,
  ⟨none, none, .store 1 (.tmp 21) (.tmp 19)⟩])))⟩
theorem c_ref8_P_eat : (XTab.of Tryz.prog).code 44 = some k_ref8_P_eat := by kernel_rfl
def k_syntax_literal_p0 : ACode := (.seq (.region [⟨some 33, none, .fieldAddr 1 (.tmp 1)⟩,
  ⟨some 34, none, .load 1 false (.tmp 33)⟩,
  ⟨some 35, none, .fieldAddr 2 (.tmp 1)⟩,
  ⟨some 36, none, .load 1 false (.tmp 35)⟩,
  ⟨some 37, none, .call (.const (.func (.func n_value_Atom) [] [])) [(.tmp 34), (.tmp 36)]⟩,
  ⟨some 38, none, .bin .add (.const (.str [33])) (.tmp 37)⟩,
  ⟨some 2, none, .mov (.tmp 38)⟩])
 .ret)
def k_syntax_literal_p1 : ACode := (.seq (.drawn [⟨⟨some 16, none, .fieldAddr 2 (.tmp 1)⟩, false, [], []⟩,
  ⟨⟨some 17, none, .load 1 false (.tmp 16)⟩, false, [0], []⟩,
  ⟨⟨some 18, none, .indexAddr 3 (.tmp 17) (.const (.int .i64 0))⟩, false, [1, 0], []⟩,
  ⟨⟨some 19, none, .load 3 true (.tmp 18)⟩, false, [2, 1, 0], []⟩,
  ⟨⟨some 20, none, .call (.const (.func (.func n_value_Print) [] [])) [(.tmp 19)]⟩, true, [3, 2, 1, 0], []⟩,
  ⟨⟨some 21, none, .mov (.tmp 3)⟩, false, [], []⟩,
  ⟨⟨some 22, none, .bin .add (.tmp 20) (.tmp 21)⟩, false, [5, 4, 3, 2, 1, 0], []⟩,
  ⟨⟨some 23, none, .fieldAddr 2 (.tmp 1)⟩, false, [], []⟩,
  ⟨⟨some 24, none, .load 1 false (.tmp 23)⟩, false, [7], []⟩,
  ⟨⟨some 25, none, .indexAddr 3 (.tmp 24) (.const (.int .i64 1))⟩, false, [8, 7], []⟩,
  ⟨⟨some 26, none, .load 3 true (.tmp 25)⟩, false, [9, 8, 7], []⟩,
  ⟨⟨some 27, none, .call (.const (.func (.func n_value_Print) [] [])) [(.tmp 26)]⟩, true, [10, 9, 8, 7, 4, 3, 2, 1, 0], []⟩,
  ⟨⟨some 28, none, .bin .add (.tmp 22) (.tmp 27)⟩, false, [11, 10, 9, 8, 7, 6, 5, 4, 3, 2, 1, 0], []⟩,
  ⟨⟨some 2, none, .mov (.tmp 28)⟩, false, [12, 11, 10, 9, 8, 7, 6, 5, 4, 3, 2, 1, 0], []⟩])
 .ret)
def k_syntax_literal_p2 : ACode := (.seq (.region [⟨some 30, none, .fieldAddr 0 (.tmp 1)⟩,
  ⟨some 31, none, .load 1 false (.tmp 30)⟩,
  ⟨some 32, none, .bin .eql (.tmp 31) (.const (.int .i64 2))⟩,
  ⟨some 29, none, .mov (.tmp 32)⟩])
 (.cond (.tmp 29) k_syntax_literal_p0 .skip))
def k_syntax_literal_p3 : ACode := (.seq (.region [⟨some 8, none, .mov (.tmp 3)⟩,
  ⟨some 9, none, .bin .neq (.tmp 8) (.const (.str []))⟩,
  ⟨some 10, none, .mov (.tmp 9)⟩,
  ⟨some 11, (some (10, true)), .fieldAddr 2 (.tmp 1)⟩,
  ⟨some 12, (some (10, true)), .load 1 false (.tmp 11)⟩,
  ⟨some 13, (some (10, true)), .lenSl (.tmp 12)⟩,
  ⟨some 14, (some (10, true)), .bin .eql (.tmp 13) (.const (.int .i64 2))⟩,
  ⟨some 15, none, .pick (.tmp 10) (.tmp 14) (.const (.bool false))⟩,
  ⟨some 7, none, .mov (.tmp 15)⟩])
 (.cond (.tmp 7) k_syntax_literal_p1 k_syntax_literal_p2))
def k_syntax_literal_p4 : ACode := (.seq (.region [⟨some 39, none, .fieldAddr 1 (.tmp 1)⟩,
  ⟨some 40, none, .load 1 false (.tmp 39)⟩,
  ⟨some 41, none, .fieldAddr 2 (.tmp 1)⟩,
  ⟨some 42, none, .load 1 false (.tmp 41)⟩,
  ⟨some 43, none, .call (.const (.func (.func n_value_Atom) [] [])) [(.tmp 40), (.tmp 42)]⟩,
  ⟨some 2, none, .mov (.tmp 43)⟩])
 .ret)
def k_syntax_literal : AFun := ⟨44, [.tmp 2], (.seq (.region [⟨some 1, none, .box (.tmp 0)⟩,
  ⟨some 2, none, .mov (.const (.str []))⟩])
 (.seq (.seq (.region [⟨some 4, none, .fieldAddr 0 (.tmp 1)⟩,
  ⟨some 5, none, .load 1 false (.tmp 4)⟩,
  ⟨some 6, none, .call (.const (.func (.func n_syntax_between) [] [])) [(.tmp 5)]⟩,
  ⟨some 3, none, .mov (.tmp 6)⟩])
 (.block 0 k_syntax_literal_p3))
 k_syntax_literal_p4))⟩
theorem c_syntax_literal : (XTab.of Tryz.prog).code 45 = some k_syntax_literal := by kernel_rfl
def k_ref8_Atom_p0 : ACode := (.seq (.seq (.region [⟨some 19, none, .mov (.tmp 6)⟩,
  ⟨some 20, none, .bin .gtr (.tmp 19) (.const (.int .i64 0))⟩])
 (.cond (.tmp 20) (.region [⟨some 21, none, .mov (.tmp 5)⟩,
  ⟨some 22, none, .bin .add (.tmp 21) (.const (.str [44, 32]))⟩,
  ⟨some 5, none, .mov (.tmp 22)⟩]) .skip))
 (.region [⟨some 23, none, .mov (.tmp 5)⟩,
  ⟨some 24, none, .mov (.tmp 1)⟩,
  ⟨some 25, none, .mov (.tmp 6)⟩,
  ⟨some 26, none, .indexAddr 3 (.tmp 24) (.tmp 25)⟩,
  ⟨some 27, none, .load 3 true (.tmp 26)⟩,
  ⟨some 28, none, .call (.const (.func (.func n_ref8_Print) [] [])) [(.tmp 27)]⟩,
  ⟨some 29, none, .bin .add (.tmp 23) (.tmp 28)⟩,
  ⟨some 5, none, .mov (.tmp 29)⟩]))
def k_ref8_Atom_p1 : ACode := (.seq (.seq (.region [⟨some 13, none, .mov (.tmp 6)⟩,
  ⟨some 14, none, .mov (.tmp 1)⟩,
  ⟨some 15, none, .lenSl (.tmp 14)⟩,
  ⟨some 16, none, .bin .lss (.tmp 13) (.tmp 15)⟩])
 (.cond (.tmp 16) .skip (.exit 0)))
 (.seq (.block 1 k_ref8_Atom_p0)
 (.region [⟨some 17, none, .mov (.tmp 6)⟩,
  ⟨some 18, none, .bin .add (.tmp 17) (.const (.int .i64 1))⟩,
  ⟨some 6, none, .mov (.tmp 18)⟩])))
def k_ref8_Atom : AFun := ⟨32, [.tmp 4], (.seq (.region [⟨some 4, none, .mov (.const (.str []))⟩])
 (.seq (.seq (.region [⟨some 7, none, .mov (.tmp 1)⟩,
  ⟨some 8, none, .lenSl (.tmp 7)⟩,
  ⟨some 9, none, .bin .eql (.tmp 8) (.const (.int .i64 0))⟩])
 (.cond (.tmp 9) (.seq (.region [⟨some 10, none, .mov (.tmp 0)⟩,
  ⟨some 4, none, .mov (.tmp 10)⟩])
 .ret) .skip))
 (.seq (.region [⟨some 11, none, .mov (.tmp 0)⟩,
  ⟨some 12, none, .bin .add (.tmp 11) (.const (.str [40]))⟩,
  ⟨some 5, none, .mov (.tmp 12)⟩])
 (.seq (.seq (.region [⟨some 6, none, .mov (.const (.int .i64 0))⟩])
 (.block 0 (.loop k_ref8_Atom_p1)))
 (.seq (.region [⟨some 30, none, .mov (.tmp 5)⟩,
  ⟨some 31, none, .bin .add (.tmp 30) (.const (.str [41]))⟩,
  ⟨some 4, none, .mov (.tmp 31)⟩])
 .ret)))))⟩
theorem c_ref8_Atom : (XTab.of Tryz.prog).code 47 = some k_ref8_Atom := by kernel_rfl
def k_ref8_Print : AFun := ⟨11, [.tmp 2], (.seq (.region [⟨some 1, none, .box (.tmp 0)⟩,
  ⟨some 2, none, .mov (.const (.str []))⟩])
 (.seq (.seq (.region [⟨some 3, none, .fieldAddr 0 (.tmp 1)⟩,
  ⟨some 4, none, .load 1 false (.tmp 3)⟩,
  ⟨some 5, none, .bin .eql (.tmp 4) (.const (.int .i64 3))⟩])
 (.cond (.tmp 5) (.seq (.region [⟨some 6, none, .fieldAddr 2 (.tmp 1)⟩,
  ⟨some 7, none, .load 1 false (.tmp 6)⟩,
  ⟨some 8, none, .call (.const (.func (.func n_ref8_dec) [] [])) [(.tmp 7)]⟩,
  ⟨some 2, none, .mov (.tmp 8)⟩])
 .ret) .skip))
 (.seq (.region [⟨some 9, none, .fieldAddr 1 (.tmp 1)⟩,
  ⟨some 10, none, .load 1 false (.tmp 9)⟩,
  ⟨some 2, none, .mov (.tmp 10)⟩])
 .ret)))⟩
theorem c_ref8_Print : (XTab.of Tryz.prog).code 48 = some k_ref8_Print := by kernel_rfl
def k_ref8_sign_p0 : ACode := (.seq (.region [⟨some 3, none, .buildSlice 4 [(.str []), (.str []), (.str []), (.str [])] [(0, 1, (.const (.str [61]))), (1, 1, (.const (.str [33, 61]))), (2, 1, (.const (.str [60]))), (3, 1, (.const (.str [60, 61])))]⟩,
  ⟨some 4, none, .mov (.tmp 0)⟩,
  ⟨some 5, none, .bin .sub (.tmp 4) (.const (.int .i64 3))⟩,
  ⟨some 6, none, .indexAddr 1 (.tmp 3) (.tmp 5)⟩,
  ⟨some 7, none, .load 1 false (.tmp 6)⟩,
  ⟨some 2, none, .mov (.tmp 7)⟩])
 .ret)
def k_ref8_sign : AFun := ⟨8, [.tmp 2], (.seq (.region [⟨some 2, none, .mov (.const (.str []))⟩])
 k_ref8_sign_p0)⟩
theorem c_ref8_sign : (XTab.of Tryz.prog).code 49 = some k_ref8_sign := by kernel_rfl
def k_syntax_open_p0 : ACode := (.seq (.region [⟨some 8, none, .build [.nilslice, (.bool false), (.int .i64 0)] [(2, 1, (.const (.int .i64 8)))]⟩,
  ⟨some 9, none, .box (.tmp 8)⟩,
  ⟨some 2, none, .mov (.tmp 9)⟩])
 .ret)
def k_syntax_open_p1 : ACode := (.seq (.region [⟨some 15, none, .mov (.tmp 3)⟩,
  ⟨some 16, none, .mov (.tmp 4)⟩,
  ⟨some 17, none, .build [.nilslice, (.bool false), (.int .i64 0)] [(0, 1, (.tmp 15)), (1, 1, (.tmp 16))]⟩,
  ⟨some 18, none, .box (.tmp 17)⟩,
  ⟨some 2, none, .mov (.tmp 18)⟩])
 .ret)
def k_syntax_open_p2 : ACode := (.seq (.region [⟨some 11, none, .mov (.tmp 0)⟩,
  ⟨some 12, none, .call (.const (.func (.func n_lex_Front) [] [])) [(.tmp 11)]⟩,
  ⟨some 10, none, .mov (.tmp 12)⟩,
  ⟨some 13, none, .extract 0 (.tmp 10)⟩,
  ⟨some 14, none, .extract 1 (.tmp 10)⟩,
  ⟨some 3, none, .mov (.tmp 13)⟩,
  ⟨some 4, none, .mov (.tmp 14)⟩])
 k_syntax_open_p1)
def k_syntax_open : AFun := ⟨19, [.tmp 2], (.seq (.region [⟨some 2, none, .mov (.const .nilptr)⟩])
 (.seq (.seq (.region [⟨some 5, none, .mov (.tmp 0)⟩,
  ⟨some 6, none, .lenStr (.tmp 5)⟩,
  ⟨some 7, none, .bin .gtr (.tmp 6) (.const (.int .i64 4000))⟩])
 (.cond (.tmp 7) k_syntax_open_p0 .skip))
 k_syntax_open_p2))⟩
theorem c_syntax_open : (XTab.of Tryz.prog).code 50 = some k_syntax_open := by kernel_rfl
def k_syntax_parser_end_p0 : ACode := (.seq (.region [⟨some 3, none, .mov (.tmp 0)⟩,
  ⟨some 4, none, .nilCheck (.tmp 3)⟩,
  ⟨some 5, none, .fieldAddr 0 (.tmp 4)⟩,
  ⟨some 6, none, .load 1 false (.tmp 5)⟩,
  ⟨some 7, none, .lenSl (.tmp 6)⟩,
  ⟨some 8, none, .bin .eql (.tmp 7) (.const (.int .i64 0))⟩,
  ⟨some 9, none, .mov (.tmp 8)⟩,
  ⟨some 10, (some (9, true)), .mov (.tmp 0)⟩,
  ⟨some 11, (some (9, true)), .nilCheck (.tmp 10)⟩,
  ⟨some 12, (some (9, true)), .fieldAddr 1 (.tmp 11)⟩,
  ⟨some 13, (some (9, true)), .load 1 false (.tmp 12)⟩,
  ⟨some 14, none, .pick (.tmp 9) (.tmp 13) (.const (.bool false))⟩,
  ⟨some 2, none, .mov (.tmp 14)⟩])
 .ret)
def k_syntax_parser_end : AFun := ⟨15, [.tmp 2], (.seq (.region [⟨some 2, none, .mov (.const (.bool false))⟩])
 k_syntax_parser_end_p0)⟩
theorem c_syntax_parser_end : (XTab.of Tryz.prog).code 51 = some k_syntax_parser_end := by kernel_rfl
def k_syntax_parser_clause_p0 : ACode := (.region [⟨some 20, none, .mov (.tmp 0)⟩,
  ⟨some 21, none, .call (.const (.func (.func n_syntax_parser_fail) [] [])) [(.tmp 20), (.const (.int .i64 8))]⟩])
def k_syntax_parser_clause_p1 : ACode := (.seq (.seq (.region [⟨some 16, none, .fieldAddr 3 (.tmp 3)⟩,
  ⟨some 17, none, .load 1 false (.tmp 16)⟩,
  ⟨some 18, none, .lenSl (.tmp 17)⟩,
  ⟨some 19, none, .bin .gtr (.tmp 18) (.const (.int .i64 6))⟩])
 (.cond (.tmp 19) k_syntax_parser_clause_p0 .skip))
 (.seq (.region [⟨some 22, none, .mov (.tmp 0)⟩,
  ⟨some 23, none, .call (.const (.func (.func n_syntax_parser_take) [] [])) [(.tmp 22), (.const (.str [44]))]⟩,
  ⟨some 24, none, .un .not (.tmp 23)⟩])
 (.cond (.tmp 24) (.exit 0) .skip)))
def k_syntax_parser_clause_p2 : ACode := (.seq (.drawn [⟨⟨some 9, none, .fieldAddr 3 (.tmp 3)⟩, false, [], []⟩,
  ⟨⟨some 10, none, .load 1 false (.tmp 9)⟩, false, [0], []⟩,
  ⟨⟨some 11, none, .mov (.tmp 0)⟩, false, [], []⟩,
  ⟨⟨some 12, none, .call (.const (.func (.func n_syntax_parser_literal) [] [])) [(.tmp 11)]⟩, true, [2], []⟩,
  ⟨⟨some 13, none, .buildSlice 1 [(.int .i64 0), (.str []), .nilslice] [(0, 3, (.tmp 12))]⟩, true, [3, 2], []⟩,
  ⟨⟨some 14, none, .append 3 48 (.tmp 10) (.tmp 13)⟩, true, [4, 3, 2, 1, 0], []⟩,
  ⟨⟨some 15, none, .fieldAddr 3 (.tmp 3)⟩, false, [5, 4, 3, 2, 1, 0], []⟩,
  ⟨⟨none, none, .store 1 (.tmp 15) (.tmp 14)⟩, true, [6, 5, 4, 3, 2, 1, 0], []⟩])
 k_syntax_parser_clause_p1)
def k_syntax_parser_clause_p3 : ACode := (.block 1 k_syntax_parser_clause_p2)
def k_syntax_parser_clause_p4 : ACode := (.seq (.region [⟨some 25, none, .mov (.tmp 0)⟩,
  ⟨some 26, none, .call (.const (.func (.func n_syntax_parser_must) [] [])) [(.tmp 25), (.const (.str [46]))]⟩])
 (.seq (.region [⟨some 27, none, .load 4 true (.tmp 3)⟩,
  ⟨none, none, .store 4 (.tmp 2) (.tmp 27)⟩])
 .ret))
def k_syntax_parser_clause_p5 : ACode := (.seq (.region [⟨some 4, none, .mov (.tmp 0)⟩,
  ⟨some 5, none, .call (.const (.func (.func n_syntax_parser_atom) [] [])) [(.tmp 4)]⟩,
  ⟨some 6, none, .build [(.int .i64 0), (.str []), .nilslice, .nilslice] [(0, 3, (.tmp 5))]⟩,
  ⟨some 3, none, .alloc [(.int .i64 0), (.str []), .nilslice, .nilslice]⟩,
  ⟨none, none, .store 4 (.tmp 3) (.tmp 6)⟩])
 (.seq (.seq (.region [⟨some 7, none, .mov (.tmp 0)⟩,
  ⟨some 8, none, .call (.const (.func (.func n_syntax_parser_take) [] [])) [(.tmp 7), (.const (.str [58, 45]))]⟩])
 (.cond (.tmp 8) (.block 0 (.loop k_syntax_parser_clause_p3)) .skip))
 k_syntax_parser_clause_p4))
def k_syntax_parser_clause : AFun := ⟨28, [.cell 2 4 true], (.seq (.region [⟨some 2, none, .alloc [(.int .i64 0), (.str []), .nilslice, .nilslice]⟩])
 k_syntax_parser_clause_p5)⟩
theorem c_syntax_parser_clause : (XTab.of Tryz.prog).code 52 = some k_syntax_parser_clause := by kernel_rfl
def k_syntax_parser_fail_p0 : ACode := (.region [⟨some 9, none, .mov (.tmp 0)⟩,
  ⟨some 10, none, .mov (.tmp 1)⟩,
  ⟨some 11, none, .nilCheck (.tmp 9)⟩,
  ⟨some 12, none, .fieldAddr 2 (.tmp 11)⟩,
  ⟨none, none, .store 1 (.tmp 12) (.tmp 10)⟩])
def k_syntax_parser_fail : AFun := ⟨13, [], (.seq (.region [⟨some 4, none, .mov (.tmp 0)⟩,
  ⟨some 5, none, .nilCheck (.tmp 4)⟩,
  ⟨some 6, none, .fieldAddr 2 (.tmp 5)⟩,
  ⟨some 7, none, .load 1 false (.tmp 6)⟩,
  ⟨some 8, none, .bin .eql (.tmp 7) (.const (.int .i64 0))⟩])
 (.cond (.tmp 8) k_syntax_parser_fail_p0 .skip))⟩
theorem c_syntax_parser_fail : (XTab.of Tryz.prog).code 53 = some k_syntax_parser_fail := by kernel_rfl
def k_ref8_EqRule_p0 : ACode := (.seq (.region [⟨some 4, none, .mov (.const (.bool false))⟩])
 .ret)
def k_ref8_EqRule_p1 : ACode := (.seq (.region [⟨some 4, none, .mov (.const (.bool false))⟩])
 .ret)
def k_ref8_EqRule_p2 : ACode := (.seq (.region [⟨some 28, none, .fieldAddr 3 (.tmp 2)⟩,
  ⟨some 29, none, .load 1 false (.tmp 28)⟩,
  ⟨some 30, none, .mov (.tmp 5)⟩,
  ⟨some 31, none, .indexAddr 3 (.tmp 29) (.tmp 30)⟩,
  ⟨some 32, none, .load 3 true (.tmp 31)⟩,
  ⟨some 33, none, .fieldAddr 3 (.tmp 3)⟩,
  ⟨some 34, none, .load 1 false (.tmp 33)⟩,
  ⟨some 35, none, .mov (.tmp 5)⟩,
  ⟨some 36, none, .indexAddr 3 (.tmp 34) (.tmp 35)⟩,
  ⟨some 37, none, .load 3 true (.tmp 36)⟩,
  ⟨some 38, none, .call (.const (.func (.func n_ref8_EqLiteral) [] [])) [(.tmp 32), (.tmp 37)]⟩,
  ⟨some 39, none, .un .not (.tmp 38)⟩])
 (.cond (.tmp 39) k_ref8_EqRule_p1 .skip))
def k_ref8_EqRule_p3 : ACode := (.seq (.seq (.region [⟨some 21, none, .mov (.tmp 5)⟩,
  ⟨some 22, none, .fieldAddr 3 (.tmp 2)⟩,
  ⟨some 23, none, .load 1 false (.tmp 22)⟩,
  ⟨some 24, none, .lenSl (.tmp 23)⟩,
  ⟨some 25, none, .bin .lss (.tmp 21) (.tmp 24)⟩])
 (.cond (.tmp 25) .skip (.exit 0)))
 (.seq (.block 1 k_ref8_EqRule_p2)
 (.region [⟨some 26, none, .mov (.tmp 5)⟩,
  ⟨some 27, none, .bin .add (.tmp 26) (.const (.int .i64 1))⟩,
  ⟨some 5, none, .mov (.tmp 27)⟩])))
def k_ref8_EqRule_p4 : ACode := (.seq (.seq (.region [⟨some 6, none, .fieldAddr 0 (.tmp 2)⟩,
  ⟨some 7, none, .load 3 true (.tmp 6)⟩,
  ⟨some 8, none, .fieldAddr 0 (.tmp 3)⟩,
  ⟨some 9, none, .load 3 true (.tmp 8)⟩,
  ⟨some 10, none, .call (.const (.func (.func n_ref8_EqLiteral) [] [])) [(.tmp 7), (.tmp 9)]⟩,
  ⟨some 11, none, .un .not (.tmp 10)⟩,
  ⟨some 12, none, .mov (.tmp 11)⟩,
  ⟨some 13, (some (12, false)), .fieldAddr 3 (.tmp 2)⟩,
  ⟨some 14, (some (12, false)), .load 1 false (.tmp 13)⟩,
  ⟨some 15, (some (12, false)), .lenSl (.tmp 14)⟩,
  ⟨some 16, (some (12, false)), .fieldAddr 3 (.tmp 3)⟩,
  ⟨some 17, (some (12, false)), .load 1 false (.tmp 16)⟩,
  ⟨some 18, (some (12, false)), .lenSl (.tmp 17)⟩,
  ⟨some 19, (some (12, false)), .bin .neq (.tmp 15) (.tmp 18)⟩,
  ⟨some 20, none, .pick (.tmp 12) (.const (.bool true)) (.tmp 19)⟩])
 (.cond (.tmp 20) k_ref8_EqRule_p0 .skip))
 (.seq (.seq (.region [⟨some 5, none, .mov (.const (.int .i64 0))⟩])
 (.block 0 (.loop k_ref8_EqRule_p3)))
 (.seq (.region [⟨some 4, none, .mov (.const (.bool true))⟩])
 .ret)))
def k_ref8_EqRule : AFun := ⟨40, [.tmp 4], (.seq (.region [⟨some 2, none, .box (.tmp 0)⟩,
  ⟨some 3, none, .box (.tmp 1)⟩,
  ⟨some 4, none, .mov (.const (.bool false))⟩])
 k_ref8_EqRule_p4)⟩
theorem c_ref8_EqRule : (XTab.of Tryz.prog).code 54 = some k_ref8_EqRule := by kernel_rfl
def k_value_May_p0 : ACode := (.seq (.region [⟨some 22, none, .fieldAddr 2 (.tmp 1)⟩,
  ⟨some 23, none, .load 1 false (.tmp 22)⟩,
  ⟨some 24, none, .bin .eql (.tmp 23) (.const (.int .i64 0))⟩,
  ⟨some 25, none, .mov (.tmp 24)⟩,
  ⟨some 26, (some (25, true)), .fieldAddr 1 (.tmp 1)⟩,
  ⟨some 27, (some (25, true)), .load 1 false (.tmp 26)⟩,
  ⟨some 28, (some (25, true)), .call (.const (.func (.func n_value_Word) [] [])) [(.tmp 27)]⟩,
  ⟨some 29, none, .pick (.tmp 25) (.tmp 28) (.const (.bool false))⟩,
  ⟨some 2, none, .mov (.tmp 29)⟩])
 .ret)
def k_value_May_p1 : ACode := (.seq (.region [⟨some 7, none, .fieldAddr 1 (.tmp 1)⟩,
  ⟨some 8, none, .load 1 false (.tmp 7)⟩,
  ⟨some 9, none, .bin .eql (.tmp 8) (.const (.str []))⟩,
  ⟨some 10, none, .mov (.tmp 9)⟩,
  ⟨some 11, (some (10, true)), .fieldAddr 2 (.tmp 1)⟩,
  ⟨some 12, (some (10, true)), .load 1 false (.tmp 11)⟩,
  ⟨some 13, (some (10, true)), .bin .geq (.tmp 12) (.const (.int .i64 (-2147483648)))⟩,
  ⟨some 14, none, .pick (.tmp 10) (.tmp 13) (.const (.bool false))⟩,
  ⟨some 15, none, .mov (.tmp 14)⟩,
  ⟨some 16, (some (15, true)), .fieldAddr 2 (.tmp 1)⟩,
  ⟨some 17, (some (15, true)), .load 1 false (.tmp 16)⟩,
  ⟨some 18, (some (15, true)), .bin .leq (.tmp 17) (.const (.int .i64 2147483648))⟩,
  ⟨some 19, none, .pick (.tmp 15) (.tmp 18) (.const (.bool false))⟩,
  ⟨some 2, none, .mov (.tmp 19)⟩])
 .ret)
def k_value_May_p2 : ACode := (.seq (.region [⟨some 6, none, .bin .eql (.tmp 4) (.const (.int .i64 3))⟩,
  ⟨some 5, none, .mov (.tmp 6)⟩])
 (.cond (.tmp 5) k_value_May_p1 (.seq (.region [⟨some 21, none, .bin .eql (.tmp 4) (.const (.int .i64 2))⟩,
  ⟨some 20, none, .mov (.tmp 21)⟩])
 (.cond (.tmp 20) k_value_May_p0 .skip))))
def k_value_May : AFun := ⟨30, [.tmp 2], (.seq (.region [⟨some 1, none, .box (.tmp 0)⟩,
  ⟨some 2, none, .mov (.const (.bool false))⟩])
 (.seq (.seq (.region [⟨some 3, none, .fieldAddr 0 (.tmp 1)⟩,
  ⟨some 4, none, .load 1 false (.tmp 3)⟩])
 (.block 0 k_value_May_p2))
 (.seq (.region [⟨some 2, none, .mov (.const (.bool false))⟩])
 .ret)))⟩
theorem c_value_May : (XTab.of Tryz.prog).code 55 = some k_value_May := by kernel_rfl
end Go.Proofs.YtegdcbdicpfbpaaGreatDoor
set_option maxRecDepth 100000
set_option linter.unusedVariables false
namespace Go.Proofs.YtegdcbdicpfbpaaGreatDoor
open Go.AE
def k_ref8_Eq : AFun := ⟨24, [.tmp 4], (.seq (.region [⟨some 2, none, .box (.tmp 0)⟩,
  ⟨some 3, none, .box (.tmp 1)⟩,
  ⟨some 4, none, .mov (.const (.bool false))⟩])
 (.seq (.region [⟨some 5, none, .fieldAddr 0 (.tmp 2)⟩,
  ⟨some 6, none, .load 1 false (.tmp 5)⟩,
  ⟨some 7, none, .fieldAddr 0 (.tmp 3)⟩,
  ⟨some 8, none, .load 1 false (.tmp 7)⟩,
  ⟨some 9, none, .bin .eql (.tmp 6) (.tmp 8)⟩,
  ⟨some 10, none, .mov (.tmp 9)⟩,
  ⟨some 11, (some (10, true)), .fieldAddr 1 (.tmp 2)⟩,
  ⟨some 12, (some (10, true)), .load 1 false (.tmp 11)⟩,
  ⟨some 13, (some (10, true)), .fieldAddr 1 (.tmp 3)⟩,
  ⟨some 14, (some (10, true)), .load 1 false (.tmp 13)⟩,
  ⟨some 15, (some (10, true)), .bin .eql (.tmp 12) (.tmp 14)⟩,
  ⟨some 16, none, .pick (.tmp 10) (.tmp 15) (.const (.bool false))⟩,
  ⟨some 17, none, .mov (.tmp 16)⟩,
  ⟨some 18, (some (17, true)), .fieldAddr 2 (.tmp 2)⟩,
  ⟨some 19, (some (17, true)), .load 1 false (.tmp 18)⟩,
  ⟨some 20, (some (17, true)), .fieldAddr 2 (.tmp 3)⟩,
  ⟨some 21, (some (17, true)), .load 1 false (.tmp 20)⟩,
  ⟨some 22, (some (17, true)), .bin .eql (.tmp 19) (.tmp 21)⟩,
  ⟨some 23, none, .pick (.tmp 17) (.tmp 22) (.const (.bool false))⟩,
  ⟨some 4, none, .mov (.tmp 23)⟩])
 .ret))⟩
theorem c_ref8_Eq : (XTab.of Tryz.prog).code 59 = some k_ref8_Eq := by kernel_rfl
def k_syntax_single_p0 : ACode := (.region [⟨some 15, none, .mov (.tmp 4)⟩,
  ⟨some 16, none, .call (.const (.func (.func n_syntax_parser_fail) [] [])) [(.tmp 15), (.const (.int .i64 4))]⟩])
def k_syntax_single_p1 : ACode := (.seq (.drawn [⟨⟨some 22, none, .build [(.int .i64 0), (.str []), .nilslice] []⟩, false, [], []⟩,
  ⟨⟨some 23, none, .mov (.tmp 4)⟩, false, [], []⟩,
  ⟨⟨some 24, none, .nilCheck (.tmp 23)⟩, false, [1], []⟩,
  ⟨⟨some 25, none, .fieldAddr 2 (.tmp 24)⟩, false, [2, 1], []⟩,
  ⟨⟨some 26, none, .load 1 false (.tmp 25)⟩, false, [3, 2, 1], []⟩,
  ⟨⟨none, none, .store 3 (.tmp 2) (.tmp 22)⟩, true, [0], []⟩,
  ⟨⟨some 3, none, .mov (.tmp 26)⟩, false, [5, 4, 3, 2, 1, 0], []⟩])
 .ret)
def k_syntax_single_p2 : ACode := (.seq (.seq (.region [⟨some 17, none, .mov (.tmp 4)⟩,
  ⟨some 18, none, .nilCheck (.tmp 17)⟩,
  ⟨some 19, none, .fieldAddr 2 (.tmp 18)⟩,
  ⟨some 20, none, .load 1 false (.tmp 19)⟩,
  ⟨some 21, none, .bin .neq (.tmp 20) (.const (.int .i64 0))⟩])
 (.cond (.tmp 21) k_syntax_single_p1 .skip))
 (.seq (.region [⟨some 27, none, .load 3 true (.tmp 5)⟩,
  ⟨none, none, .store 3 (.tmp 2) (.tmp 27)⟩,
  ⟨some 3, none, .mov (.const (.int .i64 0))⟩])
 .ret))
def k_syntax_single_p3 : ACode := (.seq (.region [⟨some 10, none, .mov (.tmp 4)⟩,
  ⟨some 11, none, .call (.const (.func (.func n_syntax_parser_take) [] [])) [(.tmp 10), (.const (.str [46]))]⟩])
 (.seq (.seq (.region [⟨some 12, none, .mov (.tmp 4)⟩,
  ⟨some 13, none, .call (.const (.func (.func n_syntax_parser_end) [] [])) [(.tmp 12)]⟩,
  ⟨some 14, none, .un .not (.tmp 13)⟩])
 (.cond (.tmp 14) k_syntax_single_p0 .skip))
 k_syntax_single_p2))
def k_syntax_single_p4 : ACode := (.seq (.region [⟨some 6, none, .mov (.tmp 0)⟩,
  ⟨some 7, none, .call (.const (.func (.func n_syntax_open) [] [])) [(.tmp 6)]⟩,
  ⟨some 4, none, .mov (.tmp 7)⟩])
 (.seq (.region [⟨some 8, none, .mov (.tmp 4)⟩,
  ⟨some 9, none, .call (.const (.func (.func n_syntax_parser_atom) [] [])) [(.tmp 8)]⟩,
  ⟨some 5, none, .alloc [(.int .i64 0), (.str []), .nilslice]⟩,
  ⟨none, none, .store 3 (.tmp 5) (.tmp 9)⟩])
 k_syntax_single_p3))
def k_syntax_single : AFun := ⟨28, [.cell 2 3 true, .tmp 3], (.seq (.region [⟨some 2, none, .alloc [(.int .i64 0), (.str []), .nilslice]⟩,
  ⟨some 3, none, .mov (.const (.int .i64 0))⟩])
 k_syntax_single_p4)⟩
theorem c_syntax_single : (XTab.of Tryz.prog).code 70 = some k_syntax_single := by kernel_rfl
def k_ref8_word_p0 : ACode := (.seq (.seq (.region [⟨some 11, none, .mov (.tmp 4)⟩,
  ⟨some 12, none, .mov (.tmp 0)⟩,
  ⟨some 13, none, .lenStr (.tmp 12)⟩,
  ⟨some 14, none, .bin .lss (.tmp 11) (.tmp 13)⟩,
  ⟨some 15, none, .mov (.tmp 14)⟩,
  ⟨some 16, (some (15, true)), .mov (.tmp 0)⟩,
  ⟨some 17, (some (15, true)), .mov (.tmp 4)⟩,
  ⟨some 18, (some (15, true)), .indexStr (.tmp 16) (.tmp 17)⟩,
  ⟨some 19, (some (15, true)), .call (.const (.func (.func n_ref8_small) [] [])) [(.tmp 18)]⟩,
  ⟨some 20, (some (15, true)), .mov (.tmp 19)⟩,
  ⟨some 21, (some (20, false)), .mov (.tmp 0)⟩,
  ⟨some 22, (some (20, false)), .mov (.tmp 4)⟩,
  ⟨some 23, (some (20, false)), .indexStr (.tmp 21) (.tmp 22)⟩,
  ⟨some 24, (some (20, false)), .call (.const (.func (.func n_ref8_digit) [] [])) [(.tmp 23)]⟩,
  ⟨some 25, (some (15, true)), .pick (.tmp 20) (.const (.bool true)) (.tmp 24)⟩,
  ⟨some 26, (some (15, true)), .mov (.tmp 25)⟩,
  ⟨some 27, (some (26, false)), .mov (.tmp 0)⟩,
  ⟨some 28, (some (26, false)), .mov (.tmp 4)⟩,
  ⟨some 29, (some (26, false)), .indexStr (.tmp 27) (.tmp 28)⟩,
  ⟨some 30, (some (26, false)), .bin .eql (.tmp 29) (.const (.int .u8 95))⟩,
  ⟨some 31, (some (15, true)), .pick (.tmp 26) (.const (.bool true)) (.tmp 30)⟩,
  ⟨some 32, none, .pick (.tmp 15) (.tmp 31) (.const (.bool false))⟩])
 (.cond (.tmp 32) .skip (.exit 1)))
 (.block 2 (.region [⟨some 33, none, .mov (.tmp 4)⟩,
  ⟨some 34, none, .bin .add (.tmp 33) (.const (.int .i64 1))⟩,
  ⟨some 4, none, .mov (.tmp 34)⟩])))
def k_ref8_word_p1 : ACode := (.seq (.seq (.region [⟨some 40, none, .mov (.tmp 4)⟩,
  ⟨some 41, none, .mov (.tmp 0)⟩,
  ⟨some 42, none, .lenStr (.tmp 41)⟩,
  ⟨some 43, none, .bin .lss (.tmp 40) (.tmp 42)⟩,
  ⟨some 44, none, .mov (.tmp 43)⟩,
  ⟨some 45, (some (44, true)), .mov (.tmp 0)⟩,
  ⟨some 46, (some (44, true)), .mov (.tmp 4)⟩,
  ⟨some 47, (some (44, true)), .indexStr (.tmp 45) (.tmp 46)⟩,
  ⟨some 48, (some (44, true)), .call (.const (.func (.func n_ref8_small) [] [])) [(.tmp 47)]⟩,
  ⟨some 49, (some (44, true)), .mov (.tmp 48)⟩,
  ⟨some 50, (some (49, false)), .mov (.tmp 0)⟩,
  ⟨some 51, (some (49, false)), .mov (.tmp 4)⟩,
  ⟨some 52, (some (49, false)), .indexStr (.tmp 50) (.tmp 51)⟩,
  ⟨some 53, (some (49, false)), .call (.const (.func (.func n_ref8_great) [] [])) [(.tmp 52)]⟩,
  ⟨some 54, (some (44, true)), .pick (.tmp 49) (.const (.bool true)) (.tmp 53)⟩,
  ⟨some 55, (some (44, true)), .mov (.tmp 54)⟩,
  ⟨some 56, (some (55, false)), .mov (.tmp 0)⟩,
  ⟨some 57, (some (55, false)), .mov (.tmp 4)⟩,
  ⟨some 58, (some (55, false)), .indexStr (.tmp 56) (.tmp 57)⟩,
  ⟨some 59, (some (55, false)), .call (.const (.func (.func n_ref8_digit) [] [])) [(.tmp 58)]⟩,
  ⟨some 60, (some (44, true)), .pick (.tmp 55) (.const (.bool true)) (.tmp 59)⟩,
  ⟨some 61, (some (44, true)), .mov (.tmp 60)⟩,
  ⟨some 62, (some (61, false)), .mov (.tmp 0)⟩,
  ⟨some 63, (some (61, false)), .mov (.tmp 4)⟩,
  ⟨some 64, (some (61, false)), .indexStr (.tmp 62) (.tmp 63)⟩,
  ⟨some 65, (some (61, false)), .bin .eql (.tmp 64) (.const (.int .u8 95))⟩,
  ⟨some 66, (some (44, true)), .pick (.tmp 61) (.const (.bool true)) (.tmp 65)⟩,
  ⟨some 67, none, .pick (.tmp 44) (.tmp 66) (.const (.bool false))⟩])
 (.cond (.tmp 67) .skip (.exit 3)))
 (.block 4 (.region [⟨some 68, none, .mov (.tmp 4)⟩,
  ⟨some 69, none, .bin .add (.tmp 68) (.const (.int .i64 1))⟩,
  ⟨some 4, none, .mov (.tmp 69)⟩])))
def k_ref8_word_p2 : ACode := (.seq (.seq (.region [⟨some 93, none, .mov (.tmp 0)⟩,
  ⟨some 94, none, .indexStr (.tmp 93) (.const (.int .i64 1))⟩,
  ⟨some 95, none, .bin .eql (.tmp 94) (.const (.int .u8 48))⟩])
 (.cond (.tmp 95) (.seq (.region [⟨some 2, none, .mov (.const (.int .i64 0))⟩,
  ⟨some 3, none, .mov (.const (.int .i64 0))⟩])
 .ret) .skip))
 (.region [⟨some 4, none, .mov (.const (.int .i64 2))⟩]))
def k_ref8_word_p3 : ACode := (.seq (.seq (.region [⟨some 99, none, .mov (.tmp 4)⟩,
  ⟨some 100, none, .mov (.tmp 0)⟩,
  ⟨some 101, none, .lenStr (.tmp 100)⟩,
  ⟨some 102, none, .bin .lss (.tmp 99) (.tmp 101)⟩,
  ⟨some 103, none, .mov (.tmp 102)⟩,
  ⟨some 104, (some (103, true)), .mov (.tmp 0)⟩,
  ⟨some 105, (some (103, true)), .mov (.tmp 4)⟩,
  ⟨some 106, (some (103, true)), .indexStr (.tmp 104) (.tmp 105)⟩,
  ⟨some 107, (some (103, true)), .call (.const (.func (.func n_ref8_digit) [] [])) [(.tmp 106)]⟩,
  ⟨some 108, none, .pick (.tmp 103) (.tmp 107) (.const (.bool false))⟩])
 (.cond (.tmp 108) .skip (.exit 5)))
 (.block 6 (.region [⟨some 109, none, .mov (.tmp 4)⟩,
  ⟨some 110, none, .bin .add (.tmp 109) (.const (.int .i64 1))⟩,
  ⟨some 4, none, .mov (.tmp 110)⟩])))
def k_ref8_word_p4 : ACode := (.seq (.seq (.region [⟨some 90, none, .mov (.tmp 0)⟩,
  ⟨some 91, none, .indexStr (.tmp 90) (.const (.int .i64 0))⟩,
  ⟨some 92, none, .bin .eql (.tmp 91) (.const (.int .u8 45))⟩])
 (.cond (.tmp 92) k_ref8_word_p2 .skip))
 (.seq (.seq (.region [⟨some 96, none, .mov (.tmp 0)⟩,
  ⟨some 97, none, .indexStr (.tmp 96) (.const (.int .i64 0))⟩,
  ⟨some 98, none, .bin .eql (.tmp 97) (.const (.int .u8 48))⟩])
 (.cond (.tmp 98) (.seq (.region [⟨some 2, none, .mov (.const (.int .i64 1))⟩,
  ⟨some 3, none, .mov (.const (.int .i64 3))⟩])
 .ret) .skip))
 (.seq (.block 5 (.loop k_ref8_word_p3))
 (.seq (.region [⟨some 111, none, .mov (.tmp 4)⟩,
  ⟨some 2, none, .mov (.tmp 111)⟩,
  ⟨some 3, none, .mov (.const (.int .i64 3))⟩])
 .ret))))
def k_ref8_word_p5 : ACode := (.seq (.region [⟨some 72, none, .mov (.tmp 0)⟩,
  ⟨some 73, none, .indexStr (.tmp 72) (.const (.int .i64 0))⟩,
  ⟨some 74, none, .call (.const (.func (.func n_ref8_digit) [] [])) [(.tmp 73)]⟩,
  ⟨some 75, none, .mov (.tmp 74)⟩,
  ⟨some 76, (some (75, false)), .mov (.tmp 0)⟩,
  ⟨some 77, (some (75, false)), .indexStr (.tmp 76) (.const (.int .i64 0))⟩,
  ⟨some 78, (some (75, false)), .bin .eql (.tmp 77) (.const (.int .u8 45))⟩,
  ⟨some 79, (some (75, false)), .mov (.tmp 78)⟩,
  ⟨some 80, (some (79, true)), .mov (.tmp 0)⟩,
  ⟨some 81, (some (79, true)), .lenStr (.tmp 80)⟩,
  ⟨some 82, (some (79, true)), .bin .gtr (.tmp 81) (.const (.int .i64 1))⟩,
  ⟨some 83, (some (75, false)), .pick (.tmp 79) (.tmp 82) (.const (.bool false))⟩,
  ⟨some 84, (some (75, false)), .mov (.tmp 83)⟩,
  ⟨some 85, (some (84, true)), .mov (.tmp 0)⟩,
  ⟨some 86, (some (84, true)), .indexStr (.tmp 85) (.const (.int .i64 1))⟩,
  ⟨some 87, (some (84, true)), .call (.const (.func (.func n_ref8_digit) [] [])) [(.tmp 86)]⟩,
  ⟨some 88, (some (75, false)), .pick (.tmp 84) (.tmp 87) (.const (.bool false))⟩,
  ⟨some 89, none, .pick (.tmp 75) (.const (.bool true)) (.tmp 88)⟩,
  ⟨some 71, none, .mov (.tmp 89)⟩])
 (.cond (.tmp 71) k_ref8_word_p4 .skip))
def k_ref8_word_p6 : ACode := (.seq (.region [⟨some 37, none, .mov (.tmp 0)⟩,
  ⟨some 38, none, .indexStr (.tmp 37) (.const (.int .i64 0))⟩,
  ⟨some 39, none, .call (.const (.func (.func n_ref8_great) [] [])) [(.tmp 38)]⟩,
  ⟨some 36, none, .mov (.tmp 39)⟩])
 (.cond (.tmp 36) (.seq (.block 3 (.loop k_ref8_word_p1))
 (.seq (.region [⟨some 70, none, .mov (.tmp 4)⟩,
  ⟨some 2, none, .mov (.tmp 70)⟩,
  ⟨some 3, none, .mov (.const (.int .i64 2))⟩])
 .ret)) k_ref8_word_p5))
def k_ref8_word_p7 : ACode := (.seq (.region [⟨some 8, none, .mov (.tmp 0)⟩,
  ⟨some 9, none, .indexStr (.tmp 8) (.const (.int .i64 0))⟩,
  ⟨some 10, none, .call (.const (.func (.func n_ref8_small) [] [])) [(.tmp 9)]⟩,
  ⟨some 7, none, .mov (.tmp 10)⟩])
 (.cond (.tmp 7) (.seq (.block 1 (.loop k_ref8_word_p0))
 (.seq (.region [⟨some 35, none, .mov (.tmp 4)⟩,
  ⟨some 2, none, .mov (.tmp 35)⟩,
  ⟨some 3, none, .mov (.const (.int .i64 1))⟩])
 .ret)) k_ref8_word_p6))
def k_ref8_word_p8 : ACode := (.seq (.region [⟨some 117, none, .mov (.tmp 0)⟩,
  ⟨some 118, none, .lenStr (.tmp 117)⟩,
  ⟨some 119, none, .bin .geq (.tmp 118) (.const (.int .i64 2))⟩,
  ⟨some 120, none, .mov (.tmp 119)⟩,
  ⟨some 121, (some (120, true)), .mov (.tmp 0)⟩,
  ⟨some 122, (some (120, true)), .sliceStr (.tmp 121) none (some (.const (.int .i64 2)))⟩,
  ⟨some 123, (some (120, true)), .mov (.tmp 5)⟩,
  ⟨some 124, (some (120, true)), .mov (.tmp 6)⟩,
  ⟨some 125, (some (120, true)), .indexAddr 1 (.tmp 123) (.tmp 124)⟩,
  ⟨some 126, (some (120, true)), .load 1 false (.tmp 125)⟩,
  ⟨some 127, (some (120, true)), .bin .eql (.tmp 122) (.tmp 126)⟩,
  ⟨some 128, none, .pick (.tmp 120) (.tmp 127) (.const (.bool false))⟩])
 (.cond (.tmp 128) (.seq (.region [⟨some 2, none, .mov (.const (.int .i64 2))⟩,
  ⟨some 3, none, .mov (.const (.int .i64 4))⟩])
 .ret) .skip))
def k_ref8_word_p9 : ACode := (.seq (.seq (.region [⟨some 113, none, .mov (.tmp 6)⟩,
  ⟨some 114, none, .bin .lss (.tmp 113) (.const (.int .i64 3))⟩])
 (.cond (.tmp 114) .skip (.exit 7)))
 (.seq (.block 8 k_ref8_word_p8)
 (.region [⟨some 115, none, .mov (.tmp 6)⟩,
  ⟨some 116, none, .bin .add (.tmp 115) (.const (.int .i64 1))⟩,
  ⟨some 6, none, .mov (.tmp 116)⟩])))
def k_ref8_word_p10 : ACode := (.seq (.region [⟨some 137, none, .bin .eql (.tmp 130) (.const (.int .u8 61))⟩,
  ⟨some 131, none, .mov (.tmp 137)⟩])
 (.cond (.tmp 131) .skip (.region [⟨some 138, none, .bin .eql (.tmp 130) (.const (.int .u8 60))⟩,
  ⟨some 131, none, .mov (.tmp 138)⟩])))
def k_ref8_word_p11 : ACode := (.seq (.region [⟨some 135, none, .bin .eql (.tmp 130) (.const (.int .u8 46))⟩,
  ⟨some 131, none, .mov (.tmp 135)⟩])
 (.cond (.tmp 131) .skip (.seq (.region [⟨some 136, none, .bin .eql (.tmp 130) (.const (.int .u8 33))⟩,
  ⟨some 131, none, .mov (.tmp 136)⟩])
 (.cond (.tmp 131) .skip k_ref8_word_p10))))
def k_ref8_word_p12 : ACode := (.seq (.region [⟨some 133, none, .bin .eql (.tmp 130) (.const (.int .u8 41))⟩,
  ⟨some 131, none, .mov (.tmp 133)⟩])
 (.cond (.tmp 131) .skip (.seq (.region [⟨some 134, none, .bin .eql (.tmp 130) (.const (.int .u8 44))⟩,
  ⟨some 131, none, .mov (.tmp 134)⟩])
 (.cond (.tmp 131) .skip k_ref8_word_p11))))
def k_ref8_word_p13 : ACode := (.seq (.seq (.region [⟨some 132, none, .bin .eql (.tmp 130) (.const (.int .u8 40))⟩,
  ⟨some 131, none, .mov (.tmp 132)⟩])
 (.cond (.tmp 131) .skip k_ref8_word_p12))
 (.cond (.tmp 131) (.seq (.region [⟨some 2, none, .mov (.const (.int .i64 1))⟩,
  ⟨some 3, none, .mov (.const (.int .i64 4))⟩])
 .ret) .skip))
def k_ref8_word : AFun := ⟨139, [.tmp 2, .tmp 3], (.seq (.region [⟨some 2, none, .mov (.const (.int .i64 0))⟩,
  ⟨some 3, none, .mov (.const (.int .i64 0))⟩])
 (.seq (.region [⟨some 4, none, .mov (.const (.int .i64 1))⟩])
 (.seq (.block 0 k_ref8_word_p7)
 (.seq (.region [⟨some 112, none, .buildSlice 3 [(.str []), (.str []), (.str [])] [(0, 1, (.const (.str [58, 45]))), (1, 1, (.const (.str [33, 61]))), (2, 1, (.const (.str [60, 61])))]⟩,
  ⟨some 5, none, .mov (.tmp 112)⟩])
 (.seq (.seq (.region [⟨some 6, none, .mov (.const (.int .i64 0))⟩])
 (.block 7 (.loop k_ref8_word_p9)))
 (.seq (.seq (.region [⟨some 129, none, .mov (.tmp 0)⟩,
  ⟨some 130, none, .indexStr (.tmp 129) (.const (.int .i64 0))⟩])
 (.block 9 k_ref8_word_p13))
 (.seq (.region [⟨some 2, none, .mov (.const (.int .i64 0))⟩,
  ⟨some 3, none, .mov (.const (.int .i64 0))⟩])
 .ret)))))))⟩
theorem c_ref8_word : (XTab.of Tryz.prog).code 71 = some k_ref8_word := by kernel_rfl
def k_ref8_P_term_p0 : ACode := (.seq (.region [⟨some 37, none, .mov (.tmp 0)⟩,
  ⟨some 38, none, .call (.const (.func (.func n_ref8_P_bad) [] [])) [(.tmp 37), (.const (.int .i64 4))]⟩])
 (.seq (.region [⟨some 39, none, .build [(.int .i64 0), (.str []), (.int .i64 0)] []⟩,
  ⟨none, none, .store 3 (.tmp 2) (.tmp 39)⟩])
 .ret))
def k_ref8_P_term_p1 : ACode := (.seq (.region [⟨some 66, none, .fieldAddr 1 (.tmp 3)⟩,
  ⟨some 67, none, .load 1 false (.tmp 66)⟩,
  ⟨some 68, none, .build [(.int .i64 0), (.str []), (.int .i64 0)] [(0, 1, (.const (.int .i64 1))), (1, 1, (.tmp 67))]⟩,
  ⟨none, none, .store 3 (.tmp 2) (.tmp 68)⟩])
 .ret)
def k_ref8_P_term_p2 : ACode := (.seq (.region [⟨some 61, none, .fieldAddr 1 (.tmp 3)⟩,
  ⟨some 62, none, .load 1 false (.tmp 61)⟩,
  ⟨some 63, none, .build [(.int .i64 0), (.str []), (.int .i64 0)] [(0, 1, (.const (.int .i64 2))), (1, 1, (.tmp 62))]⟩,
  ⟨none, none, .store 3 (.tmp 2) (.tmp 63)⟩])
 .ret)
def k_ref8_P_term_p3 : ACode := (.seq (.region [⟨some 60, none, .bin .eql (.tmp 58) (.const (.int .i64 1))⟩,
  ⟨some 59, none, .mov (.tmp 60)⟩])
 (.cond (.tmp 59) k_ref8_P_term_p2 (.seq (.region [⟨some 65, none, .bin .eql (.tmp 58) (.const (.int .i64 2))⟩,
  ⟨some 64, none, .mov (.tmp 65)⟩])
 (.cond (.tmp 64) k_ref8_P_term_p1 .skip))))
def k_ref8_P_term_p4 : ACode := (.region [⟨some 81, none, .mov (.tmp 4)⟩,
  ⟨some 82, none, .bin .mul (.tmp 81) (.const (.int .i64 10))⟩,
  ⟨some 83, none, .fieldAddr 1 (.tmp 3)⟩,
  ⟨some 84, none, .load 1 false (.tmp 83)⟩,
  ⟨some 85, none, .mov (.tmp 5)⟩,
  ⟨some 86, none, .indexStr (.tmp 84) (.tmp 85)⟩,
  ⟨some 87, none, .bin .sub (.tmp 86) (.const (.int .u8 48))⟩,
  ⟨some 88, none, .conv .i64 (.tmp 87)⟩,
  ⟨some 89, none, .bin .add (.tmp 82) (.tmp 88)⟩,
  ⟨some 4, none, .mov (.tmp 89)⟩])
def k_ref8_P_term_p5 : ACode := (.seq (.region [⟨some 76, none, .fieldAddr 1 (.tmp 3)⟩,
  ⟨some 77, none, .load 1 false (.tmp 76)⟩,
  ⟨some 78, none, .mov (.tmp 5)⟩,
  ⟨some 79, none, .indexStr (.tmp 77) (.tmp 78)⟩,
  ⟨some 80, none, .bin .neq (.tmp 79) (.const (.int .u8 45))⟩])
 (.cond (.tmp 80) k_ref8_P_term_p4 .skip))
def k_ref8_P_term_p6 : ACode := (.seq (.seq (.region [⟨some 69, none, .mov (.tmp 5)⟩,
  ⟨some 70, none, .fieldAddr 1 (.tmp 3)⟩,
  ⟨some 71, none, .load 1 false (.tmp 70)⟩,
  ⟨some 72, none, .lenStr (.tmp 71)⟩,
  ⟨some 73, none, .bin .lss (.tmp 69) (.tmp 72)⟩])
 (.cond (.tmp 73) .skip (.exit 1)))
 (.seq (.block 2 k_ref8_P_term_p5)
 (.region [⟨some 74, none, .mov (.tmp 5)⟩,
  ⟨some 75, none, .bin .add (.tmp 74) (.const (.int .i64 1))⟩,
  ⟨some 5, none, .mov (.tmp 75)⟩])))
def k_ref8_P_term_p7 : ACode := (.seq (.region [⟨some 92, none, .mov (.tmp 0)⟩,
  ⟨some 93, none, .call (.const (.func (.func n_ref8_P_bad) [] [])) [(.tmp 92), (.const (.int .i64 4))]⟩])
 (.seq (.region [⟨some 94, none, .build [(.int .i64 0), (.str []), (.int .i64 0)] []⟩,
  ⟨none, none, .store 3 (.tmp 2) (.tmp 94)⟩])
 .ret))
def k_ref8_P_term : AFun := ⟨103, [.cell 2 3 true], (.seq (.region [⟨some 2, none, .alloc [(.int .i64 0), (.str []), (.int .i64 0)]⟩])
 (.seq (.seq (.region [⟨some 6, none, .mov (.tmp 0)⟩,
  ⟨some 7, none, .nilCheck (.tmp 6)⟩,
  ⟨some 8, none, .fieldAddr 2 (.tmp 7)⟩,
  ⟨some 9, none, .load 1 false (.tmp 8)⟩,
  ⟨some 10, none, .bin .neq (.tmp 9) (.const (.int .i64 0))⟩,
  ⟨some 11, none, .mov (.tmp 10)⟩,
  ⟨some 12, (some (11, false)), .mov (.tmp 0)⟩,
  ⟨some 13, (some (11, false)), .nilCheck (.tmp 12)⟩,
  ⟨some 14, (some (11, false)), .fieldAddr 1 (.tmp 13)⟩,
  ⟨some 15, (some (11, false)), .load 1 false (.tmp 14)⟩,
  ⟨some 16, (some (11, false)), .mov (.tmp 0)⟩,
  ⟨some 17, (some (11, false)), .nilCheck (.tmp 16)⟩,
  ⟨some 18, (some (11, false)), .fieldAddr 0 (.tmp 17)⟩,
  ⟨some 19, (some (11, false)), .load 1 false (.tmp 18)⟩,
  ⟨some 20, (some (11, false)), .lenSl (.tmp 19)⟩,
  ⟨some 21, (some (11, false)), .bin .geq (.tmp 15) (.tmp 20)⟩,
  ⟨some 22, none, .pick (.tmp 11) (.const (.bool true)) (.tmp 21)⟩,
  ⟨some 23, none, .mov (.tmp 22)⟩,
  ⟨some 24, (some (23, false)), .mov (.tmp 0)⟩,
  ⟨some 25, (some (23, false)), .nilCheck (.tmp 24)⟩,
  ⟨some 26, (some (23, false)), .fieldAddr 0 (.tmp 25)⟩,
  ⟨some 27, (some (23, false)), .load 1 false (.tmp 26)⟩,
  ⟨some 28, (some (23, false)), .mov (.tmp 0)⟩,
  ⟨some 29, (some (23, false)), .nilCheck (.tmp 28)⟩,
  ⟨some 30, (some (23, false)), .fieldAddr 1 (.tmp 29)⟩,
  ⟨some 31, (some (23, false)), .load 1 false (.tmp 30)⟩,
  ⟨some 32, (some (23, false)), .indexAddr 3 (.tmp 27) (.tmp 31)⟩,
  ⟨some 33, (some (23, false)), .fieldAddr 0 (.tmp 32)⟩,
  ⟨some 34, (some (23, false)), .load 1 false (.tmp 33)⟩,
  ⟨some 35, (some (23, false)), .bin .eql (.tmp 34) (.const (.int .i64 4))⟩,
  ⟨some 36, none, .pick (.tmp 23) (.const (.bool true)) (.tmp 35)⟩])
 (.cond (.tmp 36) k_ref8_P_term_p0 .skip))
 (.seq (.drawn [⟨⟨some 40, none, .mov (.tmp 0)⟩, false, [], []⟩,
  ⟨⟨some 41, none, .nilCheck (.tmp 40)⟩, false, [0], []⟩,
  ⟨⟨some 42, none, .fieldAddr 0 (.tmp 41)⟩, false, [1, 0], []⟩,
  ⟨⟨some 43, none, .load 1 false (.tmp 42)⟩, false, [2, 1, 0], []⟩,
  ⟨⟨some 44, none, .mov (.tmp 0)⟩, false, [], []⟩,
  ⟨⟨some 45, none, .nilCheck (.tmp 44)⟩, false, [4], []⟩,
  ⟨⟨some 46, none, .fieldAddr 1 (.tmp 45)⟩, false, [5, 4], []⟩,
  ⟨⟨some 47, none, .load 1 false (.tmp 46)⟩, false, [6, 5, 4], []⟩,
  ⟨⟨some 48, none, .indexAddr 3 (.tmp 43) (.tmp 47)⟩, false, [7, 6, 5, 4, 3, 2, 1, 0], []⟩,
  ⟨⟨some 49, none, .load 3 true (.tmp 48)⟩, false, [8, 7, 6, 5, 4, 3, 2, 1, 0], []⟩,
  ⟨⟨some 3, none, .alloc [(.int .i64 0), (.str []), (.int .i64 0)]⟩, true, [], []⟩,
  ⟨⟨none, none, .store 3 (.tmp 3) (.tmp 49)⟩, true, [10, 9, 8, 7, 6, 5, 4, 3, 2, 1, 0], []⟩])
 (.seq (.region [⟨some 50, none, .mov (.tmp 0)⟩,
  ⟨some 51, none, .nilCheck (.tmp 50)⟩,
  ⟨some 52, none, .fieldAddr 1 (.tmp 51)⟩,
  ⟨some 53, none, .load 1 false (.tmp 52)⟩,
  ⟨some 54, none, .bin .add (.tmp 53) (.const (.int .i64 1))⟩,
  ⟨some 55, none, .nilCheck (.tmp 50)⟩,
  ⟨some 56, none, .fieldAddr 1 (.tmp 55)⟩,
  ⟨none, none, .store 1 (.tmp 56) (.tmp 54)⟩])
 (.seq (.seq (.region [⟨some 57, none, .fieldAddr 0 (.tmp 3)⟩,
  ⟨some 58, none, .load 1 false (.tmp 57)⟩])
 (.block 0 k_ref8_P_term_p3))
 (.seq (.region [⟨some 4, none, .mov (.const (.int .i64 0))⟩])
 (.seq (.seq (.region [⟨some 5, none, .mov (.const (.int .i64 0))⟩])
 (.block 1 (.loop k_ref8_P_term_p6)))
 (.seq (.seq (.region [⟨some 90, none, .mov (.tmp 4)⟩,
  ⟨some 91, none, .bin .gtr (.tmp 90) (.const (.int .i64 2147483648))⟩])
 (.cond (.tmp 91) k_ref8_P_term_p7 .skip))
 (.seq (.seq (.region [⟨some 95, none, .fieldAddr 1 (.tmp 3)⟩,
  ⟨some 96, none, .load 1 false (.tmp 95)⟩,
  ⟨some 97, none, .indexStr (.tmp 96) (.const (.int .i64 0))⟩,
  ⟨some 98, none, .bin .eql (.tmp 97) (.const (.int .u8 45))⟩])
 (.cond (.tmp 98) (.region [⟨some 99, none, .mov (.tmp 4)⟩,
  ⟨some 100, none, .un .neg (.tmp 99)⟩,
  ⟨some 4, none, .mov (.tmp 100)⟩]) .skip))
 (.seq (.region [⟨some 101, none, .mov (.tmp 4)⟩,
  ⟨some 102, none, .build [(.int .i64 0), (.str []), (.int .i64 0)] [(0, 1, (.const (.int .i64 3))), (2, 1, (.tmp 101))]⟩,
  ⟨none, none, .store 3 (.tmp 2) (.tmp 102)⟩])
 .ret))))))))))⟩
theorem c_ref8_P_term : (XTab.of Tryz.prog).code 72 = some k_ref8_P_term := by kernel_rfl
def k_ref8_compare_p0 : ACode := (.seq (.region [⟨some 9, none, .bin .eql (.tmp 3) (.const (.str [60]))⟩,
  ⟨some 8, none, .mov (.tmp 9)⟩])
 (.cond (.tmp 8) (.seq (.region [⟨some 2, none, .mov (.const (.int .i64 5))⟩])
 .ret) (.seq (.region [⟨some 11, none, .bin .eql (.tmp 3) (.const (.str [60, 61]))⟩,
  ⟨some 10, none, .mov (.tmp 11)⟩])
 (.cond (.tmp 10) (.seq (.region [⟨some 2, none, .mov (.const (.int .i64 6))⟩])
 .ret) .skip))))
def k_ref8_compare_p1 : ACode := (.seq (.region [⟨some 5, none, .bin .eql (.tmp 3) (.const (.str [61]))⟩,
  ⟨some 4, none, .mov (.tmp 5)⟩])
 (.cond (.tmp 4) (.seq (.region [⟨some 2, none, .mov (.const (.int .i64 3))⟩])
 .ret) (.seq (.region [⟨some 7, none, .bin .eql (.tmp 3) (.const (.str [33, 61]))⟩,
  ⟨some 6, none, .mov (.tmp 7)⟩])
 (.cond (.tmp 6) (.seq (.region [⟨some 2, none, .mov (.const (.int .i64 4))⟩])
 .ret) k_ref8_compare_p0))))
def k_ref8_compare : AFun := ⟨12, [.tmp 2], (.seq (.region [⟨some 2, none, .mov (.const (.int .i64 0))⟩])
 (.seq (.seq (.region [⟨some 3, none, .mov (.tmp 0)⟩])
 (.block 0 k_ref8_compare_p1))
 (.seq (.region [⟨some 2, none, .mov (.const (.int .i64 0))⟩])
 .ret)))⟩
theorem c_ref8_compare : (XTab.of Tryz.prog).code 73 = some k_ref8_compare := by kernel_rfl
def k_syntax_between_p0 : ACode := (.seq (.region [⟨some 2, none, .mov (.const (.str [32, 60, 61, 32]))⟩])
 .ret)
def k_syntax_between_p1 : ACode := (.seq (.region [⟨some 2, none, .mov (.const (.str [32, 60, 32]))⟩])
 .ret)
def k_syntax_between_p2 : ACode := (.seq (.region [⟨some 11, none, .bin .eql (.tmp 3) (.const (.int .i64 6))⟩,
  ⟨some 10, none, .mov (.tmp 11)⟩])
 (.cond (.tmp 10) k_syntax_between_p0 .skip))
def k_syntax_between_p3 : ACode := (.seq (.region [⟨some 2, none, .mov (.const (.str [32, 33, 61, 32]))⟩])
 .ret)
def k_syntax_between_p4 : ACode := (.seq (.region [⟨some 9, none, .bin .eql (.tmp 3) (.const (.int .i64 5))⟩,
  ⟨some 8, none, .mov (.tmp 9)⟩])
 (.cond (.tmp 8) k_syntax_between_p1 k_syntax_between_p2))
def k_syntax_between_p5 : ACode := (.seq (.region [⟨some 2, none, .mov (.const (.str [32, 61, 32]))⟩])
 .ret)
def k_syntax_between_p6 : ACode := (.seq (.region [⟨some 7, none, .bin .eql (.tmp 3) (.const (.int .i64 4))⟩,
  ⟨some 6, none, .mov (.tmp 7)⟩])
 (.cond (.tmp 6) k_syntax_between_p3 k_syntax_between_p4))
def k_syntax_between_p7 : ACode := (.seq (.seq (.region [⟨some 3, none, .mov (.tmp 0)⟩])
 (.block 0 (.seq (.region [⟨some 5, none, .bin .eql (.tmp 3) (.const (.int .i64 3))⟩,
  ⟨some 4, none, .mov (.tmp 5)⟩])
 (.cond (.tmp 4) k_syntax_between_p5 k_syntax_between_p6))))
 (.seq (.region [⟨some 2, none, .mov (.const (.str []))⟩])
 .ret))
def k_syntax_between : AFun := ⟨12, [.tmp 2], (.seq (.region [⟨some 2, none, .mov (.const (.str []))⟩])
 k_syntax_between_p7)⟩
theorem c_syntax_between : (XTab.of Tryz.prog).code 74 = some k_syntax_between := by kernel_rfl
end Go.Proofs.YtegdcbdicpfbpaaGreatDoor
