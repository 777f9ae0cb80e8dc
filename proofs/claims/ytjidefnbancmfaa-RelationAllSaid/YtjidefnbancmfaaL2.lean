/- A part of the proof. -/
import Derived.Test.YtjidefnbancmfaaRows
import Derived.Test.YtjidefnbancmfaaAgC
set_option maxRecDepth 100000
namespace Go.Proofs.Ytjidefnbancmfaa
open Go.AE
/-! delphi/delphilaw11.RelationNone -/

def k11 : AFun := ⟨40, [.tmp 0], (.seq (.region [⟨some 0, none, .mov (.const (.bool false))⟩])
 (.seq (.region [⟨some 1, none, .mov (.const .nilptr)⟩])
 (.seq (.region [⟨some 2, none, .call (.const (.func (.func 30) [] [])) []⟩,
  ⟨some 3, none, .mov (.tmp 2)⟩,
  ⟨some 4, (some (3, true)), .mov (.tmp 1)⟩,
  ⟨some 5, (some (3, true)), .call (.const (.func (.func 33) [] [])) [(.tmp 4), (.const .nilslice)]⟩,
  ⟨some 6, (some (3, true)), .un .not (.tmp 5)⟩,
  ⟨some 7, none, .pick (.tmp 3) (.tmp 6) (.const (.bool false))⟩,
  ⟨some 8, none, .mov (.tmp 7)⟩,
  ⟨some 9, (some (8, true)), .mov (.tmp 1)⟩,
  ⟨some 10, (some (8, true)), .call (.const (.func (.func 34) [] [])) [(.tmp 9), (.const .nilslice)]⟩,
  ⟨some 11, (some (8, true)), .un .not (.tmp 10)⟩,
  ⟨some 12, none, .pick (.tmp 8) (.tmp 11) (.const (.bool false))⟩,
  ⟨some 13, none, .mov (.tmp 12)⟩,
  ⟨some 14, (some (13, true)), .mov (.tmp 1)⟩,
  ⟨some 15, (some (13, true)), .call (.const (.func (.func 35) [] [])) [(.tmp 14), (.const .nilslice)]⟩,
  ⟨some 16, (some (13, true)), .un .not (.tmp 15)⟩,
  ⟨some 17, none, .pick (.tmp 13) (.tmp 16) (.const (.bool false))⟩,
  ⟨some 18, none, .mov (.tmp 17)⟩,
  ⟨some 19, (some (18, true)), .mov (.tmp 1)⟩,
  ⟨some 20, (some (18, true)), .call (.const (.func (.func 40) [] [])) [(.tmp 19)]⟩,
  ⟨some 21, (some (18, true)), .bin .eql (.tmp 20) (.const (.int .i64 0))⟩,
  ⟨some 22, none, .pick (.tmp 18) (.tmp 21) (.const (.bool false))⟩,
  ⟨some 23, none, .mov (.tmp 22)⟩,
  ⟨some 24, (some (23, true)), .mov (.tmp 1)⟩,
  ⟨some 25, (some (23, true)), .call (.const (.func (.func 39) [] [])) [(.tmp 24)]⟩,
  ⟨some 26, (some (23, true)), .lenSl (.tmp 25)⟩,
  ⟨some 27, (some (23, true)), .bin .eql (.tmp 26) (.const (.int .i64 0))⟩,
  ⟨some 28, none, .pick (.tmp 23) (.tmp 27) (.const (.bool false))⟩,
  ⟨some 29, none, .mov (.tmp 28)⟩,
  ⟨some 30, (some (29, true)), .mov (.tmp 1)⟩,
  ⟨some 31, (some (29, true)), .call (.const (.func (.func 37) [] [])) [(.tmp 30), (.const .nilslice)]⟩,
  ⟨some 32, (some (29, true)), .lenSl (.tmp 31)⟩,
  ⟨some 33, (some (29, true)), .bin .eql (.tmp 32) (.const (.int .i64 0))⟩,
  ⟨some 34, none, .pick (.tmp 29) (.tmp 33) (.const (.bool false))⟩,
  ⟨some 35, none, .mov (.tmp 34)⟩,
  ⟨some 36, (some (35, true)), .mov (.tmp 1)⟩,
  ⟨some 37, (some (35, true)), .call (.const (.func (.func 38) [] [])) [(.tmp 36)]⟩,
  ⟨some 38, (some (35, true)), .eqv false .ptr (.tmp 37) (.const .nilptr)⟩,
  ⟨some 39, none, .pick (.tmp 35) (.tmp 38) (.const (.bool false))⟩,
  ⟨some 0, none, .mov (.tmp 39)⟩])
 .ret)))⟩
theorem c11 : (XTab.of Try.prog).code 11 = some k11 := by kernel_rfl

/-! delphi/delphilaw11.RelationMany -/
def k12_0 : ACode := (.seq (.region [⟨some 63, none, .mov (.tmp 7)⟩,
  ⟨some 64, none, .indexArr 300 1 (.tmp 9) (.tmp 63)⟩,
  ⟨none, none, .store 1 (.tmp 64) (.const (.bool true))⟩])
 (.region [⟨some 65, none, .mov (.tmp 8)⟩,
  ⟨some 66, none, .bin .add (.tmp 65) (.const (.int .i64 1))⟩,
  ⟨some 8, none, .mov (.tmp 66)⟩]))
def k12_1 : ACode := (.seq (.region [⟨some 41, none, .mov (.tmp 7)⟩,
  ⟨some 42, none, .mov (.tmp 1)⟩,
  ⟨some 43, none, .bin .add (.tmp 41) (.tmp 42)⟩,
  ⟨some 44, none, .mov (.tmp 0)⟩,
  ⟨some 45, none, .bin .rem (.tmp 43) (.tmp 44)⟩,
  ⟨some 7, none, .mov (.tmp 45)⟩])
 (.seq (.seq (.drawn [⟨⟨some 46, none, .mov (.tmp 6)⟩, false, [], [47, 48, 49, 50, 51, 52, 53, 55, 56, 57]⟩,
  ⟨⟨some 47, none, .mov (.tmp 7)⟩, false, [], [46, 50, 51, 52, 55, 56, 57]⟩,
  ⟨⟨some 48, none, .bin .quo (.tmp 47) (.const (.int .i64 10))⟩, false, [1], [46, 50, 51, 52, 55, 56, 57]⟩,
  ⟨⟨some 49, none, .bin .add (.tmp 48) (.const (.int .i64 1))⟩, false, [1, 2], [46, 50, 51, 52, 55, 56, 57]⟩,
  ⟨⟨some 50, none, .mov (.tmp 7)⟩, false, [], [46, 47, 48, 49, 55, 56, 57]⟩,
  ⟨⟨some 51, none, .bin .rem (.tmp 50) (.const (.int .i64 10))⟩, false, [4], [46, 47, 48, 49, 55, 56, 57]⟩,
  ⟨⟨some 52, none, .bin .add (.tmp 51) (.const (.int .i64 1))⟩, false, [4, 5], [46, 47, 48, 49, 55, 56, 57]⟩,
  ⟨⟨some 53, none, .buildSlice 2 [(.int .i64 0), (.int .i64 0)] [(0, 1, (.tmp 49)), (1, 1, (.tmp 52))]⟩, true, [2, 1, 3, 5, 4, 6], [46, 55, 56, 57]⟩,
  ⟨⟨some 54, none, .call (.const (.func (.func 33) [] [])) [(.tmp 46), (.tmp 53)]⟩, true, [0, 6, 4, 5, 3, 1, 2, 7], [55, 56, 57]⟩,
  ⟨⟨some 55, none, .mov (.tmp 7)⟩, false, [], [46, 47, 48, 49, 50, 51, 52, 53, 54]⟩,
  ⟨⟨some 56, none, .indexArr 300 1 (.tmp 9) (.tmp 55)⟩, false, [9], [46, 47, 48, 49, 50, 51, 52, 53, 54]⟩,
  ⟨⟨some 57, none, .load 1 false (.tmp 56)⟩, false, [9, 10], [46, 47, 48, 49, 50, 51, 52, 53, 54]⟩,
  ⟨⟨some 58, none, .eqv false .bool (.tmp 54) (.tmp 57)⟩, false, [7, 2, 1, 3, 5, 4, 6, 0, 8, 10, 9, 11], []⟩])
 (.cond (.tmp 58) (.seq (.region [⟨some 4, none, .mov (.const (.bool false))⟩])
 .ret) .skip))
 (.seq (.region [⟨some 59, none, .mov (.tmp 7)⟩,
  ⟨some 60, none, .indexArr 300 1 (.tmp 9) (.tmp 59)⟩,
  ⟨some 61, none, .load 1 false (.tmp 60)⟩,
  ⟨some 62, none, .un .not (.tmp 61)⟩])
 (.cond (.tmp 62) k12_0 .skip))))
def k12_2 : ACode := (.seq (.seq (.region [⟨some 36, none, .mov (.tmp 10)⟩,
  ⟨some 37, none, .mov (.tmp 0)⟩,
  ⟨some 38, none, .bin .lss (.tmp 36) (.tmp 37)⟩])
 (.cond (.tmp 38) .skip (.exit 0)))
 (.seq (.block 1 k12_1)
 (.region [⟨some 39, none, .mov (.tmp 10)⟩,
  ⟨some 40, none, .bin .add (.tmp 39) (.const (.int .i64 1))⟩,
  ⟨some 10, none, .mov (.tmp 40)⟩])))
def k12_3 : ACode := (.seq (.drawn [⟨⟨some 85, none, .mov (.tmp 11)⟩, false, [], [86, 87, 90, 91, 92, 93]⟩,
  ⟨⟨some 86, none, .mov (.tmp 12)⟩, false, [], [85, 90, 91, 92, 93]⟩,
  ⟨⟨some 87, none, .bin .sub (.tmp 86) (.const (.int .i64 1))⟩, false, [1], [85, 90, 91, 92, 93]⟩,
  ⟨⟨some 88, none, .indexAddr 1 (.tmp 85) (.tmp 87)⟩, false, [0, 1, 2], [90, 91, 92, 93]⟩,
  ⟨⟨some 89, none, .load 1 false (.tmp 88)⟩, false, [2, 1, 0, 3], [90, 91, 92, 93]⟩,
  ⟨⟨some 90, none, .mov (.tmp 11)⟩, false, [], [85, 86, 87, 88, 89, 91]⟩,
  ⟨⟨some 91, none, .mov (.tmp 12)⟩, false, [], [85, 86, 87, 88, 89, 90]⟩,
  ⟨⟨some 92, none, .indexAddr 1 (.tmp 90) (.tmp 91)⟩, false, [5, 6], [85, 86, 87, 88, 89]⟩,
  ⟨⟨some 93, none, .load 1 false (.tmp 92)⟩, false, [6, 5, 7], [85, 86, 87, 88, 89]⟩,
  ⟨⟨some 94, none, .call (.const (.func (.func 41) [] [])) [(.tmp 89), (.tmp 93)]⟩, true, [3, 0, 1, 2, 4, 7, 5, 6, 8], []⟩,
  ⟨⟨some 95, none, .un .not (.tmp 94)⟩, false, [8, 6, 5, 7, 4, 2, 1, 0, 3, 9], []⟩])
 (.cond (.tmp 95) (.seq (.region [⟨some 4, none, .mov (.const (.bool false))⟩])
 .ret) .skip))
def k12_4 : ACode := (.seq (.seq (.region [⟨some 79, none, .mov (.tmp 12)⟩,
  ⟨some 80, none, .mov (.tmp 11)⟩,
  ⟨some 81, none, .lenSl (.tmp 80)⟩,
  ⟨some 82, none, .bin .lss (.tmp 79) (.tmp 81)⟩])
 (.cond (.tmp 82) .skip (.exit 2)))
 (.seq (.block 3 k12_3)
 (.region [⟨some 83, none, .mov (.tmp 12)⟩,
  ⟨some 84, none, .bin .add (.tmp 83) (.const (.int .i64 1))⟩,
  ⟨some 12, none, .mov (.tmp 84)⟩])))
def k12_5 : ACode := (.seq (.region [⟨some 116, none, .mov (.tmp 16)⟩,
  ⟨some 117, none, .mov (.tmp 17)⟩,
  ⟨some 118, none, .indexAddr 1 (.tmp 116) (.tmp 117)⟩,
  ⟨some 119, none, .load 1 false (.tmp 118)⟩,
  ⟨some 120, none, .indexAddr 1 (.tmp 119) (.const (.int .i64 1))⟩,
  ⟨some 121, none, .load 1 false (.tmp 120)⟩,
  ⟨some 122, none, .mov (.tmp 15)⟩,
  ⟨some 123, none, .bin .neq (.tmp 121) (.tmp 122)⟩,
  ⟨some 124, none, .mov (.tmp 123)⟩,
  ⟨some 125, (some (124, false)), .mov (.tmp 13)⟩,
  ⟨some 126, (some (124, false)), .mov (.tmp 16)⟩,
  ⟨some 127, (some (124, false)), .mov (.tmp 17)⟩,
  ⟨some 128, (some (124, false)), .indexAddr 1 (.tmp 126) (.tmp 127)⟩,
  ⟨some 129, (some (124, false)), .load 1 false (.tmp 128)⟩,
  ⟨some 130, (some (124, false)), .call (.const (.func (.func 34) [] [])) [(.tmp 125), (.tmp 129)]⟩,
  ⟨some 131, (some (124, false)), .un .not (.tmp 130)⟩,
  ⟨some 132, none, .pick (.tmp 124) (.const (.bool true)) (.tmp 131)⟩])
 (.cond (.tmp 132) (.seq (.region [⟨some 4, none, .mov (.const (.bool false))⟩])
 .ret) .skip))
def k12_6 : ACode := (.seq (.seq (.region [⟨some 110, none, .mov (.tmp 17)⟩,
  ⟨some 111, none, .mov (.tmp 16)⟩,
  ⟨some 112, none, .lenSl (.tmp 111)⟩,
  ⟨some 113, none, .bin .lss (.tmp 110) (.tmp 112)⟩])
 (.cond (.tmp 113) .skip (.exit 6)))
 (.seq (.block 7 k12_5)
 (.region [⟨some 114, none, .mov (.tmp 17)⟩,
  ⟨some 115, none, .bin .add (.tmp 114) (.const (.int .i64 1))⟩,
  ⟨some 17, none, .mov (.tmp 115)⟩])))
def k12_7 : ACode := (.seq (.region [⟨some 102, none, .mov (.tmp 6)⟩,
  ⟨some 103, none, .mov (.tmp 15)⟩,
  ⟨some 104, none, .buildSlice 2 [(.int .i64 0), (.int .i64 0)] [(0, 1, (.const (.int .i64 0))), (1, 1, (.tmp 103))]⟩,
  ⟨some 105, none, .call (.const (.func (.func 37) [] [])) [(.tmp 102), (.tmp 104)]⟩,
  ⟨some 16, none, .mov (.tmp 105)⟩])
 (.seq (.region [⟨some 106, none, .mov (.tmp 14)⟩,
  ⟨some 107, none, .mov (.tmp 16)⟩,
  ⟨some 108, none, .lenSl (.tmp 107)⟩,
  ⟨some 109, none, .bin .add (.tmp 106) (.tmp 108)⟩,
  ⟨some 14, none, .mov (.tmp 109)⟩])
 (.seq (.region [⟨some 17, none, .mov (.const (.int .i64 0))⟩])
 (.block 6 (.loop k12_6)))))
def k12_8 : ACode := (.seq (.seq (.region [⟨some 98, none, .mov (.tmp 15)⟩,
  ⟨some 99, none, .bin .leq (.tmp 98) (.const (.int .i64 10))⟩])
 (.cond (.tmp 99) .skip (.exit 4)))
 (.seq (.block 5 k12_7)
 (.region [⟨some 100, none, .mov (.tmp 15)⟩,
  ⟨some 101, none, .bin .add (.tmp 100) (.const (.int .i64 1))⟩,
  ⟨some 15, none, .mov (.tmp 101)⟩])))
def k12 : AFun := ⟨147, [.tmp 4], (.seq (.region [⟨some 4, none, .mov (.const (.bool false))⟩])
 (.seq (.region [⟨some 18, none, .call (.const (.func (.func 30) [] [])) []⟩,
  ⟨some 5, none, .mov (.tmp 18)⟩])
 (.seq (.seq (.region [⟨some 19, none, .mov (.tmp 5)⟩,
  ⟨some 20, none, .un .not (.tmp 19)⟩])
 (.cond (.tmp 20) (.seq (.region [⟨some 4, none, .mov (.const (.bool false))⟩])
 .ret) .skip))
 (.seq (.seq (.region [⟨some 21, none, .mov (.tmp 0)⟩,
  ⟨some 22, none, .bin .lss (.tmp 21) (.const (.int .i64 1))⟩,
  ⟨some 23, none, .mov (.tmp 22)⟩,
  ⟨some 24, (some (23, false)), .mov (.tmp 0)⟩,
  ⟨some 25, (some (23, false)), .bin .gtr (.tmp 24) (.const (.int .i64 300))⟩,
  ⟨some 26, none, .pick (.tmp 23) (.const (.bool true)) (.tmp 25)⟩,
  ⟨some 27, none, .mov (.tmp 26)⟩,
  ⟨some 28, (some (27, false)), .mov (.tmp 1)⟩,
  ⟨some 29, (some (27, false)), .bin .lss (.tmp 28) (.const (.int .i64 1))⟩,
  ⟨some 30, none, .pick (.tmp 27) (.const (.bool true)) (.tmp 29)⟩,
  ⟨some 31, none, .mov (.tmp 30)⟩,
  ⟨some 32, (some (31, false)), .mov (.tmp 1)⟩,
  ⟨some 33, (some (31, false)), .bin .gtr (.tmp 32) (.const (.int .i64 300))⟩,
  ⟨some 34, none, .pick (.tmp 31) (.const (.bool true)) (.tmp 33)⟩])
 (.cond (.tmp 34) (.seq (.region [⟨some 4, none, .mov (.const (.bool true))⟩])
 .ret) .skip))
 (.seq (.region [⟨some 35, none, .call (.const (.func (.func 31) [] [])) [(.const (.int .i64 2))]⟩,
  ⟨some 6, none, .mov (.tmp 35)⟩])
 (.seq (.region [⟨some 7, none, .mov (.const (.int .i64 0))⟩,
  ⟨some 8, none, .mov (.const (.int .i64 0))⟩])
 (.seq (.region [⟨some 9, none, .alloc [(.bool false), (.bool false), (.bool false), (.bool false), (.bool false), (.bool false), (.bool false), (.bool false), (.bool false), (.bool false), (.bool false), (.bool false), (.bool false), (.bool false), (.bool false), (.bool false), (.bool false), (.bool false), (.bool false), (.bool false), (.bool false), (.bool false), (.bool false), (.bool false), (.bool false), (.bool false), (.bool false), (.bool false), (.bool false), (.bool false), (.bool false), (.bool false), (.bool false), (.bool false), (.bool false), (.bool false), (.bool false), (.bool false), (.bool false), (.bool false), (.bool false), (.bool false), (.bool false), (.bool false), (.bool false), (.bool false), (.bool false), (.bool false), (.bool false), (.bool false), (.bool false), (.bool false), (.bool false), (.bool false), (.bool false), (.bool false), (.bool false), (.bool false), (.bool false), (.bool false), (.bool false), (.bool false), (.bool false), (.bool false), (.bool false), (.bool false), (.bool false), (.bool false), (.bool false), (.bool false), (.bool false), (.bool false), (.bool false), (.bool false), (.bool false), (.bool false), (.bool false), (.bool false), (.bool false), (.bool false), (.bool false), (.bool false), (.bool false), (.bool false), (.bool false), (.bool false), (.bool false), (.bool false), (.bool false), (.bool false), (.bool false), (.bool false), (.bool false), (.bool false), (.bool false), (.bool false), (.bool false), (.bool false), (.bool false), (.bool false), (.bool false), (.bool false), (.bool false), (.bool false), (.bool false), (.bool false), (.bool false), (.bool false), (.bool false), (.bool false), (.bool false), (.bool false), (.bool false), (.bool false), (.bool false), (.bool false), (.bool false), (.bool false), (.bool false), (.bool false), (.bool false), (.bool false), (.bool false), (.bool false), (.bool false), (.bool false), (.bool false), (.bool false), (.bool false), (.bool false), (.bool false), (.bool false), (.bool false), (.bool false), (.bool false), (.bool false), (.bool false), (.bool false), (.bool false), (.bool false), (.bool false), (.bool false), (.bool false), (.bool false), (.bool false), (.bool false), (.bool false), (.bool false), (.bool false), (.bool false), (.bool false), (.bool false), (.bool false), (.bool false), (.bool false), (.bool false), (.bool false), (.bool false), (.bool false), (.bool false), (.bool false), (.bool false), (.bool false), (.bool false), (.bool false), (.bool false), (.bool false), (.bool false), (.bool false), (.bool false), (.bool false), (.bool false), (.bool false), (.bool false), (.bool false), (.bool false), (.bool false), (.bool false), (.bool false), (.bool false), (.bool false), (.bool false), (.bool false), (.bool false), (.bool false), (.bool false), (.bool false), (.bool false), (.bool false), (.bool false), (.bool false), (.bool false), (.bool false), (.bool false), (.bool false), (.bool false), (.bool false), (.bool false), (.bool false), (.bool false), (.bool false), (.bool false), (.bool false), (.bool false), (.bool false), (.bool false), (.bool false), (.bool false), (.bool false), (.bool false), (.bool false), (.bool false), (.bool false), (.bool false), (.bool false), (.bool false), (.bool false), (.bool false), (.bool false), (.bool false), (.bool false), (.bool false), (.bool false), (.bool false), (.bool false), (.bool false), (.bool false), (.bool false), (.bool false), (.bool false), (.bool false), (.bool false), (.bool false), (.bool false), (.bool false), (.bool false), (.bool false), (.bool false), (.bool false), (.bool false), (.bool false), (.bool false), (.bool false), (.bool false), (.bool false), (.bool false), (.bool false), (.bool false), (.bool false), (.bool false), (.bool false), (.bool false), (.bool false), (.bool false), (.bool false), (.bool false), (.bool false), (.bool false), (.bool false), (.bool false), (.bool false), (.bool false), (.bool false), (.bool false), (.bool false), (.bool false), (.bool false), (.bool false), (.bool false), (.bool false), (.bool false), (.bool false), (.bool false), (.bool false), (.bool false), (.bool false), (.bool false), (.bool false), (.bool false), (.bool false), (.bool false), (.bool false), (.bool false), (.bool false), (.bool false), (.bool false), (.bool false), (.bool false), (.bool false), (.bool false), (.bool false), (.bool false), (.bool false), (.bool false), (.bool false), (.bool false), (.bool false), (.bool false), (.bool false), (.bool false)]⟩])
 (.seq (.seq (.region [⟨some 10, none, .mov (.const (.int .i64 0))⟩])
 (.block 0 (.loop k12_2)))
 (.seq (.region [⟨some 67, none, .mov (.tmp 6)⟩,
  ⟨some 68, none, .call (.const (.func (.func 39) [] [])) [(.tmp 67)]⟩,
  ⟨some 11, none, .mov (.tmp 68)⟩])
 (.seq (.seq (.region [⟨some 69, none, .mov (.tmp 11)⟩,
  ⟨some 70, none, .lenSl (.tmp 69)⟩,
  ⟨some 71, none, .mov (.tmp 8)⟩,
  ⟨some 72, none, .bin .neq (.tmp 70) (.tmp 71)⟩,
  ⟨some 73, none, .mov (.tmp 72)⟩,
  ⟨some 74, (some (73, false)), .mov (.tmp 6)⟩,
  ⟨some 75, (some (73, false)), .call (.const (.func (.func 40) [] [])) [(.tmp 74)]⟩,
  ⟨some 76, (some (73, false)), .mov (.tmp 8)⟩,
  ⟨some 77, (some (73, false)), .bin .neq (.tmp 75) (.tmp 76)⟩,
  ⟨some 78, none, .pick (.tmp 73) (.const (.bool true)) (.tmp 77)⟩])
 (.cond (.tmp 78) (.seq (.region [⟨some 4, none, .mov (.const (.bool false))⟩])
 .ret) .skip))
 (.seq (.seq (.region [⟨some 12, none, .mov (.const (.int .i64 1))⟩])
 (.block 2 (.loop k12_4)))
 (.seq (.region [⟨some 96, none, .mov (.tmp 6)⟩,
  ⟨some 97, none, .call (.const (.func (.func 38) [] [])) [(.tmp 96)]⟩,
  ⟨some 13, none, .mov (.tmp 97)⟩])
 (.seq (.region [⟨some 14, none, .mov (.const (.int .i64 0))⟩])
 (.seq (.seq (.region [⟨some 15, none, .mov (.const (.int .i64 1))⟩])
 (.block 4 (.loop k12_8)))
 (.seq (.region [⟨some 133, none, .mov (.tmp 14)⟩,
  ⟨some 134, none, .mov (.tmp 8)⟩,
  ⟨some 135, none, .bin .eql (.tmp 133) (.tmp 134)⟩,
  ⟨some 136, none, .mov (.tmp 135)⟩,
  ⟨some 137, (some (136, true)), .mov (.tmp 13)⟩,
  ⟨some 138, (some (136, true)), .call (.const (.func (.func 40) [] [])) [(.tmp 137)]⟩,
  ⟨some 139, (some (136, true)), .bin .eql (.tmp 138) (.const (.int .i64 0))⟩,
  ⟨some 140, none, .pick (.tmp 136) (.tmp 139) (.const (.bool false))⟩,
  ⟨some 141, none, .mov (.tmp 140)⟩,
  ⟨some 142, (some (141, true)), .mov (.tmp 6)⟩,
  ⟨some 143, (some (141, true)), .call (.const (.func (.func 40) [] [])) [(.tmp 142)]⟩,
  ⟨some 144, (some (141, true)), .mov (.tmp 8)⟩,
  ⟨some 145, (some (141, true)), .bin .eql (.tmp 143) (.tmp 144)⟩,
  ⟨some 146, none, .pick (.tmp 141) (.tmp 145) (.const (.bool false))⟩,
  ⟨some 4, none, .mov (.tmp 146)⟩])
 .ret)))))))))))))))⟩
theorem c12 : (XTab.of Try.prog).code 12 = some k12 := by kernel_rfl

/-! delphi/delphilaw9.begun -/

def k13 : AFun := ⟨49, [.tmp 0], (.seq (.region [⟨some 0, none, .mov (.const (.bool false))⟩])
 (.seq (.region [⟨some 4, none, .call (.const (.func (.func 14) [] [])) [(.const (.str [112, 40, 88, 41, 32, 58, 45, 32, 113, 40, 88, 41, 44, 32, 33, 114, 40, 88, 41, 46, 32, 112, 40, 89, 41, 32, 58, 45, 32, 113, 40, 88, 41, 44, 32, 89, 32, 60, 32, 88, 46]))]⟩,
  ⟨some 1, none, .mov (.tmp 4)⟩])
 (.seq (.region [⟨some 6, none, .mov (.tmp 1)⟩,
  ⟨some 7, none, .call (.const (.func (.func 17) [] [])) [(.tmp 6), (.const .nilslice)]⟩,
  ⟨some 5, none, .mov (.tmp 7)⟩,
  ⟨some 8, none, .extract 0 (.tmp 5)⟩,
  ⟨some 9, none, .extract 1 (.tmp 5)⟩,
  ⟨some 2, none, .mov (.tmp 8)⟩,
  ⟨some 3, none, .mov (.tmp 9)⟩])
 (.seq (.region [⟨some 10, none, .mov (.tmp 1)⟩,
  ⟨some 11, none, .lenSl (.tmp 10)⟩,
  ⟨some 12, none, .bin .eql (.tmp 11) (.const (.int .i64 2))⟩,
  ⟨some 13, none, .mov (.tmp 12)⟩,
  ⟨some 14, (some (13, true)), .mov (.tmp 1)⟩,
  ⟨some 15, (some (13, true)), .indexAddr 4 (.tmp 14) (.const (.int .i64 0))⟩,
  ⟨some 16, (some (13, true)), .load 4 true (.tmp 15)⟩,
  ⟨some 17, (some (13, true)), .call (.const (.func (.func 15) [] [])) [(.tmp 16)]⟩,
  ⟨some 18, none, .pick (.tmp 13) (.tmp 17) (.const (.bool false))⟩,
  ⟨some 19, none, .mov (.tmp 18)⟩,
  ⟨some 20, (some (19, true)), .mov (.tmp 1)⟩,
  ⟨some 21, (some (19, true)), .indexAddr 4 (.tmp 20) (.const (.int .i64 1))⟩,
  ⟨some 22, (some (19, true)), .load 4 true (.tmp 21)⟩,
  ⟨some 23, (some (19, true)), .call (.const (.func (.func 15) [] [])) [(.tmp 22)]⟩,
  ⟨some 24, (some (19, true)), .un .not (.tmp 23)⟩,
  ⟨some 25, none, .pick (.tmp 19) (.tmp 24) (.const (.bool false))⟩,
  ⟨some 26, none, .mov (.tmp 25)⟩,
  ⟨some 27, (some (26, true)), .mov (.tmp 3)⟩,
  ⟨some 28, (some (26, true)), .bin .eql (.tmp 27) (.const (.int .i64 0))⟩,
  ⟨some 29, none, .pick (.tmp 26) (.tmp 28) (.const (.bool false))⟩,
  ⟨some 30, none, .mov (.tmp 29)⟩,
  ⟨some 31, (some (30, true)), .mov (.tmp 2)⟩,
  ⟨some 32, (some (30, true)), .lookup (.scalar .str) (.int .i64 0) false (.tmp 31) (.const (.str [113]))⟩,
  ⟨some 33, (some (30, true)), .bin .eql (.tmp 32) (.const (.int .i64 1))⟩,
  ⟨some 34, none, .pick (.tmp 30) (.tmp 33) (.const (.bool false))⟩,
  ⟨some 35, none, .mov (.tmp 34)⟩,
  ⟨some 36, (some (35, true)), .mov (.tmp 2)⟩,
  ⟨some 37, (some (35, true)), .lenMap (.tmp 36)⟩,
  ⟨some 38, (some (35, true)), .bin .eql (.tmp 37) (.const (.int .i64 3))⟩,
  ⟨some 39, none, .pick (.tmp 35) (.tmp 38) (.const (.bool false))⟩,
  ⟨some 40, none, .mov (.tmp 39)⟩,
  ⟨some 41, (some (40, true)), .mov (.tmp 1)⟩,
  ⟨some 42, (some (40, true)), .call (.const (.func (.func 19) [] [])) [(.tmp 41), (.const (.str [112]))]⟩,
  ⟨some 43, none, .pick (.tmp 40) (.tmp 42) (.const (.bool false))⟩,
  ⟨some 44, none, .mov (.tmp 43)⟩,
  ⟨some 45, (some (44, true)), .mov (.tmp 1)⟩,
  ⟨some 46, (some (44, true)), .call (.const (.func (.func 19) [] [])) [(.tmp 45), (.const (.str [113]))]⟩,
  ⟨some 47, (some (44, true)), .un .not (.tmp 46)⟩,
  ⟨some 48, none, .pick (.tmp 44) (.tmp 47) (.const (.bool false))⟩,
  ⟨some 0, none, .mov (.tmp 48)⟩])
 .ret))))⟩
theorem c13 : (XTab.of Try.prog).code 13 = some k13 := by kernel_rfl

/-! delphi/delphilaw9.Rules -/

def k14 : AFun := ⟨12, [.tmp 2], (.seq (.region [⟨some 2, none, .mov (.const .nilslice)⟩])
 (.seq (.region [⟨some 6, none, .mov (.tmp 0)⟩,
  ⟨some 7, none, .call (.const (.func (.func 24) [] [])) [(.tmp 6), (.const (.int .i64 1200))]⟩,
  ⟨some 8, none, .call (.const (.func (.func 42) [] [])) [(.tmp 7)]⟩,
  ⟨some 5, none, .mov (.tmp 8)⟩,
  ⟨some 9, none, .extract 0 (.tmp 5)⟩,
  ⟨some 10, none, .extract 1 (.tmp 5)⟩,
  ⟨some 3, none, .mov (.tmp 9)⟩,
  ⟨some 4, none, .mov (.tmp 10)⟩])
 (.seq (.region [⟨some 11, none, .mov (.tmp 3)⟩,
  ⟨some 2, none, .mov (.tmp 11)⟩])
 .ret)))⟩
theorem c14 : (XTab.of Try.prog).code 14 = some k14 := by kernel_rfl

/-! delphi/check.Safe -/
def k15_0 : ACode := (.seq (.region [⟨some 26, none, .mov (.tmp 4)⟩,
  ⟨some 27, none, .fieldAddr 2 (.tmp 6)⟩,
  ⟨some 28, none, .load 1 false (.tmp 27)⟩,
  ⟨some 29, none, .call (.const (.func (.func 43) [] [])) [(.tmp 28)]⟩,
  ⟨some 30, none, .append 1 16 (.tmp 26) (.tmp 29)⟩,
  ⟨some 4, none, .mov (.tmp 30)⟩])
 (.exit 1))
def k15_1 : ACode := (.seq (.region [⟨some 37, none, .indexAddr 1 (.tmp 33) (.tmp 35)⟩,
  ⟨some 38, none, .load 1 false (.tmp 37)⟩,
  ⟨some 8, none, .mov (.tmp 38)⟩])
 (.region [⟨some 39, none, .mov (.tmp 3)⟩,
  ⟨some 40, none, .mov (.tmp 8)⟩,
  ⟨some 41, none, .lookup (.scalar .str) (.int .i64 0) false (.tmp 39) (.tmp 40)⟩,
  ⟨some 42, none, .bin .add (.tmp 41) (.const (.int .i64 1))⟩,
  ⟨none, none, .mapUpdate (.scalar .str) (.tmp 39) (.tmp 40) (.tmp 42)⟩]))
def k15_2 : ACode := (.seq (.region [⟨some 36, none, .bin .lss (.tmp 35) (.tmp 34)⟩])
 (.seq (.cond (.tmp 36) .skip (.exit 2))
 (.seq (.block 3 k15_1)
 (.region [⟨some 43, none, .bin .add (.tmp 35) (.const (.int .i64 1))⟩,
  ⟨some 35, none, .mov (.tmp 43)⟩]))))
def k15_3 : ACode := (.seq (.region [⟨some 21, none, .indexAddr 3 (.tmp 17) (.tmp 19)⟩,
  ⟨some 22, none, .load 3 true (.tmp 21)⟩,
  ⟨some 6, none, .alloc [(.int .i64 0), (.str []), .nilslice]⟩,
  ⟨none, none, .store 3 (.tmp 6) (.tmp 22)⟩])
 (.seq (.seq (.region [⟨some 23, none, .fieldAddr 0 (.tmp 6)⟩,
  ⟨some 24, none, .load 1 false (.tmp 23)⟩,
  ⟨some 25, none, .bin .neq (.tmp 24) (.const (.int .i64 1))⟩])
 (.cond (.tmp 25) k15_0 .skip))
 (.seq (.region [⟨some 31, none, .fieldAddr 2 (.tmp 6)⟩,
  ⟨some 32, none, .load 1 false (.tmp 31)⟩,
  ⟨some 33, none, .call (.const (.func (.func 43) [] [])) [(.tmp 32)]⟩,
  ⟨some 34, none, .lenSl (.tmp 33)⟩,
  ⟨some 35, none, .mov (.const (.int .i64 0))⟩])
 (.block 2 (.loop k15_2)))))
def k15_4 : ACode := (.seq (.region [⟨some 20, none, .bin .lss (.tmp 19) (.tmp 18)⟩])
 (.seq (.cond (.tmp 20) .skip (.exit 0))
 (.seq (.block 1 k15_3)
 (.region [⟨some 44, none, .bin .add (.tmp 19) (.const (.int .i64 1))⟩,
  ⟨some 19, none, .mov (.tmp 44)⟩]))))
def k15_5 : ACode := (.seq (.region [⟨some 49, none, .indexAddr 1 (.tmp 45) (.tmp 47)⟩,
  ⟨some 50, none, .load 1 false (.tmp 49)⟩,
  ⟨some 10, none, .mov (.tmp 50)⟩])
 (.seq (.region [⟨some 51, none, .mov (.tmp 3)⟩,
  ⟨some 52, none, .mov (.tmp 10)⟩,
  ⟨some 53, none, .lookup (.scalar .str) (.int .i64 0) false (.tmp 51) (.tmp 52)⟩,
  ⟨some 54, none, .bin .eql (.tmp 53) (.const (.int .i64 0))⟩])
 (.cond (.tmp 54) (.seq (.region [⟨some 2, none, .mov (.const (.bool false))⟩])
 .ret) .skip)))
def k15_6 : ACode := (.seq (.region [⟨some 48, none, .bin .lss (.tmp 47) (.tmp 46)⟩])
 (.seq (.cond (.tmp 48) .skip (.exit 4))
 (.seq (.block 5 k15_5)
 (.region [⟨some 55, none, .bin .add (.tmp 47) (.const (.int .i64 1))⟩,
  ⟨some 47, none, .mov (.tmp 55)⟩]))))
def k15 : AFun := ⟨56, [.tmp 2], (.seq (.region [⟨some 1, none, .box (.tmp 0)⟩,
  ⟨some 2, none, .mov (.const (.bool false))⟩])
 (.seq (.region [⟨some 11, none, .mkMap⟩,
  ⟨some 3, none, .mov (.tmp 11)⟩])
 (.seq (.region [⟨some 12, none, .fieldAddr 0 (.tmp 1)⟩,
  ⟨some 13, none, .fieldAddr 2 (.tmp 12)⟩,
  ⟨some 14, none, .load 1 false (.tmp 13)⟩,
  ⟨some 15, none, .call (.const (.func (.func 43) [] [])) [(.tmp 14)]⟩,
  ⟨some 4, none, .mov (.tmp 15)⟩])
 (.seq (.seq (.region [⟨some 16, none, .fieldAddr 3 (.tmp 1)⟩,
  ⟨some 17, none, .load 1 false (.tmp 16)⟩,
  ⟨some 18, none, .lenSl (.tmp 17)⟩,
  ⟨some 19, none, .mov (.const (.int .i64 0))⟩])
 (.block 0 (.loop k15_4)))
 (.seq (.seq (.region [⟨some 45, none, .mov (.tmp 4)⟩,
  ⟨some 46, none, .lenSl (.tmp 45)⟩,
  ⟨some 47, none, .mov (.const (.int .i64 0))⟩])
 (.block 4 (.loop k15_6)))
 (.seq (.region [⟨some 2, none, .mov (.const (.bool true))⟩])
 .ret))))))⟩
theorem c15 : (XTab.of Try.prog).code 15 = some k15 := by kernel_rfl

/-! delphi/delphiref8.Safe -/
def k16_0 : ACode := (.seq (.drawn [⟨⟨some 28, none, .mov (.tmp 3)⟩, false, [], [29, 33]⟩,
  ⟨⟨some 29, none, .mov (.tmp 4)⟩, false, [], [28, 33]⟩,
  ⟨⟨some 30, none, .indexAddr 3 (.tmp 28) (.tmp 29)⟩, false, [0, 1], [33]⟩,
  ⟨⟨some 31, none, .fieldAddr 2 (.tmp 30)⟩, false, [1, 0, 2], [33]⟩,
  ⟨⟨some 32, none, .load 1 false (.tmp 31)⟩, false, [2, 0, 1, 3], [33]⟩,
  ⟨⟨some 33, none, .mov (.tmp 5)⟩, false, [], [28, 29, 30, 31, 32]⟩,
  ⟨⟨some 34, none, .indexAddr 3 (.tmp 32) (.tmp 33)⟩, false, [3, 1, 0, 2, 4, 5], []⟩,
  ⟨⟨some 35, none, .fieldAddr 0 (.tmp 34)⟩, false, [5, 4, 2, 0, 1, 3, 6], []⟩,
  ⟨⟨some 36, none, .load 1 false (.tmp 35)⟩, false, [6, 3, 1, 0, 2, 4, 5, 7], []⟩,
  ⟨⟨some 37, none, .bin .eql (.tmp 36) (.const (.int .i64 1))⟩, false, [7, 5, 4, 2, 0, 1, 3, 6, 8], []⟩,
  ⟨⟨some 38, none, .mov (.tmp 37)⟩, false, [8, 6, 3, 1, 0, 2, 4, 5, 7, 9], []⟩,
  ⟨⟨some 39, (some (38, true)), .mov (.tmp 4)⟩, false, [9, 7, 5, 4, 2, 0, 1, 3, 6, 8, 10], []⟩,
  ⟨⟨some 40, (some (38, true)), .bin .eql (.tmp 39) (.const (.int .i64 0))⟩, false, [11, 9, 7, 5, 4, 2, 0, 1, 3, 6, 8, 10], []⟩,
  ⟨⟨some 41, (some (38, true)), .mov (.tmp 40)⟩, false, [11, 12, 9, 7, 5, 4, 2, 0, 1, 3, 6, 8, 10], []⟩,
  ⟨⟨some 42, (some (41, false)), .mov (.tmp 3)⟩, false, [10, 8, 6, 3, 1, 0, 2, 4, 5, 7, 9, 12, 11, 13], [43]⟩,
  ⟨⟨some 43, (some (41, false)), .mov (.tmp 4)⟩, false, [10, 8, 6, 3, 1, 0, 2, 4, 5, 7, 9, 12, 11, 13], [42]⟩,
  ⟨⟨some 44, (some (41, false)), .indexAddr 3 (.tmp 42) (.tmp 43)⟩, false, [14, 15, 10, 8, 6, 3, 1, 0, 2, 4, 5, 7, 9, 12, 11, 13], []⟩,
  ⟨⟨some 45, (some (41, false)), .fieldAddr 0 (.tmp 44)⟩, false, [15, 14, 16, 10, 8, 6, 3, 1, 0, 2, 4, 5, 7, 9, 12, 11, 13], []⟩,
  ⟨⟨some 46, (some (41, false)), .load 1 false (.tmp 45)⟩, false, [16, 14, 15, 17, 10, 8, 6, 3, 1, 0, 2, 4, 5, 7, 9, 12, 11, 13], []⟩,
  ⟨⟨some 47, (some (41, false)), .bin .neq (.tmp 46) (.const (.int .i64 1))⟩, false, [17, 15, 14, 16, 18, 10, 8, 6, 3, 1, 0, 2, 4, 5, 7, 9, 12, 11, 13], []⟩,
  ⟨⟨some 48, (some (38, true)), .pick (.tmp 41) (.const (.bool true)) (.tmp 47)⟩, false, [13, 11, 12, 18, 16, 14, 15, 17, 19, 9, 7, 5, 4, 2, 0, 1, 3, 6, 8, 10], []⟩,
  ⟨⟨some 49, none, .pick (.tmp 38) (.tmp 48) (.const (.bool false))⟩, false, [10, 8, 6, 3, 1, 0, 2, 4, 5, 7, 9, 19, 17, 15, 14, 16, 18, 12, 11, 13, 20], []⟩,
  ⟨⟨some 50, none, .mov (.tmp 49)⟩, false, [20, 18, 16, 14, 15, 17, 19, 21, 10, 8, 6, 3, 1, 0, 2, 4, 5, 7, 9, 12, 11, 13], []⟩,
  ⟨⟨some 51, (some (50, true)), .load 4 true (.tmp 1)⟩, false, [13, 11, 12, 9, 7, 5, 4, 2, 0, 1, 3, 6, 8, 10, 21, 19, 17, 15, 14, 16, 18, 20, 22], [52, 53, 54, 55, 56, 57, 58, 59, 60]⟩,
  ⟨⟨some 52, (some (50, true)), .mov (.tmp 3)⟩, false, [13, 11, 12, 9, 7, 5, 4, 2, 0, 1, 3, 6, 8, 10, 21, 19, 17, 15, 14, 16, 18, 20, 22], [51, 53, 57]⟩,
  ⟨⟨some 53, (some (50, true)), .mov (.tmp 4)⟩, false, [13, 11, 12, 9, 7, 5, 4, 2, 0, 1, 3, 6, 8, 10, 21, 19, 17, 15, 14, 16, 18, 20, 22], [51, 52, 57]⟩,
  ⟨⟨some 54, (some (50, true)), .indexAddr 3 (.tmp 52) (.tmp 53)⟩, false, [24, 25, 13, 11, 12, 9, 7, 5, 4, 2, 0, 1, 3, 6, 8, 10, 21, 19, 17, 15, 14, 16, 18, 20, 22], [51, 57]⟩,
  ⟨⟨some 55, (some (50, true)), .fieldAddr 2 (.tmp 54)⟩, false, [25, 24, 26, 13, 11, 12, 9, 7, 5, 4, 2, 0, 1, 3, 6, 8, 10, 21, 19, 17, 15, 14, 16, 18, 20, 22], [51, 57]⟩,
  ⟨⟨some 56, (some (50, true)), .load 1 false (.tmp 55)⟩, false, [26, 24, 25, 27, 13, 11, 12, 9, 7, 5, 4, 2, 0, 1, 3, 6, 8, 10, 21, 19, 17, 15, 14, 16, 18, 20, 22], [51, 57]⟩,
  ⟨⟨some 57, (some (50, true)), .mov (.tmp 5)⟩, false, [13, 11, 12, 9, 7, 5, 4, 2, 0, 1, 3, 6, 8, 10, 21, 19, 17, 15, 14, 16, 18, 20, 22], [51, 52, 53, 54, 55, 56]⟩,
  ⟨⟨some 58, (some (50, true)), .indexAddr 3 (.tmp 56) (.tmp 57)⟩, false, [27, 25, 24, 26, 28, 29, 13, 11, 12, 9, 7, 5, 4, 2, 0, 1, 3, 6, 8, 10, 21, 19, 17, 15, 14, 16, 18, 20, 22], [51]⟩,
  ⟨⟨some 59, (some (50, true)), .fieldAddr 1 (.tmp 58)⟩, false, [29, 28, 26, 24, 25, 27, 30, 13, 11, 12, 9, 7, 5, 4, 2, 0, 1, 3, 6, 8, 10, 21, 19, 17, 15, 14, 16, 18, 20, 22], [51]⟩,
  ⟨⟨some 60, (some (50, true)), .load 1 false (.tmp 59)⟩, false, [30, 27, 25, 24, 26, 28, 29, 31, 13, 11, 12, 9, 7, 5, 4, 2, 0, 1, 3, 6, 8, 10, 21, 19, 17, 15, 14, 16, 18, 20, 22], [51]⟩,
  ⟨⟨some 61, (some (50, true)), .call (.const (.func (.func 44) [] [])) [(.tmp 51), (.tmp 60)]⟩, true, [23, 31, 29, 28, 26, 24, 25, 27, 30, 32, 13, 11, 12, 9, 7, 5, 4, 2, 0, 1, 3, 6, 8, 10, 21, 19, 17, 15, 14, 16, 18, 20, 22], []⟩,
  ⟨⟨some 62, (some (50, true)), .un .not (.tmp 61)⟩, false, [32, 30, 27, 25, 24, 26, 28, 29, 31, 23, 33, 13, 11, 12, 9, 7, 5, 4, 2, 0, 1, 3, 6, 8, 10, 21, 19, 17, 15, 14, 16, 18, 20, 22], []⟩,
  ⟨⟨some 63, none, .pick (.tmp 50) (.tmp 62) (.const (.bool false))⟩, false, [22, 20, 18, 16, 14, 15, 17, 19, 21, 10, 8, 6, 3, 1, 0, 2, 4, 5, 7, 9, 12, 11, 13, 33, 23, 31, 29, 28, 26, 24, 25, 27, 30, 32, 34], []⟩])
 (.cond (.tmp 63) (.seq (.region [⟨some 2, none, .mov (.const (.bool false))⟩])
 .ret) .skip))
def k16_1 : ACode := (.seq (.seq (.region [⟨some 18, none, .mov (.tmp 5)⟩,
  ⟨some 19, none, .mov (.tmp 3)⟩,
  ⟨some 20, none, .mov (.tmp 4)⟩,
  ⟨some 21, none, .indexAddr 3 (.tmp 19) (.tmp 20)⟩,
  ⟨some 22, none, .fieldAddr 2 (.tmp 21)⟩,
  ⟨some 23, none, .load 1 false (.tmp 22)⟩,
  ⟨some 24, none, .lenSl (.tmp 23)⟩,
  ⟨some 25, none, .bin .lss (.tmp 18) (.tmp 24)⟩])
 (.cond (.tmp 25) .skip (.exit 2)))
 (.seq (.block 3 k16_0)
 (.region [⟨some 26, none, .mov (.tmp 5)⟩,
  ⟨some 27, none, .bin .add (.tmp 26) (.const (.int .i64 1))⟩,
  ⟨some 5, none, .mov (.tmp 27)⟩])))
def k16_2 : ACode := (.seq (.seq (.region [⟨some 12, none, .mov (.tmp 4)⟩,
  ⟨some 13, none, .mov (.tmp 3)⟩,
  ⟨some 14, none, .lenSl (.tmp 13)⟩,
  ⟨some 15, none, .bin .lss (.tmp 12) (.tmp 14)⟩])
 (.cond (.tmp 15) .skip (.exit 0)))
 (.seq (.block 1 (.seq (.region [⟨some 5, none, .mov (.const (.int .i64 0))⟩])
 (.block 2 (.loop k16_1))))
 (.region [⟨some 16, none, .mov (.tmp 4)⟩,
  ⟨some 17, none, .bin .add (.tmp 16) (.const (.int .i64 1))⟩,
  ⟨some 4, none, .mov (.tmp 17)⟩])))
def k16 : AFun := ⟨64, [.tmp 2], (.seq (.region [⟨some 1, none, .box (.tmp 0)⟩,
  ⟨some 2, none, .mov (.const (.bool false))⟩])
 (.seq (.region [⟨some 6, none, .fieldAddr 0 (.tmp 1)⟩,
  ⟨some 7, none, .load 3 true (.tmp 6)⟩,
  ⟨some 8, none, .buildSlice 1 [(.int .i64 0), (.str []), .nilslice] [(0, 3, (.tmp 7))]⟩,
  ⟨some 9, none, .fieldAddr 3 (.tmp 1)⟩,
  ⟨some 10, none, .load 1 false (.tmp 9)⟩,
  ⟨some 11, none, .append 3 48 (.tmp 8) (.tmp 10)⟩,
  ⟨some 3, none, .mov (.tmp 11)⟩])
 (.seq (.seq (.region [⟨some 4, none, .mov (.const (.int .i64 0))⟩])
 (.block 0 (.loop k16_2)))
 (.seq (.region [⟨some 2, none, .mov (.const (.bool true))⟩])
 .ret))))⟩
theorem c16 : (XTab.of Try.prog).code 16 = some k16 := by kernel_rfl

/-! delphi/check.Arities -/
def k17_0 : ACode := (.region [⟨some 47, none, .mov (.tmp 8)⟩,
  ⟨some 48, none, .fieldAddr 1 (.tmp 12)⟩,
  ⟨some 49, none, .load 1 false (.tmp 48)⟩,
  ⟨some 50, none, .fieldAddr 2 (.tmp 12)⟩,
  ⟨some 51, none, .load 1 false (.tmp 50)⟩,
  ⟨some 52, none, .lenSl (.tmp 51)⟩,
  ⟨some 53, none, .call (.tmp 47) [(.tmp 49), (.tmp 52)]⟩])
def k17_1 : ACode := (.seq (.region [⟨some 37, none, .indexAddr 3 (.tmp 33) (.tmp 35)⟩,
  ⟨some 38, none, .load 3 true (.tmp 37)⟩,
  ⟨some 12, none, .alloc [(.int .i64 0), (.str []), .nilslice]⟩,
  ⟨none, none, .store 3 (.tmp 12) (.tmp 38)⟩])
 (.seq (.region [⟨some 39, none, .fieldAddr 0 (.tmp 12)⟩,
  ⟨some 40, none, .load 1 false (.tmp 39)⟩,
  ⟨some 41, none, .bin .eql (.tmp 40) (.const (.int .i64 1))⟩,
  ⟨some 42, none, .mov (.tmp 41)⟩,
  ⟨some 43, (some (42, false)), .fieldAddr 0 (.tmp 12)⟩,
  ⟨some 44, (some (42, false)), .load 1 false (.tmp 43)⟩,
  ⟨some 45, (some (42, false)), .bin .eql (.tmp 44) (.const (.int .i64 2))⟩,
  ⟨some 46, none, .pick (.tmp 42) (.const (.bool true)) (.tmp 45)⟩])
 (.cond (.tmp 46) k17_0 .skip)))
def k17_2 : ACode := (.seq (.region [⟨some 36, none, .bin .lss (.tmp 35) (.tmp 34)⟩])
 (.seq (.cond (.tmp 36) .skip (.exit 2))
 (.seq (.block 3 k17_1)
 (.region [⟨some 54, none, .bin .add (.tmp 35) (.const (.int .i64 1))⟩,
  ⟨some 35, none, .mov (.tmp 54)⟩]))))
def k17_3 : ACode := (.seq (.region [⟨some 21, none, .indexAddr 4 (.tmp 17) (.tmp 19)⟩,
  ⟨some 22, none, .load 4 true (.tmp 21)⟩,
  ⟨some 10, none, .alloc [(.int .i64 0), (.str []), .nilslice, .nilslice]⟩,
  ⟨none, none, .store 4 (.tmp 10) (.tmp 22)⟩])
 (.seq (.region [⟨some 23, none, .mov (.tmp 8)⟩,
  ⟨some 24, none, .fieldAddr 0 (.tmp 10)⟩,
  ⟨some 25, none, .fieldAddr 1 (.tmp 24)⟩,
  ⟨some 26, none, .load 1 false (.tmp 25)⟩,
  ⟨some 27, none, .fieldAddr 0 (.tmp 10)⟩,
  ⟨some 28, none, .fieldAddr 2 (.tmp 27)⟩,
  ⟨some 29, none, .load 1 false (.tmp 28)⟩,
  ⟨some 30, none, .lenSl (.tmp 29)⟩,
  ⟨some 31, none, .call (.tmp 23) [(.tmp 26), (.tmp 30)]⟩])
 (.seq (.region [⟨some 32, none, .fieldAddr 3 (.tmp 10)⟩,
  ⟨some 33, none, .load 1 false (.tmp 32)⟩,
  ⟨some 34, none, .lenSl (.tmp 33)⟩,
  ⟨some 35, none, .mov (.const (.int .i64 0))⟩])
 (.block 2 (.loop k17_2)))))
def k17_4 : ACode := (.seq (.region [⟨some 20, none, .bin .lss (.tmp 19) (.tmp 18)⟩])
 (.seq (.cond (.tmp 20) .skip (.exit 0))
 (.seq (.block 1 k17_3)
 (.region [⟨some 55, none, .bin .add (.tmp 19) (.const (.int .i64 1))⟩,
  ⟨some 19, none, .mov (.tmp 55)⟩]))))
def k17_5 : ACode := (.seq (.region [⟨some 60, none, .indexAddr 2 (.tmp 56) (.tmp 58)⟩,
  ⟨some 61, none, .load 2 true (.tmp 60)⟩,
  ⟨some 14, none, .alloc [(.str []), .nilslice]⟩,
  ⟨none, none, .store 2 (.tmp 14) (.tmp 61)⟩])
 (.region [⟨some 62, none, .mov (.tmp 8)⟩,
  ⟨some 63, none, .fieldAddr 0 (.tmp 14)⟩,
  ⟨some 64, none, .load 1 false (.tmp 63)⟩,
  ⟨some 65, none, .fieldAddr 1 (.tmp 14)⟩,
  ⟨some 66, none, .load 1 false (.tmp 65)⟩,
  ⟨some 67, none, .lenSl (.tmp 66)⟩,
  ⟨some 68, none, .call (.tmp 62) [(.tmp 64), (.tmp 67)]⟩]))
def k17_6 : ACode := (.seq (.region [⟨some 59, none, .bin .lss (.tmp 58) (.tmp 57)⟩])
 (.seq (.cond (.tmp 59) .skip (.exit 4))
 (.seq (.block 5 k17_5)
 (.region [⟨some 69, none, .bin .add (.tmp 58) (.const (.int .i64 1))⟩,
  ⟨some 58, none, .mov (.tmp 69)⟩]))))
def k17 : AFun := ⟨73, [.tmp 4, .tmp 5], (.seq (.region [⟨some 4, none, .mov (.const .nilmap)⟩,
  ⟨some 5, none, .mov (.const (.int .i64 0))⟩])
 (.seq (.region [⟨some 15, none, .mkMap⟩,
  ⟨some 6, none, .alloc [.nilmap]⟩,
  ⟨none, none, .store 1 (.tmp 6) (.tmp 15)⟩])
 (.seq (.region [⟨some 7, none, .alloc [(.bool false)]⟩,
  ⟨none, none, .store 1 (.tmp 7) (.const (.bool true))⟩])
 (.seq (.region [⟨some 16, none, .mkFunc (.func 45) [] [(.tmp 6), (.tmp 7)]⟩,
  ⟨some 8, none, .mov (.tmp 16)⟩])
 (.seq (.seq (.region [⟨some 17, none, .mov (.tmp 0)⟩,
  ⟨some 18, none, .lenSl (.tmp 17)⟩,
  ⟨some 19, none, .mov (.const (.int .i64 0))⟩])
 (.block 0 (.loop k17_4)))
 (.seq (.seq (.region [⟨some 56, none, .mov (.tmp 1)⟩,
  ⟨some 57, none, .lenSl (.tmp 56)⟩,
  ⟨some 58, none, .mov (.const (.int .i64 0))⟩])
 (.block 4 (.loop k17_6)))
 (.seq (.seq (.region [⟨some 70, none, .load 1 false (.tmp 7)⟩,
  ⟨some 71, none, .un .not (.tmp 70)⟩])
 (.cond (.tmp 71) (.seq (.region [⟨some 4, none, .mov (.const .nilmap)⟩,
  ⟨some 5, none, .mov (.const (.int .i64 6))⟩])
 .ret) .skip))
 (.seq (.region [⟨some 72, none, .load 1 false (.tmp 6)⟩,
  ⟨some 4, none, .mov (.tmp 72)⟩,
  ⟨some 5, none, .mov (.const (.int .i64 0))⟩])
 .ret))))))))⟩
theorem c17 : (XTab.of Try.prog).code 17 = some k17 := by kernel_rfl

/-! delphi/delphiref8.Preds -/
def k18_0 : ACode := (.seq (.seq (.region [⟨some 38, none, .mov (.tmp 12)⟩,
  ⟨some 39, none, .bin .gtr (.tmp 38) (.const (.int .i64 0))⟩,
  ⟨some 40, none, .mov (.tmp 39)⟩,
  ⟨some 41, (some (40, true)), .mov (.tmp 11)⟩,
  ⟨some 42, (some (40, true)), .mov (.tmp 12)⟩,
  ⟨some 43, (some (40, true)), .indexAddr 3 (.tmp 41) (.tmp 42)⟩,
  ⟨some 44, (some (40, true)), .fieldAddr 0 (.tmp 43)⟩,
  ⟨some 45, (some (40, true)), .load 1 false (.tmp 44)⟩,
  ⟨some 46, (some (40, true)), .bin .neq (.tmp 45) (.const (.int .i64 1))⟩,
  ⟨some 47, none, .pick (.tmp 40) (.tmp 46) (.const (.bool false))⟩,
  ⟨some 48, none, .mov (.tmp 47)⟩,
  ⟨some 49, (some (48, true)), .mov (.tmp 11)⟩,
  ⟨some 50, (some (48, true)), .mov (.tmp 12)⟩,
  ⟨some 51, (some (48, true)), .indexAddr 3 (.tmp 49) (.tmp 50)⟩,
  ⟨some 52, (some (48, true)), .fieldAddr 0 (.tmp 51)⟩,
  ⟨some 53, (some (48, true)), .load 1 false (.tmp 52)⟩,
  ⟨some 54, (some (48, true)), .bin .neq (.tmp 53) (.const (.int .i64 2))⟩,
  ⟨some 55, none, .pick (.tmp 48) (.tmp 54) (.const (.bool false))⟩])
 (.cond (.tmp 55) (.exit 3) .skip))
 (.drawn [⟨⟨some 57, none, .mov (.tmp 7)⟩, false, [], [58, 59, 60, 61, 62, 63, 64, 65, 66, 67, 68, 69, 70]⟩,
  ⟨⟨some 58, none, .mov (.tmp 8)⟩, false, [], [57, 59, 60, 61, 62, 63, 64, 65, 66, 67, 68, 69, 70]⟩,
  ⟨⟨some 59, none, .mov (.tmp 11)⟩, false, [], [57, 58, 60, 64, 65, 66, 67, 68, 69, 70]⟩,
  ⟨⟨some 60, none, .mov (.tmp 12)⟩, false, [], [57, 58, 59, 64, 65, 66, 67, 68, 69, 70]⟩,
  ⟨⟨some 61, none, .indexAddr 3 (.tmp 59) (.tmp 60)⟩, false, [2, 3], [57, 58, 64, 65, 66, 67, 68, 69, 70]⟩,
  ⟨⟨some 62, none, .fieldAddr 1 (.tmp 61)⟩, false, [3, 2, 4], [57, 58, 64, 65, 66, 67, 68, 69, 70]⟩,
  ⟨⟨some 63, none, .load 1 false (.tmp 62)⟩, false, [4, 2, 3, 5], [57, 58, 64, 65, 66, 67, 68, 69, 70]⟩,
  ⟨⟨some 64, none, .mov (.tmp 11)⟩, false, [], [57, 58, 59, 60, 61, 62, 63, 65, 70]⟩,
  ⟨⟨some 65, none, .mov (.tmp 12)⟩, false, [], [57, 58, 59, 60, 61, 62, 63, 64, 70]⟩,
  ⟨⟨some 66, none, .indexAddr 3 (.tmp 64) (.tmp 65)⟩, false, [7, 8], [57, 58, 59, 60, 61, 62, 63, 70]⟩,
  ⟨⟨some 67, none, .fieldAddr 2 (.tmp 66)⟩, false, [8, 7, 9], [57, 58, 59, 60, 61, 62, 63, 70]⟩,
  ⟨⟨some 68, none, .load 1 false (.tmp 67)⟩, false, [9, 7, 8, 10], [57, 58, 59, 60, 61, 62, 63, 70]⟩,
  ⟨⟨some 69, none, .lenSl (.tmp 68)⟩, false, [10, 8, 7, 9, 11], [57, 58, 59, 60, 61, 62, 63, 70]⟩,
  ⟨⟨some 70, none, .mov (.tmp 9)⟩, false, [], [57, 58, 59, 60, 61, 62, 63, 64, 65, 66, 67, 68, 69]⟩,
  ⟨⟨some 71, none, .call (.const (.func (.func 46) [] [])) [(.tmp 57), (.tmp 58), (.tmp 63), (.tmp 69), (.tmp 70)]⟩, true, [0, 1, 5, 3, 2, 4, 6, 11, 9, 7, 8, 10, 12, 13], []⟩,
  ⟨⟨some 56, none, .mov (.tmp 71)⟩, false, [13, 12, 10, 8, 7, 9, 11, 6, 4, 2, 3, 5, 1, 0, 14], []⟩,
  ⟨⟨some 72, none, .extract 0 (.tmp 56)⟩, false, [14, 0, 1, 5, 3, 2, 4, 6, 11, 9, 7, 8, 10, 12, 13, 15], [73, 74]⟩,
  ⟨⟨some 73, none, .extract 1 (.tmp 56)⟩, false, [14, 0, 1, 5, 3, 2, 4, 6, 11, 9, 7, 8, 10, 12, 13, 15], [72, 74, 7]⟩,
  ⟨⟨some 74, none, .extract 2 (.tmp 56)⟩, false, [14, 0, 1, 5, 3, 2, 4, 6, 11, 9, 7, 8, 10, 12, 13, 15], [72, 73, 7, 8]⟩,
  ⟨⟨some 7, none, .mov (.tmp 72)⟩, false, [15, 13, 12, 10, 8, 7, 9, 11, 6, 4, 2, 3, 5, 1, 0, 14, 16], [73, 74]⟩,
  ⟨⟨some 8, none, .mov (.tmp 73)⟩, false, [17, 16, 14, 0, 1, 5, 3, 2, 4, 6, 11, 9, 7, 8, 10, 12, 13, 15, 19], [74]⟩,
  ⟨⟨some 9, none, .mov (.tmp 74)⟩, false, [18, 19, 15, 13, 12, 10, 8, 7, 9, 11, 6, 4, 2, 3, 5, 1, 0, 14, 16, 17, 20], []⟩]))
def k18_1 : ACode := (.seq (.seq (.region [⟨some 32, none, .mov (.tmp 12)⟩,
  ⟨some 33, none, .mov (.tmp 11)⟩,
  ⟨some 34, none, .lenSl (.tmp 33)⟩,
  ⟨some 35, none, .bin .lss (.tmp 32) (.tmp 34)⟩])
 (.cond (.tmp 35) .skip (.exit 2)))
 (.seq (.block 3 k18_0)
 (.region [⟨some 36, none, .mov (.tmp 12)⟩,
  ⟨some 37, none, .bin .add (.tmp 36) (.const (.int .i64 1))⟩,
  ⟨some 12, none, .mov (.tmp 37)⟩])))
def k18_2 : ACode := (.seq (.drawn [⟨⟨some 20, none, .mov (.tmp 0)⟩, false, [], [21, 26, 27, 28, 29, 30]⟩,
  ⟨⟨some 21, none, .mov (.tmp 10)⟩, false, [], [20, 26, 27, 28, 29, 30]⟩,
  ⟨⟨some 22, none, .indexAddr 4 (.tmp 20) (.tmp 21)⟩, false, [0, 1], [26, 27, 28, 29, 30]⟩,
  ⟨⟨some 23, none, .fieldAddr 0 (.tmp 22)⟩, false, [1, 0, 2], [26, 27, 28, 29, 30]⟩,
  ⟨⟨some 24, none, .load 3 true (.tmp 23)⟩, false, [2, 0, 1, 3], [26, 27, 28, 29, 30]⟩,
  ⟨⟨some 25, none, .buildSlice 1 [(.int .i64 0), (.str []), .nilslice] [(0, 3, (.tmp 24))]⟩, true, [3, 1, 0, 2, 4], [26, 27, 28, 29, 30]⟩,
  ⟨⟨some 26, none, .mov (.tmp 0)⟩, false, [], [20, 21, 22, 23, 24, 25, 27]⟩,
  ⟨⟨some 27, none, .mov (.tmp 10)⟩, false, [], [20, 21, 22, 23, 24, 25, 26]⟩,
  ⟨⟨some 28, none, .indexAddr 4 (.tmp 26) (.tmp 27)⟩, false, [6, 7], [20, 21, 22, 23, 24, 25]⟩,
  ⟨⟨some 29, none, .fieldAddr 3 (.tmp 28)⟩, false, [7, 6, 8], [20, 21, 22, 23, 24, 25]⟩,
  ⟨⟨some 30, none, .load 1 false (.tmp 29)⟩, false, [8, 6, 7, 9], [20, 21, 22, 23, 24, 25]⟩,
  ⟨⟨some 31, none, .append 3 48 (.tmp 25) (.tmp 30)⟩, true, [4, 2, 0, 1, 3, 5, 9, 7, 6, 8, 10], []⟩,
  ⟨⟨some 11, none, .mov (.tmp 31)⟩, false, [10, 8, 6, 7, 9, 5, 3, 1, 0, 2, 4, 11], []⟩])
 (.seq (.region [⟨some 12, none, .mov (.const (.int .i64 0))⟩])
 (.block 2 (.loop k18_1))))
def k18_3 : ACode := (.seq (.seq (.region [⟨some 14, none, .mov (.tmp 10)⟩,
  ⟨some 15, none, .mov (.tmp 0)⟩,
  ⟨some 16, none, .lenSl (.tmp 15)⟩,
  ⟨some 17, none, .bin .lss (.tmp 14) (.tmp 16)⟩])
 (.cond (.tmp 17) .skip (.exit 0)))
 (.seq (.block 1 k18_2)
 (.region [⟨some 18, none, .mov (.tmp 10)⟩,
  ⟨some 19, none, .bin .add (.tmp 18) (.const (.int .i64 1))⟩,
  ⟨some 10, none, .mov (.tmp 19)⟩])))
def k18_4 : ACode := (.drawn [⟨⟨some 82, none, .mov (.tmp 7)⟩, false, [], [83, 84, 85, 86, 87, 88, 89, 90, 91, 92, 93, 94, 95]⟩,
  ⟨⟨some 83, none, .mov (.tmp 8)⟩, false, [], [82, 84, 85, 86, 87, 88, 89, 90, 91, 92, 93, 94, 95]⟩,
  ⟨⟨some 84, none, .mov (.tmp 1)⟩, false, [], [82, 83, 85, 89, 90, 91, 92, 93, 94, 95]⟩,
  ⟨⟨some 85, none, .mov (.tmp 13)⟩, false, [], [82, 83, 84, 89, 90, 91, 92, 93, 94, 95]⟩,
  ⟨⟨some 86, none, .indexAddr 2 (.tmp 84) (.tmp 85)⟩, false, [2, 3], [82, 83, 89, 90, 91, 92, 93, 94, 95]⟩,
  ⟨⟨some 87, none, .fieldAddr 0 (.tmp 86)⟩, false, [3, 2, 4], [82, 83, 89, 90, 91, 92, 93, 94, 95]⟩,
  ⟨⟨some 88, none, .load 1 false (.tmp 87)⟩, false, [4, 2, 3, 5], [82, 83, 89, 90, 91, 92, 93, 94, 95]⟩,
  ⟨⟨some 89, none, .mov (.tmp 1)⟩, false, [], [82, 83, 84, 85, 86, 87, 88, 90, 95]⟩,
  ⟨⟨some 90, none, .mov (.tmp 13)⟩, false, [], [82, 83, 84, 85, 86, 87, 88, 89, 95]⟩,
  ⟨⟨some 91, none, .indexAddr 2 (.tmp 89) (.tmp 90)⟩, false, [7, 8], [82, 83, 84, 85, 86, 87, 88, 95]⟩,
  ⟨⟨some 92, none, .fieldAddr 1 (.tmp 91)⟩, false, [8, 7, 9], [82, 83, 84, 85, 86, 87, 88, 95]⟩,
  ⟨⟨some 93, none, .load 1 false (.tmp 92)⟩, false, [9, 7, 8, 10], [82, 83, 84, 85, 86, 87, 88, 95]⟩,
  ⟨⟨some 94, none, .lenSl (.tmp 93)⟩, false, [10, 8, 7, 9, 11], [82, 83, 84, 85, 86, 87, 88, 95]⟩,
  ⟨⟨some 95, none, .mov (.tmp 9)⟩, false, [], [82, 83, 84, 85, 86, 87, 88, 89, 90, 91, 92, 93, 94]⟩,
  ⟨⟨some 96, none, .call (.const (.func (.func 46) [] [])) [(.tmp 82), (.tmp 83), (.tmp 88), (.tmp 94), (.tmp 95)]⟩, true, [0, 1, 5, 3, 2, 4, 6, 11, 9, 7, 8, 10, 12, 13], []⟩,
  ⟨⟨some 81, none, .mov (.tmp 96)⟩, false, [13, 12, 10, 8, 7, 9, 11, 6, 4, 2, 3, 5, 1, 0, 14], []⟩,
  ⟨⟨some 97, none, .extract 0 (.tmp 81)⟩, false, [14, 0, 1, 5, 3, 2, 4, 6, 11, 9, 7, 8, 10, 12, 13, 15], [98, 99]⟩,
  ⟨⟨some 98, none, .extract 1 (.tmp 81)⟩, false, [14, 0, 1, 5, 3, 2, 4, 6, 11, 9, 7, 8, 10, 12, 13, 15], [97, 99, 7]⟩,
  ⟨⟨some 99, none, .extract 2 (.tmp 81)⟩, false, [14, 0, 1, 5, 3, 2, 4, 6, 11, 9, 7, 8, 10, 12, 13, 15], [97, 98, 7, 8]⟩,
  ⟨⟨some 7, none, .mov (.tmp 97)⟩, false, [15, 13, 12, 10, 8, 7, 9, 11, 6, 4, 2, 3, 5, 1, 0, 14, 16], [98, 99]⟩,
  ⟨⟨some 8, none, .mov (.tmp 98)⟩, false, [17, 16, 14, 0, 1, 5, 3, 2, 4, 6, 11, 9, 7, 8, 10, 12, 13, 15, 19], [99]⟩,
  ⟨⟨some 9, none, .mov (.tmp 99)⟩, false, [18, 19, 15, 13, 12, 10, 8, 7, 9, 11, 6, 4, 2, 3, 5, 1, 0, 14, 16, 17, 20], []⟩])
def k18_5 : ACode := (.seq (.seq (.region [⟨some 75, none, .mov (.tmp 13)⟩,
  ⟨some 76, none, .mov (.tmp 1)⟩,
  ⟨some 77, none, .lenSl (.tmp 76)⟩,
  ⟨some 78, none, .bin .lss (.tmp 75) (.tmp 77)⟩])
 (.cond (.tmp 78) .skip (.exit 4)))
 (.seq (.block 5 k18_4)
 (.region [⟨some 79, none, .mov (.tmp 13)⟩,
  ⟨some 80, none, .bin .add (.tmp 79) (.const (.int .i64 1))⟩,
  ⟨some 13, none, .mov (.tmp 80)⟩])))
def k18 : AFun := ⟨103, [.tmp 4, .tmp 5, .tmp 6], (.seq (.region [⟨some 4, none, .mov (.const .nilslice)⟩,
  ⟨some 5, none, .mov (.const .nilslice)⟩,
  ⟨some 6, none, .mov (.const (.bool false))⟩])
 (.seq (.region [⟨some 7, none, .mov (.const .nilslice)⟩])
 (.seq (.region [⟨some 8, none, .mov (.const .nilslice)⟩])
 (.seq (.region [⟨some 9, none, .mov (.const (.bool true))⟩])
 (.seq (.seq (.region [⟨some 10, none, .mov (.const (.int .i64 0))⟩])
 (.block 0 (.loop k18_3)))
 (.seq (.seq (.region [⟨some 13, none, .mov (.const (.int .i64 0))⟩])
 (.block 4 (.loop k18_5)))
 (.seq (.region [⟨some 100, none, .mov (.tmp 7)⟩,
  ⟨some 101, none, .mov (.tmp 8)⟩,
  ⟨some 102, none, .mov (.tmp 9)⟩,
  ⟨some 4, none, .mov (.tmp 100)⟩,
  ⟨some 5, none, .mov (.tmp 101)⟩,
  ⟨some 6, none, .mov (.tmp 102)⟩])
 .ret)))))))⟩
theorem c18 : (XTab.of Try.prog).code 18 = some k18 := by kernel_rfl

/-! delphi/check.Defined -/
def k19_0 : ACode := (.seq (.region [⟨some 11, none, .indexAddr 4 (.tmp 7) (.tmp 9)⟩,
  ⟨some 12, none, .load 4 true (.tmp 11)⟩,
  ⟨some 6, none, .alloc [(.int .i64 0), (.str []), .nilslice, .nilslice]⟩,
  ⟨none, none, .store 4 (.tmp 6) (.tmp 12)⟩])
 (.seq (.region [⟨some 13, none, .fieldAddr 0 (.tmp 6)⟩,
  ⟨some 14, none, .fieldAddr 1 (.tmp 13)⟩,
  ⟨some 15, none, .load 1 false (.tmp 14)⟩,
  ⟨some 16, none, .mov (.tmp 1)⟩,
  ⟨some 17, none, .bin .eql (.tmp 15) (.tmp 16)⟩])
 (.cond (.tmp 17) (.seq (.region [⟨some 4, none, .mov (.const (.bool true))⟩])
 .ret) .skip)))
def k19_1 : ACode := (.seq (.region [⟨some 10, none, .bin .lss (.tmp 9) (.tmp 8)⟩])
 (.seq (.cond (.tmp 10) .skip (.exit 0))
 (.seq (.block 1 k19_0)
 (.region [⟨some 18, none, .bin .add (.tmp 9) (.const (.int .i64 1))⟩,
  ⟨some 9, none, .mov (.tmp 18)⟩]))))
def k19 : AFun := ⟨19, [.tmp 4], (.seq (.region [⟨some 4, none, .mov (.const (.bool false))⟩])
 (.seq (.seq (.region [⟨some 7, none, .mov (.tmp 0)⟩,
  ⟨some 8, none, .lenSl (.tmp 7)⟩,
  ⟨some 9, none, .mov (.const (.int .i64 0))⟩])
 (.block 0 (.loop k19_1)))
 (.seq (.region [⟨some 4, none, .mov (.const (.bool false))⟩])
 .ret)))⟩
theorem c19 : (XTab.of Try.prog).code 19 = some k19 := by kernel_rfl

/-! delphi/delphiref8.Defined -/
def k20_0 : ACode := (.seq (.region [⟨some 12, none, .mov (.tmp 0)⟩,
  ⟨some 13, none, .mov (.tmp 5)⟩,
  ⟨some 14, none, .indexAddr 4 (.tmp 12) (.tmp 13)⟩,
  ⟨some 15, none, .fieldAddr 0 (.tmp 14)⟩,
  ⟨some 16, none, .fieldAddr 1 (.tmp 15)⟩,
  ⟨some 17, none, .load 1 false (.tmp 16)⟩,
  ⟨some 18, none, .mov (.tmp 1)⟩,
  ⟨some 19, none, .bin .eql (.tmp 17) (.tmp 18)⟩])
 (.cond (.tmp 19) (.seq (.region [⟨some 4, none, .mov (.const (.bool true))⟩])
 .ret) .skip))
def k20_1 : ACode := (.seq (.seq (.region [⟨some 6, none, .mov (.tmp 5)⟩,
  ⟨some 7, none, .mov (.tmp 0)⟩,
  ⟨some 8, none, .lenSl (.tmp 7)⟩,
  ⟨some 9, none, .bin .lss (.tmp 6) (.tmp 8)⟩])
 (.cond (.tmp 9) .skip (.exit 0)))
 (.seq (.block 1 k20_0)
 (.region [⟨some 10, none, .mov (.tmp 5)⟩,
  ⟨some 11, none, .bin .add (.tmp 10) (.const (.int .i64 1))⟩,
  ⟨some 5, none, .mov (.tmp 11)⟩])))
def k20 : AFun := ⟨20, [.tmp 4], (.seq (.region [⟨some 4, none, .mov (.const (.bool false))⟩])
 (.seq (.seq (.region [⟨some 5, none, .mov (.const (.int .i64 0))⟩])
 (.block 0 (.loop k20_1)))
 (.seq (.region [⟨some 4, none, .mov (.const (.bool false))⟩])
 .ret)))⟩
theorem c20 : (XTab.of Try.prog).code 20 = some k20 := by kernel_rfl

/-! delphi/delphilaw9.CheckVars$1 -/

def k21 : AFun := ⟨17, [.cell 3 3 true], (.seq (.region [⟨some 3, none, .alloc [(.int .i64 0), (.str []), (.int .i64 0)]⟩])
 (.seq (.region [⟨some 4, none, .mov (.tmp 0)⟩,
  ⟨some 5, none, .load 1 false (.tmp 1)⟩,
  ⟨some 6, none, .bin .rem (.tmp 4) (.tmp 5)⟩,
  ⟨some 0, none, .mov (.tmp 6)⟩])
 (.seq (.seq (.region [⟨some 7, none, .mov (.tmp 0)⟩,
  ⟨some 8, none, .bin .lss (.tmp 7) (.const (.int .i64 0))⟩])
 (.cond (.tmp 8) (.region [⟨some 9, none, .mov (.tmp 0)⟩,
  ⟨some 10, none, .un .neg (.tmp 9)⟩,
  ⟨some 0, none, .mov (.tmp 10)⟩]) .skip))
 (.seq (.region [⟨some 11, none, .mov (.tmp 0)⟩,
  ⟨some 12, none, .bin .add (.const (.int .i64 65)) (.tmp 11)⟩,
  ⟨some 13, none, .conv .u8 (.tmp 12)⟩,
  ⟨some 14, none, .buildSlice 1 [(.int .u8 0)] [(0, 1, (.tmp 13))]⟩,
  ⟨some 15, none, .strOf (.tmp 14)⟩,
  ⟨some 16, none, .build [(.int .i64 0), (.str []), (.int .i64 0)] [(0, 1, (.const (.int .i64 1))), (1, 1, (.tmp 15))]⟩,
  ⟨none, none, .store 3 (.tmp 3) (.tmp 16)⟩])
 .ret))))⟩
theorem c21 : (XTab.of Try.prog).code 21 = some k21 := by kernel_rfl

/-! delphi/delphilaw9.CheckVars$2 -/

def k22 : AFun := ⟨16, [.tmp 4], (.seq (.region [⟨some 4, none, .mov (.const (.bool false))⟩])
 (.seq (.region [⟨some 5, none, .mov (.tmp 0)⟩,
  ⟨some 6, none, .load 1 false (.tmp 1)⟩,
  ⟨some 7, none, .bin .rem (.tmp 5) (.tmp 6)⟩,
  ⟨some 0, none, .mov (.tmp 7)⟩])
 (.seq (.seq (.region [⟨some 8, none, .mov (.tmp 0)⟩,
  ⟨some 9, none, .bin .lss (.tmp 8) (.const (.int .i64 0))⟩])
 (.cond (.tmp 9) (.region [⟨some 10, none, .mov (.tmp 0)⟩,
  ⟨some 11, none, .un .neg (.tmp 10)⟩,
  ⟨some 0, none, .mov (.tmp 11)⟩]) .skip))
 (.seq (.region [⟨some 12, none, .load 1 false (.tmp 2)⟩,
  ⟨some 13, none, .mov (.tmp 0)⟩,
  ⟨some 14, none, .indexAddr 1 (.tmp 12) (.tmp 13)⟩,
  ⟨some 15, none, .load 1 false (.tmp 14)⟩,
  ⟨some 4, none, .mov (.tmp 15)⟩])
 .ret))))⟩
theorem c22 : (XTab.of Try.prog).code 22 = some k22 := by kernel_rfl

/-! delphi/delphilaw7.begun -/

def k23 : AFun := ⟨35, [.tmp 0], (.seq (.region [⟨some 0, none, .mov (.const (.bool false))⟩])
 (.seq (.region [⟨some 4, none, .call (.const (.func (.func 25) [] [])) [(.const (.str [112, 40, 88, 41, 58, 45, 113, 46, 37, 101, 110, 100]))]⟩,
  ⟨some 3, none, .mov (.tmp 4)⟩,
  ⟨some 5, none, .extract 0 (.tmp 3)⟩,
  ⟨some 6, none, .extract 1 (.tmp 3)⟩,
  ⟨some 1, none, .mov (.tmp 5)⟩,
  ⟨some 2, none, .mov (.tmp 6)⟩])
 (.seq (.region [⟨some 7, none, .mov (.tmp 2)⟩,
  ⟨some 8, none, .bin .eql (.tmp 7) (.const (.int .i64 0))⟩,
  ⟨some 9, none, .mov (.tmp 8)⟩,
  ⟨some 10, (some (9, true)), .mov (.tmp 1)⟩,
  ⟨some 11, (some (9, true)), .lenSl (.tmp 10)⟩,
  ⟨some 12, (some (9, true)), .bin .eql (.tmp 11) (.const (.int .i64 7))⟩,
  ⟨some 13, none, .pick (.tmp 9) (.tmp 12) (.const (.bool false))⟩,
  ⟨some 14, none, .mov (.tmp 13)⟩,
  ⟨some 15, (some (14, true)), .mov (.tmp 1)⟩,
  ⟨some 16, (some (14, true)), .indexAddr 3 (.tmp 15) (.const (.int .i64 4))⟩,
  ⟨some 17, (some (14, true)), .fieldAddr 1 (.tmp 16)⟩,
  ⟨some 18, (some (14, true)), .load 1 false (.tmp 17)⟩,
  ⟨some 19, (some (14, true)), .bin .eql (.tmp 18) (.const (.str [58, 45]))⟩,
  ⟨some 20, none, .pick (.tmp 14) (.tmp 19) (.const (.bool false))⟩,
  ⟨some 21, none, .mov (.tmp 20)⟩,
  ⟨some 22, (some (21, true)), .mov (.tmp 1)⟩,
  ⟨some 23, (some (21, true)), .indexAddr 3 (.tmp 22) (.const (.int .i64 2))⟩,
  ⟨some 24, (some (21, true)), .fieldAddr 0 (.tmp 23)⟩,
  ⟨some 25, (some (21, true)), .load 1 false (.tmp 24)⟩,
  ⟨some 26, (some (21, true)), .bin .eql (.tmp 25) (.const (.int .i64 2))⟩,
  ⟨some 27, none, .pick (.tmp 21) (.tmp 26) (.const (.bool false))⟩,
  ⟨some 28, none, .mov (.tmp 27)⟩,
  ⟨some 29, (some (28, true)), .mov (.tmp 1)⟩,
  ⟨some 30, (some (28, true)), .indexAddr 3 (.tmp 29) (.const (.int .i64 6))⟩,
  ⟨some 31, (some (28, true)), .fieldAddr 2 (.tmp 30)⟩,
  ⟨some 32, (some (28, true)), .load 1 false (.tmp 31)⟩,
  ⟨some 33, (some (28, true)), .bin .eql (.tmp 32) (.const (.int .i64 7))⟩,
  ⟨some 34, none, .pick (.tmp 28) (.tmp 33) (.const (.bool false))⟩,
  ⟨some 0, none, .mov (.tmp 34)⟩])
 .ret)))⟩
theorem c23 : (XTab.of Try.prog).code 23 = some k23 := by kernel_rfl

/-! delphi/delphilaw1.Cut -/

def k24 : AFun := ⟨13, [.tmp 4], (.seq (.region [⟨some 4, none, .mov (.const (.str []))⟩])
 (.seq (.seq (.region [⟨some 5, none, .mov (.tmp 0)⟩,
  ⟨some 6, none, .lenStr (.tmp 5)⟩,
  ⟨some 7, none, .mov (.tmp 1)⟩,
  ⟨some 8, none, .bin .gtr (.tmp 6) (.tmp 7)⟩])
 (.cond (.tmp 8) (.seq (.region [⟨some 9, none, .mov (.tmp 0)⟩,
  ⟨some 10, none, .mov (.tmp 1)⟩,
  ⟨some 11, none, .sliceStr (.tmp 9) none (some (.tmp 10))⟩,
  ⟨some 4, none, .mov (.tmp 11)⟩])
 .ret) .skip))
 (.seq (.region [⟨some 12, none, .mov (.tmp 0)⟩,
  ⟨some 4, none, .mov (.tmp 12)⟩])
 .ret)))⟩
theorem c24 : (XTab.of Try.prog).code 24 = some k24 := by kernel_rfl

/-! delphi/lex.Scan -/

def k25 : AFun := ⟨17, [.tmp 2, .tmp 3], (.seq (.region [⟨some 2, none, .mov (.const .nilslice)⟩,
  ⟨some 3, none, .mov (.const (.int .i64 0))⟩])
 (.seq (.seq (.region [⟨some 6, none, .mov (.tmp 0)⟩,
  ⟨some 7, none, .lenStr (.tmp 6)⟩,
  ⟨some 8, none, .bin .gtr (.tmp 7) (.const (.int .i64 4000))⟩])
 (.cond (.tmp 8) (.seq (.region [⟨some 2, none, .mov (.const .nilslice)⟩,
  ⟨some 3, none, .mov (.const (.int .i64 8))⟩])
 .ret) .skip))
 (.seq (.region [⟨some 10, none, .mov (.tmp 0)⟩,
  ⟨some 11, none, .call (.const (.func (.func 47) [] [])) [(.tmp 10)]⟩,
  ⟨some 9, none, .mov (.tmp 11)⟩,
  ⟨some 12, none, .extract 0 (.tmp 9)⟩,
  ⟨some 13, none, .extract 1 (.tmp 9)⟩,
  ⟨some 4, none, .mov (.tmp 12)⟩,
  ⟨some 5, none, .mov (.tmp 13)⟩])
 (.seq (.seq (.region [⟨some 14, none, .mov (.tmp 5)⟩,
  ⟨some 15, none, .un .not (.tmp 14)⟩])
 (.cond (.tmp 15) (.seq (.region [⟨some 2, none, .mov (.const .nilslice)⟩,
  ⟨some 3, none, .mov (.const (.int .i64 4))⟩])
 .ret) .skip))
 (.seq (.region [⟨some 16, none, .mov (.tmp 4)⟩,
  ⟨some 2, none, .mov (.tmp 16)⟩,
  ⟨some 3, none, .mov (.const (.int .i64 0))⟩])
 .ret)))))⟩
theorem c25 : (XTab.of Try.prog).code 25 = some k25 := by kernel_rfl

/-! delphi/delphiref8.Scan -/
def k26_0 : ACode := (.seq (.seq (.region [⟨some 72, none, .mov (.tmp 5)⟩,
  ⟨some 73, none, .mov (.tmp 0)⟩,
  ⟨some 74, none, .lenStr (.tmp 73)⟩,
  ⟨some 75, none, .bin .lss (.tmp 72) (.tmp 74)⟩,
  ⟨some 76, none, .mov (.tmp 75)⟩,
  ⟨some 77, (some (76, true)), .mov (.tmp 0)⟩,
  ⟨some 78, (some (76, true)), .mov (.tmp 5)⟩,
  ⟨some 79, (some (76, true)), .indexStr (.tmp 77) (.tmp 78)⟩,
  ⟨some 80, (some (76, true)), .bin .neq (.tmp 79) (.const (.int .u8 10))⟩,
  ⟨some 81, none, .pick (.tmp 76) (.tmp 80) (.const (.bool false))⟩])
 (.cond (.tmp 81) .skip (.exit 3)))
 (.block 4 (.region [⟨some 82, none, .mov (.tmp 5)⟩,
  ⟨some 83, none, .bin .add (.tmp 82) (.const (.int .i64 1))⟩,
  ⟨some 5, none, .mov (.tmp 83)⟩])))
def k26_1 : ACode := (.seq (.region [⟨some 20, none, .mov (.tmp 0)⟩,
  ⟨some 21, none, .mov (.tmp 5)⟩,
  ⟨some 22, none, .sliceStr (.tmp 20) (some (.tmp 21)) none⟩,
  ⟨some 23, none, .call (.const (.func (.func 48) [] [])) [(.tmp 22)]⟩,
  ⟨some 19, none, .mov (.tmp 23)⟩,
  ⟨some 24, none, .extract 0 (.tmp 19)⟩,
  ⟨some 25, none, .extract 1 (.tmp 19)⟩,
  ⟨some 7, none, .mov (.tmp 24)⟩,
  ⟨some 8, none, .mov (.tmp 25)⟩])
 (.seq (.seq (.region [⟨some 26, none, .mov (.tmp 7)⟩,
  ⟨some 27, none, .bin .eql (.tmp 26) (.const (.int .i64 0))⟩,
  ⟨some 28, none, .mov (.tmp 27)⟩,
  ⟨some 29, (some (28, false)), .mov (.tmp 8)⟩,
  ⟨some 30, (some (28, false)), .bin .lss (.tmp 29) (.const (.int .i64 4))⟩,
  ⟨some 31, (some (28, false)), .mov (.tmp 30)⟩,
  ⟨some 32, (some (31, true)), .mov (.tmp 7)⟩,
  ⟨some 33, (some (31, true)), .bin .gtr (.tmp 32) (.const (.int .i64 16))⟩,
  ⟨some 34, (some (28, false)), .pick (.tmp 31) (.tmp 33) (.const (.bool false))⟩,
  ⟨some 35, none, .pick (.tmp 28) (.const (.bool true)) (.tmp 34)⟩])
 (.cond (.tmp 35) (.seq (.region [⟨some 36, none, .mov (.tmp 4)⟩,
  ⟨some 2, none, .mov (.tmp 36)⟩,
  ⟨some 3, none, .mov (.const (.int .i64 4))⟩])
 .ret) .skip))
 (.seq (.region [⟨some 37, none, .mov (.tmp 4)⟩,
  ⟨some 38, none, .mov (.tmp 8)⟩,
  ⟨some 39, none, .mov (.tmp 0)⟩,
  ⟨some 40, none, .mov (.tmp 5)⟩,
  ⟨some 41, none, .mov (.tmp 5)⟩,
  ⟨some 42, none, .mov (.tmp 7)⟩,
  ⟨some 43, none, .bin .add (.tmp 41) (.tmp 42)⟩,
  ⟨some 44, none, .sliceStr (.tmp 39) (some (.tmp 40)) (some (.tmp 43))⟩,
  ⟨some 45, none, .mov (.tmp 5)⟩,
  ⟨some 46, none, .build [(.int .i64 0), (.str []), (.int .i64 0)] [(0, 1, (.tmp 38)), (1, 1, (.tmp 44)), (2, 1, (.tmp 45))]⟩,
  ⟨some 47, none, .buildSlice 1 [(.int .i64 0), (.str []), (.int .i64 0)] [(0, 3, (.tmp 46))]⟩,
  ⟨some 48, none, .append 3 32 (.tmp 37) (.tmp 47)⟩,
  ⟨some 4, none, .mov (.tmp 48)⟩])
 (.region [⟨some 49, none, .mov (.tmp 5)⟩,
  ⟨some 50, none, .mov (.tmp 7)⟩,
  ⟨some 51, none, .bin .add (.tmp 49) (.tmp 50)⟩,
  ⟨some 5, none, .mov (.tmp 51)⟩]))))
def k26_2 : ACode := (.seq (.region [⟨some 53, none, .mov (.tmp 6)⟩,
  ⟨some 54, none, .bin .eql (.tmp 53) (.const (.int .u8 32))⟩,
  ⟨some 55, none, .mov (.tmp 54)⟩,
  ⟨some 56, (some (55, false)), .mov (.tmp 6)⟩,
  ⟨some 57, (some (55, false)), .bin .eql (.tmp 56) (.const (.int .u8 9))⟩,
  ⟨some 58, none, .pick (.tmp 55) (.const (.bool true)) (.tmp 57)⟩,
  ⟨some 59, none, .mov (.tmp 58)⟩,
  ⟨some 60, (some (59, false)), .mov (.tmp 6)⟩,
  ⟨some 61, (some (59, false)), .bin .eql (.tmp 60) (.const (.int .u8 10))⟩,
  ⟨some 62, none, .pick (.tmp 59) (.const (.bool true)) (.tmp 61)⟩,
  ⟨some 63, none, .mov (.tmp 62)⟩,
  ⟨some 64, (some (63, false)), .mov (.tmp 6)⟩,
  ⟨some 65, (some (63, false)), .bin .eql (.tmp 64) (.const (.int .u8 13))⟩,
  ⟨some 66, none, .pick (.tmp 63) (.const (.bool true)) (.tmp 65)⟩,
  ⟨some 52, none, .mov (.tmp 66)⟩])
 (.cond (.tmp 52) (.region [⟨some 67, none, .mov (.tmp 5)⟩,
  ⟨some 68, none, .bin .add (.tmp 67) (.const (.int .i64 1))⟩,
  ⟨some 5, none, .mov (.tmp 68)⟩]) (.seq (.region [⟨some 70, none, .mov (.tmp 6)⟩,
  ⟨some 71, none, .bin .eql (.tmp 70) (.const (.int .u8 37))⟩,
  ⟨some 69, none, .mov (.tmp 71)⟩])
 (.cond (.tmp 69) (.block 3 (.loop k26_0)) k26_1))))
def k26_3 : ACode := (.seq (.seq (.region [⟨some 12, none, .mov (.tmp 5)⟩,
  ⟨some 13, none, .mov (.tmp 0)⟩,
  ⟨some 14, none, .lenStr (.tmp 13)⟩,
  ⟨some 15, none, .bin .lss (.tmp 12) (.tmp 14)⟩])
 (.cond (.tmp 15) .skip (.exit 0)))
 (.block 1 (.seq (.region [⟨some 16, none, .mov (.tmp 0)⟩,
  ⟨some 17, none, .mov (.tmp 5)⟩,
  ⟨some 18, none, .indexStr (.tmp 16) (.tmp 17)⟩,
  ⟨some 6, none, .mov (.tmp 18)⟩])
 (.block 2 k26_2))))
def k26 : AFun := ⟨85, [.tmp 2, .tmp 3], (.seq (.region [⟨some 2, none, .mov (.const .nilslice)⟩,
  ⟨some 3, none, .mov (.const (.int .i64 0))⟩])
 (.seq (.seq (.region [⟨some 9, none, .mov (.tmp 0)⟩,
  ⟨some 10, none, .lenStr (.tmp 9)⟩,
  ⟨some 11, none, .bin .gtr (.tmp 10) (.const (.int .i64 4000))⟩])
 (.cond (.tmp 11) (.seq (.region [⟨some 2, none, .mov (.const .nilslice)⟩,
  ⟨some 3, none, .mov (.const (.int .i64 8))⟩])
 .ret) .skip))
 (.seq (.region [⟨some 4, none, .mov (.const .nilslice)⟩])
 (.seq (.seq (.region [⟨some 5, none, .mov (.const (.int .i64 0))⟩])
 (.block 0 (.loop k26_3)))
 (.seq (.region [⟨some 84, none, .mov (.tmp 4)⟩,
  ⟨some 2, none, .mov (.tmp 84)⟩,
  ⟨some 3, none, .mov (.const (.int .i64 0))⟩])
 .ret)))))⟩
theorem c26 : (XTab.of Try.prog).code 26 = some k26 := by kernel_rfl

/-! delphi/delphilaw12.begun -/

def k27 : AFun := ⟨53, [.tmp 0], (.seq (.region [⟨some 0, none, .mov (.const (.bool false))⟩])
 (.seq (.region [⟨some 4, none, .call (.const (.func (.func 14) [] [])) [(.const (.str [112, 40, 88, 41, 32, 58, 45, 32, 88, 32, 60, 32, 89, 44, 32, 113, 40, 88, 41, 44, 32, 114, 40, 88, 44, 32, 89, 41, 46]))]⟩,
  ⟨some 1, none, .mov (.tmp 4)⟩])
 (.seq (.region [⟨some 6, none, .mov (.tmp 1)⟩,
  ⟨some 7, none, .indexAddr 4 (.tmp 6) (.const (.int .i64 0))⟩,
  ⟨some 8, none, .load 4 true (.tmp 7)⟩,
  ⟨some 9, none, .call (.const (.func (.func 28) [] [])) [(.tmp 8), (.const (.int .i64 (-1)))]⟩,
  ⟨some 5, none, .mov (.tmp 9)⟩,
  ⟨some 10, none, .extract 0 (.tmp 5)⟩,
  ⟨some 11, none, .extract 1 (.tmp 5)⟩,
  ⟨some 2, none, .alloc [.nilslice, .nilslice]⟩,
  ⟨none, none, .store 2 (.tmp 2) (.tmp 10)⟩,
  ⟨some 3, none, .mov (.tmp 11)⟩])
 (.seq (.region [⟨some 12, none, .mov (.tmp 3)⟩,
  ⟨some 13, none, .mov (.tmp 12)⟩,
  ⟨some 14, (some (13, true)), .fieldAddr 0 (.tmp 2)⟩,
  ⟨some 15, (some (13, true)), .load 1 false (.tmp 14)⟩,
  ⟨some 16, (some (13, true)), .lenSl (.tmp 15)⟩,
  ⟨some 17, (some (13, true)), .bin .eql (.tmp 16) (.const (.int .i64 3))⟩,
  ⟨some 18, none, .pick (.tmp 13) (.tmp 17) (.const (.bool false))⟩,
  ⟨some 19, none, .mov (.tmp 18)⟩,
  ⟨some 20, (some (19, true)), .fieldAddr 0 (.tmp 2)⟩,
  ⟨some 21, (some (19, true)), .load 1 false (.tmp 20)⟩,
  ⟨some 22, (some (19, true)), .indexAddr 1 (.tmp 21) (.const (.int .i64 0))⟩,
  ⟨some 23, (some (19, true)), .load 1 false (.tmp 22)⟩,
  ⟨some 24, (some (19, true)), .bin .eql (.tmp 23) (.const (.int .i64 1))⟩,
  ⟨some 25, none, .pick (.tmp 19) (.tmp 24) (.const (.bool false))⟩,
  ⟨some 26, none, .mov (.tmp 25)⟩,
  ⟨some 27, (some (26, true)), .fieldAddr 0 (.tmp 2)⟩,
  ⟨some 28, (some (26, true)), .load 1 false (.tmp 27)⟩,
  ⟨some 29, (some (26, true)), .indexAddr 1 (.tmp 28) (.const (.int .i64 1))⟩,
  ⟨some 30, (some (26, true)), .load 1 false (.tmp 29)⟩,
  ⟨some 31, (some (26, true)), .bin .eql (.tmp 30) (.const (.int .i64 2))⟩,
  ⟨some 32, none, .pick (.tmp 26) (.tmp 31) (.const (.bool false))⟩,
  ⟨some 33, none, .mov (.tmp 32)⟩,
  ⟨some 34, (some (33, true)), .fieldAddr 0 (.tmp 2)⟩,
  ⟨some 35, (some (33, true)), .load 1 false (.tmp 34)⟩,
  ⟨some 36, (some (33, true)), .indexAddr 1 (.tmp 35) (.const (.int .i64 2))⟩,
  ⟨some 37, (some (33, true)), .load 1 false (.tmp 36)⟩,
  ⟨some 38, (some (33, true)), .bin .eql (.tmp 37) (.const (.int .i64 0))⟩,
  ⟨some 39, none, .pick (.tmp 33) (.tmp 38) (.const (.bool false))⟩,
  ⟨some 40, none, .mov (.tmp 39)⟩,
  ⟨some 41, (some (40, true)), .fieldAddr 1 (.tmp 2)⟩,
  ⟨some 42, (some (40, true)), .load 1 false (.tmp 41)⟩,
  ⟨some 43, (some (40, true)), .lenSl (.tmp 42)⟩,
  ⟨some 44, (some (40, true)), .bin .eql (.tmp 43) (.const (.int .i64 2))⟩,
  ⟨some 45, none, .pick (.tmp 40) (.tmp 44) (.const (.bool false))⟩,
  ⟨some 46, none, .mov (.tmp 45)⟩,
  ⟨some 47, (some (46, true)), .fieldAddr 1 (.tmp 2)⟩,
  ⟨some 48, (some (46, true)), .load 1 false (.tmp 47)⟩,
  ⟨some 49, (some (46, true)), .indexAddr 1 (.tmp 48) (.const (.int .i64 1))⟩,
  ⟨some 50, (some (46, true)), .load 1 false (.tmp 49)⟩,
  ⟨some 51, (some (46, true)), .bin .eql (.tmp 50) (.const (.str [89]))⟩,
  ⟨some 52, none, .pick (.tmp 46) (.tmp 51) (.const (.bool false))⟩,
  ⟨some 0, none, .mov (.tmp 52)⟩])
 .ret))))⟩
theorem c27 : (XTab.of Try.prog).code 27 = some k27 := by kernel_rfl

end Go.Proofs.Ytjidefnbancmfaa
