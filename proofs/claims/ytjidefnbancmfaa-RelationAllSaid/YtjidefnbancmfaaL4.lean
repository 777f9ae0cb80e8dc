/- A part of the proof. -/
import Derived.Test.YtjidefnbancmfaaRows
import Derived.Test.YtjidefnbancmfaaAgC
set_option maxRecDepth 100000
namespace Go.Proofs.Ytjidefnbancmfaa
open Go.AE
/-! delphi/delphiref8.word -/
def k48_0 : ACode := (.seq (.seq (.region [⟨some 11, none, .mov (.tmp 4)⟩,
  ⟨some 12, none, .mov (.tmp 0)⟩,
  ⟨some 13, none, .lenStr (.tmp 12)⟩,
  ⟨some 14, none, .bin .lss (.tmp 11) (.tmp 13)⟩,
  ⟨some 15, none, .mov (.tmp 14)⟩,
  ⟨some 16, (some (15, true)), .mov (.tmp 0)⟩,
  ⟨some 17, (some (15, true)), .mov (.tmp 4)⟩,
  ⟨some 18, (some (15, true)), .indexStr (.tmp 16) (.tmp 17)⟩,
  ⟨some 19, (some (15, true)), .call (.const (.func (.func 65) [] [])) [(.tmp 18)]⟩,
  ⟨some 20, (some (15, true)), .mov (.tmp 19)⟩,
  ⟨some 21, (some (20, false)), .mov (.tmp 0)⟩,
  ⟨some 22, (some (20, false)), .mov (.tmp 4)⟩,
  ⟨some 23, (some (20, false)), .indexStr (.tmp 21) (.tmp 22)⟩,
  ⟨some 24, (some (20, false)), .call (.const (.func (.func 66) [] [])) [(.tmp 23)]⟩,
  ⟨some 25, (some (15, true)), .pick (.tmp 20) (.const (.bool true)) (.tmp 24)⟩,
  ⟨some 26, (some (15, true)), .mov (.tmp 25)⟩,
  ⟨some 27, (some (26, false)), .mov (.tmp 0)⟩,
  ⟨some 28, (some (26, false)), .mov (.tmp 4)⟩,
  ⟨some 29, (some (26, false)), .indexStr (.tmp 27) (.tmp 28)⟩,
  ⟨some 30, (some (26, false)), .bin .eql (.tmp 29) (.const (.int .u8 95))⟩,
  ⟨some 31, (some (15, true)), .pick (.tmp 26) (.const (.bool true)) (.tmp 30)⟩,
  ⟨some 32, none, .pick (.tmp 15) (.tmp 31) (.const (.bool false))⟩])
 (.cond (.tmp 32) .skip (.exit 1)))
 (.block 2 (.region [⟨some 33, none, .mov (.tmp 4)⟩,
  ⟨some 34, none, .bin .add (.tmp 33) (.const (.int .i64 1))⟩,
  ⟨some 4, none, .mov (.tmp 34)⟩])))
def k48_1 : ACode := (.seq (.seq (.region [⟨some 40, none, .mov (.tmp 4)⟩,
  ⟨some 41, none, .mov (.tmp 0)⟩,
  ⟨some 42, none, .lenStr (.tmp 41)⟩,
  ⟨some 43, none, .bin .lss (.tmp 40) (.tmp 42)⟩,
  ⟨some 44, none, .mov (.tmp 43)⟩,
  ⟨some 45, (some (44, true)), .mov (.tmp 0)⟩,
  ⟨some 46, (some (44, true)), .mov (.tmp 4)⟩,
  ⟨some 47, (some (44, true)), .indexStr (.tmp 45) (.tmp 46)⟩,
  ⟨some 48, (some (44, true)), .call (.const (.func (.func 65) [] [])) [(.tmp 47)]⟩,
  ⟨some 49, (some (44, true)), .mov (.tmp 48)⟩,
  ⟨some 50, (some (49, false)), .mov (.tmp 0)⟩,
  ⟨some 51, (some (49, false)), .mov (.tmp 4)⟩,
  ⟨some 52, (some (49, false)), .indexStr (.tmp 50) (.tmp 51)⟩,
  ⟨some 53, (some (49, false)), .call (.const (.func (.func 67) [] [])) [(.tmp 52)]⟩,
  ⟨some 54, (some (44, true)), .pick (.tmp 49) (.const (.bool true)) (.tmp 53)⟩,
  ⟨some 55, (some (44, true)), .mov (.tmp 54)⟩,
  ⟨some 56, (some (55, false)), .mov (.tmp 0)⟩,
  ⟨some 57, (some (55, false)), .mov (.tmp 4)⟩,
  ⟨some 58, (some (55, false)), .indexStr (.tmp 56) (.tmp 57)⟩,
  ⟨some 59, (some (55, false)), .call (.const (.func (.func 66) [] [])) [(.tmp 58)]⟩,
  ⟨some 60, (some (44, true)), .pick (.tmp 55) (.const (.bool true)) (.tmp 59)⟩,
  ⟨some 61, (some (44, true)), .mov (.tmp 60)⟩,
  ⟨some 62, (some (61, false)), .mov (.tmp 0)⟩,
  ⟨some 63, (some (61, false)), .mov (.tmp 4)⟩,
  ⟨some 64, (some (61, false)), .indexStr (.tmp 62) (.tmp 63)⟩,
  ⟨some 65, (some (61, false)), .bin .eql (.tmp 64) (.const (.int .u8 95))⟩,
  ⟨some 66, (some (44, true)), .pick (.tmp 61) (.const (.bool true)) (.tmp 65)⟩,
  ⟨some 67, none, .pick (.tmp 44) (.tmp 66) (.const (.bool false))⟩])
 (.cond (.tmp 67) .skip (.exit 3)))
 (.block 4 (.region [⟨some 68, none, .mov (.tmp 4)⟩,
  ⟨some 69, none, .bin .add (.tmp 68) (.const (.int .i64 1))⟩,
  ⟨some 4, none, .mov (.tmp 69)⟩])))
def k48_2 : ACode := (.seq (.seq (.region [⟨some 93, none, .mov (.tmp 0)⟩,
  ⟨some 94, none, .indexStr (.tmp 93) (.const (.int .i64 1))⟩,
  ⟨some 95, none, .bin .eql (.tmp 94) (.const (.int .u8 48))⟩])
 (.cond (.tmp 95) (.seq (.region [⟨some 2, none, .mov (.const (.int .i64 0))⟩,
  ⟨some 3, none, .mov (.const (.int .i64 0))⟩])
 .ret) .skip))
 (.region [⟨some 4, none, .mov (.const (.int .i64 2))⟩]))
def k48_3 : ACode := (.seq (.seq (.region [⟨some 99, none, .mov (.tmp 4)⟩,
  ⟨some 100, none, .mov (.tmp 0)⟩,
  ⟨some 101, none, .lenStr (.tmp 100)⟩,
  ⟨some 102, none, .bin .lss (.tmp 99) (.tmp 101)⟩,
  ⟨some 103, none, .mov (.tmp 102)⟩,
  ⟨some 104, (some (103, true)), .mov (.tmp 0)⟩,
  ⟨some 105, (some (103, true)), .mov (.tmp 4)⟩,
  ⟨some 106, (some (103, true)), .indexStr (.tmp 104) (.tmp 105)⟩,
  ⟨some 107, (some (103, true)), .call (.const (.func (.func 66) [] [])) [(.tmp 106)]⟩,
  ⟨some 108, none, .pick (.tmp 103) (.tmp 107) (.const (.bool false))⟩])
 (.cond (.tmp 108) .skip (.exit 5)))
 (.block 6 (.region [⟨some 109, none, .mov (.tmp 4)⟩,
  ⟨some 110, none, .bin .add (.tmp 109) (.const (.int .i64 1))⟩,
  ⟨some 4, none, .mov (.tmp 110)⟩])))
def k48_4 : ACode := (.seq (.seq (.region [⟨some 90, none, .mov (.tmp 0)⟩,
  ⟨some 91, none, .indexStr (.tmp 90) (.const (.int .i64 0))⟩,
  ⟨some 92, none, .bin .eql (.tmp 91) (.const (.int .u8 45))⟩])
 (.cond (.tmp 92) k48_2 .skip))
 (.seq (.seq (.region [⟨some 96, none, .mov (.tmp 0)⟩,
  ⟨some 97, none, .indexStr (.tmp 96) (.const (.int .i64 0))⟩,
  ⟨some 98, none, .bin .eql (.tmp 97) (.const (.int .u8 48))⟩])
 (.cond (.tmp 98) (.seq (.region [⟨some 2, none, .mov (.const (.int .i64 1))⟩,
  ⟨some 3, none, .mov (.const (.int .i64 3))⟩])
 .ret) .skip))
 (.seq (.block 5 (.loop k48_3))
 (.seq (.region [⟨some 111, none, .mov (.tmp 4)⟩,
  ⟨some 2, none, .mov (.tmp 111)⟩,
  ⟨some 3, none, .mov (.const (.int .i64 3))⟩])
 .ret))))
def k48_5 : ACode := (.seq (.region [⟨some 72, none, .mov (.tmp 0)⟩,
  ⟨some 73, none, .indexStr (.tmp 72) (.const (.int .i64 0))⟩,
  ⟨some 74, none, .call (.const (.func (.func 66) [] [])) [(.tmp 73)]⟩,
  ⟨some 75, none, .mov (.tmp 74)⟩,
  ⟨some 76, (some (75, false)), .mov (.tmp 0)⟩,
  ⟨some 77, (some (75, false)), .indexStr (.tmp 76) (.const (.int .i64 0))⟩,
  ⟨some 78, (some (75, false)), .bin .eql (.tmp 77) (.const (.int .u8 45))⟩,
  ⟨some 79, (some (75, false)), .mov (.tmp 78)⟩,
  ⟨some 80, (some (79, true)), .mov (.tmp 0)⟩,
  ⟨some 81, (some (79, true)), .lenStr (.tmp 80)⟩,
  ⟨some 82, (some (79, true)), .bin .gtr (.tmp 81) (.const (.int .i64 1))⟩,
  ⟨some 83, (some (75, false)), .pick (.tmp 79) (.tmp 82) (.const (.bool false))⟩,
  ⟨some 84, (some (75, false)), .mov (.tmp 83)⟩,
  ⟨some 85, (some (84, true)), .mov (.tmp 0)⟩,
  ⟨some 86, (some (84, true)), .indexStr (.tmp 85) (.const (.int .i64 1))⟩,
  ⟨some 87, (some (84, true)), .call (.const (.func (.func 66) [] [])) [(.tmp 86)]⟩,
  ⟨some 88, (some (75, false)), .pick (.tmp 84) (.tmp 87) (.const (.bool false))⟩,
  ⟨some 89, none, .pick (.tmp 75) (.const (.bool true)) (.tmp 88)⟩,
  ⟨some 71, none, .mov (.tmp 89)⟩])
 (.cond (.tmp 71) k48_4 .skip))
def k48_6 : ACode := (.seq (.region [⟨some 37, none, .mov (.tmp 0)⟩,
  ⟨some 38, none, .indexStr (.tmp 37) (.const (.int .i64 0))⟩,
  ⟨some 39, none, .call (.const (.func (.func 67) [] [])) [(.tmp 38)]⟩,
  ⟨some 36, none, .mov (.tmp 39)⟩])
 (.cond (.tmp 36) (.seq (.block 3 (.loop k48_1))
 (.seq (.region [⟨some 70, none, .mov (.tmp 4)⟩,
  ⟨some 2, none, .mov (.tmp 70)⟩,
  ⟨some 3, none, .mov (.const (.int .i64 2))⟩])
 .ret)) k48_5))
def k48_7 : ACode := (.seq (.region [⟨some 8, none, .mov (.tmp 0)⟩,
  ⟨some 9, none, .indexStr (.tmp 8) (.const (.int .i64 0))⟩,
  ⟨some 10, none, .call (.const (.func (.func 65) [] [])) [(.tmp 9)]⟩,
  ⟨some 7, none, .mov (.tmp 10)⟩])
 (.cond (.tmp 7) (.seq (.block 1 (.loop k48_0))
 (.seq (.region [⟨some 35, none, .mov (.tmp 4)⟩,
  ⟨some 2, none, .mov (.tmp 35)⟩,
  ⟨some 3, none, .mov (.const (.int .i64 1))⟩])
 .ret)) k48_6))
def k48_8 : ACode := (.seq (.drawn [⟨⟨some 117, none, .mov (.tmp 0)⟩, false, [], []⟩,
  ⟨⟨some 118, none, .lenStr (.tmp 117)⟩, false, [0], []⟩,
  ⟨⟨some 119, none, .bin .geq (.tmp 118) (.const (.int .i64 2))⟩, false, [0, 1], []⟩,
  ⟨⟨some 120, none, .mov (.tmp 119)⟩, false, [1, 0, 2], []⟩,
  ⟨⟨some 121, (some (120, true)), .mov (.tmp 0)⟩, false, [2, 0, 1, 3], [123, 124, 125, 126]⟩,
  ⟨⟨some 122, (some (120, true)), .sliceStr (.tmp 121) none (some (.const (.int .i64 2)))⟩, false, [4, 2, 0, 1, 3], [123, 124, 125, 126]⟩,
  ⟨⟨some 123, (some (120, true)), .mov (.tmp 5)⟩, false, [2, 0, 1, 3], [121, 122, 124]⟩,
  ⟨⟨some 124, (some (120, true)), .mov (.tmp 6)⟩, false, [2, 0, 1, 3], [121, 122, 123]⟩,
  ⟨⟨some 125, (some (120, true)), .indexAddr 1 (.tmp 123) (.tmp 124)⟩, false, [6, 7, 2, 0, 1, 3], [121, 122]⟩,
  ⟨⟨some 126, (some (120, true)), .load 1 false (.tmp 125)⟩, false, [7, 6, 8, 2, 0, 1, 3], [121, 122]⟩,
  ⟨⟨some 127, (some (120, true)), .bin .eql (.tmp 122) (.tmp 126)⟩, false, [4, 5, 8, 6, 7, 9, 2, 0, 1, 3], []⟩,
  ⟨⟨some 128, none, .pick (.tmp 120) (.tmp 127) (.const (.bool false))⟩, false, [3, 1, 0, 2, 9, 7, 6, 8, 5, 4, 10], []⟩])
 (.cond (.tmp 128) (.seq (.region [⟨some 2, none, .mov (.const (.int .i64 2))⟩,
  ⟨some 3, none, .mov (.const (.int .i64 4))⟩])
 .ret) .skip))
def k48_9 : ACode := (.seq (.seq (.region [⟨some 113, none, .mov (.tmp 6)⟩,
  ⟨some 114, none, .bin .lss (.tmp 113) (.const (.int .i64 3))⟩])
 (.cond (.tmp 114) .skip (.exit 7)))
 (.seq (.block 8 k48_8)
 (.region [⟨some 115, none, .mov (.tmp 6)⟩,
  ⟨some 116, none, .bin .add (.tmp 115) (.const (.int .i64 1))⟩,
  ⟨some 6, none, .mov (.tmp 116)⟩])))
def k48_10 : ACode := (.seq (.region [⟨some 137, none, .bin .eql (.tmp 130) (.const (.int .u8 61))⟩,
  ⟨some 131, none, .mov (.tmp 137)⟩])
 (.cond (.tmp 131) .skip (.region [⟨some 138, none, .bin .eql (.tmp 130) (.const (.int .u8 60))⟩,
  ⟨some 131, none, .mov (.tmp 138)⟩])))
def k48_11 : ACode := (.seq (.region [⟨some 135, none, .bin .eql (.tmp 130) (.const (.int .u8 46))⟩,
  ⟨some 131, none, .mov (.tmp 135)⟩])
 (.cond (.tmp 131) .skip (.seq (.region [⟨some 136, none, .bin .eql (.tmp 130) (.const (.int .u8 33))⟩,
  ⟨some 131, none, .mov (.tmp 136)⟩])
 (.cond (.tmp 131) .skip k48_10))))
def k48_12 : ACode := (.seq (.region [⟨some 133, none, .bin .eql (.tmp 130) (.const (.int .u8 41))⟩,
  ⟨some 131, none, .mov (.tmp 133)⟩])
 (.cond (.tmp 131) .skip (.seq (.region [⟨some 134, none, .bin .eql (.tmp 130) (.const (.int .u8 44))⟩,
  ⟨some 131, none, .mov (.tmp 134)⟩])
 (.cond (.tmp 131) .skip k48_11))))
def k48_13 : ACode := (.seq (.seq (.region [⟨some 132, none, .bin .eql (.tmp 130) (.const (.int .u8 40))⟩,
  ⟨some 131, none, .mov (.tmp 132)⟩])
 (.cond (.tmp 131) .skip k48_12))
 (.cond (.tmp 131) (.seq (.region [⟨some 2, none, .mov (.const (.int .i64 1))⟩,
  ⟨some 3, none, .mov (.const (.int .i64 4))⟩])
 .ret) .skip))
def k48 : AFun := ⟨139, [.tmp 2, .tmp 3], (.seq (.region [⟨some 2, none, .mov (.const (.int .i64 0))⟩,
  ⟨some 3, none, .mov (.const (.int .i64 0))⟩])
 (.seq (.region [⟨some 4, none, .mov (.const (.int .i64 1))⟩])
 (.seq (.block 0 k48_7)
 (.seq (.region [⟨some 112, none, .buildSlice 3 [(.str []), (.str []), (.str [])] [(0, 1, (.const (.str [58, 45]))), (1, 1, (.const (.str [33, 61]))), (2, 1, (.const (.str [60, 61])))]⟩,
  ⟨some 5, none, .mov (.tmp 112)⟩])
 (.seq (.seq (.region [⟨some 6, none, .mov (.const (.int .i64 0))⟩])
 (.block 7 (.loop k48_9)))
 (.seq (.seq (.region [⟨some 129, none, .mov (.tmp 0)⟩,
  ⟨some 130, none, .indexStr (.tmp 129) (.const (.int .i64 0))⟩])
 (.block 9 k48_13))
 (.seq (.region [⟨some 2, none, .mov (.const (.int .i64 0))⟩,
  ⟨some 3, none, .mov (.const (.int .i64 0))⟩])
 .ret)))))))⟩
theorem c48 : (XTab.of Try.prog).code 48 = some k48 := by kernel_rfl

/-! (*delphi/plan.work).take -/
def k49_0 : ACode := (.region [⟨some 60, none, .mov (.tmp 0)⟩,
  ⟨some 61, none, .mov (.tmp 0)⟩,
  ⟨some 62, none, .nilCheck (.tmp 61)⟩,
  ⟨some 63, none, .fieldAddr 3 (.tmp 62)⟩,
  ⟨some 64, none, .fieldAddr 1 (.tmp 63)⟩,
  ⟨some 65, none, .load 1 false (.tmp 64)⟩,
  ⟨some 66, none, .mov (.tmp 5)⟩,
  ⟨some 67, none, .buildSlice 1 [(.str [])] [(0, 1, (.tmp 66))]⟩,
  ⟨some 68, none, .append 1 16 (.tmp 65) (.tmp 67)⟩,
  ⟨some 69, none, .nilCheck (.tmp 60)⟩,
  ⟨some 70, none, .fieldAddr 3 (.tmp 69)⟩,
  ⟨some 71, none, .fieldAddr 1 (.tmp 70)⟩,
  ⟨none, none, .store 1 (.tmp 71) (.tmp 68)⟩])
def k49_1 : ACode := (.seq (.region [⟨some 44, none, .indexAddr 1 (.tmp 40) (.tmp 42)⟩,
  ⟨some 45, none, .load 1 false (.tmp 44)⟩,
  ⟨some 5, none, .mov (.tmp 45)⟩])
 (.seq (.region [⟨some 46, none, .mov (.tmp 0)⟩,
  ⟨some 47, none, .nilCheck (.tmp 46)⟩,
  ⟨some 48, none, .fieldAddr 1 (.tmp 47)⟩,
  ⟨some 49, none, .load 1 false (.tmp 48)⟩,
  ⟨some 50, none, .mov (.tmp 5)⟩,
  ⟨some 51, none, .lookup (.scalar .str) (.int .i64 0) false (.tmp 49) (.tmp 50)⟩,
  ⟨some 52, none, .bin .add (.tmp 51) (.const (.int .i64 1))⟩,
  ⟨none, none, .mapUpdate (.scalar .str) (.tmp 49) (.tmp 50) (.tmp 52)⟩])
 (.seq (.region [⟨some 53, none, .mov (.tmp 0)⟩,
  ⟨some 54, none, .nilCheck (.tmp 53)⟩,
  ⟨some 55, none, .fieldAddr 1 (.tmp 54)⟩,
  ⟨some 56, none, .load 1 false (.tmp 55)⟩,
  ⟨some 57, none, .mov (.tmp 5)⟩,
  ⟨some 58, none, .lookup (.scalar .str) (.int .i64 0) false (.tmp 56) (.tmp 57)⟩,
  ⟨some 59, none, .bin .eql (.tmp 58) (.const (.int .i64 1))⟩])
 (.cond (.tmp 59) k49_0 .skip))))
def k49_2 : ACode := (.seq (.region [⟨some 43, none, .bin .lss (.tmp 42) (.tmp 41)⟩])
 (.seq (.cond (.tmp 43) .skip (.exit 0))
 (.seq (.block 1 k49_1)
 (.region [⟨some 72, none, .bin .add (.tmp 42) (.const (.int .i64 1))⟩,
  ⟨some 42, none, .mov (.tmp 72)⟩]))))
def k49 : AFun := ⟨73, [], (.seq (.region [⟨some 6, none, .mov (.tmp 0)⟩,
  ⟨some 7, none, .nilCheck (.tmp 6)⟩,
  ⟨some 8, none, .fieldAddr 2 (.tmp 7)⟩,
  ⟨some 9, none, .load 1 false (.tmp 8)⟩,
  ⟨some 10, none, .mov (.tmp 1)⟩,
  ⟨none, none, .mapUpdate (.scalar .int) (.tmp 9) (.tmp 10) (.const (.int .i64 1))⟩])
 (.seq (.region [⟨some 11, none, .mov (.tmp 0)⟩,
  ⟨some 12, none, .mov (.tmp 0)⟩,
  ⟨some 13, none, .nilCheck (.tmp 12)⟩,
  ⟨some 14, none, .fieldAddr 3 (.tmp 13)⟩,
  ⟨some 15, none, .fieldAddr 0 (.tmp 14)⟩,
  ⟨some 16, none, .load 1 false (.tmp 15)⟩,
  ⟨some 17, none, .mov (.tmp 1)⟩,
  ⟨some 18, none, .buildSlice 1 [(.int .i64 0)] [(0, 1, (.tmp 17))]⟩,
  ⟨some 19, none, .append 1 8 (.tmp 16) (.tmp 18)⟩,
  ⟨some 20, none, .nilCheck (.tmp 11)⟩,
  ⟨some 21, none, .fieldAddr 3 (.tmp 20)⟩,
  ⟨some 22, none, .fieldAddr 0 (.tmp 21)⟩,
  ⟨none, none, .store 1 (.tmp 22) (.tmp 19)⟩])
 (.seq (.seq (.region [⟨some 23, none, .mov (.tmp 0)⟩,
  ⟨some 24, none, .nilCheck (.tmp 23)⟩,
  ⟨some 25, none, .fieldAddr 0 (.tmp 24)⟩,
  ⟨some 26, none, .load 1 false (.tmp 25)⟩,
  ⟨some 27, none, .mov (.tmp 1)⟩,
  ⟨some 28, none, .indexAddr 3 (.tmp 26) (.tmp 27)⟩,
  ⟨some 29, none, .fieldAddr 0 (.tmp 28)⟩,
  ⟨some 30, none, .load 1 false (.tmp 29)⟩,
  ⟨some 31, none, .bin .neq (.tmp 30) (.const (.int .i64 1))⟩])
 (.cond (.tmp 31) .ret .skip))
 (.seq (.region [⟨some 32, none, .mov (.tmp 0)⟩,
  ⟨some 33, none, .nilCheck (.tmp 32)⟩,
  ⟨some 34, none, .fieldAddr 0 (.tmp 33)⟩,
  ⟨some 35, none, .load 1 false (.tmp 34)⟩,
  ⟨some 36, none, .mov (.tmp 1)⟩,
  ⟨some 37, none, .indexAddr 3 (.tmp 35) (.tmp 36)⟩,
  ⟨some 38, none, .fieldAddr 2 (.tmp 37)⟩,
  ⟨some 39, none, .load 1 false (.tmp 38)⟩,
  ⟨some 40, none, .call (.const (.func (.func 43) [] [])) [(.tmp 39)]⟩,
  ⟨some 41, none, .lenSl (.tmp 40)⟩,
  ⟨some 42, none, .mov (.const (.int .i64 0))⟩])
 (.block 0 (.loop k49_2))))))⟩
theorem c49 : (XTab.of Try.prog).code 49 = some k49 := by kernel_rfl

/-! (*delphi/plan.work).best -/
def k50_0 : ACode := (.seq (.region [⟨some 19, none, .mov (.tmp 17)⟩,
  ⟨some 20, none, .indexAddr 3 (.tmp 15) (.tmp 17)⟩,
  ⟨some 21, none, .load 3 true (.tmp 20)⟩,
  ⟨some 5, none, .alloc [(.int .i64 0), (.str []), .nilslice]⟩,
  ⟨some 4, none, .mov (.tmp 19)⟩,
  ⟨none, none, .store 3 (.tmp 5) (.tmp 21)⟩])
 (.seq (.region [⟨some 22, none, .mov (.tmp 0)⟩,
  ⟨some 23, none, .load 3 true (.tmp 5)⟩,
  ⟨some 24, none, .call (.const (.func (.func 68) [] [])) [(.tmp 22), (.tmp 23)]⟩,
  ⟨some 6, none, .mov (.tmp 24)⟩])
 (.seq (.region [⟨some 25, none, .fieldAddr 0 (.tmp 5)⟩,
  ⟨some 26, none, .load 1 false (.tmp 25)⟩,
  ⟨some 27, none, .bin .eql (.tmp 26) (.const (.int .i64 1))⟩,
  ⟨some 7, none, .mov (.tmp 27)⟩])
 (.seq (.seq (.region [⟨some 28, none, .mov (.tmp 0)⟩,
  ⟨some 29, none, .nilCheck (.tmp 28)⟩,
  ⟨some 30, none, .fieldAddr 2 (.tmp 29)⟩,
  ⟨some 31, none, .load 1 false (.tmp 30)⟩,
  ⟨some 32, none, .mov (.tmp 4)⟩,
  ⟨some 33, none, .lookup (.scalar .int) (.int .i64 0) false (.tmp 31) (.tmp 32)⟩,
  ⟨some 34, none, .bin .gtr (.tmp 33) (.const (.int .i64 0))⟩,
  ⟨some 35, none, .mov (.tmp 34)⟩,
  ⟨some 36, (some (35, false)), .mov (.tmp 7)⟩,
  ⟨some 37, (some (35, false)), .un .not (.tmp 36)⟩,
  ⟨some 38, (some (35, false)), .mov (.tmp 37)⟩,
  ⟨some 39, (some (38, true)), .mov (.tmp 6)⟩,
  ⟨some 40, (some (38, true)), .fieldAddr 2 (.tmp 5)⟩,
  ⟨some 41, (some (38, true)), .load 1 false (.tmp 40)⟩,
  ⟨some 42, (some (38, true)), .lenSl (.tmp 41)⟩,
  ⟨some 43, (some (38, true)), .bin .lss (.tmp 39) (.tmp 42)⟩,
  ⟨some 44, (some (35, false)), .pick (.tmp 38) (.tmp 43) (.const (.bool false))⟩,
  ⟨some 45, none, .pick (.tmp 35) (.const (.bool true)) (.tmp 44)⟩])
 (.cond (.tmp 45) (.exit 1) .skip))
 (.seq (.seq (.region [⟨some 46, none, .mov (.tmp 7)⟩,
  ⟨some 47, none, .un .not (.tmp 46)⟩])
 (.cond (.tmp 47) (.region [⟨some 6, none, .mov (.const (.int .i64 0))⟩]) .skip))
 (.region [⟨some 48, none, .mov (.tmp 3)⟩,
  ⟨some 49, none, .mkIface 122 (.tmp 48)⟩,
  ⟨some 50, none, .mov (.tmp 4)⟩,
  ⟨some 51, none, .mov (.tmp 7)⟩,
  ⟨some 52, none, .mov (.tmp 6)⟩,
  ⟨some 53, none, .build [(.int .i64 0), (.bool false), (.int .i64 0)] [(0, 1, (.tmp 50)), (1, 1, (.tmp 51)), (2, 1, (.tmp 52))]⟩,
  ⟨some 54, none, .mkIface 128 (.tmp 53)⟩,
  ⟨some 55, none, .call (.const (.func (.func 69) [] [])) [(.tmp 49), (.tmp 54)]⟩]))))))
def k50_1 : ACode := (.seq (.region [⟨some 18, none, .bin .lss (.tmp 17) (.tmp 16)⟩])
 (.seq (.cond (.tmp 18) .skip (.exit 0))
 (.seq (.block 1 k50_0)
 (.region [⟨some 56, none, .bin .add (.tmp 17) (.const (.int .i64 1))⟩,
  ⟨some 17, none, .mov (.tmp 56)⟩]))))
def k50 : AFun := ⟨66, [.tmp 2], (.seq (.region [⟨some 2, none, .mov (.const (.int .i64 0))⟩])
 (.seq (.region [⟨some 10, none, .buildSlice 0 [] []⟩,
  ⟨some 11, none, .box (.tmp 10)⟩,
  ⟨some 3, none, .mov (.tmp 11)⟩])
 (.seq (.seq (.region [⟨some 12, none, .mov (.tmp 0)⟩,
  ⟨some 13, none, .nilCheck (.tmp 12)⟩,
  ⟨some 14, none, .fieldAddr 0 (.tmp 13)⟩,
  ⟨some 15, none, .load 1 false (.tmp 14)⟩,
  ⟨some 16, none, .lenSl (.tmp 15)⟩,
  ⟨some 17, none, .mov (.const (.int .i64 0))⟩])
 (.block 0 (.loop k50_1)))
 (.seq (.region [⟨some 58, none, .mov (.tmp 3)⟩,
  ⟨some 59, none, .mkIface 122 (.tmp 58)⟩,
  ⟨some 60, none, .call (.const (.func (.func 70) [] [])) [(.tmp 59)]⟩,
  ⟨some 61, none, .typeAssert 128 (.agg [(.int .i64 0), (.bool false), (.int .i64 0)]) true (.tmp 60)⟩,
  ⟨some 57, none, .mov (.tmp 61)⟩,
  ⟨some 62, none, .extract 0 (.tmp 57)⟩,
  ⟨some 63, none, .extract 1 (.tmp 57)⟩,
  ⟨some 8, none, .alloc [(.int .i64 0), (.bool false), (.int .i64 0)]⟩,
  ⟨none, none, .store 3 (.tmp 8) (.tmp 62)⟩,
  ⟨some 9, none, .mov (.tmp 63)⟩])
 (.seq (.region [⟨some 64, none, .fieldAddr 0 (.tmp 8)⟩,
  ⟨some 65, none, .load 1 false (.tmp 64)⟩,
  ⟨some 2, none, .mov (.tmp 65)⟩])
 .ret)))))⟩
theorem c50 : (XTab.of Try.prog).code 50 = some k50 := by kernel_rfl

/-! delphi/delphiref8.vars -/
def k51_0 : ACode := (.region [⟨some 37, none, .mov (.tmp 5)⟩,
  ⟨some 38, none, .fieldAddr 1 (.tmp 7)⟩,
  ⟨some 39, none, .load 1 false (.tmp 38)⟩,
  ⟨some 40, none, .buildSlice 1 [(.str [])] [(0, 1, (.tmp 39))]⟩,
  ⟨some 41, none, .append 1 16 (.tmp 37) (.tmp 40)⟩,
  ⟨some 5, none, .mov (.tmp 41)⟩])
def k51_1 : ACode := (.seq (.region [⟨some 15, none, .fieldAddr 2 (.tmp 2)⟩,
  ⟨some 16, none, .load 1 false (.tmp 15)⟩,
  ⟨some 17, none, .mov (.tmp 6)⟩,
  ⟨some 18, none, .indexAddr 3 (.tmp 16) (.tmp 17)⟩,
  ⟨some 19, none, .load 3 true (.tmp 18)⟩,
  ⟨some 7, none, .alloc [(.int .i64 0), (.str []), (.int .i64 0)]⟩,
  ⟨none, none, .store 3 (.tmp 7) (.tmp 19)⟩])
 (.seq (.region [⟨some 20, none, .fieldAddr 0 (.tmp 7)⟩,
  ⟨some 21, none, .load 1 false (.tmp 20)⟩,
  ⟨some 22, none, .bin .eql (.tmp 21) (.const (.int .i64 1))⟩,
  ⟨some 23, none, .mov (.tmp 22)⟩,
  ⟨some 24, (some (23, true)), .mov (.tmp 1)⟩,
  ⟨some 25, (some (23, true)), .fieldAddr 1 (.tmp 7)⟩,
  ⟨some 26, (some (23, true)), .load 1 false (.tmp 25)⟩,
  ⟨some 27, (some (23, true)), .call (.const (.func (.func 71) [] [])) [(.tmp 24), (.tmp 26)]⟩,
  ⟨some 28, (some (23, true)), .bin .lss (.tmp 27) (.const (.int .i64 0))⟩,
  ⟨some 29, none, .pick (.tmp 23) (.tmp 28) (.const (.bool false))⟩,
  ⟨some 30, none, .mov (.tmp 29)⟩,
  ⟨some 31, (some (30, true)), .mov (.tmp 5)⟩,
  ⟨some 32, (some (30, true)), .fieldAddr 1 (.tmp 7)⟩,
  ⟨some 33, (some (30, true)), .load 1 false (.tmp 32)⟩,
  ⟨some 34, (some (30, true)), .call (.const (.func (.func 71) [] [])) [(.tmp 31), (.tmp 33)]⟩,
  ⟨some 35, (some (30, true)), .bin .lss (.tmp 34) (.const (.int .i64 0))⟩,
  ⟨some 36, none, .pick (.tmp 30) (.tmp 35) (.const (.bool false))⟩])
 (.cond (.tmp 36) k51_0 .skip)))
def k51_2 : ACode := (.seq (.seq (.region [⟨some 8, none, .mov (.tmp 6)⟩,
  ⟨some 9, none, .fieldAddr 2 (.tmp 2)⟩,
  ⟨some 10, none, .load 1 false (.tmp 9)⟩,
  ⟨some 11, none, .lenSl (.tmp 10)⟩,
  ⟨some 12, none, .bin .lss (.tmp 8) (.tmp 11)⟩])
 (.cond (.tmp 12) .skip (.exit 0)))
 (.seq (.block 1 k51_1)
 (.region [⟨some 13, none, .mov (.tmp 6)⟩,
  ⟨some 14, none, .bin .add (.tmp 13) (.const (.int .i64 1))⟩,
  ⟨some 6, none, .mov (.tmp 14)⟩])))
def k51 : AFun := ⟨43, [.tmp 4], (.seq (.region [⟨some 2, none, .box (.tmp 0)⟩,
  ⟨some 4, none, .mov (.const .nilslice)⟩])
 (.seq (.region [⟨some 5, none, .mov (.const .nilslice)⟩])
 (.seq (.seq (.region [⟨some 6, none, .mov (.const (.int .i64 0))⟩])
 (.block 0 (.loop k51_2)))
 (.seq (.region [⟨some 42, none, .mov (.tmp 5)⟩,
  ⟨some 4, none, .mov (.tmp 42)⟩])
 .ret))))⟩
theorem c51 : (XTab.of Try.prog).code 51 = some k51 := by kernel_rfl

/-! delphi/delphiref8.bound -/
def k52_0 : ACode := (.seq (.region [⟨some 14, none, .fieldAddr 2 (.tmp 2)⟩,
  ⟨some 15, none, .load 1 false (.tmp 14)⟩,
  ⟨some 16, none, .mov (.tmp 6)⟩,
  ⟨some 17, none, .indexAddr 3 (.tmp 15) (.tmp 16)⟩,
  ⟨some 18, none, .fieldAddr 0 (.tmp 17)⟩,
  ⟨some 19, none, .load 1 false (.tmp 18)⟩,
  ⟨some 20, none, .bin .neq (.tmp 19) (.const (.int .i64 1))⟩,
  ⟨some 21, none, .mov (.tmp 20)⟩,
  ⟨some 22, (some (21, false)), .mov (.tmp 1)⟩,
  ⟨some 23, (some (21, false)), .fieldAddr 2 (.tmp 2)⟩,
  ⟨some 24, (some (21, false)), .load 1 false (.tmp 23)⟩,
  ⟨some 25, (some (21, false)), .mov (.tmp 6)⟩,
  ⟨some 26, (some (21, false)), .indexAddr 3 (.tmp 24) (.tmp 25)⟩,
  ⟨some 27, (some (21, false)), .fieldAddr 1 (.tmp 26)⟩,
  ⟨some 28, (some (21, false)), .load 1 false (.tmp 27)⟩,
  ⟨some 29, (some (21, false)), .call (.const (.func (.func 71) [] [])) [(.tmp 22), (.tmp 28)]⟩,
  ⟨some 30, (some (21, false)), .bin .geq (.tmp 29) (.const (.int .i64 0))⟩,
  ⟨some 31, none, .pick (.tmp 21) (.const (.bool true)) (.tmp 30)⟩])
 (.cond (.tmp 31) (.region [⟨some 32, none, .mov (.tmp 5)⟩,
  ⟨some 33, none, .bin .add (.tmp 32) (.const (.int .i64 1))⟩,
  ⟨some 5, none, .mov (.tmp 33)⟩]) .skip))
def k52_1 : ACode := (.seq (.seq (.region [⟨some 7, none, .mov (.tmp 6)⟩,
  ⟨some 8, none, .fieldAddr 2 (.tmp 2)⟩,
  ⟨some 9, none, .load 1 false (.tmp 8)⟩,
  ⟨some 10, none, .lenSl (.tmp 9)⟩,
  ⟨some 11, none, .bin .lss (.tmp 7) (.tmp 10)⟩])
 (.cond (.tmp 11) .skip (.exit 0)))
 (.seq (.block 1 k52_0)
 (.region [⟨some 12, none, .mov (.tmp 6)⟩,
  ⟨some 13, none, .bin .add (.tmp 12) (.const (.int .i64 1))⟩,
  ⟨some 6, none, .mov (.tmp 13)⟩])))
def k52 : AFun := ⟨35, [.tmp 4], (.seq (.region [⟨some 2, none, .box (.tmp 0)⟩,
  ⟨some 4, none, .mov (.const (.int .i64 0))⟩])
 (.seq (.region [⟨some 5, none, .mov (.const (.int .i64 0))⟩])
 (.seq (.seq (.region [⟨some 6, none, .mov (.const (.int .i64 0))⟩])
 (.block 0 (.loop k52_1)))
 (.seq (.region [⟨some 34, none, .mov (.tmp 5)⟩,
  ⟨some 4, none, .mov (.tmp 34)⟩])
 .ret))))⟩
theorem c52 : (XTab.of Try.prog).code 52 = some k52 := by kernel_rfl

/-! (*delphi/relation.Set).find -/

def k53 : AFun := ⟨25, [.tmp 4, .tmp 5], (.seq (.region [⟨some 4, none, .mov (.const (.int .i64 0))⟩,
  ⟨some 5, none, .mov (.const (.bool false))⟩])
 (.seq (.seq (.region [⟨some 6, none, .mov (.tmp 0)⟩,
  ⟨some 7, none, .eqv false .ptr (.tmp 6) (.const .nilptr)⟩,
  ⟨some 8, none, .mov (.tmp 7)⟩,
  ⟨some 9, (some (8, false)), .mov (.tmp 1)⟩,
  ⟨some 10, (some (8, false)), .lenSl (.tmp 9)⟩,
  ⟨some 11, (some (8, false)), .mov (.tmp 0)⟩,
  ⟨some 12, (some (8, false)), .nilCheck (.tmp 11)⟩,
  ⟨some 13, (some (8, false)), .fieldAddr 0 (.tmp 12)⟩,
  ⟨some 14, (some (8, false)), .load 1 false (.tmp 13)⟩,
  ⟨some 15, (some (8, false)), .bin .neq (.tmp 10) (.tmp 14)⟩,
  ⟨some 16, none, .pick (.tmp 8) (.const (.bool true)) (.tmp 15)⟩])
 (.cond (.tmp 16) (.seq (.region [⟨some 4, none, .mov (.const (.int .i64 (-1)))⟩,
  ⟨some 5, none, .mov (.const (.bool false))⟩])
 .ret) .skip))
 (.seq (.region [⟨some 17, none, .mov (.tmp 0)⟩,
  ⟨some 18, none, .nilCheck (.tmp 17)⟩,
  ⟨some 19, none, .fieldAddr 1 (.tmp 18)⟩,
  ⟨some 20, none, .load 1 false (.tmp 19)⟩,
  ⟨some 21, none, .mov (.tmp 1)⟩,
  ⟨some 22, none, .call (.const (.func (.func 72) [] [])) [(.tmp 20), (.tmp 21), (.const (.func (.func 73) [] []))]⟩,
  ⟨some 23, none, .extract 0 (.tmp 22)⟩,
  ⟨some 24, none, .extract 1 (.tmp 22)⟩,
  ⟨some 4, none, .mov (.tmp 23)⟩,
  ⟨some 5, none, .mov (.tmp 24)⟩])
 .ret)))⟩
theorem c53 : (XTab.of Try.prog).code 53 = some k53 := by kernel_rfl

/-! slices.Insert[[]delphi/relation.Row,delphi/relation.Row] -/
def k54_0 : ACode := (.seq (.region [⟨some 32, none, .mov (.tmp 0)⟩,
  ⟨some 33, none, .mov (.tmp 1)⟩,
  ⟨some 34, none, .slice 1 (.tmp 32) none (some (.tmp 33)) none⟩,
  ⟨some 35, none, .mov (.tmp 8)⟩,
  ⟨some 36, none, .mov (.tmp 7)⟩,
  ⟨some 37, none, .bin .add (.tmp 35) (.tmp 36)⟩,
  ⟨some 38, none, .mov (.tmp 1)⟩,
  ⟨some 39, none, .bin .sub (.tmp 37) (.tmp 38)⟩,
  ⟨some 40, none, .stuck⟩,
  ⟨some 9, none, .mov (.tmp 40)⟩])
 (.seq (.region [⟨some 41, none, .mov (.tmp 9)⟩,
  ⟨some 42, none, .mov (.tmp 1)⟩,
  ⟨some 43, none, .slice 1 (.tmp 41) (some (.tmp 42)) none none⟩,
  ⟨some 44, none, .mov (.tmp 2)⟩,
  ⟨some 45, none, .copy 1 (.tmp 43) (.tmp 44)⟩])
 (.seq (.drawn [⟨⟨some 46, none, .mov (.tmp 9)⟩, false, [], [47, 48, 49, 51, 52, 53]⟩,
  ⟨⟨some 47, none, .mov (.tmp 1)⟩, false, [], [46, 48, 51, 52, 53]⟩,
  ⟨⟨some 48, none, .mov (.tmp 7)⟩, false, [], [46, 47, 51, 52, 53]⟩,
  ⟨⟨some 49, none, .bin .add (.tmp 47) (.tmp 48)⟩, false, [1, 2], [46, 51, 52, 53]⟩,
  ⟨⟨some 50, none, .slice 1 (.tmp 46) (some (.tmp 49)) none none⟩, false, [0, 2, 1, 3], [51, 52, 53]⟩,
  ⟨⟨some 51, none, .mov (.tmp 0)⟩, false, [], [46, 47, 48, 49, 50, 52]⟩,
  ⟨⟨some 52, none, .mov (.tmp 1)⟩, false, [], [46, 47, 48, 49, 50, 51]⟩,
  ⟨⟨some 53, none, .slice 1 (.tmp 51) (some (.tmp 52)) none none⟩, false, [5, 6], [46, 47, 48, 49, 50]⟩,
  ⟨⟨some 54, none, .copy 1 (.tmp 50) (.tmp 53)⟩, true, [3, 1, 2, 0, 4, 6, 5, 7], []⟩])
 (.seq (.region [⟨some 55, none, .mov (.tmp 9)⟩,
  ⟨some 6, none, .mov (.tmp 55)⟩])
 .ret))))
def k54_1 : ACode := (.seq (.drawn [⟨⟨some 69, none, .mov (.tmp 0)⟩, false, [], [70, 71, 72, 74, 75, 76]⟩,
  ⟨⟨some 70, none, .mov (.tmp 1)⟩, false, [], [69, 71, 74, 75, 76]⟩,
  ⟨⟨some 71, none, .mov (.tmp 7)⟩, false, [], [69, 70, 74, 75, 76]⟩,
  ⟨⟨some 72, none, .bin .add (.tmp 70) (.tmp 71)⟩, false, [1, 2], [69, 74, 75, 76]⟩,
  ⟨⟨some 73, none, .slice 1 (.tmp 69) (some (.tmp 72)) none none⟩, false, [0, 2, 1, 3], [74, 75, 76]⟩,
  ⟨⟨some 74, none, .mov (.tmp 0)⟩, false, [], [69, 70, 71, 72, 73, 75]⟩,
  ⟨⟨some 75, none, .mov (.tmp 1)⟩, false, [], [69, 70, 71, 72, 73, 74]⟩,
  ⟨⟨some 76, none, .slice 1 (.tmp 74) (some (.tmp 75)) none none⟩, false, [5, 6], [69, 70, 71, 72, 73]⟩,
  ⟨⟨some 77, none, .copy 1 (.tmp 73) (.tmp 76)⟩, true, [3, 1, 2, 0, 4, 6, 5, 7], []⟩])
 (.seq (.region [⟨some 78, none, .mov (.tmp 0)⟩,
  ⟨some 79, none, .mov (.tmp 1)⟩,
  ⟨some 80, none, .slice 1 (.tmp 78) (some (.tmp 79)) none none⟩,
  ⟨some 81, none, .mov (.tmp 2)⟩,
  ⟨some 82, none, .copy 1 (.tmp 80) (.tmp 81)⟩])
 (.seq (.region [⟨some 83, none, .mov (.tmp 0)⟩,
  ⟨some 6, none, .mov (.tmp 83)⟩])
 .ret)))
def k54 : AFun := ⟨95, [.tmp 6], (.seq (.region [⟨some 6, none, .mov (.const .nilslice)⟩])
 (.seq (.region [⟨some 10, none, .mov (.tmp 0)⟩,
  ⟨some 11, none, .mov (.tmp 1)⟩,
  ⟨some 12, none, .slice 1 (.tmp 10) (some (.tmp 11)) none none⟩])
 (.seq (.region [⟨some 13, none, .mov (.tmp 2)⟩,
  ⟨some 14, none, .lenSl (.tmp 13)⟩,
  ⟨some 7, none, .mov (.tmp 14)⟩])
 (.seq (.seq (.region [⟨some 15, none, .mov (.tmp 7)⟩,
  ⟨some 16, none, .bin .eql (.tmp 15) (.const (.int .i64 0))⟩])
 (.cond (.tmp 16) (.seq (.region [⟨some 17, none, .mov (.tmp 0)⟩,
  ⟨some 6, none, .mov (.tmp 17)⟩])
 .ret) .skip))
 (.seq (.region [⟨some 18, none, .mov (.tmp 0)⟩,
  ⟨some 19, none, .lenSl (.tmp 18)⟩,
  ⟨some 8, none, .mov (.tmp 19)⟩])
 (.seq (.seq (.region [⟨some 20, none, .mov (.tmp 1)⟩,
  ⟨some 21, none, .mov (.tmp 8)⟩,
  ⟨some 22, none, .bin .eql (.tmp 20) (.tmp 21)⟩])
 (.cond (.tmp 22) (.seq (.region [⟨some 23, none, .mov (.tmp 0)⟩,
  ⟨some 24, none, .mov (.tmp 2)⟩,
  ⟨some 25, none, .append 1 24 (.tmp 23) (.tmp 24)⟩,
  ⟨some 6, none, .mov (.tmp 25)⟩])
 .ret) .skip))
 (.seq (.seq (.region [⟨some 26, none, .mov (.tmp 8)⟩,
  ⟨some 27, none, .mov (.tmp 7)⟩,
  ⟨some 28, none, .bin .add (.tmp 26) (.tmp 27)⟩,
  ⟨some 29, none, .mov (.tmp 0)⟩,
  ⟨some 30, none, .cap (.tmp 29)⟩,
  ⟨some 31, none, .bin .gtr (.tmp 28) (.tmp 30)⟩])
 (.cond (.tmp 31) k54_0 .skip))
 (.seq (.region [⟨some 56, none, .mov (.tmp 0)⟩,
  ⟨some 57, none, .mov (.tmp 8)⟩,
  ⟨some 58, none, .mov (.tmp 7)⟩,
  ⟨some 59, none, .bin .add (.tmp 57) (.tmp 58)⟩,
  ⟨some 60, none, .slice 1 (.tmp 56) none (some (.tmp 59)) none⟩,
  ⟨some 0, none, .mov (.tmp 60)⟩])
 (.seq (.seq (.region [⟨some 61, none, .mov (.tmp 2)⟩,
  ⟨some 62, none, .mov (.tmp 0)⟩,
  ⟨some 63, none, .mov (.tmp 1)⟩,
  ⟨some 64, none, .mov (.tmp 7)⟩,
  ⟨some 65, none, .bin .add (.tmp 63) (.tmp 64)⟩,
  ⟨some 66, none, .slice 1 (.tmp 62) (some (.tmp 65)) none none⟩,
  ⟨some 67, none, .call (.const (.func (.func 75) [] [])) [(.tmp 61), (.tmp 66)]⟩,
  ⟨some 68, none, .un .not (.tmp 67)⟩])
 (.cond (.tmp 68) k54_1 .skip))
 (.seq (.region [⟨some 84, none, .mov (.tmp 0)⟩,
  ⟨some 85, none, .mov (.tmp 8)⟩,
  ⟨some 86, none, .slice 1 (.tmp 84) (some (.tmp 85)) none none⟩,
  ⟨some 87, none, .mov (.tmp 2)⟩,
  ⟨some 88, none, .copy 1 (.tmp 86) (.tmp 87)⟩])
 (.seq (.region [⟨some 89, none, .mov (.tmp 0)⟩,
  ⟨some 90, none, .mov (.tmp 1)⟩,
  ⟨some 91, none, .slice 1 (.tmp 89) (some (.tmp 90)) none none⟩,
  ⟨some 92, none, .mov (.tmp 7)⟩,
  ⟨some 93, none, .call (.const (.func (.func 76) [] [])) [(.tmp 91), (.tmp 92)]⟩])
 (.seq (.region [⟨some 94, none, .mov (.tmp 0)⟩,
  ⟨some 6, none, .mov (.tmp 94)⟩])
 .ret))))))))))))⟩
theorem c54 : (XTab.of Try.prog).code 54 = some k54 := by kernel_rfl

/-! slices.Clone[delphi/relation.Row,int] -/

def k55 : AFun := ⟨8, [.tmp 2], (.seq (.region [⟨some 2, none, .mov (.const .nilslice)⟩])
 (.seq (.seq (.region [⟨some 3, none, .mov (.tmp 0)⟩,
  ⟨some 4, none, .eqv false .slice (.tmp 3) (.const .nilslice)⟩])
 (.cond (.tmp 4) (.seq (.region [⟨some 2, none, .mov (.const .nilslice)⟩])
 .ret) .skip))
 (.seq (.region [⟨some 5, none, .buildSlice 0 [] []⟩,
  ⟨some 6, none, .mov (.tmp 0)⟩,
  ⟨some 7, none, .append 1 8 (.tmp 5) (.tmp 6)⟩,
  ⟨some 2, none, .mov (.tmp 7)⟩])
 .ret)))⟩
theorem c55 : (XTab.of Try.prog).code 55 = some k55 := by kernel_rfl

/-! slices.Delete[[]delphi/relation.Row,delphi/relation.Row] -/

def k56 : AFun := ⟨33, [.tmp 6], (.seq (.region [⟨some 6, none, .mov (.const .nilslice)⟩])
 (.seq (.region [⟨some 8, none, .mov (.tmp 0)⟩,
  ⟨some 9, none, .mov (.tmp 1)⟩,
  ⟨some 10, none, .mov (.tmp 2)⟩,
  ⟨some 11, none, .mov (.tmp 0)⟩,
  ⟨some 12, none, .lenSl (.tmp 11)⟩,
  ⟨some 13, none, .slice 1 (.tmp 8) (some (.tmp 9)) (some (.tmp 10)) (some (.tmp 12))⟩])
 (.seq (.seq (.region [⟨some 14, none, .mov (.tmp 1)⟩,
  ⟨some 15, none, .mov (.tmp 2)⟩,
  ⟨some 16, none, .bin .eql (.tmp 14) (.tmp 15)⟩])
 (.cond (.tmp 16) (.seq (.region [⟨some 17, none, .mov (.tmp 0)⟩,
  ⟨some 6, none, .mov (.tmp 17)⟩])
 .ret) .skip))
 (.seq (.region [⟨some 18, none, .mov (.tmp 0)⟩,
  ⟨some 19, none, .lenSl (.tmp 18)⟩,
  ⟨some 7, none, .mov (.tmp 19)⟩])
 (.seq (.drawn [⟨⟨some 20, none, .mov (.tmp 0)⟩, false, [], [21, 23, 24, 25]⟩,
  ⟨⟨some 21, none, .mov (.tmp 1)⟩, false, [], [20, 23, 24, 25]⟩,
  ⟨⟨some 22, none, .slice 1 (.tmp 20) none (some (.tmp 21)) none⟩, false, [0, 1], [23, 24, 25]⟩,
  ⟨⟨some 23, none, .mov (.tmp 0)⟩, false, [], [20, 21, 22, 24]⟩,
  ⟨⟨some 24, none, .mov (.tmp 2)⟩, false, [], [20, 21, 22, 23]⟩,
  ⟨⟨some 25, none, .slice 1 (.tmp 23) (some (.tmp 24)) none none⟩, false, [3, 4], [20, 21, 22]⟩,
  ⟨⟨some 26, none, .append 1 24 (.tmp 22) (.tmp 25)⟩, true, [1, 0, 2, 4, 3, 5], []⟩,
  ⟨⟨some 0, none, .mov (.tmp 26)⟩, false, [5, 3, 4, 2, 0, 1, 6], []⟩])
 (.seq (.region [⟨some 27, none, .mov (.tmp 0)⟩,
  ⟨some 28, none, .mov (.tmp 0)⟩,
  ⟨some 29, none, .lenSl (.tmp 28)⟩,
  ⟨some 30, none, .mov (.tmp 7)⟩,
  ⟨some 31, none, .slice 1 (.tmp 27) (some (.tmp 29)) (some (.tmp 30)) none⟩,
  ⟨none, none, .clear [.nilslice] (.tmp 31)⟩])
 (.seq (.region [⟨some 32, none, .mov (.tmp 0)⟩,
  ⟨some 6, none, .mov (.tmp 32)⟩])
 .ret)))))))⟩
theorem c56 : (XTab.of Try.prog).code 56 = some k56 := by kernel_rfl

/-! delphi/relation.fits -/
def k57_0 : ACode := (.seq (.region [⟨some 11, none, .mov (.tmp 9)⟩,
  ⟨some 12, none, .indexAddr 1 (.tmp 7) (.tmp 9)⟩,
  ⟨some 13, none, .load 1 false (.tmp 12)⟩,
  ⟨some 5, none, .mov (.tmp 11)⟩,
  ⟨some 6, none, .mov (.tmp 13)⟩])
 (.seq (.region [⟨some 14, none, .mov (.tmp 6)⟩,
  ⟨some 15, none, .bin .gtr (.tmp 14) (.const (.int .i64 0))⟩,
  ⟨some 16, none, .mov (.tmp 15)⟩,
  ⟨some 17, (some (16, true)), .mov (.tmp 0)⟩,
  ⟨some 18, (some (16, true)), .mov (.tmp 5)⟩,
  ⟨some 19, (some (16, true)), .indexAddr 1 (.tmp 17) (.tmp 18)⟩,
  ⟨some 20, (some (16, true)), .load 1 false (.tmp 19)⟩,
  ⟨some 21, (some (16, true)), .mov (.tmp 6)⟩,
  ⟨some 22, (some (16, true)), .bin .neq (.tmp 20) (.tmp 21)⟩,
  ⟨some 23, none, .pick (.tmp 16) (.tmp 22) (.const (.bool false))⟩])
 (.cond (.tmp 23) (.seq (.region [⟨some 4, none, .mov (.const (.bool false))⟩])
 .ret) .skip)))
def k57_1 : ACode := (.seq (.region [⟨some 10, none, .bin .lss (.tmp 9) (.tmp 8)⟩])
 (.seq (.cond (.tmp 10) .skip (.exit 0))
 (.seq (.block 1 k57_0)
 (.region [⟨some 24, none, .bin .add (.tmp 9) (.const (.int .i64 1))⟩,
  ⟨some 9, none, .mov (.tmp 24)⟩]))))
def k57 : AFun := ⟨25, [.tmp 4], (.seq (.region [⟨some 4, none, .mov (.const (.bool false))⟩])
 (.seq (.seq (.region [⟨some 7, none, .mov (.tmp 1)⟩,
  ⟨some 8, none, .lenSl (.tmp 7)⟩,
  ⟨some 9, none, .mov (.const (.int .i64 0))⟩])
 (.block 0 (.loop k57_1)))
 (.seq (.region [⟨some 4, none, .mov (.const (.bool true))⟩])
 .ret)))⟩
theorem c57 : (XTab.of Try.prog).code 57 = some k57 := by kernel_rfl

/-! (*delphi/delphiref8.P).atom -/
def k58_0 : ACode := (.seq (.region [⟨some 36, none, .mov (.tmp 0)⟩,
  ⟨some 37, none, .call (.const (.func (.func 61) [] [])) [(.tmp 36), (.const (.int .i64 4))]⟩])
 (.seq (.region [⟨some 38, none, .build [(.int .i64 0), (.str []), .nilslice] []⟩,
  ⟨none, none, .store 3 (.tmp 2) (.tmp 38)⟩])
 .ret))
def k58_1 : ACode := (.seq (.region [⟨some 74, none, .mov (.tmp 0)⟩,
  ⟨some 75, none, .call (.const (.func (.func 77) [] [])) [(.tmp 74)]⟩,
  ⟨some 4, none, .alloc [(.int .i64 0), (.str []), (.int .i64 0)]⟩,
  ⟨none, none, .store 3 (.tmp 4) (.tmp 75)⟩])
 (.seq (.seq (.region [⟨some 76, none, .mov (.tmp 0)⟩,
  ⟨some 77, none, .nilCheck (.tmp 76)⟩,
  ⟨some 78, none, .fieldAddr 2 (.tmp 77)⟩,
  ⟨some 79, none, .load 1 false (.tmp 78)⟩,
  ⟨some 80, none, .bin .eql (.tmp 79) (.const (.int .i64 0))⟩,
  ⟨some 81, none, .mov (.tmp 80)⟩,
  ⟨some 82, (some (81, true)), .fieldAddr 2 (.tmp 3)⟩,
  ⟨some 83, (some (81, true)), .load 1 false (.tmp 82)⟩,
  ⟨some 84, (some (81, true)), .lenSl (.tmp 83)⟩,
  ⟨some 85, (some (81, true)), .bin .eql (.tmp 84) (.const (.int .i64 4))⟩,
  ⟨some 86, none, .pick (.tmp 81) (.tmp 85) (.const (.bool false))⟩])
 (.cond (.tmp 86) (.region [⟨some 87, none, .mov (.tmp 0)⟩,
  ⟨some 88, none, .call (.const (.func (.func 61) [] [])) [(.tmp 87), (.const (.int .i64 8))]⟩]) .skip))
 (.seq (.region [⟨some 89, none, .fieldAddr 2 (.tmp 3)⟩,
  ⟨some 90, none, .load 1 false (.tmp 89)⟩,
  ⟨some 91, none, .load 3 true (.tmp 4)⟩,
  ⟨some 92, none, .buildSlice 1 [(.int .i64 0), (.str []), (.int .i64 0)] [(0, 3, (.tmp 91))]⟩,
  ⟨some 93, none, .append 3 32 (.tmp 90) (.tmp 92)⟩,
  ⟨some 94, none, .fieldAddr 2 (.tmp 3)⟩,
  ⟨none, none, .store 1 (.tmp 94) (.tmp 93)⟩])
 (.seq (.seq (.region [⟨some 95, none, .mov (.tmp 0)⟩,
  ⟨some 96, none, .call (.const (.func (.func 59) [] [])) [(.tmp 95), (.const (.str [44]))]⟩,
  ⟨some 97, none, .un .not (.tmp 96)⟩])
 (.cond (.tmp 97) (.exit 0) .skip))
 (.region [⟨some 98, none, .mov (.tmp 0)⟩,
  ⟨some 99, none, .nilCheck (.tmp 98)⟩,
  ⟨some 100, none, .fieldAddr 1 (.tmp 99)⟩,
  ⟨some 101, none, .load 1 false (.tmp 100)⟩,
  ⟨some 102, none, .bin .add (.tmp 101) (.const (.int .i64 1))⟩,
  ⟨some 103, none, .nilCheck (.tmp 98)⟩,
  ⟨some 104, none, .fieldAddr 1 (.tmp 103)⟩,
  ⟨none, none, .store 1 (.tmp 104) (.tmp 102)⟩])))))
def k58_2 : ACode := (.seq (.seq (.region [⟨some 69, none, .mov (.tmp 0)⟩,
  ⟨some 70, none, .nilCheck (.tmp 69)⟩,
  ⟨some 71, none, .fieldAddr 2 (.tmp 70)⟩,
  ⟨some 72, none, .load 1 false (.tmp 71)⟩,
  ⟨some 73, none, .bin .eql (.tmp 72) (.const (.int .i64 0))⟩])
 (.cond (.tmp 73) .skip (.exit 0)))
 (.block 1 k58_1))
def k58 : AFun := ⟨108, [.cell 2 3 true], (.seq (.region [⟨some 2, none, .alloc [(.int .i64 0), (.str []), .nilslice]⟩])
 (.seq (.seq (.drawn [⟨⟨some 5, none, .mov (.tmp 0)⟩, false, [], []⟩,
  ⟨⟨some 6, none, .nilCheck (.tmp 5)⟩, false, [0], []⟩,
  ⟨⟨some 7, none, .fieldAddr 2 (.tmp 6)⟩, false, [0, 1], []⟩,
  ⟨⟨some 8, none, .load 1 false (.tmp 7)⟩, false, [1, 0, 2], []⟩,
  ⟨⟨some 9, none, .bin .neq (.tmp 8) (.const (.int .i64 0))⟩, false, [2, 0, 1, 3], []⟩,
  ⟨⟨some 10, none, .mov (.tmp 9)⟩, false, [3, 1, 0, 2, 4], []⟩,
  ⟨⟨some 11, (some (10, false)), .mov (.tmp 0)⟩, false, [4, 2, 0, 1, 3, 5], [15, 16, 17, 18, 19]⟩,
  ⟨⟨some 12, (some (10, false)), .nilCheck (.tmp 11)⟩, false, [6, 4, 2, 0, 1, 3, 5], [15, 16, 17, 18, 19]⟩,
  ⟨⟨some 13, (some (10, false)), .fieldAddr 1 (.tmp 12)⟩, false, [6, 7, 4, 2, 0, 1, 3, 5], [15, 16, 17, 18, 19]⟩,
  ⟨⟨some 14, (some (10, false)), .load 1 false (.tmp 13)⟩, false, [7, 6, 8, 4, 2, 0, 1, 3, 5], [15, 16, 17, 18, 19]⟩,
  ⟨⟨some 15, (some (10, false)), .mov (.tmp 0)⟩, false, [4, 2, 0, 1, 3, 5], [11, 12, 13, 14]⟩,
  ⟨⟨some 16, (some (10, false)), .nilCheck (.tmp 15)⟩, false, [10, 4, 2, 0, 1, 3, 5], [11, 12, 13, 14]⟩,
  ⟨⟨some 17, (some (10, false)), .fieldAddr 0 (.tmp 16)⟩, false, [10, 11, 4, 2, 0, 1, 3, 5], [11, 12, 13, 14]⟩,
  ⟨⟨some 18, (some (10, false)), .load 1 false (.tmp 17)⟩, false, [11, 10, 12, 4, 2, 0, 1, 3, 5], [11, 12, 13, 14]⟩,
  ⟨⟨some 19, (some (10, false)), .lenSl (.tmp 18)⟩, false, [12, 10, 11, 13, 4, 2, 0, 1, 3, 5], [11, 12, 13, 14]⟩,
  ⟨⟨some 20, (some (10, false)), .bin .geq (.tmp 14) (.tmp 19)⟩, false, [8, 6, 7, 9, 13, 11, 10, 12, 14, 4, 2, 0, 1, 3, 5], []⟩,
  ⟨⟨some 21, none, .pick (.tmp 10) (.const (.bool true)) (.tmp 20)⟩, false, [5, 3, 1, 0, 2, 4, 14, 12, 10, 11, 13, 9, 7, 6, 8, 15], []⟩,
  ⟨⟨some 22, none, .mov (.tmp 21)⟩, false, [15, 8, 6, 7, 9, 13, 11, 10, 12, 14, 16, 4, 2, 0, 1, 3, 5], []⟩,
  ⟨⟨some 23, (some (22, false)), .mov (.tmp 0)⟩, false, [5, 3, 1, 0, 2, 4, 16, 14, 12, 10, 11, 13, 9, 7, 6, 8, 15, 17], [27, 28, 29, 30]⟩,
  ⟨⟨some 24, (some (22, false)), .nilCheck (.tmp 23)⟩, false, [18, 5, 3, 1, 0, 2, 4, 16, 14, 12, 10, 11, 13, 9, 7, 6, 8, 15, 17], [27, 28, 29, 30]⟩,
  ⟨⟨some 25, (some (22, false)), .fieldAddr 0 (.tmp 24)⟩, false, [18, 19, 5, 3, 1, 0, 2, 4, 16, 14, 12, 10, 11, 13, 9, 7, 6, 8, 15, 17], [27, 28, 29, 30]⟩,
  ⟨⟨some 26, (some (22, false)), .load 1 false (.tmp 25)⟩, false, [19, 18, 20, 5, 3, 1, 0, 2, 4, 16, 14, 12, 10, 11, 13, 9, 7, 6, 8, 15, 17], [27, 28, 29, 30]⟩,
  ⟨⟨some 27, (some (22, false)), .mov (.tmp 0)⟩, false, [5, 3, 1, 0, 2, 4, 16, 14, 12, 10, 11, 13, 9, 7, 6, 8, 15, 17], [23, 24, 25, 26]⟩,
  ⟨⟨some 28, (some (22, false)), .nilCheck (.tmp 27)⟩, false, [22, 5, 3, 1, 0, 2, 4, 16, 14, 12, 10, 11, 13, 9, 7, 6, 8, 15, 17], [23, 24, 25, 26]⟩,
  ⟨⟨some 29, (some (22, false)), .fieldAddr 1 (.tmp 28)⟩, false, [22, 23, 5, 3, 1, 0, 2, 4, 16, 14, 12, 10, 11, 13, 9, 7, 6, 8, 15, 17], [23, 24, 25, 26]⟩,
  ⟨⟨some 30, (some (22, false)), .load 1 false (.tmp 29)⟩, false, [23, 22, 24, 5, 3, 1, 0, 2, 4, 16, 14, 12, 10, 11, 13, 9, 7, 6, 8, 15, 17], [23, 24, 25, 26]⟩,
  ⟨⟨some 31, (some (22, false)), .indexAddr 3 (.tmp 26) (.tmp 30)⟩, false, [20, 18, 19, 21, 24, 22, 23, 25, 5, 3, 1, 0, 2, 4, 16, 14, 12, 10, 11, 13, 9, 7, 6, 8, 15, 17], []⟩,
  ⟨⟨some 32, (some (22, false)), .fieldAddr 0 (.tmp 31)⟩, false, [25, 23, 22, 24, 21, 19, 18, 20, 26, 5, 3, 1, 0, 2, 4, 16, 14, 12, 10, 11, 13, 9, 7, 6, 8, 15, 17], []⟩,
  ⟨⟨some 33, (some (22, false)), .load 1 false (.tmp 32)⟩, false, [26, 20, 18, 19, 21, 24, 22, 23, 25, 27, 5, 3, 1, 0, 2, 4, 16, 14, 12, 10, 11, 13, 9, 7, 6, 8, 15, 17], []⟩,
  ⟨⟨some 34, (some (22, false)), .bin .neq (.tmp 33) (.const (.int .i64 1))⟩, false, [27, 25, 23, 22, 24, 21, 19, 18, 20, 26, 28, 5, 3, 1, 0, 2, 4, 16, 14, 12, 10, 11, 13, 9, 7, 6, 8, 15, 17], []⟩,
  ⟨⟨some 35, none, .pick (.tmp 22) (.const (.bool true)) (.tmp 34)⟩, false, [17, 15, 8, 6, 7, 9, 13, 11, 10, 12, 14, 16, 4, 2, 0, 1, 3, 5, 28, 26, 20, 18, 19, 21, 24, 22, 23, 25, 27, 29], []⟩])
 (.cond (.tmp 35) k58_0 .skip))
 (.seq (.drawn [⟨⟨some 39, none, .mov (.tmp 0)⟩, false, [], [43, 44, 45, 46, 3]⟩,
  ⟨⟨some 40, none, .nilCheck (.tmp 39)⟩, false, [0], [43, 44, 45, 46, 3]⟩,
  ⟨⟨some 41, none, .fieldAddr 0 (.tmp 40)⟩, false, [0, 1], [43, 44, 45, 46, 3]⟩,
  ⟨⟨some 42, none, .load 1 false (.tmp 41)⟩, false, [1, 0, 2], [43, 44, 45, 46, 3]⟩,
  ⟨⟨some 43, none, .mov (.tmp 0)⟩, false, [], [39, 40, 41, 42, 3]⟩,
  ⟨⟨some 44, none, .nilCheck (.tmp 43)⟩, false, [4], [39, 40, 41, 42, 3]⟩,
  ⟨⟨some 45, none, .fieldAddr 1 (.tmp 44)⟩, false, [4, 5], [39, 40, 41, 42, 3]⟩,
  ⟨⟨some 46, none, .load 1 false (.tmp 45)⟩, false, [5, 4, 6], [39, 40, 41, 42, 3]⟩,
  ⟨⟨some 47, none, .indexAddr 3 (.tmp 42) (.tmp 46)⟩, false, [2, 0, 1, 3, 6, 4, 5, 7], [3]⟩,
  ⟨⟨some 48, none, .fieldAddr 1 (.tmp 47)⟩, false, [7, 5, 4, 6, 3, 1, 0, 2, 8], [3]⟩,
  ⟨⟨some 49, none, .load 1 false (.tmp 48)⟩, false, [8, 2, 0, 1, 3, 6, 4, 5, 7, 9], [3]⟩,
  ⟨⟨some 50, none, .build [(.int .i64 0), (.str []), .nilslice] [(0, 1, (.const (.int .i64 1))), (1, 1, (.tmp 49))]⟩, false, [9, 7, 5, 4, 6, 3, 1, 0, 2, 8, 10], [3]⟩,
  ⟨⟨some 3, none, .alloc [(.int .i64 0), (.str []), .nilslice]⟩, true, [], [39, 40, 41, 42, 43, 44, 45, 46, 47, 48, 49, 50]⟩,
  ⟨⟨none, none, .store 3 (.tmp 3) (.tmp 50)⟩, true, [10, 8, 2, 0, 1, 3, 6, 4, 5, 7, 9, 11, 12], []⟩])
 (.seq (.region [⟨some 51, none, .mov (.tmp 0)⟩,
  ⟨some 52, none, .nilCheck (.tmp 51)⟩,
  ⟨some 53, none, .fieldAddr 1 (.tmp 52)⟩,
  ⟨some 54, none, .load 1 false (.tmp 53)⟩,
  ⟨some 55, none, .bin .add (.tmp 54) (.const (.int .i64 1))⟩,
  ⟨some 56, none, .nilCheck (.tmp 51)⟩,
  ⟨some 57, none, .fieldAddr 1 (.tmp 56)⟩,
  ⟨none, none, .store 1 (.tmp 57) (.tmp 55)⟩])
 (.seq (.seq (.region [⟨some 58, none, .mov (.tmp 0)⟩,
  ⟨some 59, none, .call (.const (.func (.func 59) [] [])) [(.tmp 58), (.const (.str [40]))]⟩,
  ⟨some 60, none, .un .not (.tmp 59)⟩])
 (.cond (.tmp 60) (.seq (.region [⟨some 61, none, .load 3 true (.tmp 3)⟩,
  ⟨none, none, .store 3 (.tmp 2) (.tmp 61)⟩])
 .ret) .skip))
 (.seq (.region [⟨some 62, none, .mov (.tmp 0)⟩,
  ⟨some 63, none, .nilCheck (.tmp 62)⟩,
  ⟨some 64, none, .fieldAddr 1 (.tmp 63)⟩,
  ⟨some 65, none, .load 1 false (.tmp 64)⟩,
  ⟨some 66, none, .bin .add (.tmp 65) (.const (.int .i64 1))⟩,
  ⟨some 67, none, .nilCheck (.tmp 62)⟩,
  ⟨some 68, none, .fieldAddr 1 (.tmp 67)⟩,
  ⟨none, none, .store 1 (.tmp 68) (.tmp 66)⟩])
 (.seq (.block 0 (.loop k58_2))
 (.seq (.region [⟨some 105, none, .mov (.tmp 0)⟩,
  ⟨some 106, none, .call (.const (.func (.func 62) [] [])) [(.tmp 105), (.const (.str [41]))]⟩])
 (.seq (.region [⟨some 107, none, .load 3 true (.tmp 3)⟩,
  ⟨none, none, .store 3 (.tmp 2) (.tmp 107)⟩])
 .ret)))))))))⟩
theorem c58 : (XTab.of Try.prog).code 58 = some k58 := by kernel_rfl

/-! (*delphi/delphiref8.P).sign -/

def k59 : AFun := ⟨44, [.tmp 4], (.seq (.region [⟨some 4, none, .mov (.const (.bool false))⟩])
 (.seq (.drawn [⟨⟨some 5, none, .mov (.tmp 0)⟩, false, [], [9, 10, 11, 12, 13]⟩,
  ⟨⟨some 6, none, .nilCheck (.tmp 5)⟩, false, [0], [9, 10, 11, 12, 13]⟩,
  ⟨⟨some 7, none, .fieldAddr 1 (.tmp 6)⟩, false, [0, 1], [9, 10, 11, 12, 13]⟩,
  ⟨⟨some 8, none, .load 1 false (.tmp 7)⟩, false, [1, 0, 2], [9, 10, 11, 12, 13]⟩,
  ⟨⟨some 9, none, .mov (.tmp 0)⟩, false, [], [5, 6, 7, 8]⟩,
  ⟨⟨some 10, none, .nilCheck (.tmp 9)⟩, false, [4], [5, 6, 7, 8]⟩,
  ⟨⟨some 11, none, .fieldAddr 0 (.tmp 10)⟩, false, [4, 5], [5, 6, 7, 8]⟩,
  ⟨⟨some 12, none, .load 1 false (.tmp 11)⟩, false, [5, 4, 6], [5, 6, 7, 8]⟩,
  ⟨⟨some 13, none, .lenSl (.tmp 12)⟩, false, [6, 4, 5, 7], [5, 6, 7, 8]⟩,
  ⟨⟨some 14, none, .bin .lss (.tmp 8) (.tmp 13)⟩, false, [2, 0, 1, 3, 7, 5, 4, 6, 8], []⟩,
  ⟨⟨some 15, none, .mov (.tmp 14)⟩, false, [8, 6, 4, 5, 7, 3, 1, 0, 2, 9], []⟩,
  ⟨⟨some 16, (some (15, true)), .mov (.tmp 0)⟩, false, [9, 2, 0, 1, 3, 7, 5, 4, 6, 8, 10], [20, 21, 22, 23]⟩,
  ⟨⟨some 17, (some (15, true)), .nilCheck (.tmp 16)⟩, false, [11, 9, 2, 0, 1, 3, 7, 5, 4, 6, 8, 10], [20, 21, 22, 23]⟩,
  ⟨⟨some 18, (some (15, true)), .fieldAddr 0 (.tmp 17)⟩, false, [11, 12, 9, 2, 0, 1, 3, 7, 5, 4, 6, 8, 10], [20, 21, 22, 23]⟩,
  ⟨⟨some 19, (some (15, true)), .load 1 false (.tmp 18)⟩, false, [12, 11, 13, 9, 2, 0, 1, 3, 7, 5, 4, 6, 8, 10], [20, 21, 22, 23]⟩,
  ⟨⟨some 20, (some (15, true)), .mov (.tmp 0)⟩, false, [9, 2, 0, 1, 3, 7, 5, 4, 6, 8, 10], [16, 17, 18, 19]⟩,
  ⟨⟨some 21, (some (15, true)), .nilCheck (.tmp 20)⟩, false, [15, 9, 2, 0, 1, 3, 7, 5, 4, 6, 8, 10], [16, 17, 18, 19]⟩,
  ⟨⟨some 22, (some (15, true)), .fieldAddr 1 (.tmp 21)⟩, false, [15, 16, 9, 2, 0, 1, 3, 7, 5, 4, 6, 8, 10], [16, 17, 18, 19]⟩,
  ⟨⟨some 23, (some (15, true)), .load 1 false (.tmp 22)⟩, false, [16, 15, 17, 9, 2, 0, 1, 3, 7, 5, 4, 6, 8, 10], [16, 17, 18, 19]⟩,
  ⟨⟨some 24, (some (15, true)), .indexAddr 3 (.tmp 19) (.tmp 23)⟩, false, [13, 11, 12, 14, 17, 15, 16, 18, 9, 2, 0, 1, 3, 7, 5, 4, 6, 8, 10], []⟩,
  ⟨⟨some 25, (some (15, true)), .fieldAddr 0 (.tmp 24)⟩, false, [18, 16, 15, 17, 14, 12, 11, 13, 19, 9, 2, 0, 1, 3, 7, 5, 4, 6, 8, 10], []⟩,
  ⟨⟨some 26, (some (15, true)), .load 1 false (.tmp 25)⟩, false, [19, 13, 11, 12, 14, 17, 15, 16, 18, 20, 9, 2, 0, 1, 3, 7, 5, 4, 6, 8, 10], []⟩,
  ⟨⟨some 27, (some (15, true)), .bin .eql (.tmp 26) (.const (.int .i64 4))⟩, false, [20, 18, 16, 15, 17, 14, 12, 11, 13, 19, 21, 9, 2, 0, 1, 3, 7, 5, 4, 6, 8, 10], []⟩,
  ⟨⟨some 28, none, .pick (.tmp 15) (.tmp 27) (.const (.bool false))⟩, false, [10, 8, 6, 4, 5, 7, 3, 1, 0, 2, 9, 21, 19, 13, 11, 12, 14, 17, 15, 16, 18, 20, 22], []⟩,
  ⟨⟨some 29, none, .mov (.tmp 28)⟩, false, [22, 20, 18, 16, 15, 17, 14, 12, 11, 13, 19, 21, 23, 9, 2, 0, 1, 3, 7, 5, 4, 6, 8, 10], []⟩,
  ⟨⟨some 30, (some (29, true)), .mov (.tmp 0)⟩, false, [10, 8, 6, 4, 5, 7, 3, 1, 0, 2, 9, 23, 21, 19, 13, 11, 12, 14, 17, 15, 16, 18, 20, 22, 24], [34, 35, 36, 37, 41]⟩,
  ⟨⟨some 31, (some (29, true)), .nilCheck (.tmp 30)⟩, false, [25, 10, 8, 6, 4, 5, 7, 3, 1, 0, 2, 9, 23, 21, 19, 13, 11, 12, 14, 17, 15, 16, 18, 20, 22, 24], [34, 35, 36, 37, 41]⟩,
  ⟨⟨some 32, (some (29, true)), .fieldAddr 0 (.tmp 31)⟩, false, [25, 26, 10, 8, 6, 4, 5, 7, 3, 1, 0, 2, 9, 23, 21, 19, 13, 11, 12, 14, 17, 15, 16, 18, 20, 22, 24], [34, 35, 36, 37, 41]⟩,
  ⟨⟨some 33, (some (29, true)), .load 1 false (.tmp 32)⟩, false, [26, 25, 27, 10, 8, 6, 4, 5, 7, 3, 1, 0, 2, 9, 23, 21, 19, 13, 11, 12, 14, 17, 15, 16, 18, 20, 22, 24], [34, 35, 36, 37, 41]⟩,
  ⟨⟨some 34, (some (29, true)), .mov (.tmp 0)⟩, false, [10, 8, 6, 4, 5, 7, 3, 1, 0, 2, 9, 23, 21, 19, 13, 11, 12, 14, 17, 15, 16, 18, 20, 22, 24], [30, 31, 32, 33, 41]⟩,
  ⟨⟨some 35, (some (29, true)), .nilCheck (.tmp 34)⟩, false, [29, 10, 8, 6, 4, 5, 7, 3, 1, 0, 2, 9, 23, 21, 19, 13, 11, 12, 14, 17, 15, 16, 18, 20, 22, 24], [30, 31, 32, 33, 41]⟩,
  ⟨⟨some 36, (some (29, true)), .fieldAddr 1 (.tmp 35)⟩, false, [29, 30, 10, 8, 6, 4, 5, 7, 3, 1, 0, 2, 9, 23, 21, 19, 13, 11, 12, 14, 17, 15, 16, 18, 20, 22, 24], [30, 31, 32, 33, 41]⟩,
  ⟨⟨some 37, (some (29, true)), .load 1 false (.tmp 36)⟩, false, [30, 29, 31, 10, 8, 6, 4, 5, 7, 3, 1, 0, 2, 9, 23, 21, 19, 13, 11, 12, 14, 17, 15, 16, 18, 20, 22, 24], [30, 31, 32, 33, 41]⟩,
  ⟨⟨some 38, (some (29, true)), .indexAddr 3 (.tmp 33) (.tmp 37)⟩, false, [27, 25, 26, 28, 31, 29, 30, 32, 10, 8, 6, 4, 5, 7, 3, 1, 0, 2, 9, 23, 21, 19, 13, 11, 12, 14, 17, 15, 16, 18, 20, 22, 24], [41]⟩,
  ⟨⟨some 39, (some (29, true)), .fieldAddr 1 (.tmp 38)⟩, false, [32, 30, 29, 31, 28, 26, 25, 27, 33, 10, 8, 6, 4, 5, 7, 3, 1, 0, 2, 9, 23, 21, 19, 13, 11, 12, 14, 17, 15, 16, 18, 20, 22, 24], [41]⟩,
  ⟨⟨some 40, (some (29, true)), .load 1 false (.tmp 39)⟩, false, [33, 27, 25, 26, 28, 31, 29, 30, 32, 34, 10, 8, 6, 4, 5, 7, 3, 1, 0, 2, 9, 23, 21, 19, 13, 11, 12, 14, 17, 15, 16, 18, 20, 22, 24], [41]⟩,
  ⟨⟨some 41, (some (29, true)), .mov (.tmp 1)⟩, false, [10, 8, 6, 4, 5, 7, 3, 1, 0, 2, 9, 23, 21, 19, 13, 11, 12, 14, 17, 15, 16, 18, 20, 22, 24], [30, 31, 32, 33, 34, 35, 36, 37, 38, 39, 40]⟩,
  ⟨⟨some 42, (some (29, true)), .bin .eql (.tmp 40) (.tmp 41)⟩, false, [34, 32, 30, 29, 31, 28, 26, 25, 27, 33, 35, 36, 10, 8, 6, 4, 5, 7, 3, 1, 0, 2, 9, 23, 21, 19, 13, 11, 12, 14, 17, 15, 16, 18, 20, 22, 24], []⟩,
  ⟨⟨some 43, none, .pick (.tmp 29) (.tmp 42) (.const (.bool false))⟩, false, [24, 22, 20, 18, 16, 15, 17, 14, 12, 11, 13, 19, 21, 23, 9, 2, 0, 1, 3, 7, 5, 4, 6, 8, 10, 36, 35, 33, 27, 25, 26, 28, 31, 29, 30, 32, 34, 37], []⟩,
  ⟨⟨some 4, none, .mov (.tmp 43)⟩, false, [37, 34, 32, 30, 29, 31, 28, 26, 25, 27, 33, 35, 36, 10, 8, 6, 4, 5, 7, 3, 1, 0, 2, 9, 23, 21, 19, 13, 11, 12, 14, 17, 15, 16, 18, 20, 22, 24, 38], []⟩])
 .ret))⟩
theorem c59 : (XTab.of Try.prog).code 59 = some k59 := by kernel_rfl

/-! (*delphi/delphiref8.P).literal -/
def k60_0 : ACode := (.seq (.region [⟨some 9, none, .mov (.tmp 0)⟩,
  ⟨some 10, none, .nilCheck (.tmp 9)⟩,
  ⟨some 11, none, .fieldAddr 1 (.tmp 10)⟩,
  ⟨some 12, none, .load 1 false (.tmp 11)⟩,
  ⟨some 13, none, .bin .add (.tmp 12) (.const (.int .i64 1))⟩,
  ⟨some 14, none, .nilCheck (.tmp 9)⟩,
  ⟨some 15, none, .fieldAddr 1 (.tmp 14)⟩,
  ⟨none, none, .store 1 (.tmp 15) (.tmp 13)⟩])
 (.seq (.region [⟨some 16, none, .mov (.tmp 0)⟩,
  ⟨some 17, none, .call (.const (.func (.func 58) [] [])) [(.tmp 16)]⟩,
  ⟨some 3, none, .alloc [(.int .i64 0), (.str []), .nilslice]⟩,
  ⟨none, none, .store 3 (.tmp 3) (.tmp 17)⟩])
 (.seq (.region [⟨some 18, none, .fieldAddr 0 (.tmp 3)⟩,
  ⟨none, none, .store 1 (.tmp 18) (.const (.int .i64 2))⟩])
 (.seq (.region [⟨some 19, none, .load 3 true (.tmp 3)⟩,
  ⟨none, none, .store 3 (.tmp 2) (.tmp 19)⟩])
 .ret))))
def k60_1 : ACode := (.seq (.region [⟨some 139, none, .mov (.tmp 0)⟩,
  ⟨some 140, none, .call (.const (.func (.func 61) [] [])) [(.tmp 139), (.const (.int .i64 4))]⟩])
 (.seq (.region [⟨some 141, none, .build [(.int .i64 0), (.str []), .nilslice] []⟩,
  ⟨none, none, .store 3 (.tmp 2) (.tmp 141)⟩])
 .ret))
def k60 : AFun := ⟨168, [.cell 2 3 true], (.seq (.region [⟨some 2, none, .alloc [(.int .i64 0), (.str []), .nilslice]⟩])
 (.seq (.seq (.region [⟨some 7, none, .mov (.tmp 0)⟩,
  ⟨some 8, none, .call (.const (.func (.func 59) [] [])) [(.tmp 7), (.const (.str [33]))]⟩])
 (.cond (.tmp 8) k60_0 .skip))
 (.seq (.seq (.drawn [⟨⟨some 20, none, .mov (.tmp 0)⟩, false, [], [24, 25, 26, 27, 28]⟩,
  ⟨⟨some 21, none, .nilCheck (.tmp 20)⟩, false, [0], [24, 25, 26, 27, 28]⟩,
  ⟨⟨some 22, none, .fieldAddr 1 (.tmp 21)⟩, false, [0, 1], [24, 25, 26, 27, 28]⟩,
  ⟨⟨some 23, none, .load 1 false (.tmp 22)⟩, false, [1, 0, 2], [24, 25, 26, 27, 28]⟩,
  ⟨⟨some 24, none, .mov (.tmp 0)⟩, false, [], [20, 21, 22, 23]⟩,
  ⟨⟨some 25, none, .nilCheck (.tmp 24)⟩, false, [4], [20, 21, 22, 23]⟩,
  ⟨⟨some 26, none, .fieldAddr 0 (.tmp 25)⟩, false, [4, 5], [20, 21, 22, 23]⟩,
  ⟨⟨some 27, none, .load 1 false (.tmp 26)⟩, false, [5, 4, 6], [20, 21, 22, 23]⟩,
  ⟨⟨some 28, none, .lenSl (.tmp 27)⟩, false, [6, 4, 5, 7], [20, 21, 22, 23]⟩,
  ⟨⟨some 29, none, .bin .lss (.tmp 23) (.tmp 28)⟩, false, [2, 0, 1, 3, 7, 5, 4, 6, 8], []⟩,
  ⟨⟨some 30, none, .mov (.tmp 29)⟩, false, [8, 6, 4, 5, 7, 3, 1, 0, 2, 9], []⟩,
  ⟨⟨some 31, (some (30, true)), .mov (.tmp 0)⟩, false, [9, 2, 0, 1, 3, 7, 5, 4, 6, 8, 10], [35, 36, 37, 38]⟩,
  ⟨⟨some 32, (some (30, true)), .nilCheck (.tmp 31)⟩, false, [11, 9, 2, 0, 1, 3, 7, 5, 4, 6, 8, 10], [35, 36, 37, 38]⟩,
  ⟨⟨some 33, (some (30, true)), .fieldAddr 0 (.tmp 32)⟩, false, [11, 12, 9, 2, 0, 1, 3, 7, 5, 4, 6, 8, 10], [35, 36, 37, 38]⟩,
  ⟨⟨some 34, (some (30, true)), .load 1 false (.tmp 33)⟩, false, [12, 11, 13, 9, 2, 0, 1, 3, 7, 5, 4, 6, 8, 10], [35, 36, 37, 38]⟩,
  ⟨⟨some 35, (some (30, true)), .mov (.tmp 0)⟩, false, [9, 2, 0, 1, 3, 7, 5, 4, 6, 8, 10], [31, 32, 33, 34]⟩,
  ⟨⟨some 36, (some (30, true)), .nilCheck (.tmp 35)⟩, false, [15, 9, 2, 0, 1, 3, 7, 5, 4, 6, 8, 10], [31, 32, 33, 34]⟩,
  ⟨⟨some 37, (some (30, true)), .fieldAddr 1 (.tmp 36)⟩, false, [15, 16, 9, 2, 0, 1, 3, 7, 5, 4, 6, 8, 10], [31, 32, 33, 34]⟩,
  ⟨⟨some 38, (some (30, true)), .load 1 false (.tmp 37)⟩, false, [16, 15, 17, 9, 2, 0, 1, 3, 7, 5, 4, 6, 8, 10], [31, 32, 33, 34]⟩,
  ⟨⟨some 39, (some (30, true)), .indexAddr 3 (.tmp 34) (.tmp 38)⟩, false, [13, 11, 12, 14, 17, 15, 16, 18, 9, 2, 0, 1, 3, 7, 5, 4, 6, 8, 10], []⟩,
  ⟨⟨some 40, (some (30, true)), .fieldAddr 0 (.tmp 39)⟩, false, [18, 16, 15, 17, 14, 12, 11, 13, 19, 9, 2, 0, 1, 3, 7, 5, 4, 6, 8, 10], []⟩,
  ⟨⟨some 41, (some (30, true)), .load 1 false (.tmp 40)⟩, false, [19, 13, 11, 12, 14, 17, 15, 16, 18, 20, 9, 2, 0, 1, 3, 7, 5, 4, 6, 8, 10], []⟩,
  ⟨⟨some 42, (some (30, true)), .bin .eql (.tmp 41) (.const (.int .i64 1))⟩, false, [20, 18, 16, 15, 17, 14, 12, 11, 13, 19, 21, 9, 2, 0, 1, 3, 7, 5, 4, 6, 8, 10], []⟩,
  ⟨⟨some 43, none, .pick (.tmp 30) (.tmp 42) (.const (.bool false))⟩, false, [10, 8, 6, 4, 5, 7, 3, 1, 0, 2, 9, 21, 19, 13, 11, 12, 14, 17, 15, 16, 18, 20, 22], []⟩,
  ⟨⟨some 44, none, .mov (.tmp 43)⟩, false, [22, 20, 18, 16, 15, 17, 14, 12, 11, 13, 19, 21, 23, 9, 2, 0, 1, 3, 7, 5, 4, 6, 8, 10], []⟩,
  ⟨⟨some 45, (some (44, true)), .mov (.tmp 0)⟩, false, [10, 8, 6, 4, 5, 7, 3, 1, 0, 2, 9, 23, 21, 19, 13, 11, 12, 14, 17, 15, 16, 18, 20, 22, 24], [50, 51, 52, 53, 54]⟩,
  ⟨⟨some 46, (some (44, true)), .nilCheck (.tmp 45)⟩, false, [25, 10, 8, 6, 4, 5, 7, 3, 1, 0, 2, 9, 23, 21, 19, 13, 11, 12, 14, 17, 15, 16, 18, 20, 22, 24], [50, 51, 52, 53, 54]⟩,
  ⟨⟨some 47, (some (44, true)), .fieldAddr 1 (.tmp 46)⟩, false, [25, 26, 10, 8, 6, 4, 5, 7, 3, 1, 0, 2, 9, 23, 21, 19, 13, 11, 12, 14, 17, 15, 16, 18, 20, 22, 24], [50, 51, 52, 53, 54]⟩,
  ⟨⟨some 48, (some (44, true)), .load 1 false (.tmp 47)⟩, false, [26, 25, 27, 10, 8, 6, 4, 5, 7, 3, 1, 0, 2, 9, 23, 21, 19, 13, 11, 12, 14, 17, 15, 16, 18, 20, 22, 24], [50, 51, 52, 53, 54]⟩,
  ⟨⟨some 49, (some (44, true)), .bin .add (.tmp 48) (.const (.int .i64 1))⟩, false, [27, 25, 26, 28, 10, 8, 6, 4, 5, 7, 3, 1, 0, 2, 9, 23, 21, 19, 13, 11, 12, 14, 17, 15, 16, 18, 20, 22, 24], [50, 51, 52, 53, 54]⟩,
  ⟨⟨some 50, (some (44, true)), .mov (.tmp 0)⟩, false, [10, 8, 6, 4, 5, 7, 3, 1, 0, 2, 9, 23, 21, 19, 13, 11, 12, 14, 17, 15, 16, 18, 20, 22, 24], [45, 46, 47, 48, 49]⟩,
  ⟨⟨some 51, (some (44, true)), .nilCheck (.tmp 50)⟩, false, [30, 10, 8, 6, 4, 5, 7, 3, 1, 0, 2, 9, 23, 21, 19, 13, 11, 12, 14, 17, 15, 16, 18, 20, 22, 24], [45, 46, 47, 48, 49]⟩,
  ⟨⟨some 52, (some (44, true)), .fieldAddr 0 (.tmp 51)⟩, false, [30, 31, 10, 8, 6, 4, 5, 7, 3, 1, 0, 2, 9, 23, 21, 19, 13, 11, 12, 14, 17, 15, 16, 18, 20, 22, 24], [45, 46, 47, 48, 49]⟩,
  ⟨⟨some 53, (some (44, true)), .load 1 false (.tmp 52)⟩, false, [31, 30, 32, 10, 8, 6, 4, 5, 7, 3, 1, 0, 2, 9, 23, 21, 19, 13, 11, 12, 14, 17, 15, 16, 18, 20, 22, 24], [45, 46, 47, 48, 49]⟩,
  ⟨⟨some 54, (some (44, true)), .lenSl (.tmp 53)⟩, false, [32, 30, 31, 33, 10, 8, 6, 4, 5, 7, 3, 1, 0, 2, 9, 23, 21, 19, 13, 11, 12, 14, 17, 15, 16, 18, 20, 22, 24], [45, 46, 47, 48, 49]⟩,
  ⟨⟨some 55, (some (44, true)), .bin .lss (.tmp 49) (.tmp 54)⟩, false, [28, 26, 25, 27, 29, 33, 31, 30, 32, 34, 10, 8, 6, 4, 5, 7, 3, 1, 0, 2, 9, 23, 21, 19, 13, 11, 12, 14, 17, 15, 16, 18, 20, 22, 24], []⟩,
  ⟨⟨some 56, (some (44, true)), .mov (.tmp 55)⟩, false, [34, 32, 30, 31, 33, 29, 27, 25, 26, 28, 35, 10, 8, 6, 4, 5, 7, 3, 1, 0, 2, 9, 23, 21, 19, 13, 11, 12, 14, 17, 15, 16, 18, 20, 22, 24], []⟩,
  ⟨⟨some 57, (some (56, true)), .mov (.tmp 0)⟩, false, [24, 22, 20, 18, 16, 15, 17, 14, 12, 11, 13, 19, 21, 23, 9, 2, 0, 1, 3, 7, 5, 4, 6, 8, 10, 35, 28, 26, 25, 27, 29, 33, 31, 30, 32, 34, 36], [61, 62, 63, 64, 65]⟩,
  ⟨⟨some 58, (some (56, true)), .nilCheck (.tmp 57)⟩, false, [37, 24, 22, 20, 18, 16, 15, 17, 14, 12, 11, 13, 19, 21, 23, 9, 2, 0, 1, 3, 7, 5, 4, 6, 8, 10, 35, 28, 26, 25, 27, 29, 33, 31, 30, 32, 34, 36], [61, 62, 63, 64, 65]⟩,
  ⟨⟨some 59, (some (56, true)), .fieldAddr 0 (.tmp 58)⟩, false, [37, 38, 24, 22, 20, 18, 16, 15, 17, 14, 12, 11, 13, 19, 21, 23, 9, 2, 0, 1, 3, 7, 5, 4, 6, 8, 10, 35, 28, 26, 25, 27, 29, 33, 31, 30, 32, 34, 36], [61, 62, 63, 64, 65]⟩,
  ⟨⟨some 60, (some (56, true)), .load 1 false (.tmp 59)⟩, false, [38, 37, 39, 24, 22, 20, 18, 16, 15, 17, 14, 12, 11, 13, 19, 21, 23, 9, 2, 0, 1, 3, 7, 5, 4, 6, 8, 10, 35, 28, 26, 25, 27, 29, 33, 31, 30, 32, 34, 36], [61, 62, 63, 64, 65]⟩,
  ⟨⟨some 61, (some (56, true)), .mov (.tmp 0)⟩, false, [24, 22, 20, 18, 16, 15, 17, 14, 12, 11, 13, 19, 21, 23, 9, 2, 0, 1, 3, 7, 5, 4, 6, 8, 10, 35, 28, 26, 25, 27, 29, 33, 31, 30, 32, 34, 36], [57, 58, 59, 60]⟩,
  ⟨⟨some 62, (some (56, true)), .nilCheck (.tmp 61)⟩, false, [41, 24, 22, 20, 18, 16, 15, 17, 14, 12, 11, 13, 19, 21, 23, 9, 2, 0, 1, 3, 7, 5, 4, 6, 8, 10, 35, 28, 26, 25, 27, 29, 33, 31, 30, 32, 34, 36], [57, 58, 59, 60]⟩,
  ⟨⟨some 63, (some (56, true)), .fieldAddr 1 (.tmp 62)⟩, false, [41, 42, 24, 22, 20, 18, 16, 15, 17, 14, 12, 11, 13, 19, 21, 23, 9, 2, 0, 1, 3, 7, 5, 4, 6, 8, 10, 35, 28, 26, 25, 27, 29, 33, 31, 30, 32, 34, 36], [57, 58, 59, 60]⟩,
  ⟨⟨some 64, (some (56, true)), .load 1 false (.tmp 63)⟩, false, [42, 41, 43, 24, 22, 20, 18, 16, 15, 17, 14, 12, 11, 13, 19, 21, 23, 9, 2, 0, 1, 3, 7, 5, 4, 6, 8, 10, 35, 28, 26, 25, 27, 29, 33, 31, 30, 32, 34, 36], [57, 58, 59, 60]⟩,
  ⟨⟨some 65, (some (56, true)), .bin .add (.tmp 64) (.const (.int .i64 1))⟩, false, [43, 41, 42, 44, 24, 22, 20, 18, 16, 15, 17, 14, 12, 11, 13, 19, 21, 23, 9, 2, 0, 1, 3, 7, 5, 4, 6, 8, 10, 35, 28, 26, 25, 27, 29, 33, 31, 30, 32, 34, 36], [57, 58, 59, 60]⟩,
  ⟨⟨some 66, (some (56, true)), .indexAddr 3 (.tmp 60) (.tmp 65)⟩, false, [39, 37, 38, 40, 44, 42, 41, 43, 45, 24, 22, 20, 18, 16, 15, 17, 14, 12, 11, 13, 19, 21, 23, 9, 2, 0, 1, 3, 7, 5, 4, 6, 8, 10, 35, 28, 26, 25, 27, 29, 33, 31, 30, 32, 34, 36], []⟩,
  ⟨⟨some 67, (some (56, true)), .fieldAddr 0 (.tmp 66)⟩, false, [45, 43, 41, 42, 44, 40, 38, 37, 39, 46, 24, 22, 20, 18, 16, 15, 17, 14, 12, 11, 13, 19, 21, 23, 9, 2, 0, 1, 3, 7, 5, 4, 6, 8, 10, 35, 28, 26, 25, 27, 29, 33, 31, 30, 32, 34, 36], []⟩,
  ⟨⟨some 68, (some (56, true)), .load 1 false (.tmp 67)⟩, false, [46, 39, 37, 38, 40, 44, 42, 41, 43, 45, 47, 24, 22, 20, 18, 16, 15, 17, 14, 12, 11, 13, 19, 21, 23, 9, 2, 0, 1, 3, 7, 5, 4, 6, 8, 10, 35, 28, 26, 25, 27, 29, 33, 31, 30, 32, 34, 36], []⟩,
  ⟨⟨some 69, (some (56, true)), .bin .eql (.tmp 68) (.const (.int .i64 4))⟩, false, [47, 45, 43, 41, 42, 44, 40, 38, 37, 39, 46, 48, 24, 22, 20, 18, 16, 15, 17, 14, 12, 11, 13, 19, 21, 23, 9, 2, 0, 1, 3, 7, 5, 4, 6, 8, 10, 35, 28, 26, 25, 27, 29, 33, 31, 30, 32, 34, 36], []⟩,
  ⟨⟨some 70, (some (44, true)), .pick (.tmp 56) (.tmp 69) (.const (.bool false))⟩, false, [36, 34, 32, 30, 31, 33, 29, 27, 25, 26, 28, 35, 48, 46, 39, 37, 38, 40, 44, 42, 41, 43, 45, 47, 49, 10, 8, 6, 4, 5, 7, 3, 1, 0, 2, 9, 23, 21, 19, 13, 11, 12, 14, 17, 15, 16, 18, 20, 22, 24], []⟩,
  ⟨⟨some 71, (some (44, true)), .mov (.tmp 70)⟩, false, [49, 47, 45, 43, 41, 42, 44, 40, 38, 37, 39, 46, 48, 50, 35, 28, 26, 25, 27, 29, 33, 31, 30, 32, 34, 36, 10, 8, 6, 4, 5, 7, 3, 1, 0, 2, 9, 23, 21, 19, 13, 11, 12, 14, 17, 15, 16, 18, 20, 22, 24], []⟩,
  ⟨⟨some 72, (some (71, true)), .mov (.tmp 0)⟩, false, [24, 22, 20, 18, 16, 15, 17, 14, 12, 11, 13, 19, 21, 23, 9, 2, 0, 1, 3, 7, 5, 4, 6, 8, 10, 36, 34, 32, 30, 31, 33, 29, 27, 25, 26, 28, 35, 50, 48, 46, 39, 37, 38, 40, 44, 42, 41, 43, 45, 47, 49, 51], [76, 77, 78, 79, 80]⟩,
  ⟨⟨some 73, (some (71, true)), .nilCheck (.tmp 72)⟩, false, [52, 24, 22, 20, 18, 16, 15, 17, 14, 12, 11, 13, 19, 21, 23, 9, 2, 0, 1, 3, 7, 5, 4, 6, 8, 10, 36, 34, 32, 30, 31, 33, 29, 27, 25, 26, 28, 35, 50, 48, 46, 39, 37, 38, 40, 44, 42, 41, 43, 45, 47, 49, 51], [76, 77, 78, 79, 80]⟩,
  ⟨⟨some 74, (some (71, true)), .fieldAddr 0 (.tmp 73)⟩, false, [52, 53, 24, 22, 20, 18, 16, 15, 17, 14, 12, 11, 13, 19, 21, 23, 9, 2, 0, 1, 3, 7, 5, 4, 6, 8, 10, 36, 34, 32, 30, 31, 33, 29, 27, 25, 26, 28, 35, 50, 48, 46, 39, 37, 38, 40, 44, 42, 41, 43, 45, 47, 49, 51], [76, 77, 78, 79, 80]⟩,
  ⟨⟨some 75, (some (71, true)), .load 1 false (.tmp 74)⟩, false, [53, 52, 54, 24, 22, 20, 18, 16, 15, 17, 14, 12, 11, 13, 19, 21, 23, 9, 2, 0, 1, 3, 7, 5, 4, 6, 8, 10, 36, 34, 32, 30, 31, 33, 29, 27, 25, 26, 28, 35, 50, 48, 46, 39, 37, 38, 40, 44, 42, 41, 43, 45, 47, 49, 51], [76, 77, 78, 79, 80]⟩,
  ⟨⟨some 76, (some (71, true)), .mov (.tmp 0)⟩, false, [24, 22, 20, 18, 16, 15, 17, 14, 12, 11, 13, 19, 21, 23, 9, 2, 0, 1, 3, 7, 5, 4, 6, 8, 10, 36, 34, 32, 30, 31, 33, 29, 27, 25, 26, 28, 35, 50, 48, 46, 39, 37, 38, 40, 44, 42, 41, 43, 45, 47, 49, 51], [72, 73, 74, 75]⟩,
  ⟨⟨some 77, (some (71, true)), .nilCheck (.tmp 76)⟩, false, [56, 24, 22, 20, 18, 16, 15, 17, 14, 12, 11, 13, 19, 21, 23, 9, 2, 0, 1, 3, 7, 5, 4, 6, 8, 10, 36, 34, 32, 30, 31, 33, 29, 27, 25, 26, 28, 35, 50, 48, 46, 39, 37, 38, 40, 44, 42, 41, 43, 45, 47, 49, 51], [72, 73, 74, 75]⟩,
  ⟨⟨some 78, (some (71, true)), .fieldAddr 1 (.tmp 77)⟩, false, [56, 57, 24, 22, 20, 18, 16, 15, 17, 14, 12, 11, 13, 19, 21, 23, 9, 2, 0, 1, 3, 7, 5, 4, 6, 8, 10, 36, 34, 32, 30, 31, 33, 29, 27, 25, 26, 28, 35, 50, 48, 46, 39, 37, 38, 40, 44, 42, 41, 43, 45, 47, 49, 51], [72, 73, 74, 75]⟩,
  ⟨⟨some 79, (some (71, true)), .load 1 false (.tmp 78)⟩, false, [57, 56, 58, 24, 22, 20, 18, 16, 15, 17, 14, 12, 11, 13, 19, 21, 23, 9, 2, 0, 1, 3, 7, 5, 4, 6, 8, 10, 36, 34, 32, 30, 31, 33, 29, 27, 25, 26, 28, 35, 50, 48, 46, 39, 37, 38, 40, 44, 42, 41, 43, 45, 47, 49, 51], [72, 73, 74, 75]⟩,
  ⟨⟨some 80, (some (71, true)), .bin .add (.tmp 79) (.const (.int .i64 1))⟩, false, [58, 56, 57, 59, 24, 22, 20, 18, 16, 15, 17, 14, 12, 11, 13, 19, 21, 23, 9, 2, 0, 1, 3, 7, 5, 4, 6, 8, 10, 36, 34, 32, 30, 31, 33, 29, 27, 25, 26, 28, 35, 50, 48, 46, 39, 37, 38, 40, 44, 42, 41, 43, 45, 47, 49, 51], [72, 73, 74, 75]⟩,
  ⟨⟨some 81, (some (71, true)), .indexAddr 3 (.tmp 75) (.tmp 80)⟩, false, [54, 52, 53, 55, 59, 57, 56, 58, 60, 24, 22, 20, 18, 16, 15, 17, 14, 12, 11, 13, 19, 21, 23, 9, 2, 0, 1, 3, 7, 5, 4, 6, 8, 10, 36, 34, 32, 30, 31, 33, 29, 27, 25, 26, 28, 35, 50, 48, 46, 39, 37, 38, 40, 44, 42, 41, 43, 45, 47, 49, 51], []⟩,
  ⟨⟨some 82, (some (71, true)), .fieldAddr 1 (.tmp 81)⟩, false, [60, 58, 56, 57, 59, 55, 53, 52, 54, 61, 24, 22, 20, 18, 16, 15, 17, 14, 12, 11, 13, 19, 21, 23, 9, 2, 0, 1, 3, 7, 5, 4, 6, 8, 10, 36, 34, 32, 30, 31, 33, 29, 27, 25, 26, 28, 35, 50, 48, 46, 39, 37, 38, 40, 44, 42, 41, 43, 45, 47, 49, 51], []⟩,
  ⟨⟨some 83, (some (71, true)), .load 1 false (.tmp 82)⟩, false, [61, 54, 52, 53, 55, 59, 57, 56, 58, 60, 62, 24, 22, 20, 18, 16, 15, 17, 14, 12, 11, 13, 19, 21, 23, 9, 2, 0, 1, 3, 7, 5, 4, 6, 8, 10, 36, 34, 32, 30, 31, 33, 29, 27, 25, 26, 28, 35, 50, 48, 46, 39, 37, 38, 40, 44, 42, 41, 43, 45, 47, 49, 51], []⟩,
  ⟨⟨some 84, (some (71, true)), .call (.const (.func (.func 78) [] [])) [(.tmp 83)]⟩, true, [62, 60, 58, 56, 57, 59, 55, 53, 52, 54, 61, 63, 24, 22, 20, 18, 16, 15, 17, 14, 12, 11, 13, 19, 21, 23, 9, 2, 0, 1, 3, 7, 5, 4, 6, 8, 10, 36, 34, 32, 30, 31, 33, 29, 27, 25, 26, 28, 35, 50, 48, 46, 39, 37, 38, 40, 44, 42, 41, 43, 45, 47, 49, 51], []⟩,
  ⟨⟨some 85, (some (71, true)), .bin .gtr (.tmp 84) (.const (.int .i64 0))⟩, false, [63, 61, 54, 52, 53, 55, 59, 57, 56, 58, 60, 62, 64, 24, 22, 20, 18, 16, 15, 17, 14, 12, 11, 13, 19, 21, 23, 9, 2, 0, 1, 3, 7, 5, 4, 6, 8, 10, 36, 34, 32, 30, 31, 33, 29, 27, 25, 26, 28, 35, 50, 48, 46, 39, 37, 38, 40, 44, 42, 41, 43, 45, 47, 49, 51], []⟩,
  ⟨⟨some 86, (some (44, true)), .pick (.tmp 71) (.tmp 85) (.const (.bool false))⟩, false, [51, 49, 47, 45, 43, 41, 42, 44, 40, 38, 37, 39, 46, 48, 50, 35, 28, 26, 25, 27, 29, 33, 31, 30, 32, 34, 36, 64, 62, 60, 58, 56, 57, 59, 55, 53, 52, 54, 61, 63, 65, 10, 8, 6, 4, 5, 7, 3, 1, 0, 2, 9, 23, 21, 19, 13, 11, 12, 14, 17, 15, 16, 18, 20, 22, 24], []⟩,
  ⟨⟨some 87, (some (44, true)), .un .not (.tmp 86)⟩, false, [65, 63, 61, 54, 52, 53, 55, 59, 57, 56, 58, 60, 62, 64, 36, 34, 32, 30, 31, 33, 29, 27, 25, 26, 28, 35, 50, 48, 46, 39, 37, 38, 40, 44, 42, 41, 43, 45, 47, 49, 51, 66, 10, 8, 6, 4, 5, 7, 3, 1, 0, 2, 9, 23, 21, 19, 13, 11, 12, 14, 17, 15, 16, 18, 20, 22, 24], []⟩,
  ⟨⟨some 88, none, .pick (.tmp 44) (.tmp 87) (.const (.bool false))⟩, false, [24, 22, 20, 18, 16, 15, 17, 14, 12, 11, 13, 19, 21, 23, 9, 2, 0, 1, 3, 7, 5, 4, 6, 8, 10, 66, 51, 49, 47, 45, 43, 41, 42, 44, 40, 38, 37, 39, 46, 48, 50, 35, 28, 26, 25, 27, 29, 33, 31, 30, 32, 34, 36, 64, 62, 60, 58, 56, 57, 59, 55, 53, 52, 54, 61, 63, 65, 67], []⟩])
 (.cond (.tmp 88) (.seq (.region [⟨some 89, none, .mov (.tmp 0)⟩,
  ⟨some 90, none, .call (.const (.func (.func 58) [] [])) [(.tmp 89)]⟩,
  ⟨none, none, .store 3 (.tmp 2) (.tmp 90)⟩])
 .ret) .skip))
 (.seq (.region [⟨some 91, none, .mov (.tmp 0)⟩,
  ⟨some 92, none, .call (.const (.func (.func 77) [] [])) [(.tmp 91)]⟩,
  ⟨some 4, none, .alloc [(.int .i64 0), (.str []), (.int .i64 0)]⟩,
  ⟨none, none, .store 3 (.tmp 4) (.tmp 92)⟩])
 (.seq (.seq (.drawn [⟨⟨some 93, none, .mov (.tmp 0)⟩, false, [], []⟩,
  ⟨⟨some 94, none, .nilCheck (.tmp 93)⟩, false, [0], []⟩,
  ⟨⟨some 95, none, .fieldAddr 2 (.tmp 94)⟩, false, [0, 1], []⟩,
  ⟨⟨some 96, none, .load 1 false (.tmp 95)⟩, false, [1, 0, 2], []⟩,
  ⟨⟨some 97, none, .bin .neq (.tmp 96) (.const (.int .i64 0))⟩, false, [2, 0, 1, 3], []⟩,
  ⟨⟨some 98, none, .mov (.tmp 97)⟩, false, [3, 1, 0, 2, 4], []⟩,
  ⟨⟨some 99, (some (98, false)), .mov (.tmp 0)⟩, false, [4, 2, 0, 1, 3, 5], [103, 104, 105, 106, 107]⟩,
  ⟨⟨some 100, (some (98, false)), .nilCheck (.tmp 99)⟩, false, [6, 4, 2, 0, 1, 3, 5], [103, 104, 105, 106, 107]⟩,
  ⟨⟨some 101, (some (98, false)), .fieldAddr 1 (.tmp 100)⟩, false, [6, 7, 4, 2, 0, 1, 3, 5], [103, 104, 105, 106, 107]⟩,
  ⟨⟨some 102, (some (98, false)), .load 1 false (.tmp 101)⟩, false, [7, 6, 8, 4, 2, 0, 1, 3, 5], [103, 104, 105, 106, 107]⟩,
  ⟨⟨some 103, (some (98, false)), .mov (.tmp 0)⟩, false, [4, 2, 0, 1, 3, 5], [99, 100, 101, 102]⟩,
  ⟨⟨some 104, (some (98, false)), .nilCheck (.tmp 103)⟩, false, [10, 4, 2, 0, 1, 3, 5], [99, 100, 101, 102]⟩,
  ⟨⟨some 105, (some (98, false)), .fieldAddr 0 (.tmp 104)⟩, false, [10, 11, 4, 2, 0, 1, 3, 5], [99, 100, 101, 102]⟩,
  ⟨⟨some 106, (some (98, false)), .load 1 false (.tmp 105)⟩, false, [11, 10, 12, 4, 2, 0, 1, 3, 5], [99, 100, 101, 102]⟩,
  ⟨⟨some 107, (some (98, false)), .lenSl (.tmp 106)⟩, false, [12, 10, 11, 13, 4, 2, 0, 1, 3, 5], [99, 100, 101, 102]⟩,
  ⟨⟨some 108, (some (98, false)), .bin .geq (.tmp 102) (.tmp 107)⟩, false, [8, 6, 7, 9, 13, 11, 10, 12, 14, 4, 2, 0, 1, 3, 5], []⟩,
  ⟨⟨some 109, none, .pick (.tmp 98) (.const (.bool true)) (.tmp 108)⟩, false, [5, 3, 1, 0, 2, 4, 14, 12, 10, 11, 13, 9, 7, 6, 8, 15], []⟩,
  ⟨⟨some 110, none, .mov (.tmp 109)⟩, false, [15, 8, 6, 7, 9, 13, 11, 10, 12, 14, 16, 4, 2, 0, 1, 3, 5], []⟩,
  ⟨⟨some 111, (some (110, false)), .mov (.tmp 0)⟩, false, [5, 3, 1, 0, 2, 4, 16, 14, 12, 10, 11, 13, 9, 7, 6, 8, 15, 17], [115, 116, 117, 118]⟩,
  ⟨⟨some 112, (some (110, false)), .nilCheck (.tmp 111)⟩, false, [18, 5, 3, 1, 0, 2, 4, 16, 14, 12, 10, 11, 13, 9, 7, 6, 8, 15, 17], [115, 116, 117, 118]⟩,
  ⟨⟨some 113, (some (110, false)), .fieldAddr 0 (.tmp 112)⟩, false, [18, 19, 5, 3, 1, 0, 2, 4, 16, 14, 12, 10, 11, 13, 9, 7, 6, 8, 15, 17], [115, 116, 117, 118]⟩,
  ⟨⟨some 114, (some (110, false)), .load 1 false (.tmp 113)⟩, false, [19, 18, 20, 5, 3, 1, 0, 2, 4, 16, 14, 12, 10, 11, 13, 9, 7, 6, 8, 15, 17], [115, 116, 117, 118]⟩,
  ⟨⟨some 115, (some (110, false)), .mov (.tmp 0)⟩, false, [5, 3, 1, 0, 2, 4, 16, 14, 12, 10, 11, 13, 9, 7, 6, 8, 15, 17], [111, 112, 113, 114]⟩,
  ⟨⟨some 116, (some (110, false)), .nilCheck (.tmp 115)⟩, false, [22, 5, 3, 1, 0, 2, 4, 16, 14, 12, 10, 11, 13, 9, 7, 6, 8, 15, 17], [111, 112, 113, 114]⟩,
  ⟨⟨some 117, (some (110, false)), .fieldAddr 1 (.tmp 116)⟩, false, [22, 23, 5, 3, 1, 0, 2, 4, 16, 14, 12, 10, 11, 13, 9, 7, 6, 8, 15, 17], [111, 112, 113, 114]⟩,
  ⟨⟨some 118, (some (110, false)), .load 1 false (.tmp 117)⟩, false, [23, 22, 24, 5, 3, 1, 0, 2, 4, 16, 14, 12, 10, 11, 13, 9, 7, 6, 8, 15, 17], [111, 112, 113, 114]⟩,
  ⟨⟨some 119, (some (110, false)), .indexAddr 3 (.tmp 114) (.tmp 118)⟩, false, [20, 18, 19, 21, 24, 22, 23, 25, 5, 3, 1, 0, 2, 4, 16, 14, 12, 10, 11, 13, 9, 7, 6, 8, 15, 17], []⟩,
  ⟨⟨some 120, (some (110, false)), .fieldAddr 0 (.tmp 119)⟩, false, [25, 23, 22, 24, 21, 19, 18, 20, 26, 5, 3, 1, 0, 2, 4, 16, 14, 12, 10, 11, 13, 9, 7, 6, 8, 15, 17], []⟩,
  ⟨⟨some 121, (some (110, false)), .load 1 false (.tmp 120)⟩, false, [26, 20, 18, 19, 21, 24, 22, 23, 25, 27, 5, 3, 1, 0, 2, 4, 16, 14, 12, 10, 11, 13, 9, 7, 6, 8, 15, 17], []⟩,
  ⟨⟨some 122, (some (110, false)), .bin .neq (.tmp 121) (.const (.int .i64 4))⟩, false, [27, 25, 23, 22, 24, 21, 19, 18, 20, 26, 28, 5, 3, 1, 0, 2, 4, 16, 14, 12, 10, 11, 13, 9, 7, 6, 8, 15, 17], []⟩,
  ⟨⟨some 123, none, .pick (.tmp 110) (.const (.bool true)) (.tmp 122)⟩, false, [17, 15, 8, 6, 7, 9, 13, 11, 10, 12, 14, 16, 4, 2, 0, 1, 3, 5, 28, 26, 20, 18, 19, 21, 24, 22, 23, 25, 27, 29], []⟩,
  ⟨⟨some 124, none, .mov (.tmp 123)⟩, false, [29, 27, 25, 23, 22, 24, 21, 19, 18, 20, 26, 28, 30, 5, 3, 1, 0, 2, 4, 16, 14, 12, 10, 11, 13, 9, 7, 6, 8, 15, 17], []⟩,
  ⟨⟨some 125, (some (124, false)), .mov (.tmp 0)⟩, false, [17, 15, 8, 6, 7, 9, 13, 11, 10, 12, 14, 16, 4, 2, 0, 1, 3, 5, 30, 28, 26, 20, 18, 19, 21, 24, 22, 23, 25, 27, 29, 31], [129, 130, 131, 132]⟩,
  ⟨⟨some 126, (some (124, false)), .nilCheck (.tmp 125)⟩, false, [32, 17, 15, 8, 6, 7, 9, 13, 11, 10, 12, 14, 16, 4, 2, 0, 1, 3, 5, 30, 28, 26, 20, 18, 19, 21, 24, 22, 23, 25, 27, 29, 31], [129, 130, 131, 132]⟩,
  ⟨⟨some 127, (some (124, false)), .fieldAddr 0 (.tmp 126)⟩, false, [32, 33, 17, 15, 8, 6, 7, 9, 13, 11, 10, 12, 14, 16, 4, 2, 0, 1, 3, 5, 30, 28, 26, 20, 18, 19, 21, 24, 22, 23, 25, 27, 29, 31], [129, 130, 131, 132]⟩,
  ⟨⟨some 128, (some (124, false)), .load 1 false (.tmp 127)⟩, false, [33, 32, 34, 17, 15, 8, 6, 7, 9, 13, 11, 10, 12, 14, 16, 4, 2, 0, 1, 3, 5, 30, 28, 26, 20, 18, 19, 21, 24, 22, 23, 25, 27, 29, 31], [129, 130, 131, 132]⟩,
  ⟨⟨some 129, (some (124, false)), .mov (.tmp 0)⟩, false, [17, 15, 8, 6, 7, 9, 13, 11, 10, 12, 14, 16, 4, 2, 0, 1, 3, 5, 30, 28, 26, 20, 18, 19, 21, 24, 22, 23, 25, 27, 29, 31], [125, 126, 127, 128]⟩,
  ⟨⟨some 130, (some (124, false)), .nilCheck (.tmp 129)⟩, false, [36, 17, 15, 8, 6, 7, 9, 13, 11, 10, 12, 14, 16, 4, 2, 0, 1, 3, 5, 30, 28, 26, 20, 18, 19, 21, 24, 22, 23, 25, 27, 29, 31], [125, 126, 127, 128]⟩,
  ⟨⟨some 131, (some (124, false)), .fieldAddr 1 (.tmp 130)⟩, false, [36, 37, 17, 15, 8, 6, 7, 9, 13, 11, 10, 12, 14, 16, 4, 2, 0, 1, 3, 5, 30, 28, 26, 20, 18, 19, 21, 24, 22, 23, 25, 27, 29, 31], [125, 126, 127, 128]⟩,
  ⟨⟨some 132, (some (124, false)), .load 1 false (.tmp 131)⟩, false, [37, 36, 38, 17, 15, 8, 6, 7, 9, 13, 11, 10, 12, 14, 16, 4, 2, 0, 1, 3, 5, 30, 28, 26, 20, 18, 19, 21, 24, 22, 23, 25, 27, 29, 31], [125, 126, 127, 128]⟩,
  ⟨⟨some 133, (some (124, false)), .indexAddr 3 (.tmp 128) (.tmp 132)⟩, false, [34, 32, 33, 35, 38, 36, 37, 39, 17, 15, 8, 6, 7, 9, 13, 11, 10, 12, 14, 16, 4, 2, 0, 1, 3, 5, 30, 28, 26, 20, 18, 19, 21, 24, 22, 23, 25, 27, 29, 31], []⟩,
  ⟨⟨some 134, (some (124, false)), .fieldAddr 1 (.tmp 133)⟩, false, [39, 37, 36, 38, 35, 33, 32, 34, 40, 17, 15, 8, 6, 7, 9, 13, 11, 10, 12, 14, 16, 4, 2, 0, 1, 3, 5, 30, 28, 26, 20, 18, 19, 21, 24, 22, 23, 25, 27, 29, 31], []⟩,
  ⟨⟨some 135, (some (124, false)), .load 1 false (.tmp 134)⟩, false, [40, 34, 32, 33, 35, 38, 36, 37, 39, 41, 17, 15, 8, 6, 7, 9, 13, 11, 10, 12, 14, 16, 4, 2, 0, 1, 3, 5, 30, 28, 26, 20, 18, 19, 21, 24, 22, 23, 25, 27, 29, 31], []⟩,
  ⟨⟨some 136, (some (124, false)), .call (.const (.func (.func 78) [] [])) [(.tmp 135)]⟩, true, [41, 39, 37, 36, 38, 35, 33, 32, 34, 40, 42, 17, 15, 8, 6, 7, 9, 13, 11, 10, 12, 14, 16, 4, 2, 0, 1, 3, 5, 30, 28, 26, 20, 18, 19, 21, 24, 22, 23, 25, 27, 29, 31], []⟩,
  ⟨⟨some 137, (some (124, false)), .bin .eql (.tmp 136) (.const (.int .i64 0))⟩, false, [42, 40, 34, 32, 33, 35, 38, 36, 37, 39, 41, 43, 17, 15, 8, 6, 7, 9, 13, 11, 10, 12, 14, 16, 4, 2, 0, 1, 3, 5, 30, 28, 26, 20, 18, 19, 21, 24, 22, 23, 25, 27, 29, 31], []⟩,
  ⟨⟨some 138, none, .pick (.tmp 124) (.const (.bool true)) (.tmp 137)⟩, false, [31, 29, 27, 25, 23, 22, 24, 21, 19, 18, 20, 26, 28, 30, 5, 3, 1, 0, 2, 4, 16, 14, 12, 10, 11, 13, 9, 7, 6, 8, 15, 17, 43, 41, 39, 37, 36, 38, 35, 33, 32, 34, 40, 42, 44], []⟩])
 (.cond (.tmp 138) k60_1 .skip))
 (.seq (.drawn [⟨⟨some 142, none, .mov (.tmp 0)⟩, false, [], [146, 147, 148, 149]⟩,
  ⟨⟨some 143, none, .nilCheck (.tmp 142)⟩, false, [0], [146, 147, 148, 149]⟩,
  ⟨⟨some 144, none, .fieldAddr 0 (.tmp 143)⟩, false, [0, 1], [146, 147, 148, 149]⟩,
  ⟨⟨some 145, none, .load 1 false (.tmp 144)⟩, false, [1, 0, 2], [146, 147, 148, 149]⟩,
  ⟨⟨some 146, none, .mov (.tmp 0)⟩, false, [], [142, 143, 144, 145]⟩,
  ⟨⟨some 147, none, .nilCheck (.tmp 146)⟩, false, [4], [142, 143, 144, 145]⟩,
  ⟨⟨some 148, none, .fieldAddr 1 (.tmp 147)⟩, false, [4, 5], [142, 143, 144, 145]⟩,
  ⟨⟨some 149, none, .load 1 false (.tmp 148)⟩, false, [5, 4, 6], [142, 143, 144, 145]⟩,
  ⟨⟨some 150, none, .indexAddr 3 (.tmp 145) (.tmp 149)⟩, false, [2, 0, 1, 3, 6, 4, 5, 7], []⟩,
  ⟨⟨some 151, none, .fieldAddr 1 (.tmp 150)⟩, false, [7, 5, 4, 6, 3, 1, 0, 2, 8], []⟩,
  ⟨⟨some 152, none, .load 1 false (.tmp 151)⟩, false, [8, 2, 0, 1, 3, 6, 4, 5, 7, 9], []⟩,
  ⟨⟨some 153, none, .call (.const (.func (.func 78) [] [])) [(.tmp 152)]⟩, true, [9, 7, 5, 4, 6, 3, 1, 0, 2, 8, 10], []⟩,
  ⟨⟨some 5, none, .mov (.tmp 153)⟩, false, [10, 8, 2, 0, 1, 3, 6, 4, 5, 7, 9, 11], []⟩])
 (.seq (.region [⟨some 154, none, .mov (.tmp 0)⟩,
  ⟨some 155, none, .nilCheck (.tmp 154)⟩,
  ⟨some 156, none, .fieldAddr 1 (.tmp 155)⟩,
  ⟨some 157, none, .load 1 false (.tmp 156)⟩,
  ⟨some 158, none, .bin .add (.tmp 157) (.const (.int .i64 1))⟩,
  ⟨some 159, none, .nilCheck (.tmp 154)⟩,
  ⟨some 160, none, .fieldAddr 1 (.tmp 159)⟩,
  ⟨none, none, .store 1 (.tmp 160) (.tmp 158)⟩])
 (.seq (.region [⟨some 161, none, .mov (.tmp 0)⟩,
  ⟨some 162, none, .call (.const (.func (.func 77) [] [])) [(.tmp 161)]⟩,
  ⟨some 6, none, .alloc [(.int .i64 0), (.str []), (.int .i64 0)]⟩,
  ⟨none, none, .store 3 (.tmp 6) (.tmp 162)⟩])
 (.seq (.region [⟨some 163, none, .mov (.tmp 5)⟩,
  ⟨some 164, none, .load 3 true (.tmp 4)⟩,
  ⟨some 165, none, .load 3 true (.tmp 6)⟩,
  ⟨some 166, none, .buildSlice 2 [(.int .i64 0), (.str []), (.int .i64 0), (.int .i64 0), (.str []), (.int .i64 0)] [(0, 3, (.tmp 164)), (3, 3, (.tmp 165))]⟩,
  ⟨some 167, none, .build [(.int .i64 0), (.str []), .nilslice] [(0, 1, (.tmp 163)), (2, 1, (.tmp 166))]⟩,
  ⟨none, none, .store 3 (.tmp 2) (.tmp 167)⟩])
 .ret)))))))))⟩
theorem c60 : (XTab.of Try.prog).code 60 = some k60 := by kernel_rfl

end Go.Proofs.Ytjidefnbancmfaa
