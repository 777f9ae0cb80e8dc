/- A part of the proof. -/
import Derived.Test.YtjidefnbancmfaaRows
import Derived.Test.YtjidefnbancmfaaAgC
set_option maxRecDepth 100000
namespace Go.Proofs.Ytjidefnbancmfaa
open Go.AE
/-! delphi/plan.Make -/
def k28_0 : ACode := (.seq (.seq (.drawn [⟨⟨some 46, none, .mov (.tmp 6)⟩, false, [], [52, 53, 54]⟩,
  ⟨⟨some 47, none, .nilCheck (.tmp 46)⟩, false, [0], [52, 53, 54]⟩,
  ⟨⟨some 48, none, .fieldAddr 3 (.tmp 47)⟩, false, [0, 1], [52, 53, 54]⟩,
  ⟨⟨some 49, none, .fieldAddr 0 (.tmp 48)⟩, false, [1, 0, 2], [52, 53, 54]⟩,
  ⟨⟨some 50, none, .load 1 false (.tmp 49)⟩, false, [2, 0, 1, 3], [52, 53, 54]⟩,
  ⟨⟨some 51, none, .lenSl (.tmp 50)⟩, false, [3, 1, 0, 2, 4], [52, 53, 54]⟩,
  ⟨⟨some 52, none, .fieldAddr 3 (.tmp 2)⟩, false, [], [46, 47, 48, 49, 50, 51]⟩,
  ⟨⟨some 53, none, .load 1 false (.tmp 52)⟩, false, [6], [46, 47, 48, 49, 50, 51]⟩,
  ⟨⟨some 54, none, .lenSl (.tmp 53)⟩, false, [6, 7], [46, 47, 48, 49, 50, 51]⟩,
  ⟨⟨some 55, none, .bin .lss (.tmp 51) (.tmp 54)⟩, false, [4, 2, 0, 1, 3, 5, 7, 6, 8], []⟩])
 (.cond (.tmp 55) .skip (.exit 0)))
 (.block 1 (.region [⟨some 56, none, .mov (.tmp 6)⟩,
  ⟨some 57, none, .mov (.tmp 6)⟩,
  ⟨some 58, none, .call (.const (.func (.func 50) [] [])) [(.tmp 57)]⟩,
  ⟨some 59, none, .call (.const (.func (.func 49) [] [])) [(.tmp 56), (.tmp 58)]⟩])))
def k28 : AFun := ⟨64, [.cell 4 2 true, .tmp 5], (.seq (.region [⟨some 2, none, .box (.tmp 0)⟩,
  ⟨some 4, none, .alloc [.nilslice, .nilslice]⟩,
  ⟨some 5, none, .mov (.const (.bool false))⟩])
 (.seq (.seq (.region [⟨some 7, none, .load 4 true (.tmp 2)⟩,
  ⟨some 8, none, .call (.const (.func (.func 15) [] [])) [(.tmp 7)]⟩,
  ⟨some 9, none, .un .not (.tmp 8)⟩,
  ⟨some 10, none, .mov (.tmp 9)⟩,
  ⟨some 11, (some (10, false)), .mov (.tmp 1)⟩,
  ⟨some 12, (some (10, false)), .bin .lss (.tmp 11) (.const (.int .i64 (-1)))⟩,
  ⟨some 13, none, .pick (.tmp 10) (.const (.bool true)) (.tmp 12)⟩,
  ⟨some 14, none, .mov (.tmp 13)⟩,
  ⟨some 15, (some (14, false)), .mov (.tmp 1)⟩,
  ⟨some 16, (some (14, false)), .fieldAddr 3 (.tmp 2)⟩,
  ⟨some 17, (some (14, false)), .load 1 false (.tmp 16)⟩,
  ⟨some 18, (some (14, false)), .lenSl (.tmp 17)⟩,
  ⟨some 19, (some (14, false)), .bin .geq (.tmp 15) (.tmp 18)⟩,
  ⟨some 20, none, .pick (.tmp 14) (.const (.bool true)) (.tmp 19)⟩,
  ⟨some 21, none, .mov (.tmp 20)⟩,
  ⟨some 22, (some (21, false)), .mov (.tmp 1)⟩,
  ⟨some 23, (some (21, false)), .bin .geq (.tmp 22) (.const (.int .i64 0))⟩,
  ⟨some 24, (some (21, false)), .mov (.tmp 23)⟩,
  ⟨some 25, (some (24, true)), .fieldAddr 3 (.tmp 2)⟩,
  ⟨some 26, (some (24, true)), .load 1 false (.tmp 25)⟩,
  ⟨some 27, (some (24, true)), .mov (.tmp 1)⟩,
  ⟨some 28, (some (24, true)), .indexAddr 3 (.tmp 26) (.tmp 27)⟩,
  ⟨some 29, (some (24, true)), .fieldAddr 0 (.tmp 28)⟩,
  ⟨some 30, (some (24, true)), .load 1 false (.tmp 29)⟩,
  ⟨some 31, (some (24, true)), .bin .neq (.tmp 30) (.const (.int .i64 1))⟩,
  ⟨some 32, (some (21, false)), .pick (.tmp 24) (.tmp 31) (.const (.bool false))⟩,
  ⟨some 33, none, .pick (.tmp 21) (.const (.bool true)) (.tmp 32)⟩])
 (.cond (.tmp 33) (.seq (.region [⟨some 34, none, .build [.nilslice, .nilslice] []⟩,
  ⟨none, none, .store 2 (.tmp 4) (.tmp 34)⟩,
  ⟨some 5, none, .mov (.const (.bool false))⟩])
 .ret) .skip))
 (.seq (.region [⟨some 35, none, .fieldAddr 3 (.tmp 2)⟩,
  ⟨some 36, none, .load 1 false (.tmp 35)⟩,
  ⟨some 37, none, .mkMap⟩,
  ⟨some 38, none, .mkMap⟩,
  ⟨some 39, none, .build [.nilslice, .nilmap, .nilmap, .nilslice, .nilslice] [(0, 1, (.tmp 36)), (1, 1, (.tmp 37)), (2, 1, (.tmp 38))]⟩,
  ⟨some 40, none, .box (.tmp 39)⟩,
  ⟨some 6, none, .mov (.tmp 40)⟩])
 (.seq (.seq (.region [⟨some 41, none, .mov (.tmp 1)⟩,
  ⟨some 42, none, .bin .geq (.tmp 41) (.const (.int .i64 0))⟩])
 (.cond (.tmp 42) (.region [⟨some 43, none, .mov (.tmp 6)⟩,
  ⟨some 44, none, .mov (.tmp 1)⟩,
  ⟨some 45, none, .call (.const (.func (.func 49) [] [])) [(.tmp 43), (.tmp 44)]⟩]) .skip))
 (.seq (.block 0 (.loop k28_0))
 (.seq (.region [⟨some 60, none, .mov (.tmp 6)⟩,
  ⟨some 61, none, .nilCheck (.tmp 60)⟩,
  ⟨some 62, none, .fieldAddr 3 (.tmp 61)⟩,
  ⟨some 63, none, .load 2 true (.tmp 62)⟩,
  ⟨none, none, .store 2 (.tmp 4) (.tmp 63)⟩,
  ⟨some 5, none, .mov (.const (.bool true))⟩])
 .ret))))))⟩
theorem c28 : (XTab.of Try.prog).code 28 = some k28 := by kernel_rfl

/-! delphi/delphiref8.Plan -/
def k29_0 : ACode := (.seq (.region [⟨some 49, none, .mov (.tmp 7)⟩,
  ⟨some 50, none, .mov (.tmp 1)⟩,
  ⟨some 51, none, .buildSlice 1 [(.int .i64 0)] [(0, 1, (.tmp 50))]⟩,
  ⟨some 52, none, .append 1 8 (.tmp 49) (.tmp 51)⟩,
  ⟨some 7, none, .mov (.tmp 52)⟩])
 (.seq (.region [⟨some 53, none, .mov (.tmp 9)⟩,
  ⟨some 54, none, .mov (.tmp 1)⟩,
  ⟨some 55, none, .indexAddr 1 (.tmp 53) (.tmp 54)⟩,
  ⟨none, none, .store 1 (.tmp 55) (.const (.bool true))⟩])
 (.region [⟨some 56, none, .mov (.tmp 8)⟩,
  ⟨some 57, none, .fieldAddr 3 (.tmp 2)⟩,
  ⟨some 58, none, .load 1 false (.tmp 57)⟩,
  ⟨some 59, none, .mov (.tmp 1)⟩,
  ⟨some 60, none, .indexAddr 3 (.tmp 58) (.tmp 59)⟩,
  ⟨some 61, none, .load 3 true (.tmp 60)⟩,
  ⟨some 62, none, .mov (.tmp 8)⟩,
  ⟨some 63, none, .call (.const (.func (.func 51) [] [])) [(.tmp 61), (.tmp 62)]⟩,
  ⟨some 64, none, .append 1 16 (.tmp 56) (.tmp 63)⟩,
  ⟨some 8, none, .mov (.tmp 64)⟩])))
def k29_1 : ACode := (.seq (.seq (.drawn [⟨⟨some 90, none, .load 3 true (.tmp 13)⟩, false, [], [91, 93, 94, 95]⟩,
  ⟨⟨some 91, none, .mov (.tmp 8)⟩, false, [], [90, 93, 94, 95]⟩,
  ⟨⟨some 92, none, .call (.const (.func (.func 52) [] [])) [(.tmp 90), (.tmp 91)]⟩, true, [0, 1], [93, 94, 95]⟩,
  ⟨⟨some 93, none, .fieldAddr 2 (.tmp 13)⟩, false, [], [90, 91, 92]⟩,
  ⟨⟨some 94, none, .load 1 false (.tmp 93)⟩, false, [3], [90, 91, 92]⟩,
  ⟨⟨some 95, none, .lenSl (.tmp 94)⟩, false, [3, 4], [90, 91, 92]⟩,
  ⟨⟨some 96, none, .bin .eql (.tmp 92) (.tmp 95)⟩, false, [1, 0, 2, 4, 3, 5], []⟩])
 (.cond (.tmp 96) (.seq (.region [⟨some 97, none, .mov (.tmp 12)⟩,
  ⟨some 10, none, .mov (.tmp 97)⟩])
 (.exit 2)) .skip))
 (.exit 3))
def k29_2 : ACode := (.region [⟨some 103, none, .mov (.tmp 12)⟩,
  ⟨some 104, none, .load 3 true (.tmp 13)⟩,
  ⟨some 105, none, .mov (.tmp 8)⟩,
  ⟨some 106, none, .call (.const (.func (.func 52) [] [])) [(.tmp 104), (.tmp 105)]⟩,
  ⟨some 10, none, .mov (.tmp 103)⟩,
  ⟨some 11, none, .mov (.tmp 106)⟩])
def k29_3 : ACode := (.seq (.region [⟨some 78, none, .fieldAddr 3 (.tmp 2)⟩,
  ⟨some 79, none, .load 1 false (.tmp 78)⟩,
  ⟨some 80, none, .mov (.tmp 12)⟩,
  ⟨some 81, none, .indexAddr 3 (.tmp 79) (.tmp 80)⟩,
  ⟨some 82, none, .load 3 true (.tmp 81)⟩,
  ⟨some 13, none, .alloc [(.int .i64 0), (.str []), .nilslice]⟩,
  ⟨none, none, .store 3 (.tmp 13) (.tmp 82)⟩])
 (.seq (.seq (.region [⟨some 83, none, .mov (.tmp 9)⟩,
  ⟨some 84, none, .mov (.tmp 12)⟩,
  ⟨some 85, none, .indexAddr 1 (.tmp 83) (.tmp 84)⟩,
  ⟨some 86, none, .load 1 false (.tmp 85)⟩])
 (.cond (.tmp 86) (.exit 3) .skip))
 (.seq (.seq (.region [⟨some 87, none, .fieldAddr 0 (.tmp 13)⟩,
  ⟨some 88, none, .load 1 false (.tmp 87)⟩,
  ⟨some 89, none, .bin .neq (.tmp 88) (.const (.int .i64 1))⟩])
 (.cond (.tmp 89) k29_1 .skip))
 (.seq (.region [⟨some 98, none, .load 3 true (.tmp 13)⟩,
  ⟨some 99, none, .mov (.tmp 8)⟩,
  ⟨some 100, none, .call (.const (.func (.func 52) [] [])) [(.tmp 98), (.tmp 99)]⟩,
  ⟨some 101, none, .mov (.tmp 11)⟩,
  ⟨some 102, none, .bin .gtr (.tmp 100) (.tmp 101)⟩])
 (.cond (.tmp 102) k29_2 .skip)))))
def k29_4 : ACode := (.seq (.seq (.region [⟨some 71, none, .mov (.tmp 12)⟩,
  ⟨some 72, none, .fieldAddr 3 (.tmp 2)⟩,
  ⟨some 73, none, .load 1 false (.tmp 72)⟩,
  ⟨some 74, none, .lenSl (.tmp 73)⟩,
  ⟨some 75, none, .bin .lss (.tmp 71) (.tmp 74)⟩])
 (.cond (.tmp 75) .skip (.exit 2)))
 (.seq (.block 3 k29_3)
 (.region [⟨some 76, none, .mov (.tmp 12)⟩,
  ⟨some 77, none, .bin .add (.tmp 76) (.const (.int .i64 1))⟩,
  ⟨some 12, none, .mov (.tmp 77)⟩])))
def k29_5 : ACode := (.seq (.region [⟨some 114, none, .fieldAddr 3 (.tmp 2)⟩,
  ⟨some 115, none, .load 1 false (.tmp 114)⟩,
  ⟨some 116, none, .mov (.tmp 14)⟩,
  ⟨some 117, none, .indexAddr 3 (.tmp 115) (.tmp 116)⟩,
  ⟨some 118, none, .load 3 true (.tmp 117)⟩,
  ⟨some 15, none, .alloc [(.int .i64 0), (.str []), .nilslice]⟩,
  ⟨none, none, .store 3 (.tmp 15) (.tmp 118)⟩])
 (.seq (.drawn [⟨⟨some 119, none, .mov (.tmp 9)⟩, false, [], [120]⟩,
  ⟨⟨some 120, none, .mov (.tmp 14)⟩, false, [], [119]⟩,
  ⟨⟨some 121, none, .indexAddr 1 (.tmp 119) (.tmp 120)⟩, false, [0, 1], []⟩,
  ⟨⟨some 122, none, .load 1 false (.tmp 121)⟩, false, [1, 0, 2], []⟩,
  ⟨⟨some 123, none, .un .not (.tmp 122)⟩, false, [2, 0, 1, 3], []⟩,
  ⟨⟨some 124, none, .mov (.tmp 123)⟩, false, [3, 1, 0, 2, 4], []⟩,
  ⟨⟨some 125, (some (124, true)), .fieldAddr 0 (.tmp 15)⟩, false, [4, 2, 0, 1, 3, 5], []⟩,
  ⟨⟨some 126, (some (124, true)), .load 1 false (.tmp 125)⟩, false, [6, 4, 2, 0, 1, 3, 5], []⟩,
  ⟨⟨some 127, (some (124, true)), .bin .neq (.tmp 126) (.const (.int .i64 1))⟩, false, [6, 7, 4, 2, 0, 1, 3, 5], []⟩,
  ⟨⟨some 128, none, .pick (.tmp 124) (.tmp 127) (.const (.bool false))⟩, false, [5, 3, 1, 0, 2, 4, 7, 6, 8], []⟩,
  ⟨⟨some 129, none, .mov (.tmp 128)⟩, false, [8, 6, 7, 9, 4, 2, 0, 1, 3, 5], []⟩,
  ⟨⟨some 130, (some (129, true)), .load 3 true (.tmp 15)⟩, false, [5, 3, 1, 0, 2, 4, 9, 7, 6, 8, 10], [131, 133, 134, 135]⟩,
  ⟨⟨some 131, (some (129, true)), .mov (.tmp 8)⟩, false, [5, 3, 1, 0, 2, 4, 9, 7, 6, 8, 10], [130, 133, 134, 135]⟩,
  ⟨⟨some 132, (some (129, true)), .call (.const (.func (.func 52) [] [])) [(.tmp 130), (.tmp 131)]⟩, true, [11, 12, 5, 3, 1, 0, 2, 4, 9, 7, 6, 8, 10], [133, 134, 135]⟩,
  ⟨⟨some 133, (some (129, true)), .fieldAddr 2 (.tmp 15)⟩, false, [5, 3, 1, 0, 2, 4, 9, 7, 6, 8, 10], [130, 131, 132]⟩,
  ⟨⟨some 134, (some (129, true)), .load 1 false (.tmp 133)⟩, false, [14, 5, 3, 1, 0, 2, 4, 9, 7, 6, 8, 10], [130, 131, 132]⟩,
  ⟨⟨some 135, (some (129, true)), .lenSl (.tmp 134)⟩, false, [14, 15, 5, 3, 1, 0, 2, 4, 9, 7, 6, 8, 10], [130, 131, 132]⟩,
  ⟨⟨some 136, (some (129, true)), .bin .eql (.tmp 132) (.tmp 135)⟩, false, [12, 11, 13, 15, 14, 16, 5, 3, 1, 0, 2, 4, 9, 7, 6, 8, 10], []⟩,
  ⟨⟨some 137, none, .pick (.tmp 129) (.tmp 136) (.const (.bool false))⟩, false, [10, 8, 6, 7, 9, 4, 2, 0, 1, 3, 5, 16, 14, 15, 13, 11, 12, 17], []⟩])
 (.cond (.tmp 137) (.seq (.region [⟨some 138, none, .mov (.tmp 14)⟩,
  ⟨some 10, none, .mov (.tmp 138)⟩])
 (.exit 4)) .skip)))
def k29_6 : ACode := (.seq (.seq (.region [⟨some 107, none, .mov (.tmp 14)⟩,
  ⟨some 108, none, .fieldAddr 3 (.tmp 2)⟩,
  ⟨some 109, none, .load 1 false (.tmp 108)⟩,
  ⟨some 110, none, .lenSl (.tmp 109)⟩,
  ⟨some 111, none, .bin .lss (.tmp 107) (.tmp 110)⟩])
 (.cond (.tmp 111) .skip (.exit 4)))
 (.seq (.block 5 k29_5)
 (.region [⟨some 112, none, .mov (.tmp 14)⟩,
  ⟨some 113, none, .bin .add (.tmp 112) (.const (.int .i64 1))⟩,
  ⟨some 14, none, .mov (.tmp 113)⟩])))
def k29_7 : ACode := (.seq (.region [⟨some 10, none, .mov (.const (.int .i64 (-1)))⟩,
  ⟨some 11, none, .mov (.const (.int .i64 (-1)))⟩])
 (.seq (.seq (.region [⟨some 12, none, .mov (.const (.int .i64 0))⟩])
 (.block 2 (.loop k29_4)))
 (.seq (.seq (.region [⟨some 14, none, .mov (.const (.int .i64 0))⟩])
 (.block 4 (.loop k29_6)))
 (.seq (.region [⟨some 139, none, .mov (.tmp 7)⟩,
  ⟨some 140, none, .mov (.tmp 10)⟩,
  ⟨some 141, none, .buildSlice 1 [(.int .i64 0)] [(0, 1, (.tmp 140))]⟩,
  ⟨some 142, none, .append 1 8 (.tmp 139) (.tmp 141)⟩,
  ⟨some 7, none, .mov (.tmp 142)⟩])
 (.seq (.region [⟨some 143, none, .mov (.tmp 9)⟩,
  ⟨some 144, none, .mov (.tmp 10)⟩,
  ⟨some 145, none, .indexAddr 1 (.tmp 143) (.tmp 144)⟩,
  ⟨none, none, .store 1 (.tmp 145) (.const (.bool true))⟩])
 (.region [⟨some 146, none, .mov (.tmp 8)⟩,
  ⟨some 147, none, .fieldAddr 3 (.tmp 2)⟩,
  ⟨some 148, none, .load 1 false (.tmp 147)⟩,
  ⟨some 149, none, .mov (.tmp 10)⟩,
  ⟨some 150, none, .indexAddr 3 (.tmp 148) (.tmp 149)⟩,
  ⟨some 151, none, .load 3 true (.tmp 150)⟩,
  ⟨some 152, none, .mov (.tmp 8)⟩,
  ⟨some 153, none, .call (.const (.func (.func 51) [] [])) [(.tmp 151), (.tmp 152)]⟩,
  ⟨some 154, none, .append 1 16 (.tmp 146) (.tmp 153)⟩,
  ⟨some 8, none, .mov (.tmp 154)⟩]))))))
def k29_8 : ACode := (.seq (.seq (.region [⟨some 65, none, .mov (.tmp 7)⟩,
  ⟨some 66, none, .lenSl (.tmp 65)⟩,
  ⟨some 67, none, .fieldAddr 3 (.tmp 2)⟩,
  ⟨some 68, none, .load 1 false (.tmp 67)⟩,
  ⟨some 69, none, .lenSl (.tmp 68)⟩,
  ⟨some 70, none, .bin .lss (.tmp 66) (.tmp 69)⟩])
 (.cond (.tmp 70) .skip (.exit 0)))
 (.block 1 k29_7))
def k29 : AFun := ⟨157, [.tmp 4, .tmp 5, .tmp 6], (.seq (.region [⟨some 2, none, .box (.tmp 0)⟩,
  ⟨some 4, none, .mov (.const .nilslice)⟩,
  ⟨some 5, none, .mov (.const .nilslice)⟩,
  ⟨some 6, none, .mov (.const (.bool false))⟩])
 (.seq (.seq (.region [⟨some 16, none, .load 4 true (.tmp 2)⟩,
  ⟨some 17, none, .call (.const (.func (.func 16) [] [])) [(.tmp 16)]⟩,
  ⟨some 18, none, .un .not (.tmp 17)⟩,
  ⟨some 19, none, .mov (.tmp 18)⟩,
  ⟨some 20, (some (19, false)), .mov (.tmp 1)⟩,
  ⟨some 21, (some (19, false)), .bin .lss (.tmp 20) (.const (.int .i64 (-1)))⟩,
  ⟨some 22, none, .pick (.tmp 19) (.const (.bool true)) (.tmp 21)⟩,
  ⟨some 23, none, .mov (.tmp 22)⟩,
  ⟨some 24, (some (23, false)), .mov (.tmp 1)⟩,
  ⟨some 25, (some (23, false)), .fieldAddr 3 (.tmp 2)⟩,
  ⟨some 26, (some (23, false)), .load 1 false (.tmp 25)⟩,
  ⟨some 27, (some (23, false)), .lenSl (.tmp 26)⟩,
  ⟨some 28, (some (23, false)), .bin .geq (.tmp 24) (.tmp 27)⟩,
  ⟨some 29, none, .pick (.tmp 23) (.const (.bool true)) (.tmp 28)⟩,
  ⟨some 30, none, .mov (.tmp 29)⟩,
  ⟨some 31, (some (30, false)), .mov (.tmp 1)⟩,
  ⟨some 32, (some (30, false)), .bin .geq (.tmp 31) (.const (.int .i64 0))⟩,
  ⟨some 33, (some (30, false)), .mov (.tmp 32)⟩,
  ⟨some 34, (some (33, true)), .fieldAddr 3 (.tmp 2)⟩,
  ⟨some 35, (some (33, true)), .load 1 false (.tmp 34)⟩,
  ⟨some 36, (some (33, true)), .mov (.tmp 1)⟩,
  ⟨some 37, (some (33, true)), .indexAddr 3 (.tmp 35) (.tmp 36)⟩,
  ⟨some 38, (some (33, true)), .fieldAddr 0 (.tmp 37)⟩,
  ⟨some 39, (some (33, true)), .load 1 false (.tmp 38)⟩,
  ⟨some 40, (some (33, true)), .bin .neq (.tmp 39) (.const (.int .i64 1))⟩,
  ⟨some 41, (some (30, false)), .pick (.tmp 33) (.tmp 40) (.const (.bool false))⟩,
  ⟨some 42, none, .pick (.tmp 30) (.const (.bool true)) (.tmp 41)⟩])
 (.cond (.tmp 42) (.seq (.region [⟨some 4, none, .mov (.const .nilslice)⟩,
  ⟨some 5, none, .mov (.const .nilslice)⟩,
  ⟨some 6, none, .mov (.const (.bool false))⟩])
 .ret) .skip))
 (.seq (.region [⟨some 7, none, .mov (.const .nilslice)⟩])
 (.seq (.region [⟨some 8, none, .mov (.const .nilslice)⟩])
 (.seq (.region [⟨some 43, none, .fieldAddr 3 (.tmp 2)⟩,
  ⟨some 44, none, .load 1 false (.tmp 43)⟩,
  ⟨some 45, none, .lenSl (.tmp 44)⟩,
  ⟨some 46, none, .mkSlice 1 1 [(.bool false)] (.tmp 45) (.tmp 45)⟩,
  ⟨some 9, none, .mov (.tmp 46)⟩])
 (.seq (.seq (.region [⟨some 47, none, .mov (.tmp 1)⟩,
  ⟨some 48, none, .bin .geq (.tmp 47) (.const (.int .i64 0))⟩])
 (.cond (.tmp 48) k29_0 .skip))
 (.seq (.block 0 (.loop k29_8))
 (.seq (.region [⟨some 155, none, .mov (.tmp 7)⟩,
  ⟨some 156, none, .mov (.tmp 8)⟩,
  ⟨some 4, none, .mov (.tmp 155)⟩,
  ⟨some 5, none, .mov (.tmp 156)⟩,
  ⟨some 6, none, .mov (.const (.bool true))⟩])
 .ret))))))))⟩
theorem c29 : (XTab.of Try.prog).code 29 = some k29 := by kernel_rfl

/-! delphi/delphilaw11.begun -/

def k30 : AFun := ⟨43, [.tmp 0], (.seq (.region [⟨some 0, none, .mov (.const (.bool false))⟩])
 (.seq (.region [⟨some 2, none, .call (.const (.func (.func 31) [] [])) [(.const (.int .i64 2))]⟩,
  ⟨some 1, none, .mov (.tmp 2)⟩])
 (.seq (.region [⟨some 3, none, .mov (.tmp 1)⟩,
  ⟨some 4, none, .eqv true .ptr (.tmp 3) (.const .nilptr)⟩,
  ⟨some 5, none, .mov (.tmp 4)⟩,
  ⟨some 6, (some (5, true)), .mov (.tmp 1)⟩,
  ⟨some 7, (some (5, true)), .buildSlice 2 [(.int .i64 0), (.int .i64 0)] [(0, 1, (.const (.int .i64 1))), (1, 1, (.const (.int .i64 2)))]⟩,
  ⟨some 8, (some (5, true)), .call (.const (.func (.func 33) [] [])) [(.tmp 6), (.tmp 7)]⟩,
  ⟨some 9, none, .pick (.tmp 5) (.tmp 8) (.const (.bool false))⟩,
  ⟨some 10, none, .mov (.tmp 9)⟩,
  ⟨some 11, (some (10, true)), .mov (.tmp 1)⟩,
  ⟨some 12, (some (10, true)), .buildSlice 2 [(.int .i64 0), (.int .i64 0)] [(0, 1, (.const (.int .i64 1))), (1, 1, (.const (.int .i64 2)))]⟩,
  ⟨some 13, (some (10, true)), .call (.const (.func (.func 33) [] [])) [(.tmp 11), (.tmp 12)]⟩,
  ⟨some 14, (some (10, true)), .un .not (.tmp 13)⟩,
  ⟨some 15, none, .pick (.tmp 10) (.tmp 14) (.const (.bool false))⟩,
  ⟨some 16, none, .mov (.tmp 15)⟩,
  ⟨some 17, (some (16, true)), .mov (.tmp 1)⟩,
  ⟨some 18, (some (16, true)), .buildSlice 2 [(.int .i64 0), (.int .i64 0)] [(0, 1, (.const (.int .i64 1))), (1, 1, (.const (.int .i64 2)))]⟩,
  ⟨some 19, (some (16, true)), .call (.const (.func (.func 35) [] [])) [(.tmp 17), (.tmp 18)]⟩,
  ⟨some 20, none, .pick (.tmp 16) (.tmp 19) (.const (.bool false))⟩,
  ⟨some 21, none, .mov (.tmp 20)⟩,
  ⟨some 22, (some (21, true)), .mov (.tmp 1)⟩,
  ⟨some 23, (some (21, true)), .call (.const (.func (.func 40) [] [])) [(.tmp 22)]⟩,
  ⟨some 24, (some (21, true)), .bin .eql (.tmp 23) (.const (.int .i64 1))⟩,
  ⟨some 25, none, .pick (.tmp 21) (.tmp 24) (.const (.bool false))⟩,
  ⟨some 26, none, .mov (.tmp 25)⟩,
  ⟨some 27, (some (26, true)), .mov (.tmp 1)⟩,
  ⟨some 28, (some (26, true)), .buildSlice 2 [(.int .i64 0), (.int .i64 0)] [(0, 1, (.const (.int .i64 0))), (1, 1, (.const (.int .i64 2)))]⟩,
  ⟨some 29, (some (26, true)), .call (.const (.func (.func 37) [] [])) [(.tmp 27), (.tmp 28)]⟩,
  ⟨some 30, (some (26, true)), .lenSl (.tmp 29)⟩,
  ⟨some 31, (some (26, true)), .bin .eql (.tmp 30) (.const (.int .i64 1))⟩,
  ⟨some 32, none, .pick (.tmp 26) (.tmp 31) (.const (.bool false))⟩,
  ⟨some 33, none, .mov (.tmp 32)⟩,
  ⟨some 34, (some (33, true)), .mov (.tmp 1)⟩,
  ⟨some 35, (some (33, true)), .buildSlice 1 [(.int .i64 0)] [(0, 1, (.const (.int .i64 1)))]⟩,
  ⟨some 36, (some (33, true)), .call (.const (.func (.func 33) [] [])) [(.tmp 34), (.tmp 35)]⟩,
  ⟨some 37, (some (33, true)), .un .not (.tmp 36)⟩,
  ⟨some 38, none, .pick (.tmp 33) (.tmp 37) (.const (.bool false))⟩,
  ⟨some 39, none, .mov (.tmp 38)⟩,
  ⟨some 40, (some (39, true)), .call (.const (.func (.func 31) [] [])) [(.const (.int .i64 5))]⟩,
  ⟨some 41, (some (39, true)), .eqv false .ptr (.tmp 40) (.const .nilptr)⟩,
  ⟨some 42, none, .pick (.tmp 39) (.tmp 41) (.const (.bool false))⟩,
  ⟨some 0, none, .mov (.tmp 42)⟩])
 .ret)))⟩
theorem c30 : (XTab.of Try.prog).code 30 = some k30 := by kernel_rfl

/-! delphi/relation.New -/

def k31 : AFun := ⟨12, [.tmp 2], (.seq (.region [⟨some 2, none, .mov (.const .nilptr)⟩])
 (.seq (.seq (.region [⟨some 3, none, .mov (.tmp 0)⟩,
  ⟨some 4, none, .bin .lss (.tmp 3) (.const (.int .i64 0))⟩,
  ⟨some 5, none, .mov (.tmp 4)⟩,
  ⟨some 6, (some (5, false)), .mov (.tmp 0)⟩,
  ⟨some 7, (some (5, false)), .bin .gtr (.tmp 6) (.const (.int .i64 4))⟩,
  ⟨some 8, none, .pick (.tmp 5) (.const (.bool true)) (.tmp 7)⟩])
 (.cond (.tmp 8) (.seq (.region [⟨some 2, none, .mov (.const .nilptr)⟩])
 .ret) .skip))
 (.seq (.region [⟨some 9, none, .mov (.tmp 0)⟩,
  ⟨some 10, none, .build [(.int .i64 0), .nilslice] [(0, 1, (.tmp 9))]⟩,
  ⟨some 11, none, .box (.tmp 10)⟩,
  ⟨some 2, none, .mov (.tmp 11)⟩])
 .ret)))⟩
theorem c31 : (XTab.of Try.prog).code 31 = some k31 := by kernel_rfl

/-! delphi/delphilaw11.eq -/
def k32_0 : ACode := (.seq (.drawn [⟨⟨some 17, none, .mov (.tmp 0)⟩, false, [], [18, 21, 22, 23, 24]⟩,
  ⟨⟨some 18, none, .mov (.tmp 5)⟩, false, [], [17, 21, 22, 23, 24]⟩,
  ⟨⟨some 19, none, .indexAddr 1 (.tmp 17) (.tmp 18)⟩, false, [0, 1], [21, 22, 23, 24]⟩,
  ⟨⟨some 20, none, .load 1 false (.tmp 19)⟩, false, [1, 0, 2], [21, 22, 23, 24]⟩,
  ⟨⟨some 21, none, .mov (.tmp 1)⟩, false, [], [17, 18, 19, 20, 22]⟩,
  ⟨⟨some 22, none, .mov (.tmp 5)⟩, false, [], [17, 18, 19, 20, 21]⟩,
  ⟨⟨some 23, none, .indexAddr 1 (.tmp 21) (.tmp 22)⟩, false, [4, 5], [17, 18, 19, 20]⟩,
  ⟨⟨some 24, none, .load 1 false (.tmp 23)⟩, false, [5, 4, 6], [17, 18, 19, 20]⟩,
  ⟨⟨some 25, none, .bin .neq (.tmp 20) (.tmp 24)⟩, false, [2, 0, 1, 3, 6, 4, 5, 7], []⟩])
 (.cond (.tmp 25) (.seq (.region [⟨some 4, none, .mov (.const (.bool false))⟩])
 .ret) .skip))
def k32_1 : ACode := (.seq (.seq (.region [⟨some 11, none, .mov (.tmp 5)⟩,
  ⟨some 12, none, .mov (.tmp 0)⟩,
  ⟨some 13, none, .lenSl (.tmp 12)⟩,
  ⟨some 14, none, .bin .lss (.tmp 11) (.tmp 13)⟩])
 (.cond (.tmp 14) .skip (.exit 0)))
 (.seq (.block 1 k32_0)
 (.region [⟨some 15, none, .mov (.tmp 5)⟩,
  ⟨some 16, none, .bin .add (.tmp 15) (.const (.int .i64 1))⟩,
  ⟨some 5, none, .mov (.tmp 16)⟩])))
def k32 : AFun := ⟨26, [.tmp 4], (.seq (.region [⟨some 4, none, .mov (.const (.bool false))⟩])
 (.seq (.seq (.region [⟨some 6, none, .mov (.tmp 0)⟩,
  ⟨some 7, none, .lenSl (.tmp 6)⟩,
  ⟨some 8, none, .mov (.tmp 1)⟩,
  ⟨some 9, none, .lenSl (.tmp 8)⟩,
  ⟨some 10, none, .bin .neq (.tmp 7) (.tmp 9)⟩])
 (.cond (.tmp 10) (.seq (.region [⟨some 4, none, .mov (.const (.bool false))⟩])
 .ret) .skip))
 (.seq (.seq (.region [⟨some 5, none, .mov (.const (.int .i64 0))⟩])
 (.block 0 (.loop k32_1)))
 (.seq (.region [⟨some 4, none, .mov (.const (.bool true))⟩])
 .ret))))⟩
theorem c32 : (XTab.of Try.prog).code 32 = some k32 := by kernel_rfl

/-! (*delphi/relation.Set).Add -/

def k33 : AFun := ⟨30, [.tmp 4], (.seq (.region [⟨some 4, none, .mov (.const (.bool false))⟩])
 (.seq (.region [⟨some 8, none, .mov (.tmp 0)⟩,
  ⟨some 9, none, .mov (.tmp 1)⟩,
  ⟨some 10, none, .call (.const (.func (.func 53) [] [])) [(.tmp 8), (.tmp 9)]⟩,
  ⟨some 7, none, .mov (.tmp 10)⟩,
  ⟨some 11, none, .extract 0 (.tmp 7)⟩,
  ⟨some 12, none, .extract 1 (.tmp 7)⟩,
  ⟨some 5, none, .mov (.tmp 11)⟩,
  ⟨some 6, none, .mov (.tmp 12)⟩])
 (.seq (.seq (.region [⟨some 13, none, .mov (.tmp 5)⟩,
  ⟨some 14, none, .bin .lss (.tmp 13) (.const (.int .i64 0))⟩,
  ⟨some 15, none, .mov (.tmp 14)⟩,
  ⟨some 16, (some (15, false)), .mov (.tmp 6)⟩,
  ⟨some 17, none, .pick (.tmp 15) (.const (.bool true)) (.tmp 16)⟩])
 (.cond (.tmp 17) (.seq (.region [⟨some 4, none, .mov (.const (.bool false))⟩])
 .ret) .skip))
 (.seq (.drawn [⟨⟨some 18, none, .mov (.tmp 0)⟩, false, [], [19, 20, 21, 22, 23, 24, 25, 26, 27]⟩,
  ⟨⟨some 19, none, .mov (.tmp 0)⟩, false, [], [18, 23, 24, 25, 26]⟩,
  ⟨⟨some 20, none, .nilCheck (.tmp 19)⟩, false, [1], [18, 23, 24, 25, 26]⟩,
  ⟨⟨some 21, none, .fieldAddr 1 (.tmp 20)⟩, false, [1, 2], [18, 23, 24, 25, 26]⟩,
  ⟨⟨some 22, none, .load 1 false (.tmp 21)⟩, false, [2, 1, 3], [18, 23, 24, 25, 26]⟩,
  ⟨⟨some 23, none, .mov (.tmp 5)⟩, false, [], [18, 19, 20, 21, 22, 24, 25, 26]⟩,
  ⟨⟨some 24, none, .mov (.tmp 1)⟩, false, [], [18, 19, 20, 21, 22, 23]⟩,
  ⟨⟨some 25, none, .call (.const (.func (.func 55) [] [])) [(.tmp 24)]⟩, true, [6], [18, 19, 20, 21, 22, 23]⟩,
  ⟨⟨some 26, none, .buildSlice 1 [.nilslice] [(0, 1, (.tmp 25))]⟩, true, [6, 7], [18, 19, 20, 21, 22, 23]⟩,
  ⟨⟨some 27, none, .call (.const (.func (.func 54) [] [])) [(.tmp 22), (.tmp 23), (.tmp 26)]⟩, true, [3, 1, 2, 4, 5, 8, 6, 7], [18]⟩,
  ⟨⟨some 28, none, .nilCheck (.tmp 18)⟩, false, [0, 7, 6, 8, 5, 4, 2, 1, 3, 9], []⟩,
  ⟨⟨some 29, none, .fieldAddr 1 (.tmp 28)⟩, false, [10, 0, 7, 6, 8, 5, 4, 2, 1, 3, 9], []⟩,
  ⟨⟨none, none, .store 1 (.tmp 29) (.tmp 27)⟩, true, [10, 11, 0, 7, 6, 8, 5, 4, 2, 1, 3, 9], []⟩])
 (.seq (.region [⟨some 4, none, .mov (.const (.bool true))⟩])
 .ret)))))⟩
theorem c33 : (XTab.of Try.prog).code 33 = some k33 := by kernel_rfl

/-! (*delphi/relation.Set).Remove -/

def k34 : AFun := ⟨26, [.tmp 4], (.seq (.region [⟨some 4, none, .mov (.const (.bool false))⟩])
 (.seq (.region [⟨some 8, none, .mov (.tmp 0)⟩,
  ⟨some 9, none, .mov (.tmp 1)⟩,
  ⟨some 10, none, .call (.const (.func (.func 53) [] [])) [(.tmp 8), (.tmp 9)]⟩,
  ⟨some 7, none, .mov (.tmp 10)⟩,
  ⟨some 11, none, .extract 0 (.tmp 7)⟩,
  ⟨some 12, none, .extract 1 (.tmp 7)⟩,
  ⟨some 5, none, .mov (.tmp 11)⟩,
  ⟨some 6, none, .mov (.tmp 12)⟩])
 (.seq (.seq (.region [⟨some 13, none, .mov (.tmp 6)⟩,
  ⟨some 14, none, .un .not (.tmp 13)⟩])
 (.cond (.tmp 14) (.seq (.region [⟨some 4, none, .mov (.const (.bool false))⟩])
 .ret) .skip))
 (.seq (.region [⟨some 15, none, .mov (.tmp 0)⟩,
  ⟨some 16, none, .mov (.tmp 0)⟩,
  ⟨some 17, none, .nilCheck (.tmp 16)⟩,
  ⟨some 18, none, .fieldAddr 1 (.tmp 17)⟩,
  ⟨some 19, none, .load 1 false (.tmp 18)⟩,
  ⟨some 20, none, .mov (.tmp 5)⟩,
  ⟨some 21, none, .mov (.tmp 5)⟩,
  ⟨some 22, none, .bin .add (.tmp 21) (.const (.int .i64 1))⟩,
  ⟨some 23, none, .call (.const (.func (.func 56) [] [])) [(.tmp 19), (.tmp 20), (.tmp 22)]⟩,
  ⟨some 24, none, .nilCheck (.tmp 15)⟩,
  ⟨some 25, none, .fieldAddr 1 (.tmp 24)⟩,
  ⟨none, none, .store 1 (.tmp 25) (.tmp 23)⟩])
 (.seq (.region [⟨some 4, none, .mov (.const (.bool true))⟩])
 .ret)))))⟩
theorem c34 : (XTab.of Try.prog).code 34 = some k34 := by kernel_rfl

/-! (*delphi/relation.Set).Has -/

def k35 : AFun := ⟨14, [.tmp 4], (.seq (.region [⟨some 4, none, .mov (.const (.bool false))⟩])
 (.seq (.region [⟨some 8, none, .mov (.tmp 0)⟩,
  ⟨some 9, none, .mov (.tmp 1)⟩,
  ⟨some 10, none, .call (.const (.func (.func 53) [] [])) [(.tmp 8), (.tmp 9)]⟩,
  ⟨some 7, none, .mov (.tmp 10)⟩,
  ⟨some 11, none, .extract 0 (.tmp 7)⟩,
  ⟨some 12, none, .extract 1 (.tmp 7)⟩,
  ⟨some 5, none, .mov (.tmp 11)⟩,
  ⟨some 6, none, .mov (.tmp 12)⟩])
 (.seq (.region [⟨some 13, none, .mov (.tmp 6)⟩,
  ⟨some 4, none, .mov (.tmp 13)⟩])
 .ret)))⟩
theorem c35 : (XTab.of Try.prog).code 35 = some k35 := by kernel_rfl

/-! delphi/delphilaw11.rows -/
def k36_0 : ACode := (.drawn [⟨⟨some 40, none, .mov (.tmp 6)⟩, false, [], []⟩,
  ⟨⟨some 41, none, .mov (.tmp 40)⟩, false, [0], []⟩,
  ⟨⟨some 42, (some (41, false)), .mov (.tmp 0)⟩, false, [0, 1], [43, 46, 47, 48, 49]⟩,
  ⟨⟨some 43, (some (41, false)), .mov (.tmp 5)⟩, false, [0, 1], [42, 46, 47, 48, 49]⟩,
  ⟨⟨some 44, (some (41, false)), .indexAddr 1 (.tmp 42) (.tmp 43)⟩, false, [2, 3, 0, 1], [46, 47, 48, 49]⟩,
  ⟨⟨some 45, (some (41, false)), .load 1 false (.tmp 44)⟩, false, [3, 2, 4, 0, 1], [46, 47, 48, 49]⟩,
  ⟨⟨some 46, (some (41, false)), .mov (.tmp 1)⟩, false, [0, 1], [42, 43, 44, 45, 47]⟩,
  ⟨⟨some 47, (some (41, false)), .mov (.tmp 7)⟩, false, [0, 1], [42, 43, 44, 45, 46]⟩,
  ⟨⟨some 48, (some (41, false)), .indexAddr 1 (.tmp 46) (.tmp 47)⟩, false, [6, 7, 0, 1], [42, 43, 44, 45]⟩,
  ⟨⟨some 49, (some (41, false)), .load 1 false (.tmp 48)⟩, false, [7, 6, 8, 0, 1], [42, 43, 44, 45]⟩,
  ⟨⟨some 50, (some (41, false)), .call (.const (.func (.func 32) [] [])) [(.tmp 45), (.tmp 49)]⟩, true, [4, 2, 3, 5, 8, 6, 7, 9, 0, 1], []⟩,
  ⟨⟨some 51, none, .pick (.tmp 41) (.const (.bool true)) (.tmp 50)⟩, false, [1, 0, 9, 7, 6, 8, 5, 3, 2, 4, 10], []⟩,
  ⟨⟨some 6, none, .mov (.tmp 51)⟩, false, [10, 4, 2, 3, 5, 8, 6, 7, 9, 0, 1, 11], []⟩])
def k36_1 : ACode := (.seq (.seq (.region [⟨some 34, none, .mov (.tmp 7)⟩,
  ⟨some 35, none, .mov (.tmp 1)⟩,
  ⟨some 36, none, .lenSl (.tmp 35)⟩,
  ⟨some 37, none, .bin .lss (.tmp 34) (.tmp 36)⟩])
 (.cond (.tmp 37) .skip (.exit 2)))
 (.seq (.block 3 k36_0)
 (.region [⟨some 38, none, .mov (.tmp 7)⟩,
  ⟨some 39, none, .bin .add (.tmp 38) (.const (.int .i64 1))⟩,
  ⟨some 7, none, .mov (.tmp 39)⟩])))
def k36_2 : ACode := (.seq (.seq (.drawn [⟨⟨some 19, none, .mov (.tmp 5)⟩, false, [], []⟩,
  ⟨⟨some 20, none, .bin .gtr (.tmp 19) (.const (.int .i64 0))⟩, false, [0], []⟩,
  ⟨⟨some 21, none, .mov (.tmp 20)⟩, false, [0, 1], []⟩,
  ⟨⟨some 22, (some (21, true)), .mov (.tmp 0)⟩, false, [1, 0, 2], [23, 24, 27, 28, 29, 30]⟩,
  ⟨⟨some 23, (some (21, true)), .mov (.tmp 5)⟩, false, [1, 0, 2], [22, 27, 28, 29, 30]⟩,
  ⟨⟨some 24, (some (21, true)), .bin .sub (.tmp 23) (.const (.int .i64 1))⟩, false, [4, 1, 0, 2], [22, 27, 28, 29, 30]⟩,
  ⟨⟨some 25, (some (21, true)), .indexAddr 1 (.tmp 22) (.tmp 24)⟩, false, [3, 4, 5, 1, 0, 2], [27, 28, 29, 30]⟩,
  ⟨⟨some 26, (some (21, true)), .load 1 false (.tmp 25)⟩, false, [5, 4, 3, 6, 1, 0, 2], [27, 28, 29, 30]⟩,
  ⟨⟨some 27, (some (21, true)), .mov (.tmp 0)⟩, false, [1, 0, 2], [22, 23, 24, 25, 26, 28]⟩,
  ⟨⟨some 28, (some (21, true)), .mov (.tmp 5)⟩, false, [1, 0, 2], [22, 23, 24, 25, 26, 27]⟩,
  ⟨⟨some 29, (some (21, true)), .indexAddr 1 (.tmp 27) (.tmp 28)⟩, false, [8, 9, 1, 0, 2], [22, 23, 24, 25, 26]⟩,
  ⟨⟨some 30, (some (21, true)), .load 1 false (.tmp 29)⟩, false, [9, 8, 10, 1, 0, 2], [22, 23, 24, 25, 26]⟩,
  ⟨⟨some 31, (some (21, true)), .call (.const (.func (.func 41) [] [])) [(.tmp 26), (.tmp 30)]⟩, true, [6, 3, 4, 5, 7, 10, 8, 9, 11, 1, 0, 2], []⟩,
  ⟨⟨some 32, (some (21, true)), .un .not (.tmp 31)⟩, false, [11, 9, 8, 10, 7, 5, 4, 3, 6, 12, 1, 0, 2], []⟩,
  ⟨⟨some 33, none, .pick (.tmp 21) (.tmp 32) (.const (.bool false))⟩, false, [2, 0, 1, 12, 6, 3, 4, 5, 7, 10, 8, 9, 11, 13], []⟩])
 (.cond (.tmp 33) (.seq (.region [⟨some 4, none, .mov (.const (.bool false))⟩])
 .ret) .skip))
 (.seq (.region [⟨some 6, none, .mov (.const (.bool false))⟩])
 (.seq (.seq (.region [⟨some 7, none, .mov (.const (.int .i64 0))⟩])
 (.block 2 (.loop k36_1)))
 (.seq (.region [⟨some 52, none, .mov (.tmp 6)⟩,
  ⟨some 53, none, .un .not (.tmp 52)⟩])
 (.cond (.tmp 53) (.seq (.region [⟨some 4, none, .mov (.const (.bool false))⟩])
 .ret) .skip)))))
def k36_3 : ACode := (.seq (.seq (.region [⟨some 13, none, .mov (.tmp 5)⟩,
  ⟨some 14, none, .mov (.tmp 0)⟩,
  ⟨some 15, none, .lenSl (.tmp 14)⟩,
  ⟨some 16, none, .bin .lss (.tmp 13) (.tmp 15)⟩])
 (.cond (.tmp 16) .skip (.exit 0)))
 (.seq (.block 1 k36_2)
 (.region [⟨some 17, none, .mov (.tmp 5)⟩,
  ⟨some 18, none, .bin .add (.tmp 17) (.const (.int .i64 1))⟩,
  ⟨some 5, none, .mov (.tmp 18)⟩])))
def k36 : AFun := ⟨54, [.tmp 4], (.seq (.region [⟨some 4, none, .mov (.const (.bool false))⟩])
 (.seq (.seq (.region [⟨some 8, none, .mov (.tmp 0)⟩,
  ⟨some 9, none, .lenSl (.tmp 8)⟩,
  ⟨some 10, none, .mov (.tmp 1)⟩,
  ⟨some 11, none, .lenSl (.tmp 10)⟩,
  ⟨some 12, none, .bin .neq (.tmp 9) (.tmp 11)⟩])
 (.cond (.tmp 12) (.seq (.region [⟨some 4, none, .mov (.const (.bool false))⟩])
 .ret) .skip))
 (.seq (.seq (.region [⟨some 5, none, .mov (.const (.int .i64 0))⟩])
 (.block 0 (.loop k36_3)))
 (.seq (.region [⟨some 4, none, .mov (.const (.bool true))⟩])
 .ret))))⟩
theorem c36 : (XTab.of Try.prog).code 36 = some k36 := by kernel_rfl

/-! (*delphi/relation.Set).Match -/
def k37_0 : ACode := (.region [⟨some 31, none, .mov (.tmp 5)⟩,
  ⟨some 32, none, .mov (.tmp 7)⟩,
  ⟨some 33, none, .call (.const (.func (.func 55) [] [])) [(.tmp 32)]⟩,
  ⟨some 34, none, .buildSlice 1 [.nilslice] [(0, 1, (.tmp 33))]⟩,
  ⟨some 35, none, .append 1 24 (.tmp 31) (.tmp 34)⟩,
  ⟨some 5, none, .mov (.tmp 35)⟩])
def k37_1 : ACode := (.seq (.region [⟨some 26, none, .indexAddr 1 (.tmp 22) (.tmp 24)⟩,
  ⟨some 27, none, .load 1 false (.tmp 26)⟩,
  ⟨some 7, none, .mov (.tmp 27)⟩])
 (.seq (.region [⟨some 28, none, .mov (.tmp 7)⟩,
  ⟨some 29, none, .mov (.tmp 1)⟩,
  ⟨some 30, none, .call (.const (.func (.func 57) [] [])) [(.tmp 28), (.tmp 29)]⟩])
 (.cond (.tmp 30) k37_0 .skip)))
def k37_2 : ACode := (.seq (.region [⟨some 25, none, .bin .lss (.tmp 24) (.tmp 23)⟩])
 (.seq (.cond (.tmp 25) .skip (.exit 0))
 (.seq (.block 1 k37_1)
 (.region [⟨some 36, none, .bin .add (.tmp 24) (.const (.int .i64 1))⟩,
  ⟨some 24, none, .mov (.tmp 36)⟩]))))
def k37 : AFun := ⟨38, [.tmp 4], (.seq (.region [⟨some 4, none, .mov (.const .nilslice)⟩])
 (.seq (.seq (.region [⟨some 8, none, .mov (.tmp 0)⟩,
  ⟨some 9, none, .eqv false .ptr (.tmp 8) (.const .nilptr)⟩,
  ⟨some 10, none, .mov (.tmp 9)⟩,
  ⟨some 11, (some (10, false)), .mov (.tmp 1)⟩,
  ⟨some 12, (some (10, false)), .lenSl (.tmp 11)⟩,
  ⟨some 13, (some (10, false)), .mov (.tmp 0)⟩,
  ⟨some 14, (some (10, false)), .nilCheck (.tmp 13)⟩,
  ⟨some 15, (some (10, false)), .fieldAddr 0 (.tmp 14)⟩,
  ⟨some 16, (some (10, false)), .load 1 false (.tmp 15)⟩,
  ⟨some 17, (some (10, false)), .bin .neq (.tmp 12) (.tmp 16)⟩,
  ⟨some 18, none, .pick (.tmp 10) (.const (.bool true)) (.tmp 17)⟩])
 (.cond (.tmp 18) (.seq (.region [⟨some 4, none, .mov (.const .nilslice)⟩])
 .ret) .skip))
 (.seq (.region [⟨some 5, none, .mov (.const .nilslice)⟩])
 (.seq (.seq (.region [⟨some 19, none, .mov (.tmp 0)⟩,
  ⟨some 20, none, .nilCheck (.tmp 19)⟩,
  ⟨some 21, none, .fieldAddr 1 (.tmp 20)⟩,
  ⟨some 22, none, .load 1 false (.tmp 21)⟩,
  ⟨some 23, none, .lenSl (.tmp 22)⟩,
  ⟨some 24, none, .mov (.const (.int .i64 0))⟩])
 (.block 0 (.loop k37_2)))
 (.seq (.region [⟨some 37, none, .mov (.tmp 5)⟩,
  ⟨some 4, none, .mov (.tmp 37)⟩])
 .ret)))))⟩
theorem c37 : (XTab.of Try.prog).code 37 = some k37 := by kernel_rfl

/-! (*delphi/relation.Set).Copy -/

def k38 : AFun := ⟨18, [.tmp 2], (.seq (.region [⟨some 2, none, .mov (.const .nilptr)⟩])
 (.seq (.seq (.region [⟨some 3, none, .mov (.tmp 0)⟩,
  ⟨some 4, none, .eqv false .ptr (.tmp 3) (.const .nilptr)⟩])
 (.cond (.tmp 4) (.seq (.region [⟨some 2, none, .mov (.const .nilptr)⟩])
 .ret) .skip))
 (.seq (.drawn [⟨⟨some 5, none, .mov (.tmp 0)⟩, false, [], [9, 10, 11, 12, 13, 14, 15]⟩,
  ⟨⟨some 6, none, .nilCheck (.tmp 5)⟩, false, [0], [9, 10, 11, 12, 13, 14, 15]⟩,
  ⟨⟨some 7, none, .fieldAddr 0 (.tmp 6)⟩, false, [0, 1], [9, 10, 11, 12, 13, 14, 15]⟩,
  ⟨⟨some 8, none, .load 1 false (.tmp 7)⟩, false, [1, 0, 2], [9, 10, 11, 12, 13, 14, 15]⟩,
  ⟨⟨some 9, none, .mov (.tmp 0)⟩, false, [], [5, 6, 7, 8, 10, 11, 12, 13, 14]⟩,
  ⟨⟨some 10, none, .mov (.tmp 0)⟩, false, [], [5, 6, 7, 8, 9]⟩,
  ⟨⟨some 11, none, .nilCheck (.tmp 10)⟩, false, [5], [5, 6, 7, 8, 9]⟩,
  ⟨⟨some 12, none, .fieldAddr 0 (.tmp 11)⟩, false, [5, 6], [5, 6, 7, 8, 9]⟩,
  ⟨⟨some 13, none, .load 1 false (.tmp 12)⟩, false, [6, 5, 7], [5, 6, 7, 8, 9]⟩,
  ⟨⟨some 14, none, .mkSlice 1 8 [(.int .i64 0)] (.tmp 13) (.tmp 13)⟩, true, [7, 5, 6, 8], [5, 6, 7, 8, 9]⟩,
  ⟨⟨some 15, none, .call (.const (.func (.func 37) [] [])) [(.tmp 9), (.tmp 14)]⟩, true, [4, 8, 6, 5, 7, 9], [5, 6, 7, 8]⟩,
  ⟨⟨some 16, none, .build [(.int .i64 0), .nilslice] [(0, 1, (.tmp 8)), (1, 1, (.tmp 15))]⟩, false, [2, 0, 1, 3, 9, 7, 5, 6, 8, 4, 10], []⟩,
  ⟨⟨some 17, none, .box (.tmp 16)⟩, true, [10, 4, 8, 6, 5, 7, 9, 3, 1, 0, 2, 11], []⟩,
  ⟨⟨some 2, none, .mov (.tmp 17)⟩, false, [11, 2, 0, 1, 3, 9, 7, 5, 6, 8, 4, 10, 12], []⟩])
 .ret)))⟩
theorem c38 : (XTab.of Try.prog).code 38 = some k38 := by kernel_rfl

/-! (*delphi/relation.Set).All -/

def k39 : AFun := ⟨12, [.tmp 2], (.seq (.region [⟨some 2, none, .mov (.const .nilslice)⟩])
 (.seq (.seq (.region [⟨some 3, none, .mov (.tmp 0)⟩,
  ⟨some 4, none, .eqv false .ptr (.tmp 3) (.const .nilptr)⟩])
 (.cond (.tmp 4) (.seq (.region [⟨some 2, none, .mov (.const .nilslice)⟩])
 .ret) .skip))
 (.seq (.region [⟨some 5, none, .mov (.tmp 0)⟩,
  ⟨some 6, none, .mov (.tmp 0)⟩,
  ⟨some 7, none, .nilCheck (.tmp 6)⟩,
  ⟨some 8, none, .fieldAddr 0 (.tmp 7)⟩,
  ⟨some 9, none, .load 1 false (.tmp 8)⟩,
  ⟨some 10, none, .mkSlice 1 8 [(.int .i64 0)] (.tmp 9) (.tmp 9)⟩,
  ⟨some 11, none, .call (.const (.func (.func 37) [] [])) [(.tmp 5), (.tmp 10)]⟩,
  ⟨some 2, none, .mov (.tmp 11)⟩])
 .ret)))⟩
theorem c39 : (XTab.of Try.prog).code 39 = some k39 := by kernel_rfl

/-! (*delphi/relation.Set).Len -/

def k40 : AFun := ⟨10, [.tmp 2], (.seq (.region [⟨some 2, none, .mov (.const (.int .i64 0))⟩])
 (.seq (.seq (.region [⟨some 3, none, .mov (.tmp 0)⟩,
  ⟨some 4, none, .eqv false .ptr (.tmp 3) (.const .nilptr)⟩])
 (.cond (.tmp 4) (.seq (.region [⟨some 2, none, .mov (.const (.int .i64 0))⟩])
 .ret) .skip))
 (.seq (.region [⟨some 5, none, .mov (.tmp 0)⟩,
  ⟨some 6, none, .nilCheck (.tmp 5)⟩,
  ⟨some 7, none, .fieldAddr 1 (.tmp 6)⟩,
  ⟨some 8, none, .load 1 false (.tmp 7)⟩,
  ⟨some 9, none, .lenSl (.tmp 8)⟩,
  ⟨some 2, none, .mov (.tmp 9)⟩])
 .ret)))⟩
theorem c40 : (XTab.of Try.prog).code 40 = some k40 := by kernel_rfl

/-! delphi/delphilaw11.less -/
def k41_0 : ACode := (.seq (.drawn [⟨⟨some 27, none, .mov (.tmp 0)⟩, false, [], [28, 31, 32, 33, 34]⟩,
  ⟨⟨some 28, none, .mov (.tmp 5)⟩, false, [], [27, 31, 32, 33, 34]⟩,
  ⟨⟨some 29, none, .indexAddr 1 (.tmp 27) (.tmp 28)⟩, false, [0, 1], [31, 32, 33, 34]⟩,
  ⟨⟨some 30, none, .load 1 false (.tmp 29)⟩, false, [1, 0, 2], [31, 32, 33, 34]⟩,
  ⟨⟨some 31, none, .mov (.tmp 1)⟩, false, [], [27, 28, 29, 30, 32]⟩,
  ⟨⟨some 32, none, .mov (.tmp 5)⟩, false, [], [27, 28, 29, 30, 31]⟩,
  ⟨⟨some 33, none, .indexAddr 1 (.tmp 31) (.tmp 32)⟩, false, [4, 5], [27, 28, 29, 30]⟩,
  ⟨⟨some 34, none, .load 1 false (.tmp 33)⟩, false, [5, 4, 6], [27, 28, 29, 30]⟩,
  ⟨⟨some 35, none, .bin .lss (.tmp 30) (.tmp 34)⟩, false, [2, 0, 1, 3, 6, 4, 5, 7], []⟩,
  ⟨⟨some 4, none, .mov (.tmp 35)⟩, false, [7, 5, 4, 6, 3, 1, 0, 2, 8], []⟩])
 .ret)
def k41_1 : ACode := (.seq (.drawn [⟨⟨some 18, none, .mov (.tmp 0)⟩, false, [], [19, 22, 23, 24, 25]⟩,
  ⟨⟨some 19, none, .mov (.tmp 5)⟩, false, [], [18, 22, 23, 24, 25]⟩,
  ⟨⟨some 20, none, .indexAddr 1 (.tmp 18) (.tmp 19)⟩, false, [0, 1], [22, 23, 24, 25]⟩,
  ⟨⟨some 21, none, .load 1 false (.tmp 20)⟩, false, [1, 0, 2], [22, 23, 24, 25]⟩,
  ⟨⟨some 22, none, .mov (.tmp 1)⟩, false, [], [18, 19, 20, 21, 23]⟩,
  ⟨⟨some 23, none, .mov (.tmp 5)⟩, false, [], [18, 19, 20, 21, 22]⟩,
  ⟨⟨some 24, none, .indexAddr 1 (.tmp 22) (.tmp 23)⟩, false, [4, 5], [18, 19, 20, 21]⟩,
  ⟨⟨some 25, none, .load 1 false (.tmp 24)⟩, false, [5, 4, 6], [18, 19, 20, 21]⟩,
  ⟨⟨some 26, none, .bin .neq (.tmp 21) (.tmp 25)⟩, false, [2, 0, 1, 3, 6, 4, 5, 7], []⟩])
 (.cond (.tmp 26) k41_0 .skip))
def k41_2 : ACode := (.seq (.seq (.region [⟨some 6, none, .mov (.tmp 5)⟩,
  ⟨some 7, none, .mov (.tmp 0)⟩,
  ⟨some 8, none, .lenSl (.tmp 7)⟩,
  ⟨some 9, none, .bin .lss (.tmp 6) (.tmp 8)⟩,
  ⟨some 10, none, .mov (.tmp 9)⟩,
  ⟨some 11, (some (10, true)), .mov (.tmp 5)⟩,
  ⟨some 12, (some (10, true)), .mov (.tmp 1)⟩,
  ⟨some 13, (some (10, true)), .lenSl (.tmp 12)⟩,
  ⟨some 14, (some (10, true)), .bin .lss (.tmp 11) (.tmp 13)⟩,
  ⟨some 15, none, .pick (.tmp 10) (.tmp 14) (.const (.bool false))⟩])
 (.cond (.tmp 15) .skip (.exit 0)))
 (.seq (.block 1 k41_1)
 (.region [⟨some 16, none, .mov (.tmp 5)⟩,
  ⟨some 17, none, .bin .add (.tmp 16) (.const (.int .i64 1))⟩,
  ⟨some 5, none, .mov (.tmp 17)⟩])))
def k41 : AFun := ⟨36, [.tmp 4], (.seq (.region [⟨some 4, none, .mov (.const (.bool false))⟩])
 (.seq (.seq (.region [⟨some 5, none, .mov (.const (.int .i64 0))⟩])
 (.block 0 (.loop k41_2)))
 (.seq (.region [⟨some 4, none, .mov (.const (.bool false))⟩])
 .ret)))⟩
theorem c41 : (XTab.of Try.prog).code 41 = some k41 := by kernel_rfl

/-! delphi/delphiref8.Program -/
def k42_0 : ACode := (.seq (.region [⟨some 62, none, .mov (.tmp 6)⟩,
  ⟨some 63, none, .call (.const (.func (.func 60) [] [])) [(.tmp 62)]⟩,
  ⟨some 9, none, .alloc [(.int .i64 0), (.str []), .nilslice]⟩,
  ⟨none, none, .store 3 (.tmp 9) (.tmp 63)⟩])
 (.seq (.seq (.region [⟨some 64, none, .mov (.tmp 6)⟩,
  ⟨some 65, none, .nilCheck (.tmp 64)⟩,
  ⟨some 66, none, .fieldAddr 2 (.tmp 65)⟩,
  ⟨some 67, none, .load 1 false (.tmp 66)⟩,
  ⟨some 68, none, .bin .eql (.tmp 67) (.const (.int .i64 0))⟩,
  ⟨some 69, none, .mov (.tmp 68)⟩,
  ⟨some 70, (some (69, true)), .fieldAddr 3 (.tmp 8)⟩,
  ⟨some 71, (some (69, true)), .load 1 false (.tmp 70)⟩,
  ⟨some 72, (some (69, true)), .lenSl (.tmp 71)⟩,
  ⟨some 73, (some (69, true)), .bin .eql (.tmp 72) (.const (.int .i64 6))⟩,
  ⟨some 74, none, .pick (.tmp 69) (.tmp 73) (.const (.bool false))⟩])
 (.cond (.tmp 74) (.region [⟨some 75, none, .mov (.tmp 6)⟩,
  ⟨some 76, none, .call (.const (.func (.func 61) [] [])) [(.tmp 75), (.const (.int .i64 8))]⟩]) .skip))
 (.seq (.region [⟨some 77, none, .fieldAddr 3 (.tmp 8)⟩,
  ⟨some 78, none, .load 1 false (.tmp 77)⟩,
  ⟨some 79, none, .load 3 true (.tmp 9)⟩,
  ⟨some 80, none, .buildSlice 1 [(.int .i64 0), (.str []), .nilslice] [(0, 3, (.tmp 79))]⟩,
  ⟨some 81, none, .append 3 48 (.tmp 78) (.tmp 80)⟩,
  ⟨some 82, none, .fieldAddr 3 (.tmp 8)⟩,
  ⟨none, none, .store 1 (.tmp 82) (.tmp 81)⟩])
 (.seq (.seq (.region [⟨some 83, none, .mov (.tmp 6)⟩,
  ⟨some 84, none, .call (.const (.func (.func 59) [] [])) [(.tmp 83), (.const (.str [44]))]⟩,
  ⟨some 85, none, .un .not (.tmp 84)⟩])
 (.cond (.tmp 85) (.exit 2) .skip))
 (.region [⟨some 86, none, .mov (.tmp 6)⟩,
  ⟨some 87, none, .nilCheck (.tmp 86)⟩,
  ⟨some 88, none, .fieldAddr 1 (.tmp 87)⟩,
  ⟨some 89, none, .load 1 false (.tmp 88)⟩,
  ⟨some 90, none, .bin .add (.tmp 89) (.const (.int .i64 1))⟩,
  ⟨some 91, none, .nilCheck (.tmp 86)⟩,
  ⟨some 92, none, .fieldAddr 1 (.tmp 91)⟩,
  ⟨none, none, .store 1 (.tmp 92) (.tmp 90)⟩])))))
def k42_1 : ACode := (.seq (.seq (.region [⟨some 57, none, .mov (.tmp 6)⟩,
  ⟨some 58, none, .nilCheck (.tmp 57)⟩,
  ⟨some 59, none, .fieldAddr 2 (.tmp 58)⟩,
  ⟨some 60, none, .load 1 false (.tmp 59)⟩,
  ⟨some 61, none, .bin .eql (.tmp 60) (.const (.int .i64 0))⟩])
 (.cond (.tmp 61) .skip (.exit 2)))
 (.block 3 k42_0))
def k42_2 : ACode := (.seq (.region [⟨some 50, none, .mov (.tmp 6)⟩,
  ⟨some 51, none, .nilCheck (.tmp 50)⟩,
  ⟨some 52, none, .fieldAddr 1 (.tmp 51)⟩,
  ⟨some 53, none, .load 1 false (.tmp 52)⟩,
  ⟨some 54, none, .bin .add (.tmp 53) (.const (.int .i64 1))⟩,
  ⟨some 55, none, .nilCheck (.tmp 50)⟩,
  ⟨some 56, none, .fieldAddr 1 (.tmp 55)⟩,
  ⟨none, none, .store 1 (.tmp 56) (.tmp 54)⟩])
 (.block 2 (.loop k42_1)))
def k42_3 : ACode := (.seq (.region [⟨some 38, none, .mov (.tmp 6)⟩,
  ⟨some 39, none, .call (.const (.func (.func 58) [] [])) [(.tmp 38)]⟩,
  ⟨some 40, none, .build [(.int .i64 0), (.str []), .nilslice, .nilslice] [(0, 3, (.tmp 39))]⟩,
  ⟨some 8, none, .alloc [(.int .i64 0), (.str []), .nilslice, .nilslice]⟩,
  ⟨none, none, .store 4 (.tmp 8) (.tmp 40)⟩])
 (.seq (.seq (.region [⟨some 41, none, .mov (.tmp 6)⟩,
  ⟨some 42, none, .call (.const (.func (.func 59) [] [])) [(.tmp 41), (.const (.str [58, 45]))]⟩,
  ⟨some 43, none, .mov (.tmp 42)⟩,
  ⟨some 44, (some (43, true)), .mov (.tmp 6)⟩,
  ⟨some 45, (some (43, true)), .nilCheck (.tmp 44)⟩,
  ⟨some 46, (some (43, true)), .fieldAddr 2 (.tmp 45)⟩,
  ⟨some 47, (some (43, true)), .load 1 false (.tmp 46)⟩,
  ⟨some 48, (some (43, true)), .bin .eql (.tmp 47) (.const (.int .i64 0))⟩,
  ⟨some 49, none, .pick (.tmp 43) (.tmp 48) (.const (.bool false))⟩])
 (.cond (.tmp 49) k42_2 .skip))
 (.seq (.region [⟨some 93, none, .mov (.tmp 6)⟩,
  ⟨some 94, none, .call (.const (.func (.func 62) [] [])) [(.tmp 93), (.const (.str [46]))]⟩])
 (.seq (.seq (.region [⟨some 95, none, .mov (.tmp 6)⟩,
  ⟨some 96, none, .nilCheck (.tmp 95)⟩,
  ⟨some 97, none, .fieldAddr 2 (.tmp 96)⟩,
  ⟨some 98, none, .load 1 false (.tmp 97)⟩,
  ⟨some 99, none, .bin .eql (.tmp 98) (.const (.int .i64 0))⟩,
  ⟨some 100, none, .mov (.tmp 99)⟩,
  ⟨some 101, (some (100, true)), .mov (.tmp 7)⟩,
  ⟨some 102, (some (100, true)), .lenSl (.tmp 101)⟩,
  ⟨some 103, (some (100, true)), .bin .eql (.tmp 102) (.const (.int .i64 30))⟩,
  ⟨some 104, none, .pick (.tmp 100) (.tmp 103) (.const (.bool false))⟩])
 (.cond (.tmp 104) (.region [⟨some 105, none, .mov (.tmp 6)⟩,
  ⟨some 106, none, .call (.const (.func (.func 61) [] [])) [(.tmp 105), (.const (.int .i64 8))]⟩]) .skip))
 (.region [⟨some 107, none, .mov (.tmp 7)⟩,
  ⟨some 108, none, .load 4 true (.tmp 8)⟩,
  ⟨some 109, none, .buildSlice 1 [(.int .i64 0), (.str []), .nilslice, .nilslice] [(0, 4, (.tmp 108))]⟩,
  ⟨some 110, none, .append 4 72 (.tmp 107) (.tmp 109)⟩,
  ⟨some 7, none, .mov (.tmp 110)⟩])))))
def k42_4 : ACode := (.seq (.seq (.drawn [⟨⟨some 21, none, .mov (.tmp 6)⟩, false, [], []⟩,
  ⟨⟨some 22, none, .nilCheck (.tmp 21)⟩, false, [0], []⟩,
  ⟨⟨some 23, none, .fieldAddr 2 (.tmp 22)⟩, false, [0, 1], []⟩,
  ⟨⟨some 24, none, .load 1 false (.tmp 23)⟩, false, [1, 0, 2], []⟩,
  ⟨⟨some 25, none, .bin .eql (.tmp 24) (.const (.int .i64 0))⟩, false, [2, 0, 1, 3], []⟩,
  ⟨⟨some 26, none, .mov (.tmp 25)⟩, false, [3, 1, 0, 2, 4], []⟩,
  ⟨⟨some 27, (some (26, true)), .mov (.tmp 6)⟩, false, [4, 2, 0, 1, 3, 5], [31, 32, 33, 34, 35]⟩,
  ⟨⟨some 28, (some (26, true)), .nilCheck (.tmp 27)⟩, false, [6, 4, 2, 0, 1, 3, 5], [31, 32, 33, 34, 35]⟩,
  ⟨⟨some 29, (some (26, true)), .fieldAddr 1 (.tmp 28)⟩, false, [6, 7, 4, 2, 0, 1, 3, 5], [31, 32, 33, 34, 35]⟩,
  ⟨⟨some 30, (some (26, true)), .load 1 false (.tmp 29)⟩, false, [7, 6, 8, 4, 2, 0, 1, 3, 5], [31, 32, 33, 34, 35]⟩,
  ⟨⟨some 31, (some (26, true)), .mov (.tmp 6)⟩, false, [4, 2, 0, 1, 3, 5], [27, 28, 29, 30]⟩,
  ⟨⟨some 32, (some (26, true)), .nilCheck (.tmp 31)⟩, false, [10, 4, 2, 0, 1, 3, 5], [27, 28, 29, 30]⟩,
  ⟨⟨some 33, (some (26, true)), .fieldAddr 0 (.tmp 32)⟩, false, [10, 11, 4, 2, 0, 1, 3, 5], [27, 28, 29, 30]⟩,
  ⟨⟨some 34, (some (26, true)), .load 1 false (.tmp 33)⟩, false, [11, 10, 12, 4, 2, 0, 1, 3, 5], [27, 28, 29, 30]⟩,
  ⟨⟨some 35, (some (26, true)), .lenSl (.tmp 34)⟩, false, [12, 10, 11, 13, 4, 2, 0, 1, 3, 5], [27, 28, 29, 30]⟩,
  ⟨⟨some 36, (some (26, true)), .bin .lss (.tmp 30) (.tmp 35)⟩, false, [8, 6, 7, 9, 13, 11, 10, 12, 14, 4, 2, 0, 1, 3, 5], []⟩,
  ⟨⟨some 37, none, .pick (.tmp 26) (.tmp 36) (.const (.bool false))⟩, false, [5, 3, 1, 0, 2, 4, 14, 12, 10, 11, 13, 9, 7, 6, 8, 15], []⟩])
 (.cond (.tmp 37) .skip (.exit 0)))
 (.block 1 k42_3))
def k42_5 : ACode := (.seq (.drawn [⟨⟨some 119, none, .mov (.tmp 6)⟩, false, [], [2]⟩,
  ⟨⟨some 120, none, .nilCheck (.tmp 119)⟩, false, [0], [2]⟩,
  ⟨⟨some 121, none, .fieldAddr 2 (.tmp 120)⟩, false, [0, 1], [2]⟩,
  ⟨⟨some 122, none, .load 1 false (.tmp 121)⟩, false, [1, 0, 2], [2]⟩,
  ⟨⟨some 2, none, .mov (.const .nilslice)⟩, false, [], [119, 120, 121, 122]⟩,
  ⟨⟨some 3, none, .mov (.tmp 122)⟩, false, [2, 0, 1, 3, 4], []⟩])
 .ret)
def k42 : AFun := ⟨124, [.tmp 2, .tmp 3], (.seq (.region [⟨some 2, none, .mov (.const .nilslice)⟩,
  ⟨some 3, none, .mov (.const (.int .i64 0))⟩])
 (.seq (.region [⟨some 11, none, .mov (.tmp 0)⟩,
  ⟨some 12, none, .call (.const (.func (.func 26) [] [])) [(.tmp 11)]⟩,
  ⟨some 10, none, .mov (.tmp 12)⟩,
  ⟨some 13, none, .extract 0 (.tmp 10)⟩,
  ⟨some 14, none, .extract 1 (.tmp 10)⟩,
  ⟨some 4, none, .mov (.tmp 13)⟩,
  ⟨some 5, none, .mov (.tmp 14)⟩])
 (.seq (.seq (.region [⟨some 15, none, .mov (.tmp 5)⟩,
  ⟨some 16, none, .bin .eql (.tmp 15) (.const (.int .i64 8))⟩])
 (.cond (.tmp 16) (.seq (.region [⟨some 17, none, .mov (.tmp 5)⟩,
  ⟨some 2, none, .mov (.const .nilslice)⟩,
  ⟨some 3, none, .mov (.tmp 17)⟩])
 .ret) .skip))
 (.seq (.region [⟨some 18, none, .mov (.tmp 4)⟩,
  ⟨some 19, none, .build [.nilslice, (.int .i64 0), (.int .i64 0)] [(0, 1, (.tmp 18))]⟩,
  ⟨some 20, none, .box (.tmp 19)⟩,
  ⟨some 6, none, .mov (.tmp 20)⟩])
 (.seq (.region [⟨some 7, none, .mov (.const .nilslice)⟩])
 (.seq (.block 0 (.loop k42_4))
 (.seq (.region [⟨some 111, none, .mov (.tmp 6)⟩,
  ⟨some 112, none, .mov (.tmp 5)⟩,
  ⟨some 113, none, .call (.const (.func (.func 61) [] [])) [(.tmp 111), (.tmp 112)]⟩])
 (.seq (.seq (.region [⟨some 114, none, .mov (.tmp 6)⟩,
  ⟨some 115, none, .nilCheck (.tmp 114)⟩,
  ⟨some 116, none, .fieldAddr 2 (.tmp 115)⟩,
  ⟨some 117, none, .load 1 false (.tmp 116)⟩,
  ⟨some 118, none, .bin .neq (.tmp 117) (.const (.int .i64 0))⟩])
 (.cond (.tmp 118) k42_5 .skip))
 (.seq (.region [⟨some 123, none, .mov (.tmp 7)⟩,
  ⟨some 2, none, .mov (.tmp 123)⟩,
  ⟨some 3, none, .mov (.const (.int .i64 0))⟩])
 .ret)))))))))⟩
theorem c42 : (XTab.of Try.prog).code 42 = some k42 := by kernel_rfl

/-! delphi/check.Vars -/
def k43_0 : ACode := (.region [⟨some 27, none, .mov (.tmp 3)⟩,
  ⟨some 28, none, .fieldAddr 1 (.tmp 6)⟩,
  ⟨some 29, none, .load 1 false (.tmp 28)⟩,
  ⟨some 30, none, .buildSlice 1 [(.str [])] [(0, 1, (.tmp 29))]⟩,
  ⟨some 31, none, .append 1 16 (.tmp 27) (.tmp 30)⟩,
  ⟨some 3, none, .mov (.tmp 31)⟩])
def k43_1 : ACode := (.seq (.region [⟨some 17, none, .mov (.tmp 4)⟩,
  ⟨some 18, none, .fieldAddr 1 (.tmp 6)⟩,
  ⟨some 19, none, .load 1 false (.tmp 18)⟩,
  ⟨some 20, none, .lookup (.scalar .str) (.int .i64 0) false (.tmp 17) (.tmp 19)⟩,
  ⟨some 21, none, .bin .add (.tmp 20) (.const (.int .i64 1))⟩,
  ⟨none, none, .mapUpdate (.scalar .str) (.tmp 17) (.tmp 19) (.tmp 21)⟩])
 (.seq (.region [⟨some 22, none, .mov (.tmp 4)⟩,
  ⟨some 23, none, .fieldAddr 1 (.tmp 6)⟩,
  ⟨some 24, none, .load 1 false (.tmp 23)⟩,
  ⟨some 25, none, .lookup (.scalar .str) (.int .i64 0) false (.tmp 22) (.tmp 24)⟩,
  ⟨some 26, none, .bin .eql (.tmp 25) (.const (.int .i64 1))⟩])
 (.cond (.tmp 26) k43_0 .skip)))
def k43_2 : ACode := (.seq (.region [⟨some 12, none, .indexAddr 3 (.tmp 8) (.tmp 10)⟩,
  ⟨some 13, none, .load 3 true (.tmp 12)⟩,
  ⟨some 6, none, .alloc [(.int .i64 0), (.str []), (.int .i64 0)]⟩,
  ⟨none, none, .store 3 (.tmp 6) (.tmp 13)⟩])
 (.seq (.region [⟨some 14, none, .fieldAddr 0 (.tmp 6)⟩,
  ⟨some 15, none, .load 1 false (.tmp 14)⟩,
  ⟨some 16, none, .bin .eql (.tmp 15) (.const (.int .i64 1))⟩])
 (.cond (.tmp 16) k43_1 .skip)))
def k43_3 : ACode := (.seq (.region [⟨some 11, none, .bin .lss (.tmp 10) (.tmp 9)⟩])
 (.seq (.cond (.tmp 11) .skip (.exit 0))
 (.seq (.block 1 k43_2)
 (.region [⟨some 32, none, .bin .add (.tmp 10) (.const (.int .i64 1))⟩,
  ⟨some 10, none, .mov (.tmp 32)⟩]))))
def k43 : AFun := ⟨34, [.tmp 2], (.seq (.region [⟨some 2, none, .mov (.const .nilslice)⟩])
 (.seq (.region [⟨some 3, none, .mov (.const .nilslice)⟩])
 (.seq (.region [⟨some 7, none, .mkMap⟩,
  ⟨some 4, none, .mov (.tmp 7)⟩])
 (.seq (.seq (.region [⟨some 8, none, .mov (.tmp 0)⟩,
  ⟨some 9, none, .lenSl (.tmp 8)⟩,
  ⟨some 10, none, .mov (.const (.int .i64 0))⟩])
 (.block 0 (.loop k43_3)))
 (.seq (.region [⟨some 33, none, .mov (.tmp 3)⟩,
  ⟨some 2, none, .mov (.tmp 33)⟩])
 .ret)))))⟩
theorem c43 : (XTab.of Try.prog).code 43 = some k43 := by kernel_rfl

/-! delphi/delphiref8.binds -/
def k44_0 : ACode := (.seq (.region [⟨some 34, none, .fieldAddr 3 (.tmp 2)⟩,
  ⟨some 35, none, .load 1 false (.tmp 34)⟩,
  ⟨some 36, none, .mov (.tmp 5)⟩,
  ⟨some 37, none, .indexAddr 3 (.tmp 35) (.tmp 36)⟩,
  ⟨some 38, none, .fieldAddr 2 (.tmp 37)⟩,
  ⟨some 39, none, .load 1 false (.tmp 38)⟩,
  ⟨some 40, none, .mov (.tmp 6)⟩,
  ⟨some 41, none, .indexAddr 3 (.tmp 39) (.tmp 40)⟩,
  ⟨some 42, none, .fieldAddr 0 (.tmp 41)⟩,
  ⟨some 43, none, .load 1 false (.tmp 42)⟩,
  ⟨some 44, none, .bin .eql (.tmp 43) (.const (.int .i64 1))⟩,
  ⟨some 45, none, .mov (.tmp 44)⟩,
  ⟨some 46, (some (45, true)), .fieldAddr 3 (.tmp 2)⟩,
  ⟨some 47, (some (45, true)), .load 1 false (.tmp 46)⟩,
  ⟨some 48, (some (45, true)), .mov (.tmp 5)⟩,
  ⟨some 49, (some (45, true)), .indexAddr 3 (.tmp 47) (.tmp 48)⟩,
  ⟨some 50, (some (45, true)), .fieldAddr 2 (.tmp 49)⟩,
  ⟨some 51, (some (45, true)), .load 1 false (.tmp 50)⟩,
  ⟨some 52, (some (45, true)), .mov (.tmp 6)⟩,
  ⟨some 53, (some (45, true)), .indexAddr 3 (.tmp 51) (.tmp 52)⟩,
  ⟨some 54, (some (45, true)), .fieldAddr 1 (.tmp 53)⟩,
  ⟨some 55, (some (45, true)), .load 1 false (.tmp 54)⟩,
  ⟨some 56, (some (45, true)), .mov (.tmp 1)⟩,
  ⟨some 57, (some (45, true)), .bin .eql (.tmp 55) (.tmp 56)⟩,
  ⟨some 58, none, .pick (.tmp 45) (.tmp 57) (.const (.bool false))⟩])
 (.cond (.tmp 58) (.seq (.region [⟨some 4, none, .mov (.const (.bool true))⟩])
 .ret) .skip))
def k44_1 : ACode := (.seq (.seq (.region [⟨some 14, none, .fieldAddr 3 (.tmp 2)⟩,
  ⟨some 15, none, .load 1 false (.tmp 14)⟩,
  ⟨some 16, none, .mov (.tmp 5)⟩,
  ⟨some 17, none, .indexAddr 3 (.tmp 15) (.tmp 16)⟩,
  ⟨some 18, none, .fieldAddr 0 (.tmp 17)⟩,
  ⟨some 19, none, .load 1 false (.tmp 18)⟩,
  ⟨some 20, none, .bin .eql (.tmp 19) (.const (.int .i64 1))⟩,
  ⟨some 21, none, .mov (.tmp 20)⟩,
  ⟨some 22, (some (21, true)), .mov (.tmp 6)⟩,
  ⟨some 23, (some (21, true)), .fieldAddr 3 (.tmp 2)⟩,
  ⟨some 24, (some (21, true)), .load 1 false (.tmp 23)⟩,
  ⟨some 25, (some (21, true)), .mov (.tmp 5)⟩,
  ⟨some 26, (some (21, true)), .indexAddr 3 (.tmp 24) (.tmp 25)⟩,
  ⟨some 27, (some (21, true)), .fieldAddr 2 (.tmp 26)⟩,
  ⟨some 28, (some (21, true)), .load 1 false (.tmp 27)⟩,
  ⟨some 29, (some (21, true)), .lenSl (.tmp 28)⟩,
  ⟨some 30, (some (21, true)), .bin .lss (.tmp 22) (.tmp 29)⟩,
  ⟨some 31, none, .pick (.tmp 21) (.tmp 30) (.const (.bool false))⟩])
 (.cond (.tmp 31) .skip (.exit 2)))
 (.seq (.block 3 k44_0)
 (.region [⟨some 32, none, .mov (.tmp 6)⟩,
  ⟨some 33, none, .bin .add (.tmp 32) (.const (.int .i64 1))⟩,
  ⟨some 6, none, .mov (.tmp 33)⟩])))
def k44_2 : ACode := (.seq (.seq (.region [⟨some 7, none, .mov (.tmp 5)⟩,
  ⟨some 8, none, .fieldAddr 3 (.tmp 2)⟩,
  ⟨some 9, none, .load 1 false (.tmp 8)⟩,
  ⟨some 10, none, .lenSl (.tmp 9)⟩,
  ⟨some 11, none, .bin .lss (.tmp 7) (.tmp 10)⟩])
 (.cond (.tmp 11) .skip (.exit 0)))
 (.seq (.block 1 (.seq (.region [⟨some 6, none, .mov (.const (.int .i64 0))⟩])
 (.block 2 (.loop k44_1))))
 (.region [⟨some 12, none, .mov (.tmp 5)⟩,
  ⟨some 13, none, .bin .add (.tmp 12) (.const (.int .i64 1))⟩,
  ⟨some 5, none, .mov (.tmp 13)⟩])))
def k44 : AFun := ⟨59, [.tmp 4], (.seq (.region [⟨some 2, none, .box (.tmp 0)⟩,
  ⟨some 4, none, .mov (.const (.bool false))⟩])
 (.seq (.seq (.region [⟨some 5, none, .mov (.const (.int .i64 0))⟩])
 (.block 0 (.loop k44_2)))
 (.seq (.region [⟨some 4, none, .mov (.const (.bool false))⟩])
 .ret)))⟩
theorem c44 : (XTab.of Try.prog).code 44 = some k44 := by kernel_rfl

/-! delphi/check.Arities$1 -/

def k45 : AFun := ⟨27, [], (.seq (.region [⟨some 9, none, .load 1 false (.tmp 2)⟩,
  ⟨some 10, none, .mov (.tmp 0)⟩,
  ⟨some 11, none, .lookup (.scalar .str) (.int .i64 0) true (.tmp 9) (.tmp 10)⟩,
  ⟨some 8, none, .mov (.tmp 11)⟩,
  ⟨some 12, none, .extract 0 (.tmp 8)⟩,
  ⟨some 13, none, .extract 1 (.tmp 8)⟩,
  ⟨some 6, none, .mov (.tmp 12)⟩,
  ⟨some 7, none, .mov (.tmp 13)⟩])
 (.seq (.region [⟨some 14, none, .load 1 false (.tmp 3)⟩,
  ⟨some 15, none, .mov (.tmp 14)⟩,
  ⟨some 16, (some (15, true)), .mov (.tmp 7)⟩,
  ⟨some 17, (some (15, true)), .un .not (.tmp 16)⟩,
  ⟨some 18, (some (15, true)), .mov (.tmp 17)⟩,
  ⟨some 19, (some (18, false)), .mov (.tmp 6)⟩,
  ⟨some 20, (some (18, false)), .mov (.tmp 1)⟩,
  ⟨some 21, (some (18, false)), .bin .eql (.tmp 19) (.tmp 20)⟩,
  ⟨some 22, (some (15, true)), .pick (.tmp 18) (.const (.bool true)) (.tmp 21)⟩,
  ⟨some 23, none, .pick (.tmp 15) (.tmp 22) (.const (.bool false))⟩,
  ⟨none, none, .store 1 (.tmp 3) (.tmp 23)⟩])
 (.region [⟨some 24, none, .load 1 false (.tmp 2)⟩,
  ⟨some 25, none, .mov (.tmp 0)⟩,
  ⟨some 26, none, .mov (.tmp 1)⟩,
  ⟨none, none, .mapUpdate (.scalar .str) (.tmp 24) (.tmp 25) (.tmp 26)⟩])))⟩
theorem c45 : (XTab.of Try.prog).code 45 = some k45 := by kernel_rfl

/-! delphi/delphiref8.pred -/
def k46_0 : ACode := (.seq (.drawn [⟨⟨some 26, none, .mov (.tmp 0)⟩, false, [], [27, 28, 29, 30, 31, 32, 33, 34, 35, 36]⟩,
  ⟨⟨some 27, none, .mov (.tmp 1)⟩, false, [], [26, 28, 29, 30, 31, 32, 33, 34, 35, 36, 10]⟩,
  ⟨⟨some 28, none, .mov (.tmp 4)⟩, false, [], [26, 27]⟩,
  ⟨⟨some 29, none, .mov (.tmp 28)⟩, false, [2], [26, 27]⟩,
  ⟨⟨some 30, (some (29, true)), .mov (.tmp 1)⟩, false, [2, 3], [26, 27, 31, 34, 10, 11]⟩,
  ⟨⟨some 31, (some (29, true)), .mov (.tmp 13)⟩, false, [2, 3], [26, 27, 30, 34, 10, 11]⟩,
  ⟨⟨some 32, (some (29, true)), .indexAddr 1 (.tmp 30) (.tmp 31)⟩, false, [4, 5, 2, 3], [26, 27, 34, 10, 11]⟩,
  ⟨⟨some 33, (some (29, true)), .load 1 false (.tmp 32)⟩, false, [5, 4, 6, 2, 3], [26, 27, 34, 10, 11]⟩,
  ⟨⟨some 34, (some (29, true)), .mov (.tmp 3)⟩, false, [2, 3], [26, 27, 30, 31, 32, 33, 10, 11]⟩,
  ⟨⟨some 35, (some (29, true)), .bin .eql (.tmp 33) (.tmp 34)⟩, false, [6, 4, 5, 7, 8, 2, 3], [26, 27, 10, 11]⟩,
  ⟨⟨some 36, none, .pick (.tmp 29) (.tmp 35) (.const (.bool false))⟩, false, [3, 2, 8, 7, 5, 4, 6, 9], [26, 27, 10, 11]⟩,
  ⟨⟨some 10, none, .mov (.tmp 26)⟩, false, [2, 3, 0], [27, 30, 31, 32, 33, 34, 35, 36]⟩,
  ⟨⟨some 11, none, .mov (.tmp 27)⟩, false, [1, 0, 3, 2, 11], [30, 31, 32, 33, 34, 35, 36]⟩,
  ⟨⟨some 12, none, .mov (.tmp 36)⟩, false, [9, 6, 4, 5, 7, 8, 10, 11, 2, 3, 0, 1, 12], []⟩])
 .ret)
def k46_1 : ACode := (.seq (.region [⟨some 20, none, .mov (.tmp 0)⟩,
  ⟨some 21, none, .mov (.tmp 13)⟩,
  ⟨some 22, none, .indexAddr 1 (.tmp 20) (.tmp 21)⟩,
  ⟨some 23, none, .load 1 false (.tmp 22)⟩,
  ⟨some 24, none, .mov (.tmp 2)⟩,
  ⟨some 25, none, .bin .eql (.tmp 23) (.tmp 24)⟩])
 (.cond (.tmp 25) k46_0 .skip))
def k46_2 : ACode := (.seq (.seq (.region [⟨some 14, none, .mov (.tmp 13)⟩,
  ⟨some 15, none, .mov (.tmp 0)⟩,
  ⟨some 16, none, .lenSl (.tmp 15)⟩,
  ⟨some 17, none, .bin .lss (.tmp 14) (.tmp 16)⟩])
 (.cond (.tmp 17) .skip (.exit 0)))
 (.seq (.block 1 k46_1)
 (.region [⟨some 18, none, .mov (.tmp 13)⟩,
  ⟨some 19, none, .bin .add (.tmp 18) (.const (.int .i64 1))⟩,
  ⟨some 13, none, .mov (.tmp 19)⟩])))
def k46 : AFun := ⟨46, [.tmp 10, .tmp 11, .tmp 12], (.seq (.region [⟨some 10, none, .mov (.const .nilslice)⟩,
  ⟨some 11, none, .mov (.const .nilslice)⟩,
  ⟨some 12, none, .mov (.const (.bool false))⟩])
 (.seq (.seq (.region [⟨some 13, none, .mov (.const (.int .i64 0))⟩])
 (.block 0 (.loop k46_2)))
 (.seq (.region [⟨some 37, none, .mov (.tmp 0)⟩,
  ⟨some 38, none, .mov (.tmp 2)⟩,
  ⟨some 39, none, .buildSlice 1 [(.str [])] [(0, 1, (.tmp 38))]⟩,
  ⟨some 40, none, .append 1 16 (.tmp 37) (.tmp 39)⟩,
  ⟨some 41, none, .mov (.tmp 1)⟩,
  ⟨some 42, none, .mov (.tmp 3)⟩,
  ⟨some 43, none, .buildSlice 1 [(.int .i64 0)] [(0, 1, (.tmp 42))]⟩,
  ⟨some 44, none, .append 1 8 (.tmp 41) (.tmp 43)⟩,
  ⟨some 45, none, .mov (.tmp 4)⟩,
  ⟨some 10, none, .mov (.tmp 40)⟩,
  ⟨some 11, none, .mov (.tmp 44)⟩,
  ⟨some 12, none, .mov (.tmp 45)⟩])
 .ret)))⟩
theorem c46 : (XTab.of Try.prog).code 46 = some k46 := by kernel_rfl

/-! delphi/lex.Front -/
def k47_0 : ACode := (.seq (.region [⟨some 21, none, .mov (.tmp 0)⟩,
  ⟨some 22, none, .mov (.tmp 5)⟩,
  ⟨some 23, none, .sliceStr (.tmp 21) (some (.tmp 22)) none⟩,
  ⟨some 24, none, .call (.const (.func (.func 64) [] [])) [(.tmp 23)]⟩,
  ⟨some 20, none, .mov (.tmp 24)⟩,
  ⟨some 25, none, .extract 0 (.tmp 20)⟩,
  ⟨some 26, none, .extract 1 (.tmp 20)⟩,
  ⟨some 6, none, .mov (.tmp 25)⟩,
  ⟨some 7, none, .mov (.tmp 26)⟩])
 (.seq (.seq (.region [⟨some 27, none, .mov (.tmp 7)⟩,
  ⟨some 28, none, .bin .eql (.tmp 27) (.const (.int .i64 0))⟩,
  ⟨some 29, none, .mov (.tmp 28)⟩,
  ⟨some 30, (some (29, false)), .mov (.tmp 6)⟩,
  ⟨some 31, (some (29, false)), .bin .neq (.tmp 30) (.const (.int .i64 4))⟩,
  ⟨some 32, (some (29, false)), .mov (.tmp 31)⟩,
  ⟨some 33, (some (32, true)), .mov (.tmp 7)⟩,
  ⟨some 34, (some (32, true)), .bin .gtr (.tmp 33) (.const (.int .i64 16))⟩,
  ⟨some 35, (some (29, false)), .pick (.tmp 32) (.tmp 34) (.const (.bool false))⟩,
  ⟨some 36, none, .pick (.tmp 29) (.const (.bool true)) (.tmp 35)⟩])
 (.cond (.tmp 36) (.seq (.region [⟨some 37, none, .mov (.tmp 4)⟩,
  ⟨some 2, none, .mov (.tmp 37)⟩,
  ⟨some 3, none, .mov (.const (.bool false))⟩])
 .ret) .skip))
 (.seq (.region [⟨some 38, none, .mov (.tmp 4)⟩,
  ⟨some 39, none, .mov (.tmp 6)⟩,
  ⟨some 40, none, .mov (.tmp 0)⟩,
  ⟨some 41, none, .mov (.tmp 5)⟩,
  ⟨some 42, none, .mov (.tmp 5)⟩,
  ⟨some 43, none, .mov (.tmp 7)⟩,
  ⟨some 44, none, .bin .add (.tmp 42) (.tmp 43)⟩,
  ⟨some 45, none, .sliceStr (.tmp 40) (some (.tmp 41)) (some (.tmp 44))⟩,
  ⟨some 46, none, .mov (.tmp 5)⟩,
  ⟨some 47, none, .build [(.int .i64 0), (.str []), (.int .i64 0)] [(0, 1, (.tmp 39)), (1, 1, (.tmp 45)), (2, 1, (.tmp 46))]⟩,
  ⟨some 48, none, .buildSlice 1 [(.int .i64 0), (.str []), (.int .i64 0)] [(0, 3, (.tmp 47))]⟩,
  ⟨some 49, none, .append 3 32 (.tmp 38) (.tmp 48)⟩,
  ⟨some 4, none, .mov (.tmp 49)⟩])
 (.region [⟨some 50, none, .mov (.tmp 5)⟩,
  ⟨some 51, none, .mov (.tmp 7)⟩,
  ⟨some 52, none, .bin .add (.tmp 50) (.tmp 51)⟩,
  ⟨some 5, none, .mov (.tmp 52)⟩]))))
def k47_1 : ACode := (.seq (.seq (.region [⟨some 10, none, .mov (.tmp 5)⟩,
  ⟨some 11, none, .mov (.tmp 0)⟩,
  ⟨some 12, none, .lenStr (.tmp 11)⟩,
  ⟨some 13, none, .bin .lss (.tmp 10) (.tmp 12)⟩])
 (.cond (.tmp 13) .skip (.exit 0)))
 (.seq (.block 1 k47_0)
 (.region [⟨some 14, none, .mov (.tmp 5)⟩,
  ⟨some 15, none, .mov (.tmp 0)⟩,
  ⟨some 16, none, .mov (.tmp 5)⟩,
  ⟨some 17, none, .sliceStr (.tmp 15) (some (.tmp 16)) none⟩,
  ⟨some 18, none, .call (.const (.func (.func 63) [] [])) [(.tmp 17)]⟩,
  ⟨some 19, none, .bin .add (.tmp 14) (.tmp 18)⟩,
  ⟨some 5, none, .mov (.tmp 19)⟩])))
def k47 : AFun := ⟨54, [.tmp 2, .tmp 3], (.seq (.region [⟨some 2, none, .mov (.const .nilslice)⟩,
  ⟨some 3, none, .mov (.const (.bool false))⟩])
 (.seq (.region [⟨some 4, none, .mov (.const .nilslice)⟩])
 (.seq (.seq (.region [⟨some 8, none, .mov (.tmp 0)⟩,
  ⟨some 9, none, .call (.const (.func (.func 63) [] [])) [(.tmp 8)]⟩,
  ⟨some 5, none, .mov (.tmp 9)⟩])
 (.block 0 (.loop k47_1)))
 (.seq (.region [⟨some 53, none, .mov (.tmp 4)⟩,
  ⟨some 2, none, .mov (.tmp 53)⟩,
  ⟨some 3, none, .mov (.const (.bool true))⟩])
 .ret))))⟩
theorem c47 : (XTab.of Try.prog).code 47 = some k47 := by kernel_rfl

end Go.Proofs.Ytjidefnbancmfaa
