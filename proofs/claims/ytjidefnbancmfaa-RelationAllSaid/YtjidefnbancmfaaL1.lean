/- A part of the proof. -/
import Derived.Test.YtjidefnbancmfaaRows
import Derived.Test.YtjidefnbancmfaaAgC
set_option maxRecDepth 100000
namespace Go.Proofs.Ytjidefnbancmfaa
open Go.AE
/-! delphi/delphilaw0.Names -/
def k3_0 : ACode := (.seq (.drawn [⟨⟨some 17, none, .mov (.tmp 1)⟩, false, [], [18, 21, 22, 23, 24]⟩,
  ⟨⟨some 18, none, .mov (.tmp 3)⟩, false, [], [17, 21, 22, 23, 24]⟩,
  ⟨⟨some 19, none, .indexAddr 1 (.tmp 17) (.tmp 18)⟩, false, [0, 1], [21, 22, 23, 24]⟩,
  ⟨⟨some 20, none, .load 1 false (.tmp 19)⟩, false, [1, 0, 2], [21, 22, 23, 24]⟩,
  ⟨⟨some 21, none, .mov (.tmp 2)⟩, false, [], [17, 18, 19, 20, 22]⟩,
  ⟨⟨some 22, none, .mov (.tmp 3)⟩, false, [], [17, 18, 19, 20, 21]⟩,
  ⟨⟨some 23, none, .indexAddr 1 (.tmp 21) (.tmp 22)⟩, false, [4, 5], [17, 18, 19, 20]⟩,
  ⟨⟨some 24, none, .load 1 false (.tmp 23)⟩, false, [5, 4, 6], [17, 18, 19, 20]⟩,
  ⟨⟨some 25, none, .bin .neq (.tmp 20) (.tmp 24)⟩, false, [2, 0, 1, 3, 6, 4, 5, 7], []⟩])
 (.cond (.tmp 25) (.seq (.region [⟨some 0, none, .mov (.const (.bool false))⟩])
 .ret) .skip))
def k3_1 : ACode := (.seq (.seq (.region [⟨some 11, none, .mov (.tmp 3)⟩,
  ⟨some 12, none, .mov (.tmp 1)⟩,
  ⟨some 13, none, .lenSl (.tmp 12)⟩,
  ⟨some 14, none, .bin .lss (.tmp 11) (.tmp 13)⟩])
 (.cond (.tmp 14) .skip (.exit 0)))
 (.seq (.block 1 k3_0)
 (.region [⟨some 15, none, .mov (.tmp 3)⟩,
  ⟨some 16, none, .bin .add (.tmp 15) (.const (.int .i64 1))⟩,
  ⟨some 3, none, .mov (.tmp 16)⟩])))
def k3 : AFun := ⟨26, [.tmp 0], (.seq (.region [⟨some 0, none, .mov (.const (.bool false))⟩])
 (.seq (.region [⟨some 4, none, .buildSlice 79 [(.int .i64 0), (.int .i64 0), (.int .i64 0), (.int .i64 0), (.int .i64 0), (.int .i64 0), (.int .i64 0), (.int .i64 0), (.int .i64 0), (.int .i64 0), (.int .i64 0), (.int .i64 0), (.int .i64 0), (.int .i64 0), (.int .i64 0), (.int .i64 0), (.int .i64 0), (.int .i64 0), (.int .i64 0), (.int .i64 0), (.int .i64 0), (.int .i64 0), (.int .i64 0), (.int .i64 0), (.int .i64 0), (.int .i64 0), (.int .i64 0), (.int .i64 0), (.int .i64 0), (.int .i64 0), (.int .i64 0), (.int .i64 0), (.int .i64 0), (.int .i64 0), (.int .i64 0), (.int .i64 0), (.int .i64 0), (.int .i64 0), (.int .i64 0), (.int .i64 0), (.int .i64 0), (.int .i64 0), (.int .i64 0), (.int .i64 0), (.int .i64 0), (.int .i64 0), (.int .i64 0), (.int .i64 0), (.int .i64 0), (.int .i64 0), (.int .i64 0), (.int .i64 0), (.int .i64 0), (.int .i64 0), (.int .i64 0), (.int .i64 0), (.int .i64 0), (.int .i64 0), (.int .i64 0), (.int .i64 0), (.int .i64 0), (.int .i64 0), (.int .i64 0), (.int .i64 0), (.int .i64 0), (.int .i64 0), (.int .i64 0), (.int .i64 0), (.int .i64 0), (.int .i64 0), (.int .i64 0), (.int .i64 0), (.int .i64 0), (.int .i64 0), (.int .i64 0), (.int .i64 0), (.int .i64 0), (.int .i64 0), (.int .i64 0)] [(0, 1, (.const (.int .i64 0))), (1, 1, (.const (.int .i64 1))), (2, 1, (.const (.int .i64 2))), (3, 1, (.const (.int .i64 3))), (4, 1, (.const (.int .i64 4))), (5, 1, (.const (.int .i64 5))), (6, 1, (.const (.int .i64 6))), (7, 1, (.const (.int .i64 7))), (8, 1, (.const (.int .i64 8))), (9, 1, (.const (.int .i64 9))), (10, 1, (.const (.int .i64 10))), (11, 1, (.const (.int .i64 11))), (12, 1, (.const (.int .i64 12))), (13, 1, (.const (.int .i64 13))), (14, 1, (.const (.int .i64 14))), (15, 1, (.const (.int .i64 4000))), (16, 1, (.const (.int .i64 16))), (17, 1, (.const (.int .i64 2147483648))), (18, 1, (.const (.int .i64 4))), (19, 1, (.const (.int .i64 30))), (20, 1, (.const (.int .i64 6))), (21, 1, (.const (.int .i64 100))), (22, 1, (.const (.int .i64 1000))), (23, 1, (.const (.int .i64 65536))), (24, 1, (.const (.int .i64 4194304))), (25, 1, (.const (.int .i64 64))), (26, 1, (.const (.int .i64 7))), (27, 1, (.const (.int .i64 8))), (28, 1, (.const (.int .i64 64))), (29, 1, (.const (.int .i64 100))), (30, 1, (.const (.int .i64 1099511627776))), (31, 1, (.const (.int .i64 8))), (32, 1, (.const (.int .i64 10))), (33, 1, (.const (.int .i64 2))), (34, 1, (.const (.int .i64 1))), (35, 1, (.const (.int .i64 2))), (36, 1, (.const (.int .i64 3))), (37, 1, (.const (.int .i64 1))), (38, 1, (.const (.int .i64 2))), (39, 1, (.const (.int .i64 3))), (40, 1, (.const (.int .i64 4))), (41, 1, (.const (.int .i64 5))), (42, 1, (.const (.int .i64 6))), (43, 1, (.const (.int .i64 1))), (44, 1, (.const (.int .i64 2))), (45, 1, (.const (.int .i64 3))), (46, 1, (.const (.int .i64 4))), (47, 1, (.const (.int .i64 1))), (48, 1, (.const (.int .i64 2))), (49, 1, (.const (.int .i64 3))), (50, 1, (.const (.int .i64 1))), (51, 1, (.const (.int .i64 2))), (52, 1, (.const (.int .i64 3))), (53, 1, (.const (.int .i64 4))), (54, 1, (.const (.int .i64 5))), (55, 1, (.const (.int .i64 6))), (56, 1, (.const (.int .i64 7))), (57, 1, (.const (.int .i64 8))), (58, 1, (.const (.int .i64 9))), (59, 1, (.const (.int .i64 10))), (60, 1, (.const (.int .i64 11))), (61, 1, (.const (.int .i64 0))), (62, 1, (.const (.int .i64 1))), (63, 1, (.const (.int .i64 2))), (64, 1, (.const (.int .i64 3))), (65, 1, (.const (.int .i64 1))), (66, 1, (.const (.int .i64 2))), (67, 1, (.const (.int .i64 3))), (68, 1, (.const (.int .i64 4))), (69, 1, (.const (.int .i64 5))), (70, 1, (.const (.int .i64 6))), (71, 1, (.const (.int .i64 7))), (72, 1, (.const (.int .i64 8))), (73, 1, (.const (.int .i64 9))), (74, 1, (.const (.int .i64 10))), (75, 1, (.const (.int .i64 11))), (76, 1, (.const (.int .i64 12))), (77, 1, (.const (.int .i64 13))), (78, 1, (.const (.int .i64 14)))]⟩,
  ⟨some 1, none, .mov (.tmp 4)⟩])
 (.seq (.region [⟨some 5, none, .buildSlice 79 [(.int .i64 0), (.int .i64 0), (.int .i64 0), (.int .i64 0), (.int .i64 0), (.int .i64 0), (.int .i64 0), (.int .i64 0), (.int .i64 0), (.int .i64 0), (.int .i64 0), (.int .i64 0), (.int .i64 0), (.int .i64 0), (.int .i64 0), (.int .i64 0), (.int .i64 0), (.int .i64 0), (.int .i64 0), (.int .i64 0), (.int .i64 0), (.int .i64 0), (.int .i64 0), (.int .i64 0), (.int .i64 0), (.int .i64 0), (.int .i64 0), (.int .i64 0), (.int .i64 0), (.int .i64 0), (.int .i64 0), (.int .i64 0), (.int .i64 0), (.int .i64 0), (.int .i64 0), (.int .i64 0), (.int .i64 0), (.int .i64 0), (.int .i64 0), (.int .i64 0), (.int .i64 0), (.int .i64 0), (.int .i64 0), (.int .i64 0), (.int .i64 0), (.int .i64 0), (.int .i64 0), (.int .i64 0), (.int .i64 0), (.int .i64 0), (.int .i64 0), (.int .i64 0), (.int .i64 0), (.int .i64 0), (.int .i64 0), (.int .i64 0), (.int .i64 0), (.int .i64 0), (.int .i64 0), (.int .i64 0), (.int .i64 0), (.int .i64 0), (.int .i64 0), (.int .i64 0), (.int .i64 0), (.int .i64 0), (.int .i64 0), (.int .i64 0), (.int .i64 0), (.int .i64 0), (.int .i64 0), (.int .i64 0), (.int .i64 0), (.int .i64 0), (.int .i64 0), (.int .i64 0), (.int .i64 0), (.int .i64 0), (.int .i64 0)] [(0, 1, (.const (.int .i64 0))), (1, 1, (.const (.int .i64 1))), (2, 1, (.const (.int .i64 2))), (3, 1, (.const (.int .i64 3))), (4, 1, (.const (.int .i64 4))), (5, 1, (.const (.int .i64 5))), (6, 1, (.const (.int .i64 6))), (7, 1, (.const (.int .i64 7))), (8, 1, (.const (.int .i64 8))), (9, 1, (.const (.int .i64 9))), (10, 1, (.const (.int .i64 10))), (11, 1, (.const (.int .i64 11))), (12, 1, (.const (.int .i64 12))), (13, 1, (.const (.int .i64 13))), (14, 1, (.const (.int .i64 14))), (15, 1, (.const (.int .i64 4000))), (16, 1, (.const (.int .i64 16))), (17, 1, (.const (.int .i64 2147483648))), (18, 1, (.const (.int .i64 4))), (19, 1, (.const (.int .i64 30))), (20, 1, (.const (.int .i64 6))), (21, 1, (.const (.int .i64 100))), (22, 1, (.const (.int .i64 1000))), (23, 1, (.const (.int .i64 65536))), (24, 1, (.const (.int .i64 4194304))), (25, 1, (.const (.int .i64 64))), (26, 1, (.const (.int .i64 7))), (27, 1, (.const (.int .i64 8))), (28, 1, (.const (.int .i64 64))), (29, 1, (.const (.int .i64 100))), (30, 1, (.const (.int .i64 1099511627776))), (31, 1, (.const (.int .i64 8))), (32, 1, (.const (.int .i64 10))), (33, 1, (.const (.int .i64 2))), (34, 1, (.const (.int .i64 1))), (35, 1, (.const (.int .i64 2))), (36, 1, (.const (.int .i64 3))), (37, 1, (.const (.int .i64 1))), (38, 1, (.const (.int .i64 2))), (39, 1, (.const (.int .i64 3))), (40, 1, (.const (.int .i64 4))), (41, 1, (.const (.int .i64 5))), (42, 1, (.const (.int .i64 6))), (43, 1, (.const (.int .i64 1))), (44, 1, (.const (.int .i64 2))), (45, 1, (.const (.int .i64 3))), (46, 1, (.const (.int .i64 4))), (47, 1, (.const (.int .i64 1))), (48, 1, (.const (.int .i64 2))), (49, 1, (.const (.int .i64 3))), (50, 1, (.const (.int .i64 1))), (51, 1, (.const (.int .i64 2))), (52, 1, (.const (.int .i64 3))), (53, 1, (.const (.int .i64 4))), (54, 1, (.const (.int .i64 5))), (55, 1, (.const (.int .i64 6))), (56, 1, (.const (.int .i64 7))), (57, 1, (.const (.int .i64 8))), (58, 1, (.const (.int .i64 9))), (59, 1, (.const (.int .i64 10))), (60, 1, (.const (.int .i64 11))), (61, 1, (.const (.int .i64 0))), (62, 1, (.const (.int .i64 1))), (63, 1, (.const (.int .i64 2))), (64, 1, (.const (.int .i64 3))), (65, 1, (.const (.int .i64 1))), (66, 1, (.const (.int .i64 2))), (67, 1, (.const (.int .i64 3))), (68, 1, (.const (.int .i64 4))), (69, 1, (.const (.int .i64 5))), (70, 1, (.const (.int .i64 6))), (71, 1, (.const (.int .i64 7))), (72, 1, (.const (.int .i64 8))), (73, 1, (.const (.int .i64 9))), (74, 1, (.const (.int .i64 10))), (75, 1, (.const (.int .i64 11))), (76, 1, (.const (.int .i64 12))), (77, 1, (.const (.int .i64 13))), (78, 1, (.const (.int .i64 14)))]⟩,
  ⟨some 2, none, .mov (.tmp 5)⟩])
 (.seq (.seq (.region [⟨some 6, none, .mov (.tmp 1)⟩,
  ⟨some 7, none, .lenSl (.tmp 6)⟩,
  ⟨some 8, none, .mov (.tmp 2)⟩,
  ⟨some 9, none, .lenSl (.tmp 8)⟩,
  ⟨some 10, none, .bin .neq (.tmp 7) (.tmp 9)⟩])
 (.cond (.tmp 10) (.seq (.region [⟨some 0, none, .mov (.const (.bool false))⟩])
 .ret) .skip))
 (.seq (.seq (.region [⟨some 3, none, .mov (.const (.int .i64 0))⟩])
 (.block 0 (.loop k3_1)))
 (.seq (.region [⟨some 0, none, .mov (.const (.bool true))⟩])
 .ret))))))⟩
theorem c3 : (XTab.of Try.prog).code 3 = some k3 := by kernel_rfl

/-! delphi/delphilaw9.CheckRules -/
def k4_0 : ACode := (.seq (.drawn [⟨⟨some 34, none, .mov (.tmp 8)⟩, false, [], [35, 39, 40, 41, 42]⟩,
  ⟨⟨some 35, none, .mov (.tmp 9)⟩, false, [], [34, 39, 40, 41, 42]⟩,
  ⟨⟨some 36, none, .indexAddr 4 (.tmp 34) (.tmp 35)⟩, false, [0, 1], [39, 40, 41, 42]⟩,
  ⟨⟨some 37, none, .load 4 true (.tmp 36)⟩, false, [1, 0, 2], [39, 40, 41, 42]⟩,
  ⟨⟨some 38, none, .call (.const (.func (.func 15) [] [])) [(.tmp 37)]⟩, true, [2, 0, 1, 3], [39, 40, 41, 42]⟩,
  ⟨⟨some 39, none, .mov (.tmp 8)⟩, false, [], [34, 35, 36, 37, 38, 40]⟩,
  ⟨⟨some 40, none, .mov (.tmp 9)⟩, false, [], [34, 35, 36, 37, 38, 39]⟩,
  ⟨⟨some 41, none, .indexAddr 4 (.tmp 39) (.tmp 40)⟩, false, [5, 6], [34, 35, 36, 37, 38]⟩,
  ⟨⟨some 42, none, .load 4 true (.tmp 41)⟩, false, [6, 5, 7], [34, 35, 36, 37, 38]⟩,
  ⟨⟨some 43, none, .call (.const (.func (.func 16) [] [])) [(.tmp 42)]⟩, true, [7, 5, 6, 8, 3, 1, 0, 2, 4], []⟩,
  ⟨⟨some 44, none, .eqv true .bool (.tmp 38) (.tmp 43)⟩, false, [4, 2, 0, 1, 3, 8, 6, 5, 7, 9], []⟩])
 (.cond (.tmp 44) (.seq (.region [⟨some 6, none, .mov (.const (.bool false))⟩])
 .ret) .skip))
def k4_1 : ACode := (.seq (.seq (.region [⟨some 28, none, .mov (.tmp 9)⟩,
  ⟨some 29, none, .mov (.tmp 8)⟩,
  ⟨some 30, none, .lenSl (.tmp 29)⟩,
  ⟨some 31, none, .bin .lss (.tmp 28) (.tmp 30)⟩])
 (.cond (.tmp 31) .skip (.exit 0)))
 (.seq (.block 1 k4_0)
 (.region [⟨some 32, none, .mov (.tmp 9)⟩,
  ⟨some 33, none, .bin .add (.tmp 32) (.const (.int .i64 1))⟩,
  ⟨some 9, none, .mov (.tmp 33)⟩])))
def k4_2 : ACode := (.seq (.region [⟨some 60, none, .mov (.tmp 11)⟩,
  ⟨some 61, none, .bin .eql (.tmp 60) (.const (.int .i64 6))⟩,
  ⟨some 62, none, .mov (.tmp 61)⟩,
  ⟨some 63, (some (62, true)), .mov (.tmp 10)⟩,
  ⟨some 64, (some (62, true)), .lenMap (.tmp 63)⟩,
  ⟨some 65, (some (62, true)), .bin .eql (.tmp 64) (.const (.int .i64 0))⟩,
  ⟨some 66, none, .pick (.tmp 62) (.tmp 65) (.const (.bool false))⟩,
  ⟨some 6, none, .mov (.tmp 66)⟩])
 .ret)
def k4_3 : ACode := (.seq (.region [⟨some 92, none, .mov (.tmp 10)⟩,
  ⟨some 93, none, .mov (.tmp 12)⟩,
  ⟨some 94, none, .mov (.tmp 15)⟩,
  ⟨some 95, none, .indexAddr 1 (.tmp 93) (.tmp 94)⟩,
  ⟨some 96, none, .load 1 false (.tmp 95)⟩,
  ⟨some 97, none, .lookup (.scalar .str) (.int .i64 0) true (.tmp 92) (.tmp 96)⟩,
  ⟨some 91, none, .mov (.tmp 97)⟩,
  ⟨some 98, none, .extract 0 (.tmp 91)⟩,
  ⟨some 99, none, .extract 1 (.tmp 91)⟩,
  ⟨some 16, none, .mov (.tmp 98)⟩,
  ⟨some 17, none, .mov (.tmp 99)⟩])
 (.seq (.region [⟨some 100, none, .mov (.tmp 17)⟩,
  ⟨some 101, none, .un .not (.tmp 100)⟩,
  ⟨some 102, none, .mov (.tmp 101)⟩,
  ⟨some 103, (some (102, false)), .mov (.tmp 16)⟩,
  ⟨some 104, (some (102, false)), .mov (.tmp 13)⟩,
  ⟨some 105, (some (102, false)), .mov (.tmp 15)⟩,
  ⟨some 106, (some (102, false)), .indexAddr 1 (.tmp 104) (.tmp 105)⟩,
  ⟨some 107, (some (102, false)), .load 1 false (.tmp 106)⟩,
  ⟨some 108, (some (102, false)), .bin .neq (.tmp 103) (.tmp 107)⟩,
  ⟨some 109, none, .pick (.tmp 102) (.const (.bool true)) (.tmp 108)⟩])
 (.cond (.tmp 109) (.seq (.region [⟨some 6, none, .mov (.const (.bool false))⟩])
 .ret) .skip)))
def k4_4 : ACode := (.seq (.seq (.region [⟨some 85, none, .mov (.tmp 15)⟩,
  ⟨some 86, none, .mov (.tmp 12)⟩,
  ⟨some 87, none, .lenSl (.tmp 86)⟩,
  ⟨some 88, none, .bin .lss (.tmp 85) (.tmp 87)⟩])
 (.cond (.tmp 88) .skip (.exit 2)))
 (.seq (.block 3 k4_3)
 (.region [⟨some 89, none, .mov (.tmp 15)⟩,
  ⟨some 90, none, .bin .add (.tmp 89) (.const (.int .i64 1))⟩,
  ⟨some 15, none, .mov (.tmp 90)⟩])))
def k4 : AFun := ⟨110, [.tmp 6], (.seq (.region [⟨some 6, none, .mov (.const (.bool false))⟩])
 (.seq (.region [⟨some 18, none, .call (.const (.func (.func 13) [] [])) []⟩,
  ⟨some 7, none, .mov (.tmp 18)⟩])
 (.seq (.seq (.region [⟨some 19, none, .mov (.tmp 7)⟩,
  ⟨some 20, none, .un .not (.tmp 19)⟩])
 (.cond (.tmp 20) (.seq (.region [⟨some 6, none, .mov (.const (.bool false))⟩])
 .ret) .skip))
 (.seq (.region [⟨some 21, none, .mov (.tmp 0)⟩,
  ⟨some 22, none, .call (.const (.func (.func 14) [] [])) [(.tmp 21)]⟩,
  ⟨some 8, none, .mov (.tmp 22)⟩])
 (.seq (.seq (.region [⟨some 23, none, .mov (.tmp 1)⟩,
  ⟨some 24, none, .lenSl (.tmp 23)⟩,
  ⟨some 25, none, .bin .gtr (.tmp 24) (.const (.int .i64 10))⟩])
 (.cond (.tmp 25) (.region [⟨some 26, none, .mov (.tmp 1)⟩,
  ⟨some 27, none, .slice 2 (.tmp 26) none (some (.const (.int .i64 10))) none⟩,
  ⟨some 1, none, .mov (.tmp 27)⟩]) .skip))
 (.seq (.seq (.region [⟨some 9, none, .mov (.const (.int .i64 0))⟩])
 (.block 0 (.loop k4_1)))
 (.seq (.region [⟨some 46, none, .mov (.tmp 8)⟩,
  ⟨some 47, none, .mov (.tmp 1)⟩,
  ⟨some 48, none, .call (.const (.func (.func 17) [] [])) [(.tmp 46), (.tmp 47)]⟩,
  ⟨some 45, none, .mov (.tmp 48)⟩,
  ⟨some 49, none, .extract 0 (.tmp 45)⟩,
  ⟨some 50, none, .extract 1 (.tmp 45)⟩,
  ⟨some 10, none, .mov (.tmp 49)⟩,
  ⟨some 11, none, .mov (.tmp 50)⟩])
 (.seq (.region [⟨some 52, none, .mov (.tmp 8)⟩,
  ⟨some 53, none, .mov (.tmp 1)⟩,
  ⟨some 54, none, .call (.const (.func (.func 18) [] [])) [(.tmp 52), (.tmp 53)]⟩,
  ⟨some 51, none, .mov (.tmp 54)⟩,
  ⟨some 55, none, .extract 0 (.tmp 51)⟩,
  ⟨some 56, none, .extract 1 (.tmp 51)⟩,
  ⟨some 57, none, .extract 2 (.tmp 51)⟩,
  ⟨some 12, none, .mov (.tmp 55)⟩,
  ⟨some 13, none, .mov (.tmp 56)⟩,
  ⟨some 14, none, .mov (.tmp 57)⟩])
 (.seq (.seq (.region [⟨some 58, none, .mov (.tmp 14)⟩,
  ⟨some 59, none, .un .not (.tmp 58)⟩])
 (.cond (.tmp 59) k4_2 .skip))
 (.seq (.seq (.region [⟨some 67, none, .mov (.tmp 11)⟩,
  ⟨some 68, none, .bin .neq (.tmp 67) (.const (.int .i64 0))⟩,
  ⟨some 69, none, .mov (.tmp 68)⟩,
  ⟨some 70, (some (69, false)), .mov (.tmp 10)⟩,
  ⟨some 71, (some (69, false)), .lenMap (.tmp 70)⟩,
  ⟨some 72, (some (69, false)), .mov (.tmp 12)⟩,
  ⟨some 73, (some (69, false)), .lenSl (.tmp 72)⟩,
  ⟨some 74, (some (69, false)), .bin .neq (.tmp 71) (.tmp 73)⟩,
  ⟨some 75, none, .pick (.tmp 69) (.const (.bool true)) (.tmp 74)⟩,
  ⟨some 76, none, .mov (.tmp 75)⟩,
  ⟨some 77, (some (76, false)), .mov (.tmp 8)⟩,
  ⟨some 78, (some (76, false)), .mov (.tmp 2)⟩,
  ⟨some 79, (some (76, false)), .call (.const (.func (.func 19) [] [])) [(.tmp 77), (.tmp 78)]⟩,
  ⟨some 80, (some (76, false)), .mov (.tmp 8)⟩,
  ⟨some 81, (some (76, false)), .mov (.tmp 2)⟩,
  ⟨some 82, (some (76, false)), .call (.const (.func (.func 20) [] [])) [(.tmp 80), (.tmp 81)]⟩,
  ⟨some 83, (some (76, false)), .eqv true .bool (.tmp 79) (.tmp 82)⟩,
  ⟨some 84, none, .pick (.tmp 76) (.const (.bool true)) (.tmp 83)⟩])
 (.cond (.tmp 84) (.seq (.region [⟨some 6, none, .mov (.const (.bool false))⟩])
 .ret) .skip))
 (.seq (.seq (.region [⟨some 15, none, .mov (.const (.int .i64 0))⟩])
 (.block 2 (.loop k4_4)))
 (.seq (.region [⟨some 6, none, .mov (.const (.bool true))⟩])
 .ret))))))))))))⟩
theorem c4 : (XTab.of Try.prog).code 4 = some k4 := by kernel_rfl

/-! delphi/delphilaw7.LexScan -/
def k6_0 : ACode := (.seq (.drawn [⟨⟨some 43, none, .mov (.tmp 4)⟩, false, [], [44, 48, 49, 50, 51, 52]⟩,
  ⟨⟨some 44, none, .mov (.tmp 8)⟩, false, [], [43, 48, 49, 50, 51, 52]⟩,
  ⟨⟨some 45, none, .indexAddr 3 (.tmp 43) (.tmp 44)⟩, false, [0, 1], [48, 49, 50, 51, 52]⟩,
  ⟨⟨some 46, none, .fieldAddr 0 (.tmp 45)⟩, false, [1, 0, 2], [48, 49, 50, 51, 52]⟩,
  ⟨⟨some 47, none, .load 1 false (.tmp 46)⟩, false, [2, 0, 1, 3], [48, 49, 50, 51, 52]⟩,
  ⟨⟨some 48, none, .mov (.tmp 6)⟩, false, [], [43, 44, 45, 46, 47, 49]⟩,
  ⟨⟨some 49, none, .mov (.tmp 8)⟩, false, [], [43, 44, 45, 46, 47, 48]⟩,
  ⟨⟨some 50, none, .indexAddr 3 (.tmp 48) (.tmp 49)⟩, false, [5, 6], [43, 44, 45, 46, 47]⟩,
  ⟨⟨some 51, none, .fieldAddr 0 (.tmp 50)⟩, false, [6, 5, 7], [43, 44, 45, 46, 47]⟩,
  ⟨⟨some 52, none, .load 1 false (.tmp 51)⟩, false, [7, 5, 6, 8], [43, 44, 45, 46, 47]⟩,
  ⟨⟨some 53, none, .bin .neq (.tmp 47) (.tmp 52)⟩, false, [3, 1, 0, 2, 4, 8, 6, 5, 7, 9], []⟩,
  ⟨⟨some 54, none, .mov (.tmp 53)⟩, false, [9, 7, 5, 6, 8, 4, 2, 0, 1, 3, 10], []⟩,
  ⟨⟨some 55, (some (54, false)), .mov (.tmp 4)⟩, false, [10, 3, 1, 0, 2, 4, 8, 6, 5, 7, 9, 11], [56, 60, 61, 62, 63, 64]⟩,
  ⟨⟨some 56, (some (54, false)), .mov (.tmp 8)⟩, false, [10, 3, 1, 0, 2, 4, 8, 6, 5, 7, 9, 11], [55, 60, 61, 62, 63, 64]⟩,
  ⟨⟨some 57, (some (54, false)), .indexAddr 3 (.tmp 55) (.tmp 56)⟩, false, [12, 13, 10, 3, 1, 0, 2, 4, 8, 6, 5, 7, 9, 11], [60, 61, 62, 63, 64]⟩,
  ⟨⟨some 58, (some (54, false)), .fieldAddr 1 (.tmp 57)⟩, false, [13, 12, 14, 10, 3, 1, 0, 2, 4, 8, 6, 5, 7, 9, 11], [60, 61, 62, 63, 64]⟩,
  ⟨⟨some 59, (some (54, false)), .load 1 false (.tmp 58)⟩, false, [14, 12, 13, 15, 10, 3, 1, 0, 2, 4, 8, 6, 5, 7, 9, 11], [60, 61, 62, 63, 64]⟩,
  ⟨⟨some 60, (some (54, false)), .mov (.tmp 6)⟩, false, [10, 3, 1, 0, 2, 4, 8, 6, 5, 7, 9, 11], [55, 56, 57, 58, 59, 61]⟩,
  ⟨⟨some 61, (some (54, false)), .mov (.tmp 8)⟩, false, [10, 3, 1, 0, 2, 4, 8, 6, 5, 7, 9, 11], [55, 56, 57, 58, 59, 60]⟩,
  ⟨⟨some 62, (some (54, false)), .indexAddr 3 (.tmp 60) (.tmp 61)⟩, false, [17, 18, 10, 3, 1, 0, 2, 4, 8, 6, 5, 7, 9, 11], [55, 56, 57, 58, 59]⟩,
  ⟨⟨some 63, (some (54, false)), .fieldAddr 1 (.tmp 62)⟩, false, [18, 17, 19, 10, 3, 1, 0, 2, 4, 8, 6, 5, 7, 9, 11], [55, 56, 57, 58, 59]⟩,
  ⟨⟨some 64, (some (54, false)), .load 1 false (.tmp 63)⟩, false, [19, 17, 18, 20, 10, 3, 1, 0, 2, 4, 8, 6, 5, 7, 9, 11], [55, 56, 57, 58, 59]⟩,
  ⟨⟨some 65, (some (54, false)), .bin .neq (.tmp 59) (.tmp 64)⟩, false, [15, 13, 12, 14, 16, 20, 18, 17, 19, 21, 10, 3, 1, 0, 2, 4, 8, 6, 5, 7, 9, 11], []⟩,
  ⟨⟨some 66, none, .pick (.tmp 54) (.const (.bool true)) (.tmp 65)⟩, false, [11, 9, 7, 5, 6, 8, 4, 2, 0, 1, 3, 10, 21, 19, 17, 18, 20, 16, 14, 12, 13, 15, 22], []⟩,
  ⟨⟨some 67, none, .mov (.tmp 66)⟩, false, [22, 15, 13, 12, 14, 16, 20, 18, 17, 19, 21, 23, 10, 3, 1, 0, 2, 4, 8, 6, 5, 7, 9, 11], []⟩,
  ⟨⟨some 68, (some (67, false)), .mov (.tmp 4)⟩, false, [11, 9, 7, 5, 6, 8, 4, 2, 0, 1, 3, 10, 23, 21, 19, 17, 18, 20, 16, 14, 12, 13, 15, 22, 24], [69, 73, 74, 75, 76, 77]⟩,
  ⟨⟨some 69, (some (67, false)), .mov (.tmp 8)⟩, false, [11, 9, 7, 5, 6, 8, 4, 2, 0, 1, 3, 10, 23, 21, 19, 17, 18, 20, 16, 14, 12, 13, 15, 22, 24], [68, 73, 74, 75, 76, 77]⟩,
  ⟨⟨some 70, (some (67, false)), .indexAddr 3 (.tmp 68) (.tmp 69)⟩, false, [25, 26, 11, 9, 7, 5, 6, 8, 4, 2, 0, 1, 3, 10, 23, 21, 19, 17, 18, 20, 16, 14, 12, 13, 15, 22, 24], [73, 74, 75, 76, 77]⟩,
  ⟨⟨some 71, (some (67, false)), .fieldAddr 2 (.tmp 70)⟩, false, [26, 25, 27, 11, 9, 7, 5, 6, 8, 4, 2, 0, 1, 3, 10, 23, 21, 19, 17, 18, 20, 16, 14, 12, 13, 15, 22, 24], [73, 74, 75, 76, 77]⟩,
  ⟨⟨some 72, (some (67, false)), .load 1 false (.tmp 71)⟩, false, [27, 25, 26, 28, 11, 9, 7, 5, 6, 8, 4, 2, 0, 1, 3, 10, 23, 21, 19, 17, 18, 20, 16, 14, 12, 13, 15, 22, 24], [73, 74, 75, 76, 77]⟩,
  ⟨⟨some 73, (some (67, false)), .mov (.tmp 6)⟩, false, [11, 9, 7, 5, 6, 8, 4, 2, 0, 1, 3, 10, 23, 21, 19, 17, 18, 20, 16, 14, 12, 13, 15, 22, 24], [68, 69, 70, 71, 72, 74]⟩,
  ⟨⟨some 74, (some (67, false)), .mov (.tmp 8)⟩, false, [11, 9, 7, 5, 6, 8, 4, 2, 0, 1, 3, 10, 23, 21, 19, 17, 18, 20, 16, 14, 12, 13, 15, 22, 24], [68, 69, 70, 71, 72, 73]⟩,
  ⟨⟨some 75, (some (67, false)), .indexAddr 3 (.tmp 73) (.tmp 74)⟩, false, [30, 31, 11, 9, 7, 5, 6, 8, 4, 2, 0, 1, 3, 10, 23, 21, 19, 17, 18, 20, 16, 14, 12, 13, 15, 22, 24], [68, 69, 70, 71, 72]⟩,
  ⟨⟨some 76, (some (67, false)), .fieldAddr 2 (.tmp 75)⟩, false, [31, 30, 32, 11, 9, 7, 5, 6, 8, 4, 2, 0, 1, 3, 10, 23, 21, 19, 17, 18, 20, 16, 14, 12, 13, 15, 22, 24], [68, 69, 70, 71, 72]⟩,
  ⟨⟨some 77, (some (67, false)), .load 1 false (.tmp 76)⟩, false, [32, 30, 31, 33, 11, 9, 7, 5, 6, 8, 4, 2, 0, 1, 3, 10, 23, 21, 19, 17, 18, 20, 16, 14, 12, 13, 15, 22, 24], [68, 69, 70, 71, 72]⟩,
  ⟨⟨some 78, (some (67, false)), .bin .neq (.tmp 72) (.tmp 77)⟩, false, [28, 26, 25, 27, 29, 33, 31, 30, 32, 34, 11, 9, 7, 5, 6, 8, 4, 2, 0, 1, 3, 10, 23, 21, 19, 17, 18, 20, 16, 14, 12, 13, 15, 22, 24], []⟩,
  ⟨⟨some 79, none, .pick (.tmp 67) (.const (.bool true)) (.tmp 78)⟩, false, [24, 22, 15, 13, 12, 14, 16, 20, 18, 17, 19, 21, 23, 10, 3, 1, 0, 2, 4, 8, 6, 5, 7, 9, 11, 34, 32, 30, 31, 33, 29, 27, 25, 26, 28, 35], []⟩])
 (.cond (.tmp 79) (.seq (.region [⟨some 2, none, .mov (.const (.bool false))⟩])
 .ret) .skip))
def k6_1 : ACode := (.seq (.seq (.region [⟨some 37, none, .mov (.tmp 8)⟩,
  ⟨some 38, none, .mov (.tmp 4)⟩,
  ⟨some 39, none, .lenSl (.tmp 38)⟩,
  ⟨some 40, none, .bin .lss (.tmp 37) (.tmp 39)⟩])
 (.cond (.tmp 40) .skip (.exit 0)))
 (.seq (.block 1 k6_0)
 (.region [⟨some 41, none, .mov (.tmp 8)⟩,
  ⟨some 42, none, .bin .add (.tmp 41) (.const (.int .i64 1))⟩,
  ⟨some 8, none, .mov (.tmp 42)⟩])))
def k6 : AFun := ⟨80, [.tmp 2], (.seq (.region [⟨some 2, none, .mov (.const (.bool false))⟩])
 (.seq (.region [⟨some 9, none, .call (.const (.func (.func 23) [] [])) []⟩,
  ⟨some 3, none, .mov (.tmp 9)⟩])
 (.seq (.seq (.region [⟨some 10, none, .mov (.tmp 3)⟩,
  ⟨some 11, none, .un .not (.tmp 10)⟩])
 (.cond (.tmp 11) (.seq (.region [⟨some 2, none, .mov (.const (.bool false))⟩])
 .ret) .skip))
 (.seq (.region [⟨some 12, none, .mov (.tmp 0)⟩,
  ⟨some 13, none, .call (.const (.func (.func 24) [] [])) [(.tmp 12), (.const (.int .i64 400))]⟩,
  ⟨some 0, none, .mov (.tmp 13)⟩])
 (.seq (.region [⟨some 15, none, .mov (.tmp 0)⟩,
  ⟨some 16, none, .call (.const (.func (.func 25) [] [])) [(.tmp 15)]⟩,
  ⟨some 14, none, .mov (.tmp 16)⟩,
  ⟨some 17, none, .extract 0 (.tmp 14)⟩,
  ⟨some 18, none, .extract 1 (.tmp 14)⟩,
  ⟨some 4, none, .mov (.tmp 17)⟩,
  ⟨some 5, none, .mov (.tmp 18)⟩])
 (.seq (.region [⟨some 20, none, .mov (.tmp 0)⟩,
  ⟨some 21, none, .call (.const (.func (.func 26) [] [])) [(.tmp 20)]⟩,
  ⟨some 19, none, .mov (.tmp 21)⟩,
  ⟨some 22, none, .extract 0 (.tmp 19)⟩,
  ⟨some 23, none, .extract 1 (.tmp 19)⟩,
  ⟨some 6, none, .mov (.tmp 22)⟩,
  ⟨some 7, none, .mov (.tmp 23)⟩])
 (.seq (.seq (.region [⟨some 24, none, .mov (.tmp 5)⟩,
  ⟨some 25, none, .mov (.tmp 7)⟩,
  ⟨some 26, none, .bin .neq (.tmp 24) (.tmp 25)⟩])
 (.cond (.tmp 26) (.seq (.region [⟨some 2, none, .mov (.const (.bool false))⟩])
 .ret) .skip))
 (.seq (.seq (.region [⟨some 27, none, .mov (.tmp 7)⟩,
  ⟨some 28, none, .bin .neq (.tmp 27) (.const (.int .i64 0))⟩])
 (.cond (.tmp 28) (.seq (.region [⟨some 29, none, .mov (.tmp 4)⟩,
  ⟨some 30, none, .lenSl (.tmp 29)⟩,
  ⟨some 31, none, .bin .eql (.tmp 30) (.const (.int .i64 0))⟩,
  ⟨some 2, none, .mov (.tmp 31)⟩])
 .ret) .skip))
 (.seq (.seq (.region [⟨some 32, none, .mov (.tmp 4)⟩,
  ⟨some 33, none, .lenSl (.tmp 32)⟩,
  ⟨some 34, none, .mov (.tmp 6)⟩,
  ⟨some 35, none, .lenSl (.tmp 34)⟩,
  ⟨some 36, none, .bin .neq (.tmp 33) (.tmp 35)⟩])
 (.cond (.tmp 36) (.seq (.region [⟨some 2, none, .mov (.const (.bool false))⟩])
 .ret) .skip))
 (.seq (.seq (.region [⟨some 8, none, .mov (.const (.int .i64 0))⟩])
 (.block 0 (.loop k6_1)))
 (.seq (.region [⟨some 2, none, .mov (.const (.bool true))⟩])
 .ret)))))))))))⟩
theorem c6 : (XTab.of Try.prog).code 6 = some k6 := by kernel_rfl

/-! delphi/delphilaw7.LexLong -/
def k7_0 : ACode := (.seq (.seq (.region [⟨some 35, none, .mov (.tmp 9)⟩,
  ⟨some 36, none, .mov (.tmp 0)⟩,
  ⟨some 37, none, .bin .lss (.tmp 35) (.tmp 36)⟩])
 (.cond (.tmp 37) .skip (.exit 0)))
 (.seq (.block 1 (.region [⟨some 40, none, .mov (.tmp 8)⟩,
  ⟨some 41, none, .mov (.tmp 9)⟩,
  ⟨some 42, none, .indexAddr 1 (.tmp 40) (.tmp 41)⟩,
  ⟨none, none, .store 1 (.tmp 42) (.const (.int .u8 32))⟩]))
 (.region [⟨some 38, none, .mov (.tmp 9)⟩,
  ⟨some 39, none, .bin .add (.tmp 38) (.const (.int .i64 1))⟩,
  ⟨some 9, none, .mov (.tmp 39)⟩])))
def k7_1 : ACode := (.region [⟨some 54, none, .mov (.tmp 12)⟩,
  ⟨some 55, none, .buildSlice 3 [(.str []), (.str []), (.str [])] [(0, 1, (.const (.str [97]))), (1, 1, (.const (.str [65]))), (2, 1, (.const (.str [55])))]⟩,
  ⟨some 56, none, .mov (.tmp 2)⟩,
  ⟨some 57, none, .bin .rem (.tmp 56) (.const (.int .i64 3))⟩,
  ⟨some 58, none, .bin .add (.tmp 57) (.const (.int .i64 3))⟩,
  ⟨some 59, none, .bin .rem (.tmp 58) (.const (.int .i64 3))⟩,
  ⟨some 60, none, .indexAddr 1 (.tmp 55) (.tmp 59)⟩,
  ⟨some 61, none, .load 1 false (.tmp 60)⟩,
  ⟨some 62, none, .bin .add (.tmp 54) (.tmp 61)⟩,
  ⟨some 12, none, .mov (.tmp 62)⟩])
def k7_2 : ACode := (.seq (.seq (.region [⟨some 49, none, .mov (.tmp 13)⟩,
  ⟨some 50, none, .mov (.tmp 1)⟩,
  ⟨some 51, none, .bin .lss (.tmp 49) (.tmp 50)⟩])
 (.cond (.tmp 51) .skip (.exit 2)))
 (.seq (.block 3 k7_1)
 (.region [⟨some 52, none, .mov (.tmp 13)⟩,
  ⟨some 53, none, .bin .add (.tmp 52) (.const (.int .i64 1))⟩,
  ⟨some 13, none, .mov (.tmp 53)⟩])))
def k7_3 : ACode := (.seq (.region [⟨some 83, none, .mov (.tmp 15)⟩,
  ⟨some 84, none, .bin .eql (.tmp 83) (.const (.int .i64 4))⟩,
  ⟨some 85, none, .mov (.tmp 84)⟩,
  ⟨some 86, (some (85, true)), .mov (.tmp 14)⟩,
  ⟨some 87, (some (85, true)), .lenSl (.tmp 86)⟩,
  ⟨some 88, (some (85, true)), .bin .eql (.tmp 87) (.const (.int .i64 0))⟩,
  ⟨some 89, none, .pick (.tmp 85) (.tmp 88) (.const (.bool false))⟩,
  ⟨some 6, none, .mov (.tmp 89)⟩])
 .ret)
def k7 : AFun := ⟨105, [.tmp 6], (.seq (.region [⟨some 6, none, .mov (.const (.bool false))⟩])
 (.seq (.region [⟨some 16, none, .call (.const (.func (.func 23) [] [])) []⟩,
  ⟨some 7, none, .mov (.tmp 16)⟩])
 (.seq (.seq (.region [⟨some 17, none, .mov (.tmp 7)⟩,
  ⟨some 18, none, .un .not (.tmp 17)⟩])
 (.cond (.tmp 18) (.seq (.region [⟨some 6, none, .mov (.const (.bool false))⟩])
 .ret) .skip))
 (.seq (.seq (.region [⟨some 19, none, .mov (.tmp 0)⟩,
  ⟨some 20, none, .bin .lss (.tmp 19) (.const (.int .i64 0))⟩,
  ⟨some 21, none, .mov (.tmp 20)⟩,
  ⟨some 22, (some (21, false)), .mov (.tmp 0)⟩,
  ⟨some 23, (some (21, false)), .bin .gtr (.tmp 22) (.const (.int .i64 5000))⟩,
  ⟨some 24, none, .pick (.tmp 21) (.const (.bool true)) (.tmp 23)⟩,
  ⟨some 25, none, .mov (.tmp 24)⟩,
  ⟨some 26, (some (25, false)), .mov (.tmp 1)⟩,
  ⟨some 27, (some (25, false)), .bin .lss (.tmp 26) (.const (.int .i64 1))⟩,
  ⟨some 28, none, .pick (.tmp 25) (.const (.bool true)) (.tmp 27)⟩,
  ⟨some 29, none, .mov (.tmp 28)⟩,
  ⟨some 30, (some (29, false)), .mov (.tmp 1)⟩,
  ⟨some 31, (some (29, false)), .bin .gtr (.tmp 30) (.const (.int .i64 40))⟩,
  ⟨some 32, none, .pick (.tmp 29) (.const (.bool true)) (.tmp 31)⟩])
 (.cond (.tmp 32) (.seq (.region [⟨some 6, none, .mov (.const (.bool true))⟩])
 .ret) .skip))
 (.seq (.region [⟨some 33, none, .mov (.tmp 0)⟩,
  ⟨some 34, none, .mkSlice 1 1 [(.int .u8 0)] (.tmp 33) (.tmp 33)⟩,
  ⟨some 8, none, .mov (.tmp 34)⟩])
 (.seq (.seq (.region [⟨some 9, none, .mov (.const (.int .i64 0))⟩])
 (.block 0 (.loop k7_0)))
 (.seq (.region [⟨some 44, none, .mov (.tmp 8)⟩,
  ⟨some 45, none, .strOf (.tmp 44)⟩,
  ⟨some 46, none, .call (.const (.func (.func 25) [] [])) [(.tmp 45)]⟩,
  ⟨some 43, none, .mov (.tmp 46)⟩,
  ⟨some 47, none, .extract 0 (.tmp 43)⟩,
  ⟨some 48, none, .extract 1 (.tmp 43)⟩,
  ⟨some 10, none, .mov (.tmp 47)⟩,
  ⟨some 11, none, .mov (.tmp 48)⟩])
 (.seq (.region [⟨some 12, none, .mov (.const (.str []))⟩])
 (.seq (.seq (.region [⟨some 13, none, .mov (.const (.int .i64 0))⟩])
 (.block 2 (.loop k7_2)))
 (.seq (.region [⟨some 64, none, .mov (.tmp 12)⟩,
  ⟨some 65, none, .call (.const (.func (.func 25) [] [])) [(.tmp 64)]⟩,
  ⟨some 63, none, .mov (.tmp 65)⟩,
  ⟨some 66, none, .extract 0 (.tmp 63)⟩,
  ⟨some 67, none, .extract 1 (.tmp 63)⟩,
  ⟨some 14, none, .mov (.tmp 66)⟩,
  ⟨some 15, none, .mov (.tmp 67)⟩])
 (.seq (.seq (.region [⟨some 68, none, .mov (.tmp 11)⟩,
  ⟨some 69, none, .bin .eql (.tmp 68) (.const (.int .i64 8))⟩,
  ⟨some 70, none, .mov (.tmp 0)⟩,
  ⟨some 71, none, .bin .gtr (.tmp 70) (.const (.int .i64 4000))⟩,
  ⟨some 72, none, .eqv true .bool (.tmp 69) (.tmp 71)⟩,
  ⟨some 73, none, .mov (.tmp 72)⟩,
  ⟨some 74, (some (73, false)), .mov (.tmp 0)⟩,
  ⟨some 75, (some (73, false)), .bin .leq (.tmp 74) (.const (.int .i64 4000))⟩,
  ⟨some 76, (some (73, false)), .mov (.tmp 75)⟩,
  ⟨some 77, (some (76, true)), .mov (.tmp 11)⟩,
  ⟨some 78, (some (76, true)), .bin .neq (.tmp 77) (.const (.int .i64 0))⟩,
  ⟨some 79, (some (73, false)), .pick (.tmp 76) (.tmp 78) (.const (.bool false))⟩,
  ⟨some 80, none, .pick (.tmp 73) (.const (.bool true)) (.tmp 79)⟩])
 (.cond (.tmp 80) (.seq (.region [⟨some 6, none, .mov (.const (.bool false))⟩])
 .ret) .skip))
 (.seq (.seq (.region [⟨some 81, none, .mov (.tmp 1)⟩,
  ⟨some 82, none, .bin .gtr (.tmp 81) (.const (.int .i64 16))⟩])
 (.cond (.tmp 82) k7_3 .skip))
 (.seq (.region [⟨some 90, none, .mov (.tmp 15)⟩,
  ⟨some 91, none, .bin .eql (.tmp 90) (.const (.int .i64 0))⟩,
  ⟨some 92, none, .mov (.tmp 91)⟩,
  ⟨some 93, (some (92, true)), .mov (.tmp 14)⟩,
  ⟨some 94, (some (92, true)), .lenSl (.tmp 93)⟩,
  ⟨some 95, (some (92, true)), .bin .eql (.tmp 94) (.const (.int .i64 1))⟩,
  ⟨some 96, none, .pick (.tmp 92) (.tmp 95) (.const (.bool false))⟩,
  ⟨some 97, none, .mov (.tmp 96)⟩,
  ⟨some 98, (some (97, true)), .mov (.tmp 14)⟩,
  ⟨some 99, (some (97, true)), .indexAddr 3 (.tmp 98) (.const (.int .i64 0))⟩,
  ⟨some 100, (some (97, true)), .fieldAddr 1 (.tmp 99)⟩,
  ⟨some 101, (some (97, true)), .load 1 false (.tmp 100)⟩,
  ⟨some 102, (some (97, true)), .mov (.tmp 12)⟩,
  ⟨some 103, (some (97, true)), .bin .eql (.tmp 101) (.tmp 102)⟩,
  ⟨some 104, none, .pick (.tmp 97) (.tmp 103) (.const (.bool false))⟩,
  ⟨some 6, none, .mov (.tmp 104)⟩])
 .ret)))))))))))))⟩
theorem c7 : (XTab.of Try.prog).code 7 = some k7 := by kernel_rfl

/-! delphi/delphilaw7.LexApart -/
def k8_0 : ACode := (.region [⟨some 29, none, .mov (.tmp 6)⟩,
  ⟨some 30, none, .mov (.tmp 4)⟩,
  ⟨some 31, none, .mov (.tmp 7)⟩,
  ⟨some 32, none, .indexAddr 3 (.tmp 30) (.tmp 31)⟩,
  ⟨some 33, none, .fieldAddr 1 (.tmp 32)⟩,
  ⟨some 34, none, .load 1 false (.tmp 33)⟩,
  ⟨some 35, none, .bin .add (.tmp 34) (.const (.str [32]))⟩,
  ⟨some 36, none, .bin .add (.tmp 29) (.tmp 35)⟩,
  ⟨some 6, none, .mov (.tmp 36)⟩])
def k8_1 : ACode := (.seq (.seq (.region [⟨some 23, none, .mov (.tmp 7)⟩,
  ⟨some 24, none, .mov (.tmp 4)⟩,
  ⟨some 25, none, .lenSl (.tmp 24)⟩,
  ⟨some 26, none, .bin .lss (.tmp 23) (.tmp 25)⟩])
 (.cond (.tmp 26) .skip (.exit 0)))
 (.seq (.block 1 k8_0)
 (.region [⟨some 27, none, .mov (.tmp 7)⟩,
  ⟨some 28, none, .bin .add (.tmp 27) (.const (.int .i64 1))⟩,
  ⟨some 7, none, .mov (.tmp 28)⟩])))
def k8_2 : ACode := (.seq (.seq (.drawn [⟨⟨some 57, none, .mov (.tmp 8)⟩, false, [], [58, 62, 63, 64, 65, 66]⟩,
  ⟨⟨some 58, none, .mov (.tmp 11)⟩, false, [], [57, 62, 63, 64, 65, 66]⟩,
  ⟨⟨some 59, none, .indexAddr 3 (.tmp 57) (.tmp 58)⟩, false, [0, 1], [62, 63, 64, 65, 66]⟩,
  ⟨⟨some 60, none, .fieldAddr 0 (.tmp 59)⟩, false, [1, 0, 2], [62, 63, 64, 65, 66]⟩,
  ⟨⟨some 61, none, .load 1 false (.tmp 60)⟩, false, [2, 0, 1, 3], [62, 63, 64, 65, 66]⟩,
  ⟨⟨some 62, none, .mov (.tmp 4)⟩, false, [], [57, 58, 59, 60, 61, 63]⟩,
  ⟨⟨some 63, none, .mov (.tmp 11)⟩, false, [], [57, 58, 59, 60, 61, 62]⟩,
  ⟨⟨some 64, none, .indexAddr 3 (.tmp 62) (.tmp 63)⟩, false, [5, 6], [57, 58, 59, 60, 61]⟩,
  ⟨⟨some 65, none, .fieldAddr 0 (.tmp 64)⟩, false, [6, 5, 7], [57, 58, 59, 60, 61]⟩,
  ⟨⟨some 66, none, .load 1 false (.tmp 65)⟩, false, [7, 5, 6, 8], [57, 58, 59, 60, 61]⟩,
  ⟨⟨some 67, none, .bin .neq (.tmp 61) (.tmp 66)⟩, false, [3, 1, 0, 2, 4, 8, 6, 5, 7, 9], []⟩,
  ⟨⟨some 68, none, .mov (.tmp 67)⟩, false, [9, 7, 5, 6, 8, 4, 2, 0, 1, 3, 10], []⟩,
  ⟨⟨some 69, (some (68, false)), .mov (.tmp 8)⟩, false, [10, 3, 1, 0, 2, 4, 8, 6, 5, 7, 9, 11], [70, 74, 75, 76, 77, 78]⟩,
  ⟨⟨some 70, (some (68, false)), .mov (.tmp 11)⟩, false, [10, 3, 1, 0, 2, 4, 8, 6, 5, 7, 9, 11], [69, 74, 75, 76, 77, 78]⟩,
  ⟨⟨some 71, (some (68, false)), .indexAddr 3 (.tmp 69) (.tmp 70)⟩, false, [12, 13, 10, 3, 1, 0, 2, 4, 8, 6, 5, 7, 9, 11], [74, 75, 76, 77, 78]⟩,
  ⟨⟨some 72, (some (68, false)), .fieldAddr 1 (.tmp 71)⟩, false, [13, 12, 14, 10, 3, 1, 0, 2, 4, 8, 6, 5, 7, 9, 11], [74, 75, 76, 77, 78]⟩,
  ⟨⟨some 73, (some (68, false)), .load 1 false (.tmp 72)⟩, false, [14, 12, 13, 15, 10, 3, 1, 0, 2, 4, 8, 6, 5, 7, 9, 11], [74, 75, 76, 77, 78]⟩,
  ⟨⟨some 74, (some (68, false)), .mov (.tmp 4)⟩, false, [10, 3, 1, 0, 2, 4, 8, 6, 5, 7, 9, 11], [69, 70, 71, 72, 73, 75]⟩,
  ⟨⟨some 75, (some (68, false)), .mov (.tmp 11)⟩, false, [10, 3, 1, 0, 2, 4, 8, 6, 5, 7, 9, 11], [69, 70, 71, 72, 73, 74]⟩,
  ⟨⟨some 76, (some (68, false)), .indexAddr 3 (.tmp 74) (.tmp 75)⟩, false, [17, 18, 10, 3, 1, 0, 2, 4, 8, 6, 5, 7, 9, 11], [69, 70, 71, 72, 73]⟩,
  ⟨⟨some 77, (some (68, false)), .fieldAddr 1 (.tmp 76)⟩, false, [18, 17, 19, 10, 3, 1, 0, 2, 4, 8, 6, 5, 7, 9, 11], [69, 70, 71, 72, 73]⟩,
  ⟨⟨some 78, (some (68, false)), .load 1 false (.tmp 77)⟩, false, [19, 17, 18, 20, 10, 3, 1, 0, 2, 4, 8, 6, 5, 7, 9, 11], [69, 70, 71, 72, 73]⟩,
  ⟨⟨some 79, (some (68, false)), .bin .neq (.tmp 73) (.tmp 78)⟩, false, [15, 13, 12, 14, 16, 20, 18, 17, 19, 21, 10, 3, 1, 0, 2, 4, 8, 6, 5, 7, 9, 11], []⟩,
  ⟨⟨some 80, none, .pick (.tmp 68) (.const (.bool true)) (.tmp 79)⟩, false, [11, 9, 7, 5, 6, 8, 4, 2, 0, 1, 3, 10, 21, 19, 17, 18, 20, 16, 14, 12, 13, 15, 22], []⟩,
  ⟨⟨some 81, none, .mov (.tmp 80)⟩, false, [22, 15, 13, 12, 14, 16, 20, 18, 17, 19, 21, 23, 10, 3, 1, 0, 2, 4, 8, 6, 5, 7, 9, 11], []⟩,
  ⟨⟨some 82, (some (81, false)), .mov (.tmp 8)⟩, false, [11, 9, 7, 5, 6, 8, 4, 2, 0, 1, 3, 10, 23, 21, 19, 17, 18, 20, 16, 14, 12, 13, 15, 22, 24], [83, 87]⟩,
  ⟨⟨some 83, (some (81, false)), .mov (.tmp 11)⟩, false, [11, 9, 7, 5, 6, 8, 4, 2, 0, 1, 3, 10, 23, 21, 19, 17, 18, 20, 16, 14, 12, 13, 15, 22, 24], [82, 87]⟩,
  ⟨⟨some 84, (some (81, false)), .indexAddr 3 (.tmp 82) (.tmp 83)⟩, false, [25, 26, 11, 9, 7, 5, 6, 8, 4, 2, 0, 1, 3, 10, 23, 21, 19, 17, 18, 20, 16, 14, 12, 13, 15, 22, 24], [87]⟩,
  ⟨⟨some 85, (some (81, false)), .fieldAddr 2 (.tmp 84)⟩, false, [26, 25, 27, 11, 9, 7, 5, 6, 8, 4, 2, 0, 1, 3, 10, 23, 21, 19, 17, 18, 20, 16, 14, 12, 13, 15, 22, 24], [87]⟩,
  ⟨⟨some 86, (some (81, false)), .load 1 false (.tmp 85)⟩, false, [27, 25, 26, 28, 11, 9, 7, 5, 6, 8, 4, 2, 0, 1, 3, 10, 23, 21, 19, 17, 18, 20, 16, 14, 12, 13, 15, 22, 24], [87]⟩,
  ⟨⟨some 87, (some (81, false)), .mov (.tmp 10)⟩, false, [11, 9, 7, 5, 6, 8, 4, 2, 0, 1, 3, 10, 23, 21, 19, 17, 18, 20, 16, 14, 12, 13, 15, 22, 24], [82, 83, 84, 85, 86]⟩,
  ⟨⟨some 88, (some (81, false)), .bin .neq (.tmp 86) (.tmp 87)⟩, false, [28, 26, 25, 27, 29, 30, 11, 9, 7, 5, 6, 8, 4, 2, 0, 1, 3, 10, 23, 21, 19, 17, 18, 20, 16, 14, 12, 13, 15, 22, 24], []⟩,
  ⟨⟨some 89, none, .pick (.tmp 81) (.const (.bool true)) (.tmp 88)⟩, false, [24, 22, 15, 13, 12, 14, 16, 20, 18, 17, 19, 21, 23, 10, 3, 1, 0, 2, 4, 8, 6, 5, 7, 9, 11, 30, 29, 27, 25, 26, 28, 31], []⟩])
 (.cond (.tmp 89) (.seq (.region [⟨some 2, none, .mov (.const (.bool false))⟩])
 .ret) .skip))
 (.region [⟨some 90, none, .mov (.tmp 10)⟩,
  ⟨some 91, none, .mov (.tmp 8)⟩,
  ⟨some 92, none, .mov (.tmp 11)⟩,
  ⟨some 93, none, .indexAddr 3 (.tmp 91) (.tmp 92)⟩,
  ⟨some 94, none, .fieldAddr 1 (.tmp 93)⟩,
  ⟨some 95, none, .load 1 false (.tmp 94)⟩,
  ⟨some 96, none, .lenStr (.tmp 95)⟩,
  ⟨some 97, none, .bin .add (.tmp 96) (.const (.int .i64 1))⟩,
  ⟨some 98, none, .bin .add (.tmp 90) (.tmp 97)⟩,
  ⟨some 10, none, .mov (.tmp 98)⟩]))
def k8_3 : ACode := (.seq (.seq (.region [⟨some 51, none, .mov (.tmp 11)⟩,
  ⟨some 52, none, .mov (.tmp 8)⟩,
  ⟨some 53, none, .lenSl (.tmp 52)⟩,
  ⟨some 54, none, .bin .lss (.tmp 51) (.tmp 53)⟩])
 (.cond (.tmp 54) .skip (.exit 2)))
 (.seq (.block 3 k8_2)
 (.region [⟨some 55, none, .mov (.tmp 11)⟩,
  ⟨some 56, none, .bin .add (.tmp 55) (.const (.int .i64 1))⟩,
  ⟨some 11, none, .mov (.tmp 56)⟩])))
def k8 : AFun := ⟨99, [.tmp 2], (.seq (.region [⟨some 2, none, .mov (.const (.bool false))⟩])
 (.seq (.region [⟨some 12, none, .call (.const (.func (.func 23) [] [])) []⟩,
  ⟨some 3, none, .mov (.tmp 12)⟩])
 (.seq (.seq (.region [⟨some 13, none, .mov (.tmp 3)⟩,
  ⟨some 14, none, .un .not (.tmp 13)⟩])
 (.cond (.tmp 14) (.seq (.region [⟨some 2, none, .mov (.const (.bool false))⟩])
 .ret) .skip))
 (.seq (.region [⟨some 16, none, .mov (.tmp 0)⟩,
  ⟨some 17, none, .call (.const (.func (.func 24) [] [])) [(.tmp 16), (.const (.int .i64 300))]⟩,
  ⟨some 18, none, .call (.const (.func (.func 26) [] [])) [(.tmp 17)]⟩,
  ⟨some 15, none, .mov (.tmp 18)⟩,
  ⟨some 19, none, .extract 0 (.tmp 15)⟩,
  ⟨some 20, none, .extract 1 (.tmp 15)⟩,
  ⟨some 4, none, .mov (.tmp 19)⟩,
  ⟨some 5, none, .mov (.tmp 20)⟩])
 (.seq (.seq (.region [⟨some 21, none, .mov (.tmp 5)⟩,
  ⟨some 22, none, .bin .neq (.tmp 21) (.const (.int .i64 0))⟩])
 (.cond (.tmp 22) (.seq (.region [⟨some 2, none, .mov (.const (.bool true))⟩])
 .ret) .skip))
 (.seq (.region [⟨some 6, none, .mov (.const (.str []))⟩])
 (.seq (.seq (.region [⟨some 7, none, .mov (.const (.int .i64 0))⟩])
 (.block 0 (.loop k8_1)))
 (.seq (.region [⟨some 38, none, .mov (.tmp 6)⟩,
  ⟨some 39, none, .call (.const (.func (.func 25) [] [])) [(.tmp 38)]⟩,
  ⟨some 37, none, .mov (.tmp 39)⟩,
  ⟨some 40, none, .extract 0 (.tmp 37)⟩,
  ⟨some 41, none, .extract 1 (.tmp 37)⟩,
  ⟨some 8, none, .mov (.tmp 40)⟩,
  ⟨some 9, none, .mov (.tmp 41)⟩])
 (.seq (.seq (.region [⟨some 42, none, .mov (.tmp 9)⟩,
  ⟨some 43, none, .bin .neq (.tmp 42) (.const (.int .i64 0))⟩,
  ⟨some 44, none, .mov (.tmp 43)⟩,
  ⟨some 45, (some (44, false)), .mov (.tmp 8)⟩,
  ⟨some 46, (some (44, false)), .lenSl (.tmp 45)⟩,
  ⟨some 47, (some (44, false)), .mov (.tmp 4)⟩,
  ⟨some 48, (some (44, false)), .lenSl (.tmp 47)⟩,
  ⟨some 49, (some (44, false)), .bin .neq (.tmp 46) (.tmp 48)⟩,
  ⟨some 50, none, .pick (.tmp 44) (.const (.bool true)) (.tmp 49)⟩])
 (.cond (.tmp 50) (.seq (.region [⟨some 2, none, .mov (.const (.bool false))⟩])
 .ret) .skip))
 (.seq (.region [⟨some 10, none, .mov (.const (.int .i64 0))⟩])
 (.seq (.seq (.region [⟨some 11, none, .mov (.const (.int .i64 0))⟩])
 (.block 2 (.loop k8_3)))
 (.seq (.region [⟨some 2, none, .mov (.const (.bool true))⟩])
 .ret))))))))))))⟩
theorem c8 : (XTab.of Try.prog).code 8 = some k8 := by kernel_rfl

/-! delphi/delphilaw12.PlanAll -/
def k9_0 : ACode := (.seq (.drawn [⟨⟨some 86, none, .fieldAddr 0 (.tmp 9)⟩, false, [], [88, 91, 92, 93, 94]⟩,
  ⟨⟨some 87, none, .load 1 false (.tmp 86)⟩, false, [0], [88, 91, 92, 93, 94]⟩,
  ⟨⟨some 88, none, .mov (.tmp 14)⟩, false, [], [86, 87, 91, 92, 93, 94]⟩,
  ⟨⟨some 89, none, .indexAddr 1 (.tmp 87) (.tmp 88)⟩, false, [0, 1, 2], [91, 92, 93, 94]⟩,
  ⟨⟨some 90, none, .load 1 false (.tmp 89)⟩, false, [2, 1, 0, 3], [91, 92, 93, 94]⟩,
  ⟨⟨some 91, none, .mov (.tmp 11)⟩, false, [], [86, 87, 88, 89, 90, 92]⟩,
  ⟨⟨some 92, none, .mov (.tmp 14)⟩, false, [], [86, 87, 88, 89, 90, 91]⟩,
  ⟨⟨some 93, none, .indexAddr 1 (.tmp 91) (.tmp 92)⟩, false, [5, 6], [86, 87, 88, 89, 90]⟩,
  ⟨⟨some 94, none, .load 1 false (.tmp 93)⟩, false, [6, 5, 7], [86, 87, 88, 89, 90]⟩,
  ⟨⟨some 95, none, .bin .neq (.tmp 90) (.tmp 94)⟩, false, [3, 0, 1, 2, 4, 7, 5, 6, 8], []⟩])
 (.cond (.tmp 95) (.seq (.region [⟨some 4, none, .mov (.const (.bool false))⟩])
 .ret) .skip))
def k9_1 : ACode := (.seq (.seq (.region [⟨some 80, none, .mov (.tmp 14)⟩,
  ⟨some 81, none, .mov (.tmp 11)⟩,
  ⟨some 82, none, .lenSl (.tmp 81)⟩,
  ⟨some 83, none, .bin .lss (.tmp 80) (.tmp 82)⟩])
 (.cond (.tmp 83) .skip (.exit 4)))
 (.seq (.block 5 k9_0)
 (.region [⟨some 84, none, .mov (.tmp 14)⟩,
  ⟨some 85, none, .bin .add (.tmp 84) (.const (.int .i64 1))⟩,
  ⟨some 14, none, .mov (.tmp 85)⟩])))
def k9_2 : ACode := (.seq (.drawn [⟨⟨some 102, none, .fieldAddr 1 (.tmp 9)⟩, false, [], [104, 107, 108, 109, 110]⟩,
  ⟨⟨some 103, none, .load 1 false (.tmp 102)⟩, false, [0], [104, 107, 108, 109, 110]⟩,
  ⟨⟨some 104, none, .mov (.tmp 15)⟩, false, [], [102, 103, 107, 108, 109, 110]⟩,
  ⟨⟨some 105, none, .indexAddr 1 (.tmp 103) (.tmp 104)⟩, false, [0, 1, 2], [107, 108, 109, 110]⟩,
  ⟨⟨some 106, none, .load 1 false (.tmp 105)⟩, false, [2, 1, 0, 3], [107, 108, 109, 110]⟩,
  ⟨⟨some 107, none, .mov (.tmp 12)⟩, false, [], [102, 103, 104, 105, 106, 108]⟩,
  ⟨⟨some 108, none, .mov (.tmp 15)⟩, false, [], [102, 103, 104, 105, 106, 107]⟩,
  ⟨⟨some 109, none, .indexAddr 1 (.tmp 107) (.tmp 108)⟩, false, [5, 6], [102, 103, 104, 105, 106]⟩,
  ⟨⟨some 110, none, .load 1 false (.tmp 109)⟩, false, [6, 5, 7], [102, 103, 104, 105, 106]⟩,
  ⟨⟨some 111, none, .bin .neq (.tmp 106) (.tmp 110)⟩, false, [3, 0, 1, 2, 4, 7, 5, 6, 8], []⟩])
 (.cond (.tmp 111) (.seq (.region [⟨some 4, none, .mov (.const (.bool false))⟩])
 .ret) .skip))
def k9_3 : ACode := (.seq (.seq (.region [⟨some 96, none, .mov (.tmp 15)⟩,
  ⟨some 97, none, .mov (.tmp 12)⟩,
  ⟨some 98, none, .lenSl (.tmp 97)⟩,
  ⟨some 99, none, .bin .lss (.tmp 96) (.tmp 98)⟩])
 (.cond (.tmp 99) .skip (.exit 6)))
 (.seq (.block 7 k9_2)
 (.region [⟨some 100, none, .mov (.tmp 15)⟩,
  ⟨some 101, none, .bin .add (.tmp 100) (.const (.int .i64 1))⟩,
  ⟨some 15, none, .mov (.tmp 101)⟩])))
def k9_4 : ACode := (.seq (.region [⟨some 43, none, .mov (.tmp 6)⟩,
  ⟨some 44, none, .mov (.tmp 7)⟩,
  ⟨some 45, none, .indexAddr 4 (.tmp 43) (.tmp 44)⟩,
  ⟨some 46, none, .load 4 true (.tmp 45)⟩,
  ⟨some 47, none, .mov (.tmp 8)⟩,
  ⟨some 48, none, .call (.const (.func (.func 28) [] [])) [(.tmp 46), (.tmp 47)]⟩,
  ⟨some 42, none, .mov (.tmp 48)⟩,
  ⟨some 49, none, .extract 0 (.tmp 42)⟩,
  ⟨some 50, none, .extract 1 (.tmp 42)⟩,
  ⟨some 9, none, .alloc [.nilslice, .nilslice]⟩,
  ⟨none, none, .store 2 (.tmp 9) (.tmp 49)⟩,
  ⟨some 10, none, .mov (.tmp 50)⟩])
 (.seq (.region [⟨some 52, none, .mov (.tmp 6)⟩,
  ⟨some 53, none, .mov (.tmp 7)⟩,
  ⟨some 54, none, .indexAddr 4 (.tmp 52) (.tmp 53)⟩,
  ⟨some 55, none, .load 4 true (.tmp 54)⟩,
  ⟨some 56, none, .mov (.tmp 8)⟩,
  ⟨some 57, none, .call (.const (.func (.func 29) [] [])) [(.tmp 55), (.tmp 56)]⟩,
  ⟨some 51, none, .mov (.tmp 57)⟩,
  ⟨some 58, none, .extract 0 (.tmp 51)⟩,
  ⟨some 59, none, .extract 1 (.tmp 51)⟩,
  ⟨some 60, none, .extract 2 (.tmp 51)⟩,
  ⟨some 11, none, .mov (.tmp 58)⟩,
  ⟨some 12, none, .mov (.tmp 59)⟩,
  ⟨some 13, none, .mov (.tmp 60)⟩])
 (.seq (.seq (.region [⟨some 61, none, .mov (.tmp 10)⟩,
  ⟨some 62, none, .mov (.tmp 13)⟩,
  ⟨some 63, none, .eqv true .bool (.tmp 61) (.tmp 62)⟩,
  ⟨some 64, none, .mov (.tmp 63)⟩,
  ⟨some 65, (some (64, false)), .fieldAddr 0 (.tmp 9)⟩,
  ⟨some 66, (some (64, false)), .load 1 false (.tmp 65)⟩,
  ⟨some 67, (some (64, false)), .lenSl (.tmp 66)⟩,
  ⟨some 68, (some (64, false)), .mov (.tmp 11)⟩,
  ⟨some 69, (some (64, false)), .lenSl (.tmp 68)⟩,
  ⟨some 70, (some (64, false)), .bin .neq (.tmp 67) (.tmp 69)⟩,
  ⟨some 71, none, .pick (.tmp 64) (.const (.bool true)) (.tmp 70)⟩,
  ⟨some 72, none, .mov (.tmp 71)⟩,
  ⟨some 73, (some (72, false)), .fieldAddr 1 (.tmp 9)⟩,
  ⟨some 74, (some (72, false)), .load 1 false (.tmp 73)⟩,
  ⟨some 75, (some (72, false)), .lenSl (.tmp 74)⟩,
  ⟨some 76, (some (72, false)), .mov (.tmp 12)⟩,
  ⟨some 77, (some (72, false)), .lenSl (.tmp 76)⟩,
  ⟨some 78, (some (72, false)), .bin .neq (.tmp 75) (.tmp 77)⟩,
  ⟨some 79, none, .pick (.tmp 72) (.const (.bool true)) (.tmp 78)⟩])
 (.cond (.tmp 79) (.seq (.region [⟨some 4, none, .mov (.const (.bool false))⟩])
 .ret) .skip))
 (.seq (.seq (.region [⟨some 14, none, .mov (.const (.int .i64 0))⟩])
 (.block 4 (.loop k9_1)))
 (.seq (.region [⟨some 15, none, .mov (.const (.int .i64 0))⟩])
 (.block 6 (.loop k9_3)))))))
def k9_5 : ACode := (.seq (.seq (.region [⟨some 32, none, .mov (.tmp 8)⟩,
  ⟨some 33, none, .mov (.tmp 6)⟩,
  ⟨some 34, none, .mov (.tmp 7)⟩,
  ⟨some 35, none, .indexAddr 4 (.tmp 33) (.tmp 34)⟩,
  ⟨some 36, none, .fieldAddr 3 (.tmp 35)⟩,
  ⟨some 37, none, .load 1 false (.tmp 36)⟩,
  ⟨some 38, none, .lenSl (.tmp 37)⟩,
  ⟨some 39, none, .bin .leq (.tmp 32) (.tmp 38)⟩])
 (.cond (.tmp 39) .skip (.exit 2)))
 (.seq (.block 3 k9_4)
 (.region [⟨some 40, none, .mov (.tmp 8)⟩,
  ⟨some 41, none, .bin .add (.tmp 40) (.const (.int .i64 1))⟩,
  ⟨some 8, none, .mov (.tmp 41)⟩])))
def k9_6 : ACode := (.seq (.seq (.region [⟨some 8, none, .mov (.const (.int .i64 (-2)))⟩])
 (.block 2 (.loop k9_5)))
 (.seq (.region [⟨some 113, none, .mov (.tmp 6)⟩,
  ⟨some 114, none, .mov (.tmp 7)⟩,
  ⟨some 115, none, .indexAddr 4 (.tmp 113) (.tmp 114)⟩,
  ⟨some 116, none, .load 4 true (.tmp 115)⟩,
  ⟨some 117, none, .mov (.tmp 1)⟩,
  ⟨some 118, none, .call (.const (.func (.func 28) [] [])) [(.tmp 116), (.tmp 117)]⟩,
  ⟨some 112, none, .mov (.tmp 118)⟩,
  ⟨some 119, none, .extract 0 (.tmp 112)⟩,
  ⟨some 120, none, .extract 1 (.tmp 112)⟩,
  ⟨some 16, none, .alloc [.nilslice, .nilslice]⟩,
  ⟨none, none, .store 2 (.tmp 16) (.tmp 119)⟩,
  ⟨some 17, none, .mov (.tmp 120)⟩])
 (.seq (.region [⟨some 122, none, .mov (.tmp 6)⟩,
  ⟨some 123, none, .mov (.tmp 7)⟩,
  ⟨some 124, none, .indexAddr 4 (.tmp 122) (.tmp 123)⟩,
  ⟨some 125, none, .load 4 true (.tmp 124)⟩,
  ⟨some 126, none, .mov (.tmp 1)⟩,
  ⟨some 127, none, .call (.const (.func (.func 29) [] [])) [(.tmp 125), (.tmp 126)]⟩,
  ⟨some 121, none, .mov (.tmp 127)⟩,
  ⟨some 128, none, .extract 0 (.tmp 121)⟩,
  ⟨some 129, none, .extract 1 (.tmp 121)⟩,
  ⟨some 130, none, .extract 2 (.tmp 121)⟩,
  ⟨some 18, none, .mov (.tmp 128)⟩,
  ⟨some 19, none, .mov (.tmp 129)⟩,
  ⟨some 20, none, .mov (.tmp 130)⟩])
 (.seq (.region [⟨some 131, none, .mov (.tmp 17)⟩,
  ⟨some 132, none, .mov (.tmp 20)⟩,
  ⟨some 133, none, .eqv true .bool (.tmp 131) (.tmp 132)⟩])
 (.cond (.tmp 133) (.seq (.region [⟨some 4, none, .mov (.const (.bool false))⟩])
 .ret) .skip)))))
def k9_7 : ACode := (.seq (.seq (.region [⟨some 26, none, .mov (.tmp 7)⟩,
  ⟨some 27, none, .mov (.tmp 6)⟩,
  ⟨some 28, none, .lenSl (.tmp 27)⟩,
  ⟨some 29, none, .bin .lss (.tmp 26) (.tmp 28)⟩])
 (.cond (.tmp 29) .skip (.exit 0)))
 (.seq (.block 1 k9_6)
 (.region [⟨some 30, none, .mov (.tmp 7)⟩,
  ⟨some 31, none, .bin .add (.tmp 30) (.const (.int .i64 1))⟩,
  ⟨some 7, none, .mov (.tmp 31)⟩])))
def k9 : AFun := ⟨134, [.tmp 4], (.seq (.region [⟨some 4, none, .mov (.const (.bool false))⟩])
 (.seq (.region [⟨some 21, none, .call (.const (.func (.func 27) [] [])) []⟩,
  ⟨some 5, none, .mov (.tmp 21)⟩])
 (.seq (.seq (.region [⟨some 22, none, .mov (.tmp 5)⟩,
  ⟨some 23, none, .un .not (.tmp 22)⟩])
 (.cond (.tmp 23) (.seq (.region [⟨some 4, none, .mov (.const (.bool false))⟩])
 .ret) .skip))
 (.seq (.region [⟨some 24, none, .mov (.tmp 0)⟩,
  ⟨some 25, none, .call (.const (.func (.func 14) [] [])) [(.tmp 24)]⟩,
  ⟨some 6, none, .mov (.tmp 25)⟩])
 (.seq (.seq (.region [⟨some 7, none, .mov (.const (.int .i64 0))⟩])
 (.block 0 (.loop k9_7)))
 (.seq (.region [⟨some 4, none, .mov (.const (.bool true))⟩])
 .ret))))))⟩
theorem c9 : (XTab.of Try.prog).code 9 = some k9 := by kernel_rfl

/-! delphi/delphilaw11.RelationAll -/
def k10_0 : ACode := (.seq (.region [⟨some 59, none, .mov (.tmp 7)⟩,
  ⟨some 60, none, .mov (.tmp 11)⟩,
  ⟨some 61, none, .indexAddr 1 (.tmp 59) (.tmp 60)⟩,
  ⟨some 62, none, .load 1 false (.tmp 61)⟩,
  ⟨some 63, none, .mov (.tmp 9)⟩,
  ⟨some 64, none, .call (.const (.func (.func 32) [] [])) [(.tmp 62), (.tmp 63)]⟩])
 (.cond (.tmp 64) (.region [⟨some 65, none, .mov (.tmp 11)⟩,
  ⟨some 10, none, .mov (.tmp 65)⟩]) .skip))
def k10_1 : ACode := (.seq (.seq (.region [⟨some 53, none, .mov (.tmp 11)⟩,
  ⟨some 54, none, .mov (.tmp 7)⟩,
  ⟨some 55, none, .lenSl (.tmp 54)⟩,
  ⟨some 56, none, .bin .lss (.tmp 53) (.tmp 55)⟩])
 (.cond (.tmp 56) .skip (.exit 2)))
 (.seq (.block 3 k10_0)
 (.region [⟨some 57, none, .mov (.tmp 11)⟩,
  ⟨some 58, none, .bin .add (.tmp 57) (.const (.int .i64 1))⟩,
  ⟨some 11, none, .mov (.tmp 58)⟩])))
def k10_2 : ACode := (.region [⟨some 98, none, .mov (.tmp 7)⟩,
  ⟨some 99, none, .mov (.tmp 9)⟩,
  ⟨some 100, none, .append 1 8 (.const .nilslice) (.tmp 99)⟩,
  ⟨some 101, none, .buildSlice 1 [.nilslice] [(0, 1, (.tmp 100))]⟩,
  ⟨some 102, none, .append 1 24 (.tmp 98) (.tmp 101)⟩,
  ⟨some 7, none, .mov (.tmp 102)⟩])
def k10_3 : ACode := (.region [⟨some 109, none, .mov (.tmp 9)⟩,
  ⟨some 110, none, .mov (.tmp 13)⟩,
  ⟨some 111, none, .indexAddr 1 (.tmp 109) (.tmp 110)⟩,
  ⟨some 112, none, .load 1 false (.tmp 111)⟩,
  ⟨some 113, none, .bin .add (.tmp 112) (.const (.int .i64 1))⟩,
  ⟨some 114, none, .indexAddr 1 (.tmp 109) (.tmp 110)⟩,
  ⟨none, none, .store 1 (.tmp 114) (.tmp 113)⟩])
def k10_4 : ACode := (.seq (.seq (.region [⟨some 103, none, .mov (.tmp 13)⟩,
  ⟨some 104, none, .mov (.tmp 9)⟩,
  ⟨some 105, none, .lenSl (.tmp 104)⟩,
  ⟨some 106, none, .bin .lss (.tmp 103) (.tmp 105)⟩])
 (.cond (.tmp 106) .skip (.exit 5)))
 (.seq (.block 6 k10_3)
 (.region [⟨some 107, none, .mov (.tmp 13)⟩,
  ⟨some 108, none, .bin .add (.tmp 107) (.const (.int .i64 1))⟩,
  ⟨some 13, none, .mov (.tmp 108)⟩])))
def k10_5 : ACode := (.drawn [⟨⟨some 125, none, .mov (.tmp 7)⟩, false, [], [126, 129, 130, 131, 132]⟩,
  ⟨⟨some 126, none, .mov (.tmp 10)⟩, false, [], [125, 129, 130, 131, 132]⟩,
  ⟨⟨some 127, none, .slice 1 (.tmp 125) none (some (.tmp 126)) none⟩, false, [0, 1], [129, 130, 131, 132]⟩,
  ⟨⟨some 128, none, .append 1 24 (.const .nilslice) (.tmp 127)⟩, true, [1, 0, 2], [129, 130, 131, 132]⟩,
  ⟨⟨some 129, none, .mov (.tmp 7)⟩, false, [], [125, 126, 127, 128, 130, 131]⟩,
  ⟨⟨some 130, none, .mov (.tmp 10)⟩, false, [], [125, 126, 127, 128, 129]⟩,
  ⟨⟨some 131, none, .bin .add (.tmp 130) (.const (.int .i64 1))⟩, false, [5], [125, 126, 127, 128, 129]⟩,
  ⟨⟨some 132, none, .slice 1 (.tmp 129) (some (.tmp 131)) none none⟩, false, [4, 5, 6], [125, 126, 127, 128]⟩,
  ⟨⟨some 133, none, .append 1 24 (.tmp 128) (.tmp 132)⟩, true, [6, 5, 4, 7, 2, 0, 1, 3], []⟩,
  ⟨⟨some 7, none, .mov (.tmp 133)⟩, false, [3, 1, 0, 2, 7, 4, 5, 6, 8], []⟩])
def k10_6 : ACode := (.drawn [⟨⟨some 158, none, .mov (.tmp 16)⟩, false, [], []⟩,
  ⟨⟨some 159, none, .mov (.tmp 158)⟩, false, [0], []⟩,
  ⟨⟨some 160, (some (159, true)), .mov (.tmp 9)⟩, false, [0, 1], [161]⟩,
  ⟨⟨some 161, (some (159, true)), .mov (.tmp 17)⟩, false, [0, 1], [160]⟩,
  ⟨⟨some 162, (some (159, true)), .indexAddr 1 (.tmp 160) (.tmp 161)⟩, false, [2, 3, 0, 1], []⟩,
  ⟨⟨some 163, (some (159, true)), .load 1 false (.tmp 162)⟩, false, [3, 2, 4, 0, 1], []⟩,
  ⟨⟨some 164, (some (159, true)), .bin .leq (.tmp 163) (.const (.int .i64 0))⟩, false, [4, 2, 3, 5, 0, 1], []⟩,
  ⟨⟨some 165, (some (159, true)), .mov (.tmp 164)⟩, false, [5, 3, 2, 4, 6, 0, 1], []⟩,
  ⟨⟨some 166, (some (165, false)), .mov (.tmp 9)⟩, false, [1, 0, 6, 4, 2, 3, 5, 7], [167, 170, 171, 172, 173, 174, 175, 176]⟩,
  ⟨⟨some 167, (some (165, false)), .mov (.tmp 17)⟩, false, [1, 0, 6, 4, 2, 3, 5, 7], [166, 170, 171, 172, 173, 174, 175, 176]⟩,
  ⟨⟨some 168, (some (165, false)), .indexAddr 1 (.tmp 166) (.tmp 167)⟩, false, [8, 9, 1, 0, 6, 4, 2, 3, 5, 7], [170, 171, 172, 173, 174, 175, 176]⟩,
  ⟨⟨some 169, (some (165, false)), .load 1 false (.tmp 168)⟩, false, [9, 8, 10, 1, 0, 6, 4, 2, 3, 5, 7], [170, 171, 172, 173, 174, 175, 176]⟩,
  ⟨⟨some 170, (some (165, false)), .mov (.tmp 7)⟩, false, [1, 0, 6, 4, 2, 3, 5, 7], [166, 167, 168, 169, 171, 174]⟩,
  ⟨⟨some 171, (some (165, false)), .mov (.tmp 15)⟩, false, [1, 0, 6, 4, 2, 3, 5, 7], [166, 167, 168, 169, 170, 174]⟩,
  ⟨⟨some 172, (some (165, false)), .indexAddr 1 (.tmp 170) (.tmp 171)⟩, false, [12, 13, 1, 0, 6, 4, 2, 3, 5, 7], [166, 167, 168, 169, 174]⟩,
  ⟨⟨some 173, (some (165, false)), .load 1 false (.tmp 172)⟩, false, [13, 12, 14, 1, 0, 6, 4, 2, 3, 5, 7], [166, 167, 168, 169, 174]⟩,
  ⟨⟨some 174, (some (165, false)), .mov (.tmp 17)⟩, false, [1, 0, 6, 4, 2, 3, 5, 7], [166, 167, 168, 169, 170, 171, 172, 173]⟩,
  ⟨⟨some 175, (some (165, false)), .indexAddr 1 (.tmp 173) (.tmp 174)⟩, false, [14, 12, 13, 15, 16, 1, 0, 6, 4, 2, 3, 5, 7], [166, 167, 168, 169]⟩,
  ⟨⟨some 176, (some (165, false)), .load 1 false (.tmp 175)⟩, false, [16, 15, 13, 12, 14, 17, 1, 0, 6, 4, 2, 3, 5, 7], [166, 167, 168, 169]⟩,
  ⟨⟨some 177, (some (165, false)), .bin .eql (.tmp 169) (.tmp 176)⟩, false, [10, 8, 9, 11, 17, 14, 12, 13, 15, 16, 18, 1, 0, 6, 4, 2, 3, 5, 7], []⟩,
  ⟨⟨some 178, (some (159, true)), .pick (.tmp 165) (.const (.bool true)) (.tmp 177)⟩, false, [7, 5, 3, 2, 4, 6, 18, 16, 15, 13, 12, 14, 17, 11, 9, 8, 10, 19, 0, 1], []⟩,
  ⟨⟨some 179, none, .pick (.tmp 159) (.tmp 178) (.const (.bool false))⟩, false, [1, 0, 19, 10, 8, 9, 11, 17, 14, 12, 13, 15, 16, 18, 6, 4, 2, 3, 5, 7, 20], []⟩,
  ⟨⟨some 16, none, .mov (.tmp 179)⟩, false, [20, 7, 5, 3, 2, 4, 6, 18, 16, 15, 13, 12, 14, 17, 11, 9, 8, 10, 19, 0, 1, 21], []⟩])
def k10_7 : ACode := (.seq (.seq (.region [⟨some 153, none, .mov (.tmp 17)⟩,
  ⟨some 154, none, .mov (.tmp 0)⟩,
  ⟨some 155, none, .bin .lss (.tmp 153) (.tmp 154)⟩])
 (.cond (.tmp 155) .skip (.exit 9)))
 (.seq (.block 10 k10_6)
 (.region [⟨some 156, none, .mov (.tmp 17)⟩,
  ⟨some 157, none, .bin .add (.tmp 156) (.const (.int .i64 1))⟩,
  ⟨some 17, none, .mov (.tmp 157)⟩])))
def k10_8 : ACode := (.region [⟨some 181, none, .mov (.tmp 14)⟩,
  ⟨some 182, none, .mov (.tmp 7)⟩,
  ⟨some 183, none, .mov (.tmp 15)⟩,
  ⟨some 184, none, .indexAddr 1 (.tmp 182) (.tmp 183)⟩,
  ⟨some 185, none, .load 1 false (.tmp 184)⟩,
  ⟨some 186, none, .buildSlice 1 [.nilslice] [(0, 1, (.tmp 185))]⟩,
  ⟨some 187, none, .append 1 24 (.tmp 181) (.tmp 186)⟩,
  ⟨some 14, none, .mov (.tmp 187)⟩])
def k10_9 : ACode := (.seq (.seq (.region [⟨some 144, none, .mov (.tmp 15)⟩,
  ⟨some 145, none, .mov (.tmp 7)⟩,
  ⟨some 146, none, .lenSl (.tmp 145)⟩,
  ⟨some 147, none, .bin .lss (.tmp 144) (.tmp 146)⟩,
  ⟨some 148, none, .mov (.tmp 147)⟩,
  ⟨some 149, (some (148, true)), .mov (.tmp 12)⟩,
  ⟨some 150, none, .pick (.tmp 148) (.tmp 149) (.const (.bool false))⟩])
 (.cond (.tmp 150) .skip (.exit 7)))
 (.seq (.block 8 (.seq (.region [⟨some 16, none, .mov (.const (.bool true))⟩])
 (.seq (.seq (.region [⟨some 17, none, .mov (.const (.int .i64 0))⟩])
 (.block 9 (.loop k10_7)))
 (.seq (.region [⟨some 180, none, .mov (.tmp 16)⟩])
 (.cond (.tmp 180) k10_8 .skip)))))
 (.region [⟨some 151, none, .mov (.tmp 15)⟩,
  ⟨some 152, none, .bin .add (.tmp 151) (.const (.int .i64 1))⟩,
  ⟨some 15, none, .mov (.tmp 152)⟩])))
def k10_10 : ACode := (.seq (.region [⟨some 14, none, .mov (.const .nilslice)⟩])
 (.seq (.seq (.region [⟨some 15, none, .mov (.const (.int .i64 0))⟩])
 (.block 7 (.loop k10_9)))
 (.seq (.region [⟨some 188, none, .mov (.tmp 6)⟩,
  ⟨some 189, none, .mov (.tmp 9)⟩,
  ⟨some 190, none, .call (.const (.func (.func 37) [] [])) [(.tmp 188), (.tmp 189)]⟩,
  ⟨some 191, none, .mov (.tmp 14)⟩,
  ⟨some 192, none, .call (.const (.func (.func 36) [] [])) [(.tmp 190), (.tmp 191)]⟩,
  ⟨some 193, none, .un .not (.tmp 192)⟩])
 (.cond (.tmp 193) (.seq (.region [⟨some 4, none, .mov (.const (.bool false))⟩])
 .ret) .skip))))
def k10_11 : ACode := (.seq (.region [⟨some 75, none, .mov (.tmp 6)⟩,
  ⟨some 76, none, .call (.const (.func (.func 38) [] [])) [(.tmp 75)]⟩,
  ⟨some 18, none, .mov (.tmp 76)⟩])
 (.seq (.region [⟨some 77, none, .mov (.tmp 12)⟩])
 (.cond (.tmp 77) (.region [⟨some 78, none, .mov (.tmp 18)⟩,
  ⟨some 79, none, .mov (.tmp 9)⟩,
  ⟨some 80, none, .append 1 8 (.const .nilslice) (.tmp 79)⟩,
  ⟨some 81, none, .call (.const (.func (.func 33) [] [])) [(.tmp 78), (.tmp 80)]⟩]) .skip)))
def k10_12 : ACode := (.seq (.region [⟨some 136, none, .mov (.tmp 6)⟩,
  ⟨some 137, none, .mov (.tmp 9)⟩,
  ⟨some 138, none, .call (.const (.func (.func 35) [] [])) [(.tmp 136), (.tmp 137)]⟩,
  ⟨some 139, none, .mov (.tmp 10)⟩,
  ⟨some 140, none, .bin .geq (.tmp 139) (.const (.int .i64 0))⟩,
  ⟨some 141, none, .eqv true .bool (.tmp 138) (.tmp 140)⟩])
 (.cond (.tmp 141) (.seq (.region [⟨some 4, none, .mov (.const (.bool false))⟩])
 .ret) .skip))
def k10_13 : ACode := (.seq (.seq (.region [⟨some 117, none, .mov (.tmp 6)⟩,
  ⟨some 118, none, .mov (.tmp 9)⟩,
  ⟨some 119, none, .call (.const (.func (.func 34) [] [])) [(.tmp 117), (.tmp 118)]⟩,
  ⟨some 120, none, .mov (.tmp 10)⟩,
  ⟨some 121, none, .bin .geq (.tmp 120) (.const (.int .i64 0))⟩,
  ⟨some 122, none, .eqv true .bool (.tmp 119) (.tmp 121)⟩])
 (.cond (.tmp 122) (.seq (.region [⟨some 4, none, .mov (.const (.bool false))⟩])
 .ret) .skip))
 (.seq (.region [⟨some 123, none, .mov (.tmp 10)⟩,
  ⟨some 124, none, .bin .geq (.tmp 123) (.const (.int .i64 0))⟩])
 (.cond (.tmp 124) k10_5 .skip)))
def k10_14 : ACode := (.seq (.region [⟨some 135, none, .bin .eql (.tmp 74) (.const (.int .i64 2))⟩,
  ⟨some 134, none, .mov (.tmp 135)⟩])
 (.cond (.tmp 134) k10_12 (.seq (.region [⟨some 143, none, .bin .eql (.tmp 74) (.const (.int .i64 3))⟩,
  ⟨some 142, none, .mov (.tmp 143)⟩])
 (.cond (.tmp 142) k10_10 k10_11))))
def k10_15 : ACode := (.seq (.seq (.region [⟨some 84, none, .mov (.tmp 6)⟩,
  ⟨some 85, none, .mov (.tmp 9)⟩,
  ⟨some 86, none, .call (.const (.func (.func 33) [] [])) [(.tmp 84), (.tmp 85)]⟩,
  ⟨some 87, none, .mov (.tmp 12)⟩,
  ⟨some 88, none, .mov (.tmp 87)⟩,
  ⟨some 89, (some (88, true)), .mov (.tmp 10)⟩,
  ⟨some 90, (some (88, true)), .bin .lss (.tmp 89) (.const (.int .i64 0))⟩,
  ⟨some 91, none, .pick (.tmp 88) (.tmp 90) (.const (.bool false))⟩,
  ⟨some 92, none, .eqv true .bool (.tmp 86) (.tmp 91)⟩])
 (.cond (.tmp 92) (.seq (.region [⟨some 4, none, .mov (.const (.bool false))⟩])
 .ret) .skip))
 (.seq (.seq (.region [⟨some 93, none, .mov (.tmp 12)⟩,
  ⟨some 94, none, .mov (.tmp 93)⟩,
  ⟨some 95, (some (94, true)), .mov (.tmp 10)⟩,
  ⟨some 96, (some (94, true)), .bin .lss (.tmp 95) (.const (.int .i64 0))⟩,
  ⟨some 97, none, .pick (.tmp 94) (.tmp 96) (.const (.bool false))⟩])
 (.cond (.tmp 97) k10_2 .skip))
 (.seq (.region [⟨some 13, none, .mov (.const (.int .i64 0))⟩])
 (.block 5 (.loop k10_4)))))
def k10_16 : ACode := (.seq (.region [⟨some 83, none, .bin .eql (.tmp 74) (.const (.int .i64 0))⟩,
  ⟨some 82, none, .mov (.tmp 83)⟩])
 (.cond (.tmp 82) k10_15 (.seq (.region [⟨some 116, none, .bin .eql (.tmp 74) (.const (.int .i64 1))⟩,
  ⟨some 115, none, .mov (.tmp 116)⟩])
 (.cond (.tmp 115) k10_13 k10_14))))
def k10_17 : ACode := (.region [⟨some 222, none, .mov (.tmp 19)⟩,
  ⟨some 223, none, .mov (.tmp 20)⟩,
  ⟨some 224, none, .indexAddr 1 (.tmp 222) (.tmp 223)⟩,
  ⟨some 225, none, .load 1 false (.tmp 224)⟩,
  ⟨some 226, none, .mov (.tmp 21)⟩,
  ⟨some 227, none, .indexAddr 1 (.tmp 225) (.tmp 226)⟩,
  ⟨none, none, .store 1 (.tmp 227) (.const (.int .i64 (-7)))⟩])
def k10_18 : ACode := (.seq (.seq (.region [⟨some 213, none, .mov (.tmp 21)⟩,
  ⟨some 214, none, .mov (.tmp 19)⟩,
  ⟨some 215, none, .mov (.tmp 20)⟩,
  ⟨some 216, none, .indexAddr 1 (.tmp 214) (.tmp 215)⟩,
  ⟨some 217, none, .load 1 false (.tmp 216)⟩,
  ⟨some 218, none, .lenSl (.tmp 217)⟩,
  ⟨some 219, none, .bin .lss (.tmp 213) (.tmp 218)⟩])
 (.cond (.tmp 219) .skip (.exit 13)))
 (.seq (.block 14 k10_17)
 (.region [⟨some 220, none, .mov (.tmp 21)⟩,
  ⟨some 221, none, .bin .add (.tmp 220) (.const (.int .i64 1))⟩,
  ⟨some 21, none, .mov (.tmp 221)⟩])))
def k10_19 : ACode := (.seq (.seq (.region [⟨some 207, none, .mov (.tmp 20)⟩,
  ⟨some 208, none, .mov (.tmp 19)⟩,
  ⟨some 209, none, .lenSl (.tmp 208)⟩,
  ⟨some 210, none, .bin .lss (.tmp 207) (.tmp 209)⟩])
 (.cond (.tmp 210) .skip (.exit 11)))
 (.seq (.block 12 (.seq (.region [⟨some 21, none, .mov (.const (.int .i64 0))⟩])
 (.block 13 (.loop k10_18))))
 (.region [⟨some 211, none, .mov (.tmp 20)⟩,
  ⟨some 212, none, .bin .add (.tmp 211) (.const (.int .i64 1))⟩,
  ⟨some 20, none, .mov (.tmp 212)⟩])))
def k10_20 : ACode := (.seq (.region [⟨some 41, none, .mov (.tmp 1)⟩,
  ⟨some 42, none, .mov (.tmp 8)⟩,
  ⟨some 43, none, .indexAddr 2 (.tmp 41) (.tmp 42)⟩,
  ⟨some 44, none, .fieldAddr 1 (.tmp 43)⟩,
  ⟨some 45, none, .load 1 false (.tmp 44)⟩,
  ⟨some 9, none, .mov (.tmp 45)⟩])
 (.seq (.seq (.region [⟨some 46, none, .mov (.tmp 9)⟩,
  ⟨some 47, none, .lenSl (.tmp 46)⟩,
  ⟨some 48, none, .bin .gtr (.tmp 47) (.const (.int .i64 6))⟩])
 (.cond (.tmp 48) (.region [⟨some 49, none, .mov (.tmp 9)⟩,
  ⟨some 50, none, .slice 1 (.tmp 49) none (some (.const (.int .i64 6))) none⟩,
  ⟨some 9, none, .mov (.tmp 50)⟩]) .skip))
 (.seq (.region [⟨some 51, none, .mov (.tmp 9)⟩,
  ⟨some 52, none, .append 1 8 (.const .nilslice) (.tmp 51)⟩,
  ⟨some 9, none, .mov (.tmp 52)⟩])
 (.seq (.region [⟨some 10, none, .mov (.const (.int .i64 (-1)))⟩])
 (.seq (.seq (.region [⟨some 11, none, .mov (.const (.int .i64 0))⟩])
 (.block 2 (.loop k10_1)))
 (.seq (.region [⟨some 66, none, .mov (.tmp 9)⟩,
  ⟨some 67, none, .lenSl (.tmp 66)⟩,
  ⟨some 68, none, .mov (.tmp 0)⟩,
  ⟨some 69, none, .bin .eql (.tmp 67) (.tmp 68)⟩,
  ⟨some 12, none, .mov (.tmp 69)⟩])
 (.seq (.seq (.region [⟨some 70, none, .mov (.tmp 1)⟩,
  ⟨some 71, none, .mov (.tmp 8)⟩,
  ⟨some 72, none, .indexAddr 2 (.tmp 70) (.tmp 71)⟩,
  ⟨some 73, none, .fieldAddr 0 (.tmp 72)⟩,
  ⟨some 74, none, .load 1 false (.tmp 73)⟩])
 (.block 4 k10_16))
 (.seq (.region [⟨some 194, none, .mov (.tmp 6)⟩,
  ⟨some 195, none, .call (.const (.func (.func 39) [] [])) [(.tmp 194)]⟩,
  ⟨some 19, none, .mov (.tmp 195)⟩])
 (.seq (.seq (.region [⟨some 196, none, .mov (.tmp 6)⟩,
  ⟨some 197, none, .call (.const (.func (.func 40) [] [])) [(.tmp 196)]⟩,
  ⟨some 198, none, .mov (.tmp 7)⟩,
  ⟨some 199, none, .lenSl (.tmp 198)⟩,
  ⟨some 200, none, .bin .neq (.tmp 197) (.tmp 199)⟩,
  ⟨some 201, none, .mov (.tmp 200)⟩,
  ⟨some 202, (some (201, false)), .mov (.tmp 19)⟩,
  ⟨some 203, (some (201, false)), .mov (.tmp 7)⟩,
  ⟨some 204, (some (201, false)), .call (.const (.func (.func 36) [] [])) [(.tmp 202), (.tmp 203)]⟩,
  ⟨some 205, (some (201, false)), .un .not (.tmp 204)⟩,
  ⟨some 206, none, .pick (.tmp 201) (.const (.bool true)) (.tmp 205)⟩])
 (.cond (.tmp 206) (.seq (.region [⟨some 4, none, .mov (.const (.bool false))⟩])
 .ret) .skip))
 (.seq (.region [⟨some 20, none, .mov (.const (.int .i64 0))⟩])
 (.block 11 (.loop k10_19))))))))))))
def k10_21 : ACode := (.seq (.seq (.region [⟨some 31, none, .mov (.tmp 8)⟩,
  ⟨some 32, none, .mov (.tmp 1)⟩,
  ⟨some 33, none, .lenSl (.tmp 32)⟩,
  ⟨some 34, none, .bin .lss (.tmp 31) (.tmp 33)⟩,
  ⟨some 35, none, .mov (.tmp 34)⟩,
  ⟨some 36, (some (35, true)), .mov (.tmp 8)⟩,
  ⟨some 37, (some (35, true)), .bin .lss (.tmp 36) (.const (.int .i64 60))⟩,
  ⟨some 38, none, .pick (.tmp 35) (.tmp 37) (.const (.bool false))⟩])
 (.cond (.tmp 38) .skip (.exit 0)))
 (.seq (.block 1 k10_20)
 (.region [⟨some 39, none, .mov (.tmp 8)⟩,
  ⟨some 40, none, .bin .add (.tmp 39) (.const (.int .i64 1))⟩,
  ⟨some 8, none, .mov (.tmp 40)⟩])))
def k10 : AFun := ⟨228, [.tmp 4], (.seq (.region [⟨some 4, none, .mov (.const (.bool false))⟩])
 (.seq (.region [⟨some 22, none, .call (.const (.func (.func 30) [] [])) []⟩,
  ⟨some 5, none, .mov (.tmp 22)⟩])
 (.seq (.seq (.region [⟨some 23, none, .mov (.tmp 5)⟩,
  ⟨some 24, none, .un .not (.tmp 23)⟩])
 (.cond (.tmp 24) (.seq (.region [⟨some 4, none, .mov (.const (.bool false))⟩])
 .ret) .skip))
 (.seq (.region [⟨some 25, none, .mov (.tmp 0)⟩,
  ⟨some 26, none, .bin .rem (.tmp 25) (.const (.int .i64 5))⟩,
  ⟨some 27, none, .bin .add (.tmp 26) (.const (.int .i64 5))⟩,
  ⟨some 28, none, .bin .rem (.tmp 27) (.const (.int .i64 5))⟩,
  ⟨some 0, none, .mov (.tmp 28)⟩])
 (.seq (.region [⟨some 29, none, .mov (.tmp 0)⟩,
  ⟨some 30, none, .call (.const (.func (.func 31) [] [])) [(.tmp 29)]⟩,
  ⟨some 6, none, .mov (.tmp 30)⟩])
 (.seq (.region [⟨some 7, none, .mov (.const .nilslice)⟩])
 (.seq (.seq (.region [⟨some 8, none, .mov (.const (.int .i64 0))⟩])
 (.block 0 (.loop k10_21)))
 (.seq (.region [⟨some 4, none, .mov (.const (.bool true))⟩])
 .ret))))))))⟩
theorem c10 : (XTab.of Try.prog).code 10 = some k10 := by kernel_rfl

end Go.Proofs.Ytjidefnbancmfaa
