/- A part of the proof: C1, C2. -/
import Derived.Test.YtladocoibpljnaaGreatDoorHtE
set_option maxRecDepth 100000
set_option linter.unusedVariables false
namespace Go.Proofs.YtladocoibpljnaaGreatDoor
open Go.AE
def k_law26_HistoryOld_p0 : ACode := (.seq (.region [⟨some 4, none, .mov (.const (.bool false))⟩])
 .ret)
def k_law26_HistoryOld_p1 : ACode := (.seq (.region [⟨some 4, none, .mov (.const (.bool true))⟩])
 .ret)
def k_law26_HistoryOld_p2 : ACode := (.region [⟨some 25, none, .build [(.int .i64 0), (.bool false), .nilslice] []⟩,
  ⟨none, none, .store 3 (.tmp 8) (.tmp 25)⟩])
def k_law26_HistoryOld_p3 : ACode := (.seq (.region [⟨some 41, none, .load 4 true (.tmp 6)⟩,
  ⟨some 42, none, .buildSlice 1 [(.int .i64 0), (.int .i64 0), (.int .i64 0), (.str [])] [(0, 4, (.tmp 41))]⟩,
  ⟨some 43, none, .mov (.tmp 9)⟩,
  ⟨some 44, none, .call (.const (.func (.func n_history_Judge) [] [])) [(.tmp 42), (.tmp 43)]⟩,
  ⟨some 45, none, .mov (.tmp 10)⟩,
  ⟨some 46, none, .eqv false .bool (.tmp 44) (.tmp 45)⟩,
  ⟨some 47, none, .mov (.tmp 46)⟩,
  ⟨some 48, (some (47, true)), .mov (.tmp 9)⟩,
  ⟨some 49, (some (47, true)), .call (.const (.func (.func n_history_Some) [] [])) [(.tmp 48)]⟩,
  ⟨some 50, (some (47, true)), .mov (.tmp 10)⟩,
  ⟨some 51, (some (47, true)), .eqv false .bool (.tmp 49) (.tmp 50)⟩,
  ⟨some 52, none, .pick (.tmp 47) (.tmp 51) (.const (.bool false))⟩,
  ⟨some 4, none, .mov (.tmp 52)⟩])
 .ret)
def k_law26_HistoryOld_p4 : ACode := (.seq (.region [⟨some 35, none, .mov (.tmp 1)⟩,
  ⟨some 36, none, .un .not (.tmp 35)⟩,
  ⟨some 37, none, .mov (.tmp 36)⟩,
  ⟨some 38, (some (37, false)), .mov (.tmp 0)⟩,
  ⟨some 39, (some (37, false)), .bin .leq (.tmp 38) (.const (.int .i64 0))⟩,
  ⟨some 40, none, .pick (.tmp 37) (.const (.bool true)) (.tmp 39)⟩,
  ⟨some 10, none, .mov (.tmp 40)⟩])
 k_law26_HistoryOld_p3)
def k_law26_HistoryOld_p5 : ACode := (.seq (.region [⟨some 26, none, .load 4 true (.tmp 6)⟩,
  ⟨some 27, none, .build [(.int .i64 0), (.bool false), .nilslice] [(1, 1, (.const (.bool true)))]⟩,
  ⟨some 28, none, .build [(.int .i64 0), (.int .i64 0), (.int .i64 0), (.str []), (.int .i64 0), (.int .i64 0), (.int .i64 0), (.bool false), .nilslice] [(0, 4, (.tmp 26)), (4, 1, (.const (.int .i64 10))), (5, 1, (.const (.int .i64 20))), (6, 3, (.tmp 27))]⟩,
  ⟨some 29, none, .load 4 true (.tmp 7)⟩,
  ⟨some 30, none, .mov (.tmp 0)⟩,
  ⟨some 31, none, .bin .add (.const (.int .i64 20)) (.tmp 30)⟩,
  ⟨some 32, none, .load 3 true (.tmp 8)⟩,
  ⟨some 33, none, .build [(.int .i64 0), (.int .i64 0), (.int .i64 0), (.str []), (.int .i64 0), (.int .i64 0), (.int .i64 0), (.bool false), .nilslice] [(0, 4, (.tmp 29)), (4, 1, (.tmp 31)), (5, 1, (.const (.int .i64 30))), (6, 3, (.tmp 32))]⟩,
  ⟨some 34, none, .buildSlice 2 [(.int .i64 0), (.int .i64 0), (.int .i64 0), (.str []), (.int .i64 0), (.int .i64 0), (.int .i64 0), (.bool false), .nilslice, (.int .i64 0), (.int .i64 0), (.int .i64 0), (.str []), (.int .i64 0), (.int .i64 0), (.int .i64 0), (.bool false), .nilslice] [(0, 9, (.tmp 28)), (9, 9, (.tmp 33))]⟩,
  ⟨some 9, none, .mov (.tmp 34)⟩])
 k_law26_HistoryOld_p4)
def k_law26_HistoryOld_p6 : ACode := (.seq (.region [⟨some 22, none, .buildSlice 1 [(.str [])] [(0, 1, (.const (.str [112, 40, 97, 41])))]⟩,
  ⟨some 23, none, .build [(.int .i64 0), (.bool false), .nilslice] [(2, 1, (.tmp 22))]⟩,
  ⟨some 8, none, .alloc [(.int .i64 0), (.bool false), .nilslice]⟩,
  ⟨none, none, .store 3 (.tmp 8) (.tmp 23)⟩])
 (.seq (.seq (.region [⟨some 24, none, .mov (.tmp 1)⟩])
 (.cond (.tmp 24) k_law26_HistoryOld_p2 .skip))
 k_law26_HistoryOld_p5))
def k_law26_HistoryOld_p7 : ACode := (.seq (.region [⟨some 21, none, .build [(.int .i64 0), (.int .i64 0), (.int .i64 0), (.str [])] [(0, 1, (.const (.int .i64 4))), (1, 1, (.const (.int .i64 2))), (2, 1, (.const (.int .i64 1))), (3, 1, (.const (.str [112, 40, 88, 41])))]⟩,
  ⟨some 7, none, .alloc [(.int .i64 0), (.int .i64 0), (.int .i64 0), (.str [])]⟩,
  ⟨none, none, .store 4 (.tmp 7) (.tmp 21)⟩])
 k_law26_HistoryOld_p6)
def k_law26_HistoryOld_p8 : ACode := (.seq (.region [⟨some 20, none, .build [(.int .i64 0), (.int .i64 0), (.int .i64 0), (.str [])] [(0, 1, (.const (.int .i64 2))), (1, 1, (.const (.int .i64 1))), (2, 1, (.const (.int .i64 1))), (3, 1, (.const (.str [112, 40, 97, 41])))]⟩,
  ⟨some 6, none, .alloc [(.int .i64 0), (.int .i64 0), (.int .i64 0), (.str [])]⟩,
  ⟨none, none, .store 4 (.tmp 6) (.tmp 20)⟩])
 k_law26_HistoryOld_p7)
def k_law26_HistoryOld_p9 : ACode := (.seq (.seq (.region [⟨some 14, none, .mov (.tmp 0)⟩,
  ⟨some 15, none, .bin .lss (.tmp 14) (.const (.int .i64 (-5)))⟩,
  ⟨some 16, none, .mov (.tmp 15)⟩,
  ⟨some 17, (some (16, false)), .mov (.tmp 0)⟩,
  ⟨some 18, (some (16, false)), .bin .gtr (.tmp 17) (.const (.int .i64 5))⟩,
  ⟨some 19, none, .pick (.tmp 16) (.const (.bool true)) (.tmp 18)⟩])
 (.cond (.tmp 19) k_law26_HistoryOld_p1 .skip))
 k_law26_HistoryOld_p8)
def k_law26_HistoryOld : AFun := ⟨53, [.tmp 4], (.seq (.region [⟨some 4, none, .mov (.const (.bool false))⟩])
 (.seq (.region [⟨some 11, none, .call (.const (.func (.func n_law26_begun) [] [])) []⟩,
  ⟨some 5, none, .mov (.tmp 11)⟩])
 (.seq (.seq (.region [⟨some 12, none, .mov (.tmp 5)⟩,
  ⟨some 13, none, .un .not (.tmp 12)⟩])
 (.cond (.tmp 13) k_law26_HistoryOld_p0 .skip))
 k_law26_HistoryOld_p9)))⟩
theorem c_law26_HistoryOld : (XTab.of Tryz.prog).code 4 = some k_law26_HistoryOld := by kernel_rfl
def k_law26_HistoryTwice_p0 : ACode := (.seq (.region [⟨some 2, none, .mov (.const (.bool false))⟩])
 .ret)
def k_law26_HistoryTwice_p1 : ACode := (.seq (.region [⟨some 2, none, .mov (.const (.bool true))⟩])
 .ret)
def k_law26_HistoryTwice_p2 : ACode := (.region [⟨some 30, none, .mov (.tmp 6)⟩,
  ⟨some 31, none, .load 4 true (.tmp 4)⟩,
  ⟨some 32, none, .buildSlice 1 [(.int .i64 0), (.int .i64 0), (.int .i64 0), (.str [])] [(0, 4, (.tmp 31))]⟩,
  ⟨some 33, none, .append 4 40 (.tmp 30) (.tmp 32)⟩,
  ⟨some 6, none, .mov (.tmp 33)⟩])
def k_law26_HistoryTwice_p3 : ACode := (.seq (.seq (.region [⟨some 25, none, .mov (.tmp 7)⟩,
  ⟨some 26, none, .mov (.tmp 0)⟩,
  ⟨some 27, none, .bin .lss (.tmp 25) (.tmp 26)⟩])
 (.cond (.tmp 27) .skip (.exit 0)))
 (.seq (.block 1 k_law26_HistoryTwice_p2)
 (.region [⟨some 28, none, .mov (.tmp 7)⟩,
  ⟨some 29, none, .bin .add (.tmp 28) (.const (.int .i64 1))⟩,
  ⟨some 7, none, .mov (.tmp 29)⟩])))
def k_law26_HistoryTwice_p4 : ACode := (.seq (.region [⟨some 51, none, .mov (.tmp 6)⟩,
  ⟨some 52, none, .mov (.tmp 9)⟩,
  ⟨some 53, none, .call (.const (.func (.func n_history_Judge) [] [])) [(.tmp 51), (.tmp 52)]⟩,
  ⟨some 54, none, .mov (.tmp 53)⟩,
  ⟨some 55, (some (54, true)), .mov (.tmp 6)⟩,
  ⟨some 56, (some (54, true)), .mov (.tmp 10)⟩,
  ⟨some 57, (some (54, true)), .call (.const (.func (.func n_history_Judge) [] [])) [(.tmp 55), (.tmp 56)]⟩,
  ⟨some 58, (some (54, true)), .un .not (.tmp 57)⟩,
  ⟨some 59, none, .pick (.tmp 54) (.tmp 58) (.const (.bool false))⟩,
  ⟨some 2, none, .mov (.tmp 59)⟩])
 .ret)
def k_law26_HistoryTwice_p5 : ACode := (.seq (.region [⟨some 46, none, .mov (.tmp 10)⟩,
  ⟨some 47, none, .buildSlice 1 [(.str [])] [(0, 1, (.const (.str [112, 40, 97, 41])))]⟩,
  ⟨some 48, none, .build [(.int .i64 0), (.bool false), .nilslice] [(2, 1, (.tmp 47))]⟩,
  ⟨some 49, none, .indexAddr 9 (.tmp 46) (.const (.int .i64 2))⟩,
  ⟨some 50, none, .fieldAddr 6 (.tmp 49)⟩,
  ⟨none, none, .store 3 (.tmp 50) (.tmp 48)⟩])
 k_law26_HistoryTwice_p4)
def k_law26_HistoryTwice_p6 : ACode := (.seq (.region [⟨some 35, none, .load 4 true (.tmp 4)⟩,
  ⟨some 36, none, .build [(.int .i64 0), (.bool false), .nilslice] [(1, 1, (.const (.bool true)))]⟩,
  ⟨some 37, none, .build [(.int .i64 0), (.int .i64 0), (.int .i64 0), (.str []), (.int .i64 0), (.int .i64 0), (.int .i64 0), (.bool false), .nilslice] [(0, 4, (.tmp 35)), (4, 1, (.const (.int .i64 1))), (5, 1, (.const (.int .i64 2))), (6, 3, (.tmp 36))]⟩,
  ⟨some 38, none, .load 4 true (.tmp 5)⟩,
  ⟨some 39, none, .build [(.int .i64 0), (.bool false), .nilslice] [(1, 1, (.const (.bool true)))]⟩,
  ⟨some 40, none, .build [(.int .i64 0), (.int .i64 0), (.int .i64 0), (.str []), (.int .i64 0), (.int .i64 0), (.int .i64 0), (.bool false), .nilslice] [(0, 4, (.tmp 38)), (4, 1, (.const (.int .i64 3))), (5, 1, (.const (.int .i64 4))), (6, 3, (.tmp 39))]⟩,
  ⟨some 41, none, .load 4 true (.tmp 8)⟩,
  ⟨some 42, none, .build [(.int .i64 0), (.int .i64 0), (.int .i64 0), (.str []), (.int .i64 0), (.int .i64 0), (.int .i64 0), (.bool false), .nilslice] [(0, 4, (.tmp 41)), (4, 1, (.const (.int .i64 5))), (5, 1, (.const (.int .i64 6)))]⟩,
  ⟨some 43, none, .buildSlice 3 [(.int .i64 0), (.int .i64 0), (.int .i64 0), (.str []), (.int .i64 0), (.int .i64 0), (.int .i64 0), (.bool false), .nilslice, (.int .i64 0), (.int .i64 0), (.int .i64 0), (.str []), (.int .i64 0), (.int .i64 0), (.int .i64 0), (.bool false), .nilslice, (.int .i64 0), (.int .i64 0), (.int .i64 0), (.str []), (.int .i64 0), (.int .i64 0), (.int .i64 0), (.bool false), .nilslice] [(0, 9, (.tmp 37)), (9, 9, (.tmp 40)), (18, 9, (.tmp 42))]⟩,
  ⟨some 9, none, .mov (.tmp 43)⟩])
 (.seq (.region [⟨some 44, none, .mov (.tmp 9)⟩,
  ⟨some 45, none, .append 9 96 (.const .nilslice) (.tmp 44)⟩,
  ⟨some 10, none, .mov (.tmp 45)⟩])
 k_law26_HistoryTwice_p5))
def k_law26_HistoryTwice_p7 : ACode := (.seq (.region [⟨some 34, none, .build [(.int .i64 0), (.int .i64 0), (.int .i64 0), (.str [])] [(0, 1, (.const (.int .i64 4))), (1, 1, (.const (.int .i64 3))), (2, 1, (.const (.int .i64 1))), (3, 1, (.const (.str [112, 40, 88, 41])))]⟩,
  ⟨some 8, none, .alloc [(.int .i64 0), (.int .i64 0), (.int .i64 0), (.str [])]⟩,
  ⟨none, none, .store 4 (.tmp 8) (.tmp 34)⟩])
 k_law26_HistoryTwice_p6)
def k_law26_HistoryTwice_p8 : ACode := (.seq (.region [⟨some 22, none, .load 4 true (.tmp 4)⟩,
  ⟨some 23, none, .load 4 true (.tmp 5)⟩,
  ⟨some 24, none, .buildSlice 2 [(.int .i64 0), (.int .i64 0), (.int .i64 0), (.str []), (.int .i64 0), (.int .i64 0), (.int .i64 0), (.str [])] [(0, 4, (.tmp 22)), (4, 4, (.tmp 23))]⟩,
  ⟨some 6, none, .mov (.tmp 24)⟩])
 (.seq (.seq (.region [⟨some 7, none, .mov (.const (.int .i64 0))⟩])
 (.block 0 (.loop k_law26_HistoryTwice_p3)))
 k_law26_HistoryTwice_p7))
def k_law26_HistoryTwice_p9 : ACode := (.seq (.region [⟨some 21, none, .build [(.int .i64 0), (.int .i64 0), (.int .i64 0), (.str [])] [(0, 1, (.const (.int .i64 3))), (1, 1, (.const (.int .i64 2))), (2, 1, (.const (.int .i64 1))), (3, 1, (.const (.str [112, 40, 97, 41])))]⟩,
  ⟨some 5, none, .alloc [(.int .i64 0), (.int .i64 0), (.int .i64 0), (.str [])]⟩,
  ⟨none, none, .store 4 (.tmp 5) (.tmp 21)⟩])
 k_law26_HistoryTwice_p8)
def k_law26_HistoryTwice_p10 : ACode := (.seq (.region [⟨some 20, none, .build [(.int .i64 0), (.int .i64 0), (.int .i64 0), (.str [])] [(0, 1, (.const (.int .i64 2))), (1, 1, (.const (.int .i64 1))), (2, 1, (.const (.int .i64 1))), (3, 1, (.const (.str [112, 40, 97, 41])))]⟩,
  ⟨some 4, none, .alloc [(.int .i64 0), (.int .i64 0), (.int .i64 0), (.str [])]⟩,
  ⟨none, none, .store 4 (.tmp 4) (.tmp 20)⟩])
 k_law26_HistoryTwice_p9)
def k_law26_HistoryTwice_p11 : ACode := (.seq (.seq (.region [⟨some 14, none, .mov (.tmp 0)⟩,
  ⟨some 15, none, .bin .lss (.tmp 14) (.const (.int .i64 1))⟩,
  ⟨some 16, none, .mov (.tmp 15)⟩,
  ⟨some 17, (some (16, false)), .mov (.tmp 0)⟩,
  ⟨some 18, (some (16, false)), .bin .gtr (.tmp 17) (.const (.int .i64 6))⟩,
  ⟨some 19, none, .pick (.tmp 16) (.const (.bool true)) (.tmp 18)⟩])
 (.cond (.tmp 19) k_law26_HistoryTwice_p1 .skip))
 k_law26_HistoryTwice_p10)
def k_law26_HistoryTwice : AFun := ⟨60, [.tmp 2], (.seq (.region [⟨some 2, none, .mov (.const (.bool false))⟩])
 (.seq (.region [⟨some 11, none, .call (.const (.func (.func n_law26_begun) [] [])) []⟩,
  ⟨some 3, none, .mov (.tmp 11)⟩])
 (.seq (.seq (.region [⟨some 12, none, .mov (.tmp 3)⟩,
  ⟨some 13, none, .un .not (.tmp 12)⟩])
 (.cond (.tmp 13) k_law26_HistoryTwice_p0 .skip))
 k_law26_HistoryTwice_p11)))⟩
theorem c_law26_HistoryTwice : (XTab.of Tryz.prog).code 5 = some k_law26_HistoryTwice := by kernel_rfl
def k_model_Make_p0 : ACode := (.seq (.region [⟨some 25, none, .mov (.tmp 6)⟩,
  ⟨some 4, none, .mov (.const .nilptr)⟩,
  ⟨some 5, none, .mov (.tmp 25)⟩])
 .ret)
def k_model_Make_p1 : ACode := (.region [⟨some 43, none, .mov (.tmp 10)⟩,
  ⟨some 44, none, .mov (.tmp 7)⟩,
  ⟨some 45, none, .nilCheck (.tmp 44)⟩,
  ⟨some 46, none, .fieldAddr 0 (.tmp 45)⟩,
  ⟨some 47, none, .load 1 false (.tmp 46)⟩,
  ⟨some 48, none, .load 3 true (.tmp 12)⟩,
  ⟨some 49, none, .call (.const (.func (.func n_value_Table_Id) [] [])) [(.tmp 47), (.tmp 48)]⟩,
  ⟨some 50, none, .buildSlice 1 [(.int .i64 0)] [(0, 1, (.tmp 49))]⟩,
  ⟨some 51, none, .append 1 8 (.tmp 43) (.tmp 50)⟩,
  ⟨some 10, none, .mov (.tmp 51)⟩])
def k_model_Make_p2 : ACode := (.seq (.block 3 (.seq (.region [⟨some 41, none, .indexAddr 3 (.tmp 37) (.tmp 39)⟩,
  ⟨some 42, none, .load 3 true (.tmp 41)⟩,
  ⟨some 12, none, .alloc [(.int .i64 0), (.str []), (.int .i64 0)]⟩,
  ⟨none, none, .store 3 (.tmp 12) (.tmp 42)⟩])
 k_model_Make_p1))
 (.region [⟨some 52, none, .bin .add (.tmp 39) (.const (.int .i64 1))⟩,
  ⟨some 39, none, .mov (.tmp 52)⟩]))
def k_model_Make_p3 : ACode := (.seq (.region [⟨some 40, none, .bin .lss (.tmp 39) (.tmp 38)⟩])
 (.seq (.cond (.tmp 40) .skip (.exit 2))
 k_model_Make_p2))
def k_model_Make_p4 : ACode := (.region [⟨some 53, none, .mov (.tmp 7)⟩,
  ⟨some 54, none, .fieldAddr 0 (.tmp 9)⟩,
  ⟨some 55, none, .load 1 false (.tmp 54)⟩,
  ⟨some 56, none, .mov (.tmp 10)⟩,
  ⟨some 57, none, .call (.const (.func (.func n_model_Model_add) [] [])) [(.tmp 53), (.tmp 55), (.tmp 56)]⟩])
def k_model_Make_p5 : ACode := (.seq (.region [⟨some 10, none, .mov (.const .nilslice)⟩])
 (.seq (.seq (.region [⟨some 36, none, .fieldAddr 1 (.tmp 9)⟩,
  ⟨some 37, none, .load 1 false (.tmp 36)⟩,
  ⟨some 38, none, .lenSl (.tmp 37)⟩,
  ⟨some 39, none, .mov (.const (.int .i64 0))⟩])
 (.block 2 (.loop k_model_Make_p3)))
 k_model_Make_p4))
def k_model_Make_p6 : ACode := (.seq (.block 1 (.seq (.region [⟨some 34, none, .indexAddr 2 (.tmp 30) (.tmp 32)⟩,
  ⟨some 35, none, .load 2 true (.tmp 34)⟩,
  ⟨some 9, none, .alloc [(.str []), .nilslice]⟩,
  ⟨none, none, .store 2 (.tmp 9) (.tmp 35)⟩])
 k_model_Make_p5))
 (.region [⟨some 58, none, .bin .add (.tmp 32) (.const (.int .i64 1))⟩,
  ⟨some 32, none, .mov (.tmp 58)⟩]))
def k_model_Make_p7 : ACode := (.seq (.region [⟨some 33, none, .bin .lss (.tmp 32) (.tmp 31)⟩])
 (.seq (.cond (.tmp 33) .skip (.exit 0))
 k_model_Make_p6))
def k_model_Make_p8 : ACode := (.region [⟨some 81, none, .mov (.tmp 17)⟩,
  ⟨some 82, none, .load 4 true (.tmp 19)⟩,
  ⟨some 83, none, .buildSlice 1 [(.int .i64 0), (.str []), .nilslice, .nilslice] [(0, 4, (.tmp 82))]⟩,
  ⟨some 84, none, .append 4 72 (.tmp 81) (.tmp 83)⟩,
  ⟨some 17, none, .mov (.tmp 84)⟩])
def k_model_Make_p9 : ACode := (.seq (.region [⟨some 76, none, .mov (.tmp 16)⟩,
  ⟨some 77, none, .fieldAddr 0 (.tmp 19)⟩,
  ⟨some 78, none, .fieldAddr 1 (.tmp 77)⟩,
  ⟨some 79, none, .load 1 false (.tmp 78)⟩,
  ⟨some 80, none, .call (.const (.func (.func n_slices_Contains_string_string) [] [])) [(.tmp 76), (.tmp 79)]⟩])
 (.cond (.tmp 80) k_model_Make_p8 .skip))
def k_model_Make_p10 : ACode := (.seq (.block 7 (.seq (.region [⟨some 74, none, .indexAddr 4 (.tmp 70) (.tmp 72)⟩,
  ⟨some 75, none, .load 4 true (.tmp 74)⟩,
  ⟨some 19, none, .alloc [(.int .i64 0), (.str []), .nilslice, .nilslice]⟩,
  ⟨none, none, .store 4 (.tmp 19) (.tmp 75)⟩])
 k_model_Make_p9))
 (.region [⟨some 85, none, .bin .add (.tmp 72) (.const (.int .i64 1))⟩,
  ⟨some 72, none, .mov (.tmp 85)⟩]))
def k_model_Make_p11 : ACode := (.seq (.region [⟨some 73, none, .bin .lss (.tmp 72) (.tmp 71)⟩])
 (.seq (.cond (.tmp 73) .skip (.exit 6))
 k_model_Make_p10))
def k_model_Make_p12 : ACode := (.seq (.region [⟨some 4, none, .mov (.const .nilptr)⟩,
  ⟨some 5, none, .mov (.const (.int .i64 2))⟩])
 .ret)
def k_model_Make_p13 : ACode := (.seq (.seq (.region [⟨some 70, none, .mov (.tmp 0)⟩,
  ⟨some 71, none, .lenSl (.tmp 70)⟩,
  ⟨some 72, none, .mov (.const (.int .i64 0))⟩])
 (.block 6 (.loop k_model_Make_p11)))
 (.seq (.region [⟨some 86, none, .mov (.tmp 7)⟩,
  ⟨some 87, none, .mov (.tmp 17)⟩,
  ⟨some 88, none, .call (.const (.func (.func n_model_Model_stratum) [] [])) [(.tmp 86), (.tmp 87)]⟩,
  ⟨some 89, none, .un .not (.tmp 88)⟩])
 (.cond (.tmp 89) k_model_Make_p12 .skip)))
def k_model_Make_p14 : ACode := (.seq (.block 5 (.seq (.region [⟨some 68, none, .indexAddr 1 (.tmp 64) (.tmp 66)⟩,
  ⟨some 69, none, .load 1 false (.tmp 68)⟩,
  ⟨some 16, none, .mov (.tmp 69)⟩])
 (.seq (.region [⟨some 17, none, .mov (.const .nilslice)⟩])
 k_model_Make_p13)))
 (.region [⟨some 90, none, .bin .add (.tmp 66) (.const (.int .i64 1))⟩,
  ⟨some 66, none, .mov (.tmp 90)⟩]))
def k_model_Make_p15 : ACode := (.seq (.region [⟨some 67, none, .bin .lss (.tmp 66) (.tmp 65)⟩])
 (.seq (.cond (.tmp 67) .skip (.exit 4))
 k_model_Make_p14))
def k_model_Make_p16 : ACode := (.seq (.seq (.region [⟨some 64, none, .mov (.tmp 13)⟩,
  ⟨some 65, none, .lenSl (.tmp 64)⟩,
  ⟨some 66, none, .mov (.const (.int .i64 0))⟩])
 (.block 4 (.loop k_model_Make_p15)))
 (.seq (.region [⟨some 91, none, .mov (.tmp 7)⟩,
  ⟨some 4, none, .mov (.tmp 91)⟩,
  ⟨some 5, none, .mov (.const (.int .i64 0))⟩])
 .ret))
def k_model_Make_p17 : ACode := (.seq (.region [⟨some 60, none, .mov (.tmp 0)⟩,
  ⟨some 61, none, .call (.const (.func (.func n_strata_Order) [] [])) [(.tmp 60)]⟩,
  ⟨some 59, none, .mov (.tmp 61)⟩,
  ⟨some 62, none, .extract 0 (.tmp 59)⟩,
  ⟨some 63, none, .extract 1 (.tmp 59)⟩,
  ⟨some 13, none, .mov (.tmp 62)⟩,
  ⟨some 14, none, .mov (.tmp 63)⟩])
 k_model_Make_p16)
def k_model_Make_p18 : ACode := (.seq (.region [⟨some 26, none, .call (.const (.func (.func n_value_New) [] [])) []⟩,
  ⟨some 27, none, .mkMap⟩,
  ⟨some 28, none, .build [.nilptr, .nilmap, (.int .i64 0)] [(0, 1, (.tmp 26)), (1, 1, (.tmp 27))]⟩,
  ⟨some 29, none, .box (.tmp 28)⟩,
  ⟨some 7, none, .mov (.tmp 29)⟩])
 (.seq (.seq (.region [⟨some 30, none, .mov (.tmp 1)⟩,
  ⟨some 31, none, .lenSl (.tmp 30)⟩,
  ⟨some 32, none, .mov (.const (.int .i64 0))⟩])
 (.block 0 (.loop k_model_Make_p7)))
 k_model_Make_p17))
def k_model_Make_p19 : ACode := (.seq (.seq (.region [⟨some 20, none, .mov (.tmp 0)⟩,
  ⟨some 21, none, .mov (.tmp 1)⟩,
  ⟨some 22, none, .call (.const (.func (.func n_model_ask) [] [])) [(.tmp 20), (.tmp 21)]⟩,
  ⟨some 6, none, .mov (.tmp 22)⟩])
 (.seq (.region [⟨some 23, none, .mov (.tmp 6)⟩,
  ⟨some 24, none, .bin .neq (.tmp 23) (.const (.int .i64 0))⟩])
 (.cond (.tmp 24) k_model_Make_p0 .skip)))
 k_model_Make_p18)
def k_model_Make : AFun := ⟨92, [.tmp 4, .tmp 5], (.seq (.region [⟨some 4, none, .mov (.const .nilptr)⟩,
  ⟨some 5, none, .mov (.const (.int .i64 0))⟩])
 k_model_Make_p19)⟩
theorem c_model_Make : (XTab.of Tryz.prog).code 8 = some k_model_Make := by kernel_rfl
def k_model_Model_Facts_p0 : ACode := (.drawn [⟨⟨some 28, none, .fieldAddr 1 (.tmp 8)⟩, false, [], []⟩,
  ⟨⟨some 29, none, .load 1 false (.tmp 28)⟩, false, [0], []⟩,
  ⟨⟨some 30, none, .mov (.tmp 0)⟩, false, [], []⟩,
  ⟨⟨some 31, none, .nilCheck (.tmp 30)⟩, false, [2], []⟩,
  ⟨⟨some 32, none, .fieldAddr 0 (.tmp 31)⟩, false, [3, 2], []⟩,
  ⟨⟨some 33, none, .load 1 false (.tmp 32)⟩, false, [4, 3, 2], []⟩,
  ⟨⟨some 34, none, .mov (.tmp 10)⟩, false, [], []⟩,
  ⟨⟨some 35, none, .call (.const (.func (.func n_value_Table_Term) [] [])) [(.tmp 33), (.tmp 34)]⟩, true, [6, 5, 4, 3, 2], []⟩,
  ⟨⟨some 36, none, .buildSlice 1 [(.int .i64 0), (.str []), (.int .i64 0)] [(0, 3, (.tmp 35))]⟩, true, [7, 6, 5, 4, 3, 2], []⟩,
  ⟨⟨some 37, none, .append 3 32 (.tmp 29) (.tmp 36)⟩, true, [8, 7, 6, 5, 4, 3, 2, 1, 0], []⟩,
  ⟨⟨some 38, none, .fieldAddr 1 (.tmp 8)⟩, false, [9, 8, 7, 6, 5, 4, 3, 2, 1, 0], []⟩,
  ⟨⟨none, none, .store 1 (.tmp 38) (.tmp 37)⟩, true, [10, 9, 8, 7, 6, 5, 4, 3, 2, 1, 0], []⟩])
def k_model_Model_Facts_p1 : ACode := (.seq (.block 3 (.seq (.region [⟨some 26, none, .indexAddr 1 (.tmp 22) (.tmp 24)⟩,
  ⟨some 27, none, .load 1 false (.tmp 26)⟩,
  ⟨some 10, none, .mov (.tmp 27)⟩])
 k_model_Model_Facts_p0))
 (.region [⟨some 39, none, .bin .add (.tmp 24) (.const (.int .i64 1))⟩,
  ⟨some 24, none, .mov (.tmp 39)⟩]))
def k_model_Model_Facts_p2 : ACode := (.seq (.region [⟨some 25, none, .bin .lss (.tmp 24) (.tmp 23)⟩])
 (.seq (.cond (.tmp 25) .skip (.exit 2))
 k_model_Model_Facts_p1))
def k_model_Model_Facts_p3 : ACode := (.seq (.seq (.region [⟨some 22, none, .mov (.tmp 7)⟩,
  ⟨some 23, none, .lenSl (.tmp 22)⟩,
  ⟨some 24, none, .mov (.const (.int .i64 0))⟩])
 (.block 2 (.loop k_model_Model_Facts_p2)))
 (.region [⟨some 40, none, .mov (.tmp 5)⟩,
  ⟨some 41, none, .load 2 true (.tmp 8)⟩,
  ⟨some 42, none, .buildSlice 1 [(.str []), .nilslice] [(0, 2, (.tmp 41))]⟩,
  ⟨some 43, none, .append 2 40 (.tmp 40) (.tmp 42)⟩,
  ⟨some 5, none, .mov (.tmp 43)⟩]))
def k_model_Model_Facts_p4 : ACode := (.seq (.region [⟨some 18, none, .indexAddr 1 (.tmp 14) (.tmp 16)⟩,
  ⟨some 19, none, .load 1 false (.tmp 18)⟩,
  ⟨some 7, none, .mov (.tmp 19)⟩])
 (.seq (.region [⟨some 20, none, .mov (.tmp 1)⟩,
  ⟨some 21, none, .build [(.str []), .nilslice] [(0, 1, (.tmp 20))]⟩,
  ⟨some 8, none, .alloc [(.str []), .nilslice]⟩,
  ⟨none, none, .store 2 (.tmp 8) (.tmp 21)⟩])
 k_model_Model_Facts_p3))
def k_model_Model_Facts_p5 : ACode := (.seq (.region [⟨some 17, none, .bin .lss (.tmp 16) (.tmp 15)⟩])
 (.seq (.cond (.tmp 17) .skip (.exit 0))
 (.seq (.block 1 k_model_Model_Facts_p4)
 (.region [⟨some 44, none, .bin .add (.tmp 16) (.const (.int .i64 1))⟩,
  ⟨some 16, none, .mov (.tmp 44)⟩]))))
def k_model_Model_Facts_p6 : ACode := (.seq (.seq (.region [⟨some 11, none, .mov (.tmp 0)⟩,
  ⟨some 12, none, .mov (.tmp 1)⟩,
  ⟨some 13, none, .call (.const (.func (.func n_model_Model_Set) [] [])) [(.tmp 11), (.tmp 12)]⟩,
  ⟨some 14, none, .call (.const (.func (.func n_relation_Set_All) [] [])) [(.tmp 13)]⟩,
  ⟨some 15, none, .lenSl (.tmp 14)⟩,
  ⟨some 16, none, .mov (.const (.int .i64 0))⟩])
 (.block 0 (.loop k_model_Model_Facts_p5)))
 (.seq (.region [⟨some 45, none, .mov (.tmp 5)⟩,
  ⟨some 46, none, .call (.const (.func (.func n_slices_SortFunc_api_Fact_api_Fact) [] [])) [(.tmp 45), (.const (.func (.func n_model_Model_Facts_1) [] []))]⟩])
 (.seq (.region [⟨some 47, none, .mov (.tmp 5)⟩,
  ⟨some 4, none, .mov (.tmp 47)⟩])
 .ret)))
def k_model_Model_Facts : AFun := ⟨48, [.tmp 4], (.seq (.region [⟨some 4, none, .mov (.const .nilslice)⟩])
 (.seq (.region [⟨some 5, none, .mov (.const .nilslice)⟩])
 k_model_Model_Facts_p6))⟩
theorem c_model_Model_Facts : (XTab.of Tryz.prog).code 9 = some k_model_Model_Facts := by kernel_rfl
def k_law26_begun_p0 : ACode := (.seq (.region [⟨some 0, none, .mov (.const (.bool false))⟩])
 .ret)
def k_law26_begun_p1 : ACode := (.seq (.drawn [⟨⟨some 13, none, .mov (.tmp 1)⟩, false, [], []⟩,
  ⟨⟨some 14, none, .call (.const (.func (.func n_history_Book_Ops) [] [])) [(.tmp 13)]⟩, true, [0], []⟩,
  ⟨⟨some 15, none, .lenSl (.tmp 14)⟩, false, [1, 0], []⟩,
  ⟨⟨some 16, none, .bin .eql (.tmp 15) (.const (.int .i64 1))⟩, false, [2, 1, 0], []⟩,
  ⟨⟨some 17, none, .mov (.tmp 16)⟩, false, [3, 2, 1, 0], []⟩,
  ⟨⟨some 18, (some (17, true)), .mov (.tmp 1)⟩, false, [4, 3, 2, 1, 0], []⟩,
  ⟨⟨some 19, (some (17, true)), .call (.const (.func (.func n_history_Book_Ops) [] [])) [(.tmp 18)]⟩, true, [5, 4, 3, 2, 1, 0], []⟩,
  ⟨⟨some 20, (some (17, true)), .indexAddr 9 (.tmp 19) (.const (.int .i64 0))⟩, false, [6, 5, 4, 3, 2, 1, 0], []⟩,
  ⟨⟨some 21, (some (17, true)), .fieldAddr 5 (.tmp 20)⟩, false, [7, 6, 5, 4, 3, 2, 1, 0], []⟩,
  ⟨⟨some 22, (some (17, true)), .load 1 false (.tmp 21)⟩, false, [8, 7, 6, 5, 4, 3, 2, 1, 0], []⟩,
  ⟨⟨some 23, (some (17, true)), .bin .eql (.tmp 22) (.const (.int .i64 3))⟩, false, [9, 8, 7, 6, 5, 4, 3, 2, 1, 0], []⟩,
  ⟨⟨some 24, none, .pick (.tmp 17) (.tmp 23) (.const (.bool false))⟩, false, [10, 9, 8, 7, 6, 5, 4, 3, 2, 1, 0], []⟩,
  ⟨⟨some 25, none, .mov (.tmp 24)⟩, false, [11, 10, 9, 8, 7, 6, 5, 4, 3, 2, 1, 0], []⟩,
  ⟨⟨some 26, (some (25, true)), .load 4 true (.tmp 2)⟩, false, [12, 11, 10, 9, 8, 7, 6, 5, 4, 3, 2, 1, 0], []⟩,
  ⟨⟨some 27, (some (25, true)), .buildSlice 1 [(.int .i64 0), (.int .i64 0), (.int .i64 0), (.str [])] [(0, 4, (.tmp 26))]⟩, true, [13, 12, 11, 10, 9, 8, 7, 6, 5, 4, 3, 2, 1, 0], []⟩,
  ⟨⟨some 28, (some (25, true)), .mov (.tmp 1)⟩, false, [12, 11, 10, 9, 8, 7, 6, 5, 4, 3, 2, 1, 0], []⟩,
  ⟨⟨some 29, (some (25, true)), .call (.const (.func (.func n_history_Book_Ops) [] [])) [(.tmp 28)]⟩, true, [15, 12, 11, 10, 9, 8, 7, 6, 5, 4, 3, 2, 1, 0], []⟩,
  ⟨⟨some 30, (some (25, true)), .call (.const (.func (.func n_history_Judge) [] [])) [(.tmp 27), (.tmp 29)]⟩, true, [16, 15, 14, 13, 12, 11, 10, 9, 8, 7, 6, 5, 4, 3, 2, 1, 0], []⟩,
  ⟨⟨some 31, none, .pick (.tmp 25) (.tmp 30) (.const (.bool false))⟩, false, [17, 16, 15, 14, 13, 12, 11, 10, 9, 8, 7, 6, 5, 4, 3, 2, 1, 0], []⟩,
  ⟨⟨some 32, none, .mov (.tmp 31)⟩, false, [18, 17, 16, 15, 14, 13, 12, 11, 10, 9, 8, 7, 6, 5, 4, 3, 2, 1, 0], []⟩,
  ⟨⟨some 33, (some (32, true)), .mov (.tmp 1)⟩, false, [19, 18, 17, 16, 15, 14, 13, 12, 11, 10, 9, 8, 7, 6, 5, 4, 3, 2, 1, 0], []⟩,
  ⟨⟨some 34, (some (32, true)), .call (.const (.func (.func n_history_Book_Ops) [] [])) [(.tmp 33)]⟩, true, [20, 19, 18, 17, 16, 15, 14, 13, 12, 11, 10, 9, 8, 7, 6, 5, 4, 3, 2, 1, 0], []⟩,
  ⟨⟨some 35, (some (32, true)), .call (.const (.func (.func n_history_Judge) [] [])) [(.const .nilslice), (.tmp 34)]⟩, true, [21, 20, 19, 18, 17, 16, 15, 14, 13, 12, 11, 10, 9, 8, 7, 6, 5, 4, 3, 2, 1, 0], []⟩,
  ⟨⟨some 36, (some (32, true)), .un .not (.tmp 35)⟩, false, [22, 21, 20, 19, 18, 17, 16, 15, 14, 13, 12, 11, 10, 9, 8, 7, 6, 5, 4, 3, 2, 1, 0], []⟩,
  ⟨⟨some 37, none, .pick (.tmp 32) (.tmp 36) (.const (.bool false))⟩, false, [23, 22, 21, 20, 19, 18, 17, 16, 15, 14, 13, 12, 11, 10, 9, 8, 7, 6, 5, 4, 3, 2, 1, 0], []⟩,
  ⟨⟨some 38, none, .mov (.tmp 37)⟩, false, [24, 23, 22, 21, 20, 19, 18, 17, 16, 15, 14, 13, 12, 11, 10, 9, 8, 7, 6, 5, 4, 3, 2, 1, 0], []⟩,
  ⟨⟨some 39, (some (38, true)), .mov (.tmp 1)⟩, false, [25, 24, 23, 22, 21, 20, 19, 18, 17, 16, 15, 14, 13, 12, 11, 10, 9, 8, 7, 6, 5, 4, 3, 2, 1, 0], []⟩,
  ⟨⟨some 40, (some (38, true)), .call (.const (.func (.func n_history_Book_Ops) [] [])) [(.tmp 39)]⟩, true, [26, 25, 24, 23, 22, 21, 20, 19, 18, 17, 16, 15, 14, 13, 12, 11, 10, 9, 8, 7, 6, 5, 4, 3, 2, 1, 0], []⟩,
  ⟨⟨some 41, (some (38, true)), .call (.const (.func (.func n_history_Some) [] [])) [(.tmp 40)]⟩, true, [27, 26, 25, 24, 23, 22, 21, 20, 19, 18, 17, 16, 15, 14, 13, 12, 11, 10, 9, 8, 7, 6, 5, 4, 3, 2, 1, 0], []⟩,
  ⟨⟨some 42, none, .pick (.tmp 38) (.tmp 41) (.const (.bool false))⟩, false, [28, 27, 26, 25, 24, 23, 22, 21, 20, 19, 18, 17, 16, 15, 14, 13, 12, 11, 10, 9, 8, 7, 6, 5, 4, 3, 2, 1, 0], []⟩,
  ⟨⟨some 0, none, .mov (.tmp 42)⟩, false, [29, 28, 27, 26, 25, 24, 23, 22, 21, 20, 19, 18, 17, 16, 15, 14, 13, 12, 11, 10, 9, 8, 7, 6, 5, 4, 3, 2, 1, 0], []⟩])
 .ret)
def k_law26_begun_p2 : ACode := (.seq (.region [⟨some 10, none, .mov (.tmp 1)⟩,
  ⟨some 11, none, .build [(.int .i64 0), (.bool false), .nilslice] [(1, 1, (.const (.bool true)))]⟩,
  ⟨some 12, none, .call (.const (.func (.func n_history_Book_Answered) [] [])) [(.tmp 10), (.const (.int .i64 1)), (.const (.int .i64 1)), (.tmp 11), (.const (.int .i64 3))]⟩])
 k_law26_begun_p1)
def k_law26_begun_p3 : ACode := (.seq (.region [⟨some 6, none, .build [(.int .i64 0), (.int .i64 0), (.int .i64 0), (.str [])] [(0, 1, (.const (.int .i64 2))), (1, 1, (.const (.int .i64 1))), (2, 1, (.const (.int .i64 1))), (3, 1, (.const (.str [112])))]⟩,
  ⟨some 2, none, .alloc [(.int .i64 0), (.int .i64 0), (.int .i64 0), (.str [])]⟩,
  ⟨none, none, .store 4 (.tmp 2) (.tmp 6)⟩])
 (.seq (.region [⟨some 7, none, .mov (.tmp 1)⟩,
  ⟨some 8, none, .load 4 true (.tmp 2)⟩,
  ⟨some 9, none, .call (.const (.func (.func n_history_Book_Asked) [] [])) [(.tmp 7), (.tmp 8), (.const (.int .i64 1))]⟩])
 k_law26_begun_p2))
def k_law26_begun_p4 : ACode := (.seq (.region [⟨some 3, none, .call (.const (.func (.func n_history_New) [] [])) []⟩,
  ⟨some 1, none, .mov (.tmp 3)⟩])
 (.seq (.seq (.region [⟨some 4, none, .mov (.tmp 1)⟩,
  ⟨some 5, none, .eqv false .ptr (.tmp 4) (.const .nilptr)⟩])
 (.cond (.tmp 5) k_law26_begun_p0 .skip))
 k_law26_begun_p3))
def k_law26_begun : AFun := ⟨43, [.tmp 0], (.seq (.region [⟨some 0, none, .mov (.const (.bool false))⟩])
 k_law26_begun_p4)⟩
theorem c_law26_begun : (XTab.of Tryz.prog).code 10 = some k_law26_begun := by kernel_rfl
def k_history_Judge_p0 : ACode := (.seq (.region [⟨some 4, none, .mov (.const (.bool false))⟩])
 .ret)
def k_history_Judge_p1 : ACode := (.seq (.region [⟨some 41, none, .mov (.tmp 39)⟩,
  ⟨some 8, none, .mov (.tmp 41)⟩])
 (.region [⟨some 42, none, .mov (.tmp 7)⟩,
  ⟨some 43, none, .mov (.tmp 8)⟩,
  ⟨some 44, none, .mov (.tmp 8)⟩,
  ⟨some 45, none, .indexAddr 1 (.tmp 42) (.tmp 43)⟩,
  ⟨none, none, .store 1 (.tmp 45) (.tmp 44)⟩]))
def k_history_Judge_p2 : ACode := (.seq (.region [⟨some 40, none, .bin .lss (.tmp 39) (.tmp 38)⟩])
 (.seq (.cond (.tmp 40) .skip (.exit 0))
 (.seq (.block 1 k_history_Judge_p1)
 (.region [⟨some 46, none, .bin .add (.tmp 39) (.const (.int .i64 1))⟩,
  ⟨some 39, none, .mov (.tmp 46)⟩]))))
def k_history_Judge_p3 : ACode := (.region [⟨some 78, none, .mov (.tmp 12)⟩,
  ⟨some 79, none, .load 1 false (.tmp 5)⟩,
  ⟨some 80, none, .nilCheck (.tmp 79)⟩,
  ⟨some 81, none, .fieldAddr 2 (.tmp 80)⟩,
  ⟨some 82, none, .load 1 false (.tmp 81)⟩,
  ⟨some 83, none, .mov (.tmp 14)⟩,
  ⟨some 84, none, .indexAddr 1 (.tmp 82) (.tmp 83)⟩,
  ⟨some 85, none, .load 1 false (.tmp 84)⟩,
  ⟨some 86, none, .mx [(.tmp 78), (.tmp 85)]⟩,
  ⟨some 12, none, .mov (.tmp 86)⟩])
def k_history_Judge_p4 : ACode := (.region [⟨some 96, none, .mov (.tmp 13)⟩,
  ⟨some 97, none, .load 1 false (.tmp 5)⟩,
  ⟨some 98, none, .nilCheck (.tmp 97)⟩,
  ⟨some 99, none, .fieldAddr 2 (.tmp 98)⟩,
  ⟨some 100, none, .load 1 false (.tmp 99)⟩,
  ⟨some 101, none, .mov (.tmp 14)⟩,
  ⟨some 102, none, .indexAddr 1 (.tmp 100) (.tmp 101)⟩,
  ⟨some 103, none, .load 1 false (.tmp 102)⟩,
  ⟨some 104, none, .bin .sub (.tmp 103) (.const (.int .i64 1))⟩,
  ⟨some 105, none, .mn [(.tmp 96), (.tmp 104)]⟩,
  ⟨some 13, none, .mov (.tmp 105)⟩])
def k_history_Judge_p5 : ACode := (.seq (.region [⟨some 87, none, .load 1 false (.tmp 5)⟩,
  ⟨some 88, none, .nilCheck (.tmp 87)⟩,
  ⟨some 89, none, .fieldAddr 1 (.tmp 88)⟩,
  ⟨some 90, none, .load 1 false (.tmp 89)⟩,
  ⟨some 91, none, .mov (.tmp 11)⟩,
  ⟨some 92, none, .indexAddr 9 (.tmp 90) (.tmp 91)⟩,
  ⟨some 93, none, .load 9 true (.tmp 92)⟩,
  ⟨some 94, none, .load 9 true (.tmp 15)⟩,
  ⟨some 95, none, .call (.const (.func (.func n_history_ahead) [] [])) [(.tmp 93), (.tmp 94)]⟩])
 (.cond (.tmp 95) k_history_Judge_p4 .skip))
def k_history_Judge_p6 : ACode := (.seq (.seq (.region [⟨some 69, none, .load 9 true (.tmp 15)⟩,
  ⟨some 70, none, .load 1 false (.tmp 5)⟩,
  ⟨some 71, none, .nilCheck (.tmp 70)⟩,
  ⟨some 72, none, .fieldAddr 1 (.tmp 71)⟩,
  ⟨some 73, none, .load 1 false (.tmp 72)⟩,
  ⟨some 74, none, .mov (.tmp 11)⟩,
  ⟨some 75, none, .indexAddr 9 (.tmp 73) (.tmp 74)⟩,
  ⟨some 76, none, .load 9 true (.tmp 75)⟩,
  ⟨some 77, none, .call (.const (.func (.func n_history_ahead) [] [])) [(.tmp 69), (.tmp 76)]⟩])
 (.cond (.tmp 77) k_history_Judge_p3 .skip))
 k_history_Judge_p5)
def k_history_Judge_p7 : ACode := (.seq (.region [⟨some 66, none, .mov (.tmp 64)⟩,
  ⟨some 67, none, .indexAddr 9 (.tmp 62) (.tmp 64)⟩,
  ⟨some 68, none, .load 9 true (.tmp 67)⟩,
  ⟨some 15, none, .alloc [(.int .i64 0), (.int .i64 0), (.int .i64 0), (.str []), (.int .i64 0), (.int .i64 0), (.int .i64 0), (.bool false), .nilslice]⟩,
  ⟨some 14, none, .mov (.tmp 66)⟩,
  ⟨none, none, .store 9 (.tmp 15) (.tmp 68)⟩])
 k_history_Judge_p6)
def k_history_Judge_p8 : ACode := (.seq (.region [⟨some 65, none, .bin .lss (.tmp 64) (.tmp 63)⟩])
 (.seq (.cond (.tmp 65) .skip (.exit 4))
 (.seq (.block 5 k_history_Judge_p7)
 (.region [⟨some 106, none, .bin .add (.tmp 64) (.const (.int .i64 1))⟩,
  ⟨some 64, none, .mov (.tmp 106)⟩]))))
def k_history_Judge_p9 : ACode := (.region [⟨some 129, none, .mov (.tmp 12)⟩,
  ⟨some 130, none, .mov (.tmp 17)⟩,
  ⟨some 131, none, .mx [(.tmp 129), (.tmp 130)]⟩,
  ⟨some 12, none, .mov (.tmp 131)⟩])
def k_history_Judge_p10 : ACode := (.seq (.region [⟨some 114, none, .load 1 false (.tmp 5)⟩,
  ⟨some 115, none, .nilCheck (.tmp 114)⟩,
  ⟨some 116, none, .fieldAddr 1 (.tmp 115)⟩,
  ⟨some 117, none, .load 1 false (.tmp 116)⟩,
  ⟨some 118, none, .mov (.tmp 16)⟩,
  ⟨some 119, none, .indexAddr 9 (.tmp 117) (.tmp 118)⟩,
  ⟨some 120, none, .load 9 true (.tmp 119)⟩,
  ⟨some 121, none, .load 1 false (.tmp 5)⟩,
  ⟨some 122, none, .nilCheck (.tmp 121)⟩,
  ⟨some 123, none, .fieldAddr 1 (.tmp 122)⟩,
  ⟨some 124, none, .load 1 false (.tmp 123)⟩,
  ⟨some 125, none, .mov (.tmp 11)⟩,
  ⟨some 126, none, .indexAddr 9 (.tmp 124) (.tmp 125)⟩,
  ⟨some 127, none, .load 9 true (.tmp 126)⟩,
  ⟨some 128, none, .call (.const (.func (.func n_history_ahead) [] [])) [(.tmp 120), (.tmp 127)]⟩])
 (.cond (.tmp 128) k_history_Judge_p9 .skip))
def k_history_Judge_p11 : ACode := (.seq (.cond (.tmp 110) .skip (.exit 6))
 (.block 7 (.seq (.region [⟨some 111, none, .entry (.tmp 108)⟩,
  ⟨some 112, none, .extract 0 (.tmp 111)⟩,
  ⟨some 113, none, .extract 1 (.tmp 111)⟩,
  ⟨some 16, none, .mov (.tmp 112)⟩,
  ⟨some 17, none, .mov (.tmp 113)⟩])
 k_history_Judge_p10)))
def k_history_Judge_p12 : ACode := (.seq (.region [⟨some 109, none, .nextMap (.tmp 108)⟩,
  ⟨some 110, none, .extract 0 (.tmp 109)⟩])
 k_history_Judge_p11)
def k_history_Judge_p13 : ACode := (.seq (.seq (.region [⟨some 132, none, .mov (.tmp 12)⟩,
  ⟨some 133, none, .mov (.tmp 13)⟩,
  ⟨some 134, none, .bin .leq (.tmp 132) (.tmp 133)⟩,
  ⟨some 135, none, .mov (.tmp 134)⟩,
  ⟨some 136, (some (135, true)), .load 1 false (.tmp 5)⟩,
  ⟨some 137, (some (135, true)), .nilCheck (.tmp 136)⟩,
  ⟨some 138, (some (135, true)), .fieldAddr 3 (.tmp 137)⟩,
  ⟨some 139, (some (135, true)), .load 1 false (.tmp 138)⟩,
  ⟨some 140, (some (135, true)), .mov (.tmp 11)⟩,
  ⟨some 141, (some (135, true)), .indexAddr 1 (.tmp 139) (.tmp 140)⟩,
  ⟨some 142, (some (135, true)), .load 1 false (.tmp 141)⟩,
  ⟨some 143, (some (135, true)), .mov (.tmp 12)⟩,
  ⟨some 144, (some (135, true)), .lookup (.scalar .int) (.int .i64 0) false (.tmp 142) (.tmp 143)⟩,
  ⟨some 145, (some (135, true)), .bin .eql (.tmp 144) (.const (.int .i64 0))⟩,
  ⟨some 146, none, .pick (.tmp 135) (.tmp 145) (.const (.bool false))⟩])
 (.cond (.tmp 146) .skip (.exit 8)))
 (.block 9 (.region [⟨some 147, none, .mov (.tmp 12)⟩,
  ⟨some 148, none, .bin .add (.tmp 147) (.const (.int .i64 1))⟩,
  ⟨some 12, none, .mov (.tmp 148)⟩])))
def k_history_Judge_p14 : ACode := (.seq (.region [⟨some 4, none, .mov (.const (.bool false))⟩])
 .ret)
def k_history_Judge_p15 : ACode := (.seq (.seq (.region [⟨some 149, none, .mov (.tmp 12)⟩,
  ⟨some 150, none, .mov (.tmp 13)⟩,
  ⟨some 151, none, .bin .gtr (.tmp 149) (.tmp 150)⟩])
 (.cond (.tmp 151) k_history_Judge_p14 .skip))
 (.region [⟨some 152, none, .mov (.tmp 9)⟩,
  ⟨some 153, none, .mov (.tmp 11)⟩,
  ⟨some 154, none, .mov (.tmp 12)⟩,
  ⟨none, none, .mapUpdate (.scalar .int) (.tmp 152) (.tmp 153) (.tmp 154)⟩]))
def k_history_Judge_p16 : ACode := (.seq (.seq (.region [⟨some 59, none, .load 1 false (.tmp 5)⟩,
  ⟨some 60, none, .nilCheck (.tmp 59)⟩,
  ⟨some 61, none, .fieldAddr 0 (.tmp 60)⟩,
  ⟨some 62, none, .load 1 false (.tmp 61)⟩,
  ⟨some 63, none, .lenSl (.tmp 62)⟩,
  ⟨some 64, none, .mov (.const (.int .i64 0))⟩])
 (.block 4 (.loop k_history_Judge_p8)))
 (.seq (.seq (.region [⟨some 107, none, .mov (.tmp 9)⟩,
  ⟨some 108, none, .rangeMap (.tmp 107)⟩])
 (.block 6 (.loop k_history_Judge_p12)))
 (.seq (.block 8 (.loop k_history_Judge_p13))
 k_history_Judge_p15)))
def k_history_Judge_p17 : ACode := (.seq (.region [⟨some 55, none, .indexAddr 1 (.tmp 51) (.tmp 53)⟩,
  ⟨some 56, none, .load 1 false (.tmp 55)⟩,
  ⟨some 11, none, .mov (.tmp 56)⟩])
 (.seq (.region [⟨some 57, none, .mov (.tmp 0)⟩,
  ⟨some 58, none, .lenSl (.tmp 57)⟩,
  ⟨some 12, none, .mov (.const (.int .i64 0))⟩,
  ⟨some 13, none, .mov (.tmp 58)⟩])
 k_history_Judge_p16))
def k_history_Judge_p18 : ACode := (.seq (.region [⟨some 54, none, .bin .lss (.tmp 53) (.tmp 52)⟩])
 (.seq (.cond (.tmp 54) .skip (.exit 2))
 (.seq (.block 3 k_history_Judge_p17)
 (.region [⟨some 155, none, .bin .add (.tmp 53) (.const (.int .i64 1))⟩,
  ⟨some 53, none, .mov (.tmp 155)⟩]))))
def k_history_Judge_p19 : ACode := (.seq (.region [⟨some 50, none, .mkMap⟩,
  ⟨some 9, none, .mov (.tmp 50)⟩])
 (.seq (.seq (.region [⟨some 51, none, .mov (.tmp 7)⟩,
  ⟨some 52, none, .lenSl (.tmp 51)⟩,
  ⟨some 53, none, .mov (.const (.int .i64 0))⟩])
 (.block 2 (.loop k_history_Judge_p18)))
 (.seq (.region [⟨some 4, none, .mov (.const (.bool true))⟩])
 .ret)))
def k_history_Judge_p20 : ACode := (.seq (.seq (.region [⟨some 37, none, .mov (.tmp 7)⟩,
  ⟨some 38, none, .lenSl (.tmp 37)⟩,
  ⟨some 39, none, .mov (.const (.int .i64 0))⟩])
 (.block 0 (.loop k_history_Judge_p2)))
 (.seq (.region [⟨some 47, none, .mov (.tmp 7)⟩,
  ⟨some 48, none, .mkFunc (.func n_history_Judge_1) [] [(.tmp 5)]⟩,
  ⟨some 49, none, .call (.const (.func (.func n_slices_SortStableFunc_int_int) [] [])) [(.tmp 47), (.tmp 48)]⟩])
 k_history_Judge_p19))
def k_history_Judge_p21 : ACode := (.seq (.region [⟨some 31, none, .load 1 false (.tmp 5)⟩,
  ⟨some 32, none, .nilCheck (.tmp 31)⟩,
  ⟨some 33, none, .fieldAddr 1 (.tmp 32)⟩,
  ⟨some 34, none, .load 1 false (.tmp 33)⟩,
  ⟨some 35, none, .lenSl (.tmp 34)⟩,
  ⟨some 36, none, .mkSlice 1 8 [(.int .i64 0)] (.tmp 35) (.tmp 35)⟩,
  ⟨some 7, none, .mov (.tmp 36)⟩])
 k_history_Judge_p20)
def k_history_Judge_p22 : ACode := (.seq (.seq (.region [⟨some 24, none, .mov (.tmp 6)⟩,
  ⟨some 25, none, .un .not (.tmp 24)⟩,
  ⟨some 26, none, .mov (.tmp 25)⟩,
  ⟨some 27, (some (26, false)), .load 1 false (.tmp 5)⟩,
  ⟨some 28, (some (26, false)), .call (.const (.func (.func n_history_judge_ordered) [] [])) [(.tmp 27)]⟩,
  ⟨some 29, (some (26, false)), .un .not (.tmp 28)⟩,
  ⟨some 30, none, .pick (.tmp 26) (.const (.bool true)) (.tmp 29)⟩])
 (.cond (.tmp 30) k_history_Judge_p0 .skip))
 k_history_Judge_p21)
def k_history_Judge_p23 : ACode := (.seq (.region [⟨some 19, none, .mov (.tmp 0)⟩,
  ⟨some 20, none, .mov (.tmp 1)⟩,
  ⟨some 21, none, .call (.const (.func (.func n_history_play) [] [])) [(.tmp 19), (.tmp 20)]⟩,
  ⟨some 18, none, .mov (.tmp 21)⟩,
  ⟨some 22, none, .extract 0 (.tmp 18)⟩,
  ⟨some 23, none, .extract 1 (.tmp 18)⟩,
  ⟨some 5, none, .alloc [.nilptr]⟩,
  ⟨none, none, .store 1 (.tmp 5) (.tmp 22)⟩,
  ⟨some 6, none, .mov (.tmp 23)⟩])
 k_history_Judge_p22)
def k_history_Judge : AFun := ⟨156, [.tmp 4], (.seq (.region [⟨some 4, none, .mov (.const (.bool false))⟩])
 k_history_Judge_p23)⟩
theorem c_history_Judge : (XTab.of Tryz.prog).code 11 = some k_history_Judge := by kernel_rfl
def k_history_Some_p0 : ACode := (.seq (.region [⟨some 3, none, .mov (.tmp 0)⟩,
  ⟨some 4, none, .lenSl (.tmp 3)⟩,
  ⟨some 5, none, .bin .leq (.tmp 4) (.const (.int .i64 6))⟩,
  ⟨some 6, none, .mov (.tmp 5)⟩,
  ⟨some 7, (some (6, true)), .mov (.tmp 0)⟩,
  ⟨some 8, (some (6, true)), .call (.const (.func (.func n_history_some) [] [])) [(.const .nilslice), (.tmp 7)]⟩,
  ⟨some 9, none, .pick (.tmp 6) (.tmp 8) (.const (.bool false))⟩,
  ⟨some 2, none, .mov (.tmp 9)⟩])
 .ret)
def k_history_Some : AFun := ⟨10, [.tmp 2], (.seq (.region [⟨some 2, none, .mov (.const (.bool false))⟩])
 k_history_Some_p0)⟩
theorem c_history_Some : (XTab.of Tryz.prog).code 12 = some k_history_Some := by kernel_rfl
end Go.Proofs.YtladocoibpljnaaGreatDoor
set_option maxRecDepth 100000
set_option linter.unusedVariables false
namespace Go.Proofs.YtladocoibpljnaaGreatDoor
open Go.AE
def k_model_ask_p0 : ACode := (.region [⟨some 20, none, .mov (.tmp 1)⟩,
  ⟨some 21, none, .call (.const (.func (.func n_slices_ContainsFunc_api_Fact_api_Fact) [] [])) [(.tmp 20), (.const (.func (.func n_model_ask_2) [] []))]⟩,
  ⟨some 9, none, .mov (.tmp 21)⟩])
def k_model_ask_p1 : ACode := (.seq (.region [⟨some 18, none, .load 1 false (.tmp 2)⟩,
  ⟨some 19, none, .call (.const (.func (.func n_slices_ContainsFunc_api_Rule_api_Rule) [] [])) [(.tmp 18), (.const (.func (.func n_model_ask_1) [] []))]⟩,
  ⟨some 9, none, .mov (.tmp 19)⟩])
 (.cond (.tmp 9) .skip k_model_ask_p0))
def k_model_ask_p2 : ACode := (.seq (.region [⟨some 4, none, .mov (.const (.int .i64 5))⟩])
 .ret)
def k_model_ask_p3 : ACode := (.seq (.region [⟨some 4, none, .mov (.const (.int .i64 8))⟩])
 .ret)
def k_model_ask_p4 : ACode := (.seq (.region [⟨some 23, none, .load 1 false (.tmp 2)⟩,
  ⟨some 24, none, .call (.const (.func (.func n_slices_ContainsFunc_api_Rule_api_Rule) [] [])) [(.tmp 23), (.const (.func (.func n_model_ask_3) [] []))]⟩,
  ⟨some 22, none, .mov (.tmp 24)⟩])
 (.cond (.tmp 22) k_model_ask_p2 .skip))
def k_model_ask_p5 : ACode := (.seq (.seq (.region [⟨some 10, none, .load 1 false (.tmp 2)⟩,
  ⟨some 11, none, .lenSl (.tmp 10)⟩,
  ⟨some 12, none, .bin .gtr (.tmp 11) (.const (.int .i64 30))⟩,
  ⟨some 13, none, .mov (.tmp 12)⟩,
  ⟨some 14, (some (13, false)), .mov (.tmp 1)⟩,
  ⟨some 15, (some (13, false)), .lenSl (.tmp 14)⟩,
  ⟨some 16, (some (13, false)), .bin .gtr (.tmp 15) (.const (.int .i64 100))⟩,
  ⟨some 17, none, .pick (.tmp 13) (.const (.bool true)) (.tmp 16)⟩,
  ⟨some 9, none, .mov (.tmp 17)⟩])
 (.cond (.tmp 9) .skip k_model_ask_p1))
 (.cond (.tmp 9) k_model_ask_p3 k_model_ask_p4))
def k_model_ask_p6 : ACode := (.seq (.region [⟨some 33, none, .mov (.tmp 6)⟩,
  ⟨some 4, none, .mov (.tmp 33)⟩])
 .ret)
def k_model_ask_p7 : ACode := (.seq (.region [⟨some 4, none, .mov (.const (.int .i64 9))⟩])
 .ret)
def k_model_ask_p8 : ACode := (.seq (.region [⟨some 38, none, .load 1 false (.tmp 2)⟩,
  ⟨some 39, none, .call (.const (.func (.func n_strata_Of) [] [])) [(.tmp 38)]⟩,
  ⟨some 37, none, .mov (.tmp 39)⟩,
  ⟨some 40, none, .extract 0 (.tmp 37)⟩,
  ⟨some 41, none, .extract 1 (.tmp 37)⟩,
  ⟨some 7, none, .mov (.tmp 40)⟩,
  ⟨some 8, none, .mov (.tmp 41)⟩])
 (.seq (.region [⟨some 42, none, .mov (.tmp 8)⟩,
  ⟨some 4, none, .mov (.tmp 42)⟩])
 .ret))
def k_model_ask_p9 : ACode := (.seq (.seq (.region [⟨some 26, none, .load 1 false (.tmp 2)⟩,
  ⟨some 27, none, .mov (.tmp 1)⟩,
  ⟨some 28, none, .call (.const (.func (.func n_check_Arities) [] [])) [(.tmp 26), (.tmp 27)]⟩,
  ⟨some 25, none, .mov (.tmp 28)⟩,
  ⟨some 29, none, .extract 0 (.tmp 25)⟩,
  ⟨some 30, none, .extract 1 (.tmp 25)⟩,
  ⟨some 5, none, .mov (.tmp 29)⟩,
  ⟨some 6, none, .mov (.tmp 30)⟩])
 (.seq (.region [⟨some 31, none, .mov (.tmp 6)⟩,
  ⟨some 32, none, .bin .neq (.tmp 31) (.const (.int .i64 0))⟩])
 (.cond (.tmp 32) k_model_ask_p6 .skip)))
 (.seq (.seq (.region [⟨some 34, none, .mov (.tmp 1)⟩,
  ⟨some 35, none, .mkFunc (.func n_model_ask_4) [] [(.tmp 2)]⟩,
  ⟨some 36, none, .call (.const (.func (.func n_slices_ContainsFunc_api_Fact_api_Fact) [] [])) [(.tmp 34), (.tmp 35)]⟩])
 (.cond (.tmp 36) k_model_ask_p7 .skip))
 k_model_ask_p8))
def k_model_ask : AFun := ⟨43, [.tmp 4], (.seq (.region [⟨some 2, none, .box (.tmp 0)⟩,
  ⟨some 4, none, .mov (.const (.int .i64 0))⟩])
 (.seq (.block 0 k_model_ask_p5)
 k_model_ask_p9))⟩
theorem c_model_ask : (XTab.of Tryz.prog).code 16 = some k_model_ask := by kernel_rfl
def k_value_New : AFun := ⟨4, [.tmp 0], (.seq (.region [⟨some 0, none, .mov (.const .nilptr)⟩])
 (.seq (.region [⟨some 1, none, .mkMap⟩,
  ⟨some 2, none, .build [.nilmap, .nilslice] [(0, 1, (.tmp 1))]⟩,
  ⟨some 3, none, .box (.tmp 2)⟩,
  ⟨some 0, none, .mov (.tmp 3)⟩])
 .ret))⟩
theorem c_value_New : (XTab.of Tryz.prog).code 17 = some k_value_New := by kernel_rfl
def k_value_Table_Id_p0 : ACode := (.seq (.drawn [⟨⟨some 25, none, .mov (.tmp 0)⟩, false, [], []⟩,
  ⟨⟨some 26, none, .mov (.tmp 0)⟩, false, [], []⟩,
  ⟨⟨some 27, none, .nilCheck (.tmp 26)⟩, false, [1], []⟩,
  ⟨⟨some 28, none, .fieldAddr 1 (.tmp 27)⟩, false, [2, 1], []⟩,
  ⟨⟨some 29, none, .load 1 false (.tmp 28)⟩, false, [3, 2, 1], []⟩,
  ⟨⟨some 30, none, .load 3 true (.tmp 3)⟩, false, [], []⟩,
  ⟨⟨some 31, none, .buildSlice 1 [(.int .i64 0), (.str []), (.int .i64 0)] [(0, 3, (.tmp 30))]⟩, true, [5], []⟩,
  ⟨⟨some 32, none, .append 3 32 (.tmp 29) (.tmp 31)⟩, true, [6, 5, 4, 3, 2, 1], []⟩,
  ⟨⟨some 33, none, .nilCheck (.tmp 25)⟩, false, [7, 6, 5, 4, 3, 2, 1, 0], []⟩,
  ⟨⟨some 34, none, .fieldAddr 1 (.tmp 33)⟩, false, [8, 7, 6, 5, 4, 3, 2, 1, 0], []⟩,
  ⟨⟨none, none, .store 1 (.tmp 34) (.tmp 32)⟩, true, [9, 8, 7, 6, 5, 4, 3, 2, 1, 0], []⟩])
 (.seq (.region [⟨some 35, none, .mov (.tmp 0)⟩,
  ⟨some 36, none, .nilCheck (.tmp 35)⟩,
  ⟨some 37, none, .fieldAddr 1 (.tmp 36)⟩,
  ⟨some 38, none, .load 1 false (.tmp 37)⟩,
  ⟨some 39, none, .lenSl (.tmp 38)⟩,
  ⟨some 5, none, .mov (.tmp 39)⟩])
 (.region [⟨some 40, none, .mov (.tmp 0)⟩,
  ⟨some 41, none, .nilCheck (.tmp 40)⟩,
  ⟨some 42, none, .fieldAddr 0 (.tmp 41)⟩,
  ⟨some 43, none, .load 1 false (.tmp 42)⟩,
  ⟨some 44, none, .load 3 true (.tmp 3)⟩,
  ⟨some 45, none, .mov (.tmp 5)⟩,
  ⟨none, none, .mapUpdate (.cells [.int, .str, .int]) (.tmp 43) (.tmp 44) (.tmp 45)⟩])))
def k_value_Table_Id : AFun := ⟨47, [.tmp 4], (.seq (.region [⟨some 3, none, .box (.tmp 1)⟩,
  ⟨some 4, none, .mov (.const (.int .i64 0))⟩])
 (.seq (.seq (.region [⟨some 7, none, .mov (.tmp 0)⟩,
  ⟨some 8, none, .eqv false .ptr (.tmp 7) (.const .nilptr)⟩,
  ⟨some 9, none, .mov (.tmp 8)⟩,
  ⟨some 10, (some (9, false)), .load 3 true (.tmp 3)⟩,
  ⟨some 11, (some (9, false)), .call (.const (.func (.func n_value_May) [] [])) [(.tmp 10)]⟩,
  ⟨some 12, (some (9, false)), .un .not (.tmp 11)⟩,
  ⟨some 13, none, .pick (.tmp 9) (.const (.bool true)) (.tmp 12)⟩])
 (.cond (.tmp 13) (.seq (.region [⟨some 4, none, .mov (.const (.int .i64 0))⟩])
 .ret) .skip))
 (.seq (.region [⟨some 15, none, .mov (.tmp 0)⟩,
  ⟨some 16, none, .nilCheck (.tmp 15)⟩,
  ⟨some 17, none, .fieldAddr 0 (.tmp 16)⟩,
  ⟨some 18, none, .load 1 false (.tmp 17)⟩,
  ⟨some 19, none, .load 3 true (.tmp 3)⟩,
  ⟨some 20, none, .lookup (.cells [.int, .str, .int]) (.int .i64 0) true (.tmp 18) (.tmp 19)⟩,
  ⟨some 14, none, .mov (.tmp 20)⟩,
  ⟨some 21, none, .extract 0 (.tmp 14)⟩,
  ⟨some 22, none, .extract 1 (.tmp 14)⟩,
  ⟨some 5, none, .mov (.tmp 21)⟩,
  ⟨some 6, none, .mov (.tmp 22)⟩])
 (.seq (.seq (.region [⟨some 23, none, .mov (.tmp 6)⟩,
  ⟨some 24, none, .un .not (.tmp 23)⟩])
 (.cond (.tmp 24) k_value_Table_Id_p0 .skip))
 (.seq (.region [⟨some 46, none, .mov (.tmp 5)⟩,
  ⟨some 4, none, .mov (.tmp 46)⟩])
 .ret)))))⟩
theorem c_value_Table_Id : (XTab.of Tryz.prog).code 18 = some k_value_Table_Id := by kernel_rfl
def k_model_Model_add_p0 : ACode := (.region [⟨some 20, none, .mov (.tmp 0)⟩,
  ⟨some 21, none, .nilCheck (.tmp 20)⟩,
  ⟨some 22, none, .fieldAddr 1 (.tmp 21)⟩,
  ⟨some 23, none, .load 1 false (.tmp 22)⟩,
  ⟨some 24, none, .mov (.tmp 1)⟩,
  ⟨some 25, none, .mov (.tmp 8)⟩,
  ⟨none, none, .mapUpdate (.scalar .str) (.tmp 23) (.tmp 24) (.tmp 25)⟩])
def k_model_Model_add_p1 : ACode := (.seq (.region [⟨some 17, none, .mov (.tmp 2)⟩,
  ⟨some 18, none, .lenSl (.tmp 17)⟩,
  ⟨some 19, none, .call (.const (.func (.func n_relation_New) [] [])) [(.tmp 18)]⟩,
  ⟨some 8, none, .mov (.tmp 19)⟩])
 k_model_Model_add_p0)
def k_model_Model_add_p2 : ACode := (.seq (.region [⟨some 6, none, .mov (.const (.bool false))⟩,
  ⟨some 7, none, .mov (.const (.bool true))⟩])
 .ret)
def k_model_Model_add_p3 : ACode := (.seq (.region [⟨some 37, none, .mov (.tmp 0)⟩,
  ⟨some 38, none, .nilCheck (.tmp 37)⟩,
  ⟨some 39, none, .fieldAddr 2 (.tmp 38)⟩,
  ⟨some 40, none, .load 1 false (.tmp 39)⟩,
  ⟨some 41, none, .bin .leq (.tmp 40) (.const (.int .i64 1000))⟩,
  ⟨some 6, none, .mov (.const (.bool true))⟩,
  ⟨some 7, none, .mov (.tmp 41)⟩])
 .ret)
def k_model_Model_add_p4 : ACode := (.seq (.region [⟨some 30, none, .mov (.tmp 0)⟩,
  ⟨some 31, none, .nilCheck (.tmp 30)⟩,
  ⟨some 32, none, .fieldAddr 2 (.tmp 31)⟩,
  ⟨some 33, none, .load 1 false (.tmp 32)⟩,
  ⟨some 34, none, .bin .add (.tmp 33) (.const (.int .i64 1))⟩,
  ⟨some 35, none, .nilCheck (.tmp 30)⟩,
  ⟨some 36, none, .fieldAddr 2 (.tmp 35)⟩,
  ⟨none, none, .store 1 (.tmp 36) (.tmp 34)⟩])
 k_model_Model_add_p3)
def k_model_Model_add_p5 : ACode := (.seq (.seq (.region [⟨some 15, none, .mov (.tmp 8)⟩,
  ⟨some 16, none, .eqv false .ptr (.tmp 15) (.const .nilptr)⟩])
 (.cond (.tmp 16) k_model_Model_add_p1 .skip))
 (.seq (.seq (.region [⟨some 26, none, .mov (.tmp 8)⟩,
  ⟨some 27, none, .mov (.tmp 2)⟩,
  ⟨some 28, none, .call (.const (.func (.func n_relation_Set_Add) [] [])) [(.tmp 26), (.tmp 27)]⟩,
  ⟨some 29, none, .un .not (.tmp 28)⟩])
 (.cond (.tmp 29) k_model_Model_add_p2 .skip))
 k_model_Model_add_p4))
def k_model_Model_add_p6 : ACode := (.seq (.region [⟨some 9, none, .mov (.tmp 0)⟩,
  ⟨some 10, none, .nilCheck (.tmp 9)⟩,
  ⟨some 11, none, .fieldAddr 1 (.tmp 10)⟩,
  ⟨some 12, none, .load 1 false (.tmp 11)⟩,
  ⟨some 13, none, .mov (.tmp 1)⟩,
  ⟨some 14, none, .lookup (.scalar .str) .nilptr false (.tmp 12) (.tmp 13)⟩,
  ⟨some 8, none, .mov (.tmp 14)⟩])
 k_model_Model_add_p5)
def k_model_Model_add : AFun := ⟨42, [.tmp 6, .tmp 7], (.seq (.region [⟨some 6, none, .mov (.const (.bool false))⟩,
  ⟨some 7, none, .mov (.const (.bool false))⟩])
 k_model_Model_add_p6)⟩
theorem c_model_Model_add : (XTab.of Tryz.prog).code 19 = some k_model_Model_add := by kernel_rfl
def k_strata_Order_p0 : ACode := (.seq (.region [⟨some 18, none, .mov (.tmp 5)⟩,
  ⟨some 2, none, .mov (.const .nilslice)⟩,
  ⟨some 3, none, .mov (.tmp 18)⟩])
 .ret)
def k_strata_Order_p1 : ACode := (.seq (.seq (.region [⟨some 26, none, .mov (.tmp 6)⟩,
  ⟨some 27, none, .lenSl (.tmp 26)⟩,
  ⟨some 28, none, .mov (.tmp 8)⟩,
  ⟨some 29, none, .bin .leq (.tmp 27) (.tmp 28)⟩])
 (.cond (.tmp 29) .skip (.exit 2)))
 (.block 3 (.region [⟨some 30, none, .mov (.tmp 6)⟩,
  ⟨some 31, none, .buildSlice 1 [.nilslice] [(0, 1, (.const .nilslice))]⟩,
  ⟨some 32, none, .append 1 24 (.tmp 30) (.tmp 31)⟩,
  ⟨some 6, none, .mov (.tmp 32)⟩])))
def k_strata_Order_p2 : ACode := (.region [⟨some 33, none, .mov (.tmp 6)⟩,
  ⟨some 34, none, .mov (.tmp 8)⟩,
  ⟨some 35, none, .mov (.tmp 6)⟩,
  ⟨some 36, none, .mov (.tmp 8)⟩,
  ⟨some 37, none, .indexAddr 1 (.tmp 35) (.tmp 36)⟩,
  ⟨some 38, none, .load 1 false (.tmp 37)⟩,
  ⟨some 39, none, .mov (.tmp 7)⟩,
  ⟨some 40, none, .buildSlice 1 [(.str [])] [(0, 1, (.tmp 39))]⟩,
  ⟨some 41, none, .append 1 16 (.tmp 38) (.tmp 40)⟩,
  ⟨some 42, none, .indexAddr 1 (.tmp 33) (.tmp 34)⟩,
  ⟨none, none, .store 1 (.tmp 42) (.tmp 41)⟩])
def k_strata_Order_p3 : ACode := (.block 1 (.seq (.region [⟨some 23, none, .entry (.tmp 20)⟩,
  ⟨some 24, none, .extract 0 (.tmp 23)⟩,
  ⟨some 25, none, .extract 1 (.tmp 23)⟩,
  ⟨some 7, none, .mov (.tmp 24)⟩,
  ⟨some 8, none, .mov (.tmp 25)⟩])
 (.seq (.block 2 (.loop k_strata_Order_p1))
 k_strata_Order_p2)))
def k_strata_Order_p4 : ACode := (.seq (.region [⟨some 21, none, .nextMap (.tmp 20)⟩,
  ⟨some 22, none, .extract 0 (.tmp 21)⟩])
 (.seq (.cond (.tmp 22) .skip (.exit 0))
 k_strata_Order_p3))
def k_strata_Order_p5 : ACode := (.seq (.region [⟨some 47, none, .indexAddr 1 (.tmp 43) (.tmp 45)⟩,
  ⟨some 48, none, .load 1 false (.tmp 47)⟩,
  ⟨some 10, none, .mov (.tmp 48)⟩])
 (.region [⟨some 49, none, .mov (.tmp 10)⟩,
  ⟨some 50, none, .call (.const (.func (.func n_slices_Sort_string_string) [] [])) [(.tmp 49)]⟩]))
def k_strata_Order_p6 : ACode := (.seq (.region [⟨some 46, none, .bin .lss (.tmp 45) (.tmp 44)⟩])
 (.seq (.cond (.tmp 46) .skip (.exit 4))
 (.seq (.block 5 k_strata_Order_p5)
 (.region [⟨some 51, none, .bin .add (.tmp 45) (.const (.int .i64 1))⟩,
  ⟨some 45, none, .mov (.tmp 51)⟩]))))
def k_strata_Order_p7 : ACode := (.seq (.seq (.region [⟨some 43, none, .mov (.tmp 6)⟩,
  ⟨some 44, none, .lenSl (.tmp 43)⟩,
  ⟨some 45, none, .mov (.const (.int .i64 0))⟩])
 (.block 4 (.loop k_strata_Order_p6)))
 (.seq (.region [⟨some 52, none, .mov (.tmp 6)⟩,
  ⟨some 2, none, .mov (.tmp 52)⟩,
  ⟨some 3, none, .mov (.const (.int .i64 0))⟩])
 .ret))
def k_strata_Order_p8 : ACode := (.seq (.seq (.region [⟨some 16, none, .mov (.tmp 5)⟩,
  ⟨some 17, none, .bin .neq (.tmp 16) (.const (.int .i64 0))⟩])
 (.cond (.tmp 17) k_strata_Order_p0 .skip))
 (.seq (.region [⟨some 6, none, .mov (.const .nilslice)⟩])
 (.seq (.seq (.region [⟨some 19, none, .mov (.tmp 4)⟩,
  ⟨some 20, none, .rangeMap (.tmp 19)⟩])
 (.block 0 (.loop k_strata_Order_p4)))
 k_strata_Order_p7)))
def k_strata_Order_p9 : ACode := (.seq (.region [⟨some 12, none, .mov (.tmp 0)⟩,
  ⟨some 13, none, .call (.const (.func (.func n_strata_Of) [] [])) [(.tmp 12)]⟩,
  ⟨some 11, none, .mov (.tmp 13)⟩,
  ⟨some 14, none, .extract 0 (.tmp 11)⟩,
  ⟨some 15, none, .extract 1 (.tmp 11)⟩,
  ⟨some 4, none, .mov (.tmp 14)⟩,
  ⟨some 5, none, .mov (.tmp 15)⟩])
 k_strata_Order_p8)
def k_strata_Order : AFun := ⟨53, [.tmp 2, .tmp 3], (.seq (.region [⟨some 2, none, .mov (.const .nilslice)⟩,
  ⟨some 3, none, .mov (.const (.int .i64 0))⟩])
 k_strata_Order_p9)⟩
theorem c_strata_Order : (XTab.of Tryz.prog).code 20 = some k_strata_Order := by kernel_rfl
def k_model_Model_Set_p0 : ACode := (.seq (.region [⟨some 4, none, .mov (.const .nilptr)⟩])
 .ret)
def k_model_Model_Set_p1 : ACode := (.seq (.region [⟨some 7, none, .mov (.tmp 0)⟩,
  ⟨some 8, none, .nilCheck (.tmp 7)⟩,
  ⟨some 9, none, .fieldAddr 1 (.tmp 8)⟩,
  ⟨some 10, none, .load 1 false (.tmp 9)⟩,
  ⟨some 11, none, .mov (.tmp 1)⟩,
  ⟨some 12, none, .lookup (.scalar .str) .nilptr false (.tmp 10) (.tmp 11)⟩,
  ⟨some 4, none, .mov (.tmp 12)⟩])
 .ret)
def k_model_Model_Set : AFun := ⟨13, [.tmp 4], (.seq (.region [⟨some 4, none, .mov (.const .nilptr)⟩])
 (.seq (.seq (.region [⟨some 5, none, .mov (.tmp 0)⟩,
  ⟨some 6, none, .eqv false .ptr (.tmp 5) (.const .nilptr)⟩])
 (.cond (.tmp 6) k_model_Model_Set_p0 .skip))
 k_model_Model_Set_p1))⟩
theorem c_model_Model_Set : (XTab.of Tryz.prog).code 23 = some k_model_Model_Set := by kernel_rfl
def k_relation_Set_All : AFun := ⟨12, [.tmp 2], (.seq (.region [⟨some 2, none, .mov (.const .nilslice)⟩])
 (.seq (.seq (.region [⟨some 3, none, .mov (.tmp 0)⟩,
  ⟨some 4, none, .eqv false .ptr (.tmp 3) (.const .nilptr)⟩])
 (.cond (.tmp 4) (.seq (.region [⟨some 2, none, .mov (.const .nilslice)⟩])
 .ret) .skip))
 (.seq (.region [⟨some 5, none, .mov (.tmp 0)⟩,
  ⟨some 6, none, .mov (.tmp 0)⟩,
  ⟨some 7, none, .nilCheck (.tmp 6)⟩,
  ⟨some 8, none, .fieldAddr 0 (.tmp 7)⟩,
  ⟨some 9, none, .load 1 false (.tmp 8)⟩,
  ⟨some 10, none, .mkSlice 1 8 [(.int .i64 0)] (.tmp 9) (.tmp 9)⟩,
  ⟨some 11, none, .call (.const (.func (.func n_relation_Set_Match) [] [])) [(.tmp 5), (.tmp 10)]⟩,
  ⟨some 2, none, .mov (.tmp 11)⟩])
 .ret)))⟩
theorem c_relation_Set_All : (XTab.of Tryz.prog).code 24 = some k_relation_Set_All := by kernel_rfl
def k_value_Table_Term : AFun := ⟨29, [.cell 4 3 true], (.seq (.region [⟨some 4, none, .alloc [(.int .i64 0), (.str []), (.int .i64 0)]⟩])
 (.seq (.seq (.region [⟨some 5, none, .mov (.tmp 0)⟩,
  ⟨some 6, none, .eqv false .ptr (.tmp 5) (.const .nilptr)⟩,
  ⟨some 7, none, .mov (.tmp 6)⟩,
  ⟨some 8, (some (7, false)), .mov (.tmp 1)⟩,
  ⟨some 9, (some (7, false)), .bin .lss (.tmp 8) (.const (.int .i64 1))⟩,
  ⟨some 10, none, .pick (.tmp 7) (.const (.bool true)) (.tmp 9)⟩,
  ⟨some 11, none, .mov (.tmp 10)⟩,
  ⟨some 12, (some (11, false)), .mov (.tmp 1)⟩,
  ⟨some 13, (some (11, false)), .mov (.tmp 0)⟩,
  ⟨some 14, (some (11, false)), .nilCheck (.tmp 13)⟩,
  ⟨some 15, (some (11, false)), .fieldAddr 1 (.tmp 14)⟩,
  ⟨some 16, (some (11, false)), .load 1 false (.tmp 15)⟩,
  ⟨some 17, (some (11, false)), .lenSl (.tmp 16)⟩,
  ⟨some 18, (some (11, false)), .bin .gtr (.tmp 12) (.tmp 17)⟩,
  ⟨some 19, none, .pick (.tmp 11) (.const (.bool true)) (.tmp 18)⟩])
 (.cond (.tmp 19) (.seq (.region [⟨some 20, none, .build [(.int .i64 0), (.str []), (.int .i64 0)] []⟩,
  ⟨none, none, .store 3 (.tmp 4) (.tmp 20)⟩])
 .ret) .skip))
 (.seq (.region [⟨some 21, none, .mov (.tmp 0)⟩,
  ⟨some 22, none, .nilCheck (.tmp 21)⟩,
  ⟨some 23, none, .fieldAddr 1 (.tmp 22)⟩,
  ⟨some 24, none, .load 1 false (.tmp 23)⟩,
  ⟨some 25, none, .mov (.tmp 1)⟩,
  ⟨some 26, none, .bin .sub (.tmp 25) (.const (.int .i64 1))⟩,
  ⟨some 27, none, .indexAddr 3 (.tmp 24) (.tmp 26)⟩,
  ⟨some 28, none, .load 3 true (.tmp 27)⟩,
  ⟨none, none, .store 3 (.tmp 4) (.tmp 28)⟩])
 .ret)))⟩
theorem c_value_Table_Term : (XTab.of Tryz.prog).code 25 = some k_value_Table_Term := by kernel_rfl
def k_slices_SortFunc_api_Fact_api_Fact_p0 : ACode := (.region [⟨some 7, none, .mov (.tmp 0)⟩,
  ⟨some 8, none, .mov (.tmp 4)⟩,
  ⟨some 9, none, .mov (.tmp 4)⟩,
  ⟨some 10, none, .conv .u64 (.tmp 9)⟩,
  ⟨some 11, none, .call (.const (.func (.func n_math_bits_Len) [] [])) [(.tmp 10)]⟩,
  ⟨some 12, none, .mov (.tmp 1)⟩,
  ⟨some 13, none, .call (.const (.func (.func n_slices_pdqsortCmpFunc_api_Fact) [] [])) [(.tmp 7), (.const (.int .i64 0)), (.tmp 8), (.tmp 11), (.tmp 12)]⟩])
def k_slices_SortFunc_api_Fact_api_Fact : AFun := ⟨14, [], (.seq (.region [⟨some 5, none, .mov (.tmp 0)⟩,
  ⟨some 6, none, .lenSl (.tmp 5)⟩,
  ⟨some 4, none, .mov (.tmp 6)⟩])
 k_slices_SortFunc_api_Fact_api_Fact_p0)⟩
theorem c_slices_SortFunc_api_Fact_api_Fact : (XTab.of Tryz.prog).code 26 = some k_slices_SortFunc_api_Fact_api_Fact := by kernel_rfl
def k_value_Compare_p0 : ACode := (.seq (.region [⟨some 4, none, .mov (.const (.int .i64 1))⟩])
 .ret)
def k_value_Compare_p1 : ACode := (.seq (.region [⟨some 4, none, .mov (.const (.int .i64 (-1)))⟩])
 .ret)
def k_value_Compare_p2 : ACode := (.seq (.region [⟨some 25, none, .mov (.tmp 1)⟩,
  ⟨some 26, none, .mov (.tmp 5)⟩,
  ⟨some 27, none, .indexAddr 3 (.tmp 25) (.tmp 26)⟩,
  ⟨some 28, none, .load 3 true (.tmp 27)⟩,
  ⟨some 29, none, .mov (.tmp 0)⟩,
  ⟨some 30, none, .mov (.tmp 5)⟩,
  ⟨some 31, none, .indexAddr 3 (.tmp 29) (.tmp 30)⟩,
  ⟨some 32, none, .load 3 true (.tmp 31)⟩,
  ⟨some 33, none, .call (.const (.func (.func n_value_Less) [] [])) [(.tmp 28), (.tmp 32)]⟩,
  ⟨some 24, none, .mov (.tmp 33)⟩])
 (.cond (.tmp 24) k_value_Compare_p0 .skip))
def k_value_Compare_p3 : ACode := (.seq (.region [⟨some 15, none, .mov (.tmp 0)⟩,
  ⟨some 16, none, .mov (.tmp 5)⟩,
  ⟨some 17, none, .indexAddr 3 (.tmp 15) (.tmp 16)⟩,
  ⟨some 18, none, .load 3 true (.tmp 17)⟩,
  ⟨some 19, none, .mov (.tmp 1)⟩,
  ⟨some 20, none, .mov (.tmp 5)⟩,
  ⟨some 21, none, .indexAddr 3 (.tmp 19) (.tmp 20)⟩,
  ⟨some 22, none, .load 3 true (.tmp 21)⟩,
  ⟨some 23, none, .call (.const (.func (.func n_value_Less) [] [])) [(.tmp 18), (.tmp 22)]⟩,
  ⟨some 14, none, .mov (.tmp 23)⟩])
 (.cond (.tmp 14) k_value_Compare_p1 k_value_Compare_p2))
def k_value_Compare_p4 : ACode := (.seq (.cond (.tmp 12) .skip (.exit 0))
 (.seq (.block 1 (.seq (.region [⟨some 13, none, .mov (.tmp 11)⟩,
  ⟨some 5, none, .mov (.tmp 13)⟩])
 (.block 2 k_value_Compare_p3)))
 (.region [⟨some 34, none, .bin .add (.tmp 11) (.const (.int .i64 1))⟩,
  ⟨some 11, none, .mov (.tmp 34)⟩])))
def k_value_Compare_p5 : ACode := (.seq (.region [⟨some 12, none, .bin .lss (.tmp 11) (.tmp 10)⟩])
 k_value_Compare_p4)
def k_value_Compare_p6 : ACode := (.seq (.seq (.region [⟨some 6, none, .mov (.tmp 0)⟩,
  ⟨some 7, none, .lenSl (.tmp 6)⟩,
  ⟨some 8, none, .mov (.tmp 1)⟩,
  ⟨some 9, none, .lenSl (.tmp 8)⟩,
  ⟨some 10, none, .mn [(.tmp 7), (.tmp 9)]⟩,
  ⟨some 11, none, .mov (.const (.int .i64 0))⟩])
 (.block 0 (.loop k_value_Compare_p5)))
 (.seq (.region [⟨some 35, none, .mov (.tmp 0)⟩,
  ⟨some 36, none, .lenSl (.tmp 35)⟩,
  ⟨some 37, none, .mov (.tmp 1)⟩,
  ⟨some 38, none, .lenSl (.tmp 37)⟩,
  ⟨some 39, none, .bin .sub (.tmp 36) (.tmp 38)⟩,
  ⟨some 4, none, .mov (.tmp 39)⟩])
 .ret))
def k_value_Compare : AFun := ⟨40, [.tmp 4], (.seq (.region [⟨some 4, none, .mov (.const (.int .i64 0))⟩])
 k_value_Compare_p6)⟩
theorem c_value_Compare : (XTab.of Tryz.prog).code 28 = some k_value_Compare := by kernel_rfl
def k_history_New : AFun := ⟨3, [.tmp 0], (.seq (.region [⟨some 0, none, .mov (.const .nilptr)⟩])
 (.seq (.region [⟨some 1, none, .build [.nilslice] []⟩,
  ⟨some 2, none, .box (.tmp 1)⟩,
  ⟨some 0, none, .mov (.tmp 2)⟩])
 .ret))⟩
theorem c_history_New : (XTab.of Tryz.prog).code 29 = some k_history_New := by kernel_rfl
def k_history_Book_Asked_p0 : ACode := (.drawn [⟨⟨some 17, none, .mov (.tmp 0)⟩, false, [], []⟩,
  ⟨⟨some 18, none, .mov (.tmp 0)⟩, false, [], []⟩,
  ⟨⟨some 19, none, .nilCheck (.tmp 18)⟩, false, [1], []⟩,
  ⟨⟨some 20, none, .fieldAddr 0 (.tmp 19)⟩, false, [2, 1], []⟩,
  ⟨⟨some 21, none, .load 1 false (.tmp 20)⟩, false, [3, 2, 1], []⟩,
  ⟨⟨some 22, none, .load 4 true (.tmp 4)⟩, false, [], []⟩,
  ⟨⟨some 23, none, .mov (.tmp 2)⟩, false, [], []⟩,
  ⟨⟨some 24, none, .build [(.int .i64 0), (.int .i64 0), (.int .i64 0), (.str []), (.int .i64 0), (.int .i64 0), (.int .i64 0), (.bool false), .nilslice] [(0, 4, (.tmp 22)), (4, 1, (.tmp 23))]⟩, false, [6, 5], []⟩,
  ⟨⟨some 25, none, .buildSlice 1 [(.int .i64 0), (.int .i64 0), (.int .i64 0), (.str []), (.int .i64 0), (.int .i64 0), (.int .i64 0), (.bool false), .nilslice] [(0, 9, (.tmp 24))]⟩, true, [7, 6, 5], []⟩,
  ⟨⟨some 26, none, .append 9 96 (.tmp 21) (.tmp 25)⟩, true, [8, 7, 6, 5, 4, 3, 2, 1], []⟩,
  ⟨⟨some 27, none, .nilCheck (.tmp 17)⟩, false, [9, 8, 7, 6, 5, 4, 3, 2, 1, 0], []⟩,
  ⟨⟨some 28, none, .fieldAddr 0 (.tmp 27)⟩, false, [10, 9, 8, 7, 6, 5, 4, 3, 2, 1, 0], []⟩,
  ⟨⟨none, none, .store 1 (.tmp 28) (.tmp 26)⟩, true, [11, 10, 9, 8, 7, 6, 5, 4, 3, 2, 1, 0], []⟩])
def k_history_Book_Asked_p1 : ACode := (.seq (.region [⟨some 6, none, .mov (.tmp 0)⟩,
  ⟨some 7, none, .eqv true .ptr (.tmp 6) (.const .nilptr)⟩,
  ⟨some 8, none, .mov (.tmp 7)⟩,
  ⟨some 9, (some (8, true)), .mov (.tmp 0)⟩,
  ⟨some 10, (some (8, true)), .fieldAddr 1 (.tmp 4)⟩,
  ⟨some 11, (some (8, true)), .load 1 false (.tmp 10)⟩,
  ⟨some 12, (some (8, true)), .fieldAddr 2 (.tmp 4)⟩,
  ⟨some 13, (some (8, true)), .load 1 false (.tmp 12)⟩,
  ⟨some 14, (some (8, true)), .call (.const (.func (.func n_history_Book_find) [] [])) [(.tmp 9), (.tmp 11), (.tmp 13)]⟩,
  ⟨some 15, (some (8, true)), .bin .lss (.tmp 14) (.const (.int .i64 0))⟩,
  ⟨some 16, none, .pick (.tmp 8) (.tmp 15) (.const (.bool false))⟩])
 (.cond (.tmp 16) k_history_Book_Asked_p0 .skip))
def k_history_Book_Asked : AFun := ⟨29, [], (.seq (.region [⟨some 4, none, .box (.tmp 1)⟩])
 k_history_Book_Asked_p1)⟩
theorem c_history_Book_Asked : (XTab.of Tryz.prog).code 30 = some k_history_Book_Asked := by kernel_rfl
def k_history_Book_Answered_p0 : ACode := (.drawn [⟨⟨some 46, none, .mov (.tmp 0)⟩, false, [], []⟩,
  ⟨⟨some 47, none, .nilCheck (.tmp 46)⟩, false, [0], []⟩,
  ⟨⟨some 48, none, .fieldAddr 0 (.tmp 47)⟩, false, [1, 0], []⟩,
  ⟨⟨some 49, none, .load 1 false (.tmp 48)⟩, false, [2, 1, 0], []⟩,
  ⟨⟨some 50, none, .mov (.tmp 10)⟩, false, [], []⟩,
  ⟨⟨some 51, none, .mov (.tmp 0)⟩, false, [], []⟩,
  ⟨⟨some 52, none, .nilCheck (.tmp 51)⟩, false, [5], []⟩,
  ⟨⟨some 53, none, .fieldAddr 0 (.tmp 52)⟩, false, [6, 5], []⟩,
  ⟨⟨some 54, none, .load 1 false (.tmp 53)⟩, false, [7, 6, 5], []⟩,
  ⟨⟨some 55, none, .mov (.tmp 10)⟩, false, [], []⟩,
  ⟨⟨some 56, none, .mov (.tmp 4)⟩, false, [], []⟩,
  ⟨⟨some 57, none, .load 3 true (.tmp 8)⟩, false, [], []⟩,
  ⟨⟨some 58, none, .indexAddr 9 (.tmp 49) (.tmp 50)⟩, false, [10, 8, 7, 6, 5, 4, 3, 2, 1, 0], []⟩,
  ⟨⟨some 59, none, .fieldAddr 5 (.tmp 58)⟩, false, [12, 10, 8, 7, 6, 5, 4, 3, 2, 1, 0], []⟩,
  ⟨⟨none, none, .store 1 (.tmp 59) (.tmp 56)⟩, true, [13, 12, 10, 8, 7, 6, 5, 4, 3, 2, 1, 0], []⟩,
  ⟨⟨some 60, none, .indexAddr 9 (.tmp 54) (.tmp 55)⟩, false, [14, 13, 12, 11, 10, 9, 8, 7, 6, 5, 4, 3, 2, 1, 0], []⟩,
  ⟨⟨some 61, none, .fieldAddr 6 (.tmp 60)⟩, false, [15, 14, 13, 12, 11, 10, 9, 8, 7, 6, 5, 4, 3, 2, 1, 0], []⟩,
  ⟨⟨none, none, .store 3 (.tmp 61) (.tmp 57)⟩, true, [16, 15, 14, 13, 12, 11, 10, 9, 8, 7, 6, 5, 4, 3, 2, 1, 0], []⟩])
def k_history_Book_Answered_p1 : ACode := (.seq (.region [⟨some 42, none, .fieldAddr 2 (.tmp 8)⟩,
  ⟨some 43, none, .load 1 false (.tmp 42)⟩,
  ⟨some 44, none, .call (.const (.func (.func n_slices_Clone_string_string) [] [])) [(.tmp 43)]⟩,
  ⟨some 45, none, .fieldAddr 2 (.tmp 8)⟩,
  ⟨none, none, .store 1 (.tmp 45) (.tmp 44)⟩])
 k_history_Book_Answered_p0)
def k_history_Book_Answered_p2 : ACode := (.seq (.region [⟨some 17, none, .mov (.tmp 10)⟩,
  ⟨some 18, none, .bin .geq (.tmp 17) (.const (.int .i64 0))⟩,
  ⟨some 19, none, .mov (.tmp 18)⟩,
  ⟨some 20, (some (19, true)), .mov (.tmp 0)⟩,
  ⟨some 21, (some (19, true)), .nilCheck (.tmp 20)⟩,
  ⟨some 22, (some (19, true)), .fieldAddr 0 (.tmp 21)⟩,
  ⟨some 23, (some (19, true)), .load 1 false (.tmp 22)⟩,
  ⟨some 24, (some (19, true)), .mov (.tmp 10)⟩,
  ⟨some 25, (some (19, true)), .indexAddr 9 (.tmp 23) (.tmp 24)⟩,
  ⟨some 26, (some (19, true)), .fieldAddr 5 (.tmp 25)⟩,
  ⟨some 27, (some (19, true)), .load 1 false (.tmp 26)⟩,
  ⟨some 28, (some (19, true)), .bin .eql (.tmp 27) (.const (.int .i64 0))⟩,
  ⟨some 29, none, .pick (.tmp 19) (.tmp 28) (.const (.bool false))⟩,
  ⟨some 30, none, .mov (.tmp 29)⟩,
  ⟨some 31, (some (30, true)), .mov (.tmp 4)⟩,
  ⟨some 32, (some (30, true)), .mov (.tmp 0)⟩,
  ⟨some 33, (some (30, true)), .nilCheck (.tmp 32)⟩,
  ⟨some 34, (some (30, true)), .fieldAddr 0 (.tmp 33)⟩,
  ⟨some 35, (some (30, true)), .load 1 false (.tmp 34)⟩,
  ⟨some 36, (some (30, true)), .mov (.tmp 10)⟩,
  ⟨some 37, (some (30, true)), .indexAddr 9 (.tmp 35) (.tmp 36)⟩,
  ⟨some 38, (some (30, true)), .fieldAddr 4 (.tmp 37)⟩,
  ⟨some 39, (some (30, true)), .load 1 false (.tmp 38)⟩,
  ⟨some 40, (some (30, true)), .bin .geq (.tmp 31) (.tmp 39)⟩,
  ⟨some 41, none, .pick (.tmp 30) (.tmp 40) (.const (.bool false))⟩])
 (.cond (.tmp 41) k_history_Book_Answered_p1 .skip))
def k_history_Book_Answered_p3 : ACode := (.seq (.region [⟨some 13, none, .mov (.tmp 0)⟩,
  ⟨some 14, none, .mov (.tmp 1)⟩,
  ⟨some 15, none, .mov (.tmp 2)⟩,
  ⟨some 16, none, .call (.const (.func (.func n_history_Book_find) [] [])) [(.tmp 13), (.tmp 14), (.tmp 15)]⟩,
  ⟨some 10, none, .mov (.tmp 16)⟩])
 k_history_Book_Answered_p2)
def k_history_Book_Answered : AFun := ⟨62, [], (.seq (.region [⟨some 8, none, .box (.tmp 3)⟩])
 (.seq (.seq (.region [⟨some 11, none, .mov (.tmp 0)⟩,
  ⟨some 12, none, .eqv false .ptr (.tmp 11) (.const .nilptr)⟩])
 (.cond (.tmp 12) .ret .skip))
 k_history_Book_Answered_p3))⟩
theorem c_history_Book_Answered : (XTab.of Tryz.prog).code 31 = some k_history_Book_Answered := by kernel_rfl
def k_history_Book_Ops_p0 : ACode := (.seq (.region [⟨some 2, none, .mov (.const .nilslice)⟩])
 .ret)
def k_history_Book_Ops_p1 : ACode := (.region [⟨some 23, none, .mov (.tmp 3)⟩,
  ⟨some 24, none, .load 9 true (.tmp 5)⟩,
  ⟨some 25, none, .buildSlice 1 [(.int .i64 0), (.int .i64 0), (.int .i64 0), (.str []), (.int .i64 0), (.int .i64 0), (.int .i64 0), (.bool false), .nilslice] [(0, 9, (.tmp 24))]⟩,
  ⟨some 26, none, .append 9 96 (.tmp 23) (.tmp 25)⟩,
  ⟨some 3, none, .mov (.tmp 26)⟩])
def k_history_Book_Ops_p2 : ACode := (.seq (.region [⟨some 17, none, .fieldAddr 6 (.tmp 5)⟩,
  ⟨some 18, none, .fieldAddr 2 (.tmp 17)⟩,
  ⟨some 19, none, .load 1 false (.tmp 18)⟩,
  ⟨some 20, none, .call (.const (.func (.func n_slices_Clone_string_string) [] [])) [(.tmp 19)]⟩,
  ⟨some 21, none, .fieldAddr 6 (.tmp 5)⟩,
  ⟨some 22, none, .fieldAddr 2 (.tmp 21)⟩,
  ⟨none, none, .store 1 (.tmp 22) (.tmp 20)⟩])
 k_history_Book_Ops_p1)
def k_history_Book_Ops_p3 : ACode := (.seq (.region [⟨some 15, none, .indexAddr 9 (.tmp 11) (.tmp 13)⟩,
  ⟨some 16, none, .load 9 true (.tmp 15)⟩,
  ⟨some 5, none, .alloc [(.int .i64 0), (.int .i64 0), (.int .i64 0), (.str []), (.int .i64 0), (.int .i64 0), (.int .i64 0), (.bool false), .nilslice]⟩,
  ⟨none, none, .store 9 (.tmp 5) (.tmp 16)⟩])
 k_history_Book_Ops_p2)
def k_history_Book_Ops_p4 : ACode := (.seq (.region [⟨some 14, none, .bin .lss (.tmp 13) (.tmp 12)⟩])
 (.seq (.cond (.tmp 14) .skip (.exit 0))
 (.seq (.block 1 k_history_Book_Ops_p3)
 (.region [⟨some 27, none, .bin .add (.tmp 13) (.const (.int .i64 1))⟩,
  ⟨some 13, none, .mov (.tmp 27)⟩]))))
def k_history_Book_Ops_p5 : ACode := (.seq (.seq (.region [⟨some 8, none, .mov (.tmp 0)⟩,
  ⟨some 9, none, .nilCheck (.tmp 8)⟩,
  ⟨some 10, none, .fieldAddr 0 (.tmp 9)⟩,
  ⟨some 11, none, .load 1 false (.tmp 10)⟩,
  ⟨some 12, none, .lenSl (.tmp 11)⟩,
  ⟨some 13, none, .mov (.const (.int .i64 0))⟩])
 (.block 0 (.loop k_history_Book_Ops_p4)))
 (.seq (.region [⟨some 28, none, .mov (.tmp 3)⟩,
  ⟨some 2, none, .mov (.tmp 28)⟩])
 .ret))
def k_history_Book_Ops : AFun := ⟨29, [.tmp 2], (.seq (.region [⟨some 2, none, .mov (.const .nilslice)⟩])
 (.seq (.seq (.region [⟨some 6, none, .mov (.tmp 0)⟩,
  ⟨some 7, none, .eqv false .ptr (.tmp 6) (.const .nilptr)⟩])
 (.cond (.tmp 7) k_history_Book_Ops_p0 .skip))
 (.seq (.region [⟨some 3, none, .mov (.const .nilslice)⟩])
 k_history_Book_Ops_p5)))⟩
theorem c_history_Book_Ops : (XTab.of Tryz.prog).code 32 = some k_history_Book_Ops := by kernel_rfl
def k_history_play_p0 : ACode := (.region [⟨some 68, none, .mov (.tmp 6)⟩,
  ⟨some 69, none, .mov (.tmp 6)⟩,
  ⟨some 70, none, .nilCheck (.tmp 69)⟩,
  ⟨some 71, none, .fieldAddr 3 (.tmp 70)⟩,
  ⟨some 72, none, .load 1 false (.tmp 71)⟩,
  ⟨some 73, none, .mkMap⟩,
  ⟨some 74, none, .buildSlice 1 [.nilmap] [(0, 1, (.tmp 73))]⟩,
  ⟨some 75, none, .append 1 8 (.tmp 72) (.tmp 74)⟩,
  ⟨some 76, none, .nilCheck (.tmp 68)⟩,
  ⟨some 77, none, .fieldAddr 3 (.tmp 76)⟩,
  ⟨none, none, .store 1 (.tmp 77) (.tmp 75)⟩])
def k_history_play_p1 : ACode := (.region [⟨some 34, none, .mov (.tmp 6)⟩,
  ⟨some 35, none, .mov (.tmp 6)⟩,
  ⟨some 36, none, .nilCheck (.tmp 35)⟩,
  ⟨some 37, none, .fieldAddr 2 (.tmp 36)⟩,
  ⟨some 38, none, .load 1 false (.tmp 37)⟩,
  ⟨some 39, none, .buildSlice 1 [(.int .i64 0)] [(0, 1, (.const (.int .i64 0)))]⟩,
  ⟨some 40, none, .append 1 8 (.tmp 38) (.tmp 39)⟩,
  ⟨some 41, none, .nilCheck (.tmp 34)⟩,
  ⟨some 42, none, .fieldAddr 2 (.tmp 41)⟩,
  ⟨none, none, .store 1 (.tmp 42) (.tmp 40)⟩])
def k_history_play_p2 : ACode := (.seq (.drawn [⟨⟨some 58, none, .mov (.tmp 6)⟩, false, [], []⟩,
  ⟨⟨some 59, none, .mov (.tmp 6)⟩, false, [], []⟩,
  ⟨⟨some 60, none, .nilCheck (.tmp 59)⟩, false, [1], []⟩,
  ⟨⟨some 61, none, .fieldAddr 1 (.tmp 60)⟩, false, [2, 1], []⟩,
  ⟨⟨some 62, none, .load 1 false (.tmp 61)⟩, false, [3, 2, 1], []⟩,
  ⟨⟨some 63, none, .load 9 true (.tmp 8)⟩, false, [], []⟩,
  ⟨⟨some 64, none, .buildSlice 1 [(.int .i64 0), (.int .i64 0), (.int .i64 0), (.str []), (.int .i64 0), (.int .i64 0), (.int .i64 0), (.bool false), .nilslice] [(0, 9, (.tmp 63))]⟩, true, [5], []⟩,
  ⟨⟨some 65, none, .append 9 96 (.tmp 62) (.tmp 64)⟩, true, [6, 5, 4, 3, 2, 1], []⟩,
  ⟨⟨some 66, none, .nilCheck (.tmp 58)⟩, false, [7, 6, 5, 4, 3, 2, 1, 0], []⟩,
  ⟨⟨some 67, none, .fieldAddr 1 (.tmp 66)⟩, false, [8, 7, 6, 5, 4, 3, 2, 1, 0], []⟩,
  ⟨⟨none, none, .store 1 (.tmp 67) (.tmp 65)⟩, true, [9, 8, 7, 6, 5, 4, 3, 2, 1, 0], []⟩])
 k_history_play_p0)
def k_history_play_p3 : ACode := (.seq (.drawn [⟨⟨some 24, none, .mov (.tmp 6)⟩, false, [], []⟩,
  ⟨⟨some 25, none, .mov (.tmp 6)⟩, false, [], []⟩,
  ⟨⟨some 26, none, .nilCheck (.tmp 25)⟩, false, [1], []⟩,
  ⟨⟨some 27, none, .fieldAddr 0 (.tmp 26)⟩, false, [2, 1], []⟩,
  ⟨⟨some 28, none, .load 1 false (.tmp 27)⟩, false, [3, 2, 1], []⟩,
  ⟨⟨some 29, none, .load 9 true (.tmp 8)⟩, false, [], []⟩,
  ⟨⟨some 30, none, .buildSlice 1 [(.int .i64 0), (.int .i64 0), (.int .i64 0), (.str []), (.int .i64 0), (.int .i64 0), (.int .i64 0), (.bool false), .nilslice] [(0, 9, (.tmp 29))]⟩, true, [5], []⟩,
  ⟨⟨some 31, none, .append 9 96 (.tmp 28) (.tmp 30)⟩, true, [6, 5, 4, 3, 2, 1], []⟩,
  ⟨⟨some 32, none, .nilCheck (.tmp 24)⟩, false, [7, 6, 5, 4, 3, 2, 1, 0], []⟩,
  ⟨⟨some 33, none, .fieldAddr 0 (.tmp 32)⟩, false, [8, 7, 6, 5, 4, 3, 2, 1, 0], []⟩,
  ⟨⟨none, none, .store 1 (.tmp 33) (.tmp 31)⟩, true, [9, 8, 7, 6, 5, 4, 3, 2, 1, 0], []⟩])
 k_history_play_p1)
def k_history_play_p4 : ACode := (.seq (.region [⟨some 54, none, .fieldAddr 0 (.tmp 8)⟩,
  ⟨some 55, none, .fieldAddr 0 (.tmp 54)⟩,
  ⟨some 56, none, .load 1 false (.tmp 55)⟩,
  ⟨some 57, none, .bin .eql (.tmp 56) (.const (.int .i64 4))⟩,
  ⟨some 53, none, .mov (.tmp 57)⟩])
 (.cond (.tmp 53) k_history_play_p2 k_history_play_p3))
def k_history_play_p5 : ACode := (.seq (.region [⟨some 44, none, .fieldAddr 0 (.tmp 8)⟩,
  ⟨some 45, none, .fieldAddr 0 (.tmp 44)⟩,
  ⟨some 46, none, .load 1 false (.tmp 45)⟩,
  ⟨some 47, none, .bin .eql (.tmp 46) (.const (.int .i64 4))⟩,
  ⟨some 48, none, .mov (.tmp 47)⟩,
  ⟨some 49, (some (48, true)), .fieldAddr 5 (.tmp 8)⟩,
  ⟨some 50, (some (48, true)), .load 1 false (.tmp 49)⟩,
  ⟨some 51, (some (48, true)), .bin .eql (.tmp 50) (.const (.int .i64 0))⟩,
  ⟨some 52, none, .pick (.tmp 48) (.tmp 51) (.const (.bool false))⟩,
  ⟨some 43, none, .mov (.tmp 52)⟩])
 (.cond (.tmp 43) .skip k_history_play_p4))
def k_history_play_p6 : ACode := (.seq (.region [⟨some 22, none, .indexAddr 9 (.tmp 18) (.tmp 20)⟩,
  ⟨some 23, none, .load 9 true (.tmp 22)⟩,
  ⟨some 8, none, .alloc [(.int .i64 0), (.int .i64 0), (.int .i64 0), (.str []), (.int .i64 0), (.int .i64 0), (.int .i64 0), (.bool false), .nilslice]⟩,
  ⟨none, none, .store 9 (.tmp 8) (.tmp 23)⟩])
 (.block 2 k_history_play_p5))
def k_history_play_p7 : ACode := (.seq (.region [⟨some 21, none, .bin .lss (.tmp 20) (.tmp 19)⟩])
 (.seq (.cond (.tmp 21) .skip (.exit 0))
 (.seq (.block 1 k_history_play_p6)
 (.region [⟨some 78, none, .bin .add (.tmp 20) (.const (.int .i64 1))⟩,
  ⟨some 20, none, .mov (.tmp 78)⟩]))))
def k_history_play_p8 : ACode := (.region [⟨some 100, none, .mov (.tmp 6)⟩,
  ⟨some 101, none, .nilCheck (.tmp 100)⟩,
  ⟨some 102, none, .fieldAddr 3 (.tmp 101)⟩,
  ⟨some 103, none, .load 1 false (.tmp 102)⟩,
  ⟨some 104, none, .mov (.tmp 11)⟩,
  ⟨some 105, none, .indexAddr 1 (.tmp 103) (.tmp 104)⟩,
  ⟨some 106, none, .load 1 false (.tmp 105)⟩,
  ⟨some 107, none, .mov (.tmp 10)⟩,
  ⟨none, none, .mapUpdate (.scalar .int) (.tmp 106) (.tmp 107) (.const (.int .i64 1))⟩])
def k_history_play_p9 : ACode := (.seq (.drawn [⟨⟨some 92, none, .mov (.tmp 9)⟩, false, [], []⟩,
  ⟨⟨some 93, none, .fieldAddr 0 (.tmp 12)⟩, false, [], []⟩,
  ⟨⟨some 94, none, .fieldAddr 3 (.tmp 93)⟩, false, [1], []⟩,
  ⟨⟨some 95, none, .load 1 false (.tmp 94)⟩, false, [2, 1], []⟩,
  ⟨⟨some 96, none, .call (.const (.func (.func n_machine_Machine_Ask) [] [])) [(.tmp 92), (.tmp 95)]⟩, true, [3, 2, 1, 0], []⟩,
  ⟨⟨some 97, none, .fieldAddr 6 (.tmp 12)⟩, false, [], []⟩,
  ⟨⟨some 98, none, .load 3 true (.tmp 97)⟩, false, [5], []⟩,
  ⟨⟨some 99, none, .call (.const (.func (.func n_history_same) [] [])) [(.tmp 96), (.tmp 98)]⟩, true, [6, 5, 4, 3, 2, 1, 0], []⟩])
 (.cond (.tmp 99) k_history_play_p8 .skip))
def k_history_play_p10 : ACode := (.seq (.region [⟨some 89, none, .mov (.tmp 87)⟩,
  ⟨some 90, none, .indexAddr 9 (.tmp 85) (.tmp 87)⟩,
  ⟨some 91, none, .load 9 true (.tmp 90)⟩,
  ⟨some 12, none, .alloc [(.int .i64 0), (.int .i64 0), (.int .i64 0), (.str []), (.int .i64 0), (.int .i64 0), (.int .i64 0), (.bool false), .nilslice]⟩,
  ⟨some 11, none, .mov (.tmp 89)⟩,
  ⟨none, none, .store 9 (.tmp 12) (.tmp 91)⟩])
 k_history_play_p9)
def k_history_play_p11 : ACode := (.seq (.region [⟨some 88, none, .bin .lss (.tmp 87) (.tmp 86)⟩])
 (.seq (.cond (.tmp 88) .skip (.exit 5))
 (.seq (.block 6 k_history_play_p10)
 (.region [⟨some 108, none, .bin .add (.tmp 87) (.const (.int .i64 1))⟩,
  ⟨some 87, none, .mov (.tmp 108)⟩]))))
def k_history_play_p12 : ACode := (.seq (.region [⟨some 4, none, .mov (.const .nilptr)⟩,
  ⟨some 5, none, .mov (.const (.bool false))⟩])
 .ret)
def k_history_play_p13 : ACode := (.seq (.region [⟨some 154, none, .fieldAddr 5 (.tmp 15)⟩,
  ⟨some 155, none, .load 1 false (.tmp 154)⟩,
  ⟨some 156, none, .bin .gtr (.tmp 155) (.const (.int .i64 0))⟩,
  ⟨some 157, none, .mov (.tmp 156)⟩,
  ⟨some 158, (some (157, true)), .load 3 true (.tmp 13)⟩,
  ⟨some 159, (some (157, true)), .fieldAddr 6 (.tmp 15)⟩,
  ⟨some 160, (some (157, true)), .load 3 true (.tmp 159)⟩,
  ⟨some 161, (some (157, true)), .call (.const (.func (.func n_history_same) [] [])) [(.tmp 158), (.tmp 160)]⟩,
  ⟨some 162, (some (157, true)), .un .not (.tmp 161)⟩,
  ⟨some 163, none, .pick (.tmp 157) (.tmp 162) (.const (.bool false))⟩])
 (.cond (.tmp 163) k_history_play_p12 .skip))
def k_history_play_p14 : ACode := (.seq (.region [⟨some 146, none, .mov (.tmp 6)⟩,
  ⟨some 147, none, .nilCheck (.tmp 146)⟩,
  ⟨some 148, none, .fieldAddr 2 (.tmp 147)⟩,
  ⟨some 149, none, .load 1 false (.tmp 148)⟩,
  ⟨some 150, none, .mov (.tmp 14)⟩,
  ⟨some 151, none, .mov (.tmp 10)⟩,
  ⟨some 152, none, .bin .add (.tmp 151) (.const (.int .i64 1))⟩,
  ⟨some 153, none, .indexAddr 1 (.tmp 149) (.tmp 150)⟩,
  ⟨none, none, .store 1 (.tmp 153) (.tmp 152)⟩])
 k_history_play_p13)
def k_history_play_p15 : ACode := (.seq (.region [⟨some 129, none, .fieldAddr 0 (.tmp 15)⟩,
  ⟨some 130, none, .load 4 true (.tmp 129)⟩,
  ⟨some 131, none, .mov (.tmp 0)⟩,
  ⟨some 132, none, .mov (.tmp 10)⟩,
  ⟨some 133, none, .indexAddr 4 (.tmp 131) (.tmp 132)⟩,
  ⟨some 134, none, .load 4 true (.tmp 133)⟩,
  ⟨some 135, none, .eqAgg false [.int, .int, .int, .str] (.tmp 130) (.tmp 134)⟩,
  ⟨some 136, none, .mov (.tmp 135)⟩,
  ⟨some 137, (some (136, true)), .mov (.tmp 6)⟩,
  ⟨some 138, (some (136, true)), .nilCheck (.tmp 137)⟩,
  ⟨some 139, (some (136, true)), .fieldAddr 2 (.tmp 138)⟩,
  ⟨some 140, (some (136, true)), .load 1 false (.tmp 139)⟩,
  ⟨some 141, (some (136, true)), .mov (.tmp 14)⟩,
  ⟨some 142, (some (136, true)), .indexAddr 1 (.tmp 140) (.tmp 141)⟩,
  ⟨some 143, (some (136, true)), .load 1 false (.tmp 142)⟩,
  ⟨some 144, (some (136, true)), .bin .eql (.tmp 143) (.const (.int .i64 0))⟩,
  ⟨some 145, none, .pick (.tmp 136) (.tmp 144) (.const (.bool false))⟩])
 (.cond (.tmp 145) k_history_play_p14 .skip))
def k_history_play_p16 : ACode := (.seq (.region [⟨some 126, none, .mov (.tmp 124)⟩,
  ⟨some 127, none, .indexAddr 9 (.tmp 122) (.tmp 124)⟩,
  ⟨some 128, none, .load 9 true (.tmp 127)⟩,
  ⟨some 15, none, .alloc [(.int .i64 0), (.int .i64 0), (.int .i64 0), (.str []), (.int .i64 0), (.int .i64 0), (.int .i64 0), (.bool false), .nilslice]⟩,
  ⟨some 14, none, .mov (.tmp 126)⟩,
  ⟨none, none, .store 9 (.tmp 15) (.tmp 128)⟩])
 k_history_play_p15)
def k_history_play_p17 : ACode := (.seq (.region [⟨some 125, none, .bin .lss (.tmp 124) (.tmp 123)⟩])
 (.seq (.cond (.tmp 125) .skip (.exit 7))
 (.seq (.block 8 k_history_play_p16)
 (.region [⟨some 164, none, .bin .add (.tmp 124) (.const (.int .i64 1))⟩,
  ⟨some 124, none, .mov (.tmp 164)⟩]))))
def k_history_play_p18 : ACode := (.seq (.region [⟨some 119, none, .mov (.tmp 6)⟩,
  ⟨some 120, none, .nilCheck (.tmp 119)⟩,
  ⟨some 121, none, .fieldAddr 0 (.tmp 120)⟩,
  ⟨some 122, none, .load 1 false (.tmp 121)⟩,
  ⟨some 123, none, .lenSl (.tmp 122)⟩,
  ⟨some 124, none, .mov (.const (.int .i64 0))⟩])
 (.block 7 (.loop k_history_play_p17)))
def k_history_play_p19 : ACode := (.seq (.region [⟨some 113, none, .mov (.tmp 9)⟩,
  ⟨some 114, none, .mov (.tmp 0)⟩,
  ⟨some 115, none, .mov (.tmp 10)⟩,
  ⟨some 116, none, .indexAddr 4 (.tmp 114) (.tmp 115)⟩,
  ⟨some 117, none, .load 4 true (.tmp 116)⟩,
  ⟨some 118, none, .call (.const (.func (.func n_machine_Machine_Apply) [] [])) [(.tmp 113), (.tmp 117)]⟩,
  ⟨some 13, none, .alloc [(.int .i64 0), (.bool false), .nilslice]⟩,
  ⟨none, none, .store 3 (.tmp 13) (.tmp 118)⟩])
 k_history_play_p18)
def k_history_play_p20 : ACode := (.seq (.seq (.region [⟨some 82, none, .mov (.tmp 6)⟩,
  ⟨some 83, none, .nilCheck (.tmp 82)⟩,
  ⟨some 84, none, .fieldAddr 1 (.tmp 83)⟩,
  ⟨some 85, none, .load 1 false (.tmp 84)⟩,
  ⟨some 86, none, .lenSl (.tmp 85)⟩,
  ⟨some 87, none, .mov (.const (.int .i64 0))⟩])
 (.block 5 (.loop k_history_play_p11)))
 (.seq (.seq (.region [⟨some 109, none, .mov (.tmp 10)⟩,
  ⟨some 110, none, .mov (.tmp 0)⟩,
  ⟨some 111, none, .lenSl (.tmp 110)⟩,
  ⟨some 112, none, .bin .eql (.tmp 109) (.tmp 111)⟩])
 (.cond (.tmp 112) (.exit 3) .skip))
 k_history_play_p19))
def k_history_play_p21 : ACode := (.seq (.block 4 k_history_play_p20)
 (.region [⟨some 80, none, .mov (.tmp 10)⟩,
  ⟨some 81, none, .bin .add (.tmp 80) (.const (.int .i64 1))⟩,
  ⟨some 10, none, .mov (.tmp 81)⟩]))
def k_history_play_p22 : ACode := (.seq (.region [⟨some 165, none, .mov (.tmp 6)⟩,
  ⟨some 166, none, .mov (.tmp 6)⟩,
  ⟨some 167, none, .mov (.tmp 0)⟩,
  ⟨some 168, none, .lenSl (.tmp 167)⟩,
  ⟨some 169, none, .call (.const (.func (.func n_history_judge_fill) [] [])) [(.tmp 166), (.tmp 168)]⟩,
  ⟨some 4, none, .mov (.tmp 165)⟩,
  ⟨some 5, none, .mov (.tmp 169)⟩])
 .ret)
def k_history_play_p23 : ACode := (.seq (.seq (.region [⟨some 18, none, .mov (.tmp 1)⟩,
  ⟨some 19, none, .lenSl (.tmp 18)⟩,
  ⟨some 20, none, .mov (.const (.int .i64 0))⟩])
 (.block 0 (.loop k_history_play_p7)))
 (.seq (.region [⟨some 79, none, .call (.const (.func (.func n_machine_New) [] [])) []⟩,
  ⟨some 9, none, .mov (.tmp 79)⟩])
 (.seq (.seq (.region [⟨some 10, none, .mov (.const (.int .i64 0))⟩])
 (.block 3 (.loop k_history_play_p21)))
 k_history_play_p22)))
def k_history_play : AFun := ⟨170, [.tmp 4, .tmp 5], (.seq (.region [⟨some 4, none, .mov (.const .nilptr)⟩,
  ⟨some 5, none, .mov (.const (.bool false))⟩])
 (.seq (.region [⟨some 16, none, .build [.nilslice, .nilslice, .nilslice, .nilslice] []⟩,
  ⟨some 17, none, .box (.tmp 16)⟩,
  ⟨some 6, none, .mov (.tmp 17)⟩])
 k_history_play_p23))⟩
theorem c_history_play : (XTab.of Tryz.prog).code 33 = some k_history_play := by kernel_rfl
def k_history_judge_ordered_p0 : ACode := (.seq (.region [⟨some 2, none, .mov (.const (.bool false))⟩])
 .ret)
def k_history_judge_ordered_p1 : ACode := (.seq (.region [⟨some 21, none, .mov (.tmp 0)⟩,
  ⟨some 22, none, .nilCheck (.tmp 21)⟩,
  ⟨some 23, none, .fieldAddr 0 (.tmp 22)⟩,
  ⟨some 24, none, .load 1 false (.tmp 23)⟩,
  ⟨some 25, none, .mov (.tmp 3)⟩,
  ⟨some 26, none, .indexAddr 9 (.tmp 24) (.tmp 25)⟩,
  ⟨some 27, none, .load 9 true (.tmp 26)⟩,
  ⟨some 28, none, .mov (.tmp 0)⟩,
  ⟨some 29, none, .nilCheck (.tmp 28)⟩,
  ⟨some 30, none, .fieldAddr 0 (.tmp 29)⟩,
  ⟨some 31, none, .load 1 false (.tmp 30)⟩,
  ⟨some 32, none, .mov (.tmp 4)⟩,
  ⟨some 33, none, .indexAddr 9 (.tmp 31) (.tmp 32)⟩,
  ⟨some 34, none, .load 9 true (.tmp 33)⟩,
  ⟨some 35, none, .call (.const (.func (.func n_history_ahead) [] [])) [(.tmp 27), (.tmp 34)]⟩,
  ⟨some 36, none, .mov (.tmp 35)⟩,
  ⟨some 37, (some (36, true)), .mov (.tmp 0)⟩,
  ⟨some 38, (some (36, true)), .nilCheck (.tmp 37)⟩,
  ⟨some 39, (some (36, true)), .fieldAddr 2 (.tmp 38)⟩,
  ⟨some 40, (some (36, true)), .load 1 false (.tmp 39)⟩,
  ⟨some 41, (some (36, true)), .mov (.tmp 3)⟩,
  ⟨some 42, (some (36, true)), .indexAddr 1 (.tmp 40) (.tmp 41)⟩,
  ⟨some 43, (some (36, true)), .load 1 false (.tmp 42)⟩,
  ⟨some 44, (some (36, true)), .mov (.tmp 0)⟩,
  ⟨some 45, (some (36, true)), .nilCheck (.tmp 44)⟩,
  ⟨some 46, (some (36, true)), .fieldAddr 2 (.tmp 45)⟩,
  ⟨some 47, (some (36, true)), .load 1 false (.tmp 46)⟩,
  ⟨some 48, (some (36, true)), .mov (.tmp 4)⟩,
  ⟨some 49, (some (36, true)), .indexAddr 1 (.tmp 47) (.tmp 48)⟩,
  ⟨some 50, (some (36, true)), .load 1 false (.tmp 49)⟩,
  ⟨some 51, (some (36, true)), .bin .geq (.tmp 43) (.tmp 50)⟩,
  ⟨some 52, none, .pick (.tmp 36) (.tmp 51) (.const (.bool false))⟩])
 (.cond (.tmp 52) k_history_judge_ordered_p0 .skip))
def k_history_judge_ordered_p2 : ACode := (.seq (.cond (.tmp 19) .skip (.exit 2))
 (.seq (.block 3 (.seq (.region [⟨some 20, none, .mov (.tmp 18)⟩,
  ⟨some 4, none, .mov (.tmp 20)⟩])
 k_history_judge_ordered_p1))
 (.region [⟨some 53, none, .bin .add (.tmp 18) (.const (.int .i64 1))⟩,
  ⟨some 18, none, .mov (.tmp 53)⟩])))
def k_history_judge_ordered_p3 : ACode := (.seq (.region [⟨some 19, none, .bin .lss (.tmp 18) (.tmp 17)⟩])
 k_history_judge_ordered_p2)
def k_history_judge_ordered_p4 : ACode := (.seq (.region [⟨some 13, none, .mov (.tmp 0)⟩,
  ⟨some 14, none, .nilCheck (.tmp 13)⟩,
  ⟨some 15, none, .fieldAddr 0 (.tmp 14)⟩,
  ⟨some 16, none, .load 1 false (.tmp 15)⟩,
  ⟨some 17, none, .lenSl (.tmp 16)⟩,
  ⟨some 18, none, .mov (.const (.int .i64 0))⟩])
 (.block 2 (.loop k_history_judge_ordered_p3)))
def k_history_judge_ordered_p5 : ACode := (.seq (.cond (.tmp 11) .skip (.exit 0))
 (.seq (.block 1 (.seq (.region [⟨some 12, none, .mov (.tmp 10)⟩,
  ⟨some 3, none, .mov (.tmp 12)⟩])
 k_history_judge_ordered_p4))
 (.region [⟨some 54, none, .bin .add (.tmp 10) (.const (.int .i64 1))⟩,
  ⟨some 10, none, .mov (.tmp 54)⟩])))
def k_history_judge_ordered_p6 : ACode := (.seq (.region [⟨some 11, none, .bin .lss (.tmp 10) (.tmp 9)⟩])
 k_history_judge_ordered_p5)
def k_history_judge_ordered_p7 : ACode := (.seq (.seq (.region [⟨some 5, none, .mov (.tmp 0)⟩,
  ⟨some 6, none, .nilCheck (.tmp 5)⟩,
  ⟨some 7, none, .fieldAddr 0 (.tmp 6)⟩,
  ⟨some 8, none, .load 1 false (.tmp 7)⟩,
  ⟨some 9, none, .lenSl (.tmp 8)⟩,
  ⟨some 10, none, .mov (.const (.int .i64 0))⟩])
 (.block 0 (.loop k_history_judge_ordered_p6)))
 (.seq (.region [⟨some 2, none, .mov (.const (.bool true))⟩])
 .ret))
def k_history_judge_ordered : AFun := ⟨55, [.tmp 2], (.seq (.region [⟨some 2, none, .mov (.const (.bool false))⟩])
 k_history_judge_ordered_p7)⟩
theorem c_history_judge_ordered : (XTab.of Tryz.prog).code 34 = some k_history_judge_ordered := by kernel_rfl
def k_slices_SortStableFunc_int_int : AFun := ⟨9, [], (.region [⟨some 4, none, .mov (.tmp 0)⟩,
  ⟨some 5, none, .mov (.tmp 0)⟩,
  ⟨some 6, none, .lenSl (.tmp 5)⟩,
  ⟨some 7, none, .mov (.tmp 1)⟩,
  ⟨some 8, none, .call (.const (.func (.func n_slices_stableCmpFunc_int) [] [])) [(.tmp 4), (.tmp 6), (.tmp 7)]⟩])⟩
theorem c_slices_SortStableFunc_int_int : (XTab.of Tryz.prog).code 35 = some k_slices_SortStableFunc_int_int := by kernel_rfl
def k_history_ahead_p0 : ACode := (.seq (.region [⟨some 5, none, .fieldAddr 5 (.tmp 2)⟩,
  ⟨some 6, none, .load 1 false (.tmp 5)⟩,
  ⟨some 7, none, .bin .gtr (.tmp 6) (.const (.int .i64 0))⟩,
  ⟨some 8, none, .mov (.tmp 7)⟩,
  ⟨some 9, (some (8, true)), .fieldAddr 5 (.tmp 2)⟩,
  ⟨some 10, (some (8, true)), .load 1 false (.tmp 9)⟩,
  ⟨some 11, (some (8, true)), .fieldAddr 4 (.tmp 3)⟩,
  ⟨some 12, (some (8, true)), .load 1 false (.tmp 11)⟩,
  ⟨some 13, (some (8, true)), .bin .lss (.tmp 10) (.tmp 12)⟩,
  ⟨some 14, none, .pick (.tmp 8) (.tmp 13) (.const (.bool false))⟩,
  ⟨some 4, none, .mov (.tmp 14)⟩])
 .ret)
def k_history_ahead : AFun := ⟨15, [.tmp 4], (.seq (.region [⟨some 2, none, .box (.tmp 0)⟩,
  ⟨some 3, none, .box (.tmp 1)⟩,
  ⟨some 4, none, .mov (.const (.bool false))⟩])
 k_history_ahead_p0)⟩
theorem c_history_ahead : (XTab.of Tryz.prog).code 38 = some k_history_ahead := by kernel_rfl
def k_history_some_p0 : ACode := (.seq (.region [⟨some 4, none, .mov (.const (.bool true))⟩])
 .ret)
def k_history_some_p1 : ACode := (.seq (.region [⟨some 4, none, .mov (.const (.bool true))⟩])
 .ret)
def k_history_some_p2 : ACode := (.seq (.drawn [⟨⟨some 42, none, .mov (.tmp 0)⟩, false, [], []⟩,
  ⟨⟨some 44, none, .load 9 true (.tmp 6)⟩, false, [], []⟩,
  ⟨⟨some 45, none, .buildSlice 1 [(.int .i64 0), (.int .i64 0), (.int .i64 0), (.str []), (.int .i64 0), (.int .i64 0), (.int .i64 0), (.bool false), .nilslice] [(0, 9, (.tmp 44))]⟩, true, [1], []⟩,
  ⟨⟨some 47, none, .mov (.tmp 7)⟩, false, [], []⟩,
  ⟨⟨some 43, none, .call (.const (.func (.func n_slices_Clone_api_Op_api_Op) [] [])) [(.tmp 42)]⟩, true, [0], []⟩,
  ⟨⟨some 46, none, .append 9 96 (.tmp 43) (.tmp 45)⟩, true, [2, 1, 4, 0], []⟩,
  ⟨⟨some 48, none, .call (.const (.func (.func n_history_some) [] [])) [(.tmp 46), (.tmp 47)]⟩, true, [3, 5, 2, 1, 4, 0], []⟩])
 (.cond (.tmp 48) k_history_some_p1 .skip))
def k_history_some_p3 : ACode := (.seq (.drawn [⟨⟨some 33, none, .mov (.tmp 1)⟩, false, [], []⟩,
  ⟨⟨some 34, none, .mov (.tmp 5)⟩, false, [], []⟩,
  ⟨⟨some 35, none, .slice 9 (.tmp 33) none (some (.tmp 34)) none⟩, false, [1, 0], []⟩,
  ⟨⟨some 36, none, .call (.const (.func (.func n_slices_Clone_api_Op_api_Op) [] [])) [(.tmp 35)]⟩, true, [2, 1, 0], []⟩,
  ⟨⟨some 37, none, .mov (.tmp 1)⟩, false, [], []⟩,
  ⟨⟨some 38, none, .mov (.tmp 5)⟩, false, [], []⟩,
  ⟨⟨some 39, none, .bin .add (.tmp 38) (.const (.int .i64 1))⟩, false, [5], []⟩,
  ⟨⟨some 40, none, .slice 9 (.tmp 37) (some (.tmp 39)) none none⟩, false, [6, 5, 4], []⟩,
  ⟨⟨some 41, none, .append 9 96 (.tmp 36) (.tmp 40)⟩, true, [7, 6, 5, 4, 3, 2, 1, 0], []⟩,
  ⟨⟨some 7, none, .mov (.tmp 41)⟩, false, [8, 7, 6, 5, 4, 3, 2, 1, 0], []⟩])
 k_history_some_p2)
def k_history_some_p4 : ACode := (.seq (.seq (.drawn [⟨⟨some 21, none, .fieldAddr 5 (.tmp 6)⟩, false, [], []⟩,
  ⟨⟨some 22, none, .load 1 false (.tmp 21)⟩, false, [0], []⟩,
  ⟨⟨some 23, none, .bin .gtr (.tmp 22) (.const (.int .i64 0))⟩, false, [1, 0], []⟩,
  ⟨⟨some 24, none, .mov (.tmp 23)⟩, false, [2, 1, 0], []⟩,
  ⟨⟨some 25, (some (24, true)), .mov (.tmp 0)⟩, false, [3, 2, 1, 0], []⟩,
  ⟨⟨some 26, (some (24, true)), .load 9 true (.tmp 6)⟩, false, [3, 2, 1, 0], []⟩,
  ⟨⟨some 27, (some (24, true)), .call (.const (.func (.func n_history_answer) [] [])) [(.tmp 25), (.tmp 26)]⟩, true, [5, 4, 3, 2, 1, 0], []⟩,
  ⟨⟨some 28, (some (24, true)), .fieldAddr 6 (.tmp 6)⟩, false, [3, 2, 1, 0], []⟩,
  ⟨⟨some 29, (some (24, true)), .load 3 true (.tmp 28)⟩, false, [7, 3, 2, 1, 0], []⟩,
  ⟨⟨some 30, (some (24, true)), .call (.const (.func (.func n_history_same) [] [])) [(.tmp 27), (.tmp 29)]⟩, true, [8, 7, 6, 5, 4, 3, 2, 1, 0], []⟩,
  ⟨⟨some 31, (some (24, true)), .un .not (.tmp 30)⟩, false, [9, 8, 7, 6, 5, 4, 3, 2, 1, 0], []⟩,
  ⟨⟨some 32, none, .pick (.tmp 24) (.tmp 31) (.const (.bool false))⟩, false, [10, 9, 8, 7, 6, 5, 4, 3, 2, 1, 0], []⟩])
 (.cond (.tmp 32) (.exit 1) .skip))
 k_history_some_p3)
def k_history_some_p5 : ACode := (.seq (.region [⟨some 15, none, .mov (.tmp 13)⟩,
  ⟨some 16, none, .indexAddr 9 (.tmp 11) (.tmp 13)⟩,
  ⟨some 17, none, .load 9 true (.tmp 16)⟩,
  ⟨some 6, none, .alloc [(.int .i64 0), (.int .i64 0), (.int .i64 0), (.str []), (.int .i64 0), (.int .i64 0), (.int .i64 0), (.bool false), .nilslice]⟩,
  ⟨some 5, none, .mov (.tmp 15)⟩,
  ⟨none, none, .store 9 (.tmp 6) (.tmp 17)⟩])
 (.seq (.seq (.region [⟨some 18, none, .mov (.tmp 1)⟩,
  ⟨some 19, none, .mkFunc (.func n_history_some_2) [] [(.tmp 6)]⟩,
  ⟨some 20, none, .call (.const (.func (.func n_slices_ContainsFunc_api_Op_api_Op) [] [])) [(.tmp 18), (.tmp 19)]⟩])
 (.cond (.tmp 20) (.exit 1) .skip))
 k_history_some_p4))
def k_history_some_p6 : ACode := (.seq (.region [⟨some 14, none, .bin .lss (.tmp 13) (.tmp 12)⟩])
 (.seq (.cond (.tmp 14) .skip (.exit 0))
 (.seq (.block 1 k_history_some_p5)
 (.region [⟨some 49, none, .bin .add (.tmp 13) (.const (.int .i64 1))⟩,
  ⟨some 13, none, .mov (.tmp 49)⟩]))))
def k_history_some_p7 : ACode := (.seq (.seq (.region [⟨some 8, none, .mov (.tmp 1)⟩,
  ⟨some 9, none, .call (.const (.func (.func n_slices_ContainsFunc_api_Op_api_Op) [] [])) [(.tmp 8), (.const (.func (.func n_history_some_1) [] []))]⟩,
  ⟨some 10, none, .un .not (.tmp 9)⟩])
 (.cond (.tmp 10) k_history_some_p0 .skip))
 (.seq (.seq (.region [⟨some 11, none, .mov (.tmp 1)⟩,
  ⟨some 12, none, .lenSl (.tmp 11)⟩,
  ⟨some 13, none, .mov (.const (.int .i64 0))⟩])
 (.block 0 (.loop k_history_some_p6)))
 (.seq (.region [⟨some 4, none, .mov (.const (.bool false))⟩])
 .ret)))
def k_history_some : AFun := ⟨50, [.tmp 4], (.seq (.region [⟨some 4, none, .mov (.const (.bool false))⟩])
 k_history_some_p7)⟩
theorem c_history_some : (XTab.of Tryz.prog).code 39 = some k_history_some := by kernel_rfl
end Go.Proofs.YtladocoibpljnaaGreatDoor
