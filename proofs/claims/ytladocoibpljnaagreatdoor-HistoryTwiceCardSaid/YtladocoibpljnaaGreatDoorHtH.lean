/- A part of the proof: C7, C8, C9, C10, C11. -/
import Derived.Test.YtladocoibpljnaaGreatDoorHtE
set_option maxRecDepth 100000
set_option linter.unusedVariables false
namespace Go.Proofs.YtladocoibpljnaaGreatDoor
open Go.AE
def k_machine_own_p0 : ACode := (.seq (.region [⟨some 3, none, .fieldAddr 2 (.tmp 1)⟩,
  ⟨some 4, none, .load 1 false (.tmp 3)⟩,
  ⟨some 5, none, .call (.const (.func (.func n_slices_Clone_string_string) [] [])) [(.tmp 4)]⟩,
  ⟨some 6, none, .fieldAddr 2 (.tmp 1)⟩,
  ⟨none, none, .store 1 (.tmp 6) (.tmp 5)⟩])
 (.seq (.region [⟨some 7, none, .load 3 true (.tmp 1)⟩,
  ⟨none, none, .store 3 (.tmp 2) (.tmp 7)⟩])
 .ret))
def k_machine_own : AFun := ⟨8, [.cell 2 3 true], (.seq (.region [⟨some 1, none, .box (.tmp 0)⟩,
  ⟨some 2, none, .alloc [(.int .i64 0), (.bool false), .nilslice]⟩])
 k_machine_own_p0)⟩
theorem c_machine_own : (XTab.of Tryz.prog).code 122 = some k_machine_own := by kernel_rfl
def k_machine_Machine_do_p0 : ACode := (.seq (.region [⟨some 21, none, .mov (.tmp 0)⟩,
  ⟨some 22, none, .fieldAddr 3 (.tmp 3)⟩,
  ⟨some 23, none, .load 1 false (.tmp 22)⟩,
  ⟨some 24, none, .call (.const (.func (.func n_machine_Machine_retract) [] [])) [(.tmp 21), (.tmp 23)]⟩,
  ⟨none, none, .store 3 (.tmp 4) (.tmp 24)⟩])
 .ret)
def k_machine_Machine_do_p1 : ACode := (.seq (.region [⟨some 15, none, .mov (.tmp 0)⟩,
  ⟨some 16, none, .fieldAddr 3 (.tmp 3)⟩,
  ⟨some 17, none, .load 1 false (.tmp 16)⟩,
  ⟨some 18, none, .call (.const (.func (.func n_machine_Machine_insert) [] [])) [(.tmp 15), (.tmp 17)]⟩,
  ⟨none, none, .store 3 (.tmp 4) (.tmp 18)⟩])
 .ret)
def k_machine_Machine_do_p2 : ACode := (.seq (.region [⟨some 20, none, .bin .eql (.tmp 6) (.const (.int .i64 3))⟩,
  ⟨some 19, none, .mov (.tmp 20)⟩])
 (.cond (.tmp 19) k_machine_Machine_do_p0 .skip))
def k_machine_Machine_do_p3 : ACode := (.seq (.region [⟨some 9, none, .mov (.tmp 0)⟩,
  ⟨some 10, none, .fieldAddr 3 (.tmp 3)⟩,
  ⟨some 11, none, .load 1 false (.tmp 10)⟩,
  ⟨some 12, none, .call (.const (.func (.func n_machine_Machine_install) [] [])) [(.tmp 9), (.tmp 11)]⟩,
  ⟨none, none, .store 3 (.tmp 4) (.tmp 12)⟩])
 .ret)
def k_machine_Machine_do_p4 : ACode := (.seq (.region [⟨some 14, none, .bin .eql (.tmp 6) (.const (.int .i64 2))⟩,
  ⟨some 13, none, .mov (.tmp 14)⟩])
 (.cond (.tmp 13) k_machine_Machine_do_p1 k_machine_Machine_do_p2))
def k_machine_Machine_do_p5 : ACode := (.seq (.region [⟨some 25, none, .mov (.tmp 0)⟩,
  ⟨some 26, none, .fieldAddr 3 (.tmp 3)⟩,
  ⟨some 27, none, .load 1 false (.tmp 26)⟩,
  ⟨some 28, none, .call (.const (.func (.func n_machine_Machine_Ask) [] [])) [(.tmp 25), (.tmp 27)]⟩,
  ⟨none, none, .store 3 (.tmp 4) (.tmp 28)⟩])
 .ret)
def k_machine_Machine_do_p6 : ACode := (.seq (.seq (.region [⟨some 5, none, .fieldAddr 0 (.tmp 3)⟩,
  ⟨some 6, none, .load 1 false (.tmp 5)⟩])
 (.block 0 (.seq (.region [⟨some 8, none, .bin .eql (.tmp 6) (.const (.int .i64 1))⟩,
  ⟨some 7, none, .mov (.tmp 8)⟩])
 (.cond (.tmp 7) k_machine_Machine_do_p3 k_machine_Machine_do_p4))))
 k_machine_Machine_do_p5)
def k_machine_Machine_do : AFun := ⟨29, [.cell 4 3 true], (.seq (.region [⟨some 3, none, .box (.tmp 1)⟩,
  ⟨some 4, none, .alloc [(.int .i64 0), (.bool false), .nilslice]⟩])
 k_machine_Machine_do_p6)⟩
theorem c_machine_Machine_do : (XTab.of Tryz.prog).code 123 = some k_machine_Machine_do := by kernel_rfl
def k_machine_Machine_Set_p0 : ACode := (.region [⟨some 8, none, .mov (.tmp 0)⟩,
  ⟨some 9, none, .mov (.tmp 1)⟩,
  ⟨some 10, none, .mov (.tmp 2)⟩,
  ⟨some 11, none, .load 3 true (.tmp 7)⟩,
  ⟨some 12, none, .build [(.int .i64 0), (.int .i64 0), (.bool false), .nilslice] [(0, 1, (.tmp 10)), (1, 3, (.tmp 11))]⟩,
  ⟨some 13, none, .nilCheck (.tmp 8)⟩,
  ⟨some 14, none, .fieldAddr 1 (.tmp 13)⟩,
  ⟨some 15, none, .indexArr 9 4 (.tmp 14) (.tmp 9)⟩,
  ⟨none, none, .store 4 (.tmp 15) (.tmp 12)⟩])
def k_machine_Machine_Set : AFun := ⟨16, [], (.seq (.region [⟨some 7, none, .box (.tmp 3)⟩])
 k_machine_Machine_Set_p0)⟩
theorem c_machine_Machine_Set : (XTab.of Tryz.prog).code 124 = some k_machine_Machine_Set := by kernel_rfl
def k_slices_insertionSortCmpFunc_int_p0 : ACode := (.region [⟨some 37, none, .mov (.tmp 0)⟩,
  ⟨some 38, none, .mov (.tmp 9)⟩,
  ⟨some 39, none, .mov (.tmp 0)⟩,
  ⟨some 40, none, .mov (.tmp 9)⟩,
  ⟨some 41, none, .bin .sub (.tmp 40) (.const (.int .i64 1))⟩,
  ⟨some 42, none, .mov (.tmp 0)⟩,
  ⟨some 43, none, .mov (.tmp 9)⟩,
  ⟨some 44, none, .bin .sub (.tmp 43) (.const (.int .i64 1))⟩,
  ⟨some 45, none, .indexAddr 1 (.tmp 42) (.tmp 44)⟩,
  ⟨some 46, none, .load 1 false (.tmp 45)⟩,
  ⟨some 47, none, .mov (.tmp 0)⟩,
  ⟨some 48, none, .mov (.tmp 9)⟩,
  ⟨some 49, none, .indexAddr 1 (.tmp 47) (.tmp 48)⟩,
  ⟨some 50, none, .load 1 false (.tmp 49)⟩,
  ⟨some 51, none, .indexAddr 1 (.tmp 37) (.tmp 38)⟩,
  ⟨none, none, .store 1 (.tmp 51) (.tmp 46)⟩,
  ⟨some 52, none, .indexAddr 1 (.tmp 39) (.tmp 41)⟩,
  ⟨none, none, .store 1 (.tmp 52) (.tmp 50)⟩])
def k_slices_insertionSortCmpFunc_int_p1 : ACode := (.seq (.seq (.region [⟨some 18, none, .mov (.tmp 9)⟩,
  ⟨some 19, none, .mov (.tmp 1)⟩,
  ⟨some 20, none, .bin .gtr (.tmp 18) (.tmp 19)⟩,
  ⟨some 21, none, .mov (.tmp 20)⟩,
  ⟨some 22, (some (21, true)), .mov (.tmp 3)⟩,
  ⟨some 23, (some (21, true)), .mov (.tmp 0)⟩,
  ⟨some 24, (some (21, true)), .mov (.tmp 9)⟩,
  ⟨some 25, (some (21, true)), .indexAddr 1 (.tmp 23) (.tmp 24)⟩,
  ⟨some 26, (some (21, true)), .load 1 false (.tmp 25)⟩,
  ⟨some 27, (some (21, true)), .mov (.tmp 0)⟩,
  ⟨some 28, (some (21, true)), .mov (.tmp 9)⟩,
  ⟨some 29, (some (21, true)), .bin .sub (.tmp 28) (.const (.int .i64 1))⟩,
  ⟨some 30, (some (21, true)), .indexAddr 1 (.tmp 27) (.tmp 29)⟩,
  ⟨some 31, (some (21, true)), .load 1 false (.tmp 30)⟩,
  ⟨some 32, (some (21, true)), .call (.tmp 22) [(.tmp 26), (.tmp 31)]⟩,
  ⟨some 33, (some (21, true)), .bin .lss (.tmp 32) (.const (.int .i64 0))⟩,
  ⟨some 34, none, .pick (.tmp 21) (.tmp 33) (.const (.bool false))⟩])
 (.cond (.tmp 34) .skip (.exit 2)))
 (.seq (.block 3 k_slices_insertionSortCmpFunc_int_p0)
 (.region [⟨some 35, none, .mov (.tmp 9)⟩,
  ⟨some 36, none, .bin .sub (.tmp 35) (.const (.int .i64 1))⟩,
  ⟨some 9, none, .mov (.tmp 36)⟩])))
def k_slices_insertionSortCmpFunc_int_p2 : ACode := (.seq (.block 1 (.seq (.region [⟨some 17, none, .mov (.tmp 8)⟩,
  ⟨some 9, none, .mov (.tmp 17)⟩])
 (.block 2 (.loop k_slices_insertionSortCmpFunc_int_p1))))
 (.region [⟨some 15, none, .mov (.tmp 8)⟩,
  ⟨some 16, none, .bin .add (.tmp 15) (.const (.int .i64 1))⟩,
  ⟨some 8, none, .mov (.tmp 16)⟩]))
def k_slices_insertionSortCmpFunc_int_p3 : ACode := (.seq (.seq (.region [⟨some 12, none, .mov (.tmp 8)⟩,
  ⟨some 13, none, .mov (.tmp 2)⟩,
  ⟨some 14, none, .bin .lss (.tmp 12) (.tmp 13)⟩])
 (.cond (.tmp 14) .skip (.exit 0)))
 k_slices_insertionSortCmpFunc_int_p2)
def k_slices_insertionSortCmpFunc_int : AFun := ⟨53, [], (.seq (.region [⟨some 10, none, .mov (.tmp 1)⟩,
  ⟨some 11, none, .bin .add (.tmp 10) (.const (.int .i64 1))⟩,
  ⟨some 8, none, .mov (.tmp 11)⟩])
 (.block 0 (.loop k_slices_insertionSortCmpFunc_int_p3)))⟩
theorem c_slices_insertionSortCmpFunc_int : (XTab.of Tryz.prog).code 125 = some k_slices_insertionSortCmpFunc_int := by kernel_rfl
def k_slices_IndexFunc_api_Term_api_Term_p0 : ACode := (.seq (.region [⟨some 17, none, .mov (.tmp 5)⟩,
  ⟨some 4, none, .mov (.tmp 17)⟩])
 .ret)
def k_slices_IndexFunc_api_Term_api_Term_p1 : ACode := (.seq (.region [⟨some 11, none, .mov (.tmp 1)⟩,
  ⟨some 12, none, .mov (.tmp 0)⟩,
  ⟨some 13, none, .mov (.tmp 5)⟩,
  ⟨some 14, none, .indexAddr 3 (.tmp 12) (.tmp 13)⟩,
  ⟨some 15, none, .load 3 true (.tmp 14)⟩,
  ⟨some 16, none, .call (.tmp 11) [(.tmp 15)]⟩])
 (.cond (.tmp 16) k_slices_IndexFunc_api_Term_api_Term_p0 .skip))
def k_slices_IndexFunc_api_Term_api_Term_p2 : ACode := (.seq (.cond (.tmp 9) .skip (.exit 0))
 (.seq (.block 1 (.seq (.region [⟨some 10, none, .mov (.tmp 8)⟩,
  ⟨some 5, none, .mov (.tmp 10)⟩])
 k_slices_IndexFunc_api_Term_api_Term_p1))
 (.region [⟨some 18, none, .bin .add (.tmp 8) (.const (.int .i64 1))⟩,
  ⟨some 8, none, .mov (.tmp 18)⟩])))
def k_slices_IndexFunc_api_Term_api_Term_p3 : ACode := (.seq (.region [⟨some 9, none, .bin .lss (.tmp 8) (.tmp 7)⟩])
 k_slices_IndexFunc_api_Term_api_Term_p2)
def k_slices_IndexFunc_api_Term_api_Term : AFun := ⟨19, [.tmp 4], (.seq (.region [⟨some 4, none, .mov (.const (.int .i64 0))⟩])
 (.seq (.seq (.region [⟨some 6, none, .mov (.tmp 0)⟩,
  ⟨some 7, none, .lenSl (.tmp 6)⟩,
  ⟨some 8, none, .mov (.const (.int .i64 0))⟩])
 (.block 0 (.loop k_slices_IndexFunc_api_Term_api_Term_p3)))
 (.seq (.region [⟨some 4, none, .mov (.const (.int .i64 (-1)))⟩])
 .ret)))⟩
theorem c_slices_IndexFunc_api_Term_api_Term : (XTab.of Tryz.prog).code 132 = some k_slices_IndexFunc_api_Term_api_Term := by kernel_rfl
def k_slices_BinarySearchFunc_relation_Row_relation_Row_relation_Row_p0 : ACode := (.seq (.region [⟨some 18, none, .mov (.tmp 9)⟩,
  ⟨some 19, none, .mov (.tmp 10)⟩,
  ⟨some 20, none, .bin .add (.tmp 18) (.tmp 19)⟩,
  ⟨some 21, none, .conv .u64 (.tmp 20)⟩,
  ⟨some 22, none, .bin .shr (.tmp 21) (.const (.int .u64 1))⟩,
  ⟨some 23, none, .conv .i64 (.tmp 22)⟩,
  ⟨some 11, none, .mov (.tmp 23)⟩])
 (.seq (.region [⟨some 24, none, .mov (.tmp 2)⟩,
  ⟨some 25, none, .mov (.tmp 0)⟩,
  ⟨some 26, none, .mov (.tmp 11)⟩,
  ⟨some 27, none, .indexAddr 1 (.tmp 25) (.tmp 26)⟩,
  ⟨some 28, none, .load 1 false (.tmp 27)⟩,
  ⟨some 29, none, .mov (.tmp 1)⟩,
  ⟨some 30, none, .call (.tmp 24) [(.tmp 28), (.tmp 29)]⟩,
  ⟨some 31, none, .bin .lss (.tmp 30) (.const (.int .i64 0))⟩])
 (.cond (.tmp 31) (.region [⟨some 32, none, .mov (.tmp 11)⟩,
  ⟨some 33, none, .bin .add (.tmp 32) (.const (.int .i64 1))⟩,
  ⟨some 9, none, .mov (.tmp 33)⟩]) (.region [⟨some 34, none, .mov (.tmp 11)⟩,
  ⟨some 10, none, .mov (.tmp 34)⟩]))))
def k_slices_BinarySearchFunc_relation_Row_relation_Row_relation_Row_p1 : ACode := (.seq (.seq (.region [⟨some 15, none, .mov (.tmp 9)⟩,
  ⟨some 16, none, .mov (.tmp 10)⟩,
  ⟨some 17, none, .bin .lss (.tmp 15) (.tmp 16)⟩])
 (.cond (.tmp 17) .skip (.exit 0)))
 (.block 1 k_slices_BinarySearchFunc_relation_Row_relation_Row_relation_Row_p0))
def k_slices_BinarySearchFunc_relation_Row_relation_Row_relation_Row : AFun := ⟨49, [.tmp 6, .tmp 7], (.seq (.region [⟨some 6, none, .mov (.const (.int .i64 0))⟩,
  ⟨some 7, none, .mov (.const (.bool false))⟩])
 (.seq (.region [⟨some 12, none, .mov (.tmp 0)⟩,
  ⟨some 13, none, .lenSl (.tmp 12)⟩,
  ⟨some 8, none, .mov (.tmp 13)⟩])
 (.seq (.region [⟨some 14, none, .mov (.tmp 8)⟩,
  ⟨some 9, none, .mov (.const (.int .i64 0))⟩,
  ⟨some 10, none, .mov (.tmp 14)⟩])
 (.seq (.block 0 (.loop k_slices_BinarySearchFunc_relation_Row_relation_Row_relation_Row_p1))
 (.seq (.region [⟨some 35, none, .mov (.tmp 9)⟩,
  ⟨some 36, none, .mov (.tmp 9)⟩,
  ⟨some 37, none, .mov (.tmp 8)⟩,
  ⟨some 38, none, .bin .lss (.tmp 36) (.tmp 37)⟩,
  ⟨some 39, none, .mov (.tmp 38)⟩,
  ⟨some 40, (some (39, true)), .mov (.tmp 2)⟩,
  ⟨some 41, (some (39, true)), .mov (.tmp 0)⟩,
  ⟨some 42, (some (39, true)), .mov (.tmp 9)⟩,
  ⟨some 43, (some (39, true)), .indexAddr 1 (.tmp 41) (.tmp 42)⟩,
  ⟨some 44, (some (39, true)), .load 1 false (.tmp 43)⟩,
  ⟨some 45, (some (39, true)), .mov (.tmp 1)⟩,
  ⟨some 46, (some (39, true)), .call (.tmp 40) [(.tmp 44), (.tmp 45)]⟩,
  ⟨some 47, (some (39, true)), .bin .eql (.tmp 46) (.const (.int .i64 0))⟩,
  ⟨some 48, none, .pick (.tmp 39) (.tmp 47) (.const (.bool false))⟩,
  ⟨some 6, none, .mov (.tmp 35)⟩,
  ⟨some 7, none, .mov (.tmp 48)⟩])
 .ret)))))⟩
theorem c_slices_BinarySearchFunc_relation_Row_relation_Row_relation_Row : (XTab.of Tryz.prog).code 133 = some k_slices_BinarySearchFunc_relation_Row_relation_Row_relation_Row := by kernel_rfl
end Go.Proofs.YtladocoibpljnaaGreatDoor
set_option maxRecDepth 100000
set_option linter.unusedVariables false
namespace Go.Proofs.YtladocoibpljnaaGreatDoor
open Go.AE
def k_incr_New_p0 : ACode := (.seq (.region [⟨some 16, none, .mov (.tmp 7)⟩,
  ⟨some 4, none, .mov (.const .nilptr)⟩,
  ⟨some 5, none, .mov (.tmp 16)⟩])
 .ret)
def k_incr_New_p1 : ACode := (.seq (.region [⟨some 22, none, .mov (.tmp 6)⟩,
  ⟨some 23, none, .mov (.tmp 6)⟩,
  ⟨some 24, none, .nilCheck (.tmp 23)⟩,
  ⟨some 25, none, .fieldAddr 1 (.tmp 24)⟩,
  ⟨some 26, none, .load 1 false (.tmp 25)⟩,
  ⟨some 27, none, .call (.const (.func (.func n_slices_CompactFunc_api_Fact_api_Fact) [] [])) [(.tmp 26), (.const (.func (.func n_incr_same) [] []))]⟩,
  ⟨some 28, none, .nilCheck (.tmp 22)⟩,
  ⟨some 29, none, .fieldAddr 1 (.tmp 28)⟩,
  ⟨none, none, .store 1 (.tmp 29) (.tmp 27)⟩])
 (.seq (.region [⟨some 30, none, .mov (.tmp 6)⟩,
  ⟨some 4, none, .mov (.tmp 30)⟩,
  ⟨some 5, none, .mov (.const (.int .i64 0))⟩])
 .ret))
def k_incr_New_p2 : ACode := (.seq (.region [⟨some 17, none, .mov (.tmp 6)⟩,
  ⟨some 18, none, .nilCheck (.tmp 17)⟩,
  ⟨some 19, none, .fieldAddr 1 (.tmp 18)⟩,
  ⟨some 20, none, .load 1 false (.tmp 19)⟩,
  ⟨some 21, none, .call (.const (.func (.func n_slices_SortFunc_api_Fact_api_Fact) [] [])) [(.tmp 20), (.const (.func (.func n_incr_order) [] []))]⟩])
 k_incr_New_p1)
def k_incr_New_p3 : ACode := (.seq (.seq (.region [⟨some 10, none, .mov (.tmp 6)⟩,
  ⟨some 11, none, .mov (.tmp 0)⟩,
  ⟨some 12, none, .mov (.tmp 1)⟩,
  ⟨some 13, none, .call (.const (.func (.func n_incr_Live_turn) [] [])) [(.tmp 10), (.tmp 11), (.tmp 12)]⟩,
  ⟨some 7, none, .mov (.tmp 13)⟩])
 (.seq (.region [⟨some 14, none, .mov (.tmp 7)⟩,
  ⟨some 15, none, .bin .neq (.tmp 14) (.const (.int .i64 0))⟩])
 (.cond (.tmp 15) k_incr_New_p0 .skip)))
 k_incr_New_p2)
def k_incr_New : AFun := ⟨31, [.tmp 4, .tmp 5], (.seq (.region [⟨some 4, none, .mov (.const .nilptr)⟩,
  ⟨some 5, none, .mov (.const (.int .i64 0))⟩])
 (.seq (.region [⟨some 8, none, .build [.nilslice, .nilslice, .nilptr] []⟩,
  ⟨some 9, none, .box (.tmp 8)⟩,
  ⟨some 6, none, .mov (.tmp 9)⟩])
 k_incr_New_p3))⟩
theorem c_incr_New : (XTab.of Tryz.prog).code 161 = some k_incr_New := by kernel_rfl
def k_syntax_Query_p0 : ACode := (.seq (.region [⟨some 4, none, .mov (.tmp 0)⟩,
  ⟨some 5, none, .call (.const (.func (.func n_syntax_single) [] [])) [(.tmp 4)]⟩,
  ⟨some 6, none, .extract 0 (.tmp 5)⟩,
  ⟨some 7, none, .extract 1 (.tmp 5)⟩,
  ⟨none, none, .store 3 (.tmp 2) (.tmp 6)⟩,
  ⟨some 3, none, .mov (.tmp 7)⟩])
 .ret)
def k_syntax_Query : AFun := ⟨8, [.cell 2 3 true, .tmp 3], (.seq (.region [⟨some 2, none, .alloc [(.int .i64 0), (.str []), .nilslice]⟩,
  ⟨some 3, none, .mov (.const (.int .i64 0))⟩])
 k_syntax_Query_p0)⟩
theorem c_syntax_Query : (XTab.of Tryz.prog).code 162 = some k_syntax_Query := by kernel_rfl
def k_ask_Rows_p0 : ACode := (.region [⟨some 20, none, .mov (.tmp 5)⟩,
  ⟨some 21, none, .load 2 true (.tmp 7)⟩,
  ⟨some 22, none, .call (.const (.func (.func n_value_Fact) [] [])) [(.tmp 21)]⟩,
  ⟨some 23, none, .buildSlice 1 [(.str [])] [(0, 1, (.tmp 22))]⟩,
  ⟨some 24, none, .append 1 16 (.tmp 20) (.tmp 23)⟩,
  ⟨some 5, none, .mov (.tmp 24)⟩])
def k_ask_Rows_p1 : ACode := (.seq (.region [⟨some 15, none, .indexAddr 2 (.tmp 11) (.tmp 13)⟩,
  ⟨some 16, none, .load 2 true (.tmp 15)⟩,
  ⟨some 7, none, .alloc [(.str []), .nilslice]⟩,
  ⟨none, none, .store 2 (.tmp 7) (.tmp 16)⟩])
 (.seq (.region [⟨some 17, none, .load 2 true (.tmp 7)⟩,
  ⟨some 18, none, .load 3 true (.tmp 3)⟩,
  ⟨some 19, none, .call (.const (.func (.func n_ask_fits) [] [])) [(.tmp 17), (.tmp 18)]⟩])
 (.cond (.tmp 19) k_ask_Rows_p0 .skip)))
def k_ask_Rows_p2 : ACode := (.seq (.region [⟨some 14, none, .bin .lss (.tmp 13) (.tmp 12)⟩])
 (.seq (.cond (.tmp 14) .skip (.exit 0))
 (.seq (.block 1 k_ask_Rows_p1)
 (.region [⟨some 25, none, .bin .add (.tmp 13) (.const (.int .i64 1))⟩,
  ⟨some 13, none, .mov (.tmp 25)⟩]))))
def k_ask_Rows_p3 : ACode := (.seq (.seq (.region [⟨some 8, none, .mov (.tmp 0)⟩,
  ⟨some 9, none, .fieldAddr 1 (.tmp 3)⟩,
  ⟨some 10, none, .load 1 false (.tmp 9)⟩,
  ⟨some 11, none, .call (.const (.func (.func n_incr_Live_Facts) [] [])) [(.tmp 8), (.tmp 10)]⟩,
  ⟨some 12, none, .lenSl (.tmp 11)⟩,
  ⟨some 13, none, .mov (.const (.int .i64 0))⟩])
 (.block 0 (.loop k_ask_Rows_p2)))
 (.seq (.region [⟨some 26, none, .mov (.tmp 5)⟩,
  ⟨some 4, none, .mov (.tmp 26)⟩])
 .ret))
def k_ask_Rows : AFun := ⟨27, [.tmp 4], (.seq (.region [⟨some 3, none, .box (.tmp 1)⟩,
  ⟨some 4, none, .mov (.const .nilslice)⟩])
 (.seq (.region [⟨some 5, none, .mov (.const .nilslice)⟩])
 k_ask_Rows_p3))⟩
theorem c_ask_Rows : (XTab.of Tryz.prog).code 163 = some k_ask_Rows := by kernel_rfl
end Go.Proofs.YtladocoibpljnaaGreatDoor
set_option maxRecDepth 100000
set_option linter.unusedVariables false
namespace Go.Proofs.YtladocoibpljnaaGreatDoor
open Go.AE
def k_machine_Machine_insert : AFun := ⟨8, [.cell 4 3 true], (.seq (.region [⟨some 4, none, .alloc [(.int .i64 0), (.bool false), .nilslice]⟩])
 (.seq (.region [⟨some 5, none, .mov (.tmp 0)⟩,
  ⟨some 6, none, .mov (.tmp 1)⟩,
  ⟨some 7, none, .call (.const (.func (.func n_machine_Machine_fact) [] [])) [(.tmp 5), (.tmp 6), (.const (.func (.func n_incr_Live_Insert) [] []))]⟩,
  ⟨none, none, .store 3 (.tmp 4) (.tmp 7)⟩])
 .ret))⟩
theorem c_machine_Machine_insert : (XTab.of Tryz.prog).code 165 = some k_machine_Machine_insert := by kernel_rfl
def k_machine_Machine_retract : AFun := ⟨8, [.cell 4 3 true], (.seq (.region [⟨some 4, none, .alloc [(.int .i64 0), (.bool false), .nilslice]⟩])
 (.seq (.region [⟨some 5, none, .mov (.tmp 0)⟩,
  ⟨some 6, none, .mov (.tmp 1)⟩,
  ⟨some 7, none, .call (.const (.func (.func n_machine_Machine_fact) [] [])) [(.tmp 5), (.tmp 6), (.const (.func (.func n_incr_Live_Retract) [] []))]⟩,
  ⟨none, none, .store 3 (.tmp 4) (.tmp 7)⟩])
 .ret))⟩
theorem c_machine_Machine_retract : (XTab.of Tryz.prog).code 166 = some k_machine_Machine_retract := by kernel_rfl
def k_incr_Live_turn_p0 : ACode := (.seq (.region [⟨some 17, none, .mov (.tmp 8)⟩,
  ⟨some 6, none, .mov (.tmp 17)⟩])
 .ret)
def k_incr_Live_turn_p1 : ACode := (.seq (.region [⟨some 18, none, .mov (.tmp 0)⟩,
  ⟨some 19, none, .mov (.tmp 0)⟩,
  ⟨some 20, none, .mov (.tmp 0)⟩,
  ⟨some 21, none, .mov (.tmp 1)⟩,
  ⟨some 22, none, .call (.const (.func (.func n_incr_rules) [] [])) [(.tmp 21)]⟩,
  ⟨some 23, none, .mov (.tmp 2)⟩,
  ⟨some 24, none, .call (.const (.func (.func n_incr_facts) [] [])) [(.tmp 23)]⟩,
  ⟨some 25, none, .mov (.tmp 7)⟩,
  ⟨some 26, none, .nilCheck (.tmp 18)⟩,
  ⟨some 27, none, .fieldAddr 0 (.tmp 26)⟩,
  ⟨none, none, .store 1 (.tmp 27) (.tmp 22)⟩,
  ⟨some 28, none, .nilCheck (.tmp 19)⟩,
  ⟨some 29, none, .fieldAddr 1 (.tmp 28)⟩,
  ⟨none, none, .store 1 (.tmp 29) (.tmp 24)⟩,
  ⟨some 30, none, .nilCheck (.tmp 20)⟩,
  ⟨some 31, none, .fieldAddr 2 (.tmp 30)⟩,
  ⟨none, none, .store 1 (.tmp 31) (.tmp 25)⟩])
 (.seq (.region [⟨some 6, none, .mov (.const (.int .i64 0))⟩])
 .ret))
def k_incr_Live_turn_p2 : ACode := (.seq (.region [⟨some 10, none, .mov (.tmp 1)⟩,
  ⟨some 11, none, .mov (.tmp 2)⟩,
  ⟨some 12, none, .call (.const (.func (.func n_model_Make) [] [])) [(.tmp 10), (.tmp 11)]⟩,
  ⟨some 9, none, .mov (.tmp 12)⟩,
  ⟨some 13, none, .extract 0 (.tmp 9)⟩,
  ⟨some 14, none, .extract 1 (.tmp 9)⟩,
  ⟨some 7, none, .mov (.tmp 13)⟩,
  ⟨some 8, none, .mov (.tmp 14)⟩])
 (.seq (.seq (.region [⟨some 15, none, .mov (.tmp 8)⟩,
  ⟨some 16, none, .bin .neq (.tmp 15) (.const (.int .i64 0))⟩])
 (.cond (.tmp 16) k_incr_Live_turn_p0 .skip))
 k_incr_Live_turn_p1))
def k_incr_Live_turn : AFun := ⟨32, [.tmp 6], (.seq (.region [⟨some 6, none, .mov (.const (.int .i64 0))⟩])
 k_incr_Live_turn_p2)⟩
theorem c_incr_Live_turn : (XTab.of Tryz.prog).code 183 = some k_incr_Live_turn := by kernel_rfl
def k_incr_order_p0 : ACode := (.seq (.region [⟨some 13, none, .mov (.tmp 5)⟩,
  ⟨some 4, none, .mov (.tmp 13)⟩])
 .ret)
def k_incr_order_p1 : ACode := (.seq (.region [⟨some 14, none, .fieldAddr 1 (.tmp 2)⟩,
  ⟨some 15, none, .load 1 false (.tmp 14)⟩,
  ⟨some 16, none, .fieldAddr 1 (.tmp 3)⟩,
  ⟨some 17, none, .load 1 false (.tmp 16)⟩,
  ⟨some 18, none, .call (.const (.func (.func n_value_Compare) [] [])) [(.tmp 15), (.tmp 17)]⟩,
  ⟨some 4, none, .mov (.tmp 18)⟩])
 .ret)
def k_incr_order_p2 : ACode := (.seq (.seq (.region [⟨some 6, none, .fieldAddr 0 (.tmp 2)⟩,
  ⟨some 7, none, .load 1 false (.tmp 6)⟩,
  ⟨some 8, none, .fieldAddr 0 (.tmp 3)⟩,
  ⟨some 9, none, .load 1 false (.tmp 8)⟩,
  ⟨some 10, none, .call (.const (.func (.func n_strings_Compare) [] [])) [(.tmp 7), (.tmp 9)]⟩,
  ⟨some 5, none, .mov (.tmp 10)⟩])
 (.seq (.region [⟨some 11, none, .mov (.tmp 5)⟩,
  ⟨some 12, none, .bin .neq (.tmp 11) (.const (.int .i64 0))⟩])
 (.cond (.tmp 12) k_incr_order_p0 .skip)))
 k_incr_order_p1)
def k_incr_order : AFun := ⟨19, [.tmp 4], (.seq (.region [⟨some 2, none, .box (.tmp 0)⟩,
  ⟨some 3, none, .box (.tmp 1)⟩,
  ⟨some 4, none, .mov (.const (.int .i64 0))⟩])
 k_incr_order_p2)⟩
theorem c_incr_order : (XTab.of Tryz.prog).code 184 = some k_incr_order := by kernel_rfl
def k_slices_CompactFunc_api_Fact_api_Fact_p0 : ACode := (.seq (.region [⟨some 11, none, .mov (.tmp 0)⟩,
  ⟨some 4, none, .mov (.tmp 11)⟩])
 .ret)
def k_slices_CompactFunc_api_Fact_api_Fact_p1 : ACode := (.seq (.region [⟨some 50, none, .mov (.tmp 0)⟩,
  ⟨some 51, none, .mov (.tmp 5)⟩,
  ⟨some 52, none, .mov (.tmp 6)⟩,
  ⟨some 53, none, .mov (.tmp 7)⟩,
  ⟨some 54, none, .indexAddr 2 (.tmp 52) (.tmp 53)⟩,
  ⟨some 55, none, .load 2 true (.tmp 54)⟩,
  ⟨some 56, none, .indexAddr 2 (.tmp 50) (.tmp 51)⟩,
  ⟨none, none, .store 2 (.tmp 56) (.tmp 55)⟩])
 (.region [⟨some 57, none, .mov (.tmp 5)⟩,
  ⟨some 58, none, .bin .add (.tmp 57) (.const (.int .i64 1))⟩,
  ⟨some 5, none, .mov (.tmp 58)⟩]))
def k_slices_CompactFunc_api_Fact_api_Fact_p2 : ACode := (.seq (.region [⟨some 38, none, .mov (.tmp 1)⟩,
  ⟨some 39, none, .mov (.tmp 6)⟩,
  ⟨some 40, none, .mov (.tmp 7)⟩,
  ⟨some 41, none, .indexAddr 2 (.tmp 39) (.tmp 40)⟩,
  ⟨some 42, none, .load 2 true (.tmp 41)⟩,
  ⟨some 43, none, .mov (.tmp 6)⟩,
  ⟨some 44, none, .mov (.tmp 7)⟩,
  ⟨some 45, none, .bin .sub (.tmp 44) (.const (.int .i64 1))⟩,
  ⟨some 46, none, .indexAddr 2 (.tmp 43) (.tmp 45)⟩,
  ⟨some 47, none, .load 2 true (.tmp 46)⟩,
  ⟨some 48, none, .call (.tmp 38) [(.tmp 42), (.tmp 47)]⟩,
  ⟨some 49, none, .un .not (.tmp 48)⟩])
 (.cond (.tmp 49) k_slices_CompactFunc_api_Fact_api_Fact_p1 .skip))
def k_slices_CompactFunc_api_Fact_api_Fact_p3 : ACode := (.seq (.seq (.region [⟨some 32, none, .mov (.tmp 7)⟩,
  ⟨some 33, none, .mov (.tmp 6)⟩,
  ⟨some 34, none, .lenSl (.tmp 33)⟩,
  ⟨some 35, none, .bin .lss (.tmp 32) (.tmp 34)⟩])
 (.cond (.tmp 35) .skip (.exit 2)))
 (.seq (.block 3 k_slices_CompactFunc_api_Fact_api_Fact_p2)
 (.region [⟨some 36, none, .mov (.tmp 7)⟩,
  ⟨some 37, none, .bin .add (.tmp 36) (.const (.int .i64 1))⟩,
  ⟨some 7, none, .mov (.tmp 37)⟩])))
def k_slices_CompactFunc_api_Fact_api_Fact_p4 : ACode := (.seq (.region [⟨some 59, none, .mov (.tmp 0)⟩,
  ⟨some 60, none, .mov (.tmp 5)⟩,
  ⟨some 61, none, .slice 2 (.tmp 59) (some (.tmp 60)) none none⟩,
  ⟨none, none, .clear [(.str []), .nilslice] (.tmp 61)⟩])
 (.seq (.region [⟨some 62, none, .mov (.tmp 0)⟩,
  ⟨some 63, none, .mov (.tmp 5)⟩,
  ⟨some 64, none, .slice 2 (.tmp 62) none (some (.tmp 63)) none⟩,
  ⟨some 4, none, .mov (.tmp 64)⟩])
 .ret))
def k_slices_CompactFunc_api_Fact_api_Fact_p5 : ACode := (.seq (.region [⟨some 29, none, .mov (.tmp 0)⟩,
  ⟨some 30, none, .mov (.tmp 5)⟩,
  ⟨some 31, none, .slice 2 (.tmp 29) (some (.tmp 30)) none none⟩,
  ⟨some 6, none, .mov (.tmp 31)⟩])
 (.seq (.seq (.region [⟨some 7, none, .mov (.const (.int .i64 1))⟩])
 (.block 2 (.loop k_slices_CompactFunc_api_Fact_api_Fact_p3)))
 k_slices_CompactFunc_api_Fact_api_Fact_p4))
def k_slices_CompactFunc_api_Fact_api_Fact_p6 : ACode := (.seq (.region [⟨some 18, none, .mov (.tmp 1)⟩,
  ⟨some 19, none, .mov (.tmp 0)⟩,
  ⟨some 20, none, .mov (.tmp 5)⟩,
  ⟨some 21, none, .indexAddr 2 (.tmp 19) (.tmp 20)⟩,
  ⟨some 22, none, .load 2 true (.tmp 21)⟩,
  ⟨some 23, none, .mov (.tmp 0)⟩,
  ⟨some 24, none, .mov (.tmp 5)⟩,
  ⟨some 25, none, .bin .sub (.tmp 24) (.const (.int .i64 1))⟩,
  ⟨some 26, none, .indexAddr 2 (.tmp 23) (.tmp 25)⟩,
  ⟨some 27, none, .load 2 true (.tmp 26)⟩,
  ⟨some 28, none, .call (.tmp 18) [(.tmp 22), (.tmp 27)]⟩])
 (.cond (.tmp 28) k_slices_CompactFunc_api_Fact_api_Fact_p5 .skip))
def k_slices_CompactFunc_api_Fact_api_Fact_p7 : ACode := (.seq (.seq (.region [⟨some 12, none, .mov (.tmp 5)⟩,
  ⟨some 13, none, .mov (.tmp 0)⟩,
  ⟨some 14, none, .lenSl (.tmp 13)⟩,
  ⟨some 15, none, .bin .lss (.tmp 12) (.tmp 14)⟩])
 (.cond (.tmp 15) .skip (.exit 0)))
 (.seq (.block 1 k_slices_CompactFunc_api_Fact_api_Fact_p6)
 (.region [⟨some 16, none, .mov (.tmp 5)⟩,
  ⟨some 17, none, .bin .add (.tmp 16) (.const (.int .i64 1))⟩,
  ⟨some 5, none, .mov (.tmp 17)⟩])))
def k_slices_CompactFunc_api_Fact_api_Fact_p8 : ACode := (.seq (.seq (.region [⟨some 8, none, .mov (.tmp 0)⟩,
  ⟨some 9, none, .lenSl (.tmp 8)⟩,
  ⟨some 10, none, .bin .lss (.tmp 9) (.const (.int .i64 2))⟩])
 (.cond (.tmp 10) k_slices_CompactFunc_api_Fact_api_Fact_p0 .skip))
 (.seq (.seq (.region [⟨some 5, none, .mov (.const (.int .i64 1))⟩])
 (.block 0 (.loop k_slices_CompactFunc_api_Fact_api_Fact_p7)))
 (.seq (.region [⟨some 65, none, .mov (.tmp 0)⟩,
  ⟨some 4, none, .mov (.tmp 65)⟩])
 .ret)))
def k_slices_CompactFunc_api_Fact_api_Fact : AFun := ⟨66, [.tmp 4], (.seq (.region [⟨some 4, none, .mov (.const .nilslice)⟩])
 k_slices_CompactFunc_api_Fact_api_Fact_p8)⟩
theorem c_slices_CompactFunc_api_Fact_api_Fact : (XTab.of Tryz.prog).code 185 = some k_slices_CompactFunc_api_Fact_api_Fact := by kernel_rfl
def k_syntax_single_p0 : ACode := (.region [⟨some 15, none, .mov (.tmp 4)⟩,
  ⟨some 16, none, .call (.const (.func (.func n_syntax_parser_fail) [] [])) [(.tmp 15), (.const (.int .i64 4))]⟩])
def k_syntax_single_p1 : ACode := (.seq (.drawn [⟨⟨some 22, none, .build [(.int .i64 0), (.str []), .nilslice] []⟩, false, [], []⟩,
  ⟨⟨some 23, none, .mov (.tmp 4)⟩, false, [], []⟩,
  ⟨⟨some 24, none, .nilCheck (.tmp 23)⟩, false, [1], []⟩,
  ⟨⟨some 25, none, .fieldAddr 2 (.tmp 24)⟩, false, [2, 1], []⟩,
  ⟨⟨some 26, none, .load 1 false (.tmp 25)⟩, false, [3, 2, 1], []⟩,
  ⟨⟨none, none, .store 3 (.tmp 2) (.tmp 22)⟩, true, [0], []⟩,
  ⟨⟨some 3, none, .mov (.tmp 26)⟩, false, [5, 4, 3, 2, 1, 0], []⟩])
 .ret)
def k_syntax_single_p2 : ACode := (.seq (.seq (.region [⟨some 17, none, .mov (.tmp 4)⟩,
  ⟨some 18, none, .nilCheck (.tmp 17)⟩,
  ⟨some 19, none, .fieldAddr 2 (.tmp 18)⟩,
  ⟨some 20, none, .load 1 false (.tmp 19)⟩,
  ⟨some 21, none, .bin .neq (.tmp 20) (.const (.int .i64 0))⟩])
 (.cond (.tmp 21) k_syntax_single_p1 .skip))
 (.seq (.region [⟨some 27, none, .load 3 true (.tmp 5)⟩,
  ⟨none, none, .store 3 (.tmp 2) (.tmp 27)⟩,
  ⟨some 3, none, .mov (.const (.int .i64 0))⟩])
 .ret))
def k_syntax_single_p3 : ACode := (.seq (.region [⟨some 10, none, .mov (.tmp 4)⟩,
  ⟨some 11, none, .call (.const (.func (.func n_syntax_parser_take) [] [])) [(.tmp 10), (.const (.str [46]))]⟩])
 (.seq (.seq (.region [⟨some 12, none, .mov (.tmp 4)⟩,
  ⟨some 13, none, .call (.const (.func (.func n_syntax_parser_end) [] [])) [(.tmp 12)]⟩,
  ⟨some 14, none, .un .not (.tmp 13)⟩])
 (.cond (.tmp 14) k_syntax_single_p0 .skip))
 k_syntax_single_p2))
def k_syntax_single_p4 : ACode := (.seq (.region [⟨some 6, none, .mov (.tmp 0)⟩,
  ⟨some 7, none, .call (.const (.func (.func n_syntax_open) [] [])) [(.tmp 6)]⟩,
  ⟨some 4, none, .mov (.tmp 7)⟩])
 (.seq (.region [⟨some 8, none, .mov (.tmp 4)⟩,
  ⟨some 9, none, .call (.const (.func (.func n_syntax_parser_atom) [] [])) [(.tmp 8)]⟩,
  ⟨some 5, none, .alloc [(.int .i64 0), (.str []), .nilslice]⟩,
  ⟨none, none, .store 3 (.tmp 5) (.tmp 9)⟩])
 k_syntax_single_p3))
def k_syntax_single : AFun := ⟨28, [.cell 2 3 true, .tmp 3], (.seq (.region [⟨some 2, none, .alloc [(.int .i64 0), (.str []), .nilslice]⟩,
  ⟨some 3, none, .mov (.const (.int .i64 0))⟩])
 k_syntax_single_p4)⟩
theorem c_syntax_single : (XTab.of Tryz.prog).code 187 = some k_syntax_single := by kernel_rfl
def k_incr_Live_Facts_p0 : ACode := (.seq (.region [⟨some 5, none, .mov (.tmp 0)⟩,
  ⟨some 6, none, .call (.const (.func (.func n_incr_Live_model) [] [])) [(.tmp 5)]⟩,
  ⟨some 7, none, .mov (.tmp 1)⟩,
  ⟨some 8, none, .call (.const (.func (.func n_model_Model_Facts) [] [])) [(.tmp 6), (.tmp 7)]⟩,
  ⟨some 4, none, .mov (.tmp 8)⟩])
 .ret)
def k_incr_Live_Facts : AFun := ⟨9, [.tmp 4], (.seq (.region [⟨some 4, none, .mov (.const .nilslice)⟩])
 k_incr_Live_Facts_p0)⟩
theorem c_incr_Live_Facts : (XTab.of Tryz.prog).code 188 = some k_incr_Live_Facts := by kernel_rfl
def k_ask_fits_p0 : ACode := (.seq (.region [⟨some 4, none, .mov (.const (.bool false))⟩])
 .ret)
def k_ask_fits_p1 : ACode := (.region [⟨some 40, none, .mov (.tmp 5)⟩,
  ⟨some 41, none, .fieldAddr 1 (.tmp 7)⟩,
  ⟨some 42, none, .load 1 false (.tmp 41)⟩,
  ⟨some 43, none, .fieldAddr 1 (.tmp 2)⟩,
  ⟨some 44, none, .load 1 false (.tmp 43)⟩,
  ⟨some 45, none, .mov (.tmp 6)⟩,
  ⟨some 46, none, .indexAddr 3 (.tmp 44) (.tmp 45)⟩,
  ⟨some 47, none, .load 3 true (.tmp 46)⟩,
  ⟨none, none, .mapUpdate (.scalar .str) (.tmp 40) (.tmp 42) (.tmp 47)⟩])
def k_ask_fits_p2 : ACode := (.seq (.drawn [⟨⟨some 30, none, .mov (.tmp 5)⟩, false, [], []⟩,
  ⟨⟨some 31, none, .fieldAddr 1 (.tmp 7)⟩, false, [], []⟩,
  ⟨⟨some 32, none, .load 1 false (.tmp 31)⟩, false, [1], []⟩,
  ⟨⟨some 33, none, .lookup (.scalar .str) (.agg [(.int .i64 0), (.str []), (.int .i64 0)]) false (.tmp 30) (.tmp 32)⟩, false, [2, 1, 0], []⟩,
  ⟨⟨some 34, none, .mov (.tmp 5)⟩, false, [], []⟩,
  ⟨⟨some 35, none, .fieldAddr 1 (.tmp 7)⟩, false, [], []⟩,
  ⟨⟨some 36, none, .load 1 false (.tmp 35)⟩, false, [5], []⟩,
  ⟨⟨some 37, none, .lookup (.scalar .str) (.agg [(.int .i64 0), (.str []), (.int .i64 0)]) false (.tmp 34) (.tmp 36)⟩, false, [6, 5, 4], []⟩,
  ⟨⟨some 38, none, .field 0 1 false (.tmp 37)⟩, false, [7, 6, 5, 4], []⟩,
  ⟨⟨some 39, none, .bin .neq (.tmp 38) (.const (.int .i64 0))⟩, false, [8, 7, 6, 5, 4], []⟩,
  ⟨⟨none, none, .store 3 (.tmp 8) (.tmp 33)⟩, true, [3, 2, 1, 0], []⟩,
  ⟨⟨some 9, none, .mov (.tmp 39)⟩, false, [10, 9, 8, 7, 6, 5, 4, 3, 2, 1, 0], []⟩])
 k_ask_fits_p1)
def k_ask_fits_p3 : ACode := (.seq (.region [⟨some 4, none, .mov (.const (.bool false))⟩])
 .ret)
def k_ask_fits_p4 : ACode := (.seq (.region [⟨some 48, none, .mov (.tmp 9)⟩,
  ⟨some 49, none, .mov (.tmp 48)⟩,
  ⟨some 50, (some (49, true)), .load 3 true (.tmp 8)⟩,
  ⟨some 51, (some (49, true)), .fieldAddr 1 (.tmp 2)⟩,
  ⟨some 52, (some (49, true)), .load 1 false (.tmp 51)⟩,
  ⟨some 53, (some (49, true)), .mov (.tmp 6)⟩,
  ⟨some 54, (some (49, true)), .indexAddr 3 (.tmp 52) (.tmp 53)⟩,
  ⟨some 55, (some (49, true)), .load 3 true (.tmp 54)⟩,
  ⟨some 56, (some (49, true)), .call (.const (.func (.func n_value_Eq) [] [])) [(.tmp 50), (.tmp 55)]⟩,
  ⟨some 57, (some (49, true)), .un .not (.tmp 56)⟩,
  ⟨some 58, none, .pick (.tmp 49) (.tmp 57) (.const (.bool false))⟩])
 (.cond (.tmp 58) k_ask_fits_p3 .skip))
def k_ask_fits_p5 : ACode := (.seq (.region [⟨some 26, none, .load 3 true (.tmp 7)⟩,
  ⟨some 8, none, .alloc [(.int .i64 0), (.str []), (.int .i64 0)]⟩,
  ⟨none, none, .store 3 (.tmp 8) (.tmp 26)⟩,
  ⟨some 9, none, .mov (.const (.bool true))⟩])
 (.seq (.seq (.region [⟨some 27, none, .fieldAddr 0 (.tmp 7)⟩,
  ⟨some 28, none, .load 1 false (.tmp 27)⟩,
  ⟨some 29, none, .bin .eql (.tmp 28) (.const (.int .i64 1))⟩])
 (.cond (.tmp 29) k_ask_fits_p2 .skip))
 k_ask_fits_p4))
def k_ask_fits_p6 : ACode := (.seq (.region [⟨some 23, none, .mov (.tmp 21)⟩,
  ⟨some 24, none, .indexAddr 3 (.tmp 19) (.tmp 21)⟩,
  ⟨some 25, none, .load 3 true (.tmp 24)⟩,
  ⟨some 7, none, .alloc [(.int .i64 0), (.str []), (.int .i64 0)]⟩,
  ⟨some 6, none, .mov (.tmp 23)⟩,
  ⟨none, none, .store 3 (.tmp 7) (.tmp 25)⟩])
 k_ask_fits_p5)
def k_ask_fits_p7 : ACode := (.seq (.region [⟨some 22, none, .bin .lss (.tmp 21) (.tmp 20)⟩])
 (.seq (.cond (.tmp 22) .skip (.exit 0))
 (.seq (.block 1 k_ask_fits_p6)
 (.region [⟨some 59, none, .bin .add (.tmp 21) (.const (.int .i64 1))⟩,
  ⟨some 21, none, .mov (.tmp 59)⟩]))))
def k_ask_fits_p8 : ACode := (.seq (.seq (.region [⟨some 18, none, .fieldAddr 2 (.tmp 3)⟩,
  ⟨some 19, none, .load 1 false (.tmp 18)⟩,
  ⟨some 20, none, .lenSl (.tmp 19)⟩,
  ⟨some 21, none, .mov (.const (.int .i64 0))⟩])
 (.block 0 (.loop k_ask_fits_p7)))
 (.seq (.region [⟨some 4, none, .mov (.const (.bool true))⟩])
 .ret))
def k_ask_fits_p9 : ACode := (.seq (.seq (.region [⟨some 10, none, .fieldAddr 1 (.tmp 2)⟩,
  ⟨some 11, none, .load 1 false (.tmp 10)⟩,
  ⟨some 12, none, .lenSl (.tmp 11)⟩,
  ⟨some 13, none, .fieldAddr 2 (.tmp 3)⟩,
  ⟨some 14, none, .load 1 false (.tmp 13)⟩,
  ⟨some 15, none, .lenSl (.tmp 14)⟩,
  ⟨some 16, none, .bin .neq (.tmp 12) (.tmp 15)⟩])
 (.cond (.tmp 16) k_ask_fits_p0 .skip))
 (.seq (.region [⟨some 17, none, .mkMap⟩,
  ⟨some 5, none, .mov (.tmp 17)⟩])
 k_ask_fits_p8))
def k_ask_fits : AFun := ⟨60, [.tmp 4], (.seq (.region [⟨some 2, none, .box (.tmp 0)⟩,
  ⟨some 3, none, .box (.tmp 1)⟩,
  ⟨some 4, none, .mov (.const (.bool false))⟩])
 k_ask_fits_p9)⟩
theorem c_ask_fits : (XTab.of Tryz.prog).code 189 = some k_ask_fits := by kernel_rfl
def k_value_Fact : AFun := ⟨8, [.tmp 2], (.seq (.region [⟨some 1, none, .box (.tmp 0)⟩,
  ⟨some 2, none, .mov (.const (.str []))⟩])
 (.seq (.region [⟨some 3, none, .fieldAddr 0 (.tmp 1)⟩,
  ⟨some 4, none, .load 1 false (.tmp 3)⟩,
  ⟨some 5, none, .fieldAddr 1 (.tmp 1)⟩,
  ⟨some 6, none, .load 1 false (.tmp 5)⟩,
  ⟨some 7, none, .call (.const (.func (.func n_value_Atom) [] [])) [(.tmp 4), (.tmp 6)]⟩,
  ⟨some 2, none, .mov (.tmp 7)⟩])
 .ret))⟩
theorem c_value_Fact : (XTab.of Tryz.prog).code 190 = some k_value_Fact := by kernel_rfl
def k_machine_Machine_fact_p0 : ACode := (.region [⟨some 18, none, .mov (.tmp 2)⟩,
  ⟨some 19, none, .mov (.tmp 0)⟩,
  ⟨some 20, none, .nilCheck (.tmp 19)⟩,
  ⟨some 21, none, .fieldAddr 0 (.tmp 20)⟩,
  ⟨some 22, none, .load 1 false (.tmp 21)⟩,
  ⟨some 23, none, .load 2 true (.tmp 7)⟩,
  ⟨some 24, none, .call (.tmp 18) [(.tmp 22), (.tmp 23)]⟩,
  ⟨some 17, none, .mov (.tmp 24)⟩,
  ⟨some 25, none, .extract 0 (.tmp 17)⟩,
  ⟨some 26, none, .extract 1 (.tmp 17)⟩,
  ⟨some 9, none, .mov (.tmp 25)⟩,
  ⟨some 8, none, .mov (.tmp 26)⟩])
def k_machine_Machine_fact_p1 : ACode := (.seq (.seq (.region [⟨some 15, none, .mov (.tmp 8)⟩,
  ⟨some 16, none, .bin .eql (.tmp 15) (.const (.int .i64 0))⟩])
 (.cond (.tmp 16) k_machine_Machine_fact_p0 .skip))
 (.seq (.region [⟨some 27, none, .mov (.tmp 8)⟩,
  ⟨some 28, none, .mov (.tmp 9)⟩,
  ⟨some 29, none, .build [(.int .i64 0), (.bool false), .nilslice] [(0, 1, (.tmp 27)), (1, 1, (.tmp 28))]⟩,
  ⟨none, none, .store 3 (.tmp 6) (.tmp 29)⟩])
 .ret))
def k_machine_Machine_fact_p2 : ACode := (.seq (.region [⟨some 11, none, .mov (.tmp 1)⟩,
  ⟨some 12, none, .call (.const (.func (.func n_syntax_Fact) [] [])) [(.tmp 11)]⟩,
  ⟨some 10, none, .mov (.tmp 12)⟩,
  ⟨some 13, none, .extract 0 (.tmp 10)⟩,
  ⟨some 14, none, .extract 1 (.tmp 10)⟩,
  ⟨some 7, none, .alloc [(.str []), .nilslice]⟩,
  ⟨none, none, .store 2 (.tmp 7) (.tmp 13)⟩,
  ⟨some 8, none, .mov (.tmp 14)⟩])
 (.seq (.region [⟨some 9, none, .mov (.const (.bool false))⟩])
 k_machine_Machine_fact_p1))
def k_machine_Machine_fact : AFun := ⟨30, [.cell 6 3 true], (.seq (.region [⟨some 6, none, .alloc [(.int .i64 0), (.bool false), .nilslice]⟩])
 k_machine_Machine_fact_p2)⟩
theorem c_machine_Machine_fact : (XTab.of Tryz.prog).code 193 = some k_machine_Machine_fact := by kernel_rfl
def k_incr_Live_Insert_p0 : ACode := (.seq (.region [⟨some 6, none, .mov (.tmp 0)⟩,
  ⟨some 7, none, .load 2 true (.tmp 3)⟩,
  ⟨some 8, none, .call (.const (.func (.func n_incr_Live_kept) [] [])) [(.tmp 6), (.tmp 7), (.const (.bool false)), (.const (.func (.func n_incr_Live_Insert_1) [] []))]⟩,
  ⟨some 9, none, .extract 0 (.tmp 8)⟩,
  ⟨some 10, none, .extract 1 (.tmp 8)⟩,
  ⟨some 4, none, .mov (.tmp 9)⟩,
  ⟨some 5, none, .mov (.tmp 10)⟩])
 .ret)
def k_incr_Live_Insert : AFun := ⟨11, [.tmp 4, .tmp 5], (.seq (.region [⟨some 3, none, .box (.tmp 1)⟩,
  ⟨some 4, none, .mov (.const (.bool false))⟩,
  ⟨some 5, none, .mov (.const (.int .i64 0))⟩])
 k_incr_Live_Insert_p0)⟩
theorem c_incr_Live_Insert : (XTab.of Tryz.prog).code 194 = some k_incr_Live_Insert := by kernel_rfl
def k_incr_Live_Retract_p0 : ACode := (.seq (.region [⟨some 6, none, .mov (.tmp 0)⟩,
  ⟨some 7, none, .load 2 true (.tmp 3)⟩,
  ⟨some 8, none, .call (.const (.func (.func n_incr_Live_kept) [] [])) [(.tmp 6), (.tmp 7), (.const (.bool true)), (.const (.func (.func n_incr_Live_Retract_1) [] []))]⟩,
  ⟨some 9, none, .extract 0 (.tmp 8)⟩,
  ⟨some 10, none, .extract 1 (.tmp 8)⟩,
  ⟨some 4, none, .mov (.tmp 9)⟩,
  ⟨some 5, none, .mov (.tmp 10)⟩])
 .ret)
def k_incr_Live_Retract : AFun := ⟨11, [.tmp 4, .tmp 5], (.seq (.region [⟨some 3, none, .box (.tmp 1)⟩,
  ⟨some 4, none, .mov (.const (.bool false))⟩,
  ⟨some 5, none, .mov (.const (.int .i64 0))⟩])
 k_incr_Live_Retract_p0)⟩
theorem c_incr_Live_Retract : (XTab.of Tryz.prog).code 195 = some k_incr_Live_Retract := by kernel_rfl
end Go.Proofs.YtladocoibpljnaaGreatDoor
set_option maxRecDepth 100000
set_option linter.unusedVariables false
namespace Go.Proofs.YtladocoibpljnaaGreatDoor
open Go.AE
def k_incr_rules_p0 : ACode := (.region [⟨some 35, none, .fieldAddr 3 (.tmp 6)⟩,
  ⟨some 36, none, .load 1 false (.tmp 35)⟩,
  ⟨some 37, none, .load 3 true (.tmp 8)⟩,
  ⟨some 38, none, .buildSlice 1 [(.int .i64 0), (.str []), .nilslice] [(0, 3, (.tmp 37))]⟩,
  ⟨some 39, none, .append 3 48 (.tmp 36) (.tmp 38)⟩,
  ⟨some 40, none, .fieldAddr 3 (.tmp 6)⟩,
  ⟨none, none, .store 1 (.tmp 40) (.tmp 39)⟩])
def k_incr_rules_p1 : ACode := (.seq (.region [⟨some 31, none, .fieldAddr 2 (.tmp 8)⟩,
  ⟨some 32, none, .load 1 false (.tmp 31)⟩,
  ⟨some 33, none, .call (.const (.func (.func n_slices_Clone_api_Term_api_Term) [] [])) [(.tmp 32)]⟩,
  ⟨some 34, none, .fieldAddr 2 (.tmp 8)⟩,
  ⟨none, none, .store 1 (.tmp 34) (.tmp 33)⟩])
 k_incr_rules_p0)
def k_incr_rules_p2 : ACode := (.seq (.block 3 (.seq (.region [⟨some 29, none, .indexAddr 3 (.tmp 25) (.tmp 27)⟩,
  ⟨some 30, none, .load 3 true (.tmp 29)⟩,
  ⟨some 8, none, .alloc [(.int .i64 0), (.str []), .nilslice]⟩,
  ⟨none, none, .store 3 (.tmp 8) (.tmp 30)⟩])
 k_incr_rules_p1))
 (.region [⟨some 41, none, .bin .add (.tmp 27) (.const (.int .i64 1))⟩,
  ⟨some 27, none, .mov (.tmp 41)⟩]))
def k_incr_rules_p3 : ACode := (.seq (.region [⟨some 28, none, .bin .lss (.tmp 27) (.tmp 26)⟩])
 (.seq (.cond (.tmp 28) .skip (.exit 2))
 k_incr_rules_p2))
def k_incr_rules_p4 : ACode := (.region [⟨some 42, none, .mov (.tmp 3)⟩,
  ⟨some 43, none, .load 4 true (.tmp 6)⟩,
  ⟨some 44, none, .buildSlice 1 [(.int .i64 0), (.str []), .nilslice, .nilslice] [(0, 4, (.tmp 43))]⟩,
  ⟨some 45, none, .append 4 72 (.tmp 42) (.tmp 44)⟩,
  ⟨some 3, none, .mov (.tmp 45)⟩])
def k_incr_rules_p5 : ACode := (.seq (.region [⟨some 18, none, .fieldAddr 0 (.tmp 5)⟩,
  ⟨some 19, none, .fieldAddr 2 (.tmp 18)⟩,
  ⟨some 20, none, .load 1 false (.tmp 19)⟩,
  ⟨some 21, none, .call (.const (.func (.func n_slices_Clone_api_Term_api_Term) [] [])) [(.tmp 20)]⟩,
  ⟨some 22, none, .fieldAddr 0 (.tmp 6)⟩,
  ⟨some 23, none, .fieldAddr 2 (.tmp 22)⟩,
  ⟨none, none, .store 1 (.tmp 23) (.tmp 21)⟩])
 (.seq (.seq (.region [⟨some 24, none, .fieldAddr 3 (.tmp 5)⟩,
  ⟨some 25, none, .load 1 false (.tmp 24)⟩,
  ⟨some 26, none, .lenSl (.tmp 25)⟩,
  ⟨some 27, none, .mov (.const (.int .i64 0))⟩])
 (.block 2 (.loop k_incr_rules_p3)))
 k_incr_rules_p4))
def k_incr_rules_p6 : ACode := (.seq (.region [⟨some 15, none, .fieldAddr 0 (.tmp 5)⟩,
  ⟨some 16, none, .load 3 true (.tmp 15)⟩,
  ⟨some 17, none, .build [(.int .i64 0), (.str []), .nilslice, .nilslice] [(0, 3, (.tmp 16))]⟩,
  ⟨some 6, none, .alloc [(.int .i64 0), (.str []), .nilslice, .nilslice]⟩,
  ⟨none, none, .store 4 (.tmp 6) (.tmp 17)⟩])
 k_incr_rules_p5)
def k_incr_rules_p7 : ACode := (.seq (.block 1 (.seq (.region [⟨some 13, none, .indexAddr 4 (.tmp 9) (.tmp 11)⟩,
  ⟨some 14, none, .load 4 true (.tmp 13)⟩,
  ⟨some 5, none, .alloc [(.int .i64 0), (.str []), .nilslice, .nilslice]⟩,
  ⟨none, none, .store 4 (.tmp 5) (.tmp 14)⟩])
 k_incr_rules_p6))
 (.region [⟨some 46, none, .bin .add (.tmp 11) (.const (.int .i64 1))⟩,
  ⟨some 11, none, .mov (.tmp 46)⟩]))
def k_incr_rules_p8 : ACode := (.seq (.region [⟨some 12, none, .bin .lss (.tmp 11) (.tmp 10)⟩])
 (.seq (.cond (.tmp 12) .skip (.exit 0))
 k_incr_rules_p7))
def k_incr_rules_p9 : ACode := (.seq (.seq (.region [⟨some 9, none, .mov (.tmp 0)⟩,
  ⟨some 10, none, .lenSl (.tmp 9)⟩,
  ⟨some 11, none, .mov (.const (.int .i64 0))⟩])
 (.block 0 (.loop k_incr_rules_p8)))
 (.seq (.region [⟨some 47, none, .mov (.tmp 3)⟩,
  ⟨some 2, none, .mov (.tmp 47)⟩])
 .ret))
def k_incr_rules : AFun := ⟨48, [.tmp 2], (.seq (.region [⟨some 2, none, .mov (.const .nilslice)⟩])
 (.seq (.region [⟨some 3, none, .mov (.const .nilslice)⟩])
 k_incr_rules_p9))⟩
theorem c_incr_rules : (XTab.of Tryz.prog).code 203 = some k_incr_rules := by kernel_rfl
def k_incr_facts_p0 : ACode := (.drawn [⟨⟨some 12, none, .mov (.tmp 3)⟩, false, [], []⟩,
  ⟨⟨some 13, none, .fieldAddr 0 (.tmp 5)⟩, false, [], []⟩,
  ⟨⟨some 14, none, .load 1 false (.tmp 13)⟩, false, [1], []⟩,
  ⟨⟨some 15, none, .fieldAddr 1 (.tmp 5)⟩, false, [], []⟩,
  ⟨⟨some 16, none, .load 1 false (.tmp 15)⟩, false, [3], []⟩,
  ⟨⟨some 17, none, .call (.const (.func (.func n_slices_Clone_api_Term_api_Term) [] [])) [(.tmp 16)]⟩, true, [4, 3], []⟩,
  ⟨⟨some 18, none, .build [(.str []), .nilslice] [(0, 1, (.tmp 14)), (1, 1, (.tmp 17))]⟩, false, [5, 4, 3, 2, 1], []⟩,
  ⟨⟨some 19, none, .buildSlice 1 [(.str []), .nilslice] [(0, 2, (.tmp 18))]⟩, true, [6, 5, 4, 3, 2, 1], []⟩,
  ⟨⟨some 20, none, .append 2 40 (.tmp 12) (.tmp 19)⟩, true, [7, 6, 5, 4, 3, 2, 1, 0], []⟩,
  ⟨⟨some 3, none, .mov (.tmp 20)⟩, false, [8, 7, 6, 5, 4, 3, 2, 1, 0], []⟩])
def k_incr_facts_p1 : ACode := (.seq (.block 1 (.seq (.region [⟨some 10, none, .indexAddr 2 (.tmp 6) (.tmp 8)⟩,
  ⟨some 11, none, .load 2 true (.tmp 10)⟩,
  ⟨some 5, none, .alloc [(.str []), .nilslice]⟩,
  ⟨none, none, .store 2 (.tmp 5) (.tmp 11)⟩])
 k_incr_facts_p0))
 (.region [⟨some 21, none, .bin .add (.tmp 8) (.const (.int .i64 1))⟩,
  ⟨some 8, none, .mov (.tmp 21)⟩]))
def k_incr_facts_p2 : ACode := (.seq (.region [⟨some 9, none, .bin .lss (.tmp 8) (.tmp 7)⟩])
 (.seq (.cond (.tmp 9) .skip (.exit 0))
 k_incr_facts_p1))
def k_incr_facts_p3 : ACode := (.seq (.seq (.region [⟨some 6, none, .mov (.tmp 0)⟩,
  ⟨some 7, none, .lenSl (.tmp 6)⟩,
  ⟨some 8, none, .mov (.const (.int .i64 0))⟩])
 (.block 0 (.loop k_incr_facts_p2)))
 (.seq (.region [⟨some 22, none, .mov (.tmp 3)⟩,
  ⟨some 2, none, .mov (.tmp 22)⟩])
 .ret))
def k_incr_facts : AFun := ⟨23, [.tmp 2], (.seq (.region [⟨some 2, none, .mov (.const .nilslice)⟩])
 (.seq (.region [⟨some 3, none, .mov (.const .nilslice)⟩])
 k_incr_facts_p3))⟩
theorem c_incr_facts : (XTab.of Tryz.prog).code 204 = some k_incr_facts := by kernel_rfl
def k_strings_Compare : AFun := ⟨8, [.tmp 4], (.seq (.region [⟨some 4, none, .mov (.const (.int .i64 0))⟩])
 (.seq (.region [⟨some 5, none, .mov (.tmp 0)⟩,
  ⟨some 6, none, .mov (.tmp 1)⟩,
  ⟨some 7, none, .call (.const (.func (.func n_int_bytealg_CompareString) [] [])) [(.tmp 5), (.tmp 6)]⟩,
  ⟨some 4, none, .mov (.tmp 7)⟩])
 .ret))⟩
theorem c_strings_Compare : (XTab.of Tryz.prog).code 205 = some k_strings_Compare := by kernel_rfl
def k_syntax_open_p0 : ACode := (.seq (.region [⟨some 8, none, .build [.nilslice, (.bool false), (.int .i64 0)] [(2, 1, (.const (.int .i64 8)))]⟩,
  ⟨some 9, none, .box (.tmp 8)⟩,
  ⟨some 2, none, .mov (.tmp 9)⟩])
 .ret)
def k_syntax_open_p1 : ACode := (.seq (.region [⟨some 15, none, .mov (.tmp 3)⟩,
  ⟨some 16, none, .mov (.tmp 4)⟩,
  ⟨some 17, none, .build [.nilslice, (.bool false), (.int .i64 0)] [(0, 1, (.tmp 15)), (1, 1, (.tmp 16))]⟩,
  ⟨some 18, none, .box (.tmp 17)⟩,
  ⟨some 2, none, .mov (.tmp 18)⟩])
 .ret)
def k_syntax_open_p2 : ACode := (.seq (.region [⟨some 11, none, .mov (.tmp 0)⟩,
  ⟨some 12, none, .call (.const (.func (.func n_lex_Front) [] [])) [(.tmp 11)]⟩,
  ⟨some 10, none, .mov (.tmp 12)⟩,
  ⟨some 13, none, .extract 0 (.tmp 10)⟩,
  ⟨some 14, none, .extract 1 (.tmp 10)⟩,
  ⟨some 3, none, .mov (.tmp 13)⟩,
  ⟨some 4, none, .mov (.tmp 14)⟩])
 k_syntax_open_p1)
def k_syntax_open : AFun := ⟨19, [.tmp 2], (.seq (.region [⟨some 2, none, .mov (.const .nilptr)⟩])
 (.seq (.seq (.region [⟨some 5, none, .mov (.tmp 0)⟩,
  ⟨some 6, none, .lenStr (.tmp 5)⟩,
  ⟨some 7, none, .bin .gtr (.tmp 6) (.const (.int .i64 4000))⟩])
 (.cond (.tmp 7) k_syntax_open_p0 .skip))
 k_syntax_open_p2))⟩
theorem c_syntax_open : (XTab.of Tryz.prog).code 207 = some k_syntax_open := by kernel_rfl
def k_syntax_parser_atom_p0 : ACode := (.region [⟨some 10, none, .mov (.tmp 0)⟩,
  ⟨some 11, none, .call (.const (.func (.func n_syntax_parser_fail) [] [])) [(.tmp 10), (.const (.int .i64 4))]⟩])
def k_syntax_parser_atom_p1 : ACode := (.seq (.region [⟨some 18, none, .load 3 true (.tmp 4)⟩,
  ⟨none, none, .store 3 (.tmp 2) (.tmp 18)⟩])
 .ret)
def k_syntax_parser_atom_p2 : ACode := (.region [⟨some 30, none, .mov (.tmp 0)⟩,
  ⟨some 31, none, .call (.const (.func (.func n_syntax_parser_fail) [] [])) [(.tmp 30), (.const (.int .i64 8))]⟩])
def k_syntax_parser_atom_p3 : ACode := (.seq (.seq (.region [⟨some 26, none, .fieldAddr 2 (.tmp 4)⟩,
  ⟨some 27, none, .load 1 false (.tmp 26)⟩,
  ⟨some 28, none, .lenSl (.tmp 27)⟩,
  ⟨some 29, none, .bin .gtr (.tmp 28) (.const (.int .i64 4))⟩])
 (.cond (.tmp 29) k_syntax_parser_atom_p2 .skip))
 (.seq (.region [⟨some 32, none, .mov (.tmp 0)⟩,
  ⟨some 33, none, .call (.const (.func (.func n_syntax_parser_take) [] [])) [(.tmp 32), (.const (.str [44]))]⟩,
  ⟨some 34, none, .un .not (.tmp 33)⟩])
 (.cond (.tmp 34) (.exit 0) .skip)))
def k_syntax_parser_atom_p4 : ACode := (.seq (.drawn [⟨⟨some 19, none, .fieldAddr 2 (.tmp 4)⟩, false, [], []⟩,
  ⟨⟨some 20, none, .load 1 false (.tmp 19)⟩, false, [0], []⟩,
  ⟨⟨some 21, none, .mov (.tmp 0)⟩, false, [], []⟩,
  ⟨⟨some 22, none, .call (.const (.func (.func n_syntax_parser_term) [] [])) [(.tmp 21)]⟩, true, [2], []⟩,
  ⟨⟨some 23, none, .buildSlice 1 [(.int .i64 0), (.str []), (.int .i64 0)] [(0, 3, (.tmp 22))]⟩, true, [3, 2], []⟩,
  ⟨⟨some 24, none, .append 3 32 (.tmp 20) (.tmp 23)⟩, true, [4, 3, 2, 1, 0], []⟩,
  ⟨⟨some 25, none, .fieldAddr 2 (.tmp 4)⟩, false, [5, 4, 3, 2, 1, 0], []⟩,
  ⟨⟨none, none, .store 1 (.tmp 25) (.tmp 24)⟩, true, [6, 5, 4, 3, 2, 1, 0], []⟩])
 k_syntax_parser_atom_p3)
def k_syntax_parser_atom_p5 : ACode := (.block 1 k_syntax_parser_atom_p4)
def k_syntax_parser_atom_p6 : ACode := (.seq (.region [⟨some 35, none, .mov (.tmp 0)⟩,
  ⟨some 36, none, .call (.const (.func (.func n_syntax_parser_must) [] [])) [(.tmp 35), (.const (.str [41]))]⟩])
 (.seq (.region [⟨some 37, none, .load 3 true (.tmp 4)⟩,
  ⟨none, none, .store 3 (.tmp 2) (.tmp 37)⟩])
 .ret))
def k_syntax_parser_atom_p7 : ACode := (.seq (.seq (.region [⟨some 15, none, .mov (.tmp 0)⟩,
  ⟨some 16, none, .call (.const (.func (.func n_syntax_parser_take) [] [])) [(.tmp 15), (.const (.str [40]))]⟩,
  ⟨some 17, none, .un .not (.tmp 16)⟩])
 (.cond (.tmp 17) k_syntax_parser_atom_p1 .skip))
 (.seq (.block 0 (.loop k_syntax_parser_atom_p5))
 k_syntax_parser_atom_p6))
def k_syntax_parser_atom_p8 : ACode := (.seq (.region [⟨some 12, none, .fieldAddr 1 (.tmp 3)⟩,
  ⟨some 13, none, .load 1 false (.tmp 12)⟩,
  ⟨some 14, none, .build [(.int .i64 0), (.str []), .nilslice] [(0, 1, (.const (.int .i64 1))), (1, 1, (.tmp 13))]⟩,
  ⟨some 4, none, .alloc [(.int .i64 0), (.str []), .nilslice]⟩,
  ⟨none, none, .store 3 (.tmp 4) (.tmp 14)⟩])
 k_syntax_parser_atom_p7)
def k_syntax_parser_atom_p9 : ACode := (.seq (.region [⟨some 5, none, .mov (.tmp 0)⟩,
  ⟨some 6, none, .call (.const (.func (.func n_syntax_parser_next) [] [])) [(.tmp 5)]⟩,
  ⟨some 3, none, .alloc [(.int .i64 0), (.str []), (.int .i64 0)]⟩,
  ⟨none, none, .store 3 (.tmp 3) (.tmp 6)⟩])
 (.seq (.seq (.region [⟨some 7, none, .fieldAddr 0 (.tmp 3)⟩,
  ⟨some 8, none, .load 1 false (.tmp 7)⟩,
  ⟨some 9, none, .bin .neq (.tmp 8) (.const (.int .i64 1))⟩])
 (.cond (.tmp 9) k_syntax_parser_atom_p0 .skip))
 k_syntax_parser_atom_p8))
def k_syntax_parser_atom : AFun := ⟨38, [.cell 2 3 true], (.seq (.region [⟨some 2, none, .alloc [(.int .i64 0), (.str []), .nilslice]⟩])
 k_syntax_parser_atom_p9)⟩
theorem c_syntax_parser_atom : (XTab.of Tryz.prog).code 208 = some k_syntax_parser_atom := by kernel_rfl
def k_syntax_parser_take_p0 : ACode := (.seq (.region [⟨some 4, none, .mov (.const (.bool false))⟩])
 .ret)
def k_syntax_parser_take_p1 : ACode := (.seq (.region [⟨some 9, none, .mov (.tmp 0)⟩,
  ⟨some 10, none, .mov (.tmp 0)⟩,
  ⟨some 11, none, .nilCheck (.tmp 10)⟩,
  ⟨some 12, none, .fieldAddr 0 (.tmp 11)⟩,
  ⟨some 13, none, .load 1 false (.tmp 12)⟩,
  ⟨some 14, none, .slice 3 (.tmp 13) (some (.const (.int .i64 1))) none none⟩,
  ⟨some 15, none, .nilCheck (.tmp 9)⟩,
  ⟨some 16, none, .fieldAddr 0 (.tmp 15)⟩,
  ⟨none, none, .store 1 (.tmp 16) (.tmp 14)⟩])
 (.seq (.region [⟨some 4, none, .mov (.const (.bool true))⟩])
 .ret))
def k_syntax_parser_take : AFun := ⟨17, [.tmp 4], (.seq (.region [⟨some 4, none, .mov (.const (.bool false))⟩])
 (.seq (.seq (.region [⟨some 5, none, .mov (.tmp 0)⟩,
  ⟨some 6, none, .mov (.tmp 1)⟩,
  ⟨some 7, none, .call (.const (.func (.func n_syntax_parser_is) [] [])) [(.tmp 5), (.tmp 6)]⟩,
  ⟨some 8, none, .un .not (.tmp 7)⟩])
 (.cond (.tmp 8) k_syntax_parser_take_p0 .skip))
 k_syntax_parser_take_p1))⟩
theorem c_syntax_parser_take : (XTab.of Tryz.prog).code 209 = some k_syntax_parser_take := by kernel_rfl
def k_syntax_parser_end_p0 : ACode := (.seq (.region [⟨some 3, none, .mov (.tmp 0)⟩,
  ⟨some 4, none, .nilCheck (.tmp 3)⟩,
  ⟨some 5, none, .fieldAddr 0 (.tmp 4)⟩,
  ⟨some 6, none, .load 1 false (.tmp 5)⟩,
  ⟨some 7, none, .lenSl (.tmp 6)⟩,
  ⟨some 8, none, .bin .eql (.tmp 7) (.const (.int .i64 0))⟩,
  ⟨some 9, none, .mov (.tmp 8)⟩,
  ⟨some 10, (some (9, true)), .mov (.tmp 0)⟩,
  ⟨some 11, (some (9, true)), .nilCheck (.tmp 10)⟩,
  ⟨some 12, (some (9, true)), .fieldAddr 1 (.tmp 11)⟩,
  ⟨some 13, (some (9, true)), .load 1 false (.tmp 12)⟩,
  ⟨some 14, none, .pick (.tmp 9) (.tmp 13) (.const (.bool false))⟩,
  ⟨some 2, none, .mov (.tmp 14)⟩])
 .ret)
def k_syntax_parser_end : AFun := ⟨15, [.tmp 2], (.seq (.region [⟨some 2, none, .mov (.const (.bool false))⟩])
 k_syntax_parser_end_p0)⟩
theorem c_syntax_parser_end : (XTab.of Tryz.prog).code 210 = some k_syntax_parser_end := by kernel_rfl
def k_incr_Live_model_p0 : ACode := (.seq (.region [⟨some 2, none, .mov (.const .nilptr)⟩])
 .ret)
def k_incr_Live_model_p1 : ACode := (.seq (.seq (.region [⟨some 3, none, .mov (.tmp 0)⟩,
  ⟨some 4, none, .eqv false .ptr (.tmp 3) (.const .nilptr)⟩])
 (.cond (.tmp 4) k_incr_Live_model_p0 .skip))
 (.seq (.region [⟨some 5, none, .mov (.tmp 0)⟩,
  ⟨some 6, none, .nilCheck (.tmp 5)⟩,
  ⟨some 7, none, .fieldAddr 2 (.tmp 6)⟩,
  ⟨some 8, none, .load 1 false (.tmp 7)⟩,
  ⟨some 2, none, .mov (.tmp 8)⟩])
 .ret))
def k_incr_Live_model : AFun := ⟨9, [.tmp 2], (.seq (.region [⟨some 2, none, .mov (.const .nilptr)⟩])
 k_incr_Live_model_p1)⟩
theorem c_incr_Live_model : (XTab.of Tryz.prog).code 212 = some k_incr_Live_model := by kernel_rfl
def k_value_Atom_p0 : ACode := (.seq (.region [⟨some 11, none, .mov (.tmp 9)⟩,
  ⟨some 12, none, .indexAddr 3 (.tmp 7) (.tmp 9)⟩,
  ⟨some 13, none, .load 3 true (.tmp 12)⟩,
  ⟨some 6, none, .alloc [(.int .i64 0), (.str []), (.int .i64 0)]⟩,
  ⟨some 5, none, .mov (.tmp 11)⟩,
  ⟨none, none, .store 3 (.tmp 6) (.tmp 13)⟩])
 (.seq (.seq (.region [⟨some 14, none, .mov (.tmp 5)⟩,
  ⟨some 15, none, .bin .eql (.tmp 14) (.const (.int .i64 0))⟩])
 (.cond (.tmp 15) (.region [⟨some 16, none, .mov (.tmp 0)⟩,
  ⟨some 17, none, .bin .add (.tmp 16) (.const (.str [40]))⟩,
  ⟨some 0, none, .mov (.tmp 17)⟩]) (.region [⟨some 18, none, .mov (.tmp 0)⟩,
  ⟨some 19, none, .bin .add (.tmp 18) (.const (.str [44, 32]))⟩,
  ⟨some 0, none, .mov (.tmp 19)⟩])))
 (.region [⟨some 20, none, .mov (.tmp 0)⟩,
  ⟨some 21, none, .load 3 true (.tmp 6)⟩,
  ⟨some 22, none, .call (.const (.func (.func n_value_Print) [] [])) [(.tmp 21)]⟩,
  ⟨some 23, none, .bin .add (.tmp 20) (.tmp 22)⟩,
  ⟨some 0, none, .mov (.tmp 23)⟩])))
def k_value_Atom_p1 : ACode := (.seq (.region [⟨some 10, none, .bin .lss (.tmp 9) (.tmp 8)⟩])
 (.seq (.cond (.tmp 10) .skip (.exit 0))
 (.seq (.block 1 k_value_Atom_p0)
 (.region [⟨some 24, none, .bin .add (.tmp 9) (.const (.int .i64 1))⟩,
  ⟨some 9, none, .mov (.tmp 24)⟩]))))
def k_value_Atom : AFun := ⟨31, [.tmp 4], (.seq (.region [⟨some 4, none, .mov (.const (.str []))⟩])
 (.seq (.seq (.region [⟨some 7, none, .mov (.tmp 1)⟩,
  ⟨some 8, none, .lenSl (.tmp 7)⟩,
  ⟨some 9, none, .mov (.const (.int .i64 0))⟩])
 (.block 0 (.loop k_value_Atom_p1)))
 (.seq (.seq (.region [⟨some 25, none, .mov (.tmp 1)⟩,
  ⟨some 26, none, .lenSl (.tmp 25)⟩,
  ⟨some 27, none, .bin .gtr (.tmp 26) (.const (.int .i64 0))⟩])
 (.cond (.tmp 27) (.region [⟨some 28, none, .mov (.tmp 0)⟩,
  ⟨some 29, none, .bin .add (.tmp 28) (.const (.str [41]))⟩,
  ⟨some 0, none, .mov (.tmp 29)⟩]) .skip))
 (.seq (.region [⟨some 30, none, .mov (.tmp 0)⟩,
  ⟨some 4, none, .mov (.tmp 30)⟩])
 .ret))))⟩
theorem c_value_Atom : (XTab.of Tryz.prog).code 213 = some k_value_Atom := by kernel_rfl
def k_syntax_Fact_p0 : ACode := (.seq (.region [⟨some 15, none, .build [(.str []), .nilslice] []⟩,
  ⟨some 16, none, .mov (.tmp 5)⟩,
  ⟨none, none, .store 2 (.tmp 2) (.tmp 15)⟩,
  ⟨some 3, none, .mov (.tmp 16)⟩])
 .ret)
def k_syntax_Fact_p1 : ACode := (.seq (.region [⟨some 27, none, .build [(.str []), .nilslice] []⟩,
  ⟨none, none, .store 2 (.tmp 2) (.tmp 27)⟩,
  ⟨some 3, none, .mov (.const (.int .i64 4))⟩])
 .ret)
def k_syntax_Fact_p2 : ACode := (.seq (.region [⟨some 22, none, .indexAddr 3 (.tmp 18) (.tmp 20)⟩,
  ⟨some 23, none, .load 3 true (.tmp 22)⟩,
  ⟨some 7, none, .alloc [(.int .i64 0), (.str []), (.int .i64 0)]⟩,
  ⟨none, none, .store 3 (.tmp 7) (.tmp 23)⟩])
 (.seq (.region [⟨some 24, none, .fieldAddr 0 (.tmp 7)⟩,
  ⟨some 25, none, .load 1 false (.tmp 24)⟩,
  ⟨some 26, none, .bin .eql (.tmp 25) (.const (.int .i64 1))⟩])
 (.cond (.tmp 26) k_syntax_Fact_p1 .skip)))
def k_syntax_Fact_p3 : ACode := (.seq (.region [⟨some 21, none, .bin .lss (.tmp 20) (.tmp 19)⟩])
 (.seq (.cond (.tmp 21) .skip (.exit 0))
 (.seq (.block 1 k_syntax_Fact_p2)
 (.region [⟨some 28, none, .bin .add (.tmp 20) (.const (.int .i64 1))⟩,
  ⟨some 20, none, .mov (.tmp 28)⟩]))))
def k_syntax_Fact_p4 : ACode := (.seq (.region [⟨some 29, none, .fieldAddr 1 (.tmp 4)⟩,
  ⟨some 30, none, .load 1 false (.tmp 29)⟩,
  ⟨some 31, none, .fieldAddr 2 (.tmp 4)⟩,
  ⟨some 32, none, .load 1 false (.tmp 31)⟩,
  ⟨some 33, none, .build [(.str []), .nilslice] [(0, 1, (.tmp 30)), (1, 1, (.tmp 32))]⟩,
  ⟨none, none, .store 2 (.tmp 2) (.tmp 33)⟩,
  ⟨some 3, none, .mov (.const (.int .i64 0))⟩])
 .ret)
def k_syntax_Fact_p5 : ACode := (.seq (.seq (.region [⟨some 13, none, .mov (.tmp 5)⟩,
  ⟨some 14, none, .bin .neq (.tmp 13) (.const (.int .i64 0))⟩])
 (.cond (.tmp 14) k_syntax_Fact_p0 .skip))
 (.seq (.seq (.region [⟨some 17, none, .fieldAddr 2 (.tmp 4)⟩,
  ⟨some 18, none, .load 1 false (.tmp 17)⟩,
  ⟨some 19, none, .lenSl (.tmp 18)⟩,
  ⟨some 20, none, .mov (.const (.int .i64 0))⟩])
 (.block 0 (.loop k_syntax_Fact_p3)))
 k_syntax_Fact_p4))
def k_syntax_Fact_p6 : ACode := (.seq (.region [⟨some 9, none, .mov (.tmp 0)⟩,
  ⟨some 10, none, .call (.const (.func (.func n_syntax_single) [] [])) [(.tmp 9)]⟩,
  ⟨some 8, none, .mov (.tmp 10)⟩,
  ⟨some 11, none, .extract 0 (.tmp 8)⟩,
  ⟨some 12, none, .extract 1 (.tmp 8)⟩,
  ⟨some 4, none, .alloc [(.int .i64 0), (.str []), .nilslice]⟩,
  ⟨none, none, .store 3 (.tmp 4) (.tmp 11)⟩,
  ⟨some 5, none, .mov (.tmp 12)⟩])
 k_syntax_Fact_p5)
def k_syntax_Fact : AFun := ⟨34, [.cell 2 2 true, .tmp 3], (.seq (.region [⟨some 2, none, .alloc [(.str []), .nilslice]⟩,
  ⟨some 3, none, .mov (.const (.int .i64 0))⟩])
 k_syntax_Fact_p6)⟩
theorem c_syntax_Fact : (XTab.of Tryz.prog).code 215 = some k_syntax_Fact := by kernel_rfl
def k_incr_Live_kept_p0 : ACode := (.seq (.region [⟨some 8, none, .mov (.const (.bool false))⟩,
  ⟨some 9, none, .mov (.const (.int .i64 8))⟩])
 .ret)
def k_incr_Live_kept_p1 : ACode := (.seq (.region [⟨some 8, none, .mov (.const (.bool false))⟩,
  ⟨some 9, none, .mov (.const (.int .i64 14))⟩])
 .ret)
def k_incr_Live_kept_p2 : ACode := (.seq (.region [⟨some 17, none, .load 2 true (.tmp 5)⟩,
  ⟨some 18, none, .call (.const (.func (.func n_model_Fact) [] [])) [(.tmp 17)]⟩,
  ⟨some 19, none, .un .not (.tmp 18)⟩,
  ⟨some 16, none, .mov (.tmp 19)⟩])
 (.cond (.tmp 16) k_incr_Live_kept_p0 .skip))
def k_incr_Live_kept_p3 : ACode := (.seq (.region [⟨some 8, none, .mov (.const (.bool false))⟩,
  ⟨some 9, none, .mov (.const (.int .i64 0))⟩])
 .ret)
def k_incr_Live_kept_p4 : ACode := (.seq (.region [⟨some 49, none, .mov (.tmp 12)⟩,
  ⟨some 8, none, .mov (.const (.bool false))⟩,
  ⟨some 9, none, .mov (.tmp 49)⟩])
 .ret)
def k_incr_Live_kept_p5 : ACode := (.seq (.seq (.drawn [⟨⟨some 32, none, .mov (.tmp 0)⟩, false, [], []⟩,
  ⟨⟨some 33, none, .mov (.tmp 0)⟩, false, [], []⟩,
  ⟨⟨some 34, none, .nilCheck (.tmp 33)⟩, false, [1], []⟩,
  ⟨⟨some 35, none, .fieldAddr 0 (.tmp 34)⟩, false, [2, 1], []⟩,
  ⟨⟨some 36, none, .load 1 false (.tmp 35)⟩, false, [3, 2, 1], []⟩,
  ⟨⟨some 37, none, .mov (.tmp 3)⟩, false, [], []⟩,
  ⟨⟨some 38, none, .mov (.tmp 0)⟩, false, [], []⟩,
  ⟨⟨some 39, none, .nilCheck (.tmp 38)⟩, false, [6], []⟩,
  ⟨⟨some 40, none, .fieldAddr 1 (.tmp 39)⟩, false, [7, 6], []⟩,
  ⟨⟨some 41, none, .load 1 false (.tmp 40)⟩, false, [8, 7, 6], []⟩,
  ⟨⟨some 42, none, .call (.const (.func (.func n_incr_facts) [] [])) [(.tmp 41)]⟩, true, [9, 8, 7, 6], []⟩,
  ⟨⟨some 43, none, .mov (.tmp 10)⟩, false, [], []⟩,
  ⟨⟨some 44, none, .load 2 true (.tmp 5)⟩, false, [], []⟩,
  ⟨⟨some 45, none, .call (.tmp 37) [(.tmp 42), (.tmp 43), (.tmp 44)]⟩, true, [12, 11, 10, 9, 8, 7, 6, 5], []⟩,
  ⟨⟨some 46, none, .call (.const (.func (.func n_incr_Live_turn) [] [])) [(.tmp 32), (.tmp 36), (.tmp 45)]⟩, true, [13, 12, 11, 10, 9, 8, 7, 6, 5, 4, 3, 2, 1, 0], []⟩,
  ⟨⟨some 12, none, .mov (.tmp 46)⟩, false, [14, 13, 12, 11, 10, 9, 8, 7, 6, 5, 4, 3, 2, 1, 0], []⟩])
 (.seq (.region [⟨some 47, none, .mov (.tmp 12)⟩,
  ⟨some 48, none, .bin .neq (.tmp 47) (.const (.int .i64 0))⟩])
 (.cond (.tmp 48) k_incr_Live_kept_p4 .skip)))
 (.seq (.region [⟨some 8, none, .mov (.const (.bool true))⟩,
  ⟨some 9, none, .mov (.const (.int .i64 0))⟩])
 .ret))
def k_incr_Live_kept_p6 : ACode := (.seq (.region [⟨some 21, none, .mov (.tmp 0)⟩,
  ⟨some 22, none, .nilCheck (.tmp 21)⟩,
  ⟨some 23, none, .fieldAddr 1 (.tmp 22)⟩,
  ⟨some 24, none, .load 1 false (.tmp 23)⟩,
  ⟨some 25, none, .load 2 true (.tmp 5)⟩,
  ⟨some 26, none, .call (.const (.func (.func n_slices_BinarySearchFunc_api_Fact_api_Fact_api_Fact) [] [])) [(.tmp 24), (.tmp 25), (.const (.func (.func n_incr_order) [] []))]⟩,
  ⟨some 20, none, .mov (.tmp 26)⟩,
  ⟨some 27, none, .extract 0 (.tmp 20)⟩,
  ⟨some 28, none, .extract 1 (.tmp 20)⟩,
  ⟨some 10, none, .mov (.tmp 27)⟩,
  ⟨some 11, none, .mov (.tmp 28)⟩])
 (.seq (.seq (.region [⟨some 29, none, .mov (.tmp 11)⟩,
  ⟨some 30, none, .mov (.tmp 2)⟩,
  ⟨some 31, none, .eqv true .bool (.tmp 29) (.tmp 30)⟩])
 (.cond (.tmp 31) k_incr_Live_kept_p3 .skip))
 k_incr_Live_kept_p5))
def k_incr_Live_kept : AFun := ⟨50, [.tmp 8, .tmp 9], (.seq (.region [⟨some 5, none, .box (.tmp 1)⟩,
  ⟨some 8, none, .mov (.const (.bool false))⟩,
  ⟨some 9, none, .mov (.const (.int .i64 0))⟩])
 (.seq (.block 0 (.seq (.region [⟨some 14, none, .mov (.tmp 0)⟩,
  ⟨some 15, none, .eqv false .ptr (.tmp 14) (.const .nilptr)⟩,
  ⟨some 13, none, .mov (.tmp 15)⟩])
 (.cond (.tmp 13) k_incr_Live_kept_p1 k_incr_Live_kept_p2)))
 k_incr_Live_kept_p6))⟩
theorem c_incr_Live_kept : (XTab.of Tryz.prog).code 216 = some k_incr_Live_kept := by kernel_rfl
def k_incr_Live_Insert_1_p0 : ACode := (.seq (.region [⟨some 7, none, .mov (.tmp 0)⟩,
  ⟨some 8, none, .mov (.tmp 1)⟩,
  ⟨some 9, none, .load 2 true (.tmp 5)⟩,
  ⟨some 10, none, .buildSlice 1 [(.str []), .nilslice] [(0, 2, (.tmp 9))]⟩,
  ⟨some 11, none, .call (.const (.func (.func n_slices_Insert_api_Fact_api_Fact) [] [])) [(.tmp 7), (.tmp 8), (.tmp 10)]⟩,
  ⟨some 6, none, .mov (.tmp 11)⟩])
 .ret)
def k_incr_Live_Insert_1 : AFun := ⟨12, [.tmp 6], (.seq (.region [⟨some 5, none, .box (.tmp 2)⟩,
  ⟨some 6, none, .mov (.const .nilslice)⟩])
 k_incr_Live_Insert_1_p0)⟩
theorem c_incr_Live_Insert_1 : (XTab.of Tryz.prog).code 217 = some k_incr_Live_Insert_1 := by kernel_rfl
def k_slices_Insert_api_Fact_api_Fact_p0 : ACode := (.seq (.region [⟨some 17, none, .mov (.tmp 0)⟩,
  ⟨some 6, none, .mov (.tmp 17)⟩])
 .ret)
def k_slices_Insert_api_Fact_api_Fact_p1 : ACode := (.seq (.region [⟨some 23, none, .mov (.tmp 0)⟩,
  ⟨some 24, none, .mov (.tmp 2)⟩,
  ⟨some 25, none, .append 2 40 (.tmp 23) (.tmp 24)⟩,
  ⟨some 6, none, .mov (.tmp 25)⟩])
 .ret)
def k_slices_Insert_api_Fact_api_Fact_p2 : ACode := (.seq (.region [⟨some 46, none, .mov (.tmp 9)⟩,
  ⟨some 47, none, .mov (.tmp 1)⟩,
  ⟨some 48, none, .mov (.tmp 7)⟩,
  ⟨some 49, none, .bin .add (.tmp 47) (.tmp 48)⟩,
  ⟨some 50, none, .slice 2 (.tmp 46) (some (.tmp 49)) none none⟩,
  ⟨some 51, none, .mov (.tmp 0)⟩,
  ⟨some 52, none, .mov (.tmp 1)⟩,
  ⟨some 53, none, .slice 2 (.tmp 51) (some (.tmp 52)) none none⟩,
  ⟨some 54, none, .copy 2 (.tmp 50) (.tmp 53)⟩])
 (.seq (.region [⟨some 55, none, .mov (.tmp 9)⟩,
  ⟨some 6, none, .mov (.tmp 55)⟩])
 .ret))
def k_slices_Insert_api_Fact_api_Fact_p3 : ACode := (.seq (.region [⟨some 32, none, .mov (.tmp 0)⟩,
  ⟨some 33, none, .mov (.tmp 1)⟩,
  ⟨some 34, none, .slice 2 (.tmp 32) none (some (.tmp 33)) none⟩,
  ⟨some 35, none, .mov (.tmp 8)⟩,
  ⟨some 36, none, .mov (.tmp 7)⟩,
  ⟨some 37, none, .bin .add (.tmp 35) (.tmp 36)⟩,
  ⟨some 38, none, .mov (.tmp 1)⟩,
  ⟨some 39, none, .bin .sub (.tmp 37) (.tmp 38)⟩,
  ⟨some 40, none, .stuck⟩,
  ⟨some 9, none, .mov (.tmp 40)⟩])
 (.seq (.region [⟨some 41, none, .mov (.tmp 9)⟩,
  ⟨some 42, none, .mov (.tmp 1)⟩,
  ⟨some 43, none, .slice 2 (.tmp 41) (some (.tmp 42)) none none⟩,
  ⟨some 44, none, .mov (.tmp 2)⟩,
  ⟨some 45, none, .copy 2 (.tmp 43) (.tmp 44)⟩])
 k_slices_Insert_api_Fact_api_Fact_p2))
def k_slices_Insert_api_Fact_api_Fact_p4 : ACode := (.seq (.region [⟨some 78, none, .mov (.tmp 0)⟩,
  ⟨some 79, none, .mov (.tmp 1)⟩,
  ⟨some 80, none, .slice 2 (.tmp 78) (some (.tmp 79)) none none⟩,
  ⟨some 81, none, .mov (.tmp 2)⟩,
  ⟨some 82, none, .copy 2 (.tmp 80) (.tmp 81)⟩])
 (.seq (.region [⟨some 83, none, .mov (.tmp 0)⟩,
  ⟨some 6, none, .mov (.tmp 83)⟩])
 .ret))
def k_slices_Insert_api_Fact_api_Fact_p5 : ACode := (.seq (.region [⟨some 69, none, .mov (.tmp 0)⟩,
  ⟨some 70, none, .mov (.tmp 1)⟩,
  ⟨some 71, none, .mov (.tmp 7)⟩,
  ⟨some 72, none, .bin .add (.tmp 70) (.tmp 71)⟩,
  ⟨some 73, none, .slice 2 (.tmp 69) (some (.tmp 72)) none none⟩,
  ⟨some 74, none, .mov (.tmp 0)⟩,
  ⟨some 75, none, .mov (.tmp 1)⟩,
  ⟨some 76, none, .slice 2 (.tmp 74) (some (.tmp 75)) none none⟩,
  ⟨some 77, none, .copy 2 (.tmp 73) (.tmp 76)⟩])
 k_slices_Insert_api_Fact_api_Fact_p4)
def k_slices_Insert_api_Fact_api_Fact_p6 : ACode := (.seq (.region [⟨some 89, none, .mov (.tmp 0)⟩,
  ⟨some 90, none, .mov (.tmp 1)⟩,
  ⟨some 91, none, .slice 2 (.tmp 89) (some (.tmp 90)) none none⟩,
  ⟨some 92, none, .mov (.tmp 7)⟩,
  ⟨some 93, none, .call (.const (.func (.func n_slices_rotateRight_api_Fact) [] [])) [(.tmp 91), (.tmp 92)]⟩])
 (.seq (.region [⟨some 94, none, .mov (.tmp 0)⟩,
  ⟨some 6, none, .mov (.tmp 94)⟩])
 .ret))
def k_slices_Insert_api_Fact_api_Fact_p7 : ACode := (.seq (.seq (.region [⟨some 61, none, .mov (.tmp 2)⟩,
  ⟨some 62, none, .mov (.tmp 0)⟩,
  ⟨some 63, none, .mov (.tmp 1)⟩,
  ⟨some 64, none, .mov (.tmp 7)⟩,
  ⟨some 65, none, .bin .add (.tmp 63) (.tmp 64)⟩,
  ⟨some 66, none, .slice 2 (.tmp 62) (some (.tmp 65)) none none⟩,
  ⟨some 67, none, .call (.const (.func (.func n_slices_overlaps_api_Fact) [] [])) [(.tmp 61), (.tmp 66)]⟩,
  ⟨some 68, none, .un .not (.tmp 67)⟩])
 (.cond (.tmp 68) k_slices_Insert_api_Fact_api_Fact_p5 .skip))
 (.seq (.region [⟨some 84, none, .mov (.tmp 0)⟩,
  ⟨some 85, none, .mov (.tmp 8)⟩,
  ⟨some 86, none, .slice 2 (.tmp 84) (some (.tmp 85)) none none⟩,
  ⟨some 87, none, .mov (.tmp 2)⟩,
  ⟨some 88, none, .copy 2 (.tmp 86) (.tmp 87)⟩])
 k_slices_Insert_api_Fact_api_Fact_p6))
def k_slices_Insert_api_Fact_api_Fact_p8 : ACode := (.seq (.region [⟨some 56, none, .mov (.tmp 0)⟩,
  ⟨some 57, none, .mov (.tmp 8)⟩,
  ⟨some 58, none, .mov (.tmp 7)⟩,
  ⟨some 59, none, .bin .add (.tmp 57) (.tmp 58)⟩,
  ⟨some 60, none, .slice 2 (.tmp 56) none (some (.tmp 59)) none⟩,
  ⟨some 0, none, .mov (.tmp 60)⟩])
 k_slices_Insert_api_Fact_api_Fact_p7)
def k_slices_Insert_api_Fact_api_Fact_p9 : ACode := (.seq (.seq (.region [⟨some 26, none, .mov (.tmp 8)⟩,
  ⟨some 27, none, .mov (.tmp 7)⟩,
  ⟨some 28, none, .bin .add (.tmp 26) (.tmp 27)⟩,
  ⟨some 29, none, .mov (.tmp 0)⟩,
  ⟨some 30, none, .cap (.tmp 29)⟩,
  ⟨some 31, none, .bin .gtr (.tmp 28) (.tmp 30)⟩])
 (.cond (.tmp 31) k_slices_Insert_api_Fact_api_Fact_p3 .skip))
 k_slices_Insert_api_Fact_api_Fact_p8)
def k_slices_Insert_api_Fact_api_Fact_p10 : ACode := (.seq (.region [⟨some 18, none, .mov (.tmp 0)⟩,
  ⟨some 19, none, .lenSl (.tmp 18)⟩,
  ⟨some 8, none, .mov (.tmp 19)⟩])
 (.seq (.seq (.region [⟨some 20, none, .mov (.tmp 1)⟩,
  ⟨some 21, none, .mov (.tmp 8)⟩,
  ⟨some 22, none, .bin .eql (.tmp 20) (.tmp 21)⟩])
 (.cond (.tmp 22) k_slices_Insert_api_Fact_api_Fact_p1 .skip))
 k_slices_Insert_api_Fact_api_Fact_p9))
def k_slices_Insert_api_Fact_api_Fact_p11 : ACode := (.seq (.region [⟨some 13, none, .mov (.tmp 2)⟩,
  ⟨some 14, none, .lenSl (.tmp 13)⟩,
  ⟨some 7, none, .mov (.tmp 14)⟩])
 (.seq (.seq (.region [⟨some 15, none, .mov (.tmp 7)⟩,
  ⟨some 16, none, .bin .eql (.tmp 15) (.const (.int .i64 0))⟩])
 (.cond (.tmp 16) k_slices_Insert_api_Fact_api_Fact_p0 .skip))
 k_slices_Insert_api_Fact_api_Fact_p10))
def k_slices_Insert_api_Fact_api_Fact : AFun := ⟨95, [.tmp 6], (.seq (.region [⟨some 6, none, .mov (.const .nilslice)⟩])
 (.seq (.region [⟨some 10, none, .mov (.tmp 0)⟩,
  ⟨some 11, none, .mov (.tmp 1)⟩,
  ⟨some 12, none, .slice 2 (.tmp 10) (some (.tmp 11)) none none⟩])
 k_slices_Insert_api_Fact_api_Fact_p11))⟩
theorem c_slices_Insert_api_Fact_api_Fact : (XTab.of Tryz.prog).code 218 = some k_slices_Insert_api_Fact_api_Fact := by kernel_rfl
def k_incr_Live_Retract_1_p0 : ACode := (.seq (.region [⟨some 7, none, .mov (.tmp 0)⟩,
  ⟨some 8, none, .mov (.tmp 1)⟩,
  ⟨some 9, none, .mov (.tmp 1)⟩,
  ⟨some 10, none, .bin .add (.tmp 9) (.const (.int .i64 1))⟩,
  ⟨some 11, none, .call (.const (.func (.func n_slices_Delete_api_Fact_api_Fact) [] [])) [(.tmp 7), (.tmp 8), (.tmp 10)]⟩,
  ⟨some 6, none, .mov (.tmp 11)⟩])
 .ret)
def k_incr_Live_Retract_1 : AFun := ⟨12, [.tmp 6], (.seq (.region [⟨some 5, none, .box (.tmp 2)⟩,
  ⟨some 6, none, .mov (.const .nilslice)⟩])
 k_incr_Live_Retract_1_p0)⟩
theorem c_incr_Live_Retract_1 : (XTab.of Tryz.prog).code 219 = some k_incr_Live_Retract_1 := by kernel_rfl
def k_slices_Delete_api_Fact_api_Fact_p0 : ACode := (.seq (.region [⟨some 17, none, .mov (.tmp 0)⟩,
  ⟨some 6, none, .mov (.tmp 17)⟩])
 .ret)
def k_slices_Delete_api_Fact_api_Fact_p1 : ACode := (.seq (.region [⟨some 27, none, .mov (.tmp 0)⟩,
  ⟨some 28, none, .mov (.tmp 0)⟩,
  ⟨some 29, none, .lenSl (.tmp 28)⟩,
  ⟨some 30, none, .mov (.tmp 7)⟩,
  ⟨some 31, none, .slice 2 (.tmp 27) (some (.tmp 29)) (some (.tmp 30)) none⟩,
  ⟨none, none, .clear [(.str []), .nilslice] (.tmp 31)⟩])
 (.seq (.region [⟨some 32, none, .mov (.tmp 0)⟩,
  ⟨some 6, none, .mov (.tmp 32)⟩])
 .ret))
def k_slices_Delete_api_Fact_api_Fact_p2 : ACode := (.seq (.region [⟨some 20, none, .mov (.tmp 0)⟩,
  ⟨some 21, none, .mov (.tmp 1)⟩,
  ⟨some 22, none, .slice 2 (.tmp 20) none (some (.tmp 21)) none⟩,
  ⟨some 23, none, .mov (.tmp 0)⟩,
  ⟨some 24, none, .mov (.tmp 2)⟩,
  ⟨some 25, none, .slice 2 (.tmp 23) (some (.tmp 24)) none none⟩,
  ⟨some 26, none, .append 2 40 (.tmp 22) (.tmp 25)⟩,
  ⟨some 0, none, .mov (.tmp 26)⟩])
 k_slices_Delete_api_Fact_api_Fact_p1)
def k_slices_Delete_api_Fact_api_Fact_p3 : ACode := (.seq (.seq (.region [⟨some 14, none, .mov (.tmp 1)⟩,
  ⟨some 15, none, .mov (.tmp 2)⟩,
  ⟨some 16, none, .bin .eql (.tmp 14) (.tmp 15)⟩])
 (.cond (.tmp 16) k_slices_Delete_api_Fact_api_Fact_p0 .skip))
 (.seq (.region [⟨some 18, none, .mov (.tmp 0)⟩,
  ⟨some 19, none, .lenSl (.tmp 18)⟩,
  ⟨some 7, none, .mov (.tmp 19)⟩])
 k_slices_Delete_api_Fact_api_Fact_p2))
def k_slices_Delete_api_Fact_api_Fact_p4 : ACode := (.seq (.region [⟨some 8, none, .mov (.tmp 0)⟩,
  ⟨some 9, none, .mov (.tmp 1)⟩,
  ⟨some 10, none, .mov (.tmp 2)⟩,
  ⟨some 11, none, .mov (.tmp 0)⟩,
  ⟨some 12, none, .lenSl (.tmp 11)⟩,
  ⟨some 13, none, .slice 2 (.tmp 8) (some (.tmp 9)) (some (.tmp 10)) (some (.tmp 12))⟩])
 k_slices_Delete_api_Fact_api_Fact_p3)
def k_slices_Delete_api_Fact_api_Fact : AFun := ⟨33, [.tmp 6], (.seq (.region [⟨some 6, none, .mov (.const .nilslice)⟩])
 k_slices_Delete_api_Fact_api_Fact_p4)⟩
theorem c_slices_Delete_api_Fact_api_Fact : (XTab.of Tryz.prog).code 220 = some k_slices_Delete_api_Fact_api_Fact := by kernel_rfl
def k_slices_Clone_api_Term_api_Term_p0 : ACode := (.seq (.region [⟨some 2, none, .mov (.const .nilslice)⟩])
 .ret)
def k_slices_Clone_api_Term_api_Term_p1 : ACode := (.seq (.seq (.region [⟨some 3, none, .mov (.tmp 0)⟩,
  ⟨some 4, none, .eqv false .slice (.tmp 3) (.const .nilslice)⟩])
 (.cond (.tmp 4) k_slices_Clone_api_Term_api_Term_p0 .skip))
 (.seq (.region [⟨some 5, none, .buildSlice 0 [] []⟩,
  ⟨some 6, none, .mov (.tmp 0)⟩,
  ⟨some 7, none, .append 3 32 (.tmp 5) (.tmp 6)⟩,
  ⟨some 2, none, .mov (.tmp 7)⟩])
 .ret))
def k_slices_Clone_api_Term_api_Term : AFun := ⟨8, [.tmp 2], (.seq (.region [⟨some 2, none, .mov (.const .nilslice)⟩])
 k_slices_Clone_api_Term_api_Term_p1)⟩
theorem c_slices_Clone_api_Term_api_Term : (XTab.of Tryz.prog).code 222 = some k_slices_Clone_api_Term_api_Term := by kernel_rfl
def k_int_bytealg_CompareString : AFun := ⟨8, [.tmp 4], (.seq (.region [⟨some 4, none, .mov (.const (.int .i64 0))⟩])
 (.seq (.region [⟨some 5, none, .mov (.tmp 0)⟩,
  ⟨some 6, none, .mov (.tmp 1)⟩,
  ⟨some 7, none, .call (.const (.func (.func n_int_bytealg_abigen_runtime_cmpstring) [] [])) [(.tmp 5), (.tmp 6)]⟩,
  ⟨some 4, none, .mov (.tmp 7)⟩])
 .ret))⟩
theorem c_int_bytealg_CompareString : (XTab.of Tryz.prog).code 223 = some k_int_bytealg_CompareString := by kernel_rfl
def k_lex_Front_p0 : ACode := (.seq (.region [⟨some 21, none, .mov (.tmp 0)⟩,
  ⟨some 22, none, .mov (.tmp 5)⟩,
  ⟨some 23, none, .sliceStr (.tmp 21) (some (.tmp 22)) none⟩,
  ⟨some 24, none, .call (.const (.func (.func n_lex_word) [] [])) [(.tmp 23)]⟩,
  ⟨some 20, none, .mov (.tmp 24)⟩,
  ⟨some 25, none, .extract 0 (.tmp 20)⟩,
  ⟨some 26, none, .extract 1 (.tmp 20)⟩,
  ⟨some 6, none, .mov (.tmp 25)⟩,
  ⟨some 7, none, .mov (.tmp 26)⟩])
 (.seq (.seq (.region [⟨some 27, none, .mov (.tmp 7)⟩,
  ⟨some 28, none, .bin .eql (.tmp 27) (.const (.int .i64 0))⟩,
  ⟨some 29, none, .mov (.tmp 28)⟩,
  ⟨some 30, (some (29, false)), .mov (.tmp 6)⟩,
  ⟨some 31, (some (29, false)), .bin .neq (.tmp 30) (.const (.int .i64 4))⟩,
  ⟨some 32, (some (29, false)), .mov (.tmp 31)⟩,
  ⟨some 33, (some (32, true)), .mov (.tmp 7)⟩,
  ⟨some 34, (some (32, true)), .bin .gtr (.tmp 33) (.const (.int .i64 16))⟩,
  ⟨some 35, (some (29, false)), .pick (.tmp 32) (.tmp 34) (.const (.bool false))⟩,
  ⟨some 36, none, .pick (.tmp 29) (.const (.bool true)) (.tmp 35)⟩])
 (.cond (.tmp 36) (.seq (.region [⟨some 37, none, .mov (.tmp 4)⟩,
  ⟨some 2, none, .mov (.tmp 37)⟩,
  ⟨some 3, none, .mov (.const (.bool false))⟩])
 .ret) .skip))
 (.seq (.region [⟨some 38, none, .mov (.tmp 4)⟩,
  ⟨some 39, none, .mov (.tmp 6)⟩,
  ⟨some 40, none, .mov (.tmp 0)⟩,
  ⟨some 41, none, .mov (.tmp 5)⟩,
  ⟨some 42, none, .mov (.tmp 5)⟩,
  ⟨some 43, none, .mov (.tmp 7)⟩,
  ⟨some 44, none, .bin .add (.tmp 42) (.tmp 43)⟩,
  ⟨some 45, none, .sliceStr (.tmp 40) (some (.tmp 41)) (some (.tmp 44))⟩,
  ⟨some 46, none, .mov (.tmp 5)⟩,
  ⟨some 47, none, .build [(.int .i64 0), (.str []), (.int .i64 0)] [(0, 1, (.tmp 39)), (1, 1, (.tmp 45)), (2, 1, (.tmp 46))]⟩,
  ⟨some 48, none, .buildSlice 1 [(.int .i64 0), (.str []), (.int .i64 0)] [(0, 3, (.tmp 47))]⟩,
  ⟨some 49, none, .append 3 32 (.tmp 38) (.tmp 48)⟩,
  ⟨some 4, none, .mov (.tmp 49)⟩])
 (.region [⟨some 50, none, .mov (.tmp 5)⟩,
  ⟨some 51, none, .mov (.tmp 7)⟩,
  ⟨some 52, none, .bin .add (.tmp 50) (.tmp 51)⟩,
  ⟨some 5, none, .mov (.tmp 52)⟩]))))
def k_lex_Front_p1 : ACode := (.seq (.seq (.region [⟨some 10, none, .mov (.tmp 5)⟩,
  ⟨some 11, none, .mov (.tmp 0)⟩,
  ⟨some 12, none, .lenStr (.tmp 11)⟩,
  ⟨some 13, none, .bin .lss (.tmp 10) (.tmp 12)⟩])
 (.cond (.tmp 13) .skip (.exit 0)))
 (.seq (.block 1 k_lex_Front_p0)
 (.region [⟨some 14, none, .mov (.tmp 5)⟩,
  ⟨some 15, none, .mov (.tmp 0)⟩,
  ⟨some 16, none, .mov (.tmp 5)⟩,
  ⟨some 17, none, .sliceStr (.tmp 15) (some (.tmp 16)) none⟩,
  ⟨some 18, none, .call (.const (.func (.func n_lex_blank) [] [])) [(.tmp 17)]⟩,
  ⟨some 19, none, .bin .add (.tmp 14) (.tmp 18)⟩,
  ⟨some 5, none, .mov (.tmp 19)⟩])))
def k_lex_Front : AFun := ⟨54, [.tmp 2, .tmp 3], (.seq (.region [⟨some 2, none, .mov (.const .nilslice)⟩,
  ⟨some 3, none, .mov (.const (.bool false))⟩])
 (.seq (.region [⟨some 4, none, .mov (.const .nilslice)⟩])
 (.seq (.seq (.region [⟨some 8, none, .mov (.tmp 0)⟩,
  ⟨some 9, none, .call (.const (.func (.func n_lex_blank) [] [])) [(.tmp 8)]⟩,
  ⟨some 5, none, .mov (.tmp 9)⟩])
 (.block 0 (.loop k_lex_Front_p1)))
 (.seq (.region [⟨some 53, none, .mov (.tmp 4)⟩,
  ⟨some 2, none, .mov (.tmp 53)⟩,
  ⟨some 3, none, .mov (.const (.bool true))⟩])
 .ret))))⟩
theorem c_lex_Front : (XTab.of Tryz.prog).code 224 = some k_lex_Front := by kernel_rfl
def k_syntax_parser_next_p0 : ACode := (.seq (.region [⟨some 9, none, .mov (.tmp 0)⟩,
  ⟨some 10, none, .call (.const (.func (.func n_syntax_parser_fail) [] [])) [(.tmp 9), (.const (.int .i64 4))]⟩])
 (.seq (.region [⟨some 11, none, .load 3 true (.tmp 3)⟩,
  ⟨none, none, .store 3 (.tmp 2) (.tmp 11)⟩])
 .ret))
def k_syntax_parser_next_p1 : ACode := (.seq (.region [⟨some 12, none, .mov (.tmp 0)⟩,
  ⟨some 13, none, .mov (.tmp 0)⟩,
  ⟨some 14, none, .nilCheck (.tmp 13)⟩,
  ⟨some 15, none, .fieldAddr 0 (.tmp 14)⟩,
  ⟨some 16, none, .load 1 false (.tmp 15)⟩,
  ⟨some 17, none, .slice 3 (.tmp 16) (some (.const (.int .i64 1))) none none⟩,
  ⟨some 18, none, .nilCheck (.tmp 12)⟩,
  ⟨some 19, none, .fieldAddr 0 (.tmp 18)⟩,
  ⟨none, none, .store 1 (.tmp 19) (.tmp 17)⟩])
 (.seq (.region [⟨some 20, none, .load 3 true (.tmp 3)⟩,
  ⟨none, none, .store 3 (.tmp 2) (.tmp 20)⟩])
 .ret))
def k_syntax_parser_next_p2 : ACode := (.seq (.region [⟨some 4, none, .mov (.tmp 0)⟩,
  ⟨some 5, none, .call (.const (.func (.func n_syntax_parser_peek) [] [])) [(.tmp 4), (.const (.int .i64 0))]⟩,
  ⟨some 3, none, .alloc [(.int .i64 0), (.str []), (.int .i64 0)]⟩,
  ⟨none, none, .store 3 (.tmp 3) (.tmp 5)⟩])
 (.seq (.seq (.region [⟨some 6, none, .fieldAddr 0 (.tmp 3)⟩,
  ⟨some 7, none, .load 1 false (.tmp 6)⟩,
  ⟨some 8, none, .bin .eql (.tmp 7) (.const (.int .i64 0))⟩])
 (.cond (.tmp 8) k_syntax_parser_next_p0 .skip))
 k_syntax_parser_next_p1))
def k_syntax_parser_next : AFun := ⟨21, [.cell 2 3 true], (.seq (.region [⟨some 2, none, .alloc [(.int .i64 0), (.str []), (.int .i64 0)]⟩])
 k_syntax_parser_next_p2)⟩
theorem c_syntax_parser_next : (XTab.of Tryz.prog).code 225 = some k_syntax_parser_next := by kernel_rfl
def k_syntax_parser_term_p0 : ACode := (.region [⟨some 38, none, .mov (.tmp 0)⟩,
  ⟨some 39, none, .call (.const (.func (.func n_syntax_parser_fail) [] [])) [(.tmp 38), (.const (.int .i64 4))]⟩])
def k_syntax_parser_term_p1 : ACode := (.seq (.seq (.region [⟨some 31, none, .mov (.tmp 5)⟩,
  ⟨some 32, none, .eqv true .iface (.tmp 31) (.const .niliface)⟩,
  ⟨some 33, none, .mov (.tmp 32)⟩,
  ⟨some 34, (some (33, false)), .load 3 true (.tmp 6)⟩,
  ⟨some 35, (some (33, false)), .call (.const (.func (.func n_value_May) [] [])) [(.tmp 34)]⟩,
  ⟨some 36, (some (33, false)), .un .not (.tmp 35)⟩,
  ⟨some 37, none, .pick (.tmp 33) (.const (.bool true)) (.tmp 36)⟩])
 (.cond (.tmp 37) k_syntax_parser_term_p0 .skip))
 (.seq (.region [⟨some 40, none, .load 3 true (.tmp 6)⟩,
  ⟨none, none, .store 3 (.tmp 2) (.tmp 40)⟩])
 .ret))
def k_syntax_parser_term_p2 : ACode := (.seq (.region [⟨some 29, none, .mov (.tmp 4)⟩,
  ⟨some 30, none, .build [(.int .i64 0), (.str []), (.int .i64 0)] [(0, 1, (.const (.int .i64 3))), (2, 1, (.tmp 29))]⟩,
  ⟨some 6, none, .alloc [(.int .i64 0), (.str []), (.int .i64 0)]⟩,
  ⟨none, none, .store 3 (.tmp 6) (.tmp 30)⟩])
 k_syntax_parser_term_p1)
def k_syntax_parser_term_p3 : ACode := (.seq (.region [⟨some 24, none, .fieldAddr 1 (.tmp 3)⟩,
  ⟨some 25, none, .load 1 false (.tmp 24)⟩,
  ⟨some 26, none, .call (.const (.func (.func n_strconv_ParseInt) [] [])) [(.tmp 25), (.const (.int .i64 10)), (.const (.int .i64 64))]⟩,
  ⟨some 23, none, .mov (.tmp 26)⟩,
  ⟨some 27, none, .extract 0 (.tmp 23)⟩,
  ⟨some 28, none, .extract 1 (.tmp 23)⟩,
  ⟨some 4, none, .mov (.tmp 27)⟩,
  ⟨some 5, none, .mov (.tmp 28)⟩])
 k_syntax_parser_term_p2)
def k_syntax_parser_term_p4 : ACode := (.seq (.region [⟨some 18, none, .fieldAddr 1 (.tmp 3)⟩,
  ⟨some 19, none, .load 1 false (.tmp 18)⟩,
  ⟨some 20, none, .build [(.int .i64 0), (.str []), (.int .i64 0)] [(0, 1, (.const (.int .i64 2))), (1, 1, (.tmp 19))]⟩,
  ⟨none, none, .store 3 (.tmp 2) (.tmp 20)⟩])
 .ret)
def k_syntax_parser_term_p5 : ACode := (.seq (.region [⟨some 22, none, .bin .eql (.tmp 10) (.const (.int .i64 3))⟩,
  ⟨some 21, none, .mov (.tmp 22)⟩])
 (.cond (.tmp 21) k_syntax_parser_term_p3 .skip))
def k_syntax_parser_term_p6 : ACode := (.seq (.region [⟨some 13, none, .fieldAddr 1 (.tmp 3)⟩,
  ⟨some 14, none, .load 1 false (.tmp 13)⟩,
  ⟨some 15, none, .build [(.int .i64 0), (.str []), (.int .i64 0)] [(0, 1, (.const (.int .i64 1))), (1, 1, (.tmp 14))]⟩,
  ⟨none, none, .store 3 (.tmp 2) (.tmp 15)⟩])
 .ret)
def k_syntax_parser_term_p7 : ACode := (.seq (.region [⟨some 17, none, .bin .eql (.tmp 10) (.const (.int .i64 1))⟩,
  ⟨some 16, none, .mov (.tmp 17)⟩])
 (.cond (.tmp 16) k_syntax_parser_term_p4 k_syntax_parser_term_p5))
def k_syntax_parser_term_p8 : ACode := (.seq (.region [⟨some 9, none, .fieldAddr 0 (.tmp 3)⟩,
  ⟨some 10, none, .load 1 false (.tmp 9)⟩])
 (.block 0 (.seq (.region [⟨some 12, none, .bin .eql (.tmp 10) (.const (.int .i64 2))⟩,
  ⟨some 11, none, .mov (.tmp 12)⟩])
 (.cond (.tmp 11) k_syntax_parser_term_p6 k_syntax_parser_term_p7))))
def k_syntax_parser_term_p9 : ACode := (.seq (.region [⟨some 41, none, .mov (.tmp 0)⟩,
  ⟨some 42, none, .call (.const (.func (.func n_syntax_parser_fail) [] [])) [(.tmp 41), (.const (.int .i64 4))]⟩])
 (.seq (.region [⟨some 43, none, .build [(.int .i64 0), (.str []), (.int .i64 0)] []⟩,
  ⟨none, none, .store 3 (.tmp 2) (.tmp 43)⟩])
 .ret))
def k_syntax_parser_term_p10 : ACode := (.seq (.seq (.region [⟨some 7, none, .mov (.tmp 0)⟩,
  ⟨some 8, none, .call (.const (.func (.func n_syntax_parser_next) [] [])) [(.tmp 7)]⟩,
  ⟨some 3, none, .alloc [(.int .i64 0), (.str []), (.int .i64 0)]⟩,
  ⟨none, none, .store 3 (.tmp 3) (.tmp 8)⟩])
 k_syntax_parser_term_p8)
 k_syntax_parser_term_p9)
def k_syntax_parser_term : AFun := ⟨44, [.cell 2 3 true], (.seq (.region [⟨some 2, none, .alloc [(.int .i64 0), (.str []), (.int .i64 0)]⟩])
 k_syntax_parser_term_p10)⟩
theorem c_syntax_parser_term : (XTab.of Tryz.prog).code 226 = some k_syntax_parser_term := by kernel_rfl
def k_syntax_parser_must_p0 : ACode := (.region [⟨some 8, none, .mov (.tmp 0)⟩,
  ⟨some 9, none, .call (.const (.func (.func n_syntax_parser_fail) [] [])) [(.tmp 8), (.const (.int .i64 4))]⟩])
def k_syntax_parser_must : AFun := ⟨10, [], (.seq (.region [⟨some 4, none, .mov (.tmp 0)⟩,
  ⟨some 5, none, .mov (.tmp 1)⟩,
  ⟨some 6, none, .call (.const (.func (.func n_syntax_parser_take) [] [])) [(.tmp 4), (.tmp 5)]⟩,
  ⟨some 7, none, .un .not (.tmp 6)⟩])
 (.cond (.tmp 7) k_syntax_parser_must_p0 .skip))⟩
theorem c_syntax_parser_must : (XTab.of Tryz.prog).code 227 = some k_syntax_parser_must := by kernel_rfl
def k_syntax_parser_is_p0 : ACode := (.seq (.region [⟨some 8, none, .fieldAddr 0 (.tmp 5)⟩,
  ⟨some 9, none, .load 1 false (.tmp 8)⟩,
  ⟨some 10, none, .bin .eql (.tmp 9) (.const (.int .i64 4))⟩,
  ⟨some 11, none, .mov (.tmp 10)⟩,
  ⟨some 12, (some (11, true)), .fieldAddr 1 (.tmp 5)⟩,
  ⟨some 13, (some (11, true)), .load 1 false (.tmp 12)⟩,
  ⟨some 14, (some (11, true)), .mov (.tmp 1)⟩,
  ⟨some 15, (some (11, true)), .bin .eql (.tmp 13) (.tmp 14)⟩,
  ⟨some 16, none, .pick (.tmp 11) (.tmp 15) (.const (.bool false))⟩,
  ⟨some 4, none, .mov (.tmp 16)⟩])
 .ret)
def k_syntax_parser_is_p1 : ACode := (.seq (.region [⟨some 6, none, .mov (.tmp 0)⟩,
  ⟨some 7, none, .call (.const (.func (.func n_syntax_parser_peek) [] [])) [(.tmp 6), (.const (.int .i64 0))]⟩,
  ⟨some 5, none, .alloc [(.int .i64 0), (.str []), (.int .i64 0)]⟩,
  ⟨none, none, .store 3 (.tmp 5) (.tmp 7)⟩])
 k_syntax_parser_is_p0)
def k_syntax_parser_is : AFun := ⟨17, [.tmp 4], (.seq (.region [⟨some 4, none, .mov (.const (.bool false))⟩])
 k_syntax_parser_is_p1)⟩
theorem c_syntax_parser_is : (XTab.of Tryz.prog).code 228 = some k_syntax_parser_is := by kernel_rfl
def k_value_Print : AFun := ⟨11, [.tmp 2], (.seq (.region [⟨some 1, none, .box (.tmp 0)⟩,
  ⟨some 2, none, .mov (.const (.str []))⟩])
 (.seq (.seq (.region [⟨some 3, none, .fieldAddr 0 (.tmp 1)⟩,
  ⟨some 4, none, .load 1 false (.tmp 3)⟩,
  ⟨some 5, none, .bin .eql (.tmp 4) (.const (.int .i64 3))⟩])
 (.cond (.tmp 5) (.seq (.region [⟨some 6, none, .fieldAddr 2 (.tmp 1)⟩,
  ⟨some 7, none, .load 1 false (.tmp 6)⟩,
  ⟨some 8, none, .call (.const (.func (.func n_strconv_FormatInt) [] [])) [(.tmp 7), (.const (.int .i64 10))]⟩,
  ⟨some 2, none, .mov (.tmp 8)⟩])
 .ret) .skip))
 (.seq (.region [⟨some 9, none, .fieldAddr 1 (.tmp 1)⟩,
  ⟨some 10, none, .load 1 false (.tmp 9)⟩,
  ⟨some 2, none, .mov (.tmp 10)⟩])
 .ret)))⟩
theorem c_value_Print : (XTab.of Tryz.prog).code 229 = some k_value_Print := by kernel_rfl
end Go.Proofs.YtladocoibpljnaaGreatDoor
set_option maxRecDepth 100000
set_option linter.unusedVariables false
namespace Go.Proofs.YtladocoibpljnaaGreatDoor
open Go.AE
def k_slices_BinarySearchFunc_api_Fact_api_Fact_api_Fact_p0 : ACode := (.region [⟨some 32, none, .mov (.tmp 11)⟩,
  ⟨some 33, none, .bin .add (.tmp 32) (.const (.int .i64 1))⟩,
  ⟨some 9, none, .mov (.tmp 33)⟩])
def k_slices_BinarySearchFunc_api_Fact_api_Fact_api_Fact_p1 : ACode := (.region [⟨some 34, none, .mov (.tmp 11)⟩,
  ⟨some 10, none, .mov (.tmp 34)⟩])
def k_slices_BinarySearchFunc_api_Fact_api_Fact_api_Fact_p2 : ACode := (.seq (.region [⟨some 24, none, .mov (.tmp 2)⟩,
  ⟨some 25, none, .mov (.tmp 0)⟩,
  ⟨some 26, none, .mov (.tmp 11)⟩,
  ⟨some 27, none, .indexAddr 2 (.tmp 25) (.tmp 26)⟩,
  ⟨some 28, none, .load 2 true (.tmp 27)⟩,
  ⟨some 29, none, .load 2 true (.tmp 4)⟩,
  ⟨some 30, none, .call (.tmp 24) [(.tmp 28), (.tmp 29)]⟩,
  ⟨some 31, none, .bin .lss (.tmp 30) (.const (.int .i64 0))⟩])
 (.cond (.tmp 31) k_slices_BinarySearchFunc_api_Fact_api_Fact_api_Fact_p0 k_slices_BinarySearchFunc_api_Fact_api_Fact_api_Fact_p1))
def k_slices_BinarySearchFunc_api_Fact_api_Fact_api_Fact_p3 : ACode := (.seq (.region [⟨some 18, none, .mov (.tmp 9)⟩,
  ⟨some 19, none, .mov (.tmp 10)⟩,
  ⟨some 20, none, .bin .add (.tmp 18) (.tmp 19)⟩,
  ⟨some 21, none, .conv .u64 (.tmp 20)⟩,
  ⟨some 22, none, .bin .shr (.tmp 21) (.const (.int .u64 1))⟩,
  ⟨some 23, none, .conv .i64 (.tmp 22)⟩,
  ⟨some 11, none, .mov (.tmp 23)⟩])
 k_slices_BinarySearchFunc_api_Fact_api_Fact_api_Fact_p2)
def k_slices_BinarySearchFunc_api_Fact_api_Fact_api_Fact_p4 : ACode := (.seq (.seq (.region [⟨some 15, none, .mov (.tmp 9)⟩,
  ⟨some 16, none, .mov (.tmp 10)⟩,
  ⟨some 17, none, .bin .lss (.tmp 15) (.tmp 16)⟩])
 (.cond (.tmp 17) .skip (.exit 0)))
 (.block 1 k_slices_BinarySearchFunc_api_Fact_api_Fact_api_Fact_p3))
def k_slices_BinarySearchFunc_api_Fact_api_Fact_api_Fact_p5 : ACode := (.seq (.region [⟨some 35, none, .mov (.tmp 9)⟩,
  ⟨some 36, none, .mov (.tmp 9)⟩,
  ⟨some 37, none, .mov (.tmp 8)⟩,
  ⟨some 38, none, .bin .lss (.tmp 36) (.tmp 37)⟩,
  ⟨some 39, none, .mov (.tmp 38)⟩,
  ⟨some 40, (some (39, true)), .mov (.tmp 2)⟩,
  ⟨some 41, (some (39, true)), .mov (.tmp 0)⟩,
  ⟨some 42, (some (39, true)), .mov (.tmp 9)⟩,
  ⟨some 43, (some (39, true)), .indexAddr 2 (.tmp 41) (.tmp 42)⟩,
  ⟨some 44, (some (39, true)), .load 2 true (.tmp 43)⟩,
  ⟨some 45, (some (39, true)), .load 2 true (.tmp 4)⟩,
  ⟨some 46, (some (39, true)), .call (.tmp 40) [(.tmp 44), (.tmp 45)]⟩,
  ⟨some 47, (some (39, true)), .bin .eql (.tmp 46) (.const (.int .i64 0))⟩,
  ⟨some 48, none, .pick (.tmp 39) (.tmp 47) (.const (.bool false))⟩,
  ⟨some 6, none, .mov (.tmp 35)⟩,
  ⟨some 7, none, .mov (.tmp 48)⟩])
 .ret)
def k_slices_BinarySearchFunc_api_Fact_api_Fact_api_Fact_p6 : ACode := (.seq (.region [⟨some 12, none, .mov (.tmp 0)⟩,
  ⟨some 13, none, .lenSl (.tmp 12)⟩,
  ⟨some 8, none, .mov (.tmp 13)⟩])
 (.seq (.region [⟨some 14, none, .mov (.tmp 8)⟩,
  ⟨some 9, none, .mov (.const (.int .i64 0))⟩,
  ⟨some 10, none, .mov (.tmp 14)⟩])
 (.seq (.block 0 (.loop k_slices_BinarySearchFunc_api_Fact_api_Fact_api_Fact_p4))
 k_slices_BinarySearchFunc_api_Fact_api_Fact_api_Fact_p5)))
def k_slices_BinarySearchFunc_api_Fact_api_Fact_api_Fact : AFun := ⟨49, [.tmp 6, .tmp 7], (.seq (.region [⟨some 4, none, .box (.tmp 1)⟩,
  ⟨some 6, none, .mov (.const (.int .i64 0))⟩,
  ⟨some 7, none, .mov (.const (.bool false))⟩])
 k_slices_BinarySearchFunc_api_Fact_api_Fact_api_Fact_p6)⟩
theorem c_slices_BinarySearchFunc_api_Fact_api_Fact_api_Fact : (XTab.of Tryz.prog).code 231 = some k_slices_BinarySearchFunc_api_Fact_api_Fact_api_Fact := by kernel_rfl
def k_lex_blank_p0 : ACode := (.seq (.region [⟨some 23, none, .mov (.tmp 0)⟩,
  ⟨some 24, none, .mov (.tmp 3)⟩,
  ⟨some 25, none, .sliceStr (.tmp 23) (some (.tmp 24)) none⟩,
  ⟨some 26, none, .call (.const (.func (.func n_strings_IndexByte) [] [])) [(.tmp 25), (.const (.int .u8 10))]⟩,
  ⟨some 4, none, .mov (.tmp 26)⟩])
 (.seq (.region [⟨some 27, none, .mov (.tmp 4)⟩,
  ⟨some 28, none, .bin .geq (.tmp 27) (.const (.int .i64 0))⟩])
 (.cond (.tmp 28) (.region [⟨some 29, none, .mov (.tmp 3)⟩,
  ⟨some 30, none, .mov (.tmp 4)⟩,
  ⟨some 31, none, .bin .add (.tmp 29) (.tmp 30)⟩,
  ⟨some 3, none, .mov (.tmp 31)⟩]) (.region [⟨some 32, none, .mov (.tmp 0)⟩,
  ⟨some 33, none, .lenStr (.tmp 32)⟩,
  ⟨some 3, none, .mov (.tmp 33)⟩]))))
def k_lex_blank_p1 : ACode := (.seq (.region [⟨some 19, none, .mov (.tmp 0)⟩,
  ⟨some 20, none, .mov (.tmp 3)⟩,
  ⟨some 21, none, .indexStr (.tmp 19) (.tmp 20)⟩,
  ⟨some 22, none, .bin .eql (.tmp 21) (.const (.int .u8 37))⟩,
  ⟨some 18, none, .mov (.tmp 22)⟩])
 (.cond (.tmp 18) k_lex_blank_p0 (.seq (.region [⟨some 9, none, .mov (.tmp 3)⟩,
  ⟨some 2, none, .mov (.tmp 9)⟩])
 .ret)))
def k_lex_blank_p2 : ACode := (.seq (.region [⟨some 11, none, .mov (.tmp 0)⟩,
  ⟨some 12, none, .mov (.tmp 3)⟩,
  ⟨some 13, none, .indexStr (.tmp 11) (.tmp 12)⟩,
  ⟨some 14, none, .call (.const (.func (.func n_strings_IndexByte) [] [])) [(.const (.str [32, 9, 10, 13])), (.tmp 13)]⟩,
  ⟨some 15, none, .bin .geq (.tmp 14) (.const (.int .i64 0))⟩,
  ⟨some 10, none, .mov (.tmp 15)⟩])
 (.cond (.tmp 10) (.region [⟨some 16, none, .mov (.tmp 3)⟩,
  ⟨some 17, none, .bin .add (.tmp 16) (.const (.int .i64 1))⟩,
  ⟨some 3, none, .mov (.tmp 17)⟩]) k_lex_blank_p1))
def k_lex_blank_p3 : ACode := (.seq (.seq (.region [⟨some 5, none, .mov (.tmp 3)⟩,
  ⟨some 6, none, .mov (.tmp 0)⟩,
  ⟨some 7, none, .lenStr (.tmp 6)⟩,
  ⟨some 8, none, .bin .lss (.tmp 5) (.tmp 7)⟩])
 (.cond (.tmp 8) .skip (.exit 0)))
 (.block 1 (.block 2 k_lex_blank_p2)))
def k_lex_blank : AFun := ⟨35, [.tmp 2], (.seq (.region [⟨some 2, none, .mov (.const (.int .i64 0))⟩])
 (.seq (.region [⟨some 3, none, .mov (.const (.int .i64 0))⟩])
 (.seq (.block 0 (.loop k_lex_blank_p3))
 (.seq (.region [⟨some 34, none, .mov (.tmp 3)⟩,
  ⟨some 2, none, .mov (.tmp 34)⟩])
 .ret))))⟩
theorem c_lex_blank : (XTab.of Tryz.prog).code 239 = some k_lex_blank := by kernel_rfl
def k_lex_word_p0 : ACode := (.seq (.region [⟨some 20, none, .mov (.tmp 4)⟩,
  ⟨some 21, none, .call (.const (.func (.func n_lex_digit) [] [])) [(.tmp 20)]⟩,
  ⟨some 22, none, .mov (.tmp 21)⟩,
  ⟨some 23, (some (22, false)), .mov (.tmp 4)⟩,
  ⟨some 24, (some (22, false)), .bin .eql (.tmp 23) (.const (.int .u8 45))⟩,
  ⟨some 25, none, .pick (.tmp 22) (.const (.bool true)) (.tmp 24)⟩,
  ⟨some 19, none, .mov (.tmp 25)⟩])
 (.cond (.tmp 19) (.seq (.region [⟨some 26, none, .mov (.tmp 0)⟩,
  ⟨some 27, none, .call (.const (.func (.func n_lex_number) [] [])) [(.tmp 26)]⟩,
  ⟨some 2, none, .mov (.const (.int .i64 3))⟩,
  ⟨some 3, none, .mov (.tmp 27)⟩])
 .ret) .skip))
def k_lex_word_p1 : ACode := (.seq (.region [⟨some 15, none, .mov (.tmp 4)⟩,
  ⟨some 16, none, .call (.const (.func (.func n_lex_great) [] [])) [(.tmp 15)]⟩,
  ⟨some 14, none, .mov (.tmp 16)⟩])
 (.cond (.tmp 14) (.seq (.region [⟨some 17, none, .mov (.tmp 0)⟩,
  ⟨some 18, none, .call (.const (.func (.func n_lex_run) [] [])) [(.tmp 17), (.const (.func (.func n_lex_word_1) [] []))]⟩,
  ⟨some 2, none, .mov (.const (.int .i64 2))⟩,
  ⟨some 3, none, .mov (.tmp 18)⟩])
 .ret) k_lex_word_p0))
def k_lex_word_p2 : ACode := (.seq (.region [⟨some 10, none, .mov (.tmp 4)⟩,
  ⟨some 11, none, .call (.const (.func (.func n_lex_small) [] [])) [(.tmp 10)]⟩,
  ⟨some 9, none, .mov (.tmp 11)⟩])
 (.cond (.tmp 9) (.seq (.region [⟨some 12, none, .mov (.tmp 0)⟩,
  ⟨some 13, none, .call (.const (.func (.func n_lex_run) [] [])) [(.tmp 12), (.const (.func (.func n_lex_named) [] []))]⟩,
  ⟨some 2, none, .mov (.const (.int .i64 1))⟩,
  ⟨some 3, none, .mov (.tmp 13)⟩])
 .ret) k_lex_word_p1))
def k_lex_word_p3 : ACode := (.seq (.region [⟨some 32, none, .indexAddr 1 (.tmp 28) (.tmp 30)⟩,
  ⟨some 33, none, .load 1 false (.tmp 32)⟩,
  ⟨some 6, none, .mov (.tmp 33)⟩])
 (.seq (.region [⟨some 34, none, .mov (.tmp 0)⟩,
  ⟨some 35, none, .mov (.tmp 6)⟩,
  ⟨some 36, none, .call (.const (.func (.func n_strings_HasPrefix) [] [])) [(.tmp 34), (.tmp 35)]⟩])
 (.cond (.tmp 36) (.seq (.region [⟨some 37, none, .mov (.tmp 6)⟩,
  ⟨some 38, none, .lenStr (.tmp 37)⟩,
  ⟨some 2, none, .mov (.const (.int .i64 4))⟩,
  ⟨some 3, none, .mov (.tmp 38)⟩])
 .ret) .skip)))
def k_lex_word_p4 : ACode := (.seq (.region [⟨some 31, none, .bin .lss (.tmp 30) (.tmp 29)⟩])
 (.seq (.cond (.tmp 31) .skip (.exit 1))
 (.seq (.block 2 k_lex_word_p3)
 (.region [⟨some 39, none, .bin .add (.tmp 30) (.const (.int .i64 1))⟩,
  ⟨some 30, none, .mov (.tmp 39)⟩]))))
def k_lex_word : AFun := ⟨40, [.tmp 2, .tmp 3], (.seq (.region [⟨some 2, none, .mov (.const (.int .i64 0))⟩,
  ⟨some 3, none, .mov (.const (.int .i64 0))⟩])
 (.seq (.region [⟨some 7, none, .mov (.tmp 0)⟩,
  ⟨some 8, none, .indexStr (.tmp 7) (.const (.int .i64 0))⟩,
  ⟨some 4, none, .mov (.tmp 8)⟩])
 (.seq (.block 0 k_lex_word_p2)
 (.seq (.seq (.region [⟨some 28, none, .buildSlice 10 [(.str []), (.str []), (.str []), (.str []), (.str []), (.str []), (.str []), (.str []), (.str []), (.str [])] [(0, 1, (.const (.str [58, 45]))), (1, 1, (.const (.str [33, 61]))), (2, 1, (.const (.str [60, 61]))), (3, 1, (.const (.str [40]))), (4, 1, (.const (.str [41]))), (5, 1, (.const (.str [44]))), (6, 1, (.const (.str [46]))), (7, 1, (.const (.str [33]))), (8, 1, (.const (.str [61]))), (9, 1, (.const (.str [60])))]⟩,
  ⟨some 29, none, .lenSl (.tmp 28)⟩,
  ⟨some 30, none, .mov (.const (.int .i64 0))⟩])
 (.block 1 (.loop k_lex_word_p4)))
 (.seq (.region [⟨some 2, none, .mov (.const (.int .i64 0))⟩,
  ⟨some 3, none, .mov (.const (.int .i64 0))⟩])
 .ret)))))⟩
theorem c_lex_word : (XTab.of Tryz.prog).code 240 = some k_lex_word := by kernel_rfl
def k_syntax_parser_peek_p0 : ACode := (.seq (.region [⟨some 19, none, .build [(.int .i64 0), (.str []), (.int .i64 0)] []⟩,
  ⟨none, none, .store 3 (.tmp 4) (.tmp 19)⟩])
 .ret)
def k_syntax_parser_peek_p1 : ACode := (.seq (.region [⟨some 20, none, .mov (.tmp 0)⟩,
  ⟨some 21, none, .nilCheck (.tmp 20)⟩,
  ⟨some 22, none, .fieldAddr 0 (.tmp 21)⟩,
  ⟨some 23, none, .load 1 false (.tmp 22)⟩,
  ⟨some 24, none, .mov (.tmp 1)⟩,
  ⟨some 25, none, .indexAddr 3 (.tmp 23) (.tmp 24)⟩,
  ⟨some 26, none, .load 3 true (.tmp 25)⟩,
  ⟨none, none, .store 3 (.tmp 4) (.tmp 26)⟩])
 .ret)
def k_syntax_parser_peek_p2 : ACode := (.seq (.seq (.region [⟨some 5, none, .mov (.tmp 0)⟩,
  ⟨some 6, none, .nilCheck (.tmp 5)⟩,
  ⟨some 7, none, .fieldAddr 2 (.tmp 6)⟩,
  ⟨some 8, none, .load 1 false (.tmp 7)⟩,
  ⟨some 9, none, .bin .neq (.tmp 8) (.const (.int .i64 0))⟩,
  ⟨some 10, none, .mov (.tmp 9)⟩,
  ⟨some 11, (some (10, false)), .mov (.tmp 1)⟩,
  ⟨some 12, (some (10, false)), .mov (.tmp 0)⟩,
  ⟨some 13, (some (10, false)), .nilCheck (.tmp 12)⟩,
  ⟨some 14, (some (10, false)), .fieldAddr 0 (.tmp 13)⟩,
  ⟨some 15, (some (10, false)), .load 1 false (.tmp 14)⟩,
  ⟨some 16, (some (10, false)), .lenSl (.tmp 15)⟩,
  ⟨some 17, (some (10, false)), .bin .geq (.tmp 11) (.tmp 16)⟩,
  ⟨some 18, none, .pick (.tmp 10) (.const (.bool true)) (.tmp 17)⟩])
 (.cond (.tmp 18) k_syntax_parser_peek_p0 .skip))
 k_syntax_parser_peek_p1)
def k_syntax_parser_peek : AFun := ⟨27, [.cell 4 3 true], (.seq (.region [⟨some 4, none, .alloc [(.int .i64 0), (.str []), (.int .i64 0)]⟩])
 k_syntax_parser_peek_p2)⟩
theorem c_syntax_parser_peek : (XTab.of Tryz.prog).code 241 = some k_syntax_parser_peek := by kernel_rfl
def k_strings_IndexByte : AFun := ⟨8, [.tmp 4], (.seq (.region [⟨some 4, none, .mov (.const (.int .i64 0))⟩])
 (.seq (.region [⟨some 5, none, .mov (.tmp 0)⟩,
  ⟨some 6, none, .mov (.tmp 1)⟩,
  ⟨some 7, none, .call (.const (.func (.func n_int_stringslite_IndexByte) [] [])) [(.tmp 5), (.tmp 6)]⟩,
  ⟨some 4, none, .mov (.tmp 7)⟩])
 .ret))⟩
theorem c_strings_IndexByte : (XTab.of Tryz.prog).code 250 = some k_strings_IndexByte := by kernel_rfl
def k_lex_small : AFun := ⟨9, [.tmp 2], (.seq (.region [⟨some 2, none, .mov (.const (.bool false))⟩])
 (.seq (.region [⟨some 3, none, .mov (.tmp 0)⟩,
  ⟨some 4, none, .bin .geq (.tmp 3) (.const (.int .u8 97))⟩,
  ⟨some 5, none, .mov (.tmp 4)⟩,
  ⟨some 6, (some (5, true)), .mov (.tmp 0)⟩,
  ⟨some 7, (some (5, true)), .bin .leq (.tmp 6) (.const (.int .u8 122))⟩,
  ⟨some 8, none, .pick (.tmp 5) (.tmp 7) (.const (.bool false))⟩,
  ⟨some 2, none, .mov (.tmp 8)⟩])
 .ret))⟩
theorem c_lex_small : (XTab.of Tryz.prog).code 251 = some k_lex_small := by kernel_rfl
def k_lex_run_p0 : ACode := (.seq (.seq (.region [⟨some 6, none, .mov (.tmp 5)⟩,
  ⟨some 7, none, .mov (.tmp 0)⟩,
  ⟨some 8, none, .lenStr (.tmp 7)⟩,
  ⟨some 9, none, .bin .lss (.tmp 6) (.tmp 8)⟩,
  ⟨some 10, none, .mov (.tmp 9)⟩,
  ⟨some 11, (some (10, true)), .mov (.tmp 1)⟩,
  ⟨some 12, (some (10, true)), .mov (.tmp 0)⟩,
  ⟨some 13, (some (10, true)), .mov (.tmp 5)⟩,
  ⟨some 14, (some (10, true)), .indexStr (.tmp 12) (.tmp 13)⟩,
  ⟨some 15, (some (10, true)), .call (.tmp 11) [(.tmp 14)]⟩,
  ⟨some 16, none, .pick (.tmp 10) (.tmp 15) (.const (.bool false))⟩])
 (.cond (.tmp 16) .skip (.exit 0)))
 (.block 1 (.region [⟨some 17, none, .mov (.tmp 5)⟩,
  ⟨some 18, none, .bin .add (.tmp 17) (.const (.int .i64 1))⟩,
  ⟨some 5, none, .mov (.tmp 18)⟩])))
def k_lex_run : AFun := ⟨20, [.tmp 4], (.seq (.region [⟨some 4, none, .mov (.const (.int .i64 0))⟩])
 (.seq (.region [⟨some 5, none, .mov (.const (.int .i64 0))⟩])
 (.seq (.block 0 (.loop k_lex_run_p0))
 (.seq (.region [⟨some 19, none, .mov (.tmp 5)⟩,
  ⟨some 4, none, .mov (.tmp 19)⟩])
 .ret))))⟩
theorem c_lex_run : (XTab.of Tryz.prog).code 252 = some k_lex_run := by kernel_rfl
def k_lex_named : AFun := ⟨13, [.tmp 2], (.seq (.region [⟨some 2, none, .mov (.const (.bool false))⟩])
 (.seq (.region [⟨some 3, none, .mov (.tmp 0)⟩,
  ⟨some 4, none, .call (.const (.func (.func n_lex_small) [] [])) [(.tmp 3)]⟩,
  ⟨some 5, none, .mov (.tmp 4)⟩,
  ⟨some 6, (some (5, false)), .mov (.tmp 0)⟩,
  ⟨some 7, (some (5, false)), .call (.const (.func (.func n_lex_digit) [] [])) [(.tmp 6)]⟩,
  ⟨some 8, none, .pick (.tmp 5) (.const (.bool true)) (.tmp 7)⟩,
  ⟨some 9, none, .mov (.tmp 8)⟩,
  ⟨some 10, (some (9, false)), .mov (.tmp 0)⟩,
  ⟨some 11, (some (9, false)), .bin .eql (.tmp 10) (.const (.int .u8 95))⟩,
  ⟨some 12, none, .pick (.tmp 9) (.const (.bool true)) (.tmp 11)⟩,
  ⟨some 2, none, .mov (.tmp 12)⟩])
 .ret))⟩
theorem c_lex_named : (XTab.of Tryz.prog).code 253 = some k_lex_named := by kernel_rfl
def k_lex_great : AFun := ⟨9, [.tmp 2], (.seq (.region [⟨some 2, none, .mov (.const (.bool false))⟩])
 (.seq (.region [⟨some 3, none, .mov (.tmp 0)⟩,
  ⟨some 4, none, .bin .geq (.tmp 3) (.const (.int .u8 65))⟩,
  ⟨some 5, none, .mov (.tmp 4)⟩,
  ⟨some 6, (some (5, true)), .mov (.tmp 0)⟩,
  ⟨some 7, (some (5, true)), .bin .leq (.tmp 6) (.const (.int .u8 90))⟩,
  ⟨some 8, none, .pick (.tmp 5) (.tmp 7) (.const (.bool false))⟩,
  ⟨some 2, none, .mov (.tmp 8)⟩])
 .ret))⟩
theorem c_lex_great : (XTab.of Tryz.prog).code 254 = some k_lex_great := by kernel_rfl
def k_lex_word_1 : AFun := ⟨9, [.tmp 2], (.seq (.region [⟨some 2, none, .mov (.const (.bool false))⟩])
 (.seq (.region [⟨some 3, none, .mov (.tmp 0)⟩,
  ⟨some 4, none, .call (.const (.func (.func n_lex_named) [] [])) [(.tmp 3)]⟩,
  ⟨some 5, none, .mov (.tmp 4)⟩,
  ⟨some 6, (some (5, false)), .mov (.tmp 0)⟩,
  ⟨some 7, (some (5, false)), .call (.const (.func (.func n_lex_great) [] [])) [(.tmp 6)]⟩,
  ⟨some 8, none, .pick (.tmp 5) (.const (.bool true)) (.tmp 7)⟩,
  ⟨some 2, none, .mov (.tmp 8)⟩])
 .ret))⟩
theorem c_lex_word_1 : (XTab.of Tryz.prog).code 255 = some k_lex_word_1 := by kernel_rfl
def k_lex_digit : AFun := ⟨9, [.tmp 2], (.seq (.region [⟨some 2, none, .mov (.const (.bool false))⟩])
 (.seq (.region [⟨some 3, none, .mov (.tmp 0)⟩,
  ⟨some 4, none, .bin .geq (.tmp 3) (.const (.int .u8 48))⟩,
  ⟨some 5, none, .mov (.tmp 4)⟩,
  ⟨some 6, (some (5, true)), .mov (.tmp 0)⟩,
  ⟨some 7, (some (5, true)), .bin .leq (.tmp 6) (.const (.int .u8 57))⟩,
  ⟨some 8, none, .pick (.tmp 5) (.tmp 7) (.const (.bool false))⟩,
  ⟨some 2, none, .mov (.tmp 8)⟩])
 .ret))⟩
theorem c_lex_digit : (XTab.of Tryz.prog).code 256 = some k_lex_digit := by kernel_rfl
end Go.Proofs.YtladocoibpljnaaGreatDoor
