/- A part of the proof: C3, C4, C5, C6. -/
import Derived.Test.YtladocoibpljnaaGreatDoorHtE
set_option maxRecDepth 100000
set_option linter.unusedVariables false
namespace Go.Proofs.YtladocoibpljnaaGreatDoor
open Go.AE
def k_slices_ContainsFunc_api_Rule_api_Rule_p0 : ACode := (.seq (.region [⟨some 5, none, .mov (.tmp 0)⟩,
  ⟨some 6, none, .mov (.tmp 1)⟩,
  ⟨some 7, none, .call (.const (.func (.func n_slices_IndexFunc_api_Rule_api_Rule) [] [])) [(.tmp 5), (.tmp 6)]⟩,
  ⟨some 8, none, .bin .geq (.tmp 7) (.const (.int .i64 0))⟩,
  ⟨some 4, none, .mov (.tmp 8)⟩])
 .ret)
def k_slices_ContainsFunc_api_Rule_api_Rule : AFun := ⟨9, [.tmp 4], (.seq (.region [⟨some 4, none, .mov (.const (.bool false))⟩])
 k_slices_ContainsFunc_api_Rule_api_Rule_p0)⟩
theorem c_slices_ContainsFunc_api_Rule_api_Rule : (XTab.of Tryz.prog).code 46 = some k_slices_ContainsFunc_api_Rule_api_Rule := by kernel_rfl
def k_slices_ContainsFunc_api_Fact_api_Fact_p0 : ACode := (.seq (.region [⟨some 5, none, .mov (.tmp 0)⟩,
  ⟨some 6, none, .mov (.tmp 1)⟩,
  ⟨some 7, none, .call (.const (.func (.func n_slices_IndexFunc_api_Fact_api_Fact) [] [])) [(.tmp 5), (.tmp 6)]⟩,
  ⟨some 8, none, .bin .geq (.tmp 7) (.const (.int .i64 0))⟩,
  ⟨some 4, none, .mov (.tmp 8)⟩])
 .ret)
def k_slices_ContainsFunc_api_Fact_api_Fact : AFun := ⟨9, [.tmp 4], (.seq (.region [⟨some 4, none, .mov (.const (.bool false))⟩])
 k_slices_ContainsFunc_api_Fact_api_Fact_p0)⟩
theorem c_slices_ContainsFunc_api_Fact_api_Fact : (XTab.of Tryz.prog).code 49 = some k_slices_ContainsFunc_api_Fact_api_Fact := by kernel_rfl
def k_model_ask_2 : AFun := ⟨6, [.tmp 2], (.seq (.region [⟨some 1, none, .box (.tmp 0)⟩,
  ⟨some 2, none, .mov (.const (.bool false))⟩])
 (.seq (.region [⟨some 3, none, .load 2 true (.tmp 1)⟩,
  ⟨some 4, none, .call (.const (.func (.func n_model_Fact) [] [])) [(.tmp 3)]⟩,
  ⟨some 5, none, .un .not (.tmp 4)⟩,
  ⟨some 2, none, .mov (.tmp 5)⟩])
 .ret))⟩
theorem c_model_ask_2 : (XTab.of Tryz.prog).code 50 = some k_model_ask_2 := by kernel_rfl
def k_model_Fact_p0 : ACode := (.seq (.region [⟨some 3, none, .fieldAddr 0 (.tmp 1)⟩,
  ⟨some 4, none, .load 1 false (.tmp 3)⟩,
  ⟨some 5, none, .call (.const (.func (.func n_value_Word) [] [])) [(.tmp 4)]⟩,
  ⟨some 6, none, .mov (.tmp 5)⟩,
  ⟨some 7, (some (6, true)), .fieldAddr 1 (.tmp 1)⟩,
  ⟨some 8, (some (6, true)), .load 1 false (.tmp 7)⟩,
  ⟨some 9, (some (6, true)), .lenSl (.tmp 8)⟩,
  ⟨some 10, (some (6, true)), .bin .leq (.tmp 9) (.const (.int .i64 4))⟩,
  ⟨some 11, none, .pick (.tmp 6) (.tmp 10) (.const (.bool false))⟩,
  ⟨some 12, none, .mov (.tmp 11)⟩,
  ⟨some 13, (some (12, true)), .fieldAddr 1 (.tmp 1)⟩,
  ⟨some 14, (some (12, true)), .load 1 false (.tmp 13)⟩,
  ⟨some 15, (some (12, true)), .call (.const (.func (.func n_slices_ContainsFunc_api_Term_api_Term) [] [])) [(.tmp 14), (.const (.func (.func n_model_Fact_1) [] []))]⟩,
  ⟨some 16, (some (12, true)), .un .not (.tmp 15)⟩,
  ⟨some 17, none, .pick (.tmp 12) (.tmp 16) (.const (.bool false))⟩,
  ⟨some 2, none, .mov (.tmp 17)⟩])
 .ret)
def k_model_Fact : AFun := ⟨18, [.tmp 2], (.seq (.region [⟨some 1, none, .box (.tmp 0)⟩,
  ⟨some 2, none, .mov (.const (.bool false))⟩])
 k_model_Fact_p0)⟩
theorem c_model_Fact : (XTab.of Tryz.prog).code 51 = some k_model_Fact := by kernel_rfl
def k_check_Arities_p0 : ACode := (.region [⟨some 47, none, .mov (.tmp 8)⟩,
  ⟨some 48, none, .fieldAddr 1 (.tmp 12)⟩,
  ⟨some 49, none, .load 1 false (.tmp 48)⟩,
  ⟨some 50, none, .fieldAddr 2 (.tmp 12)⟩,
  ⟨some 51, none, .load 1 false (.tmp 50)⟩,
  ⟨some 52, none, .lenSl (.tmp 51)⟩,
  ⟨some 53, none, .call (.tmp 47) [(.tmp 49), (.tmp 52)]⟩])
def k_check_Arities_p1 : ACode := (.seq (.region [⟨some 39, none, .fieldAddr 0 (.tmp 12)⟩,
  ⟨some 40, none, .load 1 false (.tmp 39)⟩,
  ⟨some 41, none, .bin .eql (.tmp 40) (.const (.int .i64 1))⟩,
  ⟨some 42, none, .mov (.tmp 41)⟩,
  ⟨some 43, (some (42, false)), .fieldAddr 0 (.tmp 12)⟩,
  ⟨some 44, (some (42, false)), .load 1 false (.tmp 43)⟩,
  ⟨some 45, (some (42, false)), .bin .eql (.tmp 44) (.const (.int .i64 2))⟩,
  ⟨some 46, none, .pick (.tmp 42) (.const (.bool true)) (.tmp 45)⟩])
 (.cond (.tmp 46) k_check_Arities_p0 .skip))
def k_check_Arities_p2 : ACode := (.seq (.block 3 (.seq (.region [⟨some 37, none, .indexAddr 3 (.tmp 33) (.tmp 35)⟩,
  ⟨some 38, none, .load 3 true (.tmp 37)⟩,
  ⟨some 12, none, .alloc [(.int .i64 0), (.str []), .nilslice]⟩,
  ⟨none, none, .store 3 (.tmp 12) (.tmp 38)⟩])
 k_check_Arities_p1))
 (.region [⟨some 54, none, .bin .add (.tmp 35) (.const (.int .i64 1))⟩,
  ⟨some 35, none, .mov (.tmp 54)⟩]))
def k_check_Arities_p3 : ACode := (.seq (.region [⟨some 36, none, .bin .lss (.tmp 35) (.tmp 34)⟩])
 (.seq (.cond (.tmp 36) .skip (.exit 2))
 k_check_Arities_p2))
def k_check_Arities_p4 : ACode := (.seq (.region [⟨some 23, none, .mov (.tmp 8)⟩,
  ⟨some 24, none, .fieldAddr 0 (.tmp 10)⟩,
  ⟨some 25, none, .fieldAddr 1 (.tmp 24)⟩,
  ⟨some 26, none, .load 1 false (.tmp 25)⟩,
  ⟨some 27, none, .fieldAddr 0 (.tmp 10)⟩,
  ⟨some 28, none, .fieldAddr 2 (.tmp 27)⟩,
  ⟨some 29, none, .load 1 false (.tmp 28)⟩,
  ⟨some 30, none, .lenSl (.tmp 29)⟩,
  ⟨some 31, none, .call (.tmp 23) [(.tmp 26), (.tmp 30)]⟩])
 (.seq (.region [⟨some 32, none, .fieldAddr 3 (.tmp 10)⟩,
  ⟨some 33, none, .load 1 false (.tmp 32)⟩,
  ⟨some 34, none, .lenSl (.tmp 33)⟩,
  ⟨some 35, none, .mov (.const (.int .i64 0))⟩])
 (.block 2 (.loop k_check_Arities_p3))))
def k_check_Arities_p5 : ACode := (.seq (.block 1 (.seq (.region [⟨some 21, none, .indexAddr 4 (.tmp 17) (.tmp 19)⟩,
  ⟨some 22, none, .load 4 true (.tmp 21)⟩,
  ⟨some 10, none, .alloc [(.int .i64 0), (.str []), .nilslice, .nilslice]⟩,
  ⟨none, none, .store 4 (.tmp 10) (.tmp 22)⟩])
 k_check_Arities_p4))
 (.region [⟨some 55, none, .bin .add (.tmp 19) (.const (.int .i64 1))⟩,
  ⟨some 19, none, .mov (.tmp 55)⟩]))
def k_check_Arities_p6 : ACode := (.seq (.region [⟨some 20, none, .bin .lss (.tmp 19) (.tmp 18)⟩])
 (.seq (.cond (.tmp 20) .skip (.exit 0))
 k_check_Arities_p5))
def k_check_Arities_p7 : ACode := (.region [⟨some 62, none, .mov (.tmp 8)⟩,
  ⟨some 63, none, .fieldAddr 0 (.tmp 14)⟩,
  ⟨some 64, none, .load 1 false (.tmp 63)⟩,
  ⟨some 65, none, .fieldAddr 1 (.tmp 14)⟩,
  ⟨some 66, none, .load 1 false (.tmp 65)⟩,
  ⟨some 67, none, .lenSl (.tmp 66)⟩,
  ⟨some 68, none, .call (.tmp 62) [(.tmp 64), (.tmp 67)]⟩])
def k_check_Arities_p8 : ACode := (.seq (.block 5 (.seq (.region [⟨some 60, none, .indexAddr 2 (.tmp 56) (.tmp 58)⟩,
  ⟨some 61, none, .load 2 true (.tmp 60)⟩,
  ⟨some 14, none, .alloc [(.str []), .nilslice]⟩,
  ⟨none, none, .store 2 (.tmp 14) (.tmp 61)⟩])
 k_check_Arities_p7))
 (.region [⟨some 69, none, .bin .add (.tmp 58) (.const (.int .i64 1))⟩,
  ⟨some 58, none, .mov (.tmp 69)⟩]))
def k_check_Arities_p9 : ACode := (.seq (.region [⟨some 59, none, .bin .lss (.tmp 58) (.tmp 57)⟩])
 (.seq (.cond (.tmp 59) .skip (.exit 4))
 k_check_Arities_p8))
def k_check_Arities_p10 : ACode := (.seq (.region [⟨some 4, none, .mov (.const .nilmap)⟩,
  ⟨some 5, none, .mov (.const (.int .i64 6))⟩])
 .ret)
def k_check_Arities_p11 : ACode := (.seq (.seq (.region [⟨some 70, none, .load 1 false (.tmp 7)⟩,
  ⟨some 71, none, .un .not (.tmp 70)⟩])
 (.cond (.tmp 71) k_check_Arities_p10 .skip))
 (.seq (.region [⟨some 72, none, .load 1 false (.tmp 6)⟩,
  ⟨some 4, none, .mov (.tmp 72)⟩,
  ⟨some 5, none, .mov (.const (.int .i64 0))⟩])
 .ret))
def k_check_Arities_p12 : ACode := (.seq (.seq (.region [⟨some 17, none, .mov (.tmp 0)⟩,
  ⟨some 18, none, .lenSl (.tmp 17)⟩,
  ⟨some 19, none, .mov (.const (.int .i64 0))⟩])
 (.block 0 (.loop k_check_Arities_p6)))
 (.seq (.seq (.region [⟨some 56, none, .mov (.tmp 1)⟩,
  ⟨some 57, none, .lenSl (.tmp 56)⟩,
  ⟨some 58, none, .mov (.const (.int .i64 0))⟩])
 (.block 4 (.loop k_check_Arities_p9)))
 k_check_Arities_p11))
def k_check_Arities_p13 : ACode := (.seq (.region [⟨some 15, none, .mkMap⟩,
  ⟨some 6, none, .alloc [.nilmap]⟩,
  ⟨none, none, .store 1 (.tmp 6) (.tmp 15)⟩])
 (.seq (.region [⟨some 7, none, .alloc [(.bool false)]⟩,
  ⟨none, none, .store 1 (.tmp 7) (.const (.bool true))⟩])
 (.seq (.region [⟨some 16, none, .mkFunc (.func n_check_Arities_1) [] [(.tmp 6), (.tmp 7)]⟩,
  ⟨some 8, none, .mov (.tmp 16)⟩])
 k_check_Arities_p12)))
def k_check_Arities : AFun := ⟨73, [.tmp 4, .tmp 5], (.seq (.region [⟨some 4, none, .mov (.const .nilmap)⟩,
  ⟨some 5, none, .mov (.const (.int .i64 0))⟩])
 k_check_Arities_p13)⟩
theorem c_check_Arities : (XTab.of Tryz.prog).code 54 = some k_check_Arities := by kernel_rfl
def k_model_ask_4_p0 : ACode := (.seq (.region [⟨some 4, none, .load 1 false (.tmp 1)⟩,
  ⟨some 5, none, .fieldAddr 0 (.tmp 2)⟩,
  ⟨some 6, none, .load 1 false (.tmp 5)⟩,
  ⟨some 7, none, .call (.const (.func (.func n_check_Defined) [] [])) [(.tmp 4), (.tmp 6)]⟩,
  ⟨some 3, none, .mov (.tmp 7)⟩])
 .ret)
def k_model_ask_4 : AFun := ⟨8, [.tmp 3], (.seq (.region [⟨some 2, none, .box (.tmp 0)⟩,
  ⟨some 3, none, .mov (.const (.bool false))⟩])
 k_model_ask_4_p0)⟩
theorem c_model_ask_4 : (XTab.of Tryz.prog).code 55 = some k_model_ask_4 := by kernel_rfl
def k_check_Defined_p0 : ACode := (.seq (.region [⟨some 4, none, .mov (.const (.bool true))⟩])
 .ret)
def k_check_Defined_p1 : ACode := (.seq (.region [⟨some 13, none, .fieldAddr 0 (.tmp 6)⟩,
  ⟨some 14, none, .fieldAddr 1 (.tmp 13)⟩,
  ⟨some 15, none, .load 1 false (.tmp 14)⟩,
  ⟨some 16, none, .mov (.tmp 1)⟩,
  ⟨some 17, none, .bin .eql (.tmp 15) (.tmp 16)⟩])
 (.cond (.tmp 17) k_check_Defined_p0 .skip))
def k_check_Defined_p2 : ACode := (.seq (.block 1 (.seq (.region [⟨some 11, none, .indexAddr 4 (.tmp 7) (.tmp 9)⟩,
  ⟨some 12, none, .load 4 true (.tmp 11)⟩,
  ⟨some 6, none, .alloc [(.int .i64 0), (.str []), .nilslice, .nilslice]⟩,
  ⟨none, none, .store 4 (.tmp 6) (.tmp 12)⟩])
 k_check_Defined_p1))
 (.region [⟨some 18, none, .bin .add (.tmp 9) (.const (.int .i64 1))⟩,
  ⟨some 9, none, .mov (.tmp 18)⟩]))
def k_check_Defined_p3 : ACode := (.seq (.region [⟨some 10, none, .bin .lss (.tmp 9) (.tmp 8)⟩])
 (.seq (.cond (.tmp 10) .skip (.exit 0))
 k_check_Defined_p2))
def k_check_Defined : AFun := ⟨19, [.tmp 4], (.seq (.region [⟨some 4, none, .mov (.const (.bool false))⟩])
 (.seq (.seq (.region [⟨some 7, none, .mov (.tmp 0)⟩,
  ⟨some 8, none, .lenSl (.tmp 7)⟩,
  ⟨some 9, none, .mov (.const (.int .i64 0))⟩])
 (.block 0 (.loop k_check_Defined_p3)))
 (.seq (.region [⟨some 4, none, .mov (.const (.bool false))⟩])
 .ret)))⟩
theorem c_check_Defined : (XTab.of Tryz.prog).code 56 = some k_check_Defined := by kernel_rfl
def k_strata_Of_p0 : ACode := (.region [⟨some 38, none, .mov (.tmp 10)⟩,
  ⟨some 39, none, .bin .add (.tmp 38) (.const (.int .i64 1))⟩,
  ⟨some 10, none, .mov (.tmp 39)⟩])
def k_strata_Of_p1 : ACode := (.seq (.region [⟨some 2, none, .mov (.const .nilmap)⟩,
  ⟨some 3, none, .mov (.const (.int .i64 7))⟩])
 .ret)
def k_strata_Of_p2 : ACode := (.region [⟨some 65, none, .mov (.tmp 4)⟩,
  ⟨some 66, none, .fieldAddr 0 (.tmp 7)⟩,
  ⟨some 67, none, .fieldAddr 1 (.tmp 66)⟩,
  ⟨some 68, none, .load 1 false (.tmp 67)⟩,
  ⟨some 69, none, .mov (.tmp 10)⟩,
  ⟨none, none, .mapUpdate (.scalar .str) (.tmp 65) (.tmp 68) (.tmp 69)⟩,
  ⟨some 5, none, .mov (.const (.bool true))⟩])
def k_strata_Of_p3 : ACode := (.seq (.seq (.region [⟨some 40, none, .mov (.tmp 11)⟩,
  ⟨some 41, none, .un .not (.tmp 40)⟩,
  ⟨some 42, none, .mov (.tmp 41)⟩,
  ⟨some 43, (some (42, false)), .fieldAddr 0 (.tmp 9)⟩,
  ⟨some 44, (some (42, false)), .load 1 false (.tmp 43)⟩,
  ⟨some 45, (some (42, false)), .bin .neq (.tmp 44) (.const (.int .i64 1))⟩,
  ⟨some 46, (some (42, false)), .mov (.tmp 45)⟩,
  ⟨some 47, (some (46, true)), .fieldAddr 0 (.tmp 9)⟩,
  ⟨some 48, (some (46, true)), .load 1 false (.tmp 47)⟩,
  ⟨some 49, (some (46, true)), .bin .neq (.tmp 48) (.const (.int .i64 2))⟩,
  ⟨some 50, (some (42, false)), .pick (.tmp 46) (.tmp 49) (.const (.bool false))⟩,
  ⟨some 51, none, .pick (.tmp 42) (.const (.bool true)) (.tmp 50)⟩,
  ⟨some 52, none, .mov (.tmp 51)⟩,
  ⟨some 53, (some (52, false)), .mov (.tmp 10)⟩,
  ⟨some 54, (some (52, false)), .mov (.tmp 4)⟩,
  ⟨some 55, (some (52, false)), .fieldAddr 0 (.tmp 7)⟩,
  ⟨some 56, (some (52, false)), .fieldAddr 1 (.tmp 55)⟩,
  ⟨some 57, (some (52, false)), .load 1 false (.tmp 56)⟩,
  ⟨some 58, (some (52, false)), .lookup (.scalar .str) (.int .i64 0) false (.tmp 54) (.tmp 57)⟩,
  ⟨some 59, (some (52, false)), .bin .leq (.tmp 53) (.tmp 58)⟩,
  ⟨some 60, none, .pick (.tmp 52) (.const (.bool true)) (.tmp 59)⟩])
 (.cond (.tmp 60) (.exit 5) .skip))
 (.seq (.seq (.region [⟨some 61, none, .mov (.tmp 10)⟩,
  ⟨some 62, none, .mov (.tmp 4)⟩,
  ⟨some 63, none, .lenMap (.tmp 62)⟩,
  ⟨some 64, none, .bin .geq (.tmp 61) (.tmp 63)⟩])
 (.cond (.tmp 64) k_strata_Of_p1 .skip))
 k_strata_Of_p2))
def k_strata_Of_p4 : ACode := (.seq (.region [⟨some 29, none, .mov (.tmp 4)⟩,
  ⟨some 30, none, .fieldAddr 1 (.tmp 9)⟩,
  ⟨some 31, none, .load 1 false (.tmp 30)⟩,
  ⟨some 32, none, .lookup (.scalar .str) (.int .i64 0) true (.tmp 29) (.tmp 31)⟩,
  ⟨some 28, none, .mov (.tmp 32)⟩,
  ⟨some 33, none, .extract 0 (.tmp 28)⟩,
  ⟨some 34, none, .extract 1 (.tmp 28)⟩,
  ⟨some 10, none, .mov (.tmp 33)⟩,
  ⟨some 11, none, .mov (.tmp 34)⟩])
 (.seq (.seq (.region [⟨some 35, none, .fieldAddr 0 (.tmp 9)⟩,
  ⟨some 36, none, .load 1 false (.tmp 35)⟩,
  ⟨some 37, none, .bin .eql (.tmp 36) (.const (.int .i64 2))⟩])
 (.cond (.tmp 37) k_strata_Of_p0 .skip))
 k_strata_Of_p3))
def k_strata_Of_p5 : ACode := (.seq (.block 5 (.seq (.region [⟨some 26, none, .indexAddr 3 (.tmp 22) (.tmp 24)⟩,
  ⟨some 27, none, .load 3 true (.tmp 26)⟩,
  ⟨some 9, none, .alloc [(.int .i64 0), (.str []), .nilslice]⟩,
  ⟨none, none, .store 3 (.tmp 9) (.tmp 27)⟩])
 k_strata_Of_p4))
 (.region [⟨some 70, none, .bin .add (.tmp 24) (.const (.int .i64 1))⟩,
  ⟨some 24, none, .mov (.tmp 70)⟩]))
def k_strata_Of_p6 : ACode := (.seq (.region [⟨some 25, none, .bin .lss (.tmp 24) (.tmp 23)⟩])
 (.seq (.cond (.tmp 25) .skip (.exit 4))
 k_strata_Of_p5))
def k_strata_Of_p7 : ACode := (.seq (.region [⟨some 19, none, .indexAddr 4 (.tmp 15) (.tmp 17)⟩,
  ⟨some 20, none, .load 4 true (.tmp 19)⟩,
  ⟨some 7, none, .alloc [(.int .i64 0), (.str []), .nilslice, .nilslice]⟩,
  ⟨none, none, .store 4 (.tmp 7) (.tmp 20)⟩])
 (.seq (.region [⟨some 21, none, .fieldAddr 3 (.tmp 7)⟩,
  ⟨some 22, none, .load 1 false (.tmp 21)⟩,
  ⟨some 23, none, .lenSl (.tmp 22)⟩,
  ⟨some 24, none, .mov (.const (.int .i64 0))⟩])
 (.block 4 (.loop k_strata_Of_p6))))
def k_strata_Of_p8 : ACode := (.seq (.region [⟨some 18, none, .bin .lss (.tmp 17) (.tmp 16)⟩])
 (.seq (.cond (.tmp 18) .skip (.exit 2))
 (.seq (.block 3 k_strata_Of_p7)
 (.region [⟨some 71, none, .bin .add (.tmp 17) (.const (.int .i64 1))⟩,
  ⟨some 17, none, .mov (.tmp 71)⟩]))))
def k_strata_Of_p9 : ACode := (.seq (.seq (.region [⟨some 14, none, .mov (.tmp 5)⟩])
 (.cond (.tmp 14) .skip (.exit 0)))
 (.block 1 (.seq (.region [⟨some 5, none, .mov (.const (.bool false))⟩])
 (.seq (.region [⟨some 15, none, .mov (.tmp 0)⟩,
  ⟨some 16, none, .lenSl (.tmp 15)⟩,
  ⟨some 17, none, .mov (.const (.int .i64 0))⟩])
 (.block 2 (.loop k_strata_Of_p8))))))
def k_strata_Of_p10 : ACode := (.seq (.region [⟨some 12, none, .mov (.tmp 0)⟩,
  ⟨some 13, none, .call (.const (.func (.func n_strata_heads) [] [])) [(.tmp 12)]⟩,
  ⟨some 4, none, .mov (.tmp 13)⟩])
 (.seq (.seq (.region [⟨some 5, none, .mov (.const (.bool true))⟩])
 (.block 0 (.loop k_strata_Of_p9)))
 (.seq (.region [⟨some 72, none, .mov (.tmp 4)⟩,
  ⟨some 2, none, .mov (.tmp 72)⟩,
  ⟨some 3, none, .mov (.const (.int .i64 0))⟩])
 .ret)))
def k_strata_Of : AFun := ⟨73, [.tmp 2, .tmp 3], (.seq (.region [⟨some 2, none, .mov (.const .nilmap)⟩,
  ⟨some 3, none, .mov (.const (.int .i64 0))⟩])
 k_strata_Of_p10)⟩
theorem c_strata_Of : (XTab.of Tryz.prog).code 57 = some k_strata_Of := by kernel_rfl
def k_value_May_p0 : ACode := (.seq (.region [⟨some 22, none, .fieldAddr 2 (.tmp 1)⟩,
  ⟨some 23, none, .load 1 false (.tmp 22)⟩,
  ⟨some 24, none, .bin .eql (.tmp 23) (.const (.int .i64 0))⟩,
  ⟨some 25, none, .mov (.tmp 24)⟩,
  ⟨some 26, (some (25, true)), .fieldAddr 1 (.tmp 1)⟩,
  ⟨some 27, (some (25, true)), .load 1 false (.tmp 26)⟩,
  ⟨some 28, (some (25, true)), .call (.const (.func (.func n_value_Word) [] [])) [(.tmp 27)]⟩,
  ⟨some 29, none, .pick (.tmp 25) (.tmp 28) (.const (.bool false))⟩,
  ⟨some 2, none, .mov (.tmp 29)⟩])
 .ret)
def k_value_May_p1 : ACode := (.seq (.region [⟨some 7, none, .fieldAddr 1 (.tmp 1)⟩,
  ⟨some 8, none, .load 1 false (.tmp 7)⟩,
  ⟨some 9, none, .bin .eql (.tmp 8) (.const (.str []))⟩,
  ⟨some 10, none, .mov (.tmp 9)⟩,
  ⟨some 11, (some (10, true)), .fieldAddr 2 (.tmp 1)⟩,
  ⟨some 12, (some (10, true)), .load 1 false (.tmp 11)⟩,
  ⟨some 13, (some (10, true)), .bin .geq (.tmp 12) (.const (.int .i64 (-2147483648)))⟩,
  ⟨some 14, none, .pick (.tmp 10) (.tmp 13) (.const (.bool false))⟩,
  ⟨some 15, none, .mov (.tmp 14)⟩,
  ⟨some 16, (some (15, true)), .fieldAddr 2 (.tmp 1)⟩,
  ⟨some 17, (some (15, true)), .load 1 false (.tmp 16)⟩,
  ⟨some 18, (some (15, true)), .bin .leq (.tmp 17) (.const (.int .i64 2147483648))⟩,
  ⟨some 19, none, .pick (.tmp 15) (.tmp 18) (.const (.bool false))⟩,
  ⟨some 2, none, .mov (.tmp 19)⟩])
 .ret)
def k_value_May_p2 : ACode := (.seq (.region [⟨some 6, none, .bin .eql (.tmp 4) (.const (.int .i64 3))⟩,
  ⟨some 5, none, .mov (.tmp 6)⟩])
 (.cond (.tmp 5) k_value_May_p1 (.seq (.region [⟨some 21, none, .bin .eql (.tmp 4) (.const (.int .i64 2))⟩,
  ⟨some 20, none, .mov (.tmp 21)⟩])
 (.cond (.tmp 20) k_value_May_p0 .skip))))
def k_value_May : AFun := ⟨30, [.tmp 2], (.seq (.region [⟨some 1, none, .box (.tmp 0)⟩,
  ⟨some 2, none, .mov (.const (.bool false))⟩])
 (.seq (.seq (.region [⟨some 3, none, .fieldAddr 0 (.tmp 1)⟩,
  ⟨some 4, none, .load 1 false (.tmp 3)⟩])
 (.block 0 k_value_May_p2))
 (.seq (.region [⟨some 2, none, .mov (.const (.bool false))⟩])
 .ret)))⟩
theorem c_value_May : (XTab.of Tryz.prog).code 58 = some k_value_May := by kernel_rfl
def k_relation_New : AFun := ⟨12, [.tmp 2], (.seq (.region [⟨some 2, none, .mov (.const .nilptr)⟩])
 (.seq (.seq (.region [⟨some 3, none, .mov (.tmp 0)⟩,
  ⟨some 4, none, .bin .lss (.tmp 3) (.const (.int .i64 0))⟩,
  ⟨some 5, none, .mov (.tmp 4)⟩,
  ⟨some 6, (some (5, false)), .mov (.tmp 0)⟩,
  ⟨some 7, (some (5, false)), .bin .gtr (.tmp 6) (.const (.int .i64 4))⟩,
  ⟨some 8, none, .pick (.tmp 5) (.const (.bool true)) (.tmp 7)⟩])
 (.cond (.tmp 8) (.seq (.region [⟨some 2, none, .mov (.const .nilptr)⟩])
 .ret) .skip))
 (.seq (.region [⟨some 9, none, .mov (.tmp 0)⟩,
  ⟨some 10, none, .build [(.int .i64 0), .nilslice] [(0, 1, (.tmp 9))]⟩,
  ⟨some 11, none, .box (.tmp 10)⟩,
  ⟨some 2, none, .mov (.tmp 11)⟩])
 .ret)))⟩
theorem c_relation_New : (XTab.of Tryz.prog).code 59 = some k_relation_New := by kernel_rfl
def k_relation_Set_Add : AFun := ⟨30, [.tmp 4], (.seq (.region [⟨some 4, none, .mov (.const (.bool false))⟩])
 (.seq (.region [⟨some 8, none, .mov (.tmp 0)⟩,
  ⟨some 9, none, .mov (.tmp 1)⟩,
  ⟨some 10, none, .call (.const (.func (.func n_relation_Set_find) [] [])) [(.tmp 8), (.tmp 9)]⟩,
  ⟨some 7, none, .mov (.tmp 10)⟩,
  ⟨some 11, none, .extract 0 (.tmp 7)⟩,
  ⟨some 12, none, .extract 1 (.tmp 7)⟩,
  ⟨some 5, none, .mov (.tmp 11)⟩,
  ⟨some 6, none, .mov (.tmp 12)⟩])
 (.seq (.seq (.region [⟨some 13, none, .mov (.tmp 5)⟩,
  ⟨some 14, none, .bin .lss (.tmp 13) (.const (.int .i64 0))⟩,
  ⟨some 15, none, .mov (.tmp 14)⟩,
  ⟨some 16, (some (15, false)), .mov (.tmp 6)⟩,
  ⟨some 17, none, .pick (.tmp 15) (.const (.bool true)) (.tmp 16)⟩])
 (.cond (.tmp 17) (.seq (.region [⟨some 4, none, .mov (.const (.bool false))⟩])
 .ret) .skip))
 (.seq (.drawn [⟨⟨some 18, none, .mov (.tmp 0)⟩, false, [], []⟩,
  ⟨⟨some 19, none, .mov (.tmp 0)⟩, false, [], []⟩,
  ⟨⟨some 20, none, .nilCheck (.tmp 19)⟩, false, [1], []⟩,
  ⟨⟨some 21, none, .fieldAddr 1 (.tmp 20)⟩, false, [2, 1], []⟩,
  ⟨⟨some 22, none, .load 1 false (.tmp 21)⟩, false, [3, 2, 1], []⟩,
  ⟨⟨some 23, none, .mov (.tmp 5)⟩, false, [], []⟩,
  ⟨⟨some 24, none, .mov (.tmp 1)⟩, false, [], []⟩,
  ⟨⟨some 25, none, .call (.const (.func (.func n_slices_Clone_relation_Row_int) [] [])) [(.tmp 24)]⟩, true, [6], []⟩,
  ⟨⟨some 26, none, .buildSlice 1 [.nilslice] [(0, 1, (.tmp 25))]⟩, true, [7, 6], []⟩,
  ⟨⟨some 27, none, .call (.const (.func (.func n_slices_Insert_relation_Row_relation_Row) [] [])) [(.tmp 22), (.tmp 23), (.tmp 26)]⟩, true, [8, 7, 6, 5, 4, 3, 2, 1], []⟩,
  ⟨⟨some 28, none, .nilCheck (.tmp 18)⟩, false, [9, 8, 7, 6, 5, 4, 3, 2, 1, 0], []⟩,
  ⟨⟨some 29, none, .fieldAddr 1 (.tmp 28)⟩, false, [10, 9, 8, 7, 6, 5, 4, 3, 2, 1, 0], []⟩,
  ⟨⟨none, none, .store 1 (.tmp 29) (.tmp 27)⟩, true, [11, 10, 9, 8, 7, 6, 5, 4, 3, 2, 1, 0], []⟩])
 (.seq (.region [⟨some 4, none, .mov (.const (.bool true))⟩])
 .ret)))))⟩
theorem c_relation_Set_Add : (XTab.of Tryz.prog).code 60 = some k_relation_Set_Add := by kernel_rfl
end Go.Proofs.YtladocoibpljnaaGreatDoor
set_option maxRecDepth 100000
set_option linter.unusedVariables false
namespace Go.Proofs.YtladocoibpljnaaGreatDoor
open Go.AE
def k_relation_Set_Match_p0 : ACode := (.region [⟨some 31, none, .mov (.tmp 5)⟩,
  ⟨some 32, none, .mov (.tmp 7)⟩,
  ⟨some 33, none, .call (.const (.func (.func n_slices_Clone_relation_Row_int) [] [])) [(.tmp 32)]⟩,
  ⟨some 34, none, .buildSlice 1 [.nilslice] [(0, 1, (.tmp 33))]⟩,
  ⟨some 35, none, .append 1 24 (.tmp 31) (.tmp 34)⟩,
  ⟨some 5, none, .mov (.tmp 35)⟩])
def k_relation_Set_Match_p1 : ACode := (.seq (.region [⟨some 26, none, .indexAddr 1 (.tmp 22) (.tmp 24)⟩,
  ⟨some 27, none, .load 1 false (.tmp 26)⟩,
  ⟨some 7, none, .mov (.tmp 27)⟩])
 (.seq (.region [⟨some 28, none, .mov (.tmp 7)⟩,
  ⟨some 29, none, .mov (.tmp 1)⟩,
  ⟨some 30, none, .call (.const (.func (.func n_relation_fits) [] [])) [(.tmp 28), (.tmp 29)]⟩])
 (.cond (.tmp 30) k_relation_Set_Match_p0 .skip)))
def k_relation_Set_Match_p2 : ACode := (.seq (.region [⟨some 25, none, .bin .lss (.tmp 24) (.tmp 23)⟩])
 (.seq (.cond (.tmp 25) .skip (.exit 0))
 (.seq (.block 1 k_relation_Set_Match_p1)
 (.region [⟨some 36, none, .bin .add (.tmp 24) (.const (.int .i64 1))⟩,
  ⟨some 24, none, .mov (.tmp 36)⟩]))))
def k_relation_Set_Match : AFun := ⟨38, [.tmp 4], (.seq (.region [⟨some 4, none, .mov (.const .nilslice)⟩])
 (.seq (.seq (.region [⟨some 8, none, .mov (.tmp 0)⟩,
  ⟨some 9, none, .eqv false .ptr (.tmp 8) (.const .nilptr)⟩,
  ⟨some 10, none, .mov (.tmp 9)⟩,
  ⟨some 11, (some (10, false)), .mov (.tmp 1)⟩,
  ⟨some 12, (some (10, false)), .lenSl (.tmp 11)⟩,
  ⟨some 13, (some (10, false)), .mov (.tmp 0)⟩,
  ⟨some 14, (some (10, false)), .nilCheck (.tmp 13)⟩,
  ⟨some 15, (some (10, false)), .fieldAddr 0 (.tmp 14)⟩,
  ⟨some 16, (some (10, false)), .load 1 false (.tmp 15)⟩,
  ⟨some 17, (some (10, false)), .bin .neq (.tmp 12) (.tmp 16)⟩,
  ⟨some 18, none, .pick (.tmp 10) (.const (.bool true)) (.tmp 17)⟩])
 (.cond (.tmp 18) (.seq (.region [⟨some 4, none, .mov (.const .nilslice)⟩])
 .ret) .skip))
 (.seq (.region [⟨some 5, none, .mov (.const .nilslice)⟩])
 (.seq (.seq (.region [⟨some 19, none, .mov (.tmp 0)⟩,
  ⟨some 20, none, .nilCheck (.tmp 19)⟩,
  ⟨some 21, none, .fieldAddr 1 (.tmp 20)⟩,
  ⟨some 22, none, .load 1 false (.tmp 21)⟩,
  ⟨some 23, none, .lenSl (.tmp 22)⟩,
  ⟨some 24, none, .mov (.const (.int .i64 0))⟩])
 (.block 0 (.loop k_relation_Set_Match_p2)))
 (.seq (.region [⟨some 37, none, .mov (.tmp 5)⟩,
  ⟨some 4, none, .mov (.tmp 37)⟩])
 .ret)))))⟩
theorem c_relation_Set_Match : (XTab.of Tryz.prog).code 66 = some k_relation_Set_Match := by kernel_rfl
def k_slices_pdqsortCmpFunc_api_Fact_p0 : ACode := (.seq (.region [⟨some 26, none, .mov (.tmp 0)⟩,
  ⟨some 27, none, .mov (.tmp 1)⟩,
  ⟨some 28, none, .mov (.tmp 2)⟩,
  ⟨some 29, none, .mov (.tmp 4)⟩,
  ⟨some 30, none, .call (.const (.func (.func n_slices_insertionSortCmpFunc_api_Fact) [] [])) [(.tmp 26), (.tmp 27), (.tmp 28), (.tmp 29)]⟩])
 .ret)
def k_slices_pdqsortCmpFunc_api_Fact_p1 : ACode := (.seq (.region [⟨some 33, none, .mov (.tmp 0)⟩,
  ⟨some 34, none, .mov (.tmp 1)⟩,
  ⟨some 35, none, .mov (.tmp 2)⟩,
  ⟨some 36, none, .mov (.tmp 4)⟩,
  ⟨some 37, none, .call (.const (.func (.func n_slices_heapSortCmpFunc_api_Fact) [] [])) [(.tmp 33), (.tmp 34), (.tmp 35), (.tmp 36)]⟩])
 .ret)
def k_slices_pdqsortCmpFunc_api_Fact_p2 : ACode := (.seq (.region [⟨some 40, none, .mov (.tmp 0)⟩,
  ⟨some 41, none, .mov (.tmp 1)⟩,
  ⟨some 42, none, .mov (.tmp 2)⟩,
  ⟨some 43, none, .mov (.tmp 4)⟩,
  ⟨some 44, none, .call (.const (.func (.func n_slices_breakPatternsCmpFunc_api_Fact) [] [])) [(.tmp 40), (.tmp 41), (.tmp 42), (.tmp 43)]⟩])
 (.region [⟨some 45, none, .mov (.tmp 3)⟩,
  ⟨some 46, none, .bin .sub (.tmp 45) (.const (.int .i64 1))⟩,
  ⟨some 3, none, .mov (.tmp 46)⟩]))
def k_slices_pdqsortCmpFunc_api_Fact_p3 : ACode := (.seq (.region [⟨some 62, none, .mov (.tmp 2)⟩,
  ⟨some 63, none, .bin .sub (.tmp 62) (.const (.int .i64 1))⟩,
  ⟨some 64, none, .mov (.tmp 13)⟩,
  ⟨some 65, none, .mov (.tmp 1)⟩,
  ⟨some 66, none, .bin .sub (.tmp 64) (.tmp 65)⟩,
  ⟨some 67, none, .bin .sub (.tmp 63) (.tmp 66)⟩,
  ⟨some 13, none, .mov (.tmp 67)⟩])
 (.region [⟨some 14, none, .mov (.const (.int .i64 1))⟩]))
def k_slices_pdqsortCmpFunc_api_Fact_p4 : ACode := (.seq (.region [⟨some 57, none, .mov (.tmp 0)⟩,
  ⟨some 58, none, .mov (.tmp 1)⟩,
  ⟨some 59, none, .mov (.tmp 2)⟩,
  ⟨some 60, none, .mov (.tmp 4)⟩,
  ⟨some 61, none, .call (.const (.func (.func n_slices_reverseRangeCmpFunc_api_Fact) [] [])) [(.tmp 57), (.tmp 58), (.tmp 59), (.tmp 60)]⟩])
 k_slices_pdqsortCmpFunc_api_Fact_p3)
def k_slices_pdqsortCmpFunc_api_Fact_p5 : ACode := (.seq (.region [⟨some 76, none, .mov (.tmp 0)⟩,
  ⟨some 77, none, .mov (.tmp 1)⟩,
  ⟨some 78, none, .mov (.tmp 2)⟩,
  ⟨some 79, none, .mov (.tmp 4)⟩,
  ⟨some 80, none, .call (.const (.func (.func n_slices_partialInsertionSortCmpFunc_api_Fact) [] [])) [(.tmp 76), (.tmp 77), (.tmp 78), (.tmp 79)]⟩])
 (.cond (.tmp 80) .ret .skip))
def k_slices_pdqsortCmpFunc_api_Fact_p6 : ACode := (.seq (.region [⟨some 98, none, .mov (.tmp 0)⟩,
  ⟨some 99, none, .mov (.tmp 1)⟩,
  ⟨some 100, none, .mov (.tmp 2)⟩,
  ⟨some 101, none, .mov (.tmp 13)⟩,
  ⟨some 102, none, .mov (.tmp 4)⟩,
  ⟨some 103, none, .call (.const (.func (.func n_slices_partitionEqualCmpFunc_api_Fact) [] [])) [(.tmp 98), (.tmp 99), (.tmp 100), (.tmp 101), (.tmp 102)]⟩,
  ⟨some 15, none, .mov (.tmp 103)⟩])
 (.seq (.region [⟨some 104, none, .mov (.tmp 15)⟩,
  ⟨some 1, none, .mov (.tmp 104)⟩])
 (.exit 1)))
def k_slices_pdqsortCmpFunc_api_Fact_p7 : ACode := (.seq (.region [⟨some 129, none, .mov (.tmp 0)⟩,
  ⟨some 130, none, .mov (.tmp 1)⟩,
  ⟨some 131, none, .mov (.tmp 16)⟩,
  ⟨some 132, none, .mov (.tmp 3)⟩,
  ⟨some 133, none, .mov (.tmp 4)⟩,
  ⟨some 134, none, .call (.const (.func (.func n_slices_pdqsortCmpFunc_api_Fact) [] [])) [(.tmp 129), (.tmp 130), (.tmp 131), (.tmp 132), (.tmp 133)]⟩])
 (.region [⟨some 135, none, .mov (.tmp 16)⟩,
  ⟨some 136, none, .bin .add (.tmp 135) (.const (.int .i64 1))⟩,
  ⟨some 1, none, .mov (.tmp 136)⟩]))
def k_slices_pdqsortCmpFunc_api_Fact_p8 : ACode := (.seq (.region [⟨some 140, none, .mov (.tmp 0)⟩,
  ⟨some 141, none, .mov (.tmp 16)⟩,
  ⟨some 142, none, .bin .add (.tmp 141) (.const (.int .i64 1))⟩,
  ⟨some 143, none, .mov (.tmp 2)⟩,
  ⟨some 144, none, .mov (.tmp 3)⟩,
  ⟨some 145, none, .mov (.tmp 4)⟩,
  ⟨some 146, none, .call (.const (.func (.func n_slices_pdqsortCmpFunc_api_Fact) [] [])) [(.tmp 140), (.tmp 142), (.tmp 143), (.tmp 144), (.tmp 145)]⟩])
 (.region [⟨some 147, none, .mov (.tmp 16)⟩,
  ⟨some 2, none, .mov (.tmp 147)⟩]))
def k_slices_pdqsortCmpFunc_api_Fact_p9 : ACode := (.seq (.region [⟨some 126, none, .mov (.tmp 18)⟩,
  ⟨some 127, none, .mov (.tmp 20)⟩,
  ⟨some 128, none, .bin .geq (.tmp 126) (.tmp 127)⟩,
  ⟨some 10, none, .mov (.tmp 128)⟩])
 k_slices_pdqsortCmpFunc_api_Fact_p7)
def k_slices_pdqsortCmpFunc_api_Fact_p10 : ACode := (.seq (.region [⟨some 137, none, .mov (.tmp 19)⟩,
  ⟨some 138, none, .mov (.tmp 20)⟩,
  ⟨some 139, none, .bin .geq (.tmp 137) (.tmp 138)⟩,
  ⟨some 10, none, .mov (.tmp 139)⟩])
 k_slices_pdqsortCmpFunc_api_Fact_p8)
def k_slices_pdqsortCmpFunc_api_Fact_p11 : ACode := (.seq (.region [⟨some 121, none, .mov (.tmp 12)⟩,
  ⟨some 122, none, .bin .quo (.tmp 121) (.const (.int .i64 8))⟩,
  ⟨some 20, none, .mov (.tmp 122)⟩])
 (.seq (.region [⟨some 123, none, .mov (.tmp 18)⟩,
  ⟨some 124, none, .mov (.tmp 19)⟩,
  ⟨some 125, none, .bin .lss (.tmp 123) (.tmp 124)⟩])
 (.cond (.tmp 125) k_slices_pdqsortCmpFunc_api_Fact_p9 k_slices_pdqsortCmpFunc_api_Fact_p10)))
def k_slices_pdqsortCmpFunc_api_Fact_p12 : ACode := (.seq (.region [⟨some 115, none, .mov (.tmp 16)⟩,
  ⟨some 116, none, .mov (.tmp 1)⟩,
  ⟨some 117, none, .bin .sub (.tmp 115) (.tmp 116)⟩,
  ⟨some 118, none, .mov (.tmp 2)⟩,
  ⟨some 119, none, .mov (.tmp 16)⟩,
  ⟨some 120, none, .bin .sub (.tmp 118) (.tmp 119)⟩,
  ⟨some 18, none, .mov (.tmp 117)⟩,
  ⟨some 19, none, .mov (.tmp 120)⟩])
 k_slices_pdqsortCmpFunc_api_Fact_p11)
def k_slices_pdqsortCmpFunc_api_Fact_p13 : ACode := (.seq (.region [⟨some 106, none, .mov (.tmp 0)⟩,
  ⟨some 107, none, .mov (.tmp 1)⟩,
  ⟨some 108, none, .mov (.tmp 2)⟩,
  ⟨some 109, none, .mov (.tmp 13)⟩,
  ⟨some 110, none, .mov (.tmp 4)⟩,
  ⟨some 111, none, .call (.const (.func (.func n_slices_partitionCmpFunc_api_Fact) [] [])) [(.tmp 106), (.tmp 107), (.tmp 108), (.tmp 109), (.tmp 110)]⟩,
  ⟨some 105, none, .mov (.tmp 111)⟩,
  ⟨some 112, none, .extract 0 (.tmp 105)⟩,
  ⟨some 113, none, .extract 1 (.tmp 105)⟩,
  ⟨some 16, none, .mov (.tmp 112)⟩,
  ⟨some 17, none, .mov (.tmp 113)⟩])
 (.seq (.region [⟨some 114, none, .mov (.tmp 17)⟩,
  ⟨some 11, none, .mov (.tmp 114)⟩])
 k_slices_pdqsortCmpFunc_api_Fact_p12))
def k_slices_pdqsortCmpFunc_api_Fact_p14 : ACode := (.seq (.seq (.region [⟨some 81, none, .mov (.tmp 1)⟩,
  ⟨some 82, none, .bin .gtr (.tmp 81) (.const (.int .i64 0))⟩,
  ⟨some 83, none, .mov (.tmp 82)⟩,
  ⟨some 84, (some (83, true)), .mov (.tmp 4)⟩,
  ⟨some 85, (some (83, true)), .mov (.tmp 0)⟩,
  ⟨some 86, (some (83, true)), .mov (.tmp 1)⟩,
  ⟨some 87, (some (83, true)), .bin .sub (.tmp 86) (.const (.int .i64 1))⟩,
  ⟨some 88, (some (83, true)), .indexAddr 2 (.tmp 85) (.tmp 87)⟩,
  ⟨some 89, (some (83, true)), .load 2 true (.tmp 88)⟩,
  ⟨some 90, (some (83, true)), .mov (.tmp 0)⟩,
  ⟨some 91, (some (83, true)), .mov (.tmp 13)⟩,
  ⟨some 92, (some (83, true)), .indexAddr 2 (.tmp 90) (.tmp 91)⟩,
  ⟨some 93, (some (83, true)), .load 2 true (.tmp 92)⟩,
  ⟨some 94, (some (83, true)), .call (.tmp 84) [(.tmp 89), (.tmp 93)]⟩,
  ⟨some 95, (some (83, true)), .bin .lss (.tmp 94) (.const (.int .i64 0))⟩,
  ⟨some 96, (some (83, true)), .un .not (.tmp 95)⟩,
  ⟨some 97, none, .pick (.tmp 83) (.tmp 96) (.const (.bool false))⟩])
 (.cond (.tmp 97) k_slices_pdqsortCmpFunc_api_Fact_p6 .skip))
 k_slices_pdqsortCmpFunc_api_Fact_p13)
def k_slices_pdqsortCmpFunc_api_Fact_p15 : ACode := (.seq (.seq (.region [⟨some 68, none, .mov (.tmp 10)⟩,
  ⟨some 69, none, .mov (.tmp 68)⟩,
  ⟨some 70, (some (69, true)), .mov (.tmp 11)⟩,
  ⟨some 71, none, .pick (.tmp 69) (.tmp 70) (.const (.bool false))⟩,
  ⟨some 72, none, .mov (.tmp 71)⟩,
  ⟨some 73, (some (72, true)), .mov (.tmp 14)⟩,
  ⟨some 74, (some (72, true)), .bin .eql (.tmp 73) (.const (.int .i64 1))⟩,
  ⟨some 75, none, .pick (.tmp 72) (.tmp 74) (.const (.bool false))⟩])
 (.cond (.tmp 75) k_slices_pdqsortCmpFunc_api_Fact_p5 .skip))
 k_slices_pdqsortCmpFunc_api_Fact_p14)
def k_slices_pdqsortCmpFunc_api_Fact_p16 : ACode := (.seq (.region [⟨some 48, none, .mov (.tmp 0)⟩,
  ⟨some 49, none, .mov (.tmp 1)⟩,
  ⟨some 50, none, .mov (.tmp 2)⟩,
  ⟨some 51, none, .mov (.tmp 4)⟩,
  ⟨some 52, none, .call (.const (.func (.func n_slices_choosePivotCmpFunc_api_Fact) [] [])) [(.tmp 48), (.tmp 49), (.tmp 50), (.tmp 51)]⟩,
  ⟨some 47, none, .mov (.tmp 52)⟩,
  ⟨some 53, none, .extract 0 (.tmp 47)⟩,
  ⟨some 54, none, .extract 1 (.tmp 47)⟩,
  ⟨some 13, none, .mov (.tmp 53)⟩,
  ⟨some 14, none, .mov (.tmp 54)⟩])
 (.seq (.seq (.region [⟨some 55, none, .mov (.tmp 14)⟩,
  ⟨some 56, none, .bin .eql (.tmp 55) (.const (.int .i64 2))⟩])
 (.cond (.tmp 56) k_slices_pdqsortCmpFunc_api_Fact_p4 .skip))
 k_slices_pdqsortCmpFunc_api_Fact_p15))
def k_slices_pdqsortCmpFunc_api_Fact_p17 : ACode := (.seq (.seq (.region [⟨some 31, none, .mov (.tmp 3)⟩,
  ⟨some 32, none, .bin .eql (.tmp 31) (.const (.int .i64 0))⟩])
 (.cond (.tmp 32) k_slices_pdqsortCmpFunc_api_Fact_p1 .skip))
 (.seq (.seq (.region [⟨some 38, none, .mov (.tmp 10)⟩,
  ⟨some 39, none, .un .not (.tmp 38)⟩])
 (.cond (.tmp 39) k_slices_pdqsortCmpFunc_api_Fact_p2 .skip))
 k_slices_pdqsortCmpFunc_api_Fact_p16))
def k_slices_pdqsortCmpFunc_api_Fact_p18 : ACode := (.seq (.region [⟨some 21, none, .mov (.tmp 2)⟩,
  ⟨some 22, none, .mov (.tmp 1)⟩,
  ⟨some 23, none, .bin .sub (.tmp 21) (.tmp 22)⟩,
  ⟨some 12, none, .mov (.tmp 23)⟩])
 (.seq (.seq (.region [⟨some 24, none, .mov (.tmp 12)⟩,
  ⟨some 25, none, .bin .leq (.tmp 24) (.const (.int .i64 12))⟩])
 (.cond (.tmp 25) k_slices_pdqsortCmpFunc_api_Fact_p0 .skip))
 k_slices_pdqsortCmpFunc_api_Fact_p17))
def k_slices_pdqsortCmpFunc_api_Fact_p19 : ACode := (.block 1 k_slices_pdqsortCmpFunc_api_Fact_p18)
def k_slices_pdqsortCmpFunc_api_Fact : AFun := ⟨148, [], (.seq (.region [⟨some 10, none, .mov (.const (.bool true))⟩])
 (.seq (.region [⟨some 11, none, .mov (.const (.bool true))⟩])
 (.block 0 (.loop k_slices_pdqsortCmpFunc_api_Fact_p19))))⟩
theorem c_slices_pdqsortCmpFunc_api_Fact : (XTab.of Tryz.prog).code 67 = some k_slices_pdqsortCmpFunc_api_Fact := by kernel_rfl
def k_math_bits_Len_p0 : ACode := (.seq (.region [⟨some 3, none, .mov (.tmp 0)⟩,
  ⟨some 4, none, .conv .u32 (.tmp 3)⟩,
  ⟨some 5, none, .call (.const (.func (.func n_math_bits_Len32) [] [])) [(.tmp 4)]⟩,
  ⟨some 2, none, .mov (.tmp 5)⟩])
 .ret)
def k_math_bits_Len : AFun := ⟨8, [.tmp 2], (.seq (.region [⟨some 2, none, .mov (.const (.int .i64 0))⟩])
 (.seq (.cond (.const (.bool false)) k_math_bits_Len_p0 .skip)
 (.seq (.region [⟨some 6, none, .mov (.tmp 0)⟩,
  ⟨some 7, none, .call (.const (.func (.func n_math_bits_Len64) [] [])) [(.tmp 6)]⟩,
  ⟨some 2, none, .mov (.tmp 7)⟩])
 .ret)))⟩
theorem c_math_bits_Len : (XTab.of Tryz.prog).code 68 = some k_math_bits_Len := by kernel_rfl
def k_value_Less_p0 : ACode := (.seq (.region [⟨some 18, none, .fieldAddr 2 (.tmp 2)⟩,
  ⟨some 19, none, .load 1 false (.tmp 18)⟩,
  ⟨some 20, none, .fieldAddr 2 (.tmp 3)⟩,
  ⟨some 21, none, .load 1 false (.tmp 20)⟩,
  ⟨some 22, none, .bin .lss (.tmp 19) (.tmp 21)⟩,
  ⟨some 4, none, .mov (.tmp 22)⟩])
 .ret)
def k_value_Less_p1 : ACode := (.seq (.region [⟨some 24, none, .mov (.tmp 5)⟩,
  ⟨some 25, none, .mov (.tmp 24)⟩,
  ⟨some 26, (some (25, false)), .mov (.tmp 6)⟩,
  ⟨some 27, none, .pick (.tmp 25) (.const (.bool true)) (.tmp 26)⟩,
  ⟨some 23, none, .mov (.tmp 27)⟩])
 (.cond (.tmp 23) (.seq (.region [⟨some 28, none, .mov (.tmp 5)⟩,
  ⟨some 4, none, .mov (.tmp 28)⟩])
 .ret) .skip))
def k_value_Less_p2 : ACode := (.seq (.region [⟨some 14, none, .mov (.tmp 5)⟩,
  ⟨some 15, none, .mov (.tmp 14)⟩,
  ⟨some 16, (some (15, true)), .mov (.tmp 6)⟩,
  ⟨some 17, none, .pick (.tmp 15) (.tmp 16) (.const (.bool false))⟩,
  ⟨some 13, none, .mov (.tmp 17)⟩])
 (.cond (.tmp 13) k_value_Less_p0 k_value_Less_p1))
def k_value_Less : AFun := ⟨34, [.tmp 4], (.seq (.region [⟨some 2, none, .box (.tmp 0)⟩,
  ⟨some 3, none, .box (.tmp 1)⟩,
  ⟨some 4, none, .mov (.const (.bool false))⟩])
 (.seq (.seq (.region [⟨some 7, none, .fieldAddr 0 (.tmp 2)⟩,
  ⟨some 8, none, .load 1 false (.tmp 7)⟩,
  ⟨some 9, none, .bin .eql (.tmp 8) (.const (.int .i64 3))⟩,
  ⟨some 10, none, .fieldAddr 0 (.tmp 3)⟩,
  ⟨some 11, none, .load 1 false (.tmp 10)⟩,
  ⟨some 12, none, .bin .eql (.tmp 11) (.const (.int .i64 3))⟩,
  ⟨some 5, none, .mov (.tmp 9)⟩,
  ⟨some 6, none, .mov (.tmp 12)⟩])
 (.block 0 k_value_Less_p2))
 (.seq (.region [⟨some 29, none, .fieldAddr 1 (.tmp 2)⟩,
  ⟨some 30, none, .load 1 false (.tmp 29)⟩,
  ⟨some 31, none, .fieldAddr 1 (.tmp 3)⟩,
  ⟨some 32, none, .load 1 false (.tmp 31)⟩,
  ⟨some 33, none, .bin .lss (.tmp 30) (.tmp 32)⟩,
  ⟨some 4, none, .mov (.tmp 33)⟩])
 .ret)))⟩
theorem c_value_Less : (XTab.of Tryz.prog).code 69 = some k_value_Less := by kernel_rfl
def k_history_Book_find_p0 : ACode := (.seq (.region [⟨some 7, none, .mov (.tmp 0)⟩,
  ⟨some 8, none, .nilCheck (.tmp 7)⟩,
  ⟨some 9, none, .fieldAddr 0 (.tmp 8)⟩,
  ⟨some 10, none, .load 1 false (.tmp 9)⟩,
  ⟨some 11, none, .mkFunc (.func n_history_Book_find_1) [] [(.tmp 4), (.tmp 5)]⟩,
  ⟨some 12, none, .call (.const (.func (.func n_slices_IndexFunc_api_Op_api_Op) [] [])) [(.tmp 10), (.tmp 11)]⟩,
  ⟨some 6, none, .mov (.tmp 12)⟩])
 .ret)
def k_history_Book_find : AFun := ⟨13, [.tmp 6], (.seq (.region [⟨some 4, none, .box (.tmp 1)⟩,
  ⟨some 5, none, .box (.tmp 2)⟩,
  ⟨some 6, none, .mov (.const (.int .i64 0))⟩])
 k_history_Book_find_p0)⟩
theorem c_history_Book_find : (XTab.of Tryz.prog).code 70 = some k_history_Book_find := by kernel_rfl
def k_slices_Clone_string_string_p0 : ACode := (.seq (.region [⟨some 2, none, .mov (.const .nilslice)⟩])
 .ret)
def k_slices_Clone_string_string_p1 : ACode := (.seq (.seq (.region [⟨some 3, none, .mov (.tmp 0)⟩,
  ⟨some 4, none, .eqv false .slice (.tmp 3) (.const .nilslice)⟩])
 (.cond (.tmp 4) k_slices_Clone_string_string_p0 .skip))
 (.seq (.region [⟨some 5, none, .buildSlice 0 [] []⟩,
  ⟨some 6, none, .mov (.tmp 0)⟩,
  ⟨some 7, none, .append 1 16 (.tmp 5) (.tmp 6)⟩,
  ⟨some 2, none, .mov (.tmp 7)⟩])
 .ret))
def k_slices_Clone_string_string : AFun := ⟨8, [.tmp 2], (.seq (.region [⟨some 2, none, .mov (.const .nilslice)⟩])
 k_slices_Clone_string_string_p1)⟩
theorem c_slices_Clone_string_string : (XTab.of Tryz.prog).code 71 = some k_slices_Clone_string_string := by kernel_rfl
def k_machine_New : AFun := ⟨2, [.tmp 0], (.seq (.region [⟨some 0, none, .mov (.const .nilptr)⟩])
 (.seq (.region [⟨some 1, none, .call (.const (.func (.func n_machine_Of) [] [])) [(.const .nilslice), (.const .nilslice)]⟩,
  ⟨some 0, none, .mov (.tmp 1)⟩])
 .ret))⟩
theorem c_machine_New : (XTab.of Tryz.prog).code 72 = some k_machine_New := by kernel_rfl
def k_history_same_p0 : ACode := (.seq (.region [⟨some 5, none, .fieldAddr 0 (.tmp 2)⟩,
  ⟨some 6, none, .load 1 false (.tmp 5)⟩,
  ⟨some 7, none, .fieldAddr 0 (.tmp 3)⟩,
  ⟨some 8, none, .load 1 false (.tmp 7)⟩,
  ⟨some 9, none, .bin .eql (.tmp 6) (.tmp 8)⟩,
  ⟨some 10, none, .mov (.tmp 9)⟩,
  ⟨some 11, (some (10, true)), .fieldAddr 1 (.tmp 2)⟩,
  ⟨some 12, (some (10, true)), .load 1 false (.tmp 11)⟩,
  ⟨some 13, (some (10, true)), .fieldAddr 1 (.tmp 3)⟩,
  ⟨some 14, (some (10, true)), .load 1 false (.tmp 13)⟩,
  ⟨some 15, (some (10, true)), .eqv false .bool (.tmp 12) (.tmp 14)⟩,
  ⟨some 16, none, .pick (.tmp 10) (.tmp 15) (.const (.bool false))⟩,
  ⟨some 17, none, .mov (.tmp 16)⟩,
  ⟨some 18, (some (17, true)), .fieldAddr 2 (.tmp 2)⟩,
  ⟨some 19, (some (17, true)), .load 1 false (.tmp 18)⟩,
  ⟨some 20, (some (17, true)), .fieldAddr 2 (.tmp 3)⟩,
  ⟨some 21, (some (17, true)), .load 1 false (.tmp 20)⟩,
  ⟨some 22, (some (17, true)), .call (.const (.func (.func n_slices_Equal_string_string) [] [])) [(.tmp 19), (.tmp 21)]⟩,
  ⟨some 23, none, .pick (.tmp 17) (.tmp 22) (.const (.bool false))⟩,
  ⟨some 4, none, .mov (.tmp 23)⟩])
 .ret)
def k_history_same : AFun := ⟨24, [.tmp 4], (.seq (.region [⟨some 2, none, .box (.tmp 0)⟩,
  ⟨some 3, none, .box (.tmp 1)⟩,
  ⟨some 4, none, .mov (.const (.bool false))⟩])
 k_history_same_p0)⟩
theorem c_history_same : (XTab.of Tryz.prog).code 73 = some k_history_same := by kernel_rfl
def k_machine_Machine_Ask_p0 : ACode := (.seq (.region [⟨some 9, none, .build [(.int .i64 0), (.bool false), .nilslice] [(0, 1, (.const (.int .i64 14)))]⟩,
  ⟨none, none, .store 3 (.tmp 4) (.tmp 9)⟩])
 .ret)
def k_machine_Machine_Ask_p1 : ACode := (.seq (.region [⟨some 11, none, .mov (.tmp 0)⟩,
  ⟨some 12, none, .nilCheck (.tmp 11)⟩,
  ⟨some 13, none, .fieldAddr 0 (.tmp 12)⟩,
  ⟨some 14, none, .load 1 false (.tmp 13)⟩,
  ⟨some 15, none, .mov (.tmp 1)⟩,
  ⟨some 16, none, .call (.const (.func (.func n_ask_Text) [] [])) [(.tmp 14), (.tmp 15)]⟩,
  ⟨some 10, none, .mov (.tmp 16)⟩,
  ⟨some 17, none, .extract 0 (.tmp 10)⟩,
  ⟨some 18, none, .extract 1 (.tmp 10)⟩,
  ⟨some 5, none, .mov (.tmp 17)⟩,
  ⟨some 6, none, .mov (.tmp 18)⟩])
 (.seq (.region [⟨some 19, none, .mov (.tmp 6)⟩,
  ⟨some 20, none, .mov (.tmp 5)⟩,
  ⟨some 21, none, .build [(.int .i64 0), (.bool false), .nilslice] [(0, 1, (.tmp 19)), (2, 1, (.tmp 20))]⟩,
  ⟨none, none, .store 3 (.tmp 4) (.tmp 21)⟩])
 .ret))
def k_machine_Machine_Ask : AFun := ⟨22, [.cell 4 3 true], (.seq (.region [⟨some 4, none, .alloc [(.int .i64 0), (.bool false), .nilslice]⟩])
 (.seq (.seq (.region [⟨some 7, none, .mov (.tmp 0)⟩,
  ⟨some 8, none, .eqv false .ptr (.tmp 7) (.const .nilptr)⟩])
 (.cond (.tmp 8) k_machine_Machine_Ask_p0 .skip))
 k_machine_Machine_Ask_p1))⟩
theorem c_machine_Machine_Ask : (XTab.of Tryz.prog).code 74 = some k_machine_Machine_Ask := by kernel_rfl
def k_machine_Machine_Apply_p0 : ACode := (.seq (.region [⟨some 48, none, .build [(.int .i64 0), (.bool false), .nilslice] [(0, 1, (.const (.int .i64 10)))]⟩,
  ⟨none, none, .store 3 (.tmp 4) (.tmp 48)⟩])
 .ret)
def k_machine_Machine_Apply_p1 : ACode := (.seq (.region [⟨some 27, none, .mov (.tmp 0)⟩,
  ⟨some 28, none, .fieldAddr 1 (.tmp 3)⟩,
  ⟨some 29, none, .load 1 false (.tmp 28)⟩,
  ⟨some 30, none, .nilCheck (.tmp 27)⟩,
  ⟨some 31, none, .fieldAddr 1 (.tmp 30)⟩,
  ⟨some 32, none, .indexArr 9 4 (.tmp 31) (.tmp 29)⟩,
  ⟨some 33, none, .fieldAddr 1 (.tmp 32)⟩,
  ⟨some 34, none, .load 3 true (.tmp 33)⟩,
  ⟨some 35, none, .call (.const (.func (.func n_machine_own) [] [])) [(.tmp 34)]⟩,
  ⟨none, none, .store 3 (.tmp 4) (.tmp 35)⟩])
 .ret)
def k_machine_Machine_Apply_p2 : ACode := (.seq (.region [⟨some 37, none, .fieldAddr 2 (.tmp 3)⟩,
  ⟨some 38, none, .load 1 false (.tmp 37)⟩,
  ⟨some 39, none, .mov (.tmp 0)⟩,
  ⟨some 40, none, .fieldAddr 1 (.tmp 3)⟩,
  ⟨some 41, none, .load 1 false (.tmp 40)⟩,
  ⟨some 42, none, .nilCheck (.tmp 39)⟩,
  ⟨some 43, none, .fieldAddr 1 (.tmp 42)⟩,
  ⟨some 44, none, .indexArr 9 4 (.tmp 43) (.tmp 41)⟩,
  ⟨some 45, none, .fieldAddr 0 (.tmp 44)⟩,
  ⟨some 46, none, .load 1 false (.tmp 45)⟩,
  ⟨some 47, none, .bin .lss (.tmp 38) (.tmp 46)⟩,
  ⟨some 36, none, .mov (.tmp 47)⟩])
 (.cond (.tmp 36) k_machine_Machine_Apply_p0 .skip))
def k_machine_Machine_Apply_p3 : ACode := (.seq (.region [⟨some 14, none, .build [(.int .i64 0), (.bool false), .nilslice] [(0, 1, (.const (.int .i64 3)))]⟩,
  ⟨none, none, .store 3 (.tmp 4) (.tmp 14)⟩])
 .ret)
def k_machine_Machine_Apply_p4 : ACode := (.seq (.region [⟨some 16, none, .fieldAddr 2 (.tmp 3)⟩,
  ⟨some 17, none, .load 1 false (.tmp 16)⟩,
  ⟨some 18, none, .mov (.tmp 0)⟩,
  ⟨some 19, none, .fieldAddr 1 (.tmp 3)⟩,
  ⟨some 20, none, .load 1 false (.tmp 19)⟩,
  ⟨some 21, none, .nilCheck (.tmp 18)⟩,
  ⟨some 22, none, .fieldAddr 1 (.tmp 21)⟩,
  ⟨some 23, none, .indexArr 9 4 (.tmp 22) (.tmp 20)⟩,
  ⟨some 24, none, .fieldAddr 0 (.tmp 23)⟩,
  ⟨some 25, none, .load 1 false (.tmp 24)⟩,
  ⟨some 26, none, .bin .eql (.tmp 17) (.tmp 25)⟩,
  ⟨some 15, none, .mov (.tmp 26)⟩])
 (.cond (.tmp 15) k_machine_Machine_Apply_p1 k_machine_Machine_Apply_p2))
def k_machine_Machine_Apply_p5 : ACode := (.seq (.region [⟨some 9, none, .build [(.int .i64 0), (.bool false), .nilslice] [(0, 1, (.const (.int .i64 14)))]⟩,
  ⟨none, none, .store 3 (.tmp 4) (.tmp 9)⟩])
 .ret)
def k_machine_Machine_Apply_p6 : ACode := (.seq (.region [⟨some 11, none, .load 4 true (.tmp 3)⟩,
  ⟨some 12, none, .call (.const (.func (.func n_command_May) [] [])) [(.tmp 11)]⟩,
  ⟨some 13, none, .un .not (.tmp 12)⟩,
  ⟨some 10, none, .mov (.tmp 13)⟩])
 (.cond (.tmp 10) k_machine_Machine_Apply_p3 k_machine_Machine_Apply_p4))
def k_machine_Machine_Apply_p7 : ACode := (.seq (.drawn [⟨⟨some 52, none, .mov (.tmp 0)⟩, false, [], []⟩,
  ⟨⟨some 53, none, .fieldAddr 1 (.tmp 3)⟩, false, [], []⟩,
  ⟨⟨some 54, none, .load 1 false (.tmp 53)⟩, false, [1], []⟩,
  ⟨⟨some 55, none, .fieldAddr 2 (.tmp 3)⟩, false, [], []⟩,
  ⟨⟨some 56, none, .load 1 false (.tmp 55)⟩, false, [3], []⟩,
  ⟨⟨some 57, none, .load 3 true (.tmp 5)⟩, false, [], []⟩,
  ⟨⟨some 58, none, .call (.const (.func (.func n_machine_own) [] [])) [(.tmp 57)]⟩, true, [5], []⟩,
  ⟨⟨some 59, none, .call (.const (.func (.func n_machine_Machine_Set) [] [])) [(.tmp 52), (.tmp 54), (.tmp 56), (.tmp 58)]⟩, true, [6, 5, 4, 3, 2, 1, 0], []⟩])
 (.seq (.region [⟨some 60, none, .load 3 true (.tmp 5)⟩,
  ⟨none, none, .store 3 (.tmp 4) (.tmp 60)⟩])
 .ret))
def k_machine_Machine_Apply_p8 : ACode := (.seq (.region [⟨some 49, none, .mov (.tmp 0)⟩,
  ⟨some 50, none, .load 4 true (.tmp 3)⟩,
  ⟨some 51, none, .call (.const (.func (.func n_machine_Machine_do) [] [])) [(.tmp 49), (.tmp 50)]⟩,
  ⟨some 5, none, .alloc [(.int .i64 0), (.bool false), .nilslice]⟩,
  ⟨none, none, .store 3 (.tmp 5) (.tmp 51)⟩])
 k_machine_Machine_Apply_p7)
def k_machine_Machine_Apply : AFun := ⟨61, [.cell 4 3 true], (.seq (.region [⟨some 3, none, .box (.tmp 1)⟩,
  ⟨some 4, none, .alloc [(.int .i64 0), (.bool false), .nilslice]⟩])
 (.seq (.block 0 (.seq (.region [⟨some 7, none, .mov (.tmp 0)⟩,
  ⟨some 8, none, .eqv false .ptr (.tmp 7) (.const .nilptr)⟩,
  ⟨some 6, none, .mov (.tmp 8)⟩])
 (.cond (.tmp 6) k_machine_Machine_Apply_p5 k_machine_Machine_Apply_p6)))
 k_machine_Machine_Apply_p8))⟩
theorem c_machine_Machine_Apply : (XTab.of Tryz.prog).code 75 = some k_machine_Machine_Apply := by kernel_rfl
def k_history_judge_fill_p0 : ACode := (.seq (.region [⟨some 4, none, .mov (.const (.bool false))⟩])
 .ret)
def k_history_judge_fill_p1 : ACode := (.region [⟨some 28, none, .mov (.tmp 0)⟩,
  ⟨some 29, none, .nilCheck (.tmp 28)⟩,
  ⟨some 30, none, .fieldAddr 2 (.tmp 29)⟩,
  ⟨some 31, none, .load 1 false (.tmp 30)⟩,
  ⟨some 32, none, .mov (.tmp 5)⟩,
  ⟨some 33, none, .mov (.tmp 1)⟩,
  ⟨some 34, none, .bin .add (.tmp 33) (.const (.int .i64 1))⟩,
  ⟨some 35, none, .indexAddr 1 (.tmp 31) (.tmp 32)⟩,
  ⟨none, none, .store 1 (.tmp 35) (.tmp 34)⟩])
def k_history_judge_fill_p2 : ACode := (.seq (.seq (.region [⟨some 17, none, .mov (.tmp 0)⟩,
  ⟨some 18, none, .nilCheck (.tmp 17)⟩,
  ⟨some 19, none, .fieldAddr 2 (.tmp 18)⟩,
  ⟨some 20, none, .load 1 false (.tmp 19)⟩,
  ⟨some 21, none, .mov (.tmp 5)⟩,
  ⟨some 22, none, .indexAddr 1 (.tmp 20) (.tmp 21)⟩,
  ⟨some 23, none, .load 1 false (.tmp 22)⟩,
  ⟨some 24, none, .bin .gtr (.tmp 23) (.const (.int .i64 0))⟩])
 (.cond (.tmp 24) (.exit 1) .skip))
 (.seq (.seq (.region [⟨some 25, none, .fieldAddr 5 (.tmp 6)⟩,
  ⟨some 26, none, .load 1 false (.tmp 25)⟩,
  ⟨some 27, none, .bin .gtr (.tmp 26) (.const (.int .i64 0))⟩])
 (.cond (.tmp 27) k_history_judge_fill_p0 .skip))
 k_history_judge_fill_p1))
def k_history_judge_fill_p3 : ACode := (.seq (.region [⟨some 14, none, .mov (.tmp 12)⟩,
  ⟨some 15, none, .indexAddr 9 (.tmp 10) (.tmp 12)⟩,
  ⟨some 16, none, .load 9 true (.tmp 15)⟩,
  ⟨some 6, none, .alloc [(.int .i64 0), (.int .i64 0), (.int .i64 0), (.str []), (.int .i64 0), (.int .i64 0), (.int .i64 0), (.bool false), .nilslice]⟩,
  ⟨some 5, none, .mov (.tmp 14)⟩,
  ⟨none, none, .store 9 (.tmp 6) (.tmp 16)⟩])
 k_history_judge_fill_p2)
def k_history_judge_fill_p4 : ACode := (.seq (.region [⟨some 13, none, .bin .lss (.tmp 12) (.tmp 11)⟩])
 (.seq (.cond (.tmp 13) .skip (.exit 0))
 (.seq (.block 1 k_history_judge_fill_p3)
 (.region [⟨some 36, none, .bin .add (.tmp 12) (.const (.int .i64 1))⟩,
  ⟨some 12, none, .mov (.tmp 36)⟩]))))
def k_history_judge_fill_p5 : ACode := (.seq (.seq (.region [⟨some 7, none, .mov (.tmp 0)⟩,
  ⟨some 8, none, .nilCheck (.tmp 7)⟩,
  ⟨some 9, none, .fieldAddr 0 (.tmp 8)⟩,
  ⟨some 10, none, .load 1 false (.tmp 9)⟩,
  ⟨some 11, none, .lenSl (.tmp 10)⟩,
  ⟨some 12, none, .mov (.const (.int .i64 0))⟩])
 (.block 0 (.loop k_history_judge_fill_p4)))
 (.seq (.region [⟨some 4, none, .mov (.const (.bool true))⟩])
 .ret))
def k_history_judge_fill : AFun := ⟨37, [.tmp 4], (.seq (.region [⟨some 4, none, .mov (.const (.bool false))⟩])
 k_history_judge_fill_p5)⟩
theorem c_history_judge_fill : (XTab.of Tryz.prog).code 76 = some k_history_judge_fill := by kernel_rfl
def k_slices_stableCmpFunc_int_p0 : ACode := (.seq (.region [⟨some 14, none, .mov (.tmp 0)⟩,
  ⟨some 15, none, .mov (.tmp 7)⟩,
  ⟨some 16, none, .mov (.tmp 8)⟩,
  ⟨some 17, none, .mov (.tmp 2)⟩,
  ⟨some 18, none, .call (.const (.func (.func n_slices_insertionSortCmpFunc_int) [] [])) [(.tmp 14), (.tmp 15), (.tmp 16), (.tmp 17)]⟩])
 (.seq (.region [⟨some 19, none, .mov (.tmp 8)⟩,
  ⟨some 7, none, .mov (.tmp 19)⟩])
 (.region [⟨some 20, none, .mov (.tmp 8)⟩,
  ⟨some 21, none, .mov (.tmp 6)⟩,
  ⟨some 22, none, .bin .add (.tmp 20) (.tmp 21)⟩,
  ⟨some 8, none, .mov (.tmp 22)⟩])))
def k_slices_stableCmpFunc_int_p1 : ACode := (.seq (.seq (.region [⟨some 11, none, .mov (.tmp 8)⟩,
  ⟨some 12, none, .mov (.tmp 1)⟩,
  ⟨some 13, none, .bin .leq (.tmp 11) (.tmp 12)⟩])
 (.cond (.tmp 13) .skip (.exit 0)))
 (.block 1 k_slices_stableCmpFunc_int_p0))
def k_slices_stableCmpFunc_int_p2 : ACode := (.seq (.region [⟨some 44, none, .mov (.tmp 8)⟩,
  ⟨some 7, none, .mov (.tmp 44)⟩])
 (.region [⟨some 45, none, .mov (.tmp 8)⟩,
  ⟨some 46, none, .mov (.tmp 6)⟩,
  ⟨some 47, none, .bin .mul (.const (.int .i64 2)) (.tmp 46)⟩,
  ⟨some 48, none, .bin .add (.tmp 45) (.tmp 47)⟩,
  ⟨some 8, none, .mov (.tmp 48)⟩]))
def k_slices_stableCmpFunc_int_p3 : ACode := (.seq (.region [⟨some 36, none, .mov (.tmp 0)⟩,
  ⟨some 37, none, .mov (.tmp 7)⟩,
  ⟨some 38, none, .mov (.tmp 7)⟩,
  ⟨some 39, none, .mov (.tmp 6)⟩,
  ⟨some 40, none, .bin .add (.tmp 38) (.tmp 39)⟩,
  ⟨some 41, none, .mov (.tmp 8)⟩,
  ⟨some 42, none, .mov (.tmp 2)⟩,
  ⟨some 43, none, .call (.const (.func (.func n_slices_symMergeCmpFunc_int) [] [])) [(.tmp 36), (.tmp 37), (.tmp 40), (.tmp 41), (.tmp 42)]⟩])
 k_slices_stableCmpFunc_int_p2)
def k_slices_stableCmpFunc_int_p4 : ACode := (.seq (.seq (.region [⟨some 33, none, .mov (.tmp 8)⟩,
  ⟨some 34, none, .mov (.tmp 1)⟩,
  ⟨some 35, none, .bin .leq (.tmp 33) (.tmp 34)⟩])
 (.cond (.tmp 35) .skip (.exit 4)))
 (.block 5 k_slices_stableCmpFunc_int_p3))
def k_slices_stableCmpFunc_int_p5 : ACode := (.region [⟨some 55, none, .mov (.tmp 0)⟩,
  ⟨some 56, none, .mov (.tmp 7)⟩,
  ⟨some 57, none, .mov (.tmp 9)⟩,
  ⟨some 58, none, .mov (.tmp 1)⟩,
  ⟨some 59, none, .mov (.tmp 2)⟩,
  ⟨some 60, none, .call (.const (.func (.func n_slices_symMergeCmpFunc_int) [] [])) [(.tmp 55), (.tmp 56), (.tmp 57), (.tmp 58), (.tmp 59)]⟩])
def k_slices_stableCmpFunc_int_p6 : ACode := (.seq (.seq (.region [⟨some 49, none, .mov (.tmp 7)⟩,
  ⟨some 50, none, .mov (.tmp 6)⟩,
  ⟨some 51, none, .bin .add (.tmp 49) (.tmp 50)⟩,
  ⟨some 9, none, .mov (.tmp 51)⟩])
 (.seq (.region [⟨some 52, none, .mov (.tmp 9)⟩,
  ⟨some 53, none, .mov (.tmp 1)⟩,
  ⟨some 54, none, .bin .lss (.tmp 52) (.tmp 53)⟩])
 (.cond (.tmp 54) k_slices_stableCmpFunc_int_p5 .skip)))
 (.region [⟨some 61, none, .mov (.tmp 6)⟩,
  ⟨some 62, none, .bin .mul (.tmp 61) (.const (.int .i64 2))⟩,
  ⟨some 6, none, .mov (.tmp 62)⟩]))
def k_slices_stableCmpFunc_int_p7 : ACode := (.seq (.seq (.region [⟨some 28, none, .mov (.tmp 6)⟩,
  ⟨some 29, none, .mov (.tmp 1)⟩,
  ⟨some 30, none, .bin .lss (.tmp 28) (.tmp 29)⟩])
 (.cond (.tmp 30) .skip (.exit 2)))
 (.block 3 (.seq (.region [⟨some 31, none, .mov (.tmp 6)⟩,
  ⟨some 32, none, .bin .mul (.const (.int .i64 2)) (.tmp 31)⟩,
  ⟨some 7, none, .mov (.const (.int .i64 0))⟩,
  ⟨some 8, none, .mov (.tmp 32)⟩])
 (.seq (.block 4 (.loop k_slices_stableCmpFunc_int_p4))
 k_slices_stableCmpFunc_int_p6))))
def k_slices_stableCmpFunc_int_p8 : ACode := (.seq (.region [⟨some 23, none, .mov (.tmp 0)⟩,
  ⟨some 24, none, .mov (.tmp 7)⟩,
  ⟨some 25, none, .mov (.tmp 1)⟩,
  ⟨some 26, none, .mov (.tmp 2)⟩,
  ⟨some 27, none, .call (.const (.func (.func n_slices_insertionSortCmpFunc_int) [] [])) [(.tmp 23), (.tmp 24), (.tmp 25), (.tmp 26)]⟩])
 (.block 2 (.loop k_slices_stableCmpFunc_int_p7)))
def k_slices_stableCmpFunc_int : AFun := ⟨63, [], (.seq (.region [⟨some 6, none, .mov (.const (.int .i64 20))⟩])
 (.seq (.region [⟨some 10, none, .mov (.tmp 6)⟩,
  ⟨some 7, none, .mov (.const (.int .i64 0))⟩,
  ⟨some 8, none, .mov (.tmp 10)⟩])
 (.seq (.block 0 (.loop k_slices_stableCmpFunc_int_p1))
 k_slices_stableCmpFunc_int_p8)))⟩
theorem c_slices_stableCmpFunc_int : (XTab.of Tryz.prog).code 77 = some k_slices_stableCmpFunc_int := by kernel_rfl
def k_slices_ContainsFunc_api_Op_api_Op_p0 : ACode := (.seq (.region [⟨some 5, none, .mov (.tmp 0)⟩,
  ⟨some 6, none, .mov (.tmp 1)⟩,
  ⟨some 7, none, .call (.const (.func (.func n_slices_IndexFunc_api_Op_api_Op) [] [])) [(.tmp 5), (.tmp 6)]⟩,
  ⟨some 8, none, .bin .geq (.tmp 7) (.const (.int .i64 0))⟩,
  ⟨some 4, none, .mov (.tmp 8)⟩])
 .ret)
def k_slices_ContainsFunc_api_Op_api_Op : AFun := ⟨9, [.tmp 4], (.seq (.region [⟨some 4, none, .mov (.const (.bool false))⟩])
 k_slices_ContainsFunc_api_Op_api_Op_p0)⟩
theorem c_slices_ContainsFunc_api_Op_api_Op : (XTab.of Tryz.prog).code 79 = some k_slices_ContainsFunc_api_Op_api_Op := by kernel_rfl
def k_history_some_1 : AFun := ⟨6, [.tmp 2], (.seq (.region [⟨some 1, none, .box (.tmp 0)⟩,
  ⟨some 2, none, .mov (.const (.bool false))⟩])
 (.seq (.region [⟨some 3, none, .fieldAddr 5 (.tmp 1)⟩,
  ⟨some 4, none, .load 1 false (.tmp 3)⟩,
  ⟨some 5, none, .bin .gtr (.tmp 4) (.const (.int .i64 0))⟩,
  ⟨some 2, none, .mov (.tmp 5)⟩])
 .ret))⟩
theorem c_history_some_1 : (XTab.of Tryz.prog).code 80 = some k_history_some_1 := by kernel_rfl
def k_history_some_2 : AFun := ⟨7, [.tmp 3], (.seq (.region [⟨some 2, none, .box (.tmp 0)⟩,
  ⟨some 3, none, .mov (.const (.bool false))⟩])
 (.seq (.region [⟨some 4, none, .load 9 true (.tmp 2)⟩,
  ⟨some 5, none, .load 9 true (.tmp 1)⟩,
  ⟨some 6, none, .call (.const (.func (.func n_history_ahead) [] [])) [(.tmp 4), (.tmp 5)]⟩,
  ⟨some 3, none, .mov (.tmp 6)⟩])
 .ret))⟩
theorem c_history_some_2 : (XTab.of Tryz.prog).code 81 = some k_history_some_2 := by kernel_rfl
def k_history_answer_p0 : ACode := (.region [⟨some 19, none, .mov (.tmp 5)⟩,
  ⟨some 20, none, .fieldAddr 0 (.tmp 7)⟩,
  ⟨some 21, none, .load 4 true (.tmp 20)⟩,
  ⟨some 22, none, .call (.const (.func (.func n_machine_Machine_Apply) [] [])) [(.tmp 19), (.tmp 21)]⟩])
def k_history_answer_p1 : ACode := (.seq (.region [⟨some 13, none, .indexAddr 9 (.tmp 9) (.tmp 11)⟩,
  ⟨some 14, none, .load 9 true (.tmp 13)⟩,
  ⟨some 7, none, .alloc [(.int .i64 0), (.int .i64 0), (.int .i64 0), (.str []), (.int .i64 0), (.int .i64 0), (.int .i64 0), (.bool false), .nilslice]⟩,
  ⟨none, none, .store 9 (.tmp 7) (.tmp 14)⟩])
 (.seq (.region [⟨some 15, none, .fieldAddr 0 (.tmp 7)⟩,
  ⟨some 16, none, .fieldAddr 0 (.tmp 15)⟩,
  ⟨some 17, none, .load 1 false (.tmp 16)⟩,
  ⟨some 18, none, .bin .neq (.tmp 17) (.const (.int .i64 4))⟩])
 (.cond (.tmp 18) k_history_answer_p0 .skip)))
def k_history_answer_p2 : ACode := (.seq (.region [⟨some 12, none, .bin .lss (.tmp 11) (.tmp 10)⟩])
 (.seq (.cond (.tmp 12) .skip (.exit 0))
 (.seq (.block 1 k_history_answer_p1)
 (.region [⟨some 23, none, .bin .add (.tmp 11) (.const (.int .i64 1))⟩,
  ⟨some 11, none, .mov (.tmp 23)⟩]))))
def k_history_answer_p3 : ACode := (.seq (.region [⟨some 28, none, .mov (.tmp 5)⟩,
  ⟨some 29, none, .fieldAddr 0 (.tmp 3)⟩,
  ⟨some 30, none, .fieldAddr 3 (.tmp 29)⟩,
  ⟨some 31, none, .load 1 false (.tmp 30)⟩,
  ⟨some 32, none, .call (.const (.func (.func n_machine_Machine_Ask) [] [])) [(.tmp 28), (.tmp 31)]⟩,
  ⟨none, none, .store 3 (.tmp 4) (.tmp 32)⟩])
 .ret)
def k_history_answer_p4 : ACode := (.seq (.region [⟨some 33, none, .mov (.tmp 5)⟩,
  ⟨some 34, none, .fieldAddr 0 (.tmp 3)⟩,
  ⟨some 35, none, .load 4 true (.tmp 34)⟩,
  ⟨some 36, none, .call (.const (.func (.func n_machine_Machine_Apply) [] [])) [(.tmp 33), (.tmp 35)]⟩,
  ⟨none, none, .store 3 (.tmp 4) (.tmp 36)⟩])
 .ret)
def k_history_answer_p5 : ACode := (.seq (.seq (.region [⟨some 24, none, .fieldAddr 0 (.tmp 3)⟩,
  ⟨some 25, none, .fieldAddr 0 (.tmp 24)⟩,
  ⟨some 26, none, .load 1 false (.tmp 25)⟩,
  ⟨some 27, none, .bin .eql (.tmp 26) (.const (.int .i64 4))⟩])
 (.cond (.tmp 27) k_history_answer_p3 .skip))
 k_history_answer_p4)
def k_history_answer_p6 : ACode := (.seq (.region [⟨some 8, none, .call (.const (.func (.func n_machine_New) [] [])) []⟩,
  ⟨some 5, none, .mov (.tmp 8)⟩])
 (.seq (.seq (.region [⟨some 9, none, .mov (.tmp 0)⟩,
  ⟨some 10, none, .lenSl (.tmp 9)⟩,
  ⟨some 11, none, .mov (.const (.int .i64 0))⟩])
 (.block 0 (.loop k_history_answer_p2)))
 k_history_answer_p5))
def k_history_answer : AFun := ⟨37, [.cell 4 3 true], (.seq (.region [⟨some 3, none, .box (.tmp 1)⟩,
  ⟨some 4, none, .alloc [(.int .i64 0), (.bool false), .nilslice]⟩])
 k_history_answer_p6)⟩
theorem c_history_answer : (XTab.of Tryz.prog).code 82 = some k_history_answer := by kernel_rfl
def k_slices_Clone_api_Op_api_Op_p0 : ACode := (.seq (.region [⟨some 2, none, .mov (.const .nilslice)⟩])
 .ret)
def k_slices_Clone_api_Op_api_Op_p1 : ACode := (.seq (.seq (.region [⟨some 3, none, .mov (.tmp 0)⟩,
  ⟨some 4, none, .eqv false .slice (.tmp 3) (.const .nilslice)⟩])
 (.cond (.tmp 4) k_slices_Clone_api_Op_api_Op_p0 .skip))
 (.seq (.region [⟨some 5, none, .buildSlice 0 [] []⟩,
  ⟨some 6, none, .mov (.tmp 0)⟩,
  ⟨some 7, none, .append 9 96 (.tmp 5) (.tmp 6)⟩,
  ⟨some 2, none, .mov (.tmp 7)⟩])
 .ret))
def k_slices_Clone_api_Op_api_Op : AFun := ⟨8, [.tmp 2], (.seq (.region [⟨some 2, none, .mov (.const .nilslice)⟩])
 k_slices_Clone_api_Op_api_Op_p1)⟩
theorem c_slices_Clone_api_Op_api_Op : (XTab.of Tryz.prog).code 83 = some k_slices_Clone_api_Op_api_Op := by kernel_rfl
end Go.Proofs.YtladocoibpljnaaGreatDoor
set_option maxRecDepth 100000
set_option linter.unusedVariables false
namespace Go.Proofs.YtladocoibpljnaaGreatDoor
open Go.AE
def k_slices_IndexFunc_api_Rule_api_Rule_p0 : ACode := (.seq (.region [⟨some 17, none, .mov (.tmp 5)⟩,
  ⟨some 4, none, .mov (.tmp 17)⟩])
 .ret)
def k_slices_IndexFunc_api_Rule_api_Rule_p1 : ACode := (.seq (.region [⟨some 11, none, .mov (.tmp 1)⟩,
  ⟨some 12, none, .mov (.tmp 0)⟩,
  ⟨some 13, none, .mov (.tmp 5)⟩,
  ⟨some 14, none, .indexAddr 4 (.tmp 12) (.tmp 13)⟩,
  ⟨some 15, none, .load 4 true (.tmp 14)⟩,
  ⟨some 16, none, .call (.tmp 11) [(.tmp 15)]⟩])
 (.cond (.tmp 16) k_slices_IndexFunc_api_Rule_api_Rule_p0 .skip))
def k_slices_IndexFunc_api_Rule_api_Rule_p2 : ACode := (.seq (.cond (.tmp 9) .skip (.exit 0))
 (.seq (.block 1 (.seq (.region [⟨some 10, none, .mov (.tmp 8)⟩,
  ⟨some 5, none, .mov (.tmp 10)⟩])
 k_slices_IndexFunc_api_Rule_api_Rule_p1))
 (.region [⟨some 18, none, .bin .add (.tmp 8) (.const (.int .i64 1))⟩,
  ⟨some 8, none, .mov (.tmp 18)⟩])))
def k_slices_IndexFunc_api_Rule_api_Rule_p3 : ACode := (.seq (.region [⟨some 9, none, .bin .lss (.tmp 8) (.tmp 7)⟩])
 k_slices_IndexFunc_api_Rule_api_Rule_p2)
def k_slices_IndexFunc_api_Rule_api_Rule : AFun := ⟨19, [.tmp 4], (.seq (.region [⟨some 4, none, .mov (.const (.int .i64 0))⟩])
 (.seq (.seq (.region [⟨some 6, none, .mov (.tmp 0)⟩,
  ⟨some 7, none, .lenSl (.tmp 6)⟩,
  ⟨some 8, none, .mov (.const (.int .i64 0))⟩])
 (.block 0 (.loop k_slices_IndexFunc_api_Rule_api_Rule_p3)))
 (.seq (.region [⟨some 4, none, .mov (.const (.int .i64 (-1)))⟩])
 .ret)))⟩
theorem c_slices_IndexFunc_api_Rule_api_Rule : (XTab.of Tryz.prog).code 87 = some k_slices_IndexFunc_api_Rule_api_Rule := by kernel_rfl
def k_slices_IndexFunc_api_Fact_api_Fact_p0 : ACode := (.seq (.region [⟨some 17, none, .mov (.tmp 5)⟩,
  ⟨some 4, none, .mov (.tmp 17)⟩])
 .ret)
def k_slices_IndexFunc_api_Fact_api_Fact_p1 : ACode := (.seq (.region [⟨some 11, none, .mov (.tmp 1)⟩,
  ⟨some 12, none, .mov (.tmp 0)⟩,
  ⟨some 13, none, .mov (.tmp 5)⟩,
  ⟨some 14, none, .indexAddr 2 (.tmp 12) (.tmp 13)⟩,
  ⟨some 15, none, .load 2 true (.tmp 14)⟩,
  ⟨some 16, none, .call (.tmp 11) [(.tmp 15)]⟩])
 (.cond (.tmp 16) k_slices_IndexFunc_api_Fact_api_Fact_p0 .skip))
def k_slices_IndexFunc_api_Fact_api_Fact_p2 : ACode := (.seq (.cond (.tmp 9) .skip (.exit 0))
 (.seq (.block 1 (.seq (.region [⟨some 10, none, .mov (.tmp 8)⟩,
  ⟨some 5, none, .mov (.tmp 10)⟩])
 k_slices_IndexFunc_api_Fact_api_Fact_p1))
 (.region [⟨some 18, none, .bin .add (.tmp 8) (.const (.int .i64 1))⟩,
  ⟨some 8, none, .mov (.tmp 18)⟩])))
def k_slices_IndexFunc_api_Fact_api_Fact_p3 : ACode := (.seq (.region [⟨some 9, none, .bin .lss (.tmp 8) (.tmp 7)⟩])
 k_slices_IndexFunc_api_Fact_api_Fact_p2)
def k_slices_IndexFunc_api_Fact_api_Fact : AFun := ⟨19, [.tmp 4], (.seq (.region [⟨some 4, none, .mov (.const (.int .i64 0))⟩])
 (.seq (.seq (.region [⟨some 6, none, .mov (.tmp 0)⟩,
  ⟨some 7, none, .lenSl (.tmp 6)⟩,
  ⟨some 8, none, .mov (.const (.int .i64 0))⟩])
 (.block 0 (.loop k_slices_IndexFunc_api_Fact_api_Fact_p3)))
 (.seq (.region [⟨some 4, none, .mov (.const (.int .i64 (-1)))⟩])
 .ret)))⟩
theorem c_slices_IndexFunc_api_Fact_api_Fact : (XTab.of Tryz.prog).code 91 = some k_slices_IndexFunc_api_Fact_api_Fact := by kernel_rfl
def k_value_Word_p0 : ACode := (.seq (.region [⟨some 10, none, .mov (.tmp 8)⟩,
  ⟨some 3, none, .mov (.tmp 10)⟩])
 (.seq (.region [⟨some 11, none, .mov (.tmp 0)⟩,
  ⟨some 12, none, .mov (.tmp 3)⟩,
  ⟨some 13, none, .indexStr (.tmp 11) (.tmp 12)⟩,
  ⟨some 4, none, .mov (.tmp 13)⟩])
 (.seq (.region [⟨some 14, none, .mov (.tmp 4)⟩,
  ⟨some 15, none, .bin .geq (.tmp 14) (.const (.int .u8 97))⟩,
  ⟨some 16, none, .mov (.tmp 15)⟩,
  ⟨some 17, (some (16, true)), .mov (.tmp 4)⟩,
  ⟨some 18, (some (16, true)), .bin .leq (.tmp 17) (.const (.int .u8 122))⟩,
  ⟨some 19, none, .pick (.tmp 16) (.tmp 18) (.const (.bool false))⟩,
  ⟨some 5, none, .mov (.tmp 19)⟩])
 (.seq (.region [⟨some 20, none, .mov (.tmp 5)⟩,
  ⟨some 21, none, .un .not (.tmp 20)⟩,
  ⟨some 22, none, .mov (.tmp 21)⟩,
  ⟨some 23, (some (22, true)), .mov (.tmp 3)⟩,
  ⟨some 24, (some (22, true)), .bin .eql (.tmp 23) (.const (.int .i64 0))⟩,
  ⟨some 25, (some (22, true)), .mov (.tmp 24)⟩,
  ⟨some 26, (some (25, false)), .mov (.tmp 4)⟩,
  ⟨some 27, (some (25, false)), .bin .lss (.tmp 26) (.const (.int .u8 48))⟩,
  ⟨some 28, (some (25, false)), .mov (.tmp 27)⟩,
  ⟨some 29, (some (28, false)), .mov (.tmp 4)⟩,
  ⟨some 30, (some (28, false)), .bin .gtr (.tmp 29) (.const (.int .u8 57))⟩,
  ⟨some 31, (some (25, false)), .pick (.tmp 28) (.const (.bool true)) (.tmp 30)⟩,
  ⟨some 32, (some (25, false)), .mov (.tmp 31)⟩,
  ⟨some 33, (some (32, true)), .mov (.tmp 4)⟩,
  ⟨some 34, (some (32, true)), .bin .neq (.tmp 33) (.const (.int .u8 95))⟩,
  ⟨some 35, (some (25, false)), .pick (.tmp 32) (.tmp 34) (.const (.bool false))⟩,
  ⟨some 36, (some (22, true)), .pick (.tmp 25) (.const (.bool true)) (.tmp 35)⟩,
  ⟨some 37, none, .pick (.tmp 22) (.tmp 36) (.const (.bool false))⟩])
 (.cond (.tmp 37) (.seq (.region [⟨some 2, none, .mov (.const (.bool false))⟩])
 .ret) .skip)))))
def k_value_Word_p1 : ACode := (.seq (.region [⟨some 9, none, .bin .lss (.tmp 8) (.tmp 7)⟩])
 (.seq (.cond (.tmp 9) .skip (.exit 0))
 (.seq (.block 1 k_value_Word_p0)
 (.region [⟨some 38, none, .bin .add (.tmp 8) (.const (.int .i64 1))⟩,
  ⟨some 8, none, .mov (.tmp 38)⟩]))))
def k_value_Word : AFun := ⟨46, [.tmp 2], (.seq (.region [⟨some 2, none, .mov (.const (.bool false))⟩])
 (.seq (.seq (.region [⟨some 6, none, .mov (.tmp 0)⟩,
  ⟨some 7, none, .lenStr (.tmp 6)⟩,
  ⟨some 8, none, .mov (.const (.int .i64 0))⟩])
 (.block 0 (.loop k_value_Word_p1)))
 (.seq (.region [⟨some 39, none, .mov (.tmp 0)⟩,
  ⟨some 40, none, .bin .neq (.tmp 39) (.const (.str []))⟩,
  ⟨some 41, none, .mov (.tmp 40)⟩,
  ⟨some 42, (some (41, true)), .mov (.tmp 0)⟩,
  ⟨some 43, (some (41, true)), .lenStr (.tmp 42)⟩,
  ⟨some 44, (some (41, true)), .bin .leq (.tmp 43) (.const (.int .i64 16))⟩,
  ⟨some 45, none, .pick (.tmp 41) (.tmp 44) (.const (.bool false))⟩,
  ⟨some 2, none, .mov (.tmp 45)⟩])
 .ret)))⟩
theorem c_value_Word : (XTab.of Tryz.prog).code 92 = some k_value_Word := by kernel_rfl
def k_slices_ContainsFunc_api_Term_api_Term_p0 : ACode := (.seq (.region [⟨some 5, none, .mov (.tmp 0)⟩,
  ⟨some 6, none, .mov (.tmp 1)⟩,
  ⟨some 7, none, .call (.const (.func (.func n_slices_IndexFunc_api_Term_api_Term) [] [])) [(.tmp 5), (.tmp 6)]⟩,
  ⟨some 8, none, .bin .geq (.tmp 7) (.const (.int .i64 0))⟩,
  ⟨some 4, none, .mov (.tmp 8)⟩])
 .ret)
def k_slices_ContainsFunc_api_Term_api_Term : AFun := ⟨9, [.tmp 4], (.seq (.region [⟨some 4, none, .mov (.const (.bool false))⟩])
 k_slices_ContainsFunc_api_Term_api_Term_p0)⟩
theorem c_slices_ContainsFunc_api_Term_api_Term : (XTab.of Tryz.prog).code 93 = some k_slices_ContainsFunc_api_Term_api_Term := by kernel_rfl
def k_model_Fact_1 : AFun := ⟨6, [.tmp 2], (.seq (.region [⟨some 1, none, .box (.tmp 0)⟩,
  ⟨some 2, none, .mov (.const (.bool false))⟩])
 (.seq (.region [⟨some 3, none, .load 3 true (.tmp 1)⟩,
  ⟨some 4, none, .call (.const (.func (.func n_value_May) [] [])) [(.tmp 3)]⟩,
  ⟨some 5, none, .un .not (.tmp 4)⟩,
  ⟨some 2, none, .mov (.tmp 5)⟩])
 .ret))⟩
theorem c_model_Fact_1 : (XTab.of Tryz.prog).code 94 = some k_model_Fact_1 := by kernel_rfl
def k_check_Arities_1_p0 : ACode := (.seq (.region [⟨some 14, none, .load 1 false (.tmp 3)⟩,
  ⟨some 15, none, .mov (.tmp 14)⟩,
  ⟨some 16, (some (15, true)), .mov (.tmp 7)⟩,
  ⟨some 17, (some (15, true)), .un .not (.tmp 16)⟩,
  ⟨some 18, (some (15, true)), .mov (.tmp 17)⟩,
  ⟨some 19, (some (18, false)), .mov (.tmp 6)⟩,
  ⟨some 20, (some (18, false)), .mov (.tmp 1)⟩,
  ⟨some 21, (some (18, false)), .bin .eql (.tmp 19) (.tmp 20)⟩,
  ⟨some 22, (some (15, true)), .pick (.tmp 18) (.const (.bool true)) (.tmp 21)⟩,
  ⟨some 23, none, .pick (.tmp 15) (.tmp 22) (.const (.bool false))⟩,
  ⟨none, none, .store 1 (.tmp 3) (.tmp 23)⟩])
 (.region [⟨some 24, none, .load 1 false (.tmp 2)⟩,
  ⟨some 25, none, .mov (.tmp 0)⟩,
  ⟨some 26, none, .mov (.tmp 1)⟩,
  ⟨none, none, .mapUpdate (.scalar .str) (.tmp 24) (.tmp 25) (.tmp 26)⟩]))
def k_check_Arities_1 : AFun := ⟨27, [], (.seq (.region [⟨some 9, none, .load 1 false (.tmp 2)⟩,
  ⟨some 10, none, .mov (.tmp 0)⟩,
  ⟨some 11, none, .lookup (.scalar .str) (.int .i64 0) true (.tmp 9) (.tmp 10)⟩,
  ⟨some 8, none, .mov (.tmp 11)⟩,
  ⟨some 12, none, .extract 0 (.tmp 8)⟩,
  ⟨some 13, none, .extract 1 (.tmp 8)⟩,
  ⟨some 6, none, .mov (.tmp 12)⟩,
  ⟨some 7, none, .mov (.tmp 13)⟩])
 k_check_Arities_1_p0)⟩
theorem c_check_Arities_1 : (XTab.of Tryz.prog).code 96 = some k_check_Arities_1 := by kernel_rfl
def k_strata_heads_p0 : ACode := (.region [⟨some 13, none, .mov (.tmp 3)⟩,
  ⟨some 14, none, .fieldAddr 0 (.tmp 5)⟩,
  ⟨some 15, none, .fieldAddr 1 (.tmp 14)⟩,
  ⟨some 16, none, .load 1 false (.tmp 15)⟩,
  ⟨none, none, .mapUpdate (.scalar .str) (.tmp 13) (.tmp 16) (.const (.int .i64 0))⟩])
def k_strata_heads_p1 : ACode := (.seq (.block 1 (.seq (.region [⟨some 11, none, .indexAddr 4 (.tmp 7) (.tmp 9)⟩,
  ⟨some 12, none, .load 4 true (.tmp 11)⟩,
  ⟨some 5, none, .alloc [(.int .i64 0), (.str []), .nilslice, .nilslice]⟩,
  ⟨none, none, .store 4 (.tmp 5) (.tmp 12)⟩])
 k_strata_heads_p0))
 (.region [⟨some 17, none, .bin .add (.tmp 9) (.const (.int .i64 1))⟩,
  ⟨some 9, none, .mov (.tmp 17)⟩]))
def k_strata_heads_p2 : ACode := (.seq (.region [⟨some 10, none, .bin .lss (.tmp 9) (.tmp 8)⟩])
 (.seq (.cond (.tmp 10) .skip (.exit 0))
 k_strata_heads_p1))
def k_strata_heads_p3 : ACode := (.seq (.seq (.region [⟨some 7, none, .mov (.tmp 0)⟩,
  ⟨some 8, none, .lenSl (.tmp 7)⟩,
  ⟨some 9, none, .mov (.const (.int .i64 0))⟩])
 (.block 0 (.loop k_strata_heads_p2)))
 (.seq (.region [⟨some 18, none, .mov (.tmp 3)⟩,
  ⟨some 2, none, .mov (.tmp 18)⟩])
 .ret))
def k_strata_heads : AFun := ⟨19, [.tmp 2], (.seq (.region [⟨some 2, none, .mov (.const .nilmap)⟩])
 (.seq (.region [⟨some 6, none, .mkMap⟩,
  ⟨some 3, none, .mov (.tmp 6)⟩])
 k_strata_heads_p3))⟩
theorem c_strata_heads : (XTab.of Tryz.prog).code 97 = some k_strata_heads := by kernel_rfl
def k_relation_Set_find : AFun := ⟨25, [.tmp 4, .tmp 5], (.seq (.region [⟨some 4, none, .mov (.const (.int .i64 0))⟩,
  ⟨some 5, none, .mov (.const (.bool false))⟩])
 (.seq (.seq (.region [⟨some 6, none, .mov (.tmp 0)⟩,
  ⟨some 7, none, .eqv false .ptr (.tmp 6) (.const .nilptr)⟩,
  ⟨some 8, none, .mov (.tmp 7)⟩,
  ⟨some 9, (some (8, false)), .mov (.tmp 1)⟩,
  ⟨some 10, (some (8, false)), .lenSl (.tmp 9)⟩,
  ⟨some 11, (some (8, false)), .mov (.tmp 0)⟩,
  ⟨some 12, (some (8, false)), .nilCheck (.tmp 11)⟩,
  ⟨some 13, (some (8, false)), .fieldAddr 0 (.tmp 12)⟩,
  ⟨some 14, (some (8, false)), .load 1 false (.tmp 13)⟩,
  ⟨some 15, (some (8, false)), .bin .neq (.tmp 10) (.tmp 14)⟩,
  ⟨some 16, none, .pick (.tmp 8) (.const (.bool true)) (.tmp 15)⟩])
 (.cond (.tmp 16) (.seq (.region [⟨some 4, none, .mov (.const (.int .i64 (-1)))⟩,
  ⟨some 5, none, .mov (.const (.bool false))⟩])
 .ret) .skip))
 (.seq (.region [⟨some 17, none, .mov (.tmp 0)⟩,
  ⟨some 18, none, .nilCheck (.tmp 17)⟩,
  ⟨some 19, none, .fieldAddr 1 (.tmp 18)⟩,
  ⟨some 20, none, .load 1 false (.tmp 19)⟩,
  ⟨some 21, none, .mov (.tmp 1)⟩,
  ⟨some 22, none, .call (.const (.func (.func n_slices_BinarySearchFunc_relation_Row_relation_Row_relation_Row) [] [])) [(.tmp 20), (.tmp 21), (.const (.func (.func n_relation_Set_find_1) [] []))]⟩,
  ⟨some 23, none, .extract 0 (.tmp 22)⟩,
  ⟨some 24, none, .extract 1 (.tmp 22)⟩,
  ⟨some 4, none, .mov (.tmp 23)⟩,
  ⟨some 5, none, .mov (.tmp 24)⟩])
 .ret)))⟩
theorem c_relation_Set_find : (XTab.of Tryz.prog).code 98 = some k_relation_Set_find := by kernel_rfl
def k_slices_Insert_relation_Row_relation_Row_p0 : ACode := (.seq (.region [⟨some 32, none, .mov (.tmp 0)⟩,
  ⟨some 33, none, .mov (.tmp 1)⟩,
  ⟨some 34, none, .slice 1 (.tmp 32) none (some (.tmp 33)) none⟩,
  ⟨some 35, none, .mov (.tmp 8)⟩,
  ⟨some 36, none, .mov (.tmp 7)⟩,
  ⟨some 37, none, .bin .add (.tmp 35) (.tmp 36)⟩,
  ⟨some 38, none, .mov (.tmp 1)⟩,
  ⟨some 39, none, .bin .sub (.tmp 37) (.tmp 38)⟩,
  ⟨some 40, none, .stuck⟩,
  ⟨some 9, none, .mov (.tmp 40)⟩])
 (.seq (.region [⟨some 41, none, .mov (.tmp 9)⟩,
  ⟨some 42, none, .mov (.tmp 1)⟩,
  ⟨some 43, none, .slice 1 (.tmp 41) (some (.tmp 42)) none none⟩,
  ⟨some 44, none, .mov (.tmp 2)⟩,
  ⟨some 45, none, .copy 1 (.tmp 43) (.tmp 44)⟩])
 (.seq (.region [⟨some 46, none, .mov (.tmp 9)⟩,
  ⟨some 47, none, .mov (.tmp 1)⟩,
  ⟨some 48, none, .mov (.tmp 7)⟩,
  ⟨some 49, none, .bin .add (.tmp 47) (.tmp 48)⟩,
  ⟨some 50, none, .slice 1 (.tmp 46) (some (.tmp 49)) none none⟩,
  ⟨some 51, none, .mov (.tmp 0)⟩,
  ⟨some 52, none, .mov (.tmp 1)⟩,
  ⟨some 53, none, .slice 1 (.tmp 51) (some (.tmp 52)) none none⟩,
  ⟨some 54, none, .copy 1 (.tmp 50) (.tmp 53)⟩])
 (.seq (.region [⟨some 55, none, .mov (.tmp 9)⟩,
  ⟨some 6, none, .mov (.tmp 55)⟩])
 .ret))))
def k_slices_Insert_relation_Row_relation_Row_p1 : ACode := (.seq (.region [⟨some 69, none, .mov (.tmp 0)⟩,
  ⟨some 70, none, .mov (.tmp 1)⟩,
  ⟨some 71, none, .mov (.tmp 7)⟩,
  ⟨some 72, none, .bin .add (.tmp 70) (.tmp 71)⟩,
  ⟨some 73, none, .slice 1 (.tmp 69) (some (.tmp 72)) none none⟩,
  ⟨some 74, none, .mov (.tmp 0)⟩,
  ⟨some 75, none, .mov (.tmp 1)⟩,
  ⟨some 76, none, .slice 1 (.tmp 74) (some (.tmp 75)) none none⟩,
  ⟨some 77, none, .copy 1 (.tmp 73) (.tmp 76)⟩])
 (.seq (.region [⟨some 78, none, .mov (.tmp 0)⟩,
  ⟨some 79, none, .mov (.tmp 1)⟩,
  ⟨some 80, none, .slice 1 (.tmp 78) (some (.tmp 79)) none none⟩,
  ⟨some 81, none, .mov (.tmp 2)⟩,
  ⟨some 82, none, .copy 1 (.tmp 80) (.tmp 81)⟩])
 (.seq (.region [⟨some 83, none, .mov (.tmp 0)⟩,
  ⟨some 6, none, .mov (.tmp 83)⟩])
 .ret)))
def k_slices_Insert_relation_Row_relation_Row : AFun := ⟨95, [.tmp 6], (.seq (.region [⟨some 6, none, .mov (.const .nilslice)⟩])
 (.seq (.region [⟨some 10, none, .mov (.tmp 0)⟩,
  ⟨some 11, none, .mov (.tmp 1)⟩,
  ⟨some 12, none, .slice 1 (.tmp 10) (some (.tmp 11)) none none⟩])
 (.seq (.region [⟨some 13, none, .mov (.tmp 2)⟩,
  ⟨some 14, none, .lenSl (.tmp 13)⟩,
  ⟨some 7, none, .mov (.tmp 14)⟩])
 (.seq (.seq (.region [⟨some 15, none, .mov (.tmp 7)⟩,
  ⟨some 16, none, .bin .eql (.tmp 15) (.const (.int .i64 0))⟩])
 (.cond (.tmp 16) (.seq (.region [⟨some 17, none, .mov (.tmp 0)⟩,
  ⟨some 6, none, .mov (.tmp 17)⟩])
 .ret) .skip))
 (.seq (.region [⟨some 18, none, .mov (.tmp 0)⟩,
  ⟨some 19, none, .lenSl (.tmp 18)⟩,
  ⟨some 8, none, .mov (.tmp 19)⟩])
 (.seq (.seq (.region [⟨some 20, none, .mov (.tmp 1)⟩,
  ⟨some 21, none, .mov (.tmp 8)⟩,
  ⟨some 22, none, .bin .eql (.tmp 20) (.tmp 21)⟩])
 (.cond (.tmp 22) (.seq (.region [⟨some 23, none, .mov (.tmp 0)⟩,
  ⟨some 24, none, .mov (.tmp 2)⟩,
  ⟨some 25, none, .append 1 24 (.tmp 23) (.tmp 24)⟩,
  ⟨some 6, none, .mov (.tmp 25)⟩])
 .ret) .skip))
 (.seq (.seq (.region [⟨some 26, none, .mov (.tmp 8)⟩,
  ⟨some 27, none, .mov (.tmp 7)⟩,
  ⟨some 28, none, .bin .add (.tmp 26) (.tmp 27)⟩,
  ⟨some 29, none, .mov (.tmp 0)⟩,
  ⟨some 30, none, .cap (.tmp 29)⟩,
  ⟨some 31, none, .bin .gtr (.tmp 28) (.tmp 30)⟩])
 (.cond (.tmp 31) k_slices_Insert_relation_Row_relation_Row_p0 .skip))
 (.seq (.region [⟨some 56, none, .mov (.tmp 0)⟩,
  ⟨some 57, none, .mov (.tmp 8)⟩,
  ⟨some 58, none, .mov (.tmp 7)⟩,
  ⟨some 59, none, .bin .add (.tmp 57) (.tmp 58)⟩,
  ⟨some 60, none, .slice 1 (.tmp 56) none (some (.tmp 59)) none⟩,
  ⟨some 0, none, .mov (.tmp 60)⟩])
 (.seq (.seq (.region [⟨some 61, none, .mov (.tmp 2)⟩,
  ⟨some 62, none, .mov (.tmp 0)⟩,
  ⟨some 63, none, .mov (.tmp 1)⟩,
  ⟨some 64, none, .mov (.tmp 7)⟩,
  ⟨some 65, none, .bin .add (.tmp 63) (.tmp 64)⟩,
  ⟨some 66, none, .slice 1 (.tmp 62) (some (.tmp 65)) none none⟩,
  ⟨some 67, none, .call (.const (.func (.func n_slices_overlaps_relation_Row) [] [])) [(.tmp 61), (.tmp 66)]⟩,
  ⟨some 68, none, .un .not (.tmp 67)⟩])
 (.cond (.tmp 68) k_slices_Insert_relation_Row_relation_Row_p1 .skip))
 (.seq (.region [⟨some 84, none, .mov (.tmp 0)⟩,
  ⟨some 85, none, .mov (.tmp 8)⟩,
  ⟨some 86, none, .slice 1 (.tmp 84) (some (.tmp 85)) none none⟩,
  ⟨some 87, none, .mov (.tmp 2)⟩,
  ⟨some 88, none, .copy 1 (.tmp 86) (.tmp 87)⟩])
 (.seq (.region [⟨some 89, none, .mov (.tmp 0)⟩,
  ⟨some 90, none, .mov (.tmp 1)⟩,
  ⟨some 91, none, .slice 1 (.tmp 89) (some (.tmp 90)) none none⟩,
  ⟨some 92, none, .mov (.tmp 7)⟩,
  ⟨some 93, none, .call (.const (.func (.func n_slices_rotateRight_relation_Row) [] [])) [(.tmp 91), (.tmp 92)]⟩])
 (.seq (.region [⟨some 94, none, .mov (.tmp 0)⟩,
  ⟨some 6, none, .mov (.tmp 94)⟩])
 .ret))))))))))))⟩
theorem c_slices_Insert_relation_Row_relation_Row : (XTab.of Tryz.prog).code 99 = some k_slices_Insert_relation_Row_relation_Row := by kernel_rfl
def k_slices_Clone_relation_Row_int : AFun := ⟨8, [.tmp 2], (.seq (.region [⟨some 2, none, .mov (.const .nilslice)⟩])
 (.seq (.seq (.region [⟨some 3, none, .mov (.tmp 0)⟩,
  ⟨some 4, none, .eqv false .slice (.tmp 3) (.const .nilslice)⟩])
 (.cond (.tmp 4) (.seq (.region [⟨some 2, none, .mov (.const .nilslice)⟩])
 .ret) .skip))
 (.seq (.region [⟨some 5, none, .buildSlice 0 [] []⟩,
  ⟨some 6, none, .mov (.tmp 0)⟩,
  ⟨some 7, none, .append 1 8 (.tmp 5) (.tmp 6)⟩,
  ⟨some 2, none, .mov (.tmp 7)⟩])
 .ret)))⟩
theorem c_slices_Clone_relation_Row_int : (XTab.of Tryz.prog).code 100 = some k_slices_Clone_relation_Row_int := by kernel_rfl
end Go.Proofs.YtladocoibpljnaaGreatDoor
set_option maxRecDepth 100000
set_option linter.unusedVariables false
namespace Go.Proofs.YtladocoibpljnaaGreatDoor
open Go.AE
def k_relation_fits_p0 : ACode := (.seq (.region [⟨some 11, none, .mov (.tmp 9)⟩,
  ⟨some 12, none, .indexAddr 1 (.tmp 7) (.tmp 9)⟩,
  ⟨some 13, none, .load 1 false (.tmp 12)⟩,
  ⟨some 5, none, .mov (.tmp 11)⟩,
  ⟨some 6, none, .mov (.tmp 13)⟩])
 (.seq (.region [⟨some 14, none, .mov (.tmp 6)⟩,
  ⟨some 15, none, .bin .gtr (.tmp 14) (.const (.int .i64 0))⟩,
  ⟨some 16, none, .mov (.tmp 15)⟩,
  ⟨some 17, (some (16, true)), .mov (.tmp 0)⟩,
  ⟨some 18, (some (16, true)), .mov (.tmp 5)⟩,
  ⟨some 19, (some (16, true)), .indexAddr 1 (.tmp 17) (.tmp 18)⟩,
  ⟨some 20, (some (16, true)), .load 1 false (.tmp 19)⟩,
  ⟨some 21, (some (16, true)), .mov (.tmp 6)⟩,
  ⟨some 22, (some (16, true)), .bin .neq (.tmp 20) (.tmp 21)⟩,
  ⟨some 23, none, .pick (.tmp 16) (.tmp 22) (.const (.bool false))⟩])
 (.cond (.tmp 23) (.seq (.region [⟨some 4, none, .mov (.const (.bool false))⟩])
 .ret) .skip)))
def k_relation_fits_p1 : ACode := (.seq (.region [⟨some 10, none, .bin .lss (.tmp 9) (.tmp 8)⟩])
 (.seq (.cond (.tmp 10) .skip (.exit 0))
 (.seq (.block 1 k_relation_fits_p0)
 (.region [⟨some 24, none, .bin .add (.tmp 9) (.const (.int .i64 1))⟩,
  ⟨some 9, none, .mov (.tmp 24)⟩]))))
def k_relation_fits : AFun := ⟨25, [.tmp 4], (.seq (.region [⟨some 4, none, .mov (.const (.bool false))⟩])
 (.seq (.seq (.region [⟨some 7, none, .mov (.tmp 1)⟩,
  ⟨some 8, none, .lenSl (.tmp 7)⟩,
  ⟨some 9, none, .mov (.const (.int .i64 0))⟩])
 (.block 0 (.loop k_relation_fits_p1)))
 (.seq (.region [⟨some 4, none, .mov (.const (.bool true))⟩])
 .ret)))⟩
theorem c_relation_fits : (XTab.of Tryz.prog).code 105 = some k_relation_fits := by kernel_rfl
def k_slices_insertionSortCmpFunc_api_Fact_p0 : ACode := (.region [⟨some 37, none, .mov (.tmp 0)⟩,
  ⟨some 38, none, .mov (.tmp 9)⟩,
  ⟨some 39, none, .mov (.tmp 0)⟩,
  ⟨some 40, none, .mov (.tmp 9)⟩,
  ⟨some 41, none, .bin .sub (.tmp 40) (.const (.int .i64 1))⟩,
  ⟨some 42, none, .mov (.tmp 0)⟩,
  ⟨some 43, none, .mov (.tmp 9)⟩,
  ⟨some 44, none, .bin .sub (.tmp 43) (.const (.int .i64 1))⟩,
  ⟨some 45, none, .indexAddr 2 (.tmp 42) (.tmp 44)⟩,
  ⟨some 46, none, .load 2 true (.tmp 45)⟩,
  ⟨some 47, none, .mov (.tmp 0)⟩,
  ⟨some 48, none, .mov (.tmp 9)⟩,
  ⟨some 49, none, .indexAddr 2 (.tmp 47) (.tmp 48)⟩,
  ⟨some 50, none, .load 2 true (.tmp 49)⟩,
  ⟨some 51, none, .indexAddr 2 (.tmp 37) (.tmp 38)⟩,
  ⟨none, none, .store 2 (.tmp 51) (.tmp 46)⟩,
  ⟨some 52, none, .indexAddr 2 (.tmp 39) (.tmp 41)⟩,
  ⟨none, none, .store 2 (.tmp 52) (.tmp 50)⟩])
def k_slices_insertionSortCmpFunc_api_Fact_p1 : ACode := (.seq (.seq (.region [⟨some 18, none, .mov (.tmp 9)⟩,
  ⟨some 19, none, .mov (.tmp 1)⟩,
  ⟨some 20, none, .bin .gtr (.tmp 18) (.tmp 19)⟩,
  ⟨some 21, none, .mov (.tmp 20)⟩,
  ⟨some 22, (some (21, true)), .mov (.tmp 3)⟩,
  ⟨some 23, (some (21, true)), .mov (.tmp 0)⟩,
  ⟨some 24, (some (21, true)), .mov (.tmp 9)⟩,
  ⟨some 25, (some (21, true)), .indexAddr 2 (.tmp 23) (.tmp 24)⟩,
  ⟨some 26, (some (21, true)), .load 2 true (.tmp 25)⟩,
  ⟨some 27, (some (21, true)), .mov (.tmp 0)⟩,
  ⟨some 28, (some (21, true)), .mov (.tmp 9)⟩,
  ⟨some 29, (some (21, true)), .bin .sub (.tmp 28) (.const (.int .i64 1))⟩,
  ⟨some 30, (some (21, true)), .indexAddr 2 (.tmp 27) (.tmp 29)⟩,
  ⟨some 31, (some (21, true)), .load 2 true (.tmp 30)⟩,
  ⟨some 32, (some (21, true)), .call (.tmp 22) [(.tmp 26), (.tmp 31)]⟩,
  ⟨some 33, (some (21, true)), .bin .lss (.tmp 32) (.const (.int .i64 0))⟩,
  ⟨some 34, none, .pick (.tmp 21) (.tmp 33) (.const (.bool false))⟩])
 (.cond (.tmp 34) .skip (.exit 2)))
 (.seq (.block 3 k_slices_insertionSortCmpFunc_api_Fact_p0)
 (.region [⟨some 35, none, .mov (.tmp 9)⟩,
  ⟨some 36, none, .bin .sub (.tmp 35) (.const (.int .i64 1))⟩,
  ⟨some 9, none, .mov (.tmp 36)⟩])))
def k_slices_insertionSortCmpFunc_api_Fact_p2 : ACode := (.seq (.block 1 (.seq (.region [⟨some 17, none, .mov (.tmp 8)⟩,
  ⟨some 9, none, .mov (.tmp 17)⟩])
 (.block 2 (.loop k_slices_insertionSortCmpFunc_api_Fact_p1))))
 (.region [⟨some 15, none, .mov (.tmp 8)⟩,
  ⟨some 16, none, .bin .add (.tmp 15) (.const (.int .i64 1))⟩,
  ⟨some 8, none, .mov (.tmp 16)⟩]))
def k_slices_insertionSortCmpFunc_api_Fact_p3 : ACode := (.seq (.seq (.region [⟨some 12, none, .mov (.tmp 8)⟩,
  ⟨some 13, none, .mov (.tmp 2)⟩,
  ⟨some 14, none, .bin .lss (.tmp 12) (.tmp 13)⟩])
 (.cond (.tmp 14) .skip (.exit 0)))
 k_slices_insertionSortCmpFunc_api_Fact_p2)
def k_slices_insertionSortCmpFunc_api_Fact : AFun := ⟨53, [], (.seq (.region [⟨some 10, none, .mov (.tmp 1)⟩,
  ⟨some 11, none, .bin .add (.tmp 10) (.const (.int .i64 1))⟩,
  ⟨some 8, none, .mov (.tmp 11)⟩])
 (.block 0 (.loop k_slices_insertionSortCmpFunc_api_Fact_p3)))⟩
theorem c_slices_insertionSortCmpFunc_api_Fact : (XTab.of Tryz.prog).code 106 = some k_slices_insertionSortCmpFunc_api_Fact := by kernel_rfl
def k_math_bits_Len64_p0 : ACode := (.seq (.region [⟨some 5, none, .mov (.tmp 0)⟩,
  ⟨some 6, none, .bin .shr (.tmp 5) (.const (.int .u64 32))⟩,
  ⟨some 0, none, .mov (.tmp 6)⟩])
 (.region [⟨some 2, none, .mov (.const (.int .i64 32))⟩]))
def k_math_bits_Len64_p1 : ACode := (.seq (.region [⟨some 9, none, .mov (.tmp 0)⟩,
  ⟨some 10, none, .bin .shr (.tmp 9) (.const (.int .u64 16))⟩,
  ⟨some 0, none, .mov (.tmp 10)⟩])
 (.region [⟨some 11, none, .mov (.tmp 2)⟩,
  ⟨some 12, none, .bin .add (.tmp 11) (.const (.int .i64 16))⟩,
  ⟨some 2, none, .mov (.tmp 12)⟩]))
def k_math_bits_Len64_p2 : ACode := (.seq (.region [⟨some 15, none, .mov (.tmp 0)⟩,
  ⟨some 16, none, .bin .shr (.tmp 15) (.const (.int .u64 8))⟩,
  ⟨some 0, none, .mov (.tmp 16)⟩])
 (.region [⟨some 17, none, .mov (.tmp 2)⟩,
  ⟨some 18, none, .bin .add (.tmp 17) (.const (.int .i64 8))⟩,
  ⟨some 2, none, .mov (.tmp 18)⟩]))
def k_math_bits_Len64_p3 : ACode := (.seq (.region [⟨some 19, none, .mov (.tmp 2)⟩,
  ⟨some 20, none, .mov (.tmp 0)⟩,
  ⟨some 21, none, .conv .u8 (.tmp 20)⟩,
  ⟨some 22, none, .indexStr (.const (.str [0, 1, 2, 2, 3, 3, 3, 3, 4, 4, 4, 4, 4, 4, 4, 4, 5, 5, 5, 5, 5, 5, 5, 5, 5, 5, 5, 5, 5, 5, 5, 5, 6, 6, 6, 6, 6, 6, 6, 6, 6, 6, 6, 6, 6, 6, 6, 6, 6, 6, 6, 6, 6, 6, 6, 6, 6, 6, 6, 6, 6, 6, 6, 6, 7, 7, 7, 7, 7, 7, 7, 7, 7, 7, 7, 7, 7, 7, 7, 7, 7, 7, 7, 7, 7, 7, 7, 7, 7, 7, 7, 7, 7, 7, 7, 7, 7, 7, 7, 7, 7, 7, 7, 7, 7, 7, 7, 7, 7, 7, 7, 7, 7, 7, 7, 7, 7, 7, 7, 7, 7, 7, 7, 7, 7, 7, 7, 7, 8, 8, 8, 8, 8, 8, 8, 8, 8, 8, 8, 8, 8, 8, 8, 8, 8, 8, 8, 8, 8, 8, 8, 8, 8, 8, 8, 8, 8, 8, 8, 8, 8, 8, 8, 8, 8, 8, 8, 8, 8, 8, 8, 8, 8, 8, 8, 8, 8, 8, 8, 8, 8, 8, 8, 8, 8, 8, 8, 8, 8, 8, 8, 8, 8, 8, 8, 8, 8, 8, 8, 8, 8, 8, 8, 8, 8, 8, 8, 8, 8, 8, 8, 8, 8, 8, 8, 8, 8, 8, 8, 8, 8, 8, 8, 8, 8, 8, 8, 8, 8, 8, 8, 8, 8, 8, 8, 8, 8, 8, 8, 8, 8, 8, 8, 8, 8, 8, 8, 8, 8, 8, 8, 8, 8, 8, 8, 8])) (.tmp 21)⟩,
  ⟨some 23, none, .conv .i64 (.tmp 22)⟩,
  ⟨some 24, none, .bin .add (.tmp 19) (.tmp 23)⟩,
  ⟨some 2, none, .mov (.tmp 24)⟩])
 .ret)
def k_math_bits_Len64_p4 : ACode := (.seq (.seq (.region [⟨some 7, none, .mov (.tmp 0)⟩,
  ⟨some 8, none, .bin .geq (.tmp 7) (.const (.int .u64 65536))⟩])
 (.cond (.tmp 8) k_math_bits_Len64_p1 .skip))
 (.seq (.seq (.region [⟨some 13, none, .mov (.tmp 0)⟩,
  ⟨some 14, none, .bin .geq (.tmp 13) (.const (.int .u64 256))⟩])
 (.cond (.tmp 14) k_math_bits_Len64_p2 .skip))
 k_math_bits_Len64_p3))
def k_math_bits_Len64 : AFun := ⟨25, [.tmp 2], (.seq (.region [⟨some 2, none, .mov (.const (.int .i64 0))⟩])
 (.seq (.seq (.region [⟨some 3, none, .mov (.tmp 0)⟩,
  ⟨some 4, none, .bin .geq (.tmp 3) (.const (.int .u64 4294967296))⟩])
 (.cond (.tmp 4) k_math_bits_Len64_p0 .skip))
 k_math_bits_Len64_p4))⟩
theorem c_math_bits_Len64 : (XTab.of Tryz.prog).code 115 = some k_math_bits_Len64 := by kernel_rfl
def k_slices_IndexFunc_api_Op_api_Op_p0 : ACode := (.seq (.region [⟨some 17, none, .mov (.tmp 5)⟩,
  ⟨some 4, none, .mov (.tmp 17)⟩])
 .ret)
def k_slices_IndexFunc_api_Op_api_Op_p1 : ACode := (.seq (.region [⟨some 11, none, .mov (.tmp 1)⟩,
  ⟨some 12, none, .mov (.tmp 0)⟩,
  ⟨some 13, none, .mov (.tmp 5)⟩,
  ⟨some 14, none, .indexAddr 9 (.tmp 12) (.tmp 13)⟩,
  ⟨some 15, none, .load 9 true (.tmp 14)⟩,
  ⟨some 16, none, .call (.tmp 11) [(.tmp 15)]⟩])
 (.cond (.tmp 16) k_slices_IndexFunc_api_Op_api_Op_p0 .skip))
def k_slices_IndexFunc_api_Op_api_Op_p2 : ACode := (.seq (.cond (.tmp 9) .skip (.exit 0))
 (.seq (.block 1 (.seq (.region [⟨some 10, none, .mov (.tmp 8)⟩,
  ⟨some 5, none, .mov (.tmp 10)⟩])
 k_slices_IndexFunc_api_Op_api_Op_p1))
 (.region [⟨some 18, none, .bin .add (.tmp 8) (.const (.int .i64 1))⟩,
  ⟨some 8, none, .mov (.tmp 18)⟩])))
def k_slices_IndexFunc_api_Op_api_Op_p3 : ACode := (.seq (.region [⟨some 9, none, .bin .lss (.tmp 8) (.tmp 7)⟩])
 k_slices_IndexFunc_api_Op_api_Op_p2)
def k_slices_IndexFunc_api_Op_api_Op : AFun := ⟨19, [.tmp 4], (.seq (.region [⟨some 4, none, .mov (.const (.int .i64 0))⟩])
 (.seq (.seq (.region [⟨some 6, none, .mov (.tmp 0)⟩,
  ⟨some 7, none, .lenSl (.tmp 6)⟩,
  ⟨some 8, none, .mov (.const (.int .i64 0))⟩])
 (.block 0 (.loop k_slices_IndexFunc_api_Op_api_Op_p3)))
 (.seq (.region [⟨some 4, none, .mov (.const (.int .i64 (-1)))⟩])
 .ret)))⟩
theorem c_slices_IndexFunc_api_Op_api_Op : (XTab.of Tryz.prog).code 116 = some k_slices_IndexFunc_api_Op_api_Op := by kernel_rfl
def k_history_Book_find_1_p0 : ACode := (.seq (.region [⟨some 5, none, .fieldAddr 0 (.tmp 3)⟩,
  ⟨some 6, none, .fieldAddr 1 (.tmp 5)⟩,
  ⟨some 7, none, .load 1 false (.tmp 6)⟩,
  ⟨some 8, none, .load 1 false (.tmp 1)⟩,
  ⟨some 9, none, .bin .eql (.tmp 7) (.tmp 8)⟩,
  ⟨some 10, none, .mov (.tmp 9)⟩,
  ⟨some 11, (some (10, true)), .fieldAddr 0 (.tmp 3)⟩,
  ⟨some 12, (some (10, true)), .fieldAddr 2 (.tmp 11)⟩,
  ⟨some 13, (some (10, true)), .load 1 false (.tmp 12)⟩,
  ⟨some 14, (some (10, true)), .load 1 false (.tmp 2)⟩,
  ⟨some 15, (some (10, true)), .bin .eql (.tmp 13) (.tmp 14)⟩,
  ⟨some 16, none, .pick (.tmp 10) (.tmp 15) (.const (.bool false))⟩,
  ⟨some 4, none, .mov (.tmp 16)⟩])
 .ret)
def k_history_Book_find_1 : AFun := ⟨17, [.tmp 4], (.seq (.region [⟨some 3, none, .box (.tmp 0)⟩,
  ⟨some 4, none, .mov (.const (.bool false))⟩])
 k_history_Book_find_1_p0)⟩
theorem c_history_Book_find_1 : (XTab.of Tryz.prog).code 117 = some k_history_Book_find_1 := by kernel_rfl
def k_machine_Of_p0 : ACode := (.seq (.region [⟨some 4, none, .mov (.const .nilptr)⟩])
 .ret)
def k_machine_Of_p1 : ACode := (.seq (.region [⟨some 15, none, .mov (.tmp 5)⟩,
  ⟨some 16, none, .build [.nilptr, (.int .i64 0), (.int .i64 0), (.bool false), .nilslice, (.int .i64 0), (.int .i64 0), (.bool false), .nilslice, (.int .i64 0), (.int .i64 0), (.bool false), .nilslice, (.int .i64 0), (.int .i64 0), (.bool false), .nilslice, (.int .i64 0), (.int .i64 0), (.bool false), .nilslice, (.int .i64 0), (.int .i64 0), (.bool false), .nilslice, (.int .i64 0), (.int .i64 0), (.bool false), .nilslice, (.int .i64 0), (.int .i64 0), (.bool false), .nilslice, (.int .i64 0), (.int .i64 0), (.bool false), .nilslice] [(0, 1, (.tmp 15))]⟩,
  ⟨some 17, none, .box (.tmp 16)⟩,
  ⟨some 4, none, .mov (.tmp 17)⟩])
 .ret)
def k_machine_Of_p2 : ACode := (.seq (.region [⟨some 8, none, .mov (.tmp 0)⟩,
  ⟨some 9, none, .mov (.tmp 1)⟩,
  ⟨some 10, none, .call (.const (.func (.func n_incr_New) [] [])) [(.tmp 8), (.tmp 9)]⟩,
  ⟨some 7, none, .mov (.tmp 10)⟩,
  ⟨some 11, none, .extract 0 (.tmp 7)⟩,
  ⟨some 12, none, .extract 1 (.tmp 7)⟩,
  ⟨some 5, none, .mov (.tmp 11)⟩,
  ⟨some 6, none, .mov (.tmp 12)⟩])
 (.seq (.seq (.region [⟨some 13, none, .mov (.tmp 6)⟩,
  ⟨some 14, none, .bin .neq (.tmp 13) (.const (.int .i64 0))⟩])
 (.cond (.tmp 14) k_machine_Of_p0 .skip))
 k_machine_Of_p1))
def k_machine_Of : AFun := ⟨18, [.tmp 4], (.seq (.region [⟨some 4, none, .mov (.const .nilptr)⟩])
 k_machine_Of_p2)⟩
theorem c_machine_Of : (XTab.of Tryz.prog).code 118 = some k_machine_Of := by kernel_rfl
def k_slices_Equal_string_string_p0 : ACode := (.seq (.region [⟨some 4, none, .mov (.const (.bool false))⟩])
 .ret)
def k_slices_Equal_string_string_p1 : ACode := (.seq (.region [⟨some 4, none, .mov (.const (.bool false))⟩])
 .ret)
def k_slices_Equal_string_string_p2 : ACode := (.seq (.region [⟨some 16, none, .mov (.tmp 0)⟩,
  ⟨some 17, none, .mov (.tmp 5)⟩,
  ⟨some 18, none, .indexAddr 1 (.tmp 16) (.tmp 17)⟩,
  ⟨some 19, none, .load 1 false (.tmp 18)⟩,
  ⟨some 20, none, .mov (.tmp 1)⟩,
  ⟨some 21, none, .mov (.tmp 5)⟩,
  ⟨some 22, none, .indexAddr 1 (.tmp 20) (.tmp 21)⟩,
  ⟨some 23, none, .load 1 false (.tmp 22)⟩,
  ⟨some 24, none, .bin .neq (.tmp 19) (.tmp 23)⟩])
 (.cond (.tmp 24) k_slices_Equal_string_string_p1 .skip))
def k_slices_Equal_string_string_p3 : ACode := (.seq (.cond (.tmp 14) .skip (.exit 0))
 (.seq (.block 1 (.seq (.region [⟨some 15, none, .mov (.tmp 13)⟩,
  ⟨some 5, none, .mov (.tmp 15)⟩])
 k_slices_Equal_string_string_p2))
 (.region [⟨some 25, none, .bin .add (.tmp 13) (.const (.int .i64 1))⟩,
  ⟨some 13, none, .mov (.tmp 25)⟩])))
def k_slices_Equal_string_string_p4 : ACode := (.seq (.region [⟨some 14, none, .bin .lss (.tmp 13) (.tmp 12)⟩])
 k_slices_Equal_string_string_p3)
def k_slices_Equal_string_string_p5 : ACode := (.seq (.seq (.region [⟨some 6, none, .mov (.tmp 0)⟩,
  ⟨some 7, none, .lenSl (.tmp 6)⟩,
  ⟨some 8, none, .mov (.tmp 1)⟩,
  ⟨some 9, none, .lenSl (.tmp 8)⟩,
  ⟨some 10, none, .bin .neq (.tmp 7) (.tmp 9)⟩])
 (.cond (.tmp 10) k_slices_Equal_string_string_p0 .skip))
 (.seq (.seq (.region [⟨some 11, none, .mov (.tmp 0)⟩,
  ⟨some 12, none, .lenSl (.tmp 11)⟩,
  ⟨some 13, none, .mov (.const (.int .i64 0))⟩])
 (.block 0 (.loop k_slices_Equal_string_string_p4)))
 (.seq (.region [⟨some 4, none, .mov (.const (.bool true))⟩])
 .ret)))
def k_slices_Equal_string_string : AFun := ⟨26, [.tmp 4], (.seq (.region [⟨some 4, none, .mov (.const (.bool false))⟩])
 k_slices_Equal_string_string_p5)⟩
theorem c_slices_Equal_string_string : (XTab.of Tryz.prog).code 119 = some k_slices_Equal_string_string := by kernel_rfl
def k_ask_Text_p0 : ACode := (.seq (.region [⟨some 15, none, .mov (.tmp 7)⟩,
  ⟨some 4, none, .mov (.const .nilslice)⟩,
  ⟨some 5, none, .mov (.tmp 15)⟩])
 .ret)
def k_ask_Text_p1 : ACode := (.seq (.region [⟨some 16, none, .mov (.tmp 0)⟩,
  ⟨some 17, none, .load 3 true (.tmp 6)⟩,
  ⟨some 18, none, .call (.const (.func (.func n_ask_Rows) [] [])) [(.tmp 16), (.tmp 17)]⟩,
  ⟨some 4, none, .mov (.tmp 18)⟩,
  ⟨some 5, none, .mov (.const (.int .i64 0))⟩])
 .ret)
def k_ask_Text_p2 : ACode := (.seq (.region [⟨some 9, none, .mov (.tmp 1)⟩,
  ⟨some 10, none, .call (.const (.func (.func n_syntax_Query) [] [])) [(.tmp 9)]⟩,
  ⟨some 8, none, .mov (.tmp 10)⟩,
  ⟨some 11, none, .extract 0 (.tmp 8)⟩,
  ⟨some 12, none, .extract 1 (.tmp 8)⟩,
  ⟨some 6, none, .alloc [(.int .i64 0), (.str []), .nilslice]⟩,
  ⟨none, none, .store 3 (.tmp 6) (.tmp 11)⟩,
  ⟨some 7, none, .mov (.tmp 12)⟩])
 (.seq (.seq (.region [⟨some 13, none, .mov (.tmp 7)⟩,
  ⟨some 14, none, .bin .neq (.tmp 13) (.const (.int .i64 0))⟩])
 (.cond (.tmp 14) k_ask_Text_p0 .skip))
 k_ask_Text_p1))
def k_ask_Text : AFun := ⟨19, [.tmp 4, .tmp 5], (.seq (.region [⟨some 4, none, .mov (.const .nilslice)⟩,
  ⟨some 5, none, .mov (.const (.int .i64 0))⟩])
 k_ask_Text_p2)⟩
theorem c_ask_Text : (XTab.of Tryz.prog).code 120 = some k_ask_Text := by kernel_rfl
def k_command_May_p0 : ACode := (.seq (.region [⟨some 3, none, .fieldAddr 0 (.tmp 1)⟩,
  ⟨some 4, none, .load 1 false (.tmp 3)⟩,
  ⟨some 5, none, .bin .geq (.tmp 4) (.const (.int .i64 1))⟩,
  ⟨some 6, none, .mov (.tmp 5)⟩,
  ⟨some 7, (some (6, true)), .fieldAddr 0 (.tmp 1)⟩,
  ⟨some 8, (some (6, true)), .load 1 false (.tmp 7)⟩,
  ⟨some 9, (some (6, true)), .bin .leq (.tmp 8) (.const (.int .i64 4))⟩,
  ⟨some 10, none, .pick (.tmp 6) (.tmp 9) (.const (.bool false))⟩,
  ⟨some 11, none, .mov (.tmp 10)⟩,
  ⟨some 12, (some (11, true)), .fieldAddr 1 (.tmp 1)⟩,
  ⟨some 13, (some (11, true)), .load 1 false (.tmp 12)⟩,
  ⟨some 14, (some (11, true)), .bin .geq (.tmp 13) (.const (.int .i64 1))⟩,
  ⟨some 15, none, .pick (.tmp 11) (.tmp 14) (.const (.bool false))⟩,
  ⟨some 16, none, .mov (.tmp 15)⟩,
  ⟨some 17, (some (16, true)), .fieldAddr 1 (.tmp 1)⟩,
  ⟨some 18, (some (16, true)), .load 1 false (.tmp 17)⟩,
  ⟨some 19, (some (16, true)), .bin .leq (.tmp 18) (.const (.int .i64 8))⟩,
  ⟨some 20, none, .pick (.tmp 16) (.tmp 19) (.const (.bool false))⟩,
  ⟨some 21, none, .mov (.tmp 20)⟩,
  ⟨some 22, (some (21, true)), .fieldAddr 2 (.tmp 1)⟩,
  ⟨some 23, (some (21, true)), .load 1 false (.tmp 22)⟩,
  ⟨some 24, (some (21, true)), .bin .geq (.tmp 23) (.const (.int .i64 1))⟩,
  ⟨some 25, none, .pick (.tmp 21) (.tmp 24) (.const (.bool false))⟩,
  ⟨some 26, none, .mov (.tmp 25)⟩,
  ⟨some 27, (some (26, true)), .fieldAddr 2 (.tmp 1)⟩,
  ⟨some 28, (some (26, true)), .load 1 false (.tmp 27)⟩,
  ⟨some 29, (some (26, true)), .bin .leq (.tmp 28) (.const (.int .i64 1099511627776))⟩,
  ⟨some 30, none, .pick (.tmp 26) (.tmp 29) (.const (.bool false))⟩,
  ⟨some 31, none, .mov (.tmp 30)⟩,
  ⟨some 32, (some (31, true)), .fieldAddr 3 (.tmp 1)⟩,
  ⟨some 33, (some (31, true)), .load 1 false (.tmp 32)⟩,
  ⟨some 34, (some (31, true)), .lenStr (.tmp 33)⟩,
  ⟨some 35, (some (31, true)), .bin .leq (.tmp 34) (.const (.int .i64 4000))⟩,
  ⟨some 36, none, .pick (.tmp 31) (.tmp 35) (.const (.bool false))⟩,
  ⟨some 2, none, .mov (.tmp 36)⟩])
 .ret)
def k_command_May : AFun := ⟨37, [.tmp 2], (.seq (.region [⟨some 1, none, .box (.tmp 0)⟩,
  ⟨some 2, none, .mov (.const (.bool false))⟩])
 k_command_May_p0)⟩
theorem c_command_May : (XTab.of Tryz.prog).code 121 = some k_command_May := by kernel_rfl
end Go.Proofs.YtladocoibpljnaaGreatDoor
