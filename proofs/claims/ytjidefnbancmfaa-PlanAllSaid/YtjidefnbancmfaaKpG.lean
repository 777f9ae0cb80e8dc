/- A part of the proof: C4, C5, CC, W1. -/
import Derived.Test.YtjidefnbancmfaaRows
import Derived.Test.YtjidefnbancmfaaKpE
import Derived.Test.YtjidefnbancmfaaKpF
set_option maxRecDepth 100000
set_option linter.unusedVariables false
namespace Go.Proofs.Ytjidefnbancmfaa
open Go.AE
/-! (*delphi/plan.work).take -/
def k_plan_work_take_p0 : ACode := (.region [⟨some 60, none, .mov (.tmp 0)⟩,
  ⟨some 61, none, .mov (.tmp 0)⟩,
  ⟨some 62, none, .nilCheck (.tmp 61)⟩,
  ⟨some 63, none, .fieldAddr 3 (.tmp 62)⟩,
  ⟨some 64, none, .fieldAddr 1 (.tmp 63)⟩,
  ⟨some 65, none, .load 1 false (.tmp 64)⟩,
  ⟨some 66, none, .mov (.tmp 5)⟩,
  ⟨some 67, none, .buildSlice 1 [(.str [])] [(0, 1, (.tmp 66))]⟩,
  ⟨some 68, none, .append 1 16 (.tmp 65) (.tmp 67)⟩,
  ⟨some 69, none, .nilCheck (.tmp 60)⟩,
  ⟨some 70, none, .fieldAddr 3 (.tmp 69)⟩,
  ⟨some 71, none, .fieldAddr 1 (.tmp 70)⟩,
  ⟨none, none, .store 1 (.tmp 71) (.tmp 68)⟩])
def k_plan_work_take_p1 : ACode := (.seq (.region [⟨some 53, none, .mov (.tmp 0)⟩,
  ⟨some 54, none, .nilCheck (.tmp 53)⟩,
  ⟨some 55, none, .fieldAddr 1 (.tmp 54)⟩,
  ⟨some 56, none, .load 1 false (.tmp 55)⟩,
  ⟨some 57, none, .mov (.tmp 5)⟩,
  ⟨some 58, none, .lookup (.scalar .str) (.int .i64 0) false (.tmp 56) (.tmp 57)⟩,
  ⟨some 59, none, .bin .eql (.tmp 58) (.const (.int .i64 1))⟩])
 (.cond (.tmp 59) k_plan_work_take_p0 .skip))
def k_plan_work_take_p2 : ACode := (.seq (.region [⟨some 46, none, .mov (.tmp 0)⟩,
  ⟨some 47, none, .nilCheck (.tmp 46)⟩,
  ⟨some 48, none, .fieldAddr 1 (.tmp 47)⟩,
  ⟨some 49, none, .load 1 false (.tmp 48)⟩,
  ⟨some 50, none, .mov (.tmp 5)⟩,
  ⟨some 51, none, .lookup (.scalar .str) (.int .i64 0) false (.tmp 49) (.tmp 50)⟩,
  ⟨some 52, none, .bin .add (.tmp 51) (.const (.int .i64 1))⟩,
  ⟨none, none, .mapUpdate (.scalar .str) (.tmp 49) (.tmp 50) (.tmp 52)⟩])
 k_plan_work_take_p1)
def k_plan_work_take_p3 : ACode := (.seq (.block 1 (.seq (.region [⟨some 44, none, .indexAddr 1 (.tmp 40) (.tmp 42)⟩,
  ⟨some 45, none, .load 1 false (.tmp 44)⟩,
  ⟨some 5, none, .mov (.tmp 45)⟩])
 k_plan_work_take_p2))
 (.region [⟨some 72, none, .bin .add (.tmp 42) (.const (.int .i64 1))⟩,
  ⟨some 42, none, .mov (.tmp 72)⟩]))
def k_plan_work_take_p4 : ACode := (.seq (.region [⟨some 43, none, .bin .lss (.tmp 42) (.tmp 41)⟩])
 (.seq (.cond (.tmp 43) .skip (.exit 0))
 k_plan_work_take_p3))
def k_plan_work_take_p5 : ACode := (.seq (.region [⟨some 32, none, .mov (.tmp 0)⟩,
  ⟨some 33, none, .nilCheck (.tmp 32)⟩,
  ⟨some 34, none, .fieldAddr 0 (.tmp 33)⟩,
  ⟨some 35, none, .load 1 false (.tmp 34)⟩,
  ⟨some 36, none, .mov (.tmp 1)⟩,
  ⟨some 37, none, .indexAddr 3 (.tmp 35) (.tmp 36)⟩,
  ⟨some 38, none, .fieldAddr 2 (.tmp 37)⟩,
  ⟨some 39, none, .load 1 false (.tmp 38)⟩,
  ⟨some 40, none, .call (.const (.func (.func n_check_Vars) [] [])) [(.tmp 39)]⟩,
  ⟨some 41, none, .lenSl (.tmp 40)⟩,
  ⟨some 42, none, .mov (.const (.int .i64 0))⟩])
 (.block 0 (.loop k_plan_work_take_p4)))
def k_plan_work_take_p6 : ACode := (.seq (.seq (.region [⟨some 23, none, .mov (.tmp 0)⟩,
  ⟨some 24, none, .nilCheck (.tmp 23)⟩,
  ⟨some 25, none, .fieldAddr 0 (.tmp 24)⟩,
  ⟨some 26, none, .load 1 false (.tmp 25)⟩,
  ⟨some 27, none, .mov (.tmp 1)⟩,
  ⟨some 28, none, .indexAddr 3 (.tmp 26) (.tmp 27)⟩,
  ⟨some 29, none, .fieldAddr 0 (.tmp 28)⟩,
  ⟨some 30, none, .load 1 false (.tmp 29)⟩,
  ⟨some 31, none, .bin .neq (.tmp 30) (.const (.int .i64 1))⟩])
 (.cond (.tmp 31) .ret .skip))
 k_plan_work_take_p5)
def k_plan_work_take_p7 : ACode := (.seq (.region [⟨some 11, none, .mov (.tmp 0)⟩,
  ⟨some 12, none, .mov (.tmp 0)⟩,
  ⟨some 13, none, .nilCheck (.tmp 12)⟩,
  ⟨some 14, none, .fieldAddr 3 (.tmp 13)⟩,
  ⟨some 15, none, .fieldAddr 0 (.tmp 14)⟩,
  ⟨some 16, none, .load 1 false (.tmp 15)⟩,
  ⟨some 17, none, .mov (.tmp 1)⟩,
  ⟨some 18, none, .buildSlice 1 [(.int .i64 0)] [(0, 1, (.tmp 17))]⟩,
  ⟨some 19, none, .append 1 8 (.tmp 16) (.tmp 18)⟩,
  ⟨some 20, none, .nilCheck (.tmp 11)⟩,
  ⟨some 21, none, .fieldAddr 3 (.tmp 20)⟩,
  ⟨some 22, none, .fieldAddr 0 (.tmp 21)⟩,
  ⟨none, none, .store 1 (.tmp 22) (.tmp 19)⟩])
 k_plan_work_take_p6)
def k_plan_work_take : AFun := ⟨73, [], (.seq (.region [⟨some 6, none, .mov (.tmp 0)⟩,
  ⟨some 7, none, .nilCheck (.tmp 6)⟩,
  ⟨some 8, none, .fieldAddr 2 (.tmp 7)⟩,
  ⟨some 9, none, .load 1 false (.tmp 8)⟩,
  ⟨some 10, none, .mov (.tmp 1)⟩,
  ⟨none, none, .mapUpdate (.scalar .int) (.tmp 9) (.tmp 10) (.const (.int .i64 1))⟩])
 k_plan_work_take_p7)⟩
theorem c_plan_work_take : (XTab.of Try.prog).code 49 = some k_plan_work_take := by kernel_rfl

/-! (*delphi/plan.work).best -/
def k_plan_work_best_p0 : ACode := (.region [⟨some 48, none, .mov (.tmp 3)⟩,
  ⟨some 49, none, .mkIface 122 (.tmp 48)⟩,
  ⟨some 50, none, .mov (.tmp 4)⟩,
  ⟨some 51, none, .mov (.tmp 7)⟩,
  ⟨some 52, none, .mov (.tmp 6)⟩,
  ⟨some 53, none, .build [(.int .i64 0), (.bool false), (.int .i64 0)] [(0, 1, (.tmp 50)), (1, 1, (.tmp 51)), (2, 1, (.tmp 52))]⟩,
  ⟨some 54, none, .mkIface 128 (.tmp 53)⟩,
  ⟨some 55, none, .call (.const (.func (.func n_heap_Push) [] [])) [(.tmp 49), (.tmp 54)]⟩])
def k_plan_work_best_p1 : ACode := (.seq (.seq (.region [⟨some 28, none, .mov (.tmp 0)⟩,
  ⟨some 29, none, .nilCheck (.tmp 28)⟩,
  ⟨some 30, none, .fieldAddr 2 (.tmp 29)⟩,
  ⟨some 31, none, .load 1 false (.tmp 30)⟩,
  ⟨some 32, none, .mov (.tmp 4)⟩,
  ⟨some 33, none, .lookup (.scalar .int) (.int .i64 0) false (.tmp 31) (.tmp 32)⟩,
  ⟨some 34, none, .bin .gtr (.tmp 33) (.const (.int .i64 0))⟩,
  ⟨some 35, none, .mov (.tmp 34)⟩,
  ⟨some 36, (some (35, false)), .mov (.tmp 7)⟩,
  ⟨some 37, (some (35, false)), .un .not (.tmp 36)⟩,
  ⟨some 38, (some (35, false)), .mov (.tmp 37)⟩,
  ⟨some 39, (some (38, true)), .mov (.tmp 6)⟩,
  ⟨some 40, (some (38, true)), .fieldAddr 2 (.tmp 5)⟩,
  ⟨some 41, (some (38, true)), .load 1 false (.tmp 40)⟩,
  ⟨some 42, (some (38, true)), .lenSl (.tmp 41)⟩,
  ⟨some 43, (some (38, true)), .bin .lss (.tmp 39) (.tmp 42)⟩,
  ⟨some 44, (some (35, false)), .pick (.tmp 38) (.tmp 43) (.const (.bool false))⟩,
  ⟨some 45, none, .pick (.tmp 35) (.const (.bool true)) (.tmp 44)⟩])
 (.cond (.tmp 45) (.exit 1) .skip))
 (.seq (.seq (.region [⟨some 46, none, .mov (.tmp 7)⟩,
  ⟨some 47, none, .un .not (.tmp 46)⟩])
 (.cond (.tmp 47) (.region [⟨some 6, none, .mov (.const (.int .i64 0))⟩]) .skip))
 k_plan_work_best_p0))
def k_plan_work_best_p2 : ACode := (.seq (.region [⟨some 22, none, .mov (.tmp 0)⟩,
  ⟨some 23, none, .load 3 true (.tmp 5)⟩,
  ⟨some 24, none, .call (.const (.func (.func n_plan_work_count) [] [])) [(.tmp 22), (.tmp 23)]⟩,
  ⟨some 6, none, .mov (.tmp 24)⟩])
 (.seq (.region [⟨some 25, none, .fieldAddr 0 (.tmp 5)⟩,
  ⟨some 26, none, .load 1 false (.tmp 25)⟩,
  ⟨some 27, none, .bin .eql (.tmp 26) (.const (.int .i64 1))⟩,
  ⟨some 7, none, .mov (.tmp 27)⟩])
 k_plan_work_best_p1))
def k_plan_work_best_p3 : ACode := (.seq (.region [⟨some 19, none, .mov (.tmp 17)⟩,
  ⟨some 20, none, .indexAddr 3 (.tmp 15) (.tmp 17)⟩,
  ⟨some 21, none, .load 3 true (.tmp 20)⟩,
  ⟨some 5, none, .alloc [(.int .i64 0), (.str []), .nilslice]⟩,
  ⟨some 4, none, .mov (.tmp 19)⟩,
  ⟨none, none, .store 3 (.tmp 5) (.tmp 21)⟩])
 k_plan_work_best_p2)
def k_plan_work_best_p4 : ACode := (.seq (.region [⟨some 18, none, .bin .lss (.tmp 17) (.tmp 16)⟩])
 (.seq (.cond (.tmp 18) .skip (.exit 0))
 (.seq (.block 1 k_plan_work_best_p3)
 (.region [⟨some 56, none, .bin .add (.tmp 17) (.const (.int .i64 1))⟩,
  ⟨some 17, none, .mov (.tmp 56)⟩]))))
def k_plan_work_best_p5 : ACode := (.seq (.region [⟨some 58, none, .mov (.tmp 3)⟩,
  ⟨some 59, none, .mkIface 122 (.tmp 58)⟩,
  ⟨some 60, none, .call (.const (.func (.func n_heap_Pop) [] [])) [(.tmp 59)]⟩,
  ⟨some 61, none, .typeAssert 128 (.agg [(.int .i64 0), (.bool false), (.int .i64 0)]) true (.tmp 60)⟩,
  ⟨some 57, none, .mov (.tmp 61)⟩,
  ⟨some 62, none, .extract 0 (.tmp 57)⟩,
  ⟨some 63, none, .extract 1 (.tmp 57)⟩,
  ⟨some 8, none, .alloc [(.int .i64 0), (.bool false), (.int .i64 0)]⟩,
  ⟨none, none, .store 3 (.tmp 8) (.tmp 62)⟩,
  ⟨some 9, none, .mov (.tmp 63)⟩])
 (.seq (.region [⟨some 64, none, .fieldAddr 0 (.tmp 8)⟩,
  ⟨some 65, none, .load 1 false (.tmp 64)⟩,
  ⟨some 2, none, .mov (.tmp 65)⟩])
 .ret))
def k_plan_work_best_p6 : ACode := (.seq (.seq (.region [⟨some 12, none, .mov (.tmp 0)⟩,
  ⟨some 13, none, .nilCheck (.tmp 12)⟩,
  ⟨some 14, none, .fieldAddr 0 (.tmp 13)⟩,
  ⟨some 15, none, .load 1 false (.tmp 14)⟩,
  ⟨some 16, none, .lenSl (.tmp 15)⟩,
  ⟨some 17, none, .mov (.const (.int .i64 0))⟩])
 (.block 0 (.loop k_plan_work_best_p4)))
 k_plan_work_best_p5)
def k_plan_work_best : AFun := ⟨66, [.tmp 2], (.seq (.region [⟨some 2, none, .mov (.const (.int .i64 0))⟩])
 (.seq (.region [⟨some 10, none, .buildSlice 0 [] []⟩,
  ⟨some 11, none, .box (.tmp 10)⟩,
  ⟨some 3, none, .mov (.tmp 11)⟩])
 k_plan_work_best_p6))⟩
theorem c_plan_work_best : (XTab.of Try.prog).code 50 = some k_plan_work_best := by kernel_rfl

/-! delphi/delphiref8.vars -/
def k_ref8_vars_p0 : ACode := (.region [⟨some 37, none, .mov (.tmp 5)⟩,
  ⟨some 38, none, .fieldAddr 1 (.tmp 7)⟩,
  ⟨some 39, none, .load 1 false (.tmp 38)⟩,
  ⟨some 40, none, .buildSlice 1 [(.str [])] [(0, 1, (.tmp 39))]⟩,
  ⟨some 41, none, .append 1 16 (.tmp 37) (.tmp 40)⟩,
  ⟨some 5, none, .mov (.tmp 41)⟩])
def k_ref8_vars_p1 : ACode := (.seq (.region [⟨some 20, none, .fieldAddr 0 (.tmp 7)⟩,
  ⟨some 21, none, .load 1 false (.tmp 20)⟩,
  ⟨some 22, none, .bin .eql (.tmp 21) (.const (.int .i64 1))⟩,
  ⟨some 23, none, .mov (.tmp 22)⟩,
  ⟨some 24, (some (23, true)), .mov (.tmp 1)⟩,
  ⟨some 25, (some (23, true)), .fieldAddr 1 (.tmp 7)⟩,
  ⟨some 26, (some (23, true)), .load 1 false (.tmp 25)⟩,
  ⟨some 27, (some (23, true)), .call (.const (.func (.func n_ref8_place) [] [])) [(.tmp 24), (.tmp 26)]⟩,
  ⟨some 28, (some (23, true)), .bin .lss (.tmp 27) (.const (.int .i64 0))⟩,
  ⟨some 29, none, .pick (.tmp 23) (.tmp 28) (.const (.bool false))⟩,
  ⟨some 30, none, .mov (.tmp 29)⟩,
  ⟨some 31, (some (30, true)), .mov (.tmp 5)⟩,
  ⟨some 32, (some (30, true)), .fieldAddr 1 (.tmp 7)⟩,
  ⟨some 33, (some (30, true)), .load 1 false (.tmp 32)⟩,
  ⟨some 34, (some (30, true)), .call (.const (.func (.func n_ref8_place) [] [])) [(.tmp 31), (.tmp 33)]⟩,
  ⟨some 35, (some (30, true)), .bin .lss (.tmp 34) (.const (.int .i64 0))⟩,
  ⟨some 36, none, .pick (.tmp 30) (.tmp 35) (.const (.bool false))⟩])
 (.cond (.tmp 36) k_ref8_vars_p0 .skip))
def k_ref8_vars_p2 : ACode := (.seq (.region [⟨some 15, none, .fieldAddr 2 (.tmp 2)⟩,
  ⟨some 16, none, .load 1 false (.tmp 15)⟩,
  ⟨some 17, none, .mov (.tmp 6)⟩,
  ⟨some 18, none, .indexAddr 3 (.tmp 16) (.tmp 17)⟩,
  ⟨some 19, none, .load 3 true (.tmp 18)⟩,
  ⟨some 7, none, .alloc [(.int .i64 0), (.str []), (.int .i64 0)]⟩,
  ⟨none, none, .store 3 (.tmp 7) (.tmp 19)⟩])
 k_ref8_vars_p1)
def k_ref8_vars_p3 : ACode := (.seq (.seq (.region [⟨some 8, none, .mov (.tmp 6)⟩,
  ⟨some 9, none, .fieldAddr 2 (.tmp 2)⟩,
  ⟨some 10, none, .load 1 false (.tmp 9)⟩,
  ⟨some 11, none, .lenSl (.tmp 10)⟩,
  ⟨some 12, none, .bin .lss (.tmp 8) (.tmp 11)⟩])
 (.cond (.tmp 12) .skip (.exit 0)))
 (.seq (.block 1 k_ref8_vars_p2)
 (.region [⟨some 13, none, .mov (.tmp 6)⟩,
  ⟨some 14, none, .bin .add (.tmp 13) (.const (.int .i64 1))⟩,
  ⟨some 6, none, .mov (.tmp 14)⟩])))
def k_ref8_vars : AFun := ⟨43, [.tmp 4], (.seq (.region [⟨some 2, none, .box (.tmp 0)⟩,
  ⟨some 4, none, .mov (.const .nilslice)⟩])
 (.seq (.region [⟨some 5, none, .mov (.const .nilslice)⟩])
 (.seq (.seq (.region [⟨some 6, none, .mov (.const (.int .i64 0))⟩])
 (.block 0 (.loop k_ref8_vars_p3)))
 (.seq (.region [⟨some 42, none, .mov (.tmp 5)⟩,
  ⟨some 4, none, .mov (.tmp 42)⟩])
 .ret))))⟩
theorem c_ref8_vars : (XTab.of Try.prog).code 51 = some k_ref8_vars := by kernel_rfl

/-! delphi/delphiref8.bound -/
def k_ref8_bound_p0 : ACode := (.region [⟨some 32, none, .mov (.tmp 5)⟩,
  ⟨some 33, none, .bin .add (.tmp 32) (.const (.int .i64 1))⟩,
  ⟨some 5, none, .mov (.tmp 33)⟩])
def k_ref8_bound_p1 : ACode := (.seq (.region [⟨some 14, none, .fieldAddr 2 (.tmp 2)⟩,
  ⟨some 15, none, .load 1 false (.tmp 14)⟩,
  ⟨some 16, none, .mov (.tmp 6)⟩,
  ⟨some 17, none, .indexAddr 3 (.tmp 15) (.tmp 16)⟩,
  ⟨some 18, none, .fieldAddr 0 (.tmp 17)⟩,
  ⟨some 19, none, .load 1 false (.tmp 18)⟩,
  ⟨some 20, none, .bin .neq (.tmp 19) (.const (.int .i64 1))⟩,
  ⟨some 21, none, .mov (.tmp 20)⟩,
  ⟨some 22, (some (21, false)), .mov (.tmp 1)⟩,
  ⟨some 23, (some (21, false)), .fieldAddr 2 (.tmp 2)⟩,
  ⟨some 24, (some (21, false)), .load 1 false (.tmp 23)⟩,
  ⟨some 25, (some (21, false)), .mov (.tmp 6)⟩,
  ⟨some 26, (some (21, false)), .indexAddr 3 (.tmp 24) (.tmp 25)⟩,
  ⟨some 27, (some (21, false)), .fieldAddr 1 (.tmp 26)⟩,
  ⟨some 28, (some (21, false)), .load 1 false (.tmp 27)⟩,
  ⟨some 29, (some (21, false)), .call (.const (.func (.func n_ref8_place) [] [])) [(.tmp 22), (.tmp 28)]⟩,
  ⟨some 30, (some (21, false)), .bin .geq (.tmp 29) (.const (.int .i64 0))⟩,
  ⟨some 31, none, .pick (.tmp 21) (.const (.bool true)) (.tmp 30)⟩])
 (.cond (.tmp 31) k_ref8_bound_p0 .skip))
def k_ref8_bound_p2 : ACode := (.seq (.seq (.region [⟨some 7, none, .mov (.tmp 6)⟩,
  ⟨some 8, none, .fieldAddr 2 (.tmp 2)⟩,
  ⟨some 9, none, .load 1 false (.tmp 8)⟩,
  ⟨some 10, none, .lenSl (.tmp 9)⟩,
  ⟨some 11, none, .bin .lss (.tmp 7) (.tmp 10)⟩])
 (.cond (.tmp 11) .skip (.exit 0)))
 (.seq (.block 1 k_ref8_bound_p1)
 (.region [⟨some 12, none, .mov (.tmp 6)⟩,
  ⟨some 13, none, .bin .add (.tmp 12) (.const (.int .i64 1))⟩,
  ⟨some 6, none, .mov (.tmp 13)⟩])))
def k_ref8_bound : AFun := ⟨35, [.tmp 4], (.seq (.region [⟨some 2, none, .box (.tmp 0)⟩,
  ⟨some 4, none, .mov (.const (.int .i64 0))⟩])
 (.seq (.region [⟨some 5, none, .mov (.const (.int .i64 0))⟩])
 (.seq (.seq (.region [⟨some 6, none, .mov (.const (.int .i64 0))⟩])
 (.block 0 (.loop k_ref8_bound_p2)))
 (.seq (.region [⟨some 34, none, .mov (.tmp 5)⟩,
  ⟨some 4, none, .mov (.tmp 34)⟩])
 .ret))))⟩
theorem c_ref8_bound : (XTab.of Try.prog).code 52 = some k_ref8_bound := by kernel_rfl

/-! (*delphi/relation.Set).find -/

/-! slices.Insert[[]delphi/relation.Row,delphi/relation.Row] -/
/-! slices.Clone[delphi/relation.Row,int] -/

/-! slices.Delete[[]delphi/relation.Row,delphi/relation.Row] -/

/-! delphi/relation.fits -/
/-! (*delphi/delphiref8.P).atom -/
def k_ref8_P_atom_p0 : ACode := (.seq (.region [⟨some 36, none, .mov (.tmp 0)⟩,
  ⟨some 37, none, .call (.const (.func (.func n_ref8_P_bad) [] [])) [(.tmp 36), (.const (.int .i64 4))]⟩])
 (.seq (.region [⟨some 38, none, .build [(.int .i64 0), (.str []), .nilslice] []⟩,
  ⟨none, none, .store 3 (.tmp 2) (.tmp 38)⟩])
 .ret))
def k_ref8_P_atom_p1 : ACode := (.seq (.region [⟨some 74, none, .mov (.tmp 0)⟩,
  ⟨some 75, none, .call (.const (.func (.func n_ref8_P_term) [] [])) [(.tmp 74)]⟩,
  ⟨some 4, none, .alloc [(.int .i64 0), (.str []), (.int .i64 0)]⟩,
  ⟨none, none, .store 3 (.tmp 4) (.tmp 75)⟩])
 (.seq (.seq (.region [⟨some 76, none, .mov (.tmp 0)⟩,
  ⟨some 77, none, .nilCheck (.tmp 76)⟩,
  ⟨some 78, none, .fieldAddr 2 (.tmp 77)⟩,
  ⟨some 79, none, .load 1 false (.tmp 78)⟩,
  ⟨some 80, none, .bin .eql (.tmp 79) (.const (.int .i64 0))⟩,
  ⟨some 81, none, .mov (.tmp 80)⟩,
  ⟨some 82, (some (81, true)), .fieldAddr 2 (.tmp 3)⟩,
  ⟨some 83, (some (81, true)), .load 1 false (.tmp 82)⟩,
  ⟨some 84, (some (81, true)), .lenSl (.tmp 83)⟩,
  ⟨some 85, (some (81, true)), .bin .eql (.tmp 84) (.const (.int .i64 4))⟩,
  ⟨some 86, none, .pick (.tmp 81) (.tmp 85) (.const (.bool false))⟩])
 (.cond (.tmp 86) (.region [⟨some 87, none, .mov (.tmp 0)⟩,
  ⟨some 88, none, .call (.const (.func (.func n_ref8_P_bad) [] [])) [(.tmp 87), (.const (.int .i64 8))]⟩]) .skip))
 (.seq (.region [⟨some 89, none, .fieldAddr 2 (.tmp 3)⟩,
  ⟨some 90, none, .load 1 false (.tmp 89)⟩,
  ⟨some 91, none, .load 3 true (.tmp 4)⟩,
  ⟨some 92, none, .buildSlice 1 [(.int .i64 0), (.str []), (.int .i64 0)] [(0, 3, (.tmp 91))]⟩,
  ⟨some 93, none, .append 3 32 (.tmp 90) (.tmp 92)⟩,
  ⟨some 94, none, .fieldAddr 2 (.tmp 3)⟩,
  ⟨none, none, .store 1 (.tmp 94) (.tmp 93)⟩])
 (.seq (.seq (.region [⟨some 95, none, .mov (.tmp 0)⟩,
  ⟨some 96, none, .call (.const (.func (.func n_ref8_P_sign) [] [])) [(.tmp 95), (.const (.str [44]))]⟩,
  ⟨some 97, none, .un .not (.tmp 96)⟩])
 (.cond (.tmp 97) (.exit 0) .skip))
 (.region [⟨some 98, none, .mov (.tmp 0)⟩,
  ⟨some 99, none, .nilCheck (.tmp 98)⟩,
  ⟨some 100, none, .fieldAddr 1 (.tmp 99)⟩,
  ⟨some 101, none, .load 1 false (.tmp 100)⟩,
  ⟨some 102, none, .bin .add (.tmp 101) (.const (.int .i64 1))⟩,
  ⟨some 103, none, .nilCheck (.tmp 98)⟩,
  ⟨some 104, none, .fieldAddr 1 (.tmp 103)⟩,
  ⟨none, none, .store 1 (.tmp 104) (.tmp 102)⟩])))))
def k_ref8_P_atom_p2 : ACode := (.seq (.seq (.region [⟨some 69, none, .mov (.tmp 0)⟩,
  ⟨some 70, none, .nilCheck (.tmp 69)⟩,
  ⟨some 71, none, .fieldAddr 2 (.tmp 70)⟩,
  ⟨some 72, none, .load 1 false (.tmp 71)⟩,
  ⟨some 73, none, .bin .eql (.tmp 72) (.const (.int .i64 0))⟩])
 (.cond (.tmp 73) .skip (.exit 0)))
 (.block 1 k_ref8_P_atom_p1))
def k_ref8_P_atom : AFun := ⟨108, [.cell 2 3 true], (.seq (.region [⟨some 2, none, .alloc [(.int .i64 0), (.str []), .nilslice]⟩])
 (.seq (.seq (.region [⟨some 5, none, .mov (.tmp 0)⟩,
  ⟨some 6, none, .nilCheck (.tmp 5)⟩,
  ⟨some 7, none, .fieldAddr 2 (.tmp 6)⟩,
  ⟨some 8, none, .load 1 false (.tmp 7)⟩,
  ⟨some 9, none, .bin .neq (.tmp 8) (.const (.int .i64 0))⟩,
  ⟨some 10, none, .mov (.tmp 9)⟩,
  ⟨some 11, (some (10, false)), .mov (.tmp 0)⟩,
  ⟨some 12, (some (10, false)), .nilCheck (.tmp 11)⟩,
  ⟨some 13, (some (10, false)), .fieldAddr 1 (.tmp 12)⟩,
  ⟨some 14, (some (10, false)), .load 1 false (.tmp 13)⟩,
  ⟨some 15, (some (10, false)), .mov (.tmp 0)⟩,
  ⟨some 16, (some (10, false)), .nilCheck (.tmp 15)⟩,
  ⟨some 17, (some (10, false)), .fieldAddr 0 (.tmp 16)⟩,
  ⟨some 18, (some (10, false)), .load 1 false (.tmp 17)⟩,
  ⟨some 19, (some (10, false)), .lenSl (.tmp 18)⟩,
  ⟨some 20, (some (10, false)), .bin .geq (.tmp 14) (.tmp 19)⟩,
  ⟨some 21, none, .pick (.tmp 10) (.const (.bool true)) (.tmp 20)⟩,
  ⟨some 22, none, .mov (.tmp 21)⟩,
  ⟨some 23, (some (22, false)), .mov (.tmp 0)⟩,
  ⟨some 24, (some (22, false)), .nilCheck (.tmp 23)⟩,
  ⟨some 25, (some (22, false)), .fieldAddr 0 (.tmp 24)⟩,
  ⟨some 26, (some (22, false)), .load 1 false (.tmp 25)⟩,
  ⟨some 27, (some (22, false)), .mov (.tmp 0)⟩,
  ⟨some 28, (some (22, false)), .nilCheck (.tmp 27)⟩,
  ⟨some 29, (some (22, false)), .fieldAddr 1 (.tmp 28)⟩,
  ⟨some 30, (some (22, false)), .load 1 false (.tmp 29)⟩,
  ⟨some 31, (some (22, false)), .indexAddr 3 (.tmp 26) (.tmp 30)⟩,
  ⟨some 32, (some (22, false)), .fieldAddr 0 (.tmp 31)⟩,
  ⟨some 33, (some (22, false)), .load 1 false (.tmp 32)⟩,
  ⟨some 34, (some (22, false)), .bin .neq (.tmp 33) (.const (.int .i64 1))⟩,
  ⟨some 35, none, .pick (.tmp 22) (.const (.bool true)) (.tmp 34)⟩])
 (.cond (.tmp 35) k_ref8_P_atom_p0 .skip))
 (.seq (.drawn [⟨⟨some 39, none, .mov (.tmp 0)⟩, false, [], []⟩,
  ⟨⟨some 40, none, .nilCheck (.tmp 39)⟩, false, [0], []⟩,
  ⟨⟨some 41, none, .fieldAddr 0 (.tmp 40)⟩, false, [0, 1], []⟩,
  ⟨⟨some 42, none, .load 1 false (.tmp 41)⟩, false, [1, 0, 2], []⟩,
  ⟨⟨some 43, none, .mov (.tmp 0)⟩, false, [], []⟩,
  ⟨⟨some 44, none, .nilCheck (.tmp 43)⟩, false, [4], []⟩,
  ⟨⟨some 45, none, .fieldAddr 1 (.tmp 44)⟩, false, [4, 5], []⟩,
  ⟨⟨some 46, none, .load 1 false (.tmp 45)⟩, false, [5, 4, 6], []⟩,
  ⟨⟨some 47, none, .indexAddr 3 (.tmp 42) (.tmp 46)⟩, false, [2, 0, 1, 3, 6, 4, 5, 7], []⟩,
  ⟨⟨some 48, none, .fieldAddr 1 (.tmp 47)⟩, false, [7, 5, 4, 6, 3, 1, 0, 2, 8], []⟩,
  ⟨⟨some 49, none, .load 1 false (.tmp 48)⟩, false, [8, 2, 0, 1, 3, 6, 4, 5, 7, 9], []⟩,
  ⟨⟨some 50, none, .build [(.int .i64 0), (.str []), .nilslice] [(0, 1, (.const (.int .i64 1))), (1, 1, (.tmp 49))]⟩, false, [9, 7, 5, 4, 6, 3, 1, 0, 2, 8, 10], []⟩,
  ⟨⟨some 3, none, .alloc [(.int .i64 0), (.str []), .nilslice]⟩, true, [], []⟩,
  ⟨⟨none, none, .store 3 (.tmp 3) (.tmp 50)⟩, true, [10, 8, 2, 0, 1, 3, 6, 4, 5, 7, 9, 11, 12], []⟩])
 (.seq (.region [⟨some 51, none, .mov (.tmp 0)⟩,
  ⟨some 52, none, .nilCheck (.tmp 51)⟩,
  ⟨some 53, none, .fieldAddr 1 (.tmp 52)⟩,
  ⟨some 54, none, .load 1 false (.tmp 53)⟩,
  ⟨some 55, none, .bin .add (.tmp 54) (.const (.int .i64 1))⟩,
  ⟨some 56, none, .nilCheck (.tmp 51)⟩,
  ⟨some 57, none, .fieldAddr 1 (.tmp 56)⟩,
  ⟨none, none, .store 1 (.tmp 57) (.tmp 55)⟩])
 (.seq (.seq (.region [⟨some 58, none, .mov (.tmp 0)⟩,
  ⟨some 59, none, .call (.const (.func (.func n_ref8_P_sign) [] [])) [(.tmp 58), (.const (.str [40]))]⟩,
  ⟨some 60, none, .un .not (.tmp 59)⟩])
 (.cond (.tmp 60) (.seq (.region [⟨some 61, none, .load 3 true (.tmp 3)⟩,
  ⟨none, none, .store 3 (.tmp 2) (.tmp 61)⟩])
 .ret) .skip))
 (.seq (.region [⟨some 62, none, .mov (.tmp 0)⟩,
  ⟨some 63, none, .nilCheck (.tmp 62)⟩,
  ⟨some 64, none, .fieldAddr 1 (.tmp 63)⟩,
  ⟨some 65, none, .load 1 false (.tmp 64)⟩,
  ⟨some 66, none, .bin .add (.tmp 65) (.const (.int .i64 1))⟩,
  ⟨some 67, none, .nilCheck (.tmp 62)⟩,
  ⟨some 68, none, .fieldAddr 1 (.tmp 67)⟩,
  ⟨none, none, .store 1 (.tmp 68) (.tmp 66)⟩])
 (.seq (.block 0 (.loop k_ref8_P_atom_p2))
 (.seq (.region [⟨some 105, none, .mov (.tmp 0)⟩,
  ⟨some 106, none, .call (.const (.func (.func n_ref8_P_eat) [] [])) [(.tmp 105), (.const (.str [41]))]⟩])
 (.seq (.region [⟨some 107, none, .load 3 true (.tmp 3)⟩,
  ⟨none, none, .store 3 (.tmp 2) (.tmp 107)⟩])
 .ret)))))))))⟩
theorem c_ref8_P_atom : (XTab.of Try.prog).code 58 = some k_ref8_P_atom := by kernel_rfl

/-! (*delphi/delphiref8.P).sign -/

def k_ref8_P_sign : AFun := ⟨44, [.tmp 4], (.seq (.region [⟨some 4, none, .mov (.const (.bool false))⟩])
 (.seq (.region [⟨some 5, none, .mov (.tmp 0)⟩,
  ⟨some 6, none, .nilCheck (.tmp 5)⟩,
  ⟨some 7, none, .fieldAddr 1 (.tmp 6)⟩,
  ⟨some 8, none, .load 1 false (.tmp 7)⟩,
  ⟨some 9, none, .mov (.tmp 0)⟩,
  ⟨some 10, none, .nilCheck (.tmp 9)⟩,
  ⟨some 11, none, .fieldAddr 0 (.tmp 10)⟩,
  ⟨some 12, none, .load 1 false (.tmp 11)⟩,
  ⟨some 13, none, .lenSl (.tmp 12)⟩,
  ⟨some 14, none, .bin .lss (.tmp 8) (.tmp 13)⟩,
  ⟨some 15, none, .mov (.tmp 14)⟩,
  ⟨some 16, (some (15, true)), .mov (.tmp 0)⟩,
  ⟨some 17, (some (15, true)), .nilCheck (.tmp 16)⟩,
  ⟨some 18, (some (15, true)), .fieldAddr 0 (.tmp 17)⟩,
  ⟨some 19, (some (15, true)), .load 1 false (.tmp 18)⟩,
  ⟨some 20, (some (15, true)), .mov (.tmp 0)⟩,
  ⟨some 21, (some (15, true)), .nilCheck (.tmp 20)⟩,
  ⟨some 22, (some (15, true)), .fieldAddr 1 (.tmp 21)⟩,
  ⟨some 23, (some (15, true)), .load 1 false (.tmp 22)⟩,
  ⟨some 24, (some (15, true)), .indexAddr 3 (.tmp 19) (.tmp 23)⟩,
  ⟨some 25, (some (15, true)), .fieldAddr 0 (.tmp 24)⟩,
  ⟨some 26, (some (15, true)), .load 1 false (.tmp 25)⟩,
  ⟨some 27, (some (15, true)), .bin .eql (.tmp 26) (.const (.int .i64 4))⟩,
  ⟨some 28, none, .pick (.tmp 15) (.tmp 27) (.const (.bool false))⟩,
  ⟨some 29, none, .mov (.tmp 28)⟩,
  ⟨some 30, (some (29, true)), .mov (.tmp 0)⟩,
  ⟨some 31, (some (29, true)), .nilCheck (.tmp 30)⟩,
  ⟨some 32, (some (29, true)), .fieldAddr 0 (.tmp 31)⟩,
  ⟨some 33, (some (29, true)), .load 1 false (.tmp 32)⟩,
  ⟨some 34, (some (29, true)), .mov (.tmp 0)⟩,
  ⟨some 35, (some (29, true)), .nilCheck (.tmp 34)⟩,
  ⟨some 36, (some (29, true)), .fieldAddr 1 (.tmp 35)⟩,
  ⟨some 37, (some (29, true)), .load 1 false (.tmp 36)⟩,
  ⟨some 38, (some (29, true)), .indexAddr 3 (.tmp 33) (.tmp 37)⟩,
  ⟨some 39, (some (29, true)), .fieldAddr 1 (.tmp 38)⟩,
  ⟨some 40, (some (29, true)), .load 1 false (.tmp 39)⟩,
  ⟨some 41, (some (29, true)), .mov (.tmp 1)⟩,
  ⟨some 42, (some (29, true)), .bin .eql (.tmp 40) (.tmp 41)⟩,
  ⟨some 43, none, .pick (.tmp 29) (.tmp 42) (.const (.bool false))⟩,
  ⟨some 4, none, .mov (.tmp 43)⟩])
 .ret))⟩
theorem c_ref8_P_sign : (XTab.of Try.prog).code 59 = some k_ref8_P_sign := by kernel_rfl

/-! (*delphi/delphiref8.P).literal -/
def k_ref8_P_literal_p0 : ACode := (.seq (.region [⟨some 16, none, .mov (.tmp 0)⟩,
  ⟨some 17, none, .call (.const (.func (.func n_ref8_P_atom) [] [])) [(.tmp 16)]⟩,
  ⟨some 3, none, .alloc [(.int .i64 0), (.str []), .nilslice]⟩,
  ⟨none, none, .store 3 (.tmp 3) (.tmp 17)⟩])
 (.seq (.region [⟨some 18, none, .fieldAddr 0 (.tmp 3)⟩,
  ⟨none, none, .store 1 (.tmp 18) (.const (.int .i64 2))⟩])
 (.seq (.region [⟨some 19, none, .load 3 true (.tmp 3)⟩,
  ⟨none, none, .store 3 (.tmp 2) (.tmp 19)⟩])
 .ret)))
def k_ref8_P_literal_p1 : ACode := (.seq (.region [⟨some 9, none, .mov (.tmp 0)⟩,
  ⟨some 10, none, .nilCheck (.tmp 9)⟩,
  ⟨some 11, none, .fieldAddr 1 (.tmp 10)⟩,
  ⟨some 12, none, .load 1 false (.tmp 11)⟩,
  ⟨some 13, none, .bin .add (.tmp 12) (.const (.int .i64 1))⟩,
  ⟨some 14, none, .nilCheck (.tmp 9)⟩,
  ⟨some 15, none, .fieldAddr 1 (.tmp 14)⟩,
  ⟨none, none, .store 1 (.tmp 15) (.tmp 13)⟩])
 k_ref8_P_literal_p0)
def k_ref8_P_literal_p2 : ACode := (.seq (.region [⟨some 89, none, .mov (.tmp 0)⟩,
  ⟨some 90, none, .call (.const (.func (.func n_ref8_P_atom) [] [])) [(.tmp 89)]⟩,
  ⟨none, none, .store 3 (.tmp 2) (.tmp 90)⟩])
 .ret)
def k_ref8_P_literal_p3 : ACode := (.seq (.region [⟨some 139, none, .mov (.tmp 0)⟩,
  ⟨some 140, none, .call (.const (.func (.func n_ref8_P_bad) [] [])) [(.tmp 139), (.const (.int .i64 4))]⟩])
 (.seq (.region [⟨some 141, none, .build [(.int .i64 0), (.str []), .nilslice] []⟩,
  ⟨none, none, .store 3 (.tmp 2) (.tmp 141)⟩])
 .ret))
def k_ref8_P_literal_p4 : ACode := (.seq (.region [⟨some 163, none, .mov (.tmp 5)⟩,
  ⟨some 164, none, .load 3 true (.tmp 4)⟩,
  ⟨some 165, none, .load 3 true (.tmp 6)⟩,
  ⟨some 166, none, .buildSlice 2 [(.int .i64 0), (.str []), (.int .i64 0), (.int .i64 0), (.str []), (.int .i64 0)] [(0, 3, (.tmp 164)), (3, 3, (.tmp 165))]⟩,
  ⟨some 167, none, .build [(.int .i64 0), (.str []), .nilslice] [(0, 1, (.tmp 163)), (2, 1, (.tmp 166))]⟩,
  ⟨none, none, .store 3 (.tmp 2) (.tmp 167)⟩])
 .ret)
def k_ref8_P_literal_p5 : ACode := (.seq (.region [⟨some 154, none, .mov (.tmp 0)⟩,
  ⟨some 155, none, .nilCheck (.tmp 154)⟩,
  ⟨some 156, none, .fieldAddr 1 (.tmp 155)⟩,
  ⟨some 157, none, .load 1 false (.tmp 156)⟩,
  ⟨some 158, none, .bin .add (.tmp 157) (.const (.int .i64 1))⟩,
  ⟨some 159, none, .nilCheck (.tmp 154)⟩,
  ⟨some 160, none, .fieldAddr 1 (.tmp 159)⟩,
  ⟨none, none, .store 1 (.tmp 160) (.tmp 158)⟩])
 (.seq (.region [⟨some 161, none, .mov (.tmp 0)⟩,
  ⟨some 162, none, .call (.const (.func (.func n_ref8_P_term) [] [])) [(.tmp 161)]⟩,
  ⟨some 6, none, .alloc [(.int .i64 0), (.str []), (.int .i64 0)]⟩,
  ⟨none, none, .store 3 (.tmp 6) (.tmp 162)⟩])
 k_ref8_P_literal_p4))
def k_ref8_P_literal_p6 : ACode := (.seq (.region [⟨some 142, none, .mov (.tmp 0)⟩,
  ⟨some 143, none, .nilCheck (.tmp 142)⟩,
  ⟨some 144, none, .fieldAddr 0 (.tmp 143)⟩,
  ⟨some 145, none, .load 1 false (.tmp 144)⟩,
  ⟨some 146, none, .mov (.tmp 0)⟩,
  ⟨some 147, none, .nilCheck (.tmp 146)⟩,
  ⟨some 148, none, .fieldAddr 1 (.tmp 147)⟩,
  ⟨some 149, none, .load 1 false (.tmp 148)⟩,
  ⟨some 150, none, .indexAddr 3 (.tmp 145) (.tmp 149)⟩,
  ⟨some 151, none, .fieldAddr 1 (.tmp 150)⟩,
  ⟨some 152, none, .load 1 false (.tmp 151)⟩,
  ⟨some 153, none, .call (.const (.func (.func n_ref8_compare) [] [])) [(.tmp 152)]⟩,
  ⟨some 5, none, .mov (.tmp 153)⟩])
 k_ref8_P_literal_p5)
def k_ref8_P_literal_p7 : ACode := (.seq (.seq (.region [⟨some 93, none, .mov (.tmp 0)⟩,
  ⟨some 94, none, .nilCheck (.tmp 93)⟩,
  ⟨some 95, none, .fieldAddr 2 (.tmp 94)⟩,
  ⟨some 96, none, .load 1 false (.tmp 95)⟩,
  ⟨some 97, none, .bin .neq (.tmp 96) (.const (.int .i64 0))⟩,
  ⟨some 98, none, .mov (.tmp 97)⟩,
  ⟨some 99, (some (98, false)), .mov (.tmp 0)⟩,
  ⟨some 100, (some (98, false)), .nilCheck (.tmp 99)⟩,
  ⟨some 101, (some (98, false)), .fieldAddr 1 (.tmp 100)⟩,
  ⟨some 102, (some (98, false)), .load 1 false (.tmp 101)⟩,
  ⟨some 103, (some (98, false)), .mov (.tmp 0)⟩,
  ⟨some 104, (some (98, false)), .nilCheck (.tmp 103)⟩,
  ⟨some 105, (some (98, false)), .fieldAddr 0 (.tmp 104)⟩,
  ⟨some 106, (some (98, false)), .load 1 false (.tmp 105)⟩,
  ⟨some 107, (some (98, false)), .lenSl (.tmp 106)⟩,
  ⟨some 108, (some (98, false)), .bin .geq (.tmp 102) (.tmp 107)⟩,
  ⟨some 109, none, .pick (.tmp 98) (.const (.bool true)) (.tmp 108)⟩,
  ⟨some 110, none, .mov (.tmp 109)⟩,
  ⟨some 111, (some (110, false)), .mov (.tmp 0)⟩,
  ⟨some 112, (some (110, false)), .nilCheck (.tmp 111)⟩,
  ⟨some 113, (some (110, false)), .fieldAddr 0 (.tmp 112)⟩,
  ⟨some 114, (some (110, false)), .load 1 false (.tmp 113)⟩,
  ⟨some 115, (some (110, false)), .mov (.tmp 0)⟩,
  ⟨some 116, (some (110, false)), .nilCheck (.tmp 115)⟩,
  ⟨some 117, (some (110, false)), .fieldAddr 1 (.tmp 116)⟩,
  ⟨some 118, (some (110, false)), .load 1 false (.tmp 117)⟩,
  ⟨some 119, (some (110, false)), .indexAddr 3 (.tmp 114) (.tmp 118)⟩,
  ⟨some 120, (some (110, false)), .fieldAddr 0 (.tmp 119)⟩,
  ⟨some 121, (some (110, false)), .load 1 false (.tmp 120)⟩,
  ⟨some 122, (some (110, false)), .bin .neq (.tmp 121) (.const (.int .i64 4))⟩,
  ⟨some 123, none, .pick (.tmp 110) (.const (.bool true)) (.tmp 122)⟩,
  ⟨some 124, none, .mov (.tmp 123)⟩,
  ⟨some 125, (some (124, false)), .mov (.tmp 0)⟩,
  ⟨some 126, (some (124, false)), .nilCheck (.tmp 125)⟩,
  ⟨some 127, (some (124, false)), .fieldAddr 0 (.tmp 126)⟩,
  ⟨some 128, (some (124, false)), .load 1 false (.tmp 127)⟩,
  ⟨some 129, (some (124, false)), .mov (.tmp 0)⟩,
  ⟨some 130, (some (124, false)), .nilCheck (.tmp 129)⟩,
  ⟨some 131, (some (124, false)), .fieldAddr 1 (.tmp 130)⟩,
  ⟨some 132, (some (124, false)), .load 1 false (.tmp 131)⟩,
  ⟨some 133, (some (124, false)), .indexAddr 3 (.tmp 128) (.tmp 132)⟩,
  ⟨some 134, (some (124, false)), .fieldAddr 1 (.tmp 133)⟩,
  ⟨some 135, (some (124, false)), .load 1 false (.tmp 134)⟩,
  ⟨some 136, (some (124, false)), .call (.const (.func (.func n_ref8_compare) [] [])) [(.tmp 135)]⟩,
  ⟨some 137, (some (124, false)), .bin .eql (.tmp 136) (.const (.int .i64 0))⟩,
  ⟨some 138, none, .pick (.tmp 124) (.const (.bool true)) (.tmp 137)⟩])
 (.cond (.tmp 138) k_ref8_P_literal_p3 .skip))
 k_ref8_P_literal_p6)
def k_ref8_P_literal_p8 : ACode := (.seq (.seq (.region [⟨some 20, none, .mov (.tmp 0)⟩,
  ⟨some 21, none, .nilCheck (.tmp 20)⟩,
  ⟨some 22, none, .fieldAddr 1 (.tmp 21)⟩,
  ⟨some 23, none, .load 1 false (.tmp 22)⟩,
  ⟨some 24, none, .mov (.tmp 0)⟩,
  ⟨some 25, none, .nilCheck (.tmp 24)⟩,
  ⟨some 26, none, .fieldAddr 0 (.tmp 25)⟩,
  ⟨some 27, none, .load 1 false (.tmp 26)⟩,
  ⟨some 28, none, .lenSl (.tmp 27)⟩,
  ⟨some 29, none, .bin .lss (.tmp 23) (.tmp 28)⟩,
  ⟨some 30, none, .mov (.tmp 29)⟩,
  ⟨some 31, (some (30, true)), .mov (.tmp 0)⟩,
  ⟨some 32, (some (30, true)), .nilCheck (.tmp 31)⟩,
  ⟨some 33, (some (30, true)), .fieldAddr 0 (.tmp 32)⟩,
  ⟨some 34, (some (30, true)), .load 1 false (.tmp 33)⟩,
  ⟨some 35, (some (30, true)), .mov (.tmp 0)⟩,
  ⟨some 36, (some (30, true)), .nilCheck (.tmp 35)⟩,
  ⟨some 37, (some (30, true)), .fieldAddr 1 (.tmp 36)⟩,
  ⟨some 38, (some (30, true)), .load 1 false (.tmp 37)⟩,
  ⟨some 39, (some (30, true)), .indexAddr 3 (.tmp 34) (.tmp 38)⟩,
  ⟨some 40, (some (30, true)), .fieldAddr 0 (.tmp 39)⟩,
  ⟨some 41, (some (30, true)), .load 1 false (.tmp 40)⟩,
  ⟨some 42, (some (30, true)), .bin .eql (.tmp 41) (.const (.int .i64 1))⟩,
  ⟨some 43, none, .pick (.tmp 30) (.tmp 42) (.const (.bool false))⟩,
  ⟨some 44, none, .mov (.tmp 43)⟩,
  ⟨some 45, (some (44, true)), .mov (.tmp 0)⟩,
  ⟨some 46, (some (44, true)), .nilCheck (.tmp 45)⟩,
  ⟨some 47, (some (44, true)), .fieldAddr 1 (.tmp 46)⟩,
  ⟨some 48, (some (44, true)), .load 1 false (.tmp 47)⟩,
  ⟨some 49, (some (44, true)), .bin .add (.tmp 48) (.const (.int .i64 1))⟩,
  ⟨some 50, (some (44, true)), .mov (.tmp 0)⟩,
  ⟨some 51, (some (44, true)), .nilCheck (.tmp 50)⟩,
  ⟨some 52, (some (44, true)), .fieldAddr 0 (.tmp 51)⟩,
  ⟨some 53, (some (44, true)), .load 1 false (.tmp 52)⟩,
  ⟨some 54, (some (44, true)), .lenSl (.tmp 53)⟩,
  ⟨some 55, (some (44, true)), .bin .lss (.tmp 49) (.tmp 54)⟩,
  ⟨some 56, (some (44, true)), .mov (.tmp 55)⟩,
  ⟨some 57, (some (56, true)), .mov (.tmp 0)⟩,
  ⟨some 58, (some (56, true)), .nilCheck (.tmp 57)⟩,
  ⟨some 59, (some (56, true)), .fieldAddr 0 (.tmp 58)⟩,
  ⟨some 60, (some (56, true)), .load 1 false (.tmp 59)⟩,
  ⟨some 61, (some (56, true)), .mov (.tmp 0)⟩,
  ⟨some 62, (some (56, true)), .nilCheck (.tmp 61)⟩,
  ⟨some 63, (some (56, true)), .fieldAddr 1 (.tmp 62)⟩,
  ⟨some 64, (some (56, true)), .load 1 false (.tmp 63)⟩,
  ⟨some 65, (some (56, true)), .bin .add (.tmp 64) (.const (.int .i64 1))⟩,
  ⟨some 66, (some (56, true)), .indexAddr 3 (.tmp 60) (.tmp 65)⟩,
  ⟨some 67, (some (56, true)), .fieldAddr 0 (.tmp 66)⟩,
  ⟨some 68, (some (56, true)), .load 1 false (.tmp 67)⟩,
  ⟨some 69, (some (56, true)), .bin .eql (.tmp 68) (.const (.int .i64 4))⟩,
  ⟨some 70, (some (44, true)), .pick (.tmp 56) (.tmp 69) (.const (.bool false))⟩,
  ⟨some 71, (some (44, true)), .mov (.tmp 70)⟩,
  ⟨some 72, (some (71, true)), .mov (.tmp 0)⟩,
  ⟨some 73, (some (71, true)), .nilCheck (.tmp 72)⟩,
  ⟨some 74, (some (71, true)), .fieldAddr 0 (.tmp 73)⟩,
  ⟨some 75, (some (71, true)), .load 1 false (.tmp 74)⟩,
  ⟨some 76, (some (71, true)), .mov (.tmp 0)⟩,
  ⟨some 77, (some (71, true)), .nilCheck (.tmp 76)⟩,
  ⟨some 78, (some (71, true)), .fieldAddr 1 (.tmp 77)⟩,
  ⟨some 79, (some (71, true)), .load 1 false (.tmp 78)⟩,
  ⟨some 80, (some (71, true)), .bin .add (.tmp 79) (.const (.int .i64 1))⟩,
  ⟨some 81, (some (71, true)), .indexAddr 3 (.tmp 75) (.tmp 80)⟩,
  ⟨some 82, (some (71, true)), .fieldAddr 1 (.tmp 81)⟩,
  ⟨some 83, (some (71, true)), .load 1 false (.tmp 82)⟩,
  ⟨some 84, (some (71, true)), .call (.const (.func (.func n_ref8_compare) [] [])) [(.tmp 83)]⟩,
  ⟨some 85, (some (71, true)), .bin .gtr (.tmp 84) (.const (.int .i64 0))⟩,
  ⟨some 86, (some (44, true)), .pick (.tmp 71) (.tmp 85) (.const (.bool false))⟩,
  ⟨some 87, (some (44, true)), .un .not (.tmp 86)⟩,
  ⟨some 88, none, .pick (.tmp 44) (.tmp 87) (.const (.bool false))⟩])
 (.cond (.tmp 88) k_ref8_P_literal_p2 .skip))
 (.seq (.region [⟨some 91, none, .mov (.tmp 0)⟩,
  ⟨some 92, none, .call (.const (.func (.func n_ref8_P_term) [] [])) [(.tmp 91)]⟩,
  ⟨some 4, none, .alloc [(.int .i64 0), (.str []), (.int .i64 0)]⟩,
  ⟨none, none, .store 3 (.tmp 4) (.tmp 92)⟩])
 k_ref8_P_literal_p7))
def k_ref8_P_literal : AFun := ⟨168, [.cell 2 3 true], (.seq (.region [⟨some 2, none, .alloc [(.int .i64 0), (.str []), .nilslice]⟩])
 (.seq (.seq (.region [⟨some 7, none, .mov (.tmp 0)⟩,
  ⟨some 8, none, .call (.const (.func (.func n_ref8_P_sign) [] [])) [(.tmp 7), (.const (.str [33]))]⟩])
 (.cond (.tmp 8) k_ref8_P_literal_p1 .skip))
 k_ref8_P_literal_p8))⟩
theorem c_ref8_P_literal : (XTab.of Try.prog).code 60 = some k_ref8_P_literal := by kernel_rfl

/-! (*delphi/delphiref8.P).bad -/

def k_ref8_P_bad : AFun := ⟨13, [], (.seq (.region [⟨some 4, none, .mov (.tmp 0)⟩,
  ⟨some 5, none, .nilCheck (.tmp 4)⟩,
  ⟨some 6, none, .fieldAddr 2 (.tmp 5)⟩,
  ⟨some 7, none, .load 1 false (.tmp 6)⟩,
  ⟨some 8, none, .bin .eql (.tmp 7) (.const (.int .i64 0))⟩])
 (.cond (.tmp 8) (.region [⟨some 9, none, .mov (.tmp 0)⟩,
  ⟨some 10, none, .mov (.tmp 1)⟩,
  ⟨some 11, none, .nilCheck (.tmp 9)⟩,
  ⟨some 12, none, .fieldAddr 2 (.tmp 11)⟩,
  ⟨none, none, .store 1 (.tmp 12) (.tmp 10)⟩]) .skip))⟩
theorem c_ref8_P_bad : (XTab.of Try.prog).code 61 = some k_ref8_P_bad := by kernel_rfl

/-! (*delphi/delphiref8.P).eat -/

def k_ref8_P_eat : AFun := ⟨22, [], (.seq (.seq (.region [⟨some 4, none, .mov (.tmp 0)⟩,
  ⟨some 5, none, .nilCheck (.tmp 4)⟩,
  ⟨some 6, none, .fieldAddr 2 (.tmp 5)⟩,
  ⟨some 7, none, .load 1 false (.tmp 6)⟩,
  ⟨some 8, none, .bin .neq (.tmp 7) (.const (.int .i64 0))⟩])
 (.cond (.tmp 8) .ret .skip))
 (.seq (.seq (.region [⟨some 9, none, .mov (.tmp 0)⟩,
  ⟨some 10, none, .mov (.tmp 1)⟩,
  ⟨some 11, none, .call (.const (.func (.func n_ref8_P_sign) [] [])) [(.tmp 9), (.tmp 10)]⟩,
  ⟨some 12, none, .un .not (.tmp 11)⟩])
 (.cond (.tmp 12) (.seq (.region [⟨some 13, none, .mov (.tmp 0)⟩,
  ⟨some 14, none, .call (.const (.func (.func n_ref8_P_bad) [] [])) [(.tmp 13), (.const (.int .i64 4))]⟩])
 .ret) .skip))
 (.region [⟨some 15, none, .mov (.tmp 0)⟩,
  ⟨some 16, none, .nilCheck (.tmp 15)⟩,
  ⟨some 17, none, .fieldAddr 1 (.tmp 16)⟩,
  ⟨some 18, none, .load 1 false (.tmp 17)⟩,
  ⟨some 19, none, .bin .add (.tmp 18) (.const (.int .i64 1))⟩,
  ⟨some 20, none, .nilCheck (.tmp 15)⟩,
  ⟨some 21, none, .fieldAddr 1 (.tmp 20)⟩,
  ⟨none, none, .store 1 (.tmp 21) (.tmp 19)⟩])))⟩
theorem c_ref8_P_eat : (XTab.of Try.prog).code 62 = some k_ref8_P_eat := by kernel_rfl

/-! delphi/lex.blank -/
/-! delphi/lex.word -/
/-! delphi/delphiref8.small -/

def k_ref8_small : AFun := ⟨9, [.tmp 2], (.seq (.region [⟨some 2, none, .mov (.const (.bool false))⟩])
 (.seq (.region [⟨some 3, none, .mov (.tmp 0)⟩,
  ⟨some 4, none, .bin .geq (.tmp 3) (.const (.int .u8 97))⟩,
  ⟨some 5, none, .mov (.tmp 4)⟩,
  ⟨some 6, (some (5, true)), .mov (.tmp 0)⟩,
  ⟨some 7, (some (5, true)), .bin .leq (.tmp 6) (.const (.int .u8 122))⟩,
  ⟨some 8, none, .pick (.tmp 5) (.tmp 7) (.const (.bool false))⟩,
  ⟨some 2, none, .mov (.tmp 8)⟩])
 .ret))⟩
theorem c_ref8_small : (XTab.of Try.prog).code 65 = some k_ref8_small := by kernel_rfl

/-! delphi/delphiref8.digit -/

def k_ref8_digit : AFun := ⟨9, [.tmp 2], (.seq (.region [⟨some 2, none, .mov (.const (.bool false))⟩])
 (.seq (.region [⟨some 3, none, .mov (.tmp 0)⟩,
  ⟨some 4, none, .bin .geq (.tmp 3) (.const (.int .u8 48))⟩,
  ⟨some 5, none, .mov (.tmp 4)⟩,
  ⟨some 6, (some (5, true)), .mov (.tmp 0)⟩,
  ⟨some 7, (some (5, true)), .bin .leq (.tmp 6) (.const (.int .u8 57))⟩,
  ⟨some 8, none, .pick (.tmp 5) (.tmp 7) (.const (.bool false))⟩,
  ⟨some 2, none, .mov (.tmp 8)⟩])
 .ret))⟩
theorem c_ref8_digit : (XTab.of Try.prog).code 66 = some k_ref8_digit := by kernel_rfl

/-! delphi/delphiref8.great -/

def k_ref8_great : AFun := ⟨9, [.tmp 2], (.seq (.region [⟨some 2, none, .mov (.const (.bool false))⟩])
 (.seq (.region [⟨some 3, none, .mov (.tmp 0)⟩,
  ⟨some 4, none, .bin .geq (.tmp 3) (.const (.int .u8 65))⟩,
  ⟨some 5, none, .mov (.tmp 4)⟩,
  ⟨some 6, (some (5, true)), .mov (.tmp 0)⟩,
  ⟨some 7, (some (5, true)), .bin .leq (.tmp 6) (.const (.int .u8 90))⟩,
  ⟨some 8, none, .pick (.tmp 5) (.tmp 7) (.const (.bool false))⟩,
  ⟨some 2, none, .mov (.tmp 8)⟩])
 .ret))⟩
theorem c_ref8_great : (XTab.of Try.prog).code 67 = some k_ref8_great := by kernel_rfl

/-! (*delphi/plan.work).count -/
def k_plan_work_count_p0 : ACode := (.region [⟨some 28, none, .mov (.tmp 5)⟩,
  ⟨some 29, none, .bin .add (.tmp 28) (.const (.int .i64 1))⟩,
  ⟨some 5, none, .mov (.tmp 29)⟩])
def k_plan_work_count_p1 : ACode := (.seq (.region [⟨some 15, none, .fieldAddr 0 (.tmp 7)⟩,
  ⟨some 16, none, .load 1 false (.tmp 15)⟩,
  ⟨some 17, none, .bin .neq (.tmp 16) (.const (.int .i64 1))⟩,
  ⟨some 18, none, .mov (.tmp 17)⟩,
  ⟨some 19, (some (18, false)), .mov (.tmp 0)⟩,
  ⟨some 20, (some (18, false)), .nilCheck (.tmp 19)⟩,
  ⟨some 21, (some (18, false)), .fieldAddr 1 (.tmp 20)⟩,
  ⟨some 22, (some (18, false)), .load 1 false (.tmp 21)⟩,
  ⟨some 23, (some (18, false)), .fieldAddr 1 (.tmp 7)⟩,
  ⟨some 24, (some (18, false)), .load 1 false (.tmp 23)⟩,
  ⟨some 25, (some (18, false)), .lookup (.scalar .str) (.int .i64 0) false (.tmp 22) (.tmp 24)⟩,
  ⟨some 26, (some (18, false)), .bin .gtr (.tmp 25) (.const (.int .i64 0))⟩,
  ⟨some 27, none, .pick (.tmp 18) (.const (.bool true)) (.tmp 26)⟩])
 (.cond (.tmp 27) k_plan_work_count_p0 .skip))
def k_plan_work_count_p2 : ACode := (.seq (.block 1 (.seq (.region [⟨some 13, none, .indexAddr 3 (.tmp 9) (.tmp 11)⟩,
  ⟨some 14, none, .load 3 true (.tmp 13)⟩,
  ⟨some 7, none, .alloc [(.int .i64 0), (.str []), (.int .i64 0)]⟩,
  ⟨none, none, .store 3 (.tmp 7) (.tmp 14)⟩])
 k_plan_work_count_p1))
 (.region [⟨some 30, none, .bin .add (.tmp 11) (.const (.int .i64 1))⟩,
  ⟨some 11, none, .mov (.tmp 30)⟩]))
def k_plan_work_count_p3 : ACode := (.seq (.region [⟨some 12, none, .bin .lss (.tmp 11) (.tmp 10)⟩])
 (.seq (.cond (.tmp 12) .skip (.exit 0))
 k_plan_work_count_p2))
def k_plan_work_count_p4 : ACode := (.seq (.seq (.region [⟨some 8, none, .fieldAddr 2 (.tmp 3)⟩,
  ⟨some 9, none, .load 1 false (.tmp 8)⟩,
  ⟨some 10, none, .lenSl (.tmp 9)⟩,
  ⟨some 11, none, .mov (.const (.int .i64 0))⟩])
 (.block 0 (.loop k_plan_work_count_p3)))
 (.seq (.region [⟨some 31, none, .mov (.tmp 5)⟩,
  ⟨some 4, none, .mov (.tmp 31)⟩])
 .ret))
def k_plan_work_count : AFun := ⟨32, [.tmp 4], (.seq (.region [⟨some 3, none, .box (.tmp 1)⟩,
  ⟨some 4, none, .mov (.const (.int .i64 0))⟩])
 (.seq (.region [⟨some 5, none, .mov (.const (.int .i64 0))⟩])
 k_plan_work_count_p4))⟩
theorem c_plan_work_count : (XTab.of Try.prog).code 68 = some k_plan_work_count := by kernel_rfl

/-! container/heap.Push -/
def k_heap_Push_p0 : ACode := (.region [⟨some 7, none, .mov (.tmp 0)⟩,
  ⟨some 8, none, .mov (.tmp 0)⟩,
  ⟨some 9, none, .inv [(17, n_int_abi_Type_Len, none), (71, n_relation_Set_Len, none), (122, n_plan_queue_Len, (some (1, false))), (124, n_plan_queue_Len, none)] (.tmp 8) []⟩,
  ⟨some 10, none, .bin .sub (.tmp 9) (.const (.int .i64 1))⟩,
  ⟨some 11, none, .call (.const (.func (.func n_heap_up) [] [])) [(.tmp 7), (.tmp 10)]⟩])
def k_heap_Push : AFun := ⟨12, [], (.seq (.region [⟨some 4, none, .mov (.tmp 0)⟩,
  ⟨some 5, none, .mov (.tmp 1)⟩,
  ⟨some 6, none, .inv [(122, n_plan_queue_Push, none)] (.tmp 4) [(.tmp 5)]⟩])
 k_heap_Push_p0)⟩
theorem c_heap_Push : (XTab.of Try.prog).code 69 = some k_heap_Push := by kernel_rfl

/-! container/heap.Pop -/
def k_heap_Pop_p0 : ACode := (.seq (.region [⟨some 10, none, .mov (.tmp 0)⟩,
  ⟨some 11, none, .mov (.tmp 3)⟩,
  ⟨some 12, none, .call (.const (.func (.func n_heap_down) [] [])) [(.tmp 10), (.const (.int .i64 0)), (.tmp 11)]⟩])
 (.seq (.region [⟨some 13, none, .mov (.tmp 0)⟩,
  ⟨some 14, none, .inv [(122, n_plan_queue_Pop, none)] (.tmp 13) []⟩,
  ⟨some 2, none, .mov (.tmp 14)⟩])
 .ret))
def k_heap_Pop_p1 : ACode := (.seq (.region [⟨some 4, none, .mov (.tmp 0)⟩,
  ⟨some 5, none, .inv [(17, n_int_abi_Type_Len, none), (71, n_relation_Set_Len, none), (122, n_plan_queue_Len, (some (1, false))), (124, n_plan_queue_Len, none)] (.tmp 4) []⟩,
  ⟨some 6, none, .bin .sub (.tmp 5) (.const (.int .i64 1))⟩,
  ⟨some 3, none, .mov (.tmp 6)⟩])
 (.seq (.region [⟨some 7, none, .mov (.tmp 0)⟩,
  ⟨some 8, none, .mov (.tmp 3)⟩,
  ⟨some 9, none, .inv [(122, n_plan_queue_Swap, (some (1, false))), (124, n_plan_queue_Swap, none)] (.tmp 7) [(.const (.int .i64 0)), (.tmp 8)]⟩])
 k_heap_Pop_p0))
def k_heap_Pop : AFun := ⟨15, [.tmp 2], (.seq (.region [⟨some 2, none, .mov (.const .niliface)⟩])
 k_heap_Pop_p1)⟩
theorem c_heap_Pop : (XTab.of Try.prog).code 70 = some k_heap_Pop := by kernel_rfl

/-! delphi/delphiref8.place -/
def k_ref8_place_p0 : ACode := (.seq (.region [⟨some 18, none, .mov (.tmp 5)⟩,
  ⟨some 4, none, .mov (.tmp 18)⟩])
 .ret)
def k_ref8_place_p1 : ACode := (.seq (.region [⟨some 12, none, .mov (.tmp 0)⟩,
  ⟨some 13, none, .mov (.tmp 5)⟩,
  ⟨some 14, none, .indexAddr 1 (.tmp 12) (.tmp 13)⟩,
  ⟨some 15, none, .load 1 false (.tmp 14)⟩,
  ⟨some 16, none, .mov (.tmp 1)⟩,
  ⟨some 17, none, .bin .eql (.tmp 15) (.tmp 16)⟩])
 (.cond (.tmp 17) k_ref8_place_p0 .skip))
def k_ref8_place_p2 : ACode := (.seq (.seq (.region [⟨some 6, none, .mov (.tmp 5)⟩,
  ⟨some 7, none, .mov (.tmp 0)⟩,
  ⟨some 8, none, .lenSl (.tmp 7)⟩,
  ⟨some 9, none, .bin .lss (.tmp 6) (.tmp 8)⟩])
 (.cond (.tmp 9) .skip (.exit 0)))
 (.seq (.block 1 k_ref8_place_p1)
 (.region [⟨some 10, none, .mov (.tmp 5)⟩,
  ⟨some 11, none, .bin .add (.tmp 10) (.const (.int .i64 1))⟩,
  ⟨some 5, none, .mov (.tmp 11)⟩])))
def k_ref8_place : AFun := ⟨19, [.tmp 4], (.seq (.region [⟨some 4, none, .mov (.const (.int .i64 0))⟩])
 (.seq (.seq (.region [⟨some 5, none, .mov (.const (.int .i64 0))⟩])
 (.block 0 (.loop k_ref8_place_p2)))
 (.seq (.region [⟨some 4, none, .mov (.const (.int .i64 (-1)))⟩])
 .ret)))⟩
theorem c_ref8_place : (XTab.of Try.prog).code 71 = some k_ref8_place := by kernel_rfl

/-! slices.BinarySearchFunc[[]delphi/relation.Row,delphi/relation.Row,delphi/relation.Row] -/
end Go.Proofs.Ytjidefnbancmfaa

set_option maxRecDepth 100000
set_option linter.unusedVariables false
namespace Go.Proofs.Ytjidefnbancmfaa
open Go.AE
/-! (*delphi/relation.Set).find$1 -/

/-! slices.Compare[delphi/relation.Row,int] -/
/-! slices.rotateRight[delphi/relation.Row] -/

/-! (*delphi/delphiref8.P).term -/
def k_ref8_P_term_p0 : ACode := (.seq (.region [⟨some 37, none, .mov (.tmp 0)⟩,
  ⟨some 38, none, .call (.const (.func (.func n_ref8_P_bad) [] [])) [(.tmp 37), (.const (.int .i64 4))]⟩])
 (.seq (.region [⟨some 39, none, .build [(.int .i64 0), (.str []), (.int .i64 0)] []⟩,
  ⟨none, none, .store 3 (.tmp 2) (.tmp 39)⟩])
 .ret))
def k_ref8_P_term_p1 : ACode := (.seq (.region [⟨some 66, none, .fieldAddr 1 (.tmp 3)⟩,
  ⟨some 67, none, .load 1 false (.tmp 66)⟩,
  ⟨some 68, none, .build [(.int .i64 0), (.str []), (.int .i64 0)] [(0, 1, (.const (.int .i64 1))), (1, 1, (.tmp 67))]⟩,
  ⟨none, none, .store 3 (.tmp 2) (.tmp 68)⟩])
 .ret)
def k_ref8_P_term_p2 : ACode := (.seq (.region [⟨some 61, none, .fieldAddr 1 (.tmp 3)⟩,
  ⟨some 62, none, .load 1 false (.tmp 61)⟩,
  ⟨some 63, none, .build [(.int .i64 0), (.str []), (.int .i64 0)] [(0, 1, (.const (.int .i64 2))), (1, 1, (.tmp 62))]⟩,
  ⟨none, none, .store 3 (.tmp 2) (.tmp 63)⟩])
 .ret)
def k_ref8_P_term_p3 : ACode := (.seq (.region [⟨some 60, none, .bin .eql (.tmp 58) (.const (.int .i64 1))⟩,
  ⟨some 59, none, .mov (.tmp 60)⟩])
 (.cond (.tmp 59) k_ref8_P_term_p2 (.seq (.region [⟨some 65, none, .bin .eql (.tmp 58) (.const (.int .i64 2))⟩,
  ⟨some 64, none, .mov (.tmp 65)⟩])
 (.cond (.tmp 64) k_ref8_P_term_p1 .skip))))
def k_ref8_P_term_p4 : ACode := (.region [⟨some 81, none, .mov (.tmp 4)⟩,
  ⟨some 82, none, .bin .mul (.tmp 81) (.const (.int .i64 10))⟩,
  ⟨some 83, none, .fieldAddr 1 (.tmp 3)⟩,
  ⟨some 84, none, .load 1 false (.tmp 83)⟩,
  ⟨some 85, none, .mov (.tmp 5)⟩,
  ⟨some 86, none, .indexStr (.tmp 84) (.tmp 85)⟩,
  ⟨some 87, none, .bin .sub (.tmp 86) (.const (.int .u8 48))⟩,
  ⟨some 88, none, .conv .i64 (.tmp 87)⟩,
  ⟨some 89, none, .bin .add (.tmp 82) (.tmp 88)⟩,
  ⟨some 4, none, .mov (.tmp 89)⟩])
def k_ref8_P_term_p5 : ACode := (.seq (.region [⟨some 76, none, .fieldAddr 1 (.tmp 3)⟩,
  ⟨some 77, none, .load 1 false (.tmp 76)⟩,
  ⟨some 78, none, .mov (.tmp 5)⟩,
  ⟨some 79, none, .indexStr (.tmp 77) (.tmp 78)⟩,
  ⟨some 80, none, .bin .neq (.tmp 79) (.const (.int .u8 45))⟩])
 (.cond (.tmp 80) k_ref8_P_term_p4 .skip))
def k_ref8_P_term_p6 : ACode := (.seq (.seq (.region [⟨some 69, none, .mov (.tmp 5)⟩,
  ⟨some 70, none, .fieldAddr 1 (.tmp 3)⟩,
  ⟨some 71, none, .load 1 false (.tmp 70)⟩,
  ⟨some 72, none, .lenStr (.tmp 71)⟩,
  ⟨some 73, none, .bin .lss (.tmp 69) (.tmp 72)⟩])
 (.cond (.tmp 73) .skip (.exit 1)))
 (.seq (.block 2 k_ref8_P_term_p5)
 (.region [⟨some 74, none, .mov (.tmp 5)⟩,
  ⟨some 75, none, .bin .add (.tmp 74) (.const (.int .i64 1))⟩,
  ⟨some 5, none, .mov (.tmp 75)⟩])))
def k_ref8_P_term_p7 : ACode := (.seq (.region [⟨some 92, none, .mov (.tmp 0)⟩,
  ⟨some 93, none, .call (.const (.func (.func n_ref8_P_bad) [] [])) [(.tmp 92), (.const (.int .i64 4))]⟩])
 (.seq (.region [⟨some 94, none, .build [(.int .i64 0), (.str []), (.int .i64 0)] []⟩,
  ⟨none, none, .store 3 (.tmp 2) (.tmp 94)⟩])
 .ret))
def k_ref8_P_term : AFun := ⟨103, [.cell 2 3 true], (.seq (.region [⟨some 2, none, .alloc [(.int .i64 0), (.str []), (.int .i64 0)]⟩])
 (.seq (.seq (.region [⟨some 6, none, .mov (.tmp 0)⟩,
  ⟨some 7, none, .nilCheck (.tmp 6)⟩,
  ⟨some 8, none, .fieldAddr 2 (.tmp 7)⟩,
  ⟨some 9, none, .load 1 false (.tmp 8)⟩,
  ⟨some 10, none, .bin .neq (.tmp 9) (.const (.int .i64 0))⟩,
  ⟨some 11, none, .mov (.tmp 10)⟩,
  ⟨some 12, (some (11, false)), .mov (.tmp 0)⟩,
  ⟨some 13, (some (11, false)), .nilCheck (.tmp 12)⟩,
  ⟨some 14, (some (11, false)), .fieldAddr 1 (.tmp 13)⟩,
  ⟨some 15, (some (11, false)), .load 1 false (.tmp 14)⟩,
  ⟨some 16, (some (11, false)), .mov (.tmp 0)⟩,
  ⟨some 17, (some (11, false)), .nilCheck (.tmp 16)⟩,
  ⟨some 18, (some (11, false)), .fieldAddr 0 (.tmp 17)⟩,
  ⟨some 19, (some (11, false)), .load 1 false (.tmp 18)⟩,
  ⟨some 20, (some (11, false)), .lenSl (.tmp 19)⟩,
  ⟨some 21, (some (11, false)), .bin .geq (.tmp 15) (.tmp 20)⟩,
  ⟨some 22, none, .pick (.tmp 11) (.const (.bool true)) (.tmp 21)⟩,
  ⟨some 23, none, .mov (.tmp 22)⟩,
  ⟨some 24, (some (23, false)), .mov (.tmp 0)⟩,
  ⟨some 25, (some (23, false)), .nilCheck (.tmp 24)⟩,
  ⟨some 26, (some (23, false)), .fieldAddr 0 (.tmp 25)⟩,
  ⟨some 27, (some (23, false)), .load 1 false (.tmp 26)⟩,
  ⟨some 28, (some (23, false)), .mov (.tmp 0)⟩,
  ⟨some 29, (some (23, false)), .nilCheck (.tmp 28)⟩,
  ⟨some 30, (some (23, false)), .fieldAddr 1 (.tmp 29)⟩,
  ⟨some 31, (some (23, false)), .load 1 false (.tmp 30)⟩,
  ⟨some 32, (some (23, false)), .indexAddr 3 (.tmp 27) (.tmp 31)⟩,
  ⟨some 33, (some (23, false)), .fieldAddr 0 (.tmp 32)⟩,
  ⟨some 34, (some (23, false)), .load 1 false (.tmp 33)⟩,
  ⟨some 35, (some (23, false)), .bin .eql (.tmp 34) (.const (.int .i64 4))⟩,
  ⟨some 36, none, .pick (.tmp 23) (.const (.bool true)) (.tmp 35)⟩])
 (.cond (.tmp 36) k_ref8_P_term_p0 .skip))
 (.seq (.drawn [⟨⟨some 40, none, .mov (.tmp 0)⟩, false, [], []⟩,
  ⟨⟨some 41, none, .nilCheck (.tmp 40)⟩, false, [0], []⟩,
  ⟨⟨some 42, none, .fieldAddr 0 (.tmp 41)⟩, false, [0, 1], []⟩,
  ⟨⟨some 43, none, .load 1 false (.tmp 42)⟩, false, [1, 0, 2], []⟩,
  ⟨⟨some 44, none, .mov (.tmp 0)⟩, false, [], []⟩,
  ⟨⟨some 45, none, .nilCheck (.tmp 44)⟩, false, [4], []⟩,
  ⟨⟨some 46, none, .fieldAddr 1 (.tmp 45)⟩, false, [4, 5], []⟩,
  ⟨⟨some 47, none, .load 1 false (.tmp 46)⟩, false, [5, 4, 6], []⟩,
  ⟨⟨some 48, none, .indexAddr 3 (.tmp 43) (.tmp 47)⟩, false, [2, 0, 1, 3, 6, 4, 5, 7], []⟩,
  ⟨⟨some 49, none, .load 3 true (.tmp 48)⟩, false, [7, 5, 4, 6, 3, 1, 0, 2, 8], []⟩,
  ⟨⟨some 3, none, .alloc [(.int .i64 0), (.str []), (.int .i64 0)]⟩, true, [], []⟩,
  ⟨⟨none, none, .store 3 (.tmp 3) (.tmp 49)⟩, true, [8, 2, 0, 1, 3, 6, 4, 5, 7, 9, 10], []⟩])
 (.seq (.region [⟨some 50, none, .mov (.tmp 0)⟩,
  ⟨some 51, none, .nilCheck (.tmp 50)⟩,
  ⟨some 52, none, .fieldAddr 1 (.tmp 51)⟩,
  ⟨some 53, none, .load 1 false (.tmp 52)⟩,
  ⟨some 54, none, .bin .add (.tmp 53) (.const (.int .i64 1))⟩,
  ⟨some 55, none, .nilCheck (.tmp 50)⟩,
  ⟨some 56, none, .fieldAddr 1 (.tmp 55)⟩,
  ⟨none, none, .store 1 (.tmp 56) (.tmp 54)⟩])
 (.seq (.seq (.region [⟨some 57, none, .fieldAddr 0 (.tmp 3)⟩,
  ⟨some 58, none, .load 1 false (.tmp 57)⟩])
 (.block 0 k_ref8_P_term_p3))
 (.seq (.region [⟨some 4, none, .mov (.const (.int .i64 0))⟩])
 (.seq (.seq (.region [⟨some 5, none, .mov (.const (.int .i64 0))⟩])
 (.block 1 (.loop k_ref8_P_term_p6)))
 (.seq (.seq (.region [⟨some 90, none, .mov (.tmp 4)⟩,
  ⟨some 91, none, .bin .gtr (.tmp 90) (.const (.int .i64 2147483648))⟩])
 (.cond (.tmp 91) k_ref8_P_term_p7 .skip))
 (.seq (.seq (.region [⟨some 95, none, .fieldAddr 1 (.tmp 3)⟩,
  ⟨some 96, none, .load 1 false (.tmp 95)⟩,
  ⟨some 97, none, .indexStr (.tmp 96) (.const (.int .i64 0))⟩,
  ⟨some 98, none, .bin .eql (.tmp 97) (.const (.int .u8 45))⟩])
 (.cond (.tmp 98) (.region [⟨some 99, none, .mov (.tmp 4)⟩,
  ⟨some 100, none, .un .neg (.tmp 99)⟩,
  ⟨some 4, none, .mov (.tmp 100)⟩]) .skip))
 (.seq (.region [⟨some 101, none, .mov (.tmp 4)⟩,
  ⟨some 102, none, .build [(.int .i64 0), (.str []), (.int .i64 0)] [(0, 1, (.const (.int .i64 3))), (2, 1, (.tmp 101))]⟩,
  ⟨none, none, .store 3 (.tmp 2) (.tmp 102)⟩])
 .ret))))))))))⟩
theorem c_ref8_P_term : (XTab.of Try.prog).code 77 = some k_ref8_P_term := by kernel_rfl

/-! delphi/delphiref8.compare -/
def k_ref8_compare_p0 : ACode := (.seq (.region [⟨some 9, none, .bin .eql (.tmp 3) (.const (.str [60]))⟩,
  ⟨some 8, none, .mov (.tmp 9)⟩])
 (.cond (.tmp 8) (.seq (.region [⟨some 2, none, .mov (.const (.int .i64 5))⟩])
 .ret) (.seq (.region [⟨some 11, none, .bin .eql (.tmp 3) (.const (.str [60, 61]))⟩,
  ⟨some 10, none, .mov (.tmp 11)⟩])
 (.cond (.tmp 10) (.seq (.region [⟨some 2, none, .mov (.const (.int .i64 6))⟩])
 .ret) .skip))))
def k_ref8_compare_p1 : ACode := (.seq (.region [⟨some 5, none, .bin .eql (.tmp 3) (.const (.str [61]))⟩,
  ⟨some 4, none, .mov (.tmp 5)⟩])
 (.cond (.tmp 4) (.seq (.region [⟨some 2, none, .mov (.const (.int .i64 3))⟩])
 .ret) (.seq (.region [⟨some 7, none, .bin .eql (.tmp 3) (.const (.str [33, 61]))⟩,
  ⟨some 6, none, .mov (.tmp 7)⟩])
 (.cond (.tmp 6) (.seq (.region [⟨some 2, none, .mov (.const (.int .i64 4))⟩])
 .ret) k_ref8_compare_p0))))
def k_ref8_compare : AFun := ⟨12, [.tmp 2], (.seq (.region [⟨some 2, none, .mov (.const (.int .i64 0))⟩])
 (.seq (.seq (.region [⟨some 3, none, .mov (.tmp 0)⟩])
 (.block 0 k_ref8_compare_p1))
 (.seq (.region [⟨some 2, none, .mov (.const (.int .i64 0))⟩])
 .ret)))⟩
theorem c_ref8_compare : (XTab.of Try.prog).code 78 = some k_ref8_compare := by kernel_rfl

/-! strings.IndexByte -/

/-! delphi/lex.small -/

/-! delphi/lex.run -/
def k_lex_run_p0 : ACode := (.seq (.seq (.region [⟨some 6, none, .mov (.tmp 5)⟩,
  ⟨some 7, none, .mov (.tmp 0)⟩,
  ⟨some 8, none, .lenStr (.tmp 7)⟩,
  ⟨some 9, none, .bin .lss (.tmp 6) (.tmp 8)⟩,
  ⟨some 10, none, .mov (.tmp 9)⟩,
  ⟨some 11, (some (10, true)), .mov (.tmp 1)⟩,
  ⟨some 12, (some (10, true)), .mov (.tmp 0)⟩,
  ⟨some 13, (some (10, true)), .mov (.tmp 5)⟩,
  ⟨some 14, (some (10, true)), .indexStr (.tmp 12) (.tmp 13)⟩,
  ⟨some 15, (some (10, true)), .call (.tmp 11) [(.tmp 14)]⟩,
  ⟨some 16, none, .pick (.tmp 10) (.tmp 15) (.const (.bool false))⟩])
 (.cond (.tmp 16) .skip (.exit 0)))
 (.block 1 (.region [⟨some 17, none, .mov (.tmp 5)⟩,
  ⟨some 18, none, .bin .add (.tmp 17) (.const (.int .i64 1))⟩,
  ⟨some 5, none, .mov (.tmp 18)⟩])))
def k_lex_run : AFun := ⟨20, [.tmp 4], (.seq (.region [⟨some 4, none, .mov (.const (.int .i64 0))⟩])
 (.seq (.region [⟨some 5, none, .mov (.const (.int .i64 0))⟩])
 (.seq (.block 0 (.loop k_lex_run_p0))
 (.seq (.region [⟨some 19, none, .mov (.tmp 5)⟩,
  ⟨some 4, none, .mov (.tmp 19)⟩])
 .ret))))⟩
theorem c_lex_run : (XTab.of Try.prog).code 81 = some k_lex_run := by kernel_rfl

/-! delphi/lex.named -/

/-! delphi/lex.great -/

/-! delphi/lex.word$1 -/

/-! delphi/lex.digit -/

/-! delphi/lex.number -/
/-! strings.HasPrefix -/

/-! container/heap.up -/
def k_heap_up_p0 : ACode := (.seq (.region [⟨some 18, none, .mov (.tmp 0)⟩,
  ⟨some 19, none, .mov (.tmp 4)⟩,
  ⟨some 20, none, .mov (.tmp 1)⟩,
  ⟨some 21, none, .inv [(122, n_plan_queue_Swap, (some (1, false))), (124, n_plan_queue_Swap, none)] (.tmp 18) [(.tmp 19), (.tmp 20)]⟩])
 (.region [⟨some 22, none, .mov (.tmp 4)⟩,
  ⟨some 1, none, .mov (.tmp 22)⟩]))
def k_heap_up_p1 : ACode := (.seq (.seq (.region [⟨some 8, none, .mov (.tmp 4)⟩,
  ⟨some 9, none, .mov (.tmp 1)⟩,
  ⟨some 10, none, .bin .eql (.tmp 8) (.tmp 9)⟩,
  ⟨some 11, none, .mov (.tmp 10)⟩,
  ⟨some 12, (some (11, false)), .mov (.tmp 0)⟩,
  ⟨some 13, (some (11, false)), .mov (.tmp 1)⟩,
  ⟨some 14, (some (11, false)), .mov (.tmp 4)⟩,
  ⟨some 15, (some (11, false)), .inv [(122, n_plan_queue_Less, (some (1, false))), (124, n_plan_queue_Less, none)] (.tmp 12) [(.tmp 13), (.tmp 14)]⟩,
  ⟨some 16, (some (11, false)), .un .not (.tmp 15)⟩,
  ⟨some 17, none, .pick (.tmp 11) (.const (.bool true)) (.tmp 16)⟩])
 (.cond (.tmp 17) (.exit 0) .skip))
 k_heap_up_p0)
def k_heap_up_p2 : ACode := (.block 1 (.seq (.region [⟨some 5, none, .mov (.tmp 1)⟩,
  ⟨some 6, none, .bin .sub (.tmp 5) (.const (.int .i64 1))⟩,
  ⟨some 7, none, .bin .quo (.tmp 6) (.const (.int .i64 2))⟩,
  ⟨some 4, none, .mov (.tmp 7)⟩])
 k_heap_up_p1))
def k_heap_up : AFun := ⟨23, [], (.block 0 (.loop k_heap_up_p2))⟩
theorem c_heap_up : (XTab.of Try.prog).code 88 = some k_heap_up := by kernel_rfl

/-! container/heap.down -/
def k_heap_down_p0 : ACode := (.region [⟨some 34, none, .mov (.tmp 10)⟩,
  ⟨some 9, none, .mov (.tmp 34)⟩])
def k_heap_down_p1 : ACode := (.seq (.region [⟨some 25, none, .mov (.tmp 10)⟩,
  ⟨some 26, none, .mov (.tmp 2)⟩,
  ⟨some 27, none, .bin .lss (.tmp 25) (.tmp 26)⟩,
  ⟨some 28, none, .mov (.tmp 27)⟩,
  ⟨some 29, (some (28, true)), .mov (.tmp 0)⟩,
  ⟨some 30, (some (28, true)), .mov (.tmp 10)⟩,
  ⟨some 31, (some (28, true)), .mov (.tmp 8)⟩,
  ⟨some 32, (some (28, true)), .inv [(122, n_plan_queue_Less, (some (1, false))), (124, n_plan_queue_Less, none)] (.tmp 29) [(.tmp 30), (.tmp 31)]⟩,
  ⟨some 33, none, .pick (.tmp 28) (.tmp 32) (.const (.bool false))⟩])
 (.cond (.tmp 33) k_heap_down_p0 .skip))
def k_heap_down_p2 : ACode := (.seq (.region [⟨some 40, none, .mov (.tmp 0)⟩,
  ⟨some 41, none, .mov (.tmp 7)⟩,
  ⟨some 42, none, .mov (.tmp 9)⟩,
  ⟨some 43, none, .inv [(122, n_plan_queue_Swap, (some (1, false))), (124, n_plan_queue_Swap, none)] (.tmp 40) [(.tmp 41), (.tmp 42)]⟩])
 (.region [⟨some 44, none, .mov (.tmp 9)⟩,
  ⟨some 7, none, .mov (.tmp 44)⟩]))
def k_heap_down_p3 : ACode := (.seq (.seq (.region [⟨some 35, none, .mov (.tmp 0)⟩,
  ⟨some 36, none, .mov (.tmp 9)⟩,
  ⟨some 37, none, .mov (.tmp 7)⟩,
  ⟨some 38, none, .inv [(122, n_plan_queue_Less, (some (1, false))), (124, n_plan_queue_Less, none)] (.tmp 35) [(.tmp 36), (.tmp 37)]⟩,
  ⟨some 39, none, .un .not (.tmp 38)⟩])
 (.cond (.tmp 39) (.exit 0) .skip))
 k_heap_down_p2)
def k_heap_down_p4 : ACode := (.seq (.region [⟨some 22, none, .mov (.tmp 8)⟩,
  ⟨some 9, none, .mov (.tmp 22)⟩])
 (.seq (.seq (.region [⟨some 23, none, .mov (.tmp 8)⟩,
  ⟨some 24, none, .bin .add (.tmp 23) (.const (.int .i64 1))⟩,
  ⟨some 10, none, .mov (.tmp 24)⟩])
 k_heap_down_p1)
 k_heap_down_p3))
def k_heap_down_p5 : ACode := (.seq (.seq (.region [⟨some 15, none, .mov (.tmp 8)⟩,
  ⟨some 16, none, .mov (.tmp 2)⟩,
  ⟨some 17, none, .bin .geq (.tmp 15) (.tmp 16)⟩,
  ⟨some 18, none, .mov (.tmp 17)⟩,
  ⟨some 19, (some (18, false)), .mov (.tmp 8)⟩,
  ⟨some 20, (some (18, false)), .bin .lss (.tmp 19) (.const (.int .i64 0))⟩,
  ⟨some 21, none, .pick (.tmp 18) (.const (.bool true)) (.tmp 20)⟩])
 (.cond (.tmp 21) (.exit 0) .skip))
 k_heap_down_p4)
def k_heap_down_p6 : ACode := (.block 1 (.seq (.region [⟨some 12, none, .mov (.tmp 7)⟩,
  ⟨some 13, none, .bin .mul (.const (.int .i64 2)) (.tmp 12)⟩,
  ⟨some 14, none, .bin .add (.tmp 13) (.const (.int .i64 1))⟩,
  ⟨some 8, none, .mov (.tmp 14)⟩])
 k_heap_down_p5))
def k_heap_down_p7 : ACode := (.seq (.region [⟨some 11, none, .mov (.tmp 1)⟩,
  ⟨some 7, none, .mov (.tmp 11)⟩])
 (.seq (.block 0 (.loop k_heap_down_p6))
 (.seq (.region [⟨some 45, none, .mov (.tmp 7)⟩,
  ⟨some 46, none, .mov (.tmp 1)⟩,
  ⟨some 47, none, .bin .gtr (.tmp 45) (.tmp 46)⟩,
  ⟨some 6, none, .mov (.tmp 47)⟩])
 .ret)))
def k_heap_down : AFun := ⟨48, [.tmp 6], (.seq (.region [⟨some 6, none, .mov (.const (.bool false))⟩])
 k_heap_down_p7)⟩
theorem c_heap_down : (XTab.of Try.prog).code 89 = some k_heap_down := by kernel_rfl

/-! cmp.Compare[int] -/

/-! slices.rotateLeft[delphi/relation.Row] -/

/-! internal/stringslite.IndexByte -/

/-! internal/stringslite.HasPrefix -/

/-! cmp.isNaN[int] -/

/-! slices.Reverse[[]delphi/relation.Row,delphi/relation.Row] -/
/-! (delphi/plan.queue).Len -/

def k_plan_queue_Len : AFun := ⟨5, [.tmp 2], (.seq (.region [⟨some 2, none, .mov (.const (.int .i64 0))⟩])
 (.seq (.region [⟨some 3, none, .mov (.tmp 0)⟩,
  ⟨some 4, none, .lenSl (.tmp 3)⟩,
  ⟨some 2, none, .mov (.tmp 4)⟩])
 .ret))⟩
theorem c_plan_queue_Len : (XTab.of Try.prog).code 113 = some k_plan_queue_Len := by kernel_rfl

/-! (delphi/plan.queue).Less -/
def k_plan_queue_Less_p0 : ACode := (.seq (.region [⟨some 31, none, .fieldAddr 2 (.tmp 7)⟩,
  ⟨some 32, none, .load 1 false (.tmp 31)⟩,
  ⟨some 33, none, .fieldAddr 2 (.tmp 8)⟩,
  ⟨some 34, none, .load 1 false (.tmp 33)⟩,
  ⟨some 35, none, .bin .gtr (.tmp 32) (.tmp 34)⟩,
  ⟨some 6, none, .mov (.tmp 35)⟩])
 .ret)
def k_plan_queue_Less_p1 : ACode := (.seq (.region [⟨some 23, none, .fieldAddr 1 (.tmp 8)⟩,
  ⟨some 24, none, .load 1 false (.tmp 23)⟩,
  ⟨some 6, none, .mov (.tmp 24)⟩])
 .ret)
def k_plan_queue_Less_p2 : ACode := (.seq (.region [⟨some 26, none, .fieldAddr 2 (.tmp 7)⟩,
  ⟨some 27, none, .load 1 false (.tmp 26)⟩,
  ⟨some 28, none, .fieldAddr 2 (.tmp 8)⟩,
  ⟨some 29, none, .load 1 false (.tmp 28)⟩,
  ⟨some 30, none, .bin .neq (.tmp 27) (.tmp 29)⟩,
  ⟨some 25, none, .mov (.tmp 30)⟩])
 (.cond (.tmp 25) k_plan_queue_Less_p0 .skip))
def k_plan_queue_Less_p3 : ACode := (.seq (.region [⟨some 18, none, .fieldAddr 1 (.tmp 7)⟩,
  ⟨some 19, none, .load 1 false (.tmp 18)⟩,
  ⟨some 20, none, .fieldAddr 1 (.tmp 8)⟩,
  ⟨some 21, none, .load 1 false (.tmp 20)⟩,
  ⟨some 22, none, .eqv true .bool (.tmp 19) (.tmp 21)⟩,
  ⟨some 17, none, .mov (.tmp 22)⟩])
 (.cond (.tmp 17) k_plan_queue_Less_p1 k_plan_queue_Less_p2))
def k_plan_queue_Less_p4 : ACode := (.seq (.region [⟨some 36, none, .fieldAddr 0 (.tmp 7)⟩,
  ⟨some 37, none, .load 1 false (.tmp 36)⟩,
  ⟨some 38, none, .fieldAddr 0 (.tmp 8)⟩,
  ⟨some 39, none, .load 1 false (.tmp 38)⟩,
  ⟨some 40, none, .bin .lss (.tmp 37) (.tmp 39)⟩,
  ⟨some 6, none, .mov (.tmp 40)⟩])
 .ret)
def k_plan_queue_Less_p5 : ACode := (.seq (.drawn [⟨⟨some 9, none, .mov (.tmp 0)⟩, false, [], []⟩,
  ⟨⟨some 10, none, .mov (.tmp 1)⟩, false, [], []⟩,
  ⟨⟨some 11, none, .indexAddr 3 (.tmp 9) (.tmp 10)⟩, false, [0, 1], []⟩,
  ⟨⟨some 12, none, .load 3 true (.tmp 11)⟩, false, [1, 0, 2], []⟩,
  ⟨⟨some 13, none, .mov (.tmp 0)⟩, false, [], []⟩,
  ⟨⟨some 14, none, .mov (.tmp 2)⟩, false, [], []⟩,
  ⟨⟨some 15, none, .indexAddr 3 (.tmp 13) (.tmp 14)⟩, false, [4, 5], []⟩,
  ⟨⟨some 16, none, .load 3 true (.tmp 15)⟩, false, [5, 4, 6], []⟩,
  ⟨⟨some 7, none, .alloc [(.int .i64 0), (.bool false), (.int .i64 0)]⟩, true, [], []⟩,
  ⟨⟨some 8, none, .alloc [(.int .i64 0), (.bool false), (.int .i64 0)]⟩, true, [], []⟩,
  ⟨⟨none, none, .store 3 (.tmp 7) (.tmp 12)⟩, true, [2, 0, 1, 3, 8, 9], []⟩,
  ⟨⟨none, none, .store 3 (.tmp 8) (.tmp 16)⟩, true, [6, 4, 5, 7, 9, 8, 3, 1, 0, 2, 10], []⟩])
 (.seq (.block 0 k_plan_queue_Less_p3)
 k_plan_queue_Less_p4))
def k_plan_queue_Less : AFun := ⟨41, [.tmp 6], (.seq (.region [⟨some 6, none, .mov (.const (.bool false))⟩])
 k_plan_queue_Less_p5)⟩
theorem c_plan_queue_Less : (XTab.of Try.prog).code 114 = some k_plan_queue_Less := by kernel_rfl

/-! (*delphi/plan.queue).Pop -/
def k_plan_queue_Pop_p0 : ACode := (.seq (.region [⟨some 14, none, .mov (.tmp 0)⟩,
  ⟨some 15, none, .mov (.tmp 0)⟩,
  ⟨some 16, none, .nilCheck (.tmp 15)⟩,
  ⟨some 17, none, .load 1 false (.tmp 16)⟩,
  ⟨some 18, none, .mov (.tmp 0)⟩,
  ⟨some 19, none, .nilCheck (.tmp 18)⟩,
  ⟨some 20, none, .load 1 false (.tmp 19)⟩,
  ⟨some 21, none, .lenSl (.tmp 20)⟩,
  ⟨some 22, none, .bin .sub (.tmp 21) (.const (.int .i64 1))⟩,
  ⟨some 23, none, .slice 3 (.tmp 17) none (some (.tmp 22)) none⟩,
  ⟨some 24, none, .nilCheck (.tmp 14)⟩,
  ⟨none, none, .store 1 (.tmp 24) (.tmp 23)⟩])
 (.seq (.region [⟨some 25, none, .load 3 true (.tmp 3)⟩,
  ⟨some 26, none, .mkIface 128 (.tmp 25)⟩,
  ⟨some 2, none, .mov (.tmp 26)⟩])
 .ret))
def k_plan_queue_Pop_p1 : ACode := (.seq (.drawn [⟨⟨some 4, none, .mov (.tmp 0)⟩, false, [], []⟩,
  ⟨⟨some 5, none, .nilCheck (.tmp 4)⟩, false, [0], []⟩,
  ⟨⟨some 6, none, .load 1 false (.tmp 5)⟩, false, [0, 1], []⟩,
  ⟨⟨some 7, none, .mov (.tmp 0)⟩, false, [], []⟩,
  ⟨⟨some 8, none, .nilCheck (.tmp 7)⟩, false, [3], []⟩,
  ⟨⟨some 9, none, .load 1 false (.tmp 8)⟩, false, [3, 4], []⟩,
  ⟨⟨some 10, none, .lenSl (.tmp 9)⟩, false, [4, 3, 5], []⟩,
  ⟨⟨some 11, none, .bin .sub (.tmp 10) (.const (.int .i64 1))⟩, false, [5, 3, 4, 6], []⟩,
  ⟨⟨some 12, none, .indexAddr 3 (.tmp 6) (.tmp 11)⟩, false, [1, 0, 2, 6, 4, 3, 5, 7], []⟩,
  ⟨⟨some 13, none, .load 3 true (.tmp 12)⟩, false, [7, 5, 3, 4, 6, 2, 0, 1, 8], []⟩,
  ⟨⟨some 3, none, .alloc [(.int .i64 0), (.bool false), (.int .i64 0)]⟩, true, [], []⟩,
  ⟨⟨none, none, .store 3 (.tmp 3) (.tmp 13)⟩, true, [8, 1, 0, 2, 6, 4, 3, 5, 7, 9, 10], []⟩])
 k_plan_queue_Pop_p0)
def k_plan_queue_Pop : AFun := ⟨27, [.tmp 2], (.seq (.region [⟨some 2, none, .mov (.const .niliface)⟩])
 k_plan_queue_Pop_p1)⟩
theorem c_plan_queue_Pop : (XTab.of Try.prog).code 115 = some k_plan_queue_Pop := by kernel_rfl

/-! (*delphi/plan.queue).Push -/
def k_plan_queue_Push_p0 : ACode := (.drawn [⟨⟨some 12, none, .mov (.tmp 0)⟩, false, [], []⟩,
  ⟨⟨some 13, none, .mov (.tmp 0)⟩, false, [], []⟩,
  ⟨⟨some 14, none, .nilCheck (.tmp 13)⟩, false, [1], []⟩,
  ⟨⟨some 15, none, .load 1 false (.tmp 14)⟩, false, [1, 2], []⟩,
  ⟨⟨some 16, none, .load 3 true (.tmp 4)⟩, false, [], []⟩,
  ⟨⟨some 17, none, .buildSlice 1 [(.int .i64 0), (.bool false), (.int .i64 0)] [(0, 3, (.tmp 16))]⟩, true, [4], []⟩,
  ⟨⟨some 18, none, .append 3 24 (.tmp 15) (.tmp 17)⟩, true, [2, 1, 3, 4, 5], []⟩,
  ⟨⟨some 19, none, .nilCheck (.tmp 12)⟩, false, [0, 5, 4, 3, 1, 2, 6], []⟩,
  ⟨⟨none, none, .store 1 (.tmp 19) (.tmp 18)⟩, true, [7, 0, 5, 4, 3, 1, 2, 6], []⟩])
def k_plan_queue_Push : AFun := ⟨20, [], (.seq (.region [⟨some 7, none, .mov (.tmp 1)⟩,
  ⟨some 8, none, .typeAssert 128 (.agg [(.int .i64 0), (.bool false), (.int .i64 0)]) true (.tmp 7)⟩,
  ⟨some 6, none, .mov (.tmp 8)⟩,
  ⟨some 9, none, .extract 0 (.tmp 6)⟩,
  ⟨some 10, none, .extract 1 (.tmp 6)⟩,
  ⟨some 4, none, .alloc [(.int .i64 0), (.bool false), (.int .i64 0)]⟩,
  ⟨none, none, .store 3 (.tmp 4) (.tmp 9)⟩,
  ⟨some 5, none, .mov (.tmp 10)⟩])
 (.seq (.region [⟨some 11, none, .mov (.tmp 5)⟩])
 (.cond (.tmp 11) k_plan_queue_Push_p0 .skip)))⟩
theorem c_plan_queue_Push : (XTab.of Try.prog).code 116 = some k_plan_queue_Push := by kernel_rfl

/-! (delphi/plan.queue).Swap -/

def k_plan_queue_Swap : AFun := ⟨20, [], (.region [⟨some 6, none, .mov (.tmp 0)⟩,
  ⟨some 7, none, .mov (.tmp 1)⟩,
  ⟨some 8, none, .mov (.tmp 0)⟩,
  ⟨some 9, none, .mov (.tmp 2)⟩,
  ⟨some 10, none, .mov (.tmp 0)⟩,
  ⟨some 11, none, .mov (.tmp 2)⟩,
  ⟨some 12, none, .indexAddr 3 (.tmp 10) (.tmp 11)⟩,
  ⟨some 13, none, .load 3 true (.tmp 12)⟩,
  ⟨some 14, none, .mov (.tmp 0)⟩,
  ⟨some 15, none, .mov (.tmp 1)⟩,
  ⟨some 16, none, .indexAddr 3 (.tmp 14) (.tmp 15)⟩,
  ⟨some 17, none, .load 3 true (.tmp 16)⟩,
  ⟨some 18, none, .indexAddr 3 (.tmp 6) (.tmp 7)⟩,
  ⟨none, none, .store 3 (.tmp 18) (.tmp 13)⟩,
  ⟨some 19, none, .indexAddr 3 (.tmp 8) (.tmp 9)⟩,
  ⟨none, none, .store 3 (.tmp 19) (.tmp 17)⟩])⟩
theorem c_plan_queue_Swap : (XTab.of Try.prog).code 117 = some k_plan_queue_Swap := by kernel_rfl

end Go.Proofs.Ytjidefnbancmfaa

namespace Go.Proofs.Ytjidefnbancmfaa
open Go.AE
structure Codes (tab : Tab) : Prop where
  c_law12_PlanAll : tab.code 9 = some k_law12_PlanAll
  c_law9_Rules : tab.code 14 = some k_law9_Rules
  c_check_Safe : tab.code 15 = some k_check_Safe
  c_ref8_Safe : tab.code 16 = some k_ref8_Safe
  c_law1_Cut : tab.code 24 = some k_law1_Cut
  c_ref8_Scan : tab.code 26 = some k_ref8_Scan
  c_plan_Make : tab.code 28 = some k_plan_Make
  c_ref8_Plan : tab.code 29 = some k_ref8_Plan
  c_ref8_Program : tab.code 42 = some k_ref8_Program
  c_check_Vars : tab.code 43 = some k_check_Vars
  c_ref8_binds : tab.code 44 = some k_ref8_binds
  c_ref8_word : tab.code 48 = some k_ref8_word
  c_plan_work_take : tab.code 49 = some k_plan_work_take
  c_plan_work_best : tab.code 50 = some k_plan_work_best
  c_ref8_vars : tab.code 51 = some k_ref8_vars
  c_ref8_bound : tab.code 52 = some k_ref8_bound
  c_ref8_P_atom : tab.code 58 = some k_ref8_P_atom
  c_ref8_P_sign : tab.code 59 = some k_ref8_P_sign
  c_ref8_P_literal : tab.code 60 = some k_ref8_P_literal
  c_ref8_P_bad : tab.code 61 = some k_ref8_P_bad
  c_ref8_P_eat : tab.code 62 = some k_ref8_P_eat
  c_ref8_small : tab.code 65 = some k_ref8_small
  c_ref8_digit : tab.code 66 = some k_ref8_digit
  c_ref8_great : tab.code 67 = some k_ref8_great
  c_plan_work_count : tab.code 68 = some k_plan_work_count
  c_heap_Push : tab.code 69 = some k_heap_Push
  c_heap_Pop : tab.code 70 = some k_heap_Pop
  c_ref8_place : tab.code 71 = some k_ref8_place
  c_ref8_P_term : tab.code 77 = some k_ref8_P_term
  c_ref8_compare : tab.code 78 = some k_ref8_compare
  c_lex_run : tab.code 81 = some k_lex_run
  c_heap_up : tab.code 88 = some k_heap_up
  c_heap_down : tab.code 89 = some k_heap_down
  c_plan_queue_Len : tab.code 113 = some k_plan_queue_Len
  c_plan_queue_Less : tab.code 114 = some k_plan_queue_Less
  c_plan_queue_Pop : tab.code 115 = some k_plan_queue_Pop
  c_plan_queue_Push : tab.code 116 = some k_plan_queue_Push
  c_plan_queue_Swap : tab.code 117 = some k_plan_queue_Swap
theorem codesOf {tab : Tab} (h : tab.code = (XTab.of Try.prog).code) : Codes tab where
  c_law12_PlanAll := h ▸ c_law12_PlanAll
  c_law9_Rules := h ▸ c_law9_Rules
  c_check_Safe := h ▸ c_check_Safe
  c_ref8_Safe := h ▸ c_ref8_Safe
  c_law1_Cut := h ▸ c_law1_Cut
  c_ref8_Scan := h ▸ c_ref8_Scan
  c_plan_Make := h ▸ c_plan_Make
  c_ref8_Plan := h ▸ c_ref8_Plan
  c_ref8_Program := h ▸ c_ref8_Program
  c_check_Vars := h ▸ c_check_Vars
  c_ref8_binds := h ▸ c_ref8_binds
  c_ref8_word := h ▸ c_ref8_word
  c_plan_work_take := h ▸ c_plan_work_take
  c_plan_work_best := h ▸ c_plan_work_best
  c_ref8_vars := h ▸ c_ref8_vars
  c_ref8_bound := h ▸ c_ref8_bound
  c_ref8_P_atom := h ▸ c_ref8_P_atom
  c_ref8_P_sign := h ▸ c_ref8_P_sign
  c_ref8_P_literal := h ▸ c_ref8_P_literal
  c_ref8_P_bad := h ▸ c_ref8_P_bad
  c_ref8_P_eat := h ▸ c_ref8_P_eat
  c_ref8_small := h ▸ c_ref8_small
  c_ref8_digit := h ▸ c_ref8_digit
  c_ref8_great := h ▸ c_ref8_great
  c_plan_work_count := h ▸ c_plan_work_count
  c_heap_Push := h ▸ c_heap_Push
  c_heap_Pop := h ▸ c_heap_Pop
  c_ref8_place := h ▸ c_ref8_place
  c_ref8_P_term := h ▸ c_ref8_P_term
  c_ref8_compare := h ▸ c_ref8_compare
  c_lex_run := h ▸ c_lex_run
  c_heap_up := h ▸ c_heap_up
  c_heap_down := h ▸ c_heap_down
  c_plan_queue_Len := h ▸ c_plan_queue_Len
  c_plan_queue_Less := h ▸ c_plan_queue_Less
  c_plan_queue_Pop := h ▸ c_plan_queue_Pop
  c_plan_queue_Push := h ▸ c_plan_queue_Push
  c_plan_queue_Swap := h ▸ c_plan_queue_Swap
end Go.Proofs.Ytjidefnbancmfaa

set_option linter.unusedVariables false
set_option linter.unusedSimpArgs false
namespace Go.AE

section
variable {tab : Tab}
def WX (tab : Tab) (c : ACode) (fr : Fr) (aw : AW) (Q : AExit → Fr → AW → Prop) : Prop := ∃ e fr' aw', Exec tab c fr aw e fr' aw' ∧ Q e fr' aw'
def WO (tab : Tab) (l : List AOper) (fr : Fr) (aw : AW) (K : Fr → AW → Prop) : Prop := ∃ fr' aw', Ops tab l fr aw fr' aw' ∧ K fr' aw'
def W1 (tab : Tab) (o : AOper) (fr : Fr) (aw : AW) (K : V → AW → Prop) : Prop := ∃ v aw', One tab o fr aw v aw' ∧ K v aw'
def WF (tab : Tab) (f : Nat) (args : List V) (aw : AW) (K : V → AW → Prop) : Prop := ∃ v aw', CallR tab f args aw v aw' ∧ K v aw'
def WD (tab : Tab) (l : List DOper) (fr : Fr) (aw : AW) (K : List Stp → Fr → AW → Prop) : Prop := ∃ st fr' aw', Pass tab l fr aw st fr' aw' ∧ K st fr' aw'

theorem WX.mono {c : ACode} {fr : Fr} {aw : AW} {Q Q' : AExit → Fr → AW → Prop} (h : WX tab c fr aw Q) (hq : ∀ e f a, Q e f a → Q' e f a) : WX tab c fr aw Q' := by
  obtain ⟨e, f, a, h1, h2⟩ := h; exact ⟨e, f, a, h1, hq _ _ _ h2⟩
theorem WF.mono {f : Nat} {args : List V} {aw : AW} {K K' : V → AW → Prop} (h : WF tab f args aw K) (hk : ∀ v a, K v a → K' v a) : WF tab f args aw K' := by
  obtain ⟨v, a, h1, h2⟩ := h; exact ⟨v, a, h1, hk _ _ h2⟩

/-- goes on where the code ended by itself. -/
def onw (Q : AExit → Fr → AW → Prop) (N : Fr → AW → Prop) : AExit → Fr → AW → Prop
  | .normal, f, a => N f a
  | e, f, a => Q e f a
def inB (id : Nat) (Q : AExit → Fr → AW → Prop) : AExit → Fr → AW → Prop
  | .exit id', f, a => if id' = id then Q .normal f a else Q (.exit id') f a
  | e, f, a => Q e f a
@[simp] theorem onw_normal {Q : AExit → Fr → AW → Prop} {N : Fr → AW → Prop} {f : Fr} {a : AW} : onw Q N .normal f a = N f a := rfl
@[simp] theorem onw_exit {Q : AExit → Fr → AW → Prop} {N : Fr → AW → Prop} {f : Fr} {a : AW} {id : Nat} : onw Q N (.exit id) f a = Q (.exit id) f a := rfl
@[simp] theorem onw_ret {Q : AExit → Fr → AW → Prop} {N : Fr → AW → Prop} {f : Fr} {a : AW} : onw Q N .ret f a = Q .ret f a := rfl
@[simp] theorem inB_normal {Q : AExit → Fr → AW → Prop} {f : Fr} {a : AW} {id : Nat} : inB id Q .normal f a = Q .normal f a := rfl
@[simp] theorem inB_exit {Q : AExit → Fr → AW → Prop} {f : Fr} {a : AW} {id id' : Nat} : inB id Q (.exit id') f a = if id' = id then Q .normal f a else Q (.exit id') f a := rfl
@[simp] theorem inB_ret {Q : AExit → Fr → AW → Prop} {f : Fr} {a : AW} {id : Nat} : inB id Q .ret f a = Q .ret f a := rfl

/-- what a test decides. -/
def condK (o : Option V) (A B : Prop) : Prop :=
  match o with
  | some (.bool b) => bif b then A else B
  | _ => False
theorem condK_of {b : Bool} {A B : Prop} (h1 : b = true → A) (h2 : b = false → B) : condK (some (.bool b)) A B := by
  cases b
  · exact h2 rfl
  · exact h1 rfl

theorem WX_skip {fr : Fr} {aw : AW} {Q : AExit → Fr → AW → Prop} : WX tab .skip fr aw Q = Q .normal fr aw := by
  refine propext ⟨?_, fun h => ⟨_, _, _, .skip, h⟩⟩
  rintro ⟨_, _, _, h1, h2⟩; cases h1; exact h2
theorem WX_ret {fr : Fr} {aw : AW} {Q : AExit → Fr → AW → Prop} : WX tab .ret fr aw Q = Q .ret fr aw := by
  refine propext ⟨?_, fun h => ⟨_, _, _, .ret, h⟩⟩
  rintro ⟨_, _, _, h1, h2⟩; cases h1; exact h2
theorem WX_exit {id : Nat} {fr : Fr} {aw : AW} {Q : AExit → Fr → AW → Prop} : WX tab (.exit id) fr aw Q = Q (.exit id) fr aw := by
  refine propext ⟨?_, fun h => ⟨_, _, _, .exit, h⟩⟩
  rintro ⟨_, _, _, h1, h2⟩; cases h1; exact h2
theorem WX_region {l : List AOper} {fr : Fr} {aw : AW} {Q : AExit → Fr → AW → Prop} : WX tab (.region l) fr aw Q = WO tab l fr aw (fun f a => Q .normal f a) := by
  refine propext ⟨?_, ?_⟩
  · rintro ⟨_, _, _, h1, h2⟩; cases h1; rename_i h; exact ⟨_, _, h, h2⟩
  · rintro ⟨_, _, h1, h2⟩; exact ⟨_, _, _, .region h1, h2⟩
theorem WX_drawn {l : List DOper} {fr : Fr} {aw : AW} {Q : AExit → Fr → AW → Prop} : WX tab (.drawn l) fr aw Q = WD tab l fr aw (fun st f a => drawnOK l st = true ∧ Q .normal f a) := by
  refine propext ⟨?_, ?_⟩
  · rintro ⟨_, _, _, h1, h2⟩; cases h1; rename_i h h'; exact ⟨_, _, _, h', h, h2⟩
  · rintro ⟨_, _, _, h1, h', h2⟩; exact ⟨_, _, _, .drawn h1 h', h2⟩
theorem WX_seq {a b : ACode} {fr : Fr} {aw : AW} {Q : AExit → Fr → AW → Prop} : WX tab (.seq a b) fr aw Q = WX tab a fr aw (onw Q fun f w => WX tab b f w Q) := by
  refine propext ⟨?_, ?_⟩
  · rintro ⟨_, _, _, h1, h2⟩
    cases h1 with
    | seq i1 i2 => exact ⟨_, _, _, i1, _, _, _, i2, h2⟩
    | seqE i1 => exact ⟨_, _, _, i1, h2⟩
    | seqR i1 => exact ⟨_, _, _, i1, h2⟩
  · rintro ⟨e, _, _, h1, h2⟩
    cases e with
    | normal => obtain ⟨_, _, _, i2, h3⟩ := h2; exact ⟨_, _, _, .seq h1 i2, h3⟩
    | exit id => exact ⟨_, _, _, .seqE h1, h2⟩
    | ret => exact ⟨_, _, _, .seqR h1, h2⟩
theorem WX_cond {c : Opd} {a b : ACode} {fr : Fr} {aw : AW} {Q : AExit → Fr → AW → Prop} : WX tab (.cond c a b) fr aw Q = condK (c.ev fr) (WX tab a fr aw Q) (WX tab b fr aw Q) := by
  refine propext ⟨?_, ?_⟩
  · rintro ⟨_, _, _, h1, h2⟩
    cases h1 with
    | condT i0 i1 => rw [i0]; exact ⟨_, _, _, i1, h2⟩
    | condF i0 i1 => rw [i0]; exact ⟨_, _, _, i1, h2⟩
  · intro h
    unfold condK at h
    split at h
    · rename_i v hv
      cases v with
      | true => obtain ⟨_, _, _, i1, h2⟩ := h; exact ⟨_, _, _, .condT hv i1, h2⟩
      | false => obtain ⟨_, _, _, i1, h2⟩ := h; exact ⟨_, _, _, .condF hv i1, h2⟩
    · exact h.elim
theorem WX_block {id : Nat} {b : ACode} {fr : Fr} {aw : AW} {Q : AExit → Fr → AW → Prop} : WX tab (.block id b) fr aw Q = WX tab b fr aw (inB id Q) := by
  refine propext ⟨?_, ?_⟩
  · rintro ⟨_, _, _, h1, h2⟩
    cases h1 with
    | block i1 => exact ⟨_, _, _, i1, h2⟩
    | blockX i1 => exact ⟨_, _, _, i1, by simpa using h2⟩
    | blockE i1 hne => exact ⟨_, _, _, i1, by simpa [hne] using h2⟩
    | blockR i1 => exact ⟨_, _, _, i1, h2⟩
  · rintro ⟨e, _, _, h1, h2⟩
    cases e with
    | normal => exact ⟨_, _, _, .block h1, h2⟩
    | exit id' =>
      simp only [inB_exit] at h2
      split at h2
      · rename_i he; subst he; exact ⟨_, _, _, .blockX h1, h2⟩
      · rename_i he; exact ⟨_, _, _, .blockE h1 he, h2⟩
    | ret => exact ⟨_, _, _, .blockR h1, h2⟩
theorem WX_scope {b : ACode} {fr : Fr} {aw : AW} {Q : AExit → Fr → AW → Prop} : WX tab (.scope b) fr aw Q = WX tab b fr aw Q := by
  refine propext ⟨?_, ?_⟩
  · rintro ⟨_, _, _, h1, h2⟩; cases h1; rename_i h; exact ⟨_, _, _, h, h2⟩
  · rintro ⟨_, _, _, h1, h2⟩; exact ⟨_, _, _, .scope h1, h2⟩
theorem WX_loop {b : ACode} {fr : Fr} {aw : AW} {Q : AExit → Fr → AW → Prop} : WX tab (.loop b) fr aw Q = WX tab b fr aw (onw Q fun f w => WX tab (.loop b) f w Q) := by
  refine propext ⟨?_, ?_⟩
  · rintro ⟨_, _, _, h1, h2⟩
    cases h1 with
    | loop i1 i2 => exact ⟨_, _, _, i1, _, _, _, i2, h2⟩
    | loopE i1 => exact ⟨_, _, _, i1, h2⟩
    | loopR i1 => exact ⟨_, _, _, i1, h2⟩
  · rintro ⟨e, _, _, h1, h2⟩
    cases e with
    | normal => obtain ⟨_, _, _, i2, h3⟩ := h2; exact ⟨_, _, _, .loop h1 i2, h3⟩
    | exit id => exact ⟨_, _, _, .loopE h1, h2⟩
    | ret => exact ⟨_, _, _, .loopR h1, h2⟩
theorem WO_nil {fr : Fr} {aw : AW} {K : Fr → AW → Prop} : WO tab [] fr aw K = K fr aw := by
  refine propext ⟨?_, fun h => ⟨_, _, .nil, h⟩⟩
  rintro ⟨_, _, h1, h2⟩; cases h1; exact h2
theorem WO_cons {o : AOper} {l : List AOper} {fr : Fr} {aw : AW} {K : Fr → AW → Prop} : WO tab (o :: l) fr aw K = W1 tab o fr aw (fun v a => WO tab l (putO fr o.dst v) a K) := by
  refine propext ⟨?_, ?_⟩
  · rintro ⟨_, _, h1, h2⟩; cases h1; rename_i i1 i2; exact ⟨_, _, i1, _, _, i2, h2⟩
  · rintro ⟨_, _, i1, _, _, i2, h2⟩; exact ⟨_, _, .cons i1 i2, h2⟩
theorem WD_nil {fr : Fr} {aw : AW} {K : List Stp → Fr → AW → Prop} : WD tab [] fr aw K = K [] fr aw := by
  refine propext ⟨?_, fun h => ⟨_, _, _, .nil, h⟩⟩
  rintro ⟨_, _, _, h1, h2⟩; cases h1; exact h2
theorem WD_cons {d : DOper} {l : List DOper} {fr : Fr} {aw : AW} {K : List Stp → Fr → AW → Prop} : WD tab (d :: l) fr aw K = W1 tab d.op (hideL fr d.hide) aw (fun v a => WD tab l (putO fr d.op.dst v) a (fun st f w => K (⟨hideL fr d.hide, v, aw, a⟩ :: st) f w)) := by
  refine propext ⟨?_, ?_⟩
  · rintro ⟨_, _, _, h1, h2⟩; cases h1; rename_i i1 i2; exact ⟨_, _, i1, _, _, _, i2, h2⟩
  · rintro ⟨_, _, i1, _, _, _, i2, h2⟩; exact ⟨_, _, _, .cons i1 i2, h2⟩
/-- a call: of a function, or of what is told of one. -/
def WC (tab : Tab) (f : Nat) (args : List V) (aw : AW) (K : V → AW → Prop) : Prop := WF tab f args aw K ∨ ∃ v, tab.ext f args aw v ∧ K v aw
theorem WC.of {f : Nat} {args : List V} {aw : AW} {K : V → AW → Prop} (h : WF tab f args aw K) : WC tab f args aw K := .inl h
/-- an operation's answer, and on. -/
def resK (tab : Tab) (r : Option (Res × AW)) (K : V → AW → Prop) : Prop :=
  match r with
  | some (.val v, a) => K v a
  | some (.skip, a) => K .undef a
  | some (.call f args, a) => WC tab f args a K
  | none => False
def wantK (w : Option Bool) (A : Prop) (B : Prop) : Prop :=
  match w with
  | some b => bif b then A else B
  | none => False
theorem W1_eq {o : AOper} {fr : Fr} {aw : AW} {K : V → AW → Prop} : W1 tab o fr aw K = wantK (wanted fr o.guard) (resK tab (aop o.op fr aw) K) (K .undef aw) := by
  refine propext ⟨?_, fun h => ?_⟩
  · rintro ⟨v, a, h1, h2⟩
    cases h1 with
    | pass hw => rw [hw]; exact h2
    | val hw ha => rw [hw, ha]; exact h2
    | skip hw ha => rw [hw, ha]; exact h2
    | call hw ha hc => rw [hw, ha]; exact .inl ⟨_, _, hc, h2⟩
    | ext hw ha hc => rw [hw, ha]; exact .inr ⟨_, hc, h2⟩
  · unfold wantK at h
    split at h
    · rename_i b hw
      cases b with
      | true =>
        unfold resK at h
        simp only [cond_true] at h
        split at h
        · rename_i ha; exact ⟨_, _, .val hw ha, h⟩
        · rename_i ha; exact ⟨_, _, .skip hw ha, h⟩
        · rename_i ha
          rcases h with ⟨v, a, h1, h2⟩ | ⟨v, h1, h2⟩
          · exact ⟨_, _, .call hw ha h1, h2⟩
          · exact ⟨_, _, .ext hw ha h1, h2⟩
        · exact h.elim
      | false => exact ⟨_, _, .pass hw, h⟩
    · exact h.elim
theorem WF_code {f : Nat} {args : List V} {aw : AW} {K : V → AW → Prop} {af : AFun} (hc : tab.code f = some af) (hn : args.length ≤ af.ntmps)
    (h : WX tab af.body (initFr args 0) aw (fun e fr' aw' => (e = .normal ∨ e = .ret) ∧ ∃ vs, resV fr' aw' af.results = some vs ∧ K (resOne vs) aw')) : WF tab f args aw K := by
  obtain ⟨e, fr', aw', h1, h2, vs, h3, h4⟩ := h
  exact ⟨_, _, .code hc hn h1 h2 h3, h4⟩
end
end Go.AE
