/- A part of the proof: C1, C2, CC, W1, W2, W3, Ae31, Ae32, Ae33. -/
import Derived.Test.YtjidefnbancmfaaDoorVdE
import Derived.Lib.Bytealg
import Derived.ProofKit
import Derived.OpenShut
import Derived.Carry
import Derived.ChangeSame
import Derived.Below
set_option maxRecDepth 100000
set_option linter.unusedVariables false
namespace Go.Proofs.YtjidefnbancmfaaDoor
open Go.AE
/-! delphi/delphilaw6.ValueTable -/
def k_law6_ValueTable_p0 : ACode := (.seq (.region [⟨some 38, none, .mov (.tmp 5)⟩,
  ⟨some 39, none, .mov (.tmp 9)⟩,
  ⟨some 40, none, .indexAddr 3 (.tmp 38) (.tmp 39)⟩,
  ⟨some 41, none, .load 3 true (.tmp 40)⟩,
  ⟨some 42, none, .load 3 true (.tmp 7)⟩,
  ⟨some 43, none, .call (.const (.func (.func n_ref8_Eq) [] [])) [(.tmp 41), (.tmp 42)]⟩])
 (.cond (.tmp 43) (.region [⟨some 44, none, .mov (.tmp 9)⟩,
  ⟨some 45, none, .bin .add (.tmp 44) (.const (.int .i64 1))⟩,
  ⟨some 8, none, .mov (.tmp 45)⟩]) .skip))
def k_law6_ValueTable_p1 : ACode := (.seq (.seq (.region [⟨some 32, none, .mov (.tmp 9)⟩,
  ⟨some 33, none, .mov (.tmp 5)⟩,
  ⟨some 34, none, .lenSl (.tmp 33)⟩,
  ⟨some 35, none, .bin .lss (.tmp 32) (.tmp 34)⟩])
 (.cond (.tmp 35) .skip (.exit 2)))
 (.seq (.block 3 k_law6_ValueTable_p0)
 (.region [⟨some 36, none, .mov (.tmp 9)⟩,
  ⟨some 37, none, .bin .add (.tmp 36) (.const (.int .i64 1))⟩,
  ⟨some 9, none, .mov (.tmp 37)⟩])))
def k_law6_ValueTable_p2 : ACode := (.seq (.region [⟨some 52, none, .mov (.tmp 5)⟩,
  ⟨some 53, none, .load 3 true (.tmp 7)⟩,
  ⟨some 54, none, .buildSlice 1 [(.int .i64 0), (.str []), (.int .i64 0)] [(0, 3, (.tmp 53))]⟩,
  ⟨some 55, none, .append 3 32 (.tmp 52) (.tmp 54)⟩,
  ⟨some 5, none, .mov (.tmp 55)⟩])
 (.region [⟨some 56, none, .mov (.tmp 5)⟩,
  ⟨some 57, none, .lenSl (.tmp 56)⟩,
  ⟨some 8, none, .mov (.tmp 57)⟩]))
def k_law6_ValueTable_p3 : ACode := (.seq (.region [⟨some 27, none, .mov (.tmp 0)⟩,
  ⟨some 28, none, .mov (.tmp 6)⟩,
  ⟨some 29, none, .indexAddr 3 (.tmp 27) (.tmp 28)⟩,
  ⟨some 30, none, .load 3 true (.tmp 29)⟩,
  ⟨some 31, none, .call (.const (.func (.func n_law6_Cut) [] [])) [(.tmp 30)]⟩,
  ⟨some 7, none, .alloc [(.int .i64 0), (.str []), (.int .i64 0)]⟩,
  ⟨none, none, .store 3 (.tmp 7) (.tmp 31)⟩])
 (.seq (.region [⟨some 8, none, .mov (.const (.int .i64 0))⟩])
 (.seq (.seq (.region [⟨some 9, none, .mov (.const (.int .i64 0))⟩])
 (.block 2 (.loop k_law6_ValueTable_p1)))
 (.seq (.seq (.region [⟨some 46, none, .mov (.tmp 8)⟩,
  ⟨some 47, none, .bin .eql (.tmp 46) (.const (.int .i64 0))⟩,
  ⟨some 48, none, .mov (.tmp 47)⟩,
  ⟨some 49, (some (48, true)), .load 3 true (.tmp 7)⟩,
  ⟨some 50, (some (48, true)), .call (.const (.func (.func n_ref8_MayTerm) [] [])) [(.tmp 49)]⟩,
  ⟨some 51, none, .pick (.tmp 48) (.tmp 50) (.const (.bool false))⟩])
 (.cond (.tmp 51) k_law6_ValueTable_p2 .skip))
 (.seq (.region [⟨some 58, none, .mov (.tmp 4)⟩,
  ⟨some 59, none, .load 3 true (.tmp 7)⟩,
  ⟨some 60, none, .call (.const (.func (.func n_value_Table_Id) [] [])) [(.tmp 58), (.tmp 59)]⟩,
  ⟨some 61, none, .mov (.tmp 8)⟩,
  ⟨some 62, none, .bin .neq (.tmp 60) (.tmp 61)⟩,
  ⟨some 63, none, .mov (.tmp 62)⟩,
  ⟨some 64, (some (63, false)), .mov (.tmp 4)⟩,
  ⟨some 65, (some (63, false)), .call (.const (.func (.func n_value_Table_Len) [] [])) [(.tmp 64)]⟩,
  ⟨some 66, (some (63, false)), .mov (.tmp 5)⟩,
  ⟨some 67, (some (63, false)), .lenSl (.tmp 66)⟩,
  ⟨some 68, (some (63, false)), .bin .neq (.tmp 65) (.tmp 67)⟩,
  ⟨some 69, none, .pick (.tmp 63) (.const (.bool true)) (.tmp 68)⟩])
 (.cond (.tmp 69) (.seq (.region [⟨some 2, none, .mov (.const (.bool false))⟩])
 .ret) .skip))))))
def k_law6_ValueTable_p4 : ACode := (.seq (.seq (.region [⟨some 17, none, .mov (.tmp 6)⟩,
  ⟨some 18, none, .mov (.tmp 0)⟩,
  ⟨some 19, none, .lenSl (.tmp 18)⟩,
  ⟨some 20, none, .bin .lss (.tmp 17) (.tmp 19)⟩,
  ⟨some 21, none, .mov (.tmp 20)⟩,
  ⟨some 22, (some (21, true)), .mov (.tmp 6)⟩,
  ⟨some 23, (some (21, true)), .bin .lss (.tmp 22) (.const (.int .i64 40))⟩,
  ⟨some 24, none, .pick (.tmp 21) (.tmp 23) (.const (.bool false))⟩])
 (.cond (.tmp 24) .skip (.exit 0)))
 (.seq (.block 1 k_law6_ValueTable_p3)
 (.region [⟨some 25, none, .mov (.tmp 6)⟩,
  ⟨some 26, none, .bin .add (.tmp 25) (.const (.int .i64 1))⟩,
  ⟨some 6, none, .mov (.tmp 26)⟩])))
def k_law6_ValueTable_p5 : ACode := (.seq (.region [⟨some 77, none, .mov (.tmp 4)⟩,
  ⟨some 78, none, .mov (.tmp 10)⟩,
  ⟨some 79, none, .call (.const (.func (.func n_value_Table_Term) [] [])) [(.tmp 77), (.tmp 78)]⟩,
  ⟨some 11, none, .alloc [(.int .i64 0), (.str []), (.int .i64 0)]⟩,
  ⟨none, none, .store 3 (.tmp 11) (.tmp 79)⟩])
 (.seq (.region [⟨some 80, none, .mov (.tmp 10)⟩,
  ⟨some 81, none, .bin .geq (.tmp 80) (.const (.int .i64 1))⟩,
  ⟨some 82, none, .mov (.tmp 81)⟩,
  ⟨some 83, (some (82, true)), .mov (.tmp 10)⟩,
  ⟨some 84, (some (82, true)), .mov (.tmp 5)⟩,
  ⟨some 85, (some (82, true)), .lenSl (.tmp 84)⟩,
  ⟨some 86, (some (82, true)), .bin .leq (.tmp 83) (.tmp 85)⟩,
  ⟨some 87, none, .pick (.tmp 82) (.tmp 86) (.const (.bool false))⟩,
  ⟨some 88, none, .mov (.tmp 87)⟩,
  ⟨some 89, (some (88, true)), .load 3 true (.tmp 11)⟩,
  ⟨some 90, (some (88, true)), .mov (.tmp 5)⟩,
  ⟨some 91, (some (88, true)), .mov (.tmp 10)⟩,
  ⟨some 92, (some (88, true)), .bin .sub (.tmp 91) (.const (.int .i64 1))⟩,
  ⟨some 93, (some (88, true)), .indexAddr 3 (.tmp 90) (.tmp 92)⟩,
  ⟨some 94, (some (88, true)), .load 3 true (.tmp 93)⟩,
  ⟨some 95, (some (88, true)), .call (.const (.func (.func n_ref8_Eq) [] [])) [(.tmp 89), (.tmp 94)]⟩,
  ⟨some 96, (some (88, true)), .un .not (.tmp 95)⟩,
  ⟨some 97, none, .pick (.tmp 88) (.tmp 96) (.const (.bool false))⟩,
  ⟨some 98, none, .mov (.tmp 97)⟩,
  ⟨some 99, (some (98, false)), .mov (.tmp 10)⟩,
  ⟨some 100, (some (98, false)), .bin .lss (.tmp 99) (.const (.int .i64 1))⟩,
  ⟨some 101, (some (98, false)), .mov (.tmp 100)⟩,
  ⟨some 102, (some (101, false)), .mov (.tmp 10)⟩,
  ⟨some 103, (some (101, false)), .mov (.tmp 5)⟩,
  ⟨some 104, (some (101, false)), .lenSl (.tmp 103)⟩,
  ⟨some 105, (some (101, false)), .bin .gtr (.tmp 102) (.tmp 104)⟩,
  ⟨some 106, (some (98, false)), .pick (.tmp 101) (.const (.bool true)) (.tmp 105)⟩,
  ⟨some 107, (some (98, false)), .mov (.tmp 106)⟩,
  ⟨some 108, (some (107, true)), .fieldAddr 0 (.tmp 11)⟩,
  ⟨some 109, (some (107, true)), .load 1 false (.tmp 108)⟩,
  ⟨some 110, (some (107, true)), .bin .neq (.tmp 109) (.const (.int .i64 0))⟩,
  ⟨some 111, (some (98, false)), .pick (.tmp 107) (.tmp 110) (.const (.bool false))⟩,
  ⟨some 112, none, .pick (.tmp 98) (.const (.bool true)) (.tmp 111)⟩])
 (.cond (.tmp 112) (.seq (.region [⟨some 2, none, .mov (.const (.bool false))⟩])
 .ret) .skip)))
def k_law6_ValueTable_p6 : ACode := (.seq (.seq (.region [⟨some 70, none, .mov (.tmp 10)⟩,
  ⟨some 71, none, .mov (.tmp 5)⟩,
  ⟨some 72, none, .lenSl (.tmp 71)⟩,
  ⟨some 73, none, .bin .add (.tmp 72) (.const (.int .i64 1))⟩,
  ⟨some 74, none, .bin .leq (.tmp 70) (.tmp 73)⟩])
 (.cond (.tmp 74) .skip (.exit 4)))
 (.seq (.block 5 k_law6_ValueTable_p5)
 (.region [⟨some 75, none, .mov (.tmp 10)⟩,
  ⟨some 76, none, .bin .add (.tmp 75) (.const (.int .i64 1))⟩,
  ⟨some 10, none, .mov (.tmp 76)⟩])))
def k_law6_ValueTable : AFun := ⟨122, [.tmp 2], (.seq (.region [⟨some 2, none, .mov (.const (.bool false))⟩])
 (.seq (.region [⟨some 13, none, .call (.const (.func (.func n_law6_begun) [] [])) []⟩,
  ⟨some 3, none, .mov (.tmp 13)⟩])
 (.seq (.seq (.region [⟨some 14, none, .mov (.tmp 3)⟩,
  ⟨some 15, none, .un .not (.tmp 14)⟩])
 (.cond (.tmp 15) (.seq (.region [⟨some 2, none, .mov (.const (.bool false))⟩])
 .ret) .skip))
 (.seq (.region [⟨some 16, none, .call (.const (.func (.func n_value_New) [] [])) []⟩,
  ⟨some 4, none, .mov (.tmp 16)⟩])
 (.seq (.region [⟨some 5, none, .mov (.const .nilslice)⟩])
 (.seq (.seq (.region [⟨some 6, none, .mov (.const (.int .i64 0))⟩])
 (.block 0 (.loop k_law6_ValueTable_p4)))
 (.seq (.seq (.region [⟨some 10, none, .mov (.const (.int .i64 (-1)))⟩])
 (.block 4 (.loop k_law6_ValueTable_p6)))
 (.seq (.region [⟨some 12, none, .mov (.const .nilptr)⟩])
 (.seq (.region [⟨some 113, none, .mov (.tmp 12)⟩,
  ⟨some 114, none, .build [(.int .i64 0), (.str []), (.int .i64 0)] [(0, 1, (.const (.int .i64 3)))]⟩,
  ⟨some 115, none, .call (.const (.func (.func n_value_Table_Id) [] [])) [(.tmp 113), (.tmp 114)]⟩,
  ⟨some 116, none, .bin .eql (.tmp 115) (.const (.int .i64 0))⟩,
  ⟨some 117, none, .mov (.tmp 116)⟩,
  ⟨some 118, (some (117, true)), .mov (.tmp 12)⟩,
  ⟨some 119, (some (117, true)), .call (.const (.func (.func n_value_Table_Len) [] [])) [(.tmp 118)]⟩,
  ⟨some 120, (some (117, true)), .bin .eql (.tmp 119) (.const (.int .i64 0))⟩,
  ⟨some 121, none, .pick (.tmp 117) (.tmp 120) (.const (.bool false))⟩,
  ⟨some 2, none, .mov (.tmp 121)⟩])
 .ret)))))))))⟩
theorem c_law6_ValueTable : (XTab.of Tryd.prog).code 3 = some k_law6_ValueTable := by kernel_rfl

/-! delphi/delphilaw6.ValueFact -/
/-! delphi/delphilaw6.ValueWords -/
/-! delphi/delphilaw6.ValueOrder -/

/-! delphi/delphilaw6.begun -/
/-! delphi/value.New -/

def k_value_New : AFun := ⟨4, [.tmp 0], (.seq (.region [⟨some 0, none, .mov (.const .nilptr)⟩])
 (.seq (.region [⟨some 1, none, .mkMap⟩,
  ⟨some 2, none, .build [.nilmap, .nilslice] [(0, 1, (.tmp 1))]⟩,
  ⟨some 3, none, .box (.tmp 2)⟩,
  ⟨some 0, none, .mov (.tmp 3)⟩])
 .ret))⟩
theorem c_value_New : (XTab.of Tryd.prog).code 8 = some k_value_New := by kernel_rfl

/-! delphi/delphilaw6.Cut -/

def k_law6_Cut : AFun := ⟨8, [.cell 2 3 true], (.seq (.region [⟨some 1, none, .box (.tmp 0)⟩,
  ⟨some 2, none, .alloc [(.int .i64 0), (.str []), (.int .i64 0)]⟩])
 (.seq (.region [⟨some 3, none, .fieldAddr 1 (.tmp 1)⟩,
  ⟨some 4, none, .load 1 false (.tmp 3)⟩,
  ⟨some 5, none, .call (.const (.func (.func n_law1_Cut) [] [])) [(.tmp 4), (.const (.int .i64 20))]⟩,
  ⟨some 6, none, .fieldAddr 1 (.tmp 1)⟩,
  ⟨none, none, .store 1 (.tmp 6) (.tmp 5)⟩])
 (.seq (.region [⟨some 7, none, .load 3 true (.tmp 1)⟩,
  ⟨none, none, .store 3 (.tmp 2) (.tmp 7)⟩])
 .ret)))⟩
theorem c_law6_Cut : (XTab.of Tryd.prog).code 9 = some k_law6_Cut := by kernel_rfl

/-! delphi/delphiref8.Eq -/

def k_ref8_Eq : AFun := ⟨24, [.tmp 4], (.seq (.region [⟨some 2, none, .box (.tmp 0)⟩,
  ⟨some 3, none, .box (.tmp 1)⟩,
  ⟨some 4, none, .mov (.const (.bool false))⟩])
 (.seq (.region [⟨some 5, none, .fieldAddr 0 (.tmp 2)⟩,
  ⟨some 6, none, .load 1 false (.tmp 5)⟩,
  ⟨some 7, none, .fieldAddr 0 (.tmp 3)⟩,
  ⟨some 8, none, .load 1 false (.tmp 7)⟩,
  ⟨some 9, none, .bin .eql (.tmp 6) (.tmp 8)⟩,
  ⟨some 10, none, .mov (.tmp 9)⟩,
  ⟨some 11, (some (10, true)), .fieldAddr 1 (.tmp 2)⟩,
  ⟨some 12, (some (10, true)), .load 1 false (.tmp 11)⟩,
  ⟨some 13, (some (10, true)), .fieldAddr 1 (.tmp 3)⟩,
  ⟨some 14, (some (10, true)), .load 1 false (.tmp 13)⟩,
  ⟨some 15, (some (10, true)), .bin .eql (.tmp 12) (.tmp 14)⟩,
  ⟨some 16, none, .pick (.tmp 10) (.tmp 15) (.const (.bool false))⟩,
  ⟨some 17, none, .mov (.tmp 16)⟩,
  ⟨some 18, (some (17, true)), .fieldAddr 2 (.tmp 2)⟩,
  ⟨some 19, (some (17, true)), .load 1 false (.tmp 18)⟩,
  ⟨some 20, (some (17, true)), .fieldAddr 2 (.tmp 3)⟩,
  ⟨some 21, (some (17, true)), .load 1 false (.tmp 20)⟩,
  ⟨some 22, (some (17, true)), .bin .eql (.tmp 19) (.tmp 21)⟩,
  ⟨some 23, none, .pick (.tmp 17) (.tmp 22) (.const (.bool false))⟩,
  ⟨some 4, none, .mov (.tmp 23)⟩])
 .ret))⟩
theorem c_ref8_Eq : (XTab.of Tryd.prog).code 10 = some k_ref8_Eq := by kernel_rfl

/-! delphi/delphiref8.MayTerm -/
def k_ref8_MayTerm_p0 : ACode := (.seq (.region [⟨some 22, none, .fieldAddr 2 (.tmp 1)⟩,
  ⟨some 23, none, .load 1 false (.tmp 22)⟩,
  ⟨some 24, none, .bin .eql (.tmp 23) (.const (.int .i64 0))⟩,
  ⟨some 25, none, .mov (.tmp 24)⟩,
  ⟨some 26, (some (25, true)), .fieldAddr 1 (.tmp 1)⟩,
  ⟨some 27, (some (25, true)), .load 1 false (.tmp 26)⟩,
  ⟨some 28, (some (25, true)), .call (.const (.func (.func n_ref8_Name) [] [])) [(.tmp 27)]⟩,
  ⟨some 29, none, .pick (.tmp 25) (.tmp 28) (.const (.bool false))⟩,
  ⟨some 2, none, .mov (.tmp 29)⟩])
 .ret)
def k_ref8_MayTerm_p1 : ACode := (.seq (.region [⟨some 7, none, .fieldAddr 1 (.tmp 1)⟩,
  ⟨some 8, none, .load 1 false (.tmp 7)⟩,
  ⟨some 9, none, .bin .eql (.tmp 8) (.const (.str []))⟩,
  ⟨some 10, none, .mov (.tmp 9)⟩,
  ⟨some 11, (some (10, true)), .fieldAddr 2 (.tmp 1)⟩,
  ⟨some 12, (some (10, true)), .load 1 false (.tmp 11)⟩,
  ⟨some 13, (some (10, true)), .bin .geq (.tmp 12) (.const (.int .i64 (-2147483648)))⟩,
  ⟨some 14, none, .pick (.tmp 10) (.tmp 13) (.const (.bool false))⟩,
  ⟨some 15, none, .mov (.tmp 14)⟩,
  ⟨some 16, (some (15, true)), .fieldAddr 2 (.tmp 1)⟩,
  ⟨some 17, (some (15, true)), .load 1 false (.tmp 16)⟩,
  ⟨some 18, (some (15, true)), .bin .leq (.tmp 17) (.const (.int .i64 2147483648))⟩,
  ⟨some 19, none, .pick (.tmp 15) (.tmp 18) (.const (.bool false))⟩,
  ⟨some 2, none, .mov (.tmp 19)⟩])
 .ret)
def k_ref8_MayTerm_p2 : ACode := (.seq (.region [⟨some 6, none, .bin .eql (.tmp 4) (.const (.int .i64 3))⟩,
  ⟨some 5, none, .mov (.tmp 6)⟩])
 (.cond (.tmp 5) k_ref8_MayTerm_p1 (.seq (.region [⟨some 21, none, .bin .eql (.tmp 4) (.const (.int .i64 2))⟩,
  ⟨some 20, none, .mov (.tmp 21)⟩])
 (.cond (.tmp 20) k_ref8_MayTerm_p0 .skip))))
def k_ref8_MayTerm : AFun := ⟨30, [.tmp 2], (.seq (.region [⟨some 1, none, .box (.tmp 0)⟩,
  ⟨some 2, none, .mov (.const (.bool false))⟩])
 (.seq (.seq (.region [⟨some 3, none, .fieldAddr 0 (.tmp 1)⟩,
  ⟨some 4, none, .load 1 false (.tmp 3)⟩])
 (.block 0 k_ref8_MayTerm_p2))
 (.seq (.region [⟨some 2, none, .mov (.const (.bool false))⟩])
 .ret)))⟩
theorem c_ref8_MayTerm : (XTab.of Tryd.prog).code 11 = some k_ref8_MayTerm := by kernel_rfl

/-! (*delphi/value.Table).Id -/
def k_value_Table_Id_p0 : ACode := (.seq (.drawn [⟨⟨some 25, none, .mov (.tmp 0)⟩, false, [], []⟩,
  ⟨⟨some 26, none, .mov (.tmp 0)⟩, false, [], []⟩,
  ⟨⟨some 27, none, .nilCheck (.tmp 26)⟩, false, [1], []⟩,
  ⟨⟨some 28, none, .fieldAddr 1 (.tmp 27)⟩, false, [2, 1], []⟩,
  ⟨⟨some 29, none, .load 1 false (.tmp 28)⟩, false, [3, 2, 1], []⟩,
  ⟨⟨some 30, none, .load 3 true (.tmp 3)⟩, false, [], []⟩,
  ⟨⟨some 31, none, .buildSlice 1 [(.int .i64 0), (.str []), (.int .i64 0)] [(0, 3, (.tmp 30))]⟩, true, [5], []⟩,
  ⟨⟨some 32, none, .append 3 32 (.tmp 29) (.tmp 31)⟩, true, [6, 5, 4, 3, 2, 1], []⟩,
  ⟨⟨some 33, none, .nilCheck (.tmp 25)⟩, false, [7, 6, 5, 4, 3, 2, 1, 0], []⟩,
  ⟨⟨some 34, none, .fieldAddr 1 (.tmp 33)⟩, false, [8, 7, 6, 5, 4, 3, 2, 1, 0], []⟩,
  ⟨⟨none, none, .store 1 (.tmp 34) (.tmp 32)⟩, true, [9, 8, 7, 6, 5, 4, 3, 2, 1, 0], []⟩])
 (.seq (.region [⟨some 35, none, .mov (.tmp 0)⟩,
  ⟨some 36, none, .nilCheck (.tmp 35)⟩,
  ⟨some 37, none, .fieldAddr 1 (.tmp 36)⟩,
  ⟨some 38, none, .load 1 false (.tmp 37)⟩,
  ⟨some 39, none, .lenSl (.tmp 38)⟩,
  ⟨some 5, none, .mov (.tmp 39)⟩])
 (.region [⟨some 40, none, .mov (.tmp 0)⟩,
  ⟨some 41, none, .nilCheck (.tmp 40)⟩,
  ⟨some 42, none, .fieldAddr 0 (.tmp 41)⟩,
  ⟨some 43, none, .load 1 false (.tmp 42)⟩,
  ⟨some 44, none, .load 3 true (.tmp 3)⟩,
  ⟨some 45, none, .mov (.tmp 5)⟩,
  ⟨none, none, .mapUpdate (.cells [.int, .str, .int]) (.tmp 43) (.tmp 44) (.tmp 45)⟩])))
def k_value_Table_Id : AFun := ⟨47, [.tmp 4], (.seq (.region [⟨some 3, none, .box (.tmp 1)⟩,
  ⟨some 4, none, .mov (.const (.int .i64 0))⟩])
 (.seq (.seq (.region [⟨some 7, none, .mov (.tmp 0)⟩,
  ⟨some 8, none, .eqv false .ptr (.tmp 7) (.const .nilptr)⟩,
  ⟨some 9, none, .mov (.tmp 8)⟩,
  ⟨some 10, (some (9, false)), .load 3 true (.tmp 3)⟩,
  ⟨some 11, (some (9, false)), .call (.const (.func (.func n_value_May) [] [])) [(.tmp 10)]⟩,
  ⟨some 12, (some (9, false)), .un .not (.tmp 11)⟩,
  ⟨some 13, none, .pick (.tmp 9) (.const (.bool true)) (.tmp 12)⟩])
 (.cond (.tmp 13) (.seq (.region [⟨some 4, none, .mov (.const (.int .i64 0))⟩])
 .ret) .skip))
 (.seq (.region [⟨some 15, none, .mov (.tmp 0)⟩,
  ⟨some 16, none, .nilCheck (.tmp 15)⟩,
  ⟨some 17, none, .fieldAddr 0 (.tmp 16)⟩,
  ⟨some 18, none, .load 1 false (.tmp 17)⟩,
  ⟨some 19, none, .load 3 true (.tmp 3)⟩,
  ⟨some 20, none, .lookup (.cells [.int, .str, .int]) (.int .i64 0) true (.tmp 18) (.tmp 19)⟩,
  ⟨some 14, none, .mov (.tmp 20)⟩,
  ⟨some 21, none, .extract 0 (.tmp 14)⟩,
  ⟨some 22, none, .extract 1 (.tmp 14)⟩,
  ⟨some 5, none, .mov (.tmp 21)⟩,
  ⟨some 6, none, .mov (.tmp 22)⟩])
 (.seq (.seq (.region [⟨some 23, none, .mov (.tmp 6)⟩,
  ⟨some 24, none, .un .not (.tmp 23)⟩])
 (.cond (.tmp 24) k_value_Table_Id_p0 .skip))
 (.seq (.region [⟨some 46, none, .mov (.tmp 5)⟩,
  ⟨some 4, none, .mov (.tmp 46)⟩])
 .ret)))))⟩
theorem c_value_Table_Id : (XTab.of Tryd.prog).code 12 = some k_value_Table_Id := by kernel_rfl

/-! (*delphi/value.Table).Len -/

def k_value_Table_Len : AFun := ⟨10, [.tmp 2], (.seq (.region [⟨some 2, none, .mov (.const (.int .i64 0))⟩])
 (.seq (.seq (.region [⟨some 3, none, .mov (.tmp 0)⟩,
  ⟨some 4, none, .eqv false .ptr (.tmp 3) (.const .nilptr)⟩])
 (.cond (.tmp 4) (.seq (.region [⟨some 2, none, .mov (.const (.int .i64 0))⟩])
 .ret) .skip))
 (.seq (.region [⟨some 5, none, .mov (.tmp 0)⟩,
  ⟨some 6, none, .nilCheck (.tmp 5)⟩,
  ⟨some 7, none, .fieldAddr 1 (.tmp 6)⟩,
  ⟨some 8, none, .load 1 false (.tmp 7)⟩,
  ⟨some 9, none, .lenSl (.tmp 8)⟩,
  ⟨some 2, none, .mov (.tmp 9)⟩])
 .ret)))⟩
theorem c_value_Table_Len : (XTab.of Tryd.prog).code 13 = some k_value_Table_Len := by kernel_rfl

/-! (*delphi/value.Table).Term -/

def k_value_Table_Term : AFun := ⟨29, [.cell 4 3 true], (.seq (.region [⟨some 4, none, .alloc [(.int .i64 0), (.str []), (.int .i64 0)]⟩])
 (.seq (.seq (.region [⟨some 5, none, .mov (.tmp 0)⟩,
  ⟨some 6, none, .eqv false .ptr (.tmp 5) (.const .nilptr)⟩,
  ⟨some 7, none, .mov (.tmp 6)⟩,
  ⟨some 8, (some (7, false)), .mov (.tmp 1)⟩,
  ⟨some 9, (some (7, false)), .bin .lss (.tmp 8) (.const (.int .i64 1))⟩,
  ⟨some 10, none, .pick (.tmp 7) (.const (.bool true)) (.tmp 9)⟩,
  ⟨some 11, none, .mov (.tmp 10)⟩,
  ⟨some 12, (some (11, false)), .mov (.tmp 1)⟩,
  ⟨some 13, (some (11, false)), .mov (.tmp 0)⟩,
  ⟨some 14, (some (11, false)), .nilCheck (.tmp 13)⟩,
  ⟨some 15, (some (11, false)), .fieldAddr 1 (.tmp 14)⟩,
  ⟨some 16, (some (11, false)), .load 1 false (.tmp 15)⟩,
  ⟨some 17, (some (11, false)), .lenSl (.tmp 16)⟩,
  ⟨some 18, (some (11, false)), .bin .gtr (.tmp 12) (.tmp 17)⟩,
  ⟨some 19, none, .pick (.tmp 11) (.const (.bool true)) (.tmp 18)⟩])
 (.cond (.tmp 19) (.seq (.region [⟨some 20, none, .build [(.int .i64 0), (.str []), (.int .i64 0)] []⟩,
  ⟨none, none, .store 3 (.tmp 4) (.tmp 20)⟩])
 .ret) .skip))
 (.seq (.region [⟨some 21, none, .mov (.tmp 0)⟩,
  ⟨some 22, none, .nilCheck (.tmp 21)⟩,
  ⟨some 23, none, .fieldAddr 1 (.tmp 22)⟩,
  ⟨some 24, none, .load 1 false (.tmp 23)⟩,
  ⟨some 25, none, .mov (.tmp 1)⟩,
  ⟨some 26, none, .bin .sub (.tmp 25) (.const (.int .i64 1))⟩,
  ⟨some 27, none, .indexAddr 3 (.tmp 24) (.tmp 26)⟩,
  ⟨some 28, none, .load 3 true (.tmp 27)⟩,
  ⟨none, none, .store 3 (.tmp 4) (.tmp 28)⟩])
 .ret)))⟩
theorem c_value_Table_Term : (XTab.of Tryd.prog).code 14 = some k_value_Table_Term := by kernel_rfl

/-! delphi/delphilaw1.Cut -/

def k_law1_Cut : AFun := ⟨13, [.tmp 4], (.seq (.region [⟨some 4, none, .mov (.const (.str []))⟩])
 (.seq (.seq (.region [⟨some 5, none, .mov (.tmp 0)⟩,
  ⟨some 6, none, .lenStr (.tmp 5)⟩,
  ⟨some 7, none, .mov (.tmp 1)⟩,
  ⟨some 8, none, .bin .gtr (.tmp 6) (.tmp 7)⟩])
 (.cond (.tmp 8) (.seq (.region [⟨some 9, none, .mov (.tmp 0)⟩,
  ⟨some 10, none, .mov (.tmp 1)⟩,
  ⟨some 11, none, .sliceStr (.tmp 9) none (some (.tmp 10))⟩,
  ⟨some 4, none, .mov (.tmp 11)⟩])
 .ret) .skip))
 (.seq (.region [⟨some 12, none, .mov (.tmp 0)⟩,
  ⟨some 4, none, .mov (.tmp 12)⟩])
 .ret)))⟩
theorem c_law1_Cut : (XTab.of Tryd.prog).code 15 = some k_law1_Cut := by kernel_rfl

/-! delphi/value.Fact -/

/-! delphi/delphiref8.Atom -/
/-! delphi/value.May -/
def k_value_May_p0 : ACode := (.seq (.region [⟨some 22, none, .fieldAddr 2 (.tmp 1)⟩,
  ⟨some 23, none, .load 1 false (.tmp 22)⟩,
  ⟨some 24, none, .bin .eql (.tmp 23) (.const (.int .i64 0))⟩,
  ⟨some 25, none, .mov (.tmp 24)⟩,
  ⟨some 26, (some (25, true)), .fieldAddr 1 (.tmp 1)⟩,
  ⟨some 27, (some (25, true)), .load 1 false (.tmp 26)⟩,
  ⟨some 28, (some (25, true)), .call (.const (.func (.func n_value_Word) [] [])) [(.tmp 27)]⟩,
  ⟨some 29, none, .pick (.tmp 25) (.tmp 28) (.const (.bool false))⟩,
  ⟨some 2, none, .mov (.tmp 29)⟩])
 .ret)
def k_value_May_p1 : ACode := (.seq (.region [⟨some 7, none, .fieldAddr 1 (.tmp 1)⟩,
  ⟨some 8, none, .load 1 false (.tmp 7)⟩,
  ⟨some 9, none, .bin .eql (.tmp 8) (.const (.str []))⟩,
  ⟨some 10, none, .mov (.tmp 9)⟩,
  ⟨some 11, (some (10, true)), .fieldAddr 2 (.tmp 1)⟩,
  ⟨some 12, (some (10, true)), .load 1 false (.tmp 11)⟩,
  ⟨some 13, (some (10, true)), .bin .geq (.tmp 12) (.const (.int .i64 (-2147483648)))⟩,
  ⟨some 14, none, .pick (.tmp 10) (.tmp 13) (.const (.bool false))⟩,
  ⟨some 15, none, .mov (.tmp 14)⟩,
  ⟨some 16, (some (15, true)), .fieldAddr 2 (.tmp 1)⟩,
  ⟨some 17, (some (15, true)), .load 1 false (.tmp 16)⟩,
  ⟨some 18, (some (15, true)), .bin .leq (.tmp 17) (.const (.int .i64 2147483648))⟩,
  ⟨some 19, none, .pick (.tmp 15) (.tmp 18) (.const (.bool false))⟩,
  ⟨some 2, none, .mov (.tmp 19)⟩])
 .ret)
def k_value_May_p2 : ACode := (.seq (.region [⟨some 6, none, .bin .eql (.tmp 4) (.const (.int .i64 3))⟩,
  ⟨some 5, none, .mov (.tmp 6)⟩])
 (.cond (.tmp 5) k_value_May_p1 (.seq (.region [⟨some 21, none, .bin .eql (.tmp 4) (.const (.int .i64 2))⟩,
  ⟨some 20, none, .mov (.tmp 21)⟩])
 (.cond (.tmp 20) k_value_May_p0 .skip))))
def k_value_May : AFun := ⟨30, [.tmp 2], (.seq (.region [⟨some 1, none, .box (.tmp 0)⟩,
  ⟨some 2, none, .mov (.const (.bool false))⟩])
 (.seq (.seq (.region [⟨some 3, none, .fieldAddr 0 (.tmp 1)⟩,
  ⟨some 4, none, .load 1 false (.tmp 3)⟩])
 (.block 0 k_value_May_p2))
 (.seq (.region [⟨some 2, none, .mov (.const (.bool false))⟩])
 .ret)))⟩
theorem c_value_May : (XTab.of Tryd.prog).code 18 = some k_value_May := by kernel_rfl

/-! delphi/value.Less -/
/-! delphi/delphiref8.Less -/
/-! delphi/value.Eq -/

/-! delphi/value.Print -/

/-! delphi/delphiref8.Print -/

/-! delphi/delphiref8.Name -/
def k_ref8_Name_p0 : ACode := (.seq (.region [⟨some 11, none, .mov (.tmp 0)⟩,
  ⟨some 12, none, .mov (.tmp 3)⟩,
  ⟨some 13, none, .indexStr (.tmp 11) (.tmp 12)⟩,
  ⟨some 4, none, .mov (.tmp 13)⟩])
 (.seq (.region [⟨some 14, none, .mov (.tmp 4)⟩,
  ⟨some 15, none, .bin .geq (.tmp 14) (.const (.int .u8 97))⟩,
  ⟨some 16, none, .mov (.tmp 15)⟩,
  ⟨some 17, (some (16, true)), .mov (.tmp 4)⟩,
  ⟨some 18, (some (16, true)), .bin .leq (.tmp 17) (.const (.int .u8 122))⟩,
  ⟨some 19, none, .pick (.tmp 16) (.tmp 18) (.const (.bool false))⟩,
  ⟨some 20, none, .un .not (.tmp 19)⟩,
  ⟨some 21, none, .mov (.tmp 20)⟩,
  ⟨some 22, (some (21, true)), .mov (.tmp 3)⟩,
  ⟨some 23, (some (21, true)), .bin .eql (.tmp 22) (.const (.int .i64 0))⟩,
  ⟨some 24, (some (21, true)), .mov (.tmp 23)⟩,
  ⟨some 25, (some (24, false)), .mov (.tmp 4)⟩,
  ⟨some 26, (some (24, false)), .bin .geq (.tmp 25) (.const (.int .u8 48))⟩,
  ⟨some 27, (some (24, false)), .mov (.tmp 26)⟩,
  ⟨some 28, (some (27, true)), .mov (.tmp 4)⟩,
  ⟨some 29, (some (27, true)), .bin .leq (.tmp 28) (.const (.int .u8 57))⟩,
  ⟨some 30, (some (24, false)), .pick (.tmp 27) (.tmp 29) (.const (.bool false))⟩,
  ⟨some 31, (some (24, false)), .mov (.tmp 30)⟩,
  ⟨some 32, (some (31, false)), .mov (.tmp 4)⟩,
  ⟨some 33, (some (31, false)), .bin .eql (.tmp 32) (.const (.int .u8 95))⟩,
  ⟨some 34, (some (24, false)), .pick (.tmp 31) (.const (.bool true)) (.tmp 33)⟩,
  ⟨some 35, (some (24, false)), .un .not (.tmp 34)⟩,
  ⟨some 36, (some (21, true)), .pick (.tmp 24) (.const (.bool true)) (.tmp 35)⟩,
  ⟨some 37, none, .pick (.tmp 21) (.tmp 36) (.const (.bool false))⟩])
 (.cond (.tmp 37) (.seq (.region [⟨some 2, none, .mov (.const (.bool false))⟩])
 .ret) .skip)))
def k_ref8_Name_p1 : ACode := (.seq (.seq (.region [⟨some 5, none, .mov (.tmp 3)⟩,
  ⟨some 6, none, .mov (.tmp 0)⟩,
  ⟨some 7, none, .lenStr (.tmp 6)⟩,
  ⟨some 8, none, .bin .lss (.tmp 5) (.tmp 7)⟩])
 (.cond (.tmp 8) .skip (.exit 0)))
 (.seq (.block 1 k_ref8_Name_p0)
 (.region [⟨some 9, none, .mov (.tmp 3)⟩,
  ⟨some 10, none, .bin .add (.tmp 9) (.const (.int .i64 1))⟩,
  ⟨some 3, none, .mov (.tmp 10)⟩])))
def k_ref8_Name : AFun := ⟨46, [.tmp 2], (.seq (.region [⟨some 2, none, .mov (.const (.bool false))⟩])
 (.seq (.seq (.region [⟨some 3, none, .mov (.const (.int .i64 0))⟩])
 (.block 0 (.loop k_ref8_Name_p1)))
 (.seq (.region [⟨some 38, none, .mov (.tmp 0)⟩,
  ⟨some 39, none, .lenStr (.tmp 38)⟩,
  ⟨some 40, none, .bin .geq (.tmp 39) (.const (.int .i64 1))⟩,
  ⟨some 41, none, .mov (.tmp 40)⟩,
  ⟨some 42, (some (41, true)), .mov (.tmp 0)⟩,
  ⟨some 43, (some (41, true)), .lenStr (.tmp 42)⟩,
  ⟨some 44, (some (41, true)), .bin .leq (.tmp 43) (.const (.int .i64 16))⟩,
  ⟨some 45, none, .pick (.tmp 41) (.tmp 44) (.const (.bool false))⟩,
  ⟨some 2, none, .mov (.tmp 45)⟩])
 .ret)))⟩
theorem c_ref8_Name : (XTab.of Tryd.prog).code 24 = some k_ref8_Name := by kernel_rfl

/-! delphi/value.Atom -/
/-! delphi/value.Word -/
def k_value_Word_p0 : ACode := (.seq (.region [⟨some 10, none, .mov (.tmp 8)⟩,
  ⟨some 3, none, .mov (.tmp 10)⟩])
 (.seq (.region [⟨some 11, none, .mov (.tmp 0)⟩,
  ⟨some 12, none, .mov (.tmp 3)⟩,
  ⟨some 13, none, .indexStr (.tmp 11) (.tmp 12)⟩,
  ⟨some 4, none, .mov (.tmp 13)⟩])
 (.seq (.region [⟨some 14, none, .mov (.tmp 4)⟩,
  ⟨some 15, none, .bin .geq (.tmp 14) (.const (.int .u8 97))⟩,
  ⟨some 16, none, .mov (.tmp 15)⟩,
  ⟨some 17, (some (16, true)), .mov (.tmp 4)⟩,
  ⟨some 18, (some (16, true)), .bin .leq (.tmp 17) (.const (.int .u8 122))⟩,
  ⟨some 19, none, .pick (.tmp 16) (.tmp 18) (.const (.bool false))⟩,
  ⟨some 5, none, .mov (.tmp 19)⟩])
 (.seq (.region [⟨some 20, none, .mov (.tmp 5)⟩,
  ⟨some 21, none, .un .not (.tmp 20)⟩,
  ⟨some 22, none, .mov (.tmp 21)⟩,
  ⟨some 23, (some (22, true)), .mov (.tmp 3)⟩,
  ⟨some 24, (some (22, true)), .bin .eql (.tmp 23) (.const (.int .i64 0))⟩,
  ⟨some 25, (some (22, true)), .mov (.tmp 24)⟩,
  ⟨some 26, (some (25, false)), .mov (.tmp 4)⟩,
  ⟨some 27, (some (25, false)), .bin .lss (.tmp 26) (.const (.int .u8 48))⟩,
  ⟨some 28, (some (25, false)), .mov (.tmp 27)⟩,
  ⟨some 29, (some (28, false)), .mov (.tmp 4)⟩,
  ⟨some 30, (some (28, false)), .bin .gtr (.tmp 29) (.const (.int .u8 57))⟩,
  ⟨some 31, (some (25, false)), .pick (.tmp 28) (.const (.bool true)) (.tmp 30)⟩,
  ⟨some 32, (some (25, false)), .mov (.tmp 31)⟩,
  ⟨some 33, (some (32, true)), .mov (.tmp 4)⟩,
  ⟨some 34, (some (32, true)), .bin .neq (.tmp 33) (.const (.int .u8 95))⟩,
  ⟨some 35, (some (25, false)), .pick (.tmp 32) (.tmp 34) (.const (.bool false))⟩,
  ⟨some 36, (some (22, true)), .pick (.tmp 25) (.const (.bool true)) (.tmp 35)⟩,
  ⟨some 37, none, .pick (.tmp 22) (.tmp 36) (.const (.bool false))⟩])
 (.cond (.tmp 37) (.seq (.region [⟨some 2, none, .mov (.const (.bool false))⟩])
 .ret) .skip)))))
def k_value_Word_p1 : ACode := (.seq (.region [⟨some 9, none, .bin .lss (.tmp 8) (.tmp 7)⟩])
 (.seq (.cond (.tmp 9) .skip (.exit 0))
 (.seq (.block 1 k_value_Word_p0)
 (.region [⟨some 38, none, .bin .add (.tmp 8) (.const (.int .i64 1))⟩,
  ⟨some 8, none, .mov (.tmp 38)⟩]))))
def k_value_Word : AFun := ⟨46, [.tmp 2], (.seq (.region [⟨some 2, none, .mov (.const (.bool false))⟩])
 (.seq (.seq (.region [⟨some 6, none, .mov (.tmp 0)⟩,
  ⟨some 7, none, .lenStr (.tmp 6)⟩,
  ⟨some 8, none, .mov (.const (.int .i64 0))⟩])
 (.block 0 (.loop k_value_Word_p1)))
 (.seq (.region [⟨some 39, none, .mov (.tmp 0)⟩,
  ⟨some 40, none, .bin .neq (.tmp 39) (.const (.str []))⟩,
  ⟨some 41, none, .mov (.tmp 40)⟩,
  ⟨some 42, (some (41, true)), .mov (.tmp 0)⟩,
  ⟨some 43, (some (41, true)), .lenStr (.tmp 42)⟩,
  ⟨some 44, (some (41, true)), .bin .leq (.tmp 43) (.const (.int .i64 16))⟩,
  ⟨some 45, none, .pick (.tmp 41) (.tmp 44) (.const (.bool false))⟩,
  ⟨some 2, none, .mov (.tmp 45)⟩])
 .ret)))⟩
theorem c_value_Word : (XTab.of Tryd.prog).code 26 = some k_value_Word := by kernel_rfl

/-! strconv.FormatInt -/

/-! delphi/delphiref8.dec -/
/-! internal/strconv.FormatInt -/
end Go.Proofs.YtjidefnbancmfaaDoor

set_option maxRecDepth 100000
set_option linter.unusedVariables false
namespace Go.Proofs.YtjidefnbancmfaaDoor
open Go.AE
/-! internal/strconv.small -/
/-! internal/strconv.numDigits -/
/-! internal/strconv.formatBase10 -/
/-! internal/strconv.formatBits -/
/-! internal/strconv.log10Pow2 -/

/-! math/bits.Len64 -/
/-! internal/strconv.bool2[int] -/
/-! internal/strconv.isPowerOfTwo -/
/-! math/bits.TrailingZeros -/
/-! math/bits.TrailingZeros32 -/
/-! math/bits.TrailingZeros64 -/
/-! gosem.cut.vars -/
end Go.Proofs.YtjidefnbancmfaaDoor

namespace Go.Proofs.YtjidefnbancmfaaDoor
open Go.AE
structure Codes (tab : Tab) : Prop where
  c_law6_ValueTable : tab.code 3 = some k_law6_ValueTable
  c_value_New : tab.code 8 = some k_value_New
  c_law6_Cut : tab.code 9 = some k_law6_Cut
  c_ref8_Eq : tab.code 10 = some k_ref8_Eq
  c_ref8_MayTerm : tab.code 11 = some k_ref8_MayTerm
  c_value_Table_Id : tab.code 12 = some k_value_Table_Id
  c_value_Table_Len : tab.code 13 = some k_value_Table_Len
  c_value_Table_Term : tab.code 14 = some k_value_Table_Term
  c_law1_Cut : tab.code 15 = some k_law1_Cut
  c_value_May : tab.code 18 = some k_value_May
  c_ref8_Name : tab.code 24 = some k_ref8_Name
  c_value_Word : tab.code 26 = some k_value_Word
theorem codesOf {tab : Tab} (h : tab.code = (XTab.of Tryd.prog).code) : Codes tab where
  c_law6_ValueTable := h ▸ c_law6_ValueTable
  c_value_New := h ▸ c_value_New
  c_law6_Cut := h ▸ c_law6_Cut
  c_ref8_Eq := h ▸ c_ref8_Eq
  c_ref8_MayTerm := h ▸ c_ref8_MayTerm
  c_value_Table_Id := h ▸ c_value_Table_Id
  c_value_Table_Len := h ▸ c_value_Table_Len
  c_value_Table_Term := h ▸ c_value_Table_Term
  c_law1_Cut := h ▸ c_law1_Cut
  c_value_May := h ▸ c_value_May
  c_ref8_Name := h ▸ c_ref8_Name
  c_value_Word := h ▸ c_value_Word
end Go.Proofs.YtjidefnbancmfaaDoor

set_option linter.unusedVariables false
set_option linter.unusedSectionVars false
set_option linter.unusedSimpArgs false
namespace Go.AE
variable [Globs]

section
variable {tab : Tab}
def WX (tab : Tab) (c : ACode) (fr : Fr) (aw : AW) (Q : AExit → Fr → AW → Prop) : Prop := ∃ e fr' aw', Exec tab c fr aw e fr' aw' ∧ Q e fr' aw'
def WO (tab : Tab) (l : List AOper) (fr : Fr) (aw : AW) (K : Fr → AW → Prop) : Prop := ∃ fr' aw', Ops tab l fr aw fr' aw' ∧ K fr' aw'
def W1 (tab : Tab) (o : AOper) (fr : Fr) (aw : AW) (K : V → AW → Prop) : Prop := ∃ v aw', One tab o fr aw v aw' ∧ K v aw'
def WF (tab : Tab) (f : Nat) (args : List V) (aw : AW) (K : V → AW → Prop) : Prop := ∃ v aw', CallR tab f args aw v aw' ∧ K v aw'
def WD (tab : Tab) (l : List DOper) (fr : Fr) (aw : AW) (K : List Stp → Fr → AW → Prop) : Prop := ∃ st fr' aw', Pass tab l fr aw st fr' aw' ∧ K st fr' aw'

theorem WX.mono {c : ACode} {fr : Fr} {aw : AW} {Q Q' : AExit → Fr → AW → Prop} (h : WX tab c fr aw Q) (hq : ∀ e f a, Q e f a → Q' e f a) : WX tab c fr aw Q' := by
  obtain ⟨e, f, a, h1, h2⟩ := h; exact ⟨e, f, a, h1, hq _ _ _ h2⟩
theorem WF.mono {f : Nat} {args : List V} {aw : AW} {K K' : V → AW → Prop} (h : WF tab f args aw K) (hk : ∀ v a, K v a → K' v a) : WF tab f args aw K' := by
  obtain ⟨v, a, h1, h2⟩ := h; exact ⟨v, a, h1, hk _ _ h2⟩

/-- goes on where the code ended by itself. -/
def onw (Q : AExit → Fr → AW → Prop) (N : Fr → AW → Prop) : AExit → Fr → AW → Prop
  | .normal, f, a => N f a
  | e, f, a => Q e f a
def inB (id : Nat) (Q : AExit → Fr → AW → Prop) : AExit → Fr → AW → Prop
  | .exit id', f, a => if id' = id then Q .normal f a else Q (.exit id') f a
  | e, f, a => Q e f a
@[simp] theorem onw_normal {Q : AExit → Fr → AW → Prop} {N : Fr → AW → Prop} {f : Fr} {a : AW} : onw Q N .normal f a = N f a := rfl
@[simp] theorem onw_exit {Q : AExit → Fr → AW → Prop} {N : Fr → AW → Prop} {f : Fr} {a : AW} {id : Nat} : onw Q N (.exit id) f a = Q (.exit id) f a := rfl
@[simp] theorem onw_ret {Q : AExit → Fr → AW → Prop} {N : Fr → AW → Prop} {f : Fr} {a : AW} : onw Q N .ret f a = Q .ret f a := rfl
@[simp] theorem inB_normal {Q : AExit → Fr → AW → Prop} {f : Fr} {a : AW} {id : Nat} : inB id Q .normal f a = Q .normal f a := rfl
@[simp] theorem inB_exit {Q : AExit → Fr → AW → Prop} {f : Fr} {a : AW} {id id' : Nat} : inB id Q (.exit id') f a = if id' = id then Q .normal f a else Q (.exit id') f a := rfl
@[simp] theorem inB_ret {Q : AExit → Fr → AW → Prop} {f : Fr} {a : AW} {id : Nat} : inB id Q .ret f a = Q .ret f a := rfl

/-- what a test decides. -/
def condK (o : Option V) (A B : Prop) : Prop :=
  match o with
  | some (.bool b) => bif b then A else B
  | _ => False
theorem condK_of {b : Bool} {A B : Prop} (h1 : b = true → A) (h2 : b = false → B) : condK (some (.bool b)) A B := by
  cases b
  · exact h2 rfl
  · exact h1 rfl

theorem WX_skip {fr : Fr} {aw : AW} {Q : AExit → Fr → AW → Prop} : WX tab .skip fr aw Q = Q .normal fr aw := by
  refine propext ⟨?_, fun h => ⟨_, _, _, .skip, h⟩⟩
  rintro ⟨_, _, _, h1, h2⟩; cases h1; exact h2
theorem WX_ret {fr : Fr} {aw : AW} {Q : AExit → Fr → AW → Prop} : WX tab .ret fr aw Q = Q .ret fr aw := by
  refine propext ⟨?_, fun h => ⟨_, _, _, .ret, h⟩⟩
  rintro ⟨_, _, _, h1, h2⟩; cases h1; exact h2
theorem WX_exit {id : Nat} {fr : Fr} {aw : AW} {Q : AExit → Fr → AW → Prop} : WX tab (.exit id) fr aw Q = Q (.exit id) fr aw := by
  refine propext ⟨?_, fun h => ⟨_, _, _, .exit, h⟩⟩
  rintro ⟨_, _, _, h1, h2⟩; cases h1; exact h2
theorem WX_region {l : List AOper} {fr : Fr} {aw : AW} {Q : AExit → Fr → AW → Prop} : WX tab (.region l) fr aw Q = WO tab l fr aw (fun f a => Q .normal f a) := by
  refine propext ⟨?_, ?_⟩
  · rintro ⟨_, _, _, h1, h2⟩; cases h1; rename_i h; exact ⟨_, _, h, h2⟩
  · rintro ⟨_, _, h1, h2⟩; exact ⟨_, _, _, .region h1, h2⟩
theorem WX_drawn {l : List DOper} {fr : Fr} {aw : AW} {Q : AExit → Fr → AW → Prop} : WX tab (.drawn l) fr aw Q = WD tab l fr aw (fun st f a => drawnOK l st = true ∧ Q .normal f a) := by
  refine propext ⟨?_, ?_⟩
  · rintro ⟨_, _, _, h1, h2⟩; cases h1; rename_i h h'; exact ⟨_, _, _, h', h, h2⟩
  · rintro ⟨_, _, _, h1, h', h2⟩; exact ⟨_, _, _, .drawn h1 h', h2⟩
theorem WX_seq {a b : ACode} {fr : Fr} {aw : AW} {Q : AExit → Fr → AW → Prop} : WX tab (.seq a b) fr aw Q = WX tab a fr aw (onw Q fun f w => WX tab b f w Q) := by
  refine propext ⟨?_, ?_⟩
  · rintro ⟨_, _, _, h1, h2⟩
    cases h1 with
    | seq i1 i2 => exact ⟨_, _, _, i1, _, _, _, i2, h2⟩
    | seqE i1 => exact ⟨_, _, _, i1, h2⟩
    | seqR i1 => exact ⟨_, _, _, i1, h2⟩
  · rintro ⟨e, _, _, h1, h2⟩
    cases e with
    | normal => obtain ⟨_, _, _, i2, h3⟩ := h2; exact ⟨_, _, _, .seq h1 i2, h3⟩
    | exit id => exact ⟨_, _, _, .seqE h1, h2⟩
    | ret => exact ⟨_, _, _, .seqR h1, h2⟩
theorem WX_cond {c : Opd} {a b : ACode} {fr : Fr} {aw : AW} {Q : AExit → Fr → AW → Prop} : WX tab (.cond c a b) fr aw Q = condK (c.ev fr) (WX tab a fr aw Q) (WX tab b fr aw Q) := by
  refine propext ⟨?_, ?_⟩
  · rintro ⟨_, _, _, h1, h2⟩
    cases h1 with
    | condT i0 i1 => rw [i0]; exact ⟨_, _, _, i1, h2⟩
    | condF i0 i1 => rw [i0]; exact ⟨_, _, _, i1, h2⟩
  · intro h
    unfold condK at h
    split at h
    · rename_i v hv
      cases v with
      | true => obtain ⟨_, _, _, i1, h2⟩ := h; exact ⟨_, _, _, .condT hv i1, h2⟩
      | false => obtain ⟨_, _, _, i1, h2⟩ := h; exact ⟨_, _, _, .condF hv i1, h2⟩
    · exact h.elim
theorem WX_block {id : Nat} {b : ACode} {fr : Fr} {aw : AW} {Q : AExit → Fr → AW → Prop} : WX tab (.block id b) fr aw Q = WX tab b fr aw (inB id Q) := by
  refine propext ⟨?_, ?_⟩
  · rintro ⟨_, _, _, h1, h2⟩
    cases h1 with
    | block i1 => exact ⟨_, _, _, i1, h2⟩
    | blockX i1 => exact ⟨_, _, _, i1, by simpa using h2⟩
    | blockE i1 hne => exact ⟨_, _, _, i1, by simpa [hne] using h2⟩
    | blockR i1 => exact ⟨_, _, _, i1, h2⟩
  · rintro ⟨e, _, _, h1, h2⟩
    cases e with
    | normal => exact ⟨_, _, _, .block h1, h2⟩
    | exit id' =>
      simp only [inB_exit] at h2
      split at h2
      · rename_i he; subst he; exact ⟨_, _, _, .blockX h1, h2⟩
      · rename_i he; exact ⟨_, _, _, .blockE h1 he, h2⟩
    | ret => exact ⟨_, _, _, .blockR h1, h2⟩
theorem WX_scope {b : ACode} {fr : Fr} {aw : AW} {Q : AExit → Fr → AW → Prop} : WX tab (.scope b) fr aw Q = WX tab b fr aw Q := by
  refine propext ⟨?_, ?_⟩
  · rintro ⟨_, _, _, h1, h2⟩; cases h1; rename_i h; exact ⟨_, _, _, h, h2⟩
  · rintro ⟨_, _, _, h1, h2⟩; exact ⟨_, _, _, .scope h1, h2⟩
theorem WX_loop {b : ACode} {fr : Fr} {aw : AW} {Q : AExit → Fr → AW → Prop} : WX tab (.loop b) fr aw Q = WX tab b fr aw (onw Q fun f w => WX tab (.loop b) f w Q) := by
  refine propext ⟨?_, ?_⟩
  · rintro ⟨_, _, _, h1, h2⟩
    cases h1 with
    | loop i1 i2 => exact ⟨_, _, _, i1, _, _, _, i2, h2⟩
    | loopE i1 => exact ⟨_, _, _, i1, h2⟩
    | loopR i1 => exact ⟨_, _, _, i1, h2⟩
  · rintro ⟨e, _, _, h1, h2⟩
    cases e with
    | normal => obtain ⟨_, _, _, i2, h3⟩ := h2; exact ⟨_, _, _, .loop h1 i2, h3⟩
    | exit id => exact ⟨_, _, _, .loopE h1, h2⟩
    | ret => exact ⟨_, _, _, .loopR h1, h2⟩
theorem WO_nil {fr : Fr} {aw : AW} {K : Fr → AW → Prop} : WO tab [] fr aw K = K fr aw := by
  refine propext ⟨?_, fun h => ⟨_, _, .nil, h⟩⟩
  rintro ⟨_, _, h1, h2⟩; cases h1; exact h2
theorem WO_cons {o : AOper} {l : List AOper} {fr : Fr} {aw : AW} {K : Fr → AW → Prop} : WO tab (o :: l) fr aw K = W1 tab o fr aw (fun v a => WO tab l (putO fr o.dst v) a K) := by
  refine propext ⟨?_, ?_⟩
  · rintro ⟨_, _, h1, h2⟩; cases h1; rename_i i1 i2; exact ⟨_, _, i1, _, _, i2, h2⟩
  · rintro ⟨_, _, i1, _, _, i2, h2⟩; exact ⟨_, _, .cons i1 i2, h2⟩
theorem WD_nil {fr : Fr} {aw : AW} {K : List Stp → Fr → AW → Prop} : WD tab [] fr aw K = K [] fr aw := by
  refine propext ⟨?_, fun h => ⟨_, _, _, .nil, h⟩⟩
  rintro ⟨_, _, _, h1, h2⟩; cases h1; exact h2
theorem WD_cons {d : DOper} {l : List DOper} {fr : Fr} {aw : AW} {K : List Stp → Fr → AW → Prop} : WD tab (d :: l) fr aw K = W1 tab d.op (hideL fr d.hide) aw (fun v a => WD tab l (putO fr d.op.dst v) a (fun st f w => K (⟨hideL fr d.hide, v, aw, a⟩ :: st) f w)) := by
  refine propext ⟨?_, ?_⟩
  · rintro ⟨_, _, _, h1, h2⟩; cases h1; rename_i i1 i2; exact ⟨_, _, i1, _, _, _, i2, h2⟩
  · rintro ⟨_, _, i1, _, _, _, i2, h2⟩; exact ⟨_, _, _, .cons i1 i2, h2⟩
/-- a call: of a function, or of what is told of one. -/
def WC (tab : Tab) (f : Nat) (args : List V) (aw : AW) (K : V → AW → Prop) : Prop := WF tab f args aw K ∨ ∃ v aw', tab.ext f args aw v aw' ∧ K v aw'
theorem WC.of {f : Nat} {args : List V} {aw : AW} {K : V → AW → Prop} (h : WF tab f args aw K) : WC tab f args aw K := .inl h
/-- an operation's answer, and on. -/
def resK (tab : Tab) (r : Option (Res × AW)) (K : V → AW → Prop) : Prop :=
  match r with
  | some (.val v, a) => K v a
  | some (.skip, a) => K .undef a
  | some (.call f args, a) => WC tab f args a K
  | none => False
def wantK (w : Option Bool) (A : Prop) (B : Prop) : Prop :=
  match w with
  | some b => bif b then A else B
  | none => False
theorem W1_eq {o : AOper} {fr : Fr} {aw : AW} {K : V → AW → Prop} : W1 tab o fr aw K = wantK (wanted fr o.guard) (resK tab (aop o.op fr aw) K) (K .undef aw) := by
  refine propext ⟨?_, fun h => ?_⟩
  · rintro ⟨v, a, h1, h2⟩
    cases h1 with
    | pass hw => rw [hw]; exact h2
    | val hw ha => rw [hw, ha]; exact h2
    | skip hw ha => rw [hw, ha]; exact h2
    | call hw ha hc => rw [hw, ha]; exact .inl ⟨_, _, hc, h2⟩
    | ext hw ha hc => rw [hw, ha]; exact .inr ⟨_, _, hc, h2⟩
  · unfold wantK at h
    split at h
    · rename_i b hw
      cases b with
      | true =>
        unfold resK at h
        simp only [cond_true] at h
        split at h
        · rename_i ha; exact ⟨_, _, .val hw ha, h⟩
        · rename_i ha; exact ⟨_, _, .skip hw ha, h⟩
        · rename_i ha
          rcases h with ⟨v, a, h1, h2⟩ | ⟨v, a, h1, h2⟩
          · exact ⟨_, _, .call hw ha h1, h2⟩
          · exact ⟨_, _, .ext hw ha h1, h2⟩
        · exact h.elim
      | false => exact ⟨_, _, .pass hw, h⟩
    · exact h.elim
theorem WF_code {f : Nat} {args : List V} {aw : AW} {K : V → AW → Prop} {af : AFun} (hc : tab.code f = some af) (hn : args.length ≤ af.ntmps)
    (h : WX tab af.body (initFr args 0) aw (fun e fr' aw' => (e = .normal ∨ e = .ret) ∧ ∃ vs, resV fr' aw' af.results = some vs ∧ K (resOne vs) aw')) : WF tab f args aw K := by
  obtain ⟨e, fr', aw', h1, h2, vs, h3, h4⟩ := h
  exact ⟨_, _, .code hc hn h1 h2 h3, h4⟩
end
end Go.AE

set_option linter.unusedVariables false
set_option linter.unusedSectionVars false
set_option linter.unusedSimpArgs false
namespace Go.AE
variable [Globs]
inductive SI where
  | code (c : ACode)
  | ops (l : List AOper)
  | endB (id : Nat)
section
variable {tab : Tab}
/-- what is to be when the top of the stack has ended so. -/
def KS (tab : Tab) : List SI → (Fr → AW → Prop) → AExit → Fr → AW → Prop
  | [], Q => fun e f w => match e with
    | .exit _ => False
    | _ => Q f w
  | .endB id :: s, Q => inB id (KS tab s Q)
  | .code c :: s, Q => onw (KS tab s Q) (fun f w => WX tab c f w (KS tab s Q))
  | .ops l :: s, Q => onw (KS tab s Q) (fun f w => WO tab l f w (fun f w => KS tab s Q .normal f w))
def WS (tab : Tab) (s : List SI) (fr : Fr) (aw : AW) (Q : Fr → AW → Prop) : Prop := KS tab s Q .normal fr aw
def popTo (id : Nat) : List SI → Option (List SI)
  | [] => none
  | .endB id' :: s => if id = id' then some s else popTo id s
  | .code _ :: s => popTo id s
  | .ops _ :: s => popTo id s
theorem KS_ret {Q : Fr → AW → Prop} {f : Fr} {w : AW} (h : Q f w) : ∀ {s : List SI}, KS tab s Q .ret f w
  | [] => h
  | .endB id :: s => KS_ret (s := s) h
  | .code c :: s => KS_ret (s := s) h
  | .ops l :: s => KS_ret (s := s) h
theorem KS_exit {id : Nat} {Q : Fr → AW → Prop} {f : Fr} {w : AW} : ∀ {s s' : List SI}, popTo id s = some s' → WS tab s' f w Q → KS tab s Q (.exit id) f w
  | [], s', h, _ => by cases h
  | .endB id' :: s, s', h, hw => by
    simp only [popTo] at h
    split at h
    · rename_i hb
      subst hb
      cases h
      simp only [KS, inB, if_pos]
      exact hw
    · rename_i hb
      simp only [KS, inB, if_neg hb]
      exact KS_exit h hw
  | .code c :: s, s', h, hw => KS_exit (s := s) h hw
  | .ops l :: s, s', h, hw => KS_exit (s := s) h hw

theorem WS_endB {id : Nat} {s : List SI} {fr : Fr} {aw : AW} {Q : Fr → AW → Prop} (h : WS tab s fr aw Q) : WS tab (.endB id :: s) fr aw Q := h
theorem WS_skip {s : List SI} {fr : Fr} {aw : AW} {Q : Fr → AW → Prop} (h : WS tab s fr aw Q) : WS tab (.code .skip :: s) fr aw Q := by
  show WX tab .skip fr aw _; rw [WX_skip]; exact h
theorem WS_seq {a b : ACode} {s : List SI} {fr : Fr} {aw : AW} {Q : Fr → AW → Prop} (h : WS tab (.code a :: .code b :: s) fr aw Q) : WS tab (.code (.seq a b) :: s) fr aw Q := by
  show WX tab (.seq a b) fr aw _; rw [WX_seq]; exact h
theorem WS_block {id : Nat} {b : ACode} {s : List SI} {fr : Fr} {aw : AW} {Q : Fr → AW → Prop} (h : WS tab (.code b :: .endB id :: s) fr aw Q) : WS tab (.code (.block id b) :: s) fr aw Q := by
  show WX tab (.block id b) fr aw _; rw [WX_block]; exact h
theorem WS_scope {b : ACode} {s : List SI} {fr : Fr} {aw : AW} {Q : Fr → AW → Prop} (h : WS tab (.code b :: s) fr aw Q) : WS tab (.code (.scope b) :: s) fr aw Q := by
  show WX tab (.scope b) fr aw _; rw [WX_scope]; exact h
theorem WS_region {l : List AOper} {s : List SI} {fr : Fr} {aw : AW} {Q : Fr → AW → Prop} (h : WS tab (.ops l :: s) fr aw Q) : WS tab (.code (.region l) :: s) fr aw Q := by
  show WX tab (.region l) fr aw _; rw [WX_region]; exact h
theorem WS_exit {id : Nat} {s s' : List SI} {fr : Fr} {aw : AW} {Q : Fr → AW → Prop} (hp : popTo id s = some s') (h : WS tab s' fr aw Q) : WS tab (.code (.exit id) :: s) fr aw Q := by
  show WX tab (.exit id) fr aw _; rw [WX_exit]; exact KS_exit hp h
theorem WS_ret {s : List SI} {fr : Fr} {aw : AW} {Q : Fr → AW → Prop} (h : Q fr aw) : WS tab (.code .ret :: s) fr aw Q := by
  show WX tab .ret fr aw _; rw [WX_ret]; exact KS_ret h
theorem WS_loop1 {b : ACode} {s : List SI} {fr : Fr} {aw : AW} {Q : Fr → AW → Prop} (h : WS tab (.code b :: .code (.loop b) :: s) fr aw Q) : WS tab (.code (.loop b) :: s) fr aw Q := by
  show WX tab (.loop b) fr aw _; rw [WX_loop]; exact h
/-- a loop: what holds at its head, at what measure. -/
theorem WS_loop {b : ACode} {s : List SI} {Q : Fr → AW → Prop} (I : Nat → Fr → AW → Prop)
    (step : ∀ n f w, I n f w → (∀ n' f' w', n' < n → I n' f' w' → WS tab (.code (.loop b) :: s) f' w' Q) → WS tab (.code b :: .code (.loop b) :: s) f w Q) :
    ∀ (n : Nat) {fr : Fr} {aw : AW}, I n fr aw → WS tab (.code (.loop b) :: s) fr aw Q := by
  intro n
  induction n using Nat.strongRecOn with
  | ind n ih => intro fr aw hI; exact WS_loop1 (step n fr aw hI fun n' f' w' h1 h2 => ih n' h1 h2)
theorem WS_cond {c : Opd} {a b : ACode} {s : List SI} {fr : Fr} {aw : AW} {Q : Fr → AW → Prop} {t : Bool} (hc : c.ev fr = some (.bool t)) (h1 : t = true → WS tab (.code a :: s) fr aw Q) (h2 : t = false → WS tab (.code b :: s) fr aw Q) : WS tab (.code (.cond c a b) :: s) fr aw Q := by
  show WX tab (.cond c a b) fr aw _; rw [WX_cond, hc]
  exact condK_of h1 h2
theorem WS_condT {c : Opd} {a b : ACode} {s : List SI} {fr : Fr} {aw : AW} {Q : Fr → AW → Prop} (hc : c.ev fr = some (.bool true)) (h1 : WS tab (.code a :: s) fr aw Q) : WS tab (.code (.cond c a b) :: s) fr aw Q :=
  WS_cond hc (fun _ => h1) (fun h => by cases h)
theorem WS_condF {c : Opd} {a b : ACode} {s : List SI} {fr : Fr} {aw : AW} {Q : Fr → AW → Prop} (hc : c.ev fr = some (.bool false)) (h1 : WS tab (.code b :: s) fr aw Q) : WS tab (.code (.cond c a b) :: s) fr aw Q :=
  WS_cond hc (fun h => by cases h) (fun _ => h1)
theorem WS_opsNil {s : List SI} {fr : Fr} {aw : AW} {Q : Fr → AW → Prop} (h : WS tab s fr aw Q) : WS tab (.ops [] :: s) fr aw Q := by
  show WO tab [] fr aw _; rw [WO_nil]; exact h
theorem WS_val {o : AOper} {l : List AOper} {s : List SI} {fr : Fr} {aw aw1 : AW} {v : V} {Q : Fr → AW → Prop} (hw : wanted fr o.guard = some true) (ha : aop o.op fr aw = some (.val v, aw1)) (h : WS tab (.ops l :: s) (putO fr o.dst v) aw1 Q) : WS tab (.ops (o :: l) :: s) fr aw Q := by
  show WO tab (o :: l) fr aw _; rw [WO_cons, W1_eq, hw, ha]; exact h
theorem WS_eff {o : AOper} {l : List AOper} {s : List SI} {fr : Fr} {aw aw1 : AW} {Q : Fr → AW → Prop} (hw : wanted fr o.guard = some true) (ha : aop o.op fr aw = some (.skip, aw1)) (h : WS tab (.ops l :: s) (putO fr o.dst .undef) aw1 Q) : WS tab (.ops (o :: l) :: s) fr aw Q := by
  show WO tab (o :: l) fr aw _; rw [WO_cons, W1_eq, hw, ha]; exact h
theorem WS_pass {o : AOper} {l : List AOper} {s : List SI} {fr : Fr} {aw : AW} {Q : Fr → AW → Prop} (hw : wanted fr o.guard = some false) (h : WS tab (.ops l :: s) (putO fr o.dst .undef) aw Q) : WS tab (.ops (o :: l) :: s) fr aw Q := by
  show WO tab (o :: l) fr aw _; rw [WO_cons, W1_eq, hw]; exact h
theorem WS_call {o : AOper} {l : List AOper} {s : List SI} {fr : Fr} {aw aw1 : AW} {f : Nat} {args : List V} {Q : Fr → AW → Prop} (hw : wanted fr o.guard = some true) (ha : aop o.op fr aw = some (.call f args, aw1)) (h : WF tab f args aw1 (fun v w => WS tab (.ops l :: s) (putO fr o.dst v) w Q)) : WS tab (.ops (o :: l) :: s) fr aw Q := by
  show WO tab (o :: l) fr aw _; rw [WO_cons, W1_eq, hw, ha]; exact .inl h
theorem WF_of {f : Nat} {args : List V} {aw : AW} {K : V → AW → Prop} {af : AFun} (hc : tab.code f = some af) (hn : Nat.ble args.length af.ntmps = true)
    (h : WS tab [.code af.body] (initFr args 0) aw (fun fr' aw' => ∃ vs, resV fr' aw' af.results = some vs ∧ K (resOne vs) aw')) : WF tab f args aw K := by
  refine WF_code hc (Nat.le_of_ble_eq_true hn) (WX.mono h ?_)
  intro e f w hk
  cases e with
  | normal => exact ⟨.inl rfl, hk⟩
  | ret => exact ⟨.inr rfl, hk⟩
  | exit id => exact hk.elim

inductive RS where
  | on (s : List SI) (fr : Fr) (aw : AW)
  | none
/-- as far as nothing is open: the stack, the frame, the memory behind it. -/
def eRun0 : Nat → List SI → Fr → AW → RS
  | 0, s, fr, aw => RS.on s fr aw
  | n + 1, [], fr, aw => RS.on [] fr aw
  | n + 1, .endB _ :: s, fr, aw => eRun0 n s fr aw
  | n + 1, .ops [] :: s, fr, aw => eRun0 n s fr aw
  | n + 1, .ops (o :: l) :: s, fr, aw => match wanted fr o.guard with
    | some true => match aop o.op fr aw with
      | some (.val v, aw1) => eRun0 n (.ops l :: s) (putO fr o.dst v) aw1
      | some (.skip, aw1) => eRun0 n (.ops l :: s) (putO fr o.dst .undef) aw1
      | _ => RS.on (.ops (o :: l) :: s) fr aw
    | some false => eRun0 n (.ops l :: s) (putO fr o.dst .undef) aw
    | none => RS.on (.ops (o :: l) :: s) fr aw
  | n + 1, .code c :: s, fr, aw => match c with
    | .skip => eRun0 n s fr aw
    | .seq a b => eRun0 n (.code a :: .code b :: s) fr aw
    | .block id b => eRun0 n (.code b :: .endB id :: s) fr aw
    | .scope b => eRun0 n (.code b :: s) fr aw
    | .region l => eRun0 n (.ops l :: s) fr aw
    | .exit id => match popTo id s with
      | some s' => eRun0 n s' fr aw
      | none => RS.on (.code (.exit id) :: s) fr aw
    | .cond c a b => match c.ev fr with
      | some (.bool true) => eRun0 n (.code a :: s) fr aw
      | some (.bool false) => eRun0 n (.code b :: s) fr aw
      | _ => RS.on (.code (.cond c a b) :: s) fr aw
    | .loop b => RS.on (.code (.loop b) :: s) fr aw
    | .drawn l => RS.on (.code (.drawn l) :: s) fr aw
    | .ret => RS.on [.code .ret] fr aw
theorem eRun0_at : ∀ (n : Nat) {s : List SI} {fr : Fr} {aw : AW}, eRun0 n s fr aw ≠ RS.none
  | 0, s, fr, aw => by intro h; cases h
  | n + 1, [], fr, aw => by intro h; cases h
  | n + 1, .endB _ :: s, fr, aw => eRun0_at n
  | n + 1, .ops [] :: s, fr, aw => eRun0_at n
  | n + 1, .ops (o :: l) :: s, fr, aw => by
    simp only [eRun0]
    split
    · split
      · exact eRun0_at n
      · exact eRun0_at n
      · intro h; cases h
    · exact eRun0_at n
    · intro h; cases h
  | n + 1, .code c :: s, fr, aw => by
    cases c with
    | skip => exact eRun0_at n
    | seq a b => exact eRun0_at n
    | block id b => exact eRun0_at n
    | scope b => exact eRun0_at n
    | region l => exact eRun0_at n
    | exit id =>
      simp only [eRun0]
      split
      · exact eRun0_at n
      · intro h; cases h
    | cond c a b =>
      simp only [eRun0]
      split
      · exact eRun0_at n
      · exact eRun0_at n
      · intro h; cases h
    | loop b => intro h; cases h
    | drawn l => intro h; cases h
    | ret => intro h; cases h
theorem WS_run0 {Q : Fr → AW → Prop} : ∀ (n : Nat) {s s' : List SI} {fr fr' : Fr} {aw aw' : AW}, eRun0 n s fr aw = RS.on s' fr' aw' → WS tab s' fr' aw' Q → WS tab s fr aw Q
  | 0, s, s', fr, fr', aw, aw', h, hw => by cases h; exact hw
  | n + 1, [], s', fr, fr', aw, aw', h, hw => by cases h; exact hw
  | n + 1, .endB _ :: s, s', fr, fr', aw, aw', h, hw => WS_endB (WS_run0 n h hw)
  | n + 1, .ops [] :: s, s', fr, fr', aw, aw', h, hw => WS_opsNil (WS_run0 n h hw)
  | n + 1, .ops (o :: l) :: s, s', fr, fr', aw, aw', h, hw => by
    simp only [eRun0] at h
    split at h
    · rename_i h1
      split at h
      · rename_i h2; exact WS_val h1 h2 (WS_run0 n h hw)
      · rename_i h2; exact WS_eff h1 h2 (WS_run0 n h hw)
      · cases h; exact hw
    · rename_i h1; exact WS_pass h1 (WS_run0 n h hw)
    · cases h; exact hw
  | n + 1, .code c :: s, s', fr, fr', aw, aw', h, hw => by
    cases c with
    | skip => exact WS_skip (WS_run0 n h hw)
    | seq a b => exact WS_seq (WS_run0 n h hw)
    | block id b => exact WS_block (WS_run0 n h hw)
    | scope b => exact WS_scope (WS_run0 n h hw)
    | region l => exact WS_region (WS_run0 n h hw)
    | exit id =>
      simp only [eRun0] at h
      split at h
      · rename_i h1; exact WS_exit h1 (WS_run0 n h hw)
      · cases h; exact hw
    | cond c a b =>
      simp only [eRun0] at h
      split at h
      · rename_i h1; exact WS_condT h1 (WS_run0 n h hw)
      · rename_i h1; exact WS_condF h1 (WS_run0 n h hw)
      · cases h; exact hw
    | loop b => cases h; exact hw
    | drawn l => cases h; exact hw
    | ret => cases h; have h0 : WX tab .ret fr aw (KS tab [] Q) := hw; rw [WX_ret] at h0; exact WS_ret h0
theorem WS_back {Q : Fr → AW → Prop} : ∀ (n : Nat) {s s' : List SI} {fr fr' : Fr} {aw aw' : AW}, eRun0 n s fr aw = RS.on s' fr' aw' → WS tab s fr aw Q → WS tab s' fr' aw' Q
  | 0, s, s', fr, fr', aw, aw', h, hw => by cases h; exact hw
  | n + 1, [], s', fr, fr', aw, aw', h, hw => by cases h; exact hw
  | n + 1, .endB _ :: s, s', fr, fr', aw, aw', h, hw => WS_back n h hw
  | n + 1, .ops [] :: s, s', fr, fr', aw, aw', h, hw => by
    have hw : WO tab [] fr aw _ := hw
    rw [WO_nil] at hw; exact WS_back n h hw
  | n + 1, .ops (o :: l) :: s, s', fr, fr', aw, aw', h, hw => by
    have hw0 : WO tab (o :: l) fr aw _ := hw
    rw [WO_cons, W1_eq] at hw0
    simp only [eRun0] at h
    split at h
    · rename_i h1
      rw [h1] at hw0
      split at h
      · rename_i h2; rw [h2] at hw0; exact WS_back n h hw0
      · rename_i h2; rw [h2] at hw0; exact WS_back n h hw0
      · cases h; exact hw
    · rename_i h1; rw [h1] at hw0; exact WS_back n h hw0
    · cases h; exact hw
  | n + 1, .code c :: s, s', fr, fr', aw, aw', h, hw => by
    have hw0 : WX tab c fr aw _ := hw
    cases c with
    | skip => rw [WX_skip] at hw0; exact WS_back n h hw0
    | seq a b => rw [WX_seq] at hw0; exact WS_back n (s := .code a :: .code b :: s) h hw0
    | block id b => rw [WX_block] at hw0; exact WS_back n (s := .code b :: .endB id :: s) h hw0
    | scope b => rw [WX_scope] at hw0; exact WS_back n (s := .code b :: s) h hw0
    | region l => rw [WX_region] at hw0; exact WS_back n (s := .ops l :: s) h hw0
    | exit id =>
      rw [WX_exit] at hw0
      simp only [eRun0] at h
      split at h
      · rename_i s1 h1
        refine WS_back n h ?_
        clear h hw
        induction s with
        | nil => cases h1
        | cons x s ih =>
          cases x with
          | code c => exact ih hw0 h1
          | ops l => exact ih hw0 h1
          | endB id' =>
            simp only [popTo] at h1
            split at h1
            · rename_i he; subst he; cases h1
              simp only [KS, inB, if_pos] at hw0; exact hw0
            · rename_i he
              simp only [KS, inB, if_neg he] at hw0; exact ih hw0 h1
      · cases h; exact hw
    | cond c a b =>
      rw [WX_cond] at hw0
      simp only [eRun0] at h
      split at h
      · rename_i h1; rw [h1] at hw0; exact WS_back n (s := .code a :: s) h hw0
      · rename_i h1; rw [h1] at hw0; exact WS_back n (s := .code b :: s) h hw0
      · cases h; exact hw
    | loop b => cases h; exact hw
    | drawn l => cases h; exact hw
    | ret =>
      cases h
      rw [WX_ret] at hw0
      have : ∀ {s : List SI}, KS tab s Q .ret fr aw → Q fr aw := by
        intro s
        induction s with
        | nil => intro h; exact h
        | cons x s ih => intro h; cases x <;> exact ih h
      exact WS_ret (this hw0)
/-- the same, not to be unfolded. -/
theorem eRun_ex : ∃ f : Nat → List SI → Fr → AW → RS, f = eRun0 := ⟨_, rfl⟩
@[irreducible] noncomputable def eRun : Nat → List SI → Fr → AW → RS := Classical.choose eRun_ex
theorem eRun_eq : eRun = eRun0 := by unfold eRun; exact Classical.choose_spec eRun_ex
theorem WS_run {Q : Fr → AW → Prop} (n : Nat) {s s' : List SI} {fr fr' : Fr} {aw aw' : AW} (h : eRun n s fr aw = RS.on s' fr' aw') (hw : WS tab s' fr' aw' Q) : WS tab s fr aw Q := by
  rw [eRun_eq] at h; exact WS_run0 n h hw
/-- as far as it goes; what it stops at goes on. -/
theorem WS_runB {Q : Fr → AW → Prop} (n : Nat) {m : Nat} {s s' : List SI} {fr fr' : Fr} {aw aw' : AW} (h : eRun n s fr aw = eRun m s' fr' aw') (hw : WS tab s' fr' aw' Q) : WS tab s fr aw Q := by
  rw [eRun_eq] at h
  cases he : eRun0 m s' fr' aw' with
  | on s1 f1 a1 => rw [he] at h; exact WS_run0 n h (WS_back m he hw)
  | none => exact absurd he (eRun0_at m)
theorem eRun_nil {n : Nat} {fr : Fr} {aw : AW} : eRun (n + 1) [] fr aw = RS.on [] fr aw := by rw [eRun_eq]; rfl
theorem eRun_endB {n id : Nat} {s : List SI} {fr : Fr} {aw : AW} : eRun (n + 1) (.endB id :: s) fr aw = eRun n s fr aw := by rw [eRun_eq]; rfl
theorem eRun_opsNil {n : Nat} {s : List SI} {fr : Fr} {aw : AW} : eRun (n + 1) (.ops [] :: s) fr aw = eRun n s fr aw := by rw [eRun_eq]; rfl
theorem eRun_ops {n : Nat} {o : AOper} {l : List AOper} {s : List SI} {fr : Fr} {aw : AW} : eRun (n + 1) (.ops (o :: l) :: s) fr aw = match wanted fr o.guard with
    | some true => match aop o.op fr aw with
      | some (.val v, aw1) => eRun n (.ops l :: s) (putO fr o.dst v) aw1
      | some (.skip, aw1) => eRun n (.ops l :: s) (putO fr o.dst .undef) aw1
      | _ => RS.on (.ops (o :: l) :: s) fr aw
    | some false => eRun n (.ops l :: s) (putO fr o.dst .undef) aw
    | none => RS.on (.ops (o :: l) :: s) fr aw := by rw [eRun_eq]; rfl
theorem eRun_skip {n : Nat} {s : List SI} {fr : Fr} {aw : AW} : eRun (n + 1) (.code .skip :: s) fr aw = eRun n s fr aw := by rw [eRun_eq]; rfl
theorem eRun_seq {n : Nat} {a b : ACode} {s : List SI} {fr : Fr} {aw : AW} : eRun (n + 1) (.code (.seq a b) :: s) fr aw = eRun n (.code a :: .code b :: s) fr aw := by rw [eRun_eq]; rfl
theorem eRun_block {n id : Nat} {b : ACode} {s : List SI} {fr : Fr} {aw : AW} : eRun (n + 1) (.code (.block id b) :: s) fr aw = eRun n (.code b :: .endB id :: s) fr aw := by rw [eRun_eq]; rfl
theorem eRun_scope {n : Nat} {b : ACode} {s : List SI} {fr : Fr} {aw : AW} : eRun (n + 1) (.code (.scope b) :: s) fr aw = eRun n (.code b :: s) fr aw := by rw [eRun_eq]; rfl
theorem eRun_region {n : Nat} {l : List AOper} {s : List SI} {fr : Fr} {aw : AW} : eRun (n + 1) (.code (.region l) :: s) fr aw = eRun n (.ops l :: s) fr aw := by rw [eRun_eq]; rfl
theorem eRun_exit {n id : Nat} {s : List SI} {fr : Fr} {aw : AW} : eRun (n + 1) (.code (.exit id) :: s) fr aw = match popTo id s with
      | some s' => eRun n s' fr aw
      | none => RS.on (.code (.exit id) :: s) fr aw := by rw [eRun_eq]; rfl
theorem eRun_cond {n : Nat} {c : Opd} {a b : ACode} {s : List SI} {fr : Fr} {aw : AW} : eRun (n + 1) (.code (.cond c a b) :: s) fr aw = match c.ev fr with
      | some (.bool true) => eRun n (.code a :: s) fr aw
      | some (.bool false) => eRun n (.code b :: s) fr aw
      | _ => RS.on (.code (.cond c a b) :: s) fr aw := by rw [eRun_eq]; rfl
theorem eRun_loop {n : Nat} {b : ACode} {s : List SI} {fr : Fr} {aw : AW} : eRun (n + 1) (.code (.loop b) :: s) fr aw = RS.on (.code (.loop b) :: s) fr aw := by rw [eRun_eq]; rfl
theorem eRun_drawn {n : Nat} {l : List DOper} {s : List SI} {fr : Fr} {aw : AW} : eRun (n + 1) (.code (.drawn l) :: s) fr aw = RS.on (.code (.drawn l) :: s) fr aw := by rw [eRun_eq]; rfl
theorem eRun_ret {n : Nat} {s : List SI} {fr : Fr} {aw : AW} : eRun (n + 1) (.code .ret :: s) fr aw = RS.on [.code .ret] fr aw := by rw [eRun_eq]; rfl
theorem T.get_putk {α : Type} {t : T α} {k j : Nat} {x : α} : (t.put k x).get j = if j = k then some x else t.get j := by
  by_cases hj : j = k
  · subst hj; rw [if_pos rfl, get_put_same]
  · rw [if_neg hj, get_put_ne hj]
theorem initFr_nil {k : Nat} : initFr [] k = .e := rfl
theorem initFr_cons {v : V} {l : List V} {k : Nat} : initFr (v :: l) k = (initFr l (k + 1)).put k v := rfl
theorem putO_some {fr : Fr} {d : Nat} {v : V} : putO fr (some d) v = fr.put d v := rfl
theorem putO_none {fr : Fr} {v : V} : putO fr none v = fr := rfl
theorem wanted_none {fr : Fr} : wanted fr none = some true := rfl
theorem ev_tmp {fr : Fr} {t : Nat} : (Opd.tmp t).ev fr = fr.get t := rfl
theorem ev_const {fr : Fr} {v : V} : (Opd.const v).ev fr = some v := rfl
theorem resOne_one {v : V} : resOne [v] = v := rfl
theorem resOne_two {v u : V} : resOne [v, u] = .tuple [v, u] := rfl
theorem natBeq {a b : Nat} : Nat.beq a b = decide (a = b) := by
  cases h : Nat.beq a b with
  | true => simp [Nat.eq_of_beq_eq_true h]
  | false => simp [Nat.ne_of_beq_eq_false h]
theorem natBle {a b : Nat} : Nat.ble a b = decide (a ≤ b) := by
  cases h : Nat.ble a b with
  | true => simp [Nat.le_of_ble_eq_true h]
  | false => simp only [Bool.false_eq, decide_eq_false_iff_not]; exact Nat.not_le_of_not_ble_eq_true (by simp [h])
theorem natBlt {a b : Nat} : Nat.blt a b = decide (a < b) := by
  unfold Nat.blt; rw [natBle]; rfl
theorem wrap_id {n : Int} (h1 : -9223372036854775808 ≤ n) (h2 : n ≤ 9223372036854775807) : IntKind.wrap .i64 n = n := by
  have h : IntKind.wrap .i64 n = if n % 18446744073709551616 ≥ 9223372036854775808 then n % 18446744073709551616 - 18446744073709551616 else n % 18446744073709551616 := by
    simp [IntKind.wrap, IntKind.bits, IntKind.signed]
  rw [h]; split <;> omega
theorem wrap_add {a b : Nat} (h : a + b ≤ 9223372036854775807) : IntKind.wrap .i64 (Int.ofNat a + Int.ofNat b) = Int.ofNat (a + b) := by
  have e1 : Int.ofNat a = (a : Int) := rfl
  have e2 : Int.ofNat b = (b : Int) := rfl
  have e3 : Int.ofNat (a + b) = ((a + b : Nat) : Int) := rfl
  rw [wrap_id] <;> omega
theorem wrap_succ {a : Nat} (h : a + 1 ≤ 9223372036854775807) : IntKind.wrap .i64 (Int.ofNat a + 1) = Int.ofNat (a + 1) := wrap_add (b := 1) h
theorem gt_nn {a b : Nat} : decide (Int.ofNat a > Int.ofNat b) = decide (b < a) := by simp
theorem ge_nn {a b : Nat} : decide (Int.ofNat a ≥ Int.ofNat b) = decide (b ≤ a) := by simp
theorem le_nn {a b : Nat} : decide (Int.ofNat a ≤ Int.ofNat b) = decide (a ≤ b) := by simp
theorem lt_nn {a b : Nat} : decide (Int.ofNat a < Int.ofNat b) = decide (a < b) := by simp
theorem eq_nn {a b : Nat} : (Int.ofNat a == Int.ofNat b) = decide (a = b) := by
  by_cases h : a = b
  · simp [h]
  · simp only [h, decide_false, beq_eq_false_iff_ne, ne_eq]; intro e; exact h (Int.ofNat.inj e)
theorem ne_nn {a b : Nat} : (Int.ofNat a != Int.ofNat b) = !decide (a = b) := by
  simp only [bne, eq_nn]
theorem gt_nl {a b : Nat} : decide (Int.ofNat a > (no_index (@OfNat.ofNat Int b instOfNat))) = decide (@OfNat.ofNat Nat b (instOfNatNat b) < a) := gt_nn
theorem ge_nl {a b : Nat} : decide (Int.ofNat a ≥ (no_index (@OfNat.ofNat Int b instOfNat))) = decide (@OfNat.ofNat Nat b (instOfNatNat b) ≤ a) := ge_nn
theorem le_nl {a b : Nat} : decide (Int.ofNat a ≤ (no_index (@OfNat.ofNat Int b instOfNat))) = decide (a ≤ @OfNat.ofNat Nat b (instOfNatNat b)) := le_nn
theorem lt_nl {a b : Nat} : decide (Int.ofNat a < (no_index (@OfNat.ofNat Int b instOfNat))) = decide (a < @OfNat.ofNat Nat b (instOfNatNat b)) := lt_nn
theorem eq_nl {a b : Nat} : (Int.ofNat a == (no_index (@OfNat.ofNat Int b instOfNat))) = decide (a = @OfNat.ofNat Nat b (instOfNatNat b)) := eq_nn
theorem ne_nl {a b : Nat} : (Int.ofNat a != (no_index (@OfNat.ofNat Int b instOfNat))) = !decide (a = @OfNat.ofNat Nat b (instOfNatNat b)) := ne_nn
theorem gt_ln {a b : Nat} : decide ((no_index (@OfNat.ofNat Int b instOfNat)) > Int.ofNat a) = decide (a < @OfNat.ofNat Nat b (instOfNatNat b)) := gt_nn
theorem ge_ln {a b : Nat} : decide ((no_index (@OfNat.ofNat Int b instOfNat)) ≥ Int.ofNat a) = decide (a ≤ @OfNat.ofNat Nat b (instOfNatNat b)) := ge_nn
theorem lt_ln {a b : Nat} : decide ((no_index (@OfNat.ofNat Int b instOfNat)) < Int.ofNat a) = decide (@OfNat.ofNat Nat b (instOfNatNat b) < a) := lt_nn
theorem le_ln {a b : Nat} : decide ((no_index (@OfNat.ofNat Int b instOfNat)) ≤ Int.ofNat a) = decide (@OfNat.ofNat Nat b (instOfNatNat b) ≤ a) := le_nn
theorem take_drop_all {α : Type} {k : Nat} {s : List α} : (s.drop k).take (s.length - k) = s.drop k := List.take_of_length_le (by simp)
theorem take_drop_mid {α : Type} {k n : Nat} {s : List α} : (s.drop k).take (k + n - k) = (s.drop k).take n := by rw [Nat.add_sub_cancel_left]
/-! what a call leaves of what was there: all below a number. -/
structure Ext (N : Nat) (w w' : AW) : Prop where
  le : N ≤ w.next
  next : w.next ≤ w'.next
  heap : ∀ b, b < N → w'.heap.get b = w.heap.get b
  fams : ∀ b, b < N → w'.fams.get b = w.fams.get b
theorem Ext.refl (w : AW) : Ext w.next w w := ⟨Nat.le_refl _, Nat.le_refl _, fun _ _ => rfl, fun _ _ => rfl⟩
theorem Ext.trans {N : Nat} {a b c : AW} (h : Ext N a b) (h' : Ext N b c) : Ext N a c :=
  ⟨h.le, Nat.le_trans h.next h'.next, fun k hk => (h'.heap k hk).trans (h.heap k hk), fun k hk => (h'.fams k hk).trans (h.fams k hk)⟩
theorem Ext.mono {N M : Nat} {a b : AW} (h : Ext N a b) (hm : M ≤ N) : Ext M a b :=
  ⟨Nat.le_trans hm h.le, h.next, fun k hk => h.heap k (Nat.lt_of_lt_of_le hk hm), fun k hk => h.fams k (Nat.lt_of_lt_of_le hk hm)⟩
theorem Ext.new {N : Nat} {w : AW} (h : N ≤ w.next) (x : Blk) : Ext N w (w.new x) :=
  ⟨h, Nat.le_succ _, fun b hb => T.get_put_ne (by omega), fun _ _ => rfl⟩
/-- a slice that one appends to, its cells; all of it from N on. -/
inductive Own (N : Nat) (w : AW) : V → Nat → Nat → List V → Prop
  | nil {esz : Nat} : Own N w .nilslice esz 0 []
  | blk {b n esz : Nat} {cs : List V} {sh : Share} (hN : N ≤ b) (hb : b < w.next) (hx : w.heap.get b = some (.cells cs sh)) (hl : cs.length = n * esz) (he : 0 < esz) (hn : 0 < n)
      (hs : sh = .own ∨ sh = .lax ∨ ∃ f F, sh = .fam f ∧ N ≤ f ∧ f < w.next ∧ w.fams.get f = some F ∧ F.last = b ∧ F.floor ≤ w.next ∧ w.alive b sh = true) : Own N w (.slice b 0 n (.upTo esz)) esz n cs
theorem Own.ext {N : Nat} {w w' : AW} {v : V} {esz n : Nat} {cs : List V} (h : Own N w v esz n cs) {M : Nat} (hM : w.next ≤ M) (he : Ext M w w') : Own N w' v esz n cs := by
  cases h with
  | nil => exact .nil
  | blk hN hb hx hl he' hn hs =>
    refine .blk hN (Nat.lt_of_lt_of_le hb he.next) ((he.heap _ (by omega)).trans hx) hl he' hn ?_
    rcases hs with rfl | rfl | ⟨f, F, rfl, h1, h2, h3, h4, h6, h5⟩
    · exact .inl rfl
    · exact .inr (.inl rfl)
    · refine .inr (.inr ⟨f, F, rfl, h1, Nat.lt_of_lt_of_le h2 he.next, (he.fams f (by omega)).trans h3, h4, Nat.le_trans h6 he.next, ?_⟩)
      simp only [AW.alive, h3, (he.fams f (by omega)).trans h3] at h5 ⊢
      exact h5
theorem takeN_all : ∀ (l : List V) (n : Nat), l.length = n → takeN n l = some l
  | [], n, h => by cases h; rfl
  | x :: l, n, h => by
    cases n with
    | zero => cases h
    | succ n => simp only [takeN, takeN_all l n (by simpa using h)]
theorem takeN_some : ∀ (n : Nat) (l : List V), n ≤ l.length → takeN n l = some (l.take n)
  | 0, l, h => by simp [takeN]
  | n + 1, [], h => by simp at h
  | n + 1, x :: l, h => by simp only [takeN, takeN_some n l (by simpa using h), List.take_succ_cons]
theorem Own.alive {N : Nat} {w : AW} {b n esz : Nat} {cs : List V} {sh : Share} (hs : sh = .own ∨ sh = .lax ∨ ∃ f F, sh = .fam f ∧ N ≤ f ∧ f < w.next ∧ w.fams.get f = some F ∧ F.last = b ∧ F.floor ≤ w.next ∧ w.alive b sh = true) : w.alive b sh = true := by
  rcases hs with rfl | rfl | ⟨f, F, rfl, h1, h2, h3, h4, h6, h5⟩
  · rfl
  · rfl
  · exact h5
theorem Own.len {N : Nat} {w : AW} {v : V} {esz n : Nat} {cs : List V} (h : Own N w v esz n cs) : cs.length = n * esz := by
  cases h with
  | nil => simp
  | blk hN hb hx hl he' hn hs => exact hl
/-- a cell of it. -/
theorem Own.load {N : Nat} {w : AW} {b n esz : Nat} {c : Cap} {cs : List V} (h : Own N w (.slice b 0 n c) esz n cs) {o k : Nat} (hk : o + k ≤ cs.length) : w.load b o k = some ((cs.drop o).take k) := by
  cases h with
  | blk hN hb hx hl he' hn hs =>
    simp only [AW.load, hx, Own.alive (n := n) (esz := esz) (cs := cs) hs]
    exact takeN_some _ _ (by simp; omega)
theorem Own.append {N : Nat} {w : AW} {v : V} {esz n k bytes : Nat} {cs news : List V} (h : Own N w v esz n cs) (hNw : N ≤ w.next) (he : 0 < esz) (hk : 0 < k) (hl : news.length = k * esz) (h1 : allOne news = true) (hb : (n + k) * bytes ≤ 70368744177664) (hb' : n + k ≤ 70368744177664) :
    ∃ v' w', w.appendV esz bytes v k news = some (v', w') ∧ Own N w' v' esz (n + k) (cs ++ news) ∧ Ext N w w' := by
  obtain ⟨k, rfl⟩ : ∃ m, k = m + 1 := ⟨k - 1, by omega⟩
  cases h with
  | nil =>
    refine ⟨.slice w.next 0 (k + 1) (.upTo esz), w.fresh news, ?_, ?_, Ext.new hNw _⟩
    · simp only [AW.appendV]; rw [if_pos ⟨by simpa using hb, by omega⟩]
    · rw [Nat.zero_add]
      exact .blk hNw (Nat.lt_succ_self _) T.get_put_same (by simpa using hl) he (by omega) (.inl rfl)
  | @blk b _ _ _ sh hN hbw hx hlen he' hn hs =>
    have hbeq : Nat.beq (0 + n * esz) cs.length = true := by rw [Nat.zero_add, hlen, Nat.beq_refl]
    have hin : esz = esz ∧ (n + (k + 1)) * bytes ≤ 70368744177664 ∧ n + (k + 1) ≤ 70368744177664 ∧ allOne news = true ∧ 0 < esz := ⟨rfl, hb, hb', h1, he⟩
    -- from a family's block
    have fam : ∀ (u : AW) (f : Nat) (F : Fam), u.heap.get b = some (.cells cs (.fam f)) → N ≤ f → f < u.next → b < u.next → N ≤ u.next → u.fams.get f = some F → F.last = b → F.floor ≤ u.next → u.alive b (.fam f) = true →
        ∃ v' w', u.appendFam esz b 0 n (k + 1) news = some (v', w') ∧ Own N w' v' esz (n + (k + 1)) (cs ++ news) ∧ Ext N u w' := by
      intro u f F hx hNf hfu hbu hNu hF hlast hfl hal
      refine ⟨.slice u.next 0 (n + (k + 1)) (.upTo esz), u.grow b f F (cs.drop 0 ++ news), ?_, ?_, ?_⟩
      · simp only [AW.appendFam, hx, hal, hF, hbeq]
      · have hg : (u.grow b f F (cs.drop 0 ++ news)).fams.get f = some ⟨F.keep, F.floor, u.next⟩ := by
          simp only [AW.grow, T.get_putk, if_true, hlast, Nat.beq_refl]
        refine .blk hNu (Nat.lt_succ_self _) (sh := .fam f) ?_ ?_ he (by omega) (.inr (.inr ⟨f, ⟨F.keep, F.floor, u.next⟩, rfl, hNf, Nat.lt_succ_of_lt hfu, hg, rfl, Nat.le_succ_of_le hfl, ?_⟩))
        · simp only [AW.grow, T.get_putk, if_true, List.drop_zero]
        · rw [List.length_append, hlen, hl, Nat.add_mul n]
        · simp only [AW.alive, hg, Bool.or_eq_true]
          exact .inr (Nat.ble_eq_true_of_le hfl)
      · refine ⟨hNu, Nat.le_succ _, fun c hc => ?_, fun c hc => ?_⟩
        · exact T.get_put_ne (by omega)
        · exact T.get_put_ne (by omega)
    have fnd : sh = .own ∨ sh = .lax → ∃ v' w', (w.found b cs).appendFam esz b 0 n (k + 1) news = some (v', w') ∧ Own N w' v' esz (n + (k + 1)) (cs ++ news) ∧ Ext N w w' := by
      intro _
      obtain ⟨v', w', q1, q2, q3⟩ := fam (w.found b cs) w.next ⟨b, w.next + 1, b⟩ T.get_put_same hNw (Nat.lt_succ_self _) (Nat.lt_succ_of_lt hbw) (Nat.le_succ_of_le hNw) T.get_put_same rfl (Nat.le_refl _)
        (by simp only [AW.alive, AW.found, T.get_putk, if_true, Nat.beq_refl, Bool.true_or])
      refine ⟨v', w', q1, q2, Ext.trans ⟨hNw, Nat.le_succ _, fun c hc => ?_, fun c hc => ?_⟩ q3⟩
      · exact T.get_put_ne (by omega)
      · exact T.get_put_ne (by omega)
    have happ : w.appendV esz bytes (.slice b 0 n (.upTo esz)) (k + 1) news = w.appendUp esz b 0 n (k + 1) news := if_pos hin
    rw [happ]
    simp only [AW.appendUp, hx, hbeq]
    rcases hs with rfl | rfl | ⟨f, F, rfl, g1, g2, g3, g4, g6, g5⟩
    · exact fnd (.inl rfl)
    · exact fnd (.inr rfl)
    · exact fam w f F hx g1 g2 hbw hNw g3 g4 g6 g5
/-- a region whose order is drawn, of quiet operations alone. -/
def dRun : List DOper → Fr → AW → Option Fr
  | [], fr, _ => some fr
  | d :: l, fr, aw => match wanted (hideL fr d.hide) d.op.guard with
    | some true => match aop d.op.op (hideL fr d.hide) aw with
      | some (.val v, _) => dRun l (putO fr d.op.dst v) aw
      | _ => none
    | some false => dRun l (putO fr d.op.dst .undef) aw
    | none => none
theorem Pass.len {l : List DOper} {fr : Fr} {aw : AW} {st : List Stp} {fr' : Fr} {aw' : AW} : Pass tab l fr aw st fr' aw' → st.length = l.length := by
  induction l generalizing fr aw st with
  | nil => intro h; cases h; rfl
  | cons d l ih => intro h; cases h; rename_i h1 h2; simp [ih h2]
theorem idx_lit {k : IntKind} {n : Nat} : idx (.int k (no_index (@OfNat.ofNat Int n instOfNat))) = some (@OfNat.ofNat Nat n (instOfNatNat n)) := rfl
theorem idx_nat {k : IntKind} {n : Nat} : idx (.int k (Int.ofNat n)) = some n := rfl
theorem elems_fresh {w : AW} {esz n : Nat} {cs : List V} {c : Cap} (hn : 0 < n) (hl : cs.length = n * esz) : (w.fresh cs).elems esz (.slice w.next 0 n c) = some (n, cs) := by
  obtain ⟨n, rfl⟩ : ∃ m, n = m + 1 := ⟨n - 1, by omega⟩
  simp only [AW.elems, AW.load, AW.fresh, AW.new, T.get_putk, if_true, AW.alive, List.drop_zero]
  rw [takeN_all cs _ hl]
/-- appended: one thing that was just built. -/
theorem Own.push {N : Nat} {w : AW} {v : V} {esz n bytes : Nat} {cs news : List V} (h : Own N w v esz n cs) (hNw : N ≤ w.next) (he : 0 < esz) (hl : news.length = esz) (h1 : allOne news = true) (hb : (n + 1) * bytes ≤ 70368744177664) (hb' : n + 1 ≤ 70368744177664) :
    ∃ v' w', (w.fresh news).appendV esz bytes v 1 news = some (v', w') ∧ Own N w' v' esz (n + 1) (cs ++ news) ∧ Ext N w w' := by
  have hx : Ext w.next w (w.fresh news) := Ext.new (Nat.le_refl _) _
  obtain ⟨v', w', h2, h3, h4⟩ := (h.ext (Nat.le_refl _) hx).append (news := news) (bytes := bytes) (k := 1) (Nat.le_trans hNw hx.next) he (by omega) (by omega) h1 hb hb'
  exact ⟨v', w', h2, h3, (hx.mono hNw).trans h4⟩
theorem drop_flat {α : Type} {enc : α → List V} {sz : Nat} (h : ∀ x, (enc x).length = sz) : ∀ (l : List α) (i : Nat), (l.flatMap enc).drop (i * sz) = (l.drop i).flatMap enc
  | [], i => by simp
  | x :: l, 0 => by simp
  | x :: l, i + 1 => by
    have e : (i + 1) * sz = sz + i * sz := by rw [Nat.add_mul, Nat.one_mul, Nat.add_comm]
    rw [List.flatMap_cons, e, ← List.drop_drop, List.drop_append_of_le_length (by rw [h x]; exact Nat.le_refl _)]
    have : List.drop sz (enc x) = [] := List.drop_eq_nil_of_le (by rw [h x]; exact Nat.le_refl _)
    rw [this, List.nil_append, drop_flat h l i, List.drop_succ_cons]
theorem flat_len {α : Type} {enc : α → List V} {sz : Nat} (h : ∀ x, (enc x).length = sz) : ∀ (l : List α), (l.flatMap enc).length = l.length * sz
  | [] => by simp
  | x :: l => by rw [List.flatMap_cons, List.length_append, h x, flat_len h l, List.length_cons, Nat.add_mul, Nat.one_mul, Nat.add_comm]
/-- a part of an element. -/
theorem flat_part {α : Type} {enc : α → List V} {sz : Nat} (h : ∀ x, (enc x).length = sz) {l : List α} {i j k : Nat} {x : α} (hx : l[i]? = some x) (hj : j + k ≤ sz) : (((l.flatMap enc).drop (0 + i * sz + j)).take k) = ((enc x).drop j).take k := by
  have hi : i < l.length := (List.getElem?_eq_some_iff.1 hx).1
  have hd : l.drop i = x :: l.drop (i + 1) := by
    rw [List.drop_eq_getElem_cons hi]; rw [List.getElem?_eq_getElem hi] at hx; rw [Option.some.inj hx]
  rw [Nat.zero_add, ← List.drop_drop, drop_flat h, hd, List.flatMap_cons, List.drop_append_of_le_length (by rw [h x]; omega), List.take_append_of_le_length (by rw [List.length_drop, h x]; omega)]
theorem Own.part {α : Type} {enc : α → List V} {N : Nat} {w : AW} {b n sz : Nat} {c : Cap} {l : List α} (h : ∀ x, (enc x).length = sz) (ho : Own N w (.slice b 0 n c) sz n (l.flatMap enc)) {i j k : Nat} {x : α} (hx : l[i]? = some x) (hj : j + k ≤ sz) :
    w.load b (0 + i * sz + j) k = some (((enc x).drop j).take k) := by
  have hi : i < l.length := (List.getElem?_eq_some_iff.1 hx).1
  rw [ho.load ?_, flat_part h hx hj]
  rw [flat_len h]
  have : i * sz + sz ≤ l.length * sz := by
    have : (i + 1) * sz ≤ l.length * sz := Nat.mul_le_mul_right _ hi
    rwa [Nat.add_mul, Nat.one_mul] at this
  omega
theorem Own.inv {N : Nat} {w : AW} {v : V} {esz n : Nat} {cs : List V} (h : Own N w v esz n cs) : (v = .nilslice ∧ n = 0 ∧ cs = []) ∨ ∃ b, v = .slice b 0 n (.upTo esz) ∧ 0 < n := by
  cases h with
  | nil => exact .inl ⟨rfl, rfl, rfl⟩
  | blk hN hb hx hl he hn hs => exact .inr ⟨_, rfl, hn⟩
end
end Go.AE

set_option linter.unusedSectionVars false
namespace Go.AE
variable [Globs]
theorem lenV_nil : lenV .nilslice = some 0 := rfl
theorem lenV_slice {b o n : Nat} {c : Cap} : lenV (.slice b o n c) = some n := rfl
attribute [go_sem] lenV_nil lenV_slice eRun_nil eRun_endB eRun_opsNil eRun_ops eRun_skip eRun_seq eRun_block eRun_scope eRun_region eRun_cond eRun_loop eRun_drawn eRun_ret dRun hideL T.get_delk evOpt Option.getD_none Option.getD_some Nat.le_refl and_self true_and and_true take_drop_all take_drop_mid gt_nn ge_nn le_nn lt_nn eq_nn ne_nn gt_nl ge_nl le_nl lt_nl eq_nl ne_nl gt_ln ge_ln le_ln lt_ln Bool.true_and Bool.false_and popTo wanted_none wanted aop ev_tmp ev_const evs initFr_cons initFr_nil putO_some putO_none AE.valOf T.get_putk T.get_e idx_lit idx_nat List.getElem?_cons_zero List.getElem?_cons_succ aBin binI aUn beq_self_eq_true Bool.true_beq Bool.false_beq Bool.not_true Bool.not_false List.append_nil List.nil_append List.cons_append natBeq natBle natBlt decide_true decide_false resV resOne_one resOne_two
end Go.AE

set_option linter.unusedVariables false
set_option linter.unusedSectionVars false
set_option linter.unusedSimpArgs false
namespace Go.AE
variable [Globs]
def aopK (o : AOp) : Fr → AW → Option (Res × AW) :=
  match o with
  | .stuck => fun fr aw => none
  | .mov x => fun fr aw => valOf (x.ev fr) aw
  | .pick c a b => fun fr aw => match c.ev fr with
    | some (.bool true) => valOf (a.ev fr) aw
    | some (.bool false) => valOf (b.ev fr) aw
    | _ => none
  | .bin op x y => fun fr aw => match x.ev fr, y.ev fr with
    | some a, some b => valOf (aBin op a b) aw
    | _, _ => none
  | .eqv neg ty x y => fun fr aw => match x.ev fr, y.ev fr with
    | some a, some b => match eqV ty a b with
      | some r => some (.val (.bool (neg != r)), aw)
      | none => none
    | _, _ => none
  | .eqAgg neg l x y => fun fr aw => match x.ev fr, y.ev fr with
    | some (.agg a), some (.agg b) => match eqCells l a b with
      | some r => some (.val (.bool (neg != r)), aw)
      | none => none
    | _, _ => none
  | .un op x => fun fr aw => match x.ev fr with
    | some a => valOf (aUn op a) aw
    | none => none
  | .conv k x => fun fr aw => match x.ev fr with
    | some (.int _ n) => some (.val (.int k (k.wrap n)), aw)
    | _ => none
  | .convStr x => fun fr aw => match x.ev fr with
    | some (.str l) => some (.val (.str l), aw)
    | _ => none
  | .bytesOf x => fun fr aw => match x.ev fr with
    | some (.str l) => if l.length ≤ 70368744177664 then some (.val (.slice aw.next 0 l.length (.upTo 1)), aw.freshLax (intCells l)) else none
    | _ => none
  | .strOf x => fun fr aw => match x.ev fr with
    | some .nilslice => some (.val (.str []), aw)
    | some (.slice b off len cap) => match aw.elems 1 (.slice b off len cap) with
      | some (_, l) => match bytesV l with
        | some cs => some (.val (.str cs), aw)
        | none => none
      | none => none
    | _ => none
  | .nilCheck x => fun fr aw => match x.ev fr with
    | some (.ptr b off) => some (.val (.ptr b off), aw)
    | some (.func (.func f) a c) => some (.val (.func (.func f) a c), aw)
    | some (.iface t v) => some (.val (.iface t v), aw)
    | _ => none
  | .fieldAddr off x => fun fr aw => match x.ev fr with
    | some (.ptr b o) => some (.val (.ptr b (o + off)), aw)
    | _ => none
  | .indexAddr esz x i => fun fr aw => match x.ev fr, i.ev fr with
    | some (.slice b off len _), some iv => match idx iv with
      | some n => if n < len then some (.val (.ptr b (off + n * esz)), aw) else none
      | none => none
    | _, _ => none
  | .indexArr n esz x i => fun fr aw => match x.ev fr, i.ev fr with
    | some (.ptr b off), some iv => match idx iv with
      | some j => if j < n then some (.val (.ptr b (off + j * esz)), aw) else none
      | none => none
    | _, _ => none
  | .indexStr x i => fun fr aw => match x.ev fr, i.ev fr with
    | some (.str l), some iv => match idx iv with
      | some n => match l[n]? with
        | some c => some (.val (.int .u8 (Int.ofNat c)), aw)
        | none => none
      | none => none
    | _, _ => none
  | .indexAgg n esz agg x i => fun fr aw => match x.ev fr, i.ev fr with
    | some (.agg l), some iv => match idx iv with
      | some j => if j < n then valOf (partV l (j * esz) esz agg) aw else none
      | none => none
    | _, _ => none
  | .field off sz agg x => fun fr aw => match x.ev fr with
    | some (.agg l) => valOf (partV l off sz agg) aw
    | _ => none
  | .load sz agg a => fun fr aw => match a.ev fr with
    | some (.ptr b off) => match agg with
      | true => match aw.load b off sz with
        | some l => some (.val (.agg l), aw)
        | none => none
      | false => match aw.load b off 1 with
        | some [v] => some (.val v, aw)
        | _ => none
    | _ => none
  | .store sz a v => fun fr aw => match a.ev fr, v.ev fr with
    | some (.ptr b off), some v => if v.cells.length = sz then match aw.store b off v.cells with
        | some aw' => some (.skip, aw')
        | none => none
      else none
    | _, _ => none
  | .alloc zero => fun fr aw => some (.val (.ptr aw.next 0), aw.fresh zero)
  | .box x => fun fr aw => match x.ev fr with
    | some v => some (.val (.ptr aw.next 0), aw.fresh v.cells)
    | none => none
  | .build zero parts => fun fr aw => match evParts fr parts with
    | some ps => match fillV zero ps with
      | some l => some (.val (.agg l), aw)
      | none => none
    | none => none
  | .buildSlice len zero parts => fun fr aw => match evParts fr parts with
    | some ps => match fillV zero ps with
      | some l => some (.val (.slice aw.next 0 len (.known len)), aw.fresh l)
      | none => none
    | none => none
  | .mkSlice esz bytes zero l c => fun fr aw => match l.ev fr, c.ev fr with
    | some lv, some cv => match idx lv, idx cv with
      | some l, some c => if l ≤ c ∧ c ≤ 70368744177664 ∧ c * bytes ≤ 70368744177664 then
          some (.val (.slice aw.next 0 l (.known c)), aw.fresh ((List.replicate c zero).flatten))
        else none
      | _, _ => none
    | _, _ => none
  | .slice esz x lo hi mx => fun fr aw => match x.ev fr, evOpt fr lo, evOpt fr hi, evOpt fr mx with
    | some (.slice b off len cap), some lo, some hi, some mx => valOf (aw.sliceW esz b off len cap lo hi mx) aw
    | some .nilslice, some lo, some hi, some mx => match lo.getD 0, hi.getD 0, mx.getD 0 with
      | 0, 0, 0 => if mx.isSome = true → hi.isSome = true then some (.val .nilslice, aw) else none
      | _, _, _ => none
    | _, _, _, _ => none
  | .sliceStr x lo hi => fun fr aw => match x.ev fr, evOpt fr lo, evOpt fr hi with
    | some (.str s), some lo, some hi =>
      let h := hi.getD s.length
      let l := lo.getD 0
      if h ≤ s.length ∧ l ≤ h then some (.val (.str ((s.drop l).take (h - l))), aw) else none
    | _, _, _ => none
  | .sliceArr n esz x lo hi mx => fun fr aw => match x.ev fr, evOpt fr lo, evOpt fr hi, evOpt fr mx with
    | some (.ptr b off), some lo, some hi, some mx => valOf (sliceV esz b off n (.known n) lo hi mx) aw
    | _, _, _, _ => none
  | .mkMap => fun fr aw => some (.val (.map aw.next), aw.new (.map [] 0))
  | .lookup t zero ok m k => fun fr aw => match m.ev fr, k.ev fr with
    | some m, some k => match aw.lookV t zero m k with
      | some (v, b) => some (.val (match ok with | true => .tuple [v, .bool b] | false => v), aw)
      | none => none
    | _, _ => none
  | .mapUpdate t m k v => fun fr aw => match m.ev fr, k.ev fr, v.ev fr with
    | some m, some k, some v => match aw.putV t m k v with
      | some aw' => some (.skip, aw')
      | none => none
    | _, _, _ => none
  | .mapEntry t zero m k => fun fr aw => match m.ev fr, k.ev fr with
    | some m, some k => match aw.entries m, keyOk t k with
      | some (some b, es, ck), true => match findE t k es 0 with
        | some (some (i, v, n)) => some (.val (.tuple [v, .int .i64 (Int.ofNat n)]), aw.turn b (.map (setE i k v es) ck))
        | some none => some (.val (.tuple [zero, .int .i64 (Int.ofNat ck)]), aw.turn b (.map (es ++ [(k, zero, ck)]) (ck + 1)))
        | none => none
      | _, _ => none
    | _, _ => none
  | .entryStore m s v => fun fr aw => match m.ev fr, s.ev fr, v.ev fr with
    | some m, some s, some v => match aw.entries m, idx s with
      | some (some b, es, ck), some n => match es.findIdx? (fun e => Nat.beq e.2.2 n) with
        | some i => match es[i]? with
          | some (k, _, n) => some (.skip, aw.turn b (.map (es.set i (k, v, n)) ck))
          | none => none
        | none => none
      | _, _ => none
    | _, _, _ => none
  | .delete t m k => fun fr aw => match m.ev fr, k.ev fr with
    | some m, some k => match aw.entries m, keyOk t k with
      | some (none, _, _), true => some (.val (.tuple []), aw)
      | some (some b, es, ck), true => match findE t k es 0 with
        | some (some (i, _, _)) => some (.val (.tuple []), aw.turn b (.map (es.eraseIdx i) ck))
        | some none => some (.val (.tuple []), aw.turn b (.map es ck))
        | none => none
      | _, _ => none
    | _, _ => none
  | .mkIface t x => fun fr aw => match x.ev fr with
    | some v => some (.val (.iface t v), aw)
    | none => none
  | .typeAssert t zero ok x => fun fr aw => match x.ev fr with
    | some (.iface t' v) => match Nat.beq t' t with
      | true => some (.val (match ok with | true => .tuple [v, .bool true] | false => v), aw)
      | false => match ok with
        | true => some (.val (.tuple [zero, .bool false]), aw)
        | false => none
    | some .niliface => match ok with
      | true => some (.val (.tuple [zero, .bool false]), aw)
      | false => none
    | _ => none
  | .mkFunc fn first cap => fun fr aw => match evs fr first, evs fr cap with
    | some f, some c => some (.val (.func fn f c), aw)
    | _, _ => none
  | .extract i x => fun fr aw => match x.ev fr with
    | some (.tuple l) => valOf (l[i]?) aw
    | _ => none
  | .lenStr x => fun fr aw => match x.ev fr with
    | some (.str l) => some (.val (.int .i64 (Int.ofNat l.length)), aw)
    | _ => none
  | .lenSl x => fun fr aw => match x.ev fr with
    | some v => match lenV v with
      | some n => some (.val (.int .i64 (Int.ofNat n)), aw)
      | none => none
    | none => none
  | .lenMap x => fun fr aw => match x.ev fr with
    | some m => match aw.entries m with
      | some (_, es, _) => some (.val (.int .i64 (Int.ofNat es.length)), aw)
      | none => none
    | none => none
  | .lenArr n => fun fr aw => some (.val (.int .i64 (Int.ofNat n)), aw)
  | .cap x => fun fr aw => match x.ev fr with
    | some (.slice _ _ _ (.known c)) => some (.val (.int .i64 (Int.ofNat c)), aw)
    | some .nilslice => some (.val (.int .i64 (Int.ofNat 0)), aw)
    | _ => none
  | .mn xs => fun fr aw => match evs fr xs with
    | some (v :: rest) => valOf (minL v rest) aw
    | _ => none
  | .mx xs => fun fr aw => match evs fr xs with
    | some (v :: rest) => valOf (maxL v rest) aw
    | _ => none
  | .append esz bytes s x => fun fr aw => match s.ev fr, x.ev fr with
    | some s, some x => match aw.elems esz x with
      | some (k, news) => match aw.appendV esz bytes s k news with
        | some (v, aw') => some (.val v, aw')
        | none => none
      | none => none
    | _, _ => none
  | .copy esz d s => fun fr aw => match d.ev fr, s.ev fr with
    | some (.slice b off len _), some s => match aw.elems esz s with
      | some (k, l) => match takeN (min k len * esz) l with
        | some cs => match cs with
          | [] => some (.val (.int .i64 (Int.ofNat (min k len))), aw)
          | cs => match aw.store b off cs with
            | some aw' => some (.val (.int .i64 (Int.ofNat (min k len))), aw')
            | none => none
        | none => none
      | none => none
    | some .nilslice, some s => match aw.elems esz s with
      | some (k, l) => some (.val (.int .i64 0), aw)
      | none => none
    | _, _ => none
  | .clear zero x => fun fr aw => match x.ev fr with
    | some .nilslice => some (.val (.tuple []), aw)
    | some (.slice b off len _) => match len with
      | 0 => some (.val (.tuple []), aw)
      | len => match aw.store b off ((List.replicate len zero).flatten) with
        | some aw' => some (.val (.tuple []), aw')
        | none => none
    | _ => none
  | .clearMap x => fun fr aw => match x.ev fr with
    | some m => match aw.entries m with
      | some (none, _, _) => some (.val (.tuple []), aw)
      | some (some b, _, ck) => some (.val (.tuple []), aw.turn b (.map [] ck))
      | none => none
    | none => none
  | .call f args => fun fr aw => match f.ev fr, evs fr args with
    | some (.func (.func f) first cap), some args => some (.call f (first ++ args ++ cap), aw)
    | _, _ => none
  | .inv tbl x args => fun fr aw => match x.ev fr, evs fr args with
    | some (.iface t v), some args => match lookT tbl t with
      | some (f, none) => some (.call f (v :: args), aw)
      | some (f, some (sz, agg)) => match v with
        | .ptr b off => match agg with
          | true => match aw.load b off sz with
            | some l => some (.call f (.agg l :: args), aw)
            | none => none
          | false => match aw.load b off 1 with
            | some [u] => some (.call f (u :: args), aw)
            | _ => none
        | _ => none
      | none => none
    | _, _ => none
  | .rangeMap x => fun fr aw => match x.ev fr with
    | some m => match aw.entries m with
      | some (b, _, ck) => some (.val (.ptr aw.next 0), aw.new (.mapIter b (match b with | some _ => ck | none => 0) [] (match b with | some _ => ck | none => 0)))
      | none => none
    | none => none
  | .nextMap x => fun fr aw => match x.ev fr with
    | some (.ptr r 0) => match aw.heap.get r with
      | some (.mapIter none _ _ _) => some (.val (.tuple [.bool false]), aw)
      | some (.mapIter (some b) since seen last) => match aw.heap.get b with
        | some (.map es ck) => match Nat.ble since last && allOld since es with
          | true => match unseen seen es with
            | [] => some (.val (.tuple [.bool false]), aw)
            | [(k, v, n)] => some (.val (.tuple [.bool true, k, v]), aw.turn r (.mapIter (some b) since (seen ++ [n]) ck))
            | _ => none
          | false => none
        | _ => none
      | _ => none
    | _ => none
  | .entry x => fun fr aw => match x.ev fr with
    | some (.ptr r 0) => match aw.heap.get r with
      | some (.mapIter (some b) _ seen last) => match aw.heap.get b, lastN seen with
        | some (.map es ck), some st => match Nat.beq ck last with
          | true => match findS st es with
            | some (k, v) => some (.val (.tuple [k, v]), aw)
            | none => none
          | false => none
        | _, _ => none
      | _ => none
    | _ => none

theorem aopK_eq (o : AOp) (fr : Fr) (aw : AW) : aopK o fr aw = aop o fr aw := by cases o <;> rfl

def xOneK (x : XTab) (rec : X) (o : AOper) (fr : Fr) (aw : AW) : Option (V × AW) :=
  match wanted fr o.guard with
  | some true => match aopK o.op fr aw with
    | some (.val v, aw1) => some (v, aw1)
    | some (.skip, aw1) => some (.undef, aw1)
    | some (.call f args, aw0) => match x.ext f args aw0 with
      | some r => some r
      | none => xCall x rec f args aw0
    | none => none
  | some false => some (.undef, aw)
  | none => none
theorem xOneK_eq (x : XTab) (rec : X) (o : AOper) (fr : Fr) (aw : AW) : xOneK x rec o fr aw = xOne x rec o fr aw := by
  unfold xOneK xOne; rw [aopK_eq] <;> rfl
def xOpsK (x : XTab) (rec : X) : List AOper → Fr → AW → Option (Fr × AW)
  | [], fr, aw => some (fr, aw)
  | o :: l, fr, aw => match xOneK x rec o fr aw with
    | some (v, aw1) => xOpsK x rec l (putO fr o.dst v) aw1
    | none => none
theorem xOpsK_eq (x : XTab) (rec : X) : ∀ (l : List AOper) (fr : Fr) (aw : AW), xOpsK x rec l fr aw = xOps x rec l fr aw
  | [], fr, aw => rfl
  | o :: l, fr, aw => by
    simp only [xOpsK, xOps, xOneK_eq]
    cases xOne x rec o fr aw with
    | none => rfl
    | some r => exact xOpsK_eq x rec l _ _
def xStepK (x : XTab) (rec : X) : X := fun c => match c with
  | .skip => fun fr aw => some (.normal, fr, aw)
  | .region l => fun fr aw => match xOpsK x rec l fr aw with
    | some (fr', aw') => some (.normal, fr', aw')
    | none => none
  | .drawn l => fun fr aw => xStep x rec (.drawn l) fr aw
  | .seq a b => fun fr aw => match rec a fr aw with
    | some (.normal, fr1, aw1) => rec b fr1 aw1
    | r => r
  | .cond c a b => fun fr aw => match c.ev fr with
    | some (.bool true) => rec a fr aw
    | some (.bool false) => rec b fr aw
    | _ => none
  | .block id b => fun fr aw => match rec b fr aw with
    | some (.exit id', fr1, aw1) => match Nat.beq id' id with
      | true => some (.normal, fr1, aw1)
      | false => some (.exit id', fr1, aw1)
    | r => r
  | .loop b => fun fr aw => match rec b fr aw with
    | some (.normal, fr1, aw1) => rec (.loop b) fr1 aw1
    | r => r
  | .exit id => fun fr aw => some (.exit id, fr, aw)
  | .scope b => fun fr aw => rec b fr aw
  | .ret => fun fr aw => some (.ret, fr, aw)
theorem xStepK_eq (x : XTab) (rec : X) (c : ACode) (fr : Fr) (aw : AW) : xStepK x rec c fr aw = xStep x rec c fr aw := by
  cases c <;> try rfl
  rename_i l
  simp only [xStepK, xStep, xOpsK_eq] <;> rfl
def xRunK (x : XTab) (n : Nat) : X := Nat.rec (fun _ _ _ => none) (fun _ ih => xStepK x ih) n
theorem xRunK_eq (x : XTab) : ∀ n, xRunK x n = xRun x n
  | 0 => rfl
  | n + 1 => by
    show xStepK x (xRunK x n) = xStep x (xRun x n)
    rw [xRunK_eq x n]
    funext c fr aw
    exact xStepK_eq _ _ _ _ _
theorem runK_true {x : XTab} {n f : Nat} {args : List V} {aw : AW} (h : isTrue (xCall x (xRunK x n) f args aw) = true) : isTrue (xCall x (xRun x n) f args aw) = true := by
  rw [← xRunK_eq]; exact h
end Go.AE

set_option linter.unusedVariables false
set_option linter.unusedSectionVars false
set_option linter.unusedSimpArgs false
open Go.RowKit
namespace Go.AE
variable [Globs]
theorem BR.same {aw : AW} {m : Map} {w w' : World} {b : Nat} {e : Emb} (h : w'.heap[e.c]? = w.heap[e.c]?) : ∀ {x : Blk}, BR aw m w b e x → BR aw m w' b e x := by
  intro x hx
  cases x with
  | cells l sh => intro ha; obtain ⟨cur, t, lo, hi, h1, h2⟩ := hx ha; exact ⟨cur, t, lo, hi, h.trans h1, h2⟩
  | map es ck => obtain ⟨es', h1, h2⟩ := hx; exact ⟨es', h.trans h1, h2⟩
  | mapIter x s q l => obtain ⟨h0, r, h1, h2⟩ := hx; exact ⟨h0, r, h.trans h1, h2⟩
theorem R.below {aw : AW} {w w' : World} {m : Map} {base : Nat} (hR : R aw w m base) (h : Below w.heap.size w w') : R aw w' m base ∧ Goes aw aw w w' m m := by
  have hb : ∀ b e, m b = some e → w'.heap[e.c]? = w.heap[e.c]? := fun b e he => h.block e.c (hR.lt b e he).2
  refine ⟨⟨hR.glob, hR.gblk, hR.famlt, Nat.le_trans hR.size h.size, fun b e he => ⟨(hR.lt b e he).1, Nat.lt_of_lt_of_le (hR.lt b e he).2 h.size⟩, hR.base, fun b e x he hx => (hR.blk b e x he hx).same (hb b e he), hR.apart, hR.fam⟩, ?_⟩
  exact ⟨.refl m, fun b e he => .inl he, Nat.le_refl _, h.size, h.os, h.tape, h.output, fun b l hl _ => hl, fun b l hl _ => ⟨l, hl⟩, fun c hc _ => h.block c hc, fun b _ hx => hx, fun _ _ _ => rfl⟩
end Go.AE

set_option linter.unusedVariables false
set_option linter.unusedSectionVars false
set_option linter.unusedSimpArgs false
open Go.RowKit Go.WideShapes Go.ChangeShapes
namespace Go.AE
variable [Globs]
theorem Goes.belowRo {aw aw' : AW} {w w' : World} {m m' : Map} (h : Goes aw aw' w w' m m') (hm : ∀ b e x, m b = some e → aw.heap.get b = some x → ∃ l, x = .cells l .ro) : Below w.heap.size w w' :=
  ⟨h.os, h.tape, h.output, h.size, fun k hk => h.frame k hk fun b e x hb hx hro => by obtain ⟨l, hl⟩ := hm b e x hb hx; exact absurd hl (hro l)⟩
section
variable {H : Type} {enc : TypeId × Value → H} {P : Program}
theorem below_trodAll (hl : laidOutB P = true) {W W' : World} (hb : Below W.heap.size W W') : ∀ {ts : List TypeId} {vs : List Value} {ds : List (DataW H)} {ps : List MemPlace}, (∀ t ∈ ts, P.readableRec t = true ∧ t < P.types.size) →
    DataW.TrodAll enc P W 0 (fun _ => true) true ts vs ds ps → (∀ x ∈ ps, x.block < W.heap.size) → DataW.TrodAll enc P W' 0 (fun b => decide (b < W.heap.size)) true ts vs ds ps
  | [], vs, ds, ps, _, h, _ => by
    obtain ⟨rfl, rfl, rfl⟩ := trodAll_nil h
    exact trodAll_mk0
  | t :: ts, vs, ds, ps, hr, h, hlt => by
    obtain ⟨v, vs', d, ds', p, q, rfl, rfl, rfl, hd, hrest⟩ := trodAll_cons h
    have h1 := hr t (by simp)
    exact trodAll_cons_mk (Below.trod hl h1.1 h1.2 hd hb (fun x hx => hlt x (by simp [hx]))) (below_trodAll hl hb (fun t ht => hr t (by simp [ht])) hrest (fun x hx => hlt x (by simp [hx])))
/-- a law's end: true; the arguments read as they did; nothing that was there has turned. -/
theorem law_post {f : Func} {s : ChangeSpec} {apart fresh handsOn : Bool} {W W' : World} {args : Array Value} {ds gs : List (DataW H)} {before : List MemPlace} {tb : TypeId}
    (hW : DataW.Whole enc P f.params.toList s.vars apart W args.toList ds gs before) (hl : laidOutB P = true) (hr : ∀ t ∈ f.params.toList, P.readableRec t = true ∧ t < P.types.size)
    (hb : Below W.heap.size W W') (hsv : s.vars = []) (hres : f.resultTypes = #[tb]) (htb : P.underlying tb = some .bool) (hfn : (s.fn H (ds ++ gs)).results = [.lit (.bool true)]) (hfa : (s.fn H (ds ++ gs)).args = ds) (hfv : (s.fn H (ds ++ gs)).vars = []) :
    s.post enc P f apart fresh handsOn false W args (.bool true) W' := by
  have hlt : ∀ x ∈ before, x.block < W.heap.size := fun x hx => hW.lt x hx
  obtain ⟨p, q, hA, hV, hbe, hfz, hnd⟩ := id hW
  rw [hsv] at hV
  obtain ⟨rfl, rfl⟩ := trodVars_none hV
  have hbe' : before = p := by simpa using hbe
  subst hbe'
  have hA' := below_trodAll hl hb hr hA hlt
  refine ⟨ds, [], before, [], before, [], hW, ?_, ?_, ?_, hb.frame _, fun h => by cases h⟩
  · rw [hfn, hres]
    exact trodAll_cons_mk (shut_bool htb _) trodAll_mk0
  · rw [hfa]; exact hA'
  · rw [hfv, hsv]; exact rfl
end
end Go.AE
