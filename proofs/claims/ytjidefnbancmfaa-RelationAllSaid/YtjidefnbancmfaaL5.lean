/- A part of the proof. -/
import Derived.Test.YtjidefnbancmfaaRows
import Derived.Test.YtjidefnbancmfaaAgC
set_option maxRecDepth 100000
namespace Go.Proofs.Ytjidefnbancmfaa
open Go.AE
/-! (*delphi/delphiref8.P).bad -/

def k61 : AFun := ⟨13, [], (.seq (.region [⟨some 4, none, .mov (.tmp 0)⟩,
  ⟨some 5, none, .nilCheck (.tmp 4)⟩,
  ⟨some 6, none, .fieldAddr 2 (.tmp 5)⟩,
  ⟨some 7, none, .load 1 false (.tmp 6)⟩,
  ⟨some 8, none, .bin .eql (.tmp 7) (.const (.int .i64 0))⟩])
 (.cond (.tmp 8) (.region [⟨some 9, none, .mov (.tmp 0)⟩,
  ⟨some 10, none, .mov (.tmp 1)⟩,
  ⟨some 11, none, .nilCheck (.tmp 9)⟩,
  ⟨some 12, none, .fieldAddr 2 (.tmp 11)⟩,
  ⟨none, none, .store 1 (.tmp 12) (.tmp 10)⟩]) .skip))⟩
theorem c61 : (XTab.of Try.prog).code 61 = some k61 := by kernel_rfl

/-! (*delphi/delphiref8.P).eat -/

def k62 : AFun := ⟨22, [], (.seq (.seq (.region [⟨some 4, none, .mov (.tmp 0)⟩,
  ⟨some 5, none, .nilCheck (.tmp 4)⟩,
  ⟨some 6, none, .fieldAddr 2 (.tmp 5)⟩,
  ⟨some 7, none, .load 1 false (.tmp 6)⟩,
  ⟨some 8, none, .bin .neq (.tmp 7) (.const (.int .i64 0))⟩])
 (.cond (.tmp 8) .ret .skip))
 (.seq (.seq (.region [⟨some 9, none, .mov (.tmp 0)⟩,
  ⟨some 10, none, .mov (.tmp 1)⟩,
  ⟨some 11, none, .call (.const (.func (.func 59) [] [])) [(.tmp 9), (.tmp 10)]⟩,
  ⟨some 12, none, .un .not (.tmp 11)⟩])
 (.cond (.tmp 12) (.seq (.region [⟨some 13, none, .mov (.tmp 0)⟩,
  ⟨some 14, none, .call (.const (.func (.func 61) [] [])) [(.tmp 13), (.const (.int .i64 4))]⟩])
 .ret) .skip))
 (.region [⟨some 15, none, .mov (.tmp 0)⟩,
  ⟨some 16, none, .nilCheck (.tmp 15)⟩,
  ⟨some 17, none, .fieldAddr 1 (.tmp 16)⟩,
  ⟨some 18, none, .load 1 false (.tmp 17)⟩,
  ⟨some 19, none, .bin .add (.tmp 18) (.const (.int .i64 1))⟩,
  ⟨some 20, none, .nilCheck (.tmp 15)⟩,
  ⟨some 21, none, .fieldAddr 1 (.tmp 20)⟩,
  ⟨none, none, .store 1 (.tmp 21) (.tmp 19)⟩])))⟩
theorem c62 : (XTab.of Try.prog).code 62 = some k62 := by kernel_rfl

/-! delphi/lex.blank -/
def k63_0 : ACode := (.seq (.region [⟨some 23, none, .mov (.tmp 0)⟩,
  ⟨some 24, none, .mov (.tmp 3)⟩,
  ⟨some 25, none, .sliceStr (.tmp 23) (some (.tmp 24)) none⟩,
  ⟨some 26, none, .call (.const (.func (.func 79) [] [])) [(.tmp 25), (.const (.int .u8 10))]⟩,
  ⟨some 4, none, .mov (.tmp 26)⟩])
 (.seq (.region [⟨some 27, none, .mov (.tmp 4)⟩,
  ⟨some 28, none, .bin .geq (.tmp 27) (.const (.int .i64 0))⟩])
 (.cond (.tmp 28) (.region [⟨some 29, none, .mov (.tmp 3)⟩,
  ⟨some 30, none, .mov (.tmp 4)⟩,
  ⟨some 31, none, .bin .add (.tmp 29) (.tmp 30)⟩,
  ⟨some 3, none, .mov (.tmp 31)⟩]) (.region [⟨some 32, none, .mov (.tmp 0)⟩,
  ⟨some 33, none, .lenStr (.tmp 32)⟩,
  ⟨some 3, none, .mov (.tmp 33)⟩]))))
def k63_1 : ACode := (.seq (.region [⟨some 19, none, .mov (.tmp 0)⟩,
  ⟨some 20, none, .mov (.tmp 3)⟩,
  ⟨some 21, none, .indexStr (.tmp 19) (.tmp 20)⟩,
  ⟨some 22, none, .bin .eql (.tmp 21) (.const (.int .u8 37))⟩,
  ⟨some 18, none, .mov (.tmp 22)⟩])
 (.cond (.tmp 18) k63_0 (.seq (.region [⟨some 9, none, .mov (.tmp 3)⟩,
  ⟨some 2, none, .mov (.tmp 9)⟩])
 .ret)))
def k63_2 : ACode := (.seq (.region [⟨some 11, none, .mov (.tmp 0)⟩,
  ⟨some 12, none, .mov (.tmp 3)⟩,
  ⟨some 13, none, .indexStr (.tmp 11) (.tmp 12)⟩,
  ⟨some 14, none, .call (.const (.func (.func 79) [] [])) [(.const (.str [32, 9, 10, 13])), (.tmp 13)]⟩,
  ⟨some 15, none, .bin .geq (.tmp 14) (.const (.int .i64 0))⟩,
  ⟨some 10, none, .mov (.tmp 15)⟩])
 (.cond (.tmp 10) (.region [⟨some 16, none, .mov (.tmp 3)⟩,
  ⟨some 17, none, .bin .add (.tmp 16) (.const (.int .i64 1))⟩,
  ⟨some 3, none, .mov (.tmp 17)⟩]) k63_1))
def k63_3 : ACode := (.seq (.seq (.region [⟨some 5, none, .mov (.tmp 3)⟩,
  ⟨some 6, none, .mov (.tmp 0)⟩,
  ⟨some 7, none, .lenStr (.tmp 6)⟩,
  ⟨some 8, none, .bin .lss (.tmp 5) (.tmp 7)⟩])
 (.cond (.tmp 8) .skip (.exit 0)))
 (.block 1 (.block 2 k63_2)))
def k63 : AFun := ⟨35, [.tmp 2], (.seq (.region [⟨some 2, none, .mov (.const (.int .i64 0))⟩])
 (.seq (.region [⟨some 3, none, .mov (.const (.int .i64 0))⟩])
 (.seq (.block 0 (.loop k63_3))
 (.seq (.region [⟨some 34, none, .mov (.tmp 3)⟩,
  ⟨some 2, none, .mov (.tmp 34)⟩])
 .ret))))⟩
theorem c63 : (XTab.of Try.prog).code 63 = some k63 := by kernel_rfl

/-! delphi/lex.word -/
def k64_0 : ACode := (.seq (.region [⟨some 20, none, .mov (.tmp 4)⟩,
  ⟨some 21, none, .call (.const (.func (.func 85) [] [])) [(.tmp 20)]⟩,
  ⟨some 22, none, .mov (.tmp 21)⟩,
  ⟨some 23, (some (22, false)), .mov (.tmp 4)⟩,
  ⟨some 24, (some (22, false)), .bin .eql (.tmp 23) (.const (.int .u8 45))⟩,
  ⟨some 25, none, .pick (.tmp 22) (.const (.bool true)) (.tmp 24)⟩,
  ⟨some 19, none, .mov (.tmp 25)⟩])
 (.cond (.tmp 19) (.seq (.region [⟨some 26, none, .mov (.tmp 0)⟩,
  ⟨some 27, none, .call (.const (.func (.func 86) [] [])) [(.tmp 26)]⟩,
  ⟨some 2, none, .mov (.const (.int .i64 3))⟩,
  ⟨some 3, none, .mov (.tmp 27)⟩])
 .ret) .skip))
def k64_1 : ACode := (.seq (.region [⟨some 15, none, .mov (.tmp 4)⟩,
  ⟨some 16, none, .call (.const (.func (.func 83) [] [])) [(.tmp 15)]⟩,
  ⟨some 14, none, .mov (.tmp 16)⟩])
 (.cond (.tmp 14) (.seq (.region [⟨some 17, none, .mov (.tmp 0)⟩,
  ⟨some 18, none, .call (.const (.func (.func 81) [] [])) [(.tmp 17), (.const (.func (.func 84) [] []))]⟩,
  ⟨some 2, none, .mov (.const (.int .i64 2))⟩,
  ⟨some 3, none, .mov (.tmp 18)⟩])
 .ret) k64_0))
def k64_2 : ACode := (.seq (.region [⟨some 10, none, .mov (.tmp 4)⟩,
  ⟨some 11, none, .call (.const (.func (.func 80) [] [])) [(.tmp 10)]⟩,
  ⟨some 9, none, .mov (.tmp 11)⟩])
 (.cond (.tmp 9) (.seq (.region [⟨some 12, none, .mov (.tmp 0)⟩,
  ⟨some 13, none, .call (.const (.func (.func 81) [] [])) [(.tmp 12), (.const (.func (.func 82) [] []))]⟩,
  ⟨some 2, none, .mov (.const (.int .i64 1))⟩,
  ⟨some 3, none, .mov (.tmp 13)⟩])
 .ret) k64_1))
def k64_3 : ACode := (.seq (.region [⟨some 32, none, .indexAddr 1 (.tmp 28) (.tmp 30)⟩,
  ⟨some 33, none, .load 1 false (.tmp 32)⟩,
  ⟨some 6, none, .mov (.tmp 33)⟩])
 (.seq (.region [⟨some 34, none, .mov (.tmp 0)⟩,
  ⟨some 35, none, .mov (.tmp 6)⟩,
  ⟨some 36, none, .call (.const (.func (.func 87) [] [])) [(.tmp 34), (.tmp 35)]⟩])
 (.cond (.tmp 36) (.seq (.region [⟨some 37, none, .mov (.tmp 6)⟩,
  ⟨some 38, none, .lenStr (.tmp 37)⟩,
  ⟨some 2, none, .mov (.const (.int .i64 4))⟩,
  ⟨some 3, none, .mov (.tmp 38)⟩])
 .ret) .skip)))
def k64_4 : ACode := (.seq (.region [⟨some 31, none, .bin .lss (.tmp 30) (.tmp 29)⟩])
 (.seq (.cond (.tmp 31) .skip (.exit 1))
 (.seq (.block 2 k64_3)
 (.region [⟨some 39, none, .bin .add (.tmp 30) (.const (.int .i64 1))⟩,
  ⟨some 30, none, .mov (.tmp 39)⟩]))))
def k64 : AFun := ⟨40, [.tmp 2, .tmp 3], (.seq (.region [⟨some 2, none, .mov (.const (.int .i64 0))⟩,
  ⟨some 3, none, .mov (.const (.int .i64 0))⟩])
 (.seq (.region [⟨some 7, none, .mov (.tmp 0)⟩,
  ⟨some 8, none, .indexStr (.tmp 7) (.const (.int .i64 0))⟩,
  ⟨some 4, none, .mov (.tmp 8)⟩])
 (.seq (.block 0 k64_2)
 (.seq (.seq (.region [⟨some 28, none, .buildSlice 10 [(.str []), (.str []), (.str []), (.str []), (.str []), (.str []), (.str []), (.str []), (.str []), (.str [])] [(0, 1, (.const (.str [58, 45]))), (1, 1, (.const (.str [33, 61]))), (2, 1, (.const (.str [60, 61]))), (3, 1, (.const (.str [40]))), (4, 1, (.const (.str [41]))), (5, 1, (.const (.str [44]))), (6, 1, (.const (.str [46]))), (7, 1, (.const (.str [33]))), (8, 1, (.const (.str [61]))), (9, 1, (.const (.str [60])))]⟩,
  ⟨some 29, none, .lenSl (.tmp 28)⟩,
  ⟨some 30, none, .mov (.const (.int .i64 0))⟩])
 (.block 1 (.loop k64_4)))
 (.seq (.region [⟨some 2, none, .mov (.const (.int .i64 0))⟩,
  ⟨some 3, none, .mov (.const (.int .i64 0))⟩])
 .ret)))))⟩
theorem c64 : (XTab.of Try.prog).code 64 = some k64 := by kernel_rfl

/-! delphi/delphiref8.small -/

def k65 : AFun := ⟨9, [.tmp 2], (.seq (.region [⟨some 2, none, .mov (.const (.bool false))⟩])
 (.seq (.region [⟨some 3, none, .mov (.tmp 0)⟩,
  ⟨some 4, none, .bin .geq (.tmp 3) (.const (.int .u8 97))⟩,
  ⟨some 5, none, .mov (.tmp 4)⟩,
  ⟨some 6, (some (5, true)), .mov (.tmp 0)⟩,
  ⟨some 7, (some (5, true)), .bin .leq (.tmp 6) (.const (.int .u8 122))⟩,
  ⟨some 8, none, .pick (.tmp 5) (.tmp 7) (.const (.bool false))⟩,
  ⟨some 2, none, .mov (.tmp 8)⟩])
 .ret))⟩
theorem c65 : (XTab.of Try.prog).code 65 = some k65 := by kernel_rfl

/-! delphi/delphiref8.digit -/

def k66 : AFun := ⟨9, [.tmp 2], (.seq (.region [⟨some 2, none, .mov (.const (.bool false))⟩])
 (.seq (.region [⟨some 3, none, .mov (.tmp 0)⟩,
  ⟨some 4, none, .bin .geq (.tmp 3) (.const (.int .u8 48))⟩,
  ⟨some 5, none, .mov (.tmp 4)⟩,
  ⟨some 6, (some (5, true)), .mov (.tmp 0)⟩,
  ⟨some 7, (some (5, true)), .bin .leq (.tmp 6) (.const (.int .u8 57))⟩,
  ⟨some 8, none, .pick (.tmp 5) (.tmp 7) (.const (.bool false))⟩,
  ⟨some 2, none, .mov (.tmp 8)⟩])
 .ret))⟩
theorem c66 : (XTab.of Try.prog).code 66 = some k66 := by kernel_rfl

/-! delphi/delphiref8.great -/

def k67 : AFun := ⟨9, [.tmp 2], (.seq (.region [⟨some 2, none, .mov (.const (.bool false))⟩])
 (.seq (.region [⟨some 3, none, .mov (.tmp 0)⟩,
  ⟨some 4, none, .bin .geq (.tmp 3) (.const (.int .u8 65))⟩,
  ⟨some 5, none, .mov (.tmp 4)⟩,
  ⟨some 6, (some (5, true)), .mov (.tmp 0)⟩,
  ⟨some 7, (some (5, true)), .bin .leq (.tmp 6) (.const (.int .u8 90))⟩,
  ⟨some 8, none, .pick (.tmp 5) (.tmp 7) (.const (.bool false))⟩,
  ⟨some 2, none, .mov (.tmp 8)⟩])
 .ret))⟩
theorem c67 : (XTab.of Try.prog).code 67 = some k67 := by kernel_rfl

/-! (*delphi/plan.work).count -/
def k68_0 : ACode := (.seq (.region [⟨some 13, none, .indexAddr 3 (.tmp 9) (.tmp 11)⟩,
  ⟨some 14, none, .load 3 true (.tmp 13)⟩,
  ⟨some 7, none, .alloc [(.int .i64 0), (.str []), (.int .i64 0)]⟩,
  ⟨none, none, .store 3 (.tmp 7) (.tmp 14)⟩])
 (.seq (.drawn [⟨⟨some 15, none, .fieldAddr 0 (.tmp 7)⟩, false, [], []⟩,
  ⟨⟨some 16, none, .load 1 false (.tmp 15)⟩, false, [0], []⟩,
  ⟨⟨some 17, none, .bin .neq (.tmp 16) (.const (.int .i64 1))⟩, false, [0, 1], []⟩,
  ⟨⟨some 18, none, .mov (.tmp 17)⟩, false, [1, 0, 2], []⟩,
  ⟨⟨some 19, (some (18, false)), .mov (.tmp 0)⟩, false, [2, 0, 1, 3], [23, 24]⟩,
  ⟨⟨some 20, (some (18, false)), .nilCheck (.tmp 19)⟩, false, [4, 2, 0, 1, 3], [23, 24]⟩,
  ⟨⟨some 21, (some (18, false)), .fieldAddr 1 (.tmp 20)⟩, false, [4, 5, 2, 0, 1, 3], [23, 24]⟩,
  ⟨⟨some 22, (some (18, false)), .load 1 false (.tmp 21)⟩, false, [5, 4, 6, 2, 0, 1, 3], [23, 24]⟩,
  ⟨⟨some 23, (some (18, false)), .fieldAddr 1 (.tmp 7)⟩, false, [2, 0, 1, 3], [19, 20, 21, 22]⟩,
  ⟨⟨some 24, (some (18, false)), .load 1 false (.tmp 23)⟩, false, [8, 2, 0, 1, 3], [19, 20, 21, 22]⟩,
  ⟨⟨some 25, (some (18, false)), .lookup (.scalar .str) (.int .i64 0) false (.tmp 22) (.tmp 24)⟩, false, [6, 4, 5, 7, 8, 9, 2, 0, 1, 3], []⟩,
  ⟨⟨some 26, (some (18, false)), .bin .gtr (.tmp 25) (.const (.int .i64 0))⟩, false, [9, 8, 7, 5, 4, 6, 10, 2, 0, 1, 3], []⟩,
  ⟨⟨some 27, none, .pick (.tmp 18) (.const (.bool true)) (.tmp 26)⟩, false, [3, 1, 0, 2, 10, 6, 4, 5, 7, 8, 9, 11], []⟩])
 (.cond (.tmp 27) (.region [⟨some 28, none, .mov (.tmp 5)⟩,
  ⟨some 29, none, .bin .add (.tmp 28) (.const (.int .i64 1))⟩,
  ⟨some 5, none, .mov (.tmp 29)⟩]) .skip)))
def k68_1 : ACode := (.seq (.region [⟨some 12, none, .bin .lss (.tmp 11) (.tmp 10)⟩])
 (.seq (.cond (.tmp 12) .skip (.exit 0))
 (.seq (.block 1 k68_0)
 (.region [⟨some 30, none, .bin .add (.tmp 11) (.const (.int .i64 1))⟩,
  ⟨some 11, none, .mov (.tmp 30)⟩]))))
def k68 : AFun := ⟨32, [.tmp 4], (.seq (.region [⟨some 3, none, .box (.tmp 1)⟩,
  ⟨some 4, none, .mov (.const (.int .i64 0))⟩])
 (.seq (.region [⟨some 5, none, .mov (.const (.int .i64 0))⟩])
 (.seq (.seq (.region [⟨some 8, none, .fieldAddr 2 (.tmp 3)⟩,
  ⟨some 9, none, .load 1 false (.tmp 8)⟩,
  ⟨some 10, none, .lenSl (.tmp 9)⟩,
  ⟨some 11, none, .mov (.const (.int .i64 0))⟩])
 (.block 0 (.loop k68_1)))
 (.seq (.region [⟨some 31, none, .mov (.tmp 5)⟩,
  ⟨some 4, none, .mov (.tmp 31)⟩])
 .ret))))⟩
theorem c68 : (XTab.of Try.prog).code 68 = some k68 := by kernel_rfl

/-! container/heap.Push -/

def k69 : AFun := ⟨12, [], (.seq (.region [⟨some 4, none, .mov (.tmp 0)⟩,
  ⟨some 5, none, .mov (.tmp 1)⟩,
  ⟨some 6, none, .stuck⟩])
 (.region [⟨some 7, none, .mov (.tmp 0)⟩,
  ⟨some 8, none, .mov (.tmp 0)⟩,
  ⟨some 9, none, .stuck⟩,
  ⟨some 10, none, .bin .sub (.tmp 9) (.const (.int .i64 1))⟩,
  ⟨some 11, none, .call (.const (.func (.func 88) [] [])) [(.tmp 7), (.tmp 10)]⟩]))⟩
theorem c69 : (XTab.of Try.prog).code 69 = some k69 := by kernel_rfl

/-! container/heap.Pop -/

def k70 : AFun := ⟨15, [.tmp 2], (.seq (.region [⟨some 2, none, .mov (.const .niliface)⟩])
 (.seq (.region [⟨some 4, none, .mov (.tmp 0)⟩,
  ⟨some 5, none, .stuck⟩,
  ⟨some 6, none, .bin .sub (.tmp 5) (.const (.int .i64 1))⟩,
  ⟨some 3, none, .mov (.tmp 6)⟩])
 (.seq (.region [⟨some 7, none, .mov (.tmp 0)⟩,
  ⟨some 8, none, .mov (.tmp 3)⟩,
  ⟨some 9, none, .stuck⟩])
 (.seq (.region [⟨some 10, none, .mov (.tmp 0)⟩,
  ⟨some 11, none, .mov (.tmp 3)⟩,
  ⟨some 12, none, .call (.const (.func (.func 89) [] [])) [(.tmp 10), (.const (.int .i64 0)), (.tmp 11)]⟩])
 (.seq (.region [⟨some 13, none, .mov (.tmp 0)⟩,
  ⟨some 14, none, .stuck⟩,
  ⟨some 2, none, .mov (.tmp 14)⟩])
 .ret)))))⟩
theorem c70 : (XTab.of Try.prog).code 70 = some k70 := by kernel_rfl

/-! delphi/delphiref8.place -/
def k71_0 : ACode := (.seq (.region [⟨some 12, none, .mov (.tmp 0)⟩,
  ⟨some 13, none, .mov (.tmp 5)⟩,
  ⟨some 14, none, .indexAddr 1 (.tmp 12) (.tmp 13)⟩,
  ⟨some 15, none, .load 1 false (.tmp 14)⟩,
  ⟨some 16, none, .mov (.tmp 1)⟩,
  ⟨some 17, none, .bin .eql (.tmp 15) (.tmp 16)⟩])
 (.cond (.tmp 17) (.seq (.region [⟨some 18, none, .mov (.tmp 5)⟩,
  ⟨some 4, none, .mov (.tmp 18)⟩])
 .ret) .skip))
def k71_1 : ACode := (.seq (.seq (.region [⟨some 6, none, .mov (.tmp 5)⟩,
  ⟨some 7, none, .mov (.tmp 0)⟩,
  ⟨some 8, none, .lenSl (.tmp 7)⟩,
  ⟨some 9, none, .bin .lss (.tmp 6) (.tmp 8)⟩])
 (.cond (.tmp 9) .skip (.exit 0)))
 (.seq (.block 1 k71_0)
 (.region [⟨some 10, none, .mov (.tmp 5)⟩,
  ⟨some 11, none, .bin .add (.tmp 10) (.const (.int .i64 1))⟩,
  ⟨some 5, none, .mov (.tmp 11)⟩])))
def k71 : AFun := ⟨19, [.tmp 4], (.seq (.region [⟨some 4, none, .mov (.const (.int .i64 0))⟩])
 (.seq (.seq (.region [⟨some 5, none, .mov (.const (.int .i64 0))⟩])
 (.block 0 (.loop k71_1)))
 (.seq (.region [⟨some 4, none, .mov (.const (.int .i64 (-1)))⟩])
 .ret)))⟩
theorem c71 : (XTab.of Try.prog).code 71 = some k71 := by kernel_rfl

/-! slices.BinarySearchFunc[[]delphi/relation.Row,delphi/relation.Row,delphi/relation.Row] -/
def k72_0 : ACode := (.seq (.region [⟨some 18, none, .mov (.tmp 9)⟩,
  ⟨some 19, none, .mov (.tmp 10)⟩,
  ⟨some 20, none, .bin .add (.tmp 18) (.tmp 19)⟩,
  ⟨some 21, none, .conv .u64 (.tmp 20)⟩,
  ⟨some 22, none, .bin .shr (.tmp 21) (.const (.int .u64 1))⟩,
  ⟨some 23, none, .conv .i64 (.tmp 22)⟩,
  ⟨some 11, none, .mov (.tmp 23)⟩])
 (.seq (.region [⟨some 24, none, .mov (.tmp 2)⟩,
  ⟨some 25, none, .mov (.tmp 0)⟩,
  ⟨some 26, none, .mov (.tmp 11)⟩,
  ⟨some 27, none, .indexAddr 1 (.tmp 25) (.tmp 26)⟩,
  ⟨some 28, none, .load 1 false (.tmp 27)⟩,
  ⟨some 29, none, .mov (.tmp 1)⟩,
  ⟨some 30, none, .call (.tmp 24) [(.tmp 28), (.tmp 29)]⟩,
  ⟨some 31, none, .bin .lss (.tmp 30) (.const (.int .i64 0))⟩])
 (.cond (.tmp 31) (.region [⟨some 32, none, .mov (.tmp 11)⟩,
  ⟨some 33, none, .bin .add (.tmp 32) (.const (.int .i64 1))⟩,
  ⟨some 9, none, .mov (.tmp 33)⟩]) (.region [⟨some 34, none, .mov (.tmp 11)⟩,
  ⟨some 10, none, .mov (.tmp 34)⟩]))))
def k72_1 : ACode := (.seq (.seq (.region [⟨some 15, none, .mov (.tmp 9)⟩,
  ⟨some 16, none, .mov (.tmp 10)⟩,
  ⟨some 17, none, .bin .lss (.tmp 15) (.tmp 16)⟩])
 (.cond (.tmp 17) .skip (.exit 0)))
 (.block 1 k72_0))
def k72 : AFun := ⟨49, [.tmp 6, .tmp 7], (.seq (.region [⟨some 6, none, .mov (.const (.int .i64 0))⟩,
  ⟨some 7, none, .mov (.const (.bool false))⟩])
 (.seq (.region [⟨some 12, none, .mov (.tmp 0)⟩,
  ⟨some 13, none, .lenSl (.tmp 12)⟩,
  ⟨some 8, none, .mov (.tmp 13)⟩])
 (.seq (.region [⟨some 14, none, .mov (.tmp 8)⟩,
  ⟨some 9, none, .mov (.const (.int .i64 0))⟩,
  ⟨some 10, none, .mov (.tmp 14)⟩])
 (.seq (.block 0 (.loop k72_1))
 (.seq (.region [⟨some 35, none, .mov (.tmp 9)⟩,
  ⟨some 36, none, .mov (.tmp 9)⟩,
  ⟨some 37, none, .mov (.tmp 8)⟩,
  ⟨some 38, none, .bin .lss (.tmp 36) (.tmp 37)⟩,
  ⟨some 39, none, .mov (.tmp 38)⟩,
  ⟨some 40, (some (39, true)), .mov (.tmp 2)⟩,
  ⟨some 41, (some (39, true)), .mov (.tmp 0)⟩,
  ⟨some 42, (some (39, true)), .mov (.tmp 9)⟩,
  ⟨some 43, (some (39, true)), .indexAddr 1 (.tmp 41) (.tmp 42)⟩,
  ⟨some 44, (some (39, true)), .load 1 false (.tmp 43)⟩,
  ⟨some 45, (some (39, true)), .mov (.tmp 1)⟩,
  ⟨some 46, (some (39, true)), .call (.tmp 40) [(.tmp 44), (.tmp 45)]⟩,
  ⟨some 47, (some (39, true)), .bin .eql (.tmp 46) (.const (.int .i64 0))⟩,
  ⟨some 48, none, .pick (.tmp 39) (.tmp 47) (.const (.bool false))⟩,
  ⟨some 6, none, .mov (.tmp 35)⟩,
  ⟨some 7, none, .mov (.tmp 48)⟩])
 .ret)))))⟩
theorem c72 : (XTab.of Try.prog).code 72 = some k72 := by kernel_rfl

/-! (*delphi/relation.Set).find$1 -/

def k73 : AFun := ⟨8, [.tmp 4], (.seq (.region [⟨some 4, none, .mov (.const (.int .i64 0))⟩])
 (.seq (.region [⟨some 5, none, .mov (.tmp 0)⟩,
  ⟨some 6, none, .mov (.tmp 1)⟩,
  ⟨some 7, none, .call (.const (.func (.func 74) [] [])) [(.tmp 5), (.tmp 6)]⟩,
  ⟨some 4, none, .mov (.tmp 7)⟩])
 .ret))⟩
theorem c73 : (XTab.of Try.prog).code 73 = some k73 := by kernel_rfl

/-! slices.Compare[delphi/relation.Row,int] -/
def k74_0 : ACode := (.seq (.region [⟨some 13, none, .mov (.tmp 11)⟩,
  ⟨some 14, none, .indexAddr 1 (.tmp 9) (.tmp 11)⟩,
  ⟨some 15, none, .load 1 false (.tmp 14)⟩,
  ⟨some 5, none, .mov (.tmp 13)⟩,
  ⟨some 6, none, .mov (.tmp 15)⟩])
 (.seq (.seq (.region [⟨some 16, none, .mov (.tmp 5)⟩,
  ⟨some 17, none, .mov (.tmp 1)⟩,
  ⟨some 18, none, .lenSl (.tmp 17)⟩,
  ⟨some 19, none, .bin .geq (.tmp 16) (.tmp 18)⟩])
 (.cond (.tmp 19) (.seq (.region [⟨some 4, none, .mov (.const (.int .i64 1))⟩])
 .ret) .skip))
 (.seq (.region [⟨some 20, none, .mov (.tmp 1)⟩,
  ⟨some 21, none, .mov (.tmp 5)⟩,
  ⟨some 22, none, .indexAddr 1 (.tmp 20) (.tmp 21)⟩,
  ⟨some 23, none, .load 1 false (.tmp 22)⟩,
  ⟨some 7, none, .mov (.tmp 23)⟩])
 (.seq (.region [⟨some 24, none, .mov (.tmp 6)⟩,
  ⟨some 25, none, .mov (.tmp 7)⟩,
  ⟨some 26, none, .call (.const (.func (.func 90) [] [])) [(.tmp 24), (.tmp 25)]⟩,
  ⟨some 8, none, .mov (.tmp 26)⟩])
 (.seq (.region [⟨some 27, none, .mov (.tmp 8)⟩,
  ⟨some 28, none, .bin .neq (.tmp 27) (.const (.int .i64 0))⟩])
 (.cond (.tmp 28) (.seq (.region [⟨some 29, none, .mov (.tmp 8)⟩,
  ⟨some 4, none, .mov (.tmp 29)⟩])
 .ret) .skip))))))
def k74_1 : ACode := (.seq (.region [⟨some 12, none, .bin .lss (.tmp 11) (.tmp 10)⟩])
 (.seq (.cond (.tmp 12) .skip (.exit 0))
 (.seq (.block 1 k74_0)
 (.region [⟨some 30, none, .bin .add (.tmp 11) (.const (.int .i64 1))⟩,
  ⟨some 11, none, .mov (.tmp 30)⟩]))))
def k74 : AFun := ⟨36, [.tmp 4], (.seq (.region [⟨some 4, none, .mov (.const (.int .i64 0))⟩])
 (.seq (.seq (.region [⟨some 9, none, .mov (.tmp 0)⟩,
  ⟨some 10, none, .lenSl (.tmp 9)⟩,
  ⟨some 11, none, .mov (.const (.int .i64 0))⟩])
 (.block 0 (.loop k74_1)))
 (.seq (.seq (.region [⟨some 31, none, .mov (.tmp 0)⟩,
  ⟨some 32, none, .lenSl (.tmp 31)⟩,
  ⟨some 33, none, .mov (.tmp 1)⟩,
  ⟨some 34, none, .lenSl (.tmp 33)⟩,
  ⟨some 35, none, .bin .lss (.tmp 32) (.tmp 34)⟩])
 (.cond (.tmp 35) (.seq (.region [⟨some 4, none, .mov (.const (.int .i64 (-1)))⟩])
 .ret) .skip))
 (.seq (.region [⟨some 4, none, .mov (.const (.int .i64 0))⟩])
 .ret))))⟩
theorem c74 : (XTab.of Try.prog).code 74 = some k74 := by kernel_rfl

/-! slices.rotateRight[delphi/relation.Row] -/

def k76 : AFun := ⟨10, [], (.region [⟨some 4, none, .mov (.tmp 0)⟩,
  ⟨some 5, none, .mov (.tmp 0)⟩,
  ⟨some 6, none, .lenSl (.tmp 5)⟩,
  ⟨some 7, none, .mov (.tmp 1)⟩,
  ⟨some 8, none, .bin .sub (.tmp 6) (.tmp 7)⟩,
  ⟨some 9, none, .call (.const (.func (.func 91) [] [])) [(.tmp 4), (.tmp 8)]⟩])⟩
theorem c76 : (XTab.of Try.prog).code 76 = some k76 := by kernel_rfl

/-! (*delphi/delphiref8.P).term -/
def k77_0 : ACode := (.seq (.region [⟨some 37, none, .mov (.tmp 0)⟩,
  ⟨some 38, none, .call (.const (.func (.func 61) [] [])) [(.tmp 37), (.const (.int .i64 4))]⟩])
 (.seq (.region [⟨some 39, none, .build [(.int .i64 0), (.str []), (.int .i64 0)] []⟩,
  ⟨none, none, .store 3 (.tmp 2) (.tmp 39)⟩])
 .ret))
def k77_1 : ACode := (.seq (.region [⟨some 66, none, .fieldAddr 1 (.tmp 3)⟩,
  ⟨some 67, none, .load 1 false (.tmp 66)⟩,
  ⟨some 68, none, .build [(.int .i64 0), (.str []), (.int .i64 0)] [(0, 1, (.const (.int .i64 1))), (1, 1, (.tmp 67))]⟩,
  ⟨none, none, .store 3 (.tmp 2) (.tmp 68)⟩])
 .ret)
def k77_2 : ACode := (.seq (.region [⟨some 61, none, .fieldAddr 1 (.tmp 3)⟩,
  ⟨some 62, none, .load 1 false (.tmp 61)⟩,
  ⟨some 63, none, .build [(.int .i64 0), (.str []), (.int .i64 0)] [(0, 1, (.const (.int .i64 2))), (1, 1, (.tmp 62))]⟩,
  ⟨none, none, .store 3 (.tmp 2) (.tmp 63)⟩])
 .ret)
def k77_3 : ACode := (.seq (.region [⟨some 60, none, .bin .eql (.tmp 58) (.const (.int .i64 1))⟩,
  ⟨some 59, none, .mov (.tmp 60)⟩])
 (.cond (.tmp 59) k77_2 (.seq (.region [⟨some 65, none, .bin .eql (.tmp 58) (.const (.int .i64 2))⟩,
  ⟨some 64, none, .mov (.tmp 65)⟩])
 (.cond (.tmp 64) k77_1 .skip))))
def k77_4 : ACode := (.region [⟨some 81, none, .mov (.tmp 4)⟩,
  ⟨some 82, none, .bin .mul (.tmp 81) (.const (.int .i64 10))⟩,
  ⟨some 83, none, .fieldAddr 1 (.tmp 3)⟩,
  ⟨some 84, none, .load 1 false (.tmp 83)⟩,
  ⟨some 85, none, .mov (.tmp 5)⟩,
  ⟨some 86, none, .indexStr (.tmp 84) (.tmp 85)⟩,
  ⟨some 87, none, .bin .sub (.tmp 86) (.const (.int .u8 48))⟩,
  ⟨some 88, none, .conv .i64 (.tmp 87)⟩,
  ⟨some 89, none, .bin .add (.tmp 82) (.tmp 88)⟩,
  ⟨some 4, none, .mov (.tmp 89)⟩])
def k77_5 : ACode := (.seq (.region [⟨some 76, none, .fieldAddr 1 (.tmp 3)⟩,
  ⟨some 77, none, .load 1 false (.tmp 76)⟩,
  ⟨some 78, none, .mov (.tmp 5)⟩,
  ⟨some 79, none, .indexStr (.tmp 77) (.tmp 78)⟩,
  ⟨some 80, none, .bin .neq (.tmp 79) (.const (.int .u8 45))⟩])
 (.cond (.tmp 80) k77_4 .skip))
def k77_6 : ACode := (.seq (.seq (.region [⟨some 69, none, .mov (.tmp 5)⟩,
  ⟨some 70, none, .fieldAddr 1 (.tmp 3)⟩,
  ⟨some 71, none, .load 1 false (.tmp 70)⟩,
  ⟨some 72, none, .lenStr (.tmp 71)⟩,
  ⟨some 73, none, .bin .lss (.tmp 69) (.tmp 72)⟩])
 (.cond (.tmp 73) .skip (.exit 1)))
 (.seq (.block 2 k77_5)
 (.region [⟨some 74, none, .mov (.tmp 5)⟩,
  ⟨some 75, none, .bin .add (.tmp 74) (.const (.int .i64 1))⟩,
  ⟨some 5, none, .mov (.tmp 75)⟩])))
def k77_7 : ACode := (.seq (.region [⟨some 92, none, .mov (.tmp 0)⟩,
  ⟨some 93, none, .call (.const (.func (.func 61) [] [])) [(.tmp 92), (.const (.int .i64 4))]⟩])
 (.seq (.region [⟨some 94, none, .build [(.int .i64 0), (.str []), (.int .i64 0)] []⟩,
  ⟨none, none, .store 3 (.tmp 2) (.tmp 94)⟩])
 .ret))
def k77 : AFun := ⟨103, [.cell 2 3 true], (.seq (.region [⟨some 2, none, .alloc [(.int .i64 0), (.str []), (.int .i64 0)]⟩])
 (.seq (.seq (.drawn [⟨⟨some 6, none, .mov (.tmp 0)⟩, false, [], []⟩,
  ⟨⟨some 7, none, .nilCheck (.tmp 6)⟩, false, [0], []⟩,
  ⟨⟨some 8, none, .fieldAddr 2 (.tmp 7)⟩, false, [0, 1], []⟩,
  ⟨⟨some 9, none, .load 1 false (.tmp 8)⟩, false, [1, 0, 2], []⟩,
  ⟨⟨some 10, none, .bin .neq (.tmp 9) (.const (.int .i64 0))⟩, false, [2, 0, 1, 3], []⟩,
  ⟨⟨some 11, none, .mov (.tmp 10)⟩, false, [3, 1, 0, 2, 4], []⟩,
  ⟨⟨some 12, (some (11, false)), .mov (.tmp 0)⟩, false, [4, 2, 0, 1, 3, 5], [16, 17, 18, 19, 20]⟩,
  ⟨⟨some 13, (some (11, false)), .nilCheck (.tmp 12)⟩, false, [6, 4, 2, 0, 1, 3, 5], [16, 17, 18, 19, 20]⟩,
  ⟨⟨some 14, (some (11, false)), .fieldAddr 1 (.tmp 13)⟩, false, [6, 7, 4, 2, 0, 1, 3, 5], [16, 17, 18, 19, 20]⟩,
  ⟨⟨some 15, (some (11, false)), .load 1 false (.tmp 14)⟩, false, [7, 6, 8, 4, 2, 0, 1, 3, 5], [16, 17, 18, 19, 20]⟩,
  ⟨⟨some 16, (some (11, false)), .mov (.tmp 0)⟩, false, [4, 2, 0, 1, 3, 5], [12, 13, 14, 15]⟩,
  ⟨⟨some 17, (some (11, false)), .nilCheck (.tmp 16)⟩, false, [10, 4, 2, 0, 1, 3, 5], [12, 13, 14, 15]⟩,
  ⟨⟨some 18, (some (11, false)), .fieldAddr 0 (.tmp 17)⟩, false, [10, 11, 4, 2, 0, 1, 3, 5], [12, 13, 14, 15]⟩,
  ⟨⟨some 19, (some (11, false)), .load 1 false (.tmp 18)⟩, false, [11, 10, 12, 4, 2, 0, 1, 3, 5], [12, 13, 14, 15]⟩,
  ⟨⟨some 20, (some (11, false)), .lenSl (.tmp 19)⟩, false, [12, 10, 11, 13, 4, 2, 0, 1, 3, 5], [12, 13, 14, 15]⟩,
  ⟨⟨some 21, (some (11, false)), .bin .geq (.tmp 15) (.tmp 20)⟩, false, [8, 6, 7, 9, 13, 11, 10, 12, 14, 4, 2, 0, 1, 3, 5], []⟩,
  ⟨⟨some 22, none, .pick (.tmp 11) (.const (.bool true)) (.tmp 21)⟩, false, [5, 3, 1, 0, 2, 4, 14, 12, 10, 11, 13, 9, 7, 6, 8, 15], []⟩,
  ⟨⟨some 23, none, .mov (.tmp 22)⟩, false, [15, 8, 6, 7, 9, 13, 11, 10, 12, 14, 16, 4, 2, 0, 1, 3, 5], []⟩,
  ⟨⟨some 24, (some (23, false)), .mov (.tmp 0)⟩, false, [5, 3, 1, 0, 2, 4, 16, 14, 12, 10, 11, 13, 9, 7, 6, 8, 15, 17], [28, 29, 30, 31]⟩,
  ⟨⟨some 25, (some (23, false)), .nilCheck (.tmp 24)⟩, false, [18, 5, 3, 1, 0, 2, 4, 16, 14, 12, 10, 11, 13, 9, 7, 6, 8, 15, 17], [28, 29, 30, 31]⟩,
  ⟨⟨some 26, (some (23, false)), .fieldAddr 0 (.tmp 25)⟩, false, [18, 19, 5, 3, 1, 0, 2, 4, 16, 14, 12, 10, 11, 13, 9, 7, 6, 8, 15, 17], [28, 29, 30, 31]⟩,
  ⟨⟨some 27, (some (23, false)), .load 1 false (.tmp 26)⟩, false, [19, 18, 20, 5, 3, 1, 0, 2, 4, 16, 14, 12, 10, 11, 13, 9, 7, 6, 8, 15, 17], [28, 29, 30, 31]⟩,
  ⟨⟨some 28, (some (23, false)), .mov (.tmp 0)⟩, false, [5, 3, 1, 0, 2, 4, 16, 14, 12, 10, 11, 13, 9, 7, 6, 8, 15, 17], [24, 25, 26, 27]⟩,
  ⟨⟨some 29, (some (23, false)), .nilCheck (.tmp 28)⟩, false, [22, 5, 3, 1, 0, 2, 4, 16, 14, 12, 10, 11, 13, 9, 7, 6, 8, 15, 17], [24, 25, 26, 27]⟩,
  ⟨⟨some 30, (some (23, false)), .fieldAddr 1 (.tmp 29)⟩, false, [22, 23, 5, 3, 1, 0, 2, 4, 16, 14, 12, 10, 11, 13, 9, 7, 6, 8, 15, 17], [24, 25, 26, 27]⟩,
  ⟨⟨some 31, (some (23, false)), .load 1 false (.tmp 30)⟩, false, [23, 22, 24, 5, 3, 1, 0, 2, 4, 16, 14, 12, 10, 11, 13, 9, 7, 6, 8, 15, 17], [24, 25, 26, 27]⟩,
  ⟨⟨some 32, (some (23, false)), .indexAddr 3 (.tmp 27) (.tmp 31)⟩, false, [20, 18, 19, 21, 24, 22, 23, 25, 5, 3, 1, 0, 2, 4, 16, 14, 12, 10, 11, 13, 9, 7, 6, 8, 15, 17], []⟩,
  ⟨⟨some 33, (some (23, false)), .fieldAddr 0 (.tmp 32)⟩, false, [25, 23, 22, 24, 21, 19, 18, 20, 26, 5, 3, 1, 0, 2, 4, 16, 14, 12, 10, 11, 13, 9, 7, 6, 8, 15, 17], []⟩,
  ⟨⟨some 34, (some (23, false)), .load 1 false (.tmp 33)⟩, false, [26, 20, 18, 19, 21, 24, 22, 23, 25, 27, 5, 3, 1, 0, 2, 4, 16, 14, 12, 10, 11, 13, 9, 7, 6, 8, 15, 17], []⟩,
  ⟨⟨some 35, (some (23, false)), .bin .eql (.tmp 34) (.const (.int .i64 4))⟩, false, [27, 25, 23, 22, 24, 21, 19, 18, 20, 26, 28, 5, 3, 1, 0, 2, 4, 16, 14, 12, 10, 11, 13, 9, 7, 6, 8, 15, 17], []⟩,
  ⟨⟨some 36, none, .pick (.tmp 23) (.const (.bool true)) (.tmp 35)⟩, false, [17, 15, 8, 6, 7, 9, 13, 11, 10, 12, 14, 16, 4, 2, 0, 1, 3, 5, 28, 26, 20, 18, 19, 21, 24, 22, 23, 25, 27, 29], []⟩])
 (.cond (.tmp 36) k77_0 .skip))
 (.seq (.drawn [⟨⟨some 40, none, .mov (.tmp 0)⟩, false, [], [44, 45, 46, 47, 3]⟩,
  ⟨⟨some 41, none, .nilCheck (.tmp 40)⟩, false, [0], [44, 45, 46, 47, 3]⟩,
  ⟨⟨some 42, none, .fieldAddr 0 (.tmp 41)⟩, false, [0, 1], [44, 45, 46, 47, 3]⟩,
  ⟨⟨some 43, none, .load 1 false (.tmp 42)⟩, false, [1, 0, 2], [44, 45, 46, 47, 3]⟩,
  ⟨⟨some 44, none, .mov (.tmp 0)⟩, false, [], [40, 41, 42, 43, 3]⟩,
  ⟨⟨some 45, none, .nilCheck (.tmp 44)⟩, false, [4], [40, 41, 42, 43, 3]⟩,
  ⟨⟨some 46, none, .fieldAddr 1 (.tmp 45)⟩, false, [4, 5], [40, 41, 42, 43, 3]⟩,
  ⟨⟨some 47, none, .load 1 false (.tmp 46)⟩, false, [5, 4, 6], [40, 41, 42, 43, 3]⟩,
  ⟨⟨some 48, none, .indexAddr 3 (.tmp 43) (.tmp 47)⟩, false, [2, 0, 1, 3, 6, 4, 5, 7], [3]⟩,
  ⟨⟨some 49, none, .load 3 true (.tmp 48)⟩, false, [7, 5, 4, 6, 3, 1, 0, 2, 8], [3]⟩,
  ⟨⟨some 3, none, .alloc [(.int .i64 0), (.str []), (.int .i64 0)]⟩, true, [], [40, 41, 42, 43, 44, 45, 46, 47, 48, 49]⟩,
  ⟨⟨none, none, .store 3 (.tmp 3) (.tmp 49)⟩, true, [8, 2, 0, 1, 3, 6, 4, 5, 7, 9, 10], []⟩])
 (.seq (.region [⟨some 50, none, .mov (.tmp 0)⟩,
  ⟨some 51, none, .nilCheck (.tmp 50)⟩,
  ⟨some 52, none, .fieldAddr 1 (.tmp 51)⟩,
  ⟨some 53, none, .load 1 false (.tmp 52)⟩,
  ⟨some 54, none, .bin .add (.tmp 53) (.const (.int .i64 1))⟩,
  ⟨some 55, none, .nilCheck (.tmp 50)⟩,
  ⟨some 56, none, .fieldAddr 1 (.tmp 55)⟩,
  ⟨none, none, .store 1 (.tmp 56) (.tmp 54)⟩])
 (.seq (.seq (.region [⟨some 57, none, .fieldAddr 0 (.tmp 3)⟩,
  ⟨some 58, none, .load 1 false (.tmp 57)⟩])
 (.block 0 k77_3))
 (.seq (.region [⟨some 4, none, .mov (.const (.int .i64 0))⟩])
 (.seq (.seq (.region [⟨some 5, none, .mov (.const (.int .i64 0))⟩])
 (.block 1 (.loop k77_6)))
 (.seq (.seq (.region [⟨some 90, none, .mov (.tmp 4)⟩,
  ⟨some 91, none, .bin .gtr (.tmp 90) (.const (.int .i64 2147483648))⟩])
 (.cond (.tmp 91) k77_7 .skip))
 (.seq (.seq (.region [⟨some 95, none, .fieldAddr 1 (.tmp 3)⟩,
  ⟨some 96, none, .load 1 false (.tmp 95)⟩,
  ⟨some 97, none, .indexStr (.tmp 96) (.const (.int .i64 0))⟩,
  ⟨some 98, none, .bin .eql (.tmp 97) (.const (.int .u8 45))⟩])
 (.cond (.tmp 98) (.region [⟨some 99, none, .mov (.tmp 4)⟩,
  ⟨some 100, none, .un .neg (.tmp 99)⟩,
  ⟨some 4, none, .mov (.tmp 100)⟩]) .skip))
 (.seq (.region [⟨some 101, none, .mov (.tmp 4)⟩,
  ⟨some 102, none, .build [(.int .i64 0), (.str []), (.int .i64 0)] [(0, 1, (.const (.int .i64 3))), (2, 1, (.tmp 101))]⟩,
  ⟨none, none, .store 3 (.tmp 2) (.tmp 102)⟩])
 .ret))))))))))⟩
theorem c77 : (XTab.of Try.prog).code 77 = some k77 := by kernel_rfl

/-! delphi/delphiref8.compare -/
def k78_0 : ACode := (.seq (.region [⟨some 9, none, .bin .eql (.tmp 3) (.const (.str [60]))⟩,
  ⟨some 8, none, .mov (.tmp 9)⟩])
 (.cond (.tmp 8) (.seq (.region [⟨some 2, none, .mov (.const (.int .i64 5))⟩])
 .ret) (.seq (.region [⟨some 11, none, .bin .eql (.tmp 3) (.const (.str [60, 61]))⟩,
  ⟨some 10, none, .mov (.tmp 11)⟩])
 (.cond (.tmp 10) (.seq (.region [⟨some 2, none, .mov (.const (.int .i64 6))⟩])
 .ret) .skip))))
def k78_1 : ACode := (.seq (.region [⟨some 5, none, .bin .eql (.tmp 3) (.const (.str [61]))⟩,
  ⟨some 4, none, .mov (.tmp 5)⟩])
 (.cond (.tmp 4) (.seq (.region [⟨some 2, none, .mov (.const (.int .i64 3))⟩])
 .ret) (.seq (.region [⟨some 7, none, .bin .eql (.tmp 3) (.const (.str [33, 61]))⟩,
  ⟨some 6, none, .mov (.tmp 7)⟩])
 (.cond (.tmp 6) (.seq (.region [⟨some 2, none, .mov (.const (.int .i64 4))⟩])
 .ret) k78_0))))
def k78 : AFun := ⟨12, [.tmp 2], (.seq (.region [⟨some 2, none, .mov (.const (.int .i64 0))⟩])
 (.seq (.seq (.region [⟨some 3, none, .mov (.tmp 0)⟩])
 (.block 0 k78_1))
 (.seq (.region [⟨some 2, none, .mov (.const (.int .i64 0))⟩])
 .ret)))⟩
theorem c78 : (XTab.of Try.prog).code 78 = some k78 := by kernel_rfl

/-! strings.IndexByte -/

def k79 : AFun := ⟨8, [.tmp 4], (.seq (.region [⟨some 4, none, .mov (.const (.int .i64 0))⟩])
 (.seq (.region [⟨some 5, none, .mov (.tmp 0)⟩,
  ⟨some 6, none, .mov (.tmp 1)⟩,
  ⟨some 7, none, .call (.const (.func (.func 92) [] [])) [(.tmp 5), (.tmp 6)]⟩,
  ⟨some 4, none, .mov (.tmp 7)⟩])
 .ret))⟩
theorem c79 : (XTab.of Try.prog).code 79 = some k79 := by kernel_rfl

/-! delphi/lex.small -/

def k80 : AFun := ⟨9, [.tmp 2], (.seq (.region [⟨some 2, none, .mov (.const (.bool false))⟩])
 (.seq (.region [⟨some 3, none, .mov (.tmp 0)⟩,
  ⟨some 4, none, .bin .geq (.tmp 3) (.const (.int .u8 97))⟩,
  ⟨some 5, none, .mov (.tmp 4)⟩,
  ⟨some 6, (some (5, true)), .mov (.tmp 0)⟩,
  ⟨some 7, (some (5, true)), .bin .leq (.tmp 6) (.const (.int .u8 122))⟩,
  ⟨some 8, none, .pick (.tmp 5) (.tmp 7) (.const (.bool false))⟩,
  ⟨some 2, none, .mov (.tmp 8)⟩])
 .ret))⟩
theorem c80 : (XTab.of Try.prog).code 80 = some k80 := by kernel_rfl

/-! delphi/lex.run -/
def k81_0 : ACode := (.seq (.seq (.region [⟨some 6, none, .mov (.tmp 5)⟩,
  ⟨some 7, none, .mov (.tmp 0)⟩,
  ⟨some 8, none, .lenStr (.tmp 7)⟩,
  ⟨some 9, none, .bin .lss (.tmp 6) (.tmp 8)⟩,
  ⟨some 10, none, .mov (.tmp 9)⟩,
  ⟨some 11, (some (10, true)), .mov (.tmp 1)⟩,
  ⟨some 12, (some (10, true)), .mov (.tmp 0)⟩,
  ⟨some 13, (some (10, true)), .mov (.tmp 5)⟩,
  ⟨some 14, (some (10, true)), .indexStr (.tmp 12) (.tmp 13)⟩,
  ⟨some 15, (some (10, true)), .call (.tmp 11) [(.tmp 14)]⟩,
  ⟨some 16, none, .pick (.tmp 10) (.tmp 15) (.const (.bool false))⟩])
 (.cond (.tmp 16) .skip (.exit 0)))
 (.block 1 (.region [⟨some 17, none, .mov (.tmp 5)⟩,
  ⟨some 18, none, .bin .add (.tmp 17) (.const (.int .i64 1))⟩,
  ⟨some 5, none, .mov (.tmp 18)⟩])))
def k81 : AFun := ⟨20, [.tmp 4], (.seq (.region [⟨some 4, none, .mov (.const (.int .i64 0))⟩])
 (.seq (.region [⟨some 5, none, .mov (.const (.int .i64 0))⟩])
 (.seq (.block 0 (.loop k81_0))
 (.seq (.region [⟨some 19, none, .mov (.tmp 5)⟩,
  ⟨some 4, none, .mov (.tmp 19)⟩])
 .ret))))⟩
theorem c81 : (XTab.of Try.prog).code 81 = some k81 := by kernel_rfl

/-! delphi/lex.named -/

def k82 : AFun := ⟨13, [.tmp 2], (.seq (.region [⟨some 2, none, .mov (.const (.bool false))⟩])
 (.seq (.region [⟨some 3, none, .mov (.tmp 0)⟩,
  ⟨some 4, none, .call (.const (.func (.func 80) [] [])) [(.tmp 3)]⟩,
  ⟨some 5, none, .mov (.tmp 4)⟩,
  ⟨some 6, (some (5, false)), .mov (.tmp 0)⟩,
  ⟨some 7, (some (5, false)), .call (.const (.func (.func 85) [] [])) [(.tmp 6)]⟩,
  ⟨some 8, none, .pick (.tmp 5) (.const (.bool true)) (.tmp 7)⟩,
  ⟨some 9, none, .mov (.tmp 8)⟩,
  ⟨some 10, (some (9, false)), .mov (.tmp 0)⟩,
  ⟨some 11, (some (9, false)), .bin .eql (.tmp 10) (.const (.int .u8 95))⟩,
  ⟨some 12, none, .pick (.tmp 9) (.const (.bool true)) (.tmp 11)⟩,
  ⟨some 2, none, .mov (.tmp 12)⟩])
 .ret))⟩
theorem c82 : (XTab.of Try.prog).code 82 = some k82 := by kernel_rfl

/-! delphi/lex.great -/

def k83 : AFun := ⟨9, [.tmp 2], (.seq (.region [⟨some 2, none, .mov (.const (.bool false))⟩])
 (.seq (.region [⟨some 3, none, .mov (.tmp 0)⟩,
  ⟨some 4, none, .bin .geq (.tmp 3) (.const (.int .u8 65))⟩,
  ⟨some 5, none, .mov (.tmp 4)⟩,
  ⟨some 6, (some (5, true)), .mov (.tmp 0)⟩,
  ⟨some 7, (some (5, true)), .bin .leq (.tmp 6) (.const (.int .u8 90))⟩,
  ⟨some 8, none, .pick (.tmp 5) (.tmp 7) (.const (.bool false))⟩,
  ⟨some 2, none, .mov (.tmp 8)⟩])
 .ret))⟩
theorem c83 : (XTab.of Try.prog).code 83 = some k83 := by kernel_rfl

/-! delphi/lex.word$1 -/

def k84 : AFun := ⟨9, [.tmp 2], (.seq (.region [⟨some 2, none, .mov (.const (.bool false))⟩])
 (.seq (.region [⟨some 3, none, .mov (.tmp 0)⟩,
  ⟨some 4, none, .call (.const (.func (.func 82) [] [])) [(.tmp 3)]⟩,
  ⟨some 5, none, .mov (.tmp 4)⟩,
  ⟨some 6, (some (5, false)), .mov (.tmp 0)⟩,
  ⟨some 7, (some (5, false)), .call (.const (.func (.func 83) [] [])) [(.tmp 6)]⟩,
  ⟨some 8, none, .pick (.tmp 5) (.const (.bool true)) (.tmp 7)⟩,
  ⟨some 2, none, .mov (.tmp 8)⟩])
 .ret))⟩
theorem c84 : (XTab.of Try.prog).code 84 = some k84 := by kernel_rfl

/-! delphi/lex.digit -/

def k85 : AFun := ⟨9, [.tmp 2], (.seq (.region [⟨some 2, none, .mov (.const (.bool false))⟩])
 (.seq (.region [⟨some 3, none, .mov (.tmp 0)⟩,
  ⟨some 4, none, .bin .geq (.tmp 3) (.const (.int .u8 48))⟩,
  ⟨some 5, none, .mov (.tmp 4)⟩,
  ⟨some 6, (some (5, true)), .mov (.tmp 0)⟩,
  ⟨some 7, (some (5, true)), .bin .leq (.tmp 6) (.const (.int .u8 57))⟩,
  ⟨some 8, none, .pick (.tmp 5) (.tmp 7) (.const (.bool false))⟩,
  ⟨some 2, none, .mov (.tmp 8)⟩])
 .ret))⟩
theorem c85 : (XTab.of Try.prog).code 85 = some k85 := by kernel_rfl

/-! delphi/lex.number -/
def k86_0 : ACode := (.region [⟨some 18, none, .mov (.tmp 3)⟩,
  ⟨some 19, none, .bin .eql (.tmp 18) (.const (.int .i64 1))⟩,
  ⟨some 20, none, .mov (.tmp 19)⟩,
  ⟨some 21, (some (20, true)), .mov (.tmp 0)⟩,
  ⟨some 22, (some (20, true)), .indexStr (.tmp 21) (.const (.int .i64 1))⟩,
  ⟨some 23, (some (20, true)), .bin .eql (.tmp 22) (.const (.int .u8 48))⟩,
  ⟨some 24, none, .pick (.tmp 20) (.tmp 23) (.const (.bool false))⟩,
  ⟨some 15, none, .mov (.tmp 24)⟩])
def k86_1 : ACode := (.seq (.region [⟨some 26, none, .mov (.tmp 0)⟩,
  ⟨some 27, none, .mov (.tmp 3)⟩,
  ⟨some 28, none, .indexStr (.tmp 26) (.tmp 27)⟩,
  ⟨some 29, none, .bin .eql (.tmp 28) (.const (.int .u8 48))⟩,
  ⟨some 25, none, .mov (.tmp 29)⟩])
 (.cond (.tmp 25) (.seq (.region [⟨some 2, none, .mov (.const (.int .i64 1))⟩])
 .ret) (.seq (.region [⟨some 12, none, .mov (.tmp 3)⟩,
  ⟨some 13, none, .mov (.tmp 4)⟩,
  ⟨some 14, none, .bin .add (.tmp 12) (.tmp 13)⟩,
  ⟨some 2, none, .mov (.tmp 14)⟩])
 .ret)))
def k86_2 : ACode := (.seq (.seq (.region [⟨some 16, none, .mov (.tmp 4)⟩,
  ⟨some 17, none, .bin .eql (.tmp 16) (.const (.int .i64 0))⟩,
  ⟨some 15, none, .mov (.tmp 17)⟩])
 (.cond (.tmp 15) .skip k86_0))
 (.cond (.tmp 15) (.seq (.region [⟨some 2, none, .mov (.const (.int .i64 0))⟩])
 .ret) k86_1))
def k86 : AFun := ⟨30, [.tmp 2], (.seq (.region [⟨some 2, none, .mov (.const (.int .i64 0))⟩])
 (.seq (.region [⟨some 3, none, .mov (.const (.int .i64 0))⟩])
 (.seq (.seq (.region [⟨some 5, none, .mov (.tmp 0)⟩,
  ⟨some 6, none, .indexStr (.tmp 5) (.const (.int .i64 0))⟩,
  ⟨some 7, none, .bin .eql (.tmp 6) (.const (.int .u8 45))⟩])
 (.cond (.tmp 7) (.region [⟨some 3, none, .mov (.const (.int .i64 1))⟩]) .skip))
 (.seq (.region [⟨some 8, none, .mov (.tmp 0)⟩,
  ⟨some 9, none, .mov (.tmp 3)⟩,
  ⟨some 10, none, .sliceStr (.tmp 8) (some (.tmp 9)) none⟩,
  ⟨some 11, none, .call (.const (.func (.func 81) [] [])) [(.tmp 10), (.const (.func (.func 85) [] []))]⟩,
  ⟨some 4, none, .mov (.tmp 11)⟩])
 (.block 0 k86_2)))))⟩
theorem c86 : (XTab.of Try.prog).code 86 = some k86 := by kernel_rfl

/-! strings.HasPrefix -/

def k87 : AFun := ⟨8, [.tmp 4], (.seq (.region [⟨some 4, none, .mov (.const (.bool false))⟩])
 (.seq (.region [⟨some 5, none, .mov (.tmp 0)⟩,
  ⟨some 6, none, .mov (.tmp 1)⟩,
  ⟨some 7, none, .call (.const (.func (.func 93) [] [])) [(.tmp 5), (.tmp 6)]⟩,
  ⟨some 4, none, .mov (.tmp 7)⟩])
 .ret))⟩
theorem c87 : (XTab.of Try.prog).code 87 = some k87 := by kernel_rfl

/-! container/heap.up -/
def k88_0 : ACode := (.seq (.region [⟨some 5, none, .mov (.tmp 1)⟩,
  ⟨some 6, none, .bin .sub (.tmp 5) (.const (.int .i64 1))⟩,
  ⟨some 7, none, .bin .quo (.tmp 6) (.const (.int .i64 2))⟩,
  ⟨some 4, none, .mov (.tmp 7)⟩])
 (.seq (.seq (.region [⟨some 8, none, .mov (.tmp 4)⟩,
  ⟨some 9, none, .mov (.tmp 1)⟩,
  ⟨some 10, none, .bin .eql (.tmp 8) (.tmp 9)⟩,
  ⟨some 11, none, .mov (.tmp 10)⟩,
  ⟨some 12, (some (11, false)), .mov (.tmp 0)⟩,
  ⟨some 13, (some (11, false)), .mov (.tmp 1)⟩,
  ⟨some 14, (some (11, false)), .mov (.tmp 4)⟩,
  ⟨some 15, (some (11, false)), .stuck⟩,
  ⟨some 16, (some (11, false)), .un .not (.tmp 15)⟩,
  ⟨some 17, none, .pick (.tmp 11) (.const (.bool true)) (.tmp 16)⟩])
 (.cond (.tmp 17) (.exit 0) .skip))
 (.seq (.region [⟨some 18, none, .mov (.tmp 0)⟩,
  ⟨some 19, none, .mov (.tmp 4)⟩,
  ⟨some 20, none, .mov (.tmp 1)⟩,
  ⟨some 21, none, .stuck⟩])
 (.region [⟨some 22, none, .mov (.tmp 4)⟩,
  ⟨some 1, none, .mov (.tmp 22)⟩]))))
def k88_1 : ACode := (.block 1 k88_0)
def k88 : AFun := ⟨23, [], (.block 0 (.loop k88_1))⟩
theorem c88 : (XTab.of Try.prog).code 88 = some k88 := by kernel_rfl

/-! container/heap.down -/
def k89_0 : ACode := (.seq (.region [⟨some 12, none, .mov (.tmp 7)⟩,
  ⟨some 13, none, .bin .mul (.const (.int .i64 2)) (.tmp 12)⟩,
  ⟨some 14, none, .bin .add (.tmp 13) (.const (.int .i64 1))⟩,
  ⟨some 8, none, .mov (.tmp 14)⟩])
 (.seq (.seq (.region [⟨some 15, none, .mov (.tmp 8)⟩,
  ⟨some 16, none, .mov (.tmp 2)⟩,
  ⟨some 17, none, .bin .geq (.tmp 15) (.tmp 16)⟩,
  ⟨some 18, none, .mov (.tmp 17)⟩,
  ⟨some 19, (some (18, false)), .mov (.tmp 8)⟩,
  ⟨some 20, (some (18, false)), .bin .lss (.tmp 19) (.const (.int .i64 0))⟩,
  ⟨some 21, none, .pick (.tmp 18) (.const (.bool true)) (.tmp 20)⟩])
 (.cond (.tmp 21) (.exit 0) .skip))
 (.seq (.region [⟨some 22, none, .mov (.tmp 8)⟩,
  ⟨some 9, none, .mov (.tmp 22)⟩])
 (.seq (.seq (.region [⟨some 23, none, .mov (.tmp 8)⟩,
  ⟨some 24, none, .bin .add (.tmp 23) (.const (.int .i64 1))⟩,
  ⟨some 10, none, .mov (.tmp 24)⟩])
 (.seq (.region [⟨some 25, none, .mov (.tmp 10)⟩,
  ⟨some 26, none, .mov (.tmp 2)⟩,
  ⟨some 27, none, .bin .lss (.tmp 25) (.tmp 26)⟩,
  ⟨some 28, none, .mov (.tmp 27)⟩,
  ⟨some 29, (some (28, true)), .mov (.tmp 0)⟩,
  ⟨some 30, (some (28, true)), .mov (.tmp 10)⟩,
  ⟨some 31, (some (28, true)), .mov (.tmp 8)⟩,
  ⟨some 32, (some (28, true)), .stuck⟩,
  ⟨some 33, none, .pick (.tmp 28) (.tmp 32) (.const (.bool false))⟩])
 (.cond (.tmp 33) (.region [⟨some 34, none, .mov (.tmp 10)⟩,
  ⟨some 9, none, .mov (.tmp 34)⟩]) .skip)))
 (.seq (.seq (.region [⟨some 35, none, .mov (.tmp 0)⟩,
  ⟨some 36, none, .mov (.tmp 9)⟩,
  ⟨some 37, none, .mov (.tmp 7)⟩,
  ⟨some 38, none, .stuck⟩,
  ⟨some 39, none, .un .not (.tmp 38)⟩])
 (.cond (.tmp 39) (.exit 0) .skip))
 (.seq (.region [⟨some 40, none, .mov (.tmp 0)⟩,
  ⟨some 41, none, .mov (.tmp 7)⟩,
  ⟨some 42, none, .mov (.tmp 9)⟩,
  ⟨some 43, none, .stuck⟩])
 (.region [⟨some 44, none, .mov (.tmp 9)⟩,
  ⟨some 7, none, .mov (.tmp 44)⟩])))))))
def k89_1 : ACode := (.block 1 k89_0)
def k89 : AFun := ⟨48, [.tmp 6], (.seq (.region [⟨some 6, none, .mov (.const (.bool false))⟩])
 (.seq (.region [⟨some 11, none, .mov (.tmp 1)⟩,
  ⟨some 7, none, .mov (.tmp 11)⟩])
 (.seq (.block 0 (.loop k89_1))
 (.seq (.region [⟨some 45, none, .mov (.tmp 7)⟩,
  ⟨some 46, none, .mov (.tmp 1)⟩,
  ⟨some 47, none, .bin .gtr (.tmp 45) (.tmp 46)⟩,
  ⟨some 6, none, .mov (.tmp 47)⟩])
 .ret))))⟩
theorem c89 : (XTab.of Try.prog).code 89 = some k89 := by kernel_rfl

/-! cmp.Compare[int] -/

def k90 : AFun := ⟨20, [.tmp 4], (.seq (.region [⟨some 4, none, .mov (.const (.int .i64 0))⟩])
 (.seq (.region [⟨some 7, none, .mov (.tmp 0)⟩,
  ⟨some 8, none, .call (.const (.func (.func 94) [] [])) [(.tmp 7)]⟩,
  ⟨some 5, none, .mov (.tmp 8)⟩])
 (.seq (.region [⟨some 9, none, .mov (.tmp 1)⟩,
  ⟨some 10, none, .call (.const (.func (.func 94) [] [])) [(.tmp 9)]⟩,
  ⟨some 6, none, .mov (.tmp 10)⟩])
 (.seq (.seq (.region [⟨some 11, none, .mov (.tmp 5)⟩])
 (.cond (.tmp 11) (.seq (.seq (.region [⟨some 12, none, .mov (.tmp 6)⟩])
 (.cond (.tmp 12) (.seq (.region [⟨some 4, none, .mov (.const (.int .i64 0))⟩])
 .ret) .skip))
 (.seq (.region [⟨some 4, none, .mov (.const (.int .i64 (-1)))⟩])
 .ret)) .skip))
 (.seq (.seq (.region [⟨some 13, none, .mov (.tmp 6)⟩])
 (.cond (.tmp 13) (.seq (.region [⟨some 4, none, .mov (.const (.int .i64 1))⟩])
 .ret) .skip))
 (.seq (.seq (.region [⟨some 14, none, .mov (.tmp 0)⟩,
  ⟨some 15, none, .mov (.tmp 1)⟩,
  ⟨some 16, none, .bin .lss (.tmp 14) (.tmp 15)⟩])
 (.cond (.tmp 16) (.seq (.region [⟨some 4, none, .mov (.const (.int .i64 (-1)))⟩])
 .ret) .skip))
 (.seq (.seq (.region [⟨some 17, none, .mov (.tmp 0)⟩,
  ⟨some 18, none, .mov (.tmp 1)⟩,
  ⟨some 19, none, .bin .gtr (.tmp 17) (.tmp 18)⟩])
 (.cond (.tmp 19) (.seq (.region [⟨some 4, none, .mov (.const (.int .i64 1))⟩])
 .ret) .skip))
 (.seq (.region [⟨some 4, none, .mov (.const (.int .i64 0))⟩])
 .ret))))))))⟩
theorem c90 : (XTab.of Try.prog).code 90 = some k90 := by kernel_rfl

/-! slices.rotateLeft[delphi/relation.Row] -/

def k91 : AFun := ⟨14, [], (.seq (.region [⟨some 4, none, .mov (.tmp 0)⟩,
  ⟨some 5, none, .mov (.tmp 1)⟩,
  ⟨some 6, none, .slice 1 (.tmp 4) none (some (.tmp 5)) none⟩,
  ⟨some 7, none, .call (.const (.func (.func 95) [] [])) [(.tmp 6)]⟩])
 (.seq (.region [⟨some 8, none, .mov (.tmp 0)⟩,
  ⟨some 9, none, .mov (.tmp 1)⟩,
  ⟨some 10, none, .slice 1 (.tmp 8) (some (.tmp 9)) none none⟩,
  ⟨some 11, none, .call (.const (.func (.func 95) [] [])) [(.tmp 10)]⟩])
 (.region [⟨some 12, none, .mov (.tmp 0)⟩,
  ⟨some 13, none, .call (.const (.func (.func 95) [] [])) [(.tmp 12)]⟩])))⟩
theorem c91 : (XTab.of Try.prog).code 91 = some k91 := by kernel_rfl

/-! internal/stringslite.IndexByte -/

def k92 : AFun := ⟨8, [.tmp 4], (.seq (.region [⟨some 4, none, .mov (.const (.int .i64 0))⟩])
 (.seq (.region [⟨some 5, none, .mov (.tmp 0)⟩,
  ⟨some 6, none, .mov (.tmp 1)⟩,
  ⟨some 7, none, .call (.const (.func (.func 96) [] [])) [(.tmp 5), (.tmp 6)]⟩,
  ⟨some 4, none, .mov (.tmp 7)⟩])
 .ret))⟩
theorem c92 : (XTab.of Try.prog).code 92 = some k92 := by kernel_rfl

/-! internal/stringslite.HasPrefix -/

def k93 : AFun := ⟨18, [.tmp 4], (.seq (.region [⟨some 4, none, .mov (.const (.bool false))⟩])
 (.seq (.region [⟨some 5, none, .mov (.tmp 0)⟩,
  ⟨some 6, none, .lenStr (.tmp 5)⟩,
  ⟨some 7, none, .mov (.tmp 1)⟩,
  ⟨some 8, none, .lenStr (.tmp 7)⟩,
  ⟨some 9, none, .bin .geq (.tmp 6) (.tmp 8)⟩,
  ⟨some 10, none, .mov (.tmp 9)⟩,
  ⟨some 11, (some (10, true)), .mov (.tmp 0)⟩,
  ⟨some 12, (some (10, true)), .mov (.tmp 1)⟩,
  ⟨some 13, (some (10, true)), .lenStr (.tmp 12)⟩,
  ⟨some 14, (some (10, true)), .sliceStr (.tmp 11) none (some (.tmp 13))⟩,
  ⟨some 15, (some (10, true)), .mov (.tmp 1)⟩,
  ⟨some 16, (some (10, true)), .bin .eql (.tmp 14) (.tmp 15)⟩,
  ⟨some 17, none, .pick (.tmp 10) (.tmp 16) (.const (.bool false))⟩,
  ⟨some 4, none, .mov (.tmp 17)⟩])
 .ret))⟩
theorem c93 : (XTab.of Try.prog).code 93 = some k93 := by kernel_rfl

/-! cmp.isNaN[int] -/

def k94 : AFun := ⟨6, [.tmp 2], (.seq (.region [⟨some 2, none, .mov (.const (.bool false))⟩])
 (.seq (.region [⟨some 3, none, .mov (.tmp 0)⟩,
  ⟨some 4, none, .mov (.tmp 0)⟩,
  ⟨some 5, none, .bin .neq (.tmp 3) (.tmp 4)⟩,
  ⟨some 2, none, .mov (.tmp 5)⟩])
 .ret))⟩
theorem c94 : (XTab.of Try.prog).code 94 = some k94 := by kernel_rfl

/-! slices.Reverse[[]delphi/relation.Row,delphi/relation.Row] -/
def k95_0 : ACode := (.drawn [⟨⟨some 14, none, .mov (.tmp 0)⟩, false, [], [15, 16, 17, 18, 19, 20, 21, 22, 23, 24, 25]⟩,
  ⟨⟨some 15, none, .mov (.tmp 2)⟩, false, [], [14, 16, 17, 18, 19, 20, 21, 22, 23, 24, 25]⟩,
  ⟨⟨some 16, none, .mov (.tmp 0)⟩, false, [], [14, 15, 17, 18, 19, 20, 21, 22, 23, 24, 25, 26]⟩,
  ⟨⟨some 17, none, .mov (.tmp 3)⟩, false, [], [14, 15, 16, 18, 19, 20, 21, 22, 23, 24, 25, 26]⟩,
  ⟨⟨some 18, none, .mov (.tmp 0)⟩, false, [], [14, 15, 16, 17, 19, 22, 23, 24, 25]⟩,
  ⟨⟨some 19, none, .mov (.tmp 3)⟩, false, [], [14, 15, 16, 17, 18, 22, 23, 24, 25]⟩,
  ⟨⟨some 20, none, .indexAddr 1 (.tmp 18) (.tmp 19)⟩, false, [4, 5], [14, 15, 16, 17, 22, 23, 24, 25]⟩,
  ⟨⟨some 21, none, .load 1 false (.tmp 20)⟩, false, [5, 4, 6], [14, 15, 16, 17, 22, 23, 24, 25]⟩,
  ⟨⟨some 22, none, .mov (.tmp 0)⟩, false, [], [14, 15, 16, 17, 18, 19, 20, 21, 23]⟩,
  ⟨⟨some 23, none, .mov (.tmp 2)⟩, false, [], [14, 15, 16, 17, 18, 19, 20, 21, 22]⟩,
  ⟨⟨some 24, none, .indexAddr 1 (.tmp 22) (.tmp 23)⟩, false, [8, 9], [14, 15, 16, 17, 18, 19, 20, 21]⟩,
  ⟨⟨some 25, none, .load 1 false (.tmp 24)⟩, false, [9, 8, 10], [14, 15, 16, 17, 18, 19, 20, 21]⟩,
  ⟨⟨some 26, none, .indexAddr 1 (.tmp 14) (.tmp 15)⟩, false, [0, 1, 6, 4, 5, 7, 10, 8, 9, 11], [16, 17]⟩,
  ⟨⟨none, none, .store 1 (.tmp 26) (.tmp 21)⟩, true, [12, 0, 1, 6, 4, 5, 7, 10, 8, 9, 11], [16, 17]⟩,
  ⟨⟨some 27, none, .indexAddr 1 (.tmp 16) (.tmp 17)⟩, false, [2, 3, 11, 9, 8, 10, 7, 5, 4, 6, 1, 0, 12, 13], []⟩,
  ⟨⟨none, none, .store 1 (.tmp 27) (.tmp 25)⟩, true, [14, 2, 3, 11, 9, 8, 10, 7, 5, 4, 6, 1, 0, 12, 13], []⟩])
def k95_1 : ACode := (.seq (.seq (.region [⟨some 7, none, .mov (.tmp 2)⟩,
  ⟨some 8, none, .mov (.tmp 3)⟩,
  ⟨some 9, none, .bin .lss (.tmp 7) (.tmp 8)⟩])
 (.cond (.tmp 9) .skip (.exit 0)))
 (.seq (.block 1 k95_0)
 (.region [⟨some 10, none, .mov (.tmp 2)⟩,
  ⟨some 11, none, .bin .add (.tmp 10) (.const (.int .i64 1))⟩,
  ⟨some 12, none, .mov (.tmp 3)⟩,
  ⟨some 13, none, .bin .sub (.tmp 12) (.const (.int .i64 1))⟩,
  ⟨some 2, none, .mov (.tmp 11)⟩,
  ⟨some 3, none, .mov (.tmp 13)⟩])))
def k95 : AFun := ⟨28, [], (.seq (.region [⟨some 4, none, .mov (.tmp 0)⟩,
  ⟨some 5, none, .lenSl (.tmp 4)⟩,
  ⟨some 6, none, .bin .sub (.tmp 5) (.const (.int .i64 1))⟩,
  ⟨some 2, none, .mov (.const (.int .i64 0))⟩,
  ⟨some 3, none, .mov (.tmp 6)⟩])
 (.block 0 (.loop k95_1)))⟩
theorem c95 : (XTab.of Try.prog).code 95 = some k95 := by kernel_rfl

/-! (delphi/plan.queue).Len -/

def k113 : AFun := ⟨5, [.tmp 2], (.seq (.region [⟨some 2, none, .mov (.const (.int .i64 0))⟩])
 (.seq (.region [⟨some 3, none, .mov (.tmp 0)⟩,
  ⟨some 4, none, .lenSl (.tmp 3)⟩,
  ⟨some 2, none, .mov (.tmp 4)⟩])
 .ret))⟩
theorem c113 : (XTab.of Try.prog).code 113 = some k113 := by kernel_rfl

/-! (*delphi/plan.queue).Pop -/

def k115 : AFun := ⟨27, [.tmp 2], (.seq (.region [⟨some 2, none, .mov (.const .niliface)⟩])
 (.seq (.drawn [⟨⟨some 4, none, .mov (.tmp 0)⟩, false, [], [7, 8, 9, 10, 11, 3]⟩,
  ⟨⟨some 5, none, .nilCheck (.tmp 4)⟩, false, [0], [7, 8, 9, 10, 11, 3]⟩,
  ⟨⟨some 6, none, .load 1 false (.tmp 5)⟩, false, [0, 1], [7, 8, 9, 10, 11, 3]⟩,
  ⟨⟨some 7, none, .mov (.tmp 0)⟩, false, [], [4, 5, 6, 3]⟩,
  ⟨⟨some 8, none, .nilCheck (.tmp 7)⟩, false, [3], [4, 5, 6, 3]⟩,
  ⟨⟨some 9, none, .load 1 false (.tmp 8)⟩, false, [3, 4], [4, 5, 6, 3]⟩,
  ⟨⟨some 10, none, .lenSl (.tmp 9)⟩, false, [4, 3, 5], [4, 5, 6, 3]⟩,
  ⟨⟨some 11, none, .bin .sub (.tmp 10) (.const (.int .i64 1))⟩, false, [5, 3, 4, 6], [4, 5, 6, 3]⟩,
  ⟨⟨some 12, none, .indexAddr 3 (.tmp 6) (.tmp 11)⟩, false, [1, 0, 2, 6, 4, 3, 5, 7], [3]⟩,
  ⟨⟨some 13, none, .load 3 true (.tmp 12)⟩, false, [7, 5, 3, 4, 6, 2, 0, 1, 8], [3]⟩,
  ⟨⟨some 3, none, .alloc [(.int .i64 0), (.bool false), (.int .i64 0)]⟩, true, [], [4, 5, 6, 7, 8, 9, 10, 11, 12, 13]⟩,
  ⟨⟨none, none, .store 3 (.tmp 3) (.tmp 13)⟩, true, [8, 1, 0, 2, 6, 4, 3, 5, 7, 9, 10], []⟩])
 (.seq (.drawn [⟨⟨some 14, none, .mov (.tmp 0)⟩, false, [], [15, 16, 17, 18, 19, 20, 21, 22, 23]⟩,
  ⟨⟨some 15, none, .mov (.tmp 0)⟩, false, [], [14, 18, 19, 20, 21, 22]⟩,
  ⟨⟨some 16, none, .nilCheck (.tmp 15)⟩, false, [1], [14, 18, 19, 20, 21, 22]⟩,
  ⟨⟨some 17, none, .load 1 false (.tmp 16)⟩, false, [1, 2], [14, 18, 19, 20, 21, 22]⟩,
  ⟨⟨some 18, none, .mov (.tmp 0)⟩, false, [], [14, 15, 16, 17]⟩,
  ⟨⟨some 19, none, .nilCheck (.tmp 18)⟩, false, [4], [14, 15, 16, 17]⟩,
  ⟨⟨some 20, none, .load 1 false (.tmp 19)⟩, false, [4, 5], [14, 15, 16, 17]⟩,
  ⟨⟨some 21, none, .lenSl (.tmp 20)⟩, false, [5, 4, 6], [14, 15, 16, 17]⟩,
  ⟨⟨some 22, none, .bin .sub (.tmp 21) (.const (.int .i64 1))⟩, false, [6, 4, 5, 7], [14, 15, 16, 17]⟩,
  ⟨⟨some 23, none, .slice 3 (.tmp 17) none (some (.tmp 22)) none⟩, false, [2, 1, 3, 7, 5, 4, 6, 8], [14]⟩,
  ⟨⟨some 24, none, .nilCheck (.tmp 14)⟩, false, [0, 8, 6, 4, 5, 7, 3, 1, 2, 9], []⟩,
  ⟨⟨none, none, .store 1 (.tmp 24) (.tmp 23)⟩, true, [10, 0, 8, 6, 4, 5, 7, 3, 1, 2, 9], []⟩])
 (.seq (.region [⟨some 25, none, .load 3 true (.tmp 3)⟩,
  ⟨some 26, none, .mkIface 128 (.tmp 25)⟩,
  ⟨some 2, none, .mov (.tmp 26)⟩])
 .ret))))⟩
theorem c115 : (XTab.of Try.prog).code 115 = some k115 := by kernel_rfl

/-! (*delphi/plan.queue).Push -/
def k116_0 : ACode := (.drawn [⟨⟨some 12, none, .mov (.tmp 0)⟩, false, [], [13, 14, 15, 16, 17, 18]⟩,
  ⟨⟨some 13, none, .mov (.tmp 0)⟩, false, [], [12, 16, 17]⟩,
  ⟨⟨some 14, none, .nilCheck (.tmp 13)⟩, false, [1], [12, 16, 17]⟩,
  ⟨⟨some 15, none, .load 1 false (.tmp 14)⟩, false, [1, 2], [12, 16, 17]⟩,
  ⟨⟨some 16, none, .load 3 true (.tmp 4)⟩, false, [], [12, 13, 14, 15]⟩,
  ⟨⟨some 17, none, .buildSlice 1 [(.int .i64 0), (.bool false), (.int .i64 0)] [(0, 3, (.tmp 16))]⟩, true, [4], [12, 13, 14, 15]⟩,
  ⟨⟨some 18, none, .append 3 24 (.tmp 15) (.tmp 17)⟩, true, [2, 1, 3, 4, 5], [12]⟩,
  ⟨⟨some 19, none, .nilCheck (.tmp 12)⟩, false, [0, 5, 4, 3, 1, 2, 6], []⟩,
  ⟨⟨none, none, .store 1 (.tmp 19) (.tmp 18)⟩, true, [7, 0, 5, 4, 3, 1, 2, 6], []⟩])
def k116 : AFun := ⟨20, [], (.seq (.region [⟨some 7, none, .mov (.tmp 1)⟩,
  ⟨some 8, none, .typeAssert 128 (.agg [(.int .i64 0), (.bool false), (.int .i64 0)]) true (.tmp 7)⟩,
  ⟨some 6, none, .mov (.tmp 8)⟩,
  ⟨some 9, none, .extract 0 (.tmp 6)⟩,
  ⟨some 10, none, .extract 1 (.tmp 6)⟩,
  ⟨some 4, none, .alloc [(.int .i64 0), (.bool false), (.int .i64 0)]⟩,
  ⟨none, none, .store 3 (.tmp 4) (.tmp 9)⟩,
  ⟨some 5, none, .mov (.tmp 10)⟩])
 (.seq (.region [⟨some 11, none, .mov (.tmp 5)⟩])
 (.cond (.tmp 11) k116_0 .skip)))⟩
theorem c116 : (XTab.of Try.prog).code 116 = some k116 := by kernel_rfl

/-! (delphi/plan.queue).Swap -/

def k117 : AFun := ⟨20, [], (.drawn [⟨⟨some 6, none, .mov (.tmp 0)⟩, false, [], [7, 8, 9, 10, 11, 12, 13, 14, 15, 16, 17]⟩,
  ⟨⟨some 7, none, .mov (.tmp 1)⟩, false, [], [6, 8, 9, 10, 11, 12, 13, 14, 15, 16, 17]⟩,
  ⟨⟨some 8, none, .mov (.tmp 0)⟩, false, [], [6, 7, 9, 10, 11, 12, 13, 14, 15, 16, 17, 18]⟩,
  ⟨⟨some 9, none, .mov (.tmp 2)⟩, false, [], [6, 7, 8, 10, 11, 12, 13, 14, 15, 16, 17, 18]⟩,
  ⟨⟨some 10, none, .mov (.tmp 0)⟩, false, [], [6, 7, 8, 9, 11, 14, 15, 16, 17]⟩,
  ⟨⟨some 11, none, .mov (.tmp 2)⟩, false, [], [6, 7, 8, 9, 10, 14, 15, 16, 17]⟩,
  ⟨⟨some 12, none, .indexAddr 3 (.tmp 10) (.tmp 11)⟩, false, [4, 5], [6, 7, 8, 9, 14, 15, 16, 17]⟩,
  ⟨⟨some 13, none, .load 3 true (.tmp 12)⟩, false, [5, 4, 6], [6, 7, 8, 9, 14, 15, 16, 17]⟩,
  ⟨⟨some 14, none, .mov (.tmp 0)⟩, false, [], [6, 7, 8, 9, 10, 11, 12, 13, 15]⟩,
  ⟨⟨some 15, none, .mov (.tmp 1)⟩, false, [], [6, 7, 8, 9, 10, 11, 12, 13, 14]⟩,
  ⟨⟨some 16, none, .indexAddr 3 (.tmp 14) (.tmp 15)⟩, false, [8, 9], [6, 7, 8, 9, 10, 11, 12, 13]⟩,
  ⟨⟨some 17, none, .load 3 true (.tmp 16)⟩, false, [9, 8, 10], [6, 7, 8, 9, 10, 11, 12, 13]⟩,
  ⟨⟨some 18, none, .indexAddr 3 (.tmp 6) (.tmp 7)⟩, false, [0, 1, 6, 4, 5, 7, 10, 8, 9, 11], [8, 9]⟩,
  ⟨⟨none, none, .store 3 (.tmp 18) (.tmp 13)⟩, true, [12, 0, 1, 6, 4, 5, 7, 10, 8, 9, 11], [8, 9]⟩,
  ⟨⟨some 19, none, .indexAddr 3 (.tmp 8) (.tmp 9)⟩, false, [2, 3, 11, 9, 8, 10, 7, 5, 4, 6, 1, 0, 12, 13], []⟩,
  ⟨⟨none, none, .store 3 (.tmp 19) (.tmp 17)⟩, true, [14, 2, 3, 11, 9, 8, 10, 7, 5, 4, 6, 1, 0, 12, 13], []⟩])⟩
theorem c117 : (XTab.of Try.prog).code 117 = some k117 := by kernel_rfl

end Go.Proofs.Ytjidefnbancmfaa
